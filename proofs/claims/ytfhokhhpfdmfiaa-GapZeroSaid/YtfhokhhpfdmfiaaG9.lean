/- Tidy's test of two boxes: a region that draws its order, in four cases; printed by gen_g9.py. -/
import Derived.Test.YtfhokhhpfdmfiaaGH
namespace Go.Proofs.Ytfhokhhpfdmfiaa
open Go.RowKit
set_option linter.unusedVariables false

noncomputable def reg23_9 : Code := (Try.f23.body.bind (regAt 9)).getD .skip
noncomputable def ops23_9 : Array Oper := opsOf reg23_9
theorem reg23_9_is : reg23_9 = .region 9 ops23_9 true := by kernel_rfl

set_option maxHeartbeats 2000000 in
set_option maxRecDepth 100000 in
theorem reg9_same (b off n c j k : Nat) (gj : j < n) (gk : k < n) (X Y : Value) (w5 : World) (Q : Exit → Act → World → Prop)
    (bb : Bool) (hne : (!((k : Int) == (j : Int))) = false) (c1 c2 c3 c7 c8 c9 c10 c11 c12 c13 c14 c15 c16 c17 c18 c19 c20 c21 c22 c23 c24 c25 c26 c27 c28 c29 c30 c31 c32 c33 c34 c35 c36 c37 c38 c39 c40 c41 c42 c43 c44 c45 c46 c47 c48 c49 c50 c51 c52 c53 c54 c55 c56 c57 c58 c59 c60 c61 c62 c63 c64 c65 c66 c67 : Value)
    (hQ : ∀ (u25 u26 u27 u28 u29 u30 u31 u32 u33 u34 u35 u36 u37 u38 u39 u40 u41 u42 u43 u44 u45 u46 u47 u48 u49 u50 u51 u52 u53 u54 u55 u56 u57 : Value) (w6 : World), RowKit.Below w5.heap.size w5 w6 → Q .normal ⟨#[.slice (some ⟨b, off, none⟩) n c, c1, c2, c3, .int .i64 (j : Int), .bool bb, .int .i64 (k : Int), c7, c8, c9, c10, c11, c12, c13, c14, c15, c16, c17, c18, c19, c20, c21, c22, c23, c24, u25, u26, u27, u28, u29, u30, u31, u32, u33, u34, u35, u36, u37, u38, u39, u40, u41, u42, u43, u44, u45, u46, u47, u48, u49, u50, u51, u52, u53, u54, u55, u56, u57, .bool false, c59, c60, c61, c62, c63, c64, c65, c66, c67], []⟩ w6) : Code.wp Try.prog reg23_9 Q ⟨#[.slice (some ⟨b, off, none⟩) n c, c1, c2, c3, .int .i64 (j : Int), .bool bb, .int .i64 (k : Int), c7, c8, c9, c10, c11, c12, c13, c14, c15, c16, c17, c18, c19, c20, c21, c22, c23, c24, c25, c26, c27, c28, c29, c30, c31, c32, c33, c34, c35, c36, c37, c38, c39, c40, c41, c42, c43, c44, c45, c46, c47, c48, c49, c50, c51, c52, c53, c54, c55, c56, c57, c58, c59, c60, c61, c62, c63, c64, c65, c66, c67], []⟩ w5 := by
  have B5 : RowKit.Below w5.heap.size w5 w5.drew := (RowKit.Below.refl _ _).drew
  have S0 := trivial
  rw [reg23_9_is]
  refine hd_start (n := 34) (fun _ => True) (by kernel_rfl) (by kernel_rfl) S0 ?_
  refine ht 0 25 (.int .i64 (k : Int)) (by kernel_rfl) (fun _ _ => by kernel_rfl) S0 ?_
  refine ht 1 26 (.int .i64 (j : Int)) (by kernel_rfl) (fun _ _ => by kernel_rfl) S0 ?_
  refine ht 2 27 (.bool false) (by kernel_rfl) (fun w' _ => ex_bin (op := .neq) (t := 3) (t' := 3) (x := .tmp 25) (y := .tmp 26) (p := .int .i64 (k : Int)) (q := .int .i64 (j : Int)) (by kernel_rfl) (by kernel_rfl) (by kernel_rfl) (neq_run _ _ false hne _ _ w')) S0 ?_
  refine ht 3 28 (.bool false) (by kernel_rfl) (fun _ _ => by kernel_rfl) S0 ?_
  refine hk 4 29 (by kernel_rfl) S0 ?_
  refine ht 5 30 (.bool false) (by kernel_rfl) (fun _ _ => by kernel_rfl) S0 ?_
  refine ht 6 31 (.bool false) (by kernel_rfl) (fun _ _ => by kernel_rfl) S0 ?_
  refine hk 7 32 (by kernel_rfl) S0 ?_
  refine hk 8 33 (by kernel_rfl) S0 ?_
  refine hk 9 34 (by kernel_rfl) S0 ?_
  refine hk 10 35 (by kernel_rfl) S0 ?_
  refine hk 11 36 (by kernel_rfl) S0 ?_
  refine hk 12 37 (by kernel_rfl) S0 ?_
  refine hk 13 38 (by kernel_rfl) S0 ?_
  refine hk 14 39 (by kernel_rfl) S0 ?_
  refine hs 15 40 (by kernel_rfl) S0 ?_
  refine ht 16 41 (.bool false) (by kernel_rfl) (fun _ _ => by kernel_rfl) S0 ?_
  refine ht 17 42 (.bool false) (by kernel_rfl) (fun _ _ => by kernel_rfl) S0 ?_
  refine hk 18 43 (by kernel_rfl) S0 ?_
  refine hk 19 44 (by kernel_rfl) S0 ?_
  refine hk 20 45 (by kernel_rfl) S0 ?_
  refine hk 21 46 (by kernel_rfl) S0 ?_
  refine hk 22 47 (by kernel_rfl) S0 ?_
  refine hk 23 48 (by kernel_rfl) S0 ?_
  refine hk 24 49 (by kernel_rfl) S0 ?_
  refine hk 25 50 (by kernel_rfl) S0 ?_
  refine hk 26 51 (by kernel_rfl) S0 ?_
  refine hk 27 52 (by kernel_rfl) S0 ?_
  refine hk 28 53 (by kernel_rfl) S0 ?_
  refine hk 29 54 (by kernel_rfl) S0 ?_
  refine hs 30 55 (by kernel_rfl) S0 ?_
  refine hk 31 56 (by kernel_rfl) S0 ?_
  refine hk 32 57 (by kernel_rfl) S0 ?_
  refine ht 33 58 (.bool false) (by kernel_rfl) (fun _ _ => by kernel_rfl) S0 ?_
  refine hd_end (b := ⟨#[.slice (some ⟨b, off, none⟩) n c, c1, c2, c3, .int .i64 (j : Int), .bool bb, .int .i64 (k : Int), c7, c8, c9, c10, c11, c12, c13, c14, c15, c16, c17, c18, c19, c20, c21, c22, c23, c24, .int .i64 (k : Int), .int .i64 (j : Int), .bool false, .bool false, undef, .bool false, .bool false, undef, undef, undef, undef, undef, undef, undef, undef, undef, .bool false, .bool false, undef, undef, undef, undef, undef, undef, undef, undef, undef, undef, undef, undef, undef, undef, undef, .bool false, c59, c60, c61, c62, c63, c64, c65, c66, c67], []⟩) (by kernel_rfl) (by kernel_rfl) ?_
  exact hQ _ _ _ _ _ _ _ _ _ _ _ _ _ _ _ _ _ _ _ _ _ _ _ _ _ _ _ _ _ _ _ _ _ _ B5

set_option maxHeartbeats 2000000 in
set_option maxRecDepth 100000 in
theorem reg9_off (b off n c j k : Nat) (gj : j < n) (gk : k < n) (X Y : Value) (w5 : World) (Q : Exit → Act → World → Prop)
    (hne : (!((k : Int) == (j : Int))) = true) (c1 c2 c3 c7 c8 c9 c10 c11 c12 c13 c14 c15 c16 c17 c18 c19 c20 c21 c22 c23 c24 c25 c26 c27 c28 c29 c30 c31 c32 c33 c34 c35 c36 c37 c38 c39 c40 c41 c42 c43 c44 c45 c46 c47 c48 c49 c50 c51 c52 c53 c54 c55 c56 c57 c58 c59 c60 c61 c62 c63 c64 c65 c66 c67 : Value)
    (hQ : ∀ (u25 u26 u27 u28 u29 u30 u31 u32 u33 u34 u35 u36 u37 u38 u39 u40 u41 u42 u43 u44 u45 u46 u47 u48 u49 u50 u51 u52 u53 u54 u55 u56 u57 : Value) (w6 : World), RowKit.Below w5.heap.size w5 w6 → Q .normal ⟨#[.slice (some ⟨b, off, none⟩) n c, c1, c2, c3, .int .i64 (j : Int), .bool false, .int .i64 (k : Int), c7, c8, c9, c10, c11, c12, c13, c14, c15, c16, c17, c18, c19, c20, c21, c22, c23, c24, u25, u26, u27, u28, u29, u30, u31, u32, u33, u34, u35, u36, u37, u38, u39, u40, u41, u42, u43, u44, u45, u46, u47, u48, u49, u50, u51, u52, u53, u54, u55, u56, u57, .bool false, c59, c60, c61, c62, c63, c64, c65, c66, c67], []⟩ w6) : Code.wp Try.prog reg23_9 Q ⟨#[.slice (some ⟨b, off, none⟩) n c, c1, c2, c3, .int .i64 (j : Int), .bool false, .int .i64 (k : Int), c7, c8, c9, c10, c11, c12, c13, c14, c15, c16, c17, c18, c19, c20, c21, c22, c23, c24, c25, c26, c27, c28, c29, c30, c31, c32, c33, c34, c35, c36, c37, c38, c39, c40, c41, c42, c43, c44, c45, c46, c47, c48, c49, c50, c51, c52, c53, c54, c55, c56, c57, c58, c59, c60, c61, c62, c63, c64, c65, c66, c67], []⟩ w5 := by
  have B5 : RowKit.Below w5.heap.size w5 w5.drew := (RowKit.Below.refl _ _).drew
  have S0 := trivial
  rw [reg23_9_is]
  refine hd_start (n := 34) (fun _ => True) (by kernel_rfl) (by kernel_rfl) S0 ?_
  refine ht 0 25 (.int .i64 (k : Int)) (by kernel_rfl) (fun _ _ => by kernel_rfl) S0 ?_
  refine ht 1 26 (.int .i64 (j : Int)) (by kernel_rfl) (fun _ _ => by kernel_rfl) S0 ?_
  refine ht 2 27 (.bool true) (by kernel_rfl) (fun w' _ => ex_bin (op := .neq) (t := 3) (t' := 3) (x := .tmp 25) (y := .tmp 26) (p := .int .i64 (k : Int)) (q := .int .i64 (j : Int)) (by kernel_rfl) (by kernel_rfl) (by kernel_rfl) (neq_run _ _ true hne _ _ w')) S0 ?_
  refine ht 3 28 (.bool true) (by kernel_rfl) (fun _ _ => by kernel_rfl) S0 ?_
  refine ht 4 29 (.bool false) (by kernel_rfl) (fun _ _ => by kernel_rfl) S0 ?_
  refine ht 5 30 (.bool false) (by kernel_rfl) (fun _ _ => by kernel_rfl) S0 ?_
  refine ht 6 31 (.bool false) (by kernel_rfl) (fun _ _ => by kernel_rfl) S0 ?_
  refine hk 7 32 (by kernel_rfl) S0 ?_
  refine hk 8 33 (by kernel_rfl) S0 ?_
  refine hk 9 34 (by kernel_rfl) S0 ?_
  refine hk 10 35 (by kernel_rfl) S0 ?_
  refine hk 11 36 (by kernel_rfl) S0 ?_
  refine hk 12 37 (by kernel_rfl) S0 ?_
  refine hk 13 38 (by kernel_rfl) S0 ?_
  refine hk 14 39 (by kernel_rfl) S0 ?_
  refine hs 15 40 (by kernel_rfl) S0 ?_
  refine ht 16 41 (.bool false) (by kernel_rfl) (fun _ _ => by kernel_rfl) S0 ?_
  refine ht 17 42 (.bool false) (by kernel_rfl) (fun _ _ => by kernel_rfl) S0 ?_
  refine hk 18 43 (by kernel_rfl) S0 ?_
  refine hk 19 44 (by kernel_rfl) S0 ?_
  refine hk 20 45 (by kernel_rfl) S0 ?_
  refine hk 21 46 (by kernel_rfl) S0 ?_
  refine hk 22 47 (by kernel_rfl) S0 ?_
  refine hk 23 48 (by kernel_rfl) S0 ?_
  refine hk 24 49 (by kernel_rfl) S0 ?_
  refine hk 25 50 (by kernel_rfl) S0 ?_
  refine hk 26 51 (by kernel_rfl) S0 ?_
  refine hk 27 52 (by kernel_rfl) S0 ?_
  refine hk 28 53 (by kernel_rfl) S0 ?_
  refine hk 29 54 (by kernel_rfl) S0 ?_
  refine hs 30 55 (by kernel_rfl) S0 ?_
  refine hk 31 56 (by kernel_rfl) S0 ?_
  refine hk 32 57 (by kernel_rfl) S0 ?_
  refine ht 33 58 (.bool false) (by kernel_rfl) (fun _ _ => by kernel_rfl) S0 ?_
  refine hd_end (b := ⟨#[.slice (some ⟨b, off, none⟩) n c, c1, c2, c3, .int .i64 (j : Int), .bool false, .int .i64 (k : Int), c7, c8, c9, c10, c11, c12, c13, c14, c15, c16, c17, c18, c19, c20, c21, c22, c23, c24, .int .i64 (k : Int), .int .i64 (j : Int), .bool true, .bool true, .bool false, .bool false, .bool false, undef, undef, undef, undef, undef, undef, undef, undef, undef, .bool false, .bool false, undef, undef, undef, undef, undef, undef, undef, undef, undef, undef, undef, undef, undef, undef, undef, .bool false, c59, c60, c61, c62, c63, c64, c65, c66, c67], []⟩) (by kernel_rfl) (by kernel_rfl) ?_
  exact hQ _ _ _ _ _ _ _ _ _ _ _ _ _ _ _ _ _ _ _ _ _ _ _ _ _ _ _ _ _ _ _ _ _ _ B5

set_option maxHeartbeats 2000000 in
set_option maxRecDepth 100000 in
theorem reg9_no (b off n c j k : Nat) (gj : j < n) (gk : k < n) (X Y : Value) (w5 : World) (Q : Exit → Act → World → Prop)
    (hS : ∀ w', RowKit.Below w5.heap.size w5 w' → (Instr.loadAt 28 (.pointer (some ⟨b, off + j * 16, none⟩))).run Try.prog w' = .ok X w' ∧ (Instr.loadAt 28 (.pointer (some ⟨b, off + k * 16, none⟩))).run Try.prog w' = .ok Y w') (hne : (!((k : Int) == (j : Int))) = true) (h1 : ∀ w', RowKit.Below w5.heap.size w5 w' → Calls Try.prog 15 #[X, Y] w' fun e' w6 => e' = .returned (.bool false) ∧ RowKit.Below w'.heap.size w' w6) (c1 c2 c3 c7 c8 c9 c10 c11 c12 c13 c14 c15 c16 c17 c18 c19 c20 c21 c22 c23 c24 c25 c26 c27 c28 c29 c30 c31 c32 c33 c34 c35 c36 c37 c38 c39 c40 c41 c42 c43 c44 c45 c46 c47 c48 c49 c50 c51 c52 c53 c54 c55 c56 c57 c58 c59 c60 c61 c62 c63 c64 c65 c66 c67 : Value)
    (hQ : ∀ (u25 u26 u27 u28 u29 u30 u31 u32 u33 u34 u35 u36 u37 u38 u39 u40 u41 u42 u43 u44 u45 u46 u47 u48 u49 u50 u51 u52 u53 u54 u55 u56 u57 : Value) (w6 : World), RowKit.Below w5.heap.size w5 w6 → Q .normal ⟨#[.slice (some ⟨b, off, none⟩) n c, c1, c2, c3, .int .i64 (j : Int), .bool true, .int .i64 (k : Int), c7, c8, c9, c10, c11, c12, c13, c14, c15, c16, c17, c18, c19, c20, c21, c22, c23, c24, u25, u26, u27, u28, u29, u30, u31, u32, u33, u34, u35, u36, u37, u38, u39, u40, u41, u42, u43, u44, u45, u46, u47, u48, u49, u50, u51, u52, u53, u54, u55, u56, u57, .bool false, c59, c60, c61, c62, c63, c64, c65, c66, c67], []⟩ w6) : Code.wp Try.prog reg23_9 Q ⟨#[.slice (some ⟨b, off, none⟩) n c, c1, c2, c3, .int .i64 (j : Int), .bool true, .int .i64 (k : Int), c7, c8, c9, c10, c11, c12, c13, c14, c15, c16, c17, c18, c19, c20, c21, c22, c23, c24, c25, c26, c27, c28, c29, c30, c31, c32, c33, c34, c35, c36, c37, c38, c39, c40, c41, c42, c43, c44, c45, c46, c47, c48, c49, c50, c51, c52, c53, c54, c55, c56, c57, c58, c59, c60, c61, c62, c63, c64, c65, c66, c67], []⟩ w5 := by
  have B5 : RowKit.Below w5.heap.size w5 w5.drew := (RowKit.Below.refl _ _).drew
  have S0 := hS _ B5
  rw [reg23_9_is]
  refine hd_start (n := 34) (fun w' => (Instr.loadAt 28 (.pointer (some ⟨b, off + j * 16, none⟩))).run Try.prog w' = .ok X w' ∧ (Instr.loadAt 28 (.pointer (some ⟨b, off + k * 16, none⟩))).run Try.prog w' = .ok Y w') (by kernel_rfl) (by kernel_rfl) S0 ?_
  refine ht 0 25 (.int .i64 (k : Int)) (by kernel_rfl) (fun _ _ => by kernel_rfl) S0 ?_
  refine ht 1 26 (.int .i64 (j : Int)) (by kernel_rfl) (fun _ _ => by kernel_rfl) S0 ?_
  refine ht 2 27 (.bool true) (by kernel_rfl) (fun w' _ => ex_bin (op := .neq) (t := 3) (t' := 3) (x := .tmp 25) (y := .tmp 26) (p := .int .i64 (k : Int)) (q := .int .i64 (j : Int)) (by kernel_rfl) (by kernel_rfl) (by kernel_rfl) (neq_run _ _ true hne _ _ w')) S0 ?_
  refine ht 3 28 (.bool true) (by kernel_rfl) (fun _ _ => by kernel_rfl) S0 ?_
  refine ht 4 29 (.bool true) (by kernel_rfl) (fun _ _ => by kernel_rfl) S0 ?_
  refine ht 5 30 (.bool true) (by kernel_rfl) (fun _ _ => by kernel_rfl) S0 ?_
  refine ht 6 31 (.bool true) (by kernel_rfl) (fun _ _ => by kernel_rfl) S0 ?_
  refine ht 7 32 (.slice (some ⟨b, off, none⟩) n c) (by kernel_rfl) (fun _ _ => by kernel_rfl) S0 ?_
  refine ht 8 33 (.int .i64 (j : Int)) (by kernel_rfl) (fun _ _ => by kernel_rfl) S0 ?_
  refine ht 9 34 (.pointer (some ⟨b, off + j * 16, none⟩)) (by kernel_rfl) (fun w' _ => ex_index (t := 22) (x := .tmp 32) (y := .tmp 33) (p := .slice (some ⟨b, off, none⟩) n c) (q := .int .i64 (j : Int)) (by kernel_rfl) (by kernel_rfl) (by kernel_rfl) (idx22 b off n c j gj w')) S0 ?_
  refine hl 10 35 28 34 (v := X) (p := .pointer (some ⟨b, off + j * 16, none⟩)) (by kernel_rfl) (by kernel_rfl) (by kernel_rfl) (fun w' hw' => hw'.1) S0 ?_
  refine ht 11 36 (.slice (some ⟨b, off, none⟩) n c) (by kernel_rfl) (fun _ _ => by kernel_rfl) S0 ?_
  refine ht 12 37 (.int .i64 (k : Int)) (by kernel_rfl) (fun _ _ => by kernel_rfl) S0 ?_
  refine ht 13 38 (.pointer (some ⟨b, off + k * 16, none⟩)) (by kernel_rfl) (fun w' _ => ex_index (t := 22) (x := .tmp 36) (y := .tmp 37) (p := .slice (some ⟨b, off, none⟩) n c) (q := .int .i64 (k : Int)) (by kernel_rfl) (by kernel_rfl) (by kernel_rfl) (idx22 b off n c k gk w')) S0 ?_
  refine hl 14 39 28 38 (v := Y) (p := .pointer (some ⟨b, off + k * 16, none⟩)) (by kernel_rfl) (by kernel_rfl) (by kernel_rfl) (fun w' hw' => hw'.2) S0 ?_
  refine hc (w5 := w5) 15 40 (v := .bool false) (by kernel_rfl) (h1 _ B5) (by kernel_rfl) hS B5 ?_
  intro w6 BB6 SS6
  refine ht 16 41 (.bool false) (by kernel_rfl) (fun _ _ => by kernel_rfl) SS6 ?_
  refine ht 17 42 (.bool false) (by kernel_rfl) (fun _ _ => by kernel_rfl) SS6 ?_
  refine hk 18 43 (by kernel_rfl) SS6 ?_
  refine hk 19 44 (by kernel_rfl) SS6 ?_
  refine hk 20 45 (by kernel_rfl) SS6 ?_
  refine hk 21 46 (by kernel_rfl) SS6 ?_
  refine hk 22 47 (by kernel_rfl) SS6 ?_
  refine hk 23 48 (by kernel_rfl) SS6 ?_
  refine hk 24 49 (by kernel_rfl) SS6 ?_
  refine hk 25 50 (by kernel_rfl) SS6 ?_
  refine hk 26 51 (by kernel_rfl) SS6 ?_
  refine hk 27 52 (by kernel_rfl) SS6 ?_
  refine hk 28 53 (by kernel_rfl) SS6 ?_
  refine hk 29 54 (by kernel_rfl) SS6 ?_
  refine hs 30 55 (by kernel_rfl) SS6 ?_
  refine hk 31 56 (by kernel_rfl) SS6 ?_
  refine hk 32 57 (by kernel_rfl) SS6 ?_
  refine ht 33 58 (.bool false) (by kernel_rfl) (fun _ _ => by kernel_rfl) SS6 ?_
  refine hd_end (b := ⟨#[.slice (some ⟨b, off, none⟩) n c, c1, c2, c3, .int .i64 (j : Int), .bool true, .int .i64 (k : Int), c7, c8, c9, c10, c11, c12, c13, c14, c15, c16, c17, c18, c19, c20, c21, c22, c23, c24, .int .i64 (k : Int), .int .i64 (j : Int), .bool true, .bool true, .bool true, .bool true, .bool true, .slice (some ⟨b, off, none⟩) n c, .int .i64 (j : Int), .pointer (some ⟨b, off + j * 16, none⟩), X, .slice (some ⟨b, off, none⟩) n c, .int .i64 (k : Int), .pointer (some ⟨b, off + k * 16, none⟩), Y, .bool false, .bool false, .bool false, undef, undef, undef, undef, undef, undef, undef, undef, undef, undef, undef, undef, undef, undef, undef, .bool false, c59, c60, c61, c62, c63, c64, c65, c66, c67], []⟩) (by kernel_rfl) (by kernel_rfl) ?_
  exact hQ _ _ _ _ _ _ _ _ _ _ _ _ _ _ _ _ _ _ _ _ _ _ _ _ _ _ _ _ _ _ _ _ _ _ BB6

set_option maxHeartbeats 2000000 in
set_option maxRecDepth 100000 in
theorem reg9_yes (b off n c j k : Nat) (gj : j < n) (gk : k < n) (X Y : Value) (w5 : World) (Q : Exit → Act → World → Prop)
    (hS : ∀ w', RowKit.Below w5.heap.size w5 w' → (Instr.loadAt 28 (.pointer (some ⟨b, off + j * 16, none⟩))).run Try.prog w' = .ok X w' ∧ (Instr.loadAt 28 (.pointer (some ⟨b, off + k * 16, none⟩))).run Try.prog w' = .ok Y w') (hne : (!((k : Int) == (j : Int))) = true) (h1 : ∀ w', RowKit.Below w5.heap.size w5 w' → Calls Try.prog 15 #[X, Y] w' fun e' w6 => e' = .returned (.bool true) ∧ RowKit.Below w'.heap.size w' w6) (hlt : decide ((k : Int) < (j : Int)) = true) (c1 c2 c3 c7 c8 c9 c10 c11 c12 c13 c14 c15 c16 c17 c18 c19 c20 c21 c22 c23 c24 c25 c26 c27 c28 c29 c30 c31 c32 c33 c34 c35 c36 c37 c38 c39 c40 c41 c42 c43 c44 c45 c46 c47 c48 c49 c50 c51 c52 c53 c54 c55 c56 c57 c58 c59 c60 c61 c62 c63 c64 c65 c66 c67 : Value)
    (hQ : ∀ (u25 u26 u27 u28 u29 u30 u31 u32 u33 u34 u35 u36 u37 u38 u39 u40 u41 u42 u43 u44 u45 u46 u47 u48 u49 u50 u51 u52 u53 u54 u55 u56 u57 : Value) (w6 : World), RowKit.Below w5.heap.size w5 w6 → Q .normal ⟨#[.slice (some ⟨b, off, none⟩) n c, c1, c2, c3, .int .i64 (j : Int), .bool true, .int .i64 (k : Int), c7, c8, c9, c10, c11, c12, c13, c14, c15, c16, c17, c18, c19, c20, c21, c22, c23, c24, u25, u26, u27, u28, u29, u30, u31, u32, u33, u34, u35, u36, u37, u38, u39, u40, u41, u42, u43, u44, u45, u46, u47, u48, u49, u50, u51, u52, u53, u54, u55, u56, u57, .bool true, c59, c60, c61, c62, c63, c64, c65, c66, c67], []⟩ w6) : Code.wp Try.prog reg23_9 Q ⟨#[.slice (some ⟨b, off, none⟩) n c, c1, c2, c3, .int .i64 (j : Int), .bool true, .int .i64 (k : Int), c7, c8, c9, c10, c11, c12, c13, c14, c15, c16, c17, c18, c19, c20, c21, c22, c23, c24, c25, c26, c27, c28, c29, c30, c31, c32, c33, c34, c35, c36, c37, c38, c39, c40, c41, c42, c43, c44, c45, c46, c47, c48, c49, c50, c51, c52, c53, c54, c55, c56, c57, c58, c59, c60, c61, c62, c63, c64, c65, c66, c67], []⟩ w5 := by
  have B5 : RowKit.Below w5.heap.size w5 w5.drew := (RowKit.Below.refl _ _).drew
  have S0 := hS _ B5
  rw [reg23_9_is]
  refine hd_start (n := 34) (fun w' => (Instr.loadAt 28 (.pointer (some ⟨b, off + j * 16, none⟩))).run Try.prog w' = .ok X w' ∧ (Instr.loadAt 28 (.pointer (some ⟨b, off + k * 16, none⟩))).run Try.prog w' = .ok Y w') (by kernel_rfl) (by kernel_rfl) S0 ?_
  refine ht 0 25 (.int .i64 (k : Int)) (by kernel_rfl) (fun _ _ => by kernel_rfl) S0 ?_
  refine ht 1 26 (.int .i64 (j : Int)) (by kernel_rfl) (fun _ _ => by kernel_rfl) S0 ?_
  refine ht 2 27 (.bool true) (by kernel_rfl) (fun w' _ => ex_bin (op := .neq) (t := 3) (t' := 3) (x := .tmp 25) (y := .tmp 26) (p := .int .i64 (k : Int)) (q := .int .i64 (j : Int)) (by kernel_rfl) (by kernel_rfl) (by kernel_rfl) (neq_run _ _ true hne _ _ w')) S0 ?_
  refine ht 3 28 (.bool true) (by kernel_rfl) (fun _ _ => by kernel_rfl) S0 ?_
  refine ht 4 29 (.bool true) (by kernel_rfl) (fun _ _ => by kernel_rfl) S0 ?_
  refine ht 5 30 (.bool true) (by kernel_rfl) (fun _ _ => by kernel_rfl) S0 ?_
  refine ht 6 31 (.bool true) (by kernel_rfl) (fun _ _ => by kernel_rfl) S0 ?_
  refine ht 7 32 (.slice (some ⟨b, off, none⟩) n c) (by kernel_rfl) (fun _ _ => by kernel_rfl) S0 ?_
  refine ht 8 33 (.int .i64 (j : Int)) (by kernel_rfl) (fun _ _ => by kernel_rfl) S0 ?_
  refine ht 9 34 (.pointer (some ⟨b, off + j * 16, none⟩)) (by kernel_rfl) (fun w' _ => ex_index (t := 22) (x := .tmp 32) (y := .tmp 33) (p := .slice (some ⟨b, off, none⟩) n c) (q := .int .i64 (j : Int)) (by kernel_rfl) (by kernel_rfl) (by kernel_rfl) (idx22 b off n c j gj w')) S0 ?_
  refine hl 10 35 28 34 (v := X) (p := .pointer (some ⟨b, off + j * 16, none⟩)) (by kernel_rfl) (by kernel_rfl) (by kernel_rfl) (fun w' hw' => hw'.1) S0 ?_
  refine ht 11 36 (.slice (some ⟨b, off, none⟩) n c) (by kernel_rfl) (fun _ _ => by kernel_rfl) S0 ?_
  refine ht 12 37 (.int .i64 (k : Int)) (by kernel_rfl) (fun _ _ => by kernel_rfl) S0 ?_
  refine ht 13 38 (.pointer (some ⟨b, off + k * 16, none⟩)) (by kernel_rfl) (fun w' _ => ex_index (t := 22) (x := .tmp 36) (y := .tmp 37) (p := .slice (some ⟨b, off, none⟩) n c) (q := .int .i64 (k : Int)) (by kernel_rfl) (by kernel_rfl) (by kernel_rfl) (idx22 b off n c k gk w')) S0 ?_
  refine hl 14 39 28 38 (v := Y) (p := .pointer (some ⟨b, off + k * 16, none⟩)) (by kernel_rfl) (by kernel_rfl) (by kernel_rfl) (fun w' hw' => hw'.2) S0 ?_
  refine hc (w5 := w5) 15 40 (v := .bool true) (by kernel_rfl) (h1 _ B5) (by kernel_rfl) hS B5 ?_
  intro w6 BB6 SS6
  refine ht 16 41 (.bool true) (by kernel_rfl) (fun _ _ => by kernel_rfl) SS6 ?_
  refine ht 17 42 (.bool true) (by kernel_rfl) (fun _ _ => by kernel_rfl) SS6 ?_
  refine ht 18 43 (.int .i64 (k : Int)) (by kernel_rfl) (fun _ _ => by kernel_rfl) SS6 ?_
  refine ht 19 44 (.int .i64 (j : Int)) (by kernel_rfl) (fun _ _ => by kernel_rfl) SS6 ?_
  refine ht 20 45 (.bool true) (by kernel_rfl) (fun w' _ => ex_bin (op := .lss) (t := 3) (t' := 3) (x := .tmp 43) (y := .tmp 44) (p := .int .i64 (k : Int)) (q := .int .i64 (j : Int)) (by kernel_rfl) (by kernel_rfl) (by kernel_rfl) (lss_run _ _ true hlt _ _ w')) SS6 ?_
  refine ht 21 46 (.bool true) (by kernel_rfl) (fun _ _ => by kernel_rfl) SS6 ?_
  refine hk 22 47 (by kernel_rfl) SS6 ?_
  refine hk 23 48 (by kernel_rfl) SS6 ?_
  refine hk 24 49 (by kernel_rfl) SS6 ?_
  refine hk 25 50 (by kernel_rfl) SS6 ?_
  refine hk 26 51 (by kernel_rfl) SS6 ?_
  refine hk 27 52 (by kernel_rfl) SS6 ?_
  refine hk 28 53 (by kernel_rfl) SS6 ?_
  refine hk 29 54 (by kernel_rfl) SS6 ?_
  refine hs 30 55 (by kernel_rfl) SS6 ?_
  refine hk 31 56 (by kernel_rfl) SS6 ?_
  refine ht 32 57 (.bool true) (by kernel_rfl) (fun _ _ => by kernel_rfl) SS6 ?_
  refine ht 33 58 (.bool true) (by kernel_rfl) (fun _ _ => by kernel_rfl) SS6 ?_
  refine hd_end (b := ⟨#[.slice (some ⟨b, off, none⟩) n c, c1, c2, c3, .int .i64 (j : Int), .bool true, .int .i64 (k : Int), c7, c8, c9, c10, c11, c12, c13, c14, c15, c16, c17, c18, c19, c20, c21, c22, c23, c24, .int .i64 (k : Int), .int .i64 (j : Int), .bool true, .bool true, .bool true, .bool true, .bool true, .slice (some ⟨b, off, none⟩) n c, .int .i64 (j : Int), .pointer (some ⟨b, off + j * 16, none⟩), X, .slice (some ⟨b, off, none⟩) n c, .int .i64 (k : Int), .pointer (some ⟨b, off + k * 16, none⟩), Y, .bool true, .bool true, .bool true, .int .i64 (k : Int), .int .i64 (j : Int), .bool true, .bool true, undef, undef, undef, undef, undef, undef, undef, undef, undef, undef, .bool true, .bool true, c59, c60, c61, c62, c63, c64, c65, c66, c67], []⟩) (by kernel_rfl) (by kernel_rfl) ?_
  exact hQ _ _ _ _ _ _ _ _ _ _ _ _ _ _ _ _ _ _ _ _ _ _ _ _ _ _ _ _ _ _ _ _ _ _ BB6

set_option maxHeartbeats 2000000 in
set_option maxRecDepth 100000 in
theorem reg9_two (b off n c j k : Nat) (gj : j < n) (gk : k < n) (X Y : Value) (w5 : World) (Q : Exit → Act → World → Prop)
    (hS : ∀ w', RowKit.Below w5.heap.size w5 w' → (Instr.loadAt 28 (.pointer (some ⟨b, off + j * 16, none⟩))).run Try.prog w' = .ok X w' ∧ (Instr.loadAt 28 (.pointer (some ⟨b, off + k * 16, none⟩))).run Try.prog w' = .ok Y w') (hne : (!((k : Int) == (j : Int))) = true) (h1 : ∀ w', RowKit.Below w5.heap.size w5 w' → Calls Try.prog 15 #[X, Y] w' fun e' w6 => e' = .returned (.bool true) ∧ RowKit.Below w'.heap.size w' w6) (hlt : decide ((k : Int) < (j : Int)) = false) (r2 : Bool) (h2 : ∀ w', RowKit.Below w5.heap.size w5 w' → Calls Try.prog 15 #[Y, X] w' fun e' w6 => e' = .returned (.bool r2) ∧ RowKit.Below w'.heap.size w' w6) (c1 c2 c3 c7 c8 c9 c10 c11 c12 c13 c14 c15 c16 c17 c18 c19 c20 c21 c22 c23 c24 c25 c26 c27 c28 c29 c30 c31 c32 c33 c34 c35 c36 c37 c38 c39 c40 c41 c42 c43 c44 c45 c46 c47 c48 c49 c50 c51 c52 c53 c54 c55 c56 c57 c58 c59 c60 c61 c62 c63 c64 c65 c66 c67 : Value)
    (hQ : ∀ (u25 u26 u27 u28 u29 u30 u31 u32 u33 u34 u35 u36 u37 u38 u39 u40 u41 u42 u43 u44 u45 u46 u47 u48 u49 u50 u51 u52 u53 u54 u55 u56 u57 : Value) (w6 : World), RowKit.Below w5.heap.size w5 w6 → Q .normal ⟨#[.slice (some ⟨b, off, none⟩) n c, c1, c2, c3, .int .i64 (j : Int), .bool true, .int .i64 (k : Int), c7, c8, c9, c10, c11, c12, c13, c14, c15, c16, c17, c18, c19, c20, c21, c22, c23, c24, u25, u26, u27, u28, u29, u30, u31, u32, u33, u34, u35, u36, u37, u38, u39, u40, u41, u42, u43, u44, u45, u46, u47, u48, u49, u50, u51, u52, u53, u54, u55, u56, u57, .bool (!r2), c59, c60, c61, c62, c63, c64, c65, c66, c67], []⟩ w6) : Code.wp Try.prog reg23_9 Q ⟨#[.slice (some ⟨b, off, none⟩) n c, c1, c2, c3, .int .i64 (j : Int), .bool true, .int .i64 (k : Int), c7, c8, c9, c10, c11, c12, c13, c14, c15, c16, c17, c18, c19, c20, c21, c22, c23, c24, c25, c26, c27, c28, c29, c30, c31, c32, c33, c34, c35, c36, c37, c38, c39, c40, c41, c42, c43, c44, c45, c46, c47, c48, c49, c50, c51, c52, c53, c54, c55, c56, c57, c58, c59, c60, c61, c62, c63, c64, c65, c66, c67], []⟩ w5 := by
  have B5 : RowKit.Below w5.heap.size w5 w5.drew := (RowKit.Below.refl _ _).drew
  have S0 := hS _ B5
  rw [reg23_9_is]
  refine hd_start (n := 34) (fun w' => (Instr.loadAt 28 (.pointer (some ⟨b, off + j * 16, none⟩))).run Try.prog w' = .ok X w' ∧ (Instr.loadAt 28 (.pointer (some ⟨b, off + k * 16, none⟩))).run Try.prog w' = .ok Y w') (by kernel_rfl) (by kernel_rfl) S0 ?_
  refine ht 0 25 (.int .i64 (k : Int)) (by kernel_rfl) (fun _ _ => by kernel_rfl) S0 ?_
  refine ht 1 26 (.int .i64 (j : Int)) (by kernel_rfl) (fun _ _ => by kernel_rfl) S0 ?_
  refine ht 2 27 (.bool true) (by kernel_rfl) (fun w' _ => ex_bin (op := .neq) (t := 3) (t' := 3) (x := .tmp 25) (y := .tmp 26) (p := .int .i64 (k : Int)) (q := .int .i64 (j : Int)) (by kernel_rfl) (by kernel_rfl) (by kernel_rfl) (neq_run _ _ true hne _ _ w')) S0 ?_
  refine ht 3 28 (.bool true) (by kernel_rfl) (fun _ _ => by kernel_rfl) S0 ?_
  refine ht 4 29 (.bool true) (by kernel_rfl) (fun _ _ => by kernel_rfl) S0 ?_
  refine ht 5 30 (.bool true) (by kernel_rfl) (fun _ _ => by kernel_rfl) S0 ?_
  refine ht 6 31 (.bool true) (by kernel_rfl) (fun _ _ => by kernel_rfl) S0 ?_
  refine ht 7 32 (.slice (some ⟨b, off, none⟩) n c) (by kernel_rfl) (fun _ _ => by kernel_rfl) S0 ?_
  refine ht 8 33 (.int .i64 (j : Int)) (by kernel_rfl) (fun _ _ => by kernel_rfl) S0 ?_
  refine ht 9 34 (.pointer (some ⟨b, off + j * 16, none⟩)) (by kernel_rfl) (fun w' _ => ex_index (t := 22) (x := .tmp 32) (y := .tmp 33) (p := .slice (some ⟨b, off, none⟩) n c) (q := .int .i64 (j : Int)) (by kernel_rfl) (by kernel_rfl) (by kernel_rfl) (idx22 b off n c j gj w')) S0 ?_
  refine hl 10 35 28 34 (v := X) (p := .pointer (some ⟨b, off + j * 16, none⟩)) (by kernel_rfl) (by kernel_rfl) (by kernel_rfl) (fun w' hw' => hw'.1) S0 ?_
  refine ht 11 36 (.slice (some ⟨b, off, none⟩) n c) (by kernel_rfl) (fun _ _ => by kernel_rfl) S0 ?_
  refine ht 12 37 (.int .i64 (k : Int)) (by kernel_rfl) (fun _ _ => by kernel_rfl) S0 ?_
  refine ht 13 38 (.pointer (some ⟨b, off + k * 16, none⟩)) (by kernel_rfl) (fun w' _ => ex_index (t := 22) (x := .tmp 36) (y := .tmp 37) (p := .slice (some ⟨b, off, none⟩) n c) (q := .int .i64 (k : Int)) (by kernel_rfl) (by kernel_rfl) (by kernel_rfl) (idx22 b off n c k gk w')) S0 ?_
  refine hl 14 39 28 38 (v := Y) (p := .pointer (some ⟨b, off + k * 16, none⟩)) (by kernel_rfl) (by kernel_rfl) (by kernel_rfl) (fun w' hw' => hw'.2) S0 ?_
  refine hc (w5 := w5) 15 40 (v := .bool true) (by kernel_rfl) (h1 _ B5) (by kernel_rfl) hS B5 ?_
  intro w6 BB6 SS6
  refine ht 16 41 (.bool true) (by kernel_rfl) (fun _ _ => by kernel_rfl) SS6 ?_
  refine ht 17 42 (.bool true) (by kernel_rfl) (fun _ _ => by kernel_rfl) SS6 ?_
  refine ht 18 43 (.int .i64 (k : Int)) (by kernel_rfl) (fun _ _ => by kernel_rfl) SS6 ?_
  refine ht 19 44 (.int .i64 (j : Int)) (by kernel_rfl) (fun _ _ => by kernel_rfl) SS6 ?_
  refine ht 20 45 (.bool false) (by kernel_rfl) (fun w' _ => ex_bin (op := .lss) (t := 3) (t' := 3) (x := .tmp 43) (y := .tmp 44) (p := .int .i64 (k : Int)) (q := .int .i64 (j : Int)) (by kernel_rfl) (by kernel_rfl) (by kernel_rfl) (lss_run _ _ false hlt _ _ w')) SS6 ?_
  refine ht 21 46 (.bool false) (by kernel_rfl) (fun _ _ => by kernel_rfl) SS6 ?_
  refine ht 22 47 (.slice (some ⟨b, off, none⟩) n c) (by kernel_rfl) (fun _ _ => by kernel_rfl) SS6 ?_
  refine ht 23 48 (.int .i64 (k : Int)) (by kernel_rfl) (fun _ _ => by kernel_rfl) SS6 ?_
  refine ht 24 49 (.pointer (some ⟨b, off + k * 16, none⟩)) (by kernel_rfl) (fun w' _ => ex_index (t := 22) (x := .tmp 47) (y := .tmp 48) (p := .slice (some ⟨b, off, none⟩) n c) (q := .int .i64 (k : Int)) (by kernel_rfl) (by kernel_rfl) (by kernel_rfl) (idx22 b off n c k gk w')) SS6 ?_
  refine hl 25 50 28 49 (v := Y) (p := .pointer (some ⟨b, off + k * 16, none⟩)) (by kernel_rfl) (by kernel_rfl) (by kernel_rfl) (fun w' hw' => hw'.2) SS6 ?_
  refine ht 26 51 (.slice (some ⟨b, off, none⟩) n c) (by kernel_rfl) (fun _ _ => by kernel_rfl) SS6 ?_
  refine ht 27 52 (.int .i64 (j : Int)) (by kernel_rfl) (fun _ _ => by kernel_rfl) SS6 ?_
  refine ht 28 53 (.pointer (some ⟨b, off + j * 16, none⟩)) (by kernel_rfl) (fun w' _ => ex_index (t := 22) (x := .tmp 51) (y := .tmp 52) (p := .slice (some ⟨b, off, none⟩) n c) (q := .int .i64 (j : Int)) (by kernel_rfl) (by kernel_rfl) (by kernel_rfl) (idx22 b off n c j gj w')) SS6 ?_
  refine hl 29 54 28 53 (v := X) (p := .pointer (some ⟨b, off + j * 16, none⟩)) (by kernel_rfl) (by kernel_rfl) (by kernel_rfl) (fun w' hw' => hw'.1) SS6 ?_
  refine hc (w5 := w5) 30 55 (v := .bool r2) (by kernel_rfl) (h2 _ BB6) (by kernel_rfl) hS BB6 ?_
  intro w7 BB7 SS7
  refine ht 31 56 (.bool (!r2)) (by kernel_rfl) (fun _ _ => by kernel_rfl) SS7 ?_
  refine ht 32 57 (.bool (!r2)) (by kernel_rfl) (fun _ _ => by kernel_rfl) SS7 ?_
  refine ht 33 58 (.bool (!r2)) (by kernel_rfl) (fun _ _ => by kernel_rfl) SS7 ?_
  refine hd_end (b := ⟨#[.slice (some ⟨b, off, none⟩) n c, c1, c2, c3, .int .i64 (j : Int), .bool true, .int .i64 (k : Int), c7, c8, c9, c10, c11, c12, c13, c14, c15, c16, c17, c18, c19, c20, c21, c22, c23, c24, .int .i64 (k : Int), .int .i64 (j : Int), .bool true, .bool true, .bool true, .bool true, .bool true, .slice (some ⟨b, off, none⟩) n c, .int .i64 (j : Int), .pointer (some ⟨b, off + j * 16, none⟩), X, .slice (some ⟨b, off, none⟩) n c, .int .i64 (k : Int), .pointer (some ⟨b, off + k * 16, none⟩), Y, .bool true, .bool true, .bool true, .int .i64 (k : Int), .int .i64 (j : Int), .bool false, .bool false, .slice (some ⟨b, off, none⟩) n c, .int .i64 (k : Int), .pointer (some ⟨b, off + k * 16, none⟩), Y, .slice (some ⟨b, off, none⟩) n c, .int .i64 (j : Int), .pointer (some ⟨b, off + j * 16, none⟩), X, .bool r2, .bool (!r2), .bool (!r2), .bool (!r2), c59, c60, c61, c62, c63, c64, c65, c66, c67], []⟩) (by kernel_rfl) (by kernel_rfl) ?_
  exact hQ _ _ _ _ _ _ _ _ _ _ _ _ _ _ _ _ _ _ _ _ _ _ _ _ _ _ _ _ _ _ _ _ _ _ BB7

end Go.Proofs.Ytfhokhhpfdmfiaa