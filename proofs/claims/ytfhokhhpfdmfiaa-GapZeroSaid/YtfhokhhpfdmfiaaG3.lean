/- GapZero's two lines that draw their order; printed by gen_g3.py. -/
import Derived.Test.YtfhokhhpfdmfiaaGH
namespace Go.Proofs.Ytfhokhhpfdmfiaa
open Go.RowKit
set_option linter.unusedVariables false

noncomputable def reg3_3 : Code := (Try.f3.body.bind (regAt 3)).getD .skip
noncomputable def ops3_3 : Array Oper := opsOf reg3_3
theorem reg3_3_is : reg3_3 = .region 3 ops3_3 true := by kernel_rfl
noncomputable def reg3_5 : Code := (Try.f3.body.bind (regAt 5)).getD .skip
noncomputable def ops3_5 : Array Oper := opsOf reg3_5
theorem reg3_5_is : reg3_5 = .region 5 ops3_5 true := by kernel_rfl
theorem eqz_run (x : Nat) (b : Bool) (h : ((x : Int) == 0) = b) (u v : Operand) (w : World) : (do eqGuard .eql 37 u v (.int .u64 (x : Int)) (.int .u64 0); binOp .eql 37 (.int .u64 (x : Int)) (.int .u64 0) : Sem Value).run Try.prog w = .ok (.bool b) w := by
  have e : (do eqGuard .eql 37 u v (.int .u64 (x : Int)) (.int .u64 0); binOp .eql 37 (.int .u64 (x : Int)) (.int .u64 0) : Sem Value).run Try.prog w = .ok (.bool ((x : Int) == 0)) w := by kernel_rfl
  rw [e, h]
theorem geq37_run (x y : Nat) (h : y ≤ x) (u v : Operand) (w : World) : (do eqGuard .geq 37 u v (.int .u64 (x : Int)) (.int .u64 (y : Int)); binOp .geq 37 (.int .u64 (x : Int)) (.int .u64 (y : Int)) : Sem Value).run Try.prog w = .ok (.bool true) w := by
  have h1 : decide ((x : Int) ≥ y) = true := by rw [decide_eq_true_eq]; omega
  have e : (do eqGuard .geq 37 u v (.int .u64 (x : Int)) (.int .u64 (y : Int)); binOp .geq 37 (.int .u64 (x : Int)) (.int .u64 (y : Int)) : Sem Value).run Try.prog w = .ok (.bool (decide ((x : Int) ≥ y))) w := by kernel_rfl
  rw [e, h1]
theorem neqb_run (b : Bool) (u v : Operand) (w : World) : (do eqGuard .neq 4 u v (.bool b) (.bool b); binOp .neq 4 (.bool b) (.bool b) : Sem Value).run Try.prog w = .ok (.bool false) w := by cases b <;> kernel_rfl

set_option maxHeartbeats 2000000 in
set_option maxRecDepth 100000 in
theorem reg3_3_off (A : Option Addr) (n c bA bB bE : Nat) (X Y ev : Value) (w5 : World) (Q : Exit → Act → World → Prop)
    (hS : ∀ w', RowKit.Below w5.heap.size w5 w' → (Instr.loadAt 28 (.pointer (some ⟨bA, 0, none⟩))).run Try.prog w' = .ok X w' ∧ (Instr.loadAt 28 (.pointer (some ⟨bB, 0, none⟩))).run Try.prog w' = .ok Y w' ∧ (Instr.loadAt 32 (.pointer (some ⟨bE, 0, none⟩))).run Try.prog w' = .ok ev w')
    (h0 : ∀ w', RowKit.Below w5.heap.size w5 w' → Calls Try.prog 12 #[ev] w' fun e' w6 => e' = .returned (.bool false) ∧ RowKit.Below w'.heap.size w' w6) (c1 c2 c3 c4 c8 c9 c10 c11 c12 c13 c14 c15 c16 c17 c18 c19 c20 c21 c22 c23 c24 c25 c26 c27 c28 c29 c30 c31 c32 c33 c34 c35 c36 c37 c38 c39 c40 c41 c42 c43 c44 c45 c46 c47 c48 c49 c50 c51 c52 c53 c54 c55 c56 c57 c58 c59 c60 c61 c62 c63 : Value)
    (hQ : ∀ (u39 u40 u41 u42 u43 u44 u45 u46 u47 u48 u49 : Value) (w6 : World), RowKit.Below w5.heap.size w5 w6 → Q .normal ⟨#[.slice A n c, c1, c2, c3, c4, .pointer (some ⟨bA, 0, none⟩), .pointer (some ⟨bB, 0, none⟩), .pointer (some ⟨bE, 0, none⟩), c8, c9, c10, c11, c12, c13, c14, c15, c16, c17, c18, c19, c20, c21, c22, c23, c24, c25, c26, c27, c28, c29, c30, c31, c32, c33, c34, c35, c36, c37, c38, u39, u40, u41, u42, u43, u44, u45, u46, u47, u48, u49, .bool false, c51, c52, c53, c54, c55, c56, c57, c58, c59, c60, c61, c62, c63], []⟩ w6) : Code.wp Try.prog reg3_3 Q ⟨#[.slice A n c, c1, c2, c3, c4, .pointer (some ⟨bA, 0, none⟩), .pointer (some ⟨bB, 0, none⟩), .pointer (some ⟨bE, 0, none⟩), c8, c9, c10, c11, c12, c13, c14, c15, c16, c17, c18, c19, c20, c21, c22, c23, c24, c25, c26, c27, c28, c29, c30, c31, c32, c33, c34, c35, c36, c37, c38, c39, c40, c41, c42, c43, c44, c45, c46, c47, c48, c49, c50, c51, c52, c53, c54, c55, c56, c57, c58, c59, c60, c61, c62, c63], []⟩ w5 := by
  have B5 : RowKit.Below w5.heap.size w5 w5.drew := (RowKit.Below.refl _ _).drew
  have S0 := hS _ B5
  rw [reg3_3_is]
  refine hd_start (n := 12) (fun w' => (Instr.loadAt 28 (.pointer (some ⟨bA, 0, none⟩))).run Try.prog w' = .ok X w' ∧ (Instr.loadAt 28 (.pointer (some ⟨bB, 0, none⟩))).run Try.prog w' = .ok Y w' ∧ (Instr.loadAt 32 (.pointer (some ⟨bE, 0, none⟩))).run Try.prog w' = .ok ev w') (by kernel_rfl) (by kernel_rfl) S0 ?_
  refine hl 0 39 32 7 (v := ev) (p := .pointer (some ⟨bE, 0, none⟩)) (by kernel_rfl) (by kernel_rfl) (by kernel_rfl) (fun w' hw' => hw'.2.2) S0 ?_
  refine hc (w5 := w5) 1 40 (v := .bool false) (by kernel_rfl) (h0 _ B5) (by kernel_rfl) hS B5 ?_
  intro w6 BB6 SS6
  refine ht 2 41 (.bool false) (by kernel_rfl) (fun _ _ => by kernel_rfl) SS6 ?_
  refine hk 3 42 (by kernel_rfl) SS6 ?_
  refine hk 4 43 (by kernel_rfl) SS6 ?_
  refine hk 7 46 (by kernel_rfl) SS6 ?_
  refine hk 8 47 (by kernel_rfl) SS6 ?_
  refine hs 5 44 (by kernel_rfl) SS6 ?_
  refine hk 6 45 (by kernel_rfl) SS6 ?_
  refine hs 9 48 (by kernel_rfl) SS6 ?_
  refine hk 10 49 (by kernel_rfl) SS6 ?_
  refine ht 11 50 (.bool false) (by kernel_rfl) (fun _ _ => by kernel_rfl) SS6 ?_
  refine hd_end (b := ⟨#[.slice A n c, c1, c2, c3, c4, .pointer (some ⟨bA, 0, none⟩), .pointer (some ⟨bB, 0, none⟩), .pointer (some ⟨bE, 0, none⟩), c8, c9, c10, c11, c12, c13, c14, c15, c16, c17, c18, c19, c20, c21, c22, c23, c24, c25, c26, c27, c28, c29, c30, c31, c32, c33, c34, c35, c36, c37, c38, ev, .bool false, .bool false, undef, undef, undef, undef, undef, undef, undef, undef, .bool false, c51, c52, c53, c54, c55, c56, c57, c58, c59, c60, c61, c62, c63], []⟩) (by kernel_rfl) (by kernel_rfl) ?_
  exact hQ _ _ _ _ _ _ _ _ _ _ _ _ BB6

set_option maxHeartbeats 2000000 in
set_option maxRecDepth 100000 in
theorem reg3_3_on (A : Option Addr) (n c bA bB bE : Nat) (X Y ev : Value) (w5 : World) (Q : Exit → Act → World → Prop)
    (hS : ∀ w', RowKit.Below w5.heap.size w5 w' → (Instr.loadAt 28 (.pointer (some ⟨bA, 0, none⟩))).run Try.prog w' = .ok X w' ∧ (Instr.loadAt 28 (.pointer (some ⟨bB, 0, none⟩))).run Try.prog w' = .ok Y w' ∧ (Instr.loadAt 32 (.pointer (some ⟨bE, 0, none⟩))).run Try.prog w' = .ok ev w')
    (F : Nat) (z : Bool) (hz : ((F : Int) == 0) = z) (h0 : ∀ w', RowKit.Below w5.heap.size w5 w' → Calls Try.prog 12 #[ev] w' fun e' w6 => e' = .returned (.bool true) ∧ RowKit.Below w'.heap.size w' w6) (h1 : ∀ w', RowKit.Below w5.heap.size w5 w' → Calls Try.prog 13 #[.slice A n c, ev] w' fun e' w6 => e' = .returned (.int .u64 (F : Int)) ∧ RowKit.Below w'.heap.size w' w6) (h2 : ∀ w', RowKit.Below w5.heap.size w5 w' → Calls Try.prog 14 #[.slice A n c, ev] w' fun e' w6 => e' = .returned (.bool z) ∧ RowKit.Below w'.heap.size w' w6) (c1 c2 c3 c4 c8 c9 c10 c11 c12 c13 c14 c15 c16 c17 c18 c19 c20 c21 c22 c23 c24 c25 c26 c27 c28 c29 c30 c31 c32 c33 c34 c35 c36 c37 c38 c39 c40 c41 c42 c43 c44 c45 c46 c47 c48 c49 c50 c51 c52 c53 c54 c55 c56 c57 c58 c59 c60 c61 c62 c63 : Value)
    (hQ : ∀ (u39 u40 u41 u42 u43 u44 u45 u46 u47 u48 u49 : Value) (w6 : World), RowKit.Below w5.heap.size w5 w6 → Q .normal ⟨#[.slice A n c, c1, c2, c3, c4, .pointer (some ⟨bA, 0, none⟩), .pointer (some ⟨bB, 0, none⟩), .pointer (some ⟨bE, 0, none⟩), c8, c9, c10, c11, c12, c13, c14, c15, c16, c17, c18, c19, c20, c21, c22, c23, c24, c25, c26, c27, c28, c29, c30, c31, c32, c33, c34, c35, c36, c37, c38, u39, u40, u41, u42, u43, u44, u45, u46, u47, u48, u49, .bool false, c51, c52, c53, c54, c55, c56, c57, c58, c59, c60, c61, c62, c63], []⟩ w6) : Code.wp Try.prog reg3_3 Q ⟨#[.slice A n c, c1, c2, c3, c4, .pointer (some ⟨bA, 0, none⟩), .pointer (some ⟨bB, 0, none⟩), .pointer (some ⟨bE, 0, none⟩), c8, c9, c10, c11, c12, c13, c14, c15, c16, c17, c18, c19, c20, c21, c22, c23, c24, c25, c26, c27, c28, c29, c30, c31, c32, c33, c34, c35, c36, c37, c38, c39, c40, c41, c42, c43, c44, c45, c46, c47, c48, c49, c50, c51, c52, c53, c54, c55, c56, c57, c58, c59, c60, c61, c62, c63], []⟩ w5 := by
  have B5 : RowKit.Below w5.heap.size w5 w5.drew := (RowKit.Below.refl _ _).drew
  have S0 := hS _ B5
  rw [reg3_3_is]
  refine hd_start (n := 12) (fun w' => (Instr.loadAt 28 (.pointer (some ⟨bA, 0, none⟩))).run Try.prog w' = .ok X w' ∧ (Instr.loadAt 28 (.pointer (some ⟨bB, 0, none⟩))).run Try.prog w' = .ok Y w' ∧ (Instr.loadAt 32 (.pointer (some ⟨bE, 0, none⟩))).run Try.prog w' = .ok ev w') (by kernel_rfl) (by kernel_rfl) S0 ?_
  refine hl 0 39 32 7 (v := ev) (p := .pointer (some ⟨bE, 0, none⟩)) (by kernel_rfl) (by kernel_rfl) (by kernel_rfl) (fun w' hw' => hw'.2.2) S0 ?_
  refine hc (w5 := w5) 1 40 (v := .bool true) (by kernel_rfl) (h0 _ B5) (by kernel_rfl) hS B5 ?_
  intro w6 BB6 SS6
  refine ht 2 41 (.bool true) (by kernel_rfl) (fun _ _ => by kernel_rfl) SS6 ?_
  refine ht 3 42 (.slice A n c) (by kernel_rfl) (fun _ _ => by kernel_rfl) SS6 ?_
  refine hl 4 43 32 7 (v := ev) (p := .pointer (some ⟨bE, 0, none⟩)) (by kernel_rfl) (by kernel_rfl) (by kernel_rfl) (fun w' hw' => hw'.2.2) SS6 ?_
  refine ht 7 46 (.slice A n c) (by kernel_rfl) (fun _ _ => by kernel_rfl) SS6 ?_
  refine hl 8 47 32 7 (v := ev) (p := .pointer (some ⟨bE, 0, none⟩)) (by kernel_rfl) (by kernel_rfl) (by kernel_rfl) (fun w' hw' => hw'.2.2) SS6 ?_
  refine hc (w5 := w5) 5 44 (v := .int .u64 (F : Int)) (by kernel_rfl) (h1 _ BB6) (by kernel_rfl) hS BB6 ?_
  intro w7 BB7 SS7
  refine ht 6 45 (.bool z) (by kernel_rfl) (fun w' _ => ex_bin (op := .eql) (t := 37) (t' := 37) (x := .tmp 44) (y := .const (.int .u64 0)) (p := .int .u64 (F : Int)) (q := .int .u64 0) (by kernel_rfl) (by kernel_rfl) (by kernel_rfl) (eqz_run F z hz _ _ w')) SS7 ?_
  refine hc (w5 := w5) 9 48 (v := .bool z) (by kernel_rfl) (h2 _ BB7) (by kernel_rfl) hS BB7 ?_
  intro w8 BB8 SS8
  refine ht 10 49 (.bool false) (by kernel_rfl) (fun w' _ => ex_bin (op := .neq) (t := 4) (t' := 4) (x := .tmp 45) (y := .tmp 48) (p := .bool z) (q := .bool z) (by kernel_rfl) (by kernel_rfl) (by kernel_rfl) (neqb_run z _ _ w')) SS8 ?_
  refine ht 11 50 (.bool false) (by kernel_rfl) (fun _ _ => by kernel_rfl) SS8 ?_
  refine hd_end (b := ⟨#[.slice A n c, c1, c2, c3, c4, .pointer (some ⟨bA, 0, none⟩), .pointer (some ⟨bB, 0, none⟩), .pointer (some ⟨bE, 0, none⟩), c8, c9, c10, c11, c12, c13, c14, c15, c16, c17, c18, c19, c20, c21, c22, c23, c24, c25, c26, c27, c28, c29, c30, c31, c32, c33, c34, c35, c36, c37, c38, ev, .bool true, .bool true, .slice A n c, ev, .int .u64 (F : Int), .bool z, .slice A n c, ev, .bool z, .bool false, .bool false, c51, c52, c53, c54, c55, c56, c57, c58, c59, c60, c61, c62, c63], []⟩) (by kernel_rfl) (by kernel_rfl) ?_
  exact hQ _ _ _ _ _ _ _ _ _ _ _ _ BB8

set_option maxHeartbeats 2000000 in
set_option maxRecDepth 100000 in
theorem reg3_5_off (A : Option Addr) (n c bA bB bE : Nat) (X Y ev : Value) (w5 : World) (Q : Exit → Act → World → Prop)
    (hS : ∀ w', RowKit.Below w5.heap.size w5 w' → (Instr.loadAt 28 (.pointer (some ⟨bA, 0, none⟩))).run Try.prog w' = .ok X w' ∧ (Instr.loadAt 28 (.pointer (some ⟨bB, 0, none⟩))).run Try.prog w' = .ok Y w' ∧ (Instr.loadAt 32 (.pointer (some ⟨bE, 0, none⟩))).run Try.prog w' = .ok ev w')
    (h0 : ∀ w', RowKit.Below w5.heap.size w5 w' → Calls Try.prog 15 #[X, Y] w' fun e' w6 => e' = .returned (.bool false) ∧ RowKit.Below w'.heap.size w' w6) (c1 c2 c3 c4 c8 c9 c10 c11 c12 c13 c14 c15 c16 c17 c18 c19 c20 c21 c22 c23 c24 c25 c26 c27 c28 c29 c30 c31 c32 c33 c34 c35 c36 c37 c38 c39 c40 c41 c42 c43 c44 c45 c46 c47 c48 c49 c50 c51 c52 c53 c54 c55 c56 c57 c58 c59 c60 c61 c62 c63 : Value)
    (hQ : ∀ (u51 u52 u53 u54 u55 u56 u57 u58 u59 u60 u61 u62 u63 : Value) (w6 : World), RowKit.Below w5.heap.size w5 w6 → Q .normal ⟨#[.slice A n c, c1, c2, c3, c4, .pointer (some ⟨bA, 0, none⟩), .pointer (some ⟨bB, 0, none⟩), .pointer (some ⟨bE, 0, none⟩), .bool true, c9, c10, c11, c12, c13, c14, c15, c16, c17, c18, c19, c20, c21, c22, c23, c24, c25, c26, c27, c28, c29, c30, c31, c32, c33, c34, c35, c36, c37, c38, c39, c40, c41, c42, c43, c44, c45, c46, c47, c48, c49, c50, u51, u52, u53, u54, u55, u56, u57, u58, u59, u60, u61, u62, u63], []⟩ w6) : Code.wp Try.prog reg3_5 Q ⟨#[.slice A n c, c1, c2, c3, c4, .pointer (some ⟨bA, 0, none⟩), .pointer (some ⟨bB, 0, none⟩), .pointer (some ⟨bE, 0, none⟩), c8, c9, c10, c11, c12, c13, c14, c15, c16, c17, c18, c19, c20, c21, c22, c23, c24, c25, c26, c27, c28, c29, c30, c31, c32, c33, c34, c35, c36, c37, c38, c39, c40, c41, c42, c43, c44, c45, c46, c47, c48, c49, c50, c51, c52, c53, c54, c55, c56, c57, c58, c59, c60, c61, c62, c63], []⟩ w5 := by
  have B5 : RowKit.Below w5.heap.size w5 w5.drew := (RowKit.Below.refl _ _).drew
  have S0 := hS _ B5
  rw [reg3_5_is]
  refine hd_start (n := 14) (fun w' => (Instr.loadAt 28 (.pointer (some ⟨bA, 0, none⟩))).run Try.prog w' = .ok X w' ∧ (Instr.loadAt 28 (.pointer (some ⟨bB, 0, none⟩))).run Try.prog w' = .ok Y w' ∧ (Instr.loadAt 32 (.pointer (some ⟨bE, 0, none⟩))).run Try.prog w' = .ok ev w') (by kernel_rfl) (by kernel_rfl) S0 ?_
  refine hl 0 51 28 5 (v := X) (p := .pointer (some ⟨bA, 0, none⟩)) (by kernel_rfl) (by kernel_rfl) (by kernel_rfl) (fun w' hw' => hw'.1) S0 ?_
  refine hl 1 52 28 6 (v := Y) (p := .pointer (some ⟨bB, 0, none⟩)) (by kernel_rfl) (by kernel_rfl) (by kernel_rfl) (fun w' hw' => hw'.2.1) S0 ?_
  refine hc (w5 := w5) 2 53 (v := .bool false) (by kernel_rfl) (h0 _ B5) (by kernel_rfl) hS B5 ?_
  intro w6 BB6 SS6
  refine ht 3 54 (.bool true) (by kernel_rfl) (fun _ _ => by kernel_rfl) SS6 ?_
  refine ht 4 55 (.bool true) (by kernel_rfl) (fun _ _ => by kernel_rfl) SS6 ?_
  refine hk 5 56 (by kernel_rfl) SS6 ?_
  refine hk 6 57 (by kernel_rfl) SS6 ?_
  refine hk 8 59 (by kernel_rfl) SS6 ?_
  refine hk 9 60 (by kernel_rfl) SS6 ?_
  refine hs 7 58 (by kernel_rfl) SS6 ?_
  refine hs 10 61 (by kernel_rfl) SS6 ?_
  refine hk 11 62 (by kernel_rfl) SS6 ?_
  refine ht 12 63 (.bool true) (by kernel_rfl) (fun _ _ => by kernel_rfl) SS6 ?_
  refine ht 13 8 (.bool true) (by kernel_rfl) (fun _ _ => by kernel_rfl) SS6 ?_
  refine hd_end (b := ⟨#[.slice A n c, c1, c2, c3, c4, .pointer (some ⟨bA, 0, none⟩), .pointer (some ⟨bB, 0, none⟩), .pointer (some ⟨bE, 0, none⟩), .bool true, c9, c10, c11, c12, c13, c14, c15, c16, c17, c18, c19, c20, c21, c22, c23, c24, c25, c26, c27, c28, c29, c30, c31, c32, c33, c34, c35, c36, c37, c38, c39, c40, c41, c42, c43, c44, c45, c46, c47, c48, c49, c50, X, Y, .bool false, .bool true, .bool true, undef, undef, undef, undef, undef, undef, undef, .bool true], []⟩) (by kernel_rfl) (by kernel_rfl) ?_
  exact hQ _ _ _ _ _ _ _ _ _ _ _ _ _ _ BB6

set_option maxHeartbeats 2000000 in
set_option maxRecDepth 100000 in
theorem reg3_5_on (A : Option Addr) (n c bA bB bE : Nat) (X Y ev : Value) (w5 : World) (Q : Exit → Act → World → Prop)
    (hS : ∀ w', RowKit.Below w5.heap.size w5 w' → (Instr.loadAt 28 (.pointer (some ⟨bA, 0, none⟩))).run Try.prog w' = .ok X w' ∧ (Instr.loadAt 28 (.pointer (some ⟨bB, 0, none⟩))).run Try.prog w' = .ok Y w' ∧ (Instr.loadAt 32 (.pointer (some ⟨bE, 0, none⟩))).run Try.prog w' = .ok ev w')
    (F G : Nat) (hle : G ≤ F) (h0 : ∀ w', RowKit.Below w5.heap.size w5 w' → Calls Try.prog 15 #[X, Y] w' fun e' w6 => e' = .returned (.bool true) ∧ RowKit.Below w'.heap.size w' w6) (h1 : ∀ w', RowKit.Below w5.heap.size w5 w' → Calls Try.prog 16 #[X, ev] w' fun e' w6 => e' = .returned (.int .u64 (F : Int)) ∧ RowKit.Below w'.heap.size w' w6) (h2 : ∀ w', RowKit.Below w5.heap.size w5 w' → Calls Try.prog 16 #[Y, ev] w' fun e' w6 => e' = .returned (.int .u64 (G : Int)) ∧ RowKit.Below w'.heap.size w' w6) (c1 c2 c3 c4 c8 c9 c10 c11 c12 c13 c14 c15 c16 c17 c18 c19 c20 c21 c22 c23 c24 c25 c26 c27 c28 c29 c30 c31 c32 c33 c34 c35 c36 c37 c38 c39 c40 c41 c42 c43 c44 c45 c46 c47 c48 c49 c50 c51 c52 c53 c54 c55 c56 c57 c58 c59 c60 c61 c62 c63 : Value)
    (hQ : ∀ (u51 u52 u53 u54 u55 u56 u57 u58 u59 u60 u61 u62 u63 : Value) (w6 : World), RowKit.Below w5.heap.size w5 w6 → Q .normal ⟨#[.slice A n c, c1, c2, c3, c4, .pointer (some ⟨bA, 0, none⟩), .pointer (some ⟨bB, 0, none⟩), .pointer (some ⟨bE, 0, none⟩), .bool true, c9, c10, c11, c12, c13, c14, c15, c16, c17, c18, c19, c20, c21, c22, c23, c24, c25, c26, c27, c28, c29, c30, c31, c32, c33, c34, c35, c36, c37, c38, c39, c40, c41, c42, c43, c44, c45, c46, c47, c48, c49, c50, u51, u52, u53, u54, u55, u56, u57, u58, u59, u60, u61, u62, u63], []⟩ w6) : Code.wp Try.prog reg3_5 Q ⟨#[.slice A n c, c1, c2, c3, c4, .pointer (some ⟨bA, 0, none⟩), .pointer (some ⟨bB, 0, none⟩), .pointer (some ⟨bE, 0, none⟩), c8, c9, c10, c11, c12, c13, c14, c15, c16, c17, c18, c19, c20, c21, c22, c23, c24, c25, c26, c27, c28, c29, c30, c31, c32, c33, c34, c35, c36, c37, c38, c39, c40, c41, c42, c43, c44, c45, c46, c47, c48, c49, c50, c51, c52, c53, c54, c55, c56, c57, c58, c59, c60, c61, c62, c63], []⟩ w5 := by
  have B5 : RowKit.Below w5.heap.size w5 w5.drew := (RowKit.Below.refl _ _).drew
  have S0 := hS _ B5
  rw [reg3_5_is]
  refine hd_start (n := 14) (fun w' => (Instr.loadAt 28 (.pointer (some ⟨bA, 0, none⟩))).run Try.prog w' = .ok X w' ∧ (Instr.loadAt 28 (.pointer (some ⟨bB, 0, none⟩))).run Try.prog w' = .ok Y w' ∧ (Instr.loadAt 32 (.pointer (some ⟨bE, 0, none⟩))).run Try.prog w' = .ok ev w') (by kernel_rfl) (by kernel_rfl) S0 ?_
  refine hl 0 51 28 5 (v := X) (p := .pointer (some ⟨bA, 0, none⟩)) (by kernel_rfl) (by kernel_rfl) (by kernel_rfl) (fun w' hw' => hw'.1) S0 ?_
  refine hl 1 52 28 6 (v := Y) (p := .pointer (some ⟨bB, 0, none⟩)) (by kernel_rfl) (by kernel_rfl) (by kernel_rfl) (fun w' hw' => hw'.2.1) S0 ?_
  refine hc (w5 := w5) 2 53 (v := .bool true) (by kernel_rfl) (h0 _ B5) (by kernel_rfl) hS B5 ?_
  intro w6 BB6 SS6
  refine ht 3 54 (.bool false) (by kernel_rfl) (fun _ _ => by kernel_rfl) SS6 ?_
  refine ht 4 55 (.bool false) (by kernel_rfl) (fun _ _ => by kernel_rfl) SS6 ?_
  refine hl 5 56 28 5 (v := X) (p := .pointer (some ⟨bA, 0, none⟩)) (by kernel_rfl) (by kernel_rfl) (by kernel_rfl) (fun w' hw' => hw'.1) SS6 ?_
  refine hl 6 57 32 7 (v := ev) (p := .pointer (some ⟨bE, 0, none⟩)) (by kernel_rfl) (by kernel_rfl) (by kernel_rfl) (fun w' hw' => hw'.2.2) SS6 ?_
  refine hl 8 59 28 6 (v := Y) (p := .pointer (some ⟨bB, 0, none⟩)) (by kernel_rfl) (by kernel_rfl) (by kernel_rfl) (fun w' hw' => hw'.2.1) SS6 ?_
  refine hl 9 60 32 7 (v := ev) (p := .pointer (some ⟨bE, 0, none⟩)) (by kernel_rfl) (by kernel_rfl) (by kernel_rfl) (fun w' hw' => hw'.2.2) SS6 ?_
  refine hc (w5 := w5) 7 58 (v := .int .u64 (F : Int)) (by kernel_rfl) (h1 _ BB6) (by kernel_rfl) hS BB6 ?_
  intro w7 BB7 SS7
  refine hc (w5 := w5) 10 61 (v := .int .u64 (G : Int)) (by kernel_rfl) (h2 _ BB7) (by kernel_rfl) hS BB7 ?_
  intro w8 BB8 SS8
  refine ht 11 62 (.bool true) (by kernel_rfl) (fun w' _ => ex_bin (op := .geq) (t := 37) (t' := 37) (x := .tmp 58) (y := .tmp 61) (p := .int .u64 (F : Int)) (q := .int .u64 (G : Int)) (by kernel_rfl) (by kernel_rfl) (by kernel_rfl) (geq37_run F G hle _ _ w')) SS8 ?_
  refine ht 12 63 (.bool true) (by kernel_rfl) (fun _ _ => by kernel_rfl) SS8 ?_
  refine ht 13 8 (.bool true) (by kernel_rfl) (fun _ _ => by kernel_rfl) SS8 ?_
  refine hd_end (b := ⟨#[.slice A n c, c1, c2, c3, c4, .pointer (some ⟨bA, 0, none⟩), .pointer (some ⟨bB, 0, none⟩), .pointer (some ⟨bE, 0, none⟩), .bool true, c9, c10, c11, c12, c13, c14, c15, c16, c17, c18, c19, c20, c21, c22, c23, c24, c25, c26, c27, c28, c29, c30, c31, c32, c33, c34, c35, c36, c37, c38, c39, c40, c41, c42, c43, c44, c45, c46, c47, c48, c49, c50, X, Y, .bool true, .bool false, .bool false, X, ev, .int .u64 (F : Int), Y, ev, .int .u64 (G : Int), .bool true, .bool true], []⟩) (by kernel_rfl) (by kernel_rfl) ?_
  exact hQ _ _ _ _ _ _ _ _ _ _ _ _ _ _ BB8

end Go.Proofs.Ytfhokhhpfdmfiaa
