/- GapFilters: the last line, a region that draws its order: as a declaration of its own. -/
import Derived.Test.YtfhokhhpfdmfiaaRow
import Derived.Test.YtfhokhhpfdmfiaaHand
namespace Go.Proofs.Ytfhokhhpfdmfiaa
open Go.RowKit

/-- The region of a number. -/
def regAt (k : Nat) : Code → Option Code
  | .region id ops b => if id = k then some (.region id ops b) else none
  | .loop c => regAt k c
  | .seq a b => match regAt k a with
    | some c => some c
    | none => regAt k b
  | .block _ c => regAt k c
  | .scope c => regAt k c
  | .cond _ a b => match regAt k a with
    | some c => some c
    | none => regAt k b
  | _ => none
def opsOf : Code → Array Oper
  | .region _ ops _ => ops
  | _ => #[]
noncomputable def reg5 : Code := (Try.f6.body.bind (regAt 5)).getD .skip
noncomputable def ops5 : Array Oper := opsOf reg5
noncomputable def op5 (k : Nat) : Oper := (ops5[k]?).getD ⟨none, .move (.tmp 0), 0, "", #[], none⟩
theorem reg5_is : reg5 = .region 5 ops5 true := by kernel_rfl

theorem leq_run (x y : Nat) (h : x ≤ y) (u v : Operand) (w : World) : (do eqGuard .leq 37 u v (.int .u64 (x : Int)) (.int .u64 (y : Int)); binOp .leq 37 (.int .u64 (x : Int)) (.int .u64 (y : Int)) : Sem Value).run Try.prog w = .ok (.bool true) w := by
  have h1 : decide ((x : Int) ≤ y) = true := by rw [decide_eq_true_eq]; omega
  have e : (do eqGuard .leq 37 u v (.int .u64 (x : Int)) (.int .u64 (y : Int)); binOp .leq 37 (.int .u64 (x : Int)) (.int .u64 (y : Int)) : Sem Value).run Try.prog w = .ok (.bool (decide ((x : Int) ≤ y))) w := by kernel_rfl
  rw [e, h1]
theorem eql_run (x y : Nat) (b : Bool) (h : ((x : Int) == (y : Int)) = b) (u v : Operand) (w : World) : (do eqGuard .eql 37 u v (.int .u64 (x : Int)) (.int .u64 (y : Int)); binOp .eql 37 (.int .u64 (x : Int)) (.int .u64 (y : Int)) : Sem Value).run Try.prog w = .ok (.bool b) w := by
  have e : (do eqGuard .eql 37 u v (.int .u64 (x : Int)) (.int .u64 (y : Int)); binOp .eql 37 (.int .u64 (x : Int)) (.int .u64 (y : Int)) : Sem Value).run Try.prog w = .ok (.bool ((x : Int) == (y : Int))) w := by kernel_rfl
  rw [e, h]

set_option linter.unusedVariables false in
set_option maxHeartbeats 2000000 in
set_option maxRecDepth 100000 in
theorem reg5_box (A : Option Addr) (n c bB bE : Nat) (bx ev : Value) (ob : Obj) (D F G : Nat) (w5 : World) (Q : Exit → Act → World → Prop)
    (hS : ∀ w', Below w5.heap.size w5 w' → (Instr.loadAt 28 (.pointer (some ⟨bB, 0, none⟩))).run Try.prog w' = .ok bx w' ∧ (Instr.loadAt 32 (.pointer (some ⟨bE, 0, none⟩))).run Try.prog w' = .ok ev w')
    (hF : ∀ w', Below w5.heap.size w5 w' → Calls Try.prog 13 #[.slice A n c, ev] w' fun e' w6 => e' = .returned (.int .u64 (F : Int)) ∧ Below w'.heap.size w' w6)
    (hO : ∀ w' g, Below w5.heap.size w5 w' → w'.heap[g]? = some ob → Calls Try.prog 13 #[.slice (some ⟨g, 0, none⟩) 1 1, ev] w' fun e' w6 => e' = .returned (.int .u64 (G : Int)) ∧ Below w'.heap.size w' w6)
    (hG : ∀ w', Below w5.heap.size w5 w' → Calls Try.prog 16 #[bx, ev] w' fun e' w6 => e' = .returned (.int .u64 (G : Int)) ∧ Below w'.heap.size w' w6)
    (hB : ∀ w', (Instr.buildSlice 50 1 #[(0, bx)]).run Try.prog w' = .ok (.slice (some ⟨w'.heap.size, 0, none⟩) 1 1) (w'.alloc ob))
    (dF : D ≤ F) (dG : D ≤ G) (hDF : ((D : Int) == (F : Int)) = false) (hDG : ((D : Int) == (G : Int)) = true) (c1 c2 c3 c6 c7 c9 c10 c11 c12 c13 c14 c15 c16 c17 c18 c19 c20 c21 c22 c23 c24 c25 c26 c27 c28 c29 c30 c31 c32 c33 c34 c35 c36 c37 c38 c39 c40 c41 c42 c43 c44 c45 c46 c47 c48 c49 c50 c51 c52 c53 c54 c55 c56 c57 c58 c59 c60 c61 c62 c63 c64 c65 c66 c67 c68 c69 c70 c71 c72 : Value)
    (hQ : ∀ (u37 u38 u39 u40 u41 u42 u43 u44 u45 u46 u47 u48 u49 u50 u51 u52 u53 u54 u55 u56 u57 u58 u59 u60 u61 u62 u63 u64 u65 u66 u67 u68 u69 u70 u71 u72 : Value) (w6 : World), Below w5.heap.size w5 w6 → Q .normal ⟨#[.slice A n c, c1, c2, c3, .pointer (some ⟨bB, 0, none⟩), .pointer (some ⟨bE, 0, none⟩), .bool true, c7, .int .u64 (D : Int), c9, c10, c11, c12, c13, c14, c15, c16, c17, c18, c19, c20, c21, c22, c23, c24, c25, c26, c27, c28, c29, c30, c31, c32, c33, c34, c35, c36, u37, u38, u39, u40, u41, u42, u43, u44, u45, u46, u47, u48, u49, u50, u51, u52, u53, u54, u55, u56, u57, u58, u59, u60, u61, u62, u63, u64, u65, u66, u67, u68, u69, u70, u71, u72], []⟩ w6) : Code.wp Try.prog reg5 Q ⟨#[.slice A n c, c1, c2, c3, .pointer (some ⟨bB, 0, none⟩), .pointer (some ⟨bE, 0, none⟩), c6, c7, .int .u64 (D : Int), c9, c10, c11, c12, c13, c14, c15, c16, c17, c18, c19, c20, c21, c22, c23, c24, c25, c26, c27, c28, c29, c30, c31, c32, c33, c34, c35, c36, c37, c38, c39, c40, c41, c42, c43, c44, c45, c46, c47, c48, c49, c50, c51, c52, c53, c54, c55, c56, c57, c58, c59, c60, c61, c62, c63, c64, c65, c66, c67, c68, c69, c70, c71, c72], []⟩ w5 := by
  have hA : ∀ w', Below w5.heap.size w5 w' → Below w5.heap.size w5 (w'.alloc ob) := fun w' h => h.alloc h.size _
  have B5 : Below w5.heap.size w5 w5.drew := (Below.refl _ _).drew
  have S0 := hS _ B5
  rw [reg5_is]
  refine hd_start (n := 37) (fun w' => (Instr.loadAt 28 (.pointer (some ⟨bB, 0, none⟩))).run Try.prog w' = .ok bx w' ∧ (Instr.loadAt 32 (.pointer (some ⟨bE, 0, none⟩))).run Try.prog w' = .ok ev w') (by kernel_rfl) (by kernel_rfl) S0 ?_
  refine hd_take (i := 0) (op5 0) (some 37) (.int .u64 (D : Int)) (by kernel_rfl) (by kernel_rfl) (by kernel_rfl) (by kernel_rfl) (by kernel_rfl) (by kernel_rfl) (fun _ _ => by kernel_rfl) S0 ?_
  refine hd_take (i := 1) (op5 1) (some 38) (.slice A n c) (by kernel_rfl) (by kernel_rfl) (by kernel_rfl) (by kernel_rfl) (by kernel_rfl) (by kernel_rfl) (fun _ _ => by kernel_rfl) S0 ?_
  refine hd_take (i := 2) (op5 2) (some 39) (ev) (by kernel_rfl) (by kernel_rfl) (by kernel_rfl) (by kernel_rfl) (by kernel_rfl) (by kernel_rfl) (fun w' hw' => ex_load (ty := 32) (x := .tmp 5) (p := .pointer (some ⟨bE, 0, none⟩)) (by kernel_rfl) (by kernel_rfl) hw'.2) S0 ?_
  refine hd_call (i := 3) (op5 3) (some 40) 13 #[.slice A n c, ev] (.int .u64 (F : Int)) (fun w' => Below (w5.drew).heap.size (w5.drew) w') (by kernel_rfl) (by kernel_rfl) (by kernel_rfl) (by kernel_rfl) (by kernel_rfl) (hF _ B5) ?_
  intro w6 hb6
  have B6 : Below w5.heap.size w5 w6 := below_step B5 (B5.size) hb6
  have S6 := hS w6 B6
  refine ⟨S6, ?_⟩
  refine hd_take (i := 4) (op5 4) (some 41) (.bool true) (by kernel_rfl) (by kernel_rfl) (by kernel_rfl) (by kernel_rfl) (by kernel_rfl) (by kernel_rfl) (fun w' _ => ex_bin (op := .leq) (t := 37) (t' := 37) (x := .tmp 37) (y := .tmp 40) (p := .int .u64 (D : Int)) (q := .int .u64 (F : Int)) (by kernel_rfl) (by kernel_rfl) (by kernel_rfl) (leq_run D F dF _ _ w')) S6 ?_
  refine hd_take (i := 5) (op5 5) (some 42) (.bool true) (by kernel_rfl) (by kernel_rfl) (by kernel_rfl) (by kernel_rfl) (by kernel_rfl) (by kernel_rfl) (fun _ _ => by kernel_rfl) S6 ?_
  refine hd_take (i := 6) (op5 6) (some 43) (.int .u64 (D : Int)) (by kernel_rfl) (by kernel_rfl) (by kernel_rfl) (by kernel_rfl) (by kernel_rfl) (by kernel_rfl) (fun _ _ => by kernel_rfl) S6 ?_
  refine hd_take (i := 7) (op5 7) (some 44) (bx) (by kernel_rfl) (by kernel_rfl) (by kernel_rfl) (by kernel_rfl) (by kernel_rfl) (by kernel_rfl) (fun w' hw' => ex_load (ty := 28) (x := .tmp 4) (p := .pointer (some ⟨bB, 0, none⟩)) (by kernel_rfl) (by kernel_rfl) hw'.1) S6 ?_
  refine hd_take (i := 8) (op5 8) (some 45) (ev) (by kernel_rfl) (by kernel_rfl) (by kernel_rfl) (by kernel_rfl) (by kernel_rfl) (by kernel_rfl) (fun w' hw' => ex_load (ty := 32) (x := .tmp 5) (p := .pointer (some ⟨bE, 0, none⟩)) (by kernel_rfl) (by kernel_rfl) hw'.2) S6 ?_
  refine hd_call (i := 9) (op5 9) (some 46) 16 #[bx, ev] (.int .u64 (G : Int)) (fun w' => Below (w6).heap.size (w6) w') (by kernel_rfl) (by kernel_rfl) (by kernel_rfl) (by kernel_rfl) (by kernel_rfl) (hG _ B6) ?_
  intro w7 hb7
  have B7 : Below w5.heap.size w5 w7 := below_step B6 (B6.size) hb7
  have S7 := hS w7 B7
  refine ⟨S7, ?_⟩
  refine hd_take (i := 10) (op5 10) (some 47) (.bool true) (by kernel_rfl) (by kernel_rfl) (by kernel_rfl) (by kernel_rfl) (by kernel_rfl) (by kernel_rfl) (fun w' _ => ex_bin (op := .leq) (t := 37) (t' := 37) (x := .tmp 43) (y := .tmp 46) (p := .int .u64 (D : Int)) (q := .int .u64 (G : Int)) (by kernel_rfl) (by kernel_rfl) (by kernel_rfl) (leq_run D G dG _ _ w')) S7 ?_
  refine hd_take (i := 11) (op5 11) (some 48) (.bool true) (by kernel_rfl) (by kernel_rfl) (by kernel_rfl) (by kernel_rfl) (by kernel_rfl) (by kernel_rfl) (fun _ _ => by kernel_rfl) S7 ?_
  refine hd_take (i := 12) (op5 12) (some 49) (.bool true) (by kernel_rfl) (by kernel_rfl) (by kernel_rfl) (by kernel_rfl) (by kernel_rfl) (by kernel_rfl) (fun _ _ => by kernel_rfl) S7 ?_
  refine hd_take (i := 13) (op5 13) (some 50) (.int .u64 (D : Int)) (by kernel_rfl) (by kernel_rfl) (by kernel_rfl) (by kernel_rfl) (by kernel_rfl) (by kernel_rfl) (fun _ _ => by kernel_rfl) S7 ?_
  refine hd_take (i := 14) (op5 14) (some 51) (.slice A n c) (by kernel_rfl) (by kernel_rfl) (by kernel_rfl) (by kernel_rfl) (by kernel_rfl) (by kernel_rfl) (fun _ _ => by kernel_rfl) S7 ?_
  refine hd_take (i := 15) (op5 15) (some 52) (ev) (by kernel_rfl) (by kernel_rfl) (by kernel_rfl) (by kernel_rfl) (by kernel_rfl) (by kernel_rfl) (fun w' hw' => ex_load (ty := 32) (x := .tmp 5) (p := .pointer (some ⟨bE, 0, none⟩)) (by kernel_rfl) (by kernel_rfl) hw'.2) S7 ?_
  refine hd_call (i := 16) (op5 16) (some 53) 13 #[.slice A n c, ev] (.int .u64 (F : Int)) (fun w' => Below (w7).heap.size (w7) w') (by kernel_rfl) (by kernel_rfl) (by kernel_rfl) (by kernel_rfl) (by kernel_rfl) (hF _ B7) ?_
  intro w8 hb8
  have B8 : Below w5.heap.size w5 w8 := below_step B7 (B7.size) hb8
  have S8 := hS w8 B8
  refine ⟨S8, ?_⟩
  refine hd_take (i := 17) (op5 17) (some 54) (.bool false) (by kernel_rfl) (by kernel_rfl) (by kernel_rfl) (by kernel_rfl) (by kernel_rfl) (by kernel_rfl) (fun w' _ => ex_bin (op := .eql) (t := 37) (t' := 37) (x := .tmp 50) (y := .tmp 53) (p := .int .u64 (D : Int)) (q := .int .u64 (F : Int)) (by kernel_rfl) (by kernel_rfl) (by kernel_rfl) (eql_run D F false hDF _ _ w')) S8 ?_
  refine hd_take (i := 18) (op5 18) (some 55) (.bool false) (by kernel_rfl) (by kernel_rfl) (by kernel_rfl) (by kernel_rfl) (by kernel_rfl) (by kernel_rfl) (fun _ _ => by kernel_rfl) S8 ?_
  refine hd_take (i := 19) (op5 19) (some 56) (.int .u64 (D : Int)) (by kernel_rfl) (by kernel_rfl) (by kernel_rfl) (by kernel_rfl) (by kernel_rfl) (by kernel_rfl) (fun _ _ => by kernel_rfl) S8 ?_
  refine hd_take (i := 20) (op5 20) (some 57) (bx) (by kernel_rfl) (by kernel_rfl) (by kernel_rfl) (by kernel_rfl) (by kernel_rfl) (by kernel_rfl) (fun w' hw' => ex_load (ty := 28) (x := .tmp 4) (p := .pointer (some ⟨bB, 0, none⟩)) (by kernel_rfl) (by kernel_rfl) hw'.1) S8 ?_
  refine hd_take (i := 21) (op5 21) (some 58) (ev) (by kernel_rfl) (by kernel_rfl) (by kernel_rfl) (by kernel_rfl) (by kernel_rfl) (by kernel_rfl) (fun w' hw' => ex_load (ty := 32) (x := .tmp 5) (p := .pointer (some ⟨bE, 0, none⟩)) (by kernel_rfl) (by kernel_rfl) hw'.2) S8 ?_
  refine hd_call (i := 22) (op5 22) (some 59) 16 #[bx, ev] (.int .u64 (G : Int)) (fun w' => Below (w8).heap.size (w8) w') (by kernel_rfl) (by kernel_rfl) (by kernel_rfl) (by kernel_rfl) (by kernel_rfl) (hG _ B8) ?_
  intro w9 hb9
  have B9 : Below w5.heap.size w5 w9 := below_step B8 (B8.size) hb9
  have S9 := hS w9 B9
  refine ⟨S9, ?_⟩
  refine hd_take (i := 23) (op5 23) (some 60) (.bool true) (by kernel_rfl) (by kernel_rfl) (by kernel_rfl) (by kernel_rfl) (by kernel_rfl) (by kernel_rfl) (fun w' _ => ex_bin (op := .eql) (t := 37) (t' := 37) (x := .tmp 56) (y := .tmp 59) (p := .int .u64 (D : Int)) (q := .int .u64 (G : Int)) (by kernel_rfl) (by kernel_rfl) (by kernel_rfl) (eql_run D G true hDG _ _ w')) S9 ?_
  refine hd_take (i := 24) (op5 24) (some 61) (.bool true) (by kernel_rfl) (by kernel_rfl) (by kernel_rfl) (by kernel_rfl) (by kernel_rfl) (by kernel_rfl) (fun _ _ => by kernel_rfl) S9 ?_
  refine hd_take (i := 25) (op5 25) (some 62) (.bool true) (by kernel_rfl) (by kernel_rfl) (by kernel_rfl) (by kernel_rfl) (by kernel_rfl) (by kernel_rfl) (fun _ _ => by kernel_rfl) S9 ?_
  refine hd_take (i := 26) (op5 26) (some 63) (.bool true) (by kernel_rfl) (by kernel_rfl) (by kernel_rfl) (by kernel_rfl) (by kernel_rfl) (by kernel_rfl) (fun _ _ => by kernel_rfl) S9 ?_
  refine hd_take (i := 27) (op5 27) (some 64) (bx) (by kernel_rfl) (by kernel_rfl) (by kernel_rfl) (by kernel_rfl) (by kernel_rfl) (by kernel_rfl) (fun w' hw' => ex_load (ty := 28) (x := .tmp 4) (p := .pointer (some ⟨bB, 0, none⟩)) (by kernel_rfl) (by kernel_rfl) hw'.1) S9 ?_
  refine hd_take (i := 29) (op5 29) (some 66) (ev) (by kernel_rfl) (by kernel_rfl) (by kernel_rfl) (by kernel_rfl) (by kernel_rfl) (by kernel_rfl) (fun w' hw' => ex_load (ty := 32) (x := .tmp 5) (p := .pointer (some ⟨bE, 0, none⟩)) (by kernel_rfl) (by kernel_rfl) hw'.2) S9 ?_
  refine hd_take (i := 31) (op5 31) (some 68) (bx) (by kernel_rfl) (by kernel_rfl) (by kernel_rfl) (by kernel_rfl) (by kernel_rfl) (by kernel_rfl) (fun w' hw' => ex_load (ty := 28) (x := .tmp 4) (p := .pointer (some ⟨bB, 0, none⟩)) (by kernel_rfl) (by kernel_rfl) hw'.1) S9 ?_
  refine hd_take (i := 32) (op5 32) (some 69) (ev) (by kernel_rfl) (by kernel_rfl) (by kernel_rfl) (by kernel_rfl) (by kernel_rfl) (by kernel_rfl) (fun w' hw' => ex_load (ty := 32) (x := .tmp 5) (p := .pointer (some ⟨bE, 0, none⟩)) (by kernel_rfl) (by kernel_rfl) hw'.2) S9 ?_
  have BA := hA _ B9
  have SA := hS _ BA
  refine hd_make (i := 28) (op5 28) (some 65) (.slice (some ⟨(w9).heap.size, 0, none⟩) 1 1) ((w9).alloc ob) (by kernel_rfl) (by kernel_rfl) (by kernel_rfl) (by kernel_rfl) (ex_slice (t := 50) (n := 1) (x := .tmp 64) (p := bx) (by kernel_rfl) (by kernel_rfl) (hB _)) SA ?_
  refine hd_call (i := 30) (op5 30) (some 67) 13 #[.slice (some ⟨(w9).heap.size, 0, none⟩) 1 1, ev] (.int .u64 (G : Int)) (fun w' => Below ((w9).alloc ob).heap.size ((w9).alloc ob) w') (by kernel_rfl) (by kernel_rfl) (by kernel_rfl) (by kernel_rfl) (by kernel_rfl) (hO _ _ BA (bk_new _ _)) ?_
  intro w10 hb10
  have B10 : Below w5.heap.size w5 w10 := below_step BA (BA.size) hb10
  have S10 := hS w10 B10
  refine ⟨S10, ?_⟩
  refine hd_call (i := 33) (op5 33) (some 70) 16 #[bx, ev] (.int .u64 (G : Int)) (fun w' => Below (w10).heap.size (w10) w') (by kernel_rfl) (by kernel_rfl) (by kernel_rfl) (by kernel_rfl) (by kernel_rfl) (hG _ B10) ?_
  intro w11 hb11
  have B11 : Below w5.heap.size w5 w11 := below_step B10 (B10.size) hb11
  have S11 := hS w11 B11
  refine ⟨S11, ?_⟩
  refine hd_take (i := 34) (op5 34) (some 71) (.bool true) (by kernel_rfl) (by kernel_rfl) (by kernel_rfl) (by kernel_rfl) (by kernel_rfl) (by kernel_rfl) (fun w' _ => ex_bin (op := .eql) (t := 37) (t' := 37) (x := .tmp 67) (y := .tmp 70) (p := .int .u64 (G : Int)) (q := .int .u64 (G : Int)) (by kernel_rfl) (by kernel_rfl) (by kernel_rfl) (eql_run G G true (by simp) _ _ w')) S11 ?_
  refine hd_take (i := 35) (op5 35) (some 72) (.bool true) (by kernel_rfl) (by kernel_rfl) (by kernel_rfl) (by kernel_rfl) (by kernel_rfl) (by kernel_rfl) (fun _ _ => by kernel_rfl) S11 ?_
  refine hd_take (i := 36) (op5 36) (some 6) (.bool true) (by kernel_rfl) (by kernel_rfl) (by kernel_rfl) (by kernel_rfl) (by kernel_rfl) (by kernel_rfl) (fun _ _ => by kernel_rfl) S11 ?_
  refine hd_end (b := ⟨#[.slice A n c, c1, c2, c3, .pointer (some ⟨bB, 0, none⟩), .pointer (some ⟨bE, 0, none⟩), .bool true, c7, .int .u64 (D : Int), c9, c10, c11, c12, c13, c14, c15, c16, c17, c18, c19, c20, c21, c22, c23, c24, c25, c26, c27, c28, c29, c30, c31, c32, c33, c34, c35, c36, .int .u64 (D : Int), .slice A n c, ev, .int .u64 (F : Int), .bool true, .bool true, .int .u64 (D : Int), bx, ev, .int .u64 (G : Int), .bool true, .bool true, .bool true, .int .u64 (D : Int), .slice A n c, ev, .int .u64 (F : Int), .bool false, .bool false, .int .u64 (D : Int), bx, ev, .int .u64 (G : Int), .bool true, .bool true, .bool true, .bool true, bx, .slice (some ⟨(w9).heap.size, 0, none⟩) 1 1, ev, .int .u64 (G : Int), bx, ev, .int .u64 (G : Int), .bool true, .bool true], []⟩) (by kernel_rfl) (by kernel_rfl) ?_
  exact hQ _ _ _ _ _ _ _ _ _ _ _ _ _ _ _ _ _ _ _ _ _ _ _ _ _ _ _ _ _ _ _ _ _ _ _ _ _ B11

set_option linter.unusedVariables false in
set_option maxHeartbeats 2000000 in
set_option maxRecDepth 100000 in
theorem reg5_fil (A : Option Addr) (n c bB bE : Nat) (bx ev : Value) (ob : Obj) (D F G : Nat) (w5 : World) (Q : Exit → Act → World → Prop)
    (hS : ∀ w', Below w5.heap.size w5 w' → (Instr.loadAt 28 (.pointer (some ⟨bB, 0, none⟩))).run Try.prog w' = .ok bx w' ∧ (Instr.loadAt 32 (.pointer (some ⟨bE, 0, none⟩))).run Try.prog w' = .ok ev w')
    (hF : ∀ w', Below w5.heap.size w5 w' → Calls Try.prog 13 #[.slice A n c, ev] w' fun e' w6 => e' = .returned (.int .u64 (F : Int)) ∧ Below w'.heap.size w' w6)
    (hO : ∀ w' g, Below w5.heap.size w5 w' → w'.heap[g]? = some ob → Calls Try.prog 13 #[.slice (some ⟨g, 0, none⟩) 1 1, ev] w' fun e' w6 => e' = .returned (.int .u64 (G : Int)) ∧ Below w'.heap.size w' w6)
    (hG : ∀ w', Below w5.heap.size w5 w' → Calls Try.prog 16 #[bx, ev] w' fun e' w6 => e' = .returned (.int .u64 (G : Int)) ∧ Below w'.heap.size w' w6)
    (hB : ∀ w', (Instr.buildSlice 50 1 #[(0, bx)]).run Try.prog w' = .ok (.slice (some ⟨w'.heap.size, 0, none⟩) 1 1) (w'.alloc ob))
    (dF : D ≤ F) (dG : D ≤ G) (hDF : ((D : Int) == (F : Int)) = true) (c1 c2 c3 c6 c7 c9 c10 c11 c12 c13 c14 c15 c16 c17 c18 c19 c20 c21 c22 c23 c24 c25 c26 c27 c28 c29 c30 c31 c32 c33 c34 c35 c36 c37 c38 c39 c40 c41 c42 c43 c44 c45 c46 c47 c48 c49 c50 c51 c52 c53 c54 c55 c56 c57 c58 c59 c60 c61 c62 c63 c64 c65 c66 c67 c68 c69 c70 c71 c72 : Value)
    (hQ : ∀ (u37 u38 u39 u40 u41 u42 u43 u44 u45 u46 u47 u48 u49 u50 u51 u52 u53 u54 u55 u56 u57 u58 u59 u60 u61 u62 u63 u64 u65 u66 u67 u68 u69 u70 u71 u72 : Value) (w6 : World), Below w5.heap.size w5 w6 → Q .normal ⟨#[.slice A n c, c1, c2, c3, .pointer (some ⟨bB, 0, none⟩), .pointer (some ⟨bE, 0, none⟩), .bool true, c7, .int .u64 (D : Int), c9, c10, c11, c12, c13, c14, c15, c16, c17, c18, c19, c20, c21, c22, c23, c24, c25, c26, c27, c28, c29, c30, c31, c32, c33, c34, c35, c36, u37, u38, u39, u40, u41, u42, u43, u44, u45, u46, u47, u48, u49, u50, u51, u52, u53, u54, u55, u56, u57, u58, u59, u60, u61, u62, u63, u64, u65, u66, u67, u68, u69, u70, u71, u72], []⟩ w6) : Code.wp Try.prog reg5 Q ⟨#[.slice A n c, c1, c2, c3, .pointer (some ⟨bB, 0, none⟩), .pointer (some ⟨bE, 0, none⟩), c6, c7, .int .u64 (D : Int), c9, c10, c11, c12, c13, c14, c15, c16, c17, c18, c19, c20, c21, c22, c23, c24, c25, c26, c27, c28, c29, c30, c31, c32, c33, c34, c35, c36, c37, c38, c39, c40, c41, c42, c43, c44, c45, c46, c47, c48, c49, c50, c51, c52, c53, c54, c55, c56, c57, c58, c59, c60, c61, c62, c63, c64, c65, c66, c67, c68, c69, c70, c71, c72], []⟩ w5 := by
  have hA : ∀ w', Below w5.heap.size w5 w' → Below w5.heap.size w5 (w'.alloc ob) := fun w' h => h.alloc h.size _
  have B5 : Below w5.heap.size w5 w5.drew := (Below.refl _ _).drew
  have S0 := hS _ B5
  rw [reg5_is]
  refine hd_start (n := 37) (fun w' => (Instr.loadAt 28 (.pointer (some ⟨bB, 0, none⟩))).run Try.prog w' = .ok bx w' ∧ (Instr.loadAt 32 (.pointer (some ⟨bE, 0, none⟩))).run Try.prog w' = .ok ev w') (by kernel_rfl) (by kernel_rfl) S0 ?_
  refine hd_take (i := 0) (op5 0) (some 37) (.int .u64 (D : Int)) (by kernel_rfl) (by kernel_rfl) (by kernel_rfl) (by kernel_rfl) (by kernel_rfl) (by kernel_rfl) (fun _ _ => by kernel_rfl) S0 ?_
  refine hd_take (i := 1) (op5 1) (some 38) (.slice A n c) (by kernel_rfl) (by kernel_rfl) (by kernel_rfl) (by kernel_rfl) (by kernel_rfl) (by kernel_rfl) (fun _ _ => by kernel_rfl) S0 ?_
  refine hd_take (i := 2) (op5 2) (some 39) (ev) (by kernel_rfl) (by kernel_rfl) (by kernel_rfl) (by kernel_rfl) (by kernel_rfl) (by kernel_rfl) (fun w' hw' => ex_load (ty := 32) (x := .tmp 5) (p := .pointer (some ⟨bE, 0, none⟩)) (by kernel_rfl) (by kernel_rfl) hw'.2) S0 ?_
  refine hd_call (i := 3) (op5 3) (some 40) 13 #[.slice A n c, ev] (.int .u64 (F : Int)) (fun w' => Below (w5.drew).heap.size (w5.drew) w') (by kernel_rfl) (by kernel_rfl) (by kernel_rfl) (by kernel_rfl) (by kernel_rfl) (hF _ B5) ?_
  intro w6 hb6
  have B6 : Below w5.heap.size w5 w6 := below_step B5 (B5.size) hb6
  have S6 := hS w6 B6
  refine ⟨S6, ?_⟩
  refine hd_take (i := 4) (op5 4) (some 41) (.bool true) (by kernel_rfl) (by kernel_rfl) (by kernel_rfl) (by kernel_rfl) (by kernel_rfl) (by kernel_rfl) (fun w' _ => ex_bin (op := .leq) (t := 37) (t' := 37) (x := .tmp 37) (y := .tmp 40) (p := .int .u64 (D : Int)) (q := .int .u64 (F : Int)) (by kernel_rfl) (by kernel_rfl) (by kernel_rfl) (leq_run D F dF _ _ w')) S6 ?_
  refine hd_take (i := 5) (op5 5) (some 42) (.bool true) (by kernel_rfl) (by kernel_rfl) (by kernel_rfl) (by kernel_rfl) (by kernel_rfl) (by kernel_rfl) (fun _ _ => by kernel_rfl) S6 ?_
  refine hd_take (i := 6) (op5 6) (some 43) (.int .u64 (D : Int)) (by kernel_rfl) (by kernel_rfl) (by kernel_rfl) (by kernel_rfl) (by kernel_rfl) (by kernel_rfl) (fun _ _ => by kernel_rfl) S6 ?_
  refine hd_take (i := 7) (op5 7) (some 44) (bx) (by kernel_rfl) (by kernel_rfl) (by kernel_rfl) (by kernel_rfl) (by kernel_rfl) (by kernel_rfl) (fun w' hw' => ex_load (ty := 28) (x := .tmp 4) (p := .pointer (some ⟨bB, 0, none⟩)) (by kernel_rfl) (by kernel_rfl) hw'.1) S6 ?_
  refine hd_take (i := 8) (op5 8) (some 45) (ev) (by kernel_rfl) (by kernel_rfl) (by kernel_rfl) (by kernel_rfl) (by kernel_rfl) (by kernel_rfl) (fun w' hw' => ex_load (ty := 32) (x := .tmp 5) (p := .pointer (some ⟨bE, 0, none⟩)) (by kernel_rfl) (by kernel_rfl) hw'.2) S6 ?_
  refine hd_call (i := 9) (op5 9) (some 46) 16 #[bx, ev] (.int .u64 (G : Int)) (fun w' => Below (w6).heap.size (w6) w') (by kernel_rfl) (by kernel_rfl) (by kernel_rfl) (by kernel_rfl) (by kernel_rfl) (hG _ B6) ?_
  intro w7 hb7
  have B7 : Below w5.heap.size w5 w7 := below_step B6 (B6.size) hb7
  have S7 := hS w7 B7
  refine ⟨S7, ?_⟩
  refine hd_take (i := 10) (op5 10) (some 47) (.bool true) (by kernel_rfl) (by kernel_rfl) (by kernel_rfl) (by kernel_rfl) (by kernel_rfl) (by kernel_rfl) (fun w' _ => ex_bin (op := .leq) (t := 37) (t' := 37) (x := .tmp 43) (y := .tmp 46) (p := .int .u64 (D : Int)) (q := .int .u64 (G : Int)) (by kernel_rfl) (by kernel_rfl) (by kernel_rfl) (leq_run D G dG _ _ w')) S7 ?_
  refine hd_take (i := 11) (op5 11) (some 48) (.bool true) (by kernel_rfl) (by kernel_rfl) (by kernel_rfl) (by kernel_rfl) (by kernel_rfl) (by kernel_rfl) (fun _ _ => by kernel_rfl) S7 ?_
  refine hd_take (i := 12) (op5 12) (some 49) (.bool true) (by kernel_rfl) (by kernel_rfl) (by kernel_rfl) (by kernel_rfl) (by kernel_rfl) (by kernel_rfl) (fun _ _ => by kernel_rfl) S7 ?_
  refine hd_take (i := 13) (op5 13) (some 50) (.int .u64 (D : Int)) (by kernel_rfl) (by kernel_rfl) (by kernel_rfl) (by kernel_rfl) (by kernel_rfl) (by kernel_rfl) (fun _ _ => by kernel_rfl) S7 ?_
  refine hd_take (i := 14) (op5 14) (some 51) (.slice A n c) (by kernel_rfl) (by kernel_rfl) (by kernel_rfl) (by kernel_rfl) (by kernel_rfl) (by kernel_rfl) (fun _ _ => by kernel_rfl) S7 ?_
  refine hd_take (i := 15) (op5 15) (some 52) (ev) (by kernel_rfl) (by kernel_rfl) (by kernel_rfl) (by kernel_rfl) (by kernel_rfl) (by kernel_rfl) (fun w' hw' => ex_load (ty := 32) (x := .tmp 5) (p := .pointer (some ⟨bE, 0, none⟩)) (by kernel_rfl) (by kernel_rfl) hw'.2) S7 ?_
  refine hd_call (i := 16) (op5 16) (some 53) 13 #[.slice A n c, ev] (.int .u64 (F : Int)) (fun w' => Below (w7).heap.size (w7) w') (by kernel_rfl) (by kernel_rfl) (by kernel_rfl) (by kernel_rfl) (by kernel_rfl) (hF _ B7) ?_
  intro w8 hb8
  have B8 : Below w5.heap.size w5 w8 := below_step B7 (B7.size) hb8
  have S8 := hS w8 B8
  refine ⟨S8, ?_⟩
  refine hd_take (i := 17) (op5 17) (some 54) (.bool true) (by kernel_rfl) (by kernel_rfl) (by kernel_rfl) (by kernel_rfl) (by kernel_rfl) (by kernel_rfl) (fun w' _ => ex_bin (op := .eql) (t := 37) (t' := 37) (x := .tmp 50) (y := .tmp 53) (p := .int .u64 (D : Int)) (q := .int .u64 (F : Int)) (by kernel_rfl) (by kernel_rfl) (by kernel_rfl) (eql_run D F true hDF _ _ w')) S8 ?_
  refine hd_take (i := 18) (op5 18) (some 55) (.bool true) (by kernel_rfl) (by kernel_rfl) (by kernel_rfl) (by kernel_rfl) (by kernel_rfl) (by kernel_rfl) (fun _ _ => by kernel_rfl) S8 ?_
  refine hd_skip (i := 19) (op5 19) (some 56) (by kernel_rfl) (by kernel_rfl) (by kernel_rfl) (by kernel_rfl) (by kernel_rfl) (by kernel_rfl) S8 ?_
  refine hd_skip (i := 20) (op5 20) (some 57) (by kernel_rfl) (by kernel_rfl) (by kernel_rfl) (by kernel_rfl) (by kernel_rfl) (by kernel_rfl) S8 ?_
  refine hd_skip (i := 21) (op5 21) (some 58) (by kernel_rfl) (by kernel_rfl) (by kernel_rfl) (by kernel_rfl) (by kernel_rfl) (by kernel_rfl) S8 ?_
  refine hd_stepoff (i := 22) (op5 22) (some 59) (by kernel_rfl) (by kernel_rfl) (by kernel_rfl) (by kernel_rfl) S8 ?_
  refine hd_skip (i := 23) (op5 23) (some 60) (by kernel_rfl) (by kernel_rfl) (by kernel_rfl) (by kernel_rfl) (by kernel_rfl) (by kernel_rfl) S8 ?_
  refine hd_take (i := 24) (op5 24) (some 61) (.bool true) (by kernel_rfl) (by kernel_rfl) (by kernel_rfl) (by kernel_rfl) (by kernel_rfl) (by kernel_rfl) (fun _ _ => by kernel_rfl) S8 ?_
  refine hd_take (i := 25) (op5 25) (some 62) (.bool true) (by kernel_rfl) (by kernel_rfl) (by kernel_rfl) (by kernel_rfl) (by kernel_rfl) (by kernel_rfl) (fun _ _ => by kernel_rfl) S8 ?_
  refine hd_take (i := 26) (op5 26) (some 63) (.bool true) (by kernel_rfl) (by kernel_rfl) (by kernel_rfl) (by kernel_rfl) (by kernel_rfl) (by kernel_rfl) (fun _ _ => by kernel_rfl) S8 ?_
  refine hd_take (i := 27) (op5 27) (some 64) (bx) (by kernel_rfl) (by kernel_rfl) (by kernel_rfl) (by kernel_rfl) (by kernel_rfl) (by kernel_rfl) (fun w' hw' => ex_load (ty := 28) (x := .tmp 4) (p := .pointer (some ⟨bB, 0, none⟩)) (by kernel_rfl) (by kernel_rfl) hw'.1) S8 ?_
  refine hd_take (i := 29) (op5 29) (some 66) (ev) (by kernel_rfl) (by kernel_rfl) (by kernel_rfl) (by kernel_rfl) (by kernel_rfl) (by kernel_rfl) (fun w' hw' => ex_load (ty := 32) (x := .tmp 5) (p := .pointer (some ⟨bE, 0, none⟩)) (by kernel_rfl) (by kernel_rfl) hw'.2) S8 ?_
  refine hd_take (i := 31) (op5 31) (some 68) (bx) (by kernel_rfl) (by kernel_rfl) (by kernel_rfl) (by kernel_rfl) (by kernel_rfl) (by kernel_rfl) (fun w' hw' => ex_load (ty := 28) (x := .tmp 4) (p := .pointer (some ⟨bB, 0, none⟩)) (by kernel_rfl) (by kernel_rfl) hw'.1) S8 ?_
  refine hd_take (i := 32) (op5 32) (some 69) (ev) (by kernel_rfl) (by kernel_rfl) (by kernel_rfl) (by kernel_rfl) (by kernel_rfl) (by kernel_rfl) (fun w' hw' => ex_load (ty := 32) (x := .tmp 5) (p := .pointer (some ⟨bE, 0, none⟩)) (by kernel_rfl) (by kernel_rfl) hw'.2) S8 ?_
  have BA := hA _ B8
  have SA := hS _ BA
  refine hd_make (i := 28) (op5 28) (some 65) (.slice (some ⟨(w8).heap.size, 0, none⟩) 1 1) ((w8).alloc ob) (by kernel_rfl) (by kernel_rfl) (by kernel_rfl) (by kernel_rfl) (ex_slice (t := 50) (n := 1) (x := .tmp 64) (p := bx) (by kernel_rfl) (by kernel_rfl) (hB _)) SA ?_
  refine hd_call (i := 30) (op5 30) (some 67) 13 #[.slice (some ⟨(w8).heap.size, 0, none⟩) 1 1, ev] (.int .u64 (G : Int)) (fun w' => Below ((w8).alloc ob).heap.size ((w8).alloc ob) w') (by kernel_rfl) (by kernel_rfl) (by kernel_rfl) (by kernel_rfl) (by kernel_rfl) (hO _ _ BA (bk_new _ _)) ?_
  intro w9 hb9
  have B9 : Below w5.heap.size w5 w9 := below_step BA (BA.size) hb9
  have S9 := hS w9 B9
  refine ⟨S9, ?_⟩
  refine hd_call (i := 33) (op5 33) (some 70) 16 #[bx, ev] (.int .u64 (G : Int)) (fun w' => Below (w9).heap.size (w9) w') (by kernel_rfl) (by kernel_rfl) (by kernel_rfl) (by kernel_rfl) (by kernel_rfl) (hG _ B9) ?_
  intro w10 hb10
  have B10 : Below w5.heap.size w5 w10 := below_step B9 (B9.size) hb10
  have S10 := hS w10 B10
  refine ⟨S10, ?_⟩
  refine hd_take (i := 34) (op5 34) (some 71) (.bool true) (by kernel_rfl) (by kernel_rfl) (by kernel_rfl) (by kernel_rfl) (by kernel_rfl) (by kernel_rfl) (fun w' _ => ex_bin (op := .eql) (t := 37) (t' := 37) (x := .tmp 67) (y := .tmp 70) (p := .int .u64 (G : Int)) (q := .int .u64 (G : Int)) (by kernel_rfl) (by kernel_rfl) (by kernel_rfl) (eql_run G G true (by simp) _ _ w')) S10 ?_
  refine hd_take (i := 35) (op5 35) (some 72) (.bool true) (by kernel_rfl) (by kernel_rfl) (by kernel_rfl) (by kernel_rfl) (by kernel_rfl) (by kernel_rfl) (fun _ _ => by kernel_rfl) S10 ?_
  refine hd_take (i := 36) (op5 36) (some 6) (.bool true) (by kernel_rfl) (by kernel_rfl) (by kernel_rfl) (by kernel_rfl) (by kernel_rfl) (by kernel_rfl) (fun _ _ => by kernel_rfl) S10 ?_
  refine hd_end (b := ⟨#[.slice A n c, c1, c2, c3, .pointer (some ⟨bB, 0, none⟩), .pointer (some ⟨bE, 0, none⟩), .bool true, c7, .int .u64 (D : Int), c9, c10, c11, c12, c13, c14, c15, c16, c17, c18, c19, c20, c21, c22, c23, c24, c25, c26, c27, c28, c29, c30, c31, c32, c33, c34, c35, c36, .int .u64 (D : Int), .slice A n c, ev, .int .u64 (F : Int), .bool true, .bool true, .int .u64 (D : Int), bx, ev, .int .u64 (G : Int), .bool true, .bool true, .bool true, .int .u64 (D : Int), .slice A n c, ev, .int .u64 (F : Int), .bool true, .bool true, undef, undef, undef, undef, undef, .bool true, .bool true, .bool true, bx, .slice (some ⟨(w8).heap.size, 0, none⟩) 1 1, ev, .int .u64 (G : Int), bx, ev, .int .u64 (G : Int), .bool true, .bool true], []⟩) (by kernel_rfl) (by kernel_rfl) ?_
  exact hQ _ _ _ _ _ _ _ _ _ _ _ _ _ _ _ _ _ _ _ _ _ _ _ _ _ _ _ _ _ _ _ _ _ _ _ _ _ B10

end Go.Proofs.Ytfhokhhpfdmfiaa