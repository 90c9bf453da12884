/- GapSteps' last line: a region that draws its order; printed by gen_g7.py. -/
import Derived.Test.YtfhokhhpfdmfiaaGH
namespace Go.Proofs.Ytfhokhhpfdmfiaa
open Go.RowKit
set_option linter.unusedVariables false

noncomputable def reg5_7 : Code := (Try.f5.body.bind (regAt 7)).getD .skip
noncomputable def ops5_7 : Array Oper := opsOf reg5_7
theorem reg5_7_is : reg5_7 = .region 7 ops5_7 true := by kernel_rfl
theorem leq37_run (x y : Nat) (h : x ≤ y) (u v : Operand) (w : World) : (do eqGuard .leq 37 u v (.int .u64 (x : Int)) (.int .u64 (y : Int)); binOp .leq 37 (.int .u64 (x : Int)) (.int .u64 (y : Int)) : Sem Value).run Try.prog w = .ok (.bool true) w := by
  have h1 : decide ((x : Int) ≤ y) = true := by rw [decide_eq_true_eq]; omega
  have e : (do eqGuard .leq 37 u v (.int .u64 (x : Int)) (.int .u64 (y : Int)); binOp .leq 37 (.int .u64 (x : Int)) (.int .u64 (y : Int)) : Sem Value).run Try.prog w = .ok (.bool (decide ((x : Int) ≤ y))) w := by kernel_rfl
  rw [e, h1]
set_option maxHeartbeats 2000000 in
set_option maxRecDepth 100000 in
theorem reg5_7_law (A : Option Addr) (n c bE bO : Nat) (ev ov : Value) (D F G M : Nat) (w5 : World) (Q : Exit → Act → World → Prop)
    (hS : ∀ w', RowKit.Below w5.heap.size w5 w' → (Instr.loadAt 32 (.pointer (some ⟨bE, 0, none⟩))).run Try.prog w' = .ok ev w' ∧ (Instr.loadAt 32 (.pointer (some ⟨bO, 0, none⟩))).run Try.prog w' = .ok ov w')
    (h1 : ∀ w', RowKit.Below w5.heap.size w5 w' → Calls Try.prog 13 #[.slice A n c, ev] w' fun e' w6 => e' = .returned (.int .u64 (F : Int)) ∧ RowKit.Below w'.heap.size w' w6)
    (h2 : ∀ w', RowKit.Below w5.heap.size w5 w' → Calls Try.prog 13 #[.slice A n c, ov] w' fun e' w6 => e' = .returned (.int .u64 (G : Int)) ∧ RowKit.Below w'.heap.size w' w6)
    (h3 : ∀ w', RowKit.Below w5.heap.size w5 w' → Calls Try.prog 17 #[.int .u64 (D : Int), .int .u64 (G : Int)] w' fun e' w6 => e' = .returned (.int .u64 (M : Int)) ∧ RowKit.Below w'.heap.size w' w6)
    (hle : F ≤ M) (c1 c2 c3 c4 c6 c7 c8 c11 c12 c13 c14 c15 c16 c17 c18 c19 c20 c21 c22 c23 c24 c25 c26 c27 c28 c29 c30 c31 c32 c33 c34 c35 c36 c37 c38 c39 c40 c41 c42 c43 c44 c45 c46 c47 c48 c49 c50 c51 c52 c53 c54 c55 c56 c57 c58 c59 c60 c61 c62 : Value)
    (hQ : ∀ (u54 u55 u56 u57 u58 u59 u60 u61 u62 : Value) (w6 : World), RowKit.Below w5.heap.size w5 w6 → Q .normal ⟨#[.slice A n c, c1, c2, c3, c4, .pointer (some ⟨bE, 0, none⟩), c6, c7, .bool true, .pointer (some ⟨bO, 0, none⟩), .int .u64 (D : Int), c11, c12, c13, c14, c15, c16, c17, c18, c19, c20, c21, c22, c23, c24, c25, c26, c27, c28, c29, c30, c31, c32, c33, c34, c35, c36, c37, c38, c39, c40, c41, c42, c43, c44, c45, c46, c47, c48, c49, c50, c51, c52, c53, u54, u55, u56, u57, u58, u59, u60, u61, u62], []⟩ w6) : Code.wp Try.prog reg5_7 Q ⟨#[.slice A n c, c1, c2, c3, c4, .pointer (some ⟨bE, 0, none⟩), c6, c7, c8, .pointer (some ⟨bO, 0, none⟩), .int .u64 (D : Int), c11, c12, c13, c14, c15, c16, c17, c18, c19, c20, c21, c22, c23, c24, c25, c26, c27, c28, c29, c30, c31, c32, c33, c34, c35, c36, c37, c38, c39, c40, c41, c42, c43, c44, c45, c46, c47, c48, c49, c50, c51, c52, c53, c54, c55, c56, c57, c58, c59, c60, c61, c62], []⟩ w5 := by
  have B5 : RowKit.Below w5.heap.size w5 w5.drew := (RowKit.Below.refl _ _).drew
  have S0 := hS _ B5
  rw [reg5_7_is]
  refine hd_start (n := 10) (fun w' => (Instr.loadAt 32 (.pointer (some ⟨bE, 0, none⟩))).run Try.prog w' = .ok ev w' ∧ (Instr.loadAt 32 (.pointer (some ⟨bO, 0, none⟩))).run Try.prog w' = .ok ov w') (by kernel_rfl) (by kernel_rfl) S0 ?_
  refine ht 0 54 (.slice A n c) (by kernel_rfl) (fun _ _ => by kernel_rfl) S0 ?_
  refine hl 1 55 32 5 (v := ev) (p := .pointer (some ⟨bE, 0, none⟩)) (by kernel_rfl) (by kernel_rfl) (by kernel_rfl) (fun w' hw' => hw'.1) S0 ?_
  refine ht 3 57 (.int .u64 (D : Int)) (by kernel_rfl) (fun _ _ => by kernel_rfl) S0 ?_
  refine ht 4 58 (.slice A n c) (by kernel_rfl) (fun _ _ => by kernel_rfl) S0 ?_
  refine hl 5 59 32 9 (v := ov) (p := .pointer (some ⟨bO, 0, none⟩)) (by kernel_rfl) (by kernel_rfl) (by kernel_rfl) (fun w' hw' => hw'.2) S0 ?_
  refine hc (w5 := w5) 2 56 (v := .int .u64 (F : Int)) (by kernel_rfl) (h1 _ B5) (by kernel_rfl) hS B5 ?_
  intro w6 BB6 SS6
  refine hc (w5 := w5) 6 60 (v := .int .u64 (G : Int)) (by kernel_rfl) (h2 _ BB6) (by kernel_rfl) hS BB6 ?_
  intro w7 BB7 SS7
  refine hc (w5 := w5) 7 61 (v := .int .u64 (M : Int)) (by kernel_rfl) (h3 _ BB7) (by kernel_rfl) hS BB7 ?_
  intro w8 BB8 SS8
  refine ht 8 62 (.bool true) (by kernel_rfl) (fun w' _ => ex_bin (op := .leq) (t := 37) (t' := 37) (x := .tmp 56) (y := .tmp 61) (p := .int .u64 (F : Int)) (q := .int .u64 (M : Int)) (by kernel_rfl) (by kernel_rfl) (by kernel_rfl) (leq37_run F M hle _ _ w')) SS8 ?_
  refine ht 9 8 (.bool true) (by kernel_rfl) (fun _ _ => by kernel_rfl) SS8 ?_
  refine hd_end (b := ⟨#[.slice A n c, c1, c2, c3, c4, .pointer (some ⟨bE, 0, none⟩), c6, c7, .bool true, .pointer (some ⟨bO, 0, none⟩), .int .u64 (D : Int), c11, c12, c13, c14, c15, c16, c17, c18, c19, c20, c21, c22, c23, c24, c25, c26, c27, c28, c29, c30, c31, c32, c33, c34, c35, c36, c37, c38, c39, c40, c41, c42, c43, c44, c45, c46, c47, c48, c49, c50, c51, c52, c53, .slice A n c, ev, .int .u64 (F : Int), .int .u64 (D : Int), .slice A n c, ov, .int .u64 (G : Int), .int .u64 (M : Int), .bool true], []⟩) (by kernel_rfl) (by kernel_rfl) ?_
  exact hQ _ _ _ _ _ _ _ _ _ _ BB8
end Go.Proofs.Ytfhokhhpfdmfiaa
