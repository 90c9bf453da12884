/- ExprMorgan: the last line, a region that draws its order, in parts; printed by gen_r513.py. -/
import Derived.Test.YtjkhajcngapjcaaHP
namespace Go.Proofs.Ytjkhajcngapjcaa.Q
open Go.RowKit Go.Proofs.YtjkhajcngapjcaaW.PrintWords

/-- The region 13. -/
noncomputable def reg5_13 : Code := (Try.f5.body.bind (regAt 13)).getD .skip
noncomputable def ops5_13 : Array Oper := opsOf reg5_13
noncomputable def op5_13 (k : Nat) : Oper := (ops5_13[k]?).getD ⟨none, .move (.tmp 0), 0, "", #[], none⟩
theorem reg5_13_is : reg5_13 = .region 13 ops5_13 true := by kernel_rfl

set_option maxHeartbeats 4000000 in
set_option linter.unusedVariables false in
set_option maxRecDepth 100000 in
theorem r5x (p q r s c : Nat) (ba bb bc bd ev : Value) (kb rr ss : Bool) (w5 : World) (Q : Exit → Act → World → Prop)
    (hS : ∀ w', Below w5.heap.size w5 w' → (Instr.loadAt 28 (.pointer (some ⟨p, 0, none⟩))).run Try.prog w' = .ok ba w' ∧ (Instr.loadAt 28 (.pointer (some ⟨q, 0, none⟩))).run Try.prog w' = .ok bb w' ∧ (Instr.loadAt 28 (.pointer (some ⟨r, 0, none⟩))).run Try.prog w' = .ok bc w' ∧ (Instr.loadAt 28 (.pointer (some ⟨s, 0, none⟩))).run Try.prog w' = .ok bd w' ∧ (Instr.loadAt 32 (.pointer (some ⟨c, 0, none⟩))).run Try.prog w' = .ok ev w')
    (h1 : ∀ w', Below w5.heap.size w5 w' → Calls Try.prog 15 #[ba] w' fun e' w6 => e' = .returned (.bool rr) ∧ Below w'.heap.size w' w6)
    (h2 : ∀ w', Below w5.heap.size w5 w' → Calls Try.prog 15 #[bb] w' fun e' w6 => e' = .returned (.bool ss) ∧ Below w'.heap.size w' w6)
    (h3 : ∀ w', Below w5.heap.size w5 w' → rr = true → ss = true → Calls Try.prog 17 #[ba, ev] w' fun e' w6 => e' = .returned (.bool kb) ∧ Below w'.heap.size w' w6)
    (h4 : ∀ w', Below w5.heap.size w5 w' → rr = true → ss = true → Calls Try.prog 17 #[bb, ev] w' fun e' w6 => e' = .returned (.bool kb) ∧ Below w'.heap.size w' w6)
    (c0 c1 c2 c4 c5 c6 c7 c12 c13 c14 c15 c16 c17 c18 c19 c20 c21 c22 c23 c24 c25 c26 c27 c28 c29 c30 c31 c32 c33 c34 c35 c36 c37 c38 c39 c40 c41 c42 c43 c44 c45 c46 c47 c48 c49 c50 c51 c52 c53 c54 c55 c56 c57 c58 c59 c60 c61 c62 c63 c64 c65 c66 c67 c68 c69 c70 c71 c72 c73 c74 c75 c76 c77 c78 c79 c80 : Value)
    (hQ : ∀ (u45 u46 u47 u48 u49 u50 u51 u52 u53 u54 u55 u56 u57 u58 u59 u60 : Value) (w6 : World), Below w5.heap.size w5 w6 → wpAnyH Try.prog .any ops5_13 (NoPanic Q) (fun w' => (Instr.loadAt 28 (.pointer (some ⟨p, 0, none⟩))).run Try.prog w' = .ok ba w' ∧ (Instr.loadAt 28 (.pointer (some ⟨q, 0, none⟩))).run Try.prog w' = .ok bb w' ∧ (Instr.loadAt 28 (.pointer (some ⟨r, 0, none⟩))).run Try.prog w' = .ok bc w' ∧ (Instr.loadAt 28 (.pointer (some ⟨s, 0, none⟩))).run Try.prog w' = .ok bd w' ∧ (Instr.loadAt 32 (.pointer (some ⟨c, 0, none⟩))).run Try.prog w' = .ok ev w') 20 #[true, true, true, true, true, true, true, true, true, true, true, true, true, true, true, true, true, false, false, false, false, false, false, false, false, false, false, false, false, false, false, false, false, false, false, false, false] ⟨#[c0, c1, c2, .pointer (some ⟨c, 0, none⟩), c4, c5, c6, c7, .pointer (some ⟨p, 0, none⟩), .pointer (some ⟨q, 0, none⟩), .pointer (some ⟨r, 0, none⟩), .pointer (some ⟨s, 0, none⟩), c12, c13, c14, c15, c16, c17, c18, c19, c20, c21, c22, c23, c24, c25, c26, c27, c28, c29, c30, c31, c32, c33, c34, c35, c36, c37, c38, c39, c40, c41, c42, c43, c44, u45, u46, u47, u48, u49, u50, u51, u52, u53, u54, u55, u56, u57, u58, u59, u60, .bool true, c62, c63, c64, c65, c66, c67, c68, c69, c70, c71, c72, c73, c74, c75, c76, c77, c78, c79, c80], []⟩ w6) : wpAnyH Try.prog .any ops5_13 (NoPanic Q) (fun w' => (Instr.loadAt 28 (.pointer (some ⟨p, 0, none⟩))).run Try.prog w' = .ok ba w' ∧ (Instr.loadAt 28 (.pointer (some ⟨q, 0, none⟩))).run Try.prog w' = .ok bb w' ∧ (Instr.loadAt 28 (.pointer (some ⟨r, 0, none⟩))).run Try.prog w' = .ok bc w' ∧ (Instr.loadAt 28 (.pointer (some ⟨s, 0, none⟩))).run Try.prog w' = .ok bd w' ∧ (Instr.loadAt 32 (.pointer (some ⟨c, 0, none⟩))).run Try.prog w' = .ok ev w') 37 #[false, false, false, false, false, false, false, false, false, false, false, false, false, false, false, false, false, false, false, false, false, false, false, false, false, false, false, false, false, false, false, false, false, false, false, false, false] ⟨#[c0, c1, c2, .pointer (some ⟨c, 0, none⟩), c4, c5, c6, c7, .pointer (some ⟨p, 0, none⟩), .pointer (some ⟨q, 0, none⟩), .pointer (some ⟨r, 0, none⟩), .pointer (some ⟨s, 0, none⟩), c12, c13, c14, c15, c16, c17, c18, c19, c20, c21, c22, c23, c24, c25, c26, c27, c28, c29, c30, c31, c32, c33, c34, c35, c36, c37, c38, c39, c40, c41, c42, c43, c44, c45, c46, c47, c48, c49, c50, c51, c52, c53, c54, c55, c56, c57, c58, c59, c60, c61, c62, c63, c64, c65, c66, c67, c68, c69, c70, c71, c72, c73, c74, c75, c76, c77, c78, c79, c80], []⟩ w5 := by
  have B5 : Below w5.heap.size w5 w5 := Below.refl _ _
  have S0 := hS _ B5
  cases rr with
  | false =>
    refine hl 0 45 28 8 (by kernel_rfl) (by kernel_rfl) (by kernel_rfl) (fun _ h => h.1) S0 ?_
    refine hc 1 46 (by kernel_rfl) (h1 _ B5) (by kernel_rfl) hS B5 ?_
    intro w6 B6 S6
    refine ht 2 47 (.bool true) (by kernel_rfl) (fun _ _ => by kernel_rfl) S6 ?_
    refine ht 3 48 (.bool true) (by kernel_rfl) (fun _ _ => by kernel_rfl) S6 ?_
    refine hk 4 49 (by kernel_rfl) S6 ?_
    refine hs 5 50 (by kernel_rfl) S6 ?_
    refine hk 6 51 (by kernel_rfl) S6 ?_
    refine ht 7 52 (.bool true) (by kernel_rfl) (fun _ _ => by kernel_rfl) S6 ?_
    refine ht 8 53 (.bool true) (by kernel_rfl) (fun _ _ => by kernel_rfl) S6 ?_
    refine hk 9 54 (by kernel_rfl) S6 ?_
    refine hk 10 55 (by kernel_rfl) S6 ?_
    refine hk 12 57 (by kernel_rfl) S6 ?_
    refine hk 13 58 (by kernel_rfl) S6 ?_
    refine hs 11 56 (by kernel_rfl) S6 ?_
    refine hs 14 59 (by kernel_rfl) S6 ?_
    refine hk 15 60 (by kernel_rfl) S6 ?_
    refine ht 16 61 (.bool true) (by kernel_rfl) (fun _ _ => by kernel_rfl) S6 ?_
    exact hd_list (by kernel_rfl) (by kernel_rfl) (hQ (ba) (.bool false) (.bool true) (.bool true) (undef) (undef) (undef) (.bool true) (.bool true) (undef) (undef) (undef) (undef) (undef) (undef) (undef) _ B6)
  | true =>
    cases ss with
    | false =>
      refine hl 0 45 28 8 (by kernel_rfl) (by kernel_rfl) (by kernel_rfl) (fun _ h => h.1) S0 ?_
      refine hc 1 46 (by kernel_rfl) (h1 _ B5) (by kernel_rfl) hS B5 ?_
      intro w6 B6 S6
      refine ht 2 47 (.bool false) (by kernel_rfl) (fun _ _ => by kernel_rfl) S6 ?_
      refine ht 3 48 (.bool false) (by kernel_rfl) (fun _ _ => by kernel_rfl) S6 ?_
      refine hl 4 49 28 9 (by kernel_rfl) (by kernel_rfl) (by kernel_rfl) (fun _ h => h.2.1) S6 ?_
      refine hc 5 50 (by kernel_rfl) (h2 _ B6) (by kernel_rfl) hS B6 ?_
      intro w7 B7 S7
      refine ht 6 51 (.bool true) (by kernel_rfl) (fun _ _ => by kernel_rfl) S7 ?_
      refine ht 7 52 (.bool true) (by kernel_rfl) (fun _ _ => by kernel_rfl) S7 ?_
      refine ht 8 53 (.bool true) (by kernel_rfl) (fun _ _ => by kernel_rfl) S7 ?_
      refine hk 9 54 (by kernel_rfl) S7 ?_
      refine hk 10 55 (by kernel_rfl) S7 ?_
      refine hk 12 57 (by kernel_rfl) S7 ?_
      refine hk 13 58 (by kernel_rfl) S7 ?_
      refine hs 11 56 (by kernel_rfl) S7 ?_
      refine hs 14 59 (by kernel_rfl) S7 ?_
      refine hk 15 60 (by kernel_rfl) S7 ?_
      refine ht 16 61 (.bool true) (by kernel_rfl) (fun _ _ => by kernel_rfl) S7 ?_
      exact hd_list (by kernel_rfl) (by kernel_rfl) (hQ (ba) (.bool true) (.bool false) (.bool false) (bb) (.bool false) (.bool true) (.bool true) (.bool true) (undef) (undef) (undef) (undef) (undef) (undef) (undef) _ B7)
    | true =>
      refine hl 0 45 28 8 (by kernel_rfl) (by kernel_rfl) (by kernel_rfl) (fun _ h => h.1) S0 ?_
      refine hc 1 46 (by kernel_rfl) (h1 _ B5) (by kernel_rfl) hS B5 ?_
      intro w6 B6 S6
      refine ht 2 47 (.bool false) (by kernel_rfl) (fun _ _ => by kernel_rfl) S6 ?_
      refine ht 3 48 (.bool false) (by kernel_rfl) (fun _ _ => by kernel_rfl) S6 ?_
      refine hl 4 49 28 9 (by kernel_rfl) (by kernel_rfl) (by kernel_rfl) (fun _ h => h.2.1) S6 ?_
      refine hc 5 50 (by kernel_rfl) (h2 _ B6) (by kernel_rfl) hS B6 ?_
      intro w7 B7 S7
      refine ht 6 51 (.bool false) (by kernel_rfl) (fun _ _ => by kernel_rfl) S7 ?_
      refine ht 7 52 (.bool false) (by kernel_rfl) (fun _ _ => by kernel_rfl) S7 ?_
      refine ht 8 53 (.bool false) (by kernel_rfl) (fun _ _ => by kernel_rfl) S7 ?_
      refine hl 9 54 28 8 (by kernel_rfl) (by kernel_rfl) (by kernel_rfl) (fun _ h => h.1) S7 ?_
      refine hl 10 55 32 3 (by kernel_rfl) (by kernel_rfl) (by kernel_rfl) (fun _ h => h.2.2.2.2) S7 ?_
      refine hl 12 57 28 9 (by kernel_rfl) (by kernel_rfl) (by kernel_rfl) (fun _ h => h.2.1) S7 ?_
      refine hl 13 58 32 3 (by kernel_rfl) (by kernel_rfl) (by kernel_rfl) (fun _ h => h.2.2.2.2) S7 ?_
      refine hc 11 56 (by kernel_rfl) (h3 _ B7 rfl rfl) (by kernel_rfl) hS B7 ?_
      intro w8 B8 S8
      refine hc 14 59 (by kernel_rfl) (h4 _ B8 rfl rfl) (by kernel_rfl) hS B8 ?_
      intro w9 B9 S9
      refine ht 15 60 (.bool true) (by kernel_rfl) (fun w' _ => ex_bin (op := .eql) (t := 4) (t' := 4) (x := .tmp 56) (y := .tmp 59) (p := .bool kb) (q := .bool kb) (by kernel_rfl) (by kernel_rfl) (by kernel_rfl) (eqb_run kb _ _ w')) S9 ?_
      refine ht 16 61 (.bool true) (by kernel_rfl) (fun _ _ => by kernel_rfl) S9 ?_
      exact hd_list (by kernel_rfl) (by kernel_rfl) (hQ (ba) (.bool true) (.bool false) (.bool false) (bb) (.bool true) (.bool false) (.bool false) (.bool false) (ba) (ev) (.bool kb) (bb) (ev) (.bool kb) (.bool true) _ B9)

set_option maxHeartbeats 4000000 in
set_option linter.unusedVariables false in
set_option maxRecDepth 100000 in
theorem r5y (p q r s c : Nat) (ba bb bc bd ev : Value) (kb rr ss : Bool) (w5 : World) (Q : Exit → Act → World → Prop)
    (hS : ∀ w', Below w5.heap.size w5 w' → (Instr.loadAt 28 (.pointer (some ⟨p, 0, none⟩))).run Try.prog w' = .ok ba w' ∧ (Instr.loadAt 28 (.pointer (some ⟨q, 0, none⟩))).run Try.prog w' = .ok bb w' ∧ (Instr.loadAt 28 (.pointer (some ⟨r, 0, none⟩))).run Try.prog w' = .ok bc w' ∧ (Instr.loadAt 28 (.pointer (some ⟨s, 0, none⟩))).run Try.prog w' = .ok bd w' ∧ (Instr.loadAt 32 (.pointer (some ⟨c, 0, none⟩))).run Try.prog w' = .ok ev w')
    (h1 : ∀ w', Below w5.heap.size w5 w' → Calls Try.prog 15 #[bc] w' fun e' w6 => e' = .returned (.bool rr) ∧ Below w'.heap.size w' w6)
    (h2 : ∀ w', Below w5.heap.size w5 w' → Calls Try.prog 15 #[bd] w' fun e' w6 => e' = .returned (.bool ss) ∧ Below w'.heap.size w' w6)
    (h3 : ∀ w', Below w5.heap.size w5 w' → rr = true → ss = true → Calls Try.prog 17 #[bc, ev] w' fun e' w6 => e' = .returned (.bool kb) ∧ Below w'.heap.size w' w6)
    (h4 : ∀ w', Below w5.heap.size w5 w' → rr = true → ss = true → Calls Try.prog 17 #[bd, ev] w' fun e' w6 => e' = .returned (.bool kb) ∧ Below w'.heap.size w' w6)
    (c0 c1 c2 c4 c5 c6 c7 c12 c13 c14 c15 c16 c17 c18 c19 c20 c21 c22 c23 c24 c25 c26 c27 c28 c29 c30 c31 c32 c33 c34 c35 c36 c37 c38 c39 c40 c41 c42 c43 c44 c45 c46 c47 c48 c49 c50 c51 c52 c53 c54 c55 c56 c57 c58 c59 c60 c62 c63 c64 c65 c66 c67 c68 c69 c70 c71 c72 c73 c74 c75 c76 c77 c78 c79 c80 : Value)
    (hQ : ∀ (u62 u63 u64 u65 u66 u67 u68 u69 u70 u71 u72 u73 u74 u75 u76 u77 u78 u79 u80 : Value) (w6 : World), Below w5.heap.size w5 w6 → wpAnyH Try.prog .any ops5_13 (NoPanic Q) (fun w' => (Instr.loadAt 28 (.pointer (some ⟨p, 0, none⟩))).run Try.prog w' = .ok ba w' ∧ (Instr.loadAt 28 (.pointer (some ⟨q, 0, none⟩))).run Try.prog w' = .ok bb w' ∧ (Instr.loadAt 28 (.pointer (some ⟨r, 0, none⟩))).run Try.prog w' = .ok bc w' ∧ (Instr.loadAt 28 (.pointer (some ⟨s, 0, none⟩))).run Try.prog w' = .ok bd w' ∧ (Instr.loadAt 32 (.pointer (some ⟨c, 0, none⟩))).run Try.prog w' = .ok ev w') 0 #[true, true, true, true, true, true, true, true, true, true, true, true, true, true, true, true, true, true, true, true, true, true, true, true, true, true, true, true, true, true, true, true, true, true, true, true, true] ⟨#[c0, c1, c2, .pointer (some ⟨c, 0, none⟩), .bool true, c5, c6, c7, .pointer (some ⟨p, 0, none⟩), .pointer (some ⟨q, 0, none⟩), .pointer (some ⟨r, 0, none⟩), .pointer (some ⟨s, 0, none⟩), c12, c13, c14, c15, c16, c17, c18, c19, c20, c21, c22, c23, c24, c25, c26, c27, c28, c29, c30, c31, c32, c33, c34, c35, c36, c37, c38, c39, c40, c41, c42, c43, c44, c45, c46, c47, c48, c49, c50, c51, c52, c53, c54, c55, c56, c57, c58, c59, c60, .bool true, u62, u63, u64, u65, u66, u67, u68, u69, u70, u71, u72, u73, u74, u75, u76, u77, u78, u79, u80], []⟩ w6) : wpAnyH Try.prog .any ops5_13 (NoPanic Q) (fun w' => (Instr.loadAt 28 (.pointer (some ⟨p, 0, none⟩))).run Try.prog w' = .ok ba w' ∧ (Instr.loadAt 28 (.pointer (some ⟨q, 0, none⟩))).run Try.prog w' = .ok bb w' ∧ (Instr.loadAt 28 (.pointer (some ⟨r, 0, none⟩))).run Try.prog w' = .ok bc w' ∧ (Instr.loadAt 28 (.pointer (some ⟨s, 0, none⟩))).run Try.prog w' = .ok bd w' ∧ (Instr.loadAt 32 (.pointer (some ⟨c, 0, none⟩))).run Try.prog w' = .ok ev w') 20 #[true, true, true, true, true, true, true, true, true, true, true, true, true, true, true, true, true, false, false, false, false, false, false, false, false, false, false, false, false, false, false, false, false, false, false, false, false] ⟨#[c0, c1, c2, .pointer (some ⟨c, 0, none⟩), c4, c5, c6, c7, .pointer (some ⟨p, 0, none⟩), .pointer (some ⟨q, 0, none⟩), .pointer (some ⟨r, 0, none⟩), .pointer (some ⟨s, 0, none⟩), c12, c13, c14, c15, c16, c17, c18, c19, c20, c21, c22, c23, c24, c25, c26, c27, c28, c29, c30, c31, c32, c33, c34, c35, c36, c37, c38, c39, c40, c41, c42, c43, c44, c45, c46, c47, c48, c49, c50, c51, c52, c53, c54, c55, c56, c57, c58, c59, c60, .bool true, c62, c63, c64, c65, c66, c67, c68, c69, c70, c71, c72, c73, c74, c75, c76, c77, c78, c79, c80], []⟩ w5 := by
  have B5 : Below w5.heap.size w5 w5 := Below.refl _ _
  have S0 := hS _ B5
  cases rr with
  | false =>
    refine ht 17 62 (.bool true) (by kernel_rfl) (fun _ _ => by kernel_rfl) S0 ?_
    refine hl 18 63 28 10 (by kernel_rfl) (by kernel_rfl) (by kernel_rfl) (fun _ h => h.2.2.1) S0 ?_
    refine hc 19 64 (by kernel_rfl) (h1 _ B5) (by kernel_rfl) hS B5 ?_
    intro w6 B6 S6
    refine ht 20 65 (.bool true) (by kernel_rfl) (fun _ _ => by kernel_rfl) S6 ?_
    refine ht 21 66 (.bool true) (by kernel_rfl) (fun _ _ => by kernel_rfl) S6 ?_
    refine hk 22 67 (by kernel_rfl) S6 ?_
    refine hs 23 68 (by kernel_rfl) S6 ?_
    refine hk 24 69 (by kernel_rfl) S6 ?_
    refine ht 25 70 (.bool true) (by kernel_rfl) (fun _ _ => by kernel_rfl) S6 ?_
    refine ht 26 71 (.bool true) (by kernel_rfl) (fun _ _ => by kernel_rfl) S6 ?_
    refine hk 27 72 (by kernel_rfl) S6 ?_
    refine hk 28 73 (by kernel_rfl) S6 ?_
    refine hk 30 75 (by kernel_rfl) S6 ?_
    refine hk 31 76 (by kernel_rfl) S6 ?_
    refine hs 29 74 (by kernel_rfl) S6 ?_
    refine hs 32 77 (by kernel_rfl) S6 ?_
    refine hk 33 78 (by kernel_rfl) S6 ?_
    refine ht 34 79 (.bool true) (by kernel_rfl) (fun _ _ => by kernel_rfl) S6 ?_
    refine ht 35 80 (.bool true) (by kernel_rfl) (fun _ _ => by kernel_rfl) S6 ?_
    refine ht 36 4 (.bool true) (by kernel_rfl) (fun _ _ => by kernel_rfl) S6 ?_
    exact hd_list (by kernel_rfl) (by kernel_rfl) (hQ (.bool true) (bc) (.bool false) (.bool true) (.bool true) (undef) (undef) (undef) (.bool true) (.bool true) (undef) (undef) (undef) (undef) (undef) (undef) (undef) (.bool true) (.bool true) _ B6)
  | true =>
    cases ss with
    | false =>
      refine ht 17 62 (.bool true) (by kernel_rfl) (fun _ _ => by kernel_rfl) S0 ?_
      refine hl 18 63 28 10 (by kernel_rfl) (by kernel_rfl) (by kernel_rfl) (fun _ h => h.2.2.1) S0 ?_
      refine hc 19 64 (by kernel_rfl) (h1 _ B5) (by kernel_rfl) hS B5 ?_
      intro w6 B6 S6
      refine ht 20 65 (.bool false) (by kernel_rfl) (fun _ _ => by kernel_rfl) S6 ?_
      refine ht 21 66 (.bool false) (by kernel_rfl) (fun _ _ => by kernel_rfl) S6 ?_
      refine hl 22 67 28 11 (by kernel_rfl) (by kernel_rfl) (by kernel_rfl) (fun _ h => h.2.2.2.1) S6 ?_
      refine hc 23 68 (by kernel_rfl) (h2 _ B6) (by kernel_rfl) hS B6 ?_
      intro w7 B7 S7
      refine ht 24 69 (.bool true) (by kernel_rfl) (fun _ _ => by kernel_rfl) S7 ?_
      refine ht 25 70 (.bool true) (by kernel_rfl) (fun _ _ => by kernel_rfl) S7 ?_
      refine ht 26 71 (.bool true) (by kernel_rfl) (fun _ _ => by kernel_rfl) S7 ?_
      refine hk 27 72 (by kernel_rfl) S7 ?_
      refine hk 28 73 (by kernel_rfl) S7 ?_
      refine hk 30 75 (by kernel_rfl) S7 ?_
      refine hk 31 76 (by kernel_rfl) S7 ?_
      refine hs 29 74 (by kernel_rfl) S7 ?_
      refine hs 32 77 (by kernel_rfl) S7 ?_
      refine hk 33 78 (by kernel_rfl) S7 ?_
      refine ht 34 79 (.bool true) (by kernel_rfl) (fun _ _ => by kernel_rfl) S7 ?_
      refine ht 35 80 (.bool true) (by kernel_rfl) (fun _ _ => by kernel_rfl) S7 ?_
      refine ht 36 4 (.bool true) (by kernel_rfl) (fun _ _ => by kernel_rfl) S7 ?_
      exact hd_list (by kernel_rfl) (by kernel_rfl) (hQ (.bool true) (bc) (.bool true) (.bool false) (.bool false) (bd) (.bool false) (.bool true) (.bool true) (.bool true) (undef) (undef) (undef) (undef) (undef) (undef) (undef) (.bool true) (.bool true) _ B7)
    | true =>
      refine ht 17 62 (.bool true) (by kernel_rfl) (fun _ _ => by kernel_rfl) S0 ?_
      refine hl 18 63 28 10 (by kernel_rfl) (by kernel_rfl) (by kernel_rfl) (fun _ h => h.2.2.1) S0 ?_
      refine hc 19 64 (by kernel_rfl) (h1 _ B5) (by kernel_rfl) hS B5 ?_
      intro w6 B6 S6
      refine ht 20 65 (.bool false) (by kernel_rfl) (fun _ _ => by kernel_rfl) S6 ?_
      refine ht 21 66 (.bool false) (by kernel_rfl) (fun _ _ => by kernel_rfl) S6 ?_
      refine hl 22 67 28 11 (by kernel_rfl) (by kernel_rfl) (by kernel_rfl) (fun _ h => h.2.2.2.1) S6 ?_
      refine hc 23 68 (by kernel_rfl) (h2 _ B6) (by kernel_rfl) hS B6 ?_
      intro w7 B7 S7
      refine ht 24 69 (.bool false) (by kernel_rfl) (fun _ _ => by kernel_rfl) S7 ?_
      refine ht 25 70 (.bool false) (by kernel_rfl) (fun _ _ => by kernel_rfl) S7 ?_
      refine ht 26 71 (.bool false) (by kernel_rfl) (fun _ _ => by kernel_rfl) S7 ?_
      refine hl 27 72 28 10 (by kernel_rfl) (by kernel_rfl) (by kernel_rfl) (fun _ h => h.2.2.1) S7 ?_
      refine hl 28 73 32 3 (by kernel_rfl) (by kernel_rfl) (by kernel_rfl) (fun _ h => h.2.2.2.2) S7 ?_
      refine hl 30 75 28 11 (by kernel_rfl) (by kernel_rfl) (by kernel_rfl) (fun _ h => h.2.2.2.1) S7 ?_
      refine hl 31 76 32 3 (by kernel_rfl) (by kernel_rfl) (by kernel_rfl) (fun _ h => h.2.2.2.2) S7 ?_
      refine hc 29 74 (by kernel_rfl) (h3 _ B7 rfl rfl) (by kernel_rfl) hS B7 ?_
      intro w8 B8 S8
      refine hc 32 77 (by kernel_rfl) (h4 _ B8 rfl rfl) (by kernel_rfl) hS B8 ?_
      intro w9 B9 S9
      refine ht 33 78 (.bool true) (by kernel_rfl) (fun w' _ => ex_bin (op := .eql) (t := 4) (t' := 4) (x := .tmp 74) (y := .tmp 77) (p := .bool kb) (q := .bool kb) (by kernel_rfl) (by kernel_rfl) (by kernel_rfl) (eqb_run kb _ _ w')) S9 ?_
      refine ht 34 79 (.bool true) (by kernel_rfl) (fun _ _ => by kernel_rfl) S9 ?_
      refine ht 35 80 (.bool true) (by kernel_rfl) (fun _ _ => by kernel_rfl) S9 ?_
      refine ht 36 4 (.bool true) (by kernel_rfl) (fun _ _ => by kernel_rfl) S9 ?_
      exact hd_list (by kernel_rfl) (by kernel_rfl) (hQ (.bool true) (bc) (.bool true) (.bool false) (.bool false) (bd) (.bool true) (.bool false) (.bool false) (.bool false) (bc) (ev) (.bool kb) (bd) (ev) (.bool kb) (.bool true) (.bool true) (.bool true) _ B9)

set_option linter.unusedVariables false in
set_option maxRecDepth 100000 in
theorem r5_13 (p q r s c : Nat) (ba bb bc bd ev : Value) (ka kb ra rb rc rd : Bool) (w5 : World) (Q : Exit → Act → World → Prop)
    (hS : ∀ w', Below w5.heap.size w5 w' → (Instr.loadAt 28 (.pointer (some ⟨p, 0, none⟩))).run Try.prog w' = .ok ba w' ∧ (Instr.loadAt 28 (.pointer (some ⟨q, 0, none⟩))).run Try.prog w' = .ok bb w' ∧ (Instr.loadAt 28 (.pointer (some ⟨r, 0, none⟩))).run Try.prog w' = .ok bc w' ∧ (Instr.loadAt 28 (.pointer (some ⟨s, 0, none⟩))).run Try.prog w' = .ok bd w' ∧ (Instr.loadAt 32 (.pointer (some ⟨c, 0, none⟩))).run Try.prog w' = .ok ev w')
    (h1 : ∀ w', Below w5.heap.size w5 w' → Calls Try.prog 15 #[ba] w' fun e' w6 => e' = .returned (.bool ra) ∧ Below w'.heap.size w' w6)
    (h2 : ∀ w', Below w5.heap.size w5 w' → Calls Try.prog 15 #[bb] w' fun e' w6 => e' = .returned (.bool rb) ∧ Below w'.heap.size w' w6)
    (h3 : ∀ w', Below w5.heap.size w5 w' → ra = true → rb = true → Calls Try.prog 17 #[ba, ev] w' fun e' w6 => e' = .returned (.bool ka) ∧ Below w'.heap.size w' w6)
    (h4 : ∀ w', Below w5.heap.size w5 w' → ra = true → rb = true → Calls Try.prog 17 #[bb, ev] w' fun e' w6 => e' = .returned (.bool ka) ∧ Below w'.heap.size w' w6)
    (h5 : ∀ w', Below w5.heap.size w5 w' → Calls Try.prog 15 #[bc] w' fun e' w6 => e' = .returned (.bool rc) ∧ Below w'.heap.size w' w6)
    (h6 : ∀ w', Below w5.heap.size w5 w' → Calls Try.prog 15 #[bd] w' fun e' w6 => e' = .returned (.bool rd) ∧ Below w'.heap.size w' w6)
    (h7 : ∀ w', Below w5.heap.size w5 w' → rc = true → rd = true → Calls Try.prog 17 #[bc, ev] w' fun e' w6 => e' = .returned (.bool kb) ∧ Below w'.heap.size w' w6)
    (h8 : ∀ w', Below w5.heap.size w5 w' → rc = true → rd = true → Calls Try.prog 17 #[bd, ev] w' fun e' w6 => e' = .returned (.bool kb) ∧ Below w'.heap.size w' w6)
    (c0 c1 c2 c4 c5 c6 c7 c12 c13 c14 c15 c16 c17 c18 c19 c20 c21 c22 c23 c24 c25 c26 c27 c28 c29 c30 c31 c32 c33 c34 c35 c36 c37 c38 c39 c40 c41 c42 c43 c44 c45 c46 c47 c48 c49 c50 c51 c52 c53 c54 c55 c56 c57 c58 c59 c60 c61 c62 c63 c64 c65 c66 c67 c68 c69 c70 c71 c72 c73 c74 c75 c76 c77 c78 c79 c80 : Value)
    (hQ : ∀ (u45 u46 u47 u48 u49 u50 u51 u52 u53 u54 u55 u56 u57 u58 u59 u60 u61 u62 u63 u64 u65 u66 u67 u68 u69 u70 u71 u72 u73 u74 u75 u76 u77 u78 u79 u80 : Value) (w6 : World), Below w5.heap.size w5 w6 → Q .normal ⟨#[c0, c1, c2, .pointer (some ⟨c, 0, none⟩), .bool true, c5, c6, c7, .pointer (some ⟨p, 0, none⟩), .pointer (some ⟨q, 0, none⟩), .pointer (some ⟨r, 0, none⟩), .pointer (some ⟨s, 0, none⟩), c12, c13, c14, c15, c16, c17, c18, c19, c20, c21, c22, c23, c24, c25, c26, c27, c28, c29, c30, c31, c32, c33, c34, c35, c36, c37, c38, c39, c40, c41, c42, c43, c44, u45, u46, u47, u48, u49, u50, u51, u52, u53, u54, u55, u56, u57, u58, u59, u60, u61, u62, u63, u64, u65, u66, u67, u68, u69, u70, u71, u72, u73, u74, u75, u76, u77, u78, u79, u80], []⟩ w6) : Code.wp Try.prog reg5_13 Q ⟨#[c0, c1, c2, .pointer (some ⟨c, 0, none⟩), c4, c5, c6, c7, .pointer (some ⟨p, 0, none⟩), .pointer (some ⟨q, 0, none⟩), .pointer (some ⟨r, 0, none⟩), .pointer (some ⟨s, 0, none⟩), c12, c13, c14, c15, c16, c17, c18, c19, c20, c21, c22, c23, c24, c25, c26, c27, c28, c29, c30, c31, c32, c33, c34, c35, c36, c37, c38, c39, c40, c41, c42, c43, c44, c45, c46, c47, c48, c49, c50, c51, c52, c53, c54, c55, c56, c57, c58, c59, c60, c61, c62, c63, c64, c65, c66, c67, c68, c69, c70, c71, c72, c73, c74, c75, c76, c77, c78, c79, c80], []⟩ w5 := by
  have BD : Below w5.heap.size w5 w5.drew := (Below.refl _ _).drew
  rw [reg5_13_is]
  refine hd_start (n := 37) (fun w' => (Instr.loadAt 28 (.pointer (some ⟨p, 0, none⟩))).run Try.prog w' = .ok ba w' ∧ (Instr.loadAt 28 (.pointer (some ⟨q, 0, none⟩))).run Try.prog w' = .ok bb w' ∧ (Instr.loadAt 28 (.pointer (some ⟨r, 0, none⟩))).run Try.prog w' = .ok bc w' ∧ (Instr.loadAt 28 (.pointer (some ⟨s, 0, none⟩))).run Try.prog w' = .ok bd w' ∧ (Instr.loadAt 32 (.pointer (some ⟨c, 0, none⟩))).run Try.prog w' = .ok ev w') (by kernel_rfl) (by kernel_rfl) (hS _ BD) ?_
  refine r5x p q r s c ba bb bc bd ev ka ra rb w5.drew Q (fun w' hb => hS w' (below_step BD hb)) (fun w' hb => h1 w' (below_step BD hb)) (fun w' hb => h2 w' (below_step BD hb)) (fun w' hb => h3 w' (below_step BD hb)) (fun w' hb => h4 w' (below_step BD hb)) _ _ _ _ _ _ _ _ _ _ _ _ _ _ _ _ _ _ _ _ _ _ _ _ _ _ _ _ _ _ _ _ _ _ _ _ _ _ _ _ _ _ _ _ _ _ _ _ _ _ _ _ _ _ _ _ _ _ _ _ _ _ _ _ _ _ _ _ _ _ _ _ _ _ _ _ ?_
  intro xu45 xu46 xu47 xu48 xu49 xu50 xu51 xu52 xu53 xu54 xu55 xu56 xu57 xu58 xu59 xu60 wx hbx
  have BX := below_step BD hbx
  refine r5y p q r s c ba bb bc bd ev kb rc rd wx Q (fun w' hb => hS w' (below_step BX hb)) (fun w' hb => h5 w' (below_step BX hb)) (fun w' hb => h6 w' (below_step BX hb)) (fun w' hb => h7 w' (below_step BX hb)) (fun w' hb => h8 w' (below_step BX hb)) _ _ _ _ _ _ _ _ _ _ _ _ _ _ _ _ _ _ _ _ _ _ _ _ _ _ _ _ _ _ _ _ _ _ _ _ _ _ _ _ _ _ _ _ _ _ _ _ _ _ _ _ _ _ _ _ _ _ _ _ _ _ _ _ _ _ _ _ _ _ _ _ _ _ _ ?_
  intro yu62 yu63 yu64 yu65 yu66 yu67 yu68 yu69 yu70 yu71 yu72 yu73 yu74 yu75 yu76 yu77 yu78 yu79 yu80 wy hby
  refine hd_done (by kernel_rfl) ?_
  exact hQ _ _ _ _ _ _ _ _ _ _ _ _ _ _ _ _ _ _ _ _ _ _ _ _ _ _ _ _ _ _ _ _ _ _ _ _ _ (below_step BX hby)

end Go.Proofs.Ytjkhajcngapjcaa.Q
