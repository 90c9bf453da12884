/- ExprMakes: the last line, a region that draws its order, in parts; printed by gen_r4.py. -/
import Derived.Test.YtjkhajcngapjcaaHP
namespace Go.Proofs.Ytjkhajcngapjcaa.Q
open Go.RowKit Go.Proofs.YtjkhajcngapjcaaW.PrintWords

/-- The region 6. -/
noncomputable def reg4_6 : Code := (Try.f4.body.bind (regAt 6)).getD .skip
noncomputable def ops4_6 : Array Oper := opsOf reg4_6
noncomputable def op4_6 (k : Nat) : Oper := (ops4_6[k]?).getD ⟨none, .move (.tmp 0), 0, "", #[], none⟩
theorem reg4_6_is : reg4_6 = .region 6 ops4_6 true := by kernel_rfl

set_option maxHeartbeats 4000000 in
set_option linter.unusedVariables false in
set_option maxRecDepth 100000 in
theorem r4x (p q r c : Nat) (bx byy bz ev : Value) (kb i rr so : Bool) (w5 : World) (Q : Exit → Act → World → Prop)
    (hS : ∀ w', Below w5.heap.size w5 w' → (Instr.loadAt 28 (.pointer (some ⟨p, 0, none⟩))).run Try.prog w' = .ok bx w' ∧ (Instr.loadAt 28 (.pointer (some ⟨q, 0, none⟩))).run Try.prog w' = .ok byy w' ∧ (Instr.loadAt 28 (.pointer (some ⟨r, 0, none⟩))).run Try.prog w' = .ok bz w' ∧ (Instr.loadAt 32 (.pointer (some ⟨c, 0, none⟩))).run Try.prog w' = .ok ev w')
    (h1 : ∀ w', Below w5.heap.size w5 w' → Calls Try.prog 15 #[bx] w' fun e' w6 => e' = .returned (.bool rr) ∧ Below w'.heap.size w' w6)
    (h2 : ∀ w', Below w5.heap.size w5 w' → rr = true → Calls Try.prog 17 #[bx, ev] w' fun e' w6 => e' = .returned (.bool (i && kb)) ∧ Below w'.heap.size w' w6)
    (c0 c1 c2 c3 c4 c6 c12 c13 c14 c15 c16 c17 c18 c19 c20 c21 c22 c23 c24 c25 c26 c27 c28 c29 c30 c31 c32 c33 c34 c35 c36 c37 c38 c39 c40 c41 c42 c43 c44 c45 c46 c47 c48 c49 c50 c51 c52 c53 c54 c55 c56 c57 c58 c59 c60 c61 c62 c63 c64 c65 c66 c67 c68 c69 c70 c71 c72 c73 c74 c75 c76 c77 c78 c79 c80 c81 c82 c83 c84 c85 c86 c87 c88 c89 c90 c91 c92 c93 c94 c95 c96 c97 c98 c99 c100 c101 c102 c103 c104 c105 : Value)
    (hQ : ∀ (u55 u56 u57 u58 u59 u60 u61 u62 u63 u64 u65 u66 : Value) (w6 : World), Below w5.heap.size w5 w6 → wpAnyH Try.prog .any ops4_6 (NoPanic Q) (fun w' => (Instr.loadAt 28 (.pointer (some ⟨p, 0, none⟩))).run Try.prog w' = .ok bx w' ∧ (Instr.loadAt 28 (.pointer (some ⟨q, 0, none⟩))).run Try.prog w' = .ok byy w' ∧ (Instr.loadAt 28 (.pointer (some ⟨r, 0, none⟩))).run Try.prog w' = .ok bz w' ∧ (Instr.loadAt 32 (.pointer (some ⟨c, 0, none⟩))).run Try.prog w' = .ok ev w') 39 #[true, true, true, true, true, true, true, true, true, true, true, true, true, false, false, false, false, false, false, false, false, false, false, false, false, false, false, false, false, false, false, false, false, false, false, false, false, false, false, false, false, false, false, false, false, false, false, false, false, false, false, false] ⟨#[c0, c1, c2, c3, c4, .pointer (some ⟨c, 0, none⟩), c6, .pointer (some ⟨p, 0, none⟩), .pointer (some ⟨q, 0, none⟩), .pointer (some ⟨r, 0, none⟩), .bool i, .bool kb, c12, c13, c14, c15, c16, c17, c18, c19, c20, c21, c22, c23, c24, c25, c26, c27, c28, c29, c30, c31, c32, c33, c34, c35, c36, c37, c38, c39, c40, c41, c42, c43, c44, c45, c46, c47, c48, c49, c50, c51, c52, c53, c54, u55, u56, u57, u58, u59, u60, u61, u62, u63, u64, u65, u66, .bool true, c68, c69, c70, c71, c72, c73, c74, c75, c76, c77, c78, c79, c80, c81, c82, c83, c84, c85, c86, c87, c88, c89, c90, c91, c92, c93, c94, c95, c96, c97, c98, c99, c100, c101, c102, c103, c104, c105], []⟩ w6) : wpAnyH Try.prog .any ops4_6 (NoPanic Q) (fun w' => (Instr.loadAt 28 (.pointer (some ⟨p, 0, none⟩))).run Try.prog w' = .ok bx w' ∧ (Instr.loadAt 28 (.pointer (some ⟨q, 0, none⟩))).run Try.prog w' = .ok byy w' ∧ (Instr.loadAt 28 (.pointer (some ⟨r, 0, none⟩))).run Try.prog w' = .ok bz w' ∧ (Instr.loadAt 32 (.pointer (some ⟨c, 0, none⟩))).run Try.prog w' = .ok ev w') 52 #[false, false, false, false, false, false, false, false, false, false, false, false, false, false, false, false, false, false, false, false, false, false, false, false, false, false, false, false, false, false, false, false, false, false, false, false, false, false, false, false, false, false, false, false, false, false, false, false, false, false, false, false] ⟨#[c0, c1, c2, c3, c4, .pointer (some ⟨c, 0, none⟩), c6, .pointer (some ⟨p, 0, none⟩), .pointer (some ⟨q, 0, none⟩), .pointer (some ⟨r, 0, none⟩), .bool i, .bool kb, c12, c13, c14, c15, c16, c17, c18, c19, c20, c21, c22, c23, c24, c25, c26, c27, c28, c29, c30, c31, c32, c33, c34, c35, c36, c37, c38, c39, c40, c41, c42, c43, c44, c45, c46, c47, c48, c49, c50, c51, c52, c53, c54, c55, c56, c57, c58, c59, c60, c61, c62, c63, c64, c65, c66, c67, c68, c69, c70, c71, c72, c73, c74, c75, c76, c77, c78, c79, c80, c81, c82, c83, c84, c85, c86, c87, c88, c89, c90, c91, c92, c93, c94, c95, c96, c97, c98, c99, c100, c101, c102, c103, c104, c105], []⟩ w5 := by
  have B5 : Below w5.heap.size w5 w5 := Below.refl _ _
  have S0 := hS _ B5
  cases rr with
  | false =>
    cases i with
    | false =>
      refine hl 0 55 28 7 (by kernel_rfl) (by kernel_rfl) (by kernel_rfl) (fun _ h => h.1) S0 ?_
      refine hc 1 56 (by kernel_rfl) (h1 _ B5) (by kernel_rfl) hS B5 ?_
      intro w6 B6 S6
      refine ht 2 57 (.bool true) (by kernel_rfl) (fun _ _ => by kernel_rfl) S6 ?_
      refine ht 3 58 (.bool true) (by kernel_rfl) (fun _ _ => by kernel_rfl) S6 ?_
      refine hk 4 59 (by kernel_rfl) S6 ?_
      refine hk 5 60 (by kernel_rfl) S6 ?_
      refine hk 7 62 (by kernel_rfl) S6 ?_
      refine hs 6 61 (by kernel_rfl) S6 ?_
      refine hk 8 63 (by kernel_rfl) S6 ?_
      refine hk 9 64 (by kernel_rfl) S6 ?_
      refine hk 10 65 (by kernel_rfl) S6 ?_
      refine hk 11 66 (by kernel_rfl) S6 ?_
      refine ht 12 67 (.bool true) (by kernel_rfl) (fun _ _ => by kernel_rfl) S6 ?_
      exact hd_list (by kernel_rfl) (by kernel_rfl) (hQ (bx) (.bool false) (.bool true) (.bool true) (undef) (undef) (undef) (undef) (undef) (undef) (undef) (undef) _ B6)
    | true =>
      refine hl 0 55 28 7 (by kernel_rfl) (by kernel_rfl) (by kernel_rfl) (fun _ h => h.1) S0 ?_
      refine hc 1 56 (by kernel_rfl) (h1 _ B5) (by kernel_rfl) hS B5 ?_
      intro w6 B6 S6
      refine ht 2 57 (.bool true) (by kernel_rfl) (fun _ _ => by kernel_rfl) S6 ?_
      refine ht 3 58 (.bool true) (by kernel_rfl) (fun _ _ => by kernel_rfl) S6 ?_
      refine hk 4 59 (by kernel_rfl) S6 ?_
      refine hk 5 60 (by kernel_rfl) S6 ?_
      refine hk 7 62 (by kernel_rfl) S6 ?_
      refine hs 6 61 (by kernel_rfl) S6 ?_
      refine hk 8 63 (by kernel_rfl) S6 ?_
      refine hk 9 64 (by kernel_rfl) S6 ?_
      refine hk 10 65 (by kernel_rfl) S6 ?_
      refine hk 11 66 (by kernel_rfl) S6 ?_
      refine ht 12 67 (.bool true) (by kernel_rfl) (fun _ _ => by kernel_rfl) S6 ?_
      exact hd_list (by kernel_rfl) (by kernel_rfl) (hQ (bx) (.bool false) (.bool true) (.bool true) (undef) (undef) (undef) (undef) (undef) (undef) (undef) (undef) _ B6)
  | true =>
    cases i with
    | false =>
      refine hl 0 55 28 7 (by kernel_rfl) (by kernel_rfl) (by kernel_rfl) (fun _ h => h.1) S0 ?_
      refine hc 1 56 (by kernel_rfl) (h1 _ B5) (by kernel_rfl) hS B5 ?_
      intro w6 B6 S6
      refine ht 2 57 (.bool false) (by kernel_rfl) (fun _ _ => by kernel_rfl) S6 ?_
      refine ht 3 58 (.bool false) (by kernel_rfl) (fun _ _ => by kernel_rfl) S6 ?_
      refine hl 4 59 28 7 (by kernel_rfl) (by kernel_rfl) (by kernel_rfl) (fun _ h => h.1) S6 ?_
      refine hl 5 60 32 5 (by kernel_rfl) (by kernel_rfl) (by kernel_rfl) (fun _ h => h.2.2.2) S6 ?_
      refine ht 7 62 (.bool false) (by kernel_rfl) (fun _ _ => by kernel_rfl) S6 ?_
      refine hc 6 61 (by kernel_rfl) (h2 _ B6 rfl) (by kernel_rfl) hS B6 ?_
      intro w7 B7 S7
      refine ht 8 63 (.bool false) (by kernel_rfl) (fun _ _ => by kernel_rfl) S7 ?_
      refine hk 9 64 (by kernel_rfl) S7 ?_
      refine ht 10 65 (.bool false) (by kernel_rfl) (fun _ _ => by kernel_rfl) S7 ?_
      refine ht 11 66 (.bool true) (by kernel_rfl) (fun _ _ => by kernel_rfl) S7 ?_
      refine ht 12 67 (.bool true) (by kernel_rfl) (fun _ _ => by kernel_rfl) S7 ?_
      exact hd_list (by kernel_rfl) (by kernel_rfl) (hQ (bx) (.bool true) (.bool false) (.bool false) (bx) (ev) (.bool false) (.bool false) (.bool false) (undef) (.bool false) (.bool true) _ B7)
    | true =>
      refine hl 0 55 28 7 (by kernel_rfl) (by kernel_rfl) (by kernel_rfl) (fun _ h => h.1) S0 ?_
      refine hc 1 56 (by kernel_rfl) (h1 _ B5) (by kernel_rfl) hS B5 ?_
      intro w6 B6 S6
      refine ht 2 57 (.bool false) (by kernel_rfl) (fun _ _ => by kernel_rfl) S6 ?_
      refine ht 3 58 (.bool false) (by kernel_rfl) (fun _ _ => by kernel_rfl) S6 ?_
      refine hl 4 59 28 7 (by kernel_rfl) (by kernel_rfl) (by kernel_rfl) (fun _ h => h.1) S6 ?_
      refine hl 5 60 32 5 (by kernel_rfl) (by kernel_rfl) (by kernel_rfl) (fun _ h => h.2.2.2) S6 ?_
      refine ht 7 62 (.bool true) (by kernel_rfl) (fun _ _ => by kernel_rfl) S6 ?_
      refine hc 6 61 (by kernel_rfl) (h2 _ B6 rfl) (by kernel_rfl) hS B6 ?_
      intro w7 B7 S7
      refine ht 8 63 (.bool true) (by kernel_rfl) (fun _ _ => by kernel_rfl) S7 ?_
      refine ht 9 64 (.bool kb) (by kernel_rfl) (fun _ _ => by kernel_rfl) S7 ?_
      refine ht 10 65 (.bool kb) (by kernel_rfl) (fun _ _ => by kernel_rfl) S7 ?_
      refine ht 11 66 (.bool true) (by kernel_rfl) (fun w' _ => ex_bin (op := .eql) (t := 4) (t' := 4) (x := .tmp 61) (y := .tmp 65) (p := .bool kb) (q := .bool kb) (by kernel_rfl) (by kernel_rfl) (by kernel_rfl) (eqb_run kb _ _ w')) S7 ?_
      refine ht 12 67 (.bool true) (by kernel_rfl) (fun _ _ => by kernel_rfl) S7 ?_
      exact hd_list (by kernel_rfl) (by kernel_rfl) (hQ (bx) (.bool true) (.bool false) (.bool false) (bx) (ev) (.bool kb) (.bool true) (.bool true) (.bool kb) (.bool kb) (.bool true) _ B7)

set_option maxHeartbeats 4000000 in
set_option linter.unusedVariables false in
set_option maxRecDepth 100000 in
theorem r4y (p q r c : Nat) (bx byy bz ev : Value) (kb i rr so : Bool) (w5 : World) (Q : Exit → Act → World → Prop)
    (hS : ∀ w', Below w5.heap.size w5 w' → (Instr.loadAt 28 (.pointer (some ⟨p, 0, none⟩))).run Try.prog w' = .ok bx w' ∧ (Instr.loadAt 28 (.pointer (some ⟨q, 0, none⟩))).run Try.prog w' = .ok byy w' ∧ (Instr.loadAt 28 (.pointer (some ⟨r, 0, none⟩))).run Try.prog w' = .ok bz w' ∧ (Instr.loadAt 32 (.pointer (some ⟨c, 0, none⟩))).run Try.prog w' = .ok ev w')
    (h1 : ∀ w', Below w5.heap.size w5 w' → Calls Try.prog 15 #[byy] w' fun e' w6 => e' = .returned (.bool rr) ∧ Below w'.heap.size w' w6)
    (h2 : ∀ w', Below w5.heap.size w5 w' → rr = true → Calls Try.prog 17 #[byy, ev] w' fun e' w6 => e' = .returned (.bool (i || kb)) ∧ Below w'.heap.size w' w6)
    (c0 c1 c2 c3 c4 c6 c12 c13 c14 c15 c16 c17 c18 c19 c20 c21 c22 c23 c24 c25 c26 c27 c28 c29 c30 c31 c32 c33 c34 c35 c36 c37 c38 c39 c40 c41 c42 c43 c44 c45 c46 c47 c48 c49 c50 c51 c52 c53 c54 c55 c56 c57 c58 c59 c60 c61 c62 c63 c64 c65 c66 c68 c69 c70 c71 c72 c73 c74 c75 c76 c77 c78 c79 c80 c81 c82 c83 c84 c85 c86 c87 c88 c89 c90 c91 c92 c93 c94 c95 c96 c97 c98 c99 c100 c101 c102 c103 c104 c105 : Value)
    (hQ : ∀ (u68 u69 u70 u71 u72 u73 u74 u75 u76 u77 u78 u79 u80 u81 : Value) (w6 : World), Below w5.heap.size w5 w6 → wpAnyH Try.prog .any ops4_6 (NoPanic Q) (fun w' => (Instr.loadAt 28 (.pointer (some ⟨p, 0, none⟩))).run Try.prog w' = .ok bx w' ∧ (Instr.loadAt 28 (.pointer (some ⟨q, 0, none⟩))).run Try.prog w' = .ok byy w' ∧ (Instr.loadAt 28 (.pointer (some ⟨r, 0, none⟩))).run Try.prog w' = .ok bz w' ∧ (Instr.loadAt 32 (.pointer (some ⟨c, 0, none⟩))).run Try.prog w' = .ok ev w') 24 #[true, true, true, true, true, true, true, true, true, true, true, true, true, true, true, true, true, true, true, true, true, true, true, true, true, true, true, true, false, false, false, false, false, false, false, false, false, false, false, false, false, false, false, false, false, false, false, false, false, false, false, false] ⟨#[c0, c1, c2, c3, c4, .pointer (some ⟨c, 0, none⟩), c6, .pointer (some ⟨p, 0, none⟩), .pointer (some ⟨q, 0, none⟩), .pointer (some ⟨r, 0, none⟩), .bool i, .bool kb, c12, c13, c14, c15, c16, c17, c18, c19, c20, c21, c22, c23, c24, c25, c26, c27, c28, c29, c30, c31, c32, c33, c34, c35, c36, c37, c38, c39, c40, c41, c42, c43, c44, c45, c46, c47, c48, c49, c50, c51, c52, c53, c54, c55, c56, c57, c58, c59, c60, c61, c62, c63, c64, c65, c66, .bool true, u68, u69, u70, u71, u72, u73, u74, u75, u76, u77, u78, u79, u80, u81, .bool true, c83, c84, c85, c86, c87, c88, c89, c90, c91, c92, c93, c94, c95, c96, c97, c98, c99, c100, c101, c102, c103, c104, c105], []⟩ w6) : wpAnyH Try.prog .any ops4_6 (NoPanic Q) (fun w' => (Instr.loadAt 28 (.pointer (some ⟨p, 0, none⟩))).run Try.prog w' = .ok bx w' ∧ (Instr.loadAt 28 (.pointer (some ⟨q, 0, none⟩))).run Try.prog w' = .ok byy w' ∧ (Instr.loadAt 28 (.pointer (some ⟨r, 0, none⟩))).run Try.prog w' = .ok bz w' ∧ (Instr.loadAt 32 (.pointer (some ⟨c, 0, none⟩))).run Try.prog w' = .ok ev w') 39 #[true, true, true, true, true, true, true, true, true, true, true, true, true, false, false, false, false, false, false, false, false, false, false, false, false, false, false, false, false, false, false, false, false, false, false, false, false, false, false, false, false, false, false, false, false, false, false, false, false, false, false, false] ⟨#[c0, c1, c2, c3, c4, .pointer (some ⟨c, 0, none⟩), c6, .pointer (some ⟨p, 0, none⟩), .pointer (some ⟨q, 0, none⟩), .pointer (some ⟨r, 0, none⟩), .bool i, .bool kb, c12, c13, c14, c15, c16, c17, c18, c19, c20, c21, c22, c23, c24, c25, c26, c27, c28, c29, c30, c31, c32, c33, c34, c35, c36, c37, c38, c39, c40, c41, c42, c43, c44, c45, c46, c47, c48, c49, c50, c51, c52, c53, c54, c55, c56, c57, c58, c59, c60, c61, c62, c63, c64, c65, c66, .bool true, c68, c69, c70, c71, c72, c73, c74, c75, c76, c77, c78, c79, c80, c81, c82, c83, c84, c85, c86, c87, c88, c89, c90, c91, c92, c93, c94, c95, c96, c97, c98, c99, c100, c101, c102, c103, c104, c105], []⟩ w5 := by
  have B5 : Below w5.heap.size w5 w5 := Below.refl _ _
  have S0 := hS _ B5
  cases rr with
  | false =>
    cases i with
    | false =>
      refine ht 13 68 (.bool true) (by kernel_rfl) (fun _ _ => by kernel_rfl) S0 ?_
      refine hl 14 69 28 8 (by kernel_rfl) (by kernel_rfl) (by kernel_rfl) (fun _ h => h.2.1) S0 ?_
      refine hc 15 70 (by kernel_rfl) (h1 _ B5) (by kernel_rfl) hS B5 ?_
      intro w6 B6 S6
      refine ht 16 71 (.bool true) (by kernel_rfl) (fun _ _ => by kernel_rfl) S6 ?_
      refine ht 17 72 (.bool true) (by kernel_rfl) (fun _ _ => by kernel_rfl) S6 ?_
      refine hk 18 73 (by kernel_rfl) S6 ?_
      refine hk 19 74 (by kernel_rfl) S6 ?_
      refine hk 21 76 (by kernel_rfl) S6 ?_
      refine hs 20 75 (by kernel_rfl) S6 ?_
      refine hk 22 77 (by kernel_rfl) S6 ?_
      refine hk 23 78 (by kernel_rfl) S6 ?_
      refine hk 24 79 (by kernel_rfl) S6 ?_
      refine hk 25 80 (by kernel_rfl) S6 ?_
      refine ht 26 81 (.bool true) (by kernel_rfl) (fun _ _ => by kernel_rfl) S6 ?_
      refine ht 27 82 (.bool true) (by kernel_rfl) (fun _ _ => by kernel_rfl) S6 ?_
      exact hd_list (by kernel_rfl) (by kernel_rfl) (hQ (.bool true) (byy) (.bool false) (.bool true) (.bool true) (undef) (undef) (undef) (undef) (undef) (undef) (undef) (undef) (.bool true) _ B6)
    | true =>
      refine ht 13 68 (.bool true) (by kernel_rfl) (fun _ _ => by kernel_rfl) S0 ?_
      refine hl 14 69 28 8 (by kernel_rfl) (by kernel_rfl) (by kernel_rfl) (fun _ h => h.2.1) S0 ?_
      refine hc 15 70 (by kernel_rfl) (h1 _ B5) (by kernel_rfl) hS B5 ?_
      intro w6 B6 S6
      refine ht 16 71 (.bool true) (by kernel_rfl) (fun _ _ => by kernel_rfl) S6 ?_
      refine ht 17 72 (.bool true) (by kernel_rfl) (fun _ _ => by kernel_rfl) S6 ?_
      refine hk 18 73 (by kernel_rfl) S6 ?_
      refine hk 19 74 (by kernel_rfl) S6 ?_
      refine hk 21 76 (by kernel_rfl) S6 ?_
      refine hs 20 75 (by kernel_rfl) S6 ?_
      refine hk 22 77 (by kernel_rfl) S6 ?_
      refine hk 23 78 (by kernel_rfl) S6 ?_
      refine hk 24 79 (by kernel_rfl) S6 ?_
      refine hk 25 80 (by kernel_rfl) S6 ?_
      refine ht 26 81 (.bool true) (by kernel_rfl) (fun _ _ => by kernel_rfl) S6 ?_
      refine ht 27 82 (.bool true) (by kernel_rfl) (fun _ _ => by kernel_rfl) S6 ?_
      exact hd_list (by kernel_rfl) (by kernel_rfl) (hQ (.bool true) (byy) (.bool false) (.bool true) (.bool true) (undef) (undef) (undef) (undef) (undef) (undef) (undef) (undef) (.bool true) _ B6)
  | true =>
    cases i with
    | false =>
      refine ht 13 68 (.bool true) (by kernel_rfl) (fun _ _ => by kernel_rfl) S0 ?_
      refine hl 14 69 28 8 (by kernel_rfl) (by kernel_rfl) (by kernel_rfl) (fun _ h => h.2.1) S0 ?_
      refine hc 15 70 (by kernel_rfl) (h1 _ B5) (by kernel_rfl) hS B5 ?_
      intro w6 B6 S6
      refine ht 16 71 (.bool false) (by kernel_rfl) (fun _ _ => by kernel_rfl) S6 ?_
      refine ht 17 72 (.bool false) (by kernel_rfl) (fun _ _ => by kernel_rfl) S6 ?_
      refine hl 18 73 28 8 (by kernel_rfl) (by kernel_rfl) (by kernel_rfl) (fun _ h => h.2.1) S6 ?_
      refine hl 19 74 32 5 (by kernel_rfl) (by kernel_rfl) (by kernel_rfl) (fun _ h => h.2.2.2) S6 ?_
      refine ht 21 76 (.bool false) (by kernel_rfl) (fun _ _ => by kernel_rfl) S6 ?_
      refine hc 20 75 (by kernel_rfl) (h2 _ B6 rfl) (by kernel_rfl) hS B6 ?_
      intro w7 B7 S7
      refine ht 22 77 (.bool false) (by kernel_rfl) (fun _ _ => by kernel_rfl) S7 ?_
      refine ht 23 78 (.bool kb) (by kernel_rfl) (fun _ _ => by kernel_rfl) S7 ?_
      refine ht 24 79 (.bool kb) (by kernel_rfl) (fun _ _ => by kernel_rfl) S7 ?_
      refine ht 25 80 (.bool true) (by kernel_rfl) (fun w' _ => ex_bin (op := .eql) (t := 4) (t' := 4) (x := .tmp 75) (y := .tmp 79) (p := .bool kb) (q := .bool kb) (by kernel_rfl) (by kernel_rfl) (by kernel_rfl) (eqb_run kb _ _ w')) S7 ?_
      refine ht 26 81 (.bool true) (by kernel_rfl) (fun _ _ => by kernel_rfl) S7 ?_
      refine ht 27 82 (.bool true) (by kernel_rfl) (fun _ _ => by kernel_rfl) S7 ?_
      exact hd_list (by kernel_rfl) (by kernel_rfl) (hQ (.bool true) (byy) (.bool true) (.bool false) (.bool false) (byy) (ev) (.bool kb) (.bool false) (.bool false) (.bool kb) (.bool kb) (.bool true) (.bool true) _ B7)
    | true =>
      refine ht 13 68 (.bool true) (by kernel_rfl) (fun _ _ => by kernel_rfl) S0 ?_
      refine hl 14 69 28 8 (by kernel_rfl) (by kernel_rfl) (by kernel_rfl) (fun _ h => h.2.1) S0 ?_
      refine hc 15 70 (by kernel_rfl) (h1 _ B5) (by kernel_rfl) hS B5 ?_
      intro w6 B6 S6
      refine ht 16 71 (.bool false) (by kernel_rfl) (fun _ _ => by kernel_rfl) S6 ?_
      refine ht 17 72 (.bool false) (by kernel_rfl) (fun _ _ => by kernel_rfl) S6 ?_
      refine hl 18 73 28 8 (by kernel_rfl) (by kernel_rfl) (by kernel_rfl) (fun _ h => h.2.1) S6 ?_
      refine hl 19 74 32 5 (by kernel_rfl) (by kernel_rfl) (by kernel_rfl) (fun _ h => h.2.2.2) S6 ?_
      refine ht 21 76 (.bool true) (by kernel_rfl) (fun _ _ => by kernel_rfl) S6 ?_
      refine hc 20 75 (by kernel_rfl) (h2 _ B6 rfl) (by kernel_rfl) hS B6 ?_
      intro w7 B7 S7
      refine ht 22 77 (.bool true) (by kernel_rfl) (fun _ _ => by kernel_rfl) S7 ?_
      refine hk 23 78 (by kernel_rfl) S7 ?_
      refine ht 24 79 (.bool true) (by kernel_rfl) (fun _ _ => by kernel_rfl) S7 ?_
      refine ht 25 80 (.bool true) (by kernel_rfl) (fun _ _ => by kernel_rfl) S7 ?_
      refine ht 26 81 (.bool true) (by kernel_rfl) (fun _ _ => by kernel_rfl) S7 ?_
      refine ht 27 82 (.bool true) (by kernel_rfl) (fun _ _ => by kernel_rfl) S7 ?_
      exact hd_list (by kernel_rfl) (by kernel_rfl) (hQ (.bool true) (byy) (.bool true) (.bool false) (.bool false) (byy) (ev) (.bool true) (.bool true) (.bool true) (undef) (.bool true) (.bool true) (.bool true) _ B7)

set_option maxHeartbeats 4000000 in
set_option linter.unusedVariables false in
set_option maxRecDepth 100000 in
theorem r4z (p q r c : Nat) (bx byy bz ev : Value) (kb i rr so : Bool) (w5 : World) (Q : Exit → Act → World → Prop)
    (hS : ∀ w', Below w5.heap.size w5 w' → (Instr.loadAt 28 (.pointer (some ⟨p, 0, none⟩))).run Try.prog w' = .ok bx w' ∧ (Instr.loadAt 28 (.pointer (some ⟨q, 0, none⟩))).run Try.prog w' = .ok byy w' ∧ (Instr.loadAt 28 (.pointer (some ⟨r, 0, none⟩))).run Try.prog w' = .ok bz w' ∧ (Instr.loadAt 32 (.pointer (some ⟨c, 0, none⟩))).run Try.prog w' = .ok ev w')
    (h1 : ∀ w', Below w5.heap.size w5 w' → Calls Try.prog 15 #[bz] w' fun e' w6 => e' = .returned (.bool rr) ∧ Below w'.heap.size w' w6)
    (h2 : ∀ w', Below w5.heap.size w5 w' → rr = true → Calls Try.prog 17 #[bz, ev] w' fun e' w6 => e' = .returned (.bool (so && !i)) ∧ Below w'.heap.size w' w6)
    (hso : i = true → so = true)
    (c0 c1 c2 c3 c4 c6 c13 c14 c15 c16 c17 c18 c19 c20 c21 c22 c23 c24 c25 c26 c27 c28 c29 c30 c31 c32 c33 c34 c35 c36 c37 c38 c39 c40 c41 c42 c43 c44 c45 c46 c47 c48 c49 c50 c51 c52 c53 c54 c55 c56 c57 c58 c59 c60 c61 c62 c63 c64 c65 c66 c67 c68 c69 c70 c71 c72 c73 c74 c75 c76 c77 c78 c79 c80 c81 c83 c84 c85 c86 c87 c88 c89 c90 c91 c92 c93 c94 c95 c96 c97 c98 c99 c100 c101 c102 c103 c104 c105 : Value)
    (hQ : ∀ (u83 u84 u85 u86 u87 u88 u89 u90 u91 u92 u93 u94 u95 u96 u97 : Value) (w6 : World), Below w5.heap.size w5 w6 → wpAnyH Try.prog .any ops4_6 (NoPanic Q) (fun w' => (Instr.loadAt 28 (.pointer (some ⟨p, 0, none⟩))).run Try.prog w' = .ok bx w' ∧ (Instr.loadAt 28 (.pointer (some ⟨q, 0, none⟩))).run Try.prog w' = .ok byy w' ∧ (Instr.loadAt 28 (.pointer (some ⟨r, 0, none⟩))).run Try.prog w' = .ok bz w' ∧ (Instr.loadAt 32 (.pointer (some ⟨c, 0, none⟩))).run Try.prog w' = .ok ev w') 8 #[true, true, true, true, true, true, true, true, true, true, true, true, true, true, true, true, true, true, true, true, true, true, true, true, true, true, true, true, true, true, true, true, true, true, true, true, true, true, true, true, true, true, true, true, false, false, false, false, false, false, false, false] ⟨#[c0, c1, c2, c3, c4, .pointer (some ⟨c, 0, none⟩), c6, .pointer (some ⟨p, 0, none⟩), .pointer (some ⟨q, 0, none⟩), .pointer (some ⟨r, 0, none⟩), .bool i, .bool kb, .bool so, c13, c14, c15, c16, c17, c18, c19, c20, c21, c22, c23, c24, c25, c26, c27, c28, c29, c30, c31, c32, c33, c34, c35, c36, c37, c38, c39, c40, c41, c42, c43, c44, c45, c46, c47, c48, c49, c50, c51, c52, c53, c54, c55, c56, c57, c58, c59, c60, c61, c62, c63, c64, c65, c66, c67, c68, c69, c70, c71, c72, c73, c74, c75, c76, c77, c78, c79, c80, c81, .bool true, u83, u84, u85, u86, u87, u88, u89, u90, u91, u92, u93, u94, u95, u96, u97, .bool true, c99, c100, c101, c102, c103, c104, c105], []⟩ w6) : wpAnyH Try.prog .any ops4_6 (NoPanic Q) (fun w' => (Instr.loadAt 28 (.pointer (some ⟨p, 0, none⟩))).run Try.prog w' = .ok bx w' ∧ (Instr.loadAt 28 (.pointer (some ⟨q, 0, none⟩))).run Try.prog w' = .ok byy w' ∧ (Instr.loadAt 28 (.pointer (some ⟨r, 0, none⟩))).run Try.prog w' = .ok bz w' ∧ (Instr.loadAt 32 (.pointer (some ⟨c, 0, none⟩))).run Try.prog w' = .ok ev w') 24 #[true, true, true, true, true, true, true, true, true, true, true, true, true, true, true, true, true, true, true, true, true, true, true, true, true, true, true, true, false, false, false, false, false, false, false, false, false, false, false, false, false, false, false, false, false, false, false, false, false, false, false, false] ⟨#[c0, c1, c2, c3, c4, .pointer (some ⟨c, 0, none⟩), c6, .pointer (some ⟨p, 0, none⟩), .pointer (some ⟨q, 0, none⟩), .pointer (some ⟨r, 0, none⟩), .bool i, .bool kb, .bool so, c13, c14, c15, c16, c17, c18, c19, c20, c21, c22, c23, c24, c25, c26, c27, c28, c29, c30, c31, c32, c33, c34, c35, c36, c37, c38, c39, c40, c41, c42, c43, c44, c45, c46, c47, c48, c49, c50, c51, c52, c53, c54, c55, c56, c57, c58, c59, c60, c61, c62, c63, c64, c65, c66, c67, c68, c69, c70, c71, c72, c73, c74, c75, c76, c77, c78, c79, c80, c81, .bool true, c83, c84, c85, c86, c87, c88, c89, c90, c91, c92, c93, c94, c95, c96, c97, c98, c99, c100, c101, c102, c103, c104, c105], []⟩ w5 := by
  have B5 : Below w5.heap.size w5 w5 := Below.refl _ _
  have S0 := hS _ B5
  cases rr with
  | false =>
    cases i with
    | false =>
      cases so with
      | false =>
        refine ht 28 83 (.bool true) (by kernel_rfl) (fun _ _ => by kernel_rfl) S0 ?_
        refine hl 29 84 28 9 (by kernel_rfl) (by kernel_rfl) (by kernel_rfl) (fun _ h => h.2.2.1) S0 ?_
        refine hc 30 85 (by kernel_rfl) (h1 _ B5) (by kernel_rfl) hS B5 ?_
        intro w6 B6 S6
        refine ht 31 86 (.bool true) (by kernel_rfl) (fun _ _ => by kernel_rfl) S6 ?_
        refine ht 32 87 (.bool true) (by kernel_rfl) (fun _ _ => by kernel_rfl) S6 ?_
        refine hk 33 88 (by kernel_rfl) S6 ?_
        refine hk 34 89 (by kernel_rfl) S6 ?_
        refine hk 36 91 (by kernel_rfl) S6 ?_
        refine hs 35 90 (by kernel_rfl) S6 ?_
        refine hk 37 92 (by kernel_rfl) S6 ?_
        refine hk 38 93 (by kernel_rfl) S6 ?_
        refine hk 39 94 (by kernel_rfl) S6 ?_
        refine hk 40 95 (by kernel_rfl) S6 ?_
        refine hk 41 96 (by kernel_rfl) S6 ?_
        refine ht 42 97 (.bool true) (by kernel_rfl) (fun _ _ => by kernel_rfl) S6 ?_
        refine ht 43 98 (.bool true) (by kernel_rfl) (fun _ _ => by kernel_rfl) S6 ?_
        exact hd_list (by kernel_rfl) (by kernel_rfl) (hQ (.bool true) (bz) (.bool false) (.bool true) (.bool true) (undef) (undef) (undef) (undef) (undef) (undef) (undef) (undef) (undef) (.bool true) _ B6)
      | true =>
        refine ht 28 83 (.bool true) (by kernel_rfl) (fun _ _ => by kernel_rfl) S0 ?_
        refine hl 29 84 28 9 (by kernel_rfl) (by kernel_rfl) (by kernel_rfl) (fun _ h => h.2.2.1) S0 ?_
        refine hc 30 85 (by kernel_rfl) (h1 _ B5) (by kernel_rfl) hS B5 ?_
        intro w6 B6 S6
        refine ht 31 86 (.bool true) (by kernel_rfl) (fun _ _ => by kernel_rfl) S6 ?_
        refine ht 32 87 (.bool true) (by kernel_rfl) (fun _ _ => by kernel_rfl) S6 ?_
        refine hk 33 88 (by kernel_rfl) S6 ?_
        refine hk 34 89 (by kernel_rfl) S6 ?_
        refine hk 36 91 (by kernel_rfl) S6 ?_
        refine hs 35 90 (by kernel_rfl) S6 ?_
        refine hk 37 92 (by kernel_rfl) S6 ?_
        refine hk 38 93 (by kernel_rfl) S6 ?_
        refine hk 39 94 (by kernel_rfl) S6 ?_
        refine hk 40 95 (by kernel_rfl) S6 ?_
        refine hk 41 96 (by kernel_rfl) S6 ?_
        refine ht 42 97 (.bool true) (by kernel_rfl) (fun _ _ => by kernel_rfl) S6 ?_
        refine ht 43 98 (.bool true) (by kernel_rfl) (fun _ _ => by kernel_rfl) S6 ?_
        exact hd_list (by kernel_rfl) (by kernel_rfl) (hQ (.bool true) (bz) (.bool false) (.bool true) (.bool true) (undef) (undef) (undef) (undef) (undef) (undef) (undef) (undef) (undef) (.bool true) _ B6)
    | true =>
      have hs := hso rfl
      subst hs
      refine ht 28 83 (.bool true) (by kernel_rfl) (fun _ _ => by kernel_rfl) S0 ?_
      refine hl 29 84 28 9 (by kernel_rfl) (by kernel_rfl) (by kernel_rfl) (fun _ h => h.2.2.1) S0 ?_
      refine hc 30 85 (by kernel_rfl) (h1 _ B5) (by kernel_rfl) hS B5 ?_
      intro w6 B6 S6
      refine ht 31 86 (.bool true) (by kernel_rfl) (fun _ _ => by kernel_rfl) S6 ?_
      refine ht 32 87 (.bool true) (by kernel_rfl) (fun _ _ => by kernel_rfl) S6 ?_
      refine hk 33 88 (by kernel_rfl) S6 ?_
      refine hk 34 89 (by kernel_rfl) S6 ?_
      refine hk 36 91 (by kernel_rfl) S6 ?_
      refine hs 35 90 (by kernel_rfl) S6 ?_
      refine hk 37 92 (by kernel_rfl) S6 ?_
      refine hk 38 93 (by kernel_rfl) S6 ?_
      refine hk 39 94 (by kernel_rfl) S6 ?_
      refine hk 40 95 (by kernel_rfl) S6 ?_
      refine hk 41 96 (by kernel_rfl) S6 ?_
      refine ht 42 97 (.bool true) (by kernel_rfl) (fun _ _ => by kernel_rfl) S6 ?_
      refine ht 43 98 (.bool true) (by kernel_rfl) (fun _ _ => by kernel_rfl) S6 ?_
      exact hd_list (by kernel_rfl) (by kernel_rfl) (hQ (.bool true) (bz) (.bool false) (.bool true) (.bool true) (undef) (undef) (undef) (undef) (undef) (undef) (undef) (undef) (undef) (.bool true) _ B6)
  | true =>
    cases i with
    | false =>
      cases so with
      | false =>
        refine ht 28 83 (.bool true) (by kernel_rfl) (fun _ _ => by kernel_rfl) S0 ?_
        refine hl 29 84 28 9 (by kernel_rfl) (by kernel_rfl) (by kernel_rfl) (fun _ h => h.2.2.1) S0 ?_
        refine hc 30 85 (by kernel_rfl) (h1 _ B5) (by kernel_rfl) hS B5 ?_
        intro w6 B6 S6
        refine ht 31 86 (.bool false) (by kernel_rfl) (fun _ _ => by kernel_rfl) S6 ?_
        refine ht 32 87 (.bool false) (by kernel_rfl) (fun _ _ => by kernel_rfl) S6 ?_
        refine hl 33 88 28 9 (by kernel_rfl) (by kernel_rfl) (by kernel_rfl) (fun _ h => h.2.2.1) S6 ?_
        refine hl 34 89 32 5 (by kernel_rfl) (by kernel_rfl) (by kernel_rfl) (fun _ h => h.2.2.2) S6 ?_
        refine ht 36 91 (.bool false) (by kernel_rfl) (fun _ _ => by kernel_rfl) S6 ?_
        refine hc 35 90 (by kernel_rfl) (h2 _ B6 rfl) (by kernel_rfl) hS B6 ?_
        intro w7 B7 S7
        refine ht 37 92 (.bool false) (by kernel_rfl) (fun _ _ => by kernel_rfl) S7 ?_
        refine hk 38 93 (by kernel_rfl) S7 ?_
        refine hk 39 94 (by kernel_rfl) S7 ?_
        refine ht 40 95 (.bool false) (by kernel_rfl) (fun _ _ => by kernel_rfl) S7 ?_
        refine ht 41 96 (.bool true) (by kernel_rfl) (fun _ _ => by kernel_rfl) S7 ?_
        refine ht 42 97 (.bool true) (by kernel_rfl) (fun _ _ => by kernel_rfl) S7 ?_
        refine ht 43 98 (.bool true) (by kernel_rfl) (fun _ _ => by kernel_rfl) S7 ?_
        exact hd_list (by kernel_rfl) (by kernel_rfl) (hQ (.bool true) (bz) (.bool true) (.bool false) (.bool false) (bz) (ev) (.bool false) (.bool false) (.bool false) (undef) (undef) (.bool false) (.bool true) (.bool true) _ B7)
      | true =>
        refine ht 28 83 (.bool true) (by kernel_rfl) (fun _ _ => by kernel_rfl) S0 ?_
        refine hl 29 84 28 9 (by kernel_rfl) (by kernel_rfl) (by kernel_rfl) (fun _ h => h.2.2.1) S0 ?_
        refine hc 30 85 (by kernel_rfl) (h1 _ B5) (by kernel_rfl) hS B5 ?_
        intro w6 B6 S6
        refine ht 31 86 (.bool false) (by kernel_rfl) (fun _ _ => by kernel_rfl) S6 ?_
        refine ht 32 87 (.bool false) (by kernel_rfl) (fun _ _ => by kernel_rfl) S6 ?_
        refine hl 33 88 28 9 (by kernel_rfl) (by kernel_rfl) (by kernel_rfl) (fun _ h => h.2.2.1) S6 ?_
        refine hl 34 89 32 5 (by kernel_rfl) (by kernel_rfl) (by kernel_rfl) (fun _ h => h.2.2.2) S6 ?_
        refine ht 36 91 (.bool true) (by kernel_rfl) (fun _ _ => by kernel_rfl) S6 ?_
        refine hc 35 90 (by kernel_rfl) (h2 _ B6 rfl) (by kernel_rfl) hS B6 ?_
        intro w7 B7 S7
        refine ht 37 92 (.bool true) (by kernel_rfl) (fun _ _ => by kernel_rfl) S7 ?_
        refine ht 38 93 (.bool false) (by kernel_rfl) (fun _ _ => by kernel_rfl) S7 ?_
        refine ht 39 94 (.bool true) (by kernel_rfl) (fun _ _ => by kernel_rfl) S7 ?_
        refine ht 40 95 (.bool true) (by kernel_rfl) (fun _ _ => by kernel_rfl) S7 ?_
        refine ht 41 96 (.bool true) (by kernel_rfl) (fun _ _ => by kernel_rfl) S7 ?_
        refine ht 42 97 (.bool true) (by kernel_rfl) (fun _ _ => by kernel_rfl) S7 ?_
        refine ht 43 98 (.bool true) (by kernel_rfl) (fun _ _ => by kernel_rfl) S7 ?_
        exact hd_list (by kernel_rfl) (by kernel_rfl) (hQ (.bool true) (bz) (.bool true) (.bool false) (.bool false) (bz) (ev) (.bool true) (.bool true) (.bool true) (.bool false) (.bool true) (.bool true) (.bool true) (.bool true) _ B7)
    | true =>
      have hs := hso rfl
      subst hs
      refine ht 28 83 (.bool true) (by kernel_rfl) (fun _ _ => by kernel_rfl) S0 ?_
      refine hl 29 84 28 9 (by kernel_rfl) (by kernel_rfl) (by kernel_rfl) (fun _ h => h.2.2.1) S0 ?_
      refine hc 30 85 (by kernel_rfl) (h1 _ B5) (by kernel_rfl) hS B5 ?_
      intro w6 B6 S6
      refine ht 31 86 (.bool false) (by kernel_rfl) (fun _ _ => by kernel_rfl) S6 ?_
      refine ht 32 87 (.bool false) (by kernel_rfl) (fun _ _ => by kernel_rfl) S6 ?_
      refine hl 33 88 28 9 (by kernel_rfl) (by kernel_rfl) (by kernel_rfl) (fun _ h => h.2.2.1) S6 ?_
      refine hl 34 89 32 5 (by kernel_rfl) (by kernel_rfl) (by kernel_rfl) (fun _ h => h.2.2.2) S6 ?_
      refine ht 36 91 (.bool true) (by kernel_rfl) (fun _ _ => by kernel_rfl) S6 ?_
      refine hc 35 90 (by kernel_rfl) (h2 _ B6 rfl) (by kernel_rfl) hS B6 ?_
      intro w7 B7 S7
      refine ht 37 92 (.bool true) (by kernel_rfl) (fun _ _ => by kernel_rfl) S7 ?_
      refine ht 38 93 (.bool true) (by kernel_rfl) (fun _ _ => by kernel_rfl) S7 ?_
      refine ht 39 94 (.bool false) (by kernel_rfl) (fun _ _ => by kernel_rfl) S7 ?_
      refine ht 40 95 (.bool false) (by kernel_rfl) (fun _ _ => by kernel_rfl) S7 ?_
      refine ht 41 96 (.bool true) (by kernel_rfl) (fun _ _ => by kernel_rfl) S7 ?_
      refine ht 42 97 (.bool true) (by kernel_rfl) (fun _ _ => by kernel_rfl) S7 ?_
      refine ht 43 98 (.bool true) (by kernel_rfl) (fun _ _ => by kernel_rfl) S7 ?_
      exact hd_list (by kernel_rfl) (by kernel_rfl) (hQ (.bool true) (bz) (.bool true) (.bool false) (.bool false) (bz) (ev) (.bool false) (.bool true) (.bool true) (.bool true) (.bool false) (.bool false) (.bool true) (.bool true) _ B7)

set_option maxHeartbeats 4000000 in
set_option linter.unusedVariables false in
set_option maxRecDepth 100000 in
theorem r4l (p q r c : Nat) (bx byy bz ev : Value) (kb : Bool) (w5 : World) (Q : Exit → Act → World → Prop)
    (hS : ∀ w', Below w5.heap.size w5 w' → (Instr.loadAt 28 (.pointer (some ⟨p, 0, none⟩))).run Try.prog w' = .ok bx w' ∧ (Instr.loadAt 28 (.pointer (some ⟨q, 0, none⟩))).run Try.prog w' = .ok byy w' ∧ (Instr.loadAt 28 (.pointer (some ⟨r, 0, none⟩))).run Try.prog w' = .ok bz w' ∧ (Instr.loadAt 32 (.pointer (some ⟨c, 0, none⟩))).run Try.prog w' = .ok ev w')
    (h1 : ∀ w', Below w5.heap.size w5 w' → Calls Try.prog 15 #[bx] w' fun e' w6 => e' = .returned (.bool kb) ∧ Below w'.heap.size w' w6)
    (h2 : ∀ w', Below w5.heap.size w5 w' → Calls Try.prog 16 #[bx] w' fun e' w6 => e' = .returned (.bool kb) ∧ Below w'.heap.size w' w6)
    (c0 c1 c2 c3 c4 c6 c10 c11 c12 c13 c14 c15 c16 c17 c18 c19 c20 c21 c22 c23 c24 c25 c26 c27 c28 c29 c30 c31 c32 c33 c34 c35 c36 c37 c38 c39 c40 c41 c42 c43 c44 c45 c46 c47 c48 c49 c50 c51 c52 c53 c54 c55 c56 c57 c58 c59 c60 c61 c62 c63 c64 c65 c66 c67 c68 c69 c70 c71 c72 c73 c74 c75 c76 c77 c78 c79 c80 c81 c82 c83 c84 c85 c86 c87 c88 c89 c90 c91 c92 c93 c94 c95 c96 c97 c99 c100 c101 c102 c103 c104 c105 : Value)
    (hQ : ∀ (u99 u100 u101 u102 u103 u104 u105 : Value) (w6 : World), Below w5.heap.size w5 w6 → wpAnyH Try.prog .any ops4_6 (NoPanic Q) (fun w' => (Instr.loadAt 28 (.pointer (some ⟨p, 0, none⟩))).run Try.prog w' = .ok bx w' ∧ (Instr.loadAt 28 (.pointer (some ⟨q, 0, none⟩))).run Try.prog w' = .ok byy w' ∧ (Instr.loadAt 28 (.pointer (some ⟨r, 0, none⟩))).run Try.prog w' = .ok bz w' ∧ (Instr.loadAt 32 (.pointer (some ⟨c, 0, none⟩))).run Try.prog w' = .ok ev w') 0 #[true, true, true, true, true, true, true, true, true, true, true, true, true, true, true, true, true, true, true, true, true, true, true, true, true, true, true, true, true, true, true, true, true, true, true, true, true, true, true, true, true, true, true, true, true, true, true, true, true, true, true, true] ⟨#[c0, c1, c2, c3, c4, .pointer (some ⟨c, 0, none⟩), .bool true, .pointer (some ⟨p, 0, none⟩), .pointer (some ⟨q, 0, none⟩), .pointer (some ⟨r, 0, none⟩), c10, c11, c12, c13, c14, c15, c16, c17, c18, c19, c20, c21, c22, c23, c24, c25, c26, c27, c28, c29, c30, c31, c32, c33, c34, c35, c36, c37, c38, c39, c40, c41, c42, c43, c44, c45, c46, c47, c48, c49, c50, c51, c52, c53, c54, c55, c56, c57, c58, c59, c60, c61, c62, c63, c64, c65, c66, c67, c68, c69, c70, c71, c72, c73, c74, c75, c76, c77, c78, c79, c80, c81, c82, c83, c84, c85, c86, c87, c88, c89, c90, c91, c92, c93, c94, c95, c96, c97, .bool true, u99, u100, u101, u102, u103, u104, u105], []⟩ w6) : wpAnyH Try.prog .any ops4_6 (NoPanic Q) (fun w' => (Instr.loadAt 28 (.pointer (some ⟨p, 0, none⟩))).run Try.prog w' = .ok bx w' ∧ (Instr.loadAt 28 (.pointer (some ⟨q, 0, none⟩))).run Try.prog w' = .ok byy w' ∧ (Instr.loadAt 28 (.pointer (some ⟨r, 0, none⟩))).run Try.prog w' = .ok bz w' ∧ (Instr.loadAt 32 (.pointer (some ⟨c, 0, none⟩))).run Try.prog w' = .ok ev w') 8 #[true, true, true, true, true, true, true, true, true, true, true, true, true, true, true, true, true, true, true, true, true, true, true, true, true, true, true, true, true, true, true, true, true, true, true, true, true, true, true, true, true, true, true, true, false, false, false, false, false, false, false, false] ⟨#[c0, c1, c2, c3, c4, .pointer (some ⟨c, 0, none⟩), c6, .pointer (some ⟨p, 0, none⟩), .pointer (some ⟨q, 0, none⟩), .pointer (some ⟨r, 0, none⟩), c10, c11, c12, c13, c14, c15, c16, c17, c18, c19, c20, c21, c22, c23, c24, c25, c26, c27, c28, c29, c30, c31, c32, c33, c34, c35, c36, c37, c38, c39, c40, c41, c42, c43, c44, c45, c46, c47, c48, c49, c50, c51, c52, c53, c54, c55, c56, c57, c58, c59, c60, c61, c62, c63, c64, c65, c66, c67, c68, c69, c70, c71, c72, c73, c74, c75, c76, c77, c78, c79, c80, c81, c82, c83, c84, c85, c86, c87, c88, c89, c90, c91, c92, c93, c94, c95, c96, c97, .bool true, c99, c100, c101, c102, c103, c104, c105], []⟩ w5 := by
  have B5 : Below w5.heap.size w5 w5 := Below.refl _ _
  have S0 := hS _ B5
  refine ht 44 99 (.bool true) (by kernel_rfl) (fun _ _ => by kernel_rfl) S0 ?_
  refine hl 45 100 28 7 (by kernel_rfl) (by kernel_rfl) (by kernel_rfl) (fun _ h => h.1) S0 ?_
  refine hl 47 102 28 7 (by kernel_rfl) (by kernel_rfl) (by kernel_rfl) (fun _ h => h.1) S0 ?_
  refine hc 46 101 (by kernel_rfl) (h1 _ B5) (by kernel_rfl) hS B5 ?_
  intro w6 B6 S6
  refine hc 48 103 (by kernel_rfl) (h2 _ B6) (by kernel_rfl) hS B6 ?_
  intro w7 B7 S7
  refine ht 49 104 (.bool true) (by kernel_rfl) (fun w' _ => ex_bin (op := .eql) (t := 4) (t' := 4) (x := .tmp 101) (y := .tmp 103) (p := .bool kb) (q := .bool kb) (by kernel_rfl) (by kernel_rfl) (by kernel_rfl) (eqb_run kb _ _ w')) S7 ?_
  refine ht 50 105 (.bool true) (by kernel_rfl) (fun _ _ => by kernel_rfl) S7 ?_
  refine ht 51 6 (.bool true) (by kernel_rfl) (fun _ _ => by kernel_rfl) S7 ?_
  exact hd_list (by kernel_rfl) (by kernel_rfl) (hQ (.bool true) (bx) (.bool kb) (bx) (.bool kb) (.bool true) (.bool true) _ B7)

set_option linter.unusedVariables false in
set_option maxRecDepth 100000 in
theorem r4_6 (p q r c : Nat) (bx byy bz ev : Value) (kb i so rx ry rz : Bool) (hso : i = true → so = true) (w5 : World) (Q : Exit → Act → World → Prop)
    (hS : ∀ w', Below w5.heap.size w5 w' → (Instr.loadAt 28 (.pointer (some ⟨p, 0, none⟩))).run Try.prog w' = .ok bx w' ∧ (Instr.loadAt 28 (.pointer (some ⟨q, 0, none⟩))).run Try.prog w' = .ok byy w' ∧ (Instr.loadAt 28 (.pointer (some ⟨r, 0, none⟩))).run Try.prog w' = .ok bz w' ∧ (Instr.loadAt 32 (.pointer (some ⟨c, 0, none⟩))).run Try.prog w' = .ok ev w')
    (h1 : ∀ w', Below w5.heap.size w5 w' → Calls Try.prog 15 #[bx] w' fun e' w6 => e' = .returned (.bool rx) ∧ Below w'.heap.size w' w6)
    (h2 : ∀ w', Below w5.heap.size w5 w' → rx = true → Calls Try.prog 17 #[bx, ev] w' fun e' w6 => e' = .returned (.bool (i && kb)) ∧ Below w'.heap.size w' w6)
    (h3 : ∀ w', Below w5.heap.size w5 w' → Calls Try.prog 15 #[byy] w' fun e' w6 => e' = .returned (.bool ry) ∧ Below w'.heap.size w' w6)
    (h4 : ∀ w', Below w5.heap.size w5 w' → ry = true → Calls Try.prog 17 #[byy, ev] w' fun e' w6 => e' = .returned (.bool (i || kb)) ∧ Below w'.heap.size w' w6)
    (h5 : ∀ w', Below w5.heap.size w5 w' → Calls Try.prog 15 #[bz] w' fun e' w6 => e' = .returned (.bool rz) ∧ Below w'.heap.size w' w6)
    (h6 : ∀ w', Below w5.heap.size w5 w' → rz = true → Calls Try.prog 17 #[bz, ev] w' fun e' w6 => e' = .returned (.bool (so && !i)) ∧ Below w'.heap.size w' w6)
    (h7 : ∀ w', Below w5.heap.size w5 w' → Calls Try.prog 16 #[bx] w' fun e' w6 => e' = .returned (.bool rx) ∧ Below w'.heap.size w' w6)
    (c0 c1 c2 c3 c4 c6 c13 c14 c15 c16 c17 c18 c19 c20 c21 c22 c23 c24 c25 c26 c27 c28 c29 c30 c31 c32 c33 c34 c35 c36 c37 c38 c39 c40 c41 c42 c43 c44 c45 c46 c47 c48 c49 c50 c51 c52 c53 c54 c55 c56 c57 c58 c59 c60 c61 c62 c63 c64 c65 c66 c67 c68 c69 c70 c71 c72 c73 c74 c75 c76 c77 c78 c79 c80 c81 c82 c83 c84 c85 c86 c87 c88 c89 c90 c91 c92 c93 c94 c95 c96 c97 c98 c99 c100 c101 c102 c103 c104 c105 : Value)
    (hQ : ∀ (u55 u56 u57 u58 u59 u60 u61 u62 u63 u64 u65 u66 u67 u68 u69 u70 u71 u72 u73 u74 u75 u76 u77 u78 u79 u80 u81 u82 u83 u84 u85 u86 u87 u88 u89 u90 u91 u92 u93 u94 u95 u96 u97 u98 u99 u100 u101 u102 u103 u104 u105 : Value) (w6 : World), Below w5.heap.size w5 w6 → Q .normal ⟨#[c0, c1, c2, c3, c4, .pointer (some ⟨c, 0, none⟩), .bool true, .pointer (some ⟨p, 0, none⟩), .pointer (some ⟨q, 0, none⟩), .pointer (some ⟨r, 0, none⟩), .bool i, .bool kb, .bool so, c13, c14, c15, c16, c17, c18, c19, c20, c21, c22, c23, c24, c25, c26, c27, c28, c29, c30, c31, c32, c33, c34, c35, c36, c37, c38, c39, c40, c41, c42, c43, c44, c45, c46, c47, c48, c49, c50, c51, c52, c53, c54, u55, u56, u57, u58, u59, u60, u61, u62, u63, u64, u65, u66, u67, u68, u69, u70, u71, u72, u73, u74, u75, u76, u77, u78, u79, u80, u81, u82, u83, u84, u85, u86, u87, u88, u89, u90, u91, u92, u93, u94, u95, u96, u97, u98, u99, u100, u101, u102, u103, u104, u105], []⟩ w6) : Code.wp Try.prog reg4_6 Q ⟨#[c0, c1, c2, c3, c4, .pointer (some ⟨c, 0, none⟩), c6, .pointer (some ⟨p, 0, none⟩), .pointer (some ⟨q, 0, none⟩), .pointer (some ⟨r, 0, none⟩), .bool i, .bool kb, .bool so, c13, c14, c15, c16, c17, c18, c19, c20, c21, c22, c23, c24, c25, c26, c27, c28, c29, c30, c31, c32, c33, c34, c35, c36, c37, c38, c39, c40, c41, c42, c43, c44, c45, c46, c47, c48, c49, c50, c51, c52, c53, c54, c55, c56, c57, c58, c59, c60, c61, c62, c63, c64, c65, c66, c67, c68, c69, c70, c71, c72, c73, c74, c75, c76, c77, c78, c79, c80, c81, c82, c83, c84, c85, c86, c87, c88, c89, c90, c91, c92, c93, c94, c95, c96, c97, c98, c99, c100, c101, c102, c103, c104, c105], []⟩ w5 := by
  have BD : Below w5.heap.size w5 w5.drew := (Below.refl _ _).drew
  rw [reg4_6_is]
  refine hd_start (n := 52) (fun w' => (Instr.loadAt 28 (.pointer (some ⟨p, 0, none⟩))).run Try.prog w' = .ok bx w' ∧ (Instr.loadAt 28 (.pointer (some ⟨q, 0, none⟩))).run Try.prog w' = .ok byy w' ∧ (Instr.loadAt 28 (.pointer (some ⟨r, 0, none⟩))).run Try.prog w' = .ok bz w' ∧ (Instr.loadAt 32 (.pointer (some ⟨c, 0, none⟩))).run Try.prog w' = .ok ev w') (by kernel_rfl) (by kernel_rfl) (hS _ BD) ?_
  refine r4x p q r c bx byy bz ev kb i rx so w5.drew Q (fun w' hb => hS w' (below_step BD hb)) (fun w' hb => h1 w' (below_step BD hb)) (fun w' hb => h2 w' (below_step BD hb)) _ _ _ _ _ _ _ _ _ _ _ _ _ _ _ _ _ _ _ _ _ _ _ _ _ _ _ _ _ _ _ _ _ _ _ _ _ _ _ _ _ _ _ _ _ _ _ _ _ _ _ _ _ _ _ _ _ _ _ _ _ _ _ _ _ _ _ _ _ _ _ _ _ _ _ _ _ _ _ _ _ _ _ _ _ _ _ _ _ _ _ _ _ _ _ _ _ _ _ _ ?_
  intro xu55 xu56 xu57 xu58 xu59 xu60 xu61 xu62 xu63 xu64 xu65 xu66 wx hbx
  have BX := below_step BD hbx
  refine r4y p q r c bx byy bz ev kb i ry so wx Q (fun w' hb => hS w' (below_step BX hb)) (fun w' hb => h3 w' (below_step BX hb)) (fun w' hb => h4 w' (below_step BX hb)) _ _ _ _ _ _ _ _ _ _ _ _ _ _ _ _ _ _ _ _ _ _ _ _ _ _ _ _ _ _ _ _ _ _ _ _ _ _ _ _ _ _ _ _ _ _ _ _ _ _ _ _ _ _ _ _ _ _ _ _ _ _ _ _ _ _ _ _ _ _ _ _ _ _ _ _ _ _ _ _ _ _ _ _ _ _ _ _ _ _ _ _ _ _ _ _ _ _ _ ?_
  intro yu68 yu69 yu70 yu71 yu72 yu73 yu74 yu75 yu76 yu77 yu78 yu79 yu80 yu81 wy hby
  have BY := below_step BX hby
  refine r4z p q r c bx byy bz ev kb i rz so wy Q (fun w' hb => hS w' (below_step BY hb)) (fun w' hb => h5 w' (below_step BY hb)) (fun w' hb => h6 w' (below_step BY hb)) hso _ _ _ _ _ _ _ _ _ _ _ _ _ _ _ _ _ _ _ _ _ _ _ _ _ _ _ _ _ _ _ _ _ _ _ _ _ _ _ _ _ _ _ _ _ _ _ _ _ _ _ _ _ _ _ _ _ _ _ _ _ _ _ _ _ _ _ _ _ _ _ _ _ _ _ _ _ _ _ _ _ _ _ _ _ _ _ _ _ _ _ _ _ _ _ _ _ _ ?_
  intro zu83 zu84 zu85 zu86 zu87 zu88 zu89 zu90 zu91 zu92 zu93 zu94 zu95 zu96 zu97 wz hbz
  have BZ := below_step BY hbz
  refine r4l p q r c bx byy bz ev rx wz Q (fun w' hb => hS w' (below_step BZ hb)) (fun w' hb => h1 w' (below_step BZ hb)) (fun w' hb => h7 w' (below_step BZ hb)) _ _ _ _ _ _ _ _ _ _ _ _ _ _ _ _ _ _ _ _ _ _ _ _ _ _ _ _ _ _ _ _ _ _ _ _ _ _ _ _ _ _ _ _ _ _ _ _ _ _ _ _ _ _ _ _ _ _ _ _ _ _ _ _ _ _ _ _ _ _ _ _ _ _ _ _ _ _ _ _ _ _ _ _ _ _ _ _ _ _ _ _ _ _ _ _ _ _ _ _ _ ?_
  intro qu99 qu100 qu101 qu102 qu103 qu104 qu105 wl hbl
  have BL := below_step BZ hbl
  refine hd_done (by kernel_rfl) ?_
  exact hQ _ _ _ _ _ _ _ _ _ _ _ _ _ _ _ _ _ _ _ _ _ _ _ _ _ _ _ _ _ _ _ _ _ _ _ _ _ _ _ _ _ _ _ _ _ _ _ _ _ _ _ _ BL

end Go.Proofs.Ytjkhajcngapjcaa.Q
