/- ExprAtoms: the last line, a region that draws its order: as a declaration of its own; printed by gen_r7.py. -/
import Derived.Test.YtjkhajcngapjcaaEN
import Derived.Test.YtjkhajcngapjcaaHD
namespace Go.Proofs.Ytjkhajcngapjcaa.Q
open Go.RowKit Go.Proofs.YtjkhajcngapjcaaW.PrintWords

/-- The region 6. -/
noncomputable def reg7_6 : Code := (Try.f7.body.bind (regAt 6)).getD .skip
noncomputable def ops7_6 : Array Oper := opsOf reg7_6
noncomputable def op7_6 (k : Nat) : Oper := (ops7_6[k]?).getD ⟨none, .move (.tmp 0), 0, "", #[], none⟩
theorem reg7_6_is : reg7_6 = .region 6 ops7_6 true := by kernel_rfl

set_option linter.unusedVariables false in
set_option maxHeartbeats 4000000 in
set_option maxRecDepth 100000 in
theorem reg7_00 (b c : Nat) (bx ev an : Value) (RN : Value → World → Prop) (w5 : World) (Q : Exit → Act → World → Prop)
    (hS : ∀ w', Below w5.heap.size w5 w' → (Instr.loadAt 28 (.pointer (some ⟨b, 0, none⟩))).run Try.prog w' = .ok bx w' ∧ (Instr.loadAt 32 (.pointer (some ⟨c, 0, none⟩))).run Try.prog w' = .ok ev w')
    (h1 : ∀ w', Below w5.heap.size w5 w' → Calls Try.prog 17 #[bx, ev] w' fun e' w6 => e' = .returned (.bool false) ∧ Below w'.heap.size w' w6)
    (h2 : ∀ w', Below w5.heap.size w5 w' → Calls Try.prog 19 #[.slice none 0 0] w' fun e' w6 => e' = .returned (an) ∧ Below w'.heap.size w' w6)
    (h3 : ∀ w', Below w5.heap.size w5 w' → Calls Try.prog 17 #[an, ev] w' fun e' w6 => e' = .returned (.bool false) ∧ Below w'.heap.size w' w6)
    (h4 : ∀ w', Below w5.heap.size w5 w' → Calls Try.prog 23 #[bx, ev] w' fun e' w6 => e' = .returned (.bool false) ∧ Below w'.heap.size w' w6)
    (h5 : ∀ w', Below w5.heap.size w5 w' → Calls Try.prog 21 #[bx] w' fun e' w6 => ∃ u, e' = .returned u ∧ (fun u w' => RN u w') u w6 ∧ Below w'.heap.size w' w6)
    (h6 : ∀ w' un, Below w5.heap.size w5 w' → RN un w' → Calls Try.prog 17 #[un, ev] w' fun e' w6 => e' = .returned (.bool false) ∧ Below w'.heap.size w' w6)
    (c0 c1 c2 c3 c4 c6 c8 c9 c10 c11 c12 c13 c14 c15 c16 c17 c18 c19 c20 c21 c22 c23 c24 c25 c26 c27 c28 c29 c30 c31 c32 c33 c34 c35 c36 c37 c38 c39 c40 c41 c42 c43 c44 c45 c46 c47 c48 c49 c50 c51 c52 c53 : Value)
    (hQ : ∀ (u26 u27 u28 u29 u30 u31 u32 u33 u34 u35 u36 u37 u38 u39 u40 u41 u42 u43 u44 u45 u46 u47 u48 u49 u50 u51 u52 u53 : Value) (w6 : World), Below w5.heap.size w5 w6 → Q .normal ⟨#[c0, c1, c2, c3, c4, .pointer (some ⟨c, 0, none⟩), .bool true, .pointer (some ⟨b, 0, none⟩), c8, c9, c10, c11, c12, c13, c14, c15, c16, c17, c18, c19, c20, c21, c22, c23, c24, c25, u26, u27, u28, u29, u30, u31, u32, u33, u34, u35, u36, u37, u38, u39, u40, u41, u42, u43, u44, u45, u46, u47, u48, u49, u50, u51, u52, u53], []⟩ w6) : Code.wp Try.prog reg7_6 Q ⟨#[c0, c1, c2, c3, c4, .pointer (some ⟨c, 0, none⟩), c6, .pointer (some ⟨b, 0, none⟩), c8, c9, c10, c11, c12, c13, c14, c15, c16, c17, c18, c19, c20, c21, c22, c23, c24, c25, c26, c27, c28, c29, c30, c31, c32, c33, c34, c35, c36, c37, c38, c39, c40, c41, c42, c43, c44, c45, c46, c47, c48, c49, c50, c51, c52, c53], []⟩ w5 := by
  have B5 : Below w5.heap.size w5 w5.drew := (Below.refl _ _).drew
  have S0 := hS _ B5
  rw [reg7_6_is]
  refine hd_start (n := 29) (fun w' => (Instr.loadAt 28 (.pointer (some ⟨b, 0, none⟩))).run Try.prog w' = .ok bx w' ∧ (Instr.loadAt 32 (.pointer (some ⟨c, 0, none⟩))).run Try.prog w' = .ok ev w') (by kernel_rfl) (by kernel_rfl) S0 ?_
  refine hd_take (i := 0) (op7_6 0) (some 26) (bx) (by kernel_rfl) (by kernel_rfl) (by kernel_rfl) (by kernel_rfl) (by kernel_rfl) (by kernel_rfl) (fun w' hw' => ex_load (ty := 28) (x := .tmp 7) (p := .pointer (some ⟨b, 0, none⟩)) (by kernel_rfl) (by kernel_rfl) hw'.1) S0 ?_
  refine hd_take (i := 1) (op7_6 1) (some 27) (ev) (by kernel_rfl) (by kernel_rfl) (by kernel_rfl) (by kernel_rfl) (by kernel_rfl) (by kernel_rfl) (fun w' hw' => ex_load (ty := 32) (x := .tmp 5) (p := .pointer (some ⟨c, 0, none⟩)) (by kernel_rfl) (by kernel_rfl) hw'.2) S0 ?_
  refine hd_take (i := 4) (op7_6 4) (some 30) (ev) (by kernel_rfl) (by kernel_rfl) (by kernel_rfl) (by kernel_rfl) (by kernel_rfl) (by kernel_rfl) (fun w' hw' => ex_load (ty := 32) (x := .tmp 5) (p := .pointer (some ⟨c, 0, none⟩)) (by kernel_rfl) (by kernel_rfl) hw'.2) S0 ?_
  refine hd_call (i := 2) (op7_6 2) (some 28) 17 #[bx, ev] (.bool false) (fun w' => Below (w5.drew).heap.size (w5.drew) w') (by kernel_rfl) (by kernel_rfl) (by kernel_rfl) (by kernel_rfl) (by kernel_rfl) (h1 _ B5) ?_
  intro w6 hb6
  have B6 := below_step B5 hb6
  have S6 := hS w6 B6
  refine ⟨S6, ?_⟩
  refine hd_call (i := 3) (op7_6 3) (some 29) 19 #[.slice none 0 0] (an) (fun w' => Below (w6).heap.size (w6) w') (by kernel_rfl) (by kernel_rfl) (by kernel_rfl) (by kernel_rfl) (by kernel_rfl) (h2 _ B6) ?_
  intro w7 hb7
  have B7 := below_step B6 hb7
  have S7 := hS w7 B7
  refine ⟨S7, ?_⟩
  refine hd_call (i := 5) (op7_6 5) (some 31) 17 #[an, ev] (.bool false) (fun w' => Below (w7).heap.size (w7) w') (by kernel_rfl) (by kernel_rfl) (by kernel_rfl) (by kernel_rfl) (by kernel_rfl) (h3 _ B7) ?_
  intro w8 hb8
  have B8 := below_step B7 hb8
  have S8 := hS w8 B8
  refine ⟨S8, ?_⟩
  refine hd_take (i := 6) (op7_6 6) (some 32) (.bool false) (by kernel_rfl) (by kernel_rfl) (by kernel_rfl) (by kernel_rfl) (by kernel_rfl) (by kernel_rfl) (fun _ _ => by kernel_rfl) S8 ?_
  refine hd_skip (i := 7) (op7_6 7) (some 33) (by kernel_rfl) (by kernel_rfl) (by kernel_rfl) (by kernel_rfl) (by kernel_rfl) (by kernel_rfl) S8 ?_
  refine hd_skip (i := 8) (op7_6 8) (some 34) (by kernel_rfl) (by kernel_rfl) (by kernel_rfl) (by kernel_rfl) (by kernel_rfl) (by kernel_rfl) S8 ?_
  refine hd_stepoff (i := 9) (op7_6 9) (some 35) (by kernel_rfl) (by kernel_rfl) (by kernel_rfl) (by kernel_rfl) S8 ?_
  refine hd_take (i := 10) (op7_6 10) (some 36) (.bool false) (by kernel_rfl) (by kernel_rfl) (by kernel_rfl) (by kernel_rfl) (by kernel_rfl) (by kernel_rfl) (fun _ _ => by kernel_rfl) S8 ?_
  refine hd_take (i := 11) (op7_6 11) (some 37) (.bool true) (by kernel_rfl) (by kernel_rfl) (by kernel_rfl) (by kernel_rfl) (by kernel_rfl) (by kernel_rfl) (fun _ _ => by kernel_rfl) S8 ?_
  refine hd_take (i := 12) (op7_6 12) (some 38) (.bool true) (by kernel_rfl) (by kernel_rfl) (by kernel_rfl) (by kernel_rfl) (by kernel_rfl) (by kernel_rfl) (fun _ _ => by kernel_rfl) S8 ?_
  refine hd_take (i := 13) (op7_6 13) (some 39) (bx) (by kernel_rfl) (by kernel_rfl) (by kernel_rfl) (by kernel_rfl) (by kernel_rfl) (by kernel_rfl) (fun w' hw' => ex_load (ty := 28) (x := .tmp 7) (p := .pointer (some ⟨b, 0, none⟩)) (by kernel_rfl) (by kernel_rfl) hw'.1) S8 ?_
  refine hd_take (i := 15) (op7_6 15) (some 41) (ev) (by kernel_rfl) (by kernel_rfl) (by kernel_rfl) (by kernel_rfl) (by kernel_rfl) (by kernel_rfl) (fun w' hw' => ex_load (ty := 32) (x := .tmp 5) (p := .pointer (some ⟨c, 0, none⟩)) (by kernel_rfl) (by kernel_rfl) hw'.2) S8 ?_
  refine hd_take (i := 18) (op7_6 18) (some 44) (ev) (by kernel_rfl) (by kernel_rfl) (by kernel_rfl) (by kernel_rfl) (by kernel_rfl) (by kernel_rfl) (fun w' hw' => ex_load (ty := 32) (x := .tmp 5) (p := .pointer (some ⟨c, 0, none⟩)) (by kernel_rfl) (by kernel_rfl) hw'.2) S8 ?_
  refine hd_callx (i := 14) (op7_6 14) (some 40) 21 #[bx] (fun u w' => RN u w' ∧ Below (w8).heap.size (w8) w') (by kernel_rfl) (by kernel_rfl) (by kernel_rfl) (by kernel_rfl) (by kernel_rfl) (h5 _ B8) ?_
  rintro un9 w9 ⟨RU, hb9⟩
  have B9 := below_step B8 hb9
  have S9 := hS w9 B9
  refine ⟨S9, ?_⟩
  refine hd_call (i := 16) (op7_6 16) (some 42) 17 #[un9, ev] (.bool false) (fun w' => Below (w9).heap.size (w9) w') (by kernel_rfl) (by kernel_rfl) (by kernel_rfl) (by kernel_rfl) (by kernel_rfl) (h6 _ _ B9 RU) ?_
  intro w10 hb10
  have B10 := below_step B9 hb10
  have S10 := hS w10 B10
  refine ⟨S10, ?_⟩
  refine hd_call (i := 17) (op7_6 17) (some 43) 19 #[.slice none 0 0] (an) (fun w' => Below (w10).heap.size (w10) w') (by kernel_rfl) (by kernel_rfl) (by kernel_rfl) (by kernel_rfl) (by kernel_rfl) (h2 _ B10) ?_
  intro w11 hb11
  have B11 := below_step B10 hb11
  have S11 := hS w11 B11
  refine ⟨S11, ?_⟩
  refine hd_call (i := 19) (op7_6 19) (some 45) 17 #[an, ev] (.bool false) (fun w' => Below (w11).heap.size (w11) w') (by kernel_rfl) (by kernel_rfl) (by kernel_rfl) (by kernel_rfl) (by kernel_rfl) (h3 _ B11) ?_
  intro w12 hb12
  have B12 := below_step B11 hb12
  have S12 := hS w12 B12
  refine ⟨S12, ?_⟩
  refine hd_take (i := 20) (op7_6 20) (some 46) (.bool false) (by kernel_rfl) (by kernel_rfl) (by kernel_rfl) (by kernel_rfl) (by kernel_rfl) (by kernel_rfl) (fun _ _ => by kernel_rfl) S12 ?_
  refine hd_skip (i := 21) (op7_6 21) (some 47) (by kernel_rfl) (by kernel_rfl) (by kernel_rfl) (by kernel_rfl) (by kernel_rfl) (by kernel_rfl) S12 ?_
  refine hd_skip (i := 22) (op7_6 22) (some 48) (by kernel_rfl) (by kernel_rfl) (by kernel_rfl) (by kernel_rfl) (by kernel_rfl) (by kernel_rfl) S12 ?_
  refine hd_stepoff (i := 23) (op7_6 23) (some 49) (by kernel_rfl) (by kernel_rfl) (by kernel_rfl) (by kernel_rfl) S12 ?_
  refine hd_skip (i := 24) (op7_6 24) (some 50) (by kernel_rfl) (by kernel_rfl) (by kernel_rfl) (by kernel_rfl) (by kernel_rfl) (by kernel_rfl) S12 ?_
  refine hd_take (i := 25) (op7_6 25) (some 51) (.bool false) (by kernel_rfl) (by kernel_rfl) (by kernel_rfl) (by kernel_rfl) (by kernel_rfl) (by kernel_rfl) (fun _ _ => by kernel_rfl) S12 ?_
  refine hd_take (i := 26) (op7_6 26) (some 52) (.bool true) (by kernel_rfl) (by kernel_rfl) (by kernel_rfl) (by kernel_rfl) (by kernel_rfl) (by kernel_rfl) (fun _ _ => by kernel_rfl) S12 ?_
  refine hd_take (i := 27) (op7_6 27) (some 53) (.bool true) (by kernel_rfl) (by kernel_rfl) (by kernel_rfl) (by kernel_rfl) (by kernel_rfl) (by kernel_rfl) (fun _ _ => by kernel_rfl) S12 ?_
  refine hd_take (i := 28) (op7_6 28) (some 6) (.bool true) (by kernel_rfl) (by kernel_rfl) (by kernel_rfl) (by kernel_rfl) (by kernel_rfl) (by kernel_rfl) (fun _ _ => by kernel_rfl) S12 ?_
  refine hd_end (b := ⟨#[c0, c1, c2, c3, c4, .pointer (some ⟨c, 0, none⟩), .bool true, .pointer (some ⟨b, 0, none⟩), c8, c9, c10, c11, c12, c13, c14, c15, c16, c17, c18, c19, c20, c21, c22, c23, c24, c25, bx, ev, .bool false, an, ev, .bool false, .bool false, undef, undef, undef, .bool false, .bool true, .bool true, bx, un9, ev, .bool false, an, ev, .bool false, .bool false, undef, undef, undef, undef, .bool false, .bool true, .bool true], []⟩) (by kernel_rfl) (by kernel_rfl) ?_
  exact hQ _ _ _ _ _ _ _ _ _ _ _ _ _ _ _ _ _ _ _ _ _ _ _ _ _ _ _ _ _ B12

set_option linter.unusedVariables false in
set_option maxHeartbeats 4000000 in
set_option maxRecDepth 100000 in
theorem reg7_01 (b c : Nat) (bx ev an : Value) (RN : Value → World → Prop) (w5 : World) (Q : Exit → Act → World → Prop)
    (hS : ∀ w', Below w5.heap.size w5 w' → (Instr.loadAt 28 (.pointer (some ⟨b, 0, none⟩))).run Try.prog w' = .ok bx w' ∧ (Instr.loadAt 32 (.pointer (some ⟨c, 0, none⟩))).run Try.prog w' = .ok ev w')
    (h1 : ∀ w', Below w5.heap.size w5 w' → Calls Try.prog 17 #[bx, ev] w' fun e' w6 => e' = .returned (.bool false) ∧ Below w'.heap.size w' w6)
    (h2 : ∀ w', Below w5.heap.size w5 w' → Calls Try.prog 19 #[.slice none 0 0] w' fun e' w6 => e' = .returned (an) ∧ Below w'.heap.size w' w6)
    (h3 : ∀ w', Below w5.heap.size w5 w' → Calls Try.prog 17 #[an, ev] w' fun e' w6 => e' = .returned (.bool false) ∧ Below w'.heap.size w' w6)
    (h4 : ∀ w', Below w5.heap.size w5 w' → Calls Try.prog 23 #[bx, ev] w' fun e' w6 => e' = .returned (.bool true) ∧ Below w'.heap.size w' w6)
    (h5 : ∀ w', Below w5.heap.size w5 w' → Calls Try.prog 21 #[bx] w' fun e' w6 => ∃ u, e' = .returned u ∧ (fun u w' => RN u w') u w6 ∧ Below w'.heap.size w' w6)
    (h6 : ∀ w' un, Below w5.heap.size w5 w' → RN un w' → Calls Try.prog 17 #[un, ev] w' fun e' w6 => e' = .returned (.bool false) ∧ Below w'.heap.size w' w6)
    (c0 c1 c2 c3 c4 c6 c8 c9 c10 c11 c12 c13 c14 c15 c16 c17 c18 c19 c20 c21 c22 c23 c24 c25 c26 c27 c28 c29 c30 c31 c32 c33 c34 c35 c36 c37 c38 c39 c40 c41 c42 c43 c44 c45 c46 c47 c48 c49 c50 c51 c52 c53 : Value)
    (hQ : ∀ (u26 u27 u28 u29 u30 u31 u32 u33 u34 u35 u36 u37 u38 u39 u40 u41 u42 u43 u44 u45 u46 u47 u48 u49 u50 u51 u52 u53 : Value) (w6 : World), Below w5.heap.size w5 w6 → Q .normal ⟨#[c0, c1, c2, c3, c4, .pointer (some ⟨c, 0, none⟩), .bool true, .pointer (some ⟨b, 0, none⟩), c8, c9, c10, c11, c12, c13, c14, c15, c16, c17, c18, c19, c20, c21, c22, c23, c24, c25, u26, u27, u28, u29, u30, u31, u32, u33, u34, u35, u36, u37, u38, u39, u40, u41, u42, u43, u44, u45, u46, u47, u48, u49, u50, u51, u52, u53], []⟩ w6) : Code.wp Try.prog reg7_6 Q ⟨#[c0, c1, c2, c3, c4, .pointer (some ⟨c, 0, none⟩), c6, .pointer (some ⟨b, 0, none⟩), c8, c9, c10, c11, c12, c13, c14, c15, c16, c17, c18, c19, c20, c21, c22, c23, c24, c25, c26, c27, c28, c29, c30, c31, c32, c33, c34, c35, c36, c37, c38, c39, c40, c41, c42, c43, c44, c45, c46, c47, c48, c49, c50, c51, c52, c53], []⟩ w5 := by
  have B5 : Below w5.heap.size w5 w5.drew := (Below.refl _ _).drew
  have S0 := hS _ B5
  rw [reg7_6_is]
  refine hd_start (n := 29) (fun w' => (Instr.loadAt 28 (.pointer (some ⟨b, 0, none⟩))).run Try.prog w' = .ok bx w' ∧ (Instr.loadAt 32 (.pointer (some ⟨c, 0, none⟩))).run Try.prog w' = .ok ev w') (by kernel_rfl) (by kernel_rfl) S0 ?_
  refine hd_take (i := 0) (op7_6 0) (some 26) (bx) (by kernel_rfl) (by kernel_rfl) (by kernel_rfl) (by kernel_rfl) (by kernel_rfl) (by kernel_rfl) (fun w' hw' => ex_load (ty := 28) (x := .tmp 7) (p := .pointer (some ⟨b, 0, none⟩)) (by kernel_rfl) (by kernel_rfl) hw'.1) S0 ?_
  refine hd_take (i := 1) (op7_6 1) (some 27) (ev) (by kernel_rfl) (by kernel_rfl) (by kernel_rfl) (by kernel_rfl) (by kernel_rfl) (by kernel_rfl) (fun w' hw' => ex_load (ty := 32) (x := .tmp 5) (p := .pointer (some ⟨c, 0, none⟩)) (by kernel_rfl) (by kernel_rfl) hw'.2) S0 ?_
  refine hd_take (i := 4) (op7_6 4) (some 30) (ev) (by kernel_rfl) (by kernel_rfl) (by kernel_rfl) (by kernel_rfl) (by kernel_rfl) (by kernel_rfl) (fun w' hw' => ex_load (ty := 32) (x := .tmp 5) (p := .pointer (some ⟨c, 0, none⟩)) (by kernel_rfl) (by kernel_rfl) hw'.2) S0 ?_
  refine hd_call (i := 2) (op7_6 2) (some 28) 17 #[bx, ev] (.bool false) (fun w' => Below (w5.drew).heap.size (w5.drew) w') (by kernel_rfl) (by kernel_rfl) (by kernel_rfl) (by kernel_rfl) (by kernel_rfl) (h1 _ B5) ?_
  intro w6 hb6
  have B6 := below_step B5 hb6
  have S6 := hS w6 B6
  refine ⟨S6, ?_⟩
  refine hd_call (i := 3) (op7_6 3) (some 29) 19 #[.slice none 0 0] (an) (fun w' => Below (w6).heap.size (w6) w') (by kernel_rfl) (by kernel_rfl) (by kernel_rfl) (by kernel_rfl) (by kernel_rfl) (h2 _ B6) ?_
  intro w7 hb7
  have B7 := below_step B6 hb7
  have S7 := hS w7 B7
  refine ⟨S7, ?_⟩
  refine hd_call (i := 5) (op7_6 5) (some 31) 17 #[an, ev] (.bool false) (fun w' => Below (w7).heap.size (w7) w') (by kernel_rfl) (by kernel_rfl) (by kernel_rfl) (by kernel_rfl) (by kernel_rfl) (h3 _ B7) ?_
  intro w8 hb8
  have B8 := below_step B7 hb8
  have S8 := hS w8 B8
  refine ⟨S8, ?_⟩
  refine hd_take (i := 6) (op7_6 6) (some 32) (.bool false) (by kernel_rfl) (by kernel_rfl) (by kernel_rfl) (by kernel_rfl) (by kernel_rfl) (by kernel_rfl) (fun _ _ => by kernel_rfl) S8 ?_
  refine hd_skip (i := 7) (op7_6 7) (some 33) (by kernel_rfl) (by kernel_rfl) (by kernel_rfl) (by kernel_rfl) (by kernel_rfl) (by kernel_rfl) S8 ?_
  refine hd_skip (i := 8) (op7_6 8) (some 34) (by kernel_rfl) (by kernel_rfl) (by kernel_rfl) (by kernel_rfl) (by kernel_rfl) (by kernel_rfl) S8 ?_
  refine hd_stepoff (i := 9) (op7_6 9) (some 35) (by kernel_rfl) (by kernel_rfl) (by kernel_rfl) (by kernel_rfl) S8 ?_
  refine hd_take (i := 10) (op7_6 10) (some 36) (.bool false) (by kernel_rfl) (by kernel_rfl) (by kernel_rfl) (by kernel_rfl) (by kernel_rfl) (by kernel_rfl) (fun _ _ => by kernel_rfl) S8 ?_
  refine hd_take (i := 11) (op7_6 11) (some 37) (.bool true) (by kernel_rfl) (by kernel_rfl) (by kernel_rfl) (by kernel_rfl) (by kernel_rfl) (by kernel_rfl) (fun _ _ => by kernel_rfl) S8 ?_
  refine hd_take (i := 12) (op7_6 12) (some 38) (.bool true) (by kernel_rfl) (by kernel_rfl) (by kernel_rfl) (by kernel_rfl) (by kernel_rfl) (by kernel_rfl) (fun _ _ => by kernel_rfl) S8 ?_
  refine hd_take (i := 13) (op7_6 13) (some 39) (bx) (by kernel_rfl) (by kernel_rfl) (by kernel_rfl) (by kernel_rfl) (by kernel_rfl) (by kernel_rfl) (fun w' hw' => ex_load (ty := 28) (x := .tmp 7) (p := .pointer (some ⟨b, 0, none⟩)) (by kernel_rfl) (by kernel_rfl) hw'.1) S8 ?_
  refine hd_take (i := 15) (op7_6 15) (some 41) (ev) (by kernel_rfl) (by kernel_rfl) (by kernel_rfl) (by kernel_rfl) (by kernel_rfl) (by kernel_rfl) (fun w' hw' => ex_load (ty := 32) (x := .tmp 5) (p := .pointer (some ⟨c, 0, none⟩)) (by kernel_rfl) (by kernel_rfl) hw'.2) S8 ?_
  refine hd_take (i := 18) (op7_6 18) (some 44) (ev) (by kernel_rfl) (by kernel_rfl) (by kernel_rfl) (by kernel_rfl) (by kernel_rfl) (by kernel_rfl) (fun w' hw' => ex_load (ty := 32) (x := .tmp 5) (p := .pointer (some ⟨c, 0, none⟩)) (by kernel_rfl) (by kernel_rfl) hw'.2) S8 ?_
  refine hd_callx (i := 14) (op7_6 14) (some 40) 21 #[bx] (fun u w' => RN u w' ∧ Below (w8).heap.size (w8) w') (by kernel_rfl) (by kernel_rfl) (by kernel_rfl) (by kernel_rfl) (by kernel_rfl) (h5 _ B8) ?_
  rintro un9 w9 ⟨RU, hb9⟩
  have B9 := below_step B8 hb9
  have S9 := hS w9 B9
  refine ⟨S9, ?_⟩
  refine hd_call (i := 16) (op7_6 16) (some 42) 17 #[un9, ev] (.bool false) (fun w' => Below (w9).heap.size (w9) w') (by kernel_rfl) (by kernel_rfl) (by kernel_rfl) (by kernel_rfl) (by kernel_rfl) (h6 _ _ B9 RU) ?_
  intro w10 hb10
  have B10 := below_step B9 hb10
  have S10 := hS w10 B10
  refine ⟨S10, ?_⟩
  refine hd_call (i := 17) (op7_6 17) (some 43) 19 #[.slice none 0 0] (an) (fun w' => Below (w10).heap.size (w10) w') (by kernel_rfl) (by kernel_rfl) (by kernel_rfl) (by kernel_rfl) (by kernel_rfl) (h2 _ B10) ?_
  intro w11 hb11
  have B11 := below_step B10 hb11
  have S11 := hS w11 B11
  refine ⟨S11, ?_⟩
  refine hd_call (i := 19) (op7_6 19) (some 45) 17 #[an, ev] (.bool false) (fun w' => Below (w11).heap.size (w11) w') (by kernel_rfl) (by kernel_rfl) (by kernel_rfl) (by kernel_rfl) (by kernel_rfl) (h3 _ B11) ?_
  intro w12 hb12
  have B12 := below_step B11 hb12
  have S12 := hS w12 B12
  refine ⟨S12, ?_⟩
  refine hd_take (i := 20) (op7_6 20) (some 46) (.bool false) (by kernel_rfl) (by kernel_rfl) (by kernel_rfl) (by kernel_rfl) (by kernel_rfl) (by kernel_rfl) (fun _ _ => by kernel_rfl) S12 ?_
  refine hd_skip (i := 21) (op7_6 21) (some 47) (by kernel_rfl) (by kernel_rfl) (by kernel_rfl) (by kernel_rfl) (by kernel_rfl) (by kernel_rfl) S12 ?_
  refine hd_skip (i := 22) (op7_6 22) (some 48) (by kernel_rfl) (by kernel_rfl) (by kernel_rfl) (by kernel_rfl) (by kernel_rfl) (by kernel_rfl) S12 ?_
  refine hd_stepoff (i := 23) (op7_6 23) (some 49) (by kernel_rfl) (by kernel_rfl) (by kernel_rfl) (by kernel_rfl) S12 ?_
  refine hd_skip (i := 24) (op7_6 24) (some 50) (by kernel_rfl) (by kernel_rfl) (by kernel_rfl) (by kernel_rfl) (by kernel_rfl) (by kernel_rfl) S12 ?_
  refine hd_take (i := 25) (op7_6 25) (some 51) (.bool false) (by kernel_rfl) (by kernel_rfl) (by kernel_rfl) (by kernel_rfl) (by kernel_rfl) (by kernel_rfl) (fun _ _ => by kernel_rfl) S12 ?_
  refine hd_take (i := 26) (op7_6 26) (some 52) (.bool true) (by kernel_rfl) (by kernel_rfl) (by kernel_rfl) (by kernel_rfl) (by kernel_rfl) (by kernel_rfl) (fun _ _ => by kernel_rfl) S12 ?_
  refine hd_take (i := 27) (op7_6 27) (some 53) (.bool true) (by kernel_rfl) (by kernel_rfl) (by kernel_rfl) (by kernel_rfl) (by kernel_rfl) (by kernel_rfl) (fun _ _ => by kernel_rfl) S12 ?_
  refine hd_take (i := 28) (op7_6 28) (some 6) (.bool true) (by kernel_rfl) (by kernel_rfl) (by kernel_rfl) (by kernel_rfl) (by kernel_rfl) (by kernel_rfl) (fun _ _ => by kernel_rfl) S12 ?_
  refine hd_end (b := ⟨#[c0, c1, c2, c3, c4, .pointer (some ⟨c, 0, none⟩), .bool true, .pointer (some ⟨b, 0, none⟩), c8, c9, c10, c11, c12, c13, c14, c15, c16, c17, c18, c19, c20, c21, c22, c23, c24, c25, bx, ev, .bool false, an, ev, .bool false, .bool false, undef, undef, undef, .bool false, .bool true, .bool true, bx, un9, ev, .bool false, an, ev, .bool false, .bool false, undef, undef, undef, undef, .bool false, .bool true, .bool true], []⟩) (by kernel_rfl) (by kernel_rfl) ?_
  exact hQ _ _ _ _ _ _ _ _ _ _ _ _ _ _ _ _ _ _ _ _ _ _ _ _ _ _ _ _ _ B12

set_option linter.unusedVariables false in
set_option maxHeartbeats 4000000 in
set_option maxRecDepth 100000 in
theorem reg7_10 (b c : Nat) (bx ev an : Value) (RN : Value → World → Prop) (w5 : World) (Q : Exit → Act → World → Prop)
    (hS : ∀ w', Below w5.heap.size w5 w' → (Instr.loadAt 28 (.pointer (some ⟨b, 0, none⟩))).run Try.prog w' = .ok bx w' ∧ (Instr.loadAt 32 (.pointer (some ⟨c, 0, none⟩))).run Try.prog w' = .ok ev w')
    (h1 : ∀ w', Below w5.heap.size w5 w' → Calls Try.prog 17 #[bx, ev] w' fun e' w6 => e' = .returned (.bool false) ∧ Below w'.heap.size w' w6)
    (h2 : ∀ w', Below w5.heap.size w5 w' → Calls Try.prog 19 #[.slice none 0 0] w' fun e' w6 => e' = .returned (an) ∧ Below w'.heap.size w' w6)
    (h3 : ∀ w', Below w5.heap.size w5 w' → Calls Try.prog 17 #[an, ev] w' fun e' w6 => e' = .returned (.bool true) ∧ Below w'.heap.size w' w6)
    (h4 : ∀ w', Below w5.heap.size w5 w' → Calls Try.prog 23 #[bx, ev] w' fun e' w6 => e' = .returned (.bool false) ∧ Below w'.heap.size w' w6)
    (h5 : ∀ w', Below w5.heap.size w5 w' → Calls Try.prog 21 #[bx] w' fun e' w6 => ∃ u, e' = .returned u ∧ (fun u w' => RN u w') u w6 ∧ Below w'.heap.size w' w6)
    (h6 : ∀ w' un, Below w5.heap.size w5 w' → RN un w' → Calls Try.prog 17 #[un, ev] w' fun e' w6 => e' = .returned (.bool true) ∧ Below w'.heap.size w' w6)
    (c0 c1 c2 c3 c4 c6 c8 c9 c10 c11 c12 c13 c14 c15 c16 c17 c18 c19 c20 c21 c22 c23 c24 c25 c26 c27 c28 c29 c30 c31 c32 c33 c34 c35 c36 c37 c38 c39 c40 c41 c42 c43 c44 c45 c46 c47 c48 c49 c50 c51 c52 c53 : Value)
    (hQ : ∀ (u26 u27 u28 u29 u30 u31 u32 u33 u34 u35 u36 u37 u38 u39 u40 u41 u42 u43 u44 u45 u46 u47 u48 u49 u50 u51 u52 u53 : Value) (w6 : World), Below w5.heap.size w5 w6 → Q .normal ⟨#[c0, c1, c2, c3, c4, .pointer (some ⟨c, 0, none⟩), .bool true, .pointer (some ⟨b, 0, none⟩), c8, c9, c10, c11, c12, c13, c14, c15, c16, c17, c18, c19, c20, c21, c22, c23, c24, c25, u26, u27, u28, u29, u30, u31, u32, u33, u34, u35, u36, u37, u38, u39, u40, u41, u42, u43, u44, u45, u46, u47, u48, u49, u50, u51, u52, u53], []⟩ w6) : Code.wp Try.prog reg7_6 Q ⟨#[c0, c1, c2, c3, c4, .pointer (some ⟨c, 0, none⟩), c6, .pointer (some ⟨b, 0, none⟩), c8, c9, c10, c11, c12, c13, c14, c15, c16, c17, c18, c19, c20, c21, c22, c23, c24, c25, c26, c27, c28, c29, c30, c31, c32, c33, c34, c35, c36, c37, c38, c39, c40, c41, c42, c43, c44, c45, c46, c47, c48, c49, c50, c51, c52, c53], []⟩ w5 := by
  have B5 : Below w5.heap.size w5 w5.drew := (Below.refl _ _).drew
  have S0 := hS _ B5
  rw [reg7_6_is]
  refine hd_start (n := 29) (fun w' => (Instr.loadAt 28 (.pointer (some ⟨b, 0, none⟩))).run Try.prog w' = .ok bx w' ∧ (Instr.loadAt 32 (.pointer (some ⟨c, 0, none⟩))).run Try.prog w' = .ok ev w') (by kernel_rfl) (by kernel_rfl) S0 ?_
  refine hd_take (i := 0) (op7_6 0) (some 26) (bx) (by kernel_rfl) (by kernel_rfl) (by kernel_rfl) (by kernel_rfl) (by kernel_rfl) (by kernel_rfl) (fun w' hw' => ex_load (ty := 28) (x := .tmp 7) (p := .pointer (some ⟨b, 0, none⟩)) (by kernel_rfl) (by kernel_rfl) hw'.1) S0 ?_
  refine hd_take (i := 1) (op7_6 1) (some 27) (ev) (by kernel_rfl) (by kernel_rfl) (by kernel_rfl) (by kernel_rfl) (by kernel_rfl) (by kernel_rfl) (fun w' hw' => ex_load (ty := 32) (x := .tmp 5) (p := .pointer (some ⟨c, 0, none⟩)) (by kernel_rfl) (by kernel_rfl) hw'.2) S0 ?_
  refine hd_take (i := 4) (op7_6 4) (some 30) (ev) (by kernel_rfl) (by kernel_rfl) (by kernel_rfl) (by kernel_rfl) (by kernel_rfl) (by kernel_rfl) (fun w' hw' => ex_load (ty := 32) (x := .tmp 5) (p := .pointer (some ⟨c, 0, none⟩)) (by kernel_rfl) (by kernel_rfl) hw'.2) S0 ?_
  refine hd_call (i := 2) (op7_6 2) (some 28) 17 #[bx, ev] (.bool false) (fun w' => Below (w5.drew).heap.size (w5.drew) w') (by kernel_rfl) (by kernel_rfl) (by kernel_rfl) (by kernel_rfl) (by kernel_rfl) (h1 _ B5) ?_
  intro w6 hb6
  have B6 := below_step B5 hb6
  have S6 := hS w6 B6
  refine ⟨S6, ?_⟩
  refine hd_call (i := 3) (op7_6 3) (some 29) 19 #[.slice none 0 0] (an) (fun w' => Below (w6).heap.size (w6) w') (by kernel_rfl) (by kernel_rfl) (by kernel_rfl) (by kernel_rfl) (by kernel_rfl) (h2 _ B6) ?_
  intro w7 hb7
  have B7 := below_step B6 hb7
  have S7 := hS w7 B7
  refine ⟨S7, ?_⟩
  refine hd_call (i := 5) (op7_6 5) (some 31) 17 #[an, ev] (.bool true) (fun w' => Below (w7).heap.size (w7) w') (by kernel_rfl) (by kernel_rfl) (by kernel_rfl) (by kernel_rfl) (by kernel_rfl) (h3 _ B7) ?_
  intro w8 hb8
  have B8 := below_step B7 hb8
  have S8 := hS w8 B8
  refine ⟨S8, ?_⟩
  refine hd_take (i := 6) (op7_6 6) (some 32) (.bool true) (by kernel_rfl) (by kernel_rfl) (by kernel_rfl) (by kernel_rfl) (by kernel_rfl) (by kernel_rfl) (fun _ _ => by kernel_rfl) S8 ?_
  refine hd_take (i := 7) (op7_6 7) (some 33) (bx) (by kernel_rfl) (by kernel_rfl) (by kernel_rfl) (by kernel_rfl) (by kernel_rfl) (by kernel_rfl) (fun w' hw' => ex_load (ty := 28) (x := .tmp 7) (p := .pointer (some ⟨b, 0, none⟩)) (by kernel_rfl) (by kernel_rfl) hw'.1) S8 ?_
  refine hd_take (i := 8) (op7_6 8) (some 34) (ev) (by kernel_rfl) (by kernel_rfl) (by kernel_rfl) (by kernel_rfl) (by kernel_rfl) (by kernel_rfl) (fun w' hw' => ex_load (ty := 32) (x := .tmp 5) (p := .pointer (some ⟨c, 0, none⟩)) (by kernel_rfl) (by kernel_rfl) hw'.2) S8 ?_
  refine hd_call (i := 9) (op7_6 9) (some 35) 23 #[bx, ev] (.bool false) (fun w' => Below (w8).heap.size (w8) w') (by kernel_rfl) (by kernel_rfl) (by kernel_rfl) (by kernel_rfl) (by kernel_rfl) (h4 _ B8) ?_
  intro w9 hb9
  have B9 := below_step B8 hb9
  have S9 := hS w9 B9
  refine ⟨S9, ?_⟩
  refine hd_take (i := 10) (op7_6 10) (some 36) (.bool false) (by kernel_rfl) (by kernel_rfl) (by kernel_rfl) (by kernel_rfl) (by kernel_rfl) (by kernel_rfl) (fun _ _ => by kernel_rfl) S9 ?_
  refine hd_take (i := 11) (op7_6 11) (some 37) (.bool true) (by kernel_rfl) (by kernel_rfl) (by kernel_rfl) (by kernel_rfl) (by kernel_rfl) (by kernel_rfl) (fun _ _ => by kernel_rfl) S9 ?_
  refine hd_take (i := 12) (op7_6 12) (some 38) (.bool true) (by kernel_rfl) (by kernel_rfl) (by kernel_rfl) (by kernel_rfl) (by kernel_rfl) (by kernel_rfl) (fun _ _ => by kernel_rfl) S9 ?_
  refine hd_take (i := 13) (op7_6 13) (some 39) (bx) (by kernel_rfl) (by kernel_rfl) (by kernel_rfl) (by kernel_rfl) (by kernel_rfl) (by kernel_rfl) (fun w' hw' => ex_load (ty := 28) (x := .tmp 7) (p := .pointer (some ⟨b, 0, none⟩)) (by kernel_rfl) (by kernel_rfl) hw'.1) S9 ?_
  refine hd_take (i := 15) (op7_6 15) (some 41) (ev) (by kernel_rfl) (by kernel_rfl) (by kernel_rfl) (by kernel_rfl) (by kernel_rfl) (by kernel_rfl) (fun w' hw' => ex_load (ty := 32) (x := .tmp 5) (p := .pointer (some ⟨c, 0, none⟩)) (by kernel_rfl) (by kernel_rfl) hw'.2) S9 ?_
  refine hd_take (i := 18) (op7_6 18) (some 44) (ev) (by kernel_rfl) (by kernel_rfl) (by kernel_rfl) (by kernel_rfl) (by kernel_rfl) (by kernel_rfl) (fun w' hw' => ex_load (ty := 32) (x := .tmp 5) (p := .pointer (some ⟨c, 0, none⟩)) (by kernel_rfl) (by kernel_rfl) hw'.2) S9 ?_
  refine hd_callx (i := 14) (op7_6 14) (some 40) 21 #[bx] (fun u w' => RN u w' ∧ Below (w9).heap.size (w9) w') (by kernel_rfl) (by kernel_rfl) (by kernel_rfl) (by kernel_rfl) (by kernel_rfl) (h5 _ B9) ?_
  rintro un10 w10 ⟨RU, hb10⟩
  have B10 := below_step B9 hb10
  have S10 := hS w10 B10
  refine ⟨S10, ?_⟩
  refine hd_call (i := 16) (op7_6 16) (some 42) 17 #[un10, ev] (.bool true) (fun w' => Below (w10).heap.size (w10) w') (by kernel_rfl) (by kernel_rfl) (by kernel_rfl) (by kernel_rfl) (by kernel_rfl) (h6 _ _ B10 RU) ?_
  intro w11 hb11
  have B11 := below_step B10 hb11
  have S11 := hS w11 B11
  refine ⟨S11, ?_⟩
  refine hd_call (i := 17) (op7_6 17) (some 43) 19 #[.slice none 0 0] (an) (fun w' => Below (w11).heap.size (w11) w') (by kernel_rfl) (by kernel_rfl) (by kernel_rfl) (by kernel_rfl) (by kernel_rfl) (h2 _ B11) ?_
  intro w12 hb12
  have B12 := below_step B11 hb12
  have S12 := hS w12 B12
  refine ⟨S12, ?_⟩
  refine hd_call (i := 19) (op7_6 19) (some 45) 17 #[an, ev] (.bool true) (fun w' => Below (w12).heap.size (w12) w') (by kernel_rfl) (by kernel_rfl) (by kernel_rfl) (by kernel_rfl) (by kernel_rfl) (h3 _ B12) ?_
  intro w13 hb13
  have B13 := below_step B12 hb13
  have S13 := hS w13 B13
  refine ⟨S13, ?_⟩
  refine hd_take (i := 20) (op7_6 20) (some 46) (.bool true) (by kernel_rfl) (by kernel_rfl) (by kernel_rfl) (by kernel_rfl) (by kernel_rfl) (by kernel_rfl) (fun _ _ => by kernel_rfl) S13 ?_
  refine hd_take (i := 21) (op7_6 21) (some 47) (bx) (by kernel_rfl) (by kernel_rfl) (by kernel_rfl) (by kernel_rfl) (by kernel_rfl) (by kernel_rfl) (fun w' hw' => ex_load (ty := 28) (x := .tmp 7) (p := .pointer (some ⟨b, 0, none⟩)) (by kernel_rfl) (by kernel_rfl) hw'.1) S13 ?_
  refine hd_take (i := 22) (op7_6 22) (some 48) (ev) (by kernel_rfl) (by kernel_rfl) (by kernel_rfl) (by kernel_rfl) (by kernel_rfl) (by kernel_rfl) (fun w' hw' => ex_load (ty := 32) (x := .tmp 5) (p := .pointer (some ⟨c, 0, none⟩)) (by kernel_rfl) (by kernel_rfl) hw'.2) S13 ?_
  refine hd_call (i := 23) (op7_6 23) (some 49) 23 #[bx, ev] (.bool false) (fun w' => Below (w13).heap.size (w13) w') (by kernel_rfl) (by kernel_rfl) (by kernel_rfl) (by kernel_rfl) (by kernel_rfl) (h4 _ B13) ?_
  intro w14 hb14
  have B14 := below_step B13 hb14
  have S14 := hS w14 B14
  refine ⟨S14, ?_⟩
  refine hd_take (i := 24) (op7_6 24) (some 50) (.bool true) (by kernel_rfl) (by kernel_rfl) (by kernel_rfl) (by kernel_rfl) (by kernel_rfl) (by kernel_rfl) (fun _ _ => by kernel_rfl) S14 ?_
  refine hd_take (i := 25) (op7_6 25) (some 51) (.bool true) (by kernel_rfl) (by kernel_rfl) (by kernel_rfl) (by kernel_rfl) (by kernel_rfl) (by kernel_rfl) (fun _ _ => by kernel_rfl) S14 ?_
  refine hd_take (i := 26) (op7_6 26) (some 52) (.bool true) (by kernel_rfl) (by kernel_rfl) (by kernel_rfl) (by kernel_rfl) (by kernel_rfl) (by kernel_rfl) (fun _ _ => by kernel_rfl) S14 ?_
  refine hd_take (i := 27) (op7_6 27) (some 53) (.bool true) (by kernel_rfl) (by kernel_rfl) (by kernel_rfl) (by kernel_rfl) (by kernel_rfl) (by kernel_rfl) (fun _ _ => by kernel_rfl) S14 ?_
  refine hd_take (i := 28) (op7_6 28) (some 6) (.bool true) (by kernel_rfl) (by kernel_rfl) (by kernel_rfl) (by kernel_rfl) (by kernel_rfl) (by kernel_rfl) (fun _ _ => by kernel_rfl) S14 ?_
  refine hd_end (b := ⟨#[c0, c1, c2, c3, c4, .pointer (some ⟨c, 0, none⟩), .bool true, .pointer (some ⟨b, 0, none⟩), c8, c9, c10, c11, c12, c13, c14, c15, c16, c17, c18, c19, c20, c21, c22, c23, c24, c25, bx, ev, .bool false, an, ev, .bool true, .bool true, bx, ev, .bool false, .bool false, .bool true, .bool true, bx, un10, ev, .bool true, an, ev, .bool true, .bool true, bx, ev, .bool false, .bool true, .bool true, .bool true, .bool true], []⟩) (by kernel_rfl) (by kernel_rfl) ?_
  exact hQ _ _ _ _ _ _ _ _ _ _ _ _ _ _ _ _ _ _ _ _ _ _ _ _ _ _ _ _ _ B14

set_option linter.unusedVariables false in
set_option maxHeartbeats 4000000 in
set_option maxRecDepth 100000 in
theorem reg7_11 (b c : Nat) (bx ev an : Value) (RN : Value → World → Prop) (w5 : World) (Q : Exit → Act → World → Prop)
    (hS : ∀ w', Below w5.heap.size w5 w' → (Instr.loadAt 28 (.pointer (some ⟨b, 0, none⟩))).run Try.prog w' = .ok bx w' ∧ (Instr.loadAt 32 (.pointer (some ⟨c, 0, none⟩))).run Try.prog w' = .ok ev w')
    (h1 : ∀ w', Below w5.heap.size w5 w' → Calls Try.prog 17 #[bx, ev] w' fun e' w6 => e' = .returned (.bool true) ∧ Below w'.heap.size w' w6)
    (h2 : ∀ w', Below w5.heap.size w5 w' → Calls Try.prog 19 #[.slice none 0 0] w' fun e' w6 => e' = .returned (an) ∧ Below w'.heap.size w' w6)
    (h3 : ∀ w', Below w5.heap.size w5 w' → Calls Try.prog 17 #[an, ev] w' fun e' w6 => e' = .returned (.bool true) ∧ Below w'.heap.size w' w6)
    (h4 : ∀ w', Below w5.heap.size w5 w' → Calls Try.prog 23 #[bx, ev] w' fun e' w6 => e' = .returned (.bool true) ∧ Below w'.heap.size w' w6)
    (h5 : ∀ w', Below w5.heap.size w5 w' → Calls Try.prog 21 #[bx] w' fun e' w6 => ∃ u, e' = .returned u ∧ (fun u w' => RN u w') u w6 ∧ Below w'.heap.size w' w6)
    (h6 : ∀ w' un, Below w5.heap.size w5 w' → RN un w' → Calls Try.prog 17 #[un, ev] w' fun e' w6 => e' = .returned (.bool false) ∧ Below w'.heap.size w' w6)
    (c0 c1 c2 c3 c4 c6 c8 c9 c10 c11 c12 c13 c14 c15 c16 c17 c18 c19 c20 c21 c22 c23 c24 c25 c26 c27 c28 c29 c30 c31 c32 c33 c34 c35 c36 c37 c38 c39 c40 c41 c42 c43 c44 c45 c46 c47 c48 c49 c50 c51 c52 c53 : Value)
    (hQ : ∀ (u26 u27 u28 u29 u30 u31 u32 u33 u34 u35 u36 u37 u38 u39 u40 u41 u42 u43 u44 u45 u46 u47 u48 u49 u50 u51 u52 u53 : Value) (w6 : World), Below w5.heap.size w5 w6 → Q .normal ⟨#[c0, c1, c2, c3, c4, .pointer (some ⟨c, 0, none⟩), .bool true, .pointer (some ⟨b, 0, none⟩), c8, c9, c10, c11, c12, c13, c14, c15, c16, c17, c18, c19, c20, c21, c22, c23, c24, c25, u26, u27, u28, u29, u30, u31, u32, u33, u34, u35, u36, u37, u38, u39, u40, u41, u42, u43, u44, u45, u46, u47, u48, u49, u50, u51, u52, u53], []⟩ w6) : Code.wp Try.prog reg7_6 Q ⟨#[c0, c1, c2, c3, c4, .pointer (some ⟨c, 0, none⟩), c6, .pointer (some ⟨b, 0, none⟩), c8, c9, c10, c11, c12, c13, c14, c15, c16, c17, c18, c19, c20, c21, c22, c23, c24, c25, c26, c27, c28, c29, c30, c31, c32, c33, c34, c35, c36, c37, c38, c39, c40, c41, c42, c43, c44, c45, c46, c47, c48, c49, c50, c51, c52, c53], []⟩ w5 := by
  have B5 : Below w5.heap.size w5 w5.drew := (Below.refl _ _).drew
  have S0 := hS _ B5
  rw [reg7_6_is]
  refine hd_start (n := 29) (fun w' => (Instr.loadAt 28 (.pointer (some ⟨b, 0, none⟩))).run Try.prog w' = .ok bx w' ∧ (Instr.loadAt 32 (.pointer (some ⟨c, 0, none⟩))).run Try.prog w' = .ok ev w') (by kernel_rfl) (by kernel_rfl) S0 ?_
  refine hd_take (i := 0) (op7_6 0) (some 26) (bx) (by kernel_rfl) (by kernel_rfl) (by kernel_rfl) (by kernel_rfl) (by kernel_rfl) (by kernel_rfl) (fun w' hw' => ex_load (ty := 28) (x := .tmp 7) (p := .pointer (some ⟨b, 0, none⟩)) (by kernel_rfl) (by kernel_rfl) hw'.1) S0 ?_
  refine hd_take (i := 1) (op7_6 1) (some 27) (ev) (by kernel_rfl) (by kernel_rfl) (by kernel_rfl) (by kernel_rfl) (by kernel_rfl) (by kernel_rfl) (fun w' hw' => ex_load (ty := 32) (x := .tmp 5) (p := .pointer (some ⟨c, 0, none⟩)) (by kernel_rfl) (by kernel_rfl) hw'.2) S0 ?_
  refine hd_take (i := 4) (op7_6 4) (some 30) (ev) (by kernel_rfl) (by kernel_rfl) (by kernel_rfl) (by kernel_rfl) (by kernel_rfl) (by kernel_rfl) (fun w' hw' => ex_load (ty := 32) (x := .tmp 5) (p := .pointer (some ⟨c, 0, none⟩)) (by kernel_rfl) (by kernel_rfl) hw'.2) S0 ?_
  refine hd_call (i := 2) (op7_6 2) (some 28) 17 #[bx, ev] (.bool true) (fun w' => Below (w5.drew).heap.size (w5.drew) w') (by kernel_rfl) (by kernel_rfl) (by kernel_rfl) (by kernel_rfl) (by kernel_rfl) (h1 _ B5) ?_
  intro w6 hb6
  have B6 := below_step B5 hb6
  have S6 := hS w6 B6
  refine ⟨S6, ?_⟩
  refine hd_call (i := 3) (op7_6 3) (some 29) 19 #[.slice none 0 0] (an) (fun w' => Below (w6).heap.size (w6) w') (by kernel_rfl) (by kernel_rfl) (by kernel_rfl) (by kernel_rfl) (by kernel_rfl) (h2 _ B6) ?_
  intro w7 hb7
  have B7 := below_step B6 hb7
  have S7 := hS w7 B7
  refine ⟨S7, ?_⟩
  refine hd_call (i := 5) (op7_6 5) (some 31) 17 #[an, ev] (.bool true) (fun w' => Below (w7).heap.size (w7) w') (by kernel_rfl) (by kernel_rfl) (by kernel_rfl) (by kernel_rfl) (by kernel_rfl) (h3 _ B7) ?_
  intro w8 hb8
  have B8 := below_step B7 hb8
  have S8 := hS w8 B8
  refine ⟨S8, ?_⟩
  refine hd_take (i := 6) (op7_6 6) (some 32) (.bool true) (by kernel_rfl) (by kernel_rfl) (by kernel_rfl) (by kernel_rfl) (by kernel_rfl) (by kernel_rfl) (fun _ _ => by kernel_rfl) S8 ?_
  refine hd_take (i := 7) (op7_6 7) (some 33) (bx) (by kernel_rfl) (by kernel_rfl) (by kernel_rfl) (by kernel_rfl) (by kernel_rfl) (by kernel_rfl) (fun w' hw' => ex_load (ty := 28) (x := .tmp 7) (p := .pointer (some ⟨b, 0, none⟩)) (by kernel_rfl) (by kernel_rfl) hw'.1) S8 ?_
  refine hd_take (i := 8) (op7_6 8) (some 34) (ev) (by kernel_rfl) (by kernel_rfl) (by kernel_rfl) (by kernel_rfl) (by kernel_rfl) (by kernel_rfl) (fun w' hw' => ex_load (ty := 32) (x := .tmp 5) (p := .pointer (some ⟨c, 0, none⟩)) (by kernel_rfl) (by kernel_rfl) hw'.2) S8 ?_
  refine hd_call (i := 9) (op7_6 9) (some 35) 23 #[bx, ev] (.bool true) (fun w' => Below (w8).heap.size (w8) w') (by kernel_rfl) (by kernel_rfl) (by kernel_rfl) (by kernel_rfl) (by kernel_rfl) (h4 _ B8) ?_
  intro w9 hb9
  have B9 := below_step B8 hb9
  have S9 := hS w9 B9
  refine ⟨S9, ?_⟩
  refine hd_take (i := 10) (op7_6 10) (some 36) (.bool true) (by kernel_rfl) (by kernel_rfl) (by kernel_rfl) (by kernel_rfl) (by kernel_rfl) (by kernel_rfl) (fun _ _ => by kernel_rfl) S9 ?_
  refine hd_take (i := 11) (op7_6 11) (some 37) (.bool true) (by kernel_rfl) (by kernel_rfl) (by kernel_rfl) (by kernel_rfl) (by kernel_rfl) (by kernel_rfl) (fun _ _ => by kernel_rfl) S9 ?_
  refine hd_take (i := 12) (op7_6 12) (some 38) (.bool true) (by kernel_rfl) (by kernel_rfl) (by kernel_rfl) (by kernel_rfl) (by kernel_rfl) (by kernel_rfl) (fun _ _ => by kernel_rfl) S9 ?_
  refine hd_take (i := 13) (op7_6 13) (some 39) (bx) (by kernel_rfl) (by kernel_rfl) (by kernel_rfl) (by kernel_rfl) (by kernel_rfl) (by kernel_rfl) (fun w' hw' => ex_load (ty := 28) (x := .tmp 7) (p := .pointer (some ⟨b, 0, none⟩)) (by kernel_rfl) (by kernel_rfl) hw'.1) S9 ?_
  refine hd_take (i := 15) (op7_6 15) (some 41) (ev) (by kernel_rfl) (by kernel_rfl) (by kernel_rfl) (by kernel_rfl) (by kernel_rfl) (by kernel_rfl) (fun w' hw' => ex_load (ty := 32) (x := .tmp 5) (p := .pointer (some ⟨c, 0, none⟩)) (by kernel_rfl) (by kernel_rfl) hw'.2) S9 ?_
  refine hd_take (i := 18) (op7_6 18) (some 44) (ev) (by kernel_rfl) (by kernel_rfl) (by kernel_rfl) (by kernel_rfl) (by kernel_rfl) (by kernel_rfl) (fun w' hw' => ex_load (ty := 32) (x := .tmp 5) (p := .pointer (some ⟨c, 0, none⟩)) (by kernel_rfl) (by kernel_rfl) hw'.2) S9 ?_
  refine hd_callx (i := 14) (op7_6 14) (some 40) 21 #[bx] (fun u w' => RN u w' ∧ Below (w9).heap.size (w9) w') (by kernel_rfl) (by kernel_rfl) (by kernel_rfl) (by kernel_rfl) (by kernel_rfl) (h5 _ B9) ?_
  rintro un10 w10 ⟨RU, hb10⟩
  have B10 := below_step B9 hb10
  have S10 := hS w10 B10
  refine ⟨S10, ?_⟩
  refine hd_call (i := 16) (op7_6 16) (some 42) 17 #[un10, ev] (.bool false) (fun w' => Below (w10).heap.size (w10) w') (by kernel_rfl) (by kernel_rfl) (by kernel_rfl) (by kernel_rfl) (by kernel_rfl) (h6 _ _ B10 RU) ?_
  intro w11 hb11
  have B11 := below_step B10 hb11
  have S11 := hS w11 B11
  refine ⟨S11, ?_⟩
  refine hd_call (i := 17) (op7_6 17) (some 43) 19 #[.slice none 0 0] (an) (fun w' => Below (w11).heap.size (w11) w') (by kernel_rfl) (by kernel_rfl) (by kernel_rfl) (by kernel_rfl) (by kernel_rfl) (h2 _ B11) ?_
  intro w12 hb12
  have B12 := below_step B11 hb12
  have S12 := hS w12 B12
  refine ⟨S12, ?_⟩
  refine hd_call (i := 19) (op7_6 19) (some 45) 17 #[an, ev] (.bool true) (fun w' => Below (w12).heap.size (w12) w') (by kernel_rfl) (by kernel_rfl) (by kernel_rfl) (by kernel_rfl) (by kernel_rfl) (h3 _ B12) ?_
  intro w13 hb13
  have B13 := below_step B12 hb13
  have S13 := hS w13 B13
  refine ⟨S13, ?_⟩
  refine hd_take (i := 20) (op7_6 20) (some 46) (.bool true) (by kernel_rfl) (by kernel_rfl) (by kernel_rfl) (by kernel_rfl) (by kernel_rfl) (by kernel_rfl) (fun _ _ => by kernel_rfl) S13 ?_
  refine hd_take (i := 21) (op7_6 21) (some 47) (bx) (by kernel_rfl) (by kernel_rfl) (by kernel_rfl) (by kernel_rfl) (by kernel_rfl) (by kernel_rfl) (fun w' hw' => ex_load (ty := 28) (x := .tmp 7) (p := .pointer (some ⟨b, 0, none⟩)) (by kernel_rfl) (by kernel_rfl) hw'.1) S13 ?_
  refine hd_take (i := 22) (op7_6 22) (some 48) (ev) (by kernel_rfl) (by kernel_rfl) (by kernel_rfl) (by kernel_rfl) (by kernel_rfl) (by kernel_rfl) (fun w' hw' => ex_load (ty := 32) (x := .tmp 5) (p := .pointer (some ⟨c, 0, none⟩)) (by kernel_rfl) (by kernel_rfl) hw'.2) S13 ?_
  refine hd_call (i := 23) (op7_6 23) (some 49) 23 #[bx, ev] (.bool true) (fun w' => Below (w13).heap.size (w13) w') (by kernel_rfl) (by kernel_rfl) (by kernel_rfl) (by kernel_rfl) (by kernel_rfl) (h4 _ B13) ?_
  intro w14 hb14
  have B14 := below_step B13 hb14
  have S14 := hS w14 B14
  refine ⟨S14, ?_⟩
  refine hd_take (i := 24) (op7_6 24) (some 50) (.bool false) (by kernel_rfl) (by kernel_rfl) (by kernel_rfl) (by kernel_rfl) (by kernel_rfl) (by kernel_rfl) (fun _ _ => by kernel_rfl) S14 ?_
  refine hd_take (i := 25) (op7_6 25) (some 51) (.bool false) (by kernel_rfl) (by kernel_rfl) (by kernel_rfl) (by kernel_rfl) (by kernel_rfl) (by kernel_rfl) (fun _ _ => by kernel_rfl) S14 ?_
  refine hd_take (i := 26) (op7_6 26) (some 52) (.bool true) (by kernel_rfl) (by kernel_rfl) (by kernel_rfl) (by kernel_rfl) (by kernel_rfl) (by kernel_rfl) (fun _ _ => by kernel_rfl) S14 ?_
  refine hd_take (i := 27) (op7_6 27) (some 53) (.bool true) (by kernel_rfl) (by kernel_rfl) (by kernel_rfl) (by kernel_rfl) (by kernel_rfl) (by kernel_rfl) (fun _ _ => by kernel_rfl) S14 ?_
  refine hd_take (i := 28) (op7_6 28) (some 6) (.bool true) (by kernel_rfl) (by kernel_rfl) (by kernel_rfl) (by kernel_rfl) (by kernel_rfl) (by kernel_rfl) (fun _ _ => by kernel_rfl) S14 ?_
  refine hd_end (b := ⟨#[c0, c1, c2, c3, c4, .pointer (some ⟨c, 0, none⟩), .bool true, .pointer (some ⟨b, 0, none⟩), c8, c9, c10, c11, c12, c13, c14, c15, c16, c17, c18, c19, c20, c21, c22, c23, c24, c25, bx, ev, .bool true, an, ev, .bool true, .bool true, bx, ev, .bool true, .bool true, .bool true, .bool true, bx, un10, ev, .bool false, an, ev, .bool true, .bool true, bx, ev, .bool true, .bool false, .bool false, .bool true, .bool true], []⟩) (by kernel_rfl) (by kernel_rfl) ?_
  exact hQ _ _ _ _ _ _ _ _ _ _ _ _ _ _ _ _ _ _ _ _ _ _ _ _ _ _ _ _ _ B14

end Go.Proofs.Ytjkhajcngapjcaa.Q
