/- ExprMakes: both expressions evaluated, and And() evaluated; printed by gen_r45.py. -/
import Derived.Test.YtjkhajcngapjcaaHP
namespace Go.Proofs.Ytjkhajcngapjcaa.Q
open Go.RowKit Go.Proofs.YtjkhajcngapjcaaW.PrintWords

/-- The region 4. -/
noncomputable def reg4_4 : Code := (Try.f4.body.bind (regAt 4)).getD .skip
noncomputable def ops4_4 : Array Oper := opsOf reg4_4
noncomputable def op4_4 (k : Nat) : Oper := (ops4_4[k]?).getD ⟨none, .move (.tmp 0), 0, "", #[], none⟩
theorem reg4_4_is : reg4_4 = .region 4 ops4_4 true := by kernel_rfl

set_option linter.unusedVariables false in
set_option maxHeartbeats 4000000 in
set_option maxRecDepth 100000 in
theorem r4_4 (p q c : Nat) (bx byy ev : Value) (ka kb : Bool) (w5 : World) (Q : Exit → Act → World → Prop)
    (hS : ∀ w', Below w5.heap.size w5 w' → (Instr.loadAt 28 (.pointer (some ⟨p, 0, none⟩))).run Try.prog w' = .ok bx w' ∧ (Instr.loadAt 28 (.pointer (some ⟨q, 0, none⟩))).run Try.prog w' = .ok byy w' ∧ (Instr.loadAt 32 (.pointer (some ⟨c, 0, none⟩))).run Try.prog w' = .ok ev w')
    (h1 : ∀ w', Below w5.heap.size w5 w' → Calls Try.prog 17 #[bx, ev] w' fun e' w6 => e' = .returned (.bool ka) ∧ Below w'.heap.size w' w6)
    (h2 : ∀ w', Below w5.heap.size w5 w' → Calls Try.prog 17 #[byy, ev] w' fun e' w6 => e' = .returned (.bool kb) ∧ Below w'.heap.size w' w6)
    (c0 c1 c2 c6 c7 c8 c9 c10 c11 c12 c13 c14 c15 c16 c17 c18 c19 c20 c21 c22 c23 c24 c25 c26 c27 c28 c29 c30 c31 c32 c33 c34 c35 c36 c37 c38 c39 c40 c41 c42 c43 c44 c45 c46 c47 c48 c49 c50 c51 c52 c53 c54 c55 c56 c57 c58 c59 c60 c61 c62 c63 c64 c65 c66 c67 c68 c69 c70 c71 c72 c73 c74 c75 c76 c77 c78 c79 c80 c81 c82 c83 c84 c85 c86 c87 c88 c89 c90 c91 c92 c93 c94 c95 c96 c97 c98 c99 c100 c101 c102 c103 c104 c105 : Value)
    (hQ : ∀ (u46 u47 u48 u49 u50 u51 : Value) (w6 : World), Below w5.heap.size w5 w6 → Q .normal ⟨#[c0, c1, c2, .pointer (some ⟨p, 0, none⟩), .pointer (some ⟨q, 0, none⟩), .pointer (some ⟨c, 0, none⟩), c6, c7, c8, c9, .bool ka, .bool kb, c12, c13, c14, c15, c16, c17, c18, c19, c20, c21, c22, c23, c24, c25, c26, c27, c28, c29, c30, c31, c32, c33, c34, c35, c36, c37, c38, c39, c40, c41, c42, c43, c44, c45, u46, u47, u48, u49, u50, u51, c52, c53, c54, c55, c56, c57, c58, c59, c60, c61, c62, c63, c64, c65, c66, c67, c68, c69, c70, c71, c72, c73, c74, c75, c76, c77, c78, c79, c80, c81, c82, c83, c84, c85, c86, c87, c88, c89, c90, c91, c92, c93, c94, c95, c96, c97, c98, c99, c100, c101, c102, c103, c104, c105], []⟩ w6) : Code.wp Try.prog reg4_4 Q ⟨#[c0, c1, c2, .pointer (some ⟨p, 0, none⟩), .pointer (some ⟨q, 0, none⟩), .pointer (some ⟨c, 0, none⟩), c6, c7, c8, c9, c10, c11, c12, c13, c14, c15, c16, c17, c18, c19, c20, c21, c22, c23, c24, c25, c26, c27, c28, c29, c30, c31, c32, c33, c34, c35, c36, c37, c38, c39, c40, c41, c42, c43, c44, c45, c46, c47, c48, c49, c50, c51, c52, c53, c54, c55, c56, c57, c58, c59, c60, c61, c62, c63, c64, c65, c66, c67, c68, c69, c70, c71, c72, c73, c74, c75, c76, c77, c78, c79, c80, c81, c82, c83, c84, c85, c86, c87, c88, c89, c90, c91, c92, c93, c94, c95, c96, c97, c98, c99, c100, c101, c102, c103, c104, c105], []⟩ w5 := by
  have B5 : Below w5.heap.size w5 w5.drew := (Below.refl _ _).drew
  have S0 := hS _ B5
  rw [reg4_4_is]
  refine hd_start (n := 8) (fun w' => (Instr.loadAt 28 (.pointer (some ⟨p, 0, none⟩))).run Try.prog w' = .ok bx w' ∧ (Instr.loadAt 28 (.pointer (some ⟨q, 0, none⟩))).run Try.prog w' = .ok byy w' ∧ (Instr.loadAt 32 (.pointer (some ⟨c, 0, none⟩))).run Try.prog w' = .ok ev w') (by kernel_rfl) (by kernel_rfl) S0 ?_
  refine hd_take (i := 0) (op4_4 0) (some 46) (bx) (by kernel_rfl) (by kernel_rfl) (by kernel_rfl) (by kernel_rfl) (by kernel_rfl) (by kernel_rfl) (fun w' hw' => ex_load (ty := 28) (x := .tmp 3) (p := .pointer (some ⟨p, 0, none⟩)) (by kernel_rfl) (by kernel_rfl) hw'.1) S0 ?_
  refine hd_take (i := 1) (op4_4 1) (some 47) (ev) (by kernel_rfl) (by kernel_rfl) (by kernel_rfl) (by kernel_rfl) (by kernel_rfl) (by kernel_rfl) (fun w' hw' => ex_load (ty := 32) (x := .tmp 5) (p := .pointer (some ⟨c, 0, none⟩)) (by kernel_rfl) (by kernel_rfl) hw'.2.2) S0 ?_
  refine hd_take (i := 3) (op4_4 3) (some 49) (byy) (by kernel_rfl) (by kernel_rfl) (by kernel_rfl) (by kernel_rfl) (by kernel_rfl) (by kernel_rfl) (fun w' hw' => ex_load (ty := 28) (x := .tmp 4) (p := .pointer (some ⟨q, 0, none⟩)) (by kernel_rfl) (by kernel_rfl) hw'.2.1) S0 ?_
  refine hd_take (i := 4) (op4_4 4) (some 50) (ev) (by kernel_rfl) (by kernel_rfl) (by kernel_rfl) (by kernel_rfl) (by kernel_rfl) (by kernel_rfl) (fun w' hw' => ex_load (ty := 32) (x := .tmp 5) (p := .pointer (some ⟨c, 0, none⟩)) (by kernel_rfl) (by kernel_rfl) hw'.2.2) S0 ?_
  refine hd_call (i := 2) (op4_4 2) (some 48) 17 #[bx, ev] (.bool ka) (fun w' => Below (w5.drew).heap.size (w5.drew) w') (by kernel_rfl) (by kernel_rfl) (by kernel_rfl) (by kernel_rfl) (by kernel_rfl) (h1 _ B5) ?_
  intro w6 hb6
  have B6 := below_step B5 hb6
  have S6 := hS w6 B6
  refine ⟨S6, ?_⟩
  refine hd_call (i := 5) (op4_4 5) (some 51) 17 #[byy, ev] (.bool kb) (fun w' => Below (w6).heap.size (w6) w') (by kernel_rfl) (by kernel_rfl) (by kernel_rfl) (by kernel_rfl) (by kernel_rfl) (h2 _ B6) ?_
  intro w7 hb7
  have B7 := below_step B6 hb7
  have S7 := hS w7 B7
  refine ⟨S7, ?_⟩
  refine hd_take (i := 6) (op4_4 6) (some 10) (.bool ka) (by kernel_rfl) (by kernel_rfl) (by kernel_rfl) (by kernel_rfl) (by kernel_rfl) (by kernel_rfl) (fun _ _ => by kernel_rfl) S7 ?_
  refine hd_take (i := 7) (op4_4 7) (some 11) (.bool kb) (by kernel_rfl) (by kernel_rfl) (by kernel_rfl) (by kernel_rfl) (by kernel_rfl) (by kernel_rfl) (fun _ _ => by kernel_rfl) S7 ?_
  refine hd_end (b := ⟨#[c0, c1, c2, .pointer (some ⟨p, 0, none⟩), .pointer (some ⟨q, 0, none⟩), .pointer (some ⟨c, 0, none⟩), c6, c7, c8, c9, .bool ka, .bool kb, c12, c13, c14, c15, c16, c17, c18, c19, c20, c21, c22, c23, c24, c25, c26, c27, c28, c29, c30, c31, c32, c33, c34, c35, c36, c37, c38, c39, c40, c41, c42, c43, c44, c45, bx, ev, .bool ka, byy, ev, .bool kb, c52, c53, c54, c55, c56, c57, c58, c59, c60, c61, c62, c63, c64, c65, c66, c67, c68, c69, c70, c71, c72, c73, c74, c75, c76, c77, c78, c79, c80, c81, c82, c83, c84, c85, c86, c87, c88, c89, c90, c91, c92, c93, c94, c95, c96, c97, c98, c99, c100, c101, c102, c103, c104, c105], []⟩) (by kernel_rfl) (by kernel_rfl) ?_
  exact hQ _ _ _ _ _ _ _ B7

/-- The region 5. -/
noncomputable def reg4_5 : Code := (Try.f4.body.bind (regAt 5)).getD .skip
noncomputable def ops4_5 : Array Oper := opsOf reg4_5
noncomputable def op4_5 (k : Nat) : Oper := (ops4_5[k]?).getD ⟨none, .move (.tmp 0), 0, "", #[], none⟩
theorem reg4_5_is : reg4_5 = .region 5 ops4_5 true := by kernel_rfl

set_option linter.unusedVariables false in
set_option maxHeartbeats 4000000 in
set_option maxRecDepth 100000 in
theorem r4_5 (c : Nat) (ev xan : Value) (ka : Bool) (w5 : World) (Q : Exit → Act → World → Prop)
    (hS : ∀ w', Below w5.heap.size w5 w' → (Instr.loadAt 32 (.pointer (some ⟨c, 0, none⟩))).run Try.prog w' = .ok ev w')
    (h1 : ∀ w', Below w5.heap.size w5 w' → Calls Try.prog 19 #[.slice none 0 0] w' fun e' w6 => e' = .returned (xan) ∧ Below w'.heap.size w' w6)
    (h2 : ∀ w', Below w5.heap.size w5 w' → Calls Try.prog 17 #[xan, ev] w' fun e' w6 => e' = .returned (.bool ka) ∧ Below w'.heap.size w' w6)
    (c0 c1 c2 c3 c4 c6 c7 c8 c9 c10 c11 c12 c13 c14 c15 c16 c17 c18 c19 c20 c21 c22 c23 c24 c25 c26 c27 c28 c29 c30 c31 c32 c33 c34 c35 c36 c37 c38 c39 c40 c41 c42 c43 c44 c45 c46 c47 c48 c49 c50 c51 c52 c53 c54 c55 c56 c57 c58 c59 c60 c61 c62 c63 c64 c65 c66 c67 c68 c69 c70 c71 c72 c73 c74 c75 c76 c77 c78 c79 c80 c81 c82 c83 c84 c85 c86 c87 c88 c89 c90 c91 c92 c93 c94 c95 c96 c97 c98 c99 c100 c101 c102 c103 c104 c105 : Value)
    (hQ : ∀ (u52 u53 u54 : Value) (w6 : World), Below w5.heap.size w5 w6 → Q .normal ⟨#[c0, c1, c2, c3, c4, .pointer (some ⟨c, 0, none⟩), c6, c7, c8, c9, c10, c11, .bool ka, c13, c14, c15, c16, c17, c18, c19, c20, c21, c22, c23, c24, c25, c26, c27, c28, c29, c30, c31, c32, c33, c34, c35, c36, c37, c38, c39, c40, c41, c42, c43, c44, c45, c46, c47, c48, c49, c50, c51, u52, u53, u54, c55, c56, c57, c58, c59, c60, c61, c62, c63, c64, c65, c66, c67, c68, c69, c70, c71, c72, c73, c74, c75, c76, c77, c78, c79, c80, c81, c82, c83, c84, c85, c86, c87, c88, c89, c90, c91, c92, c93, c94, c95, c96, c97, c98, c99, c100, c101, c102, c103, c104, c105], []⟩ w6) : Code.wp Try.prog reg4_5 Q ⟨#[c0, c1, c2, c3, c4, .pointer (some ⟨c, 0, none⟩), c6, c7, c8, c9, c10, c11, c12, c13, c14, c15, c16, c17, c18, c19, c20, c21, c22, c23, c24, c25, c26, c27, c28, c29, c30, c31, c32, c33, c34, c35, c36, c37, c38, c39, c40, c41, c42, c43, c44, c45, c46, c47, c48, c49, c50, c51, c52, c53, c54, c55, c56, c57, c58, c59, c60, c61, c62, c63, c64, c65, c66, c67, c68, c69, c70, c71, c72, c73, c74, c75, c76, c77, c78, c79, c80, c81, c82, c83, c84, c85, c86, c87, c88, c89, c90, c91, c92, c93, c94, c95, c96, c97, c98, c99, c100, c101, c102, c103, c104, c105], []⟩ w5 := by
  have B5 : Below w5.heap.size w5 w5.drew := (Below.refl _ _).drew
  have S0 := hS _ B5
  rw [reg4_5_is]
  refine hd_start (n := 4) (fun w' => (Instr.loadAt 32 (.pointer (some ⟨c, 0, none⟩))).run Try.prog w' = .ok ev w') (by kernel_rfl) (by kernel_rfl) S0 ?_
  refine hd_take (i := 1) (op4_5 1) (some 53) (ev) (by kernel_rfl) (by kernel_rfl) (by kernel_rfl) (by kernel_rfl) (by kernel_rfl) (by kernel_rfl) (fun w' hw' => ex_load (ty := 32) (x := .tmp 5) (p := .pointer (some ⟨c, 0, none⟩)) (by kernel_rfl) (by kernel_rfl) hw') S0 ?_
  refine hd_call (i := 0) (op4_5 0) (some 52) 19 #[.slice none 0 0] (xan) (fun w' => Below (w5.drew).heap.size (w5.drew) w') (by kernel_rfl) (by kernel_rfl) (by kernel_rfl) (by kernel_rfl) (by kernel_rfl) (h1 _ B5) ?_
  intro w6 hb6
  have B6 := below_step B5 hb6
  have S6 := hS w6 B6
  refine ⟨S6, ?_⟩
  refine hd_call (i := 2) (op4_5 2) (some 54) 17 #[xan, ev] (.bool ka) (fun w' => Below (w6).heap.size (w6) w') (by kernel_rfl) (by kernel_rfl) (by kernel_rfl) (by kernel_rfl) (by kernel_rfl) (h2 _ B6) ?_
  intro w7 hb7
  have B7 := below_step B6 hb7
  have S7 := hS w7 B7
  refine ⟨S7, ?_⟩
  refine hd_take (i := 3) (op4_5 3) (some 12) (.bool ka) (by kernel_rfl) (by kernel_rfl) (by kernel_rfl) (by kernel_rfl) (by kernel_rfl) (by kernel_rfl) (fun _ _ => by kernel_rfl) S7 ?_
  refine hd_end (b := ⟨#[c0, c1, c2, c3, c4, .pointer (some ⟨c, 0, none⟩), c6, c7, c8, c9, c10, c11, .bool ka, c13, c14, c15, c16, c17, c18, c19, c20, c21, c22, c23, c24, c25, c26, c27, c28, c29, c30, c31, c32, c33, c34, c35, c36, c37, c38, c39, c40, c41, c42, c43, c44, c45, c46, c47, c48, c49, c50, c51, xan, ev, .bool ka, c55, c56, c57, c58, c59, c60, c61, c62, c63, c64, c65, c66, c67, c68, c69, c70, c71, c72, c73, c74, c75, c76, c77, c78, c79, c80, c81, c82, c83, c84, c85, c86, c87, c88, c89, c90, c91, c92, c93, c94, c95, c96, c97, c98, c99, c100, c101, c102, c103, c104, c105], []⟩) (by kernel_rfl) (by kernel_rfl) ?_
  exact hQ _ _ _ _ B7

end Go.Proofs.Ytjkhajcngapjcaa.Q
