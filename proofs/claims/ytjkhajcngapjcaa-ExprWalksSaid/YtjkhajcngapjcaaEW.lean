/- arbourlaw05.awake: it answers true. -/
import Derived.Test.YtjkhajcngapjcaaEB
import Derived.Outline
namespace Go.Proofs.Ytjkhajcngapjcaa.Q
open Go.RowKit Go.Proofs.YtjkhajcngapjcaaW.PrintWords Go.Proofs.YtjkhajcngapjcaaW.PrintLast Go.Proofs.YtjkhajcngapjcaaW.PrintMore
set_option linter.unusedVariables false
set_option linter.unusedSimpArgs false

def sA : S25 := ⟨false, [⟨5, 5⟩], false, []⟩
def xA : S28 := ⟨1, 0, sA, []⟩
def xN : S28 := ⟨4, 0, s0, [xA]⟩
def xAnd : S28 := ⟨2, 0, s0, []⟩
def xOr : S28 := ⟨3, 0, s0, []⟩
def xZ : S28 := ⟨0, 0, s0, []⟩
def e0 : Nat → V3 := fun _ => ⟨0, 0, ByteArray.empty⟩
def e5 : Nat → V3 := fun j => if j = 0 then ⟨1, 5, ByteArray.empty⟩ else ⟨0, 0, ByteArray.empty⟩
theorem num_s0 : NumS s0 := fun r hr => by cases hr
theorem fine_s0 : FineS s0 := ⟨num_s0, Nat.zero_le _, Nat.zero_le _⟩
theorem fine_sA : FineS sA := ⟨fun r hr => by
  rcases List.mem_singleton.1 hr with rfl
  exact ⟨⟨by decide, by decide⟩, ⟨by decide, by decide⟩⟩, by decide, by decide⟩
theorem each_leaf {P : S28 → Prop} {k a : Int} {s : S25} (h : P ⟨k, a, s, []⟩) : Each P ⟨k, a, s, []⟩ := .mk _ h (fun y hy => by cases hy)
theorem fine_leaf {k a : Int} {s : S25} (h : FineS s) : Each (fun y => FineS y.f2) ⟨k, a, s, []⟩ := each_leaf h
theorem fine_not {x : S28} (h : Each (fun y => FineS y.f2) x) : Each (fun y => FineS y.f2) ⟨4, 0, s0, [x]⟩ := .mk _ fine_s0 (fun y hy => by rcases List.mem_singleton.1 hy with rfl; exact h)
theorem empty_list : ByteArray.empty.toList = [] := by unfold ByteArray.toList; unfold ByteArray.toList.loop; rfl
theorem ok_empty : vOk ⟨0, 0, ByteArray.empty⟩ = true := by unfold vOk; simp [empty_list]
theorem ok_five : vOk ⟨1, 5, ByteArray.empty⟩ = true := by unfold vOk; simp [empty_list]
theorem ev_e0 : evOk e0 = true := by unfold evOk e0; simp [ok_empty]
theorem ev_e5 : evOk e5 = true := by unfold evOk e5; simp [ok_empty, ok_five]
theorem szN : szI xN = 2 := by decide
theorem dpN : dpI xN = 2 := by decide
theorem rightN : rightT xN = true := by decide
theorem rightZ : rightT xZ = false := by decide
theorem evalAnd : evalT xAnd e0 = true := by unfold evalT; rw [show rightT xAnd = true by decide, ev_e0]; decide
theorem evalOr : evalT xOr e0 = false := by unfold evalT; rw [show rightT xOr = true by decide, ev_e0]; decide
theorem has_e0 : hasT sA (e0 0) = false := by unfold hasT e0; simp [ok_empty, sA]
theorem has_e5 : hasT sA (e5 0) = true := by unfold hasT e5; simp [ok_five, sA, inR]
theorem evalN0 : evalT xN e0 = true := by unfold evalT; rw [rightN, ev_e0]; simp [isT, isFst, xN, xA, has_e0]
theorem evalN5 : evalT xN e5 = false := by unfold evalT; rw [rightN, ev_e5]; simp [isT, isFst, xN, xA, has_e5]
theorem eval_e0 (x : S28) (v : Value) (w : World) (hF : Each (fun y => FineS y.f2) x) (hx : XR w v x) : Calls Try.prog 17 #[v, .agg #[.int .i64 0, .int .i64 0, .string ByteArray.empty, .int .i64 0, .int .i64 0, .string ByteArray.empty, .int .i64 0, .int .i64 0, .string ByteArray.empty, .int .i64 0, .int .i64 0, .string ByteArray.empty]] w fun e' w' => e' = .returned (.bool (evalT x e0)) ∧ Below w.heap.size w w' := Eval_any x v e0 w hF hx
theorem eval_e5 (x : S28) (v : Value) (w : World) (hF : Each (fun y => FineS y.f2) x) (hx : XR w v x) : Calls Try.prog 17 #[v, .agg #[.int .i64 1, .int .i64 5, .string ByteArray.empty, .int .i64 0, .int .i64 0, .string ByteArray.empty, .int .i64 0, .int .i64 0, .string ByteArray.empty, .int .i64 0, .int .i64 0, .string ByteArray.empty]] w fun e' w' => e' = .returned (.bool (evalT x e5)) ∧ Below w.heap.size w w' := Eval_any x v e5 w hF hx
theorem C54_one {w : World} {b : Nat} {t : TypeId} {r : S54} (h : w.heap[b]? = some (.cells #[.int .i64 r.f0, .int .i64 r.f1] t (0, 0))) : k54.C w (some ⟨b, 0, none⟩) 1 [r] := by
  refine ⟨rfl, by omega, fun _ => ⟨⟨b, 0, none⟩, rfl, fun j p hj => ?_⟩⟩
  have hj0 : j = 0 := by
    cases j with
    | zero => rfl
    | succ j => simp at hj
  subst hj0
  have hp : r = p := by simpa using hj
  subst hp
  refine ⟨_, rfl, k54_mk w r, fun i u hu => ?_⟩
  rw [Nat.zero_mul, Nat.zero_add, add_plain, blk_cell h i]
  simpa using hu
set_option maxHeartbeats 8000000 in
set_option maxRecDepth 100000 in
theorem awake_any (w : World) : Calls Try.prog 9 #[] w fun e w' => e = .returned (.bool true) ∧ Below w.heap.size w w' := by
  go_enter Try.func9, Try.ntmps9
  go_wp2_with fail
  refine (atom_any 0 sA (some ⟨w.heap.size, 0, none⟩) 1 none 0 _ (Nat.le_refl _) (C54_one (r := ⟨5, 5⟩) (heap_alloc_new w _)) (Nat.le_refl _) (Kd.C_nil _ _)).mono ?_
  rintro e w1 ⟨u1, rfl, hx1, hb1⟩
  have HX1 := Aside0.mk hx1
  have HB1 := Aside0.mk (below_step (below_alloc (Below.refl w.heap.size w) _) hb1)
  clear hx1 hb1
  go_wp2_with fail
  refine (not_any xA u1 _ HX1.out).mono ?_
  rintro e w2 ⟨u2, rfl, hx2, hb2⟩
  have HX2 := Aside0.mk (show XR w2 u2 xN from hx2)
  have HB2 := Aside0.mk (below_step HB1.out hb2)
  clear hx2 hb2
  obtain ⟨A3, c3, A5, c5, A6, c6, hu, l3, g3, l5, g5, l6, g6⟩ := HX2.out
  subst hu
  clear l3 g3 l5 g5 l6 g6
  go_wp2_with fail
  obtain ⟨wb, hwb⟩ : ∃ wb : World, wb = w2.alloc (.cells #[.int .i64 xN.f0, .int .i64 xN.f1, .bool xN.f2.f0, .slice A3 xN.f2.f1.length c3, .bool xN.f2.f2, .slice A5 xN.f2.f3.length c5, .slice A6 xN.f3.length c6] 28) := ⟨_, rfl⟩
  obtain ⟨b, hb⟩ : ∃ b : Nat, b = w2.heap.size := ⟨_, rfl⟩
  have HBW := Aside0.mk (show Below w.heap.size w wb by rw [hwb]; exact below_alloc HB2.out _)
  have HBL := Aside0.mk (show wb.heap[b]? = some (.cells #[.int .i64 xN.f0, .int .i64 xN.f1, .bool xN.f2.f0, .slice A3 xN.f2.f1.length c3, .bool xN.f2.f2, .slice A5 xN.f2.f3.length c5, .slice A6 xN.f3.length c6] 28 (0, 0)) by rw [hwb, hb]; exact heap_alloc_new w2 _)
  have HXW := Aside0.mk (show XR wb (.agg #[.int .i64 xN.f0, .int .i64 xN.f1, .bool xN.f2.f0, .slice A3 xN.f2.f1.length c3, .bool xN.f2.f2, .slice A5 xN.f2.f3.length c5, .slice A6 xN.f3.length c6]) xN from HX2.out.below (by rw [hwb]; exact below_alloc (Below.refl _ _) _))
  rw [← hwb, ← hb]
  clear hwb hb HX2 HB2
  refine (size_any xN _ wb HXW.out).mono ?_
  rintro e w3 ⟨rfl, hb3⟩
  rw [szN, dpN]
  have HB3 := Aside0.mk (below_step HBW.out hb3)
  have HBL3 := Aside0.mk (blk_below HBL.out hb3)
  have HX3 := Aside0.mk (HXW.out.below hb3)
  clear hb3 HBW HBL HXW
  go_wp2_with fail
  refine (and_nil _).mono ?_
  rintro e w4 ⟨rfl, hb4⟩
  have HB4 := Aside0.mk (below_step HB3.out hb4)
  have HBL4 := Aside0.mk (blk_below HBL3.out hb4)
  have HX4 := Aside0.mk (HX3.out.below hb4)
  clear hb4 HB3 HBL3 HX3
  go_wp2_with fail
  refine (eval_e0 xAnd _ _ (fine_leaf fine_s0) (XR_nil _ _)).mono ?_
  rintro e w5 ⟨rfl, hb5⟩
  rw [evalAnd]
  have HB5 := Aside0.mk (below_step HB4.out hb5)
  have HBL5 := Aside0.mk (blk_below HBL4.out hb5)
  have HX5 := Aside0.mk (HX4.out.below hb5)
  clear hb5 HB4 HBL4 HX4
  go_wp2_with fail
  refine (or_nil _).mono ?_
  rintro e w6 ⟨rfl, hb6⟩
  have HB6 := Aside0.mk (below_step HB5.out hb6)
  have HBL6 := Aside0.mk (blk_below HBL5.out hb6)
  have HX6 := Aside0.mk (HX5.out.below hb6)
  clear hb6 HB5 HBL5 HX5
  go_wp2_with fail
  refine (eval_e0 xOr _ _ (fine_leaf fine_s0) (XR_nil _ _)).mono ?_
  rintro e w7 ⟨rfl, hb7⟩
  rw [evalOr]
  have HB7 := Aside0.mk (below_step HB6.out hb7)
  have HBL7 := Aside0.mk (blk_below HBL6.out hb7)
  have HX7 := Aside0.mk (HX6.out.below hb7)
  clear hb7 HB6 HBL6 HX6
  obtain ⟨z0, z1, z2, z3, z4, z5, z6⟩ := ncells HBL7.out
  go_wp2_with fail
  refine (eval_e0 xN _ _ (fine_not (fine_leaf fine_sA)) HX7.out).mono ?_
  rintro e w8 ⟨rfl, hb8⟩
  rw [evalN0]
  have HB8 := Aside0.mk (below_step HB7.out hb8)
  have HBL8 := Aside0.mk (blk_below HBL7.out hb8)
  have HX8 := Aside0.mk (HX7.out.below hb8)
  clear hb8 HB7 HBL7 HX7 z0 z1 z2 z3 z4 z5 z6
  obtain ⟨z0, z1, z2, z3, z4, z5, z6⟩ := ncells HBL8.out
  go_wp2_with fail
  refine (eval_e5 xN _ _ (fine_not (fine_leaf fine_sA)) HX8.out).mono ?_
  rintro e w9 ⟨rfl, hb9⟩
  rw [evalN5]
  have HB9 := Aside0.mk (below_step HB8.out hb9)
  have HBL9 := Aside0.mk (blk_below HBL8.out hb9)
  have HX9 := Aside0.mk (HX8.out.below hb9)
  clear hb9 HB8 HBL8 HX8 z0 z1 z2 z3 z4 z5 z6
  obtain ⟨z0, z1, z2, z3, z4, z5, z6⟩ := ncells HBL9.out
  go_wp2_with fail
  refine (right_any xN _ _ (fine_not (fine_leaf fine_sA)) HX9.out).mono ?_
  rintro e w10 ⟨rfl, hb10⟩
  rw [rightN]
  have HB10 := Aside0.mk (below_step HB9.out hb10)
  clear hb10 HB9 HBL9 HX9 z0 z1 z2 z3 z4 z5 z6
  go_wp2_with fail
  refine (right_any xZ _ _ (fine_leaf fine_s0) (XR_nil _ 0)).mono ?_
  rintro e w11 ⟨rfl, hb11⟩
  rw [rightZ]
  have HB11 := Aside0.mk (below_step HB10.out hb11)
  clear hb11 HB10
  go_wp2_with fail
  go_ret
  exact ⟨rfl, HB11.out⟩
end Go.Proofs.Ytjkhajcngapjcaa.Q
