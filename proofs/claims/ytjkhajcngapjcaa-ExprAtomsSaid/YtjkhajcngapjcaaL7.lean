/- ExprAtoms: the walk; printed by gen_atoms05.py. -/
import Derived.Test.YtjkhajcngapjcaaEW
import Derived.Test.YtjkhajcngapjcaaEP
import Derived.Test.YtjkhajcngapjcaaEL
import Derived.Test.YtjkhajcngapjcaaR7
import Derived.Outline
namespace Go.Proofs.Ytjkhajcngapjcaa.Q
open Go.RowKit Go.Proofs.YtjkhajcngapjcaaW.PrintWords Go.Proofs.YtjkhajcngapjcaaW.PrintLast Go.Proofs.YtjkhajcngapjcaaW.PrintMore
set_option linter.unusedVariables false
set_option linter.unusedSimpArgs false

theorem fine_each {x : S28} (h : Each (fun y => NumS y.f2) x) (hs : SmallX x) : Each (fun y => FineS y.f2) x := (h.and hs.e).imp (fun _ h => fine_of h.1 h.2)
theorem evalT_no {x : S28} {e : Nat → V3} (h : rightT x = false) : evalT x e = false := by unfold evalT; rw [h]; rfl
theorem evalT_yes {x : S28} {e : Nat → V3} (h : rightT x = true) : evalT x e = (evOk e && isT e x) := by unfold evalT; rw [h]; rfl
theorem right_and : rightT xAnd = true := by decide
theorem evalT_and (e : Nat → V3) : evalT xAnd e = evOk e := by rw [evalT_yes right_and]; simp [xAnd, isT, isAll]
theorem right_not {a : Int} {s : S25} (h : rightT ⟨1, a, s, []⟩ = true) : rightT ⟨4, 0, s0, [⟨1, a, s, []⟩]⟩ = true := by
  unfold rightT at h ⊢
  rw [Bool.and_eq_true] at h ⊢
  refine ⟨by unfold fitsT; simp [sz, szL, dp, dpL], ?_⟩
  rw [allT_eq]
  simp [allL, h.2, oneT, plainT, s0, setNone]
theorem isT_not (e : Nat → V3) (x : S28) : isT e ⟨4, 0, s0, [x]⟩ = !(isT e x) := by rw [isT_eq]; simp [isFst]

set_option maxHeartbeats 16000000 in
set_option maxRecDepth 100000 in
theorem atoms_walk (a : Int) (s : S25) (A : Option Addr) (c1 : Nat) (B : Option Addr) (c2 : Nat) (e : Nat → V3) (w : World) (l1 : s.f1.length ≤ c1) (g1 : k54.C w A s.f1.length s.f1) (l3 : s.f3.length ≤ c2) (g3 : Kd.string.C w B s.f3.length s.f3) (hN : NumS s) : Calls Try.prog 7 #[.int .i64 a, .agg #[.bool s.f0, .slice A s.f1.length c1, .bool s.f2, .slice B s.f3.length c2], .agg #[.int .i64 (e 0).k, .int .i64 (e 0).n, .string (e 0).t, .int .i64 (e 1).k, .int .i64 (e 1).n, .string (e 1).t, .int .i64 (e 2).k, .int .i64 (e 2).n, .string (e 2).t, .int .i64 (e 3).k, .int .i64 (e 3).n, .string (e 3).t]] w fun e' w' => e' = .returned (.bool true) ∧ Below w.heap.size w w' := by
  have G1 := Aside0.mk (And.intro l1 g1)
  have G3 := Aside0.mk (And.intro l3 g3)
  have HN0 := Aside0.mk hN
  clear l1 g1 l3 g3 hN
  go_enter Try.func7, Try.ntmps7
  go_wp2_with fail
  obtain ⟨wa, hwa⟩ : ∃ wa : World, wa = (w.alloc (.cells #[.bool s.f0, .slice A s.f1.length c1, .bool s.f2, .slice B s.f3.length c2] 25)).alloc (.cells #[.int .i64 (e 0).k, .int .i64 (e 0).n, .string (e 0).t, .int .i64 (e 1).k, .int .i64 (e 1).n, .string (e 1).t, .int .i64 (e 2).k, .int .i64 (e 2).n, .string (e 2).t, .int .i64 (e 3).k, .int .i64 (e 3).n, .string (e 3).t] 32) := ⟨_, rfl⟩
  obtain ⟨c, hc⟩ : ∃ c : Nat, c = w.heap.size + 1 := ⟨_, rfl⟩
  have HBA := Aside0.mk (show Below w.heap.size w wa by rw [hwa]; exact below_alloc (below_alloc (Below.refl _ _) _) _)
  have HEA := Aside0.mk (show EvAt wa c e by rw [hwa, hc]; exact blk_new1 w _ _)
  rw [← hwa, ← hc]
  clear hwa hc
  refine (atom_any a s A c1 B c2 wa G1.out.1 (Kd.C_below G1.out.2 HBA.out) G3.out.1 (Kd.C_below G3.out.2 HBA.out)).mono ?_
  rintro e' w1 ⟨u, rfl, hx, hb⟩
  obtain ⟨x, hxx⟩ : ∃ x : S28, x = ⟨1, a, s, []⟩ := ⟨_, rfl⟩
  rw [← hxx] at hx
  have HXX := Aside0.mk hxx
  have HX1 := Aside0.mk hx
  have HB1 := Aside0.mk (below_step HBA.out hb)
  have HE1 := Aside0.mk (HEA.out.below hb)
  have HN := Aside0.mk (show Each (fun y => NumS y.f2) x by rw [hxx]; exact each_leaf HN0.out)
  have HNOT := Aside0.mk (show rightT x = true → rightT ⟨4, 0, s0, [x]⟩ = true by rw [hxx]; exact right_not)
  clear hxx hb
  obtain ⟨A3, c3, A5, c5, A6, c6, rfl, l3, g3, l5, g5, l6, g6⟩ := hx
  clear l3 g3 l5 g5 l6 g6
  go_wp2_with fail
  obtain ⟨wb, hwb⟩ : ∃ wb : World, wb = w1.alloc (.cells #[.int .i64 x.f0, .int .i64 x.f1, .bool x.f2.f0, .slice A3 x.f2.f1.length c3, .bool x.f2.f2, .slice A5 x.f2.f3.length c5, .slice A6 x.f3.length c6] 28) := ⟨_, rfl⟩
  obtain ⟨b, hbb⟩ : ∃ b : Nat, b = w1.heap.size := ⟨_, rfl⟩
  have HBW := Aside0.mk (show Below w.heap.size w wb by rw [hwb]; exact below_alloc HB1.out _)
  have Hz0 := Aside0.mk (show wb.heap[b]? = some (.cells #[.int .i64 x.f0, .int .i64 x.f1, .bool x.f2.f0, .slice A3 x.f2.f1.length c3, .bool x.f2.f2, .slice A5 x.f2.f3.length c5, .slice A6 x.f3.length c6] 28 (0, 0)) by rw [hwb, hbb]; exact heap_alloc_new w1 _)
  have Hg0 := Aside0.mk (show EvAt wb c e from HE1.out.below (by rw [hwb]; exact below_alloc (Below.refl _ _) _))
  have HXR := Aside0.mk (show XR wb (.agg #[.int .i64 x.f0, .int .i64 x.f1, .bool x.f2.f0, .slice A3 x.f2.f1.length c3, .bool x.f2.f2, .slice A5 x.f2.f3.length c5, .slice A6 x.f3.length c6]) x from HX1.out.below (by rw [hwb]; exact below_alloc (Below.refl _ _) _))
  have HB0 := Aside0.mk (Below.refl wb.heap.size wb)
  rw [← hwb, ← hbb]
  clear hwb hbb
  refine (awake_any _).mono ?_
  rintro e' w2 ⟨rfl, hb⟩
  have HB2 := Aside0.mk (below_step HB0.out hb)
  have Hz2 := Aside0.mk (blk_below Hz0.out hb)
  have Hg2 := Aside0.mk (EvAt.below Hg0.out hb)
  clear hb
  obtain ⟨z0, z1, z2, z3, z4, z5, z6⟩ := ncells Hz2.out
  obtain ⟨g0, g1, g2, g3, g4, g5, g6, g7, g8, g9, g10, g11⟩ := ecells Hg2.out
  go_wp2_with fail
  refine (few_any x _ _ (HXR.out.below HB2.out)).mono ?_
  rintro e' w3 ⟨⟨fb, rfl, hfb⟩, hb⟩
  have HB3 := Aside0.mk (below_step HB2.out hb)
  have Hz3 := Aside0.mk (blk_below Hz2.out hb)
  have Hg3 := Aside0.mk (EvAt.below Hg2.out hb)
  have HSM := Aside0.mk hfb
  clear hb hfb
  clear z0 z1 z2 z3 z4 z5 z6 g0 g1 g2 g3 g4 g5 g6 g7 g8 g9 g10 g11
  cases fb with
  | false =>
    go_wp2_with fail
    refine (awake_any _).mono ?_
    rintro e' w4 ⟨rfl, hb⟩
    have HB4 := Aside0.mk (below_step HB3.out hb)
    clear hb
    go_wp2_with fail
    go_ret
    exact ⟨rfl, below_step HBW.out HB4.out⟩
  | true =>
    have HS := Aside0.mk (HSM.out rfl)
    have HF := Aside0.mk (fine_each HN.out HS.out)
    clear HSM
    obtain ⟨z0, z1, z2, z3, z4, z5, z6⟩ := ncells Hz3.out
    obtain ⟨g0, g1, g2, g3, g4, g5, g6, g7, g8, g9, g10, g11⟩ := ecells Hg3.out
    go_wp2_with fail
    refine (right_any x _ _ HF.out (HXR.out.below HB3.out)).mono ?_
    rintro e' w4 ⟨rfl, hb⟩
    have HB4 := Aside0.mk (below_step HB3.out hb)
    have Hz4 := Aside0.mk (blk_below Hz3.out hb)
    have Hg4 := Aside0.mk (EvAt.below Hg3.out hb)
    clear hb
    clear z0 z1 z2 z3 z4 z5 z6 g0 g1 g2 g3 g4 g5 g6 g7 g8 g9 g10 g11
    cases hr : rightT x with
    | false =>
      have HR := Aside0.mk (@evalT_no x e hr)
      clear hr
      obtain ⟨z0, z1, z2, z3, z4, z5, z6⟩ := ncells Hz4.out
      obtain ⟨g0, g1, g2, g3, g4, g5, g6, g7, g8, g9, g10, g11⟩ := ecells Hg4.out
      go_wp2_with fail
      refine (Eval_any x _ e _ HF.out (HXR.out.below HB4.out)).mono ?_
      rintro e' w5 ⟨rfl, hb⟩
      have HB5 := Aside0.mk (below_step HB4.out hb)
      clear hb
      rw [HR.out]
      go_wp2_with fail
      go_ret
      exact ⟨rfl, below_step HBW.out HB5.out⟩
    | true =>
      have HR := Aside0.mk (@evalT_yes x e hr)
      have HRN := Aside0.mk ((@evalT_yes ⟨4, 0, s0, [x]⟩ e (HNOT.out hr)).trans (by rw [isT_not]))
      have HA := Aside0.mk (evalT_and e)
      have HALL := Aside0.mk (show allT x = true by unfold rightT at hr; rw [Bool.and_eq_true] at hr; exact hr.2)
      have HV1 := Aside0.mk (fun (W : World) (hF : Each (fun y => FineS y.f2) x) (hx : XR W (.agg #[.int .i64 x.f0, .int .i64 x.f1, .bool x.f2.f0, .slice A3 x.f2.f1.length c3, .bool x.f2.f2, .slice A5 x.f2.f3.length c5, .slice A6 x.f3.length c6]) x) => HR.out ▸ Eval_any x _ e W hF hx)
      have HV2 := Aside0.mk (fun (W : World) => HA.out ▸ Eval_any xAnd _ e W (fine_leaf fine_s0) (XR_nil W 2))
      have HV3 := Aside0.mk (fun (W : World) (u : Value) (hF : Each (fun y => FineS y.f2) ⟨4, 0, s0, [x]⟩) (hx : XR W u ⟨4, 0, s0, [x]⟩) => HRN.out ▸ Eval_any ⟨4, 0, s0, [x]⟩ u e W hF hx)
      have HV4 := Aside0.mk (fun (W : World) (hx : XR W (.agg #[.int .i64 x.f0, .int .i64 x.f1, .bool x.f2.f0, .slice A3 x.f2.f1.length c3, .bool x.f2.f2, .slice A5 x.f2.f3.length c5, .slice A6 x.f3.length c6]) x) => is_any e _ x _ W rfl HF.out HALL.out hx)
      clear hr
      generalize isT e x = iy at *
      generalize evOk e = ok at *
      cases ok with
      | false =>
        cases iy with
        | false =>
          simp only [Bool.and_true, Bool.true_and, Bool.false_and, Bool.and_false, Bool.not_true, Bool.not_false] at HV1 HV3 HV4
          go_upto_region 6 with fail
          refine reg7_00 b c _ _ _ (fun u w' => XR w' u ⟨4, 0, s0, [x]⟩) w4 _
            (fun w' hb => ⟨load_node (blk_below Hz4.out hb), load_ev (Hg4.out.below hb)⟩)
            (fun w' hb => HV1.out w' HF.out (HXR.out.below (below_step HB4.out hb))) (fun w' hb => and_nil w') (fun w' hb => HV2.out w')
            (fun w' hb => HV4.out w' (HXR.out.below (below_step HB4.out hb))) (fun w' hb => not_any x _ w' (HXR.out.below (below_step HB4.out hb))) (fun w' un hb hx => HV3.out w' un (fine_not HF.out) hx)
            _ _ _ _ _ _ _ _ _ _ _ _ _ _ _ _ _ _ _ _ _ _ _ _ _ _ _ _ _ _ _ _ _ _ _ _ _ _ _ _ _ _ _ _ _ _ _ _ _ _ _ _ ?_
          intro y0 y1 y2 y3 y4 y5 y6 y7 y8 y9 y10 y11 y12 y13 y14 y15 y16 y17 y18 y19 y20 y21 y22 y23 y24 y25 y26 y27 w6 hb6
          have HB6 := Aside0.mk (below_step HB4.out hb6)
          clear hb6
          go_wp2_with fail
          go_ret
          exact ⟨rfl, below_step HBW.out HB6.out⟩
        | true =>
          simp only [Bool.and_true, Bool.true_and, Bool.false_and, Bool.and_false, Bool.not_true, Bool.not_false] at HV1 HV3 HV4
          go_upto_region 6 with fail
          refine reg7_01 b c _ _ _ (fun u w' => XR w' u ⟨4, 0, s0, [x]⟩) w4 _
            (fun w' hb => ⟨load_node (blk_below Hz4.out hb), load_ev (Hg4.out.below hb)⟩)
            (fun w' hb => HV1.out w' HF.out (HXR.out.below (below_step HB4.out hb))) (fun w' hb => and_nil w') (fun w' hb => HV2.out w')
            (fun w' hb => HV4.out w' (HXR.out.below (below_step HB4.out hb))) (fun w' hb => not_any x _ w' (HXR.out.below (below_step HB4.out hb))) (fun w' un hb hx => HV3.out w' un (fine_not HF.out) hx)
            _ _ _ _ _ _ _ _ _ _ _ _ _ _ _ _ _ _ _ _ _ _ _ _ _ _ _ _ _ _ _ _ _ _ _ _ _ _ _ _ _ _ _ _ _ _ _ _ _ _ _ _ ?_
          intro y0 y1 y2 y3 y4 y5 y6 y7 y8 y9 y10 y11 y12 y13 y14 y15 y16 y17 y18 y19 y20 y21 y22 y23 y24 y25 y26 y27 w6 hb6
          have HB6 := Aside0.mk (below_step HB4.out hb6)
          clear hb6
          go_wp2_with fail
          go_ret
          exact ⟨rfl, below_step HBW.out HB6.out⟩
      | true =>
        cases iy with
        | false =>
          simp only [Bool.and_true, Bool.true_and, Bool.false_and, Bool.and_false, Bool.not_true, Bool.not_false] at HV1 HV3 HV4
          go_upto_region 6 with fail
          refine reg7_10 b c _ _ _ (fun u w' => XR w' u ⟨4, 0, s0, [x]⟩) w4 _
            (fun w' hb => ⟨load_node (blk_below Hz4.out hb), load_ev (Hg4.out.below hb)⟩)
            (fun w' hb => HV1.out w' HF.out (HXR.out.below (below_step HB4.out hb))) (fun w' hb => and_nil w') (fun w' hb => HV2.out w')
            (fun w' hb => HV4.out w' (HXR.out.below (below_step HB4.out hb))) (fun w' hb => not_any x _ w' (HXR.out.below (below_step HB4.out hb))) (fun w' un hb hx => HV3.out w' un (fine_not HF.out) hx)
            _ _ _ _ _ _ _ _ _ _ _ _ _ _ _ _ _ _ _ _ _ _ _ _ _ _ _ _ _ _ _ _ _ _ _ _ _ _ _ _ _ _ _ _ _ _ _ _ _ _ _ _ ?_
          intro y0 y1 y2 y3 y4 y5 y6 y7 y8 y9 y10 y11 y12 y13 y14 y15 y16 y17 y18 y19 y20 y21 y22 y23 y24 y25 y26 y27 w6 hb6
          have HB6 := Aside0.mk (below_step HB4.out hb6)
          clear hb6
          go_wp2_with fail
          go_ret
          exact ⟨rfl, below_step HBW.out HB6.out⟩
        | true =>
          simp only [Bool.and_true, Bool.true_and, Bool.false_and, Bool.and_false, Bool.not_true, Bool.not_false] at HV1 HV3 HV4
          go_upto_region 6 with fail
          refine reg7_11 b c _ _ _ (fun u w' => XR w' u ⟨4, 0, s0, [x]⟩) w4 _
            (fun w' hb => ⟨load_node (blk_below Hz4.out hb), load_ev (Hg4.out.below hb)⟩)
            (fun w' hb => HV1.out w' HF.out (HXR.out.below (below_step HB4.out hb))) (fun w' hb => and_nil w') (fun w' hb => HV2.out w')
            (fun w' hb => HV4.out w' (HXR.out.below (below_step HB4.out hb))) (fun w' hb => not_any x _ w' (HXR.out.below (below_step HB4.out hb))) (fun w' un hb hx => HV3.out w' un (fine_not HF.out) hx)
            _ _ _ _ _ _ _ _ _ _ _ _ _ _ _ _ _ _ _ _ _ _ _ _ _ _ _ _ _ _ _ _ _ _ _ _ _ _ _ _ _ _ _ _ _ _ _ _ _ _ _ _ ?_
          intro y0 y1 y2 y3 y4 y5 y6 y7 y8 y9 y10 y11 y12 y13 y14 y15 y16 y17 y18 y19 y20 y21 y22 y23 y24 y25 y26 y27 w6 hb6
          have HB6 := Aside0.mk (below_step HB4.out hb6)
          clear hb6
          go_wp2_with fail
          go_ret
          exact ⟨rfl, below_step HBW.out HB6.out⟩
theorem atoms_arg {H : Type} {enc : TypeId × Value → H} {w : World} {base : Nat} {spare : Nat → Bool} {held : Bool} {r : Reach} {b1 : Nat} (a : Int) (ha : (Lit.int .i64 a).wf = true) (v0 : Value) (d0 : DataW H) (p0 : List MemPlace) (h0 : DataW.Trod enc Try.prog w base spare held 25 v0 d0 p0) (k0 : Value.okWide Try.prog w r b1 25 v0) (v1 : Value) (d1 : DataW H) (p1 : List MemPlace) (h1 : DataW.Trod enc Try.prog w base spare held 32 v1 d1 p1) (k1 : Value.okWide Try.prog w r b1 32 v1) : Calls Try.prog 7 #[.int .i64 a, v0, v1] w fun e' w' => e' = .returned (.bool true) ∧ Below w.heap.size w w' := by
  obtain ⟨s, A, c, B, d, rfl, l1, g1, l3, g3, hN⟩ := set_arg k0 h0
  obtain ⟨e, rfl⟩ := event_arg k1 h1
  exact atoms_walk a s A c B d e w l1 g1 l3 g3 hN
end Go.Proofs.Ytjkhajcngapjcaa.Q
