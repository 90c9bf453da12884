/- ExprMakes: the walk; printed by gen_makes05.py. -/
import Derived.Test.YtjkhajcngapjcaaEW
import Derived.Test.YtjkhajcngapjcaaEP
import Derived.Test.YtjkhajcngapjcaaEL
import Derived.Test.YtjkhajcngapjcaaEK
import Derived.Test.YtjkhajcngapjcaaR43
import Derived.Test.YtjkhajcngapjcaaR4
import Derived.Test.YtjkhajcngapjcaaR45
import Derived.Outline
namespace Go.Proofs.Ytjkhajcngapjcaa.Q
open Go.RowKit Go.Proofs.YtjkhajcngapjcaaW.PrintWords Go.Proofs.YtjkhajcngapjcaaW.PrintLast Go.Proofs.YtjkhajcngapjcaaW.PrintMore
set_option linter.unusedVariables false
set_option linter.unusedSimpArgs false

theorem fine_each' {x : S28} (h : Each (fun y => NumS y.f2) x) (hs : SmallX x) : Each (fun y => FineS y.f2) x := (h.and hs.e).imp (fun _ h => fine_of h.1 h.2)
theorem evalT_yes' {x : S28} {e : Nat → V3} (h : rightT x = true) : evalT x e = (evOk e && isT e x) := by unfold evalT; rw [h]; rfl
theorem evalT_and' (e : Nat → V3) : evalT xAnd e = evOk e := by rw [evalT_yes' (by decide)]; simp [xAnd, isT, isAll]
theorem isT_not' (e : Nat → V3) (x : S28) : isT e ⟨4, 0, s0, [x]⟩ = !(isT e x) := by rw [isT_eq]; simp [isFst]
theorem makes_and {a b : S28} {e : Nat → V3} (ha : evalT a e = (evOk e && isT e a)) (hb : evalT b e = (evOk e && isT e b)) (h : evalT ⟨2, 0, s0, [a, b]⟩ e = (evOk e && isT e ⟨2, 0, s0, [a, b]⟩)) : evalT ⟨2, 0, s0, [a, b]⟩ e = (evalT a e && evalT b e) := by
  rw [h, ha, hb, isT_and2]; cases evOk e <;> cases isT e a <;> cases isT e b <;> rfl
theorem makes_or {a b : S28} {e : Nat → V3} (ha : evalT a e = (evOk e && isT e a)) (hb : evalT b e = (evOk e && isT e b)) (h : evalT ⟨3, 0, s0, [a, b]⟩ e = (evOk e && isT e ⟨3, 0, s0, [a, b]⟩)) : evalT ⟨3, 0, s0, [a, b]⟩ e = (evalT a e || evalT b e) := by
  rw [h, ha, hb, isT_or2]; cases evOk e <;> cases isT e a <;> cases isT e b <;> rfl
theorem makes_not {a : S28} {e : Nat → V3} (ha : evalT a e = (evOk e && isT e a)) (hs : evalT xAnd e = evOk e) (h : evalT ⟨4, 0, s0, [a]⟩ e = (evOk e && isT e ⟨4, 0, s0, [a]⟩)) : evalT ⟨4, 0, s0, [a]⟩ e = (evalT xAnd e && !(evalT a e)) := by
  rw [h, ha, hs, isT_not']; cases evOk e <;> cases isT e a <;> rfl
theorem two_mem {P : S28 → Prop} {a b : S28} (ha : P a) (hb : P b) : ∀ x, x ∈ [a, b] → P x := fun x hx => by
  rcases List.mem_cons.1 hx with rfl | hx
  · exact ha
  · rcases List.mem_singleton.1 hx with rfl; exact hb
theorem fits_of {x : S28} (h : rightT x = true) : sz x ≤ 40 ∧ dp x ≤ 8 := by
  unfold rightT fitsT at h
  simp only [Bool.and_eq_true, decide_eq_true_eq] at h
  exact h.1
theorem small_two {a b : S28} (ha : rightT a = true) (hb : rightT b = true) (sa : SmallX a) (sb : SmallX b) : SmallX ⟨2, 0, s0, [a, b]⟩ := by
  have h1 := fits_of ha
  have h2 := fits_of hb
  refine ⟨?_, ?_, .mk _ ⟨Nat.zero_le _, Nat.zero_le _⟩ (two_mem sa.e sb.e)⟩
  · simp [sz, szL]; omega
  · simp [dp, dpL]; omega
theorem blk_new3 (w : World) (o1 o2 o3 : Obj) : (((w.alloc o1).alloc o2).alloc o3).heap[w.heap.size]? = some o1 ∧ (((w.alloc o1).alloc o2).alloc o3).heap[w.heap.size + 1]? = some o2 ∧ (((w.alloc o1).alloc o2).alloc o3).heap[w.heap.size + 2]? = some o3 := by
  refine ⟨blk_alloc (blk_new0 w o1 o2) o3, blk_alloc (blk_new1 w o1 o2) o3, ?_⟩
  have := heap_alloc_new ((w.alloc o1).alloc o2) o3
  simpa using this
set_option maxHeartbeats 16000000 in
set_option maxRecDepth 100000 in
theorem makes_walk (a b : S28) (va vb : Value) (e : Nat → V3) (w : World) (hNa : Each (fun y => NumS y.f2) a) (hNb : Each (fun y => NumS y.f2) b) (hxa : XR w va a) (hxb : XR w vb b) : Calls Try.prog 4 #[va, vb, .agg #[.int .i64 (e 0).k, .int .i64 (e 0).n, .string (e 0).t, .int .i64 (e 1).k, .int .i64 (e 1).n, .string (e 1).t, .int .i64 (e 2).k, .int .i64 (e 2).n, .string (e 2).t, .int .i64 (e 3).k, .int .i64 (e 3).n, .string (e 3).t]] w fun e' w' => e' = .returned (.bool true) ∧ Below w.heap.size w w' := by
  have HNA := Aside0.mk hNa
  have HNB := Aside0.mk hNb
  have HXA := Aside0.mk hxa
  have HXB := Aside0.mk hxb
  obtain ⟨A3a, c3a, A5a, c5a, A6a, c6a, rfl, l3, g3, l5, g5, l6, g6⟩ := hxa
  clear l3 g3 l5 g5 l6 g6
  obtain ⟨A3b, c3b, A5b, c5b, A6b, c6b, rfl, l3, g3, l5, g5, l6, g6⟩ := hxb
  clear l3 g3 l5 g5 l6 g6
  clear hNa hNb
  go_enter Try.func4, Try.ntmps4
  go_wp2_with fail
  obtain ⟨wb, hwb⟩ : ∃ wb : World, wb = ((w.alloc (.cells #[.int .i64 a.f0, .int .i64 a.f1, .bool a.f2.f0, .slice A3a a.f2.f1.length c3a, .bool a.f2.f2, .slice A5a a.f2.f3.length c5a, .slice A6a a.f3.length c6a] 28)).alloc (.cells #[.int .i64 b.f0, .int .i64 b.f1, .bool b.f2.f0, .slice A3b b.f2.f1.length c3b, .bool b.f2.f2, .slice A5b b.f2.f3.length c5b, .slice A6b b.f3.length c6b] 28)).alloc (.cells #[.int .i64 (e 0).k, .int .i64 (e 0).n, .string (e 0).t, .int .i64 (e 1).k, .int .i64 (e 1).n, .string (e 1).t, .int .i64 (e 2).k, .int .i64 (e 2).n, .string (e 2).t, .int .i64 (e 3).k, .int .i64 (e 3).n, .string (e 3).t] 32) := ⟨_, rfl⟩
  have HB0 := Aside0.mk (show Below w.heap.size w wb by rw [hwb]; exact below_alloc (below_alloc (below_alloc (Below.refl _ _) _) _) _)
  have H3 := blk_new3 w (.cells #[.int .i64 a.f0, .int .i64 a.f1, .bool a.f2.f0, .slice A3a a.f2.f1.length c3a, .bool a.f2.f2, .slice A5a a.f2.f3.length c5a, .slice A6a a.f3.length c6a] 28) (.cells #[.int .i64 b.f0, .int .i64 b.f1, .bool b.f2.f0, .slice A3b b.f2.f1.length c3b, .bool b.f2.f2, .slice A5b b.f2.f3.length c5b, .slice A6b b.f3.length c6b] 28) (.cells #[.int .i64 (e 0).k, .int .i64 (e 0).n, .string (e 0).t, .int .i64 (e 1).k, .int .i64 (e 1).n, .string (e 1).t, .int .i64 (e 2).k, .int .i64 (e 2).n, .string (e 2).t, .int .i64 (e 3).k, .int .i64 (e 3).n, .string (e 3).t] 32)
  rw [← hwb] at H3
  have Hm0 := Aside0.mk H3.1
  have Hn0 := Aside0.mk H3.2.1
  have Hg0 := Aside0.mk (show EvAt wb (w.heap.size + 2) e from H3.2.2)
  rw [← hwb]
  clear H3 hwb
  refine (awake_any _).mono ?_
  rintro e' w1 ⟨rfl, hb⟩
  have HB1 := Aside0.mk (below_step HB0.out hb)
  have Hm1 := Aside0.mk (blk_below Hm0.out hb)
  have Hn1 := Aside0.mk (blk_below Hn0.out hb)
  have Hg1 := Aside0.mk (EvAt.below Hg0.out hb)
  clear hb
  obtain ⟨m0, m1, m2, m3, m4, m5, m6⟩ := ncells Hm1.out
  go_wp2_with fail
  refine (few_any a _ _ (HXA.out.below HB1.out)).mono ?_
  rintro e' w2 ⟨⟨fa, rfl, hfa⟩, hb⟩
  have HB2 := Aside0.mk (below_step HB1.out hb)
  have Hm2 := Aside0.mk (blk_below Hm1.out hb)
  have Hn2 := Aside0.mk (blk_below Hn1.out hb)
  have Hg2 := Aside0.mk (EvAt.below Hg1.out hb)
  have HSA := Aside0.mk hfa
  clear hb hfa
  clear m0 m1 m2 m3 m4 m5 m6
  cases fa with
  | false =>
    go_wp2_with fail
    refine (awake_any _).mono ?_
    rintro e' w9 ⟨rfl, hb⟩
    have HB9 := Aside0.mk (below_step HB2.out hb)
    clear hb
    go_wp2_with fail
    go_ret
    exact ⟨rfl, HB9.out⟩
  | true =>
    obtain ⟨n0, n1, n2, n3, n4, n5, n6⟩ := ncells Hn2.out
    go_wp2_with fail
    refine (few_any b _ _ (HXB.out.below HB2.out)).mono ?_
    rintro e' w3 ⟨⟨fb, rfl, hfb⟩, hb⟩
    have HB3 := Aside0.mk (below_step HB2.out hb)
    have Hm3 := Aside0.mk (blk_below Hm2.out hb)
    have Hn3 := Aside0.mk (blk_below Hn2.out hb)
    have Hg3 := Aside0.mk (EvAt.below Hg2.out hb)
    have HSB := Aside0.mk hfb
    clear hb hfb
    clear n0 n1 n2 n3 n4 n5 n6
    cases fb with
    | false =>
      go_wp2_with fail
      refine (awake_any _).mono ?_
      rintro e' w9 ⟨rfl, hb⟩
      have HB9 := Aside0.mk (below_step HB3.out hb)
      clear hb
      go_wp2_with fail
      go_ret
      exact ⟨rfl, HB9.out⟩
    | true =>
      have HSA' := Aside0.mk (HSA.out (by trivial))
      have HSB' := Aside0.mk (HSB.out (by trivial))
      have HFA := Aside0.mk (fine_each' HNA.out HSA'.out)
      have HFB := Aside0.mk (fine_each' HNB.out HSB'.out)
      clear HSA HSB
      obtain ⟨m0, m1, m2, m3, m4, m5, m6⟩ := ncells Hm3.out
      go_wp2_with fail
      refine (refright_any a _ _ HSA'.out HFA.out (HXA.out.below HB3.out)).mono ?_
      rintro e' w4 ⟨rfl, hb⟩
      have HB4 := Aside0.mk (below_step HB3.out hb)
      have Hm4 := Aside0.mk (blk_below Hm3.out hb)
      have Hn4 := Aside0.mk (blk_below Hn3.out hb)
      have Hg4 := Aside0.mk (EvAt.below Hg3.out hb)
      clear hb
      clear m0 m1 m2 m3 m4 m5 m6
      cases hra : rightT a with
      | false =>
        clear hra
        go_wp2_with fail
        refine (awake_any _).mono ?_
        rintro e' w9 ⟨rfl, hb⟩
        have HB9 := Aside0.mk (below_step HB4.out hb)
        clear hb
        go_wp2_with fail
        go_ret
        exact ⟨rfl, HB9.out⟩
      | true =>
        have HRA := Aside0.mk hra
        clear hra
        obtain ⟨n0, n1, n2, n3, n4, n5, n6⟩ := ncells Hn4.out
        go_wp2_with fail
        refine (refright_any b _ _ HSB'.out HFB.out (HXB.out.below HB4.out)).mono ?_
        rintro e' w5 ⟨rfl, hb⟩
        have HB5 := Aside0.mk (below_step HB4.out hb)
        have Hm5 := Aside0.mk (blk_below Hm4.out hb)
        have Hn5 := Aside0.mk (blk_below Hn4.out hb)
        have Hg5 := Aside0.mk (EvAt.below Hg4.out hb)
        clear hb
        clear n0 n1 n2 n3 n4 n5 n6
        cases hrb : rightT b with
        | false =>
          clear hrb
          go_wp2_with fail
          refine (awake_any _).mono ?_
          rintro e' w9 ⟨rfl, hb⟩
          have HB9 := Aside0.mk (below_step HB5.out hb)
          clear hb
          go_wp2_with fail
          go_ret
          exact ⟨rfl, HB9.out⟩
        | true =>
          have HRB := Aside0.mk hrb
          clear hrb
          go_upto_region 3 with fail
          refine r4_3 w.heap.size (w.heap.size + 1) w5 _ (HXA.out.below HB5.out) (HXB.out.below HB5.out) (fun w' hb => ⟨load_node (blk_below Hm5.out hb), load_node (blk_below Hn5.out hb)⟩) _ _ _ _ _ _ _ _ _ _ _ _ _ _ _ _ _ _ _ _ _ _ _ _ _ _ _ _ _ _ _ _ _ _ _ _ _ _ _ _ _ _ _ _ _ _ _ _ _ _ _ _ _ _ _ _ _ _ _ _ _ _ _ _ _ _ _ _ _ _ _ _ _ _ _ _ _ _ _ _ _ _ _ _ _ _ _ _ _ _ _ _ _ _ _ _ _ _ _ _ _ _ _ _ ?_
          intro y36 y37 y38 y39 y40 y41 y42 y43 y44 y45 bx bb bz cx cb cz w6 hb kx kb kz Xx Xb Xz
          have HB6 := Aside0.mk (below_step HB5.out hb)
          have Hm6 := Aside0.mk (blk_below Hm5.out hb)
          have Hn6 := Aside0.mk (blk_below Hn5.out hb)
          have Hg6 := Aside0.mk (EvAt.below Hg5.out hb)
          have HXx := Aside0.mk Xx
          obtain ⟨A3x, c3x, A5x, c5x, A6x, c6x, he, l3, g3, l5, g5, l6, g6⟩ := Xx
          have he' : cx = #[.int .i64 2, .int .i64 0, .bool false, .slice A3x 0 c3x, .bool false, .slice A5x 0 c5x, .slice A6x 2 c6x] := by injection he
          clear l3 g3 l5 g5 l6 g6 he
          subst he'
          have HXy := Aside0.mk Xb
          obtain ⟨A3y, c3y, A5y, c5y, A6y, c6y, he, l3, g3, l5, g5, l6, g6⟩ := Xb
          have he' : cb = #[.int .i64 3, .int .i64 0, .bool false, .slice A3y 0 c3y, .bool false, .slice A5y 0 c5y, .slice A6y 2 c6y] := by injection he
          clear l3 g3 l5 g5 l6 g6 he
          subst he'
          have HXz := Aside0.mk Xz
          obtain ⟨A3z, c3z, A5z, c5z, A6z, c6z, he, l3, g3, l5, g5, l6, g6⟩ := Xz
          have he' : cz = #[.int .i64 4, .int .i64 0, .bool false, .slice A3z 0 c3z, .bool false, .slice A5z 0 c5z, .slice A6z 1 c6z] := by injection he
          clear l3 g3 l5 g5 l6 g6 he
          subst he'
          have Hx6 := Aside0.mk kx
          have Hy6 := Aside0.mk kb
          have Hz6 := Aside0.mk kz
          clear kx kb kz hb
          have HFX := Aside0.mk (show Each (fun y => FineS y.f2) ⟨2, 0, s0, [a, b]⟩ from fine_list (two_mem HFA.out HFB.out))
          have HFY := Aside0.mk (show Each (fun y => FineS y.f2) ⟨3, 0, s0, [a, b]⟩ from fine_list (two_mem HFA.out HFB.out))
          have HFZ := Aside0.mk (fine_not HFA.out)
          have HSX := Aside0.mk (small_two HRA.out HRB.out HSA'.out HSB'.out)
          have HEA := Aside0.mk (evalT_yes' (e := e) HRA.out)
          have HEB := Aside0.mk (evalT_yes' (e := e) HRB.out)
          have HE0 := Aside0.mk (evalT_and' e)
          have Hm6x := Hm6
          go_upto_region 4 with fail
          refine r4_4 w.heap.size (w.heap.size + 1) (w.heap.size + 2) _ _ _ (evalT a e) (evalT b e) w6 _ (fun w' hb => ⟨load_node (blk_below Hm6.out hb), load_node (blk_below Hn6.out hb), load_ev (Hg6.out.below hb)⟩)
            (fun w' hb => Eval_any a _ e w' HFA.out (HXA.out.below (below_step HB6.out hb))) (fun w' hb => Eval_any b _ e w' HFB.out (HXB.out.below (below_step HB6.out hb))) _ _ _ _ _ _ _ _ _ _ _ _ _ _ _ _ _ _ _ _ _ _ _ _ _ _ _ _ _ _ _ _ _ _ _ _ _ _ _ _ _ _ _ _ _ _ _ _ _ _ _ _ _ _ _ _ _ _ _ _ _ _ _ _ _ _ _ _ _ _ _ _ _ _ _ _ _ _ _ _ _ _ _ _ _ _ _ _ _ _ _ _ _ _ _ _ _ _ _ _ _ _ _ ?_
          intro z0 z1 z2 z3 z4 z5 w7 hb
          have HB7 := Aside0.mk (below_step HB6.out hb)
          have Hm7 := Aside0.mk (blk_below Hm6.out hb)
          have Hn7 := Aside0.mk (blk_below Hn6.out hb)
          have Hg7 := Aside0.mk (EvAt.below Hg6.out hb)
          have Hx7 := Aside0.mk (blk_below Hx6.out hb)
          have HXx7 := Aside0.mk (HXx.out.below hb)
          have Hy7 := Aside0.mk (blk_below Hy6.out hb)
          have HXy7 := Aside0.mk (HXy.out.below hb)
          have Hz7 := Aside0.mk (blk_below Hz6.out hb)
          have HXz7 := Aside0.mk (HXz.out.below hb)
          clear hb
          go_upto_region 5 with fail
          refine r4_5 (w.heap.size + 2) _ _ (evalT xAnd e) w7 _ (fun w' hb => load_ev (Hg7.out.below hb)) (fun w' hb => and_nil w') (fun w' hb => Eval_any xAnd _ e w' (fine_leaf fine_s0) (XR_nil w' 2)) _ _ _ _ _ _ _ _ _ _ _ _ _ _ _ _ _ _ _ _ _ _ _ _ _ _ _ _ _ _ _ _ _ _ _ _ _ _ _ _ _ _ _ _ _ _ _ _ _ _ _ _ _ _ _ _ _ _ _ _ _ _ _ _ _ _ _ _ _ _ _ _ _ _ _ _ _ _ _ _ _ _ _ _ _ _ _ _ _ _ _ _ _ _ _ _ _ _ _ _ _ _ _ _ _ ?_
          intro q0 q1 q2 w8 hb
          have HB8 := Aside0.mk (below_step HB7.out hb)
          have Hm8 := Aside0.mk (blk_below Hm7.out hb)
          have Hn8 := Aside0.mk (blk_below Hn7.out hb)
          have Hg8 := Aside0.mk (EvAt.below Hg7.out hb)
          have Hx8 := Aside0.mk (blk_below Hx7.out hb)
          have HXx8 := Aside0.mk (HXx7.out.below hb)
          have Hy8 := Aside0.mk (blk_below Hy7.out hb)
          have HXy8 := Aside0.mk (HXy7.out.below hb)
          have Hz8 := Aside0.mk (blk_below Hz7.out hb)
          have HXz8 := Aside0.mk (HXz7.out.below hb)
          clear hb
          have hxy := fun h => makes_and (e := e) HEA.out HEB.out (evalT_yes' (e := e) h)
          have hyy := fun h => makes_or (e := e) HEA.out HEB.out (evalT_yes' (e := e) h)
          have hzy := fun h => makes_not (e := e) HEA.out HE0.out (evalT_yes' (e := e) h)
          have HXY := Aside0.mk hxy
          have HYY := Aside0.mk hyy
          have HZY := Aside0.mk hzy
          clear hxy hyy hzy
          go_upto_region 6 with fail
          refine r4_6 bx bb bz (w.heap.size + 2) _ _ _ _ (evalT b e) (evalT a e) (evalT xAnd e) (rightT ⟨2, 0, s0, [a, b]⟩) (rightT ⟨3, 0, s0, [a, b]⟩) (rightT ⟨4, 0, s0, [a]⟩) (fun h => by rw [HE0.out]; rw [HEA.out] at h; exact (Bool.and_eq_true _ _ ▸ h).1) w8 _
            (fun w' hb => ⟨load_node (blk_below Hx8.out hb), load_node (blk_below Hy8.out hb), load_node (blk_below Hz8.out hb), load_ev (Hg8.out.below hb)⟩)
            (fun w' hb => right_any _ _ w' HFX.out (HXx8.out.below hb)) (fun w' hb h => HXY.out h ▸ Eval_any _ _ e w' HFX.out (HXx8.out.below hb))
            (fun w' hb => right_any _ _ w' HFY.out (HXy8.out.below hb)) (fun w' hb h => HYY.out h ▸ Eval_any _ _ e w' HFY.out (HXy8.out.below hb))
            (fun w' hb => right_any _ _ w' HFZ.out (HXz8.out.below hb)) (fun w' hb h => HZY.out h ▸ Eval_any _ _ e w' HFZ.out (HXz8.out.below hb))
            (fun w' hb => refright_any _ _ w' HSX.out HFX.out (HXx8.out.below hb)) _ _ _ _ _ _ _ _ _ _ _ _ _ _ _ _ _ _ _ _ _ _ _ _ _ _ _ _ _ _ _ _ _ _ _ _ _ _ _ _ _ _ _ _ _ _ _ _ _ _ _ _ _ _ _ _ _ _ _ _ _ _ _ _ _ _ _ _ _ _ _ _ _ _ _ _ _ _ _ _ _ _ _ _ _ _ _ _ _ _ _ _ _ _ _ _ _ _ _ ?_
          intro r0 r1 r2 r3 r4 r5 r6 r7 r8 r9 r10 r11 r12 r13 r14 r15 r16 r17 r18 r19 r20 r21 r22 r23 r24 r25 r26 r27 r28 r29 r30 r31 r32 r33 r34 r35 r36 r37 r38 r39 r40 r41 r42 r43 r44 r45 r46 r47 r48 r49 r50 w9 hb
          have HB9 := Aside0.mk (below_step HB8.out hb)
          clear hb
          go_wp2_with fail
          go_ret
          exact ⟨rfl, HB9.out⟩
theorem makes_arg {H : Type} {enc : TypeId × Value → H} {w : World} {base : Nat} {spare : Nat → Bool} {held : Bool} {r : Reach} {b1 : Nat} (v0 : Value) (d0 : DataW H) (p0 : List MemPlace) (h0 : DataW.Trod enc Try.prog w base spare held 28 v0 d0 p0) (k0 : Value.okWide Try.prog w r b1 28 v0) (v1 : Value) (d1 : DataW H) (p1 : List MemPlace) (h1 : DataW.Trod enc Try.prog w base spare held 28 v1 d1 p1) (k1 : Value.okWide Try.prog w r b1 28 v1) (v2 : Value) (d2 : DataW H) (p2 : List MemPlace) (h2 : DataW.Trod enc Try.prog w base spare held 32 v2 d2 p2) (k2 : Value.okWide Try.prog w r b1 32 v2) : Calls Try.prog 4 #[v0, v1, v2] w fun e' w' => e' = .returned (.bool true) ∧ Below w.heap.size w w' := by
  obtain ⟨x, hx, hNx⟩ := expr_arg k0 h0
  obtain ⟨y, hy, hNy⟩ := expr_arg k1 h1
  obtain ⟨e, rfl⟩ := event_arg k2 h2
  exact makes_walk x y v0 v1 e w hNx hNy hx hy
end Go.Proofs.Ytjkhajcngapjcaa.Q
