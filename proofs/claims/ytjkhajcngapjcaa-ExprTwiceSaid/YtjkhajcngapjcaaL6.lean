/- ExprTwice: the walk; printed by gen_twice05.py. -/
import Derived.Test.YtjkhajcngapjcaaEW
import Derived.Test.YtjkhajcngapjcaaEP
import Derived.Test.YtjkhajcngapjcaaEL
import Derived.Test.YtjkhajcngapjcaaEK
import Derived.Test.YtjkhajcngapjcaaR64
import Derived.Outline
namespace Go.Proofs.Ytjkhajcngapjcaa.Q
open Go.RowKit Go.Proofs.YtjkhajcngapjcaaW.PrintWords Go.Proofs.YtjkhajcngapjcaaW.PrintLast Go.Proofs.YtjkhajcngapjcaaW.PrintMore
set_option linter.unusedVariables false
set_option linter.unusedSimpArgs false

theorem evalT_yes2 {x : S28} {e : Nat → V3} (h : rightT x = true) : evalT x e = (evOk e && isT e x) := by unfold evalT; rw [h]; rfl
theorem isT_not2 (e : Nat → V3) (x : S28) : isT e ⟨4, 0, s0, [x]⟩ = !(isT e x) := by rw [isT_eq]; simp [isFst]
theorem isT_nil2 (e : Nat → V3) : isT e xAnd = true ∧ isT e xOr = false := ⟨by simp [xAnd, isT, isAll], by simp [xOr, isT, isAny]⟩
theorem twice_is (e : Nat → V3) (x y : S28) (h : y ∈ twice x) : isT e y = isT e x := by
  simp only [twice, List.mem_cons, List.not_mem_nil, or_false] at h
  rcases h with rfl | rfl | rfl | rfl | rfl | rfl | rfl
  · rw [isT_not2, isT_not2, Bool.not_not]
  · rw [isT_and2, (isT_nil2 e).1, Bool.and_true]
  · rw [isT_or2, (isT_nil2 e).2, Bool.false_or]
  · rw [isT_and2, Bool.and_self]
  · rw [isT_or2, Bool.or_self]
  · rw [isT_and1]
  · rw [isT_or1]
theorem two_mem2 {P : S28 → Prop} {a b : S28} (ha : P a) (hb : P b) : ∀ x, x ∈ [a, b] → P x := fun x hx => by
  rcases List.mem_cons.1 hx with rfl | hx
  · exact ha
  · rcases List.mem_singleton.1 hx with rfl; exact hb
theorem one_mem2 {P : S28 → Prop} {a : S28} (ha : P a) : ∀ x, x ∈ [a] → P x := fun x hx => by rcases List.mem_singleton.1 hx with rfl; exact ha
theorem twice_fine (x y : S28) (hx : Each (fun y => FineS y.f2) x) (h : y ∈ twice x) : Each (fun y => FineS y.f2) y := by
  simp only [twice, List.mem_cons, List.not_mem_nil, or_false] at h
  rcases h with rfl | rfl | rfl | rfl | rfl | rfl | rfl
  · exact fine_not (fine_not hx)
  · exact fine_list (two_mem2 hx (fine_leaf fine_s0))
  · exact fine_list (two_mem2 (fine_leaf fine_s0) hx)
  · exact fine_list (two_mem2 hx hx)
  · exact fine_list (two_mem2 hx hx)
  · exact fine_list (one_mem2 hx)
  · exact fine_list (one_mem2 hx)
theorem fine_each2 {x : S28} (h : Each (fun y => NumS y.f2) x) (hs : SmallX x) : Each (fun y => FineS y.f2) x := (h.and hs.e).imp (fun _ h => fine_of h.1 h.2)
set_option maxHeartbeats 16000000 in
set_option maxRecDepth 100000 in
theorem twice_walk (x : S28) (vx : Value) (e : Nat → V3) (w : World) (hN : Each (fun y => NumS y.f2) x) (hx : XR w vx x) : Calls Try.prog 6 #[vx, .agg #[.int .i64 (e 0).k, .int .i64 (e 0).n, .string (e 0).t, .int .i64 (e 1).k, .int .i64 (e 1).n, .string (e 1).t, .int .i64 (e 2).k, .int .i64 (e 2).n, .string (e 2).t, .int .i64 (e 3).k, .int .i64 (e 3).n, .string (e 3).t]] w fun e' w' => e' = .returned (.bool true) ∧ Below w.heap.size w w' := by
  have HN := Aside0.mk hN
  have HX := Aside0.mk hx
  obtain ⟨A3x, c3x, A5x, c5x, A6x, c6x, rfl, l3, g3, l5, g5, l6, g6⟩ := hx
  clear l3 g3 l5 g5 l6 g6 hN
  go_enter Try.func6, Try.ntmps6
  go_wp2_with fail
  obtain ⟨wb, hwb⟩ : ∃ wb : World, wb = (w.alloc (.cells #[.int .i64 x.f0, .int .i64 x.f1, .bool x.f2.f0, .slice A3x x.f2.f1.length c3x, .bool x.f2.f2, .slice A5x x.f2.f3.length c5x, .slice A6x x.f3.length c6x] 28)).alloc (.cells #[.int .i64 (e 0).k, .int .i64 (e 0).n, .string (e 0).t, .int .i64 (e 1).k, .int .i64 (e 1).n, .string (e 1).t, .int .i64 (e 2).k, .int .i64 (e 2).n, .string (e 2).t, .int .i64 (e 3).k, .int .i64 (e 3).n, .string (e 3).t] 32) := ⟨_, rfl⟩
  have HB0 := Aside0.mk (show Below w.heap.size w wb by rw [hwb]; exact below_alloc (below_alloc (Below.refl _ _) _) _)
  have Hm0 := Aside0.mk (show wb.heap[w.heap.size]? = some (.cells #[.int .i64 x.f0, .int .i64 x.f1, .bool x.f2.f0, .slice A3x x.f2.f1.length c3x, .bool x.f2.f2, .slice A5x x.f2.f3.length c5x, .slice A6x x.f3.length c6x] 28 (0, 0)) by rw [hwb]; exact blk_new0 w _ _)
  have Hg0 := Aside0.mk (show EvAt wb (w.heap.size + 1) e by rw [hwb]; exact blk_new1 w _ _)
  rw [← hwb]
  clear hwb
  refine (awake_any _).mono ?_
  rintro e' w1 ⟨rfl, hb⟩
  have HB1 := Aside0.mk (below_step HB0.out hb)
  have Hm1 := Aside0.mk (blk_below Hm0.out hb)
  have Hg1 := Aside0.mk (EvAt.below Hg0.out hb)
  clear hb
  obtain ⟨m0, m1, m2, m3, m4, m5, m6⟩ := ncells Hm1.out
  go_wp2_with fail
  refine (few_any x _ _ (HX.out.below HB1.out)).mono ?_
  rintro e' w2 ⟨⟨fa, rfl, hfa⟩, hb⟩
  have HB2 := Aside0.mk (below_step HB1.out hb)
  have Hm2 := Aside0.mk (blk_below Hm1.out hb)
  have Hg2 := Aside0.mk (EvAt.below Hg1.out hb)
  have HS0 := Aside0.mk hfa
  clear hb hfa
  clear m0 m1 m2 m3 m4 m5 m6
  cases fa with
  | false =>
    go_wp2_with fail
    refine (awake_any _).mono ?_
    rintro e' w9 ⟨rfl, hb⟩
    have HB9 := Aside0.mk (below_step HB2.out hb)
    clear hb
    go_wp2_with fail
    go_ret
    exact ⟨rfl, HB9.out⟩
  | true =>
    have HS := Aside0.mk (HS0.out (by trivial))
    have HF := Aside0.mk (fine_each2 HN.out HS.out)
    clear HS0
    obtain ⟨m0, m1, m2, m3, m4, m5, m6⟩ := ncells Hm2.out
    go_wp2_with fail
    refine (refright_any x _ _ HS.out HF.out (HX.out.below HB2.out)).mono ?_
    rintro e' w3 ⟨rfl, hb⟩
    have HB3 := Aside0.mk (below_step HB2.out hb)
    have Hm3 := Aside0.mk (blk_below Hm2.out hb)
    have Hg3 := Aside0.mk (EvAt.below Hg2.out hb)
    clear hb
    clear m0 m1 m2 m3 m4 m5 m6
    cases hr : rightT x with
    | false =>
      clear hr
      go_wp2_with fail
      refine (awake_any _).mono ?_
      rintro e' w9 ⟨rfl, hb⟩
      have HB9 := Aside0.mk (below_step HB3.out hb)
      clear hb
      go_wp2_with fail
      go_ret
      exact ⟨rfl, HB9.out⟩
    | true =>
      have HR := Aside0.mk hr
      clear hr
      obtain ⟨m0, m1, m2, m3, m4, m5, m6⟩ := ncells Hm3.out
      obtain ⟨g0, g1, g2, g3, g4, g5, g6, g7, g8, g9, g10, g11⟩ := ecells Hg3.out
      go_wp2_with fail
      refine (Eval_any x _ e _ HF.out (HX.out.below HB3.out)).mono ?_
      rintro e' w4 ⟨rfl, hb⟩
      have HB4 := Aside0.mk (below_step HB3.out hb)
      have Hm4 := Aside0.mk (blk_below Hm3.out hb)
      have Hg4 := Aside0.mk (EvAt.below Hg3.out hb)
      clear hb
      clear m0 m1 m2 m3 m4 m5 m6 g0 g1 g2 g3 g4 g5 g6 g7 g8 g9 g10 g11
      go_upto_region 4 with fail
      refine r6_4 w.heap.size w4 _ (HX.out.below HB4.out) (fun w' hb => load_node (blk_below Hm4.out hb)) _ _ _ _ _ _ _ _ _ _ _ _ _ _ _ _ _ _ _ _ _ _ _ _ _ _ _ _ _ _ _ _ _ _ _ _ _ _ _ _ _ _ _ _ _ _ _ _ _ _ _ _ _ _ _ _ _ _ _ _ _ _ _ _ ?_
      intro z0 z1 z2 z3 z4 z5 z6 z7 z8 z9 z10 z11 z12 z13 z14 z15 z16 z17 z18 z19 z20 z21 z22 z23 z24 ad w5 hb hC
      have HB5 := Aside0.mk (below_step HB4.out hb)
      have Hm5 := Aside0.mk (blk_below Hm4.out hb)
      have Hg5 := Aside0.mk (EvAt.below Hg4.out hb)
      have HC5 := Aside0.mk hC
      have HEV := Aside0.mk (fun (y : S28) (hy : y ∈ twice x) (h : rightT y = true) => show evalT y e = evalT x e by rw [evalT_yes2 h, evalT_yes2 HR.out, twice_is e x y hy])
      clear hb hC
      generalize evalT x e = k at *
      go_wp2_with fail
      go_loopg [51] 7 (fun q v51 wr => ∃ i : Nat, v51 = .int .i64 i ∧ Aside0 (q + i = 7) ∧ Aside0 (Below w.heap.size w wr) ∧ Aside0 (EvAt wr (w.heap.size + 1) e) ∧ Aside0 (k28.C wr (some ad) 7 (twice x)))
      case atStart => exact ⟨0, rfl, ⟨rfl⟩, HB5, Hg5, HC5⟩
      case round =>
        obtain ⟨i, rfl, HQ, HBR, HGR, HCR⟩ := hrel
        obtain ⟨wl, hwl⟩ : ∃ wl : World, wl = wr := ⟨_, rfl⟩
        subst hwl
        by_cases hi : i < 7
        · have hi' : (i : Int) < 7 := by omega
          obtain ⟨ad', B3, d3, B5, d5, B6, d6, ead, q0, q1, q2, q3, q4, q5, q6, m3, f3, m5, f5, m6, f6⟩ := at_T28 HCR.out (i : Int) (by omega) (by omega)
          cases ead
          rw [Int.toNat_natCast] at q0 q1 q2 q3 q4 q5 q6
          have hmem := rd28_in (twice x) i hi
          have HFY := Aside0.mk (twice_fine x _ HF.out hmem)
          have HEY := Aside0.mk (HEV.out _ hmem)
          generalize rd_T28 (twice x) (i : Int) = y at *
          have HXR := Aside0.mk (show XR wl (.agg #[.int .i64 y.f0, .int .i64 y.f1, .bool y.f2.f0, .slice B3 y.f2.f1.length d3, .bool y.f2.f2, .slice B5 y.f2.f3.length d5, .slice B6 y.f3.length d6]) y from ⟨B3, d3, B5, d5, B6, d6, rfl, m3, f3, m5, f5, m6, f6⟩)
          clear hmem m3 f3 m5 f5 m6 f6
          go_wp2_with fail
          obtain ⟨wn, hwn⟩ : ∃ wn : World, wn = wl.alloc (.cells #[.int .i64 y.f0, .int .i64 y.f1, .bool y.f2.f0, .slice B3 y.f2.f1.length d3, .bool y.f2.f2, .slice B5 y.f2.f3.length d5, .slice B6 y.f3.length d6] 28) := ⟨_, rfl⟩
          have hbn : Below wl.heap.size wl wn := by rw [hwn]; exact below_alloc (Below.refl _ _) _
          have HYN := Aside0.mk (show wn.heap[wl.heap.size]? = some (.cells #[.int .i64 y.f0, .int .i64 y.f1, .bool y.f2.f0, .slice B3 y.f2.f1.length d3, .bool y.f2.f2, .slice B5 y.f2.f3.length d5, .slice B6 y.f3.length d6] 28 (0, 0)) by rw [hwn]; exact heap_alloc_new wl _)
          have HBN := Aside0.mk (below_step HBR.out hbn)
          have HGN := Aside0.mk (HGR.out.below hbn)
          have HCN := Aside0.mk (Kd.C_below HCR.out hbn)
          have HXN := Aside0.mk (HXR.out.below hbn)
          rw [← hwn]
          clear hwn hbn q0 q1 q2 q3 q4 q5 q6
          refine (right_any y _ _ HFY.out HXN.out).mono ?_
          rintro e' w8 ⟨rfl, hb⟩
          have HY8 := Aside0.mk (blk_below HYN.out hb)
          have HB8 := Aside0.mk (below_step HBN.out hb)
          have HG8 := Aside0.mk (HGN.out.below hb)
          have HC8 := Aside0.mk (Kd.C_below HCN.out hb)
          have HX8 := Aside0.mk (HXN.out.below hb)
          clear hb
          cases hry : rightT y with
          | false =>
            clear hry
            go_wp2_with fail
            go_roundg (7 - (i + 1))
            case measure => have := HQ.out; omega
            case rel => exact ⟨i + 1, by go_num, ⟨by omega⟩, HB8, HG8, HC8⟩
          | true =>
            have HE := Aside0.mk (HEY.out hry)
            clear hry
            obtain ⟨z0, z1, z2, z3, z4, z5, z6⟩ := ncells HY8.out
            obtain ⟨g0, g1, g2, g3, g4, g5, g6, g7, g8, g9, g10, g11⟩ := ecells HG8.out
            go_wp2_with fail
            refine (Eval_any y _ e _ HFY.out HX8.out).mono ?_
            rw [HE.out]
            rintro e' w9 ⟨rfl, hb⟩
            have HB9 := Aside0.mk (below_step HB8.out hb)
            have HG9 := Aside0.mk (HG8.out.below hb)
            have HC9 := Aside0.mk (Kd.C_below HC8.out hb)
            clear hb z0 z1 z2 z3 z4 z5 z6 g0 g1 g2 g3 g4 g5 g6 g7 g8 g9 g10 g11
            have hkk : (k != k) = false := by cases k <;> rfl
            go_wp2_with fail
            go_roundg (7 - (i + 1))
            case measure => have := HQ.out; omega
            case rel => exact ⟨i + 1, by go_num, ⟨by omega⟩, HB9, HG9, HC9⟩
        · have hi' : ¬ (i : Int) < 7 := by omega
          clear hi
          go_wp2_with fail
          go_ret
          exact ⟨rfl, HBR.out⟩
theorem twice_arg {H : Type} {enc : TypeId × Value → H} {w : World} {base : Nat} {spare : Nat → Bool} {held : Bool} {r : Reach} {b1 : Nat} (v0 : Value) (d0 : DataW H) (p0 : List MemPlace) (h0 : DataW.Trod enc Try.prog w base spare held 28 v0 d0 p0) (k0 : Value.okWide Try.prog w r b1 28 v0) (v1 : Value) (d1 : DataW H) (p1 : List MemPlace) (h1 : DataW.Trod enc Try.prog w base spare held 32 v1 d1 p1) (k1 : Value.okWide Try.prog w r b1 32 v1) : Calls Try.prog 6 #[v0, v1] w fun e' w' => e' = .returned (.bool true) ∧ Below w.heap.size w w' := by
  obtain ⟨x, hx, hNx⟩ := expr_arg k0 h0
  obtain ⟨e, rfl⟩ := event_arg k1 h1
  exact twice_walk x v0 e w hNx hx
end Go.Proofs.Ytjkhajcngapjcaa.Q
