/- The reference's each and Right; printed by gen_each05.py. -/
import Derived.Test.YtjkhajcngapjcaaEQ
import Derived.Outline
namespace Go.Proofs.Ytjkhajcngapjcaa.Q
open Go.RowKit Go.Proofs.YtjkhajcngapjcaaW.PrintWords Go.Proofs.YtjkhajcngapjcaaW.PrintLast Go.Proofs.YtjkhajcngapjcaaW.PrintMore
set_option linter.unusedVariables false
set_option linter.unusedSimpArgs false

theorem ncells {w : World} {b : Nat} {v0 v1 v2 v3 v4 v5 v6 : Value} (h : w.heap[b]? = some (.cells #[v0, v1, v2, v3, v4, v5, v6] 28 (0, 0))) : w.cell? ⟨b, 0, none⟩ = some v0 ∧ w.cell? ⟨b, 1, none⟩ = some v1 ∧ w.cell? ⟨b, 2, none⟩ = some v2 ∧ w.cell? ⟨b, 3, none⟩ = some v3 ∧ w.cell? ⟨b, 4, none⟩ = some v4 ∧ w.cell? ⟨b, 5, none⟩ = some v5 ∧ w.cell? ⟨b, 6, none⟩ = some v6 :=
  ⟨(blk_cell h 0).trans rfl, (blk_cell h 1).trans rfl, (blk_cell h 2).trans rfl, (blk_cell h 3).trans rfl, (blk_cell h 4).trans rfl, (blk_cell h 5).trans rfl, (blk_cell h 6).trans rfl⟩
theorem refSame_none' (x : S28) : arbourref03_Same.f 6 x.f2.f0 x.f2.f1 x.f2.f2 x.f2.f3 false [] false [] = some (setNone x.f2) := refSame_none x.f2 6 (by omega)

set_option maxHeartbeats 8000000 in
set_option maxRecDepth 100000 in
theorem each_any (m : Nat) : ∀ (x : S28) (v : Value) (w : World), sz x = m → Each (fun y => FineS y.f2) x → XR w v x →
    Calls Try.prog 31 #[v] w fun e w' => e = .returned (.bool (allT x)) ∧ Below w.heap.size w w' := by
  induction m using Nat.strongRecOn with
  | _ m ih =>
  intro x v w hm hF hx
  have IH := Aside0.mk ih
  have HM := Aside0.mk hm
  have HF := Aside0.mk hF
  have HSame := Aside0.mk (refSame_none' x)
  have HRight := Aside0.mk (refRight_f x.f2 hF.here _ (Nat.le_refl _))
  have HSmall := Aside0.mk (refSmall_f x.f2)
  have HT := Aside0.mk (allT_eq x)
  have HO : Aside0 (oneT x = if x.f0 = 1 then (decide (0 ≤ x.f1) && decide (x.f1 < 4) && decide (x.f3.length = 0) && setOk x.f2 && setSmall x.f2)
    else if x.f0 = 2 then (decide (x.f1 = 0) && setNone x.f2) else if x.f0 = 3 then (decide (x.f1 = 0) && setNone x.f2) else if x.f0 = 4 then (decide (x.f1 = 0) && setNone x.f2) && decide (x.f3.length = 1) else false) := ⟨rfl⟩
  obtain ⟨A3, c3, A5, c5, A6, c6, rfl, l3, g3, l5, g5, l6, g6⟩ := hx
  have G3 := Aside0.mk (And.intro l3 g3)
  have G5 := Aside0.mk (And.intro l5 g5)
  have G6 := Aside0.mk (And.intro l6 g6)
  have HLEN := Aside0.mk (show (x.f3.length : Int) ≤ 9223372036854775807 by have := g6.2.1; omega)
  have hlen := HLEN.out
  clear ih hm hF l3 g3 l5 g5 l6 g6
  generalize allT x = res at *
  generalize oneT x = one at *
  generalize setNone x.f2 = sn at *
  generalize setOk x.f2 = so at *
  generalize setSmall x.f2 = ss at *
  by_cases k1 : x.f0 = 1
  · have K1 := Aside0.mk k1
    rw [k1]
    clear k1
    by_cases hlo : x.f1 < 0
    · have HH := Aside0.mk hlo
      go_enter Try.func31, Try.ntmps31
      go_wp2_with fail
      go_ret
      exact ⟨ret_bool (by rw [HT.out, HO.out]; simp [K1.out, show ¬ (0 ≤ x.f1) by have := HH.out; omega]), below_alloc (Below.refl _ _) _⟩
    · by_cases hhi : 3 < x.f1
      · have HH := Aside0.mk hhi
        go_enter Try.func31, Try.ntmps31
        go_wp2_with fail
        go_ret
        exact ⟨ret_bool (by rw [HT.out, HO.out]; simp [K1.out, show ¬ (x.f1 < 4) by have := HH.out; omega]), below_alloc (Below.refl _ _) _⟩
      · by_cases hl : x.f3.length = 0
        rotate_left
        · have HH := Aside0.mk hl
          have hne : ¬ x.f3 = [] := fun hh => hl (by rw [hh]; rfl)
          have hpos : (0 : Int) < (x.f3.length : Int) := by omega
          clear hl
          go_enter Try.func31, Try.ntmps31
          go_wp2_with fail
          go_ret
          exact ⟨ret_bool (by rw [HT.out, HO.out]; simp [K1.out, HH.out, hne]), below_alloc (Below.refl _ _) _⟩
        · have HH := Aside0.mk (And.intro (show 0 ≤ x.f1 by omega) (And.intro (show x.f1 < 4 by omega) hl))
          rw [hl]
          clear hl
          go_enter Try.func31, Try.ntmps31
          go_wp2_with fail
          refine (arbourref03_Right.calls _ _ _ _ _ _ _ _ _ _ _ (Kd.C_alloc G3.out.2 _) G3.out.1 (Kd.C_alloc G5.out.2 _) G5.out.1 HRight.out).mono ?_
          rintro e w1 ⟨rfl, hb1⟩
          have HB1 := Aside0.mk (below_step (below_alloc (Below.refl _ _) _) hb1)
          have HX1 := Aside0.mk (blk_below (heap_alloc_new w _) hb1)
          clear hb1
          cases so with
          | false =>
            go_wp2_with fail
            go_ret
            exact ⟨ret_bool (by rw [HT.out, HO.out]; simp [K1.out, HH.out.1, HH.out.2.1, HH.out.2.2]), HB1.out⟩
          | true =>
            obtain ⟨y0, y1, y2, y3, y4, y5, y6⟩ := ncells HX1.out
            go_wp2_with fail
            refine (arbourref03_Small.calls _ _ _ _ _ _ _ _ _ _ (Kd.C_below G3.out.2 HB1.out) G3.out.1 (Kd.C_below G5.out.2 HB1.out) G5.out.1 HSmall.out).mono ?_
            rintro e w2 ⟨rfl, hb2⟩
            have HB2 := Aside0.mk (below_step HB1.out hb2)
            have HX2 := Aside0.mk (blk_below HX1.out hb2)
            clear hb2 y0 y1 y2 y3 y4 y5 y6
            cases ss with
            | false =>
              go_wp2_with fail
              go_ret
              exact ⟨ret_bool (by rw [HT.out, HO.out]; simp [K1.out, HH.out.1, HH.out.2.1, HH.out.2.2]), HB2.out⟩
            | true =>
              have HONE : Aside0 (one = true) := ⟨by rw [HO.out]; simp [K1.out, HH.out.1, HH.out.2.1, HH.out.2.2]⟩
              obtain ⟨z0, z1, z2, z3, z4, z5, z6⟩ := ncells HX2.out
              go_wp2_with fail
              go_loopg [3] 0 (fun q v3 wr => v3 = .int .i64 0 ∧ Aside0 (Below w.heap.size w wr) ∧ Aside0 (wr.heap[w.heap.size]? = some (.cells #[.int .i64 1, .int .i64 x.f1, .bool x.f2.f0, .slice A3 x.f2.f1.length c3, .bool x.f2.f2, .slice A5 x.f2.f3.length c5, .slice A6 0 c6] 28 (0, 0))))
              case atStart => exact ⟨rfl, HB2, HX2⟩
              case round =>
                clear z0 z1 z2 z3 z4 z5 z6
                obtain ⟨rfl, HB, HX⟩ := hrel
                obtain ⟨z0, z1, z2, z3, z4, z5, z6⟩ := ncells HX.out
                go_wp2_with fail
                go_ret
                exact ⟨ret_bool (by rw [HT.out, HONE.out, List.eq_nil_of_length_eq_zero HH.out.2.2]; simp only [allL, Bool.true_and]), HB.out⟩
  · have HN1 := Aside0.mk k1
    have b1 : (x.f0 == 1) = false := by simpa using k1
    by_cases k2 : x.f0 = 2
    · have HK := Aside0.mk k2
      rw [k2]
      clear k1 b1 k2
      by_cases ha : x.f1 = 0
      · have HA := Aside0.mk ha
        rw [ha]
        clear ha
        go_enter Try.func31, Try.ntmps31
        go_wp2_with fail
        refine (arbourref03_Same.calls 6 _ _ _ _ _ _ _ _ _ none 0 [] _ none 0 [] sn _ (Kd.C_alloc G3.out.2 _) G3.out.1 (Kd.C_alloc G5.out.2 _) G5.out.1 (Kd.C_nil _ _) (Nat.le_refl _) (Kd.C_nil _ _) (Nat.le_refl _) HSame.out).mono ?_
        rintro e w1 ⟨rfl, hb1⟩
        have HB1 := Aside0.mk (below_step (below_alloc (Below.refl _ _) _) hb1)
        have HX1 := Aside0.mk (blk_below (heap_alloc_new w _) hb1)
        clear hb1
        obtain ⟨y0, y1, y2, y3, y4, y5, y6⟩ := ncells HX1.out
        cases sn with
        | false =>
            go_wp2_with fail
            go_ret
            exact ⟨ret_bool (by rw [HT.out, HO.out]; simp [HK.out, HA.out]), HB1.out⟩
          | true =>
            clear y0 y1 y2 y3 y4 y5 y6
            have HONE : Aside0 (one = true) := ⟨by rw [HO.out]; simp [HK.out, HA.out]⟩
            obtain ⟨z0, z1, z2, z3, z4, z5, z6⟩ := ncells HX1.out
            go_wp2_with fail
            go_loopg [3] x.f3.length (fun q v3 wr => ∃ (i : Nat), v3 = .int .i64 i ∧ q + i = x.f3.length ∧ Aside0 (Below w.heap.size w wr) ∧ Aside0 (wr.heap[w.heap.size]? = some (.cells #[.int .i64 2, .int .i64 0, .bool x.f2.f0, .slice A3 x.f2.f1.length c3, .bool x.f2.f2, .slice A5 x.f2.f3.length c5, .slice A6 x.f3.length c6] 28 (0, 0))) ∧ Aside0 (allL x.f3 = allL (x.f3.drop i)))
            case atStart => exact ⟨0, rfl, by omega, HB1, HX1, ⟨by rw [List.drop_zero]⟩⟩
            case round =>
              clear z0 z1 z2 z3 z4 z5 z6
              obtain ⟨i, rfl, hq, HB, HX, HL⟩ := hrel
              have HQ := Aside0.mk hq
              clear hq
              obtain ⟨wl, hwl⟩ : ∃ wl : World, wl = wr := ⟨_, rfl⟩
              subst hwl
              obtain ⟨z0, z1, z2, z3, z4, z5, z6⟩ := ncells HX.out
              by_cases hi : i < x.f3.length
              · have hi' : (i : Int) < (x.f3.length : Int) := by omega
                obtain ⟨ad, B3, d3, B5, d5, B6, d6, ead, q0, q1, q2, q3, q4, q5, q6, m3, f3, m5, f5, m6, f6⟩ := at_T28 (Kd.C_below G6.out.2 HB.out) (i : Int) (by omega) (by omega)
                cases ead
                rw [Int.toNat_natCast] at q0 q1 q2 q3 q4 q5 q6
                have hmem := rd28_in x.f3 i hi
                have HLC := Aside0.mk (allL_drop x.f3 i hi)
                generalize rd_T28 x.f3 (i : Int) = y at *
                have HLT := Aside0.mk (show sz y < m by rw [← HM.out]; exact sub_lt hmem)
                have HFY := Aside0.mk (HF.out.sub hmem)
                have HXR := Aside0.mk (show XR wl (.agg #[.int .i64 y.f0, .int .i64 y.f1, .bool y.f2.f0, .slice B3 y.f2.f1.length d3, .bool y.f2.f2, .slice B5 y.f2.f3.length d5, .slice B6 y.f3.length d6]) y from ⟨B3, d3, B5, d5, B6, d6, rfl, m3, f3, m5, f5, m6, f6⟩)
                clear hmem m3 f3 m5 f5 m6 f6
                go_wp2_with fail
                refine (IH.out (sz y) HLT.out y _ _ rfl HFY.out HXR.out).mono ?_
                rintro e w8 ⟨rfl, hb8⟩
                have HB8 := Aside0.mk (below_step HB.out hb8)
                have HX8 := Aside0.mk (blk_below HX.out hb8)
                clear hb8 z0 z1 z2 z3 z4 z5 z6 q0 q1 q2 q3 q4 q5 q6
                cases hy : allT y with
                | false =>
                  have HY := Aside0.mk hy
                  clear hy
                  go_wp2_with fail
                  go_ret
                  exact ⟨ret_bool (by rw [HT.out, HL.out, HLC.out, HY.out]; simp), HB8.out⟩
                | true =>
                  have HY := Aside0.mk hy
                  clear hy
                  go_wp2_with fail
                  go_roundg (x.f3.length - (i + 1))
                  case measure => have := HQ.out; omega
                  case rel => exact ⟨i + 1, by go_num, by omega, HB8, HX8, ⟨by rw [HL.out, HLC.out, HY.out, Bool.true_and]⟩⟩
              · have hi' : ¬ (i : Int) < (x.f3.length : Int) := by omega
                have HI := Aside0.mk hi
                clear hi
                go_wp2_with fail
                go_ret
                refine ⟨ret_bool ?_, HB.out⟩
                rw [HT.out, HONE.out, HL.out, List.drop_of_length_le (by have := HI.out; omega)]
                simp only [allL, Bool.true_and]
      · have HA := Aside0.mk ha
        have ha1 : (x.f1 == 0) = false := by simpa using ha
        have ha2 : (x.f1 != 0) = true := by simpa using ha
        clear ha
        go_enter Try.func31, Try.ntmps31
        go_wp2_with fail
        go_ret
        exact ⟨ret_bool (by rw [HT.out, HO.out]; simp [HK.out, HA.out]), below_alloc (Below.refl _ _) _⟩
    · have HN2 := Aside0.mk k2
      have b2 : (x.f0 == 2) = false := by simpa using k2
      by_cases k3 : x.f0 = 3
      · have HK := Aside0.mk k3
        rw [k3]
        clear k1 b1 k2 b2 k3
        by_cases ha : x.f1 = 0
        · have HA := Aside0.mk ha
          rw [ha]
          clear ha
          go_enter Try.func31, Try.ntmps31
          go_wp2_with fail
          refine (arbourref03_Same.calls 6 _ _ _ _ _ _ _ _ _ none 0 [] _ none 0 [] sn _ (Kd.C_alloc G3.out.2 _) G3.out.1 (Kd.C_alloc G5.out.2 _) G5.out.1 (Kd.C_nil _ _) (Nat.le_refl _) (Kd.C_nil _ _) (Nat.le_refl _) HSame.out).mono ?_
          rintro e w1 ⟨rfl, hb1⟩
          have HB1 := Aside0.mk (below_step (below_alloc (Below.refl _ _) _) hb1)
          have HX1 := Aside0.mk (blk_below (heap_alloc_new w _) hb1)
          clear hb1
          obtain ⟨y0, y1, y2, y3, y4, y5, y6⟩ := ncells HX1.out
          cases sn with
          | false =>
              go_wp2_with fail
              go_ret
              exact ⟨ret_bool (by rw [HT.out, HO.out]; simp [HK.out, HA.out]), HB1.out⟩
            | true =>
              clear y0 y1 y2 y3 y4 y5 y6
              have HONE : Aside0 (one = true) := ⟨by rw [HO.out]; simp [HK.out, HA.out]⟩
              obtain ⟨z0, z1, z2, z3, z4, z5, z6⟩ := ncells HX1.out
              go_wp2_with fail
              go_loopg [3] x.f3.length (fun q v3 wr => ∃ (i : Nat), v3 = .int .i64 i ∧ q + i = x.f3.length ∧ Aside0 (Below w.heap.size w wr) ∧ Aside0 (wr.heap[w.heap.size]? = some (.cells #[.int .i64 3, .int .i64 0, .bool x.f2.f0, .slice A3 x.f2.f1.length c3, .bool x.f2.f2, .slice A5 x.f2.f3.length c5, .slice A6 x.f3.length c6] 28 (0, 0))) ∧ Aside0 (allL x.f3 = allL (x.f3.drop i)))
              case atStart => exact ⟨0, rfl, by omega, HB1, HX1, ⟨by rw [List.drop_zero]⟩⟩
              case round =>
                clear z0 z1 z2 z3 z4 z5 z6
                obtain ⟨i, rfl, hq, HB, HX, HL⟩ := hrel
                have HQ := Aside0.mk hq
                clear hq
                obtain ⟨wl, hwl⟩ : ∃ wl : World, wl = wr := ⟨_, rfl⟩
                subst hwl
                obtain ⟨z0, z1, z2, z3, z4, z5, z6⟩ := ncells HX.out
                by_cases hi : i < x.f3.length
                · have hi' : (i : Int) < (x.f3.length : Int) := by omega
                  obtain ⟨ad, B3, d3, B5, d5, B6, d6, ead, q0, q1, q2, q3, q4, q5, q6, m3, f3, m5, f5, m6, f6⟩ := at_T28 (Kd.C_below G6.out.2 HB.out) (i : Int) (by omega) (by omega)
                  cases ead
                  rw [Int.toNat_natCast] at q0 q1 q2 q3 q4 q5 q6
                  have hmem := rd28_in x.f3 i hi
                  have HLC := Aside0.mk (allL_drop x.f3 i hi)
                  generalize rd_T28 x.f3 (i : Int) = y at *
                  have HLT := Aside0.mk (show sz y < m by rw [← HM.out]; exact sub_lt hmem)
                  have HFY := Aside0.mk (HF.out.sub hmem)
                  have HXR := Aside0.mk (show XR wl (.agg #[.int .i64 y.f0, .int .i64 y.f1, .bool y.f2.f0, .slice B3 y.f2.f1.length d3, .bool y.f2.f2, .slice B5 y.f2.f3.length d5, .slice B6 y.f3.length d6]) y from ⟨B3, d3, B5, d5, B6, d6, rfl, m3, f3, m5, f5, m6, f6⟩)
                  clear hmem m3 f3 m5 f5 m6 f6
                  go_wp2_with fail
                  refine (IH.out (sz y) HLT.out y _ _ rfl HFY.out HXR.out).mono ?_
                  rintro e w8 ⟨rfl, hb8⟩
                  have HB8 := Aside0.mk (below_step HB.out hb8)
                  have HX8 := Aside0.mk (blk_below HX.out hb8)
                  clear hb8 z0 z1 z2 z3 z4 z5 z6 q0 q1 q2 q3 q4 q5 q6
                  cases hy : allT y with
                  | false =>
                    have HY := Aside0.mk hy
                    clear hy
                    go_wp2_with fail
                    go_ret
                    exact ⟨ret_bool (by rw [HT.out, HL.out, HLC.out, HY.out]; simp), HB8.out⟩
                  | true =>
                    have HY := Aside0.mk hy
                    clear hy
                    go_wp2_with fail
                    go_roundg (x.f3.length - (i + 1))
                    case measure => have := HQ.out; omega
                    case rel => exact ⟨i + 1, by go_num, by omega, HB8, HX8, ⟨by rw [HL.out, HLC.out, HY.out, Bool.true_and]⟩⟩
                · have hi' : ¬ (i : Int) < (x.f3.length : Int) := by omega
                  have HI := Aside0.mk hi
                  clear hi
                  go_wp2_with fail
                  go_ret
                  refine ⟨ret_bool ?_, HB.out⟩
                  rw [HT.out, HONE.out, HL.out, List.drop_of_length_le (by have := HI.out; omega)]
                  simp only [allL, Bool.true_and]
        · have HA := Aside0.mk ha
          have ha1 : (x.f1 == 0) = false := by simpa using ha
          have ha2 : (x.f1 != 0) = true := by simpa using ha
          clear ha
          go_enter Try.func31, Try.ntmps31
          go_wp2_with fail
          go_ret
          exact ⟨ret_bool (by rw [HT.out, HO.out]; simp [HK.out, HA.out]), below_alloc (Below.refl _ _) _⟩
      · have HN3 := Aside0.mk k3
        have b3 : (x.f0 == 3) = false := by simpa using k3
        by_cases k4 : x.f0 = 4
        · have HK := Aside0.mk k4
          rw [k4]
          clear k1 b1 k2 b2 k3 b3 k4
          by_cases ha : x.f1 = 0
          · have HA := Aside0.mk ha
            rw [ha]
            clear ha
            go_enter Try.func31, Try.ntmps31
            go_wp2_with fail
            refine (arbourref03_Same.calls 6 _ _ _ _ _ _ _ _ _ none 0 [] _ none 0 [] sn _ (Kd.C_alloc G3.out.2 _) G3.out.1 (Kd.C_alloc G5.out.2 _) G5.out.1 (Kd.C_nil _ _) (Nat.le_refl _) (Kd.C_nil _ _) (Nat.le_refl _) HSame.out).mono ?_
            rintro e w1 ⟨rfl, hb1⟩
            have HB1 := Aside0.mk (below_step (below_alloc (Below.refl _ _) _) hb1)
            have HX1 := Aside0.mk (blk_below (heap_alloc_new w _) hb1)
            clear hb1
            obtain ⟨y0, y1, y2, y3, y4, y5, y6⟩ := ncells HX1.out
            cases sn with
            | false =>
                go_wp2_with fail
                go_ret
                exact ⟨ret_bool (by rw [HT.out, HO.out]; simp [HK.out, HA.out]), HB1.out⟩
              | true =>
                by_cases hl : x.f3.length = 1
                · have HL1 := Aside0.mk hl
                  have hl1 : ((x.f3.length : Int) == 1) = true := by simp; omega
                  have hl2 : ((x.f3.length : Int) != 1) = false := by simp; omega
                  clear hl y0 y1 y2 y3 y4 y5 y6
                  have HONE : Aside0 (one = true) := ⟨by rw [HO.out]; simp [HK.out, HA.out, HL1.out]⟩
                  obtain ⟨z0, z1, z2, z3, z4, z5, z6⟩ := ncells HX1.out
                  go_wp2_with fail
                  go_loopg [3] x.f3.length (fun q v3 wr => ∃ (i : Nat), v3 = .int .i64 i ∧ q + i = x.f3.length ∧ Aside0 (Below w.heap.size w wr) ∧ Aside0 (wr.heap[w.heap.size]? = some (.cells #[.int .i64 4, .int .i64 0, .bool x.f2.f0, .slice A3 x.f2.f1.length c3, .bool x.f2.f2, .slice A5 x.f2.f3.length c5, .slice A6 x.f3.length c6] 28 (0, 0))) ∧ Aside0 (allL x.f3 = allL (x.f3.drop i)))
                  case atStart => exact ⟨0, rfl, by omega, HB1, HX1, ⟨by rw [List.drop_zero]⟩⟩
                  case round =>
                    clear z0 z1 z2 z3 z4 z5 z6
                    obtain ⟨i, rfl, hq, HB, HX, HL⟩ := hrel
                    have HQ := Aside0.mk hq
                    clear hq
                    obtain ⟨wl, hwl⟩ : ∃ wl : World, wl = wr := ⟨_, rfl⟩
                    subst hwl
                    obtain ⟨z0, z1, z2, z3, z4, z5, z6⟩ := ncells HX.out
                    by_cases hi : i < x.f3.length
                    · have hi' : (i : Int) < (x.f3.length : Int) := by omega
                      obtain ⟨ad, B3, d3, B5, d5, B6, d6, ead, q0, q1, q2, q3, q4, q5, q6, m3, f3, m5, f5, m6, f6⟩ := at_T28 (Kd.C_below G6.out.2 HB.out) (i : Int) (by omega) (by omega)
                      cases ead
                      rw [Int.toNat_natCast] at q0 q1 q2 q3 q4 q5 q6
                      have hmem := rd28_in x.f3 i hi
                      have HLC := Aside0.mk (allL_drop x.f3 i hi)
                      generalize rd_T28 x.f3 (i : Int) = y at *
                      have HLT := Aside0.mk (show sz y < m by rw [← HM.out]; exact sub_lt hmem)
                      have HFY := Aside0.mk (HF.out.sub hmem)
                      have HXR := Aside0.mk (show XR wl (.agg #[.int .i64 y.f0, .int .i64 y.f1, .bool y.f2.f0, .slice B3 y.f2.f1.length d3, .bool y.f2.f2, .slice B5 y.f2.f3.length d5, .slice B6 y.f3.length d6]) y from ⟨B3, d3, B5, d5, B6, d6, rfl, m3, f3, m5, f5, m6, f6⟩)
                      clear hmem m3 f3 m5 f5 m6 f6
                      go_wp2_with fail
                      refine (IH.out (sz y) HLT.out y _ _ rfl HFY.out HXR.out).mono ?_
                      rintro e w8 ⟨rfl, hb8⟩
                      have HB8 := Aside0.mk (below_step HB.out hb8)
                      have HX8 := Aside0.mk (blk_below HX.out hb8)
                      clear hb8 z0 z1 z2 z3 z4 z5 z6 q0 q1 q2 q3 q4 q5 q6
                      cases hy : allT y with
                      | false =>
                        have HY := Aside0.mk hy
                        clear hy
                        go_wp2_with fail
                        go_ret
                        exact ⟨ret_bool (by rw [HT.out, HL.out, HLC.out, HY.out]; simp), HB8.out⟩
                      | true =>
                        have HY := Aside0.mk hy
                        clear hy
                        go_wp2_with fail
                        go_roundg (x.f3.length - (i + 1))
                        case measure => have := HQ.out; omega
                        case rel => exact ⟨i + 1, by go_num, by omega, HB8, HX8, ⟨by rw [HL.out, HLC.out, HY.out, Bool.true_and]⟩⟩
                    · have hi' : ¬ (i : Int) < (x.f3.length : Int) := by omega
                      have HI := Aside0.mk hi
                      clear hi
                      go_wp2_with fail
                      go_ret
                      refine ⟨ret_bool ?_, HB.out⟩
                      rw [HT.out, HONE.out, HL.out, List.drop_of_length_le (by have := HI.out; omega)]
                      simp only [allL, Bool.true_and]
                · have HL1 := Aside0.mk hl
                  have hl1 : ((x.f3.length : Int) == 1) = false := by simp; omega
                  have hl2 : ((x.f3.length : Int) != 1) = true := by simp; omega
                  go_wp2_with fail
                  go_ret
                  exact ⟨ret_bool (by rw [HT.out, HO.out]; simp [HK.out, HA.out, HL1.out]), HB1.out⟩
          · have HA := Aside0.mk ha
            have ha1 : (x.f1 == 0) = false := by simpa using ha
            have ha2 : (x.f1 != 0) = true := by simpa using ha
            clear ha
            go_enter Try.func31, Try.ntmps31
            go_wp2_with fail
            go_ret
            exact ⟨ret_bool (by rw [HT.out, HO.out]; simp [HK.out, HA.out]), below_alloc (Below.refl _ _) _⟩
        · have HN4 := Aside0.mk k4
          have b4 : (x.f0 == 4) = false := by simpa using k4
          clear k1 k2 k3 k4
          go_enter Try.func31, Try.ntmps31
          go_wp2_with fail
          go_ret
          exact ⟨ret_bool (by rw [HT.out, HO.out]; simp [HN1.out, HN2.out, HN3.out, HN4.out]), below_alloc (Below.refl _ _) _⟩
theorem count_any (x : S28) (v : Value) (w : World) (hs : SmallX x) (hx : XR w v x) : Calls Try.prog 12 #[v, .int .i64 0] w fun e w' => e = .returned (.int .i64 (sz x)) ∧ Below w.heap.size w w' := by
  obtain ⟨A3, c3, A5, c5, A6, c6, rfl, l3, g3, l5, g5, l6, g6⟩ := hx
  exact arbourref05_Count.calls 300 _ _ _ _ _ _ _ _ _ _ _ _ _ _ _ _ g3 l3 g5 l5 g6 l6 (count_small x hs 300 (Nat.le_refl _))
theorem deep_any (x : S28) (v : Value) (w : World) (hs : SmallX x) (hx : XR w v x) : Calls Try.prog 13 #[v, .int .i64 0] w fun e w' => e = .returned (.int .i64 (dp x)) ∧ Below w.heap.size w w' := by
  obtain ⟨A3, c3, A5, c5, A6, c6, rfl, l3, g3, l5, g5, l6, g6⟩ := hx
  exact arbourref05_Deep.calls 300 _ _ _ _ _ _ _ _ _ _ _ _ _ _ _ _ g3 l3 g5 l5 g6 l6 (deep_small x hs 300 (Nat.le_refl _))
theorem fits_any (x : S28) (v : Value) (w : World) (hs : SmallX x) (hx : XR w v x) : Calls Try.prog 14 #[v] w fun e w' => e = .returned (.bool (fitsT x)) ∧ Below w.heap.size w w' := by
  obtain ⟨A3, c3, A5, c5, A6, c6, rfl, l3, g3, l5, g5, l6, g6⟩ := hx
  exact arbourref05_Fits.calls 300 _ _ _ _ _ _ _ _ _ _ _ _ _ _ _ g3 l3 g5 l5 g6 l6 (fits_small x hs 300 (Nat.le_refl _))
theorem few_any (x : S28) (v : Value) (w : World) (hx : XR w v x) : Calls Try.prog 10 #[v] w fun e w' => (∃ b, e = .returned (.bool b) ∧ (b = true → SmallX x)) ∧ Below w.heap.size w w' := by
  obtain ⟨A3, c3, A5, c5, A6, c6, rfl, l3, g3, l5, g5, l6, g6⟩ := hx
  obtain ⟨b, e, hb⟩ := few_f x _ (Nat.le_refl _)
  exact (arbourref05_Few.calls _ _ _ _ _ _ _ _ _ _ _ _ _ _ b _ g3 l3 g5 l5 g6 l6 e).mono (fun _ _ h => ⟨⟨b, h.1, hb⟩, h.2⟩)
set_option maxHeartbeats 4000000 in
set_option maxRecDepth 100000 in
theorem refright_any (x : S28) (v : Value) (w : World) (hs : SmallX x) (hF : Each (fun y => FineS y.f2) x) (hx : XR w v x) : Calls Try.prog 16 #[v] w fun e w' => e = .returned (.bool (rightT x)) ∧ Below w.heap.size w w' := by
  have HF := Aside0.mk hF
  have HS := Aside0.mk hs
  have HR : Aside0 (rightT x = (fitsT x && allT x)) := ⟨rfl⟩
  have HX := Aside0.mk hx
  obtain ⟨A3, c3, A5, c5, A6, c6, rfl, l3, g3, l5, g5, l6, g6⟩ := hx
  clear hs hF l3 g3 l5 g5 l6 g6
  go_enter Try.func16, Try.ntmps16
  go_wp2_with fail
  refine (fits_any x _ _ HS.out (HX.out.below (below_alloc (Below.refl _ _) _))).mono ?_
  rintro e w1 ⟨rfl, hb1⟩
  have HB1 := Aside0.mk (below_step (below_alloc (Below.refl _ _) _) hb1)
  have HX1 := Aside0.mk (blk_below (heap_alloc_new w _) hb1)
  clear hb1
  cases hf : fitsT x with
  | false =>
    have HZ := Aside0.mk hf
    clear hf
    go_wp2_with fail
    go_ret
    exact ⟨ret_bool (by rw [HR.out, HZ.out]; rfl), HB1.out⟩
  | true =>
    have HZ := Aside0.mk hf
    clear hf
    obtain ⟨z0, z1, z2, z3, z4, z5, z6⟩ := ncells HX1.out
    go_wp2_with fail
    refine (each_any _ x _ _ rfl HF.out (HX.out.below HB1.out)).mono ?_
    rintro e w2 ⟨rfl, hb2⟩
    have HB2 := Aside0.mk (below_step HB1.out hb2)
    clear hb2
    go_wp2_with fail
    go_ret
    exact ⟨ret_bool (by rw [HR.out, HZ.out]; rfl), HB2.out⟩
end Go.Proofs.Ytjkhajcngapjcaa.Q
