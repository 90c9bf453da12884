/- expr.one: what it comes to. -/
import Derived.Test.YtjkhajcngapjcaaEU
import Derived.Test.YtjkhajcngapjcaaEE
import Derived.Outline
namespace Go.Proofs.Ytjkhajcngapjcaa.Q
open Go.RowKit Go.Proofs.YtjkhajcngapjcaaW.PrintWords Go.Proofs.YtjkhajcngapjcaaW.PrintLast Go.Proofs.YtjkhajcngapjcaaW.PrintMore
set_option linter.unusedVariables false
set_option linter.unusedSimpArgs false

set_option maxHeartbeats 4000000 in
set_option maxRecDepth 100000 in
theorem one_any (x : S28) (p : Addr) (w : World) (hf : FineS x.f2) (hN : NodeAt w p x) : Calls Try.prog 43 #[.pointer (some p)] w fun e w' => e = .returned (.bool (oneT x)) ∧ Below w.heap.size w w' := by
  have HN := Aside0.mk hN
  have HSame := Aside0.mk (same_none x.f2 6 (by omega))
  have HRight := Aside0.mk (setRight_f x.f2 hf _ (Nat.le_refl _))
  have HSmall := Aside0.mk (small_f x.f2)
  have HT : Aside0 (oneT x = if x.f0 = 1 then (decide (0 ≤ x.f1) && decide (x.f1 < 4) && decide (x.f3.length = 0) && setOk x.f2 && setSmall x.f2)
    else if x.f0 = 2 then (decide (x.f1 = 0) && setNone x.f2) else if x.f0 = 3 then (decide (x.f1 = 0) && setNone x.f2) else if x.f0 = 4 then (decide (x.f1 = 0) && setNone x.f2) && decide (x.f3.length = 1) else false) := ⟨rfl⟩
  generalize oneT x = res at *
  generalize setNone x.f2 = sn at *
  generalize setOk x.f2 = so at *
  generalize setSmall x.f2 = ss at *
  obtain ⟨A3, c3, A5, c5, A6, c6, h0, h1, h2, h3, h4, h5, h6, l3, g3, l5, g5, l6, g6⟩ := HN.out
  have G3 := Aside0.mk (And.intro l3 g3)
  have G5 := Aside0.mk (And.intro l5 g5)
  have HL := Aside0.mk (show (x.f3.length : Int) ≤ 9223372036854775807 by have := g6.2.1; omega)
  clear hf hN l3 g3 l5 g5 l6 g6

  by_cases ha : x.f1 = 0
  · have HA := Aside0.mk ha
    rw [ha] at h1
    clear ha
    go_enter Try.func43, Try.ntmps43
    go_wp2_with fail
    refine (set_Same.calls 6 _ _ _ _ _ _ _ _ _ none 0 [] _ none 0 [] sn _ G3.out.2 G3.out.1 G5.out.2 G5.out.1 (Kd.C_nil _ _) (Nat.le_refl _) (Kd.C_nil _ _) (Nat.le_refl _) HSame.out).mono ?_
    rintro e w1 ⟨rfl, hb1⟩
    have HB1 := Aside0.mk hb1
    have HC := Aside0.mk (And.intro (pw_cell_below hb1 h0) (And.intro (pw_cell_below hb1 h1) (And.intro (pw_cell_below hb1 h2) (And.intro (pw_cell_below hb1 h3) (And.intro (pw_cell_below hb1 h4) (And.intro (pw_cell_below hb1 h5) (pw_cell_below hb1 h6)))))))
    clear h0 h1 h2 h3 h4 h5 h6
    obtain ⟨h0, h1, h2, h3, h4, h5, h6⟩ := HC.out
    clear hb1
    by_cases k1 : x.f0 = 1
    · have K1 := Aside0.mk k1
      rw [k1] at h0
      clear k1
      by_cases hl : x.f3.length = 0
      · have HL1 := Aside0.mk hl
        rw [hl] at h6
        clear hl
        go_wp2_with fail
        refine (set_Right.calls _ _ _ _ _ _ _ _ _ _ _ (Kd.C_below G3.out.2 HB1.out) G3.out.1 (Kd.C_below G5.out.2 HB1.out) G5.out.1 HRight.out).mono ?_
        rintro e w2 ⟨rfl, hb2⟩
        have HC := Aside0.mk (And.intro (pw_cell_below hb2 h0) (And.intro (pw_cell_below hb2 h1) (And.intro (pw_cell_below hb2 h2) (And.intro (pw_cell_below hb2 h3) (And.intro (pw_cell_below hb2 h4) (And.intro (pw_cell_below hb2 h5) (pw_cell_below hb2 h6)))))))
        clear h0 h1 h2 h3 h4 h5 h6
        obtain ⟨h0, h1, h2, h3, h4, h5, h6⟩ := HC.out
        have HB2 := Aside0.mk (below_step HB1.out hb2)
        clear hb2
        cases so with
        | false =>
          go_wp2_with fail
          go_ret
          exact ⟨ret_bool (by rw [HT.out]; simp [K1.out, HL1.out, HA.out]), HB2.out⟩
        | true =>
          go_wp2_with fail
          refine (set_Small.calls _ _ _ _ _ _ _ _ _ _ (Kd.C_below G3.out.2 HB2.out) G3.out.1 (Kd.C_below G5.out.2 HB2.out) G5.out.1 HSmall.out).mono ?_
          rintro e w3 ⟨rfl, hb3⟩
          have HB3 := Aside0.mk (below_step HB2.out hb3)
          clear hb3
          go_wp2_with fail
          go_ret
          exact ⟨ret_bool (by rw [HT.out]; simp [K1.out, HL1.out, HA.out]), HB3.out⟩
      · have HL1 := Aside0.mk hl
        have hlb : ((x.f3.length : Int) == 0) = false := by simp; exact fun hh => HL1.out (by rw [hh]; rfl)
        clear hl
        go_wp2_with fail
        go_ret
        exact ⟨ret_bool (by rw [HT.out]; simp [K1.out, HL1.out, HA.out]), HB1.out⟩
    · by_cases k2 : x.f0 = 2
      · have K2 := Aside0.mk k2
        rw [k2] at h0
        clear k1 k2
        go_wp2_with fail
        go_ret
        exact ⟨ret_bool (by rw [HT.out]; simp [K2.out, HA.out]), HB1.out⟩
      · by_cases k3 : x.f0 = 3
        · have K3 := Aside0.mk k3
          rw [k3] at h0
          clear k1 k2 k3
          go_wp2_with fail
          go_ret
          exact ⟨ret_bool (by rw [HT.out]; simp [K3.out, HA.out]), HB1.out⟩
        · by_cases k4 : x.f0 = 4
          · have K4 := Aside0.mk k4
            rw [k4] at h0
            clear k1 k2 k3 k4
            cases sn with
            | false =>
              go_wp2_with fail
              go_ret
              exact ⟨ret_bool (by rw [HT.out]; simp [K4.out, HA.out]), HB1.out⟩
            | true =>
              by_cases hl : x.f3.length = 1
              · have HL1 := Aside0.mk hl
                rw [hl] at h6
                clear hl
                go_wp2_with fail
                go_ret
                exact ⟨ret_bool (by rw [HT.out]; simp [K4.out, HA.out, HL1.out]), HB1.out⟩
              · have HL1 := Aside0.mk hl
                have hlb : ((x.f3.length : Int) == 1) = false := by simp; omega
                go_wp2_with fail
                go_ret
                exact ⟨ret_bool (by rw [HT.out]; simp [K4.out, HA.out, HL1.out]), HB1.out⟩
          · have HK := Aside0.mk (And.intro k1 (And.intro k2 (And.intro k3 k4)))
            have b1 : (x.f0 == 1) = false := by simpa using k1
            have b2 : (x.f0 == 2) = false := by simpa using k2
            have b3 : (x.f0 == 3) = false := by simpa using k3
            have b4 : (x.f0 == 4) = false := by simpa using k4
            clear k1 k2 k3 k4
            go_wp2_with fail
            go_ret
            exact ⟨ret_bool (by rw [HT.out]; simp [HK.out.1, HK.out.2.1, HK.out.2.2.1, HK.out.2.2.2]), HB1.out⟩
  · have HA := Aside0.mk ha
    have hab : (x.f1 == 0) = false := by simpa using ha
    clear ha
    have HB0 := Aside0.mk (Below.refl w.heap.size w)
    go_enter Try.func43, Try.ntmps43
    by_cases k1 : x.f0 = 1
    · have K1 := Aside0.mk k1
      rw [k1] at h0
      clear k1
      by_cases hlo : 0 ≤ x.f1
      · by_cases hhi : x.f1 < 4
        · by_cases hl : x.f3.length = 0
          · have HL1 := Aside0.mk hl
            rw [hl] at h6
            clear hl
            go_wp2_with fail
            refine (set_Right.calls _ _ _ _ _ _ _ _ _ _ _ (Kd.C_below G3.out.2 HB0.out) G3.out.1 (Kd.C_below G5.out.2 HB0.out) G5.out.1 HRight.out).mono ?_
            rintro e w2 ⟨rfl, hb2⟩
            have HC := Aside0.mk (And.intro (pw_cell_below hb2 h0) (And.intro (pw_cell_below hb2 h1) (And.intro (pw_cell_below hb2 h2) (And.intro (pw_cell_below hb2 h3) (And.intro (pw_cell_below hb2 h4) (And.intro (pw_cell_below hb2 h5) (pw_cell_below hb2 h6)))))))
            clear h0 h1 h2 h3 h4 h5 h6
            obtain ⟨h0, h1, h2, h3, h4, h5, h6⟩ := HC.out
            have HB2 := Aside0.mk (below_step HB0.out hb2)
            clear hb2
            cases so with
            | false =>
              go_wp2_with fail
              go_ret
              exact ⟨ret_bool (by rw [HT.out]; simp [K1.out, HL1.out, hlo, hhi]), HB2.out⟩
            | true =>
              go_wp2_with fail
              refine (set_Small.calls _ _ _ _ _ _ _ _ _ _ (Kd.C_below G3.out.2 HB2.out) G3.out.1 (Kd.C_below G5.out.2 HB2.out) G5.out.1 HSmall.out).mono ?_
              rintro e w3 ⟨rfl, hb3⟩
              have HB3 := Aside0.mk (below_step HB2.out hb3)
              clear hb3
              go_wp2_with fail
              go_ret
              exact ⟨ret_bool (by rw [HT.out]; simp [K1.out, HL1.out, hlo, hhi]), HB3.out⟩
          · have HL1 := Aside0.mk hl
            have hlb : ((x.f3.length : Int) == 0) = false := by simp; exact fun hh => HL1.out (by rw [hh]; rfl)
            clear hl
            go_wp2_with fail
            go_ret
            exact ⟨ret_bool (by rw [HT.out]; simp [K1.out, HL1.out, hlo, hhi]), HB0.out⟩
        · have HH := Aside0.mk hhi
          go_wp2_with fail
          go_ret
          exact ⟨ret_bool (by rw [HT.out]; simp [K1.out, hlo, show ¬ (x.f1 < 4) by have := HH.out; omega]), HB0.out⟩
      · have HH := Aside0.mk hlo
        go_wp2_with fail
        go_ret
        exact ⟨ret_bool (by rw [HT.out]; simp [K1.out, show ¬ (0 ≤ x.f1) by have := HH.out; omega]), HB0.out⟩
    · by_cases k2 : x.f0 = 2
      · have K2 := Aside0.mk k2
        rw [k2] at h0
        clear k1 k2
        go_wp2_with fail
        go_ret
        exact ⟨ret_bool (by rw [HT.out]; simp [K2.out, HA.out]), HB0.out⟩
      · by_cases k3 : x.f0 = 3
        · have K3 := Aside0.mk k3
          rw [k3] at h0
          clear k1 k2 k3
          go_wp2_with fail
          go_ret
          exact ⟨ret_bool (by rw [HT.out]; simp [K3.out, HA.out]), HB0.out⟩
        · by_cases k4 : x.f0 = 4
          · have K4 := Aside0.mk k4
            rw [k4] at h0
            clear k1 k2 k3 k4
            go_wp2_with fail
            go_ret
            exact ⟨ret_bool (by rw [HT.out]; simp [K4.out, HA.out]), HB0.out⟩
          · have HK := Aside0.mk (And.intro k1 (And.intro k2 (And.intro k3 k4)))
            have b1 : (x.f0 == 1) = false := by simpa using k1
            have b2 : (x.f0 == 2) = false := by simpa using k2
            have b3 : (x.f0 == 3) = false := by simpa using k3
            have b4 : (x.f0 == 4) = false := by simpa using k4
            clear k1 k2 k3 k4
            go_wp2_with fail
            go_ret
            exact ⟨ret_bool (by rw [HT.out]; simp [HK.out.1, HK.out.2.1, HK.out.2.2.1, HK.out.2.2.2]), HB0.out⟩
end Go.Proofs.Ytjkhajcngapjcaa.Q
