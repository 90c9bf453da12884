/- The reference's reader, its Uint and Int: they read and leave what the program's do. -/
import Derived.Test.YthijblakadifiaaRef
namespace Go.Proofs.Ythijblakadifiaa
open Go.RowKit

set_option maxHeartbeats 400000 in
theorem ruint_stopped (b : Nat) (S : List UInt8) (l : List UInt8) (e0 : Int) (he : e0 ≠ 0) (w : World) (h : RRs w b S l e0) : Calls Try.prog 24 #[.pointer (some ⟨b, 0, none⟩)] w fun e w' => e = .returned (.int .u64 0) ∧ RRs w' b S l e0 ∧ w.grownBy w' (some b) := by
  have hl : l = [] := by obtain ⟨k, _, _, _, h1⟩ := h; exact h1 he
  subst hl
  have he2 : (e0 != 0) = true := by simpa using he
  have H := hide h
  have HE := hide he
  clear h he
  go_enter Try.func24, Try.ntmps24
  go_wp2
  refine wp_loop_rounds 1 ?_
  rw [rounds_succ]
  go_wp2_with fail
  refine (rbyte_nil _ _ _ _ H.out).mono ?_
  rw [if_neg HE.out]
  rintro e w1 ⟨rfl, hr, hg⟩
  have c2 := hr.c2
  go_wp2_with fail
  go_ret
  exact ⟨rfl, hr, hg⟩

set_option maxHeartbeats 2000000 in
set_option maxRecDepth 100000 in
theorem ruint_on (b : Nat) (S : List UInt8) (hS : S.length ≤ 4611686018427387903) (l : List UInt8) (w : World) (h : RRs w b S l 0) : Calls Try.prog 24 #[.pointer (some ⟨b, 0, none⟩)] w fun e w' => e = .returned (.int .u64 ((uRd true 0 l).1 : Int)) ∧ RRs w' b S (uRd true 0 l).2.1 (uRd true 0 l).2.2 ∧ w.grownBy w' (some b) := by
  have hlS : l.length ≤ S.length := by
    obtain ⟨k, _, _, h0, _⟩ := h
    rw [h0 rfl]; simp
  have HS := hide hS
  have hj63 : l.length ≤ 4611686018427387903 := by omega
  clear hS hlS
  go_enter Try.func24, Try.ntmps24
  go_wp2
  go_loopg [3, 4] (l.length + 1) (fun g n i wr => ∃ (m j : Nat) (r : List UInt8), n = .int .u64 m ∧ i = .int .i64 j ∧ m ≤ 18446744073709551615 ∧ j + r.length = l.length ∧ g = r.length + 1 ∧ RRs wr b S r 0 ∧ w.grownBy wr (some b) ∧ uRd true 0 l = uRd (decide (j = 0)) m r)
  case atStart => exact ⟨0, 0, l, rfl, rfl, by omega, by omega, rfl, h, grown_refl _ _, rfl⟩
  case round =>
    obtain ⟨m, j, r, rfl, rfl, hm, hj, rfl, hr, hg, hu⟩ := hrel
    have HR := hide hr
    have HU := hide hu
    clear hr hu h
    cases r with
    | nil =>
      go_wp2_with fail
      refine (rbyte_nil _ _ _ _ HR.out).mono ?_
      rw [if_pos rfl]
      rintro e w1 ⟨rfl, hr1, hg1⟩
      have c2 := hr1.c2
      have HR1 := hide hr1
      clear hr1
      go_wp2_with fail
      go_ret
      rw [HU.out]
      exact ⟨rfl, HR1.out, grown_trans hg hg1⟩
    | cons c t =>
      have hc256 : c.toNat < 256 := c.toNat_lt
      have hjl : j < l.length := by simp at hj; omega
      have HJ := hide hj
      clear hj
      by_cases hj0 : j = 0
      · have hj1 : ((j : Int) == 0) = true := by simp [hj0]
        by_cases hc0 : c.toNat = 128
        · have HU2 := hide (HU.out.trans (uRd_form (decide (j = 0)) m c t (.inl ⟨decide_eq_true hj0, hc0⟩)))
          have hc1 : ((c.toNat : Int) == 128) = true := by rw [beq_iff_eq]; omega
          clear hc0 hj0
          go_wp2_with fail
          refine (rbyte_cons _ _ _ _ _ _ HS.out HR.out).mono ?_
          rintro e w1 ⟨rfl, hr1, hg1⟩
          have c2 := hr1.c2
          have HR1 := hide hr1
          clear hr1
          go_wp2_with fail
          refine (rstop_any _ _ _ _ _ _ HR1.out).mono ?_
          rw [if_pos ⟨rfl, by omega⟩, if_pos rfl]
          rintro e w2 ⟨rfl, hr2, hg2⟩
          have HR2 := hide hr2
          clear hr2
          go_wp2_with fail
          go_ret
          rw [HU2.out]
          exact ⟨rfl, HR2.out, grown_trans (grown_trans hg hg1) hg2⟩
        · have hc1 : ((c.toNat : Int) == 128) = false := by rw [beq_eq_false_iff_ne]; omega
          by_cases hm1 : m > 144115188075855871
          · have HU2 := hide (HU.out.trans (uRd_form (decide (j = 0)) m c t (.inr hm1)))
            have hm2 : (144115188075855872 : Int) ≤ m := by omega
            clear hc0 hj0
            go_wp2_with fail
            refine (rbyte_cons _ _ _ _ _ _ HS.out HR.out).mono ?_
            rintro e w1 ⟨rfl, hr1, hg1⟩
            have c2 := hr1.c2
            have HR1 := hide hr1
            clear hr1
            go_wp2_with fail
            refine (rstop_any _ _ _ _ _ _ HR1.out).mono ?_
            rw [if_pos ⟨rfl, by omega⟩, if_pos rfl]
            rintro e w2 ⟨rfl, hr2, hg2⟩
            have HR2 := hide hr2
            clear hr2
            go_wp2_with fail
            go_ret
            rw [HU2.out]
            exact ⟨rfl, HR2.out, grown_trans (grown_trans hg hg1) hg2⟩
          · have hm2 : decide ((144115188075855872 : Int) ≤ m) = false := by rw [decide_eq_false_iff_not]; omega
            have hm3 : m ≤ 144115188075855871 := by omega
            have hno : ¬ ((decide (j = 0) = true ∧ c.toNat = 128) ∨ m > 144115188075855871) := by simp only [decide_eq_true_eq]; omega
            by_cases hlt : c.toNat < 128
            · have HU2 := hide (HU.out.trans (uRd_end (decide (j = 0)) m c t hno hlt))
              clear hc0 hj0 hno
              go_wp2_with fail
              refine (rbyte_cons _ _ _ _ _ _ HS.out HR.out).mono ?_
              rintro e w1 ⟨rfl, hr1, hg1⟩
              have c2 := hr1.c2
              have HR1 := hide hr1
              clear hr1
              go_wp2_with fail
              go_ret
              rw [HU2.out]
              exact ⟨ret_int (by first | rfl | omega), HR1.out, grown_trans hg hg1⟩
            · have HU2 := hide (HU.out.trans (uRd_on (decide (j = 0)) m c t hno hlt))
              clear hc0 hj0 hno
              go_wp2_with fail
              refine (rbyte_cons _ _ _ _ _ _ HS.out HR.out).mono ?_
              rintro e w1 ⟨rfl, hr1, hg1⟩
              have c2 := hr1.c2
              have HR1 := hide hr1
              clear hr1
              go_wp2_with fail
              go_roundg (t.length + 1)
              case measure => simp
              case rel => exact ⟨m * 128 + (c.toNat - 128), j + 1, t, by go_num, by go_num, by omega, by have := HJ.out; simp at this; omega, rfl, HR1.out, grown_trans hg hg1, by rw [HU2.out]; simp⟩
      · have hj1 : ((j : Int) == 0) = false := by rw [beq_eq_false_iff_ne]; omega
        by_cases hm1 : m > 144115188075855871
        · have HU2 := hide (HU.out.trans (uRd_form (decide (j = 0)) m c t (.inr hm1)))
          have hm2 : (144115188075855872 : Int) ≤ m := by omega
          clear hj0
          go_wp2_with fail
          refine (rbyte_cons _ _ _ _ _ _ HS.out HR.out).mono ?_
          rintro e w1 ⟨rfl, hr1, hg1⟩
          have c2 := hr1.c2
          have HR1 := hide hr1
          clear hr1
          go_wp2_with fail
          refine (rstop_any _ _ _ _ _ _ HR1.out).mono ?_
          rw [if_pos ⟨rfl, by omega⟩, if_pos rfl]
          rintro e w2 ⟨rfl, hr2, hg2⟩
          have HR2 := hide hr2
          clear hr2
          go_wp2_with fail
          go_ret
          rw [HU2.out]
          exact ⟨rfl, HR2.out, grown_trans (grown_trans hg hg1) hg2⟩
        · have hm2 : decide ((144115188075855872 : Int) ≤ m) = false := by rw [decide_eq_false_iff_not]; omega
          have hm3 : m ≤ 144115188075855871 := by omega
          have hno : ¬ ((decide (j = 0) = true ∧ c.toNat = 128) ∨ m > 144115188075855871) := by simp only [decide_eq_true_eq]; omega
          by_cases hlt : c.toNat < 128
          · have HU2 := hide (HU.out.trans (uRd_end (decide (j = 0)) m c t hno hlt))
            clear hj0 hno
            go_wp2_with fail
            refine (rbyte_cons _ _ _ _ _ _ HS.out HR.out).mono ?_
            rintro e w1 ⟨rfl, hr1, hg1⟩
            have c2 := hr1.c2
            have HR1 := hide hr1
            clear hr1
            go_wp2_with fail
            go_ret
            rw [HU2.out]
            exact ⟨ret_int (by first | rfl | omega), HR1.out, grown_trans hg hg1⟩
          · have HU2 := hide (HU.out.trans (uRd_on (decide (j = 0)) m c t hno hlt))
            clear hj0 hno
            go_wp2_with fail
            refine (rbyte_cons _ _ _ _ _ _ HS.out HR.out).mono ?_
            rintro e w1 ⟨rfl, hr1, hg1⟩
            have c2 := hr1.c2
            have HR1 := hide hr1
            clear hr1
            go_wp2_with fail
            go_roundg (t.length + 1)
            case measure => simp
            case rel => exact ⟨m * 128 + (c.toNat - 128), j + 1, t, by go_num, by go_num, by omega, by have := HJ.out; simp at this; omega, rfl, HR1.out, grown_trans hg hg1, by rw [HU2.out]; simp⟩

theorem ruint_any (b : Nat) (S : List UInt8) (hS : S.length ≤ 4611686018427387903) (l : List UInt8) (e0 : Int) (w : World) (h : RRs w b S l e0) : Calls Try.prog 24 #[.pointer (some ⟨b, 0, none⟩)] w fun e w' => e = .returned (.int .u64 ((uR l e0).1 : Int)) ∧ RRs w' b S (uR l e0).2.1 (uR l e0).2.2 ∧ w.grownBy w' (some b) := by
  unfold uR
  by_cases he : e0 = 0
  · subst he
    rw [if_pos rfl]
    exact ruint_on b S hS l w h
  · rw [if_neg he]
    exact ruint_stopped b S l e0 he w h

set_option maxHeartbeats 400000 in
theorem rint_any (b : Nat) (S : List UInt8) (hS : S.length ≤ 4611686018427387903) (l : List UInt8) (e0 : Int) (w : World) (h : RRs w b S l e0) : Calls Try.prog 25 #[.pointer (some ⟨b, 0, none⟩)] w fun e w' => e = .returned (.int .i64 (unfoldZ (uR l e0).1)) ∧ RRs w' b S (uR l e0).2.1 (uR l e0).2.2 ∧ w.grownBy w' (some b) := by
  have hn := uR_le l e0
  have H := hide h
  have HS := hide hS
  clear h hS
  obtain ⟨n, hN⟩ : ∃ n, (uR l e0).1 = n := ⟨_, rfl⟩
  have HN := hide hN
  rw [hN] at hn
  clear hN
  rw [HN.out]
  by_cases h1 : n % 2 = 1
  · have h2 : ((n : Int) % 2 == 1) = true := by rw [beq_iff_eq]; omega
    have hu : unfoldZ n = -1 - (n / 2 : Nat) := by unfold unfoldZ; rw [if_pos h1]
    have HU := hide hu
    clear hu h1
    go_enter Try.func25, Try.ntmps25
    go_wp2_with fail
    refine (ruint_any _ _ HS.out _ _ _ H.out).mono ?_
    rw [HN.out]
    rintro e w1 ⟨rfl, hr1, hg1⟩
    go_wp2_with fail
    go_ret
    rw [HU.out]
    exact ⟨ret_int (by omega), hr1, hg1⟩
  · have h2 : ((n : Int) % 2 == 1) = false := by rw [beq_eq_false_iff_ne]; omega
    have hu : unfoldZ n = (n / 2 : Nat) := by unfold unfoldZ; rw [if_neg h1]
    have HU := hide hu
    clear hu h1
    go_enter Try.func25, Try.ntmps25
    go_wp2_with fail
    refine (ruint_any _ _ HS.out _ _ _ H.out).mono ?_
    rw [HN.out]
    rintro e w1 ⟨rfl, hr1, hg1⟩
    go_wp2_with fail
    go_ret
    rw [HU.out]
    exact ⟨ret_int (by omega), hr1, hg1⟩
end Go.Proofs.Ythijblakadifiaa
