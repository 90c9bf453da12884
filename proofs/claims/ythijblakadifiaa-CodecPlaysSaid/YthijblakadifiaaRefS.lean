/- The reference's reader, its Str and Left. -/
import Derived.Test.YthijblakadifiaaRefU
namespace Go.Proofs.Ythijblakadifiaa
open Go.RowKit

set_option maxHeartbeats 400000 in
theorem rleft_any (b : Nat) (S : List UInt8) (hS : S.length ≤ 4611686018427387903) (l : List UInt8) (e0 : Int) (w : World) (h : RRs w b S l e0) : Calls Try.prog 30 #[.pointer (some ⟨b, 0, none⟩)] w fun e w' => e = .returned (.int .i64 (l.length : Int)) ∧ ∃ n, w' = w.drewN n := by
  obtain ⟨k, hr, hk, h0, h1⟩ := h
  by_cases he : e0 = 0
  · subst he
    have hl := h0 rfl
    have hsz := bs_size S
    have c0 := hr.c0
    have c1 := hr.c1
    have c2 := hr.c2
    have hs1 : k ≤ (bs S).size := by omega
    have hs2 : (bs S).size ≤ 4611686018427387903 := by omega
    have HL := hide (And.intro hl hsz)
    clear hl hsz h0 h1 hr
    go_enter Try.func30, Try.ntmps30
    go_wp2_with fail
    go_quiet (fail)
    go_wp2_with fail
    go_ret
    refine ⟨ret_int ?_, _, rfl⟩
    obtain ⟨hl, hsz⟩ := HL.out
    rw [hl, List.length_drop]; omega
  · have hl := h1 he
    subst hl
    have c2 := hr.c2
    have he2 : (e0 != 0) = true := by simpa using he
    clear h0 h1 he
    go_enter Try.func30, Try.ntmps30
    go_wp2_with fail
    go_ret
    exact ⟨rfl, 0, rfl⟩

theorem RRs.of {w : World} {b : Nat} {S l : List UInt8} {e : Int} {k : Nat} (h : RR w b (bs S) k e) (hk : k ≤ S.length) (h0 : e = 0 → l = S.drop k) (h1 : e ≠ 0 → l = []) : RRs w b S l e := ⟨k, h, hk, h0, h1⟩

set_option maxHeartbeats 2000000 in
set_option maxRecDepth 100000 in
theorem rstr_any (b : Nat) (S : List UInt8) (hS : S.length ≤ 4611686018427387903) (l : List UInt8) (e0 most : Int) (hm0 : -9223372036854775808 ≤ most) (hm1 : most ≤ 9223372036854775807) (w : World) (h : RRs w b S l e0) : Calls Try.prog 27 #[.pointer (some ⟨b, 0, none⟩), .int .i64 most] w fun e w' => e = .returned (.string (bs (sR l e0 most).1)) ∧ RRs w' b S (sR l e0 most).2.1 (sR l e0 most).2.2 ∧ w.grownBy w' (some b) := by
  have hn := uR_le l e0
  have he0 := uR_err l e0
  have H := hide h
  have HS := hide hS
  clear h
  unfold sR
  generalize hu : uR l e0 = u at *
  obtain ⟨n, l1, e1⟩ := u
  simp only at hn he0 ⊢
  have HU := hide hu
  have HE := hide he0
  clear hu he0
  obtain ⟨M, hM⟩ : ∃ M : Nat, (if most < 0 then 0 else most) = (M : Int) := ⟨(if most < 0 then 0 else most).toNat, by split <;> omega⟩
  have hMM : (most < 0 ∧ M = 0) ∨ (0 ≤ most ∧ most = (M : Int)) := by
    split at hM
    · exact .inl ⟨by assumption, by omega⟩
    · exact .inr ⟨by omega, hM⟩
  have hM1 : M ≤ 9223372036854775807 := by omega
  rw [hM]
  clear hM
  by_cases c1 : M < n
  · rw [if_pos (by omega)]
    have he1 : e1 = 0 := by
      rcases Decidable.em (e1 = 0) with h | h
      · exact h
      · have := HE.out h; omega
    subst he1
    clear HE
    rcases hMM with ⟨hneg, rfl⟩ | ⟨hneg, rfl⟩
    all_goals
      go_enter Try.func27, Try.ntmps27
      go_wp2_with fail
      refine (ruint_any _ _ HS.out _ _ _ H.out).mono ?_
      rw [HU.out]
      rintro e w1 ⟨rfl, hr1, hg1⟩
      have k2 := hr1.c2
      have R1 := hide hr1
      clear hr1
      go_wp2_with fail
      refine (rstop_any _ _ _ _ _ _ R1.out).mono ?_
      rw [if_pos ⟨rfl, by omega⟩, if_pos rfl]
      rintro e w2 ⟨rfl, hr2, hg2⟩
      have k2 := hr2.c2
      have R2 := hide hr2
      clear hr2
      go_wp2_with fail
      go_quiet (fail)
      go_wp2_with fail
      go_ret
      exact ⟨rfl, R2.out.drewN _, grown_drewN (grown_trans hg1 hg2) _⟩
  · rw [if_neg (by omega)]
    have hnM : n ≤ M := by omega
    clear c1
    by_cases c2 : l1.length < n
    · rw [if_pos c2]
      have he1 : e1 = 0 := by
        rcases Decidable.em (e1 = 0) with h | h
        · exact h
        · have := HE.out h; omega
      subst he1
      clear HE
      rcases hMM with ⟨hneg, rfl⟩ | ⟨hneg, rfl⟩
      · exfalso; omega
      · go_enter Try.func27, Try.ntmps27
        go_wp2_with fail
        refine (ruint_any _ _ HS.out _ _ _ H.out).mono ?_
        rw [HU.out]
        rintro e w1 ⟨rfl, hr1, hg1⟩
        have k2 := hr1.c2
        have R1 := hide hr1
        obtain ⟨k, hr, hk, h0, _⟩ := hr1
        have k0 := hr.c0
        have k1 := hr.c1
        have hsz := bs_size S
        have hl1 : l1 = S.drop k := h0 rfl
        have hlt : ((bs S).size : Int) - k < n := by
          rw [hsz]
          have : l1.length = S.length - k := by rw [hl1]; simp
          omega
        have hks : k ≤ (bs S).size := by omega
        have hs2 : (bs S).size ≤ 4611686018427387903 := by omega
        clear hr h0 hl1 hsz c2
        go_wp2_with fail
        go_quiet (fail)
        go_wp2_with fail
        refine (rstop_any _ _ _ _ _ _ (R1.out.drewN _)).mono ?_
        rw [if_pos ⟨rfl, by omega⟩, if_pos rfl]
        rintro e w2 ⟨rfl, hr2, hg2⟩
        have k2' := hr2.c2
        have R2 := hide hr2
        clear hr2
        go_wp2_with fail
        go_ret
        exact ⟨rfl, R2.out, grown_trans (grown_drewN hg1 _) hg2⟩
    · rw [if_neg c2]
      by_cases c3 : e1 ≠ 0
      · rw [if_pos c3]
        have c3' : (e1 != 0) = true := by simpa using c3
        have c3'' : (e1 == 0) = false := by simpa using c3
        clear HE c3 c2
        go_enter Try.func27, Try.ntmps27
        go_wp2_with fail
        refine (ruint_any _ _ HS.out _ _ _ H.out).mono ?_
        rw [HU.out]
        rintro e w1 ⟨rfl, hr1, hg1⟩
        have k2 := hr1.c2
        have R1 := hide hr1
        clear hr1
        go_wp2_with fail
        go_quiet (fail)
        go_wp2_with fail
        go_ret
        exact ⟨rfl, R1.out.drewN _, grown_drewN hg1 _⟩
      · rw [if_neg c3]
        obtain rfl : e1 = 0 := by simpa using c3
        clear HE c3
        have c2n : n ≤ l1.length := by omega
        clear c2
        rcases hMM with ⟨hneg, rfl⟩ | ⟨hneg, rfl⟩
        all_goals
          go_enter Try.func27, Try.ntmps27
          go_wp2_with fail
          refine (ruint_any _ _ HS.out _ _ _ H.out).mono ?_
          rw [HU.out]
          rintro e w1 ⟨rfl, hr1, hg1⟩
          obtain ⟨k, hr, hk, h0, _⟩ := hr1
          have k0 := hr.c0
          have k1 := hr.c1
          have k2 := hr.c2
          have f1 := hr.f 1
          have hsz := bs_size S
          have hl1 : l1 = S.drop k := h0 rfl
          have hkn : k + n ≤ (bs S).size := by
            rw [hsz]
            have : l1.length = S.length - k := by rw [hl1]; simp
            omega
          have hlt : ¬ ((bs S).size : Int) - k < n := by omega
          have hs2 : (bs S).size ≤ 4611686018427387903 := by omega
          have HF := hide (And.intro hr (And.intro hl1 hsz))
          clear hr h0 hl1 hsz
          go_wp2_with fail
          go_quiet (fail)
          go_wp2_with fail
          go_quiet (fail)
          go_wp2_with fail
          go_ret
          refine ⟨ret_str ?_, RRs.of (k := k + n) (((HF.out.1.drewN _).set1 _).drewN _) ?_ ?_ ?_, grown_drewN (grown_set (grown_drewN hg1 _) _ _) _⟩
          · have := HF.out.2.1
            rw [this]
            apply ByteArray.ext
            simp [bs]
          · have := HF.out.2.2; omega
          · intro _
            have := HF.out.2.1
            show l1.drop n = _
            rw [this, List.drop_drop]
          · intro h; exact absurd rfl h
end Go.Proofs.Ythijblakadifiaa
