/- The methods Int and Str of codec.Reader; and a nil reader's. -/
import Derived.Test.YthijblakadifiaaRdU
namespace Go.Proofs.Ythijblakadifiaa
open Go.RowKit

/-- What any reader reads as a number. -/
def uR (l : List UInt8) (e : Int) : Nat × List UInt8 × Int := if e = 0 then uRd true 0 l else (0, l, e)

theorem uRd_le (l : List UInt8) : ∀ first n, (uRd first n l).1 ≤ 18446744073709551615 := by
  induction l with
  | nil => intro first n; simp [uRd]
  | cons c t ih =>
    intro first n
    have := c.toNat_lt
    rw [uRd]
    split
    · simp
    · split
      · simp only; omega
      · exact ih _ _
theorem uRd_err (l : List UInt8) : ∀ first n, (uRd first n l).2.2 ≠ 0 → (uRd first n l).1 = 0 ∧ (uRd first n l).2.1 = [] := by
  induction l with
  | nil => intro first n; simp [uRd]
  | cons c t ih =>
    intro first n
    rw [uRd]
    split
    · simp
    · split
      · simp
      · exact ih _ _
theorem uR_le (l : List UInt8) (e : Int) : (uR l e).1 ≤ 18446744073709551615 := by
  unfold uR; split
  · exact uRd_le _ _ _
  · simp
theorem uRd_len (l : List UInt8) : ∀ first n, (uRd first n l).2.1.length ≤ l.length := by
  induction l with
  | nil => intro first n; simp [uRd]
  | cons c t ih =>
    intro first n
    have := ih false (n * 128 + (c.toNat - 128))
    rw [uRd]
    split
    · simp
    · split
      · simp
      · simp; omega
theorem uR_len (l : List UInt8) (e : Int) : (uR l e).2.1.length ≤ l.length := by
  unfold uR; split
  · exact uRd_len _ _ _
  · simp
theorem uR_err (l : List UInt8) (e : Int) (h : (uR l e).2.2 ≠ 0) : (uR l e).1 = 0 := by
  unfold uR at h ⊢; split
  · rename_i he; rw [if_pos he] at h; exact (uRd_err _ _ _ h).1
  · rfl

theorem uint_rd_any (b : Nat) (l : List UInt8) (e0 : Int) (w : World) (h : Rdr w b (bs l) e0) : Calls Try.prog 17 #[.pointer (some ⟨b, 0, none⟩)] w fun e w' => e = .returned (.int .u64 ((uR l e0).1 : Int)) ∧ Rdr w' b (bs (uR l e0).2.1) (uR l e0).2.2 ∧ w.grownBy w' (some b) := by
  unfold uR
  by_cases he : e0 = 0
  · subst he
    rw [if_pos rfl]
    exact uint_rd b l w h
  · rw [if_neg he]
    refine (uint_stopped b _ e0 he w h).mono ?_
    rintro e w' ⟨rfl, rfl⟩
    exact ⟨rfl, h, grown_refl _ _⟩

set_option maxHeartbeats 400000 in
theorem int_rd (b : Nat) (l : List UInt8) (e0 : Int) (w : World) (h : Rdr w b (bs l) e0) : Calls Try.prog 18 #[.pointer (some ⟨b, 0, none⟩)] w fun e w' => e = .returned (.int .i64 (unfoldZ (uR l e0).1)) ∧ Rdr w' b (bs (uR l e0).2.1) (uR l e0).2.2 ∧ w.grownBy w' (some b) := by
  have hn := uR_le l e0
  have HR := hide h
  clear h
  go_enter Try.func18, Try.ntmps18
  go_wp2_with fail
  refine (uint_rd_any _ _ _ _ HR.out).mono ?_
  rintro e w1 ⟨rfl, hr1, hg1⟩
  go_wp2_with fail
  refine (unfold_any _ hn _).mono ?_
  rintro e w' ⟨rfl, rfl⟩
  go_wp2_with fail
  go_ret
  exact ⟨rfl, hr1, hg1⟩
set_option maxHeartbeats 400000 in
theorem int_nil (w : World) : Calls Try.prog 18 #[.pointer none] w fun e w' => e = .returned (.int .i64 0) ∧ w = w' := by
  go_enter Try.func18, Try.ntmps18
  go_wp2_with fail
  refine (uint_nil _).mono ?_
  rintro e w' ⟨rfl, rfl⟩
  go_wp2_with fail
  refine (unfold_any 0 (by omega) _).mono ?_
  rintro e w' ⟨rfl, rfl⟩
  go_wp2_with fail
  go_ret
  exact ⟨rfl, rfl⟩
set_option maxHeartbeats 400000 in
theorem byte_nilp (w : World) : Calls Try.prog 22 #[.pointer none] w fun e w' => e = .returned (.int .u8 0) ∧ w = w' := by
  go_enter Try.func22, Try.ntmps22
  go_wp2_with fail
  refine (left_nil _).mono ?_
  rintro e w' ⟨rfl, rfl⟩
  go_wp2_with fail
  refine (fail_nil _ _).mono ?_
  rintro e w' ⟨rfl, rfl⟩
  go_wp2_with fail
  go_ret
  exact ⟨rfl, rfl⟩
set_option maxHeartbeats 400000 in
theorem str_nil (w : World) : Calls Try.prog 26 #[.pointer none, .int .i64 5] w fun e w' => e = .returned (.string es) ∧ w = w' := by
  go_enter Try.func26, Try.ntmps26
  go_wp2_with fail
  refine (uint_nil _).mono ?_
  rintro e w' ⟨rfl, rfl⟩
  go_wp2_with fail
  refine (left_nil _).mono ?_
  rintro e w' ⟨rfl, rfl⟩
  go_wp2_with fail
  refine (err_nil _).mono ?_
  rintro e w' ⟨rfl, rfl⟩
  go_wp2_with fail
  go_ret
  exact ⟨rfl, rfl⟩

/-- What any reader reads as a text of at most so many bytes. -/
def sR (l : List UInt8) (e most : Int) : List UInt8 × List UInt8 × Int :=
  if (if most < 0 then 0 else most) < (uR l e).1 then ([], [], 9)
  else if (uR l e).2.1.length < (uR l e).1 then ([], [], 3)
  else if (uR l e).2.2 ≠ 0 then ([], (uR l e).2.1, (uR l e).2.2)
  else ((uR l e).2.1.take (uR l e).1, (uR l e).2.1.drop (uR l e).1, 0)


theorem bs_take (l : List UInt8) (n : Nat) : (bs l).extract 0 n = bs (l.take n) := by
  apply ByteArray.ext; simp [bs]
theorem bs_drop (l : List UInt8) (n : Nat) : (bs l).extract n (bs l).size = bs (l.drop n) := by
  apply ByteArray.ext; simp [bs, ByteArray.size]
  rw [List.take_of_length_le (by simp)]
set_option maxHeartbeats 1000000 in
set_option maxRecDepth 100000 in
/-- Str, behind the tests on the length: M is the bound. -/
theorem str_rd0 (b : Nat) (l : List UInt8) (e0 most : Int) (hm0 : -9223372036854775808 ≤ most) (hm1 : most ≤ 9223372036854775807) (w : World) (h : Rdr w b (bs l) e0) (hll : l.length ≤ 4611686018427387903) : Calls Try.prog 26 #[.pointer (some ⟨b, 0, none⟩), .int .i64 most] w fun e w' => e = .returned (.string (bs (sR l e0 most).1)) ∧ Rdr w' b (bs (sR l e0 most).2.1) (sR l e0 most).2.2 ∧ w.grownBy w' (some b) := by
  have hn := uR_le l e0
  have he0 := uR_err l e0
  have hul := uR_len l e0
  have HR := hide h
  clear h
  unfold sR
  generalize hu : uR l e0 = u at *
  obtain ⟨n, l1, e1⟩ := u
  simp only at hn he0 hul ⊢
  have HU := hide hu
  have hul2 : l1.length ≤ 4611686018427387903 := by omega
  have hsz := bs_size l1
  have hsz2 : (bs l1).size ≤ 4611686018427387903 := by omega
  have HSZ := hide hsz
  have HE := hide he0
  clear hu hsz hul he0
  obtain ⟨M, hM⟩ : ∃ M : Nat, (if most < 0 then 0 else most) = (M : Int) := ⟨(if most < 0 then 0 else most).toNat, by split <;> omega⟩
  have hMM : (most < 0 ∧ M = 0) ∨ (0 ≤ most ∧ most = (M : Int)) := by
    split at hM
    · exact .inl ⟨by assumption, by omega⟩
    · exact .inr ⟨by omega, hM⟩
  have hM1 : M ≤ 9223372036854775807 := by omega
  rw [hM]
  clear hM
  by_cases c1 : M < n
  · rw [if_pos (by omega)]
    have he1 : e1 = 0 := by
      rcases Decidable.em (e1 = 0) with h | h
      · exact h
      · have := HE.out h; omega
    subst he1
    clear HE
    rcases hMM with ⟨hneg, rfl⟩ | ⟨hneg, rfl⟩
    all_goals
      go_enter Try.func26, Try.ntmps26
      go_wp2_with fail
      refine (uint_rd_any _ _ _ _ HR.out).mono ?_
      rw [HU.out]
      rintro e w1 ⟨rfl, hr1, hg1⟩
      have HR1 := hide hr1
      clear hr1
      go_wp2_with fail
      refine (fail_any _ _ _ _ _ HR1.out).mono ?_
      rintro e w2 ⟨rfl, hr2, hg2⟩
      have HR2 : Hid (Rdr w2 b (bs []) 9) := hr2
      clear hr2
      go_wp2_with fail
      refine (err_any _ _ _ _ HR2.out).mono ?_
      rintro e w' ⟨rfl, rfl⟩
      go_wp2_with fail
      go_ret
      exact ⟨rfl, HR2.out, grown_trans hg1 hg2⟩
  · rw [if_neg (by omega)]
    have hnM : n ≤ M := by omega
    clear c1
    by_cases c2 : l1.length < n
    · rw [if_pos c2]
      have he1 : e1 = 0 := by
        rcases Decidable.em (e1 = 0) with h | h
        · exact h
        · have := HE.out h; omega
      subst he1
      clear HE
      have c2' : (bs l1).size < n := by rw [HSZ.out]; exact c2
      rcases hMM with ⟨hneg, rfl⟩ | ⟨hneg, rfl⟩
      · exfalso; omega
      all_goals
        go_enter Try.func26, Try.ntmps26
        go_wp2_with fail
        refine (uint_rd_any _ _ _ _ HR.out).mono ?_
        rw [HU.out]
        rintro e w1 ⟨rfl, hr1, hg1⟩
        have HR1 := hide hr1
        clear hr1
        go_wp2_with fail
        refine (left_any _ _ _ _ HR1.out).mono ?_
        rintro e w' ⟨rfl, rfl⟩
        go_wp2_with fail
        refine (fail_any _ _ _ _ _ HR1.out).mono ?_
        rintro e w2 ⟨rfl, hr2, hg2⟩
        have HR2 : Hid (Rdr w2 b (bs []) 3) := hr2
        clear hr2
        go_wp2_with fail
        refine (err_any _ _ _ _ HR2.out).mono ?_
        rintro e w' ⟨rfl, rfl⟩
        go_wp2_with fail
        go_ret
        exact ⟨rfl, HR2.out, grown_trans hg1 hg2⟩
    · rw [if_neg c2]
      have c2' : n ≤ (bs l1).size := by rw [HSZ.out]; omega
      clear c2
      by_cases c3 : e1 ≠ 0
      · rw [if_pos c3]
        have c3' : (e1 != 0) = true := by simpa using c3
        clear HE c3
        rcases hMM with ⟨hneg, rfl⟩ | ⟨hneg, rfl⟩
        all_goals
          go_enter Try.func26, Try.ntmps26
          go_wp2_with fail
          refine (uint_rd_any _ _ _ _ HR.out).mono ?_
          rw [HU.out]
          rintro e w1 ⟨rfl, hr1, hg1⟩
          have HR1 := hide hr1
          clear hr1
          go_wp2_with fail
          refine (left_any _ _ _ _ HR1.out).mono ?_
          rintro e w' ⟨rfl, rfl⟩
          go_wp2_with fail
          refine (err_any _ _ _ _ HR1.out).mono ?_
          rintro e w' ⟨rfl, rfl⟩
          go_wp2_with fail
          go_ret
          exact ⟨rfl, HR1.out, hg1⟩
      · rw [if_neg c3]
        obtain rfl : e1 = 0 := by simpa using c3
        clear HE c3
        rcases hMM with ⟨hneg, rfl⟩ | ⟨hneg, rfl⟩
        all_goals
          go_enter Try.func26, Try.ntmps26
          go_wp2_with fail
          refine (uint_rd_any _ _ _ _ HR.out).mono ?_
          rw [HU.out]
          rintro e w1 ⟨rfl, hr1, hg1⟩
          have HR1 := hide hr1
          clear hr1
          go_wp2_with fail
          refine (left_any _ _ _ _ HR1.out).mono ?_
          rintro e w' ⟨rfl, rfl⟩
          go_wp2_with fail
          refine (err_any _ _ _ _ HR1.out).mono ?_
          rintro e w' ⟨rfl, rfl⟩
          have k0 := HR1.out.c0
          have f0 := HR1.out.f 0
          go_wp2_with fail
          go_ret
          exact ⟨ret_str (by first | exact bs_take l1 n | exact (bs_take l1 n)), by rw [← bs_drop]; exact HR1.out.set0 _, grown_set hg1 _ _⟩
end Go.Proofs.Ythijblakadifiaa
