/- The walk of the statement CodecBack. -/
import Derived.Test.YthijblakadifiaaLaws
namespace Go.Proofs.Ythijblakadifiaa
open Go.RowKit
attribute [local go_sem] bs_list

theorem uR_enc (n : Nat) (h : n ≤ 18446744073709551615) (t : List UInt8) : uR (enc n ++ t) 0 = (n, t, 0) := by
  rw [uR, if_pos rfl, uRd_enc n h]
theorem sR_enc (S t : List UInt8) (h : S.length ≤ 18446744073709551615) : sR (enc S.length ++ (S ++ t)) 0 (S.length : Int) = (S, t, 0) := by
  unfold sR
  rw [uR_enc _ h]
  simp only
  rw [if_neg (by split <;> omega), if_neg (by simp), if_neg (by simp)]
  simp

set_option maxHeartbeats 1000000 in
set_option maxRecDepth 100000 in
theorem back_far (n i : Int) (s t : ByteArray) (hl : 2000 < s.size ∨ (s.size ≤ 2000 ∧ 2000 < t.size)) (w : World) :
    Calls Try.prog 7 #[.int .u64 n, .int .i64 i, .string s, .string t] w fun e w' => e = .returned (.bool true) ∧ Below w.heap.size w w' := by
  rcases hl with h | ⟨h, h'⟩
  · have hl2 : (2000 : Int) < (s.size : Int) := by omega
    go_enter Try.func7, Try.ntmps7
    go_wp2_with fail
    refine (awake_any _).mono ?_
    rintro e w1 ⟨rfl, hb1⟩
    go_wp2_with fail
    refine (awake_any _).mono ?_
    rintro e w2 ⟨rfl, hb2⟩
    go_wp2_with fail
    go_ret
    exact ⟨rfl, below_step hb1 hb1.size hb2⟩
  · have hl2 : ¬ (2000 : Int) < (s.size : Int) := by omega
    have hl3 : (2000 : Int) < (t.size : Int) := by omega
    go_enter Try.func7, Try.ntmps7
    go_wp2_with fail
    refine (awake_any _).mono ?_
    rintro e w1 ⟨rfl, hb1⟩
    go_wp2_with fail
    refine (awake_any _).mono ?_
    rintro e w2 ⟨rfl, hb2⟩
    go_wp2_with fail
    go_ret
    exact ⟨rfl, below_step hb1 hb1.size hb2⟩

set_option maxHeartbeats 1000000 in
set_option maxRecDepth 100000 in
theorem back_near (n : Nat) (hn : n ≤ 18446744073709551615) (i : Int) (hi0 : -9223372036854775808 ≤ i) (hi1 : i ≤ 9223372036854775807) (S T : List UInt8) (hS : (bs S).size ≤ 2000) (hT : (bs T).size ≤ 2000) (w : World) :
    Calls Try.prog 7 #[.int .u64 (n : Int), .int .i64 i, .string (bs S), .string (bs T)] w fun e w' => e = .returned (.bool true) ∧ Below w.heap.size w w' := by
  have hS2 : ¬ (2000 : Int) < ((bs S).size : Int) := by omega
  have hT2 : ¬ (2000 : Int) < ((bs T).size : Int) := by omega
  have hSl := bs_size S
  have hcat : bs (enc (foldZ i)) ++ (bs (enc (bs S).size) ++ bs S) ++ bs (enc n) ++ bs T = bs (enc (foldZ i) ++ (enc S.length ++ (S ++ (enc n ++ T)))) := by
    rw [hSl]; simp [bs_append]
  have hf := foldZ_le i hi0 hi1
  have HCAT := hide hcat
  have U1 := hide (uR_enc (foldZ i) hf (enc S.length ++ (S ++ (enc n ++ T))))
  have U2 := hide (sR_enc S (enc n ++ T) (by omega))
  have U3 := hide (uR_enc n hn T)
  have h10 := enc_len (foldZ i) (by omega)
  have h11 := enc_len S.length (by omega)
  have h12 := enc_len n (by omega)
  have s10 : (bs (enc (foldZ i))).size ≤ 10 := by rw [bs_size]; exact h10
  have s11 : (bs (enc (bs S).size)).size ≤ 10 := by rw [bs_size, hSl]; exact h11
  have s12 : (bs (enc n)).size ≤ 10 := by rw [bs_size]; exact h12
  have HSL := hide hSl
  clear hcat hSl h10 h11 h12
  go_enter Try.func7, Try.ntmps7
  go_wp2_with fail
  refine (awake_any _).mono ?_
  rintro e w1 ⟨rfl, hb1⟩
  go_wp2_with fail
  refine (int_any i hi0 hi1 _).mono ?_
  rintro e w2 ⟨rfl, hb2⟩
  go_wp2_with fail
  refine (str_any (bs S) (by omega) _).mono ?_
  rintro e w3 ⟨rfl, hb3⟩
  go_wp2_with fail
  refine (uint_nat n hn _).mono ?_
  rintro e w4 ⟨rfl, hb4⟩
  go_wp2_with fail
  refine (read_any _ _).mono ?_
  rw [HCAT.out]
  rintro e w5 ⟨rfl, hr5, hb5⟩
  have R5 := hide hr5
  clear hr5
  go_wp2_with fail
  refine (int_rd _ _ _ _ R5.out).mono ?_
  rw [U1.out, unfold_fold]
  rintro e w6 ⟨rfl, hr6, hg6⟩
  have R6 := hide hr6
  clear hr6 R5
  go_wp2_with fail
  have hstr := str_rd0 _ _ _ ((bs S).size : Int) (by omega) (by omega) _ R6.out (by simp; have := enc_len S.length (by have := HSL.out; omega); have := enc_len n (by omega); have := HSL.out; have := bs_size T; omega)
  have hU2 := U2.out
  rw [← HSL.out] at hU2
  rw [show enc (bs S).size = enc S.length from by rw [HSL.out]] at hU2
  rw [hU2] at hstr
  clear hU2
  refine hstr.mono ?_
  clear hstr
  rintro e w7 ⟨rfl, hr7, hg7⟩
  have R7 := hide hr7
  clear hr7 R6
  go_wp2_with fail
  refine (uint_rd_any _ _ _ _ R7.out).mono ?_
  rw [U3.out]
  rintro e w8 ⟨rfl, hr8, hg8⟩
  have R8 := hide hr8
  clear hr8 R7
  go_wp2_with fail
  refine (left_any _ _ _ _ R8.out).mono ?_
  rintro e w' ⟨rfl, rfl⟩
  go_wp2_with fail
  refine (err_any _ _ _ _ R8.out).mono ?_
  rintro e w' ⟨rfl, rfl⟩
  go_wp2_with fail
  go_ret
  have B2 := below_step hb1 hb1.size hb2
  have B3 := below_step B2 B2.size hb3
  have B4 := below_step B3 B3.size hb4
  have B5 := below_step B4 B4.size hb5
  have B6 : Below w.heap.size w w6 := B5.grown hg6 B5.size (by simp; exact B4.size)
  have B7 : Below w.heap.size w w7 := B6.grown hg7 B6.size (by simp; exact B4.size)
  exact ⟨rfl, B7.grown hg8 B7.size (by simp; exact B4.size)⟩

theorem back_walk (n : Int) (hn : (Lit.int .u64 n).wf = true) (i : Int) (hi : (Lit.int .i64 i).wf = true) (s : ByteArray) (_hs : s.size ≤ maxLen) (t : ByteArray) (_ht : t.size ≤ maxLen) (w : World) :
    Calls Try.prog 7 #[.int .u64 n, .int .i64 i, .string s, .string t] w fun e w' => e = .returned (.bool true) ∧ Below w.heap.size w w' := by
  obtain ⟨n0, n1⟩ := wf_u64 hn
  obtain ⟨i0, i1⟩ := wf_i64 hi
  by_cases h : 2000 < s.size ∨ (s.size ≤ 2000 ∧ 2000 < t.size)
  · exact back_far n i s t h w
  · obtain ⟨N, rfl⟩ := Int.eq_ofNat_of_zero_le n0
    obtain ⟨S, rfl⟩ : ∃ l, s = bs l := ⟨_, (bs_self s).symm⟩
    obtain ⟨T, rfl⟩ : ∃ l, t = bs l := ⟨_, (bs_self t).symm⟩
    exact back_near N (by omega) i i0 i1 S T (by omega) (by omega) w
end Go.Proofs.Ythijblakadifiaa
