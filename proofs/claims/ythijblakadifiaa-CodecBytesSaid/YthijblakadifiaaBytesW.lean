/- The walk of the statement CodecBytes. -/
import Derived.Test.YthijblakadifiaaRefEnc
namespace Go.Proofs.Ythijblakadifiaa
open Go.RowKit
attribute [local go_sem] bs_list
set_option maxHeartbeats 1000000 in
set_option maxRecDepth 100000 in
theorem bytes_walk (n : Int) (hn : (Lit.int .u64 n).wf = true) (i : Int) (hi : (Lit.int .i64 i).wf = true) (s : ByteArray) (_hs : s.size ≤ maxLen) (w : World) :
    Calls Try.prog 3 #[.int .u64 n, .int .i64 i, .string s] w fun e w' => e = .returned (.bool true) ∧ Below w.heap.size w w' := by
  obtain ⟨bn0, bn1⟩ := wf_u64 hn
  obtain ⟨bi0, bi1⟩ := wf_i64 hi
  clear hn hi
  obtain ⟨N, rfl⟩ := Int.eq_ofNat_of_zero_le bn0
  by_cases hl : s.size ≤ 2000
  · have hl2 : ¬ ((s.size : Int) > 2000) := by omega
    go_enter Try.func3, Try.ntmps3
    go_wp2_with fail
    refine (awake_any _).mono ?_
    rintro e w1 ⟨rfl, hb1⟩
    go_wp2_with fail
    refine (uint_nat N (by omega) _).mono ?_
    rintro e w2 ⟨rfl, hb2⟩
    go_wp2_with fail
    refine (refuint_any N (by omega) _).mono ?_
    rintro e w3 ⟨rfl, hb3⟩
    go_wp2_with fail
    refine (int_any i bi0 bi1 _).mono ?_
    rintro e w4 ⟨rfl, hb4⟩
    go_wp2_with fail
    refine (refint_any i bi0 bi1 _).mono ?_
    rintro e w5 ⟨rfl, hb5⟩
    go_wp2_with fail
    refine (str_any s (by omega) _).mono ?_
    rintro e w6 ⟨rfl, hb6⟩
    go_wp2_with fail
    refine (refstr_any s (by omega) _).mono ?_
    rintro e w7 ⟨rfl, hb7⟩
    go_wp2_with fail
    go_ret
    have B2 := below_step hb1 hb1.size hb2
    have B3 := below_step B2 B2.size hb3
    have B4 := below_step B3 B3.size hb4
    have B5 := below_step B4 B4.size hb5
    have B6 := below_step B5 B5.size hb6
    exact ⟨rfl, below_step B6 B6.size hb7⟩
  · have hl2 : (2000 : Int) < (s.size : Int) := by omega
    go_enter Try.func3, Try.ntmps3
    go_wp2_with fail
    refine (awake_any _).mono ?_
    rintro e w1 ⟨rfl, hb1⟩
    go_wp2_with fail
    refine (awake_any _).mono ?_
    rintro e w2 ⟨rfl, hb2⟩
    go_wp2_with fail
    go_ret
    exact ⟨rfl, below_step hb1 hb1.size hb2⟩
end Go.Proofs.Ythijblakadifiaa
