/- codec.Int and codec.Str, and what they call, return the bytes that their names say. -/
import Derived.Test.YthijblakadifiaaUint
import Derived.Laws.BitsAllLaws
import Derived.WalkSmall
namespace Go.Proofs.Ythijblakadifiaa
open Go.RowKit

def foldZ (n : Int) : Nat := if n < 0 then (2 * (-1 - n) + 1).toNat else (2 * n).toNat
def unfoldZ (n : Nat) : Int := if n % 2 = 1 then -1 - (n / 2 : Nat) else (n / 2 : Nat)

theorem not64 (a : Int) (h0 : -9223372036854775808 ≤ a) (h1 : a ≤ 9223372036854775807) : bits .xor .i64 (-1) a = -1 - a := by
  show IntKind.i64.wrap ((BitVec.ofInt 64 (-1) ^^^ BitVec.ofInt 64 a).toNat : Int) = _
  have h2 : BitVec.ofInt 64 (-1) = BitVec.allOnes 64 := by decide
  rw [h2, BitVec.allOnes_xor, BitVec.toNat_not, BitVec.toNat_ofInt]
  simp [IntKind.wrap, IntKind.bits, IntKind.signed]
  omega
theorem or1 (a : Int) (h0 : 0 ≤ a) (h1 : a < 9223372036854775808) : bits .or .u64 (a * 2) 1 = a * 2 + 1 := by
  obtain ⟨m, rfl⟩ := Int.eq_ofNat_of_zero_le h0
  have := u64_or_nat (m * 2) 1 (by omega) (by omega)
  rw [nat_join 1 (m * 2) 1 (by omega) (by omega)] at this
  simpa using this

set_option maxHeartbeats 400000 in
theorem fold_any (n : Int) (h0 : -9223372036854775808 ≤ n) (hn : n ≤ 9223372036854775807) (w : World) : Calls Try.prog 32 #[.int .i64 n] w fun e w' => e = .returned (.int .u64 (foldZ n : Int)) ∧ w = w' := by
  by_cases h : n < 0
  · have e1 := not64 n h0 hn
    have e2 : IntKind.u64.wrap (bits .xor .i64 (-1) n) = -1 - n := by rw [e1, IntKind.wrap_u64]; omega
    have e3 : IntKind.u64.wrap ((-1 - n) * 2) = (-1 - n) * 2 := by rw [IntKind.wrap_u64]; omega
    have e4 := or1 (-1 - n) (by omega) (by omega)
    have H := hide (And.intro e2 (And.intro e3 e4))
    clear e1 e2 e3 e4
    go_enter Try.func32, Try.ntmps32
    go_wp2
    go_ret
    refine ⟨?_, rfl⟩
    obtain ⟨e2, e3, e4⟩ := H.out
    refine ret_int ?_
    rw [e2, e3, e4]
    unfold foldZ; rw [if_pos (by omega)]; omega
  · go_enter Try.func32, Try.ntmps32
    go_wp2
    go_ret
    exact ⟨ret_int (by unfold foldZ; rw [if_neg (by omega)]; omega), rfl⟩
set_option maxHeartbeats 400000 in
theorem unfold_any (n : Nat) (hn : n ≤ 18446744073709551615) (w : World) : Calls Try.prog 33 #[.int .u64 (n : Int)] w fun e w' => e = .returned (.int .i64 (unfoldZ n)) ∧ w = w' := by
  have e0 := and_one_u64 n (by omega) (by omega)
  by_cases h : n % 2 = 1
  · have hb : (bits BinOp.and IntKind.u64 (n : Int) 1 == 1) = true := by rw [e0, beq_iff_eq]; omega
    have e1 := hide (not64 ((n : Int) / 2) (by omega) (by omega))
    clear e0
    go_enter Try.func33, Try.ntmps33
    go_wp2
    go_ret
    refine ⟨ret_int ?_, rfl⟩
    rw [e1.out]; unfold unfoldZ; rw [if_pos (by omega)]; omega
  · have hb : (bits BinOp.and IntKind.u64 (n : Int) 1 == 1) = false := by rw [e0, beq_eq_false_iff_ne]; omega
    clear e0
    go_enter Try.func33, Try.ntmps33
    go_wp2
    go_ret
    exact ⟨ret_int (by unfold unfoldZ; rw [if_neg (by omega)]; omega), rfl⟩
theorem foldZ_le (n : Int) (h0 : -9223372036854775808 ≤ n) (hn : n ≤ 9223372036854775807) : foldZ n ≤ 18446744073709551615 := by
  unfold foldZ; split <;> omega
set_option maxHeartbeats 400000 in
theorem int_any (n : Int) (h0 : -9223372036854775808 ≤ n) (hn : n ≤ 9223372036854775807) (w : World) : Calls Try.prog 12 #[.int .i64 n] w fun e w' => e = .returned (.string (bs (enc (foldZ n)))) ∧ Below w.heap.size w w' := by
  have hz := foldZ_le n h0 hn
  go_enter Try.func12, Try.ntmps12
  go_wp2_with (first | (go_at_call 32; refine (fold_any _ h0 hn _).mono ?_; rintro e w' ⟨rfl, rfl⟩) | (go_at_call 10; refine (uint_any _ (by omega) (by omega) _).mono ?_; rintro e w1 ⟨rfl, hb⟩))
  go_ret
  exact ⟨by simp, hb⟩
set_option maxHeartbeats 400000 in
theorem str_any (s : ByteArray) (hs : s.size ≤ 4611686018427387903) (w : World) : Calls Try.prog 14 #[.string s] w fun e w' => e = .returned (.string (bs (enc s.size) ++ s)) ∧ Below w.heap.size w w' := by
  have hl := enc_len s.size (by omega)
  have hl2 : (bs (enc s.size)).size ≤ 10 := by rw [bs_size]; exact hl
  go_enter Try.func14, Try.ntmps14
  go_wp2_with (first | (go_at_call 10; refine (uint_any _ (by omega) (by omega) _).mono ?_; rintro e w1 ⟨rfl, hb⟩))
  go_ret
  exact ⟨by simp, hb⟩
end Go.Proofs.Ythijblakadifiaa
