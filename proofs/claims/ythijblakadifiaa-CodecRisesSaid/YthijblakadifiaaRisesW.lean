/- The walk of the statement CodecRises. -/
import Derived.Test.YthijblakadifiaaLaws
import Derived.Deep.QuietTactic
import Derived.BigQuiet
import Derived.WalkSmall
namespace Go.Proofs.Ythijblakadifiaa
open Go.RowKit
attribute [local go_sem] bs_list
set_option maxHeartbeats 1000000 in
set_option maxRecDepth 100000 in
theorem rises_eq (N : Nat) (hN : N ≤ 18446744073709551615) (w : World) :
    Calls Try.prog 4 #[.int .u64 (N : Int), .int .u64 (N : Int)] w fun e w' => e = .returned (.bool true) ∧ Below w.heap.size w w' := by
  go_enter Try.func4, Try.ntmps4
  go_wp2_with fail
  refine (awake_any _).mono ?_
  rintro e w1 ⟨rfl, hb1⟩
  go_wp2_with fail
  refine (uint_nat N hN _).mono ?_
  rintro e w2 ⟨rfl, hb2⟩
  go_wp2_with fail
  refine (uint_nat N hN _).mono ?_
  rintro e w3 ⟨rfl, hb3⟩
  go_wp2_with fail
  go_ret
  have B2 := below_step hb1 hb1.size hb2
  exact ⟨rfl, below_step B2 B2.size hb3⟩
set_option maxHeartbeats 1000000 in
set_option maxRecDepth 100000 in
theorem rises_A1 (a b : Nat) (hN : a ≤ 18446744073709551615) (hM : b ≤ 18446744073709551615) (hab : a < b) (p q : ByteArray) (hp : bs (enc a) = p) (hq : bs (enc b) = q)
    (hl : p.size < q.size) (hd : ((p.extract 0 p.size).toList == (q.extract 0 p.size).toList) = false) (w : World) :
    Calls Try.prog 4 #[.int .u64 (a : Int), .int .u64 (b : Int)] w fun e w' => e = .returned (.bool true) ∧ Below w.heap.size w w' := by
  have hne : ((a : Int) == b) = false := by rw [beq_eq_false_iff_ne]; omega
  have hle : ¬ ((b : Int) < a) := by omega
  have hdab : decide (b < a) = false := by simp; omega
  have hll : ¬ ((q.size : Int) < p.size) := by omega
  have hll2 : ((p.size : Int) == q.size) = false := by rw [beq_eq_false_iff_ne]; omega
  have hd1 : decide (q.size < p.size) = false := by simp; omega
  have hi1 : (p.size : Int) ≤ q.size := by omega
  have hi2 : p.size ≤ q.size := by omega
  have HD := hide hd
  clear hd
  have HP := hide hp
  have HQ := hide hq
  clear hp hq
  go_enter Try.func4, Try.ntmps4
  go_wp2_with fail
  refine (awake_any _).mono ?_
  rintro e w1 ⟨rfl, hb1⟩
  go_wp2_with fail
  refine (uint_nat a hN _).mono ?_
  rw [HP.out]
  rintro e w2 ⟨rfl, hb2⟩
  go_wp2_with fail
  refine (uint_nat b hM _).mono ?_
  rw [HQ.out]
  rintro e w3 ⟨rfl, hb3⟩
  go_wp2_with fail
  go_quiet (fail)
  go_wp2
  go_ret
  have B2 := below_step hb1 hb1.size hb2
  exact ⟨ret_bool (by simpa using HD.out), below_drewN (below_step B2 B2.size hb3) _⟩
set_option maxHeartbeats 1000000 in
set_option maxRecDepth 100000 in
theorem rises_A2 (a b : Nat) (hN : a ≤ 18446744073709551615) (hM : b ≤ 18446744073709551615) (hab : a < b) (p q : ByteArray) (hp : bs (enc a) = p) (hq : bs (enc b) = q)
    (hl : p.size = q.size) (hls : (!(Op.bytesLess p.toList q.toList || p.toList == q.toList)) = false) (hd : ((p.extract 0 p.size).toList == (q.extract 0 p.size).toList) = false) (w : World) :
    Calls Try.prog 4 #[.int .u64 (a : Int), .int .u64 (b : Int)] w fun e w' => e = .returned (.bool true) ∧ Below w.heap.size w w' := by
  have hne : ((a : Int) == b) = false := by rw [beq_eq_false_iff_ne]; omega
  have hle : ¬ ((b : Int) < a) := by omega
  have hdab : decide (b < a) = false := by simp; omega
  have hll : ¬ ((q.size : Int) < p.size) := by omega
  have hll2 : ((p.size : Int) == q.size) = true := by rw [beq_iff_eq]; omega
  have hd1 : decide (q.size < p.size) = false := by simp; omega
  have hi1 : (p.size : Int) ≤ q.size := by omega
  have hi2 : p.size ≤ q.size := by omega
  have HL := hide hl
  clear hl
  have HD := hide hd
  clear hd
  have HP := hide hp
  have HQ := hide hq
  clear hp hq
  go_enter Try.func4, Try.ntmps4
  go_wp2_with fail
  refine (awake_any _).mono ?_
  rintro e w1 ⟨rfl, hb1⟩
  go_wp2_with fail
  refine (uint_nat a hN _).mono ?_
  rw [HP.out]
  rintro e w2 ⟨rfl, hb2⟩
  go_wp2_with fail
  refine (uint_nat b hM _).mono ?_
  rw [HQ.out]
  rintro e w3 ⟨rfl, hb3⟩
  go_wp2_with fail
  go_quiet (fail)
  go_wp2
  go_ret
  have B2 := below_step hb1 hb1.size hb2
  exact ⟨ret_bool (by simpa using HD.out), below_drewN (below_step B2 B2.size hb3) _⟩
set_option maxHeartbeats 1000000 in
set_option maxRecDepth 100000 in
theorem rises_B1 (a b : Nat) (hN : a ≤ 18446744073709551615) (hM : b ≤ 18446744073709551615) (hab : b < a) (p q : ByteArray) (hp : bs (enc a) = p) (hq : bs (enc b) = q)
    (hl : q.size < p.size) (hd : ((p.extract 0 q.size).toList == (q.extract 0 q.size).toList) = false) (w : World) :
    Calls Try.prog 4 #[.int .u64 (a : Int), .int .u64 (b : Int)] w fun e w' => e = .returned (.bool true) ∧ Below w.heap.size w w' := by
  have hne : ((a : Int) == b) = false := by rw [beq_eq_false_iff_ne]; omega
  have hle : (b : Int) < a := by omega
  have hdab : decide (b < a) = true := by simp; omega
  have hll : (q.size : Int) < p.size := by omega
  have hd1 : decide (q.size < p.size) = true := by simp; omega
  have hi1 : (q.size : Int) ≤ p.size := by omega
  have hi2 : q.size ≤ p.size := by omega
  have HD := hide hd
  clear hd
  have HP := hide hp
  have HQ := hide hq
  clear hp hq
  go_enter Try.func4, Try.ntmps4
  go_wp2_with fail
  refine (awake_any _).mono ?_
  rintro e w1 ⟨rfl, hb1⟩
  go_wp2_with fail
  refine (uint_nat a hN _).mono ?_
  rw [HP.out]
  rintro e w2 ⟨rfl, hb2⟩
  go_wp2_with fail
  refine (uint_nat b hM _).mono ?_
  rw [HQ.out]
  rintro e w3 ⟨rfl, hb3⟩
  go_wp2_with fail
  go_quiet (fail)
  go_wp2
  go_ret
  have B2 := below_step hb1 hb1.size hb2
  exact ⟨ret_bool (by simpa using HD.out), below_drewN (below_step B2 B2.size hb3) _⟩
set_option maxHeartbeats 1000000 in
set_option maxRecDepth 100000 in
theorem rises_B2 (a b : Nat) (hN : a ≤ 18446744073709551615) (hM : b ≤ 18446744073709551615) (hab : b < a) (p q : ByteArray) (hp : bs (enc a) = p) (hq : bs (enc b) = q)
    (hl : p.size = q.size) (hls : (!(Op.bytesLess p.toList q.toList || p.toList == q.toList)) = true) (hd : ((p.extract 0 p.size).toList == (q.extract 0 p.size).toList) = false) (w : World) :
    Calls Try.prog 4 #[.int .u64 (a : Int), .int .u64 (b : Int)] w fun e w' => e = .returned (.bool true) ∧ Below w.heap.size w w' := by
  have hne : ((a : Int) == b) = false := by rw [beq_eq_false_iff_ne]; omega
  have hle : (b : Int) < a := by omega
  have hdab : decide (b < a) = true := by simp; omega
  have hll : ¬ ((q.size : Int) < p.size) := by omega
  have hll2 : ((p.size : Int) == q.size) = true := by rw [beq_iff_eq]; omega
  have hd1 : decide (q.size < p.size) = false := by simp; omega
  have hi1 : (p.size : Int) ≤ q.size := by omega
  have hi2 : p.size ≤ q.size := by omega
  have HL := hide hl
  clear hl
  have HD := hide hd
  clear hd
  have HP := hide hp
  have HQ := hide hq
  clear hp hq
  go_enter Try.func4, Try.ntmps4
  go_wp2_with fail
  refine (awake_any _).mono ?_
  rintro e w1 ⟨rfl, hb1⟩
  go_wp2_with fail
  refine (uint_nat a hN _).mono ?_
  rw [HP.out]
  rintro e w2 ⟨rfl, hb2⟩
  go_wp2_with fail
  refine (uint_nat b hM _).mono ?_
  rw [HQ.out]
  rintro e w3 ⟨rfl, hb3⟩
  go_wp2_with fail
  go_quiet (fail)
  go_wp2
  go_ret
  have B2 := below_step hb1 hb1.size hb2
  exact ⟨ret_bool (by simpa using HD.out), below_drewN (below_step B2 B2.size hb3) _⟩

theorem rises_walk (a : Int) (ha : (Lit.int .u64 a).wf = true) (b : Int) (hb : (Lit.int .u64 b).wf = true) (w : World) :
    Calls Try.prog 4 #[.int .u64 a, .int .u64 b] w fun e w' => e = .returned (.bool true) ∧ Below w.heap.size w w' := by
  obtain ⟨a0, a1⟩ := wf_u64 ha
  obtain ⟨b0, b1⟩ := wf_u64 hb
  clear ha hb
  obtain ⟨A, rfl⟩ := Int.eq_ofNat_of_zero_le a0
  obtain ⟨B, rfl⟩ := Int.eq_ofNat_of_zero_le b0
  have hA : A ≤ 18446744073709551615 := by omega
  have hB : B ≤ 18446744073709551615 := by omega
  have ext : ∀ (l : List UInt8) (k : Nat), ((bs l).extract 0 k).toList = l.take k := fun l k => by rw [bs_take, bs_list]
  rcases Nat.lt_trichotomy A B with h | rfl | h
  · rcases enc_lower A B h with h1 | ⟨h1, h2⟩
    · refine rises_A1 A B hA hB h _ _ rfl rfl (by rw [bs_size, bs_size]; exact h1) ?_ w
      rw [ext, ext, beq_eq_false_iff_ne, bs_size]
      intro e
      have := enc_prefix A B hA hB _ (by rw [Nat.min_eq_left (Nat.le_of_lt h1)]) e
      omega
    · refine rises_A2 A B hA hB h _ _ rfl rfl (by rw [bs_size, bs_size]; exact h1) (by rw [bs_list, bs_list, h2]; rfl) ?_ w
      rw [ext, ext, beq_eq_false_iff_ne, bs_size]
      intro e
      have := enc_prefix A B hA hB _ (by rw [Nat.min_eq_left (Nat.le_of_eq h1)]) e
      omega
  · exact rises_eq A hA w
  · rcases enc_lower B A h with h1 | ⟨h1, h2⟩
    · refine rises_B1 A B hA hB h _ _ rfl rfl (by rw [bs_size, bs_size]; exact h1) ?_ w
      rw [ext, ext, beq_eq_false_iff_ne, bs_size]
      intro e
      have := enc_prefix A B hA hB _ (by rw [Nat.min_eq_right (Nat.le_of_lt h1)]) e
      omega
    · refine rises_B2 A B hA hB h _ _ rfl rfl (by rw [bs_size, bs_size]; exact h1.symm) ?_ ?_ w
      · rw [bs_list, bs_list, less_asymm _ _ h2]
        rw [Bool.false_or, Bool.not_eq_true', beq_eq_false_iff_ne]
        intro e
        have := (enc_inj (t := []) (u := []) hA hB (by rw [List.append_nil, List.append_nil]; exact e)).1
        omega
      · rw [ext, ext, beq_eq_false_iff_ne, bs_size]
        intro e
        have := enc_prefix A B hA hB _ (by rw [Nat.min_eq_left (Nat.le_of_eq h1.symm)]) e
        omega
end Go.Proofs.Ythijblakadifiaa
