/- The walk of the statement GapAdds. -/
import Derived.Test.YtfhokhhpfdmfiaaAwake
namespace Go.Proofs.Ytfhokhhpfdmfiaa
open Go.RowKit

theorem addM_comm (a b : Nat) : addM b a = addM a b := by unfold addM; rw [Nat.add_comm]
theorem addM_assoc (a b c : Nat) : addM (addM a b) c = addM a (addM b c) := by
  unfold addM far; split <;> split <;> split <;> (try split) <;> omega
theorem addM_ge (a b : Nat) (ha : a ≤ 18446744073709551615) : a ≤ addM a b := by unfold addM far; split <;> omega
theorem addM_zero (a : Nat) (ha : a ≤ 18446744073709551615) : addM a 0 = a := by unfold addM far; split <;> omega

set_option maxHeartbeats 4000000 in
set_option maxRecDepth 100000 in
theorem adds_walk (a : Int) (ha : (Lit.int .u64 a).wf = true) (b : Int) (hb : (Lit.int .u64 b).wf = true) (c : Int) (hc : (Lit.int .u64 c).wf = true) (w : World) :
    Calls Try.prog 4 #[.int .u64 a, .int .u64 b, .int .u64 c] w fun e w' => e = .returned (.bool true) ∧ Below w.heap.size w w' := by
  obtain ⟨a0, a1⟩ := wf_u64 ha
  obtain ⟨b0, b1⟩ := wf_u64 hb
  obtain ⟨c0, c1⟩ := wf_u64 hc
  clear ha hb hc
  obtain ⟨A, rfl⟩ := Int.eq_ofNat_of_zero_le a0
  obtain ⟨B, rfl⟩ := Int.eq_ofNat_of_zero_le b0
  obtain ⟨C, rfl⟩ := Int.eq_ofNat_of_zero_le c0
  have lA : A ≤ 18446744073709551615 := by omega
  have lB : B ≤ 18446744073709551615 := by omega
  have lC : C ≤ 18446744073709551615 := by omega
  have F1 := hide (addM_comm A B)
  have F2 := hide (addM_assoc A B C)
  have hge := addM_ge A B lA
  have F4 := hide (addM_zero A lA)
  have g1 := addM_le A B
  have g2 := addM_le B C
  unfold far at g1 g2
  generalize hAB : addM A B = AB at *
  generalize hBC : addM B C = BC at *
  have HAB := hide hAB
  have HBC := hide hBC
  have hge2 : (A : Int) ≤ AB := by omega
  clear hAB hBC
  go_enter Try.func4, Try.ntmps4
  go_wp2_with fail
  refine (awake_any _).mono ?_
  rintro e w1 ⟨rfl, hb1⟩
  go_wp2_with fail
  refine (add_any A B lA lB _).mono ?_
  rw [HAB.out]
  rintro e w' ⟨rfl, rfl⟩
  go_wp2_with fail
  refine (refadd_any A B lA lB _).mono ?_
  rw [HAB.out]
  rintro e w' ⟨rfl, rfl⟩
  go_wp2_with fail
  refine (add_any A B lA lB _).mono ?_
  rw [HAB.out]
  rintro e w' ⟨rfl, rfl⟩
  go_wp2_with fail
  refine (add_any B A lB lA _).mono ?_
  rw [F1.out]
  rintro e w' ⟨rfl, rfl⟩
  go_wp2_with fail
  refine (add_any B C lB lC _).mono ?_
  rw [HBC.out]
  rintro e w' ⟨rfl, rfl⟩
  go_wp2_with fail
  refine (add_any A BC lA g2 _).mono ?_
  rw [← F2.out]
  rintro e w' ⟨rfl, rfl⟩
  go_wp2_with fail
  refine (add_any A B lA lB _).mono ?_
  rw [HAB.out]
  rintro e w' ⟨rfl, rfl⟩
  go_wp2_with fail
  refine (add_any AB C g1 lC _).mono ?_
  rintro e w' ⟨rfl, rfl⟩
  go_wp2_with fail
  refine (add_any A B lA lB _).mono ?_
  rw [HAB.out]
  rintro e w' ⟨rfl, rfl⟩
  go_wp2_with fail
  refine (add_any A 0 lA (by omega) _).mono ?_
  rw [F4.out]
  rintro e w' ⟨rfl, rfl⟩
  go_wp2_with fail
  go_ret
  exact ⟨rfl, hb1⟩
end Go.Proofs.Ytfhokhhpfdmfiaa
