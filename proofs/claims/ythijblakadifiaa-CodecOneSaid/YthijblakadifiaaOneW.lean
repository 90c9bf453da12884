/- The walks of the statements CodecOne and CodecBack. -/
import Derived.Test.YthijblakadifiaaLaws
namespace Go.Proofs.Ythijblakadifiaa
open Go.RowKit
attribute [local go_sem] bs_list
set_option maxHeartbeats 1000000 in
set_option maxRecDepth 100000 in
theorem long_walk5 (s : ByteArray) (hl : 2000 < s.size) (w : World) :
    Calls Try.prog 5 #[.string s] w fun e w' => e = .returned (.bool true) ∧ Below w.heap.size w w' := by
  have hl2 : (2000 : Int) < (s.size : Int) := by omega
  go_enter Try.func5, Try.ntmps5
  go_wp2_with fail
  refine (awake_any _).mono ?_
  rintro e w1 ⟨rfl, hb1⟩
  go_wp2_with fail
  refine (awake_any _).mono ?_
  rintro e w2 ⟨rfl, hb2⟩
  go_wp2_with fail
  go_ret
  exact ⟨rfl, below_step hb1 hb1.size hb2⟩

set_option maxHeartbeats 1000000 in
set_option maxRecDepth 100000 in
theorem one_short (l : List UInt8) (hl : (bs l).size ≤ 2000) (n : Nat) (l1 : List UInt8) (e1 : Int) (hu : uRd true 0 l = (n, l1, e1)) (w : World) :
    Calls Try.prog 5 #[.string (bs l)] w fun e w' => e = .returned (.bool true) ∧ Below w.heap.size w w' := by
  have hl2 : ¬ (2000 : Int) < ((bs l).size : Int) := by omega
  have hur : uR l 0 = (n, l1, e1) := by rw [uR, if_pos rfl]; exact hu
  have hn := uR_le l 0
  rw [hur] at hn
  simp only at hn
  obtain ⟨hr0, hr1⟩ := unfoldZ_range n hn
  have HU := hide hu
  have HUR := hide hur
  have hsz := hide (bs_size l1)
  clear hu hur
  by_cases hok : e1 = 0 ∧ l1 = []
  · obtain ⟨rfl, rfl⟩ := hok
    obtain rfl := uRd_one l n HU.out
    go_enter Try.func5, Try.ntmps5
    go_wp2_with fail
    refine (awake_any _).mono ?_
    rintro e w1 ⟨rfl, hb1⟩
    go_wp2_with fail
    refine (read_any _ _).mono ?_
    rintro e w2 ⟨rfl, hr2, hb2⟩
    have R2 := hide hr2
    have lt2 := hr2.lt
    clear hr2
    go_wp2_with fail
    refine (read_any _ _).mono ?_
    rintro e w3 ⟨rfl, hr3, hb3⟩
    have R3 := hide hr3
    have R2' := hide (R2.out.below hb3)
    clear hr3 R2
    go_wp2_with fail
    refine (uint_rd_any _ _ _ _ R2'.out).mono ?_
    rw [HUR.out]
    rintro e w4 ⟨rfl, hr4, hg4⟩
    have R4 := hide hr4
    have R3' := hide (R3.out.grown hg4 (by simp; omega))
    clear hr4 R3
    go_wp2_with fail
    refine (int_rd _ _ _ _ R3'.out).mono ?_
    rw [HUR.out]
    rintro e w5 ⟨rfl, hr5, hg5⟩
    have R5 := hide hr5
    have R4' := hide (R4.out.grown hg5 (by simp; omega))
    clear hr5 R4
    go_wp2_with fail
    refine (err_any _ _ _ _ R4'.out).mono ?_
    rintro e w' ⟨rfl, rfl⟩
    go_wp2_with fail
    refine (left_any _ _ _ _ R4'.out).mono ?_
    rintro e w' ⟨rfl, rfl⟩
    go_wp2_with fail
    refine (uint_nat n hn _).mono ?_
    rintro e w6 ⟨rfl, hb6⟩
    have R6 := hide (R5.out.below hb6)
    clear R5
    go_wp2_with fail
    refine (int_any _ hr0 hr1 _).mono ?_
    rw [fold_unfold]
    rintro e w7 ⟨rfl, hb7⟩
    have R7 := hide (R6.out.below hb7)
    clear R6
    go_wp2_with fail
    refine (left_any _ _ _ _ R7.out).mono ?_
    rintro e w' ⟨rfl, rfl⟩
    go_wp2_with fail
    go_ret
    have B2 := below_step hb1 hb1.size hb2
    have B3 := below_step B2 B2.size hb3
    have B4 : Below w.heap.size w w4 := B3.grown hg4 B3.size (by simp; exact hb1.size)
    have B5 : Below w.heap.size w w5 := B4.grown hg5 B4.size (by simp; exact B2.size)
    have B6 := below_step B5 B5.size hb6
    exact ⟨rfl, below_step B6 B6.size hb7⟩
  · by_cases he : e1 = 0
    · subst he
      have hpos : 0 < (bs l1).size := by
        rw [bs_size]
        rcases Nat.eq_zero_or_pos l1.length with h | h
        · exact absurd ⟨rfl, List.eq_nil_of_length_eq_zero h⟩ hok
        · exact h
      have hpos2 : (0 : Int) < (bs l1).size := by omega
      clear hok
      go_enter Try.func5, Try.ntmps5
      go_wp2_with fail
      refine (awake_any _).mono ?_
      rintro e w1 ⟨rfl, hb1⟩
      go_wp2_with fail
      refine (read_any _ _).mono ?_
      rintro e w2 ⟨rfl, hr2, hb2⟩
      have R2 := hide hr2
      have lt2 := hr2.lt
      clear hr2
      go_wp2_with fail
      refine (read_any _ _).mono ?_
      rintro e w3 ⟨rfl, hr3, hb3⟩
      have R3 := hide hr3
      have R2' := hide (R2.out.below hb3)
      clear hr3 R2
      go_wp2_with fail
      refine (uint_rd_any _ _ _ _ R2'.out).mono ?_
      rw [HUR.out]
      rintro e w4 ⟨rfl, hr4, hg4⟩
      have R4 := hide hr4
      have R3' := hide (R3.out.grown hg4 (by simp; omega))
      clear hr4 R3
      go_wp2_with fail
      refine (int_rd _ _ _ _ R3'.out).mono ?_
      rw [HUR.out]
      rintro e w5 ⟨rfl, hr5, hg5⟩
      have R5 := hide hr5
      have R4' := hide (R4.out.grown hg5 (by simp; omega))
      clear hr5 R4
      go_wp2_with fail
      refine (err_any _ _ _ _ R4'.out).mono ?_
      rintro e w' ⟨rfl, rfl⟩
      go_wp2_with fail
      refine (left_any _ _ _ _ R4'.out).mono ?_
      rintro e w' ⟨rfl, rfl⟩
      go_wp2_with fail
      go_ret
      have B2 := below_step hb1 hb1.size hb2
      have B3 := below_step B2 B2.size hb3
      have B4 : Below w.heap.size w w4 := B3.grown hg4 B3.size (by simp; exact hb1.size)
      exact ⟨rfl, B4.grown hg5 B4.size (by simp; exact B2.size)⟩
    · have he2 : (e1 != 0) = true := by simpa using he
      clear he hok
      go_enter Try.func5, Try.ntmps5
      go_wp2_with fail
      refine (awake_any _).mono ?_
      rintro e w1 ⟨rfl, hb1⟩
      go_wp2_with fail
      refine (read_any _ _).mono ?_
      rintro e w2 ⟨rfl, hr2, hb2⟩
      have R2 := hide hr2
      have lt2 := hr2.lt
      clear hr2
      go_wp2_with fail
      refine (read_any _ _).mono ?_
      rintro e w3 ⟨rfl, hr3, hb3⟩
      have R3 := hide hr3
      have R2' := hide (R2.out.below hb3)
      clear hr3 R2
      go_wp2_with fail
      refine (uint_rd_any _ _ _ _ R2'.out).mono ?_
      rw [HUR.out]
      rintro e w4 ⟨rfl, hr4, hg4⟩
      have R4 := hide hr4
      have R3' := hide (R3.out.grown hg4 (by simp; omega))
      clear hr4 R3
      go_wp2_with fail
      refine (int_rd _ _ _ _ R3'.out).mono ?_
      rw [HUR.out]
      rintro e w5 ⟨rfl, hr5, hg5⟩
      have R5 := hide hr5
      have R4' := hide (R4.out.grown hg5 (by simp; omega))
      clear hr5 R4
      go_wp2_with fail
      refine (err_any _ _ _ _ R4'.out).mono ?_
      rintro e w' ⟨rfl, rfl⟩
      go_wp2_with fail
      go_ret
      have B2 := below_step hb1 hb1.size hb2
      have B3 := below_step B2 B2.size hb3
      have B4 : Below w.heap.size w w4 := B3.grown hg4 B3.size (by simp; exact hb1.size)
      exact ⟨rfl, B4.grown hg5 B4.size (by simp; exact B2.size)⟩

theorem one_walk (s : ByteArray) (_hs : s.size ≤ maxLen) (w : World) :
    Calls Try.prog 5 #[.string s] w fun e w' => e = .returned (.bool true) ∧ Below w.heap.size w w' := by
  by_cases hl : s.size ≤ 2000
  · obtain ⟨l, rfl⟩ : ∃ l, s = bs l := ⟨_, (bs_self s).symm⟩
    exact one_short l hl _ _ _ rfl w
  · exact long_walk5 s (by omega) w
end Go.Proofs.Ythijblakadifiaa
