/- codec.Read makes a reader; the statements' awake answers true. -/
import Derived.Test.YthijblakadifiaaRdS
namespace Go.Proofs.Ythijblakadifiaa
open Go.RowKit

set_option maxHeartbeats 400000 in
theorem read_any (s : ByteArray) (w : World) : Calls Try.prog 16 #[.string s] w fun e w' => e = .returned (.pointer (some ⟨w.heap.size, 0, none⟩)) ∧ Rdr w' w.heap.size s 0 ∧ Below w.heap.size w w' := by
  go_enter Try.func16, Try.ntmps16
  go_wp2
  go_ret
  exact ⟨rfl, bk_new _ _, (Below.refl _ _).alloc (Nat.le_refl _) _⟩

theorem enc300 : enc 300 = [130, 44] := by simp [enc, hi_pos, hi_zero]
theorem enc1 : enc 1 = [1] := by simp [enc, hi_zero]
theorem enc2 : enc 2 = [2] := by simp [enc, hi_zero]
theorem bs_list (l : List UInt8) : (bs l).toList = l := by rw [ByteArray.toList_eq]; rfl
theorem bs_lit (l : List UInt8) : (⟨l.toArray⟩ : ByteArray) = bs l := rfl

theorem Rdr.grown {w w1 : World} {b : Nat} {s : ByteArray} {e : Int} {r : Option Nat} (h : Rdr w b s e) (hg : w.grownBy w1 r) (hne : some b ≠ r) : Rdr w1 b s e := bk_grown h hg hne
theorem Rdr.below {w w1 : World} {b : Nat} {s : ByteArray} {e : Int} (h : Rdr w b s e) (hb : Below w.heap.size w w1) : Rdr w1 b s e := bk_below h hb
theorem Rdr.lt {w : World} {b : Nat} {s : ByteArray} {e : Int} (h : Rdr w b s e) : b < w.heap.size := bk_lt h

attribute [local go_sem] bs_list
set_option maxHeartbeats 1000000 in
set_option maxRecDepth 100000 in
theorem awake_any (w : World) : Calls Try.prog 9 #[] w fun e w' => e = .returned (.bool true) ∧ Below w.heap.size w w' := by
  go_enter Try.func9, Try.ntmps9
  go_wp2_with fail
  refine (read_any _ _).mono ?_
  rintro e w1 ⟨rfl, hr1, hb1⟩
  have R1 := hide hr1
  have l1 := hr1.lt
  clear hr1
  go_wp2_with fail
  refine (read_any _ _).mono ?_
  rintro e w2 ⟨rfl, hr2, hb2⟩
  have R2 := hide hr2
  have S1 := hide (R1.out.below hb2)
  clear hr2 R1
  go_wp2_with fail
  refine (uint_rd_any _ [128, 1] _ _ S1.out).mono ?_
  rintro e w3 ⟨rfl, hr3, hg3⟩
  have S2 := hide (R2.out.grown hg3 (by simp; omega))
  have S3 : Hid (Rdr w3 w.heap.size (bs []) 2) := hr3
  clear hr3 R2 S1
  go_wp2_with fail
  refine (uint_rd_any _ [130] _ _ S2.out).mono ?_
  rintro e w4 ⟨rfl, hr4, hg4⟩
  have S4 := hide (S3.out.grown hg4 (by simp; omega))
  have S5 : Hid (Rdr w4 w1.heap.size (bs []) 3) := hr4
  clear hr4 S2 S3
  go_wp2_with fail
  refine (uint_any 300 (by omega) (by omega) _).mono ?_
  rw [show (300 : Int).toNat = 300 from rfl, enc300]
  rintro e w5 ⟨rfl, hb5⟩
  have S6 := hide (S4.out.below hb5)
  have S7 := hide (S5.out.below hb5)
  clear S4 S5
  go_wp2_with fail
  refine (int_any (-1) (by omega) (by omega) _).mono ?_
  rw [show foldZ (-1) = 1 from rfl, enc1]
  rintro e w6 ⟨rfl, hb6⟩
  have S8 := hide (S6.out.below hb6)
  have S9 := hide (S7.out.below hb6)
  clear S6 S7
  go_wp2_with fail
  refine (int_any 1 (by omega) (by omega) _).mono ?_
  rw [show foldZ 1 = 2 from rfl, enc2]
  rintro e w7 ⟨rfl, hb7⟩
  have T1 := hide (S8.out.below hb7)
  have T2 := hide (S9.out.below hb7)
  clear S8 S9
  go_wp2_with fail
  refine (str_any ⟨#[97, 98]⟩ (by decide) _).mono ?_
  rw [show bs (enc (ByteArray.size ⟨#[97, 98]⟩)) ++ ⟨#[97, 98]⟩ = bs [2, 97, 98] from by rw [show ByteArray.size ⟨#[97, 98]⟩ = 2 from rfl, enc2]; rfl]
  rintro e w8 ⟨rfl, hb8⟩
  have T3 := hide (T1.out.below hb8)
  have T4 := hide (T2.out.below hb8)
  clear T1 T2
  go_wp2_with fail
  refine (err_any _ _ _ _ T3.out).mono ?_
  rintro e w' ⟨rfl, rfl⟩
  go_wp2_with fail
  refine (err_any _ _ _ _ T4.out).mono ?_
  rintro e w' ⟨rfl, rfl⟩
  go_wp2_with fail
  refine (read_any _ _).mono ?_
  rintro e w9 ⟨rfl, hr9, hb9⟩
  have R9 := hide hr9
  clear hr9
  go_wp2_with fail
  refine (uint_rd_any _ [130, 44] _ _ R9.out).mono ?_
  rw [show (uR [130, 44] 0).1 = 300 from by decide]
  rintro e w10 ⟨rfl, hr10, hg10⟩
  clear hr10
  go_wp2_with fail
  go_ret
  refine ⟨rfl, ?_⟩
  have B2 : Below w.heap.size w w2 := below_step hb1 hb1.size hb2
  have B3 : Below w.heap.size w w3 := B2.grown hg3 B2.size (by simp)
  have B4 : Below w.heap.size w w4 := B3.grown hg4 B3.size (by simp; omega)
  have B5 := below_step B4 B4.size hb5
  have B6 := below_step B5 B5.size hb6
  have B7 := below_step B6 B6.size hb7
  have B8 := below_step B7 B7.size hb8
  have B9 := below_step B8 B8.size hb9
  exact B9.grown hg10 B9.size (by simp; exact B8.size)
end Go.Proofs.Ythijblakadifiaa
