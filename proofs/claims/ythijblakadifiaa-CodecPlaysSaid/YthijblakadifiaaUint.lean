/- codec.Uint(n) returns the number's digits to the base 128: the walk through its text. For every n. -/
import Derived.Test.YthijblakadifiaaProg
import Derived.Test.YthijblakadifiaaBase
import Derived.Test.YthijblakadifiaaMath
import Derived.Laws.BytesString
import Derived.Laws.BytesArg
import Derived.Laws.Slices
namespace Go.Proofs.Ythijblakadifiaa
open Go.RowKit

def u8s (l : List UInt8) : List Value := l.map fun c => .int .u8 (c.toNat : Int)
def blk (a : Nat) (l : List UInt8) : Array Value := (List.replicate a (Value.int .u8 0) ++ u8s l).toArray
theorem blk_size (a : Nat) (l : List UInt8) : (blk a l).size = a + l.length := by simp [blk, u8s]
theorem blk_set (a : Nat) (l : List UInt8) (c : UInt8) : (blk (a + 1) l).setIfInBounds a (.int .u8 (c.toNat : Int)) = blk a (c :: l) := by
  unfold blk
  apply Array.ext'
  simp [u8s, List.replicate_succ']
theorem blk_start (N : Nat) : blk 9 [UInt8.ofNat (N % 128)] = #[.int .u8 0, .int .u8 0, .int .u8 0, .int .u8 0, .int .u8 0, .int .u8 0, .int .u8 0, .int .u8 0, .int .u8 0, .int .u8 (N % 128 : Nat)] := by
  unfold blk u8s
  have : (UInt8.ofNat (N % 128)).toNat = N % 128 := by simp; omega
  simp [this]
theorem blk_get (a : Nat) (l : List UInt8) (i : Nat) (h : i < l.length) : (blk a l)[a + i]? = some (.int .u8 ((l.map fun c => (c.toNat : Int)).getD i 0)) := by
  unfold blk u8s
  simp [h]

theorem or128 (x : Nat) (h : x < 128) : bits BinOp.or IntKind.u8 (x : Int) 128 = ((UInt8.ofNat (x + 128)).toNat : Int) := by
  have : ∀ y : Fin 128, bits BinOp.or IntKind.u8 ((y.val : Nat) : Int) 128 = ((UInt8.ofNat (y.val + 128)).toNat : Int) := by decide +kernel
  exact this ⟨x, h⟩

theorem slice10 (B a : Nat) (h : a < 10) (W : World) : (Instr.sliceAt 48 (.pointer (some ⟨B, 0, none⟩)) (some (.int .i64 (a : Int))) none none).run Try.prog W = .ok (.slice (some ⟨B, a, none⟩) (10 - a) (10 - a)) W := by
  have hl : Try.prog.arrayLen 48 = 10 := by kernel_rfl
  have hs : ∀ w, (sizeOf (Try.prog.elem 48)).run Try.prog w = .ok 1 w := fun w => by kernel_rfl
  rw [run_sliceAt_array_l (P := Try.prog) W 48 ⟨B, 0, none⟩ (by kernel_rfl) .i64 a (by omega) (by rw [hl]; omega), hl, hs]
  simp only [Result.andThen, slicedAt, Int.toNat_natCast]
  rw [if_neg (by omega)]
  have : (⟨B, 0, none⟩ : Addr).add (a * 1) = ⟨B, a, none⟩ := by unfold Addr.add; split <;> simp_all
  rw [this]

theorem conv10 (B a : Nat) (l : List UInt8) (h : a + l.length = 10) (w : World) (hb : w.heap[B]? = some (.cells (blk a l) 48 (0, 0))) : (convert 49 9 (.slice (some ⟨B, a, none⟩) (10 - a) (10 - a))).run Try.prog w = .ok (.string (bs l)) w := by
  rw [run_convert_bytes_arg (P := Try.prog) w 49 5 Try.underlying49 Try.underlying5 B a (10 - a) (10 - a) (l.map fun c => (c.toNat : Int)) (by simp; omega) (fun i hi => by rw [bk_cell hb, blk_get a l i (by omega)]) 9 Try.underlying9]
  congr 2
  unfold strOfNums bs
  congr 1
  apply congrArg List.toArray
  rw [List.map_map]
  refine Eq.trans (List.map_congr_left (g := id) fun c _ => ?_) (List.map_id l)
  simp

set_option maxHeartbeats 400000 in
theorem uint_any (n : Int) (h0 : 0 ≤ n) (hn : n ≤ 18446744073709551615) (w : World) : Calls Try.prog 10 #[.int .u64 n] w fun e w' => e = .returned (.string (bs (enc n.toNat))) ∧ Below w.heap.size w w' := by
  obtain ⟨N, rfl⟩ := Int.eq_ofNat_of_zero_le h0
  rw [Int.toNat_natCast]
  go_enter Try.func10, Try.ntmps10
  go_wp2
  go_loopw [0, 4] (fun m at_ wr => ∃ (k : Nat) (a : Nat) (l : List UInt8), m = .int .u64 k ∧ at_ = .int .i64 a ∧ a + l.length = 10 ∧ 0 < l.length ∧ k * 128 ^ (l.length - 1) ≤ 144115188075855871 ∧ hi k ++ l = enc N ∧ wr.heap[w.heap.size]? = some (.cells (blk a l) 48 (0, 0)) ∧ Below w.heap.size w wr) (fun m _ _ => (intOf m).toNat)
  case atStart =>
    refine ⟨N / 128, 9, [UInt8.ofNat (N % 128)], rfl, rfl, rfl, by simp, by simp; omega, rfl, ?_, (Below.refl _ _).alloc (Nat.le_refl _) _⟩
    rw [blk_start]
    exact bk_new _ _
  case round =>
    obtain ⟨k, a, l, rfl, rfl, hal, hl, hk, he, hb, hB⟩ := hrel
    have hk1 : k ≤ 144115188075855871 := Nat.le_trans (Nat.le_mul_of_pos_right _ (Nat.pos_of_ne_zero (by simp))) hk
    by_cases hk0 : 0 < k
    · have hl9 : l.length ≤ 9 := by
        rcases Nat.lt_or_ge l.length 10 with h | h
        · omega
        · exfalso
          have e : l.length = 10 := by omega
          rw [e] at hk
          have : 1 * 128 ^ 9 ≤ k * 128 ^ 9 := Nat.mul_le_mul_right _ hk0
          omega
      obtain ⟨b, rfl⟩ : ∃ b, a = b + 1 := ⟨a - 1, by omega⟩
      have hb9 : b ≤ 9 := by omega
      have Hb := hide hb
      have hfr := bk_frozen hb b
      obtain ⟨v, hc⟩ : ∃ v, wr.cell? ⟨w.heap.size, b, none⟩ = some v := by
        rw [bk_cell hb]
        exact ⟨_, Array.getElem?_eq_getElem (by rw [blk_size]; omega)⟩
      have He := hide he
      have Hor := hide (or128 (k % 128) (by omega))
      have Hal := hide hal
      clear hb he hal
      go_wp2
      go_roundw
      case rel =>
        refine ⟨k / 128, b, UInt8.ofNat (k % 128 + 128) :: l, by go_num, by go_num, by have := Hal.out; simp; omega, by simp, ?_, ?_, ?_, hB.setCell (Nat.le_refl _) _⟩
        · have e : l.length - 1 + 1 = l.length := by omega
          have h1 : k / 128 * 128 ^ l.length ≤ k * 128 ^ (l.length - 1) := by
            rw [← e, Nat.pow_succ, Nat.add_sub_cancel, Nat.mul_comm (128 ^ _) 128, ← Nat.mul_assoc]
            exact Nat.mul_le_mul_right _ (Nat.div_mul_le_self k 128)
          simp only [List.length_cons, Nat.add_sub_cancel]
          omega
        · have := He.out
          rw [hi_pos k hk0] at this
          simpa using this
        · have := bk_set Hb.out b (.int .u8 ((UInt8.ofNat (k % 128 + 128)).toNat : Int))
          rw [blk_set] at this
          rw [← this, ← Hor.out]
          rfl
      case measure => simp [intOf]; omega
    · have Hb := hide hb
      have ha : a < 10 := by omega
      have hsl := slice10 w.heap.size a ha
      have hcv := conv10 w.heap.size a l hal wr hb
      have He := hide he
      have Hal := hide hal
      clear hb he hal
      have hk00 : k = 0 := by omega
      subst hk00
      go_wp2
      go_ret
      refine ⟨ret_str ?_, hB⟩
      have := He.out
      rw [hi_zero] at this
      rw [← this]; rfl
theorem uint_nat (N : Nat) (hn : N ≤ 18446744073709551615) (w : World) : Calls Try.prog 10 #[.int .u64 (N : Int)] w fun e w' => e = .returned (.string (bs (enc N))) ∧ Below w.heap.size w w' := by
  have := uint_any N (by omega) (by omega) w
  rwa [Int.toNat_natCast] at this
end Go.Proofs.Ythijblakadifiaa
