/- The reference's digits, Uint, Int and Str return the same bytes. -/
import Derived.Test.YthijblakadifiaaAwake
import Derived.OwnWalk
namespace Go.Proofs.Ythijblakadifiaa
open Go.RowKit

/-- All digits of a number, the greatest one first, as they are. -/
def dgs (n : Nat) : List UInt8 := if _h : n < 128 then [UInt8.ofNat n] else dgs (n / 128) ++ [UInt8.ofNat (n % 128)]
termination_by n
decreasing_by omega
theorem dgs_low (n : Nat) (h : n < 128) : dgs n = [UInt8.ofNat n] := by rw [dgs, dif_pos h]
theorem dgs_high (n : Nat) (h : ¬ n < 128) : dgs n = dgs (n / 128) ++ [UInt8.ofNat (n % 128)] := by rw [dgs, dif_neg h]
theorem dgs_len (k : Nat) : ∀ n, n < 128 ^ k → (dgs n).length ≤ max k 1 := by
  induction k with
  | zero => intro n h; have : n = 0 := by simp at h; omega
            subst this; rw [dgs_low 0 (by omega)]; simp
  | succ k ih =>
    intro n h
    by_cases h0 : n < 128
    · rw [dgs_low n h0]; simp
    · rw [dgs_high n h0]
      have := ih (n / 128) (by rw [Nat.div_lt_iff_lt_mul (by omega)]; rw [Nat.pow_succ] at h; exact h)
      have hk : 0 < k := by
        rcases Nat.eq_zero_or_pos k with h1 | h1
        · subst h1; simp at h; omega
        · exact h1
      simp; omega

theorem own_one (w : World) (t : TypeId) (v : Value) : (w.alloc (.cells #[v] t)).ownsRow w.heap.size t 1 (.slice (some ⟨w.heap.size, 0, none⟩) 1 1) 1 [v] :=
  ⟨rfl, .inr ⟨w.heap.size, 1, #[v], rfl, Nat.le_refl _, bk_new _ _, Nat.le_refl _, by decide, rfl, rfl⟩⟩
theorem own_below {B : Nat} {a w w1 : World} {e : TypeId} {size n : Nat} {v : Value} {xs : List Value} (hB : Below B a w) (hs : B ≤ w.heap.size) (h : w.ownsRow B e size v n xs) (hg : w.grownBy w1 v.ownBlock) : Below B a w1 := by
  refine hB.grown hg hs fun k hk => ?_
  rcases h.2 with ⟨rfl, _⟩ | ⟨g, cap, cur, rfl, hg, _⟩
  · simp [Value.ownBlock] at hk
  · simp [Value.ownBlock] at hk; omega
theorem info5 : (Try.prog.info? 5).map (fun i => (i.zero, i.size, i.bytes)) = some (some (.int .u8 0), 1, 1) := by kernel_rfl

set_option maxHeartbeats 400000 in
set_option maxRecDepth 100000 in
theorem digits_any (N : Nat) : N ≤ 18446744073709551615 → ∀ w : World, Calls Try.prog 31 #[.int .u64 (N : Int)] w fun e w' => ∃ v, e = .returned v ∧ w'.ownsRow w.heap.size 5 1 v (dgs N).length (u8s (dgs N)) ∧ Below w.heap.size w w' := by
  induction N using Nat.strongRecOn with
  | _ N ih =>
    intro hN w
    obtain ⟨i0, hi, hz0, hz1, hz2⟩ := info_parts info5
    by_cases h : N < 128
    · have H := hide ih
      clear ih
      have e1 : dgs N = [UInt8.ofNat N] := dgs_low N h
      have E1 := hide e1
      clear e1
      go_enter Try.func31, Try.ntmps31
      go_wp2
      go_ret
      rw [E1.out]
      refine ⟨_, rfl, ?_, (Below.refl _ _).alloc (Nat.le_refl _) _⟩
      have e2 : u8s [UInt8.ofNat N] = [Value.int .u8 (N : Int)] := by
        have : (UInt8.ofNat N).toNat = N := by simp; omega
        simp [u8s, this]
      rw [e2]
      exact own_one _ _ _
    · have h1 := ih (N / 128) (by omega) (by omega) w
      have E1 := hide (dgs_high N h)
      have hl := dgs_len 10 (N / 128) (by omega)
      have H := hide h1
      clear ih h1
      have hlt : ¬ ((N : Int) < 128) := by omega
      go_enter Try.func31, Try.ntmps31
      go_wp2_with fail
      refine H.out.mono ?_
      rintro e w1 ⟨v, rfl, ho, hb⟩
      have HO := hide (ho.alloc (.cells #[.int .u8 ((N : Int) % 128)] 5))
      clear ho
      have hs1 := hb.size
      go_wp2_with (at_builtin; refine wpList_append_own _ rfl _ _ 49 rfl w.heap.size 5 i0 (.int .u8 0) 1 1 Try.underlying49 hi hz0 hz1 hz2 rfl (by decide) _ _ _ rfl HO.out ⟨w1.heap.size, 0, none⟩ 1 1 [.int .u8 ((N : Int) % 128)] rfl rfl ?c1 ?c2 ?c3 ?c4 ?c5 ?_)
      case c1 => exact cell_one_new _ _ _
      case c2 => intro u hu; simp at hu; subst hu; rfl
      case c3 => unfold maxLen; omega
      case c4 => omega
      case c5 => simp; omega
      intro v' w2 ho2 hg2 _
      go_wp2
      go_ret
      refine ⟨v', rfl, ?_, ?_⟩
      · rw [E1.out]
        have e2 : u8s (dgs (N / 128) ++ [UInt8.ofNat (N % 128)]) = u8s (dgs (N / 128)) ++ [Value.int .u8 ((N : Int) % 128)] := by
          have : (UInt8.ofNat (N % 128)).toNat = N % 128 := by simp; omega
          simp [u8s, this]
        rw [e2]
        simpa using ho2
      · exact own_below (hb.alloc hs1 _) (by simp; omega) HO.out hg2
end Go.Proofs.Ythijblakadifiaa
