/- TreeHops, without memory. -/
import Derived.Test.YtpoolbjmebacdaaTC
import Derived.Test.YtpoolbjmebacdaaQH
namespace Go.Proofs.Ytpoolbjmebacdaa.Q
open Go.RowKit Go.Proofs.YtpoolbjmebacdaaW.PrintWords TM
set_option linter.unusedVariables false

theorem mod_nat (x : Int) (m : Nat) (hm : m ≤ 7) : ∃ a : Nat, a ≤ m ∧ wrap64 (Int.tmod (IntKind.u64.wrap x) (IntKind.u64.wrap ((m : Int) + 1))) = (a : Int) := by
  have h1 : IntKind.u64.wrap ((m : Int) + 1) = (m : Int) + 1 := by
    simp [IntKind.wrap, IntKind.signed, IntKind.bits]; omega
  have h2 : 0 ≤ IntKind.u64.wrap x := by
    simp [IntKind.wrap, IntKind.signed, IntKind.bits]; omega
  rw [h1]
  have h3 : 0 ≤ Int.tmod (IntKind.u64.wrap x) ((m : Int) + 1) := Int.tmod_nonneg _ h2
  have h4 : Int.tmod (IntKind.u64.wrap x) ((m : Int) + 1) < (m : Int) + 1 := Int.tmod_lt_of_pos _ (by omega)
  refine ⟨(Int.tmod (IntKind.u64.wrap x) ((m : Int) + 1)).toNat, by omega, ?_⟩
  unfold wrap64
  omega
theorem u64_ne (m : Nat) (hm : m ≤ 7) : ¬ IntKind.u64.wrap ((m : Int) + 1) = 0 := by
  simp [IntKind.wrap, IntKind.signed, IntKind.bits]; omega

section
variable {ps hs : List Int} {b g : Int}
theorem hops_l1 {a t : Nat} (Wl L : List Int) (hL : L.length ≤ 100) (i : Int) (d : Nat) : ∀ (k j : Nat) (found : Bool), j + d = L.length → (found = true ∨ (t : Int) ∈ L.drop j) →
    arbourlaw16_TreeHops.l1 (k + 1 + d) (a : Int) (t : Int) Wl i found L (L.length : Int) (j : Int) ps hs b g = arbourlaw16_TreeHops.l1 (k + 1) (a : Int) (t : Int) Wl i true L (L.length : Int) (L.length : Int) ps hs b g := by
  induction d with
  | zero =>
    intro k j found hj hf
    rw [List.drop_of_length_le (by omega)] at hf
    obtain rfl : found = true := by simpa using hf
    obtain rfl : j = L.length := by omega
    rfl
  | succ d ih =>
    intro k j found hj hf
    have e : k + 1 + (d + 1) = (k + 1 + d) + 1 := by omega
    rw [e]
    rw [show arbourlaw16_TreeHops.l1 ((k + 1 + d) + 1) (a : Int) (t : Int) Wl i found L (L.length : Int) (j : Int) ps hs b g = (if found = true then arbourlaw16_TreeHops.l1 (k + 1 + d) (a : Int) (t : Int) Wl i true L (L.length : Int) ((j + 1 : Nat) : Int) ps hs b g else arbourlaw16_TreeHops.l1 (k + 1 + d) (a : Int) (t : Int) Wl i (rd L (j : Int) == (t : Int)) L (L.length : Int) ((j + 1 : Nat) : Int) ps hs b g) from by
      conv => lhs; simp only [arbourlaw16_TreeHops.l1]
      rw [if_pos (by omega), if_pos (by omega), if_pos (by omega), wrap_nat (by omega)]]
    cases found with
    | true => rw [if_pos rfl]; exact ih k (j + 1) true (by omega) (.inl rfl)
    | false =>
      rw [if_neg (by decide)]
      refine ih k (j + 1) _ (by omega) ?_
      rw [drop_rd L j (by omega)] at hf
      rcases hf with hf | hf
      · cases hf
      · rcases List.mem_cons.1 hf with hf | hf
        · exact .inl (by simp [hf])
        · exact .inr hf
variable (h : Good ps hs b g)
include h
theorem hops_l0 {a t : Nat} (ha : a ≤ ps.length) (ht : t ≤ ps.length) (d : Nat) : ∀ (k i : Nat), 1 ≤ i → i + d = (W h.hp a t).length → ps.length + hs.length + 12 + 120 * (d + 1) ≤ k →
    arbourlaw16_TreeHops.l0 k (a : Int) (t : Int) (C (W h.hp a t)) (i : Int) ps hs b g = some true := by
  induction d with
  | zero =>
    intro k i hi0 hi hk
    obtain ⟨k, rfl⟩ : ∃ m, k = m + 1 := ⟨k - 1, by omega⟩
    simp only [arbourlaw16_TreeHops.l0]
    rw [if_neg (by rw [C_length]; omega)]
    by_cases e : a = t
    · subst e
      rw [if_pos rfl, W_self, if_pos (by simp [C]), hop_f h ha ha]
      simp
    · rw [if_neg (by omega), if_pos]
      rw [C_length, W_next h.hp a t e]
      obtain ⟨u, hu⟩ := W_head h.hp (nh h.hp a t) t
      rw [hu]; simp; omega
  | succ d ih =>
    intro k i hi0 hi hk
    have h7 := h.len
    have hW := W_len' h ha ht
    obtain ⟨k, rfl⟩ : ∃ m, k = m + 1 := ⟨k - 1, by omega⟩
    obtain ⟨j, rfl⟩ : ∃ j, i = j + 1 := ⟨i - 1, by omega⟩
    have hj : wrap64 (((j + 1 : Nat) : Int) - 1) = (j : Int) := by rw [wrap_pred (by omega) (by omega)]; omega
    have hx : (W h.hp a t)[j]? = some ((W h.hp a t)[j]'(by omega)) := List.getElem?_eq_getElem (by omega)
    have hy : (W h.hp a t)[j + 1]? = some ((W h.hp a t)[j + 1]'(by omega)) := List.getElem?_eq_getElem (by omega)
    generalize hxe : (W h.hp a t)[j]'(by omega) = x at hx
    generalize hye : (W h.hp a t)[j + 1]'(by omega) = y at hy
    have rx : rd (C (W h.hp a t)) (j : Int) = (x : Int) := by rw [C_rd _ j (by omega), hxe]
    have ry : rd (C (W h.hp a t)) ((j + 1 : Nat) : Int) = (y : Int) := by rw [C_rd _ (j + 1) (by omega), hye]
    have p1 := W_pairs h.hp _ a t rfl j x y hx hy
    have p2 := W_pairs_back h.hp a t j x y hx hy
    have xl : x ≤ ps.length := W_le' h ha ht x (List.mem_of_getElem? hx)
    have yl : y ≤ ps.length := W_le' h ha ht y (List.mem_of_getElem? hy)
    have hin : t ∈ BY h x y := by
      rw [BY_mem]
      refine ⟨?_, ht, fun e => p1.1 e.symm, p1.2⟩
      rw [← p1.2]; exact nh_NN h xl ht p1.1
    have hlen : (BY h x y).length ≤ 8 := by
      unfold BY
      split
      · have := List.length_filter_le (fun t => decide (x ≠ t ∧ nh h.hp x t = y)) (List.range' 0 (ps.length + 1))
        rw [List.length_range'] at this
        omega
      · simp
    simp only [arbourlaw16_TreeHops.l0]
    rw [hj]
    rw [if_pos (by rw [C_length]; omega), if_pos (by omega), if_pos (by rw [C_length]; omega), if_pos (by omega), rx, ry, beyond_f h xl yl k (by omega)]
    simp only [Option.bind_some]
    obtain ⟨k', rfl⟩ : ∃ m, k = m + 1 + (BY h x y).length := ⟨k - 1 - (BY h x y).length, by omega⟩
    have hl1 := hops_l1 (hs := hs) (b := b) (g := g) (ps := ps) (a := a) (t := t) (C (W h.hp a t)) (C (BY h x y)) (by rw [C_length]; omega) ((j + 1 : Nat) : Int) (BY h x y).length k' 0 false (by rw [C_length]; omega) (.inr (by rw [List.drop_zero, C_mem]; exact hin))
    rw [show (0 : Int) = ((0 : Nat) : Int) from rfl, hl1]
    simp only [arbourlaw16_TreeHops.l1]
    rw [hj]
    rw [if_neg (by omega), if_pos trivial, if_pos (by omega), if_pos (by rw [C_length]; omega), rx, ry, hop_f h xl ht]
    simp only [Option.bind_some]
    rw [if_pos (by omega), if_pos (by rw [C_length]; omega), if_neg p1.1, p1.2, if_pos rfl, hop_f h yl ha]
    simp only [Option.bind_some]
    rw [if_neg p2.1, p2.2, if_pos rfl, wrap_nat (by omega)]
    exact ih k' (j + 2) (by omega) (by omega) (by omega)
end
theorem hops_pure (ps hs : List Int) (b g x y : Int) : ∃ k, arbourlaw16_TreeHops.f k ps hs b g x y = some true := by
  refine ⟨ps.length + hs.length + 12 + 120 * 20 + 5, ?_⟩
  unfold arbourlaw16_TreeHops.f arbourlaw16_awake.f
  simp only [Option.bind_some]
  rw [if_pos trivial, check_f ps hs b g _ (by omega)]
  simp only [Option.bind_some, arbourlaw16_TreeHops.j0]
  by_cases hc : checkT ps hs b g = 0
  · have h : Good ps hs b g := ⟨hc⟩
    have h7 := h.len
    rw [if_neg (by simp [hc]), size_f ps hs b g _ (by omega)]
    simp only [Option.bind_some]
    rw [h.size, if_neg (u64_ne _ h7)]
    obtain ⟨a, ha, ea⟩ := mod_nat x ps.length h7
    obtain ⟨t, ht, et⟩ := mod_nat y ps.length h7
    rw [ea, et, way_f h ha ht]
    simp only [Option.bind_some]
    have hl := W_len' h ha ht
    obtain ⟨u, hu⟩ := W_head h.hp a t
    have h1 : 1 ≤ (W h.hp a t).length := by rw [hu]; simp
    exact hops_l0 h ha ht ((W h.hp a t).length - 1) _ 1 (by omega) (by omega) (by omega)
  · rw [if_pos (by simp [hc])]
    rfl
end Go.Proofs.Ytpoolbjmebacdaa.Q
