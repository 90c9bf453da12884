/- TreeTells, without memory. -/
import Derived.Test.YtpoolbjmebacdaaTR
import Derived.Test.YtpoolbjmebacdaaQT
namespace Go.Proofs.Ytpoolbjmebacdaa.Q
open Go.RowKit Go.Proofs.YtpoolbjmebacdaaW.PrintWords TM
set_option linter.unusedVariables false

theorem broker_f (ps hs : List Int) (b g x : Int) : arbourref16_Broker.f ps hs b g x = some (decide (0 ≤ x) && decide (x ≤ (ps.length : Int))) := by
  unfold arbourref16_Broker.f
  by_cases h : x ≥ 0
  · rw [if_pos h]; simp [show 0 ≤ x from h]
  · rw [if_neg h]; simp [show ¬ 0 ≤ x from h]
theorem isB_broker {ps hs : List Int} {b g : Int} (h : Good ps hs b g) (x : Int) : isB ps hs b g x = (decide (0 ≤ x) && decide (x ≤ (ps.length : Int))) := by
  unfold isB
  rw [h.size]
  congr 1
  exact decide_eq_decide.2 (by omega)
theorem isB_bad {ps hs : List Int} {b g : Int} (h : checkT ps hs b g ≠ 0) (x : Int) : isB ps hs b g x = false := by
  unfold isB sizeT
  rw [if_neg h]
  by_cases h0 : 0 ≤ x
  · rw [decide_eq_false (show ¬ x < 0 by omega), Bool.and_false]
  · rw [decide_eq_false h0, Bool.false_and]
theorem nat_of_isB {ps hs : List Int} {b g x : Int} (h : isB ps hs b g x = true) : ∃ a : Nat, x = (a : Int) ∧ a ≤ ps.length := by
  have := isB_ok h
  exact ⟨x.toNat, by omega, by omega⟩
theorem way_off {ps hs : List Int} {b g x y : Int} (h : ¬ (isB ps hs b g x = true ∧ isB ps hs b g y = true)) : tree_Way.f ps hs b g x y = some [] := by
  unfold tree_Way.f
  rw [if_neg h]
theorem hop_off {ps hs : List Int} {b g x y : Int} (h : ¬ (isB ps hs b g x = true ∧ isB ps hs b g y = true)) : tree_Hop.f ps hs b g x y = some (-1) := by
  unfold tree_Hop.f
  rw [way_off h]
  rfl
theorem beyond_off {ps hs : List Int} {b g x y : Int} (h : ¬ (isB ps hs b g x = true ∧ isB ps hs b g y = true)) (k : Nat) (hk : 10 ≤ k) : tree_Beyond.f k ps hs b g x y = some [] := by
  unfold tree_Beyond.f tree_Neighbors.f
  simp only [Option.bind_some]
  by_cases hx : isB ps hs b g x = true
  · have hg : Good ps hs b g := ⟨(isB_ok hx).2.2.2⟩
    obtain ⟨a, rfl, ha⟩ := nat_of_isB hx
    have hl := NN_length hg ha
    have hy : ¬ isB ps hs b g y = true := fun hy => h ⟨hx, hy⟩
    rw [if_pos hx, neighT_NN hg ha, contains_f y (C (NN ps a)) (by rw [C_length]; omega) k (by rw [C_length]; omega)]
    simp only [Option.bind_some]
    rw [if_neg]
    simp only [decide_eq_true_eq]
    intro hm
    simp only [C, List.mem_map] at hm
    obtain ⟨n, hn, rfl⟩ := hm
    exact hy (hg.isB ((NN_mem hg ha n).1 hn).1)
  · rw [if_neg hx, contains_f y [] (by simp) k (by simp; omega)]
    simp
theorem tells_pure (ps hs : List Int) (b g x y : Int) : ∃ k, arbourlaw16_TreeTells.f k ps hs b g x y = some true := by
  refine ⟨ps.length + hs.length + 2000, ?_⟩
  unfold arbourlaw16_TreeTells.f arbourlaw16_awake.f
  simp only [Option.bind_some]
  rw [if_pos trivial]
  by_cases hf : ((ps.length : Int) ≤ 100 ∧ (hs.length : Int) ≤ 100)
  case neg =>
    have hfew : arbourref16_Few.f ps hs b g = some false := by
      unfold arbourref16_Few.f
      by_cases h1 : (ps.length : Int) ≤ 100
      · rw [if_pos h1, decide_eq_false (fun h2 => hf ⟨h1, h2⟩)]
      · rw [if_neg h1]
    rw [hfew]
    simp only [Option.bind_some]
    rw [if_neg (by decide)]
    simp only [arbourlaw16_TreeTells.j0]
    rw [if_pos trivial]
    unfold arbourlaw16_awake.f
    simp only [Option.bind_some]
    rw [if_pos trivial, hfew]
    rfl
  have hfew : arbourref16_Few.f ps hs b g = some true := by
    unfold arbourref16_Few.f
    rw [if_pos hf.1, decide_eq_true hf.2]
  rw [hfew]
  simp only [Option.bind_some]
  rw [if_pos trivial, check_f ps hs b g _ (by omega), rcheck_f ps hs b g _ (by omega)]
  simp only [Option.bind_some, arbourlaw16_TreeTells.j0]
  rw [if_neg (by simp), rcheck_f ps hs b g _ (by omega)]
  simp only [Option.bind_some]
  by_cases hc : checkT ps hs b g = 0
  · have h : Good ps hs b g := ⟨hc⟩
    have h7 := h.len
    rw [if_pos hc, broker_f]
    simp only [Option.bind_some]
    rw [← isB_broker h x]
    by_cases hxy : isB ps hs b g x = true ∧ isB ps hs b g y = true
    · obtain ⟨hx, hy⟩ := hxy
      rw [if_pos hx, broker_f]
      simp only [Option.bind_some]
      rw [← isB_broker h y, hy]
      obtain ⟨a, rfl, ha⟩ := nat_of_isB hx
      obtain ⟨t, rfl, ht⟩ := nat_of_isB hy
      simp only [arbourlaw16_TreeTells.j1]
      rw [if_neg (by decide), rWay_f h ha ht _ (by omega)]
      simp only [Option.bind_some]
      have hW := W_len' h ha ht
      have hN := NN_length h ha
      have hB := BY_length h (a := a) (n := t)
      have fin : ∀ k, 1900 + ps.length + hs.length ≤ k → arbourlaw16_TreeTells.j2 k (a : Int) (t : Int) (C (W h.hp a t)) (if a = t then -1 else (nh h.hp a t : Int)) ps hs b g = some true := by
        intro k hk
        obtain ⟨k, rfl⟩ : ∃ m, k = m + 1 := ⟨k - 1, by omega⟩
        simp only [arbourlaw16_TreeTells.j2]
        rw [size_f ps hs b g k (by omega)]
        simp only [Option.bind_some]
        rw [h.size, if_pos (by rw [wrap_nat (by omega)]; omega), neigh_f h ha]
        simp only [Option.bind_some]
        rw [rneigh_f h ha k (by omega)]
        simp only [Option.bind_some]
        rw [same_f _ (by rw [C_length]; omega) k (by rw [C_length]; omega)]
        simp only [Option.bind_some]
        rw [if_pos trivial, way_f h ha ht]
        simp only [Option.bind_some]
        rw [same_f _ (by rw [C_length]; omega) k (by rw [C_length]; omega)]
        simp only [Option.bind_some]
        rw [if_pos trivial, hop_f h ha ht]
        simp only [Option.bind_some]
        rw [if_pos trivial, beyond_f h ha ht k (by omega)]
        simp only [Option.bind_some]
        rw [rbeyond_f h ha ht k (by omega)]
        simp only [Option.bind_some]
        rw [same_f _ (by rw [C_length]; omega) k (by rw [C_length]; omega)]
        rfl
      by_cases e : a = t
      · subst e
        have := fin (ps.length + hs.length + 2000 - 2) (by omega)
        rw [if_pos rfl] at this
        rw [W_self, if_neg (by simp [C])]
        rw [W_self] at this
        exact this
      · have := fin (ps.length + hs.length + 2000 - 2) (by omega)
        rw [if_neg e] at this
        obtain ⟨u, hu⟩ := W_head h.hp (nh h.hp a t) t
        have hw : C (W h.hp a t) = (a : Int) :: (nh h.hp a t : Int) :: C u := by rw [W_next h.hp a t e, hu]; rfl
        rw [if_pos (by rw [hw]; simp; omega), if_pos (by rw [hw]; simp; omega)]
        have hr : rd (C (W h.hp a t)) 1 = (nh h.hp a t : Int) := by rw [hw]; rfl
        rw [hr]
        exact this
    · have hj1 : ∀ k, 20 ≤ k → arbourlaw16_TreeTells.j1 k x y true ps hs b g = some true := by
        intro k hk
        obtain ⟨k, rfl⟩ : ∃ m, k = m + 1 := ⟨k - 1, by omega⟩
        simp only [arbourlaw16_TreeTells.j1]
        rw [if_pos trivial, way_off hxy]
        simp only [Option.bind_some]
        rw [if_pos (by simp), hop_off hxy]
        simp only [Option.bind_some]
        rw [if_pos trivial, beyond_off hxy k (by omega)]
        simp only [Option.bind_some]
        rw [if_pos (by simp), broker_f]
        simp only [Option.bind_some]
        rw [← isB_broker h x]
        by_cases hx : isB ps hs b g x = true
        · rw [if_pos hx]
        · rw [if_neg hx]
          unfold tree_Neighbors.f
          simp only [Option.bind_some]
          rw [if_neg hx]
          rfl
      by_cases hx : isB ps hs b g x = true
      · have hy : isB ps hs b g y = false := by
          cases hy : isB ps hs b g y with
          | false => rfl
          | true => exact absurd ⟨hx, hy⟩ hxy
        rw [if_pos hx, broker_f]
        simp only [Option.bind_some]
        rw [← isB_broker h y, hy]
        exact hj1 _ (by omega)
      · rw [if_neg hx]
        exact hj1 _ (by omega)
  · have hoff : ¬ (isB ps hs b g x = true ∧ isB ps hs b g y = true) := fun hh => by rw [isB_bad hc] at hh; exact absurd hh.1 (by decide)
    have hz : sizeT ps hs b g = 0 := by unfold sizeT; rw [if_neg hc]
    rw [if_neg hc, size_f ps hs b g _ (by omega)]
    simp only [Option.bind_some]
    rw [if_pos hz]
    have hn : tree_Neighbors.f ps hs b g x = some [] := by unfold tree_Neighbors.f; rw [isB_bad hc]; rfl
    rw [hn]
    simp only [Option.bind_some]
    rw [if_pos (by simp), way_off hoff]
    simp only [Option.bind_some]
    rw [if_pos (by simp), hop_off hoff]
    simp only [Option.bind_some]
    rw [if_pos trivial, beyond_off hoff _ (by omega)]
    simp only [Option.bind_some]
    rw [if_pos (by simp)]
    have hl : tree_Links.f (ps.length + hs.length + 1999) ps hs b g = some [] := by
      unfold tree_Links.f
      rw [size_f ps hs b g _ (by omega), hz]
      simp only [Option.bind_some, tree_Links.l0]
      rw [if_neg (by omega)]
    rw [hl]
    rfl
end Go.Proofs.Ytpoolbjmebacdaa.Q
