/- Neighbours, and what lies beyond a link, told by the tree. -/
import Derived.Test.YtpoolbjmebacdaaTB
namespace Go.Proofs.Ytpoolbjmebacdaa.Q
open Go.RowKit Go.Proofs.YtpoolbjmebacdaaW.PrintWords TM
set_option linter.unusedVariables false

theorem index_l0 (x : Int) (l : List Int) (hl : l.length ≤ 140737488351232) (d : Nat) : ∀ (k i : Nat), i + d = l.length → d < k →
    ∃ r, slices_Index_int_int.l0 k l x (l.length : Int) (i : Int) = some r ∧ (0 ≤ r ↔ x ∈ l.drop i) := by
  induction d with
  | zero =>
    intro k i hi hk
    obtain ⟨k, rfl⟩ : ∃ m, k = m + 1 := ⟨k - 1, by omega⟩
    simp only [slices_Index_int_int.l0]
    rw [if_neg (by omega), List.drop_of_length_le (by omega)]
    exact ⟨-1, rfl, by simp⟩
  | succ d ih =>
    intro k i hi hk
    obtain ⟨k, rfl⟩ : ∃ m, k = m + 1 := ⟨k - 1, by omega⟩
    simp only [slices_Index_int_int.l0]
    rw [if_pos (by omega), if_pos (by omega), if_pos (by omega), drop_rd l i (by omega), wrap_nat (by omega)]
    by_cases e : x = rd l (i : Int)
    · rw [if_pos e]; exact ⟨i, rfl, by simp [e]⟩
    · rw [if_neg e]
      obtain ⟨r, hr, h⟩ := ih k (i + 1) (by omega) (by omega)
      exact ⟨r, hr, by rw [h]; simp [e]⟩
theorem contains_f (x : Int) (l : List Int) (hl : l.length ≤ 140737488351232) (k : Nat) (hk : l.length < k) : slices_Contains_int_int.f k l x = some (decide (x ∈ l)) := by
  unfold slices_Contains_int_int.f slices_Index_int_int.f
  obtain ⟨r, hr, h⟩ := index_l0 x l hl l.length k 0 (by omega) hk
  simp only [List.drop_zero] at h
  rw [show (0 : Int) = ((0 : Nat) : Int) from rfl, hr]
  simp only [Option.bind_some]
  congr 1
  exact decide_eq_decide.2 h

/-- A broker's neighbours. -/
def NN (ps : List Int) (a : Nat) : List Nat := (if 0 < a then [parN ps a] else []) ++ ((List.range' 1 ps.length).filter fun n => parN ps n == a)
section
variable {ps hs : List Int} {b g : Int} (h : Good ps hs b g)
include h
theorem childs_range (a : Nat) (d : Nat) : ∀ i, i + d = ps.length → childs (a : Int) (i : Int) (ps.drop i) = C ((List.range' (i + 1) d).filter fun n => parN ps n == a) := by
  induction d with
  | zero =>
    intro i hi
    rw [List.drop_of_length_le (by omega)]; rfl
  | succ d ih =>
    intro i hi
    have e : rd ps (i : Int) = (parN ps (i + 1) : Int) := by
      have := rd_par h.okp (b := i + 1) (by omega) (by omega)
      simpa using this
    rw [drop_rd ps i (by omega), List.range'_succ, List.filter_cons]
    simp only [childs]
    rw [show (i : Int) + 1 = ((i + 1 : Nat) : Int) by omega, ih (i + 1) (by omega), e]
    by_cases hc : parN ps (i + 1) = a
    · rw [if_pos (by omega), if_pos (by simp [hc])]; rfl
    · rw [if_neg (by omega), if_neg (by simp [hc])]; rfl
theorem neighT_NN {a : Nat} (ha : a ≤ ps.length) : neighT ps (a : Int) = C (NN ps a) := by
  unfold neighT NN
  have := childs_range h a ps.length 0 (by omega)
  simp only [List.drop_zero, Nat.zero_add] at this
  rw [C_append]
  rw [show (0 : Int) = ((0 : Nat) : Int) from rfl, this]
  congr 1
  rcases Nat.eq_zero_or_pos a with h0 | h0
  · subst h0; rfl
  · rw [if_pos (by omega), if_pos h0, rd_par h.okp h0 ha]; rfl
theorem neigh_f {a : Nat} (ha : a ≤ ps.length) : tree_Neighbors.f ps hs b g (a : Int) = some (C (NN ps a)) := by
  unfold tree_Neighbors.f
  rw [if_pos (h.isB ha), neighT_NN h ha]
/-- Side by side. -/
def Adj (ps : List Int) (a n : Nat) : Prop := (0 < n ∧ parN ps n = a) ∨ (0 < a ∧ parN ps a = n)
theorem NN_mem {a : Nat} (ha : a ≤ ps.length) (n : Nat) : n ∈ NN ps a ↔ n ≤ ps.length ∧ Adj ps a n := by
  unfold NN Adj
  rw [List.mem_append, List.mem_filter, List.mem_range']
  have hp := parN_lt h.okp
  constructor
  · rintro (h1 | ⟨⟨i, hi, e⟩, h2⟩)
    · split at h1
      · rename_i h0
        simp at h1
        have := hp a h0
        exact ⟨by omega, .inr ⟨h0, h1.symm⟩⟩
      · simp at h1
    · simp at h2
      exact ⟨by omega, .inl ⟨by omega, h2⟩⟩
  · rintro ⟨h0, h1 | h1⟩
    · exact .inr ⟨⟨n - 1, by omega, by omega⟩, by simp [h1.2]⟩
    · exact .inl (by rw [if_pos h1.1]; simp [h1.2])
theorem NN_length {a : Nat} (ha : a ≤ ps.length) : (NN ps a).length ≤ 8 := by
  unfold NN
  rw [List.length_append]
  have := List.length_filter_le (fun n => parN ps n == a) (List.range' 1 ps.length)
  rw [List.length_range'] at this
  have := h.len
  split <;> simp <;> omega
/-- Beyond a link. -/
def BY (h : Good ps hs b g) (a n : Nat) : List Nat := if n ∈ NN ps a then (List.range' 0 (ps.length + 1)).filter fun t => decide (a ≠ t ∧ nh h.hp a t = n) else []
theorem beyond_l0 {a n : Nat} (ha : a ≤ ps.length) (hn : n ≤ ps.length) (d : Nat) : ∀ (k i : Nat) (acc : List Int), i + d = ps.length + 1 → acc.length ≤ i → d < k →
    tree_Beyond.l0 k (a : Int) (n : Int) acc ((ps.length : Int) + 1) (i : Int) ps hs b g = some (acc ++ C ((List.range' i d).filter fun t => decide (a ≠ t ∧ nh h.hp a t = n))) := by
  induction d with
  | zero =>
    intro k i acc hi hacc hk
    obtain ⟨k, rfl⟩ : ∃ m, k = m + 1 := ⟨k - 1, by omega⟩
    simp only [tree_Beyond.l0]
    rw [if_neg (by omega)]
    simp [C]
  | succ d ih =>
    intro k i acc hi hacc hk
    have h7 := h.len
    obtain ⟨k, rfl⟩ : ∃ m, k = m + 1 := ⟨k - 1, by omega⟩
    simp only [tree_Beyond.l0]
    rw [if_pos (by omega), hop_f h ha (by omega), wrap_nat (by omega), List.range'_succ, List.filter_cons]
    simp only [Option.bind_some]
    by_cases e : a = i
    · rw [if_pos e, if_neg (by omega), ih k (i + 1) acc (by omega) (by omega) (by omega)]
      simp [e]
    · rw [if_neg e]
      by_cases e2 : nh h.hp a i = n
      · rw [if_pos (by omega), if_pos (by omega), ih k (i + 1) (acc ++ [(i : Int)]) (by omega) (by simp; omega) (by omega)]
        simp [e, e2, C]
      · rw [if_neg (by omega), ih k (i + 1) acc (by omega) (by omega) (by omega)]
        simp [e2]
theorem beyond_f {a n : Nat} (ha : a ≤ ps.length) (hn : n ≤ ps.length) (k : Nat) (hk : ps.length + hs.length + 12 ≤ k) : tree_Beyond.f k ps hs b g (a : Int) (n : Int) = some (C (BY h a n)) := by
  unfold tree_Beyond.f
  have hl := NN_length h ha
  have hc := contains_f (n : Int) (C (NN ps a)) (by rw [C_length]; omega) k (by rw [C_length]; omega)
  rw [neigh_f h ha]
  simp only [Option.bind_some]
  rw [hc]
  simp only [Option.bind_some, decide_eq_true_eq, C_mem]
  unfold BY
  by_cases e : n ∈ NN ps a
  · rw [if_pos e, if_pos e, size_f ps hs b g k (by omega)]
    simp only [Option.bind_some]
    rw [h.size]
    have := beyond_l0 h ha hn (ps.length + 1) k 0 [] (by omega) (by simp) (by omega)
    simpa using this
  · rw [if_neg e, if_neg e]; rfl
theorem BY_mem {a n : Nat} (t : Nat) : t ∈ BY h a n ↔ n ∈ NN ps a ∧ t ≤ ps.length ∧ t ≠ a ∧ nh h.hp a t = n := by
  unfold BY
  by_cases e : n ∈ NN ps a
  · rw [if_pos e, List.mem_filter, List.mem_range']
    simp only [e, true_and, decide_eq_true_eq]
    constructor
    · rintro ⟨⟨i, hi, e1⟩, h1, h2⟩
      exact ⟨by omega, fun h => h1 h.symm, h2⟩
    · rintro ⟨h0, h1, h2⟩
      exact ⟨⟨t, by omega, by omega⟩, fun h => h1 h.symm, h2⟩
  · rw [if_neg e]; simp [e]
theorem nh_NN {a t : Nat} (ha : a ≤ ps.length) (ht : t ≤ ps.length) (hne : a ≠ t) : nh h.hp a t ∈ NN ps a := by
  rw [NN_mem h ha]
  exact ⟨nh_le' h ha ht hne, nh_adj h.hp a t hne⟩
end
end Go.Proofs.Ytpoolbjmebacdaa.Q
