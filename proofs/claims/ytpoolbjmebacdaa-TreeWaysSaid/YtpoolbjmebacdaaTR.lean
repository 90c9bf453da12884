/- What the references come to, told by the tree. -/
import Derived.Test.YtpoolbjmebacdaaTC
import Derived.Test.YtpoolbjmebacdaaQR
namespace Go.Proofs.Ytpoolbjmebacdaa.Q
open Go.RowKit Go.Proofs.YtpoolbjmebacdaaW.PrintWords TM
set_option linter.unusedVariables false

/-! The reference's Check. -/
theorem rcheck_l1 (ps hs : List Int) (b g : Int) (hh : hs.length ≤ 140737488351232) (d : Nat) : ∀ (k i : Nat), i + d = hs.length → d < k →
    arbourref16_Check.l1 k (i : Int) ps hs b g = some (if badHomes ps.length (hs.drop i) = true then 1 else 0) := by
  induction d with
  | zero =>
    intro k i hi hk
    obtain ⟨k, rfl⟩ : ∃ m, k = m + 1 := ⟨k - 1, by omega⟩
    simp only [arbourref16_Check.l1]
    rw [if_neg (by omega), List.drop_of_length_le (by omega)]
    rfl
  | succ d ih =>
    intro k i hi hk
    obtain ⟨k, rfl⟩ : ∃ m, k = m + 1 := ⟨k - 1, by omega⟩
    simp only [arbourref16_Check.l1]
    rw [if_pos (by omega), if_pos (by omega), drop_rd hs i (by omega), wrap_nat (by omega), ih k (i + 1) (by omega) (by omega)]
    by_cases h1 : rd hs (i : Int) < 0
    · rw [if_pos h1]; simp [badHomes, h1]
    · rw [if_neg h1]
      by_cases h2 : rd hs (i : Int) > (ps.length : Int)
      · rw [if_pos h2]; simp [badHomes, show (ps.length : Int) < rd hs (i : Int) from h2]
      · rw [if_neg h2]; simp only [badHomes]
        have h2' : ¬ (ps.length : Int) < rd hs (i : Int) := h2
        simp [h1, h2']
theorem rcheck_j1 (ps hs : List Int) (b g : Int) (k : Nat) (c : Bool) (hh : c = false → hs.length ≤ 8) (hk : hs.length + 1 < k) :
    arbourref16_Check.j1 k c ps hs b g = some (if c = true then 1 else if badHomes ps.length hs = true then 1 else 0) := by
  obtain ⟨k, rfl⟩ : ∃ m, k = m + 1 := ⟨k - 1, by omega⟩
  simp only [arbourref16_Check.j1]
  cases c with
  | true => rfl
  | false =>
    have hh := hh rfl
    have h := rcheck_l1 ps hs b g (by omega) hs.length k 0 (by omega) (by omega)
    simp only [List.drop_zero] at h
    rw [if_neg (by simp), if_neg (by simp)]
    exact h
theorem rcheck_l0 (ps hs : List Int) (b g : Int) (hp : ps.length ≤ 140737488351232) (d : Nat) : ∀ (k i : Nat), i + d = ps.length → d + hs.length + 2 < k →
    arbourref16_Check.l0 k (i : Int) ps hs b g = some (if badFrom i (ps.drop i) = true then 8 else if badArg hs b g = true then 1 else if badHomes ps.length hs = true then 1 else 0) := by
  induction d with
  | zero =>
    intro k i hi hk
    obtain ⟨k, rfl⟩ : ∃ m, k = m + 1 := ⟨k - 1, by omega⟩
    simp only [arbourref16_Check.l0]
    rw [if_neg (by omega), List.drop_of_length_le (by omega)]
    rw [rcheck_j1 ps hs b g k true (by simp) (by omega)]
    rw [show badFrom (i : Int) [] = false from rfl]
    simp only [Bool.false_eq_true, if_false, if_true, badArg]
    by_cases h1 : (hs.length : Int) > 8
    · rw [if_pos h1]; simp [show 8 < hs.length by omega]
    · rw [if_neg h1]
      rw [rcheck_j1 ps hs b g k _ (by intro _; omega) (by omega)]
      have h1' : ¬ 8 < hs.length := by omega
      by_cases h2 : b < 0
      · rw [if_pos h2]; simp [h2]
      · rw [if_neg h2]
        by_cases h3 : b > 1000000
        · rw [if_pos h3]; simp [show 1000000 < b from h3]
        · rw [if_neg h3]
          have h3' : ¬ 1000000 < b := h3
          simp only [h1', h2, h3', decide_false, Bool.false_or]
  | succ d ih =>
    intro k i hi hk
    obtain ⟨k, rfl⟩ : ∃ m, k = m + 1 := ⟨k - 1, by omega⟩
    simp only [arbourref16_Check.l0]
    rw [if_pos (by omega), if_pos (by omega), drop_rd ps i (by omega), wrap_nat (by omega), ih k (i + 1) (by omega) (by omega)]
    by_cases h1 : rd ps (i : Int) < 0
    · rw [if_pos h1]; simp [badFrom, h1]
    · rw [if_neg h1]
      by_cases h2 : rd ps (i : Int) > (i : Int)
      · rw [if_pos h2]; simp [badFrom, show (i : Int) < rd ps (i : Int) from h2]
      · rw [if_neg h2]; simp only [badFrom]
        have h2' : ¬ (i : Int) < rd ps (i : Int) := h2
        rw [show ((i + 1 : Nat) : Int) = (i : Int) + 1 from by omega]
        simp [h1, h2']
theorem rcheck_f (ps hs : List Int) (b g : Int) (k : Nat) (hk : ps.length + hs.length + 3 ≤ k) : arbourref16_Check.f k ps hs b g = some (checkT ps hs b g) := by
  unfold arbourref16_Check.f checkT
  by_cases h8 : 8 ≤ ps.length
  · rw [if_pos (by omega), if_pos h8]
  · rw [if_neg (by omega), if_neg h8]
    have h := rcheck_l0 ps hs b g (by omega) ps.length k 0 (by omega) (by omega)
    simp only [List.drop_zero] at h
    exact h

/-! Lists that rise. -/
theorem rise_ext : ∀ {l1 l2 : List Nat}, l1.Pairwise (· < ·) → l2.Pairwise (· < ·) → (∀ x, x ∈ l1 ↔ x ∈ l2) → l1 = l2
  | [], [], _, _, _ => rfl
  | [], y :: u, _, _, h => absurd ((h y).2 List.mem_cons_self) (by simp)
  | x :: t, [], _, _, h => absurd ((h x).1 List.mem_cons_self) (by simp)
  | x :: t, y :: u, h1, h2, h => by
    rw [List.pairwise_cons] at h1 h2
    have e : x = y := by
      have a := (h x).1 List.mem_cons_self
      have c := (h y).2 List.mem_cons_self
      rcases List.mem_cons.1 a with a | a
      · exact a
      · rcases List.mem_cons.1 c with c | c
        · exact c.symm
        · have := h2.1 x a; have := h1.1 y c; omega
    subst e
    rw [rise_ext h1.2 h2.2 fun z => ?_]
    have hz := h z
    constructor
    · intro hm
      have := h1.1 z hm
      rcases List.mem_cons.1 (hz.1 (List.mem_cons_of_mem _ hm)) with e | e
      · omega
      · exact e
    · intro hm
      have := h2.1 z hm
      rcases List.mem_cons.1 (hz.2 (List.mem_cons_of_mem _ hm)) with e | e
      · omega
      · exact e
theorem range_rise (n : Nat) : ∀ s, (List.range' s n).Pairwise (· < ·) := by
  induction n with
  | zero => intro s; simp
  | succ n ih =>
    intro s
    rw [List.range'_succ, List.pairwise_cons]
    refine ⟨fun x hx => ?_, ih (s + 1)⟩
    rw [List.mem_range'] at hx
    obtain ⟨i, _, rfl⟩ := hx
    omega

theorem same_l0 (l : List Int) (hl : l.length ≤ 140737488351232) (d : Nat) : ∀ (k i : Nat), i + d = l.length → d < k → arbourref14_SameInts.l0 k l l (i : Int) = some true := by
  induction d with
  | zero =>
    intro k i hi hk
    obtain ⟨k, rfl⟩ : ∃ m, k = m + 1 := ⟨k - 1, by omega⟩
    simp only [arbourref14_SameInts.l0]
    rw [if_neg (by omega)]
  | succ d ih =>
    intro k i hi hk
    obtain ⟨k, rfl⟩ : ∃ m, k = m + 1 := ⟨k - 1, by omega⟩
    simp only [arbourref14_SameInts.l0]
    rw [if_pos (by omega), if_pos (by omega), if_pos (by omega), if_pos trivial, wrap_nat (by omega)]
    exact ih k (i + 1) (by omega) (by omega)
theorem same_f (l : List Int) (hl : l.length ≤ 140737488351232) (k : Nat) (hk : l.length < k) : arbourref14_SameInts.f k l l = some true := by
  unfold arbourref14_SameInts.f
  rw [if_pos rfl]
  exact same_l0 l hl l.length k 0 (by omega) hk

section
variable {ps hs : List Int} {b g : Int} (h : Good ps hs b g)
include h
instance (a n : Nat) : Decidable (Adj ps a n) := by unfold Adj; infer_instance
theorem beside_f {a n : Nat} (ha : a ≤ ps.length) (hn : n ≤ ps.length) : arbourref16_beside.f ps hs b g (a : Int) (n : Int) = some (decide (Adj ps a n)) := by
  have h7 := h.len
  have key : (if (n : Int) > 0 then (if 0 ≤ (wrap64 ((n : Int) - 1)) then (if (wrap64 ((n : Int) - 1)) < (ps.length : Int) then (some ((rd ps (wrap64 ((n : Int) - 1))) == (a : Int))) else (none)) else (none)) else (some false)) = some (decide (0 < n ∧ parN ps n = a)) := by
    rcases Nat.eq_zero_or_pos n with h0 | h0
    · subst h0; rw [if_neg (by omega)]; simp
    · rw [if_pos (by omega), wrap_pred (by omega) (by omega), if_pos (by omega), if_pos (by omega), rd_par h.okp h0 hn]
      congr 1
      by_cases e : parN ps n = a
      · simp [e, h0]
      · simp only [e, and_false, decide_false]
        exact beq_eq_false_iff_ne.2 (by omega)
  unfold arbourref16_beside.f
  rcases Nat.eq_zero_or_pos a with h0 | h0
  · subst h0
    rw [if_neg (by omega), key]
    simp [Adj]
  · rw [if_pos (by omega), wrap_pred (by omega) (by omega), if_pos (by omega), if_pos (by omega), rd_par h.okp h0 ha]
    by_cases e : parN ps a = n
    · rw [if_pos (by omega)]
      simp [Adj, e, h0]
    · rw [if_neg (by omega), key]
      simp [Adj, e]
theorem rneigh_l0 {a : Nat} (ha : a ≤ ps.length) (d : Nat) : ∀ (k i : Nat) (acc : List Int), i + d = ps.length + 1 → acc.length ≤ i → d < k →
    arbourref16_Neighbors.l0 k (a : Int) acc (i : Int) ps hs b g = some (acc ++ C ((List.range' i d).filter fun n => decide (Adj ps a n))) := by
  induction d with
  | zero =>
    intro k i acc hi hacc hk
    obtain ⟨k, rfl⟩ : ∃ m, k = m + 1 := ⟨k - 1, by omega⟩
    simp only [arbourref16_Neighbors.l0]
    rw [if_neg (by omega)]
    simp [C]
  | succ d ih =>
    intro k i acc hi hacc hk
    have h7 := h.len
    obtain ⟨k, rfl⟩ : ∃ m, k = m + 1 := ⟨k - 1, by omega⟩
    simp only [arbourref16_Neighbors.l0]
    rw [if_pos (by omega), beside_f h ha (by omega), wrap_nat (by omega), List.range'_succ, List.filter_cons]
    simp only [Option.bind_some, decide_eq_true_eq]
    by_cases e : Adj ps a i
    · rw [if_pos e, if_pos (by omega), if_pos e, ih k (i + 1) (acc ++ [(i : Int)]) (by omega) (by simp; omega) (by omega)]
      simp [C]
    · rw [if_neg e, if_neg e, ih k (i + 1) acc (by omega) (by omega) (by omega)]
theorem NN_rise {a : Nat} (ha : a ≤ ps.length) : (NN ps a).Pairwise (· < ·) := by
  have hp := parN_lt h.okp
  unfold NN
  rw [List.pairwise_append]
  refine ⟨by split <;> simp, List.Pairwise.filter _ (range_rise _ _), fun x hx y hy => ?_⟩
  rw [List.mem_filter, List.mem_range'] at hy
  obtain ⟨⟨i, hi, e⟩, hy⟩ := hy
  simp at hy
  have := hp y (by omega)
  split at hx
  · rename_i h0
    simp at hx
    have := hp a h0
    omega
  · simp at hx
theorem RN_NN {a : Nat} (ha : a ≤ ps.length) : ((List.range' 0 (ps.length + 1)).filter fun n => decide (Adj ps a n)) = NN ps a := by
  refine rise_ext (List.Pairwise.filter _ (range_rise _ _)) (NN_rise h ha) fun x => ?_
  rw [List.mem_filter, List.mem_range', NN_mem h ha]
  simp only [decide_eq_true_eq]
  constructor
  · rintro ⟨⟨i, hi, e⟩, h2⟩; exact ⟨by omega, h2⟩
  · rintro ⟨h1, h2⟩; exact ⟨⟨x, by omega, by omega⟩, h2⟩
theorem rneigh_f {a : Nat} (ha : a ≤ ps.length) (k : Nat) (hk : 9 ≤ k) : arbourref16_Neighbors.f k ps hs b g (a : Int) = some (C (NN ps a)) := by
  unfold arbourref16_Neighbors.f
  have h7 := h.len
  have := rneigh_l0 h ha (ps.length + 1) k 0 [] (by omega) (by simp) (by omega)
  rw [RN_NN h ha] at this
  simpa using this

/-- How far the search may still go. -/
def mu (ps : List Int) (nt : Int) (a : Nat) : Nat := if 0 < a ∧ nt = (parN ps a : Int) then ps.length + 1 - a else ps.length + 2 + a
theorem mu_child {nt : Int} {a l : Nat} (ha : a ≤ ps.length) (hl : l ≤ ps.length) (h0 : 0 < l) (e : parN ps l = a) : mu ps (a : Int) l < mu ps nt a := by
  have := parN_lt h.okp l h0
  unfold mu
  rw [if_pos ⟨h0, by omega⟩]
  split <;> omega
theorem mu_par {nt : Int} {a : Nat} (ha : a ≤ ps.length) (h0 : 0 < a) (hn : (parN ps a : Int) ≠ nt) : mu ps (a : Int) (parN ps a) < mu ps nt a := by
  have h1 := parN_lt h.okp a h0
  unfold mu
  rw [if_neg (c := 0 < a ∧ nt = (parN ps a : Int)) (fun hh => hn hh.2.symm)]
  split
  · omega
  · omega
theorem rway_f (m : Nat) : ∀ (nt : Int) (a t k : Nat), mu ps nt a = m → a ≤ ps.length → t ≤ ps.length → 60 * (m + 1) ≤ k →
    arbourref16_way.f k ps hs b g nt (a : Int) (t : Int) = some (if a ≠ t ∧ (nh h.hp a t : Int) = nt then [] else C (W h.hp a t)) := by
  have h7 := h.len
  induction m using Nat.strongRecOn with
  | _ m ih =>
  intro nt a t k hm ha ht hk
  obtain ⟨k, rfl⟩ : ∃ j, k = j + 1 := ⟨k - 1, by omega⟩
  simp only [arbourref16_way.f]
  by_cases e : a = t
  · subst e
    rw [if_pos rfl, if_neg (by simp), W_self]; rfl
  · rw [if_neg (by omega), rneigh_f h ha k (by omega)]
    simp only [Option.bind_some]
    have hlen := NN_length h ha
    have loop : ∀ (d j k : Nat), j + d = (NN ps a).length → 60 * m + d + 1 ≤ k →
        arbourref16_way.l0 k nt (a : Int) (t : Int) (C (NN ps a)) (j : Int) ps hs b g = some (if nh h.hp a t ∈ (NN ps a).drop j ∧ (nh h.hp a t : Int) ≠ nt then C (W h.hp a t) else []) := by
      intro d
      induction d with
      | zero =>
        intro j k hj hk
        obtain ⟨k, rfl⟩ : ∃ j, k = j + 1 := ⟨k - 1, by omega⟩
        simp only [arbourref16_way.l0]
        rw [if_neg (by rw [C_length]; omega), List.drop_of_length_le (by omega), if_neg (by simp)]
      | succ d ihd =>
        intro j k hj hk
        obtain ⟨k, rfl⟩ : ∃ j, k = j + 1 := ⟨k - 1, by omega⟩
        have hjl : j < (NN ps a).length := by omega
        have hmem : (NN ps a)[j] ∈ NN ps a := List.getElem_mem hjl
        have hdrop : (NN ps a).drop j = (NN ps a)[j] :: (NN ps a).drop (j + 1) := List.drop_eq_getElem_cons hjl
        rw [hdrop]
        simp only [arbourref16_way.l0]
        rw [if_pos (by rw [C_length]; omega), if_pos (by omega), C_rd _ j hjl, wrap_nat (by omega), ihd (j + 1) k (by omega) (by omega)]
        generalize (NN ps a)[j] = l at *
        obtain ⟨hl, hadj⟩ := (NN_mem h ha l).1 hmem
        by_cases hn : (l : Int) = nt
        · rw [if_pos hn]
          congr 1
          by_cases hx : nh h.hp a t = l
          · rw [if_neg (fun hh => hh.2 (by rw [hx]; exact hn)), if_neg (fun hh => hh.2 (by rw [hx]; exact hn))]
          · simp [hx]
        · rw [if_neg hn]
          have hmu : mu ps (a : Int) l < m := by
            rw [← hm]
            rcases hadj with ⟨h0, e1⟩ | ⟨h0, e1⟩
            · exact mu_child h ha hl h0 e1
            · subst e1; exact mu_par h ha h0 hn
          have hway := ih _ hmu (a : Int) l t k rfl hl ht (by omega)
          have hback := nh_back h.hp hadj t
          by_cases hx : nh h.hp a t = l
          · have hb := hback.1 ⟨fun h => e h.symm, hx⟩
            rw [if_neg (fun hh => hb ⟨fun h => hh.1 h.symm, by have := hh.2; omega⟩)] at hway
            rw [hway]
            simp only [Option.bind_some]
            obtain ⟨u, hu⟩ := W_head h.hp l t
            have hWl := W_len' h hl ht
            rw [if_pos (by rw [C_length, hu]; simp), if_pos (by rw [C_length]; simp; omega), if_pos ⟨by rw [hx]; exact List.mem_cons_self, by rw [hx]; exact hn⟩, W_next h.hp a t e, hx]
            rfl
          · have hb : t ≠ l ∧ nh h.hp l t = a := by
              by_cases hh : t ≠ l ∧ nh h.hp l t = a
              · exact hh
              · exact absurd (hback.2 hh).2 hx
            rw [if_pos ⟨fun h => hb.1 h.symm, by omega⟩] at hway
            rw [hway]
            simp only [Option.bind_some]
            rw [if_neg (by simp)]
            congr 1
            simp [hx]
    have := loop (NN ps a).length 0 k (by omega) (by omega)
    rw [show (0 : Int) = ((0 : Nat) : Int) from rfl, this, List.drop_zero]
    congr 1
    by_cases hn : (nh h.hp a t : Int) = nt
    · rw [if_neg (fun hh => hh.2 hn), if_pos ⟨e, hn⟩]
    · rw [if_pos ⟨nh_NN h ha ht e, hn⟩, if_neg (fun hh => hn hh.2)]
theorem rWay_f {a t : Nat} (ha : a ≤ ps.length) (ht : t ≤ ps.length) (k : Nat) (hk : 1200 ≤ k) : arbourref16_Way.f k ps hs b g (a : Int) (t : Int) = some (C (W h.hp a t)) := by
  have h7 := h.len
  unfold arbourref16_Way.f
  have hm : mu ps (-1) a ≤ 16 := by unfold mu; split <;> omega
  rw [rway_f h _ (-1) a t k rfl ha ht (by omega), if_neg (by omega)]
  rfl
theorem rbeyond_l0 {a n : Nat} (ha : a ≤ ps.length) (hn : n ≤ ps.length) (hadj : Adj ps a n) (d : Nat) : ∀ (k i : Nat) (acc : List Int), i + d = ps.length + 1 → acc.length ≤ i → 1204 + 2 * d ≤ k →
    arbourref16_Beyond.l0 k (a : Int) (n : Int) acc (i : Int) ps hs b g = some (acc ++ C ((List.range' i d).filter fun t => decide (a ≠ t ∧ nh h.hp a t = n))) := by
  induction d with
  | zero =>
    intro k i acc hi hacc hk
    obtain ⟨k, rfl⟩ : ∃ m, k = m + 2 := ⟨k - 2, by omega⟩
    simp only [arbourref16_Beyond.l0, arbourref16_Beyond.j1]
    rw [if_neg (by omega), if_neg (by decide)]
    simp [C]
  | succ d ih =>
    intro k i acc hi hacc hk
    have h7 := h.len
    obtain ⟨k, rfl⟩ : ∃ m, k = m + 2 := ⟨k - 2, by omega⟩
    simp only [arbourref16_Beyond.l0]
    rw [if_pos (by omega), beside_f h ha hn, decide_eq_true hadj]
    simp only [Option.bind_some, arbourref16_Beyond.j1]
    rw [if_pos trivial, rWay_f h ha (by omega) k (by omega), wrap_nat (by omega), List.range'_succ, List.filter_cons]
    simp only [Option.bind_some]
    by_cases e : a = i
    · subst e
      rw [W_self, if_neg (by simp [C]), ih k (a + 1) acc (by omega) (by omega) (by omega)]
      simp
    · rw [W_next h.hp a i e]
      obtain ⟨u, hu⟩ := W_head h.hp (nh h.hp a i) i
      rw [hu]
      have r1 : rd (C (a :: nh h.hp a i :: u)) 1 = (nh h.hp a i : Int) := rfl
      rw [if_pos (by simp [C]; omega), if_pos (by simp [C]; omega), r1]
      by_cases e2 : nh h.hp a i = n
      · rw [if_pos (by omega), if_pos (by omega), ih k (i + 1) (acc ++ [(i : Int)]) (by omega) (by simp; omega) (by omega)]
        simp [e, e2, C]
      · rw [if_neg (by omega), ih k (i + 1) acc (by omega) (by omega) (by omega)]
        simp [e2]
theorem rbeyond_f {a n : Nat} (ha : a ≤ ps.length) (hn : n ≤ ps.length) (k : Nat) (hk : 1300 ≤ k) : arbourref16_Beyond.f k ps hs b g (a : Int) (n : Int) = some (C (BY h a n)) := by
  have h7 := h.len
  unfold arbourref16_Beyond.f BY
  by_cases hadj : Adj ps a n
  · rw [if_pos ((NN_mem h ha n).2 ⟨hn, hadj⟩)]
    have := rbeyond_l0 h ha hn hadj (ps.length + 1) k 0 [] (by omega) (by simp) (by omega)
    simpa using this
  · rw [if_neg (fun hh => hadj ((NN_mem h ha n).1 hh).2)]
    obtain ⟨k, rfl⟩ : ∃ m, k = m + 2 := ⟨k - 2, by omega⟩
    simp only [arbourref16_Beyond.l0]
    rw [if_pos (by omega), beside_f h ha hn, decide_eq_false hadj]
    simp only [Option.bind_some, arbourref16_Beyond.j1]
    rw [if_neg (by decide)]; rfl
theorem BY_length {a n : Nat} : (BY h a n).length ≤ 8 := by
  have h7 := h.len
  unfold BY
  split
  · have := List.length_filter_le (fun t => decide (a ≠ t ∧ nh h.hp a t = n)) (List.range' 0 (ps.length + 1))
    rw [List.length_range'] at this
    omega
  · simp
end
end Go.Proofs.Ytpoolbjmebacdaa.Q
