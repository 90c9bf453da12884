/- A tree told by the parent of each but the first: the way from one to another, the next one on it. -/
namespace Go.Proofs.Ytpoolbjmebacdaa.TM
set_option linter.unusedVariables false

section
variable {par : Nat → Nat}

/-- The way. -/
def W (hp : ∀ b, 0 < b → par b < b) (a b : Nat) : List Nat := if h : a = b then [a] else if h2 : b < a then a :: W hp (par a) b else W hp a (par b) ++ [b]
termination_by a + b
decreasing_by
  · have := hp a (by omega); omega
  · have := hp b (by omega); omega
/-- The next one on the way. -/
def nh (hp : ∀ b, 0 < b → par b < b) (a b : Nat) : Nat := if h : a < b then (if par b = a then b else nh hp a (par b)) else par a
termination_by b
decreasing_by have := hp b (by omega); omega
/-- The way up. -/
def U (hp : ∀ b, 0 < b → par b < b) (a : Nat) : List Nat := if h : 0 < a then a :: U hp (par a) else [a]
termination_by a
decreasing_by exact hp a h

variable (hp : ∀ b, 0 < b → par b < b)
theorem W_self (a : Nat) : W hp a a = [a] := by rw [W]; simp
theorem W_gt {a b : Nat} (h : b < a) : W hp a b = a :: W hp (par a) b := by rw [W, dif_neg (by omega), dif_pos h]
theorem W_lt {a b : Nat} (h : a < b) : W hp a b = W hp a (par b) ++ [b] := by rw [W, dif_neg (by omega), dif_neg (by omega)]
theorem nh_gt {a b : Nat} (h : b ≤ a) : nh hp a b = par a := by rw [nh, dif_neg (by omega)]
theorem nh_par {a b : Nat} (h : a < b) (e : par b = a) : nh hp a b = b := by rw [nh, dif_pos h, if_pos e]
theorem nh_lt {a b : Nat} (h : a < b) (e : par b ≠ a) : nh hp a b = nh hp a (par b) := by rw [nh, dif_pos h, if_neg e]
theorem U_zero : U hp 0 = [0] := by rw [U]; simp
theorem U_pos {a : Nat} (h : 0 < a) : U hp a = a :: U hp (par a) := by rw [U, dif_pos h]

/-- Where the next one lies. -/
theorem nh_up (a : Nat) (b : Nat) : a < b → nh hp a b ≤ b ∧ (a < nh hp a b ∨ (0 < a ∧ nh hp a b = par a)) ∧ nh hp a b ≠ a := by
  induction b using Nat.strongRecOn with
  | _ b ih =>
  intro h
  have hb := hp b (by omega)
  by_cases e : par b = a
  · rw [nh_par hp h e]; omega
  · rw [nh_lt hp h e]
    rcases Nat.lt_or_ge a (par b) with h2 | h2
    · have := ih (par b) hb h2; omega
    · have ha := hp a (by omega)
      rw [nh_gt hp h2]; omega
theorem nh_ne {a b : Nat} (h : a ≠ b) : nh hp a b ≠ a ∧ (nh hp a b ≤ a ∨ nh hp a b ≤ b) := by
  rcases Nat.lt_or_ge a b with h1 | h1
  · have := nh_up hp a b h1; omega
  · rw [nh_gt hp h1]; have := hp a (by omega); omega
/-- It is a neighbour. -/
theorem nh_adj (a : Nat) (b : Nat) : a ≠ b → (0 < nh hp a b ∧ par (nh hp a b) = a) ∨ (0 < a ∧ par a = nh hp a b) := by
  induction b using Nat.strongRecOn with
  | _ b ih =>
  intro h
  rcases Nat.lt_or_ge a b with h1 | h1
  · have hb := hp b (by omega)
    by_cases e : par b = a
    · rw [nh_par hp h1 e]; exact .inl ⟨by omega, e⟩
    · rw [nh_lt hp h1 e]; exact ih (par b) hb (fun h => e h.symm)
  · rw [nh_gt hp h1]; exact .inr ⟨by omega, rfl⟩
theorem W_head (a b : Nat) : ∃ t, W hp a b = a :: t := by
  induction b using Nat.strongRecOn with
  | _ b ih =>
  by_cases h : a = b
  · subst h; exact ⟨[], W_self hp a⟩
  · rcases Nat.lt_or_ge a b with h1 | h1
    · rw [W_lt hp h1]
      obtain ⟨t, ht⟩ := ih (par b) (hp b (by omega))
      exact ⟨t ++ [b], by rw [ht]; rfl⟩
    · rw [W_gt hp (by omega)]; exact ⟨_, rfl⟩
theorem W_next (a : Nat) (b : Nat) : a ≠ b → W hp a b = a :: W hp (nh hp a b) b := by
  induction b using Nat.strongRecOn with
  | _ b ih =>
  intro h
  rcases Nat.lt_or_ge a b with h1 | h1
  · have hb := hp b (by omega)
    by_cases e : par b = a
    · rw [nh_par hp h1 e, W_lt hp h1, e, W_self, W_self]; rfl
    · have hu := nh_up hp a b h1
      rw [W_lt hp h1, ih (par b) hb (fun h => e h.symm), ← nh_lt hp h1 e]
      have hc : nh hp a b < b := by
        rw [nh_lt hp h1 e]
        have := nh_ne hp (a := a) (b := par b) (fun h => e h.symm)
        omega
      rw [W_lt hp hc]; rfl
  · rw [nh_gt hp h1, W_gt hp (by omega)]
theorem W_rev (n : Nat) : ∀ a b, a + b = n → (W hp a b).reverse = W hp b a := by
  induction n using Nat.strongRecOn with
  | _ n ih =>
  intro a b hn
  by_cases h : a = b
  · subst h; rw [W_self]; rfl
  · rcases Nat.lt_or_ge a b with h1 | h1
    · have := hp b (by omega)
      rw [W_lt hp h1, W_gt hp h1, List.reverse_append, ih (a + par b) (by omega) a (par b) rfl]; rfl
    · have := hp a (by omega)
      rw [W_gt hp (by omega), W_lt hp (a := b) (b := a) (by omega), List.reverse_cons, ih (par a + b) (by omega) (par a) b rfl]
/-- Of two neighbours, each one lies beyond just one of the two directions. -/
theorem nh_parts {f l : Nat} (hl : 0 < l) (e : par l = f) (t : Nat) : (t ≠ f ∧ nh hp f t = l) ↔ ¬ (t ≠ l ∧ nh hp l t = f) := by
  induction t using Nat.strongRecOn with
  | _ t ih =>
  have hfl : f < l := by rw [← e]; exact hp l hl
  by_cases h1 : t = l
  · subst h1
    simp [nh_par hp hfl e]; omega
  by_cases h2 : t = f
  · subst h2
    simp [nh_gt hp (Nat.le_of_lt hfl), e]; omega
  rcases Nat.lt_or_ge t l with h3 | h3
  · have : nh hp l t = f := by rw [nh_gt hp (by omega), e]
    have h4 : nh hp f t ≠ l := by
      have := nh_ne hp (a := f) (b := t) (fun h => h2 h.symm)
      omega
    simp [h1, this, h4]
  · have h5 : l < t := by omega
    have h6 : f < t := by omega
    have ht := hp t (by omega)
    by_cases h7 : par t = l
    · rw [nh_par hp h5 h7, nh_lt hp h6 (by omega), h7, nh_par hp hfl e]
      simp [h2]
    · by_cases h8 : par t = f
      · rw [nh_par hp h6 h8, nh_lt hp h5 h7, h8, nh_gt hp (Nat.le_of_lt hfl)]
        simp [h1, e]
      · rw [nh_lt hp h6 h8, nh_lt hp h5 h7]
        have := ih (par t) ht
        simp only [ne_eq, h7, h8, h1, h2, not_false_eq_true, true_and] at this ⊢
        exact this
/-- Of a neighbour: the rest of the way goes not back. -/
theorem nh_back {a c : Nat} (hn : (0 < c ∧ par c = a) ∨ (0 < a ∧ par a = c)) (t : Nat) : (t ≠ a ∧ nh hp a t = c) ↔ ¬ (t ≠ c ∧ nh hp c t = a) := by
  rcases hn with ⟨h0, h⟩ | ⟨h0, h⟩
  · exact nh_parts hp h0 h t
  · have := nh_parts hp h0 h t
    constructor
    · intro h1 h2; exact this.1 h2 h1
    · intro h1
      by_cases h3 : t ≠ a ∧ nh hp a t = c
      · exact h3
      · exact absurd (this.2 h3) h1
theorem W_le (n : Nat) : ∀ a b, a + b = n → ∀ x, x ∈ W hp a b → x ≤ a ∨ x ≤ b := by
  induction n using Nat.strongRecOn with
  | _ n ih =>
  intro a b hn x hx
  by_cases h : a = b
  · subst h; rw [W_self] at hx; simp at hx; omega
  · rcases Nat.lt_or_ge a b with h1 | h1
    · have hb := hp b (by omega)
      rw [W_lt hp h1] at hx
      rcases List.mem_append.1 hx with hx | hx
      · have := ih (a + par b) (by omega) a (par b) rfl x hx; omega
      · simp at hx; omega
    · have ha := hp a (by omega)
      rw [W_gt hp (by omega)] at hx
      rcases List.mem_cons.1 hx with hx | hx
      · omega
      · have := ih (par a + b) (by omega) (par a) b rfl x hx; omega
theorem W_nodup (n : Nat) : ∀ a b, a + b = n → (W hp a b).Nodup := by
  induction n using Nat.strongRecOn with
  | _ n ih =>
  intro a b hn
  by_cases h : a = b
  · subst h; rw [W_self]; simp
  · rcases Nat.lt_or_ge a b with h1 | h1
    · have hb := hp b (by omega)
      rw [W_lt hp h1, List.nodup_append]
      refine ⟨ih (a + par b) (by omega) a (par b) rfl, by simp, fun x hx y hy => ?_⟩
      have := W_le hp _ a (par b) rfl x hx
      simp at hy; omega
    · have ha := hp a (by omega)
      rw [W_gt hp (by omega), List.nodup_cons]
      refine ⟨fun hx => ?_, ih (par a + b) (by omega) (par a) b rfl⟩
      have := W_le hp _ (par a) b rfl a hx
      omega
theorem W_length (n : Nat) : ∀ a b, a + b = n → (W hp a b).length ≤ a + b + 1 := by
  induction n using Nat.strongRecOn with
  | _ n ih =>
  intro a b hn
  by_cases h : a = b
  · subst h; rw [W_self]; simp
  · rcases Nat.lt_or_ge a b with h1 | h1
    · have hb := hp b (by omega)
      rw [W_lt hp h1]
      have := ih (a + par b) (by omega) a (par b) rfl
      simp; omega
    · have ha := hp a (by omega)
      rw [W_gt hp (by omega)]
      have := ih (par a + b) (by omega) (par a) b rfl
      simp; omega
/-- Two that stand side by side on a way: each is the other's next one. -/
theorem W_pairs (n : Nat) : ∀ a b, (W hp a b).length = n → ∀ i x y, (W hp a b)[i]? = some x → (W hp a b)[i + 1]? = some y → x ≠ b ∧ nh hp x b = y := by
  induction n with
  | zero => intro a b h; obtain ⟨t, ht⟩ := W_head hp a b; rw [ht] at h; simp at h
  | succ n ih =>
    intro a b hl i x y hx hy
    by_cases h : a = b
    · subst h; rw [W_self] at hy; simp at hy
    · have hw := W_next hp a b h
      rw [hw] at hx hy hl
      simp at hl
      cases i with
      | zero =>
        obtain ⟨t, ht⟩ := W_head hp (nh hp a b) b
        rw [ht] at hy
        simp at hx hy
        subst hx; exact ⟨h, hy⟩
      | succ i =>
        simp only [List.getElem?_cons_succ] at hx hy
        exact ih (nh hp a b) b hl i x y hx hy
theorem W_pairs_back (a b : Nat) (i x y : Nat) (hx : (W hp a b)[i]? = some x) (hy : (W hp a b)[i + 1]? = some y) : y ≠ a ∧ nh hp y a = x := by
  have hr := W_rev hp _ a b rfl
  have hl : i + 1 < (W hp a b).length := (List.getElem?_eq_some_iff.1 hy).1
  have e1 : (W hp b a)[(W hp a b).length - 2 - i]? = some y := by
    rw [← hr, List.getElem?_reverse (by omega)]
    rw [show (W hp a b).length - 1 - ((W hp a b).length - 2 - i) = i + 1 by omega]; exact hy
  have e2 : (W hp b a)[(W hp a b).length - 2 - i + 1]? = some x := by
    rw [← hr, List.getElem?_reverse (by omega)]
    rw [show (W hp a b).length - 1 - ((W hp a b).length - 2 - i + 1) = i by omega]; exact hx
  exact W_pairs hp _ b a rfl _ y x e1 e2
theorem W_getLast (n : Nat) : ∀ a b, a + b = n → (W hp a b).getLast? = some b := by
  intro n' b h
  have hr := W_rev hp _ b n' rfl
  obtain ⟨t, ht⟩ := W_head hp b n'
  rw [← hr, ht]
  simp
theorem U_le (a : Nat) : ∀ x, x ∈ U hp a → x ≤ a := by
  induction a using Nat.strongRecOn with
  | _ a ih =>
  intro x hx
  rcases Nat.eq_zero_or_pos a with h | h
  · subst h; rw [U_zero] at hx; simpa using hx
  · rw [U_pos hp h] at hx
    rcases List.mem_cons.1 hx with hx | hx
    · omega
    · have := ih (par a) (hp a h) x hx
      have := hp a h
      omega
theorem U_zero_mem (a : Nat) : 0 ∈ U hp a := by
  induction a using Nat.strongRecOn with
  | _ a ih =>
  rcases Nat.eq_zero_or_pos a with h | h
  · subst h; rw [U_zero]; simp
  · rw [U_pos hp h]; exact List.mem_cons_of_mem _ (ih (par a) (hp a h))
end
end Go.Proofs.Ytpoolbjmebacdaa.TM
