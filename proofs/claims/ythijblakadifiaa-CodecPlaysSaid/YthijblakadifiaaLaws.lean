/- Plain laws of the codec: what is written is read; what is read is what was written; order. No memory here. -/
import Derived.Test.YthijblakadifiaaRefEnc
namespace Go.Proofs.Ythijblakadifiaa

theorem ofNat_toNat (n : Nat) (h : n < 256) : (UInt8.ofNat n).toNat = n := by simp; omega

theorem uRd_hi (n : Nat) : 0 < n → n ≤ 144115188075855871 → ∀ r, uRd true 0 (hi n ++ r) = uRd false n r := by
  induction n using Nat.strongRecOn with
  | _ n ih =>
    intro h0 h1 r
    have hc : (UInt8.ofNat (n % 128 + 128)).toNat = n % 128 + 128 := ofNat_toNat _ (by omega)
    rw [hi_pos n h0]
    by_cases hz : n / 128 = 0
    · rw [hz, hi_zero]
      show uRd true 0 (UInt8.ofNat (n % 128 + 128) :: r) = _
      rw [uRd_on _ _ _ _ (by rw [hc]; omega) (by rw [hc]; omega), hc, show 0 * 128 + (n % 128 + 128 - 128) = n by omega]
    · rw [List.append_assoc, ih (n / 128) (by omega) (by omega) (by omega)]
      show uRd false (n / 128) (UInt8.ofNat (n % 128 + 128) :: r) = _
      rw [uRd_on _ _ _ _ (by simp; omega) (by rw [hc]; omega), hc, show n / 128 * 128 + (n % 128 + 128 - 128) = n by omega]

theorem uRd_enc (n : Nat) (h : n ≤ 18446744073709551615) (t : List UInt8) : uRd true 0 (enc n ++ t) = (n, t, 0) := by
  unfold enc
  have hc : (UInt8.ofNat (n % 128)).toNat = n % 128 := ofNat_toNat _ (by omega)
  by_cases hz : n / 128 = 0
  · rw [hz, hi_zero]
    show uRd true 0 (UInt8.ofNat (n % 128) :: t) = _
    rw [uRd_end _ _ _ _ (by rw [hc]; omega) (by rw [hc]; omega), hc]
    simp; omega
  · rw [List.append_assoc, uRd_hi (n / 128) (by omega) (by omega)]
    show uRd false (n / 128) (UInt8.ofNat (n % 128) :: t) = _
    rw [uRd_end _ _ _ _ (by simp; omega) (by rw [hc]; omega), hc]
    simp; omega

theorem uRd_back (l : List UInt8) : ∀ first m n t, (first = true → m = 0) → (first = false → 0 < m) → uRd first m l = (n, t, 0) → hi m ++ l = enc n ++ t := by
  induction l with
  | nil => intro first m n t _ _ h; rw [uRd] at h; simp at h
  | cons c l ih =>
    intro first m n t h1 h2 h
    have hc := c.toNat_lt
    by_cases hf : (first = true ∧ c.toNat = 128) ∨ m > 144115188075855871
    · rw [uRd_form _ _ _ _ hf] at h; simp at h
    · by_cases hlt : c.toNat < 128
      · rw [uRd_end _ _ _ _ hf hlt] at h
        injection h with h3 h4
        injection h4 with h4 _
        subst h4 h3
        unfold enc
        rw [show (m * 128 + c.toNat) / 128 = m by omega, show (m * 128 + c.toNat) % 128 = c.toNat by omega]
        simp
      · rw [uRd_on _ _ _ _ hf hlt] at h
        have hm : 0 < m * 128 + (c.toNat - 128) := by
          cases first with
          | true =>
            have : c.toNat ≠ 128 := fun e => hf (.inl ⟨rfl, e⟩)
            omega
          | false => have := h2 rfl; omega
        have := ih false _ n t (by simp) (fun _ => hm) h
        rw [← this, hi_pos _ hm, show (m * 128 + (c.toNat - 128)) / 128 = m by omega, show (m * 128 + (c.toNat - 128)) % 128 + 128 = c.toNat by omega]
        simp

theorem uRd_one (l : List UInt8) (n : Nat) (h : uRd true 0 l = (n, [], 0)) : l = enc n := by
  have := uRd_back l true 0 n [] (fun _ => rfl) (by simp) h
  simpa [hi_zero] using this

theorem enc_inj {a b : Nat} (ha : a ≤ 18446744073709551615) (hb : b ≤ 18446744073709551615) {t u : List UInt8} (h : enc a ++ t = enc b ++ u) : a = b ∧ t = u := by
  have h1 := uRd_enc a ha t
  rw [h, uRd_enc b hb u] at h1
  simp at h1
  exact ⟨h1.1.symm, h1.2.symm⟩

theorem unfold_fold (i : Int) : unfoldZ (foldZ i) = i := by
  unfold unfoldZ foldZ; split <;> split <;> omega
theorem fold_unfold (n : Nat) : foldZ (unfoldZ n) = n := by
  unfold unfoldZ foldZ; split <;> split <;> omega
theorem unfoldZ_range (n : Nat) (h : n ≤ 18446744073709551615) : -9223372036854775808 ≤ unfoldZ n ∧ unfoldZ n ≤ 9223372036854775807 := by
  unfold unfoldZ; split <;> omega

/-- Fewer bytes, or as many that come earlier. -/
def Lower (x y : List UInt8) : Prop := x.length < y.length ∨ (x.length = y.length ∧ Op.bytesLess x y = true)
theorem less_append (x y u v : List UInt8) : x.length = y.length → Op.bytesLess x y = true → Op.bytesLess (x ++ u) (y ++ v) = true := by
  induction x generalizing y with
  | nil => intro h; cases y with
    | nil => simp [Op.bytesLess]
    | cons => simp at h
  | cons a x ih =>
    intro h hl
    cases y with
    | nil => simp at h
    | cons b y =>
      simp only [List.cons_append, Op.bytesLess, Bool.or_eq_true, decide_eq_true_eq, Bool.and_eq_true, beq_iff_eq] at hl ⊢
      rcases hl with hl | ⟨rfl, hl⟩
      · exact .inl hl
      · exact .inr ⟨rfl, ih y (by simpa using h) hl⟩
theorem less_same (x u v : List UInt8) (h : Op.bytesLess u v = true) : Op.bytesLess (x ++ u) (x ++ v) = true := by
  induction x with
  | nil => exact h
  | cons a x ih => simp [Op.bytesLess, ih]
theorem less_asymm (x : List UInt8) : ∀ y, Op.bytesLess x y = true → Op.bytesLess y x = false := by
  induction x with
  | nil => intro y _; cases y <;> simp [Op.bytesLess]
  | cons a x ih =>
    intro y h
    cases y with
    | nil => simp [Op.bytesLess] at h
    | cons b y =>
      simp only [Op.bytesLess, Bool.or_eq_true, decide_eq_true_eq, Bool.and_eq_true, beq_iff_eq] at h
      simp only [Op.bytesLess, Bool.or_eq_false_iff, decide_eq_false_iff_not, Bool.and_eq_false_iff]
      rcases h with h | ⟨rfl, h⟩
      · refine ⟨fun h2 => ?_, .inl ?_⟩
        · rw [UInt8.lt_iff_toNat_lt] at h h2; omega
        · rw [beq_eq_false_iff_ne]; rintro rfl; rw [UInt8.lt_iff_toNat_lt] at h; omega
      · refine ⟨fun h2 => ?_, .inr (ih y h)⟩
        rw [UInt8.lt_iff_toNat_lt] at h2; omega
theorem lower_snoc (x y : List UInt8) (c d : UInt8) (h : Lower x y ∨ (x = y ∧ c < d)) : Lower (x ++ [c]) (y ++ [d]) := by
  rcases h with (h | ⟨h1, h2⟩) | ⟨rfl, h⟩
  · exact .inl (by simp; exact h)
  · exact .inr ⟨by simp [h1], less_append _ _ _ _ h1 h2⟩
  · exact .inr ⟨by simp, less_same _ _ _ (by simp [Op.bytesLess, h])⟩
theorem byte_lt (a b : Nat) (hb : b < 256) (h : a < b) : UInt8.ofNat a < UInt8.ofNat b := by
  rw [UInt8.lt_iff_toNat_lt, ofNat_toNat a (by omega), ofNat_toNat b hb]; exact h
theorem hi_lower (b : Nat) : ∀ a, a < b → Lower (hi a) (hi b) := by
  induction b using Nat.strongRecOn with
  | _ b ih =>
    intro a h
    by_cases h0 : a = 0
    · subst h0
      rw [hi_zero, hi_pos b (by omega)]
      exact .inl (by simp)
    · rw [hi_pos a (by omega), hi_pos b (by omega)]
      apply lower_snoc
      by_cases h1 : a / 128 < b / 128
      · exact .inl (ih (b / 128) (by omega) (a / 128) h1)
      · refine .inr ⟨by rw [show a / 128 = b / 128 by omega], byte_lt _ _ (by omega) (by omega)⟩
theorem enc_lower (a b : Nat) (h : a < b) : Lower (enc a) (enc b) := by
  unfold enc
  apply lower_snoc
  by_cases h1 : a / 128 < b / 128
  · exact .inl (hi_lower _ _ h1)
  · exact .inr ⟨by rw [show a / 128 = b / 128 by omega], byte_lt _ _ (by omega) (by omega)⟩
theorem enc_prefix (a b : Nat) (ha : a ≤ 18446744073709551615) (hb : b ≤ 18446744073709551615) (k : Nat) (hk : k = min (enc a).length (enc b).length) (h : (enc a).take k = (enc b).take k) : a = b := by
  rcases Nat.le_total (enc a).length (enc b).length with hl | hl
  · rw [hk, Nat.min_eq_left hl, List.take_length] at h
    have e : enc a ++ (enc b).drop (enc a).length = enc b ++ [] := by
      rw [List.append_nil]
      conv => lhs; lhs; rw [h]
      exact List.take_append_drop _ _
    exact (enc_inj ha hb e).1
  · rw [hk, Nat.min_eq_right hl, List.take_length] at h
    have e : enc a ++ [] = enc b ++ (enc a).drop (enc b).length := by
      rw [List.append_nil]
      conv => rhs; lhs; rw [← h]
      exact (List.take_append_drop _ _).symm
    exact (enc_inj ha hb e).1
end Go.Proofs.Ythijblakadifiaa
