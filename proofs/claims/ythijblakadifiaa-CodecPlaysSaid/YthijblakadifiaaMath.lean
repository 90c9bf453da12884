/- Plain lists of bytes: a number's digits to the base 128. No program here. -/
namespace Go.Proofs.Ythijblakadifiaa

/-- The digits ahead of the last one: each with 128 added. -/
def hi (n : Nat) : List UInt8 := if _h : n = 0 then [] else hi (n / 128) ++ [UInt8.ofNat (n % 128 + 128)]
termination_by n
decreasing_by omega

/-- A number's bytes. -/
def enc (n : Nat) : List UInt8 := hi (n / 128) ++ [UInt8.ofNat (n % 128)]

def bs (l : List UInt8) : ByteArray := ⟨l.toArray⟩

theorem hi_zero : hi 0 = [] := by unfold hi; simp
theorem hi_pos (n : Nat) (h : 0 < n) : hi n = hi (n / 128) ++ [UInt8.ofNat (n % 128 + 128)] := by
  rw [hi]; rw [dif_neg (by omega)]

theorem hi_len (k : Nat) : ∀ n, n < 128 ^ k → (hi n).length ≤ k := by
  induction k with
  | zero => intro n h; have : n = 0 := by simp at h; omega
            subst this; rw [hi_zero]; simp
  | succ k ih =>
    intro n h
    by_cases h0 : n = 0
    · subst h0; rw [hi_zero]; simp
    · rw [hi_pos n (by omega)]
      have := ih (n / 128) (by rw [Nat.div_lt_iff_lt_mul (by omega)]; rw [Nat.pow_succ] at h; exact h)
      simp; omega

theorem enc_len (n : Nat) (h : n < 18446744073709551616) : (enc n).length ≤ 10 := by
  unfold enc
  have := hi_len 9 (n / 128) (by omega)
  simp; omega

theorem enc_pos (n : Nat) : 0 < (enc n).length := by unfold enc; simp

theorem bs_size (l : List UInt8) : (bs l).size = l.length := by simp [bs, ByteArray.size]
theorem bs_append (l m : List UInt8) : bs l ++ bs m = bs (l ++ m) := by
  apply ByteArray.ext; simp [bs, ByteArray.data_append]
theorem bs_self (s : ByteArray) : bs s.data.toList = s := by
  apply ByteArray.ext; simp [bs]
theorem bs_inj {l m : List UInt8} (h : bs l = bs m) : l = m := by
  have := congrArg (fun b : ByteArray => b.data.toList) h
  simpa [bs] using this
end Go.Proofs.Ythijblakadifiaa
