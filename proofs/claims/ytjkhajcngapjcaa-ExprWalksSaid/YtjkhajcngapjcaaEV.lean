/- Values, and whether one is in a set, without memory. -/
import Derived.Test.YtjkhajcngapjcaaES
namespace Go.Proofs.Ytjkhajcngapjcaa.Q
open Go.RowKit Go.Proofs.YtjkhajcngapjcaaW.PrintWords
set_option linter.unusedVariables false
set_option linter.unusedSimpArgs false

/-- A value. -/
structure V3 where
  k : Int
  n : Int
  t : ByteArray
def vOk (v : V3) : Bool := if v.k = 0 then (v.n == 0 && v.t.toList == ([] : List UInt8)) else if v.k = 1 then (v.t.toList == ([] : List UInt8)) else if v.k = 2 then (v.n == 0 && decide (v.t.size ≤ 8)) else false
theorem refVal_f (v : V3) : arbourref01_Right.f v.k v.n v.t = some (vOk v) := by
  unfold arbourref01_Right.f vOk
  by_cases h0 : v.k = 0
  · rw [if_pos h0, if_pos h0]
    by_cases h1 : v.n = 0
    · rw [if_pos h1, h1]; simp
    · rw [if_neg h1, beq_false_of_ne h1]; simp
  · rw [if_neg h0, if_neg h0]
    by_cases h1 : v.k = 1
    · rw [if_pos h1, if_pos h1]
    · rw [if_neg h1, if_neg h1]
      by_cases h2 : v.k = 2
      · rw [if_pos h2, if_pos h2]
        by_cases h3 : v.n = 0
        · rw [if_pos h3, h3]
          simp only [beq_self_eq_true, Bool.true_and]
          congr 1; exact decide_eq_decide.2 (by omega)
        · rw [if_neg h3, beq_false_of_ne h3]; simp
      · rw [if_neg h2, if_neg h2]
theorem val_f (v : V3) : value_Right.f v.k v.n v.t = some (vOk v) := by
  rw [← refVal_f]
  unfold value_Right.f arbourref01_Right.f
  by_cases h0 : v.k = 0
  · rw [if_pos h0, if_pos h0, h0]
    by_cases h1 : v.n = 0
    · rw [if_pos h1, h1]; simp
    · rw [if_neg h1, beq_false_of_ne h1]; simp
  · rw [if_neg h0, if_neg h0]

def inR (x : Int) (r : S54) : Bool := decide (r.f0 ≤ x) && decide (x ≤ r.f1)
def inS (x : ByteArray) (s : ByteArray) : Bool := x.toList == s.toList
theorem InInts_l (l : List S54) (x : Int) (hl : l.length ≤ 1000000) (d : Nat) : ∀ (k i : Nat), i + d = l.length → d < k → arbourref03_InInts.l0 k l x (i : Int) = some ((l.drop i).any (inR x)) := by
  induction d with
  | zero =>
    intro k i hi hk
    obtain ⟨k, rfl⟩ : ∃ m, k = m + 1 := ⟨k - 1, by omega⟩
    simp only [arbourref03_InInts.l0]
    rw [if_neg (by omega), List.drop_of_length_le (by omega)]; rfl
  | succ d ih =>
    intro k i hi hk
    obtain ⟨k, rfl⟩ : ∃ m, k = m + 1 := ⟨k - 1, by omega⟩
    simp only [arbourref03_InInts.l0]
    rw [if_pos (by omega), if_pos (by omega), drop54 l i (by omega), wrap_nat (by omega), ih k (i + 1) (by omega) (by omega), List.any_cons]
    unfold inR
    by_cases h1 : (rd_T54 l (i : Int)).f0 ≤ x
    · rw [if_pos h1, decide_eq_true h1, Bool.true_and]
      by_cases h2 : x ≤ (rd_T54 l (i : Int)).f1
      · rw [if_pos h2, decide_eq_true h2, Bool.true_or]
      · rw [if_neg h2, decide_eq_false h2, Bool.false_or]
    · rw [if_neg h1, decide_eq_false h1, Bool.false_and, Bool.false_or]
theorem InInts_f (l : List S54) (x : Int) (hl : l.length ≤ 1000000) (k : Nat) (hk : l.length < k) : arbourref03_InInts.f k l x = some (l.any (inR x)) := by
  have := InInts_l l x hl l.length k 0 (by omega) hk
  exact this
theorem InStrs_l (l : List ByteArray) (x : ByteArray) (hl : l.length ≤ 1000000) (d : Nat) : ∀ (k i : Nat), i + d = l.length → d < k → arbourref03_InStrs.l0 k l x (i : Int) = some ((l.drop i).any (inS x)) := by
  induction d with
  | zero =>
    intro k i hi hk
    obtain ⟨k, rfl⟩ : ∃ m, k = m + 1 := ⟨k - 1, by omega⟩
    simp only [arbourref03_InStrs.l0]
    rw [if_neg (by omega), List.drop_of_length_le (by omega)]; rfl
  | succ d ih =>
    intro k i hi hk
    obtain ⟨k, rfl⟩ : ∃ m, k = m + 1 := ⟨k - 1, by omega⟩
    simp only [arbourref03_InStrs.l0]
    rw [if_pos (by omega), if_pos (by omega), dropS l i (by omega), wrap_nat (by omega), ih k (i + 1) (by omega) (by omega), List.any_cons]
    unfold inS
    by_cases h1 : (rdOf ByteArray.empty l (i : Int)).toList = x.toList
    · rw [if_pos h1, h1]; simp
    · rw [if_neg h1, beq_false_of_ne (fun hh => h1 hh.symm), Bool.false_or]
theorem InStrs_f (l : List ByteArray) (x : ByteArray) (hl : l.length ≤ 1000000) (k : Nat) (hk : l.length < k) : arbourref03_InStrs.f k l x = some (l.any (inS x)) := by
  have := InStrs_l l x hl l.length k 0 (by omega) hk
  exact this
theorem Index_l (l : List ByteArray) (x : ByteArray) (hl : l.length ≤ 1000000) (d : Nat) : ∀ (k i : Nat), i + d = l.length → d < k → ∃ j, slices_Index_string_string.l0 k l x (l.length : Int) (i : Int) = some j ∧ decide (j ≥ 0) = (l.drop i).any (inS x) := by
  induction d with
  | zero =>
    intro k i hi hk
    obtain ⟨k, rfl⟩ : ∃ m, k = m + 1 := ⟨k - 1, by omega⟩
    simp only [slices_Index_string_string.l0]
    rw [if_neg (by omega), List.drop_of_length_le (by omega)]; exact ⟨-1, rfl, rfl⟩
  | succ d ih =>
    intro k i hi hk
    obtain ⟨k, rfl⟩ : ∃ m, k = m + 1 := ⟨k - 1, by omega⟩
    simp only [slices_Index_string_string.l0]
    obtain ⟨j, e, h⟩ := ih k (i + 1) (by omega) (by omega)
    rw [if_pos (by omega), if_pos (by omega), if_pos (by omega), dropS l i (by omega), wrap_nat (by omega), e, List.any_cons]
    unfold inS
    by_cases h1 : x.toList = (rdOf ByteArray.empty l (i : Int)).toList
    · rw [if_pos h1]; exact ⟨_, rfl, by rw [h1]; simp⟩
    · rw [if_neg h1, beq_false_of_ne h1, Bool.false_or]; exact ⟨j, rfl, h⟩
theorem Contains_f (l : List ByteArray) (x : ByteArray) (hl : l.length ≤ 1000000) (k : Nat) (hk : l.length < k) : slices_Contains_string_string.f k l x = some (l.any (inS x)) := by
  obtain ⟨j, e, h⟩ := Index_l l x hl l.length k 0 (by omega) hk
  unfold slices_Contains_string_string.f slices_Index_string_string.f
  rw [show (0 : Int) = ((0 : Nat) : Int) from rfl, e]
  simp only [Option.bind_some]
  exact congrArg some h
/-- Is a value in a set? -/
def hasT (s : S25) (v : V3) : Bool := if vOk v = true then (if v.k = 0 then s.f0 else if v.k = 1 then s.f1.any (inR v.n) else (s.f3.any (inS v.t) != s.f2)) else false
theorem refHas_f (s : S25) (v : V3) (h : FineS s) (k : Nat) (hk : s.f1.length + s.f3.length + 2 ≤ k) : arbourref03_Has.f k s.f0 s.f1 s.f2 s.f3 v.k v.n v.t = some (hasT s v) := by
  unfold arbourref03_Has.f hasT
  rw [refVal_f, Option.bind_some, InInts_f _ _ h.l1 k (by omega), InStrs_f _ _ h.l3 k (by omega)]
  by_cases h1 : vOk v = true
  · rw [if_pos h1, if_pos h1]
    by_cases h2 : v.k = 0
    · rw [if_pos h2, if_pos h2]
    · rw [if_neg h2, if_neg h2]
      by_cases h3 : v.k = 1
      · rw [if_pos h3, if_pos h3]; rfl
      · rw [if_neg h3, if_neg h3]; rfl
  · rw [if_neg h1, if_neg h1]
/-- May an event be? -/
def evOk (e : Nat → V3) : Bool := vOk (e 0) && (vOk (e 1) && (vOk (e 2) && vOk (e 3)))
theorem evOk_iff (e : Nat → V3) : evOk e = true ↔ ∀ j, j < 4 → vOk (e j) = true := by
  unfold evOk
  simp only [Bool.and_eq_true]
  constructor
  · rintro ⟨h0, h1, h2, h3⟩ j hj
    have hjj : j = 0 ∨ j = 1 ∨ j = 2 ∨ j = 3 := by omega
    rcases hjj with rfl | rfl | rfl | rfl <;> assumption
  · intro h
    exact ⟨h 0 (by omega), h 1 (by omega), h 2 (by omega), h 3 (by omega)⟩
theorem evOk_no (e : Nat → V3) (j : Nat) (hj : j < 4) (h : vOk (e j) = false) : evOk e = false := by
  cases h2 : evOk e with
  | false => rfl
  | true => have := (evOk_iff e).1 h2 j hj; rw [h] at this; simp at this
end Go.Proofs.Ytjkhajcngapjcaa.Q
