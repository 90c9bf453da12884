/- What tree.Check and tree.Size answer, said without rounds. -/
import Derived.Test.YtpoolbjmebacdaaQA
namespace Go.Proofs.Ytpoolbjmebacdaa.Q
open Go.RowKit Go.Proofs.YtpoolbjmebacdaaW.PrintWords

def badFrom : Int → List Int → Bool
  | _, [] => false
  | i, p :: t => decide (p < 0) || decide (i < p) || badFrom (i + 1) t
def badHomes (n : Int) : List Int → Bool
  | [] => false
  | x :: t => decide (x < 0) || decide (n < x) || badHomes n t
def badArg (hs : List Int) (b g : Int) : Bool := decide (8 < hs.length) || decide (b < 0) || decide (1000000 < b) || (g == 18446744073709551615)
/-- Whether a header may be. -/
def checkT (ps hs : List Int) (b g : Int) : Int :=
  if 8 ≤ ps.length then 8 else if badFrom 0 ps = true then 8 else if badArg hs b g = true then 1 else if badHomes ps.length hs = true then 1 else 0
/-- How many brokers there are. -/
def sizeT (ps hs : List Int) (b g : Int) : Int := if checkT ps hs b g = 0 then (ps.length : Int) + 1 else 0

theorem rd_nat (xs : List Int) (i : Nat) (h : i < xs.length) : rd xs (i : Int) = xs[i] := by
  unfold rd
  simp [List.getD_eq_getElem?_getD, List.getElem?_eq_getElem h]
theorem drop_rd (xs : List Int) (i : Nat) (h : i < xs.length) : xs.drop i = rd xs (i : Int) :: xs.drop (i + 1) := by
  rw [rd_nat xs i h]
  exact List.drop_eq_getElem_cons h
theorem wrap_nat {i : Nat} (h : i ≤ 140737488355328) : wrap64 ((i : Int) + 1) = ((i + 1 : Nat) : Int) := by
  unfold wrap64
  omega

theorem check_l1 (ps hs : List Int) (b g : Int) (hh : hs.length ≤ 140737488351232) (d : Nat) : ∀ (k i : Nat), i + d = hs.length → d < k →
    tree_Check.l1 k hs (hs.length : Int) (i : Int) ps hs b g = some (if badHomes ps.length (hs.drop i) = true then 1 else 0) := by
  induction d with
  | zero =>
    intro k i hi hk
    obtain ⟨k, rfl⟩ : ∃ m, k = m + 1 := ⟨k - 1, by omega⟩
    simp only [tree_Check.l1]
    rw [if_neg (by omega), List.drop_of_length_le (by omega)]
    rfl
  | succ d ih =>
    intro k i hi hk
    obtain ⟨k, rfl⟩ : ∃ m, k = m + 1 := ⟨k - 1, by omega⟩
    simp only [tree_Check.l1]
    rw [if_pos (by omega), if_pos (by omega), if_pos (by omega), drop_rd hs i (by omega), wrap_nat (by omega), ih k (i + 1) (by omega) (by omega)]
    by_cases h1 : rd hs (i : Int) < 0
    · rw [if_pos h1]; simp [badHomes, h1]
    · rw [if_neg h1]
      by_cases h2 : rd hs (i : Int) > (ps.length : Int)
      · rw [if_pos h2]; simp [badHomes, show (ps.length : Int) < rd hs (i : Int) from h2]
      · rw [if_neg h2]; simp only [badHomes]
        have h2' : ¬ (ps.length : Int) < rd hs (i : Int) := h2
        simp [h1, h2']
theorem check_j1 (ps hs : List Int) (b g : Int) (k : Nat) (c : Bool) (hh : c = false → hs.length ≤ 8) (hk : hs.length + 1 < k) :
    tree_Check.j1 k c ps hs b g = some (if c = true then 1 else if badHomes ps.length hs = true then 1 else 0) := by
  obtain ⟨k, rfl⟩ : ∃ m, k = m + 1 := ⟨k - 1, by omega⟩
  simp only [tree_Check.j1]
  cases c with
  | true => rfl
  | false =>
    have hh := hh rfl
    have h := check_l1 ps hs b g (by omega) hs.length k 0 (by omega) (by omega)
    simp only [List.drop_zero] at h
    rw [if_neg (by simp), if_neg (by simp)]
    exact h
theorem check_l0 (ps hs : List Int) (b g : Int) (hp : ps.length ≤ 140737488351232) (d : Nat) : ∀ (k i : Nat), i + d = ps.length → d + hs.length + 2 < k →
    tree_Check.l0 k ps (ps.length : Int) (i : Int) ps hs b g = some (if badFrom i (ps.drop i) = true then 8 else if badArg hs b g = true then 1 else if badHomes ps.length hs = true then 1 else 0) := by
  induction d with
  | zero =>
    intro k i hi hk
    obtain ⟨k, rfl⟩ : ∃ m, k = m + 1 := ⟨k - 1, by omega⟩
    simp only [tree_Check.l0]
    rw [if_neg (by omega), List.drop_of_length_le (by omega)]
    rw [check_j1 ps hs b g k true (by simp) (by omega)]
    rw [show badFrom (i : Int) [] = false from rfl]
    simp only [Bool.false_eq_true, if_false, if_true, badArg]
    by_cases h1 : (hs.length : Int) > 8
    · rw [if_pos h1]; simp [show 8 < hs.length by omega]
    · rw [if_neg h1]
      rw [check_j1 ps hs b g k _ (by intro _; omega) (by omega)]
      have h1' : ¬ 8 < hs.length := by omega
      by_cases h2 : b < 0
      · rw [if_pos h2]; simp [h2]
      · rw [if_neg h2]
        by_cases h3 : b > 1000000
        · rw [if_pos h3]; simp [show 1000000 < b from h3]
        · rw [if_neg h3]
          have h3' : ¬ 1000000 < b := h3
          simp only [h1', h2, h3', decide_false, Bool.false_or]
  | succ d ih =>
    intro k i hi hk
    obtain ⟨k, rfl⟩ : ∃ m, k = m + 1 := ⟨k - 1, by omega⟩
    simp only [tree_Check.l0]
    rw [if_pos (by omega), if_pos (by omega), if_pos (by omega), drop_rd ps i (by omega), wrap_nat (by omega), ih k (i + 1) (by omega) (by omega)]
    by_cases h1 : rd ps (i : Int) < 0
    · rw [if_pos h1]; simp [badFrom, h1]
    · rw [if_neg h1]
      by_cases h2 : rd ps (i : Int) > (i : Int)
      · rw [if_pos h2]; simp [badFrom, show (i : Int) < rd ps (i : Int) from h2]
      · rw [if_neg h2]; simp only [badFrom]
        have h2' : ¬ (i : Int) < rd ps (i : Int) := h2
        rw [show ((i + 1 : Nat) : Int) = (i : Int) + 1 from by omega]
        simp [h1, h2']
theorem check_f (ps hs : List Int) (b g : Int) (k : Nat) (hk : ps.length + hs.length + 3 ≤ k) : tree_Check.f k ps hs b g = some (checkT ps hs b g) := by
  unfold tree_Check.f checkT
  by_cases h8 : 8 ≤ ps.length
  · rw [if_pos (by omega), if_pos h8]
  · rw [if_neg (by omega), if_neg h8]
    have h := check_l0 ps hs b g (by omega) ps.length k 0 (by omega) (by omega)
    simp only [List.drop_zero] at h
    exact h
theorem size_f (ps hs : List Int) (b g : Int) (k : Nat) (hk : ps.length + hs.length + 3 ≤ k) : tree_Size.f k ps hs b g = some (sizeT ps hs b g) := by
  unfold tree_Size.f sizeT
  rw [check_f ps hs b g k hk]
  simp only [Option.bind_some]
  by_cases h : checkT ps hs b g = 0
  · have h8 : ¬ 8 ≤ ps.length := fun h8 => by unfold checkT at h; rw [if_pos h8] at h; omega
    rw [if_pos h, if_pos h, wrap_nat (by omega)]; rfl
  · rw [if_neg h, if_neg h]
theorem sizeT_nat (ps hs : List Int) (b g : Int) : 0 ≤ sizeT ps hs b g ∧ sizeT ps hs b g ≤ 8 := by
  unfold sizeT checkT
  by_cases h8 : 8 ≤ ps.length
  · rw [if_pos h8]; simp
  · rw [if_neg h8]
    split <;> omega
end Go.Proofs.Ytpoolbjmebacdaa.Q
