/- Sets and values, without memory. -/
import Derived.Test.YtjkhajcngapjcaaEN
import Derived.Test.YtjkhajcngapjcaaQB
import Derived.Test.YtjkhajcngapjcaaQC
import Derived.Test.YtjkhajcngapjcaaQD
import Derived.Test.YtjkhajcngapjcaaQE
namespace Go.Proofs.Ytjkhajcngapjcaa.Q
open Go.RowKit Go.Proofs.YtjkhajcngapjcaaW.PrintWords
set_option linter.unusedVariables false

def I64 (n : Int) : Prop := -9223372036854775808 ≤ n ∧ n ≤ 9223372036854775807
/-- A set whose numbers are numbers, and that is not long. -/
structure FineS (s : S25) : Prop where
  num : ∀ r, r ∈ s.f1 → I64 r.f0 ∧ I64 r.f1
  l1 : s.f1.length ≤ 1000000
  l3 : s.f3.length ≤ 1000000

theorem wrap_nat {i : Nat} (h : i ≤ 140737488355328) : wrap64 ((i : Int) + 1) = ((i + 1 : Nat) : Int) := by
  unfold wrap64
  omega
theorem wrap_pred {i : Nat} (h0 : 0 < i) (h : i ≤ 140737488355328) : wrap64 ((i : Int) - 1) = ((i - 1 : Nat) : Int) := by
  unfold wrap64
  omega
theorem rd54 (xs : List S54) (i : Nat) (h : i < xs.length) : rd_T54 xs (i : Int) = xs[i] := by
  unfold rd_T54
  rw [Int.toNat_natCast, List.getD_eq_getElem?_getD, List.getElem?_eq_getElem h]; rfl
theorem rdS (xs : List ByteArray) (i : Nat) (h : i < xs.length) : rdOf ByteArray.empty xs (i : Int) = xs[i] := by
  unfold rdOf
  rw [Int.toNat_natCast, List.getD_eq_getElem?_getD, List.getElem?_eq_getElem h]; rfl
theorem drop54 (xs : List S54) (i : Nat) (h : i < xs.length) : xs.drop i = rd_T54 xs (i : Int) :: xs.drop (i + 1) := by
  rw [rd54 xs i h]; exact List.drop_eq_getElem_cons h
theorem dropS (xs : List ByteArray) (i : Nat) (h : i < xs.length) : xs.drop i = rdOf ByteArray.empty xs (i : Int) :: xs.drop (i + 1) := by
  rw [rdS xs i h]; exact List.drop_eq_getElem_cons h

/-! A set as it should be. -/
def rOk : Option Int → List S54 → Bool
  | _, [] => true
  | pv, r :: t => decide (r.f0 ≤ r.f1) && (match pv with | none => true | some h => decide (h + 1 < r.f0)) && rOk (some r.f1) t
def sOk : Option ByteArray → List ByteArray → Bool
  | _, [] => true
  | pv, s :: t => decide (s.size ≤ 8) && (match pv with | none => true | some h => Op.bytesLess h.toList s.toList) && sOk (some s) t
def setOk (s : S25) : Bool := rOk none s.f1 && sOk none s.f3
def prevR (l : List S54) (i : Nat) : Option Int := if i = 0 then none else some (rd_T54 l ((i - 1 : Nat) : Int)).f1
def prevS (l : List ByteArray) (i : Nat) : Option ByteArray := if i = 0 then none else some (rdOf ByteArray.empty l ((i - 1 : Nat) : Int))
theorem prevR_succ (l : List S54) (i : Nat) : prevR l (i + 1) = some (rd_T54 l (i : Int)).f1 := by unfold prevR; rw [if_neg (by omega)]; rfl
theorem prevS_succ (l : List ByteArray) (i : Nat) : prevS l (i + 1) = some (rdOf ByteArray.empty l (i : Int)) := by unfold prevS; rw [if_neg (by omega)]; rfl

theorem setRight_l1 (a : Bool) (R : List S54) (c : Bool) (L : List ByteArray) (hL : L.length ≤ 1000000) (d : Nat) : ∀ (k i : Nat), i + d = L.length → d < k →
    set_Right.l1 k L (L.length : Int) (i : Int) a R c L = some (sOk (prevS L i) (L.drop i)) := by
  induction d with
  | zero =>
    intro k i hi hk
    obtain ⟨k, rfl⟩ : ∃ m, k = m + 1 := ⟨k - 1, by omega⟩
    simp only [set_Right.l1]
    rw [if_neg (by omega), List.drop_of_length_le (by omega)]; rfl
  | succ d ih =>
    intro k i hi hk
    obtain ⟨k, rfl⟩ : ∃ m, k = m + 1 := ⟨k - 1, by omega⟩
    simp only [set_Right.l1]
    rw [if_pos (by omega), if_pos (by omega), if_pos (by omega), dropS L i (by omega), wrap_nat (by omega), ih k (i + 1) (by omega) (by omega), prevS_succ]
    simp only [sOk]
    by_cases h1 : ((rdOf ByteArray.empty L (i : Int)).size : Int) > 8
    · rw [if_pos h1, decide_eq_false (by omega)]; simp
    · rw [if_neg h1, decide_eq_true (by omega)]
      by_cases h0 : i = 0
      · subst h0
        rw [if_neg (by omega)]
        simp [prevS]
      · rw [if_pos (by omega), wrap_pred (by omega) (by omega), if_pos (by omega), if_pos (by omega)]
        unfold prevS
        rw [if_neg h0]
        simp only [Bool.true_and]
        by_cases hb : Op.bytesLess (rdOf ByteArray.empty L ((i - 1 : Nat) : Int)).toList (rdOf ByteArray.empty L (i : Int)).toList = true
        · rw [if_pos hb, hb, Bool.true_and]
        · rw [if_neg hb, (Bool.not_eq_true _).mp hb, Bool.false_and]
theorem setRight_l0 (a : Bool) (R : List S54) (c : Bool) (L : List ByteArray) (hL : L.length ≤ 1000000) (hR : R.length ≤ 1000000) (hn : ∀ r, r ∈ R → I64 r.f0 ∧ I64 r.f1) (d : Nat) : ∀ (k i : Nat), i + d = R.length → d + L.length + 1 < k →
    set_Right.l0 k R (R.length : Int) (i : Int) a R c L = some (rOk (prevR R i) (R.drop i) && sOk none L) := by
  induction d with
  | zero =>
    intro k i hi hk
    obtain ⟨k, rfl⟩ : ∃ m, k = m + 1 := ⟨k - 1, by omega⟩
    simp only [set_Right.l0]
    have h := setRight_l1 a R c L hL L.length k 0 (by omega) (by omega)
    rw [if_neg (by omega), List.drop_of_length_le (by omega)]
    rw [show (0 : Int) = ((0 : Nat) : Int) from rfl, h]
    simp [rOk, prevS]
  | succ d ih =>
    intro k i hi hk
    obtain ⟨k, rfl⟩ : ∃ m, k = m + 1 := ⟨k - 1, by omega⟩
    simp only [set_Right.l0]
    have hm : rd_T54 R (i : Int) ∈ R := by rw [rd54 R i (by omega)]; exact List.getElem_mem _
    have hb := hn _ hm
    rw [if_pos (by omega), if_pos (by omega), if_pos (by omega), drop54 R i (by omega), wrap_nat (by omega), ih k (i + 1) (by omega) (by omega), prevR_succ]
    simp only [rOk]
    by_cases h1 : (rd_T54 R (i : Int)).f0 > (rd_T54 R (i : Int)).f1
    · rw [if_pos h1, decide_eq_false (by omega)]; simp
    · rw [if_neg h1, decide_eq_true (by omega)]
      by_cases h0 : i = 0
      · subst h0
        rw [if_neg (by omega)]
        simp [prevR]
      · rw [if_pos (by omega), wrap_pred (by omega) (by omega), if_pos (by omega), if_pos (by omega)]
        have hm2 : rd_T54 R ((i - 1 : Nat) : Int) ∈ R := by rw [rd54 R (i - 1) (by omega)]; exact List.getElem_mem _
        have hb2 := hn _ hm2
        unfold prevR
        rw [if_neg h0]
        simp only [Bool.true_and]
        unfold I64 at hb hb2
        generalize (rd_T54 R (i : Int)).f0 = lo at *
        generalize (rd_T54 R ((i - 1 : Nat) : Int)).f1 = pv at *
        by_cases h2 : lo ≤ pv
        · rw [if_pos h2, decide_eq_false (by omega)]; simp
        · rw [if_neg h2]
          have hw : wrap64 (lo - 1) = lo - 1 := by unfold wrap64; omega
          rw [hw]
          by_cases h3 : lo - 1 = pv
          · rw [if_pos h3, decide_eq_false (by omega)]; simp
          · rw [if_neg h3, decide_eq_true (by omega), Bool.true_and]
theorem setRight_f (s : S25) (h : FineS s) (k : Nat) (hk : s.f1.length + s.f3.length + 2 ≤ k) : set_Right.f k s.f0 s.f1 s.f2 s.f3 = some (setOk s) := by
  unfold set_Right.f setOk
  have := setRight_l0 s.f0 s.f1 s.f2 s.f3 h.l3 h.l1 h.num s.f1.length k 0 (by omega) (by omega)
  exact this

theorem refRight_l1 (a : Bool) (R : List S54) (c : Bool) (L : List ByteArray) (hL : L.length ≤ 1000000) (d : Nat) : ∀ (k i : Nat), i + d = L.length → d < k →
    arbourref03_Right.l1 k (i : Int) a R c L = some (sOk (prevS L i) (L.drop i)) := by
  induction d with
  | zero =>
    intro k i hi hk
    obtain ⟨k, rfl⟩ : ∃ m, k = m + 1 := ⟨k - 1, by omega⟩
    simp only [arbourref03_Right.l1]
    rw [if_neg (by omega), List.drop_of_length_le (by omega)]; rfl
  | succ d ih =>
    intro k i hi hk
    obtain ⟨k, rfl⟩ : ∃ m, k = m + 1 := ⟨k - 1, by omega⟩
    simp only [arbourref03_Right.l1]
    rw [if_pos (by omega), if_pos (by omega), dropS L i (by omega), wrap_nat (by omega), ih k (i + 1) (by omega) (by omega), prevS_succ]
    simp only [sOk]
    by_cases h1 : ((rdOf ByteArray.empty L (i : Int)).size : Int) > 8
    · rw [if_pos h1, decide_eq_false (by omega)]; simp
    · rw [if_neg h1, decide_eq_true (by omega)]
      by_cases h0 : i = 0
      · subst h0
        rw [if_neg (by omega)]
        simp [prevS]
      · rw [if_pos (by omega), wrap_pred (by omega) (by omega), if_pos (by omega), if_pos (by omega)]
        unfold prevS
        rw [if_neg h0]
        simp only [Bool.true_and]
        by_cases hb : Op.bytesLess (rdOf ByteArray.empty L ((i - 1 : Nat) : Int)).toList (rdOf ByteArray.empty L (i : Int)).toList = true
        · rw [if_pos hb, hb, Bool.true_and]
        · rw [if_neg hb, (Bool.not_eq_true _).mp hb, Bool.false_and]
theorem refRight_l0 (a : Bool) (R : List S54) (c : Bool) (L : List ByteArray) (hL : L.length ≤ 1000000) (hR : R.length ≤ 1000000) (hn : ∀ r, r ∈ R → I64 r.f0 ∧ I64 r.f1) (d : Nat) : ∀ (k i : Nat), i + d = R.length → d + L.length + 1 < k →
    arbourref03_Right.l0 k (i : Int) a R c L = some (rOk (prevR R i) (R.drop i) && sOk none L) := by
  induction d with
  | zero =>
    intro k i hi hk
    obtain ⟨k, rfl⟩ : ∃ m, k = m + 1 := ⟨k - 1, by omega⟩
    simp only [arbourref03_Right.l0]
    have h := refRight_l1 a R c L hL L.length k 0 (by omega) (by omega)
    rw [if_neg (by omega), List.drop_of_length_le (by omega)]
    rw [show (0 : Int) = ((0 : Nat) : Int) from rfl, h]
    simp [rOk, prevS]
  | succ d ih =>
    intro k i hi hk
    obtain ⟨k, rfl⟩ : ∃ m, k = m + 1 := ⟨k - 1, by omega⟩
    simp only [arbourref03_Right.l0]
    have hm : rd_T54 R (i : Int) ∈ R := by rw [rd54 R i (by omega)]; exact List.getElem_mem _
    have hb := hn _ hm
    rw [if_pos (by omega), if_pos (by omega), drop54 R i (by omega), wrap_nat (by omega), ih k (i + 1) (by omega) (by omega), prevR_succ]
    simp only [rOk]
    by_cases h1 : (rd_T54 R (i : Int)).f0 > (rd_T54 R (i : Int)).f1
    · rw [if_pos h1, decide_eq_false (by omega)]; simp
    · rw [if_neg h1, decide_eq_true (by omega)]
      by_cases h0 : i = 0
      · subst h0
        rw [if_neg (by omega)]
        simp [prevR]
      · rw [if_pos (by omega), wrap_pred (by omega) (by omega), if_pos (by omega), if_pos (by omega)]
        have hm2 : rd_T54 R ((i - 1 : Nat) : Int) ∈ R := by rw [rd54 R (i - 1) (by omega)]; exact List.getElem_mem _
        have hb2 := hn _ hm2
        unfold prevR
        rw [if_neg h0]
        simp only [Bool.true_and]
        unfold I64 at hb hb2
        generalize (rd_T54 R (i : Int)).f0 = lo at *
        generalize (rd_T54 R ((i - 1 : Nat) : Int)).f1 = pv at *
        by_cases h2 : pv ≥ lo
        · rw [if_pos h2, decide_eq_false (by omega)]; simp
        · rw [if_neg h2]
          have hw : wrap64 (pv + 1) = pv + 1 := by unfold wrap64; omega
          rw [hw]
          by_cases h3 : pv + 1 ≥ lo
          · rw [if_pos h3, decide_eq_false (by omega)]; simp
          · rw [if_neg h3, decide_eq_true (by omega), Bool.true_and]
theorem refRight_f (s : S25) (h : FineS s) (k : Nat) (hk : s.f1.length + s.f3.length + 2 ≤ k) : arbourref03_Right.f k s.f0 s.f1 s.f2 s.f3 = some (setOk s) := by
  unfold arbourref03_Right.f setOk
  have := refRight_l0 s.f0 s.f1 s.f2 s.f3 h.l3 h.l1 h.num s.f1.length k 0 (by omega) (by omega)
  exact this

def setSmall (s : S25) : Bool := decide (s.f1.length ≤ 6) && decide (s.f3.length ≤ 6)
theorem small_f (s : S25) : set_Small.f s.f0 s.f1 s.f2 s.f3 = some (setSmall s) := by
  unfold set_Small.f setSmall
  by_cases h : (s.f1.length : Int) ≤ 6
  · rw [if_pos h, decide_eq_true (show s.f1.length ≤ 6 by omega), Bool.true_and]; congr 1; exact decide_eq_decide.2 (by omega)
  · rw [if_neg h, decide_eq_false (show ¬ s.f1.length ≤ 6 by omega), Bool.false_and]
theorem refSmall_f (s : S25) : arbourref03_Small.f s.f0 s.f1 s.f2 s.f3 = some (setSmall s) := by
  unfold arbourref03_Small.f setSmall
  by_cases h : (s.f1.length : Int) ≤ 6
  · rw [if_pos h, decide_eq_true (show s.f1.length ≤ 6 by omega), Bool.true_and]; congr 1; exact decide_eq_decide.2 (by omega)
  · rw [if_neg h, decide_eq_false (show ¬ s.f1.length ≤ 6 by omega), Bool.false_and]
/-- The empty set. -/
def setNone (s : S25) : Bool := !s.f0 && !s.f2 && decide (s.f1.length = 0) && decide (s.f3.length = 0)
theorem same_none (s : S25) (k : Nat) (hk : 5 ≤ k) : set_Same.f k s.f0 s.f1 s.f2 s.f3 false [] false [] = some (setNone s) := by
  obtain ⟨k, rfl⟩ : ∃ m, k = m + 1 := ⟨k - 1, by omega⟩
  obtain ⟨a, R, c, L⟩ := s
  unfold set_Same.f setNone api_Range_51.f slices_Equal_string_string.f
  cases a
  · cases c
    · simp only [if_true, beq_self_eq_true, Bool.not_false, Bool.true_and]
      by_cases h1 : R.length = 0
      · obtain rfl : R = [] := List.eq_nil_of_length_eq_zero h1
        by_cases h2 : L.length = 0
        · obtain rfl : L = [] := List.eq_nil_of_length_eq_zero h2
          simp [api_Range_51.l0, slices_Equal_string_string.l0]
        · rw [if_pos (by simp)]
          simp only [api_Range_51.l0]
          rw [if_neg (by simp)]
          simp only [Option.bind_some, if_true]
          rw [if_neg (by simp; exact fun hh => h2 (by rw [hh]; rfl)), decide_eq_false h2]; simp
      · rw [if_neg (by simp; exact fun hh => h1 (by rw [hh]; rfl)), decide_eq_false h1]; simp
    · simp
  · simp
theorem refSame_none (s : S25) (k : Nat) (hk : 5 ≤ k) : arbourref03_Same.f k s.f0 s.f1 s.f2 s.f3 false [] false [] = some (setNone s) := by
  obtain ⟨k, rfl⟩ : ∃ m, k = m + 3 := ⟨k - 3, by omega⟩
  obtain ⟨a, R, c, L⟩ := s
  unfold arbourref03_Same.f setNone
  cases a
  · cases c
    · simp only [arbourref03_Same.j0]
      by_cases h1 : R.length = 0
      · obtain rfl : R = [] := List.eq_nil_of_length_eq_zero h1
        by_cases h2 : L.length = 0
        · obtain rfl : L = [] := List.eq_nil_of_length_eq_zero h2
          simp [arbourref03_Same.l0, arbourref03_Same.l1]
        · have h3 : ((L.length : Int) != 0) = true := by simp; exact fun hh => h2 (by rw [hh]; rfl)
          simp [h3, h2]
      · simp [h1]
    · simp [arbourref03_Same.j0]
  · simp [arbourref03_Same.j0]
end Go.Proofs.Ytjkhajcngapjcaa.Q
