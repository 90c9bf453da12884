/- The way to the first broker; a list turned round; two lists up to where they meet. -/
import Derived.Test.YtpoolbjmebacdaaQD
namespace Go.Proofs.Ytpoolbjmebacdaa.Q
open Go.RowKit Go.Proofs.YtpoolbjmebacdaaW.PrintWords Go.Proofs.YtpoolbjmebacdaaW.PrintLast Go.Proofs.YtpoolbjmebacdaaW.PrintMore
set_option linter.unusedVariables false
set_option linter.unusedSimpArgs false

/-- What each parent is, where a header may be. -/
def okPs (ps : List Int) : Prop := ∀ i : Nat, i < ps.length → 0 ≤ rd ps (i : Int) ∧ rd ps (i : Int) ≤ (i : Int)
theorem badFrom_ok (l : List Int) : ∀ (n : Nat), badFrom n l = false → ∀ i (h : i < l.length), 0 ≤ l[i] ∧ l[i] ≤ ((n + i : Nat) : Int) := by
  induction l with
  | nil => intro n _ i hi; simp at hi
  | cons p t ih =>
    intro n h i hi
    simp only [badFrom, Bool.or_eq_false_iff, decide_eq_false_iff_not] at h
    obtain ⟨⟨h1, h2⟩, h3⟩ := h
    cases i with
    | zero => simp; omega
    | succ i =>
      have := ih (n + 1) (by simpa using h3) i (by simpa using hi)
      simp only [List.getElem_cons_succ]
      omega
theorem ok_of_check {ps hs : List Int} {b g : Int} (h : checkT ps hs b g = 0) : ps.length ≤ 7 ∧ okPs ps := by
  unfold checkT at h
  by_cases h8 : 8 ≤ ps.length
  · rw [if_pos h8] at h; omega
  · rw [if_neg h8] at h
    by_cases hb : badFrom 0 ps = true
    · rw [if_pos hb] at h; omega
    · refine ⟨by omega, fun i hi => ?_⟩
      have := badFrom_ok ps 0 (by simpa using hb) i hi
      rw [rd_nat ps i hi]
      simpa using this

def upT (ps : List Int) : Nat → Int → List Int
  | 0, b => [b]
  | n + 1, b => if 0 < b then b :: upT ps n (rd ps (b - 1)) else [b]
theorem upT_ne (ps : List Int) (n : Nat) (b : Int) : ∃ t, upT ps n b = b :: t := by
  cases n with
  | zero => exact ⟨[], rfl⟩
  | succ n => simp only [upT]; split <;> exact ⟨_, rfl⟩
theorem okPs_at {ps : List Int} (ok : okPs ps) {b : Int} (h0 : 0 < b) (h1 : b ≤ (ps.length : Int)) : 0 ≤ rd ps (b - 1) ∧ rd ps (b - 1) ≤ b - 1 := by
  obtain ⟨m, rfl⟩ : ∃ m : Nat, b = (m : Int) + 1 := ⟨(b - 1).toNat, by omega⟩
  have := ok m (by omega)
  simpa using this
theorem wrap_sub {b : Int} (h0 : 0 < b) (h1 : b ≤ 100) : wrap64 (b - 1) = b - 1 := by
  unfold wrap64
  omega
theorem up_l0 {ps : List Int} (ok : okPs ps) (hl : ps.length ≤ 7) (hs : List Int) (c g : Int) (n : Nat) : ∀ (b : Int) (acc : List Int) (k : Nat), 0 ≤ b → b ≤ (ps.length : Int) → b ≤ (n : Int) → acc.length + n ≤ 100 → n < k →
    tree_up.l0 k b (acc ++ [b]) ps hs c g = some (acc ++ upT ps n b, c, g) := by
  induction n with
  | zero =>
    intro b acc k h0 h1 h2 ha hk
    obtain ⟨k, rfl⟩ : ∃ m, k = m + 1 := ⟨k - 1, by omega⟩
    simp only [tree_up.l0, upT]
    rw [if_neg (by omega)]
  | succ n ih =>
    intro b acc k h0 h1 h2 ha hk
    obtain ⟨k, rfl⟩ : ∃ m, k = m + 1 := ⟨k - 1, by omega⟩
    simp only [tree_up.l0, upT]
    by_cases hb : 0 < b
    · rw [if_pos hb, if_pos hb, wrap_sub hb (by omega), if_pos (by omega), if_pos (by omega), if_pos (by simp; omega)]
      have hp := okPs_at ok hb h1
      rw [ih _ (acc ++ [b]) k hp.1 (by omega) (by omega) (by simp; omega) (by omega)]
      simp
    · rw [if_neg hb, if_neg hb]
theorem up_f {ps : List Int} (ok : okPs ps) (hl : ps.length ≤ 7) (hs : List Int) (c g b : Int) (h0 : 0 ≤ b) (h1 : b ≤ (ps.length : Int)) : tree_up.f 9 ps hs c g b = some (upT ps 8 b, c, g) := by
  have := up_l0 ok hl hs c g 8 b [] 9 h0 h1 (by omega) (by simp) (by omega)
  simp only [List.nil_append] at this
  exact this

/-- The first place of one in a list. -/
def idx (x : Int) : List Int → Option Nat
  | [] => none
  | y :: t => if x = y then some 0 else (idx x t).map (· + 1)
/-- Up to where one meets, and the other one back from there. -/
def meetF : List Int → List Int → List Int
  | [], B => B.reverse
  | x :: t, B => match idx x B with
    | some j => x :: (B.take j).reverse
    | none => x :: meetF t B
theorem idx_lt {x : Int} {l : List Int} {j : Nat} (h : idx x l = some j) : j < l.length := by
  induction l generalizing j with
  | nil => simp [idx] at h
  | cons y t ih =>
    simp only [idx] at h
    split at h
    · injection h with h; simp; omega
    · rw [Option.map_eq_some_iff] at h
      obtain ⟨i, hi, rfl⟩ := h
      have := ih hi
      simp; omega

theorem set_mid (P Q : List Int) (x v : Int) : (P ++ x :: Q).set P.length v = P ++ v :: Q := by
  induction P with
  | nil => rfl
  | cons p t ih => simp [ih]
theorem rd_mid (P Q : List Int) (x : Int) : rd (P ++ x :: Q) (P.length : Int) = x := by
  rw [rd_nat _ _ (by simp)]
  simp
theorem wrap_pred {i : Int} (h0 : -1 ≤ i - 1) (h : i ≤ 140737488355328) : wrap64 (i - 1) = i - 1 := by
  unfold wrap64
  omega
theorem reverse_l0 (n : Nat) : ∀ (P M S : List Int) (k : Nat), M.length = n → (P ++ M ++ S).length ≤ 140737488351232 → n < k →
    slices_Reverse_int_int.l0 k (P ++ M ++ S) (P.length : Int) ((P.length : Int) + M.length - 1) = some (P ++ M.reverse ++ S) := by
  induction n using Nat.strongRecOn with
  | _ n ih =>
  intro P M S k hn hl hk
  obtain ⟨k, rfl⟩ : ∃ m, k = m + 1 := ⟨k - 1, by omega⟩
  simp only [List.length_append] at hl
  simp only [slices_Reverse_int_int.l0]
  rcases M with _ | ⟨x, t⟩
  · rw [if_neg (by simp; omega)]; simp
  · rcases List.eq_nil_or_concat t with rfl | ⟨t', y, rfl⟩
    · rw [if_neg (by simp)]; simp
    · simp only [List.concat_eq_append] at *
      simp only [List.length_cons, List.length_append, List.length_nil] at hn hl
      have e1 : P ++ x :: (t' ++ [y]) ++ S = P ++ x :: (t' ++ y :: S) := by simp
      have e2 : P ++ x :: (t' ++ [y]) ++ S = (P ++ x :: t') ++ y :: S := by simp
      have hj : (P.length : Int) + ((x :: (t' ++ [y])).length : Int) - 1 = ((P ++ x :: t').length : Int) := by simp; omega
      rw [hj, if_pos (by simp; omega), if_pos (by omega), if_pos (by simp; omega), if_pos (by omega), if_pos (by simp; omega)]
      have r1 : rd (P ++ x :: (t' ++ [y]) ++ S) ((P ++ x :: t').length : Int) = y := by rw [e2]; exact rd_mid _ _ _
      have r2 : rd (P ++ x :: (t' ++ [y]) ++ S) (P.length : Int) = x := by rw [e1]; exact rd_mid _ _ _
      have s1 : ((P ++ x :: (t' ++ [y]) ++ S).set (P.length : Int).toNat y).set ((P ++ x :: t').length : Int).toNat x = (P ++ [y]) ++ t' ++ (x :: S) := by
        rw [e1, Int.toNat_natCast, Int.toNat_natCast, set_mid]
        have e3 : P ++ y :: (t' ++ y :: S) = (P ++ y :: t') ++ y :: S := by simp
        have e4 : (P ++ x :: t').length = (P ++ y :: t').length := by simp
        rw [e3, e4, set_mid]; simp
      rw [r1, r2, s1]
      have w1 : wrap64 ((P.length : Int) + 1) = ((P ++ [y]).length : Int) := by rw [wrap_nat (by omega)]; simp
      have w2 : wrap64 (((P ++ x :: t').length : Int) - 1) = ((P ++ [y]).length : Int) + (t'.length : Int) - 1 := by
        rw [wrap_pred (by simp; omega) (by simp; omega)]; simp; omega
      rw [w1, w2, ih t'.length (by omega) (P ++ [y]) t' (x :: S) k rfl (by simp; omega) (by omega)]
      simp
theorem reverse_f (l : List Int) (hl : l.length ≤ 140737488351232) : slices_Reverse_int_int.f (l.length + 1) l = some l.reverse := by
  unfold slices_Reverse_int_int.f
  have h := reverse_l0 l.length [] l [] (l.length + 1) rfl (by simpa using hl) (by omega)
  rw [wrap_pred (by omega) (by omega)]
  simp only [List.nil_append, List.append_nil, List.length_nil] at h
  rw [show ((0 : Nat) : Int) + (l.length : Int) - 1 = (l.length : Int) - 1 by omega] at h
  exact h
end Go.Proofs.Ytpoolbjmebacdaa.Q
