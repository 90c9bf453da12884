/- Plain laws: from an event to a filter it is no farther than to another event, and from there on. -/
import Derived.Test.YtfhokhhpfdmfiaaPL
namespace Go.Proofs.Ytfhokhhpfdmfiaa.PGapZero
open Go.RowKit
set_option linter.unusedVariables false

/-- The set of one number. -/
def oneM (N : Int) : SetM := ⟨false, [(N, N)], false, []⟩
theorem one_val (N n : Int) (t : ByteArray) (ht : ValM.ok ⟨1, n, t⟩ = true) (h1 : I64 N) (h2 : I64 n) : valueM (oneM N) ⟨1, n, t⟩ = awayM (N, N) n := by
  have hle := awayM_le (N, N) n h1 h1 h2
  unfold valueM
  rw [if_pos (show (1 : Int) = 1 ∧ _ = true from ⟨rfl, ht⟩)]
  unfold hasM
  rw [if_neg (show ¬ (ValM.ok ⟨1, n, t⟩ = false) by rw [ht]; simp), if_pos rfl]
  show (if ([(N, N)] : List (Int × Int)).any (inR n) = true then 0 else nearM [(N, N)] n) = _
  rw [show ([(N, N)] : List (Int × Int)) = [] ++ [(N, N)] from rfl, nearM_snoc]
  unfold stepG
  rw [if_pos (show (N, N).1 ≤ (N, N).2 from Int.le_refl N)]
  show (if ([(N, N)] : List (Int × Int)).any (inR n) = true then 0 else min far (awayM (N, N) n)) = _
  by_cases h : n = N
  · rw [if_pos (any_in.2 ⟨(N, N), List.mem_cons_self, by simp; omega, by simp; omega⟩)]
    unfold awayM
    dsimp only
    rw [if_neg (by omega), if_neg (by omega)]
  · rw [if_neg (fun hh => ?_)]
    · unfold far; omega
    · obtain ⟨r, hr, a, b⟩ := any_in.1 hh
      obtain rfl := List.mem_singleton.1 hr
      simp only at a b
      omega
theorem value_step (s : SetM) (n N : Int) (t : ByteArray) (h1 : ValM.ok ⟨1, n, t⟩ = true) (h2 : ValM.ok ⟨1, N, t⟩ = true) :
    valueM s ⟨1, n, t⟩ ≤ addM (awayM (N, N) n) (valueM s ⟨1, N, t⟩) := by
  unfold valueM
  rw [if_pos (show (1 : Int) = 1 ∧ _ = true from ⟨rfl, h1⟩), if_pos (show (1 : Int) = 1 ∧ _ = true from ⟨rfl, h2⟩)]
  by_cases a : hasM s ⟨1, n, t⟩ = true
  · rw [if_pos a]; exact Nat.zero_le _
  · rw [if_neg a]
    have hs := near_step s.ints n N
    by_cases b : hasM s ⟨1, N, t⟩ = true
    · rw [if_pos b]
      have hz : nearM s.ints N = 0 := by
        unfold hasM at b
        rw [if_neg (show ¬ (ValM.ok ⟨1, N, t⟩ = false) by rw [h2]; simp), if_pos rfl] at b
        obtain ⟨r, hr, p, q⟩ := any_in.1 b
        have p : r.1 ≤ N := p
        have q : N ≤ r.2 := q
        have := near_le (n := N) hr (by omega)
        have hw : awayM r N = 0 := by
          unfold awayM
          rw [if_neg (by omega), if_neg (by omega)]
        omega
      rwa [hz] at hs
    · rw [if_neg b]; exact hs
theorem sum_step {f g : Nat → Nat} {d : Nat} (a k : Nat) (ha : a < k) (h1 : f a ≤ addM d (g a)) (h2 : ∀ j, j ≠ a → f j = g j) : sumM f k ≤ addM d (sumM g k) := by
  induction k with
  | zero => omega
  | succ k ih =>
    show addM (sumM f k) (f k) ≤ addM d (addM (sumM g k) (g k))
    by_cases e : a = k
    · subst e
      have hm : sumM f a ≤ sumM g a := sumM_mono a fun j hj => Nat.le_of_eq (h2 j (by omega))
      unfold addM far at h1 ⊢
      split at h1 <;> split <;> split <;> split <;> omega
    · have := ih (by omega)
      have hk := h2 k (Ne.symm e)
      rw [hk]
      unfold addM far at this ⊢
      split at this <;> split <;> split <;> split <;> omega
theorem filter_step (fs : List (Nat → SetM)) (e o : Nat → ValM) (d : Nat) (h : ∀ s, s ∈ fs → boxGap s e ≤ addM d (boxGap s o)) : filterM fs e ≤ addM d (filterM fs o) := by
  induction fs using snoc_ind with
  | h0 => show far ≤ addM d far; unfold addM far; split <;> omega
  | h1 l s ih =>
    have a1 := ih (fun q hq => h q (List.mem_append_left _ hq))
    have a2 := h s (List.mem_append_right _ List.mem_cons_self)
    rw [filterM_snoc, filterM_snoc]
    unfold addM far at a1 a2 ⊢
    split at a1 <;> split at a2 <;> split <;> omega
/-- GapSteps without memory. -/
theorem steps_law (fs : List (Nat → SetM)) (e o : Nat → ValM) (a : Nat) (N : Int) (ha : a < 4) (hN : I64 N) (hn : I64 (e a).n) (hk : (e a).k = 1) (hok : (e a).ok = true) (ho : o a = ⟨(e a).k, N, (e a).s⟩) (he : ∀ j, j ≠ a → e j = o j) :
    filterM fs e ≤ addM (valueM (oneM N) (e a)) (filterM fs o) := by
  have e1 : e a = ⟨1, (e a).n, (e a).s⟩ := by rw [← hk]
  have h1 : ValM.ok ⟨1, (e a).n, (e a).s⟩ = true := by rw [← e1]; exact hok
  have h2 : ValM.ok ⟨1, N, (e a).s⟩ = true := h1
  have hs : valueM (oneM N) (e a) = awayM (N, N) (e a).n := by rw [e1]; exact one_val N _ _ h1 hN hn
  rw [hs]
  refine filter_step fs e o _ fun s _ => sum_step a 4 ha ?_ fun j hj => by show valueM (s j) (e j) = valueM (s j) (o j); rw [he j hj]
  show valueM (s a) (e a) ≤ addM _ (valueM (s a) (o a))
  rw [ho, hk]
  have := value_step (s a) (e a).n N (e a).s h1 h2
  rw [← e1] at this
  exact this
end Go.Proofs.Ytfhokhhpfdmfiaa.PGapZero
