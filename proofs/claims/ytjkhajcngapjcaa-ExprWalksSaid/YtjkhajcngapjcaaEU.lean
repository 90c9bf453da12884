/- Which expressions are small enough, without memory; what is right; what is so. -/
import Derived.Test.YtjkhajcngapjcaaET
namespace Go.Proofs.Ytjkhajcngapjcaa.Q
open Go.RowKit Go.Proofs.YtjkhajcngapjcaaW.PrintWords
set_option linter.unusedVariables false
set_option linter.unusedSimpArgs false

/-- What is said of each part of an expression. -/
inductive Each (P : S28 → Prop) : S28 → Prop
  | mk (x : S28) : P x → (∀ y, y ∈ x.f3 → Each P y) → Each P x
theorem Each.here {P : S28 → Prop} {x : S28} (h : Each P x) : P x := by cases h; assumption
theorem Each.sub {P : S28 → Prop} {x y : S28} (h : Each P x) (hy : y ∈ x.f3) : Each P y := by cases h with | mk _ _ h => exact h y hy
theorem Each.imp {P Q : S28 → Prop} (hPQ : ∀ x, P x → Q x) : ∀ {x : S28}, Each P x → Each Q x := by
  intro x h
  induction h with
  | mk x hp hs ih => exact .mk x (hPQ x hp) ih
theorem Each.and {P Q : S28 → Prop} : ∀ {x : S28}, Each P x → Each Q x → Each (fun x => P x ∧ Q x) x := by
  intro x h
  induction h with
  | mk x hp hs ih => intro hq; exact .mk x ⟨hp, hq.here⟩ (fun y hy => ih y hy (hq.sub hy))
def ShortS (s : S25) : Prop := s.f1.length ≤ 40 ∧ s.f3.length ≤ 40
def NumS (s : S25) : Prop := ∀ r, r ∈ s.f1 → I64 r.f0 ∧ I64 r.f1
theorem fine_of {s : S25} (h : NumS s) (h2 : ShortS s) : FineS s := ⟨h, by have := h2.1; omega, by have := h2.2; omega⟩

theorem rd25_one (s : S25) : rd_T25 [s] 0 = s := id rfl
theorem wrap01 : wrap64 (0 + 1) = 1 := by unfold wrap64; omega
theorem len_one {α : Type} (s : α) : [s].length = 1 := id rfl
theorem few03_l1 (s : S25) (d : Nat) : ∀ (k i : Nat), i + d = s.f3.length → s.f3.length ≤ 40 → d + 2 ≤ k → ∃ b, arbourref03_Few.l1 k [s] 0 (i : Int) = some b := by
  induction d with
  | zero =>
    intro k i hi h40 hk
    obtain ⟨k, rfl⟩ : ∃ q, k = q + 2 := ⟨k - 2, by omega⟩
    simp only [arbourref03_Few.l1, rd25_one, len_one]
    rw [if_pos (by omega), if_pos (by omega), if_neg (by omega)]
    simp only [arbourref03_Few.l0, wrap01, len_one]
    rw [if_neg (by decide)]
    exact ⟨_, rfl⟩
  | succ d ih =>
    intro k i hi h40 hk
    obtain ⟨k, rfl⟩ : ∃ q, k = q + 1 := ⟨k - 1, by omega⟩
    simp only [arbourref03_Few.l1, rd25_one, len_one]
    rw [if_pos (by omega), if_pos (by omega), if_pos (by omega), if_pos (by omega), wrap_nat (by omega)]
    split
    · exact ⟨_, rfl⟩
    · exact ih k (i + 1) (by omega) h40 (by omega)
theorem few03_f (s : S25) (k : Nat) (hk : 50 ≤ k) : ∃ b, arbourref03_Few.f k [s] = some b ∧ (b = true → ShortS s) := by
  obtain ⟨k, rfl⟩ : ∃ q, k = q + 2 := ⟨k - 2, by omega⟩
  unfold arbourref03_Few.f
  simp only [arbourref03_Few.l0, rd25_one, len_one]
  rw [if_pos (by omega), if_pos (by omega)]
  by_cases h1 : (s.f1.length : Int) > 40
  · rw [if_pos h1]; simp only [arbourref03_Few.j1, if_true]; exact ⟨_, rfl, fun h => by cases h⟩
  · rw [if_neg h1]
    by_cases h2 : (s.f3.length : Int) > 40
    · rw [decide_eq_true h2]; simp only [arbourref03_Few.j1, if_true]; exact ⟨_, rfl, fun h => by cases h⟩
    · rw [decide_eq_false h2]; simp only [arbourref03_Few.j1]; rw [if_neg (by decide)]
      obtain ⟨b, hb⟩ := few03_l1 s s.f3.length k 0 (by omega) (by omega) (by omega)
      exact ⟨b, hb, fun _ => ⟨by omega, by omega⟩⟩
attribute [local irreducible] sz szL dp dpL
theorem sets_f (m : Nat) : ∀ (x : S28) (k : Nat), sz x = m → sz x ≤ 1000 → 2 * sz x + 60 ≤ k → ∃ b, arbourref05_sets.f k x.f0 x.f1 x.f2.f0 x.f2.f1 x.f2.f2 x.f2.f3 x.f3 = some b ∧ (b = true → Each (fun y => ShortS y.f2) x) := by
  induction m using Nat.strongRecOn with
  | _ m ih =>
  intro x k hm hd hk
  obtain ⟨k, rfl⟩ : ∃ q, k = q + 1 := ⟨k - 1, by omega⟩
  simp only [arbourref05_sets.f]
  obtain ⟨b0, e0, h0⟩ := few03_f x.f2 k (by omega)
  have e0' : arbourref03_Few.f k [(⟨x.f2.f0, x.f2.f1, x.f2.f2, x.f2.f3⟩ : S25)] = some b0 := e0
  rw [e0', Option.bind_some]
  cases b0 with
  | false => exact ⟨false, by rw [if_neg (by decide)], fun h => by cases h⟩
  | true =>
    rw [if_pos rfl]
    have hs := h0 rfl
    have e3 := szL_length x.f3
    have e1 := sz_eq x
    have hlt : ∀ y, y ∈ x.f3 → sz y < m := fun y hy => by rw [← hm]; exact sub_lt hy
    have hat : ∀ i, i < x.f3.length → 2 * (sz (rd_T28 x.f3 (i : Int)) + x.f3.length) ≤ 2 * m := fun i hi => by have := szL_at x.f3 i hi; omega
    have hm1 : x.f3.length + 1 ≤ m := by omega
    rw [hm] at hk hd
    clear e1 e3 hm e0 e0' h0
    have key : ∀ (q i K : Nat), i + q = x.f3.length → 2 * m + 59 ≤ K + i → ∃ b, arbourref05_sets.l0 K (i : Int) x.f0 x.f1 x.f2.f0 x.f2.f1 x.f2.f2 x.f2.f3 x.f3 = some b ∧ (b = true → ∀ y, y ∈ x.f3.drop i → Each (fun y => ShortS y.f2) y) := by
      intro q
      induction q with
      | zero =>
        intro i K hi hK
        obtain ⟨K, rfl⟩ : ∃ q, K = q + 1 := ⟨K - 1, by omega⟩
        simp only [arbourref05_sets.l0]
        rw [if_neg (by omega), List.drop_of_length_le (by omega)]
        exact ⟨true, rfl, fun _ y hy => by cases hy⟩
      | succ q ihq =>
        intro i K hi hK
        obtain ⟨K, rfl⟩ : ∃ q, K = q + 1 := ⟨K - 1, by omega⟩
        simp only [arbourref05_sets.l0]
        have hil : i < x.f3.length := by omega
        have b := hat i hil
        have hil1 : i + 1 ≤ 1000 := by omega
        obtain ⟨b1, e1, h1⟩ := ih (sz (rd_T28 x.f3 (i : Int))) (hlt _ (rd28_in x.f3 i hil)) (rd_T28 x.f3 (i : Int)) K rfl (by omega) (by omega)
        obtain ⟨b2, e2, h2⟩ := ihq (i + 1) K (by omega) (by omega)
        rw [if_pos (by omega), if_pos (by omega), e1, Option.bind_some]
        cases b1 with
        | false => exact ⟨false, by rw [if_neg (by decide)], fun h => by cases h⟩
        | true =>
          rw [if_pos rfl, show wrap64 ((i : Int) + 1) = ((i + 1 : Nat) : Int) from wrap_nat (by omega), e2]
          refine ⟨b2, rfl, fun hb y hy => ?_⟩
          rw [drop28 x.f3 i hil] at hy
          rcases List.mem_cons.1 hy with hy | hy
          · rw [hy]; exact h1 rfl
          · exact h2 hb y hy
    obtain ⟨b2, e2, h2⟩ := key x.f3.length 0 k (by omega) (by omega)
    refine ⟨b2, e2, fun hb => .mk x hs (fun y hy => h2 hb y (by rw [List.drop_zero]; exact hy))⟩

/-- Small enough: what it means. -/
structure SmallX (x : S28) : Prop where
  s : sz x < 100
  d : dp x < 20
  e : Each (fun y => ShortS y.f2) x
theorem few_f (x : S28) (k : Nat) (hk : 2 * sz x + 260 ≤ k) : ∃ b, arbourref05_Few.f k x.f0 x.f1 x.f2.f0 x.f2.f1 x.f2.f2 x.f2.f3 x.f3 = some b ∧ (b = true → SmallX x) := by
  unfold arbourref05_Few.f
  have h1 := count_f _ x 0 k rfl (by omega) (by omega)
  obtain ⟨r, h2, r0, r20, hr⟩ := deep_f _ x 0 k rfl (by omega) (by omega)
  rw [show ((0 : Nat) : Int) = 0 from rfl] at h1 h2
  rw [h1, Option.bind_some]
  by_cases hc : cnt x 0 ≥ 100
  · rw [if_pos hc]; exact ⟨_, rfl, fun h => by cases h⟩
  · rw [if_neg hc, h2, Option.bind_some]
    by_cases hg : 0 + dp x ≤ 21 ∧ sz x ≤ 100
    · rw [cnt_yes hg.1 hg.2] at hc
      have hr' := hr hg.1 hg.2
      by_cases hd : r ≥ 20
      · rw [if_pos hd]; exact ⟨_, rfl, fun h => by cases h⟩
      · rw [if_neg hd]
        obtain ⟨b, e, hb⟩ := sets_f _ x k rfl (by omega) (by omega)
        rw [e, Option.bind_some]
        exact ⟨b, rfl, fun h => ⟨by omega, by omega, hb h⟩⟩
    · rw [cnt_no hg] at hc
      exact absurd hc (by decide)
theorem count_small (x : S28) (h : SmallX x) (k : Nat) (hk : 300 ≤ k) : arbourref05_Count.f k x.f0 x.f1 x.f2.f0 x.f2.f1 x.f2.f2 x.f2.f3 x.f3 0 = some (sz x : Int) := by
  have h1 := count_f _ x 0 k rfl (by omega) (by have := h.s; omega)
  rw [cnt_yes (by have := h.d; omega) (by have := h.s; omega)] at h1
  exact h1
theorem deep_small (x : S28) (h : SmallX x) (k : Nat) (hk : 300 ≤ k) : arbourref05_Deep.f k x.f0 x.f1 x.f2.f0 x.f2.f1 x.f2.f2 x.f2.f3 x.f3 0 = some (dp x : Int) := by
  obtain ⟨r, h2, r0, r20, hr⟩ := deep_f _ x 0 k rfl (by omega) (by have := h.s; omega)
  have := hr (by have := h.d; omega) (by have := h.s; omega)
  have hd := h.d
  rw [this, show min (dp x : Int) 20 = (dp x : Int) by omega] at h2
  exact h2
theorem fits_small (x : S28) (h : SmallX x) (k : Nat) (hk : 300 ≤ k) : arbourref05_Fits.f k x.f0 x.f1 x.f2.f0 x.f2.f1 x.f2.f2 x.f2.f3 x.f3 = some (fitsT x) := by
  unfold arbourref05_Fits.f fitsT
  rw [count_small x h k hk, deep_small x h k hk, Option.bind_some]
  by_cases h1 : (sz x : Int) ≤ 40
  · rw [if_pos h1, Option.bind_some, decide_eq_true (show sz x ≤ 40 by omega), Bool.true_and]
    congr 1; exact decide_eq_decide.2 (by omega)
  · rw [if_neg h1, decide_eq_false (show ¬ sz x ≤ 40 by omega), Bool.false_and]

/-! What is right. -/
def plainT (x : S28) : Bool := decide (x.f1 = 0) && setNone x.f2
def oneT (x : S28) : Bool :=
  if x.f0 = 1 then (decide (0 ≤ x.f1) && decide (x.f1 < 4) && decide (x.f3.length = 0) && setOk x.f2 && setSmall x.f2)
  else if x.f0 = 2 then plainT x else if x.f0 = 3 then plainT x else if x.f0 = 4 then plainT x && decide (x.f3.length = 1) else false
mutual
def allT : S28 → Bool
  | ⟨k, a, s, l⟩ => allL l && oneT ⟨k, a, s, l⟩
def allL : List S28 → Bool
  | [] => true
  | x :: t => allT x && allL t
end
theorem allT_eq (x : S28) : allT x = (allL x.f3 && oneT x) := by obtain ⟨k, a, s, l⟩ := x; simp only [allT]
theorem allL_drop (l : List S28) (i : Nat) (h : i < l.length) : allL (l.drop i) = (allT (rd_T28 l (i : Int)) && allL (l.drop (i + 1))) := by rw [drop28 l i h]; simp only [allL]
theorem allL_mem {l : List S28} (h : allL l = true) {y : S28} (hy : y ∈ l) : allT y = true := by
  induction l with
  | nil => cases hy
  | cons x t ih =>
    simp only [allL, Bool.and_eq_true] at h
    rcases List.mem_cons.1 hy with hy | hy
    · rw [hy]; exact h.1
    · exact ih h.2 hy
def rightT (x : S28) : Bool := fitsT x && allT x
/-! What is so of an event. -/
mutual
def isT (e : Nat → V3) : S28 → Bool
  | ⟨k, a, s, l⟩ => if k = 1 then hasT s (e a.toNat) else if k = 2 then isAll e l else if k = 3 then isAny e l else !(isFst e l)
def isAll (e : Nat → V3) : List S28 → Bool
  | [] => true
  | x :: t => isT e x && isAll e t
def isAny (e : Nat → V3) : List S28 → Bool
  | [] => false
  | x :: t => isT e x || isAny e t
def isFst (e : Nat → V3) : List S28 → Bool
  | [] => false
  | x :: t => isT e x
end
theorem isT_eq (e : Nat → V3) (x : S28) : isT e x = if x.f0 = 1 then hasT x.f2 (e x.f1.toNat) else if x.f0 = 2 then isAll e x.f3 else if x.f0 = 3 then isAny e x.f3 else !(isFst e x.f3) := by obtain ⟨k, a, s, l⟩ := x; simp only [isT]
theorem isAll_drop (e : Nat → V3) (l : List S28) (i : Nat) (h : i < l.length) : isAll e (l.drop i) = (isT e (rd_T28 l (i : Int)) && isAll e (l.drop (i + 1))) := by rw [drop28 l i h]; simp only [isAll]
theorem isAny_drop (e : Nat → V3) (l : List S28) (i : Nat) (h : i < l.length) : isAny e (l.drop i) = (isT e (rd_T28 l (i : Int)) || isAny e (l.drop (i + 1))) := by rw [drop28 l i h]; simp only [isAny]
theorem isFst_at (e : Nat → V3) (l : List S28) (h : 0 < l.length) : isFst e l = isT e (rd_T28 l 0) := by
  cases l with
  | nil => cases h
  | cons x t => simp only [isFst]; rfl
def evalT (x : S28) (e : Nat → V3) : Bool := rightT x && (evOk e && isT e x)
end Go.Proofs.Ytjkhajcngapjcaa.Q
