/- Plain laws: what lies in another set is no nearer; a distance is 0 just if the value is in; from value to value. -/
import Derived.Test.YtfhokhhpfdmfiaaPN
namespace Go.Proofs.Ytfhokhhpfdmfiaa.PGapZero
open Go.RowKit Go.Proofs.YtfhokhhpfdmfiaaW.PrintWords
set_option linter.unusedVariables false
set_option linter.unusedSimpArgs false

theorem gaps_lt {s : SetM} (h : RightM s) (d : Nat) : ∀ (i : Nat) (p q : Int × Int), s.ints[i]? = some p → s.ints[i + d + 1]? = some q → p.2 + 1 < q.1 := by
  induction d with
  | zero => intro i p q h1 h2; exact h.gap i p q h1 h2
  | succ d ih =>
    intro i p q h1 h2
    have hl : i + (d + 1) + 1 < s.ints.length := (List.getElem?_eq_some_iff.1 h2).1
    obtain ⟨m, hm⟩ : ∃ m, s.ints[i + d + 1]? = some m := ⟨_, List.getElem?_eq_getElem (by omega)⟩
    have a1 := ih i p m h1 hm
    have a2 := h.gap (i + d + 1) m q hm h2
    have a3 := h.ord m (List.mem_of_getElem? hm)
    omega
/-- Two ranges that meet, or lie side by side, are one. -/
theorem gaps_one {s : SetM} (h : RightM s) {p q : Int × Int} (hp : p ∈ s.ints) (hq : q ∈ s.ints) (h1 : q.1 ≤ p.2 + 1) (h2 : p.2 + 1 ≤ q.2) : False := by
  obtain ⟨i, hi⟩ := List.mem_iff_getElem?.1 hp
  obtain ⟨j, hj⟩ := List.mem_iff_getElem?.1 hq
  have op := h.ord p hp
  have oq := h.ord q hq
  rcases Nat.lt_trichotomy i j with hl | hl | hl
  · have := gaps_lt h (j - i - 1) i p q hi (by rw [show i + (j - i - 1) + 1 = j from by omega]; exact hj)
    omega
  · subst hl
    rw [hi] at hj
    obtain rfl := Option.some.inj hj
    omega
  · have := gaps_lt h (i - j - 1) j q p hj (by rw [show j + (i - j - 1) + 1 = i from by omega]; exact hi)
    omega
theorem any_in {l : List (Int × Int)} {x : Int} : l.any (inR x) = true ↔ ∃ r, r ∈ l ∧ r.1 ≤ x ∧ x ≤ r.2 := by
  rw [List.any_eq_true]
  unfold inR
  simp only [Bool.and_eq_true, decide_eq_true_eq]
theorem has_int (s : SetM) (x : Int) : hasM s (valOf (intP x)) = s.ints.any (inR x) := by
  unfold hasM
  rw [show (valOf (intP x)).ok = true from ok1 x]
  simp [valOf, intP]
theorem has_str (s : SetM) (t : ByteArray) (h : t.size ≤ 8) : hasM s (valOf (strP t)) = (s.strs.any (inS t) != s.co) := by
  unfold hasM
  rw [show (valOf (strP t)).ok = true by show vRight 2 0 t = true; rw [vR2, decide_eq_true h]; rfl]
  simp [valOf, strP]
theorem has_none (s : SetM) : hasM s (valOf ⟨0, 0, nilS⟩) = s.a := by
  unfold hasM
  rw [show (valOf ⟨0, 0, nilS⟩).ok = true from ok0]
  simp [valOf]
theorem wrap_in {x : Int} (h : I64 x) : wrap64 x = x := by unfold I64 at h; unfold wrap64; omega

theorem pt_lo {a b : SetM} {fr : ByteArray} {r : Int × Int} (h : r ∈ a.ints) : intP r.1 ∈ Pts (toS a) (toS b) fr := by
  unfold Pts
  refine List.mem_append_left _ (List.mem_append_left _ (List.mem_append_right _ (List.mem_append_left _ (List.mem_flatMap.2 ⟨mk48 r, List.mem_map_of_mem h, ?_⟩))))
  exact List.mem_cons_self
theorem pt_hi {a b : SetM} {fr : ByteArray} {r : Int × Int} (h : r ∈ a.ints) : intP r.2 ∈ Pts (toS a) (toS b) fr := by
  unfold Pts
  refine List.mem_append_left _ (List.mem_append_left _ (List.mem_append_right _ (List.mem_append_left _ (List.mem_flatMap.2 ⟨mk48 r, List.mem_map_of_mem h, ?_⟩))))
  exact List.mem_cons_of_mem _ List.mem_cons_self
theorem pt_next {a b : SetM} {fr : ByteArray} {r : Int × Int} (h : r ∈ b.ints) (h1 : r.2 < 9223372036854775807) (h2 : I64 (r.2 + 1)) : intP (r.2 + 1) ∈ Pts (toS a) (toS b) fr := by
  unfold Pts
  refine List.mem_append_left _ (List.mem_append_right _ (List.mem_append_left _ (List.mem_flatMap.2 ⟨mk48 r, List.mem_map_of_mem h, ?_⟩)))
  unfold rangeP highP
  refine List.mem_append_right _ (List.mem_append_right _ ?_)
  rw [if_pos (show (mk48 r).f1 < 9223372036854775807 from h1)]
  rw [show wrap64 ((mk48 r).f1 + 1) = r.2 + 1 from wrap_in h2]
  exact List.mem_cons_self
theorem pt_str1 {a b : SetM} {fr t : ByteArray} (h : t ∈ a.strs) : strP t ∈ Pts (toS a) (toS b) fr := by
  unfold Pts
  exact List.mem_append_left _ (List.mem_append_left _ (List.mem_append_right _ (List.mem_append_right _ (List.mem_map_of_mem h))))
theorem pt_str2 {a b : SetM} {fr t : ByteArray} (h : t ∈ b.strs) : strP t ∈ Pts (toS a) (toS b) fr := by
  unfold Pts
  exact List.mem_append_left _ (List.mem_append_right _ (List.mem_append_right _ (List.mem_map_of_mem h)))
theorem pt_fresh {a b : SetM} {fr : ByteArray} : strP fr ∈ Pts (toS a) (toS b) fr := by
  unfold Pts
  exact List.mem_append_right _ List.mem_cons_self
theorem pt_none {a b : SetM} {fr : ByteArray} : (⟨0, 0, nilS⟩ : S30) ∈ Pts (toS a) (toS b) fr := by
  unfold Pts
  exact List.mem_append_left _ (List.mem_append_left _ (List.mem_append_left _ List.mem_cons_self))

/-- What In finds of the points holds of all numbers. -/
theorem in_ints {a b : SetM} (h : InP a b) (hn : NumM a) (hb : RightM b) {x : Int} (hx : a.ints.any (inR x) = true) : b.ints.any (inR x) = true := by
  obtain ⟨m, -, hp⟩ := h
  obtain ⟨r, hr, h1, h2⟩ := any_in.1 hx
  have lo := hp _ (pt_lo hr) (by rw [has_int]; exact any_in.2 ⟨r, hr, by omega, by omega⟩)
  rw [has_int] at lo
  obtain ⟨q, hq, q1, q2⟩ := any_in.1 lo
  by_cases hc : x ≤ q.2
  · exact any_in.2 ⟨q, hq, by omega, hc⟩
  · exfalso
    obtain ⟨n1, n2⟩ := hn r hr
    unfold I64 at n1 n2
    have nx := hp _ (pt_next hq (by omega) (show _ ∧ _ from by omega)) (by rw [has_int]; exact any_in.2 ⟨r, hr, by omega, by omega⟩)
    rw [has_int] at nx
    obtain ⟨p, hpm, p1, p2⟩ := any_in.1 nx
    exact gaps_one hb hq hpm p1 p2
theorem inS_iff {x s : ByteArray} : inS x s = true ↔ x.toList = s.toList := by unfold inS; simp
theorem any_str {l : List ByteArray} {t : ByteArray} : l.any (inS t) = true ↔ ∃ s, s ∈ l ∧ t.toList = s.toList := by
  rw [List.any_eq_true]
  simp only [inS_iff]
theorem any_same {l : List ByteArray} {t s : ByteArray} (h : t.toList = s.toList) : l.any (inS t) = l.any (inS s) := by
  unfold inS; rw [h]
theorem size_list (t : ByteArray) : t.size = t.toList.length := by rw [ByteArray.toList_eq]; rfl
/-- .. and of all strings that may be. -/
theorem in_strs {a b : SetM} (h : InP a b) {t : ByteArray} (ht : t.size ≤ 8) (hx : (a.strs.any (inS t) != a.co) = true) : (b.strs.any (inS t) != b.co) = true := by
  obtain ⟨m, hf, hp⟩ := h
  have one : ∀ s, s.toList = t.toList → strP s ∈ Pts (toS a) (toS b) (nm m) → (b.strs.any (inS t) != b.co) = true := by
    intro s hs hmem
    have hz : s.size ≤ 8 := by rw [size_list, hs, ← size_list]; exact ht
    have := hp _ hmem (by rw [has_str _ _ hz, any_same hs]; exact hx)
    rw [has_str _ _ hz, any_same hs] at this
    exact this
  cases hA : a.strs.any (inS t) with
  | true =>
    obtain ⟨s, hs, e⟩ := any_str.1 hA
    exact one s e.symm (pt_str1 hs)
  | false =>
    cases hB : b.strs.any (inS t) with
    | true =>
      obtain ⟨s, hs, e⟩ := any_str.1 hB
      have := one s e.symm (pt_str2 hs)
      rw [hB] at this; exact this
    | false =>
      unfold inF at hf
      rw [Bool.or_eq_false_iff] at hf
      have := hp _ pt_fresh (by rw [has_str _ _ (nm_size m), hf.1, ← hA]; exact hx)
      rw [has_str _ _ (nm_size m), hf.2] at this
      exact this
theorem in_none {a b : SetM} (h : InP a b) (ha : a.a = true) : b.a = true := by
  obtain ⟨m, hf, hp⟩ := h
  have := hp _ pt_none (by rw [has_none]; exact ha)
  rwa [has_none] at this
theorem in_has {a b : SetM} (h : InP a b) (hn : NumM a) (hb : RightM b) (v : ValM) (hx : hasM a v = true) : hasM b v = true := by
  unfold hasM at hx ⊢
  by_cases hok : v.ok = false
  · rw [if_pos hok] at hx; cases hx
  · rw [if_neg hok] at hx ⊢
    by_cases h1 : v.k = 1
    · rw [if_pos h1] at hx ⊢; exact in_ints h hn hb hx
    · rw [if_neg h1] at hx ⊢
      by_cases h2 : v.k = 2
      · rw [if_pos h2] at hx ⊢
        refine in_strs h ?_ hx
        have hv : v.ok = true := by simpa using hok
        unfold ValM.ok at hv
        rw [h2, vR2, Bool.and_eq_true, decide_eq_true_eq, decide_eq_true_eq] at hv
        exact hv.2
      · rw [if_neg h2] at hx ⊢; exact in_none h hx

theorem snoc_ind {α : Type} {P : List α → Prop} (h0 : P []) (h1 : ∀ l r, P l → P (l ++ [r])) (l : List α) : P l := by
  have : ∀ m : List α, P m.reverse := by
    intro m
    induction m with
    | nil => exact h0
    | cons x t ih => rw [List.reverse_cons]; exact h1 _ _ ih
  have := this l.reverse
  rwa [List.reverse_reverse] at this
theorem near_le {l : List (Int × Int)} {n : Int} {q : Int × Int} (hq : q ∈ l) (ho : q.1 ≤ q.2) : nearM l n ≤ awayM q n := by
  induction l using snoc_ind with
  | h0 => cases hq
  | h1 l r ih =>
    rw [nearM_snoc]
    unfold stepG
    rcases List.mem_append.1 hq with h | h
    · have := ih h
      split <;> omega
    · obtain rfl := List.mem_singleton.1 h
      rw [if_pos ho]; omega
theorem near_mono {l m : List (Int × Int)} {n k : Int} (h : ∀ r, r ∈ l → r.1 ≤ r.2 → nearM m k ≤ awayM r n) : nearM m k ≤ nearM l n := by
  induction l using snoc_ind with
  | h0 => exact nearM_le m k
  | h1 l r ih =>
    rw [nearM_snoc]
    have a1 := ih (fun q hq => h q (List.mem_append_left _ hq))
    unfold stepG
    by_cases hc : r.1 ≤ r.2
    · rw [if_pos hc]
      have := h r (List.mem_append_right _ List.mem_cons_self) hc
      omega
    · rw [if_neg hc]; exact a1
/-- What lies in another set is no nearer. -/
theorem value_mono {a b : SetM} (h : InP a b) (hn : NumM a) (hb : RightM b) (v : ValM) : valueM b v ≤ valueM a v := by
  unfold valueM
  cases hA : hasM a v with
  | true => rw [if_pos rfl, if_pos (in_has h hn hb v hA)]; exact Nat.le_refl _
  | false =>
    rw [if_neg (show ¬ (false = true) by simp)]
    by_cases hB : hasM b v = true
    · rw [if_pos hB]; exact Nat.zero_le _
    · rw [if_neg hB]
      by_cases hk : v.k = 1 ∧ v.ok = true
      · rw [if_pos hk, if_pos hk]
        refine near_mono fun r hr ho => ?_
        obtain ⟨m, -, hp⟩ := h
        by_cases c1 : v.n < r.1
        · have lo := hp _ (pt_lo hr) (by rw [has_int]; exact any_in.2 ⟨r, hr, by omega, by omega⟩)
          rw [has_int] at lo
          obtain ⟨q, hq, q1, q2⟩ := any_in.1 lo
          refine Nat.le_trans (near_le hq (by omega)) ?_
          unfold awayM
          rw [if_pos c1]
          split
          · omega
          · split <;> omega
        · by_cases c2 : r.2 < v.n
          · have lo := hp _ (pt_hi hr) (by rw [has_int]; exact any_in.2 ⟨r, hr, by omega, by omega⟩)
            rw [has_int] at lo
            obtain ⟨q, hq, q1, q2⟩ := any_in.1 lo
            refine Nat.le_trans (near_le hq (by omega)) ?_
            unfold awayM
            rw [if_neg c1, if_pos c2]
            split
            · omega
            · split <;> omega
          · exfalso
            unfold hasM at hA
            rw [if_neg (by rw [hk.2]; simp), if_pos hk.1] at hA
            have : a.ints.any (inR v.n) = true := any_in.2 ⟨r, hr, by omega, by omega⟩
            rw [this] at hA; cases hA
      · rw [if_neg hk, if_neg hk]; exact Nat.le_refl _

theorem addM_mono {a b c d : Nat} (h1 : a ≤ c) (h2 : b ≤ d) : addM a b ≤ addM c d := by
  unfold addM far
  split <;> split <;> omega
theorem sumM_mono {f g : Nat → Nat} (k : Nat) (h : ∀ j, j < k → f j ≤ g j) : sumM f k ≤ sumM g k := by
  induction k with
  | zero => exact Nat.le_refl _
  | succ k ih => exact addM_mono (ih fun j hj => h j (by omega)) (h k (by omega))
theorem sumM_far {f : Nat → Nat} (k j : Nat) (hj : j < k) (h : f j = far) : sumM f k = far := by
  induction k with
  | zero => omega
  | succ k ih =>
    show addM (sumM f k) (f k) = far
    by_cases e : j = k
    · subst e; rw [h]; unfold addM; split <;> omega
    · rw [ih (by omega)]; unfold addM; split <;> omega
theorem empty_far {s : SetM} (h : emptyM s = true) (v : ValM) : valueM s v = far := by
  unfold emptyM at h
  simp only [Bool.and_eq_true, Bool.not_eq_true', decide_eq_true_eq] at h
  obtain ⟨h1, h2, h3, h4⟩ := h
  have e2 : s.ints = [] := List.eq_nil_of_length_eq_zero h2
  have e4 : s.strs = [] := List.eq_nil_of_length_eq_zero h4
  have hh : hasM s v = false := by
    unfold hasM
    rw [e2, e4, h1, h3]
    simp
  unfold valueM
  rw [hh, if_neg (by simp), e2]
  split <;> rfl
/-- What In of two boxes finds. -/
def BoxIn (a b : Nat → SetM) : Prop := boxEmpty a = true ∨ ∀ j, j < 4 → InP (a j) (b j)
theorem box_mono {a b : Nat → SetM} (h : BoxIn a b) (hn : ∀ j, j < 4 → NumM (a j)) (hb : ∀ j, j < 4 → RightM (b j)) (e : Nat → ValM) : boxGap b e ≤ boxGap a e := by
  rcases h with h | h
  · obtain ⟨j, hj, hem⟩ := (boxEmpty_iff a).1 h
    have : boxGap a e = far := sumM_far 4 j hj (empty_far hem (e j))
    rw [this]; exact boxGap_le b e
  · exact sumM_mono 4 fun j hj => value_mono (h j hj) (hn j hj) (hb j hj) (e j)

/-! A distance is 0 just if the value is in. -/
theorem addM_zero {a b : Nat} : addM a b = 0 ↔ a = 0 ∧ b = 0 := by
  unfold addM far
  split <;> omega
theorem sumM_zero {f : Nat → Nat} (k : Nat) : sumM f k = 0 ↔ ∀ j, j < k → f j = 0 := by
  induction k with
  | zero => exact ⟨fun _ j hj => absurd hj (by omega), fun _ => rfl⟩
  | succ k ih =>
    show addM (sumM f k) (f k) = 0 ↔ _
    rw [addM_zero, ih]
    constructor
    · rintro ⟨h1, h2⟩ j hj
      by_cases e : j = k
      · subst e; exact h2
      · exact h1 j (by omega)
    · intro h
      exact ⟨fun j hj => h j (by omega), h k (by omega)⟩
theorem near_zero {l : List (Int × Int)} {n : Int} (h : nearM l n = 0) : l.any (inR n) = true := by
  induction l using snoc_ind with
  | h0 => exact absurd h (show ¬ (far = 0) by decide)
  | h1 l r ih =>
    rw [nearM_snoc] at h
    rw [List.any_append, Bool.or_eq_true]
    unfold stepG at h
    by_cases hc : r.1 ≤ r.2
    · rw [if_pos hc] at h
      by_cases h0 : nearM l n = 0
      · exact .inl (ih h0)
      · right
        have ha : awayM r n = 0 := by omega
        unfold awayM at ha
        refine any_in.2 ⟨r, List.mem_cons_self, ?_, ?_⟩
        · split at ha <;> omega
        · split at ha
          · omega
          · split at ha <;> omega
    · rw [if_neg hc] at h; exact .inl (ih h)
theorem value_zero (s : SetM) (v : ValM) : valueM s v = 0 ↔ hasM s v = true := by
  unfold valueM
  by_cases h : hasM s v = true
  · rw [if_pos h]; exact ⟨fun _ => h, fun _ => rfl⟩
  · rw [if_neg h]
    refine ⟨fun hz => ?_, fun hh => absurd hh h⟩
    by_cases hk : v.k = 1 ∧ v.ok = true
    · rw [if_pos hk] at hz
      unfold hasM
      rw [if_neg (by rw [hk.2]; simp), if_pos hk.1]
      exact near_zero hz
    · rw [if_neg hk] at hz; exact absurd hz (by decide)
theorem box_zero (s : Nat → SetM) (e : Nat → ValM) (he : evOk e = true) : boxGap s e = 0 ↔ boxHas s e = true := by
  unfold boxGap boxHas
  rw [sumM_zero, he, Bool.true_and, all4_iff]
  constructor
  · intro h j hj; exact (value_zero _ _).1 (h j hj)
  · intro h j hj; exact (value_zero _ _).2 (h j hj)
theorem filter_zero (fs : List (Nat → SetM)) (e : Nat → ValM) (he : evOk e = true) : filterM fs e = 0 ↔ filterHas fs e = true := by
  induction fs using snoc_ind with
  | h0 => exact ⟨fun h => absurd h (show ¬ (far = 0) by decide), fun h => by cases h⟩
  | h1 l s ih =>
    rw [filterM_snoc]
    unfold filterHas at ih ⊢
    rw [List.any_append, Bool.or_eq_true, ← ih]
    have := box_zero s e he
    simp only [List.any_cons, List.any_nil, Bool.or_false]
    rw [← this]
    omega

/-! From event to event. -/
theorem away_step (r : Int × Int) (ho : r.1 ≤ r.2) (n m : Int) : awayM r n ≤ awayM r m + awayM (m, m) n := by
  unfold awayM
  dsimp only
  repeat' split
  all_goals omega
theorem near_step (l : List (Int × Int)) (n m : Int) : nearM l n ≤ addM (awayM (m, m) n) (nearM l m) := by
  induction l using snoc_ind with
  | h0 => unfold addM; show far ≤ if far < _ + far then far else _ + far; split <;> omega
  | h1 l r ih =>
    rw [nearM_snoc, nearM_snoc]
    have hl := nearM_le l n
    unfold addM at ih ⊢
    unfold stepG
    split
    · next ho =>
      have ha := away_step r ho n m
      split at ih <;> split <;> omega
    · exact ih
end Go.Proofs.Ytfhokhhpfdmfiaa.PGapZero
