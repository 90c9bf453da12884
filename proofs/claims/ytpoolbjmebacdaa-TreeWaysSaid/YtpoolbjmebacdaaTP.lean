/- Links, and what lies beyond them: counted. -/
import Derived.Test.YtpoolbjmebacdaaTR
namespace Go.Proofs.Ytpoolbjmebacdaa.Q
open Go.RowKit Go.Proofs.YtpoolbjmebacdaaW.PrintWords TM
set_option linter.unusedVariables false

/-- All links. -/
def LL (ps : List Int) : List S39 := (List.range' 0 (ps.length + 1)).flatMap fun a => (NN ps a).map fun n : Nat => (⟨(a : Int), (n : Int)⟩ : S39)
section
variable {ps hs : List Int} {b g : Int} (h : Good ps hs b g)
include h
theorem links_l1 {a : Nat} (ha : a ≤ ps.length) (sz : Int) (d : Nat) : ∀ (k j : Nat) (acc : List S39), j + d = (NN ps a).length → acc.length ≤ 1000 - d →
    tree_Links.l1 (k + d + 1) acc (a : Int) sz (a : Int) (C (NN ps a)) ((NN ps a).length : Int) (j : Int) ps hs b g = tree_Links.l0 k (acc ++ ((NN ps a).drop j).map fun n : Nat => (⟨(a : Int), (n : Int)⟩ : S39)) sz ((a + 1 : Nat) : Int) ps hs b g := by
  have h7 := h.len
  have hN := NN_length h ha
  induction d with
  | zero =>
    intro k j acc hj hacc
    simp only [tree_Links.l1]
    rw [if_neg (by omega), List.drop_of_length_le (by omega), wrap_nat (by omega)]
    simp
  | succ d ih =>
    intro k j acc hj hacc
    have e : k + (d + 1) + 1 = (k + d + 1) + 1 := by omega
    rw [e]
    obtain ⟨K, hK⟩ : ∃ K, K = k + d + 1 := ⟨_, rfl⟩
    rw [← hK]
    simp only [tree_Links.l1]
    rw [hK]
    have hjl : j < (NN ps a).length := by omega
    have hdrop : (NN ps a).drop j = (NN ps a)[j] :: (NN ps a).drop (j + 1) := List.drop_eq_getElem_cons hjl
    rw [if_pos (by omega), if_pos (by omega), if_pos (by rw [C_length]; omega), if_pos (by omega), C_rd _ j hjl, wrap_nat (by omega), ih k (j + 1) _ (by omega) (by simp; omega), hdrop, List.map_cons, List.append_assoc]
    rfl
theorem links_l0 (d : Nat) : ∀ (k i : Nat) (acc : List S39), i + d = ps.length + 1 → acc.length ≤ 10 * i → 20 * d < k →
    tree_Links.l0 k acc ((ps.length : Int) + 1) (i : Int) ps hs b g = some (acc ++ (List.range' i d).flatMap fun a => (NN ps a).map fun n : Nat => (⟨(a : Int), (n : Int)⟩ : S39)) := by
  have h7 := h.len
  induction d with
  | zero =>
    intro k i acc hi hacc hk
    obtain ⟨k, rfl⟩ : ∃ m, k = m + 1 := ⟨k - 1, by omega⟩
    simp only [tree_Links.l0]
    rw [if_neg (by omega)]
    simp
  | succ d ih =>
    intro k i acc hi hacc hk
    have hN := NN_length h (a := i) (by omega)
    obtain ⟨k, rfl⟩ : ∃ m, k = (m + (NN ps i).length + 1) + 1 := ⟨k - 2 - (NN ps i).length, by omega⟩
    simp only [tree_Links.l0]
    rw [if_pos (by omega), neigh_f h (by omega)]
    simp only [Option.bind_some]
    rw [C_length, show (0 : Int) = ((0 : Nat) : Int) from rfl, links_l1 h (by omega) _ _ k 0 acc (by omega) (by omega), ih k (i + 1) _ (by omega) (by simp; omega) (by omega)]
    rw [List.range'_succ, List.flatMap_cons, List.drop_zero]
    simp
theorem links_f (k : Nat) (hk : ps.length + hs.length + 300 ≤ k) : tree_Links.f k ps hs b g = some (LL ps) := by
  have h7 := h.len
  unfold tree_Links.f LL
  rw [size_f ps hs b g k (by omega), h.size]
  simp only [Option.bind_some]
  have := links_l0 h (ps.length + 1) k 0 [] (by omega) (by simp) (by omega)
  simpa using this
theorem LL_mem (x : S39) (hx : x ∈ LL ps) : ∃ a n : Nat, x = ⟨(a : Int), (n : Int)⟩ ∧ a ≤ ps.length ∧ n ≤ ps.length ∧ Adj ps a n := by
  unfold LL at hx
  simp only [List.mem_flatMap, List.mem_range', List.mem_map] at hx
  obtain ⟨a, ⟨i, hi, e⟩, n, hn, rfl⟩ := hx
  have ha : a ≤ ps.length := by omega
  have := (NN_mem h ha n).1 hn
  exact ⟨a, n, rfl, ha, this.1, this.2⟩
omit h in
theorem Adj_symm {a n : Nat} (hadj : Adj ps a n) : Adj ps n a := by
  unfold Adj at *
  omega
/-- Beyond a link, and beyond its other direction. -/
def BB (h : Good ps hs b g) (a n : Nat) : List Int := C (BY h a n) ++ C (BY h n a)
omit h in
theorem two_filters {α : Type} (p q : α → Bool) (l : List α) (hpq : ∀ x, x ∈ l → (p x = true ↔ ¬ q x = true)) : (l.filter p).length + (l.filter q).length = l.length := by
  induction l with
  | nil => rfl
  | cons x t ih =>
    have ih := ih fun y hy => hpq y (List.mem_cons_of_mem _ hy)
    have hx := hpq x List.mem_cons_self
    rw [List.filter_cons, List.filter_cons]
    by_cases hp : p x = true
    · rw [if_pos hp, if_neg (hx.1 hp)]; simp; omega
    · have hq : q x = true := by
        cases hq : q x with
        | true => rfl
        | false => exact absurd (hx.2 (by simp [hq])) hp
      rw [if_neg hp, if_pos hq]; simp; omega
theorem BY_filter {a n : Nat} (ha : a ≤ ps.length) (hn : n ≤ ps.length) (hadj : Adj ps a n) : BY h a n = (List.range' 0 (ps.length + 1)).filter fun t => decide (a ≠ t ∧ nh h.hp a t = n) := by
  unfold BY
  rw [if_pos ((NN_mem h ha n).2 ⟨hn, hadj⟩)]
theorem BB_length {a n : Nat} (ha : a ≤ ps.length) (hn : n ≤ ps.length) (hadj : Adj ps a n) : (BB h a n).length = ps.length + 1 := by
  unfold BB
  rw [List.length_append, C_length, C_length, BY_filter h ha hn hadj, BY_filter h hn ha (Adj_symm hadj), two_filters]
  · simp
  · intro t _
    simp only [decide_eq_true_eq]
    have := nh_back h.hp hadj t
    constructor
    · rintro ⟨h1, h2⟩ ⟨h3, h4⟩; exact this.1 ⟨fun e => h1 e.symm, h2⟩ ⟨fun e => h3 e.symm, h4⟩
    · intro h1
      have h2 := this.2 (fun h3 => h1 ⟨fun e => h3.1 e.symm, h3.2⟩)
      exact ⟨fun e => h2.1 e.symm, h2.2⟩
theorem BY_nodup (a n : Nat) : (BY h a n).Nodup := by
  unfold BY
  split
  · exact (List.nodup_range').sublist List.filter_sublist
  · simp
omit h in
theorem C_nodup {l : List Nat} (hl : l.Nodup) : (C l).Nodup := by
  unfold C
  induction l with
  | nil => simp
  | cons x t ih =>
    rw [List.nodup_cons] at hl
    rw [List.map_cons, List.nodup_cons]
    refine ⟨?_, ih hl.2⟩
    simp only [List.mem_map]
    rintro ⟨y, hy, e⟩
    have : y = x := by omega
    subst this
    exact hl.1 hy
omit h in
theorem C_all {l : List Nat} {x : Int} (hx : x ∈ C l) : ∃ n : Nat, x = (n : Int) ∧ n ∈ l := by
  simp only [C, List.mem_map] at hx
  obtain ⟨n, hn, e⟩ := hx
  exact ⟨n, e.symm, hn⟩
theorem BB_nodup {a n : Nat} (hadj : Adj ps a n) : (BB h a n).Nodup := by
  unfold BB
  rw [List.nodup_append]
  refine ⟨C_nodup (BY_nodup h a n), C_nodup (BY_nodup h n a), fun x hx y hy e => ?_⟩
  subst e
  obtain ⟨t, rfl, ht⟩ := C_all hx
  rw [C_mem] at hy
  rw [BY_mem] at ht hy
  exact (nh_back h.hp hadj t).1 ⟨ht.2.2.1, ht.2.2.2⟩ ⟨hy.2.2.1, hy.2.2.2⟩
theorem BB_count {a n : Nat} (ha : a ≤ ps.length) (hn : n ≤ ps.length) (hadj : Adj ps a n) {t : Nat} (ht : t ≤ ps.length) : (BB h a n).count (t : Int) = 1 := by
  have hm : (t : Int) ∈ BB h a n := by
    unfold BB
    rw [List.mem_append, C_mem, C_mem, BY_mem, BY_mem]
    by_cases h1 : t ≠ a ∧ nh h.hp a t = n
    · exact .inl ⟨(NN_mem h ha n).2 ⟨hn, hadj⟩, ht, h1.1, h1.2⟩
    · have h2 : t ≠ n ∧ nh h.hp n t = a := by
        by_cases h2 : t ≠ n ∧ nh h.hp n t = a
        · exact h2
        · exact absurd ((nh_back h.hp hadj t).2 h2) h1
      exact .inr ⟨(NN_mem h hn a).2 ⟨ha, Adj_symm hadj⟩, ht, h2.1, h2.2⟩
  rw [(BB_nodup h hadj).count, if_pos hm]
omit h in
theorem sum_hits (f : Nat → Nat) (m : Nat) (l : List Nat) (hl : ∀ x, x ∈ l → f x < m) : ((List.range' 0 m).map fun a => (l.filter fun x => f x == a).length).sum = l.length := by
  induction l with
  | nil =>
    have z : ∀ l : List Nat, (l.map fun _ => 0).sum = 0 := fun l => by induction l <;> simp_all
    exact z _
  | cons x t ih =>
    have ih := ih fun y hy => hl y (List.mem_cons_of_mem _ hy)
    have hx := hl x List.mem_cons_self
    have e : ((List.range' 0 m).map fun a => ((x :: t).filter fun x => f x == a).length) = (List.range' 0 m).map fun a => (if f x = a then 1 else 0) + (t.filter fun x => f x == a).length := by
      apply List.map_congr_left
      intro a _
      rw [List.filter_cons]
      by_cases e : f x = a
      · simp [e]; omega
      · simp [e]
    have s : ∀ (l : List Nat) (p q : Nat → Nat), (l.map fun a => p a + q a).sum = (l.map p).sum + (l.map q).sum := by
      intro l p q
      induction l with
      | nil => rfl
      | cons y u ihu => simp only [List.map_cons, List.sum_cons, ihu]; omega
    have o : ∀ (n s y : Nat), s ≤ y → y < s + n → ((List.range' s n).map fun a => if y = a then 1 else 0).sum = 1 := by
      intro n
      induction n with
      | zero => intro s y h1 h2; omega
      | succ n ihn =>
        intro s y h1 h2
        rw [List.range'_succ, List.map_cons, List.sum_cons]
        by_cases e : y = s
        · have z : ∀ (n s' : Nat), y < s' → ((List.range' s' n).map fun a => if y = a then 1 else 0).sum = 0 := by
            intro n
            induction n with
            | zero => intro s' _; rfl
            | succ n ihz =>
              intro s' h'
              rw [List.range'_succ, List.map_cons, List.sum_cons, if_neg (by omega), ihz (s' + 1) (by omega)]
          rw [if_pos e, z n (s + 1) (by omega)]
        · rw [if_neg e, ihn (s + 1) y (by omega) (by omega)]
    rw [e, s, ih, o m 0 (f x) (by omega) (by omega)]
    simp; omega
theorem LL_length : (LL ps).length = 2 * ps.length := by
  unfold LL
  rw [List.length_flatMap]
  have e : ((List.range' 0 (ps.length + 1)).map fun a => ((NN ps a).map fun n : Nat => (⟨(a : Int), (n : Int)⟩ : S39)).length) = (List.range' 0 (ps.length + 1)).map fun a => (if 0 < a then 1 else 0) + ((List.range' 1 ps.length).filter fun n => parN ps n == a).length := by
    apply List.map_congr_left
    intro a _
    unfold NN
    rw [List.length_map, List.length_append]
    split <;> simp
  have s : ∀ (l : List Nat) (p q : Nat → Nat), (l.map fun a => p a + q a).sum = (l.map p).sum + (l.map q).sum := by
    intro l p q
    induction l with
    | nil => rfl
    | cons y u ihu => simp only [List.map_cons, List.sum_cons, ihu]; omega
  have o : ∀ n s : Nat, 0 < s → ((List.range' s n).map fun a => if 0 < a then 1 else 0).sum = n := by
    intro n
    induction n with
    | zero => intro s _; rfl
    | succ n ihn =>
      intro s hs
      rw [List.range'_succ, List.map_cons, List.sum_cons, if_pos hs, ihn (s + 1) (by omega)]; omega
  rw [e, s, sum_hits (parN ps) (ps.length + 1) (List.range' 1 ps.length), List.range'_succ, List.map_cons, List.sum_cons, if_neg (by omega), o _ _ (by omega)]
  · simp; omega
  · intro x hx
    rw [List.mem_range'] at hx
    obtain ⟨i, hi, rfl⟩ := hx
    have := parN_lt h.okp (1 + 1 * i) (by omega)
    omega
end
end Go.Proofs.Ytpoolbjmebacdaa.Q
