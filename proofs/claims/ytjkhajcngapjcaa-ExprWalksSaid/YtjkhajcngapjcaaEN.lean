/- A part of an expression in memory; what is said of parts, without memory. -/
import Derived.Test.YtjkhajcngapjcaaQA
namespace Go.Proofs.Ytjkhajcngapjcaa.Q
open Go.RowKit Go.Proofs.YtjkhajcngapjcaaW.PrintWords Go.Proofs.YtjkhajcngapjcaaW.PrintLast Go.Proofs.YtjkhajcngapjcaaW.PrintMore
set_option linter.unusedVariables false

/-- A part lies at p. -/
def NodeAt (w : World) (p : Addr) (x : S28) : Prop := ∃ (A3 : Option Addr) (c3 : Nat) (A5 : Option Addr) (c5 : Nat) (A6 : Option Addr) (c6 : Nat),
  w.cell? p = some (.int .i64 x.f0) ∧ w.cell? ⟨p.block, p.off + 1, none⟩ = some (.int .i64 x.f1) ∧ w.cell? ⟨p.block, p.off + 2, none⟩ = some (.bool x.f2.f0) ∧ w.cell? ⟨p.block, p.off + 3, none⟩ = some (.slice A3 x.f2.f1.length c3) ∧
  w.cell? ⟨p.block, p.off + 4, none⟩ = some (.bool x.f2.f2) ∧ w.cell? ⟨p.block, p.off + 5, none⟩ = some (.slice A5 x.f2.f3.length c5) ∧ w.cell? ⟨p.block, p.off + 6, none⟩ = some (.slice A6 x.f3.length c6) ∧
  x.f2.f1.length ≤ c3 ∧ k54.C w A3 x.f2.f1.length x.f2.f1 ∧ x.f2.f3.length ≤ c5 ∧ Kd.string.C w A5 x.f2.f3.length x.f2.f3 ∧ x.f3.length ≤ c6 ∧ k28.C w A6 x.f3.length x.f3
theorem NodeAt.below {w w1 : World} {p : Addr} {x : S28} (h : NodeAt w p x) (hb : Below w.heap.size w w1) : NodeAt w1 p x := by
  obtain ⟨A3, c3, A5, c5, A6, c6, h0, h1, h2, h3, h4, h5, h6, l3, g3, l5, g5, l6, g6⟩ := h
  exact ⟨A3, c3, A5, c5, A6, c6, pw_cell_below hb h0, pw_cell_below hb h1, pw_cell_below hb h2, pw_cell_below hb h3, pw_cell_below hb h4, pw_cell_below hb h5, pw_cell_below hb h6, l3, Kd.C_below g3 hb, l5, Kd.C_below g5 hb, l6, Kd.C_below g6 hb⟩
theorem node_sub {w : World} {A : Option Addr} {n : Nat} {xs : List S28} (h : k28.C w A n xs) (i : Int) (h0 : 0 ≤ i) (h1 : i < n) : ∃ ad, A = some ad ∧ NodeAt w (ad.add (i.toNat * 7)) (rd_T28 xs i) := by
  obtain ⟨ad, A3, c3, A5, c5, A6, c6, e, r⟩ := at_T28 h i h0 h1
  exact ⟨ad, e, A3, c3, A5, c5, A6, c6, r⟩
/-- As it is handed on by value. -/
theorem node_box {w : World} {gb : Nat} {x : S28} {A3 A5 A6 : Option Addr} {c3 c5 c6 : Nat} (h : w.heap[gb]? = some (.cells #[.int .i64 x.f0, .int .i64 x.f1, .bool x.f2.f0, .slice A3 x.f2.f1.length c3, .bool x.f2.f2, .slice A5 x.f2.f3.length c5, .slice A6 x.f3.length c6] 28 (0, 0)))
    (l3 : x.f2.f1.length ≤ c3) (g3 : k54.C w A3 x.f2.f1.length x.f2.f1) (l5 : x.f2.f3.length ≤ c5) (g5 : Kd.string.C w A5 x.f2.f3.length x.f2.f3) (l6 : x.f3.length ≤ c6) (g6 : k28.C w A6 x.f3.length x.f3) : NodeAt w ⟨gb, 0, none⟩ x :=
  ⟨A3, c3, A5, c5, A6, c6, (blk_cell h 0).trans rfl, (blk_cell h 1).trans rfl, (blk_cell h 2).trans rfl, (blk_cell h 3).trans rfl, (blk_cell h 4).trans rfl, (blk_cell h 5).trans rfl, (blk_cell h 6).trans rfl, l3, g3, l5, g5, l6, g6⟩

/-- An expression by value. -/
def XR (w : World) (v : Value) (x : S28) : Prop := ∃ (A3 : Option Addr) (c3 : Nat) (A5 : Option Addr) (c5 : Nat) (A6 : Option Addr) (c6 : Nat),
  v = .agg #[.int .i64 x.f0, .int .i64 x.f1, .bool x.f2.f0, .slice A3 x.f2.f1.length c3, .bool x.f2.f2, .slice A5 x.f2.f3.length c5, .slice A6 x.f3.length c6] ∧
  x.f2.f1.length ≤ c3 ∧ k54.C w A3 x.f2.f1.length x.f2.f1 ∧ x.f2.f3.length ≤ c5 ∧ Kd.string.C w A5 x.f2.f3.length x.f2.f3 ∧ x.f3.length ≤ c6 ∧ k28.C w A6 x.f3.length x.f3
theorem XR.below {w w1 : World} {v : Value} {x : S28} (h : XR w v x) (hb : Below w.heap.size w w1) : XR w1 v x := by
  obtain ⟨A3, c3, A5, c5, A6, c6, e, l3, g3, l5, g5, l6, g6⟩ := h
  exact ⟨A3, c3, A5, c5, A6, c6, e, l3, Kd.C_below g3 hb, l5, Kd.C_below g5 hb, l6, Kd.C_below g6 hb⟩
theorem rd28_mem (xs : List S28) (i : Nat) (h : i < xs.length) : rd_T28 xs (i : Int) = xs[i] := by
  unfold rd_T28
  rw [Int.toNat_natCast, List.getD_eq_getElem?_getD, List.getElem?_eq_getElem h]; rfl
theorem drop28 (xs : List S28) (i : Nat) (h : i < xs.length) : xs.drop i = rd_T28 xs (i : Int) :: xs.drop (i + 1) := by
  rw [rd28_mem xs i h]; exact List.drop_eq_getElem_cons h
/-! How many parts, and how deep. -/
mutual
def sz : S28 → Nat
  | ⟨_, _, _, l⟩ => 1 + szL l
def szL : List S28 → Nat
  | [] => 0
  | x :: t => sz x + szL t
end
mutual
def dp : S28 → Nat
  | ⟨_, _, _, l⟩ => 1 + dpL l
def dpL : List S28 → Nat
  | [] => 0
  | x :: t => max (dp x) (dpL t)
end
theorem sz_eq (x : S28) : sz x = 1 + szL x.f3 := by obtain ⟨k, a, s, l⟩ := x; simp only [sz]
theorem dp_eq (x : S28) : dp x = 1 + dpL x.f3 := by obtain ⟨k, a, s, l⟩ := x; simp only [dp]
theorem sz_mem {l : List S28} {y : S28} (h : y ∈ l) : sz y ≤ szL l := by
  induction l with
  | nil => cases h
  | cons x t ih =>
    simp only [szL]
    rcases List.mem_cons.1 h with h | h
    · subst h; omega
    · have := ih h; omega
theorem dp_mem {l : List S28} {y : S28} (h : y ∈ l) : dp y ≤ dpL l := by
  induction l with
  | nil => cases h
  | cons x t ih =>
    simp only [dpL]
    rcases List.mem_cons.1 h with h | h
    · subst h; omega
    · have := ih h; omega
theorem szL_length (l : List S28) : l.length ≤ szL l := by
  induction l with
  | nil => simp
  | cons x t ih =>
    have := sz_eq x
    simp only [szL, List.length_cons]; omega
/-- Has it at most 40 parts, and is no deeper than 8? -/
def fitsT (x : S28) : Bool := decide (sz x ≤ 40) && decide (dp x ≤ 8)

/-- What the count of parts comes to, when it began with n: the count, the depth, and whether it fits. -/
structure Meas where
  n : Int
  d : Int
  ok : Bool
mutual
def measT : S28 → Nat → Int → Meas
  | ⟨_, _, _, l⟩, lf, n => if lf = 0 ∨ n + 1 > 40 then ⟨n + 1, 0, false⟩ else measL l (lf - 1) (n + 1) 0
def measL : List S28 → Nat → Int → Int → Meas
  | [], _, n, d => ⟨n, d + 1, true⟩
  | x :: t, lf, n, d => if (measT x lf n).ok = true then measL t lf (measT x lf n).n (max d (measT x lf n).d) else ⟨(measT x lf n).n, 0, false⟩
end
theorem measT_eq (x : S28) (lf : Nat) (n : Int) : measT x lf n = if lf = 0 ∨ n + 1 > 40 then ⟨n + 1, 0, false⟩ else measL x.f3 (lf - 1) (n + 1) 0 := by
  obtain ⟨k, a, s, l⟩ := x; simp only [measT]
theorem sub_lt {x y : S28} (h : y ∈ x.f3) : sz y < sz x := by
  have := sz_mem h
  rw [sz_eq x]; omega
theorem meas_spec (m : Nat) : ∀ (x : S28) (lf : Nat) (n : Int), sz x = m → 0 ≤ n → n ≤ 40 → ((measT x lf n).ok = true ↔ (n + sz x ≤ 40 ∧ dp x ≤ lf)) ∧ ((measT x lf n).ok = true → (measT x lf n).n = n + sz x ∧ (measT x lf n).d = dp x) := by
  induction m using Nat.strongRecOn with
  | _ m ih =>
  intro x lf n hm h0 h40
  have hL : ∀ (l : List S28) (lf : Nat) (n d : Int), (∀ y, y ∈ l → y ∈ x.f3) → 0 ≤ n → n ≤ 40 → 0 ≤ d → ((measL l lf n d).ok = true ↔ (n + szL l ≤ 40 ∧ dpL l ≤ lf)) ∧ ((measL l lf n d).ok = true → (measL l lf n d).n = n + szL l ∧ (measL l lf n d).d = max d (dpL l) + 1) := by
    intro l
    induction l with
    | nil =>
      intro lf n d _ h0 h40 hd
      simp only [measL, szL, dpL]
      exact ⟨by simp; omega, fun _ => ⟨by omega, by omega⟩⟩
    | cons y t iht =>
      intro lf n d hl h0 h40 hd
      obtain ⟨a1, a2⟩ := ih (sz y) (by rw [← hm]; exact sub_lt (hl y List.mem_cons_self)) y lf n rfl h0 h40
      simp only [measL, szL, dpL]
      by_cases hok : (measT y lf n).ok = true
      · rw [if_pos hok]
        obtain ⟨e1, e2⟩ := a2 hok
        have b1 := a1.1 hok
        obtain ⟨c1, c2⟩ := iht lf (measT y lf n).n (max d (measT y lf n).d) (fun z hz => hl z (List.mem_cons_of_mem _ hz)) (by omega) (by omega) (by omega)
        refine ⟨?_, fun hh => ?_⟩
        · rw [c1, e1]; omega
        · have := c2 hh
          rw [e1, e2] at this
          rw [e2]
          rw [e1]
          exact ⟨by omega, by omega⟩
      · rw [if_neg hok]
        refine ⟨?_, fun hh => by cases hh⟩
        have := szL_length t
        constructor
        · intro hh; cases hh
        · intro hh; exact absurd (a1.2 (by omega)) hok
  rw [measT_eq, sz_eq, dp_eq]
  by_cases hc : lf = 0 ∨ n + 1 > 40
  · rw [if_pos hc]
    refine ⟨?_, fun hh => by cases hh⟩
    constructor
    · intro hh; cases hh
    · intro hh; omega
  · rw [if_neg hc]
    obtain ⟨c1, c2⟩ := hL x.f3 (lf - 1) (n + 1) 0 (fun _ h => h) (by omega) (by omega) (by omega)
    refine ⟨?_, fun hh => ?_⟩
    · rw [c1]; omega
    · have := c2 hh
      exact ⟨by omega, by omega⟩
theorem meas_top (x : S28) : ((measT x 8 0).ok = fitsT x) ∧ (fitsT x = true → (measT x 8 0).n = sz x ∧ (measT x 8 0).d = dp x) := by
  obtain ⟨h1, h2⟩ := meas_spec _ x 8 0 rfl (by omega) (by omega)
  have e : (measT x 8 0).ok = fitsT x := by
    rw [Bool.eq_iff_iff, h1]; unfold fitsT
    rw [Bool.and_eq_true, decide_eq_true_eq, decide_eq_true_eq]
    omega
  exact ⟨e, fun h => by have := h2 (e.trans h); exact ⟨by omega, this.2⟩⟩
theorem meas_n (m : Nat) : ∀ (x : S28) (lf : Nat) (n : Int), sz x = m → 0 ≤ n → n ≤ 41 → 0 ≤ (measT x lf n).n ∧ (measT x lf n).n ≤ 42 ∧ ((measT x lf n).ok = true → (measT x lf n).n ≤ 40) ∧ 0 ≤ (measT x lf n).d ∧ (measT x lf n).d ≤ 1 + (lf : Int) := by
  induction m using Nat.strongRecOn with
  | _ m ih =>
  intro x lf n hm h0 h41
  have hL : ∀ (l : List S28) (lf : Nat) (n d : Int), (∀ y, y ∈ l → y ∈ x.f3) → 0 ≤ n → n ≤ 40 → 0 ≤ d → d ≤ 1 + (lf : Int) → 0 ≤ (measL l lf n d).n ∧ (measL l lf n d).n ≤ 42 ∧ ((measL l lf n d).ok = true → (measL l lf n d).n ≤ 40) ∧ 0 ≤ (measL l lf n d).d ∧ (measL l lf n d).d ≤ 2 + (lf : Int) := by
    intro l
    induction l with
    | nil => intro lf n d _ h0 h40 hd hd2; simp only [measL]; omega
    | cons y t iht =>
      intro lf n d hl h0 h40 hd hd2
      have a := ih (sz y) (by rw [← hm]; exact sub_lt (hl y List.mem_cons_self)) y lf n rfl h0 (by omega)
      simp only [measL]
      by_cases hok : (measT y lf n).ok = true
      · rw [if_pos hok]
        have := a.2.2.1 hok
        exact iht lf _ _ (fun z hz => hl z (List.mem_cons_of_mem _ hz)) (by omega) (by omega) (by omega) (by omega)
      · rw [if_neg hok]
        exact ⟨a.1, a.2.1, fun hh => (by cases hh), by simp, by simp; omega⟩
  rw [measT_eq]
  by_cases hc : lf = 0 ∨ n + 1 > 40
  · rw [if_pos hc]; exact ⟨by simp; omega, by simp; omega, fun hh => (by cases hh), by simp, by simp; omega⟩
  · rw [if_neg hc]
    have := hL x.f3 (lf - 1) (n + 1) 0 (fun _ h => h) (by omega) (by omega) (by omega) (by omega)
    refine ⟨this.1, this.2.1, this.2.2.1, this.2.2.2.1, by omega⟩
end Go.Proofs.Ytjkhajcngapjcaa.Q
