/- A filter's boxes put into a new slice by append: what is read there. -/
import Derived.Test.YtfhokhhpfdmfiaaOpens
import Derived.Deep.AppendLies
import Derived.OwnWalk
import Derived.Deep.MidRow
namespace Go.Proofs.Ytfhokhhpfdmfiaa
open Go.RowKit

/-- A box's sixteen values. -/
def boxVals (s : Nat → SetM) (v : Nat → SetV) : List Value := [.bool (s 0).a, .slice (v 0).A (v 0).n (v 0).c, .bool (s 0).co, .slice (v 0).B (v 0).m (v 0).d, .bool (s 1).a, .slice (v 1).A (v 1).n (v 1).c, .bool (s 1).co, .slice (v 1).B (v 1).m (v 1).d, .bool (s 2).a, .slice (v 2).A (v 2).n (v 2).c, .bool (s 2).co, .slice (v 2).B (v 2).m (v 2).d, .bool (s 3).a, .slice (v 3).A (v 3).n (v 3).c, .bool (s 3).co, .slice (v 3).B (v 3).m (v 3).d]
theorem boxC_of {w : World} {b o : Nat} {s : Nat → SetM} {v : Nat → SetV} (h : ∀ k u, (boxVals s v)[k]? = some u → w.cell? ⟨b, o + k, none⟩ = some u) : BoxC w b o s v := by
  unfold BoxC
  exact ⟨h 0 _ rfl, h 1 _ rfl, h 2 _ rfl, h 3 _ rfl, h 4 _ rfl, h 5 _ rfl, h 6 _ rfl, h 7 _ rfl, h 8 _ rfl, h 9 _ rfl, h 10 _ rfl, h 11 _ rfl, h 12 _ rfl, h 13 _ rfl, h 14 _ rfl, h 15 _ rfl⟩
theorem boxC_vals {w : World} {b o : Nat} {s : Nat → SetM} {v : Nat → SetV} (h : BoxC w b o s v) (k : Nat) (u : Value) (hk : (boxVals s v)[k]? = some u) : w.cell? ⟨b, o + k, none⟩ = some u := by
  have hl : k < (boxVals s v).length := (List.getElem?_eq_some_iff.1 hk).1
  have h16 : (boxVals s v).length = 16 := rfl
  unfold BoxC at h
  obtain ⟨h0, h1, h2, h3, h4, h5, h6, h7, h8, h9, h10, h11, h12, h13, h14, h15⟩ := h
  match k, hk with
  | 0, hk => injection hk with hk; subst hk; exact h0
  | 1, hk => injection hk with hk; subst hk; exact h1
  | 2, hk => injection hk with hk; subst hk; exact h2
  | 3, hk => injection hk with hk; subst hk; exact h3
  | 4, hk => injection hk with hk; subst hk; exact h4
  | 5, hk => injection hk with hk; subst hk; exact h5
  | 6, hk => injection hk with hk; subst hk; exact h6
  | 7, hk => injection hk with hk; subst hk; exact h7
  | 8, hk => injection hk with hk; subst hk; exact h8
  | 9, hk => injection hk with hk; subst hk; exact h9
  | 10, hk => injection hk with hk; subst hk; exact h10
  | 11, hk => injection hk with hk; subst hk; exact h11
  | 12, hk => injection hk with hk; subst hk; exact h12
  | 13, hk => injection hk with hk; subst hk; exact h13
  | 14, hk => injection hk with hk; subst hk; exact h14
  | 15, hk => injection hk with hk; subst hk; exact h15
  | k + 16, hk => exact absurd hl (by omega)
theorem boxVals_one (s : Nat → SetM) (v : Nat → SetV) : ∀ u ∈ boxVals s v, u.oneCell' = true := by
  intro u hu
  simp only [boxVals, List.mem_cons, List.not_mem_nil, or_false] at hu
  rcases hu with rfl | rfl | rfl | rfl | rfl | rfl | rfl | rfl | rfl | rfl | rfl | rfl | rfl | rfl | rfl | rfl <;> rfl

/-- The boxes that a row of values is. -/
def Fits (w : World) (news : List Value) (fs : List (Nat → SetM)) : Prop :=
  ∀ i s, fs[i]? = some s → ∃ v, (∀ k u, (boxVals s v)[k]? = some u → news[i * 16 + k]? = some u) ∧ ∀ j, j < 4 → SetR w (v j) (s j)
theorem Fits.below {w w1 : World} {news : List Value} {fs : List (Nat → SetM)} (h : Fits w news fs) (hb : Below w.heap.size w w1) : Fits w1 news fs := fun i s hi => by
  obtain ⟨v, h1, h2⟩ := h i s hi
  exact ⟨v, h1, fun j hj => (h2 j hj).below hb⟩
theorem Fits.snoc {w : World} {news : List Value} {fs : List (Nat → SetM)} (hl : news.length = fs.length * 16) (h : Fits w news fs) (s : Nat → SetM) (v : Nat → SetV) (hs : ∀ j, j < 4 → SetR w (v j) (s j)) : Fits w (news ++ boxVals s v) (fs ++ [s]) := by
  intro i t hi
  rcases Nat.lt_or_ge i fs.length with hlt | hge
  · rw [List.getElem?_append_left hlt] at hi
    obtain ⟨v', h1, h2⟩ := h i t hi
    refine ⟨v', fun k u hk => ?_, h2⟩
    have h3 := h1 k u hk
    rw [List.getElem?_append_left (List.getElem?_eq_some_iff.1 h3).1]
    exact h3
  · rw [List.getElem?_append_right hge] at hi
    obtain ⟨h0, h1⟩ := List.getElem?_eq_some_iff.1 hi
    have hil : i - fs.length = 0 := by simp at h0; omega
    have hie : i = fs.length := by omega
    subst hie
    simp at h1
    subst h1
    refine ⟨v, fun k u hk => ?_, hs⟩
    rw [List.getElem?_append_right (by omega), hl, Nat.add_sub_cancel_left]
    exact hk

/-- The values that a filter's boxes are. -/
def News (w : World) (A : Option Addr) (n : Nat) (news : List Value) : Prop :=
  news.length = n * 16 ∧ (∀ u ∈ news, u.oneCell' = true) ∧ (0 < n → ∃ b off, A = some ⟨b, off, none⟩ ∧ b < w.heap.size ∧ ∀ j u, news[j]? = some u → w.cell? ⟨b, off + j, none⟩ = some u)
theorem News.below {w w1 : World} {A : Option Addr} {n : Nat} {news : List Value} (h : News w A n news) (hb : Below w.heap.size w w1) : News w1 A n news := by
  refine ⟨h.1, h.2.1, fun hn => ?_⟩
  obtain ⟨b, off, e, hl, hc⟩ := h.2.2 hn
  exact ⟨b, off, e, Nat.lt_of_lt_of_le hl hb.size, fun j u hj => (hb.cell (p := ⟨b, _, none⟩) hl).trans (hc j u hj)⟩
theorem news_of {w : World} {A : Option Addr} {n : Nat} {fs : List (Nat → SetM)} (hf : FilterR w A n fs) : ∃ news, News w A n news ∧ Fits w news fs := by
  by_cases h0 : 0 < n
  · obtain ⟨b, off, rfl, hb, hrow⟩ := hf.2.2 h0
    suffices h : ∀ m, m ≤ n → ∃ news : List Value, news.length = m * 16 ∧ (∀ u ∈ news, u.oneCell' = true) ∧ (∀ j u, news[j]? = some u → w.cell? ⟨b, off + j, none⟩ = some u) ∧ Fits w news (fs.take m) by
      obtain ⟨news, h1, h2, h3, h4⟩ := h n (Nat.le_refl _)
      rw [List.take_of_length_le (by have := hf.1; omega)] at h4
      exact ⟨news, ⟨h1, h2, fun _ => ⟨b, off, rfl, hb, h3⟩⟩, h4⟩
    intro m
    induction m with
    | zero => exact fun _ => ⟨[], rfl, by simp, by simp, by intro i s hi; simp at hi⟩
    | succ m ih =>
      intro hm
      obtain ⟨news, h1, h2, h3, h4⟩ := ih (by omega)
      have hml : m < fs.length := by have := hf.1; omega
      obtain ⟨v, hbc, hs⟩ := hrow m fs[m] (List.getElem?_eq_getElem hml)
      refine ⟨news ++ boxVals fs[m] v, by rw [List.length_append, h1]; show m * 16 + 16 = _; omega, ?_, ?_, ?_⟩
      · intro u hu
        rcases List.mem_append.1 hu with h | h
        · exact h2 u h
        · exact boxVals_one _ _ u h
      · intro j u hj
        rcases Nat.lt_or_ge j news.length with hlt | hge
        · rw [List.getElem?_append_left hlt] at hj
          exact h3 j u hj
        · rw [List.getElem?_append_right hge] at hj
          have := boxC_vals hbc _ u hj
          rw [← this]
          congr 2
          omega
      · rw [List.take_succ_eq_append_getElem hml]
        refine Fits.snoc ?_ h4 _ v hs
        rw [h1, List.length_take, Nat.min_eq_left (by omega)]
  · obtain rfl : n = 0 := by omega
    have hfs : fs = [] := List.eq_nil_of_length_eq_zero hf.1
    subst hfs
    exact ⟨[], ⟨rfl, by simp, fun h => absurd h h0⟩, by intro i s hi; simp at hi⟩
theorem filter_of {w : World} {g n : Nat} {news : List Value} {fs : List (Nat → SetM)} (hl : fs.length = n) (hn : n ≤ 9223372036854775807) (hg : g < w.heap.size) (h : ∀ j u, news[j]? = some u → w.cell? ⟨g, j, none⟩ = some u) (hf : Fits w news fs) : FilterR w (some ⟨g, 0, none⟩) n fs := by
  refine ⟨hl, hn, fun _ => ⟨g, 0, rfl, hg, fun i s hi => ?_⟩⟩
  obtain ⟨v, h1, h2⟩ := hf i s hi
  exact ⟨v, boxC_of fun k u hk => by rw [Nat.zero_add]; exact h _ _ (h1 k u hk), h2⟩

theorem info28 : (Try.prog.info? 28).map (fun i => (i.zero, i.size, i.bytes)) = some (some (.agg #[.bool false, .slice none 0 0, .bool false, .slice none 0 0, .bool false, .slice none 0 0, .bool false, .slice none 0 0, .bool false, .slice none 0 0, .bool false, .slice none 0 0, .bool false, .slice none 0 0, .bool false, .slice none 0 0]), 16, 256) := by kernel_rfl

/-- What append leaves: the new value owns the old and the new values. -/
def App (w : World) (B : Nat) (old : Value) (n : Nat) (xs : List Value) (v1 : Value) (w1 : World) : Prop := w1.ownsRow B 28 16 v1 n xs ∧ w.grownBy w1 old.ownBlock ∧ (v1.ownBlock = old.ownBlock ∨ v1.ownBlock = some w.heap.size)

theorem run_same (w : World) (ty : TypeId) (A : Option Addr) (n c : Nat) (y : Value) : (Builtin.append_ #[50, 22] ty #[.slice A n c, y]).run Try.prog w = (Builtin.append_ #[50, 50] ty #[.slice A n c, y]).run Try.prog w := by
  obtain ⟨i0, hi, hz0, hz1, hz2⟩ := info_parts info28
  simp [Builtin.append_, run_underlying Try.underlying50, run_underlying Try.underlying22, sizeOf, typeInfo, hi]

theorem run_app (w : World) (B g : Nat) (ty : TypeId) (A : Option Addr) (n c : Nat) (news : List Value) (hn : n ≤ 20) (hg : w.heap[g]? = some (.cells #[] 28 (0, 0))) (hB : B ≤ g) (hr : News w A n news) :
    ∃ v1 w1, (Builtin.append_ #[50, 22] ty #[.slice (some ⟨g, 0, none⟩) 0 0, .slice A n c]).run Try.prog w = .ok v1 w1 ∧ App w B (.slice (some ⟨g, 0, none⟩) 0 0) n news v1 w1 := by
  have hgl := bk_lt hg
  have hown : w.ownsRow B 28 16 (.slice (some ⟨g, 0, none⟩) 0 0) 0 [] := ⟨rfl, .inr ⟨g, 0, #[], rfl, hB, hg, Nat.le_refl _, Nat.zero_le _, rfl, rfl⟩⟩
  obtain ⟨i0, hi, hz0, hz1, hz2⟩ := info_parts info28
  rw [run_same]
  rcases A with _ | ad
  · have hm : n = 0 := by
      rcases Nat.eq_zero_or_pos n with h0 | h0
      · exact h0
      · obtain ⟨b, off, h, _⟩ := hr.2.2 h0
        cases h
    subst hm
    have hnn : news = [] := List.eq_nil_of_length_eq_zero (by simpa using hr.1)
    subst hnn
    refine ⟨_, w, ?_, hown, grown_refl _ _, .inl rfl⟩
    simp [Builtin.append_, run_underlying Try.underlying50, sizeOf, typeInfo, hi, Builtin.lenOf, Builtin.firstCells, storeCells]
  · have hcells : ∀ j u, news[j]? = some u → w.cell? (ad.add j) = some u := by
      intro j u hu
      have hjl := (List.getElem?_eq_some_iff.1 hu).1
      obtain ⟨b, off, h, _, hc⟩ := hr.2.2 (by have := hr.1; omega)
      injection h with h
      subst h
      rw [addr_plain]
      exact hc j u hu
    obtain ⟨v', w', hrun, h2, h3, _, h5⟩ := run_append_own_at (P := Try.prog) w B 50 ty 28 i0 _ 16 256 Try.underlying50 hi hz0 hz1 hz2 rfl (by decide) _ 0 [] hown ad n c news hr.1 hcells hr.2.1 (by unfold maxLen; omega) (by omega) (by omega)
    rw [Nat.zero_add, List.nil_append] at h2
    exact ⟨v', w', hrun, h2, h3, h5⟩

theorem run_app2 (w : World) (B b : Nat) (ty : TypeId) (v1 : Value) (n c : Nat) (news : List Value) (s : Nat → SetM) (v : Nat → SetV) (hn : n ≤ 20) (hown : w.ownsRow B 28 16 v1 n news) (hB : B ≤ w.heap.size)
    (hb : w.heap[b]? = some (.cells #[.bool (s 0).a, .slice (v 0).A (v 0).n (v 0).c, .bool (s 0).co, .slice (v 0).B (v 0).m (v 0).d, .bool (s 1).a, .slice (v 1).A (v 1).n (v 1).c, .bool (s 1).co, .slice (v 1).B (v 1).m (v 1).d, .bool (s 2).a, .slice (v 2).A (v 2).n (v 2).c, .bool (s 2).co, .slice (v 2).B (v 2).m (v 2).d, .bool (s 3).a, .slice (v 3).A (v 3).n (v 3).c, .bool (s 3).co, .slice (v 3).B (v 3).m (v 3).d] 28 (0, 0))) :
    ∃ v2 w2, (Builtin.append_ #[50, 50] ty #[v1, .slice (some ⟨b, 0, none⟩) 1 c]).run Try.prog w = .ok v2 w2 ∧ App w B v1 (n + 1) (news ++ boxVals s v) v2 w2 := by
  obtain ⟨i0, hi, hz0, hz1, hz2⟩ := info_parts info28
  obtain ⟨v', w', hrun, h2, h3, _, h5⟩ := run_append_own_at (P := Try.prog) w B 50 ty 28 i0 _ 16 256 Try.underlying50 hi hz0 hz1 hz2 rfl (by decide) v1 n news hown ⟨b, 0, none⟩ 1 c (boxVals s v) rfl (World.news_of_block hb) (boxVals_one s v) (by unfold maxLen; omega) (by omega) hB
  exact ⟨v', w', hrun, h2, h3, h5⟩

theorem step_app {ops : Array Oper} {o : Oper} {a : Act} {w : World} {K : Act → World → Prop} {Q : Exit → Act → World → Prop} {E : Prop} (hgd : o.guard = none) (x y : Operand)
    (ho : o.op = .call { callee := .builtin .append, args := #[x, y], argTypes := #[50, 22] }) (B g : Nat) (A : Option Addr) (n c : Nat) (news : List Value) (hs : a.eval x = .slice (some ⟨g, 0, none⟩) 0 0) (hx : a.eval y = .slice A n c)
    (hn : n ≤ 20) (hg : w.heap[g]? = some (.cells #[] 28 (0, 0))) (hB : B ≤ g) (hr : News w A n news) (h : ∀ v1 w1, App w B (.slice (some ⟨g, 0, none⟩) 0 0) n news v1 w1 → K (a.put o.dst v1) w1) :
    if Region.wanted o (yielded ops a.tmps) = true then Oper.wp Try.prog o a w K Q else E := by
  have hw : Region.wanted o (yielded ops a.tmps) = true := by simp [Region.wanted, hgd]
  rw [if_pos hw]
  obtain ⟨v1, w1, hrun, h2⟩ := run_app w B g o.type A n c news hn hg hB hr
  unfold Oper.wp execOp
  simp only [ho, resolve, invoke, builtin, Sem.run_bind, Sem.run_pure, Result.andThen_ok, List.map_toArray, List.map_cons, List.map_nil, hs, hx, hrun]
  exact h v1 w1 h2

theorem step_app2 {ops : Array Oper} {o : Oper} {a : Act} {w : World} {K : Act → World → Prop} {Q : Exit → Act → World → Prop} {E : Prop} (hgd : o.guard = none) (x y : Operand)
    (ho : o.op = .call { callee := .builtin .append, args := #[x, y], argTypes := #[50, 50] }) (B b : Nat) (v1 : Value) (n c : Nat) (news : List Value) (s : Nat → SetM) (v : Nat → SetV) (hs : a.eval x = v1) (hx : a.eval y = .slice (some ⟨b, 0, none⟩) 1 c)
    (hn : n ≤ 20) (hown : w.ownsRow B 28 16 v1 n news) (hB : B ≤ w.heap.size) (hb : w.heap[b]? = some (.cells #[.bool (s 0).a, .slice (v 0).A (v 0).n (v 0).c, .bool (s 0).co, .slice (v 0).B (v 0).m (v 0).d, .bool (s 1).a, .slice (v 1).A (v 1).n (v 1).c, .bool (s 1).co, .slice (v 1).B (v 1).m (v 1).d, .bool (s 2).a, .slice (v 2).A (v 2).n (v 2).c, .bool (s 2).co, .slice (v 2).B (v 2).m (v 2).d, .bool (s 3).a, .slice (v 3).A (v 3).n (v 3).c, .bool (s 3).co, .slice (v 3).B (v 3).m (v 3).d] 28 (0, 0))) (h : ∀ v2 w2, App w B v1 (n + 1) (news ++ boxVals s v) v2 w2 → K (a.put o.dst v2) w2) :
    if Region.wanted o (yielded ops a.tmps) = true then Oper.wp Try.prog o a w K Q else E := by
  have hw : Region.wanted o (yielded ops a.tmps) = true := by simp [Region.wanted, hgd]
  rw [if_pos hw]
  obtain ⟨v2, w2, hrun, h2⟩ := run_app2 w B b o.type v1 n c news s v hn hown hB hb
  unfold Oper.wp execOp
  simp only [ho, resolve, invoke, builtin, Sem.run_bind, Sem.run_pure, Result.andThen_ok, List.map_toArray, List.map_cons, List.map_nil, hs, hx, hrun]
  exact h v2 w2 h2

theorem app_below {w w0 w1 : World} {B0 B n : Nat} {old v1 : Value} {xs : List Value} (h : App w B old n xs v1 w1) (hb : Below B0 w0 w) (hB : B0 ≤ w.heap.size) (hg : ∀ g, old.ownBlock = some g → B0 ≤ g) : Below B0 w0 w1 :=
  hb.trans ⟨h.2.1.os, h.2.1.tape, h.2.1.output, h.2.1.size, fun k hk => h.2.1.block k (by omega) (fun e => by have := hg k e.symm; omega)⟩
theorem own_ge {B g0 a b : Nat} (hB : B ≤ g0) : ∀ g, (Value.slice (some ⟨g0, 0, none⟩) a b).ownBlock = some g → B ≤ g := fun g hg => by
  simp only [Value.ownBlock, Option.some.injEq] at hg
  omega
theorem app_own {w w1 : World} {B0 B n : Nat} {old v1 : Value} {xs : List Value} (h : App w B old n xs v1 w1) (hB : B0 ≤ w.heap.size) (ho : ∀ g, old.ownBlock = some g → B0 ≤ g) : ∀ g, v1.ownBlock = some g → B0 ≤ g := fun g hg => by
  rcases h.2.2 with h1 | h1
  · exact ho g (h1.symm.trans hg)
  · rw [h1] at hg
    injection hg with hg
    omega
theorem grown_bk {w w1 : World} {g : Nat} {o : Obj} {row : Option Nat} (hg : w.grownBy w1 row) (h : w.heap[g]? = some o) (hne : some g ≠ row) : w1.heap[g]? = some o := bk_grown h hg hne
/-- What the two appends leave. -/
def More (w : World) (n : Nat) (fs : List (Nat → SetM)) (s7 : Value) (wc : World) : Prop := ∃ g cap, s7 = .slice (some ⟨g, 0, none⟩) (n + 1) cap ∧ FilterR wc (some ⟨g, 0, none⟩) (n + 1) fs ∧ Below w.heap.size w wc
theorem more_of {w wb w2 : World} {n : Nat} {news : List Value} {fs : List (Nat → SetM)} {old v2 : Value} {s : Nat → SetM} {v : Nat → SetV} (hn : n ≤ 20) (hl : fs.length = n) (hnl : news.length = n * 16) (hf : Fits w news fs) (hs : ∀ j, j < 4 → SetR w (v j) (s j)) (h : App wb w.heap.size old (n + 1) (news ++ boxVals s v) v2 w2) (hb : Below w.heap.size w wb) (hg : ∀ g, old.ownBlock = some g → w.heap.size ≤ g) : More w n (fs ++ [s]) v2 w2 := by
  have hb2 := app_below h hb hb.size hg
  obtain ⟨g, cap, rfl, h1, h2⟩ := h.1.form (by omega)
  refine ⟨g, cap, rfl, filter_of (by simp [hl]) (by omega) h2 ?_ ((Fits.snoc (by rw [hnl, hl]) hf s v hs).below hb2), hb2⟩
  intro j u hu
  rcases h.1.2 with ⟨h3, _⟩ | ⟨g', cap', cur, h3, _, h5, _, _, h6, h7⟩
  · cases h3
  · injection h3 with h3
    injection h3 with h3
    injection h3 with h3
    subst h3
    rw [← h7] at hu
    rw [bk_cell h5]
    have hj := (List.getElem?_eq_some_iff.1 hu).1
    simp only [List.length_take, Array.length_toList] at hj
    rw [List.getElem?_take, if_pos (by omega)] at hu
    simpa using hu

/-- An event's twelve values. -/
def evVals (e : Nat → ValM) : List Value := [.int .i64 (e 0).k, .int .i64 (e 0).n, .string (e 0).s, .int .i64 (e 1).k, .int .i64 (e 1).n, .string (e 1).s, .int .i64 (e 2).k, .int .i64 (e 2).n, .string (e 2).s, .int .i64 (e 3).k, .int .i64 (e 3).n, .string (e 3).s]
theorem load_box {w : World} {b : Nat} {s : Nat → SetM} {v : Nat → SetV} (h : w.heap[b]? = some (.cells #[.bool (s 0).a, .slice (v 0).A (v 0).n (v 0).c, .bool (s 0).co, .slice (v 0).B (v 0).m (v 0).d, .bool (s 1).a, .slice (v 1).A (v 1).n (v 1).c, .bool (s 1).co, .slice (v 1).B (v 1).m (v 1).d, .bool (s 2).a, .slice (v 2).A (v 2).n (v 2).c, .bool (s 2).co, .slice (v 2).B (v 2).m (v 2).d, .bool (s 3).a, .slice (v 3).A (v 3).n (v 3).c, .bool (s 3).co, .slice (v 3).B (v 3).m (v 3).d] 28 (0, 0))) : (Instr.loadAt 28 (.pointer (some ⟨b, 0, none⟩))).run Try.prog w = .ok (.agg #[.bool (s 0).a, .slice (v 0).A (v 0).n (v 0).c, .bool (s 0).co, .slice (v 0).B (v 0).m (v 0).d, .bool (s 1).a, .slice (v 1).A (v 1).n (v 1).c, .bool (s 1).co, .slice (v 1).B (v 1).m (v 1).d, .bool (s 2).a, .slice (v 2).A (v 2).n (v 2).c, .bool (s 2).co, .slice (v 2).B (v 2).m (v 2).d, .bool (s 3).a, .slice (v 3).A (v 3).n (v 3).c, .bool (s 3).co, .slice (v 3).B (v 3).m (v 3).d]) w :=
  run_loadAt_mid w b 0 28 (boxVals s v) _ (fun j u hj => by rw [Nat.zero_add, bk_cell h]; simpa [boxVals] using hj) Try.underlying28 rfl (by kernel_rfl)
theorem load_event {w : World} {b : Nat} {e : Nat → ValM} (h : w.heap[b]? = some (.cells #[.int .i64 (e 0).k, .int .i64 (e 0).n, .string (e 0).s, .int .i64 (e 1).k, .int .i64 (e 1).n, .string (e 1).s, .int .i64 (e 2).k, .int .i64 (e 2).n, .string (e 2).s, .int .i64 (e 3).k, .int .i64 (e 3).n, .string (e 3).s] 32 (0, 0))) : (Instr.loadAt 32 (.pointer (some ⟨b, 0, none⟩))).run Try.prog w = .ok (.agg #[.int .i64 (e 0).k, .int .i64 (e 0).n, .string (e 0).s, .int .i64 (e 1).k, .int .i64 (e 1).n, .string (e 1).s, .int .i64 (e 2).k, .int .i64 (e 2).n, .string (e 2).s, .int .i64 (e 3).k, .int .i64 (e 3).n, .string (e 3).s]) w :=
  run_loadAt_mid w b 0 32 (evVals e) _ (fun j u hj => by rw [Nat.zero_add, bk_cell h]; simpa [evVals] using hj) Try.underlying32 rfl (by kernel_rfl)

/-- One box, just made a slice of. -/
theorem filter1 {w : World} {g : Nat} {s : Nat → SetM} {v : Nat → SetV} (h : w.heap[g]? = some (.cells #[.bool (s 0).a, .slice (v 0).A (v 0).n (v 0).c, .bool (s 0).co, .slice (v 0).B (v 0).m (v 0).d, .bool (s 1).a, .slice (v 1).A (v 1).n (v 1).c, .bool (s 1).co, .slice (v 1).B (v 1).m (v 1).d, .bool (s 2).a, .slice (v 2).A (v 2).n (v 2).c, .bool (s 2).co, .slice (v 2).B (v 2).m (v 2).d, .bool (s 3).a, .slice (v 3).A (v 3).n (v 3).c, .bool (s 3).co, .slice (v 3).B (v 3).m (v 3).d] 28 (0, 0))) (hs : ∀ j, j < 4 → SetR w (v j) (s j)) : FilterR w (some ⟨g, 0, none⟩) 1 [s] := by
  refine ⟨rfl, by omega, fun _ => ⟨g, 0, rfl, bk_lt h, fun i t hi => ?_⟩⟩
  obtain ⟨h0, h1⟩ := List.getElem?_eq_some_iff.1 hi
  have hi0 : i = 0 := by simp at h0; omega
  subst hi0
  simp at h1
  subst h1
  exact ⟨v, boxC_of fun k u hk => by simp only [Nat.zero_mul, Nat.zero_add]; rw [bk_cell h]; simpa [boxVals] using hk, hs⟩
end Go.Proofs.Ytfhokhhpfdmfiaa
