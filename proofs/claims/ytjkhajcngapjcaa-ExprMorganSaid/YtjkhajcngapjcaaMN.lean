/- And and Or of any list; the nots that are gathered; printed by gen_morgan05.py. -/
import Derived.Test.YtjkhajcngapjcaaEC2
import Derived.Outline
namespace Go.Proofs.Ytjkhajcngapjcaa.Q
open Go.RowKit Go.Proofs.YtjkhajcngapjcaaW.PrintWords Go.Proofs.YtjkhajcngapjcaaW.PrintLast Go.Proofs.YtjkhajcngapjcaaW.PrintMore
set_option linter.unusedVariables false
set_option linter.unusedSimpArgs false

theorem eql26_nilc (n c : Nat) (w : World) : (binOp BinOp.eql 26 (.slice none n c) (.slice none 0 0)).run Try.prog w = .ok (.bool true) w := by kernel_rfl
section
attribute [local go_sem] eql26_nilc eql26_some
theorem clone_nilc (n c : Nat) (w : World) : Calls Try.prog 35 #[.slice none n c] w fun e w' => e = .returned (.slice none 0 0) ∧ w = w' := by
  go_enter Try.func35, Try.ntmps35
  go_wp2_with fail
  go_ret
  exact ⟨rfl, rfl⟩
end
set_option maxHeartbeats 4000000 in
set_option maxRecDepth 100000 in
theorem and_nilc (n c : Nat) (w : World) : Calls Try.prog 19 #[.slice none n c] w fun e w' => e = .returned (.agg #[.int .i64 2, .int .i64 0, .bool false, .slice none 0 0, .bool false, .slice none 0 0, .slice none 0 0]) ∧ Below w.heap.size w w' := by
  go_enter Try.func19, Try.ntmps19
  go_wp2_with fail
  refine (clone_nilc _ _ _).mono ?_
  rintro e w1 ⟨rfl, rfl⟩
  go_wp2_with fail
  refine bodyPost_ret (results_cell_row rfl _ _ w.heap.size 28 #[.int .i64 2, .int .i64 0, .bool false, .slice none 0 0, .bool false, .slice none 0 0, .slice none 0 0] (0, 0) _ rfl (heap_alloc_new w _) Try.underlying28 rfl (by kernel_rfl)) rfl ⟨rfl, below_alloc (Below.refl _ _) _⟩
theorem and_any (A : Option Addr) (n c : Nat) (xs : List S28) (w : World) (hl : xs.length ≤ 1000) (hn : xs.length = n) (hC : k28.C w A n xs) : Calls Try.prog 19 #[.slice A n c] w fun e w' => ∃ u, e = .returned u ∧ XR w' u ⟨2, 0, s0, xs⟩ ∧ Below w.heap.size w w' := by
  subst hn
  cases A with
  | some ad => exact and_some ad c xs w hl hC
  | none =>
    have hx : xs = [] := by
      by_cases h : 0 < xs.length
      · obtain ⟨ad, he, _⟩ := hC.2.2 h; cases he
      · exact List.eq_nil_of_length_eq_zero (by omega)
    subst hx
    refine (and_nilc _ c w).mono ?_
    rintro e w' ⟨rfl, hb⟩
    exact ⟨_, rfl, XR_nil w' 2, hb⟩
set_option maxHeartbeats 4000000 in
set_option maxRecDepth 100000 in
theorem or_nilc (n c : Nat) (w : World) : Calls Try.prog 20 #[.slice none n c] w fun e w' => e = .returned (.agg #[.int .i64 3, .int .i64 0, .bool false, .slice none 0 0, .bool false, .slice none 0 0, .slice none 0 0]) ∧ Below w.heap.size w w' := by
  go_enter Try.func20, Try.ntmps20
  go_wp2_with fail
  refine (clone_nilc _ _ _).mono ?_
  rintro e w1 ⟨rfl, rfl⟩
  go_wp2_with fail
  refine bodyPost_ret (results_cell_row rfl _ _ w.heap.size 28 #[.int .i64 3, .int .i64 0, .bool false, .slice none 0 0, .bool false, .slice none 0 0, .slice none 0 0] (0, 0) _ rfl (heap_alloc_new w _) Try.underlying28 rfl (by kernel_rfl)) rfl ⟨rfl, below_alloc (Below.refl _ _) _⟩
theorem or_any (A : Option Addr) (n c : Nat) (xs : List S28) (w : World) (hl : xs.length ≤ 1000) (hn : xs.length = n) (hC : k28.C w A n xs) : Calls Try.prog 20 #[.slice A n c] w fun e w' => ∃ u, e = .returned u ∧ XR w' u ⟨3, 0, s0, xs⟩ ∧ Below w.heap.size w w' := by
  subst hn
  cases A with
  | some ad => exact or_some ad c xs w hl hC
  | none =>
    have hx : xs = [] := by
      by_cases h : 0 < xs.length
      · obtain ⟨ad, he, _⟩ := hC.2.2 h; cases he
      · exact List.eq_nil_of_length_eq_zero (by omega)
    subst hx
    refine (or_nilc _ c w).mono ?_
    rintro e w' ⟨rfl, hb⟩
    exact ⟨_, rfl, XR_nil w' 3, hb⟩
def notX (y : S28) : S28 := ⟨4, 0, s0, [y]⟩
/-- The nots of a list, gathered in a row that is owned since the world wb; what they consist of lies apart from the row. -/
def NotsC (wb wr : World) (xs : List S28) (v : Value) (cs : List Value) : Prop := ∃ (F : Nat → Option Obj), wr.ownsRow wb.heap.size 28 7 v xs.length cs ∧
  (∀ W, Below wb.heap.size wb W → (∀ k o, F k = some o → W.heap[k]? = some o) → Reps (k28.K W) 7 (xs.map notX) cs) ∧ (∀ k o, F k = some o → wr.heap[k]? = some o ∧ v.ownBlock ≠ some k)
def Nots (wb wr : World) (xs : List S28) (v : Value) : Prop := ∃ cs, NotsC wb wr xs v cs
theorem Nots.nil (wb : World) : Nots wb wb [] (.slice none 0 0) :=
  ⟨[], fun _ => none, World.ownsRow_nil _ _ _ _, fun W _ _ => ⟨rfl, fun j p h => by simp at h⟩, fun k o h => by cases h⟩
theorem Nots.below {wb wr wr' : World} {xs : List S28} {v : Value} (h : Nots wb wr xs v) (hb : Below wr.heap.size wr wr') : Nots wb wr' xs v := by
  obtain ⟨cs, F, h1, h2, h3⟩ := h
  refine ⟨cs, F, own_move h1 (fun k _ hk => hb.block k hk), h2, fun k o hk => ⟨?_, (h3 k o hk).2⟩⟩
  obtain ⟨a, _⟩ := h3 k o hk
  rw [hb.block k (Array.getElem?_eq_some_iff.1 a).1]; exact a
theorem Nots.reads {wb wr : World} {xs : List S28} {v : Value} (h : Nots wb wr xs v) (hb : Below wb.heap.size wb wr) : ∃ A c, v = .slice A xs.length c ∧ xs.length ≤ c ∧ k28.C wr A xs.length (xs.map notX) := by
  obtain ⟨cs, F, h1, h2, h3⟩ := h
  obtain ⟨A, c, hv, hl, hC⟩ := C_of_own h1 (h2 wr hb (fun k o hk => (h3 k o hk).1)) (by simp)
  simp only [List.length_map] at hv hl hC
  exact ⟨A, c, hv, hl, hC⟩
theorem reps_snoc {W : World} {ps : List S28} {cs : List Value} {p : S28} {c : List Value} (h : Reps (k28.K W) 7 ps cs) (hk : k28.K W p c) (hc : c.length = 7) : Reps (k28.K W) 7 (ps ++ [p]) (cs ++ c) := by
  have hl := h.1
  refine ⟨by simp [hl, hc]; omega, fun j q hj => ?_⟩
  by_cases hjl : j < ps.length
  · rw [List.getElem?_append_left hjl] at hj
    have := h.2 j q hj
    have e : ((cs ++ c).drop (j * 7)).take 7 = (cs.drop (j * 7)).take 7 := by
      rw [List.drop_append_of_le_length (by omega), List.take_append_of_le_length (by simp; omega)]
    rw [e]; exact this
  · rw [List.getElem?_append_right (by omega)] at hj
    have hj0 : j - ps.length = 0 := by
      by_cases h0 : j - ps.length = 0
      · exact h0
      · rw [List.getElem?_eq_none (by simp; omega)] at hj; cases hj
    rw [hj0] at hj
    have hq : p = q := by simpa using hj
    subst hq
    have e : ((cs ++ c).drop (j * 7)).take 7 = c := by
      rw [show j * 7 = cs.length by omega, List.drop_left]
      rw [← hc, List.take_length]
    rw [e]; exact hk
/-- Behind the append of one more. w1: ahead of Not; w2: behind it; w3: with the row of one; w4: behind the append. -/
theorem Nots.append {wb w1 w2 w3 w4 : World} {xs : List S28} {y : S28} {v v' : Value} {cu : List Value} {cs : List Value} (h : NotsC wb w1 xs v cs) (h12 : Below w1.heap.size w1 w2) (h23 : Below w2.heap.size w2 w3) (hgt : w2.heap.size ≤ w3.heap.size)
    (hu : ∀ W, Below wb.heap.size wb W → (∀ k, w1.heap.size ≤ k → k < w2.heap.size → W.heap[k]? = w2.heap[k]?) → XR W (.agg ⟨cu⟩) (notX y))
    (hown : w4.ownsRow wb.heap.size 28 7 v' (xs.length + 1) (cs ++ cu)) (hg : w3.grownBy w4 v.ownBlock) (hat : v'.ownBlock = v.ownBlock ∨ v'.ownBlock = some w3.heap.size) : Nots wb w4 (xs ++ [y]) v' := by
  obtain ⟨F, a1, a2, a3⟩ := h
  have hlt : ∀ k, v.ownBlock = some k → k < w1.heap.size := fun k hk => (a1.lt k hk).2
  have s12 := h12.size
  have s23 := h23.size
  have hF : ∀ k o, F k = some o → k < w1.heap.size := fun k o hk => (Array.getElem?_eq_some_iff.1 (a3 k o hk).1).1
  refine ⟨cs ++ cu, fun k => if w1.heap.size ≤ k ∧ k < w2.heap.size then w2.heap[k]? else F k, by simpa using hown, fun W hW hk => ?_, fun k o hk => ?_⟩
  · rw [List.map_append, List.map_cons, List.map_nil]
    have hx := hu W hW (fun k h1 h2 => by
      have e : w2.heap[k]? = some (w2.heap[k]'h2) := Array.getElem?_eq_getElem h2
      rw [e]
      exact hk k _ ((if_pos ⟨h1, h2⟩).trans e))
    obtain ⟨A3, c3, A5, c5, A6, c6, he, l3, g3, l5, g5, l6, g6⟩ := hx
    injection he with he
    have he' : cu = _ := congrArg Array.toList he
    refine reps_snoc (a2 W hW (fun k o hF' => hk k o ?_)) ?_ ?_
    · exact (if_neg (by have := hF k o hF'; omega)).trans hF'
    · rw [he']; exact k28_mk W (notX y) l3 g3 l5 g5 l6 g6
    · rw [he']; rfl
  · by_cases hc : w1.heap.size ≤ k ∧ k < w2.heap.size
    · replace hk := (if_pos hc).symm.trans hk
      have hk3 : w3.heap[k]? = some o := (h23.block k hc.2).trans hk
      refine ⟨(hg.block k (by omega) (fun e => by have := hlt k e.symm; omega)).trans hk3, fun e => ?_⟩
      rcases hat with hat | hat
      · rw [hat] at e; have := hlt k e; omega
      · rw [hat] at e; injection e with e; omega
    · replace hk := (if_neg hc).symm.trans hk
      obtain ⟨b1, b2⟩ := a3 k o hk
      have hkl := hF k o hk
      have hk3 : w3.heap[k]? = some o := (h23.block k (by omega)).trans ((h12.block k hkl).trans b1)
      refine ⟨(hg.block k (by omega) (fun e => b2 e.symm)).trans hk3, fun e => ?_⟩
      rcases hat with hat | hat
      · rw [hat] at e; exact b2 e
      · rw [hat] at e; injection e with e; omega

theorem NotsC.own {wb w1 w3 : World} {xs : List S28} {v : Value} {cs : List Value} (h : NotsC wb w1 xs v cs) (hb : Below w1.heap.size w1 w3) : w3.ownsRow wb.heap.size 28 7 v xs.length cs := by
  obtain ⟨F, a1, _⟩ := h
  exact own_move a1 (fun k _ hk => hb.block k hk)
theorem isT_not5 (e : Nat → V3) (x : S28) : isT e ⟨4, 0, s0, [x]⟩ = !(isT e x) := by rw [isT_eq]; simp [isFst]
theorem isAll_nots (e : Nat → V3) : ∀ l : List S28, isAny e (l.map notX) = !(isAll e l) ∧ isAll e (l.map notX) = !(isAny e l)
  | [] => ⟨rfl, rfl⟩
  | x :: t => by
    obtain ⟨h1, h2⟩ := isAll_nots e t
    simp only [List.map_cons, isAny, isAll, h1, h2, notX, isT_not5]
    cases isT e x <;> simp
theorem isT_and5 (e : Nat → V3) (l : List S28) : isT e ⟨2, 0, s0, l⟩ = isAll e l := by rw [isT_eq]; simp
theorem isT_or5 (e : Nat → V3) (l : List S28) : isT e ⟨3, 0, s0, l⟩ = isAny e l := by rw [isT_eq]; simp
theorem evalT_yes5 {x : S28} {e : Nat → V3} (h : rightT x = true) : evalT x e = (evOk e && isT e x) := by unfold evalT; rw [h]; rfl
theorem morgan_1 {e : Nat → V3} {l : List S28} (ha : rightT ⟨4, 0, s0, [⟨2, 0, s0, l⟩]⟩ = true) (hb : rightT ⟨3, 0, s0, l.map notX⟩ = true) : evalT ⟨4, 0, s0, [⟨2, 0, s0, l⟩]⟩ e = evalT ⟨3, 0, s0, l.map notX⟩ e := by
  rw [evalT_yes5 ha, evalT_yes5 hb, isT_not5, isT_and5, isT_or5, (isAll_nots e l).1]
theorem morgan_2 {e : Nat → V3} {l : List S28} (ha : rightT ⟨4, 0, s0, [⟨3, 0, s0, l⟩]⟩ = true) (hb : rightT ⟨2, 0, s0, l.map notX⟩ = true) : evalT ⟨4, 0, s0, [⟨3, 0, s0, l⟩]⟩ e = evalT ⟨2, 0, s0, l.map notX⟩ e := by
  rw [evalT_yes5 ha, evalT_yes5 hb, isT_not5, isT_or5, isT_and5, (isAll_nots e l).2]
theorem fine_num {x : S28} (h : Each (fun y => NumS y.f2) x) (hs : SmallX x) : Each (fun y => FineS y.f2) x := (h.and hs.e).imp (fun _ h => fine_of h.1 h.2)
theorem fine_s5 : FineS s0 := ⟨(fun r hr => by cases hr), Nat.zero_le _, Nat.zero_le _⟩
theorem fine_nots {k : Int} {l : List S28} (h : ∀ x, x ∈ l → Each (fun y => FineS y.f2) x) : Each (fun y => FineS y.f2) ⟨k, 0, s0, l.map notX⟩ := fine_list (fun x hx => by
  obtain ⟨y, hy, rfl⟩ := List.mem_map.1 hx
  exact .mk _ fine_s5 (fun z hz => by rcases List.mem_singleton.1 hz with rfl; exact h _ hy))
theorem fine_one {x : S28} (h : Each (fun y => FineS y.f2) x) : Each (fun y => FineS y.f2) ⟨4, 0, s0, [x]⟩ := .mk _ fine_s5 (fun z hz => by rcases List.mem_singleton.1 hz with rfl; exact h)
theorem take_snoc (l : List S28) (i : Nat) (h : i < l.length) : l.take i ++ [rd_T28 l (i : Int)] = l.take (i + 1) := by
  rw [rd28_mem l i h, List.take_add_one, List.getElem?_eq_getElem h]; rfl
end Go.Proofs.Ytjkhajcngapjcaa.Q
