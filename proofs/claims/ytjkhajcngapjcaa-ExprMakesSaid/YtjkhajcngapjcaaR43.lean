/- ExprMakes: and, or, not of two expressions, made in whatever order; printed by gen_r43.py. -/
import Derived.Test.YtjkhajcngapjcaaHI
import Derived.Test.YtjkhajcngapjcaaHP
import Derived.Test.YtjkhajcngapjcaaEC2
import Derived.Test.YtjkhajcngapjcaaEL
import Derived.Test.YtjkhajcngapjcaaEW
namespace Go.Proofs.Ytjkhajcngapjcaa.Q
open Go.RowKit Go.Proofs.YtjkhajcngapjcaaW.PrintWords Go.Proofs.YtjkhajcngapjcaaW.PrintLast Go.Proofs.YtjkhajcngapjcaaW.PrintMore
set_option linter.unusedVariables false

/-- The region 3. -/
noncomputable def reg4_3 : Code := (Try.f4.body.bind (regAt 3)).getD .skip
noncomputable def ops4_3 : Array Oper := opsOf reg4_3
noncomputable def op4_3 (k : Nat) : Oper := (ops4_3[k]?).getD ⟨none, .move (.tmp 0), 0, "", #[], none⟩
theorem reg4_3_is : reg4_3 = .region 3 ops4_3 true := by kernel_rfl

def dst43 (i : Nat) : Nat := #[36, 37, 38, 39, 40, 41, 42, 43, 44, 45, 7, 8, 9].getD i 999
/-- A variable that was made, and nothing written there. -/
def NewAt (base : Nat) (g : Nat → Nat) (i : Nat) (v : Value) (w : World) : Prop := ∃ b, v = .pointer (some ⟨b, 0, none⟩) ∧ g b = i ∧ base ≤ b ∧ w.heap[b]? = some (.cells #[.int .i64 0, .int .i64 0, .bool false, .slice none 0 0, .bool false, .slice none 0 0, .slice none 0 0] 28 (0, 0))
/-- An expression that was made here, in blocks of its own. -/
def MadeX (w5 : World) (X : S28) (g : Nat → Nat) (v : Value) (w : World) : Prop := ∃ lo hi, (∀ W, Below w5.heap.size w5 W → (∀ k, lo ≤ k → k < hi → W.heap[k]? = w.heap[k]?) → XR W v X) ∧ hi ≤ w.heap.size ∧ ∀ k, lo ≤ k → k < hi → g k = 0
def RowAt (cs : List Value) (n : Nat) (v : Value) (w : World) : Prop := ∃ ad, v = .slice (some ad) n n ∧ ∀ j u, cs[j]? = some u → w.cell? (ad.add j) = some u
def Rel43 (w5 : World) (a b : S28) (va vb : Value) (cs : List Value) : Nat → (Nat → Nat) → Value → World → Prop
  | 0, _, v, _ => v = va
  | 1, _, v, _ => v = vb
  | 2, _, v, w => RowAt cs 2 v w
  | 3, g, v, w => MadeX w5 ⟨2, 0, s0, [a, b]⟩ g v w
  | 4, _, v, _ => v = va
  | 5, _, v, _ => v = vb
  | 6, _, v, w => RowAt cs 2 v w
  | 7, g, v, w => MadeX w5 ⟨3, 0, s0, [a, b]⟩ g v w
  | 8, _, v, _ => v = va
  | 9, g, v, w => MadeX w5 ⟨4, 0, s0, [a]⟩ g v w
  | i, g, v, w => NewAt w5.heap.size g i v w
def Ext43 (g : Nat → Nat) (w : World) (g' : Nat → Nat) (w' : World) : Prop := Below w.heap.size w w' ∧ ∀ b, b < w.heap.size → g' b = g b
theorem NewAt.ext {base : Nat} {g g' : Nat → Nat} {i : Nat} {v : Value} {w w' : World} (h : NewAt base g i v w) (he : Ext43 g w g' w') : NewAt base g' i v w' := by
  obtain ⟨b, e, hg, hb, hh⟩ := h
  exact ⟨b, e, (he.2 b (Array.getElem?_eq_some_iff.1 hh).1).trans hg, hb, blk_below hh he.1⟩
theorem MadeX.ext {w5 : World} {X : S28} {g g' : Nat → Nat} {v : Value} {w w' : World} (h : MadeX w5 X g v w) (he : Ext43 g w g' w') : MadeX w5 X g' v w' := by
  obtain ⟨lo, hi, h1, h2, h3⟩ := h
  exact ⟨lo, hi, fun W hW hk => h1 W hW (fun k a b => (hk k a b).trans (he.1.block k (by omega))), Nat.le_trans h2 he.1.size, fun k a b => (he.2 k (by omega)).trans (h3 k a b)⟩
theorem RowAt.ext {cs : List Value} {n : Nat} {g g' : Nat → Nat} {v : Value} {w w' : World} (h : RowAt cs n v w) (he : Ext43 g w g' w') : RowAt cs n v w' := by
  obtain ⟨ad, e, hc⟩ := h
  exact ⟨ad, e, fun j u hu => pw_cell_below he.1 (hc j u hu)⟩
theorem Rel43.ext {w5 : World} {a b : S28} {va vb : Value} {cs : List Value} (i : Nat) (g : Nat → Nat) (v : Value) (w : World) (g' : Nat → Nat) (w' : World) (hi : i < 13) (h : Rel43 w5 a b va vb cs i g v w) (he : Ext43 g w g' w') : Rel43 w5 a b va vb cs i g' v w' := by
  rcases (by omega : i = 0 ∨ i = 1 ∨ i = 2 ∨ i = 3 ∨ i = 4 ∨ i = 5 ∨ i = 6 ∨ i = 7 ∨ i = 8 ∨ i = 9 ∨ i = 10 ∨ i = 11 ∨ i = 12) with rfl | rfl | rfl | rfl | rfl | rfl | rfl | rfl | rfl | rfl | rfl | rfl | rfl
  · exact h
  · exact h
  · exact RowAt.ext h he
  · exact MadeX.ext h he
  · exact h
  · exact h
  · exact RowAt.ext h he
  · exact MadeX.ext h he
  · exact h
  · exact MadeX.ext h he
  · exact NewAt.ext h he
  · exact NewAt.ext h he
  · exact NewAt.ext h he
theorem reps_two {a b : S28} {A3a A5a A6a A3b A5b A6b : Option Addr} {c3a c5a c6a c3b c5b c6b : Nat} {W : World} (hx : XR W (.agg #[.int .i64 a.f0, .int .i64 a.f1, .bool a.f2.f0, .slice A3a a.f2.f1.length c3a, .bool a.f2.f2, .slice A5a a.f2.f3.length c5a, .slice A6a a.f3.length c6a]) a) (hy : XR W (.agg #[.int .i64 b.f0, .int .i64 b.f1, .bool b.f2.f0, .slice A3b b.f2.f1.length c3b, .bool b.f2.f2, .slice A5b b.f2.f3.length c5b, .slice A6b b.f3.length c6b]) b) : Reps (k28.K W) 7 [a, b] [.int .i64 a.f0, .int .i64 a.f1, .bool a.f2.f0, .slice A3a a.f2.f1.length c3a, .bool a.f2.f2, .slice A5a a.f2.f3.length c5a, .slice A6a a.f3.length c6a, .int .i64 b.f0, .int .i64 b.f1, .bool b.f2.f0, .slice A3b b.f2.f1.length c3b, .bool b.f2.f2, .slice A5b b.f2.f3.length c5b, .slice A6b b.f3.length c6b] := by
  refine ⟨rfl, fun j p hj => ?_⟩
  have hj0 : j = 0 ∧ a = p ∨ j = 1 ∧ b = p := by
    cases j with
    | zero => left; exact ⟨rfl, by simpa using hj⟩
    | succ j =>
      cases j with
      | zero => right; exact ⟨rfl, by simpa using hj⟩
      | succ j => simp at hj
  rcases hj0 with ⟨rfl, rfl⟩ | ⟨rfl, rfl⟩
  · obtain ⟨A3, c3, A5, c5, A6, c6, he, l3, g3, l5, g5, l6, g6⟩ := hx
    simp at he
    obtain ⟨⟨rfl, rfl⟩, ⟨rfl, rfl⟩, rfl, rfl⟩ := he
    exact k28_mk W a l3 g3 l5 g5 l6 g6
  · obtain ⟨A3, c3, A5, c5, A6, c6, he, l3, g3, l5, g5, l6, g6⟩ := hy
    simp at he
    obtain ⟨⟨rfl, rfl⟩, ⟨rfl, rfl⟩, rfl, rfl⟩ := he
    exact k28_mk W b l3 g3 l5 g5 l6 g6
theorem row_new {w : World} {cs : Array Value} {t : TypeId} {n : Nat} : RowAt cs.toList n (.slice (some ⟨w.heap.size, 0, none⟩) n n) (w.alloc (.cells cs t)) :=
  ⟨_, rfl, fun j u hu => by rw [add_plain, blk_cell (heap_alloc_new w _) j]; simpa using hu⟩
theorem build2 {a b : S28} {A3a A5a A6a A3b A5b A6b : Option Addr} {c3a c5a c6a c3b c5b c6b : Nat} (w : World) : (Instr.buildSlice 26 2 #[(0, .agg #[.int .i64 a.f0, .int .i64 a.f1, .bool a.f2.f0, .slice A3a a.f2.f1.length c3a, .bool a.f2.f2, .slice A5a a.f2.f3.length c5a, .slice A6a a.f3.length c6a]), (1, .agg #[.int .i64 b.f0, .int .i64 b.f1, .bool b.f2.f0, .slice A3b b.f2.f1.length c3b, .bool b.f2.f2, .slice A5b b.f2.f3.length c5b, .slice A6b b.f3.length c6b])]).run Try.prog w = .ok (.slice (some ⟨w.heap.size, 0, none⟩) 2 2) (w.alloc (.cells #[.int .i64 a.f0, .int .i64 a.f1, .bool a.f2.f0, .slice A3a a.f2.f1.length c3a, .bool a.f2.f2, .slice A5a a.f2.f3.length c5a, .slice A6a a.f3.length c6a, .int .i64 b.f0, .int .i64 b.f1, .bool b.f2.f0, .slice A3b b.f2.f1.length c3b, .bool b.f2.f2, .slice A5b b.f2.f3.length c5b, .slice A6b b.f3.length c6b] 28)) := by kernel_rfl
theorem alloc28 (w : World) : (Instr.alloc 28 true (.tuple #[])).run Try.prog w = .ok (.pointer (some ⟨w.heap.size, 0, none⟩)) (w.alloc (.cells #[.int .i64 0, .int .i64 0, .bool false, .slice none 0 0, .bool false, .slice none 0 0, .slice none 0 0] 28)) := by kernel_rfl
theorem ext_alloc (g : Nat → Nat) (w : World) (o : Obj) (i : Nat) : Ext43 g w (fun k => if k = w.heap.size then i else g k) (w.alloc o) := ⟨below_alloc (Below.refl _ _) _, fun b hb => if_neg (by omega)⟩
theorem ext_new (g : Nat → Nat) {w w' : World} (h : Below w.heap.size w w') : Ext43 g w (fun k => if k < w.heap.size then g k else 0) w' := ⟨h, fun _ hb => if_pos hb⟩
theorem made_new {w5 : World} {X : S28} {u : Value} {w w' : World} (g : Nat → Nat) (h : ∀ W, Below w5.heap.size w5 W → (∀ k, w.heap.size ≤ k → k < w'.heap.size → W.heap[k]? = w'.heap[k]?) → XR W u X) : MadeX w5 X (fun k => if k < w.heap.size then g k else 0) u w' := ⟨w.heap.size, w'.heap.size, h, Nat.le_refl _, fun k hk _ => if_neg (by omega)⟩
theorem ext_below (g : Nat → Nat) {w w' : World} (h : Below w.heap.size w w') : Ext43 g w g w' := ⟨h, fun _ _ => rfl⟩

theorem ex_slice2 {P : Program} {o : Oper} {a : Act} {w w1 : World} {v : Value} {t : TypeId} {n : Nat} {x y : Operand} {p q : Value} (ho : o.op = .buildSlice t n #[(0, x), (1, y)]) (hx : a.eval x = p) (hy : a.eval y = q) (h : (Instr.buildSlice t n #[(0, p), (1, q)]).run P w = .ok v w1) : (execOp a.eval o).run P w = .ok (.value v) w1 := by
  unfold execOp
  simp only [ho, List.map_toArray, List.map_cons, List.map_nil, hx, hy, Sem.run_bind, h, Result.andThen_ok, Sem.run_pure]
set_option maxHeartbeats 4000000 in
set_option maxRecDepth 100000 in
theorem steps43 {a b : S28} {A3a A5a A6a A3b A5b A6b : Option Addr} {c3a c5a c6a c3b c5b c6b : Nat} (A B : Nat) (w5 : World) (hxa : XR w5 (.agg #[.int .i64 a.f0, .int .i64 a.f1, .bool a.f2.f0, .slice A3a a.f2.f1.length c3a, .bool a.f2.f2, .slice A5a a.f2.f3.length c5a, .slice A6a a.f3.length c6a]) a) (hxb : XR w5 (.agg #[.int .i64 b.f0, .int .i64 b.f1, .bool b.f2.f0, .slice A3b b.f2.f1.length c3b, .bool b.f2.f2, .slice A5b b.f2.f3.length c5b, .slice A6b b.f3.length c6b]) b)
    (hS : ∀ w', Below w5.heap.size w5 w' → (Instr.loadAt 28 (.pointer (some ⟨A, 0, none⟩))).run Try.prog w' = .ok (.agg #[.int .i64 a.f0, .int .i64 a.f1, .bool a.f2.f0, .slice A3a a.f2.f1.length c3a, .bool a.f2.f2, .slice A5a a.f2.f3.length c5a, .slice A6a a.f3.length c6a]) w' ∧ (Instr.loadAt 28 (.pointer (some ⟨B, 0, none⟩))).run Try.prog w' = .ok (.agg #[.int .i64 b.f0, .int .i64 b.f1, .bool b.f2.f0, .slice A3b b.f2.f1.length c3b, .bool b.f2.f2, .slice A5b b.f2.f3.length c5b, .slice A6b b.f3.length c6b]) w')
    (V0 : Nat → Value) (h3 : V0 3 = .pointer (some ⟨A, 0, none⟩)) (h4 : V0 4 = .pointer (some ⟨B, 0, none⟩)) (Q : Exit → Act → World → Prop) (i : Nat) (g : Nat → Nat) (V : Nat → Value) (w : World) (hi : i < 13) (hG : Below w5.heap.size w5 w) (hV : ∀ k, (∀ i, i < 13 → k ≠ dst43 i) → V k = V0 k)
    (hL : ∀ j, j < 13 → bOn ops4_3 i j = true → Rel43 w5 a b (.agg #[.int .i64 a.f0, .int .i64 a.f1, .bool a.f2.f0, .slice A3a a.f2.f1.length c3a, .bool a.f2.f2, .slice A5a a.f2.f3.length c5a, .slice A6a a.f3.length c6a]) (.agg #[.int .i64 b.f0, .int .i64 b.f1, .bool b.f2.f0, .slice A3b b.f2.f1.length c3b, .bool b.f2.f2, .slice A5b b.f2.f3.length c5b, .slice A6b b.f3.length c6b]) [.int .i64 a.f0, .int .i64 a.f1, .bool a.f2.f0, .slice A3a a.f2.f1.length c3a, .bool a.f2.f2, .slice A5a a.f2.f3.length c5a, .slice A6a a.f3.length c6a, .int .i64 b.f0, .int .i64 b.f1, .bool b.f2.f0, .slice A3b b.f2.f1.length c3b, .bool b.f2.f2, .slice A5b b.f2.f3.length c5b, .slice A6b b.f3.length c6b] j g (V (dst43 j)) w) :
    wpOp Try.prog ops4_3 Q i (fun a' w' => ∃ g' v, a' = actV 106 (updV V (dst43 i) v) ∧ Below w5.heap.size w5 w' ∧ Rel43 w5 a b (.agg #[.int .i64 a.f0, .int .i64 a.f1, .bool a.f2.f0, .slice A3a a.f2.f1.length c3a, .bool a.f2.f2, .slice A5a a.f2.f3.length c5a, .slice A6a a.f3.length c6a]) (.agg #[.int .i64 b.f0, .int .i64 b.f1, .bool b.f2.f0, .slice A3b b.f2.f1.length c3b, .bool b.f2.f2, .slice A5b b.f2.f3.length c5b, .slice A6b b.f3.length c6b]) [.int .i64 a.f0, .int .i64 a.f1, .bool a.f2.f0, .slice A3a a.f2.f1.length c3a, .bool a.f2.f2, .slice A5a a.f2.f3.length c5a, .slice A6a a.f3.length c6a, .int .i64 b.f0, .int .i64 b.f1, .bool b.f2.f0, .slice A3b b.f2.f1.length c3b, .bool b.f2.f2, .slice A5b b.f2.f3.length c5b, .slice A6b b.f3.length c6b] i g' v w' ∧ Ext43 g w g' w') (actV 106 V) w := by
  have V3 : ∀ V : Nat → Value, (∀ k, (∀ i, i < 13 → k ≠ dst43 i) → V k = V0 k) → V 3 = .pointer (some ⟨A, 0, none⟩) := fun V hV => (hV 3 (by decide)).trans h3
  have V4 : ∀ V : Nat → Value, (∀ k, (∀ i, i < 13 → k ≠ dst43 i) → V k = V0 k) → V 4 = .pointer (some ⟨B, 0, none⟩) := fun V hV => (hV 4 (by decide)).trans h4
  rcases (by omega : i = 0 ∨ i = 1 ∨ i = 2 ∨ i = 3 ∨ i = 4 ∨ i = 5 ∨ i = 6 ∨ i = 7 ∨ i = 8 ∨ i = 9 ∨ i = 10 ∨ i = 11 ∨ i = 12) with rfl | rfl | rfl | rfl | rfl | rfl | rfl | rfl | rfl | rfl | rfl | rfl | rfl
  · -- 0
    refine op_val (op4_3 0) 36 (.agg #[.int .i64 a.f0, .int .i64 a.f1, .bool a.f2.f0, .slice A3a a.f2.f1.length c3a, .bool a.f2.f2, .slice A5a a.f2.f3.length c5a, .slice A6a a.f3.length c6a]) (by kernel_rfl) (by kernel_rfl) (by kernel_rfl) (ex_load (ty := 28) (x := .tmp 3) (p := .pointer (some ⟨A, 0, none⟩)) (by kernel_rfl) ?_ ((hS w hG).1)) ⟨g, _, actV_put _ _ _ _, hG, rfl, ext_below g (Below.refl _ _)⟩
    exact (show (actV 106 V).eval (.tmp 3) = V 3 by kernel_rfl).trans (V3 V hV)
  · -- 1
    refine op_val (op4_3 1) 37 (.agg #[.int .i64 b.f0, .int .i64 b.f1, .bool b.f2.f0, .slice A3b b.f2.f1.length c3b, .bool b.f2.f2, .slice A5b b.f2.f3.length c5b, .slice A6b b.f3.length c6b]) (by kernel_rfl) (by kernel_rfl) (by kernel_rfl) (ex_load (ty := 28) (x := .tmp 4) (p := .pointer (some ⟨B, 0, none⟩)) (by kernel_rfl) ?_ ((hS w hG).2)) ⟨g, _, actV_put _ _ _ _, hG, rfl, ext_below g (Below.refl _ _)⟩
    exact (show (actV 106 V).eval (.tmp 4) = V 4 by kernel_rfl).trans (V4 V hV)
  · -- 2
    have e0 : V 36 = .agg #[.int .i64 a.f0, .int .i64 a.f1, .bool a.f2.f0, .slice A3a a.f2.f1.length c3a, .bool a.f2.f2, .slice A5a a.f2.f3.length c5a, .slice A6a a.f3.length c6a] := hL 0 (by omega) (by kernel_rfl)
    have e1 : V 37 = .agg #[.int .i64 b.f0, .int .i64 b.f1, .bool b.f2.f0, .slice A3b b.f2.f1.length c3b, .bool b.f2.f2, .slice A5b b.f2.f3.length c5b, .slice A6b b.f3.length c6b] := hL 1 (by omega) (by kernel_rfl)
    have hx : (execOp (actV 106 V).eval (op4_3 2)).run Try.prog w = .ok (.value (.slice (some ⟨w.heap.size, 0, none⟩) 2 2)) (w.alloc (.cells #[.int .i64 a.f0, .int .i64 a.f1, .bool a.f2.f0, .slice A3a a.f2.f1.length c3a, .bool a.f2.f2, .slice A5a a.f2.f3.length c5a, .slice A6a a.f3.length c6a, .int .i64 b.f0, .int .i64 b.f1, .bool b.f2.f0, .slice A3b b.f2.f1.length c3b, .bool b.f2.f2, .slice A5b b.f2.f3.length c5b, .slice A6b b.f3.length c6b] 28)) := by
      refine ex_slice2 (t := 26) (n := 2) (x := .tmp 36) (y := .tmp 37) (by kernel_rfl) ((show (actV 106 V).eval (.tmp 36) = V 36 by kernel_rfl).trans e0) ((show (actV 106 V).eval (.tmp 37) = V 37 by kernel_rfl).trans e1) (build2 w)
    have hb := below_alloc (Below.refl w.heap.size w) (.cells #[.int .i64 a.f0, .int .i64 a.f1, .bool a.f2.f0, .slice A3a a.f2.f1.length c3a, .bool a.f2.f2, .slice A5a a.f2.f3.length c5a, .slice A6a a.f3.length c6a, .int .i64 b.f0, .int .i64 b.f1, .bool b.f2.f0, .slice A3b b.f2.f1.length c3b, .bool b.f2.f2, .slice A5b b.f2.f3.length c5b, .slice A6b b.f3.length c6b] 28)
    exact op_val (op4_3 2) 38 _ (by kernel_rfl) (by kernel_rfl) (by kernel_rfl) hx ⟨g, _, actV_put _ _ _ _, below_step hG hb, row_new, ext_below g hb⟩
  · -- 3
    obtain ⟨ad, e0, hc⟩ : Rel43 w5 a b (.agg #[.int .i64 a.f0, .int .i64 a.f1, .bool a.f2.f0, .slice A3a a.f2.f1.length c3a, .bool a.f2.f2, .slice A5a a.f2.f3.length c5a, .slice A6a a.f3.length c6a]) (.agg #[.int .i64 b.f0, .int .i64 b.f1, .bool b.f2.f0, .slice A3b b.f2.f1.length c3b, .bool b.f2.f2, .slice A5b b.f2.f3.length c5b, .slice A6b b.f3.length c6b]) [.int .i64 a.f0, .int .i64 a.f1, .bool a.f2.f0, .slice A3a a.f2.f1.length c3a, .bool a.f2.f2, .slice A5a a.f2.f3.length c5a, .slice A6a a.f3.length c6a, .int .i64 b.f0, .int .i64 b.f1, .bool b.f2.f0, .slice A3b b.f2.f1.length c3b, .bool b.f2.f2, .slice A5b b.f2.f3.length c5b, .slice A6b b.f3.length c6b] 2 g (V 38) w := hL 2 (by omega) (by kernel_rfl)
    have hx : (execOp (actV 106 V).eval (op4_3 3)).run Try.prog w = .ok (.enter 19 #[V 38]) w := by kernel_rfl
    rw [e0] at hx
    refine op_call (op4_3 3) 39 19 _ (by kernel_rfl) (by kernel_rfl) (by kernel_rfl) hx ((and_st (St := fun W => Below w5.heap.size w5 W) ad 2 [a, b] [.int .i64 a.f0, .int .i64 a.f1, .bool a.f2.f0, .slice A3a a.f2.f1.length c3a, .bool a.f2.f2, .slice A5a a.f2.f3.length c5a, .slice A6a a.f3.length c6a, .int .i64 b.f0, .int .i64 b.f1, .bool b.f2.f0, .slice A3b b.f2.f1.length c3b, .bool b.f2.f2, .slice A5b b.f2.f3.length c5b, .slice A6b b.f3.length c6b] w (by simp) hG (fun W hW => reps_two (hxa.below hW) (hxb.below hW)) hc).mono ?_)
    rintro e' w' ⟨u, rfl, hX, hb⟩
    exact ⟨u, rfl, _, u, actV_put _ _ _ _, below_step hG hb, made_new g hX, ext_new g hb⟩
  · -- 4
    refine op_val (op4_3 4) 40 (.agg #[.int .i64 a.f0, .int .i64 a.f1, .bool a.f2.f0, .slice A3a a.f2.f1.length c3a, .bool a.f2.f2, .slice A5a a.f2.f3.length c5a, .slice A6a a.f3.length c6a]) (by kernel_rfl) (by kernel_rfl) (by kernel_rfl) (ex_load (ty := 28) (x := .tmp 3) (p := .pointer (some ⟨A, 0, none⟩)) (by kernel_rfl) ?_ ((hS w hG).1)) ⟨g, _, actV_put _ _ _ _, hG, rfl, ext_below g (Below.refl _ _)⟩
    exact (show (actV 106 V).eval (.tmp 3) = V 3 by kernel_rfl).trans (V3 V hV)
  · -- 5
    refine op_val (op4_3 5) 41 (.agg #[.int .i64 b.f0, .int .i64 b.f1, .bool b.f2.f0, .slice A3b b.f2.f1.length c3b, .bool b.f2.f2, .slice A5b b.f2.f3.length c5b, .slice A6b b.f3.length c6b]) (by kernel_rfl) (by kernel_rfl) (by kernel_rfl) (ex_load (ty := 28) (x := .tmp 4) (p := .pointer (some ⟨B, 0, none⟩)) (by kernel_rfl) ?_ ((hS w hG).2)) ⟨g, _, actV_put _ _ _ _, hG, rfl, ext_below g (Below.refl _ _)⟩
    exact (show (actV 106 V).eval (.tmp 4) = V 4 by kernel_rfl).trans (V4 V hV)
  · -- 6
    have e0 : V 40 = .agg #[.int .i64 a.f0, .int .i64 a.f1, .bool a.f2.f0, .slice A3a a.f2.f1.length c3a, .bool a.f2.f2, .slice A5a a.f2.f3.length c5a, .slice A6a a.f3.length c6a] := hL 4 (by omega) (by kernel_rfl)
    have e1 : V 41 = .agg #[.int .i64 b.f0, .int .i64 b.f1, .bool b.f2.f0, .slice A3b b.f2.f1.length c3b, .bool b.f2.f2, .slice A5b b.f2.f3.length c5b, .slice A6b b.f3.length c6b] := hL 5 (by omega) (by kernel_rfl)
    have hx : (execOp (actV 106 V).eval (op4_3 6)).run Try.prog w = .ok (.value (.slice (some ⟨w.heap.size, 0, none⟩) 2 2)) (w.alloc (.cells #[.int .i64 a.f0, .int .i64 a.f1, .bool a.f2.f0, .slice A3a a.f2.f1.length c3a, .bool a.f2.f2, .slice A5a a.f2.f3.length c5a, .slice A6a a.f3.length c6a, .int .i64 b.f0, .int .i64 b.f1, .bool b.f2.f0, .slice A3b b.f2.f1.length c3b, .bool b.f2.f2, .slice A5b b.f2.f3.length c5b, .slice A6b b.f3.length c6b] 28)) := by
      refine ex_slice2 (t := 26) (n := 2) (x := .tmp 40) (y := .tmp 41) (by kernel_rfl) ((show (actV 106 V).eval (.tmp 40) = V 40 by kernel_rfl).trans e0) ((show (actV 106 V).eval (.tmp 41) = V 41 by kernel_rfl).trans e1) (build2 w)
    have hb := below_alloc (Below.refl w.heap.size w) (.cells #[.int .i64 a.f0, .int .i64 a.f1, .bool a.f2.f0, .slice A3a a.f2.f1.length c3a, .bool a.f2.f2, .slice A5a a.f2.f3.length c5a, .slice A6a a.f3.length c6a, .int .i64 b.f0, .int .i64 b.f1, .bool b.f2.f0, .slice A3b b.f2.f1.length c3b, .bool b.f2.f2, .slice A5b b.f2.f3.length c5b, .slice A6b b.f3.length c6b] 28)
    exact op_val (op4_3 6) 42 _ (by kernel_rfl) (by kernel_rfl) (by kernel_rfl) hx ⟨g, _, actV_put _ _ _ _, below_step hG hb, row_new, ext_below g hb⟩
  · -- 7
    obtain ⟨ad, e0, hc⟩ : Rel43 w5 a b (.agg #[.int .i64 a.f0, .int .i64 a.f1, .bool a.f2.f0, .slice A3a a.f2.f1.length c3a, .bool a.f2.f2, .slice A5a a.f2.f3.length c5a, .slice A6a a.f3.length c6a]) (.agg #[.int .i64 b.f0, .int .i64 b.f1, .bool b.f2.f0, .slice A3b b.f2.f1.length c3b, .bool b.f2.f2, .slice A5b b.f2.f3.length c5b, .slice A6b b.f3.length c6b]) [.int .i64 a.f0, .int .i64 a.f1, .bool a.f2.f0, .slice A3a a.f2.f1.length c3a, .bool a.f2.f2, .slice A5a a.f2.f3.length c5a, .slice A6a a.f3.length c6a, .int .i64 b.f0, .int .i64 b.f1, .bool b.f2.f0, .slice A3b b.f2.f1.length c3b, .bool b.f2.f2, .slice A5b b.f2.f3.length c5b, .slice A6b b.f3.length c6b] 6 g (V 42) w := hL 6 (by omega) (by kernel_rfl)
    have hx : (execOp (actV 106 V).eval (op4_3 7)).run Try.prog w = .ok (.enter 20 #[V 42]) w := by kernel_rfl
    rw [e0] at hx
    refine op_call (op4_3 7) 43 20 _ (by kernel_rfl) (by kernel_rfl) (by kernel_rfl) hx ((or_st (St := fun W => Below w5.heap.size w5 W) ad 2 [a, b] [.int .i64 a.f0, .int .i64 a.f1, .bool a.f2.f0, .slice A3a a.f2.f1.length c3a, .bool a.f2.f2, .slice A5a a.f2.f3.length c5a, .slice A6a a.f3.length c6a, .int .i64 b.f0, .int .i64 b.f1, .bool b.f2.f0, .slice A3b b.f2.f1.length c3b, .bool b.f2.f2, .slice A5b b.f2.f3.length c5b, .slice A6b b.f3.length c6b] w (by simp) hG (fun W hW => reps_two (hxa.below hW) (hxb.below hW)) hc).mono ?_)
    rintro e' w' ⟨u, rfl, hX, hb⟩
    exact ⟨u, rfl, _, u, actV_put _ _ _ _, below_step hG hb, made_new g hX, ext_new g hb⟩
  · -- 8
    refine op_val (op4_3 8) 44 (.agg #[.int .i64 a.f0, .int .i64 a.f1, .bool a.f2.f0, .slice A3a a.f2.f1.length c3a, .bool a.f2.f2, .slice A5a a.f2.f3.length c5a, .slice A6a a.f3.length c6a]) (by kernel_rfl) (by kernel_rfl) (by kernel_rfl) (ex_load (ty := 28) (x := .tmp 3) (p := .pointer (some ⟨A, 0, none⟩)) (by kernel_rfl) ?_ ((hS w hG).1)) ⟨g, _, actV_put _ _ _ _, hG, rfl, ext_below g (Below.refl _ _)⟩
    exact (show (actV 106 V).eval (.tmp 3) = V 3 by kernel_rfl).trans (V3 V hV)
  · -- 9
    have e0 : V 44 = .agg #[.int .i64 a.f0, .int .i64 a.f1, .bool a.f2.f0, .slice A3a a.f2.f1.length c3a, .bool a.f2.f2, .slice A5a a.f2.f3.length c5a, .slice A6a a.f3.length c6a] := hL 8 (by omega) (by kernel_rfl)
    have hx : (execOp (actV 106 V).eval (op4_3 9)).run Try.prog w = .ok (.enter 21 #[V 44]) w := by kernel_rfl
    rw [e0] at hx
    refine op_call (op4_3 9) 45 21 _ (by kernel_rfl) (by kernel_rfl) (by kernel_rfl) hx ((not_st (St := fun W => Below w5.heap.size w5 W) a _ w hG (fun W hW => hxa.below hW)).mono ?_)
    rintro e' w' ⟨u, rfl, hX, hb⟩
    exact ⟨u, rfl, _, u, actV_put _ _ _ _, below_step hG hb, made_new g hX, ext_new g hb⟩
  · -- 10
    have hx : (execOp (actV 106 V).eval (op4_3 10)).run Try.prog w = .ok (.value (.pointer (some ⟨w.heap.size, 0, none⟩))) (w.alloc (.cells #[.int .i64 0, .int .i64 0, .bool false, .slice none 0 0, .bool false, .slice none 0 0, .slice none 0 0] 28)) := by kernel_rfl
    have he := ext_alloc g w (.cells #[.int .i64 0, .int .i64 0, .bool false, .slice none 0 0, .bool false, .slice none 0 0, .slice none 0 0] 28) 10
    exact op_val (op4_3 10) 7 _ (by kernel_rfl) (by kernel_rfl) (by kernel_rfl) hx ⟨(fun k => if k = w.heap.size then 10 else g k), _, actV_put _ _ _ _, below_step hG he.1, ⟨w.heap.size, rfl, if_pos rfl, hG.size, heap_alloc_new w _⟩, he⟩
  · -- 11
    have hx : (execOp (actV 106 V).eval (op4_3 11)).run Try.prog w = .ok (.value (.pointer (some ⟨w.heap.size, 0, none⟩))) (w.alloc (.cells #[.int .i64 0, .int .i64 0, .bool false, .slice none 0 0, .bool false, .slice none 0 0, .slice none 0 0] 28)) := by kernel_rfl
    have he := ext_alloc g w (.cells #[.int .i64 0, .int .i64 0, .bool false, .slice none 0 0, .bool false, .slice none 0 0, .slice none 0 0] 28) 11
    exact op_val (op4_3 11) 8 _ (by kernel_rfl) (by kernel_rfl) (by kernel_rfl) hx ⟨(fun k => if k = w.heap.size then 11 else g k), _, actV_put _ _ _ _, below_step hG he.1, ⟨w.heap.size, rfl, if_pos rfl, hG.size, heap_alloc_new w _⟩, he⟩
  · -- 12
    have hx : (execOp (actV 106 V).eval (op4_3 12)).run Try.prog w = .ok (.value (.pointer (some ⟨w.heap.size, 0, none⟩))) (w.alloc (.cells #[.int .i64 0, .int .i64 0, .bool false, .slice none 0 0, .bool false, .slice none 0 0, .slice none 0 0] 28)) := by kernel_rfl
    have he := ext_alloc g w (.cells #[.int .i64 0, .int .i64 0, .bool false, .slice none 0 0, .bool false, .slice none 0 0, .slice none 0 0] 28) 12
    exact op_val (op4_3 12) 9 _ (by kernel_rfl) (by kernel_rfl) (by kernel_rfl) hx ⟨(fun k => if k = w.heap.size then 12 else g k), _, actV_put _ _ _ _, below_step hG he.1, ⟨w.heap.size, rfl, if_pos rfl, hG.size, heap_alloc_new w _⟩, he⟩
theorem ex_store {P : Program} {o : Oper} {a : Act} {w w1 : World} {v p : Value} {t : TypeId} {x y : Operand} (ho : o.op = .store t x y) (hx : a.eval x = p) (hy : a.eval y = v) (h : (Instr.storeAt t p v).run P w = .ok () w1) : (execOp a.eval o).run P w = .ok .skip w1 := by
  unfold execOp
  simp only [ho, hx, hy, Sem.run_bind, h, Result.andThen_ok, Sem.run_pure]
theorem store_node {w : World} {b : Nat} {cur cs : Array Value} (h : w.heap[b]? = some (.cells cur 28 (0, 0))) (hs : cur.size = 7) (hc : cs.size = 7) (h1 : cs.all (·.oneCell') = true) : ∃ w1, (Instr.storeAt 28 (.pointer (some ⟨b, 0, none⟩)) (.agg cs)).run Try.prog w = .ok () w1 ∧ w1.heap[b]? = some (.cells cs 28 (0, 0)) ∧ (∀ k, k ≠ b → w1.heap[k]? = w.heap[k]?) ∧ (∀ (B : Nat) (w0 : World), Below B w0 w → B ≤ b → Below B w0 w1) := by
  have hth : w.there b 0 cs.size := fun j hj => by
    rw [Nat.zero_add]
    refine ⟨?_, blk_frozen h j⟩
    rw [blk_cell h j]
    have : j < cur.size := by omega
    simp [this]
  refine ⟨w.setCells b 0 cs.toList, run_storeAt_mid w b 0 28 cs hth (by rw [hc]; kernel_rfl) h1, ?_, fun k hk => setCells_far cs.toList 0 k hk, fun B w0 hB hb => ?_⟩
  · obtain ⟨cur', e1, e2, e3⟩ := setCells_row cs.toList 0 w cur h (by simp; omega)
    rw [e1]
    congr 2
    apply Array.ext'
    rw [e3]
    simp [hc, hs]
  · obtain ⟨s1, s2, s3, s4⟩ := setCells_same b cs.toList 0 w
    exact ⟨s1.trans hB.os, s2.trans hB.tape, s3.trans hB.output, by rw [s4]; exact hB.size, fun k hk => (setCells_far cs.toList 0 k (by omega)).trans (hB.block k hk)⟩
theorem xr_agg {w : World} {v : Value} {x : S28} (h : XR w v x) : ∃ cs : Array Value, v = .agg cs ∧ cs.size = 7 ∧ cs.all (·.oneCell') = true := by
  obtain ⟨A3, c3, A5, c5, A6, c6, rfl, _⟩ := h
  exact ⟨_, rfl, rfl, by kernel_rfl⟩
def isd43 (k : Nat) : Bool := [36, 37, 38, 39, 40, 41, 42, 43, 44, 45, 7, 8, 9].contains k
set_option maxHeartbeats 4000000 in
set_option maxRecDepth 100000 in
theorem r4_3 {a b : S28} {A3a A5a A6a A3b A5b A6b : Option Addr} {c3a c5a c6a c3b c5b c6b : Nat} (A B : Nat) (w5 : World) (Q : Exit → Act → World → Prop) (hxa : XR w5 (.agg #[.int .i64 a.f0, .int .i64 a.f1, .bool a.f2.f0, .slice A3a a.f2.f1.length c3a, .bool a.f2.f2, .slice A5a a.f2.f3.length c5a, .slice A6a a.f3.length c6a]) a) (hxb : XR w5 (.agg #[.int .i64 b.f0, .int .i64 b.f1, .bool b.f2.f0, .slice A3b b.f2.f1.length c3b, .bool b.f2.f2, .slice A5b b.f2.f3.length c5b, .slice A6b b.f3.length c6b]) b)
    (hS : ∀ w', Below w5.heap.size w5 w' → (Instr.loadAt 28 (.pointer (some ⟨A, 0, none⟩))).run Try.prog w' = .ok (.agg #[.int .i64 a.f0, .int .i64 a.f1, .bool a.f2.f0, .slice A3a a.f2.f1.length c3a, .bool a.f2.f2, .slice A5a a.f2.f3.length c5a, .slice A6a a.f3.length c6a]) w' ∧ (Instr.loadAt 28 (.pointer (some ⟨B, 0, none⟩))).run Try.prog w' = .ok (.agg #[.int .i64 b.f0, .int .i64 b.f1, .bool b.f2.f0, .slice A3b b.f2.f1.length c3b, .bool b.f2.f2, .slice A5b b.f2.f3.length c5b, .slice A6b b.f3.length c6b]) w')
    (c0 c1 c2 c5 c6 c7 c8 c9 c10 c11 c12 c13 c14 c15 c16 c17 c18 c19 c20 c21 c22 c23 c24 c25 c26 c27 c28 c29 c30 c31 c32 c33 c34 c35 c36 c37 c38 c39 c40 c41 c42 c43 c44 c45 c46 c47 c48 c49 c50 c51 c52 c53 c54 c55 c56 c57 c58 c59 c60 c61 c62 c63 c64 c65 c66 c67 c68 c69 c70 c71 c72 c73 c74 c75 c76 c77 c78 c79 c80 c81 c82 c83 c84 c85 c86 c87 c88 c89 c90 c91 c92 c93 c94 c95 c96 c97 c98 c99 c100 c101 c102 c103 c104 c105 : Value)
    (hQ : ∀ (u36 u37 u38 u39 u40 u41 u42 u43 u44 u45 : Value) (bx bb bz : Nat) (cx cb cz : Array Value) (w6 : World), Below w5.heap.size w5 w6 → w6.heap[bx]? = some (.cells cx 28 (0, 0)) → w6.heap[bb]? = some (.cells cb 28 (0, 0)) → w6.heap[bz]? = some (.cells cz 28 (0, 0)) →
      XR w6 (.agg cx) ⟨2, 0, s0, [a, b]⟩ → XR w6 (.agg cb) ⟨3, 0, s0, [a, b]⟩ → XR w6 (.agg cz) ⟨4, 0, s0, [a]⟩ → Q .normal ⟨#[c0, c1, c2, .pointer (some ⟨A, 0, none⟩), .pointer (some ⟨B, 0, none⟩), c5, c6, .pointer (some ⟨bx, 0, none⟩), .pointer (some ⟨bb, 0, none⟩), .pointer (some ⟨bz, 0, none⟩), c10, c11, c12, c13, c14, c15, c16, c17, c18, c19, c20, c21, c22, c23, c24, c25, c26, c27, c28, c29, c30, c31, c32, c33, c34, c35, u36, u37, u38, u39, u40, u41, u42, u43, u44, u45, c46, c47, c48, c49, c50, c51, c52, c53, c54, c55, c56, c57, c58, c59, c60, c61, c62, c63, c64, c65, c66, c67, c68, c69, c70, c71, c72, c73, c74, c75, c76, c77, c78, c79, c80, c81, c82, c83, c84, c85, c86, c87, c88, c89, c90, c91, c92, c93, c94, c95, c96, c97, c98, c99, c100, c101, c102, c103, c104, c105], []⟩ w6) : Code.wp Try.prog reg4_3 Q ⟨#[c0, c1, c2, .pointer (some ⟨A, 0, none⟩), .pointer (some ⟨B, 0, none⟩), c5, c6, c7, c8, c9, c10, c11, c12, c13, c14, c15, c16, c17, c18, c19, c20, c21, c22, c23, c24, c25, c26, c27, c28, c29, c30, c31, c32, c33, c34, c35, c36, c37, c38, c39, c40, c41, c42, c43, c44, c45, c46, c47, c48, c49, c50, c51, c52, c53, c54, c55, c56, c57, c58, c59, c60, c61, c62, c63, c64, c65, c66, c67, c68, c69, c70, c71, c72, c73, c74, c75, c76, c77, c78, c79, c80, c81, c82, c83, c84, c85, c86, c87, c88, c89, c90, c91, c92, c93, c94, c95, c96, c97, c98, c99, c100, c101, c102, c103, c104, c105], []⟩ w5 := by
  obtain ⟨V0, hV0⟩ : ∃ V0 : Nat → Value, V0 = fun k => (#[c0, c1, c2, .pointer (some ⟨A, 0, none⟩), .pointer (some ⟨B, 0, none⟩), c5, c6, c7, c8, c9, c10, c11, c12, c13, c14, c15, c16, c17, c18, c19, c20, c21, c22, c23, c24, c25, c26, c27, c28, c29, c30, c31, c32, c33, c34, c35, c36, c37, c38, c39, c40, c41, c42, c43, c44, c45, c46, c47, c48, c49, c50, c51, c52, c53, c54, c55, c56, c57, c58, c59, c60, c61, c62, c63, c64, c65, c66, c67, c68, c69, c70, c71, c72, c73, c74, c75, c76, c77, c78, c79, c80, c81, c82, c83, c84, c85, c86, c87, c88, c89, c90, c91, c92, c93, c94, c95, c96, c97, c98, c99, c100, c101, c102, c103, c104, c105] : Array Value).getD k undef := ⟨_, rfl⟩
  have e0 : (⟨#[c0, c1, c2, .pointer (some ⟨A, 0, none⟩), .pointer (some ⟨B, 0, none⟩), c5, c6, c7, c8, c9, c10, c11, c12, c13, c14, c15, c16, c17, c18, c19, c20, c21, c22, c23, c24, c25, c26, c27, c28, c29, c30, c31, c32, c33, c34, c35, c36, c37, c38, c39, c40, c41, c42, c43, c44, c45, c46, c47, c48, c49, c50, c51, c52, c53, c54, c55, c56, c57, c58, c59, c60, c61, c62, c63, c64, c65, c66, c67, c68, c69, c70, c71, c72, c73, c74, c75, c76, c77, c78, c79, c80, c81, c82, c83, c84, c85, c86, c87, c88, c89, c90, c91, c92, c93, c94, c95, c96, c97, c98, c99, c100, c101, c102, c103, c104, c105], []⟩ : Act) = actV 106 V0 := by rw [hV0]; kernel_rfl
  rw [e0, reg4_3_is]
  refine region_inv (id := 3) 16 13 106 dst43 (fun _ w => Below w5.heap.size w5 w) (Rel43 w5 a b (.agg #[.int .i64 a.f0, .int .i64 a.f1, .bool a.f2.f0, .slice A3a a.f2.f1.length c3a, .bool a.f2.f2, .slice A5a a.f2.f3.length c5a, .slice A6a a.f3.length c6a]) (.agg #[.int .i64 b.f0, .int .i64 b.f1, .bool b.f2.f0, .slice A3b b.f2.f1.length c3b, .bool b.f2.f2, .slice A5b b.f2.f3.length c5b, .slice A6b b.f3.length c6b]) [.int .i64 a.f0, .int .i64 a.f1, .bool a.f2.f0, .slice A3a a.f2.f1.length c3a, .bool a.f2.f2, .slice A5a a.f2.f3.length c5a, .slice A6a a.f3.length c6a, .int .i64 b.f0, .int .i64 b.f1, .bool b.f2.f0, .slice A3b b.f2.f1.length c3b, .bool b.f2.f2, .slice A5b b.f2.f3.length c5b, .slice A6b b.f3.length c6b]) V0 (by kernel_rfl) (by kernel_rfl) (by omega) (by kernel_rfl) Ext43 (fun _ => 0) ((Below.refl _ _).drew) (fun i g v w g' w' hi h he => Rel43.ext i g v w g' w' hi h he) (fun i g V w hi hG hV hL => steps43 A B w5 hxa hxb hS V0 (by rw [hV0]; rfl) (by rw [hV0]; rfl) Q i g V w hi hG hV hL) ?_
  intro g V w hG hV hL
  obtain ⟨b7, e7, g7, k7, h7⟩ : NewAt w5.heap.size g 10 (V 7) w := hL 10 (by omega)
  obtain ⟨b8, e8, g8, k8, h8⟩ : NewAt w5.heap.size g 11 (V 8) w := hL 11 (by omega)
  obtain ⟨b9, e9, g9, k9, h9⟩ : NewAt w5.heap.size g 12 (V 9) w := hL 12 (by omega)
  obtain ⟨l1, r1, X1, n1, z1⟩ : MadeX w5 ⟨2, 0, s0, [a, b]⟩ g (V 39) w := hL 3 (by omega)
  obtain ⟨l2, r2, X2, n2, z2⟩ : MadeX w5 ⟨3, 0, s0, [a, b]⟩ g (V 43) w := hL 7 (by omega)
  obtain ⟨l3, r3, X3, n3, z3⟩ : MadeX w5 ⟨4, 0, s0, [a]⟩ g (V 45) w := hL 9 (by omega)
  obtain ⟨cx, d1, s1, o1⟩ := xr_agg (X1 w hG (fun _ _ _ => rfl))
  obtain ⟨cb, d2, s2, o2⟩ := xr_agg (X2 w hG (fun _ _ _ => rfl))
  obtain ⟨cz, d3, s3, o3⟩ := xr_agg (X3 w hG (fun _ _ _ => rfl))
  have n78 : b8 ≠ b7 := by intro h; rw [h, g7] at g8; cases g8
  have n79 : b9 ≠ b7 := by intro h; rw [h, g7] at g9; cases g9
  have n89 : b9 ≠ b8 := by intro h; rw [h, g8] at g9; cases g9
  obtain ⟨w1, t1, a1, f1, B1⟩ := store_node (cs := cx) h7 rfl s1 o1
  obtain ⟨w2, t2, a2, f2, B2⟩ := store_node (w := w1) (cs := cb) ((f1 b8 n78).trans h8) rfl s2 o2
  obtain ⟨w3, t3, a3, f3, B3⟩ := store_node (w := w2) (cs := cz) ((f2 b9 n89).trans ((f1 b9 n79).trans h9)) rfl s3 o3
  have hB3 := B3 _ _ (B2 _ _ (B1 _ _ hG k7) k8) k9
  have fz : ∀ k, g k = 0 → w3.heap[k]? = w.heap[k]? := fun k hk => by
    have q7 : k ≠ b7 := by intro h; rw [h, g7] at hk; cases hk
    have q8 : k ≠ b8 := by intro h; rw [h, g8] at hk; cases hk
    have q9 : k ≠ b9 := by intro h; rw [h, g9] at hk; cases hk
    exact (f3 k q9).trans ((f2 k q8).trans (f1 k q7))
  refine any_one (i := 13) (fuel := 2) (by kernel_rfl) (op_none (op4_3 13) (by kernel_rfl) (by kernel_rfl) (by kernel_rfl) (ex_store (t := 28) (x := .tmp 7) (y := .tmp 39) (by kernel_rfl) ((show (actV 106 V).eval (.tmp 7) = V 7 by kernel_rfl).trans e7) ((show (actV 106 V).eval (.tmp 39) = V 39 by kernel_rfl).trans d1) t1) ?_)
  refine any_one (i := 14) (fuel := 1) (by kernel_rfl) (op_none (op4_3 14) (by kernel_rfl) (by kernel_rfl) (by kernel_rfl) (ex_store (t := 28) (x := .tmp 8) (y := .tmp 43) (by kernel_rfl) ((show (actV 106 V).eval (.tmp 8) = V 8 by kernel_rfl).trans e8) ((show (actV 106 V).eval (.tmp 43) = V 43 by kernel_rfl).trans d2) t2) ?_)
  refine any_one (i := 15) (fuel := 0) (by kernel_rfl) (op_none (op4_3 15) (by kernel_rfl) (by kernel_rfl) (by kernel_rfl) (ex_store (t := 28) (x := .tmp 9) (y := .tmp 45) (by kernel_rfl) ((show (actV 106 V).eval (.tmp 9) = V 9 by kernel_rfl).trans e9) ((show (actV 106 V).eval (.tmp 45) = V 45 by kernel_rfl).trans d3) t3) ?_)
  refine any_done (by kernel_rfl) ?_
  have hdst : ∀ i, i < 13 → isd43 (dst43 i) = true := by decide
  have eV : V = fun k => if isd43 k = true then V k else V0 k := funext fun k => by
    by_cases h : isd43 k = true
    · rw [if_pos h]
    · rw [if_neg h]; exact hV k (fun i hi e => h (by rw [e]; exact hdst i hi))
  have e1 : actV 106 V = ⟨#[c0, c1, c2, .pointer (some ⟨A, 0, none⟩), .pointer (some ⟨B, 0, none⟩), c5, c6, V 7, V 8, V 9, c10, c11, c12, c13, c14, c15, c16, c17, c18, c19, c20, c21, c22, c23, c24, c25, c26, c27, c28, c29, c30, c31, c32, c33, c34, c35, V 36, V 37, V 38, V 39, V 40, V 41, V 42, V 43, V 44, V 45, c46, c47, c48, c49, c50, c51, c52, c53, c54, c55, c56, c57, c58, c59, c60, c61, c62, c63, c64, c65, c66, c67, c68, c69, c70, c71, c72, c73, c74, c75, c76, c77, c78, c79, c80, c81, c82, c83, c84, c85, c86, c87, c88, c89, c90, c91, c92, c93, c94, c95, c96, c97, c98, c99, c100, c101, c102, c103, c104, c105], []⟩ := by
    have : actV 106 (fun k => if isd43 k = true then V k else V0 k) = ⟨#[c0, c1, c2, .pointer (some ⟨A, 0, none⟩), .pointer (some ⟨B, 0, none⟩), c5, c6, V 7, V 8, V 9, c10, c11, c12, c13, c14, c15, c16, c17, c18, c19, c20, c21, c22, c23, c24, c25, c26, c27, c28, c29, c30, c31, c32, c33, c34, c35, V 36, V 37, V 38, V 39, V 40, V 41, V 42, V 43, V 44, V 45, c46, c47, c48, c49, c50, c51, c52, c53, c54, c55, c56, c57, c58, c59, c60, c61, c62, c63, c64, c65, c66, c67, c68, c69, c70, c71, c72, c73, c74, c75, c76, c77, c78, c79, c80, c81, c82, c83, c84, c85, c86, c87, c88, c89, c90, c91, c92, c93, c94, c95, c96, c97, c98, c99, c100, c101, c102, c103, c104, c105], []⟩ := by rw [hV0]; kernel_rfl
    rw [← eV] at this
    exact this
  rw [e1, e7, e8, e9]
  exact hQ _ _ _ _ _ _ _ _ _ _ b7 b8 b9 cx cb cz w3 hB3 ((f3 b7 n79.symm).trans ((f2 b7 n78.symm).trans a1)) ((f3 b8 n89.symm).trans a2) a3 (d1 ▸ X1 w3 hB3 (fun k hl hr => fz k (z1 k hl hr))) (d2 ▸ X2 w3 hB3 (fun k hl hr => fz k (z2 k hl hr))) (d3 ▸ X3 w3 hB3 (fun k hl hr => fz k (z3 k hl hr)))
end Go.Proofs.Ytjkhajcngapjcaa.Q
