/- ExprTwice: the seven expressions, made in whatever order; printed by gen_r64.py. -/
import Derived.Test.YtjkhajcngapjcaaHI
import Derived.Test.YtjkhajcngapjcaaHP
import Derived.Test.YtjkhajcngapjcaaEK
import Derived.Test.YtjkhajcngapjcaaEL
import Derived.Test.YtjkhajcngapjcaaEW
namespace Go.Proofs.Ytjkhajcngapjcaa.Q
open Go.RowKit Go.Proofs.YtjkhajcngapjcaaW.PrintWords Go.Proofs.YtjkhajcngapjcaaW.PrintLast Go.Proofs.YtjkhajcngapjcaaW.PrintMore
set_option linter.unusedVariables false

/-- The region 4. -/
noncomputable def reg6_4 : Code := (Try.f6.body.bind (regAt 4)).getD .skip
noncomputable def ops6_4 : Array Oper := opsOf reg6_4
noncomputable def op6_4 (k : Nat) : Oper := (ops6_4[k]?).getD ⟨none, .move (.tmp 0), 0, "", #[], none⟩
theorem reg6_4_is : reg6_4 = .region 4 ops6_4 true := by kernel_rfl

/-- The seven. -/
def twice (x : S28) : List S28 := [⟨4, 0, s0, [⟨4, 0, s0, [x]⟩]⟩, ⟨2, 0, s0, [x, xAnd]⟩, ⟨3, 0, s0, [xOr, x]⟩, ⟨2, 0, s0, [x, x]⟩, ⟨3, 0, s0, [x, x]⟩, ⟨2, 0, s0, [x]⟩, ⟨3, 0, s0, [x]⟩]
def RowX (n : Nat) (xs : List S28) (v : Value) (w : World) : Prop := ∃ ad, v = .slice (some ad) n n ∧ k28.C w (some ad) n xs
def dst64 (i : Nat) : Nat := #[24, 25, 26, 27, 28, 29, 30, 31, 32, 33, 34, 35, 36, 37, 38, 39, 40, 41, 42, 43, 44, 45, 46, 47, 48, 49, 50, 51].getD i 999
def isd64 (k : Nat) : Bool := [24, 25, 26, 27, 28, 29, 30, 31, 32, 33, 34, 35, 36, 37, 38, 39, 40, 41, 42, 43, 44, 45, 46, 47, 48, 49, 50, 51].contains k
def Rel64 (x : S28) (vx : Value) : Nat → Unit → Value → World → Prop
  | 0, _, v, w => v = vx
  | 1, _, v, w => XR w v ⟨4, 0, s0, [x]⟩
  | 2, _, v, w => XR w v ⟨4, 0, s0, [⟨4, 0, s0, [x]⟩]⟩
  | 3, _, v, w => v = vx
  | 4, _, v, w => v = .agg #[.int .i64 2, .int .i64 0, .bool false, .slice none 0 0, .bool false, .slice none 0 0, .slice none 0 0]
  | 5, _, v, w => RowX 2 [x, xAnd] v w
  | 6, _, v, w => XR w v ⟨2, 0, s0, [x, xAnd]⟩
  | 7, _, v, w => v = .agg #[.int .i64 3, .int .i64 0, .bool false, .slice none 0 0, .bool false, .slice none 0 0, .slice none 0 0]
  | 8, _, v, w => v = vx
  | 9, _, v, w => RowX 2 [xOr, x] v w
  | 10, _, v, w => XR w v ⟨3, 0, s0, [xOr, x]⟩
  | 11, _, v, w => v = vx
  | 12, _, v, w => v = vx
  | 13, _, v, w => RowX 2 [x, x] v w
  | 14, _, v, w => XR w v ⟨2, 0, s0, [x, x]⟩
  | 15, _, v, w => v = vx
  | 16, _, v, w => v = vx
  | 17, _, v, w => RowX 2 [x, x] v w
  | 18, _, v, w => XR w v ⟨3, 0, s0, [x, x]⟩
  | 19, _, v, w => v = vx
  | 20, _, v, w => RowX 1 [x] v w
  | 21, _, v, w => XR w v ⟨2, 0, s0, [x]⟩
  | 22, _, v, w => v = vx
  | 23, _, v, w => RowX 1 [x] v w
  | 24, _, v, w => XR w v ⟨3, 0, s0, [x]⟩
  | 25, _, v, w => RowX 7 (twice x) v w
  | 26, _, v, w => v = .int .i64 7
  | 27, _, v, w => v = .int .i64 0
  | _, _, _, _ => True
def Ext64 (_ : Unit) (w : World) (_ : Unit) (w' : World) : Prop := Below w.heap.size w w'
theorem RowX.below {n : Nat} {xs : List S28} {v : Value} {w w' : World} (h : RowX n xs v w) (hb : Below w.heap.size w w') : RowX n xs v w' := by
  obtain ⟨ad, e, hc⟩ := h; exact ⟨ad, e, Kd.C_below hc hb⟩
theorem Rel64.ext {x : S28} {vx : Value} (i : Nat) (g : Unit) (v : Value) (w : World) (g' : Unit) (w' : World) (hi : i < 28) (h : Rel64 x vx i g v w) (he : Ext64 g w g' w') : Rel64 x vx i g' v w' := by
  rcases (by omega : i = 0 ∨ i = 1 ∨ i = 2 ∨ i = 3 ∨ i = 4 ∨ i = 5 ∨ i = 6 ∨ i = 7 ∨ i = 8 ∨ i = 9 ∨ i = 10 ∨ i = 11 ∨ i = 12 ∨ i = 13 ∨ i = 14 ∨ i = 15 ∨ i = 16 ∨ i = 17 ∨ i = 18 ∨ i = 19 ∨ i = 20 ∨ i = 21 ∨ i = 22 ∨ i = 23 ∨ i = 24 ∨ i = 25 ∨ i = 26 ∨ i = 27) with rfl | rfl | rfl | rfl | rfl | rfl | rfl | rfl | rfl | rfl | rfl | rfl | rfl | rfl | rfl | rfl | rfl | rfl | rfl | rfl | rfl | rfl | rfl | rfl | rfl | rfl | rfl | rfl
  · exact h
  · exact XR.below h he
  · exact XR.below h he
  · exact h
  · exact h
  · exact RowX.below h he
  · exact XR.below h he
  · exact h
  · exact h
  · exact RowX.below h he
  · exact XR.below h he
  · exact h
  · exact h
  · exact RowX.below h he
  · exact XR.below h he
  · exact h
  · exact h
  · exact RowX.below h he
  · exact XR.below h he
  · exact h
  · exact RowX.below h he
  · exact XR.below h he
  · exact h
  · exact RowX.below h he
  · exact XR.below h he
  · exact RowX.below h he
  · exact h
  · exact h
/-- Several parts, one behind the other in a block. -/
theorem flat_at : ∀ (css : List (List Value)) (j i : Nat) (cs : List Value), (∀ c, c ∈ css → c.length = 7) → css[j]? = some cs → i < 7 → css.flatten[j * 7 + i]? = cs[i]?
  | [], j, i, cs, _, h, _ => by simp at h
  | c :: t, 0, i, cs, hl, h, hi => by
    have : c = cs := by simpa using h
    subst this
    have hc := hl c List.mem_cons_self
    rw [List.flatten_cons, Nat.zero_mul, Nat.zero_add, List.getElem?_append_left (by omega)]
  | c :: t, j + 1, i, cs, hl, h, hi => by
    have hc := hl c List.mem_cons_self
    rw [List.flatten_cons, List.getElem?_append_right (by omega), show (j + 1) * 7 + i - c.length = j * 7 + i by omega]
    exact flat_at t j i cs (fun c h => hl c (List.mem_cons_of_mem _ h)) (by simpa using h) hi
theorem C28_row {w : World} {b : Nat} {t : TypeId} (css : List (List Value)) (xs : List S28) (h : w.heap[b]? = some (.cells ⟨css.flatten⟩ t (0, 0))) (hl : css.length = xs.length) (h7 : xs.length ≤ 140737488355328) (hx : ∀ (j : Nat) (cs : List Value) (x : S28), css[j]? = some cs → xs[j]? = some x → XR w (.agg ⟨cs⟩) x) : k28.C w (some ⟨b, 0, none⟩) xs.length xs := by
  have hlen : ∀ c, c ∈ css → c.length = 7 := fun c hc => by
    obtain ⟨j, hj, rfl⟩ := List.mem_iff_getElem.1 hc
    obtain ⟨A3, c3, A5, c5, A6, c6, he, _⟩ := hx j _ _ (List.getElem?_eq_getElem hj) (List.getElem?_eq_getElem (by omega : j < xs.length))
    injection he with he
    have := congrArg Array.size he
    simpa using this
  refine ⟨rfl, by omega, fun _ => ⟨⟨b, 0, none⟩, rfl, fun j p hj => ?_⟩⟩
  have hjl : j < xs.length := (List.getElem?_eq_some_iff.1 hj).1
  have hcj := List.getElem?_eq_getElem (by omega : j < css.length)
  obtain ⟨A3, c3, A5, c5, A6, c6, he, l3, g3, l5, g5, l6, g6⟩ := hx j _ p hcj hj
  injection he with he
  have he' := congrArg Array.toList he
  refine ⟨_, rfl, k28_mk w p l3 g3 l5 g5 l6 g6, fun i u hu => ?_⟩
  have hi : i < 7 := (List.getElem?_eq_some_iff.1 hu).1
  rw [add_plain, blk_cell h]
  rw [show j * k28.sz + i = j * 7 + i from rfl, List.getElem?_toArray]
  rw [flat_at css j i _ hlen hcj hi]
  show (css[j]).toArray.toList[i]? = some u
  rw [he']
  exact hu
theorem ex_slices {P : Program} {o : Oper} {a : Act} {w w1 : World} {v : Value} {t : TypeId} {n : Nat} {parts : Array (Nat × Operand)} {vals : Array (Nat × Value)} (ho : o.op = .buildSlice t n parts) (hx : (parts.map fun (i, x) => (i, a.eval x)) = vals) (h : (Instr.buildSlice t n vals).run P w = .ok v w1) : (execOp a.eval o).run P w = .ok (.value v) w1 := by
  unfold execOp
  simp only [ho, hx, Sem.run_bind, h, Result.andThen_ok, Sem.run_pure]
theorem ex_builtin {P : Program} {o : Oper} {a : Act} {w : World} {b : Builtin} {x : Operand} {p : Value} {ats : Array TypeId} {r : Result Next} (ho : o.op = .call { callee := .builtin b, args := #[x], argTypes := ats }) (hx : a.eval x = p)
    (h : (invoke (.builtin b ats o.type #[(match (generalizing := false) x with | .const _ => true | _ => false)]) #[p]).run P w = r) : (execOp a.eval o).run P w = r := by
  unfold execOp
  simp only [ho, resolve, List.map_toArray, List.map_cons, List.map_nil, hx, Sem.run_bind, Sem.run_pure, Result.andThen_ok]
  exact h

set_option maxHeartbeats 4000000 in
set_option maxRecDepth 100000 in
theorem steps64 {x : S28} {A3x A5x A6x : Option Addr} {c3x c5x c6x : Nat} (A : Nat) (w5 : World) (hxa : XR w5 (.agg #[.int .i64 x.f0, .int .i64 x.f1, .bool x.f2.f0, .slice A3x x.f2.f1.length c3x, .bool x.f2.f2, .slice A5x x.f2.f3.length c5x, .slice A6x x.f3.length c6x]) x) (hS : ∀ w', Below w5.heap.size w5 w' → (Instr.loadAt 28 (.pointer (some ⟨A, 0, none⟩))).run Try.prog w' = .ok (.agg #[.int .i64 x.f0, .int .i64 x.f1, .bool x.f2.f0, .slice A3x x.f2.f1.length c3x, .bool x.f2.f2, .slice A5x x.f2.f3.length c5x, .slice A6x x.f3.length c6x]) w')
    (V0 : Nat → Value) (h2 : V0 2 = .pointer (some ⟨A, 0, none⟩)) (Q : Exit → Act → World → Prop) (i : Nat) (g : Unit) (V : Nat → Value) (w : World) (hi : i < 28) (hG : Below w5.heap.size w5 w) (hV : ∀ k, (∀ i, i < 28 → k ≠ dst64 i) → V k = V0 k)
    (hL : ∀ j, j < 28 → bOn ops6_4 i j = true → Rel64 x (.agg #[.int .i64 x.f0, .int .i64 x.f1, .bool x.f2.f0, .slice A3x x.f2.f1.length c3x, .bool x.f2.f2, .slice A5x x.f2.f3.length c5x, .slice A6x x.f3.length c6x]) j g (V (dst64 j)) w) :
    wpOp Try.prog ops6_4 Q i (fun a' w' => ∃ g' v, a' = actV 65 (updV V (dst64 i) v) ∧ Below w5.heap.size w5 w' ∧ Rel64 x (.agg #[.int .i64 x.f0, .int .i64 x.f1, .bool x.f2.f0, .slice A3x x.f2.f1.length c3x, .bool x.f2.f2, .slice A5x x.f2.f3.length c5x, .slice A6x x.f3.length c6x]) i g' v w' ∧ Ext64 g w g' w') (actV 65 V) w := by
  rcases (by omega : i = 0 ∨ i = 1 ∨ i = 2 ∨ i = 3 ∨ i = 4 ∨ i = 5 ∨ i = 6 ∨ i = 7 ∨ i = 8 ∨ i = 9 ∨ i = 10 ∨ i = 11 ∨ i = 12 ∨ i = 13 ∨ i = 14 ∨ i = 15 ∨ i = 16 ∨ i = 17 ∨ i = 18 ∨ i = 19 ∨ i = 20 ∨ i = 21 ∨ i = 22 ∨ i = 23 ∨ i = 24 ∨ i = 25 ∨ i = 26 ∨ i = 27) with rfl | rfl | rfl | rfl | rfl | rfl | rfl | rfl | rfl | rfl | rfl | rfl | rfl | rfl | rfl | rfl | rfl | rfl | rfl | rfl | rfl | rfl | rfl | rfl | rfl | rfl | rfl | rfl
  · refine op_val (op6_4 0) 24 (.agg #[.int .i64 x.f0, .int .i64 x.f1, .bool x.f2.f0, .slice A3x x.f2.f1.length c3x, .bool x.f2.f2, .slice A5x x.f2.f3.length c5x, .slice A6x x.f3.length c6x]) (by kernel_rfl) (by kernel_rfl) (by kernel_rfl) (ex_load (ty := 28) (x := .tmp 2) (p := .pointer (some ⟨A, 0, none⟩)) (by kernel_rfl) ((show (actV 65 V).eval (.tmp 2) = V 2 by kernel_rfl).trans ((hV 2 (by decide)).trans h2)) (hS w hG)) ⟨g, _, actV_put _ _ _ _, hG, rfl, Below.refl _ _⟩
  · have e0 : V 24 = .agg #[.int .i64 x.f0, .int .i64 x.f1, .bool x.f2.f0, .slice A3x x.f2.f1.length c3x, .bool x.f2.f2, .slice A5x x.f2.f3.length c5x, .slice A6x x.f3.length c6x] := hL 0 (by omega) (by kernel_rfl)
    have hx : (execOp (actV 65 V).eval (op6_4 1)).run Try.prog w = .ok (.enter 21 #[V 24]) w := by kernel_rfl
    rw [e0] at hx
    refine op_call (op6_4 1) 25 21 _ (by kernel_rfl) (by kernel_rfl) (by kernel_rfl) hx ((not_any x _ w (hxa.below hG)).mono ?_)
    rintro e' w' ⟨u, rfl, hX, hb⟩
    exact ⟨u, rfl, g, u, actV_put _ _ _ _, below_step hG hb, hX, hb⟩
  · have X0 : XR w (V 25) ⟨4, 0, s0, [x]⟩ := hL 1 (by omega) (by kernel_rfl)
    have hx : (execOp (actV 65 V).eval (op6_4 2)).run Try.prog w = .ok (.enter 21 #[V 25]) w := by kernel_rfl
    refine op_call (op6_4 2) 26 21 _ (by kernel_rfl) (by kernel_rfl) (by kernel_rfl) hx ((not_any ⟨4, 0, s0, [x]⟩ _ w X0).mono ?_)
    rintro e' w' ⟨u, rfl, hX, hb⟩
    exact ⟨u, rfl, g, u, actV_put _ _ _ _, below_step hG hb, hX, hb⟩
  · refine op_val (op6_4 3) 27 (.agg #[.int .i64 x.f0, .int .i64 x.f1, .bool x.f2.f0, .slice A3x x.f2.f1.length c3x, .bool x.f2.f2, .slice A5x x.f2.f3.length c5x, .slice A6x x.f3.length c6x]) (by kernel_rfl) (by kernel_rfl) (by kernel_rfl) (ex_load (ty := 28) (x := .tmp 2) (p := .pointer (some ⟨A, 0, none⟩)) (by kernel_rfl) ((show (actV 65 V).eval (.tmp 2) = V 2 by kernel_rfl).trans ((hV 2 (by decide)).trans h2)) (hS w hG)) ⟨g, _, actV_put _ _ _ _, hG, rfl, Below.refl _ _⟩
  · have hx : (execOp (actV 65 V).eval (op6_4 4)).run Try.prog w = .ok (.enter 19 #[.slice none 0 0]) w := by kernel_rfl
    refine op_call (op6_4 4) 28 19 _ (by kernel_rfl) (by kernel_rfl) (by kernel_rfl) hx ((and_nil w).mono ?_)
    rintro e' w' ⟨rfl, hb⟩
    exact ⟨_, rfl, g, _, actV_put _ _ _ _, below_step hG hb, rfl, hb⟩
  · have e0 : V 27 = .agg #[.int .i64 x.f0, .int .i64 x.f1, .bool x.f2.f0, .slice A3x x.f2.f1.length c3x, .bool x.f2.f2, .slice A5x x.f2.f3.length c5x, .slice A6x x.f3.length c6x] := hL 3 (by omega) (by kernel_rfl)
    have e1 : V 28 = .agg #[.int .i64 2, .int .i64 0, .bool false, .slice none 0 0, .bool false, .slice none 0 0, .slice none 0 0] := hL 4 (by omega) (by kernel_rfl)
    have hb := below_alloc (Below.refl w.heap.size w) (.cells #[.int .i64 x.f0, .int .i64 x.f1, .bool x.f2.f0, .slice A3x x.f2.f1.length c3x, .bool x.f2.f2, .slice A5x x.f2.f3.length c5x, .slice A6x x.f3.length c6x, .int .i64 2, .int .i64 0, .bool false, .slice none 0 0, .bool false, .slice none 0 0, .slice none 0 0] 28)
    have hp : ((#[(0, .tmp 27), (1, .tmp 28)] : Array (Nat × Operand)).map fun (i, x) => (i, (actV 65 V).eval x)) = #[(0, .agg #[.int .i64 x.f0, .int .i64 x.f1, .bool x.f2.f0, .slice A3x x.f2.f1.length c3x, .bool x.f2.f2, .slice A5x x.f2.f3.length c5x, .slice A6x x.f3.length c6x]), (1, .agg #[.int .i64 2, .int .i64 0, .bool false, .slice none 0 0, .bool false, .slice none 0 0, .slice none 0 0])] := by
      rw [show ((#[(0, .tmp 27), (1, .tmp 28)] : Array (Nat × Operand)).map fun (i, x) => (i, (actV 65 V).eval x)) = #[(0, V 27), (1, V 28)] by kernel_rfl, e0, e1]
    have hx : (execOp (actV 65 V).eval (op6_4 5)).run Try.prog w = .ok (.value (.slice (some ⟨w.heap.size, 0, none⟩) 2 2)) (w.alloc (.cells #[.int .i64 x.f0, .int .i64 x.f1, .bool x.f2.f0, .slice A3x x.f2.f1.length c3x, .bool x.f2.f2, .slice A5x x.f2.f3.length c5x, .slice A6x x.f3.length c6x, .int .i64 2, .int .i64 0, .bool false, .slice none 0 0, .bool false, .slice none 0 0, .slice none 0 0] 28)) := ex_slices (t := 26) (n := 2) (by kernel_rfl) hp (by kernel_rfl)
    have hC : k28.C (w.alloc (.cells #[.int .i64 x.f0, .int .i64 x.f1, .bool x.f2.f0, .slice A3x x.f2.f1.length c3x, .bool x.f2.f2, .slice A5x x.f2.f3.length c5x, .slice A6x x.f3.length c6x, .int .i64 2, .int .i64 0, .bool false, .slice none 0 0, .bool false, .slice none 0 0, .slice none 0 0] 28)) (some ⟨w.heap.size, 0, none⟩) 2 [x, xAnd] := C28_row [[.int .i64 x.f0, .int .i64 x.f1, .bool x.f2.f0, .slice A3x x.f2.f1.length c3x, .bool x.f2.f2, .slice A5x x.f2.f3.length c5x, .slice A6x x.f3.length c6x], [.int .i64 2, .int .i64 0, .bool false, .slice none 0 0, .bool false, .slice none 0 0, .slice none 0 0]] [x, xAnd] (heap_alloc_new w _) rfl (by simp) (fun j cs y h1 h2 => by
      have hj : j < 2 := (List.getElem?_eq_some_iff.1 h1).1
      rcases (by omega : j = 0 ∨ j = 1) with rfl | rfl
      · injection h1 with h1; injection h2 with h2; subst h1; subst h2; exact XR.below (hxa.below hG) hb
      · injection h1 with h1; injection h2 with h2; subst h1; subst h2; exact XR.below (XR_nil w 2) hb)
    exact op_val (op6_4 5) 29 _ (by kernel_rfl) (by kernel_rfl) (by kernel_rfl) hx ⟨g, _, actV_put _ _ _ _, below_step hG hb, ⟨_, rfl, hC⟩, hb⟩
  · obtain ⟨ad, e0, hc⟩ : Rel64 x (.agg #[.int .i64 x.f0, .int .i64 x.f1, .bool x.f2.f0, .slice A3x x.f2.f1.length c3x, .bool x.f2.f2, .slice A5x x.f2.f3.length c5x, .slice A6x x.f3.length c6x]) 5 g (V 29) w := hL 5 (by omega) (by kernel_rfl)
    have hx : (execOp (actV 65 V).eval (op6_4 6)).run Try.prog w = .ok (.enter 19 #[V 29]) w := by kernel_rfl
    rw [e0] at hx
    refine op_call (op6_4 6) 30 19 _ (by kernel_rfl) (by kernel_rfl) (by kernel_rfl) hx ((and_some ad 2 [x, xAnd] w (by simp) hc).mono ?_)
    rintro e' w' ⟨u, rfl, hX, hb⟩
    exact ⟨u, rfl, g, u, actV_put _ _ _ _, below_step hG hb, hX, hb⟩
  · have hx : (execOp (actV 65 V).eval (op6_4 7)).run Try.prog w = .ok (.enter 20 #[.slice none 0 0]) w := by kernel_rfl
    refine op_call (op6_4 7) 31 20 _ (by kernel_rfl) (by kernel_rfl) (by kernel_rfl) hx ((or_nil w).mono ?_)
    rintro e' w' ⟨rfl, hb⟩
    exact ⟨_, rfl, g, _, actV_put _ _ _ _, below_step hG hb, rfl, hb⟩
  · refine op_val (op6_4 8) 32 (.agg #[.int .i64 x.f0, .int .i64 x.f1, .bool x.f2.f0, .slice A3x x.f2.f1.length c3x, .bool x.f2.f2, .slice A5x x.f2.f3.length c5x, .slice A6x x.f3.length c6x]) (by kernel_rfl) (by kernel_rfl) (by kernel_rfl) (ex_load (ty := 28) (x := .tmp 2) (p := .pointer (some ⟨A, 0, none⟩)) (by kernel_rfl) ((show (actV 65 V).eval (.tmp 2) = V 2 by kernel_rfl).trans ((hV 2 (by decide)).trans h2)) (hS w hG)) ⟨g, _, actV_put _ _ _ _, hG, rfl, Below.refl _ _⟩
  · have e0 : V 31 = .agg #[.int .i64 3, .int .i64 0, .bool false, .slice none 0 0, .bool false, .slice none 0 0, .slice none 0 0] := hL 7 (by omega) (by kernel_rfl)
    have e1 : V 32 = .agg #[.int .i64 x.f0, .int .i64 x.f1, .bool x.f2.f0, .slice A3x x.f2.f1.length c3x, .bool x.f2.f2, .slice A5x x.f2.f3.length c5x, .slice A6x x.f3.length c6x] := hL 8 (by omega) (by kernel_rfl)
    have hb := below_alloc (Below.refl w.heap.size w) (.cells #[.int .i64 3, .int .i64 0, .bool false, .slice none 0 0, .bool false, .slice none 0 0, .slice none 0 0, .int .i64 x.f0, .int .i64 x.f1, .bool x.f2.f0, .slice A3x x.f2.f1.length c3x, .bool x.f2.f2, .slice A5x x.f2.f3.length c5x, .slice A6x x.f3.length c6x] 28)
    have hp : ((#[(0, .tmp 31), (1, .tmp 32)] : Array (Nat × Operand)).map fun (i, x) => (i, (actV 65 V).eval x)) = #[(0, .agg #[.int .i64 3, .int .i64 0, .bool false, .slice none 0 0, .bool false, .slice none 0 0, .slice none 0 0]), (1, .agg #[.int .i64 x.f0, .int .i64 x.f1, .bool x.f2.f0, .slice A3x x.f2.f1.length c3x, .bool x.f2.f2, .slice A5x x.f2.f3.length c5x, .slice A6x x.f3.length c6x])] := by
      rw [show ((#[(0, .tmp 31), (1, .tmp 32)] : Array (Nat × Operand)).map fun (i, x) => (i, (actV 65 V).eval x)) = #[(0, V 31), (1, V 32)] by kernel_rfl, e0, e1]
    have hx : (execOp (actV 65 V).eval (op6_4 9)).run Try.prog w = .ok (.value (.slice (some ⟨w.heap.size, 0, none⟩) 2 2)) (w.alloc (.cells #[.int .i64 3, .int .i64 0, .bool false, .slice none 0 0, .bool false, .slice none 0 0, .slice none 0 0, .int .i64 x.f0, .int .i64 x.f1, .bool x.f2.f0, .slice A3x x.f2.f1.length c3x, .bool x.f2.f2, .slice A5x x.f2.f3.length c5x, .slice A6x x.f3.length c6x] 28)) := ex_slices (t := 26) (n := 2) (by kernel_rfl) hp (by kernel_rfl)
    have hC : k28.C (w.alloc (.cells #[.int .i64 3, .int .i64 0, .bool false, .slice none 0 0, .bool false, .slice none 0 0, .slice none 0 0, .int .i64 x.f0, .int .i64 x.f1, .bool x.f2.f0, .slice A3x x.f2.f1.length c3x, .bool x.f2.f2, .slice A5x x.f2.f3.length c5x, .slice A6x x.f3.length c6x] 28)) (some ⟨w.heap.size, 0, none⟩) 2 [xOr, x] := C28_row [[.int .i64 3, .int .i64 0, .bool false, .slice none 0 0, .bool false, .slice none 0 0, .slice none 0 0], [.int .i64 x.f0, .int .i64 x.f1, .bool x.f2.f0, .slice A3x x.f2.f1.length c3x, .bool x.f2.f2, .slice A5x x.f2.f3.length c5x, .slice A6x x.f3.length c6x]] [xOr, x] (heap_alloc_new w _) rfl (by simp) (fun j cs y h1 h2 => by
      have hj : j < 2 := (List.getElem?_eq_some_iff.1 h1).1
      rcases (by omega : j = 0 ∨ j = 1) with rfl | rfl
      · injection h1 with h1; injection h2 with h2; subst h1; subst h2; exact XR.below (XR_nil w 3) hb
      · injection h1 with h1; injection h2 with h2; subst h1; subst h2; exact XR.below (hxa.below hG) hb)
    exact op_val (op6_4 9) 33 _ (by kernel_rfl) (by kernel_rfl) (by kernel_rfl) hx ⟨g, _, actV_put _ _ _ _, below_step hG hb, ⟨_, rfl, hC⟩, hb⟩
  · obtain ⟨ad, e0, hc⟩ : Rel64 x (.agg #[.int .i64 x.f0, .int .i64 x.f1, .bool x.f2.f0, .slice A3x x.f2.f1.length c3x, .bool x.f2.f2, .slice A5x x.f2.f3.length c5x, .slice A6x x.f3.length c6x]) 9 g (V 33) w := hL 9 (by omega) (by kernel_rfl)
    have hx : (execOp (actV 65 V).eval (op6_4 10)).run Try.prog w = .ok (.enter 20 #[V 33]) w := by kernel_rfl
    rw [e0] at hx
    refine op_call (op6_4 10) 34 20 _ (by kernel_rfl) (by kernel_rfl) (by kernel_rfl) hx ((or_some ad 2 [xOr, x] w (by simp) hc).mono ?_)
    rintro e' w' ⟨u, rfl, hX, hb⟩
    exact ⟨u, rfl, g, u, actV_put _ _ _ _, below_step hG hb, hX, hb⟩
  · refine op_val (op6_4 11) 35 (.agg #[.int .i64 x.f0, .int .i64 x.f1, .bool x.f2.f0, .slice A3x x.f2.f1.length c3x, .bool x.f2.f2, .slice A5x x.f2.f3.length c5x, .slice A6x x.f3.length c6x]) (by kernel_rfl) (by kernel_rfl) (by kernel_rfl) (ex_load (ty := 28) (x := .tmp 2) (p := .pointer (some ⟨A, 0, none⟩)) (by kernel_rfl) ((show (actV 65 V).eval (.tmp 2) = V 2 by kernel_rfl).trans ((hV 2 (by decide)).trans h2)) (hS w hG)) ⟨g, _, actV_put _ _ _ _, hG, rfl, Below.refl _ _⟩
  · refine op_val (op6_4 12) 36 (.agg #[.int .i64 x.f0, .int .i64 x.f1, .bool x.f2.f0, .slice A3x x.f2.f1.length c3x, .bool x.f2.f2, .slice A5x x.f2.f3.length c5x, .slice A6x x.f3.length c6x]) (by kernel_rfl) (by kernel_rfl) (by kernel_rfl) (ex_load (ty := 28) (x := .tmp 2) (p := .pointer (some ⟨A, 0, none⟩)) (by kernel_rfl) ((show (actV 65 V).eval (.tmp 2) = V 2 by kernel_rfl).trans ((hV 2 (by decide)).trans h2)) (hS w hG)) ⟨g, _, actV_put _ _ _ _, hG, rfl, Below.refl _ _⟩
  · have e0 : V 35 = .agg #[.int .i64 x.f0, .int .i64 x.f1, .bool x.f2.f0, .slice A3x x.f2.f1.length c3x, .bool x.f2.f2, .slice A5x x.f2.f3.length c5x, .slice A6x x.f3.length c6x] := hL 11 (by omega) (by kernel_rfl)
    have e1 : V 36 = .agg #[.int .i64 x.f0, .int .i64 x.f1, .bool x.f2.f0, .slice A3x x.f2.f1.length c3x, .bool x.f2.f2, .slice A5x x.f2.f3.length c5x, .slice A6x x.f3.length c6x] := hL 12 (by omega) (by kernel_rfl)
    have hb := below_alloc (Below.refl w.heap.size w) (.cells #[.int .i64 x.f0, .int .i64 x.f1, .bool x.f2.f0, .slice A3x x.f2.f1.length c3x, .bool x.f2.f2, .slice A5x x.f2.f3.length c5x, .slice A6x x.f3.length c6x, .int .i64 x.f0, .int .i64 x.f1, .bool x.f2.f0, .slice A3x x.f2.f1.length c3x, .bool x.f2.f2, .slice A5x x.f2.f3.length c5x, .slice A6x x.f3.length c6x] 28)
    have hp : ((#[(0, .tmp 35), (1, .tmp 36)] : Array (Nat × Operand)).map fun (i, x) => (i, (actV 65 V).eval x)) = #[(0, .agg #[.int .i64 x.f0, .int .i64 x.f1, .bool x.f2.f0, .slice A3x x.f2.f1.length c3x, .bool x.f2.f2, .slice A5x x.f2.f3.length c5x, .slice A6x x.f3.length c6x]), (1, .agg #[.int .i64 x.f0, .int .i64 x.f1, .bool x.f2.f0, .slice A3x x.f2.f1.length c3x, .bool x.f2.f2, .slice A5x x.f2.f3.length c5x, .slice A6x x.f3.length c6x])] := by
      rw [show ((#[(0, .tmp 35), (1, .tmp 36)] : Array (Nat × Operand)).map fun (i, x) => (i, (actV 65 V).eval x)) = #[(0, V 35), (1, V 36)] by kernel_rfl, e0, e1]
    have hx : (execOp (actV 65 V).eval (op6_4 13)).run Try.prog w = .ok (.value (.slice (some ⟨w.heap.size, 0, none⟩) 2 2)) (w.alloc (.cells #[.int .i64 x.f0, .int .i64 x.f1, .bool x.f2.f0, .slice A3x x.f2.f1.length c3x, .bool x.f2.f2, .slice A5x x.f2.f3.length c5x, .slice A6x x.f3.length c6x, .int .i64 x.f0, .int .i64 x.f1, .bool x.f2.f0, .slice A3x x.f2.f1.length c3x, .bool x.f2.f2, .slice A5x x.f2.f3.length c5x, .slice A6x x.f3.length c6x] 28)) := ex_slices (t := 26) (n := 2) (by kernel_rfl) hp (by kernel_rfl)
    have hC : k28.C (w.alloc (.cells #[.int .i64 x.f0, .int .i64 x.f1, .bool x.f2.f0, .slice A3x x.f2.f1.length c3x, .bool x.f2.f2, .slice A5x x.f2.f3.length c5x, .slice A6x x.f3.length c6x, .int .i64 x.f0, .int .i64 x.f1, .bool x.f2.f0, .slice A3x x.f2.f1.length c3x, .bool x.f2.f2, .slice A5x x.f2.f3.length c5x, .slice A6x x.f3.length c6x] 28)) (some ⟨w.heap.size, 0, none⟩) 2 [x, x] := C28_row [[.int .i64 x.f0, .int .i64 x.f1, .bool x.f2.f0, .slice A3x x.f2.f1.length c3x, .bool x.f2.f2, .slice A5x x.f2.f3.length c5x, .slice A6x x.f3.length c6x], [.int .i64 x.f0, .int .i64 x.f1, .bool x.f2.f0, .slice A3x x.f2.f1.length c3x, .bool x.f2.f2, .slice A5x x.f2.f3.length c5x, .slice A6x x.f3.length c6x]] [x, x] (heap_alloc_new w _) rfl (by simp) (fun j cs y h1 h2 => by
      have hj : j < 2 := (List.getElem?_eq_some_iff.1 h1).1
      rcases (by omega : j = 0 ∨ j = 1) with rfl | rfl
      · injection h1 with h1; injection h2 with h2; subst h1; subst h2; exact XR.below (hxa.below hG) hb
      · injection h1 with h1; injection h2 with h2; subst h1; subst h2; exact XR.below (hxa.below hG) hb)
    exact op_val (op6_4 13) 37 _ (by kernel_rfl) (by kernel_rfl) (by kernel_rfl) hx ⟨g, _, actV_put _ _ _ _, below_step hG hb, ⟨_, rfl, hC⟩, hb⟩
  · obtain ⟨ad, e0, hc⟩ : Rel64 x (.agg #[.int .i64 x.f0, .int .i64 x.f1, .bool x.f2.f0, .slice A3x x.f2.f1.length c3x, .bool x.f2.f2, .slice A5x x.f2.f3.length c5x, .slice A6x x.f3.length c6x]) 13 g (V 37) w := hL 13 (by omega) (by kernel_rfl)
    have hx : (execOp (actV 65 V).eval (op6_4 14)).run Try.prog w = .ok (.enter 19 #[V 37]) w := by kernel_rfl
    rw [e0] at hx
    refine op_call (op6_4 14) 38 19 _ (by kernel_rfl) (by kernel_rfl) (by kernel_rfl) hx ((and_some ad 2 [x, x] w (by simp) hc).mono ?_)
    rintro e' w' ⟨u, rfl, hX, hb⟩
    exact ⟨u, rfl, g, u, actV_put _ _ _ _, below_step hG hb, hX, hb⟩
  · refine op_val (op6_4 15) 39 (.agg #[.int .i64 x.f0, .int .i64 x.f1, .bool x.f2.f0, .slice A3x x.f2.f1.length c3x, .bool x.f2.f2, .slice A5x x.f2.f3.length c5x, .slice A6x x.f3.length c6x]) (by kernel_rfl) (by kernel_rfl) (by kernel_rfl) (ex_load (ty := 28) (x := .tmp 2) (p := .pointer (some ⟨A, 0, none⟩)) (by kernel_rfl) ((show (actV 65 V).eval (.tmp 2) = V 2 by kernel_rfl).trans ((hV 2 (by decide)).trans h2)) (hS w hG)) ⟨g, _, actV_put _ _ _ _, hG, rfl, Below.refl _ _⟩
  · refine op_val (op6_4 16) 40 (.agg #[.int .i64 x.f0, .int .i64 x.f1, .bool x.f2.f0, .slice A3x x.f2.f1.length c3x, .bool x.f2.f2, .slice A5x x.f2.f3.length c5x, .slice A6x x.f3.length c6x]) (by kernel_rfl) (by kernel_rfl) (by kernel_rfl) (ex_load (ty := 28) (x := .tmp 2) (p := .pointer (some ⟨A, 0, none⟩)) (by kernel_rfl) ((show (actV 65 V).eval (.tmp 2) = V 2 by kernel_rfl).trans ((hV 2 (by decide)).trans h2)) (hS w hG)) ⟨g, _, actV_put _ _ _ _, hG, rfl, Below.refl _ _⟩
  · have e0 : V 39 = .agg #[.int .i64 x.f0, .int .i64 x.f1, .bool x.f2.f0, .slice A3x x.f2.f1.length c3x, .bool x.f2.f2, .slice A5x x.f2.f3.length c5x, .slice A6x x.f3.length c6x] := hL 15 (by omega) (by kernel_rfl)
    have e1 : V 40 = .agg #[.int .i64 x.f0, .int .i64 x.f1, .bool x.f2.f0, .slice A3x x.f2.f1.length c3x, .bool x.f2.f2, .slice A5x x.f2.f3.length c5x, .slice A6x x.f3.length c6x] := hL 16 (by omega) (by kernel_rfl)
    have hb := below_alloc (Below.refl w.heap.size w) (.cells #[.int .i64 x.f0, .int .i64 x.f1, .bool x.f2.f0, .slice A3x x.f2.f1.length c3x, .bool x.f2.f2, .slice A5x x.f2.f3.length c5x, .slice A6x x.f3.length c6x, .int .i64 x.f0, .int .i64 x.f1, .bool x.f2.f0, .slice A3x x.f2.f1.length c3x, .bool x.f2.f2, .slice A5x x.f2.f3.length c5x, .slice A6x x.f3.length c6x] 28)
    have hp : ((#[(0, .tmp 39), (1, .tmp 40)] : Array (Nat × Operand)).map fun (i, x) => (i, (actV 65 V).eval x)) = #[(0, .agg #[.int .i64 x.f0, .int .i64 x.f1, .bool x.f2.f0, .slice A3x x.f2.f1.length c3x, .bool x.f2.f2, .slice A5x x.f2.f3.length c5x, .slice A6x x.f3.length c6x]), (1, .agg #[.int .i64 x.f0, .int .i64 x.f1, .bool x.f2.f0, .slice A3x x.f2.f1.length c3x, .bool x.f2.f2, .slice A5x x.f2.f3.length c5x, .slice A6x x.f3.length c6x])] := by
      rw [show ((#[(0, .tmp 39), (1, .tmp 40)] : Array (Nat × Operand)).map fun (i, x) => (i, (actV 65 V).eval x)) = #[(0, V 39), (1, V 40)] by kernel_rfl, e0, e1]
    have hx : (execOp (actV 65 V).eval (op6_4 17)).run Try.prog w = .ok (.value (.slice (some ⟨w.heap.size, 0, none⟩) 2 2)) (w.alloc (.cells #[.int .i64 x.f0, .int .i64 x.f1, .bool x.f2.f0, .slice A3x x.f2.f1.length c3x, .bool x.f2.f2, .slice A5x x.f2.f3.length c5x, .slice A6x x.f3.length c6x, .int .i64 x.f0, .int .i64 x.f1, .bool x.f2.f0, .slice A3x x.f2.f1.length c3x, .bool x.f2.f2, .slice A5x x.f2.f3.length c5x, .slice A6x x.f3.length c6x] 28)) := ex_slices (t := 26) (n := 2) (by kernel_rfl) hp (by kernel_rfl)
    have hC : k28.C (w.alloc (.cells #[.int .i64 x.f0, .int .i64 x.f1, .bool x.f2.f0, .slice A3x x.f2.f1.length c3x, .bool x.f2.f2, .slice A5x x.f2.f3.length c5x, .slice A6x x.f3.length c6x, .int .i64 x.f0, .int .i64 x.f1, .bool x.f2.f0, .slice A3x x.f2.f1.length c3x, .bool x.f2.f2, .slice A5x x.f2.f3.length c5x, .slice A6x x.f3.length c6x] 28)) (some ⟨w.heap.size, 0, none⟩) 2 [x, x] := C28_row [[.int .i64 x.f0, .int .i64 x.f1, .bool x.f2.f0, .slice A3x x.f2.f1.length c3x, .bool x.f2.f2, .slice A5x x.f2.f3.length c5x, .slice A6x x.f3.length c6x], [.int .i64 x.f0, .int .i64 x.f1, .bool x.f2.f0, .slice A3x x.f2.f1.length c3x, .bool x.f2.f2, .slice A5x x.f2.f3.length c5x, .slice A6x x.f3.length c6x]] [x, x] (heap_alloc_new w _) rfl (by simp) (fun j cs y h1 h2 => by
      have hj : j < 2 := (List.getElem?_eq_some_iff.1 h1).1
      rcases (by omega : j = 0 ∨ j = 1) with rfl | rfl
      · injection h1 with h1; injection h2 with h2; subst h1; subst h2; exact XR.below (hxa.below hG) hb
      · injection h1 with h1; injection h2 with h2; subst h1; subst h2; exact XR.below (hxa.below hG) hb)
    exact op_val (op6_4 17) 41 _ (by kernel_rfl) (by kernel_rfl) (by kernel_rfl) hx ⟨g, _, actV_put _ _ _ _, below_step hG hb, ⟨_, rfl, hC⟩, hb⟩
  · obtain ⟨ad, e0, hc⟩ : Rel64 x (.agg #[.int .i64 x.f0, .int .i64 x.f1, .bool x.f2.f0, .slice A3x x.f2.f1.length c3x, .bool x.f2.f2, .slice A5x x.f2.f3.length c5x, .slice A6x x.f3.length c6x]) 17 g (V 41) w := hL 17 (by omega) (by kernel_rfl)
    have hx : (execOp (actV 65 V).eval (op6_4 18)).run Try.prog w = .ok (.enter 20 #[V 41]) w := by kernel_rfl
    rw [e0] at hx
    refine op_call (op6_4 18) 42 20 _ (by kernel_rfl) (by kernel_rfl) (by kernel_rfl) hx ((or_some ad 2 [x, x] w (by simp) hc).mono ?_)
    rintro e' w' ⟨u, rfl, hX, hb⟩
    exact ⟨u, rfl, g, u, actV_put _ _ _ _, below_step hG hb, hX, hb⟩
  · refine op_val (op6_4 19) 43 (.agg #[.int .i64 x.f0, .int .i64 x.f1, .bool x.f2.f0, .slice A3x x.f2.f1.length c3x, .bool x.f2.f2, .slice A5x x.f2.f3.length c5x, .slice A6x x.f3.length c6x]) (by kernel_rfl) (by kernel_rfl) (by kernel_rfl) (ex_load (ty := 28) (x := .tmp 2) (p := .pointer (some ⟨A, 0, none⟩)) (by kernel_rfl) ((show (actV 65 V).eval (.tmp 2) = V 2 by kernel_rfl).trans ((hV 2 (by decide)).trans h2)) (hS w hG)) ⟨g, _, actV_put _ _ _ _, hG, rfl, Below.refl _ _⟩
  · have e0 : V 43 = .agg #[.int .i64 x.f0, .int .i64 x.f1, .bool x.f2.f0, .slice A3x x.f2.f1.length c3x, .bool x.f2.f2, .slice A5x x.f2.f3.length c5x, .slice A6x x.f3.length c6x] := hL 19 (by omega) (by kernel_rfl)
    have hb := below_alloc (Below.refl w.heap.size w) (.cells #[.int .i64 x.f0, .int .i64 x.f1, .bool x.f2.f0, .slice A3x x.f2.f1.length c3x, .bool x.f2.f2, .slice A5x x.f2.f3.length c5x, .slice A6x x.f3.length c6x] 28)
    have hp : ((#[(0, .tmp 43)] : Array (Nat × Operand)).map fun (i, x) => (i, (actV 65 V).eval x)) = #[(0, .agg #[.int .i64 x.f0, .int .i64 x.f1, .bool x.f2.f0, .slice A3x x.f2.f1.length c3x, .bool x.f2.f2, .slice A5x x.f2.f3.length c5x, .slice A6x x.f3.length c6x])] := by
      rw [show ((#[(0, .tmp 43)] : Array (Nat × Operand)).map fun (i, x) => (i, (actV 65 V).eval x)) = #[(0, V 43)] by kernel_rfl, e0]
    have hx : (execOp (actV 65 V).eval (op6_4 20)).run Try.prog w = .ok (.value (.slice (some ⟨w.heap.size, 0, none⟩) 1 1)) (w.alloc (.cells #[.int .i64 x.f0, .int .i64 x.f1, .bool x.f2.f0, .slice A3x x.f2.f1.length c3x, .bool x.f2.f2, .slice A5x x.f2.f3.length c5x, .slice A6x x.f3.length c6x] 28)) := ex_slices (t := 26) (n := 1) (by kernel_rfl) hp (by kernel_rfl)
    have hC : k28.C (w.alloc (.cells #[.int .i64 x.f0, .int .i64 x.f1, .bool x.f2.f0, .slice A3x x.f2.f1.length c3x, .bool x.f2.f2, .slice A5x x.f2.f3.length c5x, .slice A6x x.f3.length c6x] 28)) (some ⟨w.heap.size, 0, none⟩) 1 [x] := C28_row [[.int .i64 x.f0, .int .i64 x.f1, .bool x.f2.f0, .slice A3x x.f2.f1.length c3x, .bool x.f2.f2, .slice A5x x.f2.f3.length c5x, .slice A6x x.f3.length c6x]] [x] (heap_alloc_new w _) rfl (by simp) (fun j cs y h1 h2 => by
      have hj : j < 1 := (List.getElem?_eq_some_iff.1 h1).1
      rcases (by omega : j = 0) with rfl
      · injection h1 with h1; injection h2 with h2; subst h1; subst h2; exact XR.below (hxa.below hG) hb)
    exact op_val (op6_4 20) 44 _ (by kernel_rfl) (by kernel_rfl) (by kernel_rfl) hx ⟨g, _, actV_put _ _ _ _, below_step hG hb, ⟨_, rfl, hC⟩, hb⟩
  · obtain ⟨ad, e0, hc⟩ : Rel64 x (.agg #[.int .i64 x.f0, .int .i64 x.f1, .bool x.f2.f0, .slice A3x x.f2.f1.length c3x, .bool x.f2.f2, .slice A5x x.f2.f3.length c5x, .slice A6x x.f3.length c6x]) 20 g (V 44) w := hL 20 (by omega) (by kernel_rfl)
    have hx : (execOp (actV 65 V).eval (op6_4 21)).run Try.prog w = .ok (.enter 19 #[V 44]) w := by kernel_rfl
    rw [e0] at hx
    refine op_call (op6_4 21) 45 19 _ (by kernel_rfl) (by kernel_rfl) (by kernel_rfl) hx ((and_some ad 1 [x] w (by simp) hc).mono ?_)
    rintro e' w' ⟨u, rfl, hX, hb⟩
    exact ⟨u, rfl, g, u, actV_put _ _ _ _, below_step hG hb, hX, hb⟩
  · refine op_val (op6_4 22) 46 (.agg #[.int .i64 x.f0, .int .i64 x.f1, .bool x.f2.f0, .slice A3x x.f2.f1.length c3x, .bool x.f2.f2, .slice A5x x.f2.f3.length c5x, .slice A6x x.f3.length c6x]) (by kernel_rfl) (by kernel_rfl) (by kernel_rfl) (ex_load (ty := 28) (x := .tmp 2) (p := .pointer (some ⟨A, 0, none⟩)) (by kernel_rfl) ((show (actV 65 V).eval (.tmp 2) = V 2 by kernel_rfl).trans ((hV 2 (by decide)).trans h2)) (hS w hG)) ⟨g, _, actV_put _ _ _ _, hG, rfl, Below.refl _ _⟩
  · have e0 : V 46 = .agg #[.int .i64 x.f0, .int .i64 x.f1, .bool x.f2.f0, .slice A3x x.f2.f1.length c3x, .bool x.f2.f2, .slice A5x x.f2.f3.length c5x, .slice A6x x.f3.length c6x] := hL 22 (by omega) (by kernel_rfl)
    have hb := below_alloc (Below.refl w.heap.size w) (.cells #[.int .i64 x.f0, .int .i64 x.f1, .bool x.f2.f0, .slice A3x x.f2.f1.length c3x, .bool x.f2.f2, .slice A5x x.f2.f3.length c5x, .slice A6x x.f3.length c6x] 28)
    have hp : ((#[(0, .tmp 46)] : Array (Nat × Operand)).map fun (i, x) => (i, (actV 65 V).eval x)) = #[(0, .agg #[.int .i64 x.f0, .int .i64 x.f1, .bool x.f2.f0, .slice A3x x.f2.f1.length c3x, .bool x.f2.f2, .slice A5x x.f2.f3.length c5x, .slice A6x x.f3.length c6x])] := by
      rw [show ((#[(0, .tmp 46)] : Array (Nat × Operand)).map fun (i, x) => (i, (actV 65 V).eval x)) = #[(0, V 46)] by kernel_rfl, e0]
    have hx : (execOp (actV 65 V).eval (op6_4 23)).run Try.prog w = .ok (.value (.slice (some ⟨w.heap.size, 0, none⟩) 1 1)) (w.alloc (.cells #[.int .i64 x.f0, .int .i64 x.f1, .bool x.f2.f0, .slice A3x x.f2.f1.length c3x, .bool x.f2.f2, .slice A5x x.f2.f3.length c5x, .slice A6x x.f3.length c6x] 28)) := ex_slices (t := 26) (n := 1) (by kernel_rfl) hp (by kernel_rfl)
    have hC : k28.C (w.alloc (.cells #[.int .i64 x.f0, .int .i64 x.f1, .bool x.f2.f0, .slice A3x x.f2.f1.length c3x, .bool x.f2.f2, .slice A5x x.f2.f3.length c5x, .slice A6x x.f3.length c6x] 28)) (some ⟨w.heap.size, 0, none⟩) 1 [x] := C28_row [[.int .i64 x.f0, .int .i64 x.f1, .bool x.f2.f0, .slice A3x x.f2.f1.length c3x, .bool x.f2.f2, .slice A5x x.f2.f3.length c5x, .slice A6x x.f3.length c6x]] [x] (heap_alloc_new w _) rfl (by simp) (fun j cs y h1 h2 => by
      have hj : j < 1 := (List.getElem?_eq_some_iff.1 h1).1
      rcases (by omega : j = 0) with rfl
      · injection h1 with h1; injection h2 with h2; subst h1; subst h2; exact XR.below (hxa.below hG) hb)
    exact op_val (op6_4 23) 47 _ (by kernel_rfl) (by kernel_rfl) (by kernel_rfl) hx ⟨g, _, actV_put _ _ _ _, below_step hG hb, ⟨_, rfl, hC⟩, hb⟩
  · obtain ⟨ad, e0, hc⟩ : Rel64 x (.agg #[.int .i64 x.f0, .int .i64 x.f1, .bool x.f2.f0, .slice A3x x.f2.f1.length c3x, .bool x.f2.f2, .slice A5x x.f2.f3.length c5x, .slice A6x x.f3.length c6x]) 23 g (V 47) w := hL 23 (by omega) (by kernel_rfl)
    have hx : (execOp (actV 65 V).eval (op6_4 24)).run Try.prog w = .ok (.enter 20 #[V 47]) w := by kernel_rfl
    rw [e0] at hx
    refine op_call (op6_4 24) 48 20 _ (by kernel_rfl) (by kernel_rfl) (by kernel_rfl) hx ((or_some ad 1 [x] w (by simp) hc).mono ?_)
    rintro e' w' ⟨u, rfl, hX, hb⟩
    exact ⟨u, rfl, g, u, actV_put _ _ _ _, below_step hG hb, hX, hb⟩
  · have X0 : XR w (V 26) ⟨4, 0, s0, [⟨4, 0, s0, [x]⟩]⟩ := hL 2 (by omega) (by kernel_rfl)
    obtain ⟨A30, c30, A50, c50, A60, c60, e0, p0⟩ := X0
    replace e0 : V 26 = .agg #[.int .i64 4, .int .i64 0, .bool false, .slice A30 0 c30, .bool false, .slice A50 0 c50, .slice A60 1 c60] := e0
    have X1 : XR w (V 30) ⟨2, 0, s0, [x, xAnd]⟩ := hL 6 (by omega) (by kernel_rfl)
    obtain ⟨A31, c31, A51, c51, A61, c61, e1, p1⟩ := X1
    replace e1 : V 30 = .agg #[.int .i64 2, .int .i64 0, .bool false, .slice A31 0 c31, .bool false, .slice A51 0 c51, .slice A61 2 c61] := e1
    have X2 : XR w (V 34) ⟨3, 0, s0, [xOr, x]⟩ := hL 10 (by omega) (by kernel_rfl)
    obtain ⟨A32, c32, A52, c52, A62, c62, e2, p2⟩ := X2
    replace e2 : V 34 = .agg #[.int .i64 3, .int .i64 0, .bool false, .slice A32 0 c32, .bool false, .slice A52 0 c52, .slice A62 2 c62] := e2
    have X3 : XR w (V 38) ⟨2, 0, s0, [x, x]⟩ := hL 14 (by omega) (by kernel_rfl)
    obtain ⟨A33, c33, A53, c53, A63, c63, e3, p3⟩ := X3
    replace e3 : V 38 = .agg #[.int .i64 2, .int .i64 0, .bool false, .slice A33 0 c33, .bool false, .slice A53 0 c53, .slice A63 2 c63] := e3
    have X4 : XR w (V 42) ⟨3, 0, s0, [x, x]⟩ := hL 18 (by omega) (by kernel_rfl)
    obtain ⟨A34, c34, A54, c54, A64, c64, e4, p4⟩ := X4
    replace e4 : V 42 = .agg #[.int .i64 3, .int .i64 0, .bool false, .slice A34 0 c34, .bool false, .slice A54 0 c54, .slice A64 2 c64] := e4
    have X5 : XR w (V 45) ⟨2, 0, s0, [x]⟩ := hL 21 (by omega) (by kernel_rfl)
    obtain ⟨A35, c35, A55, c55, A65, c65, e5, p5⟩ := X5
    replace e5 : V 45 = .agg #[.int .i64 2, .int .i64 0, .bool false, .slice A35 0 c35, .bool false, .slice A55 0 c55, .slice A65 1 c65] := e5
    have X6 : XR w (V 48) ⟨3, 0, s0, [x]⟩ := hL 24 (by omega) (by kernel_rfl)
    obtain ⟨A36, c36, A56, c56, A66, c66, e6, p6⟩ := X6
    replace e6 : V 48 = .agg #[.int .i64 3, .int .i64 0, .bool false, .slice A36 0 c36, .bool false, .slice A56 0 c56, .slice A66 1 c66] := e6
    have hb := below_alloc (Below.refl w.heap.size w) (.cells #[.int .i64 4, .int .i64 0, .bool false, .slice A30 0 c30, .bool false, .slice A50 0 c50, .slice A60 1 c60, .int .i64 2, .int .i64 0, .bool false, .slice A31 0 c31, .bool false, .slice A51 0 c51, .slice A61 2 c61, .int .i64 3, .int .i64 0, .bool false, .slice A32 0 c32, .bool false, .slice A52 0 c52, .slice A62 2 c62, .int .i64 2, .int .i64 0, .bool false, .slice A33 0 c33, .bool false, .slice A53 0 c53, .slice A63 2 c63, .int .i64 3, .int .i64 0, .bool false, .slice A34 0 c34, .bool false, .slice A54 0 c54, .slice A64 2 c64, .int .i64 2, .int .i64 0, .bool false, .slice A35 0 c35, .bool false, .slice A55 0 c55, .slice A65 1 c65, .int .i64 3, .int .i64 0, .bool false, .slice A36 0 c36, .bool false, .slice A56 0 c56, .slice A66 1 c66] 28)
    have hp : ((#[(0, .tmp 26), (1, .tmp 30), (2, .tmp 34), (3, .tmp 38), (4, .tmp 42), (5, .tmp 45), (6, .tmp 48)] : Array (Nat × Operand)).map fun (i, x) => (i, (actV 65 V).eval x)) = #[(0, .agg #[.int .i64 4, .int .i64 0, .bool false, .slice A30 0 c30, .bool false, .slice A50 0 c50, .slice A60 1 c60]), (1, .agg #[.int .i64 2, .int .i64 0, .bool false, .slice A31 0 c31, .bool false, .slice A51 0 c51, .slice A61 2 c61]), (2, .agg #[.int .i64 3, .int .i64 0, .bool false, .slice A32 0 c32, .bool false, .slice A52 0 c52, .slice A62 2 c62]), (3, .agg #[.int .i64 2, .int .i64 0, .bool false, .slice A33 0 c33, .bool false, .slice A53 0 c53, .slice A63 2 c63]), (4, .agg #[.int .i64 3, .int .i64 0, .bool false, .slice A34 0 c34, .bool false, .slice A54 0 c54, .slice A64 2 c64]), (5, .agg #[.int .i64 2, .int .i64 0, .bool false, .slice A35 0 c35, .bool false, .slice A55 0 c55, .slice A65 1 c65]), (6, .agg #[.int .i64 3, .int .i64 0, .bool false, .slice A36 0 c36, .bool false, .slice A56 0 c56, .slice A66 1 c66])] := by
      rw [show ((#[(0, .tmp 26), (1, .tmp 30), (2, .tmp 34), (3, .tmp 38), (4, .tmp 42), (5, .tmp 45), (6, .tmp 48)] : Array (Nat × Operand)).map fun (i, x) => (i, (actV 65 V).eval x)) = #[(0, V 26), (1, V 30), (2, V 34), (3, V 38), (4, V 42), (5, V 45), (6, V 48)] by kernel_rfl, e0, e1, e2, e3, e4, e5, e6]
    have hx : (execOp (actV 65 V).eval (op6_4 25)).run Try.prog w = .ok (.value (.slice (some ⟨w.heap.size, 0, none⟩) 7 7)) (w.alloc (.cells #[.int .i64 4, .int .i64 0, .bool false, .slice A30 0 c30, .bool false, .slice A50 0 c50, .slice A60 1 c60, .int .i64 2, .int .i64 0, .bool false, .slice A31 0 c31, .bool false, .slice A51 0 c51, .slice A61 2 c61, .int .i64 3, .int .i64 0, .bool false, .slice A32 0 c32, .bool false, .slice A52 0 c52, .slice A62 2 c62, .int .i64 2, .int .i64 0, .bool false, .slice A33 0 c33, .bool false, .slice A53 0 c53, .slice A63 2 c63, .int .i64 3, .int .i64 0, .bool false, .slice A34 0 c34, .bool false, .slice A54 0 c54, .slice A64 2 c64, .int .i64 2, .int .i64 0, .bool false, .slice A35 0 c35, .bool false, .slice A55 0 c55, .slice A65 1 c65, .int .i64 3, .int .i64 0, .bool false, .slice A36 0 c36, .bool false, .slice A56 0 c56, .slice A66 1 c66] 28)) := ex_slices (t := 26) (n := 7) (by kernel_rfl) hp (by kernel_rfl)
    have hC : k28.C (w.alloc (.cells #[.int .i64 4, .int .i64 0, .bool false, .slice A30 0 c30, .bool false, .slice A50 0 c50, .slice A60 1 c60, .int .i64 2, .int .i64 0, .bool false, .slice A31 0 c31, .bool false, .slice A51 0 c51, .slice A61 2 c61, .int .i64 3, .int .i64 0, .bool false, .slice A32 0 c32, .bool false, .slice A52 0 c52, .slice A62 2 c62, .int .i64 2, .int .i64 0, .bool false, .slice A33 0 c33, .bool false, .slice A53 0 c53, .slice A63 2 c63, .int .i64 3, .int .i64 0, .bool false, .slice A34 0 c34, .bool false, .slice A54 0 c54, .slice A64 2 c64, .int .i64 2, .int .i64 0, .bool false, .slice A35 0 c35, .bool false, .slice A55 0 c55, .slice A65 1 c65, .int .i64 3, .int .i64 0, .bool false, .slice A36 0 c36, .bool false, .slice A56 0 c56, .slice A66 1 c66] 28)) (some ⟨w.heap.size, 0, none⟩) 7 (twice x) := C28_row [[.int .i64 4, .int .i64 0, .bool false, .slice A30 0 c30, .bool false, .slice A50 0 c50, .slice A60 1 c60], [.int .i64 2, .int .i64 0, .bool false, .slice A31 0 c31, .bool false, .slice A51 0 c51, .slice A61 2 c61], [.int .i64 3, .int .i64 0, .bool false, .slice A32 0 c32, .bool false, .slice A52 0 c52, .slice A62 2 c62], [.int .i64 2, .int .i64 0, .bool false, .slice A33 0 c33, .bool false, .slice A53 0 c53, .slice A63 2 c63], [.int .i64 3, .int .i64 0, .bool false, .slice A34 0 c34, .bool false, .slice A54 0 c54, .slice A64 2 c64], [.int .i64 2, .int .i64 0, .bool false, .slice A35 0 c35, .bool false, .slice A55 0 c55, .slice A65 1 c65], [.int .i64 3, .int .i64 0, .bool false, .slice A36 0 c36, .bool false, .slice A56 0 c56, .slice A66 1 c66]] (twice x) (heap_alloc_new w _) rfl (by simp [twice]) (fun j cs y h1 h2 => by
      have hj : j < 7 := (List.getElem?_eq_some_iff.1 h1).1
      rcases (by omega : j = 0 ∨ j = 1 ∨ j = 2 ∨ j = 3 ∨ j = 4 ∨ j = 5 ∨ j = 6) with rfl | rfl | rfl | rfl | rfl | rfl | rfl
      · injection h1 with h1; injection h2 with h2; subst h1; subst h2; exact XR.below ⟨A30, c30, A50, c50, A60, c60, rfl, p0⟩ hb
      · injection h1 with h1; injection h2 with h2; subst h1; subst h2; exact XR.below ⟨A31, c31, A51, c51, A61, c61, rfl, p1⟩ hb
      · injection h1 with h1; injection h2 with h2; subst h1; subst h2; exact XR.below ⟨A32, c32, A52, c52, A62, c62, rfl, p2⟩ hb
      · injection h1 with h1; injection h2 with h2; subst h1; subst h2; exact XR.below ⟨A33, c33, A53, c53, A63, c63, rfl, p3⟩ hb
      · injection h1 with h1; injection h2 with h2; subst h1; subst h2; exact XR.below ⟨A34, c34, A54, c54, A64, c64, rfl, p4⟩ hb
      · injection h1 with h1; injection h2 with h2; subst h1; subst h2; exact XR.below ⟨A35, c35, A55, c55, A65, c65, rfl, p5⟩ hb
      · injection h1 with h1; injection h2 with h2; subst h1; subst h2; exact XR.below ⟨A36, c36, A56, c56, A66, c66, rfl, p6⟩ hb)
    exact op_val (op6_4 25) 49 _ (by kernel_rfl) (by kernel_rfl) (by kernel_rfl) hx ⟨g, _, actV_put _ _ _ _, below_step hG hb, ⟨_, rfl, hC⟩, hb⟩
  · obtain ⟨ad, e0, hc⟩ : Rel64 x (.agg #[.int .i64 x.f0, .int .i64 x.f1, .bool x.f2.f0, .slice A3x x.f2.f1.length c3x, .bool x.f2.f2, .slice A5x x.f2.f3.length c5x, .slice A6x x.f3.length c6x]) 25 g (V 49) w := hL 25 (by omega) (by kernel_rfl)
    exact op_val (op6_4 26) 50 (.int .i64 7) (by kernel_rfl) (by kernel_rfl) (by kernel_rfl) (ex_builtin (b := .len) (x := .tmp 49) (p := .slice (some ad) 7 7) (ats := #[26]) (by kernel_rfl) ((show (actV 65 V).eval (.tmp 49) = V 49 by kernel_rfl).trans e0) (by kernel_rfl)) ⟨g, _, actV_put _ _ _ _, hG, rfl, Below.refl _ _⟩
  · exact op_val (op6_4 27) 51 (.int .i64 0) (by kernel_rfl) (by kernel_rfl) (by kernel_rfl) (by kernel_rfl) ⟨g, _, actV_put _ _ _ _, hG, rfl, Below.refl _ _⟩
set_option maxHeartbeats 4000000 in
set_option maxRecDepth 100000 in
theorem r6_4 {x : S28} {A3x A5x A6x : Option Addr} {c3x c5x c6x : Nat} (A : Nat) (w5 : World) (Q : Exit → Act → World → Prop) (hxa : XR w5 (.agg #[.int .i64 x.f0, .int .i64 x.f1, .bool x.f2.f0, .slice A3x x.f2.f1.length c3x, .bool x.f2.f2, .slice A5x x.f2.f3.length c5x, .slice A6x x.f3.length c6x]) x) (hS : ∀ w', Below w5.heap.size w5 w' → (Instr.loadAt 28 (.pointer (some ⟨A, 0, none⟩))).run Try.prog w' = .ok (.agg #[.int .i64 x.f0, .int .i64 x.f1, .bool x.f2.f0, .slice A3x x.f2.f1.length c3x, .bool x.f2.f2, .slice A5x x.f2.f3.length c5x, .slice A6x x.f3.length c6x]) w')
    (c0 c1 c3 c4 c5 c6 c7 c8 c9 c10 c11 c12 c13 c14 c15 c16 c17 c18 c19 c20 c21 c22 c23 c24 c25 c26 c27 c28 c29 c30 c31 c32 c33 c34 c35 c36 c37 c38 c39 c40 c41 c42 c43 c44 c45 c46 c47 c48 c49 c50 c51 c52 c53 c54 c55 c56 c57 c58 c59 c60 c61 c62 c63 c64 : Value)
    (hQ : ∀ (u24 u25 u26 u27 u28 u29 u30 u31 u32 u33 u34 u35 u36 u37 u38 u39 u40 u41 u42 u43 u44 u45 u46 u47 u48 : Value) (ad : Addr) (w6 : World), Below w5.heap.size w5 w6 → k28.C w6 (some ad) 7 (twice x) → Q .normal ⟨#[c0, c1, .pointer (some ⟨A, 0, none⟩), c3, c4, c5, c6, c7, c8, c9, c10, c11, c12, c13, c14, c15, c16, c17, c18, c19, c20, c21, c22, c23, u24, u25, u26, u27, u28, u29, u30, u31, u32, u33, u34, u35, u36, u37, u38, u39, u40, u41, u42, u43, u44, u45, u46, u47, u48, .slice (some ad) 7 7, .int .i64 7, .int .i64 0, c52, c53, c54, c55, c56, c57, c58, c59, c60, c61, c62, c63, c64], []⟩ w6) : Code.wp Try.prog reg6_4 Q ⟨#[c0, c1, .pointer (some ⟨A, 0, none⟩), c3, c4, c5, c6, c7, c8, c9, c10, c11, c12, c13, c14, c15, c16, c17, c18, c19, c20, c21, c22, c23, c24, c25, c26, c27, c28, c29, c30, c31, c32, c33, c34, c35, c36, c37, c38, c39, c40, c41, c42, c43, c44, c45, c46, c47, c48, c49, c50, c51, c52, c53, c54, c55, c56, c57, c58, c59, c60, c61, c62, c63, c64], []⟩ w5 := by
  obtain ⟨V0, hV0⟩ : ∃ V0 : Nat → Value, V0 = fun k => (#[c0, c1, .pointer (some ⟨A, 0, none⟩), c3, c4, c5, c6, c7, c8, c9, c10, c11, c12, c13, c14, c15, c16, c17, c18, c19, c20, c21, c22, c23, c24, c25, c26, c27, c28, c29, c30, c31, c32, c33, c34, c35, c36, c37, c38, c39, c40, c41, c42, c43, c44, c45, c46, c47, c48, c49, c50, c51, c52, c53, c54, c55, c56, c57, c58, c59, c60, c61, c62, c63, c64] : Array Value).getD k undef := ⟨_, rfl⟩
  have e0 : (⟨#[c0, c1, .pointer (some ⟨A, 0, none⟩), c3, c4, c5, c6, c7, c8, c9, c10, c11, c12, c13, c14, c15, c16, c17, c18, c19, c20, c21, c22, c23, c24, c25, c26, c27, c28, c29, c30, c31, c32, c33, c34, c35, c36, c37, c38, c39, c40, c41, c42, c43, c44, c45, c46, c47, c48, c49, c50, c51, c52, c53, c54, c55, c56, c57, c58, c59, c60, c61, c62, c63, c64], []⟩ : Act) = actV 65 V0 := by rw [hV0]; kernel_rfl
  rw [e0, reg6_4_is]
  refine region_inv (id := 4) 28 28 65 dst64 (fun _ w => Below w5.heap.size w5 w) (Rel64 x (.agg #[.int .i64 x.f0, .int .i64 x.f1, .bool x.f2.f0, .slice A3x x.f2.f1.length c3x, .bool x.f2.f2, .slice A5x x.f2.f3.length c5x, .slice A6x x.f3.length c6x])) V0 (by kernel_rfl) (by kernel_rfl) (by omega) (by kernel_rfl) Ext64 () ((Below.refl _ _).drew) (fun i g v w g' w' hi h he => Rel64.ext i g v w g' w' hi h he) (fun i g V w hi hG hV hL => steps64 A w5 hxa hS V0 (by rw [hV0]; rfl) Q i g V w hi hG hV hL) ?_
  intro g V w hG hV hL
  obtain ⟨ad, e49, hC⟩ : RowX 7 (twice x) (V 49) w := hL 25 (by omega)
  have e50 : V 50 = .int .i64 7 := hL 26 (by omega)
  have e51 : V 51 = .int .i64 0 := hL 27 (by omega)
  refine any_done (by kernel_rfl) ?_
  have hdst : ∀ i, i < 28 → isd64 (dst64 i) = true := by decide
  have eV : V = fun k => if isd64 k = true then V k else V0 k := funext fun k => by
    by_cases h : isd64 k = true
    · rw [if_pos h]
    · rw [if_neg h]; exact hV k (fun i hi e => h (by rw [e]; exact hdst i hi))
  have e1 : actV 65 V = ⟨#[c0, c1, .pointer (some ⟨A, 0, none⟩), c3, c4, c5, c6, c7, c8, c9, c10, c11, c12, c13, c14, c15, c16, c17, c18, c19, c20, c21, c22, c23, V 24, V 25, V 26, V 27, V 28, V 29, V 30, V 31, V 32, V 33, V 34, V 35, V 36, V 37, V 38, V 39, V 40, V 41, V 42, V 43, V 44, V 45, V 46, V 47, V 48, V 49, V 50, V 51, c52, c53, c54, c55, c56, c57, c58, c59, c60, c61, c62, c63, c64], []⟩ := by
    have : actV 65 (fun k => if isd64 k = true then V k else V0 k) = ⟨#[c0, c1, .pointer (some ⟨A, 0, none⟩), c3, c4, c5, c6, c7, c8, c9, c10, c11, c12, c13, c14, c15, c16, c17, c18, c19, c20, c21, c22, c23, V 24, V 25, V 26, V 27, V 28, V 29, V 30, V 31, V 32, V 33, V 34, V 35, V 36, V 37, V 38, V 39, V 40, V 41, V 42, V 43, V 44, V 45, V 46, V 47, V 48, V 49, V 50, V 51, c52, c53, c54, c55, c56, c57, c58, c59, c60, c61, c62, c63, c64], []⟩ := by rw [hV0]; kernel_rfl
    rw [← eV] at this
    exact this
  rw [e1, e49, e50, e51]
  exact hQ _ _ _ _ _ _ _ _ _ _ _ _ _ _ _ _ _ _ _ _ _ _ _ _ _ ad w hG hC
end Go.Proofs.Ytjkhajcngapjcaa.Q
