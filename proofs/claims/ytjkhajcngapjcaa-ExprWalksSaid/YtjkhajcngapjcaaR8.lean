/- ExprWalks: the test in the loop, a region that draws its order, in a round; printed by gen_r810.py. -/
import Derived.Test.YtjkhajcngapjcaaHJ
import Derived.Test.YtjkhajcngapjcaaSA
namespace Go.Proofs.Ytjkhajcngapjcaa.Q
open Go.RowKit Go.Proofs.YtjkhajcngapjcaaW.PrintWords
set_option linter.unusedVariables false

/-- The region of a number, in loops over functions too. -/
def regAtF (k : Nat) : Code → Option Code
  | .region id ops b => if id = k then some (.region id ops b) else none
  | .loop c => regAtF k c
  | .seq a b => match regAtF k a with
    | some c => some c
    | none => regAtF k b
  | .block _ c => regAtF k c
  | .scope c => regAtF k c
  | .cond _ a b => match regAtF k a with
    | some c => some c
    | none => regAtF k b
  | .rangeFunc _ _ a b => match regAtF k a with
    | some c => some c
    | none => regAtF k b
  | _ => none
/-- The region 10. -/
noncomputable def reg8_10 : Code := (Try.f8.body.bind (regAtF 10)).getD .skip
noncomputable def ops8_10 : Array Oper := opsOf reg8_10
noncomputable def op8_10 (k : Nat) : Oper := (ops8_10[k]?).getD ⟨none, .move (.tmp 0), 0, "", #[], none⟩
theorem reg8_10_is : reg8_10 = .region 10 ops8_10 true := by kernel_rfl

def dst810 (i : Nat) : Nat := #[25, 26, 27, 28, 29, 30, 31, 32, 33, 34, 35, 36, 37, 38, 39, 40, 41, 42, 43, 44, 45, 46, 47, 48, 49, 50, 51, 52, 53, 54, 55, 56, 57].getD i 999
section
variable {P : Program} {o : Oper} {a : Act} {w : World}
theorem e_move {x : Operand} {p : Value} (ho : o.op = .move x) (hx : a.eval x = p) : (execOp a.eval o).run P w = .ok (.value p) w := by unfold execOp; simp only [ho, hx]; rfl
theorem e_pick {c x y : Operand} {b : Bool} {p q : Value} (ho : o.op = .pick c x y) (hc : a.eval c = .bool b) (hx : a.eval x = p) (hy : a.eval y = q) : (execOp a.eval o).run P w = .ok (.value (if b then p else q)) w := by unfold execOp; simp only [ho, hc, hx, hy]; cases b <;> rfl
theorem e_not {t : TypeId} {x : Operand} {b : Bool} (ho : o.op = .unOp .not t x) (hx : a.eval x = .bool b) : (execOp a.eval o).run P w = .ok (.value (.bool (!b))) w := by unfold execOp; simp only [ho, hx]; cases b <;> rfl
theorem e_idx {t : TypeId} {x y : Operand} {p q v : Value} (ho : o.op = .indexAddr t x y) (hx : a.eval x = p) (hy : a.eval y = q) (h : (Instr.indexAt t p q).run P w = .ok v w) : (execOp a.eval o).run P w = .ok (.value v) w := by
  unfold execOp; simp only [ho, hx, hy, Sem.run_bind, h, Result.andThen_ok, Sem.run_pure]
theorem e_fld {t : TypeId} {x : Operand} {k : Nat} {p v : Value} (ho : o.op = .fieldAddr t x k) (hx : a.eval x = p) (h : (Instr.fieldAt t p k).run P w = .ok v w) : (execOp a.eval o).run P w = .ok (.value v) w := by
  unfold execOp; simp only [ho, hx, Sem.run_bind, h, Result.andThen_ok, Sem.run_pure]
theorem e_builtin {b : Builtin} {x : Operand} {p : Value} {ats : Array TypeId} {r : Result Next} (ho : o.op = .call { callee := .builtin b, args := #[x], argTypes := ats }) (hx : a.eval x = p)
    (h : (invoke (.builtin b ats o.type #[(match (generalizing := false) x with | .const _ => true | _ => false)]) #[p]).run P w = r) : (execOp a.eval o).run P w = r := by
  unfold execOp
  simp only [ho, resolve, List.map_toArray, List.map_cons, List.map_nil, hx, Sem.run_bind, Sem.run_pure, Result.andThen_ok]
  exact h
theorem ea {V : Nat → Value} {t : Nat} {v : Value} (h : V t = v) (k : (actV 72 V).eval (.tmp t) = V t := by kernel_rfl) : (actV 72 V).eval (.tmp t) = v := k.trans h
theorem ew {V : Nat → Value} {t : Nat} {v : Value} (h : V t = v) (k : (actV 72 V).tmps[t]? = some (V t) := by kernel_rfl) : (actV 72 V).tmps[t]? = some v := k.trans (congrArg some h)
theorem ov {ops : Array Oper} {Q : Exit → Act → World → Prop} {l n' i : Nat} {K : Act → World → Prop} {w' : World} (o : Oper) (d : Nat) (v : Value) (hw : Region.wanted o (yielded ops a.tmps) = true) (hx : (execOp a.eval o).run P w = .ok (.value v) w') (h : K (a.put (some d) v) w') (hi : ops[i]? = some o := by kernel_rfl) (hd : o.dst = some d := by kernel_rfl) (hn : noDefer o = true := by kernel_rfl) : wpOpIn (Fence.wide.inRound l) n' P ops Q i K a w := opIn_val o d v hi hd hn hw hx h
theorem wo {ops : Array Oper} {V : Nat → Value} (g d : Nat) (b : Bool) (h : V d = .bool b) (hg : o.guard = some (g, b) := by kernel_rfl) (hd : (ops[g]?).bind (·.dst) = some d := by kernel_rfl) (k : (actV 72 V).tmps[d]? = some (V d) := by kernel_rfl) : Region.wanted o (yielded ops (actV 72 V).tmps) = true := wanted_on hg hd (k.trans (congrArg some h))
theorem wf {ops : Array Oper} {V : Nat → Value} (g d : Nat) (b : Bool) (h : V d = .bool (!b)) (hg : o.guard = some (g, b) := by kernel_rfl) (hd : (ops[g]?).bind (·.dst) = some d := by kernel_rfl) (k : (actV 72 V).tmps[d]? = some (V d) := by kernel_rfl) : Region.wanted o (yielded ops (actV 72 V).tmps) = false := wanted_off hg hd (k.trans (congrArg some h))
theorem geq_run (x y : Int) (u v : Operand) (w : World) : (do eqGuard .geq 3 u v (.int .i64 x) (.int .i64 y); binOp .geq 3 (.int .i64 x) (.int .i64 y) : Sem Value).run Try.prog w = .ok (.bool (decide (x ≥ y))) w := by
  simp only [eqGuard_geq, binOp_geq]; rfl
theorem neq_run (x y : Int) (u v : Operand) (w : World) : (do eqGuard .neq 3 u v (.int .i64 x) (.int .i64 y); binOp .neq 3 (.int .i64 x) (.int .i64 y) : Sem Value).run Try.prog w = .ok (.bool (!(x == y))) w := by kernel_rfl
end
def val_gA (pN pV pP p1 p2 p3 vp vX : Value) (A : Option Addr) (len cp : Nat) (nn D d : Int) (b2 : Bool) (j : Nat) : Value := #[.int .i64 nn, .slice A len cp, .int .i64 (len : Int), .bool false, .bool false, .slice A len cp, .int .i64 nn, p1, p2, .int .i64 D, .int .i64 d, .bool true, .bool true, .bool true, undef, undef, undef, undef, undef, undef, undef, undef, .bool true, .bool true, undef, undef, undef, undef, undef, undef, undef, undef, .bool true].getD j undef
set_option maxHeartbeats 4000000 in
set_option maxRecDepth 100000 in
theorem gA (pN pV pP p1 p2 p3 vp vX : Value) (A : Option Addr) (len cp : Nat) (nn D d : Int) (w5 : World)
    (lN : ∀ w, Below w5.heap.size w5 w → (Instr.loadAt 3 pN).run Try.prog w = .ok (.int .i64 nn) w) (lV : ∀ w, Below w5.heap.size w5 w → (Instr.loadAt 45 pV).run Try.prog w = .ok (.slice A len cp) w) (lP : ∀ w, Below w5.heap.size w5 w → (Instr.loadAt 28 pP).run Try.prog w = .ok vp w)
    (lD : ∀ w, Below w5.heap.size w5 w → (Instr.loadAt 3 p2).run Try.prog w = .ok (.int .i64 D) w) (lX : ∀ w, Below w5.heap.size w5 w → (Instr.loadAt 28 p3).run Try.prog w = .ok vX w)
    (hI : ∀ w, (Instr.indexAt 45 (.slice A len cp) (.int .i64 nn)).run Try.prog w = .ok p1 w) (h0 : ∀ w, (Instr.fieldAt 50 p1 0).run Try.prog w = .ok p2 w) (h1 : ∀ w, (Instr.fieldAt 50 p1 1).run Try.prog w = .ok p3 w) (hnn : nn < len) (b2 : Bool) (hneq : (!(D == d)) = true) (l n' : Nat) (Q : Exit → Act → World → Prop) (V0 : Nat → Value) (f5 : V0 5 = pV) (f6 : V0 6 = pN) (f7 : V0 7 = .int .i64 d) (w : World) (hw : Below w5.heap.size w5 w)
    (hend : ∀ V w, Below w5.heap.size w5 w → (∀ k, (∀ i, 0 ≤ i → i < 33 → k ≠ dst810 i) → V k = V0 k) → (∀ j, 0 ≤ j → j < 33 → V (dst810 j) = val_gA pN pV pP p1 p2 p3 vp vX A len cp nn D d b2 j) → wpAnyIn (Fence.wide.inRound l) n' Try.prog .any ops8_10 Q (33 - 33) (listM 33 33) (actV 72 V) w) :
    wpAnyIn (Fence.wide.inRound l) n' Try.prog .any ops8_10 Q (33 - 0) (listM 33 0) (actV 72 V0) w := by
  refine seg_go 33 0 33 72 dst810 (val_gA pN pV pP p1 p2 p3 vp vX A len cp nn D d b2) (fun w => Below w5.heap.size w5 w) V0 (by kernel_rfl) (by omega) (by omega) (by kernel_rfl) hw ?_ hend
  intro i V w hi0 hi1 hG hV hL
  have hM : ∀ j, (decide (0 ≤ j ∧ j < 33) && bOn ops8_10 i j) = true → V (dst810 j) = val_gA pN pV pP p1 p2 p3 vp vX A len cp nn D d b2 j := fun j h => by
    rw [Bool.and_eq_true, decide_eq_true_eq] at h; exact hL j h.1.1 h.1.2 h.2
  rcases (by omega : i = 0 ∨ i = 1 ∨ i = 2 ∨ i = 3 ∨ i = 4 ∨ i = 5 ∨ i = 6 ∨ i = 7 ∨ i = 8 ∨ i = 9 ∨ i = 10 ∨ i = 11 ∨ i = 12 ∨ i = 13 ∨ i = 14 ∨ i = 15 ∨ i = 16 ∨ i = 17 ∨ i = 18 ∨ i = 19 ∨ i = 20 ∨ i = 21 ∨ i = 22 ∨ i = 23 ∨ i = 24 ∨ i = 25 ∨ i = 26 ∨ i = 27 ∨ i = 28 ∨ i = 29 ∨ i = 30 ∨ i = 31 ∨ i = 32) with rfl | rfl | rfl | rfl | rfl | rfl | rfl | rfl | rfl | rfl | rfl | rfl | rfl | rfl | rfl | rfl | rfl | rfl | rfl | rfl | rfl | rfl | rfl | rfl | rfl | rfl | rfl | rfl | rfl | rfl | rfl | rfl | rfl
  · exact ov (op8_10 0) 25 (.int .i64 nn) (by kernel_rfl) (ex_load (ty := 3) (x := .tmp 6) (p := pN) (by kernel_rfl) (ea ((hV 6 (fun i a b => (by decide : ∀ i, i < 33 → (0 ≤ i → i < 33 → 6 ≠ dst810 i)) i (by omega) a b)).trans f6)) (lN _ hG)) ⟨actV_put _ _ _ _, hG⟩
  · exact ov (op8_10 1) 26 (.slice A len cp) (by kernel_rfl) (ex_load (ty := 45) (x := .tmp 5) (p := pV) (by kernel_rfl) (ea ((hV 5 (fun i a b => (by decide : ∀ i, i < 33 → (0 ≤ i → i < 33 → 5 ≠ dst810 i)) i (by omega) a b)).trans f5)) (lV _ hG)) ⟨actV_put _ _ _ _, hG⟩
  · exact ov (op8_10 2) 27 (.int .i64 (len : Int)) (by kernel_rfl) (e_builtin (b := .len) (x := .tmp 26) (ats := #[45]) (p := .slice A len cp) (by kernel_rfl) (ea (hM 1 (by kernel_rfl))) (by kernel_rfl)) ⟨actV_put _ _ _ _, hG⟩
  · exact ov (op8_10 3) 28 (.bool false) (by kernel_rfl) (by rw [← decide_eq_false (show ¬ nn ≥ (len : Int) by omega)]; exact ex_bin (op := .geq) (t := 3) (t' := 3) (x := .tmp 25) (y := .tmp 27) (p := .int .i64 nn) (q := .int .i64 (len : Int)) (by kernel_rfl) (ea (hM 0 (by kernel_rfl))) (ea (hM 2 (by kernel_rfl))) (geq_run _ _ _ _ _)) ⟨actV_put _ _ _ _, hG⟩
  · exact ov (op8_10 4) 29 (.bool false) (by kernel_rfl) (e_move (x := .tmp 28) (by kernel_rfl) (ea (hM 3 (by kernel_rfl)))) ⟨actV_put _ _ _ _, hG⟩
  · exact ov (op8_10 5) 30 (.slice A len cp) (wo 4 29 false (hM 4 (by kernel_rfl))) (ex_load (ty := 45) (x := .tmp 5) (p := pV) (by kernel_rfl) (ea ((hV 5 (fun i a b => (by decide : ∀ i, i < 33 → (0 ≤ i → i < 33 → 5 ≠ dst810 i)) i (by omega) a b)).trans f5)) (lV _ hG)) ⟨actV_put _ _ _ _, hG⟩
  · exact ov (op8_10 6) 31 (.int .i64 nn) (wo 4 29 false (hM 4 (by kernel_rfl))) (ex_load (ty := 3) (x := .tmp 6) (p := pN) (by kernel_rfl) (ea ((hV 6 (fun i a b => (by decide : ∀ i, i < 33 → (0 ≤ i → i < 33 → 6 ≠ dst810 i)) i (by omega) a b)).trans f6)) (lN _ hG)) ⟨actV_put _ _ _ _, hG⟩
  · exact ov (op8_10 7) 32 (p1) (wo 4 29 false (hM 4 (by kernel_rfl))) (e_idx (t := 45) (x := .tmp 30) (y := .tmp 31) (by kernel_rfl) (ea (hM 5 (by kernel_rfl))) (ea (hM 6 (by kernel_rfl))) (hI _)) ⟨actV_put _ _ _ _, hG⟩
  · exact ov (op8_10 8) 33 (p2) (wo 4 29 false (hM 4 (by kernel_rfl))) (e_fld (t := 50) (x := .tmp 32) (k := 0) (by kernel_rfl) (ea (hM 7 (by kernel_rfl))) (h0 _)) ⟨actV_put _ _ _ _, hG⟩
  · exact ov (op8_10 9) 34 (.int .i64 D) (wo 4 29 false (hM 4 (by kernel_rfl))) (ex_load (ty := 3) (x := .tmp 33) (p := p2) (by kernel_rfl) (ea (hM 8 (by kernel_rfl))) (lD _ hG)) ⟨actV_put _ _ _ _, hG⟩
  · exact ov (op8_10 10) 35 (.int .i64 d) (wo 4 29 false (hM 4 (by kernel_rfl))) (e_move (x := .tmp 7) (by kernel_rfl) (ea ((hV 7 (fun i a b => (by decide : ∀ i, i < 33 → (0 ≤ i → i < 33 → 7 ≠ dst810 i)) i (by omega) a b)).trans f7))) ⟨actV_put _ _ _ _, hG⟩
  · exact ov (op8_10 11) 36 (.bool true) (wo 4 29 false (hM 4 (by kernel_rfl))) (by rw [← hneq]; exact ex_bin (op := .neq) (t := 3) (t' := 3) (x := .tmp 34) (y := .tmp 35) (p := .int .i64 D) (q := .int .i64 d) (by kernel_rfl) (ea (hM 9 (by kernel_rfl))) (ea (hM 10 (by kernel_rfl))) (neq_run _ _ _ _ _)) ⟨actV_put _ _ _ _, hG⟩
  · exact ov (op8_10 12) 37 (.bool true) (by kernel_rfl) (e_pick (c := .tmp 29) (x := .const (.bool true)) (y := .tmp 36) (by kernel_rfl) (ea (hM 4 (by kernel_rfl))) rfl (ea (hM 11 (by kernel_rfl)))) ⟨actV_put _ _ _ _, hG⟩
  · exact ov (op8_10 13) 38 (.bool true) (by kernel_rfl) (e_move (x := .tmp 37) (by kernel_rfl) (ea (hM 12 (by kernel_rfl)))) ⟨actV_put _ _ _ _, hG⟩
  · exact opIn_off (op8_10 14) 39 (by kernel_rfl) (by kernel_rfl) (wf 13 38 false (hM 13 (by kernel_rfl))) ⟨actV_put _ _ _ _, hG⟩
  · exact opIn_off (op8_10 15) 40 (by kernel_rfl) (by kernel_rfl) (wf 13 38 false (hM 13 (by kernel_rfl))) ⟨actV_put _ _ _ _, hG⟩
  · exact opIn_off (op8_10 16) 41 (by kernel_rfl) (by kernel_rfl) (wf 13 38 false (hM 13 (by kernel_rfl))) ⟨actV_put _ _ _ _, hG⟩
  · exact opIn_off (op8_10 17) 42 (by kernel_rfl) (by kernel_rfl) (wf 13 38 false (hM 13 (by kernel_rfl))) ⟨actV_put _ _ _ _, hG⟩
  · exact opIn_off (op8_10 18) 43 (by kernel_rfl) (by kernel_rfl) (wf 13 38 false (hM 13 (by kernel_rfl))) ⟨actV_put _ _ _ _, hG⟩
  · exact opIn_off (op8_10 19) 44 (by kernel_rfl) (by kernel_rfl) (wf 13 38 false (hM 13 (by kernel_rfl))) ⟨actV_put _ _ _ _, hG⟩
  · exact opIn_off (op8_10 20) 45 (by kernel_rfl) (by kernel_rfl) (wf 13 38 false (hM 13 (by kernel_rfl))) ⟨actV_put _ _ _ _, hG⟩
  · exact opIn_off (op8_10 21) 46 (by kernel_rfl) (by kernel_rfl) (wf 13 38 false (hM 13 (by kernel_rfl))) ⟨actV_put _ _ _ _, hG⟩
  · exact ov (op8_10 22) 47 (.bool true) (by kernel_rfl) (e_pick (c := .tmp 38) (x := .const (.bool true)) (y := .tmp 46) (by kernel_rfl) (ea (hM 13 (by kernel_rfl))) rfl rfl) ⟨actV_put _ _ _ _, hG⟩
  · exact ov (op8_10 23) 48 (.bool true) (by kernel_rfl) (e_move (x := .tmp 47) (by kernel_rfl) (ea (hM 22 (by kernel_rfl)))) ⟨actV_put _ _ _ _, hG⟩
  · exact opIn_off (op8_10 24) 49 (by kernel_rfl) (by kernel_rfl) (wf 23 48 false (hM 23 (by kernel_rfl))) ⟨actV_put _ _ _ _, hG⟩
  · exact opIn_off (op8_10 25) 50 (by kernel_rfl) (by kernel_rfl) (wf 23 48 false (hM 23 (by kernel_rfl))) ⟨actV_put _ _ _ _, hG⟩
  · exact opIn_off (op8_10 26) 51 (by kernel_rfl) (by kernel_rfl) (wf 23 48 false (hM 23 (by kernel_rfl))) ⟨actV_put _ _ _ _, hG⟩
  · exact opIn_off (op8_10 27) 52 (by kernel_rfl) (by kernel_rfl) (wf 23 48 false (hM 23 (by kernel_rfl))) ⟨actV_put _ _ _ _, hG⟩
  · exact opIn_off (op8_10 28) 53 (by kernel_rfl) (by kernel_rfl) (wf 23 48 false (hM 23 (by kernel_rfl))) ⟨actV_put _ _ _ _, hG⟩
  · exact opIn_off (op8_10 29) 54 (by kernel_rfl) (by kernel_rfl) (wf 23 48 false (hM 23 (by kernel_rfl))) ⟨actV_put _ _ _ _, hG⟩
  · exact opIn_off (op8_10 30) 55 (by kernel_rfl) (by kernel_rfl) (wf 23 48 false (hM 23 (by kernel_rfl))) ⟨actV_put _ _ _ _, hG⟩
  · exact opIn_off (op8_10 31) 56 (by kernel_rfl) (by kernel_rfl) (wf 23 48 false (hM 23 (by kernel_rfl))) ⟨actV_put _ _ _ _, hG⟩
  · exact ov (op8_10 32) 57 (.bool true) (by kernel_rfl) (e_pick (c := .tmp 48) (x := .const (.bool true)) (y := .tmp 56) (by kernel_rfl) (ea (hM 23 (by kernel_rfl))) rfl rfl) ⟨actV_put _ _ _ _, hG⟩
def val_gB (pN pV pP p1 p2 p3 vp vX : Value) (A : Option Addr) (len cp : Nat) (nn D d : Int) (b2 : Bool) (j : Nat) : Value := #[.int .i64 nn, .slice A len cp, .int .i64 (len : Int), .bool false, .bool false, .slice A len cp, .int .i64 nn, p1, p2, .int .i64 D, .int .i64 d, .bool false, .bool false, .bool false, .slice A len cp, .int .i64 nn, p1, p3, vX, vp].getD j undef
set_option maxHeartbeats 4000000 in
set_option maxRecDepth 100000 in
theorem gB (pN pV pP p1 p2 p3 vp vX : Value) (A : Option Addr) (len cp : Nat) (nn D d : Int) (w5 : World)
    (lN : ∀ w, Below w5.heap.size w5 w → (Instr.loadAt 3 pN).run Try.prog w = .ok (.int .i64 nn) w) (lV : ∀ w, Below w5.heap.size w5 w → (Instr.loadAt 45 pV).run Try.prog w = .ok (.slice A len cp) w) (lP : ∀ w, Below w5.heap.size w5 w → (Instr.loadAt 28 pP).run Try.prog w = .ok vp w)
    (lD : ∀ w, Below w5.heap.size w5 w → (Instr.loadAt 3 p2).run Try.prog w = .ok (.int .i64 D) w) (lX : ∀ w, Below w5.heap.size w5 w → (Instr.loadAt 28 p3).run Try.prog w = .ok vX w)
    (hI : ∀ w, (Instr.indexAt 45 (.slice A len cp) (.int .i64 nn)).run Try.prog w = .ok p1 w) (h0 : ∀ w, (Instr.fieldAt 50 p1 0).run Try.prog w = .ok p2 w) (h1 : ∀ w, (Instr.fieldAt 50 p1 1).run Try.prog w = .ok p3 w) (hnn : nn < len) (b2 : Bool) (hneq : (!(D == d)) = false) (l n' : Nat) (Q : Exit → Act → World → Prop) (V0 : Nat → Value) (f5 : V0 5 = pV) (f6 : V0 6 = pN) (f7 : V0 7 = .int .i64 d) (f8 : V0 8 = pP) (w : World) (hw : Below w5.heap.size w5 w)
    (hend : ∀ V w, Below w5.heap.size w5 w → (∀ k, (∀ i, 0 ≤ i → i < 20 → k ≠ dst810 i) → V k = V0 k) → (∀ j, 0 ≤ j → j < 20 → V (dst810 j) = val_gB pN pV pP p1 p2 p3 vp vX A len cp nn D d b2 j) → wpAnyIn (Fence.wide.inRound l) n' Try.prog .any ops8_10 Q (33 - 20) (listM 33 20) (actV 72 V) w) :
    wpAnyIn (Fence.wide.inRound l) n' Try.prog .any ops8_10 Q (33 - 0) (listM 33 0) (actV 72 V0) w := by
  refine seg_go 33 0 20 72 dst810 (val_gB pN pV pP p1 p2 p3 vp vX A len cp nn D d b2) (fun w => Below w5.heap.size w5 w) V0 (by kernel_rfl) (by omega) (by omega) (by kernel_rfl) hw ?_ hend
  intro i V w hi0 hi1 hG hV hL
  have hM : ∀ j, (decide (0 ≤ j ∧ j < 20) && bOn ops8_10 i j) = true → V (dst810 j) = val_gB pN pV pP p1 p2 p3 vp vX A len cp nn D d b2 j := fun j h => by
    rw [Bool.and_eq_true, decide_eq_true_eq] at h; exact hL j h.1.1 h.1.2 h.2
  rcases (by omega : i = 0 ∨ i = 1 ∨ i = 2 ∨ i = 3 ∨ i = 4 ∨ i = 5 ∨ i = 6 ∨ i = 7 ∨ i = 8 ∨ i = 9 ∨ i = 10 ∨ i = 11 ∨ i = 12 ∨ i = 13 ∨ i = 14 ∨ i = 15 ∨ i = 16 ∨ i = 17 ∨ i = 18 ∨ i = 19) with rfl | rfl | rfl | rfl | rfl | rfl | rfl | rfl | rfl | rfl | rfl | rfl | rfl | rfl | rfl | rfl | rfl | rfl | rfl | rfl
  · exact ov (op8_10 0) 25 (.int .i64 nn) (by kernel_rfl) (ex_load (ty := 3) (x := .tmp 6) (p := pN) (by kernel_rfl) (ea ((hV 6 (fun i a b => (by decide : ∀ i, i < 33 → (0 ≤ i → i < 20 → 6 ≠ dst810 i)) i (by omega) a b)).trans f6)) (lN _ hG)) ⟨actV_put _ _ _ _, hG⟩
  · exact ov (op8_10 1) 26 (.slice A len cp) (by kernel_rfl) (ex_load (ty := 45) (x := .tmp 5) (p := pV) (by kernel_rfl) (ea ((hV 5 (fun i a b => (by decide : ∀ i, i < 33 → (0 ≤ i → i < 20 → 5 ≠ dst810 i)) i (by omega) a b)).trans f5)) (lV _ hG)) ⟨actV_put _ _ _ _, hG⟩
  · exact ov (op8_10 2) 27 (.int .i64 (len : Int)) (by kernel_rfl) (e_builtin (b := .len) (x := .tmp 26) (ats := #[45]) (p := .slice A len cp) (by kernel_rfl) (ea (hM 1 (by kernel_rfl))) (by kernel_rfl)) ⟨actV_put _ _ _ _, hG⟩
  · exact ov (op8_10 3) 28 (.bool false) (by kernel_rfl) (by rw [← decide_eq_false (show ¬ nn ≥ (len : Int) by omega)]; exact ex_bin (op := .geq) (t := 3) (t' := 3) (x := .tmp 25) (y := .tmp 27) (p := .int .i64 nn) (q := .int .i64 (len : Int)) (by kernel_rfl) (ea (hM 0 (by kernel_rfl))) (ea (hM 2 (by kernel_rfl))) (geq_run _ _ _ _ _)) ⟨actV_put _ _ _ _, hG⟩
  · exact ov (op8_10 4) 29 (.bool false) (by kernel_rfl) (e_move (x := .tmp 28) (by kernel_rfl) (ea (hM 3 (by kernel_rfl)))) ⟨actV_put _ _ _ _, hG⟩
  · exact ov (op8_10 5) 30 (.slice A len cp) (wo 4 29 false (hM 4 (by kernel_rfl))) (ex_load (ty := 45) (x := .tmp 5) (p := pV) (by kernel_rfl) (ea ((hV 5 (fun i a b => (by decide : ∀ i, i < 33 → (0 ≤ i → i < 20 → 5 ≠ dst810 i)) i (by omega) a b)).trans f5)) (lV _ hG)) ⟨actV_put _ _ _ _, hG⟩
  · exact ov (op8_10 6) 31 (.int .i64 nn) (wo 4 29 false (hM 4 (by kernel_rfl))) (ex_load (ty := 3) (x := .tmp 6) (p := pN) (by kernel_rfl) (ea ((hV 6 (fun i a b => (by decide : ∀ i, i < 33 → (0 ≤ i → i < 20 → 6 ≠ dst810 i)) i (by omega) a b)).trans f6)) (lN _ hG)) ⟨actV_put _ _ _ _, hG⟩
  · exact ov (op8_10 7) 32 (p1) (wo 4 29 false (hM 4 (by kernel_rfl))) (e_idx (t := 45) (x := .tmp 30) (y := .tmp 31) (by kernel_rfl) (ea (hM 5 (by kernel_rfl))) (ea (hM 6 (by kernel_rfl))) (hI _)) ⟨actV_put _ _ _ _, hG⟩
  · exact ov (op8_10 8) 33 (p2) (wo 4 29 false (hM 4 (by kernel_rfl))) (e_fld (t := 50) (x := .tmp 32) (k := 0) (by kernel_rfl) (ea (hM 7 (by kernel_rfl))) (h0 _)) ⟨actV_put _ _ _ _, hG⟩
  · exact ov (op8_10 9) 34 (.int .i64 D) (wo 4 29 false (hM 4 (by kernel_rfl))) (ex_load (ty := 3) (x := .tmp 33) (p := p2) (by kernel_rfl) (ea (hM 8 (by kernel_rfl))) (lD _ hG)) ⟨actV_put _ _ _ _, hG⟩
  · exact ov (op8_10 10) 35 (.int .i64 d) (wo 4 29 false (hM 4 (by kernel_rfl))) (e_move (x := .tmp 7) (by kernel_rfl) (ea ((hV 7 (fun i a b => (by decide : ∀ i, i < 33 → (0 ≤ i → i < 20 → 7 ≠ dst810 i)) i (by omega) a b)).trans f7))) ⟨actV_put _ _ _ _, hG⟩
  · exact ov (op8_10 11) 36 (.bool false) (wo 4 29 false (hM 4 (by kernel_rfl))) (by rw [← hneq]; exact ex_bin (op := .neq) (t := 3) (t' := 3) (x := .tmp 34) (y := .tmp 35) (p := .int .i64 D) (q := .int .i64 d) (by kernel_rfl) (ea (hM 9 (by kernel_rfl))) (ea (hM 10 (by kernel_rfl))) (neq_run _ _ _ _ _)) ⟨actV_put _ _ _ _, hG⟩
  · exact ov (op8_10 12) 37 (.bool false) (by kernel_rfl) (e_pick (c := .tmp 29) (x := .const (.bool true)) (y := .tmp 36) (by kernel_rfl) (ea (hM 4 (by kernel_rfl))) rfl (ea (hM 11 (by kernel_rfl)))) ⟨actV_put _ _ _ _, hG⟩
  · exact ov (op8_10 13) 38 (.bool false) (by kernel_rfl) (e_move (x := .tmp 37) (by kernel_rfl) (ea (hM 12 (by kernel_rfl)))) ⟨actV_put _ _ _ _, hG⟩
  · exact ov (op8_10 14) 39 (.slice A len cp) (wo 13 38 false (hM 13 (by kernel_rfl))) (ex_load (ty := 45) (x := .tmp 5) (p := pV) (by kernel_rfl) (ea ((hV 5 (fun i a b => (by decide : ∀ i, i < 33 → (0 ≤ i → i < 20 → 5 ≠ dst810 i)) i (by omega) a b)).trans f5)) (lV _ hG)) ⟨actV_put _ _ _ _, hG⟩
  · exact ov (op8_10 15) 40 (.int .i64 nn) (wo 13 38 false (hM 13 (by kernel_rfl))) (ex_load (ty := 3) (x := .tmp 6) (p := pN) (by kernel_rfl) (ea ((hV 6 (fun i a b => (by decide : ∀ i, i < 33 → (0 ≤ i → i < 20 → 6 ≠ dst810 i)) i (by omega) a b)).trans f6)) (lN _ hG)) ⟨actV_put _ _ _ _, hG⟩
  · exact ov (op8_10 16) 41 (p1) (wo 13 38 false (hM 13 (by kernel_rfl))) (e_idx (t := 45) (x := .tmp 39) (y := .tmp 40) (by kernel_rfl) (ea (hM 14 (by kernel_rfl))) (ea (hM 15 (by kernel_rfl))) (hI _)) ⟨actV_put _ _ _ _, hG⟩
  · exact ov (op8_10 17) 42 (p3) (wo 13 38 false (hM 13 (by kernel_rfl))) (e_fld (t := 50) (x := .tmp 41) (k := 1) (by kernel_rfl) (ea (hM 16 (by kernel_rfl))) (h1 _)) ⟨actV_put _ _ _ _, hG⟩
  · exact ov (op8_10 18) 43 (vX) (wo 13 38 false (hM 13 (by kernel_rfl))) (ex_load (ty := 28) (x := .tmp 42) (p := p3) (by kernel_rfl) (ea (hM 17 (by kernel_rfl))) (lX _ hG)) ⟨actV_put _ _ _ _, hG⟩
  · exact ov (op8_10 19) 44 (vp) (wo 13 38 false (hM 13 (by kernel_rfl))) (ex_load (ty := 28) (x := .tmp 8) (p := pP) (by kernel_rfl) (ea ((hV 8 (fun i a b => (by decide : ∀ i, i < 33 → (0 ≤ i → i < 20 → 8 ≠ dst810 i)) i (by omega) a b)).trans f8)) (lP _ hG)) ⟨actV_put _ _ _ _, hG⟩
def val_gB0 (pN pV pP p1 p2 p3 vp vX : Value) (A : Option Addr) (len cp : Nat) (nn D d : Int) (b2 : Bool) (j : Nat) : Value := #[undef, undef, undef, undef, undef, undef, undef, undef, undef, undef, undef, undef, undef, undef, undef, undef, undef, undef, undef, undef, undef, .bool true, .bool true, .bool true, undef, undef, undef, undef, undef, undef, undef, undef, .bool true].getD j undef
set_option maxHeartbeats 4000000 in
set_option maxRecDepth 100000 in
theorem gB0 (pN pV pP p1 p2 p3 vp vX : Value) (A : Option Addr) (len cp : Nat) (nn D d : Int) (w5 : World)
    (lN : ∀ w, Below w5.heap.size w5 w → (Instr.loadAt 3 pN).run Try.prog w = .ok (.int .i64 nn) w) (lV : ∀ w, Below w5.heap.size w5 w → (Instr.loadAt 45 pV).run Try.prog w = .ok (.slice A len cp) w) (lP : ∀ w, Below w5.heap.size w5 w → (Instr.loadAt 28 pP).run Try.prog w = .ok vp w)
    (lD : ∀ w, Below w5.heap.size w5 w → (Instr.loadAt 3 p2).run Try.prog w = .ok (.int .i64 D) w) (lX : ∀ w, Below w5.heap.size w5 w → (Instr.loadAt 28 p3).run Try.prog w = .ok vX w)
    (hI : ∀ w, (Instr.indexAt 45 (.slice A len cp) (.int .i64 nn)).run Try.prog w = .ok p1 w) (h0 : ∀ w, (Instr.fieldAt 50 p1 0).run Try.prog w = .ok p2 w) (h1 : ∀ w, (Instr.fieldAt 50 p1 1).run Try.prog w = .ok p3 w) (hnn : nn < len) (b2 : Bool) (l n' : Nat) (Q : Exit → Act → World → Prop) (V0 : Nat → Value) (f38 : V0 38 = .bool false) (f45 : V0 45 = .bool false) (w : World) (hw : Below w5.heap.size w5 w)
    (hend : ∀ V w, Below w5.heap.size w5 w → (∀ k, (∀ i, 21 ≤ i → i < 33 → k ≠ dst810 i) → V k = V0 k) → (∀ j, 21 ≤ j → j < 33 → V (dst810 j) = val_gB0 pN pV pP p1 p2 p3 vp vX A len cp nn D d b2 j) → wpAnyIn (Fence.wide.inRound l) n' Try.prog .any ops8_10 Q (33 - 33) (listM 33 33) (actV 72 V) w) :
    wpAnyIn (Fence.wide.inRound l) n' Try.prog .any ops8_10 Q (33 - 21) (listM 33 21) (actV 72 V0) w := by
  refine seg_go 33 21 33 72 dst810 (val_gB0 pN pV pP p1 p2 p3 vp vX A len cp nn D d b2) (fun w => Below w5.heap.size w5 w) V0 (by kernel_rfl) (by omega) (by omega) (by kernel_rfl) hw ?_ hend
  intro i V w hi0 hi1 hG hV hL
  have hM : ∀ j, (decide (21 ≤ j ∧ j < 33) && bOn ops8_10 i j) = true → V (dst810 j) = val_gB0 pN pV pP p1 p2 p3 vp vX A len cp nn D d b2 j := fun j h => by
    rw [Bool.and_eq_true, decide_eq_true_eq] at h; exact hL j h.1.1 h.1.2 h.2
  rcases (by omega : i = 21 ∨ i = 22 ∨ i = 23 ∨ i = 24 ∨ i = 25 ∨ i = 26 ∨ i = 27 ∨ i = 28 ∨ i = 29 ∨ i = 30 ∨ i = 31 ∨ i = 32) with rfl | rfl | rfl | rfl | rfl | rfl | rfl | rfl | rfl | rfl | rfl | rfl
  · exact ov (op8_10 21) 46 (.bool true) (wo 13 38 false ((hV 38 (fun i a b => (by decide : ∀ i, i < 33 → (21 ≤ i → i < 33 → 38 ≠ dst810 i)) i (by omega) a b)).trans f38)) (e_not (t := 4) (x := .tmp 45) (by kernel_rfl) (ea ((hV 45 (fun i a b => (by decide : ∀ i, i < 33 → (21 ≤ i → i < 33 → 45 ≠ dst810 i)) i (by omega) a b)).trans f45))) ⟨actV_put _ _ _ _, hG⟩
  · exact ov (op8_10 22) 47 (.bool true) (by kernel_rfl) (e_pick (c := .tmp 38) (x := .const (.bool true)) (y := .tmp 46) (by kernel_rfl) (ea ((hV 38 (fun i a b => (by decide : ∀ i, i < 33 → (21 ≤ i → i < 33 → 38 ≠ dst810 i)) i (by omega) a b)).trans f38)) rfl (ea (hM 21 (by kernel_rfl)))) ⟨actV_put _ _ _ _, hG⟩
  · exact ov (op8_10 23) 48 (.bool true) (by kernel_rfl) (e_move (x := .tmp 47) (by kernel_rfl) (ea (hM 22 (by kernel_rfl)))) ⟨actV_put _ _ _ _, hG⟩
  · exact opIn_off (op8_10 24) 49 (by kernel_rfl) (by kernel_rfl) (wf 23 48 false (hM 23 (by kernel_rfl))) ⟨actV_put _ _ _ _, hG⟩
  · exact opIn_off (op8_10 25) 50 (by kernel_rfl) (by kernel_rfl) (wf 23 48 false (hM 23 (by kernel_rfl))) ⟨actV_put _ _ _ _, hG⟩
  · exact opIn_off (op8_10 26) 51 (by kernel_rfl) (by kernel_rfl) (wf 23 48 false (hM 23 (by kernel_rfl))) ⟨actV_put _ _ _ _, hG⟩
  · exact opIn_off (op8_10 27) 52 (by kernel_rfl) (by kernel_rfl) (wf 23 48 false (hM 23 (by kernel_rfl))) ⟨actV_put _ _ _ _, hG⟩
  · exact opIn_off (op8_10 28) 53 (by kernel_rfl) (by kernel_rfl) (wf 23 48 false (hM 23 (by kernel_rfl))) ⟨actV_put _ _ _ _, hG⟩
  · exact opIn_off (op8_10 29) 54 (by kernel_rfl) (by kernel_rfl) (wf 23 48 false (hM 23 (by kernel_rfl))) ⟨actV_put _ _ _ _, hG⟩
  · exact opIn_off (op8_10 30) 55 (by kernel_rfl) (by kernel_rfl) (wf 23 48 false (hM 23 (by kernel_rfl))) ⟨actV_put _ _ _ _, hG⟩
  · exact opIn_off (op8_10 31) 56 (by kernel_rfl) (by kernel_rfl) (wf 23 48 false (hM 23 (by kernel_rfl))) ⟨actV_put _ _ _ _, hG⟩
  · exact ov (op8_10 32) 57 (.bool true) (by kernel_rfl) (e_pick (c := .tmp 48) (x := .const (.bool true)) (y := .tmp 56) (by kernel_rfl) (ea (hM 23 (by kernel_rfl))) rfl rfl) ⟨actV_put _ _ _ _, hG⟩
def val_gB1 (pN pV pP p1 p2 p3 vp vX : Value) (A : Option Addr) (len cp : Nat) (nn D d : Int) (b2 : Bool) (j : Nat) : Value := #[undef, undef, undef, undef, undef, undef, undef, undef, undef, undef, undef, undef, undef, undef, undef, undef, undef, undef, undef, undef, undef, .bool false, .bool false, .bool false, vp, .slice A len cp, .int .i64 nn, p1, p3, vX].getD j undef
set_option maxHeartbeats 4000000 in
set_option maxRecDepth 100000 in
theorem gB1 (pN pV pP p1 p2 p3 vp vX : Value) (A : Option Addr) (len cp : Nat) (nn D d : Int) (w5 : World)
    (lN : ∀ w, Below w5.heap.size w5 w → (Instr.loadAt 3 pN).run Try.prog w = .ok (.int .i64 nn) w) (lV : ∀ w, Below w5.heap.size w5 w → (Instr.loadAt 45 pV).run Try.prog w = .ok (.slice A len cp) w) (lP : ∀ w, Below w5.heap.size w5 w → (Instr.loadAt 28 pP).run Try.prog w = .ok vp w)
    (lD : ∀ w, Below w5.heap.size w5 w → (Instr.loadAt 3 p2).run Try.prog w = .ok (.int .i64 D) w) (lX : ∀ w, Below w5.heap.size w5 w → (Instr.loadAt 28 p3).run Try.prog w = .ok vX w)
    (hI : ∀ w, (Instr.indexAt 45 (.slice A len cp) (.int .i64 nn)).run Try.prog w = .ok p1 w) (h0 : ∀ w, (Instr.fieldAt 50 p1 0).run Try.prog w = .ok p2 w) (h1 : ∀ w, (Instr.fieldAt 50 p1 1).run Try.prog w = .ok p3 w) (hnn : nn < len) (b2 : Bool) (l n' : Nat) (Q : Exit → Act → World → Prop) (V0 : Nat → Value) (f5 : V0 5 = pV) (f6 : V0 6 = pN) (f8 : V0 8 = pP) (f38 : V0 38 = .bool false) (f45 : V0 45 = .bool true) (w : World) (hw : Below w5.heap.size w5 w)
    (hend : ∀ V w, Below w5.heap.size w5 w → (∀ k, (∀ i, 21 ≤ i → i < 30 → k ≠ dst810 i) → V k = V0 k) → (∀ j, 21 ≤ j → j < 30 → V (dst810 j) = val_gB1 pN pV pP p1 p2 p3 vp vX A len cp nn D d b2 j) → wpAnyIn (Fence.wide.inRound l) n' Try.prog .any ops8_10 Q (33 - 30) (listM 33 30) (actV 72 V) w) :
    wpAnyIn (Fence.wide.inRound l) n' Try.prog .any ops8_10 Q (33 - 21) (listM 33 21) (actV 72 V0) w := by
  refine seg_go 33 21 30 72 dst810 (val_gB1 pN pV pP p1 p2 p3 vp vX A len cp nn D d b2) (fun w => Below w5.heap.size w5 w) V0 (by kernel_rfl) (by omega) (by omega) (by kernel_rfl) hw ?_ hend
  intro i V w hi0 hi1 hG hV hL
  have hM : ∀ j, (decide (21 ≤ j ∧ j < 30) && bOn ops8_10 i j) = true → V (dst810 j) = val_gB1 pN pV pP p1 p2 p3 vp vX A len cp nn D d b2 j := fun j h => by
    rw [Bool.and_eq_true, decide_eq_true_eq] at h; exact hL j h.1.1 h.1.2 h.2
  rcases (by omega : i = 21 ∨ i = 22 ∨ i = 23 ∨ i = 24 ∨ i = 25 ∨ i = 26 ∨ i = 27 ∨ i = 28 ∨ i = 29) with rfl | rfl | rfl | rfl | rfl | rfl | rfl | rfl | rfl
  · exact ov (op8_10 21) 46 (.bool false) (wo 13 38 false ((hV 38 (fun i a b => (by decide : ∀ i, i < 33 → (21 ≤ i → i < 30 → 38 ≠ dst810 i)) i (by omega) a b)).trans f38)) (e_not (t := 4) (x := .tmp 45) (by kernel_rfl) (ea ((hV 45 (fun i a b => (by decide : ∀ i, i < 33 → (21 ≤ i → i < 30 → 45 ≠ dst810 i)) i (by omega) a b)).trans f45))) ⟨actV_put _ _ _ _, hG⟩
  · exact ov (op8_10 22) 47 (.bool false) (by kernel_rfl) (e_pick (c := .tmp 38) (x := .const (.bool true)) (y := .tmp 46) (by kernel_rfl) (ea ((hV 38 (fun i a b => (by decide : ∀ i, i < 33 → (21 ≤ i → i < 30 → 38 ≠ dst810 i)) i (by omega) a b)).trans f38)) rfl (ea (hM 21 (by kernel_rfl)))) ⟨actV_put _ _ _ _, hG⟩
  · exact ov (op8_10 23) 48 (.bool false) (by kernel_rfl) (e_move (x := .tmp 47) (by kernel_rfl) (ea (hM 22 (by kernel_rfl)))) ⟨actV_put _ _ _ _, hG⟩
  · exact ov (op8_10 24) 49 (vp) (wo 23 48 false (hM 23 (by kernel_rfl))) (ex_load (ty := 28) (x := .tmp 8) (p := pP) (by kernel_rfl) (ea ((hV 8 (fun i a b => (by decide : ∀ i, i < 33 → (21 ≤ i → i < 30 → 8 ≠ dst810 i)) i (by omega) a b)).trans f8)) (lP _ hG)) ⟨actV_put _ _ _ _, hG⟩
  · exact ov (op8_10 25) 50 (.slice A len cp) (wo 23 48 false (hM 23 (by kernel_rfl))) (ex_load (ty := 45) (x := .tmp 5) (p := pV) (by kernel_rfl) (ea ((hV 5 (fun i a b => (by decide : ∀ i, i < 33 → (21 ≤ i → i < 30 → 5 ≠ dst810 i)) i (by omega) a b)).trans f5)) (lV _ hG)) ⟨actV_put _ _ _ _, hG⟩
  · exact ov (op8_10 26) 51 (.int .i64 nn) (wo 23 48 false (hM 23 (by kernel_rfl))) (ex_load (ty := 3) (x := .tmp 6) (p := pN) (by kernel_rfl) (ea ((hV 6 (fun i a b => (by decide : ∀ i, i < 33 → (21 ≤ i → i < 30 → 6 ≠ dst810 i)) i (by omega) a b)).trans f6)) (lN _ hG)) ⟨actV_put _ _ _ _, hG⟩
  · exact ov (op8_10 27) 52 (p1) (wo 23 48 false (hM 23 (by kernel_rfl))) (e_idx (t := 45) (x := .tmp 50) (y := .tmp 51) (by kernel_rfl) (ea (hM 25 (by kernel_rfl))) (ea (hM 26 (by kernel_rfl))) (hI _)) ⟨actV_put _ _ _ _, hG⟩
  · exact ov (op8_10 28) 53 (p3) (wo 23 48 false (hM 23 (by kernel_rfl))) (e_fld (t := 50) (x := .tmp 52) (k := 1) (by kernel_rfl) (ea (hM 27 (by kernel_rfl))) (h1 _)) ⟨actV_put _ _ _ _, hG⟩
  · exact ov (op8_10 29) 54 (vX) (wo 23 48 false (hM 23 (by kernel_rfl))) (ex_load (ty := 28) (x := .tmp 53) (p := p3) (by kernel_rfl) (ea (hM 28 (by kernel_rfl))) (lX _ hG)) ⟨actV_put _ _ _ _, hG⟩
def val_gB2 (pN pV pP p1 p2 p3 vp vX : Value) (A : Option Addr) (len cp : Nat) (nn D d : Int) (b2 : Bool) (j : Nat) : Value := #[undef, undef, undef, undef, undef, undef, undef, undef, undef, undef, undef, undef, undef, undef, undef, undef, undef, undef, undef, undef, undef, undef, undef, undef, undef, undef, undef, undef, undef, undef, undef, .bool (!b2), .bool (!b2)].getD j undef
set_option maxHeartbeats 4000000 in
set_option maxRecDepth 100000 in
theorem gB2 (pN pV pP p1 p2 p3 vp vX : Value) (A : Option Addr) (len cp : Nat) (nn D d : Int) (w5 : World)
    (lN : ∀ w, Below w5.heap.size w5 w → (Instr.loadAt 3 pN).run Try.prog w = .ok (.int .i64 nn) w) (lV : ∀ w, Below w5.heap.size w5 w → (Instr.loadAt 45 pV).run Try.prog w = .ok (.slice A len cp) w) (lP : ∀ w, Below w5.heap.size w5 w → (Instr.loadAt 28 pP).run Try.prog w = .ok vp w)
    (lD : ∀ w, Below w5.heap.size w5 w → (Instr.loadAt 3 p2).run Try.prog w = .ok (.int .i64 D) w) (lX : ∀ w, Below w5.heap.size w5 w → (Instr.loadAt 28 p3).run Try.prog w = .ok vX w)
    (hI : ∀ w, (Instr.indexAt 45 (.slice A len cp) (.int .i64 nn)).run Try.prog w = .ok p1 w) (h0 : ∀ w, (Instr.fieldAt 50 p1 0).run Try.prog w = .ok p2 w) (h1 : ∀ w, (Instr.fieldAt 50 p1 1).run Try.prog w = .ok p3 w) (hnn : nn < len) (b2 : Bool) (l n' : Nat) (Q : Exit → Act → World → Prop) (V0 : Nat → Value) (f48 : V0 48 = .bool false) (f55 : V0 55 = .bool b2) (w : World) (hw : Below w5.heap.size w5 w)
    (hend : ∀ V w, Below w5.heap.size w5 w → (∀ k, (∀ i, 31 ≤ i → i < 33 → k ≠ dst810 i) → V k = V0 k) → (∀ j, 31 ≤ j → j < 33 → V (dst810 j) = val_gB2 pN pV pP p1 p2 p3 vp vX A len cp nn D d b2 j) → wpAnyIn (Fence.wide.inRound l) n' Try.prog .any ops8_10 Q (33 - 33) (listM 33 33) (actV 72 V) w) :
    wpAnyIn (Fence.wide.inRound l) n' Try.prog .any ops8_10 Q (33 - 31) (listM 33 31) (actV 72 V0) w := by
  refine seg_go 33 31 33 72 dst810 (val_gB2 pN pV pP p1 p2 p3 vp vX A len cp nn D d b2) (fun w => Below w5.heap.size w5 w) V0 (by kernel_rfl) (by omega) (by omega) (by kernel_rfl) hw ?_ hend
  intro i V w hi0 hi1 hG hV hL
  have hM : ∀ j, (decide (31 ≤ j ∧ j < 33) && bOn ops8_10 i j) = true → V (dst810 j) = val_gB2 pN pV pP p1 p2 p3 vp vX A len cp nn D d b2 j := fun j h => by
    rw [Bool.and_eq_true, decide_eq_true_eq] at h; exact hL j h.1.1 h.1.2 h.2
  rcases (by omega : i = 31 ∨ i = 32) with rfl | rfl
  · exact ov (op8_10 31) 56 (.bool (!b2)) (wo 23 48 false ((hV 48 (fun i a b => (by decide : ∀ i, i < 33 → (31 ≤ i → i < 33 → 48 ≠ dst810 i)) i (by omega) a b)).trans f48)) (e_not (t := 4) (x := .tmp 55) (by kernel_rfl) (ea ((hV 55 (fun i a b => (by decide : ∀ i, i < 33 → (31 ≤ i → i < 33 → 55 ≠ dst810 i)) i (by omega) a b)).trans f55))) ⟨actV_put _ _ _ _, hG⟩
  · exact ov (op8_10 32) 57 (.bool (!b2)) (by kernel_rfl) (e_pick (c := .tmp 48) (x := .const (.bool true)) (y := .tmp 56) (by kernel_rfl) (ea ((hV 48 (fun i a b => (by decide : ∀ i, i < 33 → (31 ≤ i → i < 33 → 48 ≠ dst810 i)) i (by omega) a b)).trans f48)) rfl (ea (hM 31 (by kernel_rfl)))) ⟨actV_put _ _ _ _, hG⟩
set_option maxHeartbeats 4000000 in
set_option maxRecDepth 100000 in
theorem r8_10 (pN pV pP p1 p2 p3 vp vX : Value) (A : Option Addr) (len cp : Nat) (nn D d : Int) (w5 : World)
    (lN : ∀ w, Below w5.heap.size w5 w → (Instr.loadAt 3 pN).run Try.prog w = .ok (.int .i64 nn) w) (lV : ∀ w, Below w5.heap.size w5 w → (Instr.loadAt 45 pV).run Try.prog w = .ok (.slice A len cp) w) (lP : ∀ w, Below w5.heap.size w5 w → (Instr.loadAt 28 pP).run Try.prog w = .ok vp w)
    (lD : ∀ w, Below w5.heap.size w5 w → (Instr.loadAt 3 p2).run Try.prog w = .ok (.int .i64 D) w) (lX : ∀ w, Below w5.heap.size w5 w → (Instr.loadAt 28 p3).run Try.prog w = .ok vX w)
    (hI : ∀ w, (Instr.indexAt 45 (.slice A len cp) (.int .i64 nn)).run Try.prog w = .ok p1 w) (h0 : ∀ w, (Instr.fieldAt 50 p1 0).run Try.prog w = .ok p2 w) (h1 : ∀ w, (Instr.fieldAt 50 p1 1).run Try.prog w = .ok p3 w) (hnn : nn < len) (right : Prop) (hRD : right → D = d)
    (hS1 : ∀ w, Below w5.heap.size w5 w → Calls Try.prog 26 #[vX, vp] w fun e w' => Says right e ∧ Below w.heap.size w w') (hS2 : ∀ w, Below w5.heap.size w5 w → Calls Try.prog 27 #[vp, vX] w fun e w' => Says right e ∧ Below w.heap.size w w')
    (l n' : Nat) (Q : Exit → Act → World → Prop) (c0 c1 c2 c3 c4 c9 c10 c11 c12 c13 c14 c15 c16 c17 c18 c19 c20 c21 c22 c23 c24 c25 c26 c27 c28 c29 c30 c31 c32 c33 c34 c35 c36 c37 c38 c39 c40 c41 c42 c43 c44 c45 c46 c47 c48 c49 c50 c51 c52 c53 c54 c55 c56 c57 c58 c59 c60 c61 c62 c63 c64 c65 c66 c67 c68 c69 c70 c71 : Value)
    (hQ : ∀ (u25 u26 u27 u28 u29 u30 u31 u32 u33 u34 u35 u36 u37 u38 u39 u40 u41 u42 u43 u44 u45 u46 u47 u48 u49 u50 u51 u52 u53 u54 u55 u56 : Value) (c : Bool) (w6 : World), Below w5.heap.size w5 w6 → (right → c = false) → Q .normal ⟨#[c0, c1, c2, c3, c4, pV, pN, .int .i64 d, pP, c9, c10, c11, c12, c13, c14, c15, c16, c17, c18, c19, c20, c21, c22, c23, c24, u25, u26, u27, u28, u29, u30, u31, u32, u33, u34, u35, u36, u37, u38, u39, u40, u41, u42, u43, u44, u45, u46, u47, u48, u49, u50, u51, u52, u53, u54, u55, u56, .bool c, c58, c59, c60, c61, c62, c63, c64, c65, c66, c67, c68, c69, c70, c71], []⟩ w6) : reg8_10.wpIn (Fence.wide.inRound l) n' Try.prog Q ⟨#[c0, c1, c2, c3, c4, pV, pN, .int .i64 d, pP, c9, c10, c11, c12, c13, c14, c15, c16, c17, c18, c19, c20, c21, c22, c23, c24, c25, c26, c27, c28, c29, c30, c31, c32, c33, c34, c35, c36, c37, c38, c39, c40, c41, c42, c43, c44, c45, c46, c47, c48, c49, c50, c51, c52, c53, c54, c55, c56, c57, c58, c59, c60, c61, c62, c63, c64, c65, c66, c67, c68, c69, c70, c71], []⟩ w5 := by
  obtain ⟨V0, hV0⟩ : ∃ V0 : Nat → Value, V0 = fun k => (#[c0, c1, c2, c3, c4, pV, pN, .int .i64 d, pP, c9, c10, c11, c12, c13, c14, c15, c16, c17, c18, c19, c20, c21, c22, c23, c24, c25, c26, c27, c28, c29, c30, c31, c32, c33, c34, c35, c36, c37, c38, c39, c40, c41, c42, c43, c44, c45, c46, c47, c48, c49, c50, c51, c52, c53, c54, c55, c56, c57, c58, c59, c60, c61, c62, c63, c64, c65, c66, c67, c68, c69, c70, c71] : Array Value).getD k undef := ⟨_, rfl⟩
  have e0 : (⟨#[c0, c1, c2, c3, c4, pV, pN, .int .i64 d, pP, c9, c10, c11, c12, c13, c14, c15, c16, c17, c18, c19, c20, c21, c22, c23, c24, c25, c26, c27, c28, c29, c30, c31, c32, c33, c34, c35, c36, c37, c38, c39, c40, c41, c42, c43, c44, c45, c46, c47, c48, c49, c50, c51, c52, c53, c54, c55, c56, c57, c58, c59, c60, c61, c62, c63, c64, c65, c66, c67, c68, c69, c70, c71], []⟩ : Act) = actV 72 V0 := by rw [hV0]; kernel_rfl
  have g5 : V0 5 = pV := by rw [hV0]; rfl
  have g6 : V0 6 = pN := by rw [hV0]; rfl
  have g7 : V0 7 = .int .i64 d := by rw [hV0]; rfl
  have g8 : V0 8 = pP := by rw [hV0]; rfl
  have fin : ∀ (V : Nat → Value) (c : Bool) (w : World), Below w5.heap.size w5 w → (∀ k, (∀ i, i < 33 → k ≠ dst810 i) → V k = V0 k) → V 57 = .bool c → (right → c = false) → Q .normal (actV 72 V) w := by
    intro V c w hw hV h57 hc
    have hdst : ∀ i, i < 33 → ([25, 26, 27, 28, 29, 30, 31, 32, 33, 34, 35, 36, 37, 38, 39, 40, 41, 42, 43, 44, 45, 46, 47, 48, 49, 50, 51, 52, 53, 54, 55, 56, 57] : List Nat).contains (dst810 i) = true := by decide
    have eV : V = fun k => if ([25, 26, 27, 28, 29, 30, 31, 32, 33, 34, 35, 36, 37, 38, 39, 40, 41, 42, 43, 44, 45, 46, 47, 48, 49, 50, 51, 52, 53, 54, 55, 56, 57] : List Nat).contains k = true then V k else V0 k := funext fun k => by
      by_cases h : ([25, 26, 27, 28, 29, 30, 31, 32, 33, 34, 35, 36, 37, 38, 39, 40, 41, 42, 43, 44, 45, 46, 47, 48, 49, 50, 51, 52, 53, 54, 55, 56, 57] : List Nat).contains k = true
      · rw [if_pos h]
      · rw [if_neg h]; exact hV k (fun i hi e => h (by rw [e]; exact hdst i hi))
    have e1 : actV 72 V = ⟨#[c0, c1, c2, c3, c4, pV, pN, .int .i64 d, pP, c9, c10, c11, c12, c13, c14, c15, c16, c17, c18, c19, c20, c21, c22, c23, c24, V 25, V 26, V 27, V 28, V 29, V 30, V 31, V 32, V 33, V 34, V 35, V 36, V 37, V 38, V 39, V 40, V 41, V 42, V 43, V 44, V 45, V 46, V 47, V 48, V 49, V 50, V 51, V 52, V 53, V 54, V 55, V 56, V 57, c58, c59, c60, c61, c62, c63, c64, c65, c66, c67, c68, c69, c70, c71], []⟩ := by
      have : actV 72 (fun k => if ([25, 26, 27, 28, 29, 30, 31, 32, 33, 34, 35, 36, 37, 38, 39, 40, 41, 42, 43, 44, 45, 46, 47, 48, 49, 50, 51, 52, 53, 54, 55, 56, 57] : List Nat).contains k = true then V k else V0 k) = ⟨#[c0, c1, c2, c3, c4, pV, pN, .int .i64 d, pP, c9, c10, c11, c12, c13, c14, c15, c16, c17, c18, c19, c20, c21, c22, c23, c24, V 25, V 26, V 27, V 28, V 29, V 30, V 31, V 32, V 33, V 34, V 35, V 36, V 37, V 38, V 39, V 40, V 41, V 42, V 43, V 44, V 45, V 46, V 47, V 48, V 49, V 50, V 51, V 52, V 53, V 54, V 55, V 56, V 57, c58, c59, c60, c61, c62, c63, c64, c65, c66, c67, c68, c69, c70, c71], []⟩ := by rw [hV0]; kernel_rfl
      rw [← eV] at this
      exact this
    rw [e1, h57]
    exact hQ _ _ _ _ _ _ _ _ _ _ _ _ _ _ _ _ _ _ _ _ _ _ _ _ _ _ _ _ _ _ _ _ c w hw hc
  have fr : ∀ (m0 m1 : Nat), m1 ≤ 33 → ∀ k, (∀ i, i < 33 → k ≠ dst810 i) → ∀ i, m0 ≤ i → i < m1 → k ≠ dst810 i := fun m0 m1 h k hk i _ hi => hk i (by omega)
  rw [e0, reg8_10_is]
  refine region_segs 33 (by kernel_rfl) (by kernel_rfl) ?_
  by_cases hD : D = d
  rotate_left
  · refine gA pN pV pP p1 p2 p3 vp vX A len cp nn D d w5 lN lV lP lD lX hI h0 h1 hnn true (by simpa using hD) l n' Q V0 g5 g6 g7 _ (Below.refl _ _).drew ?_
    intro V w hw hV hL
    exact any_doneIn (by kernel_rfl) (fin V true w hw (fun k hk => hV k (fr 0 33 (by omega) k hk)) (hL 32 (by omega) (by omega)) (fun h => absurd (hRD h) hD))
  · refine gB pN pV pP p1 p2 p3 vp vX A len cp nn D d w5 lN lV lP lD lX hI h0 h1 hnn true (by simpa using hD) l n' Q V0 g5 g6 g7 g8 _ (Below.refl _ _).drew ?_
    intro V1 w1 hw1 hV1 hL1
    have e38 : V1 38 = .bool false := hL1 13 (by omega) (by omega)
    have e43 : V1 43 = vX := hL1 18 (by omega) (by omega)
    have e44 : V1 44 = vp := hL1 19 (by omega) (by omega)
    have hx : (execOp (actV 72 V1).eval (op8_10 20)).run Try.prog w1 = .ok (.enter 26 #[V1 43, V1 44]) w1 := by kernel_rfl
    rw [e43, e44] at hx
    refine any_oneIn (i := 20) (fuel := 12) (by kernel_rfl) (opIn_call (op8_10 20) 45 26 #[vX, vp] (by kernel_rfl) (by kernel_rfl) (by kernel_rfl) (wanted_on (g := 13) (d := 38) (b := false) (by kernel_rfl) (by kernel_rfl) ((show (actV 72 V1).tmps[38]? = some (V1 38) by kernel_rfl).trans (congrArg some e38))) hx ((hS1 w1 hw1).mono ?_))
    rintro e w2 ⟨⟨b1, rfl, hb1⟩, hb⟩
    have hw2 : Below w5.heap.size w5 w2 := below_step hw1 hb
    refine ⟨.bool b1, rfl, ?_⟩
    rw [actV_put, show (listM 33 20).setIfInBounds 20 true = listM 33 21 by kernel_rfl]
    have k45 : updV V1 45 (.bool b1) 45 = .bool b1 := updV_same _ _ _
    have fU : ∀ k, (∀ i, i < 33 → k ≠ dst810 i) → updV V1 45 (.bool b1) k = V0 k := fun k hk => (updV_ne (hk 20 (by omega))).trans (hV1 k (fr 0 20 (by omega) k hk))
    cases b1 with
    | false =>
      refine gB0 pN pV pP p1 p2 p3 vp vX A len cp nn D d w5 lN lV lP lD lX hI h0 h1 hnn true l n' Q (updV V1 45 (.bool false)) ((updV_ne (by decide)).trans e38) k45 w2 hw2 ?_
      intro V w hw hV hL
      exact any_doneIn (by kernel_rfl) (fin V true w hw (fun k hk => (hV k (fr 21 33 (by omega) k hk)).trans (fU k hk)) (hL 32 (by omega) (by omega)) (fun h => absurd (hb1 h) (by decide)))
    | true =>
      have q5 : V1 5 = pV := (hV1 5 (fun i _ h => (by decide : ∀ i, i < 33 → 5 ≠ dst810 i) i (by omega))).trans g5
      have q6 : V1 6 = pN := (hV1 6 (fun i _ h => (by decide : ∀ i, i < 33 → 6 ≠ dst810 i) i (by omega))).trans g6
      have q8 : V1 8 = pP := (hV1 8 (fun i _ h => (by decide : ∀ i, i < 33 → 8 ≠ dst810 i) i (by omega))).trans g8
      refine gB1 pN pV pP p1 p2 p3 vp vX A len cp nn D d w5 lN lV lP lD lX hI h0 h1 hnn true l n' Q (updV V1 45 (.bool true)) ((updV_ne (by decide)).trans q5) ((updV_ne (by decide)).trans q6) ((updV_ne (by decide)).trans q8) ((updV_ne (by decide)).trans e38) k45 w2 hw2 ?_
      intro V3 w3 hw3 hV3 hL3
      have e48 : V3 48 = .bool false := hL3 23 (by omega) (by omega)
      have e49 : V3 49 = vp := hL3 24 (by omega) (by omega)
      have e54 : V3 54 = vX := hL3 29 (by omega) (by omega)
      have hx : (execOp (actV 72 V3).eval (op8_10 30)).run Try.prog w3 = .ok (.enter 27 #[V3 49, V3 54]) w3 := by kernel_rfl
      rw [e49, e54] at hx
      refine any_oneIn (i := 30) (fuel := 2) (by kernel_rfl) (opIn_call (op8_10 30) 55 27 #[vp, vX] (by kernel_rfl) (by kernel_rfl) (by kernel_rfl) (wanted_on (g := 23) (d := 48) (b := false) (by kernel_rfl) (by kernel_rfl) ((show (actV 72 V3).tmps[48]? = some (V3 48) by kernel_rfl).trans (congrArg some e48))) hx ((hS2 w3 hw3).mono ?_))
      rintro e w4 ⟨⟨b2, rfl, hb2⟩, hb4⟩
      have hw4 : Below w5.heap.size w5 w4 := below_step hw3 hb4
      refine ⟨.bool b2, rfl, ?_⟩
      rw [actV_put, show (listM 33 30).setIfInBounds 30 true = listM 33 31 by kernel_rfl]
      refine gB2 pN pV pP p1 p2 p3 vp vX A len cp nn D d w5 lN lV lP lD lX hI h0 h1 hnn b2 l n' Q (updV V3 55 (.bool b2)) ((updV_ne (by decide)).trans e48) (updV_same _ _ _) w4 hw4 ?_
      intro V w hw hV hL
      exact any_doneIn (by kernel_rfl) (fin V (!b2) w hw (fun k hk => (hV k (fr 31 33 (by omega) k hk)).trans ((updV_ne (hk 30 (by omega))).trans ((hV3 k (fr 21 30 (by omega) k hk)).trans (fU k hk)))) (hL 32 (by omega) (by omega)) (fun h => by rw [hb2 h]; rfl))
end Go.Proofs.Ytjkhajcngapjcaa.Q
