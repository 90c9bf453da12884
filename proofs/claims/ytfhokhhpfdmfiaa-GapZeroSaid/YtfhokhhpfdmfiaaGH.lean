/- A drawn region in parts: the frame and the list spelled otherwise; a comparison of a letter with itself. -/
import Derived.Test.YtfhokhhpfdmfiaaHand
import Derived.Test.YtfhokhhpfdmfiaaPZ0
import Derived.Test.YtfhokhhpfdmfiaaRow
namespace Go.Proofs.Ytfhokhhpfdmfiaa
open Go.RowKit

theorem hd_list {P : Program} {md : Region.Mode} {ops : Array Oper} {Q' : Exit → Act → World → Prop} {S : World → Prop} {fuel : Nat} {l l' : Array Bool} {a a' : Act} {w : World} (ha : a = a') (hl : l = l') (h : wpAnyH P md ops Q' S fuel l' a' w) : wpAnyH P md ops Q' S fuel l a w := by
  subst ha hl
  exact h
/-- The operation of a number; whether it may be taken, skipped, stepped. -/
def opN (ops : Array Oper) (i : Nat) : Oper := (ops[i]?).getD ⟨none, .move (.tmp 0), 0, "", #[], none⟩
def atOk (ops : Array Oper) (i d : Nat) : Bool := decide (i < ops.size) && ((opN ops i).dst == some d)
def takeOk (ops : Array Oper) (l : Array Bool) (a : Act) (i d : Nat) (on : Bool) : Bool := atOk ops i d && (Region.noSelect ops && (Region.free .any ops l i && ((Region.ready .any ops l).contains i && (Region.wanted (opN ops i) (yielded ops a.tmps) == on))))
def stepOk (ops : Array Oper) (l : Array Bool) (a : Act) (i d : Nat) (on : Bool) : Bool := atOk ops i d && ((Region.ready .any ops l == [i]) && (Region.wanted (opN ops i) (yielded ops a.tmps) == on))
section
variable {P : Program} {ops : Array Oper} {Q : Exit → Act → World → Prop} {S : World → Prop} {fuel : Nat} {l : Array Bool} {a : Act} {w : World}
theorem at_is {i d : Nat} (h : atOk ops i d = true) : ops[i]? = some (opN ops i) ∧ (opN ops i).dst = some d := by
  simp only [atOk, Bool.and_eq_true, decide_eq_true_eq, beq_iff_eq] at h
  exact ⟨by unfold opN; rw [Array.getElem?_eq_getElem h.1]; rfl, h.2⟩
theorem ht (i d : Nat) (v : Value) (hok : takeOk ops l a i d true = true) (hy : ∀ w, S w → (execOp a.eval (opN ops i)).run P w = .ok (.value v) w) (hS : S w) (h : wpAnyH P .any ops (NoPanic Q) S fuel (l.setIfInBounds i true) (a.put (some d) v) w) : wpAnyH P .any ops (NoPanic Q) S (fuel + 1) l a w := by
  simp only [takeOk, Bool.and_eq_true, beq_iff_eq] at hok
  obtain ⟨h1, h2, h3, h4, h5⟩ := hok
  exact hd_take (opN ops i) (some d) v (at_is h1).1 (at_is h1).2 h2 h3 h4 h5 hy hS h
theorem hl (i d ty t : Nat) {v p : Value} (hok : takeOk ops l a i d true = true) (ho : (opN ops i).op = .load ty (.tmp t)) (hx : a.eval (.tmp t) = p) (hy : ∀ w, S w → (Instr.loadAt ty p).run P w = .ok v w) (hS : S w) (h : wpAnyH P .any ops (NoPanic Q) S fuel (l.setIfInBounds i true) (a.put (some d) v) w) : wpAnyH P .any ops (NoPanic Q) S (fuel + 1) l a w :=
  ht i d v hok (fun w hw => ex_load ho hx (hy w hw)) hS h
theorem hk (i d : Nat) (hok : takeOk ops l a i d false = true) (hS : S w) (h : wpAnyH P .any ops (NoPanic Q) S fuel (l.setIfInBounds i true) (a.put (some d) undef) w) : wpAnyH P .any ops (NoPanic Q) S (fuel + 1) l a w := by
  simp only [takeOk, Bool.and_eq_true, beq_iff_eq] at hok
  obtain ⟨h1, h2, h3, h4, h5⟩ := hok
  exact hd_skip (opN ops i) (some d) (at_is h1).1 (at_is h1).2 h2 h3 h4 h5 hS h
theorem hs (i d : Nat) (hok : stepOk ops l a i d false = true) (hS : S w) (h : wpAnyH P .any ops (NoPanic Q) S fuel (l.setIfInBounds i true) (a.put (some d) undef) w) : wpAnyH P .any ops (NoPanic Q) S (fuel + 1) l a w := by
  simp only [stepOk, Bool.and_eq_true, beq_iff_eq] at hok
  obtain ⟨h1, h2, h3⟩ := hok
  exact hd_stepoff (opN ops i) (some d) (at_is h1).1 (at_is h1).2 h2 h3 hS h
/-- A call; all later worlds meet S. -/
theorem hc {w5 : World} (i d : Nat) {f : FuncId} {args : Array Value} {v : Value} (hok : stepOk ops l a i d true = true) (hc : Calls P f args w fun e w' => e = .returned v ∧ RowKit.Below w.heap.size w w') (hx : (execOp a.eval (opN ops i)).run P w = .ok (.enter f args) w)
    (hS : ∀ w', RowKit.Below w5.heap.size w5 w' → S w') (hb : RowKit.Below w5.heap.size w5 w) (h : ∀ w', RowKit.Below w5.heap.size w5 w' → S w' → wpAnyH P .any ops (NoPanic Q) S fuel (l.setIfInBounds i true) (a.put (some d) v) w') : wpAnyH P .any ops (NoPanic Q) S (fuel + 1) l a w := by
  simp only [stepOk, Bool.and_eq_true, beq_iff_eq] at hok
  obtain ⟨h1, h2, h3⟩ := hok
  refine hd_call (opN ops i) (some d) f args v (fun w' => RowKit.Below w.heap.size w w') (at_is h1).1 (at_is h1).2 h2 h3 hx hc fun w' hb' => ?_
  have B := Go.Proofs.YtfhokhhpfdmfiaaW.PrintWords.below_step hb hb'
  exact ⟨hS w' B, h w' B (hS w' B)⟩
end
theorem eqb_run (b : Bool) (u v : Operand) (w : World) : (do eqGuard .eql 4 u v (.bool b) (.bool b); binOp .eql 4 (.bool b) (.bool b) : Sem Value).run Try.prog w = .ok (.bool true) w := by cases b <;> kernel_rfl
theorem ex_index {P : Program} {o : Oper} {a : Act} {w : World} {v : Value} {t : TypeId} {x y : Operand} {p q : Value} (ho : o.op = .indexAddr t x y) (hx : a.eval x = p) (hy : a.eval y = q) (h : (Instr.indexAt t p q).run P w = .ok v w) : (execOp a.eval o).run P w = .ok (.value v) w := by
  unfold execOp
  simp only [ho, hx, hy, Sem.run_bind, h, Result.andThen_ok, Sem.run_pure]
theorem idx22 (b off n c j : Nat) (h : j < n) (w : World) : (Instr.indexAt 22 (.slice (some ⟨b, off, none⟩) n c) (.int .i64 (j : Int))).run Try.prog w = .ok (.pointer (some ⟨b, off + j * 16, none⟩)) w := by
  have h1 : (j : Int) < n := by omega
  have h0 : (0 : Int) ≤ j := by omega
  go_simp
theorem neq_run (x y : Int) (b : Bool) (h : (!(x == y)) = b) (u v : Operand) (w : World) : (do eqGuard .neq 3 u v (.int .i64 x) (.int .i64 y); binOp .neq 3 (.int .i64 x) (.int .i64 y) : Sem Value).run Try.prog w = .ok (.bool b) w := by
  have e : (do eqGuard .neq 3 u v (.int .i64 x) (.int .i64 y); binOp .neq 3 (.int .i64 x) (.int .i64 y) : Sem Value).run Try.prog w = .ok (.bool (!(x == y))) w := by kernel_rfl
  rw [e, h]
theorem lss_run (x y : Int) (b : Bool) (h : decide (x < y) = b) (u v : Operand) (w : World) : (do eqGuard .lss 3 u v (.int .i64 x) (.int .i64 y); binOp .lss 3 (.int .i64 x) (.int .i64 y) : Sem Value).run Try.prog w = .ok (.bool b) w := by
  have e : (do eqGuard .lss 3 u v (.int .i64 x) (.int .i64 y); binOp .lss 3 (.int .i64 x) (.int .i64 y) : Sem Value).run Try.prog w = .ok (.bool (decide (x < y))) w := by kernel_rfl
  rw [e, h]
theorem load_boxC {w : World} {b o : Nat} {s : Nat → SetM} {v : Nat → SetV} (h : BoxC w b o s v) : (Instr.loadAt 28 (.pointer (some ⟨b, o, none⟩))).run Try.prog w = .ok (.agg ⟨boxVals s v⟩) w :=
  run_loadAt_mid w b o 28 (boxVals s v) _ (fun j u hj => boxC_vals h j u hj) Try.underlying28 rfl (by kernel_rfl)
/-- The region of a number. -/
def regAt (k : Nat) : Code → Option Code
  | .region id ops b => if id = k then some (.region id ops b) else none
  | .loop c => regAt k c
  | .seq a b => match regAt k a with
    | some c => some c
    | none => regAt k b
  | .block _ c => regAt k c
  | .scope c => regAt k c
  | .cond _ a b => match regAt k a with
    | some c => some c
    | none => regAt k b
  | _ => none
def opsOf : Code → Array Oper
  | .region _ ops _ => ops
  | _ => #[]
end Go.Proofs.Ytfhokhhpfdmfiaa
