/- A region that draws its order, walked by hand: one operation a step, by laws whose conditions are reckoned; the frame may be as it will. -/
import Derived.Deep.RegionHeld3
import Derived.KernelRfl
namespace Go.Proofs.Ytfhokhhpfdmfiaa

section
variable {P : Program} {md : Region.Mode} {ops : Array Oper} {Q : Exit → Act → World → Prop} {S : World → Prop} {fuel : Nat} {listed : Array Bool} {a : Act} {w : World}

theorem hd_start {id n : Nat} (S : World → Prop) (hm : P.follows .mixedOrders = true) (hn : ops.size = n) (hS : S w.drew) (h : wpAnyH P .any ops (NoPanic Q) S n (Array.replicate n false) a w.drew) : (Code.region id ops true).wp P Q a w := by
  subst hn
  exact wp_region_noPanic (wp_region_held_drew hm hS fun _ => h)
theorem hd_done (hr : Region.ready md ops listed = []) (h : Q .normal a w) : wpAnyH P md ops (NoPanic Q) S fuel listed a w := wpAnyH_done hr (NoPanic.normal h) _
theorem hd_end {b : Act} (hr : Region.ready md ops listed = []) (e : a = b) (h : Q .normal b w) : wpAnyH P md ops (NoPanic Q) S fuel listed a w := by
  subst e
  exact hd_done hr h
/-- An operation that yields a value. -/
theorem hd_take {i : Nat} (oi : Oper) (d : Option Tmp) (v : Value) (hi : ops[i]? = some oi) (hd : oi.dst = d) (hs : Region.noSelect ops = true) (hf : Region.free md ops listed i = true) (hr : (Region.ready md ops listed).contains i = true)
    (hw : Region.wanted oi (yielded ops a.tmps) = true) (hy : ∀ w, S w → (execOp a.eval oi).run P w = .ok (.value v) w) (hS : S w) (h : wpAnyH P md ops (NoPanic Q) S fuel (listed.setIfInBounds i true) (a.put d v) w) : wpAnyH P md ops (NoPanic Q) S (fuel + 1) listed a w := by
  subst hd
  exact wpAnyH_take hi hs hf hr (fun _ _ _ h => h) (.inl ⟨hw, hy⟩) hS h
/-- An operation that is guarded off. -/
theorem hd_skip {i : Nat} (oi : Oper) (d : Option Tmp) (hi : ops[i]? = some oi) (hd : oi.dst = d) (hs : Region.noSelect ops = true) (hf : Region.free md ops listed i = true) (hr : (Region.ready md ops listed).contains i = true)
    (hw : Region.wanted oi (yielded ops a.tmps) = false) (hS : S w) (h : wpAnyH P md ops (NoPanic Q) S fuel (listed.setIfInBounds i true) (a.put d undef) w) : wpAnyH P md ops (NoPanic Q) S (fuel + 1) listed a w := by
  subst hd
  exact wpAnyH_take hi hs hf hr (fun _ _ _ h => h) (.inr ⟨hw, rfl⟩) hS h
/-- The only operation that may come up, whatever it does. -/
theorem hd_step {i : Nat} (oi : Oper) (hi : ops[i]? = some oi) (hr : Region.ready md ops listed = [i]) (hw : Region.wanted oi (yielded ops a.tmps) = true)
    (h : ∀ K : Act → World → Prop, (∀ a w, S w → wpAnyH P md ops (NoPanic Q) S fuel (listed.setIfInBounds i true) a w → K a w) → Oper.wp P oi a w K (NoPanic Q)) : wpAnyH P md ops (NoPanic Q) S (fuel + 1) listed a w := by
  refine wpAnyH_ready hr (by simp) (AllReadyH.cons hi (fun K hK => ?_) AllReadyH.nil)
  rw [if_pos hw]
  exact h K fun a w hS hW => hK.out a w hS fun _ => hW
/-- The only one that may come up is guarded off. -/
theorem hd_stepoff {i : Nat} (oi : Oper) (d : Option Tmp) (hi : ops[i]? = some oi) (hd : oi.dst = d) (hr : Region.ready md ops listed = [i]) (hw : Region.wanted oi (yielded ops a.tmps) = false) (hS : S w)
    (h : wpAnyH P md ops (NoPanic Q) S fuel (listed.setIfInBounds i true) (a.put d undef) w) : wpAnyH P md ops (NoPanic Q) S (fuel + 1) listed a w := by
  subst hd
  refine wpAnyH_ready hr (by simp) (AllReadyH.cons hi (fun K hK => ?_) AllReadyH.nil)
  rw [if_neg (by rw [hw]; simp)]
  exact hK.out _ _ hS fun _ => h
/-- The only one that may come up is a call. -/
theorem hd_call {i : Nat} (oi : Oper) (d : Option Tmp) (f : FuncId) (args : Array Value) (v : Value) (R : World → Prop) (hi : ops[i]? = some oi) (hd : oi.dst = d) (hr : Region.ready md ops listed = [i]) (hw : Region.wanted oi (yielded ops a.tmps) = true)
    (hx : (execOp a.eval oi).run P w = .ok (.enter f args) w) (hc : Calls P f args w fun e w' => e = .returned v ∧ R w') (h : ∀ w', R w' → S w' ∧ wpAnyH P md ops (NoPanic Q) S fuel (listed.setIfInBounds i true) (a.put d v) w') : wpAnyH P md ops (NoPanic Q) S (fuel + 1) listed a w := by
  subst hd
  refine hd_step oi hi hr hw fun K hK => ?_
  unfold Oper.wp
  rw [hx, Oper.upon_enter]
  refine hc.mono ?_
  rintro e w' ⟨rfl, hw'⟩
  exact hK _ _ (h w' hw').1 (h w' hw').2
/-- The only one that may come up makes memory. -/
theorem hd_make {i : Nat} (oi : Oper) (d : Option Tmp) (v : Value) (w1 : World) (hi : ops[i]? = some oi) (hd : oi.dst = d) (hr : Region.ready md ops listed = [i]) (hw : Region.wanted oi (yielded ops a.tmps) = true)
    (hx : (execOp a.eval oi).run P w = .ok (.value v) w1) (hS : S w1) (h : wpAnyH P md ops (NoPanic Q) S fuel (listed.setIfInBounds i true) (a.put d v) w1) : wpAnyH P md ops (NoPanic Q) S (fuel + 1) listed a w := by
  subst hd
  refine hd_step oi hi hr hw fun K hK => ?_
  unfold Oper.wp
  rw [hx, Oper.upon_value]
  exact hK _ _ hS h
end

section
variable {P : Program} {o : Oper} {a : Act} {w w1 : World} {v : Value}
theorem ex_load {ty : TypeId} {x : Operand} {p : Value} (ho : o.op = .load ty x) (hx : a.eval x = p) (h : (Instr.loadAt ty p).run P w = .ok v w) : (execOp a.eval o).run P w = .ok (.value v) w := by
  unfold execOp
  simp only [ho, hx, Sem.run_bind, h, Result.andThen_ok, Sem.run_pure]
theorem ex_slice {t : TypeId} {n : Nat} {x : Operand} {p : Value} (ho : o.op = .buildSlice t n #[(0, x)]) (hx : a.eval x = p) (h : (Instr.buildSlice t n #[(0, p)]).run P w = .ok v w1) : (execOp a.eval o).run P w = .ok (.value v) w1 := by
  unfold execOp
  simp only [ho, List.map_toArray, List.map_cons, List.map_nil, hx, Sem.run_bind, h, Result.andThen_ok, Sem.run_pure]
theorem ex_bin {op : BinOp} {t t' : TypeId} {x y : Operand} {p q : Value} (ho : o.op = .binOp op t x y t') (hx : a.eval x = p) (hy : a.eval y = q) (h : (do eqGuard op t x y p q; binOp op t p q : Sem Value).run P w = .ok v w) : (execOp a.eval o).run P w = .ok (.value v) w := by
  unfold execOp
  simp only [ho, hx, hy]
  rw [Sem.run_bind, h]
  rfl
end
end Go.Proofs.Ytfhokhhpfdmfiaa
