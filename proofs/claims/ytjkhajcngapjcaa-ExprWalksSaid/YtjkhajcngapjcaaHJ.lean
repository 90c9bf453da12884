/- A region that draws its order, in a round of a loop over a function: each operation yields what it yields in all orders. -/
import Derived.Test.YtjkhajcngapjcaaHI0
import Derived.OrdersIn
import Derived.RangeFuncIn
set_option linter.unusedVariables false
namespace Go.Proofs.Ytjkhajcngapjcaa.Q

variable {P : Program} {ops : Array Oper} {Q : Exit → Act → World → Prop} {l n' : Nat}

/-- The operations m0 .. m1 - 1 come up behind those ahead of them, and ahead of all others. -/
def segOk (ops : Array Oper) (n m0 m1 : Nat) (dst : Nat → Nat) : Bool :=
  (List.range m1).all (fun i => ((ops[i]?).map (·.after.all fun e => !Region.binds .any e || decide (e.on < i))).getD false) &&
  (List.range m1).all (fun j => decide (j < m0) || ((List.range (n - m1)).all (fun k => bOn ops (m1 + k) j || (List.range (n - m1)).any (fun l => bOn ops (m1 + k) (m1 + l))) || (List.range m1).any (fun i => decide (j < i) && bOn ops i j))) &&
  (List.range m1).all (fun i => decide (i < m0) || (List.range m1).all fun j => i == j || dst i != dst j)
theorem wpAnyIn_seg (n m0 m1 nt : Nat) (dst : Nat → Nat) (val : Nat → Value) (G : World → Prop) (V0 : Nat → Value) (hn : ops.size = n) (hmn : m1 ≤ n) (hok : segOk ops n m0 m1 dst = true)
    (hstep : ∀ i V w, m0 ≤ i → i < m1 → G w → (∀ k, (∀ i, m0 ≤ i → i < m1 → k ≠ dst i) → V k = V0 k) → (∀ j, m0 ≤ j → j < m1 → bOn ops i j = true → V (dst j) = val j) →
      wpOpIn (Fence.wide.inRound l) n' P ops Q i (fun a' w' => a' = actV nt (updV V (dst i) (val i)) ∧ G w') (actV nt V) w)
    (hend : ∀ V w, G w → (∀ k, (∀ i, m0 ≤ i → i < m1 → k ≠ dst i) → V k = V0 k) → (∀ j, m0 ≤ j → j < m1 → V (dst j) = val j) → wpAnyIn (Fence.wide.inRound l) n' P .any ops Q (n - m1) (listM n m1) (actV nt V) w) :
    ∀ (fuel : Nat) (listed : Array Bool) (V : Nat → Value) (w : World), listed.size = n → cntT listed + fuel = n → (∀ j, m1 ≤ j → listed.getD j false = false) → (∀ j, j < m0 → listed.getD j false = true) → (∀ i j, listed.getD i false = true → bOn ops i j = true → m0 ≤ i → listed.getD j false = true) →
      G w → (∀ k, (∀ i, m0 ≤ i → i < m1 → k ≠ dst i) → V k = V0 k) → (∀ j, m0 ≤ j → j < m1 → listed.getD j false = true → V (dst j) = val j) → wpAnyIn (Fence.wide.inRound l) n' P .any ops Q fuel listed (actV nt V) w := by
  simp only [segOk, Bool.and_eq_true, List.all_eq_true, List.mem_range, Bool.or_eq_true, List.any_eq_true, decide_eq_true_eq, beq_iff_eq, bne_iff_ne, ne_eq] at hok
  obtain ⟨⟨hac, hcl⟩, hdi⟩ := hok
  intro fuel
  induction fuel with
  | zero =>
    intro listed V w hs hc hhi hlo hdc hG hV hL
    have hall : ∀ j, j < m1 → listed.getD j false = true := by
      intro j hj
      by_cases h : listed.getD j false = true
      · exact h
      · have := cnt_lt (l := listed) (i := j) (by omega) (by rw [getD_lt (by omega) true false]; simpa using h)
        omega
    have e := listM_of hmn hs hall hhi
    have hnm : n - m1 = 0 := by
      by_cases h : m1 < n
      · have := cnt_lt (l := listed) (i := m1) (by omega) (by rw [getD_lt (by omega) true false]; exact hhi m1 (Nat.le_refl _))
        omega
      · omega
    have := hend V w hG hV (fun j h0 hj => hL j h0 hj (hall j hj))
    rw [hnm, ← e] at this
    exact this
  | succ fuel ih =>
    intro listed V w hs hc hhi hlo hdc hG hV hL
    by_cases hall : ∀ j, j < m1 → listed.getD j false = true
    · have e := listM_of hmn hs hall hhi
      have hcm : cntT (listM n m1) = m1 := by
        unfold cntT listM
        simp [List.count_append, List.count_replicate]
      have := hend V w hG hV (fun j h0 hj => hL j h0 hj (hall j hj))
      rw [← e] at this hcm
      rw [hcm] at hc
      rw [show n - m1 = fuel + 1 by omega] at this
      exact this
    · have hex : ∃ j, j < m1 ∧ listed.getD j false = false := by
        apply Classical.byContradiction
        intro hno
        apply hall
        intro j hj
        cases hb : listed.getD j false with
        | true => rfl
        | false => exact absurd ⟨j, hj, hb⟩ hno
      have hready : ∃ i, i ∈ Region.ready .any ops listed := by
        obtain ⟨j, hj, hf⟩ := hex
        induction j using Nat.strongRecOn with
        | _ j ihj =>
        by_cases hd : ∀ i, bOn ops j i = true → listed.getD i false = true
        · exact ⟨j, ready_iff.2 ⟨by omega, by rw [getD_lt (by omega) true false]; exact hf, hd⟩⟩
        · obtain ⟨i, hi⟩ := Classical.not_forall.1 hd
          obtain ⟨hb, hl⟩ := Classical.not_imp.1 hi
          have hlt : i < j := by
            have ha := hac j hj
            unfold bOn at hb
            rw [Array.getElem?_eq_getElem (by omega : j < ops.size)] at ha hb
            simp only [Option.map_some, Option.getD_some, Array.all_eq_true_iff_forall_mem, Array.any_eq_true', Bool.or_eq_true, Bool.not_eq_true', Bool.and_eq_true, beq_iff_eq, decide_eq_true_eq] at ha hb
            obtain ⟨e, he, hbe, rfl⟩ := hb
            exact (ha e he).resolve_left (by rw [hbe]; decide)
          exact ihj i hlt (by omega) (by simpa using hl)
      refine ⟨fun h0 => ?_, fun i hi => ?_⟩
      · obtain ⟨i, hi⟩ := hready
        rw [h0] at hi
        cases hi
      · obtain ⟨h1, h2, h3⟩ := ready_iff.1 hi
        have him : i < m1 := by
          apply Classical.byContradiction
          intro hge
          apply hall
          have key : ∀ d j, j < m1 → m1 - j ≤ d → listed.getD j false = true := by
            intro d
            induction d with
            | zero => intro j hj hd; omega
            | succ d ihd =>
              intro j hj hd
              by_cases hj0 : j < m0
              · exact hlo j hj0
              · rcases (hcl j hj).resolve_left hj0 with h | ⟨i', hi', hlt, hb⟩
                · have := h (i - m1) (by omega)
                  rw [show m1 + (i - m1) = i by omega] at this
                  rcases this with this | ⟨l, hl, this⟩
                  · exact h3 j this
                  · have := h3 _ this
                    rw [hhi _ (by omega)] at this
                    cases this
                · exact hdc i' j (ihd i' hi' (by omega)) hb (by omega)
          exact fun j hj => key m1 j hj (by omega)
        have hi0 : m0 ≤ i := by
          by_cases h : i < m0
          · have := hlo i h
            rw [getD_lt (by omega : i < listed.size) true false] at h2
            rw [h2] at this; cases this
          · omega
        refine wpOpIn_mono ?_ (hstep i V w hi0 him hG hV (fun j h0 hj hb => hL j h0 hj (h3 j hb)))
        rintro a' w' ⟨rfl, hG'⟩
        have his : i < listed.size := by omega
        refine ih _ _ w' (by simpa using hs) (by rw [cnt_set his h2]; omega) ?_ ?_ ?_ hG' ?_ ?_
        · intro j hj
          rw [getD_set his, if_neg (by omega)]
          exact hhi j hj
        · intro j hj
          rw [getD_set his]
          split
          · rfl
          · exact hlo j hj
        · intro a b ha hb h0
          rw [getD_set his] at ha ⊢
          by_cases hbi : b = i
          · rw [if_pos hbi]
          · rw [if_neg hbi]
            by_cases hai : a = i
            · subst hai; exact h3 b hb
            · rw [if_neg hai] at ha; exact hdc a b ha hb h0
        · intro k hk
          rw [updV_ne (hk i hi0 him)]
          exact hV k hk
        · intro j h0 hj hl
          rw [getD_set his] at hl
          by_cases hji : j = i
          · subst hji; rw [updV_same]
          · rw [if_neg hji] at hl
            rw [updV_ne (fun e => ((hdi i him).resolve_left (by omega) j hj).elim (fun h => hji h.symm) (fun h => h e.symm))]
            exact hL j h0 hj hl
theorem listM_get (n m j : Nat) (h : m ≤ n) : (listM n m).getD j false = decide (j < m) := by
  have e : (listM n m).getD j false = ((List.replicate m true ++ List.replicate (n - m) false)[j]?).getD false := by unfold listM; simp
  rw [e, List.getElem?_append]
  by_cases hj : j < m
  · simp [hj]
  · simp only [List.length_replicate, hj, if_false, List.getElem?_replicate, decide_false]
    split <;> rfl
/-- From the first m0 of them on. -/
theorem seg_go {w : World} (n m0 m1 nt : Nat) (dst : Nat → Nat) (val : Nat → Value) (G : World → Prop) (V0 : Nat → Value) (hn : ops.size = n) (h01 : m0 ≤ m1) (hmn : m1 ≤ n) (hok : segOk ops n m0 m1 dst = true) (h0 : G w)
    (hstep : ∀ i V w, m0 ≤ i → i < m1 → G w → (∀ k, (∀ i, m0 ≤ i → i < m1 → k ≠ dst i) → V k = V0 k) → (∀ j, m0 ≤ j → j < m1 → bOn ops i j = true → V (dst j) = val j) →
      wpOpIn (Fence.wide.inRound l) n' P ops Q i (fun a' w' => a' = actV nt (updV V (dst i) (val i)) ∧ G w') (actV nt V) w)
    (hend : ∀ V w, G w → (∀ k, (∀ i, m0 ≤ i → i < m1 → k ≠ dst i) → V k = V0 k) → (∀ j, m0 ≤ j → j < m1 → V (dst j) = val j) → wpAnyIn (Fence.wide.inRound l) n' P .any ops Q (n - m1) (listM n m1) (actV nt V) w) :
    wpAnyIn (Fence.wide.inRound l) n' P .any ops Q (n - m0) (listM n m0) (actV nt V0) w := by
  refine wpAnyIn_seg n m0 m1 nt dst val G V0 hn hmn hok hstep hend _ _ V0 w (by simp [listM]; omega) ?_ ?_ ?_ ?_ h0 (fun _ _ => rfl) ?_
  · unfold cntT listM
    simp [List.count_append, List.count_replicate]; omega
  · intro j hj; rw [listM_get _ _ _ (by omega)]; simp; omega
  · intro j hj; rw [listM_get _ _ _ (by omega)]; simp [hj]
  · intro i j hi hb h; rw [listM_get _ _ _ (by omega)] at hi; simp at hi; omega
  · intro j h1 h2 h3; rw [listM_get _ _ _ (by omega)] at h3; simp at h3; omega
theorem region_segs {id : Nat} {a : Act} {w : World} (n : Nat) (hm : P.follows .mixedOrders = true) (hn : ops.size = n) (h : wpAnyIn (Fence.wide.inRound l) n' P .any ops Q (n - 0) (listM n 0) a w.drew) : (Code.region id ops true).wpIn (Fence.wide.inRound l) n' P Q a w := by
  refine wpIn_region_any hm ?_
  have e : Array.replicate ops.size false = listM n 0 := by rw [hn]; apply Array.ext'; simp [listM]
  rw [e, hn]
  exact h
theorem any_oneIn {i fuel : Nat} {listed : Array Bool} {a : Act} {w : World} (hr : Region.ready .any ops listed = [i]) (h : wpOpIn (Fence.wide.inRound l) n' P ops Q i (wpAnyIn (Fence.wide.inRound l) n' P .any ops Q fuel (listed.setIfInBounds i true)) a w) : wpAnyIn (Fence.wide.inRound l) n' P .any ops Q (fuel + 1) listed a w :=
  wpAnyIn_all hr (by simp) (fun j hj => by rw [List.mem_singleton.1 hj]; exact h)
theorem any_doneIn {fuel : Nat} {listed : Array Bool} {a : Act} {w : World} (hr : Region.ready .any ops listed = []) (h : Q .normal a w) : wpAnyIn (Fence.wide.inRound l) n' P .any ops Q fuel listed a w := wpAnyIn_done hr h _
def noDefer (o : Oper) : Bool := match o.op with | .defer _ => false | _ => true
theorem sem_is {o : Oper} (h : noDefer o = true) (a : Act) : o.semAt (Fence.wide.inRound l).round a.eval = execOp a.eval o :=
  Oper.semAt_eq _ _ _ (fun c e => by unfold noDefer at h; rw [e] at h; cases h)
theorem opIn_val {i : Nat} {K : Act → World → Prop} {a : Act} {w w' : World} (o : Oper) (d : Nat) (v : Value) (hi : ops[i]? = some o) (hd : o.dst = some d) (hnd : noDefer o = true) (hw : Region.wanted o (yielded ops a.tmps) = true)
    (hx : (execOp a.eval o).run P w = .ok (.value v) w') (h : K (a.put (some d) v) w') : wpOpIn (Fence.wide.inRound l) n' P ops Q i K a w := by
  unfold wpOpIn
  rw [hi]
  show (if Region.wanted o (yielded ops a.tmps) = true then _ else _)
  rw [if_pos hw]
  refine ⟨fun _ _ => trivial, ?_⟩
  rw [sem_is hnd, hx, Oper.uponIn_value, hd]
  exact h
theorem opIn_call {i : Nat} {K : Act → World → Prop} {a : Act} {w : World} (o : Oper) (d : Nat) (f : FuncId) (args : Array Value) (hi : ops[i]? = some o) (hd : o.dst = some d) (hnd : noDefer o = true) (hw : Region.wanted o (yielded ops a.tmps) = true)
    (hx : (execOp a.eval o).run P w = .ok (.enter f args) w) (hc : Calls P f args w fun e w' => ∃ v, e = .returned v ∧ K (a.put (some d) v) w') : wpOpIn (Fence.wide.inRound l) n' P ops Q i K a w := by
  unfold wpOpIn
  rw [hi]
  show (if Region.wanted o (yielded ops a.tmps) = true then _ else _)
  rw [if_pos hw]
  refine ⟨fun _ _ => trivial, ?_⟩
  rw [sem_is hnd, hx, Oper.uponIn_enter, hd]
  refine ⟨(fun h => by cases h), CallsIn.mono (callsIn_wide.2 hc) ?_⟩
  rintro e w' ⟨v, rfl, hw'⟩
  exact hw'
theorem opIn_off {i : Nat} {K : Act → World → Prop} {a : Act} {w : World} (o : Oper) (d : Nat) (hi : ops[i]? = some o) (hd : o.dst = some d) (hw : Region.wanted o (yielded ops a.tmps) = false) (h : K (a.put (some d) undef) w) : wpOpIn (Fence.wide.inRound l) n' P ops Q i K a w := by
  unfold wpOpIn
  rw [hi]
  show (if Region.wanted o (yielded ops a.tmps) = true then _ else _)
  rw [if_neg (by rw [hw]; decide)]
  exact ⟨fun _ _ => trivial, by rw [hd]; exact h⟩
theorem wanted_on {o : Oper} {a : Act} {g d : Nat} {b : Bool} (hg : o.guard = some (g, b)) (hd : (ops[g]?).bind (·.dst) = some d) (hx : a.tmps[d]? = some (.bool b)) : Region.wanted o (yielded ops a.tmps) = true := by
  unfold Region.wanted yielded
  rw [hg]
  simp [hd, hx]
theorem wanted_off {o : Oper} {a : Act} {g d : Nat} {b : Bool} (hg : o.guard = some (g, b)) (hd : (ops[g]?).bind (·.dst) = some d) (hx : a.tmps[d]? = some (.bool (!b))) : Region.wanted o (yielded ops a.tmps) = false := by
  unfold Region.wanted yielded
  rw [hg]
  simp [hd, hx]
end Go.Proofs.Ytjkhajcngapjcaa.Q
