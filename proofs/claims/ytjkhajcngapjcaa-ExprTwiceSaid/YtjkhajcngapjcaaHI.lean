/- A region that draws its order, by what each operation brings: no order is gone through; what each brings stays. -/
import Derived.Test.YtjkhajcngapjcaaHD
namespace Go.Proofs.Ytjkhajcngapjcaa.Q

def lstV : Nat → (Nat → Value) → List Value
  | 0, _ => []
  | n + 1, V => V 0 :: lstV n (fun k => V (k + 1))
/-- A frame of letters. -/
def actV (nt : Nat) (V : Nat → Value) : Act := ⟨⟨lstV nt V⟩, []⟩
def updV (V : Nat → Value) (d : Nat) (v : Value) : Nat → Value := fun k => if k = d then v else V k
theorem updV_same (V : Nat → Value) (d : Nat) (v : Value) : updV V d v d = v := if_pos rfl
theorem updV_ne {V : Nat → Value} {d k : Nat} {v : Value} (h : k ≠ d) : updV V d v k = V k := if_neg h
theorem lstV_set : ∀ (n : Nat) (V : Nat → Value) (d : Nat) (v : Value), (lstV n V).set d v = lstV n (updV V d v)
  | 0, _, _, _ => rfl
  | n + 1, V, 0, v => by
    have e : ∀ (n : Nat) (A B : Nat → Value), (∀ k, A k = B k) → lstV n A = lstV n B := by
      intro n
      induction n with
      | zero => intros; rfl
      | succ n ih => intro A B h; simp only [lstV, h 0]; rw [ih _ _ (fun k => h (k + 1))]
    show v :: lstV n (fun k => V (k + 1)) = updV V 0 v 0 :: lstV n (fun k => updV V 0 v (k + 1))
    rw [updV_same]
    congr 1
  | n + 1, V, d + 1, v => by
    have e : ∀ (n : Nat) (A B : Nat → Value), (∀ k, A k = B k) → lstV n A = lstV n B := by
      intro n
      induction n with
      | zero => intros; rfl
      | succ n ih => intro A B h; simp only [lstV, h 0]; rw [ih _ _ (fun k => h (k + 1))]
    show V 0 :: (lstV n (fun k => V (k + 1))).set d v = updV V (d + 1) v 0 :: lstV n (fun k => updV V (d + 1) v (k + 1))
    rw [lstV_set n _ d v, updV_ne (by omega : (0 : Nat) ≠ d + 1)]
    congr 1
    exact e _ _ _ (fun k => by unfold updV; by_cases h : k = d <;> simp [h])
theorem actV_put (nt : Nat) (V : Nat → Value) (d : Nat) (v : Value) : (actV nt V).put (some d) v = actV nt (updV V d v) := by
  unfold Act.put actV
  simp only [List.setIfInBounds_toArray]
  rw [lstV_set]

/-- Operation i waits for j. -/
def bOn (ops : Array Oper) (i j : Nat) : Bool := ((ops[i]?).map (·.after.any fun e => Region.binds .any e && e.on == j)).getD false
def regOk (ops : Array Oper) (n m : Nat) (dst : Nat → Nat) : Bool :=
  (List.range m).all (fun i => ((ops[i]?).map (·.after.all fun e => !Region.binds .any e || decide (e.on < i))).getD false) &&
  (List.range m).all (fun j => (List.range (n - m)).all (fun k => bOn ops (m + k) j || (List.range (n - m)).any (fun l => bOn ops (m + k) (m + l))) || (List.range m).any (fun i => decide (j < i) && bOn ops i j)) &&
  (List.range m).all (fun i => (List.range m).all fun j => i == j || dst i != dst j)

variable {P : Program} {ops : Array Oper} {Q : Exit → Act → World → Prop}

theorem ready_iff {listed : Array Bool} {i : Nat} : i ∈ Region.ready .any ops listed ↔ i < ops.size ∧ listed.getD i true = false ∧ ∀ j, bOn ops i j = true → listed.getD j false = true := by
  unfold Region.ready bOn
  simp only [List.mem_filter, List.mem_range, Bool.and_eq_true, Bool.not_eq_true']
  refine and_congr_right fun hi => and_congr_right fun _ => ?_
  rw [Array.getElem?_eq_getElem hi]
  simp only [Option.map_some, Option.getD_some, Array.all_eq_true_iff_forall_mem, Array.any_eq_true', Bool.or_eq_true, Bool.not_eq_true', Bool.and_eq_true, beq_iff_eq]
  constructor
  · rintro h j ⟨e, he, hb, rfl⟩
    exact (h e he).resolve_left (by rw [hb]; decide)
  · intro h e he
    by_cases hb : Region.binds .any e = true
    · exact .inr (h _ ⟨e, he, hb, rfl⟩)
    · exact .inl (by simpa using hb)

theorem getD_lt {l : Array Bool} {i : Nat} (h : i < l.size) (a b : Bool) : l.getD i a = l.getD i b := by simp [h]
theorem getD_set {l : Array Bool} {i j : Nat} (hi : i < l.size) : (l.setIfInBounds i true).getD j false = (if j = i then true else l.getD j false) := by
  by_cases h : j = i
  · subst h; simp [hi]
  · rw [if_neg h]
    simp [Ne.symm h]

def cntT (l : Array Bool) : Nat := l.toList.count true
theorem cnt_set {l : Array Bool} {i : Nat} (hi : i < l.size) (h : l.getD i true = false) : cntT (l.setIfInBounds i true) = cntT l + 1 := by
  unfold cntT
  rw [Array.toList_setIfInBounds, List.count_set (by simpa using hi)]
  have : l.toList[i]'(by simpa using hi) = false := by simpa [hi] using h
  simp [this]
theorem cnt_le (l : Array Bool) : cntT l ≤ l.size := by
  unfold cntT
  simpa using (List.count_le_length (a := true) (l := l.toList))
theorem cnt_lt {l : Array Bool} {i : Nat} (hi : i < l.size) (h : l.getD i true = false) : cntT l < l.size := by
  have := cnt_le (l.setIfInBounds i true)
  rw [cnt_set hi h] at this
  have hsz : (l.setIfInBounds i true).size = l.size := by simp
  omega

def listM (n m : Nat) : Array Bool := ⟨List.replicate m true ++ List.replicate (n - m) false⟩
theorem listM_of {n m : Nat} {l : Array Bool} (hm : m ≤ n) (hs : l.size = n) (h1 : ∀ j, j < m → l.getD j false = true) (h2 : ∀ j, m ≤ j → l.getD j false = false) : l = listM n m := by
  apply Array.ext
  · simp [listM, hs]; omega
  · intro i hi hi'
    show l[i] = (List.replicate m true ++ List.replicate (n - m) false)[i]'(by simpa [listM] using hi')
    by_cases h : i < m
    · rw [List.getElem_append_left (by simpa using h)]
      simpa [hi] using h1 i h
    · rw [List.getElem_append_right (by simpa using h)]
      simpa [hi] using h2 i (by omega)

/-- **The first m operations, in whatever order they come up.** R: what each brings; it stays (Ext). -/
theorem wpAny_inv {γ : Type} (n m nt : Nat) (dst : Nat → Nat) (G : γ → World → Prop) (R : Nat → γ → Value → World → Prop) (V0 : Nat → Value)
    (hn : ops.size = n) (hmn : m ≤ n) (hok : regOk ops n m dst = true) (Ext : γ → World → γ → World → Prop)
    (hR : ∀ i g v w g' w', i < m → R i g v w → Ext g w g' w' → R i g' v w')
    (hstep : ∀ i g V w, i < m → G g w → (∀ k, (∀ i, i < m → k ≠ dst i) → V k = V0 k) → (∀ j, j < m → bOn ops i j = true → R j g (V (dst j)) w) →
      wpOp P ops Q i (fun a' w' => ∃ g' v, a' = actV nt (updV V (dst i) v) ∧ G g' w' ∧ R i g' v w' ∧ Ext g w g' w') (actV nt V) w)
    (hend : ∀ g V w, G g w → (∀ k, (∀ i, i < m → k ≠ dst i) → V k = V0 k) → (∀ j, j < m → R j g (V (dst j)) w) → wpAny P .any ops Q (n - m) (listM n m) (actV nt V) w) :
    ∀ (fuel : Nat) (listed : Array Bool) (g : γ) (V : Nat → Value) (w : World), listed.size = n → cntT listed + fuel = n → (∀ j, m ≤ j → listed.getD j false = false) →
      (∀ i j, listed.getD i false = true → bOn ops i j = true → listed.getD j false = true) → G g w → (∀ k, (∀ i, i < m → k ≠ dst i) → V k = V0 k) → (∀ j, j < m → listed.getD j false = true → R j g (V (dst j)) w) →
      wpAny P .any ops Q fuel listed (actV nt V) w := by
  simp only [regOk, Bool.and_eq_true, List.all_eq_true, List.mem_range, Bool.or_eq_true, List.any_eq_true, decide_eq_true_eq, beq_iff_eq, bne_iff_ne, ne_eq] at hok
  obtain ⟨⟨hac, hcl⟩, hdi⟩ := hok
  intro fuel
  induction fuel with
  | zero =>
    intro listed g V w hs hc hhi hdc hG hV hL
    have hall : ∀ j, j < m → listed.getD j false = true := by
      intro j hj
      by_cases h : listed.getD j false = true
      · exact h
      · have := cnt_lt (l := listed) (i := j) (by omega) (by rw [getD_lt (by omega) true false]; simpa using h)
        omega
    have e := listM_of hmn hs hall hhi
    have hnm : n - m = 0 := by
      by_cases h : m < n
      · have := cnt_lt (l := listed) (i := m) (by omega) (by rw [getD_lt (by omega) true false]; exact hhi m (Nat.le_refl _))
        omega
      · omega
    have := hend g V w hG hV (fun j hj => hL j hj (hall j hj))
    rw [hnm, ← e] at this
    exact this
  | succ fuel ih =>
    intro listed g V w hs hc hhi hdc hG hV hL
    by_cases hall : ∀ j, j < m → listed.getD j false = true
    · have e := listM_of hmn hs hall hhi
      have hcm : cntT (listM n m) = m := by
        unfold cntT listM
        simp [List.count_append, List.count_replicate]
      have := hend g V w hG hV (fun j hj => hL j hj (hall j hj))
      rw [← e] at this hcm
      rw [hcm] at hc
      rw [show n - m = fuel + 1 by omega] at this
      exact this
    · have hex : ∃ j, j < m ∧ listed.getD j false = false := by
        apply Classical.byContradiction
        intro hno
        apply hall
        intro j hj
        cases hb : listed.getD j false with
        | true => rfl
        | false => exact absurd ⟨j, hj, hb⟩ hno
      -- the least one comes up
      have hready : ∃ i, i ∈ Region.ready .any ops listed := by
        obtain ⟨j, hj, hf⟩ := hex
        induction j using Nat.strongRecOn with
        | _ j ihj =>
        by_cases hd : ∀ i, bOn ops j i = true → listed.getD i false = true
        · exact ⟨j, ready_iff.2 ⟨by omega, by rw [getD_lt (by omega) true false]; exact hf, hd⟩⟩
        · obtain ⟨i, hi⟩ := Classical.not_forall.1 hd
          obtain ⟨hb, hl⟩ := Classical.not_imp.1 hi
          have hlt : i < j := by
            have ha := hac j hj
            unfold bOn at hb
            rw [Array.getElem?_eq_getElem (by omega : j < ops.size)] at ha hb
            simp only [Option.map_some, Option.getD_some, Array.all_eq_true_iff_forall_mem, Array.any_eq_true', Bool.or_eq_true, Bool.not_eq_true', Bool.and_eq_true, beq_iff_eq, decide_eq_true_eq] at ha hb
            obtain ⟨e, he, hbe, rfl⟩ := hb
            exact (ha e he).resolve_left (by rw [hbe]; decide)
          exact ihj i hlt (by omega) (by simpa using hl)
      refine ⟨fun h0 => ?_, fun i hi => ?_⟩
      · obtain ⟨i, hi⟩ := hready
        rw [h0] at hi
        cases hi
      · obtain ⟨h1, h2, h3⟩ := ready_iff.1 hi
        have him : i < m := by
          apply Classical.byContradiction
          intro hge
          apply hall
          have key : ∀ d j, j < m → m - j ≤ d → listed.getD j false = true := by
            intro d
            induction d with
            | zero => intro j hj hd; omega
            | succ d ihd =>
              intro j hj hd
              rcases hcl j hj with h | ⟨i', hi', hlt, hb⟩
              · have := h (i - m) (by omega)
                rw [show m + (i - m) = i by omega] at this
                rcases this with this | ⟨l, hl, this⟩
                · exact h3 j this
                · have := h3 _ this
                  rw [hhi _ (by omega)] at this
                  cases this
              · exact hdc i' j (ihd i' hi' (by omega)) hb
          exact fun j hj => key m j hj (by omega)
        refine wpOp_mono ?_ (hstep i g V w him hG hV (fun j hj hb => hL j hj (h3 j hb)))
        rintro a' w' ⟨g', v, rfl, hG', hRi, hE⟩
        have his : i < listed.size := by omega
        refine ih _ g' _ w' (by simpa using hs) (by rw [cnt_set his h2]; omega) ?_ ?_ hG' ?_ ?_
        · intro j hj
          rw [getD_set his, if_neg (by omega)]
          exact hhi j hj
        · intro a b ha hb
          rw [getD_set his] at ha ⊢
          by_cases hbi : b = i
          · rw [if_pos hbi]
          · rw [if_neg hbi]
            by_cases hai : a = i
            · subst hai; exact h3 b hb
            · rw [if_neg hai] at ha; exact hdc a b ha hb
        · intro k hk
          rw [updV_ne (hk i him)]
          exact hV k hk
        · intro j hj hl
          rw [getD_set his] at hl
          by_cases hji : j = i
          · subst hji; rw [updV_same]; exact hRi
          · rw [if_neg hji] at hl
            rw [updV_ne (fun e => (hdi j hj i him).elim hji (fun h => h e))]
            exact hR j g _ w g' w' hj (hL j hj hl) hE

/-- An operation that yields a value. -/
theorem op_val {i : Nat} {K : Act → World → Prop} {a : Act} {w w' : World} (o : Oper) (d : Nat) (v : Value) (hi : ops[i]? = some o) (hg : o.guard = none) (hd : o.dst = some d)
    (hx : (execOp a.eval o).run P w = .ok (.value v) w') (h : K (a.put (some d) v) w') : wpOp P ops Q i K a w := by
  unfold wpOp
  rw [hi]
  show (if Region.wanted o (yielded ops a.tmps) = true then _ else _)
  rw [if_pos (by unfold Region.wanted; rw [hg])]
  left
  unfold Oper.wp
  rw [hx, Oper.upon_value, hd]
  exact h
/-- A call. -/
theorem op_call {i : Nat} {K : Act → World → Prop} {a : Act} {w : World} (o : Oper) (d : Nat) (f : FuncId) (args : Array Value) (hi : ops[i]? = some o) (hg : o.guard = none) (hd : o.dst = some d)
    (hx : (execOp a.eval o).run P w = .ok (.enter f args) w) (hc : Calls P f args w fun e w' => ∃ v, e = .returned v ∧ K (a.put (some d) v) w') : wpOp P ops Q i K a w := by
  unfold wpOp
  rw [hi]
  show (if Region.wanted o (yielded ops a.tmps) = true then _ else _)
  rw [if_pos (by unfold Region.wanted; rw [hg])]
  left
  unfold Oper.wp
  rw [hx, Oper.upon_enter, hd]
  refine hc.mono ?_
  rintro e w' ⟨v, rfl, hw'⟩
  exact hw'
/-- What yields nothing. -/
theorem op_none {i : Nat} {K : Act → World → Prop} {a : Act} {w w' : World} (o : Oper) (hi : ops[i]? = some o) (hg : o.guard = none) (hd : o.dst = none)
    (hx : (execOp a.eval o).run P w = .ok .skip w') (h : K a w') : wpOp P ops Q i K a w := by
  unfold wpOp
  rw [hi]
  show (if Region.wanted o (yielded ops a.tmps) = true then _ else _)
  rw [if_pos (by unfold Region.wanted; rw [hg])]
  left
  unfold Oper.wp
  rw [hx, Oper.upon_skip, hd]
  exact h
/-- The only one that may come up. -/
theorem any_one {i fuel : Nat} {listed : Array Bool} {a : Act} {w : World} (hr : Region.ready .any ops listed = [i]) (h : wpOp P ops Q i (wpAny P .any ops Q fuel (listed.setIfInBounds i true)) a w) : wpAny P .any ops Q (fuel + 1) listed a w :=
  wpAny_all hr (by simp) (fun j hj => by rw [List.mem_singleton.1 hj]; exact h)
theorem any_done {fuel : Nat} {listed : Array Bool} {a : Act} {w : World} (hr : Region.ready .any ops listed = []) (h : Q .normal a w) : wpAny P .any ops Q fuel listed a w := wpAny_done hr h _
/-- The whole region, whose operations all come up in the first part or behind it. -/
theorem region_inv {γ : Type} {id : Nat} {w : World} (n m nt : Nat) (dst : Nat → Nat) (G : γ → World → Prop) (R : Nat → γ → Value → World → Prop) (V0 : Nat → Value) (hm : P.follows .mixedOrders = true)
    (hn : ops.size = n) (hmn : m ≤ n) (hok : regOk ops n m dst = true) (Ext : γ → World → γ → World → Prop) (g0 : γ) (h0 : G g0 w.drew)
    (hR : ∀ i g v w g' w', i < m → R i g v w → Ext g w g' w' → R i g' v w')
    (hstep : ∀ i g V w, i < m → G g w → (∀ k, (∀ i, i < m → k ≠ dst i) → V k = V0 k) → (∀ j, j < m → bOn ops i j = true → R j g (V (dst j)) w) →
      wpOp P ops Q i (fun a' w' => ∃ g' v, a' = actV nt (updV V (dst i) v) ∧ G g' w' ∧ R i g' v w' ∧ Ext g w g' w') (actV nt V) w)
    (hend : ∀ g V w, G g w → (∀ k, (∀ i, i < m → k ≠ dst i) → V k = V0 k) → (∀ j, j < m → R j g (V (dst j)) w) → wpAny P .any ops Q (n - m) (listM n m) (actV nt V) w) :
    (Code.region id ops true).wp P Q (actV nt V0) w := by
  refine wp_region_any hm ?_
  have hrep : ∀ j, (Array.replicate ops.size false).getD j false = false := fun j => by
    by_cases h : j < ops.size <;> simp [h]
  refine wpAny_inv n m nt dst G R V0 hn hmn hok Ext hR hstep hend _ _ g0 V0 _ (by simpa using hn) ?_ (fun j _ => hrep j) (fun i j h => by rw [hrep] at h; cases h) h0 (fun _ _ => rfl) (fun j _ h => by rw [hrep] at h; cases h)
  rw [hn]
  unfold cntT
  simp [List.count_replicate]
end Go.Proofs.Ytjkhajcngapjcaa.Q
