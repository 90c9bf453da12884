/- A frame of letters; what waits for what in a region that draws its order. -/
import Derived.Test.YtjkhajcngapjcaaHD
namespace Go.Proofs.Ytjkhajcngapjcaa.Q

def lstV : Nat → (Nat → Value) → List Value
  | 0, _ => []
  | n + 1, V => V 0 :: lstV n (fun k => V (k + 1))
/-- A frame of letters. -/
def actV (nt : Nat) (V : Nat → Value) : Act := ⟨⟨lstV nt V⟩, []⟩
def updV (V : Nat → Value) (d : Nat) (v : Value) : Nat → Value := fun k => if k = d then v else V k
theorem updV_same (V : Nat → Value) (d : Nat) (v : Value) : updV V d v d = v := if_pos rfl
theorem updV_ne {V : Nat → Value} {d k : Nat} {v : Value} (h : k ≠ d) : updV V d v k = V k := if_neg h
theorem lstV_set : ∀ (n : Nat) (V : Nat → Value) (d : Nat) (v : Value), (lstV n V).set d v = lstV n (updV V d v)
  | 0, _, _, _ => rfl
  | n + 1, V, 0, v => by
    have e : ∀ (n : Nat) (A B : Nat → Value), (∀ k, A k = B k) → lstV n A = lstV n B := by
      intro n
      induction n with
      | zero => intros; rfl
      | succ n ih => intro A B h; simp only [lstV, h 0]; rw [ih _ _ (fun k => h (k + 1))]
    show v :: lstV n (fun k => V (k + 1)) = updV V 0 v 0 :: lstV n (fun k => updV V 0 v (k + 1))
    rw [updV_same]
    congr 1
  | n + 1, V, d + 1, v => by
    have e : ∀ (n : Nat) (A B : Nat → Value), (∀ k, A k = B k) → lstV n A = lstV n B := by
      intro n
      induction n with
      | zero => intros; rfl
      | succ n ih => intro A B h; simp only [lstV, h 0]; rw [ih _ _ (fun k => h (k + 1))]
    show V 0 :: (lstV n (fun k => V (k + 1))).set d v = updV V (d + 1) v 0 :: lstV n (fun k => updV V (d + 1) v (k + 1))
    rw [lstV_set n _ d v, updV_ne (by omega : (0 : Nat) ≠ d + 1)]
    congr 1
    exact e _ _ _ (fun k => by unfold updV; by_cases h : k = d <;> simp [h])
theorem actV_put (nt : Nat) (V : Nat → Value) (d : Nat) (v : Value) : (actV nt V).put (some d) v = actV nt (updV V d v) := by
  unfold Act.put actV
  simp only [List.setIfInBounds_toArray]
  rw [lstV_set]

/-- Operation i waits for j. -/
def bOn (ops : Array Oper) (i j : Nat) : Bool := ((ops[i]?).map (·.after.any fun e => Region.binds .any e && e.on == j)).getD false
def regOk (ops : Array Oper) (n m : Nat) (dst : Nat → Nat) : Bool :=
  (List.range m).all (fun i => ((ops[i]?).map (·.after.all fun e => !Region.binds .any e || decide (e.on < i))).getD false) &&
  (List.range m).all (fun j => (List.range (n - m)).all (fun k => bOn ops (m + k) j || (List.range (n - m)).any (fun l => bOn ops (m + k) (m + l))) || (List.range m).any (fun i => decide (j < i) && bOn ops i j)) &&
  (List.range m).all (fun i => (List.range m).all fun j => i == j || dst i != dst j)

variable {P : Program} {ops : Array Oper} {Q : Exit → Act → World → Prop}

theorem ready_iff {listed : Array Bool} {i : Nat} : i ∈ Region.ready .any ops listed ↔ i < ops.size ∧ listed.getD i true = false ∧ ∀ j, bOn ops i j = true → listed.getD j false = true := by
  unfold Region.ready bOn
  simp only [List.mem_filter, List.mem_range, Bool.and_eq_true, Bool.not_eq_true']
  refine and_congr_right fun hi => and_congr_right fun _ => ?_
  rw [Array.getElem?_eq_getElem hi]
  simp only [Option.map_some, Option.getD_some, Array.all_eq_true_iff_forall_mem, Array.any_eq_true', Bool.or_eq_true, Bool.not_eq_true', Bool.and_eq_true, beq_iff_eq]
  constructor
  · rintro h j ⟨e, he, hb, rfl⟩
    exact (h e he).resolve_left (by rw [hb]; decide)
  · intro h e he
    by_cases hb : Region.binds .any e = true
    · exact .inr (h _ ⟨e, he, hb, rfl⟩)
    · exact .inl (by simpa using hb)

theorem getD_lt {l : Array Bool} {i : Nat} (h : i < l.size) (a b : Bool) : l.getD i a = l.getD i b := by simp [h]
theorem getD_set {l : Array Bool} {i j : Nat} (hi : i < l.size) : (l.setIfInBounds i true).getD j false = (if j = i then true else l.getD j false) := by
  by_cases h : j = i
  · subst h; simp [hi]
  · rw [if_neg h]
    simp [Ne.symm h]

def cntT (l : Array Bool) : Nat := l.toList.count true
theorem cnt_set {l : Array Bool} {i : Nat} (hi : i < l.size) (h : l.getD i true = false) : cntT (l.setIfInBounds i true) = cntT l + 1 := by
  unfold cntT
  rw [Array.toList_setIfInBounds, List.count_set (by simpa using hi)]
  have : l.toList[i]'(by simpa using hi) = false := by simpa [hi] using h
  simp [this]
theorem cnt_le (l : Array Bool) : cntT l ≤ l.size := by
  unfold cntT
  simpa using (List.count_le_length (a := true) (l := l.toList))
theorem cnt_lt {l : Array Bool} {i : Nat} (hi : i < l.size) (h : l.getD i true = false) : cntT l < l.size := by
  have := cnt_le (l.setIfInBounds i true)
  rw [cnt_set hi h] at this
  have hsz : (l.setIfInBounds i true).size = l.size := by simp
  omega

def listM (n m : Nat) : Array Bool := ⟨List.replicate m true ++ List.replicate (n - m) false⟩
theorem listM_of {n m : Nat} {l : Array Bool} (hm : m ≤ n) (hs : l.size = n) (h1 : ∀ j, j < m → l.getD j false = true) (h2 : ∀ j, m ≤ j → l.getD j false = false) : l = listM n m := by
  apply Array.ext
  · simp [listM, hs]; omega
  · intro i hi hi'
    show l[i] = (List.replicate m true ++ List.replicate (n - m) false)[i]'(by simpa [listM] using hi')
    by_cases h : i < m
    · rw [List.getElem_append_left (by simpa using h)]
      simpa [hi] using h1 i h
    · rw [List.getElem_append_right (by simpa using h)]
      simpa [hi] using h2 i (by omega)
end Go.Proofs.Ytjkhajcngapjcaa.Q
