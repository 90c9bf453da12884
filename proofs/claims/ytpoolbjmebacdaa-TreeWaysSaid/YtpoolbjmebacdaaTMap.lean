/- The call's own map of numbers that counts, and the one that marks. -/
import Derived.Test.YtpoolbjmebacdaaQE
import Derived.Test.YtpoolbjmebacdaaOpens
import Derived.Maps.OwnOps
import Derived.Maps.OwnSet
import Derived.Maps.Views
namespace Go.Proofs.Ytpoolbjmebacdaa.Q
open Go.RowKit Go.Maps Go.Proofs.YtpoolbjmebacdaaW.PrintWords
set_option linter.unusedVariables false

theorem law3 : Keyed Try.prog 3 := int_keyed Try.underlying3
theorem zero3 (w : World) : (zeroValue 3).run Try.prog w = .ok (.int .i64 0) w := by kernel_rfl
theorem zero4 (w : World) : (zeroValue 4).run Try.prog w = .ok (.bool false) w := by kernel_rfl
theorem wf_of {n : Int} (h : I64 n) : (Lit.int .i64 n).wf = true := by
  unfold I64 at h
  simp [Lit.wf, IntKind.min, IntKind.max, IntKind.signed, IntKind.bits]; omega
theorem key_of {n : Int} (h : I64 n) : keyOf Try.prog 3 (.int .i64 n) = some (.int .i64 n) := keyOf_int_mk Try.underlying3 (wf_of h)

theorem plainElem_bool_inv {H : Type} {P : Program} {e : TypeId} (he : P.underlying e = some .bool) {v : Value} {z : DataW H × List MemPlace} (h : plainElem P e v = some z) : ∃ a, v = .bool a ∧ z = (.lit (.bool a), []) := by
  unfold plainElem at h
  rw [he] at h
  cases v <;> simp at h
  exact ⟨_, rfl, h.symm⟩

/-- 'm[k] = v' of a literal. -/
theorem wpList_insert_own {H : Type} {P : Program} (w : World) {ops : Array Oper} {rest : List Oper} {o : Oper} {a : Act} {Q : Exit → Act → World → Prop}
    (hg : o.guard = none) (m x v : Operand) (t : TypeId) (hop : o.op = Op.insert t m x v)
    (k e : TypeId) (K : Keyed P k) (ht : P.underlying t = some (.map k e)) (R : Value → Option (DataW H × List MemPlace)) (b n : Nat) (D : DataW H)
    (hm : a.eval m = .map (some b)) (hown : w.ownsMap P k R b n D) (hn : n < maxLen) (key val : Value) (kl : Lit) (hx : a.eval x = key) (hv : a.eval v = val) (hkey : keyOf P k key = some kl)
    (d : DataW H) (ps : List MemPlace) (hval : R val = some (d, ps))
    (hK : ∀ w', w'.ownsMap P k R b (n + 1) (D.put kl d) → w.grownBy w' (some b) → wpList P ops Q rest (a.put o.dst undef) w') :
    wpList P ops Q (o :: rest) a w := by
  refine wpList_plain hg fun K' hK' => ?_
  obtain ⟨w', hrun, r1, r2⟩ := hown.update K ht hn hkey hval
  unfold Oper.wp
  simp [execOp, hop, hm, hx, hv, hrun, Result.andThen]
  exact hK' _ _ (hK w' r1 r2)


/-- Block b is a map that holds how often each number stands in L. -/
def Counts (W : World) (b : Nat) (L : List Int) : Prop := ∃ D : DataW Unit, W.ownsMap Try.prog 3 (plainElem (H := Unit) Try.prog 3) b L.length D ∧ (∀ x, D.atKey (.int .i64 x) (.lit (.int .i64 0)) = .lit (.int .i64 (L.count x : Int))) ∧ (∀ x, has D (.int .i64 x) = decide (x ∈ L)) ∧ (L.Nodup → size D = L.length)
/-- Block b is a map that marks those of L. -/
def Marks (W : World) (b : Nat) (L : List Int) : Prop := ∃ D : DataW Unit, W.ownsMap Try.prog 3 (plainElem (H := Unit) Try.prog 4) b L.length D ∧ (∀ x, D.atKey (.int .i64 x) (.lit (.bool false)) = .lit (.bool (decide (x ∈ L))))

theorem Counts.kept {W W1 : World} {b : Nat} {L : List Int} {row : Option Nat} (h : Counts W b L) (hg : W.grownBy W1 row) (hne : some b ≠ row) : Counts W1 b L := by
  obtain ⟨D, h1, h2⟩ := h
  exact ⟨D, h1.kept hg hne, h2⟩
theorem Counts.below {W W1 : World} {b : Nat} {L : List Int} (h : Counts W b L) (hb : Below W.heap.size W W1) : Counts W1 b L := h.kept (grown_of_below hb none) (by simp)
theorem Counts.lt {W : World} {b : Nat} {L : List Int} (h : Counts W b L) : b < W.heap.size := by obtain ⟨D, h1, _⟩ := h; exact h1.lt
theorem Marks.kept {W W1 : World} {b : Nat} {L : List Int} {row : Option Nat} (h : Marks W b L) (hg : W.grownBy W1 row) (hne : some b ≠ row) : Marks W1 b L := by
  obtain ⟨D, h1, h2⟩ := h
  exact ⟨D, h1.kept hg hne, h2⟩
theorem Marks.below {W W1 : World} {b : Nat} {L : List Int} (h : Marks W b L) (hb : Below W.heap.size W W1) : Marks W1 b L := h.kept (grown_of_below hb none) (by simp)
theorem Marks.drewN {W : World} {b : Nat} {L : List Int} (h : Marks W b L) (n : Nat) : Marks (W.drewN n) b L := h
theorem Marks.lt {W : World} {b : Nat} {L : List Int} (h : Marks W b L) : b < W.heap.size := by obtain ⟨D, h1, _⟩ := h; exact h1.lt
theorem counts_made (W : World) : Counts (W.alloc (.map #[] 0)) W.heap.size [] :=
  ⟨.map [], World.ownsMap_made _ _ _ _, fun x => rfl, fun x => by simp [has], fun _ => rfl⟩
theorem marks_made (W : World) : Marks (W.alloc (.map #[] 0)) W.heap.size [] := ⟨.map [], World.ownsMap_made _ _ _ _, fun x => by simp [DataW.atKey]⟩
theorem Counts.look {W : World} {b : Nat} {L : List Int} (h : Counts W b L) (x : Int) (hx : I64 x) : (Instr.lookup 40 (.map (some b)) (.int .i64 x) false).run Try.prog W = .ok (.int .i64 (L.count x : Int)) W := by
  obtain ⟨D, h1, h2, _⟩ := h
  obtain ⟨c, hrun, hat, _⟩ := h1.lookup_int law3 Try.underlying40 Try.underlying3 (zero3 _) (key_of hx)
  rw [h2] at hat
  injection hat with hat
  injection hat with _ hat
  rw [hrun, hat]
theorem Marks.look {W : World} {b : Nat} {L : List Int} (h : Marks W b L) (x : Int) (hx : I64 x) : (Instr.lookup 42 (.map (some b)) (.int .i64 x) false).run Try.prog W = .ok (.bool (decide (x ∈ L))) W := by
  obtain ⟨D, h1, h2⟩ := h
  obtain ⟨v, ps, hrun, hv⟩ := h1.lookup law3 Try.underlying42 (zero4 _) (plainElem_bool Try.underlying4 false) (key_of hx)
  obtain ⟨c, rfl, hc⟩ := plainElem_bool_inv Try.underlying4 hv
  simp only [Prod.mk.injEq] at hc
  have hat := hc.1
  rw [h2] at hat
  injection hat with hat
  injection hat with hat
  rw [hrun, hat]
theorem Counts.len {W : World} {b : Nat} {L : List Int} (h : Counts W b L) (hn : L.Nodup) (ty : TypeId) : (Builtin.len_ #[40] ty #[.map (some b)]).run Try.prog W = .ok (.int .i64 (L.length : Int)) W := by
  obtain ⟨D, h1, _, _, h4⟩ := h
  rw [h1.len Try.underlying40 ty, h4 hn]
theorem lit_ne {x y : Int} (h : x ≠ y) : (Lit.int .i64 x) ≠ (.int .i64 y) := fun e => h (by injection e)
theorem isKey_int (x : Int) : WideAt.IsKeyLit (.int .i64 x) := by simp [WideAt.IsKeyLit]
theorem Counts.put {W W1 : World} {b : Nat} {L : List Int} {x : Int} {D : DataW Unit} (h1 : W.ownsMap Try.prog 3 (plainElem (H := Unit) Try.prog 3) b L.length D) (h2 : ∀ x, D.atKey (.int .i64 x) (.lit (.int .i64 0)) = .lit (.int .i64 (L.count x : Int))) (h3 : ∀ x, has D (.int .i64 x) = decide (x ∈ L)) (h4 : L.Nodup → size D = L.length)
    (h5 : W1.ownsMap Try.prog 3 (plainElem (H := Unit) Try.prog 3) b (L.length + 1) (D.put (.int .i64 x) (.lit (.int .i64 ((L.count x : Int) + 1))))) : Counts W1 b (L ++ [x]) := by
  refine ⟨_, by rw [List.length_append]; exact h5, fun y => ?_, fun y => ?_, fun hn => ?_⟩
  · by_cases e : y = x
    · subst e
      rw [atKey_put_same h1.isMap (isKey_int _)]
      simp [List.count_append]
    · rw [atKey_put_other (lit_ne e), h2]
      have : [x].count y = 0 := List.count_eq_zero.2 (by simp [e])
      simp [List.count_append, this]
  · by_cases e : y = x
    · subst e
      rw [has_put_same h1.isMap (isKey_int _)]
      simp
    · rw [has_put_other (lit_ne e), h3]
      simp [e]
  · rw [List.nodup_append] at hn
    rw [size_put (h1.tidy law3), h3]
    have hx : x ∉ L := fun hm => hn.2.2 x hm x (by simp) rfl
    simp [hx, h4 hn.1]
theorem Marks.put {W W1 : World} {b : Nat} {L : List Int} {x : Int} {D : DataW Unit} (h1 : W.ownsMap Try.prog 3 (plainElem (H := Unit) Try.prog 4) b L.length D) (h2 : ∀ x, D.atKey (.int .i64 x) (.lit (.bool false)) = .lit (.bool (decide (x ∈ L))))
    (h5 : W1.ownsMap Try.prog 3 (plainElem (H := Unit) Try.prog 4) b (L.length + 1) (D.put (.int .i64 x) (.lit (.bool true)))) : Marks W1 b (L ++ [x]) := by
  refine ⟨_, by rw [List.length_append]; exact h5, fun y => ?_⟩
  by_cases e : y = x
  · subst e
    rw [atKey_put_same h1.isMap (isKey_int _)]
    simp
  · rw [atKey_put_other (lit_ne e), h2]
    simp [e]
end Go.Proofs.Ytpoolbjmebacdaa.Q
