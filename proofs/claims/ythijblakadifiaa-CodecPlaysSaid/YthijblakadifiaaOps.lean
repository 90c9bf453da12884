/- A script of calls (a slice of structs of two numbers) as it is read. -/
import Derived.Test.YthijblakadifiaaLaws
import Derived.Deep.Slices
import Derived.Deep.Fields
import Derived.ChangeSame
import Derived.ProofKit
namespace Go.Proofs.Ythijblakadifiaa
open Go.ChangeShapes Go.WideShapes Go.Deep Go.RowKit

/-- What the walk knows of a script: n calls, the i-th is (k i, m i). -/
def OpsR (w : World) (A : Option Addr) (n : Nat) (k m : Nat → Int) : Prop :=
  0 < n → ∃ b off, A = some ⟨b, off, none⟩ ∧ b < w.heap.size ∧ ∀ i, i < n → w.cell? ⟨b, off + i * 2, none⟩ = some (.int .i64 (k i)) ∧ w.cell? ⟨b, off + i * 2 + 1, none⟩ = some (.int .i64 (m i)) ∧ -9223372036854775808 ≤ m i ∧ m i ≤ 9223372036854775807

section
variable {H : Type} {enc : TypeId × Value → H} {P : Program} {w : World} {base : Nat} {spare : Nat → Bool} {held : Bool}
theorem open_slice_fields {t e : TypeId} {fs : Array Field} {fuel : Nat} {cs : List Value} {x : DataW H × List MemPlace} (ht : P.underlying t = some (.slice e)) (he : P.underlying e = some (.struct fs))
    (hone : oneCellFields P fs = true) (hC : P.cellsOf e = fs.size) (h : DataW.trod enc P w base spare held fuel t cs = some x) :
    (cs = [.slice none 0 0]) ∨
    ∃ (a : Addr) (len cap : Nat), cs = [.slice (some a) len cap] ∧ len ≤ cap ∧ cap ≤ maxLen ∧
      ∀ i, i < len → ∃ n, ∀ (j : Nat) (f : Field), fs[j]? = some f → ∃ (v : Value) (y : DataW H × List MemPlace), w.cell? (a.add (i * fs.size + j)) = some v ∧ DataW.trod enc P w base spare held n f.type [v] = some y := by
  rcases open_slice ht h with h0 | ⟨a, len, cap, m, n, D, Pl, hcs, hb, hl, hm, hmm, hx, hi⟩
  · exact .inl h0.1
  · refine .inr ⟨a, len, cap, hcs, hl, hm, fun i hil => ?_⟩
    have him : i < m := by rw [hmm]; split <;> omega
    obtain ⟨cs', hc, ht'⟩ := hi i him
    rw [hC] at hc
    obtain ⟨ys, n', hn', hy, hlen, hyl, hf⟩ := DataW.trod_struct he ht'
    obtain ⟨_, hcl, hat⟩ := World.cells?_some hc
    refine ⟨n', fun j f hj => ?_⟩
    obtain ⟨ho, hk⟩ := hone_of hone j f hj
    have hjl : j < fs.size := (Array.getElem?_eq_some_iff.1 hj).1
    have hcell := hat j hjl
    have hv : cs'[j]? = some (cs'[j]'(by omega)) := List.getElem?_eq_getElem (by omega)
    have h1 := hf j f hj
    rw [ho, hk] at h1
    have hone' : (cs'.drop j).take 1 = [cs'[j]'(by omega)] := by
      rw [List.drop_eq_getElem_cons (by omega)]
      rfl
    rw [hone'] at h1
    have hys : ys[j]? = some (ys[j]'(by omega)) := List.getElem?_eq_getElem (by omega)
    refine ⟨_, _, ?_, h1.trans hys⟩
    rw [← Go.Deep.add_add, hcell, hv]

theorem addr_plain (b off j : Nat) : (⟨b, off, none⟩ : Addr).add j = ⟨b, off + j, none⟩ := by unfold Addr.add; split <;> simp_all

theorem ops_read {v : Value} {d : DataW H} {p : List MemPlace} (hv : ∃ a len cap, v = .slice a len cap) (h : DataW.Trod enc Try.prog w base spare held 36 v d p) :
    ∃ A n cap k m, v = .slice A n cap ∧ n ≤ cap ∧ n ≤ maxLen ∧ OpsR w A n k m := by
  obtain ⟨a, len, cap, rfl⟩ := hv
  obtain ⟨fuel, hf⟩ := h
  rcases open_slice_fields (P := Try.prog) (e := 42) Try.underlying36 Try.underlying42 (by kernel_rfl) (by kernel_rfl) hf with h0 | ⟨a', len', cap', hcs, hlc, hcm, hall⟩
  · simp [Value.cells] at h0
    obtain ⟨rfl, rfl, rfl⟩ := h0
    exact ⟨none, 0, 0, fun _ => 0, fun _ => 0, rfl, Nat.le_refl _, Nat.zero_le _, fun h => absurd h (by omega)⟩
  · simp [Value.cells] at hcs
    obtain ⟨rfl, rfl, rfl⟩ := hcs
    by_cases h0 : len = 0
    · subst h0
      exact ⟨_, 0, cap, fun _ => 0, fun _ => 0, rfl, Nat.zero_le _, Nat.zero_le _, fun h => absurd h (by omega)⟩
    · obtain ⟨b, off, spot⟩ := a'
      have hk : ∀ i, i < len → ∃ x : Int, ∃ y : Int, w.cell? ((⟨b, off, spot⟩ : Addr).add (i * 2)) = some (.int .i64 x) ∧ w.cell? ((⟨b, off, spot⟩ : Addr).add (i * 2 + 1)) = some (.int .i64 y) ∧ (Lit.int .i64 y).wf = true := by
        intro i hi
        obtain ⟨n, hn⟩ := hall i hi
        obtain ⟨v0, y0, hc0, ht0⟩ := hn 0 _ rfl
        obtain ⟨v1, y1, hc1, ht1⟩ := hn 1 _ rfl
        obtain ⟨x0, e0, -, w0⟩ := DataW.trod_int Try.underlying3 ht0
        obtain ⟨x1, e1, -, w1⟩ := DataW.trod_int Try.underlying3 ht1
        simp at e0 e1
        subst e0 e1
        exact ⟨x0, x1, hc0, hc1, w1⟩
      have hspot : spot = none := by
        obtain ⟨x, y, hc, _⟩ := hk 0 (by omega)
        simpa [Addr.add] using World.cell?_spot hc
      subst hspot
      simp only [addr_plain] at hk
      refine ⟨_, len, cap, fun i => if h : i < len then (hk i h).choose else 0, fun i => if h : i < len then (hk i h).choose_spec.choose else 0, rfl, hlc, by omega, fun _ => ⟨b, off, rfl, ?_, fun i hi => ?_⟩⟩
      · exact World.block_lt_of_cell? w _ (hk 0 (by omega)).choose_spec.choose_spec.1
      · simp only [hi, dif_pos]
        obtain ⟨h1, h2, h3⟩ := (hk i hi).choose_spec.choose_spec
        exact ⟨h1, by simpa [Nat.add_assoc] using h2, wf_i64 h3⟩
end
end Go.Proofs.Ythijblakadifiaa
