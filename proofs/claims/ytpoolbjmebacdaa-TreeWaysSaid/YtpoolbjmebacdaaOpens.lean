/- A header that came in, opened. -/
import Derived.Test.YtpoolbjmebacdaaQA
import Derived.Deep.Slices
import Derived.ChangeSame
import Derived.OpenShut
import Derived.ProofKit
namespace Go.Proofs.Ytpoolbjmebacdaa.Q
open Go.ChangeShapes Go.WideShapes Go.Deep Go.RowKit Go.Proofs.YtpoolbjmebacdaaW.PrintWords

theorem addr_plain (b off j : Nat) : (⟨b, off, none⟩ : Addr).add j = ⟨b, off + j, none⟩ := by unfold Addr.add; split <;> simp_all
theorem cl25 : Try.prog.cellsOf 25 = 4 := by kernel_rfl
theorem cl22 : Try.prog.cellsOf 22 = 1 := by kernel_rfl
theorem cl3 : Try.prog.cellsOf 3 = 1 := by kernel_rfl
theorem cl23 : Try.prog.cellsOf 23 = 1 := by kernel_rfl
theorem wf_i64 {n : Int} (h : (Lit.int .i64 n).wf = true) : -9223372036854775808 ≤ n ∧ n ≤ 9223372036854775807 := by
  simp [Lit.wf, IntKind.min, IntKind.max, IntKind.signed, IntKind.bits] at h; omega
theorem list4 {α : Type} {l : List α} (h : l.length = 4) : ∃ a b c d, l = [a, b, c, d] := by
  match l, h with
  | [a, b, c, d], _ => exact ⟨a, b, c, d, rfl⟩
theorem list1 {α : Type} {l : List α} (h : l.length = 1) : ∃ a, l = [a] := by
  match l, h with
  | [a], _ => exact ⟨a, rfl⟩
theorem choose_lt {α : Type} [Inhabited α] {p : Nat → α → Prop} {n : Nat} (h : ∀ i, i < n → ∃ x, p i x) : ∃ f : Nat → α, ∀ i, i < n → p i (f i) := by
  classical
  refine ⟨fun i => if hi : i < n then Classical.choose (h i hi) else default, fun i hi => ?_⟩
  simp only [hi, dif_pos]
  exact Classical.choose_spec (h i hi)
def I64 (n : Int) : Prop := -9223372036854775808 ≤ n ∧ n ≤ 9223372036854775807

section
variable {H : Type} {enc : TypeId × Value → H} {w : World} {base : Nat} {spare : Nat → Bool} {held : Bool}
theorem ints_open {fuel : Nat} {cs : List Value} {x : DataW H × List MemPlace} (h : DataW.trod enc Try.prog w base spare held fuel 22 cs = some x) :
    ∃ (A : Option Addr) (xs : List Int) (c : Nat), cs = [.slice A xs.length c] ∧ xs.length ≤ c ∧ Kd.C (Kd.int .i64) w A xs.length xs ∧ ∀ z, z ∈ xs → I64 z := by
  rcases open_slice Try.underlying22 h with h0 | ⟨a, len, cap, m, n, D, Pl, hcs, hb, hl, hm, hmm, hx, hi⟩
  · exact ⟨none, [], 0, h0.1, Nat.le_refl _, Kd.C_nil _ _, by simp⟩
  · obtain ⟨f, hf⟩ : ∃ f : Nat → Int, ∀ i, i < len → w.cell? (a.add i) = some (.int .i64 (f i)) ∧ I64 (f i) := by
      refine choose_lt (α := Int) (p := fun i z => w.cell? (a.add i) = some (.int .i64 z) ∧ I64 z) fun i hil => ?_
      have him : i < m := by rw [hmm]; split <;> omega
      obtain ⟨cs', hc, ht'⟩ := hi i him
      rw [cl3] at hc
      obtain ⟨_, hcl, hat⟩ := World.cells?_some hc
      obtain ⟨u, rfl⟩ := list1 hcl
      obtain ⟨z, e0, _, w0⟩ := DataW.trod_int Try.underlying3 ht'
      simp at e0
      subst e0
      have h0 := hat 0 (by omega)
      refine ⟨z, ?_, wf_i64 w0⟩
      have e : (a.add (i * 1)).add 0 = a.add i := by unfold Addr.add; split <;> simp_all
      rw [e] at h0
      simpa using h0
    refine ⟨some a, (List.range len).map f, cap, by simpa using hcs, by simpa using hl, ?_, ?_⟩
    · have h8 : len ≤ 9223372036854775807 := Nat.le_trans hl (Nat.le_trans hm (by decide))
      refine ⟨by simp, by simpa using h8, fun _ => ⟨a, rfl, fun j p hp => ⟨[.int .i64 p], rfl, rfl, fun i u hu => ?_⟩⟩⟩
      rw [List.getElem?_map, Option.map_eq_some_iff] at hp
      obtain ⟨j', hj', rfl⟩ := hp
      obtain ⟨hlt, hjj⟩ := List.getElem?_eq_some_iff.1 hj'
      simp at hlt hjj
      subst hjj
      have hi : i = 0 := by
        rcases Nat.eq_zero_or_pos i with h | h
        · exact h
        · rw [List.getElem?_eq_none (by simp; omega)] at hu; cases hu
      subst hi
      simp at hu
      subst hu
      have := (hf _ hlt).1
      simpa [Kd.int, Kd.scalar] using this
    · intro z hz
      simp only [List.mem_map, List.mem_range] at hz
      obtain ⟨i, hi, rfl⟩ := hz
      exact (hf i hi).2
theorem header_open {fuel : Nat} {cs : List Value} {x : DataW H × List MemPlace} (h : DataW.trod enc Try.prog w base spare held fuel 25 cs = some x) :
    ∃ (A : Option Addr) (ps : List Int) (c : Nat) (B : Option Addr) (hs : List Int) (d : Nat) (b g : Int), cs = [.slice A ps.length c, .slice B hs.length d, .int .i64 b, .int .u64 g] ∧ Kd.C (Kd.int .i64) w A ps.length ps ∧ ps.length ≤ c ∧ Kd.C (Kd.int .i64) w B hs.length hs ∧ hs.length ≤ d := by
  obtain ⟨xs, n, _, rfl, hl, hlen, hf⟩ := DataW.trod_struct Try.underlying25 h
  obtain ⟨c0, c1, c2, c3, rfl⟩ := list4 (hl.trans cl25)
  obtain ⟨y0, y1, y2, y3, rfl⟩ := list4 hlen
  have h0 := hf 0 _ rfl
  have h1 := hf 1 _ rfl
  have h2 := hf 2 _ rfl
  have h3 := hf 3 _ rfl
  simp [cl22, cl3, cl23] at h0 h1 h2 h3
  obtain ⟨A, ps, c, e0, hc, hr, _⟩ := ints_open h0
  obtain ⟨B, hs, d, e1, hd, hr1, _⟩ := ints_open h1
  obtain ⟨b, e2, _, _⟩ := DataW.trod_int Try.underlying3 h2
  obtain ⟨g, e3, _, _⟩ := DataW.trod_int Try.underlying23 h3
  simp at e0 e1 e2 e3
  subst e0 e1 e2 e3
  exact ⟨A, ps, c, B, hs, d, b, g, rfl, hr, hc, hr1, hd⟩
variable {r : Reach} {b1 : Nat} {d : DataW H} {p : List MemPlace}
theorem okWide_struct {P : Program} {t : TypeId} {fs : Array Field} {v : Value} (ht : P.underlying t = some (.struct fs)) (h : Value.okWide P w r b1 t v) : ∃ cs, v = .agg cs := by
  unfold Value.okWide at h
  rw [ht] at h
  obtain ⟨cs, h1, _⟩ := h
  exact ⟨cs, h1⟩
theorem header_arg {u : Value} (hv : Value.okWide Try.prog w r b1 25 u) (h : DataW.Trod enc Try.prog w base spare held 25 u d p) :
    ∃ (A : Option Addr) (ps : List Int) (c : Nat) (B : Option Addr) (hs : List Int) (d : Nat) (b g : Int), u = .agg #[.slice A ps.length c, .slice B hs.length d, .int .i64 b, .int .u64 g] ∧ Kd.C (Kd.int .i64) w A ps.length ps ∧ ps.length ≤ c ∧ Kd.C (Kd.int .i64) w B hs.length hs ∧ hs.length ≤ d := by
  obtain ⟨cs, rfl⟩ := okWide_struct Try.underlying25 hv
  obtain ⟨fuel, hf⟩ := h
  obtain ⟨A, ps, c, B, hs, d, b, g, he, h1, h2, h3, h4⟩ := header_open hf
  obtain ⟨l⟩ := cs
  simp only [Value.cells] at he
  subst he
  exact ⟨A, ps, c, B, hs, d, b, g, rfl, h1, h2, h3, h4⟩
end
end Go.Proofs.Ytpoolbjmebacdaa.Q
