/- The laws' arguments, opened: expressions, sets, events. -/
import Derived.Test.YtjkhajcngapjcaaEU
import Derived.Deep.Slices
import Derived.Deep.Strs
import Derived.ChangeSame
import Derived.OpenShut
import Derived.ProofKit
namespace Go.Proofs.Ytjkhajcngapjcaa.Q
open Go.ChangeShapes Go.WideShapes Go.Deep Go.RowKit Go.Proofs.YtjkhajcngapjcaaW.PrintWords
set_option linter.unusedVariables false
set_option linter.unusedSimpArgs false

theorem addr_add_add (a : Addr) (m j : Nat) : (a.add m).add j = a.add (m + j) := by
  unfold Addr.add
  by_cases hj : j = 0
  · subst hj; simp
  · by_cases hm : m = 0
    · subst hm; simp
    · simp [hj, hm, Nat.add_assoc]
theorem cl3 : Try.prog.cellsOf 3 = 1 := by kernel_rfl
theorem cl4 : Try.prog.cellsOf 4 = 1 := by kernel_rfl
theorem cl9 : Try.prog.cellsOf 9 = 1 := by kernel_rfl
theorem cl22 : Try.prog.cellsOf 22 = 1 := by kernel_rfl
theorem cl23 : Try.prog.cellsOf 23 = 1 := by kernel_rfl
theorem cl26 : Try.prog.cellsOf 26 = 1 := by kernel_rfl
theorem cl25 : Try.prog.cellsOf 25 = 4 := by kernel_rfl
theorem cl28 : Try.prog.cellsOf 28 = 7 := by kernel_rfl
theorem cl30 : Try.prog.cellsOf 30 = 3 := by kernel_rfl
theorem cl32 : Try.prog.cellsOf 32 = 12 := by kernel_rfl
theorem cl54 : Try.prog.cellsOf 54 = 2 := by kernel_rfl
theorem wf_i64 {n : Int} (h : (Lit.int .i64 n).wf = true) : I64 n := by
  simp [Lit.wf, IntKind.min, IntKind.max, IntKind.signed, IntKind.bits] at h; unfold I64; omega
theorem list1 {α : Type} {l : List α} (h : l.length = 1) : ∃ a, l = [a] := by
  match l, h with
  | [a], _ => exact ⟨a, rfl⟩
theorem list2 {α : Type} {l : List α} (h : l.length = 2) : ∃ a b, l = [a, b] := by
  match l, h with
  | [a, b], _ => exact ⟨a, b, rfl⟩
theorem list3 {α : Type} {l : List α} (h : l.length = 3) : ∃ a b c, l = [a, b, c] := by
  match l, h with
  | [a, b, c], _ => exact ⟨a, b, c, rfl⟩
theorem list4 {α : Type} {l : List α} (h : l.length = 4) : ∃ a b c d, l = [a, b, c, d] := by
  match l, h with
  | [a, b, c, d], _ => exact ⟨a, b, c, d, rfl⟩
theorem list7 {α : Type} {l : List α} (h : l.length = 7) : ∃ a b c d e f g, l = [a, b, c, d, e, f, g] := by
  match l, h with
  | [a, b, c, d, e, f, g], _ => exact ⟨a, b, c, d, e, f, g, rfl⟩
theorem choose_lt {α : Type} [Inhabited α] {p : Nat → α → Prop} {n : Nat} (h : ∀ i, i < n → ∃ x, p i x) : ∃ f : Nat → α, ∀ i, i < n → p i (f i) := by
  classical
  refine ⟨fun i => if hi : i < n then Classical.choose (h i hi) else default, fun i hi => ?_⟩
  simp only [hi, dif_pos]
  exact Classical.choose_spec (h i hi)

section
variable {H : Type} {enc : TypeId × Value → H} {w : World} {base : Nat} {spare : Nat → Bool} {held : Bool}
/-- A slice opened, element by element. -/
theorem rows_open {α : Type} [Inhabited α] (d : Kd α) (Pr : α → Prop) {t e : TypeId} {K fuel : Nat} {cs : List Value} {x : DataW H × List MemPlace} (ht : Try.prog.underlying t = some (.slice e)) (hC : Try.prog.cellsOf e = K) (hsz : d.sz = K)
    (hel : ∀ m, m < fuel → ∀ (cs' : List Value) (y : DataW H × List MemPlace), DataW.trod enc Try.prog w base spare held m e cs' = some y → ∃ a, d.K w a cs' ∧ Pr a)
    (h : DataW.trod enc Try.prog w base spare held fuel t cs = some x) : ∃ (A : Option Addr) (xs : List α) (c : Nat), cs = [.slice A xs.length c] ∧ xs.length ≤ c ∧ d.C w A xs.length xs ∧ ∀ z, z ∈ xs → Pr z := by
  rcases DataW.trod_slice ht h with h0 | ⟨a, len, cap, elems, rest, n, hfu, hcs, hx, hb, hl, hm, hlen, hi, _, _⟩
  · exact ⟨none, [], 0, h0.1, Nat.le_refl _, Kd.C_nil _ _, by simp⟩
  · obtain ⟨f, hf⟩ : ∃ f : Nat → α, ∀ i, i < len → Pr (f i) ∧ ∃ c, c.length = d.sz ∧ d.K w (f i) c ∧ ∀ j u, c[j]? = some u → w.cell? (a.add (i * d.sz + j)) = some u := by
      refine choose_lt (α := α) (p := fun i z => Pr z ∧ ∃ c, c.length = d.sz ∧ d.K w z c ∧ ∀ j u, c[j]? = some u → w.cell? (a.add (i * d.sz + j)) = some u) fun i hil => ?_
      have h1 := hi i hil
      rw [List.getElem?_eq_getElem (by omega)] at h1
      obtain ⟨cs', hc, ht'⟩ := Option.bind_eq_some_iff.1 h1
      rw [hC] at hc
      obtain ⟨_, hcl, hat⟩ := World.cells?_some hc
      obtain ⟨z, hz, hp⟩ := hel n (by omega) cs' _ ht'
      refine ⟨z, hp, cs', hcl.trans hsz.symm, hz, fun j u hu => ?_⟩
      have hjl : j < K := by have := (List.getElem?_eq_some_iff.1 hu).1; omega
      rw [← addr_add_add, hsz, hat j hjl, hu]
    refine ⟨some a, (List.range len).map f, cap, by simpa using hcs, by simpa using hl, ?_, ?_⟩
    · have h8 : len ≤ 9223372036854775807 := Nat.le_trans hl (Nat.le_trans hm (by decide))
      refine ⟨by simp, by simpa using h8, fun _ => ⟨a, rfl, fun j p hp => ?_⟩⟩
      rw [List.getElem?_map, Option.map_eq_some_iff] at hp
      obtain ⟨j', hj', rfl⟩ := hp
      obtain ⟨hlt, hjj⟩ := List.getElem?_eq_some_iff.1 hj'
      simp at hlt hjj
      subst hjj
      exact (hf _ hlt).2
    · intro z hz
      simp only [List.mem_map, List.mem_range] at hz
      obtain ⟨i, hi, rfl⟩ := hz
      exact (hf i hi).1
instance : Inhabited S54 := ⟨z54⟩
instance : Inhabited S28 := ⟨z28⟩
instance : Inhabited V3 := ⟨⟨0, 0, ByteArray.empty⟩⟩
instance : Inhabited ByteArray := ⟨ByteArray.empty⟩
theorem range_open {fuel : Nat} {cs : List Value} {x : DataW H × List MemPlace} (h : DataW.trod enc Try.prog w base spare held fuel 54 cs = some x) : ∃ r : S54, k54.K w r cs ∧ (I64 r.f0 ∧ I64 r.f1) := by
  obtain ⟨y0, y1, n, _, hl, h0, h1⟩ := trod_struct2 Try.underlying54 h
  obtain ⟨a, b, rfl⟩ := list2 (hl.trans cl54)
  simp [cl3] at h0 h1
  obtain ⟨lo, e0, _, w0⟩ := DataW.trod_int Try.underlying3 h0
  obtain ⟨hi, e1, _, w1⟩ := DataW.trod_int Try.underlying3 h1
  simp at e0 e1
  subst e0 e1
  exact ⟨⟨lo, hi⟩, k54_mk w ⟨lo, hi⟩, wf_i64 w0, wf_i64 w1⟩
theorem ranges_open {fuel : Nat} {cs : List Value} {x : DataW H × List MemPlace} (h : DataW.trod enc Try.prog w base spare held fuel 22 cs = some x) : ∃ (A : Option Addr) (xs : List S54) (c : Nat), cs = [.slice A xs.length c] ∧ xs.length ≤ c ∧ k54.C w A xs.length xs ∧ ∀ r, r ∈ xs → I64 r.f0 ∧ I64 r.f1 :=
  rows_open k54 (fun r => I64 r.f0 ∧ I64 r.f1) Try.underlying22 cl54 rfl (fun m _ cs' y hy => range_open hy) h
theorem strs_open {fuel : Nat} {cs : List Value} {x : DataW H × List MemPlace} (h : DataW.trod enc Try.prog w base spare held fuel 23 cs = some x) : ∃ (A : Option Addr) (xs : List ByteArray) (c : Nat), cs = [.slice A xs.length c] ∧ xs.length ≤ c ∧ Kd.string.C w A xs.length xs := by
  obtain ⟨A, xs, c, h1, h2, h3, _⟩ := rows_open Kd.string (fun _ => True) Try.underlying23 cl9 rfl (fun m _ cs' y hy => by
    obtain ⟨s, rfl, _, _⟩ := DataW.trod_string Try.underlying9 hy
    exact ⟨s, rfl, trivial⟩) h
  exact ⟨A, xs, c, h1, h2, h3⟩
theorem set_open {fuel : Nat} {cs : List Value} {x : DataW H × List MemPlace} (h : DataW.trod enc Try.prog w base spare held fuel 25 cs = some x) : ∃ (s : S25) (A : Option Addr) (c : Nat) (B : Option Addr) (d : Nat), cs = [.bool s.f0, .slice A s.f1.length c, .bool s.f2, .slice B s.f3.length d] ∧ s.f1.length ≤ c ∧ k54.C w A s.f1.length s.f1 ∧ s.f3.length ≤ d ∧ Kd.string.C w B s.f3.length s.f3 ∧ NumS s := by
  obtain ⟨xs, n, _, rfl, hl, hlen, hf⟩ := DataW.trod_struct Try.underlying25 h
  obtain ⟨c0, c1, c2, c3, rfl⟩ := list4 (hl.trans cl25)
  obtain ⟨y0, y1, y2, y3, rfl⟩ := list4 hlen
  have h0 := hf 0 _ rfl
  have h1 := hf 1 _ rfl
  have h2 := hf 2 _ rfl
  have h3 := hf 3 _ rfl
  simp [cl4, cl22, cl23] at h0 h1 h2 h3
  obtain ⟨a, e0, _⟩ := DataW.trod_bool Try.underlying4 h0
  obtain ⟨A, rs, d1, e1, l1, g1, hn⟩ := ranges_open h1
  obtain ⟨co, e2, _⟩ := DataW.trod_bool Try.underlying4 h2
  obtain ⟨B, ss, d2, e3, l3, g3⟩ := strs_open h3
  simp at e0 e1 e2 e3
  subst e0 e1 e2 e3
  exact ⟨⟨a, rs, co, ss⟩, A, d1, B, d2, rfl, l1, g1, l3, g3, hn⟩
theorem expr_open (fuel : Nat) : ∀ (cs : List Value) (x : DataW H × List MemPlace), DataW.trod enc Try.prog w base spare held fuel 28 cs = some x → ∃ X : S28, k28.K w X cs ∧ Each (fun y => NumS y.f2) X := by
  induction fuel using Nat.strongRecOn with
  | _ fuel ih =>
  intro cs x h
  obtain ⟨xs, n, hfu, rfl, hl, hlen, hf⟩ := DataW.trod_struct Try.underlying28 h
  obtain ⟨c0, c1, c2, c3, c4, c5, c6, rfl⟩ := list7 (hl.trans cl28)
  obtain ⟨y0, y1, y2, y3, rfl⟩ := list4 hlen
  have h0 := hf 0 _ rfl
  have h1 := hf 1 _ rfl
  have h2 := hf 2 _ rfl
  have h3 := hf 3 _ rfl
  simp [cl3, cl25, cl26] at h0 h1 h2 h3
  obtain ⟨k, e0, _, _⟩ := DataW.trod_int Try.underlying3 h0
  obtain ⟨a, e1, _, _⟩ := DataW.trod_int Try.underlying3 h1
  obtain ⟨s, A3, d3, A5, d5, e2, l3, g3, l5, g5, hn⟩ := set_open h2
  obtain ⟨A6, l, d6, e3, l6, g6, hs⟩ := rows_open k28 (Each (fun y => NumS y.f2)) Try.underlying26 cl28 rfl (fun m hm cs' y hy => ih m (by omega) cs' y hy) h3
  simp at e0 e1 e2 e3
  obtain ⟨rfl, rfl, rfl, rfl⟩ := e2
  subst e0 e1 e3
  exact ⟨⟨k, a, s, l⟩, k28_mk w ⟨k, a, s, l⟩ l3 g3 l5 g5 l6 g6, .mk _ hn hs⟩
theorem value_open {fuel : Nat} {cs : List Value} {x : DataW H × List MemPlace} (h : DataW.trod enc Try.prog w base spare held fuel 30 cs = some x) : ∃ v : V3, cs = [.int .i64 v.k, .int .i64 v.n, .string v.t] := by
  obtain ⟨y0, y1, y2, n, _, hl, h0, h1, h2⟩ := trod_struct3 Try.underlying30 h
  obtain ⟨a, b, c, rfl⟩ := list3 (hl.trans cl30)
  simp [cl3, cl9] at h0 h1 h2
  obtain ⟨k, e0, _, _⟩ := DataW.trod_int Try.underlying3 h0
  obtain ⟨m, e1, _, w1⟩ := DataW.trod_int Try.underlying3 h1
  obtain ⟨s, e2, _, _⟩ := DataW.trod_string Try.underlying9 h2
  simp at e0 e1 e2
  subst e0 e1 e2
  exact ⟨⟨k, m, s⟩, rfl⟩
theorem cut4 {α : Type} {l : List α} (n : Nat) (h : l.length = 4 * n) : l = (l.take n) ++ ((l.drop n).take n ++ ((l.drop (2 * n)).take n ++ (l.drop (3 * n)).take n)) := by
  have h3 : (l.drop (3 * n)).take n = l.drop (3 * n) := List.take_of_length_le (by simp; omega)
  rw [h3]
  have e2 : l.drop (3 * n) = (l.drop (2 * n)).drop n := by rw [List.drop_drop]; congr 1; omega
  rw [e2, List.take_append_drop]
  have e1 : l.drop (2 * n) = (l.drop n).drop n := by rw [List.drop_drop]; congr 1; omega
  rw [e1, List.take_append_drop, List.take_append_drop]
theorem event_open {fuel : Nat} {cs : List Value} {x : DataW H × List MemPlace} (h : DataW.trod enc Try.prog w base spare held fuel 32 cs = some x) : ∃ e : Nat → V3, cs = [.int .i64 (e 0).k, .int .i64 (e 0).n, .string (e 0).t, .int .i64 (e 1).k, .int .i64 (e 1).n, .string (e 1).t, .int .i64 (e 2).k, .int .i64 (e 2).n, .string (e 2).t, .int .i64 (e 3).k, .int .i64 (e 3).n, .string (e 3).t] := by
  obtain ⟨xs, m, _, _, hl, hxl, hel⟩ := DataW.trod_array Try.underlying32 h
  rw [cl32] at hl
  rw [cl30] at hel
  obtain ⟨y0, y1, y2, y3, rfl⟩ := list4 hxl
  obtain ⟨v0, e0⟩ := value_open (hel 0 (by omega))
  obtain ⟨v1, e1⟩ := value_open (hel 1 (by omega))
  obtain ⟨v2, e2⟩ := value_open (hel 2 (by omega))
  obtain ⟨v3, e3⟩ := value_open (hel 3 (by omega))
  have hc := cut4 3 (by omega : cs.length = 4 * 3)
  simp only [Nat.zero_mul, List.drop_zero, Nat.one_mul] at e0 e1
  rw [e0, e1, e2, e3] at hc
  exact ⟨fun j => match j with | 0 => v0 | 1 => v1 | 2 => v2 | _ => v3, hc⟩
/-! The same, of arguments. -/
variable {r : Reach} {b1 : Nat} {d : DataW H} {p : List MemPlace}
theorem okWide_array {P : Program} {t e : TypeId} {n : Nat} {v : Value} (ht : P.underlying t = some (.array n e)) (h : Value.okWide P w r b1 t v) : ∃ cs, v = .agg cs := by
  unfold Value.okWide at h
  rw [ht] at h
  obtain ⟨cs, h1, _⟩ := h
  exact ⟨cs, h1⟩
theorem okWide_struct {P : Program} {t : TypeId} {fs : Array Field} {v : Value} (ht : P.underlying t = some (.struct fs)) (h : Value.okWide P w r b1 t v) : ∃ cs, v = .agg cs := by
  unfold Value.okWide at h
  rw [ht] at h
  obtain ⟨cs, h1, _⟩ := h
  exact ⟨cs, h1⟩
theorem expr_arg {u : Value} (hv : Value.okWide Try.prog w r b1 28 u) (h : DataW.Trod enc Try.prog w base spare held 28 u d p) : ∃ X : S28, XR w u X ∧ Each (fun y => NumS y.f2) X := by
  obtain ⟨cs, rfl⟩ := okWide_struct Try.underlying28 hv
  obtain ⟨fuel, hf⟩ := h
  obtain ⟨X, hK, hs⟩ := expr_open fuel _ _ hf
  obtain ⟨A3, c3, A5, c5, A6, c6, he, l3, g3, l5, g5, l6, g6⟩ := k28_open hK
  obtain ⟨l⟩ := cs
  simp only [Value.cells] at he
  subst he
  exact ⟨X, ⟨A3, c3, A5, c5, A6, c6, rfl, l3, g3, l5, g5, l6, g6⟩, hs⟩
theorem exprs_arg {u : Value} (hv : Value.okWide Try.prog w r b1 26 u) (h : DataW.Trod enc Try.prog w base spare held 26 u d p) : ∃ (A : Option Addr) (xs : List S28) (c : Nat), u = .slice A xs.length c ∧ xs.length ≤ c ∧ k28.C w A xs.length xs ∧ ∀ z, z ∈ xs → Each (fun y => NumS y.f2) z := by
  obtain ⟨a, len, cap, rfl⟩ := okWide_slice Try.underlying26 hv
  obtain ⟨fuel, hf⟩ := h
  obtain ⟨A, xs, c, he, hl, hc, hs⟩ := rows_open k28 (Each (fun y => NumS y.f2)) Try.underlying26 cl28 rfl (fun m hm cs' y hy => expr_open m cs' y hy) hf
  simp [Value.cells] at he
  obtain ⟨rfl, rfl, rfl⟩ := he
  exact ⟨_, xs, _, rfl, hl, hc, hs⟩
theorem set_arg {u : Value} (hv : Value.okWide Try.prog w r b1 25 u) (h : DataW.Trod enc Try.prog w base spare held 25 u d p) : ∃ (s : S25) (A : Option Addr) (c : Nat) (B : Option Addr) (d : Nat), u = .agg #[.bool s.f0, .slice A s.f1.length c, .bool s.f2, .slice B s.f3.length d] ∧ s.f1.length ≤ c ∧ k54.C w A s.f1.length s.f1 ∧ s.f3.length ≤ d ∧ Kd.string.C w B s.f3.length s.f3 ∧ NumS s := by
  obtain ⟨cs, rfl⟩ := okWide_struct Try.underlying25 hv
  obtain ⟨fuel, hf⟩ := h
  obtain ⟨s, A, c, B, d, he, r⟩ := set_open hf
  obtain ⟨l⟩ := cs
  simp only [Value.cells] at he
  subst he
  exact ⟨s, A, c, B, d, rfl, r⟩
theorem event_arg {u : Value} (hv : Value.okWide Try.prog w r b1 32 u) (h : DataW.Trod enc Try.prog w base spare held 32 u d p) : ∃ e : Nat → V3, u = .agg #[.int .i64 (e 0).k, .int .i64 (e 0).n, .string (e 0).t, .int .i64 (e 1).k, .int .i64 (e 1).n, .string (e 1).t, .int .i64 (e 2).k, .int .i64 (e 2).n, .string (e 2).t, .int .i64 (e 3).k, .int .i64 (e 3).n, .string (e 3).t] := by
  obtain ⟨cs, rfl⟩ := okWide_array Try.underlying32 hv
  obtain ⟨fuel, hf⟩ := h
  obtain ⟨e, he⟩ := event_open hf
  obtain ⟨l⟩ := cs
  simp only [Value.cells] at he
  subst he
  exact ⟨e, rfl⟩
end
end Go.Proofs.Ytjkhajcngapjcaa.Q
