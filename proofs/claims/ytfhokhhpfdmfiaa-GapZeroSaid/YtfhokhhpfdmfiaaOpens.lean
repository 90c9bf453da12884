/- The law's arguments, opened: filters, boxes, events. -/
import Derived.Test.YtfhokhhpfdmfiaaFilter
import Derived.Deep.Slices
import Derived.Deep.Strs
import Derived.ChangeSame
import Derived.OpenShut
import Derived.ProofKit
namespace Go.Proofs.Ytfhokhhpfdmfiaa
open Go.ChangeShapes Go.WideShapes Go.Deep Go.RowKit

theorem addr_plain (b off j : Nat) : (⟨b, off, none⟩ : Addr).add j = ⟨b, off + j, none⟩ := by unfold Addr.add; split <;> simp_all
theorem cl26 : Try.prog.cellsOf 26 = 4 := by kernel_rfl
theorem cl28 : Try.prog.cellsOf 28 = 16 := by kernel_rfl
theorem cl32 : Try.prog.cellsOf 32 = 12 := by kernel_rfl
theorem cl30 : Try.prog.cellsOf 30 = 3 := by kernel_rfl
theorem cl48 : Try.prog.cellsOf 48 = 2 := by kernel_rfl
theorem cl9 : Try.prog.cellsOf 9 = 1 := by kernel_rfl
theorem cl3 : Try.prog.cellsOf 3 = 1 := by kernel_rfl
theorem cl4 : Try.prog.cellsOf 4 = 1 := by kernel_rfl
theorem cl23 : Try.prog.cellsOf 23 = 1 := by kernel_rfl
theorem cl24 : Try.prog.cellsOf 24 = 1 := by kernel_rfl

theorem list4 {α : Type} {l : List α} (h : l.length = 4) : ∃ a b c d, l = [a, b, c, d] := by
  match l, h with
  | [a, b, c, d], _ => exact ⟨a, b, c, d, rfl⟩
theorem list3 {α : Type} {l : List α} (h : l.length = 3) : ∃ a b c, l = [a, b, c] := by
  match l, h with
  | [a, b, c], _ => exact ⟨a, b, c, rfl⟩
theorem list2 {α : Type} {l : List α} (h : l.length = 2) : ∃ a b, l = [a, b] := by
  match l, h with
  | [a, b], _ => exact ⟨a, b, rfl⟩
theorem list1 {α : Type} {l : List α} (h : l.length = 1) : ∃ a, l = [a] := by
  match l, h with
  | [a], _ => exact ⟨a, rfl⟩

section
variable {H : Type} {enc : TypeId × Value → H} {w : World} {base : Nat} {spare : Nat → Bool} {held : Bool}
theorem open_rows {P : Program} {t e : TypeId} {K fuel : Nat} {cs : List Value} {x : DataW H × List MemPlace} (ht : P.underlying t = some (.slice e)) (hC : P.cellsOf e = K) (hK : 0 < K) (h : DataW.trod enc P w base spare held fuel t cs = some x) :
    ∃ (A : Option Addr) (len cap : Nat), cs = [.slice A len cap] ∧ len ≤ cap ∧ len ≤ 9223372036854775807 ∧ (0 < len → ∃ b off, A = some ⟨b, off, none⟩ ∧ b < w.heap.size ∧ ∀ i, i < len → ∃ (cs' : List Value) (n : Nat) (y : DataW H × List MemPlace), cs'.length = K ∧ (∀ j, j < K → w.cell? ⟨b, off + i * K + j, none⟩ = cs'[j]?) ∧ DataW.trod enc P w base spare held n e cs' = some y) := by
  rcases open_slice ht h with h0 | ⟨a, len, cap, m, n, D, Pl, hcs, hb, hl, hm, hmm, hx, hi⟩
  · exact ⟨none, 0, 0, h0.1, Nat.le_refl _, Nat.zero_le _, fun h => absurd h (by omega)⟩
  · refine ⟨some a, len, cap, hcs, hl, Nat.le_trans hl (Nat.le_trans hm (by decide)), fun h0 => ?_⟩
    have hrow : ∀ i, i < len → ∃ (cs' : List Value) (y : DataW H × List MemPlace), cs'.length = K ∧ (∀ j, j < K → w.cell? ((a.add (i * K)).add j) = cs'[j]?) ∧ DataW.trod enc P w base spare held n e cs' = some y := by
      intro i hil
      have him : i < m := by rw [hmm]; split <;> omega
      obtain ⟨cs', hc, ht'⟩ := hi i him
      rw [hC] at hc
      obtain ⟨_, hcl, hat⟩ := World.cells?_some hc
      exact ⟨cs', _, hcl, hat, ht'⟩
    obtain ⟨b, off, spot⟩ := a
    have hsp : spot = none ∧ b < w.heap.size := by
      obtain ⟨cs', y, hl', hat, _⟩ := hrow 0 h0
      have h1 := hat 0 hK
      have h2 : cs'[0]? = some (cs'[0]'(by omega)) := List.getElem?_eq_getElem (by omega)
      rw [h2] at h1
      exact ⟨by simpa [Addr.add] using World.cell?_spot h1, by simpa [Addr.add] using World.block_lt_of_cell? w _ h1⟩
    obtain ⟨rfl, hbl⟩ := hsp
    refine ⟨b, off, rfl, hbl, fun i hil => ?_⟩
    obtain ⟨cs', y, h1, h2, h3⟩ := hrow i hil
    refine ⟨cs', n, y, h1, fun j hj => ?_, h3⟩
    rw [← h2 j hj, addr_plain, addr_plain]

theorem range_open {fuel : Nat} {cs : List Value} {x : DataW H × List MemPlace} (h : DataW.trod enc Try.prog w base spare held fuel 48 cs = some x) : ∃ lo hi : Int, cs = [.int .i64 lo, .int .i64 hi] ∧ I64 lo ∧ I64 hi := by
  obtain ⟨y0, y1, n, _, hl, h0, h1⟩ := trod_struct2 Try.underlying48 h
  obtain ⟨a, b, rfl⟩ := list2 (hl.trans cl48)
  simp [cl3] at h0 h1
  obtain ⟨lo, e0, _, w0⟩ := DataW.trod_int Try.underlying3 h0
  obtain ⟨hi, e1, _, w1⟩ := DataW.trod_int Try.underlying3 h1
  simp at e0 e1
  subst e0 e1
  exact ⟨lo, hi, rfl, wf_i64 w0, wf_i64 w1⟩

theorem ranges_open {fuel : Nat} {cs : List Value} {x : DataW H × List MemPlace} (h : DataW.trod enc Try.prog w base spare held fuel 23 cs = some x) : ∃ A n c rs, cs = [.slice A n c] ∧ RangesR w A n rs ∧ n ≤ c := by
  obtain ⟨A, n, c, rfl, hnc, hn, hr⟩ := open_rows Try.underlying23 cl48 (by omega) h
  by_cases h0 : 0 < n
  · obtain ⟨b, off, rfl, hb, hrow⟩ := hr h0
    obtain ⟨f, hf⟩ : ∃ f : Nat → Int × Int, ∀ i, i < n → w.cell? ⟨b, off + i * 2, none⟩ = some (.int .i64 (f i).1) ∧ w.cell? ⟨b, off + i * 2 + 1, none⟩ = some (.int .i64 (f i).2) ∧ I64 (f i).1 ∧ I64 (f i).2 := by
      refine choose_lt (α := Int × Int) (p := fun i r => w.cell? ⟨b, off + i * 2, none⟩ = some (.int .i64 r.1) ∧ w.cell? ⟨b, off + i * 2 + 1, none⟩ = some (.int .i64 r.2) ∧ I64 r.1 ∧ I64 r.2) fun i hi => ?_
      obtain ⟨cs', m, y, _, hat, ht⟩ := hrow i hi
      obtain ⟨lo, hi', rfl, w0, w1⟩ := range_open ht
      exact ⟨(lo, hi'), by simpa using hat 0 (by omega), by simpa using hat 1 (by omega), w0, w1⟩
    refine ⟨_, n, c, (List.range n).map f, rfl, ⟨by simp, hn, fun _ => ⟨b, off, rfl, hb, fun i r hi => ?_⟩⟩, hnc⟩
    rw [List.getElem?_map, Option.map_eq_some_iff] at hi
    obtain ⟨i', hi', rfl⟩ := hi
    obtain ⟨hlt, rfl⟩ := List.getElem?_eq_some_iff.1 hi'
    simp at hlt ⊢
    exact hf i hlt
  · obtain rfl : n = 0 := by omega
    exact ⟨A, 0, c, [], rfl, ⟨rfl, by omega, fun h => absurd h h0⟩, hnc⟩

theorem strs_open {fuel : Nat} {cs : List Value} {x : DataW H × List MemPlace} (h : DataW.trod enc Try.prog w base spare held fuel 24 cs = some x) : ∃ A n c rs, cs = [.slice A n c] ∧ StrsR w A n rs ∧ n ≤ c := by
  obtain ⟨A, n, c, rfl, hnc, hn, hr⟩ := open_rows Try.underlying24 cl9 (by omega) h
  by_cases h0 : 0 < n
  · obtain ⟨b, off, rfl, hb, hrow⟩ := hr h0
    obtain ⟨f, hf⟩ : ∃ f : Nat → ByteArray, ∀ i, i < n → w.cell? ⟨b, off + i, none⟩ = some (.string (f i)) := by
      have : Inhabited ByteArray := ⟨ByteArray.empty⟩
      refine choose_lt (α := ByteArray) (p := fun i r => w.cell? ⟨b, off + i, none⟩ = some (.string r)) fun i hi => ?_
      obtain ⟨cs', m, y, hl, hat, ht⟩ := hrow i hi
      obtain ⟨s, rfl, _, _⟩ := DataW.trod_string Try.underlying9 ht
      exact ⟨s, by simpa using hat 0 (by omega)⟩
    refine ⟨_, n, c, (List.range n).map f, rfl, ⟨by simp, hn, fun _ => ⟨b, off, rfl, hb, fun i r hi => ?_⟩⟩, hnc⟩
    rw [List.getElem?_map, Option.map_eq_some_iff] at hi
    obtain ⟨i', hi', rfl⟩ := hi
    obtain ⟨hlt, rfl⟩ := List.getElem?_eq_some_iff.1 hi'
    simp at hlt ⊢
    exact hf i hlt
  · obtain rfl : n = 0 := by omega
    exact ⟨A, 0, c, [], rfl, ⟨rfl, by omega, fun h => absurd h h0⟩, hnc⟩

theorem set_open {fuel : Nat} {cs : List Value} {x : DataW H × List MemPlace} (h : DataW.trod enc Try.prog w base spare held fuel 26 cs = some x) : ∃ (s : SetM) (v : SetV), cs = [.bool s.a, .slice v.A v.n v.c, .bool s.co, .slice v.B v.m v.d] ∧ SetR w v s := by
  obtain ⟨xs, n, _, rfl, hl, hlen, hf⟩ := DataW.trod_struct Try.underlying26 h
  obtain ⟨c0, c1, c2, c3, rfl⟩ := list4 (hl.trans cl26)
  obtain ⟨y0, y1, y2, y3, rfl⟩ := list4 hlen
  have h0 := hf 0 _ rfl
  have h1 := hf 1 _ rfl
  have h2 := hf 2 _ rfl
  have h3 := hf 3 _ rfl
  simp [cl4, cl23, cl24] at h0 h1 h2 h3
  obtain ⟨a, e0, _⟩ := DataW.trod_bool Try.underlying4 h0
  obtain ⟨A, n1, d1, rs, e1, hr, l1⟩ := ranges_open h1
  obtain ⟨co, e2, _⟩ := DataW.trod_bool Try.underlying4 h2
  obtain ⟨B, n2, d2, ss, e3, hs, l3⟩ := strs_open h3
  simp at e0 e1 e2 e3
  subst e0 e1 e2 e3
  exact ⟨⟨a, rs, co, ss⟩, ⟨A, n1, d1, B, n2, d2⟩, rfl, hr, hs, l1, l3⟩

theorem value_open {fuel : Nat} {cs : List Value} {x : DataW H × List MemPlace} (h : DataW.trod enc Try.prog w base spare held fuel 30 cs = some x) : ∃ v : ValM, cs = [.int .i64 v.k, .int .i64 v.n, .string v.s] ∧ I64 v.n := by
  obtain ⟨y0, y1, y2, n, _, hl, h0, h1, h2⟩ := trod_struct3 Try.underlying30 h
  obtain ⟨a, b, c, rfl⟩ := list3 (hl.trans cl30)
  simp [cl3, cl9] at h0 h1 h2
  obtain ⟨k, e0, _, _⟩ := DataW.trod_int Try.underlying3 h0
  obtain ⟨m, e1, _, w1⟩ := DataW.trod_int Try.underlying3 h1
  obtain ⟨s, e2, _, _⟩ := DataW.trod_string Try.underlying9 h2
  simp at e0 e1 e2
  subst e0 e1 e2
  exact ⟨⟨k, m, s⟩, rfl, wf_i64 w1⟩

instance : Inhabited SetM := ⟨⟨false, [], false, []⟩⟩
instance : Inhabited SetV := ⟨⟨none, 0, 0, none, 0, 0⟩⟩
instance : Inhabited ValM := ⟨⟨0, 0, ByteArray.empty⟩⟩

theorem cut4 {α : Type} {l : List α} (n : Nat) (h : l.length = 4 * n) : l = (l.take n) ++ ((l.drop n).take n ++ ((l.drop (2 * n)).take n ++ (l.drop (3 * n)).take n)) := by
  have h3 : (l.drop (3 * n)).take n = l.drop (3 * n) := List.take_of_length_le (by simp; omega)
  rw [h3]
  have e2 : l.drop (3 * n) = (l.drop (2 * n)).drop n := by rw [List.drop_drop]; congr 1; omega
  rw [e2, List.take_append_drop]
  have e1 : l.drop (2 * n) = (l.drop n).drop n := by rw [List.drop_drop]; congr 1; omega
  rw [e1, List.take_append_drop, List.take_append_drop]

theorem box_open {fuel : Nat} {cs : List Value} {x : DataW H × List MemPlace} (h : DataW.trod enc Try.prog w base spare held fuel 28 cs = some x) : ∃ (s : Nat → SetM) (v : Nat → SetV), cs = [.bool (s 0).a, .slice (v 0).A (v 0).n (v 0).c, .bool (s 0).co, .slice (v 0).B (v 0).m (v 0).d, .bool (s 1).a, .slice (v 1).A (v 1).n (v 1).c, .bool (s 1).co, .slice (v 1).B (v 1).m (v 1).d, .bool (s 2).a, .slice (v 2).A (v 2).n (v 2).c, .bool (s 2).co, .slice (v 2).B (v 2).m (v 2).d, .bool (s 3).a, .slice (v 3).A (v 3).n (v 3).c, .bool (s 3).co, .slice (v 3).B (v 3).m (v 3).d] ∧ ∀ j, j < 4 → SetR w (v j) (s j) := by
  obtain ⟨xs, m, _, _, hl, hxl, hel⟩ := DataW.trod_array Try.underlying28 h
  rw [cl28] at hl
  rw [cl26] at hel
  obtain ⟨y0, y1, y2, y3, rfl⟩ := list4 hxl
  obtain ⟨s0, v0, e0, r0⟩ := set_open (hel 0 (by omega))
  obtain ⟨s1, v1, e1, r1⟩ := set_open (hel 1 (by omega))
  obtain ⟨s2, v2, e2, r2⟩ := set_open (hel 2 (by omega))
  obtain ⟨s3, v3, e3, r3⟩ := set_open (hel 3 (by omega))
  have hc := cut4 4 (by omega : cs.length = 4 * 4)
  simp only [Nat.zero_mul, List.drop_zero, Nat.one_mul] at e0 e1
  rw [e0, e1, e2, e3] at hc
  refine ⟨fun j => match j with | 0 => s0 | 1 => s1 | 2 => s2 | _ => s3, fun j => match j with | 0 => v0 | 1 => v1 | 2 => v2 | _ => v3, hc, fun j hj => ?_⟩
  have hjj : j = 0 ∨ j = 1 ∨ j = 2 ∨ j = 3 := by omega
  rcases hjj with rfl | rfl | rfl | rfl <;> assumption

theorem event_open {fuel : Nat} {cs : List Value} {x : DataW H × List MemPlace} (h : DataW.trod enc Try.prog w base spare held fuel 32 cs = some x) : ∃ e : Nat → ValM, cs = [.int .i64 (e 0).k, .int .i64 (e 0).n, .string (e 0).s, .int .i64 (e 1).k, .int .i64 (e 1).n, .string (e 1).s, .int .i64 (e 2).k, .int .i64 (e 2).n, .string (e 2).s, .int .i64 (e 3).k, .int .i64 (e 3).n, .string (e 3).s] ∧ ∀ j, j < 4 → I64 (e j).n := by
  obtain ⟨xs, m, _, _, hl, hxl, hel⟩ := DataW.trod_array Try.underlying32 h
  rw [cl32] at hl
  rw [cl30] at hel
  obtain ⟨y0, y1, y2, y3, rfl⟩ := list4 hxl
  obtain ⟨v0, e0, r0⟩ := value_open (hel 0 (by omega))
  obtain ⟨v1, e1, r1⟩ := value_open (hel 1 (by omega))
  obtain ⟨v2, e2, r2⟩ := value_open (hel 2 (by omega))
  obtain ⟨v3, e3, r3⟩ := value_open (hel 3 (by omega))
  have hc := cut4 3 (by omega : cs.length = 4 * 3)
  simp only [Nat.zero_mul, List.drop_zero, Nat.one_mul] at e0 e1
  rw [e0, e1, e2, e3] at hc
  refine ⟨fun j => match j with | 0 => v0 | 1 => v1 | 2 => v2 | _ => v3, hc, fun j hj => ?_⟩
  have hjj : j = 0 ∨ j = 1 ∨ j = 2 ∨ j = 3 := by omega
  rcases hjj with rfl | rfl | rfl | rfl <;> assumption

theorem filter_open {fuel : Nat} {cs : List Value} {x : DataW H × List MemPlace} (h : DataW.trod enc Try.prog w base spare held fuel 22 cs = some x) : ∃ A n c fs, cs = [.slice A n c] ∧ FilterR w A n fs := by
  obtain ⟨A, n, c, rfl, _, hn, hr⟩ := open_rows Try.underlying22 cl28 (by omega) h
  by_cases h0 : 0 < n
  · obtain ⟨b, off, rfl, hb, hrow⟩ := hr h0
    obtain ⟨f, hf⟩ : ∃ f : Nat → (Nat → SetM), ∀ i, i < n → ∃ v, BoxC w b (off + i * 16) (f i) v ∧ ∀ j, j < 4 → SetR w (v j) (f i j) := by
      refine choose_lt (α := Nat → SetM) (p := fun i s => ∃ v, BoxC w b (off + i * 16) s v ∧ ∀ j, j < 4 → SetR w (v j) (s j)) fun i hi => ?_
      obtain ⟨cs', m, y, _, hat, ht⟩ := hrow i hi
      obtain ⟨s, v, rfl, hs⟩ := box_open ht
      refine ⟨s, v, ?_, hs⟩
      unfold BoxC
      exact ⟨by simpa using hat 0 (by omega), by simpa using hat 1 (by omega), by simpa using hat 2 (by omega), by simpa using hat 3 (by omega), by simpa using hat 4 (by omega), by simpa using hat 5 (by omega), by simpa using hat 6 (by omega), by simpa using hat 7 (by omega), by simpa using hat 8 (by omega), by simpa using hat 9 (by omega), by simpa using hat 10 (by omega), by simpa using hat 11 (by omega), by simpa using hat 12 (by omega), by simpa using hat 13 (by omega), by simpa using hat 14 (by omega), by simpa using hat 15 (by omega)⟩
    refine ⟨_, n, c, (List.range n).map f, rfl, by simp, hn, fun _ => ⟨b, off, rfl, hb, fun i r hi => ?_⟩⟩
    rw [List.getElem?_map, Option.map_eq_some_iff] at hi
    obtain ⟨i', hi', rfl⟩ := hi
    obtain ⟨hlt, rfl⟩ := List.getElem?_eq_some_iff.1 hi'
    simp at hlt ⊢
    exact hf i hlt
  · obtain rfl : n = 0 := by omega
    exact ⟨A, 0, c, [], rfl, rfl, by omega, fun h => absurd h h0⟩

/-! The same, of arguments. -/
variable {r : Reach} {b1 : Nat} {d : DataW H} {p : List MemPlace}
theorem filter_arg {v : Value} (hv : Value.okWide Try.prog w r b1 22 v) (h : DataW.Trod enc Try.prog w base spare held 22 v d p) : ∃ A n c fs, v = .slice A n c ∧ FilterR w A n fs := by
  obtain ⟨a, len, cap, rfl⟩ := okWide_slice Try.underlying22 hv
  obtain ⟨fuel, hf⟩ := h
  obtain ⟨A, n, c, fs, he, hr⟩ := filter_open hf
  simp [Value.cells] at he
  obtain ⟨rfl, rfl, rfl⟩ := he
  exact ⟨_, _, _, fs, rfl, hr⟩
theorem okWide_array {P : Program} {t e : TypeId} {n : Nat} {v : Value} (ht : P.underlying t = some (.array n e)) (h : Value.okWide P w r b1 t v) : ∃ cs, v = .agg cs := by
  unfold Value.okWide at h
  rw [ht] at h
  obtain ⟨cs, h1, _⟩ := h
  exact ⟨cs, h1⟩
theorem box_arg {u : Value} (hv : Value.okWide Try.prog w r b1 28 u) (h : DataW.Trod enc Try.prog w base spare held 28 u d p) : ∃ (s : Nat → SetM) (v : Nat → SetV), u = .agg #[.bool (s 0).a, .slice (v 0).A (v 0).n (v 0).c, .bool (s 0).co, .slice (v 0).B (v 0).m (v 0).d, .bool (s 1).a, .slice (v 1).A (v 1).n (v 1).c, .bool (s 1).co, .slice (v 1).B (v 1).m (v 1).d, .bool (s 2).a, .slice (v 2).A (v 2).n (v 2).c, .bool (s 2).co, .slice (v 2).B (v 2).m (v 2).d, .bool (s 3).a, .slice (v 3).A (v 3).n (v 3).c, .bool (s 3).co, .slice (v 3).B (v 3).m (v 3).d] ∧ ∀ j, j < 4 → SetR w (v j) (s j) := by
  obtain ⟨cs, rfl⟩ := okWide_array Try.underlying28 hv
  obtain ⟨fuel, hf⟩ := h
  obtain ⟨s, v, he, hs⟩ := box_open hf
  obtain ⟨l⟩ := cs
  simp only [Value.cells] at he
  subst he
  exact ⟨s, v, rfl, hs⟩
theorem event_arg {u : Value} (hv : Value.okWide Try.prog w r b1 32 u) (h : DataW.Trod enc Try.prog w base spare held 32 u d p) : ∃ e : Nat → ValM, u = .agg #[.int .i64 (e 0).k, .int .i64 (e 0).n, .string (e 0).s, .int .i64 (e 1).k, .int .i64 (e 1).n, .string (e 1).s, .int .i64 (e 2).k, .int .i64 (e 2).n, .string (e 2).s, .int .i64 (e 3).k, .int .i64 (e 3).n, .string (e 3).s] ∧ ∀ j, j < 4 → I64 (e j).n := by
  obtain ⟨cs, rfl⟩ := okWide_array Try.underlying32 hv
  obtain ⟨fuel, hf⟩ := h
  obtain ⟨e, he, hs⟩ := event_open hf
  obtain ⟨l⟩ := cs
  simp only [Value.cells] at he
  subst he
  exact ⟨e, rfl, hs⟩
end
end Go.Proofs.Ytfhokhhpfdmfiaa
