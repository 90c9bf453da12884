/- arbourref03.In of two sets that are read: it ends, and tells of the points. -/
import Derived.Test.YtfhokhhpfdmfiaaPS
namespace Go.Proofs.Ytfhokhhpfdmfiaa
open Go.RowKit Go.Proofs.YtfhokhhpfdmfiaaW.PrintWords Go.Proofs.YtfhokhhpfdmfiaaW.PrintLast Go.Proofs.YtfhokhhpfdmfiaaW.PrintMore PGapZero
set_option linter.unusedVariables false

theorem cell_heap {w w1 : World} {p : Addr} (h : w1.heap[p.block]? = w.heap[p.block]?) : w1.cell? p = w.cell? p := by
  unfold World.cell?
  rw [h]
theorem RangesR.heap {w w1 : World} {A : Option Addr} {n : Nat} {rs : List (Int × Int)} (h : RangesR w A n rs) (hb : ∀ k, k < w.heap.size → w1.heap[k]? = w.heap[k]?) : RangesR w1 A n rs := by
  refine ⟨h.1, h.2.1, fun hn => ?_⟩
  obtain ⟨b, off, e, hl, hc⟩ := h.2.2 hn
  refine ⟨b, off, e, heap_lt (hb b hl) hl, fun i r hi => ?_⟩
  obtain ⟨h1, h2, h3⟩ := hc i r hi
  exact ⟨(cell_heap (p := ⟨b, _, none⟩) (hb b hl)).trans h1, (cell_heap (p := ⟨b, _, none⟩) (hb b hl)).trans h2, h3⟩
theorem StrsR.heap {w w1 : World} {A : Option Addr} {n : Nat} {ss : List ByteArray} (h : StrsR w A n ss) (hb : ∀ k, k < w.heap.size → w1.heap[k]? = w.heap[k]?) : StrsR w1 A n ss := by
  refine ⟨h.1, h.2.1, fun hn => ?_⟩
  obtain ⟨b, off, e, hl, hc⟩ := h.2.2 hn
  exact ⟨b, off, e, heap_lt (hb b hl) hl, fun i s hi => (cell_heap (p := ⟨b, _, none⟩) (hb b hl)).trans (hc i s hi)⟩
theorem add_plain (b off j : Nat) : (⟨b, off, none⟩ : Addr).add j = ⟨b, off + j, none⟩ := by unfold Addr.add; split <;> simp_all
theorem ranges_C {w : World} {A : Option Addr} {n : Nat} {rs : List (Int × Int)} (h : RangesR w A n rs) : Kd.C k48 w A n (rs.map mk48) := by
  refine ⟨by rw [List.length_map]; exact h.1, h.2.1, fun hn => ?_⟩
  obtain ⟨b, off, e, hl, hc⟩ := h.2.2 hn
  refine ⟨_, e, fun j p hj => ?_⟩
  rw [List.getElem?_map, Option.map_eq_some_iff] at hj
  obtain ⟨r, hr, rfl⟩ := hj
  obtain ⟨c0, c1, -, -⟩ := hc j r hr
  refine ⟨[.int .i64 r.1, .int .i64 r.2], rfl, k48_mk w (mk48 r), fun i u hu => ?_⟩
  show w.cell? ((⟨b, off, none⟩ : Addr).add (j * 2 + i)) = some u
  rw [add_plain]
  match i, hu with
  | 0, hu => exact c0.trans hu
  | 1, hu => rw [← Nat.add_assoc]; exact c1.trans hu
theorem strs_C {w : World} {A : Option Addr} {n : Nat} {ss : List ByteArray} (h : StrsR w A n ss) : Kd.C Kd.string w A n ss := by
  refine ⟨h.1, h.2.1, fun hn => ?_⟩
  obtain ⟨b, off, e, hl, hc⟩ := h.2.2 hn
  refine ⟨_, e, fun j p hj => ⟨[.string p], rfl, rfl, fun i u hu => ?_⟩⟩
  show w.cell? ((⟨b, off, none⟩ : Addr).add (j * 1 + i)) = some u
  rw [add_plain, Nat.mul_one]
  match i, hu with
  | 0, hu => exact (hc j p hj).trans hu
theorem ranges_V {w : World} {A : Option Addr} {n c : Nat} {rs : List (Int × Int)} (h : RangesR w A n rs) (hc : n ≤ c) (P : Nat → Prop) : Kd.V k48 48 w w.heap.size (fun _ => True) (.slice A (rs.map mk48).length c) (rs.map mk48) := by
  have e : (rs.map mk48).length = n := by rw [List.length_map]; exact h.1
  exact Kd.V_mk (by rw [e]; exact hc) (fun W' hW => by rw [e]; exact ranges_C (h.heap fun k hk => hW k trivial hk))
theorem strs_V {w : World} {A : Option Addr} {n c : Nat} {ss : List ByteArray} (h : StrsR w A n ss) (hc : n ≤ c) (P : Nat → Prop) : Kd.V Kd.string 9 w w.heap.size (fun _ => True) (.slice A ss.length c) ss := by
  have e : ss.length = n := h.1
  exact Kd.V_mk (by rw [e]; exact hc) (fun W' hW => by rw [e]; exact strs_C (h.heap fun k hk => hW k trivial hk))
/-- What In of two sets answers. -/
def inB (a b : SetM) : Bool := (arbourref03_In.f 2000 a.a (a.ints.map mk48) a.co a.strs b.a (b.ints.map mk48) b.co b.strs).getD false
theorem inB_says {a b : SetM} (sa : ShortM a) (sb : ShortM b) (h : inB a b = true) : InP a b := by
  obtain ⟨r, hr, hP⟩ := in_f a b sa sb
  unfold inB at h
  rw [hr] at h
  exact hP h
theorem in03_any (a b : SetM) (v u : SetV) (w : World) (ha : SetR w v a) (hb : SetR w u b) (sa : ShortM a) (sb : ShortM b) :
    Calls Try.prog 29 #[.agg #[.bool a.a, .slice v.A v.n v.c, .bool a.co, .slice v.B v.m v.d], .agg #[.bool b.a, .slice u.A u.n u.c, .bool b.co, .slice u.B u.m u.d]] w fun e w' => e = .returned (.bool (inB a b)) ∧ Below w.heap.size w w' := by
  obtain ⟨r, hr, -⟩ := in_f a b sa sb
  have e : inB a b = r := by unfold inB; rw [hr]; rfl
  rw [e]
  have h := arbourref03_In.calls 2000 a.a (fun _ => True) v.A v.c (a.ints.map mk48) a.co (fun _ => True) v.B v.d a.strs b.a (fun _ => True) u.A u.c (b.ints.map mk48) b.co (fun _ => True) u.B u.d b.strs r w
    (ranges_V ha.i ha.ci (fun _ => True)) (strs_V ha.t ha.ct (fun _ => True)) (ranges_V hb.i hb.ci (fun _ => True)) (strs_V hb.t hb.ct (fun _ => True)) hr
  rw [List.length_map, List.length_map, ha.i.1, ha.t.1, hb.i.1, hb.t.1] at h
  exact h
end Go.Proofs.Ytfhokhhpfdmfiaa
