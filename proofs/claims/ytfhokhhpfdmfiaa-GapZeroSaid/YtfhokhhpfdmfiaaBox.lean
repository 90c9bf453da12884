/- gap.Box: what it answers. -/
import Derived.Test.YtfhokhhpfdmfiaaGap
import Derived.Deep.RegionHeld3
namespace Go.Proofs.Ytfhokhhpfdmfiaa
open Go.RowKit

/-- Where a set's slices lie. -/
structure SetV where
  A : Option Addr
  n : Nat
  c : Nat
  B : Option Addr
  m : Nat
  d : Nat
/-- A set whose slices lie so is read as it is. -/
structure SetR (w : World) (v : SetV) (s : SetM) : Prop where
  i : RangesR w v.A v.n s.ints
  t : StrsR w v.B v.m s.strs
  ci : v.n ≤ v.c
  ct : v.m ≤ v.d
theorem SetR.below {w w1 : World} {v : SetV} {s : SetM} (h : SetR w v s) (hb : Below w.heap.size w w1) : SetR w1 v s := ⟨h.i.below hb, h.t.below hb, h.ci, h.ct⟩

theorem index28_0 (x0 x1 x2 x3 x4 x5 x6 x7 x8 x9 x10 x11 x12 x13 x14 x15 : Value) (w : World) : (Instr.index 28 (.agg #[x0, x1, x2, x3, x4, x5, x6, x7, x8, x9, x10, x11, x12, x13, x14, x15]) (.int .i64 0)).run Try.prog w = .ok (.agg #[x0, x1, x2, x3]) w := by kernel_rfl
theorem index28_1 (x0 x1 x2 x3 x4 x5 x6 x7 x8 x9 x10 x11 x12 x13 x14 x15 : Value) (w : World) : (Instr.index 28 (.agg #[x0, x1, x2, x3, x4, x5, x6, x7, x8, x9, x10, x11, x12, x13, x14, x15]) (.int .i64 1)).run Try.prog w = .ok (.agg #[x4, x5, x6, x7]) w := by kernel_rfl
theorem index28_2 (x0 x1 x2 x3 x4 x5 x6 x7 x8 x9 x10 x11 x12 x13 x14 x15 : Value) (w : World) : (Instr.index 28 (.agg #[x0, x1, x2, x3, x4, x5, x6, x7, x8, x9, x10, x11, x12, x13, x14, x15]) (.int .i64 2)).run Try.prog w = .ok (.agg #[x8, x9, x10, x11]) w := by kernel_rfl
theorem index28_3 (x0 x1 x2 x3 x4 x5 x6 x7 x8 x9 x10 x11 x12 x13 x14 x15 : Value) (w : World) : (Instr.index 28 (.agg #[x0, x1, x2, x3, x4, x5, x6, x7, x8, x9, x10, x11, x12, x13, x14, x15]) (.int .i64 3)).run Try.prog w = .ok (.agg #[x12, x13, x14, x15]) w := by kernel_rfl
/-- Distances, one put to another. -/
def sumM (f : Nat → Nat) : Nat → Nat
  | 0 => 0
  | j + 1 => addM (sumM f j) (f j)
theorem addM_le (a b : Nat) : addM a b ≤ far := by unfold addM; split <;> omega
theorem sumM_le (f : Nat → Nat) (j : Nat) : sumM f j ≤ far := by
  cases j with
  | zero => simp [sumM]
  | succ j => exact addM_le _ _
def boxGap (s : Nat → SetM) (e : Nat → ValM) : Nat := sumM (fun j => valueM (s j) (e j)) 4

theorem ecells {w : World} {b : Nat} {e : Nat → ValM} (h : w.heap[b]? = some (.cells #[.int .i64 (e 0).k, .int .i64 (e 0).n, .string (e 0).s, .int .i64 (e 1).k, .int .i64 (e 1).n, .string (e 1).s, .int .i64 (e 2).k, .int .i64 (e 2).n, .string (e 2).s, .int .i64 (e 3).k, .int .i64 (e 3).n, .string (e 3).s] 32 (0, 0))) :
    w.cell? ⟨b, 0, none⟩ = some (.int .i64 (e 0).k) ∧ w.cell? ⟨b, 1, none⟩ = some (.int .i64 (e 0).n) ∧ w.cell? ⟨b, 2, none⟩ = some (.string (e 0).s) ∧ w.cell? ⟨b, 3, none⟩ = some (.int .i64 (e 1).k) ∧ w.cell? ⟨b, 4, none⟩ = some (.int .i64 (e 1).n) ∧ w.cell? ⟨b, 5, none⟩ = some (.string (e 1).s) ∧ w.cell? ⟨b, 6, none⟩ = some (.int .i64 (e 2).k) ∧ w.cell? ⟨b, 7, none⟩ = some (.int .i64 (e 2).n) ∧ w.cell? ⟨b, 8, none⟩ = some (.string (e 2).s) ∧ w.cell? ⟨b, 9, none⟩ = some (.int .i64 (e 3).k) ∧ w.cell? ⟨b, 10, none⟩ = some (.int .i64 (e 3).n) ∧ w.cell? ⟨b, 11, none⟩ = some (.string (e 3).s) :=
  ⟨(bk_cell h 0).trans rfl, (bk_cell h 1).trans rfl, (bk_cell h 2).trans rfl, (bk_cell h 3).trans rfl, (bk_cell h 4).trans rfl, (bk_cell h 5).trans rfl, (bk_cell h 6).trans rfl, (bk_cell h 7).trans rfl, (bk_cell h 8).trans rfl, (bk_cell h 9).trans rfl, (bk_cell h 10).trans rfl, (bk_cell h 11).trans rfl⟩

theorem bk_drew {w : World} {g : Nat} {o : Obj} (h : w.heap[g]? = some o) : w.drew.heap[g]? = some o := h
theorem sfact0 {w : World} {G E : Nat} {s : Nat → SetM} {v : Nat → SetV} {e : Nat → ValM} (h1 : w.heap[G]? = some (.cells #[.bool (s 0).a, .slice (v 0).A (v 0).n (v 0).c, .bool (s 0).co, .slice (v 0).B (v 0).m (v 0).d] 26 (0, 0))) (h2 : w.heap[E]? = some (.cells #[.int .i64 (e 0).k, .int .i64 (e 0).n, .string (e 0).s, .int .i64 (e 1).k, .int .i64 (e 1).n, .string (e 1).s, .int .i64 (e 2).k, .int .i64 (e 2).n, .string (e 2).s, .int .i64 (e 3).k, .int .i64 (e 3).n, .string (e 3).s] 32 (0, 0))) : w.cell? ⟨G, 0, none⟩ = some (.bool (s 0).a) ∧ w.cell? ⟨G, 1, none⟩ = some (.slice (v 0).A (v 0).n (v 0).c) ∧ w.cell? ⟨G, 2, none⟩ = some (.bool (s 0).co) ∧ w.cell? ⟨G, 3, none⟩ = some (.slice (v 0).B (v 0).m (v 0).d) ∧ w.cell? ⟨E, 0, none⟩ = some (.int .i64 (e 0).k) ∧ w.cell? ⟨E, 1, none⟩ = some (.int .i64 (e 0).n) ∧ w.cell? ⟨E, 2, none⟩ = some (.string (e 0).s) := by
  obtain ⟨a0, a1, a2, a3⟩ := scells h1
  obtain ⟨n0, n1, n2, n3, n4, n5, n6, n7, n8, n9, n10, n11⟩ := ecells h2
  exact ⟨a0, a1, a2, a3, n0, n1, n2⟩
theorem sfact1 {w : World} {G E : Nat} {s : Nat → SetM} {v : Nat → SetV} {e : Nat → ValM} (h1 : w.heap[G]? = some (.cells #[.bool (s 1).a, .slice (v 1).A (v 1).n (v 1).c, .bool (s 1).co, .slice (v 1).B (v 1).m (v 1).d] 26 (0, 0))) (h2 : w.heap[E]? = some (.cells #[.int .i64 (e 0).k, .int .i64 (e 0).n, .string (e 0).s, .int .i64 (e 1).k, .int .i64 (e 1).n, .string (e 1).s, .int .i64 (e 2).k, .int .i64 (e 2).n, .string (e 2).s, .int .i64 (e 3).k, .int .i64 (e 3).n, .string (e 3).s] 32 (0, 0))) : w.cell? ⟨G, 0, none⟩ = some (.bool (s 1).a) ∧ w.cell? ⟨G, 1, none⟩ = some (.slice (v 1).A (v 1).n (v 1).c) ∧ w.cell? ⟨G, 2, none⟩ = some (.bool (s 1).co) ∧ w.cell? ⟨G, 3, none⟩ = some (.slice (v 1).B (v 1).m (v 1).d) ∧ w.cell? ⟨E, 3, none⟩ = some (.int .i64 (e 1).k) ∧ w.cell? ⟨E, 4, none⟩ = some (.int .i64 (e 1).n) ∧ w.cell? ⟨E, 5, none⟩ = some (.string (e 1).s) := by
  obtain ⟨a0, a1, a2, a3⟩ := scells h1
  obtain ⟨n0, n1, n2, n3, n4, n5, n6, n7, n8, n9, n10, n11⟩ := ecells h2
  exact ⟨a0, a1, a2, a3, n3, n4, n5⟩
theorem sfact2 {w : World} {G E : Nat} {s : Nat → SetM} {v : Nat → SetV} {e : Nat → ValM} (h1 : w.heap[G]? = some (.cells #[.bool (s 2).a, .slice (v 2).A (v 2).n (v 2).c, .bool (s 2).co, .slice (v 2).B (v 2).m (v 2).d] 26 (0, 0))) (h2 : w.heap[E]? = some (.cells #[.int .i64 (e 0).k, .int .i64 (e 0).n, .string (e 0).s, .int .i64 (e 1).k, .int .i64 (e 1).n, .string (e 1).s, .int .i64 (e 2).k, .int .i64 (e 2).n, .string (e 2).s, .int .i64 (e 3).k, .int .i64 (e 3).n, .string (e 3).s] 32 (0, 0))) : w.cell? ⟨G, 0, none⟩ = some (.bool (s 2).a) ∧ w.cell? ⟨G, 1, none⟩ = some (.slice (v 2).A (v 2).n (v 2).c) ∧ w.cell? ⟨G, 2, none⟩ = some (.bool (s 2).co) ∧ w.cell? ⟨G, 3, none⟩ = some (.slice (v 2).B (v 2).m (v 2).d) ∧ w.cell? ⟨E, 6, none⟩ = some (.int .i64 (e 2).k) ∧ w.cell? ⟨E, 7, none⟩ = some (.int .i64 (e 2).n) ∧ w.cell? ⟨E, 8, none⟩ = some (.string (e 2).s) := by
  obtain ⟨a0, a1, a2, a3⟩ := scells h1
  obtain ⟨n0, n1, n2, n3, n4, n5, n6, n7, n8, n9, n10, n11⟩ := ecells h2
  exact ⟨a0, a1, a2, a3, n6, n7, n8⟩
theorem sfact3 {w : World} {G E : Nat} {s : Nat → SetM} {v : Nat → SetV} {e : Nat → ValM} (h1 : w.heap[G]? = some (.cells #[.bool (s 3).a, .slice (v 3).A (v 3).n (v 3).c, .bool (s 3).co, .slice (v 3).B (v 3).m (v 3).d] 26 (0, 0))) (h2 : w.heap[E]? = some (.cells #[.int .i64 (e 0).k, .int .i64 (e 0).n, .string (e 0).s, .int .i64 (e 1).k, .int .i64 (e 1).n, .string (e 1).s, .int .i64 (e 2).k, .int .i64 (e 2).n, .string (e 2).s, .int .i64 (e 3).k, .int .i64 (e 3).n, .string (e 3).s] 32 (0, 0))) : w.cell? ⟨G, 0, none⟩ = some (.bool (s 3).a) ∧ w.cell? ⟨G, 1, none⟩ = some (.slice (v 3).A (v 3).n (v 3).c) ∧ w.cell? ⟨G, 2, none⟩ = some (.bool (s 3).co) ∧ w.cell? ⟨G, 3, none⟩ = some (.slice (v 3).B (v 3).m (v 3).d) ∧ w.cell? ⟨E, 9, none⟩ = some (.int .i64 (e 3).k) ∧ w.cell? ⟨E, 10, none⟩ = some (.int .i64 (e 3).n) ∧ w.cell? ⟨E, 11, none⟩ = some (.string (e 3).s) := by
  obtain ⟨a0, a1, a2, a3⟩ := scells h1
  obtain ⟨n0, n1, n2, n3, n4, n5, n6, n7, n8, n9, n10, n11⟩ := ecells h2
  exact ⟨a0, a1, a2, a3, n9, n10, n11⟩
set_option maxHeartbeats 4000000 in
set_option maxRecDepth 100000 in
theorem box_any (s : Nat → SetM) (v : Nat → SetV) (e : Nat → ValM) (w : World) (hs : ∀ j, j < 4 → SetR w (v j) (s j)) (hi : ∀ j, j < 4 → I64 (e j).n) :
    Calls Try.prog 16 #[.agg #[.bool (s 0).a, .slice (v 0).A (v 0).n (v 0).c, .bool (s 0).co, .slice (v 0).B (v 0).m (v 0).d, .bool (s 1).a, .slice (v 1).A (v 1).n (v 1).c, .bool (s 1).co, .slice (v 1).B (v 1).m (v 1).d, .bool (s 2).a, .slice (v 2).A (v 2).n (v 2).c, .bool (s 2).co, .slice (v 2).B (v 2).m (v 2).d, .bool (s 3).a, .slice (v 3).A (v 3).n (v 3).c, .bool (s 3).co, .slice (v 3).B (v 3).m (v 3).d], .agg #[.int .i64 (e 0).k, .int .i64 (e 0).n, .string (e 0).s, .int .i64 (e 1).k, .int .i64 (e 1).n, .string (e 1).s, .int .i64 (e 2).k, .int .i64 (e 2).n, .string (e 2).s, .int .i64 (e 3).k, .int .i64 (e 3).n, .string (e 3).s]] w
      fun e' w' => e' = .returned (.int .u64 (boxGap s e : Int)) ∧ Below w.heap.size w w' := by
  have HS := hide hs
  have HI := hide hi
  clear hs hi
  have ix0 := index28_0
  have ix1 := index28_1
  have ix2 := index28_2
  have ix3 := index28_3
  go_enter Try.func16, Try.ntmps16
  go_wp2_with fail
  go_loopg [4, 8] 4 (fun q a i wr => ∃ j : Nat, a = .int .u64 (sumM (fun j => valueM (s j) (e j)) j : Int) ∧ i = .int .i64 j ∧ j ≤ 4 ∧ q + j = 4 ∧ Below w.heap.size w wr ∧ wr.heap[w.heap.size + 1]? = some (.cells #[.int .i64 (e 0).k, .int .i64 (e 0).n, .string (e 0).s, .int .i64 (e 1).k, .int .i64 (e 1).n, .string (e 1).s, .int .i64 (e 2).k, .int .i64 (e 2).n, .string (e 2).s, .int .i64 (e 3).k, .int .i64 (e 3).n, .string (e 3).s] 32 (0, 0)))
  case atStart => exact ⟨0, rfl, rfl, by omega, by omega, ((Below.refl _ _).alloc (Nat.le_refl _) _).alloc (by simp) _, bk_new1 _ _ _⟩
  case round =>
    obtain ⟨j, rfl, rfl, hj, hq, hB, hE⟩ := hrel
    have hz := bk_lt hE
    have HE := hide hE
    have hsl := sumM_le (fun j => valueM (s j) (e j)) j
    generalize hacc : sumM (fun j => valueM (s j) (e j)) j = acc at *
    have HACC := hide hacc
    unfold far at hsl
    clear hE hacc
    by_cases hlt : j < 4
    · obtain ⟨g0, g1, g2, g3, g4, g5, g6, g7, g8, g9, g10, g11⟩ := ecells HE.out
      have hjj : j = 0 ∨ j = 1 ∨ j = 2 ∨ j = 3 := by omega
      rcases hjj with rfl | rfl | rfl | rfl
      · have HSW : Hid (∀ o, SetR (wr.alloc o).drew (v 0) (s 0)) := fun o => ((HS.out 0 (by omega)).below (hB.alloc hB.size o).drew)
        have hvl := valueM_le (s 0) (e 0)
        have hz0 := hB.size
        unfold far at hvl
        have HS0 := hide (sfact0 (s := s) (v := v) (e := e) (bk_new wr _) (bk_alloc HE.out _))
        go_wp2_with fail
        go_region_held3 (fun w' => w'.cell? ⟨wr.heap.size, 0, none⟩ = some (.bool (s 0).a) ∧ w'.cell? ⟨wr.heap.size, 1, none⟩ = some (.slice (v 0).A (v 0).n (v 0).c) ∧ w'.cell? ⟨wr.heap.size, 2, none⟩ = some (.bool (s 0).co) ∧ w'.cell? ⟨wr.heap.size, 3, none⟩ = some (.slice (v 0).B (v 0).m (v 0).d) ∧ w'.cell? ⟨w.heap.size + 1, 0, none⟩ = some (.int .i64 (e 0).k) ∧ w'.cell? ⟨w.heap.size + 1, 1, none⟩ = some (.int .i64 (e 0).n) ∧ w'.cell? ⟨w.heap.size + 1, 2, none⟩ = some (.string (e 0).s)) (first | exact HS0.out | exact S1) (first | (go_at_call 19; refine (value_any (s 0) (e 0) (HI.out 0 (by omega)) _ _ _ _ _ _ _ (HSW.out _).i (HSW.out _).t).mono ?_; rintro e' w3 ⟨rfl, hb3⟩; have E3 := hide (bk_below (bk_drew (bk_alloc HE.out _)) hb3); have S1 := sfact0 (s := s) (v := v) (e := e) (bk_below (bk_drew (bk_new wr _)) hb3) E3.out) | (go_at_call 17; refine (add_any acc (valueM (s 0) (e 0)) hsl hvl _).mono ?_; rintro e' w' ⟨rfl, rfl⟩))
        go_wp2_with fail
        go_roundg (4 - (0 + 1))
        case measure => omega
        case rel =>
          refine ⟨0 + 1, ?_, by go_num, by omega, by omega, below_step (hB.alloc hz0 _).drew (by simp; omega) hb3, E3.out⟩
          show _ = Value.int .u64 ((addM (sumM (fun j => valueM (s j) (e j)) 0) (valueM (s 0) (e 0)) : Nat) : Int)
          rw [HACC.out]
      · have HSW : Hid (∀ o, SetR (wr.alloc o).drew (v 1) (s 1)) := fun o => ((HS.out 1 (by omega)).below (hB.alloc hB.size o).drew)
        have hvl := valueM_le (s 1) (e 1)
        have hz0 := hB.size
        unfold far at hvl
        have HS0 := hide (sfact1 (s := s) (v := v) (e := e) (bk_new wr _) (bk_alloc HE.out _))
        go_wp2_with fail
        go_region_held3 (fun w' => w'.cell? ⟨wr.heap.size, 0, none⟩ = some (.bool (s 1).a) ∧ w'.cell? ⟨wr.heap.size, 1, none⟩ = some (.slice (v 1).A (v 1).n (v 1).c) ∧ w'.cell? ⟨wr.heap.size, 2, none⟩ = some (.bool (s 1).co) ∧ w'.cell? ⟨wr.heap.size, 3, none⟩ = some (.slice (v 1).B (v 1).m (v 1).d) ∧ w'.cell? ⟨w.heap.size + 1, 3, none⟩ = some (.int .i64 (e 1).k) ∧ w'.cell? ⟨w.heap.size + 1, 4, none⟩ = some (.int .i64 (e 1).n) ∧ w'.cell? ⟨w.heap.size + 1, 5, none⟩ = some (.string (e 1).s)) (first | exact HS0.out | exact S1) (first | (go_at_call 19; refine (value_any (s 1) (e 1) (HI.out 1 (by omega)) _ _ _ _ _ _ _ (HSW.out _).i (HSW.out _).t).mono ?_; rintro e' w3 ⟨rfl, hb3⟩; have E3 := hide (bk_below (bk_drew (bk_alloc HE.out _)) hb3); have S1 := sfact1 (s := s) (v := v) (e := e) (bk_below (bk_drew (bk_new wr _)) hb3) E3.out) | (go_at_call 17; refine (add_any acc (valueM (s 1) (e 1)) hsl hvl _).mono ?_; rintro e' w' ⟨rfl, rfl⟩))
        go_wp2_with fail
        go_roundg (4 - (1 + 1))
        case measure => omega
        case rel =>
          refine ⟨1 + 1, ?_, by go_num, by omega, by omega, below_step (hB.alloc hz0 _).drew (by simp; omega) hb3, E3.out⟩
          show _ = Value.int .u64 ((addM (sumM (fun j => valueM (s j) (e j)) 1) (valueM (s 1) (e 1)) : Nat) : Int)
          rw [HACC.out]
      · have HSW : Hid (∀ o, SetR (wr.alloc o).drew (v 2) (s 2)) := fun o => ((HS.out 2 (by omega)).below (hB.alloc hB.size o).drew)
        have hvl := valueM_le (s 2) (e 2)
        have hz0 := hB.size
        unfold far at hvl
        have HS0 := hide (sfact2 (s := s) (v := v) (e := e) (bk_new wr _) (bk_alloc HE.out _))
        go_wp2_with fail
        go_region_held3 (fun w' => w'.cell? ⟨wr.heap.size, 0, none⟩ = some (.bool (s 2).a) ∧ w'.cell? ⟨wr.heap.size, 1, none⟩ = some (.slice (v 2).A (v 2).n (v 2).c) ∧ w'.cell? ⟨wr.heap.size, 2, none⟩ = some (.bool (s 2).co) ∧ w'.cell? ⟨wr.heap.size, 3, none⟩ = some (.slice (v 2).B (v 2).m (v 2).d) ∧ w'.cell? ⟨w.heap.size + 1, 6, none⟩ = some (.int .i64 (e 2).k) ∧ w'.cell? ⟨w.heap.size + 1, 7, none⟩ = some (.int .i64 (e 2).n) ∧ w'.cell? ⟨w.heap.size + 1, 8, none⟩ = some (.string (e 2).s)) (first | exact HS0.out | exact S1) (first | (go_at_call 19; refine (value_any (s 2) (e 2) (HI.out 2 (by omega)) _ _ _ _ _ _ _ (HSW.out _).i (HSW.out _).t).mono ?_; rintro e' w3 ⟨rfl, hb3⟩; have E3 := hide (bk_below (bk_drew (bk_alloc HE.out _)) hb3); have S1 := sfact2 (s := s) (v := v) (e := e) (bk_below (bk_drew (bk_new wr _)) hb3) E3.out) | (go_at_call 17; refine (add_any acc (valueM (s 2) (e 2)) hsl hvl _).mono ?_; rintro e' w' ⟨rfl, rfl⟩))
        go_wp2_with fail
        go_roundg (4 - (2 + 1))
        case measure => omega
        case rel =>
          refine ⟨2 + 1, ?_, by go_num, by omega, by omega, below_step (hB.alloc hz0 _).drew (by simp; omega) hb3, E3.out⟩
          show _ = Value.int .u64 ((addM (sumM (fun j => valueM (s j) (e j)) 2) (valueM (s 2) (e 2)) : Nat) : Int)
          rw [HACC.out]
      · have HSW : Hid (∀ o, SetR (wr.alloc o).drew (v 3) (s 3)) := fun o => ((HS.out 3 (by omega)).below (hB.alloc hB.size o).drew)
        have hvl := valueM_le (s 3) (e 3)
        have hz0 := hB.size
        unfold far at hvl
        have HS0 := hide (sfact3 (s := s) (v := v) (e := e) (bk_new wr _) (bk_alloc HE.out _))
        go_wp2_with fail
        go_region_held3 (fun w' => w'.cell? ⟨wr.heap.size, 0, none⟩ = some (.bool (s 3).a) ∧ w'.cell? ⟨wr.heap.size, 1, none⟩ = some (.slice (v 3).A (v 3).n (v 3).c) ∧ w'.cell? ⟨wr.heap.size, 2, none⟩ = some (.bool (s 3).co) ∧ w'.cell? ⟨wr.heap.size, 3, none⟩ = some (.slice (v 3).B (v 3).m (v 3).d) ∧ w'.cell? ⟨w.heap.size + 1, 9, none⟩ = some (.int .i64 (e 3).k) ∧ w'.cell? ⟨w.heap.size + 1, 10, none⟩ = some (.int .i64 (e 3).n) ∧ w'.cell? ⟨w.heap.size + 1, 11, none⟩ = some (.string (e 3).s)) (first | exact HS0.out | exact S1) (first | (go_at_call 19; refine (value_any (s 3) (e 3) (HI.out 3 (by omega)) _ _ _ _ _ _ _ (HSW.out _).i (HSW.out _).t).mono ?_; rintro e' w3 ⟨rfl, hb3⟩; have E3 := hide (bk_below (bk_drew (bk_alloc HE.out _)) hb3); have S1 := sfact3 (s := s) (v := v) (e := e) (bk_below (bk_drew (bk_new wr _)) hb3) E3.out) | (go_at_call 17; refine (add_any acc (valueM (s 3) (e 3)) hsl hvl _).mono ?_; rintro e' w' ⟨rfl, rfl⟩))
        go_wp2_with fail
        go_roundg (4 - (3 + 1))
        case measure => omega
        case rel =>
          refine ⟨3 + 1, ?_, by go_num, by omega, by omega, below_step (hB.alloc hz0 _).drew (by simp; omega) hb3, E3.out⟩
          show _ = Value.int .u64 ((addM (sumM (fun j => valueM (s j) (e j)) 3) (valueM (s 3) (e 3)) : Nat) : Int)
          rw [HACC.out]
    · have hj4 : j = 4 := by omega
      subst hj4
      go_wp2_with fail
      go_ret
      refine ⟨ret_int ?_, hB⟩
      unfold boxGap
      rw [HACC.out]
end Go.Proofs.Ytfhokhhpfdmfiaa
