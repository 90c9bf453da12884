/- arbourref04.In of two boxes: it ends, and tells what BoxIn tells. -/
import Derived.Test.YtfhokhhpfdmfiaaGA
namespace Go.Proofs.Ytfhokhhpfdmfiaa
open Go.RowKit PGapZero
set_option linter.unusedVariables false

theorem sfi0 {w : World} {G E : Nat} {s : Nat → SetM} {v : Nat → SetV} {t : Nat → SetM} {u : Nat → SetV} (h1 : w.heap[G]? = some (.cells #[.bool (s 0).a, .slice (v 0).A (v 0).n (v 0).c, .bool (s 0).co, .slice (v 0).B (v 0).m (v 0).d, .bool (s 1).a, .slice (v 1).A (v 1).n (v 1).c, .bool (s 1).co, .slice (v 1).B (v 1).m (v 1).d, .bool (s 2).a, .slice (v 2).A (v 2).n (v 2).c, .bool (s 2).co, .slice (v 2).B (v 2).m (v 2).d, .bool (s 3).a, .slice (v 3).A (v 3).n (v 3).c, .bool (s 3).co, .slice (v 3).B (v 3).m (v 3).d] 28 (0, 0))) (h2 : w.heap[E]? = some (.cells #[.bool (t 0).a, .slice (u 0).A (u 0).n (u 0).c, .bool (t 0).co, .slice (u 0).B (u 0).m (u 0).d, .bool (t 1).a, .slice (u 1).A (u 1).n (u 1).c, .bool (t 1).co, .slice (u 1).B (u 1).m (u 1).d, .bool (t 2).a, .slice (u 2).A (u 2).n (u 2).c, .bool (t 2).co, .slice (u 2).B (u 2).m (u 2).d, .bool (t 3).a, .slice (u 3).A (u 3).n (u 3).c, .bool (t 3).co, .slice (u 3).B (u 3).m (u 3).d] 28 (0, 0))) : w.cell? ⟨G, 0, none⟩ = some (.bool (s 0).a) ∧ w.cell? ⟨G, 1, none⟩ = some (.slice (v 0).A (v 0).n (v 0).c) ∧ w.cell? ⟨G, 2, none⟩ = some (.bool (s 0).co) ∧ w.cell? ⟨G, 3, none⟩ = some (.slice (v 0).B (v 0).m (v 0).d) ∧ w.cell? ⟨E, 0, none⟩ = some (.bool (t 0).a) ∧ w.cell? ⟨E, 1, none⟩ = some (.slice (u 0).A (u 0).n (u 0).c) ∧ w.cell? ⟨E, 2, none⟩ = some (.bool (t 0).co) ∧ w.cell? ⟨E, 3, none⟩ = some (.slice (u 0).B (u 0).m (u 0).d) := by
  obtain ⟨a0, a1, a2, a3⟩ := bc0 h1
  obtain ⟨g0, g1, g2, g3⟩ := bc0 h2
  exact ⟨a0, a1, a2, a3, g0, g1, g2, g3⟩
theorem sfi1 {w : World} {G E : Nat} {s : Nat → SetM} {v : Nat → SetV} {t : Nat → SetM} {u : Nat → SetV} (h1 : w.heap[G]? = some (.cells #[.bool (s 0).a, .slice (v 0).A (v 0).n (v 0).c, .bool (s 0).co, .slice (v 0).B (v 0).m (v 0).d, .bool (s 1).a, .slice (v 1).A (v 1).n (v 1).c, .bool (s 1).co, .slice (v 1).B (v 1).m (v 1).d, .bool (s 2).a, .slice (v 2).A (v 2).n (v 2).c, .bool (s 2).co, .slice (v 2).B (v 2).m (v 2).d, .bool (s 3).a, .slice (v 3).A (v 3).n (v 3).c, .bool (s 3).co, .slice (v 3).B (v 3).m (v 3).d] 28 (0, 0))) (h2 : w.heap[E]? = some (.cells #[.bool (t 0).a, .slice (u 0).A (u 0).n (u 0).c, .bool (t 0).co, .slice (u 0).B (u 0).m (u 0).d, .bool (t 1).a, .slice (u 1).A (u 1).n (u 1).c, .bool (t 1).co, .slice (u 1).B (u 1).m (u 1).d, .bool (t 2).a, .slice (u 2).A (u 2).n (u 2).c, .bool (t 2).co, .slice (u 2).B (u 2).m (u 2).d, .bool (t 3).a, .slice (u 3).A (u 3).n (u 3).c, .bool (t 3).co, .slice (u 3).B (u 3).m (u 3).d] 28 (0, 0))) : w.cell? ⟨G, 4, none⟩ = some (.bool (s 1).a) ∧ w.cell? ⟨G, 5, none⟩ = some (.slice (v 1).A (v 1).n (v 1).c) ∧ w.cell? ⟨G, 6, none⟩ = some (.bool (s 1).co) ∧ w.cell? ⟨G, 7, none⟩ = some (.slice (v 1).B (v 1).m (v 1).d) ∧ w.cell? ⟨E, 4, none⟩ = some (.bool (t 1).a) ∧ w.cell? ⟨E, 5, none⟩ = some (.slice (u 1).A (u 1).n (u 1).c) ∧ w.cell? ⟨E, 6, none⟩ = some (.bool (t 1).co) ∧ w.cell? ⟨E, 7, none⟩ = some (.slice (u 1).B (u 1).m (u 1).d) := by
  obtain ⟨a0, a1, a2, a3⟩ := bc1 h1
  obtain ⟨g0, g1, g2, g3⟩ := bc1 h2
  exact ⟨a0, a1, a2, a3, g0, g1, g2, g3⟩
theorem sfi2 {w : World} {G E : Nat} {s : Nat → SetM} {v : Nat → SetV} {t : Nat → SetM} {u : Nat → SetV} (h1 : w.heap[G]? = some (.cells #[.bool (s 0).a, .slice (v 0).A (v 0).n (v 0).c, .bool (s 0).co, .slice (v 0).B (v 0).m (v 0).d, .bool (s 1).a, .slice (v 1).A (v 1).n (v 1).c, .bool (s 1).co, .slice (v 1).B (v 1).m (v 1).d, .bool (s 2).a, .slice (v 2).A (v 2).n (v 2).c, .bool (s 2).co, .slice (v 2).B (v 2).m (v 2).d, .bool (s 3).a, .slice (v 3).A (v 3).n (v 3).c, .bool (s 3).co, .slice (v 3).B (v 3).m (v 3).d] 28 (0, 0))) (h2 : w.heap[E]? = some (.cells #[.bool (t 0).a, .slice (u 0).A (u 0).n (u 0).c, .bool (t 0).co, .slice (u 0).B (u 0).m (u 0).d, .bool (t 1).a, .slice (u 1).A (u 1).n (u 1).c, .bool (t 1).co, .slice (u 1).B (u 1).m (u 1).d, .bool (t 2).a, .slice (u 2).A (u 2).n (u 2).c, .bool (t 2).co, .slice (u 2).B (u 2).m (u 2).d, .bool (t 3).a, .slice (u 3).A (u 3).n (u 3).c, .bool (t 3).co, .slice (u 3).B (u 3).m (u 3).d] 28 (0, 0))) : w.cell? ⟨G, 8, none⟩ = some (.bool (s 2).a) ∧ w.cell? ⟨G, 9, none⟩ = some (.slice (v 2).A (v 2).n (v 2).c) ∧ w.cell? ⟨G, 10, none⟩ = some (.bool (s 2).co) ∧ w.cell? ⟨G, 11, none⟩ = some (.slice (v 2).B (v 2).m (v 2).d) ∧ w.cell? ⟨E, 8, none⟩ = some (.bool (t 2).a) ∧ w.cell? ⟨E, 9, none⟩ = some (.slice (u 2).A (u 2).n (u 2).c) ∧ w.cell? ⟨E, 10, none⟩ = some (.bool (t 2).co) ∧ w.cell? ⟨E, 11, none⟩ = some (.slice (u 2).B (u 2).m (u 2).d) := by
  obtain ⟨a0, a1, a2, a3⟩ := bc2 h1
  obtain ⟨g0, g1, g2, g3⟩ := bc2 h2
  exact ⟨a0, a1, a2, a3, g0, g1, g2, g3⟩
theorem sfi3 {w : World} {G E : Nat} {s : Nat → SetM} {v : Nat → SetV} {t : Nat → SetM} {u : Nat → SetV} (h1 : w.heap[G]? = some (.cells #[.bool (s 0).a, .slice (v 0).A (v 0).n (v 0).c, .bool (s 0).co, .slice (v 0).B (v 0).m (v 0).d, .bool (s 1).a, .slice (v 1).A (v 1).n (v 1).c, .bool (s 1).co, .slice (v 1).B (v 1).m (v 1).d, .bool (s 2).a, .slice (v 2).A (v 2).n (v 2).c, .bool (s 2).co, .slice (v 2).B (v 2).m (v 2).d, .bool (s 3).a, .slice (v 3).A (v 3).n (v 3).c, .bool (s 3).co, .slice (v 3).B (v 3).m (v 3).d] 28 (0, 0))) (h2 : w.heap[E]? = some (.cells #[.bool (t 0).a, .slice (u 0).A (u 0).n (u 0).c, .bool (t 0).co, .slice (u 0).B (u 0).m (u 0).d, .bool (t 1).a, .slice (u 1).A (u 1).n (u 1).c, .bool (t 1).co, .slice (u 1).B (u 1).m (u 1).d, .bool (t 2).a, .slice (u 2).A (u 2).n (u 2).c, .bool (t 2).co, .slice (u 2).B (u 2).m (u 2).d, .bool (t 3).a, .slice (u 3).A (u 3).n (u 3).c, .bool (t 3).co, .slice (u 3).B (u 3).m (u 3).d] 28 (0, 0))) : w.cell? ⟨G, 12, none⟩ = some (.bool (s 3).a) ∧ w.cell? ⟨G, 13, none⟩ = some (.slice (v 3).A (v 3).n (v 3).c) ∧ w.cell? ⟨G, 14, none⟩ = some (.bool (s 3).co) ∧ w.cell? ⟨G, 15, none⟩ = some (.slice (v 3).B (v 3).m (v 3).d) ∧ w.cell? ⟨E, 12, none⟩ = some (.bool (t 3).a) ∧ w.cell? ⟨E, 13, none⟩ = some (.slice (u 3).A (u 3).n (u 3).c) ∧ w.cell? ⟨E, 14, none⟩ = some (.bool (t 3).co) ∧ w.cell? ⟨E, 15, none⟩ = some (.slice (u 3).B (u 3).m (u 3).d) := by
  obtain ⟨a0, a1, a2, a3⟩ := bc3 h1
  obtain ⟨g0, g1, g2, g3⟩ := bc3 h2
  exact ⟨a0, a1, a2, a3, g0, g1, g2, g3⟩

/-- What In of two boxes answers. -/
def boxInB (s t : Nat → SetM) : Bool := boxEmpty s || all4 fun j => inB (s j) (t j)
theorem boxInB_says {s t : Nat → SetM} (ss : ∀ j, j < 4 → ShortM (s j)) (st : ∀ j, j < 4 → ShortM (t j)) (h : boxInB s t = true) : BoxIn s t := by
  unfold boxInB at h
  rw [Bool.or_eq_true] at h
  exact h.imp (fun h => h) (fun h j hj => inB_says (ss j hj) (st j hj) ((all4_iff fun j => inB (s j) (t j)).1 h j hj))

set_option maxHeartbeats 4000000 in
set_option maxRecDepth 100000 in
theorem in04_any (s : Nat → SetM) (v : Nat → SetV) (t : Nat → SetM) (u : Nat → SetV) (w : World) (hs : ∀ j, j < 4 → SetR w (v j) (s j)) (ht : ∀ j, j < 4 → SetR w (u j) (t j)) (ss : ∀ j, j < 4 → ShortM (s j)) (st : ∀ j, j < 4 → ShortM (t j)) : Calls Try.prog 15 #[.agg #[.bool (s 0).a, .slice (v 0).A (v 0).n (v 0).c, .bool (s 0).co, .slice (v 0).B (v 0).m (v 0).d, .bool (s 1).a, .slice (v 1).A (v 1).n (v 1).c, .bool (s 1).co, .slice (v 1).B (v 1).m (v 1).d, .bool (s 2).a, .slice (v 2).A (v 2).n (v 2).c, .bool (s 2).co, .slice (v 2).B (v 2).m (v 2).d, .bool (s 3).a, .slice (v 3).A (v 3).n (v 3).c, .bool (s 3).co, .slice (v 3).B (v 3).m (v 3).d], .agg #[.bool (t 0).a, .slice (u 0).A (u 0).n (u 0).c, .bool (t 0).co, .slice (u 0).B (u 0).m (u 0).d, .bool (t 1).a, .slice (u 1).A (u 1).n (u 1).c, .bool (t 1).co, .slice (u 1).B (u 1).m (u 1).d, .bool (t 2).a, .slice (u 2).A (u 2).n (u 2).c, .bool (t 2).co, .slice (u 2).B (u 2).m (u 2).d, .bool (t 3).a, .slice (u 3).A (u 3).n (u 3).c, .bool (t 3).co, .slice (u 3).B (u 3).m (u 3).d]] w fun e' w' => e' = .returned (.bool (boxInB s t)) ∧ Below w.heap.size w w' := by
  have HS := hide hs
  have HT := hide ht
  have SS := hide ss
  have ST := hide st
  clear hs ht ss st
  have hbh : boxInB s t = (boxEmpty s || all4 fun j => inB (s j) (t j)) := rfl
  have HBH := hide hbh
  clear hbh
  go_enter Try.func15, Try.ntmps15
  have w0a := bk_new0 w (.cells #[.bool (s 0).a, .slice (v 0).A (v 0).n (v 0).c, .bool (s 0).co, .slice (v 0).B (v 0).m (v 0).d, .bool (s 1).a, .slice (v 1).A (v 1).n (v 1).c, .bool (s 1).co, .slice (v 1).B (v 1).m (v 1).d, .bool (s 2).a, .slice (v 2).A (v 2).n (v 2).c, .bool (s 2).co, .slice (v 2).B (v 2).m (v 2).d, .bool (s 3).a, .slice (v 3).A (v 3).n (v 3).c, .bool (s 3).co, .slice (v 3).B (v 3).m (v 3).d] 28) (.cells #[.bool (t 0).a, .slice (u 0).A (u 0).n (u 0).c, .bool (t 0).co, .slice (u 0).B (u 0).m (u 0).d, .bool (t 1).a, .slice (u 1).A (u 1).n (u 1).c, .bool (t 1).co, .slice (u 1).B (u 1).m (u 1).d, .bool (t 2).a, .slice (u 2).A (u 2).n (u 2).c, .bool (t 2).co, .slice (u 2).B (u 2).m (u 2).d, .bool (t 3).a, .slice (u 3).A (u 3).n (u 3).c, .bool (t 3).co, .slice (u 3).B (u 3).m (u 3).d] 28)
  have w0b := bk_new1 w (.cells #[.bool (s 0).a, .slice (v 0).A (v 0).n (v 0).c, .bool (s 0).co, .slice (v 0).B (v 0).m (v 0).d, .bool (s 1).a, .slice (v 1).A (v 1).n (v 1).c, .bool (s 1).co, .slice (v 1).B (v 1).m (v 1).d, .bool (s 2).a, .slice (v 2).A (v 2).n (v 2).c, .bool (s 2).co, .slice (v 2).B (v 2).m (v 2).d, .bool (s 3).a, .slice (v 3).A (v 3).n (v 3).c, .bool (s 3).co, .slice (v 3).B (v 3).m (v 3).d] 28) (.cells #[.bool (t 0).a, .slice (u 0).A (u 0).n (u 0).c, .bool (t 0).co, .slice (u 0).B (u 0).m (u 0).d, .bool (t 1).a, .slice (u 1).A (u 1).n (u 1).c, .bool (t 1).co, .slice (u 1).B (u 1).m (u 1).d, .bool (t 2).a, .slice (u 2).A (u 2).n (u 2).c, .bool (t 2).co, .slice (u 2).B (u 2).m (u 2).d, .bool (t 3).a, .slice (u 3).A (u 3).n (u 3).c, .bool (t 3).co, .slice (u 3).B (u 3).m (u 3).d] 28)
  have W0 := hide (And.intro w0a w0b)
  have bb : Below w.heap.size w ((w.alloc (.cells #[.bool (s 0).a, .slice (v 0).A (v 0).n (v 0).c, .bool (s 0).co, .slice (v 0).B (v 0).m (v 0).d, .bool (s 1).a, .slice (v 1).A (v 1).n (v 1).c, .bool (s 1).co, .slice (v 1).B (v 1).m (v 1).d, .bool (s 2).a, .slice (v 2).A (v 2).n (v 2).c, .bool (s 2).co, .slice (v 2).B (v 2).m (v 2).d, .bool (s 3).a, .slice (v 3).A (v 3).n (v 3).c, .bool (s 3).co, .slice (v 3).B (v 3).m (v 3).d] 28)).alloc (.cells #[.bool (t 0).a, .slice (u 0).A (u 0).n (u 0).c, .bool (t 0).co, .slice (u 0).B (u 0).m (u 0).d, .bool (t 1).a, .slice (u 1).A (u 1).n (u 1).c, .bool (t 1).co, .slice (u 1).B (u 1).m (u 1).d, .bool (t 2).a, .slice (u 2).A (u 2).n (u 2).c, .bool (t 2).co, .slice (u 2).B (u 2).m (u 2).d, .bool (t 3).a, .slice (u 3).A (u 3).n (u 3).c, .bool (t 3).co, .slice (u 3).B (u 3).m (u 3).d] 28)) := ((Below.refl _ _).alloc (Nat.le_refl _) _).alloc (by simp) _
  have HB0 := hide bb
  have HS0 : Hid (∀ j, j < 4 → SetR ((w.alloc (.cells #[.bool (s 0).a, .slice (v 0).A (v 0).n (v 0).c, .bool (s 0).co, .slice (v 0).B (v 0).m (v 0).d, .bool (s 1).a, .slice (v 1).A (v 1).n (v 1).c, .bool (s 1).co, .slice (v 1).B (v 1).m (v 1).d, .bool (s 2).a, .slice (v 2).A (v 2).n (v 2).c, .bool (s 2).co, .slice (v 2).B (v 2).m (v 2).d, .bool (s 3).a, .slice (v 3).A (v 3).n (v 3).c, .bool (s 3).co, .slice (v 3).B (v 3).m (v 3).d] 28)).alloc (.cells #[.bool (t 0).a, .slice (u 0).A (u 0).n (u 0).c, .bool (t 0).co, .slice (u 0).B (u 0).m (u 0).d, .bool (t 1).a, .slice (u 1).A (u 1).n (u 1).c, .bool (t 1).co, .slice (u 1).B (u 1).m (u 1).d, .bool (t 2).a, .slice (u 2).A (u 2).n (u 2).c, .bool (t 2).co, .slice (u 2).B (u 2).m (u 2).d, .bool (t 3).a, .slice (u 3).A (u 3).n (u 3).c, .bool (t 3).co, .slice (u 3).B (u 3).m (u 3).d] 28)) (v j) (s j)) := hide (fun j hj => (HS.out j hj).below bb)
  clear w0a w0b bb
  go_wp2_with fail
  refine (empty04_any s v _ HS0.out).mono ?_
  rintro e' w1 ⟨rfl, hb1⟩
  have B1 : Below w.heap.size w w1 := below_step HB0.out (by simp; omega) hb1
  have X1 := hide (bk_below W0.out.1 hb1)
  have E1 := hide (bk_below W0.out.2 hb1)
  clear hb1
  cases hev : boxEmpty s with
  | true =>
    have HEV := hide hev
    clear hev
    go_wp2_with fail
    go_ret
    exact ⟨ret_bool (by rw [HBH.out, HEV.out]; rfl), B1⟩
  | false =>
    have HEV := hide hev
    clear hev
    go_wp2_with fail
    go_loopg [5] 4 (fun q i wr => ∃ j : Nat, i = .int .i64 j ∧ j ≤ 4 ∧ q + j = 4 ∧ Below w1.heap.size w1 wr ∧ Hid (∀ k, k < j → inB (s k) (t k) = true))
    case atStart => exact ⟨0, rfl, by omega, by omega, Below.refl _ _, hide (fun t h => absurd h (by omega))⟩
    case round =>
      obtain ⟨j, rfl, hj, hq, hB, HOK⟩ := hrel
      have Bw := below_step B1 B1.size hB
      have X2 := hide (bk_below X1.out hB)
      have E2 := hide (bk_below E1.out hB)
      have hz := bk_lt E2.out
      have hz0 := hB.size
      by_cases hlt : j < 4
      · have hjj : j = 0 ∨ j = 1 ∨ j = 2 ∨ j = 3 := by omega
        rcases hjj with rfl | rfl | rfl | rfl
        · have HSF := hide (sfi0 (s := s) (v := v) (t := t) (u := u) X2.out E2.out)
          have SR : Hid (SetR wr.drew (v 0) (s 0)) := hide ((HS.out 0 (by omega)).below Bw.drew)
          have TR : Hid (SetR wr.drew (u 0) (t 0)) := hide ((HT.out 0 (by omega)).below Bw.drew)
          go_wp2_with fail
          go_region_held3 (fun w' => w'.cell? ⟨w.heap.size, 0, none⟩ = some (.bool (s 0).a) ∧ w'.cell? ⟨w.heap.size, 1, none⟩ = some (.slice (v 0).A (v 0).n (v 0).c) ∧ w'.cell? ⟨w.heap.size, 2, none⟩ = some (.bool (s 0).co) ∧ w'.cell? ⟨w.heap.size, 3, none⟩ = some (.slice (v 0).B (v 0).m (v 0).d) ∧ w'.cell? ⟨w.heap.size + 1, 0, none⟩ = some (.bool (t 0).a) ∧ w'.cell? ⟨w.heap.size + 1, 1, none⟩ = some (.slice (u 0).A (u 0).n (u 0).c) ∧ w'.cell? ⟨w.heap.size + 1, 2, none⟩ = some (.bool (t 0).co) ∧ w'.cell? ⟨w.heap.size + 1, 3, none⟩ = some (.slice (u 0).B (u 0).m (u 0).d)) (first | exact HSF.out | exact S1) (first | (go_at_call 29; refine (in03_any (s 0) (t 0) (v 0) (u 0) _ SR.out TR.out (SS.out 0 (by omega)) (ST.out 0 (by omega))).mono ?_; rintro e' w3 ⟨rfl, hb3⟩; have S1 := sfi0 (s := s) (v := v) (t := t) (u := u) (bk_below (bk_drew X2.out) hb3) (bk_below (bk_drew E2.out) hb3)))
          have B3 : Below w1.heap.size w1 w3 := below_step hB.drew (by simp; omega) hb3
          cases hh : inB (s 0) (t 0) with
          | false =>
            have HH := hide (all4_no (fun j => inB (s j) (t j)) 0 (by omega) hh)
            clear hh
            go_wp2_with fail
            go_ret
            exact ⟨ret_bool (by rw [HBH.out, HEV.out, HH.out]; rfl), below_step B1 B1.size B3⟩
          | true =>
            have HH := hide hh
            clear hh
            go_wp2_with fail
            go_roundg (4 - (0 + 1))
            case measure => omega
            case rel =>
              refine ⟨0 + 1, by go_num, by omega, by omega, B3, hide (fun k hk => ?_)⟩
              rcases Nat.lt_or_ge k 0 with h | h
              · exact HOK.out k h
              · have : k = 0 := by omega
                rw [this]; exact HH.out
        · have HSF := hide (sfi1 (s := s) (v := v) (t := t) (u := u) X2.out E2.out)
          have SR : Hid (SetR wr.drew (v 1) (s 1)) := hide ((HS.out 1 (by omega)).below Bw.drew)
          have TR : Hid (SetR wr.drew (u 1) (t 1)) := hide ((HT.out 1 (by omega)).below Bw.drew)
          go_wp2_with fail
          go_region_held3 (fun w' => w'.cell? ⟨w.heap.size, 4, none⟩ = some (.bool (s 1).a) ∧ w'.cell? ⟨w.heap.size, 5, none⟩ = some (.slice (v 1).A (v 1).n (v 1).c) ∧ w'.cell? ⟨w.heap.size, 6, none⟩ = some (.bool (s 1).co) ∧ w'.cell? ⟨w.heap.size, 7, none⟩ = some (.slice (v 1).B (v 1).m (v 1).d) ∧ w'.cell? ⟨w.heap.size + 1, 4, none⟩ = some (.bool (t 1).a) ∧ w'.cell? ⟨w.heap.size + 1, 5, none⟩ = some (.slice (u 1).A (u 1).n (u 1).c) ∧ w'.cell? ⟨w.heap.size + 1, 6, none⟩ = some (.bool (t 1).co) ∧ w'.cell? ⟨w.heap.size + 1, 7, none⟩ = some (.slice (u 1).B (u 1).m (u 1).d)) (first | exact HSF.out | exact S1) (first | (go_at_call 29; refine (in03_any (s 1) (t 1) (v 1) (u 1) _ SR.out TR.out (SS.out 1 (by omega)) (ST.out 1 (by omega))).mono ?_; rintro e' w3 ⟨rfl, hb3⟩; have S1 := sfi1 (s := s) (v := v) (t := t) (u := u) (bk_below (bk_drew X2.out) hb3) (bk_below (bk_drew E2.out) hb3)))
          have B3 : Below w1.heap.size w1 w3 := below_step hB.drew (by simp; omega) hb3
          cases hh : inB (s 1) (t 1) with
          | false =>
            have HH := hide (all4_no (fun j => inB (s j) (t j)) 1 (by omega) hh)
            clear hh
            go_wp2_with fail
            go_ret
            exact ⟨ret_bool (by rw [HBH.out, HEV.out, HH.out]; rfl), below_step B1 B1.size B3⟩
          | true =>
            have HH := hide hh
            clear hh
            go_wp2_with fail
            go_roundg (4 - (1 + 1))
            case measure => omega
            case rel =>
              refine ⟨1 + 1, by go_num, by omega, by omega, B3, hide (fun k hk => ?_)⟩
              rcases Nat.lt_or_ge k 1 with h | h
              · exact HOK.out k h
              · have : k = 1 := by omega
                rw [this]; exact HH.out
        · have HSF := hide (sfi2 (s := s) (v := v) (t := t) (u := u) X2.out E2.out)
          have SR : Hid (SetR wr.drew (v 2) (s 2)) := hide ((HS.out 2 (by omega)).below Bw.drew)
          have TR : Hid (SetR wr.drew (u 2) (t 2)) := hide ((HT.out 2 (by omega)).below Bw.drew)
          go_wp2_with fail
          go_region_held3 (fun w' => w'.cell? ⟨w.heap.size, 8, none⟩ = some (.bool (s 2).a) ∧ w'.cell? ⟨w.heap.size, 9, none⟩ = some (.slice (v 2).A (v 2).n (v 2).c) ∧ w'.cell? ⟨w.heap.size, 10, none⟩ = some (.bool (s 2).co) ∧ w'.cell? ⟨w.heap.size, 11, none⟩ = some (.slice (v 2).B (v 2).m (v 2).d) ∧ w'.cell? ⟨w.heap.size + 1, 8, none⟩ = some (.bool (t 2).a) ∧ w'.cell? ⟨w.heap.size + 1, 9, none⟩ = some (.slice (u 2).A (u 2).n (u 2).c) ∧ w'.cell? ⟨w.heap.size + 1, 10, none⟩ = some (.bool (t 2).co) ∧ w'.cell? ⟨w.heap.size + 1, 11, none⟩ = some (.slice (u 2).B (u 2).m (u 2).d)) (first | exact HSF.out | exact S1) (first | (go_at_call 29; refine (in03_any (s 2) (t 2) (v 2) (u 2) _ SR.out TR.out (SS.out 2 (by omega)) (ST.out 2 (by omega))).mono ?_; rintro e' w3 ⟨rfl, hb3⟩; have S1 := sfi2 (s := s) (v := v) (t := t) (u := u) (bk_below (bk_drew X2.out) hb3) (bk_below (bk_drew E2.out) hb3)))
          have B3 : Below w1.heap.size w1 w3 := below_step hB.drew (by simp; omega) hb3
          cases hh : inB (s 2) (t 2) with
          | false =>
            have HH := hide (all4_no (fun j => inB (s j) (t j)) 2 (by omega) hh)
            clear hh
            go_wp2_with fail
            go_ret
            exact ⟨ret_bool (by rw [HBH.out, HEV.out, HH.out]; rfl), below_step B1 B1.size B3⟩
          | true =>
            have HH := hide hh
            clear hh
            go_wp2_with fail
            go_roundg (4 - (2 + 1))
            case measure => omega
            case rel =>
              refine ⟨2 + 1, by go_num, by omega, by omega, B3, hide (fun k hk => ?_)⟩
              rcases Nat.lt_or_ge k 2 with h | h
              · exact HOK.out k h
              · have : k = 2 := by omega
                rw [this]; exact HH.out
        · have HSF := hide (sfi3 (s := s) (v := v) (t := t) (u := u) X2.out E2.out)
          have SR : Hid (SetR wr.drew (v 3) (s 3)) := hide ((HS.out 3 (by omega)).below Bw.drew)
          have TR : Hid (SetR wr.drew (u 3) (t 3)) := hide ((HT.out 3 (by omega)).below Bw.drew)
          go_wp2_with fail
          go_region_held3 (fun w' => w'.cell? ⟨w.heap.size, 12, none⟩ = some (.bool (s 3).a) ∧ w'.cell? ⟨w.heap.size, 13, none⟩ = some (.slice (v 3).A (v 3).n (v 3).c) ∧ w'.cell? ⟨w.heap.size, 14, none⟩ = some (.bool (s 3).co) ∧ w'.cell? ⟨w.heap.size, 15, none⟩ = some (.slice (v 3).B (v 3).m (v 3).d) ∧ w'.cell? ⟨w.heap.size + 1, 12, none⟩ = some (.bool (t 3).a) ∧ w'.cell? ⟨w.heap.size + 1, 13, none⟩ = some (.slice (u 3).A (u 3).n (u 3).c) ∧ w'.cell? ⟨w.heap.size + 1, 14, none⟩ = some (.bool (t 3).co) ∧ w'.cell? ⟨w.heap.size + 1, 15, none⟩ = some (.slice (u 3).B (u 3).m (u 3).d)) (first | exact HSF.out | exact S1) (first | (go_at_call 29; refine (in03_any (s 3) (t 3) (v 3) (u 3) _ SR.out TR.out (SS.out 3 (by omega)) (ST.out 3 (by omega))).mono ?_; rintro e' w3 ⟨rfl, hb3⟩; have S1 := sfi3 (s := s) (v := v) (t := t) (u := u) (bk_below (bk_drew X2.out) hb3) (bk_below (bk_drew E2.out) hb3)))
          have B3 : Below w1.heap.size w1 w3 := below_step hB.drew (by simp; omega) hb3
          cases hh : inB (s 3) (t 3) with
          | false =>
            have HH := hide (all4_no (fun j => inB (s j) (t j)) 3 (by omega) hh)
            clear hh
            go_wp2_with fail
            go_ret
            exact ⟨ret_bool (by rw [HBH.out, HEV.out, HH.out]; rfl), below_step B1 B1.size B3⟩
          | true =>
            have HH := hide hh
            clear hh
            go_wp2_with fail
            go_roundg (4 - (3 + 1))
            case measure => omega
            case rel =>
              refine ⟨3 + 1, by go_num, by omega, by omega, B3, hide (fun k hk => ?_)⟩
              rcases Nat.lt_or_ge k 3 with h | h
              · exact HOK.out k h
              · have : k = 3 := by omega
                rw [this]; exact HH.out
      · have hj4 : j = 4 := by omega
        subst hj4
        go_wp2_with fail
        go_ret
        exact ⟨ret_bool (by rw [HBH.out, HEV.out, (all4_iff fun j => inB (s j) (t j)).2 HOK.out]; rfl), Bw⟩
end Go.Proofs.Ytfhokhhpfdmfiaa
