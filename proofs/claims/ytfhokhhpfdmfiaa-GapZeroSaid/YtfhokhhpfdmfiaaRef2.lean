/- The reference's Has of a box and of a filter; Empty of a set and of a box. -/
import Derived.Test.YtfhokhhpfdmfiaaRef1
namespace Go.Proofs.Ytfhokhhpfdmfiaa
open Go.RowKit

theorem sfb0 {w : World} {G E : Nat} {s : Nat → SetM} {v : Nat → SetV} {e : Nat → ValM} (h1 : w.heap[G]? = some (.cells #[.bool (s 0).a, .slice (v 0).A (v 0).n (v 0).c, .bool (s 0).co, .slice (v 0).B (v 0).m (v 0).d, .bool (s 1).a, .slice (v 1).A (v 1).n (v 1).c, .bool (s 1).co, .slice (v 1).B (v 1).m (v 1).d, .bool (s 2).a, .slice (v 2).A (v 2).n (v 2).c, .bool (s 2).co, .slice (v 2).B (v 2).m (v 2).d, .bool (s 3).a, .slice (v 3).A (v 3).n (v 3).c, .bool (s 3).co, .slice (v 3).B (v 3).m (v 3).d] 28 (0, 0))) (h2 : w.heap[E]? = some (.cells #[.int .i64 (e 0).k, .int .i64 (e 0).n, .string (e 0).s, .int .i64 (e 1).k, .int .i64 (e 1).n, .string (e 1).s, .int .i64 (e 2).k, .int .i64 (e 2).n, .string (e 2).s, .int .i64 (e 3).k, .int .i64 (e 3).n, .string (e 3).s] 32 (0, 0))) : w.cell? ⟨G, 0, none⟩ = some (.bool (s 0).a) ∧ w.cell? ⟨G, 1, none⟩ = some (.slice (v 0).A (v 0).n (v 0).c) ∧ w.cell? ⟨G, 2, none⟩ = some (.bool (s 0).co) ∧ w.cell? ⟨G, 3, none⟩ = some (.slice (v 0).B (v 0).m (v 0).d) ∧ w.cell? ⟨E, 0, none⟩ = some (.int .i64 (e 0).k) ∧ w.cell? ⟨E, 1, none⟩ = some (.int .i64 (e 0).n) ∧ w.cell? ⟨E, 2, none⟩ = some (.string (e 0).s) := by
  obtain ⟨a0, a1, a2, a3⟩ := bc0 h1
  obtain ⟨g0, g1, g2, g3, g4, g5, g6, g7, g8, g9, g10, g11⟩ := ecells h2
  exact ⟨a0, a1, a2, a3, g0, g1, g2⟩
theorem sfb1 {w : World} {G E : Nat} {s : Nat → SetM} {v : Nat → SetV} {e : Nat → ValM} (h1 : w.heap[G]? = some (.cells #[.bool (s 0).a, .slice (v 0).A (v 0).n (v 0).c, .bool (s 0).co, .slice (v 0).B (v 0).m (v 0).d, .bool (s 1).a, .slice (v 1).A (v 1).n (v 1).c, .bool (s 1).co, .slice (v 1).B (v 1).m (v 1).d, .bool (s 2).a, .slice (v 2).A (v 2).n (v 2).c, .bool (s 2).co, .slice (v 2).B (v 2).m (v 2).d, .bool (s 3).a, .slice (v 3).A (v 3).n (v 3).c, .bool (s 3).co, .slice (v 3).B (v 3).m (v 3).d] 28 (0, 0))) (h2 : w.heap[E]? = some (.cells #[.int .i64 (e 0).k, .int .i64 (e 0).n, .string (e 0).s, .int .i64 (e 1).k, .int .i64 (e 1).n, .string (e 1).s, .int .i64 (e 2).k, .int .i64 (e 2).n, .string (e 2).s, .int .i64 (e 3).k, .int .i64 (e 3).n, .string (e 3).s] 32 (0, 0))) : w.cell? ⟨G, 4, none⟩ = some (.bool (s 1).a) ∧ w.cell? ⟨G, 5, none⟩ = some (.slice (v 1).A (v 1).n (v 1).c) ∧ w.cell? ⟨G, 6, none⟩ = some (.bool (s 1).co) ∧ w.cell? ⟨G, 7, none⟩ = some (.slice (v 1).B (v 1).m (v 1).d) ∧ w.cell? ⟨E, 3, none⟩ = some (.int .i64 (e 1).k) ∧ w.cell? ⟨E, 4, none⟩ = some (.int .i64 (e 1).n) ∧ w.cell? ⟨E, 5, none⟩ = some (.string (e 1).s) := by
  obtain ⟨a0, a1, a2, a3⟩ := bc1 h1
  obtain ⟨g0, g1, g2, g3, g4, g5, g6, g7, g8, g9, g10, g11⟩ := ecells h2
  exact ⟨a0, a1, a2, a3, g3, g4, g5⟩
theorem sfb2 {w : World} {G E : Nat} {s : Nat → SetM} {v : Nat → SetV} {e : Nat → ValM} (h1 : w.heap[G]? = some (.cells #[.bool (s 0).a, .slice (v 0).A (v 0).n (v 0).c, .bool (s 0).co, .slice (v 0).B (v 0).m (v 0).d, .bool (s 1).a, .slice (v 1).A (v 1).n (v 1).c, .bool (s 1).co, .slice (v 1).B (v 1).m (v 1).d, .bool (s 2).a, .slice (v 2).A (v 2).n (v 2).c, .bool (s 2).co, .slice (v 2).B (v 2).m (v 2).d, .bool (s 3).a, .slice (v 3).A (v 3).n (v 3).c, .bool (s 3).co, .slice (v 3).B (v 3).m (v 3).d] 28 (0, 0))) (h2 : w.heap[E]? = some (.cells #[.int .i64 (e 0).k, .int .i64 (e 0).n, .string (e 0).s, .int .i64 (e 1).k, .int .i64 (e 1).n, .string (e 1).s, .int .i64 (e 2).k, .int .i64 (e 2).n, .string (e 2).s, .int .i64 (e 3).k, .int .i64 (e 3).n, .string (e 3).s] 32 (0, 0))) : w.cell? ⟨G, 8, none⟩ = some (.bool (s 2).a) ∧ w.cell? ⟨G, 9, none⟩ = some (.slice (v 2).A (v 2).n (v 2).c) ∧ w.cell? ⟨G, 10, none⟩ = some (.bool (s 2).co) ∧ w.cell? ⟨G, 11, none⟩ = some (.slice (v 2).B (v 2).m (v 2).d) ∧ w.cell? ⟨E, 6, none⟩ = some (.int .i64 (e 2).k) ∧ w.cell? ⟨E, 7, none⟩ = some (.int .i64 (e 2).n) ∧ w.cell? ⟨E, 8, none⟩ = some (.string (e 2).s) := by
  obtain ⟨a0, a1, a2, a3⟩ := bc2 h1
  obtain ⟨g0, g1, g2, g3, g4, g5, g6, g7, g8, g9, g10, g11⟩ := ecells h2
  exact ⟨a0, a1, a2, a3, g6, g7, g8⟩
theorem sfb3 {w : World} {G E : Nat} {s : Nat → SetM} {v : Nat → SetV} {e : Nat → ValM} (h1 : w.heap[G]? = some (.cells #[.bool (s 0).a, .slice (v 0).A (v 0).n (v 0).c, .bool (s 0).co, .slice (v 0).B (v 0).m (v 0).d, .bool (s 1).a, .slice (v 1).A (v 1).n (v 1).c, .bool (s 1).co, .slice (v 1).B (v 1).m (v 1).d, .bool (s 2).a, .slice (v 2).A (v 2).n (v 2).c, .bool (s 2).co, .slice (v 2).B (v 2).m (v 2).d, .bool (s 3).a, .slice (v 3).A (v 3).n (v 3).c, .bool (s 3).co, .slice (v 3).B (v 3).m (v 3).d] 28 (0, 0))) (h2 : w.heap[E]? = some (.cells #[.int .i64 (e 0).k, .int .i64 (e 0).n, .string (e 0).s, .int .i64 (e 1).k, .int .i64 (e 1).n, .string (e 1).s, .int .i64 (e 2).k, .int .i64 (e 2).n, .string (e 2).s, .int .i64 (e 3).k, .int .i64 (e 3).n, .string (e 3).s] 32 (0, 0))) : w.cell? ⟨G, 12, none⟩ = some (.bool (s 3).a) ∧ w.cell? ⟨G, 13, none⟩ = some (.slice (v 3).A (v 3).n (v 3).c) ∧ w.cell? ⟨G, 14, none⟩ = some (.bool (s 3).co) ∧ w.cell? ⟨G, 15, none⟩ = some (.slice (v 3).B (v 3).m (v 3).d) ∧ w.cell? ⟨E, 9, none⟩ = some (.int .i64 (e 3).k) ∧ w.cell? ⟨E, 10, none⟩ = some (.int .i64 (e 3).n) ∧ w.cell? ⟨E, 11, none⟩ = some (.string (e 3).s) := by
  obtain ⟨a0, a1, a2, a3⟩ := bc3 h1
  obtain ⟨g0, g1, g2, g3, g4, g5, g6, g7, g8, g9, g10, g11⟩ := ecells h2
  exact ⟨a0, a1, a2, a3, g9, g10, g11⟩

def all4 (f : Nat → Bool) : Bool := f 0 && (f 1 && (f 2 && f 3))
theorem all4_iff (f : Nat → Bool) : all4 f = true ↔ ∀ j, j < 4 → f j = true := by
  unfold all4
  simp only [Bool.and_eq_true]
  constructor
  · rintro ⟨h0, h1, h2, h3⟩ j hj
    have hjj : j = 0 ∨ j = 1 ∨ j = 2 ∨ j = 3 := by omega
    rcases hjj with rfl | rfl | rfl | rfl <;> assumption
  · intro h
    exact ⟨h 0 (by omega), h 1 (by omega), h 2 (by omega), h 3 (by omega)⟩
theorem all4_no (f : Nat → Bool) (j : Nat) (hj : j < 4) (h : f j = false) : all4 f = false := by
  cases h2 : all4 f with
  | false => rfl
  | true => have := (all4_iff f).1 h2 j hj; rw [h] at this; simp at this
def boxHas (s : Nat → SetM) (e : Nat → ValM) : Bool := evOk e && all4 fun j => hasM (s j) (e j)

set_option maxHeartbeats 4000000 in
set_option maxRecDepth 100000 in
theorem boxhas_any (s : Nat → SetM) (v : Nat → SetV) (e : Nat → ValM) (w : World) (hs : ∀ j, j < 4 → SetR w (v j) (s j)) : Calls Try.prog 27 #[.agg #[.bool (s 0).a, .slice (v 0).A (v 0).n (v 0).c, .bool (s 0).co, .slice (v 0).B (v 0).m (v 0).d, .bool (s 1).a, .slice (v 1).A (v 1).n (v 1).c, .bool (s 1).co, .slice (v 1).B (v 1).m (v 1).d, .bool (s 2).a, .slice (v 2).A (v 2).n (v 2).c, .bool (s 2).co, .slice (v 2).B (v 2).m (v 2).d, .bool (s 3).a, .slice (v 3).A (v 3).n (v 3).c, .bool (s 3).co, .slice (v 3).B (v 3).m (v 3).d], .agg #[.int .i64 (e 0).k, .int .i64 (e 0).n, .string (e 0).s, .int .i64 (e 1).k, .int .i64 (e 1).n, .string (e 1).s, .int .i64 (e 2).k, .int .i64 (e 2).n, .string (e 2).s, .int .i64 (e 3).k, .int .i64 (e 3).n, .string (e 3).s]] w fun e' w' => e' = .returned (.bool (boxHas s e)) ∧ Below w.heap.size w w' := by
  have HS := hide hs
  clear hs
  have hbh : boxHas s e = (evOk e && all4 fun j => hasM (s j) (e j)) := rfl
  have HBH := hide hbh
  clear hbh
  go_enter Try.func27, Try.ntmps27
  have w0a := bk_new0 w (.cells #[.bool (s 0).a, .slice (v 0).A (v 0).n (v 0).c, .bool (s 0).co, .slice (v 0).B (v 0).m (v 0).d, .bool (s 1).a, .slice (v 1).A (v 1).n (v 1).c, .bool (s 1).co, .slice (v 1).B (v 1).m (v 1).d, .bool (s 2).a, .slice (v 2).A (v 2).n (v 2).c, .bool (s 2).co, .slice (v 2).B (v 2).m (v 2).d, .bool (s 3).a, .slice (v 3).A (v 3).n (v 3).c, .bool (s 3).co, .slice (v 3).B (v 3).m (v 3).d] 28) (.cells #[.int .i64 (e 0).k, .int .i64 (e 0).n, .string (e 0).s, .int .i64 (e 1).k, .int .i64 (e 1).n, .string (e 1).s, .int .i64 (e 2).k, .int .i64 (e 2).n, .string (e 2).s, .int .i64 (e 3).k, .int .i64 (e 3).n, .string (e 3).s] 32)
  have w0b := bk_new1 w (.cells #[.bool (s 0).a, .slice (v 0).A (v 0).n (v 0).c, .bool (s 0).co, .slice (v 0).B (v 0).m (v 0).d, .bool (s 1).a, .slice (v 1).A (v 1).n (v 1).c, .bool (s 1).co, .slice (v 1).B (v 1).m (v 1).d, .bool (s 2).a, .slice (v 2).A (v 2).n (v 2).c, .bool (s 2).co, .slice (v 2).B (v 2).m (v 2).d, .bool (s 3).a, .slice (v 3).A (v 3).n (v 3).c, .bool (s 3).co, .slice (v 3).B (v 3).m (v 3).d] 28) (.cells #[.int .i64 (e 0).k, .int .i64 (e 0).n, .string (e 0).s, .int .i64 (e 1).k, .int .i64 (e 1).n, .string (e 1).s, .int .i64 (e 2).k, .int .i64 (e 2).n, .string (e 2).s, .int .i64 (e 3).k, .int .i64 (e 3).n, .string (e 3).s] 32)
  have W0 := hide (And.intro w0a w0b)
  clear w0a w0b
  go_wp2_with fail
  refine (event_any e _).mono ?_
  rintro e' w1 ⟨rfl, hb1⟩
  have B1 : Below w.heap.size w w1 := below_step (((Below.refl _ _).alloc (Nat.le_refl _) _).alloc (by simp) _) (by simp; omega) hb1
  have X1 := hide (bk_below W0.out.1 hb1)
  have E1 := hide (bk_below W0.out.2 hb1)
  clear hb1
  cases hev : evOk e with
  | false =>
    have HEV := hide hev
    clear hev
    go_wp2_with fail
    go_ret
    exact ⟨ret_bool (by rw [HBH.out, HEV.out]; rfl), B1⟩
  | true =>
    have HEV := hide hev
    clear hev
    go_wp2_with fail
    go_loopg [5] 4 (fun q i wr => ∃ j : Nat, i = .int .i64 j ∧ j ≤ 4 ∧ q + j = 4 ∧ Below w1.heap.size w1 wr ∧ ∀ t, t < j → hasM (s t) (e t) = true)
    case atStart => exact ⟨0, rfl, by omega, by omega, Below.refl _ _, fun t h => absurd h (by omega)⟩
    case round =>
      obtain ⟨j, rfl, hj, hq, hB, hok⟩ := hrel
      have HOK := hide hok
      have Bw := below_step B1 B1.size hB
      have X2 := hide (bk_below X1.out hB)
      have E2 := hide (bk_below E1.out hB)
      have hz := bk_lt E2.out
      have hz0 := hB.size
      clear hok
      by_cases hlt : j < 4
      · have hjj : j = 0 ∨ j = 1 ∨ j = 2 ∨ j = 3 := by omega
        rcases hjj with rfl | rfl | rfl | rfl
        · have HS0 := hide (sfb0 (s := s) (v := v) (e := e) X2.out E2.out)
          have SR : Hid (SetR wr.drew (v 0) (s 0)) := (HS.out 0 (by omega)).below Bw.drew
          go_wp2_with fail
          go_region_held3 (fun w' => w'.cell? ⟨w.heap.size, 0, none⟩ = some (.bool (s 0).a) ∧ w'.cell? ⟨w.heap.size, 1, none⟩ = some (.slice (v 0).A (v 0).n (v 0).c) ∧ w'.cell? ⟨w.heap.size, 2, none⟩ = some (.bool (s 0).co) ∧ w'.cell? ⟨w.heap.size, 3, none⟩ = some (.slice (v 0).B (v 0).m (v 0).d) ∧ w'.cell? ⟨w.heap.size + 1, 0, none⟩ = some (.int .i64 (e 0).k) ∧ w'.cell? ⟨w.heap.size + 1, 1, none⟩ = some (.int .i64 (e 0).n) ∧ w'.cell? ⟨w.heap.size + 1, 2, none⟩ = some (.string (e 0).s)) (first | exact HS0.out | exact S1) (first | (go_at_call 34; refine (refhas_any (s 0) (e 0) _ _ _ _ _ _ _ SR.out.i SR.out.t).mono ?_; rintro e' w3 ⟨rfl, hb3⟩; have S1 := sfb0 (s := s) (v := v) (e := e) (bk_below (bk_drew X2.out) hb3) (bk_below (bk_drew E2.out) hb3)))
          have B3 : Below w1.heap.size w1 w3 := below_step hB.drew (by simp; omega) hb3
          cases hh : hasM (s 0) (e 0) with
          | false =>
            have HH := hide (all4_no (fun j => hasM (s j) (e j)) 0 (by omega) hh)
            clear hh
            go_wp2_with fail
            go_ret
            exact ⟨ret_bool (by rw [HBH.out, HEV.out, HH.out]; rfl), below_step B1 B1.size B3⟩
          | true =>
            have HH := hide hh
            clear hh
            go_wp2_with fail
            go_roundg (4 - (0 + 1))
            case measure => omega
            case rel =>
              refine ⟨0 + 1, by go_num, by omega, by omega, B3, fun t ht => ?_⟩
              rcases Nat.lt_or_ge t 0 with h | h
              · exact HOK.out t h
              · have : t = 0 := by omega
                rw [this]; exact HH.out
        · have HS0 := hide (sfb1 (s := s) (v := v) (e := e) X2.out E2.out)
          have SR : Hid (SetR wr.drew (v 1) (s 1)) := (HS.out 1 (by omega)).below Bw.drew
          go_wp2_with fail
          go_region_held3 (fun w' => w'.cell? ⟨w.heap.size, 4, none⟩ = some (.bool (s 1).a) ∧ w'.cell? ⟨w.heap.size, 5, none⟩ = some (.slice (v 1).A (v 1).n (v 1).c) ∧ w'.cell? ⟨w.heap.size, 6, none⟩ = some (.bool (s 1).co) ∧ w'.cell? ⟨w.heap.size, 7, none⟩ = some (.slice (v 1).B (v 1).m (v 1).d) ∧ w'.cell? ⟨w.heap.size + 1, 3, none⟩ = some (.int .i64 (e 1).k) ∧ w'.cell? ⟨w.heap.size + 1, 4, none⟩ = some (.int .i64 (e 1).n) ∧ w'.cell? ⟨w.heap.size + 1, 5, none⟩ = some (.string (e 1).s)) (first | exact HS0.out | exact S1) (first | (go_at_call 34; refine (refhas_any (s 1) (e 1) _ _ _ _ _ _ _ SR.out.i SR.out.t).mono ?_; rintro e' w3 ⟨rfl, hb3⟩; have S1 := sfb1 (s := s) (v := v) (e := e) (bk_below (bk_drew X2.out) hb3) (bk_below (bk_drew E2.out) hb3)))
          have B3 : Below w1.heap.size w1 w3 := below_step hB.drew (by simp; omega) hb3
          cases hh : hasM (s 1) (e 1) with
          | false =>
            have HH := hide (all4_no (fun j => hasM (s j) (e j)) 1 (by omega) hh)
            clear hh
            go_wp2_with fail
            go_ret
            exact ⟨ret_bool (by rw [HBH.out, HEV.out, HH.out]; rfl), below_step B1 B1.size B3⟩
          | true =>
            have HH := hide hh
            clear hh
            go_wp2_with fail
            go_roundg (4 - (1 + 1))
            case measure => omega
            case rel =>
              refine ⟨1 + 1, by go_num, by omega, by omega, B3, fun t ht => ?_⟩
              rcases Nat.lt_or_ge t 1 with h | h
              · exact HOK.out t h
              · have : t = 1 := by omega
                rw [this]; exact HH.out
        · have HS0 := hide (sfb2 (s := s) (v := v) (e := e) X2.out E2.out)
          have SR : Hid (SetR wr.drew (v 2) (s 2)) := (HS.out 2 (by omega)).below Bw.drew
          go_wp2_with fail
          go_region_held3 (fun w' => w'.cell? ⟨w.heap.size, 8, none⟩ = some (.bool (s 2).a) ∧ w'.cell? ⟨w.heap.size, 9, none⟩ = some (.slice (v 2).A (v 2).n (v 2).c) ∧ w'.cell? ⟨w.heap.size, 10, none⟩ = some (.bool (s 2).co) ∧ w'.cell? ⟨w.heap.size, 11, none⟩ = some (.slice (v 2).B (v 2).m (v 2).d) ∧ w'.cell? ⟨w.heap.size + 1, 6, none⟩ = some (.int .i64 (e 2).k) ∧ w'.cell? ⟨w.heap.size + 1, 7, none⟩ = some (.int .i64 (e 2).n) ∧ w'.cell? ⟨w.heap.size + 1, 8, none⟩ = some (.string (e 2).s)) (first | exact HS0.out | exact S1) (first | (go_at_call 34; refine (refhas_any (s 2) (e 2) _ _ _ _ _ _ _ SR.out.i SR.out.t).mono ?_; rintro e' w3 ⟨rfl, hb3⟩; have S1 := sfb2 (s := s) (v := v) (e := e) (bk_below (bk_drew X2.out) hb3) (bk_below (bk_drew E2.out) hb3)))
          have B3 : Below w1.heap.size w1 w3 := below_step hB.drew (by simp; omega) hb3
          cases hh : hasM (s 2) (e 2) with
          | false =>
            have HH := hide (all4_no (fun j => hasM (s j) (e j)) 2 (by omega) hh)
            clear hh
            go_wp2_with fail
            go_ret
            exact ⟨ret_bool (by rw [HBH.out, HEV.out, HH.out]; rfl), below_step B1 B1.size B3⟩
          | true =>
            have HH := hide hh
            clear hh
            go_wp2_with fail
            go_roundg (4 - (2 + 1))
            case measure => omega
            case rel =>
              refine ⟨2 + 1, by go_num, by omega, by omega, B3, fun t ht => ?_⟩
              rcases Nat.lt_or_ge t 2 with h | h
              · exact HOK.out t h
              · have : t = 2 := by omega
                rw [this]; exact HH.out
        · have HS0 := hide (sfb3 (s := s) (v := v) (e := e) X2.out E2.out)
          have SR : Hid (SetR wr.drew (v 3) (s 3)) := (HS.out 3 (by omega)).below Bw.drew
          go_wp2_with fail
          go_region_held3 (fun w' => w'.cell? ⟨w.heap.size, 12, none⟩ = some (.bool (s 3).a) ∧ w'.cell? ⟨w.heap.size, 13, none⟩ = some (.slice (v 3).A (v 3).n (v 3).c) ∧ w'.cell? ⟨w.heap.size, 14, none⟩ = some (.bool (s 3).co) ∧ w'.cell? ⟨w.heap.size, 15, none⟩ = some (.slice (v 3).B (v 3).m (v 3).d) ∧ w'.cell? ⟨w.heap.size + 1, 9, none⟩ = some (.int .i64 (e 3).k) ∧ w'.cell? ⟨w.heap.size + 1, 10, none⟩ = some (.int .i64 (e 3).n) ∧ w'.cell? ⟨w.heap.size + 1, 11, none⟩ = some (.string (e 3).s)) (first | exact HS0.out | exact S1) (first | (go_at_call 34; refine (refhas_any (s 3) (e 3) _ _ _ _ _ _ _ SR.out.i SR.out.t).mono ?_; rintro e' w3 ⟨rfl, hb3⟩; have S1 := sfb3 (s := s) (v := v) (e := e) (bk_below (bk_drew X2.out) hb3) (bk_below (bk_drew E2.out) hb3)))
          have B3 : Below w1.heap.size w1 w3 := below_step hB.drew (by simp; omega) hb3
          cases hh : hasM (s 3) (e 3) with
          | false =>
            have HH := hide (all4_no (fun j => hasM (s j) (e j)) 3 (by omega) hh)
            clear hh
            go_wp2_with fail
            go_ret
            exact ⟨ret_bool (by rw [HBH.out, HEV.out, HH.out]; rfl), below_step B1 B1.size B3⟩
          | true =>
            have HH := hide hh
            clear hh
            go_wp2_with fail
            go_roundg (4 - (3 + 1))
            case measure => omega
            case rel =>
              refine ⟨3 + 1, by go_num, by omega, by omega, B3, fun t ht => ?_⟩
              rcases Nat.lt_or_ge t 3 with h | h
              · exact HOK.out t h
              · have : t = 3 := by omega
                rw [this]; exact HH.out
      · have hj4 : j = 4 := by omega
        subst hj4
        go_wp2_with fail
        go_ret
        exact ⟨ret_bool (by rw [HBH.out, HEV.out, (all4_iff fun j => hasM (s j) (e j)).2 HOK.out]; rfl), Bw⟩
end Go.Proofs.Ytfhokhhpfdmfiaa
