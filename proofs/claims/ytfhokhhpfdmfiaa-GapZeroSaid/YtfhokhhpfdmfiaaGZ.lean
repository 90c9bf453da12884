/- GapZero: the walk. -/
import Derived.Test.YtfhokhhpfdmfiaaGR
import Derived.Test.YtfhokhhpfdmfiaaG3
namespace Go.Proofs.Ytfhokhhpfdmfiaa
open Go.RowKit PGapZero
set_option linter.unusedVariables false

theorem bk_3a (w : World) (o1 o2 o3 : Obj) : (((w.alloc o1).alloc o2).alloc o3).heap[w.heap.size]? = some o1 := bk_alloc (bk_new0 w o1 o2) o3
theorem bk_3b (w : World) (o1 o2 o3 : Obj) : (((w.alloc o1).alloc o2).alloc o3).heap[w.heap.size + 1]? = some o2 := bk_alloc (bk_new1 w o1 o2) o3
theorem bk_3c (w : World) (o1 o2 o3 : Obj) : (((w.alloc o1).alloc o2).alloc o3).heap[w.heap.size + 2]? = some o3 := by
  have := bk_new ((w.alloc o1).alloc o2) o3
  rwa [show ((w.alloc o1).alloc o2).heap.size = w.heap.size + 2 by simp] at this
theorem sixteen {w : World} {g : Nat} {s : Nat → SetM} {v : Nat → SetV} (h : w.heap[g]? = some (.cells #[.bool (s 0).a, .slice (v 0).A (v 0).n (v 0).c, .bool (s 0).co, .slice (v 0).B (v 0).m (v 0).d, .bool (s 1).a, .slice (v 1).A (v 1).n (v 1).c, .bool (s 1).co, .slice (v 1).B (v 1).m (v 1).d, .bool (s 2).a, .slice (v 2).A (v 2).n (v 2).c, .bool (s 2).co, .slice (v 2).B (v 2).m (v 2).d, .bool (s 3).a, .slice (v 3).A (v 3).n (v 3).c, .bool (s 3).co, .slice (v 3).B (v 3).m (v 3).d] 28 (0, 0))) : w.cell? ⟨g, 0, none⟩ = some (.bool (s 0).a) ∧ w.cell? ⟨g, 1, none⟩ = some (.slice (v 0).A (v 0).n (v 0).c) ∧ w.cell? ⟨g, 2, none⟩ = some (.bool (s 0).co) ∧ w.cell? ⟨g, 3, none⟩ = some (.slice (v 0).B (v 0).m (v 0).d) ∧ w.cell? ⟨g, 4, none⟩ = some (.bool (s 1).a) ∧ w.cell? ⟨g, 5, none⟩ = some (.slice (v 1).A (v 1).n (v 1).c) ∧ w.cell? ⟨g, 6, none⟩ = some (.bool (s 1).co) ∧ w.cell? ⟨g, 7, none⟩ = some (.slice (v 1).B (v 1).m (v 1).d) ∧ w.cell? ⟨g, 8, none⟩ = some (.bool (s 2).a) ∧ w.cell? ⟨g, 9, none⟩ = some (.slice (v 2).A (v 2).n (v 2).c) ∧ w.cell? ⟨g, 10, none⟩ = some (.bool (s 2).co) ∧ w.cell? ⟨g, 11, none⟩ = some (.slice (v 2).B (v 2).m (v 2).d) ∧ w.cell? ⟨g, 12, none⟩ = some (.bool (s 3).a) ∧ w.cell? ⟨g, 13, none⟩ = some (.slice (v 3).A (v 3).n (v 3).c) ∧ w.cell? ⟨g, 14, none⟩ = some (.bool (s 3).co) ∧ w.cell? ⟨g, 15, none⟩ = some (.slice (v 3).B (v 3).m (v 3).d) := ⟨(bk_cell h 0).trans rfl, (bk_cell h 1).trans rfl, (bk_cell h 2).trans rfl, (bk_cell h 3).trans rfl, (bk_cell h 4).trans rfl, (bk_cell h 5).trans rfl, (bk_cell h 6).trans rfl, (bk_cell h 7).trans rfl, (bk_cell h 8).trans rfl, (bk_cell h 9).trans rfl, (bk_cell h 10).trans rfl, (bk_cell h 11).trans rfl, (bk_cell h 12).trans rfl, (bk_cell h 13).trans rfl, (bk_cell h 14).trans rfl, (bk_cell h 15).trans rfl⟩
/-- Two boxes, just made a slice of. -/
theorem filter2 {w : World} {g : Nat} {s : Nat → SetM} {v : Nat → SetV} {t : Nat → SetM} {u : Nat → SetV} (h : w.heap[g]? = some (.cells #[.bool (s 0).a, .slice (v 0).A (v 0).n (v 0).c, .bool (s 0).co, .slice (v 0).B (v 0).m (v 0).d, .bool (s 1).a, .slice (v 1).A (v 1).n (v 1).c, .bool (s 1).co, .slice (v 1).B (v 1).m (v 1).d, .bool (s 2).a, .slice (v 2).A (v 2).n (v 2).c, .bool (s 2).co, .slice (v 2).B (v 2).m (v 2).d, .bool (s 3).a, .slice (v 3).A (v 3).n (v 3).c, .bool (s 3).co, .slice (v 3).B (v 3).m (v 3).d, .bool (t 0).a, .slice (u 0).A (u 0).n (u 0).c, .bool (t 0).co, .slice (u 0).B (u 0).m (u 0).d, .bool (t 1).a, .slice (u 1).A (u 1).n (u 1).c, .bool (t 1).co, .slice (u 1).B (u 1).m (u 1).d, .bool (t 2).a, .slice (u 2).A (u 2).n (u 2).c, .bool (t 2).co, .slice (u 2).B (u 2).m (u 2).d, .bool (t 3).a, .slice (u 3).A (u 3).n (u 3).c, .bool (t 3).co, .slice (u 3).B (u 3).m (u 3).d] 28 (0, 0))) (hs : ∀ j, j < 4 → SetR w (v j) (s j)) (ht : ∀ j, j < 4 → SetR w (u j) (t j)) : FilterR w (some ⟨g, 0, none⟩) 2 [s, t] := by
  refine ⟨rfl, by omega, fun _ => ⟨g, 0, rfl, bk_lt h, fun i r hi => ?_⟩⟩
  match i, hi with
  | 0, hi =>
    obtain rfl := Option.some.inj hi
    refine ⟨v, boxC_of fun k p hk => ?_, hs⟩
    rw [bk_cell h]
    have hl : k < 16 := (List.getElem?_eq_some_iff.1 hk).1
    rw [show 0 + 0 * 16 + k = k by omega, List.getElem?_toArray, show ([.bool (s 0).a, .slice (v 0).A (v 0).n (v 0).c, .bool (s 0).co, .slice (v 0).B (v 0).m (v 0).d, .bool (s 1).a, .slice (v 1).A (v 1).n (v 1).c, .bool (s 1).co, .slice (v 1).B (v 1).m (v 1).d, .bool (s 2).a, .slice (v 2).A (v 2).n (v 2).c, .bool (s 2).co, .slice (v 2).B (v 2).m (v 2).d, .bool (s 3).a, .slice (v 3).A (v 3).n (v 3).c, .bool (s 3).co, .slice (v 3).B (v 3).m (v 3).d, .bool (t 0).a, .slice (u 0).A (u 0).n (u 0).c, .bool (t 0).co, .slice (u 0).B (u 0).m (u 0).d, .bool (t 1).a, .slice (u 1).A (u 1).n (u 1).c, .bool (t 1).co, .slice (u 1).B (u 1).m (u 1).d, .bool (t 2).a, .slice (u 2).A (u 2).n (u 2).c, .bool (t 2).co, .slice (u 2).B (u 2).m (u 2).d, .bool (t 3).a, .slice (u 3).A (u 3).n (u 3).c, .bool (t 3).co, .slice (u 3).B (u 3).m (u 3).d] : List Value) = boxVals s v ++ boxVals t u from rfl, List.getElem?_append_left (show k < (boxVals s v).length from hl)]
    exact hk
  | 1, hi =>
    obtain rfl := Option.some.inj hi
    refine ⟨u, boxC_of fun k p hk => ?_, ht⟩
    rw [bk_cell h]
    rw [show 0 + 1 * 16 + k = k + 16 by omega, List.getElem?_toArray, show ([.bool (s 0).a, .slice (v 0).A (v 0).n (v 0).c, .bool (s 0).co, .slice (v 0).B (v 0).m (v 0).d, .bool (s 1).a, .slice (v 1).A (v 1).n (v 1).c, .bool (s 1).co, .slice (v 1).B (v 1).m (v 1).d, .bool (s 2).a, .slice (v 2).A (v 2).n (v 2).c, .bool (s 2).co, .slice (v 2).B (v 2).m (v 2).d, .bool (s 3).a, .slice (v 3).A (v 3).n (v 3).c, .bool (s 3).co, .slice (v 3).B (v 3).m (v 3).d, .bool (t 0).a, .slice (u 0).A (u 0).n (u 0).c, .bool (t 0).co, .slice (u 0).B (u 0).m (u 0).d, .bool (t 1).a, .slice (u 1).A (u 1).n (u 1).c, .bool (t 1).co, .slice (u 1).B (u 1).m (u 1).d, .bool (t 2).a, .slice (u 2).A (u 2).n (u 2).c, .bool (t 2).co, .slice (u 2).B (u 2).m (u 2).d, .bool (t 3).a, .slice (u 3).A (u 3).n (u 3).c, .bool (t 3).co, .slice (u 3).B (u 3).m (u 3).d] : List Value) = boxVals s v ++ boxVals t u from rfl, List.getElem?_append_right (show (boxVals s v).length ≤ k + 16 by show 16 ≤ k + 16; omega), show k + 16 - (boxVals s v).length = k by show k + 16 - 16 = k; omega]
    exact hk
theorem num_of {w : World} {v : SetV} {s : SetM} (h : SetR w v s) : NumM s := by
  intro r hr
  obtain ⟨i, hi⟩ := List.mem_iff_getElem?.1 hr
  have hl := (List.getElem?_eq_some_iff.1 hi).1
  obtain ⟨b, off, -, -, hc⟩ := h.i.2.2 (by have := h.i.1; omega)
  obtain ⟨-, -, a, b⟩ := hc i r hi
  exact ⟨a, b⟩

set_option maxHeartbeats 8000000 in
set_option maxRecDepth 100000 in
theorem zero_near (A : Option Addr) (n c : Nat) (fs : List (Nat → SetM)) (s : Nat → SetM) (v : Nat → SetV) (t : Nat → SetM) (u : Nat → SetV) (e : Nat → ValM) (w : World) (hf : FilterR w A n fs) (hs : ∀ j, j < 4 → SetR w (v j) (s j)) (ht : ∀ j, j < 4 → SetR w (u j) (t j)) (hi : ∀ j, j < 4 → I64 (e j).n) :
    Calls Try.prog 3 #[.slice A n c, .agg #[.bool (s 0).a, .slice (v 0).A (v 0).n (v 0).c, .bool (s 0).co, .slice (v 0).B (v 0).m (v 0).d, .bool (s 1).a, .slice (v 1).A (v 1).n (v 1).c, .bool (s 1).co, .slice (v 1).B (v 1).m (v 1).d, .bool (s 2).a, .slice (v 2).A (v 2).n (v 2).c, .bool (s 2).co, .slice (v 2).B (v 2).m (v 2).d, .bool (s 3).a, .slice (v 3).A (v 3).n (v 3).c, .bool (s 3).co, .slice (v 3).B (v 3).m (v 3).d], .agg #[.bool (t 0).a, .slice (u 0).A (u 0).n (u 0).c, .bool (t 0).co, .slice (u 0).B (u 0).m (u 0).d, .bool (t 1).a, .slice (u 1).A (u 1).n (u 1).c, .bool (t 1).co, .slice (u 1).B (u 1).m (u 1).d, .bool (t 2).a, .slice (u 2).A (u 2).n (u 2).c, .bool (t 2).co, .slice (u 2).B (u 2).m (u 2).d, .bool (t 3).a, .slice (u 3).A (u 3).n (u 3).c, .bool (t 3).co, .slice (u 3).B (u 3).m (u 3).d], .agg #[.int .i64 (e 0).k, .int .i64 (e 0).n, .string (e 0).s, .int .i64 (e 1).k, .int .i64 (e 1).n, .string (e 1).s, .int .i64 (e 2).k, .int .i64 (e 2).n, .string (e 2).s, .int .i64 (e 3).k, .int .i64 (e 3).n, .string (e 3).s]] w fun e' w' => e' = .returned (.bool true) ∧ Below w.heap.size w w' := by
  have HF := hide hf
  have HS := hide hs
  have HT := hide ht
  have HI := hide hi
  clear hf hs ht hi
  go_enter Try.func3, Try.ntmps3
  go_wp2_with fail
  refine (awake_any _).mono ?_
  rintro e' w1 ⟨rfl, hb1⟩
  have B1 : Below w.heap.size w w1 := below_step ((((Below.refl _ _).alloc (Nat.le_refl _) _).alloc (by simp) _).alloc (by simp; omega) _) (by simp; omega) hb1
  have X1 := hide (bk_below (bk_3a w _ _ _) hb1)
  have Y1 := hide (bk_below (bk_3b w _ _ _) hb1)
  have E1 := hide (bk_below (bk_3c w _ _ _) hb1)
  clear hb1
  go_wp2_with fail
  refine (few06_len A n c fs _ (HF.out.below B1)).mono ?_
  rintro e' w2 ⟨⟨r, rfl, hr⟩, hb2⟩
  have B2 := below_step B1 B1.size hb2
  have X2 := hide (bk_below X1.out hb2)
  have Y2 := hide (bk_below Y1.out hb2)
  have E2 := hide (bk_below E1.out hb2)
  clear X1 Y1 E1 hb2 B1
  cases r
  · clear hr
    go_wp2_with fail
    refine (awake_any _).mono ?_
    rintro e' w9 ⟨rfl, hb9⟩
    go_wp2_with fail
    go_ret
    exact ⟨rfl, below_step B2 B2.size hb9⟩
  obtain ⟨hn, hsh⟩ := hr (by first | trivial | rfl)
  have HSH := hide hsh
  clear hr hsh
  go_wp2_with fail
  refine (right06_any A n c fs _ (HF.out.below B2) hn HSH.out).mono ?_
  rintro e' w3 ⟨⟨r, rfl⟩, hb3⟩
  have B3 := below_step B2 B2.size hb3
  have X3 := hide (bk_below X2.out hb3)
  have Y3 := hide (bk_below Y2.out hb3)
  have E3 := hide (bk_below E2.out hb3)
  clear X2 Y2 E2 hb3 B2
  cases r
  · skip
    go_wp2_with fail
    refine (awake_any _).mono ?_
    rintro e' w9 ⟨rfl, hb9⟩
    go_wp2_with fail
    go_ret
    exact ⟨rfl, below_step B3 B3.size hb9⟩
  have hz3 := bk_lt E3.out
  obtain ⟨x0, x1, x2, x3, x4, x5, x6, x7, x8, x9, x10, x11, x12, x13, x14, x15⟩ := sixteen X3.out
  obtain ⟨y0, y1, y2, y3, y4, y5, y6, y7, y8, y9, y10, y11, y12, y13, y14, y15⟩ := sixteen Y3.out
  go_wp2_with fail
  refine (few04_len _ _ _ [s, t] _ (filter2 (bk_new _ _) (fun j hj => ((HS.out j hj).below B3).below ((Below.refl _ _).alloc (Nat.le_refl _) _)) (fun j hj => ((HT.out j hj).below B3).below ((Below.refl _ _).alloc (Nat.le_refl _) _)))).mono ?_
  rintro e' w4 ⟨⟨r, rfl, hr⟩, hb4⟩
  have B4 := below_step (B3.alloc B3.size _) (by simp; omega) hb4
  have X4 := hide (bk_below (bk_alloc X3.out _) hb4)
  have Y4 := hide (bk_below (bk_alloc Y3.out _) hb4)
  have E4 := hide (bk_below (bk_alloc E3.out _) hb4)
  have HR := hide hr
  clear X3 Y3 E3 hb4 B3 hr x0 x1 x2 x3 x4 x5 x6 x7 x8 x9 x10 x11 x12 x13 x14 x15 y0 y1 y2 y3 y4 y5 y6 y7 y8 y9 y10 y11 y12 y13 y14 y15
  cases r
  · skip
    go_wp2_with fail
    refine (awake_any _).mono ?_
    rintro e' w9 ⟨rfl, hb9⟩
    go_wp2_with fail
    go_ret
    exact ⟨rfl, below_step B4 B4.size hb9⟩
  have SS : Hid (∀ j, j < 4 → ShortM (s j)) := hide (fun j hj => HR.out (by first | trivial | rfl) s List.mem_cons_self j hj)
  have ST : Hid (∀ j, j < 4 → ShortM (t j)) := hide (fun j hj => HR.out (by first | trivial | rfl) t (List.mem_cons_of_mem _ List.mem_cons_self) j hj)
  clear HR
  obtain ⟨x0, x1, x2, x3, x4, x5, x6, x7, x8, x9, x10, x11, x12, x13, x14, x15⟩ := sixteen X4.out
  go_wp2_with fail
  refine (right04_any s v _ (fun j hj => (HS.out j hj).below B4)).mono ?_
  rintro e' w5 ⟨⟨r, rfl⟩, hb5⟩
  have B5 := below_step B4 B4.size hb5
  have X5 := hide (bk_below X4.out hb5)
  have Y5 := hide (bk_below Y4.out hb5)
  have E5 := hide (bk_below E4.out hb5)
  clear X4 Y4 E4 hb5 B4 x0 x1 x2 x3 x4 x5 x6 x7 x8 x9 x10 x11 x12 x13 x14 x15
  cases r
  · skip
    go_wp2_with fail
    refine (awake_any _).mono ?_
    rintro e' w9 ⟨rfl, hb9⟩
    go_wp2_with fail
    go_ret
    exact ⟨rfl, below_step B5 B5.size hb9⟩
  obtain ⟨y0, y1, y2, y3, y4, y5, y6, y7, y8, y9, y10, y11, y12, y13, y14, y15⟩ := sixteen Y5.out
  go_wp2_with fail
  refine (right04_is t u _ (fun j hj => (HT.out j hj).below B5)).mono ?_
  rintro e' w6 ⟨⟨r, rfl, hr⟩, hb6⟩
  have B6 := below_step B5 B5.size hb6
  have X6 := hide (bk_below X5.out hb6)
  have Y6 := hide (bk_below Y5.out hb6)
  have E6 := hide (bk_below E5.out hb6)
  have HR := hide hr
  clear X5 Y5 E5 hb6 B5 hr y0 y1 y2 y3 y4 y5 y6 y7 y8 y9 y10 y11 y12 y13 y14 y15
  cases r
  · skip
    go_wp2_with fail
    refine (awake_any _).mono ?_
    rintro e' w9 ⟨rfl, hb9⟩
    go_wp2_with fail
    go_ret
    exact ⟨rfl, below_step B6 B6.size hb9⟩
  have RT : Hid (∀ j, j < 4 → RightM (t j)) := hide (HR.out (by first | trivial | rfl))
  clear HR
  have HLD : Hid (∀ w', Below w6.heap.size w6 w' → (Instr.loadAt 28 (.pointer (some ⟨w.heap.size, 0, none⟩))).run Try.prog w' = .ok (.agg #[.bool (s 0).a, .slice (v 0).A (v 0).n (v 0).c, .bool (s 0).co, .slice (v 0).B (v 0).m (v 0).d, .bool (s 1).a, .slice (v 1).A (v 1).n (v 1).c, .bool (s 1).co, .slice (v 1).B (v 1).m (v 1).d, .bool (s 2).a, .slice (v 2).A (v 2).n (v 2).c, .bool (s 2).co, .slice (v 2).B (v 2).m (v 2).d, .bool (s 3).a, .slice (v 3).A (v 3).n (v 3).c, .bool (s 3).co, .slice (v 3).B (v 3).m (v 3).d]) w' ∧ (Instr.loadAt 28 (.pointer (some ⟨w.heap.size + 1, 0, none⟩))).run Try.prog w' = .ok (.agg #[.bool (t 0).a, .slice (u 0).A (u 0).n (u 0).c, .bool (t 0).co, .slice (u 0).B (u 0).m (u 0).d, .bool (t 1).a, .slice (u 1).A (u 1).n (u 1).c, .bool (t 1).co, .slice (u 1).B (u 1).m (u 1).d, .bool (t 2).a, .slice (u 2).A (u 2).n (u 2).c, .bool (t 2).co, .slice (u 2).B (u 2).m (u 2).d, .bool (t 3).a, .slice (u 3).A (u 3).n (u 3).c, .bool (t 3).co, .slice (u 3).B (u 3).m (u 3).d]) w' ∧ (Instr.loadAt 32 (.pointer (some ⟨w.heap.size + 2, 0, none⟩))).run Try.prog w' = .ok (.agg #[.int .i64 (e 0).k, .int .i64 (e 0).n, .string (e 0).s, .int .i64 (e 1).k, .int .i64 (e 1).n, .string (e 1).s, .int .i64 (e 2).k, .int .i64 (e 2).n, .string (e 2).s, .int .i64 (e 3).k, .int .i64 (e 3).n, .string (e 3).s]) w') := hide (fun w' hb => ⟨load_box (bk_below X6.out hb), load_box (bk_below Y6.out hb), load_event (bk_below E6.out hb)⟩)
  have C12 : Hid (∀ w', Below w6.heap.size w6 w' → Calls Try.prog 12 #[.agg #[.int .i64 (e 0).k, .int .i64 (e 0).n, .string (e 0).s, .int .i64 (e 1).k, .int .i64 (e 1).n, .string (e 1).s, .int .i64 (e 2).k, .int .i64 (e 2).n, .string (e 2).s, .int .i64 (e 3).k, .int .i64 (e 3).n, .string (e 3).s]] w' fun e' w7 => e' = .returned (.bool (evOk e)) ∧ Below w'.heap.size w' w7) := hide (fun w' hb => event_any e w')
  have ZZ : Hid (evOk e = true → (((filterM fs e : Nat) : Int) == 0) = filterHas fs e) := hide (fun h => by
    have hz := filter_zero fs e h
    rw [Bool.eq_iff_iff, beq_iff_eq, ← hz]
    omega)
  have C15 : Hid (∀ w', Below w6.heap.size w6 w' → Calls Try.prog 15 #[.agg #[.bool (s 0).a, .slice (v 0).A (v 0).n (v 0).c, .bool (s 0).co, .slice (v 0).B (v 0).m (v 0).d, .bool (s 1).a, .slice (v 1).A (v 1).n (v 1).c, .bool (s 1).co, .slice (v 1).B (v 1).m (v 1).d, .bool (s 2).a, .slice (v 2).A (v 2).n (v 2).c, .bool (s 2).co, .slice (v 2).B (v 2).m (v 2).d, .bool (s 3).a, .slice (v 3).A (v 3).n (v 3).c, .bool (s 3).co, .slice (v 3).B (v 3).m (v 3).d], .agg #[.bool (t 0).a, .slice (u 0).A (u 0).n (u 0).c, .bool (t 0).co, .slice (u 0).B (u 0).m (u 0).d, .bool (t 1).a, .slice (u 1).A (u 1).n (u 1).c, .bool (t 1).co, .slice (u 1).B (u 1).m (u 1).d, .bool (t 2).a, .slice (u 2).A (u 2).n (u 2).c, .bool (t 2).co, .slice (u 2).B (u 2).m (u 2).d, .bool (t 3).a, .slice (u 3).A (u 3).n (u 3).c, .bool (t 3).co, .slice (u 3).B (u 3).m (u 3).d]] w' fun e' w7 => e' = .returned (.bool (boxInB s t)) ∧ Below w'.heap.size w' w7) := hide (fun w' hb => by
    have hbb := below_step B6 B6.size hb
    exact in04_any s v t u w' (fun j hj => (HS.out j hj).below hbb) (fun j hj => (HT.out j hj).below hbb) SS.out ST.out)
  have ZI : Hid (boxInB s t = true → boxGap t e ≤ boxGap s e) := hide (fun h => box_mono (boxInB_says SS.out ST.out h) (fun j hj => num_of (HS.out j hj)) RT.out e)
  generalize evOk e = ok at C12 ZZ
  generalize boxInB s t = r5 at C15 ZI
  cases ok
  · go_upto_region 3 with fail
    refine reg3_3_off A n c w.heap.size (w.heap.size + 1) (w.heap.size + 2) _ _ _ w6 _ HLD.out C12.out _ _ _ _ _ _ _ _ _ _ _ _ _ _ _ _ _ _ _ _ _ _ _ _ _ _ _ _ _ _ _ _ _ _ _ _ _ _ _ _ _ _ _ _ _ _ _ _ _ _ _ _ _ _ _ _ _ _ _ _ ?_
    intro _ _ _ _ _ _ _ _ _ _ _ w7 hb7
    cases r5
    · go_upto_region 5 with fail
      refine reg3_5_off A n c w.heap.size (w.heap.size + 1) (w.heap.size + 2) _ _ _ w7 _ (fun w' hb => HLD.out w' (below_step hb7 hb7.size hb)) (fun w' hb => C15.out w' (below_step hb7 hb7.size hb)) _ _ _ _ _ _ _ _ _ _ _ _ _ _ _ _ _ _ _ _ _ _ _ _ _ _ _ _ _ _ _ _ _ _ _ _ _ _ _ _ _ _ _ _ _ _ _ _ _ _ _ _ _ _ _ _ _ _ _ _ ?_
      intro _ _ _ _ _ _ _ _ _ _ _ _ _ w8 hb8
      go_wp2_with fail
      go_ret
      exact ⟨rfl, below_step B6 B6.size (below_step hb7 hb7.size hb8)⟩
    · have HLE := hide (ZI.out rfl)
      go_upto_region 5 with fail
      refine reg3_5_on A n c w.heap.size (w.heap.size + 1) (w.heap.size + 2) _ _ _ w7 _ (fun w' hb => HLD.out w' (below_step hb7 hb7.size hb)) (boxGap s e) (boxGap t e) HLE.out (fun w' hb => C15.out w' (below_step hb7 hb7.size hb)) (fun w' hb => box_any s v e w' (fun j hj => (HS.out j hj).below (below_step B6 B6.size (below_step hb7 hb7.size hb))) HI.out) (fun w' hb => box_any t u e w' (fun j hj => (HT.out j hj).below (below_step B6 B6.size (below_step hb7 hb7.size hb))) HI.out) _ _ _ _ _ _ _ _ _ _ _ _ _ _ _ _ _ _ _ _ _ _ _ _ _ _ _ _ _ _ _ _ _ _ _ _ _ _ _ _ _ _ _ _ _ _ _ _ _ _ _ _ _ _ _ _ _ _ _ _ ?_
      intro _ _ _ _ _ _ _ _ _ _ _ _ _ w8 hb8
      go_wp2_with fail
      go_ret
      exact ⟨rfl, below_step B6 B6.size (below_step hb7 hb7.size hb8)⟩
  · have HZ := hide (ZZ.out rfl)
    go_upto_region 3 with fail
    refine reg3_3_on A n c w.heap.size (w.heap.size + 1) (w.heap.size + 2) _ _ _ w6 _ HLD.out (filterM fs e) (filterHas fs e) HZ.out C12.out (fun w' hb => filter_any A n c fs e w' ((HF.out.below B6).below hb) HI.out) (fun w' hb => filterhas_any A n c fs e w' ((HF.out.below B6).below hb)) _ _ _ _ _ _ _ _ _ _ _ _ _ _ _ _ _ _ _ _ _ _ _ _ _ _ _ _ _ _ _ _ _ _ _ _ _ _ _ _ _ _ _ _ _ _ _ _ _ _ _ _ _ _ _ _ _ _ _ _ ?_
    intro _ _ _ _ _ _ _ _ _ _ _ w7 hb7
    cases r5
    · go_upto_region 5 with fail
      refine reg3_5_off A n c w.heap.size (w.heap.size + 1) (w.heap.size + 2) _ _ _ w7 _ (fun w' hb => HLD.out w' (below_step hb7 hb7.size hb)) (fun w' hb => C15.out w' (below_step hb7 hb7.size hb)) _ _ _ _ _ _ _ _ _ _ _ _ _ _ _ _ _ _ _ _ _ _ _ _ _ _ _ _ _ _ _ _ _ _ _ _ _ _ _ _ _ _ _ _ _ _ _ _ _ _ _ _ _ _ _ _ _ _ _ _ ?_
      intro _ _ _ _ _ _ _ _ _ _ _ _ _ w8 hb8
      go_wp2_with fail
      go_ret
      exact ⟨rfl, below_step B6 B6.size (below_step hb7 hb7.size hb8)⟩
    · have HLE := hide (ZI.out rfl)
      go_upto_region 5 with fail
      refine reg3_5_on A n c w.heap.size (w.heap.size + 1) (w.heap.size + 2) _ _ _ w7 _ (fun w' hb => HLD.out w' (below_step hb7 hb7.size hb)) (boxGap s e) (boxGap t e) HLE.out (fun w' hb => C15.out w' (below_step hb7 hb7.size hb)) (fun w' hb => box_any s v e w' (fun j hj => (HS.out j hj).below (below_step B6 B6.size (below_step hb7 hb7.size hb))) HI.out) (fun w' hb => box_any t u e w' (fun j hj => (HT.out j hj).below (below_step B6 B6.size (below_step hb7 hb7.size hb))) HI.out) _ _ _ _ _ _ _ _ _ _ _ _ _ _ _ _ _ _ _ _ _ _ _ _ _ _ _ _ _ _ _ _ _ _ _ _ _ _ _ _ _ _ _ _ _ _ _ _ _ _ _ _ _ _ _ _ _ _ _ _ ?_
      intro _ _ _ _ _ _ _ _ _ _ _ _ _ w8 hb8
      go_wp2_with fail
      go_ret
      exact ⟨rfl, below_step B6 B6.size (below_step hb7 hb7.size hb8)⟩
end Go.Proofs.Ytfhokhhpfdmfiaa
namespace Go.Proofs.Ytfhokhhpfdmfiaa
open Go.ChangeShapes Go.WideShapes Go.RowKit
theorem zero_walk {H : Type} {enc : TypeId × Value → H} {base : Nat} {spare : Nat → Bool} {held : Bool} {b0 b1 b2 b3 : Nat} {r0 r1 r2 r3 : Reach} {W : World} (u0 : Value) (d0 : DataW H) (p0 : List MemPlace) (h0 : DataW.Trod enc Try.prog W base spare held 22 u0 d0 p0) (hv0 : Value.okWide Try.prog W r0 b0 22 u0)
    (u1 : Value) (d1 : DataW H) (p1 : List MemPlace) (h1 : DataW.Trod enc Try.prog W base spare held 28 u1 d1 p1) (hv1 : Value.okWide Try.prog W r1 b1 28 u1) (u2 : Value) (d2 : DataW H) (p2 : List MemPlace) (h2 : DataW.Trod enc Try.prog W base spare held 28 u2 d2 p2) (hv2 : Value.okWide Try.prog W r2 b2 28 u2)
    (u3 : Value) (d3 : DataW H) (p3 : List MemPlace) (h3 : DataW.Trod enc Try.prog W base spare held 32 u3 d3 p3) (hv3 : Value.okWide Try.prog W r3 b3 32 u3) :
    Calls Try.prog 3 #[u0, u1, u2, u3] W fun e W' => e = .returned (.bool true) ∧ Below W.heap.size W W' := by
  obtain ⟨A, n, c, fs, rfl, hf⟩ := filter_arg hv0 h0
  obtain ⟨s, v, rfl, hs⟩ := box_arg hv1 h1
  obtain ⟨t, u, rfl, ht⟩ := box_arg hv2 h2
  obtain ⟨e, rfl, hi⟩ := event_arg hv3 h3
  exact zero_near A n c fs s v t u e W hf hs ht hi
end Go.Proofs.Ytfhokhhpfdmfiaa
