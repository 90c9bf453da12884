/- value.Event and the reference's Event; printed by gen_ev05.py. -/
import Derived.Test.YtjkhajcngapjcaaEH
import Derived.Outline
namespace Go.Proofs.Ytjkhajcngapjcaa.Q
open Go.RowKit Go.Proofs.YtjkhajcngapjcaaW.PrintWords Go.Proofs.YtjkhajcngapjcaaW.PrintLast Go.Proofs.YtjkhajcngapjcaaW.PrintMore
set_option linter.unusedVariables false
set_option linter.unusedSimpArgs false

theorem ecells {w : World} {b : Nat} {e : Nat → V3} (h : w.heap[b]? = some (.cells #[.int .i64 (e 0).k, .int .i64 (e 0).n, .string (e 0).t, .int .i64 (e 1).k, .int .i64 (e 1).n, .string (e 1).t, .int .i64 (e 2).k, .int .i64 (e 2).n, .string (e 2).t, .int .i64 (e 3).k, .int .i64 (e 3).n, .string (e 3).t] 32 (0, 0))) :
    w.cell? ⟨b, 0, none⟩ = some (.int .i64 (e 0).k) ∧ w.cell? ⟨b, 1, none⟩ = some (.int .i64 (e 0).n) ∧ w.cell? ⟨b, 2, none⟩ = some (.string (e 0).t) ∧ w.cell? ⟨b, 3, none⟩ = some (.int .i64 (e 1).k) ∧ w.cell? ⟨b, 4, none⟩ = some (.int .i64 (e 1).n) ∧ w.cell? ⟨b, 5, none⟩ = some (.string (e 1).t) ∧ w.cell? ⟨b, 6, none⟩ = some (.int .i64 (e 2).k) ∧ w.cell? ⟨b, 7, none⟩ = some (.int .i64 (e 2).n) ∧ w.cell? ⟨b, 8, none⟩ = some (.string (e 2).t) ∧ w.cell? ⟨b, 9, none⟩ = some (.int .i64 (e 3).k) ∧ w.cell? ⟨b, 10, none⟩ = some (.int .i64 (e 3).n) ∧ w.cell? ⟨b, 11, none⟩ = some (.string (e 3).t) :=
  ⟨(blk_cell h 0).trans rfl, (blk_cell h 1).trans rfl, (blk_cell h 2).trans rfl, (blk_cell h 3).trans rfl, (blk_cell h 4).trans rfl, (blk_cell h 5).trans rfl, (blk_cell h 6).trans rfl, (blk_cell h 7).trans rfl, (blk_cell h 8).trans rfl, (blk_cell h 9).trans rfl, (blk_cell h 10).trans rfl, (blk_cell h 11).trans rfl⟩
theorem index32_0 (x0 x1 x2 x3 x4 x5 x6 x7 x8 x9 x10 x11 : Value) (w : World) : (Instr.index 32 (.agg #[x0, x1, x2, x3, x4, x5, x6, x7, x8, x9, x10, x11]) (.int .i64 0)).run Try.prog w = .ok (.agg #[x0, x1, x2]) w := by kernel_rfl
theorem index32_1 (x0 x1 x2 x3 x4 x5 x6 x7 x8 x9 x10 x11 : Value) (w : World) : (Instr.index 32 (.agg #[x0, x1, x2, x3, x4, x5, x6, x7, x8, x9, x10, x11]) (.int .i64 1)).run Try.prog w = .ok (.agg #[x3, x4, x5]) w := by kernel_rfl
theorem index32_2 (x0 x1 x2 x3 x4 x5 x6 x7 x8 x9 x10 x11 : Value) (w : World) : (Instr.index 32 (.agg #[x0, x1, x2, x3, x4, x5, x6, x7, x8, x9, x10, x11]) (.int .i64 2)).run Try.prog w = .ok (.agg #[x6, x7, x8]) w := by kernel_rfl
theorem index32_3 (x0 x1 x2 x3 x4 x5 x6 x7 x8 x9 x10 x11 : Value) (w : World) : (Instr.index 32 (.agg #[x0, x1, x2, x3, x4, x5, x6, x7, x8, x9, x10, x11]) (.int .i64 3)).run Try.prog w = .ok (.agg #[x9, x10, x11]) w := by kernel_rfl
attribute [local go_sem] index32_0 index32_1 index32_2 index32_3
set_option maxHeartbeats 4000000 in
set_option maxRecDepth 100000 in
theorem event_any (e : Nat → V3) (w : World) : Calls Try.prog 32 #[.agg #[.int .i64 (e 0).k, .int .i64 (e 0).n, .string (e 0).t, .int .i64 (e 1).k, .int .i64 (e 1).n, .string (e 1).t, .int .i64 (e 2).k, .int .i64 (e 2).n, .string (e 2).t, .int .i64 (e 3).k, .int .i64 (e 3).n, .string (e 3).t]] w fun e' w' => e' = .returned (.bool (evOk e)) ∧ Below w.heap.size w w' := by
  go_enter Try.func32, Try.ntmps32
  go_wp2_with fail
  go_loopg [6] 4 (fun q i wr => ∃ j : Nat, i = .int .i64 j ∧ j ≤ 4 ∧ q + j = 4 ∧ Aside0 (Below w.heap.size w wr) ∧ Aside0 (wr.heap[w.heap.size]? = some (.cells #[.int .i64 (e 0).k, .int .i64 (e 0).n, .string (e 0).t, .int .i64 (e 1).k, .int .i64 (e 1).n, .string (e 1).t, .int .i64 (e 2).k, .int .i64 (e 2).n, .string (e 2).t, .int .i64 (e 3).k, .int .i64 (e 3).n, .string (e 3).t] 32 (0, 0))) ∧ Aside0 (∀ t, t < j → vOk (e t) = true))
  case atStart => exact ⟨0, rfl, by omega, by omega, ⟨below_alloc (Below.refl _ _) _⟩, ⟨heap_alloc_new _ _⟩, ⟨fun t h => absurd h (by omega)⟩⟩
  case round =>
    obtain ⟨j, rfl, hj, hq, HB, HX, HOK⟩ := hrel
    have hz := blk_lt HX.out
    have hz0 := HB.out.size
    by_cases hlt : j < 4
    · obtain ⟨g0, g1, g2, g3, g4, g5, g6, g7, g8, g9, g10, g11⟩ := ecells HX.out
      have hjj : j = 0 ∨ j = 1 ∨ j = 2 ∨ j = 3 := by omega
      rcases hjj with rfl | rfl | rfl | rfl
      · go_wp2_with fail
        refine (value_Right.calls _ _ _ _ _ (val_f (e 0))).mono ?_
        rintro e' w3 ⟨rfl, hb3⟩
        have B3 := Aside0.mk (below_step HB.out (below_step (below_alloc (Below.refl _ _) _) hb3))
        have X3 := Aside0.mk (blk_below HX.out (below_step (below_alloc (Below.refl _ _) _) hb3))
        clear hb3 g0 g1 g2 g3 g4 g5 g6 g7 g8 g9 g10 g11
        cases hv : vOk (e 0) with
        | false =>
          have HV := Aside0.mk (evOk_no e 0 (by omega) hv)
          clear hv
          go_wp2_with fail
          go_ret
          exact ⟨ret_bool HV.out.symm, B3.out⟩
        | true =>
          have HV := Aside0.mk hv
          clear hv
          go_wp2_with fail
          go_roundg (4 - (0 + 1))
          case measure => omega
          case rel =>
            refine ⟨0 + 1, by go_num, by omega, by omega, B3, X3, ⟨fun t ht => ?_⟩⟩
            rcases Nat.lt_or_ge t 0 with h | h
            · exact HOK.out t h
            · have : t = 0 := by omega
              rw [this]; exact HV.out
      · go_wp2_with fail
        refine (value_Right.calls _ _ _ _ _ (val_f (e 1))).mono ?_
        rintro e' w3 ⟨rfl, hb3⟩
        have B3 := Aside0.mk (below_step HB.out (below_step (below_alloc (Below.refl _ _) _) hb3))
        have X3 := Aside0.mk (blk_below HX.out (below_step (below_alloc (Below.refl _ _) _) hb3))
        clear hb3 g0 g1 g2 g3 g4 g5 g6 g7 g8 g9 g10 g11
        cases hv : vOk (e 1) with
        | false =>
          have HV := Aside0.mk (evOk_no e 1 (by omega) hv)
          clear hv
          go_wp2_with fail
          go_ret
          exact ⟨ret_bool HV.out.symm, B3.out⟩
        | true =>
          have HV := Aside0.mk hv
          clear hv
          go_wp2_with fail
          go_roundg (4 - (1 + 1))
          case measure => omega
          case rel =>
            refine ⟨1 + 1, by go_num, by omega, by omega, B3, X3, ⟨fun t ht => ?_⟩⟩
            rcases Nat.lt_or_ge t 1 with h | h
            · exact HOK.out t h
            · have : t = 1 := by omega
              rw [this]; exact HV.out
      · go_wp2_with fail
        refine (value_Right.calls _ _ _ _ _ (val_f (e 2))).mono ?_
        rintro e' w3 ⟨rfl, hb3⟩
        have B3 := Aside0.mk (below_step HB.out (below_step (below_alloc (Below.refl _ _) _) hb3))
        have X3 := Aside0.mk (blk_below HX.out (below_step (below_alloc (Below.refl _ _) _) hb3))
        clear hb3 g0 g1 g2 g3 g4 g5 g6 g7 g8 g9 g10 g11
        cases hv : vOk (e 2) with
        | false =>
          have HV := Aside0.mk (evOk_no e 2 (by omega) hv)
          clear hv
          go_wp2_with fail
          go_ret
          exact ⟨ret_bool HV.out.symm, B3.out⟩
        | true =>
          have HV := Aside0.mk hv
          clear hv
          go_wp2_with fail
          go_roundg (4 - (2 + 1))
          case measure => omega
          case rel =>
            refine ⟨2 + 1, by go_num, by omega, by omega, B3, X3, ⟨fun t ht => ?_⟩⟩
            rcases Nat.lt_or_ge t 2 with h | h
            · exact HOK.out t h
            · have : t = 2 := by omega
              rw [this]; exact HV.out
      · go_wp2_with fail
        refine (value_Right.calls _ _ _ _ _ (val_f (e 3))).mono ?_
        rintro e' w3 ⟨rfl, hb3⟩
        have B3 := Aside0.mk (below_step HB.out (below_step (below_alloc (Below.refl _ _) _) hb3))
        have X3 := Aside0.mk (blk_below HX.out (below_step (below_alloc (Below.refl _ _) _) hb3))
        clear hb3 g0 g1 g2 g3 g4 g5 g6 g7 g8 g9 g10 g11
        cases hv : vOk (e 3) with
        | false =>
          have HV := Aside0.mk (evOk_no e 3 (by omega) hv)
          clear hv
          go_wp2_with fail
          go_ret
          exact ⟨ret_bool HV.out.symm, B3.out⟩
        | true =>
          have HV := Aside0.mk hv
          clear hv
          go_wp2_with fail
          go_roundg (4 - (3 + 1))
          case measure => omega
          case rel =>
            refine ⟨3 + 1, by go_num, by omega, by omega, B3, X3, ⟨fun t ht => ?_⟩⟩
            rcases Nat.lt_or_ge t 3 with h | h
            · exact HOK.out t h
            · have : t = 3 := by omega
              rw [this]; exact HV.out
    · obtain rfl : j = 4 := by omega
      go_wp2_with fail
      go_ret
      exact ⟨ret_bool ((evOk_iff e).2 HOK.out).symm, HB.out⟩
set_option maxHeartbeats 4000000 in
set_option maxRecDepth 100000 in
theorem refevent_any (e : Nat → V3) (w : World) : Calls Try.prog 34 #[.agg #[.int .i64 (e 0).k, .int .i64 (e 0).n, .string (e 0).t, .int .i64 (e 1).k, .int .i64 (e 1).n, .string (e 1).t, .int .i64 (e 2).k, .int .i64 (e 2).n, .string (e 2).t, .int .i64 (e 3).k, .int .i64 (e 3).n, .string (e 3).t]] w fun e' w' => e' = .returned (.bool (evOk e)) ∧ Below w.heap.size w w' := by
  go_enter Try.func34, Try.ntmps34
  go_wp2_with fail
  go_loopg [3] 4 (fun q i wr => ∃ j : Nat, i = .int .i64 j ∧ j ≤ 4 ∧ q + j = 4 ∧ Aside0 (Below w.heap.size w wr) ∧ Aside0 (wr.heap[w.heap.size]? = some (.cells #[.int .i64 (e 0).k, .int .i64 (e 0).n, .string (e 0).t, .int .i64 (e 1).k, .int .i64 (e 1).n, .string (e 1).t, .int .i64 (e 2).k, .int .i64 (e 2).n, .string (e 2).t, .int .i64 (e 3).k, .int .i64 (e 3).n, .string (e 3).t] 32 (0, 0))) ∧ Aside0 (∀ t, t < j → vOk (e t) = true))
  case atStart => exact ⟨0, rfl, by omega, by omega, ⟨below_alloc (Below.refl _ _) _⟩, ⟨heap_alloc_new _ _⟩, ⟨fun t h => absurd h (by omega)⟩⟩
  case round =>
    obtain ⟨j, rfl, hj, hq, HB, HX, HOK⟩ := hrel
    have hz := blk_lt HX.out
    have hz0 := HB.out.size
    by_cases hlt : j < 4
    · obtain ⟨g0, g1, g2, g3, g4, g5, g6, g7, g8, g9, g10, g11⟩ := ecells HX.out
      have hjj : j = 0 ∨ j = 1 ∨ j = 2 ∨ j = 3 := by omega
      rcases hjj with rfl | rfl | rfl | rfl
      · go_wp2_with fail
        refine (arbourref01_Right.calls _ _ _ _ _ (refVal_f (e 0))).mono ?_
        rintro e' w3 ⟨rfl, hb3⟩
        have B3 := Aside0.mk (below_step HB.out hb3)
        have X3 := Aside0.mk (blk_below HX.out hb3)
        clear hb3 g0 g1 g2 g3 g4 g5 g6 g7 g8 g9 g10 g11
        cases hv : vOk (e 0) with
        | false =>
          have HV := Aside0.mk (evOk_no e 0 (by omega) hv)
          clear hv
          go_wp2_with fail
          go_ret
          exact ⟨ret_bool HV.out.symm, B3.out⟩
        | true =>
          have HV := Aside0.mk hv
          clear hv
          go_wp2_with fail
          go_roundg (4 - (0 + 1))
          case measure => omega
          case rel =>
            refine ⟨0 + 1, by go_num, by omega, by omega, B3, X3, ⟨fun t ht => ?_⟩⟩
            rcases Nat.lt_or_ge t 0 with h | h
            · exact HOK.out t h
            · have : t = 0 := by omega
              rw [this]; exact HV.out
      · go_wp2_with fail
        refine (arbourref01_Right.calls _ _ _ _ _ (refVal_f (e 1))).mono ?_
        rintro e' w3 ⟨rfl, hb3⟩
        have B3 := Aside0.mk (below_step HB.out hb3)
        have X3 := Aside0.mk (blk_below HX.out hb3)
        clear hb3 g0 g1 g2 g3 g4 g5 g6 g7 g8 g9 g10 g11
        cases hv : vOk (e 1) with
        | false =>
          have HV := Aside0.mk (evOk_no e 1 (by omega) hv)
          clear hv
          go_wp2_with fail
          go_ret
          exact ⟨ret_bool HV.out.symm, B3.out⟩
        | true =>
          have HV := Aside0.mk hv
          clear hv
          go_wp2_with fail
          go_roundg (4 - (1 + 1))
          case measure => omega
          case rel =>
            refine ⟨1 + 1, by go_num, by omega, by omega, B3, X3, ⟨fun t ht => ?_⟩⟩
            rcases Nat.lt_or_ge t 1 with h | h
            · exact HOK.out t h
            · have : t = 1 := by omega
              rw [this]; exact HV.out
      · go_wp2_with fail
        refine (arbourref01_Right.calls _ _ _ _ _ (refVal_f (e 2))).mono ?_
        rintro e' w3 ⟨rfl, hb3⟩
        have B3 := Aside0.mk (below_step HB.out hb3)
        have X3 := Aside0.mk (blk_below HX.out hb3)
        clear hb3 g0 g1 g2 g3 g4 g5 g6 g7 g8 g9 g10 g11
        cases hv : vOk (e 2) with
        | false =>
          have HV := Aside0.mk (evOk_no e 2 (by omega) hv)
          clear hv
          go_wp2_with fail
          go_ret
          exact ⟨ret_bool HV.out.symm, B3.out⟩
        | true =>
          have HV := Aside0.mk hv
          clear hv
          go_wp2_with fail
          go_roundg (4 - (2 + 1))
          case measure => omega
          case rel =>
            refine ⟨2 + 1, by go_num, by omega, by omega, B3, X3, ⟨fun t ht => ?_⟩⟩
            rcases Nat.lt_or_ge t 2 with h | h
            · exact HOK.out t h
            · have : t = 2 := by omega
              rw [this]; exact HV.out
      · go_wp2_with fail
        refine (arbourref01_Right.calls _ _ _ _ _ (refVal_f (e 3))).mono ?_
        rintro e' w3 ⟨rfl, hb3⟩
        have B3 := Aside0.mk (below_step HB.out hb3)
        have X3 := Aside0.mk (blk_below HX.out hb3)
        clear hb3 g0 g1 g2 g3 g4 g5 g6 g7 g8 g9 g10 g11
        cases hv : vOk (e 3) with
        | false =>
          have HV := Aside0.mk (evOk_no e 3 (by omega) hv)
          clear hv
          go_wp2_with fail
          go_ret
          exact ⟨ret_bool HV.out.symm, B3.out⟩
        | true =>
          have HV := Aside0.mk hv
          clear hv
          go_wp2_with fail
          go_roundg (4 - (3 + 1))
          case measure => omega
          case rel =>
            refine ⟨3 + 1, by go_num, by omega, by omega, B3, X3, ⟨fun t ht => ?_⟩⟩
            rcases Nat.lt_or_ge t 3 with h | h
            · exact HOK.out t h
            · have : t = 3 := by omega
              rw [this]; exact HV.out
    · obtain rfl : j = 4 := by omega
      go_wp2_with fail
      go_ret
      exact ⟨ret_bool ((evOk_iff e).2 HOK.out).symm, HB.out⟩
end Go.Proofs.Ytjkhajcngapjcaa.Q
