/- The reference's Is and Eval; printed by gen_is05.py. -/
import Derived.Test.YtjkhajcngapjcaaER
import Derived.Outline
namespace Go.Proofs.Ytjkhajcngapjcaa.Q
open Go.RowKit Go.Proofs.YtjkhajcngapjcaaW.PrintWords Go.Proofs.YtjkhajcngapjcaaW.PrintLast Go.Proofs.YtjkhajcngapjcaaW.PrintMore
set_option linter.unusedVariables false
set_option linter.unusedSimpArgs false

theorem addr_add0 (a : Addr) : a.add 0 = a := by unfold Addr.add; split <;> simp_all
set_option maxHeartbeats 16000000 in
set_option maxRecDepth 100000 in
theorem is_any (e : Nat → V3) (m : Nat) : ∀ (x : S28) (v : Value) (w : World), sz x = m → Each (fun y => FineS y.f2) x → allT x = true → XR w v x →
    Calls Try.prog 23 #[v, .agg #[.int .i64 (e 0).k, .int .i64 (e 0).n, .string (e 0).t, .int .i64 (e 1).k, .int .i64 (e 1).n, .string (e 1).t, .int .i64 (e 2).k, .int .i64 (e 2).n, .string (e 2).t, .int .i64 (e 3).k, .int .i64 (e 3).n, .string (e 3).t]] w fun e' w' => e' = .returned (.bool (isT e x)) ∧ Below w.heap.size w w' := by
  induction m using Nat.strongRecOn with
  | _ m ih =>
  intro x v w hm hF hA hx
  have IH := Aside0.mk ih
  have HM := Aside0.mk hm
  have HF := Aside0.mk hF
  have HA := Aside0.mk hA
  have hone := oneT_kinds (allT_one hA)
  have HT := Aside0.mk (isT_eq e x)
  obtain ⟨A3, c3, A5, c5, A6, c6, rfl, l3, g3, l5, g5, l6, g6⟩ := hx
  have G3 := Aside0.mk (And.intro l3 g3)
  have G5 := Aside0.mk (And.intro l5 g5)
  have G6 := Aside0.mk (And.intro l6 g6)
  have HLEN := Aside0.mk (show (x.f3.length : Int) ≤ 9223372036854775807 by have := g6.2.1; omega)
  have hlen := HLEN.out
  clear ih hm hF hA l3 g3 l5 g5 l6 g6
  generalize isT e x = res at *
  rcases hone with ⟨k1, ha0, ha4⟩ | k2 | k3 | ⟨k4, hl⟩
  · have K1 := Aside0.mk k1
    have hjj : x.f1 = 0 ∨ x.f1 = 1 ∨ x.f1 = 2 ∨ x.f1 = 3 := by omega
    rw [k1]
    clear ha0 ha4 k1
    rcases hjj with hj | hj | hj | hj
    · have HJ := Aside0.mk hj
      rw [hj]
      clear hj
      go_enter Try.func23, Try.ntmps23
      obtain ⟨wb, hwb⟩ : ∃ wb : World, wb = (w.alloc (.cells #[.int .i64 1, .int .i64 0, .bool x.f2.f0, .slice A3 x.f2.f1.length c3, .bool x.f2.f2, .slice A5 x.f2.f3.length c5, .slice A6 x.f3.length c6] 28)).alloc (.cells #[.int .i64 (e 0).k, .int .i64 (e 0).n, .string (e 0).t, .int .i64 (e 1).k, .int .i64 (e 1).n, .string (e 1).t, .int .i64 (e 2).k, .int .i64 (e 2).n, .string (e 2).t, .int .i64 (e 3).k, .int .i64 (e 3).n, .string (e 3).t] 32) := ⟨_, rfl⟩
      have HB := Aside0.mk (show Below w.heap.size w wb by rw [hwb]; exact below_alloc (below_alloc (Below.refl _ _) _) _)
      have HX := Aside0.mk (show wb.heap[w.heap.size]? = some (.cells #[.int .i64 1, .int .i64 0, .bool x.f2.f0, .slice A3 x.f2.f1.length c3, .bool x.f2.f2, .slice A5 x.f2.f3.length c5, .slice A6 x.f3.length c6] 28 (0, 0)) by rw [hwb]; exact blk_new0 w _ _)
      have HE := Aside0.mk (show EvAt wb (w.heap.size + 1) e by rw [hwb]; exact blk_new1 w _ _)
      obtain ⟨z0, z1, z2, z3, z4, z5, z6⟩ := ncells HX.out
      obtain ⟨g0, g1, g2, g3, g4, g5, g6, g7, g8, g9, g10, g11⟩ := ecells HE.out
      have HH := Aside0.mk (refHas_f x.f2 (e 0) HF.out.here _ (Nat.le_refl _))
      go_wp2_with fail
      rw [← hwb]
      clear hwb
      first | (go_region_held3 (fun w' => w'.cell? ⟨w.heap.size, 0, none⟩ = some (.int .i64 1) ∧ w'.cell? ⟨w.heap.size, 1, none⟩ = some (.int .i64 0) ∧ w'.cell? ⟨w.heap.size, 2, none⟩ = some (.bool x.f2.f0) ∧ w'.cell? ⟨w.heap.size, 3, none⟩ = some (.slice A3 x.f2.f1.length c3) ∧ w'.cell? ⟨w.heap.size, 4, none⟩ = some (.bool x.f2.f2) ∧ w'.cell? ⟨w.heap.size, 5, none⟩ = some (.slice A5 x.f2.f3.length c5) ∧ w'.cell? ⟨w.heap.size + 1, 0, none⟩ = some (.int .i64 (e 0).k) ∧ w'.cell? ⟨w.heap.size + 1, 1, none⟩ = some (.int .i64 (e 0).n) ∧ w'.cell? ⟨w.heap.size + 1, 2, none⟩ = some (.string (e 0).t)) (first | assumption | exact ⟨z0, z1, z2, z3, z4, z5, g0, g1, g2⟩ | exact ⟨k0, k1, k2, k3, k4, k5, k6, k7, k8⟩ | (refine ⟨?_, ?_, ?_, ?_, ?_, ?_, ?_, ?_, ?_⟩ <;> assumption)) (first | (go_at_call 36; (with_reducible refine (arbourref03_Has.calls _ _ _ _ _ _ _ _ _ _ _ _ _ _ (Kd.C_below G3.out.2 (below_drew HB.out)) G3.out.1 (Kd.C_below G5.out.2 (below_drew HB.out)) G5.out.1 HH.out).mono ?_); rintro e' w9 ⟨rfl, hb9⟩; have k0 := pw_cell_below hb9 (show (wb).drew.cell? _ = _ from z0); have k1 := pw_cell_below hb9 (show (wb).drew.cell? _ = _ from z1); have k2 := pw_cell_below hb9 (show (wb).drew.cell? _ = _ from z2); have k3 := pw_cell_below hb9 (show (wb).drew.cell? _ = _ from z3); have k4 := pw_cell_below hb9 (show (wb).drew.cell? _ = _ from z4); have k5 := pw_cell_below hb9 (show (wb).drew.cell? _ = _ from z5); have k6 := pw_cell_below hb9 (show (wb).drew.cell? _ = _ from g0); have k7 := pw_cell_below hb9 (show (wb).drew.cell? _ = _ from g1); have k8 := pw_cell_below hb9 (show (wb).drew.cell? _ = _ from g2); have HB9 := Aside0.mk (below_step (below_drew HB.out) hb9); clear hb9))) | fail
      go_wp2_with fail
      go_ret
      exact ⟨ret_bool (by rw [HT.out, if_pos K1.out, HJ.out]; rfl), HB9.out⟩
    · have HJ := Aside0.mk hj
      rw [hj]
      clear hj
      go_enter Try.func23, Try.ntmps23
      obtain ⟨wb, hwb⟩ : ∃ wb : World, wb = (w.alloc (.cells #[.int .i64 1, .int .i64 1, .bool x.f2.f0, .slice A3 x.f2.f1.length c3, .bool x.f2.f2, .slice A5 x.f2.f3.length c5, .slice A6 x.f3.length c6] 28)).alloc (.cells #[.int .i64 (e 0).k, .int .i64 (e 0).n, .string (e 0).t, .int .i64 (e 1).k, .int .i64 (e 1).n, .string (e 1).t, .int .i64 (e 2).k, .int .i64 (e 2).n, .string (e 2).t, .int .i64 (e 3).k, .int .i64 (e 3).n, .string (e 3).t] 32) := ⟨_, rfl⟩
      have HB := Aside0.mk (show Below w.heap.size w wb by rw [hwb]; exact below_alloc (below_alloc (Below.refl _ _) _) _)
      have HX := Aside0.mk (show wb.heap[w.heap.size]? = some (.cells #[.int .i64 1, .int .i64 1, .bool x.f2.f0, .slice A3 x.f2.f1.length c3, .bool x.f2.f2, .slice A5 x.f2.f3.length c5, .slice A6 x.f3.length c6] 28 (0, 0)) by rw [hwb]; exact blk_new0 w _ _)
      have HE := Aside0.mk (show EvAt wb (w.heap.size + 1) e by rw [hwb]; exact blk_new1 w _ _)
      obtain ⟨z0, z1, z2, z3, z4, z5, z6⟩ := ncells HX.out
      obtain ⟨g0, g1, g2, g3, g4, g5, g6, g7, g8, g9, g10, g11⟩ := ecells HE.out
      have HH := Aside0.mk (refHas_f x.f2 (e 1) HF.out.here _ (Nat.le_refl _))
      go_wp2_with fail
      rw [← hwb]
      clear hwb
      first | (go_region_held3 (fun w' => w'.cell? ⟨w.heap.size, 0, none⟩ = some (.int .i64 1) ∧ w'.cell? ⟨w.heap.size, 1, none⟩ = some (.int .i64 1) ∧ w'.cell? ⟨w.heap.size, 2, none⟩ = some (.bool x.f2.f0) ∧ w'.cell? ⟨w.heap.size, 3, none⟩ = some (.slice A3 x.f2.f1.length c3) ∧ w'.cell? ⟨w.heap.size, 4, none⟩ = some (.bool x.f2.f2) ∧ w'.cell? ⟨w.heap.size, 5, none⟩ = some (.slice A5 x.f2.f3.length c5) ∧ w'.cell? ⟨w.heap.size + 1, 3, none⟩ = some (.int .i64 (e 1).k) ∧ w'.cell? ⟨w.heap.size + 1, 4, none⟩ = some (.int .i64 (e 1).n) ∧ w'.cell? ⟨w.heap.size + 1, 5, none⟩ = some (.string (e 1).t)) (first | assumption | exact ⟨z0, z1, z2, z3, z4, z5, g3, g4, g5⟩ | exact ⟨k0, k1, k2, k3, k4, k5, k6, k7, k8⟩ | (refine ⟨?_, ?_, ?_, ?_, ?_, ?_, ?_, ?_, ?_⟩ <;> assumption)) (first | (go_at_call 36; (with_reducible refine (arbourref03_Has.calls _ _ _ _ _ _ _ _ _ _ _ _ _ _ (Kd.C_below G3.out.2 (below_drew HB.out)) G3.out.1 (Kd.C_below G5.out.2 (below_drew HB.out)) G5.out.1 HH.out).mono ?_); rintro e' w9 ⟨rfl, hb9⟩; have k0 := pw_cell_below hb9 (show (wb).drew.cell? _ = _ from z0); have k1 := pw_cell_below hb9 (show (wb).drew.cell? _ = _ from z1); have k2 := pw_cell_below hb9 (show (wb).drew.cell? _ = _ from z2); have k3 := pw_cell_below hb9 (show (wb).drew.cell? _ = _ from z3); have k4 := pw_cell_below hb9 (show (wb).drew.cell? _ = _ from z4); have k5 := pw_cell_below hb9 (show (wb).drew.cell? _ = _ from z5); have k6 := pw_cell_below hb9 (show (wb).drew.cell? _ = _ from g3); have k7 := pw_cell_below hb9 (show (wb).drew.cell? _ = _ from g4); have k8 := pw_cell_below hb9 (show (wb).drew.cell? _ = _ from g5); have HB9 := Aside0.mk (below_step (below_drew HB.out) hb9); clear hb9))) | fail
      go_wp2_with fail
      go_ret
      exact ⟨ret_bool (by rw [HT.out, if_pos K1.out, HJ.out]; rfl), HB9.out⟩
    · have HJ := Aside0.mk hj
      rw [hj]
      clear hj
      go_enter Try.func23, Try.ntmps23
      obtain ⟨wb, hwb⟩ : ∃ wb : World, wb = (w.alloc (.cells #[.int .i64 1, .int .i64 2, .bool x.f2.f0, .slice A3 x.f2.f1.length c3, .bool x.f2.f2, .slice A5 x.f2.f3.length c5, .slice A6 x.f3.length c6] 28)).alloc (.cells #[.int .i64 (e 0).k, .int .i64 (e 0).n, .string (e 0).t, .int .i64 (e 1).k, .int .i64 (e 1).n, .string (e 1).t, .int .i64 (e 2).k, .int .i64 (e 2).n, .string (e 2).t, .int .i64 (e 3).k, .int .i64 (e 3).n, .string (e 3).t] 32) := ⟨_, rfl⟩
      have HB := Aside0.mk (show Below w.heap.size w wb by rw [hwb]; exact below_alloc (below_alloc (Below.refl _ _) _) _)
      have HX := Aside0.mk (show wb.heap[w.heap.size]? = some (.cells #[.int .i64 1, .int .i64 2, .bool x.f2.f0, .slice A3 x.f2.f1.length c3, .bool x.f2.f2, .slice A5 x.f2.f3.length c5, .slice A6 x.f3.length c6] 28 (0, 0)) by rw [hwb]; exact blk_new0 w _ _)
      have HE := Aside0.mk (show EvAt wb (w.heap.size + 1) e by rw [hwb]; exact blk_new1 w _ _)
      obtain ⟨z0, z1, z2, z3, z4, z5, z6⟩ := ncells HX.out
      obtain ⟨g0, g1, g2, g3, g4, g5, g6, g7, g8, g9, g10, g11⟩ := ecells HE.out
      have HH := Aside0.mk (refHas_f x.f2 (e 2) HF.out.here _ (Nat.le_refl _))
      go_wp2_with fail
      rw [← hwb]
      clear hwb
      first | (go_region_held3 (fun w' => w'.cell? ⟨w.heap.size, 0, none⟩ = some (.int .i64 1) ∧ w'.cell? ⟨w.heap.size, 1, none⟩ = some (.int .i64 2) ∧ w'.cell? ⟨w.heap.size, 2, none⟩ = some (.bool x.f2.f0) ∧ w'.cell? ⟨w.heap.size, 3, none⟩ = some (.slice A3 x.f2.f1.length c3) ∧ w'.cell? ⟨w.heap.size, 4, none⟩ = some (.bool x.f2.f2) ∧ w'.cell? ⟨w.heap.size, 5, none⟩ = some (.slice A5 x.f2.f3.length c5) ∧ w'.cell? ⟨w.heap.size + 1, 6, none⟩ = some (.int .i64 (e 2).k) ∧ w'.cell? ⟨w.heap.size + 1, 7, none⟩ = some (.int .i64 (e 2).n) ∧ w'.cell? ⟨w.heap.size + 1, 8, none⟩ = some (.string (e 2).t)) (first | assumption | exact ⟨z0, z1, z2, z3, z4, z5, g6, g7, g8⟩ | exact ⟨k0, k1, k2, k3, k4, k5, k6, k7, k8⟩ | (refine ⟨?_, ?_, ?_, ?_, ?_, ?_, ?_, ?_, ?_⟩ <;> assumption)) (first | (go_at_call 36; (with_reducible refine (arbourref03_Has.calls _ _ _ _ _ _ _ _ _ _ _ _ _ _ (Kd.C_below G3.out.2 (below_drew HB.out)) G3.out.1 (Kd.C_below G5.out.2 (below_drew HB.out)) G5.out.1 HH.out).mono ?_); rintro e' w9 ⟨rfl, hb9⟩; have k0 := pw_cell_below hb9 (show (wb).drew.cell? _ = _ from z0); have k1 := pw_cell_below hb9 (show (wb).drew.cell? _ = _ from z1); have k2 := pw_cell_below hb9 (show (wb).drew.cell? _ = _ from z2); have k3 := pw_cell_below hb9 (show (wb).drew.cell? _ = _ from z3); have k4 := pw_cell_below hb9 (show (wb).drew.cell? _ = _ from z4); have k5 := pw_cell_below hb9 (show (wb).drew.cell? _ = _ from z5); have k6 := pw_cell_below hb9 (show (wb).drew.cell? _ = _ from g6); have k7 := pw_cell_below hb9 (show (wb).drew.cell? _ = _ from g7); have k8 := pw_cell_below hb9 (show (wb).drew.cell? _ = _ from g8); have HB9 := Aside0.mk (below_step (below_drew HB.out) hb9); clear hb9))) | fail
      go_wp2_with fail
      go_ret
      exact ⟨ret_bool (by rw [HT.out, if_pos K1.out, HJ.out]; rfl), HB9.out⟩
    · have HJ := Aside0.mk hj
      rw [hj]
      clear hj
      go_enter Try.func23, Try.ntmps23
      obtain ⟨wb, hwb⟩ : ∃ wb : World, wb = (w.alloc (.cells #[.int .i64 1, .int .i64 3, .bool x.f2.f0, .slice A3 x.f2.f1.length c3, .bool x.f2.f2, .slice A5 x.f2.f3.length c5, .slice A6 x.f3.length c6] 28)).alloc (.cells #[.int .i64 (e 0).k, .int .i64 (e 0).n, .string (e 0).t, .int .i64 (e 1).k, .int .i64 (e 1).n, .string (e 1).t, .int .i64 (e 2).k, .int .i64 (e 2).n, .string (e 2).t, .int .i64 (e 3).k, .int .i64 (e 3).n, .string (e 3).t] 32) := ⟨_, rfl⟩
      have HB := Aside0.mk (show Below w.heap.size w wb by rw [hwb]; exact below_alloc (below_alloc (Below.refl _ _) _) _)
      have HX := Aside0.mk (show wb.heap[w.heap.size]? = some (.cells #[.int .i64 1, .int .i64 3, .bool x.f2.f0, .slice A3 x.f2.f1.length c3, .bool x.f2.f2, .slice A5 x.f2.f3.length c5, .slice A6 x.f3.length c6] 28 (0, 0)) by rw [hwb]; exact blk_new0 w _ _)
      have HE := Aside0.mk (show EvAt wb (w.heap.size + 1) e by rw [hwb]; exact blk_new1 w _ _)
      obtain ⟨z0, z1, z2, z3, z4, z5, z6⟩ := ncells HX.out
      obtain ⟨g0, g1, g2, g3, g4, g5, g6, g7, g8, g9, g10, g11⟩ := ecells HE.out
      have HH := Aside0.mk (refHas_f x.f2 (e 3) HF.out.here _ (Nat.le_refl _))
      go_wp2_with fail
      rw [← hwb]
      clear hwb
      first | (go_region_held3 (fun w' => w'.cell? ⟨w.heap.size, 0, none⟩ = some (.int .i64 1) ∧ w'.cell? ⟨w.heap.size, 1, none⟩ = some (.int .i64 3) ∧ w'.cell? ⟨w.heap.size, 2, none⟩ = some (.bool x.f2.f0) ∧ w'.cell? ⟨w.heap.size, 3, none⟩ = some (.slice A3 x.f2.f1.length c3) ∧ w'.cell? ⟨w.heap.size, 4, none⟩ = some (.bool x.f2.f2) ∧ w'.cell? ⟨w.heap.size, 5, none⟩ = some (.slice A5 x.f2.f3.length c5) ∧ w'.cell? ⟨w.heap.size + 1, 9, none⟩ = some (.int .i64 (e 3).k) ∧ w'.cell? ⟨w.heap.size + 1, 10, none⟩ = some (.int .i64 (e 3).n) ∧ w'.cell? ⟨w.heap.size + 1, 11, none⟩ = some (.string (e 3).t)) (first | assumption | exact ⟨z0, z1, z2, z3, z4, z5, g9, g10, g11⟩ | exact ⟨k0, k1, k2, k3, k4, k5, k6, k7, k8⟩ | (refine ⟨?_, ?_, ?_, ?_, ?_, ?_, ?_, ?_, ?_⟩ <;> assumption)) (first | (go_at_call 36; (with_reducible refine (arbourref03_Has.calls _ _ _ _ _ _ _ _ _ _ _ _ _ _ (Kd.C_below G3.out.2 (below_drew HB.out)) G3.out.1 (Kd.C_below G5.out.2 (below_drew HB.out)) G5.out.1 HH.out).mono ?_); rintro e' w9 ⟨rfl, hb9⟩; have k0 := pw_cell_below hb9 (show (wb).drew.cell? _ = _ from z0); have k1 := pw_cell_below hb9 (show (wb).drew.cell? _ = _ from z1); have k2 := pw_cell_below hb9 (show (wb).drew.cell? _ = _ from z2); have k3 := pw_cell_below hb9 (show (wb).drew.cell? _ = _ from z3); have k4 := pw_cell_below hb9 (show (wb).drew.cell? _ = _ from z4); have k5 := pw_cell_below hb9 (show (wb).drew.cell? _ = _ from z5); have k6 := pw_cell_below hb9 (show (wb).drew.cell? _ = _ from g9); have k7 := pw_cell_below hb9 (show (wb).drew.cell? _ = _ from g10); have k8 := pw_cell_below hb9 (show (wb).drew.cell? _ = _ from g11); have HB9 := Aside0.mk (below_step (below_drew HB.out) hb9); clear hb9))) | fail
      go_wp2_with fail
      go_ret
      exact ⟨ret_bool (by rw [HT.out, if_pos K1.out, HJ.out]; rfl), HB9.out⟩
  · have HK := Aside0.mk k2
    have HTK : Aside0 (res = isAll e x.f3) := ⟨by rw [HT.out, k2]; rfl⟩
    rw [k2]
    clear k2
    go_enter Try.func23, Try.ntmps23
    obtain ⟨wb, hwb⟩ : ∃ wb : World, wb = (w.alloc (.cells #[.int .i64 2, .int .i64 x.f1, .bool x.f2.f0, .slice A3 x.f2.f1.length c3, .bool x.f2.f2, .slice A5 x.f2.f3.length c5, .slice A6 x.f3.length c6] 28)).alloc (.cells #[.int .i64 (e 0).k, .int .i64 (e 0).n, .string (e 0).t, .int .i64 (e 1).k, .int .i64 (e 1).n, .string (e 1).t, .int .i64 (e 2).k, .int .i64 (e 2).n, .string (e 2).t, .int .i64 (e 3).k, .int .i64 (e 3).n, .string (e 3).t] 32) := ⟨_, rfl⟩
    have HB := Aside0.mk (show Below w.heap.size w wb by rw [hwb]; exact below_alloc (below_alloc (Below.refl _ _) _) _)
    have HX := Aside0.mk (show wb.heap[w.heap.size]? = some (.cells #[.int .i64 2, .int .i64 x.f1, .bool x.f2.f0, .slice A3 x.f2.f1.length c3, .bool x.f2.f2, .slice A5 x.f2.f3.length c5, .slice A6 x.f3.length c6] 28 (0, 0)) by rw [hwb]; exact blk_new0 w _ _)
    have HE := Aside0.mk (show EvAt wb (w.heap.size + 1) e by rw [hwb]; exact blk_new1 w _ _)
    obtain ⟨z0, z1, z2, z3, z4, z5, z6⟩ := ncells HX.out
    obtain ⟨g0, g1, g2, g3, g4, g5, g6, g7, g8, g9, g10, g11⟩ := ecells HE.out
    go_wp2_with fail
    rw [← hwb]
    clear hwb z0 z1 z2 z3 z4 z5 z6 g0 g1 g2 g3 g4 g5 g6 g7 g8 g9 g10 g11
    go_loopg [5] x.f3.length (fun q v3 wr => ∃ (i : Nat), v3 = .int .i64 i ∧ q + i = x.f3.length ∧ Aside0 (Below w.heap.size w wr) ∧ Aside0 (wr.heap[w.heap.size]? = some (.cells #[.int .i64 2, .int .i64 x.f1, .bool x.f2.f0, .slice A3 x.f2.f1.length c3, .bool x.f2.f2, .slice A5 x.f2.f3.length c5, .slice A6 x.f3.length c6] 28 (0, 0))) ∧ Aside0 (EvAt wr (w.heap.size + 1) e) ∧ Aside0 (res = isAll e (x.f3.drop i)))
    case atStart => exact ⟨0, rfl, by omega, HB, HX, HE, ⟨by rw [List.drop_zero]; exact HTK.out⟩⟩
    case round =>
      clear HB HX HE
      obtain ⟨i, rfl, hq, HB, HX, HE, HL⟩ := hrel
      have HQ := Aside0.mk hq
      clear hq
      obtain ⟨wl, hwl⟩ : ∃ wl : World, wl = wr := ⟨_, rfl⟩
      subst hwl
      obtain ⟨z0, z1, z2, z3, z4, z5, z6⟩ := ncells HX.out
      obtain ⟨g0, g1, g2, g3, g4, g5, g6, g7, g8, g9, g10, g11⟩ := ecells HE.out
      by_cases hi : i < x.f3.length
      · have hi' : (i : Int) < (x.f3.length : Int) := by omega
        obtain ⟨ad, B3, d3, B5, d5, B6, d6, ead, q0, q1, q2, q3, q4, q5, q6, m3, f3, m5, f5, m6, f6⟩ := at_T28 (Kd.C_below G6.out.2 HB.out) (i : Int) (by omega) (by omega)
        cases ead
        rw [Int.toNat_natCast] at q0 q1 q2 q3 q4 q5 q6
        have hmem := rd28_in x.f3 i hi
        have HLC := Aside0.mk (isAll_drop e x.f3 i hi)
        generalize rd_T28 x.f3 (i : Int) = y at *
        have HLT := Aside0.mk (show sz y < m by rw [← HM.out]; exact sub_lt hmem)
        have HFY := Aside0.mk (HF.out.sub hmem)
        have HAY := Aside0.mk (allT_sub HA.out hmem)
        have HXR := Aside0.mk (show XR wl (.agg #[.int .i64 y.f0, .int .i64 y.f1, .bool y.f2.f0, .slice B3 y.f2.f1.length d3, .bool y.f2.f2, .slice B5 y.f2.f3.length d5, .slice B6 y.f3.length d6]) y from ⟨B3, d3, B5, d5, B6, d6, rfl, m3, f3, m5, f5, m6, f6⟩)
        clear hmem m3 f3 m5 f5 m6 f6
        go_wp2_with fail
        first | (go_region_held3 (fun w' => w'.cell? ⟨w.heap.size, 6, none⟩ = some (.slice (some ad) x.f3.length c6) ∧ w'.cell? (ad.add (i * 7)) = some (.int .i64 y.f0) ∧ w'.cell? ⟨(ad.add (i * 7)).block, (ad.add (i * 7)).off + 1, none⟩ = some (.int .i64 y.f1) ∧ w'.cell? ⟨(ad.add (i * 7)).block, (ad.add (i * 7)).off + 2, none⟩ = some (.bool y.f2.f0) ∧ w'.cell? ⟨(ad.add (i * 7)).block, (ad.add (i * 7)).off + 3, none⟩ = some (.slice B3 y.f2.f1.length d3) ∧ w'.cell? ⟨(ad.add (i * 7)).block, (ad.add (i * 7)).off + 4, none⟩ = some (.bool y.f2.f2) ∧ w'.cell? ⟨(ad.add (i * 7)).block, (ad.add (i * 7)).off + 5, none⟩ = some (.slice B5 y.f2.f3.length d5) ∧ w'.cell? ⟨(ad.add (i * 7)).block, (ad.add (i * 7)).off + 6, none⟩ = some (.slice B6 y.f3.length d6) ∧ w'.cell? ⟨w.heap.size + 1, 0, none⟩ = some (.int .i64 (e 0).k) ∧ w'.cell? ⟨w.heap.size + 1, 1, none⟩ = some (.int .i64 (e 0).n) ∧ w'.cell? ⟨w.heap.size + 1, 2, none⟩ = some (.string (e 0).t) ∧ w'.cell? ⟨w.heap.size + 1, 3, none⟩ = some (.int .i64 (e 1).k) ∧ w'.cell? ⟨w.heap.size + 1, 4, none⟩ = some (.int .i64 (e 1).n) ∧ w'.cell? ⟨w.heap.size + 1, 5, none⟩ = some (.string (e 1).t) ∧ w'.cell? ⟨w.heap.size + 1, 6, none⟩ = some (.int .i64 (e 2).k) ∧ w'.cell? ⟨w.heap.size + 1, 7, none⟩ = some (.int .i64 (e 2).n) ∧ w'.cell? ⟨w.heap.size + 1, 8, none⟩ = some (.string (e 2).t) ∧ w'.cell? ⟨w.heap.size + 1, 9, none⟩ = some (.int .i64 (e 3).k) ∧ w'.cell? ⟨w.heap.size + 1, 10, none⟩ = some (.int .i64 (e 3).n) ∧ w'.cell? ⟨w.heap.size + 1, 11, none⟩ = some (.string (e 3).t)) (first | assumption | exact ⟨z6, q0, q1, q2, q3, q4, q5, q6, g0, g1, g2, g3, g4, g5, g6, g7, g8, g9, g10, g11⟩ | exact ⟨k0, k1, k2, k3, k4, k5, k6, k7, k8, k9, k10, k11, k12, k13, k14, k15, k16, k17, k18, k19⟩ | (refine ⟨?_, ?_, ?_, ?_, ?_, ?_, ?_, ?_, ?_, ?_, ?_, ?_, ?_, ?_, ?_, ?_, ?_, ?_, ?_, ?_⟩ <;> assumption)) (first | (go_at_call 23; (with_reducible refine (IH.out (sz y) HLT.out y _ _ rfl HFY.out HAY.out (HXR.out.below (below_drew (Below.refl _ _)))).mono ?_); rintro e' w9 ⟨rfl, hb9⟩; have k0 := pw_cell_below hb9 (show (wl).drew.cell? _ = _ from z6); have k1 := pw_cell_below hb9 (show (wl).drew.cell? _ = _ from q0); have k2 := pw_cell_below hb9 (show (wl).drew.cell? _ = _ from q1); have k3 := pw_cell_below hb9 (show (wl).drew.cell? _ = _ from q2); have k4 := pw_cell_below hb9 (show (wl).drew.cell? _ = _ from q3); have k5 := pw_cell_below hb9 (show (wl).drew.cell? _ = _ from q4); have k6 := pw_cell_below hb9 (show (wl).drew.cell? _ = _ from q5); have k7 := pw_cell_below hb9 (show (wl).drew.cell? _ = _ from q6); have k8 := pw_cell_below hb9 (show (wl).drew.cell? _ = _ from g0); have k9 := pw_cell_below hb9 (show (wl).drew.cell? _ = _ from g1); have k10 := pw_cell_below hb9 (show (wl).drew.cell? _ = _ from g2); have k11 := pw_cell_below hb9 (show (wl).drew.cell? _ = _ from g3); have k12 := pw_cell_below hb9 (show (wl).drew.cell? _ = _ from g4); have k13 := pw_cell_below hb9 (show (wl).drew.cell? _ = _ from g5); have k14 := pw_cell_below hb9 (show (wl).drew.cell? _ = _ from g6); have k15 := pw_cell_below hb9 (show (wl).drew.cell? _ = _ from g7); have k16 := pw_cell_below hb9 (show (wl).drew.cell? _ = _ from g8); have k17 := pw_cell_below hb9 (show (wl).drew.cell? _ = _ from g9); have k18 := pw_cell_below hb9 (show (wl).drew.cell? _ = _ from g10); have k19 := pw_cell_below hb9 (show (wl).drew.cell? _ = _ from g11); have HB9 := Aside0.mk (below_step (below_drew HB.out) hb9); have HX9 := Aside0.mk (blk_below (show (wl.drew).heap[_]? = _ from HX.out) hb9); have HE9 := Aside0.mk (EvAt.below (show EvAt wl.drew _ e from HE.out) hb9); clear hb9))) | fail
        clear z0 z1 z2 z3 z4 z5 z6 q0 q1 q2 q3 q4 q5 q6 g0 g1 g2 g3 g4 g5 g6 g7 g8 g9 g10 g11 k0 k1 k2 k3 k4 k5 k6 k7 k8 k9 k10 k11 k12 k13 k14 k15 k16 k17 k18 k19
        generalize isT e y = iy at *
        cases iy with
        | false =>
          go_wp2_with fail
          go_ret
          exact ⟨ret_bool (by rw [HL.out, HLC.out]; rfl), HB9.out⟩
        | true =>
          go_wp2_with fail
          go_roundg (x.f3.length - (i + 1))
          case measure => have := HQ.out; omega
          case rel => exact ⟨i + 1, by go_num, by omega, HB9, HX9, HE9, ⟨by rw [HL.out, HLC.out]; rfl⟩⟩
      · have hi' : ¬ (i : Int) < (x.f3.length : Int) := by omega
        have HI := Aside0.mk hi
        clear hi
        go_wp2_with fail
        go_ret
        refine ⟨ret_bool ?_, HB.out⟩
        rw [HL.out, List.drop_of_length_le (by have := HI.out; omega)]
        rfl
  · have HK := Aside0.mk k3
    have HTK : Aside0 (res = isAny e x.f3) := ⟨by rw [HT.out, k3]; rfl⟩
    rw [k3]
    clear k3
    go_enter Try.func23, Try.ntmps23
    obtain ⟨wb, hwb⟩ : ∃ wb : World, wb = (w.alloc (.cells #[.int .i64 3, .int .i64 x.f1, .bool x.f2.f0, .slice A3 x.f2.f1.length c3, .bool x.f2.f2, .slice A5 x.f2.f3.length c5, .slice A6 x.f3.length c6] 28)).alloc (.cells #[.int .i64 (e 0).k, .int .i64 (e 0).n, .string (e 0).t, .int .i64 (e 1).k, .int .i64 (e 1).n, .string (e 1).t, .int .i64 (e 2).k, .int .i64 (e 2).n, .string (e 2).t, .int .i64 (e 3).k, .int .i64 (e 3).n, .string (e 3).t] 32) := ⟨_, rfl⟩
    have HB := Aside0.mk (show Below w.heap.size w wb by rw [hwb]; exact below_alloc (below_alloc (Below.refl _ _) _) _)
    have HX := Aside0.mk (show wb.heap[w.heap.size]? = some (.cells #[.int .i64 3, .int .i64 x.f1, .bool x.f2.f0, .slice A3 x.f2.f1.length c3, .bool x.f2.f2, .slice A5 x.f2.f3.length c5, .slice A6 x.f3.length c6] 28 (0, 0)) by rw [hwb]; exact blk_new0 w _ _)
    have HE := Aside0.mk (show EvAt wb (w.heap.size + 1) e by rw [hwb]; exact blk_new1 w _ _)
    obtain ⟨z0, z1, z2, z3, z4, z5, z6⟩ := ncells HX.out
    obtain ⟨g0, g1, g2, g3, g4, g5, g6, g7, g8, g9, g10, g11⟩ := ecells HE.out
    go_wp2_with fail
    rw [← hwb]
    clear hwb z0 z1 z2 z3 z4 z5 z6 g0 g1 g2 g3 g4 g5 g6 g7 g8 g9 g10 g11
    go_loopg [6] x.f3.length (fun q v3 wr => ∃ (i : Nat), v3 = .int .i64 i ∧ q + i = x.f3.length ∧ Aside0 (Below w.heap.size w wr) ∧ Aside0 (wr.heap[w.heap.size]? = some (.cells #[.int .i64 3, .int .i64 x.f1, .bool x.f2.f0, .slice A3 x.f2.f1.length c3, .bool x.f2.f2, .slice A5 x.f2.f3.length c5, .slice A6 x.f3.length c6] 28 (0, 0))) ∧ Aside0 (EvAt wr (w.heap.size + 1) e) ∧ Aside0 (res = isAny e (x.f3.drop i)))
    case atStart => exact ⟨0, rfl, by omega, HB, HX, HE, ⟨by rw [List.drop_zero]; exact HTK.out⟩⟩
    case round =>
      clear HB HX HE
      obtain ⟨i, rfl, hq, HB, HX, HE, HL⟩ := hrel
      have HQ := Aside0.mk hq
      clear hq
      obtain ⟨wl, hwl⟩ : ∃ wl : World, wl = wr := ⟨_, rfl⟩
      subst hwl
      obtain ⟨z0, z1, z2, z3, z4, z5, z6⟩ := ncells HX.out
      obtain ⟨g0, g1, g2, g3, g4, g5, g6, g7, g8, g9, g10, g11⟩ := ecells HE.out
      by_cases hi : i < x.f3.length
      · have hi' : (i : Int) < (x.f3.length : Int) := by omega
        obtain ⟨ad, B3, d3, B5, d5, B6, d6, ead, q0, q1, q2, q3, q4, q5, q6, m3, f3, m5, f5, m6, f6⟩ := at_T28 (Kd.C_below G6.out.2 HB.out) (i : Int) (by omega) (by omega)
        cases ead
        rw [Int.toNat_natCast] at q0 q1 q2 q3 q4 q5 q6
        have hmem := rd28_in x.f3 i hi
        have HLC := Aside0.mk (isAny_drop e x.f3 i hi)
        generalize rd_T28 x.f3 (i : Int) = y at *
        have HLT := Aside0.mk (show sz y < m by rw [← HM.out]; exact sub_lt hmem)
        have HFY := Aside0.mk (HF.out.sub hmem)
        have HAY := Aside0.mk (allT_sub HA.out hmem)
        have HXR := Aside0.mk (show XR wl (.agg #[.int .i64 y.f0, .int .i64 y.f1, .bool y.f2.f0, .slice B3 y.f2.f1.length d3, .bool y.f2.f2, .slice B5 y.f2.f3.length d5, .slice B6 y.f3.length d6]) y from ⟨B3, d3, B5, d5, B6, d6, rfl, m3, f3, m5, f5, m6, f6⟩)
        clear hmem m3 f3 m5 f5 m6 f6
        go_wp2_with fail
        first | (go_region_held3 (fun w' => w'.cell? ⟨w.heap.size, 6, none⟩ = some (.slice (some ad) x.f3.length c6) ∧ w'.cell? (ad.add (i * 7)) = some (.int .i64 y.f0) ∧ w'.cell? ⟨(ad.add (i * 7)).block, (ad.add (i * 7)).off + 1, none⟩ = some (.int .i64 y.f1) ∧ w'.cell? ⟨(ad.add (i * 7)).block, (ad.add (i * 7)).off + 2, none⟩ = some (.bool y.f2.f0) ∧ w'.cell? ⟨(ad.add (i * 7)).block, (ad.add (i * 7)).off + 3, none⟩ = some (.slice B3 y.f2.f1.length d3) ∧ w'.cell? ⟨(ad.add (i * 7)).block, (ad.add (i * 7)).off + 4, none⟩ = some (.bool y.f2.f2) ∧ w'.cell? ⟨(ad.add (i * 7)).block, (ad.add (i * 7)).off + 5, none⟩ = some (.slice B5 y.f2.f3.length d5) ∧ w'.cell? ⟨(ad.add (i * 7)).block, (ad.add (i * 7)).off + 6, none⟩ = some (.slice B6 y.f3.length d6) ∧ w'.cell? ⟨w.heap.size + 1, 0, none⟩ = some (.int .i64 (e 0).k) ∧ w'.cell? ⟨w.heap.size + 1, 1, none⟩ = some (.int .i64 (e 0).n) ∧ w'.cell? ⟨w.heap.size + 1, 2, none⟩ = some (.string (e 0).t) ∧ w'.cell? ⟨w.heap.size + 1, 3, none⟩ = some (.int .i64 (e 1).k) ∧ w'.cell? ⟨w.heap.size + 1, 4, none⟩ = some (.int .i64 (e 1).n) ∧ w'.cell? ⟨w.heap.size + 1, 5, none⟩ = some (.string (e 1).t) ∧ w'.cell? ⟨w.heap.size + 1, 6, none⟩ = some (.int .i64 (e 2).k) ∧ w'.cell? ⟨w.heap.size + 1, 7, none⟩ = some (.int .i64 (e 2).n) ∧ w'.cell? ⟨w.heap.size + 1, 8, none⟩ = some (.string (e 2).t) ∧ w'.cell? ⟨w.heap.size + 1, 9, none⟩ = some (.int .i64 (e 3).k) ∧ w'.cell? ⟨w.heap.size + 1, 10, none⟩ = some (.int .i64 (e 3).n) ∧ w'.cell? ⟨w.heap.size + 1, 11, none⟩ = some (.string (e 3).t)) (first | assumption | exact ⟨z6, q0, q1, q2, q3, q4, q5, q6, g0, g1, g2, g3, g4, g5, g6, g7, g8, g9, g10, g11⟩ | exact ⟨k0, k1, k2, k3, k4, k5, k6, k7, k8, k9, k10, k11, k12, k13, k14, k15, k16, k17, k18, k19⟩ | (refine ⟨?_, ?_, ?_, ?_, ?_, ?_, ?_, ?_, ?_, ?_, ?_, ?_, ?_, ?_, ?_, ?_, ?_, ?_, ?_, ?_⟩ <;> assumption)) (first | (go_at_call 23; (with_reducible refine (IH.out (sz y) HLT.out y _ _ rfl HFY.out HAY.out (HXR.out.below (below_drew (Below.refl _ _)))).mono ?_); rintro e' w9 ⟨rfl, hb9⟩; have k0 := pw_cell_below hb9 (show (wl).drew.cell? _ = _ from z6); have k1 := pw_cell_below hb9 (show (wl).drew.cell? _ = _ from q0); have k2 := pw_cell_below hb9 (show (wl).drew.cell? _ = _ from q1); have k3 := pw_cell_below hb9 (show (wl).drew.cell? _ = _ from q2); have k4 := pw_cell_below hb9 (show (wl).drew.cell? _ = _ from q3); have k5 := pw_cell_below hb9 (show (wl).drew.cell? _ = _ from q4); have k6 := pw_cell_below hb9 (show (wl).drew.cell? _ = _ from q5); have k7 := pw_cell_below hb9 (show (wl).drew.cell? _ = _ from q6); have k8 := pw_cell_below hb9 (show (wl).drew.cell? _ = _ from g0); have k9 := pw_cell_below hb9 (show (wl).drew.cell? _ = _ from g1); have k10 := pw_cell_below hb9 (show (wl).drew.cell? _ = _ from g2); have k11 := pw_cell_below hb9 (show (wl).drew.cell? _ = _ from g3); have k12 := pw_cell_below hb9 (show (wl).drew.cell? _ = _ from g4); have k13 := pw_cell_below hb9 (show (wl).drew.cell? _ = _ from g5); have k14 := pw_cell_below hb9 (show (wl).drew.cell? _ = _ from g6); have k15 := pw_cell_below hb9 (show (wl).drew.cell? _ = _ from g7); have k16 := pw_cell_below hb9 (show (wl).drew.cell? _ = _ from g8); have k17 := pw_cell_below hb9 (show (wl).drew.cell? _ = _ from g9); have k18 := pw_cell_below hb9 (show (wl).drew.cell? _ = _ from g10); have k19 := pw_cell_below hb9 (show (wl).drew.cell? _ = _ from g11); have HB9 := Aside0.mk (below_step (below_drew HB.out) hb9); have HX9 := Aside0.mk (blk_below (show (wl.drew).heap[_]? = _ from HX.out) hb9); have HE9 := Aside0.mk (EvAt.below (show EvAt wl.drew _ e from HE.out) hb9); clear hb9))) | fail
        clear z0 z1 z2 z3 z4 z5 z6 q0 q1 q2 q3 q4 q5 q6 g0 g1 g2 g3 g4 g5 g6 g7 g8 g9 g10 g11 k0 k1 k2 k3 k4 k5 k6 k7 k8 k9 k10 k11 k12 k13 k14 k15 k16 k17 k18 k19
        generalize isT e y = iy at *
        cases iy with
        | false =>
          go_wp2_with fail
          go_roundg (x.f3.length - (i + 1))
          case measure => have := HQ.out; omega
          case rel => exact ⟨i + 1, by go_num, by omega, HB9, HX9, HE9, ⟨by rw [HL.out, HLC.out]; rfl⟩⟩
        | true =>
          go_wp2_with fail
          go_ret
          exact ⟨ret_bool (by rw [HL.out, HLC.out]; rfl), HB9.out⟩
      · have hi' : ¬ (i : Int) < (x.f3.length : Int) := by omega
        have HI := Aside0.mk hi
        clear hi
        go_wp2_with fail
        go_ret
        refine ⟨ret_bool ?_, HB.out⟩
        rw [HL.out, List.drop_of_length_le (by have := HI.out; omega)]
        rfl
  · have HK := Aside0.mk k4
    have HTK : Aside0 (res = !(isT e (rd_T28 x.f3 0))) := ⟨by rw [HT.out, k4, ← isFst_at e x.f3 (by omega)]; rfl⟩
    have HL1 := Aside0.mk hl
    rw [k4, hl]
    clear k4
    go_enter Try.func23, Try.ntmps23
    obtain ⟨wb, hwb⟩ : ∃ wb : World, wb = (w.alloc (.cells #[.int .i64 4, .int .i64 x.f1, .bool x.f2.f0, .slice A3 x.f2.f1.length c3, .bool x.f2.f2, .slice A5 x.f2.f3.length c5, .slice A6 1 c6] 28)).alloc (.cells #[.int .i64 (e 0).k, .int .i64 (e 0).n, .string (e 0).t, .int .i64 (e 1).k, .int .i64 (e 1).n, .string (e 1).t, .int .i64 (e 2).k, .int .i64 (e 2).n, .string (e 2).t, .int .i64 (e 3).k, .int .i64 (e 3).n, .string (e 3).t] 32) := ⟨_, rfl⟩
    have HB := Aside0.mk (show Below w.heap.size w wb by rw [hwb]; exact below_alloc (below_alloc (Below.refl _ _) _) _)
    have HX := Aside0.mk (show wb.heap[w.heap.size]? = some (.cells #[.int .i64 4, .int .i64 x.f1, .bool x.f2.f0, .slice A3 x.f2.f1.length c3, .bool x.f2.f2, .slice A5 x.f2.f3.length c5, .slice A6 1 c6] 28 (0, 0)) by rw [hwb]; exact blk_new0 w _ _)
    have HE := Aside0.mk (show EvAt wb (w.heap.size + 1) e by rw [hwb]; exact blk_new1 w _ _)
    obtain ⟨z0, z1, z2, z3, z4, z5, z6⟩ := ncells HX.out
    obtain ⟨g0, g1, g2, g3, g4, g5, g6, g7, g8, g9, g10, g11⟩ := ecells HE.out
    have hmem : rd_T28 x.f3 0 ∈ x.f3 := rd28_in x.f3 0 (by omega)
    obtain ⟨ad, B3, d3, B5, d5, B6, d6, ead, q0, q1, q2, q3, q4, q5, q6, m3, f3, m5, f5, m6, f6⟩ := at_T28 (Kd.C_below G6.out.2 HB.out) 0 (by omega) (by omega)
    cases ead
    simp only [show ((0 : Int).toNat * 7) = 0 from rfl, addr_add0] at q0 q1 q2 q3 q4 q5 q6
    generalize rd_T28 x.f3 0 = y at *
    have HLT := Aside0.mk (show sz y < m by rw [← HM.out]; exact sub_lt hmem)
    have HFY := Aside0.mk (HF.out.sub hmem)
    have HAY := Aside0.mk (allT_sub HA.out hmem)
    have HXR := Aside0.mk (show XR wb (.agg #[.int .i64 y.f0, .int .i64 y.f1, .bool y.f2.f0, .slice B3 y.f2.f1.length d3, .bool y.f2.f2, .slice B5 y.f2.f3.length d5, .slice B6 y.f3.length d6]) y from ⟨B3, d3, B5, d5, B6, d6, rfl, m3, f3, m5, f5, m6, f6⟩)
    clear hmem m3 f3 m5 f5 m6 f6 hl
    go_wp2_with fail
    rw [← hwb]
    clear hwb
    first | (go_region_held3 (fun w' => w'.cell? ⟨w.heap.size, 6, none⟩ = some (.slice (some ad) 1 c6) ∧ w'.cell? ad = some (.int .i64 y.f0) ∧ w'.cell? ⟨ad.block, ad.off + 1, none⟩ = some (.int .i64 y.f1) ∧ w'.cell? ⟨ad.block, ad.off + 2, none⟩ = some (.bool y.f2.f0) ∧ w'.cell? ⟨ad.block, ad.off + 3, none⟩ = some (.slice B3 y.f2.f1.length d3) ∧ w'.cell? ⟨ad.block, ad.off + 4, none⟩ = some (.bool y.f2.f2) ∧ w'.cell? ⟨ad.block, ad.off + 5, none⟩ = some (.slice B5 y.f2.f3.length d5) ∧ w'.cell? ⟨ad.block, ad.off + 6, none⟩ = some (.slice B6 y.f3.length d6) ∧ w'.cell? ⟨w.heap.size + 1, 0, none⟩ = some (.int .i64 (e 0).k) ∧ w'.cell? ⟨w.heap.size + 1, 1, none⟩ = some (.int .i64 (e 0).n) ∧ w'.cell? ⟨w.heap.size + 1, 2, none⟩ = some (.string (e 0).t) ∧ w'.cell? ⟨w.heap.size + 1, 3, none⟩ = some (.int .i64 (e 1).k) ∧ w'.cell? ⟨w.heap.size + 1, 4, none⟩ = some (.int .i64 (e 1).n) ∧ w'.cell? ⟨w.heap.size + 1, 5, none⟩ = some (.string (e 1).t) ∧ w'.cell? ⟨w.heap.size + 1, 6, none⟩ = some (.int .i64 (e 2).k) ∧ w'.cell? ⟨w.heap.size + 1, 7, none⟩ = some (.int .i64 (e 2).n) ∧ w'.cell? ⟨w.heap.size + 1, 8, none⟩ = some (.string (e 2).t) ∧ w'.cell? ⟨w.heap.size + 1, 9, none⟩ = some (.int .i64 (e 3).k) ∧ w'.cell? ⟨w.heap.size + 1, 10, none⟩ = some (.int .i64 (e 3).n) ∧ w'.cell? ⟨w.heap.size + 1, 11, none⟩ = some (.string (e 3).t)) (first | assumption | exact ⟨z6, q0, q1, q2, q3, q4, q5, q6, g0, g1, g2, g3, g4, g5, g6, g7, g8, g9, g10, g11⟩ | exact ⟨k0, k1, k2, k3, k4, k5, k6, k7, k8, k9, k10, k11, k12, k13, k14, k15, k16, k17, k18, k19⟩ | (refine ⟨?_, ?_, ?_, ?_, ?_, ?_, ?_, ?_, ?_, ?_, ?_, ?_, ?_, ?_, ?_, ?_, ?_, ?_, ?_, ?_⟩ <;> assumption)) (first | (go_at_call 23; (with_reducible refine (IH.out (sz y) HLT.out y _ _ rfl HFY.out HAY.out (HXR.out.below (below_drew (Below.refl _ _)))).mono ?_); rintro e' w9 ⟨rfl, hb9⟩; have k0 := pw_cell_below hb9 (show (wb).drew.cell? _ = _ from z6); have k1 := pw_cell_below hb9 (show (wb).drew.cell? _ = _ from q0); have k2 := pw_cell_below hb9 (show (wb).drew.cell? _ = _ from q1); have k3 := pw_cell_below hb9 (show (wb).drew.cell? _ = _ from q2); have k4 := pw_cell_below hb9 (show (wb).drew.cell? _ = _ from q3); have k5 := pw_cell_below hb9 (show (wb).drew.cell? _ = _ from q4); have k6 := pw_cell_below hb9 (show (wb).drew.cell? _ = _ from q5); have k7 := pw_cell_below hb9 (show (wb).drew.cell? _ = _ from q6); have k8 := pw_cell_below hb9 (show (wb).drew.cell? _ = _ from g0); have k9 := pw_cell_below hb9 (show (wb).drew.cell? _ = _ from g1); have k10 := pw_cell_below hb9 (show (wb).drew.cell? _ = _ from g2); have k11 := pw_cell_below hb9 (show (wb).drew.cell? _ = _ from g3); have k12 := pw_cell_below hb9 (show (wb).drew.cell? _ = _ from g4); have k13 := pw_cell_below hb9 (show (wb).drew.cell? _ = _ from g5); have k14 := pw_cell_below hb9 (show (wb).drew.cell? _ = _ from g6); have k15 := pw_cell_below hb9 (show (wb).drew.cell? _ = _ from g7); have k16 := pw_cell_below hb9 (show (wb).drew.cell? _ = _ from g8); have k17 := pw_cell_below hb9 (show (wb).drew.cell? _ = _ from g9); have k18 := pw_cell_below hb9 (show (wb).drew.cell? _ = _ from g10); have k19 := pw_cell_below hb9 (show (wb).drew.cell? _ = _ from g11); have HB9 := Aside0.mk (below_step (below_drew HB.out) hb9); clear hb9))) | fail
    go_wp2_with fail
    go_ret
    exact ⟨ret_bool (by rw [HTK.out]), HB9.out⟩
set_option maxHeartbeats 4000000 in
set_option maxRecDepth 100000 in
theorem refEval_any (x : S28) (v : Value) (e : Nat → V3) (w : World) (hs : SmallX x) (hF : Each (fun y => FineS y.f2) x) (hx : XR w v x) : Calls Try.prog 18 #[v, .agg #[.int .i64 (e 0).k, .int .i64 (e 0).n, .string (e 0).t, .int .i64 (e 1).k, .int .i64 (e 1).n, .string (e 1).t, .int .i64 (e 2).k, .int .i64 (e 2).n, .string (e 2).t, .int .i64 (e 3).k, .int .i64 (e 3).n, .string (e 3).t]] w fun e' w' => e' = .returned (.bool (evalT x e)) ∧ Below w.heap.size w w' := by
  have HF := Aside0.mk hF
  have HS := Aside0.mk hs
  have HXR := Aside0.mk hx
  obtain ⟨A3, c3, A5, c5, A6, c6, rfl, l3, g3, l5, g5, l6, g6⟩ := hx
  clear l3 g3 l5 g5 l6 g6 hF hs
  have HR : Aside0 (evalT x e = (rightT x && (evOk e && isT e x))) := ⟨rfl⟩
  have HRT : Aside0 (rightT x = true → allT x = true) := ⟨fun h => by unfold rightT at h; rw [Bool.and_eq_true] at h; exact h.2⟩
  go_enter Try.func18, Try.ntmps18
  go_wp2_with fail
  obtain ⟨wb, hwb⟩ : ∃ wb : World, wb = (w.alloc (.cells #[.int .i64 x.f0, .int .i64 x.f1, .bool x.f2.f0, .slice A3 x.f2.f1.length c3, .bool x.f2.f2, .slice A5 x.f2.f3.length c5, .slice A6 x.f3.length c6] 28)).alloc (.cells #[.int .i64 (e 0).k, .int .i64 (e 0).n, .string (e 0).t, .int .i64 (e 1).k, .int .i64 (e 1).n, .string (e 1).t, .int .i64 (e 2).k, .int .i64 (e 2).n, .string (e 2).t, .int .i64 (e 3).k, .int .i64 (e 3).n, .string (e 3).t] 32) := ⟨_, rfl⟩
  have HBW := Aside0.mk (show Below w.heap.size w wb by rw [hwb]; exact below_alloc (below_alloc (Below.refl _ _) _) _)
  have HX := Aside0.mk (show wb.heap[w.heap.size]? = some (.cells #[.int .i64 x.f0, .int .i64 x.f1, .bool x.f2.f0, .slice A3 x.f2.f1.length c3, .bool x.f2.f2, .slice A5 x.f2.f3.length c5, .slice A6 x.f3.length c6] 28 (0, 0)) by rw [hwb]; exact blk_new0 w _ _)
  have HE := Aside0.mk (show EvAt wb (w.heap.size + 1) e by rw [hwb]; exact blk_new1 w _ _)
  rw [← hwb]
  clear hwb
  refine (refright_any x _ wb HS.out HF.out (HXR.out.below HBW.out)).mono ?_
  rintro e' w1 ⟨rfl, hb1⟩
  have HB1 := Aside0.mk (below_step HBW.out hb1)
  have HX1 := Aside0.mk (blk_below HX.out hb1)
  have HE1 := Aside0.mk (HE.out.below hb1)
  clear hb1
  cases hr : rightT x with
  | false =>
    have HZ := Aside0.mk hr
    clear hr
    go_wp2_with fail
    go_ret
    exact ⟨ret_bool (by rw [HR.out, HZ.out]; rfl), HB1.out⟩
  | true =>
    have HZ := Aside0.mk hr
    clear hr
    obtain ⟨g0, g1, g2, g3, g4, g5, g6, g7, g8, g9, g10, g11⟩ := ecells HE1.out
    go_wp2_with fail
    refine (refevent_any e _).mono ?_
    rintro e' w2 ⟨rfl, hb2⟩
    have HB2 := Aside0.mk (below_step HB1.out hb2)
    have HX2 := Aside0.mk (blk_below HX1.out hb2)
    have HE2 := Aside0.mk (HE1.out.below hb2)
    clear hb2 g0 g1 g2 g3 g4 g5 g6 g7 g8 g9 g10 g11
    cases ho : evOk e with
    | false =>
      have HO := Aside0.mk ho
      clear ho
      go_wp2_with fail
      go_ret
      exact ⟨ret_bool (by rw [HR.out, HZ.out, HO.out]; rfl), HB2.out⟩
    | true =>
      have HO := Aside0.mk ho
      clear ho
      obtain ⟨z0, z1, z2, z3, z4, z5, z6⟩ := ncells HX2.out
      obtain ⟨g0, g1, g2, g3, g4, g5, g6, g7, g8, g9, g10, g11⟩ := ecells HE2.out
      go_wp2_with fail
      refine (is_any e _ x _ _ rfl HF.out (HRT.out HZ.out) (HXR.out.below HB2.out)).mono ?_
      rintro e' w3 ⟨rfl, hb3⟩
      have HB3 := Aside0.mk (below_step HB2.out hb3)
      clear hb3
      go_wp2_with fail
      go_ret
      exact ⟨ret_bool (by rw [HR.out, HZ.out, HO.out]; rfl), HB3.out⟩
end Go.Proofs.Ytjkhajcngapjcaa.Q
