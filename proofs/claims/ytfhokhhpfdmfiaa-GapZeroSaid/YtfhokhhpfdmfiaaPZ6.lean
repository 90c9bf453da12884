import Derived.Test.YtfhokhhpfdmfiaaPZ0
import Derived.Test.YtfhokhhpfdmfiaaPZ5
namespace Go.Proofs.Ytfhokhhpfdmfiaa.PGapZero
open Go.RowKit Go.Proofs.YtfhokhhpfdmfiaaW.PrintWords Go.Proofs.YtfhokhhpfdmfiaaW.PrintLast Go.Proofs.YtfhokhhpfdmfiaaW.PrintMore
attribute [local go_sem] max2_int min2_int max_two min_two max_three min_three max_four min_four   -- for this text's walks alone
set_option linter.unusedVariables false
set_option linter.unusedSimpArgs false

/-! ### arbourref03_Points: function 36 -/
mutual
def arbourref03_Points.l0 : Nat → List (S26) → List (S30) → ByteArray → Int → Option ((List (S30)))
  | 0, _, _, _, _ => none
  | k + 1, x0, x3, x4, x5 => if x5 < (x0.length : Int) then (arbourref03_Points.l1 k x0 x3 x4 x5 0) else ((arbourref03_Fresh.f k x0 x4).bind fun t159 => (if x3.length < 4398046511104 then (some (x3 ++ [(⟨2, 0, t159⟩ : S30)])) else (none)))
def arbourref03_Points.l1 : Nat → List (S26) → List (S30) → ByteArray → Int → Int → Option ((List (S30)))
  | 0, _, _, _, _, _ => none
  | k + 1, x0, x3, x4, x5, x6 => if 0 ≤ x5 then (if x5 < (x0.length : Int) then (if x6 < (((rd_T26 x0 x5).f1).length : Int) then (if 0 ≤ x6 then ((some (([(⟨1, (rd_T48 ((rd_T26 x0 x5).f1) x6).f0, (⟨#[]⟩ : ByteArray)⟩ : S30), (⟨1, (rd_T48 ((rd_T26 x0 x5).f1) x6).f1, (⟨#[]⟩ : ByteArray)⟩ : S30)] : List (S30)) : List (S30))).bind fun y167 => (if x3.length + y167.length < 4398046511104 then ((some (x3 ++ y167 : List (S30))).bind fun y170 => (if ((rd_T48 ((rd_T26 x0 x5).f1) x6).f0) > (-9223372036854775808) then (if y170.length < 4398046511104 then ((some (y170 ++ [(⟨1, wrap64 (((rd_T48 ((rd_T26 x0 x5).f1) x6).f0) - 1), (⟨#[]⟩ : ByteArray)⟩ : S30)] : List (S30))).bind fun y173 => (if ((rd_T48 ((rd_T26 x0 x5).f1) x6).f1) < 9223372036854775807 then (if y173.length < 4398046511104 then (arbourref03_Points.l1 k x0 (y173 ++ [(⟨1, wrap64 (((rd_T48 ((rd_T26 x0 x5).f1) x6).f1) + 1), (⟨#[]⟩ : ByteArray)⟩ : S30)]) x4 x5 (wrap64 (x6 + 1))) else (none)) else (arbourref03_Points.l1 k x0 y173 x4 x5 (wrap64 (x6 + 1))))) else (none)) else (if ((rd_T48 ((rd_T26 x0 x5).f1) x6).f1) < 9223372036854775807 then (if y170.length < 4398046511104 then (arbourref03_Points.l1 k x0 (y170 ++ [(⟨1, wrap64 (((rd_T48 ((rd_T26 x0 x5).f1) x6).f1) + 1), (⟨#[]⟩ : ByteArray)⟩ : S30)]) x4 x5 (wrap64 (x6 + 1))) else (none)) else (arbourref03_Points.l1 k x0 y170 x4 x5 (wrap64 (x6 + 1)))))) else (none))) else (none)) else (arbourref03_Points.l2 k x0 x3 x4 x5 0)) else (none)) else (none)
def arbourref03_Points.l2 : Nat → List (S26) → List (S30) → ByteArray → Int → Int → Option ((List (S30)))
  | 0, _, _, _, _, _ => none
  | k + 1, x0, x3, x4, x5, x8 => if 0 ≤ x5 then (if x5 < (x0.length : Int) then (if x8 < (((rd_T26 x0 x5).f3).length : Int) then (if 0 ≤ x8 then (if x3.length < 4398046511104 then (arbourref03_Points.l2 k x0 (x3 ++ [(⟨2, 0, rdOf ByteArray.empty ((rd_T26 x0 x5).f3) x8⟩ : S30)]) x4 x5 (wrap64 (x8 + 1))) else (none)) else (none)) else (arbourref03_Points.l0 k x0 x3 x4 (wrap64 (x5 + 1)))) else (none)) else (none)
end
def arbourref03_Points.f (k : Nat) (l0 : List (S26)) : Option ((List (S30))) := arbourref03_Points.l0 k l0 (([(⟨0, 0, (⟨#[]⟩ : ByteArray)⟩ : S30), (⟨1, (-9223372036854775808), (⟨#[]⟩ : ByteArray)⟩ : S30), (⟨1, 9223372036854775807, (⟨#[]⟩ : ByteArray)⟩ : S30), (⟨1, 0, (⟨#[]⟩ : ByteArray)⟩ : S30)] : List (S30))) (⟨#[126]⟩ : ByteArray) 0
theorem arbourref03_Points.mono_l : ∀ k, (∀ y0 y1 y2 y3, LeO (arbourref03_Points.l0 k y0 y1 y2 y3) (arbourref03_Points.l0 (k + 1) y0 y1 y2 y3)) ∧ (∀ y0 y1 y2 y3 y4, LeO (arbourref03_Points.l1 k y0 y1 y2 y3 y4) (arbourref03_Points.l1 (k + 1) y0 y1 y2 y3 y4)) ∧ (∀ y0 y1 y2 y3 y4, LeO (arbourref03_Points.l2 k y0 y1 y2 y3 y4) (arbourref03_Points.l2 (k + 1) y0 y1 y2 y3 y4))
  | 0 => ⟨fun _ _ _ _ r h => by simp [arbourref03_Points.l0] at h, fun _ _ _ _ _ r h => by simp [arbourref03_Points.l1] at h, fun _ _ _ _ _ r h => by simp [arbourref03_Points.l2] at h⟩
  | k + 1 => by
    obtain ⟨ih0, ih1, ih2⟩ := arbourref03_Points.mono_l k
    refine ⟨?_, ?_, ?_⟩
    · intro y0 y1 y2 y3
      unfold arbourref03_Points.l0
      repeat' first
      | (with_reducible exact ih0 _ _ _ _)
      | (with_reducible exact ih1 _ _ _ _ _)
      | (with_reducible exact ih2 _ _ _ _ _)
      | (with_reducible exact arbourref03_Fresh.mono _ _ _)
      | (with_reducible exact LeO.refl _)
      | (with_reducible exact LeO.none _)
      | (with_reducible refine LeO.ite ?_ ?_)
      | (with_reducible refine LeO.bind ?_ (fun _ => ?_))
      | exact ih0 _ _ _ _
      | exact ih1 _ _ _ _ _
      | exact ih2 _ _ _ _ _
      | exact arbourref03_Fresh.mono _ _ _
      | exact LeO.none _
      | refine LeO.ite ?_ ?_
      | refine LeO.bind ?_ (fun _ => ?_)
    · intro y0 y1 y2 y3 y4
      unfold arbourref03_Points.l1
      repeat' first
      | (with_reducible exact ih0 _ _ _ _)
      | (with_reducible exact ih1 _ _ _ _ _)
      | (with_reducible exact ih2 _ _ _ _ _)
      | (with_reducible exact arbourref03_Fresh.mono _ _ _)
      | (with_reducible exact LeO.refl _)
      | (with_reducible exact LeO.none _)
      | (with_reducible refine LeO.ite ?_ ?_)
      | (with_reducible refine LeO.bind ?_ (fun _ => ?_))
      | exact ih0 _ _ _ _
      | exact ih1 _ _ _ _ _
      | exact ih2 _ _ _ _ _
      | exact arbourref03_Fresh.mono _ _ _
      | exact LeO.none _
      | refine LeO.ite ?_ ?_
      | refine LeO.bind ?_ (fun _ => ?_)
    · intro y0 y1 y2 y3 y4
      unfold arbourref03_Points.l2
      repeat' first
      | (with_reducible exact ih0 _ _ _ _)
      | (with_reducible exact ih1 _ _ _ _ _)
      | (with_reducible exact ih2 _ _ _ _ _)
      | (with_reducible exact arbourref03_Fresh.mono _ _ _)
      | (with_reducible exact LeO.refl _)
      | (with_reducible exact LeO.none _)
      | (with_reducible refine LeO.ite ?_ ?_)
      | (with_reducible refine LeO.bind ?_ (fun _ => ?_))
      | exact ih0 _ _ _ _
      | exact ih1 _ _ _ _ _
      | exact ih2 _ _ _ _ _
      | exact arbourref03_Fresh.mono _ _ _
      | exact LeO.none _
      | refine LeO.ite ?_ ?_
      | refine LeO.bind ?_ (fun _ => ?_)
theorem arbourref03_Points.mono : ∀ a0 k, LeO (arbourref03_Points.f k a0) (arbourref03_Points.f (k + 1) a0) := by
  intro a0 k
  obtain ⟨ih0, ih1, ih2⟩ := arbourref03_Points.mono_l k
  unfold arbourref03_Points.f
  repeat' first
      | (with_reducible exact ih0 _ _ _ _)
      | (with_reducible exact ih1 _ _ _ _ _)
      | (with_reducible exact ih2 _ _ _ _ _)
      | (with_reducible exact arbourref03_Fresh.mono _ _ _)
      | (with_reducible exact LeO.refl _)
      | (with_reducible exact LeO.none _)
      | (with_reducible refine LeO.ite ?_ ?_)
      | (with_reducible refine LeO.bind ?_ (fun _ => ?_))
      | exact ih0 _ _ _ _
      | exact ih1 _ _ _ _ _
      | exact ih2 _ _ _ _ _
      | exact arbourref03_Fresh.mono _ _ _
      | exact LeO.none _
      | refine LeO.ite ?_ ?_
      | refine LeO.bind ?_ (fun _ => ?_)
set_option maxHeartbeats 8000000 in
set_option maxRecDepth 100000 in
theorem arbourref03_Points.calls (k : Nat) (A0 : Option Addr) (c0 : Nat) (l0 : List (S26)) (r : List (S30)) (w : World) (hr0 : Kd.C k26 w A0 l0.length l0) (hc0 : l0.length ≤ c0) (h : arbourref03_Points.f k l0 = some r) :
    Calls Try.prog 36 #[.slice A0 l0.length c0] w fun e w' => ∃ v0_ : Value, e = .returned (v0_) ∧ Kd.R k30 30 w' w.heap.size (fun _ => True) v0_ r ∧ Below w.heap.size w w' := by
  have hu30 := Try.underlying30
  have hu48 := Try.underlying48
  have HR0 := Aside0.mk hr0
  have HC0 := Aside0.mk hc0
  clear hr0 hc0
  have HB := Aside0.mk (Below.refl w.heap.size w)
  have H : (arbourref03_Points.l0 k l0 (([(⟨0, 0, (⟨#[]⟩ : ByteArray)⟩ : S30), (⟨1, (-9223372036854775808), (⟨#[]⟩ : ByteArray)⟩ : S30), (⟨1, 9223372036854775807, (⟨#[]⟩ : ByteArray)⟩ : S30), (⟨1, 0, (⟨#[]⟩ : ByteArray)⟩ : S30)] : List (S30))) (⟨#[126]⟩ : ByteArray) 0) = some r := h
  clear h
  obtain ⟨y156, hy156⟩ : ∃ y_ : List (S30), y_ = (([(⟨0, 0, (⟨#[]⟩ : ByteArray)⟩ : S30), (⟨1, (-9223372036854775808), (⟨#[]⟩ : ByteArray)⟩ : S30), (⟨1, 9223372036854775807, (⟨#[]⟩ : ByteArray)⟩ : S30), (⟨1, 0, (⟨#[]⟩ : ByteArray)⟩ : S30)] : List (S30))) := ⟨_, rfl⟩
  replace H : (arbourref03_Points.l0 k l0 y156 (⟨#[126]⟩ : ByteArray) 0) = some r := by first | (rw [hy156]; with_reducible exact H) | (have H2_ := (Option.bind_some _ _).symm.trans H; rw [hy156]; with_reducible exact H2_) | (have H2_ := (Option.bind_some _ _).symm.trans H; with_reducible exact H2_) | with_reducible exact H | (rw [hy156]; exact H) | exact H
  have Ny156 := Aside0.mk hy156
  clear hy156
  have H' := Aside0.mk H
  clear H
  go_enter Try.func36, Try.ntmps36
  go_wp2_with (first | ((with_reducible refine gate_dst (N := 13) rfl ?_); refine Kd.R_lit k30 _ 30 ?hg (N := 13) ?hd (xs := ([(⟨0, 0, (⟨#[]⟩ : ByteArray)⟩ : S30), (⟨1, (-9223372036854775808), (⟨#[]⟩ : ByteArray)⟩ : S30), (⟨1, 9223372036854775807, (⟨#[]⟩ : ByteArray)⟩ : S30), (⟨1, 0, (⟨#[]⟩ : ByteArray)⟩ : S30)] : List (S30))) (inner := [.int .i64 0, .int .i64 0, .string (⟨#[]⟩ : ByteArray), .int .i64 1, .int .i64 (-9223372036854775808), .string (⟨#[]⟩ : ByteArray), .int .i64 1, .int .i64 9223372036854775807, .string (⟨#[]⟩ : ByteArray), .int .i64 1, .int .i64 0, .string (⟨#[]⟩ : ByteArray)]) (ok := fun _ => True) (okp := fun _ => True) ?hr ?hp (fun _ hk => hk) trivial (Below.refl _ _) (Nat.le_refl _) (by simp) ?_; (case hd => rfl); (case hg => rfl); (case hr => first | (go_simp; done) | (go_simp; rfl)); (case hp => exact (Reps.c3 (show Kd.M k30 _ _ _ (⟨0, 0, (⟨#[]⟩ : ByteArray)⟩ : S30) [.int .i64 0, .int .i64 0, .string (⟨#[]⟩ : ByteArray)] from (k30_mkM _ _ _ (⟨0, 0, (⟨#[]⟩ : ByteArray)⟩ : S30) )) (Reps.c3 (show Kd.M k30 _ _ _ (⟨1, (-9223372036854775808), (⟨#[]⟩ : ByteArray)⟩ : S30) [.int .i64 1, .int .i64 (-9223372036854775808), .string (⟨#[]⟩ : ByteArray)] from (k30_mkM _ _ _ (⟨1, (-9223372036854775808), (⟨#[]⟩ : ByteArray)⟩ : S30) )) (Reps.c3 (show Kd.M k30 _ _ _ (⟨1, 9223372036854775807, (⟨#[]⟩ : ByteArray)⟩ : S30) [.int .i64 1, .int .i64 9223372036854775807, .string (⟨#[]⟩ : ByteArray)] from (k30_mkM _ _ _ (⟨1, 9223372036854775807, (⟨#[]⟩ : ByteArray)⟩ : S30) )) (Reps.c3 (show Kd.M k30 _ _ _ (⟨1, 0, (⟨#[]⟩ : ByteArray)⟩ : S30) [.int .i64 1, .int .i64 0, .string (⟨#[]⟩ : ByteArray)] from (k30_mkM _ _ _ (⟨1, 0, (⟨#[]⟩ : ByteArray)⟩ : S30) )) (Reps.none _ _)))))); intro v157 w2 ho3 hb hg_ hnew_; clear hg_ hnew_; (first | rw [← Ny156.out] at ho3 | (simp only [Int.reduceToNat] at ho3; rw [← Ny156.out] at ho3)); have n0_ := Aside0.mk (Kd.R_lower ho3 (below_size (by repeat (first | (with_reducible first | exact HB.out | apply below_alloc | apply pw_below_drewN | apply below_drew1) | exact HB.out)))); have n1_ := Aside0.mk (below_step (by repeat (first | (with_reducible first | exact HB.out | apply below_alloc | apply pw_below_drewN | apply below_drew1) | exact HB.out)) hb); clear HB; have HO158 := n0_; have HB := n1_; clear n0_ n1_; clear hb ho3))
  go_loopg [3, 5] k (fun kq v3 v5 w' => ∃ (x3_1 : List (S30)) (x5_1 : Int), v5 = .int .i64 x5_1 ∧ Aside0 (arbourref03_Points.l0 kq l0 x3_1 (⟨#[126]⟩ : ByteArray) x5_1 = some r) ∧ Aside0 (kq ≤ k) ∧ Aside0 (Kd.R k30 30 w' w.heap.size (fun _ => True) v3 x3_1) ∧ Aside0 (Below w.heap.size w w'))
  case atStart => exact ⟨(y156), (0), (by first | rfl | (simp; done) | (simp [*]; done)), H', ⟨Nat.le_refl _⟩, ⟨by (with_reducible repeat (first | apply Kd.R_alloc | apply Kd.R_drewN | apply Kd.R_drew)); exact HO158.out⟩, ⟨by repeat (first | (with_reducible first | exact HB.out | apply below_alloc | apply pw_below_drewN | apply below_drew1) | exact HB.out)⟩⟩
  case round =>
    clear H'
    try clear p2
    try clear c3
    obtain ⟨x3_1, x5_1, rfl, HA, HK1, HO_3, HB⟩ := hrel
    cases gk with
    | zero => exact absurd HA.out (by simp [arbourref03_Points.l0])
    | succ k1 =>
      have H := HA.out
      clear HA
      simp only [arbourref03_Points.l0] at H
      by_cases c4 : x5_1 < (l0.length : Int)
      · rw [if_pos c4] at H
        have c4b0 : decide (x5_1 < (l0.length : Int)) = true := decide_eq_true c4
        clear c4
        have H' := Aside0.mk H
        clear H
        go_wp2
        go_loopg [3, 6] k1 (fun kq v3 v6 w' => ∃ (x3_2 : List (S30)) (x6_2 : Int), v6 = .int .i64 x6_2 ∧ Aside0 (arbourref03_Points.l1 kq l0 x3_2 (⟨#[126]⟩ : ByteArray) x5_1 x6_2 = some r) ∧ Aside0 (kq ≤ k1) ∧ Aside0 (Kd.R k30 30 w' w.heap.size (fun _ => True) v3 x3_2) ∧ Aside0 (Below w.heap.size w w'))
        case atStart => exact ⟨(x3_1), (0), (by first | rfl | (simp; done) | (simp [*]; done)), H', ⟨Nat.le_refl _⟩, ⟨by (with_reducible repeat (first | apply Kd.R_alloc | apply Kd.R_drewN | apply Kd.R_drew)); exact HO_3.out⟩, ⟨by repeat (first | (with_reducible first | exact HB.out | apply below_alloc | apply pw_below_drewN | apply below_drew1) | exact HB.out)⟩⟩
        case round =>
          clear H'
          try clear p2
          try clear c3
          try clear c4
          try clear c4b0
          try clear p2
          obtain ⟨x3_2, x6_2, rfl, HA, HK2, HO_3, HB⟩ := hrel
          cases gk with
          | zero => exact absurd HA.out (by simp [arbourref03_Points.l1])
          | succ k2 =>
            have H := HA.out
            clear HA
            simp only [arbourref03_Points.l1] at H
            by_cases c5 : 0 ≤ x5_1
            · rw [if_pos c5] at H
              have c5b0 : decide (0 ≤ x5_1) = true := decide_eq_true c5
              clear c5
              by_cases c6 : x5_1 < (l0.length : Int)
              · rw [if_pos c6] at H
                have c6b0 : decide (x5_1 < (l0.length : Int)) = true := decide_eq_true c6
                clear c6
                by_cases c7 : x6_2 < (((rd_T26 l0 x5_1).f1).length : Int)
                · rw [if_pos c7] at H
                  have c7b0 : decide (x6_2 < (((rd_T26 l0 x5_1).f1).length : Int)) = true := decide_eq_true c7
                  clear c7
                  by_cases c8 : 0 ≤ x6_2
                  · rw [if_pos c8] at H
                    have c8b0 : decide (0 ≤ x6_2) = true := decide_eq_true c8
                    clear c8
                    obtain ⟨y167, hy167⟩ : ∃ y_ : List (S30), y_ = (([(⟨1, (rd_T48 ((rd_T26 l0 x5_1).f1) x6_2).f0, (⟨#[]⟩ : ByteArray)⟩ : S30), (⟨1, (rd_T48 ((rd_T26 l0 x5_1).f1) x6_2).f1, (⟨#[]⟩ : ByteArray)⟩ : S30)] : List (S30))) := ⟨_, rfl⟩
                    replace H : (if x3_2.length + y167.length < 4398046511104 then ((some (x3_2 ++ y167 : List (S30))).bind fun y170 => (if ((rd_T48 ((rd_T26 l0 x5_1).f1) x6_2).f0) > (-9223372036854775808) then (if y170.length < 4398046511104 then ((some (y170 ++ [(⟨1, wrap64 (((rd_T48 ((rd_T26 l0 x5_1).f1) x6_2).f0) - 1), (⟨#[]⟩ : ByteArray)⟩ : S30)] : List (S30))).bind fun y173 => (if ((rd_T48 ((rd_T26 l0 x5_1).f1) x6_2).f1) < 9223372036854775807 then (if y173.length < 4398046511104 then (arbourref03_Points.l1 k2 l0 (y173 ++ [(⟨1, wrap64 (((rd_T48 ((rd_T26 l0 x5_1).f1) x6_2).f1) + 1), (⟨#[]⟩ : ByteArray)⟩ : S30)]) (⟨#[126]⟩ : ByteArray) x5_1 (wrap64 (x6_2 + 1))) else (none)) else (arbourref03_Points.l1 k2 l0 y173 (⟨#[126]⟩ : ByteArray) x5_1 (wrap64 (x6_2 + 1))))) else (none)) else (if ((rd_T48 ((rd_T26 l0 x5_1).f1) x6_2).f1) < 9223372036854775807 then (if y170.length < 4398046511104 then (arbourref03_Points.l1 k2 l0 (y170 ++ [(⟨1, wrap64 (((rd_T48 ((rd_T26 l0 x5_1).f1) x6_2).f1) + 1), (⟨#[]⟩ : ByteArray)⟩ : S30)]) (⟨#[126]⟩ : ByteArray) x5_1 (wrap64 (x6_2 + 1))) else (none)) else (arbourref03_Points.l1 k2 l0 y170 (⟨#[126]⟩ : ByteArray) x5_1 (wrap64 (x6_2 + 1)))))) else (none)) = some r := by first | (rw [hy167]; with_reducible exact H) | (have H2_ := (Option.bind_some _ _).symm.trans H; rw [hy167]; with_reducible exact H2_) | (have H2_ := (Option.bind_some _ _).symm.trans H; with_reducible exact H2_) | with_reducible exact H | (rw [hy167]; exact H) | exact H
                    have Ny167 := Aside0.mk hy167
                    clear hy167
                    by_cases c9 : x3_2.length + y167.length < 4398046511104
                    · rw [if_pos c9] at H
                      have LMc9 := Aside0.mk c9
                      clear c9
                      obtain ⟨y170, hy170⟩ : ∃ y_ : List (S30), y_ = (x3_2 ++ y167) := ⟨_, rfl⟩
                      replace H : (if ((rd_T48 ((rd_T26 l0 x5_1).f1) x6_2).f0) > (-9223372036854775808) then (if y170.length < 4398046511104 then ((some (y170 ++ [(⟨1, wrap64 (((rd_T48 ((rd_T26 l0 x5_1).f1) x6_2).f0) - 1), (⟨#[]⟩ : ByteArray)⟩ : S30)] : List (S30))).bind fun y173 => (if ((rd_T48 ((rd_T26 l0 x5_1).f1) x6_2).f1) < 9223372036854775807 then (if y173.length < 4398046511104 then (arbourref03_Points.l1 k2 l0 (y173 ++ [(⟨1, wrap64 (((rd_T48 ((rd_T26 l0 x5_1).f1) x6_2).f1) + 1), (⟨#[]⟩ : ByteArray)⟩ : S30)]) (⟨#[126]⟩ : ByteArray) x5_1 (wrap64 (x6_2 + 1))) else (none)) else (arbourref03_Points.l1 k2 l0 y173 (⟨#[126]⟩ : ByteArray) x5_1 (wrap64 (x6_2 + 1))))) else (none)) else (if ((rd_T48 ((rd_T26 l0 x5_1).f1) x6_2).f1) < 9223372036854775807 then (if y170.length < 4398046511104 then (arbourref03_Points.l1 k2 l0 (y170 ++ [(⟨1, wrap64 (((rd_T48 ((rd_T26 l0 x5_1).f1) x6_2).f1) + 1), (⟨#[]⟩ : ByteArray)⟩ : S30)]) (⟨#[126]⟩ : ByteArray) x5_1 (wrap64 (x6_2 + 1))) else (none)) else (arbourref03_Points.l1 k2 l0 y170 (⟨#[126]⟩ : ByteArray) x5_1 (wrap64 (x6_2 + 1))))) = some r := by first | (rw [hy170]; with_reducible exact H) | (have H2_ := (Option.bind_some _ _).symm.trans H; rw [hy170]; with_reducible exact H2_) | (have H2_ := (Option.bind_some _ _).symm.trans H; with_reducible exact H2_) | with_reducible exact H | (rw [hy170]; exact H) | exact H
                      have Ny170 := Aside0.mk hy170
                      clear hy170
                      by_cases c10 : ((rd_T48 ((rd_T26 l0 x5_1).f1) x6_2).f0) > (-9223372036854775808)
                      · rw [if_pos c10] at H
                        have c10b0 : decide ((-9223372036854775808) < ((rd_T48 ((rd_T26 l0 x5_1).f1) x6_2).f0)) = true := decide_eq_true c10
                        clear c10
                        by_cases c11 : y170.length < 4398046511104
                        · rw [if_pos c11] at H
                          have LMc11 := Aside0.mk c11
                          clear c11
                          obtain ⟨y173, hy173⟩ : ∃ y_ : List (S30), y_ = (y170 ++ [(⟨1, wrap64 (((rd_T48 ((rd_T26 l0 x5_1).f1) x6_2).f0) - 1), (⟨#[]⟩ : ByteArray)⟩ : S30)]) := ⟨_, rfl⟩
                          replace H : (if ((rd_T48 ((rd_T26 l0 x5_1).f1) x6_2).f1) < 9223372036854775807 then (if y173.length < 4398046511104 then (arbourref03_Points.l1 k2 l0 (y173 ++ [(⟨1, wrap64 (((rd_T48 ((rd_T26 l0 x5_1).f1) x6_2).f1) + 1), (⟨#[]⟩ : ByteArray)⟩ : S30)]) (⟨#[126]⟩ : ByteArray) x5_1 (wrap64 (x6_2 + 1))) else (none)) else (arbourref03_Points.l1 k2 l0 y173 (⟨#[126]⟩ : ByteArray) x5_1 (wrap64 (x6_2 + 1)))) = some r := by first | (rw [hy173]; with_reducible exact H) | (have H2_ := (Option.bind_some _ _).symm.trans H; rw [hy173]; with_reducible exact H2_) | (have H2_ := (Option.bind_some _ _).symm.trans H; with_reducible exact H2_) | with_reducible exact H | (rw [hy173]; exact H) | exact H
                          have Ny173 := Aside0.mk hy173
                          clear hy173
                          by_cases c12 : ((rd_T48 ((rd_T26 l0 x5_1).f1) x6_2).f1) < 9223372036854775807
                          · rw [if_pos c12] at H
                            have c12b0 : decide (((rd_T48 ((rd_T26 l0 x5_1).f1) x6_2).f1) < 9223372036854775807) = true := decide_eq_true c12
                            clear c12
                            by_cases c13 : y173.length < 4398046511104
                            · rw [if_pos c13] at H
                              have LMc13 := Aside0.mk c13
                              clear c13
                              obtain ⟨y176, hy176⟩ : ∃ y_ : List (S30), y_ = (y173 ++ [(⟨1, wrap64 (((rd_T48 ((rd_T26 l0 x5_1).f1) x6_2).f1) + 1), (⟨#[]⟩ : ByteArray)⟩ : S30)]) := ⟨_, rfl⟩
                              replace H : (arbourref03_Points.l1 k2 l0 y176 (⟨#[126]⟩ : ByteArray) x5_1 (wrap64 (x6_2 + 1))) = some r := by first | (rw [hy176]; with_reducible exact H) | (have H2_ := (Option.bind_some _ _).symm.trans H; rw [hy176]; with_reducible exact H2_) | (have H2_ := (Option.bind_some _ _).symm.trans H; with_reducible exact H2_) | with_reducible exact H | (rw [hy176]; exact H) | exact H
                              have Ny176 := Aside0.mk hy176
                              clear hy176
                              have H' := Aside0.mk H
                              clear H
                              have p163 : 0 ≤ (x5_1 : Int) := of_decide_eq_true (by first | (with_reducible assumption) | assumption)
                              have q163 : x5_1 < (l0.length : Int) := of_decide_eq_true (by first | (with_reducible assumption) | assumption)
                              obtain ⟨ad163, A163_1, c163_1, A163_3, c163_3, e163, hx163_0, hx163_1, hx163_2, hx163_3, hl163_1, hi163_1, hl163_3, hi163_3⟩ := at_T26 HR0.out x5_1 p163 q163
                              cases e163
                              replace hx163_0 := (HB.out.cell (World.block_lt_of_cell? w _ hx163_0)).trans hx163_0
                              replace hx163_1 := (HB.out.cell (World.block_lt_of_cell? w _ hx163_1)).trans hx163_1
                              replace hx163_2 := (HB.out.cell (World.block_lt_of_cell? w _ hx163_2)).trans hx163_2
                              replace hx163_3 := (HB.out.cell (World.block_lt_of_cell? w _ hx163_3)).trans hx163_3
                              have HR163_1 := Aside0.mk hi163_1
                              have HC163_1 := Aside0.mk hl163_1
                              clear hi163_1 hl163_1
                              have HR163_3 := Aside0.mk hi163_3
                              have HC163_3 := Aside0.mk hl163_3
                              clear hi163_3 hl163_3
                              replace p163 := eq_true p163
                              replace q163 := eq_true q163
                              have p164 : 0 ≤ (x5_1 : Int) := of_decide_eq_true (by first | (with_reducible assumption) | assumption)
                              have q164 : x5_1 < (l0.length : Int) := of_decide_eq_true (by first | (with_reducible assumption) | assumption)
                              obtain ⟨ad164, A164_1, c164_1, A164_3, c164_3, e164, hx164_0, hx164_1, hx164_2, hx164_3, hl164_1, hi164_1, hl164_3, hi164_3⟩ := at_T26 HR0.out x5_1 p164 q164
                              obtain rfl : ad163 = ad164 := (by injection e164)
                              replace hx164_0 := (HB.out.cell (World.block_lt_of_cell? w _ hx164_0)).trans hx164_0
                              replace hx164_1 := (HB.out.cell (World.block_lt_of_cell? w _ hx164_1)).trans hx164_1
                              replace hx164_2 := (HB.out.cell (World.block_lt_of_cell? w _ hx164_2)).trans hx164_2
                              replace hx164_3 := (HB.out.cell (World.block_lt_of_cell? w _ hx164_3)).trans hx164_3
                              have HR164_1 := Aside0.mk hi164_1
                              have HC164_1 := Aside0.mk hl164_1
                              clear hi164_1 hl164_1
                              have HR164_3 := Aside0.mk hi164_3
                              have HC164_3 := Aside0.mk hl164_3
                              clear hi164_3 hl164_3
                              replace p164 := eq_true p164
                              replace q164 := eq_true q164
                              have ea_ := Option.some.inj (hx163_1.symm.trans hx164_1)
                              injection ea_ with ea_ en_ ec_
                              subst ea_
                              subst ec_
                              clear en_
                              have ea_ := Option.some.inj (hx163_3.symm.trans hx164_3)
                              injection ea_ with ea_ en_ ec_
                              subst ea_
                              subst ec_
                              clear en_
                              have p165 : 0 ≤ (x6_2 : Int) := of_decide_eq_true (by first | (with_reducible assumption) | assumption)
                              have q165 : x6_2 < (((rd_T26 l0 x5_1).f1).length : Int) := of_decide_eq_true (by first | (with_reducible assumption) | assumption)
                              obtain ⟨ad165, e165, hx165_0, hx165_1⟩ := at_T48 HR164_1.out x6_2 p165 q165
                              cases e165
                              replace hx165_0 := (HB.out.cell (World.block_lt_of_cell? w _ hx165_0)).trans hx165_0
                              replace hx165_1 := (HB.out.cell (World.block_lt_of_cell? w _ hx165_1)).trans hx165_1
                              replace p165 := eq_true p165
                              replace q165 := eq_true q165
                              go_wp2_with (first | ((with_reducible refine gate_dst (N := 7) rfl ?_); refine box_event ?hg (N := 7) ?hd (cs := #[.int .i64 0, .int .i64 0]) (t := 48) ?hr ?_; (case hd => rfl); (case hg => rfl); (case hr => first | (go_simp; done) | (go_simp; rfl)); intro gb166 hg w14 hbox hb; have n0_ := Aside0.mk (Kd.R_below (by (with_reducible repeat (first | apply Kd.R_alloc | apply Kd.R_drewN | apply Kd.R_drew)); exact HO_3.out) hb); have n1_ := Aside0.mk (below_step (by repeat (first | (with_reducible first | exact HB.out | apply below_alloc | apply pw_below_drewN | apply below_drew1) | exact HB.out)) hb); have n2_ := Aside0.mk (hbox); have n3_ := Aside0.mk ((by rw [hg]; exact (below_size (by repeat (first | (with_reducible first | exact HB.out | apply below_alloc | apply pw_below_drewN | apply below_drew1) | exact HB.out))) : w.heap.size ≤ gb166)); have n4_ := Aside0.mk ((by rw [hg]; exact (below_size (by repeat (first | (with_reducible first | exact HB.out | apply below_alloc | apply pw_below_drewN | apply below_drew1) | exact HB.out))) : w.heap.size ≤ gb166)); clear HO_3; clear HB; have HO_3 := n0_; have HB := n1_; have BK166 := n2_; have GW166 := n3_; have GE166 := n4_; clear n0_ n1_ n2_ n3_ n4_; clear hb hbox hg; have hcz15_0 : w14.cell? ⟨gb166, 0, none⟩ = some (.int .i64 0) := (blk_cell BK166.out 0).trans rfl; have hcz15_1 : w14.cell? ⟨gb166, 1, none⟩ = some (.int .i64 0) := (blk_cell BK166.out 1).trans rfl; have hfz15_0 := blk_frozen BK166.out 0; have hfz15_1 := blk_frozen BK166.out 1) | ((with_reducible refine gate_dst (N := 45) rfl ?_); refine Kd.R_lit k30 _ 30 ?hg (N := 45) ?hd (xs := ([(⟨1, (rd_T48 ((rd_T26 l0 x5_1).f1) x6_2).f0, (⟨#[]⟩ : ByteArray)⟩ : S30), (⟨1, (rd_T48 ((rd_T26 l0 x5_1).f1) x6_2).f1, (⟨#[]⟩ : ByteArray)⟩ : S30)] : List (S30))) (inner := [.int .i64 1, .int .i64 ((rd_T48 ((rd_T26 l0 x5_1).f1) x6_2).f0), .string (⟨#[]⟩ : ByteArray), .int .i64 1, .int .i64 ((rd_T48 ((rd_T26 l0 x5_1).f1) x6_2).f1), .string (⟨#[]⟩ : ByteArray)]) (ok := fun _ => True) (okp := fun _ => True) ?hr ?hp (fun _ hk => hk) trivial (Below.refl _ _) (Nat.le_refl _) (by simp) ?_; (case hd => rfl); (case hg => rfl); (case hr => first | (go_simp; done) | (go_simp; rfl)); (case hp => exact (Reps.c3 (show Kd.M k30 _ _ _ (⟨1, (rd_T48 ((rd_T26 l0 x5_1).f1) x6_2).f0, (⟨#[]⟩ : ByteArray)⟩ : S30) [.int .i64 1, .int .i64 ((rd_T48 ((rd_T26 l0 x5_1).f1) x6_2).f0), .string (⟨#[]⟩ : ByteArray)] from (k30_mkM _ _ _ (⟨1, (rd_T48 ((rd_T26 l0 x5_1).f1) x6_2).f0, (⟨#[]⟩ : ByteArray)⟩ : S30) )) (Reps.c3 (show Kd.M k30 _ _ _ (⟨1, (rd_T48 ((rd_T26 l0 x5_1).f1) x6_2).f1, (⟨#[]⟩ : ByteArray)⟩ : S30) [.int .i64 1, .int .i64 ((rd_T48 ((rd_T26 l0 x5_1).f1) x6_2).f1), .string (⟨#[]⟩ : ByteArray)] from (k30_mkM _ _ _ (⟨1, (rd_T48 ((rd_T26 l0 x5_1).f1) x6_2).f1, (⟨#[]⟩ : ByteArray)⟩ : S30) )) (Reps.none _ _)))); intro v168 w16 ho17 hb hg_ hnew_; clear hg_ hnew_; (first | rw [← Ny167.out] at ho17 | (simp only [Int.reduceToNat] at ho17; rw [← Ny167.out] at ho17)); have n0_ := Aside0.mk (Kd.R_elder' (by (with_reducible repeat (first | apply Kd.R_alloc | apply Kd.R_drewN | apply Kd.R_drew)); exact (Kd.R_mono (Kd.R_far (p := ⟨gb166, 1, none⟩) (Kd.R_far (p := ⟨gb166, 0, none⟩) (Kd.R_types HO_3.out BK166.out (by decide)) (fun _ hk => hk.2) (.int .i64 ((rd_T48 ((rd_T26 l0 x5_1).f1) x6_2).f0))) (fun _ hk => hk.2) (.int .i64 ((rd_T48 ((rd_T26 l0 x5_1).f1) x6_2).f1))) (fun _ h_ => h_.1))) (Kd.R_base ho17) hb); have n1_ := Aside0.mk (Kd.R_lower (Kd.R_new' ho17 (Kd.R_lt (by (with_reducible repeat (first | apply Kd.R_alloc | apply Kd.R_drewN | apply Kd.R_drew)); exact (Kd.R_mono (Kd.R_far (p := ⟨gb166, 1, none⟩) (Kd.R_far (p := ⟨gb166, 0, none⟩) (Kd.R_types HO_3.out BK166.out (by decide)) (fun _ hk => hk.2) (.int .i64 ((rd_T48 ((rd_T26 l0 x5_1).f1) x6_2).f0))) (fun _ hk => hk.2) (.int .i64 ((rd_T48 ((rd_T26 l0 x5_1).f1) x6_2).f1))) (fun _ h_ => h_.1))))) (below_size (by repeat (first | (with_reducible first | exact HB.out | apply below_alloc | apply pw_below_drewN | apply below_drew1 | refine below_set ?_ GE166.out) | exact HB.out)))); have n2_ := Aside0.mk (blk_below (g := gb166) (o := .cells #[.int .i64 ((rd_T48 ((rd_T26 l0 x5_1).f1) x6_2).f0), .int .i64 ((rd_T48 ((rd_T26 l0 x5_1).f1) x6_2).f1)] 48 (0, 0)) (by (with_reducible repeat (first | refine blk_drewN ?_ _ | refine blk_drew ?_ | refine blk_alloc ?_ _)); refine blk_put (cs := #[.int .i64 ((rd_T48 ((rd_T26 l0 x5_1).f1) x6_2).f0), .int .i64 0]) ?_ 1 _ rfl; (with_reducible repeat (first | refine blk_drewN ?_ _ | refine blk_drew ?_ | refine blk_alloc ?_ _)); refine blk_put (cs := #[.int .i64 0, .int .i64 0]) ?_ 0 _ rfl; (with_reducible repeat (first | refine blk_drewN ?_ _ | refine blk_drew ?_ | refine blk_alloc ?_ _)); exact BK166.out) hb); have n3_ := Aside0.mk (below_step (by repeat (first | (with_reducible first | exact HB.out | apply below_alloc | apply pw_below_drewN | apply below_drew1 | refine below_set ?_ GE166.out) | exact HB.out)) hb); clear HO_3; clear BK166; clear HB; have HO_3 := n0_; have HO169 := n1_; have BK166 := n2_; have HB := n3_; clear n0_ n1_ n2_ n3_; clear hb ho17; obtain ⟨Ao19, co19, eo19⟩ := Kd.R_slice HO169.out; subst eo19) | ((with_reducible refine gate_builtin (b := .append) (xs := #[.tmp 38, .tmp 45]) rfl ?_); at_builtin; refine Kd.R_append_rows k30 (w0 := w) w.heap.size rfl (.tmp 38) (.tmp 45) 64 30 (.agg #[(.int .i64 0), (.int .i64 0), (.string ⟨#[]⟩)]) 32 rfl Try.underlying64 info30 rfl (by decide) (by omega) u3 x3_2 y167 _ _ _ (fun k_ => some k_ ≠ (.slice Ao19 y167.length co19 : Value).ownBlock) (fun _ => False) rfl rfl ?aO ?aR (fun _ _ h => h) (fun _ h => h.elim) ?aF ?aB ?aS ?aL ?_; (case aR => repeat (first | exact (Kd.R_reads' HO169.out).2.2 | (with_reducible refine Kd.C_alloc ?_ _) | (with_reducible refine Kd.C_drewN ?_ _) | (with_reducible refine Kd.C_drew ?_))); (case aB => exact (by repeat (first | (with_reducible first | exact HB.out | apply below_alloc | apply pw_below_drewN | apply below_drew1 | refine below_set ?_ GE166.out) | exact HB.out))); (case aF => exact (fun k_ hk => Kd.fresh' (Kd.R_lt (by (with_reducible repeat (first | apply Kd.R_alloc | apply Kd.R_drewN | apply Kd.R_drew)); exact HO169.out)) k_ hk)); (case aO => exact (by (with_reducible repeat (first | apply Kd.R_alloc | apply Kd.R_drewN | apply Kd.R_drew)); exact Kd.R_mono HO_3.out (fun _ hk => hk.2))); (case aS => exact (below_size (by repeat (first | (with_reducible first | exact HB.out | apply below_alloc | apply pw_below_drewN | apply below_drew1 | refine below_set ?_ GE166.out) | exact HB.out)))); (case aL => have := LMc9.out; omega); intro v171 w18 ho hb hg hat; rw [← Ny170.out] at ho; have n0_ := Aside0.mk (blk_grown (g := gb166) (o := .cells #[.int .i64 ((rd_T48 ((rd_T26 l0 x5_1).f1) x6_2).f0), .int .i64 ((rd_T48 ((rd_T26 l0 x5_1).f1) x6_2).f1)] 48 (0, 0)) (by (with_reducible repeat (first | refine blk_drewN ?_ _ | refine blk_drew ?_ | refine blk_alloc ?_ _)); exact BK166.out) hg (Kd.R_ne HO_3.out BK166.out (by decide))); have n1_ := Aside0.mk (Kd.R_after (ok := (fun _ => True)) (by (with_reducible repeat (first | apply Kd.R_alloc | apply Kd.R_drewN | apply Kd.R_drew)); exact HO169.out) hg hat); have n2_ := Aside0.mk (hb); have n3_ := Aside0.mk (ho); clear BK166; clear HO169; clear HB; clear HO_3; have BK166 := n0_; have HO169 := n1_; have HB := n2_; have HO172 := n3_; clear n0_ n1_ n2_ n3_; clear ho hb hg hat; have hcz20_0 : w18.cell? ⟨gb166, 0, none⟩ = some (.int .i64 ((rd_T48 ((rd_T26 l0 x5_1).f1) x6_2).f0)) := (blk_cell BK166.out 0).trans rfl; have hcz20_1 : w18.cell? ⟨gb166, 1, none⟩ = some (.int .i64 ((rd_T48 ((rd_T26 l0 x5_1).f1) x6_2).f1)) := (blk_cell BK166.out 1).trans rfl; have hfz20_0 := blk_frozen BK166.out 0; have hfz20_1 := blk_frozen BK166.out 1) | ((with_reducible refine gate_builtin (b := .append) (xs := #[.tmp 50, .tmp 55]) rfl ?_); at_builtin; refine Kd.R_append k30 (w0 := w) w.heap.size rfl (.tmp 50) (.tmp 55) 64 30 (.agg #[(.int .i64 0), (.int .i64 0), (.string ⟨#[]⟩)]) 32 rfl Try.underlying64 info30 rfl (by decide) (by omega) v171 y170 (⟨1, wrap64 (((rd_T48 ((rd_T26 l0 x5_1).f1) x6_2).f0) - 1), (⟨#[]⟩ : ByteArray)⟩ : S30) [.int .i64 1, .int .i64 (wrap64 (((rd_T48 ((rd_T26 l0 x5_1).f1) x6_2).f0) - 1)), .string (⟨#[]⟩ : ByteArray)] (fun k_ => some k_ ≠ (.slice Ao19 y167.length co19 : Value).ownBlock) (fun _ => False) rfl rfl ?aP (fun _ hk => hk.elim) ?aF ?aO ?aB ?aS ?aL ?_; (case aP => exact k30_mkM _ _ _ (⟨1, wrap64 (((rd_T48 ((rd_T26 l0 x5_1).f1) x6_2).f0) - 1), (⟨#[]⟩ : ByteArray)⟩ : S30)); (case aB => exact (by repeat (first | (with_reducible first | exact HB.out | apply below_alloc | apply pw_below_drewN | apply below_drew1 | refine below_set ?_ GE166.out) | exact HB.out))); (case aF => exact (fun k_ hk => Kd.fresh' (Kd.R_lt (by (with_reducible repeat (first | apply Kd.R_alloc | apply Kd.R_drewN | apply Kd.R_drew)); exact HO169.out)) k_ hk)); (case aO => exact (by (with_reducible repeat (first | apply Kd.R_alloc | apply Kd.R_drewN | apply Kd.R_drew)); exact HO172.out)); (case aS => exact (below_size (by repeat (first | (with_reducible first | exact HB.out | apply below_alloc | apply pw_below_drewN | apply below_drew1 | refine below_set ?_ GE166.out) | exact HB.out)))); (case aL => have := LMc11.out; omega); intro v174 w21 ho hb hg hat; rw [← Ny173.out] at ho; have n0_ := Aside0.mk (blk_grown (g := gb166) (o := .cells #[.int .i64 ((rd_T48 ((rd_T26 l0 x5_1).f1) x6_2).f0), .int .i64 ((rd_T48 ((rd_T26 l0 x5_1).f1) x6_2).f1)] 48 (0, 0)) (by (with_reducible repeat (first | refine blk_drewN ?_ _ | refine blk_drew ?_ | refine blk_alloc ?_ _)); exact BK166.out) hg (Kd.R_ne HO172.out BK166.out (by decide))); have n1_ := Aside0.mk (Kd.R_after (ok := (fun _ => True)) (by (with_reducible repeat (first | apply Kd.R_alloc | apply Kd.R_drewN | apply Kd.R_drew)); exact HO169.out) hg hat); have n2_ := Aside0.mk (hb); have n3_ := Aside0.mk (ho); clear BK166; clear HO169; clear HB; clear HO172; have BK166 := n0_; have HO169 := n1_; have HB := n2_; have HO175 := n3_; clear n0_ n1_ n2_ n3_; clear ho hb hg hat; have hcz22_0 : w21.cell? ⟨gb166, 0, none⟩ = some (.int .i64 ((rd_T48 ((rd_T26 l0 x5_1).f1) x6_2).f0)) := (blk_cell BK166.out 0).trans rfl; have hcz22_1 : w21.cell? ⟨gb166, 1, none⟩ = some (.int .i64 ((rd_T48 ((rd_T26 l0 x5_1).f1) x6_2).f1)) := (blk_cell BK166.out 1).trans rfl; have hfz22_0 := blk_frozen BK166.out 0; have hfz22_1 := blk_frozen BK166.out 1) | ((with_reducible refine gate_builtin (b := .append) (xs := #[.tmp 60, .tmp 65]) rfl ?_); at_builtin; refine Kd.R_append k30 (w0 := w) w.heap.size rfl (.tmp 60) (.tmp 65) 64 30 (.agg #[(.int .i64 0), (.int .i64 0), (.string ⟨#[]⟩)]) 32 rfl Try.underlying64 info30 rfl (by decide) (by omega) v174 y173 (⟨1, wrap64 (((rd_T48 ((rd_T26 l0 x5_1).f1) x6_2).f1) + 1), (⟨#[]⟩ : ByteArray)⟩ : S30) [.int .i64 1, .int .i64 (wrap64 (((rd_T48 ((rd_T26 l0 x5_1).f1) x6_2).f1) + 1)), .string (⟨#[]⟩ : ByteArray)] (fun k_ => some k_ ≠ (.slice Ao19 y167.length co19 : Value).ownBlock) (fun _ => False) rfl rfl ?aP (fun _ hk => hk.elim) ?aF ?aO ?aB ?aS ?aL ?_; (case aP => exact k30_mkM _ _ _ (⟨1, wrap64 (((rd_T48 ((rd_T26 l0 x5_1).f1) x6_2).f1) + 1), (⟨#[]⟩ : ByteArray)⟩ : S30)); (case aB => exact (by repeat (first | (with_reducible first | exact HB.out | apply below_alloc | apply pw_below_drewN | apply below_drew1 | refine below_set ?_ GE166.out) | exact HB.out))); (case aF => exact (fun k_ hk => Kd.fresh' (Kd.R_lt (by (with_reducible repeat (first | apply Kd.R_alloc | apply Kd.R_drewN | apply Kd.R_drew)); exact HO169.out)) k_ hk)); (case aO => exact (by (with_reducible repeat (first | apply Kd.R_alloc | apply Kd.R_drewN | apply Kd.R_drew)); exact HO175.out)); (case aS => exact (below_size (by repeat (first | (with_reducible first | exact HB.out | apply below_alloc | apply pw_below_drewN | apply below_drew1 | refine below_set ?_ GE166.out) | exact HB.out)))); (case aL => have := LMc13.out; omega); intro v177 w23 ho hb hg hat; rw [← Ny176.out] at ho; have n0_ := Aside0.mk (blk_grown (g := gb166) (o := .cells #[.int .i64 ((rd_T48 ((rd_T26 l0 x5_1).f1) x6_2).f0), .int .i64 ((rd_T48 ((rd_T26 l0 x5_1).f1) x6_2).f1)] 48 (0, 0)) (by (with_reducible repeat (first | refine blk_drewN ?_ _ | refine blk_drew ?_ | refine blk_alloc ?_ _)); exact BK166.out) hg (Kd.R_ne HO175.out BK166.out (by decide))); have n1_ := Aside0.mk (Kd.R_after (ok := (fun _ => True)) (by (with_reducible repeat (first | apply Kd.R_alloc | apply Kd.R_drewN | apply Kd.R_drew)); exact HO169.out) hg hat); have n2_ := Aside0.mk (hb); have n3_ := Aside0.mk (ho); clear BK166; clear HO169; clear HB; clear HO175; have BK166 := n0_; have HO169 := n1_; have HB := n2_; have HO178 := n3_; clear n0_ n1_ n2_ n3_; clear ho hb hg hat))
                              go_roundg k2
                              case measure => have := HK1.out; have := HK2.out; omega
                              case rel => exact ⟨(y176), (wrap64 (x6_2 + 1)), (by first | rfl | (simp; done) | (simp [*]; done)), H', ⟨by have := HK1.out; have := HK2.out; omega⟩, ⟨by (with_reducible repeat (first | apply Kd.R_alloc | apply Kd.R_drewN | apply Kd.R_drew)); exact Kd.R_mono HO178.out (fun _ hk => trivial)⟩, ⟨by repeat (first | (with_reducible first | exact HB.out | apply below_alloc | apply pw_below_drewN | apply below_drew1 | refine below_set ?_ GE166.out) | exact HB.out)⟩⟩
                            · rw [if_neg c13] at H
                              exact absurd H (by simp)
                          · rw [if_neg c12] at H
                            have c12b0 : decide (((rd_T48 ((rd_T26 l0 x5_1).f1) x6_2).f1) < 9223372036854775807) = false := decide_eq_false c12
                            clear c12
                            have H' := Aside0.mk H
                            clear H
                            have p163 : 0 ≤ (x5_1 : Int) := of_decide_eq_true (by first | (with_reducible assumption) | assumption)
                            have q163 : x5_1 < (l0.length : Int) := of_decide_eq_true (by first | (with_reducible assumption) | assumption)
                            obtain ⟨ad163, A163_1, c163_1, A163_3, c163_3, e163, hx163_0, hx163_1, hx163_2, hx163_3, hl163_1, hi163_1, hl163_3, hi163_3⟩ := at_T26 HR0.out x5_1 p163 q163
                            cases e163
                            replace hx163_0 := (HB.out.cell (World.block_lt_of_cell? w _ hx163_0)).trans hx163_0
                            replace hx163_1 := (HB.out.cell (World.block_lt_of_cell? w _ hx163_1)).trans hx163_1
                            replace hx163_2 := (HB.out.cell (World.block_lt_of_cell? w _ hx163_2)).trans hx163_2
                            replace hx163_3 := (HB.out.cell (World.block_lt_of_cell? w _ hx163_3)).trans hx163_3
                            have HR163_1 := Aside0.mk hi163_1
                            have HC163_1 := Aside0.mk hl163_1
                            clear hi163_1 hl163_1
                            have HR163_3 := Aside0.mk hi163_3
                            have HC163_3 := Aside0.mk hl163_3
                            clear hi163_3 hl163_3
                            replace p163 := eq_true p163
                            replace q163 := eq_true q163
                            have p164 : 0 ≤ (x5_1 : Int) := of_decide_eq_true (by first | (with_reducible assumption) | assumption)
                            have q164 : x5_1 < (l0.length : Int) := of_decide_eq_true (by first | (with_reducible assumption) | assumption)
                            obtain ⟨ad164, A164_1, c164_1, A164_3, c164_3, e164, hx164_0, hx164_1, hx164_2, hx164_3, hl164_1, hi164_1, hl164_3, hi164_3⟩ := at_T26 HR0.out x5_1 p164 q164
                            obtain rfl : ad163 = ad164 := (by injection e164)
                            replace hx164_0 := (HB.out.cell (World.block_lt_of_cell? w _ hx164_0)).trans hx164_0
                            replace hx164_1 := (HB.out.cell (World.block_lt_of_cell? w _ hx164_1)).trans hx164_1
                            replace hx164_2 := (HB.out.cell (World.block_lt_of_cell? w _ hx164_2)).trans hx164_2
                            replace hx164_3 := (HB.out.cell (World.block_lt_of_cell? w _ hx164_3)).trans hx164_3
                            have HR164_1 := Aside0.mk hi164_1
                            have HC164_1 := Aside0.mk hl164_1
                            clear hi164_1 hl164_1
                            have HR164_3 := Aside0.mk hi164_3
                            have HC164_3 := Aside0.mk hl164_3
                            clear hi164_3 hl164_3
                            replace p164 := eq_true p164
                            replace q164 := eq_true q164
                            have ea_ := Option.some.inj (hx163_1.symm.trans hx164_1)
                            injection ea_ with ea_ en_ ec_
                            subst ea_
                            subst ec_
                            clear en_
                            have ea_ := Option.some.inj (hx163_3.symm.trans hx164_3)
                            injection ea_ with ea_ en_ ec_
                            subst ea_
                            subst ec_
                            clear en_
                            have p165 : 0 ≤ (x6_2 : Int) := of_decide_eq_true (by first | (with_reducible assumption) | assumption)
                            have q165 : x6_2 < (((rd_T26 l0 x5_1).f1).length : Int) := of_decide_eq_true (by first | (with_reducible assumption) | assumption)
                            obtain ⟨ad165, e165, hx165_0, hx165_1⟩ := at_T48 HR164_1.out x6_2 p165 q165
                            cases e165
                            replace hx165_0 := (HB.out.cell (World.block_lt_of_cell? w _ hx165_0)).trans hx165_0
                            replace hx165_1 := (HB.out.cell (World.block_lt_of_cell? w _ hx165_1)).trans hx165_1
                            replace p165 := eq_true p165
                            replace q165 := eq_true q165
                            go_wp2_with (first | ((with_reducible refine gate_dst (N := 7) rfl ?_); refine box_event ?hg (N := 7) ?hd (cs := #[.int .i64 0, .int .i64 0]) (t := 48) ?hr ?_; (case hd => rfl); (case hg => rfl); (case hr => first | (go_simp; done) | (go_simp; rfl)); intro gb166 hg w24 hbox hb; have n0_ := Aside0.mk (Kd.R_below (by (with_reducible repeat (first | apply Kd.R_alloc | apply Kd.R_drewN | apply Kd.R_drew)); exact HO_3.out) hb); have n1_ := Aside0.mk (below_step (by repeat (first | (with_reducible first | exact HB.out | apply below_alloc | apply pw_below_drewN | apply below_drew1) | exact HB.out)) hb); have n2_ := Aside0.mk (hbox); have n3_ := Aside0.mk ((by rw [hg]; exact (below_size (by repeat (first | (with_reducible first | exact HB.out | apply below_alloc | apply pw_below_drewN | apply below_drew1) | exact HB.out))) : w.heap.size ≤ gb166)); have n4_ := Aside0.mk ((by rw [hg]; exact (below_size (by repeat (first | (with_reducible first | exact HB.out | apply below_alloc | apply pw_below_drewN | apply below_drew1) | exact HB.out))) : w.heap.size ≤ gb166)); clear HO_3; clear HB; have HO_3 := n0_; have HB := n1_; have BK166 := n2_; have GW166 := n3_; have GE166 := n4_; clear n0_ n1_ n2_ n3_ n4_; clear hb hbox hg; have hcz25_0 : w24.cell? ⟨gb166, 0, none⟩ = some (.int .i64 0) := (blk_cell BK166.out 0).trans rfl; have hcz25_1 : w24.cell? ⟨gb166, 1, none⟩ = some (.int .i64 0) := (blk_cell BK166.out 1).trans rfl; have hfz25_0 := blk_frozen BK166.out 0; have hfz25_1 := blk_frozen BK166.out 1) | ((with_reducible refine gate_dst (N := 45) rfl ?_); refine Kd.R_lit k30 _ 30 ?hg (N := 45) ?hd (xs := ([(⟨1, (rd_T48 ((rd_T26 l0 x5_1).f1) x6_2).f0, (⟨#[]⟩ : ByteArray)⟩ : S30), (⟨1, (rd_T48 ((rd_T26 l0 x5_1).f1) x6_2).f1, (⟨#[]⟩ : ByteArray)⟩ : S30)] : List (S30))) (inner := [.int .i64 1, .int .i64 ((rd_T48 ((rd_T26 l0 x5_1).f1) x6_2).f0), .string (⟨#[]⟩ : ByteArray), .int .i64 1, .int .i64 ((rd_T48 ((rd_T26 l0 x5_1).f1) x6_2).f1), .string (⟨#[]⟩ : ByteArray)]) (ok := fun _ => True) (okp := fun _ => True) ?hr ?hp (fun _ hk => hk) trivial (Below.refl _ _) (Nat.le_refl _) (by simp) ?_; (case hd => rfl); (case hg => rfl); (case hr => first | (go_simp; done) | (go_simp; rfl)); (case hp => exact (Reps.c3 (show Kd.M k30 _ _ _ (⟨1, (rd_T48 ((rd_T26 l0 x5_1).f1) x6_2).f0, (⟨#[]⟩ : ByteArray)⟩ : S30) [.int .i64 1, .int .i64 ((rd_T48 ((rd_T26 l0 x5_1).f1) x6_2).f0), .string (⟨#[]⟩ : ByteArray)] from (k30_mkM _ _ _ (⟨1, (rd_T48 ((rd_T26 l0 x5_1).f1) x6_2).f0, (⟨#[]⟩ : ByteArray)⟩ : S30) )) (Reps.c3 (show Kd.M k30 _ _ _ (⟨1, (rd_T48 ((rd_T26 l0 x5_1).f1) x6_2).f1, (⟨#[]⟩ : ByteArray)⟩ : S30) [.int .i64 1, .int .i64 ((rd_T48 ((rd_T26 l0 x5_1).f1) x6_2).f1), .string (⟨#[]⟩ : ByteArray)] from (k30_mkM _ _ _ (⟨1, (rd_T48 ((rd_T26 l0 x5_1).f1) x6_2).f1, (⟨#[]⟩ : ByteArray)⟩ : S30) )) (Reps.none _ _)))); intro v168 w26 ho27 hb hg_ hnew_; clear hg_ hnew_; (first | rw [← Ny167.out] at ho27 | (simp only [Int.reduceToNat] at ho27; rw [← Ny167.out] at ho27)); have n0_ := Aside0.mk (Kd.R_elder' (by (with_reducible repeat (first | apply Kd.R_alloc | apply Kd.R_drewN | apply Kd.R_drew)); exact (Kd.R_mono (Kd.R_far (p := ⟨gb166, 1, none⟩) (Kd.R_far (p := ⟨gb166, 0, none⟩) (Kd.R_types HO_3.out BK166.out (by decide)) (fun _ hk => hk.2) (.int .i64 ((rd_T48 ((rd_T26 l0 x5_1).f1) x6_2).f0))) (fun _ hk => hk.2) (.int .i64 ((rd_T48 ((rd_T26 l0 x5_1).f1) x6_2).f1))) (fun _ h_ => h_.1))) (Kd.R_base ho27) hb); have n1_ := Aside0.mk (Kd.R_lower (Kd.R_new' ho27 (Kd.R_lt (by (with_reducible repeat (first | apply Kd.R_alloc | apply Kd.R_drewN | apply Kd.R_drew)); exact (Kd.R_mono (Kd.R_far (p := ⟨gb166, 1, none⟩) (Kd.R_far (p := ⟨gb166, 0, none⟩) (Kd.R_types HO_3.out BK166.out (by decide)) (fun _ hk => hk.2) (.int .i64 ((rd_T48 ((rd_T26 l0 x5_1).f1) x6_2).f0))) (fun _ hk => hk.2) (.int .i64 ((rd_T48 ((rd_T26 l0 x5_1).f1) x6_2).f1))) (fun _ h_ => h_.1))))) (below_size (by repeat (first | (with_reducible first | exact HB.out | apply below_alloc | apply pw_below_drewN | apply below_drew1 | refine below_set ?_ GE166.out) | exact HB.out)))); have n2_ := Aside0.mk (blk_below (g := gb166) (o := .cells #[.int .i64 ((rd_T48 ((rd_T26 l0 x5_1).f1) x6_2).f0), .int .i64 ((rd_T48 ((rd_T26 l0 x5_1).f1) x6_2).f1)] 48 (0, 0)) (by (with_reducible repeat (first | refine blk_drewN ?_ _ | refine blk_drew ?_ | refine blk_alloc ?_ _)); refine blk_put (cs := #[.int .i64 ((rd_T48 ((rd_T26 l0 x5_1).f1) x6_2).f0), .int .i64 0]) ?_ 1 _ rfl; (with_reducible repeat (first | refine blk_drewN ?_ _ | refine blk_drew ?_ | refine blk_alloc ?_ _)); refine blk_put (cs := #[.int .i64 0, .int .i64 0]) ?_ 0 _ rfl; (with_reducible repeat (first | refine blk_drewN ?_ _ | refine blk_drew ?_ | refine blk_alloc ?_ _)); exact BK166.out) hb); have n3_ := Aside0.mk (below_step (by repeat (first | (with_reducible first | exact HB.out | apply below_alloc | apply pw_below_drewN | apply below_drew1 | refine below_set ?_ GE166.out) | exact HB.out)) hb); clear HO_3; clear BK166; clear HB; have HO_3 := n0_; have HO169 := n1_; have BK166 := n2_; have HB := n3_; clear n0_ n1_ n2_ n3_; clear hb ho27; obtain ⟨Ao29, co29, eo29⟩ := Kd.R_slice HO169.out; subst eo29) | ((with_reducible refine gate_builtin (b := .append) (xs := #[.tmp 38, .tmp 45]) rfl ?_); at_builtin; refine Kd.R_append_rows k30 (w0 := w) w.heap.size rfl (.tmp 38) (.tmp 45) 64 30 (.agg #[(.int .i64 0), (.int .i64 0), (.string ⟨#[]⟩)]) 32 rfl Try.underlying64 info30 rfl (by decide) (by omega) u3 x3_2 y167 _ _ _ (fun k_ => some k_ ≠ (.slice Ao29 y167.length co29 : Value).ownBlock) (fun _ => False) rfl rfl ?aO ?aR (fun _ _ h => h) (fun _ h => h.elim) ?aF ?aB ?aS ?aL ?_; (case aR => repeat (first | exact (Kd.R_reads' HO169.out).2.2 | (with_reducible refine Kd.C_alloc ?_ _) | (with_reducible refine Kd.C_drewN ?_ _) | (with_reducible refine Kd.C_drew ?_))); (case aB => exact (by repeat (first | (with_reducible first | exact HB.out | apply below_alloc | apply pw_below_drewN | apply below_drew1 | refine below_set ?_ GE166.out) | exact HB.out))); (case aF => exact (fun k_ hk => Kd.fresh' (Kd.R_lt (by (with_reducible repeat (first | apply Kd.R_alloc | apply Kd.R_drewN | apply Kd.R_drew)); exact HO169.out)) k_ hk)); (case aO => exact (by (with_reducible repeat (first | apply Kd.R_alloc | apply Kd.R_drewN | apply Kd.R_drew)); exact Kd.R_mono HO_3.out (fun _ hk => hk.2))); (case aS => exact (below_size (by repeat (first | (with_reducible first | exact HB.out | apply below_alloc | apply pw_below_drewN | apply below_drew1 | refine below_set ?_ GE166.out) | exact HB.out)))); (case aL => have := LMc9.out; omega); intro v171 w28 ho hb hg hat; rw [← Ny170.out] at ho; have n0_ := Aside0.mk (blk_grown (g := gb166) (o := .cells #[.int .i64 ((rd_T48 ((rd_T26 l0 x5_1).f1) x6_2).f0), .int .i64 ((rd_T48 ((rd_T26 l0 x5_1).f1) x6_2).f1)] 48 (0, 0)) (by (with_reducible repeat (first | refine blk_drewN ?_ _ | refine blk_drew ?_ | refine blk_alloc ?_ _)); exact BK166.out) hg (Kd.R_ne HO_3.out BK166.out (by decide))); have n1_ := Aside0.mk (Kd.R_after (ok := (fun _ => True)) (by (with_reducible repeat (first | apply Kd.R_alloc | apply Kd.R_drewN | apply Kd.R_drew)); exact HO169.out) hg hat); have n2_ := Aside0.mk (hb); have n3_ := Aside0.mk (ho); clear BK166; clear HO169; clear HB; clear HO_3; have BK166 := n0_; have HO169 := n1_; have HB := n2_; have HO172 := n3_; clear n0_ n1_ n2_ n3_; clear ho hb hg hat; have hcz30_0 : w28.cell? ⟨gb166, 0, none⟩ = some (.int .i64 ((rd_T48 ((rd_T26 l0 x5_1).f1) x6_2).f0)) := (blk_cell BK166.out 0).trans rfl; have hcz30_1 : w28.cell? ⟨gb166, 1, none⟩ = some (.int .i64 ((rd_T48 ((rd_T26 l0 x5_1).f1) x6_2).f1)) := (blk_cell BK166.out 1).trans rfl; have hfz30_0 := blk_frozen BK166.out 0; have hfz30_1 := blk_frozen BK166.out 1) | ((with_reducible refine gate_builtin (b := .append) (xs := #[.tmp 50, .tmp 55]) rfl ?_); at_builtin; refine Kd.R_append k30 (w0 := w) w.heap.size rfl (.tmp 50) (.tmp 55) 64 30 (.agg #[(.int .i64 0), (.int .i64 0), (.string ⟨#[]⟩)]) 32 rfl Try.underlying64 info30 rfl (by decide) (by omega) v171 y170 (⟨1, wrap64 (((rd_T48 ((rd_T26 l0 x5_1).f1) x6_2).f0) - 1), (⟨#[]⟩ : ByteArray)⟩ : S30) [.int .i64 1, .int .i64 (wrap64 (((rd_T48 ((rd_T26 l0 x5_1).f1) x6_2).f0) - 1)), .string (⟨#[]⟩ : ByteArray)] (fun k_ => some k_ ≠ (.slice Ao29 y167.length co29 : Value).ownBlock) (fun _ => False) rfl rfl ?aP (fun _ hk => hk.elim) ?aF ?aO ?aB ?aS ?aL ?_; (case aP => exact k30_mkM _ _ _ (⟨1, wrap64 (((rd_T48 ((rd_T26 l0 x5_1).f1) x6_2).f0) - 1), (⟨#[]⟩ : ByteArray)⟩ : S30)); (case aB => exact (by repeat (first | (with_reducible first | exact HB.out | apply below_alloc | apply pw_below_drewN | apply below_drew1 | refine below_set ?_ GE166.out) | exact HB.out))); (case aF => exact (fun k_ hk => Kd.fresh' (Kd.R_lt (by (with_reducible repeat (first | apply Kd.R_alloc | apply Kd.R_drewN | apply Kd.R_drew)); exact HO169.out)) k_ hk)); (case aO => exact (by (with_reducible repeat (first | apply Kd.R_alloc | apply Kd.R_drewN | apply Kd.R_drew)); exact HO172.out)); (case aS => exact (below_size (by repeat (first | (with_reducible first | exact HB.out | apply below_alloc | apply pw_below_drewN | apply below_drew1 | refine below_set ?_ GE166.out) | exact HB.out)))); (case aL => have := LMc11.out; omega); intro v174 w31 ho hb hg hat; rw [← Ny173.out] at ho; have n0_ := Aside0.mk (blk_grown (g := gb166) (o := .cells #[.int .i64 ((rd_T48 ((rd_T26 l0 x5_1).f1) x6_2).f0), .int .i64 ((rd_T48 ((rd_T26 l0 x5_1).f1) x6_2).f1)] 48 (0, 0)) (by (with_reducible repeat (first | refine blk_drewN ?_ _ | refine blk_drew ?_ | refine blk_alloc ?_ _)); exact BK166.out) hg (Kd.R_ne HO172.out BK166.out (by decide))); have n1_ := Aside0.mk (Kd.R_after (ok := (fun _ => True)) (by (with_reducible repeat (first | apply Kd.R_alloc | apply Kd.R_drewN | apply Kd.R_drew)); exact HO169.out) hg hat); have n2_ := Aside0.mk (hb); have n3_ := Aside0.mk (ho); clear BK166; clear HO169; clear HB; clear HO172; have BK166 := n0_; have HO169 := n1_; have HB := n2_; have HO175 := n3_; clear n0_ n1_ n2_ n3_; clear ho hb hg hat; have hcz32_0 : w31.cell? ⟨gb166, 0, none⟩ = some (.int .i64 ((rd_T48 ((rd_T26 l0 x5_1).f1) x6_2).f0)) := (blk_cell BK166.out 0).trans rfl; have hcz32_1 : w31.cell? ⟨gb166, 1, none⟩ = some (.int .i64 ((rd_T48 ((rd_T26 l0 x5_1).f1) x6_2).f1)) := (blk_cell BK166.out 1).trans rfl; have hfz32_0 := blk_frozen BK166.out 0; have hfz32_1 := blk_frozen BK166.out 1))
                            go_roundg k2
                            case measure => have := HK1.out; have := HK2.out; omega
                            case rel => exact ⟨(y173), (wrap64 (x6_2 + 1)), (by first | rfl | (simp; done) | (simp [*]; done)), H', ⟨by have := HK1.out; have := HK2.out; omega⟩, ⟨by (with_reducible repeat (first | apply Kd.R_alloc | apply Kd.R_drewN | apply Kd.R_drew)); exact Kd.R_mono HO175.out (fun _ hk => trivial)⟩, ⟨by repeat (first | (with_reducible first | exact HB.out | apply below_alloc | apply pw_below_drewN | apply below_drew1 | refine below_set ?_ GE166.out) | exact HB.out)⟩⟩
                        · rw [if_neg c11] at H
                          exact absurd H (by simp)
                      · rw [if_neg c10] at H
                        have c10b0 : decide ((-9223372036854775808) < ((rd_T48 ((rd_T26 l0 x5_1).f1) x6_2).f0)) = false := decide_eq_false c10
                        clear c10
                        by_cases c33 : ((rd_T48 ((rd_T26 l0 x5_1).f1) x6_2).f1) < 9223372036854775807
                        · rw [if_pos c33] at H
                          have c33b0 : decide (((rd_T48 ((rd_T26 l0 x5_1).f1) x6_2).f1) < 9223372036854775807) = true := decide_eq_true c33
                          clear c33
                          by_cases c34 : y170.length < 4398046511104
                          · rw [if_pos c34] at H
                            have LMc34 := Aside0.mk c34
                            clear c34
                            obtain ⟨y179, hy179⟩ : ∃ y_ : List (S30), y_ = (y170 ++ [(⟨1, wrap64 (((rd_T48 ((rd_T26 l0 x5_1).f1) x6_2).f1) + 1), (⟨#[]⟩ : ByteArray)⟩ : S30)]) := ⟨_, rfl⟩
                            replace H : (arbourref03_Points.l1 k2 l0 y179 (⟨#[126]⟩ : ByteArray) x5_1 (wrap64 (x6_2 + 1))) = some r := by first | (rw [hy179]; with_reducible exact H) | (have H2_ := (Option.bind_some _ _).symm.trans H; rw [hy179]; with_reducible exact H2_) | (have H2_ := (Option.bind_some _ _).symm.trans H; with_reducible exact H2_) | with_reducible exact H | (rw [hy179]; exact H) | exact H
                            have Ny179 := Aside0.mk hy179
                            clear hy179
                            have H' := Aside0.mk H
                            clear H
                            have p163 : 0 ≤ (x5_1 : Int) := of_decide_eq_true (by first | (with_reducible assumption) | assumption)
                            have q163 : x5_1 < (l0.length : Int) := of_decide_eq_true (by first | (with_reducible assumption) | assumption)
                            obtain ⟨ad163, A163_1, c163_1, A163_3, c163_3, e163, hx163_0, hx163_1, hx163_2, hx163_3, hl163_1, hi163_1, hl163_3, hi163_3⟩ := at_T26 HR0.out x5_1 p163 q163
                            cases e163
                            replace hx163_0 := (HB.out.cell (World.block_lt_of_cell? w _ hx163_0)).trans hx163_0
                            replace hx163_1 := (HB.out.cell (World.block_lt_of_cell? w _ hx163_1)).trans hx163_1
                            replace hx163_2 := (HB.out.cell (World.block_lt_of_cell? w _ hx163_2)).trans hx163_2
                            replace hx163_3 := (HB.out.cell (World.block_lt_of_cell? w _ hx163_3)).trans hx163_3
                            have HR163_1 := Aside0.mk hi163_1
                            have HC163_1 := Aside0.mk hl163_1
                            clear hi163_1 hl163_1
                            have HR163_3 := Aside0.mk hi163_3
                            have HC163_3 := Aside0.mk hl163_3
                            clear hi163_3 hl163_3
                            replace p163 := eq_true p163
                            replace q163 := eq_true q163
                            have p164 : 0 ≤ (x5_1 : Int) := of_decide_eq_true (by first | (with_reducible assumption) | assumption)
                            have q164 : x5_1 < (l0.length : Int) := of_decide_eq_true (by first | (with_reducible assumption) | assumption)
                            obtain ⟨ad164, A164_1, c164_1, A164_3, c164_3, e164, hx164_0, hx164_1, hx164_2, hx164_3, hl164_1, hi164_1, hl164_3, hi164_3⟩ := at_T26 HR0.out x5_1 p164 q164
                            obtain rfl : ad163 = ad164 := (by injection e164)
                            replace hx164_0 := (HB.out.cell (World.block_lt_of_cell? w _ hx164_0)).trans hx164_0
                            replace hx164_1 := (HB.out.cell (World.block_lt_of_cell? w _ hx164_1)).trans hx164_1
                            replace hx164_2 := (HB.out.cell (World.block_lt_of_cell? w _ hx164_2)).trans hx164_2
                            replace hx164_3 := (HB.out.cell (World.block_lt_of_cell? w _ hx164_3)).trans hx164_3
                            have HR164_1 := Aside0.mk hi164_1
                            have HC164_1 := Aside0.mk hl164_1
                            clear hi164_1 hl164_1
                            have HR164_3 := Aside0.mk hi164_3
                            have HC164_3 := Aside0.mk hl164_3
                            clear hi164_3 hl164_3
                            replace p164 := eq_true p164
                            replace q164 := eq_true q164
                            have ea_ := Option.some.inj (hx163_1.symm.trans hx164_1)
                            injection ea_ with ea_ en_ ec_
                            subst ea_
                            subst ec_
                            clear en_
                            have ea_ := Option.some.inj (hx163_3.symm.trans hx164_3)
                            injection ea_ with ea_ en_ ec_
                            subst ea_
                            subst ec_
                            clear en_
                            have p165 : 0 ≤ (x6_2 : Int) := of_decide_eq_true (by first | (with_reducible assumption) | assumption)
                            have q165 : x6_2 < (((rd_T26 l0 x5_1).f1).length : Int) := of_decide_eq_true (by first | (with_reducible assumption) | assumption)
                            obtain ⟨ad165, e165, hx165_0, hx165_1⟩ := at_T48 HR164_1.out x6_2 p165 q165
                            cases e165
                            replace hx165_0 := (HB.out.cell (World.block_lt_of_cell? w _ hx165_0)).trans hx165_0
                            replace hx165_1 := (HB.out.cell (World.block_lt_of_cell? w _ hx165_1)).trans hx165_1
                            replace p165 := eq_true p165
                            replace q165 := eq_true q165
                            go_wp2_with (first | ((with_reducible refine gate_dst (N := 7) rfl ?_); refine box_event ?hg (N := 7) ?hd (cs := #[.int .i64 0, .int .i64 0]) (t := 48) ?hr ?_; (case hd => rfl); (case hg => rfl); (case hr => first | (go_simp; done) | (go_simp; rfl)); intro gb166 hg w35 hbox hb; have n0_ := Aside0.mk (Kd.R_below (by (with_reducible repeat (first | apply Kd.R_alloc | apply Kd.R_drewN | apply Kd.R_drew)); exact HO_3.out) hb); have n1_ := Aside0.mk (below_step (by repeat (first | (with_reducible first | exact HB.out | apply below_alloc | apply pw_below_drewN | apply below_drew1) | exact HB.out)) hb); have n2_ := Aside0.mk (hbox); have n3_ := Aside0.mk ((by rw [hg]; exact (below_size (by repeat (first | (with_reducible first | exact HB.out | apply below_alloc | apply pw_below_drewN | apply below_drew1) | exact HB.out))) : w.heap.size ≤ gb166)); have n4_ := Aside0.mk ((by rw [hg]; exact (below_size (by repeat (first | (with_reducible first | exact HB.out | apply below_alloc | apply pw_below_drewN | apply below_drew1) | exact HB.out))) : w.heap.size ≤ gb166)); clear HO_3; clear HB; have HO_3 := n0_; have HB := n1_; have BK166 := n2_; have GW166 := n3_; have GE166 := n4_; clear n0_ n1_ n2_ n3_ n4_; clear hb hbox hg; have hcz36_0 : w35.cell? ⟨gb166, 0, none⟩ = some (.int .i64 0) := (blk_cell BK166.out 0).trans rfl; have hcz36_1 : w35.cell? ⟨gb166, 1, none⟩ = some (.int .i64 0) := (blk_cell BK166.out 1).trans rfl; have hfz36_0 := blk_frozen BK166.out 0; have hfz36_1 := blk_frozen BK166.out 1) | ((with_reducible refine gate_dst (N := 45) rfl ?_); refine Kd.R_lit k30 _ 30 ?hg (N := 45) ?hd (xs := ([(⟨1, (rd_T48 ((rd_T26 l0 x5_1).f1) x6_2).f0, (⟨#[]⟩ : ByteArray)⟩ : S30), (⟨1, (rd_T48 ((rd_T26 l0 x5_1).f1) x6_2).f1, (⟨#[]⟩ : ByteArray)⟩ : S30)] : List (S30))) (inner := [.int .i64 1, .int .i64 ((rd_T48 ((rd_T26 l0 x5_1).f1) x6_2).f0), .string (⟨#[]⟩ : ByteArray), .int .i64 1, .int .i64 ((rd_T48 ((rd_T26 l0 x5_1).f1) x6_2).f1), .string (⟨#[]⟩ : ByteArray)]) (ok := fun _ => True) (okp := fun _ => True) ?hr ?hp (fun _ hk => hk) trivial (Below.refl _ _) (Nat.le_refl _) (by simp) ?_; (case hd => rfl); (case hg => rfl); (case hr => first | (go_simp; done) | (go_simp; rfl)); (case hp => exact (Reps.c3 (show Kd.M k30 _ _ _ (⟨1, (rd_T48 ((rd_T26 l0 x5_1).f1) x6_2).f0, (⟨#[]⟩ : ByteArray)⟩ : S30) [.int .i64 1, .int .i64 ((rd_T48 ((rd_T26 l0 x5_1).f1) x6_2).f0), .string (⟨#[]⟩ : ByteArray)] from (k30_mkM _ _ _ (⟨1, (rd_T48 ((rd_T26 l0 x5_1).f1) x6_2).f0, (⟨#[]⟩ : ByteArray)⟩ : S30) )) (Reps.c3 (show Kd.M k30 _ _ _ (⟨1, (rd_T48 ((rd_T26 l0 x5_1).f1) x6_2).f1, (⟨#[]⟩ : ByteArray)⟩ : S30) [.int .i64 1, .int .i64 ((rd_T48 ((rd_T26 l0 x5_1).f1) x6_2).f1), .string (⟨#[]⟩ : ByteArray)] from (k30_mkM _ _ _ (⟨1, (rd_T48 ((rd_T26 l0 x5_1).f1) x6_2).f1, (⟨#[]⟩ : ByteArray)⟩ : S30) )) (Reps.none _ _)))); intro v168 w37 ho38 hb hg_ hnew_; clear hg_ hnew_; (first | rw [← Ny167.out] at ho38 | (simp only [Int.reduceToNat] at ho38; rw [← Ny167.out] at ho38)); have n0_ := Aside0.mk (Kd.R_elder' (by (with_reducible repeat (first | apply Kd.R_alloc | apply Kd.R_drewN | apply Kd.R_drew)); exact (Kd.R_mono (Kd.R_far (p := ⟨gb166, 1, none⟩) (Kd.R_far (p := ⟨gb166, 0, none⟩) (Kd.R_types HO_3.out BK166.out (by decide)) (fun _ hk => hk.2) (.int .i64 ((rd_T48 ((rd_T26 l0 x5_1).f1) x6_2).f0))) (fun _ hk => hk.2) (.int .i64 ((rd_T48 ((rd_T26 l0 x5_1).f1) x6_2).f1))) (fun _ h_ => h_.1))) (Kd.R_base ho38) hb); have n1_ := Aside0.mk (Kd.R_lower (Kd.R_new' ho38 (Kd.R_lt (by (with_reducible repeat (first | apply Kd.R_alloc | apply Kd.R_drewN | apply Kd.R_drew)); exact (Kd.R_mono (Kd.R_far (p := ⟨gb166, 1, none⟩) (Kd.R_far (p := ⟨gb166, 0, none⟩) (Kd.R_types HO_3.out BK166.out (by decide)) (fun _ hk => hk.2) (.int .i64 ((rd_T48 ((rd_T26 l0 x5_1).f1) x6_2).f0))) (fun _ hk => hk.2) (.int .i64 ((rd_T48 ((rd_T26 l0 x5_1).f1) x6_2).f1))) (fun _ h_ => h_.1))))) (below_size (by repeat (first | (with_reducible first | exact HB.out | apply below_alloc | apply pw_below_drewN | apply below_drew1 | refine below_set ?_ GE166.out) | exact HB.out)))); have n2_ := Aside0.mk (blk_below (g := gb166) (o := .cells #[.int .i64 ((rd_T48 ((rd_T26 l0 x5_1).f1) x6_2).f0), .int .i64 ((rd_T48 ((rd_T26 l0 x5_1).f1) x6_2).f1)] 48 (0, 0)) (by (with_reducible repeat (first | refine blk_drewN ?_ _ | refine blk_drew ?_ | refine blk_alloc ?_ _)); refine blk_put (cs := #[.int .i64 ((rd_T48 ((rd_T26 l0 x5_1).f1) x6_2).f0), .int .i64 0]) ?_ 1 _ rfl; (with_reducible repeat (first | refine blk_drewN ?_ _ | refine blk_drew ?_ | refine blk_alloc ?_ _)); refine blk_put (cs := #[.int .i64 0, .int .i64 0]) ?_ 0 _ rfl; (with_reducible repeat (first | refine blk_drewN ?_ _ | refine blk_drew ?_ | refine blk_alloc ?_ _)); exact BK166.out) hb); have n3_ := Aside0.mk (below_step (by repeat (first | (with_reducible first | exact HB.out | apply below_alloc | apply pw_below_drewN | apply below_drew1 | refine below_set ?_ GE166.out) | exact HB.out)) hb); clear HO_3; clear BK166; clear HB; have HO_3 := n0_; have HO169 := n1_; have BK166 := n2_; have HB := n3_; clear n0_ n1_ n2_ n3_; clear hb ho38; obtain ⟨Ao40, co40, eo40⟩ := Kd.R_slice HO169.out; subst eo40) | ((with_reducible refine gate_builtin (b := .append) (xs := #[.tmp 38, .tmp 45]) rfl ?_); at_builtin; refine Kd.R_append_rows k30 (w0 := w) w.heap.size rfl (.tmp 38) (.tmp 45) 64 30 (.agg #[(.int .i64 0), (.int .i64 0), (.string ⟨#[]⟩)]) 32 rfl Try.underlying64 info30 rfl (by decide) (by omega) u3 x3_2 y167 _ _ _ (fun k_ => some k_ ≠ (.slice Ao40 y167.length co40 : Value).ownBlock) (fun _ => False) rfl rfl ?aO ?aR (fun _ _ h => h) (fun _ h => h.elim) ?aF ?aB ?aS ?aL ?_; (case aR => repeat (first | exact (Kd.R_reads' HO169.out).2.2 | (with_reducible refine Kd.C_alloc ?_ _) | (with_reducible refine Kd.C_drewN ?_ _) | (with_reducible refine Kd.C_drew ?_))); (case aB => exact (by repeat (first | (with_reducible first | exact HB.out | apply below_alloc | apply pw_below_drewN | apply below_drew1 | refine below_set ?_ GE166.out) | exact HB.out))); (case aF => exact (fun k_ hk => Kd.fresh' (Kd.R_lt (by (with_reducible repeat (first | apply Kd.R_alloc | apply Kd.R_drewN | apply Kd.R_drew)); exact HO169.out)) k_ hk)); (case aO => exact (by (with_reducible repeat (first | apply Kd.R_alloc | apply Kd.R_drewN | apply Kd.R_drew)); exact Kd.R_mono HO_3.out (fun _ hk => hk.2))); (case aS => exact (below_size (by repeat (first | (with_reducible first | exact HB.out | apply below_alloc | apply pw_below_drewN | apply below_drew1 | refine below_set ?_ GE166.out) | exact HB.out)))); (case aL => have := LMc9.out; omega); intro v171 w39 ho hb hg hat; rw [← Ny170.out] at ho; have n0_ := Aside0.mk (blk_grown (g := gb166) (o := .cells #[.int .i64 ((rd_T48 ((rd_T26 l0 x5_1).f1) x6_2).f0), .int .i64 ((rd_T48 ((rd_T26 l0 x5_1).f1) x6_2).f1)] 48 (0, 0)) (by (with_reducible repeat (first | refine blk_drewN ?_ _ | refine blk_drew ?_ | refine blk_alloc ?_ _)); exact BK166.out) hg (Kd.R_ne HO_3.out BK166.out (by decide))); have n1_ := Aside0.mk (Kd.R_after (ok := (fun _ => True)) (by (with_reducible repeat (first | apply Kd.R_alloc | apply Kd.R_drewN | apply Kd.R_drew)); exact HO169.out) hg hat); have n2_ := Aside0.mk (hb); have n3_ := Aside0.mk (ho); clear BK166; clear HO169; clear HB; clear HO_3; have BK166 := n0_; have HO169 := n1_; have HB := n2_; have HO172 := n3_; clear n0_ n1_ n2_ n3_; clear ho hb hg hat; have hcz41_0 : w39.cell? ⟨gb166, 0, none⟩ = some (.int .i64 ((rd_T48 ((rd_T26 l0 x5_1).f1) x6_2).f0)) := (blk_cell BK166.out 0).trans rfl; have hcz41_1 : w39.cell? ⟨gb166, 1, none⟩ = some (.int .i64 ((rd_T48 ((rd_T26 l0 x5_1).f1) x6_2).f1)) := (blk_cell BK166.out 1).trans rfl; have hfz41_0 := blk_frozen BK166.out 0; have hfz41_1 := blk_frozen BK166.out 1) | ((with_reducible refine gate_builtin (b := .append) (xs := #[.tmp 60, .tmp 65]) rfl ?_); at_builtin; refine Kd.R_append k30 (w0 := w) w.heap.size rfl (.tmp 60) (.tmp 65) 64 30 (.agg #[(.int .i64 0), (.int .i64 0), (.string ⟨#[]⟩)]) 32 rfl Try.underlying64 info30 rfl (by decide) (by omega) v171 y170 (⟨1, wrap64 (((rd_T48 ((rd_T26 l0 x5_1).f1) x6_2).f1) + 1), (⟨#[]⟩ : ByteArray)⟩ : S30) [.int .i64 1, .int .i64 (wrap64 (((rd_T48 ((rd_T26 l0 x5_1).f1) x6_2).f1) + 1)), .string (⟨#[]⟩ : ByteArray)] (fun k_ => some k_ ≠ (.slice Ao40 y167.length co40 : Value).ownBlock) (fun _ => False) rfl rfl ?aP (fun _ hk => hk.elim) ?aF ?aO ?aB ?aS ?aL ?_; (case aP => exact k30_mkM _ _ _ (⟨1, wrap64 (((rd_T48 ((rd_T26 l0 x5_1).f1) x6_2).f1) + 1), (⟨#[]⟩ : ByteArray)⟩ : S30)); (case aB => exact (by repeat (first | (with_reducible first | exact HB.out | apply below_alloc | apply pw_below_drewN | apply below_drew1 | refine below_set ?_ GE166.out) | exact HB.out))); (case aF => exact (fun k_ hk => Kd.fresh' (Kd.R_lt (by (with_reducible repeat (first | apply Kd.R_alloc | apply Kd.R_drewN | apply Kd.R_drew)); exact HO169.out)) k_ hk)); (case aO => exact (by (with_reducible repeat (first | apply Kd.R_alloc | apply Kd.R_drewN | apply Kd.R_drew)); exact HO172.out)); (case aS => exact (below_size (by repeat (first | (with_reducible first | exact HB.out | apply below_alloc | apply pw_below_drewN | apply below_drew1 | refine below_set ?_ GE166.out) | exact HB.out)))); (case aL => have := LMc34.out; omega); intro v180 w42 ho hb hg hat; rw [← Ny179.out] at ho; have n0_ := Aside0.mk (blk_grown (g := gb166) (o := .cells #[.int .i64 ((rd_T48 ((rd_T26 l0 x5_1).f1) x6_2).f0), .int .i64 ((rd_T48 ((rd_T26 l0 x5_1).f1) x6_2).f1)] 48 (0, 0)) (by (with_reducible repeat (first | refine blk_drewN ?_ _ | refine blk_drew ?_ | refine blk_alloc ?_ _)); exact BK166.out) hg (Kd.R_ne HO172.out BK166.out (by decide))); have n1_ := Aside0.mk (Kd.R_after (ok := (fun _ => True)) (by (with_reducible repeat (first | apply Kd.R_alloc | apply Kd.R_drewN | apply Kd.R_drew)); exact HO169.out) hg hat); have n2_ := Aside0.mk (hb); have n3_ := Aside0.mk (ho); clear BK166; clear HO169; clear HB; clear HO172; have BK166 := n0_; have HO169 := n1_; have HB := n2_; have HO181 := n3_; clear n0_ n1_ n2_ n3_; clear ho hb hg hat))
                            go_roundg k2
                            case measure => have := HK1.out; have := HK2.out; omega
                            case rel => exact ⟨(y179), (wrap64 (x6_2 + 1)), (by first | rfl | (simp; done) | (simp [*]; done)), H', ⟨by have := HK1.out; have := HK2.out; omega⟩, ⟨by (with_reducible repeat (first | apply Kd.R_alloc | apply Kd.R_drewN | apply Kd.R_drew)); exact Kd.R_mono HO181.out (fun _ hk => trivial)⟩, ⟨by repeat (first | (with_reducible first | exact HB.out | apply below_alloc | apply pw_below_drewN | apply below_drew1 | refine below_set ?_ GE166.out) | exact HB.out)⟩⟩
                          · rw [if_neg c34] at H
                            exact absurd H (by simp)
                        · rw [if_neg c33] at H
                          have c33b0 : decide (((rd_T48 ((rd_T26 l0 x5_1).f1) x6_2).f1) < 9223372036854775807) = false := decide_eq_false c33
                          clear c33
                          have H' := Aside0.mk H
                          clear H
                          have p163 : 0 ≤ (x5_1 : Int) := of_decide_eq_true (by first | (with_reducible assumption) | assumption)
                          have q163 : x5_1 < (l0.length : Int) := of_decide_eq_true (by first | (with_reducible assumption) | assumption)
                          obtain ⟨ad163, A163_1, c163_1, A163_3, c163_3, e163, hx163_0, hx163_1, hx163_2, hx163_3, hl163_1, hi163_1, hl163_3, hi163_3⟩ := at_T26 HR0.out x5_1 p163 q163
                          cases e163
                          replace hx163_0 := (HB.out.cell (World.block_lt_of_cell? w _ hx163_0)).trans hx163_0
                          replace hx163_1 := (HB.out.cell (World.block_lt_of_cell? w _ hx163_1)).trans hx163_1
                          replace hx163_2 := (HB.out.cell (World.block_lt_of_cell? w _ hx163_2)).trans hx163_2
                          replace hx163_3 := (HB.out.cell (World.block_lt_of_cell? w _ hx163_3)).trans hx163_3
                          have HR163_1 := Aside0.mk hi163_1
                          have HC163_1 := Aside0.mk hl163_1
                          clear hi163_1 hl163_1
                          have HR163_3 := Aside0.mk hi163_3
                          have HC163_3 := Aside0.mk hl163_3
                          clear hi163_3 hl163_3
                          replace p163 := eq_true p163
                          replace q163 := eq_true q163
                          have p164 : 0 ≤ (x5_1 : Int) := of_decide_eq_true (by first | (with_reducible assumption) | assumption)
                          have q164 : x5_1 < (l0.length : Int) := of_decide_eq_true (by first | (with_reducible assumption) | assumption)
                          obtain ⟨ad164, A164_1, c164_1, A164_3, c164_3, e164, hx164_0, hx164_1, hx164_2, hx164_3, hl164_1, hi164_1, hl164_3, hi164_3⟩ := at_T26 HR0.out x5_1 p164 q164
                          obtain rfl : ad163 = ad164 := (by injection e164)
                          replace hx164_0 := (HB.out.cell (World.block_lt_of_cell? w _ hx164_0)).trans hx164_0
                          replace hx164_1 := (HB.out.cell (World.block_lt_of_cell? w _ hx164_1)).trans hx164_1
                          replace hx164_2 := (HB.out.cell (World.block_lt_of_cell? w _ hx164_2)).trans hx164_2
                          replace hx164_3 := (HB.out.cell (World.block_lt_of_cell? w _ hx164_3)).trans hx164_3
                          have HR164_1 := Aside0.mk hi164_1
                          have HC164_1 := Aside0.mk hl164_1
                          clear hi164_1 hl164_1
                          have HR164_3 := Aside0.mk hi164_3
                          have HC164_3 := Aside0.mk hl164_3
                          clear hi164_3 hl164_3
                          replace p164 := eq_true p164
                          replace q164 := eq_true q164
                          have ea_ := Option.some.inj (hx163_1.symm.trans hx164_1)
                          injection ea_ with ea_ en_ ec_
                          subst ea_
                          subst ec_
                          clear en_
                          have ea_ := Option.some.inj (hx163_3.symm.trans hx164_3)
                          injection ea_ with ea_ en_ ec_
                          subst ea_
                          subst ec_
                          clear en_
                          have p165 : 0 ≤ (x6_2 : Int) := of_decide_eq_true (by first | (with_reducible assumption) | assumption)
                          have q165 : x6_2 < (((rd_T26 l0 x5_1).f1).length : Int) := of_decide_eq_true (by first | (with_reducible assumption) | assumption)
                          obtain ⟨ad165, e165, hx165_0, hx165_1⟩ := at_T48 HR164_1.out x6_2 p165 q165
                          cases e165
                          replace hx165_0 := (HB.out.cell (World.block_lt_of_cell? w _ hx165_0)).trans hx165_0
                          replace hx165_1 := (HB.out.cell (World.block_lt_of_cell? w _ hx165_1)).trans hx165_1
                          replace p165 := eq_true p165
                          replace q165 := eq_true q165
                          go_wp2_with (first | ((with_reducible refine gate_dst (N := 7) rfl ?_); refine box_event ?hg (N := 7) ?hd (cs := #[.int .i64 0, .int .i64 0]) (t := 48) ?hr ?_; (case hd => rfl); (case hg => rfl); (case hr => first | (go_simp; done) | (go_simp; rfl)); intro gb166 hg w43 hbox hb; have n0_ := Aside0.mk (Kd.R_below (by (with_reducible repeat (first | apply Kd.R_alloc | apply Kd.R_drewN | apply Kd.R_drew)); exact HO_3.out) hb); have n1_ := Aside0.mk (below_step (by repeat (first | (with_reducible first | exact HB.out | apply below_alloc | apply pw_below_drewN | apply below_drew1) | exact HB.out)) hb); have n2_ := Aside0.mk (hbox); have n3_ := Aside0.mk ((by rw [hg]; exact (below_size (by repeat (first | (with_reducible first | exact HB.out | apply below_alloc | apply pw_below_drewN | apply below_drew1) | exact HB.out))) : w.heap.size ≤ gb166)); have n4_ := Aside0.mk ((by rw [hg]; exact (below_size (by repeat (first | (with_reducible first | exact HB.out | apply below_alloc | apply pw_below_drewN | apply below_drew1) | exact HB.out))) : w.heap.size ≤ gb166)); clear HO_3; clear HB; have HO_3 := n0_; have HB := n1_; have BK166 := n2_; have GW166 := n3_; have GE166 := n4_; clear n0_ n1_ n2_ n3_ n4_; clear hb hbox hg; have hcz44_0 : w43.cell? ⟨gb166, 0, none⟩ = some (.int .i64 0) := (blk_cell BK166.out 0).trans rfl; have hcz44_1 : w43.cell? ⟨gb166, 1, none⟩ = some (.int .i64 0) := (blk_cell BK166.out 1).trans rfl; have hfz44_0 := blk_frozen BK166.out 0; have hfz44_1 := blk_frozen BK166.out 1) | ((with_reducible refine gate_dst (N := 45) rfl ?_); refine Kd.R_lit k30 _ 30 ?hg (N := 45) ?hd (xs := ([(⟨1, (rd_T48 ((rd_T26 l0 x5_1).f1) x6_2).f0, (⟨#[]⟩ : ByteArray)⟩ : S30), (⟨1, (rd_T48 ((rd_T26 l0 x5_1).f1) x6_2).f1, (⟨#[]⟩ : ByteArray)⟩ : S30)] : List (S30))) (inner := [.int .i64 1, .int .i64 ((rd_T48 ((rd_T26 l0 x5_1).f1) x6_2).f0), .string (⟨#[]⟩ : ByteArray), .int .i64 1, .int .i64 ((rd_T48 ((rd_T26 l0 x5_1).f1) x6_2).f1), .string (⟨#[]⟩ : ByteArray)]) (ok := fun _ => True) (okp := fun _ => True) ?hr ?hp (fun _ hk => hk) trivial (Below.refl _ _) (Nat.le_refl _) (by simp) ?_; (case hd => rfl); (case hg => rfl); (case hr => first | (go_simp; done) | (go_simp; rfl)); (case hp => exact (Reps.c3 (show Kd.M k30 _ _ _ (⟨1, (rd_T48 ((rd_T26 l0 x5_1).f1) x6_2).f0, (⟨#[]⟩ : ByteArray)⟩ : S30) [.int .i64 1, .int .i64 ((rd_T48 ((rd_T26 l0 x5_1).f1) x6_2).f0), .string (⟨#[]⟩ : ByteArray)] from (k30_mkM _ _ _ (⟨1, (rd_T48 ((rd_T26 l0 x5_1).f1) x6_2).f0, (⟨#[]⟩ : ByteArray)⟩ : S30) )) (Reps.c3 (show Kd.M k30 _ _ _ (⟨1, (rd_T48 ((rd_T26 l0 x5_1).f1) x6_2).f1, (⟨#[]⟩ : ByteArray)⟩ : S30) [.int .i64 1, .int .i64 ((rd_T48 ((rd_T26 l0 x5_1).f1) x6_2).f1), .string (⟨#[]⟩ : ByteArray)] from (k30_mkM _ _ _ (⟨1, (rd_T48 ((rd_T26 l0 x5_1).f1) x6_2).f1, (⟨#[]⟩ : ByteArray)⟩ : S30) )) (Reps.none _ _)))); intro v168 w45 ho46 hb hg_ hnew_; clear hg_ hnew_; (first | rw [← Ny167.out] at ho46 | (simp only [Int.reduceToNat] at ho46; rw [← Ny167.out] at ho46)); have n0_ := Aside0.mk (Kd.R_elder' (by (with_reducible repeat (first | apply Kd.R_alloc | apply Kd.R_drewN | apply Kd.R_drew)); exact (Kd.R_mono (Kd.R_far (p := ⟨gb166, 1, none⟩) (Kd.R_far (p := ⟨gb166, 0, none⟩) (Kd.R_types HO_3.out BK166.out (by decide)) (fun _ hk => hk.2) (.int .i64 ((rd_T48 ((rd_T26 l0 x5_1).f1) x6_2).f0))) (fun _ hk => hk.2) (.int .i64 ((rd_T48 ((rd_T26 l0 x5_1).f1) x6_2).f1))) (fun _ h_ => h_.1))) (Kd.R_base ho46) hb); have n1_ := Aside0.mk (Kd.R_lower (Kd.R_new' ho46 (Kd.R_lt (by (with_reducible repeat (first | apply Kd.R_alloc | apply Kd.R_drewN | apply Kd.R_drew)); exact (Kd.R_mono (Kd.R_far (p := ⟨gb166, 1, none⟩) (Kd.R_far (p := ⟨gb166, 0, none⟩) (Kd.R_types HO_3.out BK166.out (by decide)) (fun _ hk => hk.2) (.int .i64 ((rd_T48 ((rd_T26 l0 x5_1).f1) x6_2).f0))) (fun _ hk => hk.2) (.int .i64 ((rd_T48 ((rd_T26 l0 x5_1).f1) x6_2).f1))) (fun _ h_ => h_.1))))) (below_size (by repeat (first | (with_reducible first | exact HB.out | apply below_alloc | apply pw_below_drewN | apply below_drew1 | refine below_set ?_ GE166.out) | exact HB.out)))); have n2_ := Aside0.mk (blk_below (g := gb166) (o := .cells #[.int .i64 ((rd_T48 ((rd_T26 l0 x5_1).f1) x6_2).f0), .int .i64 ((rd_T48 ((rd_T26 l0 x5_1).f1) x6_2).f1)] 48 (0, 0)) (by (with_reducible repeat (first | refine blk_drewN ?_ _ | refine blk_drew ?_ | refine blk_alloc ?_ _)); refine blk_put (cs := #[.int .i64 ((rd_T48 ((rd_T26 l0 x5_1).f1) x6_2).f0), .int .i64 0]) ?_ 1 _ rfl; (with_reducible repeat (first | refine blk_drewN ?_ _ | refine blk_drew ?_ | refine blk_alloc ?_ _)); refine blk_put (cs := #[.int .i64 0, .int .i64 0]) ?_ 0 _ rfl; (with_reducible repeat (first | refine blk_drewN ?_ _ | refine blk_drew ?_ | refine blk_alloc ?_ _)); exact BK166.out) hb); have n3_ := Aside0.mk (below_step (by repeat (first | (with_reducible first | exact HB.out | apply below_alloc | apply pw_below_drewN | apply below_drew1 | refine below_set ?_ GE166.out) | exact HB.out)) hb); clear HO_3; clear BK166; clear HB; have HO_3 := n0_; have HO169 := n1_; have BK166 := n2_; have HB := n3_; clear n0_ n1_ n2_ n3_; clear hb ho46; obtain ⟨Ao48, co48, eo48⟩ := Kd.R_slice HO169.out; subst eo48) | ((with_reducible refine gate_builtin (b := .append) (xs := #[.tmp 38, .tmp 45]) rfl ?_); at_builtin; refine Kd.R_append_rows k30 (w0 := w) w.heap.size rfl (.tmp 38) (.tmp 45) 64 30 (.agg #[(.int .i64 0), (.int .i64 0), (.string ⟨#[]⟩)]) 32 rfl Try.underlying64 info30 rfl (by decide) (by omega) u3 x3_2 y167 _ _ _ (fun k_ => some k_ ≠ (.slice Ao48 y167.length co48 : Value).ownBlock) (fun _ => False) rfl rfl ?aO ?aR (fun _ _ h => h) (fun _ h => h.elim) ?aF ?aB ?aS ?aL ?_; (case aR => repeat (first | exact (Kd.R_reads' HO169.out).2.2 | (with_reducible refine Kd.C_alloc ?_ _) | (with_reducible refine Kd.C_drewN ?_ _) | (with_reducible refine Kd.C_drew ?_))); (case aB => exact (by repeat (first | (with_reducible first | exact HB.out | apply below_alloc | apply pw_below_drewN | apply below_drew1 | refine below_set ?_ GE166.out) | exact HB.out))); (case aF => exact (fun k_ hk => Kd.fresh' (Kd.R_lt (by (with_reducible repeat (first | apply Kd.R_alloc | apply Kd.R_drewN | apply Kd.R_drew)); exact HO169.out)) k_ hk)); (case aO => exact (by (with_reducible repeat (first | apply Kd.R_alloc | apply Kd.R_drewN | apply Kd.R_drew)); exact Kd.R_mono HO_3.out (fun _ hk => hk.2))); (case aS => exact (below_size (by repeat (first | (with_reducible first | exact HB.out | apply below_alloc | apply pw_below_drewN | apply below_drew1 | refine below_set ?_ GE166.out) | exact HB.out)))); (case aL => have := LMc9.out; omega); intro v171 w47 ho hb hg hat; rw [← Ny170.out] at ho; have n0_ := Aside0.mk (blk_grown (g := gb166) (o := .cells #[.int .i64 ((rd_T48 ((rd_T26 l0 x5_1).f1) x6_2).f0), .int .i64 ((rd_T48 ((rd_T26 l0 x5_1).f1) x6_2).f1)] 48 (0, 0)) (by (with_reducible repeat (first | refine blk_drewN ?_ _ | refine blk_drew ?_ | refine blk_alloc ?_ _)); exact BK166.out) hg (Kd.R_ne HO_3.out BK166.out (by decide))); have n1_ := Aside0.mk (Kd.R_after (ok := (fun _ => True)) (by (with_reducible repeat (first | apply Kd.R_alloc | apply Kd.R_drewN | apply Kd.R_drew)); exact HO169.out) hg hat); have n2_ := Aside0.mk (hb); have n3_ := Aside0.mk (ho); clear BK166; clear HO169; clear HB; clear HO_3; have BK166 := n0_; have HO169 := n1_; have HB := n2_; have HO172 := n3_; clear n0_ n1_ n2_ n3_; clear ho hb hg hat; have hcz49_0 : w47.cell? ⟨gb166, 0, none⟩ = some (.int .i64 ((rd_T48 ((rd_T26 l0 x5_1).f1) x6_2).f0)) := (blk_cell BK166.out 0).trans rfl; have hcz49_1 : w47.cell? ⟨gb166, 1, none⟩ = some (.int .i64 ((rd_T48 ((rd_T26 l0 x5_1).f1) x6_2).f1)) := (blk_cell BK166.out 1).trans rfl; have hfz49_0 := blk_frozen BK166.out 0; have hfz49_1 := blk_frozen BK166.out 1))
                          go_roundg k2
                          case measure => have := HK1.out; have := HK2.out; omega
                          case rel => exact ⟨(y170), (wrap64 (x6_2 + 1)), (by first | rfl | (simp; done) | (simp [*]; done)), H', ⟨by have := HK1.out; have := HK2.out; omega⟩, ⟨by (with_reducible repeat (first | apply Kd.R_alloc | apply Kd.R_drewN | apply Kd.R_drew)); exact Kd.R_mono HO172.out (fun _ hk => trivial)⟩, ⟨by repeat (first | (with_reducible first | exact HB.out | apply below_alloc | apply pw_below_drewN | apply below_drew1 | refine below_set ?_ GE166.out) | exact HB.out)⟩⟩
                    · rw [if_neg c9] at H
                      exact absurd H (by simp)
                  · rw [if_neg c8] at H
                    exact absurd H (by simp)
                · rw [if_neg c7] at H
                  have c7b0 : decide (x6_2 < (((rd_T26 l0 x5_1).f1).length : Int)) = false := decide_eq_false c7
                  clear c7
                  have H' := Aside0.mk H
                  clear H
                  have p163 : 0 ≤ (x5_1 : Int) := of_decide_eq_true (by first | (with_reducible assumption) | assumption)
                  have q163 : x5_1 < (l0.length : Int) := of_decide_eq_true (by first | (with_reducible assumption) | assumption)
                  obtain ⟨ad163, A163_1, c163_1, A163_3, c163_3, e163, hx163_0, hx163_1, hx163_2, hx163_3, hl163_1, hi163_1, hl163_3, hi163_3⟩ := at_T26 HR0.out x5_1 p163 q163
                  cases e163
                  replace hx163_0 := (HB.out.cell (World.block_lt_of_cell? w _ hx163_0)).trans hx163_0
                  replace hx163_1 := (HB.out.cell (World.block_lt_of_cell? w _ hx163_1)).trans hx163_1
                  replace hx163_2 := (HB.out.cell (World.block_lt_of_cell? w _ hx163_2)).trans hx163_2
                  replace hx163_3 := (HB.out.cell (World.block_lt_of_cell? w _ hx163_3)).trans hx163_3
                  have HR163_1 := Aside0.mk hi163_1
                  have HC163_1 := Aside0.mk hl163_1
                  clear hi163_1 hl163_1
                  have HR163_3 := Aside0.mk hi163_3
                  have HC163_3 := Aside0.mk hl163_3
                  clear hi163_3 hl163_3
                  replace p163 := eq_true p163
                  replace q163 := eq_true q163
                  go_wp2
                  go_loopg [3, 8] k2 (fun kq v3 v8 w' => ∃ (x3_3 : List (S30)) (x8_3 : Int), v8 = .int .i64 x8_3 ∧ Aside0 (arbourref03_Points.l2 kq l0 x3_3 (⟨#[126]⟩ : ByteArray) x5_1 x8_3 = some r) ∧ Aside0 (kq ≤ k2) ∧ Aside0 (Kd.R k30 30 w' w.heap.size (fun _ => True) v3 x3_3) ∧ Aside0 (Below w.heap.size w w'))
                  case atStart => exact ⟨(x3_2), (0), (by first | rfl | (simp; done) | (simp [*]; done)), H', ⟨Nat.le_refl _⟩, ⟨by (with_reducible repeat (first | apply Kd.R_alloc | apply Kd.R_drewN | apply Kd.R_drew)); exact HO_3.out⟩, ⟨by repeat (first | (with_reducible first | exact HB.out | apply below_alloc | apply pw_below_drewN | apply below_drew1) | exact HB.out)⟩⟩
                  case round =>
                    clear H'
                    try clear c1
                    try clear p1
                    try clear q1
                    try clear hx1
                    try clear p2
                    try clear c3
                    try clear c4
                    try clear c4b0
                    try clear c5
                    try clear c5b0
                    try clear c6
                    try clear c6b0
                    try clear p6
                    try clear c7
                    try clear c7b0
                    try clear c8
                    try clear c8b0
                    try clear c9
                    try clear c10
                    try clear c10b0
                    try clear c11
                    try clear c12
                    try clear c12b0
                    try clear c13
                    try clear c16
                    try clear p16
                    try clear q16
                    try clear hx16
                    try clear c33
                    try clear c33b0
                    try clear c34
                    try clear c36
                    try clear hcz15_0
                    try clear hcz15_1
                    try clear hcz20_0
                    try clear hcz20_1
                    try clear hcz22_0
                    try clear hcz22_1
                    try clear hcz25_0
                    try clear hcz25_1
                    try clear hcz30_0
                    try clear hcz30_1
                    try clear hcz32_0
                    try clear hcz32_1
                    try clear hcz36_0
                    try clear hcz36_1
                    try clear hcz41_0
                    try clear hcz41_1
                    try clear hcz44_0
                    try clear hcz44_1
                    try clear hcz49_0
                    try clear hcz49_1
                    try clear hfz15_0
                    try clear hfz15_1
                    try clear hfz20_0
                    try clear hfz20_1
                    try clear hfz22_0
                    try clear hfz22_1
                    try clear hfz25_0
                    try clear hfz25_1
                    try clear hfz30_0
                    try clear hfz30_1
                    try clear hfz32_0
                    try clear hfz32_1
                    try clear hfz36_0
                    try clear hfz36_1
                    try clear hfz41_0
                    try clear hfz41_1
                    try clear hfz44_0
                    try clear hfz44_1
                    try clear hfz49_0
                    try clear hfz49_1
                    try clear hx163_0
                    try clear hx163_1
                    try clear hx163_2
                    try clear hx163_3
                    try clear hx164_0
                    try clear hx164_1
                    try clear hx164_2
                    try clear hx164_3
                    try clear hx165_0
                    try clear hx165_1
                    try clear p163
                    try clear p164
                    try clear p165
                    try clear p2
                    try clear q163
                    try clear q164
                    try clear q165
                    obtain ⟨x3_3, x8_3, rfl, HA, HK3, HO_3, HB⟩ := hrel
                    cases gk with
                    | zero => exact absurd HA.out (by simp [arbourref03_Points.l2])
                    | succ k3 =>
                      have H := HA.out
                      clear HA
                      simp only [arbourref03_Points.l2] at H
                      by_cases c50 : 0 ≤ x5_1
                      · rw [if_pos c50] at H
                        have c50b0 : decide (0 ≤ x5_1) = true := decide_eq_true c50
                        clear c50
                        by_cases c51 : x5_1 < (l0.length : Int)
                        · rw [if_pos c51] at H
                          have c51b0 : decide (x5_1 < (l0.length : Int)) = true := decide_eq_true c51
                          clear c51
                          by_cases c52 : x8_3 < (((rd_T26 l0 x5_1).f3).length : Int)
                          · rw [if_pos c52] at H
                            have c52b0 : decide (x8_3 < (((rd_T26 l0 x5_1).f3).length : Int)) = true := decide_eq_true c52
                            clear c52
                            by_cases c53 : 0 ≤ x8_3
                            · rw [if_pos c53] at H
                              have c53b0 : decide (0 ≤ x8_3) = true := decide_eq_true c53
                              clear c53
                              by_cases c54 : x3_3.length < 4398046511104
                              · rw [if_pos c54] at H
                                have LMc54 := Aside0.mk c54
                                clear c54
                                obtain ⟨y185, hy185⟩ : ∃ y_ : List (S30), y_ = (x3_3 ++ [(⟨2, 0, rdOf ByteArray.empty ((rd_T26 l0 x5_1).f3) x8_3⟩ : S30)]) := ⟨_, rfl⟩
                                replace H : (arbourref03_Points.l2 k3 l0 y185 (⟨#[126]⟩ : ByteArray) x5_1 (wrap64 (x8_3 + 1))) = some r := by first | (rw [hy185]; with_reducible exact H) | (have H2_ := (Option.bind_some _ _).symm.trans H; rw [hy185]; with_reducible exact H2_) | (have H2_ := (Option.bind_some _ _).symm.trans H; with_reducible exact H2_) | with_reducible exact H | (rw [hy185]; exact H) | exact H
                                have Ny185 := Aside0.mk hy185
                                clear hy185
                                have H' := Aside0.mk H
                                clear H
                                have p182 : 0 ≤ (x5_1 : Int) := of_decide_eq_true (by first | (with_reducible assumption) | assumption)
                                have q182 : x5_1 < (l0.length : Int) := of_decide_eq_true (by first | (with_reducible assumption) | assumption)
                                obtain ⟨ad182, A182_1, c182_1, A182_3, c182_3, e182, hx182_0, hx182_1, hx182_2, hx182_3, hl182_1, hi182_1, hl182_3, hi182_3⟩ := at_T26 HR0.out x5_1 p182 q182
                                obtain rfl : ad163 = ad182 := (by injection e182)
                                replace hx182_0 := (HB.out.cell (World.block_lt_of_cell? w _ hx182_0)).trans hx182_0
                                replace hx182_1 := (HB.out.cell (World.block_lt_of_cell? w _ hx182_1)).trans hx182_1
                                replace hx182_2 := (HB.out.cell (World.block_lt_of_cell? w _ hx182_2)).trans hx182_2
                                replace hx182_3 := (HB.out.cell (World.block_lt_of_cell? w _ hx182_3)).trans hx182_3
                                have HR182_1 := Aside0.mk hi182_1
                                have HC182_1 := Aside0.mk hl182_1
                                clear hi182_1 hl182_1
                                have HR182_3 := Aside0.mk hi182_3
                                have HC182_3 := Aside0.mk hl182_3
                                clear hi182_3 hl182_3
                                replace p182 := eq_true p182
                                replace q182 := eq_true q182
                                have p183 : 0 ≤ (x5_1 : Int) := of_decide_eq_true (by first | (with_reducible assumption) | assumption)
                                have q183 : x5_1 < (l0.length : Int) := of_decide_eq_true (by first | (with_reducible assumption) | assumption)
                                obtain ⟨ad183, A183_1, c183_1, A183_3, c183_3, e183, hx183_0, hx183_1, hx183_2, hx183_3, hl183_1, hi183_1, hl183_3, hi183_3⟩ := at_T26 HR0.out x5_1 p183 q183
                                obtain rfl : ad163 = ad183 := (by injection e183)
                                replace hx183_0 := (HB.out.cell (World.block_lt_of_cell? w _ hx183_0)).trans hx183_0
                                replace hx183_1 := (HB.out.cell (World.block_lt_of_cell? w _ hx183_1)).trans hx183_1
                                replace hx183_2 := (HB.out.cell (World.block_lt_of_cell? w _ hx183_2)).trans hx183_2
                                replace hx183_3 := (HB.out.cell (World.block_lt_of_cell? w _ hx183_3)).trans hx183_3
                                have HR183_1 := Aside0.mk hi183_1
                                have HC183_1 := Aside0.mk hl183_1
                                clear hi183_1 hl183_1
                                have HR183_3 := Aside0.mk hi183_3
                                have HC183_3 := Aside0.mk hl183_3
                                clear hi183_3 hl183_3
                                replace p183 := eq_true p183
                                replace q183 := eq_true q183
                                have ea_ := Option.some.inj (hx182_1.symm.trans hx183_1)
                                injection ea_ with ea_ en_ ec_
                                subst ea_
                                subst ec_
                                clear en_
                                have ea_ := Option.some.inj (hx182_3.symm.trans hx183_3)
                                injection ea_ with ea_ en_ ec_
                                subst ea_
                                subst ec_
                                clear en_
                                have p184 : 0 ≤ (x8_3 : Int) := of_decide_eq_true (by first | (with_reducible assumption) | assumption)
                                have q184 : x8_3 < (((rd_T26 l0 x5_1).f3).length : Int) := of_decide_eq_true (by first | (with_reducible assumption) | assumption)
                                obtain ⟨ad184, e184, hx184_0⟩ := Kd.at_string HR183_3.out x8_3 p184 q184
                                cases e184
                                replace hx184_0 := (HB.out.cell (World.block_lt_of_cell? w _ hx184_0)).trans hx184_0
                                replace p184 := eq_true p184
                                replace q184 := eq_true q184
                                go_wp2_with (first | ((with_reducible refine gate_builtin (b := .append) (xs := #[.tmp 77, .tmp 87]) rfl ?_); at_builtin; refine Kd.R_append k30 (w0 := w) w.heap.size rfl (.tmp 77) (.tmp 87) 64 30 (.agg #[(.int .i64 0), (.int .i64 0), (.string ⟨#[]⟩)]) 32 rfl Try.underlying64 info30 rfl (by decide) (by omega) u3 x3_3 (⟨2, 0, rdOf ByteArray.empty ((rd_T26 l0 x5_1).f3) x8_3⟩ : S30) [.int .i64 2, .int .i64 0, .string (rdOf ByteArray.empty ((rd_T26 l0 x5_1).f3) x8_3)] (fun _ => True) (fun _ => False) rfl rfl ?aP (fun _ hk => hk.elim) ?aF ?aO ?aB ?aS ?aL ?_; (case aP => exact k30_mkM _ _ _ (⟨2, 0, rdOf ByteArray.empty ((rd_T26 l0 x5_1).f3) x8_3⟩ : S30)); (case aB => exact (by repeat (first | (with_reducible first | exact HB.out | apply below_alloc | apply pw_below_drewN | apply below_drew1) | exact HB.out))); (case aF => exact (fun _ _ => trivial)); (case aO => exact (by (with_reducible repeat (first | apply Kd.R_alloc | apply Kd.R_drewN | apply Kd.R_drew)); exact HO_3.out)); (case aS => exact (below_size (by repeat (first | (with_reducible first | exact HB.out | apply below_alloc | apply pw_below_drewN | apply below_drew1) | exact HB.out)))); (case aL => have := LMc54.out; omega); intro v186 w55 ho hb hg hat; rw [← Ny185.out] at ho; have n0_ := Aside0.mk (hb); have n1_ := Aside0.mk (ho); clear HB; clear HO_3; have HB := n0_; have HO187 := n1_; clear n0_ n1_; clear ho hb hg hat))
                                go_roundg k3
                                case measure => have := HK1.out; have := HK2.out; have := HK3.out; omega
                                case rel => exact ⟨(y185), (wrap64 (x8_3 + 1)), (by first | rfl | (simp; done) | (simp [*]; done)), H', ⟨by have := HK1.out; have := HK2.out; have := HK3.out; omega⟩, ⟨by (with_reducible repeat (first | apply Kd.R_alloc | apply Kd.R_drewN | apply Kd.R_drew)); exact HO187.out⟩, ⟨by repeat (first | (with_reducible first | exact HB.out | apply below_alloc | apply pw_below_drewN | apply below_drew1) | exact HB.out)⟩⟩
                              · rw [if_neg c54] at H
                                exact absurd H (by simp)
                            · rw [if_neg c53] at H
                              exact absurd H (by simp)
                          · rw [if_neg c52] at H
                            have c52b0 : decide (x8_3 < (((rd_T26 l0 x5_1).f3).length : Int)) = false := decide_eq_false c52
                            clear c52
                            have H' := Aside0.mk H
                            clear H
                            have p182 : 0 ≤ (x5_1 : Int) := of_decide_eq_true (by first | (with_reducible assumption) | assumption)
                            have q182 : x5_1 < (l0.length : Int) := of_decide_eq_true (by first | (with_reducible assumption) | assumption)
                            obtain ⟨ad182, A182_1, c182_1, A182_3, c182_3, e182, hx182_0, hx182_1, hx182_2, hx182_3, hl182_1, hi182_1, hl182_3, hi182_3⟩ := at_T26 HR0.out x5_1 p182 q182
                            obtain rfl : ad163 = ad182 := (by injection e182)
                            replace hx182_0 := (HB.out.cell (World.block_lt_of_cell? w _ hx182_0)).trans hx182_0
                            replace hx182_1 := (HB.out.cell (World.block_lt_of_cell? w _ hx182_1)).trans hx182_1
                            replace hx182_2 := (HB.out.cell (World.block_lt_of_cell? w _ hx182_2)).trans hx182_2
                            replace hx182_3 := (HB.out.cell (World.block_lt_of_cell? w _ hx182_3)).trans hx182_3
                            have HR182_1 := Aside0.mk hi182_1
                            have HC182_1 := Aside0.mk hl182_1
                            clear hi182_1 hl182_1
                            have HR182_3 := Aside0.mk hi182_3
                            have HC182_3 := Aside0.mk hl182_3
                            clear hi182_3 hl182_3
                            replace p182 := eq_true p182
                            replace q182 := eq_true q182
                            go_wp2
                            go_roundg k3
                            case measure => have := HK1.out; have := HK2.out; have := HK3.out; omega
                            case rel => exact ⟨(x3_3), (wrap64 (x5_1 + 1)), (by first | rfl | (simp; done) | (simp [*]; done)), H', ⟨by have := HK1.out; have := HK2.out; have := HK3.out; omega⟩, ⟨by (with_reducible repeat (first | apply Kd.R_alloc | apply Kd.R_drewN | apply Kd.R_drew)); exact HO_3.out⟩, ⟨by repeat (first | (with_reducible first | exact HB.out | apply below_alloc | apply pw_below_drewN | apply below_drew1) | exact HB.out)⟩⟩
                        · rw [if_neg c51] at H
                          exact absurd H (by simp)
                      · rw [if_neg c50] at H
                        exact absurd H (by simp)
              · rw [if_neg c6] at H
                exact absurd H (by simp)
            · rw [if_neg c5] at H
              exact absurd H (by simp)
      · rw [if_neg c4] at H
        have c4b0 : decide (x5_1 < (l0.length : Int)) = false := decide_eq_false c4
        clear c4
        replace H := Option.bind_eq_some_iff.mp H
        obtain ⟨t159, A560, H⟩ := H
        replace H : (if x3_1.length < 4398046511104 then (some (x3_1 ++ [(⟨2, 0, t159⟩ : S30)])) else (none)) = some r := H
        have A56 := Aside0.mk A560
        clear A560
        by_cases c57 : x3_1.length < 4398046511104
        · rw [if_pos c57] at H
          have LMc57 := Aside0.mk c57
          clear c57
          obtain ⟨y160, hy160⟩ : ∃ y_ : List (S30), y_ = (x3_1 ++ [(⟨2, 0, t159⟩ : S30)]) := ⟨_, rfl⟩
          replace H : (some y160) = some r := by first | (rw [hy160]; with_reducible exact H) | (have H2_ := (Option.bind_some _ _).symm.trans H; rw [hy160]; with_reducible exact H2_) | (have H2_ := (Option.bind_some _ _).symm.trans H; with_reducible exact H2_) | with_reducible exact H | (rw [hy160]; exact H) | exact H
          have Ny160 := Aside0.mk hy160
          clear hy160
          obtain rfl := Option.some.inj H
          go_wp2_with (first | ((with_reducible refine gate_callee (f := 42) rfl ?_); refine goesL_ (some 92) rfl rfl Try.func42 (by kernel_rfl) rfl #[.slice A0 l0.length c0, .string (⟨#[126]⟩ : ByteArray)] rfl (by (try simp only [List.map_toArray, List.map_cons, List.map_nil]); first | done | rfl | (simp only [List.length_drop, List.length_take]; rfl)) ?_; (with_reducible refine (arbourref03_Fresh.calls k1 _ _ l0 (⟨#[126]⟩ : ByteArray) t159 _ ?side1 ?side2 A56.out).mono ?_); (case side1 => repeat (first | exact (Kd.C_below HR0.out HB.out) | (with_reducible refine Kd.C_alloc ?_ _) | (with_reducible refine Kd.C_drewN ?_ _) | (with_reducible refine Kd.C_drew ?_))); (case side2 => exact HC0.out); rintro e w58 ⟨rfl, hb⟩; refine ⟨_, rfl, ?_⟩; have n0_ := Aside0.mk (Kd.R_below (by (with_reducible repeat (first | apply Kd.R_alloc | apply Kd.R_drewN | apply Kd.R_drew)); exact HO_3.out) hb); have n1_ := Aside0.mk (below_step (by repeat (first | (with_reducible first | exact HB.out | apply below_alloc | apply pw_below_drewN | apply below_drew1) | exact HB.out)) hb); clear HO_3; clear HB; have HO_3 := n0_; have HB := n1_; clear n0_ n1_; (try clear hb); (try clear hb2); (try clear hk); (try clear hi)) | ((with_reducible refine gate_builtin (b := .append) (xs := #[.tmp 89, .tmp 94]) rfl ?_); at_builtin; refine Kd.R_append k30 (w0 := w) w.heap.size rfl (.tmp 89) (.tmp 94) 64 30 (.agg #[(.int .i64 0), (.int .i64 0), (.string ⟨#[]⟩)]) 32 rfl Try.underlying64 info30 rfl (by decide) (by omega) u3 x3_1 (⟨2, 0, t159⟩ : S30) [.int .i64 2, .int .i64 0, .string t159] (fun _ => True) (fun _ => False) rfl rfl ?aP (fun _ hk => hk.elim) ?aF ?aO ?aB ?aS ?aL ?_; (case aP => exact k30_mkM _ _ _ (⟨2, 0, t159⟩ : S30)); (case aB => exact (by repeat (first | (with_reducible first | exact HB.out | apply below_alloc | apply pw_below_drewN | apply below_drew1) | exact HB.out))); (case aF => exact (fun _ _ => trivial)); (case aO => exact (by (with_reducible repeat (first | apply Kd.R_alloc | apply Kd.R_drewN | apply Kd.R_drew)); exact HO_3.out)); (case aS => exact (below_size (by repeat (first | (with_reducible first | exact HB.out | apply below_alloc | apply pw_below_drewN | apply below_drew1) | exact HB.out)))); (case aL => have := LMc57.out; omega); intro v161 w59 ho hb hg hat; rw [← Ny160.out] at ho; have n0_ := Aside0.mk (hb); have n1_ := Aside0.mk (ho); clear HB; clear HO_3; have HB := n0_; have HO162 := n1_; clear n0_ n1_; clear ho hb hg hat))
          go_ret
          exact ⟨_, by first | rfl | (simp [errW_none, errW_some] <;> rfl) | (simp [*, errW_none, errW_some] <;> rfl), by (with_reducible repeat (first | apply Kd.R_alloc | apply Kd.R_drewN | apply Kd.R_drew)); exact HO162.out, by repeat (first | (with_reducible first | exact HB.out | apply below_alloc | apply pw_below_drewN | apply below_drew1) | exact HB.out)⟩
        · rw [if_neg c57] at H
          exact absurd H (by simp)

end Go.Proofs.Ytfhokhhpfdmfiaa.PGapZero
