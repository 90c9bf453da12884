/- GapFilters: the walk. -/
import Derived.Test.YtfhokhhpfdmfiaaReg5
import Derived.Test.YtfhokhhpfdmfiaaBoxes
import Derived.Deep.RegionHeld3
import Derived.Deep.Cut
namespace Go.Proofs.Ytfhokhhpfdmfiaa
open Go.RowKit

set_option maxHeartbeats 8000000 in
set_option maxRecDepth 100000 in
theorem filters_near (A : Option Addr) (n c : Nat) (fs : List (Nat → SetM)) (s : Nat → SetM) (v : Nat → SetV) (e : Nat → ValM) (w : World) (hf : FilterR w A n fs) (hs : ∀ j, j < 4 → SetR w (v j) (s j)) (hi : ∀ j, j < 4 → I64 (e j).n) :
    Calls Try.prog 6 #[.slice A n c, .agg #[.bool (s 0).a, .slice (v 0).A (v 0).n (v 0).c, .bool (s 0).co, .slice (v 0).B (v 0).m (v 0).d, .bool (s 1).a, .slice (v 1).A (v 1).n (v 1).c, .bool (s 1).co, .slice (v 1).B (v 1).m (v 1).d, .bool (s 2).a, .slice (v 2).A (v 2).n (v 2).c, .bool (s 2).co, .slice (v 2).B (v 2).m (v 2).d, .bool (s 3).a, .slice (v 3).A (v 3).n (v 3).c, .bool (s 3).co, .slice (v 3).B (v 3).m (v 3).d], .agg #[.int .i64 (e 0).k, .int .i64 (e 0).n, .string (e 0).s, .int .i64 (e 1).k, .int .i64 (e 1).n, .string (e 1).s, .int .i64 (e 2).k, .int .i64 (e 2).n, .string (e 2).s, .int .i64 (e 3).k, .int .i64 (e 3).n, .string (e 3).s]] w fun e' w' => e' = .returned (.bool true) ∧ Below w.heap.size w w' := by
  have HF := hide hf
  have HS := hide hs
  have HI := hide hi
  clear hf hs hi
  go_enter Try.func6, Try.ntmps6
  go_wp2_with fail
  refine (awake_any _).mono ?_
  rintro e' w1 ⟨rfl, hb1⟩
  have B1 : Below w.heap.size w w1 := below_step (((Below.refl _ _).alloc (Nat.le_refl _) _).alloc (by simp) _) (by simp; omega) hb1
  have X1 := hide (bk_below (bk_new0 w _ _) hb1)
  have E1 := hide (bk_below (bk_new1 w _ _) hb1)
  clear hb1
  go_wp2_with fail
  refine (few06_any A n c fs _ (HF.out.below B1)).mono ?_
  rintro e' w2 ⟨⟨r, rfl, hr⟩, hb2⟩
  have B2 := below_step B1 B1.size hb2
  have X2 := hide (bk_below X1.out hb2)
  have E2 := hide (bk_below E1.out hb2)
  clear X1 E1 hb2 B1
  cases r
  · go_wp2_with fail
    refine (awake_any _).mono ?_
    rintro e' w9 ⟨rfl, hb9⟩
    go_wp2_with fail
    go_ret
    exact ⟨rfl, below_step B2 B2.size hb9⟩
  · have hn := hr rfl
    clear hr
    have hz2 := bk_lt E2.out
    have HX := bk_cell X2.out
    obtain ⟨x0, x1, x2, x3, x4, x5, x6, x7, x8, x9, x10, x11, x12, x13, x14, x15⟩ : (fun w' => w'.cell? ⟨w.heap.size, 0, none⟩ = some (.bool (s 0).a) ∧ w'.cell? ⟨w.heap.size, 1, none⟩ = some (.slice (v 0).A (v 0).n (v 0).c) ∧ w'.cell? ⟨w.heap.size, 2, none⟩ = some (.bool (s 0).co) ∧ w'.cell? ⟨w.heap.size, 3, none⟩ = some (.slice (v 0).B (v 0).m (v 0).d) ∧ w'.cell? ⟨w.heap.size, 4, none⟩ = some (.bool (s 1).a) ∧ w'.cell? ⟨w.heap.size, 5, none⟩ = some (.slice (v 1).A (v 1).n (v 1).c) ∧ w'.cell? ⟨w.heap.size, 6, none⟩ = some (.bool (s 1).co) ∧ w'.cell? ⟨w.heap.size, 7, none⟩ = some (.slice (v 1).B (v 1).m (v 1).d) ∧ w'.cell? ⟨w.heap.size, 8, none⟩ = some (.bool (s 2).a) ∧ w'.cell? ⟨w.heap.size, 9, none⟩ = some (.slice (v 2).A (v 2).n (v 2).c) ∧ w'.cell? ⟨w.heap.size, 10, none⟩ = some (.bool (s 2).co) ∧ w'.cell? ⟨w.heap.size, 11, none⟩ = some (.slice (v 2).B (v 2).m (v 2).d) ∧ w'.cell? ⟨w.heap.size, 12, none⟩ = some (.bool (s 3).a) ∧ w'.cell? ⟨w.heap.size, 13, none⟩ = some (.slice (v 3).A (v 3).n (v 3).c) ∧ w'.cell? ⟨w.heap.size, 14, none⟩ = some (.bool (s 3).co) ∧ w'.cell? ⟨w.heap.size, 15, none⟩ = some (.slice (v 3).B (v 3).m (v 3).d)) w2 := ⟨(HX 0).trans rfl, (HX 1).trans rfl, (HX 2).trans rfl, (HX 3).trans rfl, (HX 4).trans rfl, (HX 5).trans rfl, (HX 6).trans rfl, (HX 7).trans rfl, (HX 8).trans rfl, (HX 9).trans rfl, (HX 10).trans rfl, (HX 11).trans rfl, (HX 12).trans rfl, (HX 13).trans rfl, (HX 14).trans rfl, (HX 15).trans rfl⟩
    clear HX
    go_wp2_with fail
    refine (few04_any _ _ _ [s] _ (filter1 (bk_new _ _) (fun j hj => ((HS.out j hj).below B2).below ((Below.refl _ _).alloc (Nat.le_refl _) _)))).mono ?_
    rintro e' w3 ⟨⟨r, rfl⟩, hb3⟩
    have B3 := below_step (B2.alloc B2.size _) (by simp; omega) hb3
    have X3 := hide (bk_below (bk_alloc X2.out _) hb3)
    have E3 := hide (bk_below (bk_alloc E2.out _) hb3)
    clear x0 x1 x2 x3 x4 x5 x6 x7 x8 x9 x10 x11 x12 x13 x14 x15 X2 E2 hb3 B2
    cases r
    · go_wp2_with fail
      refine (awake_any _).mono ?_
      rintro e' w9 ⟨rfl, hb9⟩
      go_wp2_with fail
      go_ret
      exact ⟨rfl, below_step B3 B3.size hb9⟩
    · have HX := bk_cell X3.out
      obtain ⟨x0, x1, x2, x3, x4, x5, x6, x7, x8, x9, x10, x11, x12, x13, x14, x15⟩ : (fun w' => w'.cell? ⟨w.heap.size, 0, none⟩ = some (.bool (s 0).a) ∧ w'.cell? ⟨w.heap.size, 1, none⟩ = some (.slice (v 0).A (v 0).n (v 0).c) ∧ w'.cell? ⟨w.heap.size, 2, none⟩ = some (.bool (s 0).co) ∧ w'.cell? ⟨w.heap.size, 3, none⟩ = some (.slice (v 0).B (v 0).m (v 0).d) ∧ w'.cell? ⟨w.heap.size, 4, none⟩ = some (.bool (s 1).a) ∧ w'.cell? ⟨w.heap.size, 5, none⟩ = some (.slice (v 1).A (v 1).n (v 1).c) ∧ w'.cell? ⟨w.heap.size, 6, none⟩ = some (.bool (s 1).co) ∧ w'.cell? ⟨w.heap.size, 7, none⟩ = some (.slice (v 1).B (v 1).m (v 1).d) ∧ w'.cell? ⟨w.heap.size, 8, none⟩ = some (.bool (s 2).a) ∧ w'.cell? ⟨w.heap.size, 9, none⟩ = some (.slice (v 2).A (v 2).n (v 2).c) ∧ w'.cell? ⟨w.heap.size, 10, none⟩ = some (.bool (s 2).co) ∧ w'.cell? ⟨w.heap.size, 11, none⟩ = some (.slice (v 2).B (v 2).m (v 2).d) ∧ w'.cell? ⟨w.heap.size, 12, none⟩ = some (.bool (s 3).a) ∧ w'.cell? ⟨w.heap.size, 13, none⟩ = some (.slice (v 3).A (v 3).n (v 3).c) ∧ w'.cell? ⟨w.heap.size, 14, none⟩ = some (.bool (s 3).co) ∧ w'.cell? ⟨w.heap.size, 15, none⟩ = some (.slice (v 3).B (v 3).m (v 3).d)) w3 := ⟨(HX 0).trans rfl, (HX 1).trans rfl, (HX 2).trans rfl, (HX 3).trans rfl, (HX 4).trans rfl, (HX 5).trans rfl, (HX 6).trans rfl, (HX 7).trans rfl, (HX 8).trans rfl, (HX 9).trans rfl, (HX 10).trans rfl, (HX 11).trans rfl, (HX 12).trans rfl, (HX 13).trans rfl, (HX 14).trans rfl, (HX 15).trans rfl⟩
      clear HX
      go_wp2_with fail
      refine (right04_any s v _ (fun j hj => (HS.out j hj).below B3)).mono ?_
      rintro e' w4 ⟨⟨r, rfl⟩, hb4⟩
      have B4 := below_step B3 B3.size hb4
      have X4 := hide (bk_below X3.out hb4)
      have E4 := hide (bk_below E3.out hb4)
      clear x0 x1 x2 x3 x4 x5 x6 x7 x8 x9 x10 x11 x12 x13 x14 x15 X3 E3 hb4 B3
      cases r
      · go_wp2_with fail
        refine (awake_any _).mono ?_
        rintro e' w9 ⟨rfl, hb9⟩
        go_wp2_with fail
        go_ret
        exact ⟨rfl, below_step B4 B4.size hb9⟩
      · have hz4 := bk_lt E4.out
        have HX := bk_cell X4.out
        obtain ⟨news, hnews, hfit⟩ := news_of (HF.out.below B4)
        have HNEWS := hide hnews
        have HFIT := hide hfit
        clear hnews hfit
        have SX : Hid (∀ w5, Below w4.heap.size w4 w5 → (fun w' => w'.cell? ⟨w.heap.size, 0, none⟩ = some (.bool (s 0).a) ∧ w'.cell? ⟨w.heap.size, 1, none⟩ = some (.slice (v 0).A (v 0).n (v 0).c) ∧ w'.cell? ⟨w.heap.size, 2, none⟩ = some (.bool (s 0).co) ∧ w'.cell? ⟨w.heap.size, 3, none⟩ = some (.slice (v 0).B (v 0).m (v 0).d) ∧ w'.cell? ⟨w.heap.size, 4, none⟩ = some (.bool (s 1).a) ∧ w'.cell? ⟨w.heap.size, 5, none⟩ = some (.slice (v 1).A (v 1).n (v 1).c) ∧ w'.cell? ⟨w.heap.size, 6, none⟩ = some (.bool (s 1).co) ∧ w'.cell? ⟨w.heap.size, 7, none⟩ = some (.slice (v 1).B (v 1).m (v 1).d) ∧ w'.cell? ⟨w.heap.size, 8, none⟩ = some (.bool (s 2).a) ∧ w'.cell? ⟨w.heap.size, 9, none⟩ = some (.slice (v 2).A (v 2).n (v 2).c) ∧ w'.cell? ⟨w.heap.size, 10, none⟩ = some (.bool (s 2).co) ∧ w'.cell? ⟨w.heap.size, 11, none⟩ = some (.slice (v 2).B (v 2).m (v 2).d) ∧ w'.cell? ⟨w.heap.size, 12, none⟩ = some (.bool (s 3).a) ∧ w'.cell? ⟨w.heap.size, 13, none⟩ = some (.slice (v 3).A (v 3).n (v 3).c) ∧ w'.cell? ⟨w.heap.size, 14, none⟩ = some (.bool (s 3).co) ∧ w'.cell? ⟨w.heap.size, 15, none⟩ = some (.slice (v 3).B (v 3).m (v 3).d)) w5) := fun w5 hb5 => by
          have HX := bk_cell (bk_below X4.out hb5)
          exact ⟨(HX 0).trans rfl, (HX 1).trans rfl, (HX 2).trans rfl, (HX 3).trans rfl, (HX 4).trans rfl, (HX 5).trans rfl, (HX 6).trans rfl, (HX 7).trans rfl, (HX 8).trans rfl, (HX 9).trans rfl, (HX 10).trans rfl, (HX 11).trans rfl, (HX 12).trans rfl, (HX 13).trans rfl, (HX 14).trans rfl, (HX 15).trans rfl⟩
        have HS4 : Hid (∀ j, j < 4 → SetR w4 (v j) (s j)) := fun j hj => (HS.out j hj).below B4
        have HL := hide HF.out.1
        clear HX
        go_upto_region 3 with fail
        go_cut [7] from 9 (fun s7 wc => More w4 n (fs ++ [s]) s7 wc)
        case first =>
          go_region_held3 (fun w' => w'.cell? ⟨w.heap.size, 0, none⟩ = some (.bool (s 0).a) ∧ w'.cell? ⟨w.heap.size, 1, none⟩ = some (.slice (v 0).A (v 0).n (v 0).c) ∧ w'.cell? ⟨w.heap.size, 2, none⟩ = some (.bool (s 0).co) ∧ w'.cell? ⟨w.heap.size, 3, none⟩ = some (.slice (v 0).B (v 0).m (v 0).d) ∧ w'.cell? ⟨w.heap.size, 4, none⟩ = some (.bool (s 1).a) ∧ w'.cell? ⟨w.heap.size, 5, none⟩ = some (.slice (v 1).A (v 1).n (v 1).c) ∧ w'.cell? ⟨w.heap.size, 6, none⟩ = some (.bool (s 1).co) ∧ w'.cell? ⟨w.heap.size, 7, none⟩ = some (.slice (v 1).B (v 1).m (v 1).d) ∧ w'.cell? ⟨w.heap.size, 8, none⟩ = some (.bool (s 2).a) ∧ w'.cell? ⟨w.heap.size, 9, none⟩ = some (.slice (v 2).A (v 2).n (v 2).c) ∧ w'.cell? ⟨w.heap.size, 10, none⟩ = some (.bool (s 2).co) ∧ w'.cell? ⟨w.heap.size, 11, none⟩ = some (.slice (v 2).B (v 2).m (v 2).d) ∧ w'.cell? ⟨w.heap.size, 12, none⟩ = some (.bool (s 3).a) ∧ w'.cell? ⟨w.heap.size, 13, none⟩ = some (.slice (v 3).A (v 3).n (v 3).c) ∧ w'.cell? ⟨w.heap.size, 14, none⟩ = some (.bool (s 3).co) ∧ w'.cell? ⟨w.heap.size, 15, none⟩ = some (.slice (v 3).B (v 3).m (v 3).d)) (first | exact SX.out _ ((Below.refl _ _).drew) | exact SX.out _ (((Below.refl _ _).drew).alloc (by simp) _) | exact SX.out _ ((((Below.refl _ _).drew).alloc (by simp) _).alloc (by simp) _) | exact SX.out _ BL1.out | exact SX.out _ (BL1.out.alloc BL1.out.size _) | exact SX.out _ BL2.out) (first | ((refine step_app (by rfl) _ _ (by rfl) w4.heap.size _ A n c news (by rfl) (by rfl) hn (by first | exact bk_new w4 _ | exact bk_new0 w4 _ _ | exact bk_new1 w4 _ _) (by simp) (HNEWS.out.below (by first | exact (((Below.refl _ _).drew).alloc (by simp) _) | exact ((((Below.refl _ _).drew).alloc (by simp) _).alloc (by simp) _))) ?_; intro v1 wa ha; have BL1 : Hid (Below w4.heap.size w4 wa) := (app_below ha (by first | exact (((Below.refl _ _).drew).alloc (by simp) _) | exact ((((Below.refl _ _).drew).alloc (by simp) _).alloc (by simp) _)) (by simp <;> omega) (own_ge (by simp))); have OW1 : Hid (∀ g, v1.ownBlock = some g → w4.heap.size ≤ g) := (app_own ha (by simp <;> omega) (own_ge (by simp))); have A1 := hide ha; clear ha)) | ((refine step_app2 (by rfl) _ _ (by rfl) w4.heap.size _ _ n 1 news s v (by rfl) (by rfl) hn (by first | exact A1.out.1 | exact A1.out.1.alloc _) (by first | exact BL1.out.size | (simp; have := BL1.out.size; omega)) (by first | exact bk_new wa _ | exact grown_bk A1.out.2.1 (bk_new1 w4 _ _) (by simp [Value.ownBlock]) | exact grown_bk A1.out.2.1 (bk_new0 w4 _ _) (by simp [Value.ownBlock])) ?_; intro v2 wb ha; have MORE : Hid (More w4 n (fs ++ [s]) v2 wb) := (more_of hn HL.out HNEWS.out.1 HFIT.out HS4.out ha (by first | exact BL1.out | exact BL1.out.alloc BL1.out.size _) OW1.out); have BL2 : Hid (Below w4.heap.size w4 wb) := (app_below ha (by first | exact BL1.out | exact BL1.out.alloc BL1.out.size _) (by first | exact BL1.out.size | (simp; have := BL1.out.size; omega)) OW1.out); clear ha)))
          all_goals (go_wp2_with fail; go_meet; exact MORE.out)
        case rest =>
        obtain ⟨g, cap, rfl, hfr, hbl⟩ := hcut
        have B5 := below_step B4 B4.size hbl
        have X5 := hide (bk_below X4.out hbl)
        have E5 := hide (bk_below E4.out hbl)
        have FR := hide hfr
        clear hfr hbl SX HS4 HL HNEWS HFIT X4 E4 B4
        obtain ⟨g0, g1, g2, g3, g4, g5, g6, g7, g8, g9, g10, g11⟩ := ecells E5.out
        go_wp2_with fail
        refine (filter_any _ _ _ _ e _ FR.out HI.out).mono ?_
        rintro e' w5 ⟨rfl, hb5⟩
        have B6 := below_step B5 B5.size hb5
        have X6 := hide (bk_below X5.out hb5)
        have E6 := hide (bk_below E5.out hb5)
        clear g0 g1 g2 g3 g4 g5 g6 g7 g8 g9 g10 g11 X5 E5 B5 hb5 FR
        have HF5 := hide (HF.out.below B6)
        have HS5 : Hid (∀ j, j < 4 → SetR w5 (v j) (s j)) := fun j hj => (HS.out j hj).below B6
        have hz6 := bk_lt E6.out
        have SX : Hid (∀ w', Below w5.heap.size w5 w' → (fun w' => (Instr.loadAt 28 (.pointer (some ⟨w.heap.size, 0, none⟩))).run Try.prog w' = .ok (.agg #[.bool (s 0).a, .slice (v 0).A (v 0).n (v 0).c, .bool (s 0).co, .slice (v 0).B (v 0).m (v 0).d, .bool (s 1).a, .slice (v 1).A (v 1).n (v 1).c, .bool (s 1).co, .slice (v 1).B (v 1).m (v 1).d, .bool (s 2).a, .slice (v 2).A (v 2).n (v 2).c, .bool (s 2).co, .slice (v 2).B (v 2).m (v 2).d, .bool (s 3).a, .slice (v 3).A (v 3).n (v 3).c, .bool (s 3).co, .slice (v 3).B (v 3).m (v 3).d]) w' ∧ (Instr.loadAt 32 (.pointer (some ⟨w.heap.size + 1, 0, none⟩))).run Try.prog w' = .ok (.agg #[.int .i64 (e 0).k, .int .i64 (e 0).n, .string (e 0).s, .int .i64 (e 1).k, .int .i64 (e 1).n, .string (e 1).s, .int .i64 (e 2).k, .int .i64 (e 2).n, .string (e 2).s, .int .i64 (e 3).k, .int .i64 (e 3).n, .string (e 3).s]) w') w') := fun w' hb5 => by
          exact ⟨load_box (bk_below X6.out hb5), load_event (bk_below E6.out hb5)⟩
        have hfl := filterM_le fs e
        have hgl := boxGap_le s e
        have h1 : filterM [s] e = boxGap s e := by
          have h2 : filterM [s] e = min far (boxGap s e) := rfl
          omega
        have H1 := hide h1
        clear h1
        rw [filterM_snoc]
        obtain ⟨D, hD⟩ : ∃ D, D = min (filterM fs e) (boxGap s e) := ⟨_, rfl⟩
        rw [← hD]
        generalize hFe : filterM fs e = F at *
        generalize hGe : boxGap s e = G at *
        have HFE := hide hFe
        have HGE := hide hGe
        have H2 := hide hD
        have d1 : decide ((D : Int) ≤ F) = true := by rw [decide_eq_true_eq]; omega
        have d2 : decide ((D : Int) ≤ G) = true := by rw [decide_eq_true_eq]; omega
        have d3 : decide (D ≤ F) = true := by rw [decide_eq_true_eq]; omega
        have d4 : decide (D ≤ G) = true := by rw [decide_eq_true_eq]; omega
        have hbf : F ≤ 18446744073709551615 := hfl
        have hbg : G ≤ 18446744073709551615 := hgl
        clear hfl hgl hFe hGe
        have BW : Hid (Below w5.heap.size w5 w5.drew) := (Below.refl _ _).drew
        have hS5 : ∀ w', Below w5.heap.size w5 w' → (Instr.loadAt 28 (.pointer (some ⟨w.heap.size, 0, none⟩))).run Try.prog w' = .ok (.agg #[.bool (s 0).a, .slice (v 0).A (v 0).n (v 0).c, .bool (s 0).co, .slice (v 0).B (v 0).m (v 0).d, .bool (s 1).a, .slice (v 1).A (v 1).n (v 1).c, .bool (s 1).co, .slice (v 1).B (v 1).m (v 1).d, .bool (s 2).a, .slice (v 2).A (v 2).n (v 2).c, .bool (s 2).co, .slice (v 2).B (v 2).m (v 2).d, .bool (s 3).a, .slice (v 3).A (v 3).n (v 3).c, .bool (s 3).co, .slice (v 3).B (v 3).m (v 3).d]) w' ∧ (Instr.loadAt 32 (.pointer (some ⟨w.heap.size + 1, 0, none⟩))).run Try.prog w' = .ok (.agg #[.int .i64 (e 0).k, .int .i64 (e 0).n, .string (e 0).s, .int .i64 (e 1).k, .int .i64 (e 1).n, .string (e 1).s, .int .i64 (e 2).k, .int .i64 (e 2).n, .string (e 2).s, .int .i64 (e 3).k, .int .i64 (e 3).n, .string (e 3).s]) w' := fun w' hb => ⟨load_box (bk_below X6.out hb), load_event (bk_below E6.out hb)⟩
        have hF5 : ∀ w', Below w5.heap.size w5 w' → Calls Try.prog 13 #[.slice A n c, .agg #[.int .i64 (e 0).k, .int .i64 (e 0).n, .string (e 0).s, .int .i64 (e 1).k, .int .i64 (e 1).n, .string (e 1).s, .int .i64 (e 2).k, .int .i64 (e 2).n, .string (e 2).s, .int .i64 (e 3).k, .int .i64 (e 3).n, .string (e 3).s]] w' fun e' w6 => e' = .returned (.int .u64 (F : Int)) ∧ Below w'.heap.size w' w6 := fun w' hb => by
          rw [← HFE.out]
          exact filter_any A n c fs e w' (HF5.out.below hb) HI.out
        have hO5 : ∀ w' g, Below w5.heap.size w5 w' → w'.heap[g]? = some (.cells #[.bool (s 0).a, .slice (v 0).A (v 0).n (v 0).c, .bool (s 0).co, .slice (v 0).B (v 0).m (v 0).d, .bool (s 1).a, .slice (v 1).A (v 1).n (v 1).c, .bool (s 1).co, .slice (v 1).B (v 1).m (v 1).d, .bool (s 2).a, .slice (v 2).A (v 2).n (v 2).c, .bool (s 2).co, .slice (v 2).B (v 2).m (v 2).d, .bool (s 3).a, .slice (v 3).A (v 3).n (v 3).c, .bool (s 3).co, .slice (v 3).B (v 3).m (v 3).d] 28 (0, 0)) → Calls Try.prog 13 #[.slice (some ⟨g, 0, none⟩) 1 1, .agg #[.int .i64 (e 0).k, .int .i64 (e 0).n, .string (e 0).s, .int .i64 (e 1).k, .int .i64 (e 1).n, .string (e 1).s, .int .i64 (e 2).k, .int .i64 (e 2).n, .string (e 2).s, .int .i64 (e 3).k, .int .i64 (e 3).n, .string (e 3).s]] w' fun e' w6 => e' = .returned (.int .u64 (G : Int)) ∧ Below w'.heap.size w' w6 := fun w' g hb hg => by
          rw [← H1.out]
          exact filter_any _ 1 1 [s] e w' (filter1 hg fun j hj => (HS5.out j hj).below hb) HI.out
        have hG5 : ∀ w', Below w5.heap.size w5 w' → Calls Try.prog 16 #[.agg #[.bool (s 0).a, .slice (v 0).A (v 0).n (v 0).c, .bool (s 0).co, .slice (v 0).B (v 0).m (v 0).d, .bool (s 1).a, .slice (v 1).A (v 1).n (v 1).c, .bool (s 1).co, .slice (v 1).B (v 1).m (v 1).d, .bool (s 2).a, .slice (v 2).A (v 2).n (v 2).c, .bool (s 2).co, .slice (v 2).B (v 2).m (v 2).d, .bool (s 3).a, .slice (v 3).A (v 3).n (v 3).c, .bool (s 3).co, .slice (v 3).B (v 3).m (v 3).d], .agg #[.int .i64 (e 0).k, .int .i64 (e 0).n, .string (e 0).s, .int .i64 (e 1).k, .int .i64 (e 1).n, .string (e 1).s, .int .i64 (e 2).k, .int .i64 (e 2).n, .string (e 2).s, .int .i64 (e 3).k, .int .i64 (e 3).n, .string (e 3).s]] w' fun e' w6 => e' = .returned (.int .u64 (G : Int)) ∧ Below w'.heap.size w' w6 := fun w' hb => by
          rw [← HGE.out]
          exact box_any s v e w' (fun j hj => (HS5.out j hj).below hb) HI.out
        have hB5 : ∀ w', (Instr.buildSlice 50 1 #[(0, .agg #[.bool (s 0).a, .slice (v 0).A (v 0).n (v 0).c, .bool (s 0).co, .slice (v 0).B (v 0).m (v 0).d, .bool (s 1).a, .slice (v 1).A (v 1).n (v 1).c, .bool (s 1).co, .slice (v 1).B (v 1).m (v 1).d, .bool (s 2).a, .slice (v 2).A (v 2).n (v 2).c, .bool (s 2).co, .slice (v 2).B (v 2).m (v 2).d, .bool (s 3).a, .slice (v 3).A (v 3).n (v 3).c, .bool (s 3).co, .slice (v 3).B (v 3).m (v 3).d])]).run Try.prog w' = .ok (.slice (some ⟨w'.heap.size, 0, none⟩) 1 1) (w'.alloc (.cells #[.bool (s 0).a, .slice (v 0).A (v 0).n (v 0).c, .bool (s 0).co, .slice (v 0).B (v 0).m (v 0).d, .bool (s 1).a, .slice (v 1).A (v 1).n (v 1).c, .bool (s 1).co, .slice (v 1).B (v 1).m (v 1).d, .bool (s 2).a, .slice (v 2).A (v 2).n (v 2).c, .bool (s 2).co, .slice (v 2).B (v 2).m (v 2).d, .bool (s 3).a, .slice (v 3).A (v 3).n (v 3).c, .bool (s 3).co, .slice (v 3).B (v 3).m (v 3).d] 28 (0, 0))) := fun w' => by kernel_rfl
        have HALL := hide (And.intro hS5 (And.intro hF5 (And.intro hO5 (And.intro hG5 hB5))))
        clear hS5 hF5 hO5 hG5 hB5
        have hdF : D ≤ F := by omega
        have hdG : D ≤ G := by omega
        have hor : D = F ∨ (D ≠ F ∧ D = G) := by omega
        have HOR := hide hor
        clear hor hD d1 d2 d3 d4 hbf hbg H1 HFE HGE H2
        go_upto_region 5 with fail
        rcases HOR.out with h | h
        · refine reg5_fil A n c w.heap.size (w.heap.size + 1) _ _ _ D F G w5 _ HALL.out.1 HALL.out.2.1 HALL.out.2.2.1 HALL.out.2.2.2.1 HALL.out.2.2.2.2 hdF hdG (by rw [beq_iff_eq, h]) _ _ _ _ _ _ _ _ _ _ _ _ _ _ _ _ _ _ _ _ _ _ _ _ _ _ _ _ _ _ _ _ _ _ _ _ _ _ _ _ _ _ _ _ _ _ _ _ _ _ _ _ _ _ _ _ _ _ _ _ _ _ _ _ _ _ _ _ _ ?_
          intro z37 z38 z39 z40 z41 z42 z43 z44 z45 z46 z47 z48 z49 z50 z51 z52 z53 z54 z55 z56 z57 z58 z59 z60 z61 z62 z63 z64 z65 z66 z67 z68 z69 z70 z71 z72 w6 hb6
          clear HALL
          go_wp2_with fail
          go_ret
          exact ⟨rfl, below_step B6 B6.size hb6⟩
        · refine reg5_box A n c w.heap.size (w.heap.size + 1) _ _ _ D F G w5 _ HALL.out.1 HALL.out.2.1 HALL.out.2.2.1 HALL.out.2.2.2.1 HALL.out.2.2.2.2 hdF hdG (by rw [beq_eq_false_iff_ne]; have := h.1; omega) (by rw [beq_iff_eq, h.2]) _ _ _ _ _ _ _ _ _ _ _ _ _ _ _ _ _ _ _ _ _ _ _ _ _ _ _ _ _ _ _ _ _ _ _ _ _ _ _ _ _ _ _ _ _ _ _ _ _ _ _ _ _ _ _ _ _ _ _ _ _ _ _ _ _ _ _ _ _ ?_
          intro z37 z38 z39 z40 z41 z42 z43 z44 z45 z46 z47 z48 z49 z50 z51 z52 z53 z54 z55 z56 z57 z58 z59 z60 z61 z62 z63 z64 z65 z66 z67 z68 z69 z70 z71 z72 w6 hb6
          clear HALL
          go_wp2_with fail
          go_ret
          exact ⟨rfl, below_step B6 B6.size hb6⟩
end Go.Proofs.Ytfhokhhpfdmfiaa
