/- What tree.Way comes to. -/
import Derived.Test.YtpoolbjmebacdaaQF
import Derived.Outline
import Derived.IntWalk
import Derived.WalkMore
namespace Go.Proofs.Ytpoolbjmebacdaa.Q
open Go.RowKit Go.Proofs.YtpoolbjmebacdaaW.PrintWords Go.Proofs.YtpoolbjmebacdaaW.PrintLast Go.Proofs.YtpoolbjmebacdaaW.PrintMore
set_option linter.unusedVariables false
set_option linter.unusedSimpArgs false

theorem upT_len (ps : List Int) (n : Nat) : ∀ b, (upT ps n b).length ≤ n + 1 := by
  induction n with
  | zero => intro b; simp [upT]
  | succ n ih =>
    intro b
    have := ih (rd ps (b - 1))
    simp only [upT]
    split <;> simp <;> omega
def wayT (ps : List Int) (a b : Int) : List Int := meetF (upT ps 8 a) (upT ps 8 b)
def tree_Way.f (l0_0 : List Int) (l0_1 : List Int) (a0_2 : Int) (a0_3 : Int) (a1 : Int) (a2 : Int) : Option (List Int) :=
  some (if isB l0_0 l0_1 a0_2 a0_3 a1 = true ∧ isB l0_0 l0_1 a0_2 a0_3 a2 = true then wayT l0_0 a1 a2 else [])

set_option maxHeartbeats 8000000 in
set_option maxRecDepth 100000 in
theorem tree_Way.calls (A0_0 : Option Addr) (c0_0 : Nat) (l0_0 : List Int) (A0_1 : Option Addr) (c0_1 : Nat) (l0_1 : List Int) (a0_2 : Int) (a0_3 : Int) (a1 : Int) (a2 : Int) (r : List Int) (w : World) (hr0_0 : Kd.C (Kd.int .i64) w A0_0 l0_0.length l0_0) (hc0_0 : l0_0.length ≤ c0_0) (hr0_1 : Kd.C (Kd.int .i64) w A0_1 l0_1.length l0_1) (hc0_1 : l0_1.length ≤ c0_1) (h : tree_Way.f l0_0 l0_1 a0_2 a0_3 a1 a2 = some r) :
    Calls Try.prog 14 #[.agg #[.slice A0_0 l0_0.length c0_0, .slice A0_1 l0_1.length c0_1, .int .i64 a0_2, .int .u64 a0_3], .int .i64 a1, .int .i64 a2] w fun e w' => ∃ v0_ : Value, e = .returned (v0_) ∧ Kd.R (Kd.int .i64) 3 w' w.heap.size (fun _ => True) v0_ r ∧ Below w.heap.size w w' := by
  unfold tree_Way.f at h
  have HR0 := Aside0.mk hr0_0
  have HR1 := Aside0.mk hr0_1
  have HB := Aside0.mk (Below.refl w.heap.size w)
  clear hr0_0 hr0_1 hc0_0 hc0_1
  cases hb : isB l0_0 l0_1 a0_2 a0_3 a1 with
  | false =>
    rw [hb, if_neg (by simp)] at h
    obtain rfl := Option.some.inj h
    have HBK := Aside0.mk hb
    clear hb h
    go_enter Try.func14, Try.ntmps14
    go_wp2_with fail
    go_step3
    go_wp2_with fail
    refine (tree_broker.raw _ A0_0 c0_0 l0_0 A0_1 c0_1 l0_1 a0_2 a0_3 a1 _ (heap_alloc_new w _) (Kd.C_alloc HR0.out _) (Kd.C_alloc HR1.out _)).mono ?_
    rw [HBK.out]
    rintro e w1 ⟨rfl, hb1⟩
    have HB := Aside0.mk (below_step (below_alloc HB.out _) hb1)
    clear hb1
    go_wp2_with fail
    rw [Exit.noGoto_ret]
    go_ret
    exact ⟨_, rfl, Kd.R_nil _ _ _ _ _, HB.out⟩
  | true =>
    cases hb2 : isB l0_0 l0_1 a0_2 a0_3 a2 with
    | false =>
      rw [hb, hb2, if_neg (by simp)] at h
      obtain rfl := Option.some.inj h
      have HBK := Aside0.mk hb
      have HBK2 := Aside0.mk hb2
      clear hb hb2 h
      go_enter Try.func14, Try.ntmps14
      go_wp2_with fail
      go_step3
      go_wp2_with fail
      refine (tree_broker.raw _ A0_0 c0_0 l0_0 A0_1 c0_1 l0_1 a0_2 a0_3 a1 _ (heap_alloc_new w _) (Kd.C_alloc HR0.out _) (Kd.C_alloc HR1.out _)).mono ?_
      rw [HBK.out]
      rintro e w1 ⟨rfl, hb1⟩
      have HB := Aside0.mk (below_step (below_alloc HB.out _) hb1)
      have BK := Aside0.mk (blk_below (heap_alloc_new w _) hb1)
      clear hb1
      go_wp2_with fail
      refine (tree_broker.raw _ A0_0 c0_0 l0_0 A0_1 c0_1 l0_1 a0_2 a0_3 a2 _ BK.out (Kd.C_below HR0.out HB.out) (Kd.C_below HR1.out HB.out)).mono ?_
      rw [HBK2.out]
      rintro e w2 ⟨rfl, hb1⟩
      have HB2 := Aside0.mk (below_step HB.out hb1)
      clear hb1
      go_wp2_with fail
      rw [Exit.noGoto_ret]
      go_ret
      exact ⟨_, rfl, Kd.R_nil _ _ _ _ _, HB2.out⟩
    | true =>
      obtain ⟨hx0, hx1, hl7, hck⟩ := isB_ok hb
      obtain ⟨hy0, hy1, _, _⟩ := isB_ok hb2
      rw [hb, hb2, if_pos ⟨rfl, rfl⟩] at h
      obtain rfl := Option.some.inj h
      have HU1 := Aside0.mk (up_f (ok_of_check hck).2 hl7 l0_1 a0_2 a0_3 a1 hx0 hx1)
      have HU2 := Aside0.mk (up_f (ok_of_check hck).2 hl7 l0_1 a0_2 a0_3 a2 hy0 hy1)
      have HBK := Aside0.mk hb
      have HBK2 := Aside0.mk hb2
      unfold wayT
      generalize hX : upT l0_0 8 a1 = X at *
      generalize hY : upT l0_0 8 a2 = Y at *
      have HXX := Aside0.mk hX
      have HYY := Aside0.mk hY
      have HCK := Aside0.mk hck
      clear hb hb2 h hx0 hx1 hl7 hck hy0 hy1 hX hY
      go_enter Try.func14, Try.ntmps14
      go_wp2_with fail
      go_step3
      go_wp2_with fail
      refine (tree_broker.raw _ A0_0 c0_0 l0_0 A0_1 c0_1 l0_1 a0_2 a0_3 a1 _ (heap_alloc_new w _) (Kd.C_alloc HR0.out _) (Kd.C_alloc HR1.out _)).mono ?_
      rw [HBK.out]
      rintro e w1 ⟨rfl, hb1⟩
      have HB1 := Aside0.mk (below_step (below_alloc HB.out _) hb1)
      have BK := Aside0.mk (blk_below (heap_alloc_new w _) hb1)
      clear hb1
      go_wp2_with fail
      refine (tree_broker.raw _ A0_0 c0_0 l0_0 A0_1 c0_1 l0_1 a0_2 a0_3 a2 _ BK.out (Kd.C_below HR0.out HB1.out) (Kd.C_below HR1.out HB1.out)).mono ?_
      rw [HBK2.out]
      rintro e w2 ⟨rfl, hb1⟩
      have HB2 := Aside0.mk (below_step HB1.out hb1)
      have BK2 := Aside0.mk (blk_below BK.out hb1)
      have HN2 := Aside0.mk (show w.heap.size < w2.heap.size from (Array.getElem?_eq_some_iff.1 BK2.out).1)
      clear hb1 HB1 BK
      go_wp2_with fail
      refine (tree_up.calls 9 w.heap.size l0_0 l0_1 a0_2 a0_3 a1 X a0_2 a0_3 w w2 ⟨A0_0, c0_0, A0_1, c0_1, BK2.out, Nat.le_refl _, HR0.out, HR1.out⟩ HB2.out HU1.out).mono ?_
      rintro e w3 ⟨va, rfl, hra, hI3, hB3, hk3⟩
      have HRA := Aside0.mk hra
      have HI3 := Aside0.mk hI3
      have HB3 := Aside0.mk hB3
      clear hra hI3 hB3 hk3 BK2
      go_wp2_with fail
      refine (tree_up.calls 9 w.heap.size l0_0 l0_1 a0_2 a0_3 a2 Y a0_2 a0_3 w w3 HI3.out HB3.out HU2.out).mono ?_
      rintro e w4 ⟨vb, rfl, hrb, hI4, hB4, hk4⟩
      have HRB := Aside0.mk hrb
      have HI4 := Aside0.mk hI4
      have HB4 := Aside0.mk hB4
      clear hrb hI4 hB4 HI3
      have hn2 : w.heap.size < w2.heap.size := HN2.out
      have HRA4 := Aside0.mk (Kd.R_lower (Kd.R_keep (Kd.R_mono (ok' := fun k => k < w3.heap.size ∧ w.heap.size < k) (Kd.R_bound HRA.out) (fun k hk => ⟨hk.2.2.1, by have := hk.2.1; omega⟩)) hk4 (fun k hk => by have := hk.2; omega)) HB2.out.size)
      have HRB4 := Aside0.mk (Kd.R_lower (Kd.R_mono (ok' := fun k => w3.heap.size ≤ k) (Kd.R_bound HRB.out) (fun k hk => hk.2.1)) HB3.out.size)
      have HPX := Aside0.mk (show 0 < X.length by rw [← HXX.out]; obtain ⟨t, ht⟩ := upT_ne l0_0 8 a1; rw [ht]; simp)
      have HPY := Aside0.mk (show 0 < Y.length by rw [← HYY.out]; obtain ⟨t, ht⟩ := upT_ne l0_0 8 a2; rw [ht]; simp)
      have HLX := Aside0.mk (show X.length ≤ 9 by rw [← HXX.out]; exact upT_len l0_0 8 a1)
      have HLY := Aside0.mk (show Y.length ≤ 9 by rw [← HYY.out]; exact upT_len l0_0 8 a2)
      clear HRA HRB hk4 hn2
      have HRA5 := Aside0.mk (Kd.R_mono (ok' := fun k => k < w3.heap.size) HRA4.out (fun k hk => hk.1))
      clear HRA4
      have HRA4 := HRA5
      clear HRA5
      obtain ⟨ga, capa, ea, _⟩ := Kd.R_form HRA4.out HPX.out
      subst ea
      obtain ⟨gb, capb, eb, _⟩ := Kd.R_form HRB4.out HPY.out
      subst eb
      have HCX := Aside0.mk (Kd.R_reads' HRA4.out).2.2
      have HCY := Aside0.mk (Kd.R_reads' HRB4.out).2.2
      have hcapa : X.length ≤ capa := (Kd.R_reads' HRA4.out).2.1
      have hcapb : Y.length ≤ capb := (Kd.R_reads' HRB4.out).2.1
      have hx9 : (X.length : Int) ≤ 9 := by have := HLX.out; omega
      have hy9 : (Y.length : Int) ≤ 9 := by have := HLY.out; omega
      go_wp2_with fail
      go_step3
      go_wp2_with fail
      go_loopg [7, 8, 27] X.length (fun q v7 v8 v27 wr => ∃ i : Nat, v7 = .slice (some ⟨ga, 0, none⟩) X.length capa ∧ v8 = .slice (some ⟨gb, 0, none⟩) Y.length capb ∧ v27 = .int .i64 i ∧ Aside0 (q + i = X.length) ∧ wr = w4 ∧ Aside0 (X.take i ++ meetF (X.drop i) Y = meetF X Y))
      case atStart => exact ⟨0, rfl, rfl, rfl, ⟨by omega⟩, rfl, ⟨by simp⟩⟩
      case round =>
        obtain ⟨i, rfl, rfl, rfl, HK, hw, HM⟩ := hrel
        obtain rfl : w4 = wr := hw.symm
        clear hw
        by_cases hi : i < X.length
        · obtain ⟨adx, e, hx1⟩ := Kd.at_int HCX.out (i : Int) (by omega) (by omega)
          cases e
          simp only [Int.toNat_natCast, add_plain] at hx1
          have hi' : (i : Int) < (X.length : Int) := by omega
          have HM' := HM.out
          rw [drop_rd X i hi] at HM'
          generalize hx : rd X (i : Int) = x at *
          have HX := Aside0.mk hx
          have HM2 := Aside0.mk HM'
          clear HM HM' hx
          go_wp2_with fail
          go_loopg [7, 8, 34] Y.length (fun q v7 v8 v34 wr => ∃ j : Nat, v7 = .slice (some ⟨ga, 0, none⟩) X.length capa ∧ v8 = .slice (some ⟨gb, 0, none⟩) Y.length capb ∧ v34 = .int .i64 j ∧ Aside0 (q + j = Y.length) ∧ wr = w4 ∧ Aside0 (idx x Y = (idx x (Y.drop j)).map (· + j)))
          case atStart => exact ⟨0, rfl, rfl, rfl, ⟨by omega⟩, rfl, ⟨by simp⟩⟩
          case round =>
            obtain ⟨j, rfl, rfl, rfl, HJ, hw, HI⟩ := hrel
            obtain rfl : w4 = wr := hw.symm
            clear hw
            by_cases hj : j < Y.length
            · obtain ⟨ady, e, hy1⟩ := Kd.at_int HCY.out (j : Int) (by omega) (by omega)
              cases e
              simp only [Int.toNat_natCast, add_plain] at hy1
              have hj' : (j : Int) < (Y.length : Int) := by omega
              have HI' := HI.out
              rw [drop_rd Y j hj] at HI'
              by_cases hxy : x = rd Y (j : Int)
              · have hend : X.take (i + 1) ++ (Y.take j).reverse = meetF X Y := by
                  rw [← HM2.out]
                  have hi0 : idx x Y = some j := by rw [HI']; simp [idx, hxy]
                  simp only [meetF, hi0]
                  rw [List.take_succ_eq_append_getElem hi, ← rd_nat X i hi, HX.out]
                  simp
                have HEND := Aside0.mk hend
                have hxb : (x == rd Y (j : Int)) = true := by simpa using hxy
                have s1 : IntKind.i64.wrap (↑i + 1) = ↑i + 1 := IntWalk.i64_in _ (by omega)
                have s2 : (0 : Int) ≤ ↑i + 1 := by omega
                have s3 : ((i : Int) + 1).toNat = i + 1 := by omega
                have s4 : (i : Int) + 1 ≤ (capa : Int) := by omega
                have s5 : (j : Int) ≤ (capb : Int) := by omega
                have s6 : i + 1 ≤ capa := by omega
                have s7 : j ≤ capb := by omega
                clear hxy HI' hend
                go_wp2_with fail
                go_quiet (fail)
                clear s1 s2 s3 s4 s5 s6 s7
                generalize hwt : w4.drewN nq = wt
                have HRA5 := Aside0.mk (show Kd.R (Kd.int .i64) 3 wt w.heap.size (fun k => k < w3.heap.size) (.slice (some ⟨ga, 0, none⟩) (i + 1) capa) (X.take (i + 1)) from by first | exact Kd.R_take HRA4.out (by omega) | (rw [← hwt]; exact Kd.R_drewN (Kd.R_take HRA4.out (by omega)) _))
                have HRB5 := Aside0.mk (show Kd.R (Kd.int .i64) 3 wt w.heap.size (fun k => w3.heap.size ≤ k) (.slice (some ⟨gb, 0, none⟩) j capb) (Y.take j) from by first | exact Kd.R_take HRB4.out (by omega) | (rw [← hwt]; exact Kd.R_drewN (Kd.R_take HRB4.out (by omega)) _))
                have HBt := Aside0.mk (show Below w.heap.size w wt from by first | exact HB4.out | (rw [← hwt]; exact pw_below_drewN HB4.out _))
                have HREV := Aside0.mk (reverse_f (Y.take j) (by have := HLY.out; simp; omega))
                clear HRA4 HRB4
                try clear hwt
                go_wp2_with fail
                refine (slices_Reverse_int_int.calls _ (fun k => w3.heap.size ≤ k) _ (Y.take j) _ w wt HBt.out HRB5.out HREV.out).mono ?_
                rintro e w5 ⟨rfl, hrb5, hb5, hk5⟩
                have HRA6 := Aside0.mk (Kd.R_mono (ok' := fun _ => True) (Kd.R_kept HRA5.out hk5 (fun k h1 h2 => by omega)) (fun _ _ => trivial))
                have HRB6 := Aside0.mk (Kd.R_reads' hrb5).2.2
                have HLE6 := Aside0.mk (Kd.R_reads' hrb5).1
                have HB6 := Aside0.mk hb5
                clear hrb5 hb5 hk5 HRA5 HRB5 HREV HBt
                go_wp2_with (first | ((with_reducible refine gate_builtin (b := .append) (xs := #[.tmp 53, .tmp 54]) rfl ?_); at_builtin; refine Kd.R_append_rows (Kd.int .i64) (w0 := w) w.heap.size rfl (.tmp 53) (.tmp 54) 22 3 (.int .i64 0) 8 rfl Try.underlying22 info3 rfl (by decide) (by omega) (.slice (some ⟨ga, 0, none⟩) (i + 1) capa) (X.take (i + 1)) (Y.take j).reverse _ _ _ (fun _ => True) (fun _ => False) rfl rfl ?aO ?aR (fun _ _ h => h) (fun _ h => h.elim) ?aF ?aB ?aS ?aL ?_; (case aR => exact (by have h_ := HRB6.out; rw [← HLE6.out] at h_; exact h_)); (case aO => exact HRA6.out); (case aB => exact HB6.out); (case aF => exact (fun _ _ => trivial)); (case aS => exact HB6.out.size); (case aL => have := HLX.out; have := HLY.out; simp; omega); intro v w7 ho hb hg hat; have HO := Aside0.mk ho; have HB := Aside0.mk hb; clear ho hb hg hat))
                try rw [Exit.noGoto_ret]
                go_ret
                exact ⟨_, rfl, by rw [← HEND.out]; exact HO.out, HB.out⟩
              · have hi2 : idx x Y = (idx x (Y.drop (j + 1))).map (· + (j + 1)) := by
                  rw [HI']
                  simp only [idx, if_neg hxy, Option.map_map]
                  congr 1; funext n; simp only [Function.comp]; omega
                have HI2 := Aside0.mk hi2
                have hxb : (x == rd Y (j : Int)) = false := by simpa using hxy
                clear hxy hi2 HI'
                go_wp2_with fail
                go_roundg (Y.length - (j + 1))
                case measure => have := HJ.out; omega
                case rel => exact ⟨j + 1, rfl, rfl, by go_num, ⟨by omega⟩, rfl, HI2⟩
            · have hj' : ¬ (j : Int) < (Y.length : Int) := by omega
              have hm2 : X.take (i + 1) ++ meetF (X.drop (i + 1)) Y = meetF X Y := by
                rw [← HM2.out]
                have hi0 : idx x Y = none := by rw [HI.out, List.drop_of_length_le (by omega)]; rfl
                simp only [meetF, hi0]
                rw [List.take_succ_eq_append_getElem hi, ← rd_nat X i hi, HX.out]
                simp
              have HM3 := Aside0.mk hm2
              clear hm2
              go_wp2_with fail
              go_roundg (X.length - (i + 1))
              case measure => have := HK.out; omega
              case rel => exact ⟨i + 1, rfl, rfl, by go_num, ⟨by omega⟩, rfl, HM3⟩
        · have hi' : ¬ (i : Int) < (X.length : Int) := by omega
          have hend : X ++ Y.reverse = meetF X Y := by
            rw [← HM.out, List.drop_of_length_le (by omega), List.take_of_length_le (by omega)]; rfl
          have HEND := Aside0.mk hend
          clear hend
          obtain ⟨wt, hwt⟩ : ∃ wt : World, wt = w4 := ⟨_, rfl⟩
          subst hwt
          have HRA5 := Aside0.mk (show Kd.R (Kd.int .i64) 3 wt w.heap.size (fun k => k < w3.heap.size) (.slice (some ⟨ga, 0, none⟩) X.length capa) (X) from by first | exact HRA4.out | (rw [← hwt]; exact Kd.R_drewN (HRA4.out) _))
          have HRB5 := Aside0.mk (show Kd.R (Kd.int .i64) 3 wt w.heap.size (fun k => w3.heap.size ≤ k) (.slice (some ⟨gb, 0, none⟩) Y.length capb) (Y) from by first | exact HRB4.out | (rw [← hwt]; exact Kd.R_drewN (HRB4.out) _))
          have HBt := Aside0.mk (show Below w.heap.size w wt from by first | exact HB4.out | (rw [← hwt]; exact pw_below_drewN HB4.out _))
          have HREV := Aside0.mk (reverse_f (Y) (by have := HLY.out; simp; omega))
          clear HRA4 HRB4
          try clear hwt
          go_wp2_with fail
          refine (slices_Reverse_int_int.calls _ (fun k => w3.heap.size ≤ k) _ (Y) _ w wt HBt.out HRB5.out HREV.out).mono ?_
          rintro e w5 ⟨rfl, hrb5, hb5, hk5⟩
          have HRA6 := Aside0.mk (Kd.R_mono (ok' := fun _ => True) (Kd.R_kept HRA5.out hk5 (fun k h1 h2 => by omega)) (fun _ _ => trivial))
          have HRB6 := Aside0.mk (Kd.R_reads' hrb5).2.2
          have HLE6 := Aside0.mk (Kd.R_reads' hrb5).1
          have HB6 := Aside0.mk hb5
          clear hrb5 hb5 hk5 HRA5 HRB5 HREV HBt
          go_wp2_with (first | ((with_reducible refine gate_builtin (b := .append) (xs := #[.tmp 53, .tmp 54]) rfl ?_); at_builtin; refine Kd.R_append_rows (Kd.int .i64) (w0 := w) w.heap.size rfl (.tmp 53) (.tmp 54) 22 3 (.int .i64 0) 8 rfl Try.underlying22 info3 rfl (by decide) (by omega) (.slice (some ⟨ga, 0, none⟩) X.length capa) (X) (Y).reverse _ _ _ (fun _ => True) (fun _ => False) rfl rfl ?aO ?aR (fun _ _ h => h) (fun _ h => h.elim) ?aF ?aB ?aS ?aL ?_; (case aR => exact (by have h_ := HRB6.out; rw [← HLE6.out] at h_; exact h_)); (case aO => exact HRA6.out); (case aB => exact HB6.out); (case aF => exact (fun _ _ => trivial)); (case aS => exact HB6.out.size); (case aL => have := HLX.out; have := HLY.out; simp; omega); intro v w7 ho hb hg hat; have HO := Aside0.mk ho; have HB := Aside0.mk hb; clear ho hb hg hat))
          try rw [Exit.noGoto_ret]
          go_ret
          exact ⟨_, rfl, by rw [← HEND.out]; exact HO.out, HB.out⟩
end Go.Proofs.Ytpoolbjmebacdaa.Q
