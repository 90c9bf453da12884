/- ExprMorgan: the walk; printed by gen_morgan05.py. -/
import Derived.Test.YtjkhajcngapjcaaEW
import Derived.Test.YtjkhajcngapjcaaEP
import Derived.Test.YtjkhajcngapjcaaEL
import Derived.Test.YtjkhajcngapjcaaMN
import Derived.Test.YtjkhajcngapjcaaR513
import Derived.Outline
namespace Go.Proofs.Ytjkhajcngapjcaa.Q
open Go.RowKit Go.Proofs.YtjkhajcngapjcaaW.PrintWords Go.Proofs.YtjkhajcngapjcaaW.PrintLast Go.Proofs.YtjkhajcngapjcaaW.PrintMore
set_option linter.unusedVariables false
set_option linter.unusedSimpArgs false

set_option maxHeartbeats 16000000 in
set_option maxRecDepth 100000 in
theorem morgan_walk (l : List S28) (A : Option Addr) (c : Nat) (e : Nat → V3) (w : World) (hlc : l.length ≤ c) (hC : k28.C w A l.length l) (hN : ∀ z, z ∈ l → Each (fun y => NumS y.f2) z) : Calls Try.prog 5 #[.slice A l.length c, .agg #[.int .i64 (e 0).k, .int .i64 (e 0).n, .string (e 0).t, .int .i64 (e 1).k, .int .i64 (e 1).n, .string (e 1).t, .int .i64 (e 2).k, .int .i64 (e 2).n, .string (e 2).t, .int .i64 (e 3).k, .int .i64 (e 3).n, .string (e 3).t]] w fun e' w' => e' = .returned (.bool true) ∧ Below w.heap.size w w' := by
  obtain ⟨i8, hi1, hi2, hi3, hi4⟩ := i28
  have HI := Aside0.mk (And.intro hi1 (And.intro hi2 (And.intro hi3 hi4)))
  clear hi1 hi2 hi3 hi4
  have HN := Aside0.mk hN
  have HC0 := Aside0.mk hC
  clear hN hC hlc
  go_enter Try.func5, Try.ntmps5
  go_wp2_with fail
  obtain ⟨wb, hwb⟩ : ∃ wb : World, wb = w.alloc (.cells #[.int .i64 (e 0).k, .int .i64 (e 0).n, .string (e 0).t, .int .i64 (e 1).k, .int .i64 (e 1).n, .string (e 1).t, .int .i64 (e 2).k, .int .i64 (e 2).n, .string (e 2).t, .int .i64 (e 3).k, .int .i64 (e 3).n, .string (e 3).t] 32) := ⟨_, rfl⟩
  have HWB := Aside0.mk (show Below w.heap.size w wb by rw [hwb]; exact below_alloc (Below.refl _ _) _)
  have HEV := Aside0.mk (show EvAt wb w.heap.size e by rw [hwb]; exact heap_alloc_new w _)
  rw [← hwb]
  clear hwb
  have HC := Aside0.mk (Kd.C_below HC0.out HWB.out)
  have HWS := Aside0.mk HWB.out.size
  refine (awake_any _).mono ?_
  rintro e' w1 ⟨rfl, hb⟩
  have HB1 := Aside0.mk hb
  clear hb
  have HEND := Aside0.mk (fun (W : World) (h : Below wb.heap.size wb W) => HWB.out.trans (h.mono HWS.out))
  by_cases hlen : 30 < (l.length : Int)
  · go_wp2_with fail
    refine (awake_any _).mono ?_
    rintro e' w9 ⟨rfl, hb⟩
    have HB9 := Aside0.mk (below_step HB1.out hb)
    clear hb
    go_wp2_with fail
    go_ret
    exact ⟨rfl, HEND.out _ HB9.out⟩
  · have HLEN := Aside0.mk (show l.length ≤ 30 by omega)
    go_wp2_with fail
    go_loopg [5, 22] l.length (fun q v5 v22 wr => ∃ i : Nat, v22 = .int .i64 i ∧ Aside0 (q + i = l.length) ∧ Aside0 (Below wb.heap.size wb wr) ∧ Aside0 (Nots wb wr (l.take i) v5) ∧ Aside0 (∀ y, y ∈ l.take i → SmallX y))
    case atStart => exact ⟨0, rfl, ⟨by omega⟩, HB1, ⟨by rw [List.take_zero]; exact (Nots.nil wb).below HB1.out⟩, ⟨by rw [List.take_zero]; intro y hy; cases hy⟩⟩
    case round =>
      clear hlen
      obtain ⟨i, rfl, HQ, HBR, HNR, HSR⟩ := hrel
      obtain ⟨wl, hwl⟩ : ∃ wl : World, wl = wr := ⟨_, rfl⟩
      subst hwl
      by_cases hi : i < l.length
      · have hi' : (i : Int) < (l.length : Int) := by omega
        obtain ⟨ad, B3, d3, B5, d5, B6, d6, ead, p0, p1, p2, p3, p4, p5, p6, m3, f3, m5, f5, m6, f6⟩ := at_T28 HC.out (i : Int) (by omega) (by omega)
        cases ead
        rw [Int.toNat_natCast] at p0 p1 p2 p3 p4 p5 p6
        have q0 := pw_cell_below HBR.out p0
        have q1 := pw_cell_below HBR.out p1
        have q2 := pw_cell_below HBR.out p2
        have q3 := pw_cell_below HBR.out p3
        have q4 := pw_cell_below HBR.out p4
        have q5 := pw_cell_below HBR.out p5
        have q6 := pw_cell_below HBR.out p6
        clear p0 p1 p2 p3 p4 p5 p6
        have hmem := rd28_in l i hi
        have HTK := Aside0.mk (take_snoc l i hi)
        generalize rd_T28 l (i : Int) = y at *
        have HNY := Aside0.mk (HN.out y hmem)
        have HXY := Aside0.mk (show XR wb (.agg #[.int .i64 y.f0, .int .i64 y.f1, .bool y.f2.f0, .slice B3 y.f2.f1.length d3, .bool y.f2.f2, .slice B5 y.f2.f3.length d5, .slice B6 y.f3.length d6]) y from ⟨B3, d3, B5, d5, B6, d6, rfl, m3, f3, m5, f5, m6, f6⟩)
        clear hmem m3 f3 m5 f5 m6 f6
        go_wp2_with fail
        obtain ⟨wn, hwn⟩ : ∃ wn : World, wn = wl.alloc (.cells #[.int .i64 y.f0, .int .i64 y.f1, .bool y.f2.f0, .slice B3 y.f2.f1.length d3, .bool y.f2.f2, .slice B5 y.f2.f3.length d5, .slice B6 y.f3.length d6] 28) := ⟨_, rfl⟩
        have hbn : Below wl.heap.size wl wn := by rw [hwn]; exact below_alloc (Below.refl _ _) _
        have HYN := Aside0.mk (show wn.heap[wl.heap.size]? = some (.cells #[.int .i64 y.f0, .int .i64 y.f1, .bool y.f2.f0, .slice B3 y.f2.f1.length d3, .bool y.f2.f2, .slice B5 y.f2.f3.length d5, .slice B6 y.f3.length d6] 28 (0, 0)) by rw [hwn]; exact heap_alloc_new wl _)
        have HBN := Aside0.mk (below_step HBR.out hbn)
        have HNN := Aside0.mk (HNR.out.below hbn)
        rw [← hwn]
        clear hwn hbn q0 q1 q2 q3 q4 q5 q6
        refine (few_any y _ _ (HXY.out.below HBN.out)).mono ?_
        rintro e' w2 ⟨⟨fb, rfl, hfb⟩, hb⟩
        have HY2 := Aside0.mk (blk_below HYN.out hb)
        have HB2 := Aside0.mk (below_step HBN.out hb)
        have HN2 := Aside0.mk (HNN.out.below hb)
        have HFB := Aside0.mk hfb
        clear hb hfb
        cases fb with
        | false =>
          go_wp2_with fail
          go_ret
          exact ⟨rfl, HEND.out _ HB2.out⟩
        | true =>
          have HSY := Aside0.mk (HFB.out rfl)
          clear HFB
          obtain ⟨cs, hnc⟩ := HN2.out
          have HNC := Aside0.mk hnc
          clear hnc
          obtain ⟨z0, z1, z2, z3, z4, z5, z6⟩ := ncells HY2.out
          go_wp2_with fail
          refine (not_st (St := fun W => Below wb.heap.size wb W) y _ w2 HB2.out (fun W hW => HXY.out.below hW)).mono ?_
          rintro e' w3 ⟨u, rfl, hX, hb⟩
          clear z0 z1 z2 z3 z4 z5 z6
          have HB3 := Aside0.mk (below_step HB2.out hb)
          have HB23 := Aside0.mk hb
          obtain ⟨E3, f3, E5, f5, E6, f6, hu, _⟩ := hX w3 HB3.out (fun _ _ _ => rfl)
          replace hu : u = .agg #[.int .i64 4, .int .i64 0, .bool false, .slice E3 0 f3, .bool false, .slice E5 0 f5, .slice E6 1 f6] := hu
          subst hu
          have HXU := Aside0.mk hX
          clear hb hX
          have HO := Aside0.mk (HNC.out.own (w3 := w3.alloc (.cells #[.int .i64 4, .int .i64 0, .bool false, .slice E3 0 f3, .bool false, .slice E5 0 f5, .slice E6 1 f6] 28)) (below_alloc HB23.out _))
          have HLT : (l.take i).length = i := by rw [List.length_take]; omega
          have HLT0 := Aside0.mk HLT
          clear HLT
          go_wp2_with ((with_reducible refine gate_builtin (b := .append) (xs := #[.tmp 29, .tmp 32]) rfl ?_); at_builtin; refine wpList_append_own_at _ rfl (.tmp 29) (.tmp 32) 26 rfl wb.heap.size 28 i8 _ 7 104 Try.underlying26 HI.out.1 HI.out.2.1 HI.out.2.2.1 HI.out.2.2.2 rfl (by omega) u5 (l.take i).length cs rfl ?aO ⟨w3.heap.size, 0, none⟩ 1 1 [.int .i64 4, .int .i64 0, .bool false, .slice E3 0 f3, .bool false, .slice E5 0 f5, .slice E6 1 f6] rfl ?aL ?aN ?a1 ?aM ?aB ?aS ?_; (case aO => exact HO.out); (case aL => rfl); (case aN => exact fun j u hu => by rw [add_plain, blk_cell (heap_alloc_new w3 _) j]; simpa using hu); (case a1 => intro u hu; simp only [List.mem_cons, List.not_mem_nil, or_false] at hu; rcases hu with rfl | rfl | rfl | rfl | rfl | rfl | rfl <;> rfl); (case aM => (have := HLT0.out; have := HLEN.out; simp only [maxLen]; omega)); (case aB => (have := HLT0.out; have := HLEN.out; omega)); (case aS => (have := HB3.out.size; simp only [World.size_alloc]; omega)); intro v6 w4 hown hg _ hat; have HN4 := Aside0.mk (Nots.append (w4 := w4) HNC.out HB23.out (below_alloc (Below.refl _ _) _) (by simp only [World.size_alloc]; omega) HXU.out hown hg hat); have HB4 := Aside0.mk (show Below wb.heap.size wb w4 from pw_below_grown (below_alloc HB3.out _) _ (by have := HB3.out.size; simp only [World.size_alloc]; omega) hg (fun k hk => (HO.out.lt k hk).1)); clear hown hg hat)
          go_roundg (l.length - (i + 1))
          case measure => have := HQ.out; omega
          case rel =>
            refine ⟨i + 1, by go_num, ⟨by omega⟩, HB4, ⟨by rw [← HTK.out]; exact HN4.out⟩, ⟨fun z hz => ?_⟩⟩
            rw [← HTK.out, List.mem_append] at hz
            rcases hz with hz | hz
            · exact HSR.out z hz
            · rw [List.mem_singleton.1 hz]; exact HSY.out
      · have hi' : ¬ (i : Int) < (l.length : Int) := by omega
        have HTI := Aside0.mk (show l.take i = l from List.take_of_length_le (by omega))
        clear hi
        have HS := Aside0.mk (fun y hy => HSR.out y (by rw [HTI.out]; exact hy))
        have HF := Aside0.mk (fun y (hy : y ∈ l) => fine_num (HN.out y hy) (HS.out y hy))
        obtain ⟨An, cn, hv, hln, hCn⟩ := (show Nots wb wl l u5 by rw [← HTI.out]; exact HNR.out).reads HBR.out
        subst hv
        have HCN := Aside0.mk hCn
        clear hCn hln
        go_wp2_with fail
        refine (and_any A _ c l _ (by have := HLEN.out; omega) rfl (Kd.C_below HC.out HBR.out)).mono ?_
        rintro e' w2 ⟨u1, rfl, hX, hb⟩
        have HX2 := Aside0.mk hX
        have HB2 := Aside0.mk (below_step HBR.out hb)
        have HCN2 := Aside0.mk (Kd.C_below HCN.out hb)
        clear hX hb
        go_wp2_with fail
        refine (not_any _ u1 _ HX2.out).mono ?_
        rintro e' w3 ⟨u2, rfl, hX, hb⟩
        have HB3 := Aside0.mk (below_step HB2.out hb)
        have HXA3 := Aside0.mk hX
        have HCN3 := Aside0.mk (Kd.C_below HCN2.out hb)
        obtain ⟨A3a, c3a, A5a, c5a, A6a, c6a, hu, _⟩ := hX
        replace hu : u2 = .agg #[.int .i64 4, .int .i64 0, .bool false, .slice A3a 0 c3a, .bool false, .slice A5a 0 c5a, .slice A6a 1 c6a] := hu
        subst hu
        clear hb
        go_wp2_with fail
        refine (or_any An _ cn (l.map notX) _ (by have := HLEN.out; simp only [List.length_map]; omega) (by simp) HCN3.out).mono ?_
        rintro e' w4 ⟨u3, rfl, hX, hb⟩
        have HB4 := Aside0.mk (below_step HB3.out hb)
        have HXA4 := Aside0.mk (HXA3.out.below hb)
        have HXB4 := Aside0.mk hX
        have HCN4 := Aside0.mk (Kd.C_below HCN3.out hb)
        obtain ⟨A3b, c3b, A5b, c5b, A6b, c6b, hu, _⟩ := hX
        replace hu : u3 = .agg #[.int .i64 3, .int .i64 0, .bool false, .slice A3b 0 c3b, .bool false, .slice A5b 0 c5b, .slice A6b (l.map notX).length c6b] := hu
        rw [List.length_map] at hu
        subst hu
        clear hb
        go_wp2_with fail
        obtain ⟨w5, hw5⟩ : ∃ w5 : World, w5 = (w4.alloc (.cells #[.int .i64 4, .int .i64 0, .bool false, .slice A3a 0 c3a, .bool false, .slice A5a 0 c5a, .slice A6a 1 c6a] 28)).alloc (.cells #[.int .i64 3, .int .i64 0, .bool false, .slice A3b 0 c3b, .bool false, .slice A5b 0 c5b, .slice A6b l.length c6b] 28) := ⟨_, rfl⟩
        have hb : Below w4.heap.size w4 w5 := by rw [hw5]; exact below_alloc (below_alloc (Below.refl _ _) _) _
        have HP5 := Aside0.mk (show w5.heap[w4.heap.size]? = some (.cells #[.int .i64 4, .int .i64 0, .bool false, .slice A3a 0 c3a, .bool false, .slice A5a 0 c5a, .slice A6a 1 c6a] 28 (0, 0)) by rw [hw5]; exact blk_new0 w4 _ _)
        have HR5 := Aside0.mk (show w5.heap[w4.heap.size + 1]? = some (.cells #[.int .i64 3, .int .i64 0, .bool false, .slice A3b 0 c3b, .bool false, .slice A5b 0 c5b, .slice A6b l.length c6b] 28 (0, 0)) by rw [hw5]; exact blk_new1 w4 _ _)
        have HB5 := Aside0.mk (below_step HB4.out hb)
        have HXA5 := Aside0.mk (HXA4.out.below hb)
        have HXB5 := Aside0.mk (HXB4.out.below hb)
        have HCN5 := Aside0.mk (Kd.C_below HCN4.out hb)
        rw [← hw5]
        clear hw5 hb
        refine (or_any A _ c l _ (by have := HLEN.out; omega) rfl (Kd.C_below HC.out HB5.out)).mono ?_
        rintro e' w6 ⟨u6, rfl, hX, hb⟩
        have HB6 := Aside0.mk (below_step HB5.out hb)
        have HP6 := Aside0.mk (blk_below HP5.out hb)
        have HR6 := Aside0.mk (blk_below HR5.out hb)
        have HXA6 := Aside0.mk (HXA5.out.below hb)
        have HXB6 := Aside0.mk (HXB5.out.below hb)
        have HCN6 := Aside0.mk (Kd.C_below HCN5.out hb)
        have HX6 := Aside0.mk hX
        clear hX hb
        go_wp2_with fail
        refine (not_any _ u6 _ HX6.out).mono ?_
        rintro e' w7 ⟨u7a, rfl, hX, hb⟩
        have HB7 := Aside0.mk (below_step HB6.out hb)
        have HP7 := Aside0.mk (blk_below HP6.out hb)
        have HR7 := Aside0.mk (blk_below HR6.out hb)
        have HXA7 := Aside0.mk (HXA6.out.below hb)
        have HXB7 := Aside0.mk (HXB6.out.below hb)
        have HCN7 := Aside0.mk (Kd.C_below HCN6.out hb)
        have HXC7 := Aside0.mk hX
        obtain ⟨A3c, c3c, A5c, c5c, A6c, c6c, hu, _⟩ := hX
        replace hu : u7a = .agg #[.int .i64 4, .int .i64 0, .bool false, .slice A3c 0 c3c, .bool false, .slice A5c 0 c5c, .slice A6c 1 c6c] := hu
        subst hu
        clear hb
        go_wp2_with fail
        refine (and_any An _ cn (l.map notX) _ (by have := HLEN.out; simp only [List.length_map]; omega) (by simp) HCN7.out).mono ?_
        rintro e' w8 ⟨u8, rfl, hX, hb⟩
        have HB8 := Aside0.mk (below_step HB7.out hb)
        have HP8 := Aside0.mk (blk_below HP7.out hb)
        have HR8 := Aside0.mk (blk_below HR7.out hb)
        have HXA8 := Aside0.mk (HXA7.out.below hb)
        have HXB8 := Aside0.mk (HXB7.out.below hb)
        have HCN8 := Aside0.mk (Kd.C_below HCN7.out hb)
        have HXC8 := Aside0.mk (HXC7.out.below hb)
        have HXD8 := Aside0.mk hX
        obtain ⟨A3d, c3d, A5d, c5d, A6d, c6d, hu, _⟩ := hX
        replace hu : u8 = .agg #[.int .i64 2, .int .i64 0, .bool false, .slice A3d 0 c3d, .bool false, .slice A5d 0 c5d, .slice A6d (l.map notX).length c6d] := hu
        rw [List.length_map] at hu
        subst hu
        clear hb
        have HM1 := Aside0.mk (@morgan_1 e l)
        have HM2 := Aside0.mk (@morgan_2 e l)
        have HFA := Aside0.mk (show Each (fun y => FineS y.f2) ⟨4, 0, s0, [⟨2, 0, s0, l⟩]⟩ from fine_one (fine_list HF.out))
        have HFB := Aside0.mk (show Each (fun y => FineS y.f2) ⟨3, 0, s0, l.map notX⟩ from fine_nots HF.out)
        have HFC := Aside0.mk (show Each (fun y => FineS y.f2) ⟨4, 0, s0, [⟨3, 0, s0, l⟩]⟩ from fine_one (fine_list HF.out))
        have HFD := Aside0.mk (show Each (fun y => FineS y.f2) ⟨2, 0, s0, l.map notX⟩ from fine_nots HF.out)
        go_upto_region 13 with fail
        obtain ⟨w9, hw9⟩ : ∃ w9 : World, w9 = (w8.alloc (.cells #[.int .i64 4, .int .i64 0, .bool false, .slice A3c 0 c3c, .bool false, .slice A5c 0 c5c, .slice A6c 1 c6c] 28)).alloc (.cells #[.int .i64 2, .int .i64 0, .bool false, .slice A3d 0 c3d, .bool false, .slice A5d 0 c5d, .slice A6d l.length c6d] 28) := ⟨_, rfl⟩
        have hb : Below w8.heap.size w8 w9 := by rw [hw9]; exact below_alloc (below_alloc (Below.refl _ _) _) _
        have HU9 := Aside0.mk (show w9.heap[w8.heap.size]? = some (.cells #[.int .i64 4, .int .i64 0, .bool false, .slice A3c 0 c3c, .bool false, .slice A5c 0 c5c, .slice A6c 1 c6c] 28 (0, 0)) by rw [hw9]; exact blk_new0 w8 _ _)
        have HV9 := Aside0.mk (show w9.heap[w8.heap.size + 1]? = some (.cells #[.int .i64 2, .int .i64 0, .bool false, .slice A3d 0 c3d, .bool false, .slice A5d 0 c5d, .slice A6d l.length c6d] 28 (0, 0)) by rw [hw9]; exact blk_new1 w8 _ _)
        have HB9 := Aside0.mk (below_step HB8.out hb)
        have HP9 := Aside0.mk (blk_below HP8.out hb)
        have HR9 := Aside0.mk (blk_below HR8.out hb)
        have HXA9 := Aside0.mk (HXA8.out.below hb)
        have HXB9 := Aside0.mk (HXB8.out.below hb)
        have HCN9 := Aside0.mk (Kd.C_below HCN8.out hb)
        have HXC9 := Aside0.mk (HXC8.out.below hb)
        have HXD9 := Aside0.mk (HXD8.out.below hb)
        have HEV9 := Aside0.mk (HEV.out.below HB9.out)
        rw [← hw9]
        clear hw9 hb
        refine r5_13 w4.heap.size (w4.heap.size + 1) w8.heap.size (w8.heap.size + 1) w.heap.size _ _ _ _ _ (evalT ⟨4, 0, s0, [⟨2, 0, s0, l⟩]⟩ e) (evalT ⟨4, 0, s0, [⟨3, 0, s0, l⟩]⟩ e) (rightT ⟨4, 0, s0, [⟨2, 0, s0, l⟩]⟩) (rightT ⟨3, 0, s0, l.map notX⟩) (rightT ⟨4, 0, s0, [⟨3, 0, s0, l⟩]⟩) (rightT ⟨2, 0, s0, l.map notX⟩) w9 _
          (fun w' hb => ⟨load_node (blk_below HP9.out hb), load_node (blk_below HR9.out hb), load_node (blk_below HU9.out hb), load_node (blk_below HV9.out hb), load_ev (HEV9.out.below hb)⟩)
          (fun w' hb => right_any _ _ w' HFA.out (HXA9.out.below hb)) (fun w' hb => right_any _ _ w' HFB.out (HXB9.out.below hb))
          (fun w' hb _ _ => Eval_any _ _ e w' HFA.out (HXA9.out.below hb)) (fun w' hb h1 h2 => HM1.out h1 h2 ▸ Eval_any _ _ e w' HFB.out (HXB9.out.below hb))
          (fun w' hb => right_any _ _ w' HFC.out (HXC9.out.below hb)) (fun w' hb => right_any _ _ w' HFD.out (HXD9.out.below hb))
          (fun w' hb _ _ => Eval_any _ _ e w' HFC.out (HXC9.out.below hb)) (fun w' hb h1 h2 => HM2.out h1 h2 ▸ Eval_any _ _ e w' HFD.out (HXD9.out.below hb)) _ _ _ _ _ _ _ _ _ _ _ _ _ _ _ _ _ _ _ _ _ _ _ _ _ _ _ _ _ _ _ _ _ _ _ _ _ _ _ _ _ _ _ _ _ _ _ _ _ _ _ _ _ _ _ _ _ _ _ _ _ _ _ _ _ _ _ _ _ _ _ _ _ _ _ _ ?_
        intro r0 r1 r2 r3 r4 r5 r6 r7 r8 r9 r10 r11 r12 r13 r14 r15 r16 r17 r18 r19 r20 r21 r22 r23 r24 r25 r26 r27 r28 r29 r30 r31 r32 r33 r34 r35 w10 hb
        have HB10 := Aside0.mk (below_step HB9.out hb)
        clear hb
        go_wp2_with fail
        go_ret
        exact ⟨rfl, HEND.out _ HB10.out⟩
theorem morgan_arg {H : Type} {enc : TypeId × Value → H} {w : World} {base : Nat} {spare : Nat → Bool} {held : Bool} {r : Reach} {b1 : Nat} (v0 : Value) (d0 : DataW H) (p0 : List MemPlace) (h0 : DataW.Trod enc Try.prog w base spare held 26 v0 d0 p0) (k0 : Value.okWide Try.prog w r b1 26 v0) (v1 : Value) (d1 : DataW H) (p1 : List MemPlace) (h1 : DataW.Trod enc Try.prog w base spare held 32 v1 d1 p1) (k1 : Value.okWide Try.prog w r b1 32 v1) : Calls Try.prog 5 #[v0, v1] w fun e' w' => e' = .returned (.bool true) ∧ Below w.heap.size w w' := by
  obtain ⟨A, l, c, rfl, hl, hC, hN⟩ := exprs_arg k0 h0
  obtain ⟨e, rfl⟩ := event_arg k1 h1
  exact morgan_walk l A c e w hl hC hN
end Go.Proofs.Ytjkhajcngapjcaa.Q
