/- TreeParts: the walk. -/
import Derived.Test.YtpoolbjmebacdaaTP
import Derived.Test.YtpoolbjmebacdaaTMap
import Derived.Test.YtpoolbjmebacdaaQV
import Derived.Test.YtpoolbjmebacdaaOpens
namespace Go.Proofs.Ytpoolbjmebacdaa.Q
open Go.RowKit Go.Maps Go.Proofs.YtpoolbjmebacdaaW.PrintWords Go.Proofs.YtpoolbjmebacdaaW.PrintLast Go.Proofs.YtpoolbjmebacdaaW.PrintMore TM
set_option linter.unusedVariables false
set_option linter.unusedSimpArgs false

theorem lt_max : 16 < maxLen := by unfold maxLen; omega
theorem i64_nat {n : Nat} (h : n ≤ 100) : I64 (n : Int) := by unfold I64; omega
theorem wf_add {n : Nat} (h : n ≤ 100) : (Lit.int .i64 ((n : Int) + 1)).wf = true := wf_of (by unfold I64; omega)

/-- What stands while a link is looked at: what was there before; the link's own variable; the map. -/
def PInv (wr W : World) (a n : Nat) (L : List Int) : Prop := Below wr.heap.size wr W ∧ W.heap[wr.heap.size]? = some (.cells #[.int .i64 (a : Int), .int .i64 (n : Int)] 39 (0, 0)) ∧ Counts W (wr.heap.size + 1) L
theorem PInv.below {wr W W1 : World} {a n : Nat} {L : List Int} (h : PInv wr W a n L) (hb : Below W.heap.size W W1) : PInv wr W1 a n L :=
  ⟨below_step h.1 hb, blk_below h.2.1 hb, h.2.2.below hb⟩
theorem PInv.put {wr W W1 : World} {a n : Nat} {L L1 : List Int} (h : PInv wr W a n L) (hg : W.grownBy W1 (some (wr.heap.size + 1))) (hc : Counts W1 (wr.heap.size + 1) L1) : PInv wr W1 a n L1 :=
  ⟨pw_below_grown h.1 _ h.1.size hg (fun k hk => by cases hk; omega), blk_grown h.2.1 hg (by simp), hc⟩
theorem take_rd (L : List Int) (j : Nat) (h : j < L.length) : L.take j ++ [rd L (j : Int)] = L.take (j + 1) := by
  rw [rd_nat L j h, List.take_succ_eq_append_getElem h]
theorem BY_at {ps hs : List Int} {b g : Int} (h : Good ps hs b g) (a n : Nat) (j : Nat) (hj : j < (C (BY h a n)).length) : ∃ t : Nat, rd (C (BY h a n)) (j : Int) = (t : Int) ∧ t ≤ ps.length := by
  rw [C_length] at hj
  rw [C_rd _ j hj]
  have := List.getElem_mem hj
  rw [BY_mem] at this
  exact ⟨_, rfl, this.2.1⟩

set_option maxHeartbeats 16000000 in
set_option maxRecDepth 100000 in
theorem parts_walk (A0 : Option Addr) (c0 : Nat) (ps : List Int) (A1 : Option Addr) (c1 : Nat) (hs : List Int) (b g : Int) (w : World) (hr0 : Kd.C (Kd.int .i64) w A0 ps.length ps) (hc0 : ps.length ≤ c0) (hr1 : Kd.C (Kd.int .i64) w A1 hs.length hs) (hc1 : hs.length ≤ c1) :
    Calls Try.prog 4 #[.agg #[.slice A0 ps.length c0, .slice A1 hs.length c1, .int .i64 b, .int .u64 g]] w fun e w' => e = .returned (.bool true) ∧ Below w.heap.size w w' := by
  have HR0 := Aside0.mk hr0
  have HR1 := Aside0.mk hr1
  have HC0 := Aside0.mk hc0
  have HC1 := Aside0.mk hc1
  clear hr0 hr1 hc0 hc1
  have hmm := @run_makeMap Try.prog
  by_cases hck : checkT ps hs b g = 0
  case neg =>
    have HCK := Aside0.mk (check_f ps hs b g _ (Nat.le_refl _))
    have hne : (checkT ps hs b g != 0) = true := by simpa using hck
    generalize checkT ps hs b g = ck at *
    clear hck
    go_enter Try.func4, Try.ntmps4
    go_wp2_with fail
    have BK0 := Aside0.mk (heap_alloc_new w (.cells #[.slice A0 ps.length c0, .slice A1 hs.length c1, .int .i64 b, .int .u64 g] 25))
    have HB0 := Aside0.mk (below_alloc (Below.refl w.heap.size w) (.cells #[.slice A0 ps.length c0, .slice A1 hs.length c1, .int .i64 b, .int .u64 g] 25))
    refine (awake_true _).mono ?_
    rintro e w1 ⟨rfl, hb⟩
    have BK1 := Aside0.mk (blk_below BK0.out hb)
    have HB1 := Aside0.mk (below_step HB0.out hb)
    clear hb
    have hz_0 : w1.cell? ⟨w.heap.size, 0, none⟩ = some (.slice A0 ps.length c0) := (blk_cell BK1.out 0).trans rfl
    have hz_1 : w1.cell? ⟨w.heap.size, 1, none⟩ = some (.slice A1 hs.length c1) := (blk_cell BK1.out 1).trans rfl
    have hz_2 : w1.cell? ⟨w.heap.size, 2, none⟩ = some (.int .i64 b) := (blk_cell BK1.out 2).trans rfl
    have hz_3 : w1.cell? ⟨w.heap.size, 3, none⟩ = some (.int .u64 g) := (blk_cell BK1.out 3).trans rfl
    go_wp2_with fail
    refine (tree_Check.calls0 _ _ _ ps _ _ hs b g ck _ (Kd.C_below HR0.out HB1.out) (Kd.C_below HR1.out HB1.out) HCK.out).mono ?_
    rintro e w2 ⟨rfl, hb⟩
    have HB2 := Aside0.mk (below_step HB1.out hb)
    clear hz_0 hz_1 hz_2 hz_3
    clear hb
    go_wp2_with fail
    refine (awake_true _).mono ?_
    rintro e w3 ⟨rfl, hb⟩
    have HB3 := Aside0.mk (below_step HB2.out hb)
    clear hb
    go_wp2_with fail
    go_ret
    exact ⟨rfl, HB3.out⟩
  have HG : Good ps hs b g := ⟨hck⟩
  have HCK := Aside0.mk (check_f ps hs b g _ (Nat.le_refl _))
  have hl7 : (ps.length : Int) ≤ 7 := by have := HG.len; omega
  rw [hck] at HCK
  clear hck
  go_enter Try.func4, Try.ntmps4
  go_wp2_with fail
  have BK0 := Aside0.mk (heap_alloc_new w (.cells #[.slice A0 ps.length c0, .slice A1 hs.length c1, .int .i64 b, .int .u64 g] 25))
  have HB0 := Aside0.mk (below_alloc (Below.refl w.heap.size w) (.cells #[.slice A0 ps.length c0, .slice A1 hs.length c1, .int .i64 b, .int .u64 g] 25))
  refine (awake_true _).mono ?_
  rintro e w1 ⟨rfl, hb⟩
  have BK1 := Aside0.mk (blk_below BK0.out hb)
  have HB1 := Aside0.mk (below_step HB0.out hb)
  clear hb
  have hz_0 : w1.cell? ⟨w.heap.size, 0, none⟩ = some (.slice A0 ps.length c0) := (blk_cell BK1.out 0).trans rfl
  have hz_1 : w1.cell? ⟨w.heap.size, 1, none⟩ = some (.slice A1 hs.length c1) := (blk_cell BK1.out 1).trans rfl
  have hz_2 : w1.cell? ⟨w.heap.size, 2, none⟩ = some (.int .i64 b) := (blk_cell BK1.out 2).trans rfl
  have hz_3 : w1.cell? ⟨w.heap.size, 3, none⟩ = some (.int .u64 g) := (blk_cell BK1.out 3).trans rfl
  go_wp2_with fail
  refine (tree_Check.calls0 _ _ _ ps _ _ hs b g 0 _ (Kd.C_below HR0.out HB1.out) (Kd.C_below HR1.out HB1.out) HCK.out).mono ?_
  rintro e w2 ⟨rfl, hb⟩
  have BK2 := Aside0.mk (blk_below BK1.out hb)
  have HB2 := Aside0.mk (below_step HB1.out hb)
  clear hb
  clear hz_0 hz_1 hz_2 hz_3
  clear BK0 BK1 HB0 HB1
  have hz_0 : w2.cell? ⟨w.heap.size, 0, none⟩ = some (.slice A0 ps.length c0) := (blk_cell BK2.out 0).trans rfl
  have hz_1 : w2.cell? ⟨w.heap.size, 1, none⟩ = some (.slice A1 hs.length c1) := (blk_cell BK2.out 1).trans rfl
  have hz_2 : w2.cell? ⟨w.heap.size, 2, none⟩ = some (.int .i64 b) := (blk_cell BK2.out 2).trans rfl
  have hz_3 : w2.cell? ⟨w.heap.size, 3, none⟩ = some (.int .u64 g) := (blk_cell BK2.out 3).trans rfl
  go_wp2_with fail
  refine (tree_Links.calls _ _ c0 ps _ c1 hs b g (LL ps) _ (Kd.C_below HR0.out HB2.out) HC0.out (Kd.C_below HR1.out HB2.out) HC1.out (links_f HG _ (Nat.le_refl _))).mono ?_
  rintro e w3 ⟨v3, rfl, hr, hb⟩
  obtain ⟨A3, c3, rfl, hc3, hC3⟩ := Kd.R_reads hr
  have HC3 := Aside0.mk hC3
  have BK3 := Aside0.mk (blk_below BK2.out hb)
  have HB3 := Aside0.mk (below_step HB2.out hb)
  clear hz_0 hz_1 hz_2 hz_3
  clear hr hb hc3 hC3 BK2 HB2
  have hll := LL_length HG
  have HLL := Aside0.mk hll
  have hl14 : (LL ps).length ≤ 14 := by have := HG.len; omega
  clear hll
  go_wp2_with fail
  go_loopg [24] (LL ps).length (fun q v24 wr => ∃ i : Nat, v24 = .int .i64 i ∧ Aside0 (q + i = (LL ps).length) ∧ Aside0 (wr.heap[w.heap.size]? = some (.cells #[.slice A0 ps.length c0, .slice A1 hs.length c1, .int .i64 b, .int .u64 g] 25 (0, 0))) ∧ Aside0 (Kd.C k39 wr A3 (LL ps).length (LL ps)) ∧ Aside0 (Below w.heap.size w wr))
  case atStart => exact ⟨0, rfl, ⟨by omega⟩, BK3, HC3, HB3⟩
  case round =>
    clear BK3 HC3 HB3
    obtain ⟨i, rfl, HQ, BK, HC, HB⟩ := hrel
    obtain ⟨wo, hwo⟩ : ∃ wo : World, wo = wr := ⟨_, rfl⟩
    subst hwo
    by_cases hi : i < (LL ps).length
    · obtain ⟨ad, e, hx0, hx1⟩ := at_T39 HC.out (i : Int) (by omega) (by omega)
      cases e
      have hmem : rd_T39 (LL ps) (i : Int) ∈ LL ps := by
        unfold rd_T39
        rw [Int.toNat_natCast, List.getD_eq_getElem?_getD, List.getElem?_eq_getElem hi]
        exact List.getElem_mem hi
      obtain ⟨a, n, hxe, ha, hn, hadj⟩ := LL_mem HG _ hmem
      rw [hxe] at hx0 hx1
      simp only [Int.toNat_natCast] at hx0 hx1
      have HA := Aside0.mk ha
      have HN := Aside0.mk hn
      have HADJ := Aside0.mk hadj
      have hi' : (i : Int) < ((LL ps).length : Int) := by omega
      clear hmem hxe ha hn hadj
      have hz_0 : wo.cell? ⟨w.heap.size, 0, none⟩ = some (.slice A0 ps.length c0) := (blk_cell BK.out 0).trans rfl
      have hz_1 : wo.cell? ⟨w.heap.size, 1, none⟩ = some (.slice A1 hs.length c1) := (blk_cell BK.out 1).trans rfl
      have hz_2 : wo.cell? ⟨w.heap.size, 2, none⟩ = some (.int .i64 b) := (blk_cell BK.out 2).trans rfl
      have hz_3 : wo.cell? ⟨w.heap.size, 3, none⟩ = some (.int .u64 g) := (blk_cell BK.out 3).trans rfl
      have BKA := Aside0.mk (blk_alloc (blk_alloc BK.out (.cells #[.int .i64 (a : Int), .int .i64 (n : Int)] 39)) (.map #[] 0))
      have BLA := Aside0.mk (blk_alloc (heap_alloc_new wo (.cells #[.int .i64 (a : Int), .int .i64 (n : Int)] 39)) (.map #[] 0))
      have hzy_0 : ((wo.alloc (.cells #[.int .i64 (a : Int), .int .i64 (n : Int)] 39)).alloc (.map #[] 0)).cell? ⟨w.heap.size, 0, none⟩ = some (.slice A0 ps.length c0) := (blk_cell BKA.out 0).trans rfl
      have hzy_1 : ((wo.alloc (.cells #[.int .i64 (a : Int), .int .i64 (n : Int)] 39)).alloc (.map #[] 0)).cell? ⟨w.heap.size, 1, none⟩ = some (.slice A1 hs.length c1) := (blk_cell BKA.out 1).trans rfl
      have hzy_2 : ((wo.alloc (.cells #[.int .i64 (a : Int), .int .i64 (n : Int)] 39)).alloc (.map #[] 0)).cell? ⟨w.heap.size, 2, none⟩ = some (.int .i64 b) := (blk_cell BKA.out 2).trans rfl
      have hzy_3 : ((wo.alloc (.cells #[.int .i64 (a : Int), .int .i64 (n : Int)] 39)).alloc (.map #[] 0)).cell? ⟨w.heap.size, 3, none⟩ = some (.int .u64 g) := (blk_cell BKA.out 3).trans rfl
      have hv_0 : ((wo.alloc (.cells #[.int .i64 (a : Int), .int .i64 (n : Int)] 39)).alloc (.map #[] 0)).cell? ⟨wo.heap.size, 0, none⟩ = some (.int .i64 (a : Int)) := (blk_cell BLA.out 0).trans rfl
      have hv_1 : ((wo.alloc (.cells #[.int .i64 (a : Int), .int .i64 (n : Int)] 39)).alloc (.map #[] 0)).cell? ⟨wo.heap.size, 1, none⟩ = some (.int .i64 (n : Int)) := (blk_cell BLA.out 1).trans rfl
      have HCT := Aside0.mk (counts_made (wo.alloc (.cells #[.int .i64 (a : Int), .int .i64 (n : Int)] 39)))
      have HBA := Aside0.mk (below_alloc (below_alloc HB.out (.cells #[.int .i64 (a : Int), .int .i64 (n : Int)] 39)) (.map #[] 0))
      have HCA := Aside0.mk (Kd.C_alloc (Kd.C_alloc HC.out (.cells #[.int .i64 (a : Int), .int .i64 (n : Int)] 39)) (.map #[] 0))
      go_wp2_with fail
      have HPA0 := Aside0.mk (show PInv wo ((wo.alloc (.cells #[.int .i64 (a : Int), .int .i64 (n : Int)] 39)).alloc (.map #[] 0)) a n [] from ⟨below_alloc (below_alloc (Below.refl _ _) (.cells #[.int .i64 (a : Int), .int .i64 (n : Int)] 39)) (.map #[] 0), BLA.out, by simpa using HCT.out⟩)
      obtain ⟨wA, hwA⟩ : ∃ wA : World, wA = (wo.alloc (.cells #[.int .i64 (a : Int), .int .i64 (n : Int)] 39)).alloc (.map #[] 0) := ⟨_, rfl⟩
      rw [← hwA]
      have HPA := Aside0.mk (show PInv wo wA a n [] by rw [hwA]; exact HPA0.out)
      clear hwA HPA0 HCT HBA HCA BKA BLA hx0 hx1 hzy_0 hzy_1 hzy_2 hzy_3 hv_0 hv_1
      clear hz_0 hz_1 hz_2 hz_3
      refine (tree_Beyond.calls _ _ c0 ps _ c1 hs b g a n (C (BY HG a n)) _ (Kd.C_below HR0.out (below_step HB.out HPA.out.1)) HC0.out (Kd.C_below HR1.out (below_step HB.out HPA.out.1)) HC1.out (beyond_f HG HA.out HN.out _ (Nat.le_refl _))).mono ?_
      rintro e w4 ⟨v4, rfl, hr, hb⟩
      obtain ⟨A4, c4, rfl, _⟩ := Kd.R_reads hr
      have HRL := Aside0.mk (Kd.R_mono (ok' := fun k_ => wo.heap.size + 1 < k_) (Kd.R_bound hr) (fun k_ hk_ => Nat.lt_of_lt_of_le HPA.out.2.2.lt hk_.2.1))
      have HP4 := Aside0.mk (HPA.out.below hb)
      clear HPA
      clear hr hb
      have hlen4 : ((C (BY HG a n)).length : Int) ≤ 8 := by have := BY_length HG (a := a) (n := n); rw [C_length]; omega
      go_wp2_with fail
      go_loopg [36] (C (BY HG a n)).length (fun q v36 wl => ∃ j : Nat, v36 = .int .i64 j ∧ Aside0 (q + j = (C (BY HG a n)).length) ∧ Aside0 (PInv wo wl a n ((C (BY HG a n)).take j)) ∧ Aside0 (Kd.R (Kd.int .i64) 3 wl wA.heap.size (fun k_ => wo.heap.size + 1 < k_) (.slice A4 (C (BY HG a n)).length c4) (C (BY HG a n))))
      case atStart => exact ⟨0, rfl, ⟨by omega⟩, ⟨by simpa using HP4.out⟩, HRL⟩
      case round =>
        clear HP4 HRL
        obtain ⟨j, rfl, HQ2, HP, HRL⟩ := hrel
        obtain ⟨wl, hwl⟩ : ∃ wl : World, wl = wr := ⟨_, rfl⟩
        subst hwl
        by_cases hj : j < (C (BY HG a n)).length
        · obtain ⟨ad2, e, hx⟩ := Kd.at_int (Kd.R_reads' HRL.out).2.2 (j : Int) (by omega) (by omega)
          cases e
          simp only [Int.toNat_natCast] at hx
          have htk := take_rd (C (BY HG a n)) j hj
          have HTK := Aside0.mk htk
          obtain ⟨t, hte, htl⟩ := BY_at HG a n j hj
          rw [hte] at hx
          have HTE := Aside0.mk hte
          have HTL := Aside0.mk htl
          have HL100 := Aside0.mk (show ps.length ≤ 100 by omega)
          have hj' : (j : Int) < ((C (BY HG a n)).length : Int) := by omega
          have hlk := HP.out.2.2.look (t : Int) (i64_nat (by have := HTL.out; omega))
          have HLB := Aside0.mk (show ((C (BY HG a n)).take j).length ≤ 16 from by have e1 := BY_length HG (a := a) (n := n); have e2 := BY_length HG (a := n) (n := a); simp only [List.length_append, List.length_take, C_length]; omega)
          have HCN := Aside0.mk (show ((C (BY HG a n)).take j).count (t : Int) ≤ 100 from Nat.le_trans List.count_le_length (Nat.le_trans HLB.out (by decide)))
          have hcl : (((C (BY HG a n)).take j).count (t : Int) : Int) ≤ 100 := Int.ofNat_le.2 HCN.out
          generalize hcn : ((C (BY HG a n)).take j).count (t : Int) = cn at hlk hcl HCN
          have HCE := Aside0.mk hcn
          clear hcn
          obtain ⟨D, h1, h2, h3, h4⟩ := HP.out.2.2
          have H2 := Aside0.mk h2
          have H3 := Aside0.mk h3
          have H4 := Aside0.mk h4
          clear htk hte htl h2 h3 h4
          go_wp2_with (first | (at_mapUpdate; refine wpList_mapUpdate_own _ rfl _ _ _ 40 rfl 3 3 law3 Try.underlying40 _ (wo.heap.size + 1) _ D rfl h1 (Nat.lt_of_le_of_lt HLB.out lt_max) _ _ _ rfl rfl (key_of (i64_nat (Nat.le_trans HTL.out HL100.out))) _ [] (plainElem_int Try.underlying3 (wf_add HCN.out)) ?_; intro wm hown1 hgrow1))
          go_roundg ((C (BY HG a n)).length - (j + 1))
          case measure => have := HQ2.out; omega
          case rel =>
            refine ⟨j + 1, by go_num, ⟨by omega⟩, ⟨?_⟩, ⟨Kd.R_grown HRL.out hgrow1 (fun k_ hk_ => by simp; omega)⟩⟩
            have hP := HP.out.put hgrow1 (Counts.put h1 H2.out H3.out H4.out (by rw [HCE.out]; exact hown1))
            try rw [List.append_assoc] at hP
            rw [← HTE.out, HTK.out] at hP
            exact hP
        · obtain rfl : j = (C (BY HG a n)).length := by have := HQ2.out; omega
          have hj' : ¬ (((C (BY HG a n)).length : Int) < ((C (BY HG a n)).length : Int)) := by omega
          have hPf := HP.out
          rw [List.take_length] at hPf
          have HPF := Aside0.mk hPf
          clear hPf HP
          have hlt : w.heap.size < wo.heap.size := (Array.getElem?_eq_some_iff.1 BK.out).1
          have hP := HPF.out
          have hz_0 : wl.cell? ⟨w.heap.size, 0, none⟩ = some (.slice A0 ps.length c0) := (blk_cell (hP.1.block _ hlt |>.trans BK.out) 0).trans rfl
          have hz_1 : wl.cell? ⟨w.heap.size, 1, none⟩ = some (.slice A1 hs.length c1) := (blk_cell (hP.1.block _ hlt |>.trans BK.out) 1).trans rfl
          have hz_2 : wl.cell? ⟨w.heap.size, 2, none⟩ = some (.int .i64 b) := (blk_cell (hP.1.block _ hlt |>.trans BK.out) 2).trans rfl
          have hz_3 : wl.cell? ⟨w.heap.size, 3, none⟩ = some (.int .u64 g) := (blk_cell (hP.1.block _ hlt |>.trans BK.out) 3).trans rfl
          have hv_0 : wl.cell? ⟨wo.heap.size, 0, none⟩ = some (.int .i64 (a : Int)) := (blk_cell hP.2.1 0).trans rfl
          have hv_1 : wl.cell? ⟨wo.heap.size, 1, none⟩ = some (.int .i64 (n : Int)) := (blk_cell hP.2.1 1).trans rfl
          clear hP hlt
          go_wp2_with fail
          refine (tree_Beyond.calls _ _ c0 ps _ c1 hs b g n a (C (BY HG n a)) _ (Kd.C_below HR0.out (below_step HB.out HPF.out.1)) HC0.out (Kd.C_below HR1.out (below_step HB.out HPF.out.1)) HC1.out (beyond_f HG HN.out HA.out _ (Nat.le_refl _))).mono ?_
          rintro e w6 ⟨v6, rfl, hr, hb⟩
          obtain ⟨A6, c6, rfl, _⟩ := Kd.R_reads hr
          clear HRL
          have HRL := Aside0.mk (Kd.R_mono (ok' := fun k_ => wo.heap.size + 1 < k_) (Kd.R_bound hr) (fun k_ hk_ => Nat.lt_of_lt_of_le HPF.out.2.2.lt hk_.2.1))
          have HP6 := Aside0.mk (HPF.out.below hb)
          clear HPF hz_0 hz_1 hz_2 hz_3 hv_0 hv_1
          clear hr hb
          have hlen6 : ((C (BY HG n a)).length : Int) ≤ 8 := by have := BY_length HG (a := n) (n := a); rw [C_length]; omega
          go_wp2_with fail
          go_loopg [52] (C (BY HG n a)).length (fun q v52 wm2 => ∃ j : Nat, v52 = .int .i64 j ∧ Aside0 (q + j = (C (BY HG n a)).length) ∧ Aside0 (PInv wo wm2 a n (C (BY HG a n) ++ (C (BY HG n a)).take j)) ∧ Aside0 (Kd.R (Kd.int .i64) 3 wm2 wl.heap.size (fun k_ => wo.heap.size + 1 < k_) (.slice A6 (C (BY HG n a)).length c6) (C (BY HG n a))))
          case atStart => exact ⟨0, rfl, ⟨by omega⟩, ⟨by simpa using HP6.out⟩, HRL⟩
          case round =>
            clear HP6 HRL
            obtain ⟨j, rfl, HQ2, HP, HRL⟩ := hrel
            obtain ⟨wm2, hwl⟩ : ∃ wm2 : World, wm2 = wr := ⟨_, rfl⟩
            subst hwl
            by_cases hj : j < (C (BY HG n a)).length
            · obtain ⟨ad2, e, hx⟩ := Kd.at_int (Kd.R_reads' HRL.out).2.2 (j : Int) (by omega) (by omega)
              cases e
              simp only [Int.toNat_natCast] at hx
              have htk := take_rd (C (BY HG n a)) j hj
              have HTK := Aside0.mk htk
              obtain ⟨t, hte, htl⟩ := BY_at HG n a j hj
              rw [hte] at hx
              have HTE := Aside0.mk hte
              have HTL := Aside0.mk htl
              have HL100 := Aside0.mk (show ps.length ≤ 100 by omega)
              have hj' : (j : Int) < ((C (BY HG n a)).length : Int) := by omega
              have hlk := HP.out.2.2.look (t : Int) (i64_nat (by have := HTL.out; omega))
              have HLB := Aside0.mk (show (C (BY HG a n) ++ (C (BY HG n a)).take j).length ≤ 16 from by have e1 := BY_length HG (a := a) (n := n); have e2 := BY_length HG (a := n) (n := a); simp only [List.length_append, List.length_take, C_length]; omega)
              have HCN := Aside0.mk (show (C (BY HG a n) ++ (C (BY HG n a)).take j).count (t : Int) ≤ 100 from Nat.le_trans List.count_le_length (Nat.le_trans HLB.out (by decide)))
              have hcl : ((C (BY HG a n) ++ (C (BY HG n a)).take j).count (t : Int) : Int) ≤ 100 := Int.ofNat_le.2 HCN.out
              generalize hcn : (C (BY HG a n) ++ (C (BY HG n a)).take j).count (t : Int) = cn at hlk hcl HCN
              have HCE := Aside0.mk hcn
              clear hcn
              obtain ⟨D, h1, h2, h3, h4⟩ := HP.out.2.2
              have H2 := Aside0.mk h2
              have H3 := Aside0.mk h3
              have H4 := Aside0.mk h4
              clear htk hte htl h2 h3 h4
              go_wp2_with (first | (at_mapUpdate; refine wpList_mapUpdate_own _ rfl _ _ _ 40 rfl 3 3 law3 Try.underlying40 _ (wo.heap.size + 1) _ D rfl h1 (Nat.lt_of_le_of_lt HLB.out lt_max) _ _ _ rfl rfl (key_of (i64_nat (Nat.le_trans HTL.out HL100.out))) _ [] (plainElem_int Try.underlying3 (wf_add HCN.out)) ?_; intro wm hown1 hgrow1))
              go_roundg ((C (BY HG n a)).length - (j + 1))
              case measure => have := HQ2.out; omega
              case rel =>
                refine ⟨j + 1, by go_num, ⟨by omega⟩, ⟨?_⟩, ⟨Kd.R_grown HRL.out hgrow1 (fun k_ hk_ => by simp; omega)⟩⟩
                have hP := HP.out.put hgrow1 (Counts.put h1 H2.out H3.out H4.out (by rw [HCE.out]; exact hown1))
                try rw [List.append_assoc] at hP
                rw [← HTE.out, HTK.out] at hP
                exact hP
            · obtain rfl : j = (C (BY HG n a)).length := by have := HQ2.out; omega
              have hj' : ¬ (((C (BY HG n a)).length : Int) < ((C (BY HG n a)).length : Int)) := by omega
              have hPf := HP.out
              rw [List.take_length] at hPf
              have HPF := Aside0.mk hPf
              clear hPf HP
              have hlt : w.heap.size < wo.heap.size := (Array.getElem?_eq_some_iff.1 BK.out).1
              have hP := HPF.out
              have hz_0 : wm2.cell? ⟨w.heap.size, 0, none⟩ = some (.slice A0 ps.length c0) := (blk_cell (hP.1.block _ hlt |>.trans BK.out) 0).trans rfl
              have hz_1 : wm2.cell? ⟨w.heap.size, 1, none⟩ = some (.slice A1 hs.length c1) := (blk_cell (hP.1.block _ hlt |>.trans BK.out) 1).trans rfl
              have hz_2 : wm2.cell? ⟨w.heap.size, 2, none⟩ = some (.int .i64 b) := (blk_cell (hP.1.block _ hlt |>.trans BK.out) 2).trans rfl
              have hz_3 : wm2.cell? ⟨w.heap.size, 3, none⟩ = some (.int .u64 g) := (blk_cell (hP.1.block _ hlt |>.trans BK.out) 3).trans rfl
              clear hP hlt HRL
              have HBW := Aside0.mk (below_step HB.out HPF.out.1)
              have HSZ := Aside0.mk (size_f ps hs b g _ (Nat.le_refl _))
              rw [HG.size] at HSZ
              go_wp2_with fail
              refine (tree_Size.calls0 _ _ _ ps _ _ hs b g ((ps.length : Int) + 1) _ (Kd.C_below HR0.out HBW.out) (Kd.C_below HR1.out HBW.out) HSZ.out).mono ?_
              rintro e w8 ⟨rfl, hb⟩
              have HP8 := Aside0.mk (HPF.out.below hb)
              have HBW8 := Aside0.mk (below_step HBW.out hb)
              clear hb HPF HBW hz_0 hz_1 hz_2 hz_3
              go_wp2_with fail
              go_loopg [63] (ps.length + 1) (fun q v63 wl => ∃ j : Nat, v63 = .int .i64 j ∧ Aside0 (q + j = ps.length + 1) ∧ wl = w8)
              case atStart => exact ⟨0, rfl, ⟨by omega⟩, rfl⟩
              case round =>
                obtain ⟨j, rfl, HQ4, hw⟩ := hrel
                obtain rfl : w8 = wr := hw.symm
                clear hw
                by_cases hj : j < ps.length + 1
                · have hj' : (j : Int) < (ps.length : Int) + 1 := by omega
                  have hlk := HP8.out.2.2.look (j : Int) (i64_nat (by omega))
                  have hct : (C (BY HG a n) ++ C (BY HG n a)).count (j : Int) = 1 := BB_count HG HA.out HN.out HADJ.out (by omega)
                  rw [hct] at hlk
                  clear hct
                  go_wp2_with fail
                  go_roundg (ps.length + 1 - (j + 1))
                  case measure => have := HQ4.out; omega
                  case rel => exact ⟨j + 1, by go_num, ⟨by omega⟩, rfl⟩
                · have hj' : ¬ (j : Int) < (ps.length : Int) + 1 := by omega
                  have hln := HP8.out.2.2.len (BB_nodup HG HADJ.out) 3
                  have hle : (C (BY HG a n) ++ C (BY HG n a)).length = ps.length + 1 := BB_length HG HA.out HN.out HADJ.out
                  rw [hle] at hln
                  clear hle
                  have hlt : w.heap.size < wo.heap.size := (Array.getElem?_eq_some_iff.1 BK.out).1
                  have hP := HP8.out
                  have hz_0 : w8.cell? ⟨w.heap.size, 0, none⟩ = some (.slice A0 ps.length c0) := (blk_cell (hP.1.block _ hlt |>.trans BK.out) 0).trans rfl
                  have hz_1 : w8.cell? ⟨w.heap.size, 1, none⟩ = some (.slice A1 hs.length c1) := (blk_cell (hP.1.block _ hlt |>.trans BK.out) 1).trans rfl
                  have hz_2 : w8.cell? ⟨w.heap.size, 2, none⟩ = some (.int .i64 b) := (blk_cell (hP.1.block _ hlt |>.trans BK.out) 2).trans rfl
                  have hz_3 : w8.cell? ⟨w.heap.size, 3, none⟩ = some (.int .u64 g) := (blk_cell (hP.1.block _ hlt |>.trans BK.out) 3).trans rfl
                  clear hP hlt
                  go_wp2_with fail
                  refine (tree_Size.calls0 _ _ _ ps _ _ hs b g ((ps.length : Int) + 1) _ (Kd.C_below HR0.out HBW8.out) (Kd.C_below HR1.out HBW8.out) HSZ.out).mono ?_
                  rintro e w9 ⟨rfl, hb⟩
                  have HP9 := Aside0.mk (HP8.out.below hb)
                  have HBW9 := Aside0.mk (below_step HBW8.out hb)
                  clear hb hz_0 hz_1 hz_2 hz_3 hln
                  go_wp2_with fail
                  go_roundg ((LL ps).length - (i + 1))
                  case measure => have := HQ.out; omega
                  case rel => exact ⟨i + 1, by go_num, ⟨by omega⟩, ⟨(HP9.out.1.block _ (Array.getElem?_eq_some_iff.1 BK.out).1).trans BK.out⟩, ⟨Kd.C_below HC.out HP9.out.1⟩, ⟨HBW9.out⟩⟩
    · have hi' : ¬ ((i : Int) < ((LL ps).length : Int)) := by omega
      have hz_0 : wo.cell? ⟨w.heap.size, 0, none⟩ = some (.slice A0 ps.length c0) := (blk_cell BK.out 0).trans rfl
      have hz_1 : wo.cell? ⟨w.heap.size, 1, none⟩ = some (.slice A1 hs.length c1) := (blk_cell BK.out 1).trans rfl
      have hz_2 : wo.cell? ⟨w.heap.size, 2, none⟩ = some (.int .i64 b) := (blk_cell BK.out 2).trans rfl
      have hz_3 : wo.cell? ⟨w.heap.size, 3, none⟩ = some (.int .u64 g) := (blk_cell BK.out 3).trans rfl
      have HSZ := Aside0.mk (size_f ps hs b g _ (Nat.le_refl _))
      rw [HG.size] at HSZ
      go_wp2_with fail
      refine (tree_Size.calls0 _ _ _ ps _ _ hs b g ((ps.length : Int) + 1) _ (Kd.C_below HR0.out HB.out) (Kd.C_below HR1.out HB.out) HSZ.out).mono ?_
      rintro e w9 ⟨rfl, hb⟩
      have HBW9 := Aside0.mk (below_step HB.out hb)
      clear hb
      go_wp2_with fail
      go_ret
      exact ⟨Brets (beq_iff_eq.2 (by have := HLL.out; omega)), HBW9.out⟩
end Go.Proofs.Ytpoolbjmebacdaa.Q
