/- TreeWays: the walk. -/
import Derived.Test.YtpoolbjmebacdaaTP
import Derived.Test.YtpoolbjmebacdaaTMap
import Derived.Test.YtpoolbjmebacdaaQV
import Derived.Test.YtpoolbjmebacdaaTH
import Derived.Deep.RegionHeld3
import Derived.IntWalk
namespace Go.Proofs.Ytpoolbjmebacdaa.Q
open Go.RowKit Go.Maps Go.Proofs.YtpoolbjmebacdaaW.PrintWords Go.Proofs.YtpoolbjmebacdaaW.PrintLast Go.Proofs.YtpoolbjmebacdaaW.PrintMore TM
set_option linter.unusedVariables false
set_option linter.unusedSimpArgs false

def WInv (wo W : World) (L : List Int) : Prop := Below wo.heap.size wo W ∧ Marks W wo.heap.size L
theorem WInv.below {wo W W1 : World} {L : List Int} (h : WInv wo W L) (hb : Below W.heap.size W W1) : WInv wo W1 L := ⟨below_step h.1 hb, h.2.below hb⟩
theorem WInv.drew {wo W : World} {L : List Int} (h : WInv wo W L) : WInv wo W.drew L := ⟨h.1.drew, h.2.drewN 1⟩
theorem WInv.put {wo W W1 : World} {L L1 : List Int} (h : WInv wo W L) (hg : W.grownBy W1 (some wo.heap.size)) (hc : Marks W1 wo.heap.size L1) : WInv wo W1 L1 :=
  ⟨pw_below_grown h.1 _ h.1.size hg (fun k hk => by cases hk; omega), hc⟩
theorem w_lt : 100 < maxLen := by unfold maxLen; omega
theorem w_nat {n : Nat} (h : n ≤ 100) : I64 (n : Int) := by unfold I64; omega
theorem w_take (L : List Int) (j : Nat) (h : j < L.length) : L.take j ++ [rd L (j : Int)] = L.take (j + 1) := by
  rw [rd_nat L j h, List.take_succ_eq_append_getElem h]
section
variable {ps hs : List Int} {b g : Int} (h : Good ps hs b g)
include h
/-- What is known of a way, and of the way back. -/
structure WayF (h : Good ps hs b g) (a t : Nat) (L1 L2 : List Int) : Prop where
  pos : 1 ≤ L1.length
  le : L1.length ≤ 15
  len : L2.length = L1.length
  first : rd L1 0 = (a : Int)
  last : rd L1 ((L1.length : Int) - 1) = (t : Int)
  back : ∀ i : Nat, i < L1.length → rd L2 ((L1.length - 1 - i : Nat) : Int) = rd L1 (i : Int)
  new : ∀ i : Nat, i < L1.length → rd L1 (i : Int) ∉ L1.take i
  brk : ∀ i : Nat, i < L1.length → ∃ n : Nat, rd L1 (i : Int) = (n : Int) ∧ n ≤ ps.length
  step : ∀ (i : Nat) (x y : Nat), i + 1 < L1.length → rd L1 (i : Int) = (x : Int) → rd L1 ((i + 1 : Nat) : Int) = (y : Int) → y ∈ NN ps x ∧ x ≠ t ∧ nh h.hp x t = y
theorem wayF {a t : Nat} (ha : a ≤ ps.length) (ht : t ≤ ps.length) : WayF h a t (C (W h.hp a t)) (C (W h.hp t a)) := by
  have hr := W_rev h.hp _ a t rfl
  obtain ⟨u, hu⟩ := W_head h.hp a t
  have hl := W_len' h ha ht
  have hp1 : 1 ≤ (W h.hp a t).length := by rw [hu]; simp
  refine ⟨by rw [C_length]; exact hp1, by rw [C_length]; exact hl, by rw [C_length, C_length, ← hr]; simp, by rw [hu]; rfl, ?_, ?_, ?_, ?_, ?_⟩
  · have hg := W_getLast h.hp _ a t rfl
    rw [List.getLast?_eq_getElem?] at hg
    obtain ⟨hlt, hge⟩ := List.getElem?_eq_some_iff.1 hg
    have e : ((C (W h.hp a t)).length : Int) - 1 = (((W h.hp a t).length - 1 : Nat) : Int) := by rw [C_length]; omega
    rw [e, C_rd _ _ hlt, hge]
  · intro i hi
    rw [C_length] at hi ⊢
    have hlt : (W h.hp a t).length - 1 - i < (W h.hp t a).length := by rw [← hr, List.length_reverse]; omega
    rw [C_rd _ _ hlt, C_rd _ _ hi]
    congr 1
    have h1 : (W h.hp t a)[(W h.hp a t).length - 1 - i]? = (W h.hp a t)[i]? := by
      rw [← hr, List.getElem?_reverse (by omega)]
      congr 1; omega
    rw [List.getElem?_eq_getElem hlt, List.getElem?_eq_getElem hi] at h1
    injection h1
  · intro i hi hm
    rw [C_length] at hi
    have hn := C_nodup (W_nodup h.hp _ a t rfl)
    have hi2 : i < (C (W h.hp a t)).length := by rw [C_length]; exact hi
    rw [rd_nat _ i hi2] at hm
    obtain ⟨j, hj, e⟩ := List.getElem_of_mem hm
    rw [List.getElem_take] at e
    have hj2 : j < i := by rw [List.length_take] at hj; omega
    have := (List.nodup_iff_pairwise_ne.1 hn)
    have := List.pairwise_iff_getElem.1 this j i (by omega) hi2 hj2
    exact this e
  · intro i hi
    rw [C_length] at hi
    exact ⟨_, C_rd _ i hi, W_le' h ha ht _ (List.getElem_mem hi)⟩
  · intro i x y hi hx hy
    rw [C_length] at hi
    rw [C_rd _ i (by omega)] at hx
    rw [C_rd _ (i + 1) hi] at hy
    have gx : (W h.hp a t)[i]? = some x := by rw [List.getElem?_eq_getElem (by omega)]; congr 1; omega
    have gy : (W h.hp a t)[i + 1]? = some y := by rw [List.getElem?_eq_getElem hi]; congr 1; omega
    have p1 := W_pairs h.hp _ a t rfl i x y gx gy
    have xl : x ≤ ps.length := W_le' h ha ht x (List.mem_of_getElem? gx)
    refine ⟨?_, p1.1, p1.2⟩
    rw [← p1.2]; exact nh_NN h xl ht p1.1
end

set_option maxHeartbeats 16000000 in
set_option maxRecDepth 100000 in
theorem ways_walk (A0 : Option Addr) (c0 : Nat) (ps : List Int) (A1 : Option Addr) (c1 : Nat) (hs : List Int) (b g x y : Int) (w : World) (hr0 : Kd.C (Kd.int .i64) w A0 ps.length ps) (hc0 : ps.length ≤ c0) (hr1 : Kd.C (Kd.int .i64) w A1 hs.length hs) (hc1 : hs.length ≤ c1) :
    Calls Try.prog 5 #[.agg #[.slice A0 ps.length c0, .slice A1 hs.length c1, .int .i64 b, .int .u64 g], .int .i64 x, .int .i64 y] w fun e w' => e = .returned (.bool true) ∧ Below w.heap.size w w' := by
  have HR0 := Aside0.mk hr0
  have HR1 := Aside0.mk hr1
  have HC0 := Aside0.mk hc0
  have HC1 := Aside0.mk hc1
  clear hr0 hr1 hc0 hc1
  have hmm := @run_makeMap Try.prog
  by_cases hck : checkT ps hs b g = 0
  case neg =>
    have HCK := Aside0.mk (check_f ps hs b g _ (Nat.le_refl _))
    have hne : (checkT ps hs b g != 0) = true := by simpa using hck
    generalize checkT ps hs b g = ck at *
    clear hck
    go_enter Try.func5, Try.ntmps5
    go_wp2_with fail
    have BK0 := Aside0.mk (heap_alloc_new w (.cells #[.slice A0 ps.length c0, .slice A1 hs.length c1, .int .i64 b, .int .u64 g] 25))
    have HB0 := Aside0.mk (below_alloc (Below.refl w.heap.size w) (.cells #[.slice A0 ps.length c0, .slice A1 hs.length c1, .int .i64 b, .int .u64 g] 25))
    refine (awake_true _).mono ?_
    rintro e w1 ⟨rfl, hb⟩
    have BK1 := Aside0.mk (blk_below BK0.out hb)
    have HB1 := Aside0.mk (below_step HB0.out hb)
    clear hb
    have hz_0 : w1.cell? ⟨w.heap.size, 0, none⟩ = some (.slice A0 ps.length c0) := (blk_cell BK1.out 0).trans rfl
    have hz_1 : w1.cell? ⟨w.heap.size, 1, none⟩ = some (.slice A1 hs.length c1) := (blk_cell BK1.out 1).trans rfl
    have hz_2 : w1.cell? ⟨w.heap.size, 2, none⟩ = some (.int .i64 b) := (blk_cell BK1.out 2).trans rfl
    have hz_3 : w1.cell? ⟨w.heap.size, 3, none⟩ = some (.int .u64 g) := (blk_cell BK1.out 3).trans rfl
    go_wp2_with fail
    refine (tree_Check.calls0 _ _ _ ps _ _ hs b g ck _ (Kd.C_below HR0.out HB1.out) (Kd.C_below HR1.out HB1.out) HCK.out).mono ?_
    rintro e w2 ⟨rfl, hb⟩
    have HB2 := Aside0.mk (below_step HB1.out hb)
    clear hz_0 hz_1 hz_2 hz_3
    clear hb
    go_wp2_with fail
    refine (awake_true _).mono ?_
    rintro e w3 ⟨rfl, hb⟩
    have HB3 := Aside0.mk (below_step HB2.out hb)
    clear hb
    go_wp2_with fail
    go_ret
    exact ⟨rfl, HB3.out⟩
  have HG : Good ps hs b g := ⟨hck⟩
  have HCK := Aside0.mk (check_f ps hs b g _ (Nat.le_refl _))
  have hl7 : (ps.length : Int) ≤ 7 := by have := HG.len; omega
  rw [hck] at HCK
  clear hck
  go_enter Try.func5, Try.ntmps5
  go_wp2_with fail
  have BK0 := Aside0.mk (heap_alloc_new w (.cells #[.slice A0 ps.length c0, .slice A1 hs.length c1, .int .i64 b, .int .u64 g] 25))
  have HB0 := Aside0.mk (below_alloc (Below.refl w.heap.size w) (.cells #[.slice A0 ps.length c0, .slice A1 hs.length c1, .int .i64 b, .int .u64 g] 25))
  refine (awake_true _).mono ?_
  rintro e w1 ⟨rfl, hb⟩
  have BK1 := Aside0.mk (blk_below BK0.out hb)
  have HB1 := Aside0.mk (below_step HB0.out hb)
  clear hb
  have hz_0 : w1.cell? ⟨w.heap.size, 0, none⟩ = some (.slice A0 ps.length c0) := (blk_cell BK1.out 0).trans rfl
  have hz_1 : w1.cell? ⟨w.heap.size, 1, none⟩ = some (.slice A1 hs.length c1) := (blk_cell BK1.out 1).trans rfl
  have hz_2 : w1.cell? ⟨w.heap.size, 2, none⟩ = some (.int .i64 b) := (blk_cell BK1.out 2).trans rfl
  have hz_3 : w1.cell? ⟨w.heap.size, 3, none⟩ = some (.int .u64 g) := (blk_cell BK1.out 3).trans rfl
  go_wp2_with fail
  refine (tree_Check.calls0 _ _ _ ps _ _ hs b g 0 _ (Kd.C_below HR0.out HB1.out) (Kd.C_below HR1.out HB1.out) HCK.out).mono ?_
  rintro e w2 ⟨rfl, hb⟩
  have BK2 := Aside0.mk (blk_below BK1.out hb)
  have HB2 := Aside0.mk (below_step HB1.out hb)
  clear hb
  clear hz_0 hz_1 hz_2 hz_3
  clear BK0 BK1 HB0 HB1
  have hz_0 : w2.cell? ⟨w.heap.size, 0, none⟩ = some (.slice A0 ps.length c0) := (blk_cell BK2.out 0).trans rfl
  have hz_1 : w2.cell? ⟨w.heap.size, 1, none⟩ = some (.slice A1 hs.length c1) := (blk_cell BK2.out 1).trans rfl
  have hz_2 : w2.cell? ⟨w.heap.size, 2, none⟩ = some (.int .i64 b) := (blk_cell BK2.out 2).trans rfl
  have hz_3 : w2.cell? ⟨w.heap.size, 3, none⟩ = some (.int .u64 g) := (blk_cell BK2.out 3).trans rfl
  go_wp2_with fail
  have HSZ := Aside0.mk (size_f ps hs b g _ (Nat.le_refl _))
  rw [HG.size] at HSZ
  refine (tree_Size.calls0 _ _ _ ps _ _ hs b g ((ps.length : Int) + 1) _ (Kd.C_below HR0.out HB2.out) (Kd.C_below HR1.out HB2.out) HSZ.out).mono ?_
  rintro e w3 ⟨rfl, hb⟩
  have BK3 := Aside0.mk (blk_below BK2.out hb)
  have HB3 := Aside0.mk (below_step HB2.out hb)
  clear hz_0 hz_1 hz_2 hz_3
  clear hb BK2 HB2
  have HG7 := HG.len
  obtain ⟨a, ha, ea⟩ := mod_nat x ps.length HG7
  obtain ⟨t, ht, et⟩ := mod_nat y ps.length HG7
  have hu1 : IntKind.u64.wrap ((ps.length : Int) + 1) = (ps.length : Int) + 1 := by simp [IntKind.wrap, IntKind.signed, IntKind.bits]; omega
  rw [hu1] at ea et
  have hz : ((ps.length : Int) + 1 == 0) = false := by simp; omega
  have HA := Aside0.mk ha
  have HT := Aside0.mk ht
  clear ha ht
  go_wp2_with fail
  go_quiet (fail)
  rw [ea, et]
  generalize hw4 : w3.drewN nq = w4
  have BK4 := Aside0.mk (show w4.heap[w.heap.size]? = some (.cells #[.slice A0 ps.length c0, .slice A1 hs.length c1, .int .i64 b, .int .u64 g] 25 (0, 0)) from by rw [← hw4]; exact blk_drewN BK3.out _)
  have HB4 := Aside0.mk (show Below w.heap.size w w4 from by rw [← hw4]; exact pw_below_drewN HB3.out _)
  clear hw4 BK3 HB3 ea et hu1 hz
  have hz_0 : w4.cell? ⟨w.heap.size, 0, none⟩ = some (.slice A0 ps.length c0) := (blk_cell BK4.out 0).trans rfl
  have hz_1 : w4.cell? ⟨w.heap.size, 1, none⟩ = some (.slice A1 hs.length c1) := (blk_cell BK4.out 1).trans rfl
  have hz_2 : w4.cell? ⟨w.heap.size, 2, none⟩ = some (.int .i64 b) := (blk_cell BK4.out 2).trans rfl
  have hz_3 : w4.cell? ⟨w.heap.size, 3, none⟩ = some (.int .u64 g) := (blk_cell BK4.out 3).trans rfl

  go_wp2_with fail
  first | (go_region_held3 (fun w' => w'.cell? ⟨w.heap.size, 0, none⟩ = some (.slice A0 ps.length c0) ∧ w'.cell? ⟨w.heap.size, 1, none⟩ = some (.slice A1 hs.length c1) ∧ w'.cell? ⟨w.heap.size, 2, none⟩ = some (.int .i64 b) ∧ w'.cell? ⟨w.heap.size, 3, none⟩ = some (.int .u64 g)) (first | assumption | exact ⟨hz_0, hz_1, hz_2, hz_3⟩ | (refine ⟨?_, ?_, ?_, ?_⟩ <;> assumption)) (first | (go_at_call 14; (with_reducible refine (tree_Way.calls _ c0 ps _ c1 hs b g (a : Int) (t : Int) (C (W HG.hp a t)) _ (Kd.C_below HR0.out (below_drew HB4.out)) HC0.out (Kd.C_below HR1.out (below_drew HB4.out)) HC1.out (way_f HG HA.out HT.out)).mono ?_); rintro e w5 ⟨v5, rfl, hr5, hb5⟩; have BK5 := Aside0.mk (blk_below (blk_drew BK4.out) hb5); have HB5 := Aside0.mk (below_step (below_drew HB4.out) hb5); have HRA := Aside0.mk hr5; have hz5_0 : w5.cell? ⟨w.heap.size, 0, none⟩ = some (.slice A0 ps.length c0) := (blk_cell BK5.out 0).trans rfl; have hz5_1 : w5.cell? ⟨w.heap.size, 1, none⟩ = some (.slice A1 hs.length c1) := (blk_cell BK5.out 1).trans rfl; have hz5_2 : w5.cell? ⟨w.heap.size, 2, none⟩ = some (.int .i64 b) := (blk_cell BK5.out 2).trans rfl; have hz5_3 : w5.cell? ⟨w.heap.size, 3, none⟩ = some (.int .u64 g) := (blk_cell BK5.out 3).trans rfl; clear hr5 hb5) | (go_at_call 14; (with_reducible refine (tree_Way.calls _ c0 ps _ c1 hs b g (t : Int) (a : Int) (C (W HG.hp t a)) _ (Kd.C_below HR0.out HB5.out) HC0.out (Kd.C_below HR1.out HB5.out) HC1.out (way_f HG HT.out HA.out)).mono ?_); rintro e w6 ⟨v6, rfl, hr6, hb6⟩; have BK6 := Aside0.mk (blk_below BK5.out hb6); have HB6 := Aside0.mk (below_step HB5.out hb6); have HRA6 := Aside0.mk (Kd.R_below HRA.out hb6); have HRB := Aside0.mk hr6; have hz6_0 : w6.cell? ⟨w.heap.size, 0, none⟩ = some (.slice A0 ps.length c0) := (blk_cell BK6.out 0).trans rfl; have hz6_1 : w6.cell? ⟨w.heap.size, 1, none⟩ = some (.slice A1 hs.length c1) := (blk_cell BK6.out 1).trans rfl; have hz6_2 : w6.cell? ⟨w.heap.size, 2, none⟩ = some (.int .i64 b) := (blk_cell BK6.out 2).trans rfl; have hz6_3 : w6.cell? ⟨w.heap.size, 3, none⟩ = some (.int .u64 g) := (blk_cell BK6.out 3).trans rfl; clear hr6 hb6))) | fail
  clear hz_0 hz_1 hz_2 hz_3 hz5_0 hz5_1 hz5_2 hz5_3 hz6_0 hz6_1 hz6_2 hz6_3 BK4 BK5 HB4 HB5 HRA
  have hF := wayF HG HA.out HT.out
  generalize C (W HG.hp a t) = L1 at *
  generalize C (W HG.hp t a) = L2 at *
  have HF := Aside0.mk hF
  clear hF
  obtain ⟨A5, c5, e5, _, hC5⟩ := Kd.R_reads HRA6.out
  obtain ⟨A6, c6, e6, _, hC6⟩ := Kd.R_reads HRB.out
  rw [HF.out.len] at e6 hC6
  subst e5 e6
  have HC5 := Aside0.mk hC5
  have HC6 := Aside0.mk hC6
  clear hC5 hC6 HRA6 HRB
  generalize hn1 : L1.length = n1 at *
  have HN1 := Aside0.mk hn1
  have HNP := Aside0.mk (show 1 ≤ n1 by rw [← hn1]; exact HF.out.pos)
  have HNL := Aside0.mk (show n1 ≤ 15 by rw [← hn1]; exact HF.out.le)
  clear hn1
  have hnp : ¬ (n1 : Int) < 1 := by have := HNP.out; omega
  have hnl : (n1 : Int) ≤ 15 := by have := HNL.out; omega
  have hn0 : (0 : Int) < (n1 : Int) := by omega
  have hn2 : (n1 : Int) - 1 < (n1 : Int) := by omega
  have hn3 : (0 : Int) ≤ (n1 : Int) - 1 := by omega
  obtain ⟨ad5, e, hx0⟩ := Kd.at_int HC5.out 0 (by omega) (by omega)
  cases e
  obtain ⟨_, e, hxl⟩ := Kd.at_int HC5.out ((n1 : Int) - 1) (by omega) (by omega)
  cases e
  rw [HF.out.first] at hx0
  have hfl := HF.out.last
  rw [HN1.out] at hfl
  rw [hfl, show ((n1 : Int) - 1).toNat = n1 - 1 by omega] at hxl
  clear hfl
  replace hx0 : w6.cell? ad5 = some (.int .i64 (a : Int)) := by simpa [Addr.add] using hx0
  go_wp2_with fail
  have HZ := Aside0.mk (show ∀ W : World, Below w6.heap.size w6 W → W.cell? ⟨w.heap.size, 0, none⟩ = some (.slice A0 ps.length c0) ∧ W.cell? ⟨w.heap.size, 1, none⟩ = some (.slice A1 hs.length c1) ∧ W.cell? ⟨w.heap.size, 2, none⟩ = some (.int .i64 b) ∧ W.cell? ⟨w.heap.size, 3, none⟩ = some (.int .u64 g) from fun W hW => by
    have hb := (hW.block _ (Array.getElem?_eq_some_iff.1 BK6.out).1).trans BK6.out
    exact ⟨(blk_cell hb 0).trans rfl, (blk_cell hb 1).trans rfl, (blk_cell hb 2).trans rfl, (blk_cell hb 3).trans rfl⟩)
  have HI0 := Aside0.mk (show WInv w6 (w6.alloc (.map #[] 0)) [] from ⟨below_alloc (Below.refl _ _) _, marks_made w6⟩)
  clear hx0 hxl hnp hn2 hn3 hn0
  go_loopg [76] n1 (fun q v76 wr => ∃ i : Nat, v76 = .int .i64 i ∧ Aside0 (q + i = n1) ∧ Aside0 (WInv w6 wr (L1.take i)))
  case atStart => exact ⟨0, rfl, ⟨by omega⟩, ⟨by simpa using HI0.out⟩⟩
  case round =>
    clear HI0
    obtain ⟨i, rfl, HQ, HI⟩ := hrel
    by_cases hi : i < n1
    · have hi' : (i : Int) < (n1 : Int) := by omega
      obtain ⟨_, e, hx⟩ := Kd.at_int (Kd.C_below HC5.out HI.out.1) (i : Int) (by omega) (by omega)
      cases e
      obtain ⟨ad6, e, hv⟩ := Kd.at_int (Kd.C_below HC6.out HI.out.1) ((n1 - 1 - i : Nat) : Int) (by omega) (by omega)
      cases e
      have hbk := HF.out.back i (by rw [HN1.out]; exact hi)
      rw [HN1.out] at hbk
      rw [hbk] at hv
      simp only [Int.toNat_natCast] at hx hv
      obtain ⟨n, hne, hnle⟩ := HF.out.brk i (by rw [HN1.out]; exact hi)
      have hnew := HF.out.new i (by rw [HN1.out]; exact hi)
      have htk := w_take L1 i (by rw [HN1.out]; exact hi)
      rw [hne] at hx hv hnew htk
      have HNE := Aside0.mk hne
      have HNLE := Aside0.mk hnle
      have HTK := Aside0.mk htk
      have hlk := HI.out.2.look (n : Int) (w_nat (by have := HG.len; omega))
      rw [decide_eq_false hnew] at hlk
      have hs1 : (0 : Int) ≤ (n1 : Int) - 1 - (i : Int) := by omega
      have hs2 : (n1 : Int) - 1 - (i : Int) < (n1 : Int) := by omega
      have hs3 : ((n1 : Int) - 1 - (i : Int)).toNat = n1 - 1 - i := by omega
      have HNX := Aside0.mk (show n ≤ 100 by have := HG.len; omega)
      obtain ⟨D, h1, h2⟩ := HI.out.2
      have H2 := Aside0.mk h2
      have HTL := Aside0.mk (show (L1.take i).length < maxLen from Nat.lt_of_le_of_lt (by have := HF.out.le; rw [List.length_take]; omega) w_lt)
      clear hbk hne hnle hnew htk h2
      by_cases hi0 : i = 0
      · subst hi0
        replace hx : wr.cell? ad5 = some (.int .i64 (n : Int)) := by simpa [Addr.add] using hx
        simp only [Nat.sub_zero] at hv
        have hs4 : (0 : Int) ≤ (n1 : Int) - 1 := by omega
        have hs5 : (n1 : Int) - 1 < (n1 : Int) := by omega
        go_wp2_with (first | (at_mapUpdate; refine wpList_mapUpdate_own _ rfl _ _ _ 42 rfl 3 4 law3 Try.underlying42 _ w6.heap.size _ D rfl h1 HTL.out _ _ _ rfl rfl (key_of (w_nat HNX.out)) _ [] (plainElem_bool Try.underlying4 true) ?_; intro wm hown1 hgrow1))
        go_roundg (n1 - 1)
        case measure => have := HQ.out; omega
        case rel =>
          have hP := HI.out.put hgrow1 (Marks.put h1 H2.out hown1)
          rw [HTK.out] at hP
          exact ⟨1, rfl, ⟨by omega⟩, ⟨hP⟩⟩
      · have hib : ((i : Int) == 0) = false := by simpa using hi0
        go_wp2_with (first | (at_mapUpdate; refine wpList_mapUpdate_own _ rfl _ _ _ 42 rfl 3 4 law3 Try.underlying42 _ w6.heap.size _ D rfl h1 HTL.out _ _ _ rfl rfl (key_of (w_nat HNX.out)) _ [] (plainElem_bool Try.underlying4 true) ?_; intro wm hown1 hgrow1))
        have hP := HI.out.put hgrow1 (Marks.put h1 H2.out hown1)
        rw [HTK.out] at hP
        have HM := Aside0.mk hP
        clear hP hown1 hgrow1 h1 hlk hx hv hs1 hs2 hs3 HI
        obtain ⟨_, e, hx⟩ := Kd.at_int (Kd.C_below HC5.out HM.out.1) ((i - 1 : Nat) : Int) (by omega) (by omega)
        cases e
        obtain ⟨p, hpe, hple⟩ := HF.out.brk (i - 1) (by rw [HN1.out]; omega)
        have hstep := HF.out.step (i - 1) p n (by rw [HN1.out]; omega) hpe (by rw [show i - 1 + 1 = i by omega]; exact HNE.out)
        rw [hpe] at hx
        simp only [Int.toNat_natCast] at hx
        have HPL := Aside0.mk hple
        have HST := Aside0.mk hstep
        have hlt : w.heap.size < w6.heap.size := (Array.getElem?_eq_some_iff.1 BK6.out).1
        have hP := HM.out
        have hz_0 : wm.cell? ⟨w.heap.size, 0, none⟩ = some (.slice A0 ps.length c0) := (blk_cell (hP.1.block _ hlt |>.trans BK6.out) 0).trans rfl
        have hz_1 : wm.cell? ⟨w.heap.size, 1, none⟩ = some (.slice A1 hs.length c1) := (blk_cell (hP.1.block _ hlt |>.trans BK6.out) 1).trans rfl
        have hz_2 : wm.cell? ⟨w.heap.size, 2, none⟩ = some (.int .i64 b) := (blk_cell (hP.1.block _ hlt |>.trans BK6.out) 2).trans rfl
        have hz_3 : wm.cell? ⟨w.heap.size, 3, none⟩ = some (.int .u64 g) := (blk_cell (hP.1.block _ hlt |>.trans BK6.out) 3).trans rfl
        have hs1 : (0 : Int) ≤ (i : Int) - 1 := by omega
        have hs2 : (i : Int) - 1 < (n1 : Int) := by omega
        have hs3 : ((i : Int) - 1).toNat = i - 1 := by omega
        have hs4 : IntKind.i64.wrap ((i : Int) - 1) = (i : Int) - 1 := IntWalk.i64_in _ (by omega)
        have hs5 : (1 : Int) ≤ (i : Int) := by omega
        have hs6 : (i : Int) - 1 < (n1 : Int) := by omega
        have HBM := Aside0.mk (below_step HB6.out HM.out.1)
        have HF9 : ∀ W : World, Below w6.heap.size w6 W → W.cell? (ad5.add (i - 1)) = some (.int .i64 (p : Int)) := fun W hW => by
          obtain ⟨_, e, hx2⟩ := Kd.at_int (Kd.C_below HC5.out hW) ((i - 1 : Nat) : Int) (by omega) (by omega)
          cases e
          rw [hpe] at hx2
          simpa only [Int.toNat_natCast] using hx2
        have HFA := Aside0.mk HF9
        clear hP hpe hple hstep hlt HF9
        first | (go_region_held3 (fun w' => w'.cell? ⟨w.heap.size, 0, none⟩ = some (.slice A0 ps.length c0) ∧ w'.cell? ⟨w.heap.size, 1, none⟩ = some (.slice A1 hs.length c1) ∧ w'.cell? ⟨w.heap.size, 2, none⟩ = some (.int .i64 b) ∧ w'.cell? ⟨w.heap.size, 3, none⟩ = some (.int .u64 g) ∧ w'.cell? (ad5.add (i - 1)) = some (.int .i64 (p : Int))) (first | assumption | exact ⟨hz_0, hz_1, hz_2, hz_3, hx⟩ | (refine ⟨?_, ?_, ?_, ?_, ?_⟩ <;> assumption)) (first | (go_at_call 13; (with_reducible refine (tree_Neighbors.calls _ c0 ps _ c1 hs b g (p : Int) (C (NN ps p)) _ (Kd.C_below HR0.out (below_drew HBM.out)) HC0.out (Kd.C_below HR1.out (below_drew HBM.out)) HC1.out (neigh_f HG HPL.out)).mono ?_); rintro e w9 ⟨v9, rfl, hr9, hb9⟩; have HM9 := Aside0.mk (HM.out.drew.below hb9); have HB9 := Aside0.mk (below_step (below_drew HBM.out) hb9); obtain ⟨A9, c9, rfl, _, hC9⟩ := Kd.R_reads hr9; have HC9 := Aside0.mk hC9; clear hr9 hb9 hC9; have hx9 : w9.cell? (ad5.add (i - 1)) = some (.int .i64 (p : Int)) := HFA.out w9 HM9.out.1; obtain ⟨hz9_0, hz9_1, hz9_2, hz9_3⟩ := HZ.out w9 HM9.out.1))) | fail
        clear hz_0 hz_1 hz_2 hz_3 hx hz9_0 hz9_1 hz9_2 hz9_3 hx9
        have hl9 : ((C (NN ps p)).length : Int) ≤ 8 := by have := NN_length HG HPL.out; rw [C_length]; omega
        have hin : (n : Int) ∈ C (NN ps p) := by rw [C_mem]; exact HST.out.1
        have HIN := Aside0.mk hin
        clear hin
        go_wp2_with fail
        go_loopg [13, 108] (C (NN ps p)).length (fun q v13 v108 wl => ∃ (j : Nat) (f : Bool), v13 = .bool f ∧ v108 = .int .i64 j ∧ Aside0 (q + j = (C (NN ps p)).length) ∧ Aside0 (f = decide ((n : Int) ∈ (C (NN ps p)).take j)) ∧ wl = w9)
        case atStart => exact ⟨0, false, rfl, rfl, ⟨by omega⟩, ⟨by simp⟩, rfl⟩
        case round =>
          obtain ⟨j, f, rfl, rfl, HJ, HFD, hw⟩ := hrel
          obtain rfl : w9 = wr := hw.symm
          clear hw
          by_cases hj : j < (C (NN ps p)).length
          · have hj' : (j : Int) < ((C (NN ps p)).length : Int) := by omega
            obtain ⟨ad9, e, hy⟩ := Kd.at_int HC9.out (j : Int) (by omega) (by omega)
            cases e
            simp only [Int.toNat_natCast] at hy
            have htk2 := w_take (C (NN ps p)) j hj
            generalize hyy : rd (C (NN ps p)) (j : Int) = yy at hy htk2
            have HYT := Aside0.mk htk2
            have HYY := Aside0.mk hyy
            clear hyy htk2
            cases f with
            | true =>
              go_wp2_with fail
              go_roundg ((C (NN ps p)).length - (j + 1))
              case measure => have := HJ.out; omega
              case rel => exact ⟨j + 1, true, rfl, by go_num, ⟨by omega⟩, ⟨by have := HFD.out; rw [← HYT.out]; simp only [List.mem_append]; rw [Bool.decide_or, ← this]; rfl⟩, rfl⟩
            | false =>
              by_cases hyn : yy = (n : Int)
              · have hyb : (yy == (n : Int)) = true := by simpa using hyn
                have HYN := Aside0.mk hyn
                clear hyn
                go_wp2_with fail
                go_roundg ((C (NN ps p)).length - (j + 1))
                case measure => have := HJ.out; omega
                case rel => exact ⟨j + 1, true, rfl, by go_num, ⟨by omega⟩, ⟨by rw [← HYT.out, HYN.out]; simp⟩, rfl⟩
              · have hyb : (yy == (n : Int)) = false := by simpa using hyn
                have HYN := Aside0.mk hyn
                clear hyn
                go_wp2_with fail
                go_roundg ((C (NN ps p)).length - (j + 1))
                case measure => have := HJ.out; omega
                case rel => exact ⟨j + 1, false, rfl, by go_num, ⟨by omega⟩, ⟨by have := HFD.out; rw [← HYT.out]; simp only [List.mem_append, List.mem_singleton]; rw [Bool.decide_or, ← this, decide_eq_false (fun hh => HYN.out hh.symm)]; rfl⟩, rfl⟩
          · obtain rfl : j = (C (NN ps p)).length := by have := HJ.out; omega
            have hj' : ¬ (((C (NN ps p)).length : Int) < ((C (NN ps p)).length : Int)) := by omega
            have hft : f = true := by rw [HFD.out, List.take_length]; exact decide_eq_true HIN.out
            subst hft
            have hx9 := HFA.out w9 HM9.out.1
            obtain ⟨hz9_0, hz9_1, hz9_2, hz9_3⟩ := HZ.out w9 HM9.out.1
            have hop := hop_f HG HPL.out HT.out
            rw [if_neg HST.out.2.1, HST.out.2.2] at hop
            have HOP := Aside0.mk hop
            clear hop
            go_wp2_with fail
            first | (go_region_held3 (fun w' => w'.cell? ⟨w.heap.size, 0, none⟩ = some (.slice A0 ps.length c0) ∧ w'.cell? ⟨w.heap.size, 1, none⟩ = some (.slice A1 hs.length c1) ∧ w'.cell? ⟨w.heap.size, 2, none⟩ = some (.int .i64 b) ∧ w'.cell? ⟨w.heap.size, 3, none⟩ = some (.int .u64 g) ∧ w'.cell? (ad5.add (i - 1)) = some (.int .i64 (p : Int))) (first | assumption | exact ⟨hz9_0, hz9_1, hz9_2, hz9_3, hx9⟩ | (refine ⟨?_, ?_, ?_, ?_, ?_⟩ <;> assumption)) (first | (go_at_call 15; (with_reducible refine (tree_Hop.calls _ c0 ps _ c1 hs b g (p : Int) (t : Int) (n : Int) _ (Kd.C_below HR0.out (below_drew HB9.out)) HC0.out (Kd.C_below HR1.out (below_drew HB9.out)) HC1.out HOP.out).mono ?_); rintro e w10 ⟨rfl, hb10⟩; have HM10 := Aside0.mk (HM9.out.drew.below hb10); have HB10 := Aside0.mk (below_step (below_drew HB9.out) hb10); clear hb10; have hx10 := HFA.out w10 HM10.out.1; obtain ⟨hz10_0, hz10_1, hz10_2, hz10_3⟩ := HZ.out w10 HM10.out.1))) | fail
            clear hx9 hz9_0 hz9_1 hz9_2 hz9_3 hx10 hz10_0 hz10_1 hz10_2 hz10_3
            go_wp2_with fail
            go_roundg (n1 - (i + 1))
            case measure => have := HQ.out; omega
            case rel => exact ⟨i + 1, by go_num, ⟨by omega⟩, HM10⟩
    · have hi' : ¬ (i : Int) < (n1 : Int) := by omega
      go_wp2_with fail
      go_ret
      exact ⟨rfl, below_step HB6.out HI.out.1⟩
end Go.Proofs.Ytpoolbjmebacdaa.Q
