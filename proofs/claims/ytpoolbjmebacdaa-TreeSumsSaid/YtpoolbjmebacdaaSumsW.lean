/- TreeSums: the walk. -/
import Derived.Test.YtpoolbjmebacdaaTP
import Derived.Test.YtpoolbjmebacdaaTMap
import Derived.Test.YtpoolbjmebacdaaQV
namespace Go.Proofs.Ytpoolbjmebacdaa.Q
open Go.RowKit Go.Maps Go.Proofs.YtpoolbjmebacdaaW.PrintWords Go.Proofs.YtpoolbjmebacdaaW.PrintLast Go.Proofs.YtpoolbjmebacdaaW.PrintMore TM
set_option linter.unusedVariables false
set_option linter.unusedSimpArgs false

theorem s_lt : 100 < maxLen := by unfold maxLen; omega
theorem s_nat {n : Nat} (h : n ≤ 100) : I64 (n : Int) := by unfold I64; omega
theorem s_add {n : Nat} (h : n ≤ 100) : (Lit.int .i64 ((n : Int) + 1)).wf = true := wf_of (by unfold I64; omega)
def SInv (wo W : World) (L : List Int) : Prop := Below wo.heap.size wo W ∧ Counts W wo.heap.size L
theorem SInv.below {wo W W1 : World} {L : List Int} (h : SInv wo W L) (hb : Below W.heap.size W W1) : SInv wo W1 L := ⟨below_step h.1 hb, h.2.below hb⟩
theorem SInv.put {wo W W1 : World} {L L1 : List Int} (h : SInv wo W L) (hg : W.grownBy W1 (some wo.heap.size)) (hc : Counts W1 wo.heap.size L1) : SInv wo W1 L1 :=
  ⟨pw_below_grown h.1 _ h.1.size hg (fun k hk => by cases hk; omega), hc⟩
theorem s_take (L : List Int) (j : Nat) (h : j < L.length) : L.take j ++ [rd L (j : Int)] = L.take (j + 1) := by
  rw [rd_nat L j h, List.take_succ_eq_append_getElem h]
section
variable {ps hs : List Int} {b g : Int} (h : Good ps hs b g)
/-- What has been counted, when j neighbours have been gone through. -/
def PL (h : Good ps hs b g) (a j : Nat) : List Int := (a : Int) :: ((NN ps a).take j).flatMap fun n => C (BY h a n)
include h
theorem PL_succ {a j : Nat} (hj : j < (NN ps a).length) : PL h a (j + 1) = PL h a j ++ C (BY h a ((NN ps a)[j])) := by
  unfold PL
  rw [List.take_succ_eq_append_getElem hj, List.flatMap_append]
  simp
theorem PL_length {a : Nat} (ha : a ≤ ps.length) (j : Nat) : (PL h a j).length ≤ 80 := by
  have hN := NN_length h ha
  unfold PL
  have s : ∀ l : List Nat, (l.flatMap fun n => C (BY h a n)).length ≤ 8 * l.length := by
    intro l
    induction l with
    | nil => simp
    | cons x t ih =>
      have := BY_length h (a := a) (n := x)
      rw [List.flatMap_cons, List.length_append, C_length, List.length_cons]; omega
  have := s ((NN ps a).take j)
  rw [List.length_take] at this
  rw [List.length_cons]; omega
theorem PL_count {a t : Nat} (ha : a ≤ ps.length) (ht : t ≤ ps.length) : (PL h a (NN ps a).length).count (t : Int) = 1 := by
  unfold PL
  rw [List.take_length, List.count_cons, List.count_flatMap]
  by_cases e : t = a
  · subst e
    have z : ((NN ps t).map (List.count (t : Int) ∘ fun n => C (BY h t n))).sum = 0 := by
      have : ∀ l : List Nat, (l.map (List.count (t : Int) ∘ fun n => C (BY h t n))).sum = 0 := by
        intro l
        induction l with
        | nil => rfl
        | cons x u ih =>
          have hx : (C (BY h t x)).count (t : Int) = 0 := by
            rw [List.count_eq_zero, C_mem, BY_mem]
            exact fun hh => hh.2.2.1 rfl
          rw [List.map_cons, List.sum_cons, ih]
          simp only [Function.comp]
          omega
      exact this _
    rw [z]; simp
  · have e1 : ((a : Int) == (t : Int)) = false := by simpa using fun hh => e (by omega)
    rw [e1]
    have c : ∀ l : List Nat, (∀ x, x ∈ l → x ∈ NN ps a) → (l.map (List.count (t : Int) ∘ fun n => C (BY h a n))).sum = l.count (nh h.hp a t) := by
      intro l hl
      induction l with
      | nil => rfl
      | cons x u ih =>
        have ih := ih fun y hy => hl y (List.mem_cons_of_mem _ hy)
        have hxm := hl x List.mem_cons_self
        rw [List.map_cons, List.sum_cons, ih, List.count_cons]
        simp only [Function.comp]
        have hn := (C_nodup (BY_nodup h a x)).count (a := (t : Int))
        have hm : (t : Int) ∈ C (BY h a x) ↔ x ∈ NN ps a ∧ t ≤ ps.length ∧ t ≠ a ∧ nh h.hp a t = x := by rw [C_mem, BY_mem]
        rw [hn]
        by_cases e2 : nh h.hp a t = x
        · rw [if_pos (hm.2 ⟨hxm, ht, e, e2⟩), if_pos (by simp [e2])]; omega
        · rw [if_neg (fun hh => e2 (hm.1 hh).2.2.2), if_neg (by simpa using fun hh => e2 hh.symm)]; omega
    rw [c _ (fun _ hx => hx), List.Nodup.count (l := NN ps a) ((NN_rise h ha).imp (fun hh => Nat.ne_of_lt hh)), if_pos (nh_NN h ha ht (fun hh => e hh.symm))]
    rfl
end

set_option maxHeartbeats 16000000 in
set_option maxRecDepth 100000 in
theorem sums_walk (A0 : Option Addr) (c0 : Nat) (ps : List Int) (A1 : Option Addr) (c1 : Nat) (hs : List Int) (b g : Int) (w : World) (hr0 : Kd.C (Kd.int .i64) w A0 ps.length ps) (hc0 : ps.length ≤ c0) (hr1 : Kd.C (Kd.int .i64) w A1 hs.length hs) (hc1 : hs.length ≤ c1) :
    Calls Try.prog 7 #[.agg #[.slice A0 ps.length c0, .slice A1 hs.length c1, .int .i64 b, .int .u64 g]] w fun e w' => e = .returned (.bool true) ∧ Below w.heap.size w w' := by
  have HR0 := Aside0.mk hr0
  have HR1 := Aside0.mk hr1
  have HC0 := Aside0.mk hc0
  have HC1 := Aside0.mk hc1
  clear hr0 hr1 hc0 hc1
  have hmm := @run_makeMap Try.prog
  by_cases hck : checkT ps hs b g = 0
  case neg =>
    have HCK := Aside0.mk (check_f ps hs b g _ (Nat.le_refl _))
    have hne : (checkT ps hs b g != 0) = true := by simpa using hck
    generalize checkT ps hs b g = ck at *
    clear hck
    go_enter Try.func7, Try.ntmps7
    go_wp2_with fail
    have BK0 := Aside0.mk (heap_alloc_new w (.cells #[.slice A0 ps.length c0, .slice A1 hs.length c1, .int .i64 b, .int .u64 g] 25))
    have HB0 := Aside0.mk (below_alloc (Below.refl w.heap.size w) (.cells #[.slice A0 ps.length c0, .slice A1 hs.length c1, .int .i64 b, .int .u64 g] 25))
    refine (awake_true _).mono ?_
    rintro e w1 ⟨rfl, hb⟩
    have BK1 := Aside0.mk (blk_below BK0.out hb)
    have HB1 := Aside0.mk (below_step HB0.out hb)
    clear hb
    have hz_0 : w1.cell? ⟨w.heap.size, 0, none⟩ = some (.slice A0 ps.length c0) := (blk_cell BK1.out 0).trans rfl
    have hz_1 : w1.cell? ⟨w.heap.size, 1, none⟩ = some (.slice A1 hs.length c1) := (blk_cell BK1.out 1).trans rfl
    have hz_2 : w1.cell? ⟨w.heap.size, 2, none⟩ = some (.int .i64 b) := (blk_cell BK1.out 2).trans rfl
    have hz_3 : w1.cell? ⟨w.heap.size, 3, none⟩ = some (.int .u64 g) := (blk_cell BK1.out 3).trans rfl
    go_wp2_with fail
    refine (tree_Check.calls0 _ _ _ ps _ _ hs b g ck _ (Kd.C_below HR0.out HB1.out) (Kd.C_below HR1.out HB1.out) HCK.out).mono ?_
    rintro e w2 ⟨rfl, hb⟩
    have HB2 := Aside0.mk (below_step HB1.out hb)
    clear hz_0 hz_1 hz_2 hz_3
    clear hb
    go_wp2_with fail
    refine (awake_true _).mono ?_
    rintro e w3 ⟨rfl, hb⟩
    have HB3 := Aside0.mk (below_step HB2.out hb)
    clear hb
    go_wp2_with fail
    go_ret
    exact ⟨rfl, HB3.out⟩
  have HG : Good ps hs b g := ⟨hck⟩
  have HCK := Aside0.mk (check_f ps hs b g _ (Nat.le_refl _))
  have hl7 : (ps.length : Int) ≤ 7 := by have := HG.len; omega
  rw [hck] at HCK
  clear hck
  go_enter Try.func7, Try.ntmps7
  go_wp2_with fail
  have BK0 := Aside0.mk (heap_alloc_new w (.cells #[.slice A0 ps.length c0, .slice A1 hs.length c1, .int .i64 b, .int .u64 g] 25))
  have HB0 := Aside0.mk (below_alloc (Below.refl w.heap.size w) (.cells #[.slice A0 ps.length c0, .slice A1 hs.length c1, .int .i64 b, .int .u64 g] 25))
  refine (awake_true _).mono ?_
  rintro e w1 ⟨rfl, hb⟩
  have BK1 := Aside0.mk (blk_below BK0.out hb)
  have HB1 := Aside0.mk (below_step HB0.out hb)
  clear hb
  have hz_0 : w1.cell? ⟨w.heap.size, 0, none⟩ = some (.slice A0 ps.length c0) := (blk_cell BK1.out 0).trans rfl
  have hz_1 : w1.cell? ⟨w.heap.size, 1, none⟩ = some (.slice A1 hs.length c1) := (blk_cell BK1.out 1).trans rfl
  have hz_2 : w1.cell? ⟨w.heap.size, 2, none⟩ = some (.int .i64 b) := (blk_cell BK1.out 2).trans rfl
  have hz_3 : w1.cell? ⟨w.heap.size, 3, none⟩ = some (.int .u64 g) := (blk_cell BK1.out 3).trans rfl
  go_wp2_with fail
  refine (tree_Check.calls0 _ _ _ ps _ _ hs b g 0 _ (Kd.C_below HR0.out HB1.out) (Kd.C_below HR1.out HB1.out) HCK.out).mono ?_
  rintro e w2 ⟨rfl, hb⟩
  have BK2 := Aside0.mk (blk_below BK1.out hb)
  have HB2 := Aside0.mk (below_step HB1.out hb)
  clear hb
  clear hz_0 hz_1 hz_2 hz_3
  clear BK0 BK1 HB0 HB1
  have hz_0 : w2.cell? ⟨w.heap.size, 0, none⟩ = some (.slice A0 ps.length c0) := (blk_cell BK2.out 0).trans rfl
  have hz_1 : w2.cell? ⟨w.heap.size, 1, none⟩ = some (.slice A1 hs.length c1) := (blk_cell BK2.out 1).trans rfl
  have hz_2 : w2.cell? ⟨w.heap.size, 2, none⟩ = some (.int .i64 b) := (blk_cell BK2.out 2).trans rfl
  have hz_3 : w2.cell? ⟨w.heap.size, 3, none⟩ = some (.int .u64 g) := (blk_cell BK2.out 3).trans rfl
  go_wp2_with fail
  have HSZ := Aside0.mk (size_f ps hs b g _ (Nat.le_refl _))
  rw [HG.size] at HSZ
  refine (tree_Size.calls0 _ _ _ ps _ _ hs b g ((ps.length : Int) + 1) _ (Kd.C_below HR0.out HB2.out) (Kd.C_below HR1.out HB2.out) HSZ.out).mono ?_
  rintro e w3 ⟨rfl, hb⟩
  have BK3 := Aside0.mk (blk_below BK2.out hb)
  have HB3 := Aside0.mk (below_step HB2.out hb)
  clear hz_0 hz_1 hz_2 hz_3
  clear hb BK2 HB2
  go_wp2_with fail
  go_loopg [20] (ps.length + 1) (fun q v20 wr => ∃ a : Nat, v20 = .int .i64 a ∧ Aside0 (q + a = ps.length + 1) ∧ Aside0 (wr.heap[w.heap.size]? = some (.cells #[.slice A0 ps.length c0, .slice A1 hs.length c1, .int .i64 b, .int .u64 g] 25 (0, 0))) ∧ Aside0 (Below w.heap.size w wr))
  case atStart => exact ⟨0, rfl, ⟨by omega⟩, BK3, HB3⟩
  case round =>
    clear BK3 HB3
    obtain ⟨a, rfl, HQ, BK, HB⟩ := hrel
    obtain ⟨wo, hwo⟩ : ∃ wo : World, wo = wr := ⟨_, rfl⟩
    subst hwo
    by_cases ha : a < ps.length + 1
    · have ha' : (a : Int) < (ps.length : Int) + 1 := by omega
      have HA := Aside0.mk (show a ≤ ps.length by omega)
      have HA100 := Aside0.mk (show a ≤ 100 by omega)
      go_wp2_with (first | (refine wpList_insert_own _ rfl (.tmp 23) (.tmp 24) _ 40 rfl 3 3 law3 Try.underlying40 (plainElem (H := Unit) Try.prog 3) wo.heap.size 0 (.map []) rfl (World.ownsMap_made _ _ _ _) (Nat.lt_of_le_of_lt (by decide) s_lt) _ _ _ rfl rfl (key_of (s_nat HA100.out)) _ [] (plainElem_int Try.underlying3 (s_add (n := 0) (by decide))) ?_; intro wm hown1 hgrow1; have hg0 := World.grownBy.trans (World.grownBy_alloc wo (.map #[] 0) (some wo.heap.size)) hgrow1; have HP0 := Aside0.mk (show SInv wo wm [(a : Int)] from ⟨pw_below_grown (Below.refl _ _) _ (Nat.le_refl _) hg0 (fun k hk => by cases hk; omega), Counts.put (L := []) (x := (a : Int)) (World.ownsMap_made wo _ _ _) (fun _ => rfl) (fun x => by simp [has]) (fun _ => rfl) hown1⟩); clear hown1 hgrow1 hg0; have hlt := (Array.getElem?_eq_some_iff.1 BK.out).1; have hP := HP0.out; have hz_0 : wm.cell? ⟨w.heap.size, 0, none⟩ = some (.slice A0 ps.length c0) := (blk_cell (hP.1.block _ hlt |>.trans BK.out) 0).trans rfl; have hz_1 : wm.cell? ⟨w.heap.size, 1, none⟩ = some (.slice A1 hs.length c1) := (blk_cell (hP.1.block _ hlt |>.trans BK.out) 1).trans rfl; have hz_2 : wm.cell? ⟨w.heap.size, 2, none⟩ = some (.int .i64 b) := (blk_cell (hP.1.block _ hlt |>.trans BK.out) 2).trans rfl; have hz_3 : wm.cell? ⟨w.heap.size, 3, none⟩ = some (.int .u64 g) := (blk_cell (hP.1.block _ hlt |>.trans BK.out) 3).trans rfl; clear hP hlt))
      refine (tree_Neighbors.calls _ c0 ps _ c1 hs b g (a : Int) (C (NN ps a)) _ (Kd.C_below HR0.out (below_step HB.out HP0.out.1)) HC0.out (Kd.C_below HR1.out (below_step HB.out HP0.out.1)) HC1.out (neigh_f HG HA.out)).mono ?_
      rintro e w4 ⟨v4, rfl, hr, hb⟩
      obtain ⟨A4, c4, rfl, _⟩ := Kd.R_reads hr
      have HRN := Aside0.mk (Kd.R_mono (ok' := fun k_ => wo.heap.size < k_) (Kd.R_bound hr) (fun k_ hk_ => Nat.lt_of_lt_of_le HP0.out.2.lt hk_.2.1))
      have HP4 := Aside0.mk (HP0.out.below hb)
      clear hr hb HP0 hz_0 hz_1 hz_2 hz_3
      have hlen4 : ((C (NN ps a)).length : Int) ≤ 8 := by have := NN_length HG HA.out; rw [C_length]; omega
      go_wp2_with fail
      go_loopg [30] (C (NN ps a)).length (fun q v30 wl => ∃ j : Nat, v30 = .int .i64 j ∧ Aside0 (q + j = (C (NN ps a)).length) ∧ Aside0 (SInv wo wl (PL HG a j)) ∧ Aside0 (Kd.R (Kd.int .i64) 3 wl wm.heap.size (fun k_ => wo.heap.size < k_) (.slice A4 (C (NN ps a)).length c4) (C (NN ps a))))
      case atStart => exact ⟨0, rfl, ⟨by omega⟩, HP4, HRN⟩
      case round =>
        clear HP4 HRN
        obtain ⟨j, rfl, HQ2, HP, HRN⟩ := hrel
        obtain ⟨wl, hwl⟩ : ∃ wl : World, wl = wr := ⟨_, rfl⟩
        subst hwl
        by_cases hj : j < (C (NN ps a)).length
        · obtain ⟨ad2, e, hx⟩ := Kd.at_int (Kd.R_reads' HRN.out).2.2 (j : Int) (by omega) (by omega)
          cases e
          simp only [Int.toNat_natCast] at hx
          have hjn : j < (NN ps a).length := by rw [C_length] at hj; exact hj
          have hnm : (NN ps a)[j] ∈ NN ps a := List.getElem_mem hjn
          have hpl := PL_succ HG hjn
          rw [C_rd _ j hjn] at hx
          generalize (NN ps a)[j] = n at hx hnm hpl
          have HN := Aside0.mk ((NN_mem HG HA.out n).1 hnm).1
          have HPL := Aside0.mk hpl
          have hj' : (j : Int) < ((C (NN ps a)).length : Int) := by omega
          have hlt : w.heap.size < wo.heap.size := (Array.getElem?_eq_some_iff.1 BK.out).1
          have hP := HP.out
          have hz_0 : wl.cell? ⟨w.heap.size, 0, none⟩ = some (.slice A0 ps.length c0) := (blk_cell (hP.1.block _ hlt |>.trans BK.out) 0).trans rfl
          have hz_1 : wl.cell? ⟨w.heap.size, 1, none⟩ = some (.slice A1 hs.length c1) := (blk_cell (hP.1.block _ hlt |>.trans BK.out) 1).trans rfl
          have hz_2 : wl.cell? ⟨w.heap.size, 2, none⟩ = some (.int .i64 b) := (blk_cell (hP.1.block _ hlt |>.trans BK.out) 2).trans rfl
          have hz_3 : wl.cell? ⟨w.heap.size, 3, none⟩ = some (.int .u64 g) := (blk_cell (hP.1.block _ hlt |>.trans BK.out) 3).trans rfl
          clear hP hlt hnm hpl hjn
          go_wp2_with fail
          refine (tree_Beyond.calls _ _ c0 ps _ c1 hs b g a n (C (BY HG a n)) _ (Kd.C_below HR0.out (below_step HB.out HP.out.1)) HC0.out (Kd.C_below HR1.out (below_step HB.out HP.out.1)) HC1.out (beyond_f HG HA.out HN.out _ (Nat.le_refl _))).mono ?_
          rintro e w6 ⟨v6, rfl, hr, hb⟩
          obtain ⟨A6, c6, rfl, _⟩ := Kd.R_reads hr
          have HRL := Aside0.mk (Kd.R_mono (ok' := fun k_ => wo.heap.size < k_) (Kd.R_bound hr) (fun k_ hk_ => Nat.lt_of_lt_of_le HP.out.2.lt hk_.2.1))
          have HRN6 := Aside0.mk (Kd.R_below HRN.out hb)
          have HP6 := Aside0.mk (HP.out.below hb)
          clear hr hb HP HRN hz_0 hz_1 hz_2 hz_3
          have hlen6 : ((C (BY HG a n)).length : Int) ≤ 8 := by have := BY_length HG (a := a) (n := n); rw [C_length]; omega
          go_wp2_with fail
          go_loopg [39] (C (BY HG a n)).length (fun q v39 wi => ∃ i : Nat, v39 = .int .i64 i ∧ Aside0 (q + i = (C (BY HG a n)).length) ∧ Aside0 (SInv wo wi (PL HG a j ++ (C (BY HG a n)).take i)) ∧ Aside0 (Kd.R (Kd.int .i64) 3 wi wl.heap.size (fun k_ => wo.heap.size < k_) (.slice A6 (C (BY HG a n)).length c6) (C (BY HG a n))) ∧ Aside0 (Kd.R (Kd.int .i64) 3 wi wm.heap.size (fun k_ => wo.heap.size < k_) (.slice (some ad2) (C (NN ps a)).length c4) (C (NN ps a))))
          case atStart => exact ⟨0, rfl, ⟨by omega⟩, ⟨by simpa using HP6.out⟩, HRL, HRN6⟩
          case round =>
            clear HP6 HRL HRN6 hx
            obtain ⟨i, rfl, HQ3, HP, HRL, HRN⟩ := hrel
            obtain ⟨wi, hwi⟩ : ∃ wi : World, wi = wr := ⟨_, rfl⟩
            subst hwi
            by_cases hi : i < (C (BY HG a n)).length
            · obtain ⟨ad3, e, hx⟩ := Kd.at_int (Kd.R_reads' HRL.out).2.2 (i : Int) (by omega) (by omega)
              cases e
              simp only [Int.toNat_natCast] at hx
              have htk := s_take (C (BY HG a n)) i hi
              have HTK := Aside0.mk htk
              have hib : i < (BY HG a n).length := by rw [C_length] at hi; exact hi
              have htm := List.getElem_mem hib
              rw [BY_mem] at htm
              obtain ⟨t, hte⟩ : ∃ t : Nat, t = (BY HG a n)[i] := ⟨_, rfl⟩
              rw [← hte] at htm
              have hrd := C_rd (BY HG a n) i hib
              rw [← hte] at hrd
              rw [hrd] at hx
              have HTE := Aside0.mk hrd
              have HTL := Aside0.mk (show t ≤ 100 by have := HG.len; have := htm.2.1; omega)
              have hi' : (i : Int) < ((C (BY HG a n)).length : Int) := by omega
              have HLB := Aside0.mk (show (PL HG a j ++ (C (BY HG a n)).take i).length ≤ 100 from by have e1 := PL_length HG HA.out j; have e2 := BY_length HG (a := a) (n := n); simp only [List.length_append, List.length_take, C_length]; omega)
              have hlk := HP.out.2.look (t : Int) (s_nat HTL.out)
              have HCN := Aside0.mk (show (PL HG a j ++ (C (BY HG a n)).take i).count (t : Int) ≤ 100 from Nat.le_trans List.count_le_length HLB.out)
              have hcl : ((PL HG a j ++ (C (BY HG a n)).take i).count (t : Int) : Int) ≤ 100 := Int.ofNat_le.2 HCN.out
              generalize hcn : (PL HG a j ++ (C (BY HG a n)).take i).count (t : Int) = cn at hlk hcl HCN
              have HCE := Aside0.mk hcn
              obtain ⟨D, h1, h2, h3, h4⟩ := HP.out.2
              have H2 := Aside0.mk h2
              have H3 := Aside0.mk h3
              have H4 := Aside0.mk h4
              clear hcn htk hib htm hte hrd h2 h3 h4
              go_wp2_with (first | (at_mapUpdate; refine wpList_mapUpdate_own _ rfl _ _ _ 40 rfl 3 3 law3 Try.underlying40 _ wo.heap.size _ D rfl h1 (Nat.lt_of_le_of_lt HLB.out s_lt) _ _ _ rfl rfl (key_of (s_nat HTL.out)) _ [] (plainElem_int Try.underlying3 (s_add HCN.out)) ?_; intro wn hown1 hgrow1))
              go_roundg ((C (BY HG a n)).length - (i + 1))
              case measure => have := HQ3.out; omega
              case rel =>
                refine ⟨i + 1, by go_num, ⟨by omega⟩, ⟨?_⟩, ⟨Kd.R_grown HRL.out hgrow1 (fun k_ hk_ => by simp; omega)⟩, ⟨Kd.R_grown HRN.out hgrow1 (fun k_ hk_ => by simp; omega)⟩⟩
                have hP := HP.out.put hgrow1 (Counts.put h1 H2.out H3.out H4.out (by rw [HCE.out]; exact hown1))
                rw [List.append_assoc, ← HTE.out, HTK.out] at hP
                exact hP
            · obtain rfl : i = (C (BY HG a n)).length := by have := HQ3.out; omega
              have hi' : ¬ (((C (BY HG a n)).length : Int) < ((C (BY HG a n)).length : Int)) := by omega
              have hPf := HP.out
              rw [List.take_length, ← HPL.out] at hPf
              have HPF := Aside0.mk hPf
              clear hPf HP
              go_wp2_with fail
              go_roundg ((C (NN ps a)).length - (j + 1))
              case measure => have := HQ2.out; omega
              case rel => exact ⟨j + 1, by go_num, ⟨by omega⟩, HPF, HRN⟩
        · obtain rfl : j = (C (NN ps a)).length := by have := HQ2.out; omega
          have hj' : ¬ (((C (NN ps a)).length : Int) < ((C (NN ps a)).length : Int)) := by omega
          have hlt : w.heap.size < wo.heap.size := (Array.getElem?_eq_some_iff.1 BK.out).1
          have hP := HP.out
          rw [C_length] at hP
          have HPF := Aside0.mk hP
          have hz_0 : wl.cell? ⟨w.heap.size, 0, none⟩ = some (.slice A0 ps.length c0) := (blk_cell (hP.1.block _ hlt |>.trans BK.out) 0).trans rfl
          have hz_1 : wl.cell? ⟨w.heap.size, 1, none⟩ = some (.slice A1 hs.length c1) := (blk_cell (hP.1.block _ hlt |>.trans BK.out) 1).trans rfl
          have hz_2 : wl.cell? ⟨w.heap.size, 2, none⟩ = some (.int .i64 b) := (blk_cell (hP.1.block _ hlt |>.trans BK.out) 2).trans rfl
          have hz_3 : wl.cell? ⟨w.heap.size, 3, none⟩ = some (.int .u64 g) := (blk_cell (hP.1.block _ hlt |>.trans BK.out) 3).trans rfl
          have HBW := Aside0.mk (below_step HB.out HPF.out.1)
          clear hP hlt HP HRN
          go_wp2_with fail
          refine (tree_Size.calls0 _ _ _ ps _ _ hs b g ((ps.length : Int) + 1) _ (Kd.C_below HR0.out HBW.out) (Kd.C_below HR1.out HBW.out) HSZ.out).mono ?_
          rintro e w8 ⟨rfl, hb⟩
          have HP8 := Aside0.mk (HPF.out.below hb)
          have HBW8 := Aside0.mk (below_step HBW.out hb)
          clear hb HPF HBW hz_0 hz_1 hz_2 hz_3
          go_wp2_with fail
          go_loopg [51] (ps.length + 1) (fun q v51 wl => ∃ t : Nat, v51 = .int .i64 t ∧ Aside0 (q + t = ps.length + 1) ∧ wl = w8)
          case atStart => exact ⟨0, rfl, ⟨by omega⟩, rfl⟩
          case round =>
            obtain ⟨t, rfl, HQ4, hw⟩ := hrel
            obtain rfl : w8 = wr := hw.symm
            clear hw
            by_cases ht : t < ps.length + 1
            · have ht' : (t : Int) < (ps.length : Int) + 1 := by omega
              have hlk := HP8.out.2.look (t : Int) (s_nat (by omega))
              rw [PL_count HG HA.out (show t ≤ ps.length by omega)] at hlk
              go_wp2_with fail
              go_roundg (ps.length + 1 - (t + 1))
              case measure => have := HQ4.out; omega
              case rel => exact ⟨t + 1, by go_num, ⟨by omega⟩, rfl⟩
            · have ht' : ¬ (t : Int) < (ps.length : Int) + 1 := by omega
              go_wp2_with fail
              go_roundg (ps.length + 1 - (a + 1))
              case measure => have := HQ.out; omega
              case rel => exact ⟨a + 1, by go_num, ⟨by omega⟩, ⟨(HP8.out.1.block _ (Array.getElem?_eq_some_iff.1 BK.out).1).trans BK.out⟩, ⟨HBW8.out⟩⟩
    · have ha' : ¬ (a : Int) < (ps.length : Int) + 1 := by omega
      go_wp2_with fail
      go_ret
      exact ⟨rfl, HB.out⟩
end Go.Proofs.Ytpoolbjmebacdaa.Q
