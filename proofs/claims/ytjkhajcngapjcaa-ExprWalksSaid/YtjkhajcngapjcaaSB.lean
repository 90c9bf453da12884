/- expr.Same and the reference's: they end, and are true of equal ones; printed by gen_same05b.py. -/
import Derived.Test.YtjkhajcngapjcaaSA
import Derived.Outline
namespace Go.Proofs.Ytjkhajcngapjcaa.Q
open Go.RowKit Go.Proofs.YtjkhajcngapjcaaW.PrintWords Go.Proofs.YtjkhajcngapjcaaW.PrintLast Go.Proofs.YtjkhajcngapjcaaW.PrintMore
set_option linter.unusedVariables false
set_option linter.unusedSimpArgs false

theorem blk_two0 (w : World) (o1 o2 : Obj) : ((w.alloc o1).alloc o2).heap[w.heap.size]? = some o1 := blk_alloc (heap_alloc_new w o1) o2
theorem blk_two1 (w : World) (o1 o2 : Obj) : ((w.alloc o1).alloc o2).heap[w.heap.size + 1]? = some o2 := by
  have := heap_alloc_new (w.alloc o1) o2
  simpa using this
set_option maxHeartbeats 8000000 in
set_option maxRecDepth 100000 in
theorem same_any (m : Nat) : ∀ (x y : S28) (va vb : Value) (w : World), sz x = m → sz x ≤ 40 → dp x ≤ 8 → Each (fun y => FineS y.f2) x → XR w va x → XR w vb y → Calls Try.prog 27 #[va, vb] w fun e w' => Says (x = y) e ∧ Below w.heap.size w w' := by
  induction m using Nat.strongRecOn with
  | _ m ih =>
  intro x y va vb w hm hs hd hF hxa hxb
  have IH := Aside0.mk ih
  have HM := Aside0.mk (And.intro hm (And.intro hs hd))
  have HF := Aside0.mk hF
  have HXA := Aside0.mk hxa
  have HXB := Aside0.mk hxb
  obtain ⟨A3a, c3a, A5a, c5a, A6a, c6a, rfl, l3, g3, l5, g5, l6, g6⟩ := hxa
  have G3 := Aside0.mk (And.intro l3 g3)
  have G5 := Aside0.mk (And.intro l5 g5)
  have G6 := Aside0.mk g6
  clear l3 g3 l5 g5 l6 g6
  obtain ⟨A3b, c3b, A5b, c5b, A6b, c6b, rfl, l3, g3, l5, g5, l6, g6⟩ := hxb
  have K3 := Aside0.mk (And.intro l3 g3)
  have K5 := Aside0.mk (And.intro l5 g5)
  have K6 := Aside0.mk g6
  clear l3 g3 l5 g5 l6 g6 ih hm hs hd hF
  have HZ : Aside0 (szI x = (sz x : Int)) := ⟨by unfold szI; rw [if_pos (by unfold fitsT; rw [decide_eq_true HM.out.2.1, decide_eq_true HM.out.2.2]; rfl)]⟩
  go_enter Try.func27, Try.ntmps27
  go_wp2_with fail
  obtain ⟨wb, hwb⟩ : ∃ wb : World, wb = (w.alloc (.cells #[.int .i64 x.f0, .int .i64 x.f1, .bool x.f2.f0, .slice A3a x.f2.f1.length c3a, .bool x.f2.f2, .slice A5a x.f2.f3.length c5a, .slice A6a x.f3.length c6a] 28)).alloc (.cells #[.int .i64 y.f0, .int .i64 y.f1, .bool y.f2.f0, .slice A3b y.f2.f1.length c3b, .bool y.f2.f2, .slice A5b y.f2.f3.length c5b, .slice A6b y.f3.length c6b] 28) := ⟨_, rfl⟩
  have HB0 := Aside0.mk (show Below w.heap.size w wb by rw [hwb]; exact below_alloc (below_alloc (Below.refl _ _) _) _)
  have Hm0 := Aside0.mk (show wb.heap[w.heap.size]? = some (.cells #[.int .i64 x.f0, .int .i64 x.f1, .bool x.f2.f0, .slice A3a x.f2.f1.length c3a, .bool x.f2.f2, .slice A5a x.f2.f3.length c5a, .slice A6a x.f3.length c6a] 28 (0, 0)) by rw [hwb]; exact blk_two0 w _ _)
  have Hn0 := Aside0.mk (show wb.heap[w.heap.size + 1]? = some (.cells #[.int .i64 y.f0, .int .i64 y.f1, .bool y.f2.f0, .slice A3b y.f2.f1.length c3b, .bool y.f2.f2, .slice A5b y.f2.f3.length c5b, .slice A6b y.f3.length c6b] 28 (0, 0)) by rw [hwb]; exact blk_two1 w _ _)
  rw [← hwb]
  clear hwb
  refine (size_any x _ _ (HXA.out.below HB0.out)).mono ?_
  rintro e w1 ⟨rfl, hb⟩
  have HB1 := Aside0.mk (below_step HB0.out hb)
  have Hm1 := Aside0.mk (blk_below Hm0.out hb)
  have Hn1 := Aside0.mk (blk_below Hn0.out hb)
  clear hb
  rw [HZ.out]
  have hpos : (sz x : Int) ≠ 0 := by have := sz_pos x; omega
  have hposb : ((sz x : Int) == 0) = false := by simpa using hpos
  clear hpos
  generalize (sz x : Int) = szx at *
  generalize dpI x = dpx at *
  obtain ⟨m0, m1, m2, m3, m4, m5, m6⟩ := ncells Hm1.out
  obtain ⟨n0, n1, n2, n3, n4, n5, n6⟩ := ncells Hn1.out
  by_cases k0 : x.f0 = y.f0
  rotate_left
  · have K0 := Aside0.mk k0
    have b0 : (x.f0 == y.f0) = false := by simpa using k0
    clear k0
    go_wp2_with fail
    go_ret
    exact ⟨⟨false, rfl, fun h => absurd (by rw [h]) K0.out⟩, HB1.out⟩
  have b0 : (x.f0 == y.f0) = true := by simpa using k0
  have K0 := Aside0.mk k0
  clear k0
  by_cases k1 : x.f1 = y.f1
  rotate_left
  · have K1 := Aside0.mk k1
    have b1 : (x.f1 == y.f1) = false := by simpa using k1
    clear k1
    go_wp2_with fail
    go_ret
    exact ⟨⟨false, rfl, fun h => absurd (by rw [h]) K1.out⟩, HB1.out⟩
  have b1 : (x.f1 == y.f1) = true := by simpa using k1
  clear k1
  go_wp2_with fail
  refine (setsame_any x.f2 y.f2 HF.out.here A3a c3a A5a c5a A3b c3b A5b c5b _ (Kd.C_below G3.out.2 HB1.out) G3.out.1 (Kd.C_below G5.out.2 HB1.out) G5.out.1 (Kd.C_below K3.out.2 HB1.out) K3.out.1 (Kd.C_below K5.out.2 HB1.out) K5.out.1).1.mono ?_
  rintro e w2 ⟨⟨bs, rfl, hbs⟩, hb⟩
  have HB2 := Aside0.mk (below_step HB1.out hb)
  have Hm2 := Aside0.mk (blk_below Hm1.out hb)
  have Hn2 := Aside0.mk (blk_below Hn1.out hb)
  clear m0 m1 m2 m3 m4 m5 m6 n0 n1 n2 n3 n4 n5 n6
  have HBS := Aside0.mk hbs
  clear hb hbs
  obtain ⟨m0, m1, m2, m3, m4, m5, m6⟩ := ncells Hm2.out
  obtain ⟨n0, n1, n2, n3, n4, n5, n6⟩ := ncells Hn2.out
  cases bs with
  | false =>
    go_wp2_with fail
    go_ret
    exact ⟨⟨false, rfl, fun h => HBS.out (by rw [h])⟩, HB2.out⟩
  | true =>
    go_wp2_with fail
    refine (equal_any x.f3 y.f3 (fun x' y' va vb w' hx' hy' hxa hxb => IH.out (sz x') (by rw [← HM.out.1]; exact sub_lt hx') x' y' va vb w' rfl (by have := sub_lt hx'; have := HM.out.2.1; omega) (by have h1 := dp_mem hx'; have h2 := HM.out.2.2; rw [dp_eq] at h2; omega) (HF.out.sub hx') hxa hxb) A6a c6a A6b c6b _ (Kd.C_below G6.out HB2.out) (Kd.C_below K6.out HB2.out)).mono ?_
    rintro e w3 ⟨⟨bt, rfl, hbt⟩, hb⟩
    have HB3 := Aside0.mk (below_step HB2.out hb)
    have HBT := Aside0.mk hbt
    clear hb hbt
    go_wp2_with fail
    go_ret
    exact ⟨⟨bt, rfl, fun h => HBT.out (by rw [h])⟩, HB3.out⟩
set_option maxHeartbeats 8000000 in
set_option maxRecDepth 100000 in
theorem refsame_any (m : Nat) : ∀ (x y : S28) (va vb : Value) (w : World), sz x = m → Each (fun y => FineS y.f2) x → XR w va x → XR w vb y → Calls Try.prog 26 #[va, vb] w fun e w' => Says (x = y) e ∧ Below w.heap.size w w' := by
  induction m using Nat.strongRecOn with
  | _ m ih =>
  intro x y va vb w hm hF hxa hxb
  have IH := Aside0.mk ih
  have HM := Aside0.mk hm
  have HF := Aside0.mk hF
  have HXA := Aside0.mk hxa
  have HXB := Aside0.mk hxb
  obtain ⟨A3a, c3a, A5a, c5a, A6a, c6a, rfl, l3, g3, l5, g5, l6, g6⟩ := hxa
  have G3 := Aside0.mk (And.intro l3 g3)
  have G5 := Aside0.mk (And.intro l5 g5)
  have G6 := Aside0.mk g6
  clear l3 g3 l5 g5 l6 g6
  obtain ⟨A3b, c3b, A5b, c5b, A6b, c6b, rfl, l3, g3, l5, g5, l6, g6⟩ := hxb
  have K3 := Aside0.mk (And.intro l3 g3)
  have K5 := Aside0.mk (And.intro l5 g5)
  have K6 := Aside0.mk g6
  clear l3 g3 l5 g5 l6 g6 ih hm hF
  obtain ⟨wb, hwb⟩ : ∃ wb : World, wb = (w.alloc (.cells #[.int .i64 x.f0, .int .i64 x.f1, .bool x.f2.f0, .slice A3a x.f2.f1.length c3a, .bool x.f2.f2, .slice A5a x.f2.f3.length c5a, .slice A6a x.f3.length c6a] 28)).alloc (.cells #[.int .i64 y.f0, .int .i64 y.f1, .bool y.f2.f0, .slice A3b y.f2.f1.length c3b, .bool y.f2.f2, .slice A5b y.f2.f3.length c5b, .slice A6b y.f3.length c6b] 28) := ⟨_, rfl⟩
  have HWB := Aside0.mk hwb
  have HB1 := Aside0.mk (show Below w.heap.size w wb by rw [hwb]; exact below_alloc (below_alloc (Below.refl _ _) _) _)
  have Hm1 := Aside0.mk (show wb.heap[w.heap.size]? = some (.cells #[.int .i64 x.f0, .int .i64 x.f1, .bool x.f2.f0, .slice A3a x.f2.f1.length c3a, .bool x.f2.f2, .slice A5a x.f2.f3.length c5a, .slice A6a x.f3.length c6a] 28 (0, 0)) by rw [hwb]; exact blk_two0 w _ _)
  have Hn1 := Aside0.mk (show wb.heap[w.heap.size + 1]? = some (.cells #[.int .i64 y.f0, .int .i64 y.f1, .bool y.f2.f0, .slice A3b y.f2.f1.length c3b, .bool y.f2.f2, .slice A5b y.f2.f3.length c5b, .slice A6b y.f3.length c6b] 28 (0, 0)) by rw [hwb]; exact blk_two1 w _ _)
  have hlen : (x.f3.length : Int) ≤ 9223372036854775807 := by have hg := G6.out.2.1; omega
  clear hwb
  by_cases k0 : x.f0 = y.f0
  rotate_left
  · have K0 := Aside0.mk k0
    have b0 : (x.f0 == y.f0) = false := by simpa using k0
    have d0 : (x.f0 != y.f0) = true := by simpa using k0
    clear k0
    go_enter Try.func26, Try.ntmps26
    go_wp2_with fail
    go_ret
    exact ⟨⟨false, rfl, fun h => absurd (by rw [h]) K0.out⟩, by have h := HB1.out; rw [HWB.out] at h; exact h⟩
  have b0 : (x.f0 == y.f0) = true := by simpa using k0
  have d0 : (x.f0 != y.f0) = false := by simpa using k0
  clear k0
  by_cases k1 : x.f1 = y.f1
  rotate_left
  · have K1 := Aside0.mk k1
    have b1 : (x.f1 == y.f1) = false := by simpa using k1
    have d1 : (x.f1 != y.f1) = true := by simpa using k1
    clear k1
    go_enter Try.func26, Try.ntmps26
    go_wp2_with fail
    go_ret
    exact ⟨⟨false, rfl, fun h => absurd (by rw [h]) K1.out⟩, by have h := HB1.out; rw [HWB.out] at h; exact h⟩
  have b1 : (x.f1 == y.f1) = true := by simpa using k1
  have d1 : (x.f1 != y.f1) = false := by simpa using k1
  clear k1
  go_enter Try.func26, Try.ntmps26
  go_wp2_with fail
  rw [← HWB.out]
  refine (setsame_any x.f2 y.f2 HF.out.here A3a c3a A5a c5a A3b c3b A5b c5b _ (Kd.C_below G3.out.2 HB1.out) G3.out.1 (Kd.C_below G5.out.2 HB1.out) G5.out.1 (Kd.C_below K3.out.2 HB1.out) K3.out.1 (Kd.C_below K5.out.2 HB1.out) K5.out.1).2.mono ?_
  rintro e w2 ⟨⟨bs, rfl, hbs⟩, hb⟩
  have HB2 := Aside0.mk (below_step HB1.out hb)
  have Hm2 := Aside0.mk (blk_below Hm1.out hb)
  have Hn2 := Aside0.mk (blk_below Hn1.out hb)
  have HBS := Aside0.mk hbs
  clear hb hbs
  obtain ⟨m0, m1, m2, m3, m4, m5, m6⟩ := ncells Hm2.out
  obtain ⟨n0, n1, n2, n3, n4, n5, n6⟩ := ncells Hn2.out
  cases bs with
  | false =>
    go_wp2_with fail
    go_ret
    exact ⟨⟨false, rfl, fun h => HBS.out (by rw [h])⟩, HB2.out⟩
  | true =>
    by_cases hl : (x.f3.length : Int) = (y.f3.length : Int)
    rotate_left
    · have HL := Aside0.mk hl
      have e1 : ((x.f3.length : Int) == (y.f3.length : Int)) = false := by simpa using hl
      have e2 : ((x.f3.length : Int) != (y.f3.length : Int)) = true := by simpa using hl
      clear hl
      go_wp2_with fail
      go_ret
      exact ⟨⟨false, rfl, fun h => absurd (by rw [h]) HL.out⟩, HB2.out⟩
    have HL := Aside0.mk (show x.f3.length = y.f3.length by omega)
    have e1 : ((x.f3.length : Int) == (y.f3.length : Int)) = true := by simpa using hl
    have e2 : ((x.f3.length : Int) != (y.f3.length : Int)) = false := by simpa using hl
    clear hl
    go_wp2_with fail
    clear m0 m1 m2 m3 m4 m5 m6 n0 n1 n2 n3 n4 n5 n6
    go_loopg [5] x.f3.length (fun q v5 wr => ∃ i : Nat, v5 = .int .i64 i ∧ Aside0 (q + i = x.f3.length) ∧ Aside0 (Below w.heap.size w wr) ∧ Aside0 (wr.heap[w.heap.size]? = some (.cells #[.int .i64 x.f0, .int .i64 x.f1, .bool x.f2.f0, .slice A3a x.f2.f1.length c3a, .bool x.f2.f2, .slice A5a x.f2.f3.length c5a, .slice A6a x.f3.length c6a] 28 (0, 0))) ∧ Aside0 (wr.heap[w.heap.size + 1]? = some (.cells #[.int .i64 y.f0, .int .i64 y.f1, .bool y.f2.f0, .slice A3b y.f2.f1.length c3b, .bool y.f2.f2, .slice A5b y.f2.f3.length c5b, .slice A6b y.f3.length c6b] 28 (0, 0))))
    case atStart => exact ⟨0, rfl, ⟨by omega⟩, HB2, Hm2, Hn2⟩
    case round =>
      obtain ⟨i, rfl, HQ, HB3, Hm3, Hn3⟩ := hrel
      obtain ⟨wl, hwl⟩ : ∃ wl : World, wl = wr := ⟨_, rfl⟩
      subst hwl
      obtain ⟨m0, m1, m2, m3, m4, m5, m6⟩ := ncells Hm3.out
      obtain ⟨n0, n1, n2, n3, n4, n5, n6⟩ := ncells Hn3.out
      by_cases hi : i < x.f3.length
      · have hi' : (i : Int) < (x.f3.length : Int) := by omega
        have hj : i < y.f3.length := by have := HL.out; omega
        have hj' : (i : Int) < (y.f3.length : Int) := by omega
        obtain ⟨ad, E3, Ec3, E5, Ec5, E6, Ec6, ead, p0, p1, p2, p3, p4, p5, p6, s3, f3, s5, f5, s6, f6⟩ := at_T28 (Kd.C_below G6.out HB3.out) (i : Int) (by omega) (by omega)
        obtain ⟨ae, F3, Fc3, F5, Fc5, F6, Fc6, eae, q0, q1, q2, q3, q4, q5, q6, t3, o3, t5, o5, t6, o6⟩ := at_T28 (Kd.C_below K6.out HB3.out) (i : Int) (by omega) (by omega)
        cases ead
        cases eae
        rw [Int.toNat_natCast] at p0 p1 p2 p3 p4 p5 p6 q0 q1 q2 q3 q4 q5 q6
        have hmx : rd_T28 x.f3 (i : Int) ∈ x.f3 := by rw [rd28_mem x.f3 i hi]; exact List.getElem_mem hi
        have HXY := Aside0.mk (show x.f3 = y.f3 → rd_T28 x.f3 (i : Int) = rd_T28 y.f3 (i : Int) from fun h => by rw [h])
        generalize rd_T28 x.f3 (i : Int) = xi at *
        generalize rd_T28 y.f3 (i : Int) = yi at *
        have HMX := Aside0.mk hmx
        have HXX := Aside0.mk (show XR wl (.agg #[.int .i64 xi.f0, .int .i64 xi.f1, .bool xi.f2.f0, .slice E3 xi.f2.f1.length Ec3, .bool xi.f2.f2, .slice E5 xi.f2.f3.length Ec5, .slice E6 xi.f3.length Ec6]) xi from ⟨E3, Ec3, E5, Ec5, E6, Ec6, rfl, s3, f3, s5, f5, s6, f6⟩)
        have HYY := Aside0.mk (show XR wl (.agg #[.int .i64 yi.f0, .int .i64 yi.f1, .bool yi.f2.f0, .slice F3 yi.f2.f1.length Fc3, .bool yi.f2.f2, .slice F5 yi.f2.f3.length Fc5, .slice F6 yi.f3.length Fc6]) yi from ⟨F3, Fc3, F5, Fc5, F6, Fc6, rfl, t3, o3, t5, o5, t6, o6⟩)
        clear hmx s3 f3 s5 f5 s6 f6 t3 o3 t5 o5 t6 o6
        clear m0 m1 m2 m3 m4 m5 n0 n1 n2 n3 n4 n5
        go_upto_region 6 with fail
        first | (go_region_held3 (fun w' => w'.cell? ⟨w.heap.size, 6, none⟩ = some (.slice (some ad) x.f3.length c6a) ∧ w'.cell? ⟨w.heap.size + 1, 6, none⟩ = some (.slice (some ae) y.f3.length c6b) ∧ w'.cell? (ad.add (i * 7)) = some (.int .i64 xi.f0) ∧ w'.cell? ⟨(ad.add (i * 7)).block, (ad.add (i * 7)).off + 1, none⟩ = some (.int .i64 xi.f1) ∧ w'.cell? ⟨(ad.add (i * 7)).block, (ad.add (i * 7)).off + 2, none⟩ = some (.bool xi.f2.f0) ∧ w'.cell? ⟨(ad.add (i * 7)).block, (ad.add (i * 7)).off + 3, none⟩ = some (.slice E3 xi.f2.f1.length Ec3) ∧ w'.cell? ⟨(ad.add (i * 7)).block, (ad.add (i * 7)).off + 4, none⟩ = some (.bool xi.f2.f2) ∧ w'.cell? ⟨(ad.add (i * 7)).block, (ad.add (i * 7)).off + 5, none⟩ = some (.slice E5 xi.f2.f3.length Ec5) ∧ w'.cell? ⟨(ad.add (i * 7)).block, (ad.add (i * 7)).off + 6, none⟩ = some (.slice E6 xi.f3.length Ec6) ∧ w'.cell? (ae.add (i * 7)) = some (.int .i64 yi.f0) ∧ w'.cell? ⟨(ae.add (i * 7)).block, (ae.add (i * 7)).off + 1, none⟩ = some (.int .i64 yi.f1) ∧ w'.cell? ⟨(ae.add (i * 7)).block, (ae.add (i * 7)).off + 2, none⟩ = some (.bool yi.f2.f0) ∧ w'.cell? ⟨(ae.add (i * 7)).block, (ae.add (i * 7)).off + 3, none⟩ = some (.slice F3 yi.f2.f1.length Fc3) ∧ w'.cell? ⟨(ae.add (i * 7)).block, (ae.add (i * 7)).off + 4, none⟩ = some (.bool yi.f2.f2) ∧ w'.cell? ⟨(ae.add (i * 7)).block, (ae.add (i * 7)).off + 5, none⟩ = some (.slice F5 yi.f2.f3.length Fc5) ∧ w'.cell? ⟨(ae.add (i * 7)).block, (ae.add (i * 7)).off + 6, none⟩ = some (.slice F6 yi.f3.length Fc6)) (first | assumption | exact ⟨m6, n6, p0, p1, p2, p3, p4, p5, p6, q0, q1, q2, q3, q4, q5, q6⟩ | exact ⟨a_m6, a_n6, a_p0, a_p1, a_p2, a_p3, a_p4, a_p5, a_p6, a_q0, a_q1, a_q2, a_q3, a_q4, a_q5, a_q6⟩ | (refine ⟨?_, ?_, ?_, ?_, ?_, ?_, ?_, ?_, ?_, ?_, ?_, ?_, ?_, ?_, ?_, ?_⟩ <;> assumption)) (first | (go_at_call 26; (with_reducible refine (IH.out (sz xi) (by rw [← HM.out]; exact sub_lt HMX.out) xi yi _ _ _ rfl (HF.out.sub HMX.out) (HXX.out.below (below_drew (Below.refl _ _))) (HYY.out.below (below_drew (Below.refl _ _)))).mono ?_); rintro e' v4 ⟨⟨b, rfl, hbb⟩, hb8⟩; have a_m6 := pw_cell_below hb8 (show (wl.drew).cell? ⟨w.heap.size, 6, none⟩ = some (.slice (some ad) x.f3.length c6a) from m6); have a_n6 := pw_cell_below hb8 (show (wl.drew).cell? ⟨w.heap.size + 1, 6, none⟩ = some (.slice (some ae) y.f3.length c6b) from n6); have a_p0 := pw_cell_below hb8 (show (wl.drew).cell? (ad.add (i * 7)) = some (.int .i64 xi.f0) from p0); have a_p1 := pw_cell_below hb8 (show (wl.drew).cell? ⟨(ad.add (i * 7)).block, (ad.add (i * 7)).off + 1, none⟩ = some (.int .i64 xi.f1) from p1); have a_p2 := pw_cell_below hb8 (show (wl.drew).cell? ⟨(ad.add (i * 7)).block, (ad.add (i * 7)).off + 2, none⟩ = some (.bool xi.f2.f0) from p2); have a_p3 := pw_cell_below hb8 (show (wl.drew).cell? ⟨(ad.add (i * 7)).block, (ad.add (i * 7)).off + 3, none⟩ = some (.slice E3 xi.f2.f1.length Ec3) from p3); have a_p4 := pw_cell_below hb8 (show (wl.drew).cell? ⟨(ad.add (i * 7)).block, (ad.add (i * 7)).off + 4, none⟩ = some (.bool xi.f2.f2) from p4); have a_p5 := pw_cell_below hb8 (show (wl.drew).cell? ⟨(ad.add (i * 7)).block, (ad.add (i * 7)).off + 5, none⟩ = some (.slice E5 xi.f2.f3.length Ec5) from p5); have a_p6 := pw_cell_below hb8 (show (wl.drew).cell? ⟨(ad.add (i * 7)).block, (ad.add (i * 7)).off + 6, none⟩ = some (.slice E6 xi.f3.length Ec6) from p6); have a_q0 := pw_cell_below hb8 (show (wl.drew).cell? (ae.add (i * 7)) = some (.int .i64 yi.f0) from q0); have a_q1 := pw_cell_below hb8 (show (wl.drew).cell? ⟨(ae.add (i * 7)).block, (ae.add (i * 7)).off + 1, none⟩ = some (.int .i64 yi.f1) from q1); have a_q2 := pw_cell_below hb8 (show (wl.drew).cell? ⟨(ae.add (i * 7)).block, (ae.add (i * 7)).off + 2, none⟩ = some (.bool yi.f2.f0) from q2); have a_q3 := pw_cell_below hb8 (show (wl.drew).cell? ⟨(ae.add (i * 7)).block, (ae.add (i * 7)).off + 3, none⟩ = some (.slice F3 yi.f2.f1.length Fc3) from q3); have a_q4 := pw_cell_below hb8 (show (wl.drew).cell? ⟨(ae.add (i * 7)).block, (ae.add (i * 7)).off + 4, none⟩ = some (.bool yi.f2.f2) from q4); have a_q5 := pw_cell_below hb8 (show (wl.drew).cell? ⟨(ae.add (i * 7)).block, (ae.add (i * 7)).off + 5, none⟩ = some (.slice F5 yi.f2.f3.length Fc5) from q5); have a_q6 := pw_cell_below hb8 (show (wl.drew).cell? ⟨(ae.add (i * 7)).block, (ae.add (i * 7)).off + 6, none⟩ = some (.slice F6 yi.f3.length Fc6) from q6); have HB4 := Aside0.mk (below_step (below_drew HB3.out) hb8); have Hm4 := Aside0.mk (blk_below (show (wl.drew).heap[w.heap.size]? = some (.cells #[.int .i64 x.f0, .int .i64 x.f1, .bool x.f2.f0, .slice A3a x.f2.f1.length c3a, .bool x.f2.f2, .slice A5a x.f2.f3.length c5a, .slice (some ad) x.f3.length c6a] 28 (0, 0)) from Hm3.out) hb8); have Hn4 := Aside0.mk (blk_below (show (wl.drew).heap[w.heap.size + 1]? = some (.cells #[.int .i64 y.f0, .int .i64 y.f1, .bool y.f2.f0, .slice A3b y.f2.f1.length c3b, .bool y.f2.f2, .slice A5b y.f2.f3.length c5b, .slice (some ae) y.f3.length c6b] 28 (0, 0)) from Hn3.out) hb8); have HBB := Aside0.mk hbb; clear hb8 hbb))) | fail
        clear m6 n6 p0 p1 p2 p3 p4 p5 p6 q0 q1 q2 q3 q4 q5 q6 a_m6 a_n6 a_p0 a_p1 a_p2 a_p3 a_p4 a_p5 a_p6 a_q0 a_q1 a_q2 a_q3 a_q4 a_q5 a_q6
        cases b with
        | false =>
          go_wp2_with fail
          go_ret
          exact ⟨⟨false, rfl, fun h => HBB.out (HXY.out (by rw [h]))⟩, HB4.out⟩
        | true =>
          go_wp2_with fail
          go_roundg (x.f3.length - (i + 1))
          case measure => have := HQ.out; omega
          case rel => exact ⟨i + 1, by go_num, ⟨by omega⟩, HB4, Hm4, Hn4⟩
      · have hi' : ¬ (i : Int) < (x.f3.length : Int) := by omega
        clear hi
        go_wp2_with fail
        go_ret
        exact ⟨⟨true, rfl, fun _ => rfl⟩, HB3.out⟩
end Go.Proofs.Ytjkhajcngapjcaa.Q
