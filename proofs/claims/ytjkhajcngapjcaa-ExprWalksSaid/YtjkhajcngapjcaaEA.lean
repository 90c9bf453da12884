/- expr.all, expr.Right: what they come to. -/
import Derived.Test.YtjkhajcngapjcaaEO
import Derived.Test.YtjkhajcngapjcaaEM
import Derived.Outline
namespace Go.Proofs.Ytjkhajcngapjcaa.Q
open Go.RowKit Go.Proofs.YtjkhajcngapjcaaW.PrintWords Go.Proofs.YtjkhajcngapjcaaW.PrintLast Go.Proofs.YtjkhajcngapjcaaW.PrintMore
set_option linter.unusedVariables false
set_option linter.unusedSimpArgs false

set_option maxHeartbeats 4000000 in
set_option maxRecDepth 100000 in
theorem all_any (m : Nat) : ∀ (x : S28) (p : Addr) (w : World), sz x = m → Each (fun y => FineS y.f2) x → NodeAt w p x →
    Calls Try.prog 30 #[.pointer (some p)] w fun e w' => e = .returned (.bool (allT x)) ∧ Below w.heap.size w w' := by
  induction m using Nat.strongRecOn with
  | _ m ih =>
  intro x p w hm hF hN
  have IH := Aside0.mk ih
  have HM := Aside0.mk hm
  have HF := Aside0.mk hF
  have HN := Aside0.mk hN
  have HT := Aside0.mk (allT_eq x)
  obtain ⟨A3, c3, A5, c5, A6, c6, h0, h1, h2, h3, h4, h5, h6, l3, g3, l5, g5, l6, g6⟩ := HN.out
  have HK := Aside0.mk g6
  have HK6 := Aside0.mk h6
  have HLEN := Aside0.mk (show (x.f3.length : Int) ≤ 9223372036854775807 by have := g6.2.1; omega)
  have hlen := HLEN.out
  clear ih hm hF hN h0 h1 h2 h3 h4 h5 l3 g3 l5 g5 l6 g6
  generalize allT x = res at *
  go_enter Try.func30, Try.ntmps30
  go_wp2_with fail
  go_loopg [9] x.f3.length (fun q v9 wr => ∃ (i : Nat), v9 = .int .i64 i ∧ q + i = x.f3.length ∧ Aside0 (Below w.heap.size w wr) ∧ Aside0 (allL x.f3 = allL (x.f3.drop i)))
  case atStart => exact ⟨0, rfl, by omega, ⟨Below.refl _ _⟩, ⟨by rw [List.drop_zero]⟩⟩
  case round =>
    clear h6
    obtain ⟨i, rfl, hq, HB, HL⟩ := hrel
    have HQ := Aside0.mk hq
    clear hq
    obtain ⟨wl, hwl⟩ : ∃ wl : World, wl = wr := ⟨_, rfl⟩
    subst hwl
    by_cases hi : i < x.f3.length
    · have hi' : (i : Int) < (x.f3.length : Int) := by omega
      obtain ⟨ad, e, hsub⟩ := node_sub HK.out (i : Int) (by omega) (by omega)
      cases e
      rw [Int.toNat_natCast] at hsub
      have hmem := rd28_in x.f3 i hi
      have HLC := Aside0.mk (allL_drop x.f3 i hi)
      generalize rd_T28 x.f3 (i : Int) = y at *
      have HLT := Aside0.mk (show sz y < m by rw [← HM.out]; exact sub_lt hmem)
      have HSUB := Aside0.mk (hsub.below HB.out)
      have HFY := Aside0.mk (HF.out.sub hmem)
      have h6 := pw_cell_below HB.out HK6.out
      clear hmem hsub
      go_wp2_with fail
      refine (IH.out (sz y) HLT.out y (ad.add (i * 7)) _ rfl HFY.out HSUB.out).mono ?_
      rintro e w2 ⟨rfl, hb2⟩
      have HB2 := Aside0.mk (below_step HB.out hb2)
      clear hb2 h6
      cases hy : allT y with
      | false =>
        have HY := Aside0.mk hy
        clear hy
        go_wp2_with fail
        go_ret
        exact ⟨ret_bool (by rw [HT.out, HL.out, HLC.out, HY.out]; simp), HB2.out⟩
      | true =>
        have HY := Aside0.mk hy
        clear hy
        go_wp2_with fail
        go_roundg (x.f3.length - (i + 1))
        case measure => have := HQ.out; omega
        case rel => exact ⟨i + 1, by go_num, by omega, HB2, ⟨by rw [HL.out, HLC.out, HY.out, Bool.true_and]⟩⟩
    · have hi' : ¬ (i : Int) < (x.f3.length : Int) := by omega
      have HI := Aside0.mk hi
      clear hi
      go_wp2_with fail
      refine (one_any x p _ HF.out.here (HN.out.below HB.out)).mono ?_
      rintro e w2 ⟨rfl, hb2⟩
      have HB2 := Aside0.mk (below_step HB.out hb2)
      clear hb2
      go_wp2_with fail
      go_ret
      refine ⟨ret_bool ?_, HB2.out⟩
      rw [HT.out, HL.out, List.drop_of_length_le (by have := HI.out; omega)]
      simp only [allL, Bool.true_and]

set_option maxHeartbeats 4000000 in
set_option maxRecDepth 100000 in
theorem right_any (x : S28) (v : Value) (w : World) (hF : Each (fun y => FineS y.f2) x) (hx : XR w v x) : Calls Try.prog 15 #[v] w fun e w' => e = .returned (.bool (rightT x)) ∧ Below w.heap.size w w' := by
  have HF := Aside0.mk hF
  have HX := Aside0.mk hx
  obtain ⟨A3, c3, A5, c5, A6, c6, rfl, l3, g3, l5, g5, l6, g6⟩ := hx
  have G3 := Aside0.mk g3
  have G5 := Aside0.mk g5
  have G6 := Aside0.mk g6
  have L3 := Aside0.mk l3
  have L5 := Aside0.mk l5
  have L6 := Aside0.mk l6
  clear l3 g3 l5 g5 l6 g6 hF
  have HS := Aside0.mk (sz_pos x)
  have HR : Aside0 (rightT x = (fitsT x && allT x)) := ⟨rfl⟩
  go_enter Try.func15, Try.ntmps15
  go_wp2_with fail
  obtain ⟨wb, hwb⟩ : ∃ wb : World, wb = w.alloc (.cells #[.int .i64 x.f0, .int .i64 x.f1, .bool x.f2.f0, .slice A3 x.f2.f1.length c3, .bool x.f2.f2, .slice A5 x.f2.f3.length c5, .slice A6 x.f3.length c6] 28) := ⟨_, rfl⟩
  have HN := Aside0.mk (show NodeAt wb ⟨w.heap.size, 0, none⟩ x by
    rw [hwb]
    exact node_box (heap_alloc_new w _) L3.out (Kd.C_alloc G3.out _) L5.out (Kd.C_alloc G5.out _) L6.out (Kd.C_alloc G6.out _))
  have HBW := Aside0.mk (show Below w.heap.size w wb by rw [hwb]; exact below_alloc (Below.refl _ _) _)
  rw [← hwb]
  clear hwb
  refine (size_any x _ wb ⟨A3, c3, A5, c5, A6, c6, rfl, L3.out, Kd.C_below G3.out HBW.out, L5.out, Kd.C_below G5.out HBW.out, L6.out, Kd.C_below G6.out HBW.out⟩).mono ?_
  rintro e w1 ⟨rfl, hb1⟩
  have HB1 := Aside0.mk (below_step HBW.out hb1)
  have HN1 := Aside0.mk (HN.out.below hb1)
  clear hb1
  cases hf : fitsT x with
  | false =>
    have hz : szI x = 0 := by unfold szI; rw [hf]; rfl
    rw [hz]
    have HZ := Aside0.mk hf
    clear hz hf
    go_wp2_with fail
    go_ret
    exact ⟨ret_bool (by rw [HR.out, HZ.out]; rfl), HB1.out⟩
  | true =>
    have hz : szI x = (sz x : Int) := by unfold szI; rw [if_pos hf]
    rw [hz]
    have HZ := Aside0.mk hf
    have hpos : (0 : Int) < (sz x : Int) := by have := HS.out; omega
    clear hz hf
    go_wp2_with fail
    refine (all_any _ x _ _ rfl HF.out HN1.out).mono ?_
    rintro e w2 ⟨rfl, hb2⟩
    have HB2 := Aside0.mk (below_step HB1.out hb2)
    clear hb2
    go_wp2_with fail
    go_ret
    exact ⟨ret_bool (by rw [HR.out, HZ.out]; rfl), HB2.out⟩
end Go.Proofs.Ytjkhajcngapjcaa.Q
