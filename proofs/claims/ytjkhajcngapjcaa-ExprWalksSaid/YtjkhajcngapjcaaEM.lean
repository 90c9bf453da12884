/- expr.measure and expr.Size: what they come to. -/
import Derived.Test.YtjkhajcngapjcaaEN
import Derived.Outline
namespace Go.Proofs.Ytjkhajcngapjcaa.Q
open Go.RowKit Go.Proofs.YtjkhajcngapjcaaW.PrintWords Go.Proofs.YtjkhajcngapjcaaW.PrintLast Go.Proofs.YtjkhajcngapjcaaW.PrintMore
attribute [local go_sem] max2_int min2_int max_two min_two max_three min_three max_four min_four
set_option linter.unusedVariables false
set_option linter.unusedSimpArgs false

theorem blk_put {w : World} {pb : Nat} {u v : Value} (h : w.heap[pb]? = some (.cells #[u] 3 (0, 0))) : (w.setCell ⟨pb, 0, none⟩ v).heap[pb]? = some (.cells #[v] 3 (0, 0)) := by
  simp [World.setCell, Array.getElem?_modify, h]
theorem grown_put (w : World) (pb : Nat) (v : Value) : w.grownBy (w.setCell ⟨pb, 0, none⟩ v) (some pb) :=
  ⟨rfl, rfl, rfl, by simp [World.setCell], fun k _ hn => Below.heap_setCell _ _ _ _ (fun e => hn (by rw [e]))⟩

set_option maxHeartbeats 8000000 in
set_option maxRecDepth 100000 in
theorem measure_any (m : Nat) : ∀ (x : S28) (lf n : Int) (p : Addr) (pb : Nat) (w0 w : World), sz x = m → 0 ≤ lf → lf ≤ 8 → 0 ≤ n → n ≤ 40 → NodeAt w0 p x → Below w0.heap.size w0 w → w0.heap.size ≤ pb → w.heap[pb]? = some (.cells #[.int .i64 n] 3 (0, 0)) →
    Calls Try.prog 29 #[.pointer (some p), .int .i64 lf, .pointer (some ⟨pb, 0, none⟩)] w fun e w' => e = .returned (.tuple #[.int .i64 (measT x lf.toNat n).d, .bool (measT x lf.toNat n).ok]) ∧ w'.heap[pb]? = some (.cells #[.int .i64 (measT x lf.toNat n).n] 3 (0, 0)) ∧ w.grownBy w' (some pb) := by
  induction m using Nat.strongRecOn with
  | _ m ih =>
  intro x lf n p pb w0 w hm hl0 hl8 hn0 hn40 hN hB hpb hc
  have IH := Aside0.mk ih
  have HM := Aside0.mk hm
  have HN := Aside0.mk hN
  have HB := Aside0.mk hB
  have HPB := Aside0.mk hpb
  have HC := Aside0.mk hc
  have hcp : w.cell? ⟨pb, 0, none⟩ = some (.int .i64 n) := (blk_cell hc 0).trans rfl
  have hfp : w.frozen? ⟨pb, 0, none⟩ = false := blk_frozen hc 0
  have hltp : pb < w.heap.size := (Array.getElem?_eq_some_iff.1 hc).1
  clear ih hm hN hB hpb hc
  have HB1 := Aside0.mk (pw_below_grown HB.out (some pb) HB.out.size (grown_put w pb (.int .i64 (n + 1))) (fun k hk => by cases hk; exact HPB.out))
  by_cases hcase : lf = 0 ∨ n + 1 > 40
  · have hE : measT x lf.toNat n = ⟨n + 1, 0, false⟩ := by rw [measT_eq, if_pos (by omega)]
    rw [hE]
    have HE := Aside0.mk hE
    clear hE
    by_cases hz : lf = 0
    · subst hz
      go_enter Try.func29, Try.ntmps29
      go_wp2_with fail
      go_ret2
      exact ⟨rfl, blk_put HC.out, grown_put _ _ _⟩
    · have hlb : (lf == 0) = false := by simpa using hz
      have hgt : 40 < n + 1 := by omega
      have HZ := Aside0.mk hz
      clear hcase hz
      go_enter Try.func29, Try.ntmps29
      go_wp2_with fail
      go_ret2
      exact ⟨rfl, blk_put HC.out, grown_put _ _ _⟩
  · have hE : measT x lf.toNat n = measL x.f3 (lf.toNat - 1) (n + 1) 0 := by rw [measT_eq, if_neg (by omega)]
    rw [hE]
    have hlb : (lf == 0) = false := by simp; omega
    have hgt : ¬ 40 < n + 1 := by omega
    have hlo : 1 ≤ lf := by omega
    have hn1 : n + 1 ≤ 40 := by omega
    have HE := Aside0.mk hE
    clear hE hcase
    obtain ⟨A3, c3, A5, c5, A6, c6, h0, h1, h2, h3, h4, h5, k6, l3, g3, l5, g5, l6, g6⟩ := HN.out
    have HK := Aside0.mk g6
    have HK6 := Aside0.mk k6
    have h6 := pw_cell_below HB1.out k6
    have hlen : (x.f3.length : Int) ≤ 9223372036854775807 := by have := g6.2.1; omega
    have HLEN := Aside0.mk hlen
    clear h0 h1 h2 h3 h4 h5 l3 g3 l5 g5 g6 k6
    generalize hR : measL x.f3 (lf.toNat - 1) (n + 1) 0 = R at *
    have HR := Aside0.mk hR
    clear hR
    go_enter Try.func29, Try.ntmps29
    go_wp2_with fail
    go_loopg [6, 29] x.f3.length (fun q v6 v29 wr => ∃ (i : Nat) (n' d : Int), v6 = .int .i64 d ∧ v29 = .int .i64 i ∧ Aside0 (q + i = x.f3.length) ∧ 0 ≤ n' ∧ n' ≤ 40 ∧ 0 ≤ d ∧ d ≤ lf ∧ Aside0 (wr.heap[pb]? = some (.cells #[.int .i64 n'] 3 (0, 0))) ∧ Aside0 (w.grownBy wr (some pb)) ∧ Aside0 (Below w0.heap.size w0 wr) ∧ Aside0 (measL (x.f3.drop i) (lf.toNat - 1) n' d = R))
    case atStart => exact ⟨0, n + 1, 0, rfl, rfl, ⟨by omega⟩, by omega, by omega, by omega, by omega, ⟨blk_put HC.out⟩, ⟨grown_put _ _ _⟩, HB1, ⟨by simpa using HR.out⟩⟩
    case round =>
      clear h6 hcp hfp hltp hn0 hn40 hgt hn1
      obtain ⟨i, n', d, rfl, rfl, HQ, hn0, hn40, hd0, hd1, HCR, HG, HBR, HL⟩ := hrel
      by_cases hi : i < x.f3.length
      · have hi' : (i : Int) < (x.f3.length : Int) := by omega
        obtain ⟨ad, e, hsub⟩ := node_sub HK.out (i : Int) (by omega) (by omega)
        cases e
        rw [Int.toNat_natCast] at hsub
        have hl := HL.out
        rw [drop28 x.f3 i hi] at hl
        have hmem : rd_T28 x.f3 (i : Int) ∈ x.f3 := by rw [rd28_mem _ i hi]; exact List.getElem_mem hi
        generalize rd_T28 x.f3 (i : Int) = y at hsub hl hmem
        have hlt := sub_lt hmem
        rw [HM.out] at hlt
        simp only [measL] at hl
        have hbd := meas_n _ y (lf.toNat - 1) n' rfl hn0 (by omega)
        have HLT := Aside0.mk hlt
        have HSUB := Aside0.mk hsub
        have HY := Aside0.mk hl
        have h6 := pw_cell_below HBR.out HK6.out
        clear hl hmem hlt hsub
        go_wp2_with fail
        refine (IH.out (sz y) HLT.out y (lf - 1) n' (ad.add (i * 7)) pb w0 wr rfl (by omega) (by omega) hn0 hn40 HSUB.out HBR.out HPB.out HCR.out).mono ?_
        rw [show (lf - 1).toNat = lf.toNat - 1 by omega]
        generalize measT y (lf.toNat - 1) n' = M at *
        obtain ⟨Mn, Md, Mo⟩ := M
        simp only at hbd
        rintro e w2 ⟨rfl, hc2, hg2⟩
        have HC2 := Aside0.mk hc2
        have HG2 := Aside0.mk (World.grownBy.trans HG.out hg2)
        have HB2 := Aside0.mk (pw_below_grown HBR.out (some pb) HBR.out.size hg2 (fun k hk => by cases hk; exact HPB.out))
        clear hc2 hg2 h6
        have hY := HY.out
        simp only at hY
        have HY2 := Aside0.mk hY
        clear hY HY
        cases Mo with
        | false =>
          have hR2 : R = ⟨Mn, 0, false⟩ := by rw [← HY2.out]; rfl
          subst hR2
          go_wp2_with fail
          go_ret2
          exact ⟨rfl, HC2.out, HG2.out⟩
        | true =>
          have hY3 : measL (x.f3.drop (i + 1)) (lf.toNat - 1) Mn (max d Md) = R := by rw [← HY2.out]; rfl
          have HY3 := Aside0.mk hY3
          clear hY3 HY2
          obtain ⟨b1, b2, b3, b4, b5⟩ := hbd
          have b6 := b3 rfl
          clear b3 b2
          by_cases hmx : d < Md
          · have hM : max d Md = Md := by omega
            rw [hM] at HY3
            clear hM
            go_wp2_with fail
            go_roundg (x.f3.length - (i + 1))
            case measure => have := HQ.out; omega
            case rel => exact ⟨i + 1, Mn, Md, rfl, by go_num, ⟨by omega⟩, b1, b6, b4, by omega, HC2, HG2, HB2, HY3⟩
          · have hM : max d Md = d := by omega
            rw [hM] at HY3
            clear hM
            go_wp2_with fail
            go_roundg (x.f3.length - (i + 1))
            case measure => have := HQ.out; omega
            case rel => exact ⟨i + 1, Mn, d, rfl, by go_num, ⟨by omega⟩, b1, b6, hd0, hd1, HC2, HG2, HB2, HY3⟩
      · have hi' : ¬ (i : Int) < (x.f3.length : Int) := by omega
        have hR2 : R = ⟨n', d + 1, true⟩ := by
          rw [← HL.out, List.drop_of_length_le (by omega)]; rfl
        subst hR2
        go_wp2_with fail
        go_ret2
        exact ⟨rfl, HCR.out, HG.out⟩

/-- What Size tells. -/
def szI (x : S28) : Int := if fitsT x = true then (sz x : Int) else 0
def dpI (x : S28) : Int := if fitsT x = true then (dp x : Int) else 0
set_option maxHeartbeats 4000000 in
set_option maxRecDepth 100000 in
theorem size_any (x : S28) (v : Value) (w : World) (hx : XR w v x) : Calls Try.prog 11 #[v] w fun e w' => e = .returned (.tuple #[.int .i64 (szI x), .int .i64 (dpI x)]) ∧ Below w.heap.size w w' := by
  obtain ⟨A3, c3, A5, c5, A6, c6, rfl, l3, g3, l5, g5, l6, g6⟩ := hx
  have G3 := Aside0.mk g3
  have G5 := Aside0.mk g5
  have G6 := Aside0.mk g6
  have L3 := Aside0.mk l3
  have L5 := Aside0.mk l5
  have L6 := Aside0.mk l6
  have hms := meas_top x
  have HMS := Aside0.mk hms
  clear hms l3 g3 l5 g5 l6 g6
  go_enter Try.func11, Try.ntmps11
  go_wp2_with fail
  obtain ⟨wb, hwb⟩ : ∃ wb : World, wb = w.alloc (.cells #[.int .i64 x.f0, .int .i64 x.f1, .bool x.f2.f0, .slice A3 x.f2.f1.length c3, .bool x.f2.f2, .slice A5 x.f2.f3.length c5, .slice A6 x.f3.length c6] 28) := ⟨_, rfl⟩
  have HN := Aside0.mk (show NodeAt wb ⟨w.heap.size, 0, none⟩ x by
    rw [hwb]
    exact node_box (heap_alloc_new w _) L3.out (Kd.C_alloc G3.out _) L5.out (Kd.C_alloc G5.out _) L6.out (Kd.C_alloc G6.out _))
  have hsz : w.heap.size + 1 = wb.heap.size := by rw [hwb]; simp
  have HBW := Aside0.mk (show Below w.heap.size w wb by rw [hwb]; exact below_alloc (Below.refl _ _) _)
  rw [← hwb, hsz]
  have HSZ := Aside0.mk hsz
  clear hwb hsz
  refine (measure_any _ x 8 0 ⟨w.heap.size, 0, none⟩ wb.heap.size wb _ rfl (by omega) (by omega) (by omega) (by omega) HN.out (below_alloc (Below.refl _ _) _) (Nat.le_refl _) (heap_alloc_new wb _)).mono ?_
  rw [show (8 : Int).toNat = 8 from rfl]
  obtain ⟨hm1, hm2⟩ := HMS.out
  generalize measT x 8 0 = M at *
  obtain ⟨Mn, Md, Mo⟩ := M
  simp only at hm1 hm2
  rintro e w2 ⟨rfl, hc2, hg2⟩
  have HC2 := Aside0.mk hc2
  have HB2 := Aside0.mk (below_step HBW.out (pw_below_grown (below_alloc (Below.refl wb.heap.size wb) (.cells #[.int .i64 0] 3)) (some wb.heap.size) (by simp) hg2 (fun k hk => by cases hk; exact Nat.le_refl _)))
  have HLE := Aside0.mk HBW.out.size
  simp only at hc2
  have hcp : w2.cell? ⟨wb.heap.size, 0, none⟩ = some (.int .i64 Mn) := (blk_cell hc2 0).trans rfl
  have hfp : w2.frozen? ⟨wb.heap.size, 0, none⟩ = false := blk_frozen hc2 0
  have HM1 := Aside0.mk hm1
  have HM2 := Aside0.mk hm2
  clear hc2 hg2 hm1 hm2
  cases Mo with
  | false =>
    go_wp2_with fail
    have hcs : (w2.setCell ⟨wb.heap.size, 0, none⟩ (.int .i64 0)).cell? ⟨wb.heap.size, 0, none⟩ = some (.int .i64 0) := (blk_cell (blk_put HC2.out) 0).trans rfl
    have hf : fitsT x = false := HM1.out.symm
    refine bodyPost_ret (v := .tuple #[.int .i64 0, .int .i64 0]) (by simp [results, Try.results11, go_sem, hcs]) rfl ⟨?_, below_set HB2.out HLE.out⟩
    unfold szI dpI
    rw [hf]; rfl
  | true =>
    go_wp2_with fail
    have hcs : (w2.setCell ⟨wb.heap.size, 0, none⟩ (.int .i64 Mn)).cell? ⟨wb.heap.size, 0, none⟩ = some (.int .i64 Mn) := (blk_cell (blk_put HC2.out) 0).trans rfl
    have hf : fitsT x = true := HM1.out.symm
    have hv := HM2.out hf
    refine bodyPost_ret (v := .tuple #[.int .i64 Mn, .int .i64 Md]) (by simp [results, Try.results11, go_sem, hcs]) rfl ⟨?_, below_set HB2.out HLE.out⟩
    unfold szI dpI
    rw [if_pos hf, if_pos hf, hv.1, hv.2]
end Go.Proofs.Ytjkhajcngapjcaa.Q
