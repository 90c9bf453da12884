/- expr.eval, expr.Eval: what they come to; printed by gen_eval05.py. -/
import Derived.Test.YtjkhajcngapjcaaEA
import Derived.Test.YtjkhajcngapjcaaEE
import Derived.Outline
namespace Go.Proofs.Ytjkhajcngapjcaa.Q
open Go.RowKit Go.Proofs.YtjkhajcngapjcaaW.PrintWords Go.Proofs.YtjkhajcngapjcaaW.PrintLast Go.Proofs.YtjkhajcngapjcaaW.PrintMore
set_option linter.unusedVariables false
set_option linter.unusedSimpArgs false

/-- An event lies in a block of its own. -/
def EvAt (w : World) (b : Nat) (e : Nat → V3) : Prop := w.heap[b]? = some (.cells #[.int .i64 (e 0).k, .int .i64 (e 0).n, .string (e 0).t, .int .i64 (e 1).k, .int .i64 (e 1).n, .string (e 1).t, .int .i64 (e 2).k, .int .i64 (e 2).n, .string (e 2).t, .int .i64 (e 3).k, .int .i64 (e 3).n, .string (e 3).t] 32 (0, 0))
theorem EvAt.below {w w1 : World} {b : Nat} {e : Nat → V3} (h : EvAt w b e) (hb : Below w.heap.size w w1) : EvAt w1 b e := blk_below h hb
theorem oneT_kinds {x : S28} (h : oneT x = true) : x.f0 = 1 ∧ 0 ≤ x.f1 ∧ x.f1 < 4 ∨ x.f0 = 2 ∨ x.f0 = 3 ∨ x.f0 = 4 ∧ x.f3.length = 1 := by
  unfold oneT at h
  by_cases h1 : x.f0 = 1
  · rw [if_pos h1] at h
    simp only [Bool.and_eq_true, decide_eq_true_eq] at h
    exact .inl ⟨h1, h.1.1.1.1, h.1.1.1.2⟩
  · rw [if_neg h1] at h
    by_cases h2 : x.f0 = 2
    · exact .inr (.inl h2)
    · rw [if_neg h2] at h
      by_cases h3 : x.f0 = 3
      · exact .inr (.inr (.inl h3))
      · rw [if_neg h3] at h
        by_cases h4 : x.f0 = 4
        · rw [if_pos h4] at h
          simp only [Bool.and_eq_true, decide_eq_true_eq] at h
          exact .inr (.inr (.inr ⟨h4, h.2⟩))
        · rw [if_neg h4] at h; cases h
theorem allT_one {x : S28} (h : allT x = true) : oneT x = true := by rw [allT_eq, Bool.and_eq_true] at h; exact h.2
theorem allT_sub {x y : S28} (h : allT x = true) (hy : y ∈ x.f3) : allT y = true := by rw [allT_eq, Bool.and_eq_true] at h; exact allL_mem h.1 hy
/-- What a loop over the parts comes to. -/
def isLoop (e : Nat → V3) (k : Int) (l : List S28) : Bool := if k = 2 then isAll e l else if k = 3 then isAny e l else !(isAny e l)
theorem isLoop_eq (e : Nat → V3) (x : S28) (h1 : x.f0 ≠ 1) (h4 : x.f0 = 4 → x.f3.length = 1) (hk : x.f0 = 2 ∨ x.f0 = 3 ∨ x.f0 = 4) : isT e x = isLoop e x.f0 x.f3 := by
  rw [isT_eq, if_neg h1]
  unfold isLoop
  rcases hk with hk | hk | hk
  · rw [if_pos hk, if_pos hk]
  · have h2 : ¬ x.f0 = 2 := by omega
    rw [if_neg h2, if_pos hk, if_neg h2, if_pos hk]
  · have h2 : ¬ x.f0 = 2 := by omega
    have h3 : ¬ x.f0 = 3 := by omega
    rw [if_neg h2, if_neg h3, if_neg h2, if_neg h3]
    have hl := h4 hk
    generalize x.f3 = l at *
    match l, hl with
    | [y], _ => simp only [isFst, isAny, Bool.or_false]
theorem isLoop_hit {e : Nat → V3} {k : Int} {l : List S28} {i : Nat} {b : Bool} (hk : k = 2 ∨ k = 3 ∨ k = 4) (hi : i < l.length) (hb : isT e (rd_T28 l (i : Int)) = b) (hne : b ≠ decide (k = 2)) : isLoop e k (l.drop i) = decide (k = 3) := by
  have h1 := isAll_drop e l i hi
  have h2 := isAny_drop e l i hi
  rw [hb] at h1 h2
  unfold isLoop
  rw [h1, h2]
  rcases hk with rfl | rfl | rfl <;> cases b <;> simp at hne ⊢
theorem isLoop_miss {e : Nat → V3} {k : Int} {l : List S28} {i : Nat} {b : Bool} (hk : k = 2 ∨ k = 3 ∨ k = 4) (hi : i < l.length) (hb : isT e (rd_T28 l (i : Int)) = b) (hne : b = decide (k = 2)) : isLoop e k (l.drop i) = isLoop e k (l.drop (i + 1)) := by
  have h1 := isAll_drop e l i hi
  have h2 := isAny_drop e l i hi
  rw [hb] at h1 h2
  unfold isLoop
  rw [h1, h2]
  rcases hk with rfl | rfl | rfl <;> cases b <;> simp at hne ⊢
theorem isLoop_nil (e : Nat → V3) (k : Int) (hk : k = 2 ∨ k = 3 ∨ k = 4) : isLoop e k [] = decide (k ≠ 3) := by
  unfold isLoop
  rcases hk with rfl | rfl | rfl <;> simp [isAll, isAny]

set_option maxHeartbeats 8000000 in
set_option maxRecDepth 100000 in
theorem eval_any (e : Nat → V3) (m : Nat) : ∀ (x : S28) (p : Addr) (b : Nat) (w : World), sz x = m → Each (fun y => FineS y.f2) x → allT x = true → NodeAt w p x → EvAt w b e →
    Calls Try.prog 33 #[.pointer (some p), .pointer (some ⟨b, 0, none⟩)] w fun e' w' => e' = .returned (.bool (isT e x)) ∧ Below w.heap.size w w' := by
  induction m using Nat.strongRecOn with
  | _ m ih =>
  intro x p b w hm hF hA hN hE
  have IH := Aside0.mk ih
  have HM := Aside0.mk hm
  have HF := Aside0.mk hF
  have HN := Aside0.mk hN
  have HA := Aside0.mk hA
  have HE := Aside0.mk hE
  have hone := oneT_kinds (allT_one hA)
  have HT := Aside0.mk (isT_eq e x)
  have HTL := Aside0.mk (isLoop_eq e x)
  obtain ⟨A3, c3, A5, c5, A6, c6, h0, h1, h2, h3, h4, h5, h6, l3, g3, l5, g5, l6, g6⟩ := HN.out
  have G3 := Aside0.mk (And.intro l3 g3)
  have G5 := Aside0.mk (And.intro l5 g5)
  have HK := Aside0.mk g6
  have HLEN := Aside0.mk (show (x.f3.length : Int) ≤ 9223372036854775807 by have := g6.2.1; omega)
  clear ih hm hF hA hN hE l3 g3 l5 g5 l6 g6
  generalize hres : isT e x = res at *
  have HRES := Aside0.mk hres
  clear hres
  rcases hone with ⟨k1, ha0, ha4⟩ | hk
  · have K1 := Aside0.mk k1
    rw [k1] at h0
    have hjj : x.f1 = 0 ∨ x.f1 = 1 ∨ x.f1 = 2 ∨ x.f1 = 3 := by omega
    clear ha0 ha4 k1 h6
    rcases hjj with hj | hj | hj | hj
    · have HJ := Aside0.mk hj
      rw [hj] at h1
      clear hj
      obtain ⟨g0, g1, g2, g3, g4, g5, g6, g7, g8, g9, g10, g11⟩ := ecells HE.out
      clear g3 g4 g5 g6 g7 g8 g9 g10 g11
      have HBW := Aside0.mk (Below.refl w.heap.size w)
      go_enter Try.func33, Try.ntmps33
      go_wp2_with fail
      first | (go_region_held3 (fun w' => w'.cell? p = some (.int .i64 1) ∧ w'.cell? ⟨p.block, p.off + 1, none⟩ = some (.int .i64 0) ∧ w'.cell? ⟨p.block, p.off + 2, none⟩ = some (.bool x.f2.f0) ∧ w'.cell? ⟨p.block, p.off + 3, none⟩ = some (.slice A3 x.f2.f1.length c3) ∧ w'.cell? ⟨p.block, p.off + 4, none⟩ = some (.bool x.f2.f2) ∧ w'.cell? ⟨p.block, p.off + 5, none⟩ = some (.slice A5 x.f2.f3.length c5) ∧ w'.cell? ⟨b, 0, none⟩ = some (.int .i64 (e 0).k) ∧ w'.cell? ⟨b, 1, none⟩ = some (.int .i64 (e 0).n) ∧ w'.cell? ⟨b, 2, none⟩ = some (.string (e 0).t)) (first | assumption | exact ⟨h0, h1, h2, h3, h4, h5, g0, g1, g2⟩ | exact ⟨k0, k1, k2, k3, k4, k5, k6, k7, k8⟩ | (refine ⟨?_, ?_, ?_, ?_, ?_, ?_, ?_, ?_, ?_⟩ <;> assumption)) (first | (go_at_call 47; (with_reducible refine (has_any x.f2 (e 0) HF.out.here A3 c3 A5 c5 _ (Kd.C_below G3.out.2 (below_drew HBW.out)) G3.out.1 (Kd.C_below G5.out.2 (below_drew HBW.out)) G5.out.1).mono ?_); rintro e' w2 ⟨rfl, hb2⟩; have k0 := pw_cell_below hb2 (show w.drew.cell? _ = _ from h0); have k1 := pw_cell_below hb2 (show w.drew.cell? _ = _ from h1); have k2 := pw_cell_below hb2 (show w.drew.cell? _ = _ from h2); have k3 := pw_cell_below hb2 (show w.drew.cell? _ = _ from h3); have k4 := pw_cell_below hb2 (show w.drew.cell? _ = _ from h4); have k5 := pw_cell_below hb2 (show w.drew.cell? _ = _ from h5); have k6 := pw_cell_below hb2 (show w.drew.cell? _ = _ from g0); have k7 := pw_cell_below hb2 (show w.drew.cell? _ = _ from g1); have k8 := pw_cell_below hb2 (show w.drew.cell? _ = _ from g2); have HB2 := Aside0.mk (below_step (below_drew HBW.out) hb2); clear hb2))) | fail
      go_wp2_with fail
      go_ret
      exact ⟨ret_bool (by rw [HT.out, if_pos K1.out, HJ.out]; rfl), HB2.out⟩
    · have HJ := Aside0.mk hj
      rw [hj] at h1
      clear hj
      obtain ⟨g0, g1, g2, g3, g4, g5, g6, g7, g8, g9, g10, g11⟩ := ecells HE.out
      clear g0 g1 g2 g6 g7 g8 g9 g10 g11
      have HBW := Aside0.mk (Below.refl w.heap.size w)
      go_enter Try.func33, Try.ntmps33
      go_wp2_with fail
      first | (go_region_held3 (fun w' => w'.cell? p = some (.int .i64 1) ∧ w'.cell? ⟨p.block, p.off + 1, none⟩ = some (.int .i64 1) ∧ w'.cell? ⟨p.block, p.off + 2, none⟩ = some (.bool x.f2.f0) ∧ w'.cell? ⟨p.block, p.off + 3, none⟩ = some (.slice A3 x.f2.f1.length c3) ∧ w'.cell? ⟨p.block, p.off + 4, none⟩ = some (.bool x.f2.f2) ∧ w'.cell? ⟨p.block, p.off + 5, none⟩ = some (.slice A5 x.f2.f3.length c5) ∧ w'.cell? ⟨b, 3, none⟩ = some (.int .i64 (e 1).k) ∧ w'.cell? ⟨b, 4, none⟩ = some (.int .i64 (e 1).n) ∧ w'.cell? ⟨b, 5, none⟩ = some (.string (e 1).t)) (first | assumption | exact ⟨h0, h1, h2, h3, h4, h5, g3, g4, g5⟩ | exact ⟨k0, k1, k2, k3, k4, k5, k6, k7, k8⟩ | (refine ⟨?_, ?_, ?_, ?_, ?_, ?_, ?_, ?_, ?_⟩ <;> assumption)) (first | (go_at_call 47; (with_reducible refine (has_any x.f2 (e 1) HF.out.here A3 c3 A5 c5 _ (Kd.C_below G3.out.2 (below_drew HBW.out)) G3.out.1 (Kd.C_below G5.out.2 (below_drew HBW.out)) G5.out.1).mono ?_); rintro e' w2 ⟨rfl, hb2⟩; have k0 := pw_cell_below hb2 (show w.drew.cell? _ = _ from h0); have k1 := pw_cell_below hb2 (show w.drew.cell? _ = _ from h1); have k2 := pw_cell_below hb2 (show w.drew.cell? _ = _ from h2); have k3 := pw_cell_below hb2 (show w.drew.cell? _ = _ from h3); have k4 := pw_cell_below hb2 (show w.drew.cell? _ = _ from h4); have k5 := pw_cell_below hb2 (show w.drew.cell? _ = _ from h5); have k6 := pw_cell_below hb2 (show w.drew.cell? _ = _ from g3); have k7 := pw_cell_below hb2 (show w.drew.cell? _ = _ from g4); have k8 := pw_cell_below hb2 (show w.drew.cell? _ = _ from g5); have HB2 := Aside0.mk (below_step (below_drew HBW.out) hb2); clear hb2))) | fail
      go_wp2_with fail
      go_ret
      exact ⟨ret_bool (by rw [HT.out, if_pos K1.out, HJ.out]; rfl), HB2.out⟩
    · have HJ := Aside0.mk hj
      rw [hj] at h1
      clear hj
      obtain ⟨g0, g1, g2, g3, g4, g5, g6, g7, g8, g9, g10, g11⟩ := ecells HE.out
      clear g0 g1 g2 g3 g4 g5 g9 g10 g11
      have HBW := Aside0.mk (Below.refl w.heap.size w)
      go_enter Try.func33, Try.ntmps33
      go_wp2_with fail
      first | (go_region_held3 (fun w' => w'.cell? p = some (.int .i64 1) ∧ w'.cell? ⟨p.block, p.off + 1, none⟩ = some (.int .i64 2) ∧ w'.cell? ⟨p.block, p.off + 2, none⟩ = some (.bool x.f2.f0) ∧ w'.cell? ⟨p.block, p.off + 3, none⟩ = some (.slice A3 x.f2.f1.length c3) ∧ w'.cell? ⟨p.block, p.off + 4, none⟩ = some (.bool x.f2.f2) ∧ w'.cell? ⟨p.block, p.off + 5, none⟩ = some (.slice A5 x.f2.f3.length c5) ∧ w'.cell? ⟨b, 6, none⟩ = some (.int .i64 (e 2).k) ∧ w'.cell? ⟨b, 7, none⟩ = some (.int .i64 (e 2).n) ∧ w'.cell? ⟨b, 8, none⟩ = some (.string (e 2).t)) (first | assumption | exact ⟨h0, h1, h2, h3, h4, h5, g6, g7, g8⟩ | exact ⟨k0, k1, k2, k3, k4, k5, k6, k7, k8⟩ | (refine ⟨?_, ?_, ?_, ?_, ?_, ?_, ?_, ?_, ?_⟩ <;> assumption)) (first | (go_at_call 47; (with_reducible refine (has_any x.f2 (e 2) HF.out.here A3 c3 A5 c5 _ (Kd.C_below G3.out.2 (below_drew HBW.out)) G3.out.1 (Kd.C_below G5.out.2 (below_drew HBW.out)) G5.out.1).mono ?_); rintro e' w2 ⟨rfl, hb2⟩; have k0 := pw_cell_below hb2 (show w.drew.cell? _ = _ from h0); have k1 := pw_cell_below hb2 (show w.drew.cell? _ = _ from h1); have k2 := pw_cell_below hb2 (show w.drew.cell? _ = _ from h2); have k3 := pw_cell_below hb2 (show w.drew.cell? _ = _ from h3); have k4 := pw_cell_below hb2 (show w.drew.cell? _ = _ from h4); have k5 := pw_cell_below hb2 (show w.drew.cell? _ = _ from h5); have k6 := pw_cell_below hb2 (show w.drew.cell? _ = _ from g6); have k7 := pw_cell_below hb2 (show w.drew.cell? _ = _ from g7); have k8 := pw_cell_below hb2 (show w.drew.cell? _ = _ from g8); have HB2 := Aside0.mk (below_step (below_drew HBW.out) hb2); clear hb2))) | fail
      go_wp2_with fail
      go_ret
      exact ⟨ret_bool (by rw [HT.out, if_pos K1.out, HJ.out]; rfl), HB2.out⟩
    · have HJ := Aside0.mk hj
      rw [hj] at h1
      clear hj
      obtain ⟨g0, g1, g2, g3, g4, g5, g6, g7, g8, g9, g10, g11⟩ := ecells HE.out
      clear g0 g1 g2 g3 g4 g5 g6 g7 g8
      have HBW := Aside0.mk (Below.refl w.heap.size w)
      go_enter Try.func33, Try.ntmps33
      go_wp2_with fail
      first | (go_region_held3 (fun w' => w'.cell? p = some (.int .i64 1) ∧ w'.cell? ⟨p.block, p.off + 1, none⟩ = some (.int .i64 3) ∧ w'.cell? ⟨p.block, p.off + 2, none⟩ = some (.bool x.f2.f0) ∧ w'.cell? ⟨p.block, p.off + 3, none⟩ = some (.slice A3 x.f2.f1.length c3) ∧ w'.cell? ⟨p.block, p.off + 4, none⟩ = some (.bool x.f2.f2) ∧ w'.cell? ⟨p.block, p.off + 5, none⟩ = some (.slice A5 x.f2.f3.length c5) ∧ w'.cell? ⟨b, 9, none⟩ = some (.int .i64 (e 3).k) ∧ w'.cell? ⟨b, 10, none⟩ = some (.int .i64 (e 3).n) ∧ w'.cell? ⟨b, 11, none⟩ = some (.string (e 3).t)) (first | assumption | exact ⟨h0, h1, h2, h3, h4, h5, g9, g10, g11⟩ | exact ⟨k0, k1, k2, k3, k4, k5, k6, k7, k8⟩ | (refine ⟨?_, ?_, ?_, ?_, ?_, ?_, ?_, ?_, ?_⟩ <;> assumption)) (first | (go_at_call 47; (with_reducible refine (has_any x.f2 (e 3) HF.out.here A3 c3 A5 c5 _ (Kd.C_below G3.out.2 (below_drew HBW.out)) G3.out.1 (Kd.C_below G5.out.2 (below_drew HBW.out)) G5.out.1).mono ?_); rintro e' w2 ⟨rfl, hb2⟩; have k0 := pw_cell_below hb2 (show w.drew.cell? _ = _ from h0); have k1 := pw_cell_below hb2 (show w.drew.cell? _ = _ from h1); have k2 := pw_cell_below hb2 (show w.drew.cell? _ = _ from h2); have k3 := pw_cell_below hb2 (show w.drew.cell? _ = _ from h3); have k4 := pw_cell_below hb2 (show w.drew.cell? _ = _ from h4); have k5 := pw_cell_below hb2 (show w.drew.cell? _ = _ from h5); have k6 := pw_cell_below hb2 (show w.drew.cell? _ = _ from g9); have k7 := pw_cell_below hb2 (show w.drew.cell? _ = _ from g10); have k8 := pw_cell_below hb2 (show w.drew.cell? _ = _ from g11); have HB2 := Aside0.mk (below_step (below_drew HBW.out) hb2); clear hb2))) | fail
      go_wp2_with fail
      go_ret
      exact ⟨ret_bool (by rw [HT.out, if_pos K1.out, HJ.out]; rfl), HB2.out⟩
  · have HKK := Aside0.mk (show x.f0 = 2 ∨ x.f0 = 3 ∨ x.f0 = 4 by rcases hk with hk | hk | hk <;> omega)
    have HTL2 := Aside0.mk (HTL.out (by rcases hk with hk | hk | hk <;> omega) (fun h4 => by rcases hk with hk | hk | hk <;> omega) HKK.out)
    have HL1 : ((x.f0 == 1) = false) := by simp; rcases hk with hk | hk | hk <;> omega
    have HK6 := Aside0.mk (And.intro h0 h6)
    have hlen := HLEN.out
    clear hk h1 h2 h3 h4 h5
    go_enter Try.func33, Try.ntmps33
    go_wp2_with fail
    go_loopg [30] x.f3.length (fun q v30 wr => ∃ (i : Nat), v30 = .int .i64 i ∧ q + i = x.f3.length ∧ Aside0 (Below w.heap.size w wr) ∧ Aside0 (res = isLoop e x.f0 (x.f3.drop i)))
    case atStart => exact ⟨0, rfl, by omega, ⟨Below.refl _ _⟩, ⟨by rw [List.drop_zero]; exact HTL2.out⟩⟩
    case round =>
      clear h6 h0
      obtain ⟨i, rfl, hq, HB, HL⟩ := hrel
      have HQ := Aside0.mk hq
      clear hq
      obtain ⟨wl, hwl⟩ : ∃ wl : World, wl = wr := ⟨_, rfl⟩
      subst hwl
      have h0 := pw_cell_below HB.out HK6.out.1
      have h6 := pw_cell_below HB.out HK6.out.2
      by_cases hi : i < x.f3.length
      · have hi' : (i : Int) < (x.f3.length : Int) := by omega
        obtain ⟨ad, ead, hsub⟩ := node_sub HK.out (i : Int) (by omega) (by omega)
        cases ead
        rw [Int.toNat_natCast] at hsub
        have hmem := rd28_in x.f3 i hi
        have HHIT := Aside0.mk (fun bb => @isLoop_hit e x.f0 x.f3 i bb HKK.out hi)
        have HMISS := Aside0.mk (fun bb => @isLoop_miss e x.f0 x.f3 i bb HKK.out hi)
        generalize rd_T28 x.f3 (i : Int) = y at *
        have HLT := Aside0.mk (show sz y < m by rw [← HM.out]; exact sub_lt hmem)
        have HSUB := Aside0.mk (hsub.below HB.out)
        have HFY := Aside0.mk (HF.out.sub hmem)
        have HAY := Aside0.mk (allT_sub HA.out hmem)
        clear hmem hsub
        go_wp2_with fail
        refine (IH.out (sz y) HLT.out y (ad.add (i * 7)) b _ rfl HFY.out HAY.out HSUB.out (HE.out.below HB.out)).mono ?_
        rintro e' w2 ⟨rfl, hb2⟩
        have HB2 := Aside0.mk (below_step HB.out hb2)
        have d0 := pw_cell_below HB2.out HK6.out.1
        clear hb2 h6 h0
        have HIT := Aside0.mk (HHIT.out _ rfl)
        have MISS := Aside0.mk (HMISS.out _ rfl)
        generalize isT e y = iy at *
        rcases HKK.out with hk | hk | hk
        · have HKE := Aside0.mk hk
          rw [hk] at d0
          clear hk
          cases iy with
          | false =>
            go_wp2_with fail
            go_ret
            exact ⟨ret_bool (by rw [HL.out, HIT.out (by rw [HKE.out]; decide), HKE.out]; decide), HB2.out⟩
          | true =>
            go_wp2_with fail
            go_roundg (x.f3.length - (i + 1))
            case measure => have := HQ.out; omega
            case rel => exact ⟨i + 1, by go_num, by omega, HB2, ⟨HL.out.trans (MISS.out (by rw [HKE.out]; decide))⟩⟩
        · have HKE := Aside0.mk hk
          rw [hk] at d0
          clear hk
          cases iy with
          | false =>
            go_wp2_with fail
            go_roundg (x.f3.length - (i + 1))
            case measure => have := HQ.out; omega
            case rel => exact ⟨i + 1, by go_num, by omega, HB2, ⟨HL.out.trans (MISS.out (by rw [HKE.out]; decide))⟩⟩
          | true =>
            go_wp2_with fail
            go_ret
            exact ⟨ret_bool (by rw [HL.out, HIT.out (by rw [HKE.out]; decide), HKE.out]; decide), HB2.out⟩
        · have HKE := Aside0.mk hk
          rw [hk] at d0
          clear hk
          cases iy with
          | false =>
            go_wp2_with fail
            go_roundg (x.f3.length - (i + 1))
            case measure => have := HQ.out; omega
            case rel => exact ⟨i + 1, by go_num, by omega, HB2, ⟨HL.out.trans (MISS.out (by rw [HKE.out]; decide))⟩⟩
          | true =>
            go_wp2_with fail
            go_ret
            exact ⟨ret_bool (by rw [HL.out, HIT.out (by rw [HKE.out]; decide), HKE.out]; decide), HB2.out⟩
      · have hi' : ¬ (i : Int) < (x.f3.length : Int) := by omega
        have HI := Aside0.mk hi
        clear hi
        rcases HKK.out with hk | hk | hk
        · have HKE := Aside0.mk hk
          rw [hk] at h0
          clear hk
          go_wp2_with fail
          go_ret
          exact ⟨ret_bool (by rw [HL.out, List.drop_of_length_le (by have := HI.out; omega), isLoop_nil e _ HKK.out, HKE.out]; decide), HB.out⟩
        · have HKE := Aside0.mk hk
          rw [hk] at h0
          clear hk
          go_wp2_with fail
          go_ret
          exact ⟨ret_bool (by rw [HL.out, List.drop_of_length_le (by have := HI.out; omega), isLoop_nil e _ HKK.out, HKE.out]; decide), HB.out⟩
        · have HKE := Aside0.mk hk
          rw [hk] at h0
          clear hk
          go_wp2_with fail
          go_ret
          exact ⟨ret_bool (by rw [HL.out, List.drop_of_length_le (by have := HI.out; omega), isLoop_nil e _ HKK.out, HKE.out]; decide), HB.out⟩

set_option maxHeartbeats 4000000 in
set_option maxRecDepth 100000 in
theorem Eval_any (x : S28) (v : Value) (e : Nat → V3) (w : World) (hF : Each (fun y => FineS y.f2) x) (hx : XR w v x) : Calls Try.prog 17 #[v, .agg #[.int .i64 (e 0).k, .int .i64 (e 0).n, .string (e 0).t, .int .i64 (e 1).k, .int .i64 (e 1).n, .string (e 1).t, .int .i64 (e 2).k, .int .i64 (e 2).n, .string (e 2).t, .int .i64 (e 3).k, .int .i64 (e 3).n, .string (e 3).t]] w fun e' w' => e' = .returned (.bool (evalT x e)) ∧ Below w.heap.size w w' := by
  have HF := Aside0.mk hF
  have HX := Aside0.mk hx
  obtain ⟨A3, c3, A5, c5, A6, c6, rfl, l3, g3, l5, g5, l6, g6⟩ := hx
  have G3 := Aside0.mk g3
  have G5 := Aside0.mk g5
  have G6 := Aside0.mk g6
  have L3 := Aside0.mk l3
  have L5 := Aside0.mk l5
  have L6 := Aside0.mk l6
  clear l3 g3 l5 g5 l6 g6 hF
  have HR : Aside0 (evalT x e = (rightT x && (evOk e && isT e x))) := ⟨rfl⟩
  have HRT : Aside0 (rightT x = true → allT x = true) := ⟨fun h => by unfold rightT at h; rw [Bool.and_eq_true] at h; exact h.2⟩
  go_enter Try.func17, Try.ntmps17
  go_wp2_with fail
  obtain ⟨wb, hwb⟩ : ∃ wb : World, wb = (w.alloc (.cells #[.int .i64 x.f0, .int .i64 x.f1, .bool x.f2.f0, .slice A3 x.f2.f1.length c3, .bool x.f2.f2, .slice A5 x.f2.f3.length c5, .slice A6 x.f3.length c6] 28)).alloc (.cells #[.int .i64 (e 0).k, .int .i64 (e 0).n, .string (e 0).t, .int .i64 (e 1).k, .int .i64 (e 1).n, .string (e 1).t, .int .i64 (e 2).k, .int .i64 (e 2).n, .string (e 2).t, .int .i64 (e 3).k, .int .i64 (e 3).n, .string (e 3).t] 32) := ⟨_, rfl⟩
  have HBW := Aside0.mk (show Below w.heap.size w wb by rw [hwb]; exact below_alloc (below_alloc (Below.refl _ _) _) _)
  have HN := Aside0.mk (show NodeAt wb ⟨w.heap.size, 0, none⟩ x by
    have := HBW.out
    rw [hwb] at this ⊢
    exact node_box (blk_new0 w _ _) L3.out (Kd.C_below G3.out this) L5.out (Kd.C_below G5.out this) L6.out (Kd.C_below G6.out this))
  have HE := Aside0.mk (show EvAt wb (w.heap.size + 1) e by rw [hwb]; exact blk_new1 w _ _)
  rw [← hwb]
  clear hwb
  refine (right_any x _ wb HF.out ⟨A3, c3, A5, c5, A6, c6, rfl, L3.out, Kd.C_below G3.out HBW.out, L5.out, Kd.C_below G5.out HBW.out, L6.out, Kd.C_below G6.out HBW.out⟩).mono ?_
  rintro e' w1 ⟨rfl, hb1⟩
  have HB1 := Aside0.mk (below_step HBW.out hb1)
  have HN1 := Aside0.mk (HN.out.below hb1)
  have HE1 := Aside0.mk (HE.out.below hb1)
  clear hb1
  cases hr : rightT x with
  | false =>
    have HZ := Aside0.mk hr
    clear hr
    go_wp2_with fail
    go_ret
    exact ⟨ret_bool (by rw [HR.out, HZ.out]; rfl), HB1.out⟩
  | true =>
    have HZ := Aside0.mk hr
    clear hr
    obtain ⟨g0, g1, g2, g3, g4, g5, g6, g7, g8, g9, g10, g11⟩ := ecells HE1.out
    go_wp2_with fail
    refine (event_any e _).mono ?_
    rintro e' w2 ⟨rfl, hb2⟩
    have HB2 := Aside0.mk (below_step HB1.out hb2)
    have HN2 := Aside0.mk (HN1.out.below hb2)
    have HE2 := Aside0.mk (HE1.out.below hb2)
    clear hb2 g0 g1 g2 g3 g4 g5 g6 g7 g8 g9 g10 g11
    cases ho : evOk e with
    | false =>
      have HO := Aside0.mk ho
      clear ho
      go_wp2_with fail
      go_ret
      exact ⟨ret_bool (by rw [HR.out, HZ.out, HO.out]; rfl), HB2.out⟩
    | true =>
      have HO := Aside0.mk ho
      clear ho
      go_wp2_with fail
      refine (eval_any e _ x _ _ _ rfl HF.out (HRT.out HZ.out) HN2.out HE2.out).mono ?_
      rintro e' w3 ⟨rfl, hb3⟩
      have HB3 := Aside0.mk (below_step HB2.out hb3)
      clear hb3
      go_wp2_with fail
      go_ret
      exact ⟨ret_bool (by rw [HR.out, HZ.out, HO.out]; rfl), HB3.out⟩
end Go.Proofs.Ytjkhajcngapjcaa.Q
