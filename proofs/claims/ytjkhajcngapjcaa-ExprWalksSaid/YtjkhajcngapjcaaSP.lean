/- The reference's Parts: all parts in their order, with their depths; printed by gen_parts05.py. -/
import Derived.Test.YtjkhajcngapjcaaER
import Derived.Outline
namespace Go.Proofs.Ytjkhajcngapjcaa.Q
open Go.RowKit Go.Proofs.YtjkhajcngapjcaaW.PrintWords Go.Proofs.YtjkhajcngapjcaaW.PrintLast Go.Proofs.YtjkhajcngapjcaaW.PrintMore
set_option linter.unusedVariables false
set_option linter.unusedSimpArgs false

mutual
def partsT : S28 → Int → List S50
  | ⟨k, a, s, l⟩, d => ⟨d, ⟨k, a, s, l⟩⟩ :: partsL l (d + 1)
def partsL : List S28 → Int → List S50
  | [], _ => []
  | x :: t, d => partsT x d ++ partsL t d
end
theorem partsT_eq (x : S28) (d : Int) : partsT x d = ⟨d, x⟩ :: partsL x.f3 (d + 1) := by obtain ⟨k, a, s, l⟩ := x; simp only [partsT]
theorem partsL_append : ∀ (l1 l2 : List S28) (d : Int), partsL (l1 ++ l2) d = partsL l1 d ++ partsL l2 d
  | [], _, _ => rfl
  | x :: t, l2, d => by simp only [List.cons_append, partsL, partsL_append t l2 d, List.append_assoc]
theorem szL_append : ∀ (l1 l2 : List S28), szL (l1 ++ l2) = szL l1 + szL l2
  | [], _ => by simp [szL]
  | x :: t, l2 => by simp only [List.cons_append, szL, szL_append t l2]; omega
theorem parts_len (m : Nat) : ∀ (x : S28) (d : Int), sz x = m → (partsT x d).length = sz x := by
  induction m using Nat.strongRecOn with
  | _ m ih =>
  intro x d hm
  have hL : ∀ (l : List S28) (d : Int), (∀ y, y ∈ l → y ∈ x.f3) → (partsL l d).length = szL l := by
    intro l
    induction l with
    | nil => intro d _; rfl
    | cons y t iht =>
      intro d hl
      simp only [partsL, List.length_append, szL, iht d (fun z hz => hl z (List.mem_cons_of_mem _ hz))]
      rw [ih (sz y) (by rw [← hm]; exact sub_lt (hl y List.mem_cons_self)) y d rfl]
  rw [partsT_eq, List.length_cons, hL x.f3 (d + 1) (fun _ h => h), sz_eq]; omega
theorem i50 : ∃ i, Try.prog.info? 50 = some i ∧ i.zero = some (.agg #[(.int .i64 0), (.int .i64 0), (.int .i64 0), (.bool false), (.slice none 0 0), (.bool false), (.slice none 0 0), (.slice none 0 0)]) ∧ i.size = 8 ∧ i.bytes = 112 := by
  obtain ⟨i, hi, h⟩ := Option.map_eq_some_iff.1 info50
  simp only [Prod.mk.injEq] at h
  exact ⟨i, hi, h.1, h.2.1, h.2.2⟩
theorem own_move50 {w W : World} {base size n : Nat} {e : TypeId} {v : Value} {xs : List Value} (h : w.ownsRow base e size v n xs) (hk : ∀ k, base ≤ k → k < w.heap.size → W.heap[k]? = w.heap[k]?) : W.ownsRow base e size v n xs := by
  obtain ⟨h1, h2⟩ := h
  refine ⟨h1, ?_⟩
  rcases h2 with h2 | ⟨g, cap, cur, e1, e2, e3, e4⟩
  · exact .inl h2
  · exact .inr ⟨g, cap, cur, e1, e2, (hk g e2 (Array.getElem?_eq_some_iff.1 e3).1).trans e3, e4⟩
theorem reps_app {α : Type} {K : α → List Value → Prop} {n : Nat} {ps qs : List α} {cs ds : List Value} (h : Reps K n ps cs) (k : Reps K n qs ds) : Reps K n (ps ++ qs) (cs ++ ds) := by
  have hl := h.1
  have kl := k.1
  refine ⟨by simp [hl, kl, Nat.add_mul], fun j q hj => ?_⟩
  by_cases hjl : j < ps.length
  · rw [List.getElem?_append_left hjl] at hj
    have := h.2 j q hj
    have h1 : j * n + n ≤ cs.length := by
      rw [hl]
      calc j * n + n = (j + 1) * n := by rw [Nat.add_mul, Nat.one_mul]
        _ ≤ ps.length * n := Nat.mul_le_mul_right n hjl
    have e : ((cs ++ ds).drop (j * n)).take n = (cs.drop (j * n)).take n := by
      rw [List.drop_append_of_le_length (by omega), List.take_append_of_le_length (by simp; omega)]
    rw [e]; exact this
  · rw [List.getElem?_append_right (by omega)] at hj
    have := k.2 (j - ps.length) q hj
    have h1 : j * n = cs.length + (j - ps.length) * n := by
      rw [hl, ← Nat.add_mul]; congr 1; omega
    have e : ((cs ++ ds).drop (j * n)).take n = (ds.drop ((j - ps.length) * n)).take n := by
      rw [h1, List.drop_append, List.drop_of_length_le (by omega), List.nil_append, Nat.add_sub_cancel_left]
    rw [e]; exact this
theorem k50_one {v : Value} {x : S50} {c : List Value} {w : World} (h : k50.K w x c) : ∀ u ∈ c, u.oneCell' = true := k50.K_one h
theorem ones50 {w : World} {ps : List S50} {news : List Value} (h : Reps (k50.K w) 8 ps news) : ∀ u ∈ news, u.oneCell' = true := by
  intro u hu
  obtain ⟨q, hq, rfl⟩ := List.mem_iff_getElem.1 hu
  have hlen := h.1
  have hql : q / 8 < ps.length := by omega
  have hc := h.2 (q / 8) _ (List.getElem?_eq_getElem hql)
  refine k50.K_one hc _ ?_
  rw [List.mem_iff_getElem?]
  refine ⟨q % 8, ?_⟩
  rw [List.getElem?_take, if_pos (by omega), List.getElem?_drop, Nat.mul_comm, Nat.div_add_mod, List.getElem?_eq_getElem hq]
/-- A row of parts that is owned since a world; whatever it holds lies in the world w0. -/
def OwnP (w0 : World) (base : Nat) (wr : World) (ps : List S50) (v : Value) : Prop := ∃ cs, wr.ownsRow base 50 8 v ps.length cs ∧ ∀ W, Below w0.heap.size w0 W → Reps (k50.K W) 8 ps cs
theorem OwnP.below {w0 wr wr' : World} {base : Nat} {ps : List S50} {v : Value} (h : OwnP w0 base wr ps v) (hb : Below wr.heap.size wr wr') : OwnP w0 base wr' ps v := by
  obtain ⟨cs, h1, h2⟩ := h
  exact ⟨cs, own_move50 h1 (fun k _ hk => hb.block k hk), h2⟩
/-- What Parts comes back with. -/
def BackP (w0 w : World) (ps : List S50) (e : Ending) (w' : World) : Prop := ∃ v, e = .returned v ∧ OwnP w0 w.heap.size w' ps v
theorem take_snoc2 (l : List S28) (i : Nat) (h : i < l.length) : l.take (i + 1) = l.take i ++ [rd_T28 l (i : Int)] := by
  rw [rd28_mem l i h, List.take_add_one, List.getElem?_eq_getElem h]; rfl
theorem C50_of {w0 w W : World} {base : Nat} {ps : List S50} {v : Value} (h : OwnP w0 base w ps v) (hb : Below w0.heap.size w0 w) : ∃ A c, v = .slice A ps.length c ∧ k50.C w A ps.length ps := by
  obtain ⟨cs, h1, h2⟩ := h
  obtain ⟨A, c, hv, hrow⟩ := own_reads_row h1 (h2 w hb) rfl
  exact ⟨A, c, hv, hrow⟩
set_option maxHeartbeats 8000000 in
set_option maxRecDepth 100000 in
theorem parts_any (m : Nat) : ∀ (x : S28) (va : Value) (d : Int) (w0 w : World), sz x = m → sz x ≤ 40 → 0 ≤ d → d + dp x ≤ 100 → XR w0 va x → Below w0.heap.size w0 w → Calls Try.prog 24 #[va, .int .i64 d] w fun e w' => BackP w0 w (partsT x d) e w' ∧ Below w.heap.size w w' := by
  induction m using Nat.strongRecOn with
  | _ m ih =>
  intro x va d w0 w hm hs hd0 hd1 hxa hw0
  have IH := Aside0.mk ih
  have HM := Aside0.mk (And.intro hm (And.intro hs hd1))
  have HW0 := Aside0.mk hw0
  have HX := Aside0.mk hxa
  obtain ⟨i8, hi1, hi2, hi3, hi4⟩ := i50
  have HI := Aside0.mk (And.intro hi1 (And.intro hi2 (And.intro hi3 hi4)))
  obtain ⟨A3, c3, A5, c5, A6, c6, rfl, l3, g3, l5, g5, l6, g6⟩ := hxa
  have G6 := Aside0.mk g6
  have hlen : (x.f3.length : Int) ≤ 9223372036854775807 := by have hg := g6.2.1; omega
  have hd9 : d ≤ 100 := by have := dp_pos x; omega
  clear l3 g3 l5 g5 l6 g6 ih hm hs hd1 hw0 hi1 hi2 hi3 hi4
  go_enter Try.func24, Try.ntmps24
  go_wp2_with fail
  obtain ⟨wb, hwb⟩ : ∃ wb : World, wb = w.alloc (.cells #[.int .i64 x.f0, .int .i64 x.f1, .bool x.f2.f0, .slice A3 x.f2.f1.length c3, .bool x.f2.f2, .slice A5 x.f2.f3.length c5, .slice A6 x.f3.length c6] 28) := ⟨_, rfl⟩
  have HWB := Aside0.mk (show Below w.heap.size w wb by rw [hwb]; exact below_alloc (Below.refl _ _) _)
  have HBX := Aside0.mk (show wb.heap[w.heap.size]? = some (.cells #[.int .i64 x.f0, .int .i64 x.f1, .bool x.f2.f0, .slice A3 x.f2.f1.length c3, .bool x.f2.f2, .slice A5 x.f2.f3.length c5, .slice A6 x.f3.length c6] 28 (0, 0)) by rw [hwb]; exact heap_alloc_new w _)
  have HSZ := Aside0.mk (show wb.heap.size = w.heap.size + 1 by rw [hwb]; simp [World.size_alloc])
  rw [← hwb]
  clear hwb
  go_loopg [5, 6] x.f3.length (fun q v5 v6 wr => ∃ i : Nat, v6 = .int .i64 i ∧ Aside0 (q + i = x.f3.length) ∧ Aside0 (Below wb.heap.size wb wr) ∧ Aside0 (OwnP w0 wb.heap.size wr (⟨d, x⟩ :: partsL (x.f3.take i) (d + 1)) v5))
  case atStart =>
    refine ⟨0, rfl, ⟨by omega⟩, ⟨below_alloc (Below.refl _ _) _⟩, ⟨?_⟩⟩
    rw [List.take_zero]
    refine ⟨#[.int .i64 d, .int .i64 x.f0, .int .i64 x.f1, .bool x.f2.f0, .slice A3 x.f2.f1.length c3, .bool x.f2.f2, .slice A5 x.f2.f3.length c5, .slice A6 x.f3.length c6].toList, ⟨rfl, .inr ⟨wb.heap.size, 1, #[.int .i64 d, .int .i64 x.f0, .int .i64 x.f1, .bool x.f2.f0, .slice A3 x.f2.f1.length c3, .bool x.f2.f2, .slice A5 x.f2.f3.length c5, .slice A6 x.f3.length c6], by rw [HSZ.out]; rfl, Nat.le_refl _, heap_alloc_new wb _, Nat.le_refl _, by decide, rfl, rfl⟩⟩, fun W hW => ⟨rfl, fun j p hj => ?_⟩⟩
    have hj0 : j = 0 := by
      cases j with
      | zero => rfl
      | succ j => simp [partsL] at hj
    subst hj0
    have hp : (⟨d, x⟩ : S50) = p := by simpa using hj
    subst hp
    obtain ⟨_, _, _, _, _, _, he, m3, f3, m5, f5, m6, f6⟩ := HX.out.below hW
    simp at he
    obtain ⟨⟨rfl, rfl⟩, ⟨rfl, rfl⟩, rfl, rfl⟩ := he
    exact k50_mk W ⟨d, x⟩ m3 f3 m5 f5 m6 f6
  case round =>
    obtain ⟨i, rfl, HQ, HBR, HPR⟩ := hrel
    obtain ⟨wl, hwl⟩ : ∃ wl : World, wl = wr := ⟨_, rfl⟩
    subst hwl
    obtain ⟨z0, z1, z2, z3, z4, z5, z6⟩ := ncells (blk_below HBX.out HBR.out)
    by_cases hi : i < x.f3.length
    · have hi' : (i : Int) < (x.f3.length : Int) := by omega
      obtain ⟨ad, E3, Ec3, E5, Ec5, E6, Ec6, ead, p0, p1, p2, p3, p4, p5, p6, s3, f3, s5, f5, s6, f6⟩ := at_T28 G6.out (i : Int) (by omega) (by omega)
      cases ead
      rw [Int.toNat_natCast] at p0 p1 p2 p3 p4 p5 p6
      have HW1 := Aside0.mk (show Below w0.heap.size w0 wl from below_then (below_then HW0.out HW0.out.size HWB.out) (Nat.le_trans HW0.out.size HWB.out.size) HBR.out)
      have q0 := pw_cell_below HW1.out p0
      have q1 := pw_cell_below HW1.out p1
      have q2 := pw_cell_below HW1.out p2
      have q3 := pw_cell_below HW1.out p3
      have q4 := pw_cell_below HW1.out p4
      have q5 := pw_cell_below HW1.out p5
      have q6 := pw_cell_below HW1.out p6
      clear p0 p1 p2 p3 p4 p5 p6
      have hmx : rd_T28 x.f3 (i : Int) ∈ x.f3 := by rw [rd28_mem x.f3 i hi]; exact List.getElem_mem hi
      have HTK := Aside0.mk (take_snoc2 x.f3 i hi)
      generalize rd_T28 x.f3 (i : Int) = y at *
      have HLT := Aside0.mk (sub_lt hmx)
      have HDP := Aside0.mk (show d + 1 + dp y ≤ 100 by have h1 := dp_mem hmx; have h2 := HM.out.2.2; rw [dp_eq] at h2; omega)
      have HXX := Aside0.mk (show XR w0 (.agg #[.int .i64 y.f0, .int .i64 y.f1, .bool y.f2.f0, .slice E3 y.f2.f1.length Ec3, .bool y.f2.f2, .slice E5 y.f2.f3.length Ec5, .slice E6 y.f3.length Ec6]) y from ⟨E3, Ec3, E5, Ec5, E6, Ec6, rfl, s3, f3, s5, f5, s6, f6⟩)
      clear hmx s3 f3 s5 f5 s6 f6
      go_wp2_with fail
      refine (IH.out (sz y) (by rw [← HM.out.1]; exact HLT.out) y _ (d + 1) w0 wl rfl (by have := HLT.out; have := HM.out.2.1; omega) (by omega) HDP.out HXX.out HW1.out).mono ?_
      rintro e w2 ⟨⟨v, rfl, hO⟩, hb⟩
      clear z0 z1 z2 z3 z4 z5 z6 q0 q1 q2 q3 q4 q5 q6
      obtain ⟨cs, hO1, hO2⟩ := hO
      have hly : (partsT y (d + 1)).length = sz y := parts_len _ y _ rfl
      obtain ⟨g, cap, rfl, hg1, hg2⟩ := hO1.form (by rw [hly]; exact sz_pos y)
      have HC := Aside0.mk (hO1.cells rfl)
      have HL1 := Aside0.mk hO1.1
      have HR := Aside0.mk hO2
      have HLY := Aside0.mk hly
      obtain ⟨cs0, hown0, hreps0⟩ := HPR.out.below hb
      have HO := Aside0.mk hown0
      have HR0 := Aside0.mk hreps0
      have HB2 := Aside0.mk (show Below wb.heap.size wb w2 from below_step HBR.out hb)
      have HPL := Aside0.mk (show ((⟨d, x⟩ : S50) :: partsL (x.f3.take i) (d + 1)).length + (partsT y (d + 1)).length ≤ 1000 by
        have h1 := (⟨HBR.out⟩ : Aside0 _)
        have e : ((⟨d, x⟩ : S50) :: partsL (x.f3.take i) (d + 1)).length = 1 + szL (x.f3.take i) := by
          have := parts_len _ ⟨0, 0, ⟨false, [], false, []⟩, x.f3.take i⟩ d rfl
          rw [partsT_eq] at this
          simpa [sz_eq] using this
        rw [e, hly]
        have h2 : szL (x.f3.take i) ≤ szL x.f3 := by
          conv => rhs; rw [← List.take_append_drop i x.f3, szL_append]
          omega
        have h3 := HM.out.2.1
        have h4 := HLT.out
        rw [sz_eq x] at h3 h4
        omega)
      generalize hps : ((⟨d, x⟩ : S50) :: partsL (x.f3.take i) (d + 1)) = ps at *
      generalize hqs : partsT y (d + 1) = qs at *
      have HPS := Aside0.mk hps
      have HQS := Aside0.mk hqs
      clear hps hqs hO1 hO2 hown0 hreps0 hly hb
      go_wp2_with ((with_reducible refine gate_builtin (b := .append) (xs := #[.tmp 18, .tmp 26]) rfl ?_); at_builtin; refine wpList_append_own_at _ rfl (.tmp 18) (.tmp 26) 45 rfl wb.heap.size 50 i8 _ 8 112 Try.underlying45 HI.out.1 HI.out.2.1 HI.out.2.2.1 HI.out.2.2.2 rfl (by omega) u5 ps.length cs0 rfl ?aO ⟨g, 0, none⟩ qs.length cap cs rfl ?aL ?aN ?a1 ?aM ?aB ?aS ?_; (case aO => exact HO.out); (case aL => exact HL1.out); (case aN => exact HC.out); (case a1 => exact ones50 (HR.out w0 (Below.refl _ _))); (case aM => (have := HPL.out; simp only [maxLen]; omega)); (case aB => (have := HPL.out; omega)); (case aS => exact HB2.out.size); intro v6 w4 hown hg _ hat; have HN4 := Aside0.mk (show OwnP w0 wb.heap.size w4 (ps ++ qs) v6 from ⟨_, by rw [List.length_append]; exact hown, fun W hW => reps_app (HR0.out W hW) (HR.out W hW)⟩); have HB4 := Aside0.mk (show Below wb.heap.size wb w4 from pw_below_grown HB2.out _ HB2.out.size hg (fun k hk => (HO.out.lt k hk).1)); clear hown hg hat)
      go_roundg (x.f3.length - (i + 1))
      case measure => have := HQ.out; omega
      case rel =>
        refine ⟨i + 1, by go_num, ⟨by omega⟩, HB4, ⟨?_⟩⟩
        have h := HN4.out
        rw [← HPS.out, ← HQS.out] at h
        rw [HTK.out, partsL_append]
        simpa [partsL] using h
    · have hi' : ¬ (i : Int) < (x.f3.length : Int) := by omega
      have HTI := Aside0.mk (show x.f3.take i = x.f3 from List.take_of_length_le (by omega))
      clear hi
      go_wp2_with fail
      go_ret
      refine ⟨⟨_, rfl, ?_⟩, HWB.out.trans (HBR.out.mono HWB.out.size)⟩
      have h := HPR.out
      rw [HTI.out] at h
      rw [partsT_eq]
      obtain ⟨cs, h1, h2⟩ := h
      exact ⟨cs, ⟨h1.1, h1.2.imp id fun ⟨g, cap, cur, e1, e2, e3⟩ => ⟨g, cap, cur, e1, Nat.le_trans HWB.out.size e2, e3⟩⟩, h2⟩
end Go.Proofs.Ytjkhajcngapjcaa.Q
