/- ExprWalks: the walk; printed by gen_l8.py. -/
import Derived.Test.YtjkhajcngapjcaaEW
import Derived.Test.YtjkhajcngapjcaaEP
import Derived.Test.YtjkhajcngapjcaaEL
import Derived.Test.YtjkhajcngapjcaaSB
import Derived.Test.YtjkhajcngapjcaaSW
import Derived.Test.YtjkhajcngapjcaaR8
namespace Go.Proofs.Ytjkhajcngapjcaa.Q
open Go.RowKit Go.Shelf Go.Proofs.YtjkhajcngapjcaaW.PrintWords Go.Proofs.YtjkhajcngapjcaaW.PrintLast Go.Proofs.YtjkhajcngapjcaaW.PrintMore
set_option linter.unusedVariables false
set_option linter.unusedSimpArgs false

attribute [local go_sem] Oper.semAt_some
theorem fine_num8 {x : S28} (h : Each (fun y => NumS y.f2) x) (hs : SmallX x) : Each (fun y => FineS y.f2) x := (h.and hs.e).imp (fun _ h => fine_of h.1 h.2)
theorem blk_n0 (w : World) (o1 o2 o3 : Obj) : (((w.alloc o1).alloc o2).alloc o3).heap[w.heap.size]? = some o1 ∧ (((w.alloc o1).alloc o2).alloc o3).heap[w.heap.size + 1]? = some o2 ∧ (((w.alloc o1).alloc o2).alloc o3).heap[w.heap.size + 2]? = some o3 := by
  refine ⟨blk_alloc (blk_two0 w o1 o2) o3, blk_alloc (blk_two1 w o1 o2) o3, ?_⟩
  have := heap_alloc_new ((w.alloc o1).alloc o2) o3
  simpa using this
theorem boxed_below {W W' : World} {B : Nat} {t : TypeId} {v : Value} (h : Boxed W B t v) (hb : Below W.heap.size W W') : Boxed W' B t v := blk_below h hb
theorem fits_8 {x : S28} (h : rightT x = true) : sz x ≤ 40 ∧ dp x ≤ 8 := by
  unfold rightT fitsT at h
  simp only [Bool.and_eq_true, decide_eq_true_eq] at h
  exact h.1
theorem load_int {W : World} {a : Addr} {v : Value} (h : W.cell? a = some v) : (Instr.loadAt 3 (.pointer (some a))).run Try.prog W = .ok v W := by
  simp [go_sem, h]
theorem load_sl {W : World} {a : Addr} {v : Value} (h : W.cell? a = some v) : (Instr.loadAt 45 (.pointer (some a))).run Try.prog W = .ok v W := by
  simp [go_sem, h]
theorem idx_50 (ad : Addr) (len c k : Nat) (hk : k < len) (w : World) : (Instr.indexAt 45 (.slice (some ad) len c) (.int .i64 (k : Int))).run Try.prog w = .ok (.pointer (some (ad.add (k * 8)))) w := by
  rw [run_indexAt_slice (t := 45) (h := Try.underlying45), if_pos ⟨by omega, by omega⟩]
  simp only [Int.toNat_natCast]
  kernel_rfl
theorem fld_0 (a : Addr) (w : World) : (Instr.fieldAt 50 (.pointer (some a)) 0).run Try.prog w = .ok (.pointer (some a)) w := by kernel_rfl
theorem fld_1 (a : Addr) (w : World) : (Instr.fieldAt 50 (.pointer (some a)) 1).run Try.prog w = .ok (.pointer (some ⟨a.block, a.off + 1, none⟩)) w := by kernel_rfl
/-- What holds between two rounds. -/
structure Big (w wq : World) (M Rr V Nn b4 : Nat) (most : Int) (sv : Value) (k : Nat) (W : World) : Prop where
  n : Boxed W Nn 3 (.int .i64 (k : Int))
  m : Boxed W M 3 (.int .i64 most)
  r : Boxed W Rr 4 (.bool false)
  v : Boxed W V 45 sv
  b : Below w.heap.size w W
  s : ∀ q, b4 ≤ q → q < wq.heap.size → W.heap[q]? = wq.heap[q]?
theorem kept_box {W W' : World} {row : Option Nat} {B : Nat} {t : TypeId} {v : Value} (h : Boxed W B t v) (hg : W.grownBy W' row) (hr : ∀ r, row = some r → ∃ o : Obj, W.heap[r]? = some o ∧ o.isCells = false) : Boxed W' B t v :=
  h.kept hg (fun e => by obtain ⟨o, ho, hc⟩ := hr B e.symm; rw [show W.heap[B]? = _ from h] at ho; cases ho; cases hc)
theorem Big.own {w wq : World} {M Rr V Nn b4 : Nat} {most : Int} {sv : Value} {k : Nat} {W W' : World} {row : Option Nat} {B : Nat} (h : Big w wq M Rr V Nn b4 most sv k W) (hB : w.heap.size ≤ B) (hq : wq.heap.size ≤ B) (hqW : wq.heap.size ≤ W.heap.size) (hg : W.grownBy W' row) (hr : ∀ r, row = some r → B ≤ r ∧ ∃ o : Obj, W.heap[r]? = some o ∧ o.isCells = false) : Big w wq M Rr V Nn b4 most sv k W' := by
  have hr2 := fun r e => (hr r e).2
  exact ⟨kept_box h.n hg hr2, kept_box h.m hg hr2, kept_box h.r hg hr2, kept_box h.v hg hr2, h.b.grown hg h.b.size (fun k e => Nat.le_trans hB (hr k e).1), fun q h1 h2 => (hg.block q (by omega) (fun e => by have := (hr q e.symm).1; omega)).trans (h.s q h1 h2)⟩
theorem Big.grow {w wq : World} {M Rr V Nn b4 : Nat} {most : Int} {sv : Value} {k : Nat} {W W' : World} (h : Big w wq M Rr V Nn b4 most sv k W) (hb : Below W.heap.size W W') (hq : wq.heap.size ≤ W.heap.size) : Big w wq M Rr V Nn b4 most sv k W' :=
  ⟨boxed_below h.n hb, boxed_below h.m hb, boxed_below h.r hb, boxed_below h.v hb, below_step h.b hb, fun q h1 h2 => (hb.block q (by omega)).trans (h.s q h1 h2)⟩
theorem Big.next {w wq : World} {M Rr V Nn b4 : Nat} {most : Int} {sv : Value} {k : Nat} {W : World} (h : Big w wq M Rr V Nn b4 most sv k W) (h1 : M < Nn) (h2 : Rr < Nn) (h3 : V < Nn) (h4 : wq.heap.size ≤ Nn) (h5 : w.heap.size ≤ Nn) : Big w wq M Rr V Nn b4 most sv (k + 1) (W.setCell ⟨Nn, 0, none⟩ (.int .i64 ((k : Int) + 1))) :=
  ⟨h.n.set _, h.m.other (by omega) _, h.r.other (by omega) _, h.v.other (by omega) _, below_set h.b h5, fun q q1 q2 => (Below.heap_setCell W ⟨Nn, 0, none⟩ _ q (by simp; omega)).trans (h.s q q1 q2)⟩
theorem load_cs {w : World} {b : Nat} {cs : Array Value} (h : w.heap[b]? = some (.cells cs 28 (0, 0))) (hs : cs.size = 7) : (Instr.loadAt 28 (.pointer (some ⟨b, 0, none⟩))).run Try.prog w = .ok (.agg cs) w :=
  run_loadAt_mid w b 0 28 cs.toList _ (fun j u hj => by rw [Nat.zero_add, blk_cell h]; simpa using hj) Try.underlying28 rfl (by rw [Array.length_toList, hs]; kernel_rfl)
theorem load_at7 {w : World} {b o : Nat} {v0 v1 v2 v3 v4 v5 v6 : Value} (h0 : w.cell? ⟨b, o, none⟩ = some v0) (h1 : w.cell? ⟨b, o + 1, none⟩ = some v1) (h2 : w.cell? ⟨b, o + 2, none⟩ = some v2) (h3 : w.cell? ⟨b, o + 3, none⟩ = some v3) (h4 : w.cell? ⟨b, o + 4, none⟩ = some v4) (h5 : w.cell? ⟨b, o + 5, none⟩ = some v5) (h6 : w.cell? ⟨b, o + 6, none⟩ = some v6) :
    (Instr.loadAt 28 (.pointer (some ⟨b, o, none⟩))).run Try.prog w = .ok (.agg #[v0, v1, v2, v3, v4, v5, v6]) w :=
  run_loadAt_mid w b o 28 [v0, v1, v2, v3, v4, v5, v6] _ (fun j u hj => by
    have hlt : j < 7 := (List.getElem?_eq_some_iff.1 hj).1
    rcases (by omega : j = 0 ∨ j = 1 ∨ j = 2 ∨ j = 3 ∨ j = 4 ∨ j = 5 ∨ j = 6) with rfl | rfl | rfl | rfl | rfl | rfl | rfl <;> (simp at hj; subst hj; assumption)) Try.underlying28 rfl (by kernel_rfl)
theorem says_imp {p q : Prop} {e : Ending} (h : Says p e) (hq : q → p) : Says q e := by
  obtain ⟨b, e, hb⟩ := h; exact ⟨b, e, fun k => hb (hq k)⟩
theorem says_calls {f : FuncId} {args : Array Value} {w : World} {p q : Prop} (h : Calls Try.prog f args w fun e w' => Says p e ∧ Below w.heap.size w w') (hq : q → p) : Calls Try.prog f args w fun e w' => Says q e ∧ Below w.heap.size w w' := h.mono (fun _ _ k => ⟨says_imp k.1 hq, k.2⟩)
theorem xr_size {w : World} {cs : Array Value} {x : S28} (h : XR w (.agg cs) x) : cs.size = 7 := by
  obtain ⟨A3, c3, A5, c5, A6, c6, he, _⟩ := h
  injection he with he
  rw [he]; rfl
theorem own_same {w w5 W : World} {b4 : Nat} {ps : List S50} {v : Value} (h : OwnP w b4 w5 ps v) (hs : ∀ q, b4 ≤ q → q < w5.heap.size → W.heap[q]? = w5.heap[q]?) : OwnP w b4 W ps v := by
  obtain ⟨cs, h1, h2⟩ := h
  exact ⟨cs, own_move50 h1 hs, h2⟩
theorem C50_at {w0 w : World} {base : Nat} {ps : List S50} {A : Option Addr} {n c : Nat} (h : OwnP w0 base w ps (.slice A n c)) (hb : Below w0.heap.size w0 w) : k50.C w A ps.length ps := by
  obtain ⟨A', c', he, hC⟩ := C50_of (W := w) h hb
  injection he with h1 h2 h3
  subst h1
  exact hC
theorem rd50_mem (xs : List S50) (i : Nat) (h : i < xs.length) : rd_T50 xs (i : Int) = xs[i] := by
  unfold rd_T50
  rw [Int.toNat_natCast, List.getD_eq_getElem?_getD, List.getElem?_eq_getElem h]; rfl
/-- The n-th of what is told, where all that was told is right. -/
theorem right_at {w0 : World} {ys pre : List (PartV w0)} {z : PartV w0} {ps : List S50} (h : ys.map proj = ps) (hp : (pre ++ [z]) <+: ys) : rd_T50 ps (pre.length : Int) = proj z := by
  obtain ⟨r, rfl⟩ := hp
  subst h
  rw [rd50_mem _ _ (by simp)]
  simp
theorem fine_at {w0 : World} {ys : List (PartV w0)} {ps : List S50} (h : ys.map proj = ps) (i : Nat) (hi : i < ps.length) : okX (rd_T50 ps (i : Int)).f1 := by
  subst h
  rw [rd50_mem _ _ hi, List.getElem_map]
  exact (ys[i]'(by simpa using hi)).2.2
set_option maxHeartbeats 16000000 in
set_option maxRecDepth 100000 in
theorem walks_walk (x : S28) (vx : Value) (most : Int) (w : World) (hm : (Lit.int .i64 most).wf = true) (hN : Each (fun y => NumS y.f2) x) (hx : XR w vx x) : CallsIn Fence.wide 10 Try.prog 8 #[vx, .int .i64 most] w fun e' w' => e' = .returned (.bool true) ∧ Below w.heap.size w w' := by
  have HN := Aside0.mk hN
  have HX := Aside0.mk hx
  obtain ⟨A3x, c3x, A5x, c5x, A6x, c6x, rfl, l3, g3, l5, g5, l6, g6⟩ := hx
  clear l3 g3 l5 g5 l6 g6 hN
  refine callsIn_of_wp_marks Try.func8 rfl trivial ?_ rfl
  simp only [Try.ntmps8, List.size_toArray, List.length_cons, List.length_nil, Nat.reduceAdd, Nat.reduceSub, Array.replicate_succ, Array.replicate_zero, List.push_toArray, List.append_toArray, List.nil_append, List.cons_append]
  gi_wp2_with fail
  obtain ⟨wb, hwb⟩ : ∃ wb : World, wb = ((w.alloc (.cells #[.int .i64 x.f0, .int .i64 x.f1, .bool x.f2.f0, .slice A3x x.f2.f1.length c3x, .bool x.f2.f2, .slice A5x x.f2.f3.length c5x, .slice A6x x.f3.length c6x] 28)).alloc (.cells #[.int .i64 most] 3)).alloc (.cells #[.bool false] 4) := ⟨_, rfl⟩
  have HB0 := Aside0.mk (show Below w.heap.size w wb by rw [hwb]; exact below_alloc (below_alloc (below_alloc (Below.refl _ _) _) _) _)
  have H3 := blk_n0 w (.cells #[.int .i64 x.f0, .int .i64 x.f1, .bool x.f2.f0, .slice A3x x.f2.f1.length c3x, .bool x.f2.f2, .slice A5x x.f2.f3.length c5x, .slice A6x x.f3.length c6x] 28) (.cells #[.int .i64 most] 3) (.cells #[.bool false] 4)
  rw [← hwb] at H3
  have Hm0 := Aside0.mk H3.1
  have Hk0 := Aside0.mk (show Boxed wb (w.heap.size + 1) 3 (.int .i64 most) from H3.2.1)
  have Hr0 := Aside0.mk (show Boxed wb (w.heap.size + 2) 4 (.bool false) from H3.2.2)
  have HSZ := Aside0.mk (show wb.heap.size = w.heap.size + 3 by rw [hwb]; simp [World.size_alloc])
  rw [← hwb]
  clear H3 hwb
  refine ⟨trivial, ?_⟩
  try refine ⟨(fun h => by cases h), ?_⟩
  refine CallsIn.mono (callsIn_wide.2 (awake_any _)) ?_
  rintro e' w1 ⟨rfl, hb⟩
  have HB1 := Aside0.mk (below_step HB0.out hb)
  have Hm1 := Aside0.mk (blk_below Hm0.out hb)
  have Hk1 := Aside0.mk (boxed_below Hk0.out hb)
  have Hr1 := Aside0.mk (boxed_below Hr0.out hb)
  have HS1 := Aside0.mk (hb.size)
  clear hb
  obtain ⟨m0, m1, m2, m3, m4, m5, m6⟩ := ncells Hm1.out
  gi_wp2_with fail
  refine ⟨trivial, ?_⟩
  try refine ⟨(fun h => by cases h), ?_⟩
  refine CallsIn.mono (callsIn_wide.2 (few_any x _ _ (HX.out.below HB1.out))) ?_
  rintro e' w2 ⟨⟨fa, rfl, hfa⟩, hb⟩
  have HB2 := Aside0.mk (below_step HB1.out hb)
  have Hm2 := Aside0.mk (blk_below Hm1.out hb)
  have Hk2 := Aside0.mk (boxed_below Hk1.out hb)
  have Hr2 := Aside0.mk (boxed_below Hr1.out hb)
  have HS2 := Aside0.mk (hb.size)
  have HFA := Aside0.mk hfa
  clear hb hfa
  clear m0 m1 m2 m3 m4 m5 m6
  cases fa with
  | false =>
    gi_wp2_with fail
    refine ⟨trivial, ?_⟩
    try refine ⟨(fun h => by cases h), ?_⟩
    refine CallsIn.mono (callsIn_wide.2 (awake_any _)) ?_
    rintro e' w3 ⟨rfl, hb⟩
    have HB3 := Aside0.mk (below_step HB2.out hb)
    have Hm3 := Aside0.mk (blk_below Hm2.out hb)
    have Hk3 := Aside0.mk (boxed_below Hk2.out hb)
    have Hr3 := Aside0.mk (boxed_below Hr2.out hb)
    clear hb
    have cR := Hr3.out.cell
    have fR := Hr3.out.frozen
    gi_wp2
    have hc5 := (Hr3.out.set (.bool true)).cell
    refine ⟨.bool true, ?_, rfl, below_set HB3.out (by omega)⟩
    simp [results, Try.f8, go_sem, hc5]
  | true =>
    have HS := Aside0.mk (HFA.out rfl)
    have HF := Aside0.mk (fine_num8 HN.out HS.out)
    clear HFA
    obtain ⟨wv, hwv⟩ : ∃ wv : World, wv = w2.alloc (.cells #[.slice none 0 0] 45) := ⟨_, rfl⟩
    have hb : Below w2.heap.size w2 wv := by rw [hwv]; exact below_alloc (Below.refl _ _) _
    have HV3 := Aside0.mk (show Boxed wv w2.heap.size 45 (.slice none 0 0) by rw [hwv]; exact heap_alloc_new w2 _)
    have HVne0 := Aside0.mk (show w.heap.size + 2 < w2.heap.size by have h1 := HSZ.out; have h2 := HS1.out; have h3 := HS2.out; omega)
    have HB3 := Aside0.mk (below_step HB2.out hb)
    have Hm3 := Aside0.mk (blk_below Hm2.out hb)
    have Hk3 := Aside0.mk (boxed_below Hk2.out hb)
    have Hr3 := Aside0.mk (boxed_below Hr2.out hb)
    clear hb
    obtain ⟨m0, m1, m2, m3, m4, m5, m6⟩ := ncells Hm3.out
    rw [hwv] at m0 m1 m2 m3 m4 m5 m6
    gi_wp2_with fail
    rw [← hwv]
    clear hwv m0 m1 m2 m3 m4 m5 m6
    refine ⟨trivial, ?_⟩
    try refine ⟨(fun h => by cases h), ?_⟩
    refine CallsIn.mono (callsIn_wide.2 (refright_any x _ _ HS.out HF.out (HX.out.below HB3.out))) ?_
    rintro e' w4 ⟨rfl, hb⟩
    have HB4 := Aside0.mk (below_step HB3.out hb)
    have Hm4 := Aside0.mk (blk_below Hm3.out hb)
    have Hk4 := Aside0.mk (boxed_below Hk3.out hb)
    have Hr4 := Aside0.mk (boxed_below Hr3.out hb)
    have HV4 := Aside0.mk (boxed_below HV3.out hb)
    clear hb
    cases hr : rightT x with
    | false =>
      have HR := Aside0.mk hr
      clear hr
      obtain ⟨wq, hwq⟩ : ∃ wq : World, wq = w4 := ⟨_, rfl⟩
      have HBq := Aside0.mk (show Below w.heap.size w wq by rw [hwq]; exact HB4.out)
      have Hmq := Aside0.mk (show wq.heap[w.heap.size]? = some (.cells #[.int .i64 x.f0, .int .i64 x.f1, .bool x.f2.f0, .slice A3x x.f2.f1.length c3x, .bool x.f2.f2, .slice A5x x.f2.f3.length c5x, .slice A6x x.f3.length c6x] 28 (0, 0)) by rw [hwq]; exact Hm4.out)
      have Hkq := Aside0.mk (show Boxed wq (w.heap.size + 1) 3 (.int .i64 most) by rw [hwq]; exact Hk4.out)
      have Hrq := Aside0.mk (show Boxed wq (w.heap.size + 2) 4 (.bool false) by rw [hwq]; exact Hr4.out)
      have HVq := Aside0.mk (show Boxed wq w2.heap.size 45 (.slice none ([] : List S50).length 0) by rw [hwq]; exact HV4.out)
      have HOq := Aside0.mk (show OwnP w w4.heap.size wq ([] : List S50) (.slice none ([] : List S50).length 0) from ⟨[], World.ownsRow_nil _ _ _ _, fun W hW => ⟨rfl, fun j p h => by simp at h⟩⟩)
      have HVlt := Aside0.mk (show w2.heap.size < w4.heap.size from HV4.out.lt)
      have HW4q := Aside0.mk (show w4.heap.size ≤ wq.heap.size by rw [hwq]; exact Nat.le_refl _)
      have HSQ := Aside0.mk (show wq.heap.size = wq.heap.size from rfl)
      obtain ⟨w6, hw6⟩ : ∃ w6 : World, w6 = wq.alloc (.cells #[.int .i64 0] 3) := ⟨_, rfl⟩
      have hb : Below wq.heap.size wq w6 := by rw [hw6]; exact below_alloc (Below.refl _ _) _
      have HN6 := Aside0.mk (show Boxed w6 (wq.heap.size) 3 (.int .i64 ((0 : Nat) : Int)) by rw [← HSQ.out, hw6]; exact heap_alloc_new wq _)
      have HSZ6 := Aside0.mk (show w6.heap.size = wq.heap.size + 1 by rw [hw6]; simp [World.size_alloc])
      have HB6 := Aside0.mk (below_step HBq.out hb)
      have Hm6 := Aside0.mk (blk_below Hmq.out hb)
      have Hk6 := Aside0.mk (boxed_below Hkq.out hb)
      have Hr6 := Aside0.mk (boxed_below Hrq.out hb)
      have HV6 := Aside0.mk (boxed_below HVq.out hb)
      have HS6 := Aside0.mk (fun q (h : q < wq.heap.size) => hb.block q h)
      clear hb
      obtain ⟨m0, m1, m2, m3, m4, m5, m6⟩ := ncells Hm6.out
      rw [hw6, hwq] at m0 m1 m2 m3 m4 m5 m6
      gi_wp2_with fail
      rw [← hwq, ← hw6]
      clear hwq hw6 m0 m1 m2 m3 m4 m5 m6
      refine ⟨trivial, ?_⟩
      try refine ⟨(fun h => by cases h), ?_⟩
      refine CallsIn.mono (callsIn_wide.2 (Walk_any #[.int .i64 x.f0, .int .i64 x.f1, .bool x.f2.f0, .slice A3x x.f2.f1.length c3x, .bool x.f2.f2, .slice A5x x.f2.f3.length c5x, .slice A6x x.f3.length c6x] _ _ _ _ _ _ _ w6 rfl (by kernel_rfl))) ?_
      rintro e' w7 ⟨rfl, hw7⟩
      have hb : Below w6.heap.size w6 w7 := by rw [hw7]; exact below_alloc (Below.refl _ _) _
      have HC7 := Aside0.mk (show w7.heap[w6.heap.size]? = some (.cells #[.int .i64 x.f0, .int .i64 x.f1, .bool x.f2.f0, .slice A3x x.f2.f1.length c3x, .bool x.f2.f2, .slice A5x x.f2.f3.length c5x, .slice A6x x.f3.length c6x] 28 (0, 0)) by rw [hw7]; exact heap_alloc_new w6 _)
      have HSZ7 := Aside0.mk (show w7.heap.size = w6.heap.size + 1 by rw [hw7]; simp [World.size_alloc])
      have HG7 := Aside0.mk (show Big w wq (w.heap.size + 1) (w.heap.size + 2) w2.heap.size (wq.heap.size) w4.heap.size most (.slice none (([] : List S50)).length 0) 0 w7 from
        ⟨boxed_below HN6.out hb, boxed_below Hk6.out hb, boxed_below Hr6.out hb, boxed_below HV6.out hb, below_step HB6.out hb, fun q h1 h2 => (hb.block q (by have := HSZ6.out; omega)).trans (HS6.out q h2)⟩)
      clear hb hw7
      obtain ⟨ys, hys, hseq⟩ := walk1_in x (.agg #[.int .i64 x.f0, .int .i64 x.f1, .bool x.f2.f0, .slice A3x x.f2.f1.length c3x, .bool x.f2.f2, .slice A5x x.f2.f3.length c5x, .slice A6x x.f3.length c6x]) w6.heap.size 9 w w7 (fun W => Below w.heap.size w W ∧ W.heap[w6.heap.size]? = some (.cells #[.int .i64 x.f0, .int .i64 x.f1, .bool x.f2.f0, .slice A3x x.f2.f1.length c3x, .bool x.f2.f2, .slice A5x x.f2.f3.length c5x, .slice A6x x.f3.length c6x] 28 (0, 0))) (fun W W' => Below w.heap.size W W' ∧ W'.heap[w6.heap.size]? = W.heap[w6.heap.size]?)
        ⟨fun W h => h.1, fun W W' h k => ⟨h.1.trans k.1, k.2.trans h.2⟩, fun W W' h k => ⟨below_step h.1 k, blk_below h.2 k⟩, fun A B C h k => ⟨h.1.trans k.1, k.2.trans h.2⟩, fun W => ⟨Below.refl _ _, rfl⟩⟩
        ⟨HG7.out.b, HC7.out⟩ HX.out HF.out (fun cs e W h => by injection e with e; rw [← e]; exact h.2)
      rw [HR.out, if_neg (by decide)] at hys
      have hlen : ys.length = (([] : List S50)).length := by rw [← hys, List.length_map]
      have HYS := Aside0.mk hys
      have HLN := Aside0.mk (show (([] : List S50)).length ≤ 40 from by simp)
      clear hys
      gi_wp2_with fail
      have hsz := HSZ6.out
      have hsz7 := HSZ7.out
      have hVlt := HVq.out.lt
      have hVne := HVlt.out
      have hMlt := Hrq.out.lt
      have hw4q := HW4q.out
      have hsq := HSQ.out
      have hw0s := Aside0.mk HG7.out.b.size
      refine wpIn_rangeFunc_ownH rfl (by omega) (gf := 37) (lb := #[.pointer (some ⟨w6.heap.size, 0, none⟩)]) rfl trivial (enters_of Try.func37 (by kernel_rfl) rfl) hseq
        (fun h k => ⟨h.1.trans k.1, k.2.trans h.2⟩) (fun W l o o' hl h h1 h2 => ⟨belowK_b (w := w) (Nat.le_refl _) W l o o' (by omega) h h1 h2, World.putObj_heap_other (by omega)⟩) (Below.refl _ _) (fun _ => rfl)
        (fun pre W => Big w wq (w.heap.size + 1) (w.heap.size + 2) w2.heap.size (wq.heap.size) w4.heap.size most (.slice none (([] : List S50)).length 0) pre.length W ∧ w7.heap.size ≤ W.heap.size)
        (fun c pre W => (c = .ret ∧ ¬ pre <+: ys) ∨ (c = .exit 0 ∧ most = (pre.length : Int) ∧ Big w wq (w.heap.size + 1) (w.heap.size + 2) w2.heap.size (wq.heap.size) w4.heap.size most (.slice none (([] : List S50)).length 0) pre.length W ∧ w7.heap.size ≤ W.heap.size))
        (fun s A B row hs hg hr => ⟨hs.1.own (by have := hw0s.out; omega) (by omega) (by have := hs.2; omega) hg hr, Nat.le_trans hs.2 hg.size⟩)
        (fun c s A B row hs hg hr => hs.imp id (fun h => ⟨h.1, h.2.1, h.2.2.1.own (by have := hw0s.out; omega) (by omega) (by have := h.2.2.2; omega) hg hr, Nat.le_trans h.2.2.2 hg.size⟩))
        ⟨HG7.out, by omega⟩
        (fun z a' W => ∃ (B8 : Nat) (cs : Array Value) (c0 : Value) (c1 : Value) (c2 : Value) (c9 : Value) (c10 : Value) (c11 : Value) (c12 : Value) (c13 : Value) (c14 : Value) (c15 : Value) (c16 : Value) (c17 : Value) (c18 : Value) (c19 : Value) (c20 : Value) (c21 : Value) (c22 : Value) (c23 : Value) (c24 : Value) (c25 : Value) (c26 : Value) (c27 : Value) (c28 : Value) (c29 : Value) (c30 : Value) (c31 : Value) (c32 : Value) (c33 : Value) (c34 : Value) (c35 : Value) (c36 : Value) (c37 : Value) (c38 : Value) (c39 : Value) (c40 : Value) (c41 : Value) (c42 : Value) (c43 : Value) (c44 : Value) (c45 : Value) (c46 : Value) (c47 : Value) (c48 : Value) (c49 : Value) (c50 : Value) (c51 : Value) (c52 : Value) (c53 : Value) (c54 : Value) (c55 : Value) (c56 : Value) (c57 : Value) (c58 : Value) (c59 : Value) (c60 : Value) (c61 : Value) (c62 : Value) (c63 : Value) (c64 : Value) (c65 : Value) (c66 : Value) (c67 : Value) (c68 : Value) (c69 : Value) (c70 : Value) (c71 : Value), w7.heap.size ≤ B8 ∧ z.1.2.1 = .agg cs ∧ W.heap[B8]? = some (.cells cs 28 (0, 0)) ∧ a' = ⟨#[c0, c1, c2, .pointer (some ⟨w.heap.size + 1, 0, none⟩), .pointer (some ⟨w.heap.size + 2, 0, none⟩), .pointer (some ⟨w2.heap.size, 0, none⟩), .pointer (some ⟨wq.heap.size, 0, none⟩), .int .i64 z.1.1, .pointer (some ⟨B8, 0, none⟩), c9, c10, c11, c12, c13, c14, c15, c16, c17, c18, c19, c20, c21, c22, c23, c24, c25, c26, c27, c28, c29, c30, c31, c32, c33, c34, c35, c36, c37, c38, c39, c40, c41, c42, c43, c44, c45, c46, c47, c48, c49, c50, c51, c52, c53, c54, c55, c56, c57, c58, c59, c60, c61, c62, c63, c64, c65, c66, c67, c68, c69, c70, c71], []⟩)
        (fun z a' _ X Y row hs hg hr => by
          obtain ⟨B8, cs, c0, c1, c2, c9, c10, c11, c12, c13, c14, c15, c16, c17, c18, c19, c20, c21, c22, c23, c24, c25, c26, c27, c28, c29, c30, c31, c32, c33, c34, c35, c36, c37, c38, c39, c40, c41, c42, c43, c44, c45, c46, c47, c48, c49, c50, c51, c52, c53, c54, c55, c56, c57, c58, c59, c60, c61, c62, c63, c64, c65, c66, c67, c68, c69, c70, c71, h1, h2, h3, h4⟩ := hs
          exact ⟨B8, cs, c0, c1, c2, c9, c10, c11, c12, c13, c14, c15, c16, c17, c18, c19, c20, c21, c22, c23, c24, c25, c26, c27, c28, c29, c30, c31, c32, c33, c34, c35, c36, c37, c38, c39, c40, c41, c42, c43, c44, c45, c46, c47, c48, c49, c50, c51, c52, c53, c54, c55, c56, c57, c58, c59, c60, c61, c62, c63, c64, c65, c66, c67, c68, c69, c70, c71, h1, h2, (hg.block B8 (Array.getElem?_eq_some_iff.1 h3).1 (fun e => by obtain ⟨_, o, ho, hc⟩ := hr B8 e.symm; rw [h3] at ho; cases ho; cases hc)).trans h3, h4⟩)
        ?assign ?body ?done ?stop
      case assign =>
        intro l pre z W K hI hK
        obtain ⟨E3, Ec3, E5, Ec5, E6, Ec6, hv, _⟩ := z.2.1
        have he : encP z = #[.int .i64 z.1.1, .agg #[.int .i64 z.1.2.2.f0, .int .i64 z.1.2.2.f1, .bool z.1.2.2.f2.f0, .slice E3 z.1.2.2.f2.f1.length Ec3, .bool z.1.2.2.f2.f2, .slice E5 z.1.2.2.f2.f3.length Ec5, .slice E6 z.1.2.2.f3.length Ec6]] := by unfold encP; rw [hv]
        rw [he]
        have HK := Aside0.mk hK
        have HV := Aside0.mk hv
        have HI := Aside0.mk hI
        clear hK hv he hI hseq
        gi_wp2
        refine HK.out _ _ ((KeepsOthers.alloc _ _).from _) ⟨(Below.refl w.heap.size W).alloc HI.out.1.b.size _, Below.heap_alloc W _ _ (by have := HI.out.2; omega)⟩ ⟨HI.out.1.grow (below_alloc (Below.refl _ _) _) (by have := HI.out.2; omega), by have := HI.out.2; simp only [World.size_alloc]; omega⟩ ?_
        exact ⟨W.heap.size, _, _, _, _, _, _, _, _, _, _, _, _, _, _, _, _, _, _, _, _, _, _, _, _, _, _, _, _, _, _, _, _, _, _, _, _, _, _, _, _, _, _, _, _, _, _, _, _, _, _, _, _, _, _, _, _, _, _, _, _, _, _, _, _, _, _, _, HI.out.2, HV.out, heap_alloc_new W _, rfl⟩
      
      case body =>
        intro l pre z a' W hl hr' hI hA hlt
        rw [hlen] at hlt
        exact absurd hlt (by simp)
      case done =>
        rintro D zs W hD rfl ⟨hG, hWs⟩ hK
        have hz : zs = [] := List.eq_nil_of_length_eq_zero (by rw [hlen]; rfl)
        subst hz
        have cN := hG.n.cell
        have cV2 := hG.v.cell
        have cM := hG.m.cell
        have cR := hG.r.cell
        have fR := hG.r.frozen
        have HG := Aside0.mk hG
        have HSS := Aside0.mk (And.intro hsz (And.intro hsz7 (And.intro hD hsq)))
        have HKK := Aside0.mk hK
        clear hG hsz hsz7 hVlt hVne hMlt hw4q hsq hD hWs hlen hseq hK
        gi_wp2_with fail
        obtain ⟨hsz, hsz7, hD, hsq⟩ := HSS.out
        have hws := hw0s.out
        have hK' := (KeepsOthers.setCell W ⟨w.heap.size + 2, 0, none⟩ (.bool true)).same D _ HKK.out rfl
        refine ⟨by simp, .inl ⟨_, _, rfl, run_takeDeferred hK', ?_⟩⟩
        have hc5 := cell_kept (HG.out.r.set (.bool true)).cell (grownBy_putObj' _ D (.deferred none)) (fun r e => by cases e; exact ⟨_, hK', rfl⟩)
        refine ⟨.bool true, ?_, rfl, (below_set HG.out.b (by omega)).trans (belowK_b (w := w) (Nat.le_refl _) _ D _ _ (by omega) hK' rfl rfl)⟩
        simp [results, Try.f8, go_sem, hc5]
      case stop =>
        rintro D c pre W hD hpre hix hK
        have hz : pre = [] := by
          have h1 := hpre.length_le
          rw [hlen] at h1
          exact List.eq_nil_of_length_eq_zero (Nat.le_zero.1 h1)
        subst hz
        rcases hix with ⟨rfl, hn⟩ | ⟨rfl, hmo, hG, hWs⟩
        · exact absurd hpre hn
        · have cN := hG.n.cell
          have cV2 := hG.v.cell
          have cM := hG.m.cell
          have cR := hG.r.cell
          have fR := hG.r.frozen
          have HG := Aside0.mk hG
          have HSS := Aside0.mk (And.intro hsz (And.intro hsz7 (And.intro hD hsq)))
          have HKK := Aside0.mk hK
          clear hG hsz hsz7 hVlt hVne hMlt hw4q hsq hD hWs hlen hseq hK hmo hpre
          gi_wp2_with fail
          obtain ⟨hsz, hsz7, hD, hsq⟩ := HSS.out
          have hws := hw0s.out
          have hK' := (KeepsOthers.setCell W ⟨w.heap.size + 2, 0, none⟩ (.bool true)).same D _ HKK.out rfl
          refine ⟨by simp, .inl ⟨_, _, rfl, run_takeDeferred hK', ?_⟩⟩
          have hc5 := cell_kept (HG.out.r.set (.bool true)).cell (grownBy_putObj' _ D (.deferred none)) (fun r e => by cases e; exact ⟨_, hK', rfl⟩)
          refine ⟨.bool true, ?_, rfl, (below_set HG.out.b (by omega)).trans (belowK_b (w := w) (Nat.le_refl _) _ D _ _ (by omega) hK' rfl rfl)⟩
          simp [results, Try.f8, go_sem, hc5]
    | true =>
      have HR := Aside0.mk hr
      clear hr
      obtain ⟨m0, m1, m2, m3, m4, m5, m6⟩ := ncells Hm4.out
      gi_wp2_with fail
      refine ⟨trivial, ?_⟩
      try refine ⟨(fun h => by cases h), ?_⟩
      refine CallsIn.mono (callsIn_wide.2 (parts_any _ x _ 0 w w4 rfl (fits_8 HR.out).1 (by omega) (by have := (fits_8 HR.out).2; omega) HX.out HB4.out)) ?_
      rintro e' w5 ⟨⟨v, rfl, hO⟩, hb⟩
      have HB5 := Aside0.mk (below_step HB4.out hb)
      have Hm5 := Aside0.mk (blk_below Hm4.out hb)
      have Hk5 := Aside0.mk (boxed_below Hk4.out hb)
      have Hr5 := Aside0.mk (boxed_below Hr4.out hb)
      have HV5 := Aside0.mk (boxed_below HV4.out hb)
      obtain ⟨A, cc, rfl, hC⟩ := C50_of (W := w) hO HB5.out
      have HO5 := Aside0.mk hO
      have HW45 := Aside0.mk hb.size
      clear hb hC hO
      clear m0 m1 m2 m3 m4 m5 m6
      obtain ⟨wq, hwq⟩ : ∃ wq : World, wq = w5.setCell ⟨w2.heap.size, 0, none⟩ (.slice A (partsT x 0).length cc) := ⟨_, rfl⟩
      have HBq := Aside0.mk (show Below w.heap.size w wq by rw [hwq]; exact below_set HB5.out (by have := HVne0.out; omega))
      have hq5 : ∀ q, q ≠ w2.heap.size → wq.heap[q]? = w5.heap[q]? := fun q hq => by rw [hwq]; exact Below.heap_setCell _ _ _ q hq
      have Hmq := Aside0.mk ((hq5 w.heap.size (by have := HVne0.out; omega)).trans Hm5.out)
      have Hkq := Aside0.mk (show Boxed wq (w.heap.size + 1) 3 (.int .i64 most) from (hq5 _ (by have := HVne0.out; omega)).trans Hk5.out)
      have Hrq := Aside0.mk (show Boxed wq (w.heap.size + 2) 4 (.bool false) from (hq5 _ (by have := HVne0.out; omega)).trans Hr5.out)
      have HVq := Aside0.mk (show Boxed wq w2.heap.size 45 (.slice A (partsT x 0).length cc) by rw [hwq]; exact HV5.out.set _)
      have hszq : wq.heap.size = w5.heap.size := by rw [hwq]; simp [World.setCell]
      have HOq := Aside0.mk (own_same HO5.out (W := wq) (fun q h1 h2 => hq5 q (by have := HV4.out.lt; omega)))
      have HVlt := Aside0.mk (show w2.heap.size < w4.heap.size from HV4.out.lt)
      have HW4q := Aside0.mk (show w4.heap.size ≤ wq.heap.size by have := HW45.out; omega)
      have HSQ := Aside0.mk hszq
      clear hq5 hszq
      have cV := HV5.out.cell
      have fV := HV5.out.frozen
      obtain ⟨w6, hw6⟩ : ∃ w6 : World, w6 = wq.alloc (.cells #[.int .i64 0] 3) := ⟨_, rfl⟩
      have hb : Below wq.heap.size wq w6 := by rw [hw6]; exact below_alloc (Below.refl _ _) _
      have HN6 := Aside0.mk (show Boxed w6 (w5.heap.size) 3 (.int .i64 ((0 : Nat) : Int)) by rw [← HSQ.out, hw6]; exact heap_alloc_new wq _)
      have HSZ6 := Aside0.mk (show w6.heap.size = wq.heap.size + 1 by rw [hw6]; simp [World.size_alloc])
      have HB6 := Aside0.mk (below_step HBq.out hb)
      have Hm6 := Aside0.mk (blk_below Hmq.out hb)
      have Hk6 := Aside0.mk (boxed_below Hkq.out hb)
      have Hr6 := Aside0.mk (boxed_below Hrq.out hb)
      have HV6 := Aside0.mk (boxed_below HVq.out hb)
      have HS6 := Aside0.mk (fun q (h : q < wq.heap.size) => hb.block q h)
      clear hb
      obtain ⟨m0, m1, m2, m3, m4, m5, m6⟩ := ncells Hm6.out
      rw [hw6, hwq] at m0 m1 m2 m3 m4 m5 m6
      gi_wp2_with fail
      rw [← hwq, ← hw6]
      clear hwq hw6 m0 m1 m2 m3 m4 m5 m6
      refine ⟨trivial, ?_⟩
      try refine ⟨(fun h => by cases h), ?_⟩
      refine CallsIn.mono (callsIn_wide.2 (Walk_any #[.int .i64 x.f0, .int .i64 x.f1, .bool x.f2.f0, .slice A3x x.f2.f1.length c3x, .bool x.f2.f2, .slice A5x x.f2.f3.length c5x, .slice A6x x.f3.length c6x] _ _ _ _ _ _ _ w6 rfl (by kernel_rfl))) ?_
      rintro e' w7 ⟨rfl, hw7⟩
      have hb : Below w6.heap.size w6 w7 := by rw [hw7]; exact below_alloc (Below.refl _ _) _
      have HC7 := Aside0.mk (show w7.heap[w6.heap.size]? = some (.cells #[.int .i64 x.f0, .int .i64 x.f1, .bool x.f2.f0, .slice A3x x.f2.f1.length c3x, .bool x.f2.f2, .slice A5x x.f2.f3.length c5x, .slice A6x x.f3.length c6x] 28 (0, 0)) by rw [hw7]; exact heap_alloc_new w6 _)
      have HSZ7 := Aside0.mk (show w7.heap.size = w6.heap.size + 1 by rw [hw7]; simp [World.size_alloc])
      have HG7 := Aside0.mk (show Big w wq (w.heap.size + 1) (w.heap.size + 2) w2.heap.size (w5.heap.size) w4.heap.size most (.slice A (partsT x 0).length cc) 0 w7 from
        ⟨boxed_below HN6.out hb, boxed_below Hk6.out hb, boxed_below Hr6.out hb, boxed_below HV6.out hb, below_step HB6.out hb, fun q h1 h2 => (hb.block q (by have := HSZ6.out; omega)).trans (HS6.out q h2)⟩)
      clear hb hw7
      obtain ⟨ys, hys, hseq⟩ := walk1_in x (.agg #[.int .i64 x.f0, .int .i64 x.f1, .bool x.f2.f0, .slice A3x x.f2.f1.length c3x, .bool x.f2.f2, .slice A5x x.f2.f3.length c5x, .slice A6x x.f3.length c6x]) w6.heap.size 9 w w7 (fun W => Below w.heap.size w W ∧ W.heap[w6.heap.size]? = some (.cells #[.int .i64 x.f0, .int .i64 x.f1, .bool x.f2.f0, .slice A3x x.f2.f1.length c3x, .bool x.f2.f2, .slice A5x x.f2.f3.length c5x, .slice A6x x.f3.length c6x] 28 (0, 0))) (fun W W' => Below w.heap.size W W' ∧ W'.heap[w6.heap.size]? = W.heap[w6.heap.size]?)
        ⟨fun W h => h.1, fun W W' h k => ⟨h.1.trans k.1, k.2.trans h.2⟩, fun W W' h k => ⟨below_step h.1 k, blk_below h.2 k⟩, fun A B C h k => ⟨h.1.trans k.1, k.2.trans h.2⟩, fun W => ⟨Below.refl _ _, rfl⟩⟩
        ⟨HG7.out.b, HC7.out⟩ HX.out HF.out (fun cs e W h => by injection e with e; rw [← e]; exact h.2)
      rw [HR.out, if_pos rfl] at hys
      have hlen : ys.length = (partsT x 0).length := by rw [← hys, List.length_map]
      have HYS := Aside0.mk hys
      have HLN := Aside0.mk (show (partsT x 0).length ≤ 40 from by rw [parts_len _ x 0 rfl]; exact (fits_8 HR.out).1)
      clear hys
      gi_wp2_with fail
      have hsz := HSZ6.out
      have hsz7 := HSZ7.out
      have hVlt := HVq.out.lt
      have hVne := HVlt.out
      have hMlt := Hrq.out.lt
      have hw4q := HW4q.out
      have hsq := HSQ.out
      have hw0s := Aside0.mk HG7.out.b.size
      refine wpIn_rangeFunc_ownH rfl (by omega) (gf := 37) (lb := #[.pointer (some ⟨w6.heap.size, 0, none⟩)]) rfl trivial (enters_of Try.func37 (by kernel_rfl) rfl) hseq
        (fun h k => ⟨h.1.trans k.1, k.2.trans h.2⟩) (fun W l o o' hl h h1 h2 => ⟨belowK_b (w := w) (Nat.le_refl _) W l o o' (by omega) h h1 h2, World.putObj_heap_other (by omega)⟩) (Below.refl _ _) (fun _ => rfl)
        (fun pre W => Big w wq (w.heap.size + 1) (w.heap.size + 2) w2.heap.size (w5.heap.size) w4.heap.size most (.slice A (partsT x 0).length cc) pre.length W ∧ w7.heap.size ≤ W.heap.size)
        (fun c pre W => (c = .ret ∧ ¬ pre <+: ys) ∨ (c = .exit 0 ∧ most = (pre.length : Int) ∧ Big w wq (w.heap.size + 1) (w.heap.size + 2) w2.heap.size (w5.heap.size) w4.heap.size most (.slice A (partsT x 0).length cc) pre.length W ∧ w7.heap.size ≤ W.heap.size))
        (fun s A B row hs hg hr => ⟨hs.1.own (by have := hw0s.out; omega) (by omega) (by have := hs.2; omega) hg hr, Nat.le_trans hs.2 hg.size⟩)
        (fun c s A B row hs hg hr => hs.imp id (fun h => ⟨h.1, h.2.1, h.2.2.1.own (by have := hw0s.out; omega) (by omega) (by have := h.2.2.2; omega) hg hr, Nat.le_trans h.2.2.2 hg.size⟩))
        ⟨HG7.out, by omega⟩
        (fun z a' W => ∃ (B8 : Nat) (cs : Array Value) (c0 : Value) (c1 : Value) (c2 : Value) (c9 : Value) (c10 : Value) (c11 : Value) (c12 : Value) (c13 : Value) (c14 : Value) (c15 : Value) (c16 : Value) (c17 : Value) (c18 : Value) (c19 : Value) (c20 : Value) (c21 : Value) (c22 : Value) (c23 : Value) (c24 : Value) (c25 : Value) (c26 : Value) (c27 : Value) (c28 : Value) (c29 : Value) (c30 : Value) (c31 : Value) (c32 : Value) (c33 : Value) (c34 : Value) (c35 : Value) (c36 : Value) (c37 : Value) (c38 : Value) (c39 : Value) (c40 : Value) (c41 : Value) (c42 : Value) (c43 : Value) (c44 : Value) (c45 : Value) (c46 : Value) (c47 : Value) (c48 : Value) (c49 : Value) (c50 : Value) (c51 : Value) (c52 : Value) (c53 : Value) (c54 : Value) (c55 : Value) (c56 : Value) (c57 : Value) (c58 : Value) (c59 : Value) (c60 : Value) (c61 : Value) (c62 : Value) (c63 : Value) (c64 : Value) (c65 : Value) (c66 : Value) (c67 : Value) (c68 : Value) (c69 : Value) (c70 : Value) (c71 : Value), w7.heap.size ≤ B8 ∧ z.1.2.1 = .agg cs ∧ W.heap[B8]? = some (.cells cs 28 (0, 0)) ∧ a' = ⟨#[c0, c1, c2, .pointer (some ⟨w.heap.size + 1, 0, none⟩), .pointer (some ⟨w.heap.size + 2, 0, none⟩), .pointer (some ⟨w2.heap.size, 0, none⟩), .pointer (some ⟨w5.heap.size, 0, none⟩), .int .i64 z.1.1, .pointer (some ⟨B8, 0, none⟩), c9, c10, c11, c12, c13, c14, c15, c16, c17, c18, c19, c20, c21, c22, c23, c24, c25, c26, c27, c28, c29, c30, c31, c32, c33, c34, c35, c36, c37, c38, c39, c40, c41, c42, c43, c44, c45, c46, c47, c48, c49, c50, c51, c52, c53, c54, c55, c56, c57, c58, c59, c60, c61, c62, c63, c64, c65, c66, c67, c68, c69, c70, c71], []⟩)
        (fun z a' _ X Y row hs hg hr => by
          obtain ⟨B8, cs, c0, c1, c2, c9, c10, c11, c12, c13, c14, c15, c16, c17, c18, c19, c20, c21, c22, c23, c24, c25, c26, c27, c28, c29, c30, c31, c32, c33, c34, c35, c36, c37, c38, c39, c40, c41, c42, c43, c44, c45, c46, c47, c48, c49, c50, c51, c52, c53, c54, c55, c56, c57, c58, c59, c60, c61, c62, c63, c64, c65, c66, c67, c68, c69, c70, c71, h1, h2, h3, h4⟩ := hs
          exact ⟨B8, cs, c0, c1, c2, c9, c10, c11, c12, c13, c14, c15, c16, c17, c18, c19, c20, c21, c22, c23, c24, c25, c26, c27, c28, c29, c30, c31, c32, c33, c34, c35, c36, c37, c38, c39, c40, c41, c42, c43, c44, c45, c46, c47, c48, c49, c50, c51, c52, c53, c54, c55, c56, c57, c58, c59, c60, c61, c62, c63, c64, c65, c66, c67, c68, c69, c70, c71, h1, h2, (hg.block B8 (Array.getElem?_eq_some_iff.1 h3).1 (fun e => by obtain ⟨_, o, ho, hc⟩ := hr B8 e.symm; rw [h3] at ho; cases ho; cases hc)).trans h3, h4⟩)
        ?assign ?body ?done ?stop
      case assign =>
        intro l pre z W K hI hK
        obtain ⟨E3, Ec3, E5, Ec5, E6, Ec6, hv, _⟩ := z.2.1
        have he : encP z = #[.int .i64 z.1.1, .agg #[.int .i64 z.1.2.2.f0, .int .i64 z.1.2.2.f1, .bool z.1.2.2.f2.f0, .slice E3 z.1.2.2.f2.f1.length Ec3, .bool z.1.2.2.f2.f2, .slice E5 z.1.2.2.f2.f3.length Ec5, .slice E6 z.1.2.2.f3.length Ec6]] := by unfold encP; rw [hv]
        rw [he]
        have HK := Aside0.mk hK
        have HV := Aside0.mk hv
        have HI := Aside0.mk hI
        clear hK hv he hI hseq
        gi_wp2
        refine HK.out _ _ ((KeepsOthers.alloc _ _).from _) ⟨(Below.refl w.heap.size W).alloc HI.out.1.b.size _, Below.heap_alloc W _ _ (by have := HI.out.2; omega)⟩ ⟨HI.out.1.grow (below_alloc (Below.refl _ _) _) (by have := HI.out.2; omega), by have := HI.out.2; simp only [World.size_alloc]; omega⟩ ?_
        exact ⟨W.heap.size, _, _, _, _, _, _, _, _, _, _, _, _, _, _, _, _, _, _, _, _, _, _, _, _, _, _, _, _, _, _, _, _, _, _, _, _, _, _, _, _, _, _, _, _, _, _, _, _, _, _, _, _, _, _, _, _, _, _, _, _, _, _, _, _, _, _, _, HI.out.2, HV.out, heap_alloc_new W _, rfl⟩
      
      case body =>
        rintro l pre z a' W hl ⟨r, hr'⟩ ⟨hG, hWs⟩ ⟨B8, cs, c0, c1, c2, c9, c10, c11, c12, c13, c14, c15, c16, c17, c18, c19, c20, c21, c22, c23, c24, c25, c26, c27, c28, c29, c30, c31, c32, c33, c34, c35, c36, c37, c38, c39, c40, c41, c42, c43, c44, c45, c46, c47, c48, c49, c50, c51, c52, c53, c54, c55, c56, c57, c58, c59, c60, c61, c62, c63, c64, c65, c66, c67, c68, c69, c70, c71, hB8, hv, h8, rfl⟩ hlt
        have hnN : pre.length < (partsT x 0).length := by rw [← hlen]; exact hlt
        have hC := C50_at (own_same HOq.out hG.s) hG.b
        obtain ⟨ad, F4, Fc4, F6, Fc6, F7, Fc7, hA, p0, p1, p2, p3, p4, p5, p6, p7, l4, g4, l6, g6, l7, g7⟩ := at_T50 hC (pre.length : Int) (by omega) (by omega)
        have hXX : XR W (.agg #[.int .i64 (rd_T50 (partsT x 0) (pre.length : Int)).f1.f0, .int .i64 (rd_T50 (partsT x 0) (pre.length : Int)).f1.f1, .bool (rd_T50 (partsT x 0) (pre.length : Int)).f1.f2.f0, .slice F4 (rd_T50 (partsT x 0) (pre.length : Int)).f1.f2.f1.length Fc4, .bool (rd_T50 (partsT x 0) (pre.length : Int)).f1.f2.f2, .slice F6 (rd_T50 (partsT x 0) (pre.length : Int)).f1.f2.f3.length Fc6, .slice F7 (rd_T50 (partsT x 0) (pre.length : Int)).f1.f3.length Fc7]) (rd_T50 (partsT x 0) (pre.length : Int)).f1 := ⟨F4, Fc4, F6, Fc6, F7, Fc7, rfl, l4, g4, l6, g6, l7, g7⟩
        have hXP : XR W (.agg cs) z.1.2.2 := hv ▸ z.2.1.below hG.b
        have hfx := (fine_at HYS.out pre.length hnN).2.2
        have hzok := z.2.2
        have hright := fun (h : pre ++ [z] <+: ys) => right_at HYS.out h
        rw [Int.toNat_natCast] at p0 p1 p2 p3 p4 p5 p6 p7
        have hcs := xr_size hXP
        subst hA
        generalize rd_T50 (partsT x 0) (pre.length : Int) = X' at *
        have HH := Aside0.mk (And.intro hG (And.intro hWs (And.intro hXX (And.intro hXP (And.intro hfx (And.intro hzok (And.intro hright h8)))))))
        have HP := Aside0.mk (And.intro p0 (And.intro p1 (And.intro p2 (And.intro p3 (And.intro p4 (And.intro p5 (And.intro p6 p7)))))))
        have HSS := Aside0.mk (And.intro hsz (And.intro hsz7 (And.intro hVlt (And.intro hVne (And.intro hMlt (And.intro hw4q hsq))))))
        clear hG hWs hXX hXP hfx hzok hright h8 p0 p1 p2 p3 p4 p5 p6 p7 l4 g4 l6 g6 l7 g7 hC hr' hseq hsz hsz7 hVlt hVne hMlt hw4q hsq
        gi_wp2_with fail
        refine r8_10 (.pointer (some ⟨w5.heap.size, 0, none⟩)) (.pointer (some ⟨w2.heap.size, 0, none⟩)) (.pointer (some ⟨B8, 0, none⟩)) (.pointer (some (ad.add (pre.length * 8)))) (.pointer (some (ad.add (pre.length * 8)))) (.pointer (some ⟨(ad.add (pre.length * 8)).block, (ad.add (pre.length * 8)).off + 1, none⟩)) (.agg cs) _ (some ad) (partsT x 0).length cc pre.length X'.f0 z.1.1 W
          (fun w' hb => load_int (boxed_below HH.out.1.n hb).cell) (fun w' hb => load_sl (boxed_below HH.out.1.v hb).cell) (fun w' hb => load_cs (blk_below HH.out.2.2.2.2.2.2.2 hb) hcs)
          (fun w' hb => load_int (pw_cell_below hb HP.out.1)) (fun w' hb => load_at7 (pw_cell_below hb HP.out.2.1) (pw_cell_below hb HP.out.2.2.1) (pw_cell_below hb HP.out.2.2.2.1) (pw_cell_below hb HP.out.2.2.2.2.1) (pw_cell_below hb HP.out.2.2.2.2.2.1) (pw_cell_below hb HP.out.2.2.2.2.2.2.1) (pw_cell_below hb HP.out.2.2.2.2.2.2.2))
          (fun w' => idx_50 ad _ cc pre.length hnN w') (fun w' => fld_0 _ w') (fun w' => fld_1 _ w') (by omega) (pre ++ [z] <+: ys) (fun h => by rw [HH.out.2.2.2.2.2.2.1 h]; rfl)
          (fun w' hb => says_calls (refsame_any _ X'.f1 z.1.2.2 _ _ w' rfl HH.out.2.2.2.2.1 (HH.out.2.2.1.below hb) (HH.out.2.2.2.1.below hb)) (fun h => by rw [HH.out.2.2.2.2.2.2.1 h]; rfl))
          (fun w' hb => says_calls (same_any _ z.1.2.2 X'.f1 _ _ w' rfl HH.out.2.2.2.2.2.1.1 HH.out.2.2.2.2.2.1.2.1 HH.out.2.2.2.2.2.1.2.2 (HH.out.2.2.2.1.below hb) (HH.out.2.2.1.below hb)) (fun h => by rw [HH.out.2.2.2.2.2.2.1 h]; rfl))
          l _ _ _ _ _ _ _ _ _ _ _ _ _ _ _ _ _ _ _ _ _ _ _ _ _ _ _ _ _ _ _ _ _ _ _ _ _ _ _ _ _ _ _ _ _ _ _ _ _ _ _ _ _ _ _ _ _ _ _ _ _ _ _ _ _ _ _ _ _ _ ?_
        intro u25 u26 u27 u28 u29 u30 u31 u32 u33 u34 u35 u36 u37 u38 u39 u40 u41 u42 u43 u44 u45 u46 u47 u48 u49 u50 u51 u52 u53 u54 u55 u56 c W2 hb hc
        have HB2 := Aside0.mk hb
        obtain ⟨hsz, hsz7, hVlt, hVne, hMlt, hw4q, hsq⟩ := HSS.out
        have HG2 := Aside0.mk (HH.out.1.grow hb (by have := HH.out.2.1; omega))
        have HK2 := Aside0.mk (KeepsFrom.of_grownBy (B := w7.heap.size) (grown_of hb) (fun j e => by cases e))
        have HCC := Aside0.mk hc
        have hcp : W2.heap[w6.heap.size]? = W.heap[w6.heap.size]? := hb.block _ (by have := HH.out.2.1; omega)
        have HCP := Aside0.mk hcp
        have hW2s : w7.heap.size ≤ W2.heap.size := Nat.le_trans HH.out.2.1 hb.size
        have HWS2 := Aside0.mk hW2s
        have hl1 : (pre ++ [z]).length = pre.length + 1 := by simp
        have HL1 := Aside0.mk hl1
        have HNX := Aside0.mk (HG2.out.next (by omega) (by omega) (by omega) (by omega) (by have := hw0s.out; omega))
        have HWK := Aside0.mk (show Below w.heap.size W (W2.setCell ⟨w5.heap.size, 0, none⟩ (.int .i64 ((pre.length : Int) + 1))) from (hb.mono HH.out.1.b.size).setCell (p := ⟨w5.heap.size, 0, none⟩) (by have := hw0s.out; simp; omega) _)
        have HWC := Aside0.mk (show (W2.setCell ⟨w5.heap.size, 0, none⟩ (.int .i64 ((pre.length : Int) + 1))).heap[w6.heap.size]? = W.heap[w6.heap.size]? from (Below.heap_setCell W2 ⟨w5.heap.size, 0, none⟩ _ _ (by simp; omega)).trans hcp)
        clear hb hc hcp hW2s hl1 hsz hsz7 hVlt hVne hMlt hw4q hsq
        cases c with
        | true =>
          have cR := HG2.out.r.cell
          have fR := HG2.out.r.frozen
          gi_wp2_with fail
          exact ⟨HK2.out.trans ((KeepsOthers.setCell _ _ _).from _), .inl ⟨rfl, fun h => absurd (HCC.out h) (by decide)⟩⟩
        | false =>
          have cN := HG2.out.n.cell
          have fN := HG2.out.n.frozen
          have cM := HG2.out.m.cell
          have cM2 := HNX.out.m.cell
          have hn40 : pre.length < 1000 := by have h1 := HLN.out; omega
          by_cases hmo : ((pre.length : Int) + 1) = most
          · have hm1 : (((pre.length : Int) + 1) == most) = true := by simpa using hmo
            have HMO := Aside0.mk hmo
            clear hmo
            gi_wp2_with fail
            exact ⟨HK2.out.trans ((KeepsOthers.setCell _ _ _).from _), .inr ⟨rfl, by rw [HL1.out, ← HMO.out]; rfl, by rw [HL1.out]; exact HNX.out, Nat.le_trans HWS2.out (KeepsOthers.setCell W2 _ _).size⟩⟩
          · have hm1 : (((pre.length : Int) + 1) == most) = false := by simpa using hmo
            clear hmo
            gi_wp2_with fail
            exact ⟨HK2.out.trans ((KeepsOthers.setCell _ _ _).from _), ⟨HWK.out, HWC.out⟩, by rw [HL1.out]; exact HNX.out, Nat.le_trans HWS2.out (KeepsOthers.setCell W2 _ _).size⟩
      case done =>
        rintro D zs W hD rfl ⟨hG, hWs⟩ hK
        have cN := hG.n.cell
        have cV2 := hG.v.cell
        have cM := hG.m.cell
        have cR := hG.r.cell
        have fR := hG.r.frozen
        have hle : ((zs.length : Int) == (((partsT x 0).length : Nat) : Int)) = true := by rw [hlen]; simp
        have HG := Aside0.mk hG
        have HSS := Aside0.mk (And.intro hsz (And.intro hsz7 (And.intro hD hsq)))
        have HKK := Aside0.mk hK
        clear hG hsz hsz7 hVlt hVne hMlt hw4q hsq hD hWs hlen hseq hK
        gi_wp2_with fail
        obtain ⟨hsz, hsz7, hD, hsq⟩ := HSS.out
        have hws := hw0s.out
        have hK' := (KeepsOthers.setCell W ⟨w.heap.size + 2, 0, none⟩ (.bool true)).same D _ HKK.out rfl
        refine ⟨by simp, .inl ⟨_, _, rfl, run_takeDeferred hK', ?_⟩⟩
        have hc5 := cell_kept (HG.out.r.set (.bool true)).cell (grownBy_putObj' _ D (.deferred none)) (fun r e => by cases e; exact ⟨_, hK', rfl⟩)
        refine ⟨.bool true, ?_, rfl, (below_set HG.out.b (by omega)).trans (belowK_b (w := w) (Nat.le_refl _) _ D _ _ (by omega) hK' rfl rfl)⟩
        simp [results, Try.f8, go_sem, hc5]
      case stop =>
        rintro D c pre W hD hpre hix hK
        rcases hix with ⟨rfl, hn⟩ | ⟨rfl, hmo, hG, hWs⟩
        · exact absurd hpre hn
        · have cN := hG.n.cell
          have cV2 := hG.v.cell
          have cM := hG.m.cell
          have cR := hG.r.cell
          have fR := hG.r.frozen
          have hmb : ((pre.length : Int) == most) = true := by rw [hmo]; simp
          have HG := Aside0.mk hG
          have HSS := Aside0.mk (And.intro hsz (And.intro hsz7 (And.intro hD hsq)))
          have HKK := Aside0.mk hK
          clear hG hsz hsz7 hVlt hVne hMlt hw4q hsq hD hWs hlen hseq hK hmo hpre
          have fin : ∀ w', w' = W.setCell ⟨w.heap.size + 2, 0, none⟩ (.bool true) → True := fun _ _ => trivial
          by_cases hle0 : (pre.length : Int) = (((partsT x 0).length : Nat) : Int)
          · have hle : ((pre.length : Int) == (((partsT x 0).length : Nat) : Int)) = true := by simpa using hle0
            clear hle0
            gi_wp2_with fail
            obtain ⟨hsz, hsz7, hD, hsq⟩ := HSS.out
            have hws := hw0s.out
            have hK' := (KeepsOthers.setCell W ⟨w.heap.size + 2, 0, none⟩ (.bool true)).same D _ HKK.out rfl
            refine ⟨by simp, .inl ⟨_, _, rfl, run_takeDeferred hK', ?_⟩⟩
            have hc5 := cell_kept (HG.out.r.set (.bool true)).cell (grownBy_putObj' _ D (.deferred none)) (fun r e => by cases e; exact ⟨_, hK', rfl⟩)
            refine ⟨.bool true, ?_, rfl, (below_set HG.out.b (by omega)).trans (belowK_b (w := w) (Nat.le_refl _) _ D _ _ (by omega) hK' rfl rfl)⟩
            simp [results, Try.f8, go_sem, hc5]
          · have hle : ((pre.length : Int) == (((partsT x 0).length : Nat) : Int)) = false := by simpa using hle0
            clear hle0
            gi_wp2_with fail
            obtain ⟨hsz, hsz7, hD, hsq⟩ := HSS.out
            have hws := hw0s.out
            have hK' := (KeepsOthers.setCell W ⟨w.heap.size + 2, 0, none⟩ (.bool true)).same D _ HKK.out rfl
            refine ⟨by simp, .inl ⟨_, _, rfl, run_takeDeferred hK', ?_⟩⟩
            have hc5 := cell_kept (HG.out.r.set (.bool true)).cell (grownBy_putObj' _ D (.deferred none)) (fun r e => by cases e; exact ⟨_, hK', rfl⟩)
            refine ⟨.bool true, ?_, rfl, (below_set HG.out.b (by omega)).trans (belowK_b (w := w) (Nat.le_refl _) _ D _ _ (by omega) hK' rfl rfl)⟩
            simp [results, Try.f8, go_sem, hc5]
theorem walks_arg {H : Type} {enc : TypeId × Value → H} {w : World} {base : Nat} {spare : Nat → Bool} {held : Bool} {r : Reach} {b1 : Nat} (v0 : Value) (d0 : DataW H) (p0 : List MemPlace) (h0 : DataW.Trod enc Try.prog w base spare held 28 v0 d0 p0) (k0 : Value.okWide Try.prog w r b1 28 v0) (a : Int) (ha : (Lit.int .i64 a).wf = true) : Calls Try.prog 8 #[v0, .int .i64 a] w fun e' w' => e' = .returned (.bool true) ∧ Below w.heap.size w w' := by
  obtain ⟨x, hx, hNx⟩ := expr_arg k0 h0
  exact callsIn_wide.1 (walks_walk x v0 a w ha hNx hx)
end Go.Proofs.Ytjkhajcngapjcaa.Q
