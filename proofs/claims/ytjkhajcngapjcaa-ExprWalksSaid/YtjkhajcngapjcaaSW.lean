/- expr.Walk: all parts come in their order, with their depths; printed by gen_walk05.py. -/
import Derived.RangeFuncNested
import Derived.RangeFuncBound
import Derived.RangeFuncCalls
import Derived.RangeFuncLeaves
import Derived.Shelf.Abstract
import Derived.WalkKit
import Derived.OwnWalkIn
import Derived.TacticsInMore
import Derived.LoopNIn
import Derived.LoopIn
import Derived.Test.YtjkhajcngapjcaaSP
import Derived.Test.YtjkhajcngapjcaaEA
import Derived.Test.YtjkhajcngapjcaaEP
namespace Go.Proofs.Ytjkhajcngapjcaa.Q
open Go.RowKit Go.Shelf Go.Proofs.YtjkhajcngapjcaaW.PrintWords Go.Proofs.YtjkhajcngapjcaaW.PrintLast Go.Proofs.YtjkhajcngapjcaaW.PrintMore
set_option linter.unusedVariables false
set_option linter.unusedSimpArgs false

attribute [local go_sem] Oper.semAt_some
theorem round_any {m m' : Nat} {P : Program} {l : Nat} {f : FuncId} {tmps : Array Value} {assign body : Code} {w : World} {R : Ending → World → Prop} (h : RoundIn Fence.wide m P l f tmps assign body w R) : RoundIn Fence.wide m' P l f tmps assign body w R := ⟨h.1, fun c cs _ => h.2 c cs (room_wide _)⟩
theorem yield_any {m : Nat} (m' : Nat) {P : Program} {l : Nat} {args : Array Value} {W : World} {R : Ending → World → Prop} (h : YieldAt Fence.wide m P l args W R) : YieldAt Fence.wide m' P l args W R := by
  obtain ⟨fn, tmps, assign, body, hy, hR⟩ := h
  exact ⟨fn, tmps, assign, body, hy, round_any hR⟩
def okX (y : S28) : Prop := sz y ≤ 40 ∧ dp y ≤ 8 ∧ Each (fun z => FineS z.f2) y
/-- A part that is told: its depth, its value, which reads so in the world w0. -/
abbrev PartV (w0 : World) := { p : Int × Value × S28 // XR w0 p.2.1 p.2.2 ∧ okX p.2.2 }
def proj {w0 : World} (p : PartV w0) : S50 := ⟨p.1.1, p.1.2.2⟩
def encP {w0 : World} (p : PartV w0) : Array Value := #[.int .i64 p.1.1, p.1.2.1]
def accP {α : Type} (f : Nat → List α) (i : Nat) : List α := ((List.range i).map f).flatten
theorem accP_succ {α : Type} (f : Nat → List α) (i : Nat) : accP f (i + 1) = accP f i ++ f i := by
  unfold accP; rw [List.range_succ, List.map_append, List.flatten_append]; simp
theorem accP_pre {α : Type} (f : Nat → List α) (i : Nat) : ∀ n, i ≤ n → accP f i <+: accP f n := by
  intro n
  induction n with
  | zero => intro h; rw [show i = 0 by omega]; exact ⟨[], by simp⟩
  | succ n ih =>
    intro h
    by_cases hi : i = n + 1
    · subst hi; exact ⟨[], by simp⟩
    · rw [accP_succ]; exact (ih (by omega)).trans ⟨f n, rfl⟩
theorem accP_len {α : Type} (f : Nat → List α) (i n : Nat) (h : i ≤ n) : (accP f i).length ≤ (accP f n).length := (accP_pre f i n h).length_le
theorem below_cell0 {w w1 : World} {a : Addr} {v : Value} (hb : Below w.heap.size w w1) (h : w.cell? a = some v) : w1.cell? a = some v := pw_cell_below hb h
/-- One row of rounds goes on, or one has said 'no more'. -/
def Goes {w0 : World} (J Jx : List (PartV w0) → World → Prop) (Kp : World → World → Prop) (pre ys : List (PartV w0)) (W : World) (e : Ending) (W' : World) : Prop :=
  (e = .returned (.bool true) ∧ J (pre ++ ys) W' ∧ Kp W W') ∨ (e = .returned (.bool false) ∧ ∃ q, q <+: ys ∧ Jx (pre ++ q) W')
/-- A part that lies at p in all worlds that are well; its rows lie in the world w0. -/
def NodeK (Ok : World → Prop) (w0 : World) (p : Addr) (x : S28) : Prop := ∃ (A3 : Option Addr) (c3 : Nat) (A5 : Option Addr) (c5 : Nat) (A6 : Option Addr) (c6 : Nat),
  (∀ w, Ok w → w.cell? p = some (.int .i64 x.f0) ∧ w.cell? ⟨p.block, p.off + 1, none⟩ = some (.int .i64 x.f1) ∧ w.cell? ⟨p.block, p.off + 2, none⟩ = some (.bool x.f2.f0) ∧ w.cell? ⟨p.block, p.off + 3, none⟩ = some (.slice A3 x.f2.f1.length c3) ∧
  w.cell? ⟨p.block, p.off + 4, none⟩ = some (.bool x.f2.f2) ∧ w.cell? ⟨p.block, p.off + 5, none⟩ = some (.slice A5 x.f2.f3.length c5) ∧ w.cell? ⟨p.block, p.off + 6, none⟩ = some (.slice A6 x.f3.length c6)) ∧
  x.f2.f1.length ≤ c3 ∧ k54.C w0 A3 x.f2.f1.length x.f2.f1 ∧ x.f2.f3.length ≤ c5 ∧ Kd.string.C w0 A5 x.f2.f3.length x.f2.f3 ∧ x.f3.length ≤ c6 ∧ k28.C w0 A6 x.f3.length x.f3
theorem NodeK.of {Ok : World → Prop} {w0 : World} {p : Addr} {x : S28} (h : NodeAt w0 p x) (hO : ∀ W, Ok W → Below w0.heap.size w0 W) : NodeK Ok w0 p x := by
  obtain ⟨A3, c3, A5, c5, A6, c6, h0, h1, h2, h3, h4, h5, h6, r⟩ := h
  exact ⟨A3, c3, A5, c5, A6, c6, fun W hW => ⟨pw_cell_below (hO W hW) h0, pw_cell_below (hO W hW) h1, pw_cell_below (hO W hW) h2, pw_cell_below (hO W hW) h3, pw_cell_below (hO W hW) h4, pw_cell_below (hO W hW) h5, pw_cell_below (hO W hW) h6⟩, r⟩
/-- What is asked of the worlds, and of what a round keeps. -/
structure Well (w0 : World) (Ok : World → Prop) (Kp : World → World → Prop) : Prop where
  below : ∀ W, Ok W → Below w0.heap.size w0 W
  step : ∀ W W', Ok W → Kp W W' → Ok W'
  grow : ∀ W W', Ok W → Below W.heap.size W W' → Ok W'
  trans : ∀ A B C, Kp A B → Kp B C → Kp A C
  refl : ∀ W, Kp W W
set_option maxHeartbeats 8000000 in
set_option maxRecDepth 100000 in
theorem walk_in (w0 : World) (Ok : World → Prop) (Kp : World → World → Prop) (hWell : Well w0 Ok Kp) (m : Nat) : ∀ (x : S28) (p : Addr) (d : Int), sz x = m → okX x → 0 ≤ d → d + dp x ≤ 100 → NodeK Ok w0 p x → ∃ ys : List (PartV w0), ys.map proj = partsT x d ∧
    ∀ (l N : Nat) (J Jx : List (PartV w0) → World → Prop) (hY : ∀ m pre z W, J pre W → pre.length < N → YieldAt Fence.wide m Try.prog l (encP z) W fun e W' => (e = .returned (.bool true) ∧ J (pre ++ [z]) W' ∧ Kp W W') ∨ (e = .returned (.bool false) ∧ Jx (pre ++ [z]) W'))
      (n : Nat) (pre : List (PartV w0)) (W : World), Ok W → J pre W → pre.length + ys.length ≤ N →
      CallsIn Fence.wide n Try.prog 38 #[.pointer (some p), .int .i64 d, .func (.yield l) #[] #[]] W (Goes J Jx Kp pre ys W) := by
  induction m using Nat.strongRecOn with
  | _ m ih =>
  intro x p d hm hok hd0 hd1 hN
  have hlen : (x.f3.length : Int) ≤ 9223372036854775807 := by obtain ⟨A3, c3, A5, c5, A6, c6, hcs, l3, g3, l5, g5, l6, g6⟩ := hN; have hg := g6.2.1; omega
  obtain ⟨A3, c3, A5, c5, A6, c6, hcs, l3, g3, l5, g5, l6, g6⟩ := hN
  have hd9 : d ≤ 100 := by have := dp_pos x; omega
  have hch : ∀ i, i < x.f3.length → ∃ ys : List (PartV w0), ys.map proj = partsT (rd_T28 x.f3 (i : Int)) (d + 1) ∧
      ∀ (l N : Nat) (J Jx : List (PartV w0) → World → Prop) (hY : ∀ m pre z W, J pre W → pre.length < N → YieldAt Fence.wide m Try.prog l (encP z) W fun e W' => (e = .returned (.bool true) ∧ J (pre ++ [z]) W' ∧ Kp W W') ∨ (e = .returned (.bool false) ∧ Jx (pre ++ [z]) W'))
        (n : Nat) (pre : List (PartV w0)) (W : World), Ok W → J pre W → pre.length + ys.length ≤ N → ∀ ad, A6 = some ad →
        CallsIn Fence.wide n Try.prog 38 #[.pointer (some (ad.add (i * 7))), .int .i64 (d + 1), .func (.yield l) #[] #[]] W (Goes J Jx Kp pre ys W) := by
    intro i hi
    obtain ⟨ad, e, hsub⟩ := node_sub g6 (i : Int) (by omega) (by omega)
    rw [Int.toNat_natCast] at hsub
    have hmem := rd28_in x.f3 i hi
    have hlt := sub_lt hmem
    have hdp := dp_mem hmem
    have hdx := dp_eq x
    obtain ⟨ys, e1, e2⟩ := ih (sz (rd_T28 x.f3 (i : Int))) (by omega) (rd_T28 x.f3 (i : Int)) _ (d + 1) rfl ⟨by have := hok.1; omega, by have := hok.2.1; omega, hok.2.2.sub hmem⟩ (by omega) (by omega) (NodeK.of hsub hWell.below)
    refine ⟨ys, e1, fun l N J Jx hY n pre W hW hJ hn ad' he => ?_⟩
    rw [e] at he
    cases he
    exact e2 l N J Jx hY n pre W hW hJ hn
  obtain ⟨f, hf⟩ := choose_lt (n := x.f3.length) hch
  have hacc : ∀ i, i ≤ x.f3.length → (accP f i).map proj = partsL (x.f3.take i) (d + 1) := by
    intro i
    induction i with
    | zero => intro _; rfl
    | succ i ihi =>
      intro hi
      rw [accP_succ, List.map_append, ihi (by omega), (hf i (by omega)).1, take_snoc2 x.f3 i (by omega), partsL_append]
      simp [partsL]
  have hXR : XR w0 (.agg #[.int .i64 x.f0, .int .i64 x.f1, .bool x.f2.f0, .slice A3 x.f2.f1.length c3, .bool x.f2.f2, .slice A5 x.f2.f3.length c5, .slice A6 x.f3.length c6]) x := ⟨A3, c3, A5, c5, A6, c6, rfl, l3, g3, l5, g5, l6, g6⟩
  refine ⟨⟨(d, .agg #[.int .i64 x.f0, .int .i64 x.f1, .bool x.f2.f0, .slice A3 x.f2.f1.length c3, .bool x.f2.f2, .slice A5 x.f2.f3.length c5, .slice A6 x.f3.length c6], x), hXR, hok⟩ :: accP f x.f3.length, ?_, ?_⟩
  · rw [List.map_cons, hacc _ (Nat.le_refl _), List.take_length, partsT_eq]; rfl
  · intro l N J Jx hY n pre W hW hJ hlN
    have HF := Aside0.mk (fun i hi => (hf i hi).2)
    have HY := Aside0.mk hY
    have HN := Aside0.mk hlN
    obtain ⟨z, hz⟩ : ∃ z : PartV w0, z = ⟨(d, .agg #[.int .i64 x.f0, .int .i64 x.f1, .bool x.f2.f0, .slice A3 x.f2.f1.length c3, .bool x.f2.f2, .slice A5 x.f2.f3.length c5, .slice A6 x.f3.length c6], x), hXR, hok⟩ := ⟨_, rfl⟩
    have hy0 := HY.out (n - 1) pre z W hJ (by have := HN.out; simp at this; omega)
    have hze : encP z = #[.int .i64 d, .agg #[.int .i64 x.f0, .int .i64 x.f1, .bool x.f2.f0, .slice A3 x.f2.f1.length c3, .bool x.f2.f2, .slice A5 x.f2.f3.length c5, .slice A6 x.f3.length c6]] := by rw [hz]; rfl
    rw [hze] at hy0
    have HW := Aside0.mk hW
    have HJ := Aside0.mk hJ
    have HG := Aside0.mk g6
    rw [← hz] at hlN ⊢
    have HN2 := Aside0.mk hlN
    have HC6 := Aside0.mk (fun W h => (hcs W h).2.2.2.2.2.2)
    obtain ⟨q0, q1, q2, q3, q4, q5, q6⟩ := hcs W hW
    have HE := Aside0.mk hWell
    clear hze hz
    clear ih hm hok hd1 hcs hWell l3 g3 l5 g5 l6 g6 hch hf hacc hXR hY hlN hJ hW HN
    obtain ⟨fn, tmps, assign, body, hy, hR⟩ := hy0
    refine callsIn_of_wp Try.func38 rfl trivial ?_ rfl
    simp only [Try.ntmps38, List.size_toArray, List.length_cons, List.length_nil, Nat.reduceAdd, Nat.reduceSub, Array.replicate_succ, Array.replicate_zero, List.push_toArray, List.append_toArray, List.nil_append, List.cons_append]
    gi_wp2
    refine ⟨(fun h => by cases h), ?_⟩
    refine hR.mono ?_
    clear hR hy
    rintro e W1 (⟨rfl, hJ1, hb1⟩ | ⟨rfl, hx1⟩)
    · have HB1 := Aside0.mk hb1
      have HJ1 := Aside0.mk hJ1
      have HW1 := Aside0.mk (HE.out.step _ _ HW.out hb1)
      have c6w1 := HC6.out _ HW1.out
      clear hJ1 hb1 q0 q1 q2 q3 q4 q5 q6
      gi_wp2
      gi_loopw [20] (fun v20 wr => ∃ i : Nat, v20 = .int .i64 i ∧ i ≤ x.f3.length ∧ Aside0 (J (pre ++ (z :: accP f i)) wr) ∧ Aside0 (Kp W wr)) (fun v20 _ => x.f3.length - (intOf v20).toNat)
      case atStart => exact ⟨0, rfl, Nat.zero_le _, ⟨by have := HJ1.out; simpa [accP] using this⟩, HB1⟩
      case round =>
        clear c6w1
        obtain ⟨i, rfl, hile, HJR, HBR⟩ := hrel
        have HWR := Aside0.mk (HE.out.step _ _ HW.out HBR.out)
        have c6w := HC6.out _ HWR.out
        by_cases hi : i < x.f3.length
        · have hi' : (i : Int) < (x.f3.length : Int) := by omega
          obtain ⟨ad, hA, _⟩ := HG.out.2.2 (by omega : 0 < x.f3.length)
          subst hA
          have HCL := Aside0.mk (HF.out i hi l N J Jx HY.out (n - 1) (pre ++ (z :: accP f i)) wr HWR.out HJR.out (by
            have h1 := HN2.out
            have h2 : (accP f i).length + (f i).length ≤ (accP f x.f3.length).length := by
              have := accP_len f (i + 1) x.f3.length (by omega)
              rw [accP_succ, List.length_append] at this
              exact this
            simp only [List.length_append, List.length_cons] at h1 ⊢
            omega) ad rfl)
          gi_wp2
          refine ⟨trivial, ?_⟩
          try refine ⟨(fun h => by cases h), ?_⟩
          refine HCL.out.mono ?_
          rintro e W2 (⟨rfl, hJ2, hb2⟩ | ⟨rfl, q, hq, hx2⟩)
          · have HJ2 := Aside0.mk hJ2
            have HB2 := Aside0.mk (HE.out.trans _ _ _ HBR.out hb2)
            clear hJ2 hb2
            gi_wp2
            go_roundw
            case rel => exact ⟨i + 1, by go_num, by omega, ⟨by have := HJ2.out; rw [List.append_assoc, List.cons_append, ← accP_succ] at this; exact this⟩, HB2⟩
            case measure => simp [intOf]; omega
          · have HX2 := Aside0.mk hx2
            have HQ := Aside0.mk hq
            clear hx2 hq
            gi_wp2
            go_ret
            refine .inr ⟨rfl, z :: (accP f i ++ q), ?_, by have := HX2.out; rw [List.append_assoc] at this; exact this⟩
            obtain ⟨r, hr⟩ := HQ.out
            obtain ⟨r2, hr2⟩ := accP_pre f (i + 1) x.f3.length (by omega)
            refine ⟨r ++ r2, ?_⟩
            rw [← hr2, accP_succ, ← hr]
            simp [List.append_assoc]
        · have he : i = x.f3.length := by omega
          have hi' : ¬ (i : Int) < (x.f3.length : Int) := by omega
          subst he
          clear hi
          gi_wp2
          go_ret
          exact .inl ⟨rfl, HJR.out, HBR.out⟩
    · gi_wp2
      go_ret
      exact .inr ⟨rfl, [z], by simp, hx1⟩
theorem grown_of {w w' : World} (h : Below w.heap.size w w') : w.grownBy w' none := ⟨h.os, h.tape, h.output, h.size, fun k hk _ => h.block k hk⟩
theorem okX_of {x : S28} (h : rightT x = true) (hF : Each (fun z => FineS z.f2) x) : okX x := by
  unfold rightT fitsT at h
  simp only [Bool.and_eq_true, decide_eq_true_eq] at h
  exact ⟨h.1.1, h.1.2, hF⟩
set_option maxHeartbeats 4000000 in
set_option maxRecDepth 100000 in
theorem walk1_in (x : S28) (va : Value) (b n : Nat) (w0 w5 : World) (Ok : World → Prop) (Kp : World → World → Prop) (hWell : Well w0 Ok Kp) (hw5 : Ok w5) (hx : XR w0 va x) (hF : Each (fun z => FineS z.f2) x) (hb : ∀ cs, va = .agg cs → ∀ W, Ok W → W.heap[b]? = some (.cells cs 28 (0, 0))) :
    ∃ ys : List (PartV w0), ys.map proj = (if rightT x = true then partsT x 0 else []) ∧ SeqStopsK Fence.wide n Try.prog 37 #[.pointer (some ⟨b, 0, none⟩)] encP Kp (fun zs => zs = ys) (fun pre => pre <+: ys) ys.length w5 := by
  have HX := Aside0.mk hx
  have HF := Aside0.mk hF
  obtain ⟨A3, c3, A5, c5, A6, c6, rfl, l3, g3, l5, g5, l6, g6⟩ := hx
  have hblk := hb _ rfl
  have HN := Aside0.mk (show NodeK Ok w0 ⟨b, 0, none⟩ x from ⟨A3, c3, A5, c5, A6, c6, fun W hW => ncells (hblk W hW), l3, g3, l5, g5, l6, g6⟩)
  have HE := Aside0.mk hWell
  have HB := Aside0.mk hblk
  clear hb l3 g3 l5 g5 l6 g6 hF hWell
  cases hr : rightT x with
  | false =>
    have HR := Aside0.mk hr
    refine ⟨[], rfl, fun l J Jx W hW hJ hJx hY h0 => ?_⟩
    have HJ := Aside0.mk (And.intro hJ h0)
    have HW := Aside0.mk (HE.out.grow _ _ hw5 hW)
    have hblk' := Aside0.mk (HB.out _ HW.out)
    clear hJ hJx hY h0 hblk hr hW
    obtain ⟨z0, z1, z2, z3, z4, z5, z6⟩ := ncells hblk'.out
    show CallsIn Fence.wide n Try.prog 37 #[.func (.yield l) #[] #[], .pointer (some ⟨b, 0, none⟩)] W _
    refine callsIn_of_wp Try.func37 rfl trivial ?_ rfl
    simp only [Try.ntmps37, List.size_toArray, List.length_cons, List.length_nil, Nat.reduceAdd, Nat.reduceSub, Array.replicate_succ, Array.replicate_zero, List.push_toArray, List.append_toArray, List.nil_append, List.cons_append]
    gi_wp2_with fail
    refine ⟨trivial, ?_⟩
    try refine ⟨(fun h => by cases h), ?_⟩
    refine CallsIn.mono (callsIn_wide.2 (right_any x _ W HF.out (HX.out.below (HE.out.below _ HW.out)))) ?_
    rintro e W1 ⟨rfl, hb1⟩
    have HJ1 := Aside0.mk (HJ.out.1 _ _ _ none HJ.out.2 (grown_of hb1) (fun r e => by cases e))
    clear hb1 z0 z1 z2 z3 z4 z5 z6
    rw [HR.out]
    gi_wp2
    go_end0
    exact ⟨⟨_, rfl⟩, .inl ⟨[], rfl, HJ1.out⟩⟩
  | true =>
    have HR := Aside0.mk hr
    obtain ⟨ys, e1, e2⟩ := walk_in w0 Ok Kp HE.out _ x ⟨b, 0, none⟩ 0 rfl (okX_of hr HF.out) (by omega) (by have := (okX_of hr HF.out).2.1; omega) HN.out
    refine ⟨ys, by rw [if_pos rfl]; exact e1, fun l J Jx W hW hJ hJx hY h0 => ?_⟩
    have HJ := Aside0.mk (And.intro hJ h0)
    have HW := Aside0.mk (HE.out.grow _ _ hw5 hW)
    have hblk' := Aside0.mk (HB.out _ HW.out)
    have HC := Aside0.mk (e2 l ys.length J Jx (fun m pre z W hj hl => yield_any m (hY pre z W hj hl)))
    clear hJ hJx hY h0 hblk hr e1 e2 hW
    obtain ⟨z0, z1, z2, z3, z4, z5, z6⟩ := ncells hblk'.out
    show CallsIn Fence.wide n Try.prog 37 #[.func (.yield l) #[] #[], .pointer (some ⟨b, 0, none⟩)] W _
    refine callsIn_of_wp Try.func37 rfl trivial ?_ rfl
    simp only [Try.ntmps37, List.size_toArray, List.length_cons, List.length_nil, Nat.reduceAdd, Nat.reduceSub, Array.replicate_succ, Array.replicate_zero, List.push_toArray, List.append_toArray, List.nil_append, List.cons_append]
    gi_wp2_with fail
    refine ⟨trivial, ?_⟩
    try refine ⟨(fun h => by cases h), ?_⟩
    refine CallsIn.mono (callsIn_wide.2 (right_any x _ W HF.out (HX.out.below (HE.out.below _ HW.out)))) ?_
    rintro e W1 ⟨rfl, hb1⟩
    have HJ1 := Aside0.mk (HJ.out.1 _ _ _ none HJ.out.2 (grown_of hb1) (fun r e => by cases e))
    have HW1 := Aside0.mk (HE.out.grow _ _ HW.out hb1)
    clear hb1 z0 z1 z2 z3 z4 z5 z6
    rw [HR.out]
    gi_wp2_with fail
    refine ⟨trivial, ?_⟩
    try refine ⟨(fun h => by cases h), ?_⟩
    refine (HC.out (n - 1) [] W1 HW1.out HJ1.out (by simp)).mono ?_
    rintro e W2 (⟨rfl, hJ2, hb2⟩ | ⟨rfl, q, hq, hx2⟩)
    · have HJ2 := Aside0.mk hJ2
      clear hJ2 hb2
      gi_wp2
      go_end0
      exact ⟨⟨_, rfl⟩, .inl ⟨ys, rfl, HJ2.out⟩⟩
    · have HX2 := Aside0.mk hx2
      clear hx2
      gi_wp2
      go_end0
      exact ⟨⟨_, rfl⟩, .inr ⟨q, hq, HX2.out⟩⟩
set_option maxHeartbeats 4000000 in
set_option maxRecDepth 100000 in
theorem Walk_any (cs : Array Value) (v0 v1 v2 v3 v4 v5 v6 : Value) (w : World) (hcs : cs = #[v0, v1, v2, v3, v4, v5, v6]) (h1 : cs.all (·.oneCell') = true) : Calls Try.prog 25 #[.agg cs] w fun e w' => e = .returned (.func (.func 37) #[] #[.pointer (some ⟨w.heap.size, 0, none⟩)]) ∧ w' = w.alloc (.cells cs 28) := by
  subst hcs
  go_enter Try.func25, Try.ntmps25
  go_wp2_with fail
  go_ret
  exact ⟨rfl, rfl⟩
end Go.Proofs.Ytjkhajcngapjcaa.Q
