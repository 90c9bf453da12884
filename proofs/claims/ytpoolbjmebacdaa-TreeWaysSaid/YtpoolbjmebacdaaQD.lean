/- What tree.broker, tree.Neighbors and tree.Way come to. -/
import Derived.Test.YtpoolbjmebacdaaQB
import Derived.Test.YtpoolbjmebacdaaQC
namespace Go.Proofs.Ytpoolbjmebacdaa.Q
open Go.RowKit Go.Proofs.YtpoolbjmebacdaaW.PrintWords Go.Proofs.YtpoolbjmebacdaaW.PrintLast Go.Proofs.YtpoolbjmebacdaaW.PrintMore
set_option linter.unusedVariables false
set_option linter.unusedSimpArgs false

/-- Is there a broker? -/
def isB (ps hs : List Int) (b g x : Int) : Bool := decide (0 ≤ x) && decide (x < sizeT ps hs b g)
theorem Brets {a b : Bool} (h : a = b) : Ending.returned (.bool a) = .returned (.bool b) := by rw [h]

set_option maxHeartbeats 4000000 in
theorem tree_broker.raw (g : Nat) (A0 : Option Addr) (c0 : Nat) (l0 : List Int) (A1 : Option Addr) (c1 : Nat) (l1 : List Int) (b g3 x : Int) (w : World) (hb : w.heap[g]? = some (.cells #[.slice A0 l0.length c0, .slice A1 l1.length c1, .int .i64 b, .int .u64 g3] 25 (0, 0)))
    (hr0 : Kd.C (Kd.int .i64) w A0 l0.length l0) (hr1 : Kd.C (Kd.int .i64) w A1 l1.length l1) :
    Calls Try.prog 23 #[.pointer (some ⟨g, 0, none⟩), .int .i64 x] w fun e w' => e = .returned (.bool (isB l0 l1 b g3 x)) ∧ Below w.heap.size w w' := by
  have HR0 := Aside0.mk hr0
  have HR1 := Aside0.mk hr1
  have HS := Aside0.mk (size_f l0 l1 b g3 _ (Nat.le_refl _))
  have hz0_0 : w.cell? ⟨g, 0, none⟩ = some (.slice A0 l0.length c0) := (blk_cell hb 0).trans rfl
  have hz0_1 : w.cell? ⟨g, 1, none⟩ = some (.slice A1 l1.length c1) := (blk_cell hb 1).trans rfl
  have hz0_2 : w.cell? ⟨g, 2, none⟩ = some (.int .i64 b) := (blk_cell hb 2).trans rfl
  have hz0_3 : w.cell? ⟨g, 3, none⟩ = some (.int .u64 g3) := (blk_cell hb 3).trans rfl
  clear hr0 hr1 hb
  by_cases hx : 0 ≤ x
  · have c0b : decide (0 ≤ x) = true := decide_eq_true hx
    generalize hn : sizeT l0 l1 b g3 = n at *
    have HN := Aside0.mk hn
    clear hn
    go_enter Try.func23, Try.ntmps23
    go_wp2_with fail
    refine (tree_Size.calls0 _ _ _ l0 _ _ l1 b g3 n _ HR0.out HR1.out HS.out).mono ?_
    rintro e w1 ⟨rfl, hb⟩
    have HB := Aside0.mk hb
    clear hb
    go_wp2_with fail
    go_ret
    exact ⟨Brets (by unfold isB; rw [HN.out, decide_eq_true hx]; rfl), HB.out⟩
  · have c0b : decide (0 ≤ x) = false := decide_eq_false hx
    go_enter Try.func23, Try.ntmps23
    go_wp2_with fail
    go_ret
    exact ⟨Brets (by unfold isB; rw [show decide (0 ≤ x) = false from decide_eq_false (by omega)]; rfl), Below.refl _ _⟩

/-- Those whose parent is b, from broker i + 1 on. -/
def childs (b : Int) : Int → List Int → List Int
  | _, [] => []
  | i, p :: t => (if p = b then [i + 1] else []) ++ childs b (i + 1) t
def neighT (ps : List Int) (b : Int) : List Int := (if 0 < b then [rd ps (b - 1)] else []) ++ childs b 0 ps
def tree_Neighbors.f (l0_0 : List Int) (l0_1 : List Int) (a0_2 : Int) (a0_3 : Int) (a1 : Int) : Option (List Int) :=
  some (if isB l0_0 l0_1 a0_2 a0_3 a1 = true then neighT l0_0 a1 else [])
theorem childs_length (b : Int) (l : List Int) : ∀ i, (childs b i l).length ≤ l.length := by
  induction l with
  | nil => intro i; exact Nat.le_refl _
  | cons p t ih =>
    intro i
    have := ih (i + 1)
    simp only [childs, List.length_append, List.length_cons]
    split <;> simp <;> omega
theorem isB_ok {ps hs : List Int} {b g x : Int} (h : isB ps hs b g x = true) : 0 ≤ x ∧ x ≤ (ps.length : Int) ∧ ps.length ≤ 7 ∧ checkT ps hs b g = 0 := by
  unfold isB at h
  rw [Bool.and_eq_true, decide_eq_true_eq, decide_eq_true_eq] at h
  obtain ⟨h0, h1⟩ := h
  unfold sizeT at h1
  by_cases hc : checkT ps hs b g = 0
  · rw [if_pos hc] at h1
    refine ⟨h0, by omega, ?_, hc⟩
    unfold checkT at hc
    by_cases h8 : 8 ≤ ps.length
    · rw [if_pos h8] at hc; omega
    · omega
  · rw [if_neg hc] at h1; omega

set_option maxHeartbeats 8000000 in
set_option maxRecDepth 100000 in
theorem tree_Neighbors.calls (A0_0 : Option Addr) (c0_0 : Nat) (l0_0 : List Int) (A0_1 : Option Addr) (c0_1 : Nat) (l0_1 : List Int) (a0_2 : Int) (a0_3 : Int) (a1 : Int) (r : List Int) (w : World) (hr0_0 : Kd.C (Kd.int .i64) w A0_0 l0_0.length l0_0) (hc0_0 : l0_0.length ≤ c0_0) (hr0_1 : Kd.C (Kd.int .i64) w A0_1 l0_1.length l0_1) (hc0_1 : l0_1.length ≤ c0_1) (h : tree_Neighbors.f l0_0 l0_1 a0_2 a0_3 a1 = some r) :
    Calls Try.prog 13 #[.agg #[.slice A0_0 l0_0.length c0_0, .slice A0_1 l0_1.length c0_1, .int .i64 a0_2, .int .u64 a0_3], .int .i64 a1] w fun e w' => ∃ v0_ : Value, e = .returned (v0_) ∧ Kd.R (Kd.int .i64) 3 w' w.heap.size (fun _ => True) v0_ r ∧ Below w.heap.size w w' := by
  unfold tree_Neighbors.f at h
  have HR0 := Aside0.mk hr0_0
  have HR1 := Aside0.mk hr0_1
  have HB := Aside0.mk (Below.refl w.heap.size w)
  clear hr0_0 hr0_1 hc0_0 hc0_1
  cases hb : isB l0_0 l0_1 a0_2 a0_3 a1 with
  | false =>
    rw [hb, if_neg (by decide)] at h
    obtain rfl := Option.some.inj h
    have HBK := Aside0.mk hb
    clear hb h
    go_enter Try.func13, Try.ntmps13
    go_wp2_with fail
    refine (tree_broker.raw _ A0_0 c0_0 l0_0 A0_1 c0_1 l0_1 a0_2 a0_3 a1 _ (heap_alloc_new w _) (Kd.C_alloc HR0.out _) (Kd.C_alloc HR1.out _)).mono ?_
    rw [HBK.out]
    rintro e w1 ⟨rfl, hb1⟩
    have HB := Aside0.mk (below_step (below_alloc HB.out _) hb1)
    clear hb1
    go_wp2_with fail
    go_ret
    exact ⟨_, rfl, Kd.R_nil _ _ _ _ _, HB.out⟩
  | true =>
    obtain ⟨hx0, hx1, hl7, _⟩ := isB_ok hb
    rw [hb, if_pos rfl] at h
    have HBK := Aside0.mk hb
    have HX0 := Aside0.mk hx0
    have HX1 := Aside0.mk hx1
    have HL7 := Aside0.mk hl7
    have hr := (Option.some.inj h)
    unfold neighT at hr
    clear h hb hx0 hx1 hl7
    have hlen : (l0_0.length : Int) ≤ 7 := by have := HL7.out; omega
    by_cases hx : 0 < a1
    all_goals
      first | rw [if_pos hx] at hr | rw [if_neg hx] at hr
      have HRR := Aside0.mk hr
      have hxb := hx
      first | replace hxb : decide (0 < a1) = true := decide_eq_true hx | replace hxb : decide (0 < a1) = false := decide_eq_false hx
      have HXX := Aside0.mk hx
      clear hr hx
      go_enter Try.func13, Try.ntmps13
      go_wp2_with fail
      refine (tree_broker.raw _ A0_0 c0_0 l0_0 A0_1 c0_1 l0_1 a0_2 a0_3 a1 _ (heap_alloc_new w _) (Kd.C_alloc HR0.out _) (Kd.C_alloc HR1.out _)).mono ?_
      rw [HBK.out]
      rintro e w1 ⟨rfl, hb1⟩
      have HB1 := Aside0.mk (below_step (below_alloc HB.out _) hb1)
      clear HB
      have HB := HB1
      clear HB1
      have BK := Aside0.mk (blk_below (heap_alloc_new w _) hb1)
      clear hb1
      have hz0_0 : w1.cell? ⟨w.heap.size, 0, none⟩ = some (.slice A0_0 l0_0.length c0_0) := (blk_cell BK.out 0).trans rfl
    · obtain ⟨ad, e, hx1⟩ := Kd.at_int HR0.out (a1 - 1) (by have := HXX.out; omega) (by have := HX1.out; omega)
      cases e
      replace hx1 := pw_cell_below HB.out hx1
      have b0 : 1 ≤ a1 := by have := HXX.out; omega
      have b1 : a1 ≤ 7 := by have := HX1.out; omega
      have b3 : a1 - 1 < (l0_0.length : Int) := by have := HX1.out; omega
      replace hx1 : w1.cell? (ad.add (a1.toNat - 1)) = some (.int .i64 (rd l0_0 (a1 - 1))) := by rw [show a1.toNat - 1 = (a1 - 1).toNat by omega]; exact hx1
      have NEB : some w.heap.size ≠ (Value.slice none 0 0).ownBlock := by simp [Value.ownBlock]
      go_wp2_with (first | ((with_reducible refine gate_builtin (b := .append) (xs := #[.tmp 12, .tmp 19]) rfl ?_); at_builtin; refine Kd.R_append (Kd.int .i64) (w0 := w) w.heap.size rfl (.tmp 12) (.tmp 19) 22 3 (.int .i64 0) 8 rfl Try.underlying22 info3 rfl (by decide) (by omega) (.slice none 0 0) [] (rd l0_0 (a1 - 1)) [.int .i64 (rd l0_0 (a1 - 1))] (fun _ => True) (fun _ => False) rfl rfl ?aP (fun _ hk => hk.elim) ?aF ?aO ?aB ?aS ?aL ?_; (case aP => exact rfl); (case aB => exact HB.out); (case aF => exact (fun _ _ => trivial)); (case aO => exact Kd.R_nil _ _ _ _ _); (case aS => exact HB.out.size); (case aL => simp); intro v w2 ho hb hg hat; have n0_ := Aside0.mk (blk_grown BK.out hg NEB); have n1_ := Aside0.mk hb; clear BK; clear HB; have BK := n0_; have HB := n1_; clear n0_ n1_ hb hg hat hx1 hz0_0 NEB; have hz0_0 : w2.cell? ⟨w.heap.size, 0, none⟩ = some (.slice (some ad) l0_0.length c0_0) := (blk_cell BK.out 0).trans rfl))
      have HO := Aside0.mk ho
      clear ho
      go_loopg [4, 24] l0_0.length (fun kq v4 v24 wr => ∃ (j : Nat) (ys : List Int), v24 = .int .i64 j ∧ Aside0 (kq + j = l0_0.length) ∧ Aside0 (ys ++ childs a1 j (l0_0.drop j) = r) ∧ Aside0 (ys.length ≤ j + 1) ∧ Aside0 (Kd.R (Kd.int .i64) 3 wr w.heap.size (fun _ => True) v4 ys) ∧ Aside0 (wr.heap[w.heap.size]? = some (.cells #[.slice (some ad) l0_0.length c0_0, .slice A0_1 l0_1.length c0_1, .int .i64 a0_2, .int .u64 a0_3] 25 (0, 0))) ∧ Aside0 (Below w.heap.size w wr))
      case atStart => exact ⟨0, [rd l0_0 (a1 - 1)], rfl, ⟨by omega⟩, ⟨HRR.out⟩, ⟨by simp⟩, ⟨HO.out⟩, ⟨BK.out⟩, ⟨HB.out⟩⟩
      case round =>
        clear HO HRR hz0_0
        clear BK HB
        obtain ⟨j, ys, rfl, HK, HC, HLn, HO, BK, HB⟩ := hrel
        by_cases hj : j < l0_0.length
        · obtain ⟨ad2, e, hx1⟩ := Kd.at_int HR0.out (j : Int) (by omega) (by omega)
          cases e
          replace hx1 := pw_cell_below HB.out hx1
          simp only [Int.toNat_natCast] at hx1
          have hj' : (j : Int) < (l0_0.length : Int) := by omega
          have hz0_0 : wr.cell? ⟨w.heap.size, 0, none⟩ = some (.slice (some ad) l0_0.length c0_0) := (blk_cell BK.out 0).trans rfl
          have HC' := HC.out
          rw [drop_rd l0_0 j hj] at HC'
          by_cases hp : rd l0_0 (j : Int) = a1
          · have hc2 : ys ++ [(j : Int) + 1] ++ childs a1 ((j + 1 : Nat) : Int) (l0_0.drop (j + 1)) = r := by
              rw [← HC']; simp only [childs]; rw [if_pos hp, List.append_assoc]; rfl
            have HC2 := Aside0.mk hc2
            have hpb : (rd l0_0 (j : Int) == a1) = true := by simpa using hp
            have HP := Aside0.mk hp
            clear hp hc2 HC'
            have NEB := Kd.R_ne HO.out BK.out (by decide)
            go_wp2_with (first | ((with_reducible refine gate_builtin (b := .append) (xs := #[.tmp 32, .tmp 35]) rfl ?_); at_builtin; refine Kd.R_append (Kd.int .i64) (w0 := w) w.heap.size rfl (.tmp 32) (.tmp 35) 22 3 (.int .i64 0) 8 rfl Try.underlying22 info3 rfl (by decide) (by omega) u4 ys ((j : Int) + 1) [.int .i64 ((j : Int) + 1)] (fun _ => True) (fun _ => False) rfl rfl ?aP (fun _ hk => hk.elim) ?aF ?aO ?aB ?aS ?aL ?_; (case aP => exact rfl); (case aB => exact HB.out); (case aF => exact (fun _ _ => trivial)); (case aO => exact HO.out); (case aS => exact HB.out.size); (case aL => have := HLn.out; omega); intro v w3 ho hb hg hat; have n0_ := Aside0.mk (blk_grown BK.out hg NEB); have n1_ := Aside0.mk hb; clear BK; clear HB; have BK := n0_; have HB := n1_; clear n0_ n1_ hb hg hat hx1 hz0_0))
            go_roundg (l0_0.length - (j + 1))
            case measure => have := HK.out; omega
            case rel => exact ⟨j + 1, ys ++ [(j : Int) + 1], by go_num, ⟨by omega⟩, ⟨HC2.out⟩, ⟨by have := HLn.out; simp; omega⟩, ⟨ho⟩, ⟨BK.out⟩, ⟨HB.out⟩⟩
          · have hc2 : ys ++ childs a1 ((j + 1 : Nat) : Int) (l0_0.drop (j + 1)) = r := by
              rw [← HC']; simp only [childs]; rw [if_neg hp]; rfl
            have HC2 := Aside0.mk hc2
            have hpb : (rd l0_0 (j : Int) == a1) = false := by simpa using hp
            have HP := Aside0.mk hp
            clear hp hc2 HC'
            go_wp2_with fail
            go_roundg (l0_0.length - (j + 1))
            case measure => have := HK.out; omega
            case rel => exact ⟨j + 1, ys, by go_num, ⟨by omega⟩, ⟨HC2.out⟩, ⟨by have := HLn.out; omega⟩, ⟨HO.out⟩, ⟨BK.out⟩, ⟨HB.out⟩⟩
        · have hj' : ¬ (j : Int) < (l0_0.length : Int) := by omega
          have hr2 : ys = r := by
            have := HC.out
            rw [List.drop_of_length_le (by omega)] at this
            simpa [childs] using this
          have HR2 := Aside0.mk hr2
          clear hr2
          go_wp2_with fail
          go_ret
          exact ⟨_, rfl, by rw [← HR2.out]; exact HO.out, HB.out⟩
    · have b0 : a1 = 0 := by have := HXX.out; have := HX0.out; omega
      have HO : True := trivial
      clear b0
      go_wp2_with fail
      go_loopg [4, 24] l0_0.length (fun kq v4 v24 wr => ∃ (j : Nat) (ys : List Int), v24 = .int .i64 j ∧ Aside0 (kq + j = l0_0.length) ∧ Aside0 (ys ++ childs a1 j (l0_0.drop j) = r) ∧ Aside0 (ys.length ≤ j + 1) ∧ Aside0 (Kd.R (Kd.int .i64) 3 wr w.heap.size (fun _ => True) v4 ys) ∧ Aside0 (wr.heap[w.heap.size]? = some (.cells #[.slice A0_0 l0_0.length c0_0, .slice A0_1 l0_1.length c0_1, .int .i64 a0_2, .int .u64 a0_3] 25 (0, 0))) ∧ Aside0 (Below w.heap.size w wr))
      case atStart => exact ⟨0, [], rfl, ⟨by omega⟩, ⟨HRR.out⟩, ⟨by simp⟩, ⟨Kd.R_nil _ _ _ _ _⟩, ⟨BK.out⟩, ⟨HB.out⟩⟩
      case round =>
        clear HO HRR hz0_0
        clear BK HB
        obtain ⟨j, ys, rfl, HK, HC, HLn, HO, BK, HB⟩ := hrel
        by_cases hj : j < l0_0.length
        · obtain ⟨ad2, e, hx1⟩ := Kd.at_int HR0.out (j : Int) (by omega) (by omega)
          cases e
          replace hx1 := pw_cell_below HB.out hx1
          simp only [Int.toNat_natCast] at hx1
          have hj' : (j : Int) < (l0_0.length : Int) := by omega
          have hz0_0 : wr.cell? ⟨w.heap.size, 0, none⟩ = some (.slice (some ad2) l0_0.length c0_0) := (blk_cell BK.out 0).trans rfl
          have HC' := HC.out
          rw [drop_rd l0_0 j hj] at HC'
          by_cases hp : rd l0_0 (j : Int) = a1
          · have hc2 : ys ++ [(j : Int) + 1] ++ childs a1 ((j + 1 : Nat) : Int) (l0_0.drop (j + 1)) = r := by
              rw [← HC']; simp only [childs]; rw [if_pos hp, List.append_assoc]; rfl
            have HC2 := Aside0.mk hc2
            have hpb : (rd l0_0 (j : Int) == a1) = true := by simpa using hp
            have HP := Aside0.mk hp
            clear hp hc2 HC'
            have NEB := Kd.R_ne HO.out BK.out (by decide)
            go_wp2_with (first | ((with_reducible refine gate_builtin (b := .append) (xs := #[.tmp 32, .tmp 35]) rfl ?_); at_builtin; refine Kd.R_append (Kd.int .i64) (w0 := w) w.heap.size rfl (.tmp 32) (.tmp 35) 22 3 (.int .i64 0) 8 rfl Try.underlying22 info3 rfl (by decide) (by omega) u4 ys ((j : Int) + 1) [.int .i64 ((j : Int) + 1)] (fun _ => True) (fun _ => False) rfl rfl ?aP (fun _ hk => hk.elim) ?aF ?aO ?aB ?aS ?aL ?_; (case aP => exact rfl); (case aB => exact HB.out); (case aF => exact (fun _ _ => trivial)); (case aO => exact HO.out); (case aS => exact HB.out.size); (case aL => have := HLn.out; omega); intro v w3 ho hb hg hat; have n0_ := Aside0.mk (blk_grown BK.out hg NEB); have n1_ := Aside0.mk hb; clear BK; clear HB; have BK := n0_; have HB := n1_; clear n0_ n1_ hb hg hat hx1 hz0_0))
            go_roundg (l0_0.length - (j + 1))
            case measure => have := HK.out; omega
            case rel => exact ⟨j + 1, ys ++ [(j : Int) + 1], by go_num, ⟨by omega⟩, ⟨HC2.out⟩, ⟨by have := HLn.out; simp; omega⟩, ⟨ho⟩, ⟨BK.out⟩, ⟨HB.out⟩⟩
          · have hc2 : ys ++ childs a1 ((j + 1 : Nat) : Int) (l0_0.drop (j + 1)) = r := by
              rw [← HC']; simp only [childs]; rw [if_neg hp]; rfl
            have HC2 := Aside0.mk hc2
            have hpb : (rd l0_0 (j : Int) == a1) = false := by simpa using hp
            have HP := Aside0.mk hp
            clear hp hc2 HC'
            go_wp2_with fail
            go_roundg (l0_0.length - (j + 1))
            case measure => have := HK.out; omega
            case rel => exact ⟨j + 1, ys, by go_num, ⟨by omega⟩, ⟨HC2.out⟩, ⟨by have := HLn.out; omega⟩, ⟨HO.out⟩, ⟨BK.out⟩, ⟨HB.out⟩⟩
        · have hj' : ¬ (j : Int) < (l0_0.length : Int) := by omega
          have hr2 : ys = r := by
            have := HC.out
            rw [List.drop_of_length_le (by omega)] at this
            simpa [childs] using this
          have HR2 := Aside0.mk hr2
          clear hr2
          go_wp2_with fail
          go_ret
          exact ⟨_, rfl, by rw [← HR2.out]; exact HO.out, HB.out⟩
end Go.Proofs.Ytpoolbjmebacdaa.Q
