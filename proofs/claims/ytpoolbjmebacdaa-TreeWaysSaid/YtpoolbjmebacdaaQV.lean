/- awake: the answers that the document fixes are given. -/
import Derived.Test.YtpoolbjmebacdaaQE
namespace Go.Proofs.Ytpoolbjmebacdaa.Q
open Go.RowKit Go.Proofs.YtpoolbjmebacdaaW.PrintWords Go.Proofs.YtpoolbjmebacdaaW.PrintLast Go.Proofs.YtpoolbjmebacdaaW.PrintMore
set_option linter.unusedVariables false
set_option linter.unusedSimpArgs false

theorem C_block {W : World} {g t : Nat} (xs : List Int) (h : W.heap[g]? = some (.cells (xs.map (Value.int .i64)).toArray t (0, 0))) (hl : xs.length ≤ 9223372036854775807) : Kd.C (Kd.int .i64) W (some ⟨g, 0, none⟩) xs.length xs := by
  refine ⟨rfl, hl, fun _ => ⟨_, rfl, fun j p hp => ⟨[.int .i64 p], rfl, rfl, fun i u hu => ?_⟩⟩⟩
  have hi : i = 0 := by
    rcases Nat.eq_zero_or_pos i with h | h
    · exact h
    · rw [List.getElem?_eq_none (by simp; omega)] at hu; cases hu
  subst hi
  simp at hu
  subst hu
  rw [add_plain, (blk_cell h _)]
  simp [hp, Kd.int, Kd.scalar]

set_option maxHeartbeats 16000000 in
theorem awake_true (w : World) : Calls Try.prog 8 #[] w fun e w' => e = .returned (.bool true) ∧ Below w.heap.size w w' := by
  go_enter Try.func8, Try.ntmps8
  go_wp2_with fail
  have BKs0 := Aside0.mk (show ((w.alloc (.cells #[.int .i64 0, .int .i64 0, .int .i64 1] 3)).alloc (.cells #[.slice (some ⟨w.heap.size, 0, none⟩) 3 3, .slice none 0 0, .int .i64 0, .int .u64 0] 25)).heap[w.heap.size]? = some (.cells #[.int .i64 0, .int .i64 0, .int .i64 1] 3 (0, 0)) from blk_alloc (heap_alloc_new w _) _)
  have BKh0 := Aside0.mk (show ((w.alloc (.cells #[.int .i64 0, .int .i64 0, .int .i64 1] 3)).alloc (.cells #[.slice (some ⟨w.heap.size, 0, none⟩) 3 3, .slice none 0 0, .int .i64 0, .int .u64 0] 25)).heap[w.heap.size + 1]? = some (.cells #[.slice (some ⟨w.heap.size, 0, none⟩) 3 3, .slice none 0 0, .int .i64 0, .int .u64 0] 25 (0, 0)) from by simpa using heap_alloc_new (w.alloc (.cells #[.int .i64 0, .int .i64 0, .int .i64 1] 3)) (.cells #[.slice (some ⟨w.heap.size, 0, none⟩) 3 3, .slice none 0 0, .int .i64 0, .int .u64 0] 25))
  have HB0 := Aside0.mk (below_alloc (below_alloc (Below.refl w.heap.size w) (.cells #[.int .i64 0, .int .i64 0, .int .i64 1] 3)) (.cells #[.slice (some ⟨w.heap.size, 0, none⟩) 3 3, .slice none 0 0, .int .i64 0, .int .u64 0] 25))
  refine (tree_Check.calls0 50 _ _ [0, 0, 1] _ _ [] 0 0 0 _ (C_block [0, 0, 1] (BKs0.out) (by decide)) (Kd.C_nil _ _) (by kernel_rfl)).mono ?_
  rintro e w1 ⟨rfl, hb⟩
  have BKs1 := Aside0.mk (blk_below (o := (.cells #[.int .i64 0, .int .i64 0, .int .i64 1] 3 (0, 0))) (BKs0.out) hb)
  have BKh1 := Aside0.mk (blk_below (o := (.cells #[.slice (some ⟨w.heap.size, 0, none⟩) 3 3, .slice none 0 0, .int .i64 0, .int .u64 0] 25 (0, 0))) (BKh0.out) hb)
  have HB1 := Aside0.mk (below_step (HB0.out) hb)
  clear hb
  have hz1_0 : w1.cell? ⟨w.heap.size + 1, 0, none⟩ = some (.slice (some ⟨w.heap.size, 0, none⟩) 3 3) := (blk_cell BKh1.out 0).trans rfl
  have hz1_1 : w1.cell? ⟨w.heap.size + 1, 1, none⟩ = some (.slice none 0 0) := (blk_cell BKh1.out 1).trans rfl
  have hz1_2 : w1.cell? ⟨w.heap.size + 1, 2, none⟩ = some (.int .i64 0) := (blk_cell BKh1.out 2).trans rfl
  have hz1_3 : w1.cell? ⟨w.heap.size + 1, 3, none⟩ = some (.int .u64 0) := (blk_cell BKh1.out 3).trans rfl
  go_wp2_with fail
  clear hz1_0 hz1_1 hz1_2 hz1_3
  refine (tree_Size.calls0 50 _ _ [0, 0, 1] _ _ [] 0 0 4 _ (C_block [0, 0, 1] (BKs1.out) (by decide)) (Kd.C_nil _ _) (by kernel_rfl)).mono ?_
  rintro e w2 ⟨rfl, hb⟩
  have BKs2 := Aside0.mk (blk_below (o := (.cells #[.int .i64 0, .int .i64 0, .int .i64 1] 3 (0, 0))) (BKs1.out) hb)
  have BKh2 := Aside0.mk (blk_below (o := (.cells #[.slice (some ⟨w.heap.size, 0, none⟩) 3 3, .slice none 0 0, .int .i64 0, .int .u64 0] 25 (0, 0))) (BKh1.out) hb)
  have HB2 := Aside0.mk (below_step (HB1.out) hb)
  clear hb
  have hz2_0 : w2.cell? ⟨w.heap.size + 1, 0, none⟩ = some (.slice (some ⟨w.heap.size, 0, none⟩) 3 3) := (blk_cell BKh2.out 0).trans rfl
  have hz2_1 : w2.cell? ⟨w.heap.size + 1, 1, none⟩ = some (.slice none 0 0) := (blk_cell BKh2.out 1).trans rfl
  have hz2_2 : w2.cell? ⟨w.heap.size + 1, 2, none⟩ = some (.int .i64 0) := (blk_cell BKh2.out 2).trans rfl
  have hz2_3 : w2.cell? ⟨w.heap.size + 1, 3, none⟩ = some (.int .u64 0) := (blk_cell BKh2.out 3).trans rfl
  go_wp2_with fail
  clear hz2_0 hz2_1 hz2_2 hz2_3
  refine (tree_Way.calls _ 3 [0, 0, 1] _ 0 [] 0 0 2 3 [2, 0, 1, 3] _ (C_block [0, 0, 1] (BKs2.out) (by decide)) (by decide) (Kd.C_nil _ _) (by decide) (by kernel_rfl)).mono ?_
  rintro e w3 ⟨v3, rfl, hr, hb⟩
  obtain ⟨A3, c3, rfl, hc3, hC3⟩ := Kd.R_reads hr
  have BKs3 := Aside0.mk (blk_below (o := (.cells #[.int .i64 0, .int .i64 0, .int .i64 1] 3 (0, 0))) (BKs2.out) hb)
  have BKh3 := Aside0.mk (blk_below (o := (.cells #[.slice (some ⟨w.heap.size, 0, none⟩) 3 3, .slice none 0 0, .int .i64 0, .int .u64 0] 25 (0, 0))) (BKh2.out) hb)
  have HB3 := Aside0.mk (below_step (HB2.out) hb)
  have HC3 := Aside0.mk (hC3)
  have HL3 := Aside0.mk (hc3)
  clear hb
  clear hC3 hr hc3
  go_wp2_with fail
  refine (arbourref14_SameInts.calls 50 _ _ [2, 0, 1, 3] _ 4 [2, 0, 1, 3] true _ (Kd.C_alloc HC3.out _) HL3.out (C_block [2, 0, 1, 3] (heap_alloc_new w3 _) (by decide)) (by decide) (by kernel_rfl)).mono ?_
  rintro e w4 ⟨rfl, hb0⟩
  have hb := hb0.below
  clear hb0
  have BKs4 := Aside0.mk (blk_below (o := (.cells #[.int .i64 0, .int .i64 0, .int .i64 1] 3 (0, 0))) (blk_alloc BKs3.out _) hb)
  have BKh4 := Aside0.mk (blk_below (o := (.cells #[.slice (some ⟨w.heap.size, 0, none⟩) 3 3, .slice none 0 0, .int .i64 0, .int .u64 0] 25 (0, 0))) (blk_alloc BKh3.out _) hb)
  have HB4 := Aside0.mk (below_step (below_alloc HB3.out _) hb)
  clear hb
  have hz4_0 : w4.cell? ⟨w.heap.size + 1, 0, none⟩ = some (.slice (some ⟨w.heap.size, 0, none⟩) 3 3) := (blk_cell BKh4.out 0).trans rfl
  have hz4_1 : w4.cell? ⟨w.heap.size + 1, 1, none⟩ = some (.slice none 0 0) := (blk_cell BKh4.out 1).trans rfl
  have hz4_2 : w4.cell? ⟨w.heap.size + 1, 2, none⟩ = some (.int .i64 0) := (blk_cell BKh4.out 2).trans rfl
  have hz4_3 : w4.cell? ⟨w.heap.size + 1, 3, none⟩ = some (.int .u64 0) := (blk_cell BKh4.out 3).trans rfl
  go_wp2_with fail
  clear hz4_0 hz4_1 hz4_2 hz4_3
  refine (tree_Beyond.calls 50 _ 3 [0, 0, 1] _ 0 [] 0 0 0 1 [1, 3] _ (C_block [0, 0, 1] (BKs4.out) (by decide)) (by decide) (Kd.C_nil _ _) (by decide) (by kernel_rfl)).mono ?_
  rintro e w5 ⟨v5, rfl, hr, hb⟩
  obtain ⟨A5, c5, rfl, hc5, hC5⟩ := Kd.R_reads hr
  have BKs5 := Aside0.mk (blk_below (o := (.cells #[.int .i64 0, .int .i64 0, .int .i64 1] 3 (0, 0))) (BKs4.out) hb)
  have BKh5 := Aside0.mk (blk_below (o := (.cells #[.slice (some ⟨w.heap.size, 0, none⟩) 3 3, .slice none 0 0, .int .i64 0, .int .u64 0] 25 (0, 0))) (BKh4.out) hb)
  have HB5 := Aside0.mk (below_step (HB4.out) hb)
  have HC5 := Aside0.mk (hC5)
  have HL5 := Aside0.mk (hc5)
  clear hb
  clear hC5 hr hc5
  go_wp2_with fail
  refine (arbourref14_SameInts.calls 50 _ _ [1, 3] _ 2 [1, 3] true _ (Kd.C_alloc HC5.out _) HL5.out (C_block [1, 3] (heap_alloc_new w5 _) (by decide)) (by decide) (by kernel_rfl)).mono ?_
  rintro e w6 ⟨rfl, hb0⟩
  have hb := hb0.below
  clear hb0
  have BKs6 := Aside0.mk (blk_below (o := (.cells #[.int .i64 0, .int .i64 0, .int .i64 1] 3 (0, 0))) (blk_alloc BKs5.out _) hb)
  have BKh6 := Aside0.mk (blk_below (o := (.cells #[.slice (some ⟨w.heap.size, 0, none⟩) 3 3, .slice none 0 0, .int .i64 0, .int .u64 0] 25 (0, 0))) (blk_alloc BKh5.out _) hb)
  have HB6 := Aside0.mk (below_step (below_alloc HB5.out _) hb)
  clear hb
  have hz6_0 : w6.cell? ⟨w.heap.size + 1, 0, none⟩ = some (.slice (some ⟨w.heap.size, 0, none⟩) 3 3) := (blk_cell BKh6.out 0).trans rfl
  have hz6_1 : w6.cell? ⟨w.heap.size + 1, 1, none⟩ = some (.slice none 0 0) := (blk_cell BKh6.out 1).trans rfl
  have hz6_2 : w6.cell? ⟨w.heap.size + 1, 2, none⟩ = some (.int .i64 0) := (blk_cell BKh6.out 2).trans rfl
  have hz6_3 : w6.cell? ⟨w.heap.size + 1, 3, none⟩ = some (.int .u64 0) := (blk_cell BKh6.out 3).trans rfl
  go_wp2_with fail
  clear hz6_0 hz6_1 hz6_2 hz6_3
  refine (tree_Hop.calls _ 3 [0, 0, 1] _ 0 [] 0 0 3 2 1 _ (C_block [0, 0, 1] (BKs6.out) (by decide)) (by decide) (Kd.C_nil _ _) (by decide) (by kernel_rfl)).mono ?_
  rintro e w7 ⟨rfl, hb⟩
  have BKs7 := Aside0.mk (blk_below (o := (.cells #[.int .i64 0, .int .i64 0, .int .i64 1] 3 (0, 0))) (BKs6.out) hb)
  have BKh7 := Aside0.mk (blk_below (o := (.cells #[.slice (some ⟨w.heap.size, 0, none⟩) 3 3, .slice none 0 0, .int .i64 0, .int .u64 0] 25 (0, 0))) (BKh6.out) hb)
  have HB7 := Aside0.mk (below_step (HB6.out) hb)
  clear hb
  have hz7_0 : w7.cell? ⟨w.heap.size + 1, 0, none⟩ = some (.slice (some ⟨w.heap.size, 0, none⟩) 3 3) := (blk_cell BKh7.out 0).trans rfl
  have hz7_1 : w7.cell? ⟨w.heap.size + 1, 1, none⟩ = some (.slice none 0 0) := (blk_cell BKh7.out 1).trans rfl
  have hz7_2 : w7.cell? ⟨w.heap.size + 1, 2, none⟩ = some (.int .i64 0) := (blk_cell BKh7.out 2).trans rfl
  have hz7_3 : w7.cell? ⟨w.heap.size + 1, 3, none⟩ = some (.int .u64 0) := (blk_cell BKh7.out 3).trans rfl
  go_wp2_with fail
  clear hz7_0 hz7_1 hz7_2 hz7_3
  refine (tree_Links.calls 50 _ 3 [0, 0, 1] _ 0 [] 0 0 [⟨0, 1⟩, ⟨0, 2⟩, ⟨1, 0⟩, ⟨1, 3⟩, ⟨2, 0⟩, ⟨3, 1⟩] _ (C_block [0, 0, 1] (BKs7.out) (by decide)) (by decide) (Kd.C_nil _ _) (by decide) (by kernel_rfl)).mono ?_
  rintro e w8 ⟨v8, rfl, hr, hb⟩
  obtain ⟨A8, c8, rfl, _⟩ := Kd.R_reads hr
  have BKs8 := Aside0.mk (blk_below (o := (.cells #[.int .i64 0, .int .i64 0, .int .i64 1] 3 (0, 0))) (BKs7.out) hb)
  have BKh8 := Aside0.mk (blk_below (o := (.cells #[.slice (some ⟨w.heap.size, 0, none⟩) 3 3, .slice none 0 0, .int .i64 0, .int .u64 0] 25 (0, 0))) (BKh7.out) hb)
  have HB8 := Aside0.mk (below_step (HB7.out) hb)
  clear hb
  clear hr
  go_wp2_with fail
  refine (tree_Check.calls0 50 _ _ [1] _ _ [] 0 0 8 _ (C_block [1] (heap_alloc_new w8 _) (by decide)) (Kd.C_nil _ _) (by kernel_rfl)).mono ?_
  rintro e w9 ⟨rfl, hb⟩
  have BKs9 := Aside0.mk (blk_below (o := (.cells #[.int .i64 0, .int .i64 0, .int .i64 1] 3 (0, 0))) (blk_alloc BKs8.out _) hb)
  have BKh9 := Aside0.mk (blk_below (o := (.cells #[.slice (some ⟨w.heap.size, 0, none⟩) 3 3, .slice none 0 0, .int .i64 0, .int .u64 0] 25 (0, 0))) (blk_alloc BKh8.out _) hb)
  have HB9 := Aside0.mk (below_step (below_alloc HB8.out _) hb)
  clear hb
  go_wp2_with fail
  refine (tree_Check.calls0 50 _ _ [] _ _ [1] 0 0 1 _ (Kd.C_nil _ _) (C_block [1] (heap_alloc_new w9 _) (by decide)) (by kernel_rfl)).mono ?_
  rintro e w10 ⟨rfl, hb⟩
  have BKs10 := Aside0.mk (blk_below (o := (.cells #[.int .i64 0, .int .i64 0, .int .i64 1] 3 (0, 0))) (blk_alloc BKs9.out _) hb)
  have BKh10 := Aside0.mk (blk_below (o := (.cells #[.slice (some ⟨w.heap.size, 0, none⟩) 3 3, .slice none 0 0, .int .i64 0, .int .u64 0] 25 (0, 0))) (blk_alloc BKh9.out _) hb)
  have HB10 := Aside0.mk (below_step (below_alloc HB9.out _) hb)
  clear hb
  go_wp2_with fail
  go_ret
  exact ⟨rfl, HB10.out⟩
def arbourlaw16_awake.f (k : Nat)  : Option (Bool) := some true
theorem arbourlaw16_awake.mono : ∀ k, LeO (arbourlaw16_awake.f k) (arbourlaw16_awake.f (k + 1)) := fun _ => LeO.refl _
theorem arbourlaw16_awake.calls (k : Nat)  (r : Bool) (w : World)  (h : arbourlaw16_awake.f k  = some r) :
    Calls Try.prog 8 #[] w fun e w' => e = .returned (.bool r) ∧ Below w.heap.size w w' := by
  obtain rfl := Option.some.inj h
  exact awake_true w

end Go.Proofs.Ytpoolbjmebacdaa.Q
