/- And, Or and Not: what they come to in whatever later world their parts and their own blocks are as they were; printed by gen_ec2.py. -/
import Derived.Test.YtjkhajcngapjcaaEC
import Derived.Test.YtjkhajcngapjcaaEK
import Derived.Outline
namespace Go.Proofs.Ytjkhajcngapjcaa.Q
open Go.RowKit Go.Proofs.YtjkhajcngapjcaaW.PrintWords Go.Proofs.YtjkhajcngapjcaaW.PrintLast Go.Proofs.YtjkhajcngapjcaaW.PrintMore
set_option linter.unusedVariables false
set_option linter.unusedSimpArgs false

theorem set_size (W : World) (a : Addr) (v : Value) : (W.setCell a v).heap.size = W.heap.size := by simp [World.setCell]
set_option maxHeartbeats 4000000 in
set_option maxRecDepth 100000 in
theorem and_st {St : World → Prop} (ad : Addr) (c : Nat) (xs : List S28) (news : List Value) (w : World) (hl : xs.length ≤ 1000) (hw : St w) (hr : ∀ W, St W → Reps (k28.K W) 7 xs news) (hn : ∀ j u, news[j]? = some u → w.cell? (ad.add j) = some u) : Calls Try.prog 19 #[.slice (some ad) xs.length c] w fun e w' => ∃ u, e = .returned u ∧ (∀ W, St W → (∀ k, w.heap.size ≤ k → k < w'.heap.size → W.heap[k]? = w'.heap[k]?) → XR W u ⟨2, 0, s0, xs⟩) ∧ Below w.heap.size w w' := by
  have HC := Aside0.mk (And.intro hl (And.intro (hr w hw) (And.intro hn hr)))
  clear hl hr hn hw
  go_enter Try.func19, Try.ntmps19
  go_wp2_with fail
  refine (clone_own ad c xs news w _ HC.out.1 HC.out.2.1 (fun j u hu => pw_cell_below (below_alloc (Below.refl _ _) _) (HC.out.2.2.1 j u hu))).mono ?_
  rintro e w1 ⟨⟨A, d, rfl, ho⟩, hb1⟩
  have HB1 := Aside0.mk (below_step (below_alloc (Below.refl _ _) _) hb1)
  have BK := Aside0.mk (blk_below (heap_alloc_new w _) hb1)
  rw [World.size_alloc] at ho
  have HO := Aside0.mk ho
  clear hb1 ho
  obtain ⟨z0, z1, z2, z3, z4, z5, z6⟩ := ncells BK.out
  have f0 := blk_frozen BK.out 0
  have f1 := blk_frozen BK.out 1
  have f2 := blk_frozen BK.out 2
  have f3 := blk_frozen BK.out 3
  have f4 := blk_frozen BK.out 4
  have f5 := blk_frozen BK.out 5
  have f6 := blk_frozen BK.out 6
  go_wp2_with fail
  have hk := Go.Proofs.YtjkhajcngapjcaaW.PrintWords.blk_put (Go.Proofs.YtjkhajcngapjcaaW.PrintWords.blk_put (Go.Proofs.YtjkhajcngapjcaaW.PrintWords.blk_put (Go.Proofs.YtjkhajcngapjcaaW.PrintWords.blk_put (Go.Proofs.YtjkhajcngapjcaaW.PrintWords.blk_put (Go.Proofs.YtjkhajcngapjcaaW.PrintWords.blk_put (Go.Proofs.YtjkhajcngapjcaaW.PrintWords.blk_put BK.out 0 (.int .i64 2) rfl) 1 (.int .i64 0) rfl) 2 (.bool false) rfl) 3 (.slice none 0 0) rfl) 4 (.bool false) rfl) 5 (.slice none 0 0) rfl) 6 (.slice A xs.length d) rfl
  have hb := below_set (j := 6) (v := .slice A xs.length d) (below_set (j := 5) (v := .slice none 0 0) (below_set (j := 4) (v := .bool false) (below_set (j := 3) (v := .slice none 0 0) (below_set (j := 2) (v := .bool false) (below_set (j := 1) (v := .int .i64 0) (below_set (j := 0) (v := .int .i64 2) HB1.out (Nat.le_refl w.heap.size)) (Nat.le_refl _)) (Nat.le_refl _)) (Nat.le_refl _)) (Nat.le_refl _)) (Nat.le_refl _)) (Nat.le_refl _)
  have hfar : ∀ (W : World) (j : Nat) (v : Value), ∀ q, w.heap.size + 1 ≤ q → (W.setCell ⟨w.heap.size, j, none⟩ v).heap[q]? = W.heap[q]? := fun W j v q hq => Below.heap_setCell W _ v q (by simp; omega)
  refine bodyPost_ret (results_cell_row rfl _ _ w.heap.size 28 #[.int .i64 2, .int .i64 0, .bool false, .slice none 0 0, .bool false, .slice none 0 0, .slice A xs.length d] (0, 0) _ rfl hk Try.underlying28 rfl (by kernel_rfl)) rfl ⟨_, rfl, ?_, hb⟩
  intro W hSt hAg
  have ho := own_move (W := W) HO.out (fun q hq hlt => (hAg q (by omega) (by simp only [set_size]; exact hlt)).trans (((hfar _ 6 (.slice A xs.length d) q hq).trans ((hfar _ 5 (.slice none 0 0) q hq).trans ((hfar _ 4 (.bool false) q hq).trans ((hfar _ 3 (.slice none 0 0) q hq).trans ((hfar _ 2 (.bool false) q hq).trans ((hfar _ 1 (.int .i64 0) q hq).trans (hfar _ 0 (.int .i64 2) q hq)))))))))
  obtain ⟨A', d', he, hd, hCC⟩ := C_of_own ho (HC.out.2.2.2 W hSt) rfl
  injection he with h1 h2 h3
  subst h1 h3
  exact ⟨none, 0, none, 0, A, d, rfl, Nat.le_refl _, Kd.C_nil _ _, Nat.le_refl _, Kd.C_nil _ _, hd, hCC⟩
set_option maxHeartbeats 4000000 in
set_option maxRecDepth 100000 in
theorem or_st {St : World → Prop} (ad : Addr) (c : Nat) (xs : List S28) (news : List Value) (w : World) (hl : xs.length ≤ 1000) (hw : St w) (hr : ∀ W, St W → Reps (k28.K W) 7 xs news) (hn : ∀ j u, news[j]? = some u → w.cell? (ad.add j) = some u) : Calls Try.prog 20 #[.slice (some ad) xs.length c] w fun e w' => ∃ u, e = .returned u ∧ (∀ W, St W → (∀ k, w.heap.size ≤ k → k < w'.heap.size → W.heap[k]? = w'.heap[k]?) → XR W u ⟨3, 0, s0, xs⟩) ∧ Below w.heap.size w w' := by
  have HC := Aside0.mk (And.intro hl (And.intro (hr w hw) (And.intro hn hr)))
  clear hl hr hn hw
  go_enter Try.func20, Try.ntmps20
  go_wp2_with fail
  refine (clone_own ad c xs news w _ HC.out.1 HC.out.2.1 (fun j u hu => pw_cell_below (below_alloc (Below.refl _ _) _) (HC.out.2.2.1 j u hu))).mono ?_
  rintro e w1 ⟨⟨A, d, rfl, ho⟩, hb1⟩
  have HB1 := Aside0.mk (below_step (below_alloc (Below.refl _ _) _) hb1)
  have BK := Aside0.mk (blk_below (heap_alloc_new w _) hb1)
  rw [World.size_alloc] at ho
  have HO := Aside0.mk ho
  clear hb1 ho
  obtain ⟨z0, z1, z2, z3, z4, z5, z6⟩ := ncells BK.out
  have f0 := blk_frozen BK.out 0
  have f1 := blk_frozen BK.out 1
  have f2 := blk_frozen BK.out 2
  have f3 := blk_frozen BK.out 3
  have f4 := blk_frozen BK.out 4
  have f5 := blk_frozen BK.out 5
  have f6 := blk_frozen BK.out 6
  go_wp2_with fail
  have hk := Go.Proofs.YtjkhajcngapjcaaW.PrintWords.blk_put (Go.Proofs.YtjkhajcngapjcaaW.PrintWords.blk_put (Go.Proofs.YtjkhajcngapjcaaW.PrintWords.blk_put (Go.Proofs.YtjkhajcngapjcaaW.PrintWords.blk_put (Go.Proofs.YtjkhajcngapjcaaW.PrintWords.blk_put (Go.Proofs.YtjkhajcngapjcaaW.PrintWords.blk_put (Go.Proofs.YtjkhajcngapjcaaW.PrintWords.blk_put BK.out 0 (.int .i64 3) rfl) 1 (.int .i64 0) rfl) 2 (.bool false) rfl) 3 (.slice none 0 0) rfl) 4 (.bool false) rfl) 5 (.slice none 0 0) rfl) 6 (.slice A xs.length d) rfl
  have hb := below_set (j := 6) (v := .slice A xs.length d) (below_set (j := 5) (v := .slice none 0 0) (below_set (j := 4) (v := .bool false) (below_set (j := 3) (v := .slice none 0 0) (below_set (j := 2) (v := .bool false) (below_set (j := 1) (v := .int .i64 0) (below_set (j := 0) (v := .int .i64 3) HB1.out (Nat.le_refl w.heap.size)) (Nat.le_refl _)) (Nat.le_refl _)) (Nat.le_refl _)) (Nat.le_refl _)) (Nat.le_refl _)) (Nat.le_refl _)
  have hfar : ∀ (W : World) (j : Nat) (v : Value), ∀ q, w.heap.size + 1 ≤ q → (W.setCell ⟨w.heap.size, j, none⟩ v).heap[q]? = W.heap[q]? := fun W j v q hq => Below.heap_setCell W _ v q (by simp; omega)
  refine bodyPost_ret (results_cell_row rfl _ _ w.heap.size 28 #[.int .i64 3, .int .i64 0, .bool false, .slice none 0 0, .bool false, .slice none 0 0, .slice A xs.length d] (0, 0) _ rfl hk Try.underlying28 rfl (by kernel_rfl)) rfl ⟨_, rfl, ?_, hb⟩
  intro W hSt hAg
  have ho := own_move (W := W) HO.out (fun q hq hlt => (hAg q (by omega) (by simp only [set_size]; exact hlt)).trans (((hfar _ 6 (.slice A xs.length d) q hq).trans ((hfar _ 5 (.slice none 0 0) q hq).trans ((hfar _ 4 (.bool false) q hq).trans ((hfar _ 3 (.slice none 0 0) q hq).trans ((hfar _ 2 (.bool false) q hq).trans ((hfar _ 1 (.int .i64 0) q hq).trans (hfar _ 0 (.int .i64 3) q hq)))))))))
  obtain ⟨A', d', he, hd, hCC⟩ := C_of_own ho (HC.out.2.2.2 W hSt) rfl
  injection he with h1 h2 h3
  subst h1 h3
  exact ⟨none, 0, none, 0, A, d, rfl, Nat.le_refl _, Kd.C_nil _ _, Nat.le_refl _, Kd.C_nil _ _, hd, hCC⟩
theorem C28_cells {w : World} {b : Nat} {x : S28} {cs : Array Value} (hx : XR w (.agg cs) x) (hc : ∀ j u, cs[j]? = some u → w.cell? ⟨b, j, none⟩ = some u) : k28.C w (some ⟨b, 0, none⟩) 1 [x] := by
  obtain ⟨A3, c3, A5, c5, A6, c6, he, l3, g3, l5, g5, l6, g6⟩ := hx
  injection he with he
  subst he
  refine ⟨rfl, by omega, fun _ => ⟨⟨b, 0, none⟩, rfl, fun j p hj => ?_⟩⟩
  have hj0 : j = 0 := by
    cases j with
    | zero => rfl
    | succ j => simp at hj
  subst hj0
  have hp : x = p := by simpa using hj
  subst hp
  refine ⟨_, rfl, k28_mk w x l3 g3 l5 g5 l6 g6, fun i u hu => ?_⟩
  rw [Nat.zero_mul, Nat.zero_add, add_plain]
  exact hc i u (by simpa using hu)
set_option maxHeartbeats 4000000 in
set_option maxRecDepth 100000 in
theorem not_st {St : World → Prop} (x : S28) (v : Value) (w : World) (hw : St w) (hx : ∀ W, St W → XR W v x) : Calls Try.prog 21 #[v] w fun e w' => ∃ u, e = .returned u ∧ (∀ W, St W → (∀ k, w.heap.size ≤ k → k < w'.heap.size → W.heap[k]? = w'.heap[k]?) → XR W u ⟨4, 0, s0, [x]⟩) ∧ Below w.heap.size w w' := by
  have HX := Aside0.mk hx
  obtain ⟨A3, c3, A5, c5, A6, c6, rfl, l3, g3, l5, g5, l6, g6⟩ := hx w hw
  clear l3 g3 l5 g5 l6 g6 hx hw
  go_enter Try.func21, Try.ntmps21
  go_wp2_with fail
  refine bodyPost_ret (results_cell_row rfl _ _ (w.heap.size + 1) 28 #[.int .i64 4, .int .i64 0, .bool false, .slice none 0 0, .bool false, .slice none 0 0, .slice (some ⟨w.heap.size + 1 + 1, 0, none⟩) 1 1] (0, 0) _ rfl (blk_alloc (blk_new1 w _ _) _) Try.underlying28 rfl (by kernel_rfl)) rfl ⟨_, rfl, ?_, below_alloc (below_alloc (below_alloc (Below.refl _ _) _) _) _⟩
  intro W hSt hAg
  have hnew := blk_new1 (w.alloc (.cells #[.int .i64 x.f0, .int .i64 x.f1, .bool x.f2.f0, .slice A3 x.f2.f1.length c3, .bool x.f2.f2, .slice A5 x.f2.f3.length c5, .slice A6 x.f3.length c6] 28)) (.cells #[.int .i64 4, .int .i64 0, .bool false, .slice none 0 0, .bool false, .slice none 0 0, .slice (some ⟨w.heap.size + 1 + 1, 0, none⟩) 1 1] 28) (.cells #[.int .i64 x.f0, .int .i64 x.f1, .bool x.f2.f0, .slice A3 x.f2.f1.length c3, .bool x.f2.f2, .slice A5 x.f2.f3.length c5, .slice A6 x.f3.length c6] 28)
  rw [World.size_alloc] at hnew
  have hW := (hAg (w.heap.size + 1 + 1) (by omega) (by simp [World.size_alloc])).trans hnew
  exact ⟨none, 0, none, 0, some ⟨w.heap.size + 1 + 1, 0, none⟩, 1, rfl, Nat.le_refl _, Kd.C_nil _ _, Nat.le_refl _, Kd.C_nil _ _, Nat.le_refl _,
    C28_cells (HX.out W hSt) (fun j u hu => (blk_cell hW j).trans hu)⟩
end Go.Proofs.Ytjkhajcngapjcaa.Q
