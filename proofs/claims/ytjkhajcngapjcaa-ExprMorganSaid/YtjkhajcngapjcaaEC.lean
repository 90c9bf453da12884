/- slices.Clone of expressions, expr.And and Or of a list: what they come to. -/
import Derived.Test.YtjkhajcngapjcaaEB
import Derived.Outline
namespace Go.Proofs.Ytjkhajcngapjcaa.Q
open Go.RowKit Go.Proofs.YtjkhajcngapjcaaW.PrintWords Go.Proofs.YtjkhajcngapjcaaW.PrintLast Go.Proofs.YtjkhajcngapjcaaW.PrintMore
set_option linter.unusedVariables false
set_option linter.unusedSimpArgs false

theorem C_of_own {w : World} {base n : Nat} {e : TypeId} {v : Value} {ps : List S28} {cs : List Value} (h : w.ownsRow base e 7 v n cs) (hR : Reps (k28.K w) 7 ps cs) (hn : ps.length = n) : ∃ A c, v = .slice A ps.length c ∧ ps.length ≤ c ∧ k28.C w A ps.length ps := by
  subst hn
  obtain ⟨A, c, rfl, hrow⟩ := own_reads_row h hR rfl
  exact ⟨A, c, rfl, own_le h, hrow⟩
theorem ones_of {w : World} {ps : List S28} {news : List Value} (h : Reps (k28.K w) 7 ps news) : ∀ u ∈ news, u.oneCell' = true := by
  intro u hu
  obtain ⟨q, hq, rfl⟩ := List.mem_iff_getElem.1 hu
  have hlen := h.1
  have hql : q / 7 < ps.length := by omega
  have hc := h.2 (q / 7) _ (List.getElem?_eq_getElem hql)
  refine k28.K_one hc _ ?_
  rw [List.mem_iff_getElem?]
  refine ⟨q % 7, ?_⟩
  rw [List.getElem?_take, if_pos (by omega), List.getElem?_drop, Nat.mul_comm, Nat.div_add_mod, List.getElem?_eq_getElem hq]
attribute [local go_sem] eql26_nil eql26_some
theorem i28 : ∃ i, Try.prog.info? 28 = some i ∧ i.zero = some (.agg #[(.int .i64 0), (.int .i64 0), (.bool false), (.slice none 0 0), (.bool false), (.slice none 0 0), (.slice none 0 0)]) ∧ i.size = 7 ∧ i.bytes = 104 := by
  obtain ⟨i, hi, h⟩ := Option.map_eq_some_iff.1 info28
  simp only [Prod.mk.injEq] at h
  exact ⟨i, hi, h.1, h.2.1, h.2.2⟩
theorem own_move {w W : World} {base size n : Nat} {e : TypeId} {v : Value} {xs : List Value} (h : w.ownsRow base e size v n xs) (hk : ∀ k, base ≤ k → k < w.heap.size → W.heap[k]? = w.heap[k]?) : W.ownsRow base e size v n xs := by
  obtain ⟨h1, h2⟩ := h
  refine ⟨h1, ?_⟩
  rcases h2 with h2 | ⟨g, cap, cur, e1, e2, e3, e4⟩
  · exact .inl h2
  · exact .inr ⟨g, cap, cur, e1, e2, (hk g e2 (Array.getElem?_eq_some_iff.1 e3).1).trans e3, e4⟩
set_option maxHeartbeats 4000000 in
set_option maxRecDepth 100000 in
theorem clone_own (ad : Addr) (c : Nat) (xs : List S28) (news : List Value) (w0 w : World) (hl : xs.length ≤ 1000) (hr : Reps (k28.K w0) 7 xs news) (hn : ∀ j u, news[j]? = some u → w.cell? (ad.add j) = some u) : Calls Try.prog 35 #[.slice (some ad) xs.length c] w fun e w' => (∃ A d, e = .returned (.slice A xs.length d) ∧ w'.ownsRow w.heap.size 28 7 (.slice A xs.length d) xs.length news) ∧ Below w.heap.size w w' := by
  have HL := Aside0.mk hl
  have HR := Aside0.mk (And.intro hr hn)
  obtain ⟨i, hi1, hi2, hi3, hi4⟩ := i28
  have HI := Aside0.mk (And.intro hi1 (And.intro hi2 (And.intro hi3 hi4)))
  clear hl hr hn hi1 hi2 hi3 hi4
  go_enter Try.func35, Try.ntmps35
  go_wp2_with ((with_reducible refine gate_builtin (b := .append) (xs := #[.tmp 5, .tmp 6]) rfl ?_); at_builtin; refine wpList_append_own_at _ rfl (.tmp 5) (.tmp 6) 26 rfl w.heap.size 28 i _ 7 104 Try.underlying26 HI.out.1 HI.out.2.1 HI.out.2.2.1 HI.out.2.2.2 rfl (by omega) (.slice (some ⟨w.heap.size, 0, none⟩) 0 0) 0 [] rfl ?aO ad xs.length c news rfl ?aL ?aN ?a1 ?aM ?aB ?aS ?_; (case aO => exact ⟨rfl, .inr ⟨w.heap.size, 0, #[], rfl, Nat.le_refl _, heap_alloc_new w _, Nat.le_refl _, by decide, rfl, rfl⟩⟩); (case aL => exact HR.out.1.1); (case aN => exact fun j u hu => pw_cell_below (below_alloc (Below.refl _ _) _) (HR.out.2 j u hu)); (case a1 => exact ones_of HR.out.1); (case aM => (have := HL.out; simp only [maxLen]; omega)); (case aB => (have := HL.out; omega)); (case aS => simp); intro v1 w1 hown hg _ hat; have HB1 := Aside0.mk (show Below w.heap.size w w1 from pw_below_grown (below_alloc (Below.refl _ _) _) _ (by simp) hg (fun k hk => by cases hk; exact Nat.le_refl _)); have HOWN := Aside0.mk hown; clear hown hg hat)
  go_ret
  have ho := HOWN.out
  rw [Nat.zero_add, List.nil_append] at ho
  obtain ⟨A, d, rfl⟩ := own_slice ho
  exact ⟨⟨A, d, rfl, ho⟩, HB1.out⟩
set_option maxHeartbeats 4000000 in
set_option maxRecDepth 100000 in
theorem and_some (ad : Addr) (c : Nat) (xs : List S28) (w : World) (hl : xs.length ≤ 1000) (hC : k28.C w (some ad) xs.length xs) : Calls Try.prog 19 #[.slice (some ad) xs.length c] w fun e w' => ∃ u, e = .returned u ∧ XR w' u ⟨2, 0, s0, xs⟩ ∧ Below w.heap.size w w' := by
  obtain ⟨news, hr, hn⟩ := ReadsRow.inner_ hC
  have HC := Aside0.mk (And.intro hl (And.intro hr hn))
  clear hl hC hr hn
  go_enter Try.func19, Try.ntmps19
  go_wp2_with fail
  refine (clone_own ad c xs news w _ HC.out.1 HC.out.2.1 (fun j u hu => pw_cell_below (below_alloc (Below.refl _ _) _) (HC.out.2.2 j u hu))).mono ?_
  rintro e w1 ⟨⟨A, d, rfl, ho⟩, hb1⟩
  have HB1 := Aside0.mk (below_step (below_alloc (Below.refl _ _) _) hb1)
  have BK := Aside0.mk (blk_below (heap_alloc_new w _) hb1)
  rw [World.size_alloc] at ho
  have HO := Aside0.mk ho
  clear hb1 ho
  obtain ⟨z0, z1, z2, z3, z4, z5, z6⟩ := ncells BK.out
  have f0 := blk_frozen BK.out 0
  have f1 := blk_frozen BK.out 1
  have f2 := blk_frozen BK.out 2
  have f3 := blk_frozen BK.out 3
  have f4 := blk_frozen BK.out 4
  have f5 := blk_frozen BK.out 5
  have f6 := blk_frozen BK.out 6
  go_wp2_with fail
  have hk := Go.Proofs.YtjkhajcngapjcaaW.PrintWords.blk_put (Go.Proofs.YtjkhajcngapjcaaW.PrintWords.blk_put (Go.Proofs.YtjkhajcngapjcaaW.PrintWords.blk_put (Go.Proofs.YtjkhajcngapjcaaW.PrintWords.blk_put (Go.Proofs.YtjkhajcngapjcaaW.PrintWords.blk_put (Go.Proofs.YtjkhajcngapjcaaW.PrintWords.blk_put (Go.Proofs.YtjkhajcngapjcaaW.PrintWords.blk_put BK.out 0 (.int .i64 2) rfl) 1 (.int .i64 0) rfl) 2 (.bool false) rfl) 3 (.slice none 0 0) rfl) 4 (.bool false) rfl) 5 (.slice none 0 0) rfl) 6 (.slice A xs.length d) rfl
  have hb := below_set (j := 6) (v := .slice A xs.length d) (below_set (j := 5) (v := .slice none 0 0) (below_set (j := 4) (v := .bool false) (below_set (j := 3) (v := .slice none 0 0) (below_set (j := 2) (v := .bool false) (below_set (j := 1) (v := .int .i64 0) (below_set (j := 0) (v := .int .i64 2) HB1.out (Nat.le_refl w.heap.size)) (Nat.le_refl _)) (Nat.le_refl _)) (Nat.le_refl _)) (Nat.le_refl _)) (Nat.le_refl _)) (Nat.le_refl _)
  have hfar : ∀ (W : World) (j : Nat) (v : Value), ∀ q, w.heap.size + 1 ≤ q → (W.setCell ⟨w.heap.size, j, none⟩ v).heap[q]? = W.heap[q]? := fun W j v q hq => Below.heap_setCell W _ v q (by simp; omega)
  refine bodyPost_ret (results_cell_row rfl _ _ w.heap.size 28 #[.int .i64 2, .int .i64 0, .bool false, .slice none 0 0, .bool false, .slice none 0 0, .slice A xs.length d] (0, 0) _ rfl hk Try.underlying28 rfl (by kernel_rfl)) rfl ⟨_, rfl, ?_, hb⟩
  have ho := own_move (W := _) HO.out (fun q hq _ => ((hfar _ 6 (.slice A xs.length d) q hq).trans ((hfar _ 5 (.slice none 0 0) q hq).trans ((hfar _ 4 (.bool false) q hq).trans ((hfar _ 3 (.slice none 0 0) q hq).trans ((hfar _ 2 (.bool false) q hq).trans ((hfar _ 1 (.int .i64 0) q hq).trans (hfar _ 0 (.int .i64 2) q hq))))))))
  obtain ⟨A', d', he, hd, hCC⟩ := C_of_own ho (HC.out.2.1.imp_ (fun p c hp => k28.K_below hb hp)) rfl
  injection he with h1 h2 h3
  subst h1 h3
  exact ⟨none, 0, none, 0, A, d, rfl, Nat.le_refl _, Kd.C_nil _ _, Nat.le_refl _, Kd.C_nil _ _, hd, hCC⟩
set_option maxHeartbeats 4000000 in
set_option maxRecDepth 100000 in
theorem or_some (ad : Addr) (c : Nat) (xs : List S28) (w : World) (hl : xs.length ≤ 1000) (hC : k28.C w (some ad) xs.length xs) : Calls Try.prog 20 #[.slice (some ad) xs.length c] w fun e w' => ∃ u, e = .returned u ∧ XR w' u ⟨3, 0, s0, xs⟩ ∧ Below w.heap.size w w' := by
  obtain ⟨news, hr, hn⟩ := ReadsRow.inner_ hC
  have HC := Aside0.mk (And.intro hl (And.intro hr hn))
  clear hl hC hr hn
  go_enter Try.func20, Try.ntmps20
  go_wp2_with fail
  refine (clone_own ad c xs news w _ HC.out.1 HC.out.2.1 (fun j u hu => pw_cell_below (below_alloc (Below.refl _ _) _) (HC.out.2.2 j u hu))).mono ?_
  rintro e w1 ⟨⟨A, d, rfl, ho⟩, hb1⟩
  have HB1 := Aside0.mk (below_step (below_alloc (Below.refl _ _) _) hb1)
  have BK := Aside0.mk (blk_below (heap_alloc_new w _) hb1)
  rw [World.size_alloc] at ho
  have HO := Aside0.mk ho
  clear hb1 ho
  obtain ⟨z0, z1, z2, z3, z4, z5, z6⟩ := ncells BK.out
  have f0 := blk_frozen BK.out 0
  have f1 := blk_frozen BK.out 1
  have f2 := blk_frozen BK.out 2
  have f3 := blk_frozen BK.out 3
  have f4 := blk_frozen BK.out 4
  have f5 := blk_frozen BK.out 5
  have f6 := blk_frozen BK.out 6
  go_wp2_with fail
  have hk := Go.Proofs.YtjkhajcngapjcaaW.PrintWords.blk_put (Go.Proofs.YtjkhajcngapjcaaW.PrintWords.blk_put (Go.Proofs.YtjkhajcngapjcaaW.PrintWords.blk_put (Go.Proofs.YtjkhajcngapjcaaW.PrintWords.blk_put (Go.Proofs.YtjkhajcngapjcaaW.PrintWords.blk_put (Go.Proofs.YtjkhajcngapjcaaW.PrintWords.blk_put (Go.Proofs.YtjkhajcngapjcaaW.PrintWords.blk_put BK.out 0 (.int .i64 3) rfl) 1 (.int .i64 0) rfl) 2 (.bool false) rfl) 3 (.slice none 0 0) rfl) 4 (.bool false) rfl) 5 (.slice none 0 0) rfl) 6 (.slice A xs.length d) rfl
  have hb := below_set (j := 6) (v := .slice A xs.length d) (below_set (j := 5) (v := .slice none 0 0) (below_set (j := 4) (v := .bool false) (below_set (j := 3) (v := .slice none 0 0) (below_set (j := 2) (v := .bool false) (below_set (j := 1) (v := .int .i64 0) (below_set (j := 0) (v := .int .i64 3) HB1.out (Nat.le_refl w.heap.size)) (Nat.le_refl _)) (Nat.le_refl _)) (Nat.le_refl _)) (Nat.le_refl _)) (Nat.le_refl _)) (Nat.le_refl _)
  have hfar : ∀ (W : World) (j : Nat) (v : Value), ∀ q, w.heap.size + 1 ≤ q → (W.setCell ⟨w.heap.size, j, none⟩ v).heap[q]? = W.heap[q]? := fun W j v q hq => Below.heap_setCell W _ v q (by simp; omega)
  refine bodyPost_ret (results_cell_row rfl _ _ w.heap.size 28 #[.int .i64 3, .int .i64 0, .bool false, .slice none 0 0, .bool false, .slice none 0 0, .slice A xs.length d] (0, 0) _ rfl hk Try.underlying28 rfl (by kernel_rfl)) rfl ⟨_, rfl, ?_, hb⟩
  have ho := own_move (W := _) HO.out (fun q hq _ => ((hfar _ 6 (.slice A xs.length d) q hq).trans ((hfar _ 5 (.slice none 0 0) q hq).trans ((hfar _ 4 (.bool false) q hq).trans ((hfar _ 3 (.slice none 0 0) q hq).trans ((hfar _ 2 (.bool false) q hq).trans ((hfar _ 1 (.int .i64 0) q hq).trans (hfar _ 0 (.int .i64 3) q hq))))))))
  obtain ⟨A', d', he, hd, hCC⟩ := C_of_own ho (HC.out.2.1.imp_ (fun p c hp => k28.K_below hb hp)) rfl
  injection he with h1 h2 h3
  subst h1 h3
  exact ⟨none, 0, none, 0, A, d, rfl, Nat.le_refl _, Kd.C_nil _ _, Nat.le_refl _, Kd.C_nil _ _, hd, hCC⟩
end Go.Proofs.Ytjkhajcngapjcaa.Q
