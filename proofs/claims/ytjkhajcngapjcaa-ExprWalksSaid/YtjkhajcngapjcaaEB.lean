/- expr.Atom, Not, And, Or (of nothing): what they come to. -/
import Derived.Test.YtjkhajcngapjcaaER
import Derived.Outline
namespace Go.Proofs.Ytjkhajcngapjcaa.Q
open Go.RowKit Go.Proofs.YtjkhajcngapjcaaW.PrintWords Go.Proofs.YtjkhajcngapjcaaW.PrintLast Go.Proofs.YtjkhajcngapjcaaW.PrintMore
set_option linter.unusedVariables false
set_option linter.unusedSimpArgs false

def s0 : S25 := ⟨false, [], false, []⟩
/-- The cells of a part. -/
def nodeCells (x : S28) (A3 : Option Addr) (c3 : Nat) (A5 : Option Addr) (c5 : Nat) (A6 : Option Addr) (c6 : Nat) : Array Value := #[.int .i64 x.f0, .int .i64 x.f1, .bool x.f2.f0, .slice A3 x.f2.f1.length c3, .bool x.f2.f2, .slice A5 x.f2.f3.length c5, .slice A6 x.f3.length c6]
theorem C28_one {w : World} {b : Nat} {t : TypeId} {x : S28} {A3 : Option Addr} {c3 : Nat} {A5 : Option Addr} {c5 : Nat} {A6 : Option Addr} {c6 : Nat} (h : w.heap[b]? = some (.cells #[.int .i64 x.f0, .int .i64 x.f1, .bool x.f2.f0, .slice A3 x.f2.f1.length c3, .bool x.f2.f2, .slice A5 x.f2.f3.length c5, .slice A6 x.f3.length c6] t (0, 0)))
    (l3 : x.f2.f1.length ≤ c3) (g3 : k54.C w A3 x.f2.f1.length x.f2.f1) (l5 : x.f2.f3.length ≤ c5) (g5 : Kd.string.C w A5 x.f2.f3.length x.f2.f3) (l6 : x.f3.length ≤ c6) (g6 : k28.C w A6 x.f3.length x.f3) : k28.C w (some ⟨b, 0, none⟩) 1 [x] := by
  refine ⟨rfl, by omega, fun _ => ⟨⟨b, 0, none⟩, rfl, fun j p hj => ?_⟩⟩
  have hj0 : j = 0 := by
    cases j with
    | zero => rfl
    | succ j => simp at hj
  subst hj0
  have hp : x = p := by simpa using hj
  subst hp
  refine ⟨_, rfl, k28_mk w x l3 g3 l5 g5 l6 g6, fun i u hu => ?_⟩
  rw [Nat.zero_mul, Nat.zero_add, add_plain, blk_cell h i]
  simpa using hu
set_option maxHeartbeats 4000000 in
set_option maxRecDepth 100000 in
theorem not_any (x : S28) (v : Value) (w : World) (hx : XR w v x) : Calls Try.prog 21 #[v] w fun e w' => ∃ u, e = .returned u ∧ XR w' u ⟨4, 0, s0, [x]⟩ ∧ Below w.heap.size w w' := by
  have HX := Aside0.mk hx
  obtain ⟨A3, c3, A5, c5, A6, c6, rfl, l3, g3, l5, g5, l6, g6⟩ := hx
  have G3 := Aside0.mk (And.intro l3 g3)
  have G5 := Aside0.mk (And.intro l5 g5)
  have G6 := Aside0.mk (And.intro l6 g6)
  clear l3 g3 l5 g5 l6 g6
  go_enter Try.func21, Try.ntmps21
  go_wp2_with fail
  refine bodyPost_ret (results_cell_row rfl _ _ (w.heap.size + 1) 28 #[.int .i64 4, .int .i64 0, .bool false, .slice none 0 0, .bool false, .slice none 0 0, .slice (some ⟨w.heap.size + 1 + 1, 0, none⟩) 1 1] (0, 0) _ rfl (blk_alloc (blk_new1 w _ _) _) Try.underlying28 rfl (by kernel_rfl)) rfl ⟨_, rfl, ?_, below_alloc (below_alloc (below_alloc (Below.refl _ _) _) _) _⟩
  have hnew := blk_new1 (w.alloc (.cells #[.int .i64 x.f0, .int .i64 x.f1, .bool x.f2.f0, .slice A3 x.f2.f1.length c3, .bool x.f2.f2, .slice A5 x.f2.f3.length c5, .slice A6 x.f3.length c6] 28)) (.cells #[.int .i64 4, .int .i64 0, .bool false, .slice none 0 0, .bool false, .slice none 0 0, .slice (some ⟨w.heap.size + 1 + 1, 0, none⟩) 1 1] 28) (.cells #[.int .i64 x.f0, .int .i64 x.f1, .bool x.f2.f0, .slice A3 x.f2.f1.length c3, .bool x.f2.f2, .slice A5 x.f2.f3.length c5, .slice A6 x.f3.length c6] 28)
  rw [World.size_alloc] at hnew
  exact ⟨none, 0, none, 0, some ⟨w.heap.size + 1 + 1, 0, none⟩, 1, rfl, Nat.le_refl _, Kd.C_nil _ _, Nat.le_refl _, Kd.C_nil _ _, Nat.le_refl _,
    C28_one hnew G3.out.1 (Kd.C_alloc (Kd.C_alloc (Kd.C_alloc G3.out.2 _) _) _) G5.out.1 (Kd.C_alloc (Kd.C_alloc (Kd.C_alloc G5.out.2 _) _) _) G6.out.1 (Kd.C_alloc (Kd.C_alloc (Kd.C_alloc G6.out.2 _) _) _)⟩
set_option maxHeartbeats 4000000 in
set_option maxRecDepth 100000 in
theorem atom_any (a : Int) (s : S25) (A3 : Option Addr) (c3 : Nat) (A5 : Option Addr) (c5 : Nat) (w : World) (l3 : s.f1.length ≤ c3) (g3 : k54.C w A3 s.f1.length s.f1) (l5 : s.f3.length ≤ c5) (g5 : Kd.string.C w A5 s.f3.length s.f3) : Calls Try.prog 22 #[.int .i64 a, .agg #[.bool s.f0, .slice A3 s.f1.length c3, .bool s.f2, .slice A5 s.f3.length c5]] w fun e w' => ∃ u, e = .returned u ∧ XR w' u ⟨1, a, s, []⟩ ∧ Below w.heap.size w w' := by
  have G3 := Aside0.mk (And.intro l3 g3)
  have G5 := Aside0.mk (And.intro l5 g5)
  clear l3 g3 l5 g5
  go_enter Try.func22, Try.ntmps22
  go_wp2_with fail
  refine bodyPost_ret (results_cell_row rfl _ _ (w.heap.size + 1) 28 #[.int .i64 1, .int .i64 a, .bool s.f0, .slice A3 s.f1.length c3, .bool s.f2, .slice A5 s.f3.length c5, .slice none 0 0] (0, 0) _ rfl (blk_new1 w _ _) Try.underlying28 rfl (by kernel_rfl)) rfl ⟨_, rfl, ?_, below_alloc (below_alloc (Below.refl _ _) _) _⟩
  exact ⟨A3, c3, A5, c5, none, 0, rfl, G3.out.1, Kd.C_alloc (Kd.C_alloc G3.out.2 _) _, G5.out.1, Kd.C_alloc (Kd.C_alloc G5.out.2 _) _, Nat.le_refl _, Kd.C_nil _ _⟩
theorem eql26_nil (w : World) : (binOp BinOp.eql 26 (.slice none 0 0) (.slice none 0 0)).run Try.prog w = .ok (.bool true) w := by kernel_rfl
theorem eql26_some (a : Addr) (n c : Nat) (w : World) : (binOp BinOp.eql 26 (.slice (some a) n c) (.slice none 0 0)).run Try.prog w = .ok (.bool false) w := by kernel_rfl
attribute [local go_sem] eql26_nil eql26_some
theorem clone_nil (w : World) : Calls Try.prog 35 #[.slice none 0 0] w fun e w' => e = .returned (.slice none 0 0) ∧ w = w' := by
  go_enter Try.func35, Try.ntmps35
  go_wp2_with fail
  go_ret
  exact ⟨rfl, rfl⟩
set_option maxHeartbeats 4000000 in
set_option maxRecDepth 100000 in
theorem and_nil (w : World) : Calls Try.prog 19 #[.slice none 0 0] w fun e w' => e = .returned (.agg #[.int .i64 2, .int .i64 0, .bool false, .slice none 0 0, .bool false, .slice none 0 0, .slice none 0 0]) ∧ Below w.heap.size w w' := by
  go_enter Try.func19, Try.ntmps19
  go_wp2_with fail
  refine (clone_nil _).mono ?_
  rintro e w1 ⟨rfl, rfl⟩
  go_wp2_with fail
  refine bodyPost_ret (results_cell_row rfl _ _ w.heap.size 28 #[.int .i64 2, .int .i64 0, .bool false, .slice none 0 0, .bool false, .slice none 0 0, .slice none 0 0] (0, 0) _ rfl (heap_alloc_new w _) Try.underlying28 rfl (by kernel_rfl)) rfl ⟨rfl, below_alloc (Below.refl _ _) _⟩
set_option maxHeartbeats 4000000 in
set_option maxRecDepth 100000 in
theorem or_nil (w : World) : Calls Try.prog 20 #[.slice none 0 0] w fun e w' => e = .returned (.agg #[.int .i64 3, .int .i64 0, .bool false, .slice none 0 0, .bool false, .slice none 0 0, .slice none 0 0]) ∧ Below w.heap.size w w' := by
  go_enter Try.func20, Try.ntmps20
  go_wp2_with fail
  refine (clone_nil _).mono ?_
  rintro e w1 ⟨rfl, rfl⟩
  go_wp2_with fail
  refine bodyPost_ret (results_cell_row rfl _ _ w.heap.size 28 #[.int .i64 3, .int .i64 0, .bool false, .slice none 0 0, .bool false, .slice none 0 0, .slice none 0 0] (0, 0) _ rfl (heap_alloc_new w _) Try.underlying28 rfl (by kernel_rfl)) rfl ⟨rfl, below_alloc (Below.refl _ _) _⟩
theorem XR_nil (w : World) (k : Int) : XR w (.agg #[.int .i64 k, .int .i64 0, .bool false, .slice none 0 0, .bool false, .slice none 0 0, .slice none 0 0]) ⟨k, 0, s0, []⟩ :=
  ⟨none, 0, none, 0, none, 0, rfl, Nat.le_refl _, Kd.C_nil _ _, Nat.le_refl _, Kd.C_nil _ _, Nat.le_refl _, Kd.C_nil _ _⟩
end Go.Proofs.Ytjkhajcngapjcaa.Q
