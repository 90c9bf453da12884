/- GapSteps: the walk. -/
import Derived.Test.YtfhokhhpfdmfiaaGR
import Derived.Test.YtfhokhhpfdmfiaaG7
namespace Go.Proofs.Ytfhokhhpfdmfiaa
open Go.RowKit PGapZero
set_option linter.unusedVariables false

theorem attr_in (x : Int) : ∃ a : Nat, a < 4 ∧ wrap64 ((IntKind.u64.wrap x).tmod 4) = (a : Int) := by
  refine ⟨((IntKind.u64.wrap x).tmod 4).toNat, ?_, ?_⟩
  · rw [IntKind.wrap_u64, Int.tmod_eq_emod_of_nonneg (by omega)]; omega
  · rw [IntKind.wrap_u64 (n := x), Int.tmod_eq_emod_of_nonneg (by omega)]; unfold wrap64; omega
/-- A value of an event, by its number. -/
theorem ev_cells {w : World} {b : Nat} {e : Nat → ValM} (h : w.heap[b]? = some (.cells #[.int .i64 (e 0).k, .int .i64 (e 0).n, .string (e 0).s, .int .i64 (e 1).k, .int .i64 (e 1).n, .string (e 1).s, .int .i64 (e 2).k, .int .i64 (e 2).n, .string (e 2).s, .int .i64 (e 3).k, .int .i64 (e 3).n, .string (e 3).s] 32 (0, 0))) (a : Nat) (ha : a < 4) :
    w.cell? ⟨b, a * 3, none⟩ = some (.int .i64 (e a).k) ∧ w.cell? ⟨b, a * 3 + 1, none⟩ = some (.int .i64 (e a).n) ∧ w.cell? ⟨b, a * 3 + 2, none⟩ = some (.string (e a).s) := by
  have hjj : a = 0 ∨ a = 1 ∨ a = 2 ∨ a = 3 := by omega
  rcases hjj with rfl | rfl | rfl | rfl <;> exact ⟨(bk_cell h _).trans rfl, (bk_cell h _).trans rfl, (bk_cell h _).trans rfl⟩

/-- The other event. -/
def updE (e : Nat → ValM) (a : Nat) (N : Int) : Nat → ValM := fun j => if j = a then ⟨(e a).k, N, (e a).s⟩ else e j
theorem updE_n {e : Nat → ValM} {a : Nat} {N : Int} (hi : ∀ j, j < 4 → I64 (e j).n) (hN : I64 N) : ∀ j, j < 4 → I64 (updE e a N j).n := by
  intro j hj
  unfold updE
  split
  · exact hN
  · exact hi j hj
theorem one_r {w : World} {g : Nat} {N : Int} (hN : I64 N) (h : w.heap[g]? = some (.cells #[.int .i64 N, .int .i64 N] 48 (0, 0))) : RangesR w (some ⟨g, 0, none⟩) 1 (oneM N).ints := by
  refine ⟨rfl, by omega, fun _ => ⟨g, 0, rfl, bk_lt h, fun i r hi => ?_⟩⟩
  match i, hi with
  | 0, hi =>
    obtain rfl := Option.some.inj hi
    exact ⟨(bk_cell h 0).trans rfl, (bk_cell h 1).trans rfl, hN, hN⟩

set_option maxHeartbeats 8000000 in
set_option maxRecDepth 100000 in
theorem steps_near (A : Option Addr) (n c : Nat) (fs : List (Nat → SetM)) (e : Nat → ValM) (x N : Int) (w : World) (hf : FilterR w A n fs) (hi : ∀ j, j < 4 → I64 (e j).n) (hN : I64 N) :
    Calls Try.prog 5 #[.slice A n c, .agg #[.int .i64 (e 0).k, .int .i64 (e 0).n, .string (e 0).s, .int .i64 (e 1).k, .int .i64 (e 1).n, .string (e 1).s, .int .i64 (e 2).k, .int .i64 (e 2).n, .string (e 2).s, .int .i64 (e 3).k, .int .i64 (e 3).n, .string (e 3).s], .int .i64 x, .int .i64 N] w fun e' w' => e' = .returned (.bool true) ∧ Below w.heap.size w w' := by
  have HF := hide hf
  have HI := hide hi
  have HN := hide hN
  clear hf hi hN
  obtain ⟨a, ha, hxa⟩ := attr_in x
  have ha1 : (a : Int) < 4 := by omega
  have ha0 : (0 : Int) ≤ a := by omega
  go_enter Try.func5, Try.ntmps5
  go_wp2_with fail
  refine (awake_any _).mono ?_
  rintro e' w1 ⟨rfl, hb1⟩
  have B1 : Below w.heap.size w w1 := below_step ((Below.refl _ _).alloc (Nat.le_refl _) _) (by simp) hb1
  have E1 := hide (bk_below (bk_new w _) hb1)
  clear hb1
  go_wp2_with fail
  refine (few06_len A n c fs _ (HF.out.below B1)).mono ?_
  rintro e' w2 ⟨⟨r, rfl, hr⟩, hb2⟩
  have B2 := below_step B1 B1.size hb2
  have E2 := hide (bk_below E1.out hb2)
  clear E1 hb2 B1
  cases r
  · clear hr
    go_wp2_with fail
    refine (awake_any _).mono ?_
    rintro e' w9 ⟨rfl, hb9⟩
    go_wp2_with fail
    go_ret
    exact ⟨rfl, below_step B2 B2.size hb9⟩
  obtain ⟨hn, hsh⟩ := hr (by first | trivial | rfl)
  have HSH := hide hsh
  clear hr hsh
  go_wp2_with fail
  refine (right06_any A n c fs _ (HF.out.below B2) hn HSH.out).mono ?_
  rintro e' w3 ⟨⟨r, rfl⟩, hb3⟩
  have B3 := below_step B2 B2.size hb3
  have E3 := hide (bk_below E2.out hb3)
  clear E2 hb3 B2
  cases r
  · skip
    go_wp2_with fail
    refine (awake_any _).mono ?_
    rintro e' w9 ⟨rfl, hb9⟩
    go_wp2_with fail
    go_ret
    exact ⟨rfl, below_step B3 B3.size hb9⟩
  have hz3 := bk_lt E3.out
  obtain ⟨g0, g1, g2, g3, g4, g5, g6, g7, g8, g9, g10, g11⟩ := ecells E3.out
  go_wp2_with fail
  refine (event_any e _).mono ?_
  rintro e' w4 ⟨rfl, hb4⟩
  have B4 := below_step B3 B3.size hb4
  have E4 := hide (bk_below E3.out hb4)
  clear E3 hb4 B3 g0 g1 g2 g3 g4 g5 g6 g7 g8 g9 g10 g11
  cases hok : evOk e with
  | false =>
    clear hok
    go_wp2_with fail
    refine (awake_any _).mono ?_
    rintro e' w9 ⟨rfl, hb9⟩
    go_wp2_with fail
    go_ret
    exact ⟨rfl, below_step B4 B4.size hb9⟩
  | true =>
    have HOK := hide hok
    clear hok
    obtain ⟨k0, k1, k2⟩ := ev_cells E4.out a ha
    have hz4 := bk_lt E4.out
    by_cases hk : (e a).k = 1
    · go_upto_region 4 with fail
      have HK := hide hk
      clear hk k0 k1 k2
      obtain ⟨g0, g1, g2, g3, g4, g5, g6, g7, g8, g9, g10, g11⟩ := ecells E4.out
      have HLE := hide (steps_law fs e (updE e a N) a N ha HN.out (HI.out a ha) HK.out ((evOk_iff e).1 HOK.out a ha) (by unfold updE; rw [if_pos rfl]) (fun j hj => by unfold updE; rw [if_neg hj]))
      have hjj : a = 0 ∨ a = 1 ∨ a = 2 ∨ a = 3 := by omega
      clear ha0 ha1 ha
      rcases hjj with rfl | rfl | rfl | rfl
      · have hxa' : wrap64 ((IntKind.u64.wrap x).tmod 4) = 0 := hxa
        go_wp2_with fail
        refine (value_any (oneM N) (e 0) (HI.out 0 (by omega)) _ 1 1 _ 0 0 _ (one_r HN.out (bk_new1 w4 _ _)) ⟨rfl, by omega, fun h => absurd h (by omega)⟩).mono ?_
        rintro e' w5 ⟨rfl, hb5⟩
        have B5 : Below w.heap.size w w5 := below_step ((B4.alloc B4.size _).alloc (by simp; omega) _) (by simp; omega) hb5
        have E5 := hide (bk_below (bk_alloc (bk_alloc E4.out _) _) hb5)
        have O5 : Hid (w5.heap[w4.heap.size]? = some (.cells #[.int .i64 (updE e 0 N 0).k, .int .i64 (updE e 0 N 0).n, .string (updE e 0 N 0).s, .int .i64 (updE e 0 N 1).k, .int .i64 (updE e 0 N 1).n, .string (updE e 0 N 1).s, .int .i64 (updE e 0 N 2).k, .int .i64 (updE e 0 N 2).n, .string (updE e 0 N 2).s, .int .i64 (updE e 0 N 3).k, .int .i64 (updE e 0 N 3).n, .string (updE e 0 N 3).s] 32 (0, 0))) := hide (bk_below (bk_new0 w4 _ _) hb5)
        clear hb5 B4 E4 g0 g1 g2 g3 g4 g5 g6 g7 g8 g9 g10 g11
        go_upto_region 7 with fail
        refine reg5_7_law A n c w.heap.size w4.heap.size _ _ _ (filterM fs e) (filterM fs (updE e 0 N)) _ w5 _ (fun w' hb => ⟨load_event (bk_below E5.out hb), load_event (bk_below O5.out hb)⟩) (fun w' hb => filter_any A n c fs e w' ((HF.out.below B5).below hb) HI.out) (fun w' hb => filter_any A n c fs (updE e 0 N) w' ((HF.out.below B5).below hb) (updE_n HI.out HN.out)) (fun w' hb => (add_any _ _ (valueM_le _ _) (filterM_le _ _) w').mono (fun e' w6 h => ⟨h.1, by rw [← h.2]; exact Below.refl _ _⟩)) HLE.out _ _ _ _ _ _ _ _ _ _ _ _ _ _ _ _ _ _ _ _ _ _ _ _ _ _ _ _ _ _ _ _ _ _ _ _ _ _ _ _ _ _ _ _ _ _ _ _ _ _ _ _ _ _ _ _ _ _ _ ?_
        intro _ _ _ _ _ _ _ _ _ w6 hb6
        go_wp2_with fail
        go_ret
        exact ⟨rfl, below_step B5 B5.size hb6⟩
      · have hxa' : wrap64 ((IntKind.u64.wrap x).tmod 4) = 1 := hxa
        go_wp2_with fail
        refine (value_any (oneM N) (e 1) (HI.out 1 (by omega)) _ 1 1 _ 0 0 _ (one_r HN.out (bk_new1 w4 _ _)) ⟨rfl, by omega, fun h => absurd h (by omega)⟩).mono ?_
        rintro e' w5 ⟨rfl, hb5⟩
        have B5 : Below w.heap.size w w5 := below_step ((B4.alloc B4.size _).alloc (by simp; omega) _) (by simp; omega) hb5
        have E5 := hide (bk_below (bk_alloc (bk_alloc E4.out _) _) hb5)
        have O5 : Hid (w5.heap[w4.heap.size]? = some (.cells #[.int .i64 (updE e 1 N 0).k, .int .i64 (updE e 1 N 0).n, .string (updE e 1 N 0).s, .int .i64 (updE e 1 N 1).k, .int .i64 (updE e 1 N 1).n, .string (updE e 1 N 1).s, .int .i64 (updE e 1 N 2).k, .int .i64 (updE e 1 N 2).n, .string (updE e 1 N 2).s, .int .i64 (updE e 1 N 3).k, .int .i64 (updE e 1 N 3).n, .string (updE e 1 N 3).s] 32 (0, 0))) := hide (bk_below (bk_new0 w4 _ _) hb5)
        clear hb5 B4 E4 g0 g1 g2 g3 g4 g5 g6 g7 g8 g9 g10 g11
        go_upto_region 7 with fail
        refine reg5_7_law A n c w.heap.size w4.heap.size _ _ _ (filterM fs e) (filterM fs (updE e 1 N)) _ w5 _ (fun w' hb => ⟨load_event (bk_below E5.out hb), load_event (bk_below O5.out hb)⟩) (fun w' hb => filter_any A n c fs e w' ((HF.out.below B5).below hb) HI.out) (fun w' hb => filter_any A n c fs (updE e 1 N) w' ((HF.out.below B5).below hb) (updE_n HI.out HN.out)) (fun w' hb => (add_any _ _ (valueM_le _ _) (filterM_le _ _) w').mono (fun e' w6 h => ⟨h.1, by rw [← h.2]; exact Below.refl _ _⟩)) HLE.out _ _ _ _ _ _ _ _ _ _ _ _ _ _ _ _ _ _ _ _ _ _ _ _ _ _ _ _ _ _ _ _ _ _ _ _ _ _ _ _ _ _ _ _ _ _ _ _ _ _ _ _ _ _ _ _ _ _ _ ?_
        intro _ _ _ _ _ _ _ _ _ w6 hb6
        go_wp2_with fail
        go_ret
        exact ⟨rfl, below_step B5 B5.size hb6⟩
      · have hxa' : wrap64 ((IntKind.u64.wrap x).tmod 4) = 2 := hxa
        go_wp2_with fail
        refine (value_any (oneM N) (e 2) (HI.out 2 (by omega)) _ 1 1 _ 0 0 _ (one_r HN.out (bk_new1 w4 _ _)) ⟨rfl, by omega, fun h => absurd h (by omega)⟩).mono ?_
        rintro e' w5 ⟨rfl, hb5⟩
        have B5 : Below w.heap.size w w5 := below_step ((B4.alloc B4.size _).alloc (by simp; omega) _) (by simp; omega) hb5
        have E5 := hide (bk_below (bk_alloc (bk_alloc E4.out _) _) hb5)
        have O5 : Hid (w5.heap[w4.heap.size]? = some (.cells #[.int .i64 (updE e 2 N 0).k, .int .i64 (updE e 2 N 0).n, .string (updE e 2 N 0).s, .int .i64 (updE e 2 N 1).k, .int .i64 (updE e 2 N 1).n, .string (updE e 2 N 1).s, .int .i64 (updE e 2 N 2).k, .int .i64 (updE e 2 N 2).n, .string (updE e 2 N 2).s, .int .i64 (updE e 2 N 3).k, .int .i64 (updE e 2 N 3).n, .string (updE e 2 N 3).s] 32 (0, 0))) := hide (bk_below (bk_new0 w4 _ _) hb5)
        clear hb5 B4 E4 g0 g1 g2 g3 g4 g5 g6 g7 g8 g9 g10 g11
        go_upto_region 7 with fail
        refine reg5_7_law A n c w.heap.size w4.heap.size _ _ _ (filterM fs e) (filterM fs (updE e 2 N)) _ w5 _ (fun w' hb => ⟨load_event (bk_below E5.out hb), load_event (bk_below O5.out hb)⟩) (fun w' hb => filter_any A n c fs e w' ((HF.out.below B5).below hb) HI.out) (fun w' hb => filter_any A n c fs (updE e 2 N) w' ((HF.out.below B5).below hb) (updE_n HI.out HN.out)) (fun w' hb => (add_any _ _ (valueM_le _ _) (filterM_le _ _) w').mono (fun e' w6 h => ⟨h.1, by rw [← h.2]; exact Below.refl _ _⟩)) HLE.out _ _ _ _ _ _ _ _ _ _ _ _ _ _ _ _ _ _ _ _ _ _ _ _ _ _ _ _ _ _ _ _ _ _ _ _ _ _ _ _ _ _ _ _ _ _ _ _ _ _ _ _ _ _ _ _ _ _ _ ?_
        intro _ _ _ _ _ _ _ _ _ w6 hb6
        go_wp2_with fail
        go_ret
        exact ⟨rfl, below_step B5 B5.size hb6⟩
      · have hxa' : wrap64 ((IntKind.u64.wrap x).tmod 4) = 3 := hxa
        go_wp2_with fail
        refine (value_any (oneM N) (e 3) (HI.out 3 (by omega)) _ 1 1 _ 0 0 _ (one_r HN.out (bk_new1 w4 _ _)) ⟨rfl, by omega, fun h => absurd h (by omega)⟩).mono ?_
        rintro e' w5 ⟨rfl, hb5⟩
        have B5 : Below w.heap.size w w5 := below_step ((B4.alloc B4.size _).alloc (by simp; omega) _) (by simp; omega) hb5
        have E5 := hide (bk_below (bk_alloc (bk_alloc E4.out _) _) hb5)
        have O5 : Hid (w5.heap[w4.heap.size]? = some (.cells #[.int .i64 (updE e 3 N 0).k, .int .i64 (updE e 3 N 0).n, .string (updE e 3 N 0).s, .int .i64 (updE e 3 N 1).k, .int .i64 (updE e 3 N 1).n, .string (updE e 3 N 1).s, .int .i64 (updE e 3 N 2).k, .int .i64 (updE e 3 N 2).n, .string (updE e 3 N 2).s, .int .i64 (updE e 3 N 3).k, .int .i64 (updE e 3 N 3).n, .string (updE e 3 N 3).s] 32 (0, 0))) := hide (bk_below (bk_new0 w4 _ _) hb5)
        clear hb5 B4 E4 g0 g1 g2 g3 g4 g5 g6 g7 g8 g9 g10 g11
        go_upto_region 7 with fail
        refine reg5_7_law A n c w.heap.size w4.heap.size _ _ _ (filterM fs e) (filterM fs (updE e 3 N)) _ w5 _ (fun w' hb => ⟨load_event (bk_below E5.out hb), load_event (bk_below O5.out hb)⟩) (fun w' hb => filter_any A n c fs e w' ((HF.out.below B5).below hb) HI.out) (fun w' hb => filter_any A n c fs (updE e 3 N) w' ((HF.out.below B5).below hb) (updE_n HI.out HN.out)) (fun w' hb => (add_any _ _ (valueM_le _ _) (filterM_le _ _) w').mono (fun e' w6 h => ⟨h.1, by rw [← h.2]; exact Below.refl _ _⟩)) HLE.out _ _ _ _ _ _ _ _ _ _ _ _ _ _ _ _ _ _ _ _ _ _ _ _ _ _ _ _ _ _ _ _ _ _ _ _ _ _ _ _ _ _ _ _ _ _ _ _ _ _ _ _ _ _ _ _ _ _ _ ?_
        intro _ _ _ _ _ _ _ _ _ w6 hb6
        go_wp2_with fail
        go_ret
        exact ⟨rfl, below_step B5 B5.size hb6⟩
    · have hk' : ((e a).k == 1) = false := by simpa using hk
      go_wp2_with fail
      refine (awake_any _).mono ?_
      rintro e' w9 ⟨rfl, hb9⟩
      go_wp2_with fail
      go_ret
      exact ⟨rfl, below_step B4 B4.size hb9⟩
end Go.Proofs.Ytfhokhhpfdmfiaa
namespace Go.Proofs.Ytfhokhhpfdmfiaa
open Go.ChangeShapes Go.WideShapes Go.RowKit
theorem steps_walk {H : Type} {enc : TypeId × Value → H} {base : Nat} {spare : Nat → Bool} {held : Bool} {b0 b1 : Nat} {r0 r1 : Reach} {W : World} (u0 : Value) (d0 : DataW H) (p0 : List MemPlace) (h0 : DataW.Trod enc Try.prog W base spare held 22 u0 d0 p0) (hv0 : Value.okWide Try.prog W r0 b0 22 u0)
    (u1 : Value) (d1 : DataW H) (p1 : List MemPlace) (h1 : DataW.Trod enc Try.prog W base spare held 32 u1 d1 p1) (hv1 : Value.okWide Try.prog W r1 b1 32 u1) (x : Int) (_ : (Lit.int .i64 x).wf = true) (N : Int) (hN : (Lit.int .i64 N).wf = true) :
    Calls Try.prog 5 #[u0, u1, .int .i64 x, .int .i64 N] W fun e W' => e = .returned (.bool true) ∧ Below W.heap.size W W' := by
  obtain ⟨A, n, c, fs, rfl, hf⟩ := filter_arg hv0 h0
  obtain ⟨e, rfl, hi⟩ := event_arg hv1 h1
  exact steps_near A n c fs e x N W hf hi (wf_i64 hN)
end Go.Proofs.Ytfhokhhpfdmfiaa
