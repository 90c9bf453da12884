/- Loops over a box's four sets: the references' Right, Small, Empty of boxes. -/
import Derived.Test.YtfhokhhpfdmfiaaRgt
namespace Go.Proofs.Ytfhokhhpfdmfiaa
open Go.RowKit

theorem bc0 {w : World} {b : Nat} {s : Nat → SetM} {v : Nat → SetV} (h : w.heap[b]? = some (.cells #[.bool (s 0).a, .slice (v 0).A (v 0).n (v 0).c, .bool (s 0).co, .slice (v 0).B (v 0).m (v 0).d, .bool (s 1).a, .slice (v 1).A (v 1).n (v 1).c, .bool (s 1).co, .slice (v 1).B (v 1).m (v 1).d, .bool (s 2).a, .slice (v 2).A (v 2).n (v 2).c, .bool (s 2).co, .slice (v 2).B (v 2).m (v 2).d, .bool (s 3).a, .slice (v 3).A (v 3).n (v 3).c, .bool (s 3).co, .slice (v 3).B (v 3).m (v 3).d] 28 (0, 0))) : w.cell? ⟨b, 0, none⟩ = some (.bool (s 0).a) ∧ w.cell? ⟨b, 1, none⟩ = some (.slice (v 0).A (v 0).n (v 0).c) ∧ w.cell? ⟨b, 2, none⟩ = some (.bool (s 0).co) ∧ w.cell? ⟨b, 3, none⟩ = some (.slice (v 0).B (v 0).m (v 0).d) :=
  ⟨(bk_cell h 0).trans rfl, (bk_cell h 1).trans rfl, (bk_cell h 2).trans rfl, (bk_cell h 3).trans rfl⟩
theorem bc1 {w : World} {b : Nat} {s : Nat → SetM} {v : Nat → SetV} (h : w.heap[b]? = some (.cells #[.bool (s 0).a, .slice (v 0).A (v 0).n (v 0).c, .bool (s 0).co, .slice (v 0).B (v 0).m (v 0).d, .bool (s 1).a, .slice (v 1).A (v 1).n (v 1).c, .bool (s 1).co, .slice (v 1).B (v 1).m (v 1).d, .bool (s 2).a, .slice (v 2).A (v 2).n (v 2).c, .bool (s 2).co, .slice (v 2).B (v 2).m (v 2).d, .bool (s 3).a, .slice (v 3).A (v 3).n (v 3).c, .bool (s 3).co, .slice (v 3).B (v 3).m (v 3).d] 28 (0, 0))) : w.cell? ⟨b, 4, none⟩ = some (.bool (s 1).a) ∧ w.cell? ⟨b, 5, none⟩ = some (.slice (v 1).A (v 1).n (v 1).c) ∧ w.cell? ⟨b, 6, none⟩ = some (.bool (s 1).co) ∧ w.cell? ⟨b, 7, none⟩ = some (.slice (v 1).B (v 1).m (v 1).d) :=
  ⟨(bk_cell h 4).trans rfl, (bk_cell h 5).trans rfl, (bk_cell h 6).trans rfl, (bk_cell h 7).trans rfl⟩
theorem bc2 {w : World} {b : Nat} {s : Nat → SetM} {v : Nat → SetV} (h : w.heap[b]? = some (.cells #[.bool (s 0).a, .slice (v 0).A (v 0).n (v 0).c, .bool (s 0).co, .slice (v 0).B (v 0).m (v 0).d, .bool (s 1).a, .slice (v 1).A (v 1).n (v 1).c, .bool (s 1).co, .slice (v 1).B (v 1).m (v 1).d, .bool (s 2).a, .slice (v 2).A (v 2).n (v 2).c, .bool (s 2).co, .slice (v 2).B (v 2).m (v 2).d, .bool (s 3).a, .slice (v 3).A (v 3).n (v 3).c, .bool (s 3).co, .slice (v 3).B (v 3).m (v 3).d] 28 (0, 0))) : w.cell? ⟨b, 8, none⟩ = some (.bool (s 2).a) ∧ w.cell? ⟨b, 9, none⟩ = some (.slice (v 2).A (v 2).n (v 2).c) ∧ w.cell? ⟨b, 10, none⟩ = some (.bool (s 2).co) ∧ w.cell? ⟨b, 11, none⟩ = some (.slice (v 2).B (v 2).m (v 2).d) :=
  ⟨(bk_cell h 8).trans rfl, (bk_cell h 9).trans rfl, (bk_cell h 10).trans rfl, (bk_cell h 11).trans rfl⟩
theorem bc3 {w : World} {b : Nat} {s : Nat → SetM} {v : Nat → SetV} (h : w.heap[b]? = some (.cells #[.bool (s 0).a, .slice (v 0).A (v 0).n (v 0).c, .bool (s 0).co, .slice (v 0).B (v 0).m (v 0).d, .bool (s 1).a, .slice (v 1).A (v 1).n (v 1).c, .bool (s 1).co, .slice (v 1).B (v 1).m (v 1).d, .bool (s 2).a, .slice (v 2).A (v 2).n (v 2).c, .bool (s 2).co, .slice (v 2).B (v 2).m (v 2).d, .bool (s 3).a, .slice (v 3).A (v 3).n (v 3).c, .bool (s 3).co, .slice (v 3).B (v 3).m (v 3).d] 28 (0, 0))) : w.cell? ⟨b, 12, none⟩ = some (.bool (s 3).a) ∧ w.cell? ⟨b, 13, none⟩ = some (.slice (v 3).A (v 3).n (v 3).c) ∧ w.cell? ⟨b, 14, none⟩ = some (.bool (s 3).co) ∧ w.cell? ⟨b, 15, none⟩ = some (.slice (v 3).B (v 3).m (v 3).d) :=
  ⟨(bk_cell h 12).trans rfl, (bk_cell h 13).trans rfl, (bk_cell h 14).trans rfl, (bk_cell h 15).trans rfl⟩

set_option maxHeartbeats 4000000 in
set_option maxRecDepth 100000 in
theorem right04_is (s : Nat → SetM) (v : Nat → SetV) (w : World) (hs : ∀ j, j < 4 → SetR w (v j) (s j)) : Calls Try.prog 11 #[.agg #[.bool (s 0).a, .slice (v 0).A (v 0).n (v 0).c, .bool (s 0).co, .slice (v 0).B (v 0).m (v 0).d, .bool (s 1).a, .slice (v 1).A (v 1).n (v 1).c, .bool (s 1).co, .slice (v 1).B (v 1).m (v 1).d, .bool (s 2).a, .slice (v 2).A (v 2).n (v 2).c, .bool (s 2).co, .slice (v 2).B (v 2).m (v 2).d, .bool (s 3).a, .slice (v 3).A (v 3).n (v 3).c, .bool (s 3).co, .slice (v 3).B (v 3).m (v 3).d]] w (SayB (∀ j, j < 4 → RightM (s j)) w) := by
  have HS := hide hs
  clear hs
  go_enter Try.func11, Try.ntmps11
  go_wp2_with fail
  go_loopg [3] 4 (fun q i wr => ∃ j : Nat, i = .int .i64 j ∧ j ≤ 4 ∧ q + j = 4 ∧ Hid (∀ i, i < j → RightM (s i)) ∧ Below w.heap.size w wr ∧ wr.heap[w.heap.size]? = some (.cells #[.bool (s 0).a, .slice (v 0).A (v 0).n (v 0).c, .bool (s 0).co, .slice (v 0).B (v 0).m (v 0).d, .bool (s 1).a, .slice (v 1).A (v 1).n (v 1).c, .bool (s 1).co, .slice (v 1).B (v 1).m (v 1).d, .bool (s 2).a, .slice (v 2).A (v 2).n (v 2).c, .bool (s 2).co, .slice (v 2).B (v 2).m (v 2).d, .bool (s 3).a, .slice (v 3).A (v 3).n (v 3).c, .bool (s 3).co, .slice (v 3).B (v 3).m (v 3).d] 28 (0, 0)))
  case atStart => exact ⟨0, rfl, by omega, by omega, hide (fun i hi => absurd hi (by omega)), (Below.refl _ _).alloc (Nat.le_refl _) _, bk_new _ _⟩
  case round =>
    obtain ⟨j, rfl, hj, hq, HK, hB, hX⟩ := hrel
    have hz := bk_lt hX
    have hz0 := hB.size
    have HX := hide hX
    clear hX
    by_cases hlt : j < 4
    · have hjj : j = 0 ∨ j = 1 ∨ j = 2 ∨ j = 3 := by omega
      rcases hjj with rfl | rfl | rfl | rfl
      · obtain ⟨x0, x1, x2, x3⟩ := bc0 HX.out
        have SR := hide ((HS.out 0 (by omega)).below hB)
        go_wp2_with fail
        refine (right03_is (s 0) _ _ _ _ _ _ _ SR.out.i SR.out.t).mono ?_
        rintro e' w3 ⟨⟨r, rfl, hP⟩, hb3⟩
        have HP := hide hP
        clear hP
        have B3 := below_step hB hz0 hb3
        have X3 := hide (bk_below HX.out hb3)
        cases r
        · go_wp2_with fail
          go_ret
          exact ⟨⟨_, rfl, fun h => nomatch h⟩, B3⟩
        · go_wp2_with fail
          go_roundg (4 - (0 + 1))
          case measure => omega
          case rel => exact ⟨0 + 1, by go_num, by omega, by omega, hide (fun i hi => by
            by_cases e : i = 0
            · subst e; exact HP.out (by first | trivial | rfl)
            · exact HK.out i (by omega)), B3, X3.out⟩
      · obtain ⟨x0, x1, x2, x3⟩ := bc1 HX.out
        have SR := hide ((HS.out 1 (by omega)).below hB)
        go_wp2_with fail
        refine (right03_is (s 1) _ _ _ _ _ _ _ SR.out.i SR.out.t).mono ?_
        rintro e' w3 ⟨⟨r, rfl, hP⟩, hb3⟩
        have HP := hide hP
        clear hP
        have B3 := below_step hB hz0 hb3
        have X3 := hide (bk_below HX.out hb3)
        cases r
        · go_wp2_with fail
          go_ret
          exact ⟨⟨_, rfl, fun h => nomatch h⟩, B3⟩
        · go_wp2_with fail
          go_roundg (4 - (1 + 1))
          case measure => omega
          case rel => exact ⟨1 + 1, by go_num, by omega, by omega, hide (fun i hi => by
            by_cases e : i = 1
            · subst e; exact HP.out (by first | trivial | rfl)
            · exact HK.out i (by omega)), B3, X3.out⟩
      · obtain ⟨x0, x1, x2, x3⟩ := bc2 HX.out
        have SR := hide ((HS.out 2 (by omega)).below hB)
        go_wp2_with fail
        refine (right03_is (s 2) _ _ _ _ _ _ _ SR.out.i SR.out.t).mono ?_
        rintro e' w3 ⟨⟨r, rfl, hP⟩, hb3⟩
        have HP := hide hP
        clear hP
        have B3 := below_step hB hz0 hb3
        have X3 := hide (bk_below HX.out hb3)
        cases r
        · go_wp2_with fail
          go_ret
          exact ⟨⟨_, rfl, fun h => nomatch h⟩, B3⟩
        · go_wp2_with fail
          go_roundg (4 - (2 + 1))
          case measure => omega
          case rel => exact ⟨2 + 1, by go_num, by omega, by omega, hide (fun i hi => by
            by_cases e : i = 2
            · subst e; exact HP.out (by first | trivial | rfl)
            · exact HK.out i (by omega)), B3, X3.out⟩
      · obtain ⟨x0, x1, x2, x3⟩ := bc3 HX.out
        have SR := hide ((HS.out 3 (by omega)).below hB)
        go_wp2_with fail
        refine (right03_is (s 3) _ _ _ _ _ _ _ SR.out.i SR.out.t).mono ?_
        rintro e' w3 ⟨⟨r, rfl, hP⟩, hb3⟩
        have HP := hide hP
        clear hP
        have B3 := below_step hB hz0 hb3
        have X3 := hide (bk_below HX.out hb3)
        cases r
        · go_wp2_with fail
          go_ret
          exact ⟨⟨_, rfl, fun h => nomatch h⟩, B3⟩
        · go_wp2_with fail
          go_roundg (4 - (3 + 1))
          case measure => omega
          case rel => exact ⟨3 + 1, by go_num, by omega, by omega, hide (fun i hi => by
            by_cases e : i = 3
            · subst e; exact HP.out (by first | trivial | rfl)
            · exact HK.out i (by omega)), B3, X3.out⟩
    · have hj4 : j = 4 := by omega
      subst hj4
      go_wp2_with fail
      go_ret
      exact ⟨⟨_, rfl, fun _ i hi => HK.out i (by omega)⟩, hB⟩
theorem right04_any (s : Nat → SetM) (v : Nat → SetV) (w : World) (hs : ∀ j, j < 4 → SetR w (v j) (s j)) : Calls Try.prog 11 #[.agg #[.bool (s 0).a, .slice (v 0).A (v 0).n (v 0).c, .bool (s 0).co, .slice (v 0).B (v 0).m (v 0).d, .bool (s 1).a, .slice (v 1).A (v 1).n (v 1).c, .bool (s 1).co, .slice (v 1).B (v 1).m (v 1).d, .bool (s 2).a, .slice (v 2).A (v 2).n (v 2).c, .bool (s 2).co, .slice (v 2).B (v 2).m (v 2).d, .bool (s 3).a, .slice (v 3).A (v 3).n (v 3).c, .bool (s 3).co, .slice (v 3).B (v 3).m (v 3).d]] w (SomeB w) :=
  (right04_is s v w hs).mono (by rintro e w' ⟨⟨r, h1, -⟩, h2⟩; exact ⟨⟨r, h1⟩, h2⟩)

set_option maxHeartbeats 4000000 in
set_option maxRecDepth 100000 in
theorem small04_any (s : Nat → SetM) (v : Nat → SetV) (w : World) (hs : ∀ j, j < 4 → SetR w (v j) (s j)) : Calls Try.prog 22 #[.agg #[.bool (s 0).a, .slice (v 0).A (v 0).n (v 0).c, .bool (s 0).co, .slice (v 0).B (v 0).m (v 0).d, .bool (s 1).a, .slice (v 1).A (v 1).n (v 1).c, .bool (s 1).co, .slice (v 1).B (v 1).m (v 1).d, .bool (s 2).a, .slice (v 2).A (v 2).n (v 2).c, .bool (s 2).co, .slice (v 2).B (v 2).m (v 2).d, .bool (s 3).a, .slice (v 3).A (v 3).n (v 3).c, .bool (s 3).co, .slice (v 3).B (v 3).m (v 3).d]] w (SomeB w) := by
  have HS := hide hs
  clear hs
  go_enter Try.func22, Try.ntmps22
  go_wp2_with fail
  go_loopg [3] 4 (fun q i wr => ∃ j : Nat, i = .int .i64 j ∧ j ≤ 4 ∧ q + j = 4 ∧ Below w.heap.size w wr ∧ wr.heap[w.heap.size]? = some (.cells #[.bool (s 0).a, .slice (v 0).A (v 0).n (v 0).c, .bool (s 0).co, .slice (v 0).B (v 0).m (v 0).d, .bool (s 1).a, .slice (v 1).A (v 1).n (v 1).c, .bool (s 1).co, .slice (v 1).B (v 1).m (v 1).d, .bool (s 2).a, .slice (v 2).A (v 2).n (v 2).c, .bool (s 2).co, .slice (v 2).B (v 2).m (v 2).d, .bool (s 3).a, .slice (v 3).A (v 3).n (v 3).c, .bool (s 3).co, .slice (v 3).B (v 3).m (v 3).d] 28 (0, 0)))
  case atStart => exact ⟨0, rfl, by omega, by omega, (Below.refl _ _).alloc (Nat.le_refl _) _, bk_new _ _⟩
  case round =>
    obtain ⟨j, rfl, hj, hq, hB, hX⟩ := hrel
    have hz := bk_lt hX
    have hz0 := hB.size
    have HX := hide hX
    clear hX
    by_cases hlt : j < 4
    · have hjj : j = 0 ∨ j = 1 ∨ j = 2 ∨ j = 3 := by omega
      rcases hjj with rfl | rfl | rfl | rfl
      · obtain ⟨x0, x1, x2, x3⟩ := bc0 HX.out
        have SR := hide ((HS.out 0 (by omega)).below hB)
        go_wp2_with fail
        refine (small03_any _ _ _ _ _ _ _ _ _).mono ?_
        rintro e' w3 ⟨⟨r, rfl⟩, hb3⟩
        have B3 := below_step hB hz0 hb3
        have X3 := hide (bk_below HX.out hb3)
        cases r
        · go_wp2_with fail
          go_ret
          exact ⟨⟨_, rfl⟩, B3⟩
        · go_wp2_with fail
          go_roundg (4 - (0 + 1))
          case measure => omega
          case rel => exact ⟨0 + 1, by go_num, by omega, by omega, B3, X3.out⟩
      · obtain ⟨x0, x1, x2, x3⟩ := bc1 HX.out
        have SR := hide ((HS.out 1 (by omega)).below hB)
        go_wp2_with fail
        refine (small03_any _ _ _ _ _ _ _ _ _).mono ?_
        rintro e' w3 ⟨⟨r, rfl⟩, hb3⟩
        have B3 := below_step hB hz0 hb3
        have X3 := hide (bk_below HX.out hb3)
        cases r
        · go_wp2_with fail
          go_ret
          exact ⟨⟨_, rfl⟩, B3⟩
        · go_wp2_with fail
          go_roundg (4 - (1 + 1))
          case measure => omega
          case rel => exact ⟨1 + 1, by go_num, by omega, by omega, B3, X3.out⟩
      · obtain ⟨x0, x1, x2, x3⟩ := bc2 HX.out
        have SR := hide ((HS.out 2 (by omega)).below hB)
        go_wp2_with fail
        refine (small03_any _ _ _ _ _ _ _ _ _).mono ?_
        rintro e' w3 ⟨⟨r, rfl⟩, hb3⟩
        have B3 := below_step hB hz0 hb3
        have X3 := hide (bk_below HX.out hb3)
        cases r
        · go_wp2_with fail
          go_ret
          exact ⟨⟨_, rfl⟩, B3⟩
        · go_wp2_with fail
          go_roundg (4 - (2 + 1))
          case measure => omega
          case rel => exact ⟨2 + 1, by go_num, by omega, by omega, B3, X3.out⟩
      · obtain ⟨x0, x1, x2, x3⟩ := bc3 HX.out
        have SR := hide ((HS.out 3 (by omega)).below hB)
        go_wp2_with fail
        refine (small03_any _ _ _ _ _ _ _ _ _).mono ?_
        rintro e' w3 ⟨⟨r, rfl⟩, hb3⟩
        have B3 := below_step hB hz0 hb3
        have X3 := hide (bk_below HX.out hb3)
        cases r
        · go_wp2_with fail
          go_ret
          exact ⟨⟨_, rfl⟩, B3⟩
        · go_wp2_with fail
          go_roundg (4 - (3 + 1))
          case measure => omega
          case rel => exact ⟨3 + 1, by go_num, by omega, by omega, B3, X3.out⟩
    · have hj4 : j = 4 := by omega
      subst hj4
      go_wp2_with fail
      go_ret
      exact ⟨⟨_, rfl⟩, hB⟩
end Go.Proofs.Ytfhokhhpfdmfiaa
