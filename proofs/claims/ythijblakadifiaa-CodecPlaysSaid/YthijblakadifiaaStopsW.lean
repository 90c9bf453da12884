/- The walk of the statement CodecStops. -/
import Derived.Test.YthijblakadifiaaOps
namespace Go.Proofs.Ythijblakadifiaa
open Go.RowKit
theorem es_list : es.toList = [] := by rw [ByteArray.toList_eq]; rfl
attribute [local go_sem] bs_list es_list

set_option maxHeartbeats 400000 in
theorem long_no (s : ByteArray) (A : Option Addr) (n cap : Nat) (hs : s.size ≤ 2000) (hn : n ≤ 200) (w : World) : Calls Try.prog 21 #[.string s, .slice A n cap] w fun e w' => e = .returned (.bool false) ∧ w = w' := by
  have h1 : ¬ (2000 : Int) < s.size := by omega
  have h2 : ¬ (200 : Int) < n := by omega
  go_enter Try.func21, Try.ntmps21
  go_wp2
  go_ret
  exact ⟨ret_bool (by simp <;> omega), rfl⟩
set_option maxHeartbeats 400000 in
theorem long_yes (s : ByteArray) (A : Option Addr) (n cap : Nat) (h : 2000 < s.size ∨ 200 < n) (w : World) : Calls Try.prog 21 #[.string s, .slice A n cap] w fun e w' => e = .returned (.bool true) ∧ w = w' := by
  by_cases hs : 2000 < s.size
  · have h1 : (2000 : Int) < s.size := by omega
    go_enter Try.func21, Try.ntmps21
    go_wp2
    go_ret
    exact ⟨ret_bool (by simp; try omega), rfl⟩
  · have h1 : ¬ (2000 : Int) < s.size := by omega
    have h2 : (200 : Int) < n := by omega
    clear h hs
    go_enter Try.func21, Try.ntmps21
    go_wp2
    go_ret
    exact ⟨ret_bool (by simp; try omega), rfl⟩

set_option maxHeartbeats 400000 in
theorem byte_stop (b : Nat) (e0 : Int) (he : e0 ≠ 0) (w : World) (h : Rdr w b es e0) : Calls Try.prog 22 #[.pointer (some ⟨b, 0, none⟩)] w fun e w' => e = .returned (.int .u8 0) ∧ w = w' := by
  have H := hide h
  have HE := hide he
  clear h he
  go_enter Try.func22, Try.ntmps22
  go_wp2_with fail
  refine (left_any _ _ _ _ H.out).mono ?_
  rintro e w' ⟨rfl, rfl⟩
  go_wp2_with fail
  refine (fail_stay _ _ _ _ (.inl HE.out) _ H.out).mono ?_
  rintro e w' ⟨rfl, rfl⟩
  go_wp2_with fail
  go_ret
  exact ⟨rfl, rfl⟩
set_option maxHeartbeats 400000 in
theorem int_stop (b : Nat) (s : ByteArray) (e0 : Int) (he : e0 ≠ 0) (w : World) (h : Rdr w b s e0) : Calls Try.prog 18 #[.pointer (some ⟨b, 0, none⟩)] w fun e w' => e = .returned (.int .i64 0) ∧ w = w' := by
  have H := hide h
  have HE := hide he
  clear h he
  go_enter Try.func18, Try.ntmps18
  go_wp2_with fail
  refine (uint_stopped _ _ _ HE.out _ H.out).mono ?_
  rintro e w' ⟨rfl, rfl⟩
  go_wp2_with fail
  refine (unfold_any 0 (by omega) _).mono ?_
  rintro e w' ⟨rfl, rfl⟩
  go_wp2_with fail
  go_ret
  exact ⟨rfl, rfl⟩
set_option maxHeartbeats 400000 in
theorem str_stop (b : Nat) (e0 : Int) (he : e0 ≠ 0) (most : Int) (hm0 : -9223372036854775808 ≤ most) (hm1 : most ≤ 9223372036854775807) (w : World) (h : Rdr w b es e0) : Calls Try.prog 26 #[.pointer (some ⟨b, 0, none⟩), .int .i64 most] w fun e w' => e = .returned (.string es) ∧ w = w' := by
  have H := hide h
  have HE := hide he
  have he2 : (e0 != 0) = true := by simpa using he
  clear h he
  by_cases hneg : most < 0
  all_goals
    go_enter Try.func26, Try.ntmps26
    go_wp2_with fail
    refine (uint_stopped _ _ _ HE.out _ H.out).mono ?_
    rintro e w' ⟨rfl, rfl⟩
    go_wp2_with fail
    refine (left_any _ _ _ _ H.out).mono ?_
    rintro e w' ⟨rfl, rfl⟩
    go_wp2_with fail
    refine (err_any _ _ _ _ H.out).mono ?_
    rintro e w' ⟨rfl, rfl⟩
    go_wp2_with fail
    go_ret
    exact ⟨rfl, rfl⟩

set_option maxHeartbeats 2000000 in
set_option maxRecDepth 100000 in
theorem stops_near (s : ByteArray) (hs : s.size ≤ 2000) (e0 : Int) (he : e0 ≠ 0) (A : Option Addr) (n cap : Nat) (hn : n ≤ 200) (k m : Nat → Int) (w : World) (ho : OpsR w A n k m) :
    Calls Try.prog 8 #[.string s, .int .i64 e0, .slice A n cap] w fun e w' => e = .returned (.bool true) ∧ Below w.heap.size w w' := by
  have he1 : (e0 == 0) = false := by simpa using he
  have HE := hide he
  have HO := hide ho
  clear he ho
  go_enter Try.func8, Try.ntmps8
  go_wp2_with fail
  refine (awake_any _).mono ?_
  rintro e w1 ⟨rfl, hb1⟩
  go_wp2_with fail
  refine (long_no s A n cap hs hn _).mono ?_
  rintro e w' ⟨rfl, rfl⟩
  go_wp2_with fail
  refine (read_any _ _).mono ?_
  rintro e w2 ⟨rfl, hr2, hb2⟩
  have R2 := hide hr2
  clear hr2
  go_wp2_with fail
  refine (fail_go _ _ _ HE.out _ R2.out).mono ?_
  rintro e w3 ⟨rfl, hr3, hg3⟩
  have R3 := hide hr3
  have hB3 : Below w.heap.size w w3 := (below_step hb1 hb1.size hb2).grown hg3 (below_step hb1 hb1.size hb2).size (by simp; exact hb1.size)
  have hsz := hb1.size
  clear hr3 R2
  go_wp2_with fail
  go_loopg [30] n (fun q i wr => ∃ j : Nat, i = .int .i64 j ∧ j ≤ n ∧ q + j = n ∧ Rdr wr w1.heap.size es e0 ∧ Below w.heap.size w wr)
  case atStart => exact ⟨0, rfl, by omega, by omega, R3.out, hB3⟩
  case round =>
    obtain ⟨j, rfl, hj, hq, hr, hB⟩ := hrel
    have R := hide hr
    clear hr
    by_cases hlt : j < n
    · obtain ⟨b, off, rfl, hbl, hcell⟩ := HO.out (by omega)
      obtain ⟨c0, c1, m0, m1⟩ := hcell j hlt
      have d0 : wr.cell? ⟨b, off + j * 2, none⟩ = some (.int .i64 (k j)) := (hB.cell (p := ⟨b, off + j * 2, none⟩) hbl).trans c0
      have d1 : wr.cell? ⟨b, off + j * 2 + 1, none⟩ = some (.int .i64 (m j)) := (hB.cell (p := ⟨b, off + j * 2 + 1, none⟩) hbl).trans c1
      have hs1 := hB.size
      clear c0 c1 hcell
      have hlti : (j : Int) < n := by omega
      have RA : Hid (∀ o, Rdr (wr.alloc o) w1.heap.size es e0) := fun o => bk_alloc R.out o
      go_wp2_with fail
      refine (fail_stay _ _ _ _ (.inl HE.out) _ (RA.out _)).mono ?_
      rintro e w' ⟨rfl, rfl⟩
      go_wp2_with fail
      refine (byte_stop _ _ HE.out _ (RA.out _)).mono ?_
      rintro e w' ⟨rfl, rfl⟩
      go_wp2_with fail
      refine (uint_stopped _ _ _ HE.out _ (RA.out _)).mono ?_
      rintro e w' ⟨rfl, rfl⟩
      go_wp2_with fail
      refine (int_stop _ _ _ HE.out _ (RA.out _)).mono ?_
      rintro e w' ⟨rfl, rfl⟩
      go_wp2_with fail
      refine (str_stop _ _ HE.out _ m0 m1 _ (RA.out _)).mono ?_
      rintro e w' ⟨rfl, rfl⟩
      go_wp2_with fail
      refine (left_any _ _ _ _ (RA.out _)).mono ?_
      rintro e w' ⟨rfl, rfl⟩
      go_wp2_with fail
      refine (err_any _ _ _ _ (RA.out _)).mono ?_
      rintro e w' ⟨rfl, rfl⟩
      go_wp2_with fail
      go_roundg (n - (j + 1))
      case measure => omega
      case rel => exact ⟨j + 1, by go_num, by omega, by omega, RA.out _, hB.alloc hs1 _⟩
    · have hlti : ¬ (j : Int) < n := by omega
      go_wp2_with fail
      refine (fail_nil _ _).mono ?_
      rintro e w' ⟨rfl, rfl⟩
      go_wp2_with fail
      refine (err_any _ _ _ _ R.out).mono ?_
      rintro e w' ⟨rfl, rfl⟩
      go_wp2_with fail
      refine (byte_nilp _).mono ?_
      rintro e w' ⟨rfl, rfl⟩
      go_wp2_with fail
      refine (uint_nil _).mono ?_
      rintro e w' ⟨rfl, rfl⟩
      go_wp2_with fail
      refine (int_nil _).mono ?_
      rintro e w' ⟨rfl, rfl⟩
      go_wp2_with fail
      refine (str_nil _).mono ?_
      rintro e w' ⟨rfl, rfl⟩
      go_wp2_with fail
      refine (left_nil _).mono ?_
      rintro e w' ⟨rfl, rfl⟩
      go_wp2_with fail
      refine (err_nil _).mono ?_
      rintro e w' ⟨rfl, rfl⟩
      go_wp2_with fail
      go_ret
      exact ⟨rfl, hB⟩

set_option maxHeartbeats 1000000 in
set_option maxRecDepth 100000 in
theorem stops_far (s : ByteArray) (e0 : Int) (A : Option Addr) (n cap : Nat) (h : (2000 < s.size ∨ 200 < n) ∨ (s.size ≤ 2000 ∧ n ≤ 200 ∧ e0 = 0)) (w : World) :
    Calls Try.prog 8 #[.string s, .int .i64 e0, .slice A n cap] w fun e w' => e = .returned (.bool true) ∧ Below w.heap.size w w' := by
  rcases h with h | ⟨hs, hn, rfl⟩
  · have H := hide h
    clear h
    go_enter Try.func8, Try.ntmps8
    go_wp2_with fail
    refine (awake_any _).mono ?_
    rintro e w1 ⟨rfl, hb1⟩
    go_wp2_with fail
    refine (long_yes s A n cap H.out _).mono ?_
    rintro e w' ⟨rfl, rfl⟩
    go_wp2_with fail
    refine (awake_any _).mono ?_
    rintro e w2 ⟨rfl, hb2⟩
    go_wp2_with fail
    go_ret
    exact ⟨rfl, below_step hb1 hb1.size hb2⟩
  · go_enter Try.func8, Try.ntmps8
    go_wp2_with fail
    refine (awake_any _).mono ?_
    rintro e w1 ⟨rfl, hb1⟩
    go_wp2_with fail
    refine (long_no s A n cap hs hn _).mono ?_
    rintro e w' ⟨rfl, rfl⟩
    go_wp2_with fail
    refine (awake_any _).mono ?_
    rintro e w2 ⟨rfl, hb2⟩
    go_wp2_with fail
    go_ret
    exact ⟨rfl, below_step hb1 hb1.size hb2⟩

theorem stops_walk {H : Type} {enc : TypeId × Value → H} {base : Nat} {spare : Nat → Bool} {held : Bool} {b1 : Nat} {r : Reach} (s : ByteArray) (_hs : s.size ≤ maxLen) (e0 : Int) (_he : (Lit.int .i64 e0).wf = true) (v : Value) (d : DataW H) (p : List MemPlace) {W : World} (ht : DataW.Trod enc Try.prog W base spare held 36 v d p) (hv : Value.okWide Try.prog W r b1 36 v) :
    Calls Try.prog 8 #[.string s, .int .i64 e0, v] W fun e w' => e = .returned (.bool true) ∧ Below W.heap.size W w' := by
  obtain ⟨a, len, cap, rfl⟩ := WideShapes.okWide_slice Try.underlying36 hv
  obtain ⟨A, n, cap', k, m, hveq, _, _, ho⟩ := ops_read ⟨a, len, cap, rfl⟩ ht
  rw [hveq]
  by_cases h : (2000 < s.size ∨ 200 < n) ∨ (s.size ≤ 2000 ∧ n ≤ 200 ∧ e0 = 0)
  · exact stops_far s e0 A n cap' h W
  · exact stops_near s (by omega) e0 (by omega) A n cap' (by omega) k m W ho
end Go.Proofs.Ythijblakadifiaa
