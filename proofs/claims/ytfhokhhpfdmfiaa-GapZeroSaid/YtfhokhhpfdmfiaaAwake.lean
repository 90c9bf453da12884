/- The statements' awake answers true; the reference's Add. -/
import Derived.Test.YtfhokhhpfdmfiaaFilter
namespace Go.Proofs.Ytfhokhhpfdmfiaa
open Go.RowKit

def es : ByteArray := { data := #[] }
theorem es_list : es.toList = [] := by rw [ByteArray.toList_eq]; rfl
theorem ok1 (n : Int) : ValM.ok ⟨1, n, es⟩ = true := by
  show vRight 1 n es = true
  rw [vR1, es_list]; rfl
theorem ok0 : ValM.ok ⟨0, 0, es⟩ = true := by
  show vRight 0 0 es = true
  rw [vR0, es_list]; rfl
def set15 : SetM := ⟨false, [(1, 5)], false, []⟩
theorem g9 : valueM set15 ⟨1, 9, es⟩ = 4 := by
  unfold valueM hasM
  rw [ok1]
  decide
theorem g3 : valueM set15 ⟨1, 3, es⟩ = 0 := by
  unfold valueM hasM
  rw [ok1]
  decide
theorem g0 : valueM set15 ⟨0, 0, es⟩ = far := by
  unfold valueM hasM
  rw [ok0]
  decide

set_option maxHeartbeats 1000000 in
theorem refadd_any (a b : Nat) (ha : a ≤ 18446744073709551615) (hb : b ≤ 18446744073709551615) (w : World) : Calls Try.prog 18 #[.int .u64 (a : Int), .int .u64 (b : Int)] w fun e w' => e = .returned (.int .u64 (addM a b : Int)) ∧ w = w' := by
  by_cases ca : a = 18446744073709551615
  · have q : ((a : Int) == 18446744073709551615) = true := by rw [beq_iff_eq]; omega
    have HC := hide ca
    clear ca
    go_enter Try.func18, Try.ntmps18
    go_wp2
    go_ret
    exact ⟨ret_int (by have := HC.out; unfold addM far; split <;> omega), rfl⟩
  · have q : ((a : Int) == 18446744073709551615) = false := by rw [beq_eq_false_iff_ne]; omega
    by_cases cb : b = 18446744073709551615
    · have q2 : ((b : Int) == 18446744073709551615) = true := by rw [beq_iff_eq]; omega
      have HC := hide (And.intro ca cb)
      clear ca cb
      go_enter Try.func18, Try.ntmps18
      go_wp2
      go_ret
      exact ⟨ret_int (by have := HC.out; unfold addM far; split <;> omega), rfl⟩
    · have q2 : ((b : Int) == 18446744073709551615) = false := by rw [beq_eq_false_iff_ne]; omega
      by_cases cs : a + b ≤ 18446744073709551615
      · have hw : IntKind.u64.wrap ((a : Int) + b) = (a : Int) + b := by rw [IntKind.wrap_u64]; omega
        have hlt : ¬ ((a : Int) + b < a) := by omega
        have HC := hide (And.intro ca cb)
        clear ca cb
        go_enter Try.func18, Try.ntmps18
        go_wp2
        go_ret
        exact ⟨ret_int (by unfold addM far; rw [if_neg (by omega)]; omega), rfl⟩
      · have hw : IntKind.u64.wrap ((a : Int) + b) = (a : Int) + b - 18446744073709551616 := by rw [IntKind.wrap_u64]; omega
        have hlt : (a : Int) + b - 18446744073709551616 < a := by omega
        have HC := hide (And.intro ca cb)
        clear ca cb
        go_enter Try.func18, Try.ntmps18
        go_wp2
        go_ret
        exact ⟨ret_int (by unfold addM far; rw [if_pos (by omega)]; rfl), rfl⟩

set_option maxHeartbeats 1000000 in
theorem between1 (w : World) : Calls Try.prog 20 #[.agg #[.int .i64 1, .int .i64 5], .agg #[.int .i64 9, .int .i64 12]] w fun e w' => e = .returned (.tuple #[.int .u64 2, .bool true]) ∧ Below w.heap.size w w' := by
  go_enter Try.func20, Try.ntmps20
  go_wp2
  go_ret2
  exact ⟨rfl, ((Below.refl _ _).alloc (Nat.le_refl _) _).alloc (by simp) _⟩
set_option maxHeartbeats 1000000 in
theorem between2 (w : World) : Calls Try.prog 20 #[.agg #[.int .i64 1, .int .i64 5], .agg #[.int .i64 5, .int .i64 12]] w fun e w' => e = .returned (.tuple #[.int .u64 0, .bool false]) ∧ Below w.heap.size w w' := by
  go_enter Try.func20, Try.ntmps20
  go_wp2
  go_ret2
  exact ⟨rfl, ((Below.refl _ _).alloc (Nat.le_refl _) _).alloc (by simp) _⟩

/-- The blocks of awake's set. -/
def W15 (g : Nat) (w : World) : Prop := w.heap[g]? = some (.cells #[.int .i64 1, .int .i64 5] 48 (0, 0)) ∧ w.heap[g + 1]? = some (.cells #[.bool false, .slice (some ⟨g, 0, none⟩) 1 1, .bool false, .slice none 0 0] 26 (0, 0))
theorem W15.below {g : Nat} {w w1 : World} (h : W15 g w) (hb : Below w.heap.size w w1) : W15 g w1 := ⟨bk_below h.1 hb, bk_below h.2 hb⟩
theorem W15.r {g : Nat} {w : World} (h : W15 g w) : RangesR w (some ⟨g, 0, none⟩) 1 set15.ints :=
  ⟨rfl, by omega, fun _ => ⟨g, 0, rfl, bk_lt h.1, fun i r hi => by
    cases i with
    | zero =>
      have : r = (1, 5) := by simpa [set15] using hi.symm
      subst this
      exact ⟨(bk_cell h.1 0).trans rfl, (bk_cell h.1 1).trans rfl, by unfold I64; omega, by unfold I64; omega⟩
    | succ i => simp [set15] at hi⟩⟩
theorem W15t {w : World} : StrsR w none 0 set15.strs := ⟨rfl, by omega, fun h => absurd h (by omega)⟩
theorem i64_lit (n : Int) (h0 : -9223372036854775808 ≤ n) (h1 : n ≤ 9223372036854775807) : I64 n := ⟨h0, h1⟩

set_option maxHeartbeats 4000000 in
set_option maxRecDepth 100000 in
theorem awake_any (w : World) : Calls Try.prog 7 #[] w fun e w' => e = .returned (.bool true) ∧ Below w.heap.size w w' := by
  have a1 : (addM 18446744073709551615 0) = 18446744073709551615 := rfl
  have a2 : (addM 1 2) = 3 := rfl
  have A := hide (And.intro a1 a2)
  clear a1 a2
  go_enter Try.func7, Try.ntmps7
  go_wp2_with fail
  refine (between1 _).mono ?_
  rintro e w1 ⟨rfl, hb1⟩
  have B1 : Below w.heap.size w w1 := below_step (((Below.refl _ _).alloc (Nat.le_refl _) _).alloc (by simp) _) (by simp; omega) hb1
  have K1 : Hid (W15 w.heap.size w1) := W15.below ⟨bk_new0 _ _ _, bk_new1 _ _ _⟩ hb1
  clear hb1
  go_wp2_with fail
  refine (between2 _).mono ?_
  rintro e w2 ⟨rfl, hb2⟩
  have B2 := below_step B1 B1.size hb2
  have K2 := hide (K1.out.below hb2)
  clear hb2
  obtain ⟨x0, x1, x2, x3⟩ := scells K2.out.2
  go_wp2_with fail
  refine (value_any set15 ⟨1, 9, es⟩ (i64_lit _ (by simp) (by simp)) _ _ _ _ _ _ _ K2.out.r W15t).mono ?_
  rw [g9]
  rintro e w3 ⟨rfl, hb3⟩
  have B3 := below_step B2 B2.size hb3
  have K3 := hide (K2.out.below hb3)
  clear hb3 x0 x1 x2 x3
  obtain ⟨x0, x1, x2, x3⟩ := scells K3.out.2
  go_wp2_with fail
  refine (value_any set15 ⟨0, 0, es⟩ (i64_lit _ (by simp) (by simp)) _ _ _ _ _ _ _ K3.out.r W15t).mono ?_
  rw [g0]
  rintro e w4 ⟨rfl, hb4⟩
  have B4 := below_step B3 B3.size hb4
  have K4 := hide (K3.out.below hb4)
  clear hb4 x0 x1 x2 x3
  go_wp2_with fail
  refine (far_any _).mono ?_
  rintro e w' ⟨rfl, rfl⟩
  unfold far
  go_wp2_with fail
  refine (far_any _).mono ?_
  rintro e w' ⟨rfl, rfl⟩
  go_wp2_with fail
  refine (add_any 18446744073709551615 0 (by omega) (by omega) _).mono ?_
  rw [A.out.1]
  rintro e w' ⟨rfl, rfl⟩
  go_wp2_with fail
  refine (far_any _).mono ?_
  rintro e w' ⟨rfl, rfl⟩
  go_wp2_with fail
  refine (add_any 1 2 (by omega) (by omega) _).mono ?_
  rw [A.out.2]
  rintro e w' ⟨rfl, rfl⟩
  go_wp2_with fail
  refine (filter_any none 0 0 [] (fun _ => ⟨0, 0, es⟩) _ ⟨rfl, by omega, fun h => absurd h (by omega)⟩ (fun _ _ => i64_lit _ (by simp) (by simp))).mono ?_
  rw [show filterM [] (fun _ => ⟨0, 0, es⟩) = 18446744073709551615 from rfl]
  rintro e w5 ⟨rfl, hb5⟩
  have B5 := below_step B4 B4.size hb5
  have K5 := hide (K4.out.below hb5)
  clear hb5
  obtain ⟨x0, x1, x2, x3⟩ := scells K5.out.2
  go_wp2_with fail
  refine (far_any _).mono ?_
  rintro e w' ⟨rfl, rfl⟩
  go_wp2_with fail
  refine (value_any set15 ⟨1, 3, es⟩ (i64_lit _ (by simp) (by simp)) _ _ _ _ _ _ _ K5.out.r W15t).mono ?_
  rw [g3]
  rintro e w6 ⟨rfl, hb6⟩
  have B6 := below_step B5 B5.size hb6
  clear hb6 x0 x1 x2 x3
  go_wp2_with fail
  go_ret
  exact ⟨rfl, B6⟩
end Go.Proofs.Ytfhokhhpfdmfiaa
