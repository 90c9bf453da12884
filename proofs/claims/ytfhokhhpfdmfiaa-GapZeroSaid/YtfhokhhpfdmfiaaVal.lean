/- value.Right, and the closure of set.Has: what they answer. -/
import Derived.Test.YtfhokhhpfdmfiaaProg
import Derived.Test.YtfhokhhpfdmfiaaBase
import Derived.Deep.QuietTactic
import Derived.BigQuiet
import Derived.WalkSmall
namespace Go.Proofs.Ytfhokhhpfdmfiaa
open Go.RowKit

theorem bk_new0 (w : World) (o1 o2 : Obj) : ((w.alloc o1).alloc o2).heap[w.heap.size]? = some o1 := bk_alloc (bk_new w o1) o2
theorem bk_new1 (w : World) (o1 o2 : Obj) : ((w.alloc o1).alloc o2).heap[w.heap.size + 1]? = some o2 := by
  have := bk_new (w.alloc o1) o2
  rwa [World.size_alloc] at this

/-- Whether a value may be. -/
def vRight (k n : Int) (s : ByteArray) : Bool := if k = 0 then decide (n = 0) && decide (s.toList = []) else if k = 1 then decide (s.toList = []) else if k = 2 then decide (n = 0) && decide (s.size ≤ 8) else false
theorem vR0 (n : Int) (s : ByteArray) : vRight 0 n s = (decide (n = 0) && decide (s.toList = [])) := rfl
theorem vR1 (n : Int) (s : ByteArray) : vRight 1 n s = decide (s.toList = []) := rfl
theorem vR2 (n : Int) (s : ByteArray) : vRight 2 n s = (decide (n = 0) && decide (s.size ≤ 8)) := rfl

set_option maxHeartbeats 400000 in
theorem vright_any (k n : Int) (s : ByteArray) (w : World) : Calls Try.prog 31 #[.agg #[.int .i64 k, .int .i64 n, .string s]] w fun e w' => e = .returned (.bool (vRight k n s)) ∧ Below w.heap.size w w' := by
  by_cases k0 : k = 0
  · subst k0
    by_cases n0 : n = 0 <;> by_cases s0 : s.toList = []
    all_goals
      go_enter Try.func31, Try.ntmps31
      go_wp2
      go_ret
      exact ⟨ret_bool (by rw [vR0]; simp [*]), (Below.refl _ _).alloc (Nat.le_refl _) _⟩
  · have q0 : (k == 0) = false := by rw [beq_eq_false_iff_ne]; exact k0
    by_cases k1 : k = 1
    · subst k1
      by_cases s0 : s.toList = []
      all_goals
        go_enter Try.func31, Try.ntmps31
        go_wp2
        go_ret
        exact ⟨ret_bool (by rw [vR1]; simp [*]), (Below.refl _ _).alloc (Nat.le_refl _) _⟩
    · have q1 : (k == 1) = false := by rw [beq_eq_false_iff_ne]; exact k1
      by_cases k2 : k = 2
      · subst k2
        by_cases n0 : n = 0
        · subst n0
          by_cases s0 : s.size ≤ 8
          · have s1 : (s.size : Int) ≤ 8 := by omega
            go_enter Try.func31, Try.ntmps31
            go_wp2
            go_ret
            exact ⟨ret_bool (by rw [vR2]; simp [*]), (Below.refl _ _).alloc (Nat.le_refl _) _⟩
          · have s1 : ¬ (s.size : Int) ≤ 8 := by omega
            go_enter Try.func31, Try.ntmps31
            go_wp2
            go_ret
            exact ⟨ret_bool (by rw [vR2]; simp [*]), (Below.refl _ _).alloc (Nat.le_refl _) _⟩
        · have n1 : (n == 0) = false := by rw [beq_eq_false_iff_ne]; exact n0
          go_enter Try.func31, Try.ntmps31
          go_wp2
          go_ret
          exact ⟨ret_bool (by rw [vR2]; simp [*]), (Below.refl _ _).alloc (Nat.le_refl _) _⟩
      · have q2 : (k == 2) = false := by rw [beq_eq_false_iff_ne]; exact k2
        have e1 : vRight k n s = false := by unfold vRight; rw [if_neg k0, if_neg k1, if_neg k2]
        have E1 := hide e1
        clear e1 k0 k1 k2
        go_enter Try.func31, Try.ntmps31
        go_wp2
        go_ret
        exact ⟨ret_bool E1.out.symm, (Below.refl _ _).alloc (Nat.le_refl _) _⟩

set_option maxHeartbeats 400000 in
theorem has1_any (lo hi n : Int) (b : Nat) (w : World) (hc : ∀ o, (w.alloc o).cell? ⟨b, 1, none⟩ = some (.int .i64 n)) : Calls Try.prog 38 #[.agg #[.int .i64 lo, .int .i64 hi], .pointer (some ⟨b, 0, none⟩)] w fun e w' => e = .returned (.bool (decide (lo ≤ n) && decide (n ≤ hi))) ∧ Below w.heap.size w w' := by
  by_cases h1 : lo ≤ n
  · have d1 : decide (lo ≤ n) = true := by simpa using h1
    go_enter Try.func38, Try.ntmps38
    go_wp2
    go_ret
    exact ⟨ret_bool (by simp [d1]), (Below.refl _ _).alloc (Nat.le_refl _) _⟩
  · have d1 : decide (lo ≤ n) = false := by simpa using h1
    go_enter Try.func38, Try.ntmps38
    go_wp2
    go_ret
    exact ⟨ret_bool (by simp [d1]), (Below.refl _ _).alloc (Nat.le_refl _) _⟩

theorem vcells {w : World} {b : Nat} {k n : Int} {s : ByteArray} (h : w.heap[b]? = some (.cells #[.int .i64 k, .int .i64 n, .string s] 30 (0, 0))) : w.cell? ⟨b, 0, none⟩ = some (.int .i64 k) ∧ w.cell? ⟨b, 1, none⟩ = some (.int .i64 n) ∧ w.cell? ⟨b, 2, none⟩ = some (.string s) :=
  ⟨(bk_cell h 0).trans rfl, (bk_cell h 1).trans rfl, (bk_cell h 2).trans rfl⟩
theorem scells {w : World} {b : Nat} {v0 v1 v2 v3 : Value} (h : w.heap[b]? = some (.cells #[v0, v1, v2, v3] 26 (0, 0))) : w.cell? ⟨b, 0, none⟩ = some v0 ∧ w.cell? ⟨b, 1, none⟩ = some v1 ∧ w.cell? ⟨b, 2, none⟩ = some v2 ∧ w.cell? ⟨b, 3, none⟩ = some v3 :=
  ⟨(bk_cell h 0).trans rfl, (bk_cell h 1).trans rfl, (bk_cell h 2).trans rfl, (bk_cell h 3).trans rfl⟩
end Go.Proofs.Ytfhokhhpfdmfiaa
