/- The reference's reader: each of its calls reads and leaves what the program's does. -/
import Derived.Test.YthijblakadifiaaLaws
import Derived.Deep.QuietTactic
import Derived.BigQuiet
import Derived.WalkSmall
namespace Go.Proofs.Ythijblakadifiaa
open Go.RowKit

/-- Block b is a reference's Reader. -/
def RR (w : World) (b : Nat) (S : ByteArray) (k e : Int) : Prop := w.heap[b]? = some (.cells #[.string S, .int .i64 k, .int .i64 e] 40 (0, 0))
theorem RR.c0 {w : World} {b : Nat} {S : ByteArray} {k e : Int} (h : RR w b S k e) : w.cell? ⟨b, 0, none⟩ = some (.string S) := (bk_cell h 0).trans rfl
theorem RR.c1 {w : World} {b : Nat} {S : ByteArray} {k e : Int} (h : RR w b S k e) : w.cell? ⟨b, 1, none⟩ = some (.int .i64 k) := (bk_cell h 1).trans rfl
theorem RR.c2 {w : World} {b : Nat} {S : ByteArray} {k e : Int} (h : RR w b S k e) : w.cell? ⟨b, 2, none⟩ = some (.int .i64 e) := (bk_cell h 2).trans rfl
theorem RR.f {w : World} {b : Nat} {S : ByteArray} {k e : Int} (h : RR w b S k e) (i : Nat) : w.frozen? ⟨b, i, none⟩ = false := bk_frozen h i
theorem RR.set1 {w : World} {b : Nat} {S : ByteArray} {k e : Int} (h : RR w b S k e) (k' : Int) : RR (w.setCell ⟨b, 1, none⟩ (.int .i64 k')) b S k' e := by
  have := bk_set h 1 (.int .i64 k'); simpa [RR] using this
theorem RR.set2 {w : World} {b : Nat} {S : ByteArray} {k e : Int} (h : RR w b S k e) (e' : Int) : RR (w.setCell ⟨b, 2, none⟩ (.int .i64 e')) b S k e' := by
  have := bk_set h 2 (.int .i64 e'); simpa [RR] using this
theorem RR.drewN {w : World} {b : Nat} {S : ByteArray} {k e : Int} (h : RR w b S k e) (n : Nat) : RR (w.drewN n) b S k e := h
theorem grown_drewN {a w : World} {r : Option Nat} (h : a.grownBy w r) (n : Nat) : a.grownBy (w.drewN n) r :=
  grown_trans h ⟨rfl, rfl, rfl, Nat.le_refl _, fun _ _ _ => rfl⟩

set_option maxHeartbeats 400000 in
theorem stop_any (b : Nat) (S : ByteArray) (k e0 x : Int) (w : World) (h : RR w b S k e0) : Calls Try.prog 29 #[.pointer (some ⟨b, 0, none⟩), .int .i64 x] w fun e w' => e = .returned (.int .u64 0) ∧ RR w' b S k (if e0 = 0 then x else e0) ∧ w.grownBy w' (some b) := by
  have H := hide h
  have c2 := h.c2
  have f2 := h.f 2
  clear h
  by_cases he : e0 = 0
  · rw [if_pos he]
    subst he
    go_enter Try.func29, Try.ntmps29
    go_wp2
    go_ret
    exact ⟨rfl, H.out.set2 x, grown_set (grown_refl _ _) _ _⟩
  · rw [if_neg he]
    have he2 : (e0 == 0) = false := by simpa using he
    clear he
    go_enter Try.func29, Try.ntmps29
    go_wp2
    go_ret
    exact ⟨rfl, H.out, grown_refl _ _⟩

set_option maxHeartbeats 1000000 in
set_option maxRecDepth 100000 in
theorem rbyte_stopped (b : Nat) (S : ByteArray) (k e0 : Int) (he : e0 ≠ 0) (w : World) (h : RR w b S k e0) : Calls Try.prog 23 #[.pointer (some ⟨b, 0, none⟩)] w fun e w' => e = .returned (.int .u8 0) ∧ RR w' b S k e0 ∧ w.grownBy w' (some b) := by
  have H := hide h
  have c2 := h.c2
  have he2 : (e0 != 0) = true := by simpa using he
  have HE := hide he
  clear h he
  go_enter Try.func23, Try.ntmps23
  go_wp2_with fail
  go_quiet (fail)
  go_wp2_with fail
  refine (stop_any _ _ _ _ _ _ (H.out.drewN _)).mono ?_
  rw [if_neg HE.out]
  rintro e w1 ⟨rfl, hr, hg⟩
  go_wp2_with fail
  go_ret
  exact ⟨rfl, hr, grown_trans (grown_drewN (grown_refl _ _) _) hg⟩
set_option maxHeartbeats 1000000 in
set_option maxRecDepth 100000 in
theorem rbyte_end (b : Nat) (S : ByteArray) (k : Int) (hk : (S.size : Int) ≤ k) (w : World) (h : RR w b S k 0) : Calls Try.prog 23 #[.pointer (some ⟨b, 0, none⟩)] w fun e w' => e = .returned (.int .u8 0) ∧ RR w' b S k 3 ∧ w.grownBy w' (some b) := by
  have H := hide h
  have c0 := h.c0
  have c1 := h.c1
  have c2 := h.c2
  have hd : decide ((S.size : Int) ≤ k) = true := by simpa using hk
  clear h
  go_enter Try.func23, Try.ntmps23
  go_wp2_with fail
  go_quiet (fail)
  go_wp2_with fail
  refine (stop_any _ _ _ _ _ _ (H.out.drewN _)).mono ?_
  rw [if_pos rfl]
  rintro e w1 ⟨rfl, hr, hg⟩
  go_wp2_with fail
  go_ret
  exact ⟨rfl, hr, grown_trans (grown_drewN (grown_refl _ _) _) hg⟩
set_option maxHeartbeats 1000000 in
set_option maxRecDepth 100000 in
theorem rbyte_on (b : Nat) (S : ByteArray) (k : Nat) (hk : k < S.size) (hs : S.size ≤ 4611686018427387903) (w : World) (h : RR w b S k 0) : Calls Try.prog 23 #[.pointer (some ⟨b, 0, none⟩)] w fun e w' => e = .returned (.int .u8 ((S[k]'hk).toNat : Int)) ∧ RR w' b S ((k : Int) + 1) 0 ∧ w.grownBy w' (some b) := by
  have H := hide h
  have c0 := h.c0
  have c1 := h.c1
  have c2 := h.c2
  have f1 := h.f 1
  have hd : ¬ ((S.size : Int) ≤ k) := by omega
  have hd2 : decide ((S.size : Int) ≤ k) = false := by simp; omega
  have hd3 : decide (S.size ≤ k) = false := by simp; omega
  clear h
  go_enter Try.func23, Try.ntmps23
  go_wp2_with fail
  go_quiet (fail)
  go_wp2_with fail
  go_quiet (fail)
  go_wp2_with fail
  go_ret
  exact ⟨rfl, ((H.out.drewN _).set1 _).drewN _, grown_drewN (grown_set (grown_drewN (grown_refl _ _) _) _ _) _⟩

/-- The reference's reader at block b has l left of S, and was stopped by e. -/
def RRs (w : World) (b : Nat) (S : List UInt8) (l : List UInt8) (e : Int) : Prop := ∃ k : Nat, RR w b (bs S) k e ∧ k ≤ S.length ∧ (e = 0 → l = S.drop k) ∧ (e ≠ 0 → l = [])
theorem RRs.c2 {w : World} {b : Nat} {S l : List UInt8} {e : Int} (h : RRs w b S l e) : w.cell? ⟨b, 2, none⟩ = some (.int .i64 e) := by
  obtain ⟨k, h, _⟩ := h; exact h.c2
theorem RRs.lt {w : World} {b : Nat} {S l : List UInt8} {e : Int} (h : RRs w b S l e) : b < w.heap.size := by
  obtain ⟨k, h, _⟩ := h; exact bk_lt h
theorem RRs.grown {w w1 : World} {b : Nat} {S l : List UInt8} {e : Int} {r : Option Nat} (h : RRs w b S l e) (hg : w.grownBy w1 r) (hne : some b ≠ r) : RRs w1 b S l e := by
  obtain ⟨k, h, hr⟩ := h; exact ⟨k, bk_grown h hg hne, hr⟩
theorem RRs.below {w w1 : World} {b : Nat} {S l : List UInt8} {e : Int} (h : RRs w b S l e) (hb : Below w.heap.size w w1) : RRs w1 b S l e := by
  obtain ⟨k, h, hr⟩ := h; exact ⟨k, bk_below h hb, hr⟩
theorem RRs.drewN {w : World} {b : Nat} {S l : List UInt8} {e : Int} (h : RRs w b S l e) (n : Nat) : RRs (w.drewN n) b S l e := h
theorem RRs.alloc {w : World} {b : Nat} {S l : List UInt8} {e : Int} (h : RRs w b S l e) (o : Obj) : RRs (w.alloc o) b S l e := by
  obtain ⟨k, h, hr⟩ := h; exact ⟨k, bk_alloc h o, hr⟩

theorem rstop_any (b : Nat) (S l : List UInt8) (e0 x : Int) (w : World) (h : RRs w b S l e0) : Calls Try.prog 29 #[.pointer (some ⟨b, 0, none⟩), .int .i64 x] w fun e w' => e = .returned (.int .u64 0) ∧ RRs w' b S (if e0 = 0 ∧ x ≠ 0 then [] else l) (if e0 = 0 then x else e0) ∧ w.grownBy w' (some b) := by
  obtain ⟨k, hr, hk, h0, h1⟩ := h
  refine (stop_any b _ k e0 x w hr).mono ?_
  rintro e w' ⟨he, hr', hg⟩
  refine ⟨he, ⟨k, hr', hk, ?_, ?_⟩, hg⟩
  · intro hx
    by_cases he0 : e0 = 0
    · rw [if_pos he0] at hx
      rw [if_neg (fun h => h.2 hx)]
      exact h0 he0
    · rw [if_neg he0] at hx; exact absurd hx he0
  · intro hx
    by_cases he0 : e0 = 0
    · rw [if_pos he0] at hx
      rw [if_pos ⟨he0, hx⟩]
    · rw [if_neg (fun h => he0 h.1)]
      exact h1 he0

/-- What a byte is: the first one left, or 0. -/
theorem rbyte_cons (b : Nat) (S : List UInt8) (c : UInt8) (t : List UInt8) (e0 : Int) (w : World) (hs : S.length ≤ 4611686018427387903) (h : RRs w b S (c :: t) e0) : Calls Try.prog 23 #[.pointer (some ⟨b, 0, none⟩)] w fun e w' => e = .returned (.int .u8 (c.toNat : Int)) ∧ RRs w' b S t e0 ∧ w.grownBy w' (some b) := by
  obtain ⟨k, hr, hk, h0, h1⟩ := h
  by_cases he : e0 = 0
  · subst he
    have hd := h0 rfl
    have hkl : k < S.length := by
      rcases Nat.lt_or_ge k S.length with h | h
      · exact h
      · rw [List.drop_eq_nil_of_le h] at hd; simp at hd
    rw [List.drop_eq_getElem_cons hkl] at hd
    injection hd with hd1 hd2
    refine (rbyte_on b (bs S) k (by rw [bs_size]; exact hkl) (by rw [bs_size]; exact hs) w hr).mono ?_
    rintro e w' ⟨he, hr', hg⟩
    refine ⟨?_, ⟨k + 1, hr', by omega, fun _ => hd2, fun h => absurd rfl h⟩, hg⟩
    rw [he, hd1]; rfl
  · exact absurd (h1 he) (by simp)
theorem rbyte_nil (b : Nat) (S : List UInt8) (e0 : Int) (w : World) (h : RRs w b S [] e0) : Calls Try.prog 23 #[.pointer (some ⟨b, 0, none⟩)] w fun e w' => e = .returned (.int .u8 0) ∧ RRs w' b S [] (if e0 = 0 then 3 else e0) ∧ w.grownBy w' (some b) := by
  obtain ⟨k, hr, hk, h0, h1⟩ := h
  by_cases he : e0 = 0
  · subst he
    have hkl : S.length ≤ k := by
      have := h0 rfl
      exact List.drop_eq_nil_iff.1 this.symm
    refine (rbyte_end b (bs S) k (by rw [bs_size]; omega) w hr).mono ?_
    rintro e w' ⟨he, hr', hg⟩
    exact ⟨he, ⟨k, hr', hk, fun h => absurd h (by simp), fun _ => rfl⟩, hg⟩
  · refine (rbyte_stopped b (bs S) k e0 he w hr).mono ?_
    rintro e w' ⟨he', hr', hg⟩
    rw [if_neg he]
    exact ⟨he', ⟨k, hr', hk, fun h => absurd h he, fun _ => rfl⟩, hg⟩
end Go.Proofs.Ythijblakadifiaa
