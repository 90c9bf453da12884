/- The methods of codec.Reader but Uint, Int and Str: what each returns, and what it leaves of the reader. -/
import Derived.Test.YthijblakadifiaaEnc
namespace Go.Proofs.Ythijblakadifiaa
open Go.RowKit

def es : ByteArray := { data := #[] }
/-- Block b is a codec.Reader that has s left and was stopped by e. -/
def Rdr (w : World) (b : Nat) (s : ByteArray) (e : Int) : Prop := w.heap[b]? = some (.cells #[.string s, .int .i64 e] 52 (0, 0))
theorem Rdr.c0 {w : World} {b : Nat} {s : ByteArray} {e : Int} (h : Rdr w b s e) : w.cell? ⟨b, 0, none⟩ = some (.string s) := (bk_cell h 0).trans rfl
theorem Rdr.c1 {w : World} {b : Nat} {s : ByteArray} {e : Int} (h : Rdr w b s e) : w.cell? ⟨b, 1, none⟩ = some (.int .i64 e) := (bk_cell h 1).trans rfl
theorem Rdr.f {w : World} {b : Nat} {s : ByteArray} {e : Int} (h : Rdr w b s e) (i : Nat) : w.frozen? ⟨b, i, none⟩ = false := bk_frozen h i
theorem Rdr.set0 {w : World} {b : Nat} {s : ByteArray} {e : Int} (h : Rdr w b s e) (t : ByteArray) : Rdr (w.setCell ⟨b, 0, none⟩ (.string t)) b t e := by
  have := bk_set h 0 (.string t); simpa [Rdr] using this
theorem Rdr.set1 {w : World} {b : Nat} {s : ByteArray} {e : Int} (h : Rdr w b s e) (k : Int) : Rdr (w.setCell ⟨b, 1, none⟩ (.int .i64 k)) b s k := by
  have := bk_set h 1 (.int .i64 k); simpa [Rdr] using this


set_option maxHeartbeats 400000 in
theorem fail_go (b : Nat) (s : ByteArray) (k : Int) (hk : k ≠ 0) (w : World) (h : Rdr w b s 0) : Calls Try.prog 28 #[.pointer (some ⟨b, 0, none⟩), .int .i64 k] w fun e w' => e = .returned (.tuple #[]) ∧ Rdr w' b es k ∧ w.grownBy w' (some b) := by
  have c0 := h.c0
  have c1 := h.c1
  have f0 := h.f 0
  have f1 := h.f 1
  have hk2 : (k != 0) = true := by simpa using hk
  have H := hide h
  clear h hk
  go_enter Try.func28, Try.ntmps28
  go_wp2
  go_end0
  exact ⟨rfl, (H.out.set0 es).set1 k, grown_set (grown_set (grown_refl _ _) _ _) _ _⟩
set_option maxHeartbeats 400000 in
theorem fail_stay (b : Nat) (s : ByteArray) (k e0 : Int) (hk : e0 ≠ 0 ∨ k = 0) (w : World) (h : Rdr w b s e0) : Calls Try.prog 28 #[.pointer (some ⟨b, 0, none⟩), .int .i64 k] w fun e w' => e = .returned (.tuple #[]) ∧ w = w' := by
  have c0 := h.c0
  have c1 := h.c1
  clear h
  by_cases he : e0 = 0
  · subst he
    obtain rfl : k = 0 := by rcases hk with h | h; exact absurd rfl h; exact h
    clear hk
    go_enter Try.func28, Try.ntmps28
    go_wp2
    go_end0
    exact ⟨rfl, rfl⟩
  · have he2 : (e0 == 0) = false := by simpa using he
    clear he hk
    go_enter Try.func28, Try.ntmps28
    go_wp2
    go_end0
    exact ⟨rfl, rfl⟩
set_option maxHeartbeats 400000 in
theorem fail_nil (k : Int) (w : World) : Calls Try.prog 28 #[.pointer none, .int .i64 k] w fun e w' => e = .returned (.tuple #[]) ∧ w = w' := by
  go_enter Try.func28, Try.ntmps28
  go_wp2
  go_end0
  exact ⟨rfl, rfl⟩
def fS (s : ByteArray) (e k : Int) : ByteArray := if e = 0 ∧ k ≠ 0 then es else s
def fE (e k : Int) : Int := if e = 0 ∧ k ≠ 0 then k else e
theorem fail_any (b : Nat) (s : ByteArray) (k e0 : Int) (w : World) (h : Rdr w b s e0) : Calls Try.prog 28 #[.pointer (some ⟨b, 0, none⟩), .int .i64 k] w fun e w' => e = .returned (.tuple #[]) ∧ Rdr w' b (fS s e0 k) (fE e0 k) ∧ w.grownBy w' (some b) := by
  unfold fS fE
  by_cases hc : e0 = 0 ∧ k ≠ 0
  · obtain ⟨rfl, hk⟩ := hc
    simp only [hk, ne_eq, not_false_eq_true, and_self, if_true]
    exact fail_go b s k hk w h
  · rw [if_neg hc, if_neg hc]
    refine (fail_stay b s k e0 (by omega) w h).mono ?_
    rintro e w' ⟨rfl, rfl⟩
    exact ⟨rfl, h, grown_refl _ _⟩
set_option maxHeartbeats 400000 in
theorem err_any (b : Nat) (s : ByteArray) (e0 : Int) (w : World) (h : Rdr w b s e0) : Calls Try.prog 19 #[.pointer (some ⟨b, 0, none⟩)] w fun e w' => e = .returned (.int .i64 e0) ∧ w = w' := by
  have c1 := h.c1
  clear h
  go_enter Try.func19, Try.ntmps19
  go_wp2
  go_ret
  exact ⟨rfl, rfl⟩
set_option maxHeartbeats 400000 in
theorem err_nil (w : World) : Calls Try.prog 19 #[.pointer none] w fun e w' => e = .returned (.int .i64 7) ∧ w = w' := by
  go_enter Try.func19, Try.ntmps19
  go_wp2
  go_ret
  exact ⟨rfl, rfl⟩
set_option maxHeartbeats 400000 in
theorem left_any (b : Nat) (s : ByteArray) (e0 : Int) (w : World) (h : Rdr w b s e0) : Calls Try.prog 20 #[.pointer (some ⟨b, 0, none⟩)] w fun e w' => e = .returned (.int .i64 (s.size : Int)) ∧ w = w' := by
  have c0 := h.c0
  clear h
  go_enter Try.func20, Try.ntmps20
  go_wp2
  go_ret
  exact ⟨rfl, rfl⟩
set_option maxHeartbeats 400000 in
theorem left_nil (w : World) : Calls Try.prog 20 #[.pointer none] w fun e w' => e = .returned (.int .i64 0) ∧ w = w' := by
  go_enter Try.func20, Try.ntmps20
  go_wp2
  go_ret
  exact ⟨rfl, rfl⟩
set_option maxHeartbeats 400000 in
theorem byte_nil (b : Nat) (s : ByteArray) (hs : s.size = 0) (e0 : Int) (w : World) (h : Rdr w b s e0) : Calls Try.prog 22 #[.pointer (some ⟨b, 0, none⟩)] w fun e w' => e = .returned (.int .u8 0) ∧ Rdr w' b (fS s e0 3) (fE e0 3) ∧ w.grownBy w' (some b) := by
  have H := hide h
  have hs2 : ((s.size : Int) == 0) = true := by simp [hs]
  clear h hs
  go_enter Try.func22, Try.ntmps22
  go_wp2_with (first | (go_at_call 20; refine (left_any _ _ _ _ H.out).mono ?_; rintro e w' ⟨rfl, rfl⟩) | (go_at_call 28; refine (fail_any _ _ _ _ _ H.out).mono ?_; rintro e w' ⟨rfl, hr, hg⟩))
  go_ret
  exact ⟨rfl, hr, hg⟩
set_option maxHeartbeats 400000 in
theorem byte_cons (b : Nat) (s : ByteArray) (hs : 0 < s.size) (e0 : Int) (w : World) (h : Rdr w b s e0) : Calls Try.prog 22 #[.pointer (some ⟨b, 0, none⟩)] w fun e w' => e = .returned (.int .u8 ((s[0]'hs).toNat : Int)) ∧ Rdr w' b (s.extract 1 s.size) e0 ∧ w.grownBy w' (some b) := by
  have H := hide h
  have c0 := h.c0
  have f0 := h.f 0
  have hs2 : ((s.size : Int) == 0) = false := by rw [beq_eq_false_iff_ne]; omega
  have hs3 : (1 : Int) ≤ s.size := by omega
  clear h
  go_enter Try.func22, Try.ntmps22
  go_wp2_with (first | (go_at_call 20; refine (left_any _ _ _ _ H.out).mono ?_; rintro e w' ⟨rfl, rfl⟩) | (go_at_call 28; refine (fail_any _ _ _ _ _ H.out).mono ?_; rintro e w' ⟨rfl, hr, hg⟩))
  go_ret
  exact ⟨rfl, H.out.set0 _, grown_set (grown_refl _ _) _ _⟩
end Go.Proofs.Ythijblakadifiaa
