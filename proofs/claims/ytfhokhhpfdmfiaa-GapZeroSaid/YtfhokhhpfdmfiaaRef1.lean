/- The reference's value.Right, Event, InInts, InStrs and Has of a set. -/
import Derived.Test.YtfhokhhpfdmfiaaBoxes
namespace Go.Proofs.Ytfhokhhpfdmfiaa
open Go.RowKit

set_option maxHeartbeats 400000 in
theorem refright_any (k n : Int) (s : ByteArray) (w : World) : Calls Try.prog 26 #[.agg #[.int .i64 k, .int .i64 n, .string s]] w fun e w' => e = .returned (.bool (vRight k n s)) ∧ Below w.heap.size w w' := by
  by_cases k0 : k = 0
  · subst k0
    by_cases n0 : n = 0 <;> by_cases s0 : s.toList = []
    all_goals
      first | (subst n0) | (have n1 : (n == 0) = false := by rw [beq_eq_false_iff_ne]; exact n0)
      go_enter Try.func26, Try.ntmps26
      go_wp2
      go_ret
      exact ⟨ret_bool (by rw [vR0]; simp [*]), (Below.refl _ _).alloc (Nat.le_refl _) _⟩
  · have q0 : (k == 0) = false := by rw [beq_eq_false_iff_ne]; exact k0
    by_cases k1 : k = 1
    · subst k1
      by_cases s0 : s.toList = []
      all_goals
        go_enter Try.func26, Try.ntmps26
        go_wp2
        go_ret
        exact ⟨ret_bool (by rw [vR1]; simp [*]), (Below.refl _ _).alloc (Nat.le_refl _) _⟩
    · have q1 : (k == 1) = false := by rw [beq_eq_false_iff_ne]; exact k1
      by_cases k2 : k = 2
      · subst k2
        by_cases n0 : n = 0
        · subst n0
          by_cases s0 : s.size ≤ 8
          · have s1 : (s.size : Int) ≤ 8 := by omega
            go_enter Try.func26, Try.ntmps26
            go_wp2
            go_ret
            exact ⟨ret_bool (by rw [vR2]; simp [*]), (Below.refl _ _).alloc (Nat.le_refl _) _⟩
          · have s1 : ¬ (s.size : Int) ≤ 8 := by omega
            go_enter Try.func26, Try.ntmps26
            go_wp2
            go_ret
            exact ⟨ret_bool (by rw [vR2]; simp [*]), (Below.refl _ _).alloc (Nat.le_refl _) _⟩
        · have n1 : (n == 0) = false := by rw [beq_eq_false_iff_ne]; exact n0
          go_enter Try.func26, Try.ntmps26
          go_wp2
          go_ret
          exact ⟨ret_bool (by rw [vR2]; simp [*]), (Below.refl _ _).alloc (Nat.le_refl _) _⟩
      · have q2 : (k == 2) = false := by rw [beq_eq_false_iff_ne]; exact k2
        have e1 : vRight k n s = false := by unfold vRight; rw [if_neg k0, if_neg k1, if_neg k2]
        have E1 := hide e1
        clear e1 k0 k1 k2
        go_enter Try.func26, Try.ntmps26
        go_wp2
        go_ret
        exact ⟨ret_bool E1.out.symm, (Below.refl _ _).alloc (Nat.le_refl _) _⟩


def evOk (e : Nat → ValM) : Bool := (e 0).ok && ((e 1).ok && ((e 2).ok && (e 3).ok))
theorem evOk_iff (e : Nat → ValM) : evOk e = true ↔ ∀ j, j < 4 → (e j).ok = true := by
  unfold evOk
  simp only [Bool.and_eq_true]
  constructor
  · rintro ⟨h0, h1, h2, h3⟩ j hj
    have hjj : j = 0 ∨ j = 1 ∨ j = 2 ∨ j = 3 := by omega
    rcases hjj with rfl | rfl | rfl | rfl <;> assumption
  · intro h
    exact ⟨h 0 (by omega), h 1 (by omega), h 2 (by omega), h 3 (by omega)⟩
theorem evOk_no (e : Nat → ValM) (j : Nat) (hj : j < 4) (h : (e j).ok = false) : evOk e = false := by
  cases h2 : evOk e with
  | false => rfl
  | true => have := (evOk_iff e).1 h2 j hj; rw [h] at this; simp at this

set_option maxHeartbeats 4000000 in
set_option maxRecDepth 100000 in
theorem event_any (e : Nat → ValM) (w : World) : Calls Try.prog 12 #[.agg #[.int .i64 (e 0).k, .int .i64 (e 0).n, .string (e 0).s, .int .i64 (e 1).k, .int .i64 (e 1).n, .string (e 1).s, .int .i64 (e 2).k, .int .i64 (e 2).n, .string (e 2).s, .int .i64 (e 3).k, .int .i64 (e 3).n, .string (e 3).s]] w fun e' w' => e' = .returned (.bool (evOk e)) ∧ Below w.heap.size w w' := by
  go_enter Try.func12, Try.ntmps12
  go_wp2_with fail
  go_loopg [3] 4 (fun q i wr => ∃ j : Nat, i = .int .i64 j ∧ j ≤ 4 ∧ q + j = 4 ∧ Below w.heap.size w wr ∧ wr.heap[w.heap.size]? = some (.cells #[.int .i64 (e 0).k, .int .i64 (e 0).n, .string (e 0).s, .int .i64 (e 1).k, .int .i64 (e 1).n, .string (e 1).s, .int .i64 (e 2).k, .int .i64 (e 2).n, .string (e 2).s, .int .i64 (e 3).k, .int .i64 (e 3).n, .string (e 3).s] 32 (0, 0)) ∧ ∀ t, t < j → (e t).ok = true)
  case atStart => exact ⟨0, rfl, by omega, by omega, (Below.refl _ _).alloc (Nat.le_refl _) _, bk_new _ _, fun t h => absurd h (by omega)⟩
  case round =>
    obtain ⟨j, rfl, hj, hq, hB, hX, hok⟩ := hrel
    have HX := hide hX
    have HOK := hide hok
    have hz := bk_lt hX
    have hz0 := hB.size
    clear hX hok
    by_cases hlt : j < 4
    · obtain ⟨g0, g1, g2, g3, g4, g5, g6, g7, g8, g9, g10, g11⟩ := ecells HX.out
      have hjj : j = 0 ∨ j = 1 ∨ j = 2 ∨ j = 3 := by omega
      rcases hjj with rfl | rfl | rfl | rfl
      · go_wp2_with fail
        refine (refright_any _ _ _ _).mono ?_
        rintro e' w3 ⟨rfl, hb3⟩
        have B3 := below_step hB hz0 hb3
        have X3 := hide (bk_below HX.out hb3)
        have hr : vRight (e 0).k (e 0).n (e 0).s = (e 0).ok := rfl
        rw [hr]
        cases hv : (e 0).ok with
        | false =>
          have HV := hide (evOk_no e 0 (by omega) hv)
          clear hv
          go_wp2_with fail
          go_ret
          exact ⟨ret_bool HV.out.symm, B3⟩
        | true =>
          have HV := hide hv
          clear hv
          go_wp2_with fail
          go_roundg (4 - (0 + 1))
          case measure => omega
          case rel =>
            refine ⟨0 + 1, by go_num, by omega, by omega, B3, X3.out, fun t ht => ?_⟩
            rcases Nat.lt_or_ge t 0 with h | h
            · exact HOK.out t h
            · have : t = 0 := by omega
              rw [this]; exact HV.out
      · go_wp2_with fail
        refine (refright_any _ _ _ _).mono ?_
        rintro e' w3 ⟨rfl, hb3⟩
        have B3 := below_step hB hz0 hb3
        have X3 := hide (bk_below HX.out hb3)
        have hr : vRight (e 1).k (e 1).n (e 1).s = (e 1).ok := rfl
        rw [hr]
        cases hv : (e 1).ok with
        | false =>
          have HV := hide (evOk_no e 1 (by omega) hv)
          clear hv
          go_wp2_with fail
          go_ret
          exact ⟨ret_bool HV.out.symm, B3⟩
        | true =>
          have HV := hide hv
          clear hv
          go_wp2_with fail
          go_roundg (4 - (1 + 1))
          case measure => omega
          case rel =>
            refine ⟨1 + 1, by go_num, by omega, by omega, B3, X3.out, fun t ht => ?_⟩
            rcases Nat.lt_or_ge t 1 with h | h
            · exact HOK.out t h
            · have : t = 1 := by omega
              rw [this]; exact HV.out
      · go_wp2_with fail
        refine (refright_any _ _ _ _).mono ?_
        rintro e' w3 ⟨rfl, hb3⟩
        have B3 := below_step hB hz0 hb3
        have X3 := hide (bk_below HX.out hb3)
        have hr : vRight (e 2).k (e 2).n (e 2).s = (e 2).ok := rfl
        rw [hr]
        cases hv : (e 2).ok with
        | false =>
          have HV := hide (evOk_no e 2 (by omega) hv)
          clear hv
          go_wp2_with fail
          go_ret
          exact ⟨ret_bool HV.out.symm, B3⟩
        | true =>
          have HV := hide hv
          clear hv
          go_wp2_with fail
          go_roundg (4 - (2 + 1))
          case measure => omega
          case rel =>
            refine ⟨2 + 1, by go_num, by omega, by omega, B3, X3.out, fun t ht => ?_⟩
            rcases Nat.lt_or_ge t 2 with h | h
            · exact HOK.out t h
            · have : t = 2 := by omega
              rw [this]; exact HV.out
      · go_wp2_with fail
        refine (refright_any _ _ _ _).mono ?_
        rintro e' w3 ⟨rfl, hb3⟩
        have B3 := below_step hB hz0 hb3
        have X3 := hide (bk_below HX.out hb3)
        have hr : vRight (e 3).k (e 3).n (e 3).s = (e 3).ok := rfl
        rw [hr]
        cases hv : (e 3).ok with
        | false =>
          have HV := hide (evOk_no e 3 (by omega) hv)
          clear hv
          go_wp2_with fail
          go_ret
          exact ⟨ret_bool HV.out.symm, B3⟩
        | true =>
          have HV := hide hv
          clear hv
          go_wp2_with fail
          go_roundg (4 - (3 + 1))
          case measure => omega
          case rel =>
            refine ⟨3 + 1, by go_num, by omega, by omega, B3, X3.out, fun t ht => ?_⟩
            rcases Nat.lt_or_ge t 3 with h | h
            · exact HOK.out t h
            · have : t = 3 := by omega
              rw [this]; exact HV.out
    · have hj4 : j = 4 := by omega
      subst hj4
      go_wp2_with fail
      go_ret
      exact ⟨ret_bool ((evOk_iff e).2 HOK.out).symm, hB⟩

set_option maxHeartbeats 1000000 in
theorem inints_any (A : Option Addr) (n c : Nat) (rs : List (Int × Int)) (x : Int) (w : World) (hr : RangesR w A n rs) :
    Calls Try.prog 40 #[.slice A n c, .int .i64 x] w fun e w' => e = .returned (.bool (rs.any (inR x))) ∧ w = w' := by
  have HR := hide hr
  have hn63 := hr.2.1
  clear hr
  go_enter Try.func40, Try.ntmps40
  go_wp2_with fail
  go_loopg [5] n (fun q i wr => ∃ j : Nat, i = .int .i64 j ∧ j ≤ n ∧ q + j = n ∧ w = wr ∧ (rs.take j).any (inR x) = false)
  case atStart => exact ⟨0, rfl, by omega, by omega, rfl, by simp⟩
  case round =>
    obtain ⟨j, rfl, hj, hq, rfl, hno⟩ := hrel
    have HNO := hide hno
    clear hno
    by_cases hlt : j < n
    · obtain ⟨hlen, _, hrd⟩ := HR.out
      obtain ⟨b', off, rfl, hbl, hcell⟩ := hrd (by omega)
      obtain ⟨⟨lo, hi⟩, hri⟩ : ∃ r, rs[j]? = some r := ⟨_, List.getElem?_eq_getElem (by omega)⟩
      obtain ⟨c0, c1, _, _⟩ := hcell j _ hri
      simp only at c0 c1
      have hlti : (j : Int) < n := by omega
      have hmem := List.mem_of_getElem? hri
      have hyes : inR x (lo, hi) = true → rs.any (inR x) = true := fun h => List.any_eq_true.2 ⟨_, hmem, h⟩
      have hstep : inR x (lo, hi) = false → (rs.take (j + 1)).any (inR x) = false := fun h => by
        have hj' : j < rs.length := by omega
        rw [List.take_succ_eq_append_getElem hj', List.any_append, HNO.out]
        have : rs[j] = (lo, hi) := by rw [List.getElem?_eq_getElem hj'] at hri; exact Option.some.inj hri
        rw [this]
        simp [h]
      have HY := hide hyes
      have HST := hide hstep
      clear hcell hri hlen hrd hmem hyes hstep
      by_cases h1 : lo ≤ x
      · have d1 : decide (lo ≤ x) = true := by simpa using h1
        by_cases h2 : x ≤ hi
        · have d2 : decide (x ≤ hi) = true := by simpa using h2
          have hin : inR x (lo, hi) = true := by unfold inR; simp [d1, d2]
          have HIN := hide (HY.out hin)
          clear hin
          go_wp2_with fail
          go_ret
          exact ⟨ret_bool HIN.out.symm, rfl⟩
        · have d2 : decide (x ≤ hi) = false := by simpa using h2
          have hin : inR x (lo, hi) = false := by unfold inR; simp [d1, d2]
          have HIN := hide (HST.out hin)
          clear hin
          go_wp2_with fail
          go_roundg (n - (j + 1))
          case measure => omega
          case rel => exact ⟨j + 1, by go_num, by omega, by omega, rfl, HIN.out⟩
      · have d1 : decide (lo ≤ x) = false := by simpa using h1
        have hin : inR x (lo, hi) = false := by unfold inR; simp [d1]
        have HIN := hide (HST.out hin)
        clear hin
        go_wp2_with fail
        go_roundg (n - (j + 1))
        case measure => omega
        case rel => exact ⟨j + 1, by go_num, by omega, by omega, rfl, HIN.out⟩
    · have hlti : ¬ (j : Int) < n := by omega
      go_wp2_with fail
      go_ret
      refine ⟨ret_bool ?_, rfl⟩
      have h1 := HNO.out
      rw [List.take_of_length_le (by have := HR.out.1; omega)] at h1
      exact h1.symm

set_option maxHeartbeats 1000000 in
theorem instrs_any (A : Option Addr) (n c : Nat) (ss : List ByteArray) (x : ByteArray) (w : World) (hr : StrsR w A n ss) :
    Calls Try.prog 41 #[.slice A n c, .string x] w fun e w' => e = .returned (.bool (ss.any (inS x))) ∧ w = w' := by
  have HR := hide hr
  have hn63 := hr.2.1
  clear hr
  go_enter Try.func41, Try.ntmps41
  go_wp2_with fail
  go_loopg [5] n (fun q i wr => ∃ j : Nat, i = .int .i64 j ∧ j ≤ n ∧ q + j = n ∧ w = wr ∧ (ss.take j).any (inS x) = false)
  case atStart => exact ⟨0, rfl, by omega, by omega, rfl, by simp⟩
  case round =>
    obtain ⟨j, rfl, hj, hq, rfl, hno⟩ := hrel
    have HNO := hide hno
    clear hno
    by_cases hlt : j < n
    · obtain ⟨hlen, _, hrd⟩ := HR.out
      obtain ⟨b', off, rfl, hbl, hcell⟩ := hrd (by omega)
      obtain ⟨y, hri⟩ : ∃ r, ss[j]? = some r := ⟨_, List.getElem?_eq_getElem (by omega)⟩
      have c0 := hcell j _ hri
      have hlti : (j : Int) < n := by omega
      have hmem := List.mem_of_getElem? hri
      have hsym : (y.toList == x.toList) = inS x y := by
        unfold inS; rw [Bool.eq_iff_iff, beq_iff_eq, beq_iff_eq]; exact ⟨Eq.symm, Eq.symm⟩
      have hyes : inS x y = true → ss.any (inS x) = true := fun h => List.any_eq_true.2 ⟨_, hmem, h⟩
      have hstep : inS x y = false → (ss.take (j + 1)).any (inS x) = false := fun h => by
        have hj' : j < ss.length := by omega
        rw [List.take_succ_eq_append_getElem hj', List.any_append, HNO.out]
        have : ss[j] = y := by rw [List.getElem?_eq_getElem hj'] at hri; exact Option.some.inj hri
        rw [this]
        simp [h]
      have HY := hide hyes
      have HST := hide hstep
      have HSY := hide hsym
      clear hcell hri hlen hrd hmem hyes hstep hsym
      by_cases ht : (y.toList == x.toList) = true
      · have hin := HY.out (by rw [← HSY.out]; exact ht)
        have HIN := hide hin
        clear hin
        go_wp2_with fail
        go_ret
        exact ⟨ret_bool HIN.out.symm, rfl⟩
      · have ht' : (y.toList == x.toList) = false := by simpa using ht
        have hin := HST.out (by rw [← HSY.out]; exact ht')
        have HIN := hide hin
        clear hin ht
        go_wp2_with fail
        go_roundg (n - (j + 1))
        case measure => omega
        case rel => exact ⟨j + 1, by go_num, by omega, by omega, rfl, HIN.out⟩
    · have hlti : ¬ (j : Int) < n := by omega
      go_wp2_with fail
      go_ret
      refine ⟨ret_bool ?_, rfl⟩
      have h1 := HNO.out
      rw [List.take_of_length_le (by have := HR.out.1; omega)] at h1
      exact h1.symm

set_option maxHeartbeats 1000000 in
theorem refhas_any (s : SetM) (v : ValM) (A : Option Addr) (n1 c1 : Nat) (B : Option Addr) (n2 c2 : Nat) (w : World) (hA : RangesR w A n1 s.ints) (hB : StrsR w B n2 s.strs) : Calls Try.prog 34 #[.agg #[.bool s.a, .slice A n1 c1, .bool s.co, .slice B n2 c2], .agg #[.int .i64 v.k, .int .i64 v.n, .string v.s]] w fun e w' => e = .returned (.bool (hasM s v)) ∧ Below w.heap.size w w' := by
  obtain ⟨k, n, t⟩ := v
  obtain ⟨a, rs, co, ss⟩ := s
  have HA := hide hA
  have HB := hide hB
  clear hA hB
  by_cases h0 : vRight k n t = false
  · have H0 := hide h0
    clear h0
    go_enter Try.func34, Try.ntmps34
    go_wp2_with fail
    refine (refright_any _ _ _ _).mono ?_
    rw [H0.out]
    rintro e w1 ⟨rfl, hb1⟩
    go_wp2_with fail
    go_ret
    refine ⟨ret_bool ?_, below_step (((Below.refl _ _).alloc (Nat.le_refl _) _).alloc (by simp) _) (by simp; omega) hb1⟩
    unfold hasM ValM.ok
    rw [H0.out]; rfl
  · have h1 : vRight k n t = true := by simpa using h0
    have H0 := hide h1
    clear h0 h1
    by_cases k1 : k = 1
    · subst k1
      go_enter Try.func34, Try.ntmps34
      go_wp2_with fail
      refine (refright_any _ _ _ _).mono ?_
      rw [H0.out]
      rintro e w1 ⟨rfl, hb1⟩
      have V := hide (bk_below (bk_new1 _ _ _) hb1)
      obtain ⟨x0, x1, x2⟩ := vcells V.out
      obtain ⟨y0, y1, y2, y3⟩ := scells (bk_below (bk_new0 _ _ _) hb1)
      have B1 : Below w.heap.size w w1 := below_step (((Below.refl _ _).alloc (Nat.le_refl _) _).alloc (by simp) _) (by simp; omega) hb1
      have HA1 := hide (HA.out.below B1)
      go_wp2_with fail
      refine (inints_any _ _ _ _ _ _ HA1.out).mono ?_
      rintro e w2 ⟨rfl, rfl⟩
      go_wp2_with fail
      go_ret
      refine ⟨ret_bool ?_, B1⟩
      unfold hasM ValM.ok
      rw [H0.out]; rfl
    · have q1 : (k == 1) = false := by rw [beq_eq_false_iff_ne]; exact k1
      by_cases k2 : k = 2
      · subst k2
        clear k1
        go_enter Try.func34, Try.ntmps34
        go_wp2_with fail
        refine (refright_any _ _ _ _).mono ?_
        rw [H0.out]
        rintro e w1 ⟨rfl, hb1⟩
        have V := hide (bk_below (bk_new1 _ _ _) hb1)
        obtain ⟨x0, x1, x2⟩ := vcells V.out
        obtain ⟨y0, y1, y2, y3⟩ := scells (bk_below (bk_new0 _ _ _) hb1)
        have B1 : Below w.heap.size w w1 := below_step (((Below.refl _ _).alloc (Nat.le_refl _) _).alloc (by simp) _) (by simp; omega) hb1
        have HB1 : Hid (∀ m, StrsR (w1.drewN m) B n2 ss) := fun m => HB.out.below (below_drewN B1 m)
        go_wp2_with fail
        go_quiet ((go_at_call 41; exact quiet_left (instrs_any _ _ _ _ _ _ (HB1.out _))))
        go_wp2_with fail
        go_ret
        refine ⟨ret_bool ?_, below_drewN B1 _⟩
        unfold hasM ValM.ok
        rw [H0.out]; rfl
      · have k0 : k = 0 := by
          rcases Decidable.em (k = 0) with h | h
          · exact h
          · have := H0.out
            unfold vRight at this
            rw [if_neg h, if_neg k1, if_neg k2] at this
            simp at this
        subst k0
        have q2 : ((0 : Int) == 2) = false := rfl
        have K := hide (And.intro k1 k2)
        clear k1 k2
        go_enter Try.func34, Try.ntmps34
        go_wp2_with fail
        refine (refright_any _ _ _ _).mono ?_
        rw [H0.out]
        rintro e w1 ⟨rfl, hb1⟩
        have V := hide (bk_below (bk_new1 _ _ _) hb1)
        obtain ⟨x0, x1, x2⟩ := vcells V.out
        obtain ⟨y0, y1, y2, y3⟩ := scells (bk_below (bk_new0 _ _ _) hb1)
        have B1 : Below w.heap.size w w1 := below_step (((Below.refl _ _).alloc (Nat.le_refl _) _).alloc (by simp) _) (by simp; omega) hb1
        go_wp2_with fail
        go_ret
        refine ⟨ret_bool ?_, B1⟩
        unfold hasM ValM.ok
        rw [H0.out, if_neg (by simp), if_neg K.out.1, if_neg K.out.2]
end Go.Proofs.Ytfhokhhpfdmfiaa
