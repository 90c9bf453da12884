/- The reference's Has of a filter; Empty of a set and of a box. -/
import Derived.Test.YtfhokhhpfdmfiaaRef2
namespace Go.Proofs.Ytfhokhhpfdmfiaa
open Go.RowKit

theorem box_and {w : World} {b o E : Nat} {s : Nat → SetM} {v : Nat → SetV} {e : Nat → ValM} (h1 : BoxC w b o s v) (h2 : w.heap[E]? = some (.cells #[.int .i64 (e 0).k, .int .i64 (e 0).n, .string (e 0).s, .int .i64 (e 1).k, .int .i64 (e 1).n, .string (e 1).s, .int .i64 (e 2).k, .int .i64 (e 2).n, .string (e 2).s, .int .i64 (e 3).k, .int .i64 (e 3).n, .string (e 3).s] 32 (0, 0))) : w.cell? ⟨b, o, none⟩ = some (.bool (s 0).a) ∧ w.cell? ⟨b, o + 1, none⟩ = some (.slice (v 0).A (v 0).n (v 0).c) ∧ w.cell? ⟨b, o + 2, none⟩ = some (.bool (s 0).co) ∧ w.cell? ⟨b, o + 3, none⟩ = some (.slice (v 0).B (v 0).m (v 0).d) ∧ w.cell? ⟨b, o + 4, none⟩ = some (.bool (s 1).a) ∧ w.cell? ⟨b, o + 5, none⟩ = some (.slice (v 1).A (v 1).n (v 1).c) ∧ w.cell? ⟨b, o + 6, none⟩ = some (.bool (s 1).co) ∧ w.cell? ⟨b, o + 7, none⟩ = some (.slice (v 1).B (v 1).m (v 1).d) ∧ w.cell? ⟨b, o + 8, none⟩ = some (.bool (s 2).a) ∧ w.cell? ⟨b, o + 9, none⟩ = some (.slice (v 2).A (v 2).n (v 2).c) ∧ w.cell? ⟨b, o + 10, none⟩ = some (.bool (s 2).co) ∧ w.cell? ⟨b, o + 11, none⟩ = some (.slice (v 2).B (v 2).m (v 2).d) ∧ w.cell? ⟨b, o + 12, none⟩ = some (.bool (s 3).a) ∧ w.cell? ⟨b, o + 13, none⟩ = some (.slice (v 3).A (v 3).n (v 3).c) ∧ w.cell? ⟨b, o + 14, none⟩ = some (.bool (s 3).co) ∧ w.cell? ⟨b, o + 15, none⟩ = some (.slice (v 3).B (v 3).m (v 3).d) ∧ w.cell? ⟨E, 0, none⟩ = some (.int .i64 (e 0).k) ∧ w.cell? ⟨E, 1, none⟩ = some (.int .i64 (e 0).n) ∧ w.cell? ⟨E, 2, none⟩ = some (.string (e 0).s) ∧ w.cell? ⟨E, 3, none⟩ = some (.int .i64 (e 1).k) ∧ w.cell? ⟨E, 4, none⟩ = some (.int .i64 (e 1).n) ∧ w.cell? ⟨E, 5, none⟩ = some (.string (e 1).s) ∧ w.cell? ⟨E, 6, none⟩ = some (.int .i64 (e 2).k) ∧ w.cell? ⟨E, 7, none⟩ = some (.int .i64 (e 2).n) ∧ w.cell? ⟨E, 8, none⟩ = some (.string (e 2).s) ∧ w.cell? ⟨E, 9, none⟩ = some (.int .i64 (e 3).k) ∧ w.cell? ⟨E, 10, none⟩ = some (.int .i64 (e 3).n) ∧ w.cell? ⟨E, 11, none⟩ = some (.string (e 3).s) := by
  obtain ⟨d0, d1, d2, d3, d4, d5, d6, d7, d8, d9, d10, d11, d12, d13, d14, d15⟩ := h1
  obtain ⟨g0, g1, g2, g3, g4, g5, g6, g7, g8, g9, g10, g11⟩ := ecells h2
  exact ⟨d0, d1, d2, d3, d4, d5, d6, d7, d8, d9, d10, d11, d12, d13, d14, d15, g0, g1, g2, g3, g4, g5, g6, g7, g8, g9, g10, g11⟩

def filterHas (fs : List (Nat → SetM)) (e : Nat → ValM) : Bool := fs.any fun s => boxHas s e

set_option maxHeartbeats 4000000 in
set_option maxRecDepth 100000 in
theorem filterhas_any (A : Option Addr) (n c : Nat) (fs : List (Nat → SetM)) (e : Nat → ValM) (w : World) (hf : FilterR w A n fs) :
    Calls Try.prog 14 #[.slice A n c, .agg #[.int .i64 (e 0).k, .int .i64 (e 0).n, .string (e 0).s, .int .i64 (e 1).k, .int .i64 (e 1).n, .string (e 1).s, .int .i64 (e 2).k, .int .i64 (e 2).n, .string (e 2).s, .int .i64 (e 3).k, .int .i64 (e 3).n, .string (e 3).s]] w fun e' w' => e' = .returned (.bool (filterHas fs e)) ∧ Below w.heap.size w w' := by
  have HF := hide hf
  have hn63 := hf.2.1
  clear hf
  go_enter Try.func14, Try.ntmps14
  go_wp2_with fail
  go_loopg [5] n (fun q i wr => ∃ j : Nat, i = .int .i64 j ∧ j ≤ n ∧ q + j = n ∧ Below w.heap.size w wr ∧ wr.heap[w.heap.size]? = some (.cells #[.int .i64 (e 0).k, .int .i64 (e 0).n, .string (e 0).s, .int .i64 (e 1).k, .int .i64 (e 1).n, .string (e 1).s, .int .i64 (e 2).k, .int .i64 (e 2).n, .string (e 2).s, .int .i64 (e 3).k, .int .i64 (e 3).n, .string (e 3).s] 32 (0, 0)) ∧ filterHas (fs.take j) e = false)
  case atStart => exact ⟨0, rfl, by omega, by omega, (Below.refl _ _).alloc (Nat.le_refl _) _, bk_new _ _, rfl⟩
  case round =>
    obtain ⟨j, rfl, hj, hq, hB, hE, hno⟩ := hrel
    have hz := bk_lt hE
    have HE := hide hE
    have HNO := hide hno
    have hz0 := hB.size
    clear hE hno
    by_cases hlt : j < n
    · obtain ⟨hlen, _, hrd⟩ := HF.out
      obtain ⟨b, off, rfl, hbl, hcell⟩ := hrd (by omega)
      obtain ⟨s, hri⟩ : ∃ r, fs[j]? = some r := ⟨_, List.getElem?_eq_getElem (by omega)⟩
      obtain ⟨v, hbc, hsr⟩ := hcell j _ hri
      have BC := hide (hbc.below hB hbl)
      have HS0 := hide (box_and BC.out HE.out)
      have HSR : Hid (∀ j, j < 4 → SetR wr.drew (v j) (s j)) := fun j hj => (hsr j hj).below hB.drew
      have hmem := List.mem_of_getElem? hri
      have hyes : boxHas s e = true → filterHas fs e = true := fun h => List.any_eq_true.2 ⟨_, hmem, h⟩
      have hstep : boxHas s e = false → filterHas (fs.take (j + 1)) e = false := fun h => by
        have hj' : j < fs.length := by omega
        unfold filterHas
        rw [List.take_succ_eq_append_getElem hj', List.any_append]
        have h0 := HNO.out
        unfold filterHas at h0
        rw [h0]
        have : fs[j] = s := by rw [List.getElem?_eq_getElem hj'] at hri; exact Option.some.inj hri
        rw [this]
        simp [h]
      have HY := hide hyes
      have HST := hide hstep
      have hlti : (j : Int) < n := by omega
      have hbw : b < wr.heap.size := by omega
      clear hcell hri hlen hrd hsr hbc hmem hyes hstep
      go_wp2_with fail
      go_region_held3 (fun w' => w'.cell? ⟨b, off + j * 16, none⟩ = some (.bool (s 0).a) ∧ w'.cell? ⟨b, off + j * 16 + 1, none⟩ = some (.slice (v 0).A (v 0).n (v 0).c) ∧ w'.cell? ⟨b, off + j * 16 + 2, none⟩ = some (.bool (s 0).co) ∧ w'.cell? ⟨b, off + j * 16 + 3, none⟩ = some (.slice (v 0).B (v 0).m (v 0).d) ∧ w'.cell? ⟨b, off + j * 16 + 4, none⟩ = some (.bool (s 1).a) ∧ w'.cell? ⟨b, off + j * 16 + 5, none⟩ = some (.slice (v 1).A (v 1).n (v 1).c) ∧ w'.cell? ⟨b, off + j * 16 + 6, none⟩ = some (.bool (s 1).co) ∧ w'.cell? ⟨b, off + j * 16 + 7, none⟩ = some (.slice (v 1).B (v 1).m (v 1).d) ∧ w'.cell? ⟨b, off + j * 16 + 8, none⟩ = some (.bool (s 2).a) ∧ w'.cell? ⟨b, off + j * 16 + 9, none⟩ = some (.slice (v 2).A (v 2).n (v 2).c) ∧ w'.cell? ⟨b, off + j * 16 + 10, none⟩ = some (.bool (s 2).co) ∧ w'.cell? ⟨b, off + j * 16 + 11, none⟩ = some (.slice (v 2).B (v 2).m (v 2).d) ∧ w'.cell? ⟨b, off + j * 16 + 12, none⟩ = some (.bool (s 3).a) ∧ w'.cell? ⟨b, off + j * 16 + 13, none⟩ = some (.slice (v 3).A (v 3).n (v 3).c) ∧ w'.cell? ⟨b, off + j * 16 + 14, none⟩ = some (.bool (s 3).co) ∧ w'.cell? ⟨b, off + j * 16 + 15, none⟩ = some (.slice (v 3).B (v 3).m (v 3).d) ∧ w'.cell? ⟨w.heap.size, 0, none⟩ = some (.int .i64 (e 0).k) ∧ w'.cell? ⟨w.heap.size, 1, none⟩ = some (.int .i64 (e 0).n) ∧ w'.cell? ⟨w.heap.size, 2, none⟩ = some (.string (e 0).s) ∧ w'.cell? ⟨w.heap.size, 3, none⟩ = some (.int .i64 (e 1).k) ∧ w'.cell? ⟨w.heap.size, 4, none⟩ = some (.int .i64 (e 1).n) ∧ w'.cell? ⟨w.heap.size, 5, none⟩ = some (.string (e 1).s) ∧ w'.cell? ⟨w.heap.size, 6, none⟩ = some (.int .i64 (e 2).k) ∧ w'.cell? ⟨w.heap.size, 7, none⟩ = some (.int .i64 (e 2).n) ∧ w'.cell? ⟨w.heap.size, 8, none⟩ = some (.string (e 2).s) ∧ w'.cell? ⟨w.heap.size, 9, none⟩ = some (.int .i64 (e 3).k) ∧ w'.cell? ⟨w.heap.size, 10, none⟩ = some (.int .i64 (e 3).n) ∧ w'.cell? ⟨w.heap.size, 11, none⟩ = some (.string (e 3).s)) (first | exact HS0.out | exact S1) (first | (go_at_call 27; refine (boxhas_any s v e _ HSR.out).mono ?_; rintro e' w3 ⟨rfl, hb3⟩; have E3 := hide (bk_below (bk_drew HE.out) hb3); have S1 := box_and (BoxC.below BC.out ((Below.refl wr.heap.size wr).drew.trans hb3) hbw) E3.out))
      have B3 : Below w.heap.size w w3 := below_step hB.drew hz0 hb3
      cases hh : boxHas s e with
      | false =>
        have HH := hide (HST.out hh)
        clear hh
        go_wp2_with fail
        go_roundg (n - (j + 1))
        case measure => omega
        case rel => exact ⟨j + 1, by go_num, by omega, by omega, B3, E3.out, HH.out⟩
      | true =>
        have HH := hide (HY.out hh)
        clear hh
        go_wp2_with fail
        go_ret
        exact ⟨ret_bool HH.out.symm, B3⟩
    · have hlti : ¬ (j : Int) < n := by omega
      go_wp2_with fail
      go_ret
      refine ⟨ret_bool ?_, hB⟩
      have h1 := HNO.out
      rw [List.take_of_length_le (by have := HF.out.1; omega)] at h1
      exact h1.symm

def emptyM (s : SetM) : Bool := !s.a && (decide (s.ints.length = 0) && (!s.co && decide (s.strs.length = 0)))
set_option maxHeartbeats 1000000 in
theorem empty03_any (s : SetM) (A : Option Addr) (n1 c1 : Nat) (B : Option Addr) (n2 c2 : Nat) (w : World) (hA : s.ints.length = n1) (hB : s.strs.length = n2) : Calls Try.prog 35 #[.agg #[.bool s.a, .slice A n1 c1, .bool s.co, .slice B n2 c2]] w fun e w' => e = .returned (.bool (emptyM s)) ∧ Below w.heap.size w w' := by
  obtain ⟨a, rs, co, ss⟩ := s
  have HM : Hid (emptyM ⟨a, rs, co, ss⟩ = (!a && (decide (n1 = 0) && (!co && decide (n2 = 0))))) := by
    show _ = _
    simp only at hA hB
    unfold emptyM; rw [hA, hB]
  clear hA hB
  cases a
  · by_cases h1 : n1 = 0
    · have h1' : ((n1 : Int) == 0) = true := by simp [h1]
      have H1 := hide h1
      clear h1
      cases co
      · by_cases h2 : n2 = 0
        · have h2' : ((n2 : Int) == 0) = true := by simp [h2]
          have H2 := hide h2
          clear h2
          go_enter Try.func35, Try.ntmps35
          go_wp2
          go_ret
          exact ⟨ret_bool (by rw [HM.out]; simp [H1.out, H2.out]), (Below.refl _ _).alloc (Nat.le_refl _) _⟩
        · have h2' : ((n2 : Int) == 0) = false := by rw [beq_eq_false_iff_ne]; omega
          have H2 := hide h2
          clear h2
          go_enter Try.func35, Try.ntmps35
          go_wp2
          go_ret
          exact ⟨ret_bool (by rw [HM.out]; simp [H1.out, H2.out]), (Below.refl _ _).alloc (Nat.le_refl _) _⟩
      · go_enter Try.func35, Try.ntmps35
        go_wp2
        go_ret
        exact ⟨ret_bool (by rw [HM.out]; simp), (Below.refl _ _).alloc (Nat.le_refl _) _⟩
    · have h1' : ((n1 : Int) == 0) = false := by rw [beq_eq_false_iff_ne]; omega
      have H1 := hide h1
      clear h1
      go_enter Try.func35, Try.ntmps35
      go_wp2
      go_ret
      exact ⟨ret_bool (by rw [HM.out]; simp [H1.out]), (Below.refl _ _).alloc (Nat.le_refl _) _⟩
  · go_enter Try.func35, Try.ntmps35
    go_wp2
    go_ret
    exact ⟨ret_bool (by rw [HM.out]; rfl), (Below.refl _ _).alloc (Nat.le_refl _) _⟩

/-- A box that has an empty set. -/
def boxEmpty (s : Nat → SetM) : Bool := !all4 fun j => !emptyM (s j)
theorem boxEmpty_iff (s : Nat → SetM) : boxEmpty s = true ↔ ∃ j, j < 4 ∧ emptyM (s j) = true := by
  unfold boxEmpty
  rw [Bool.not_eq_true', ← Bool.not_eq_true, all4_iff]
  constructor
  · intro h
    rcases Classical.em (∃ j, j < 4 ∧ emptyM (s j) = true) with h1 | h1
    · exact h1
    · exact absurd (fun j hj => by cases h2 : emptyM (s j) with
        | false => rfl
        | true => exact absurd ⟨j, hj, h2⟩ h1) h
  · rintro ⟨j, hj, he⟩ h
    have := h j hj
    rw [he] at this; simp at this

set_option maxHeartbeats 4000000 in
set_option maxRecDepth 100000 in
theorem empty04_any (s : Nat → SetM) (v : Nat → SetV) (w : World) (hs : ∀ j, j < 4 → SetR w (v j) (s j)) : Calls Try.prog 28 #[.agg #[.bool (s 0).a, .slice (v 0).A (v 0).n (v 0).c, .bool (s 0).co, .slice (v 0).B (v 0).m (v 0).d, .bool (s 1).a, .slice (v 1).A (v 1).n (v 1).c, .bool (s 1).co, .slice (v 1).B (v 1).m (v 1).d, .bool (s 2).a, .slice (v 2).A (v 2).n (v 2).c, .bool (s 2).co, .slice (v 2).B (v 2).m (v 2).d, .bool (s 3).a, .slice (v 3).A (v 3).n (v 3).c, .bool (s 3).co, .slice (v 3).B (v 3).m (v 3).d]] w fun e w' => e = .returned (.bool (boxEmpty s)) ∧ Below w.heap.size w w' := by
  have HS := hide hs
  clear hs
  go_enter Try.func28, Try.ntmps28
  go_wp2_with fail
  go_loopg [3] 4 (fun q i wr => ∃ j : Nat, i = .int .i64 j ∧ j ≤ 4 ∧ q + j = 4 ∧ Below w.heap.size w wr ∧ wr.heap[w.heap.size]? = some (.cells #[.bool (s 0).a, .slice (v 0).A (v 0).n (v 0).c, .bool (s 0).co, .slice (v 0).B (v 0).m (v 0).d, .bool (s 1).a, .slice (v 1).A (v 1).n (v 1).c, .bool (s 1).co, .slice (v 1).B (v 1).m (v 1).d, .bool (s 2).a, .slice (v 2).A (v 2).n (v 2).c, .bool (s 2).co, .slice (v 2).B (v 2).m (v 2).d, .bool (s 3).a, .slice (v 3).A (v 3).n (v 3).c, .bool (s 3).co, .slice (v 3).B (v 3).m (v 3).d] 28 (0, 0)) ∧ ∀ t, t < j → emptyM (s t) = false)
  case atStart => exact ⟨0, rfl, by omega, by omega, (Below.refl _ _).alloc (Nat.le_refl _) _, bk_new _ _, fun t h => absurd h (by omega)⟩
  case round =>
    obtain ⟨j, rfl, hj, hq, hB, hX, hno⟩ := hrel
    have hz := bk_lt hX
    have hz0 := hB.size
    have HX := hide hX
    have HNO := hide hno
    clear hX hno
    by_cases hlt : j < 4
    · have hjj : j = 0 ∨ j = 1 ∨ j = 2 ∨ j = 3 := by omega
      rcases hjj with rfl | rfl | rfl | rfl
      · obtain ⟨x0, x1, x2, x3⟩ := bc0 HX.out
        have SR := hide (HS.out 0 (by omega))
        go_wp2_with fail
        refine (empty03_any (s 0) _ _ _ _ _ _ _ SR.out.i.1 SR.out.t.1).mono ?_
        rintro e' w3 ⟨rfl, hb3⟩
        have B3 := below_step hB hz0 hb3
        have X3 := hide (bk_below HX.out hb3)
        cases hm : emptyM (s 0) with
        | true =>
          have HM := hide ((boxEmpty_iff s).2 ⟨0, by omega, hm⟩)
          clear hm
          go_wp2_with fail
          go_ret
          exact ⟨ret_bool HM.out.symm, B3⟩
        | false =>
          have HM := hide hm
          clear hm
          go_wp2_with fail
          go_roundg (4 - (0 + 1))
          case measure => omega
          case rel =>
            refine ⟨0 + 1, by go_num, by omega, by omega, B3, X3.out, fun t ht => ?_⟩
            rcases Nat.lt_or_ge t 0 with h | h
            · exact HNO.out t h
            · have : t = 0 := by omega
              rw [this]; exact HM.out
      · obtain ⟨x0, x1, x2, x3⟩ := bc1 HX.out
        have SR := hide (HS.out 1 (by omega))
        go_wp2_with fail
        refine (empty03_any (s 1) _ _ _ _ _ _ _ SR.out.i.1 SR.out.t.1).mono ?_
        rintro e' w3 ⟨rfl, hb3⟩
        have B3 := below_step hB hz0 hb3
        have X3 := hide (bk_below HX.out hb3)
        cases hm : emptyM (s 1) with
        | true =>
          have HM := hide ((boxEmpty_iff s).2 ⟨1, by omega, hm⟩)
          clear hm
          go_wp2_with fail
          go_ret
          exact ⟨ret_bool HM.out.symm, B3⟩
        | false =>
          have HM := hide hm
          clear hm
          go_wp2_with fail
          go_roundg (4 - (1 + 1))
          case measure => omega
          case rel =>
            refine ⟨1 + 1, by go_num, by omega, by omega, B3, X3.out, fun t ht => ?_⟩
            rcases Nat.lt_or_ge t 1 with h | h
            · exact HNO.out t h
            · have : t = 1 := by omega
              rw [this]; exact HM.out
      · obtain ⟨x0, x1, x2, x3⟩ := bc2 HX.out
        have SR := hide (HS.out 2 (by omega))
        go_wp2_with fail
        refine (empty03_any (s 2) _ _ _ _ _ _ _ SR.out.i.1 SR.out.t.1).mono ?_
        rintro e' w3 ⟨rfl, hb3⟩
        have B3 := below_step hB hz0 hb3
        have X3 := hide (bk_below HX.out hb3)
        cases hm : emptyM (s 2) with
        | true =>
          have HM := hide ((boxEmpty_iff s).2 ⟨2, by omega, hm⟩)
          clear hm
          go_wp2_with fail
          go_ret
          exact ⟨ret_bool HM.out.symm, B3⟩
        | false =>
          have HM := hide hm
          clear hm
          go_wp2_with fail
          go_roundg (4 - (2 + 1))
          case measure => omega
          case rel =>
            refine ⟨2 + 1, by go_num, by omega, by omega, B3, X3.out, fun t ht => ?_⟩
            rcases Nat.lt_or_ge t 2 with h | h
            · exact HNO.out t h
            · have : t = 2 := by omega
              rw [this]; exact HM.out
      · obtain ⟨x0, x1, x2, x3⟩ := bc3 HX.out
        have SR := hide (HS.out 3 (by omega))
        go_wp2_with fail
        refine (empty03_any (s 3) _ _ _ _ _ _ _ SR.out.i.1 SR.out.t.1).mono ?_
        rintro e' w3 ⟨rfl, hb3⟩
        have B3 := below_step hB hz0 hb3
        have X3 := hide (bk_below HX.out hb3)
        cases hm : emptyM (s 3) with
        | true =>
          have HM := hide ((boxEmpty_iff s).2 ⟨3, by omega, hm⟩)
          clear hm
          go_wp2_with fail
          go_ret
          exact ⟨ret_bool HM.out.symm, B3⟩
        | false =>
          have HM := hide hm
          clear hm
          go_wp2_with fail
          go_roundg (4 - (3 + 1))
          case measure => omega
          case rel =>
            refine ⟨3 + 1, by go_num, by omega, by omega, B3, X3.out, fun t ht => ?_⟩
            rcases Nat.lt_or_ge t 3 with h | h
            · exact HNO.out t h
            · have : t = 3 := by omega
              rw [this]; exact HM.out
    · have hj4 : j = 4 := by omega
      subst hj4
      go_wp2_with fail
      go_ret
      refine ⟨ret_bool ?_, hB⟩
      unfold boxEmpty
      rw [(all4_iff _).2 (fun j hj => by rw [HNO.out j hj]; rfl)]; rfl
end Go.Proofs.Ytfhokhhpfdmfiaa
