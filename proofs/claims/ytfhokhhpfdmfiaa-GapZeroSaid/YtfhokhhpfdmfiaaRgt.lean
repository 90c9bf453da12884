/- The references' Right and Small of sets and boxes: they return (whatever they answer). -/
import Derived.Test.YtfhokhhpfdmfiaaFew
namespace Go.Proofs.Ytfhokhhpfdmfiaa
open Go.RowKit

set_option maxHeartbeats 1000000 in
theorem small03_any (a co : Bool) (A : Option Addr) (n1 c1 : Nat) (B : Option Addr) (n2 c2 : Nat) (w : World) : Calls Try.prog 33 #[.agg #[.bool a, .slice A n1 c1, .bool co, .slice B n2 c2]] w (SomeB w) := by
  by_cases h1 : n1 ≤ 6
  · have h1' : (n1 : Int) ≤ 6 := by omega
    go_enter Try.func33, Try.ntmps33
    go_wp2
    go_ret
    exact ⟨⟨_, rfl⟩, (Below.refl _ _).alloc (Nat.le_refl _) _⟩
  · have h1' : ¬ (n1 : Int) ≤ 6 := by omega
    go_enter Try.func33, Try.ntmps33
    go_wp2
    go_ret
    exact ⟨⟨_, rfl⟩, (Below.refl _ _).alloc (Nat.le_refl _) _⟩

def PreR (l : List (Int × Int)) (j : Nat) : Prop := (∀ i p, i < j → l[i]? = some p → p.1 ≤ p.2) ∧ (∀ i p q, i + 1 < j → l[i]? = some p → l[i + 1]? = some q → p.2 + 1 < q.1)
theorem preR_step {l : List (Int × Int)} {j : Nat} {lo hi : Int} (h : PreR l j) (hj : l[j]? = some (lo, hi)) (h1 : lo ≤ hi) (h2 : ∀ i p, i + 1 = j → l[i]? = some p → p.2 + 1 < lo) : PreR l (j + 1) := by
  refine ⟨fun i p hi hp => ?_, fun i p q hi hp hq => ?_⟩
  · by_cases e : i = j
    · subst e
      obtain rfl := Option.some.inj (hj.symm.trans hp)
      exact h1
    · exact h.1 i p (by omega) hp
  · by_cases e : i + 1 = j
    · rw [e] at hq
      obtain rfl := Option.some.inj (hj.symm.trans hq)
      exact h2 i p e hp
    · exact h.2 i p q (by omega) hp hq
theorem preR_right {s : SetM} {n : Nat} (h : PreR s.ints n) (hl : s.ints.length = n) : RightM s := by
  refine ⟨fun p hp => ?_, fun i p q hp hq => ?_⟩
  · obtain ⟨i, hi⟩ := List.mem_iff_getElem?.1 hp
    exact h.1 i p (by rw [← hl]; exact (List.getElem?_eq_some_iff.1 hi).1) hi
  · exact h.2 i p q (by rw [← hl]; exact (List.getElem?_eq_some_iff.1 hq).1) hp hq
set_option maxHeartbeats 4000000 in
set_option maxRecDepth 100000 in
theorem right03_is (s : SetM) (A : Option Addr) (n1 c1 : Nat) (B : Option Addr) (n2 c2 : Nat) (w : World) (hA : RangesR w A n1 s.ints) (hB : StrsR w B n2 s.strs) : Calls Try.prog 25 #[.agg #[.bool s.a, .slice A n1 c1, .bool s.co, .slice B n2 c2]] w (SayB (RightM s) w) := by
  have HA := hide hA
  have HB := hide hB
  have hn1 := hA.2.1
  have hn2 := hB.2.1
  clear hA hB
  go_enter Try.func25, Try.ntmps25
  go_wp2_with fail
  go_loopg [3] n1 (fun q i wr => ∃ j : Nat, i = .int .i64 j ∧ j ≤ n1 ∧ q + j = n1 ∧ Hid (PreR s.ints j) ∧ Below w.heap.size w wr ∧ wr.heap[w.heap.size]? = some (.cells #[.bool s.a, .slice A n1 c1, .bool s.co, .slice B n2 c2] 26 (0, 0)))
  case atStart => exact ⟨0, rfl, by omega, by omega, hide ⟨fun i p hi => absurd hi (by omega), fun i p q hi => absurd hi (by omega)⟩, (Below.refl _ _).alloc (Nat.le_refl _) _, bk_new _ _⟩
  case round =>
    obtain ⟨j, rfl, hj, hq, HK, hBw, hS⟩ := hrel
    have HS := hide hS
    have hz0 := hBw.size
    have hz := bk_lt hS
    obtain ⟨x0, x1, x2, x3⟩ := scells hS
    clear hS x0 x2
    by_cases hlt : j < n1
    · obtain ⟨hlen, _, hrd⟩ := HA.out
      obtain ⟨b, off, rfl, hbl, hcell⟩ := hrd (by omega)
      obtain ⟨⟨lo, hi⟩, hri⟩ : ∃ r, s.ints[j]? = some r := ⟨_, List.getElem?_eq_getElem (by omega)⟩
      obtain ⟨c0, c1', i0, i1⟩ := hcell j _ hri
      obtain ⟨i00, i01⟩ := i0
      have d0 : wr.cell? ⟨b, off + j * 2, none⟩ = some (.int .i64 lo) := (hBw.cell (p := ⟨b, off + j * 2, none⟩) hbl).trans c0
      have d1 : wr.cell? ⟨b, off + j * 2 + 1, none⟩ = some (.int .i64 hi) := (hBw.cell (p := ⟨b, off + j * 2 + 1, none⟩) hbl).trans c1'
      have hlti : (j : Int) < n1 := by omega
      have HRI := hide hri
      clear c0 c1' hri i1
      by_cases hle : hi < lo
      · go_wp2_with fail
        go_ret
        exact ⟨⟨_, rfl, fun h => nomatch h⟩, hBw.alloc hz0 _⟩
      · by_cases hj0 : j = 0
        · subst hj0
          clear hcell
          simp only [Nat.zero_mul, Nat.add_zero] at d0 d1
          go_wp2_with fail
          go_quiet (fail)
          go_wp2_with fail
          go_roundg (n1 - 1)
          case measure => omega
          case rel => exact ⟨1, by go_num, by omega, by omega, hide (preR_step HK.out HRI.out (by omega) (fun i p e => absurd e (by omega))), below_drewN (hBw.alloc hz0 _) _, bk_alloc HS.out _⟩
        · obtain ⟨p, rfl⟩ : ∃ p, j = p + 1 := ⟨j - 1, by omega⟩
          obtain ⟨⟨plo, phi⟩, hrp⟩ : ∃ r, s.ints[p]? = some r := ⟨_, List.getElem?_eq_getElem (by omega)⟩
          obtain ⟨_, e1, _, ⟨ih0, ih1⟩⟩ := hcell p _ hrp
          have f1 : wr.cell? ⟨b, off + p * 2 + 1, none⟩ = some (.int .i64 phi) := (hBw.cell (p := ⟨b, off + p * 2 + 1, none⟩) hbl).trans e1
          have hjp : decide ((0 : Int) < (p : Int) + 1) = true := by rw [decide_eq_true_eq]; omega
          have hpn : (p : Int) < n1 := by omega
          have HRP := hide hrp
          clear hcell e1 hrp hj0
          have hw : IntKind.i64.wrap (p : Int) = p := by rw [IntKind.wrap_i64]; omega
          have hw0 : (0 : Int) ≤ p := by omega
          have hbw : b < wr.heap.size := by omega
          by_cases ht1 : lo ≤ phi
          · have ht1' : decide (lo ≤ phi) = true := by simpa using ht1
            go_wp2_with fail
            go_quiet (fail)
            clear hw hw0 
            go_wp2_with fail
            go_ret
            exact ⟨⟨_, rfl, fun h => nomatch h⟩, below_drewN (hBw.alloc hz0 _) _⟩
          · have ht1' : decide (lo ≤ phi) = false := by simpa using ht1
            have hw2 : IntKind.i64.wrap (phi + 1) = phi + 1 := by rw [IntKind.wrap_i64]; omega
            by_cases ht2 : lo ≤ phi + 1
            · have ht2' : decide (lo ≤ phi + 1) = true := by simpa using ht2
              go_wp2_with fail
              go_quiet (fail)
              clear hw hw0 hw2
              go_wp2_with fail
              go_ret
              exact ⟨⟨_, rfl, fun h => nomatch h⟩, below_drewN (hBw.alloc hz0 _) _⟩
            · have ht2' : decide (lo ≤ phi + 1) = false := by simpa using ht2
              go_wp2_with fail
              go_quiet (fail)
              clear hw hw0 hw2
              go_wp2_with fail
              go_roundg (n1 - (p + 2))
              case measure => omega
              case rel => exact ⟨p + 2, by go_num, by omega, by omega, hide (preR_step HK.out HRI.out (by omega) (fun i p' e h => by
                  obtain rfl : i = p := by omega
                  obtain rfl := Option.some.inj (HRP.out.symm.trans h)
                  show phi + 1 < lo
                  omega)), below_drewN (hBw.alloc hz0 _) _, bk_alloc HS.out _⟩
    · have hlti : ¬ (j : Int) < n1 := by omega
      go_wp2_with fail
      have HPr : Hid (RightM s) := hide (preR_right HK.out (by rw [HA.out.1]; omega))
      clear HA
      have B0 := hide hBw
      go_loopg [5] n2 (fun q i wr2 => ∃ t : Nat, i = .int .i64 t ∧ t ≤ n2 ∧ q + t = n2 ∧ ∃ m, wr2 = wr.drewN m)
      case atStart => exact ⟨0, rfl, by omega, by omega, 0, rfl⟩
      case round =>
        obtain ⟨t, rfl, ht, hq2, m, rfl⟩ := hrel
        by_cases hlt2 : t < n2
        · obtain ⟨hlen, _, hrd⟩ := HB.out
          obtain ⟨b, off, rfl, hbl, hcell⟩ := hrd (by omega)
          obtain ⟨y, hri⟩ : ∃ r, s.strs[t]? = some r := ⟨_, List.getElem?_eq_getElem (by omega)⟩
          have d0 : wr.cell? ⟨b, off + t, none⟩ = some (.string y) := (hBw.cell (p := ⟨b, off + t, none⟩) hbl).trans (hcell t _ hri)
          have hlti2 : (t : Int) < n2 := by omega
          clear hri
          by_cases l8 : 8 < y.size
          · have l8' : decide ((8 : Int) < y.size) = true := by simp; omega
            have l8'' : decide (8 < y.size) = true := by simp; omega
            clear hcell
            go_wp2_with fail
            go_quiet (fail)
            go_wp2_with fail
            go_ret
            exact ⟨⟨_, rfl, fun h => nomatch h⟩, by first | exact below_drewN hBw _ | exact below_drewN (below_drewN hBw _) _⟩
          · have l8' : decide ((8 : Int) < y.size) = false := by simp; omega
            have l8'' : decide (8 < y.size) = false := by simp; omega
            by_cases ht0 : t = 0
            · subst ht0
              clear hcell
              simp only [Nat.add_zero] at d0
              go_wp2_with fail
              go_quiet (fail)
              go_wp2_with fail
              go_roundg (n2 - 1)
              case measure => omega
              case rel => exact ⟨1, by go_num, by omega, by omega, _, by first | rfl | rw [World.drewN_drewN]⟩
            · obtain ⟨p, rfl⟩ : ∃ p, t = p + 1 := ⟨t - 1, by omega⟩
              obtain ⟨z, hrp⟩ : ∃ r, s.strs[p]? = some r := ⟨_, List.getElem?_eq_getElem (by omega)⟩
              have f1 : wr.cell? ⟨b, off + p, none⟩ = some (.string z) := (hBw.cell (p := ⟨b, off + p, none⟩) hbl).trans (hcell p _ hrp)
              have hjp : decide ((0 : Int) < (p : Int) + 1) = true := by rw [decide_eq_true_eq]; omega
              have hpn : (p : Int) < n2 := by omega
              have hw : IntKind.i64.wrap (p : Int) = p := by rw [IntKind.wrap_i64]; omega
              have hw0 : (0 : Int) ≤ p := by omega
              have hbw : b < wr.heap.size := by omega
              clear hcell hrp ht0
              cases hcmp : (!(Op.bytesLess z.toList y.toList)) with
              | true =>
                go_wp2_with fail
                go_quiet (fail)
                clear hw hw0
                go_wp2_with fail
                go_ret
                exact ⟨⟨_, rfl, fun h => nomatch h⟩, by first | exact below_drewN hBw _ | exact below_drewN (below_drewN hBw _) _⟩
              | false =>
                go_wp2_with fail
                go_quiet (fail)
                clear hw hw0
                go_wp2_with fail
                go_roundg (n2 - (p + 2))
                case measure => omega
                case rel => exact ⟨p + 2, by go_num, by omega, by omega, _, by first | rfl | rw [World.drewN_drewN]⟩
        · have hlti2 : ¬ (t : Int) < n2 := by omega
          go_wp2_with fail
          go_ret
          exact ⟨⟨_, rfl, fun _ => HPr.out⟩, by first | exact below_drewN hBw _ | exact below_drewN (below_drewN hBw _) _⟩
theorem right03_any (s : SetM) (A : Option Addr) (n1 c1 : Nat) (B : Option Addr) (n2 c2 : Nat) (w : World) (hA : RangesR w A n1 s.ints) (hB : StrsR w B n2 s.strs) : Calls Try.prog 25 #[.agg #[.bool s.a, .slice A n1 c1, .bool s.co, .slice B n2 c2]] w (SomeB w) :=
  (right03_is s A n1 c1 B n2 c2 w hA hB).mono (by rintro e w' ⟨⟨r, h1, -⟩, h2⟩; exact ⟨⟨r, h1⟩, h2⟩)
end Go.Proofs.Ytfhokhhpfdmfiaa
