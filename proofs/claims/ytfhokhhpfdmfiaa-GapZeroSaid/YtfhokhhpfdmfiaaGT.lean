/- arbourref06.Tidy: it ends, with some slice. -/
import Derived.Test.YtfhokhhpfdmfiaaGB
import Derived.Test.YtfhokhhpfdmfiaaG9
namespace Go.Proofs.Ytfhokhhpfdmfiaa
open Go.RowKit PGapZero Go.Proofs.YtfhokhhpfdmfiaaW.PrintWords
set_option linter.unusedVariables false

def SomeSlice (w : World) (e : Ending) (w' : World) : Prop := (∃ A n c, e = .returned (.slice A n c)) ∧ Below w.heap.size w w'
theorem own_bel {w w1 : World} {base : Nat} {e : TypeId} {size n : Nat} {v : Value} {xs : List Value} (h : w.ownsRow base e size v n xs) (hb : Below w.heap.size w w1) : w1.ownsRow base e size v n xs :=
  own_move h (fun k hk => hb.block k (own_lt h k hk))
theorem own_slice {w : World} {base : Nat} {e : TypeId} {size n : Nat} {v : Value} {xs : List Value} (h : w.ownsRow base e size v n xs) : ∃ A c, v = .slice A n c := by
  rcases h.2 with ⟨rfl, hn⟩ | ⟨g, cap, cur, rfl, _⟩
  · first | (subst hn; exact ⟨_, _, rfl⟩) | (obtain ⟨rfl, _⟩ := hn; exact ⟨_, _, rfl⟩) | (have := hn.1; subst this; exact ⟨_, _, rfl⟩)
  · exact ⟨_, _, rfl⟩
set_option maxHeartbeats 8000000 in
set_option maxRecDepth 100000 in
theorem tidy_any (A : Option Addr) (n c : Nat) (fs : List (Nat → SetM)) (w : World) (hf : FilterR w A n fs) (hn : n ≤ 20) (hs : ∀ s, s ∈ fs → ∀ j, j < 4 → ShortM (s j)) : Calls Try.prog 23 #[.slice A n c] w (SomeSlice w) := by
  have HF := hide hf
  have HSH := hide hs
  have hn63 := hf.2.1
  obtain ⟨i0, hi, hz0, hz1, hz2⟩ := info_parts info28
  have HI := hide (And.intro hi (And.intro hz0 (And.intro hz1 hz2)))
  clear hf hs hi hz0 hz1 hz2
  go_enter Try.func23, Try.ntmps23
  go_wp2_with fail
  go_loopg [3, 4] n (fun q ou i wr => ∃ j : Nat, i = .int .i64 j ∧ j ≤ n ∧ q + j = n ∧ Below w.heap.size w wr ∧ ∃ (m : Nat) (xs : List Value), m ≤ j ∧ Hid (wr.ownsRow w.heap.size 28 16 ou m xs))
  case atStart => exact ⟨0, rfl, by omega, by omega, Below.refl _ _, 0, [], by omega, hide (World.ownsRow_nil _ _ _ _)⟩
  case round =>
    obtain ⟨j, rfl, hj, hq, hB, m, xs, hm, HO⟩ := hrel
    by_cases hlt : j < n
    · obtain ⟨hlen, _, hrd⟩ := HF.out
      obtain ⟨b, off, rfl, hbl, hcell⟩ := hrd (by omega)
      have HCELL := hide hcell
      obtain ⟨s, hri⟩ : ∃ r, fs[j]? = some r := ⟨_, List.getElem?_eq_getElem (by omega)⟩
      obtain ⟨v, hbc, hsr⟩ := hcell j _ hri
      have BC := hide (hbc.below hB hbl)
      have HSR : Hid (∀ k, k < 4 → SetR wr (v k) (s k)) := hide (fun k hk => (hsr k hk).below hB)
      have HSS : Hid (∀ k, k < 4 → ShortM (s k)) := hide (HSH.out s (List.mem_of_getElem? hri))
      have hlti : (j : Int) < n := by omega
      have hzw := hB.size
      have HLEN := hide hlen
      clear hcell hri hrd hsr hbc hlen
      obtain ⟨d0, d1, d2, d3, d4, d5, d6, d7, d8, d9, d10, d11, d12, d13, d14, d15⟩ := BC.out
      go_wp2_with fail
      refine (empty04_any s v _ HSR.out).mono ?_
      rintro e' w3 ⟨rfl, hb3⟩
      have B3 : Below w.heap.size w w3 := below_step hB hzw hb3
      have hz3 := hb3.size
      have BC3 := hide (BC.out.below hb3 (by omega))
      have O3 := hide (own_bel HO.out hb3)
      have HSR3 : Hid (∀ k, k < 4 → SetR w3 (v k) (s k)) := hide (fun k hk => (HSR.out k hk).below hb3)
      generalize boxEmpty s = em at *
      clear d0 d1 d2 d3 d4 d5 d6 d7 d8 d9 d10 d11 d12 d13 d14 d15 BC HO HSR hB hb3 
      go_wp2_with fail
      go_loopg [5, 6] n (fun q kp k2 wr => ∃ (bb : Bool) (k : Nat), kp = .bool bb ∧ k2 = .int .i64 k ∧ k ≤ n ∧ q + k = n ∧ Below w3.heap.size w3 wr)
      case atStart => exact ⟨_, 0, rfl, rfl, by omega, by omega, Below.refl _ _⟩
      case round =>
        obtain ⟨bb, k, rfl, rfl, hk, hq2, hB2⟩ := hrel
        have hz4 := hB2.size
        by_cases hlt2 : k < n
        · have hlti2 : (k : Int) < n := by omega
          by_cases hkj : k = j
          · subst hkj
            go_upto_region 9 with fail
            refine reg9_same b off n c k k hlt hlt2 (.bool false) (.bool false) wr _ bb (by simp) _ _ _ _ _ _ _ _ _ _ _ _ _ _ _ _ _ _ _ _ _ _ _ _ _ _ _ _ _ _ _ _ _ _ _ _ _ _ _ _ _ _ _ _ _ _ _ _ _ _ _ _ _ _ _ _ _ _ _ _ _ _ _ _ ?_
            intro _ _ _ _ _ _ _ _ _ _ _ _ _ _ _ _ _ _ _ _ _ _ _ _ _ _ _ _ _ _ _ _ _ w5 hB5
            have B5 : Below w3.heap.size w3 w5 := below_step hB2 hz4 hB5
            go_wp2_with fail
            go_roundg (n - (k + 1))
            case measure => omega
            case rel => exact ⟨_, k + 1, rfl, by go_num, by omega, by omega, B5⟩
          · have hne : (!((k : Int) == (j : Int))) = true := by
              rw [Bool.not_eq_true', beq_eq_false_iff_ne]; omega
            cases bb
            · go_upto_region 9 with fail
              refine reg9_off b off n c j k hlt hlt2 (.bool false) (.bool false) wr _ hne _ _ _ _ _ _ _ _ _ _ _ _ _ _ _ _ _ _ _ _ _ _ _ _ _ _ _ _ _ _ _ _ _ _ _ _ _ _ _ _ _ _ _ _ _ _ _ _ _ _ _ _ _ _ _ _ _ _ _ _ _ _ _ _ ?_
              intro _ _ _ _ _ _ _ _ _ _ _ _ _ _ _ _ _ _ _ _ _ _ _ _ _ _ _ _ _ _ _ _ _ w5 hB5
              have B5 : Below w3.heap.size w3 w5 := below_step hB2 hz4 hB5
              clear hne
              go_wp2_with fail
              go_roundg (n - (k + 1))
              case measure => omega
              case rel => exact ⟨_, k + 1, rfl, by go_num, by omega, by omega, B5⟩
            · obtain ⟨t, hrt⟩ : ∃ r, fs[k]? = some r := ⟨_, List.getElem?_eq_getElem (by have := HLEN.out; omega)⟩
              obtain ⟨u, hbt, hst⟩ := HCELL.out k _ hrt
              have HTT : Hid (∀ k, k < 4 → ShortM (t k)) := hide (HSH.out t (List.mem_of_getElem? hrt))
              have HST : Hid (∀ k, k < 4 → SetR w3 (u k) (t k)) := hide (fun k hk => (hst k hk).below B3)
              have BT3 := hide (hbt.below B3 hbl)
              have hbw3 : b < w3.heap.size := by omega
              have HSX : Hid (∀ w', Below wr.heap.size wr w' → (Instr.loadAt 28 (.pointer (some ⟨b, off + j * 16, none⟩))).run Try.prog w' = .ok (.agg ⟨boxVals s v⟩) w' ∧ (Instr.loadAt 28 (.pointer (some ⟨b, off + k * 16, none⟩))).run Try.prog w' = .ok (.agg ⟨boxVals t u⟩) w') := hide (fun w' hb => by
                have hbb := below_step hB2 hz4 hb
                exact ⟨load_boxC (BC3.out.below hbb hbw3), load_boxC (BT3.out.below hbb hbw3)⟩)
              have C1 : Hid (∀ w', Below wr.heap.size wr w' → Calls Try.prog 15 #[.agg ⟨boxVals s v⟩, .agg ⟨boxVals t u⟩] w' fun e' w6 => e' = .returned (.bool (boxInB s t)) ∧ Below w'.heap.size w' w6) := hide (fun w' hb => by
                have hbb := below_step hB2 hz4 hb
                exact in04_any s v t u w' (fun k hk => (HSR3.out k hk).below hbb) (fun k hk => (HST.out k hk).below hbb) HSS.out HTT.out)
              have C2 : Hid (∀ w', Below wr.heap.size wr w' → Calls Try.prog 15 #[.agg ⟨boxVals t u⟩, .agg ⟨boxVals s v⟩] w' fun e' w6 => e' = .returned (.bool (boxInB t s)) ∧ Below w'.heap.size w' w6) := hide (fun w' hb => by
                have hbb := below_step hB2 hz4 hb
                exact in04_any t u s v w' (fun k hk => (HST.out k hk).below hbb) (fun k hk => (HSR3.out k hk).below hbb) HTT.out HSS.out)
              clear hrt hbt hst
              generalize boxInB s t = r1 at C1
              generalize boxInB t s = r2 at C2
              have HNE := hide hne
              clear hne
              cases r1
              · go_upto_region 9 with fail
                refine reg9_no b off n c j k hlt hlt2 (.agg ⟨boxVals s v⟩) (.agg ⟨boxVals t u⟩) wr _ HSX.out HNE.out C1.out _ _ _ _ _ _ _ _ _ _ _ _ _ _ _ _ _ _ _ _ _ _ _ _ _ _ _ _ _ _ _ _ _ _ _ _ _ _ _ _ _ _ _ _ _ _ _ _ _ _ _ _ _ _ _ _ _ _ _ _ _ _ _ _ ?_
                intro _ _ _ _ _ _ _ _ _ _ _ _ _ _ _ _ _ _ _ _ _ _ _ _ _ _ _ _ _ _ _ _ _ w5 hB5
                have B5 : Below w3.heap.size w3 w5 := below_step hB2 hz4 hB5
                go_wp2_with fail
                go_roundg (n - (k + 1))
                case measure => omega
                case rel => exact ⟨_, k + 1, rfl, by go_num, by omega, by omega, B5⟩
              · by_cases hlj : k < j
                · have HLJ := hide (show decide ((k : Int) < (j : Int)) = true by rw [decide_eq_true_eq]; omega)
                  go_upto_region 9 with fail
                  refine reg9_yes b off n c j k hlt hlt2 (.agg ⟨boxVals s v⟩) (.agg ⟨boxVals t u⟩) wr _ HSX.out HNE.out C1.out HLJ.out _ _ _ _ _ _ _ _ _ _ _ _ _ _ _ _ _ _ _ _ _ _ _ _ _ _ _ _ _ _ _ _ _ _ _ _ _ _ _ _ _ _ _ _ _ _ _ _ _ _ _ _ _ _ _ _ _ _ _ _ _ _ _ _ ?_
                  intro _ _ _ _ _ _ _ _ _ _ _ _ _ _ _ _ _ _ _ _ _ _ _ _ _ _ _ _ _ _ _ _ _ w5 hB5
                  have B5 : Below w3.heap.size w3 w5 := below_step hB2 hz4 hB5
                  go_wp2_with fail
                  go_roundg (n - (k + 1))
                  case measure => omega
                  case rel => exact ⟨_, k + 1, rfl, by go_num, by omega, by omega, B5⟩
                · have HLJ := hide (show decide ((k : Int) < (j : Int)) = false by rw [decide_eq_false_iff_not]; omega)
                  go_upto_region 9 with fail
                  refine reg9_two b off n c j k hlt hlt2 (.agg ⟨boxVals s v⟩) (.agg ⟨boxVals t u⟩) wr _ HSX.out HNE.out C1.out HLJ.out r2 C2.out _ _ _ _ _ _ _ _ _ _ _ _ _ _ _ _ _ _ _ _ _ _ _ _ _ _ _ _ _ _ _ _ _ _ _ _ _ _ _ _ _ _ _ _ _ _ _ _ _ _ _ _ _ _ _ _ _ _ _ _ _ _ _ _ ?_
                  intro _ _ _ _ _ _ _ _ _ _ _ _ _ _ _ _ _ _ _ _ _ _ _ _ _ _ _ _ _ _ _ _ _ w5 hB5
                  have B5 : Below w3.heap.size w3 w5 := below_step hB2 hz4 hB5
                  cases r2
                  · go_wp2_with fail
                    go_roundg (n - (k + 1))
                    case measure => omega
                    case rel => exact ⟨_, k + 1, rfl, by go_num, by omega, by omega, B5⟩
                  · go_wp2_with fail
                    go_roundg (n - (k + 1))
                    case measure => omega
                    case rel => exact ⟨_, k + 1, rfl, by go_num, by omega, by omega, B5⟩
        · have hlti2 : ¬ (k : Int) < n := by omega
          have B4 : Below w.heap.size w wr := below_step B3 B3.size hB2
          have O4 := hide (own_bel O3.out hB2)
          cases bb
          · go_wp2_with fail
            go_roundg (n - (j + 1))
            case measure => omega
            case rel => exact ⟨j + 1, by go_num, by omega, by omega, B4, m, xs, by omega, O4⟩
          · have BC4 := hide (BC3.out.below hB2 (by omega))
            obtain ⟨d0, d1, d2, d3, d4, d5, d6, d7, d8, d9, d10, d11, d12, d13, d14, d15⟩ := BC4.out
            have OA := hide (O4.out.alloc (.cells #[.bool (s 0).a, .slice (v 0).A (v 0).n (v 0).c, .bool (s 0).co, .slice (v 0).B (v 0).m (v 0).d, .bool (s 1).a, .slice (v 1).A (v 1).n (v 1).c, .bool (s 1).co, .slice (v 1).B (v 1).m (v 1).d, .bool (s 2).a, .slice (v 2).A (v 2).n (v 2).c, .bool (s 2).co, .slice (v 2).B (v 2).m (v 2).d, .bool (s 3).a, .slice (v 3).A (v 3).n (v 3).c, .bool (s 3).co, .slice (v 3).B (v 3).m (v 3).d] 28))
            have hz5 := B4.size
            go_wp2_with (at_builtin; refine wpList_append_own _ rfl _ _ 22 rfl w.heap.size 28 i0 _ 16 256 Try.underlying22 HI.out.1 HI.out.2.1 HI.out.2.2.1 HI.out.2.2.2 rfl (by decide) _ _ _ rfl OA.out ⟨wr.heap.size, 0, none⟩ 1 1 (boxVals s v) rfl rfl ?c1 ?c2 ?c3 ?c4 ?c5 ?_)
            case c1 => exact fun j u h => h
            case c2 => exact boxVals_one s v
            case c3 => unfold maxLen; omega
            case c4 => omega
            case c5 => first | omega | (simp; omega)
            intro v' w7 ho7 hg7 _
            have B7 : Below w.heap.size w w7 := (B4.alloc hz5 (.cells #[.bool (s 0).a, .slice (v 0).A (v 0).n (v 0).c, .bool (s 0).co, .slice (v 0).B (v 0).m (v 0).d, .bool (s 1).a, .slice (v 1).A (v 1).n (v 1).c, .bool (s 1).co, .slice (v 1).B (v 1).m (v 1).d, .bool (s 2).a, .slice (v 2).A (v 2).n (v 2).c, .bool (s 2).co, .slice (v 2).B (v 2).m (v 2).d, .bool (s 3).a, .slice (v 3).A (v 3).n (v 3).c, .bool (s 3).co, .slice (v 3).B (v 3).m (v 3).d] 28)).trans ⟨hg7.os, hg7.tape, hg7.output, hg7.size, fun k hk => hg7.block k (by simp; omega) (fun e => by have := (O4.out.lt k e.symm).1; omega)⟩
            have HO7 := hide ho7
            clear ho7 hg7 d0 d1 d2 d3 d4 d5 d6 d7 d8 d9 d10 d11 d12 d13 d14 d15
            go_wp2_with fail
            go_roundg (n - (j + 1))
            case measure => omega
            case rel => exact ⟨j + 1, by go_num, by omega, by omega, B7, m + 1, xs ++ boxVals s v, by omega, HO7⟩
    · have hlti : ¬ (j : Int) < n := by omega
      obtain ⟨Ao, co, rfl⟩ := own_slice HO.out
      go_wp2_with fail
      go_ret
      exact ⟨⟨_, _, _, rfl⟩, hB⟩
end Go.Proofs.Ytfhokhhpfdmfiaa
