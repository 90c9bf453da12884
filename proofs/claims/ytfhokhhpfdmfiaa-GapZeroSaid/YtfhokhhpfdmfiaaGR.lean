/- arbourref06.Right: it ends, with some Bool. -/
import Derived.Test.YtfhokhhpfdmfiaaGT
namespace Go.Proofs.Ytfhokhhpfdmfiaa
open Go.RowKit
set_option linter.unusedVariables false

set_option maxHeartbeats 4000000 in
set_option maxRecDepth 100000 in
theorem right06_any (A : Option Addr) (n c : Nat) (fs : List (Nat → SetM)) (w : World) (hf : FilterR w A n fs) (hn : n ≤ 20) (hs : ∀ s, s ∈ fs → ∀ j, j < 4 → ShortM (s j)) : Calls Try.prog 9 #[.slice A n c] w (SomeB w) := by
  have HF := hide hf
  have HSH := hide hs
  have hn63 := hf.2.1
  clear hf hs
  go_enter Try.func9, Try.ntmps9
  go_wp2_with fail
  go_loopg [3] n (fun q i wr => ∃ j : Nat, i = .int .i64 j ∧ j ≤ n ∧ q + j = n ∧ Below w.heap.size w wr)
  case atStart => exact ⟨0, rfl, by omega, by omega, Below.refl _ _⟩
  case round =>
    obtain ⟨j, rfl, hj, hq, hB⟩ := hrel
    by_cases hlt : j < n
    · obtain ⟨hlen, _, hrd⟩ := HF.out
      obtain ⟨b, off, rfl, hbl, hcell⟩ := hrd (by omega)
      obtain ⟨s, hri⟩ : ∃ r, fs[j]? = some r := ⟨_, List.getElem?_eq_getElem (by omega)⟩
      obtain ⟨v, hbc, hsr⟩ := hcell j _ hri
      have BC := hide (hbc.below hB hbl)
      have HSR : Hid (∀ k, k < 4 → SetR wr (v k) (s k)) := hide (fun k hk => (hsr k hk).below hB)
      have hlti : (j : Int) < n := by omega
      have hzw := hB.size
      clear hcell hri hrd hsr hbc hlen
      obtain ⟨d0, d1, d2, d3, d4, d5, d6, d7, d8, d9, d10, d11, d12, d13, d14, d15⟩ := BC.out
      go_wp2_with fail
      refine (right04_any s v _ HSR.out).mono ?_
      rintro e' w3 ⟨⟨r, rfl⟩, hb3⟩
      have B3 : Below w.heap.size w w3 := below_step hB hzw hb3
      have hz3 := B3.size
      cases r
      · clear d0 d1 d2 d3 d4 d5 d6 d7 d8 d9 d10 d11 d12 d13 d14 d15
        go_wp2_with fail
        go_ret
        exact ⟨⟨_, rfl⟩, B3⟩
      · obtain ⟨e0, e1, e2, e3, e4, e5, e6, e7, e8, e9, e10, e11, e12, e13, e14, e15⟩ := BC.out.below hb3 (by omega)
        have HSR3 : Hid (∀ k, k < 4 → SetR w3 (v k) (s k)) := hide (fun k hk => (HSR.out k hk).below hb3)
        clear d0 d1 d2 d3 d4 d5 d6 d7 d8 d9 d10 d11 d12 d13 d14 d15
        go_wp2_with fail
        refine (small04_any s v _ HSR3.out).mono ?_
        rintro e' w4 ⟨⟨r, rfl⟩, hb4⟩
        have B4 : Below w.heap.size w w4 := below_step B3 hz3 hb4
        clear e0 e1 e2 e3 e4 e5 e6 e7 e8 e9 e10 e11 e12 e13 e14 e15
        cases r
        · go_wp2_with fail
          go_ret
          exact ⟨⟨_, rfl⟩, B4⟩
        · go_wp2_with fail
          go_roundg (n - (j + 1))
          case measure => omega
          case rel => exact ⟨j + 1, by go_num, by omega, by omega, B4⟩
    · have hlti : ¬ (j : Int) < n := by omega
      by_cases h4 : n ≤ 4
      · have h4' : (n : Int) ≤ 4 := by omega
        have HF2 := hide (HF.out.below hB)
        go_wp2_with fail
        refine (tidy_any A n c fs _ HF2.out hn HSH.out).mono ?_
        rintro e' w3 ⟨⟨A2, n2, c2, rfl⟩, hb3⟩
        have B3 : Below w.heap.size w w3 := below_step hB hB.size hb3
        go_wp2_with fail
        go_ret
        exact ⟨⟨_, rfl⟩, B3⟩
      · have h4' : ¬ (n : Int) ≤ 4 := by omega
        go_wp2_with fail
        go_ret
        exact ⟨⟨_, rfl⟩, hB⟩
end Go.Proofs.Ytfhokhhpfdmfiaa
