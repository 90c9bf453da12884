/- The reference's Uint, Int and Str return the same bytes as the program's. -/
import Derived.Test.YthijblakadifiaaDig
namespace Go.Proofs.Ythijblakadifiaa
open Go.RowKit

def up (c : UInt8) : UInt8 := c + 128
theorem up_ofNat (n : Nat) : up (UInt8.ofNat n) = UInt8.ofNat (n + 128) := by
  unfold up; rw [UInt8.ofNat_add]; rfl
theorem hi_dgs (m : Nat) : 0 < m → hi m = (dgs m).map up := by
  induction m using Nat.strongRecOn with
  | _ m ih =>
    intro h
    rw [hi_pos m h]
    by_cases h1 : m < 128
    · rw [dgs_low m h1, show m / 128 = 0 by omega, hi_zero, show m % 128 = m by omega]
      simp [up_ofNat]
    · rw [dgs_high m h1, ih (m / 128) (by omega) (by omega)]
      simp [up_ofNat]
theorem dgs_pos (m : Nat) : 0 < (dgs m).length := by
  by_cases h : m < 128
  · rw [dgs_low m h]; simp
  · rw [dgs_high m h]; simp
/-- The digits, the first k of them with 128 added. -/
def mix (D : List UInt8) (k : Nat) : List UInt8 := (D.take k).map up ++ D.drop k
theorem mix_len (D : List UInt8) (k : Nat) : (mix D k).length = D.length := by simp [mix]; omega
theorem mix_get (D : List UInt8) (k : Nat) (h : k < D.length) : (mix D k)[k]? = some D[k] := by
  unfold mix
  rw [List.getElem?_append_right (by simp; omega)]
  simp [Nat.min_eq_left (Nat.le_of_lt h)]
theorem mix_set (D : List UInt8) (k : Nat) (h : k < D.length) : (mix D k).set k (up D[k]) = mix D (k + 1) := by
  have e1 : mix D k = (D.take k).map up ++ D[k] :: D.drop (k + 1) := by unfold mix; rw [List.drop_eq_getElem_cons h]
  have e2 : ((D.take k).map up).length = k := by simp; omega
  rw [e1, List.set_append_right _ _ (by omega), e2, Nat.sub_self, List.set_cons_zero]
  unfold mix
  rw [List.take_succ_eq_append_getElem h, List.map_append, List.append_assoc]
  rfl
theorem mix_end (N : Nat) : mix (dgs N) ((dgs N).length - 1) = enc N := by
  by_cases h : N < 128
  · rw [dgs_low N h]
    unfold enc mix
    rw [show N / 128 = 0 by omega, hi_zero, show N % 128 = N by omega]; rfl
  · rw [dgs_high N h]
    unfold enc mix
    rw [hi_dgs (N / 128) (by omega)]
    simp
theorem u8s_set (l : List UInt8) (k : Nat) (c : UInt8) : (u8s l).set k (.int .u8 (c.toNat : Int)) = u8s (l.set k c) := by
  unfold u8s; rw [List.map_set]

theorem conv_row (g : Nat) (l : List UInt8) (L cap : Nat) (hL : L = l.length) (w : World) (cu : Array Value) (hb : w.heap[g]? = some (.cells cu 5 (0, 0))) (ht : cu.toList.take L = u8s l) : (convert 49 9 (.slice (some ⟨g, 0, none⟩) L cap)).run Try.prog w = .ok (.string (bs l)) w := by
  rw [run_convert_bytes_arg (P := Try.prog) w 49 5 Try.underlying49 Try.underlying5 g 0 L cap (l.map fun c => (c.toNat : Int)) (by simp; omega) (fun i hi => by
    rw [bk_cell hb, Nat.zero_add, ← Array.getElem?_toList, ← List.getElem?_take_of_lt (show i < L from hi), ht]
    have : i < l.length := by omega
    unfold u8s
    simp [this]) 9 Try.underlying9]
  congr 2
  unfold strOfNums bs
  congr 1
  apply congrArg List.toArray
  rw [List.map_map]
  refine Eq.trans (List.map_congr_left (g := id) fun c _ => ?_) (List.map_id l)
  simp
set_option maxHeartbeats 400000 in
set_option maxRecDepth 100000 in
theorem refuint_any (N : Nat) (hN : N ≤ 18446744073709551615) (w : World) : Calls Try.prog 11 #[.int .u64 (N : Int)] w fun e w' => e = .returned (.string (bs (enc N))) ∧ Below w.heap.size w w' := by
  have hl := dgs_len 10 N (by omega)
  have hp := dgs_pos N
  generalize hL : (dgs N).length = L at *
  have HL := hide hL
  clear hL
  go_enter Try.func11, Try.ntmps11
  go_wp2_with fail
  refine (digits_any N hN w).mono ?_
  rintro e w1 ⟨v, rfl, ho, hb⟩
  rw [HL.out] at ho
  obtain ⟨g, cap, cur, rfl, hg, hh, hnc, hcm, hcs, hct⟩ : ∃ g cap cur, v = .slice (some ⟨g, 0, none⟩) L cap ∧ w.heap.size ≤ g ∧ w1.heap[g]? = some (.cells cur 5 (0, 0)) ∧ L ≤ cap ∧ cap ≤ maxLen ∧ cur.size = cap * 1 ∧ cur.toList.take (L * 1) = u8s (dgs N) := by
    rcases ho.2 with ⟨_, h0⟩ | h
    · omega
    · exact h
  clear ho
  have HH := hide hh
  have HC := hide (And.intro hcs hct)
  clear hh hcs hct
  go_wp2_with fail
  go_loopg [4] L (fun q i wr => ∃ (k : Nat) (cu : Array Value), i = .int .i64 k ∧ k + 1 ≤ L ∧ q + k = L ∧ cu.size = cap ∧ wr.heap[g]? = some (.cells cu 5 (0, 0)) ∧ cu.toList.take L = u8s (mix (dgs N) k) ∧ Below w.heap.size w wr)
  case atStart =>
    refine ⟨0, cur, rfl, hp, by omega, by have := HC.out.1; omega, HH.out, ?_, hb⟩
    have := HC.out.2
    rw [Nat.mul_one] at this
    rw [this]; simp [mix]
  case round =>
    obtain ⟨k, cu, rfl, hk, hq, hcu, hcells, htake, hB⟩ := hrel
    have HD := hide (And.intro hcells (And.intro htake hcu))
    clear hcells htake hcu
    by_cases hlt : k + 1 < L
    · have hkL : k < (dgs N).length := by rw [HL.out]; omega
      have hck : cu[k]? = some (.int .u8 ((dgs N)[k].toNat : Int)) := by
        have h1 : (cu.toList.take L)[k]? = cu.toList[k]? := List.getElem?_take_of_lt (by omega)
        rw [HD.out.2.1] at h1
        rw [← Array.getElem?_toList, ← h1]
        unfold u8s
        rw [List.getElem?_map, mix_get _ _ hkL]; rfl
      have hc := (bk_cell HD.out.1 k).trans hck
      have hf := bk_frozen HD.out.1 k
      have hb8 := (dgs N)[k].toNat_lt
      generalize hy : (dgs N)[k] = y at *
      have HY := hide hy
      clear hy hck
      go_wp2_with fail
      go_roundg (L - (k + 1))
      case measure => omega
      case rel =>
        refine ⟨k + 1, cu.setIfInBounds k (.int .u8 ((up y).toNat : Int)), by go_num, by omega, by omega, by simp [HD.out.2.2], ?_, ?_, hB.setCell (by simpa using hg) _⟩
        · have e1 : ((y.toNat : Int) + 128) % 256 = ((up y).toNat : Int) := by
            unfold up; simp
          rw [e1]
          exact bk_set HD.out.1 k _
        · have h1 := HD.out.2.1
          rw [Array.toList_setIfInBounds, List.take_set, h1, u8s_set, ← HY.out, mix_set _ _ hkL]
    · have hkk : k + 1 = L := by omega
      have hkq : k = L - 1 := by omega
      have htk := HD.out.2.1
      rw [hkq, ← HL.out, mix_end] at htk
      have hcv := conv_row g (enc N) L cap (by rw [HL.out] at htk; have := congrArg List.length htk; simp [u8s] at this; have := HD.out.2.2; omega) wr cu HD.out.1 (by rw [← HL.out]; exact htk)
      have hlt2 : ¬ ((k : Int) < (L : Int) - 1) := by omega
      clear hkk hkq htk
      go_wp2_with fail
      go_ret
      exact ⟨rfl, hB⟩
set_option maxHeartbeats 400000 in
theorem refint_any (n : Int) (h0 : -9223372036854775808 ≤ n) (hn : n ≤ 9223372036854775807) (w : World) : Calls Try.prog 13 #[.int .i64 n] w fun e w' => e = .returned (.string (bs (enc (foldZ n)))) ∧ Below w.heap.size w w' := by
  have hz := foldZ_le n h0 hn
  have hcall := refuint_any (foldZ n) hz w
  by_cases hneg : 0 ≤ n
  · have e2 : ((foldZ n : Nat) : Int) = 2 * n := by unfold foldZ; rw [if_neg (by omega)]; omega
    rw [e2] at hcall
    have H := hide hcall
    clear e2 hcall
    go_enter Try.func13, Try.ntmps13
    go_wp2_with fail
    refine H.out.mono ?_
    rintro e w1 ⟨rfl, hb⟩
    go_wp2_with fail
    go_ret
    exact ⟨rfl, hb⟩
  · have e2 : ((foldZ n : Nat) : Int) = 2 * (-1 - n) + 1 := by unfold foldZ; rw [if_pos (by omega)]; omega
    rw [e2] at hcall
    have H := hide hcall
    clear e2 hcall
    go_enter Try.func13, Try.ntmps13
    go_wp2_with fail
    refine H.out.mono ?_
    rintro e w1 ⟨rfl, hb⟩
    go_wp2_with fail
    go_ret
    exact ⟨rfl, hb⟩
set_option maxHeartbeats 400000 in
theorem refstr_any (s : ByteArray) (hs : s.size ≤ 4611686018427387903) (w : World) : Calls Try.prog 15 #[.string s] w fun e w' => e = .returned (.string (bs (enc s.size) ++ s)) ∧ Below w.heap.size w w' := by
  have hl := enc_len s.size (by omega)
  have hl2 : (bs (enc s.size)).size ≤ 10 := by rw [bs_size]; exact hl
  go_enter Try.func15, Try.ntmps15
  go_wp2_with fail
  refine (refuint_any s.size (by omega) w).mono ?_
  rintro e w1 ⟨rfl, hb⟩
  go_wp2_with fail
  go_ret
  exact ⟨by simp, hb⟩
end Go.Proofs.Ythijblakadifiaa
