/- Expressions, without memory: what the reference's Count, Deep, Few and Fits come to; what is right. -/
import Derived.Test.YtjkhajcngapjcaaEV
import Derived.Test.YtjkhajcngapjcaaQF
namespace Go.Proofs.Ytjkhajcngapjcaa.Q
open Go.RowKit Go.Proofs.YtjkhajcngapjcaaW.PrintWords
set_option linter.unusedVariables false
set_option linter.unusedSimpArgs false

theorem sz_pos (x : S28) : 1 ≤ sz x := by rw [sz_eq]; omega
theorem dp_pos (x : S28) : 1 ≤ dp x := by rw [dp_eq]; omega
/-- Count of a tree, from a depth on. -/
def cnt (x : S28) (d : Nat) : Int := if d + dp x ≤ 21 ∧ sz x ≤ 100 then (sz x : Int) else 100
def cntL (l : List S28) (n : Nat) (d : Nat) : Int := if d + 1 + dpL l ≤ 21 ∧ n + szL l ≤ 100 then ((n + szL l : Nat) : Int) else 100
theorem szL_drop (l : List S28) (i : Nat) (h : i < l.length) : szL (l.drop i) = sz (rd_T28 l (i : Int)) + szL (l.drop (i + 1)) := by rw [drop28 l i h]; rfl
theorem dpL_drop (l : List S28) (i : Nat) (h : i < l.length) : dpL (l.drop i) = max (dp (rd_T28 l (i : Int))) (dpL (l.drop (i + 1))) := by rw [drop28 l i h]; rfl
theorem rd28_in (l : List S28) (i : Nat) (h : i < l.length) : rd_T28 l (i : Int) ∈ l := by rw [rd28_mem l i h]; exact List.getElem_mem h
theorem szL_at (l : List S28) (i : Nat) (h : i < l.length) : sz (rd_T28 l (i : Int)) + l.length ≤ szL l + 1 := by
  have h1 : ∀ (j : Nat), j ≤ i → szL (l.drop j) + j ≤ szL l := by
    intro j
    induction j with
    | zero => intro _; simp
    | succ j ih =>
      intro hj
      have := ih (by omega)
      rw [szL_drop l j (by omega)] at this
      have := sz_pos (rd_T28 l (j : Int))
      omega
  have := h1 i (Nat.le_refl _)
  rw [szL_drop l i h] at this
  have h2 := szL_length (l.drop (i + 1))
  rw [List.length_drop] at h2
  omega
theorem szL_nil : szL [] = 0 := rfl
theorem dpL_nil : dpL [] = 0 := rfl
attribute [local irreducible] sz szL dp dpL
theorem cnt_yes {x : S28} {d : Nat} (h : d + dp x ≤ 21) (h2 : sz x ≤ 100) : cnt x d = (sz x : Int) := by unfold cnt; rw [if_pos ⟨h, h2⟩]
theorem cnt_no {x : S28} {d : Nat} (h : ¬ (d + dp x ≤ 21 ∧ sz x ≤ 100)) : cnt x d = 100 := by unfold cnt; rw [if_neg h]
theorem cntL_yes {l : List S28} {n d : Nat} (h : d + 1 + dpL l ≤ 21) (h2 : n + szL l ≤ 100) : cntL l n d = ((n + szL l : Nat) : Int) := by unfold cntL; rw [if_pos ⟨h, h2⟩]
theorem cntL_no {l : List S28} {n d : Nat} (h : ¬ (d + 1 + dpL l ≤ 21 ∧ n + szL l ≤ 100)) : cntL l n d = 100 := by unfold cntL; rw [if_neg h]
theorem mn_yes {a b : Int} (h : a ≤ b) : mn a b = a := by unfold mn; split <;> omega
theorem mn_no {a b : Int} (h : b ≤ a) : mn a b = b := by unfold mn; split <;> omega
theorem mx_max (a b : Int) : mx a b = max a b := by unfold mx; split <;> omega
theorem mn_min (a b : Int) : mn a b = min a b := by unfold mn; split <;> omega
theorem cntL_nil (n d : Nat) (hd : d ≤ 20) (h1 : 1 ≤ n) : mn (n : Int) 100 = cntL [] n d := by
  by_cases h : n ≤ 100
  · rw [mn_yes (by omega), cntL_yes (by rw [dpL_nil]; omega) (by rw [szL_nil]; omega), szL_nil]; rfl
  · rw [mn_no (by omega), cntL_no (by rw [szL_nil]; omega)]
theorem cntL_big {l : List S28} {n d : Nat} (h : 100 < n + szL l) : cntL l n d = 100 := cntL_no (by omega)
theorem cntL_cons (l : List S28) (i n d c : Nat) (hi : i < l.length) (hc : cnt (rd_T28 l (i : Int)) (d + 1) = (c : Int)) (h1 : 1 ≤ n) : cntL (l.drop (i + 1)) (n + c) d = cntL (l.drop i) n d := by
  have a1 := szL_drop l i hi
  have a2 := dpL_drop l i hi
  generalize rd_T28 l (i : Int) = y at *
  generalize l.drop i = l0 at *
  generalize l.drop (i + 1) = l1 at *
  by_cases hg : d + 1 + dp y ≤ 21 ∧ sz y ≤ 100
  · rw [cnt_yes hg.1 hg.2] at hc
    have hcs : c = sz y := by omega
    by_cases hh : d + 1 + dpL l0 ≤ 21 ∧ n + szL l0 ≤ 100
    · rw [cntL_yes hh.1 hh.2, cntL_yes (by omega) (by omega)]; congr 1; omega
    · rw [cntL_no hh, cntL_no (by omega)]
  · rw [cnt_no hg] at hc
    rw [cntL_no (by omega), cntL_no (by omega)]
theorem cnt_of (x : S28) (d : Nat) (hd : d ≤ 20) : cntL x.f3 1 d = cnt x d := by
  have e1 := sz_eq x
  have e2 := dp_eq x
  generalize x.f3 = l at *
  by_cases hh : d + 1 + dpL l ≤ 21 ∧ 1 + szL l ≤ 100
  · rw [cntL_yes hh.1 hh.2, cnt_yes (by omega) (by omega)]; congr 1; omega
  · rw [cntL_no hh, cnt_no (by omega)]
theorem cnt_nat (x : S28) (d : Nat) : ∃ c : Nat, cnt x d = (c : Int) ∧ 1 ≤ c ∧ c ≤ 100 := by
  by_cases hg : d + dp x ≤ 21 ∧ sz x ≤ 100
  · exact ⟨sz x, cnt_yes hg.1 hg.2, sz_pos x, hg.2⟩
  · exact ⟨100, cnt_no hg, by omega, by omega⟩
theorem wrap_add (n c : Nat) (h : n + c ≤ 140737488355328) : wrap64 ((n : Int) + (c : Int)) = ((n + c : Nat) : Int) := by
  unfold wrap64
  omega
theorem wrap_one {n : Int} (h : -10 ≤ n) (h2 : n ≤ 1000) : wrap64 (n + 1) = n + 1 := by
  unfold wrap64
  omega
theorem count_f (m : Nat) : ∀ (x : S28) (d k : Nat), sz x = m → d ≤ 21 → 2 * sz x + 2 ≤ k → arbourref05_Count.f k x.f0 x.f1 x.f2.f0 x.f2.f1 x.f2.f2 x.f2.f3 x.f3 (d : Int) = some (cnt x d) := by
  induction m using Nat.strongRecOn with
  | _ m ih =>
  intro x d k hm hd hk
  obtain ⟨k, rfl⟩ : ∃ q, k = q + 1 := ⟨k - 1, by omega⟩
  simp only [arbourref05_Count.f]
  by_cases h20 : (d : Int) > 20
  · rw [if_pos h20]
    have := dp_pos x
    rw [cnt_no (by omega)]
  · rw [if_neg h20]
    have e3 := szL_length x.f3
    have e1 := sz_eq x
    have hlt : ∀ y, y ∈ x.f3 → sz y < m := fun y hy => by rw [← hm]; exact sub_lt hy
    have hat : ∀ i, i < x.f3.length → 2 * (sz (rd_T28 x.f3 (i : Int)) + x.f3.length) ≤ 2 * m := fun i hi => by have := szL_at x.f3 i hi; omega
    have hm1 : x.f3.length + 1 ≤ m := by omega
    rw [hm] at hk
    have hco := cnt_of x d (by omega)
    clear e1 e3 hm
    have key : ∀ (q i n K : Nat), i + q = x.f3.length → 1 ≤ n → i + 1 ≤ n → n ≤ 200 → i ≤ 100 → 2 * m + 1 ≤ K + i → arbourref05_Count.l0 K (d : Int) (n : Int) (i : Int) x.f0 x.f1 x.f2.f0 x.f2.f1 x.f2.f2 x.f2.f3 x.f3 = some (cntL (x.f3.drop i) n d) := by
      intro q
      induction q with
      | zero =>
        intro i n K hi h1 hin h2 hi100 hK
        obtain ⟨K, rfl⟩ : ∃ q, K = q + 1 := ⟨K - 1, by omega⟩
        simp only [arbourref05_Count.l0]
        rw [if_neg (by omega), List.drop_of_length_le (by omega), cntL_nil n d (by omega) h1]
      | succ q ihq =>
        intro i n K hi h1 hin h2 hi100 hK
        obtain ⟨K, rfl⟩ : ∃ q, K = q + 1 := ⟨K - 1, by omega⟩
        simp only [arbourref05_Count.l0]
        have hil : i < x.f3.length := by omega
        have b := hat i hil
        rw [if_pos (by omega)]
        by_cases h100 : (n : Int) < 100
        · rw [if_pos h100, if_pos (by omega)]
          have hI := ih (sz (rd_T28 x.f3 (i : Int))) (hlt _ (rd28_in x.f3 i hil)) (rd_T28 x.f3 (i : Int)) (d + 1) K rfl (by omega) (by omega)
          obtain ⟨c, ec, c1, c100⟩ := cnt_nat (rd_T28 x.f3 (i : Int)) (d + 1)
          have hcc := cntL_cons x.f3 i n d c hil ec h1
          have hq := ihq (i + 1) (n + c) K (by omega) (by omega) (by omega) (by omega) (by omega) (by omega)
          have hwi : wrap64 ((i : Int) + 1) = ((i + 1 : Nat) : Int) := wrap_nat (by omega)
          have hw2 : wrap64 ((n : Int) + (c : Int)) = ((n + c : Nat) : Int) := wrap_add n c (by omega)
          have hw : wrap64 ((d : Int) + 1) = ((d + 1 : Nat) : Int) := wrap_nat (by omega)
          rw [hw, hI, Option.bind_some, hwi, ec, hw2, hq, hcc]
        · rw [if_neg h100]
          have a1 := szL_drop x.f3 i hil
          have hp := sz_pos (rd_T28 x.f3 (i : Int))
          rw [mn_no (by omega), cntL_big (by omega)]
    have hk2 := key x.f3.length 0 1 k (by omega) (by omega) (by omega) (by omega) (by omega) (by omega)
    rw [List.drop_zero, hco] at hk2
    exact hk2
theorem deep_f (m : Nat) : ∀ (x : S28) (d k : Nat), sz x = m → d ≤ 21 → 2 * sz x + 2 ≤ k → ∃ r : Int, arbourref05_Deep.f k x.f0 x.f1 x.f2.f0 x.f2.f1 x.f2.f2 x.f2.f3 x.f3 (d : Int) = some r ∧ 0 ≤ r ∧ r ≤ 20 ∧ (d + dp x ≤ 21 → sz x ≤ 100 → r = min (dp x : Int) 20) := by
  induction m using Nat.strongRecOn with
  | _ m ih =>
  intro x d k hm hd hk
  obtain ⟨k, rfl⟩ : ∃ q, k = q + 1 := ⟨k - 1, by omega⟩
  simp only [arbourref05_Deep.f]
  by_cases h20 : (d : Int) > 20
  · rw [if_pos h20]
    have := dp_pos x
    exact ⟨20, rfl, by omega, by omega, by omega⟩
  · rw [if_neg h20]
    have e3 := szL_length x.f3
    have e1 := sz_eq x
    have e2 := dp_eq x
    have hlt : ∀ y, y ∈ x.f3 → sz y < m := fun y hy => by rw [← hm]; exact sub_lt hy
    have hat : ∀ i, i < x.f3.length → 2 * (sz (rd_T28 x.f3 (i : Int)) + x.f3.length) ≤ 2 * m := fun i hi => by have := szL_at x.f3 i hi; omega
    have hm1 : x.f3.length + 1 ≤ m := by omega
    rw [hm] at hk
    have key : ∀ (q i : Nat) (n : Int) (K : Nat), i + q = x.f3.length → 0 ≤ n → n ≤ 20 → i ≤ 100 → 2 * m + 1 ≤ K + i → ∃ r : Int, arbourref05_Deep.l0 K (d : Int) n (i : Int) x.f0 x.f1 x.f2.f0 x.f2.f1 x.f2.f2 x.f2.f3 x.f3 = some r ∧ 0 ≤ r ∧ r ≤ 20 ∧ (d + 1 + dpL (x.f3.drop i) ≤ 21 → m ≤ 100 → r = min (max n (dpL (x.f3.drop i) : Int) + 1) 20) := by
      clear e1 e2 e3 hm
      intro q
      induction q with
      | zero =>
        intro i n K hi h1 h2 hi100 hK
        obtain ⟨K, rfl⟩ : ∃ q, K = q + 1 := ⟨K - 1, by omega⟩
        simp only [arbourref05_Deep.l0]
        rw [if_neg (by omega), List.drop_of_length_le (by omega), wrap_one (n := n) (by omega) (by omega), dpL_nil, mn_min]
        exact ⟨_, rfl, by omega, by omega, by omega⟩
      | succ q ihq =>
        intro i n K hi h1 h2 hi100 hK
        obtain ⟨K, rfl⟩ : ∃ q, K = q + 1 := ⟨K - 1, by omega⟩
        simp only [arbourref05_Deep.l0]
        have hil : i < x.f3.length := by omega
        have b := hat i hil
        rw [if_pos (by omega)]
        by_cases h100 : (i : Int) < 100
        · rw [if_pos h100, if_pos (by omega)]
          obtain ⟨r, er, r0, r20, hr⟩ := ih (sz (rd_T28 x.f3 (i : Int))) (hlt _ (rd28_in x.f3 i hil)) (rd_T28 x.f3 (i : Int)) (d + 1) K rfl (by omega) (by omega)
          have a2 := dpL_drop x.f3 i hil
          obtain ⟨s, es, s0, s20, hs⟩ := ihq (i + 1) (max n r) K (by omega) (by omega) (by omega) (by omega) (by omega)
          rw [show wrap64 ((d : Int) + 1) = ((d + 1 : Nat) : Int) from wrap_nat (by omega), er, Option.bind_some, show wrap64 ((i : Int) + 1) = ((i + 1 : Nat) : Int) from wrap_nat (by omega), mx_max]
          generalize dpL (x.f3.drop (i + 1)) = D1 at *
          generalize dpL (x.f3.drop i) = D0 at *
          generalize dp (rd_T28 x.f3 (i : Int)) = Dy at *
          generalize sz (rd_T28 x.f3 (i : Int)) = Sy at *
          refine ⟨s, es, s0, s20, ?_⟩
          intro g1 g2
          have hr' := hr (by omega) (by omega)
          have hs' := hs (by omega) g2
          rw [a2, hs', hr']
          omega
        · rw [if_neg h100]
          rw [wrap_one (n := n) (by omega) (by omega), mn_min]
          exact ⟨_, rfl, by omega, by omega, by omega⟩
    obtain ⟨r, er, r0, r20, hr⟩ := key x.f3.length 0 0 k (by omega) (by omega) (by omega) (by omega) (by omega)
    refine ⟨r, er, r0, r20, fun g1 g2 => ?_⟩
    rw [List.drop_zero] at hr
    have := hr (by omega) (by omega)
    rw [this, e2]
    omega
end Go.Proofs.Ytjkhajcngapjcaa.Q
