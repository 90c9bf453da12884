/- gap.away, gap.Value, gap.Add, gap.Far: what they answer. -/
import Derived.Test.YtfhokhhpfdmfiaaHas
namespace Go.Proofs.Ytfhokhhpfdmfiaa
open Go.RowKit

def far : Nat := 18446744073709551615
/-- How far a number is from a range. -/
def awayM (r : Int × Int) (n : Int) : Nat := if n < r.1 then (r.1 - n).toNat else if r.2 < n then (n - r.2).toNat else 0
theorem awayM_le (r : Int × Int) (n : Int) (h1 : I64 r.1) (h2 : I64 r.2) (h3 : I64 n) : awayM r n ≤ 18446744073709551615 := by
  unfold awayM I64 at *; split
  · omega
  · split <;> omega
/-- How far a number is from ranges, some gone through already. -/
def stepG (n : Int) (near : Nat) (r : Int × Int) : Nat := if r.1 ≤ r.2 then min near (awayM r n) else near
def nearM (rs : List (Int × Int)) (n : Int) : Nat := rs.foldl (stepG n) far
/-- How far a value is from a set. -/
def valueM (s : SetM) (v : ValM) : Nat := if hasM s v = true then 0 else if v.k = 1 ∧ v.ok = true then nearM s.ints v.n else far
def addM (a b : Nat) : Nat := if far < a + b then far else a + b

set_option maxHeartbeats 1000000 in
theorem away_any (lo hi n : Int) (h1 : I64 lo) (h2 : I64 hi) (h3 : I64 n) (w : World) : Calls Try.prog 32 #[.agg #[.int .i64 lo, .int .i64 hi], .int .i64 n] w fun e w' => e = .returned (.int .u64 (awayM (lo, hi) n : Int)) ∧ Below w.heap.size w w' := by
  unfold I64 at h1 h2 h3
  obtain ⟨h10, h11⟩ := h1
  obtain ⟨h20, h21⟩ := h2
  obtain ⟨h30, h31⟩ := h3
  by_cases c1 : n < lo
  · go_enter Try.func32, Try.ntmps32
    go_wp2
    go_ret
    refine ⟨ret_int ?_, (Below.refl _ _).alloc (Nat.le_refl _) _⟩
    unfold awayM; rw [if_pos (by simpa using c1)]
    simp only [IntKind.wrap, IntKind.bits, IntKind.signed]
    simp
    omega
  · by_cases c2 : hi < n
    · go_enter Try.func32, Try.ntmps32
      go_wp2
      go_ret
      refine ⟨ret_int ?_, (Below.refl _ _).alloc (Nat.le_refl _) _⟩
      unfold awayM; rw [if_neg (by simp; omega), if_pos (by simp; omega)]
      simp only [IntKind.wrap, IntKind.bits, IntKind.signed]
      simp
      omega
    · go_enter Try.func32, Try.ntmps32
      go_wp2
      go_ret
      refine ⟨ret_int ?_, (Below.refl _ _).alloc (Nat.le_refl _) _⟩
      unfold awayM; rw [if_neg (by simp; omega), if_neg (by simp; omega)]
      rfl

set_option maxHeartbeats 1000000 in
set_option maxRecDepth 100000 in
theorem add_any (a b : Nat) (ha : a ≤ 18446744073709551615) (hb : b ≤ 18446744073709551615) (w : World) : Calls Try.prog 17 #[.int .u64 (a : Int), .int .u64 (b : Int)] w fun e w' => e = .returned (.int .u64 (addM a b : Int)) ∧ w = w' := by
  by_cases c : a + b ≤ 18446744073709551615
  · have h1 : ¬ ((18446744073709551615 : Int) - b < a) := by omega
    go_enter Try.func17, Try.ntmps17
    go_wp2
    go_ret
    exact ⟨ret_int (by unfold addM far; rw [if_neg (by omega)]; omega), rfl⟩
  · have h1 : (18446744073709551615 : Int) - b < a := by omega
    go_enter Try.func17, Try.ntmps17
    go_wp2
    go_ret
    exact ⟨ret_int (by unfold addM far; rw [if_pos (by omega)]; rfl), rfl⟩
set_option maxHeartbeats 400000 in
theorem far_any (w : World) : Calls Try.prog 21 #[] w fun e w' => e = .returned (.int .u64 18446744073709551615) ∧ w = w' := by
  go_enter Try.func21, Try.ntmps21
  go_wp2
  go_ret
  exact ⟨rfl, rfl⟩

theorem nearM_snoc (rs : List (Int × Int)) (n : Int) (r : Int × Int) : nearM (rs ++ [r]) n = stepG n (nearM rs n) r := by
  unfold nearM; rw [List.foldl_append]; rfl
theorem nearM_le (rs : List (Int × Int)) (n : Int) : nearM rs n ≤ far := by
  unfold nearM
  suffices h : ∀ x, x ≤ far → rs.foldl (stepG n) x ≤ far from h _ (Nat.le_refl _)
  induction rs with
  | nil => intro x h; exact h
  | cons r t ih =>
    intro x h
    refine ih _ ?_
    unfold stepG; split <;> omega
theorem valueM_le (s : SetM) (v : ValM) : valueM s v ≤ far := by
  unfold valueM; split
  · exact Nat.zero_le _
  · split
    · exact nearM_le _ _
    · exact Nat.le_refl _

set_option maxHeartbeats 2000000 in
set_option maxRecDepth 100000 in
theorem value_any (s : SetM) (v : ValM) (hn : I64 v.n) (A : Option Addr) (n1 c1 : Nat) (B : Option Addr) (n2 c2 : Nat) (w : World) (hA : RangesR w A n1 s.ints) (hB : StrsR w B n2 s.strs) : Calls Try.prog 19 #[.agg #[.bool s.a, .slice A n1 c1, .bool s.co, .slice B n2 c2], .agg #[.int .i64 v.k, .int .i64 v.n, .string v.s]] w fun e w' => e = .returned (.int .u64 (valueM s v : Int)) ∧ Below w.heap.size w w' := by
  obtain ⟨k, n, t⟩ := v
  have HA := hide hA
  have HB := hide hB
  have HN := hide hn
  have HHA : Hid (∀ o1 o2, RangesR ((w.alloc o1).alloc o2) A n1 s.ints) := fun o1 o2 => (HA.out.below ((Below.refl _ _).alloc (Nat.le_refl _) _)).below ((Below.refl _ _).alloc (Nat.le_refl _) _)
  have HHB : Hid (∀ o1 o2, StrsR ((w.alloc o1).alloc o2) B n2 s.strs) := fun o1 o2 => (HB.out.below ((Below.refl _ _).alloc (Nat.le_refl _) _)).below ((Below.refl _ _).alloc (Nat.le_refl _) _)
  have hn63 := hA.2.1
  clear hA hB hn
  by_cases h0 : hasM s ⟨k, n, t⟩ = true
  · have H0 := hide h0
    clear h0
    go_enter Try.func19, Try.ntmps19
    go_wp2_with fail
    refine (has_any s ⟨k, n, t⟩ A n1 c1 B n2 c2 _ (HHA.out _ _) (HHB.out _ _)).mono ?_
    rw [H0.out]
    rintro e w1 ⟨rfl, hb1⟩
    go_wp2_with fail
    go_ret
    refine ⟨ret_int ?_, below_step (((Below.refl _ _).alloc (Nat.le_refl _) _).alloc (by simp) _) (by simp; omega) hb1⟩
    unfold valueM; rw [if_pos H0.out]; rfl
  · have h1 : hasM s ⟨k, n, t⟩ = false := by simpa using h0
    have H0 := hide h1
    clear h0 h1
    by_cases hk : k = 1
    · subst hk
      by_cases hv : vRight 1 n t = true
      · have HV := hide hv
        clear hv
        have E : Hid (valueM s ⟨1, n, t⟩ = nearM s.ints n) := by
          show _ = _
          unfold valueM; rw [if_neg (by rw [H0.out]; simp), if_pos ⟨rfl, HV.out⟩]
        go_enter Try.func19, Try.ntmps19
        go_wp2_with fail
        refine (has_any s ⟨1, n, t⟩ A n1 c1 B n2 c2 _ (HHA.out _ _) (HHB.out _ _)).mono ?_
        rw [H0.out]
        rintro e w1 ⟨rfl, hb1⟩
        have B1 : Below w.heap.size w w1 := below_step (((Below.refl _ _).alloc (Nat.le_refl _) _).alloc (by simp) _) (by simp; omega) hb1
        have V := hide (bk_below (bk_new1 _ _ _) hb1)
        have S := hide (bk_below (bk_new0 _ _ _) hb1)
        obtain ⟨x0, x1, x2⟩ := vcells V.out
        go_wp2_with fail
        refine (vright_any _ _ _ _).mono ?_
        rw [HV.out]
        rintro e w2 ⟨rfl, hb2⟩
        have B2 := below_step B1 B1.size hb2
        have V2 := hide (bk_below V.out hb2)
        have S2 := hide (bk_below S.out hb2)
        clear x0 x1 x2 V S
        obtain ⟨y0, y1, y2, y3⟩ := scells S2.out
        have hz2 : w.heap.size + 1 < w2.heap.size := bk_lt V2.out
        go_wp2_with fail
        clear y0 y1 y2 y3
        go_loopg [5, 23] n1 (fun q m i wr => ∃ j : Nat, m = .int .u64 (nearM (s.ints.take j) n : Int) ∧ i = .int .i64 j ∧ j ≤ n1 ∧ q + j = n1 ∧ Below w2.heap.size w2 wr)
        case atStart => exact ⟨0, rfl, rfl, by omega, by omega, Below.refl _ _⟩
        case round =>
          obtain ⟨j, rfl, rfl, hj, hq, hB⟩ := hrel
          have hBw := below_step B2 B2.size hB
          have hsz := hB.size
          by_cases hlt : j < n1
          · obtain ⟨hlen, _, hrd⟩ := HA.out
            obtain ⟨b', off, rfl, hbl, hcell⟩ := hrd (by omega)
            obtain ⟨⟨lo, hi⟩, hri⟩ : ∃ r, s.ints[j]? = some r := ⟨_, List.getElem?_eq_getElem (by omega)⟩
            obtain ⟨c0, c1', i0, i1⟩ := hcell j _ hri
            have d0 : wr.cell? ⟨b', off + j * 2, none⟩ = some (.int .i64 lo) := (hBw.cell (p := ⟨b', off + j * 2, none⟩) hbl).trans c0
            have d1 : wr.cell? ⟨b', off + j * 2 + 1, none⟩ = some (.int .i64 hi) := (hBw.cell (p := ⟨b', off + j * 2 + 1, none⟩) hbl).trans c1'
            have V3 := hide (bk_below V2.out hB)
            have hv1 : ∀ o, (wr.alloc o).cell? ⟨w.heap.size + 1, 1, none⟩ = some (.int .i64 n) := fun o => (vcells (bk_alloc V3.out o)).2.1
            have HI := hide (And.intro i0 i1)
            have hsn : s.ints.take (j + 1) = s.ints.take j ++ [(lo, hi)] := by
              have hj' : j < s.ints.length := by omega
              rw [List.take_succ_eq_append_getElem hj']
              rw [List.getElem?_eq_getElem hj'] at hri
              rw [Option.some.inj hri]
            have HSN := hide hsn
            have hlti : (j : Int) < n1 := by omega
            have hnl := nearM_le (s.ints.take j) n
            have haw := awayM_le (lo, hi) n i0 i1 HN.out
            unfold far at hnl
            clear c0 c1' hcell hri hlen hrd i0 i1 hsn
            generalize hnear : nearM (s.ints.take j) n = near at *
            have HNE := hide hnear
            clear hnear
            by_cases hle : lo ≤ hi
            · have hstep : stepG n near (lo, hi) = min near (awayM (lo, hi) n) := by unfold stepG; rw [if_pos hle]
              have HST := hide hstep
              clear hstep
              go_wp2_with fail
              refine (away_any lo hi n HI.out.1 HI.out.2 HN.out _).mono ?_
              rintro e w3 ⟨rfl, hb3⟩
              generalize hgaw : awayM (lo, hi) n = aw at *
              have HAW := hide hgaw
              clear hgaw
              have B3 : Below w2.heap.size w2 w3 := below_step (hB.alloc hsz _) (by simp; omega) hb3
              go_wp2_with fail
              all_goals
                go_roundg (n1 - (j + 1))
                case measure => omega
                case rel =>
                  refine ⟨j + 1, ?_, by go_num, by omega, by omega, B3⟩
                  rw [HSN.out, nearM_snoc, HNE.out, HST.out]
                  congr 1
                  try split
                  all_goals omega
            · have hstep : stepG n near (lo, hi) = near := by unfold stepG; rw [if_neg hle]
              have HST := hide hstep
              clear hstep
              go_wp2_with fail
              go_roundg (n1 - (j + 1))
              case measure => omega
              case rel =>
                refine ⟨j + 1, ?_, by go_num, by omega, by omega, hB.alloc hsz _⟩
                rw [HSN.out, nearM_snoc, HNE.out, HST.out]
          · have hlti : ¬ (j : Int) < n1 := by omega
            go_wp2_with fail
            go_ret
            refine ⟨ret_int ?_, hBw⟩
            rw [E.out, List.take_of_length_le (by have := HA.out.1; omega)]
      · have hv' : vRight 1 n t = false := by simpa using hv
        have HV := hide hv'
        clear hv hv'
        go_enter Try.func19, Try.ntmps19
        go_wp2_with fail
        refine (has_any s ⟨1, n, t⟩ A n1 c1 B n2 c2 _ (HHA.out _ _) (HHB.out _ _)).mono ?_
        rw [H0.out]
        rintro e w1 ⟨rfl, hb1⟩
        have B1 : Below w.heap.size w w1 := below_step (((Below.refl _ _).alloc (Nat.le_refl _) _).alloc (by simp) _) (by simp; omega) hb1
        have V := hide (bk_below (bk_new1 _ _ _) hb1)
        obtain ⟨x0, x1, x2⟩ := vcells V.out
        go_wp2_with fail
        refine (vright_any _ _ _ _).mono ?_
        rw [HV.out]
        rintro e w2 ⟨rfl, hb2⟩
        go_wp2_with fail
        go_ret
        refine ⟨ret_int ?_, below_step B1 B1.size hb2⟩
        unfold valueM ValM.ok
        rw [if_neg (by rw [H0.out]; simp), HV.out, if_neg (by simp)]; rfl
    · have q1 : (k != 1) = true := by simpa using hk
      have HK := hide hk
      clear hk
      go_enter Try.func19, Try.ntmps19
      go_wp2_with fail
      refine (has_any s ⟨k, n, t⟩ A n1 c1 B n2 c2 _ (HHA.out _ _) (HHB.out _ _)).mono ?_
      rw [H0.out]
      rintro e w1 ⟨rfl, hb1⟩
      have B1 : Below w.heap.size w w1 := below_step (((Below.refl _ _).alloc (Nat.le_refl _) _).alloc (by simp) _) (by simp; omega) hb1
      have V := hide (bk_below (bk_new1 _ _ _) hb1)
      obtain ⟨x0, x1, x2⟩ := vcells V.out
      go_wp2_with fail
      go_ret
      refine ⟨ret_int ?_, B1⟩
      unfold valueM
      rw [if_neg (by rw [H0.out]; simp), if_neg (fun h => HK.out h.1)]; rfl
end Go.Proofs.Ytfhokhhpfdmfiaa
