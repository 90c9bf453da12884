/- What is read of a set: its ranges, its strings; slices.ContainsFunc and slices.Contains over them; set.Has. -/
import Derived.Test.YtfhokhhpfdmfiaaVal
namespace Go.Proofs.Ytfhokhhpfdmfiaa
open Go.RowKit

def I64 (n : Int) : Prop := -9223372036854775808 ≤ n ∧ n ≤ 9223372036854775807
/-- A slice of ranges as it is read. -/
def RangesR (w : World) (A : Option Addr) (n : Nat) (rs : List (Int × Int)) : Prop :=
  rs.length = n ∧ n ≤ 9223372036854775807 ∧ (0 < n → ∃ b off, A = some ⟨b, off, none⟩ ∧ b < w.heap.size ∧ ∀ i r, rs[i]? = some r → w.cell? ⟨b, off + i * 2, none⟩ = some (.int .i64 r.1) ∧ w.cell? ⟨b, off + i * 2 + 1, none⟩ = some (.int .i64 r.2) ∧ I64 r.1 ∧ I64 r.2)
/-- A slice of strings as it is read. -/
def StrsR (w : World) (A : Option Addr) (n : Nat) (ss : List ByteArray) : Prop :=
  ss.length = n ∧ n ≤ 9223372036854775807 ∧ (0 < n → ∃ b off, A = some ⟨b, off, none⟩ ∧ b < w.heap.size ∧ ∀ i s, ss[i]? = some s → w.cell? ⟨b, off + i, none⟩ = some (.string s))

theorem RangesR.below {w w1 : World} {A : Option Addr} {n : Nat} {rs : List (Int × Int)} (h : RangesR w A n rs) (hb : Below w.heap.size w w1) : RangesR w1 A n rs := by
  refine ⟨h.1, h.2.1, fun hn => ?_⟩
  obtain ⟨b, off, e, hl, hc⟩ := h.2.2 hn
  refine ⟨b, off, e, Nat.lt_of_lt_of_le hl hb.size, fun i r hi => ?_⟩
  obtain ⟨h1, h2, h3⟩ := hc i r hi
  exact ⟨(hb.cell (p := ⟨b, _, none⟩) hl).trans h1, (hb.cell (p := ⟨b, _, none⟩) hl).trans h2, h3⟩
theorem StrsR.below {w w1 : World} {A : Option Addr} {n : Nat} {ss : List ByteArray} (h : StrsR w A n ss) (hb : Below w.heap.size w w1) : StrsR w1 A n ss := by
  refine ⟨h.1, h.2.1, fun hn => ?_⟩
  obtain ⟨b, off, e, hl, hc⟩ := h.2.2 hn
  exact ⟨b, off, e, Nat.lt_of_lt_of_le hl hb.size, fun i s hi => (hb.cell (p := ⟨b, _, none⟩) hl).trans (hc i s hi)⟩

/-- Is a number in a range? -/
def inR (x : Int) (r : Int × Int) : Bool := decide (r.1 ≤ x) && decide (x ≤ r.2)

set_option maxHeartbeats 1000000 in
theorem indexfunc_any (A : Option Addr) (n c : Nat) (rs : List (Int × Int)) (b : Nat) (k x : Int) (s : ByteArray) (w : World) (hr : RangesR w A n rs) (hb : w.heap[b]? = some (.cells #[.int .i64 k, .int .i64 x, .string s] 30 (0, 0))) :
    Calls Try.prog 43 #[.slice A n c, .func (.func 38) #[] #[.pointer (some ⟨b, 0, none⟩)]] w fun e w' => (∃ i : Int, e = .returned (.int .i64 i) ∧ decide (0 ≤ i) = rs.any (inR x)) ∧ Below w.heap.size w w' := by
  have HR := hide hr
  have HB := hide hb
  have hn63 := hr.2.1
  clear hr hb
  go_enter Try.func43, Try.ntmps43
  go_wp2_with fail
  go_loopg [8] n (fun q i wr => ∃ j : Nat, i = .int .i64 j ∧ j ≤ n ∧ q + j = n ∧ Below w.heap.size w wr ∧ (rs.take j).any (inR x) = false)
  case atStart => exact ⟨0, rfl, by omega, by omega, Below.refl _ _, by simp⟩
  case round =>
    obtain ⟨j, rfl, hj, hq, hB, hno⟩ := hrel
    have HNO := hide hno
    clear hno
    by_cases hlt : j < n
    · obtain ⟨hlen, _, hrd⟩ := HR.out
      obtain ⟨b', off, rfl, hbl, hcell⟩ := hrd (by omega)
      obtain ⟨⟨lo, hi⟩, hri⟩ : ∃ r, rs[j]? = some r := ⟨_, List.getElem?_eq_getElem (by omega)⟩
      obtain ⟨c0, c1, _, _⟩ := hcell j _ hri
      have d0 : wr.cell? ⟨b', off + j * 2, none⟩ = some (.int .i64 lo) := (hB.cell (p := ⟨b', off + j * 2, none⟩) hbl).trans c0
      have d1 : wr.cell? ⟨b', off + j * 2 + 1, none⟩ = some (.int .i64 hi) := (hB.cell (p := ⟨b', off + j * 2 + 1, none⟩) hbl).trans c1
      have hbr : wr.heap[b]? = some (.cells #[.int .i64 k, .int .i64 x, .string s] 30 (0, 0)) := (hB.block b (bk_lt HB.out)).trans HB.out
      have hv : ∀ o, (wr.alloc o).cell? ⟨b, 1, none⟩ = some (.int .i64 x) := fun o => (bk_cell (bk_alloc hbr o) 1).trans rfl
      have HV := hide hv
      have HRI := hide (And.intro hri hlen)
      have hs1 := hB.size
      have hlti : (j : Int) < n := by omega
      clear c0 c1 hcell hbr hv hri hlen hrd
      go_wp2_with fail
      refine (has1_any lo hi x b wr HV.out).mono ?_
      rintro e w1 ⟨rfl, hb1⟩
      have hB1 := below_step hB hs1 hb1
      have hany : rs.any (inR x) = true ∨ inR x (lo, hi) = false := by
        cases h : inR x (lo, hi) with
        | false => exact .inr rfl
        | true => exact .inl (List.any_eq_true.2 ⟨_, List.mem_of_getElem? HRI.out.1, h⟩)
      have hdef : (decide (lo ≤ x) && decide (x ≤ hi)) = inR x (lo, hi) := rfl
      rw [hdef]
      have HA := hide hany
      clear hany hdef
      generalize hin : inR x (lo, hi) = t at *
      have HIN := hide hin
      clear hin
      cases t
      · go_wp2_with fail
        go_roundg (n - (j + 1))
        case measure => omega
        case rel =>
          refine ⟨j + 1, by go_num, by omega, by omega, hB1, ?_⟩
          obtain ⟨h1, h2⟩ := HRI.out
          have hj' : j < rs.length := by omega
          rw [List.take_succ_eq_append_getElem hj', List.any_append, HNO.out]
          have : rs[j] = (lo, hi) := by rw [List.getElem?_eq_getElem hj'] at h1; exact Option.some.inj h1
          rw [this]
          simp [HIN.out]
      · go_wp2_with fail
        go_ret
        refine ⟨⟨j, rfl, ?_⟩, hB1⟩
        rcases HA.out with h | h
        · rw [h]; simp
        · exact absurd h (by simp)
    · have hlti : ¬ (j : Int) < n := by omega
      go_wp2_with fail
      go_ret
      refine ⟨⟨-1, rfl, ?_⟩, hB⟩
      have h1 := HNO.out
      rw [List.take_of_length_le (by have := HR.out.1; omega)] at h1
      rw [h1]; simp

theorem containsfunc_any (A : Option Addr) (n c : Nat) (rs : List (Int × Int)) (b : Nat) (k x : Int) (s : ByteArray) (w : World) (hr : RangesR w A n rs) (hb : w.heap[b]? = some (.cells #[.int .i64 k, .int .i64 x, .string s] 30 (0, 0))) :
    Calls Try.prog 37 #[.slice A n c, .func (.func 38) #[] #[.pointer (some ⟨b, 0, none⟩)]] w fun e w' => e = .returned (.bool (rs.any (inR x))) ∧ Below w.heap.size w w' := by
  have H := hide (And.intro hr hb)
  clear hr hb
  go_enter Try.func37, Try.ntmps37
  go_wp2_with fail
  refine (indexfunc_any A n c rs b k x s w H.out.1 H.out.2).mono ?_
  rintro e w1 ⟨⟨i, rfl, hi⟩, hb1⟩
  have HI := hide hi
  clear hi
  go_wp2_with fail
  go_ret
  exact ⟨ret_bool HI.out, hb1⟩

/-- Is a text in a list? -/
def inS (x : ByteArray) (s : ByteArray) : Bool := x.toList == s.toList

set_option maxHeartbeats 1000000 in
theorem index_any (A : Option Addr) (n c : Nat) (ss : List ByteArray) (x : ByteArray) (w : World) (hr : StrsR w A n ss) :
    Calls Try.prog 44 #[.slice A n c, .string x] w fun e w' => (∃ i : Int, e = .returned (.int .i64 i) ∧ decide (0 ≤ i) = ss.any (inS x)) ∧ w = w' := by
  have HR := hide hr
  have hn63 := hr.2.1
  clear hr
  go_enter Try.func44, Try.ntmps44
  go_wp2_with fail
  go_loopg [8] n (fun q i wr => ∃ j : Nat, i = .int .i64 j ∧ j ≤ n ∧ q + j = n ∧ w = wr ∧ (ss.take j).any (inS x) = false)
  case atStart => exact ⟨0, rfl, by omega, by omega, rfl, by simp⟩
  case round =>
    obtain ⟨j, rfl, hj, hq, rfl, hno⟩ := hrel
    have HNO := hide hno
    clear hno
    by_cases hlt : j < n
    · obtain ⟨hlen, _, hrd⟩ := HR.out
      obtain ⟨b', off, rfl, hbl, hcell⟩ := hrd (by omega)
      obtain ⟨y, hri⟩ : ∃ r, ss[j]? = some r := ⟨_, List.getElem?_eq_getElem (by omega)⟩
      have c0 := hcell j _ hri
      have HRI := hide (And.intro hri hlen)
      have hlti : (j : Int) < n := by omega
      clear hcell hri hlen hrd
      have hany : ss.any (inS x) = true ∨ inS x y = false := by
        cases h : inS x y with
        | false => exact .inr rfl
        | true => exact .inl (List.any_eq_true.2 ⟨_, List.mem_of_getElem? HRI.out.1, h⟩)
      have HA := hide hany
      clear hany
      by_cases ht : (x.toList == y.toList) = true
      · have hin : inS x y = true := ht
        have HIN := hide hin
        clear hin
        go_wp2_with fail
        go_ret
        refine ⟨⟨j, rfl, ?_⟩, rfl⟩
        rcases HA.out with h | h
        · rw [h]; simp
        · rw [HIN.out] at h; exact absurd h (by simp)
      · have ht' : (x.toList == y.toList) = false := by simpa using ht
        have hin : inS x y = false := ht'
        have HIN := hide hin
        clear hin ht
        go_wp2_with fail
        go_roundg (n - (j + 1))
        case measure => omega
        case rel =>
          refine ⟨j + 1, by go_num, by omega, by omega, rfl, ?_⟩
          obtain ⟨h1, h2⟩ := HRI.out
          have hj' : j < ss.length := by omega
          rw [List.take_succ_eq_append_getElem hj', List.any_append, HNO.out]
          have : ss[j] = y := by rw [List.getElem?_eq_getElem hj'] at h1; exact Option.some.inj h1
          rw [this]
          simp [HIN.out]
    · have hlti : ¬ (j : Int) < n := by omega
      go_wp2_with fail
      go_ret
      refine ⟨⟨-1, rfl, ?_⟩, rfl⟩
      have h1 := HNO.out
      rw [List.take_of_length_le (by have := HR.out.1; omega)] at h1
      rw [h1]; simp

theorem contains_any (A : Option Addr) (n c : Nat) (ss : List ByteArray) (x : ByteArray) (w : World) (hr : StrsR w A n ss) :
    Calls Try.prog 39 #[.slice A n c, .string x] w fun e w' => e = .returned (.bool (ss.any (inS x))) ∧ w = w' := by
  have H := hide hr
  clear hr
  go_enter Try.func39, Try.ntmps39
  go_wp2_with fail
  refine (index_any A n c ss x w H.out).mono ?_
  rintro e w1 ⟨⟨i, rfl, hi⟩, rfl⟩
  have HI := hide hi
  clear hi
  go_wp2_with fail
  go_ret
  exact ⟨ret_bool HI.out, rfl⟩

/-- A set as it is. -/
structure SetM where
  a : Bool
  ints : List (Int × Int)
  co : Bool
  strs : List ByteArray
/-- A value as it is. -/
structure ValM where
  k : Int
  n : Int
  s : ByteArray
def ValM.ok (v : ValM) : Bool := vRight v.k v.n v.s
def ValM.val (v : ValM) : Value := .agg #[.int .i64 v.k, .int .i64 v.n, .string v.s]
/-- Is a value in a set? -/
def hasM (s : SetM) (v : ValM) : Bool := if v.ok = false then false else if v.k = 1 then s.ints.any (inR v.n) else if v.k = 2 then (s.strs.any (inS v.s)) != s.co else s.a

theorem quiet_left {P : Program} {f : FuncId} {args : Array Value} {w : World} {n : Nat} {v : Value}
    (h : Calls P f args (w.drewN n) fun e w' => e = .returned v ∧ w.drewN n = w') : Calls P f args (w.drewN n) fun e w'' => e = .returned v ∧ ∃ m, w'' = w.drewN m :=
  h.mono fun _ _ ⟨he, hm⟩ => ⟨he, n, hm.symm⟩

set_option maxHeartbeats 1000000 in
theorem has_any (s : SetM) (v : ValM) (A : Option Addr) (n1 c1 : Nat) (B : Option Addr) (n2 c2 : Nat) (w : World) (hA : RangesR w A n1 s.ints) (hB : StrsR w B n2 s.strs) : Calls Try.prog 30 #[.agg #[.bool s.a, .slice A n1 c1, .bool s.co, .slice B n2 c2], .agg #[.int .i64 v.k, .int .i64 v.n, .string v.s]] w fun e w' => e = .returned (.bool (hasM s v)) ∧ Below w.heap.size w w' := by
  obtain ⟨k, n, t⟩ := v
  obtain ⟨a, rs, co, ss⟩ := s
  have HA := hide hA
  have HB := hide hB
  clear hA hB
  by_cases h0 : vRight k n t = false
  · have H0 := hide h0
    clear h0
    go_enter Try.func30, Try.ntmps30
    go_wp2_with fail
    refine (vright_any _ _ _ _).mono ?_
    rw [H0.out]
    rintro e w1 ⟨rfl, hb1⟩
    go_wp2_with fail
    go_ret
    refine ⟨ret_bool ?_, below_step (((Below.refl _ _).alloc (Nat.le_refl _) _).alloc (by simp) _) (by simp; omega) hb1⟩
    unfold hasM ValM.ok
    rw [H0.out]; rfl
  · have h1 : vRight k n t = true := by simpa using h0
    have H0 := hide h1
    clear h0 h1
    by_cases k1 : k = 1
    · subst k1
      go_enter Try.func30, Try.ntmps30
      go_wp2_with fail
      refine (vright_any _ _ _ _).mono ?_
      rw [H0.out]
      rintro e w1 ⟨rfl, hb1⟩
      have V := hide (bk_below (bk_new1 _ _ _) hb1)
      obtain ⟨x0, x1, x2⟩ := vcells V.out
      obtain ⟨y0, y1, y2, y3⟩ := scells (bk_below (bk_new0 _ _ _) hb1)
      have B1 : Below w.heap.size w w1 := below_step (((Below.refl _ _).alloc (Nat.le_refl _) _).alloc (by simp) _) (by simp; omega) hb1
      have HA1 := hide (HA.out.below B1)
      go_wp2_with fail
      refine (containsfunc_any _ _ _ _ _ _ _ _ _ HA1.out V.out).mono ?_
      rintro e w2 ⟨rfl, hb2⟩
      go_wp2_with fail
      go_ret
      refine ⟨ret_bool ?_, below_step B1 B1.size hb2⟩
      unfold hasM ValM.ok
      rw [H0.out]; rfl
    · have q1 : (k == 1) = false := by rw [beq_eq_false_iff_ne]; exact k1
      by_cases k2 : k = 2
      · subst k2
        clear k1
        go_enter Try.func30, Try.ntmps30
        go_wp2_with fail
        refine (vright_any _ _ _ _).mono ?_
        rw [H0.out]
        rintro e w1 ⟨rfl, hb1⟩
        have V := hide (bk_below (bk_new1 _ _ _) hb1)
        obtain ⟨x0, x1, x2⟩ := vcells V.out
        obtain ⟨y0, y1, y2, y3⟩ := scells (bk_below (bk_new0 _ _ _) hb1)
        have B1 : Below w.heap.size w w1 := below_step (((Below.refl _ _).alloc (Nat.le_refl _) _).alloc (by simp) _) (by simp; omega) hb1
        have HB1 : Hid (∀ m, StrsR (w1.drewN m) B n2 ss) := fun m => HB.out.below (below_drewN B1 m)
        go_wp2_with fail
        go_quiet ((go_at_call 39; exact quiet_left (contains_any _ _ _ _ _ _ (HB1.out _))))
        go_wp2_with fail
        go_ret
        refine ⟨ret_bool ?_, below_drewN B1 _⟩
        unfold hasM ValM.ok
        rw [H0.out]; rfl
      · have q2 : (k == 2) = false := by rw [beq_eq_false_iff_ne]; exact k2
        have K := hide (And.intro k1 k2)
        clear k1 k2
        go_enter Try.func30, Try.ntmps30
        go_wp2_with fail
        refine (vright_any _ _ _ _).mono ?_
        rw [H0.out]
        rintro e w1 ⟨rfl, hb1⟩
        have V := hide (bk_below (bk_new1 _ _ _) hb1)
        obtain ⟨x0, x1, x2⟩ := vcells V.out
        obtain ⟨y0, y1, y2, y3⟩ := scells (bk_below (bk_new0 _ _ _) hb1)
        have B1 : Below w.heap.size w w1 := below_step (((Below.refl _ _).alloc (Nat.le_refl _) _).alloc (by simp) _) (by simp; omega) hb1
        go_wp2_with fail
        go_ret
        refine ⟨ret_bool ?_, B1⟩
        unfold hasM ValM.ok
        rw [H0.out, if_neg (by simp), if_neg K.out.1, if_neg K.out.2]
end Go.Proofs.Ytfhokhhpfdmfiaa
