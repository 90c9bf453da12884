/- Same, the program's and the reference's: they end, and are true of equal ones; printed by gen_same05.py. -/
import Derived.Test.YtjkhajcngapjcaaER
import Derived.Outline
namespace Go.Proofs.Ytjkhajcngapjcaa.Q
open Go.RowKit Go.Proofs.YtjkhajcngapjcaaW.PrintWords Go.Proofs.YtjkhajcngapjcaaW.PrintLast Go.Proofs.YtjkhajcngapjcaaW.PrintMore
set_option linter.unusedVariables false
set_option linter.unusedSimpArgs false

/-- It comes back with a boolean, which is true if p. -/
def Says (p : Prop) (e : Ending) : Prop := ∃ b, e = .returned (.bool b) ∧ (p → b = true)
theorem eq54_l (l1 l2 : List S54) (hl : l1.length ≤ 1000000) (he : l1.length = l2.length) (d : Nat) : ∀ (k i : Nat), i + d = l1.length → d < k → ∃ b, api_Range_51.l0 k l1 l2 (l1.length : Int) (i : Int) = some b ∧ (l1 = l2 → b = true) := by
  induction d with
  | zero =>
    intro k i hi hk
    obtain ⟨k, rfl⟩ : ∃ m, k = m + 1 := ⟨k - 1, by omega⟩
    exact ⟨true, by unfold api_Range_51.l0; rw [if_neg (by omega)], fun _ => rfl⟩
  | succ d ih =>
    intro k i hi hk
    obtain ⟨k, rfl⟩ : ∃ m, k = m + 1 := ⟨k - 1, by omega⟩
    unfold api_Range_51.l0
    rw [if_pos (by omega), if_pos (by omega), if_pos (by omega), if_pos (by omega)]
    by_cases hc : (!(((rd_T54 l1 i).f0) == ((rd_T54 l2 i).f0)) || (!(((rd_T54 l1 i).f1) == ((rd_T54 l2 i).f1)))) = true
    · rw [if_pos hc]
      exact ⟨false, rfl, fun h => by subst h; simp at hc⟩
    · rw [if_neg hc, wrap_nat (by omega)]
      exact ih k (i + 1) (by omega) (by omega)
theorem eqS_l (l1 l2 : List ByteArray) (hl : l1.length ≤ 1000000) (he : l1.length = l2.length) (d : Nat) : ∀ (k i : Nat), i + d = l1.length → d < k → ∃ b, slices_Equal_string_string.l0 k l1 l2 (l1.length : Int) (i : Int) = some b ∧ (l1 = l2 → b = true) := by
  induction d with
  | zero =>
    intro k i hi hk
    obtain ⟨k, rfl⟩ : ∃ m, k = m + 1 := ⟨k - 1, by omega⟩
    exact ⟨true, by unfold slices_Equal_string_string.l0; rw [if_neg (by omega)], fun _ => rfl⟩
  | succ d ih =>
    intro k i hi hk
    obtain ⟨k, rfl⟩ : ∃ m, k = m + 1 := ⟨k - 1, by omega⟩
    unfold slices_Equal_string_string.l0
    rw [if_pos (by omega), if_pos (by omega), if_pos (by omega), if_pos (by omega)]
    by_cases hc : (rdOf ByteArray.empty l1 i).toList = (rdOf ByteArray.empty l2 i).toList
    · rw [if_pos hc, wrap_nat (by omega)]
      exact ih k (i + 1) (by omega) (by omega)
    · rw [if_neg hc]
      exact ⟨false, rfl, fun h => by subst h; exact absurd rfl hc⟩
theorem setSame_f (s t : S25) (hs : FineS s) (k : Nat) (hk : s.f1.length + s.f3.length + 2 ≤ k) : ∃ b, set_Same.f k s.f0 s.f1 s.f2 s.f3 t.f0 t.f1 t.f2 t.f3 = some b ∧ (s = t → b = true) := by
  have h1 := hs.l1
  have h2 := hs.l3
  unfold set_Same.f api_Range_51.f slices_Equal_string_string.f
  by_cases c0 : (s.f0 == t.f0) = true
  · rw [if_pos c0]
    by_cases c2 : (s.f2 == t.f2) = true
    · rw [if_pos c2]
      by_cases l1 : (s.f1.length : Int) = (t.f1.length : Int)
      · rw [if_pos l1]
        obtain ⟨b, e, hb⟩ := eq54_l s.f1 t.f1 (by omega) (by omega) s.f1.length k 0 (by omega) (by omega)
        rw [show ((0 : Nat) : Int) = 0 from rfl] at e
        rw [e, Option.bind_some]
        by_cases hbt : b = true
        · rw [if_pos hbt]
          by_cases l3 : (s.f3.length : Int) = (t.f3.length : Int)
          · rw [if_pos l3]
            obtain ⟨b', e', hb'⟩ := eqS_l s.f3 t.f3 (by omega) (by omega) s.f3.length k 0 (by omega) (by omega)
            rw [show ((0 : Nat) : Int) = 0 from rfl] at e'
            rw [e', Option.bind_some]
            exact ⟨b', rfl, fun h => hb' (by rw [h])⟩
          · rw [if_neg l3, Option.bind_some]
            exact ⟨false, rfl, fun h => absurd (by rw [h]) l3⟩
        · rw [if_neg hbt]
          exact ⟨false, rfl, fun h => absurd (hb (by rw [h])) hbt⟩
      · rw [if_neg l1, Option.bind_some, if_neg (by decide)]
        exact ⟨false, rfl, fun h => absurd (by rw [h]) l1⟩
    · rw [if_neg c2]
      exact ⟨false, rfl, fun h => absurd (by rw [h]; simp) c2⟩
  · rw [if_neg c0]
    exact ⟨false, rfl, fun h => absurd (by rw [h]; simp) c0⟩
theorem refEqS_l (a : Bool) (l1 : List S54) (c : Bool) (s1 : List ByteArray) (a' : Bool) (l2 : List S54) (c' : Bool) (s2 : List ByteArray) (hl : s1.length ≤ 1000000) (he : s1.length = s2.length) (d : Nat) : ∀ (k i : Nat), i + d = s1.length → d < k → ∃ b, arbourref03_Same.l1 k (i : Int) a l1 c s1 a' l2 c' s2 = some b ∧ (s1 = s2 → b = true) := by
  induction d with
  | zero =>
    intro k i hi hk
    obtain ⟨k, rfl⟩ : ∃ m, k = m + 1 := ⟨k - 1, by omega⟩
    exact ⟨true, by unfold arbourref03_Same.l1; rw [if_neg (by omega)], fun _ => rfl⟩
  | succ d ih =>
    intro k i hi hk
    obtain ⟨k, rfl⟩ : ∃ m, k = m + 1 := ⟨k - 1, by omega⟩
    unfold arbourref03_Same.l1
    rw [if_pos (by omega), if_pos (by omega), if_pos (by omega)]
    by_cases hc : (rdOf ByteArray.empty s1 i).toList = (rdOf ByteArray.empty s2 i).toList
    · rw [if_pos hc, wrap_nat (by omega)]
      exact ih k (i + 1) (by omega) (by omega)
    · rw [if_neg hc]
      exact ⟨false, rfl, fun h => by subst h; exact absurd rfl hc⟩
theorem refEqR_l (a : Bool) (l1 : List S54) (c : Bool) (s1 : List ByteArray) (a' : Bool) (l2 : List S54) (c' : Bool) (s2 : List ByteArray) (hl : s1.length ≤ 1000000) (he : s1.length = s2.length) (hl1 : l1.length ≤ 1000000) (he1 : l1.length = l2.length) (d : Nat) : ∀ (k i : Nat), i + d = l1.length → d + s1.length + 1 < k → ∃ b, arbourref03_Same.l0 k (i : Int) a l1 c s1 a' l2 c' s2 = some b ∧ (l1 = l2 → s1 = s2 → b = true) := by
  induction d with
  | zero =>
    intro k i hi hk
    obtain ⟨k, rfl⟩ : ∃ m, k = m + 1 := ⟨k - 1, by omega⟩
    unfold arbourref03_Same.l0
    rw [if_neg (by omega)]
    obtain ⟨b, e, hb⟩ := refEqS_l a l1 c s1 a' l2 c' s2 hl he s1.length k 0 (by omega) (by omega)
    exact ⟨b, e, fun _ h => hb h⟩
  | succ d ih =>
    intro k i hi hk
    obtain ⟨k, rfl⟩ : ∃ m, k = m + 1 := ⟨k - 1, by omega⟩
    unfold arbourref03_Same.l0
    rw [if_pos (by omega), if_pos (by omega), if_pos (by omega)]
    by_cases hc : (!(((rd_T54 l1 i).f0) == ((rd_T54 l2 i).f0)) || (!(((rd_T54 l1 i).f1) == ((rd_T54 l2 i).f1)))) = true
    · rw [if_pos hc]
      exact ⟨false, rfl, fun h => by subst h; simp at hc⟩
    · rw [if_neg hc, wrap_nat (by omega)]
      exact ih k (i + 1) (by omega) (by omega)
theorem refSetSame_f (s t : S25) (hs : FineS s) (k : Nat) (hk : s.f1.length + s.f3.length + 5 ≤ k) : ∃ b, arbourref03_Same.f k s.f0 s.f1 s.f2 s.f3 t.f0 t.f1 t.f2 t.f3 = some b ∧ (s = t → b = true) := by
  have h1 := hs.l1
  have h2 := hs.l3
  obtain ⟨k, rfl⟩ : ∃ m, k = m + 1 := ⟨k - 1, by omega⟩
  unfold arbourref03_Same.f
  simp only [arbourref03_Same.j0, if_true]
  by_cases c0 : (s.f0 != t.f0) = true
  · rw [if_pos c0]; exact ⟨false, rfl, fun h => absurd c0 (by rw [h]; simp)⟩
  · rw [if_neg c0]
    by_cases c2 : (s.f2 != t.f2) = true
    · rw [if_pos c2]; exact ⟨false, rfl, fun h => absurd c2 (by rw [h]; simp)⟩
    · rw [if_neg c2]
      by_cases l1 : (s.f1.length : Int) = (t.f1.length : Int)
      · rw [if_pos l1]
        by_cases l3 : ((s.f3.length : Int) != (t.f3.length : Int)) = true
        · rw [if_pos l3]; exact ⟨false, rfl, fun h => absurd l3 (by rw [h]; simp)⟩
        · rw [if_neg l3]
          have l3' : s.f3.length = t.f3.length := by have := l3; simp at this; omega
          obtain ⟨b, e, hb⟩ := refEqR_l s.f0 s.f1 s.f2 s.f3 t.f0 t.f1 t.f2 t.f3 (by omega) l3' (by omega) (by omega) s.f1.length k 0 (by omega) (by omega)
          exact ⟨b, e, fun h => hb (by rw [h]) (by rw [h])⟩
      · rw [if_neg l1]; exact ⟨false, rfl, fun h => absurd (by rw [h]) l1⟩
/-- Whether two sets are the same, by any of the two. -/
theorem setsame_any (s t : S25) (hs : FineS s) (A : Option Addr) (c : Nat) (B : Option Addr) (d : Nat) (A' : Option Addr) (c' : Nat) (B' : Option Addr) (d' : Nat) (w : World) (h1 : k54.C w A s.f1.length s.f1) (l1 : s.f1.length ≤ c) (h3 : Kd.string.C w B s.f3.length s.f3) (l3 : s.f3.length ≤ d)
    (h1' : k54.C w A' t.f1.length t.f1) (l1' : t.f1.length ≤ c') (h3' : Kd.string.C w B' t.f3.length t.f3) (l3' : t.f3.length ≤ d') : (Calls Try.prog 40 #[.agg #[.bool s.f0, .slice A s.f1.length c, .bool s.f2, .slice B s.f3.length d], .agg #[.bool t.f0, .slice A' t.f1.length c', .bool t.f2, .slice B' t.f3.length d']] w fun e w' => Says (s = t) e ∧ Below w.heap.size w w') ∧
    (Calls Try.prog 39 #[.agg #[.bool s.f0, .slice A s.f1.length c, .bool s.f2, .slice B s.f3.length d], .agg #[.bool t.f0, .slice A' t.f1.length c', .bool t.f2, .slice B' t.f3.length d']] w fun e w' => Says (s = t) e ∧ Below w.heap.size w w') := by
  constructor
  · obtain ⟨b, e, hb⟩ := setSame_f s t hs _ (Nat.le_refl _)
    exact (set_Same.calls _ _ _ _ _ _ _ _ _ _ _ _ _ _ _ _ _ b w h1 l1 h3 l3 h1' l1' h3' l3' e).mono (fun _ _ h => ⟨⟨b, h.1, hb⟩, h.2⟩)
  · obtain ⟨b, e, hb⟩ := refSetSame_f s t hs _ (Nat.le_refl _)
    exact (arbourref03_Same.calls _ _ _ _ _ _ _ _ _ _ _ _ _ _ _ _ _ b w h1 l1 h3 l3 h1' l1' h3' l3' e).mono (fun _ _ h => ⟨⟨b, h.1, hb⟩, h.2⟩)
set_option maxHeartbeats 4000000 in
set_option maxRecDepth 100000 in
theorem equal_any (xs ys : List S28) (IH : ∀ x y va vb w, x ∈ xs → y ∈ ys → XR w va x → XR w vb y → Calls Try.prog 27 #[va, vb] w fun e w' => Says (x = y) e ∧ Below w.heap.size w w') (A : Option Addr) (c : Nat) (B : Option Addr) (d : Nat) (w : World) (hA : k28.C w A xs.length xs) (hB : k28.C w B ys.length ys) :
    Calls Try.prog 41 #[.slice A xs.length c, .slice B ys.length d, .func (.func 27) #[] #[]] w fun e w' => Says (xs = ys) e ∧ Below w.heap.size w w' := by
  have HI := Aside0.mk IH
  have HA := Aside0.mk hA
  have HB := Aside0.mk hB
  clear IH hA hB
  by_cases hl : (xs.length : Int) = (ys.length : Int)
  rotate_left
  · have h1 : ((xs.length : Int) != (ys.length : Int)) = true := by simpa using hl
    have h2 : ((xs.length : Int) == (ys.length : Int)) = false := by simpa using hl
    have HL := Aside0.mk hl
    clear hl
    go_enter Try.func41, Try.ntmps41
    go_wp2_with fail
    go_ret
    exact ⟨⟨false, rfl, fun h => absurd (by rw [h]) HL.out⟩, Below.refl _ _⟩
  · have HL := Aside0.mk hl
    rw [show ys.length = xs.length by omega]
    have h1 : ((xs.length : Int) != (xs.length : Int)) = false := by simp
    have hlen : (xs.length : Int) ≤ 9223372036854775807 := by have hg := HA.out.2.1; omega
    clear hl
    go_enter Try.func41, Try.ntmps41
    go_wp2_with fail
    go_loopg [17] xs.length (fun q v17 wr => ∃ i : Nat, v17 = .int .i64 i ∧ Aside0 (q + i = xs.length) ∧ Aside0 (Below w.heap.size w wr))
    case atStart => exact ⟨0, rfl, ⟨by omega⟩, ⟨Below.refl _ _⟩⟩
    case round =>
      obtain ⟨i, rfl, HQ, HBR⟩ := hrel
      obtain ⟨wl, hwl⟩ : ∃ wl : World, wl = wr := ⟨_, rfl⟩
      subst hwl
      by_cases hi : i < xs.length
      · have hi' : (i : Int) < (xs.length : Int) := by omega
        have hj : i < ys.length := by have := HL.out; omega
        have hj' : (i : Int) < (ys.length : Int) := by omega
        obtain ⟨ad, E3, Ec3, E5, Ec5, E6, Ec6, ead, p0, p1, p2, p3, p4, p5, p6, m3, f3, m5, f5, m6, f6⟩ := at_T28 (Kd.C_below HA.out HBR.out) (i : Int) (by omega) (by omega)
        obtain ⟨ae, F3, Fc3, F5, Fc5, F6, Fc6, eae, q0, q1, q2, q3, q4, q5, q6, n3, o3, n5, o5, n6, o6⟩ := at_T28 (Kd.C_below HB.out HBR.out) (i : Int) (by omega) (by omega)
        cases ead
        cases eae
        rw [Int.toNat_natCast] at p0 p1 p2 p3 p4 p5 p6 q0 q1 q2 q3 q4 q5 q6
        have hmx : rd_T28 xs (i : Int) ∈ xs := by rw [rd28_mem xs i hi]; exact List.getElem_mem hi
        have hmy : rd_T28 ys (i : Int) ∈ ys := by rw [rd28_mem ys i hj]; exact List.getElem_mem hj
        have HXY := Aside0.mk (show xs = ys → rd_T28 xs (i : Int) = rd_T28 ys (i : Int) from fun h => by rw [h])
        generalize rd_T28 xs (i : Int) = x at *
        generalize rd_T28 ys (i : Int) = y at *
        have HM := Aside0.mk (And.intro hmx hmy)
        have HXX := Aside0.mk (show XR wl (.agg #[.int .i64 x.f0, .int .i64 x.f1, .bool x.f2.f0, .slice E3 x.f2.f1.length Ec3, .bool x.f2.f2, .slice E5 x.f2.f3.length Ec5, .slice E6 x.f3.length Ec6]) x from ⟨E3, Ec3, E5, Ec5, E6, Ec6, rfl, m3, f3, m5, f5, m6, f6⟩)
        have HYY := Aside0.mk (show XR wl (.agg #[.int .i64 y.f0, .int .i64 y.f1, .bool y.f2.f0, .slice F3 y.f2.f1.length Fc3, .bool y.f2.f2, .slice F5 y.f2.f3.length Fc5, .slice F6 y.f3.length Fc6]) y from ⟨F3, Fc3, F5, Fc5, F6, Fc6, rfl, n3, o3, n5, o5, n6, o6⟩)
        clear hmx hmy m3 f3 m5 f5 m6 f6 n3 o3 n5 o5 n6 o6
        have q0' := pw_cell_below (below_alloc (Below.refl wl.heap.size wl) (.cells #[.int .i64 x.f0, .int .i64 x.f1, .bool x.f2.f0, .slice E3 x.f2.f1.length Ec3, .bool x.f2.f2, .slice E5 x.f2.f3.length Ec5, .slice E6 x.f3.length Ec6] 28)) q0
        have q1' := pw_cell_below (below_alloc (Below.refl wl.heap.size wl) (.cells #[.int .i64 x.f0, .int .i64 x.f1, .bool x.f2.f0, .slice E3 x.f2.f1.length Ec3, .bool x.f2.f2, .slice E5 x.f2.f3.length Ec5, .slice E6 x.f3.length Ec6] 28)) q1
        have q2' := pw_cell_below (below_alloc (Below.refl wl.heap.size wl) (.cells #[.int .i64 x.f0, .int .i64 x.f1, .bool x.f2.f0, .slice E3 x.f2.f1.length Ec3, .bool x.f2.f2, .slice E5 x.f2.f3.length Ec5, .slice E6 x.f3.length Ec6] 28)) q2
        have q3' := pw_cell_below (below_alloc (Below.refl wl.heap.size wl) (.cells #[.int .i64 x.f0, .int .i64 x.f1, .bool x.f2.f0, .slice E3 x.f2.f1.length Ec3, .bool x.f2.f2, .slice E5 x.f2.f3.length Ec5, .slice E6 x.f3.length Ec6] 28)) q3
        have q4' := pw_cell_below (below_alloc (Below.refl wl.heap.size wl) (.cells #[.int .i64 x.f0, .int .i64 x.f1, .bool x.f2.f0, .slice E3 x.f2.f1.length Ec3, .bool x.f2.f2, .slice E5 x.f2.f3.length Ec5, .slice E6 x.f3.length Ec6] 28)) q4
        have q5' := pw_cell_below (below_alloc (Below.refl wl.heap.size wl) (.cells #[.int .i64 x.f0, .int .i64 x.f1, .bool x.f2.f0, .slice E3 x.f2.f1.length Ec3, .bool x.f2.f2, .slice E5 x.f2.f3.length Ec5, .slice E6 x.f3.length Ec6] 28)) q5
        have q6' := pw_cell_below (below_alloc (Below.refl wl.heap.size wl) (.cells #[.int .i64 x.f0, .int .i64 x.f1, .bool x.f2.f0, .slice E3 x.f2.f1.length Ec3, .bool x.f2.f2, .slice E5 x.f2.f3.length Ec5, .slice E6 x.f3.length Ec6] 28)) q6
        go_wp2_with fail
        refine (HI.out x y _ _ _ HM.out.1 HM.out.2 (HXX.out.below ?_) (HYY.out.below ?_)).mono ?_
        · exact below_alloc (below_alloc (Below.refl _ _) _) _
        · exact below_alloc (below_alloc (Below.refl _ _) _) _
        rintro e w8 ⟨⟨b, rfl, hb⟩, hb8⟩
        have HBB := Aside0.mk hb
        have HB8 := Aside0.mk (below_step HBR.out (below_then (below_alloc (below_alloc (Below.refl _ _) _) _) (by simp only [World.size_alloc]; omega) hb8))
        clear hb hb8 p0 p1 p2 p3 p4 p5 p6 q0 q1 q2 q3 q4 q5 q6 q0' q1' q2' q3' q4' q5' q6'
        cases b with
        | false =>
          go_wp2_with fail
          go_ret
          exact ⟨⟨false, rfl, fun h => HBB.out (HXY.out h)⟩, HB8.out⟩
        | true =>
          go_wp2_with fail
          go_roundg (xs.length - (i + 1))
          case measure => have := HQ.out; omega
          case rel => exact ⟨i + 1, by go_num, ⟨by omega⟩, HB8⟩
      · have hi' : ¬ (i : Int) < (xs.length : Int) := by omega
        clear hi
        go_wp2_with fail
        go_ret
        exact ⟨⟨true, rfl, fun _ => rfl⟩, HBR.out⟩
end Go.Proofs.Ytjkhajcngapjcaa.Q
