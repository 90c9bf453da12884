/- The references' Few: they return (whatever they answer), and write nothing that was there. -/
import Derived.Test.YtfhokhhpfdmfiaaAwake
namespace Go.Proofs.Ytfhokhhpfdmfiaa
open Go.RowKit

/-- A slice of sets as it is read. -/
def SetsR (w : World) (A : Option Addr) (n : Nat) (s : Nat → SetM) : Prop :=
  n ≤ 9223372036854775807 ∧ (0 < n → ∃ b off, A = some ⟨b, off, none⟩ ∧ b < w.heap.size ∧ ∀ i, i < n → ∃ v : SetV, SetR w v (s i) ∧ w.cell? ⟨b, off + i * 4, none⟩ = some (.bool (s i).a) ∧ w.cell? ⟨b, off + i * 4 + 1, none⟩ = some (.slice v.A v.n v.c) ∧ w.cell? ⟨b, off + i * 4 + 2, none⟩ = some (.bool (s i).co) ∧ w.cell? ⟨b, off + i * 4 + 3, none⟩ = some (.slice v.B v.m v.d))

/-- Not more than may be gone over. -/
def ShortM (s : SetM) : Prop := s.ints.length ≤ 40 ∧ s.strs.length ≤ 40
def NumM (s : SetM) : Prop := ∀ r, r ∈ s.ints → I64 r.1 ∧ I64 r.2
/-- A set's ranges rise, with gaps between. -/
structure RightM (s : SetM) : Prop where
  ord : ∀ p, p ∈ s.ints → p.1 ≤ p.2
  gap : ∀ i p q, s.ints[i]? = some p → s.ints[i + 1]? = some q → p.2 + 1 < q.1
/-- A Bool is returned that, if true, tells P. -/
def SayE (P : Prop) (w : World) (e : Ending) (w' : World) : Prop := ∃ r : Bool, e = .returned (.bool r) ∧ (r = true → P) ∧ w = w'
def SayB (P : Prop) (w : World) (e : Ending) (w' : World) : Prop := (∃ r : Bool, e = .returned (.bool r) ∧ (r = true → P)) ∧ Below w.heap.size w w'
def SomeBool (w : World) (e : Ending) (w' : World) : Prop := ∃ r : Bool, e = .returned (.bool r) ∧ w = w'

set_option maxHeartbeats 4000000 in
theorem few03_len (A : Option Addr) (n c : Nat) (s : Nat → SetM) (w : World) (hs : SetsR w A n s) : Calls Try.prog 24 #[.slice A n c] w (SayE (∀ j, j < n → ShortM (s j)) w) := by
  have HS := hide hs
  have hn63 := hs.1
  clear hs
  go_enter Try.func24, Try.ntmps24
  go_wp2_with fail
  go_loopg [3] n (fun q i wr => ∃ j : Nat, i = .int .i64 j ∧ j ≤ n ∧ q + j = n ∧ Hid (∀ i, i < j → ShortM (s i)) ∧ w = wr)
  case atStart => exact ⟨0, rfl, by omega, by omega, hide (fun i hi => absurd hi (by omega)), rfl⟩
  case round =>
    obtain ⟨j, rfl, hj, hq, HK, rfl⟩ := hrel
    by_cases hlt : j < n
    · obtain ⟨b, off, rfl, hbl, hcell⟩ := HS.out.2 (by omega)
      obtain ⟨v, hsr, c0, c1, c2, c3⟩ := hcell j hlt
      have hlti : (j : Int) < n := by omega
      have SR := hide hsr
      have hm63 := hsr.t.2.1
      clear hcell hsr c0 c2
      by_cases l1 : 40 < v.n
      · have l1' : (40 : Int) < v.n := by omega
        go_wp2_with fail
        go_ret
        exact ⟨_, rfl, (fun h => nomatch h), rfl⟩
      · have l1' : ¬ (40 : Int) < v.n := by omega
        by_cases l2 : 40 < v.m
        · have l2' : (40 : Int) < v.m := by omega
          go_wp2_with fail
          go_ret
          exact ⟨_, rfl, (fun h => nomatch h), rfl⟩
        · have l2' : ¬ (40 : Int) < v.m := by omega
          have HK1 : Hid (∀ i, i < j + 1 → ShortM (s i)) := hide (fun i hi => by
            by_cases e : i = j
            · subst e; exact ⟨by rw [SR.out.i.1]; omega, by rw [SR.out.t.1]; omega⟩
            · exact HK.out i (by omega))
          go_wp2_with fail
          go_loopg [4] v.m (fun q2 k wr2 => ∃ t : Nat, k = .int .i64 t ∧ t ≤ v.m ∧ q2 + t = v.m ∧ w = wr2)
          case atStart => exact ⟨0, rfl, by omega, by omega, rfl⟩
          case round =>
            obtain ⟨t, rfl, ht, hq2, rfl⟩ := hrel
            by_cases hlt2 : t < v.m
            · obtain ⟨hslen, _, hsd⟩ := SR.out.t
              obtain ⟨b2, off2, hB2, hbl2, hcell2⟩ := hsd (by omega)
              obtain ⟨y, hy⟩ : ∃ y, (s j).strs[t]? = some y := ⟨_, List.getElem?_eq_getElem (by omega)⟩
              have d0 := hcell2 t y hy
              have hlti2 : (t : Int) < v.m := by omega
              have c3' : w.cell? ⟨b, off + j * 4 + 3, none⟩ = some (.slice (some ⟨b2, off2, none⟩) v.m v.d) := by rw [c3, hB2]
              have C3 := hide c3
              clear hcell2 hy hsd hslen hB2 c3
              by_cases l3 : 100 < y.size
              · have l3' : (100 : Int) < y.size := by omega
                go_wp2_with fail
                go_ret
                exact ⟨_, rfl, (fun h => nomatch h), rfl⟩
              · have l3' : ¬ (100 : Int) < y.size := by omega
                go_wp2_with fail
                go_roundg (v.m - (t + 1))
                case measure => omega
                case rel => exact ⟨t + 1, by go_num, by omega, by omega, rfl⟩
            · have hlti2 : ¬ (t : Int) < v.m := by omega
              go_wp2_with fail
              go_roundg (n - (j + 1))
              case measure => omega
              case rel => exact ⟨j + 1, by go_num, by omega, by omega, HK1, rfl⟩
    · have hlti : ¬ (j : Int) < n := by omega
      go_wp2_with fail
      go_ret
      exact ⟨_, rfl, fun _ i hi => HK.out i (by omega), rfl⟩

theorem few03_any (A : Option Addr) (n c : Nat) (s : Nat → SetM) (w : World) (hs : SetsR w A n s) : Calls Try.prog 24 #[.slice A n c] w (SomeBool w) :=
  (few03_len A n c s w hs).mono (by rintro e w' ⟨r, h1, -, h2⟩; exact ⟨r, h1, h2⟩)

def SomeB (w : World) (e : Ending) (w' : World) : Prop := (∃ r : Bool, e = .returned (.bool r)) ∧ Below w.heap.size w w'

/-- Four sets, just made a slice of. -/
theorem sets4 {w : World} {g : Nat} {s : Nat → SetM} {v : Nat → SetV} (h : w.heap[g]? = some (.cells #[.bool (s 0).a, .slice (v 0).A (v 0).n (v 0).c, .bool (s 0).co, .slice (v 0).B (v 0).m (v 0).d, .bool (s 1).a, .slice (v 1).A (v 1).n (v 1).c, .bool (s 1).co, .slice (v 1).B (v 1).m (v 1).d, .bool (s 2).a, .slice (v 2).A (v 2).n (v 2).c, .bool (s 2).co, .slice (v 2).B (v 2).m (v 2).d, .bool (s 3).a, .slice (v 3).A (v 3).n (v 3).c, .bool (s 3).co, .slice (v 3).B (v 3).m (v 3).d] 26 (0, 0))) (hs : ∀ j, j < 4 → SetR w (v j) (s j)) : SetsR w (some ⟨g, 0, none⟩) 4 s := by
  refine ⟨by omega, fun _ => ⟨g, 0, rfl, bk_lt h, fun i hi => ⟨v i, hs i hi, ?_⟩⟩⟩
  have hjj : i = 0 ∨ i = 1 ∨ i = 2 ∨ i = 3 := by omega
  rcases hjj with rfl | rfl | rfl | rfl
  · exact ⟨(bk_cell h 0).trans rfl, (bk_cell h 1).trans rfl, (bk_cell h 2).trans rfl, (bk_cell h 3).trans rfl⟩
  · exact ⟨(bk_cell h 4).trans rfl, (bk_cell h 5).trans rfl, (bk_cell h 6).trans rfl, (bk_cell h 7).trans rfl⟩
  · exact ⟨(bk_cell h 8).trans rfl, (bk_cell h 9).trans rfl, (bk_cell h 10).trans rfl, (bk_cell h 11).trans rfl⟩
  · exact ⟨(bk_cell h 12).trans rfl, (bk_cell h 13).trans rfl, (bk_cell h 14).trans rfl, (bk_cell h 15).trans rfl⟩

theorem few03_l (A : Option Addr) (n c : Nat) (s : Nat → SetM) (w : World) (hs : SetsR w A n s) : Calls Try.prog 24 #[.slice A n c] w fun e w' => ∃ r : Bool, e = .returned (.bool r) ∧ (r = true → ∀ j, j < n → ShortM (s j)) ∧ w = w' := few03_len A n c s w hs
theorem few03_b (A : Option Addr) (n c : Nat) (s : Nat → SetM) (w : World) (hs : SetsR w A n s) : Calls Try.prog 24 #[.slice A n c] w fun e w' => ∃ r : Bool, e = .returned (.bool r) ∧ w = w' := few03_any A n c s w hs

set_option maxHeartbeats 4000000 in
set_option maxRecDepth 100000 in
theorem few04_len (A : Option Addr) (n c : Nat) (fs : List (Nat → SetM)) (w : World) (hf : FilterR w A n fs) : Calls Try.prog 10 #[.slice A n c] w (SayB (∀ s, s ∈ fs → ∀ j, j < 4 → ShortM (s j)) w) := by
  have HF := hide hf
  have hn63 := hf.2.1
  clear hf
  go_enter Try.func10, Try.ntmps10
  go_wp2_with fail
  go_loopg [3] n (fun q i wr => ∃ j : Nat, i = .int .i64 j ∧ j ≤ n ∧ q + j = n ∧ Hid (∀ i s, i < j → fs[i]? = some s → ∀ k, k < 4 → ShortM (s k)) ∧ Below w.heap.size w wr)
  case atStart => exact ⟨0, rfl, by omega, by omega, hide (fun i s hi => absurd hi (by omega)), Below.refl _ _⟩
  case round =>
    obtain ⟨j, rfl, hj, hq, HK, hB⟩ := hrel
    by_cases hlt : j < n
    · obtain ⟨hlen, _, hrd⟩ := HF.out
      obtain ⟨b, off, rfl, hbl, hcell⟩ := hrd (by omega)
      obtain ⟨s, hri⟩ : ∃ r, fs[j]? = some r := ⟨_, List.getElem?_eq_getElem (by omega)⟩
      obtain ⟨v, hbc, hsr⟩ := hcell j _ hri
      have hbc2 := hbc.below hB hbl
      have hz0 := hB.size
      have HC := hide hbc2
      have HCA : Hid (∀ o, BoxC (wr.drew.alloc o) b (off + j * 16) s v) := fun o => hbc2.below ((Below.refl wr.heap.size wr).drew.alloc (by simp) o) (by omega)
      have HSA : Hid (∀ o i, i < 4 → SetR (wr.drew.alloc o) (v i) (s i)) := fun o i hi => ((hsr i hi).below hB).below ((Below.refl wr.heap.size wr).drew.alloc (by simp) o)
      have hlti : (j : Int) < n := by omega
      have HRI := hide hri
      clear hcell hri hlen hrd hsr hbc hbc2
      go_wp2_with fail
      go_region_held3 (fun w' => w'.cell? ⟨b, off + j * 16, none⟩ = some (.bool (s 0).a) ∧ w'.cell? ⟨b, off + j * 16 + 1, none⟩ = some (.slice (v 0).A (v 0).n (v 0).c) ∧ w'.cell? ⟨b, off + j * 16 + 2, none⟩ = some (.bool (s 0).co) ∧ w'.cell? ⟨b, off + j * 16 + 3, none⟩ = some (.slice (v 0).B (v 0).m (v 0).d) ∧ w'.cell? ⟨b, off + j * 16 + 4, none⟩ = some (.bool (s 1).a) ∧ w'.cell? ⟨b, off + j * 16 + 5, none⟩ = some (.slice (v 1).A (v 1).n (v 1).c) ∧ w'.cell? ⟨b, off + j * 16 + 6, none⟩ = some (.bool (s 1).co) ∧ w'.cell? ⟨b, off + j * 16 + 7, none⟩ = some (.slice (v 1).B (v 1).m (v 1).d) ∧ w'.cell? ⟨b, off + j * 16 + 8, none⟩ = some (.bool (s 2).a) ∧ w'.cell? ⟨b, off + j * 16 + 9, none⟩ = some (.slice (v 2).A (v 2).n (v 2).c) ∧ w'.cell? ⟨b, off + j * 16 + 10, none⟩ = some (.bool (s 2).co) ∧ w'.cell? ⟨b, off + j * 16 + 11, none⟩ = some (.slice (v 2).B (v 2).m (v 2).d) ∧ w'.cell? ⟨b, off + j * 16 + 12, none⟩ = some (.bool (s 3).a) ∧ w'.cell? ⟨b, off + j * 16 + 13, none⟩ = some (.slice (v 3).A (v 3).n (v 3).c) ∧ w'.cell? ⟨b, off + j * 16 + 14, none⟩ = some (.bool (s 3).co) ∧ w'.cell? ⟨b, off + j * 16 + 15, none⟩ = some (.slice (v 3).B (v 3).m (v 3).d)) (first | exact HC.out | exact HCA.out _) (first | (go_at_call 24; refine (few03_l _ _ _ s _ (sets4 (v := v) (bk_new _ _) (HSA.out _))).mono ?_; rintro e' w' ⟨r, rfl, hP, rfl⟩; have HP := hide hP; clear hP))
      cases r
      · go_wp2_with fail
        go_ret
        exact ⟨⟨_, rfl, fun h => nomatch h⟩, (hB.drew).alloc hz0 _⟩
      · go_wp2_with fail
        go_roundg (n - (j + 1))
        case measure => omega
        case rel => exact ⟨j + 1, by go_num, by omega, by omega, hide (fun i s2 hi h2 => by
          by_cases e : i = j
          · subst e
            obtain rfl := Option.some.inj (HRI.out.symm.trans h2)
            exact HP.out (by first | trivial | rfl)
          · exact HK.out i s2 (by omega) h2), (hB.drew).alloc hz0 _⟩
    · have hlti : ¬ (j : Int) < n := by omega
      go_wp2_with fail
      go_ret
      refine ⟨⟨_, rfl, fun _ s2 hs2 => ?_⟩, hB⟩
      obtain ⟨i, hi⟩ := List.mem_iff_getElem?.1 hs2
      have hl := HF.out.1
      have hi2 := (List.getElem?_eq_some_iff.1 hi).1
      exact HK.out i s2 (by omega) hi

theorem few04_any (A : Option Addr) (n c : Nat) (fs : List (Nat → SetM)) (w : World) (hf : FilterR w A n fs) : Calls Try.prog 10 #[.slice A n c] w (SomeB w) :=
  (few04_len A n c fs w hf).mono (by rintro e w' ⟨⟨r, h1, -⟩, h2⟩; exact ⟨⟨r, h1⟩, h2⟩)

def SomeFew (n : Nat) (w : World) (e : Ending) (w' : World) : Prop := (∃ r : Bool, e = .returned (.bool r) ∧ (r = true → n ≤ 20)) ∧ Below w.heap.size w w'
set_option maxHeartbeats 1000000 in
theorem few06_len (A : Option Addr) (n c : Nat) (fs : List (Nat → SetM)) (w : World) (hf : FilterR w A n fs) : Calls Try.prog 8 #[.slice A n c] w (SayB (n ≤ 20 ∧ ∀ s, s ∈ fs → ∀ j, j < 4 → ShortM (s j)) w) := by
  have HF := hide hf
  clear hf
  by_cases hn : n ≤ 20
  · have hn' : (n : Int) ≤ 20 := by omega
    go_enter Try.func8, Try.ntmps8
    go_wp2_with fail
    refine (few04_len A n c fs w HF.out).mono ?_
    rintro e w1 ⟨⟨r, rfl, hP⟩, hb1⟩
    have HP := hide hP
    clear hP
    go_wp2_with fail
    go_ret
    exact ⟨⟨r, rfl, fun h => ⟨hn, HP.out h⟩⟩, hb1⟩
  · have hn' : ¬ (n : Int) ≤ 20 := by omega
    go_enter Try.func8, Try.ntmps8
    go_wp2_with fail
    go_ret
    exact ⟨⟨false, rfl, fun h => by simp at h⟩, Below.refl _ _⟩
theorem few06_any (A : Option Addr) (n c : Nat) (fs : List (Nat → SetM)) (w : World) (hf : FilterR w A n fs) : Calls Try.prog 8 #[.slice A n c] w (SomeFew n w) :=
  (few06_len A n c fs w hf).mono (by rintro e w' ⟨⟨r, h1, h3⟩, h2⟩; exact ⟨⟨r, h1, fun h => (h3 h).1⟩, h2⟩)
end Go.Proofs.Ytfhokhhpfdmfiaa
