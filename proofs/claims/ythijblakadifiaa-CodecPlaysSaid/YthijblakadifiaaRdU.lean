/- The method Uint of codec.Reader: what it reads, and what it leaves of the reader. -/
import Derived.Test.YthijblakadifiaaRdr
namespace Go.Proofs.Ythijblakadifiaa
open Go.RowKit

/-- What a reader that isn't stopped reads as a number: the number, what is left, and the error. -/
def uRd : Bool → Nat → List UInt8 → Nat × List UInt8 × Int
  | _, _, [] => (0, [], 3)
  | first, n, c :: t => if (first = true ∧ c.toNat = 128) ∨ n > 144115188075855871 then (0, [], 2) else if c.toNat < 128 then (n * 128 + c.toNat, t, 0) else uRd false (n * 128 + (c.toNat - 128)) t

theorem bs_head (c : UInt8) (t : List UInt8) (h : 0 < (bs (c :: t)).size) : (bs (c :: t))[0]'h = c := rfl
theorem bs_tail (c : UInt8) (t : List UInt8) : (bs (c :: t)).extract 1 (bs (c :: t)).size = bs t := by
  apply ByteArray.ext
  simp [bs, ByteArray.size]
theorem es_bs : es = bs [] := rfl

theorem byte_at (b : Nat) (c : UInt8) (t : List UInt8) (e0 : Int) (w : World) (h : Rdr w b (bs (c :: t)) e0) : Calls Try.prog 22 #[.pointer (some ⟨b, 0, none⟩)] w fun e w' => e = .returned (.int .u8 (c.toNat : Int)) ∧ Rdr w' b (bs t) e0 ∧ w.grownBy w' (some b) := by
  refine (byte_cons b (bs (c :: t)) (by rw [bs_size]; simp) e0 w h).mono ?_
  rintro e w' ⟨he, hr, hg⟩
  rw [bs_tail] at hr
  exact ⟨he, hr, hg⟩
theorem uRd_form (first : Bool) (m : Nat) (c : UInt8) (t : List UInt8) (h : (first = true ∧ c.toNat = 128) ∨ m > 144115188075855871) : uRd first m (c :: t) = (0, [], 2) := by
  rw [uRd, if_pos h]
theorem uRd_end (first : Bool) (m : Nat) (c : UInt8) (t : List UInt8) (h : ¬ ((first = true ∧ c.toNat = 128) ∨ m > 144115188075855871)) (hc : c.toNat < 128) : uRd first m (c :: t) = (m * 128 + c.toNat, t, 0) := by
  rw [uRd, if_neg h, if_pos hc]
theorem uRd_on (first : Bool) (m : Nat) (c : UInt8) (t : List UInt8) (h : ¬ ((first = true ∧ c.toNat = 128) ∨ m > 144115188075855871)) (hc : ¬ c.toNat < 128) : uRd first m (c :: t) = uRd false (m * 128 + (c.toNat - 128)) t := by
  rw [uRd, if_neg h, if_neg hc]

set_option maxHeartbeats 1000000 in
set_option maxRecDepth 100000 in
theorem uint_rd (b : Nat) (l : List UInt8) (w : World) (h : Rdr w b (bs l) 0) : Calls Try.prog 17 #[.pointer (some ⟨b, 0, none⟩)] w fun e w' => e = .returned (.int .u64 ((uRd true 0 l).1 : Int)) ∧ Rdr w' b (bs (uRd true 0 l).2.1) (uRd true 0 l).2.2 ∧ w.grownBy w' (some b) := by
  go_enter Try.func17, Try.ntmps17
  go_wp2
  go_loopg [3, 4] (l.length + 2) (fun g n f wr => ∃ (m : Nat) (first : Bool) (r : List UInt8) (e : Int), n = .int .u64 m ∧ f = .bool first ∧ m ≤ 18446744073709551615 ∧ Rdr wr b (bs r) e ∧ w.grownBy wr (some b) ∧ ((e = 0 ∧ r.length + 2 ≤ g ∧ uRd true 0 l = uRd first m r) ∨ (e ≠ 0 ∧ 0 < g ∧ uRd true 0 l = (0, r, e))))
  case atStart => exact ⟨0, true, l, 0, rfl, rfl, by omega, h, grown_refl _ _, .inl ⟨rfl, by omega, rfl⟩⟩
  case round =>
    obtain ⟨m, first, r, e, rfl, rfl, hm, hr, hg, hc⟩ := hrel
    have HR := hide hr
    have HC := hide hc
    clear hr hc h
    by_cases he : e = 0
    · subst he
      cases r with
      | nil =>
        go_wp2_with fail
        refine (err_any _ _ _ _ HR.out).mono ?_
        rintro e w' ⟨rfl, rfl⟩
        go_wp2_with fail
        refine (byte_nil _ _ rfl _ _ HR.out).mono ?_
        rintro e w1 ⟨rfl, hr1, hg1⟩
        have HR1 : Hid (Rdr w1 b (bs []) 3) := hr1
        clear hr1
        go_wp2_with fail
        refine (err_any _ _ _ _ HR1.out).mono ?_
        rintro e w' ⟨rfl, rfl⟩
        go_wp2_with fail
        go_roundg 1
        case measure =>
          rcases HC.out with ⟨_, hl, _⟩ | ⟨h, _⟩
          · simp at hl; omega
          · exact absurd rfl h
        case rel =>
          refine ⟨m, false, [], 3, rfl, rfl, hm, HR1.out, grown_trans hg hg1, .inr ⟨by omega, by omega, ?_⟩⟩
          rcases HC.out with ⟨_, hl, h⟩ | ⟨h, _⟩
          · rw [h]; rfl
          · exact absurd rfl h
      | cons c t =>
        have hc256 : c.toNat < 256 := c.toNat_lt
        rcases HC.out with ⟨_, hl, hu⟩ | ⟨h, _⟩
        rotate_left
        · exact absurd rfl h
        have HU := hide hu
        have hl1 : t.length + 3 ≤ gk := by simp at hl; omega
        clear HC hl hu
        go_wp2_with fail
        refine (err_any _ _ _ _ HR.out).mono ?_
        rintro e w' ⟨rfl, rfl⟩
        go_wp2_with fail
        refine (byte_at _ _ _ _ _ HR.out).mono ?_
        rintro e w1 ⟨rfl, hr1, hg1⟩
        have HR1 := hide hr1
        clear hr1
        go_wp2_with fail
        refine (err_any _ _ _ _ HR1.out).mono ?_
        rintro e w' ⟨rfl, rfl⟩
        by_cases hf : (first = true ∧ c.toNat = 128) ∨ m > 144115188075855871
        · have HU2 := hide (HU.out.trans (uRd_form _ _ _ _ hf))
          rcases hf with ⟨rfl, hd⟩ | hm1
          · have hd1 : ((c.toNat : Int) == 128) = true := by simp [hd]
            have HD := hide hd
            clear hd
            go_wp2_with fail
            refine (fail_any _ _ _ _ _ HR1.out).mono ?_
            rintro e w2 ⟨rfl, hr2, hg2⟩
            have HR2 : Hid (Rdr w2 b (bs []) 2) := hr2
            clear hr2
            go_wp2_with fail
            go_roundg 1
            case measure => omega
            case rel => exact ⟨m, false, [], 2, rfl, rfl, hm, HR2.out, grown_trans (grown_trans hg hg1) hg2, .inr ⟨by omega, by omega, HU2.out⟩⟩
          · cases first
            · go_wp2_with fail
              refine (fail_any _ _ _ _ _ HR1.out).mono ?_
              rintro e w2 ⟨rfl, hr2, hg2⟩
              have HR2 : Hid (Rdr w2 b (bs []) 2) := hr2
              clear hr2
              go_wp2_with fail
              go_roundg 1
              case measure => omega
              case rel => exact ⟨m, false, [], 2, rfl, rfl, hm, HR2.out, grown_trans (grown_trans hg hg1) hg2, .inr ⟨by omega, by omega, HU2.out⟩⟩
            · by_cases hd : c.toNat = 128
              all_goals
                have hd1 : ((c.toNat : Int) == 128) = decide (c.toNat = 128) := by
                  rw [Bool.eq_iff_iff]; simp
                  omega
                first | (rw [decide_eq_true hd] at hd1) | (rw [decide_eq_false hd] at hd1)
                have HD := hide hd
                clear hd
                go_wp2_with fail
                refine (fail_any _ _ _ _ _ HR1.out).mono ?_
                rintro e w2 ⟨rfl, hr2, hg2⟩
                have HR2 : Hid (Rdr w2 b (bs []) 2) := hr2
                clear hr2
                go_wp2_with fail
                go_roundg 1
                case measure => omega
                case rel => exact ⟨m, false, [], 2, rfl, rfl, hm, HR2.out, grown_trans (grown_trans hg hg1) hg2, .inr ⟨by omega, by omega, HU2.out⟩⟩
        · have hm1 : m ≤ 144115188075855871 := by omega
          have hfd : (first && ((c.toNat : Int) == 128)) = false := by
            cases first
            · rfl
            · rw [Bool.true_and, beq_eq_false_iff_ne]
              intro h
              exact hf (.inl ⟨rfl, by omega⟩)
          by_cases hlt : c.toNat < 128
          · have HU2 := hide (HU.out.trans (uRd_end _ _ _ _ hf hlt))
            have HF := hide hf
            clear hf
            cases first
            all_goals
              first | rw [Bool.true_and] at hfd | clear hfd
              go_wp2_with fail
              go_ret
              rw [HU2.out]
              exact ⟨ret_int (by omega), HR1.out, grown_trans hg hg1⟩
          · have HU2 := hide (HU.out.trans (uRd_on _ _ _ _ hf hlt))
            have HF := hide hf
            clear hf
            cases first
            all_goals
              first | rw [Bool.true_and] at hfd | clear hfd
              go_wp2_with fail
              go_roundg (t.length + 2)
              case measure => omega
              case rel => exact ⟨m * 128 + (c.toNat - 128), false, t, 0, by go_num, rfl, by omega, HR1.out, grown_trans hg hg1, .inl ⟨rfl, by omega, HU2.out⟩⟩
    · have he1 : (e == 0) = false := by simpa using he
      have HE := hide he
      clear he
      go_wp2_with fail
      refine (err_any _ _ _ _ HR.out).mono ?_
      rintro e1 w' ⟨rfl, rfl⟩
      go_wp2_with fail
      go_ret
      rcases HC.out with ⟨h, _⟩ | ⟨_, _, h⟩
      · exact absurd h HE.out
      · rw [h]; exact ⟨rfl, HR.out, hg⟩

set_option maxHeartbeats 400000 in
theorem uint_stopped (b : Nat) (s : ByteArray) (e0 : Int) (he : e0 ≠ 0) (w : World) (h : Rdr w b s e0) : Calls Try.prog 17 #[.pointer (some ⟨b, 0, none⟩)] w fun e w' => e = .returned (.int .u64 0) ∧ w = w' := by
  have he1 : (e0 == 0) = false := by simpa using he
  have HR := hide h
  clear h he
  go_enter Try.func17, Try.ntmps17
  go_wp2
  refine wp_loop_rounds 1 ?_
  rw [rounds_succ]
  go_wp2_with fail
  refine (err_any _ _ _ _ HR.out).mono ?_
  rintro e1 w' ⟨rfl, rfl⟩
  go_wp2_with fail
  go_ret
  exact ⟨rfl, rfl⟩
set_option maxHeartbeats 400000 in
theorem uint_nil (w : World) : Calls Try.prog 17 #[.pointer none] w fun e w' => e = .returned (.int .u64 0) ∧ w = w' := by
  go_enter Try.func17, Try.ntmps17
  go_wp2
  refine wp_loop_rounds 1 ?_
  rw [rounds_succ]
  go_wp2_with fail
  refine (err_nil _).mono ?_
  rintro e1 w' ⟨rfl, rfl⟩
  go_wp2_with fail
  go_ret
  exact ⟨rfl, rfl⟩
end Go.Proofs.Ythijblakadifiaa
