/- The walk of the statement CodecPlays. -/
import Derived.Test.YthijblakadifiaaRefS
import Derived.Test.YthijblakadifiaaStopsW
import Derived.Deep.RegionHeld3
namespace Go.Proofs.Ythijblakadifiaa
open Go.RowKit
attribute [local go_sem] bs_list

theorem quiet_add {P : Program} {f : FuncId} {args : Array Value} {w : World} {a n : Nat} {v : Value}
    (h : Calls P f args (w.drewN (a + n)) fun e w' => e = .returned v ∧ ∃ m, w' = (w.drewN (a + n)).drewN m) :
    Calls P f args (w.drewN (a + n)) fun e w'' => e = .returned v ∧ ∃ m, w'' = w.drewN (a + m) :=
  h.mono fun _ _ ⟨he, m, hm⟩ => ⟨he, n + m, by rw [hm, World.drewN_drewN, Nat.add_assoc]⟩
theorem quiet_add_left {P : Program} {f : FuncId} {args : Array Value} {w : World} {a n : Nat} {v : Value}
    (h : Calls P f args (w.drewN (a + n)) fun e w' => e = .returned v ∧ w.drewN (a + n) = w') :
    Calls P f args (w.drewN (a + n)) fun e w'' => e = .returned v ∧ ∃ m, w'' = w.drewN (a + m) :=
  h.mono fun _ _ ⟨he, hm⟩ => ⟨he, n, hm.symm⟩
theorem quiet_left {P : Program} {f : FuncId} {args : Array Value} {w : World} {n : Nat} {v : Value}
    (h : Calls P f args (w.drewN n) fun e w' => e = .returned v ∧ w.drewN n = w') : Calls P f args (w.drewN n) fun e w'' => e = .returned v ∧ ∃ m, w'' = w.drewN m :=
  h.mono fun _ _ ⟨he, hm⟩ => ⟨he, n, hm.symm⟩

/-- Two readers at one place: the program's at b1, the reference's at b2. -/
structure Pair (w : World) (b1 b2 : Nat) (S l : List UInt8) (e : Int) : Prop where
  r : Rdr w b1 (bs l) e
  q : RRs w b2 S l e
  le : l.length ≤ S.length
theorem Pair.alloc {w : World} {b1 b2 : Nat} {S l : List UInt8} {e : Int} (h : Pair w b1 b2 S l e) (o : Obj) : Pair (w.alloc o) b1 b2 S l e := ⟨bk_alloc h.r o, h.q.alloc o, h.le⟩
theorem Pair.drewN {w : World} {b1 b2 : Nat} {S l : List UInt8} {e : Int} (h : Pair w b1 b2 S l e) (n : Nat) : Pair (w.drewN n) b1 b2 S l e := ⟨h.r, h.q, h.le⟩

theorem sR_len (l : List UInt8) (e most : Int) : (sR l e most).2.1.length ≤ l.length := by
  have := uR_len l e
  unfold sR
  generalize (if most < 0 then (0 : Int) else most) = M
  by_cases c1 : M < (uR l e).1
  · rw [if_pos c1]; simp
  · rw [if_neg c1]
    by_cases c2 : (uR l e).2.1.length < (uR l e).1
    · rw [if_pos c2]; simp
    · rw [if_neg c2]
      by_cases c3 : (uR l e).2.2 ≠ 0
      · rw [if_pos c3]; exact this
      · rw [if_neg c3]
        have h2 : ((uR l e).2.1.drop (uR l e).1).length ≤ (uR l e).2.1.length := by simp
        exact Nat.le_trans h2 this
theorem left_len (b : Nat) (l : List UInt8) (e0 : Int) (w : World) (h : Rdr w b (bs l) e0) : Calls Try.prog 20 #[.pointer (some ⟨b, 0, none⟩)] w fun e w' => e = .returned (.int .i64 (l.length : Int)) ∧ w = w' := by
  have := left_any b (bs l) e0 w h
  rwa [bs_size] at this
/-- What stopping leaves. -/
def stL (l : List UInt8) (e k : Int) : List UInt8 := if e = 0 ∧ k ≠ 0 then [] else l
def stE (e k : Int) : Int := if e = 0 ∧ k ≠ 0 then k else e
theorem fS_stL (l : List UInt8) (e k : Int) : fS (bs l) e k = bs (stL l e k) := by unfold fS stL; split <;> rfl
theorem bytL_len (l : List UInt8) : l.tail.length ≤ l.length := by simp

/-- What a byte is: program and reference alike. -/
def byR : List UInt8 → Int → Int × List UInt8 × Int
  | [], e => (0, [], if e = 0 then 3 else e)
  | c :: t, e => ((c.toNat : Int), t, e)
theorem byR_len (l : List UInt8) (e : Int) : (byR l e).2.1.length ≤ l.length := by cases l <;> simp [byR]
theorem byR_range (l : List UInt8) (e : Int) : 0 ≤ (byR l e).1 ∧ (byR l e).1 ≤ 255 := by
  cases l with
  | nil => simp [byR]
  | cons c t => have := c.toNat_lt; simp only [byR]; omega
theorem byte_p (b : Nat) (l : List UInt8) (e0 : Int) (w : World) (h : Rdr w b (bs l) e0) : Calls Try.prog 22 #[.pointer (some ⟨b, 0, none⟩)] w fun e w' => e = .returned (.int .u8 (byR l e0).1) ∧ Rdr w' b (bs (byR l e0).2.1) (byR l e0).2.2 ∧ w.grownBy w' (some b) := by
  cases l with
  | nil =>
    refine (byte_nil b (bs []) rfl e0 w h).mono ?_
    rintro e w' ⟨he, hr, hg⟩
    refine ⟨he, ?_, hg⟩
    have e1 : fS (bs []) e0 3 = bs [] := by unfold fS; split <;> rfl
    have e2 : fE e0 3 = if e0 = 0 then 3 else e0 := by unfold fE; simp
    rw [e1, e2] at hr
    exact hr
  | cons c t => exact byte_at b c t e0 w h
theorem byte_q (b : Nat) (S l : List UInt8) (e0 : Int) (w : World) (hs : S.length ≤ 4611686018427387903) (h : RRs w b S l e0) : Calls Try.prog 23 #[.pointer (some ⟨b, 0, none⟩)] w fun e w' => e = .returned (.int .u8 (byR l e0).1) ∧ RRs w' b S (byR l e0).2.1 (byR l e0).2.2 ∧ w.grownBy w' (some b) := by
  cases l with
  | nil => exact rbyte_nil b S e0 w h
  | cons c t => exact rbyte_cons b S c t e0 w hs h

set_option maxHeartbeats 4000000 in
set_option maxRecDepth 100000 in
theorem plays_near (S : List UInt8) (hs : (bs S).size ≤ 2000) (A : Option Addr) (n cap : Nat) (hn : n ≤ 200) (k m : Nat → Int) (w : World) (ho : OpsR w A n k m) :
    Calls Try.prog 6 #[.string (bs S), .slice A n cap] w fun e w' => e = .returned (.bool true) ∧ Below w.heap.size w w' := by
  have HS : Hid (S.length ≤ 4611686018427387903) := by have := bs_size S; show _ ≤ _; omega
  have HO := hide ho
  clear ho
  go_enter Try.func6, Try.ntmps6
  go_wp2_with fail
  refine (awake_any _).mono ?_
  rintro e w1 ⟨rfl, hb1⟩
  go_wp2_with fail
  refine (long_no _ A n cap hs hn _).mono ?_
  rintro e w' ⟨rfl, rfl⟩
  go_wp2_with fail
  refine (read_any _ _).mono ?_
  rintro e w2 ⟨rfl, hr2, hb2⟩
  have lt2 := hr2.lt
  have hB2 : Below w.heap.size w w2 := below_step hb1 hb1.size hb2
  have hz1 := hb1.size
  have PR : Hid (Pair (w2.alloc (.cells #[.string (bs S), .int .i64 0, .int .i64 0] 40)) w1.heap.size w2.heap.size S S 0) :=
    ⟨bk_alloc hr2 _, ⟨0, bk_new _ _, by omega, fun _ => rfl, fun h => absurd rfl h⟩, Nat.le_refl _⟩
  clear hr2
  go_wp2_with fail
  go_loopg [25] n (fun q i wr => ∃ (j : Nat) (l : List UInt8) (e : Int), i = .int .i64 j ∧ j ≤ n ∧ q + j = n ∧ Pair wr w1.heap.size w2.heap.size S l e ∧ Below w.heap.size w wr ∧ w2.heap.size < wr.heap.size)
  case atStart => exact ⟨0, S, 0, rfl, by omega, by omega, PR.out, hB2.alloc hB2.size _, by simp⟩
  case round =>
    obtain ⟨j, l, e0, rfl, hj, hq, hP, hB, hz2⟩ := hrel
    have HP := hide hP
    clear hP
    by_cases hlt : j < n
    · obtain ⟨b, off, rfl, hbl, hcell⟩ := HO.out (by omega)
      obtain ⟨c0, c1, m0, m1⟩ := hcell j hlt
      have d0 : wr.cell? ⟨b, off + j * 2, none⟩ = some (.int .i64 (k j)) := (hB.cell (p := ⟨b, off + j * 2, none⟩) hbl).trans c0
      have d1 : wr.cell? ⟨b, off + j * 2 + 1, none⟩ = some (.int .i64 (m j)) := (hB.cell (p := ⟨b, off + j * 2 + 1, none⟩) hbl).trans c1
      have hs1 := hB.size
      clear c0 c1 hcell
      have hlti : (j : Int) < n := by omega
      generalize hkj : k j = kj at *
      generalize hmj : m j = mj at *
      clear hkj hmj
      have PA : Hid (∀ o, Pair (wr.alloc o) w1.heap.size w2.heap.size S l e0) := fun o => HP.out.alloc o
      by_cases k1 : kj = 1
      · have q1 : (kj == 1) = true := by rw [beq_iff_eq]; omega
        clear k1
        go_wp2_with fail
        refine (byte_p _ _ _ _ (PA.out _).r).mono ?_
        rintro e w3 ⟨rfl, hr3, hg3⟩
        have Q3 : Hid (RRs w3 w2.heap.size S l e0) := (PA.out _).q.grown hg3 (by simp; omega)
        have R3 := hide hr3
        have g3 : w3.cell? ⟨wr.heap.size, 1, none⟩ = some (.int .i64 mj) := (World.cell?_of_block (hg3.block wr.heap.size (by simp) (by simp; omega))).trans (bk_cell (bk_new _ _) 1)
        have z3 := hg3.size
        rw [World.size_alloc] at z3
        clear hr3
        go_wp2_with fail
        refine (byte_q _ _ _ _ _ HS.out Q3.out).mono ?_
        rintro e w4 ⟨rfl, hr4, hg4⟩
        have P4 : Hid (Pair w4 w1.heap.size w2.heap.size S (byR l e0).2.1 (byR l e0).2.2) := ⟨R3.out.grown hg4 (by simp; omega), hr4, Nat.le_trans (byR_len _ _) HP.out.le⟩
        have g4 : w4.cell? ⟨wr.heap.size, 1, none⟩ = some (.int .i64 mj) := (World.cell?_of_block (hg4.block wr.heap.size (by omega) (by simp; omega))).trans g3
        have z4 := hg4.size
        have B4 : Below w.heap.size w w4 := ((hB.alloc hs1 _).grown hg3 (by simp; omega) (by simp; omega)).grown hg4 (by omega) (by simp; omega)
        clear hr4 Q3 R3
        have c2 := P4.out.q.c2
        go_wp2_with fail
        go_quiet (first | (go_at_call 20; first | exact quiet_left (left_len _ _ _ _ (P4.out.drewN _).r) | exact quiet_add_left (left_len _ _ _ _ (P4.out.drewN _).r)) | (go_at_call 30; first | exact Calls.quiet_of (rleft_any _ _ HS.out _ _ _ (P4.out.drewN _).q) | exact quiet_add (rleft_any _ _ HS.out _ _ _ (P4.out.drewN _).q)) | (go_at_call 19; first | exact quiet_left (err_any _ _ _ _ (P4.out.drewN _).r) | exact quiet_add_left (err_any _ _ _ _ (P4.out.drewN _).r)))
        go_wp2_with fail
        go_roundg (n - (j + 1))
        case measure => omega
        case rel => exact ⟨j + 1, _, _, by go_num, by omega, by omega, P4.out.drewN _, below_drewN B4 _, by simp; omega⟩
      · by_cases k2 : kj = 2
        · have q1 : (kj == 1) = false := by rw [beq_eq_false_iff_ne]; omega
          have q2 : (kj == 2) = true := by rw [beq_iff_eq]; omega
          clear k2
          go_wp2_with fail
          refine (uint_rd_any _ _ _ _ (PA.out _).r).mono ?_
          rintro e w3 ⟨rfl, hr3, hg3⟩
          have Q3 : Hid (RRs w3 w2.heap.size S l e0) := (PA.out _).q.grown hg3 (by simp; omega)
          have R3 := hide hr3
          have g3 : w3.cell? ⟨wr.heap.size, 1, none⟩ = some (.int .i64 mj) := (World.cell?_of_block (hg3.block wr.heap.size (by simp) (by simp; omega))).trans (bk_cell (bk_new _ _) 1)
          have z3 := hg3.size
          rw [World.size_alloc] at z3
          clear hr3
          go_wp2_with fail
          refine (ruint_any _ _ HS.out _ _ _ Q3.out).mono ?_
          rintro e w4 ⟨rfl, hr4, hg4⟩
          have P4 : Hid (Pair w4 w1.heap.size w2.heap.size S (uR l e0).2.1 (uR l e0).2.2) := ⟨R3.out.grown hg4 (by simp; omega), hr4, Nat.le_trans (uR_len _ _) HP.out.le⟩
          have g4 : w4.cell? ⟨wr.heap.size, 1, none⟩ = some (.int .i64 mj) := (World.cell?_of_block (hg4.block wr.heap.size (by omega) (by simp; omega))).trans g3
          have z4 := hg4.size
          have B4 : Below w.heap.size w w4 := ((hB.alloc hs1 _).grown hg3 (by simp; omega) (by simp; omega)).grown hg4 (by omega) (by simp; omega)
          clear hr4 Q3 R3
          have c2 := P4.out.q.c2
          go_wp2_with fail
          go_quiet (first | (go_at_call 20; first | exact quiet_left (left_len _ _ _ _ (P4.out.drewN _).r) | exact quiet_add_left (left_len _ _ _ _ (P4.out.drewN _).r)) | (go_at_call 30; first | exact Calls.quiet_of (rleft_any _ _ HS.out _ _ _ (P4.out.drewN _).q) | exact quiet_add (rleft_any _ _ HS.out _ _ _ (P4.out.drewN _).q)) | (go_at_call 19; first | exact quiet_left (err_any _ _ _ _ (P4.out.drewN _).r) | exact quiet_add_left (err_any _ _ _ _ (P4.out.drewN _).r)))
          go_wp2_with fail
          go_roundg (n - (j + 1))
          case measure => omega
          case rel => exact ⟨j + 1, _, _, by go_num, by omega, by omega, P4.out.drewN _, below_drewN B4 _, by simp; omega⟩
        · by_cases k3 : kj = 3
          · have q1 : (kj == 1) = false := by rw [beq_eq_false_iff_ne]; omega
            have q2 : (kj == 2) = false := by rw [beq_eq_false_iff_ne]; omega
            have q3 : (kj == 3) = true := by rw [beq_iff_eq]; omega
            clear k3
            go_wp2_with fail
            refine (int_rd _ _ _ _ (PA.out _).r).mono ?_
            rintro e w3 ⟨rfl, hr3, hg3⟩
            have Q3 : Hid (RRs w3 w2.heap.size S l e0) := (PA.out _).q.grown hg3 (by simp; omega)
            have R3 := hide hr3
            have g3 : w3.cell? ⟨wr.heap.size, 1, none⟩ = some (.int .i64 mj) := (World.cell?_of_block (hg3.block wr.heap.size (by simp) (by simp; omega))).trans (bk_cell (bk_new _ _) 1)
            have z3 := hg3.size
            rw [World.size_alloc] at z3
            clear hr3
            go_wp2_with fail
            refine (rint_any _ _ HS.out _ _ _ Q3.out).mono ?_
            rintro e w4 ⟨rfl, hr4, hg4⟩
            have P4 : Hid (Pair w4 w1.heap.size w2.heap.size S (uR l e0).2.1 (uR l e0).2.2) := ⟨R3.out.grown hg4 (by simp; omega), hr4, Nat.le_trans (uR_len _ _) HP.out.le⟩
            have g4 : w4.cell? ⟨wr.heap.size, 1, none⟩ = some (.int .i64 mj) := (World.cell?_of_block (hg4.block wr.heap.size (by omega) (by simp; omega))).trans g3
            have z4 := hg4.size
            have B4 : Below w.heap.size w w4 := ((hB.alloc hs1 _).grown hg3 (by simp; omega) (by simp; omega)).grown hg4 (by omega) (by simp; omega)
            clear hr4 Q3 R3
            have c2 := P4.out.q.c2
            go_wp2_with fail
            go_quiet (first | (go_at_call 20; first | exact quiet_left (left_len _ _ _ _ (P4.out.drewN _).r) | exact quiet_add_left (left_len _ _ _ _ (P4.out.drewN _).r)) | (go_at_call 30; first | exact Calls.quiet_of (rleft_any _ _ HS.out _ _ _ (P4.out.drewN _).q) | exact quiet_add (rleft_any _ _ HS.out _ _ _ (P4.out.drewN _).q)) | (go_at_call 19; first | exact quiet_left (err_any _ _ _ _ (P4.out.drewN _).r) | exact quiet_add_left (err_any _ _ _ _ (P4.out.drewN _).r)))
            go_wp2_with fail
            go_roundg (n - (j + 1))
            case measure => omega
            case rel => exact ⟨j + 1, _, _, by go_num, by omega, by omega, P4.out.drewN _, below_drewN B4 _, by simp; omega⟩
          · by_cases k4 : kj = 4
            · have q1 : (kj == 1) = false := by rw [beq_eq_false_iff_ne]; omega
              have q2 : (kj == 2) = false := by rw [beq_eq_false_iff_ne]; omega
              have q3 : (kj == 3) = false := by rw [beq_eq_false_iff_ne]; omega
              have q4 : (kj == 4) = true := by rw [beq_iff_eq]; omega
              clear k4
              have g0 : (wr.alloc (.cells #[.int .i64 kj, .int .i64 mj] 42)).cell? ⟨wr.heap.size, 1, none⟩ = some (.int .i64 mj) := bk_cell (bk_new _ _) 1
              have PD : Hid (∀ o, Pair (wr.alloc o).drew w1.heap.size w2.heap.size S l e0) := fun o => (PA.out o).drewN 1
              have LE : Hid (l.length ≤ 4611686018427387903) := by have := HP.out.le; have := HS.out; show _ ≤ _; omega
              go_wp2_with fail
              go_region_held3 (fun w' => w'.cell? ⟨wr.heap.size, 1, none⟩ = some (.int .i64 mj)) (first | assumption | exact g0) (first | (go_at_call 26; refine (str_rd0 _ _ _ _ m0 m1 _ (PD.out _).r LE.out).mono ?_; rintro e w3 ⟨rfl, hr3, hg3⟩; have Q3 : Hid (RRs w3 w2.heap.size S l e0) := (PD.out _).q.grown hg3 (by simp; omega); have R3 := hide hr3; have g3 : w3.cell? ⟨wr.heap.size, 1, none⟩ = some (.int .i64 mj) := (World.cell?_of_block (hg3.block wr.heap.size (by simp) (by simp; omega))).trans (bk_cell (bk_new wr _) 1); have z3 := hg3.size; simp only [World.size_drew, World.size_alloc] at z3; clear hr3) | (go_at_call 27; refine (rstr_any _ _ HS.out _ _ _ m0 m1 _ Q3.out).mono ?_; rintro e w4 ⟨rfl, hr4, hg4⟩; have P4 : Hid (Pair w4 w1.heap.size w2.heap.size S (sR l e0 mj).2.1 (sR l e0 mj).2.2) := ⟨R3.out.grown hg4 (by simp; omega), hr4, Nat.le_trans (sR_len _ _ _) HP.out.le⟩; have g4 : w4.cell? ⟨wr.heap.size, 1, none⟩ = some (.int .i64 mj) := (World.cell?_of_block (hg4.block wr.heap.size (by omega) (by simp; omega))).trans g3; have z4 := hg4.size; have B4 : Below w.heap.size w w4 := (((hB.alloc hs1 _).drew).grown hg3 (by simp; omega) (by simp; omega)).grown hg4 (by omega) (by simp; omega); clear hr4 Q3 R3))
              have c2 := P4.out.q.c2
              go_wp2_with fail
              go_quiet (first | (go_at_call 20; first | exact quiet_left (left_len _ _ _ _ (P4.out.drewN _).r) | exact quiet_add_left (left_len _ _ _ _ (P4.out.drewN _).r)) | (go_at_call 30; first | exact Calls.quiet_of (rleft_any _ _ HS.out _ _ _ (P4.out.drewN _).q) | exact quiet_add (rleft_any _ _ HS.out _ _ _ (P4.out.drewN _).q)) | (go_at_call 19; first | exact quiet_left (err_any _ _ _ _ (P4.out.drewN _).r) | exact quiet_add_left (err_any _ _ _ _ (P4.out.drewN _).r)))
              go_wp2_with fail
              go_roundg (n - (j + 1))
              case measure => omega
              case rel => exact ⟨j + 1, _, _, by go_num, by omega, by omega, P4.out.drewN _, below_drewN B4 _, by simp; omega⟩
            · by_cases k5 : kj = 5
              · have q1 : (kj == 1) = false := by rw [beq_eq_false_iff_ne]; omega
                have q2 : (kj == 2) = false := by rw [beq_eq_false_iff_ne]; omega
                have q3 : (kj == 3) = false := by rw [beq_eq_false_iff_ne]; omega
                have q4 : (kj == 4) = false := by rw [beq_eq_false_iff_ne]; omega
                have q5 : (kj == 5) = true := by rw [beq_iff_eq]; omega
                clear k5
                by_cases hm : mj = 0
                · have hm2 : (mj != 0) = false := by simp [hm]
                  have HM := hide hm
                  clear hm
                  go_wp2_with fail
                  refine (fail_stay _ _ _ _ (.inr HM.out) _ (PA.out _).r).mono ?_
                  rintro e w' ⟨rfl, rfl⟩
                  have P4 := hide (PA.out (.cells #[.int .i64 kj, .int .i64 mj] 42))
                  have B4 : Below w.heap.size w (wr.alloc (.cells #[.int .i64 kj, .int .i64 mj] 42)) := hB.alloc hs1 _
                  have c2 := P4.out.q.c2
                  go_wp2_with fail
                  go_quiet (first | (go_at_call 20; first | exact quiet_left (left_len _ _ _ _ (P4.out.drewN _).r) | exact quiet_add_left (left_len _ _ _ _ (P4.out.drewN _).r)) | (go_at_call 30; first | exact Calls.quiet_of (rleft_any _ _ HS.out _ _ _ (P4.out.drewN _).q) | exact quiet_add (rleft_any _ _ HS.out _ _ _ (P4.out.drewN _).q)) | (go_at_call 19; first | exact quiet_left (err_any _ _ _ _ (P4.out.drewN _).r) | exact quiet_add_left (err_any _ _ _ _ (P4.out.drewN _).r)))
                  go_wp2_with fail
                  go_roundg (n - (j + 1))
                  case measure => omega
                  case rel => exact ⟨j + 1, _, _, by go_num, by omega, by omega, P4.out.drewN _, below_drewN B4 _, by simp; omega⟩
                · have hm2 : (mj != 0) = true := by simpa using hm
                  have HM := hide hm
                  clear hm
                  go_wp2_with fail
                  refine (fail_any _ _ _ _ _ (PA.out _).r).mono ?_
                  rintro e w3 ⟨rfl, hr3, hg3⟩
                  have Q3 : Hid (RRs w3 w2.heap.size S l e0) := (PA.out _).q.grown hg3 (by simp; omega)
                  have R3 := hide hr3
                  have g3 : w3.cell? ⟨wr.heap.size, 1, none⟩ = some (.int .i64 mj) := (World.cell?_of_block (hg3.block wr.heap.size (by simp) (by simp; omega))).trans (bk_cell (bk_new _ _) 1)
                  have z3 := hg3.size
                  rw [World.size_alloc] at z3
                  clear hr3
                  go_wp2_with fail
                  refine (rstop_any _ _ _ _ _ _ Q3.out).mono ?_
                  rintro e w4 ⟨rfl, hr4, hg4⟩
                  have P4 : Hid (Pair w4 w1.heap.size w2.heap.size S (stL l e0 mj) (stE e0 mj)) := by
                    have h1 := R3.out.grown hg4 (by simp; omega)
                    rw [fS_stL] at h1
                    have h2 : (if e0 = 0 then mj else e0) = stE e0 mj := by unfold stE; simp [HM.out]
                    rw [h2] at hr4
                    refine ⟨h1, hr4, ?_⟩
                    have := HP.out.le
                    unfold stL; split
                    · simp
                    · exact this
                  have g4 : w4.cell? ⟨wr.heap.size, 1, none⟩ = some (.int .i64 mj) := (World.cell?_of_block (hg4.block wr.heap.size (by omega) (by simp; omega))).trans g3
                  have z4 := hg4.size
                  have B4 : Below w.heap.size w w4 := ((hB.alloc hs1 _).grown hg3 (by simp; omega) (by simp; omega)).grown hg4 (by omega) (by simp; omega)
                  clear hr4 Q3 R3
                  have c2 := P4.out.q.c2
                  go_wp2_with fail
                  go_quiet (first | (go_at_call 20; first | exact quiet_left (left_len _ _ _ _ (P4.out.drewN _).r) | exact quiet_add_left (left_len _ _ _ _ (P4.out.drewN _).r)) | (go_at_call 30; first | exact Calls.quiet_of (rleft_any _ _ HS.out _ _ _ (P4.out.drewN _).q) | exact quiet_add (rleft_any _ _ HS.out _ _ _ (P4.out.drewN _).q)) | (go_at_call 19; first | exact quiet_left (err_any _ _ _ _ (P4.out.drewN _).r) | exact quiet_add_left (err_any _ _ _ _ (P4.out.drewN _).r)))
                  go_wp2_with fail
                  go_roundg (n - (j + 1))
                  case measure => omega
                  case rel => exact ⟨j + 1, _, _, by go_num, by omega, by omega, P4.out.drewN _, below_drewN B4 _, by simp; omega⟩
              · have q1 : (kj == 1) = false := by rw [beq_eq_false_iff_ne]; omega
                have q2 : (kj == 2) = false := by rw [beq_eq_false_iff_ne]; omega
                have q3 : (kj == 3) = false := by rw [beq_eq_false_iff_ne]; omega
                have q4 : (kj == 4) = false := by rw [beq_eq_false_iff_ne]; omega
                have q5 : (kj == 5) = false := by rw [beq_eq_false_iff_ne]; omega
                clear k1 k2 k3 k4 k5
                have P4 := hide (PA.out (.cells #[.int .i64 kj, .int .i64 mj] 42))
                have B4 : Below w.heap.size w (wr.alloc (.cells #[.int .i64 kj, .int .i64 mj] 42)) := hB.alloc hs1 _
                have c2 := P4.out.q.c2
                go_wp2_with fail
                go_quiet (first | (go_at_call 20; first | exact quiet_left (left_len _ _ _ _ (P4.out.drewN _).r) | exact quiet_add_left (left_len _ _ _ _ (P4.out.drewN _).r)) | (go_at_call 30; first | exact Calls.quiet_of (rleft_any _ _ HS.out _ _ _ (P4.out.drewN _).q) | exact quiet_add (rleft_any _ _ HS.out _ _ _ (P4.out.drewN _).q)) | (go_at_call 19; first | exact quiet_left (err_any _ _ _ _ (P4.out.drewN _).r) | exact quiet_add_left (err_any _ _ _ _ (P4.out.drewN _).r)))
                go_wp2_with fail
                go_roundg (n - (j + 1))
                case measure => omega
                case rel => exact ⟨j + 1, _, _, by go_num, by omega, by omega, P4.out.drewN _, below_drewN B4 _, by simp; omega⟩
    · have hlti : ¬ (j : Int) < n := by omega
      go_wp2_with fail
      go_ret
      exact ⟨rfl, hB⟩

set_option maxHeartbeats 1000000 in
set_option maxRecDepth 100000 in
theorem plays_far (s : ByteArray) (A : Option Addr) (n cap : Nat) (h : 2000 < s.size ∨ 200 < n) (w : World) :
    Calls Try.prog 6 #[.string s, .slice A n cap] w fun e w' => e = .returned (.bool true) ∧ Below w.heap.size w w' := by
  have H := hide h
  clear h
  go_enter Try.func6, Try.ntmps6
  go_wp2_with fail
  refine (awake_any _).mono ?_
  rintro e w1 ⟨rfl, hb1⟩
  go_wp2_with fail
  refine (long_yes s A n cap H.out _).mono ?_
  rintro e w' ⟨rfl, rfl⟩
  go_wp2_with fail
  refine (awake_any _).mono ?_
  rintro e w2 ⟨rfl, hb2⟩
  go_wp2_with fail
  go_ret
  exact ⟨rfl, below_step hb1 hb1.size hb2⟩

theorem plays_walk {H : Type} {enc : TypeId × Value → H} {base : Nat} {spare : Nat → Bool} {held : Bool} {b1 : Nat} {r : Reach} (s : ByteArray) (_hs : s.size ≤ maxLen) (v : Value) (d : DataW H) (p : List MemPlace) {W : World} (ht : DataW.Trod enc Try.prog W base spare held 36 v d p) (hv : Value.okWide Try.prog W r b1 36 v) :
    Calls Try.prog 6 #[.string s, v] W fun e w' => e = .returned (.bool true) ∧ Below W.heap.size W w' := by
  obtain ⟨a, len, cap, rfl⟩ := WideShapes.okWide_slice Try.underlying36 hv
  obtain ⟨A, n, cap', k, m, hveq, _, _, ho⟩ := ops_read ⟨a, len, cap, rfl⟩ ht
  rw [hveq]
  by_cases h : 2000 < s.size ∨ 200 < n
  · exact plays_far s A n cap' h W
  · obtain ⟨S, rfl⟩ : ∃ l, s = bs l := ⟨_, (bs_self s).symm⟩
    exact plays_near S (by omega) A n cap' (by omega) k m W ho
end Go.Proofs.Ythijblakadifiaa
