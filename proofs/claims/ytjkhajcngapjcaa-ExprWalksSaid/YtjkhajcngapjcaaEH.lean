/- set.Has with what it calls; value.Event and the reference's Event. -/
import Derived.Test.YtjkhajcngapjcaaEV
import Derived.Outline
namespace Go.Proofs.Ytjkhajcngapjcaa.Q
open Go.RowKit Go.Proofs.YtjkhajcngapjcaaW.PrintWords Go.Proofs.YtjkhajcngapjcaaW.PrintLast Go.Proofs.YtjkhajcngapjcaaW.PrintMore
set_option linter.unusedVariables false
set_option linter.unusedSimpArgs false

theorem ret_bool {a b : Bool} (h : a = b) : Ending.returned (.bool a) = .returned (.bool b) := by rw [h]
theorem blk_new0 (w : World) (o1 o2 : Obj) : ((w.alloc o1).alloc o2).heap[w.heap.size]? = some o1 := blk_alloc (heap_alloc_new w o1) o2
theorem blk_new1 (w : World) (o1 o2 : Obj) : ((w.alloc o1).alloc o2).heap[w.heap.size + 1]? = some o2 := by
  have := heap_alloc_new (w.alloc o1) o2
  rwa [World.size_alloc] at this
set_option maxHeartbeats 400000 in
theorem has1_any (lo hi n : Int) (b : Nat) (w : World) (hc : ∀ o, (w.alloc o).cell? ⟨b, 1, none⟩ = some (.int .i64 n)) : Calls Try.prog 56 #[.agg #[.int .i64 lo, .int .i64 hi], .pointer (some ⟨b, 0, none⟩)] w fun e w' => e = .returned (.bool (decide (lo ≤ n) && decide (n ≤ hi))) ∧ Below w.heap.size w w' := by
  by_cases h1 : lo ≤ n
  · have d1 : decide (lo ≤ n) = true := by simpa using h1
    go_enter Try.func56, Try.ntmps56
    go_wp2_with fail
    go_ret
    exact ⟨ret_bool (by simp [d1]), below_alloc (Below.refl _ _) _⟩
  · have d1 : decide (lo ≤ n) = false := by simpa using h1
    go_enter Try.func56, Try.ntmps56
    go_wp2_with fail
    go_ret
    exact ⟨ret_bool (by simp [d1]), below_alloc (Below.refl _ _) _⟩
set_option maxHeartbeats 1000000 in
theorem indexfunc_any (A : Option Addr) (n c : Nat) (rs : List S54) (b : Nat) (k x : Int) (s : ByteArray) (w : World) (hlen : rs.length = n) (hr : k54.C w A n rs) (hb : w.heap[b]? = some (.cells #[.int .i64 k, .int .i64 x, .string s] 30 (0, 0))) :
    Calls Try.prog 58 #[.slice A n c, .func (.func 56) #[] #[.pointer (some ⟨b, 0, none⟩)]] w fun e w' => (∃ i : Int, e = .returned (.int .i64 i) ∧ decide (0 ≤ i) = rs.any (inR x)) ∧ Below w.heap.size w w' := by
  have HR := Aside0.mk hr
  have HB := Aside0.mk hb
  have hn63 : (n : Int) ≤ 9223372036854775807 := by have := hr.2.1; omega
  have HN63 := Aside0.mk hn63
  have HLEN := Aside0.mk hlen
  clear hr hb hlen
  go_enter Try.func58, Try.ntmps58
  go_wp2_with fail
  go_loopg [8] n (fun q i wr => ∃ j : Nat, i = .int .i64 j ∧ j ≤ n ∧ q + j = n ∧ Below w.heap.size w wr ∧ (rs.take j).any (inR x) = false)
  case atStart => exact ⟨0, rfl, by omega, by omega, Below.refl _ _, by simp⟩
  case round =>
    obtain ⟨j, rfl, hj, hq, hB, hno⟩ := hrel
    have HNO := Aside0.mk hno
    clear hno
    by_cases hlt : j < n
    · obtain ⟨ad, rfl, c0, c1⟩ := at_T54 HR.out (j : Int) (by omega) (by omega)
      rw [Int.toNat_natCast] at c0 c1
      have d0 := pw_cell_below hB c0
      have d1 := pw_cell_below hB c1
      have hbr := blk_below HB.out hB
      have HV := Aside0.mk (show ∀ o, (wr.alloc o).cell? ⟨b, 1, none⟩ = some (.int .i64 x) from fun o => (blk_cell (blk_alloc hbr o) 1).trans rfl)
      have HRI := Aside0.mk (rd54 rs j (by rw [HLEN.out]; exact hlt))
      have HQ := Aside0.mk hq
      have HB2 := Aside0.mk hB
      have hlti : (j : Int) < n := by omega
      generalize rd_T54 rs (j : Int) = r at *
      obtain ⟨lo, hi⟩ := r
      simp only at d0 d1
      clear c0 c1 hbr hq hB
      go_wp2_with fail
      refine (has1_any lo hi x b wr HV.out).mono ?_
      rintro e w1 ⟨rfl, hb1⟩
      have HB1 := Aside0.mk (below_step HB2.out hb1)
      clear hb1
      have hdef : (decide (lo ≤ x) && decide (x ≤ hi)) = inR x ⟨lo, hi⟩ := rfl
      rw [hdef]
      clear hdef
      cases hin : inR x ⟨lo, hi⟩ with
      | false =>
        have HIN := Aside0.mk hin
        clear hin
        go_wp2_with fail
        go_roundg (n - (j + 1))
        case measure => have := HQ.out; omega
        case rel =>
          have h2 := HLEN.out
          have hj' : j < rs.length := by omega
          refine ⟨j + 1, by go_num, by omega, by omega, HB1.out, ?_⟩
          have h1 := HRI.out
          rw [List.take_succ_eq_append_getElem hj', List.any_append, HNO.out, ← h1]
          simp [HIN.out]
      | true =>
        have HIN := Aside0.mk hin
        clear hin
        go_wp2_with fail
        go_ret
        refine ⟨⟨j, rfl, ?_⟩, HB1.out⟩
        have h2 := HLEN.out
        have hj' : j < rs.length := by omega
        have h1 := HRI.out
        have : rs.any (inR x) = true := List.any_eq_true.2 ⟨_, List.getElem_mem hj', by rw [← h1]; exact HIN.out⟩
        rw [this]; simp
    · have hlti : ¬ (j : Int) < n := by omega
      have HB2 := Aside0.mk hB
      clear hB hq
      go_wp2_with fail
      go_ret
      refine ⟨⟨-1, rfl, ?_⟩, HB2.out⟩
      have h1 := HNO.out
      rw [List.take_of_length_le (by have := HLEN.out; omega)] at h1
      rw [h1]; simp
theorem containsfunc_any (A : Option Addr) (n c : Nat) (rs : List S54) (b : Nat) (k x : Int) (s : ByteArray) (w : World) (hlen : rs.length = n) (hr : k54.C w A n rs) (hb : w.heap[b]? = some (.cells #[.int .i64 k, .int .i64 x, .string s] 30 (0, 0))) :
    Calls Try.prog 55 #[.slice A n c, .func (.func 56) #[] #[.pointer (some ⟨b, 0, none⟩)]] w fun e w' => e = .returned (.bool (rs.any (inR x))) ∧ Below w.heap.size w w' := by
  have H := Aside0.mk (And.intro hlen (And.intro hr hb))
  clear hr hb hlen
  go_enter Try.func55, Try.ntmps55
  go_wp2_with fail
  refine (indexfunc_any A n c rs b k x s w H.out.1 H.out.2.1 H.out.2.2).mono ?_
  rintro e w1 ⟨⟨i, rfl, hi⟩, hb1⟩
  have HI := Aside0.mk hi
  have HB1 := Aside0.mk hb1
  clear hi hb1
  go_wp2_with fail
  go_ret
  exact ⟨ret_bool HI.out, HB1.out⟩
theorem vcells {w : World} {b : Nat} {v0 v1 v2 : Value} (h : w.heap[b]? = some (.cells #[v0, v1, v2] 30 (0, 0))) : w.cell? ⟨b, 0, none⟩ = some v0 ∧ w.cell? ⟨b, 1, none⟩ = some v1 ∧ w.cell? ⟨b, 2, none⟩ = some v2 :=
  ⟨(blk_cell h 0).trans rfl, (blk_cell h 1).trans rfl, (blk_cell h 2).trans rfl⟩
theorem scells {w : World} {b : Nat} {v0 v1 v2 v3 : Value} (h : w.heap[b]? = some (.cells #[v0, v1, v2, v3] 25 (0, 0))) : w.cell? ⟨b, 0, none⟩ = some v0 ∧ w.cell? ⟨b, 1, none⟩ = some v1 ∧ w.cell? ⟨b, 2, none⟩ = some v2 ∧ w.cell? ⟨b, 3, none⟩ = some v3 :=
  ⟨(blk_cell h 0).trans rfl, (blk_cell h 1).trans rfl, (blk_cell h 2).trans rfl, (blk_cell h 3).trans rfl⟩
theorem quiet_drawn {P : Program} {f : FuncId} {args : Array Value} {w : World} {n : Nat} {v : Value}
    (h : Calls P f args (w.drewN n) fun e w' => e = .returned v ∧ Drawn0 (w.drewN n) w') : Calls P f args (w.drewN n) fun e w'' => e = .returned v ∧ ∃ m, w'' = w.drewN m :=
  h.mono fun _ _ ⟨he, hm⟩ => ⟨he, by obtain ⟨m, hm⟩ := hm.out; exact ⟨n + m, by rw [hm, World.drewN_drewN]⟩⟩

set_option maxHeartbeats 1000000 in
theorem has_any (s : S25) (v : V3) (hf : FineS s) (A : Option Addr) (c1 : Nat) (B : Option Addr) (c2 : Nat) (w : World) (hA : k54.C w A s.f1.length s.f1) (hcA : s.f1.length ≤ c1) (hB : Kd.string.C w B s.f3.length s.f3) (hcB : s.f3.length ≤ c2) : Calls Try.prog 47 #[.agg #[.bool s.f0, .slice A s.f1.length c1, .bool s.f2, .slice B s.f3.length c2], .agg #[.int .i64 v.k, .int .i64 v.n, .string v.t]] w fun e w' => e = .returned (.bool (hasT s v)) ∧ Below w.heap.size w w' := by
  have HF := Aside0.mk (And.intro hf.l1 hf.l3)
  have HA := Aside0.mk (And.intro hA hcA)
  have HB := Aside0.mk (And.intro hB hcB)
  have HV := Aside0.mk (val_f v)
  have HT : Aside0 (hasT s v = if vOk v = true then (if v.k = 0 then s.f0 else if v.k = 1 then s.f1.any (inR v.n) else (s.f3.any (inS v.t) != s.f2)) else false) := ⟨rfl⟩
  have HK : Aside0 (vOk v = true → v.k = 0 ∨ v.k = 1 ∨ v.k = 2) := ⟨by
    intro h
    unfold vOk at h
    by_cases h0 : v.k = 0
    · exact .inl h0
    · by_cases h1 : v.k = 1
      · exact .inr (.inl h1)
      · by_cases h2 : v.k = 2
        · exact .inr (.inr h2)
        · rw [if_neg h0, if_neg h1, if_neg h2] at h; cases h⟩
  generalize vOk v = ok at *
  generalize hasT s v = res at *
  obtain ⟨k, n, t⟩ := v
  obtain ⟨a, rs, co, ss⟩ := s
  simp only at *
  clear hA hB hcA hcB hf
  cases ok with
  | false =>
    go_enter Try.func47, Try.ntmps47
    go_wp2_with fail
    refine (value_Right.calls _ _ _ false _ HV.out).mono ?_
    rintro e w1 ⟨rfl, hb1⟩
    have HB1 := Aside0.mk (below_step (below_alloc (below_alloc (Below.refl w.heap.size w) _) _) hb1)
    clear hb1
    go_wp2_with fail
    go_ret
    exact ⟨ret_bool (by rw [HT.out]; rfl), HB1.out⟩
  | true =>
    have hkk := HK.out rfl
    rcases hkk with rfl | rfl | rfl
    · go_enter Try.func47, Try.ntmps47
      go_wp2_with fail
      refine (value_Right.calls _ _ _ true _ HV.out).mono ?_
      rintro e w1 ⟨rfl, hb1⟩
      obtain ⟨x0, x1, x2⟩ := vcells (blk_below (blk_new1 _ _ _) hb1)
      obtain ⟨y0, y1, y2, y3⟩ := scells (blk_below (blk_new0 _ _ _) hb1)
      have HB1 := Aside0.mk (below_step (below_alloc (below_alloc (Below.refl w.heap.size w) _) _) hb1)
      clear hb1
      go_wp2_with fail
      go_ret
      exact ⟨ret_bool (by rw [HT.out]; rfl), HB1.out⟩
    · go_enter Try.func47, Try.ntmps47
      go_wp2_with fail
      refine (value_Right.calls _ _ _ true _ HV.out).mono ?_
      rintro e w1 ⟨rfl, hb1⟩
      have V := Aside0.mk (blk_below (blk_new1 _ _ _) hb1)
      obtain ⟨x0, x1, x2⟩ := vcells V.out
      obtain ⟨y0, y1, y2, y3⟩ := scells (blk_below (blk_new0 _ _ _) hb1)
      have HB1 := Aside0.mk (below_step (below_alloc (below_alloc (Below.refl w.heap.size w) _) _) hb1)
      have HA1 := Aside0.mk (Kd.C_below HA.out.1 HB1.out)
      clear hb1
      go_wp2_with fail
      refine (containsfunc_any _ _ _ _ _ _ _ _ _ rfl HA1.out V.out).mono ?_
      rintro e w2 ⟨rfl, hb2⟩
      have HB2 := Aside0.mk (below_step HB1.out hb2)
      clear hb2
      go_wp2_with fail
      go_ret
      exact ⟨ret_bool (by rw [HT.out]; rfl), HB2.out⟩
    · go_enter Try.func47, Try.ntmps47
      go_wp2_with fail
      refine (value_Right.calls _ _ _ true _ HV.out).mono ?_
      rintro e w1 ⟨rfl, hb1⟩
      have V := Aside0.mk (blk_below (blk_new1 _ _ _) hb1)
      obtain ⟨x0, x1, x2⟩ := vcells V.out
      obtain ⟨y0, y1, y2, y3⟩ := scells (blk_below (blk_new0 _ _ _) hb1)
      have HB1 := Aside0.mk (below_step (below_alloc (below_alloc (Below.refl w.heap.size w) _) _) hb1)
      have HCC := Aside0.mk (Contains_f ss t HF.out.2 (ss.length + 1) (by omega))
      have HSB := Aside0.mk (show ∀ m, Kd.string.C (w1.drewN m) B ss.length ss from fun m => Kd.C_below HB.out.1 (pw_below_drewN HB1.out m))
      clear hb1
      go_wp2_with fail
      go_quiet ((go_at_call 57; exact quiet_drawn (slices_Contains_string_string.calls _ _ _ _ _ _ _ (HSB.out _) HB.out.2 HCC.out)))
      go_wp2_with fail
      go_ret
      exact ⟨ret_bool (by rw [HT.out]; rfl), pw_below_drewN HB1.out _⟩
end Go.Proofs.Ytjkhajcngapjcaa.Q
