/- gap.Filter: what it answers. -/
import Derived.Test.YtfhokhhpfdmfiaaBox
namespace Go.Proofs.Ytfhokhhpfdmfiaa
open Go.RowKit

/-- A box's sixteen cells, from o on in block b. -/
def BoxC (w : World) (b o : Nat) (s : Nat → SetM) (v : Nat → SetV) : Prop := w.cell? ⟨b, o, none⟩ = some (.bool (s 0).a) ∧ w.cell? ⟨b, o + 1, none⟩ = some (.slice (v 0).A (v 0).n (v 0).c) ∧ w.cell? ⟨b, o + 2, none⟩ = some (.bool (s 0).co) ∧ w.cell? ⟨b, o + 3, none⟩ = some (.slice (v 0).B (v 0).m (v 0).d) ∧ w.cell? ⟨b, o + 4, none⟩ = some (.bool (s 1).a) ∧ w.cell? ⟨b, o + 5, none⟩ = some (.slice (v 1).A (v 1).n (v 1).c) ∧ w.cell? ⟨b, o + 6, none⟩ = some (.bool (s 1).co) ∧ w.cell? ⟨b, o + 7, none⟩ = some (.slice (v 1).B (v 1).m (v 1).d) ∧ w.cell? ⟨b, o + 8, none⟩ = some (.bool (s 2).a) ∧ w.cell? ⟨b, o + 9, none⟩ = some (.slice (v 2).A (v 2).n (v 2).c) ∧ w.cell? ⟨b, o + 10, none⟩ = some (.bool (s 2).co) ∧ w.cell? ⟨b, o + 11, none⟩ = some (.slice (v 2).B (v 2).m (v 2).d) ∧ w.cell? ⟨b, o + 12, none⟩ = some (.bool (s 3).a) ∧ w.cell? ⟨b, o + 13, none⟩ = some (.slice (v 3).A (v 3).n (v 3).c) ∧ w.cell? ⟨b, o + 14, none⟩ = some (.bool (s 3).co) ∧ w.cell? ⟨b, o + 15, none⟩ = some (.slice (v 3).B (v 3).m (v 3).d)
theorem BoxC.below {w w1 : World} {b o : Nat} {s : Nat → SetM} {v : Nat → SetV} {B : Nat} (h : BoxC w b o s v) (hb : Below B w w1) (hl : b < B) : BoxC w1 b o s v := by
  have hc : ∀ k, w1.cell? ⟨b, k, none⟩ = w.cell? ⟨b, k, none⟩ := fun k => hb.cell (p := ⟨b, k, none⟩) hl
  unfold BoxC at *
  simp only [hc]
  exact h
/-- A filter (a slice of boxes) as it is read. -/
def FilterR (w : World) (A : Option Addr) (n : Nat) (fs : List (Nat → SetM)) : Prop :=
  fs.length = n ∧ n ≤ 9223372036854775807 ∧ (0 < n → ∃ b off, A = some ⟨b, off, none⟩ ∧ b < w.heap.size ∧ ∀ i s, fs[i]? = some s → ∃ v, BoxC w b (off + i * 16) s v ∧ ∀ j, j < 4 → SetR w (v j) (s j))
theorem FilterR.below {w w1 : World} {A : Option Addr} {n : Nat} {fs : List (Nat → SetM)} (h : FilterR w A n fs) (hb : Below w.heap.size w w1) : FilterR w1 A n fs := by
  refine ⟨h.1, h.2.1, fun hn => ?_⟩
  obtain ⟨b, off, e, hl, hc⟩ := h.2.2 hn
  refine ⟨b, off, e, Nat.lt_of_lt_of_le hl hb.size, fun i s hi => ?_⟩
  obtain ⟨v, h1, h2⟩ := hc i s hi
  exact ⟨v, h1.below hb hl, fun j hj => (h2 j hj).below hb⟩
def filterM (fs : List (Nat → SetM)) (e : Nat → ValM) : Nat := fs.foldl (fun near s => min near (boxGap s e)) far
theorem filterM_snoc (fs : List (Nat → SetM)) (e : Nat → ValM) (s : Nat → SetM) : filterM (fs ++ [s]) e = min (filterM fs e) (boxGap s e) := by
  unfold filterM; rw [List.foldl_append]; rfl
theorem boxGap_le (s : Nat → SetM) (e : Nat → ValM) : boxGap s e ≤ far := sumM_le _ _
theorem filterM_le (fs : List (Nat → SetM)) (e : Nat → ValM) : filterM fs e ≤ far := by
  unfold filterM
  suffices h : ∀ x, x ≤ far → fs.foldl (fun near s => min near (boxGap s e)) x ≤ far from h _ (Nat.le_refl _)
  induction fs with
  | nil => intro x h; exact h
  | cons s t ih => intro x h; exact ih _ (Nat.le_trans (Nat.min_le_left _ _) h)

set_option maxHeartbeats 4000000 in
set_option maxRecDepth 100000 in
theorem filter_any (A : Option Addr) (n c : Nat) (fs : List (Nat → SetM)) (e : Nat → ValM) (w : World) (hf : FilterR w A n fs) (hi : ∀ j, j < 4 → I64 (e j).n) :
    Calls Try.prog 13 #[.slice A n c, .agg #[.int .i64 (e 0).k, .int .i64 (e 0).n, .string (e 0).s, .int .i64 (e 1).k, .int .i64 (e 1).n, .string (e 1).s, .int .i64 (e 2).k, .int .i64 (e 2).n, .string (e 2).s, .int .i64 (e 3).k, .int .i64 (e 3).n, .string (e 3).s]] w
      fun e' w' => e' = .returned (.int .u64 (filterM fs e : Int)) ∧ Below w.heap.size w w' := by
  have HF := hide hf
  have HI := hide hi
  have hn63 := hf.2.1
  clear hf hi
  go_enter Try.func13, Try.ntmps13
  go_wp2_with fail
  go_loopg [5, 10] n (fun q a i wr => ∃ j : Nat, a = .int .u64 (filterM (fs.take j) e : Int) ∧ i = .int .i64 j ∧ j ≤ n ∧ q + j = n ∧ Below w.heap.size w wr ∧ wr.heap[w.heap.size]? = some (.cells #[.int .i64 (e 0).k, .int .i64 (e 0).n, .string (e 0).s, .int .i64 (e 1).k, .int .i64 (e 1).n, .string (e 1).s, .int .i64 (e 2).k, .int .i64 (e 2).n, .string (e 2).s, .int .i64 (e 3).k, .int .i64 (e 3).n, .string (e 3).s] 32 (0, 0)))
  case atStart => exact ⟨0, rfl, rfl, by omega, by omega, (Below.refl _ _).alloc (Nat.le_refl _) _, bk_new _ _⟩
  case round =>
    obtain ⟨j, rfl, rfl, hj, hq, hB, hE⟩ := hrel
    have hz := bk_lt hE
    have HE := hide hE
    have hnl := filterM_le (fs.take j) e
    unfold far at hnl
    clear hE
    by_cases hlt : j < n
    · obtain ⟨hlen, _, hrd⟩ := HF.out
      obtain ⟨b, off, rfl, hbl, hcell⟩ := hrd (by omega)
      obtain ⟨s, hri⟩ : ∃ r, fs[j]? = some r := ⟨_, List.getElem?_eq_getElem (by omega)⟩
      obtain ⟨v, hbc, hsr⟩ := hcell j _ hri
      obtain ⟨d0, d1, d2, d3, d4, d5, d6, d7, d8, d9, d10, d11, d12, d13, d14, d15⟩ := hbc.below hB hbl
      have HSR := hide hsr
      have hsn : fs.take (j + 1) = fs.take j ++ [s] := by
        have hj' : j < fs.length := by omega
        rw [List.take_succ_eq_append_getElem hj']
        rw [List.getElem?_eq_getElem hj'] at hri
        rw [Option.some.inj hri]
      have HSN := hide hsn
      have hlti : (j : Int) < n := by omega
      have hz0 := hB.size
      have hbg := boxGap_le s e
      unfold far at hbg
      clear hcell hri hlen hrd hsr hsn hbc
      generalize hnear : filterM (fs.take j) e = near at *
      have HNE := hide hnear
      clear hnear
      obtain ⟨g0, g1, g2, g3, g4, g5, g6, g7, g8, g9, g10, g11⟩ := ecells HE.out
      go_wp2_with fail
      refine (box_any s v e _ (fun j hj => (HSR.out j hj).below (hB.alloc hz0 _)) HI.out).mono ?_
      rintro e' w3 ⟨rfl, hb3⟩
      generalize hgaw : boxGap s e = aw at *
      have HAW := hide hgaw
      clear hgaw
      have B3 : Below w.heap.size w w3 := below_step (hB.alloc hz0 _) (by simp; omega) hb3
      have E3 := hide (bk_below (bk_alloc HE.out _) hb3)
      go_wp2_with fail
      all_goals
        go_roundg (n - (j + 1))
        case measure => omega
        case rel =>
          refine ⟨j + 1, ?_, by go_num, by omega, by omega, B3, E3.out⟩
          rw [HSN.out, filterM_snoc, HNE.out, HAW.out]
          congr 1
          try split
          all_goals omega
    · have hlti : ¬ (j : Int) < n := by omega
      go_wp2_with fail
      go_ret
      refine ⟨ret_int ?_, hB⟩
      rw [List.take_of_length_le (by have := HF.out.1; omega)]
end Go.Proofs.Ytfhokhhpfdmfiaa
