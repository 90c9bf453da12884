/- What Points and In of two sets come to, without memory. -/
import Derived.Test.YtfhokhhpfdmfiaaPM
namespace Go.Proofs.Ytfhokhhpfdmfiaa.PGapZero
open Go.RowKit Go.Proofs.YtfhokhhpfdmfiaaW.PrintWords
set_option linter.unusedVariables false
set_option linter.unusedSimpArgs false

def nilS : ByteArray := ⟨#[]⟩
def intP (n : Int) : S30 := ⟨1, n, nilS⟩
def strP (t : ByteArray) : S30 := ⟨2, 0, t⟩
def lowP (r : S48) : List S30 := if r.f0 > -9223372036854775808 then [intP (wrap64 (r.f0 - 1))] else []
def highP (r : S48) : List S30 := if r.f1 < 9223372036854775807 then [intP (wrap64 (r.f1 + 1))] else []
def rangeP (r : S48) : List S30 := [intP r.f0, intP r.f1] ++ (lowP r ++ highP r)
def setP (s : S26) : List S30 := s.f1.flatMap rangeP ++ s.f3.map strP
def baseP : List S30 := [⟨0, 0, nilS⟩, ⟨1, (-9223372036854775808), nilS⟩, ⟨1, 9223372036854775807, nilS⟩, ⟨1, 0, nilS⟩]
theorem rangeP_len (r : S48) : (rangeP r).length ≤ 4 := by
  unfold rangeP lowP highP
  simp only [List.length_append, List.length_cons, List.length_nil]
  split <;> split <;> simp
theorem flat_len (l : List S48) : (l.flatMap rangeP).length ≤ 4 * l.length := by
  induction l with
  | nil => simp
  | cons x t ih =>
    rw [List.flatMap_cons, List.length_append, List.length_cons]
    have := rangeP_len x
    omega
theorem pts_l2 (x0 : List S26) (x4 : ByteArray) (x5 : Int) (p0 : 0 ≤ x5) (p1 : x5 < (x0.length : Int)) (s : S26) (hs : rd_T26 x0 x5 = s) (hl : s.f3.length ≤ 1000000) (d : Nat) : ∀ (k i : Nat) (x3 : List S30), i + d = s.f3.length → x3.length + d < 4398046511104 →
    arbourref03_Points.l2 (k + d + 1) x0 x3 x4 x5 (i : Int) = arbourref03_Points.l0 k x0 (x3 ++ (s.f3.drop i).map strP) x4 (wrap64 (x5 + 1)) := by
  induction d with
  | zero =>
    intro k i x3 hi hx
    rw [arbourref03_Points.l2, hs]
    rw [if_pos p0, if_pos p1, if_neg (by omega), List.drop_of_length_le (by omega), List.map_nil, List.append_nil]
  | succ d ih =>
    intro k i x3 hi hx
    rw [show k + (d + 1) + 1 = (k + d + 1) + 1 from by omega, arbourref03_Points.l2, hs]
    rw [if_pos p0, if_pos p1, if_pos (by omega), if_pos (by omega), if_pos (by omega), wrap_nat (by omega), ih k (i + 1) _ (by omega) (by rw [List.length_append, List.length_cons, List.length_nil]; omega), dropS s.f3 i (by omega), List.map_cons, List.append_assoc]
    rfl
theorem pts_l1 (x0 : List S26) (x4 : ByteArray) (x5 : Int) (p0 : 0 ≤ x5) (p1 : x5 < (x0.length : Int)) (s : S26) (hs : rd_T26 x0 x5 = s) (hl : s.f1.length ≤ 1000000) (d : Nat) : ∀ (k i : Nat) (x3 : List S30), i + d = s.f1.length → x3.length + 4 * d < 4398046511104 →
    arbourref03_Points.l1 (k + d + 1) x0 x3 x4 x5 (i : Int) = arbourref03_Points.l2 k x0 (x3 ++ (s.f1.drop i).flatMap rangeP) x4 x5 0 := by
  induction d with
  | zero =>
    intro k i x3 hi hx
    rw [arbourref03_Points.l1, hs]
    rw [if_pos p0, if_pos p1, if_neg (by omega), List.drop_of_length_le (by omega), List.flatMap_nil, List.append_nil]
  | succ d ih =>
    intro k i x3 hi hx
    have ih' := fun x3 h => ih k (i + 1) x3 (by omega) h
    rw [show k + (d + 1) + 1 = (k + d + 1) + 1 from by omega, arbourref03_Points.l1, hs]
    rw [if_pos p0, if_pos p1, if_pos (by omega), if_pos (by omega), Option.bind_some, if_pos (by simp only [List.length_cons, List.length_nil]; omega), Option.bind_some, wrap_nat (by omega), drop48 s.f1 i (by omega), List.flatMap_cons]
    generalize rd_T48 s.f1 (i : Int) = r at *
    unfold rangeP lowP highP
    by_cases h1 : r.f0 > -9223372036854775808
    · rw [if_pos h1, if_pos (by simp only [List.length_append, List.length_cons, List.length_nil]; omega), Option.bind_some, if_pos h1]
      by_cases h2 : r.f1 < 9223372036854775807
      · rw [if_pos h2, if_pos (by simp only [List.length_append, List.length_cons, List.length_nil]; omega), if_pos h2, ih' _ (by simp only [List.length_append, List.length_cons, List.length_nil]; omega)]
        simp only [List.append_assoc]; rfl
      · rw [if_neg h2, if_neg h2, ih' _ (by simp only [List.length_append, List.length_cons, List.length_nil]; omega)]
        simp only [List.append_assoc, List.append_nil]; rfl
    · rw [if_neg h1, if_neg h1]
      by_cases h2 : r.f1 < 9223372036854775807
      · rw [if_pos h2, if_pos (by simp only [List.length_append, List.length_cons, List.length_nil]; omega), if_pos h2, ih' _ (by simp only [List.length_append, List.length_cons, List.length_nil]; omega)]
        simp only [List.append_assoc, List.nil_append]; rfl
      · rw [if_neg h2, if_neg h2, ih' _ (by simp only [List.length_append, List.length_cons, List.length_nil]; omega)]
        simp only [List.append_assoc, List.append_nil, List.nil_append]; rfl
def Pts (a b : S26) (fr : ByteArray) : List S30 := baseP ++ setP a ++ setP b ++ [strP fr]
theorem points_f (a b : S26) (ha1 : a.f1.length ≤ 40) (ha3 : a.f3.length ≤ 40) (hb1 : b.f1.length ≤ 40) (hb3 : b.f3.length ≤ 40) (k : Nat) (hk : 700 ≤ k) :
    ∃ m, arbourref03_Points.f k [a, b] = some (Pts a b (nm m)) ∧ inF a.f3 b.f3 (nm m) = false := by
  obtain ⟨k6, rfl⟩ : ∃ j, k = (((((j + 1) + b.f3.length + 1) + b.f1.length + 1) + 1 + a.f3.length + 1) + a.f1.length + 1) + 1 := ⟨k - (a.f1.length + a.f3.length + b.f1.length + b.f3.length + 7), by omega⟩
  obtain ⟨m, hm, hf⟩ := fresh_f a b ha3 hb3 k6 (by omega)
  refine ⟨m, ?_, hf⟩
  have hlen : (([a, b] : List S26).length : Int) = 2 := rfl
  have f1 := flat_len a.f1
  have f2 := flat_len b.f1
  unfold arbourref03_Points.f
  rw [arbourref03_Points.l0, if_pos (by omega)]
  have e1 := pts_l1 [a, b] til 0 (by omega) (by omega) a rfl (by omega) a.f1.length ((((k6 + 1) + b.f3.length + 1) + b.f1.length + 1) + 1 + a.f3.length + 1) 0 baseP (by omega) (by show 4 + _ < _; omega)
  refine e1.trans ?_
  rw [List.drop_zero]
  have e2 := pts_l2 [a, b] til 0 (by omega) (by omega) a rfl (by omega) a.f3.length ((((k6 + 1) + b.f3.length + 1) + b.f1.length + 1) + 1) 0 (baseP ++ a.f1.flatMap rangeP) (by omega) (by rw [List.length_append]; show 4 + _ + _ < _; omega)
  refine e2.trans ?_
  rw [List.drop_zero, wrap0, arbourref03_Points.l0, if_pos (by omega)]
  have e3 := pts_l1 [a, b] til 1 (by omega) (by omega) b rfl (by omega) b.f1.length ((k6 + 1) + b.f3.length + 1) 0 (baseP ++ a.f1.flatMap rangeP ++ a.f3.map strP) (by omega) (by simp only [List.length_append, List.length_map]; show 4 + _ + _ + _ < _; omega)
  refine e3.trans ?_
  rw [List.drop_zero]
  have e4 := pts_l2 [a, b] til 1 (by omega) (by omega) b rfl (by omega) b.f3.length (k6 + 1) 0 (baseP ++ a.f1.flatMap rangeP ++ a.f3.map strP ++ b.f1.flatMap rangeP) (by omega) (by simp only [List.length_append, List.length_map]; show 4 + _ + _ + _ + _ < _; omega)
  refine e4.trans ?_
  rw [List.drop_zero, wrap1, arbourref03_Points.l0, if_neg (by omega), hm, Option.bind_some, if_pos (by simp only [List.length_append, List.length_map]; show 4 + _ + _ + _ + _ < _; omega)]
  unfold Pts setP
  simp only [List.append_assoc]; rfl

theorem in_l0 (a b : SetM) (ha : ShortM a) (hb : ShortM b) (p : List S30) (hp : p.length ≤ 1000000) (d : Nat) : ∀ (k i : Nat), i + d = p.length → d + 100 < k →
    arbourref03_In.l0 k p (i : Int) a.a (a.ints.map mk48) a.co a.strs b.a (b.ints.map mk48) b.co b.strs = some ((p.drop i).all fun q => !hasM a (valOf q) || hasM b (valOf q)) := by
  obtain ⟨ha1, ha3⟩ := ha
  obtain ⟨hb1, hb3⟩ := hb
  induction d with
  | zero =>
    intro k i hi hk
    obtain ⟨k, rfl⟩ : ∃ m, k = m + 1 := ⟨k - 1, by omega⟩
    rw [arbourref03_In.l0, if_neg (by omega), List.drop_of_length_le (by omega)]; rfl
  | succ d ih =>
    intro k i hi hk
    obtain ⟨k, rfl⟩ : ∃ m, k = m + 1 := ⟨k - 1, by omega⟩
    have hA := Has_f a (valOf (rd_T30 p (i : Int))) (by omega) (by omega) k (by omega)
    have hB := Has_f b (valOf (rd_T30 p (i : Int))) (by omega) (by omega) k (by omega)
    rw [arbourref03_In.l0, if_pos (by omega), if_pos (by omega), drop30 p i (by omega), List.all_cons, wrap_nat (by omega), ih k (i + 1) (by omega) (by omega)]
    unfold valOf at hA hB ⊢
    simp only at hA hB ⊢
    rw [hA, Option.bind_some, hB]
    cases hasM a ⟨(rd_T30 p (i : Int)).f0, (rd_T30 p (i : Int)).f1, (rd_T30 p (i : Int)).f2⟩ with
    | false => simp
    | true =>
      cases hasM b ⟨(rd_T30 p (i : Int)).f0, (rd_T30 p (i : Int)).f1, (rd_T30 p (i : Int)).f2⟩ with
      | false => simp
      | true => simp
/-- What In finds: of all points, of a fresh string too, what has the one has the other. -/
def InP (a b : SetM) : Prop := ∃ m, inF a.strs b.strs (nm m) = false ∧ ∀ p, p ∈ Pts (toS a) (toS b) (nm m) → hasM a (valOf p) = true → hasM b (valOf p) = true
theorem in_f (a b : SetM) (ha : ShortM a) (hb : ShortM b) : ∃ r : Bool, arbourref03_In.f 2000 a.a (a.ints.map mk48) a.co a.strs b.a (b.ints.map mk48) b.co b.strs = some r ∧ (r = true → InP a b) := by
  obtain ⟨m, hm, hf⟩ := points_f (toS a) (toS b) (by show (a.ints.map mk48).length ≤ 40; rw [List.length_map]; exact ha.1) ha.2 (by show (b.ints.map mk48).length ≤ 40; rw [List.length_map]; exact hb.1) hb.2 2000 (by omega)
  have hlen : (Pts (toS a) (toS b) (nm m)).length ≤ 1000 := by
    have f1 := flat_len (a.ints.map mk48)
    have f2 := flat_len (b.ints.map mk48)
    rw [List.length_map] at f1 f2
    have := ha.1; have := ha.2; have := hb.1; have := hb.2
    unfold Pts setP
    simp only [List.length_append, List.length_map]
    show 4 + (((a.ints.map mk48).flatMap rangeP).length + a.strs.length) + (((b.ints.map mk48).flatMap rangeP).length + b.strs.length) + 1 ≤ 1000
    omega
  refine ⟨((Pts (toS a) (toS b) (nm m)).drop 0).all fun q => !hasM a (valOf q) || hasM b (valOf q), ?_, ?_⟩
  · unfold arbourref03_In.f
    rw [show arbourref03_Points.f 2000 [(⟨a.a, a.ints.map mk48, a.co, a.strs⟩ : S26), ⟨b.a, b.ints.map mk48, b.co, b.strs⟩] = _ from hm, Option.bind_some]
    exact in_l0 a b ha hb _ (by omega) _ 2000 0 (Nat.zero_add _) (by omega)
  · intro h
    refine ⟨m, hf, fun p hp hA => ?_⟩
    have := List.all_eq_true.1 h p (by rw [List.drop_zero]; exact hp)
    rw [hA] at this
    simpa using this
end Go.Proofs.Ytfhokhhpfdmfiaa.PGapZero
