/- What the printed functions of the points of two sets come to, without memory: fresh strings, points, In. -/
import Derived.Test.YtfhokhhpfdmfiaaPZ7
import Derived.Test.YtfhokhhpfdmfiaaRef3
namespace Go.Proofs.Ytfhokhhpfdmfiaa.PGapZero
open Go.RowKit Go.Proofs.YtfhokhhpfdmfiaaW.PrintWords
set_option linter.unusedVariables false
set_option linter.unusedSimpArgs false

def mk48 (r : Int × Int) : S48 := ⟨r.1, r.2⟩
def toS (s : SetM) : S26 := ⟨s.a, s.ints.map mk48, s.co, s.strs⟩
def valOf (p : S30) : ValM := ⟨p.f0, p.f1, p.f2⟩

theorem wrap_nat {i : Nat} (h : i ≤ 140737488355328) : wrap64 ((i : Int) + 1) = ((i + 1 : Nat) : Int) := by
  unfold wrap64
  omega
theorem rd48 (xs : List S48) (i : Nat) (h : i < xs.length) : rd_T48 xs (i : Int) = xs[i] := by
  unfold rd_T48
  rw [Int.toNat_natCast, List.getD_eq_getElem?_getD, List.getElem?_eq_getElem h]; rfl
theorem rd30 (xs : List S30) (i : Nat) (h : i < xs.length) : rd_T30 xs (i : Int) = xs[i] := by
  unfold rd_T30
  rw [Int.toNat_natCast, List.getD_eq_getElem?_getD, List.getElem?_eq_getElem h]; rfl
theorem rdS (xs : List ByteArray) (i : Nat) (h : i < xs.length) : rdOf ByteArray.empty xs (i : Int) = xs[i] := by
  unfold rdOf
  rw [Int.toNat_natCast, List.getD_eq_getElem?_getD, List.getElem?_eq_getElem h]; rfl
theorem drop48 (xs : List S48) (i : Nat) (h : i < xs.length) : xs.drop i = rd_T48 xs (i : Int) :: xs.drop (i + 1) := by
  rw [rd48 xs i h]; exact List.drop_eq_getElem_cons h
theorem drop30 (xs : List S30) (i : Nat) (h : i < xs.length) : xs.drop i = rd_T30 xs (i : Int) :: xs.drop (i + 1) := by
  rw [rd30 xs i h]; exact List.drop_eq_getElem_cons h
theorem dropS (xs : List ByteArray) (i : Nat) (h : i < xs.length) : xs.drop i = rdOf ByteArray.empty xs (i : Int) :: xs.drop (i + 1) := by
  rw [rdS xs i h]; exact List.drop_eq_getElem_cons h

def inR48 (x : Int) (r : S48) : Bool := decide (r.f0 ≤ x) && decide (x ≤ r.f1)
theorem InInts_l (l : List S48) (x : Int) (hl : l.length ≤ 1000000) (d : Nat) : ∀ (k i : Nat), i + d = l.length → d < k → arbourref03_InInts.l0 k l x (i : Int) = some ((l.drop i).any (inR48 x)) := by
  induction d with
  | zero =>
    intro k i hi hk
    obtain ⟨k, rfl⟩ : ∃ m, k = m + 1 := ⟨k - 1, by omega⟩
    simp only [arbourref03_InInts.l0]
    rw [if_neg (by omega), List.drop_of_length_le (by omega)]; rfl
  | succ d ih =>
    intro k i hi hk
    obtain ⟨k, rfl⟩ : ∃ m, k = m + 1 := ⟨k - 1, by omega⟩
    simp only [arbourref03_InInts.l0]
    rw [if_pos (by omega), if_pos (by omega), drop48 l i (by omega), wrap_nat (by omega), ih k (i + 1) (by omega) (by omega), List.any_cons]
    unfold inR48
    by_cases h1 : (rd_T48 l (i : Int)).f0 ≤ x
    · rw [if_pos h1, decide_eq_true h1, Bool.true_and]
      by_cases h2 : x ≤ (rd_T48 l (i : Int)).f1
      · rw [if_pos h2, decide_eq_true h2, Bool.true_or]
      · rw [if_neg h2, decide_eq_false h2, Bool.false_or]
    · rw [if_neg h1, decide_eq_false h1, Bool.false_and, Bool.false_or]
theorem InInts_f (l : List (Int × Int)) (x : Int) (hl : l.length ≤ 1000000) (k : Nat) (hk : l.length < k) : arbourref03_InInts.f k (l.map mk48) x = some (l.any (inR x)) := by
  have h := InInts_l (l.map mk48) x (by rw [List.length_map]; exact hl) l.length k 0 (by simp) hk
  have e : (l.map mk48).any (inR48 x) = l.any (inR x) := by rw [List.any_map]; rfl
  exact h.trans (by rw [List.drop_zero, e])
theorem InStrs_l (l : List ByteArray) (x : ByteArray) (hl : l.length ≤ 1000000) (d : Nat) : ∀ (k i : Nat), i + d = l.length → d < k → arbourref03_InStrs.l0 k l x (i : Int) = some ((l.drop i).any (inS x)) := by
  induction d with
  | zero =>
    intro k i hi hk
    obtain ⟨k, rfl⟩ : ∃ m, k = m + 1 := ⟨k - 1, by omega⟩
    simp only [arbourref03_InStrs.l0]
    rw [if_neg (by omega), List.drop_of_length_le (by omega)]; rfl
  | succ d ih =>
    intro k i hi hk
    obtain ⟨k, rfl⟩ : ∃ m, k = m + 1 := ⟨k - 1, by omega⟩
    simp only [arbourref03_InStrs.l0]
    rw [if_pos (by omega), if_pos (by omega), dropS l i (by omega), wrap_nat (by omega), ih k (i + 1) (by omega) (by omega), List.any_cons]
    unfold inS
    by_cases h1 : (rdOf ByteArray.empty l (i : Int)).toList = x.toList
    · rw [if_pos h1, h1]; simp
    · rw [if_neg h1, beq_false_of_ne (fun hh => h1 hh.symm), Bool.false_or]
theorem InStrs_f (l : List ByteArray) (x : ByteArray) (hl : l.length ≤ 1000000) (k : Nat) (hk : l.length < k) : arbourref03_InStrs.f k l x = some (l.any (inS x)) :=
  InStrs_l l x hl l.length k 0 (by omega) hk
theorem refVal_f (k n : Int) (s : ByteArray) : arbourref01_Right.f k n s = some (vRight k n s) := by
  unfold arbourref01_Right.f vRight
  have hs : (s.toList == ([] : List UInt8)) = decide (s.toList = []) := by
    by_cases h : s.toList = []
    · rw [decide_eq_true h, h]; rfl
    · rw [decide_eq_false h, beq_false_of_ne h]
  rw [hs]
  by_cases h0 : k = 0
  · rw [if_pos h0, if_pos h0]
    by_cases h1 : n = 0
    · rw [if_pos h1, decide_eq_true h1, Bool.true_and]
    · rw [if_neg h1, decide_eq_false h1, Bool.false_and]
  · rw [if_neg h0, if_neg h0]
    by_cases h1 : k = 1
    · rw [if_pos h1, if_pos h1]
    · rw [if_neg h1, if_neg h1]
      by_cases h2 : k = 2
      · rw [if_pos h2, if_pos h2]
        by_cases h3 : n = 0
        · rw [if_pos h3, decide_eq_true h3, Bool.true_and]
          congr 1; exact decide_eq_decide.2 (by omega)
        · rw [if_neg h3, decide_eq_false h3, Bool.false_and]
      · rw [if_neg h2, if_neg h2]
theorem vright_k {k n : Int} {s : ByteArray} (h : vRight k n s = true) : k = 0 ∨ k = 1 ∨ k = 2 := by
  unfold vRight at h
  by_cases h0 : k = 0
  · exact .inl h0
  · by_cases h1 : k = 1
    · exact .inr (.inl h1)
    · by_cases h2 : k = 2
      · exact .inr (.inr h2)
      · rw [if_neg h0, if_neg h1, if_neg h2] at h; cases h
theorem Has_f (s : SetM) (v : ValM) (h1 : s.ints.length ≤ 1000000) (h3 : s.strs.length ≤ 1000000) (k : Nat) (hk : s.ints.length + s.strs.length + 2 ≤ k) : arbourref03_Has.f k s.a (s.ints.map mk48) s.co s.strs v.k v.n v.s = some (hasM s v) := by
  unfold arbourref03_Has.f hasM
  rw [refVal_f, Option.bind_some, InInts_f _ _ h1 k (by omega), InStrs_f _ _ h3 k (by omega)]
  show _ = some (if v.ok = false then _ else _)
  cases hv : vRight v.k v.n v.s with
  | false => rw [if_neg (by simp), if_pos (show v.ok = false from hv)]
  | true =>
    rw [if_pos rfl, show v.ok = true from hv, if_neg (show ¬ (true = false) by simp)]
    rcases vright_k hv with h | h | h
    · rw [if_pos h, if_neg (by omega), if_neg (by omega)]
    · rw [if_neg (by omega), if_pos h, if_pos h]; rfl
    · rw [if_neg (by omega), if_neg (by omega), if_neg (by omega), if_pos h]; rfl

/-! Fresh strings. -/
def dg (n : Nat) : ByteArray := strOfNums [(48 + n : Int)]
def dec (n : Nat) : ByteArray := if n < 10 then dg n else dg (n / 10) ++ dg (n % 10)
theorem wrap_small {n : Int} (h0 : 0 ≤ n) (h1 : n ≤ 1000000) : IntKind.u64.wrap n = n := by
  rw [IntKind.wrap_u64]; omega
theorem digits_f (n : Nat) (hn : n < 100) (k : Nat) (hk : 2 ≤ k) : arbourref01_digits.f k (n : Int) = some (dec n) := by
  obtain ⟨k, rfl⟩ : ∃ m, k = m + 2 := ⟨k - 2, by omega⟩
  simp only [arbourref01_digits.f]
  unfold dec dg
  by_cases h : n < 10
  · rw [if_pos (by omega), if_pos h, wrap_small (by omega) (by omega)]
    congr 3; omega
  · rw [if_neg (by omega), if_neg h]
    have e1 : Int.tdiv (n : Int) 10 = ((n / 10 : Nat) : Int) := by rw [Int.tdiv_eq_ediv_of_nonneg (by omega)]; omega
    have e2 : Int.tmod (n : Int) 10 = ((n % 10 : Nat) : Int) := by rw [Int.tmod_eq_emod_of_nonneg (by omega)]; omega
    rw [e1, e2, wrap_small (n := ((n / 10 : Nat) : Int)) (by omega) (by omega), if_pos (by omega), wrap_small (by omega) (by omega), wrap_small (by omega) (by omega)]
    simp only [Option.bind_some]
    rw [if_pos (by simp only [strOfNums_size, List.length_cons, List.length_nil]; omega)]
    have g : ∀ m : Nat, m < 10 → ((48 + (m : Int)) % 256) = 48 + (m : Int) := fun m hm => by omega
    rw [g _ (by omega), g _ (by omega)]
theorem dec_size (n : Nat) : (dec n).size ≤ 2 := by
  unfold dec dg
  split
  · rw [strOfNums_size]; simp
  · rw [ByteArray.size_append, strOfNums_size, strOfNums_size]; simp
theorem decimal_f (n : Nat) (hn : n < 100) (k : Nat) (hk : 2 ≤ k) : arbourref01_Decimal.f k (n : Int) = some (dec n) := by
  unfold arbourref01_Decimal.f
  rw [if_neg (by omega), wrap_small (by omega) (by omega), digits_f n hn k hk]; rfl
def til : ByteArray := ⟨#[126]⟩
def nm (n : Nat) : ByteArray := til ++ dec n
def nmL (n : Nat) : List UInt8 := 126 :: (if n < 10 then [UInt8.ofNat (48 + n)] else [UInt8.ofNat (48 + n / 10), UInt8.ofNat (48 + n % 10)])
theorem nm_list (n : Nat) : (nm n).toList = nmL n := by
  have g : ∀ m : Nat, (48 + (m : Int)).toNat = 48 + m := fun m => by omega
  unfold nm nmL dec dg til
  rw [ByteArray.toList_eq]
  split
  · simp only [ByteArray.data_append, Array.toList_append, strOfNums_data, List.map_cons, List.map_nil, g]; rfl
  · simp only [ByteArray.data_append, Array.toList_append, strOfNums_data, List.map_cons, List.map_nil, g]; rfl
theorem nm_size (n : Nat) : (nm n).size ≤ 8 := by
  unfold nm
  rw [ByteArray.size_append]
  have := dec_size n
  have h : til.size = 1 := rfl
  omega
theorem nm_nodup : ((List.range 81).map nmL).Nodup := by decide +kernel
theorem pig {α : Type} [BEq α] [LawfulBEq α] : ∀ (l m : List α), l.Nodup → (∀ x, x ∈ l → x ∈ m) → l.length ≤ m.length
  | [], _, _, _ => by simp
  | x :: t, m, hn, hs => by
    obtain ⟨hx, ht⟩ := List.nodup_cons.1 hn
    have h := pig t (m.erase x) ht (fun y hy => (List.mem_erase_of_ne (fun e => hx (by subst e; exact hy))).2 (hs y (List.mem_cons_of_mem _ hy)))
    have hm := hs x List.mem_cons_self
    have hl := List.length_erase_of_mem hm
    have : 0 < m.length := List.length_pos_of_mem hm
    rw [List.length_cons]; omega
/-- Is a string in one of both sets' lists? -/
def inF (A B : List ByteArray) (t : ByteArray) : Bool := A.any (inS t) || B.any (inS t)
theorem inF_mem {A B : List ByteArray} {t : ByteArray} (h : inF A B t = true) : t.toList ∈ (A ++ B).map ByteArray.toList := by
  unfold inF inS at h
  rw [Bool.or_eq_true, List.any_eq_true, List.any_eq_true] at h
  rcases h with ⟨x, hx, e⟩ | ⟨x, hx, e⟩
  · exact List.mem_map.2 ⟨x, List.mem_append_left _ hx, (by simpa using e : t.toList = x.toList).symm⟩
  · exact List.mem_map.2 ⟨x, List.mem_append_right _ hx, (by simpa using e : t.toList = x.toList).symm⟩
theorem rd26_0 (a b : S26) : rd_T26 [a, b] 0 = a := rfl
theorem rd26_1 (a b : S26) : rd_T26 [a, b] 1 = b := rfl
theorem wrap0 : wrap64 (0 + 1) = 1 := by unfold wrap64; omega
theorem wrap1 : wrap64 (1 + 1) = 2 := by unfold wrap64; omega
theorem fresh_l1 (a b : S26) (h1 : a.f3.length ≤ 40) (h2 : b.f3.length ≤ 40) (s t : ByteArray) (n : Int) (k : Nat) (hk : 60 ≤ k) :
    arbourref03_Fresh.l1 (k + 3) [a, b] s n t false 0 = if inF a.f3 b.f3 t = true then arbourref03_Fresh.l0 k [a, b] s (wrap64 (n + 1)) else some t := by
  simp only [arbourref03_Fresh.l1]
  rw [if_pos (show (0 : Int) < (([a, b] : List S26).length : Int) by simp), if_neg (by simp), if_pos (by omega), rd26_0, InStrs_f _ _ (by omega) _ (by omega), Option.bind_some, wrap0, if_pos (show (1 : Int) < (([a, b] : List S26).length : Int) by simp), wrap1, if_neg (show ¬ (2 : Int) < (([a, b] : List S26).length : Int) by simp)]
  unfold inF
  cases hA : a.f3.any (inS t) with
  | true => simp
  | false =>
    rw [if_neg (by simp), if_pos (by omega), rd26_1, InStrs_f _ _ (by omega) _ (by omega), Option.bind_some, Bool.false_or]
    rw [if_neg (show ¬ (2 : Int) < (([a, b] : List S26).length : Int) by simp)]
theorem fresh_l0 (a b : S26) (h1 : a.f3.length ≤ 40) (h2 : b.f3.length ≤ 40) (d : Nat) : ∀ (n k : Nat), n + d = 81 → 4 * d + 100 ≤ k → (∀ m, m < n → inF a.f3 b.f3 (nm m) = true) →
    ∃ m, arbourref03_Fresh.l0 k [a, b] til (n : Int) = some (nm m) ∧ inF a.f3 b.f3 (nm m) = false := by
  induction d with
  | zero =>
    intro n k hn hk hall
    exfalso
    obtain rfl : n = 81 := by omega
    have := pig _ _ nm_nodup (fun x hx => by
      obtain ⟨m, hm, rfl⟩ := List.mem_map.1 hx
      have := inF_mem (hall m (List.mem_range.1 hm))
      rw [nm_list] at this
      exact this)
    rw [List.length_map, List.length_map, List.length_range, List.length_append] at this
    omega
  | succ d ih =>
    intro n k hn hk hall
    obtain ⟨k, rfl⟩ : ∃ m, k = m + 4 := ⟨k - 4, by omega⟩
    have hsz : til.size = 1 := rfl
    have hd := dec_size n
    have step : arbourref03_Fresh.l0 (k + 4) [a, b] til (n : Int) = if inF a.f3 b.f3 (nm n) = true then arbourref03_Fresh.l0 k [a, b] til (((n + 1 : Nat)) : Int) else some (nm n) := by
      rw [show k + 4 = (k + 3) + 1 from rfl]
      rw [arbourref03_Fresh.l0]
      rw [if_pos (by omega), decimal_f n (by omega) _ (by omega), Option.bind_some, if_pos (by omega)]
      exact (fresh_l1 a b h1 h2 til (til ++ dec n) n k (by omega)).trans (by rw [wrap_nat (by omega)]; rfl)
    rw [step]
    cases hf : inF a.f3 b.f3 (nm n) with
    | false => rw [if_neg (by simp)]; exact ⟨n, rfl, hf⟩
    | true =>
      rw [if_pos rfl]
      refine ih (n + 1) k (by omega) (by omega) (fun m hm => ?_)
      by_cases e : m = n
      · subst e; exact hf
      · exact hall m (by omega)
theorem fresh_f (a b : S26) (h1 : a.f3.length ≤ 40) (h2 : b.f3.length ≤ 40) (k : Nat) (hk : 500 ≤ k) : ∃ m, arbourref03_Fresh.f k [a, b] til = some (nm m) ∧ inF a.f3 b.f3 (nm m) = false :=
  fresh_l0 a b h1 h2 81 0 k (by omega) (by omega) (fun m hm => by omega)
end Go.Proofs.Ytfhokhhpfdmfiaa.PGapZero
