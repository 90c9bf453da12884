/- What the functions come to, told by the tree. -/
import Derived.Test.YtpoolbjmebacdaaTM
import Derived.Test.YtpoolbjmebacdaaQE
namespace Go.Proofs.Ytpoolbjmebacdaa.Q
open Go.RowKit Go.Proofs.YtpoolbjmebacdaaW.PrintWords TM
set_option linter.unusedVariables false

def C (l : List Nat) : List Int := l.map (fun n : Nat => (n : Int))
theorem C_append (a b : List Nat) : C (a ++ b) = C a ++ C b := by simp [C]
theorem C_cons (a : Nat) (b : List Nat) : C (a :: b) = (a : Int) :: C b := rfl
theorem C_length (a : List Nat) : (C a).length = a.length := by simp [C]
theorem C_mem (a : List Nat) (n : Nat) : (n : Int) ∈ C a ↔ n ∈ a := by
  simp only [C, List.mem_map]
  constructor
  · rintro ⟨x, hx, e⟩
    obtain rfl : x = n := by omega
    exact hx
  · exact fun h => ⟨n, h, rfl⟩
theorem C_rd (a : List Nat) (i : Nat) (h : i < a.length) : rd (C a) (i : Int) = (a[i] : Int) := by
  rw [rd_nat _ _ (by rw [C_length]; exact h)]
  simp [C]
def parN (ps : List Int) (b : Nat) : Nat := if 0 < b ∧ b ≤ ps.length then (rd ps ((b : Int) - 1)).toNat else 0
theorem parN_lt {ps : List Int} (ok : okPs ps) : ∀ b, 0 < b → parN ps b < b := by
  intro b hb
  unfold parN
  split
  · rename_i h
    have := okPs_at ok (b := (b : Int)) (by omega) (by omega)
    omega
  · omega
theorem rd_par {ps : List Int} (ok : okPs ps) {b : Nat} (h0 : 0 < b) (h1 : b ≤ ps.length) : rd ps ((b : Int) - 1) = (parN ps b : Int) := by
  unfold parN
  rw [if_pos ⟨h0, h1⟩]
  have := okPs_at ok (b := (b : Int)) (by omega) (by omega)
  omega

section
variable {ps : List Int} (ok : okPs ps)
theorem upT_U (n : Nat) : ∀ a : Nat, a ≤ n → a ≤ ps.length → upT ps n (a : Int) = C (U (parN_lt ok) a) := by
  induction n with
  | zero =>
    intro a h0 h1
    obtain rfl : a = 0 := by omega
    rw [U_zero]; rfl
  | succ n ih =>
    intro a h0 h1
    simp only [upT]
    rcases Nat.eq_zero_or_pos a with h | h
    · subst h; rw [if_neg (by omega), U_zero]; rfl
    · have hl := parN_lt ok a h
      rw [if_pos (by omega), rd_par ok h h1, ih _ (by omega) (by omega), U_pos (parN_lt ok) h, C_cons]
theorem idx_none {x : Int} {l : List Int} (h : ∀ y, y ∈ l → x ≠ y) : idx x l = none := by
  induction l with
  | nil => rfl
  | cons y t ih =>
    simp only [idx]
    rw [if_neg (h y List.mem_cons_self), ih fun z hz => h z (List.mem_cons_of_mem _ hz)]; rfl
theorem meet_cons (b : Int) (A B : List Int) (h : ∀ y, y ∈ A → y ≠ b) : meetF A (b :: B) = meetF A B ++ [b] := by
  induction A with
  | nil => simp [meetF]
  | cons x t ih =>
    have hx := h x List.mem_cons_self
    simp only [meetF, idx, if_neg hx]
    cases hi : idx x B with
    | none => simp [ih fun y hy => h y (List.mem_cons_of_mem _ hy)]
    | some j => simp
theorem meet_W (n : Nat) : ∀ a b : Nat, a + b = n → meetF (C (U (parN_lt ok) a)) (C (U (parN_lt ok) b)) = C (W (parN_lt ok) a b) := by
  induction n using Nat.strongRecOn with
  | _ n ih =>
  intro a b hn
  have hU : ∀ a, ∃ t, U (parN_lt ok) a = a :: t := fun a => by
    rcases Nat.eq_zero_or_pos a with h | h
    · subst h; exact ⟨[], U_zero _⟩
    · exact ⟨_, U_pos _ h⟩
  by_cases h : a = b
  · subst h
    obtain ⟨t, ht⟩ := hU a
    rw [W_self, ht, C_cons]
    simp only [meetF, idx, if_true]
    simp [C]
  · rcases Nat.lt_or_ge a b with h1 | h1
    · have hb := parN_lt ok b (by omega)
      rw [U_pos _ (show 0 < b by omega), C_cons, meet_cons, ih (a + parN ps b) (by omega) a _ rfl, W_lt _ h1, C_append]
      · rfl
      · intro y hy
        simp only [C, List.mem_map] at hy
        obtain ⟨z, hz, rfl⟩ := hy
        have := U_le _ a z hz
        omega
    · have ha := parN_lt ok a (by omega)
      rw [U_pos _ (show 0 < a by omega), C_cons, W_gt _ (by omega), C_cons]
      simp only [meetF]
      rw [idx_none]
      · rw [ih (parN ps a + b) (by omega) _ b rfl]
      · intro y hy
        simp only [C, List.mem_map] at hy
        obtain ⟨z, hz, rfl⟩ := hy
        have := U_le _ b z hz
        omega
theorem wayT_W (hl : ps.length ≤ 7) {a b : Nat} (ha : a ≤ ps.length) (hb : b ≤ ps.length) : wayT ps a b = C (W (parN_lt ok) a b) := by
  unfold wayT
  rw [upT_U ok 8 a (by omega) ha, upT_U ok 8 b (by omega) hb, meet_W ok _ a b rfl]
end

/-- A header that may be. -/
structure Good (ps hs : List Int) (b g : Int) : Prop where
  ok : checkT ps hs b g = 0
section
variable {ps hs : List Int} {b g : Int}
theorem Good.okp (h : Good ps hs b g) : okPs ps := (ok_of_check h.ok).2
theorem Good.len (h : Good ps hs b g) : ps.length ≤ 7 := (ok_of_check h.ok).1
theorem Good.hp (h : Good ps hs b g) : ∀ b, 0 < b → parN ps b < b := parN_lt h.okp
theorem Good.size (h : Good ps hs b g) : sizeT ps hs b g = (ps.length : Int) + 1 := by unfold sizeT; rw [if_pos h.ok]
theorem Good.isB (h : Good ps hs b g) {a : Nat} (ha : a ≤ ps.length) : isB ps hs b g (a : Int) = true := by
  unfold Q.isB
  rw [h.size]
  simp; omega
variable (h : Good ps hs b g)
include h
theorem way_f {a t : Nat} (ha : a ≤ ps.length) (ht : t ≤ ps.length) : tree_Way.f ps hs b g (a : Int) (t : Int) = some (C (W h.hp a t)) := by
  unfold tree_Way.f
  rw [if_pos ⟨h.isB ha, h.isB ht⟩, wayT_W h.okp h.len ha ht]
theorem W_le' {a t : Nat} (ha : a ≤ ps.length) (ht : t ≤ ps.length) : ∀ x, x ∈ W h.hp a t → x ≤ ps.length := fun x hx => by
  have := W_le h.hp _ a t rfl x hx; omega
theorem W_len' {a t : Nat} (ha : a ≤ ps.length) (ht : t ≤ ps.length) : (W h.hp a t).length ≤ 15 := by
  have := W_length h.hp _ a t rfl
  have := h.len
  omega
theorem nh_le' {a t : Nat} (ha : a ≤ ps.length) (ht : t ≤ ps.length) (hne : a ≠ t) : nh h.hp a t ≤ ps.length := by
  have := nh_ne h.hp hne; omega
theorem hop_f {a t : Nat} (ha : a ≤ ps.length) (ht : t ≤ ps.length) : tree_Hop.f ps hs b g (a : Int) (t : Int) = some (if a = t then -1 else (nh h.hp a t : Int)) := by
  unfold tree_Hop.f
  rw [way_f h ha ht]
  simp only [Option.bind_some]
  by_cases e : a = t
  · subst e
    rw [W_self, if_pos rfl, if_neg (by simp [C])]
  · rw [if_neg e, W_next h.hp a t e]
    obtain ⟨u, hu⟩ := W_head h.hp (nh h.hp a t) t
    rw [hu]
    rw [if_pos (by simp [C]; omega), if_pos (by simp [C]; omega)]
    congr 1
end
end Go.Proofs.Ytpoolbjmebacdaa.Q
