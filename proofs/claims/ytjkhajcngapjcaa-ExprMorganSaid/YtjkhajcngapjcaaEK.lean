/- Two parts in a block; what and, or, not of right ones come to. -/
import Derived.Test.YtjkhajcngapjcaaEC
import Derived.Outline
namespace Go.Proofs.Ytjkhajcngapjcaa.Q
open Go.RowKit Go.Proofs.YtjkhajcngapjcaaW.PrintWords Go.Proofs.YtjkhajcngapjcaaW.PrintLast Go.Proofs.YtjkhajcngapjcaaW.PrintMore
set_option linter.unusedVariables false
set_option linter.unusedSimpArgs false

theorem C28_two {w : World} {b : Nat} {t : TypeId} {x y : S28} {A3a : Option Addr} {c3a : Nat} {A5a : Option Addr} {c5a : Nat} {A6a : Option Addr} {c6a : Nat} {A3b : Option Addr} {c3b : Nat} {A5b : Option Addr} {c5b : Nat} {A6b : Option Addr} {c6b : Nat} (h : w.heap[b]? = some (.cells #[.int .i64 x.f0, .int .i64 x.f1, .bool x.f2.f0, .slice A3a x.f2.f1.length c3a, .bool x.f2.f2, .slice A5a x.f2.f3.length c5a, .slice A6a x.f3.length c6a, .int .i64 y.f0, .int .i64 y.f1, .bool y.f2.f0, .slice A3b y.f2.f1.length c3b, .bool y.f2.f2, .slice A5b y.f2.f3.length c5b, .slice A6b y.f3.length c6b] t (0, 0)))
    (hx : XR w (.agg #[.int .i64 x.f0, .int .i64 x.f1, .bool x.f2.f0, .slice A3a x.f2.f1.length c3a, .bool x.f2.f2, .slice A5a x.f2.f3.length c5a, .slice A6a x.f3.length c6a]) x) (hy : XR w (.agg #[.int .i64 y.f0, .int .i64 y.f1, .bool y.f2.f0, .slice A3b y.f2.f1.length c3b, .bool y.f2.f2, .slice A5b y.f2.f3.length c5b, .slice A6b y.f3.length c6b]) y) : k28.C w (some ⟨b, 0, none⟩) 2 [x, y] := by
  refine ⟨rfl, by omega, fun _ => ⟨⟨b, 0, none⟩, rfl, fun j p hj => ?_⟩⟩
  have hj0 : j = 0 ∧ x = p ∨ j = 1 ∧ y = p := by
    cases j with
    | zero => left; exact ⟨rfl, by simpa using hj⟩
    | succ j =>
      cases j with
      | zero => right; exact ⟨rfl, by simpa using hj⟩
      | succ j => simp at hj
  rcases hj0 with ⟨rfl, rfl⟩ | ⟨rfl, rfl⟩
  · obtain ⟨A3, c3, A5, c5, A6, c6, he, l3, g3, l5, g5, l6, g6⟩ := hx
    simp at he
    obtain ⟨⟨rfl, rfl⟩, ⟨rfl, rfl⟩, rfl, rfl⟩ := he
    refine ⟨_, rfl, k28_mk w x l3 g3 l5 g5 l6 g6, fun i u hu => ?_⟩
    rw [Nat.zero_mul, Nat.zero_add, add_plain, blk_cell h i]
    have hl : i < 7 := (List.getElem?_eq_some_iff.1 hu).1
    have hi : i = 0 ∨ i = 1 ∨ i = 2 ∨ i = 3 ∨ i = 4 ∨ i = 5 ∨ i = 6 := by omega
    rcases hi with rfl | rfl | rfl | rfl | rfl | rfl | rfl <;> simpa using hu
  · obtain ⟨A3, c3, A5, c5, A6, c6, he, l3, g3, l5, g5, l6, g6⟩ := hy
    simp at he
    obtain ⟨⟨rfl, rfl⟩, ⟨rfl, rfl⟩, rfl, rfl⟩ := he
    refine ⟨_, rfl, k28_mk w y l3 g3 l5 g5 l6 g6, fun i u hu => ?_⟩
    have hl : i < 7 := (List.getElem?_eq_some_iff.1 hu).1
    have hi : i = 0 ∨ i = 1 ∨ i = 2 ∨ i = 3 ∨ i = 4 ∨ i = 5 ∨ i = 6 := by omega
    rw [show 1 * k28.sz + i = 7 + i from rfl, add_plain, blk_cell h (7 + i)]
    rcases hi with rfl | rfl | rfl | rfl | rfl | rfl | rfl <;> simpa using hu
theorem isT_and2 (e : Nat → V3) (x y : S28) : isT e ⟨2, 0, s0, [x, y]⟩ = (isT e x && isT e y) := by rw [isT_eq]; simp [isAll]
theorem isT_or2 (e : Nat → V3) (x y : S28) : isT e ⟨3, 0, s0, [x, y]⟩ = (isT e x || isT e y) := by rw [isT_eq]; simp [isAny]
theorem isT_and1 (e : Nat → V3) (x : S28) : isT e ⟨2, 0, s0, [x]⟩ = isT e x := by rw [isT_eq]; simp [isAll]
theorem isT_or1 (e : Nat → V3) (x : S28) : isT e ⟨3, 0, s0, [x]⟩ = isT e x := by rw [isT_eq]; simp [isAny]
theorem fine_list {k : Int} {xs : List S28} (h : ∀ x, x ∈ xs → Each (fun y => FineS y.f2) x) : Each (fun y => FineS y.f2) ⟨k, 0, s0, xs⟩ := .mk _ (show FineS s0 from ⟨(fun r hr => by cases hr), Nat.zero_le _, Nat.zero_le _⟩) h

end Go.Proofs.Ytjkhajcngapjcaa.Q
