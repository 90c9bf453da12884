/- GapFilters: the walk over arguments as they are handed in. -/
import Derived.Test.YtfhokhhpfdmfiaaFiltW
namespace Go.Proofs.Ytfhokhhpfdmfiaa
open Go.ChangeShapes Go.WideShapes Go.RowKit
theorem filters_walk {H : Type} {enc : TypeId × Value → H} {base : Nat} {spare : Nat → Bool} {held : Bool} {b0 b1 b2 : Nat} {r0 r1 r2 : Reach} {W : World} (u0 : Value) (d0 : DataW H) (p0 : List MemPlace) (h0 : DataW.Trod enc Try.prog W base spare held 22 u0 d0 p0) (hv0 : Value.okWide Try.prog W r0 b0 22 u0)
    (u1 : Value) (d1 : DataW H) (p1 : List MemPlace) (h1 : DataW.Trod enc Try.prog W base spare held 28 u1 d1 p1) (hv1 : Value.okWide Try.prog W r1 b1 28 u1) (u2 : Value) (d2 : DataW H) (p2 : List MemPlace) (h2 : DataW.Trod enc Try.prog W base spare held 32 u2 d2 p2) (hv2 : Value.okWide Try.prog W r2 b2 32 u2) :
    Calls Try.prog 6 #[u0, u1, u2] W fun e W' => e = .returned (.bool true) ∧ Below W.heap.size W W' := by
  obtain ⟨A, n, c, fs, rfl, hf⟩ := filter_arg hv0 h0
  obtain ⟨s, v, rfl, hs⟩ := box_arg hv1 h1
  obtain ⟨e, rfl, hi⟩ := event_arg hv2 h2
  exact filters_near A n c fs s v e W hf hs hi
end Go.Proofs.Ytfhokhhpfdmfiaa
