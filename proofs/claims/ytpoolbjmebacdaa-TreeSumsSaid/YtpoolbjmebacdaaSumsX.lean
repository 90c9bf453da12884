/- TreeSums: the walk over an argument as it is handed in. -/
import Derived.Test.YtpoolbjmebacdaaSumsW
namespace Go.Proofs.Ytpoolbjmebacdaa
open Go.ChangeShapes Go.WideShapes Go.RowKit Q
theorem sums_arg {H : Type} {enc : TypeId × Value → H} {base : Nat} {spare : Nat → Bool} {held : Bool} {b0 : Nat} {r0 : Reach} {W : World} (u0 : Value) (d0 : DataW H) (p0 : List MemPlace) (h0 : DataW.Trod enc Try.prog W base spare held 25 u0 d0 p0) (hv0 : Value.okWide Try.prog W r0 b0 25 u0) :
    Calls Try.prog 7 #[u0] W fun e W' => e = .returned (.bool true) ∧ Below W.heap.size W W' := by
  obtain ⟨A, ps, c, B, hs, d, b, g, rfl, h1, h2, h3, h4⟩ := header_arg hv0 h0
  exact sums_walk A c ps B d hs b g W h1 h2 h3 h4
end Go.Proofs.Ytpoolbjmebacdaa
