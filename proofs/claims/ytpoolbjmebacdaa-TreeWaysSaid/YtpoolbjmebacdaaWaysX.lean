/- TreeWays: the walk over arguments as they are handed in. -/
import Derived.Test.YtpoolbjmebacdaaWaysW
import Derived.Test.YtpoolbjmebacdaaOpens
namespace Go.Proofs.Ytpoolbjmebacdaa
open Go.ChangeShapes Go.WideShapes Go.RowKit Q
theorem ways_arg {H : Type} {enc : TypeId × Value → H} {base : Nat} {spare : Nat → Bool} {held : Bool} {b0 : Nat} {r0 : Reach} {W : World} (u0 : Value) (d0 : DataW H) (p0 : List MemPlace) (h0 : DataW.Trod enc Try.prog W base spare held 25 u0 d0 p0) (hv0 : Value.okWide Try.prog W r0 b0 25 u0)
    (x : Int) (_ : (Lit.int .i64 x).wf = true) (y : Int) (_ : (Lit.int .i64 y).wf = true) :
    Calls Try.prog 5 #[u0, .int .i64 x, .int .i64 y] W fun e W' => e = .returned (.bool true) ∧ Below W.heap.size W W' := by
  obtain ⟨A, ps, c, B, hs, d, b, g, rfl, h1, h2, h3, h4⟩ := header_arg hv0 h0
  exact ways_walk A c ps B d hs b g x y W h1 h2 h3 h4
end Go.Proofs.Ytpoolbjmebacdaa
