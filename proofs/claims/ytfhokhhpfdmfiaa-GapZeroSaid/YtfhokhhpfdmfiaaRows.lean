/-
  No cell of these rows narrows 'for every input' (looked for: loops, veiled, ifaces, maps, wideKeys, modest, calm, conditions, laid).
  DERIVED. THE GIVEN ROWS OF THIS SEAT. 4 by the template 'for every input the law returns true; each argument reads behind the call as it read before'; 0 by the template 'total and deterministic' (their statements: YtfhokhhpfdmfiaaTotals.lean).
  GIVEN WITH THE SEED: the statements are not yours to turn. If you find one false, say at which input.
  Laid BY PROGRAM, IN A SANDBOX (cutbox-rows.mjs): the forced cells as the released guide's own fill.sh prints them over the translation 0fa4874e44c99a73… (all of the seat's roots in one cut). By AI agents, Wed Nov 11 2026. No macro, syntax, notation, axiom, sorry.
-/
import Derived.Test.YtfhokhhpfdmfiaaChecked
import GoSem.Claim
import GoSem.ClaimJoined
import GoSem.ClaimMapViews
import Derived.JoinedTies
import Derived.KernelRfl
namespace Go.Proofs.Ytfhokhhpfdmfiaa
/- THE CELL 'sum', in the pinned program and in every row, IS THE sha256 OF THE DUMP (.gsa) THAT YtfhokhhpfdmfiaaProg.lean LOADS. Nothing in Lean hashes anything: it is a label: what it is worth is what the hold of that sum in a sandbox is worth. -/
noncomputable def Try.pinned : Pinned := { name := "ytfhokhhpfdmfiaa", sum := "0fa4874e44c99a7358c0c7f843dee5f19775e106dcf6fc570a46d4ed330bf547", checked := Try.checked }
namespace Rows
def none {H : Type} : Left H := { results := [], args := [] }

/-- 'arbourlaw12.GapZero': WHATEVER THE INPUT: true; the input reads as it did. -/
def gapZeroSpec : ChangeSpec := { name := "gapZero", fn := fun _ => fun
  | [d1, d2, d3, d4] => { results := [.lit (.bool true)], args := [d1, d2, d3, d4] }
  | _ => none }
def gapZeroRow : OpenClaim := { program := "ytfhokhhpfdmfiaa", sum := "0fa4874e44c99a7358c0c7f843dee5f19775e106dcf6fc570a46d4ed330bf547", func := "arbour/arbourlaw12.GapZero", spec := "gapZero", unfollowed := true, recurses := true, apart := false }
def GapZeroSaid : Prop := gapZeroRow.holds Try.pinned (OpenSpec.ofChange gapZeroSpec)

/-- ITS FALSE NEIGHBOUR: 'it returns false'. Refute it at one input. -/
def gapZeroWrong : ChangeSpec := { name := "gapZero", fn := fun _ => fun
  | [d1, d2, d3, d4] => { results := [.lit (.bool false)], args := [d1, d2, d3, d4] }
  | _ => none }
def GapZeroWrongFalsely : Prop := gapZeroRow.holds Try.pinned (OpenSpec.ofChange gapZeroWrong)

/-- 'arbourlaw12.GapAdds': WHATEVER THE INPUT: true; the input reads as it did. -/
def gapAddsSpec : ChangeSpec := { name := "gapAdds", fn := fun _ => fun
  | [d1, d2, d3] => { results := [.lit (.bool true)], args := [d1, d2, d3] }
  | _ => none }
def gapAddsRow : OpenClaim := { program := "ytfhokhhpfdmfiaa", sum := "0fa4874e44c99a7358c0c7f843dee5f19775e106dcf6fc570a46d4ed330bf547", func := "arbour/arbourlaw12.GapAdds", spec := "gapAdds", unfollowed := true, recurses := true, apart := false }
def GapAddsSaid : Prop := gapAddsRow.holds Try.pinned (OpenSpec.ofChange gapAddsSpec)

/-- ITS FALSE NEIGHBOUR: 'it returns false'. Refute it at one input. -/
def gapAddsWrong : ChangeSpec := { name := "gapAdds", fn := fun _ => fun
  | [d1, d2, d3] => { results := [.lit (.bool false)], args := [d1, d2, d3] }
  | _ => none }
def GapAddsWrongFalsely : Prop := gapAddsRow.holds Try.pinned (OpenSpec.ofChange gapAddsWrong)

/-- 'arbourlaw12.GapSteps': WHATEVER THE INPUT: true; the input reads as it did. -/
def gapStepsSpec : ChangeSpec := { name := "gapSteps", fn := fun _ => fun
  | [d1, d2, d3, d4] => { results := [.lit (.bool true)], args := [d1, d2, d3, d4] }
  | _ => none }
def gapStepsRow : OpenClaim := { program := "ytfhokhhpfdmfiaa", sum := "0fa4874e44c99a7358c0c7f843dee5f19775e106dcf6fc570a46d4ed330bf547", func := "arbour/arbourlaw12.GapSteps", spec := "gapSteps", unfollowed := true, recurses := true, apart := false }
def GapStepsSaid : Prop := gapStepsRow.holds Try.pinned (OpenSpec.ofChange gapStepsSpec)

/-- ITS FALSE NEIGHBOUR: 'it returns false'. Refute it at one input. -/
def gapStepsWrong : ChangeSpec := { name := "gapSteps", fn := fun _ => fun
  | [d1, d2, d3, d4] => { results := [.lit (.bool false)], args := [d1, d2, d3, d4] }
  | _ => none }
def GapStepsWrongFalsely : Prop := gapStepsRow.holds Try.pinned (OpenSpec.ofChange gapStepsWrong)

/-- 'arbourlaw12.GapFilters': WHATEVER THE INPUT: true; the input reads as it did. -/
def gapFiltersSpec : ChangeSpec := { name := "gapFilters", fn := fun _ => fun
  | [d1, d2, d3] => { results := [.lit (.bool true)], args := [d1, d2, d3] }
  | _ => none }
def gapFiltersRow : OpenClaim := { program := "ytfhokhhpfdmfiaa", sum := "0fa4874e44c99a7358c0c7f843dee5f19775e106dcf6fc570a46d4ed330bf547", func := "arbour/arbourlaw12.GapFilters", spec := "gapFilters", unfollowed := true, recurses := true, apart := false }
def GapFiltersSaid : Prop := gapFiltersRow.holds Try.pinned (OpenSpec.ofChange gapFiltersSpec)

/-- ITS FALSE NEIGHBOUR: 'it returns false'. Refute it at one input. -/
def gapFiltersWrong : ChangeSpec := { name := "gapFilters", fn := fun _ => fun
  | [d1, d2, d3] => { results := [.lit (.bool false)], args := [d1, d2, d3] }
  | _ => none }
def GapFiltersWrongFalsely : Prop := gapFiltersRow.holds Try.pinned (OpenSpec.ofChange gapFiltersWrong)

/- THE SECOND FORM. 'bulk': how many values and letters a reading holds, each counted each time it is reached (what is shared counts as often as it is met; a slice's spare places count too). A statement '..UptoSaid' is the law's where the arguments, and the package variables that the reading takes, are together of bulk at most 1048576: NARROWER than '..Said'. Prove '..Said' where nothing that the law and all that it calls make is longer than what came in: it says more and counts as full. Else prove '..UptoSaid'. A law counts once. -/
mutual
def uptoBulk {H : Type} : DataW H → Nat
  | .lit (.string bytes) => bytes.length + 1
  | .lit _ => 1
  | .nil => 1
  | .ptr d => uptoBulk d + 1
  | .slice elems spare => uptoBulkAll elems + uptoBulkAll spare + 1
  | .agg parts => uptoBulkAll parts + 1
  | .iface _ d => uptoBulk d + 1
  | .map entries => uptoBulkEntries entries + 1
  | .held _ => 1
def uptoBulkAll {H : Type} : List (DataW H) → Nat
  | [] => 0
  | d :: r => uptoBulk d + uptoBulkAll r
def uptoBulkEntries {H : Type} : List (Lit × DataW H) → Nat
  | [] => 0
  | x :: r => uptoBulkEntry x + uptoBulkEntries r
def uptoBulkEntry {H : Type} : Lit × DataW H → Nat
  | (.string bytes, d) => bytes.length + uptoBulk d + 1
  | (_, d) => uptoBulk d + 1
 end
def uptoSmall : (H : Type) → List (DataW H) → Bool := fun _ ds => decide (uptoBulkAll ds ≤ 1048576)
def OpenSpec.upto (s : _root_.Go.ChangeSpec) : _root_.Go.OpenSpec := { _root_.Go.OpenSpec.ofChange s with cond := some uptoSmall }

/-- 'arbourlaw12.GapZero', WHERE WHAT IT READS IS OF BULK AT MOST 1048576: true; the input reads as it did. -/
def gapZeroUptoRow : OpenClaim := { program := "ytfhokhhpfdmfiaa", sum := "0fa4874e44c99a7358c0c7f843dee5f19775e106dcf6fc570a46d4ed330bf547", func := "arbour/arbourlaw12.GapZero", spec := "gapZero", unfollowed := true, recurses := true, apart := false, narrowed := true }
def GapZeroUptoSaid : Prop := gapZeroUptoRow.holds Try.pinned (OpenSpec.upto gapZeroSpec)

/-- 'arbourlaw12.GapAdds', WHERE WHAT IT READS IS OF BULK AT MOST 1048576: true; the input reads as it did. -/
def gapAddsUptoRow : OpenClaim := { program := "ytfhokhhpfdmfiaa", sum := "0fa4874e44c99a7358c0c7f843dee5f19775e106dcf6fc570a46d4ed330bf547", func := "arbour/arbourlaw12.GapAdds", spec := "gapAdds", unfollowed := true, recurses := true, apart := false, narrowed := true }
def GapAddsUptoSaid : Prop := gapAddsUptoRow.holds Try.pinned (OpenSpec.upto gapAddsSpec)

/-- 'arbourlaw12.GapSteps', WHERE WHAT IT READS IS OF BULK AT MOST 1048576: true; the input reads as it did. -/
def gapStepsUptoRow : OpenClaim := { program := "ytfhokhhpfdmfiaa", sum := "0fa4874e44c99a7358c0c7f843dee5f19775e106dcf6fc570a46d4ed330bf547", func := "arbour/arbourlaw12.GapSteps", spec := "gapSteps", unfollowed := true, recurses := true, apart := false, narrowed := true }
def GapStepsUptoSaid : Prop := gapStepsUptoRow.holds Try.pinned (OpenSpec.upto gapStepsSpec)

/-- 'arbourlaw12.GapFilters', WHERE WHAT IT READS IS OF BULK AT MOST 1048576: true; the input reads as it did. -/
def gapFiltersUptoRow : OpenClaim := { program := "ytfhokhhpfdmfiaa", sum := "0fa4874e44c99a7358c0c7f843dee5f19775e106dcf6fc570a46d4ed330bf547", func := "arbour/arbourlaw12.GapFilters", spec := "gapFilters", unfollowed := true, recurses := true, apart := false, narrowed := true }
def GapFiltersUptoSaid : Prop := gapFiltersUptoRow.holds Try.pinned (OpenSpec.upto gapFiltersSpec)

end Rows
end Go.Proofs.Ytfhokhhpfdmfiaa
