/-
  NARROWER THAN 'FOR EVERY INPUT', by the rows' own cells (each row's printed sentence says how): ExprEvals: loops · ExprMakes: loops · ExprMorgan: loops · ExprTwice: loops · ExprWalks: loops.
  DERIVED. THE GIVEN ROWS OF THIS SEAT. 6 by the template 'for every input the law returns true; each argument reads behind the call as it read before'; 0 by the template 'total and deterministic' (their statements: YtjkhajcngapjcaaTotals.lean).
  GIVEN WITH THE SEED: the statements are not yours to turn. If you find one false, say at which input.
  Laid BY PROGRAM, IN A SANDBOX (cutbox-rows.mjs): the forced cells as the released guide's own fill.sh prints them over the translation 0854a28c9824cbc7… (all of the seat's roots in one cut). By AI agents, Wed Nov 11 2026. No macro, syntax, notation, axiom, sorry.
-/
import Derived.Test.YtjkhajcngapjcaaChecked
import GoSem.Claim
import GoSem.ClaimJoined
import GoSem.ClaimMapViews
import Derived.JoinedTies
import Derived.KernelRfl
namespace Go.Proofs.Ytjkhajcngapjcaa
/- THE CELL 'sum', in the pinned program and in every row, IS THE sha256 OF THE DUMP (.gsa) THAT YtjkhajcngapjcaaProg.lean LOADS. Nothing in Lean hashes anything: it is a label: what it is worth is what the hold of that sum in a sandbox is worth. -/
noncomputable def Try.pinned : Pinned := { name := "ytjkhajcngapjcaa", sum := "0854a28c9824cbc79f8e1f4bfd58f9d96ea1f6c1121b4dd64cba7a74cfd8078b", checked := Try.checked }
namespace Rows
def none {H : Type} : Left H := { results := [], args := [] }

/-- 'arbourlaw05.ExprEvals': WHATEVER THE INPUT: true; the input reads as it did. -/
def exprEvalsSpec : ChangeSpec := { name := "exprEvals", fn := fun _ => fun
  | [d1, d2] => { results := [.lit (.bool true)], args := [d1, d2] }
  | _ => none }
def exprEvalsRow : OpenClaim := { program := "ytjkhajcngapjcaa", sum := "0854a28c9824cbc79f8e1f4bfd58f9d96ea1f6c1121b4dd64cba7a74cfd8078b", func := "arbour/arbourlaw05.ExprEvals", spec := "exprEvals", unfollowed := true, recurses := true, loops := true, apart := false }
def ExprEvalsSaid : Prop := exprEvalsRow.holds Try.pinned (OpenSpec.ofChange exprEvalsSpec)

/-- ITS FALSE NEIGHBOUR: 'it returns false'. Refute it at one input. -/
def exprEvalsWrong : ChangeSpec := { name := "exprEvals", fn := fun _ => fun
  | [d1, d2] => { results := [.lit (.bool false)], args := [d1, d2] }
  | _ => none }
def ExprEvalsWrongFalsely : Prop := exprEvalsRow.holds Try.pinned (OpenSpec.ofChange exprEvalsWrong)

/-- 'arbourlaw05.ExprMakes': WHATEVER THE INPUT: true; the input reads as it did. -/
def exprMakesSpec : ChangeSpec := { name := "exprMakes", fn := fun _ => fun
  | [d1, d2, d3] => { results := [.lit (.bool true)], args := [d1, d2, d3] }
  | _ => none }
def exprMakesRow : OpenClaim := { program := "ytjkhajcngapjcaa", sum := "0854a28c9824cbc79f8e1f4bfd58f9d96ea1f6c1121b4dd64cba7a74cfd8078b", func := "arbour/arbourlaw05.ExprMakes", spec := "exprMakes", unfollowed := true, recurses := true, loops := true, apart := false }
def ExprMakesSaid : Prop := exprMakesRow.holds Try.pinned (OpenSpec.ofChange exprMakesSpec)

/-- ITS FALSE NEIGHBOUR: 'it returns false'. Refute it at one input. -/
def exprMakesWrong : ChangeSpec := { name := "exprMakes", fn := fun _ => fun
  | [d1, d2, d3] => { results := [.lit (.bool false)], args := [d1, d2, d3] }
  | _ => none }
def ExprMakesWrongFalsely : Prop := exprMakesRow.holds Try.pinned (OpenSpec.ofChange exprMakesWrong)

/-- 'arbourlaw05.ExprMorgan': WHATEVER THE INPUT: true; the input reads as it did. -/
def exprMorganSpec : ChangeSpec := { name := "exprMorgan", fn := fun _ => fun
  | [d1, d2] => { results := [.lit (.bool true)], args := [d1, d2] }
  | _ => none }
def exprMorganRow : OpenClaim := { program := "ytjkhajcngapjcaa", sum := "0854a28c9824cbc79f8e1f4bfd58f9d96ea1f6c1121b4dd64cba7a74cfd8078b", func := "arbour/arbourlaw05.ExprMorgan", spec := "exprMorgan", unfollowed := true, recurses := true, loops := true, apart := false }
def ExprMorganSaid : Prop := exprMorganRow.holds Try.pinned (OpenSpec.ofChange exprMorganSpec)

/-- ITS FALSE NEIGHBOUR: 'it returns false'. Refute it at one input. -/
def exprMorganWrong : ChangeSpec := { name := "exprMorgan", fn := fun _ => fun
  | [d1, d2] => { results := [.lit (.bool false)], args := [d1, d2] }
  | _ => none }
def ExprMorganWrongFalsely : Prop := exprMorganRow.holds Try.pinned (OpenSpec.ofChange exprMorganWrong)

/-- 'arbourlaw05.ExprTwice': WHATEVER THE INPUT: true; the input reads as it did. -/
def exprTwiceSpec : ChangeSpec := { name := "exprTwice", fn := fun _ => fun
  | [d1, d2] => { results := [.lit (.bool true)], args := [d1, d2] }
  | _ => none }
def exprTwiceRow : OpenClaim := { program := "ytjkhajcngapjcaa", sum := "0854a28c9824cbc79f8e1f4bfd58f9d96ea1f6c1121b4dd64cba7a74cfd8078b", func := "arbour/arbourlaw05.ExprTwice", spec := "exprTwice", unfollowed := true, recurses := true, loops := true, apart := false }
def ExprTwiceSaid : Prop := exprTwiceRow.holds Try.pinned (OpenSpec.ofChange exprTwiceSpec)

/-- ITS FALSE NEIGHBOUR: 'it returns false'. Refute it at one input. -/
def exprTwiceWrong : ChangeSpec := { name := "exprTwice", fn := fun _ => fun
  | [d1, d2] => { results := [.lit (.bool false)], args := [d1, d2] }
  | _ => none }
def ExprTwiceWrongFalsely : Prop := exprTwiceRow.holds Try.pinned (OpenSpec.ofChange exprTwiceWrong)

/-- 'arbourlaw05.ExprAtoms': WHATEVER THE INPUT: true; the input reads as it did. -/
def exprAtomsSpec : ChangeSpec := { name := "exprAtoms", fn := fun _ => fun
  | [d1, d2, d3] => { results := [.lit (.bool true)], args := [d1, d2, d3] }
  | _ => none }
def exprAtomsRow : OpenClaim := { program := "ytjkhajcngapjcaa", sum := "0854a28c9824cbc79f8e1f4bfd58f9d96ea1f6c1121b4dd64cba7a74cfd8078b", func := "arbour/arbourlaw05.ExprAtoms", spec := "exprAtoms", unfollowed := true, recurses := true, apart := false }
def ExprAtomsSaid : Prop := exprAtomsRow.holds Try.pinned (OpenSpec.ofChange exprAtomsSpec)

/-- ITS FALSE NEIGHBOUR: 'it returns false'. Refute it at one input. -/
def exprAtomsWrong : ChangeSpec := { name := "exprAtoms", fn := fun _ => fun
  | [d1, d2, d3] => { results := [.lit (.bool false)], args := [d1, d2, d3] }
  | _ => none }
def ExprAtomsWrongFalsely : Prop := exprAtomsRow.holds Try.pinned (OpenSpec.ofChange exprAtomsWrong)

/-- 'arbourlaw05.ExprWalks': WHATEVER THE INPUT: true; the input reads as it did. -/
def exprWalksSpec : ChangeSpec := { name := "exprWalks", fn := fun _ => fun
  | [d1, d2] => { results := [.lit (.bool true)], args := [d1, d2] }
  | _ => none }
def exprWalksRow : OpenClaim := { program := "ytjkhajcngapjcaa", sum := "0854a28c9824cbc79f8e1f4bfd58f9d96ea1f6c1121b4dd64cba7a74cfd8078b", func := "arbour/arbourlaw05.ExprWalks", spec := "exprWalks", unfollowed := true, recurses := true, loops := true, apart := false }
def ExprWalksSaid : Prop := exprWalksRow.holds Try.pinned (OpenSpec.ofChange exprWalksSpec)

/-- ITS FALSE NEIGHBOUR: 'it returns false'. Refute it at one input. -/
def exprWalksWrong : ChangeSpec := { name := "exprWalks", fn := fun _ => fun
  | [d1, d2] => { results := [.lit (.bool false)], args := [d1, d2] }
  | _ => none }
def ExprWalksWrongFalsely : Prop := exprWalksRow.holds Try.pinned (OpenSpec.ofChange exprWalksWrong)

/- THE SECOND FORM. 'bulk': how many values and letters a reading holds, each counted each time it is reached (what is shared counts as often as it is met; a slice's spare places count too). A statement '..UptoSaid' is the law's where the arguments, and the package variables that the reading takes, are together of bulk at most 1048576: NARROWER than '..Said'. Prove '..Said' where nothing that the law and all that it calls make is longer than what came in: it says more and counts as full. Else prove '..UptoSaid'. A law counts once. -/
mutual
def uptoBulk {H : Type} : DataW H → Nat
  | .lit (.string bytes) => bytes.length + 1
  | .lit _ => 1
  | .nil => 1
  | .ptr d => uptoBulk d + 1
  | .slice elems spare => uptoBulkAll elems + uptoBulkAll spare + 1
  | .agg parts => uptoBulkAll parts + 1
  | .iface _ d => uptoBulk d + 1
  | .map entries => uptoBulkEntries entries + 1
  | .held _ => 1
def uptoBulkAll {H : Type} : List (DataW H) → Nat
  | [] => 0
  | d :: r => uptoBulk d + uptoBulkAll r
def uptoBulkEntries {H : Type} : List (Lit × DataW H) → Nat
  | [] => 0
  | x :: r => uptoBulkEntry x + uptoBulkEntries r
def uptoBulkEntry {H : Type} : Lit × DataW H → Nat
  | (.string bytes, d) => bytes.length + uptoBulk d + 1
  | (_, d) => uptoBulk d + 1
 end
def uptoSmall : (H : Type) → List (DataW H) → Bool := fun _ ds => decide (uptoBulkAll ds ≤ 1048576)
def OpenSpec.upto (s : _root_.Go.ChangeSpec) : _root_.Go.OpenSpec := { _root_.Go.OpenSpec.ofChange s with cond := some uptoSmall }

/-- 'arbourlaw05.ExprEvals', WHERE WHAT IT READS IS OF BULK AT MOST 1048576: true; the input reads as it did. -/
def exprEvalsUptoRow : OpenClaim := { program := "ytjkhajcngapjcaa", sum := "0854a28c9824cbc79f8e1f4bfd58f9d96ea1f6c1121b4dd64cba7a74cfd8078b", func := "arbour/arbourlaw05.ExprEvals", spec := "exprEvals", unfollowed := true, recurses := true, loops := true, apart := false, narrowed := true }
def ExprEvalsUptoSaid : Prop := exprEvalsUptoRow.holds Try.pinned (OpenSpec.upto exprEvalsSpec)

/-- 'arbourlaw05.ExprMakes', WHERE WHAT IT READS IS OF BULK AT MOST 1048576: true; the input reads as it did. -/
def exprMakesUptoRow : OpenClaim := { program := "ytjkhajcngapjcaa", sum := "0854a28c9824cbc79f8e1f4bfd58f9d96ea1f6c1121b4dd64cba7a74cfd8078b", func := "arbour/arbourlaw05.ExprMakes", spec := "exprMakes", unfollowed := true, recurses := true, loops := true, apart := false, narrowed := true }
def ExprMakesUptoSaid : Prop := exprMakesUptoRow.holds Try.pinned (OpenSpec.upto exprMakesSpec)

/-- 'arbourlaw05.ExprMorgan', WHERE WHAT IT READS IS OF BULK AT MOST 1048576: true; the input reads as it did. -/
def exprMorganUptoRow : OpenClaim := { program := "ytjkhajcngapjcaa", sum := "0854a28c9824cbc79f8e1f4bfd58f9d96ea1f6c1121b4dd64cba7a74cfd8078b", func := "arbour/arbourlaw05.ExprMorgan", spec := "exprMorgan", unfollowed := true, recurses := true, loops := true, apart := false, narrowed := true }
def ExprMorganUptoSaid : Prop := exprMorganUptoRow.holds Try.pinned (OpenSpec.upto exprMorganSpec)

/-- 'arbourlaw05.ExprTwice', WHERE WHAT IT READS IS OF BULK AT MOST 1048576: true; the input reads as it did. -/
def exprTwiceUptoRow : OpenClaim := { program := "ytjkhajcngapjcaa", sum := "0854a28c9824cbc79f8e1f4bfd58f9d96ea1f6c1121b4dd64cba7a74cfd8078b", func := "arbour/arbourlaw05.ExprTwice", spec := "exprTwice", unfollowed := true, recurses := true, loops := true, apart := false, narrowed := true }
def ExprTwiceUptoSaid : Prop := exprTwiceUptoRow.holds Try.pinned (OpenSpec.upto exprTwiceSpec)

/-- 'arbourlaw05.ExprAtoms', WHERE WHAT IT READS IS OF BULK AT MOST 1048576: true; the input reads as it did. -/
def exprAtomsUptoRow : OpenClaim := { program := "ytjkhajcngapjcaa", sum := "0854a28c9824cbc79f8e1f4bfd58f9d96ea1f6c1121b4dd64cba7a74cfd8078b", func := "arbour/arbourlaw05.ExprAtoms", spec := "exprAtoms", unfollowed := true, recurses := true, apart := false, narrowed := true }
def ExprAtomsUptoSaid : Prop := exprAtomsUptoRow.holds Try.pinned (OpenSpec.upto exprAtomsSpec)

/-- 'arbourlaw05.ExprWalks', WHERE WHAT IT READS IS OF BULK AT MOST 1048576: true; the input reads as it did. -/
def exprWalksUptoRow : OpenClaim := { program := "ytjkhajcngapjcaa", sum := "0854a28c9824cbc79f8e1f4bfd58f9d96ea1f6c1121b4dd64cba7a74cfd8078b", func := "arbour/arbourlaw05.ExprWalks", spec := "exprWalks", unfollowed := true, recurses := true, loops := true, apart := false, narrowed := true }
def ExprWalksUptoSaid : Prop := exprWalksUptoRow.holds Try.pinned (OpenSpec.upto exprWalksSpec)

end Rows
end Go.Proofs.Ytjkhajcngapjcaa
