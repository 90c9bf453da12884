/-
  No cell of these rows narrows 'for every input' (looked for: loops, veiled, ifaces, maps, wideKeys, modest, calm, conditions, laid).
  DERIVED. THE GIVEN ROWS OF THIS SEAT. 6 by the template 'for every input the law returns true; each argument reads behind the call as it read before'; 0 by the template 'total and deterministic' (their statements: YthijblakadifiaaTotals.lean).
  GIVEN WITH THE SEED: the statements are not yours to turn. If you find one false, say at which input.
  Laid BY PROGRAM, IN A SANDBOX (cutbox-rows.mjs): the forced cells as the released guide's own fill.sh prints them over the translation 71ba73cf28858255… (all of the seat's roots in one cut). By AI agents, Wed Nov 11 2026. No macro, syntax, notation, axiom, sorry.
-/
import Derived.Test.YthijblakadifiaaChecked
import GoSem.Claim
import GoSem.ClaimJoined
import GoSem.ClaimMapViews
import Derived.JoinedTies
import Derived.KernelRfl
namespace Go.Proofs.Ythijblakadifiaa
/- THE CELL 'sum', in the pinned program and in every row, IS THE sha256 OF THE DUMP (.gsa) THAT YthijblakadifiaaProg.lean LOADS. Nothing in Lean hashes anything: it is a label: what it is worth is what the hold of that sum in a sandbox is worth. -/
noncomputable def Try.pinned : Pinned := { name := "ythijblakadifiaa", sum := "71ba73cf28858255c1274db820f5f87e4df2feb06fc863ce798381aa2440b6a9", checked := Try.checked }
namespace Rows
def none {H : Type} : Left H := { results := [], args := [] }

/-- 'arbourlaw02.CodecBytes': WHATEVER THE INPUT: true; the input reads as it did. -/
def codecBytesSpec : ChangeSpec := { name := "codecBytes", fn := fun _ => fun
  | [d1, d2, d3] => { results := [.lit (.bool true)], args := [d1, d2, d3] }
  | _ => none }
def codecBytesRow : OpenClaim := { program := "ythijblakadifiaa", sum := "71ba73cf28858255c1274db820f5f87e4df2feb06fc863ce798381aa2440b6a9", func := "arbour/arbourlaw02.CodecBytes", spec := "codecBytes", recurses := true, apart := false }
def CodecBytesSaid : Prop := codecBytesRow.holds Try.pinned (OpenSpec.ofChange codecBytesSpec)

/-- ITS FALSE NEIGHBOUR: 'it returns false'. Refute it at one input. -/
def codecBytesWrong : ChangeSpec := { name := "codecBytes", fn := fun _ => fun
  | [d1, d2, d3] => { results := [.lit (.bool false)], args := [d1, d2, d3] }
  | _ => none }
def CodecBytesWrongFalsely : Prop := codecBytesRow.holds Try.pinned (OpenSpec.ofChange codecBytesWrong)

/-- 'arbourlaw02.CodecRises': WHATEVER THE INPUT: true; the input reads as it did. -/
def codecRisesSpec : ChangeSpec := { name := "codecRises", fn := fun _ => fun
  | [d1, d2] => { results := [.lit (.bool true)], args := [d1, d2] }
  | _ => none }
def codecRisesRow : OpenClaim := { program := "ythijblakadifiaa", sum := "71ba73cf28858255c1274db820f5f87e4df2feb06fc863ce798381aa2440b6a9", func := "arbour/arbourlaw02.CodecRises", spec := "codecRises", apart := false }
def CodecRisesSaid : Prop := codecRisesRow.holds Try.pinned (OpenSpec.ofChange codecRisesSpec)

/-- ITS FALSE NEIGHBOUR: 'it returns false'. Refute it at one input. -/
def codecRisesWrong : ChangeSpec := { name := "codecRises", fn := fun _ => fun
  | [d1, d2] => { results := [.lit (.bool false)], args := [d1, d2] }
  | _ => none }
def CodecRisesWrongFalsely : Prop := codecRisesRow.holds Try.pinned (OpenSpec.ofChange codecRisesWrong)

/-- 'arbourlaw02.CodecOne': WHATEVER THE INPUT: true; the input reads as it did. -/
def codecOneSpec : ChangeSpec := { name := "codecOne", fn := fun _ => fun
  | [d] => { results := [.lit (.bool true)], args := [d] }
  | _ => none }
def codecOneRow : OpenClaim := { program := "ythijblakadifiaa", sum := "71ba73cf28858255c1274db820f5f87e4df2feb06fc863ce798381aa2440b6a9", func := "arbour/arbourlaw02.CodecOne", spec := "codecOne", apart := false }
def CodecOneSaid : Prop := codecOneRow.holds Try.pinned (OpenSpec.ofChange codecOneSpec)

/-- ITS FALSE NEIGHBOUR: 'it returns false'. Refute it at one input. -/
def codecOneWrong : ChangeSpec := { name := "codecOne", fn := fun _ => fun
  | [d] => { results := [.lit (.bool false)], args := [d] }
  | _ => none }
def CodecOneWrongFalsely : Prop := codecOneRow.holds Try.pinned (OpenSpec.ofChange codecOneWrong)

/-- 'arbourlaw02.CodecPlays': WHATEVER THE INPUT: true; the input reads as it did. -/
def codecPlaysSpec : ChangeSpec := { name := "codecPlays", fn := fun _ => fun
  | [d1, d2] => { results := [.lit (.bool true)], args := [d1, d2] }
  | _ => none }
def codecPlaysRow : OpenClaim := { program := "ythijblakadifiaa", sum := "71ba73cf28858255c1274db820f5f87e4df2feb06fc863ce798381aa2440b6a9", func := "arbour/arbourlaw02.CodecPlays", spec := "codecPlays", apart := false }
def CodecPlaysSaid : Prop := codecPlaysRow.holds Try.pinned (OpenSpec.ofChange codecPlaysSpec)

/-- ITS FALSE NEIGHBOUR: 'it returns false'. Refute it at one input. -/
def codecPlaysWrong : ChangeSpec := { name := "codecPlays", fn := fun _ => fun
  | [d1, d2] => { results := [.lit (.bool false)], args := [d1, d2] }
  | _ => none }
def CodecPlaysWrongFalsely : Prop := codecPlaysRow.holds Try.pinned (OpenSpec.ofChange codecPlaysWrong)

/-- 'arbourlaw02.CodecBack': WHATEVER THE INPUT: true; the input reads as it did. -/
def codecBackSpec : ChangeSpec := { name := "codecBack", fn := fun _ => fun
  | [d1, d2, d3, d4] => { results := [.lit (.bool true)], args := [d1, d2, d3, d4] }
  | _ => none }
def codecBackRow : OpenClaim := { program := "ythijblakadifiaa", sum := "71ba73cf28858255c1274db820f5f87e4df2feb06fc863ce798381aa2440b6a9", func := "arbour/arbourlaw02.CodecBack", spec := "codecBack", apart := false }
def CodecBackSaid : Prop := codecBackRow.holds Try.pinned (OpenSpec.ofChange codecBackSpec)

/-- ITS FALSE NEIGHBOUR: 'it returns false'. Refute it at one input. -/
def codecBackWrong : ChangeSpec := { name := "codecBack", fn := fun _ => fun
  | [d1, d2, d3, d4] => { results := [.lit (.bool false)], args := [d1, d2, d3, d4] }
  | _ => none }
def CodecBackWrongFalsely : Prop := codecBackRow.holds Try.pinned (OpenSpec.ofChange codecBackWrong)

/-- 'arbourlaw02.CodecStops': WHATEVER THE INPUT: true; the input reads as it did. -/
def codecStopsSpec : ChangeSpec := { name := "codecStops", fn := fun _ => fun
  | [d1, d2, d3] => { results := [.lit (.bool true)], args := [d1, d2, d3] }
  | _ => none }
def codecStopsRow : OpenClaim := { program := "ythijblakadifiaa", sum := "71ba73cf28858255c1274db820f5f87e4df2feb06fc863ce798381aa2440b6a9", func := "arbour/arbourlaw02.CodecStops", spec := "codecStops", apart := false }
def CodecStopsSaid : Prop := codecStopsRow.holds Try.pinned (OpenSpec.ofChange codecStopsSpec)

/-- ITS FALSE NEIGHBOUR: 'it returns false'. Refute it at one input. -/
def codecStopsWrong : ChangeSpec := { name := "codecStops", fn := fun _ => fun
  | [d1, d2, d3] => { results := [.lit (.bool false)], args := [d1, d2, d3] }
  | _ => none }
def CodecStopsWrongFalsely : Prop := codecStopsRow.holds Try.pinned (OpenSpec.ofChange codecStopsWrong)

/- THE SECOND FORM. 'bulk': how many values and letters a reading holds, each counted each time it is reached (what is shared counts as often as it is met; a slice's spare places count too). A statement '..UptoSaid' is the law's where the arguments, and the package variables that the reading takes, are together of bulk at most 1048576: NARROWER than '..Said'. Prove '..Said' where nothing that the law and all that it calls make is longer than what came in: it says more and counts as full. Else prove '..UptoSaid'. A law counts once. -/
mutual
def uptoBulk {H : Type} : DataW H → Nat
  | .lit (.string bytes) => bytes.length + 1
  | .lit _ => 1
  | .nil => 1
  | .ptr d => uptoBulk d + 1
  | .slice elems spare => uptoBulkAll elems + uptoBulkAll spare + 1
  | .agg parts => uptoBulkAll parts + 1
  | .iface _ d => uptoBulk d + 1
  | .map entries => uptoBulkEntries entries + 1
  | .held _ => 1
def uptoBulkAll {H : Type} : List (DataW H) → Nat
  | [] => 0
  | d :: r => uptoBulk d + uptoBulkAll r
def uptoBulkEntries {H : Type} : List (Lit × DataW H) → Nat
  | [] => 0
  | x :: r => uptoBulkEntry x + uptoBulkEntries r
def uptoBulkEntry {H : Type} : Lit × DataW H → Nat
  | (.string bytes, d) => bytes.length + uptoBulk d + 1
  | (_, d) => uptoBulk d + 1
 end
def uptoSmall : (H : Type) → List (DataW H) → Bool := fun _ ds => decide (uptoBulkAll ds ≤ 1048576)
def OpenSpec.upto (s : _root_.Go.ChangeSpec) : _root_.Go.OpenSpec := { _root_.Go.OpenSpec.ofChange s with cond := some uptoSmall }

/-- 'arbourlaw02.CodecBytes', WHERE WHAT IT READS IS OF BULK AT MOST 1048576: true; the input reads as it did. -/
def codecBytesUptoRow : OpenClaim := { program := "ythijblakadifiaa", sum := "71ba73cf28858255c1274db820f5f87e4df2feb06fc863ce798381aa2440b6a9", func := "arbour/arbourlaw02.CodecBytes", spec := "codecBytes", recurses := true, apart := false, narrowed := true }
def CodecBytesUptoSaid : Prop := codecBytesUptoRow.holds Try.pinned (OpenSpec.upto codecBytesSpec)

/-- 'arbourlaw02.CodecRises', WHERE WHAT IT READS IS OF BULK AT MOST 1048576: true; the input reads as it did. -/
def codecRisesUptoRow : OpenClaim := { program := "ythijblakadifiaa", sum := "71ba73cf28858255c1274db820f5f87e4df2feb06fc863ce798381aa2440b6a9", func := "arbour/arbourlaw02.CodecRises", spec := "codecRises", apart := false, narrowed := true }
def CodecRisesUptoSaid : Prop := codecRisesUptoRow.holds Try.pinned (OpenSpec.upto codecRisesSpec)

/-- 'arbourlaw02.CodecOne', WHERE WHAT IT READS IS OF BULK AT MOST 1048576: true; the input reads as it did. -/
def codecOneUptoRow : OpenClaim := { program := "ythijblakadifiaa", sum := "71ba73cf28858255c1274db820f5f87e4df2feb06fc863ce798381aa2440b6a9", func := "arbour/arbourlaw02.CodecOne", spec := "codecOne", apart := false, narrowed := true }
def CodecOneUptoSaid : Prop := codecOneUptoRow.holds Try.pinned (OpenSpec.upto codecOneSpec)

/-- 'arbourlaw02.CodecPlays', WHERE WHAT IT READS IS OF BULK AT MOST 1048576: true; the input reads as it did. -/
def codecPlaysUptoRow : OpenClaim := { program := "ythijblakadifiaa", sum := "71ba73cf28858255c1274db820f5f87e4df2feb06fc863ce798381aa2440b6a9", func := "arbour/arbourlaw02.CodecPlays", spec := "codecPlays", apart := false, narrowed := true }
def CodecPlaysUptoSaid : Prop := codecPlaysUptoRow.holds Try.pinned (OpenSpec.upto codecPlaysSpec)

/-- 'arbourlaw02.CodecBack', WHERE WHAT IT READS IS OF BULK AT MOST 1048576: true; the input reads as it did. -/
def codecBackUptoRow : OpenClaim := { program := "ythijblakadifiaa", sum := "71ba73cf28858255c1274db820f5f87e4df2feb06fc863ce798381aa2440b6a9", func := "arbour/arbourlaw02.CodecBack", spec := "codecBack", apart := false, narrowed := true }
def CodecBackUptoSaid : Prop := codecBackUptoRow.holds Try.pinned (OpenSpec.upto codecBackSpec)

/-- 'arbourlaw02.CodecStops', WHERE WHAT IT READS IS OF BULK AT MOST 1048576: true; the input reads as it did. -/
def codecStopsUptoRow : OpenClaim := { program := "ythijblakadifiaa", sum := "71ba73cf28858255c1274db820f5f87e4df2feb06fc863ce798381aa2440b6a9", func := "arbour/arbourlaw02.CodecStops", spec := "codecStops", apart := false, narrowed := true }
def CodecStopsUptoSaid : Prop := codecStopsUptoRow.holds Try.pinned (OpenSpec.upto codecStopsSpec)

end Rows
end Go.Proofs.Ythijblakadifiaa
