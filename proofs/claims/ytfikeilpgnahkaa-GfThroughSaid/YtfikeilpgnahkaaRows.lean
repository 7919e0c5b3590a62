/-
  No cell of these rows narrows 'for every input' (looked for: loops, veiled, ifaces, maps, wideKeys, modest, calm, conditions, laid).
  DERIVED. THE GIVEN ROWS OF THIS SEAT. 10 by the template 'for every input the law returns true; each argument reads behind the call as it read before'; 0 by the template 'total and deterministic' (their statements: YtfikeilpgnahkaaTotals.lean).
  GIVEN WITH THE SEED: the statements are not yours to turn. If you find one false, say at which input.
  Laid BY PROGRAM, IN A SANDBOX (cutbox-rows.mjs): the forced cells as the released guide's own fill.sh prints them over the translation eb27601cc55b7c03… (all of the seat's roots in one cut). By AI agents, Wed Nov 11 2026. No macro, syntax, notation, axiom, sorry.
-/
import Derived.Test.YtfikeilpgnahkaaChecked
import GoSem.Claim
import GoSem.ClaimJoined
import GoSem.ClaimMapViews
import Derived.JoinedTies
import Derived.KernelRfl
namespace Go.Proofs.Ytfikeilpgnahkaa
/- THE CELL 'sum', in the pinned program and in every row, IS THE sha256 OF THE DUMP (.gsa) THAT YtfikeilpgnahkaaProg.lean LOADS. Nothing in Lean hashes anything: it is a label: what it is worth is what the hold of that sum in a sandbox is worth. -/
noncomputable def Try.pinned : Pinned := { name := "ytfikeilpgnahkaa", sum := "eb27601cc55b7c03f633db6a85df829a4ce93a83fec857a96f50bd7cf6a204f9", checked := Try.checked }
namespace Rows
def none {H : Type} : Left H := { results := [], args := [] }

/-- 'strongroomlaw06.GfElements': WHATEVER THE INPUT: true; the input reads as it did. -/
def gfElementsSpec : ChangeSpec := { name := "gfElements", fn := fun _ => fun
  | [d1, d2] => { results := [.lit (.bool true)], args := [d1, d2] }
  | _ => none }
def gfElementsRow : OpenClaim := { program := "ytfikeilpgnahkaa", sum := "eb27601cc55b7c03f633db6a85df829a4ce93a83fec857a96f50bd7cf6a204f9", func := "strongroom/strongroomlaw06.GfElements", spec := "gfElements", apart := false }
def GfElementsSaid : Prop := gfElementsRow.holds Try.pinned (OpenSpec.ofChange gfElementsSpec)

/-- ITS FALSE NEIGHBOUR: 'it returns false'. Refute it at one input. -/
def gfElementsWrong : ChangeSpec := { name := "gfElements", fn := fun _ => fun
  | [d1, d2] => { results := [.lit (.bool false)], args := [d1, d2] }
  | _ => none }
def GfElementsWrongFalsely : Prop := gfElementsRow.holds Try.pinned (OpenSpec.ofChange gfElementsWrong)

/-- 'strongroomlaw06.GfLists': WHATEVER THE INPUT: true; the input reads as it did. -/
def gfListsSpec : ChangeSpec := { name := "gfLists", fn := fun _ => fun
  | [d1, d2, d3] => { results := [.lit (.bool true)], args := [d1, d2, d3] }
  | _ => none }
def gfListsRow : OpenClaim := { program := "ytfikeilpgnahkaa", sum := "eb27601cc55b7c03f633db6a85df829a4ce93a83fec857a96f50bd7cf6a204f9", func := "strongroom/strongroomlaw06.GfLists", spec := "gfLists", apart := false }
def GfListsSaid : Prop := gfListsRow.holds Try.pinned (OpenSpec.ofChange gfListsSpec)

/-- ITS FALSE NEIGHBOUR: 'it returns false'. Refute it at one input. -/
def gfListsWrong : ChangeSpec := { name := "gfLists", fn := fun _ => fun
  | [d1, d2, d3] => { results := [.lit (.bool false)], args := [d1, d2, d3] }
  | _ => none }
def GfListsWrongFalsely : Prop := gfListsRow.holds Try.pinned (OpenSpec.ofChange gfListsWrong)

/-- 'strongroomlaw06.GfPowers': WHATEVER THE INPUT: true; the input reads as it did. -/
def gfPowersSpec : ChangeSpec := { name := "gfPowers", fn := fun _ => fun
  | [d1, d2] => { results := [.lit (.bool true)], args := [d1, d2] }
  | _ => none }
def gfPowersRow : OpenClaim := { program := "ytfikeilpgnahkaa", sum := "eb27601cc55b7c03f633db6a85df829a4ce93a83fec857a96f50bd7cf6a204f9", func := "strongroom/strongroomlaw06.GfPowers", spec := "gfPowers", apart := false }
def GfPowersSaid : Prop := gfPowersRow.holds Try.pinned (OpenSpec.ofChange gfPowersSpec)

/-- ITS FALSE NEIGHBOUR: 'it returns false'. Refute it at one input. -/
def gfPowersWrong : ChangeSpec := { name := "gfPowers", fn := fun _ => fun
  | [d1, d2] => { results := [.lit (.bool false)], args := [d1, d2] }
  | _ => none }
def GfPowersWrongFalsely : Prop := gfPowersRow.holds Try.pinned (OpenSpec.ofChange gfPowersWrong)

/-- 'strongroomlaw06.GfPolynomials': WHATEVER THE INPUT: true; the input reads as it did. -/
def gfPolynomialsSpec : ChangeSpec := { name := "gfPolynomials", fn := fun _ => fun
  | [d1, d2] => { results := [.lit (.bool true)], args := [d1, d2] }
  | _ => none }
def gfPolynomialsRow : OpenClaim := { program := "ytfikeilpgnahkaa", sum := "eb27601cc55b7c03f633db6a85df829a4ce93a83fec857a96f50bd7cf6a204f9", func := "strongroom/strongroomlaw06.GfPolynomials", spec := "gfPolynomials", unfollowed := true, recurses := true, apart := false }
def GfPolynomialsSaid : Prop := gfPolynomialsRow.holds Try.pinned (OpenSpec.ofChange gfPolynomialsSpec)

/-- ITS FALSE NEIGHBOUR: 'it returns false'. Refute it at one input. -/
def gfPolynomialsWrong : ChangeSpec := { name := "gfPolynomials", fn := fun _ => fun
  | [d1, d2] => { results := [.lit (.bool false)], args := [d1, d2] }
  | _ => none }
def GfPolynomialsWrongFalsely : Prop := gfPolynomialsRow.holds Try.pinned (OpenSpec.ofChange gfPolynomialsWrong)

/-- 'strongroomlaw06.GfThrough': WHATEVER THE INPUT: true; the input reads as it did. -/
def gfThroughSpec : ChangeSpec := { name := "gfThrough", fn := fun _ => fun
  | [d] => { results := [.lit (.bool true)], args := [d] }
  | _ => none }
def gfThroughRow : OpenClaim := { program := "ytfikeilpgnahkaa", sum := "eb27601cc55b7c03f633db6a85df829a4ce93a83fec857a96f50bd7cf6a204f9", func := "strongroom/strongroomlaw06.GfThrough", spec := "gfThrough", unfollowed := true, recurses := true, apart := false }
def GfThroughSaid : Prop := gfThroughRow.holds Try.pinned (OpenSpec.ofChange gfThroughSpec)

/-- ITS FALSE NEIGHBOUR: 'it returns false'. Refute it at one input. -/
def gfThroughWrong : ChangeSpec := { name := "gfThrough", fn := fun _ => fun
  | [d] => { results := [.lit (.bool false)], args := [d] }
  | _ => none }
def GfThroughWrongFalsely : Prop := gfThroughRow.holds Try.pinned (OpenSpec.ofChange gfThroughWrong)

/-- 'strongroomlaw06.GfAgain': WHATEVER THE INPUT: true; the input reads as it did. -/
def gfAgainSpec : ChangeSpec := { name := "gfAgain", fn := fun _ => fun
  | [d1, d2, d3] => { results := [.lit (.bool true)], args := [d1, d2, d3] }
  | _ => none }
def gfAgainRow : OpenClaim := { program := "ytfikeilpgnahkaa", sum := "eb27601cc55b7c03f633db6a85df829a4ce93a83fec857a96f50bd7cf6a204f9", func := "strongroom/strongroomlaw06.GfAgain", spec := "gfAgain", unfollowed := true, recurses := true, apart := false }
def GfAgainSaid : Prop := gfAgainRow.holds Try.pinned (OpenSpec.ofChange gfAgainSpec)

/-- ITS FALSE NEIGHBOUR: 'it returns false'. Refute it at one input. -/
def gfAgainWrong : ChangeSpec := { name := "gfAgain", fn := fun _ => fun
  | [d1, d2, d3] => { results := [.lit (.bool false)], args := [d1, d2, d3] }
  | _ => none }
def GfAgainWrongFalsely : Prop := gfAgainRow.holds Try.pinned (OpenSpec.ofChange gfAgainWrong)

/-- 'strongroomlaw06.GfLaws': WHATEVER THE INPUT: true; the input reads as it did. -/
def gfLawsSpec : ChangeSpec := { name := "gfLaws", fn := fun _ => fun
  | [d1, d2, d3] => { results := [.lit (.bool true)], args := [d1, d2, d3] }
  | _ => none }
def gfLawsRow : OpenClaim := { program := "ytfikeilpgnahkaa", sum := "eb27601cc55b7c03f633db6a85df829a4ce93a83fec857a96f50bd7cf6a204f9", func := "strongroom/strongroomlaw06.GfLaws", spec := "gfLaws", unfollowed := true, recurses := true, apart := false }
def GfLawsSaid : Prop := gfLawsRow.holds Try.pinned (OpenSpec.ofChange gfLawsSpec)

/-- ITS FALSE NEIGHBOUR: 'it returns false'. Refute it at one input. -/
def gfLawsWrong : ChangeSpec := { name := "gfLaws", fn := fun _ => fun
  | [d1, d2, d3] => { results := [.lit (.bool false)], args := [d1, d2, d3] }
  | _ => none }
def GfLawsWrongFalsely : Prop := gfLawsRow.holds Try.pinned (OpenSpec.ofChange gfLawsWrong)

/-- 'strongroomlaw06.GfExponents': WHATEVER THE INPUT: true; the input reads as it did. -/
def gfExponentsSpec : ChangeSpec := { name := "gfExponents", fn := fun _ => fun
  | [d1, d2, d3] => { results := [.lit (.bool true)], args := [d1, d2, d3] }
  | _ => none }
def gfExponentsRow : OpenClaim := { program := "ytfikeilpgnahkaa", sum := "eb27601cc55b7c03f633db6a85df829a4ce93a83fec857a96f50bd7cf6a204f9", func := "strongroom/strongroomlaw06.GfExponents", spec := "gfExponents", unfollowed := true, recurses := true, apart := false }
def GfExponentsSaid : Prop := gfExponentsRow.holds Try.pinned (OpenSpec.ofChange gfExponentsSpec)

/-- ITS FALSE NEIGHBOUR: 'it returns false'. Refute it at one input. -/
def gfExponentsWrong : ChangeSpec := { name := "gfExponents", fn := fun _ => fun
  | [d1, d2, d3] => { results := [.lit (.bool false)], args := [d1, d2, d3] }
  | _ => none }
def GfExponentsWrongFalsely : Prop := gfExponentsRow.holds Try.pinned (OpenSpec.ofChange gfExponentsWrong)

/-- 'strongroomlaw06.GfValues': WHATEVER THE INPUT: true; the input reads as it did. -/
def gfValuesSpec : ChangeSpec := { name := "gfValues", fn := fun _ => fun
  | [d1, d2, d3] => { results := [.lit (.bool true)], args := [d1, d2, d3] }
  | _ => none }
def gfValuesRow : OpenClaim := { program := "ytfikeilpgnahkaa", sum := "eb27601cc55b7c03f633db6a85df829a4ce93a83fec857a96f50bd7cf6a204f9", func := "strongroom/strongroomlaw06.GfValues", spec := "gfValues", unfollowed := true, recurses := true, apart := false }
def GfValuesSaid : Prop := gfValuesRow.holds Try.pinned (OpenSpec.ofChange gfValuesSpec)

/-- ITS FALSE NEIGHBOUR: 'it returns false'. Refute it at one input. -/
def gfValuesWrong : ChangeSpec := { name := "gfValues", fn := fun _ => fun
  | [d1, d2, d3] => { results := [.lit (.bool false)], args := [d1, d2, d3] }
  | _ => none }
def GfValuesWrongFalsely : Prop := gfValuesRow.holds Try.pinned (OpenSpec.ofChange gfValuesWrong)

/-- 'strongroomlaw06.GfNames': WHATEVER THE INPUT: true; the input reads as it did. -/
def gfNamesSpec : ChangeSpec := { name := "gfNames", fn := fun _ => fun
  | [] => { results := [.lit (.bool true)], args := [] }
  | _ => none }
def gfNamesRow : OpenClaim := { program := "ytfikeilpgnahkaa", sum := "eb27601cc55b7c03f633db6a85df829a4ce93a83fec857a96f50bd7cf6a204f9", func := "strongroom/strongroomlaw06.GfNames", spec := "gfNames", unfollowed := true, recurses := true, apart := false }
def GfNamesSaid : Prop := gfNamesRow.holds Try.pinned (OpenSpec.ofChange gfNamesSpec)

/-- ITS FALSE NEIGHBOUR: 'it returns false'. Refute it at one input. -/
def gfNamesWrong : ChangeSpec := { name := "gfNames", fn := fun _ => fun
  | [] => { results := [.lit (.bool false)], args := [] }
  | _ => none }
def GfNamesWrongFalsely : Prop := gfNamesRow.holds Try.pinned (OpenSpec.ofChange gfNamesWrong)

/- THE SECOND FORM. 'bulk': how many values and letters a reading holds, each counted each time it is reached (what is shared counts as often as it is met; a slice's spare places count too). A statement '..UptoSaid' is the law's where the arguments, and the package variables that the reading takes, are together of bulk at most 1048576: NARROWER than '..Said'. Prove '..Said' where nothing that the law and all that it calls make is longer than what came in: it says more and counts as full. Else prove '..UptoSaid'. A law counts once. -/
mutual
def uptoBulk {H : Type} : DataW H → Nat
  | .lit (.string bytes) => bytes.length + 1
  | .lit _ => 1
  | .nil => 1
  | .ptr d => uptoBulk d + 1
  | .slice elems spare => uptoBulkAll elems + uptoBulkAll spare + 1
  | .agg parts => uptoBulkAll parts + 1
  | .iface _ d => uptoBulk d + 1
  | .map entries => uptoBulkEntries entries + 1
  | .held _ => 1
def uptoBulkAll {H : Type} : List (DataW H) → Nat
  | [] => 0
  | d :: r => uptoBulk d + uptoBulkAll r
def uptoBulkEntries {H : Type} : List (Lit × DataW H) → Nat
  | [] => 0
  | x :: r => uptoBulkEntry x + uptoBulkEntries r
def uptoBulkEntry {H : Type} : Lit × DataW H → Nat
  | (.string bytes, d) => bytes.length + uptoBulk d + 1
  | (_, d) => uptoBulk d + 1
 end
def uptoSmall : (H : Type) → List (DataW H) → Bool := fun _ ds => decide (uptoBulkAll ds ≤ 1048576)
def OpenSpec.upto (s : _root_.Go.ChangeSpec) : _root_.Go.OpenSpec := { _root_.Go.OpenSpec.ofChange s with cond := some uptoSmall }

/-- 'strongroomlaw06.GfElements', WHERE WHAT IT READS IS OF BULK AT MOST 1048576: true; the input reads as it did. -/
def gfElementsUptoRow : OpenClaim := { program := "ytfikeilpgnahkaa", sum := "eb27601cc55b7c03f633db6a85df829a4ce93a83fec857a96f50bd7cf6a204f9", func := "strongroom/strongroomlaw06.GfElements", spec := "gfElements", apart := false, narrowed := true }
def GfElementsUptoSaid : Prop := gfElementsUptoRow.holds Try.pinned (OpenSpec.upto gfElementsSpec)

/-- 'strongroomlaw06.GfLists', WHERE WHAT IT READS IS OF BULK AT MOST 1048576: true; the input reads as it did. -/
def gfListsUptoRow : OpenClaim := { program := "ytfikeilpgnahkaa", sum := "eb27601cc55b7c03f633db6a85df829a4ce93a83fec857a96f50bd7cf6a204f9", func := "strongroom/strongroomlaw06.GfLists", spec := "gfLists", apart := false, narrowed := true }
def GfListsUptoSaid : Prop := gfListsUptoRow.holds Try.pinned (OpenSpec.upto gfListsSpec)

/-- 'strongroomlaw06.GfPowers', WHERE WHAT IT READS IS OF BULK AT MOST 1048576: true; the input reads as it did. -/
def gfPowersUptoRow : OpenClaim := { program := "ytfikeilpgnahkaa", sum := "eb27601cc55b7c03f633db6a85df829a4ce93a83fec857a96f50bd7cf6a204f9", func := "strongroom/strongroomlaw06.GfPowers", spec := "gfPowers", apart := false, narrowed := true }
def GfPowersUptoSaid : Prop := gfPowersUptoRow.holds Try.pinned (OpenSpec.upto gfPowersSpec)

/-- 'strongroomlaw06.GfPolynomials', WHERE WHAT IT READS IS OF BULK AT MOST 1048576: true; the input reads as it did. -/
def gfPolynomialsUptoRow : OpenClaim := { program := "ytfikeilpgnahkaa", sum := "eb27601cc55b7c03f633db6a85df829a4ce93a83fec857a96f50bd7cf6a204f9", func := "strongroom/strongroomlaw06.GfPolynomials", spec := "gfPolynomials", unfollowed := true, recurses := true, apart := false, narrowed := true }
def GfPolynomialsUptoSaid : Prop := gfPolynomialsUptoRow.holds Try.pinned (OpenSpec.upto gfPolynomialsSpec)

/-- 'strongroomlaw06.GfThrough', WHERE WHAT IT READS IS OF BULK AT MOST 1048576: true; the input reads as it did. -/
def gfThroughUptoRow : OpenClaim := { program := "ytfikeilpgnahkaa", sum := "eb27601cc55b7c03f633db6a85df829a4ce93a83fec857a96f50bd7cf6a204f9", func := "strongroom/strongroomlaw06.GfThrough", spec := "gfThrough", unfollowed := true, recurses := true, apart := false, narrowed := true }
def GfThroughUptoSaid : Prop := gfThroughUptoRow.holds Try.pinned (OpenSpec.upto gfThroughSpec)

/-- 'strongroomlaw06.GfAgain', WHERE WHAT IT READS IS OF BULK AT MOST 1048576: true; the input reads as it did. -/
def gfAgainUptoRow : OpenClaim := { program := "ytfikeilpgnahkaa", sum := "eb27601cc55b7c03f633db6a85df829a4ce93a83fec857a96f50bd7cf6a204f9", func := "strongroom/strongroomlaw06.GfAgain", spec := "gfAgain", unfollowed := true, recurses := true, apart := false, narrowed := true }
def GfAgainUptoSaid : Prop := gfAgainUptoRow.holds Try.pinned (OpenSpec.upto gfAgainSpec)

/-- 'strongroomlaw06.GfLaws', WHERE WHAT IT READS IS OF BULK AT MOST 1048576: true; the input reads as it did. -/
def gfLawsUptoRow : OpenClaim := { program := "ytfikeilpgnahkaa", sum := "eb27601cc55b7c03f633db6a85df829a4ce93a83fec857a96f50bd7cf6a204f9", func := "strongroom/strongroomlaw06.GfLaws", spec := "gfLaws", unfollowed := true, recurses := true, apart := false, narrowed := true }
def GfLawsUptoSaid : Prop := gfLawsUptoRow.holds Try.pinned (OpenSpec.upto gfLawsSpec)

/-- 'strongroomlaw06.GfExponents', WHERE WHAT IT READS IS OF BULK AT MOST 1048576: true; the input reads as it did. -/
def gfExponentsUptoRow : OpenClaim := { program := "ytfikeilpgnahkaa", sum := "eb27601cc55b7c03f633db6a85df829a4ce93a83fec857a96f50bd7cf6a204f9", func := "strongroom/strongroomlaw06.GfExponents", spec := "gfExponents", unfollowed := true, recurses := true, apart := false, narrowed := true }
def GfExponentsUptoSaid : Prop := gfExponentsUptoRow.holds Try.pinned (OpenSpec.upto gfExponentsSpec)

/-- 'strongroomlaw06.GfValues', WHERE WHAT IT READS IS OF BULK AT MOST 1048576: true; the input reads as it did. -/
def gfValuesUptoRow : OpenClaim := { program := "ytfikeilpgnahkaa", sum := "eb27601cc55b7c03f633db6a85df829a4ce93a83fec857a96f50bd7cf6a204f9", func := "strongroom/strongroomlaw06.GfValues", spec := "gfValues", unfollowed := true, recurses := true, apart := false, narrowed := true }
def GfValuesUptoSaid : Prop := gfValuesUptoRow.holds Try.pinned (OpenSpec.upto gfValuesSpec)

/-- 'strongroomlaw06.GfNames', WHERE WHAT IT READS IS OF BULK AT MOST 1048576: true; the input reads as it did. -/
def gfNamesUptoRow : OpenClaim := { program := "ytfikeilpgnahkaa", sum := "eb27601cc55b7c03f633db6a85df829a4ce93a83fec857a96f50bd7cf6a204f9", func := "strongroom/strongroomlaw06.GfNames", spec := "gfNames", unfollowed := true, recurses := true, apart := false, narrowed := true }
def GfNamesUptoSaid : Prop := gfNamesUptoRow.holds Try.pinned (OpenSpec.upto gfNamesSpec)

end Rows
end Go.Proofs.Ytfikeilpgnahkaa
