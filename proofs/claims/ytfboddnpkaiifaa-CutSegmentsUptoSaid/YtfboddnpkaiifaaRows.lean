/-
  No cell of these rows narrows 'for every input' (looked for: loops, veiled, ifaces, maps, wideKeys, modest, calm, conditions, laid).
  DERIVED. THE GIVEN ROWS OF THIS SEAT. 11 by the template 'for every input the law returns true; each argument reads behind the call as it read before'; 0 by the template 'total and deterministic' (their statements: YtfboddnpkaiifaaTotals.lean).
  GIVEN WITH THE SEED: the statements are not yours to turn. If you find one false, say at which input.
  Laid BY PROGRAM, IN A SANDBOX (cutbox-rows.mjs): the forced cells as the released guide's own fill.sh prints them over the translation 5908ed80e1853652… (all of the seat's roots in one cut). By AI agents, Wed Nov 11 2026. No macro, syntax, notation, axiom, sorry.
-/
import Derived.Test.YtfboddnpkaiifaaChecked
import GoSem.Claim
import GoSem.ClaimJoined
import GoSem.ClaimMapViews
import Derived.JoinedTies
import Derived.KernelRfl
namespace Go.Proofs.Ytfboddnpkaiifaa
/- THE CELL 'sum', in the pinned program and in every row, IS THE sha256 OF THE DUMP (.gsa) THAT YtfboddnpkaiifaaProg.lean LOADS. Nothing in Lean hashes anything: it is a label: what it is worth is what the hold of that sum in a sandbox is worth. -/
noncomputable def Try.pinned : Pinned := { name := "ytfboddnpkaiifaa", sum := "5908ed80e185365239f6b325917ba4ebd2e36de8a9e1d5a41dfd046fe547fdb6", checked := Try.checked }
namespace Rows
def none {H : Type} : Left H := { results := [], args := [] }

/-- 'strongroomlaw09.CutBlocks': WHATEVER THE INPUT: true; the input reads as it did. -/
def cutBlocksSpec : ChangeSpec := { name := "cutBlocks", fn := fun _ => fun
  | [d1, d2] => { results := [.lit (.bool true)], args := [d1, d2] }
  | _ => none }
def cutBlocksRow : OpenClaim := { program := "ytfboddnpkaiifaa", sum := "5908ed80e185365239f6b325917ba4ebd2e36de8a9e1d5a41dfd046fe547fdb6", func := "strongroom/strongroomlaw09.CutBlocks", spec := "cutBlocks", apart := false }
def CutBlocksSaid : Prop := cutBlocksRow.holds Try.pinned (OpenSpec.ofChange cutBlocksSpec)

/-- ITS FALSE NEIGHBOUR: 'it returns false'. Refute it at one input. -/
def cutBlocksWrong : ChangeSpec := { name := "cutBlocks", fn := fun _ => fun
  | [d1, d2] => { results := [.lit (.bool false)], args := [d1, d2] }
  | _ => none }
def CutBlocksWrongFalsely : Prop := cutBlocksRow.holds Try.pinned (OpenSpec.ofChange cutBlocksWrong)

/-- 'strongroomlaw09.CutJoin': WHATEVER THE INPUT: true; the input reads as it did. -/
def cutJoinSpec : ChangeSpec := { name := "cutJoin", fn := fun _ => fun
  | [d1, d2] => { results := [.lit (.bool true)], args := [d1, d2] }
  | _ => none }
def cutJoinRow : OpenClaim := { program := "ytfboddnpkaiifaa", sum := "5908ed80e185365239f6b325917ba4ebd2e36de8a9e1d5a41dfd046fe547fdb6", func := "strongroom/strongroomlaw09.CutJoin", spec := "cutJoin", apart := false }
def CutJoinSaid : Prop := cutJoinRow.holds Try.pinned (OpenSpec.ofChange cutJoinSpec)

/-- ITS FALSE NEIGHBOUR: 'it returns false'. Refute it at one input. -/
def cutJoinWrong : ChangeSpec := { name := "cutJoin", fn := fun _ => fun
  | [d1, d2] => { results := [.lit (.bool false)], args := [d1, d2] }
  | _ => none }
def CutJoinWrongFalsely : Prop := cutJoinRow.holds Try.pinned (OpenSpec.ofChange cutJoinWrong)

/-- 'strongroomlaw09.CutShapes': WHATEVER THE INPUT: true; the input reads as it did. -/
def cutShapesSpec : ChangeSpec := { name := "cutShapes", fn := fun _ => fun
  | [d1, d2] => { results := [.lit (.bool true)], args := [d1, d2] }
  | _ => none }
def cutShapesRow : OpenClaim := { program := "ytfboddnpkaiifaa", sum := "5908ed80e185365239f6b325917ba4ebd2e36de8a9e1d5a41dfd046fe547fdb6", func := "strongroom/strongroomlaw09.CutShapes", spec := "cutShapes", apart := false }
def CutShapesSaid : Prop := cutShapesRow.holds Try.pinned (OpenSpec.ofChange cutShapesSpec)

/-- ITS FALSE NEIGHBOUR: 'it returns false'. Refute it at one input. -/
def cutShapesWrong : ChangeSpec := { name := "cutShapes", fn := fun _ => fun
  | [d1, d2] => { results := [.lit (.bool false)], args := [d1, d2] }
  | _ => none }
def CutShapesWrongFalsely : Prop := cutShapesRow.holds Try.pinned (OpenSpec.ofChange cutShapesWrong)

/-- 'strongroomlaw09.CutAgain': WHATEVER THE INPUT: true; the input reads as it did. -/
def cutAgainSpec : ChangeSpec := { name := "cutAgain", fn := fun _ => fun
  | [d1, d2, d3, d4, d5] => { results := [.lit (.bool true)], args := [d1, d2, d3, d4, d5] }
  | _ => none }
def cutAgainRow : OpenClaim := { program := "ytfboddnpkaiifaa", sum := "5908ed80e185365239f6b325917ba4ebd2e36de8a9e1d5a41dfd046fe547fdb6", func := "strongroom/strongroomlaw09.CutAgain", spec := "cutAgain", apart := false }
def CutAgainSaid : Prop := cutAgainRow.holds Try.pinned (OpenSpec.ofChange cutAgainSpec)

/-- ITS FALSE NEIGHBOUR: 'it returns false'. Refute it at one input. -/
def cutAgainWrong : ChangeSpec := { name := "cutAgain", fn := fun _ => fun
  | [d1, d2, d3, d4, d5] => { results := [.lit (.bool false)], args := [d1, d2, d3, d4, d5] }
  | _ => none }
def CutAgainWrongFalsely : Prop := cutAgainRow.holds Try.pinned (OpenSpec.ofChange cutAgainWrong)

/-- 'strongroomlaw09.CutSame': WHATEVER THE INPUT: true; the input reads as it did. -/
def cutSameSpec : ChangeSpec := { name := "cutSame", fn := fun _ => fun
  | [d1, d2, d3] => { results := [.lit (.bool true)], args := [d1, d2, d3] }
  | _ => none }
def cutSameRow : OpenClaim := { program := "ytfboddnpkaiifaa", sum := "5908ed80e185365239f6b325917ba4ebd2e36de8a9e1d5a41dfd046fe547fdb6", func := "strongroom/strongroomlaw09.CutSame", spec := "cutSame", apart := false }
def CutSameSaid : Prop := cutSameRow.holds Try.pinned (OpenSpec.ofChange cutSameSpec)

/-- ITS FALSE NEIGHBOUR: 'it returns false'. Refute it at one input. -/
def cutSameWrong : ChangeSpec := { name := "cutSame", fn := fun _ => fun
  | [d1, d2, d3] => { results := [.lit (.bool false)], args := [d1, d2, d3] }
  | _ => none }
def CutSameWrongFalsely : Prop := cutSameRow.holds Try.pinned (OpenSpec.ofChange cutSameWrong)

/-- 'strongroomlaw09.CutStretch': WHATEVER THE INPUT: true; the input reads as it did. -/
def cutStretchSpec : ChangeSpec := { name := "cutStretch", fn := fun _ => fun
  | [d1, d2, d3, d4] => { results := [.lit (.bool true)], args := [d1, d2, d3, d4] }
  | _ => none }
def cutStretchRow : OpenClaim := { program := "ytfboddnpkaiifaa", sum := "5908ed80e185365239f6b325917ba4ebd2e36de8a9e1d5a41dfd046fe547fdb6", func := "strongroom/strongroomlaw09.CutStretch", spec := "cutStretch", apart := false }
def CutStretchSaid : Prop := cutStretchRow.holds Try.pinned (OpenSpec.ofChange cutStretchSpec)

/-- ITS FALSE NEIGHBOUR: 'it returns false'. Refute it at one input. -/
def cutStretchWrong : ChangeSpec := { name := "cutStretch", fn := fun _ => fun
  | [d1, d2, d3, d4] => { results := [.lit (.bool false)], args := [d1, d2, d3, d4] }
  | _ => none }
def CutStretchWrongFalsely : Prop := cutStretchRow.holds Try.pinned (OpenSpec.ofChange cutStretchWrong)

/-- 'strongroomlaw09.CutSizes': WHATEVER THE INPUT: true; the input reads as it did. -/
def cutSizesSpec : ChangeSpec := { name := "cutSizes", fn := fun _ => fun
  | [d1, d2, d3, d4] => { results := [.lit (.bool true)], args := [d1, d2, d3, d4] }
  | _ => none }
def cutSizesRow : OpenClaim := { program := "ytfboddnpkaiifaa", sum := "5908ed80e185365239f6b325917ba4ebd2e36de8a9e1d5a41dfd046fe547fdb6", func := "strongroom/strongroomlaw09.CutSizes", spec := "cutSizes", apart := false }
def CutSizesSaid : Prop := cutSizesRow.holds Try.pinned (OpenSpec.ofChange cutSizesSpec)

/-- ITS FALSE NEIGHBOUR: 'it returns false'. Refute it at one input. -/
def cutSizesWrong : ChangeSpec := { name := "cutSizes", fn := fun _ => fun
  | [d1, d2, d3, d4] => { results := [.lit (.bool false)], args := [d1, d2, d3, d4] }
  | _ => none }
def CutSizesWrongFalsely : Prop := cutSizesRow.holds Try.pinned (OpenSpec.ofChange cutSizesWrong)

/-- 'strongroomlaw09.CutNames': WHATEVER THE INPUT: true; the input reads as it did. -/
def cutNamesSpec : ChangeSpec := { name := "cutNames", fn := fun _ => fun
  | [] => { results := [.lit (.bool true)], args := [] }
  | _ => none }
def cutNamesRow : OpenClaim := { program := "ytfboddnpkaiifaa", sum := "5908ed80e185365239f6b325917ba4ebd2e36de8a9e1d5a41dfd046fe547fdb6", func := "strongroom/strongroomlaw09.CutNames", spec := "cutNames", apart := false }
def CutNamesSaid : Prop := cutNamesRow.holds Try.pinned (OpenSpec.ofChange cutNamesSpec)

/-- ITS FALSE NEIGHBOUR: 'it returns false'. Refute it at one input. -/
def cutNamesWrong : ChangeSpec := { name := "cutNames", fn := fun _ => fun
  | [] => { results := [.lit (.bool false)], args := [] }
  | _ => none }
def CutNamesWrongFalsely : Prop := cutNamesRow.holds Try.pinned (OpenSpec.ofChange cutNamesWrong)

/-- 'strongroomlaw09.CutSegment': WHATEVER THE INPUT: true; the input reads as it did. -/
def cutSegmentSpec : ChangeSpec := { name := "cutSegment", fn := fun _ => fun
  | [d1, d2, d3] => { results := [.lit (.bool true)], args := [d1, d2, d3] }
  | _ => none }
def cutSegmentRow : OpenClaim := { program := "ytfboddnpkaiifaa", sum := "5908ed80e185365239f6b325917ba4ebd2e36de8a9e1d5a41dfd046fe547fdb6", func := "strongroom/strongroomlaw09.CutSegment", spec := "cutSegment", apart := false }
def CutSegmentSaid : Prop := cutSegmentRow.holds Try.pinned (OpenSpec.ofChange cutSegmentSpec)

/-- ITS FALSE NEIGHBOUR: 'it returns false'. Refute it at one input. -/
def cutSegmentWrong : ChangeSpec := { name := "cutSegment", fn := fun _ => fun
  | [d1, d2, d3] => { results := [.lit (.bool false)], args := [d1, d2, d3] }
  | _ => none }
def CutSegmentWrongFalsely : Prop := cutSegmentRow.holds Try.pinned (OpenSpec.ofChange cutSegmentWrong)

/-- 'strongroomlaw09.CutSegments': WHATEVER THE INPUT: true; the input reads as it did. -/
def cutSegmentsSpec : ChangeSpec := { name := "cutSegments", fn := fun _ => fun
  | [d1, d2, d3] => { results := [.lit (.bool true)], args := [d1, d2, d3] }
  | _ => none }
def cutSegmentsRow : OpenClaim := { program := "ytfboddnpkaiifaa", sum := "5908ed80e185365239f6b325917ba4ebd2e36de8a9e1d5a41dfd046fe547fdb6", func := "strongroom/strongroomlaw09.CutSegments", spec := "cutSegments", unfollowed := true, recurses := true, apart := false }
def CutSegmentsSaid : Prop := cutSegmentsRow.holds Try.pinned (OpenSpec.ofChange cutSegmentsSpec)

/-- ITS FALSE NEIGHBOUR: 'it returns false'. Refute it at one input. -/
def cutSegmentsWrong : ChangeSpec := { name := "cutSegments", fn := fun _ => fun
  | [d1, d2, d3] => { results := [.lit (.bool false)], args := [d1, d2, d3] }
  | _ => none }
def CutSegmentsWrongFalsely : Prop := cutSegmentsRow.holds Try.pinned (OpenSpec.ofChange cutSegmentsWrong)

/-- 'strongroomlaw09.CutWhole': WHATEVER THE INPUT: true; the input reads as it did. -/
def cutWholeSpec : ChangeSpec := { name := "cutWhole", fn := fun _ => fun
  | [d1, d2] => { results := [.lit (.bool true)], args := [d1, d2] }
  | _ => none }
def cutWholeRow : OpenClaim := { program := "ytfboddnpkaiifaa", sum := "5908ed80e185365239f6b325917ba4ebd2e36de8a9e1d5a41dfd046fe547fdb6", func := "strongroom/strongroomlaw09.CutWhole", spec := "cutWhole", unfollowed := true, recurses := true, apart := false }
def CutWholeSaid : Prop := cutWholeRow.holds Try.pinned (OpenSpec.ofChange cutWholeSpec)

/-- ITS FALSE NEIGHBOUR: 'it returns false'. Refute it at one input. -/
def cutWholeWrong : ChangeSpec := { name := "cutWhole", fn := fun _ => fun
  | [d1, d2] => { results := [.lit (.bool false)], args := [d1, d2] }
  | _ => none }
def CutWholeWrongFalsely : Prop := cutWholeRow.holds Try.pinned (OpenSpec.ofChange cutWholeWrong)

/- THE SECOND FORM. 'bulk': how many values and letters a reading holds, each counted each time it is reached (what is shared counts as often as it is met; a slice's spare places count too). A statement '..UptoSaid' is the law's where the arguments, and the package variables that the reading takes, are together of bulk at most 1048576: NARROWER than '..Said'. Prove '..Said' where nothing that the law and all that it calls make is longer than what came in: it says more and counts as full. Else prove '..UptoSaid'. A law counts once. -/
mutual
def uptoBulk {H : Type} : DataW H → Nat
  | .lit (.string bytes) => bytes.length + 1
  | .lit _ => 1
  | .nil => 1
  | .ptr d => uptoBulk d + 1
  | .slice elems spare => uptoBulkAll elems + uptoBulkAll spare + 1
  | .agg parts => uptoBulkAll parts + 1
  | .iface _ d => uptoBulk d + 1
  | .map entries => uptoBulkEntries entries + 1
  | .held _ => 1
def uptoBulkAll {H : Type} : List (DataW H) → Nat
  | [] => 0
  | d :: r => uptoBulk d + uptoBulkAll r
def uptoBulkEntries {H : Type} : List (Lit × DataW H) → Nat
  | [] => 0
  | x :: r => uptoBulkEntry x + uptoBulkEntries r
def uptoBulkEntry {H : Type} : Lit × DataW H → Nat
  | (.string bytes, d) => bytes.length + uptoBulk d + 1
  | (_, d) => uptoBulk d + 1
 end
def uptoSmall : (H : Type) → List (DataW H) → Bool := fun _ ds => decide (uptoBulkAll ds ≤ 1048576)
def OpenSpec.upto (s : _root_.Go.ChangeSpec) : _root_.Go.OpenSpec := { _root_.Go.OpenSpec.ofChange s with cond := some uptoSmall }

/-- 'strongroomlaw09.CutBlocks', WHERE WHAT IT READS IS OF BULK AT MOST 1048576: true; the input reads as it did. -/
def cutBlocksUptoRow : OpenClaim := { program := "ytfboddnpkaiifaa", sum := "5908ed80e185365239f6b325917ba4ebd2e36de8a9e1d5a41dfd046fe547fdb6", func := "strongroom/strongroomlaw09.CutBlocks", spec := "cutBlocks", apart := false, narrowed := true }
def CutBlocksUptoSaid : Prop := cutBlocksUptoRow.holds Try.pinned (OpenSpec.upto cutBlocksSpec)

/-- 'strongroomlaw09.CutJoin', WHERE WHAT IT READS IS OF BULK AT MOST 1048576: true; the input reads as it did. -/
def cutJoinUptoRow : OpenClaim := { program := "ytfboddnpkaiifaa", sum := "5908ed80e185365239f6b325917ba4ebd2e36de8a9e1d5a41dfd046fe547fdb6", func := "strongroom/strongroomlaw09.CutJoin", spec := "cutJoin", apart := false, narrowed := true }
def CutJoinUptoSaid : Prop := cutJoinUptoRow.holds Try.pinned (OpenSpec.upto cutJoinSpec)

/-- 'strongroomlaw09.CutShapes', WHERE WHAT IT READS IS OF BULK AT MOST 1048576: true; the input reads as it did. -/
def cutShapesUptoRow : OpenClaim := { program := "ytfboddnpkaiifaa", sum := "5908ed80e185365239f6b325917ba4ebd2e36de8a9e1d5a41dfd046fe547fdb6", func := "strongroom/strongroomlaw09.CutShapes", spec := "cutShapes", apart := false, narrowed := true }
def CutShapesUptoSaid : Prop := cutShapesUptoRow.holds Try.pinned (OpenSpec.upto cutShapesSpec)

/-- 'strongroomlaw09.CutAgain', WHERE WHAT IT READS IS OF BULK AT MOST 1048576: true; the input reads as it did. -/
def cutAgainUptoRow : OpenClaim := { program := "ytfboddnpkaiifaa", sum := "5908ed80e185365239f6b325917ba4ebd2e36de8a9e1d5a41dfd046fe547fdb6", func := "strongroom/strongroomlaw09.CutAgain", spec := "cutAgain", apart := false, narrowed := true }
def CutAgainUptoSaid : Prop := cutAgainUptoRow.holds Try.pinned (OpenSpec.upto cutAgainSpec)

/-- 'strongroomlaw09.CutSame', WHERE WHAT IT READS IS OF BULK AT MOST 1048576: true; the input reads as it did. -/
def cutSameUptoRow : OpenClaim := { program := "ytfboddnpkaiifaa", sum := "5908ed80e185365239f6b325917ba4ebd2e36de8a9e1d5a41dfd046fe547fdb6", func := "strongroom/strongroomlaw09.CutSame", spec := "cutSame", apart := false, narrowed := true }
def CutSameUptoSaid : Prop := cutSameUptoRow.holds Try.pinned (OpenSpec.upto cutSameSpec)

/-- 'strongroomlaw09.CutStretch', WHERE WHAT IT READS IS OF BULK AT MOST 1048576: true; the input reads as it did. -/
def cutStretchUptoRow : OpenClaim := { program := "ytfboddnpkaiifaa", sum := "5908ed80e185365239f6b325917ba4ebd2e36de8a9e1d5a41dfd046fe547fdb6", func := "strongroom/strongroomlaw09.CutStretch", spec := "cutStretch", apart := false, narrowed := true }
def CutStretchUptoSaid : Prop := cutStretchUptoRow.holds Try.pinned (OpenSpec.upto cutStretchSpec)

/-- 'strongroomlaw09.CutSizes', WHERE WHAT IT READS IS OF BULK AT MOST 1048576: true; the input reads as it did. -/
def cutSizesUptoRow : OpenClaim := { program := "ytfboddnpkaiifaa", sum := "5908ed80e185365239f6b325917ba4ebd2e36de8a9e1d5a41dfd046fe547fdb6", func := "strongroom/strongroomlaw09.CutSizes", spec := "cutSizes", apart := false, narrowed := true }
def CutSizesUptoSaid : Prop := cutSizesUptoRow.holds Try.pinned (OpenSpec.upto cutSizesSpec)

/-- 'strongroomlaw09.CutNames', WHERE WHAT IT READS IS OF BULK AT MOST 1048576: true; the input reads as it did. -/
def cutNamesUptoRow : OpenClaim := { program := "ytfboddnpkaiifaa", sum := "5908ed80e185365239f6b325917ba4ebd2e36de8a9e1d5a41dfd046fe547fdb6", func := "strongroom/strongroomlaw09.CutNames", spec := "cutNames", apart := false, narrowed := true }
def CutNamesUptoSaid : Prop := cutNamesUptoRow.holds Try.pinned (OpenSpec.upto cutNamesSpec)

/-- 'strongroomlaw09.CutSegment', WHERE WHAT IT READS IS OF BULK AT MOST 1048576: true; the input reads as it did. -/
def cutSegmentUptoRow : OpenClaim := { program := "ytfboddnpkaiifaa", sum := "5908ed80e185365239f6b325917ba4ebd2e36de8a9e1d5a41dfd046fe547fdb6", func := "strongroom/strongroomlaw09.CutSegment", spec := "cutSegment", apart := false, narrowed := true }
def CutSegmentUptoSaid : Prop := cutSegmentUptoRow.holds Try.pinned (OpenSpec.upto cutSegmentSpec)

/-- 'strongroomlaw09.CutSegments', WHERE WHAT IT READS IS OF BULK AT MOST 1048576: true; the input reads as it did. -/
def cutSegmentsUptoRow : OpenClaim := { program := "ytfboddnpkaiifaa", sum := "5908ed80e185365239f6b325917ba4ebd2e36de8a9e1d5a41dfd046fe547fdb6", func := "strongroom/strongroomlaw09.CutSegments", spec := "cutSegments", unfollowed := true, recurses := true, apart := false, narrowed := true }
def CutSegmentsUptoSaid : Prop := cutSegmentsUptoRow.holds Try.pinned (OpenSpec.upto cutSegmentsSpec)

/-- 'strongroomlaw09.CutWhole', WHERE WHAT IT READS IS OF BULK AT MOST 1048576: true; the input reads as it did. -/
def cutWholeUptoRow : OpenClaim := { program := "ytfboddnpkaiifaa", sum := "5908ed80e185365239f6b325917ba4ebd2e36de8a9e1d5a41dfd046fe547fdb6", func := "strongroom/strongroomlaw09.CutWhole", spec := "cutWhole", unfollowed := true, recurses := true, apart := false, narrowed := true }
def CutWholeUptoSaid : Prop := cutWholeUptoRow.holds Try.pinned (OpenSpec.upto cutWholeSpec)

end Rows
end Go.Proofs.Ytfboddnpkaiifaa
