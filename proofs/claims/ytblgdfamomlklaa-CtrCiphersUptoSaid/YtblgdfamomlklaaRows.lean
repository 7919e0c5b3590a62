/-
  No cell of these rows narrows 'for every input' (looked for: loops, veiled, ifaces, maps, wideKeys, modest, calm, conditions, laid).
  DERIVED. THE GIVEN ROWS OF THIS SEAT. 9 by the template 'for every input the law returns true; each argument reads behind the call as it read before'; 0 by the template 'total and deterministic' (their statements: YtblgdfamomlklaaTotals.lean).
  GIVEN WITH THE SEED: the statements are not yours to turn. If you find one false, say at which input.
  Laid BY PROGRAM, IN A SANDBOX (cutbox-rows.mjs): the forced cells as the released guide's own fill.sh prints them over the translation a4570097e171cde9… (all of the seat's roots in one cut). By AI agents, Wed Nov 11 2026. No macro, syntax, notation, axiom, sorry.
-/
import Derived.Test.YtblgdfamomlklaaChecked
import GoSem.Claim
import GoSem.ClaimJoined
import GoSem.ClaimMapViews
import Derived.JoinedTies
import Derived.KernelRfl
namespace Go.Proofs.Ytblgdfamomlklaa
/- THE CELL 'sum', in the pinned program and in every row, IS THE sha256 OF THE DUMP (.gsa) THAT YtblgdfamomlklaaProg.lean LOADS. Nothing in Lean hashes anything: it is a label: what it is worth is what the hold of that sum in a sandbox is worth. -/
noncomputable def Try.pinned : Pinned := { name := "ytblgdfamomlklaa", sum := "a4570097e171cde9e1555913aa271f8ad7c6b14f22df39e5df67d93f389ddcd5", checked := Try.checked }
namespace Rows
def none {H : Type} : Left H := { results := [], args := [] }

/-- 'strongroomlaw04.CtrCounter': WHATEVER THE INPUT: true; the input reads as it did. -/
def ctrCounterSpec : ChangeSpec := { name := "ctrCounter", fn := fun _ => fun
  | [d] => { results := [.lit (.bool true)], args := [d] }
  | _ => none }
def ctrCounterRow : OpenClaim := { program := "ytblgdfamomlklaa", sum := "a4570097e171cde9e1555913aa271f8ad7c6b14f22df39e5df67d93f389ddcd5", func := "strongroom/strongroomlaw04.CtrCounter", spec := "ctrCounter", apart := false }
def CtrCounterSaid : Prop := ctrCounterRow.holds Try.pinned (OpenSpec.ofChange ctrCounterSpec)

/-- ITS FALSE NEIGHBOUR: 'it returns false'. Refute it at one input. -/
def ctrCounterWrong : ChangeSpec := { name := "ctrCounter", fn := fun _ => fun
  | [d] => { results := [.lit (.bool false)], args := [d] }
  | _ => none }
def CtrCounterWrongFalsely : Prop := ctrCounterRow.holds Try.pinned (OpenSpec.ofChange ctrCounterWrong)

/-- 'strongroomlaw04.CtrBlocks': WHATEVER THE INPUT: true; the input reads as it did. -/
def ctrBlocksSpec : ChangeSpec := { name := "ctrBlocks", fn := fun _ => fun
  | [d1, d2, d3] => { results := [.lit (.bool true)], args := [d1, d2, d3] }
  | _ => none }
def ctrBlocksRow : OpenClaim := { program := "ytblgdfamomlklaa", sum := "a4570097e171cde9e1555913aa271f8ad7c6b14f22df39e5df67d93f389ddcd5", func := "strongroom/strongroomlaw04.CtrBlocks", spec := "ctrBlocks", unfollowed := true, recurses := true, apart := false }
def CtrBlocksSaid : Prop := ctrBlocksRow.holds Try.pinned (OpenSpec.ofChange ctrBlocksSpec)

/-- ITS FALSE NEIGHBOUR: 'it returns false'. Refute it at one input. -/
def ctrBlocksWrong : ChangeSpec := { name := "ctrBlocks", fn := fun _ => fun
  | [d1, d2, d3] => { results := [.lit (.bool false)], args := [d1, d2, d3] }
  | _ => none }
def CtrBlocksWrongFalsely : Prop := ctrBlocksRow.holds Try.pinned (OpenSpec.ofChange ctrBlocksWrong)

/-- 'strongroomlaw04.CtrApply': WHATEVER THE INPUT: true; the input reads as it did. -/
def ctrApplySpec : ChangeSpec := { name := "ctrApply", fn := fun _ => fun
  | [d1, d2, d3, d4] => { results := [.lit (.bool true)], args := [d1, d2, d3, d4] }
  | _ => none }
def ctrApplyRow : OpenClaim := { program := "ytblgdfamomlklaa", sum := "a4570097e171cde9e1555913aa271f8ad7c6b14f22df39e5df67d93f389ddcd5", func := "strongroom/strongroomlaw04.CtrApply", spec := "ctrApply", unfollowed := true, recurses := true, apart := false }
def CtrApplySaid : Prop := ctrApplyRow.holds Try.pinned (OpenSpec.ofChange ctrApplySpec)

/-- ITS FALSE NEIGHBOUR: 'it returns false'. Refute it at one input. -/
def ctrApplyWrong : ChangeSpec := { name := "ctrApply", fn := fun _ => fun
  | [d1, d2, d3, d4] => { results := [.lit (.bool false)], args := [d1, d2, d3, d4] }
  | _ => none }
def CtrApplyWrongFalsely : Prop := ctrApplyRow.holds Try.pinned (OpenSpec.ofChange ctrApplyWrong)

/-- 'strongroomlaw04.CtrBack': WHATEVER THE INPUT: true; the input reads as it did. -/
def ctrBackSpec : ChangeSpec := { name := "ctrBack", fn := fun _ => fun
  | [d1, d2, d3] => { results := [.lit (.bool true)], args := [d1, d2, d3] }
  | _ => none }
def ctrBackRow : OpenClaim := { program := "ytblgdfamomlklaa", sum := "a4570097e171cde9e1555913aa271f8ad7c6b14f22df39e5df67d93f389ddcd5", func := "strongroom/strongroomlaw04.CtrBack", spec := "ctrBack", unfollowed := true, recurses := true, apart := false }
def CtrBackSaid : Prop := ctrBackRow.holds Try.pinned (OpenSpec.ofChange ctrBackSpec)

/-- ITS FALSE NEIGHBOUR: 'it returns false'. Refute it at one input. -/
def ctrBackWrong : ChangeSpec := { name := "ctrBack", fn := fun _ => fun
  | [d1, d2, d3] => { results := [.lit (.bool false)], args := [d1, d2, d3] }
  | _ => none }
def CtrBackWrongFalsely : Prop := ctrBackRow.holds Try.pinned (OpenSpec.ofChange ctrBackWrong)

/-- 'strongroomlaw04.CtrTurned': WHATEVER THE INPUT: true; the input reads as it did. -/
def ctrTurnedSpec : ChangeSpec := { name := "ctrTurned", fn := fun _ => fun
  | [d1, d2, d3, d4, d5] => { results := [.lit (.bool true)], args := [d1, d2, d3, d4, d5] }
  | _ => none }
def ctrTurnedRow : OpenClaim := { program := "ytblgdfamomlklaa", sum := "a4570097e171cde9e1555913aa271f8ad7c6b14f22df39e5df67d93f389ddcd5", func := "strongroom/strongroomlaw04.CtrTurned", spec := "ctrTurned", unfollowed := true, recurses := true, apart := false }
def CtrTurnedSaid : Prop := ctrTurnedRow.holds Try.pinned (OpenSpec.ofChange ctrTurnedSpec)

/-- ITS FALSE NEIGHBOUR: 'it returns false'. Refute it at one input. -/
def ctrTurnedWrong : ChangeSpec := { name := "ctrTurned", fn := fun _ => fun
  | [d1, d2, d3, d4, d5] => { results := [.lit (.bool false)], args := [d1, d2, d3, d4, d5] }
  | _ => none }
def CtrTurnedWrongFalsely : Prop := ctrTurnedRow.holds Try.pinned (OpenSpec.ofChange ctrTurnedWrong)

/-- 'strongroomlaw04.CtrCiphers': WHATEVER THE INPUT: true; the input reads as it did. -/
def ctrCiphersSpec : ChangeSpec := { name := "ctrCiphers", fn := fun _ => fun
  | [d1, d2, d3] => { results := [.lit (.bool true)], args := [d1, d2, d3] }
  | _ => none }
def ctrCiphersRow : OpenClaim := { program := "ytblgdfamomlklaa", sum := "a4570097e171cde9e1555913aa271f8ad7c6b14f22df39e5df67d93f389ddcd5", func := "strongroom/strongroomlaw04.CtrCiphers", spec := "ctrCiphers", unfollowed := true, recurses := true, apart := false }
def CtrCiphersSaid : Prop := ctrCiphersRow.holds Try.pinned (OpenSpec.ofChange ctrCiphersSpec)

/-- ITS FALSE NEIGHBOUR: 'it returns false'. Refute it at one input. -/
def ctrCiphersWrong : ChangeSpec := { name := "ctrCiphers", fn := fun _ => fun
  | [d1, d2, d3] => { results := [.lit (.bool false)], args := [d1, d2, d3] }
  | _ => none }
def CtrCiphersWrongFalsely : Prop := ctrCiphersRow.holds Try.pinned (OpenSpec.ofChange ctrCiphersWrong)

/-- 'strongroomlaw04.CtrNone': WHATEVER THE INPUT: true; the input reads as it did. -/
def ctrNoneSpec : ChangeSpec := { name := "ctrNone", fn := fun _ => fun
  | [d1, d2] => { results := [.lit (.bool true)], args := [d1, d2] }
  | _ => none }
def ctrNoneRow : OpenClaim := { program := "ytblgdfamomlklaa", sum := "a4570097e171cde9e1555913aa271f8ad7c6b14f22df39e5df67d93f389ddcd5", func := "strongroom/strongroomlaw04.CtrNone", spec := "ctrNone", unfollowed := true, recurses := true, apart := false }
def CtrNoneSaid : Prop := ctrNoneRow.holds Try.pinned (OpenSpec.ofChange ctrNoneSpec)

/-- ITS FALSE NEIGHBOUR: 'it returns false'. Refute it at one input. -/
def ctrNoneWrong : ChangeSpec := { name := "ctrNone", fn := fun _ => fun
  | [d1, d2] => { results := [.lit (.bool false)], args := [d1, d2] }
  | _ => none }
def CtrNoneWrongFalsely : Prop := ctrNoneRow.holds Try.pinned (OpenSpec.ofChange ctrNoneWrong)

/-- 'strongroomlaw04.CtrKnown': WHATEVER THE INPUT: true; the input reads as it did. -/
def ctrKnownSpec : ChangeSpec := { name := "ctrKnown", fn := fun _ => fun
  | [] => { results := [.lit (.bool true)], args := [] }
  | _ => none }
def ctrKnownRow : OpenClaim := { program := "ytblgdfamomlklaa", sum := "a4570097e171cde9e1555913aa271f8ad7c6b14f22df39e5df67d93f389ddcd5", func := "strongroom/strongroomlaw04.CtrKnown", spec := "ctrKnown", unfollowed := true, recurses := true, apart := false }
def CtrKnownSaid : Prop := ctrKnownRow.holds Try.pinned (OpenSpec.ofChange ctrKnownSpec)

/-- ITS FALSE NEIGHBOUR: 'it returns false'. Refute it at one input. -/
def ctrKnownWrong : ChangeSpec := { name := "ctrKnown", fn := fun _ => fun
  | [] => { results := [.lit (.bool false)], args := [] }
  | _ => none }
def CtrKnownWrongFalsely : Prop := ctrKnownRow.holds Try.pinned (OpenSpec.ofChange ctrKnownWrong)

/-- 'strongroomlaw04.CtrPieces': WHATEVER THE INPUT: true; the input reads as it did. -/
def ctrPiecesSpec : ChangeSpec := { name := "ctrPieces", fn := fun _ => fun
  | [d1, d2, d3, d4] => { results := [.lit (.bool true)], args := [d1, d2, d3, d4] }
  | _ => none }
def ctrPiecesRow : OpenClaim := { program := "ytblgdfamomlklaa", sum := "a4570097e171cde9e1555913aa271f8ad7c6b14f22df39e5df67d93f389ddcd5", func := "strongroom/strongroomlaw04.CtrPieces", spec := "ctrPieces", unfollowed := true, recurses := true, apart := false }
def CtrPiecesSaid : Prop := ctrPiecesRow.holds Try.pinned (OpenSpec.ofChange ctrPiecesSpec)

/-- ITS FALSE NEIGHBOUR: 'it returns false'. Refute it at one input. -/
def ctrPiecesWrong : ChangeSpec := { name := "ctrPieces", fn := fun _ => fun
  | [d1, d2, d3, d4] => { results := [.lit (.bool false)], args := [d1, d2, d3, d4] }
  | _ => none }
def CtrPiecesWrongFalsely : Prop := ctrPiecesRow.holds Try.pinned (OpenSpec.ofChange ctrPiecesWrong)

/- THE SECOND FORM. 'bulk': how many values and letters a reading holds, each counted each time it is reached (what is shared counts as often as it is met; a slice's spare places count too). A statement '..UptoSaid' is the law's where the arguments, and the package variables that the reading takes, are together of bulk at most 1048576: NARROWER than '..Said'. Prove '..Said' where nothing that the law and all that it calls make is longer than what came in: it says more and counts as full. Else prove '..UptoSaid'. A law counts once. -/
mutual
def uptoBulk {H : Type} : DataW H → Nat
  | .lit (.string bytes) => bytes.length + 1
  | .lit _ => 1
  | .nil => 1
  | .ptr d => uptoBulk d + 1
  | .slice elems spare => uptoBulkAll elems + uptoBulkAll spare + 1
  | .agg parts => uptoBulkAll parts + 1
  | .iface _ d => uptoBulk d + 1
  | .map entries => uptoBulkEntries entries + 1
  | .held _ => 1
def uptoBulkAll {H : Type} : List (DataW H) → Nat
  | [] => 0
  | d :: r => uptoBulk d + uptoBulkAll r
def uptoBulkEntries {H : Type} : List (Lit × DataW H) → Nat
  | [] => 0
  | x :: r => uptoBulkEntry x + uptoBulkEntries r
def uptoBulkEntry {H : Type} : Lit × DataW H → Nat
  | (.string bytes, d) => bytes.length + uptoBulk d + 1
  | (_, d) => uptoBulk d + 1
 end
def uptoSmall : (H : Type) → List (DataW H) → Bool := fun _ ds => decide (uptoBulkAll ds ≤ 1048576)
def OpenSpec.upto (s : _root_.Go.ChangeSpec) : _root_.Go.OpenSpec := { _root_.Go.OpenSpec.ofChange s with cond := some uptoSmall }

/-- 'strongroomlaw04.CtrCounter', WHERE WHAT IT READS IS OF BULK AT MOST 1048576: true; the input reads as it did. -/
def ctrCounterUptoRow : OpenClaim := { program := "ytblgdfamomlklaa", sum := "a4570097e171cde9e1555913aa271f8ad7c6b14f22df39e5df67d93f389ddcd5", func := "strongroom/strongroomlaw04.CtrCounter", spec := "ctrCounter", apart := false, narrowed := true }
def CtrCounterUptoSaid : Prop := ctrCounterUptoRow.holds Try.pinned (OpenSpec.upto ctrCounterSpec)

/-- 'strongroomlaw04.CtrBlocks', WHERE WHAT IT READS IS OF BULK AT MOST 1048576: true; the input reads as it did. -/
def ctrBlocksUptoRow : OpenClaim := { program := "ytblgdfamomlklaa", sum := "a4570097e171cde9e1555913aa271f8ad7c6b14f22df39e5df67d93f389ddcd5", func := "strongroom/strongroomlaw04.CtrBlocks", spec := "ctrBlocks", unfollowed := true, recurses := true, apart := false, narrowed := true }
def CtrBlocksUptoSaid : Prop := ctrBlocksUptoRow.holds Try.pinned (OpenSpec.upto ctrBlocksSpec)

/-- 'strongroomlaw04.CtrApply', WHERE WHAT IT READS IS OF BULK AT MOST 1048576: true; the input reads as it did. -/
def ctrApplyUptoRow : OpenClaim := { program := "ytblgdfamomlklaa", sum := "a4570097e171cde9e1555913aa271f8ad7c6b14f22df39e5df67d93f389ddcd5", func := "strongroom/strongroomlaw04.CtrApply", spec := "ctrApply", unfollowed := true, recurses := true, apart := false, narrowed := true }
def CtrApplyUptoSaid : Prop := ctrApplyUptoRow.holds Try.pinned (OpenSpec.upto ctrApplySpec)

/-- 'strongroomlaw04.CtrBack', WHERE WHAT IT READS IS OF BULK AT MOST 1048576: true; the input reads as it did. -/
def ctrBackUptoRow : OpenClaim := { program := "ytblgdfamomlklaa", sum := "a4570097e171cde9e1555913aa271f8ad7c6b14f22df39e5df67d93f389ddcd5", func := "strongroom/strongroomlaw04.CtrBack", spec := "ctrBack", unfollowed := true, recurses := true, apart := false, narrowed := true }
def CtrBackUptoSaid : Prop := ctrBackUptoRow.holds Try.pinned (OpenSpec.upto ctrBackSpec)

/-- 'strongroomlaw04.CtrTurned', WHERE WHAT IT READS IS OF BULK AT MOST 1048576: true; the input reads as it did. -/
def ctrTurnedUptoRow : OpenClaim := { program := "ytblgdfamomlklaa", sum := "a4570097e171cde9e1555913aa271f8ad7c6b14f22df39e5df67d93f389ddcd5", func := "strongroom/strongroomlaw04.CtrTurned", spec := "ctrTurned", unfollowed := true, recurses := true, apart := false, narrowed := true }
def CtrTurnedUptoSaid : Prop := ctrTurnedUptoRow.holds Try.pinned (OpenSpec.upto ctrTurnedSpec)

/-- 'strongroomlaw04.CtrCiphers', WHERE WHAT IT READS IS OF BULK AT MOST 1048576: true; the input reads as it did. -/
def ctrCiphersUptoRow : OpenClaim := { program := "ytblgdfamomlklaa", sum := "a4570097e171cde9e1555913aa271f8ad7c6b14f22df39e5df67d93f389ddcd5", func := "strongroom/strongroomlaw04.CtrCiphers", spec := "ctrCiphers", unfollowed := true, recurses := true, apart := false, narrowed := true }
def CtrCiphersUptoSaid : Prop := ctrCiphersUptoRow.holds Try.pinned (OpenSpec.upto ctrCiphersSpec)

/-- 'strongroomlaw04.CtrNone', WHERE WHAT IT READS IS OF BULK AT MOST 1048576: true; the input reads as it did. -/
def ctrNoneUptoRow : OpenClaim := { program := "ytblgdfamomlklaa", sum := "a4570097e171cde9e1555913aa271f8ad7c6b14f22df39e5df67d93f389ddcd5", func := "strongroom/strongroomlaw04.CtrNone", spec := "ctrNone", unfollowed := true, recurses := true, apart := false, narrowed := true }
def CtrNoneUptoSaid : Prop := ctrNoneUptoRow.holds Try.pinned (OpenSpec.upto ctrNoneSpec)

/-- 'strongroomlaw04.CtrKnown', WHERE WHAT IT READS IS OF BULK AT MOST 1048576: true; the input reads as it did. -/
def ctrKnownUptoRow : OpenClaim := { program := "ytblgdfamomlklaa", sum := "a4570097e171cde9e1555913aa271f8ad7c6b14f22df39e5df67d93f389ddcd5", func := "strongroom/strongroomlaw04.CtrKnown", spec := "ctrKnown", unfollowed := true, recurses := true, apart := false, narrowed := true }
def CtrKnownUptoSaid : Prop := ctrKnownUptoRow.holds Try.pinned (OpenSpec.upto ctrKnownSpec)

/-- 'strongroomlaw04.CtrPieces', WHERE WHAT IT READS IS OF BULK AT MOST 1048576: true; the input reads as it did. -/
def ctrPiecesUptoRow : OpenClaim := { program := "ytblgdfamomlklaa", sum := "a4570097e171cde9e1555913aa271f8ad7c6b14f22df39e5df67d93f389ddcd5", func := "strongroom/strongroomlaw04.CtrPieces", spec := "ctrPieces", unfollowed := true, recurses := true, apart := false, narrowed := true }
def CtrPiecesUptoSaid : Prop := ctrPiecesUptoRow.holds Try.pinned (OpenSpec.upto ctrPiecesSpec)

end Rows
end Go.Proofs.Ytblgdfamomlklaa
