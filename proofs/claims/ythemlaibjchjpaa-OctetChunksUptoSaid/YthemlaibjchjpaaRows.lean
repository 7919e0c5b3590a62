/-
  No cell of these rows narrows 'for every input' (looked for: loops, veiled, ifaces, maps, wideKeys, modest, calm, conditions, laid).
  DERIVED. THE GIVEN ROWS OF THIS SEAT. 10 by the template 'for every input the law returns true; each argument reads behind the call as it read before'; 0 by the template 'total and deterministic' (their statements: YthemlaibjchjpaaTotals.lean).
  GIVEN WITH THE SEED: the statements are not yours to turn. If you find one false, say at which input.
  Laid BY PROGRAM, IN A SANDBOX (cutbox-rows.mjs): the forced cells as the released guide's own fill.sh prints them over the translation d23fb156eafe3c6b… (all of the seat's roots in one cut). By AI agents, Wed Nov 11 2026. No macro, syntax, notation, axiom, sorry.
-/
import Derived.Test.YthemlaibjchjpaaChecked
import GoSem.Claim
import GoSem.ClaimJoined
import GoSem.ClaimMapViews
import Derived.JoinedTies
import Derived.KernelRfl
namespace Go.Proofs.Ythemlaibjchjpaa
/- THE CELL 'sum', in the pinned program and in every row, IS THE sha256 OF THE DUMP (.gsa) THAT YthemlaibjchjpaaProg.lean LOADS. Nothing in Lean hashes anything: it is a label: what it is worth is what the hold of that sum in a sandbox is worth. -/
noncomputable def Try.pinned : Pinned := { name := "ythemlaibjchjpaa", sum := "d23fb156eafe3c6b0f303987590a21301f100ef6969b3253ab8a8ce88307b10f", checked := Try.checked }
namespace Rows
def none {H : Type} : Left H := { results := [], args := [] }

/-- 'strongroomlaw01.OctetChunks': WHATEVER THE INPUT: true; the input reads as it did. -/
def octetChunksSpec : ChangeSpec := { name := "octetChunks", fn := fun _ => fun
  | [d1, d2, d3] => { results := [.lit (.bool true)], args := [d1, d2, d3] }
  | _ => none }
def octetChunksRow : OpenClaim := { program := "ythemlaibjchjpaa", sum := "d23fb156eafe3c6b0f303987590a21301f100ef6969b3253ab8a8ce88307b10f", func := "strongroom/strongroomlaw01.OctetChunks", spec := "octetChunks", unfollowed := true, recurses := true, apart := false }
def OctetChunksSaid : Prop := octetChunksRow.holds Try.pinned (OpenSpec.ofChange octetChunksSpec)

/-- ITS FALSE NEIGHBOUR: 'it returns false'. Refute it at one input. -/
def octetChunksWrong : ChangeSpec := { name := "octetChunks", fn := fun _ => fun
  | [d1, d2, d3] => { results := [.lit (.bool false)], args := [d1, d2, d3] }
  | _ => none }
def OctetChunksWrongFalsely : Prop := octetChunksRow.holds Try.pinned (OpenSpec.ofChange octetChunksWrong)

/-- 'strongroomlaw01.OctetNumbers': WHATEVER THE INPUT: true; the input reads as it did. -/
def octetNumbersSpec : ChangeSpec := { name := "octetNumbers", fn := fun _ => fun
  | [d1, d2, d3, d4] => { results := [.lit (.bool true)], args := [d1, d2, d3, d4] }
  | _ => none }
def octetNumbersRow : OpenClaim := { program := "ythemlaibjchjpaa", sum := "d23fb156eafe3c6b0f303987590a21301f100ef6969b3253ab8a8ce88307b10f", func := "strongroom/strongroomlaw01.OctetNumbers", spec := "octetNumbers", apart := false }
def OctetNumbersSaid : Prop := octetNumbersRow.holds Try.pinned (OpenSpec.ofChange octetNumbersSpec)

/-- ITS FALSE NEIGHBOUR: 'it returns false'. Refute it at one input. -/
def octetNumbersWrong : ChangeSpec := { name := "octetNumbers", fn := fun _ => fun
  | [d1, d2, d3, d4] => { results := [.lit (.bool false)], args := [d1, d2, d3, d4] }
  | _ => none }
def OctetNumbersWrongFalsely : Prop := octetNumbersRow.holds Try.pinned (OpenSpec.ofChange octetNumbersWrong)

/-- 'strongroomlaw01.OctetXor': WHATEVER THE INPUT: true; the input reads as it did. -/
def octetXorSpec : ChangeSpec := { name := "octetXor", fn := fun _ => fun
  | [d1, d2] => { results := [.lit (.bool true)], args := [d1, d2] }
  | _ => none }
def octetXorRow : OpenClaim := { program := "ythemlaibjchjpaa", sum := "d23fb156eafe3c6b0f303987590a21301f100ef6969b3253ab8a8ce88307b10f", func := "strongroom/strongroomlaw01.OctetXor", spec := "octetXor", inPlace := ["internal/bytealg.Compare"], unfollowed := true, recurses := true, apart := false }
def OctetXorSaid : Prop := octetXorRow.holds Try.pinned (OpenSpec.ofChange octetXorSpec)

/-- ITS FALSE NEIGHBOUR: 'it returns false'. Refute it at one input. -/
def octetXorWrong : ChangeSpec := { name := "octetXor", fn := fun _ => fun
  | [d1, d2] => { results := [.lit (.bool false)], args := [d1, d2] }
  | _ => none }
def OctetXorWrongFalsely : Prop := octetXorRow.holds Try.pinned (OpenSpec.ofChange octetXorWrong)

/-- 'strongroomlaw01.OctetWhole': WHATEVER THE INPUT: true; the input reads as it did. -/
def octetWholeSpec : ChangeSpec := { name := "octetWhole", fn := fun _ => fun
  | [d1, d2] => { results := [.lit (.bool true)], args := [d1, d2] }
  | _ => none }
def octetWholeRow : OpenClaim := { program := "ythemlaibjchjpaa", sum := "d23fb156eafe3c6b0f303987590a21301f100ef6969b3253ab8a8ce88307b10f", func := "strongroom/strongroomlaw01.OctetWhole", spec := "octetWhole", apart := false }
def OctetWholeSaid : Prop := octetWholeRow.holds Try.pinned (OpenSpec.ofChange octetWholeSpec)

/-- ITS FALSE NEIGHBOUR: 'it returns false'. Refute it at one input. -/
def octetWholeWrong : ChangeSpec := { name := "octetWhole", fn := fun _ => fun
  | [d1, d2] => { results := [.lit (.bool false)], args := [d1, d2] }
  | _ => none }
def OctetWholeWrongFalsely : Prop := octetWholeRow.holds Try.pinned (OpenSpec.ofChange octetWholeWrong)

/-- 'strongroomlaw01.OctetReads': WHATEVER THE INPUT: true; the input reads as it did. -/
def octetReadsSpec : ChangeSpec := { name := "octetReads", fn := fun _ => fun
  | [d1, d2, d3] => { results := [.lit (.bool true)], args := [d1, d2, d3] }
  | _ => none }
def octetReadsRow : OpenClaim := { program := "ythemlaibjchjpaa", sum := "d23fb156eafe3c6b0f303987590a21301f100ef6969b3253ab8a8ce88307b10f", func := "strongroom/strongroomlaw01.OctetReads", spec := "octetReads", apart := false }
def OctetReadsSaid : Prop := octetReadsRow.holds Try.pinned (OpenSpec.ofChange octetReadsSpec)

/-- ITS FALSE NEIGHBOUR: 'it returns false'. Refute it at one input. -/
def octetReadsWrong : ChangeSpec := { name := "octetReads", fn := fun _ => fun
  | [d1, d2, d3] => { results := [.lit (.bool false)], args := [d1, d2, d3] }
  | _ => none }
def OctetReadsWrongFalsely : Prop := octetReadsRow.holds Try.pinned (OpenSpec.ofChange octetReadsWrong)

/-- 'strongroomlaw01.OctetNone': WHATEVER THE INPUT: true; the input reads as it did. -/
def octetNoneSpec : ChangeSpec := { name := "octetNone", fn := fun _ => fun
  | [d] => { results := [.lit (.bool true)], args := [d] }
  | _ => none }
def octetNoneRow : OpenClaim := { program := "ythemlaibjchjpaa", sum := "d23fb156eafe3c6b0f303987590a21301f100ef6969b3253ab8a8ce88307b10f", func := "strongroom/strongroomlaw01.OctetNone", spec := "octetNone", apart := false }
def OctetNoneSaid : Prop := octetNoneRow.holds Try.pinned (OpenSpec.ofChange octetNoneSpec)

/-- ITS FALSE NEIGHBOUR: 'it returns false'. Refute it at one input. -/
def octetNoneWrong : ChangeSpec := { name := "octetNone", fn := fun _ => fun
  | [d] => { results := [.lit (.bool false)], args := [d] }
  | _ => none }
def OctetNoneWrongFalsely : Prop := octetNoneRow.holds Try.pinned (OpenSpec.ofChange octetNoneWrong)

/-- 'strongroomlaw01.OctetBack': WHATEVER THE INPUT: true; the input reads as it did. -/
def octetBackSpec : ChangeSpec := { name := "octetBack", fn := fun _ => fun
  | [d1, d2, d3, d4, d5, d6] => { results := [.lit (.bool true)], args := [d1, d2, d3, d4, d5, d6] }
  | _ => none }
def octetBackRow : OpenClaim := { program := "ythemlaibjchjpaa", sum := "d23fb156eafe3c6b0f303987590a21301f100ef6969b3253ab8a8ce88307b10f", func := "strongroom/strongroomlaw01.OctetBack", spec := "octetBack", inPlace := ["internal/bytealg.Compare"], unfollowed := true, recurses := true, apart := false }
def OctetBackSaid : Prop := octetBackRow.holds Try.pinned (OpenSpec.ofChange octetBackSpec)

/-- ITS FALSE NEIGHBOUR: 'it returns false'. Refute it at one input. -/
def octetBackWrong : ChangeSpec := { name := "octetBack", fn := fun _ => fun
  | [d1, d2, d3, d4, d5, d6] => { results := [.lit (.bool false)], args := [d1, d2, d3, d4, d5, d6] }
  | _ => none }
def OctetBackWrongFalsely : Prop := octetBackRow.holds Try.pinned (OpenSpec.ofChange octetBackWrong)

/-- 'strongroomlaw01.OctetApart': WHATEVER THE INPUT: true; the input reads as it did. -/
def octetApartSpec : ChangeSpec := { name := "octetApart", fn := fun _ => fun
  | [d1, d2, d3] => { results := [.lit (.bool true)], args := [d1, d2, d3] }
  | _ => none }
def octetApartRow : OpenClaim := { program := "ythemlaibjchjpaa", sum := "d23fb156eafe3c6b0f303987590a21301f100ef6969b3253ab8a8ce88307b10f", func := "strongroom/strongroomlaw01.OctetApart", spec := "octetApart", apart := false }
def OctetApartSaid : Prop := octetApartRow.holds Try.pinned (OpenSpec.ofChange octetApartSpec)

/-- ITS FALSE NEIGHBOUR: 'it returns false'. Refute it at one input. -/
def octetApartWrong : ChangeSpec := { name := "octetApart", fn := fun _ => fun
  | [d1, d2, d3] => { results := [.lit (.bool false)], args := [d1, d2, d3] }
  | _ => none }
def OctetApartWrongFalsely : Prop := octetApartRow.holds Try.pinned (OpenSpec.ofChange octetApartWrong)

/-- 'strongroomlaw01.OctetKnown': WHATEVER THE INPUT: true; the input reads as it did. -/
def octetKnownSpec : ChangeSpec := { name := "octetKnown", fn := fun _ => fun
  | [] => { results := [.lit (.bool true)], args := [] }
  | _ => none }
def octetKnownRow : OpenClaim := { program := "ythemlaibjchjpaa", sum := "d23fb156eafe3c6b0f303987590a21301f100ef6969b3253ab8a8ce88307b10f", func := "strongroom/strongroomlaw01.OctetKnown", spec := "octetKnown", inPlace := ["internal/bytealg.Compare"], apart := false }
def OctetKnownSaid : Prop := octetKnownRow.holds Try.pinned (OpenSpec.ofChange octetKnownSpec)

/-- ITS FALSE NEIGHBOUR: 'it returns false'. Refute it at one input. -/
def octetKnownWrong : ChangeSpec := { name := "octetKnown", fn := fun _ => fun
  | [] => { results := [.lit (.bool false)], args := [] }
  | _ => none }
def OctetKnownWrongFalsely : Prop := octetKnownRow.holds Try.pinned (OpenSpec.ofChange octetKnownWrong)

/-- 'strongroomlaw01.OctetFrames': WHATEVER THE INPUT: true; the input reads as it did. -/
def octetFramesSpec : ChangeSpec := { name := "octetFrames", fn := fun _ => fun
  | [d1, d2] => { results := [.lit (.bool true)], args := [d1, d2] }
  | _ => none }
def octetFramesRow : OpenClaim := { program := "ythemlaibjchjpaa", sum := "d23fb156eafe3c6b0f303987590a21301f100ef6969b3253ab8a8ce88307b10f", func := "strongroom/strongroomlaw01.OctetFrames", spec := "octetFrames", apart := false }
def OctetFramesSaid : Prop := octetFramesRow.holds Try.pinned (OpenSpec.ofChange octetFramesSpec)

/-- ITS FALSE NEIGHBOUR: 'it returns false'. Refute it at one input. -/
def octetFramesWrong : ChangeSpec := { name := "octetFrames", fn := fun _ => fun
  | [d1, d2] => { results := [.lit (.bool false)], args := [d1, d2] }
  | _ => none }
def OctetFramesWrongFalsely : Prop := octetFramesRow.holds Try.pinned (OpenSpec.ofChange octetFramesWrong)

/- THE SECOND FORM. 'bulk': how many values and letters a reading holds, each counted each time it is reached (what is shared counts as often as it is met; a slice's spare places count too). A statement '..UptoSaid' is the law's where the arguments, and the package variables that the reading takes, are together of bulk at most 1048576: NARROWER than '..Said'. Prove '..Said' where nothing that the law and all that it calls make is longer than what came in: it says more and counts as full. Else prove '..UptoSaid'. A law counts once. -/
mutual
def uptoBulk {H : Type} : DataW H → Nat
  | .lit (.string bytes) => bytes.length + 1
  | .lit _ => 1
  | .nil => 1
  | .ptr d => uptoBulk d + 1
  | .slice elems spare => uptoBulkAll elems + uptoBulkAll spare + 1
  | .agg parts => uptoBulkAll parts + 1
  | .iface _ d => uptoBulk d + 1
  | .map entries => uptoBulkEntries entries + 1
  | .held _ => 1
def uptoBulkAll {H : Type} : List (DataW H) → Nat
  | [] => 0
  | d :: r => uptoBulk d + uptoBulkAll r
def uptoBulkEntries {H : Type} : List (Lit × DataW H) → Nat
  | [] => 0
  | x :: r => uptoBulkEntry x + uptoBulkEntries r
def uptoBulkEntry {H : Type} : Lit × DataW H → Nat
  | (.string bytes, d) => bytes.length + uptoBulk d + 1
  | (_, d) => uptoBulk d + 1
 end
def uptoSmall : (H : Type) → List (DataW H) → Bool := fun _ ds => decide (uptoBulkAll ds ≤ 1048576)
def OpenSpec.upto (s : _root_.Go.ChangeSpec) : _root_.Go.OpenSpec := { _root_.Go.OpenSpec.ofChange s with cond := some uptoSmall }

/-- 'strongroomlaw01.OctetChunks', WHERE WHAT IT READS IS OF BULK AT MOST 1048576: true; the input reads as it did. -/
def octetChunksUptoRow : OpenClaim := { program := "ythemlaibjchjpaa", sum := "d23fb156eafe3c6b0f303987590a21301f100ef6969b3253ab8a8ce88307b10f", func := "strongroom/strongroomlaw01.OctetChunks", spec := "octetChunks", unfollowed := true, recurses := true, apart := false, narrowed := true }
def OctetChunksUptoSaid : Prop := octetChunksUptoRow.holds Try.pinned (OpenSpec.upto octetChunksSpec)

/-- 'strongroomlaw01.OctetNumbers', WHERE WHAT IT READS IS OF BULK AT MOST 1048576: true; the input reads as it did. -/
def octetNumbersUptoRow : OpenClaim := { program := "ythemlaibjchjpaa", sum := "d23fb156eafe3c6b0f303987590a21301f100ef6969b3253ab8a8ce88307b10f", func := "strongroom/strongroomlaw01.OctetNumbers", spec := "octetNumbers", apart := false, narrowed := true }
def OctetNumbersUptoSaid : Prop := octetNumbersUptoRow.holds Try.pinned (OpenSpec.upto octetNumbersSpec)

/-- 'strongroomlaw01.OctetXor', WHERE WHAT IT READS IS OF BULK AT MOST 1048576: true; the input reads as it did. -/
def octetXorUptoRow : OpenClaim := { program := "ythemlaibjchjpaa", sum := "d23fb156eafe3c6b0f303987590a21301f100ef6969b3253ab8a8ce88307b10f", func := "strongroom/strongroomlaw01.OctetXor", spec := "octetXor", inPlace := ["internal/bytealg.Compare"], unfollowed := true, recurses := true, apart := false, narrowed := true }
def OctetXorUptoSaid : Prop := octetXorUptoRow.holds Try.pinned (OpenSpec.upto octetXorSpec)

/-- 'strongroomlaw01.OctetWhole', WHERE WHAT IT READS IS OF BULK AT MOST 1048576: true; the input reads as it did. -/
def octetWholeUptoRow : OpenClaim := { program := "ythemlaibjchjpaa", sum := "d23fb156eafe3c6b0f303987590a21301f100ef6969b3253ab8a8ce88307b10f", func := "strongroom/strongroomlaw01.OctetWhole", spec := "octetWhole", apart := false, narrowed := true }
def OctetWholeUptoSaid : Prop := octetWholeUptoRow.holds Try.pinned (OpenSpec.upto octetWholeSpec)

/-- 'strongroomlaw01.OctetReads', WHERE WHAT IT READS IS OF BULK AT MOST 1048576: true; the input reads as it did. -/
def octetReadsUptoRow : OpenClaim := { program := "ythemlaibjchjpaa", sum := "d23fb156eafe3c6b0f303987590a21301f100ef6969b3253ab8a8ce88307b10f", func := "strongroom/strongroomlaw01.OctetReads", spec := "octetReads", apart := false, narrowed := true }
def OctetReadsUptoSaid : Prop := octetReadsUptoRow.holds Try.pinned (OpenSpec.upto octetReadsSpec)

/-- 'strongroomlaw01.OctetNone', WHERE WHAT IT READS IS OF BULK AT MOST 1048576: true; the input reads as it did. -/
def octetNoneUptoRow : OpenClaim := { program := "ythemlaibjchjpaa", sum := "d23fb156eafe3c6b0f303987590a21301f100ef6969b3253ab8a8ce88307b10f", func := "strongroom/strongroomlaw01.OctetNone", spec := "octetNone", apart := false, narrowed := true }
def OctetNoneUptoSaid : Prop := octetNoneUptoRow.holds Try.pinned (OpenSpec.upto octetNoneSpec)

/-- 'strongroomlaw01.OctetBack', WHERE WHAT IT READS IS OF BULK AT MOST 1048576: true; the input reads as it did. -/
def octetBackUptoRow : OpenClaim := { program := "ythemlaibjchjpaa", sum := "d23fb156eafe3c6b0f303987590a21301f100ef6969b3253ab8a8ce88307b10f", func := "strongroom/strongroomlaw01.OctetBack", spec := "octetBack", inPlace := ["internal/bytealg.Compare"], unfollowed := true, recurses := true, apart := false, narrowed := true }
def OctetBackUptoSaid : Prop := octetBackUptoRow.holds Try.pinned (OpenSpec.upto octetBackSpec)

/-- 'strongroomlaw01.OctetApart', WHERE WHAT IT READS IS OF BULK AT MOST 1048576: true; the input reads as it did. -/
def octetApartUptoRow : OpenClaim := { program := "ythemlaibjchjpaa", sum := "d23fb156eafe3c6b0f303987590a21301f100ef6969b3253ab8a8ce88307b10f", func := "strongroom/strongroomlaw01.OctetApart", spec := "octetApart", apart := false, narrowed := true }
def OctetApartUptoSaid : Prop := octetApartUptoRow.holds Try.pinned (OpenSpec.upto octetApartSpec)

/-- 'strongroomlaw01.OctetKnown', WHERE WHAT IT READS IS OF BULK AT MOST 1048576: true; the input reads as it did. -/
def octetKnownUptoRow : OpenClaim := { program := "ythemlaibjchjpaa", sum := "d23fb156eafe3c6b0f303987590a21301f100ef6969b3253ab8a8ce88307b10f", func := "strongroom/strongroomlaw01.OctetKnown", spec := "octetKnown", inPlace := ["internal/bytealg.Compare"], apart := false, narrowed := true }
def OctetKnownUptoSaid : Prop := octetKnownUptoRow.holds Try.pinned (OpenSpec.upto octetKnownSpec)

/-- 'strongroomlaw01.OctetFrames', WHERE WHAT IT READS IS OF BULK AT MOST 1048576: true; the input reads as it did. -/
def octetFramesUptoRow : OpenClaim := { program := "ythemlaibjchjpaa", sum := "d23fb156eafe3c6b0f303987590a21301f100ef6969b3253ab8a8ce88307b10f", func := "strongroom/strongroomlaw01.OctetFrames", spec := "octetFrames", apart := false, narrowed := true }
def OctetFramesUptoSaid : Prop := octetFramesUptoRow.holds Try.pinned (OpenSpec.upto octetFramesSpec)

end Rows
end Go.Proofs.Ythemlaibjchjpaa
