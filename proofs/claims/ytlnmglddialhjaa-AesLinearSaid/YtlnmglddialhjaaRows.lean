/-
  No cell of these rows narrows 'for every input' (looked for: loops, veiled, ifaces, maps, wideKeys, modest, calm, conditions, laid).
  DERIVED. THE GIVEN ROWS OF THIS SEAT. 11 by the template 'for every input the law returns true; each argument reads behind the call as it read before'; 0 by the template 'total and deterministic' (their statements: YtlnmglddialhjaaTotals.lean).
  GIVEN WITH THE SEED: the statements are not yours to turn. If you find one false, say at which input.
  Laid BY PROGRAM, IN A SANDBOX (cutbox-rows.mjs): the forced cells as the released guide's own fill.sh prints them over the translation 235239c2f7681c5a… (all of the seat's roots in one cut). By AI agents, Wed Nov 11 2026. No macro, syntax, notation, axiom, sorry.
-/
import Derived.Test.YtlnmglddialhjaaChecked
import GoSem.Claim
import GoSem.ClaimJoined
import GoSem.ClaimMapViews
import Derived.JoinedTies
import Derived.KernelRfl
namespace Go.Proofs.Ytlnmglddialhjaa
/- THE CELL 'sum', in the pinned program and in every row, IS THE sha256 OF THE DUMP (.gsa) THAT YtlnmglddialhjaaProg.lean LOADS. Nothing in Lean hashes anything: it is a label: what it is worth is what the hold of that sum in a sandbox is worth. -/
noncomputable def Try.pinned : Pinned := { name := "ytlnmglddialhjaa", sum := "235239c2f7681c5a91cf1b9a5d853552bd8c04f259a00670ccade6c10d293935", checked := Try.checked }
namespace Rows
def none {H : Type} : Left H := { results := [], args := [] }

/-- 'strongroomlaw03.AesBytes': WHATEVER THE INPUT: true; the input reads as it did. -/
def aesBytesSpec : ChangeSpec := { name := "aesBytes", fn := fun _ => fun
  | [d1, d2] => { results := [.lit (.bool true)], args := [d1, d2] }
  | _ => none }
def aesBytesRow : OpenClaim := { program := "ytlnmglddialhjaa", sum := "235239c2f7681c5a91cf1b9a5d853552bd8c04f259a00670ccade6c10d293935", func := "strongroom/strongroomlaw03.AesBytes", spec := "aesBytes", apart := false }
def AesBytesSaid : Prop := aesBytesRow.holds Try.pinned (OpenSpec.ofChange aesBytesSpec)

/-- ITS FALSE NEIGHBOUR: 'it returns false'. Refute it at one input. -/
def aesBytesWrong : ChangeSpec := { name := "aesBytes", fn := fun _ => fun
  | [d1, d2] => { results := [.lit (.bool false)], args := [d1, d2] }
  | _ => none }
def AesBytesWrongFalsely : Prop := aesBytesRow.holds Try.pinned (OpenSpec.ofChange aesBytesWrong)

/-- 'strongroomlaw03.AesKeys': WHATEVER THE INPUT: true; the input reads as it did. -/
def aesKeysSpec : ChangeSpec := { name := "aesKeys", fn := fun _ => fun
  | [d] => { results := [.lit (.bool true)], args := [d] }
  | _ => none }
def aesKeysRow : OpenClaim := { program := "ytlnmglddialhjaa", sum := "235239c2f7681c5a91cf1b9a5d853552bd8c04f259a00670ccade6c10d293935", func := "strongroom/strongroomlaw03.AesKeys", spec := "aesKeys", apart := false }
def AesKeysSaid : Prop := aesKeysRow.holds Try.pinned (OpenSpec.ofChange aesKeysSpec)

/-- ITS FALSE NEIGHBOUR: 'it returns false'. Refute it at one input. -/
def aesKeysWrong : ChangeSpec := { name := "aesKeys", fn := fun _ => fun
  | [d] => { results := [.lit (.bool false)], args := [d] }
  | _ => none }
def AesKeysWrongFalsely : Prop := aesKeysRow.holds Try.pinned (OpenSpec.ofChange aesKeysWrong)

/-- 'strongroomlaw03.AesStates': WHATEVER THE INPUT: true; the input reads as it did. -/
def aesStatesSpec : ChangeSpec := { name := "aesStates", fn := fun _ => fun
  | [d1, d2] => { results := [.lit (.bool true)], args := [d1, d2] }
  | _ => none }
def aesStatesRow : OpenClaim := { program := "ytlnmglddialhjaa", sum := "235239c2f7681c5a91cf1b9a5d853552bd8c04f259a00670ccade6c10d293935", func := "strongroom/strongroomlaw03.AesStates", spec := "aesStates", unfollowed := true, recurses := true, apart := false }
def AesStatesSaid : Prop := aesStatesRow.holds Try.pinned (OpenSpec.ofChange aesStatesSpec)

/-- ITS FALSE NEIGHBOUR: 'it returns false'. Refute it at one input. -/
def aesStatesWrong : ChangeSpec := { name := "aesStates", fn := fun _ => fun
  | [d1, d2] => { results := [.lit (.bool false)], args := [d1, d2] }
  | _ => none }
def AesStatesWrongFalsely : Prop := aesStatesRow.holds Try.pinned (OpenSpec.ofChange aesStatesWrong)

/-- 'strongroomlaw03.AesField': WHATEVER THE INPUT: true; the input reads as it did. -/
def aesFieldSpec : ChangeSpec := { name := "aesField", fn := fun _ => fun
  | [d1, d2, d3] => { results := [.lit (.bool true)], args := [d1, d2, d3] }
  | _ => none }
def aesFieldRow : OpenClaim := { program := "ytlnmglddialhjaa", sum := "235239c2f7681c5a91cf1b9a5d853552bd8c04f259a00670ccade6c10d293935", func := "strongroom/strongroomlaw03.AesField", spec := "aesField", unfollowed := true, recurses := true, apart := false }
def AesFieldSaid : Prop := aesFieldRow.holds Try.pinned (OpenSpec.ofChange aesFieldSpec)

/-- ITS FALSE NEIGHBOUR: 'it returns false'. Refute it at one input. -/
def aesFieldWrong : ChangeSpec := { name := "aesField", fn := fun _ => fun
  | [d1, d2, d3] => { results := [.lit (.bool false)], args := [d1, d2, d3] }
  | _ => none }
def AesFieldWrongFalsely : Prop := aesFieldRow.holds Try.pinned (OpenSpec.ofChange aesFieldWrong)

/-- 'strongroomlaw03.AesRounds': WHATEVER THE INPUT: true; the input reads as it did. -/
def aesRoundsSpec : ChangeSpec := { name := "aesRounds", fn := fun _ => fun
  | [d1, d2, d3] => { results := [.lit (.bool true)], args := [d1, d2, d3] }
  | _ => none }
def aesRoundsRow : OpenClaim := { program := "ytlnmglddialhjaa", sum := "235239c2f7681c5a91cf1b9a5d853552bd8c04f259a00670ccade6c10d293935", func := "strongroom/strongroomlaw03.AesRounds", spec := "aesRounds", unfollowed := true, recurses := true, apart := false }
def AesRoundsSaid : Prop := aesRoundsRow.holds Try.pinned (OpenSpec.ofChange aesRoundsSpec)

/-- ITS FALSE NEIGHBOUR: 'it returns false'. Refute it at one input. -/
def aesRoundsWrong : ChangeSpec := { name := "aesRounds", fn := fun _ => fun
  | [d1, d2, d3] => { results := [.lit (.bool false)], args := [d1, d2, d3] }
  | _ => none }
def AesRoundsWrongFalsely : Prop := aesRoundsRow.holds Try.pinned (OpenSpec.ofChange aesRoundsWrong)

/-- 'strongroomlaw03.AesLinear': WHATEVER THE INPUT: true; the input reads as it did. -/
def aesLinearSpec : ChangeSpec := { name := "aesLinear", fn := fun _ => fun
  | [d1, d2, d3] => { results := [.lit (.bool true)], args := [d1, d2, d3] }
  | _ => none }
def aesLinearRow : OpenClaim := { program := "ytlnmglddialhjaa", sum := "235239c2f7681c5a91cf1b9a5d853552bd8c04f259a00670ccade6c10d293935", func := "strongroom/strongroomlaw03.AesLinear", spec := "aesLinear", unfollowed := true, recurses := true, apart := false }
def AesLinearSaid : Prop := aesLinearRow.holds Try.pinned (OpenSpec.ofChange aesLinearSpec)

/-- ITS FALSE NEIGHBOUR: 'it returns false'. Refute it at one input. -/
def aesLinearWrong : ChangeSpec := { name := "aesLinear", fn := fun _ => fun
  | [d1, d2, d3] => { results := [.lit (.bool false)], args := [d1, d2, d3] }
  | _ => none }
def AesLinearWrongFalsely : Prop := aesLinearRow.holds Try.pinned (OpenSpec.ofChange aesLinearWrong)

/-- 'strongroomlaw03.AesBack': WHATEVER THE INPUT: true; the input reads as it did. -/
def aesBackSpec : ChangeSpec := { name := "aesBack", fn := fun _ => fun
  | [d1, d2, d3] => { results := [.lit (.bool true)], args := [d1, d2, d3] }
  | _ => none }
def aesBackRow : OpenClaim := { program := "ytlnmglddialhjaa", sum := "235239c2f7681c5a91cf1b9a5d853552bd8c04f259a00670ccade6c10d293935", func := "strongroom/strongroomlaw03.AesBack", spec := "aesBack", unfollowed := true, recurses := true, apart := false }
def AesBackSaid : Prop := aesBackRow.holds Try.pinned (OpenSpec.ofChange aesBackSpec)

/-- ITS FALSE NEIGHBOUR: 'it returns false'. Refute it at one input. -/
def aesBackWrong : ChangeSpec := { name := "aesBack", fn := fun _ => fun
  | [d1, d2, d3] => { results := [.lit (.bool false)], args := [d1, d2, d3] }
  | _ => none }
def AesBackWrongFalsely : Prop := aesBackRow.holds Try.pinned (OpenSpec.ofChange aesBackWrong)

/-- 'strongroomlaw03.AesNames': WHATEVER THE INPUT: true; the input reads as it did. -/
def aesNamesSpec : ChangeSpec := { name := "aesNames", fn := fun _ => fun
  | [] => { results := [.lit (.bool true)], args := [] }
  | _ => none }
def aesNamesRow : OpenClaim := { program := "ytlnmglddialhjaa", sum := "235239c2f7681c5a91cf1b9a5d853552bd8c04f259a00670ccade6c10d293935", func := "strongroom/strongroomlaw03.AesNames", spec := "aesNames", unfollowed := true, recurses := true, apart := false }
def AesNamesSaid : Prop := aesNamesRow.holds Try.pinned (OpenSpec.ofChange aesNamesSpec)

/-- ITS FALSE NEIGHBOUR: 'it returns false'. Refute it at one input. -/
def aesNamesWrong : ChangeSpec := { name := "aesNames", fn := fun _ => fun
  | [] => { results := [.lit (.bool false)], args := [] }
  | _ => none }
def AesNamesWrongFalsely : Prop := aesNamesRow.holds Try.pinned (OpenSpec.ofChange aesNamesWrong)

/-- 'strongroomlaw03.AesCiphers': WHATEVER THE INPUT: true; the input reads as it did. -/
def aesCiphersSpec : ChangeSpec := { name := "aesCiphers", fn := fun _ => fun
  | [d1, d2, d3] => { results := [.lit (.bool true)], args := [d1, d2, d3] }
  | _ => none }
def aesCiphersRow : OpenClaim := { program := "ytlnmglddialhjaa", sum := "235239c2f7681c5a91cf1b9a5d853552bd8c04f259a00670ccade6c10d293935", func := "strongroom/strongroomlaw03.AesCiphers", spec := "aesCiphers", unfollowed := true, recurses := true, apart := false }
def AesCiphersSaid : Prop := aesCiphersRow.holds Try.pinned (OpenSpec.ofChange aesCiphersSpec)

/-- ITS FALSE NEIGHBOUR: 'it returns false'. Refute it at one input. -/
def aesCiphersWrong : ChangeSpec := { name := "aesCiphers", fn := fun _ => fun
  | [d1, d2, d3] => { results := [.lit (.bool false)], args := [d1, d2, d3] }
  | _ => none }
def AesCiphersWrongFalsely : Prop := aesCiphersRow.holds Try.pinned (OpenSpec.ofChange aesCiphersWrong)

/-- 'strongroomlaw03.AesNil': WHATEVER THE INPUT: true; the input reads as it did. -/
def aesNilSpec : ChangeSpec := { name := "aesNil", fn := fun _ => fun
  | [d] => { results := [.lit (.bool true)], args := [d] }
  | _ => none }
def aesNilRow : OpenClaim := { program := "ytlnmglddialhjaa", sum := "235239c2f7681c5a91cf1b9a5d853552bd8c04f259a00670ccade6c10d293935", func := "strongroom/strongroomlaw03.AesNil", spec := "aesNil", unfollowed := true, recurses := true, apart := false }
def AesNilSaid : Prop := aesNilRow.holds Try.pinned (OpenSpec.ofChange aesNilSpec)

/-- ITS FALSE NEIGHBOUR: 'it returns false'. Refute it at one input. -/
def aesNilWrong : ChangeSpec := { name := "aesNil", fn := fun _ => fun
  | [d] => { results := [.lit (.bool false)], args := [d] }
  | _ => none }
def AesNilWrongFalsely : Prop := aesNilRow.holds Try.pinned (OpenSpec.ofChange aesNilWrong)

/-- 'strongroomlaw03.AesWhole': WHATEVER THE INPUT: true; the input reads as it did. -/
def aesWholeSpec : ChangeSpec := { name := "aesWhole", fn := fun _ => fun
  | [d1, d2, d3] => { results := [.lit (.bool true)], args := [d1, d2, d3] }
  | _ => none }
def aesWholeRow : OpenClaim := { program := "ytlnmglddialhjaa", sum := "235239c2f7681c5a91cf1b9a5d853552bd8c04f259a00670ccade6c10d293935", func := "strongroom/strongroomlaw03.AesWhole", spec := "aesWhole", unfollowed := true, recurses := true, apart := false }
def AesWholeSaid : Prop := aesWholeRow.holds Try.pinned (OpenSpec.ofChange aesWholeSpec)

/-- ITS FALSE NEIGHBOUR: 'it returns false'. Refute it at one input. -/
def aesWholeWrong : ChangeSpec := { name := "aesWhole", fn := fun _ => fun
  | [d1, d2, d3] => { results := [.lit (.bool false)], args := [d1, d2, d3] }
  | _ => none }
def AesWholeWrongFalsely : Prop := aesWholeRow.holds Try.pinned (OpenSpec.ofChange aesWholeWrong)

/- THE SECOND FORM. 'bulk': how many values and letters a reading holds, each counted each time it is reached (what is shared counts as often as it is met; a slice's spare places count too). A statement '..UptoSaid' is the law's where the arguments, and the package variables that the reading takes, are together of bulk at most 1048576: NARROWER than '..Said'. Prove '..Said' where nothing that the law and all that it calls make is longer than what came in: it says more and counts as full. Else prove '..UptoSaid'. A law counts once. -/
mutual
def uptoBulk {H : Type} : DataW H → Nat
  | .lit (.string bytes) => bytes.length + 1
  | .lit _ => 1
  | .nil => 1
  | .ptr d => uptoBulk d + 1
  | .slice elems spare => uptoBulkAll elems + uptoBulkAll spare + 1
  | .agg parts => uptoBulkAll parts + 1
  | .iface _ d => uptoBulk d + 1
  | .map entries => uptoBulkEntries entries + 1
  | .held _ => 1
def uptoBulkAll {H : Type} : List (DataW H) → Nat
  | [] => 0
  | d :: r => uptoBulk d + uptoBulkAll r
def uptoBulkEntries {H : Type} : List (Lit × DataW H) → Nat
  | [] => 0
  | x :: r => uptoBulkEntry x + uptoBulkEntries r
def uptoBulkEntry {H : Type} : Lit × DataW H → Nat
  | (.string bytes, d) => bytes.length + uptoBulk d + 1
  | (_, d) => uptoBulk d + 1
 end
def uptoSmall : (H : Type) → List (DataW H) → Bool := fun _ ds => decide (uptoBulkAll ds ≤ 1048576)
def OpenSpec.upto (s : _root_.Go.ChangeSpec) : _root_.Go.OpenSpec := { _root_.Go.OpenSpec.ofChange s with cond := some uptoSmall }

/-- 'strongroomlaw03.AesBytes', WHERE WHAT IT READS IS OF BULK AT MOST 1048576: true; the input reads as it did. -/
def aesBytesUptoRow : OpenClaim := { program := "ytlnmglddialhjaa", sum := "235239c2f7681c5a91cf1b9a5d853552bd8c04f259a00670ccade6c10d293935", func := "strongroom/strongroomlaw03.AesBytes", spec := "aesBytes", apart := false, narrowed := true }
def AesBytesUptoSaid : Prop := aesBytesUptoRow.holds Try.pinned (OpenSpec.upto aesBytesSpec)

/-- 'strongroomlaw03.AesKeys', WHERE WHAT IT READS IS OF BULK AT MOST 1048576: true; the input reads as it did. -/
def aesKeysUptoRow : OpenClaim := { program := "ytlnmglddialhjaa", sum := "235239c2f7681c5a91cf1b9a5d853552bd8c04f259a00670ccade6c10d293935", func := "strongroom/strongroomlaw03.AesKeys", spec := "aesKeys", apart := false, narrowed := true }
def AesKeysUptoSaid : Prop := aesKeysUptoRow.holds Try.pinned (OpenSpec.upto aesKeysSpec)

/-- 'strongroomlaw03.AesStates', WHERE WHAT IT READS IS OF BULK AT MOST 1048576: true; the input reads as it did. -/
def aesStatesUptoRow : OpenClaim := { program := "ytlnmglddialhjaa", sum := "235239c2f7681c5a91cf1b9a5d853552bd8c04f259a00670ccade6c10d293935", func := "strongroom/strongroomlaw03.AesStates", spec := "aesStates", unfollowed := true, recurses := true, apart := false, narrowed := true }
def AesStatesUptoSaid : Prop := aesStatesUptoRow.holds Try.pinned (OpenSpec.upto aesStatesSpec)

/-- 'strongroomlaw03.AesField', WHERE WHAT IT READS IS OF BULK AT MOST 1048576: true; the input reads as it did. -/
def aesFieldUptoRow : OpenClaim := { program := "ytlnmglddialhjaa", sum := "235239c2f7681c5a91cf1b9a5d853552bd8c04f259a00670ccade6c10d293935", func := "strongroom/strongroomlaw03.AesField", spec := "aesField", unfollowed := true, recurses := true, apart := false, narrowed := true }
def AesFieldUptoSaid : Prop := aesFieldUptoRow.holds Try.pinned (OpenSpec.upto aesFieldSpec)

/-- 'strongroomlaw03.AesRounds', WHERE WHAT IT READS IS OF BULK AT MOST 1048576: true; the input reads as it did. -/
def aesRoundsUptoRow : OpenClaim := { program := "ytlnmglddialhjaa", sum := "235239c2f7681c5a91cf1b9a5d853552bd8c04f259a00670ccade6c10d293935", func := "strongroom/strongroomlaw03.AesRounds", spec := "aesRounds", unfollowed := true, recurses := true, apart := false, narrowed := true }
def AesRoundsUptoSaid : Prop := aesRoundsUptoRow.holds Try.pinned (OpenSpec.upto aesRoundsSpec)

/-- 'strongroomlaw03.AesLinear', WHERE WHAT IT READS IS OF BULK AT MOST 1048576: true; the input reads as it did. -/
def aesLinearUptoRow : OpenClaim := { program := "ytlnmglddialhjaa", sum := "235239c2f7681c5a91cf1b9a5d853552bd8c04f259a00670ccade6c10d293935", func := "strongroom/strongroomlaw03.AesLinear", spec := "aesLinear", unfollowed := true, recurses := true, apart := false, narrowed := true }
def AesLinearUptoSaid : Prop := aesLinearUptoRow.holds Try.pinned (OpenSpec.upto aesLinearSpec)

/-- 'strongroomlaw03.AesBack', WHERE WHAT IT READS IS OF BULK AT MOST 1048576: true; the input reads as it did. -/
def aesBackUptoRow : OpenClaim := { program := "ytlnmglddialhjaa", sum := "235239c2f7681c5a91cf1b9a5d853552bd8c04f259a00670ccade6c10d293935", func := "strongroom/strongroomlaw03.AesBack", spec := "aesBack", unfollowed := true, recurses := true, apart := false, narrowed := true }
def AesBackUptoSaid : Prop := aesBackUptoRow.holds Try.pinned (OpenSpec.upto aesBackSpec)

/-- 'strongroomlaw03.AesNames', WHERE WHAT IT READS IS OF BULK AT MOST 1048576: true; the input reads as it did. -/
def aesNamesUptoRow : OpenClaim := { program := "ytlnmglddialhjaa", sum := "235239c2f7681c5a91cf1b9a5d853552bd8c04f259a00670ccade6c10d293935", func := "strongroom/strongroomlaw03.AesNames", spec := "aesNames", unfollowed := true, recurses := true, apart := false, narrowed := true }
def AesNamesUptoSaid : Prop := aesNamesUptoRow.holds Try.pinned (OpenSpec.upto aesNamesSpec)

/-- 'strongroomlaw03.AesCiphers', WHERE WHAT IT READS IS OF BULK AT MOST 1048576: true; the input reads as it did. -/
def aesCiphersUptoRow : OpenClaim := { program := "ytlnmglddialhjaa", sum := "235239c2f7681c5a91cf1b9a5d853552bd8c04f259a00670ccade6c10d293935", func := "strongroom/strongroomlaw03.AesCiphers", spec := "aesCiphers", unfollowed := true, recurses := true, apart := false, narrowed := true }
def AesCiphersUptoSaid : Prop := aesCiphersUptoRow.holds Try.pinned (OpenSpec.upto aesCiphersSpec)

/-- 'strongroomlaw03.AesNil', WHERE WHAT IT READS IS OF BULK AT MOST 1048576: true; the input reads as it did. -/
def aesNilUptoRow : OpenClaim := { program := "ytlnmglddialhjaa", sum := "235239c2f7681c5a91cf1b9a5d853552bd8c04f259a00670ccade6c10d293935", func := "strongroom/strongroomlaw03.AesNil", spec := "aesNil", unfollowed := true, recurses := true, apart := false, narrowed := true }
def AesNilUptoSaid : Prop := aesNilUptoRow.holds Try.pinned (OpenSpec.upto aesNilSpec)

/-- 'strongroomlaw03.AesWhole', WHERE WHAT IT READS IS OF BULK AT MOST 1048576: true; the input reads as it did. -/
def aesWholeUptoRow : OpenClaim := { program := "ytlnmglddialhjaa", sum := "235239c2f7681c5a91cf1b9a5d853552bd8c04f259a00670ccade6c10d293935", func := "strongroom/strongroomlaw03.AesWhole", spec := "aesWhole", unfollowed := true, recurses := true, apart := false, narrowed := true }
def AesWholeUptoSaid : Prop := aesWholeUptoRow.holds Try.pinned (OpenSpec.upto aesWholeSpec)

end Rows
end Go.Proofs.Ytlnmglddialhjaa
