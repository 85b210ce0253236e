/-
  No cell of these rows narrows 'for every input' (looked for: loops, veiled, ifaces, maps, wideKeys, modest, calm, conditions, laid).
  DERIVED. THE GIVEN ROWS OF THIS SEAT. 11 by the template 'for every input the law returns true; each argument reads behind the call as it read before'; 0 by the template 'total and deterministic' (their statements: YtfdlgbfeceodeaaGreatTotals.lean).
  GIVEN WITH THE SEED: the statements are not yours to turn. If you find one false, say at which input.
  Laid BY PROGRAM, IN A SANDBOX (cutbox-rows.mjs): the forced cells as the released guide's own fill.sh prints them over the translation 6d363d995b082aef… (all of the seat's roots in one cut). By AI agents, Wed Nov 11 2026. No macro, syntax, notation, axiom, sorry.
-/
import Derived.Test.YtfdlgbfeceodeaaGreatChecked
import GoSem.Claim
import GoSem.ClaimJoined
import GoSem.ClaimMapViews
import Derived.JoinedTies
import Derived.KernelRfl
namespace Go.Proofs.YtfdlgbfeceodeaaGreat
/- THE CELL 'sum', in the pinned program and in every row, IS THE sha256 OF THE DUMP (.gsa) THAT YtfdlgbfeceodeaaGreatProg.lean LOADS. Nothing in Lean hashes anything: it is a label: what it is worth is what the hold of that sum in a sandbox is worth. -/
noncomputable def Tryz.pinned : Pinned := { name := "ytfdlgbfeceodeaagreat", sum := "6d363d995b082aefd34a9ec1ccc6b475adfd08062477672e34a5a905be96536c", checked := Tryz.checked }
namespace Rows
def none {H : Type} : Left H := { results := [], args := [] }

/-- 'laws.FnExactDropEntry': WHATEVER THE INPUT: true; the input reads as it did. -/
def fnExactDropEntrySpec : ChangeSpec := { name := "fnExactDropEntry", fn := fun _ => fun
  | [d1, d2] => { results := [.lit (.bool true)], args := [d1, d2] }
  | _ => none }
def fnExactDropEntryRow : OpenClaim := { program := "ytfdlgbfeceodeaagreat", sum := "6d363d995b082aefd34a9ec1ccc6b475adfd08062477672e34a5a905be96536c", func := "loop.example/g02075/laws.FnExactDropEntry", spec := "fnExactDropEntry", unfollowed := true, recurses := true, apart := false }
def FnExactDropEntrySaid : Prop := fnExactDropEntryRow.holds Tryz.pinned (OpenSpec.ofChange fnExactDropEntrySpec)

/-- ITS FALSE NEIGHBOUR: 'it returns false'. Refute it at one input. -/
def fnExactDropEntryWrong : ChangeSpec := { name := "fnExactDropEntry", fn := fun _ => fun
  | [d1, d2] => { results := [.lit (.bool false)], args := [d1, d2] }
  | _ => none }
def FnExactDropEntryWrongFalsely : Prop := fnExactDropEntryRow.holds Tryz.pinned (OpenSpec.ofChange fnExactDropEntryWrong)

/-- 'laws.FnExactPutEntry': WHATEVER THE INPUT: true; the input reads as it did. -/
def fnExactPutEntrySpec : ChangeSpec := { name := "fnExactPutEntry", fn := fun _ => fun
  | [d1, d2, d3] => { results := [.lit (.bool true)], args := [d1, d2, d3] }
  | _ => none }
def fnExactPutEntryRow : OpenClaim := { program := "ytfdlgbfeceodeaagreat", sum := "6d363d995b082aefd34a9ec1ccc6b475adfd08062477672e34a5a905be96536c", func := "loop.example/g02075/laws.FnExactPutEntry", spec := "fnExactPutEntry", unfollowed := true, recurses := true, apart := false }
def FnExactPutEntrySaid : Prop := fnExactPutEntryRow.holds Tryz.pinned (OpenSpec.ofChange fnExactPutEntrySpec)

/-- ITS FALSE NEIGHBOUR: 'it returns false'. Refute it at one input. -/
def fnExactPutEntryWrong : ChangeSpec := { name := "fnExactPutEntry", fn := fun _ => fun
  | [d1, d2, d3] => { results := [.lit (.bool false)], args := [d1, d2, d3] }
  | _ => none }
def FnExactPutEntryWrongFalsely : Prop := fnExactPutEntryRow.holds Tryz.pinned (OpenSpec.ofChange fnExactPutEntryWrong)

/-- 'laws.FnExactRelatorStep': WHATEVER THE INPUT: true; the input reads as it did. -/
def fnExactRelatorStepSpec : ChangeSpec := { name := "fnExactRelatorStep", fn := fun _ => fun
  | [d1, d2] => { results := [.lit (.bool true)], args := [d1, d2] }
  | _ => none }
def fnExactRelatorStepRow : OpenClaim := { program := "ytfdlgbfeceodeaagreat", sum := "6d363d995b082aefd34a9ec1ccc6b475adfd08062477672e34a5a905be96536c", func := "loop.example/g02075/laws.FnExactRelatorStep", spec := "fnExactRelatorStep", unfollowed := true, recurses := true, apart := false }
def FnExactRelatorStepSaid : Prop := fnExactRelatorStepRow.holds Tryz.pinned (OpenSpec.ofChange fnExactRelatorStepSpec)

/-- ITS FALSE NEIGHBOUR: 'it returns false'. Refute it at one input. -/
def fnExactRelatorStepWrong : ChangeSpec := { name := "fnExactRelatorStep", fn := fun _ => fun
  | [d1, d2] => { results := [.lit (.bool false)], args := [d1, d2] }
  | _ => none }
def FnExactRelatorStepWrongFalsely : Prop := fnExactRelatorStepRow.holds Tryz.pinned (OpenSpec.ofChange fnExactRelatorStepWrong)

/-- 'laws.FnExactSubgroupsOfIndex': WHATEVER THE INPUT: true; the input reads as it did. -/
def fnExactSubgroupsOfIndexSpec : ChangeSpec := { name := "fnExactSubgroupsOfIndex", fn := fun _ => fun
  | [d1, d2] => { results := [.lit (.bool true)], args := [d1, d2] }
  | _ => none }
def fnExactSubgroupsOfIndexRow : OpenClaim := { program := "ytfdlgbfeceodeaagreat", sum := "6d363d995b082aefd34a9ec1ccc6b475adfd08062477672e34a5a905be96536c", func := "loop.example/g02075/laws.FnExactSubgroupsOfIndex", spec := "fnExactSubgroupsOfIndex", unfollowed := true, recurses := true, apart := false }
def FnExactSubgroupsOfIndexSaid : Prop := fnExactSubgroupsOfIndexRow.holds Tryz.pinned (OpenSpec.ofChange fnExactSubgroupsOfIndexSpec)

/-- ITS FALSE NEIGHBOUR: 'it returns false'. Refute it at one input. -/
def fnExactSubgroupsOfIndexWrong : ChangeSpec := { name := "fnExactSubgroupsOfIndex", fn := fun _ => fun
  | [d1, d2] => { results := [.lit (.bool false)], args := [d1, d2] }
  | _ => none }
def FnExactSubgroupsOfIndexWrongFalsely : Prop := fnExactSubgroupsOfIndexRow.holds Tryz.pinned (OpenSpec.ofChange fnExactSubgroupsOfIndexWrong)

/-- 'laws.FnExactNamesInside': WHATEVER THE INPUT: true; the input reads as it did. -/
def fnExactNamesInsideSpec : ChangeSpec := { name := "fnExactNamesInside", fn := fun _ => fun
  | [d1, d2] => { results := [.lit (.bool true)], args := [d1, d2] }
  | _ => none }
def fnExactNamesInsideRow : OpenClaim := { program := "ytfdlgbfeceodeaagreat", sum := "6d363d995b082aefd34a9ec1ccc6b475adfd08062477672e34a5a905be96536c", func := "loop.example/g02075/laws.FnExactNamesInside", spec := "fnExactNamesInside", unfollowed := true, recurses := true, apart := false }
def FnExactNamesInsideSaid : Prop := fnExactNamesInsideRow.holds Tryz.pinned (OpenSpec.ofChange fnExactNamesInsideSpec)

/-- ITS FALSE NEIGHBOUR: 'it returns false'. Refute it at one input. -/
def fnExactNamesInsideWrong : ChangeSpec := { name := "fnExactNamesInside", fn := fun _ => fun
  | [d1, d2] => { results := [.lit (.bool false)], args := [d1, d2] }
  | _ => none }
def FnExactNamesInsideWrongFalsely : Prop := fnExactNamesInsideRow.holds Tryz.pinned (OpenSpec.ofChange fnExactNamesInsideWrong)

/-- 'laws.FnExactNormalOnes': WHATEVER THE INPUT: true; the input reads as it did. -/
def fnExactNormalOnesSpec : ChangeSpec := { name := "fnExactNormalOnes", fn := fun _ => fun
  | [d] => { results := [.lit (.bool true)], args := [d] }
  | _ => none }
def fnExactNormalOnesRow : OpenClaim := { program := "ytfdlgbfeceodeaagreat", sum := "6d363d995b082aefd34a9ec1ccc6b475adfd08062477672e34a5a905be96536c", func := "loop.example/g02075/laws.FnExactNormalOnes", spec := "fnExactNormalOnes", unfollowed := true, recurses := true, apart := false }
def FnExactNormalOnesSaid : Prop := fnExactNormalOnesRow.holds Tryz.pinned (OpenSpec.ofChange fnExactNormalOnesSpec)

/-- ITS FALSE NEIGHBOUR: 'it returns false'. Refute it at one input. -/
def fnExactNormalOnesWrong : ChangeSpec := { name := "fnExactNormalOnes", fn := fun _ => fun
  | [d] => { results := [.lit (.bool false)], args := [d] }
  | _ => none }
def FnExactNormalOnesWrongFalsely : Prop := fnExactNormalOnesRow.holds Tryz.pinned (OpenSpec.ofChange fnExactNormalOnesWrong)

/-- 'laws.FnExactConjugacyClasses': WHATEVER THE INPUT: true; the input reads as it did. -/
def fnExactConjugacyClassesSpec : ChangeSpec := { name := "fnExactConjugacyClasses", fn := fun _ => fun
  | [d] => { results := [.lit (.bool true)], args := [d] }
  | _ => none }
def fnExactConjugacyClassesRow : OpenClaim := { program := "ytfdlgbfeceodeaagreat", sum := "6d363d995b082aefd34a9ec1ccc6b475adfd08062477672e34a5a905be96536c", func := "loop.example/g02075/laws.FnExactConjugacyClasses", spec := "fnExactConjugacyClasses", unfollowed := true, recurses := true, apart := false }
def FnExactConjugacyClassesSaid : Prop := fnExactConjugacyClassesRow.holds Tryz.pinned (OpenSpec.ofChange fnExactConjugacyClassesSpec)

/-- ITS FALSE NEIGHBOUR: 'it returns false'. Refute it at one input. -/
def fnExactConjugacyClassesWrong : ChangeSpec := { name := "fnExactConjugacyClasses", fn := fun _ => fun
  | [d] => { results := [.lit (.bool false)], args := [d] }
  | _ => none }
def FnExactConjugacyClassesWrongFalsely : Prop := fnExactConjugacyClassesRow.holds Tryz.pinned (OpenSpec.ofChange fnExactConjugacyClassesWrong)

/-- 'laws.FnExactIndexModulo': WHATEVER THE INPUT: true; the input reads as it did. -/
def fnExactIndexModuloSpec : ChangeSpec := { name := "fnExactIndexModulo", fn := fun _ => fun
  | [d1, d2] => { results := [.lit (.bool true)], args := [d1, d2] }
  | _ => none }
def fnExactIndexModuloRow : OpenClaim := { program := "ytfdlgbfeceodeaagreat", sum := "6d363d995b082aefd34a9ec1ccc6b475adfd08062477672e34a5a905be96536c", func := "loop.example/g02075/laws.FnExactIndexModulo", spec := "fnExactIndexModulo", unfollowed := true, recurses := true, apart := false }
def FnExactIndexModuloSaid : Prop := fnExactIndexModuloRow.holds Tryz.pinned (OpenSpec.ofChange fnExactIndexModuloSpec)

/-- ITS FALSE NEIGHBOUR: 'it returns false'. Refute it at one input. -/
def fnExactIndexModuloWrong : ChangeSpec := { name := "fnExactIndexModulo", fn := fun _ => fun
  | [d1, d2] => { results := [.lit (.bool false)], args := [d1, d2] }
  | _ => none }
def FnExactIndexModuloWrongFalsely : Prop := fnExactIndexModuloRow.holds Tryz.pinned (OpenSpec.ofChange fnExactIndexModuloWrong)

/-- 'laws.FnExactSizeOfGroup': WHATEVER THE INPUT: true; the input reads as it did. -/
def fnExactSizeOfGroupSpec : ChangeSpec := { name := "fnExactSizeOfGroup", fn := fun _ => fun
  | [d] => { results := [.lit (.bool true)], args := [d] }
  | _ => none }
def fnExactSizeOfGroupRow : OpenClaim := { program := "ytfdlgbfeceodeaagreat", sum := "6d363d995b082aefd34a9ec1ccc6b475adfd08062477672e34a5a905be96536c", func := "loop.example/g02075/laws.FnExactSizeOfGroup", spec := "fnExactSizeOfGroup", unfollowed := true, recurses := true, apart := false }
def FnExactSizeOfGroupSaid : Prop := fnExactSizeOfGroupRow.holds Tryz.pinned (OpenSpec.ofChange fnExactSizeOfGroupSpec)

/-- ITS FALSE NEIGHBOUR: 'it returns false'. Refute it at one input. -/
def fnExactSizeOfGroupWrong : ChangeSpec := { name := "fnExactSizeOfGroup", fn := fun _ => fun
  | [d] => { results := [.lit (.bool false)], args := [d] }
  | _ => none }
def FnExactSizeOfGroupWrongFalsely : Prop := fnExactSizeOfGroupRow.holds Tryz.pinned (OpenSpec.ofChange fnExactSizeOfGroupWrong)

/-- 'laws.FnExactIsTrivialIn': WHATEVER THE INPUT: true; the input reads as it did. -/
def fnExactIsTrivialInSpec : ChangeSpec := { name := "fnExactIsTrivialIn", fn := fun _ => fun
  | [d1, d2] => { results := [.lit (.bool true)], args := [d1, d2] }
  | _ => none }
def fnExactIsTrivialInRow : OpenClaim := { program := "ytfdlgbfeceodeaagreat", sum := "6d363d995b082aefd34a9ec1ccc6b475adfd08062477672e34a5a905be96536c", func := "loop.example/g02075/laws.FnExactIsTrivialIn", spec := "fnExactIsTrivialIn", unfollowed := true, recurses := true, apart := false }
def FnExactIsTrivialInSaid : Prop := fnExactIsTrivialInRow.holds Tryz.pinned (OpenSpec.ofChange fnExactIsTrivialInSpec)

/-- ITS FALSE NEIGHBOUR: 'it returns false'. Refute it at one input. -/
def fnExactIsTrivialInWrong : ChangeSpec := { name := "fnExactIsTrivialIn", fn := fun _ => fun
  | [d1, d2] => { results := [.lit (.bool false)], args := [d1, d2] }
  | _ => none }
def FnExactIsTrivialInWrongFalsely : Prop := fnExactIsTrivialInRow.holds Tryz.pinned (OpenSpec.ofChange fnExactIsTrivialInWrong)

/-- 'laws.FnExactEnumerateCosets': WHATEVER THE INPUT: true; the input reads as it did. -/
def fnExactEnumerateCosetsSpec : ChangeSpec := { name := "fnExactEnumerateCosets", fn := fun _ => fun
  | [d1, d2] => { results := [.lit (.bool true)], args := [d1, d2] }
  | _ => none }
def fnExactEnumerateCosetsRow : OpenClaim := { program := "ytfdlgbfeceodeaagreat", sum := "6d363d995b082aefd34a9ec1ccc6b475adfd08062477672e34a5a905be96536c", func := "loop.example/g02075/laws.FnExactEnumerateCosets", spec := "fnExactEnumerateCosets", unfollowed := true, recurses := true, apart := false }
def FnExactEnumerateCosetsSaid : Prop := fnExactEnumerateCosetsRow.holds Tryz.pinned (OpenSpec.ofChange fnExactEnumerateCosetsSpec)

/-- ITS FALSE NEIGHBOUR: 'it returns false'. Refute it at one input. -/
def fnExactEnumerateCosetsWrong : ChangeSpec := { name := "fnExactEnumerateCosets", fn := fun _ => fun
  | [d1, d2] => { results := [.lit (.bool false)], args := [d1, d2] }
  | _ => none }
def FnExactEnumerateCosetsWrongFalsely : Prop := fnExactEnumerateCosetsRow.holds Tryz.pinned (OpenSpec.ofChange fnExactEnumerateCosetsWrong)

/- THE SECOND FORM. 'bulk': how many values and letters a reading holds, each counted each time it is reached (what is shared counts as often as it is met; a slice's spare places count too). A statement '..UptoSaid' is the law's where the arguments, and the package variables that the reading takes, are together of bulk at most 1048576: NARROWER than '..Said'. Prove '..Said' where nothing that the law and all that it calls make is longer than what came in: it says more and counts as full. Else prove '..UptoSaid'. A law counts once. -/
mutual
def uptoBulk {H : Type} : DataW H → Nat
  | .lit (.string bytes) => bytes.length + 1
  | .lit _ => 1
  | .nil => 1
  | .ptr d => uptoBulk d + 1
  | .slice elems spare => uptoBulkAll elems + uptoBulkAll spare + 1
  | .agg parts => uptoBulkAll parts + 1
  | .iface _ d => uptoBulk d + 1
  | .map entries => uptoBulkEntries entries + 1
  | .held _ => 1
def uptoBulkAll {H : Type} : List (DataW H) → Nat
  | [] => 0
  | d :: r => uptoBulk d + uptoBulkAll r
def uptoBulkEntries {H : Type} : List (Lit × DataW H) → Nat
  | [] => 0
  | x :: r => uptoBulkEntry x + uptoBulkEntries r
def uptoBulkEntry {H : Type} : Lit × DataW H → Nat
  | (.string bytes, d) => bytes.length + uptoBulk d + 1
  | (_, d) => uptoBulk d + 1
 end
def uptoSmall : (H : Type) → List (DataW H) → Bool := fun _ ds => decide (uptoBulkAll ds ≤ 1048576)
def OpenSpec.upto (s : _root_.Go.ChangeSpec) : _root_.Go.OpenSpec := { _root_.Go.OpenSpec.ofChange s with cond := some uptoSmall }

/-- 'laws.FnExactDropEntry', WHERE WHAT IT READS IS OF BULK AT MOST 1048576: true; the input reads as it did. -/
def fnExactDropEntryUptoRow : OpenClaim := { program := "ytfdlgbfeceodeaagreat", sum := "6d363d995b082aefd34a9ec1ccc6b475adfd08062477672e34a5a905be96536c", func := "loop.example/g02075/laws.FnExactDropEntry", spec := "fnExactDropEntry", unfollowed := true, recurses := true, apart := false, narrowed := true }
def FnExactDropEntryUptoSaid : Prop := fnExactDropEntryUptoRow.holds Tryz.pinned (OpenSpec.upto fnExactDropEntrySpec)

/-- 'laws.FnExactPutEntry', WHERE WHAT IT READS IS OF BULK AT MOST 1048576: true; the input reads as it did. -/
def fnExactPutEntryUptoRow : OpenClaim := { program := "ytfdlgbfeceodeaagreat", sum := "6d363d995b082aefd34a9ec1ccc6b475adfd08062477672e34a5a905be96536c", func := "loop.example/g02075/laws.FnExactPutEntry", spec := "fnExactPutEntry", unfollowed := true, recurses := true, apart := false, narrowed := true }
def FnExactPutEntryUptoSaid : Prop := fnExactPutEntryUptoRow.holds Tryz.pinned (OpenSpec.upto fnExactPutEntrySpec)

/-- 'laws.FnExactRelatorStep', WHERE WHAT IT READS IS OF BULK AT MOST 1048576: true; the input reads as it did. -/
def fnExactRelatorStepUptoRow : OpenClaim := { program := "ytfdlgbfeceodeaagreat", sum := "6d363d995b082aefd34a9ec1ccc6b475adfd08062477672e34a5a905be96536c", func := "loop.example/g02075/laws.FnExactRelatorStep", spec := "fnExactRelatorStep", unfollowed := true, recurses := true, apart := false, narrowed := true }
def FnExactRelatorStepUptoSaid : Prop := fnExactRelatorStepUptoRow.holds Tryz.pinned (OpenSpec.upto fnExactRelatorStepSpec)

/-- 'laws.FnExactSubgroupsOfIndex', WHERE WHAT IT READS IS OF BULK AT MOST 1048576: true; the input reads as it did. -/
def fnExactSubgroupsOfIndexUptoRow : OpenClaim := { program := "ytfdlgbfeceodeaagreat", sum := "6d363d995b082aefd34a9ec1ccc6b475adfd08062477672e34a5a905be96536c", func := "loop.example/g02075/laws.FnExactSubgroupsOfIndex", spec := "fnExactSubgroupsOfIndex", unfollowed := true, recurses := true, apart := false, narrowed := true }
def FnExactSubgroupsOfIndexUptoSaid : Prop := fnExactSubgroupsOfIndexUptoRow.holds Tryz.pinned (OpenSpec.upto fnExactSubgroupsOfIndexSpec)

/-- 'laws.FnExactNamesInside', WHERE WHAT IT READS IS OF BULK AT MOST 1048576: true; the input reads as it did. -/
def fnExactNamesInsideUptoRow : OpenClaim := { program := "ytfdlgbfeceodeaagreat", sum := "6d363d995b082aefd34a9ec1ccc6b475adfd08062477672e34a5a905be96536c", func := "loop.example/g02075/laws.FnExactNamesInside", spec := "fnExactNamesInside", unfollowed := true, recurses := true, apart := false, narrowed := true }
def FnExactNamesInsideUptoSaid : Prop := fnExactNamesInsideUptoRow.holds Tryz.pinned (OpenSpec.upto fnExactNamesInsideSpec)

/-- 'laws.FnExactNormalOnes', WHERE WHAT IT READS IS OF BULK AT MOST 1048576: true; the input reads as it did. -/
def fnExactNormalOnesUptoRow : OpenClaim := { program := "ytfdlgbfeceodeaagreat", sum := "6d363d995b082aefd34a9ec1ccc6b475adfd08062477672e34a5a905be96536c", func := "loop.example/g02075/laws.FnExactNormalOnes", spec := "fnExactNormalOnes", unfollowed := true, recurses := true, apart := false, narrowed := true }
def FnExactNormalOnesUptoSaid : Prop := fnExactNormalOnesUptoRow.holds Tryz.pinned (OpenSpec.upto fnExactNormalOnesSpec)

/-- 'laws.FnExactConjugacyClasses', WHERE WHAT IT READS IS OF BULK AT MOST 1048576: true; the input reads as it did. -/
def fnExactConjugacyClassesUptoRow : OpenClaim := { program := "ytfdlgbfeceodeaagreat", sum := "6d363d995b082aefd34a9ec1ccc6b475adfd08062477672e34a5a905be96536c", func := "loop.example/g02075/laws.FnExactConjugacyClasses", spec := "fnExactConjugacyClasses", unfollowed := true, recurses := true, apart := false, narrowed := true }
def FnExactConjugacyClassesUptoSaid : Prop := fnExactConjugacyClassesUptoRow.holds Tryz.pinned (OpenSpec.upto fnExactConjugacyClassesSpec)

/-- 'laws.FnExactIndexModulo', WHERE WHAT IT READS IS OF BULK AT MOST 1048576: true; the input reads as it did. -/
def fnExactIndexModuloUptoRow : OpenClaim := { program := "ytfdlgbfeceodeaagreat", sum := "6d363d995b082aefd34a9ec1ccc6b475adfd08062477672e34a5a905be96536c", func := "loop.example/g02075/laws.FnExactIndexModulo", spec := "fnExactIndexModulo", unfollowed := true, recurses := true, apart := false, narrowed := true }
def FnExactIndexModuloUptoSaid : Prop := fnExactIndexModuloUptoRow.holds Tryz.pinned (OpenSpec.upto fnExactIndexModuloSpec)

/-- 'laws.FnExactSizeOfGroup', WHERE WHAT IT READS IS OF BULK AT MOST 1048576: true; the input reads as it did. -/
def fnExactSizeOfGroupUptoRow : OpenClaim := { program := "ytfdlgbfeceodeaagreat", sum := "6d363d995b082aefd34a9ec1ccc6b475adfd08062477672e34a5a905be96536c", func := "loop.example/g02075/laws.FnExactSizeOfGroup", spec := "fnExactSizeOfGroup", unfollowed := true, recurses := true, apart := false, narrowed := true }
def FnExactSizeOfGroupUptoSaid : Prop := fnExactSizeOfGroupUptoRow.holds Tryz.pinned (OpenSpec.upto fnExactSizeOfGroupSpec)

/-- 'laws.FnExactIsTrivialIn', WHERE WHAT IT READS IS OF BULK AT MOST 1048576: true; the input reads as it did. -/
def fnExactIsTrivialInUptoRow : OpenClaim := { program := "ytfdlgbfeceodeaagreat", sum := "6d363d995b082aefd34a9ec1ccc6b475adfd08062477672e34a5a905be96536c", func := "loop.example/g02075/laws.FnExactIsTrivialIn", spec := "fnExactIsTrivialIn", unfollowed := true, recurses := true, apart := false, narrowed := true }
def FnExactIsTrivialInUptoSaid : Prop := fnExactIsTrivialInUptoRow.holds Tryz.pinned (OpenSpec.upto fnExactIsTrivialInSpec)

/-- 'laws.FnExactEnumerateCosets', WHERE WHAT IT READS IS OF BULK AT MOST 1048576: true; the input reads as it did. -/
def fnExactEnumerateCosetsUptoRow : OpenClaim := { program := "ytfdlgbfeceodeaagreat", sum := "6d363d995b082aefd34a9ec1ccc6b475adfd08062477672e34a5a905be96536c", func := "loop.example/g02075/laws.FnExactEnumerateCosets", spec := "fnExactEnumerateCosets", unfollowed := true, recurses := true, apart := false, narrowed := true }
def FnExactEnumerateCosetsUptoSaid : Prop := fnExactEnumerateCosetsUptoRow.holds Tryz.pinned (OpenSpec.upto fnExactEnumerateCosetsSpec)

end Rows
end Go.Proofs.YtfdlgbfeceodeaaGreat
