/-
  No cell of these rows narrows 'for every input' (looked for: loops, veiled, ifaces, maps, wideKeys, modest, calm, conditions, laid).
  DERIVED. THE GIVEN ROWS OF THIS SEAT. 5 by the template 'for every input the law returns true; each argument reads behind the call as it read before'; 0 by the template 'total and deterministic' (their statements: YthccjgkmmclplaaGreatTotals.lean).
  GIVEN WITH THE SEED: the statements are not yours to turn. If you find one false, say at which input.
  Laid BY PROGRAM, IN A SANDBOX (cutbox-rows.mjs): the forced cells as the released guide's own fill.sh prints them over the translation 3495b205e2abaddb… (all of the seat's roots in one cut). By AI agents, Wed Nov 11 2026. No macro, syntax, notation, axiom, sorry.
-/
import Derived.Test.YthccjgkmmclplaaGreatChecked
import GoSem.Claim
import GoSem.ClaimJoined
import GoSem.ClaimMapViews
import Derived.JoinedTies
import Derived.KernelRfl
namespace Go.Proofs.YthccjgkmmclplaaGreat
/- THE CELL 'sum', in the pinned program and in every row, IS THE sha256 OF THE DUMP (.gsa) THAT YthccjgkmmclplaaGreatProg.lean LOADS. Nothing in Lean hashes anything: it is a label: what it is worth is what the hold of that sum in a sandbox is worth. -/
noncomputable def Tryz.pinned : Pinned := { name := "ythccjgkmmclplaagreat", sum := "3495b205e2abaddb2d96815b9dd8b50c4bb89d3fb0f1655617a1e1e675e5c376", checked := Tryz.checked }
namespace Rows
def none {H : Type} : Left H := { results := [], args := [] }

/-- 'laws.FnExactIsLibrary': WHATEVER THE INPUT: true; the input reads as it did. -/
def fnExactIsLibrarySpec : ChangeSpec := { name := "fnExactIsLibrary", fn := fun _ => fun
  | [d] => { results := [.lit (.bool true)], args := [d] }
  | _ => none }
def fnExactIsLibraryRow : OpenClaim := { program := "ythccjgkmmclplaagreat", sum := "3495b205e2abaddb2d96815b9dd8b50c4bb89d3fb0f1655617a1e1e675e5c376", func := "loop.example/g02075/laws.FnExactIsLibrary", spec := "fnExactIsLibrary", unfollowed := true, recurses := true, apart := false }
def FnExactIsLibrarySaid : Prop := fnExactIsLibraryRow.holds Tryz.pinned (OpenSpec.ofChange fnExactIsLibrarySpec)

/-- ITS FALSE NEIGHBOUR: 'it returns false'. Refute it at one input. -/
def fnExactIsLibraryWrong : ChangeSpec := { name := "fnExactIsLibrary", fn := fun _ => fun
  | [d] => { results := [.lit (.bool false)], args := [d] }
  | _ => none }
def FnExactIsLibraryWrongFalsely : Prop := fnExactIsLibraryRow.holds Tryz.pinned (OpenSpec.ofChange fnExactIsLibraryWrong)

/-- 'laws.FnExactSubgroupsOfIndex': WHATEVER THE INPUT: true; the input reads as it did. -/
def fnExactSubgroupsOfIndexSpec : ChangeSpec := { name := "fnExactSubgroupsOfIndex", fn := fun _ => fun
  | [d1, d2] => { results := [.lit (.bool true)], args := [d1, d2] }
  | _ => none }
def fnExactSubgroupsOfIndexRow : OpenClaim := { program := "ythccjgkmmclplaagreat", sum := "3495b205e2abaddb2d96815b9dd8b50c4bb89d3fb0f1655617a1e1e675e5c376", func := "loop.example/g02075/laws.FnExactSubgroupsOfIndex", spec := "fnExactSubgroupsOfIndex", unfollowed := true, recurses := true, apart := false }
def FnExactSubgroupsOfIndexSaid : Prop := fnExactSubgroupsOfIndexRow.holds Tryz.pinned (OpenSpec.ofChange fnExactSubgroupsOfIndexSpec)

/-- ITS FALSE NEIGHBOUR: 'it returns false'. Refute it at one input. -/
def fnExactSubgroupsOfIndexWrong : ChangeSpec := { name := "fnExactSubgroupsOfIndex", fn := fun _ => fun
  | [d1, d2] => { results := [.lit (.bool false)], args := [d1, d2] }
  | _ => none }
def FnExactSubgroupsOfIndexWrongFalsely : Prop := fnExactSubgroupsOfIndexRow.holds Tryz.pinned (OpenSpec.ofChange fnExactSubgroupsOfIndexWrong)

/-- 'laws.FnExactDropEntry': WHATEVER THE INPUT: true; the input reads as it did. -/
def fnExactDropEntrySpec : ChangeSpec := { name := "fnExactDropEntry", fn := fun _ => fun
  | [d1, d2] => { results := [.lit (.bool true)], args := [d1, d2] }
  | _ => none }
def fnExactDropEntryRow : OpenClaim := { program := "ythccjgkmmclplaagreat", sum := "3495b205e2abaddb2d96815b9dd8b50c4bb89d3fb0f1655617a1e1e675e5c376", func := "loop.example/g02075/laws.FnExactDropEntry", spec := "fnExactDropEntry", unfollowed := true, recurses := true, apart := false }
def FnExactDropEntrySaid : Prop := fnExactDropEntryRow.holds Tryz.pinned (OpenSpec.ofChange fnExactDropEntrySpec)

/-- ITS FALSE NEIGHBOUR: 'it returns false'. Refute it at one input. -/
def fnExactDropEntryWrong : ChangeSpec := { name := "fnExactDropEntry", fn := fun _ => fun
  | [d1, d2] => { results := [.lit (.bool false)], args := [d1, d2] }
  | _ => none }
def FnExactDropEntryWrongFalsely : Prop := fnExactDropEntryRow.holds Tryz.pinned (OpenSpec.ofChange fnExactDropEntryWrong)

/-- 'laws.FnExactPutEntry': WHATEVER THE INPUT: true; the input reads as it did. -/
def fnExactPutEntrySpec : ChangeSpec := { name := "fnExactPutEntry", fn := fun _ => fun
  | [d1, d2, d3] => { results := [.lit (.bool true)], args := [d1, d2, d3] }
  | _ => none }
def fnExactPutEntryRow : OpenClaim := { program := "ythccjgkmmclplaagreat", sum := "3495b205e2abaddb2d96815b9dd8b50c4bb89d3fb0f1655617a1e1e675e5c376", func := "loop.example/g02075/laws.FnExactPutEntry", spec := "fnExactPutEntry", unfollowed := true, recurses := true, apart := false }
def FnExactPutEntrySaid : Prop := fnExactPutEntryRow.holds Tryz.pinned (OpenSpec.ofChange fnExactPutEntrySpec)

/-- ITS FALSE NEIGHBOUR: 'it returns false'. Refute it at one input. -/
def fnExactPutEntryWrong : ChangeSpec := { name := "fnExactPutEntry", fn := fun _ => fun
  | [d1, d2, d3] => { results := [.lit (.bool false)], args := [d1, d2, d3] }
  | _ => none }
def FnExactPutEntryWrongFalsely : Prop := fnExactPutEntryRow.holds Tryz.pinned (OpenSpec.ofChange fnExactPutEntryWrong)

/-- 'laws.FnExactRelatorStep': WHATEVER THE INPUT: true; the input reads as it did. -/
def fnExactRelatorStepSpec : ChangeSpec := { name := "fnExactRelatorStep", fn := fun _ => fun
  | [d1, d2] => { results := [.lit (.bool true)], args := [d1, d2] }
  | _ => none }
def fnExactRelatorStepRow : OpenClaim := { program := "ythccjgkmmclplaagreat", sum := "3495b205e2abaddb2d96815b9dd8b50c4bb89d3fb0f1655617a1e1e675e5c376", func := "loop.example/g02075/laws.FnExactRelatorStep", spec := "fnExactRelatorStep", unfollowed := true, recurses := true, apart := false }
def FnExactRelatorStepSaid : Prop := fnExactRelatorStepRow.holds Tryz.pinned (OpenSpec.ofChange fnExactRelatorStepSpec)

/-- ITS FALSE NEIGHBOUR: 'it returns false'. Refute it at one input. -/
def fnExactRelatorStepWrong : ChangeSpec := { name := "fnExactRelatorStep", fn := fun _ => fun
  | [d1, d2] => { results := [.lit (.bool false)], args := [d1, d2] }
  | _ => none }
def FnExactRelatorStepWrongFalsely : Prop := fnExactRelatorStepRow.holds Tryz.pinned (OpenSpec.ofChange fnExactRelatorStepWrong)

/- THE SECOND FORM. 'bulk': how many values and letters a reading holds, each counted each time it is reached (what is shared counts as often as it is met; a slice's spare places count too). A statement '..UptoSaid' is the law's where the arguments, and the package variables that the reading takes, are together of bulk at most 1048576: NARROWER than '..Said'. Prove '..Said' where nothing that the law and all that it calls make is longer than what came in: it says more and counts as full. Else prove '..UptoSaid'. A law counts once. -/
mutual
def uptoBulk {H : Type} : DataW H → Nat
  | .lit (.string bytes) => bytes.length + 1
  | .lit _ => 1
  | .nil => 1
  | .ptr d => uptoBulk d + 1
  | .slice elems spare => uptoBulkAll elems + uptoBulkAll spare + 1
  | .agg parts => uptoBulkAll parts + 1
  | .iface _ d => uptoBulk d + 1
  | .map entries => uptoBulkEntries entries + 1
  | .held _ => 1
def uptoBulkAll {H : Type} : List (DataW H) → Nat
  | [] => 0
  | d :: r => uptoBulk d + uptoBulkAll r
def uptoBulkEntries {H : Type} : List (Lit × DataW H) → Nat
  | [] => 0
  | x :: r => uptoBulkEntry x + uptoBulkEntries r
def uptoBulkEntry {H : Type} : Lit × DataW H → Nat
  | (.string bytes, d) => bytes.length + uptoBulk d + 1
  | (_, d) => uptoBulk d + 1
 end
def uptoSmall : (H : Type) → List (DataW H) → Bool := fun _ ds => decide (uptoBulkAll ds ≤ 1048576)
def OpenSpec.upto (s : _root_.Go.ChangeSpec) : _root_.Go.OpenSpec := { _root_.Go.OpenSpec.ofChange s with cond := some uptoSmall }

/-- 'laws.FnExactIsLibrary', WHERE WHAT IT READS IS OF BULK AT MOST 1048576: true; the input reads as it did. -/
def fnExactIsLibraryUptoRow : OpenClaim := { program := "ythccjgkmmclplaagreat", sum := "3495b205e2abaddb2d96815b9dd8b50c4bb89d3fb0f1655617a1e1e675e5c376", func := "loop.example/g02075/laws.FnExactIsLibrary", spec := "fnExactIsLibrary", unfollowed := true, recurses := true, apart := false, narrowed := true }
def FnExactIsLibraryUptoSaid : Prop := fnExactIsLibraryUptoRow.holds Tryz.pinned (OpenSpec.upto fnExactIsLibrarySpec)

/-- 'laws.FnExactSubgroupsOfIndex', WHERE WHAT IT READS IS OF BULK AT MOST 1048576: true; the input reads as it did. -/
def fnExactSubgroupsOfIndexUptoRow : OpenClaim := { program := "ythccjgkmmclplaagreat", sum := "3495b205e2abaddb2d96815b9dd8b50c4bb89d3fb0f1655617a1e1e675e5c376", func := "loop.example/g02075/laws.FnExactSubgroupsOfIndex", spec := "fnExactSubgroupsOfIndex", unfollowed := true, recurses := true, apart := false, narrowed := true }
def FnExactSubgroupsOfIndexUptoSaid : Prop := fnExactSubgroupsOfIndexUptoRow.holds Tryz.pinned (OpenSpec.upto fnExactSubgroupsOfIndexSpec)

/-- 'laws.FnExactDropEntry', WHERE WHAT IT READS IS OF BULK AT MOST 1048576: true; the input reads as it did. -/
def fnExactDropEntryUptoRow : OpenClaim := { program := "ythccjgkmmclplaagreat", sum := "3495b205e2abaddb2d96815b9dd8b50c4bb89d3fb0f1655617a1e1e675e5c376", func := "loop.example/g02075/laws.FnExactDropEntry", spec := "fnExactDropEntry", unfollowed := true, recurses := true, apart := false, narrowed := true }
def FnExactDropEntryUptoSaid : Prop := fnExactDropEntryUptoRow.holds Tryz.pinned (OpenSpec.upto fnExactDropEntrySpec)

/-- 'laws.FnExactPutEntry', WHERE WHAT IT READS IS OF BULK AT MOST 1048576: true; the input reads as it did. -/
def fnExactPutEntryUptoRow : OpenClaim := { program := "ythccjgkmmclplaagreat", sum := "3495b205e2abaddb2d96815b9dd8b50c4bb89d3fb0f1655617a1e1e675e5c376", func := "loop.example/g02075/laws.FnExactPutEntry", spec := "fnExactPutEntry", unfollowed := true, recurses := true, apart := false, narrowed := true }
def FnExactPutEntryUptoSaid : Prop := fnExactPutEntryUptoRow.holds Tryz.pinned (OpenSpec.upto fnExactPutEntrySpec)

/-- 'laws.FnExactRelatorStep', WHERE WHAT IT READS IS OF BULK AT MOST 1048576: true; the input reads as it did. -/
def fnExactRelatorStepUptoRow : OpenClaim := { program := "ythccjgkmmclplaagreat", sum := "3495b205e2abaddb2d96815b9dd8b50c4bb89d3fb0f1655617a1e1e675e5c376", func := "loop.example/g02075/laws.FnExactRelatorStep", spec := "fnExactRelatorStep", unfollowed := true, recurses := true, apart := false, narrowed := true }
def FnExactRelatorStepUptoSaid : Prop := fnExactRelatorStepUptoRow.holds Tryz.pinned (OpenSpec.upto fnExactRelatorStepSpec)

end Rows
end Go.Proofs.YthccjgkmmclplaaGreat
