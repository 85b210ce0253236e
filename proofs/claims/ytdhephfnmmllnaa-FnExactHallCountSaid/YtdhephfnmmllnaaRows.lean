/-
  No cell of these rows narrows 'for every input' (looked for: loops, veiled, ifaces, maps, wideKeys, modest, calm, conditions, laid).
  DERIVED. THE GIVEN ROWS OF THIS SEAT. 6 by the template 'for every input the law returns true; each argument reads behind the call as it read before'; 0 by the template 'total and deterministic' (their statements: YtdhephfnmmllnaaTotals.lean).
  GIVEN WITH THE SEED: the statements are not yours to turn. If you find one false, say at which input.
  Laid BY PROGRAM, IN A SANDBOX (cutbox-rows.mjs): the forced cells as the released guide's own fill.sh prints them over the translation 9c05de0d0dc5e0c4… (all of the seat's roots in one cut). By AI agents, Wed Nov 11 2026. No macro, syntax, notation, axiom, sorry.
-/
import Derived.Test.YtdhephfnmmllnaaChecked
import GoSem.Claim
import GoSem.ClaimJoined
import GoSem.ClaimMapViews
import Derived.JoinedTies
import Derived.KernelRfl
namespace Go.Proofs.Ytdhephfnmmllnaa
/- THE CELL 'sum', in the pinned program and in every row, IS THE sha256 OF THE DUMP (.gsa) THAT YtdhephfnmmllnaaProg.lean LOADS. Nothing in Lean hashes anything: it is a label: what it is worth is what the hold of that sum in a sandbox is worth. -/
noncomputable def Try.pinned : Pinned := { name := "ytdhephfnmmllnaa", sum := "9c05de0d0dc5e0c4c09d1fb1e06f111dbaa50a176c54d2ace03d687ccd6ded72", checked := Try.checked }
namespace Rows
def none {H : Type} : Left H := { results := [], args := [] }

/-- 'laws.FnExactClaimWord': WHATEVER THE INPUT: true; the input reads as it did. -/
def fnExactClaimWordSpec : ChangeSpec := { name := "fnExactClaimWord", fn := fun _ => fun
  | [d] => { results := [.lit (.bool true)], args := [d] }
  | _ => none }
def fnExactClaimWordRow : OpenClaim := { program := "ytdhephfnmmllnaa", sum := "9c05de0d0dc5e0c4c09d1fb1e06f111dbaa50a176c54d2ace03d687ccd6ded72", func := "loop.example/g02075/laws.FnExactClaimWord", spec := "fnExactClaimWord", apart := false }
def FnExactClaimWordSaid : Prop := fnExactClaimWordRow.holds Try.pinned (OpenSpec.ofChange fnExactClaimWordSpec)

/-- ITS FALSE NEIGHBOUR: 'it returns false'. Refute it at one input. -/
def fnExactClaimWordWrong : ChangeSpec := { name := "fnExactClaimWord", fn := fun _ => fun
  | [d] => { results := [.lit (.bool false)], args := [d] }
  | _ => none }
def FnExactClaimWordWrongFalsely : Prop := fnExactClaimWordRow.holds Try.pinned (OpenSpec.ofChange fnExactClaimWordWrong)

/-- 'laws.FnExactFactorialOf': WHATEVER THE INPUT: true; the input reads as it did. -/
def fnExactFactorialOfSpec : ChangeSpec := { name := "fnExactFactorialOf", fn := fun _ => fun
  | [d] => { results := [.lit (.bool true)], args := [d] }
  | _ => none }
def fnExactFactorialOfRow : OpenClaim := { program := "ytdhephfnmmllnaa", sum := "9c05de0d0dc5e0c4c09d1fb1e06f111dbaa50a176c54d2ace03d687ccd6ded72", func := "loop.example/g02075/laws.FnExactFactorialOf", spec := "fnExactFactorialOf", apart := false }
def FnExactFactorialOfSaid : Prop := fnExactFactorialOfRow.holds Try.pinned (OpenSpec.ofChange fnExactFactorialOfSpec)

/-- ITS FALSE NEIGHBOUR: 'it returns false'. Refute it at one input. -/
def fnExactFactorialOfWrong : ChangeSpec := { name := "fnExactFactorialOf", fn := fun _ => fun
  | [d] => { results := [.lit (.bool false)], args := [d] }
  | _ => none }
def FnExactFactorialOfWrongFalsely : Prop := fnExactFactorialOfRow.holds Try.pinned (OpenSpec.ofChange fnExactFactorialOfWrong)

/-- 'laws.FnExactIsName': WHATEVER THE INPUT: true; the input reads as it did. -/
def fnExactIsNameSpec : ChangeSpec := { name := "fnExactIsName", fn := fun _ => fun
  | [d] => { results := [.lit (.bool true)], args := [d] }
  | _ => none }
def fnExactIsNameRow : OpenClaim := { program := "ytdhephfnmmllnaa", sum := "9c05de0d0dc5e0c4c09d1fb1e06f111dbaa50a176c54d2ace03d687ccd6ded72", func := "loop.example/g02075/laws.FnExactIsName", spec := "fnExactIsName", apart := false }
def FnExactIsNameSaid : Prop := fnExactIsNameRow.holds Try.pinned (OpenSpec.ofChange fnExactIsNameSpec)

/-- ITS FALSE NEIGHBOUR: 'it returns false'. Refute it at one input. -/
def fnExactIsNameWrong : ChangeSpec := { name := "fnExactIsName", fn := fun _ => fun
  | [d] => { results := [.lit (.bool false)], args := [d] }
  | _ => none }
def FnExactIsNameWrongFalsely : Prop := fnExactIsNameRow.holds Try.pinned (OpenSpec.ofChange fnExactIsNameWrong)

/-- 'laws.FnExactHallCount': WHATEVER THE INPUT: true; the input reads as it did. -/
def fnExactHallCountSpec : ChangeSpec := { name := "fnExactHallCount", fn := fun _ => fun
  | [d1, d2] => { results := [.lit (.bool true)], args := [d1, d2] }
  | _ => none }
def fnExactHallCountRow : OpenClaim := { program := "ytdhephfnmmllnaa", sum := "9c05de0d0dc5e0c4c09d1fb1e06f111dbaa50a176c54d2ace03d687ccd6ded72", func := "loop.example/g02075/laws.FnExactHallCount", spec := "fnExactHallCount", unfollowed := true, recurses := true, apart := false }
def FnExactHallCountSaid : Prop := fnExactHallCountRow.holds Try.pinned (OpenSpec.ofChange fnExactHallCountSpec)

/-- ITS FALSE NEIGHBOUR: 'it returns false'. Refute it at one input. -/
def fnExactHallCountWrong : ChangeSpec := { name := "fnExactHallCount", fn := fun _ => fun
  | [d1, d2] => { results := [.lit (.bool false)], args := [d1, d2] }
  | _ => none }
def FnExactHallCountWrongFalsely : Prop := fnExactHallCountRow.holds Try.pinned (OpenSpec.ofChange fnExactHallCountWrong)

/-- 'laws.FnExactIsPresentation': WHATEVER THE INPUT: true; the input reads as it did. -/
def fnExactIsPresentationSpec : ChangeSpec := { name := "fnExactIsPresentation", fn := fun _ => fun
  | [d] => { results := [.lit (.bool true)], args := [d] }
  | _ => none }
def fnExactIsPresentationRow : OpenClaim := { program := "ytdhephfnmmllnaa", sum := "9c05de0d0dc5e0c4c09d1fb1e06f111dbaa50a176c54d2ace03d687ccd6ded72", func := "loop.example/g02075/laws.FnExactIsPresentation", spec := "fnExactIsPresentation", apart := false }
def FnExactIsPresentationSaid : Prop := fnExactIsPresentationRow.holds Try.pinned (OpenSpec.ofChange fnExactIsPresentationSpec)

/-- ITS FALSE NEIGHBOUR: 'it returns false'. Refute it at one input. -/
def fnExactIsPresentationWrong : ChangeSpec := { name := "fnExactIsPresentation", fn := fun _ => fun
  | [d] => { results := [.lit (.bool false)], args := [d] }
  | _ => none }
def FnExactIsPresentationWrongFalsely : Prop := fnExactIsPresentationRow.holds Try.pinned (OpenSpec.ofChange fnExactIsPresentationWrong)

/-- 'laws.FnExactNewLibrary': WHATEVER THE INPUT: true; the input reads as it did. -/
def fnExactNewLibrarySpec : ChangeSpec := { name := "fnExactNewLibrary", fn := fun _ => fun
  | [d] => { results := [.lit (.bool true)], args := [d] }
  | _ => none }
def fnExactNewLibraryRow : OpenClaim := { program := "ytdhephfnmmllnaa", sum := "9c05de0d0dc5e0c4c09d1fb1e06f111dbaa50a176c54d2ace03d687ccd6ded72", func := "loop.example/g02075/laws.FnExactNewLibrary", spec := "fnExactNewLibrary", apart := false }
def FnExactNewLibrarySaid : Prop := fnExactNewLibraryRow.holds Try.pinned (OpenSpec.ofChange fnExactNewLibrarySpec)

/-- ITS FALSE NEIGHBOUR: 'it returns false'. Refute it at one input. -/
def fnExactNewLibraryWrong : ChangeSpec := { name := "fnExactNewLibrary", fn := fun _ => fun
  | [d] => { results := [.lit (.bool false)], args := [d] }
  | _ => none }
def FnExactNewLibraryWrongFalsely : Prop := fnExactNewLibraryRow.holds Try.pinned (OpenSpec.ofChange fnExactNewLibraryWrong)

/- THE SECOND FORM. 'bulk': how many values and letters a reading holds, each counted each time it is reached (what is shared counts as often as it is met; a slice's spare places count too). A statement '..UptoSaid' is the law's where the arguments, and the package variables that the reading takes, are together of bulk at most 1048576: NARROWER than '..Said'. Prove '..Said' where nothing that the law and all that it calls make is longer than what came in: it says more and counts as full. Else prove '..UptoSaid'. A law counts once. -/
mutual
def uptoBulk {H : Type} : DataW H → Nat
  | .lit (.string bytes) => bytes.length + 1
  | .lit _ => 1
  | .nil => 1
  | .ptr d => uptoBulk d + 1
  | .slice elems spare => uptoBulkAll elems + uptoBulkAll spare + 1
  | .agg parts => uptoBulkAll parts + 1
  | .iface _ d => uptoBulk d + 1
  | .map entries => uptoBulkEntries entries + 1
  | .held _ => 1
def uptoBulkAll {H : Type} : List (DataW H) → Nat
  | [] => 0
  | d :: r => uptoBulk d + uptoBulkAll r
def uptoBulkEntries {H : Type} : List (Lit × DataW H) → Nat
  | [] => 0
  | x :: r => uptoBulkEntry x + uptoBulkEntries r
def uptoBulkEntry {H : Type} : Lit × DataW H → Nat
  | (.string bytes, d) => bytes.length + uptoBulk d + 1
  | (_, d) => uptoBulk d + 1
 end
def uptoSmall : (H : Type) → List (DataW H) → Bool := fun _ ds => decide (uptoBulkAll ds ≤ 1048576)
def OpenSpec.upto (s : _root_.Go.ChangeSpec) : _root_.Go.OpenSpec := { _root_.Go.OpenSpec.ofChange s with cond := some uptoSmall }

/-- 'laws.FnExactClaimWord', WHERE WHAT IT READS IS OF BULK AT MOST 1048576: true; the input reads as it did. -/
def fnExactClaimWordUptoRow : OpenClaim := { program := "ytdhephfnmmllnaa", sum := "9c05de0d0dc5e0c4c09d1fb1e06f111dbaa50a176c54d2ace03d687ccd6ded72", func := "loop.example/g02075/laws.FnExactClaimWord", spec := "fnExactClaimWord", apart := false, narrowed := true }
def FnExactClaimWordUptoSaid : Prop := fnExactClaimWordUptoRow.holds Try.pinned (OpenSpec.upto fnExactClaimWordSpec)

/-- 'laws.FnExactFactorialOf', WHERE WHAT IT READS IS OF BULK AT MOST 1048576: true; the input reads as it did. -/
def fnExactFactorialOfUptoRow : OpenClaim := { program := "ytdhephfnmmllnaa", sum := "9c05de0d0dc5e0c4c09d1fb1e06f111dbaa50a176c54d2ace03d687ccd6ded72", func := "loop.example/g02075/laws.FnExactFactorialOf", spec := "fnExactFactorialOf", apart := false, narrowed := true }
def FnExactFactorialOfUptoSaid : Prop := fnExactFactorialOfUptoRow.holds Try.pinned (OpenSpec.upto fnExactFactorialOfSpec)

/-- 'laws.FnExactIsName', WHERE WHAT IT READS IS OF BULK AT MOST 1048576: true; the input reads as it did. -/
def fnExactIsNameUptoRow : OpenClaim := { program := "ytdhephfnmmllnaa", sum := "9c05de0d0dc5e0c4c09d1fb1e06f111dbaa50a176c54d2ace03d687ccd6ded72", func := "loop.example/g02075/laws.FnExactIsName", spec := "fnExactIsName", apart := false, narrowed := true }
def FnExactIsNameUptoSaid : Prop := fnExactIsNameUptoRow.holds Try.pinned (OpenSpec.upto fnExactIsNameSpec)

/-- 'laws.FnExactHallCount', WHERE WHAT IT READS IS OF BULK AT MOST 1048576: true; the input reads as it did. -/
def fnExactHallCountUptoRow : OpenClaim := { program := "ytdhephfnmmllnaa", sum := "9c05de0d0dc5e0c4c09d1fb1e06f111dbaa50a176c54d2ace03d687ccd6ded72", func := "loop.example/g02075/laws.FnExactHallCount", spec := "fnExactHallCount", unfollowed := true, recurses := true, apart := false, narrowed := true }
def FnExactHallCountUptoSaid : Prop := fnExactHallCountUptoRow.holds Try.pinned (OpenSpec.upto fnExactHallCountSpec)

/-- 'laws.FnExactIsPresentation', WHERE WHAT IT READS IS OF BULK AT MOST 1048576: true; the input reads as it did. -/
def fnExactIsPresentationUptoRow : OpenClaim := { program := "ytdhephfnmmllnaa", sum := "9c05de0d0dc5e0c4c09d1fb1e06f111dbaa50a176c54d2ace03d687ccd6ded72", func := "loop.example/g02075/laws.FnExactIsPresentation", spec := "fnExactIsPresentation", apart := false, narrowed := true }
def FnExactIsPresentationUptoSaid : Prop := fnExactIsPresentationUptoRow.holds Try.pinned (OpenSpec.upto fnExactIsPresentationSpec)

/-- 'laws.FnExactNewLibrary', WHERE WHAT IT READS IS OF BULK AT MOST 1048576: true; the input reads as it did. -/
def fnExactNewLibraryUptoRow : OpenClaim := { program := "ytdhephfnmmllnaa", sum := "9c05de0d0dc5e0c4c09d1fb1e06f111dbaa50a176c54d2ace03d687ccd6ded72", func := "loop.example/g02075/laws.FnExactNewLibrary", spec := "fnExactNewLibrary", apart := false, narrowed := true }
def FnExactNewLibraryUptoSaid : Prop := fnExactNewLibraryUptoRow.holds Try.pinned (OpenSpec.upto fnExactNewLibrarySpec)

end Rows
end Go.Proofs.Ytdhephfnmmllnaa
