/-
  No cell of these rows narrows 'for every input' (looked for: loops, veiled, ifaces, maps, wideKeys, modest, calm, conditions, laid).
  DERIVED. THE GIVEN ROWS OF THIS SEAT. 12 by the template 'for every input the law returns true; each argument reads behind the call as it read before'; 0 by the template 'total and deterministic' (their statements: YtalidbmconldoaaTotals.lean).
  GIVEN WITH THE SEED: the statements are not yours to turn. If you find one false, say at which input.
  Laid BY PROGRAM, IN A SANDBOX (cutbox-rows.mjs): the forced cells as the released guide's own fill.sh prints them over the translation 373b56f13f109a95… (all of the seat's roots in one cut). By AI agents, Wed Nov 11 2026. No macro, syntax, notation, axiom, sorry.
-/
import Derived.Test.YtalidbmconldoaaChecked
import GoSem.Claim
import GoSem.ClaimJoined
import GoSem.ClaimMapViews
import Derived.JoinedTies
import Derived.KernelRfl
namespace Go.Proofs.Ytalidbmconldoaa
/- THE CELL 'sum', in the pinned program and in every row, IS THE sha256 OF THE DUMP (.gsa) THAT YtalidbmconldoaaProg.lean LOADS. Nothing in Lean hashes anything: it is a label: what it is worth is what the hold of that sum in a sandbox is worth. -/
noncomputable def Try.pinned : Pinned := { name := "ytalidbmconldoaa", sum := "373b56f13f109a95b620858ce94372b8ff6e2c0ef6a40651a712977cd64231f5", checked := Try.checked }
namespace Rows
def none {H : Type} : Left H := { results := [], args := [] }

/-- 'laws.FnExactIsPresentation': WHATEVER THE INPUT: true; the input reads as it did. -/
def fnExactIsPresentationSpec : ChangeSpec := { name := "fnExactIsPresentation", fn := fun _ => fun
  | [d] => { results := [.lit (.bool true)], args := [d] }
  | _ => none }
def fnExactIsPresentationRow : OpenClaim := { program := "ytalidbmconldoaa", sum := "373b56f13f109a95b620858ce94372b8ff6e2c0ef6a40651a712977cd64231f5", func := "loop.example/g02075/laws.FnExactIsPresentation", spec := "fnExactIsPresentation", apart := false }
def FnExactIsPresentationSaid : Prop := fnExactIsPresentationRow.holds Try.pinned (OpenSpec.ofChange fnExactIsPresentationSpec)

/-- ITS FALSE NEIGHBOUR: 'it returns false'. Refute it at one input. -/
def fnExactIsPresentationWrong : ChangeSpec := { name := "fnExactIsPresentation", fn := fun _ => fun
  | [d] => { results := [.lit (.bool false)], args := [d] }
  | _ => none }
def FnExactIsPresentationWrongFalsely : Prop := fnExactIsPresentationRow.holds Try.pinned (OpenSpec.ofChange fnExactIsPresentationWrong)

/-- 'laws.FnExactNewLibrary': WHATEVER THE INPUT: true; the input reads as it did. -/
def fnExactNewLibrarySpec : ChangeSpec := { name := "fnExactNewLibrary", fn := fun _ => fun
  | [d] => { results := [.lit (.bool true)], args := [d] }
  | _ => none }
def fnExactNewLibraryRow : OpenClaim := { program := "ytalidbmconldoaa", sum := "373b56f13f109a95b620858ce94372b8ff6e2c0ef6a40651a712977cd64231f5", func := "loop.example/g02075/laws.FnExactNewLibrary", spec := "fnExactNewLibrary", apart := false }
def FnExactNewLibrarySaid : Prop := fnExactNewLibraryRow.holds Try.pinned (OpenSpec.ofChange fnExactNewLibrarySpec)

/-- ITS FALSE NEIGHBOUR: 'it returns false'. Refute it at one input. -/
def fnExactNewLibraryWrong : ChangeSpec := { name := "fnExactNewLibrary", fn := fun _ => fun
  | [d] => { results := [.lit (.bool false)], args := [d] }
  | _ => none }
def FnExactNewLibraryWrongFalsely : Prop := fnExactNewLibraryRow.holds Try.pinned (OpenSpec.ofChange fnExactNewLibraryWrong)

/-- 'laws.FnExactShortestRelator': WHATEVER THE INPUT: true; the input reads as it did. -/
def fnExactShortestRelatorSpec : ChangeSpec := { name := "fnExactShortestRelator", fn := fun _ => fun
  | [d] => { results := [.lit (.bool true)], args := [d] }
  | _ => none }
def fnExactShortestRelatorRow : OpenClaim := { program := "ytalidbmconldoaa", sum := "373b56f13f109a95b620858ce94372b8ff6e2c0ef6a40651a712977cd64231f5", func := "loop.example/g02075/laws.FnExactShortestRelator", spec := "fnExactShortestRelator", apart := false }
def FnExactShortestRelatorSaid : Prop := fnExactShortestRelatorRow.holds Try.pinned (OpenSpec.ofChange fnExactShortestRelatorSpec)

/-- ITS FALSE NEIGHBOUR: 'it returns false'. Refute it at one input. -/
def fnExactShortestRelatorWrong : ChangeSpec := { name := "fnExactShortestRelator", fn := fun _ => fun
  | [d] => { results := [.lit (.bool false)], args := [d] }
  | _ => none }
def FnExactShortestRelatorWrongFalsely : Prop := fnExactShortestRelatorRow.holds Try.pinned (OpenSpec.ofChange fnExactShortestRelatorWrong)

/-- 'laws.FnExactEqualLibraries': WHATEVER THE INPUT: true; the input reads as it did. -/
def fnExactEqualLibrariesSpec : ChangeSpec := { name := "fnExactEqualLibraries", fn := fun _ => fun
  | [d1, d2] => { results := [.lit (.bool true)], args := [d1, d2] }
  | _ => none }
def fnExactEqualLibrariesRow : OpenClaim := { program := "ytalidbmconldoaa", sum := "373b56f13f109a95b620858ce94372b8ff6e2c0ef6a40651a712977cd64231f5", func := "loop.example/g02075/laws.FnExactEqualLibraries", spec := "fnExactEqualLibraries", apart := false }
def FnExactEqualLibrariesSaid : Prop := fnExactEqualLibrariesRow.holds Try.pinned (OpenSpec.ofChange fnExactEqualLibrariesSpec)

/-- ITS FALSE NEIGHBOUR: 'it returns false'. Refute it at one input. -/
def fnExactEqualLibrariesWrong : ChangeSpec := { name := "fnExactEqualLibraries", fn := fun _ => fun
  | [d1, d2] => { results := [.lit (.bool false)], args := [d1, d2] }
  | _ => none }
def FnExactEqualLibrariesWrongFalsely : Prop := fnExactEqualLibrariesRow.holds Try.pinned (OpenSpec.ofChange fnExactEqualLibrariesWrong)

/-- 'laws.FnExactLookUp': WHATEVER THE INPUT: true; the input reads as it did. -/
def fnExactLookUpSpec : ChangeSpec := { name := "fnExactLookUp", fn := fun _ => fun
  | [d1, d2] => { results := [.lit (.bool true)], args := [d1, d2] }
  | _ => none }
def fnExactLookUpRow : OpenClaim := { program := "ytalidbmconldoaa", sum := "373b56f13f109a95b620858ce94372b8ff6e2c0ef6a40651a712977cd64231f5", func := "loop.example/g02075/laws.FnExactLookUp", spec := "fnExactLookUp", apart := false }
def FnExactLookUpSaid : Prop := fnExactLookUpRow.holds Try.pinned (OpenSpec.ofChange fnExactLookUpSpec)

/-- ITS FALSE NEIGHBOUR: 'it returns false'. Refute it at one input. -/
def fnExactLookUpWrong : ChangeSpec := { name := "fnExactLookUp", fn := fun _ => fun
  | [d1, d2] => { results := [.lit (.bool false)], args := [d1, d2] }
  | _ => none }
def FnExactLookUpWrongFalsely : Prop := fnExactLookUpRow.holds Try.pinned (OpenSpec.ofChange fnExactLookUpWrong)

/-- 'laws.FnExactNewNotebook': WHATEVER THE INPUT: true; the input reads as it did. -/
def fnExactNewNotebookSpec : ChangeSpec := { name := "fnExactNewNotebook", fn := fun _ => fun
  | [d] => { results := [.lit (.bool true)], args := [d] }
  | _ => none }
def fnExactNewNotebookRow : OpenClaim := { program := "ytalidbmconldoaa", sum := "373b56f13f109a95b620858ce94372b8ff6e2c0ef6a40651a712977cd64231f5", func := "loop.example/g02075/laws.FnExactNewNotebook", spec := "fnExactNewNotebook", apart := false }
def FnExactNewNotebookSaid : Prop := fnExactNewNotebookRow.holds Try.pinned (OpenSpec.ofChange fnExactNewNotebookSpec)

/-- ITS FALSE NEIGHBOUR: 'it returns false'. Refute it at one input. -/
def fnExactNewNotebookWrong : ChangeSpec := { name := "fnExactNewNotebook", fn := fun _ => fun
  | [d] => { results := [.lit (.bool false)], args := [d] }
  | _ => none }
def FnExactNewNotebookWrongFalsely : Prop := fnExactNewNotebookRow.holds Try.pinned (OpenSpec.ofChange fnExactNewNotebookWrong)

/-- 'laws.FnExactEqualClaims': WHATEVER THE INPUT: true; the input reads as it did. -/
def fnExactEqualClaimsSpec : ChangeSpec := { name := "fnExactEqualClaims", fn := fun _ => fun
  | [d1, d2] => { results := [.lit (.bool true)], args := [d1, d2] }
  | _ => none }
def fnExactEqualClaimsRow : OpenClaim := { program := "ytalidbmconldoaa", sum := "373b56f13f109a95b620858ce94372b8ff6e2c0ef6a40651a712977cd64231f5", func := "loop.example/g02075/laws.FnExactEqualClaims", spec := "fnExactEqualClaims", apart := false }
def FnExactEqualClaimsSaid : Prop := fnExactEqualClaimsRow.holds Try.pinned (OpenSpec.ofChange fnExactEqualClaimsSpec)

/-- ITS FALSE NEIGHBOUR: 'it returns false'. Refute it at one input. -/
def fnExactEqualClaimsWrong : ChangeSpec := { name := "fnExactEqualClaims", fn := fun _ => fun
  | [d1, d2] => { results := [.lit (.bool false)], args := [d1, d2] }
  | _ => none }
def FnExactEqualClaimsWrongFalsely : Prop := fnExactEqualClaimsRow.holds Try.pinned (OpenSpec.ofChange fnExactEqualClaimsWrong)

/-- 'laws.FnExactFormatPresentation': WHATEVER THE INPUT: true; the input reads as it did. -/
def fnExactFormatPresentationSpec : ChangeSpec := { name := "fnExactFormatPresentation", fn := fun _ => fun
  | [d] => { results := [.lit (.bool true)], args := [d] }
  | _ => none }
def fnExactFormatPresentationRow : OpenClaim := { program := "ytalidbmconldoaa", sum := "373b56f13f109a95b620858ce94372b8ff6e2c0ef6a40651a712977cd64231f5", func := "loop.example/g02075/laws.FnExactFormatPresentation", spec := "fnExactFormatPresentation", apart := false }
def FnExactFormatPresentationSaid : Prop := fnExactFormatPresentationRow.holds Try.pinned (OpenSpec.ofChange fnExactFormatPresentationSpec)

/-- ITS FALSE NEIGHBOUR: 'it returns false'. Refute it at one input. -/
def fnExactFormatPresentationWrong : ChangeSpec := { name := "fnExactFormatPresentation", fn := fun _ => fun
  | [d] => { results := [.lit (.bool false)], args := [d] }
  | _ => none }
def FnExactFormatPresentationWrongFalsely : Prop := fnExactFormatPresentationRow.holds Try.pinned (OpenSpec.ofChange fnExactFormatPresentationWrong)

/-- 'laws.FnExactClaimsOf': WHATEVER THE INPUT: true; the input reads as it did. -/
def fnExactClaimsOfSpec : ChangeSpec := { name := "fnExactClaimsOf", fn := fun _ => fun
  | [d1, d2] => { results := [.lit (.bool true)], args := [d1, d2] }
  | _ => none }
def fnExactClaimsOfRow : OpenClaim := { program := "ytalidbmconldoaa", sum := "373b56f13f109a95b620858ce94372b8ff6e2c0ef6a40651a712977cd64231f5", func := "loop.example/g02075/laws.FnExactClaimsOf", spec := "fnExactClaimsOf", apart := false }
def FnExactClaimsOfSaid : Prop := fnExactClaimsOfRow.holds Try.pinned (OpenSpec.ofChange fnExactClaimsOfSpec)

/-- ITS FALSE NEIGHBOUR: 'it returns false'. Refute it at one input. -/
def fnExactClaimsOfWrong : ChangeSpec := { name := "fnExactClaimsOf", fn := fun _ => fun
  | [d1, d2] => { results := [.lit (.bool false)], args := [d1, d2] }
  | _ => none }
def FnExactClaimsOfWrongFalsely : Prop := fnExactClaimsOfRow.holds Try.pinned (OpenSpec.ofChange fnExactClaimsOfWrong)

/-- 'laws.FnExactProductOf': WHATEVER THE INPUT: true; the input reads as it did. -/
def fnExactProductOfSpec : ChangeSpec := { name := "fnExactProductOf", fn := fun _ => fun
  | [d1, d2] => { results := [.lit (.bool true)], args := [d1, d2] }
  | _ => none }
def fnExactProductOfRow : OpenClaim := { program := "ytalidbmconldoaa", sum := "373b56f13f109a95b620858ce94372b8ff6e2c0ef6a40651a712977cd64231f5", func := "loop.example/g02075/laws.FnExactProductOf", spec := "fnExactProductOf", apart := false }
def FnExactProductOfSaid : Prop := fnExactProductOfRow.holds Try.pinned (OpenSpec.ofChange fnExactProductOfSpec)

/-- ITS FALSE NEIGHBOUR: 'it returns false'. Refute it at one input. -/
def fnExactProductOfWrong : ChangeSpec := { name := "fnExactProductOf", fn := fun _ => fun
  | [d1, d2] => { results := [.lit (.bool false)], args := [d1, d2] }
  | _ => none }
def FnExactProductOfWrongFalsely : Prop := fnExactProductOfRow.holds Try.pinned (OpenSpec.ofChange fnExactProductOfWrong)

/-- 'laws.FnExactEqualNotebooks': WHATEVER THE INPUT: true; the input reads as it did. -/
def fnExactEqualNotebooksSpec : ChangeSpec := { name := "fnExactEqualNotebooks", fn := fun _ => fun
  | [d1, d2] => { results := [.lit (.bool true)], args := [d1, d2] }
  | _ => none }
def fnExactEqualNotebooksRow : OpenClaim := { program := "ytalidbmconldoaa", sum := "373b56f13f109a95b620858ce94372b8ff6e2c0ef6a40651a712977cd64231f5", func := "loop.example/g02075/laws.FnExactEqualNotebooks", spec := "fnExactEqualNotebooks", apart := false }
def FnExactEqualNotebooksSaid : Prop := fnExactEqualNotebooksRow.holds Try.pinned (OpenSpec.ofChange fnExactEqualNotebooksSpec)

/-- ITS FALSE NEIGHBOUR: 'it returns false'. Refute it at one input. -/
def fnExactEqualNotebooksWrong : ChangeSpec := { name := "fnExactEqualNotebooks", fn := fun _ => fun
  | [d1, d2] => { results := [.lit (.bool false)], args := [d1, d2] }
  | _ => none }
def FnExactEqualNotebooksWrongFalsely : Prop := fnExactEqualNotebooksRow.holds Try.pinned (OpenSpec.ofChange fnExactEqualNotebooksWrong)

/-- 'laws.FnExactFormatClaim': WHATEVER THE INPUT: true; the input reads as it did. -/
def fnExactFormatClaimSpec : ChangeSpec := { name := "fnExactFormatClaim", fn := fun _ => fun
  | [d] => { results := [.lit (.bool true)], args := [d] }
  | _ => none }
def fnExactFormatClaimRow : OpenClaim := { program := "ytalidbmconldoaa", sum := "373b56f13f109a95b620858ce94372b8ff6e2c0ef6a40651a712977cd64231f5", func := "loop.example/g02075/laws.FnExactFormatClaim", spec := "fnExactFormatClaim", apart := false }
def FnExactFormatClaimSaid : Prop := fnExactFormatClaimRow.holds Try.pinned (OpenSpec.ofChange fnExactFormatClaimSpec)

/-- ITS FALSE NEIGHBOUR: 'it returns false'. Refute it at one input. -/
def fnExactFormatClaimWrong : ChangeSpec := { name := "fnExactFormatClaim", fn := fun _ => fun
  | [d] => { results := [.lit (.bool false)], args := [d] }
  | _ => none }
def FnExactFormatClaimWrongFalsely : Prop := fnExactFormatClaimRow.holds Try.pinned (OpenSpec.ofChange fnExactFormatClaimWrong)

/- THE SECOND FORM. 'bulk': how many values and letters a reading holds, each counted each time it is reached (what is shared counts as often as it is met; a slice's spare places count too). A statement '..UptoSaid' is the law's where the arguments, and the package variables that the reading takes, are together of bulk at most 1048576: NARROWER than '..Said'. Prove '..Said' where nothing that the law and all that it calls make is longer than what came in: it says more and counts as full. Else prove '..UptoSaid'. A law counts once. -/
mutual
def uptoBulk {H : Type} : DataW H → Nat
  | .lit (.string bytes) => bytes.length + 1
  | .lit _ => 1
  | .nil => 1
  | .ptr d => uptoBulk d + 1
  | .slice elems spare => uptoBulkAll elems + uptoBulkAll spare + 1
  | .agg parts => uptoBulkAll parts + 1
  | .iface _ d => uptoBulk d + 1
  | .map entries => uptoBulkEntries entries + 1
  | .held _ => 1
def uptoBulkAll {H : Type} : List (DataW H) → Nat
  | [] => 0
  | d :: r => uptoBulk d + uptoBulkAll r
def uptoBulkEntries {H : Type} : List (Lit × DataW H) → Nat
  | [] => 0
  | x :: r => uptoBulkEntry x + uptoBulkEntries r
def uptoBulkEntry {H : Type} : Lit × DataW H → Nat
  | (.string bytes, d) => bytes.length + uptoBulk d + 1
  | (_, d) => uptoBulk d + 1
 end
def uptoSmall : (H : Type) → List (DataW H) → Bool := fun _ ds => decide (uptoBulkAll ds ≤ 1048576)
def OpenSpec.upto (s : _root_.Go.ChangeSpec) : _root_.Go.OpenSpec := { _root_.Go.OpenSpec.ofChange s with cond := some uptoSmall }

/-- 'laws.FnExactIsPresentation', WHERE WHAT IT READS IS OF BULK AT MOST 1048576: true; the input reads as it did. -/
def fnExactIsPresentationUptoRow : OpenClaim := { program := "ytalidbmconldoaa", sum := "373b56f13f109a95b620858ce94372b8ff6e2c0ef6a40651a712977cd64231f5", func := "loop.example/g02075/laws.FnExactIsPresentation", spec := "fnExactIsPresentation", apart := false, narrowed := true }
def FnExactIsPresentationUptoSaid : Prop := fnExactIsPresentationUptoRow.holds Try.pinned (OpenSpec.upto fnExactIsPresentationSpec)

/-- 'laws.FnExactNewLibrary', WHERE WHAT IT READS IS OF BULK AT MOST 1048576: true; the input reads as it did. -/
def fnExactNewLibraryUptoRow : OpenClaim := { program := "ytalidbmconldoaa", sum := "373b56f13f109a95b620858ce94372b8ff6e2c0ef6a40651a712977cd64231f5", func := "loop.example/g02075/laws.FnExactNewLibrary", spec := "fnExactNewLibrary", apart := false, narrowed := true }
def FnExactNewLibraryUptoSaid : Prop := fnExactNewLibraryUptoRow.holds Try.pinned (OpenSpec.upto fnExactNewLibrarySpec)

/-- 'laws.FnExactShortestRelator', WHERE WHAT IT READS IS OF BULK AT MOST 1048576: true; the input reads as it did. -/
def fnExactShortestRelatorUptoRow : OpenClaim := { program := "ytalidbmconldoaa", sum := "373b56f13f109a95b620858ce94372b8ff6e2c0ef6a40651a712977cd64231f5", func := "loop.example/g02075/laws.FnExactShortestRelator", spec := "fnExactShortestRelator", apart := false, narrowed := true }
def FnExactShortestRelatorUptoSaid : Prop := fnExactShortestRelatorUptoRow.holds Try.pinned (OpenSpec.upto fnExactShortestRelatorSpec)

/-- 'laws.FnExactEqualLibraries', WHERE WHAT IT READS IS OF BULK AT MOST 1048576: true; the input reads as it did. -/
def fnExactEqualLibrariesUptoRow : OpenClaim := { program := "ytalidbmconldoaa", sum := "373b56f13f109a95b620858ce94372b8ff6e2c0ef6a40651a712977cd64231f5", func := "loop.example/g02075/laws.FnExactEqualLibraries", spec := "fnExactEqualLibraries", apart := false, narrowed := true }
def FnExactEqualLibrariesUptoSaid : Prop := fnExactEqualLibrariesUptoRow.holds Try.pinned (OpenSpec.upto fnExactEqualLibrariesSpec)

/-- 'laws.FnExactLookUp', WHERE WHAT IT READS IS OF BULK AT MOST 1048576: true; the input reads as it did. -/
def fnExactLookUpUptoRow : OpenClaim := { program := "ytalidbmconldoaa", sum := "373b56f13f109a95b620858ce94372b8ff6e2c0ef6a40651a712977cd64231f5", func := "loop.example/g02075/laws.FnExactLookUp", spec := "fnExactLookUp", apart := false, narrowed := true }
def FnExactLookUpUptoSaid : Prop := fnExactLookUpUptoRow.holds Try.pinned (OpenSpec.upto fnExactLookUpSpec)

/-- 'laws.FnExactNewNotebook', WHERE WHAT IT READS IS OF BULK AT MOST 1048576: true; the input reads as it did. -/
def fnExactNewNotebookUptoRow : OpenClaim := { program := "ytalidbmconldoaa", sum := "373b56f13f109a95b620858ce94372b8ff6e2c0ef6a40651a712977cd64231f5", func := "loop.example/g02075/laws.FnExactNewNotebook", spec := "fnExactNewNotebook", apart := false, narrowed := true }
def FnExactNewNotebookUptoSaid : Prop := fnExactNewNotebookUptoRow.holds Try.pinned (OpenSpec.upto fnExactNewNotebookSpec)

/-- 'laws.FnExactEqualClaims', WHERE WHAT IT READS IS OF BULK AT MOST 1048576: true; the input reads as it did. -/
def fnExactEqualClaimsUptoRow : OpenClaim := { program := "ytalidbmconldoaa", sum := "373b56f13f109a95b620858ce94372b8ff6e2c0ef6a40651a712977cd64231f5", func := "loop.example/g02075/laws.FnExactEqualClaims", spec := "fnExactEqualClaims", apart := false, narrowed := true }
def FnExactEqualClaimsUptoSaid : Prop := fnExactEqualClaimsUptoRow.holds Try.pinned (OpenSpec.upto fnExactEqualClaimsSpec)

/-- 'laws.FnExactFormatPresentation', WHERE WHAT IT READS IS OF BULK AT MOST 1048576: true; the input reads as it did. -/
def fnExactFormatPresentationUptoRow : OpenClaim := { program := "ytalidbmconldoaa", sum := "373b56f13f109a95b620858ce94372b8ff6e2c0ef6a40651a712977cd64231f5", func := "loop.example/g02075/laws.FnExactFormatPresentation", spec := "fnExactFormatPresentation", apart := false, narrowed := true }
def FnExactFormatPresentationUptoSaid : Prop := fnExactFormatPresentationUptoRow.holds Try.pinned (OpenSpec.upto fnExactFormatPresentationSpec)

/-- 'laws.FnExactClaimsOf', WHERE WHAT IT READS IS OF BULK AT MOST 1048576: true; the input reads as it did. -/
def fnExactClaimsOfUptoRow : OpenClaim := { program := "ytalidbmconldoaa", sum := "373b56f13f109a95b620858ce94372b8ff6e2c0ef6a40651a712977cd64231f5", func := "loop.example/g02075/laws.FnExactClaimsOf", spec := "fnExactClaimsOf", apart := false, narrowed := true }
def FnExactClaimsOfUptoSaid : Prop := fnExactClaimsOfUptoRow.holds Try.pinned (OpenSpec.upto fnExactClaimsOfSpec)

/-- 'laws.FnExactProductOf', WHERE WHAT IT READS IS OF BULK AT MOST 1048576: true; the input reads as it did. -/
def fnExactProductOfUptoRow : OpenClaim := { program := "ytalidbmconldoaa", sum := "373b56f13f109a95b620858ce94372b8ff6e2c0ef6a40651a712977cd64231f5", func := "loop.example/g02075/laws.FnExactProductOf", spec := "fnExactProductOf", apart := false, narrowed := true }
def FnExactProductOfUptoSaid : Prop := fnExactProductOfUptoRow.holds Try.pinned (OpenSpec.upto fnExactProductOfSpec)

/-- 'laws.FnExactEqualNotebooks', WHERE WHAT IT READS IS OF BULK AT MOST 1048576: true; the input reads as it did. -/
def fnExactEqualNotebooksUptoRow : OpenClaim := { program := "ytalidbmconldoaa", sum := "373b56f13f109a95b620858ce94372b8ff6e2c0ef6a40651a712977cd64231f5", func := "loop.example/g02075/laws.FnExactEqualNotebooks", spec := "fnExactEqualNotebooks", apart := false, narrowed := true }
def FnExactEqualNotebooksUptoSaid : Prop := fnExactEqualNotebooksUptoRow.holds Try.pinned (OpenSpec.upto fnExactEqualNotebooksSpec)

/-- 'laws.FnExactFormatClaim', WHERE WHAT IT READS IS OF BULK AT MOST 1048576: true; the input reads as it did. -/
def fnExactFormatClaimUptoRow : OpenClaim := { program := "ytalidbmconldoaa", sum := "373b56f13f109a95b620858ce94372b8ff6e2c0ef6a40651a712977cd64231f5", func := "loop.example/g02075/laws.FnExactFormatClaim", spec := "fnExactFormatClaim", apart := false, narrowed := true }
def FnExactFormatClaimUptoSaid : Prop := fnExactFormatClaimUptoRow.holds Try.pinned (OpenSpec.upto fnExactFormatClaimSpec)

end Rows
end Go.Proofs.Ytalidbmconldoaa
