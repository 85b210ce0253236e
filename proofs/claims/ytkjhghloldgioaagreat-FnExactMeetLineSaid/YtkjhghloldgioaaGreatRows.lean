/-
  No cell of these rows narrows 'for every input' (looked for: loops, veiled, ifaces, maps, wideKeys, modest, calm, conditions, laid).
  DERIVED. THE GIVEN ROWS OF THIS SEAT. 12 by the template 'for every input the law returns true; each argument reads behind the call as it read before'; 0 by the template 'total and deterministic' (their statements: YtkjhghloldgioaaGreatTotals.lean).
  GIVEN WITH THE SEED: the statements are not yours to turn. If you find one false, say at which input.
  Laid BY PROGRAM, IN A SANDBOX (cutbox-rows.mjs): the forced cells as the released guide's own fill.sh prints them over the translation d2e543e62823b39f… (all of the seat's roots in one cut). By AI agents, Wed Nov 11 2026. No macro, syntax, notation, axiom, sorry.
-/
import Derived.Test.YtkjhghloldgioaaGreatChecked
import GoSem.Claim
import GoSem.ClaimJoined
import GoSem.ClaimMapViews
import Derived.JoinedTies
import Derived.KernelRfl
namespace Go.Proofs.YtkjhghloldgioaaGreat
/- THE CELL 'sum', in the pinned program and in every row, IS THE sha256 OF THE DUMP (.gsa) THAT YtkjhghloldgioaaGreatProg.lean LOADS. Nothing in Lean hashes anything: it is a label: what it is worth is what the hold of that sum in a sandbox is worth. -/
noncomputable def Tryz.pinned : Pinned := { name := "ytkjhghloldgioaagreat", sum := "d2e543e62823b39f0a2266de76cc8753a2b0e7008bc3efcbb644f65bde673418", checked := Tryz.checked }
namespace Rows
def none {H : Type} : Left H := { results := [], args := [] }

/-- 'laws.FnExactIsNotebook': WHATEVER THE INPUT: true; the input reads as it did. -/
def fnExactIsNotebookSpec : ChangeSpec := { name := "fnExactIsNotebook", fn := fun _ => fun
  | [d] => { results := [.lit (.bool true)], args := [d] }
  | _ => none }
def fnExactIsNotebookRow : OpenClaim := { program := "ytkjhghloldgioaagreat", sum := "d2e543e62823b39f0a2266de76cc8753a2b0e7008bc3efcbb644f65bde673418", func := "loop.example/g02075/laws.FnExactIsNotebook", spec := "fnExactIsNotebook", unfollowed := true, recurses := true, plainKeys := false, apart := false }
def FnExactIsNotebookSaid : Prop := fnExactIsNotebookRow.holds Tryz.pinned (OpenSpec.ofChange fnExactIsNotebookSpec)

/-- ITS FALSE NEIGHBOUR: 'it returns false'. Refute it at one input. -/
def fnExactIsNotebookWrong : ChangeSpec := { name := "fnExactIsNotebook", fn := fun _ => fun
  | [d] => { results := [.lit (.bool false)], args := [d] }
  | _ => none }
def FnExactIsNotebookWrongFalsely : Prop := fnExactIsNotebookRow.holds Tryz.pinned (OpenSpec.ofChange fnExactIsNotebookWrong)

/-- 'laws.FnExactFalseClaims': WHATEVER THE INPUT: true; the input reads as it did. -/
def fnExactFalseClaimsSpec : ChangeSpec := { name := "fnExactFalseClaims", fn := fun _ => fun
  | [d] => { results := [.lit (.bool true)], args := [d] }
  | _ => none }
def fnExactFalseClaimsRow : OpenClaim := { program := "ytkjhghloldgioaagreat", sum := "d2e543e62823b39f0a2266de76cc8753a2b0e7008bc3efcbb644f65bde673418", func := "loop.example/g02075/laws.FnExactFalseClaims", spec := "fnExactFalseClaims", unfollowed := true, recurses := true, plainKeys := false, apart := false }
def FnExactFalseClaimsSaid : Prop := fnExactFalseClaimsRow.holds Tryz.pinned (OpenSpec.ofChange fnExactFalseClaimsSpec)

/-- ITS FALSE NEIGHBOUR: 'it returns false'. Refute it at one input. -/
def fnExactFalseClaimsWrong : ChangeSpec := { name := "fnExactFalseClaims", fn := fun _ => fun
  | [d] => { results := [.lit (.bool false)], args := [d] }
  | _ => none }
def FnExactFalseClaimsWrongFalsely : Prop := fnExactFalseClaimsRow.holds Tryz.pinned (OpenSpec.ofChange fnExactFalseClaimsWrong)

/-- 'laws.FnExactAddClaim': WHATEVER THE INPUT: true; the input reads as it did. -/
def fnExactAddClaimSpec : ChangeSpec := { name := "fnExactAddClaim", fn := fun _ => fun
  | [d1, d2] => { results := [.lit (.bool true)], args := [d1, d2] }
  | _ => none }
def fnExactAddClaimRow : OpenClaim := { program := "ytkjhghloldgioaagreat", sum := "d2e543e62823b39f0a2266de76cc8753a2b0e7008bc3efcbb644f65bde673418", func := "loop.example/g02075/laws.FnExactAddClaim", spec := "fnExactAddClaim", unfollowed := true, recurses := true, plainKeys := false, apart := false }
def FnExactAddClaimSaid : Prop := fnExactAddClaimRow.holds Tryz.pinned (OpenSpec.ofChange fnExactAddClaimSpec)

/-- ITS FALSE NEIGHBOUR: 'it returns false'. Refute it at one input. -/
def fnExactAddClaimWrong : ChangeSpec := { name := "fnExactAddClaim", fn := fun _ => fun
  | [d1, d2] => { results := [.lit (.bool false)], args := [d1, d2] }
  | _ => none }
def FnExactAddClaimWrongFalsely : Prop := fnExactAddClaimRow.holds Tryz.pinned (OpenSpec.ofChange fnExactAddClaimWrong)

/-- 'laws.FnExactMakeClaim': WHATEVER THE INPUT: true; the input reads as it did. -/
def fnExactMakeClaimSpec : ChangeSpec := { name := "fnExactMakeClaim", fn := fun _ => fun
  | [d1, d2, d3, d4] => { results := [.lit (.bool true)], args := [d1, d2, d3, d4] }
  | _ => none }
def fnExactMakeClaimRow : OpenClaim := { program := "ytkjhghloldgioaagreat", sum := "d2e543e62823b39f0a2266de76cc8753a2b0e7008bc3efcbb644f65bde673418", func := "loop.example/g02075/laws.FnExactMakeClaim", spec := "fnExactMakeClaim", unfollowed := true, recurses := true, plainKeys := false, apart := false }
def FnExactMakeClaimSaid : Prop := fnExactMakeClaimRow.holds Tryz.pinned (OpenSpec.ofChange fnExactMakeClaimSpec)

/-- ITS FALSE NEIGHBOUR: 'it returns false'. Refute it at one input. -/
def fnExactMakeClaimWrong : ChangeSpec := { name := "fnExactMakeClaim", fn := fun _ => fun
  | [d1, d2, d3, d4] => { results := [.lit (.bool false)], args := [d1, d2, d3, d4] }
  | _ => none }
def FnExactMakeClaimWrongFalsely : Prop := fnExactMakeClaimRow.holds Tryz.pinned (OpenSpec.ofChange fnExactMakeClaimWrong)

/-- 'laws.FnExactMemberLine': WHATEVER THE INPUT: true; the input reads as it did. -/
def fnExactMemberLineSpec : ChangeSpec := { name := "fnExactMemberLine", fn := fun _ => fun
  | [d1, d2] => { results := [.lit (.bool true)], args := [d1, d2] }
  | _ => none }
def fnExactMemberLineRow : OpenClaim := { program := "ytkjhghloldgioaagreat", sum := "d2e543e62823b39f0a2266de76cc8753a2b0e7008bc3efcbb644f65bde673418", func := "loop.example/g02075/laws.FnExactMemberLine", spec := "fnExactMemberLine", unfollowed := true, recurses := true, plainKeys := false, apart := false }
def FnExactMemberLineSaid : Prop := fnExactMemberLineRow.holds Tryz.pinned (OpenSpec.ofChange fnExactMemberLineSpec)

/-- ITS FALSE NEIGHBOUR: 'it returns false'. Refute it at one input. -/
def fnExactMemberLineWrong : ChangeSpec := { name := "fnExactMemberLine", fn := fun _ => fun
  | [d1, d2] => { results := [.lit (.bool false)], args := [d1, d2] }
  | _ => none }
def FnExactMemberLineWrongFalsely : Prop := fnExactMemberLineRow.holds Tryz.pinned (OpenSpec.ofChange fnExactMemberLineWrong)

/-- 'laws.FnExactSubgroupLine': WHATEVER THE INPUT: true; the input reads as it did. -/
def fnExactSubgroupLineSpec : ChangeSpec := { name := "fnExactSubgroupLine", fn := fun _ => fun
  | [d] => { results := [.lit (.bool true)], args := [d] }
  | _ => none }
def fnExactSubgroupLineRow : OpenClaim := { program := "ytkjhghloldgioaagreat", sum := "d2e543e62823b39f0a2266de76cc8753a2b0e7008bc3efcbb644f65bde673418", func := "loop.example/g02075/laws.FnExactSubgroupLine", spec := "fnExactSubgroupLine", unfollowed := true, recurses := true, plainKeys := false, apart := false }
def FnExactSubgroupLineSaid : Prop := fnExactSubgroupLineRow.holds Tryz.pinned (OpenSpec.ofChange fnExactSubgroupLineSpec)

/-- ITS FALSE NEIGHBOUR: 'it returns false'. Refute it at one input. -/
def fnExactSubgroupLineWrong : ChangeSpec := { name := "fnExactSubgroupLine", fn := fun _ => fun
  | [d] => { results := [.lit (.bool false)], args := [d] }
  | _ => none }
def FnExactSubgroupLineWrongFalsely : Prop := fnExactSubgroupLineRow.holds Tryz.pinned (OpenSpec.ofChange fnExactSubgroupLineWrong)

/-- 'laws.FnExactPutEntry': WHATEVER THE INPUT: true; the input reads as it did. -/
def fnExactPutEntrySpec : ChangeSpec := { name := "fnExactPutEntry", fn := fun _ => fun
  | [d1, d2, d3] => { results := [.lit (.bool true)], args := [d1, d2, d3] }
  | _ => none }
def fnExactPutEntryRow : OpenClaim := { program := "ytkjhghloldgioaagreat", sum := "d2e543e62823b39f0a2266de76cc8753a2b0e7008bc3efcbb644f65bde673418", func := "loop.example/g02075/laws.FnExactPutEntry", spec := "fnExactPutEntry", unfollowed := true, recurses := true, plainKeys := false, apart := false }
def FnExactPutEntrySaid : Prop := fnExactPutEntryRow.holds Tryz.pinned (OpenSpec.ofChange fnExactPutEntrySpec)

/-- ITS FALSE NEIGHBOUR: 'it returns false'. Refute it at one input. -/
def fnExactPutEntryWrong : ChangeSpec := { name := "fnExactPutEntry", fn := fun _ => fun
  | [d1, d2, d3] => { results := [.lit (.bool false)], args := [d1, d2, d3] }
  | _ => none }
def FnExactPutEntryWrongFalsely : Prop := fnExactPutEntryRow.holds Tryz.pinned (OpenSpec.ofChange fnExactPutEntryWrong)

/-- 'laws.FnExactCombineEntries': WHATEVER THE INPUT: true; the input reads as it did. -/
def fnExactCombineEntriesSpec : ChangeSpec := { name := "fnExactCombineEntries", fn := fun _ => fun
  | [d1, d2, d3, d4, d5] => { results := [.lit (.bool true)], args := [d1, d2, d3, d4, d5] }
  | _ => none }
def fnExactCombineEntriesRow : OpenClaim := { program := "ytkjhghloldgioaagreat", sum := "d2e543e62823b39f0a2266de76cc8753a2b0e7008bc3efcbb644f65bde673418", func := "loop.example/g02075/laws.FnExactCombineEntries", spec := "fnExactCombineEntries", unfollowed := true, recurses := true, plainKeys := false, apart := false }
def FnExactCombineEntriesSaid : Prop := fnExactCombineEntriesRow.holds Tryz.pinned (OpenSpec.ofChange fnExactCombineEntriesSpec)

/-- ITS FALSE NEIGHBOUR: 'it returns false'. Refute it at one input. -/
def fnExactCombineEntriesWrong : ChangeSpec := { name := "fnExactCombineEntries", fn := fun _ => fun
  | [d1, d2, d3, d4, d5] => { results := [.lit (.bool false)], args := [d1, d2, d3, d4, d5] }
  | _ => none }
def FnExactCombineEntriesWrongFalsely : Prop := fnExactCombineEntriesRow.holds Tryz.pinned (OpenSpec.ofChange fnExactCombineEntriesWrong)

/-- 'laws.FnExactSubgroupsOfIndex': WHATEVER THE INPUT: true; the input reads as it did. -/
def fnExactSubgroupsOfIndexSpec : ChangeSpec := { name := "fnExactSubgroupsOfIndex", fn := fun _ => fun
  | [d1, d2] => { results := [.lit (.bool true)], args := [d1, d2] }
  | _ => none }
def fnExactSubgroupsOfIndexRow : OpenClaim := { program := "ytkjhghloldgioaagreat", sum := "d2e543e62823b39f0a2266de76cc8753a2b0e7008bc3efcbb644f65bde673418", func := "loop.example/g02075/laws.FnExactSubgroupsOfIndex", spec := "fnExactSubgroupsOfIndex", unfollowed := true, recurses := true, plainKeys := false, apart := false }
def FnExactSubgroupsOfIndexSaid : Prop := fnExactSubgroupsOfIndexRow.holds Tryz.pinned (OpenSpec.ofChange fnExactSubgroupsOfIndexSpec)

/-- ITS FALSE NEIGHBOUR: 'it returns false'. Refute it at one input. -/
def fnExactSubgroupsOfIndexWrong : ChangeSpec := { name := "fnExactSubgroupsOfIndex", fn := fun _ => fun
  | [d1, d2] => { results := [.lit (.bool false)], args := [d1, d2] }
  | _ => none }
def FnExactSubgroupsOfIndexWrongFalsely : Prop := fnExactSubgroupsOfIndexRow.holds Tryz.pinned (OpenSpec.ofChange fnExactSubgroupsOfIndexWrong)

/-- 'laws.FnExactConjugacyClasses': WHATEVER THE INPUT: true; the input reads as it did. -/
def fnExactConjugacyClassesSpec : ChangeSpec := { name := "fnExactConjugacyClasses", fn := fun _ => fun
  | [d] => { results := [.lit (.bool true)], args := [d] }
  | _ => none }
def fnExactConjugacyClassesRow : OpenClaim := { program := "ytkjhghloldgioaagreat", sum := "d2e543e62823b39f0a2266de76cc8753a2b0e7008bc3efcbb644f65bde673418", func := "loop.example/g02075/laws.FnExactConjugacyClasses", spec := "fnExactConjugacyClasses", unfollowed := true, recurses := true, plainKeys := false, apart := false }
def FnExactConjugacyClassesSaid : Prop := fnExactConjugacyClassesRow.holds Tryz.pinned (OpenSpec.ofChange fnExactConjugacyClassesSpec)

/-- ITS FALSE NEIGHBOUR: 'it returns false'. Refute it at one input. -/
def fnExactConjugacyClassesWrong : ChangeSpec := { name := "fnExactConjugacyClasses", fn := fun _ => fun
  | [d] => { results := [.lit (.bool false)], args := [d] }
  | _ => none }
def FnExactConjugacyClassesWrongFalsely : Prop := fnExactConjugacyClassesRow.holds Tryz.pinned (OpenSpec.ofChange fnExactConjugacyClassesWrong)

/-- 'laws.FnExactMeetLine': WHATEVER THE INPUT: true; the input reads as it did. -/
def fnExactMeetLineSpec : ChangeSpec := { name := "fnExactMeetLine", fn := fun _ => fun
  | [d1, d2] => { results := [.lit (.bool true)], args := [d1, d2] }
  | _ => none }
def fnExactMeetLineRow : OpenClaim := { program := "ytkjhghloldgioaagreat", sum := "d2e543e62823b39f0a2266de76cc8753a2b0e7008bc3efcbb644f65bde673418", func := "loop.example/g02075/laws.FnExactMeetLine", spec := "fnExactMeetLine", unfollowed := true, recurses := true, plainKeys := false, apart := false }
def FnExactMeetLineSaid : Prop := fnExactMeetLineRow.holds Tryz.pinned (OpenSpec.ofChange fnExactMeetLineSpec)

/-- ITS FALSE NEIGHBOUR: 'it returns false'. Refute it at one input. -/
def fnExactMeetLineWrong : ChangeSpec := { name := "fnExactMeetLine", fn := fun _ => fun
  | [d1, d2] => { results := [.lit (.bool false)], args := [d1, d2] }
  | _ => none }
def FnExactMeetLineWrongFalsely : Prop := fnExactMeetLineRow.holds Tryz.pinned (OpenSpec.ofChange fnExactMeetLineWrong)

/-- 'laws.FnExactMorphismLine': WHATEVER THE INPUT: true; the input reads as it did. -/
def fnExactMorphismLineSpec : ChangeSpec := { name := "fnExactMorphismLine", fn := fun _ => fun
  | [d] => { results := [.lit (.bool true)], args := [d] }
  | _ => none }
def fnExactMorphismLineRow : OpenClaim := { program := "ytkjhghloldgioaagreat", sum := "d2e543e62823b39f0a2266de76cc8753a2b0e7008bc3efcbb644f65bde673418", func := "loop.example/g02075/laws.FnExactMorphismLine", spec := "fnExactMorphismLine", unfollowed := true, recurses := true, plainKeys := false, apart := false }
def FnExactMorphismLineSaid : Prop := fnExactMorphismLineRow.holds Tryz.pinned (OpenSpec.ofChange fnExactMorphismLineSpec)

/-- ITS FALSE NEIGHBOUR: 'it returns false'. Refute it at one input. -/
def fnExactMorphismLineWrong : ChangeSpec := { name := "fnExactMorphismLine", fn := fun _ => fun
  | [d] => { results := [.lit (.bool false)], args := [d] }
  | _ => none }
def FnExactMorphismLineWrongFalsely : Prop := fnExactMorphismLineRow.holds Tryz.pinned (OpenSpec.ofChange fnExactMorphismLineWrong)

/- THE SECOND FORM. 'bulk': how many values and letters a reading holds, each counted each time it is reached (what is shared counts as often as it is met; a slice's spare places count too). A statement '..UptoSaid' is the law's where the arguments, and the package variables that the reading takes, are together of bulk at most 1048576: NARROWER than '..Said'. Prove '..Said' where nothing that the law and all that it calls make is longer than what came in: it says more and counts as full. Else prove '..UptoSaid'. A law counts once. -/
mutual
def uptoBulk {H : Type} : DataW H → Nat
  | .lit (.string bytes) => bytes.length + 1
  | .lit _ => 1
  | .nil => 1
  | .ptr d => uptoBulk d + 1
  | .slice elems spare => uptoBulkAll elems + uptoBulkAll spare + 1
  | .agg parts => uptoBulkAll parts + 1
  | .iface _ d => uptoBulk d + 1
  | .map entries => uptoBulkEntries entries + 1
  | .held _ => 1
def uptoBulkAll {H : Type} : List (DataW H) → Nat
  | [] => 0
  | d :: r => uptoBulk d + uptoBulkAll r
def uptoBulkEntries {H : Type} : List (Lit × DataW H) → Nat
  | [] => 0
  | x :: r => uptoBulkEntry x + uptoBulkEntries r
def uptoBulkEntry {H : Type} : Lit × DataW H → Nat
  | (.string bytes, d) => bytes.length + uptoBulk d + 1
  | (_, d) => uptoBulk d + 1
 end
def uptoSmall : (H : Type) → List (DataW H) → Bool := fun _ ds => decide (uptoBulkAll ds ≤ 1048576)
def OpenSpec.upto (s : _root_.Go.ChangeSpec) : _root_.Go.OpenSpec := { _root_.Go.OpenSpec.ofChange s with cond := some uptoSmall }

/-- 'laws.FnExactIsNotebook', WHERE WHAT IT READS IS OF BULK AT MOST 1048576: true; the input reads as it did. -/
def fnExactIsNotebookUptoRow : OpenClaim := { program := "ytkjhghloldgioaagreat", sum := "d2e543e62823b39f0a2266de76cc8753a2b0e7008bc3efcbb644f65bde673418", func := "loop.example/g02075/laws.FnExactIsNotebook", spec := "fnExactIsNotebook", unfollowed := true, recurses := true, plainKeys := false, apart := false, narrowed := true }
def FnExactIsNotebookUptoSaid : Prop := fnExactIsNotebookUptoRow.holds Tryz.pinned (OpenSpec.upto fnExactIsNotebookSpec)

/-- 'laws.FnExactFalseClaims', WHERE WHAT IT READS IS OF BULK AT MOST 1048576: true; the input reads as it did. -/
def fnExactFalseClaimsUptoRow : OpenClaim := { program := "ytkjhghloldgioaagreat", sum := "d2e543e62823b39f0a2266de76cc8753a2b0e7008bc3efcbb644f65bde673418", func := "loop.example/g02075/laws.FnExactFalseClaims", spec := "fnExactFalseClaims", unfollowed := true, recurses := true, plainKeys := false, apart := false, narrowed := true }
def FnExactFalseClaimsUptoSaid : Prop := fnExactFalseClaimsUptoRow.holds Tryz.pinned (OpenSpec.upto fnExactFalseClaimsSpec)

/-- 'laws.FnExactAddClaim', WHERE WHAT IT READS IS OF BULK AT MOST 1048576: true; the input reads as it did. -/
def fnExactAddClaimUptoRow : OpenClaim := { program := "ytkjhghloldgioaagreat", sum := "d2e543e62823b39f0a2266de76cc8753a2b0e7008bc3efcbb644f65bde673418", func := "loop.example/g02075/laws.FnExactAddClaim", spec := "fnExactAddClaim", unfollowed := true, recurses := true, plainKeys := false, apart := false, narrowed := true }
def FnExactAddClaimUptoSaid : Prop := fnExactAddClaimUptoRow.holds Tryz.pinned (OpenSpec.upto fnExactAddClaimSpec)

/-- 'laws.FnExactMakeClaim', WHERE WHAT IT READS IS OF BULK AT MOST 1048576: true; the input reads as it did. -/
def fnExactMakeClaimUptoRow : OpenClaim := { program := "ytkjhghloldgioaagreat", sum := "d2e543e62823b39f0a2266de76cc8753a2b0e7008bc3efcbb644f65bde673418", func := "loop.example/g02075/laws.FnExactMakeClaim", spec := "fnExactMakeClaim", unfollowed := true, recurses := true, plainKeys := false, apart := false, narrowed := true }
def FnExactMakeClaimUptoSaid : Prop := fnExactMakeClaimUptoRow.holds Tryz.pinned (OpenSpec.upto fnExactMakeClaimSpec)

/-- 'laws.FnExactMemberLine', WHERE WHAT IT READS IS OF BULK AT MOST 1048576: true; the input reads as it did. -/
def fnExactMemberLineUptoRow : OpenClaim := { program := "ytkjhghloldgioaagreat", sum := "d2e543e62823b39f0a2266de76cc8753a2b0e7008bc3efcbb644f65bde673418", func := "loop.example/g02075/laws.FnExactMemberLine", spec := "fnExactMemberLine", unfollowed := true, recurses := true, plainKeys := false, apart := false, narrowed := true }
def FnExactMemberLineUptoSaid : Prop := fnExactMemberLineUptoRow.holds Tryz.pinned (OpenSpec.upto fnExactMemberLineSpec)

/-- 'laws.FnExactSubgroupLine', WHERE WHAT IT READS IS OF BULK AT MOST 1048576: true; the input reads as it did. -/
def fnExactSubgroupLineUptoRow : OpenClaim := { program := "ytkjhghloldgioaagreat", sum := "d2e543e62823b39f0a2266de76cc8753a2b0e7008bc3efcbb644f65bde673418", func := "loop.example/g02075/laws.FnExactSubgroupLine", spec := "fnExactSubgroupLine", unfollowed := true, recurses := true, plainKeys := false, apart := false, narrowed := true }
def FnExactSubgroupLineUptoSaid : Prop := fnExactSubgroupLineUptoRow.holds Tryz.pinned (OpenSpec.upto fnExactSubgroupLineSpec)

/-- 'laws.FnExactPutEntry', WHERE WHAT IT READS IS OF BULK AT MOST 1048576: true; the input reads as it did. -/
def fnExactPutEntryUptoRow : OpenClaim := { program := "ytkjhghloldgioaagreat", sum := "d2e543e62823b39f0a2266de76cc8753a2b0e7008bc3efcbb644f65bde673418", func := "loop.example/g02075/laws.FnExactPutEntry", spec := "fnExactPutEntry", unfollowed := true, recurses := true, plainKeys := false, apart := false, narrowed := true }
def FnExactPutEntryUptoSaid : Prop := fnExactPutEntryUptoRow.holds Tryz.pinned (OpenSpec.upto fnExactPutEntrySpec)

/-- 'laws.FnExactCombineEntries', WHERE WHAT IT READS IS OF BULK AT MOST 1048576: true; the input reads as it did. -/
def fnExactCombineEntriesUptoRow : OpenClaim := { program := "ytkjhghloldgioaagreat", sum := "d2e543e62823b39f0a2266de76cc8753a2b0e7008bc3efcbb644f65bde673418", func := "loop.example/g02075/laws.FnExactCombineEntries", spec := "fnExactCombineEntries", unfollowed := true, recurses := true, plainKeys := false, apart := false, narrowed := true }
def FnExactCombineEntriesUptoSaid : Prop := fnExactCombineEntriesUptoRow.holds Tryz.pinned (OpenSpec.upto fnExactCombineEntriesSpec)

/-- 'laws.FnExactSubgroupsOfIndex', WHERE WHAT IT READS IS OF BULK AT MOST 1048576: true; the input reads as it did. -/
def fnExactSubgroupsOfIndexUptoRow : OpenClaim := { program := "ytkjhghloldgioaagreat", sum := "d2e543e62823b39f0a2266de76cc8753a2b0e7008bc3efcbb644f65bde673418", func := "loop.example/g02075/laws.FnExactSubgroupsOfIndex", spec := "fnExactSubgroupsOfIndex", unfollowed := true, recurses := true, plainKeys := false, apart := false, narrowed := true }
def FnExactSubgroupsOfIndexUptoSaid : Prop := fnExactSubgroupsOfIndexUptoRow.holds Tryz.pinned (OpenSpec.upto fnExactSubgroupsOfIndexSpec)

/-- 'laws.FnExactConjugacyClasses', WHERE WHAT IT READS IS OF BULK AT MOST 1048576: true; the input reads as it did. -/
def fnExactConjugacyClassesUptoRow : OpenClaim := { program := "ytkjhghloldgioaagreat", sum := "d2e543e62823b39f0a2266de76cc8753a2b0e7008bc3efcbb644f65bde673418", func := "loop.example/g02075/laws.FnExactConjugacyClasses", spec := "fnExactConjugacyClasses", unfollowed := true, recurses := true, plainKeys := false, apart := false, narrowed := true }
def FnExactConjugacyClassesUptoSaid : Prop := fnExactConjugacyClassesUptoRow.holds Tryz.pinned (OpenSpec.upto fnExactConjugacyClassesSpec)

/-- 'laws.FnExactMeetLine', WHERE WHAT IT READS IS OF BULK AT MOST 1048576: true; the input reads as it did. -/
def fnExactMeetLineUptoRow : OpenClaim := { program := "ytkjhghloldgioaagreat", sum := "d2e543e62823b39f0a2266de76cc8753a2b0e7008bc3efcbb644f65bde673418", func := "loop.example/g02075/laws.FnExactMeetLine", spec := "fnExactMeetLine", unfollowed := true, recurses := true, plainKeys := false, apart := false, narrowed := true }
def FnExactMeetLineUptoSaid : Prop := fnExactMeetLineUptoRow.holds Tryz.pinned (OpenSpec.upto fnExactMeetLineSpec)

/-- 'laws.FnExactMorphismLine', WHERE WHAT IT READS IS OF BULK AT MOST 1048576: true; the input reads as it did. -/
def fnExactMorphismLineUptoRow : OpenClaim := { program := "ytkjhghloldgioaagreat", sum := "d2e543e62823b39f0a2266de76cc8753a2b0e7008bc3efcbb644f65bde673418", func := "loop.example/g02075/laws.FnExactMorphismLine", spec := "fnExactMorphismLine", unfollowed := true, recurses := true, plainKeys := false, apart := false, narrowed := true }
def FnExactMorphismLineUptoSaid : Prop := fnExactMorphismLineUptoRow.holds Tryz.pinned (OpenSpec.upto fnExactMorphismLineSpec)

end Rows
end Go.Proofs.YtkjhghloldgioaaGreat
