/-
  No cell of these rows narrows 'for every input' (looked for: loops, veiled, ifaces, maps, wideKeys, modest, calm, conditions, laid).
  DERIVED. THE GIVEN ROWS OF THIS SEAT. 6 by the template 'for every input the law returns true; each argument reads behind the call as it read before'; 0 by the template 'total and deterministic' (their statements: YtcakocbgbelmeaaGreatTotals.lean).
  GIVEN WITH THE SEED: the statements are not yours to turn. If you find one false, say at which input.
  Laid BY PROGRAM, IN A SANDBOX (cutbox-rows.mjs): the forced cells as the released guide's own fill.sh prints them over the translation 4320158d2bb59bd8… (all of the seat's roots in one cut). By AI agents, Wed Nov 11 2026. No macro, syntax, notation, axiom, sorry.
-/
import Derived.Test.YtcakocbgbelmeaaGreatChecked
import GoSem.Claim
import GoSem.ClaimJoined
import GoSem.ClaimMapViews
import Derived.JoinedTies
import Derived.KernelRfl
namespace Go.Proofs.YtcakocbgbelmeaaGreat
/- THE CELL 'sum', in the pinned program and in every row, IS THE sha256 OF THE DUMP (.gsa) THAT YtcakocbgbelmeaaGreatProg.lean LOADS. Nothing in Lean hashes anything: it is a label: what it is worth is what the hold of that sum in a sandbox is worth. -/
noncomputable def Tryz.pinned : Pinned := { name := "ytcakocbgbelmeaagreat", sum := "4320158d2bb59bd8d577d1640bb26371f18a48c770f5b1087e60fda35ce23cd2", checked := Tryz.checked }
namespace Rows
def none {H : Type} : Left H := { results := [], args := [] }

/-- 'laws.FnExactGroupLine': WHATEVER THE INPUT: true; the input reads as it did. -/
def fnExactGroupLineSpec : ChangeSpec := { name := "fnExactGroupLine", fn := fun _ => fun
  | [d] => { results := [.lit (.bool true)], args := [d] }
  | _ => none }
def fnExactGroupLineRow : OpenClaim := { program := "ytcakocbgbelmeaagreat", sum := "4320158d2bb59bd8d577d1640bb26371f18a48c770f5b1087e60fda35ce23cd2", func := "loop.example/g02075/laws.FnExactGroupLine", spec := "fnExactGroupLine", unfollowed := true, recurses := true, apart := false }
def FnExactGroupLineSaid : Prop := fnExactGroupLineRow.holds Tryz.pinned (OpenSpec.ofChange fnExactGroupLineSpec)

/-- ITS FALSE NEIGHBOUR: 'it returns false'. Refute it at one input. -/
def fnExactGroupLineWrong : ChangeSpec := { name := "fnExactGroupLine", fn := fun _ => fun
  | [d] => { results := [.lit (.bool false)], args := [d] }
  | _ => none }
def FnExactGroupLineWrongFalsely : Prop := fnExactGroupLineRow.holds Tryz.pinned (OpenSpec.ofChange fnExactGroupLineWrong)

/-- 'laws.FnExactCheckClaim': WHATEVER THE INPUT: true; the input reads as it did. -/
def fnExactCheckClaimSpec : ChangeSpec := { name := "fnExactCheckClaim", fn := fun _ => fun
  | [d] => { results := [.lit (.bool true)], args := [d] }
  | _ => none }
def fnExactCheckClaimRow : OpenClaim := { program := "ytcakocbgbelmeaagreat", sum := "4320158d2bb59bd8d577d1640bb26371f18a48c770f5b1087e60fda35ce23cd2", func := "loop.example/g02075/laws.FnExactCheckClaim", spec := "fnExactCheckClaim", unfollowed := true, recurses := true, apart := false }
def FnExactCheckClaimSaid : Prop := fnExactCheckClaimRow.holds Tryz.pinned (OpenSpec.ofChange fnExactCheckClaimSpec)

/-- ITS FALSE NEIGHBOUR: 'it returns false'. Refute it at one input. -/
def fnExactCheckClaimWrong : ChangeSpec := { name := "fnExactCheckClaim", fn := fun _ => fun
  | [d] => { results := [.lit (.bool false)], args := [d] }
  | _ => none }
def FnExactCheckClaimWrongFalsely : Prop := fnExactCheckClaimRow.holds Tryz.pinned (OpenSpec.ofChange fnExactCheckClaimWrong)

/-- 'laws.FnExactIsNotebook': WHATEVER THE INPUT: true; the input reads as it did. -/
def fnExactIsNotebookSpec : ChangeSpec := { name := "fnExactIsNotebook", fn := fun _ => fun
  | [d] => { results := [.lit (.bool true)], args := [d] }
  | _ => none }
def fnExactIsNotebookRow : OpenClaim := { program := "ytcakocbgbelmeaagreat", sum := "4320158d2bb59bd8d577d1640bb26371f18a48c770f5b1087e60fda35ce23cd2", func := "loop.example/g02075/laws.FnExactIsNotebook", spec := "fnExactIsNotebook", unfollowed := true, recurses := true, apart := false }
def FnExactIsNotebookSaid : Prop := fnExactIsNotebookRow.holds Tryz.pinned (OpenSpec.ofChange fnExactIsNotebookSpec)

/-- ITS FALSE NEIGHBOUR: 'it returns false'. Refute it at one input. -/
def fnExactIsNotebookWrong : ChangeSpec := { name := "fnExactIsNotebook", fn := fun _ => fun
  | [d] => { results := [.lit (.bool false)], args := [d] }
  | _ => none }
def FnExactIsNotebookWrongFalsely : Prop := fnExactIsNotebookRow.holds Tryz.pinned (OpenSpec.ofChange fnExactIsNotebookWrong)

/-- 'laws.FnExactMakeClaim': WHATEVER THE INPUT: true; the input reads as it did. -/
def fnExactMakeClaimSpec : ChangeSpec := { name := "fnExactMakeClaim", fn := fun _ => fun
  | [d1, d2, d3, d4] => { results := [.lit (.bool true)], args := [d1, d2, d3, d4] }
  | _ => none }
def fnExactMakeClaimRow : OpenClaim := { program := "ytcakocbgbelmeaagreat", sum := "4320158d2bb59bd8d577d1640bb26371f18a48c770f5b1087e60fda35ce23cd2", func := "loop.example/g02075/laws.FnExactMakeClaim", spec := "fnExactMakeClaim", unfollowed := true, recurses := true, apart := false }
def FnExactMakeClaimSaid : Prop := fnExactMakeClaimRow.holds Tryz.pinned (OpenSpec.ofChange fnExactMakeClaimSpec)

/-- ITS FALSE NEIGHBOUR: 'it returns false'. Refute it at one input. -/
def fnExactMakeClaimWrong : ChangeSpec := { name := "fnExactMakeClaim", fn := fun _ => fun
  | [d1, d2, d3, d4] => { results := [.lit (.bool false)], args := [d1, d2, d3, d4] }
  | _ => none }
def FnExactMakeClaimWrongFalsely : Prop := fnExactMakeClaimRow.holds Tryz.pinned (OpenSpec.ofChange fnExactMakeClaimWrong)

/-- 'laws.FnExactFalseClaims': WHATEVER THE INPUT: true; the input reads as it did. -/
def fnExactFalseClaimsSpec : ChangeSpec := { name := "fnExactFalseClaims", fn := fun _ => fun
  | [d] => { results := [.lit (.bool true)], args := [d] }
  | _ => none }
def fnExactFalseClaimsRow : OpenClaim := { program := "ytcakocbgbelmeaagreat", sum := "4320158d2bb59bd8d577d1640bb26371f18a48c770f5b1087e60fda35ce23cd2", func := "loop.example/g02075/laws.FnExactFalseClaims", spec := "fnExactFalseClaims", unfollowed := true, recurses := true, apart := false }
def FnExactFalseClaimsSaid : Prop := fnExactFalseClaimsRow.holds Tryz.pinned (OpenSpec.ofChange fnExactFalseClaimsSpec)

/-- ITS FALSE NEIGHBOUR: 'it returns false'. Refute it at one input. -/
def fnExactFalseClaimsWrong : ChangeSpec := { name := "fnExactFalseClaims", fn := fun _ => fun
  | [d] => { results := [.lit (.bool false)], args := [d] }
  | _ => none }
def FnExactFalseClaimsWrongFalsely : Prop := fnExactFalseClaimsRow.holds Tryz.pinned (OpenSpec.ofChange fnExactFalseClaimsWrong)

/-- 'laws.FnExactAddClaim': WHATEVER THE INPUT: true; the input reads as it did. -/
def fnExactAddClaimSpec : ChangeSpec := { name := "fnExactAddClaim", fn := fun _ => fun
  | [d1, d2] => { results := [.lit (.bool true)], args := [d1, d2] }
  | _ => none }
def fnExactAddClaimRow : OpenClaim := { program := "ytcakocbgbelmeaagreat", sum := "4320158d2bb59bd8d577d1640bb26371f18a48c770f5b1087e60fda35ce23cd2", func := "loop.example/g02075/laws.FnExactAddClaim", spec := "fnExactAddClaim", unfollowed := true, recurses := true, apart := false }
def FnExactAddClaimSaid : Prop := fnExactAddClaimRow.holds Tryz.pinned (OpenSpec.ofChange fnExactAddClaimSpec)

/-- ITS FALSE NEIGHBOUR: 'it returns false'. Refute it at one input. -/
def fnExactAddClaimWrong : ChangeSpec := { name := "fnExactAddClaim", fn := fun _ => fun
  | [d1, d2] => { results := [.lit (.bool false)], args := [d1, d2] }
  | _ => none }
def FnExactAddClaimWrongFalsely : Prop := fnExactAddClaimRow.holds Tryz.pinned (OpenSpec.ofChange fnExactAddClaimWrong)

/- THE SECOND FORM. 'bulk': how many values and letters a reading holds, each counted each time it is reached (what is shared counts as often as it is met; a slice's spare places count too). A statement '..UptoSaid' is the law's where the arguments, and the package variables that the reading takes, are together of bulk at most 1048576: NARROWER than '..Said'. Prove '..Said' where nothing that the law and all that it calls make is longer than what came in: it says more and counts as full. Else prove '..UptoSaid'. A law counts once. -/
mutual
def uptoBulk {H : Type} : DataW H → Nat
  | .lit (.string bytes) => bytes.length + 1
  | .lit _ => 1
  | .nil => 1
  | .ptr d => uptoBulk d + 1
  | .slice elems spare => uptoBulkAll elems + uptoBulkAll spare + 1
  | .agg parts => uptoBulkAll parts + 1
  | .iface _ d => uptoBulk d + 1
  | .map entries => uptoBulkEntries entries + 1
  | .held _ => 1
def uptoBulkAll {H : Type} : List (DataW H) → Nat
  | [] => 0
  | d :: r => uptoBulk d + uptoBulkAll r
def uptoBulkEntries {H : Type} : List (Lit × DataW H) → Nat
  | [] => 0
  | x :: r => uptoBulkEntry x + uptoBulkEntries r
def uptoBulkEntry {H : Type} : Lit × DataW H → Nat
  | (.string bytes, d) => bytes.length + uptoBulk d + 1
  | (_, d) => uptoBulk d + 1
 end
def uptoSmall : (H : Type) → List (DataW H) → Bool := fun _ ds => decide (uptoBulkAll ds ≤ 1048576)
def OpenSpec.upto (s : _root_.Go.ChangeSpec) : _root_.Go.OpenSpec := { _root_.Go.OpenSpec.ofChange s with cond := some uptoSmall }

/-- 'laws.FnExactGroupLine', WHERE WHAT IT READS IS OF BULK AT MOST 1048576: true; the input reads as it did. -/
def fnExactGroupLineUptoRow : OpenClaim := { program := "ytcakocbgbelmeaagreat", sum := "4320158d2bb59bd8d577d1640bb26371f18a48c770f5b1087e60fda35ce23cd2", func := "loop.example/g02075/laws.FnExactGroupLine", spec := "fnExactGroupLine", unfollowed := true, recurses := true, apart := false, narrowed := true }
def FnExactGroupLineUptoSaid : Prop := fnExactGroupLineUptoRow.holds Tryz.pinned (OpenSpec.upto fnExactGroupLineSpec)

/-- 'laws.FnExactCheckClaim', WHERE WHAT IT READS IS OF BULK AT MOST 1048576: true; the input reads as it did. -/
def fnExactCheckClaimUptoRow : OpenClaim := { program := "ytcakocbgbelmeaagreat", sum := "4320158d2bb59bd8d577d1640bb26371f18a48c770f5b1087e60fda35ce23cd2", func := "loop.example/g02075/laws.FnExactCheckClaim", spec := "fnExactCheckClaim", unfollowed := true, recurses := true, apart := false, narrowed := true }
def FnExactCheckClaimUptoSaid : Prop := fnExactCheckClaimUptoRow.holds Tryz.pinned (OpenSpec.upto fnExactCheckClaimSpec)

/-- 'laws.FnExactIsNotebook', WHERE WHAT IT READS IS OF BULK AT MOST 1048576: true; the input reads as it did. -/
def fnExactIsNotebookUptoRow : OpenClaim := { program := "ytcakocbgbelmeaagreat", sum := "4320158d2bb59bd8d577d1640bb26371f18a48c770f5b1087e60fda35ce23cd2", func := "loop.example/g02075/laws.FnExactIsNotebook", spec := "fnExactIsNotebook", unfollowed := true, recurses := true, apart := false, narrowed := true }
def FnExactIsNotebookUptoSaid : Prop := fnExactIsNotebookUptoRow.holds Tryz.pinned (OpenSpec.upto fnExactIsNotebookSpec)

/-- 'laws.FnExactMakeClaim', WHERE WHAT IT READS IS OF BULK AT MOST 1048576: true; the input reads as it did. -/
def fnExactMakeClaimUptoRow : OpenClaim := { program := "ytcakocbgbelmeaagreat", sum := "4320158d2bb59bd8d577d1640bb26371f18a48c770f5b1087e60fda35ce23cd2", func := "loop.example/g02075/laws.FnExactMakeClaim", spec := "fnExactMakeClaim", unfollowed := true, recurses := true, apart := false, narrowed := true }
def FnExactMakeClaimUptoSaid : Prop := fnExactMakeClaimUptoRow.holds Tryz.pinned (OpenSpec.upto fnExactMakeClaimSpec)

/-- 'laws.FnExactFalseClaims', WHERE WHAT IT READS IS OF BULK AT MOST 1048576: true; the input reads as it did. -/
def fnExactFalseClaimsUptoRow : OpenClaim := { program := "ytcakocbgbelmeaagreat", sum := "4320158d2bb59bd8d577d1640bb26371f18a48c770f5b1087e60fda35ce23cd2", func := "loop.example/g02075/laws.FnExactFalseClaims", spec := "fnExactFalseClaims", unfollowed := true, recurses := true, apart := false, narrowed := true }
def FnExactFalseClaimsUptoSaid : Prop := fnExactFalseClaimsUptoRow.holds Tryz.pinned (OpenSpec.upto fnExactFalseClaimsSpec)

/-- 'laws.FnExactAddClaim', WHERE WHAT IT READS IS OF BULK AT MOST 1048576: true; the input reads as it did. -/
def fnExactAddClaimUptoRow : OpenClaim := { program := "ytcakocbgbelmeaagreat", sum := "4320158d2bb59bd8d577d1640bb26371f18a48c770f5b1087e60fda35ce23cd2", func := "loop.example/g02075/laws.FnExactAddClaim", spec := "fnExactAddClaim", unfollowed := true, recurses := true, apart := false, narrowed := true }
def FnExactAddClaimUptoSaid : Prop := fnExactAddClaimUptoRow.holds Tryz.pinned (OpenSpec.upto fnExactAddClaimSpec)

end Rows
end Go.Proofs.YtcakocbgbelmeaaGreat
