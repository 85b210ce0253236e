/-
  No cell of these rows narrows 'for every input' (looked for: loops, veiled, ifaces, maps, wideKeys, modest, calm, conditions, laid).
  DERIVED. THE GIVEN ROWS OF THIS SEAT. 7 by the template 'for every input the law returns true; each argument reads behind the call as it read before'; 0 by the template 'total and deterministic' (their statements: YthccjgkmmclplaaTotals.lean).
  GIVEN WITH THE SEED: the statements are not yours to turn. If you find one false, say at which input.
  Laid BY PROGRAM, IN A SANDBOX (cutbox-rows.mjs): the forced cells as the released guide's own fill.sh prints them over the translation e0a962634796997c… (all of the seat's roots in one cut). By AI agents, Wed Nov 11 2026. No macro, syntax, notation, axiom, sorry.
-/
import Derived.Test.YthccjgkmmclplaaChecked
import GoSem.Claim
import GoSem.ClaimJoined
import GoSem.ClaimMapViews
import Derived.JoinedTies
import Derived.KernelRfl
namespace Go.Proofs.Ythccjgkmmclplaa
/- THE CELL 'sum', in the pinned program and in every row, IS THE sha256 OF THE DUMP (.gsa) THAT YthccjgkmmclplaaProg.lean LOADS. Nothing in Lean hashes anything: it is a label: what it is worth is what the hold of that sum in a sandbox is worth. -/
noncomputable def Try.pinned : Pinned := { name := "ythccjgkmmclplaa", sum := "e0a962634796997cf259ad7f37b0f6d990d9ddcdf80a37158087bbea94c7f196", checked := Try.checked }
namespace Rows
def none {H : Type} : Left H := { results := [], args := [] }

/-- 'laws.FnExactLongestPiece': WHATEVER THE INPUT: true; the input reads as it did. -/
def fnExactLongestPieceSpec : ChangeSpec := { name := "fnExactLongestPiece", fn := fun _ => fun
  | [d] => { results := [.lit (.bool true)], args := [d] }
  | _ => none }
def fnExactLongestPieceRow : OpenClaim := { program := "ythccjgkmmclplaa", sum := "e0a962634796997cf259ad7f37b0f6d990d9ddcdf80a37158087bbea94c7f196", func := "loop.example/g02075/laws.FnExactLongestPiece", spec := "fnExactLongestPiece", unfollowed := true, recurses := true, apart := false }
def FnExactLongestPieceSaid : Prop := fnExactLongestPieceRow.holds Try.pinned (OpenSpec.ofChange fnExactLongestPieceSpec)

/-- ITS FALSE NEIGHBOUR: 'it returns false'. Refute it at one input. -/
def fnExactLongestPieceWrong : ChangeSpec := { name := "fnExactLongestPiece", fn := fun _ => fun
  | [d] => { results := [.lit (.bool false)], args := [d] }
  | _ => none }
def FnExactLongestPieceWrongFalsely : Prop := fnExactLongestPieceRow.holds Try.pinned (OpenSpec.ofChange fnExactLongestPieceWrong)

/-- 'laws.FnExactSymmetrizedSet': WHATEVER THE INPUT: true; the input reads as it did. -/
def fnExactSymmetrizedSetSpec : ChangeSpec := { name := "fnExactSymmetrizedSet", fn := fun _ => fun
  | [d] => { results := [.lit (.bool true)], args := [d] }
  | _ => none }
def fnExactSymmetrizedSetRow : OpenClaim := { program := "ythccjgkmmclplaa", sum := "e0a962634796997cf259ad7f37b0f6d990d9ddcdf80a37158087bbea94c7f196", func := "loop.example/g02075/laws.FnExactSymmetrizedSet", spec := "fnExactSymmetrizedSet", unfollowed := true, recurses := true, apart := false }
def FnExactSymmetrizedSetSaid : Prop := fnExactSymmetrizedSetRow.holds Try.pinned (OpenSpec.ofChange fnExactSymmetrizedSetSpec)

/-- ITS FALSE NEIGHBOUR: 'it returns false'. Refute it at one input. -/
def fnExactSymmetrizedSetWrong : ChangeSpec := { name := "fnExactSymmetrizedSet", fn := fun _ => fun
  | [d] => { results := [.lit (.bool false)], args := [d] }
  | _ => none }
def FnExactSymmetrizedSetWrongFalsely : Prop := fnExactSymmetrizedSetRow.holds Try.pinned (OpenSpec.ofChange fnExactSymmetrizedSetWrong)

/-- 'laws.FnExactIsSixth': WHATEVER THE INPUT: true; the input reads as it did. -/
def fnExactIsSixthSpec : ChangeSpec := { name := "fnExactIsSixth", fn := fun _ => fun
  | [d] => { results := [.lit (.bool true)], args := [d] }
  | _ => none }
def fnExactIsSixthRow : OpenClaim := { program := "ythccjgkmmclplaa", sum := "e0a962634796997cf259ad7f37b0f6d990d9ddcdf80a37158087bbea94c7f196", func := "loop.example/g02075/laws.FnExactIsSixth", spec := "fnExactIsSixth", unfollowed := true, recurses := true, apart := false }
def FnExactIsSixthSaid : Prop := fnExactIsSixthRow.holds Try.pinned (OpenSpec.ofChange fnExactIsSixthSpec)

/-- ITS FALSE NEIGHBOUR: 'it returns false'. Refute it at one input. -/
def fnExactIsSixthWrong : ChangeSpec := { name := "fnExactIsSixth", fn := fun _ => fun
  | [d] => { results := [.lit (.bool false)], args := [d] }
  | _ => none }
def FnExactIsSixthWrongFalsely : Prop := fnExactIsSixthRow.holds Try.pinned (OpenSpec.ofChange fnExactIsSixthWrong)

/-- 'laws.FnExactWordLine': WHATEVER THE INPUT: true; the input reads as it did. -/
def fnExactWordLineSpec : ChangeSpec := { name := "fnExactWordLine", fn := fun _ => fun
  | [d1, d2] => { results := [.lit (.bool true)], args := [d1, d2] }
  | _ => none }
def fnExactWordLineRow : OpenClaim := { program := "ythccjgkmmclplaa", sum := "e0a962634796997cf259ad7f37b0f6d990d9ddcdf80a37158087bbea94c7f196", func := "loop.example/g02075/laws.FnExactWordLine", spec := "fnExactWordLine", apart := false }
def FnExactWordLineSaid : Prop := fnExactWordLineRow.holds Try.pinned (OpenSpec.ofChange fnExactWordLineSpec)

/-- ITS FALSE NEIGHBOUR: 'it returns false'. Refute it at one input. -/
def fnExactWordLineWrong : ChangeSpec := { name := "fnExactWordLine", fn := fun _ => fun
  | [d1, d2] => { results := [.lit (.bool false)], args := [d1, d2] }
  | _ => none }
def FnExactWordLineWrongFalsely : Prop := fnExactWordLineRow.holds Try.pinned (OpenSpec.ofChange fnExactWordLineWrong)

/-- 'laws.FnExactDehnStep': WHATEVER THE INPUT: true; the input reads as it did. -/
def fnExactDehnStepSpec : ChangeSpec := { name := "fnExactDehnStep", fn := fun _ => fun
  | [d1, d2] => { results := [.lit (.bool true)], args := [d1, d2] }
  | _ => none }
def fnExactDehnStepRow : OpenClaim := { program := "ythccjgkmmclplaa", sum := "e0a962634796997cf259ad7f37b0f6d990d9ddcdf80a37158087bbea94c7f196", func := "loop.example/g02075/laws.FnExactDehnStep", spec := "fnExactDehnStep", unfollowed := true, recurses := true, apart := false }
def FnExactDehnStepSaid : Prop := fnExactDehnStepRow.holds Try.pinned (OpenSpec.ofChange fnExactDehnStepSpec)

/-- ITS FALSE NEIGHBOUR: 'it returns false'. Refute it at one input. -/
def fnExactDehnStepWrong : ChangeSpec := { name := "fnExactDehnStep", fn := fun _ => fun
  | [d1, d2] => { results := [.lit (.bool false)], args := [d1, d2] }
  | _ => none }
def FnExactDehnStepWrongFalsely : Prop := fnExactDehnStepRow.holds Try.pinned (OpenSpec.ofChange fnExactDehnStepWrong)

/-- 'laws.FnExactDehnReduce': WHATEVER THE INPUT: true; the input reads as it did. -/
def fnExactDehnReduceSpec : ChangeSpec := { name := "fnExactDehnReduce", fn := fun _ => fun
  | [d1, d2] => { results := [.lit (.bool true)], args := [d1, d2] }
  | _ => none }
def fnExactDehnReduceRow : OpenClaim := { program := "ythccjgkmmclplaa", sum := "e0a962634796997cf259ad7f37b0f6d990d9ddcdf80a37158087bbea94c7f196", func := "loop.example/g02075/laws.FnExactDehnReduce", spec := "fnExactDehnReduce", unfollowed := true, recurses := true, apart := false }
def FnExactDehnReduceSaid : Prop := fnExactDehnReduceRow.holds Try.pinned (OpenSpec.ofChange fnExactDehnReduceSpec)

/-- ITS FALSE NEIGHBOUR: 'it returns false'. Refute it at one input. -/
def fnExactDehnReduceWrong : ChangeSpec := { name := "fnExactDehnReduce", fn := fun _ => fun
  | [d1, d2] => { results := [.lit (.bool false)], args := [d1, d2] }
  | _ => none }
def FnExactDehnReduceWrongFalsely : Prop := fnExactDehnReduceRow.holds Try.pinned (OpenSpec.ofChange fnExactDehnReduceWrong)

/-- 'laws.FnExactFirstDefect': WHATEVER THE INPUT: true; the input reads as it did. -/
def fnExactFirstDefectSpec : ChangeSpec := { name := "fnExactFirstDefect", fn := fun _ => fun
  | [d1, d2] => { results := [.lit (.bool true)], args := [d1, d2] }
  | _ => none }
def fnExactFirstDefectRow : OpenClaim := { program := "ythccjgkmmclplaa", sum := "e0a962634796997cf259ad7f37b0f6d990d9ddcdf80a37158087bbea94c7f196", func := "loop.example/g02075/laws.FnExactFirstDefect", spec := "fnExactFirstDefect", recurses := true, apart := false }
def FnExactFirstDefectSaid : Prop := fnExactFirstDefectRow.holds Try.pinned (OpenSpec.ofChange fnExactFirstDefectSpec)

/-- ITS FALSE NEIGHBOUR: 'it returns false'. Refute it at one input. -/
def fnExactFirstDefectWrong : ChangeSpec := { name := "fnExactFirstDefect", fn := fun _ => fun
  | [d1, d2] => { results := [.lit (.bool false)], args := [d1, d2] }
  | _ => none }
def FnExactFirstDefectWrongFalsely : Prop := fnExactFirstDefectRow.holds Try.pinned (OpenSpec.ofChange fnExactFirstDefectWrong)

/- THE SECOND FORM. 'bulk': how many values and letters a reading holds, each counted each time it is reached (what is shared counts as often as it is met; a slice's spare places count too). A statement '..UptoSaid' is the law's where the arguments, and the package variables that the reading takes, are together of bulk at most 1048576: NARROWER than '..Said'. Prove '..Said' where nothing that the law and all that it calls make is longer than what came in: it says more and counts as full. Else prove '..UptoSaid'. A law counts once. -/
mutual
def uptoBulk {H : Type} : DataW H → Nat
  | .lit (.string bytes) => bytes.length + 1
  | .lit _ => 1
  | .nil => 1
  | .ptr d => uptoBulk d + 1
  | .slice elems spare => uptoBulkAll elems + uptoBulkAll spare + 1
  | .agg parts => uptoBulkAll parts + 1
  | .iface _ d => uptoBulk d + 1
  | .map entries => uptoBulkEntries entries + 1
  | .held _ => 1
def uptoBulkAll {H : Type} : List (DataW H) → Nat
  | [] => 0
  | d :: r => uptoBulk d + uptoBulkAll r
def uptoBulkEntries {H : Type} : List (Lit × DataW H) → Nat
  | [] => 0
  | x :: r => uptoBulkEntry x + uptoBulkEntries r
def uptoBulkEntry {H : Type} : Lit × DataW H → Nat
  | (.string bytes, d) => bytes.length + uptoBulk d + 1
  | (_, d) => uptoBulk d + 1
 end
def uptoSmall : (H : Type) → List (DataW H) → Bool := fun _ ds => decide (uptoBulkAll ds ≤ 1048576)
def OpenSpec.upto (s : _root_.Go.ChangeSpec) : _root_.Go.OpenSpec := { _root_.Go.OpenSpec.ofChange s with cond := some uptoSmall }

/-- 'laws.FnExactLongestPiece', WHERE WHAT IT READS IS OF BULK AT MOST 1048576: true; the input reads as it did. -/
def fnExactLongestPieceUptoRow : OpenClaim := { program := "ythccjgkmmclplaa", sum := "e0a962634796997cf259ad7f37b0f6d990d9ddcdf80a37158087bbea94c7f196", func := "loop.example/g02075/laws.FnExactLongestPiece", spec := "fnExactLongestPiece", unfollowed := true, recurses := true, apart := false, narrowed := true }
def FnExactLongestPieceUptoSaid : Prop := fnExactLongestPieceUptoRow.holds Try.pinned (OpenSpec.upto fnExactLongestPieceSpec)

/-- 'laws.FnExactSymmetrizedSet', WHERE WHAT IT READS IS OF BULK AT MOST 1048576: true; the input reads as it did. -/
def fnExactSymmetrizedSetUptoRow : OpenClaim := { program := "ythccjgkmmclplaa", sum := "e0a962634796997cf259ad7f37b0f6d990d9ddcdf80a37158087bbea94c7f196", func := "loop.example/g02075/laws.FnExactSymmetrizedSet", spec := "fnExactSymmetrizedSet", unfollowed := true, recurses := true, apart := false, narrowed := true }
def FnExactSymmetrizedSetUptoSaid : Prop := fnExactSymmetrizedSetUptoRow.holds Try.pinned (OpenSpec.upto fnExactSymmetrizedSetSpec)

/-- 'laws.FnExactIsSixth', WHERE WHAT IT READS IS OF BULK AT MOST 1048576: true; the input reads as it did. -/
def fnExactIsSixthUptoRow : OpenClaim := { program := "ythccjgkmmclplaa", sum := "e0a962634796997cf259ad7f37b0f6d990d9ddcdf80a37158087bbea94c7f196", func := "loop.example/g02075/laws.FnExactIsSixth", spec := "fnExactIsSixth", unfollowed := true, recurses := true, apart := false, narrowed := true }
def FnExactIsSixthUptoSaid : Prop := fnExactIsSixthUptoRow.holds Try.pinned (OpenSpec.upto fnExactIsSixthSpec)

/-- 'laws.FnExactWordLine', WHERE WHAT IT READS IS OF BULK AT MOST 1048576: true; the input reads as it did. -/
def fnExactWordLineUptoRow : OpenClaim := { program := "ythccjgkmmclplaa", sum := "e0a962634796997cf259ad7f37b0f6d990d9ddcdf80a37158087bbea94c7f196", func := "loop.example/g02075/laws.FnExactWordLine", spec := "fnExactWordLine", apart := false, narrowed := true }
def FnExactWordLineUptoSaid : Prop := fnExactWordLineUptoRow.holds Try.pinned (OpenSpec.upto fnExactWordLineSpec)

/-- 'laws.FnExactDehnStep', WHERE WHAT IT READS IS OF BULK AT MOST 1048576: true; the input reads as it did. -/
def fnExactDehnStepUptoRow : OpenClaim := { program := "ythccjgkmmclplaa", sum := "e0a962634796997cf259ad7f37b0f6d990d9ddcdf80a37158087bbea94c7f196", func := "loop.example/g02075/laws.FnExactDehnStep", spec := "fnExactDehnStep", unfollowed := true, recurses := true, apart := false, narrowed := true }
def FnExactDehnStepUptoSaid : Prop := fnExactDehnStepUptoRow.holds Try.pinned (OpenSpec.upto fnExactDehnStepSpec)

/-- 'laws.FnExactDehnReduce', WHERE WHAT IT READS IS OF BULK AT MOST 1048576: true; the input reads as it did. -/
def fnExactDehnReduceUptoRow : OpenClaim := { program := "ythccjgkmmclplaa", sum := "e0a962634796997cf259ad7f37b0f6d990d9ddcdf80a37158087bbea94c7f196", func := "loop.example/g02075/laws.FnExactDehnReduce", spec := "fnExactDehnReduce", unfollowed := true, recurses := true, apart := false, narrowed := true }
def FnExactDehnReduceUptoSaid : Prop := fnExactDehnReduceUptoRow.holds Try.pinned (OpenSpec.upto fnExactDehnReduceSpec)

/-- 'laws.FnExactFirstDefect', WHERE WHAT IT READS IS OF BULK AT MOST 1048576: true; the input reads as it did. -/
def fnExactFirstDefectUptoRow : OpenClaim := { program := "ythccjgkmmclplaa", sum := "e0a962634796997cf259ad7f37b0f6d990d9ddcdf80a37158087bbea94c7f196", func := "loop.example/g02075/laws.FnExactFirstDefect", spec := "fnExactFirstDefect", recurses := true, apart := false, narrowed := true }
def FnExactFirstDefectUptoSaid : Prop := fnExactFirstDefectUptoRow.holds Try.pinned (OpenSpec.upto fnExactFirstDefectSpec)

end Rows
end Go.Proofs.Ythccjgkmmclplaa
