/-
  No cell of these rows narrows 'for every input' (looked for: loops, veiled, ifaces, maps, wideKeys, modest, calm, conditions, laid).
  DERIVED. THE GIVEN ROWS OF THIS SEAT. 2 by the template 'for every input the law returns true; each argument reads behind the call as it read before'; 0 by the template 'total and deterministic' (their statements: YthkpbcnhdhfifaaGreatTotals.lean).
  GIVEN WITH THE SEED: the statements are not yours to turn. If you find one false, say at which input.
  Laid BY PROGRAM, IN A SANDBOX (cutbox-rows.mjs): the forced cells as the released guide's own fill.sh prints them over the translation f7e703e06e1e96a3… (all of the seat's roots in one cut). By AI agents, Wed Nov 11 2026. No macro, syntax, notation, axiom, sorry.
-/
import Derived.Test.YthkpbcnhdhfifaaGreatChecked
import GoSem.Claim
import GoSem.ClaimJoined
import GoSem.ClaimMapViews
import Derived.JoinedTies
import Derived.KernelRfl
namespace Go.Proofs.YthkpbcnhdhfifaaGreat
/- THE CELL 'sum', in the pinned program and in every row, IS THE sha256 OF THE DUMP (.gsa) THAT YthkpbcnhdhfifaaGreatProg.lean LOADS. Nothing in Lean hashes anything: it is a label: what it is worth is what the hold of that sum in a sandbox is worth. -/
noncomputable def Tryz.pinned : Pinned := { name := "ythkpbcnhdhfifaagreat", sum := "f7e703e06e1e96a3e785606f4147ba94e0b7b4537e4ba9a7a2b25f8a5ed64a68", checked := Tryz.checked }
namespace Rows
def none {H : Type} : Left H := { results := [], args := [] }

/-- 'laws.FnClaims': WHATEVER THE INPUT: true; the input reads as it did. -/
def fnClaimsSpec : ChangeSpec := { name := "fnClaims", fn := fun _ => fun
  | [d] => { results := [.lit (.bool true)], args := [d] }
  | _ => none }
def fnClaimsRow : OpenClaim := { program := "ythkpbcnhdhfifaagreat", sum := "f7e703e06e1e96a3e785606f4147ba94e0b7b4537e4ba9a7a2b25f8a5ed64a68", func := "loop.example/g02075/laws.FnClaims", spec := "fnClaims", unfollowed := true, recurses := true, apart := false }
def FnClaimsSaid : Prop := fnClaimsRow.holds Tryz.pinned (OpenSpec.ofChange fnClaimsSpec)

/-- ITS FALSE NEIGHBOUR: 'it returns false'. Refute it at one input. -/
def fnClaimsWrong : ChangeSpec := { name := "fnClaims", fn := fun _ => fun
  | [d] => { results := [.lit (.bool false)], args := [d] }
  | _ => none }
def FnClaimsWrongFalsely : Prop := fnClaimsRow.holds Tryz.pinned (OpenSpec.ofChange fnClaimsWrong)

/-- 'laws.FnNotebooks': WHATEVER THE INPUT: true; the input reads as it did. -/
def fnNotebooksSpec : ChangeSpec := { name := "fnNotebooks", fn := fun _ => fun
  | [d] => { results := [.lit (.bool true)], args := [d] }
  | _ => none }
def fnNotebooksRow : OpenClaim := { program := "ythkpbcnhdhfifaagreat", sum := "f7e703e06e1e96a3e785606f4147ba94e0b7b4537e4ba9a7a2b25f8a5ed64a68", func := "loop.example/g02075/laws.FnNotebooks", spec := "fnNotebooks", unfollowed := true, recurses := true, apart := false }
def FnNotebooksSaid : Prop := fnNotebooksRow.holds Tryz.pinned (OpenSpec.ofChange fnNotebooksSpec)

/-- ITS FALSE NEIGHBOUR: 'it returns false'. Refute it at one input. -/
def fnNotebooksWrong : ChangeSpec := { name := "fnNotebooks", fn := fun _ => fun
  | [d] => { results := [.lit (.bool false)], args := [d] }
  | _ => none }
def FnNotebooksWrongFalsely : Prop := fnNotebooksRow.holds Tryz.pinned (OpenSpec.ofChange fnNotebooksWrong)

/- THE SECOND FORM. 'bulk': how many values and letters a reading holds, each counted each time it is reached (what is shared counts as often as it is met; a slice's spare places count too). A statement '..UptoSaid' is the law's where the arguments, and the package variables that the reading takes, are together of bulk at most 1048576: NARROWER than '..Said'. Prove '..Said' where nothing that the law and all that it calls make is longer than what came in: it says more and counts as full. Else prove '..UptoSaid'. A law counts once. -/
mutual
def uptoBulk {H : Type} : DataW H → Nat
  | .lit (.string bytes) => bytes.length + 1
  | .lit _ => 1
  | .nil => 1
  | .ptr d => uptoBulk d + 1
  | .slice elems spare => uptoBulkAll elems + uptoBulkAll spare + 1
  | .agg parts => uptoBulkAll parts + 1
  | .iface _ d => uptoBulk d + 1
  | .map entries => uptoBulkEntries entries + 1
  | .held _ => 1
def uptoBulkAll {H : Type} : List (DataW H) → Nat
  | [] => 0
  | d :: r => uptoBulk d + uptoBulkAll r
def uptoBulkEntries {H : Type} : List (Lit × DataW H) → Nat
  | [] => 0
  | x :: r => uptoBulkEntry x + uptoBulkEntries r
def uptoBulkEntry {H : Type} : Lit × DataW H → Nat
  | (.string bytes, d) => bytes.length + uptoBulk d + 1
  | (_, d) => uptoBulk d + 1
 end
def uptoSmall : (H : Type) → List (DataW H) → Bool := fun _ ds => decide (uptoBulkAll ds ≤ 1048576)
def OpenSpec.upto (s : _root_.Go.ChangeSpec) : _root_.Go.OpenSpec := { _root_.Go.OpenSpec.ofChange s with cond := some uptoSmall }

/-- 'laws.FnClaims', WHERE WHAT IT READS IS OF BULK AT MOST 1048576: true; the input reads as it did. -/
def fnClaimsUptoRow : OpenClaim := { program := "ythkpbcnhdhfifaagreat", sum := "f7e703e06e1e96a3e785606f4147ba94e0b7b4537e4ba9a7a2b25f8a5ed64a68", func := "loop.example/g02075/laws.FnClaims", spec := "fnClaims", unfollowed := true, recurses := true, apart := false, narrowed := true }
def FnClaimsUptoSaid : Prop := fnClaimsUptoRow.holds Tryz.pinned (OpenSpec.upto fnClaimsSpec)

/-- 'laws.FnNotebooks', WHERE WHAT IT READS IS OF BULK AT MOST 1048576: true; the input reads as it did. -/
def fnNotebooksUptoRow : OpenClaim := { program := "ythkpbcnhdhfifaagreat", sum := "f7e703e06e1e96a3e785606f4147ba94e0b7b4537e4ba9a7a2b25f8a5ed64a68", func := "loop.example/g02075/laws.FnNotebooks", spec := "fnNotebooks", unfollowed := true, recurses := true, apart := false, narrowed := true }
def FnNotebooksUptoSaid : Prop := fnNotebooksUptoRow.holds Tryz.pinned (OpenSpec.upto fnNotebooksSpec)

end Rows
end Go.Proofs.YthkpbcnhdhfifaaGreat
