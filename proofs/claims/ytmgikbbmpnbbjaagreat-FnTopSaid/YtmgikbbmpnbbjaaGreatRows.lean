/-
  No cell of these rows narrows 'for every input' (looked for: loops, veiled, ifaces, maps, wideKeys, modest, calm, conditions, laid).
  DERIVED. THE GIVEN ROWS OF THIS SEAT. 4 by the template 'for every input the law returns true; each argument reads behind the call as it read before'; 0 by the template 'total and deterministic' (their statements: YtmgikbbmpnbbjaaGreatTotals.lean).
  GIVEN WITH THE SEED: the statements are not yours to turn. If you find one false, say at which input.
  Laid BY PROGRAM, IN A SANDBOX (cutbox-rows.mjs): the forced cells as the released guide's own fill.sh prints them over the translation 4743fdbd8765c3a4… (all of the seat's roots in one cut). By AI agents, Wed Nov 11 2026. No macro, syntax, notation, axiom, sorry.
-/
import Derived.Test.YtmgikbbmpnbbjaaGreatChecked
import GoSem.Claim
import GoSem.ClaimJoined
import GoSem.ClaimMapViews
import Derived.JoinedTies
import Derived.KernelRfl
namespace Go.Proofs.YtmgikbbmpnbbjaaGreat
/- THE CELL 'sum', in the pinned program and in every row, IS THE sha256 OF THE DUMP (.gsa) THAT YtmgikbbmpnbbjaaGreatProg.lean LOADS. Nothing in Lean hashes anything: it is a label: what it is worth is what the hold of that sum in a sandbox is worth. -/
noncomputable def Tryz.pinned : Pinned := { name := "ytmgikbbmpnbbjaagreat", sum := "4743fdbd8765c3a46dc5afcd5cb3ae062cc205195e79d461acc97cc445ee7755", checked := Tryz.checked }
namespace Rows
def none {H : Type} : Left H := { results := [], args := [] }

/-- 'laws.FnHall': WHATEVER THE INPUT: true; the input reads as it did. -/
def fnHallSpec : ChangeSpec := { name := "fnHall", fn := fun _ => fun
  | [d] => { results := [.lit (.bool true)], args := [d] }
  | _ => none }
def fnHallRow : OpenClaim := { program := "ytmgikbbmpnbbjaagreat", sum := "4743fdbd8765c3a46dc5afcd5cb3ae062cc205195e79d461acc97cc445ee7755", func := "loop.example/g02075/laws.FnHall", spec := "fnHall", unfollowed := true, recurses := true, plainKeys := false, apart := false }
def FnHallSaid : Prop := fnHallRow.holds Tryz.pinned (OpenSpec.ofChange fnHallSpec)

/-- ITS FALSE NEIGHBOUR: 'it returns false'. Refute it at one input. -/
def fnHallWrong : ChangeSpec := { name := "fnHall", fn := fun _ => fun
  | [d] => { results := [.lit (.bool false)], args := [d] }
  | _ => none }
def FnHallWrongFalsely : Prop := fnHallRow.holds Tryz.pinned (OpenSpec.ofChange fnHallWrong)

/-- 'laws.FnLibraries': WHATEVER THE INPUT: true; the input reads as it did. -/
def fnLibrariesSpec : ChangeSpec := { name := "fnLibraries", fn := fun _ => fun
  | [d] => { results := [.lit (.bool true)], args := [d] }
  | _ => none }
def fnLibrariesRow : OpenClaim := { program := "ytmgikbbmpnbbjaagreat", sum := "4743fdbd8765c3a46dc5afcd5cb3ae062cc205195e79d461acc97cc445ee7755", func := "loop.example/g02075/laws.FnLibraries", spec := "fnLibraries", unfollowed := true, recurses := true, plainKeys := false, apart := false }
def FnLibrariesSaid : Prop := fnLibrariesRow.holds Tryz.pinned (OpenSpec.ofChange fnLibrariesSpec)

/-- ITS FALSE NEIGHBOUR: 'it returns false'. Refute it at one input. -/
def fnLibrariesWrong : ChangeSpec := { name := "fnLibraries", fn := fun _ => fun
  | [d] => { results := [.lit (.bool false)], args := [d] }
  | _ => none }
def FnLibrariesWrongFalsely : Prop := fnLibrariesRow.holds Tryz.pinned (OpenSpec.ofChange fnLibrariesWrong)

/-- 'laws.FnQuotients': WHATEVER THE INPUT: true; the input reads as it did. -/
def fnQuotientsSpec : ChangeSpec := { name := "fnQuotients", fn := fun _ => fun
  | [d] => { results := [.lit (.bool true)], args := [d] }
  | _ => none }
def fnQuotientsRow : OpenClaim := { program := "ytmgikbbmpnbbjaagreat", sum := "4743fdbd8765c3a46dc5afcd5cb3ae062cc205195e79d461acc97cc445ee7755", func := "loop.example/g02075/laws.FnQuotients", spec := "fnQuotients", unfollowed := true, recurses := true, plainKeys := false, apart := false }
def FnQuotientsSaid : Prop := fnQuotientsRow.holds Tryz.pinned (OpenSpec.ofChange fnQuotientsSpec)

/-- ITS FALSE NEIGHBOUR: 'it returns false'. Refute it at one input. -/
def fnQuotientsWrong : ChangeSpec := { name := "fnQuotients", fn := fun _ => fun
  | [d] => { results := [.lit (.bool false)], args := [d] }
  | _ => none }
def FnQuotientsWrongFalsely : Prop := fnQuotientsRow.holds Tryz.pinned (OpenSpec.ofChange fnQuotientsWrong)

/-- 'laws.FnTop': WHATEVER THE INPUT: true; the input reads as it did. -/
def fnTopSpec : ChangeSpec := { name := "fnTop", fn := fun _ => fun
  | [d] => { results := [.lit (.bool true)], args := [d] }
  | _ => none }
def fnTopRow : OpenClaim := { program := "ytmgikbbmpnbbjaagreat", sum := "4743fdbd8765c3a46dc5afcd5cb3ae062cc205195e79d461acc97cc445ee7755", func := "loop.example/g02075/laws.FnTop", spec := "fnTop", unfollowed := true, recurses := true, plainKeys := false, apart := false }
def FnTopSaid : Prop := fnTopRow.holds Tryz.pinned (OpenSpec.ofChange fnTopSpec)

/-- ITS FALSE NEIGHBOUR: 'it returns false'. Refute it at one input. -/
def fnTopWrong : ChangeSpec := { name := "fnTop", fn := fun _ => fun
  | [d] => { results := [.lit (.bool false)], args := [d] }
  | _ => none }
def FnTopWrongFalsely : Prop := fnTopRow.holds Tryz.pinned (OpenSpec.ofChange fnTopWrong)

/- THE SECOND FORM. 'bulk': how many values and letters a reading holds, each counted each time it is reached (what is shared counts as often as it is met; a slice's spare places count too). A statement '..UptoSaid' is the law's where the arguments, and the package variables that the reading takes, are together of bulk at most 1048576: NARROWER than '..Said'. Prove '..Said' where nothing that the law and all that it calls make is longer than what came in: it says more and counts as full. Else prove '..UptoSaid'. A law counts once. -/
mutual
def uptoBulk {H : Type} : DataW H → Nat
  | .lit (.string bytes) => bytes.length + 1
  | .lit _ => 1
  | .nil => 1
  | .ptr d => uptoBulk d + 1
  | .slice elems spare => uptoBulkAll elems + uptoBulkAll spare + 1
  | .agg parts => uptoBulkAll parts + 1
  | .iface _ d => uptoBulk d + 1
  | .map entries => uptoBulkEntries entries + 1
  | .held _ => 1
def uptoBulkAll {H : Type} : List (DataW H) → Nat
  | [] => 0
  | d :: r => uptoBulk d + uptoBulkAll r
def uptoBulkEntries {H : Type} : List (Lit × DataW H) → Nat
  | [] => 0
  | x :: r => uptoBulkEntry x + uptoBulkEntries r
def uptoBulkEntry {H : Type} : Lit × DataW H → Nat
  | (.string bytes, d) => bytes.length + uptoBulk d + 1
  | (_, d) => uptoBulk d + 1
 end
def uptoSmall : (H : Type) → List (DataW H) → Bool := fun _ ds => decide (uptoBulkAll ds ≤ 1048576)
def OpenSpec.upto (s : _root_.Go.ChangeSpec) : _root_.Go.OpenSpec := { _root_.Go.OpenSpec.ofChange s with cond := some uptoSmall }

/-- 'laws.FnHall', WHERE WHAT IT READS IS OF BULK AT MOST 1048576: true; the input reads as it did. -/
def fnHallUptoRow : OpenClaim := { program := "ytmgikbbmpnbbjaagreat", sum := "4743fdbd8765c3a46dc5afcd5cb3ae062cc205195e79d461acc97cc445ee7755", func := "loop.example/g02075/laws.FnHall", spec := "fnHall", unfollowed := true, recurses := true, plainKeys := false, apart := false, narrowed := true }
def FnHallUptoSaid : Prop := fnHallUptoRow.holds Tryz.pinned (OpenSpec.upto fnHallSpec)

/-- 'laws.FnLibraries', WHERE WHAT IT READS IS OF BULK AT MOST 1048576: true; the input reads as it did. -/
def fnLibrariesUptoRow : OpenClaim := { program := "ytmgikbbmpnbbjaagreat", sum := "4743fdbd8765c3a46dc5afcd5cb3ae062cc205195e79d461acc97cc445ee7755", func := "loop.example/g02075/laws.FnLibraries", spec := "fnLibraries", unfollowed := true, recurses := true, plainKeys := false, apart := false, narrowed := true }
def FnLibrariesUptoSaid : Prop := fnLibrariesUptoRow.holds Tryz.pinned (OpenSpec.upto fnLibrariesSpec)

/-- 'laws.FnQuotients', WHERE WHAT IT READS IS OF BULK AT MOST 1048576: true; the input reads as it did. -/
def fnQuotientsUptoRow : OpenClaim := { program := "ytmgikbbmpnbbjaagreat", sum := "4743fdbd8765c3a46dc5afcd5cb3ae062cc205195e79d461acc97cc445ee7755", func := "loop.example/g02075/laws.FnQuotients", spec := "fnQuotients", unfollowed := true, recurses := true, plainKeys := false, apart := false, narrowed := true }
def FnQuotientsUptoSaid : Prop := fnQuotientsUptoRow.holds Tryz.pinned (OpenSpec.upto fnQuotientsSpec)

/-- 'laws.FnTop', WHERE WHAT IT READS IS OF BULK AT MOST 1048576: true; the input reads as it did. -/
def fnTopUptoRow : OpenClaim := { program := "ytmgikbbmpnbbjaagreat", sum := "4743fdbd8765c3a46dc5afcd5cb3ae062cc205195e79d461acc97cc445ee7755", func := "loop.example/g02075/laws.FnTop", spec := "fnTop", unfollowed := true, recurses := true, plainKeys := false, apart := false, narrowed := true }
def FnTopUptoSaid : Prop := fnTopUptoRow.holds Tryz.pinned (OpenSpec.upto fnTopSpec)

end Rows
end Go.Proofs.YtmgikbbmpnbbjaaGreat
