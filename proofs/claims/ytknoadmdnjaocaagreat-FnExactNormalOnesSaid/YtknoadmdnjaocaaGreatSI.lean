/- The library's sort and Compact, at ints that lie in memory of the call's own. -/
import Derived.Test.YtknoadmdnjaocaaGreatCI
import Derived.Test.YtknoadmdnjaocaaGreatH39
import Derived.Shelf.Lay
import Derived.Ground.NamesProg
import Derived.Test.YtknoadmdnjaocaaGreatChecked
namespace Go.Proofs
open Go.Shelf Go.Lib Go.Sort
shelf_lay Lays.n189 Nm 189 at Tryz as Tryz.sortI
end Go.Proofs
namespace Go.Proofs.YtknoadmdnjaocaaGreat
open Go.H
set_option linter.unusedVariables false
set_option linter.unusedSimpArgs false
theorem M0f (h : Hp) {h' : Hp} {v : Value} {e : Nat} {vs : List (List Value)} {xs : D0} (fr : Q0 h h' v e 1 true vs) (f2 : F2 (Wp.int.R h) vs xs) (hl : xs.length < 4611686018427387904) :
  Tr Tryz.prog 308 #[v] h' fun u k => u = .tuple #[] ∧ ∃ vs', Q0 h k v e 1 true vs' ∧ F2 (Wp.int.R h) vs' (R02 g7 xs) := Tr.sortI Tryz.sortI fr f2 hl
theorem N0f (h : Hp) {h' : Hp} {v : Value} {e : Nat} {vs : List (List Value)} {xs : D0} (fr : Q0 h h' v e 1 true vs) (f2 : F2 (Wp.int.R h) vs xs) :
  Tr Tryz.prog 309 #[v] h' fun u k => ∃ vs', Q0 h k u e 1 true vs' ∧ F2 (Wp.int.R h) vs' (K00 eqI xs) := by
 obtain ⟨rfl, hx⟩ := F2.ints f2
 obtain ⟨a, c, _, hl⟩ := fr.slice
 refine (L0f h fr (by have := D0i hl; simpa using this)).mono ?_
 rintro u k ⟨l', rfl, fr'⟩
 exact ⟨_, fr', F2.ofInts fun x hx' => hx x ((P0b (eq := eqI) (l := xs)).subset hx')⟩
end Go.Proofs.YtknoadmdnjaocaaGreat
