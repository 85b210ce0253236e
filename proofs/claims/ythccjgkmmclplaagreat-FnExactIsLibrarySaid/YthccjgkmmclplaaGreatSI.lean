/- The library's sort and Compact, at ints that lie in memory of the call's own. -/
import Derived.Test.YthccjgkmmclplaaGreatCI
import Derived.Test.YthccjgkmmclplaaGreatH39
import Derived.Shelf.Lay
import Derived.Ground.NamesProg
import Derived.Test.YthccjgkmmclplaaGreatChecked
namespace Go.Proofs
open Go.Shelf Go.Lib Go.Sort
shelf_lay Lays.n189 Nm 189 at Tryz as Tryz.sortI
end Go.Proofs
namespace Go.Proofs.YthccjgkmmclplaaGreat
open Go.H
set_option linter.unusedVariables false
set_option linter.unusedSimpArgs false
theorem t_sortInts (h : Hp) {h' : Hp} {v : Value} {e : Nat} {vs : List (List Value)} {xs : LIntS} (fr : Froze h h' v e 1 true vs) (f2 : F2 (Wp.int.R h) vs xs) (hl : xs.length < 4611686018427387904) :
    Tr Tryz.prog 162 #[v] h' fun u k => u = .tuple #[] ∧ ∃ vs', Froze h k v e 1 true vs' ∧ F2 (Wp.int.R h) vs' (srtL cmpI xs) := Tr.sortI Tryz.sortI fr f2 hl
theorem t_compInts (h : Hp) {h' : Hp} {v : Value} {e : Nat} {vs : List (List Value)} {xs : LIntS} (fr : Froze h h' v e 1 true vs) (f2 : F2 (Wp.int.R h) vs xs) :
    Tr Tryz.prog 163 #[v] h' fun u k => ∃ vs', Froze h k u e 1 true vs' ∧ F2 (Wp.int.R h) vs' (compL eqI xs) := by
  obtain ⟨rfl, hx⟩ := F2.ints f2
  obtain ⟨a, c, _, hl⟩ := fr.slice
  refine (w_compInts h fr (by have := sz64 hl; simpa using this)).mono ?_
  rintro u k ⟨l', rfl, fr'⟩
  exact ⟨_, fr', F2.ofInts fun x hx' => hx x ((compL_sub (eq := eqI) (l := xs)).subset hx')⟩
end Go.Proofs.YthccjgkmmclplaaGreat
