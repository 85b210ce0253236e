/- The library's sort and Compact, at edges that lie in memory of the call's own. -/
import Derived.Test.YtfdlgbfeceodeaaGreatCE
import Derived.Test.YtfdlgbfeceodeaaGreatPart25
import Derived.Test.YtfdlgbfeceodeaaGreatPart23
import Derived.Test.YtfdlgbfeceodeaaGreatH37
import Derived.Shelf.SlLaysF
import Derived.Shelf.Lay
import Derived.Ground.SlsfProg
import Derived.Test.YtfdlgbfeceodeaaGreatChecked
namespace Go.Proofs
open Go.Shelf Go.Lib Go.Sort
shelf_lay_g SlLaysF0.n6 Slsf 6 at Tryz 205 as Tryz.sortE
end Go.Proofs
namespace Go.Proofs.YtfdlgbfeceodeaaGreat
open Go.H
set_option linter.unusedVariables false
set_option linter.unusedSimpArgs false
theorem L0m : ∀ (args : Array Value) (w : World), (callFunc 204 args).run Tryz.prog w = .ok (.enter 204 args) w := Go.Proofs.enters_of (fn := Tryz.f204) (by kernel_rfl) (by kernel_rfl) rfl
theorem i0g (h : Hp) {h' : Hp} {v : Value} {e : Nat} {vs : List (List Value)} {xs : M0} (fr : j1 h h' v e 3 true vs) (f2 : F2 (S0.R h) vs xs) (hl : xs.length < 4611686018427387904) :
  Tr Tryz.prog 205 #[v, .func (.func 204) #[] #[]] h' fun u k => u = .tuple #[] ∧ ∃ vs', j1 h k v e 3 true vs' ∧ F2 (S0.R h) vs' (T03 H0 xs) :=
 Tr.sortKF (r := S0.toRp) Tryz.sortE (by decide) Tryz.isAgg116 Tryz.sizeOf116 O4.cmp L0m (z := [.int .i64 0, .int .i64 0, .int .i64 0]) (z' := (0, 0, 0)) (V0 (by decide) (by decide) (by decide))
  (fun u v x y hx hy => j02 h u x hx v y hy _ (M02 x y)) fr f2 hl
theorem F2.edges {h : Hp} : ∀ {vs : List (List Value)} {xs : List C0}, F2 (S0.R h) vs xs → vs = (xs.map fun x => [.int .i64 x.1, .int .i64 x.2.1, .int .i64 x.2.2]) ∧ ∀ x ∈ xs, D0 x.1 ∧ D0 x.2.1 ∧ D0 x.2.2
 | [], [], _ => ⟨rfl, by simp⟩
 | v :: vs, x :: xs, hf => by
  obtain ⟨x0, x1, x2, rfl, rfl, i0, i1, i2⟩ := C1 hf.1
  obtain ⟨rfl, h3⟩ := F2.edges hf.2
  exact ⟨rfl, fun y hy => by rcases List.mem_cons.1 hy with rfl | hy; exact ⟨i0, i1, i2⟩; exact h3 y hy⟩
 | [], _ :: _, hf => hf.elim
 | _ :: _, [], hf => hf.elim
theorem F2.ofEdges {h : Hp} : ∀ {xs : List C0}, (∀ x ∈ xs, D0 x.1 ∧ D0 x.2.1 ∧ D0 x.2.2) → F2 (S0.R h) (xs.map fun x => [.int .i64 x.1, .int .i64 x.2.1, .int .i64 x.2.2]) xs
 | [], _ => trivial
 | x :: xs, hx => by
  have h1 := hx x (List.mem_cons_self ..)
  exact ⟨V0 h1.1 h1.2.1 h1.2.2, F2.ofEdges fun y hy => hx y (List.mem_cons_of_mem _ hy)⟩
theorem j0g (h : Hp) {h' : Hp} {v : Value} {e : Nat} {vs : List (List Value)} {xs : M0} (fr : j1 h h' v e 3 true vs) (f2 : F2 (S0.R h) vs xs) :
  Tr Tryz.prog 206 #[v] h' fun u k => ∃ vs', j1 h k u e 3 true vs' ∧ F2 (S0.R h) vs' (y01 eqE xs) := by
 obtain ⟨rfl, hx⟩ := F2.edges f2
 obtain ⟨a, c, _, hl⟩ := fr.slice
 refine (g0g h fr (by have := U0j hl; simpa using this)).mono ?_
 rintro u k ⟨l', rfl, fr'⟩
 exact ⟨_, fr', F2.ofEdges fun x hx' => hx x ((q0d (eq := fun p q => eqE p q) (l := xs)).subset hx')⟩
end Go.Proofs.YtfdlgbfeceodeaaGreat
