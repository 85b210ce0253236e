/- The library's sort and Compact, at edges that lie in memory of the call's own. -/
import Derived.Test.YtknoadmdnjaocaaGreatCE
import Derived.Test.YtknoadmdnjaocaaGreatPart25
import Derived.Test.YtknoadmdnjaocaaGreatPart23
import Derived.Test.YtknoadmdnjaocaaGreatH37
import Derived.Shelf.SlLaysF
import Derived.Shelf.Lay
import Derived.Ground.SlsfProg
import Derived.Test.YtknoadmdnjaocaaGreatChecked
namespace Go.Proofs
open Go.Shelf Go.Lib Go.Sort
shelf_lay_g SlLaysF0.n6 Slsf 6 at Tryz 257 as Tryz.sortE
end Go.Proofs
namespace Go.Proofs.YtknoadmdnjaocaaGreat
open Go.H
set_option linter.unusedVariables false
set_option linter.unusedSimpArgs false
theorem Z0m : ∀ (args : Array Value) (w : World), (callFunc 258 args).run Tryz.prog w = .ok (.enter 258 args) w := Go.Proofs.enters_of (fn := Tryz.f258) (by kernel_rfl) (by kernel_rfl) rfl
theorem K0f (h : Hp) {h' : Hp} {v : Value} {e : Nat} {vs : List (List Value)} {xs : J0} (fr : U0 h h' v e 3 true vs) (f2 : F2 (j1.R h) vs xs) (hl : xs.length < 4611686018427387904) :
  Tr Tryz.prog 257 #[v, .func (.func 258) #[] #[]] h' fun u k => u = .tuple #[] ∧ ∃ vs', U0 h k v e 3 true vs' ∧ F2 (j1.R h) vs' (A03 V0 xs) :=
 Tr.sortKF (r := j1.toRp) Tryz.sortE (by decide) Tryz.isAgg141 Tryz.sizeOf141 r8.cmp Z0m (z := [.int .i64 0, .int .i64 0, .int .i64 0]) (z' := (0, 0, 0)) (K1 (by decide) (by decide) (by decide))
  (fun u v x y hx hy => W01 h u x hx v y hy _ (y02 x y)) fr f2 hl
theorem F2.edges {h : Hp} : ∀ {vs : List (List Value)} {xs : List F0}, F2 (j1.R h) vs xs → vs = (xs.map fun x => [.int .i64 x.1, .int .i64 x.2.1, .int .i64 x.2.2]) ∧ ∀ x ∈ xs, M0 x.1 ∧ M0 x.2.1 ∧ M0 x.2.2
 | [], [], _ => ⟨rfl, by simp⟩
 | v :: vs, x :: xs, hf => by
  obtain ⟨x0, x1, x2, rfl, rfl, i0, i1, i2⟩ := F1 hf.1
  obtain ⟨rfl, h3⟩ := F2.edges hf.2
  exact ⟨rfl, fun y hy => by rcases List.mem_cons.1 hy with rfl | hy; exact ⟨i0, i1, i2⟩; exact h3 y hy⟩
 | [], _ :: _, hf => hf.elim
 | _ :: _, [], hf => hf.elim
theorem F2.ofEdges {h : Hp} : ∀ {xs : List F0}, (∀ x ∈ xs, M0 x.1 ∧ M0 x.2.1 ∧ M0 x.2.2) → F2 (j1.R h) (xs.map fun x => [.int .i64 x.1, .int .i64 x.2.1, .int .i64 x.2.2]) xs
 | [], _ => trivial
 | x :: xs, hx => by
  have h1 := hx x (List.mem_cons_self ..)
  exact ⟨K1 h1.1 h1.2.1 h1.2.2, F2.ofEdges fun y hy => hx y (List.mem_cons_of_mem _ hy)⟩
theorem L0f (h : Hp) {h' : Hp} {v : Value} {e : Nat} {vs : List (List Value)} {xs : J0} (fr : U0 h h' v e 3 true vs) (f2 : F2 (j1.R h) vs xs) :
  Tr Tryz.prog 259 #[v] h' fun u k => ∃ vs', U0 h k u e 3 true vs' ∧ F2 (j1.R h) vs' (n01 eqE xs) := by
 obtain ⟨rfl, hx⟩ := F2.edges f2
 obtain ⟨a, c, _, hl⟩ := fr.slice
 refine (J0f h fr (by have := y0i hl; simpa using this)).mono ?_
 rintro u k ⟨l', rfl, fr'⟩
 exact ⟨_, fr', F2.ofEdges fun x hx' => hx x ((K0c (eq := fun p q => eqE p q) (l := xs)).subset hx')⟩
end Go.Proofs.YtknoadmdnjaocaaGreat
