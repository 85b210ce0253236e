/- The library's sort and Compact, at edges that lie in memory of the call's own. -/
import Derived.Test.YtknoadmdnjaocaaGreatCE
import Derived.Test.YtknoadmdnjaocaaGreatPart25
import Derived.Test.YtknoadmdnjaocaaGreatPart23
import Derived.Test.YtknoadmdnjaocaaGreatH37
import Derived.Shelf.SlLaysF
import Derived.Shelf.Lay
import Derived.Ground.SlsfProg
import Derived.Test.YtknoadmdnjaocaaGreatChecked
namespace Go.Proofs
open Go.Shelf Go.Lib Go.Sort
shelf_lay_g SlLaysF0.n6 Slsf 6 at Tryz 257 as Tryz.sortE
end Go.Proofs
namespace Go.Proofs.YtknoadmdnjaocaaGreat
open Go.H
set_option linter.unusedVariables false
set_option linter.unusedSimpArgs false
theorem L0l : ∀ (args : Array Value) (w : World), (callFunc 258 args).run Tryz.prog w = .ok (.enter 258 args) w := Go.Proofs.enters_of (fn := Tryz.f258) (by kernel_rfl) (by kernel_rfl) rfl
theorem M0e (h : Hp) {h' : Hp} {v : Value} {e : Nat} {vs : List (List Value)} {xs : I0} (fr : Q0 h h' v e 3 true vs) (f2 : F2 (P0.R h) vs xs) (hl : xs.length < 4611686018427387904) :
  Tr Tryz.prog 257 #[v, .func (.func 258) #[] #[]] h' fun u k => u = .tuple #[] ∧ ∃ vs', Q0 h k v e 3 true vs' ∧ F2 (P0.R h) vs' (R02 O0 xs) :=
 Tr.sortKF (r := P0.toRp) Tryz.sortE (by decide) Tryz.isAgg141 Tryz.sizeOf141 J7.cmp L0l (z := [.int .i64 0, .int .i64 0, .int .i64 0]) (z' := (0, 0, 0)) (K1 (by decide) (by decide) (by decide))
  (fun u v x y hx hy => m01 h u x hx v y hy _ (M01 x y)) fr f2 hl
theorem F2.edges {h : Hp} : ∀ {vs : List (List Value)} {xs : List C0}, F2 (P0.R h) vs xs → vs = (xs.map fun x => [.int .i64 x.1, .int .i64 x.2.1, .int .i64 x.2.2]) ∧ ∀ x ∈ xs, N0 x.1 ∧ N0 x.2.1 ∧ N0 x.2.2
 | [], [], _ => ⟨rfl, by simp⟩
 | v :: vs, x :: xs, hf => by
  obtain ⟨x0, x1, x2, rfl, rfl, i0, i1, i2⟩ := E1 hf.1
  obtain ⟨rfl, h3⟩ := F2.edges hf.2
  exact ⟨rfl, fun y hy => by rcases List.mem_cons.1 hy with rfl | hy; exact ⟨i0, i1, i2⟩; exact h3 y hy⟩
 | [], _ :: _, hf => hf.elim
 | _ :: _, [], hf => hf.elim
theorem F2.ofEdges {h : Hp} : ∀ {xs : List C0}, (∀ x ∈ xs, N0 x.1 ∧ N0 x.2.1 ∧ N0 x.2.2) → F2 (P0.R h) (xs.map fun x => [.int .i64 x.1, .int .i64 x.2.1, .int .i64 x.2.2]) xs
 | [], _ => trivial
 | x :: xs, hx => by
  have h1 := hx x (List.mem_cons_self ..)
  exact ⟨K1 h1.1 h1.2.1 h1.2.2, F2.ofEdges fun y hy => hx y (List.mem_cons_of_mem _ hy)⟩
theorem N0e (h : Hp) {h' : Hp} {v : Value} {e : Nat} {vs : List (List Value)} {xs : I0} (fr : Q0 h h' v e 3 true vs) (f2 : F2 (P0.R h) vs xs) :
  Tr Tryz.prog 259 #[v] h' fun u k => ∃ vs', Q0 h k u e 3 true vs' ∧ F2 (P0.R h) vs' (K00 eqE xs) := by
 obtain ⟨rfl, hx⟩ := F2.edges f2
 obtain ⟨a, c, _, hl⟩ := fr.slice
 refine (L0e h fr (by have := D0i hl; simpa using this)).mono ?_
 rintro u k ⟨l', rfl, fr'⟩
 exact ⟨_, fr', F2.ofEdges fun x hx' => hx x ((P0b (eq := fun p q => eqE p q) (l := xs)).subset hx')⟩
end Go.Proofs.YtknoadmdnjaocaaGreat
