/- The library's sort and Compact, at edges that lie in memory of the call's own. -/
import Derived.Test.YthccjgkmmclplaaGreatCE
import Derived.Test.YthccjgkmmclplaaGreatW4g
import Derived.Test.YthccjgkmmclplaaGreatP4g
import Derived.Test.YthccjgkmmclplaaGreatH37
import Derived.Shelf.SlLaysF
import Derived.Shelf.Lay
import Derived.Ground.SlsfProg
import Derived.Test.YthccjgkmmclplaaGreatChecked
namespace Go.Proofs
open Go.Shelf Go.Lib Go.Sort
shelf_lay_g SlLaysF0.n6 Slsf 6 at Tryz 136 as Tryz.sortE
end Go.Proofs
namespace Go.Proofs.YthccjgkmmclplaaGreat
open Go.H
set_option linter.unusedVariables false
set_option linter.unusedSimpArgs false
theorem entE : ∀ (args : Array Value) (w : World), (callFunc 137 args).run Tryz.prog w = .ok (.enter 137 args) w := Go.Proofs.enters_of (fn := Tryz.f137) (by kernel_rfl) (by kernel_rfl) rfl
theorem t_sortEdges (h : Hp) {h' : Hp} {v : Value} {e : Nat} {vs : List (List Value)} {xs : LEdgeS} (fr : Froze h h' v e 3 true vs) (f2 : F2 (wEdge.R h) vs xs) (hl : xs.length < 4611686018427387904) :
    Tr Tryz.prog 136 #[v, .func (.func 137) #[] #[]] h' fun u k => u = .tuple #[] ∧ ∃ vs', Froze h k v e 3 true vs' ∧ F2 (wEdge.R h) vs' (srtL F_CompareEdges xs) :=
  Tr.sortKF (r := wEdge.toRp) Tryz.sortE (by decide) Tryz.isAgg99 Tryz.sizeOf99 cmpE_lin.cmp entE (z := [.int .i64 0, .int .i64 0, .int .i64 0]) (z' := (0, 0, 0)) (closeEdge (by decide) (by decide) (by decide))
    (fun u v x y hx hy => t_impl_CompareEdges h u x hx v y hy _ (m_implCompareEdges x y)) fr f2 hl
theorem F2.edges {h : Hp} : ∀ {vs : List (List Value)} {xs : List LEdge}, F2 (wEdge.R h) vs xs → vs = (xs.map fun x => [.int .i64 x.1, .int .i64 x.2.1, .int .i64 x.2.2]) ∧ ∀ x ∈ xs, In64 x.1 ∧ In64 x.2.1 ∧ In64 x.2.2
  | [], [], _ => ⟨rfl, by simp⟩
  | v :: vs, x :: xs, hf => by
    obtain ⟨x0, x1, x2, rfl, rfl, i0, i1, i2⟩ := openEdge hf.1
    obtain ⟨rfl, h3⟩ := F2.edges hf.2
    exact ⟨rfl, fun y hy => by rcases List.mem_cons.1 hy with rfl | hy; exact ⟨i0, i1, i2⟩; exact h3 y hy⟩
  | [], _ :: _, hf => hf.elim
  | _ :: _, [], hf => hf.elim
theorem F2.ofEdges {h : Hp} : ∀ {xs : List LEdge}, (∀ x ∈ xs, In64 x.1 ∧ In64 x.2.1 ∧ In64 x.2.2) → F2 (wEdge.R h) (xs.map fun x => [.int .i64 x.1, .int .i64 x.2.1, .int .i64 x.2.2]) xs
  | [], _ => trivial
  | x :: xs, hx => by
    have h1 := hx x (List.mem_cons_self ..)
    exact ⟨closeEdge h1.1 h1.2.1 h1.2.2, F2.ofEdges fun y hy => hx y (List.mem_cons_of_mem _ hy)⟩
theorem t_compEdges (h : Hp) {h' : Hp} {v : Value} {e : Nat} {vs : List (List Value)} {xs : LEdgeS} (fr : Froze h h' v e 3 true vs) (f2 : F2 (wEdge.R h) vs xs) :
    Tr Tryz.prog 138 #[v] h' fun u k => ∃ vs', Froze h k u e 3 true vs' ∧ F2 (wEdge.R h) vs' (compL eqE xs) := by
  obtain ⟨rfl, hx⟩ := F2.edges f2
  obtain ⟨a, c, _, hl⟩ := fr.slice
  refine (w_compEdges h fr (by have := sz64 hl; simpa using this)).mono ?_
  rintro u k ⟨l', rfl, fr'⟩
  exact ⟨_, fr', F2.ofEdges fun x hx' => hx x ((compL_sub (eq := fun p q => eqE p q) (l := xs)).subset hx')⟩
end Go.Proofs.YthccjgkmmclplaaGreat
