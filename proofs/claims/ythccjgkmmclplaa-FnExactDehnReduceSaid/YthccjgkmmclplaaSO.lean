/- The library's sort and Compact, at words that lie in memory of the call's own. -/
import Derived.Test.YthccjgkmmclplaaCW
import Derived.Test.YthccjgkmmclplaaH34
import Derived.Shelf.SlLaysF
import Derived.Shelf.Lay
import Derived.Ground.SlsfProg
import Derived.Test.YthccjgkmmclplaaChecked
namespace Go.Proofs
open Go.Shelf Go.Lib Go.Sort
shelf_lay_g SlLaysF.n6 Slsf 6 at Try 49 as Try.sortW
end Go.Proofs
namespace Go.Proofs.Ythccjgkmmclplaa
open Go.H
set_option linter.unusedVariables false
set_option linter.unusedSimpArgs false

theorem ints64 {h : Hp} {v : Value} {xs : List Int} (r : wIntS.R h [v] xs) : all64' xs := fun k x hx => by
  obtain ⟨a, n, c, vs, _, _, _, _, e2⟩ := r
  obtain ⟨cs, _, h2⟩ := e2.get hx
  exact h2.2
theorem cmpW_ok (h : Hp) (u v : Value) (x y : LIntS) (hx : wIntS.R h [u] x) (hy : wIntS.R h [v] y) : Tr Try.prog 50 #[u, v] h fun q h' => q = .int .i64 (F_CompareWords x y) ∧ h' = h := by
  obtain ⟨a, n, c, e1⟩ := Wp.slice_cell hx
  obtain ⟨a', n', c', e2⟩ := Wp.slice_cell hy
  have i1 := ints64 hx
  have i2 := ints64 hy
  rw [e1] at hx
  rw [e2] at hy
  injection e1 with e1
  injection e2 with e2
  subst e1 e2
  obtain ⟨rfl, lx⟩ := Sl.len hx
  exact t_impl_CompareWords _ _ _ _ _ hx _ _ _ _ hy _ (m_implCompareWords i1 i2 lx)
theorem entW : ∀ (args : Array Value) (w : World), (callFunc 50 args).run Try.prog w = .ok (.enter 50 args) w := Go.Proofs.enters_of (fn := Try.f50) (by kernel_rfl) (by kernel_rfl) rfl
theorem t_sortWords (h : Hp) {h' : Hp} {v : Value} {e : Nat} {vs : List (List Value)} {xs : LIntSS} (fr : Froze h h' v e 1 true vs) (f2 : F2 (wIntS.R h) vs xs) (hl : xs.length < 4611686018427387904) :
    Tr Try.prog 49 #[v, .func (.func 50) #[] #[]] h' fun u k => u = .tuple #[] ∧ ∃ vs', Froze h k v e 1 true vs' ∧ F2 (wIntS.R h) vs' (srtL F_CompareWords xs) :=
  Tr.sort1F (r := wIntS.toRp) Try.sortW rfl cmpW_lin.cmp entW (nilR Wp.int h) (cmpW_ok h) fr f2 hl
theorem t_sortWordsW (h : Hp) {h' : Hp} {v : Value} {e : Nat} {vs : List (List Value)} {xs : LIntSS} {Bs : List (List Nat)} (fr : Froze h h' v e 1 true vs) (f3 : F3 (wIntS.W h) vs xs Bs) (hl : xs.length < 4611686018427387904) :
    Tr Try.prog 49 #[v, .func (.func 50) #[] #[]] h' fun u k => u = .tuple #[] ∧ ∃ vs' Bs', Froze h k v e 1 true vs' ∧ F3 (wIntS.W h) vs' (srtL F_CompareWords xs) Bs' ∧ Bs'.Perm Bs :=
  Tr.sort1W (r := wIntS) Try.sortW rfl cmpW_lin.cmp entW (z := [.slice none 0 0]) (z' := []) (zb := []) ⟨_, [], [], [], rfl, ⟨by simp, .inl ⟨rfl, rfl, rfl⟩⟩, trivial, rfl⟩ (cmpW_ok h) fr f3 hl
theorem oneVal {r : Rp LIntS} (hr : r.sz = 1) {h : Hp} {cs : List Value} {x : LIntS} (hx : r.R h cs x) : cs = [cs.headD (.slice none 0 0)] := by
  have := r.len hx
  rw [hr] at this
  obtain ⟨u, rfl⟩ := List.length_eq_one_iff.1 this
  rfl
theorem t_compWords (h : Hp) {h' : Hp} {v : Value} {e : Nat} {vs : List (List Value)} {xs : LIntSS} (fr : Froze h h' v e 1 true vs) (f2 : F2 (wIntS.R h) vs xs) :
    Tr Try.prog 51 #[v, .func (.func 52) #[] #[]] h' fun u k => ∃ vs', Froze h k u e 1 true vs' ∧ F2 (wIntS.R h) vs' (compL eqW xs) := by
  obtain ⟨l, rfl, rfl⟩ := both_of (r := wIntS.toRp) f2
  obtain ⟨a, c, _, hl⟩ := fr.slice
  have e1 : (l.map fun p => p.1.1) = l.map fun p => [p.1.1.headD (.slice none 0 0)] := List.map_congr_left fun p _ => oneVal (r := wIntS.toRp) rfl p.2
  rw [e1] at fr
  refine (w_compWords h (fun p : Both wIntS.toRp h => p.1.1.headD (.slice none 0 0)) (fun p => p.1.2) (fun p => by rw [← oneVal (r := wIntS.toRp) rfl p.2]; exact p.2) fr (by have := sz64 hl; simpa using this)).mono ?_
  rintro u k ⟨l', rfl, fr'⟩
  refine ⟨_, fr', ?_⟩
  have e2 : ∀ l : List (Both wIntS.toRp h), (l.map fun p => [p.1.1.headD (.slice none 0 0)]) = l.map fun p => p.1.1 := fun l => List.map_congr_left fun p _ => (oneVal (r := wIntS.toRp) rfl p.2).symm
  rw [e2, ← compL_map (dat := fun p : Both wIntS.toRp h => p.1.2) (e := eqW) (fun _ _ => rfl)]
  exact of_both _
theorem t_compWordsW (h : Hp) {h' : Hp} {v : Value} {e : Nat} {vs : List (List Value)} {xs : LIntSS} {Bs : List (List Nat)} (fr : Froze h h' v e 1 true vs) (f3 : F3 (wIntS.W h) vs xs Bs) :
    Tr Try.prog 51 #[v, .func (.func 52) #[] #[]] h' fun u k => ∃ vs' Bs', Froze h k u e 1 true vs' ∧ F3 (wIntS.W h) vs' (compL eqW xs) Bs' ∧ Bs'.Sublist Bs := by
  obtain ⟨l, rfl, rfl, rfl⟩ := trio_of (r := wIntS) f3
  obtain ⟨a, c, _, hl⟩ := fr.slice
  have e1 : (l.map fun p => p.1.1) = l.map fun p => [p.1.1.headD (.slice none 0 0)] := List.map_congr_left fun p _ => oneVal (r := wIntS.toRp) rfl (wIntS.toR p.2)
  rw [e1] at fr
  refine (w_compWords h (fun p : Trio wIntS h => p.1.1.headD (.slice none 0 0)) (fun p => p.1.2.1) (fun p => by rw [← oneVal (r := wIntS.toRp) rfl (wIntS.toR p.2)]; exact wIntS.toR p.2) fr (by have := sz64 hl; simpa using this)).mono ?_
  rintro u k ⟨l', rfl, fr'⟩
  refine ⟨_, _, fr', ?_, (compL_sub (eq := fun p q : Trio wIntS h => eqW p.1.2.1 q.1.2.1) (l := l)).map _⟩
  have e2 : ∀ l : List (Trio wIntS h), (l.map fun p => [p.1.1.headD (.slice none 0 0)]) = l.map fun p => p.1.1 := fun l => List.map_congr_left fun p _ => (oneVal (r := wIntS.toRp) rfl (wIntS.toR p.2)).symm
  rw [e2, ← compL_map (dat := fun p : Trio wIntS h => p.1.2.1) (e := eqW) (fun _ _ => rfl)]
  exact of_trio _
end Go.Proofs.Ythccjgkmmclplaa
