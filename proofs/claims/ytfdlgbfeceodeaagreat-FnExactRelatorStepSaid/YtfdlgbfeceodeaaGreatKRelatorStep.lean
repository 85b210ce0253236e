/- RelatorStep, of the spec and of the code. -/
import Derived.Test.YtfdlgbfeceodeaaGreatPart22
import Derived.Test.YtfdlgbfeceodeaaGreatPart25
import Derived.Test.YtfdlgbfeceodeaaGreatWh4
namespace Go.Proofs.YtfdlgbfeceodeaaGreat
open Go.H
set_option linter.unusedVariables false
theorem X09 {g : l0} (h : j00 g ≤ 1048576) : g.2.2.length ≤ 1099511627776 := by
 have : g.2.2.length ≤ j00 g := by unfold j00 m01; omega
 omega
theorem t02 {x : M0} (h : D3 x ≤ 1048576) : x.2.length ≤ 140737488355328 ∧ H5 x.2 := by
 unfold D3 Q00 at h
 refine ⟨by omega, fun w hw => ?_⟩
 have := a09 (m := p00) hw
 unfold p00 at this h
 omega
theorem Q07 : ∀ (n : Nat) (g : l0), (T9 n g).1.2.2.length ≤ g.2.2.length
 | 0, g => Nat.le_refl _
 | n + 1, g => by
  unfold T9
  cases l6 g.2.2 with
  | nil => exact Nat.le_refl _
  | cons f l =>
   have h1 := Q07 n (c8 g f)
   have h2 : (c8 g f).2.2.length ≤ g.2.2.length := by
    have := p02 (g.2.2.map (mvE f)) []
    simp only [List.length_nil, List.length_map, Nat.zero_add] at this
    exact this
   exact Nat.le_trans h1 h2
theorem b0d (x : M0) (g : l0) : (I0 x g).1.2.2.length ≤ g.2.2.length + 1000 := by
 unfold I0
 cases hc : (O4 x && Y0 g && decide (x.1 = g.1)) with
 | false => simp only [cond_false]; omega
 | true =>
  simp only [Bool.and_eq_true] at hc
  have hg := ((O8 g).1 hc.1.2).1
  simp only [cond_true]
  cases A03 g x.2 g.2.1.toNat 0 with
  | some q =>
   obtain ⟨v, i⟩ := q
   simp only [A0e]
   cases x.2[i]? with
   | none => simp only; omega
   | some w =>
    simp only
    cases (L4 g (v : Int) w (v : Int)).2 with
    | false => simp only [cond_false]; omega
    | true =>
     have h1 := h04 hg (v : Int) w (v : Int)
     simp only [cond_true, s00]
     cases T0 (L4 g (v : Int) w (v : Int)).1 with
     | false => simp only [cond_false]; omega
     | true =>
      have := Q07 40 (L4 g (v : Int) w (v : Int)).1
      simp only [cond_true]; omega
  | none =>
   simp only [B0e]
   cases N5 g with
   | nil => simp only; omega
   | cons e l =>
    simp only
    cases (L1 g).2 with
    | false => simp only [cond_false]; omega
    | true =>
     simp only [cond_true]
     have h1 : (L1 g).1.2.2 = g.2.2 := by unfold L1; cases decide (g.2.1 < 40) <;> rfl
     have h2 : (Y6 (L1 g).1 (stp e.1 e.2.1 g.2.1)).1.2.2.length ≤ g.2.2.length + 1 := by
      have := Y02 (stp e.1 e.2.1 g.2.1) (L1 g).1.2.2
      unfold Y6
      rw [h1] at this ⊢
      cases (decide (g.2.2.length < 120) && !decide (stp e.1 e.2.1 g.2.1 ∈ g.2.2)) with
      | false => simp only [cond_false, h1]; omega
      | true => simp only [cond_true]; omega
     cases (Y6 (L1 g).1 (stp e.1 e.2.1 g.2.1)).2 with
     | false => simp only [cond_false]; omega
     | true => simp only [cond_true]; omega
theorem l0a (x : M0) (g : l0) (hm : D3 x ≤ 1048576) (hg : j00 g ≤ 1048576) : G8 (I0 x g).1 ≤ 16777216 := by
 have h3 := r0e (I0 x g).1
 cases hc : (O4 x && Y0 g && decide (x.1 = g.1)) with
 | false =>
  have e : (I0 x g).1 = g := by unfold I0; rw [hc]; rfl
  rw [e] at h3 ⊢
  omega
 | true =>
  have h1 := b0d x g
  simp only [Bool.and_eq_true] at hc
  have h2 := (s5 hc.1.2).2.2.2
  have h4 : j00 (I0 x g).1 = (I0 x g).1.2.2.length := rfl
  omega
theorem z06 (h : Hp) (cs : List Value) (x : M0) (hx : S0.R h cs x) (hm : D3 x ≤ 1048576) (ds : List Value) (y : l0) (hy : P0.R h ds y) (hmy : j00 y ≤ 1048576) :
  Tr Tryz.prog 28 #[.agg cs.toArray, .agg ds.toArray] h fun v h' => ∃ cs, v = .tuple #[.agg cs.toArray, .bool (I0 x y).2.1, .bool (I0 x y).2.2] ∧ P0.R h' cs (I0 x y).1 ∧ Sub h h' :=
 s05 h cs x hx ds y hy _ (v06 x y (t02 hm).1 (t02 hm).2 (X09 hmy))
theorem u02 (h : Hp) (cs : List Value) (x : M0) (hx : S0.R h cs x) (hm : D3 x ≤ 1048576) (ds : List Value) (y : l0) (hy : P0.R h ds y) (hmy : j00 y ≤ 1048576) :
  Tr Tryz.prog 30 #[.agg cs.toArray, .agg ds.toArray] h fun v h' => ∃ cs, v = .tuple #[.agg cs.toArray, .bool (I0 x y).2.1, .bool (I0 x y).2.2] ∧ New P0 h h' cs (I0 x y).1 :=
 t05 h cs x hx ds y hy _ (w06 x y (t02 hm).1 (t02 hm).2 (X09 hmy))
end Go.Proofs.YtfdlgbfeceodeaaGreat
