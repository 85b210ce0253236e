/- Plain laws: comparisons that order, strictly ordered lists, and what a sort without doubles is. -/
import Derived.Test.YtknoadmdnjaocaaGreatH34
import Derived.Test.YtknoadmdnjaocaaGreatH33
open Go.Sort Go.Proofs
namespace Go.H
set_option linter.unusedVariables false
theorem Q7.cmp {α : Type} {cf : α → α → Int} (h : Q7 cf) : Cmp cf := by
 refine ⟨⟨fun x => ?_, fun x y z h1 h2 => ?_, fun x y z h1 h2 => ?_⟩, fun x y h1 h2 => ?_⟩
 ·simp [ltOf, h.refl]
 ·simp only [ltOf, decide_eq_true_eq] at *; exact h.trans x y z h1 h2
 ·simp only [ltOf, decide_eq_false_iff_not] at *
  intro h3
  have a1 := h.anti x y
  rcases Int.lt_or_le (cf y x) 0 with h4 | h4
  ·exact h2 (h.trans y x z h4 h3)
  ·have : cf x y = 0 := by omega
   rw [h.eq _ _ this] at h3
   exact h2 h3
 ·simp only [ltOf, decide_eq_false_iff_not] at *
  have a1 := h.anti x y
  exact h.eq x y (by omega)
def g8 {α : Type} (eq : α → α → Bool) : α → List α → List α
 | _, [] => []
 | p, y :: l => bif eq y p then g8 eq y l else y :: g8 eq y l
def K00 {α : Type} (eq : α → α → Bool) : List α → List α
 | [] => []
 | x :: l => x :: g8 eq x l
def Asc {α : Type} (cf : α → α → Int) (l : List α) : Prop := l.Pairwise fun a b => cf a b < 0
theorem H09 {α : Type} {cf : α → α → Int} (h : Q7 cf) {l1 l2 : List α} (h1 : Asc cf l1) (h2 : Asc cf l2) (hm : ∀ x, x ∈ l1 ↔ x ∈ l2) : l1 = l2 := by
 have nd : ∀ {l : List α}, Asc cf l → l.Nodup := fun h' => h'.imp fun {a b} hab e => by rw [e, h.refl] at hab; omega
 refine W00 (R := fun a b => cf a b < 0) (fun x y e1 e2 => ?_) ((List.perm_ext_iff_of_nodup (nd h1) (nd h2)).2 hm) h1 h2
 have := h.anti x y
 omega
theorem G05 {α : Type} (eq : α → α → Bool) : ∀ (l : List α) (p : α), (g8 eq p l).Sublist l
 | [], _ => .slnil
 | y :: l, p => by
  unfold g8
  cases eq y p
  ·exact (G05 eq l y).cons_cons y
  ·exact (G05 eq l y).cons y
theorem I09 {α : Type} {cf : α → α → Int} (h : Q7 cf) {eq : α → α → Bool} (he : ∀ x y, eq x y = true ↔ x = y) : ∀ (l : List α) (p : α), (p :: l).Pairwise (fun a b => ltOf cf b a = false) → Asc cf (p :: g8 eq p l)
 | [], p, _ => by simp [g8, Asc]
 | y :: l, p, hs => by
  obtain ⟨h1, h2⟩ := List.pairwise_cons.1 hs
  have ih := I09 h he l y h2
  unfold g8
  cases hc : eq y p with
  | true => rw [(he _ _).1 hc] at ih ⊢; exact ih
  | false =>
   show Asc cf (p :: y :: g8 eq y l)
   have hyp : cf p y < 0 := by
    have := h1 y (List.mem_cons_self ..)
    simp only [ltOf, decide_eq_false_iff_not] at this
    have a := h.anti p y
    rcases Int.lt_or_le (cf p y) 0 with h3 | h3
    ·exact h3
    ·have e := h.eq p y (by omega)
     have := (he y p).2 e.symm
     rw [hc] at this; cases this
   refine List.pairwise_cons.2 ⟨fun z hz => ?_, ih⟩
   rcases List.mem_cons.1 hz with rfl | hz
   ·exact hyp
   ·exact h.trans _ _ _ hyp ((List.pairwise_cons.1 ih).1 z hz)
theorem J09 {α : Type} {eq : α → α → Bool} (he : ∀ x y, eq x y = true ↔ x = y) (x : α) : ∀ (l : List α) (p : α), x ∈ p :: g8 eq p l ↔ x ∈ p :: l
 | [], p => by simp [g8]
 | y :: l, p => by
  have ih := J09 he x l y
  unfold g8
  cases hc : eq y p with
  | true =>
   have e := (he _ _).1 hc
   subst e
   simp only [cond_true, List.mem_cons] at *
   rw [ih]; simp
  | false => simp only [cond_false, List.mem_cons] at *; rw [ih]
def V0d {α : Type} (cf : α → α → Int) (eq : α → α → Bool) (l : List α) : List α := K00 eq (R02 cf l)
theorem v0h {α : Type} {cf : α → α → Int} (h : Q7 cf) {eq : α → α → Bool} (he : ∀ x y, eq x y = true ↔ x = y) (l : List α) : Asc cf (V0d cf eq l) := by
 have := j02 h.cmp.swo l
 unfold V0d K00
 cases hs : R02 cf l with
 | nil => exact .nil
 | cons x m => rw [hs] at this; exact I09 h he m x this
theorem w0h {α : Type} {cf : α → α → Int} {eq : α → α → Bool} (he : ∀ x y, eq x y = true ↔ x = y) (x : α) (l : List α) : x ∈ V0d cf eq l ↔ x ∈ l := by
 rw [← (t01 cf l).mem_iff]
 unfold V0d K00
 cases R02 cf l with
 | nil => rfl
 | cons y m => exact J09 he x m y
def O9 {α : Type} (cf : α → α → Int) (x : α) : List α → List α
 | [] => [x]
 | y :: l => if cf x y < 0 then x :: y :: l else if cf x y = 0 then y :: l else y :: O9 cf x l
theorem m04 {α : Type} {cf : α → α → Int} (h : Q7 cf) (x z : α) : ∀ l, z ∈ O9 cf x l ↔ z = x ∨ z ∈ l
 | [] => by simp [O9]
 | y :: l => by
  have ih := m04 h x z l
  unfold O9
  split
  ·simp
  ·split
   ·rename_i e; rw [h.eq _ _ e]; simp
   ·simp only [List.mem_cons, ih]; constructor <;> (rintro (e | e | e) <;> simp [e])
theorem W0d {α : Type} {cf : α → α → Int} (h : Q7 cf) (x : α) : ∀ l, Asc cf l → Asc cf (O9 cf x l)
 | [], _ => by simp [O9, Asc]
 | y :: l, hl => by
  obtain ⟨h1, h2⟩ := List.pairwise_cons.1 hl
  unfold O9
  split
  ·rename_i hxy
   refine List.pairwise_cons.2 ⟨fun z hz => ?_, hl⟩
   rcases List.mem_cons.1 hz with rfl | hz
   ·exact hxy
   ·exact h.trans _ _ _ hxy (h1 z hz)
  ·split
   ·exact hl
   ·refine List.pairwise_cons.2 ⟨fun z hz => ?_, W0d h x l h2⟩
    rcases (m04 h x z l).1 hz with rfl | hz
    ·have := h.anti z y; omega
    ·exact h1 z hz
def K7 {α : Type} (cf : α → α → Int) : List α → List α → List α
 | l, [] => l
 | l, x :: r => K7 cf (O9 cf x l) r
theorem q03 {α : Type} {cf : α → α → Int} (h : Q7 cf) : ∀ (r l : List α), Asc cf l → Asc cf (K7 cf l r)
 | [], _, hl => hl
 | x :: r, l, hl => q03 h r _ (W0d h x l hl)
theorem C8 {α : Type} {cf : α → α → Int} (h : Q7 cf) (z : α) : ∀ (r l : List α), z ∈ K7 cf l r ↔ z ∈ l ∨ z ∈ r
 | [], l => by simp [K7]
 | x :: r, l => by
  rw [K7, C8 h z r, m04 h]
  simp only [List.mem_cons]
  by_cases a : z = x <;> by_cases b : z ∈ l <;> simp [a, b]
theorem X0d {α : Type} {cf : α → α → Int} (h : Q7 cf) {eq : α → α → Bool} (he : ∀ x y, eq x y = true ↔ x = y) (l r : List α) (hm : ∀ x, x ∈ l ↔ x ∈ r) : V0d cf eq l = K7 cf [] r :=
 H09 h (v0h h he l) (q03 h r [] .nil) fun x => by rw [w0h he, C8 h, hm]; simp
end Go.H
