/- Plain laws: comparisons that order, strictly ordered lists, and what a sort without doubles is. -/
import Derived.Test.YtknoadmdnjaocaaGreatH34
import Derived.Test.YtknoadmdnjaocaaGreatH33
open Go.Sort Go.Proofs
namespace Go.H
set_option linter.unusedVariables false
theorem E8.cmp {α : Type} {cf : α → α → Int} (h : E8 cf) : Cmp cf := by
 refine ⟨⟨fun x => ?_, fun x y z h1 h2 => ?_, fun x y z h1 h2 => ?_⟩, fun x y h1 h2 => ?_⟩
 ·simp [ltOf, h.refl]
 ·simp only [ltOf, decide_eq_true_eq] at *; exact h.trans x y z h1 h2
 ·simp only [ltOf, decide_eq_false_iff_not] at *
  intro h3
  have a1 := h.anti x y
  rcases Int.lt_or_le (cf y x) 0 with h4 | h4
  ·exact h2 (h.trans y x z h4 h3)
  ·have : cf x y = 0 := by omega
   rw [h.eq _ _ this] at h3
   exact h2 h3
 ·simp only [ltOf, decide_eq_false_iff_not] at *
  have a1 := h.anti x y
  exact h.eq x y (by omega)
def Y8 {α : Type} (eq : α → α → Bool) : α → List α → List α
 | _, [] => []
 | p, y :: l => bif eq y p then Y8 eq y l else y :: Y8 eq y l
def n01 {α : Type} (eq : α → α → Bool) : List α → List α
 | [] => []
 | x :: l => x :: Y8 eq x l
def Asc {α : Type} (cf : α → α → Int) (l : List α) : Prop := l.Pairwise fun a b => cf a b < 0
theorem F0a {α : Type} {cf : α → α → Int} (h : E8 cf) {l1 l2 : List α} (h1 : Asc cf l1) (h2 : Asc cf l2) (hm : ∀ x, x ∈ l1 ↔ x ∈ l2) : l1 = l2 := by
 have nd : ∀ {l : List α}, Asc cf l → l.Nodup := fun h' => h'.imp fun {a b} hab e => by rw [e, h.refl] at hab; omega
 refine D01 (R := fun a b => cf a b < 0) (fun x y e1 e2 => ?_) ((List.perm_ext_iff_of_nodup (nd h1) (nd h2)).2 hm) h1 h2
 have := h.anti x y
 omega
theorem y06 {α : Type} (eq : α → α → Bool) : ∀ (l : List α) (p : α), (Y8 eq p l).Sublist l
 | [], _ => .slnil
 | y :: l, p => by
  unfold Y8
  cases eq y p
  ·exact (y06 eq l y).cons_cons y
  ·exact (y06 eq l y).cons y
theorem G0a {α : Type} {cf : α → α → Int} (h : E8 cf) {eq : α → α → Bool} (he : ∀ x y, eq x y = true ↔ x = y) : ∀ (l : List α) (p : α), (p :: l).Pairwise (fun a b => ltOf cf b a = false) → Asc cf (p :: Y8 eq p l)
 | [], p, _ => by simp [Y8, Asc]
 | y :: l, p, hs => by
  obtain ⟨h1, h2⟩ := List.pairwise_cons.1 hs
  have ih := G0a h he l y h2
  unfold Y8
  cases hc : eq y p with
  | true => rw [(he _ _).1 hc] at ih ⊢; exact ih
  | false =>
   show Asc cf (p :: y :: Y8 eq y l)
   have hyp : cf p y < 0 := by
    have := h1 y (List.mem_cons_self ..)
    simp only [ltOf, decide_eq_false_iff_not] at this
    have a := h.anti p y
    rcases Int.lt_or_le (cf p y) 0 with h3 | h3
    ·exact h3
    ·have e := h.eq p y (by omega)
     have := (he y p).2 e.symm
     rw [hc] at this; cases this
   refine List.pairwise_cons.2 ⟨fun z hz => ?_, ih⟩
   rcases List.mem_cons.1 hz with rfl | hz
   ·exact hyp
   ·exact h.trans _ _ _ hyp ((List.pairwise_cons.1 ih).1 z hz)
theorem H0a {α : Type} {eq : α → α → Bool} (he : ∀ x y, eq x y = true ↔ x = y) (x : α) : ∀ (l : List α) (p : α), x ∈ p :: Y8 eq p l ↔ x ∈ p :: l
 | [], p => by simp [Y8]
 | y :: l, p => by
  have ih := H0a he x l y
  unfold Y8
  cases hc : eq y p with
  | true =>
   have e := (he _ _).1 hc
   subst e
   simp only [cond_true, List.mem_cons] at *
   rw [ih]; simp
  | false => simp only [cond_false, List.mem_cons] at *; rw [ih]
def J0e {α : Type} (cf : α → α → Int) (eq : α → α → Bool) (l : List α) : List α := n01 eq (A03 cf l)
theorem I0i {α : Type} {cf : α → α → Int} (h : E8 cf) {eq : α → α → Bool} (he : ∀ x y, eq x y = true ↔ x = y) (l : List α) : Asc cf (J0e cf eq l) := by
 have := X02 h.cmp.swo l
 unfold J0e n01
 cases hs : A03 cf l with
 | nil => exact .nil
 | cons x m => rw [hs] at this; exact G0a h he m x this
theorem J0i {α : Type} {cf : α → α → Int} {eq : α → α → Bool} (he : ∀ x y, eq x y = true ↔ x = y) (x : α) (l : List α) : x ∈ J0e cf eq l ↔ x ∈ l := by
 rw [← (c02 cf l).mem_iff]
 unfold J0e n01
 cases A03 cf l with
 | nil => rfl
 | cons y m => exact H0a he x m y
def m00 {α : Type} (cf : α → α → Int) (x : α) : List α → List α
 | [] => [x]
 | y :: l => if cf x y < 0 then x :: y :: l else if cf x y = 0 then y :: l else y :: m00 cf x l
theorem X04 {α : Type} {cf : α → α → Int} (h : E8 cf) (x z : α) : ∀ l, z ∈ m00 cf x l ↔ z = x ∨ z ∈ l
 | [] => by simp [m00]
 | y :: l => by
  have ih := X04 h x z l
  unfold m00
  split
  ·simp
  ·split
   ·rename_i e; rw [h.eq _ _ e]; simp
   ·simp only [List.mem_cons, ih]; constructor <;> (rintro (e | e | e) <;> simp [e])
theorem K0e {α : Type} {cf : α → α → Int} (h : E8 cf) (x : α) : ∀ l, Asc cf l → Asc cf (m00 cf x l)
 | [], _ => by simp [m00, Asc]
 | y :: l, hl => by
  obtain ⟨h1, h2⟩ := List.pairwise_cons.1 hl
  unfold m00
  split
  ·rename_i hxy
   refine List.pairwise_cons.2 ⟨fun z hz => ?_, hl⟩
   rcases List.mem_cons.1 hz with rfl | hz
   ·exact hxy
   ·exact h.trans _ _ _ hxy (h1 z hz)
  ·split
   ·exact hl
   ·refine List.pairwise_cons.2 ⟨fun z hz => ?_, K0e h x l h2⟩
    rcases (X04 h x z l).1 hz with rfl | hz
    ·have := h.anti z y; omega
    ·exact h1 z hz
def t8 {α : Type} (cf : α → α → Int) : List α → List α → List α
 | l, [] => l
 | l, x :: r => t8 cf (m00 cf x l) r
theorem b04 {α : Type} {cf : α → α → Int} (h : E8 cf) : ∀ (r l : List α), Asc cf l → Asc cf (t8 cf l r)
 | [], _, hl => hl
 | x :: r, l, hl => b04 h r _ (K0e h x l hl)
theorem r9 {α : Type} {cf : α → α → Int} (h : E8 cf) (z : α) : ∀ (r l : List α), z ∈ t8 cf l r ↔ z ∈ l ∨ z ∈ r
 | [], l => by simp [t8]
 | x :: r, l => by
  rw [t8, r9 h z r, X04 h]
  simp only [List.mem_cons]
  by_cases a : z = x <;> by_cases b : z ∈ l <;> simp [a, b]
theorem L0e {α : Type} {cf : α → α → Int} (h : E8 cf) {eq : α → α → Bool} (he : ∀ x y, eq x y = true ↔ x = y) (l r : List α) (hm : ∀ x, x ∈ l ↔ x ∈ r) : J0e cf eq l = t8 cf [] r :=
 F0a h (I0i h he l) (b04 h r [] .nil) fun x => by rw [J0i he, r9 h, hm]; simp
end Go.H
