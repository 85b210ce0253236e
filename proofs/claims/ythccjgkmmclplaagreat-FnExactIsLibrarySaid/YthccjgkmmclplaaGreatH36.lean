/- Plain laws: comparisons that order, strictly ordered lists, and what a sort without doubles is. -/
import Derived.Test.YthccjgkmmclplaaGreatH34
import Derived.Test.YthccjgkmmclplaaGreatH33
open Go.Sort Go.Proofs
namespace Go.H
set_option linter.unusedVariables false

theorem CmpLin.cmp {α : Type} {cf : α → α → Int} (h : CmpLin cf) : Cmp cf := by
  refine ⟨⟨fun x => ?_, fun x y z h1 h2 => ?_, fun x y z h1 h2 => ?_⟩, fun x y h1 h2 => ?_⟩
  · simp [ltOf, h.refl]
  · simp only [ltOf, decide_eq_true_eq] at *; exact h.trans x y z h1 h2
  · simp only [ltOf, decide_eq_false_iff_not] at *
    intro h3
    have a1 := h.anti x y
    rcases Int.lt_or_le (cf y x) 0 with h4 | h4
    · exact h2 (h.trans y x z h4 h3)
    · have : cf x y = 0 := by omega
      rw [h.eq _ _ this] at h3
      exact h2 h3
  · simp only [ltOf, decide_eq_false_iff_not] at *
    have a1 := h.anti x y
    exact h.eq x y (by omega)

/-- neighbours that are equal: the first one alone stays -/
def compGo {α : Type} (eq : α → α → Bool) : α → List α → List α
  | _, [] => []
  | p, y :: l => bif eq y p then compGo eq y l else y :: compGo eq y l
def compL {α : Type} (eq : α → α → Bool) : List α → List α
  | [] => []
  | x :: l => x :: compGo eq x l
/-- in order, each once -/
def Asc {α : Type} (cf : α → α → Int) (l : List α) : Prop := l.Pairwise fun a b => cf a b < 0
theorem asc_unique {α : Type} {cf : α → α → Int} (h : CmpLin cf) {l1 l2 : List α} (h1 : Asc cf l1) (h2 : Asc cf l2) (hm : ∀ x, x ∈ l1 ↔ x ∈ l2) : l1 = l2 := by
  have nd : ∀ {l : List α}, Asc cf l → l.Nodup := fun h' => h'.imp fun {a b} hab e => by rw [e, h.refl] at hab; omega
  refine sorted_unique (R := fun a b => cf a b < 0) (fun x y e1 e2 => ?_) ((List.perm_ext_iff_of_nodup (nd h1) (nd h2)).2 hm) h1 h2
  have := h.anti x y
  omega
theorem compGo_sub {α : Type} (eq : α → α → Bool) : ∀ (l : List α) (p : α), (compGo eq p l).Sublist l
  | [], _ => .slnil
  | y :: l, p => by
    unfold compGo
    cases eq y p
    · exact (compGo_sub eq l y).cons_cons y
    · exact (compGo_sub eq l y).cons y
theorem compGo_asc {α : Type} {cf : α → α → Int} (h : CmpLin cf) {eq : α → α → Bool} (he : ∀ x y, eq x y = true ↔ x = y) : ∀ (l : List α) (p : α), (p :: l).Pairwise (fun a b => ltOf cf b a = false) → Asc cf (p :: compGo eq p l)
  | [], p, _ => by simp [compGo, Asc]
  | y :: l, p, hs => by
    obtain ⟨h1, h2⟩ := List.pairwise_cons.1 hs
    have ih := compGo_asc h he l y h2
    unfold compGo
    cases hc : eq y p with
    | true => rw [(he _ _).1 hc] at ih ⊢; exact ih
    | false =>
      show Asc cf (p :: y :: compGo eq y l)
      have hyp : cf p y < 0 := by
        have := h1 y (List.mem_cons_self ..)
        simp only [ltOf, decide_eq_false_iff_not] at this
        have a := h.anti p y
        rcases Int.lt_or_le (cf p y) 0 with h3 | h3
        · exact h3
        · have e := h.eq p y (by omega)
          have := (he y p).2 e.symm
          rw [hc] at this; cases this
      refine List.pairwise_cons.2 ⟨fun z hz => ?_, ih⟩
      rcases List.mem_cons.1 hz with rfl | hz
      · exact hyp
      · exact h.trans _ _ _ hyp ((List.pairwise_cons.1 ih).1 z hz)
theorem compGo_mem {α : Type} {eq : α → α → Bool} (he : ∀ x y, eq x y = true ↔ x = y) (x : α) : ∀ (l : List α) (p : α), x ∈ p :: compGo eq p l ↔ x ∈ p :: l
  | [], p => by simp [compGo]
  | y :: l, p => by
    have ih := compGo_mem he x l y
    unfold compGo
    cases hc : eq y p with
    | true =>
      have e := (he _ _).1 hc
      subst e
      simp only [cond_true, List.mem_cons] at *
      rw [ih]; simp
    | false => simp only [cond_false, List.mem_cons] at *; rw [ih]
/-- sorted, each once -/
def uniqL {α : Type} (cf : α → α → Int) (eq : α → α → Bool) (l : List α) : List α := compL eq (srtL cf l)
theorem uniqL_asc {α : Type} {cf : α → α → Int} (h : CmpLin cf) {eq : α → α → Bool} (he : ∀ x y, eq x y = true ↔ x = y) (l : List α) : Asc cf (uniqL cf eq l) := by
  have := srtL_sorted h.cmp.swo l
  unfold uniqL compL
  cases hs : srtL cf l with
  | nil => exact .nil
  | cons x m => rw [hs] at this; exact compGo_asc h he m x this
theorem uniqL_mem {α : Type} {cf : α → α → Int} {eq : α → α → Bool} (he : ∀ x y, eq x y = true ↔ x = y) (x : α) (l : List α) : x ∈ uniqL cf eq l ↔ x ∈ l := by
  rw [← (srtL_perm cf l).mem_iff]
  unfold uniqL compL
  cases srtL cf l with
  | nil => rfl
  | cons y m => exact compGo_mem he x m y
/-- into an ascending list -/
def putL {α : Type} (cf : α → α → Int) (x : α) : List α → List α
  | [] => [x]
  | y :: l => if cf x y < 0 then x :: y :: l else if cf x y = 0 then y :: l else y :: putL cf x l
theorem putL_mem {α : Type} {cf : α → α → Int} (h : CmpLin cf) (x z : α) : ∀ l, z ∈ putL cf x l ↔ z = x ∨ z ∈ l
  | [] => by simp [putL]
  | y :: l => by
    have ih := putL_mem h x z l
    unfold putL
    split
    · simp
    · split
      · rename_i e; rw [h.eq _ _ e]; simp
      · simp only [List.mem_cons, ih]; constructor <;> (rintro (e | e | e) <;> simp [e])
theorem putL_asc {α : Type} {cf : α → α → Int} (h : CmpLin cf) (x : α) : ∀ l, Asc cf l → Asc cf (putL cf x l)
  | [], _ => by simp [putL, Asc]
  | y :: l, hl => by
    obtain ⟨h1, h2⟩ := List.pairwise_cons.1 hl
    unfold putL
    split
    · rename_i hxy
      refine List.pairwise_cons.2 ⟨fun z hz => ?_, hl⟩
      rcases List.mem_cons.1 hz with rfl | hz
      · exact hxy
      · exact h.trans _ _ _ hxy (h1 z hz)
    · split
      · exact hl
      · refine List.pairwise_cons.2 ⟨fun z hz => ?_, putL_asc h x l h2⟩
        rcases (putL_mem h x z l).1 hz with rfl | hz
        · have := h.anti z y; omega
        · exact h1 z hz
def putAll {α : Type} (cf : α → α → Int) : List α → List α → List α
  | l, [] => l
  | l, x :: r => putAll cf (putL cf x l) r
theorem putAll_asc {α : Type} {cf : α → α → Int} (h : CmpLin cf) : ∀ (r l : List α), Asc cf l → Asc cf (putAll cf l r)
  | [], _, hl => hl
  | x :: r, l, hl => putAll_asc h r _ (putL_asc h x l hl)
theorem putAll_mem {α : Type} {cf : α → α → Int} (h : CmpLin cf) (z : α) : ∀ (r l : List α), z ∈ putAll cf l r ↔ z ∈ l ∨ z ∈ r
  | [], l => by simp [putAll]
  | x :: r, l => by
    rw [putAll, putAll_mem h z r, putL_mem h]
    simp only [List.mem_cons]
    by_cases a : z = x <;> by_cases b : z ∈ l <;> simp [a, b]
theorem uniqL_eq {α : Type} {cf : α → α → Int} (h : CmpLin cf) {eq : α → α → Bool} (he : ∀ x y, eq x y = true ↔ x = y) (l r : List α) (hm : ∀ x, x ∈ l ↔ x ∈ r) : uniqL cf eq l = putAll cf [] r :=
  asc_unique h (uniqL_asc h he l) (putAll_asc h r [] .nil) fun x => by rw [uniqL_mem he, putAll_mem h, hm]; simp
end Go.H
