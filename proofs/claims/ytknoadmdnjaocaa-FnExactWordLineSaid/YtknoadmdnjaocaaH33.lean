/- Plain laws: comparisons that order. -/
import Derived.Test.YtknoadmdnjaocaaHE
namespace Go.H
set_option linter.unusedVariables false
structure J8 {α : Type} (cf : α → α → Int) : Prop where
 anti : ∀ x y, cf y x = - cf x y
 eq : ∀ x y, cf x y = 0 → x = y
 trans : ∀ x y z, cf x y < 0 → cf y z < 0 → cf x z < 0
theorem J8.refl {α : Type} {cf : α → α → Int} (h : J8 cf) (x : α) : cf x x = 0 := by have := h.anti x x; omega
def u00 (a b : Int) : Int := if a < b then -1 else if a > b then 1 else 0
theorem K02 : J8 u00 :=
  ⟨fun x y => by unfold u00; split <;> split <;> (try split) <;> omega, fun x y h => by unfold u00 at h; split at h <;> (try split at h) <;> omega,
   fun x y z h1 h2 => by unfold u00 at *; split at h1 <;> split at h2 <;> (try split at h1) <;> (try split at h2) <;> (try split) <;> omega⟩
theorem J8.on {α β : Type} {cf : α → α → Int} (h : J8 cf) (f : β → α) (hf : ∀ x y, f x = f y → x = y) : J8 fun x y => cf (f x) (f y) :=
 ⟨fun x y => h.anti _ _, fun x y e => hf x y (h.eq _ _ e), fun x y z => h.trans _ _ _⟩
def thenC (a b : Int) : Int := if a ≠ 0 then a else b
theorem J8.thenC {α β γ : Type} {c1 : α → α → Int} {c2 : β → β → Int} (h1 : J8 c1) (h2 : J8 c2) (f : γ → α) (g : γ → β) (hfg : ∀ x y, f x = f y → g x = g y → x = y) :
  J8 fun x y => H.thenC (c1 (f x) (f y)) (c2 (g x) (g y)) := by
 have hz : ∀ a b : Int, H.thenC a b = 0 ↔ a = 0 ∧ b = 0 := fun a b => by unfold H.thenC; split <;> omega
 have hn : ∀ a b : Int, H.thenC a b < 0 ↔ a < 0 ∨ a = 0 ∧ b < 0 := fun a b => by unfold H.thenC; split <;> omega
 refine ⟨fun x y => ?_, fun x y e => ?_, fun x y z e1 e2 => ?_⟩
 ·have a1 := h1.anti (f x) (f y); have a2 := h2.anti (g x) (g y)
  simp only [H.thenC, a1, a2]
  split <;> split <;> omega
 ·obtain ⟨e1, e2⟩ := (hz _ _).1 e
  exact hfg x y (h1.eq _ _ e1) (h2.eq _ _ e2)
 ·rw [hn] at e1 e2 ⊢
  rcases e1 with e1 | ⟨e1, k1⟩
  ·rcases e2 with e2 | ⟨e2, k2⟩
   ·exact .inl (h1.trans _ _ _ e1 e2)
   ·rw [h1.eq _ _ e2] at e1; exact .inl e1
  ·rw [h1.eq _ _ e1]
   rcases e2 with e2 | ⟨e2, k2⟩
   ·exact .inl e2
   ·exact .inr ⟨e2, h2.trans _ _ _ k1 k2⟩
def w01 {α : Type} (c : α → α → Int) : List α → List α → Int
 | [], [] => 0
 | [], _ :: _ => -1
 | _ :: _, [] => 1
 | x :: a, y :: b => thenC (c x y) (w01 c a b)
theorem F0d {α : Type} {c : α → α → Int} (h : J8 c) : J8 (w01 c) := by
 have hz : ∀ a b : Int, H.thenC a b = 0 ↔ a = 0 ∧ b = 0 := fun a b => by unfold H.thenC; split <;> omega
 have hn : ∀ a b : Int, H.thenC a b < 0 ↔ a < 0 ∨ a = 0 ∧ b < 0 := fun a b => by unfold H.thenC; split <;> omega
 refine ⟨fun x => ?_, fun x => ?_, fun x => ?_⟩
 ·induction x with
  | nil => intro y; cases y <;> simp [w01]
  | cons a x ih =>
   intro y
   cases y with
   | nil => simp [w01]
   | cons b y =>
    have a1 := h.anti a b; have a2 := ih y
    simp only [w01, H.thenC, a1, a2]
    split <;> split <;> omega
 ·induction x with
  | nil => intro y e; cases y <;> simp_all [w01]
  | cons a x ih =>
   intro y e
   cases y with
   | nil => simp [w01] at e
   | cons b y =>
    obtain ⟨e1, e2⟩ := (hz _ _).1 e
    rw [h.eq _ _ e1, ih y e2]
 ·induction x with
  | nil => intro y z e1 e2; cases y <;> cases z <;> simp_all [w01]
  | cons a x ih =>
   intro y z e1 e2
   cases y with
   | nil => simp [w01] at e1
   | cons b y =>
    cases z with
    | nil => simp [w01] at e2
    | cons c' z =>
     simp only [w01] at e1 e2 ⊢
     rw [hn] at e1 e2 ⊢
     rcases e1 with e1 | ⟨e1, k1⟩
     ·rcases e2 with e2 | ⟨e2, k2⟩
      ·exact .inl (h.trans _ _ _ e1 e2)
      ·rw [h.eq _ _ e2] at e1; exact .inl e1
     ·rw [h.eq _ _ e1]
      rcases e2 with e2 | ⟨e2, k2⟩
      ·exact .inl e2
      ·exact .inr ⟨e2, ih y z k1 k2⟩
theorem J04 (a b : Int) : D0 (u00 a b) := by unfold u00; split <;> (try split) <;> decide
def W06 (x : Int) : Int := if x < 0 then 1 - 2 * x else 2 * x
theorem G0d (x y : Int) (h : W06 x = W06 y) : x = y := by unfold W06 at h; split at h <;> split at h <;> omega
def l03 (x y : Int) : Int := u00 (W06 x) (W06 y)
theorem f0a : J8 l03 := K02.on W06 G0d
theorem L0b (a b : Int) : D0 (l03 a b) := J04 _ _
def S1 (a b : List Int) : Int := thenC (u00 (a.length : Int) (b.length : Int)) (w01 l03 a b)
theorem X06 : J8 S1 := K02.thenC (F0d f0a) (fun a : List Int => (a.length : Int)) (fun a => a) fun _ _ _ h => h
def eqW (a b : List Int) : Bool := decide (a = b)
end Go.H
