/- Texts of the claim, joined: Plain laws: words and presentations, as the spec and the code know the; Plain laws: lists of words, and presentations, as the spec and the cod; Plain laws: graphs, as the spec and the code know them; Plain laws: steps in a graph; Plain laws: graphs: degrees, equality, edges put in order, sorted edge; Plain laws: valid graphs said in words; folds of a graph; Plain laws: what folding computes, of the spec and of the code; Plain laws: paths, vertices and edges added; the steps that are missin; Plain laws: vertices and edges added; the steps that are missing; Plain laws: the first defect; Plain laws: one step of the coset enumeration. -/
import Derived.Test.YtfdlgbfeceodeaaGreatPart17
import Derived.Test.YtfdlgbfeceodeaaGreatH33
import Derived.Test.YtfdlgbfeceodeaaGreatH36
import Derived.Test.YtfdlgbfeceodeaaGreatPart16
namespace Go.Proofs.YtfdlgbfeceodeaaGreat
open Go.H
set_option linter.unusedVariables false
set_option linter.unusedSimpArgs false
theorem Y1 {n : Nat} (h : n ≤ 140737488355328) : n < D1 := by unfold D1; omega
theorem Q0 {p : Prop} [Decidable p] (h : p) : grd p = some () := by unfold grd; rw [if_pos h]
theorem M3 {α : Type} (o : Option α) (d : α) : chk true o d = o := rfl
theorem G7 {α : Type} (o : Option α) (d : α) : chk false o d = some d := rfl
theorem E4 {α : Type} {xs : List α} {k : Nat} {x : α} (h : xs[k]? = some x) : gi xs (k : Int) = some x := by rw [G0h]; exact h
theorem f07 {α : Type} {xs : List α} {x : α} (h : xs[0]? = some x) : gi xs 0 = some x := E4 (k := 0) h
theorem D0c {x : Int} (h : J0 x) (h2 : x ≠ -9223372036854775808) : IntKind.i64.wrap (0 - x) = -x := by rw [w64 (by have := h.1; have := h.2; omega) (by have := h.1; have := h.2; omega)]; omega
theorem n09 {n : Nat} (h : 0 < n) (hm : n ≤ 9223372036854775807) : IntKind.i64.wrap ((n : Int) - 1) = ((n - 1 : Nat) : Int) := by rw [w64 (by omega) (by omega)]; omega
theorem S6 {α : Type} {xs : List α} {k : Nat} (h : k < xs.length) : xs[k]? = some xs[k] := List.getElem?_eq_getElem h
def inR (lo hi x : Int) : Bool := decide (lo ≤ x) && decide (x ≤ hi)
def V02 (lo hi : Int) (w : List Int) (i : Nat) : Bool :=
 match w[i]? with
 | none => true
 | some x => x == 0 || !inR lo hi x || (decide (0 < i) && match w[i - 1]? with
  | none => true
  | some y => x == IntKind.i64.wrap (0 - y))
def S00 (lo hi : Int) (w : List Int) : Nat → Nat → Bool
 | 0, _ => true
 | d + 1, k => !V02 lo hi w k && S00 lo hi w d (k + 1)
def E6 (r : Int) (w : List Int) : Bool := inR 1 3 r && decide (w.length ≤ 24) && S00 (-r) r w w.length 0
theorem s03 (a b c : Int) : f4 a b c = some (inR b c a) := by
 unfold f4 inR
 by_cases h : b ≤ a <;> simp [h]
theorem R01 (a b c : Int) : B5 a b c = some (inR b c a) := s03 a b c
theorem W02 (r : Int) (w : List Int) (hl : w.length ≤ 140737488355328) : ∀ (d k fuel : Nat), k + d = w.length → d < fuel →
  I6 w r fuel (k : Int) = some (bif S00 (IntKind.i64.wrap (0 - r)) r w d k then .inr () else .inl false)
 | d, k, 0, hk, hf => by omega
 | 0, k, fuel + 1, hk, hf => by
  rw [z9, if_neg (by simp; omega)]
  simp [S00]
 | d + 1, k, fuel + 1, hk, hf => by
  have hkl : k < w.length := by omega
  have hx := S6 hkl
  generalize w[k] = x at hx
  have next := W02 r w hl d (k + 1) fuel (by omega) (by omega)
  rw [z9, if_pos (by simp; omega)]
  generalize IntKind.i64.wrap (0 - r) = lo at next ⊢
  simp only [E4 hx, Option.bind_some, s03, X2 hkl (by omega : w.length ≤ 9223372036854775807), next]
  have hbad : V02 lo r w k = (x == 0 || !inR lo r x || (decide (0 < k) && match w[k - 1]? with
   | none => true
   | some y => x == IntKind.i64.wrap (0 - y))) := by unfold V02; rw [hx]
  simp only [S00, hbad]
  by_cases h0 : x = 0
  ·simp [h0, chk]
  have e0 : decide (x = 0) = false := by simpa using h0
  have b0 : (x == 0) = false := by simpa using h0
  cases hin : inR lo r x with
  | false => simp [e0, b0, hin, chk]
  | true =>
   by_cases hk0 : k = 0
   ·have ek : decide ((k : Int) > 0) = false := by simp; omega
    have bk : decide (0 < k) = false := by simp; omega
    simp only [e0, b0, hin, ek, bk, M3, G7, Bool.not_true, Bool.not_false, Bool.and_true, Bool.false_and, Bool.or_self, Bool.true_and, cond_true, cond_false, Option.bind_some, Bool.or_false, Bool.and_false, Bool.false_eq_true, if_false, cond_true, cond_false]
   ·have hy := S6 (show k - 1 < w.length by omega)
    generalize w[k - 1] = y at hy
    have hpr : IntKind.i64.wrap ((k : Int) - 1) = ((k - 1 : Nat) : Int) := n09 (by omega) (by omega)
    have ek : decide ((k : Int) > 0) = true := by simp; omega
    have bk : decide (0 < k) = true := by simp; omega
    simp only [e0, b0, hin, ek, bk, hpr, hy, E4 hx, E4 hy, M3, G7, Bool.not_true, Bool.not_false, Bool.and_true, Bool.false_and, Bool.or_self, Bool.true_and, cond_true, cond_false, Option.bind_some, Bool.or_false, Bool.and_false, Bool.false_or]
    by_cases hxy : x = IntKind.i64.wrap (0 - y)
    ·have e1 : decide (x = IntKind.i64.wrap (0 - y)) = true := by simpa using hxy
     have b1 : (x == IntKind.i64.wrap (0 - y)) = true := by simpa using hxy
     simp only [e1, b1, if_true, Bool.not_true, Bool.false_and, Bool.false_eq_true, if_false, cond_true, cond_false]
    ·have e1 : decide (x = IntKind.i64.wrap (0 - y)) = false := by simpa using hxy
     have b1 : (x == IntKind.i64.wrap (0 - y)) = false := by simpa using hxy
     simp only [e1, b1, Bool.false_eq_true, if_false, Bool.not_false, Bool.true_and]
theorem d06 (r : Int) (w : List Int) (hl : w.length ≤ 140737488355328) : T7 r w = some (E6 r w) := by
 unfold T7
 have h := W02 r w hl w.length 0 D1 (by omega) (Y1 hl)
 rw [show ((0 : Nat) : Int) = 0 from rfl] at h
 rw [h, s03]
 unfold E6
 by_cases hr : inR 1 3 r = true
 ·have : IntKind.i64.wrap (0 - r) = -r := by
   simp only [inR, Bool.and_eq_true, decide_eq_true_eq] at hr
   rw [w64 (by omega) (by omega)]; omega
  rw [this, hr]
  cases S00 (-r) r w w.length 0 <;> simp [A8] <;> omega
 ·simp only [Bool.not_eq_true] at hr
  rw [hr]
  cases S00 (IntKind.i64.wrap (0 - r)) r w w.length 0 <;> simp [A8]
theorem H0d (r x : Int) (hr : inR 1 3 r = true) : E7 r x = some (!(x == 0) && inR (-r) r x) := by
 have hn : IntKind.i64.wrap (0 - r) = -r := by
  simp only [inR, Bool.and_eq_true, decide_eq_true_eq] at hr
  rw [w64 (by omega) (by omega)]; omega
 unfold E7
 rw [hn, R01]
 by_cases h0 : x = 0
 ·simp [h0, chk]
 ·simp [h0, chk]
theorem e06 (y x : Int) : Q4 y x = some (!(y == 0) && !(y == -9223372036854775808) && (x == IntKind.i64.wrap (0 - y))) := by
 unfold Q4
 by_cases h0 : y = 0
 ·simp [h0]
 ·by_cases h1 : y = -9223372036854775808
  ·simp [h1]
  ·simp only [h0, h1, decide_false, Bool.not_false, cond_true, Option.some.injEq]
   have b2 : (y == 0) = false := by simpa using h0
   have b3 : (y == -9223372036854775808) = false := by simpa using h1
   rw [b2, b3]
   rfl
theorem X02 (r : Int) (w : List Int) (hr : inR 1 3 r = true) (hl : w.length ≤ 140737488355328) : ∀ (d k fuel : Nat), k + d = w.length → d < fuel →
  (∀ i, i < k → V02 (-r) r w i = false) →
  K6 w r fuel (k : Int) = some (bif S00 (-r) r w d k then .inr () else .inl false)
 | d, k, 0, hk, hf, hp => by omega
 | 0, k, fuel + 1, hk, hf, hp => by
  rw [A9, if_neg (by simp; omega)]
  simp [S00]
 | d + 1, k, fuel + 1, hk, hf, hp => by
  have hkl : k < w.length := by omega
  have hx := S6 hkl
  generalize w[k] = x at hx
  have next := fun (hb : V02 (-r) r w k = false) => X02 r w hr hl d (k + 1) fuel (by omega) (by omega) (fun i hi => by
   by_cases e : i = k
   ·subst e; exact hb
   ·exact hp i (by omega))
  rw [A9, if_pos (by simp; omega)]
  rw [E4 hx, Option.bind_some, H0d r x hr, X2 hkl (by omega : w.length ≤ 9223372036854775807)]
  have hbad : V02 (-r) r w k = (x == 0 || !inR (-r) r x || (decide (0 < k) && match w[k - 1]? with
   | none => true
   | some y => x == IntKind.i64.wrap (0 - y))) := by unfold V02; rw [hx]
  simp only [S00]
  by_cases h0 : x = 0
  ·simp [h0, chk, hbad]
  have b0 : (x == 0) = false := by simpa using h0
  cases hin : inR (-r) r x with
  | false => simp [b0, hin, chk, hbad]
  | true =>
   by_cases hk0 : k = 0
   ·have hb : V02 (-r) r w k = false := by rw [hbad]; simp [h0, hin, hk0]
    rw [next hb, hb]
    have ek : decide ((k : Int) > 0) = false := by simp; omega
    simp only [b0, ek, M3, G7, Bool.not_true, Bool.not_false, Bool.and_true, Bool.false_and, Bool.or_self, Bool.true_and, cond_true, cond_false, Option.bind_some, Bool.or_false, Bool.and_false, Bool.false_eq_true, if_false, cond_true, cond_false]
   ·have hy := S6 (show k - 1 < w.length by omega)
    have hpy := hp (k - 1) (by omega)
    generalize w[k - 1] = y at hy
    have hy0 : y ≠ 0 ∧ y ≠ -9223372036854775808 := by
     unfold V02 at hpy
     rw [hy] at hpy
     simp only [Bool.or_eq_false_iff, Bool.not_eq_false'] at hpy
     have h1 := hpy.1.2
     simp only [inR, Bool.and_eq_true, decide_eq_true_eq] at h1 hr
     exact ⟨by simpa using hpy.1.1, by omega⟩
    have b2 : (y == 0) = false := by simpa using hy0.1
    have b3 : (y == -9223372036854775808) = false := by simpa using hy0.2
    have hpr : IntKind.i64.wrap ((k : Int) - 1) = ((k - 1 : Nat) : Int) := n09 (by omega) (by omega)
    have ek : decide ((k : Int) > 0) = true := by simp; omega
    have bk : decide (0 < k) = true := by simp; omega
    simp only [b0, ek, hpr, E4 hy, e06, b2, b3, M3, G7, Bool.not_true, Bool.not_false, Bool.and_true, Bool.false_and, Bool.or_self, Bool.true_and, cond_true, cond_false, Option.bind_some, Bool.or_false, Bool.and_false, Bool.false_or]
    cases b1 : (x == IntKind.i64.wrap (0 - y)) with
    | true =>
     have hb : V02 (-r) r w k = true := by rw [hbad, hy, bk, b0, hin]; exact b1
     simp only [hb, if_true, Bool.not_true, Bool.false_and, Bool.false_eq_true, if_false, cond_true, cond_false]
    | false =>
     have hb : V02 (-r) r w k = false := by rw [hbad, hy, bk, b0, hin]; exact b1
     simp only [hb, next hb, Bool.false_eq_true, if_false, Bool.not_false, Bool.true_and]
theorem f06 (r : Int) (w : List Int) (hl : w.length ≤ 140737488355328) : U7 r w = some (E6 r w) := by
 unfold U7
 rw [R01]
 unfold E6
 cases hr : inR 1 3 r with
 | false => simp
 | true =>
  by_cases h24 : w.length ≤ 24
  ·have h := X02 r w hr hl w.length 0 D1 (by omega) (Y1 hl) (fun i hi => by omega)
   rw [show ((0 : Nat) : Int) = 0 from rfl] at h
   have h24' : ¬ (24 : Int) < (w.length : Int) := by omega
   simp only [Option.bind_some, h, h24']
   cases S00 (-r) r w w.length 0 <;> simp [A8, h24]
  ·have h24' : (24 : Int) < (w.length : Int) := by omega
   simp [h24, h24']
end Go.Proofs.YtfdlgbfeceodeaaGreat
namespace Go.Proofs.YtfdlgbfeceodeaaGreat
open Go.H
set_option linter.unusedVariables false
set_option linter.unusedSimpArgs false
def tot : List (List Int) → Nat
 | [] => 0
 | w :: r => w.length + tot r
theorem P2 {α : Type} {xs : List α} {k : Nat} {x : α} (h : xs[k]? = some x) : xs.drop k = x :: xs.drop (k + 1) := by
 obtain ⟨hk, rfl⟩ := List.getElem?_eq_some_iff.1 h
 exact List.drop_eq_getElem_cons hk
theorem Z1 {α : Type} {xs : List α} {k : Nat} (h : k = xs.length) : xs.drop k = [] := by rw [h]; exact List.drop_length
theorem H00 (ws : List (List Int)) (hl : ws.length ≤ 140737488355328) : ∀ (d k fuel a : Nat), k + d = ws.length → d < fuel → a + tot (ws.drop k) ≤ 9223372036854775807 →
  P3 ws fuel (a : Int) (k : Int) = some ((a + tot (ws.drop k) : Nat) : Int)
 | d, k, 0, a, hk, hf, ht => by omega
 | 0, k, fuel + 1, a, hk, hf, ht => by
  rw [P5, if_neg (by simp; omega), Z1 (by omega)]
  rfl
 | d + 1, k, fuel + 1, a, hk, hf, ht => by
  have hkl : k < ws.length := by omega
  have hx := S6 hkl
  generalize ws[k] = x at hx
  rw [P2 hx] at ht ⊢
  simp only [tot] at ht ⊢
  rw [P5, if_pos (by simp; omega), E4 hx, Option.bind_some, X2 hkl (by omega : ws.length ≤ 9223372036854775807),
   show IntKind.i64.wrap ((a : Int) + ((x.length : Nat) : Int)) = ((a + x.length : Nat) : Int) by rw [w64 (by omega) (by omega)]; omega,
   H00 ws hl d (k + 1) fuel (a + x.length) (by omega) (by omega) (by omega)]
  rw [Nat.add_assoc]
theorem l02 (ws : List (List Int)) (hl : ws.length ≤ 140737488355328) (ht : tot ws ≤ 9223372036854775807) : U5 ws = some ((tot ws : Nat) : Int) := by
 unfold U5
 have h := H00 ws hl ws.length 0 D1 0 (by omega) (Y1 hl) (by simpa using ht)
 rw [show ((0 : Nat) : Int) = 0 from rfl] at h
 rw [h]
 simp
theorem q00 (ws : List (List Int)) : ∀ (fuel : Nat) (a k : Int), C4 ws fuel a k = P3 ws fuel a k
 | 0, a, k => rfl
 | fuel + 1, a, k => by
  rw [S9, P5]
  simp only [q00 ws fuel]
theorem g06 (ws : List (List Int)) (hl : ws.length ≤ 140737488355328) (ht : tot ws ≤ 9223372036854775807) : i7 ws = some ((tot ws : Nat) : Int) := by
 rw [← l02 ws hl ht]
 unfold i7 U5
 rw [q00]
def h06 (r : Int) : List (List Int) → Bool
 | [] => true
 | w :: l => E6 r w && h06 r l
def N8 (r : Int) (ws : List (List Int)) : Bool := inR 1 3 r && decide (ws.length ≤ 6) && h06 r ws && decide (tot ws < 40)
theorem o09 {r : Int} : ∀ {ws : List (List Int)}, h06 r ws = true → tot ws ≤ 24 * ws.length
 | [], _ => by simp [tot]
 | w :: l, h => by
  simp only [h06, Bool.and_eq_true] at h
  have h1 := h.1
  simp only [E6, Bool.and_eq_true, decide_eq_true_eq] at h1
  have := o09 h.2
  simp only [tot, List.length_cons]
  omega
def H5 (ws : List (List Int)) : Prop := ∀ w ∈ ws, w.length ≤ 140737488355328
theorem S01 (r : Int) (ws : List (List Int)) (hl : ws.length ≤ 140737488355328) (hs : H5 ws) : ∀ (d k fuel : Nat), k + d = ws.length → d < fuel →
  D5 ws r fuel (k : Int) = some (bif h06 r (ws.drop k) then .inr () else .inl false)
 | d, k, 0, hk, hf => by omega
 | 0, k, fuel + 1, hk, hf => by
  rw [H8, if_neg (by simp; omega), Z1 (by omega)]
  rfl
 | d + 1, k, fuel + 1, hk, hf => by
  have hkl : k < ws.length := by omega
  have hx := S6 hkl
  have hsx := hs _ (List.mem_of_getElem? hx)
  generalize ws[k] = x at hx hsx
  rw [P2 hx, H8, if_pos (by simp; omega), E4 hx, Option.bind_some, d06 r x hsx, Option.bind_some, X2 hkl (by omega : ws.length ≤ 9223372036854775807),
   S01 r ws hl hs d (k + 1) fuel (by omega) (by omega)]
  simp only [h06]
  cases E6 r x <;> simp
theorem p09 (r : Int) (ws : List (List Int)) (hl : ws.length ≤ 140737488355328) (hs : H5 ws) : S8 r ws = some (N8 r ws) := by
 unfold S8
 have h := S01 r ws hl hs ws.length 0 D1 (by omega) (Y1 hl)
 rw [show ((0 : Nat) : Int) = 0 from rfl, List.drop_zero] at h
 rw [h, Option.bind_some]
 unfold N8
 cases ha : h06 r ws with
 | false => simp [A8]
 | true =>
  rw [cond_true, J1, s03, Option.bind_some]
  have := o09 ha
  cases hr : inR 1 3 r with
  | false => simp [chk, grd, J0]
  | true =>
   by_cases h6 : ws.length ≤ 6
   ·rw [l02 ws hl (by omega)]
    have h6' : decide (((ws.length : Nat) : Int) ≤ 6) = true := by simp; omega
    have h6'' : decide (ws.length ≤ 6) = true := by simpa using h6
    rw [h6', h6'', cond_true, M3, Option.bind_some, Q0 (by constructor <;> omega)]
    simp
    omega
   ·have h6' : decide (((ws.length : Nat) : Int) ≤ 6) = false := by simp; omega
    have h6'' : decide (ws.length ≤ 6) = false := by simpa using h6
    rw [h6', h6'']
    simp [chk, grd, J0]
theorem T01 (r : Int) (ws : List (List Int)) (hl : ws.length ≤ 140737488355328) (hs : H5 ws) : ∀ (d k fuel : Nat), k + d = ws.length → d < fuel →
  E5 ws r fuel (k : Int) = some (bif h06 r (ws.drop k) then .inr () else .inl false)
 | d, k, 0, hk, hf => by omega
 | 0, k, fuel + 1, hk, hf => by
  rw [I8, if_neg (by simp; omega), Z1 (by omega)]
  rfl
 | d + 1, k, fuel + 1, hk, hf => by
  have hkl : k < ws.length := by omega
  have hx := S6 hkl
  have hsx := hs _ (List.mem_of_getElem? hx)
  generalize ws[k] = x at hx hsx
  rw [P2 hx, I8, if_pos (by simp; omega), E4 hx, Option.bind_some, f06 r x hsx, Option.bind_some, X2 hkl (by omega : ws.length ≤ 9223372036854775807),
   T01 r ws hl hs d (k + 1) fuel (by omega) (by omega)]
  simp only [h06]
  cases E6 r x <;> simp
theorem q09 (r : Int) (ws : List (List Int)) (hl : ws.length ≤ 140737488355328) (hs : H5 ws) : T8 r ws = some (N8 r ws) := by
 unfold T8
 rw [R01, Option.bind_some]
 unfold N8
 cases hr : inR 1 3 r with
 | false => simp
 | true =>
  by_cases h6 : ws.length ≤ 6
  ·have h6' : decide (((ws.length : Nat) : Int) > 6) = false := by simp; omega
   have h6'' : decide (ws.length ≤ 6) = true := by simpa using h6
   have h := T01 r ws hl hs ws.length 0 D1 (by omega) (Y1 hl)
   rw [show ((0 : Nat) : Int) = 0 from rfl, List.drop_zero] at h
   rw [h6', h6'', h, Option.bind_some]
   cases ha : h06 r ws with
   | false => simp [A8]
   | true =>
    have := o09 ha
    simp only [cond_true, J1, g06 ws hl (by omega), Option.bind_some, Q0 (show J0 ((tot ws : Nat) : Int) by constructor <;> omega)]
    simp
    omega
  ·have h6' : decide (((ws.length : Nat) : Int) > 6) = true := by simp; omega
   have h6'' : decide (ws.length ≤ 6) = false := by simpa using h6
   rw [h6', h6'']
   simp
def cyc (w : List Int) : Bool := match w[0]?, w[w.length - 1]? with
 | some x, some y => !(x == IntKind.i64.wrap (0 - y))
 | _, _ => false
def E0c : List (List Int) → Bool
 | [] => true
 | w :: l => cyc w && E0c l
def O4 (x : M0) : Bool := N8 x.1 x.2 && E0c x.2
theorem a00 (ws : List (List Int)) (hl : ws.length ≤ 140737488355328) (hs : H5 ws) : ∀ (d k fuel : Nat), k + d = ws.length → d < fuel →
  K3 ws fuel (k : Int) = some (bif E0c (ws.drop k) then .inr () else .inl false)
 | d, k, 0, hk, hf => by omega
 | 0, k, fuel + 1, hk, hf => by
  rw [J6, if_neg (by simp; omega), Z1 (by omega)]
  rfl
 | d + 1, k, fuel + 1, hk, hf => by
  have hkl : k < ws.length := by omega
  have hx := S6 hkl
  have hsx := hs _ (List.mem_of_getElem? hx)
  generalize ws[k] = x at hx hsx
  rw [P2 hx, J6, if_pos (by simp; omega), E4 hx, Option.bind_some, X2 hkl (by omega : ws.length ≤ 9223372036854775807),
   a00 ws hl hs d (k + 1) fuel (by omega) (by omega)]
  simp only [E0c]
  by_cases h0 : x.length = 0
  ·have : x = [] := List.length_eq_zero_iff.1 h0
   subst this
   simp [chk, cyc]
  ·have e0 : decide (((x.length : Nat) : Int) = 0) = false := by simpa using h0
   have h1 := S6 (show 0 < x.length by omega)
   have h2 := S6 (show x.length - 1 < x.length by omega)
   have hc : cyc x = !(x[0] == IntKind.i64.wrap (0 - x[x.length - 1])) := by unfold cyc; rw [h1, h2]
   generalize x[0] = a at h1 hc
   generalize x[x.length - 1] = b at h2 hc
   rw [e0, n09 (by omega) (by omega), f07 h1, E4 h2, hc]
   simp only [Bool.not_false, M3, Option.bind_some, cond_false]
   cases hab : (a == IntKind.i64.wrap (0 - b)) with
   | true => rw [if_pos (by simpa using hab)]; rfl
   | false => rw [if_neg (by simpa using hab)]; simp
theorem C9 (x : M0) (hl : x.2.length ≤ 140737488355328) (hs : H5 x.2) : j4 x = some (O4 x) := by
 obtain ⟨r, ws⟩ := x
 unfold j4
 have h := a00 ws hl hs ws.length 0 D1 (by omega) (Y1 hl)
 rw [show ((0 : Nat) : Int) = 0 from rfl, List.drop_zero] at h
 simp only [h, Option.bind_some, p09 r ws hl hs, O4]
 cases E0c ws <;> simp [A8]
theorem I0a {lo hi : Int} {w : List Int} : ∀ {d k : Nat}, S00 lo hi w d k = true → ∀ i, k ≤ i → i < k + d → V02 lo hi w i = false
 | 0, k, h, i, h1, h2 => by omega
 | d + 1, k, h, i, h1, h2 => by
  simp only [S00, Bool.and_eq_true, Bool.not_eq_true'] at h
  by_cases e : i = k
  ·subst e; exact h.1
  ·exact I0a h.2 i (by omega) (by omega)
theorem m02 {r : Int} {w : List Int} (h : E6 r w = true) {i : Nat} {x : Int} (hx : w[i]? = some x) : (1 ≤ r ∧ r ≤ 3) ∧ w.length ≤ 24 ∧ x ≠ 0 ∧ -r ≤ x ∧ x ≤ r := by
 simp only [E6, Bool.and_eq_true, decide_eq_true_eq] at h
 have hr := h.1.1
 simp only [inR, Bool.and_eq_true, decide_eq_true_eq] at hr
 have hb := I0a h.2 i (Nat.zero_le _) (by have := (List.getElem?_eq_some_iff.1 hx).1; omega)
 unfold V02 at hb
 rw [hx] at hb
 simp only [Bool.or_eq_false_iff, Bool.not_eq_false'] at hb
 have h1 := hb.1.2
 simp only [inR, Bool.and_eq_true, decide_eq_true_eq] at h1
 exact ⟨hr, h.1.2, by simpa using hb.1.1, h1⟩
theorem b00 (ws : List (List Int)) (hl : ws.length ≤ 140737488355328) (hs : H5 ws) (r : Int) (ha : inR 1 3 r = true) : ∀ (d k fuel : Nat), k + d = ws.length → d < fuel → h06 r (ws.drop k) = true →
  L3 ws fuel (k : Int) = some (bif E0c (ws.drop k) then .inr () else .inl false)
 | d, k, 0, hk, hf, hw => by omega
 | 0, k, fuel + 1, hk, hf, hw => by
  rw [L6, if_neg (by simp; omega), Z1 (by omega)]
  rfl
 | d + 1, k, fuel + 1, hk, hf, hw => by
  have hkl : k < ws.length := by omega
  have hx := S6 hkl
  have hsx := hs _ (List.mem_of_getElem? hx)
  generalize ws[k] = x at hx hsx
  rw [P2 hx] at hw ⊢
  simp only [h06, Bool.and_eq_true] at hw
  rw [L6, if_pos (by simp; omega), E4 hx, Option.bind_some, X2 hkl (by omega : ws.length ≤ 9223372036854775807),
   b00 ws hl hs r ha d (k + 1) fuel (by omega) (by omega) hw.2]
  simp only [E0c]
  by_cases h0 : x.length = 0
  ·have : x = [] := List.length_eq_zero_iff.1 h0
   subst this
   simp [chk, cyc]
  ·have e0 : decide (((x.length : Nat) : Int) = 0) = false := by simpa using h0
   have h1 := S6 (show 0 < x.length by omega)
   have h2 := S6 (show x.length - 1 < x.length by omega)
   have hc : cyc x = !(x[0] == IntKind.i64.wrap (0 - x[x.length - 1])) := by unfold cyc; rw [h1, h2]
   generalize x[0] = a at h1 hc
   generalize x[x.length - 1] = b at h2 hc
   obtain ⟨hr1, _, a1, a2, a3⟩ := m02 hw.1 h1
   obtain ⟨_, _, b1, b2, b3⟩ := m02 hw.1 h2
   have na : IntKind.i64.wrap (0 - a) = -a := by rw [w64 (by omega) (by omega)]; omega
   have nb : IntKind.i64.wrap (0 - b) = -b := by rw [w64 (by omega) (by omega)]; omega
   rw [e0, n09 (by omega) (by omega), f07 h1, E4 h2, hc]
   simp only [Bool.not_false, M3, Option.bind_some, cond_false, e06, na, nb]
   have q1 : (a == 0) = false := by simpa using a1
   have q2 : (a == -9223372036854775808) = false := by simp; omega
   rw [q1, q2]
   simp only [Bool.not_false, Bool.true_and]
   by_cases hab : a = -b
   ·have e1 : (b == -a) = true := by simp; omega
    have e2 : (a == -b) = true := by simp; omega
    rw [e1, e2]; rfl
   ·have e1 : (b == -a) = false := by simp; omega
    have e2 : (a == -b) = false := by simp; omega
    rw [e1, e2]; simp
theorem i01 (x : M0) (hl : x.2.length ≤ 140737488355328) (hs : H5 x.2) : W4 x = some (O4 x) := by
 obtain ⟨r, ws⟩ := x
 unfold W4
 simp only [q09 r ws hl hs, O4, Option.bind_some]
 cases ha : N8 r ws with
 | false => simp
 | true =>
  simp only [N8, Bool.and_eq_true] at ha
  have h := b00 ws hl hs r ha.1.1.1 ws.length 0 D1 (by omega) (Y1 hl) (by rw [List.drop_zero]; exact ha.1.2)
  rw [show ((0 : Nat) : Int) = 0 from rfl, List.drop_zero] at h
  rw [h]
  cases E0c ws <;> simp [A8]
end Go.Proofs.YtfdlgbfeceodeaaGreat
namespace Go.Proofs.YtfdlgbfeceodeaaGreat
open Go.H
set_option linter.unusedVariables false
set_option linter.unusedSimpArgs false
def o01 (r hi : Int) (e : D0) : Bool := inR 0 hi e.1 && inR 0 hi e.2.2 && inR 1 r e.2.1
def r09 (e f : D0) : Int := H0 e f
theorem s09 (e f : D0) : r09 e f = if L7 e.1 f.1 ≠ 0 then L7 e.1 f.1 else if L7 e.2.1 f.2.1 ≠ 0 then L7 e.2.1 f.2.1 else L7 e.2.2 f.2.2 := rfl
theorem t03 (a b : Int) : (a < b ∧ L7 a b = -1) ∨ (a > b ∧ L7 a b = 1) ∨ (a = b ∧ L7 a b = 0) := by
 unfold L7
 split
 ·omega
 ·split <;> omega
theorem m08 (e f : D0) : J0 (r09 e f) := by
 rw [s09]
 split
 ·exact B0b _ _
 ·split <;> exact B0b _ _
theorem F0c (g : l0) (e : D0) : V7 g e = some (o01 g.1 (IntKind.i64.wrap (g.2.1 - 1)) e) := by
 obtain ⟨r, n, es⟩ := g
 obtain ⟨a, l, b⟩ := e
 unfold V7 o01
 simp only [s03, Option.bind_some]
 cases inR 0 (IntKind.i64.wrap (n - 1)) a with
 | false => rfl
 | true =>
  cases inR 0 (IntKind.i64.wrap (n - 1)) b with
  | false => rfl
  | true => simp [chk]
theorem y03 (g : l0) (e : D0) : D4 g e = some (o01 g.1 (IntKind.i64.wrap (g.2.1 - 1)) e) := by
 obtain ⟨r, n, es⟩ := g
 obtain ⟨a, l, b⟩ := e
 unfold D4 J4 o01
 simp only [R01, Option.bind_some]
 cases inR 0 (IntKind.i64.wrap (n - 1)) a with
 | false => rfl
 | true =>
  cases inR 0 (IntKind.i64.wrap (n - 1)) b with
  | false => rfl
  | true => simp [chk]
theorem k00 (e f : D0) : i4 e f = some (r09 e f) := by
 obtain ⟨a, l, b⟩ := e
 obtain ⟨a', l', b'⟩ := f
 unfold i4
 rw [show D1 = (D1 - 4) + 1 + 1 + 1 + 1 from rfl]
 have w1 : IntKind.i64.wrap (0 + 1) = 1 := by decide
 have w2 : IntKind.i64.wrap (1 + 1) = 2 := by decide
 have w3 : IntKind.i64.wrap (2 + 1) = 3 := by decide
 have g0 : ∀ x y z : Int, gi [x, y, z] 0 = some x := fun _ _ _ => rfl
 have g1 : ∀ x y z : Int, gi [x, y, z] 1 = some y := fun _ _ _ => rfl
 have g2 : ∀ x y z : Int, gi [x, y, z] 2 = some z := fun _ _ _ => rfl
 have d0 : decide ((0 : Int) < 3) = true := rfl
 have d1 : decide ((1 : Int) < 3) = true := rfl
 have d2 : decide ((2 : Int) < 3) = true := rfl
 have d3 : decide ((3 : Int) < 3) = false := rfl
 simp only [B9, w1, w2, w3, g0, g1, g2, d0, d1, d2, d3, if_true, Option.bind_some, Bool.false_eq_true, if_false]
 rw [s09]
 simp only
 rcases t03 a a' with ⟨h, e⟩ | ⟨h, e⟩ | ⟨h, e⟩
 ·simp [e, h, A8]
 ·have : ¬ a < a' := by omega
  simp [e, h, this, A8]
 ·subst h
  rcases t03 l l' with ⟨h, e2⟩ | ⟨h, e2⟩ | ⟨h, e2⟩
  ·simp [e, e2, h, A8]
  ·have : ¬ l < l' := by omega
   simp [e, e2, h, this, A8]
  ·subst h
   rcases t03 b b' with ⟨h, e3⟩ | ⟨h, e3⟩ | ⟨h, e3⟩
   ·simp [e, e2, e3, h, A8]
   ·have : ¬ b < b' := by omega
    simp [e, e2, e3, h, this, A8]
   ·subst h
    simp [e, e2, e3, A8]
theorem c0f (a b : Int) : o5 a b = some (L7 a b) := by
 unfold o5 L7
 by_cases h : a < b
 ·simp [h]
 ·by_cases h2 : a > b <;> simp [h, h2]
theorem U01 (e f : D0) : K5 e f = some (r09 e f) := by
 obtain ⟨a, l, b⟩ := e
 obtain ⟨a', l', b'⟩ := f
 rw [s09]
 unfold K5
 simp only [c0f, Option.bind_some, Q0 (B0b _ _)]
 by_cases h1 : L7 a a' = 0
 ·by_cases h2 : L7 l l' = 0
  ·simp [h1, h2]
  ·simp [h1, h2]
 ·simp [h1]
def f0g (r hi : Int) (es : List D0) (k : Nat) : Bool := match es[k]? with
 | none => true
 | some e => !o01 r hi e || (decide (0 < k) && match es[k - 1]? with
  | none => true
  | some f => decide (r09 f e ≥ 0))
def okE (r hi : Int) (es : List D0) : Nat → Nat → Bool
 | 0, _ => true
 | d + 1, k => !f0g r hi es k && okE r hi es d (k + 1)
def T0 (g : l0) : Bool := okE g.1 (IntKind.i64.wrap (g.2.1 - 1)) g.2.2 g.2.2.length 0 && inR 1 3 g.1 && inR 1 40 g.2.1 && decide (g.2.2.length ≤ 120)
theorem i06 {r hi : Int} {es : List D0} {k : Nat} {e : D0} (hx : es[k]? = some e) : f0g r hi es k = (!o01 r hi e || (decide (0 < k) && match es[k - 1]? with
  | none => true
  | some f => decide (r09 f e ≥ 0))) := by unfold f0g; rw [hx]
theorem n02 (r n : Int) (es : List D0) (hl : es.length ≤ 140737488355328) : ∀ (d k fuel : Nat), k + d = es.length → d < fuel →
  V5 es r n fuel (k : Int) = some (bif okE r (IntKind.i64.wrap (n - 1)) es d k then .inr () else .inl false)
 | d, k, 0, hk, hf => by omega
 | 0, k, fuel + 1, hk, hf => by
  rw [Z8, if_neg (by simp; omega)]
  simp [okE]
 | d + 1, k, fuel + 1, hk, hf => by
  have hkl : k < es.length := by omega
  have hx := S6 hkl
  generalize es[k] = e at hx
  obtain ⟨e0, e1, e2⟩ := e
  have next := n02 r n es hl d (k + 1) fuel (by omega) (by omega)
  rw [Z8, if_pos (by simp; omega), E4 hx, Option.bind_some]
  simp only [F0c, Option.bind_some, X2 hkl (by omega : es.length ≤ 9223372036854775807), next, okE, i06 hx]
  generalize IntKind.i64.wrap (n - 1) = hi
  cases hin : o01 r hi (e0, e1, e2) with
  | false => simp [chk, grd, J0]
  | true =>
   by_cases hk0 : k = 0
   ·have ek : decide ((k : Int) > 0) = false := by simp; omega
    have bk : decide (0 < k) = false := by simp; omega
    simp only [ek, bk, G7, Bool.not_true, Bool.not_false, Bool.and_true, Bool.false_and, Bool.or_self, Bool.true_and, cond_true, cond_false, Option.bind_some, Bool.or_false, Bool.false_eq_true, if_false, Q0 (show J0 0 by decide)]
   ·have hy := S6 (show k - 1 < es.length by omega)
    generalize es[k - 1] = f at hy
    obtain ⟨f0, f1, f2⟩ := f
    have hpr : IntKind.i64.wrap ((k : Int) - 1) = ((k - 1 : Nat) : Int) := n09 (by omega) (by omega)
    have ek : decide ((k : Int) > 0) = true := by simp; omega
    have bk : decide (0 < k) = true := by simp; omega
    simp only [ek, bk, hpr, hy, E4 hx, E4 hy, M3, Bool.not_true, Bool.not_false, Bool.and_true, Bool.false_and, Bool.or_self, Bool.true_and, cond_true, cond_false, Option.bind_some, Bool.or_false, Bool.false_or, k00, Q0 (m08 _ _)]
    cases decide (r09 (f0, f1, f2) (e0, e1, e2) ≥ 0) <;> rfl
theorem Z7 (g : l0) (hl : g.2.2.length ≤ 140737488355328) : c4 g = some (T0 g) := by
 obtain ⟨r, n, es⟩ := g
 unfold c4 T0
 simp only at hl ⊢
 have h := n02 r n es hl es.length 0 D1 (by omega) (Y1 hl)
 rw [show ((0 : Nat) : Int) = 0 from rfl] at h
 rw [h, Option.bind_some]
 cases okE r (IntKind.i64.wrap (n - 1)) es es.length 0 with
 | false => simp [A8]
 | true =>
  rw [cond_true, J1, s03, s03, Option.bind_some]
  cases inR 1 3 r with
  | false => simp [chk]
  | true =>
   simp only [M3, Option.bind_some, cond_true, Bool.true_and]
   cases inR 1 40 n with
   | false => simp
   | true => simp; omega
theorem o02 (r n : Int) (es : List D0) (hl : es.length ≤ 140737488355328) : ∀ (d k fuel : Nat), k + d = es.length → d < fuel →
  W5 es r n fuel (k : Int) = some (bif okE r (IntKind.i64.wrap (n - 1)) es d k then .inr () else .inl false)
 | d, k, 0, hk, hf => by omega
 | 0, k, fuel + 1, hk, hf => by
  rw [a9, if_neg (by simp; omega)]
  simp [okE]
 | d + 1, k, fuel + 1, hk, hf => by
  have hkl : k < es.length := by omega
  have hx := S6 hkl
  generalize es[k] = e at hx
  obtain ⟨e0, e1, e2⟩ := e
  have next := o02 r n es hl d (k + 1) fuel (by omega) (by omega)
  rw [a9, if_pos (by simp; omega), E4 hx, Option.bind_some]
  simp only [y03, Option.bind_some, X2 hkl (by omega : es.length ≤ 9223372036854775807), next, okE, i06 hx]
  generalize IntKind.i64.wrap (n - 1) = hi
  cases hin : o01 r hi (e0, e1, e2) with
  | false => simp [chk, grd, J0]
  | true =>
   by_cases hk0 : k = 0
   ·have ek : decide ((k : Int) > 0) = false := by simp; omega
    have bk : decide (0 < k) = false := by simp; omega
    simp only [ek, bk, G7, Bool.not_true, Bool.not_false, Bool.and_true, Bool.false_and, Bool.or_self, Bool.true_and, cond_true, cond_false, Option.bind_some, Bool.or_false, Bool.false_eq_true, if_false, Q0 (show J0 0 by decide)]
   ·have hy := S6 (show k - 1 < es.length by omega)
    generalize es[k - 1] = f at hy
    obtain ⟨f0, f1, f2⟩ := f
    have hpr : IntKind.i64.wrap ((k : Int) - 1) = ((k - 1 : Nat) : Int) := n09 (by omega) (by omega)
    have ek : decide ((k : Int) > 0) = true := by simp; omega
    have bk : decide (0 < k) = true := by simp; omega
    simp only [ek, bk, hpr, hy, E4 hx, E4 hy, M3, Bool.not_true, Bool.not_false, Bool.and_true, Bool.false_and, Bool.or_self, Bool.true_and, cond_true, cond_false, Option.bind_some, Bool.or_false, Bool.false_or, U01, Q0 (m08 _ _)]
    cases decide (r09 (f0, f1, f2) (e0, e1, e2) ≥ 0) <;> rfl
theorem V8 (g : l0) (hl : g.2.2.length ≤ 140737488355328) : j5 g = some (T0 g) := by
 obtain ⟨r, n, es⟩ := g
 unfold j5 T0
 simp only at hl ⊢
 rw [R01, R01, Option.bind_some]
 cases hr : inR 1 3 r with
 | false => simp [chk]
 | true =>
  simp only [Bool.not_true, Bool.not_false, M3, Option.bind_some, cond_false]
  cases hn : inR 1 40 n with
  | false => simp
  | true =>
   by_cases h120 : es.length ≤ 120
   ·have h := o02 r n es hl es.length 0 D1 (by omega) (Y1 hl)
    rw [show ((0 : Nat) : Int) = 0 from rfl] at h
    have e1 : decide (((es.length : Nat) : Int) > 120) = false := by simp; omega
    have e2 : decide (es.length ≤ 120) = true := by simpa using h120
    simp only [e1, e2, Bool.not_true, cond_false, Bool.false_eq_true, if_false, h, Option.bind_some]
    cases okE r (IntKind.i64.wrap (n - 1)) es es.length 0 <;> rfl
   ·have e1 : decide (((es.length : Nat) : Int) > 120) = true := by simp; omega
    have e2 : decide (es.length ≤ 120) = false := by simpa using h120
    simp only [e1, e2, Bool.not_true, cond_false, if_true, Bool.and_false]
theorem I0d {r hi : Int} {es : List D0} : ∀ {d k : Nat}, okE r hi es d k = true → ∀ i, k ≤ i → i < k + d → f0g r hi es i = false
 | 0, k, h, i, h1, h2 => by omega
 | d + 1, k, h, i, h1, h2 => by
  simp only [okE, Bool.and_eq_true, Bool.not_eq_true'] at h
  by_cases e : i = k
  ·subst e; exact h.1
  ·exact I0d h.2 i (by omega) (by omega)
end Go.Proofs.YtfdlgbfeceodeaaGreat
namespace Go.Proofs.YtfdlgbfeceodeaaGreat
open Go.H
set_option linter.unusedVariables false
set_option linter.unusedSimpArgs false
theorem G0c {n : Nat} (h : n ≤ 9223372036854775807) : n < D1 := by unfold D1; omega
def goI (x : Int) : List Int → Bool × List Int
 | [] => (false, [])
 | y :: l => if x < y then (true, x :: y :: l) else if y = x then (true, y :: l) else ((goI x l).1, y :: (goI x l).2)
theorem u0e (x : Int) : ∀ l, Z9 L7 x l = bif (goI x l).1 then (goI x l).2 else (goI x l).2 ++ [x]
 | [] => rfl
 | y :: l => by
  have ih := u0e x l
  unfold Z9 goI
  rcases t03 x y with ⟨h, e⟩ | ⟨h, e⟩ | ⟨h, e⟩
  ·rw [e, if_pos (by omega), if_pos h]; rfl
  ·rw [e, if_neg (by omega), if_neg (by omega), if_neg (by omega), if_neg (by omega), ih]
   cases (goI x l).1 <;> rfl
  ·rw [e, if_neg (by omega), if_pos rfl, if_neg (by omega), if_pos h.symm]; rfl
theorem t09 (l : List Int) (w : Int) (hl : l.length ≤ 1099511627776) : ∀ (d k fuel : Nat) (acc : List Int), k + d = l.length → d < fuel → acc.length ≤ k + 1 →
  A3 l w fuel true (k : Int) acc = some (true, acc ++ l.drop k)
 | d, k, 0, acc, hd, hf, ha => by omega
 | 0, k, fuel + 1, acc, hd, hf, ha => by
  rw [N6, if_neg (by simp; omega), Z1 (by omega), List.append_nil]
 | d + 1, k, fuel + 1, acc, hd, hf, ha => by
  have hk : k < l.length := by omega
  have hx := S6 hk
  generalize l[k] = x at hx
  have ih := t09 l w hl d (k + 1) fuel (acc ++ [x]) (by omega) (by omega) (by simp; omega)
  rw [N6, if_pos (by simp; omega), E4 hx, Option.bind_some]
  have hb : ∀ c : Bool, (bif c then (!true) else false) = false := fun c => by cases c <;> rfl
  simp only [hb, Bool.false_eq_true, if_false, Option.bind_some, X2 hk (show l.length ≤ 9223372036854775807 by omega), ih, Q0 (show (acc.length + [x].length) * 8 ≤ 140737488355328 by simp; omega)]
  rw [P2 hx]
  split <;> simp
theorem J0a (l : List Int) (w : Int) (hl : l.length ≤ 1099511627776) : ∀ (d k fuel : Nat) (acc : List Int), k + d = l.length → d < fuel → acc.length = k →
  A3 l w fuel false (k : Int) acc = some ((goI w (l.drop k)).1, acc ++ (goI w (l.drop k)).2)
 | d, k, 0, acc, hd, hf, ha => by omega
 | 0, k, fuel + 1, acc, hd, hf, ha => by
  rw [N6, if_neg (by simp; omega), Z1 (by omega)]
  simp [goI]
 | d + 1, k, fuel + 1, acc, hd, hf, ha => by
  have hk : k < l.length := by omega
  have hx := S6 hk
  generalize l[k] = x at hx
  have ih := J0a l w hl d (k + 1) fuel (acc ++ [x]) (by omega) (by omega) (by simp; omega)
  have on1 := t09 l w hl d (k + 1) fuel (acc ++ [x]) (by omega) (by omega) (by simp; omega)
  have on2 := t09 l w hl d (k + 1) fuel (acc ++ [w] ++ [x]) (by omega) (by omega) (by simp; omega)
  rw [N6, if_pos (by simp; omega), E4 hx, Option.bind_some, P2 hx]
  unfold goI
  have hb : ∀ c : Bool, (bif c then (!true) else false) = false := fun c => by cases c <;> rfl
  have hb2 : ∀ c : Bool, (bif c then (!false) else false) = c := fun c => by cases c <;> rfl
  by_cases h0 : x = w
  ·rw [if_pos (by simpa using h0), Option.bind_some, hb, if_neg (by simp), Option.bind_some, Q0 (by simp; omega), Option.bind_some, X2 hk (by omega), on1, if_neg (by omega), if_pos h0]
   simp
  ·rw [if_neg (by simpa using h0), Option.bind_some, hb2]
   by_cases h1 : w < x
   ·rw [if_pos (by simpa using h1), Q0 (by simp; omega), Option.bind_some, Option.bind_some, Q0 (by simp; omega), Option.bind_some, X2 hk (by omega), on2, if_pos h1]
    simp
   ·rw [if_neg (by simpa using h1), Option.bind_some, Q0 (by simp; omega), Option.bind_some, X2 hk (by omega), ih, if_neg h1, if_neg h0]
    simp
theorem v0e (l : List Int) (w : Int) (hl : l.length ≤ 1099511627776) : o6 l w = some (Z9 L7 w l) := by
 unfold o6
 have h := J0a l w hl l.length 0 D1 [] (by omega) (Y1 (by omega)) rfl
 rw [show ((0 : Nat) : Int) = 0 from rfl, List.drop_zero, List.nil_append] at h
 rw [h, Option.bind_some, u0e]
 have hlen : ∀ l : List Int, (goI w l).2.length ≤ l.length + 1 := fun l => by
  induction l with
  | nil => simp [goI]
  | cons y l ih =>
   unfold goI
   split
   ·simp
   ·split
    ·simp
    ·simp only [List.length_cons]; omega
 have := hlen l
 cases (goI w l).1 with
 | true => rfl
 | false =>
  simp only [Bool.not_false, if_true, cond_false]
  rw [Q0 (by simp; omega), Option.bind_some]
def K0a (v x : Int) (e : D0) : List Int :=
 if 0 < x ∧ e.2.1 = x ∧ e.1 = v then [e.2.2] else if x < 0 ∧ e.2.1 = -x ∧ e.2.2 = v then [e.1] else []
def D9 (v x : Int) : List D0 → List Int
 | [] => []
 | e :: es => K0a v x e ++ D9 v x es
theorem d0f (v x : Int) (e : D0) : (K0a v x e).length ≤ 1 := by unfold K0a; split <;> (try split) <;> simp
theorem u09 (v x : Int) : ∀ es, (D9 v x es).length ≤ es.length
 | [] => by simp [D9]
 | e :: es => by
  have h1 := d0f v x e
  have h2 := u09 v x es
  simp only [D9, List.length_append, List.length_cons]
  omega
def A7 (x : Int) : Prop := J0 x ∧ x ≠ -9223372036854775808
theorem j06 (es : List D0) (v x : Int) (hx : A7 x) (hl : es.length ≤ 1099511627776) : ∀ (d k fuel : Nat) (acc : List Int), k + d = es.length → d < fuel → acc.length ≤ k →
  V2 es x v fuel (k : Int) acc = some (acc ++ D9 v x (es.drop k))
 | d, k, 0, acc, hd, hf, ha => by omega
 | 0, k, fuel + 1, acc, hd, hf, ha => by
  rw [l8, if_neg (by simp; omega), Z1 (by omega)]
  simp [D9]
 | d + 1, k, fuel + 1, acc, hd, hf, ha => by
  have hk : k < es.length := by omega
  have he := S6 hk
  generalize es[k] = e at he
  obtain ⟨a, l, b⟩ := e
  have ih := fun acc' h => j06 es v x hx hl d (k + 1) fuel acc' (by omega) (by omega) h
  have hn : decide (x = -9223372036854775808) = false := by simp; exact hx.2
  rw [l8, if_pos (by simp; omega), E4 he, Option.bind_some, P2 he]
  simp only [D9, K0a, D0c hx.1 hx.2, hn, Bool.not_false, X2 hk (show es.length ≤ 9223372036854775807 by omega)]
  by_cases c1 : 0 < x ∧ l = x ∧ a = v
  ·obtain ⟨c1, rfl, rfl⟩ := c1
   rw [if_pos (by simp [c1]), if_pos ⟨c1, rfl, rfl⟩, Q0 (by simp; omega), Option.bind_some, ih _ (by simp; omega)]
   simp
  ·rw [if_neg c1, if_neg (by simp only [Bool.cond_eq_ite]; simp; intro h1 h2 h3; exact c1 ⟨h1, h2, h3⟩)]
   by_cases c2 : x < 0 ∧ l = -x ∧ b = v
   ·rw [if_pos c2, if_pos (by simp [c2.1, c2.2.1, c2.2.2]), Q0 (by simp; omega), Option.bind_some, ih _ (by simp; omega)]
    simp
   ·rw [if_neg c2, if_neg (by simp only [Bool.cond_eq_ite]; simp; intro h1 h2 h3; exact c2 ⟨h1, h2, h3⟩), ih _ (by omega)]
    simp
theorem g07 (w : Int) : ∀ l : List Int, (Z9 L7 w l).length ≤ l.length + 1
 | [] => by simp [Z9]
 | y :: l => by
  have := g07 w l
  unfold Z9
  split
  ·simp
  ·split
   ·simp
   ·simp only [List.length_cons]; omega
theorem k06 (es : List D0) (v x : Int) (hx : A7 x) (hl : es.length ≤ 1099511627776) : ∀ (d k fuel : Nat) (u : List Int), k + d = es.length → d < fuel → u.length ≤ k →
  E2 es x v fuel u (k : Int) = some (T5 L7 u (D9 v x (es.drop k)))
 | d, k, 0, u, hd, hf, ha => by omega
 | 0, k, fuel + 1, u, hd, hf, ha => by
  rw [i8, if_neg (by simp; omega), Z1 (by omega)]
  rfl
 | d + 1, k, fuel + 1, u, hd, hf, ha => by
  have hk : k < es.length := by omega
  have he := S6 hk
  generalize es[k] = e at he
  obtain ⟨a, l, b⟩ := e
  have ih := fun u' h => k06 es v x hx hl d (k + 1) fuel u' (by omega) (by omega) h
  rw [i8, if_pos (by simp; omega), E4 he, Option.bind_some, P2 he]
  simp only [D9, K0a, D0c hx.1 hx.2, X2 hk (show es.length ≤ 9223372036854775807 by omega)]
  by_cases c1 : 0 < x ∧ l = x ∧ a = v
  ·obtain ⟨c1, rfl, rfl⟩ := c1
   have hno : decide (l < 0) = false := by simp; omega
   have := g07 b u
   rw [if_pos (by simp [c1]), if_pos ⟨c1, rfl, rfl⟩, v0e u b (by omega), Option.bind_some, hno, if_neg (by simp), ih _ (by omega)]
   rfl
  ·rw [if_neg c1, if_neg (by simp only [Bool.cond_eq_ite]; simp; intro h1 h2 h3; exact c1 ⟨h1, h2, h3⟩)]
   by_cases c2 : x < 0 ∧ l = -x ∧ b = v
   ·have := g07 a u
    rw [if_pos c2, if_pos (by simp [c2.1, c2.2.1, c2.2.2]), v0e u a (by omega), Option.bind_some, ih _ (by omega)]
    rfl
   ·rw [if_neg c2, if_neg (by simp only [Bool.cond_eq_ite]; simp; intro h1 h2 h3; exact c2 ⟨h1, h2, h3⟩), ih _ (by omega)]
    rfl
def a01 (g : l0) (v x : Int) : List Int := T5 L7 [] (D9 v x g.2.2)
theorem X0g (x y : Int) : eqI x y = true ↔ x = y := by simp [eqI]
theorem H0c (g : l0) (v x : Int) (hx : A7 x) (hl : g.2.2.length ≤ 1099511627776) : j8 g v x = some (a01 g v x) := by
 obtain ⟨r, n, es⟩ := g
 unfold j8 a01
 have h := k06 es v x hx hl es.length 0 D1 [] (by omega) (G0c (by simp only at hl; omega)) (by simp)
 rw [show ((0 : Nat) : Int) = 0 from rfl, List.drop_zero] at h
 simp only [h, Option.bind_some]
theorem I0c (g : l0) (v x : Int) (hx : A7 x) (hl : g.2.2.length ≤ 1099511627776) : n8 g v x = some (a01 g v x) := by
 obtain ⟨r, n, es⟩ := g
 unfold n8 a01
 have h := j06 es v x hx hl es.length 0 D1 [] (by omega) (G0c (by simp only at hl; omega)) (by simp)
 rw [show ((0 : Nat) : Int) = 0 from rfl, List.drop_zero, List.nil_append] at h
 have hlen := u09 v x es
 simp only at hl
 simp only [h, Option.bind_some, Q0 (show (D9 v x es).length < 4611686018427387904 by omega)]
 rw [← C0c P01 X0g (D9 v x es) (D9 v x es) fun _ => Iff.rfl]
 rfl
def p8 (g : l0) (v x : Int) : Int := match a01 g v x with
 | [] => -1
 | a :: _ => a
theorem v09 (g : l0) (v x : Int) (hx : A7 x) (hl : g.2.2.length ≤ 1099511627776) : R4 g v x = some (p8 g v x) := by
 have h := H0c g v x hx hl
 obtain ⟨r, n, es⟩ := g
 unfold R4 p8
 simp only [h, Option.bind_some]
 cases a01 (r, n, es) v x with
 | nil => rfl
 | cons a l => rfl
theorem w09 (g : l0) (v x : Int) (hx : A7 x) (hl : g.2.2.length ≤ 1099511627776) : U4 g v x = some (p8 g v x) := by
 have h := I0c g v x hx hl
 obtain ⟨r, n, es⟩ := g
 unfold U4 p8
 simp only [h, Option.bind_some]
 cases a01 (r, n, es) v x with
 | nil => rfl
 | cons a l => rfl
theorem e0f {g : l0} {v x y : Int} (h : y ∈ a01 g v x) : y ∈ D9 v x g.2.2 := by
 rcases (R00 P01 y _ []).1 h with h | h
 ·cases h
 ·exact h
theorem x09 {v x y : Int} : ∀ {es : List D0}, y ∈ D9 v x es ↔ ∃ e ∈ es, (0 < x ∧ e.2.1 = x ∧ e.1 = v ∧ y = e.2.2) ∨ (x < 0 ∧ e.2.1 = -x ∧ e.2.2 = v ∧ y = e.1)
 | [] => by simp [D9]
 | e :: es => by
  simp only [D9, List.mem_append, x09 (es := es), List.mem_cons, exists_eq_or_imp]
  refine or_congr ?_ Iff.rfl
  unfold K0a
  split
  ·rename_i h
   simp only [List.mem_singleton]
   constructor
   ·rintro rfl; exact .inl ⟨h.1, h.2.1, h.2.2, rfl⟩
   ·rintro (⟨_, _, _, h4⟩ | ⟨h1, _⟩)
    ·exact h4
    ·omega
  ·rename_i h
   split
   ·rename_i h2
    simp only [List.mem_singleton]
    constructor
    ·rintro rfl; exact .inr ⟨h2.1, h2.2.1, h2.2.2, rfl⟩
    ·rintro (⟨h1, _⟩ | ⟨_, _, _, h4⟩)
     ·omega
     ·exact h4
   ·rename_i h2
    constructor
    ·intro h; cases h
    ·rintro (⟨h3, h4, h5, _⟩ | ⟨h3, h4, h5, _⟩)
     ·exact absurd ⟨h3, h4, h5⟩ h
     ·exact absurd ⟨h3, h4, h5⟩ h2
def inG (g : l0) : Prop := ∀ e ∈ g.2.2, (0 ≤ e.1 ∧ e.1 < g.2.1) ∧ (0 ≤ e.2.2 ∧ e.2.2 < g.2.1) ∧ 1 ≤ e.2.1 ∧ e.2.1 ≤ g.1
theorem l5 {g : l0} (h : T0 g = true) : inG g ∧ (1 ≤ g.1 ∧ g.1 ≤ 3) ∧ (1 ≤ g.2.1 ∧ g.2.1 ≤ 40) ∧ g.2.2.length ≤ 120 := by
 obtain ⟨r, n, es⟩ := g
 simp only [T0, inR, Bool.and_eq_true, decide_eq_true_eq] at h
 obtain ⟨⟨⟨h1, h2⟩, h3⟩, h4⟩ := h
 refine ⟨fun e he => ?_, h2, h3, h4⟩
 obtain ⟨i, hi⟩ := List.getElem?_of_mem he
 have hb := I0d h1 i (Nat.zero_le _) (by have := (List.getElem?_eq_some_iff.1 hi).1; simp only at this; omega)
 rw [i06 hi] at hb
 simp only [Bool.or_eq_false_iff, Bool.not_eq_false', o01, inR, Bool.and_eq_true, decide_eq_true_eq] at hb
 obtain ⟨⟨⟨⟨b1, b2⟩, b3, b4⟩, b5, b6⟩, _⟩ := hb
 rw [w64 (by omega) (by omega)] at b2 b4
 simp only
 exact ⟨⟨b1, by omega⟩, ⟨b3, by omega⟩, b5, b6⟩
theorem Y0g {g : l0} (hg : inG g) (v x : Int) : p8 g v x = -1 ∨ (0 ≤ p8 g v x ∧ p8 g v x < g.2.1) := by
 unfold p8
 cases hs : a01 g v x with
 | nil => exact .inl rfl
 | cons a l =>
  right
  have ha : a ∈ a01 g v x := by rw [hs]; exact List.mem_cons_self ..
  obtain ⟨e, he, h⟩ := x09.1 (e0f ha)
  have := hg e he
  rcases h with ⟨_, _, _, rfl⟩ | ⟨_, _, _, rfl⟩
  ·exact this.2.1
  ·exact this.1
theorem l06 {g : l0} (hg : inG g) (hn : g.2.1 ≤ 40) (v x : Int) : J0 (p8 g v x) := by
 rcases Y0g hg v x with h | h
 ·rw [h]; decide
 ·constructor <;> omega
def E04 (a b : D0) : Bool := decide (a.2.1 = b.2.1) && (decide (a.1 = b.1) || decide (a.2.2 = b.2.2))
theorem L0a (a b : D0) : E04 a b = E04 b a := by
 unfold E04
 have h : ∀ x y : Int, decide (x = y) = decide (y = x) := fun x y => decide_eq_decide.2 ⟨Eq.symm, Eq.symm⟩
 rw [h a.2.1, h a.1, h a.2.2]
def noC (a : D0) : List D0 → Bool
 | [] => true
 | b :: l => !E04 a b && noC a l
def T04 : List D0 → Bool
 | [] => true
 | a :: l => noC a l && T04 l
theorem C0b (a : D0) : ∀ l, noC a l = true ↔ ∀ b ∈ l, E04 a b = false
 | [] => by simp [noC]
 | b :: l => by simp [noC, C0b a l]
theorem h07 : ∀ l, T04 l = true ↔ l.Pairwise fun a b => E04 a b = false
 | [] => by simp [T04]
 | a :: l => by simp [T04, h07 l, C0b, List.pairwise_cons]
def y09 : List D0 → List D0 → Bool
 | _, [] => true
 | pre, a :: l => noC a pre && y09 (pre ++ [a]) l
theorem M0a : ∀ (l pre : List D0), y09 pre l = true ↔ l.Pairwise (fun a b => E04 a b = false) ∧ ∀ a ∈ l, ∀ b ∈ pre, E04 a b = false
 | [], pre => by simp [y09]
 | a :: l, pre => by
  simp only [y09, Bool.and_eq_true, C0b, M0a l, List.pairwise_cons]
  constructor
  ·rintro ⟨h2, h3, h4⟩
   refine ⟨⟨fun b hb => by rw [L0a]; exact h4 b hb a (by simp), h3⟩, fun x hx b hb => ?_⟩
   rcases List.mem_cons.1 hx with rfl | hx
   ·exact h2 b hb
   ·exact h4 x hx b (by simp [hb])
  ·rintro ⟨⟨h2, h3⟩, h4⟩
   refine ⟨fun b hb => h4 a (List.mem_cons_self ..) b hb, h3, fun x hx b hb => ?_⟩
   rcases List.mem_append.1 hb with hb | hb
   ·exact h4 x (List.mem_cons_of_mem _ hx) b hb
   ·rw [List.mem_singleton.1 hb, L0a]; exact h2 x hx
theorem f0f (l : List D0) : y09 [] l = T04 l := by
 rw [Bool.eq_iff_iff, M0a, h07]
 simp
def Y0 (g : l0) : Bool := T0 g && T04 g.2.2
theorem n0h (a0 a1 a2 b0 b1 b2 : Int) : (bif decide (a1 = b1) then (bif decide (a0 = b0) then true else decide (a2 = b2)) else false) = E04 (a0, a1, a2) (b0, b1, b2) := by
 unfold E04
 cases decide (a1 = b1) <;> cases decide (a0 = b0) <;> rfl
theorem m06 (l : List D0) (a : D0) (hl : l.length ≤ 140737488355328) : ∀ (d k fuel : Nat), k + d = l.length → d < fuel →
  V4 l a.2.1 a.1 a.2.2 fuel (k : Int) = some (bif noC a (l.drop k) then .inr () else .inl false)
 | d, k, 0, hd, hf => by omega
 | 0, k, fuel + 1, hd, hf => by
  rw [L8, if_neg (by simp; omega), Z1 (by omega)]
  rfl
 | d + 1, k, fuel + 1, hd, hf => by
  have hk : k < l.length := by omega
  have hx := S6 hk
  generalize l[k] = x at hx
  obtain ⟨a0, a1, a2⟩ := a
  obtain ⟨b0, b1, b2⟩ := x
  rw [L8, if_pos (by simp; omega), E4 hx, Option.bind_some, P2 hx]
  simp only [n0h, noC]
  cases hc : E04 (a0, a1, a2) (b0, b1, b2) with
  | true => rfl
  | false =>
   rw [if_neg (by simp), X2 hk (by omega), m06 l (a0, a1, a2) hl d (k + 1) fuel (by omega) (by omega)]
   simp
theorem z09 {α : Type} {xs : List α} {k : Nat} (h : k ≤ xs.length) : h09 xs (k : Int) (xs.length : Int) = some (xs.drop k) := by
 unfold h09
 rw [if_pos ⟨by omega, by omega, by omega⟩]
 simp
theorem n06 (l : List D0) (hl : l.length ≤ 140737488355328) : ∀ (d k fuel : Nat), k + d = l.length → d < fuel →
  G5 l fuel (k : Int) = some (bif T04 (l.drop k) then .inr () else .inl false)
 | d, k, 0, hd, hf => by omega
 | 0, k, fuel + 1, hd, hf => by
  rw [M8, if_neg (by simp; omega), Z1 (by omega)]
  rfl
 | d + 1, k, fuel + 1, hd, hf => by
  have hk : k < l.length := by omega
  have hx := S6 hk
  generalize l[k] = x at hx
  have h0 := m06 (l.drop (k + 1)) x (by simp; omega) (l.drop (k + 1)).length 0 D1 (by omega) (Y1 (by simp; omega))
  rw [show ((0 : Nat) : Int) = 0 from rfl, List.drop_zero] at h0
  obtain ⟨a0, a1, a2⟩ := x
  rw [M8, if_pos (by simp; omega), E4 hx, Option.bind_some, P2 hx]
  simp only [X2 hk (show l.length ≤ 9223372036854775807 by omega), z09 (show k + 1 ≤ l.length by omega), Option.bind_some]
  simp only at h0
  rw [h0, Option.bind_some]
  simp only [T04]
  cases noC (a0, a1, a2) (l.drop (k + 1)) with
  | false => rfl
  | true =>
   simp only [cond_true, Z05, Bool.true_and]
   exact n06 l hl d (k + 1) fuel (by omega) (by omega)
theorem V01 (g : l0) (hl : g.2.2.length ≤ 140737488355328) : M6 g = some (Y0 g) := by
 have hG := V8 g hl
 obtain ⟨r, n, es⟩ := g
 unfold M6 Y0
 simp only [hG, Option.bind_some]
 cases T0 (r, n, es) with
 | false => rfl
 | true =>
  have h := n06 es hl es.length 0 D1 (by omega) (Y1 hl)
  rw [show ((0 : Nat) : Int) = 0 from rfl, List.drop_zero] at h
  rw [if_neg (by simp), h, Option.bind_some]
  cases T04 es <;> rfl
theorem o06 (l : List D0) (hl : l.length ≤ 140737488355328) {i : Nat} {a : D0} (ha : l[i]? = some a) : ∀ (d k fuel : Nat), k + d = i → d < fuel →
  S4 (i : Int) l fuel (k : Int) = some (bif noC a ((l.take i).drop k) then .inr () else .inl false)
 | d, k, 0, hd, hf => by omega
 | 0, k, fuel + 1, hd, hf => by
  have := (List.getElem?_eq_some_iff.1 ha).1
  rw [J8, if_neg (by simp; omega), Z1 (by simp; omega)]
  rfl
 | d + 1, k, fuel + 1, hd, hf => by
  have hi := (List.getElem?_eq_some_iff.1 ha).1
  have hk : k < l.length := by omega
  have hx := S6 hk
  have hx2 : (l.take i)[k]? = some l[k] := by rw [List.getElem?_take, if_pos (by omega)]; exact hx
  have ih := o06 l hl ha d (k + 1) fuel (by omega) (by omega)
  generalize l[k] = x at hx hx2
  obtain ⟨a0, a1, a2⟩ := a
  obtain ⟨b0, b1, b2⟩ := x
  rw [J8, if_pos (by simp; omega), E4 ha, Option.bind_some, P2 hx2]
  simp only [E4 hx, Option.bind_some, n0h, noC]
  cases hc : E04 (a0, a1, a2) (b0, b1, b2) with
  | true => rfl
  | false =>
   rw [if_neg (by simp), X2 hk (by omega), ih]
   simp
theorem o0h {α : Type} {xs : List α} {k : Nat} {x : α} (h : xs[k]? = some x) : xs.take (k + 1) = xs.take k ++ [x] := by
 obtain ⟨hk, rfl⟩ := List.getElem?_eq_some_iff.1 h
 exact List.take_succ_eq_append_getElem hk
theorem p06 (r n : Int) (l : List D0) (hg : T0 (r, n, l) = true) (hl : l.length ≤ 140737488355328) : ∀ (d k fuel : Nat), k + d = l.length → d < fuel →
  T4 l r n fuel (k : Int) = some (bif y09 (l.take k) (l.drop k) then .inr () else .inl false)
 | d, k, 0, hd, hf => by omega
 | 0, k, fuel + 1, hd, hf => by
  have e : decide ((k : Int) < (l.length : Int)) = false := by simp; omega
  rw [P6, e, G7, Option.bind_some, if_neg (by simp), Z1 (by omega)]
  rfl
 | d + 1, k, fuel + 1, hd, hf => by
  have hk : k < l.length := by omega
  have hx := S6 hk
  generalize l[k] = x at hx
  have h0 := o06 l hl hx k 0 D1 (by omega) (Y1 (by omega))
  rw [show ((0 : Nat) : Int) = 0 from rfl, List.drop_zero] at h0
  have e : decide ((k : Int) < (l.length : Int)) = true := by simp; omega
  rw [P6, e, M3, Z7 (r, n, l) hl, Option.bind_some, hg, if_pos (show (bif true then true else false) = true from rfl), h0, Option.bind_some, P2 hx]
  simp only [y09]
  cases noC x (l.take k) with
  | false => rfl
  | true =>
   simp only [cond_true, Z05, Bool.true_and]
   rw [X2 hk (by omega), ← o0h hx]
   exact p06 r n l hg hl d (k + 1) fuel (by omega) (by omega)
theorem E9 (g : l0) (hl : g.2.2.length ≤ 140737488355328) : G4 g = some (Y0 g) := by
 have hG := Z7 g hl
 obtain ⟨r, n, es⟩ := g
 unfold G4 Y0
 simp only [hG, Option.bind_some]
 cases hg : T0 (r, n, es) with
 | false =>
  have h1 : T4 es r n D1 0 = some (.inr ()) := by
   rw [show D1 = (D1 - 1) + 1 from rfl, P6]
   by_cases e : decide ((0 : Int) < (es.length : Int)) = true
   ·rw [e, M3, hG, Option.bind_some, hg, if_neg (by simp)]
   ·rw [Bool.not_eq_true] at e
    rw [e, G7, Option.bind_some, if_neg (by simp)]
  rw [h1]
  rfl
 | true =>
  have h := p06 r n es hg hl es.length 0 D1 (by omega) (Y1 hl)
  rw [show ((0 : Nat) : Int) = 0 from rfl, List.drop_zero, List.take_zero, f0f] at h
  rw [h, Option.bind_some]
  cases T04 es <;> rfl
def D8 (g : l0) : Int → List Int → Int × Nat
 | v, [] => (v, 0)
 | v, x :: w => if p8 g v x < 0 then (v, 0) else ((D8 g (p8 g v x) w).1, (D8 g (p8 g v x) w).2 + 1)
theorem A09 (g : l0) : ∀ (w : List Int) (v : Int), (D8 g v w).2 ≤ w.length
 | [], v => by simp [D8]
 | x :: w, v => by
  have := A09 g w (p8 g v x)
  unfold D8
  split
  ·simp
  ·simp only [List.length_cons]; omega
theorem B09 {g : l0} (hg : inG g) (hn : g.2.1 ≤ 40) : ∀ (w : List Int) (v : Int), J0 v → J0 (D8 g v w).1
 | [], v, h => h
 | x :: w, v, h => by
  unfold D8
  split
  ·exact h
  ·exact B09 hg hn w _ (l06 hg hn v x)
def Z0g (q : Int × Nat) (n : Nat) (k : Nat) : (Int × Int) ⊕ Int := bif decide (q.2 < n) then .inl (q.1, ((k + q.2 : Nat) : Int)) else .inr q.1
theorem O07 (r n : Int) (es : List D0) (hg : inG (r, n, es)) (hn : n ≤ 40) (hes : es.length ≤ 1099511627776) (w : List Int) (hw : ∀ x ∈ w, A7 x) (hl : w.length ≤ 140737488355328) : ∀ (d k fuel : Nat) (v : Int), k + d = w.length → d < fuel →
  P4 w r n es fuel v (k : Int) = some (Z0g (D8 (r, n, es) v (w.drop k)) d k)
 | d, k, 0, v, hd, hf => by omega
 | 0, k, fuel + 1, v, hd, hf => by
  rw [W7, if_neg (by simp; omega), Z1 (by omega)]
  rfl
 | d + 1, k, fuel + 1, v, hd, hf => by
  have hk : k < w.length := by omega
  have hx := S6 hk
  have hxm := hw _ (List.getElem_mem hk)
  generalize w[k] = x at hx hxm
  rw [W7, if_pos (by simp; omega), E4 hx, Option.bind_some, w09 (r, n, es) v x hxm hes, Option.bind_some, Q0 (l06 hg hn v x), Option.bind_some, P2 hx]
  unfold D8
  by_cases h : p8 (r, n, es) v x < 0
  ·rw [if_pos (by simpa using h), if_pos h]
   simp [Z0g]
  ·rw [if_neg (by simpa using h), if_neg h, X2 hk (by omega), O07 r n es hg hn hes w hw hl d (k + 1) fuel _ (by omega) (by omega)]
   unfold Z0g
   simp only [Nat.add_lt_add_iff_right]
   congr 2
   simp only [Nat.add_assoc, Nat.add_comm 1]
theorem N0h (g : l0) (hg : inG g) (hn : g.2.1 ≤ 40) (hes : g.2.2.length ≤ 1099511627776) (v : Int) (w : List Int) (hw : ∀ x ∈ w, A7 x) (hl : w.length ≤ 140737488355328) : G6 g v w = some ((D8 g v w).1, (((D8 g v w).2 : Nat) : Int)) := by
 obtain ⟨r, n, es⟩ := g
 unfold G6
 have h := O07 r n es hg hn hes w hw hl w.length 0 D1 v (by omega) (Y1 hl)
 rw [show ((0 : Nat) : Int) = 0 from rfl, List.drop_zero] at h
 have hle := A09 (r, n, es) w v
 simp only [h, Option.bind_some, Z0g]
 by_cases hc : (D8 (r, n, es) v w).2 < w.length
 ·simp [hc, A8]
 ·have : (D8 (r, n, es) v w).2 = w.length := by omega
  simp [this, A8]
theorem P07 (r n : Int) (es : List D0) (hg : inG (r, n, es)) (hn : n ≤ 40) (hes : es.length ≤ 1099511627776) (w : List Int) (hw : ∀ x ∈ w, A7 x) (hl : w.length ≤ 140737488355328) : ∀ (d k fuel : Nat) (v : Int), k + d = w.length → d < fuel →
  F5 w r n es fuel v (k : Int) = some (bif decide ((D8 (r, n, es) v (w.drop k)).2 < d) then .inl (-1, false) else .inr (D8 (r, n, es) v (w.drop k)).1)
 | d, k, 0, v, hd, hf => by omega
 | 0, k, fuel + 1, v, hd, hf => by
  rw [K8, if_neg (by simp; omega), Z1 (by omega)]
  rfl
 | d + 1, k, fuel + 1, v, hd, hf => by
  have hk : k < w.length := by omega
  have hx := S6 hk
  have hxm := hw _ (List.getElem_mem hk)
  generalize w[k] = x at hx hxm
  rw [K8, if_pos (by simp; omega), E4 hx, Option.bind_some, v09 (r, n, es) v x hxm hes, Option.bind_some, Q0 (l06 hg hn v x), Option.bind_some, P2 hx]
  unfold D8
  by_cases h : p8 (r, n, es) v x < 0
  ·rw [if_pos (by simpa using h), if_pos h]
   simp
  ·rw [if_neg (by simpa using h), if_neg h, X2 hk (by omega), P07 r n es hg hn hes w hw hl d (k + 1) fuel _ (by omega) (by omega)]
   simp only [Nat.add_lt_add_iff_right]
theorem O0h (g : l0) (hf : Y0 g = true) (v : Int) (hv : 0 ≤ v ∧ v < g.2.1) (w : List Int) (hw : ∀ x ∈ w, A7 x) (hl : w.length ≤ 140737488355328) :
  F7 g v w = some (bif decide ((D8 g v w).2 < w.length) then (-1, false) else ((D8 g v w).1, true)) := by
 have hgr : T0 g = true := by unfold Y0 at hf; simp only [Bool.and_eq_true] at hf; exact hf.1
 obtain ⟨hg, _, hn, hes⟩ := l5 hgr
 have hF := E9 g (by omega)
 obtain ⟨r, n, es⟩ := g
 simp only at hv hn hes
 unfold F7
 have h := P07 r n es hg hn.2 (by omega) w hw hl w.length 0 D1 v (by omega) (Y1 hl)
 rw [show ((0 : Nat) : Int) = 0 from rfl, List.drop_zero] at h
 have hr : inR 0 (n - 1) v = true := by simp only [inR, Bool.and_eq_true, decide_eq_true_eq]; omega
 simp only [hF, hf, Option.bind_some, Bool.not_true, Bool.not_false, M3, s03, w64 (show -9223372036854775808 ≤ n - 1 by omega) (show n - 1 ≤ 9223372036854775807 by omega), hr, cond_false, Bool.false_eq_true, if_false, h]
 cases decide ((D8 (r, n, es) v w).2 < w.length) <;> rfl
theorem s5 {g : l0} (h : Y0 g = true) : inG g ∧ (1 ≤ g.1 ∧ g.1 ≤ 3) ∧ (1 ≤ g.2.1 ∧ g.2.1 ≤ 40) ∧ g.2.2.length ≤ 120 := by
 unfold Y0 at h
 simp only [Bool.and_eq_true] at h
 exact l5 h.1
end Go.Proofs.YtfdlgbfeceodeaaGreat
namespace Go.Proofs.YtfdlgbfeceodeaaGreat
open Go.H
set_option linter.unusedVariables false
set_option linter.unusedSimpArgs false
theorem D0b (x y : D0) : eqE x y = true ↔ x = y := by simp [eqE]
def goE (x : D0) : List D0 → Bool × List D0
 | [] => (false, [])
 | y :: l => if H0 x y < 0 then (true, x :: y :: l) else if H0 x y = 0 then (true, y :: l) else ((goE x l).1, y :: (goE x l).2)
theorem w0e (x : D0) : ∀ l, Z9 H0 x l = bif (goE x l).1 then (goE x l).2 else (goE x l).2 ++ [x]
 | [] => rfl
 | y :: l => by
  have ih := w0e x l
  unfold Z9 goE
  by_cases c1 : H0 x y < 0
  ·rw [if_pos c1, if_pos c1]; rfl
  ·rw [if_neg c1, if_neg c1]
   by_cases c2 : H0 x y = 0
   ·rw [if_pos c2, if_pos c2]; rfl
   ·rw [if_neg c2, if_neg c2, ih]; cases (goE x l).1 <;> rfl
theorem i07 (l : List D0) (w0 w1 w2 : Int) (hl : l.length ≤ 1099511627776) : ∀ (d k fuel : Nat) (acc : List D0), k + d = l.length → d < fuel → acc.length ≤ k + 1 →
  B3 l w0 w1 w2 fuel true (k : Int) acc = some (true, acc ++ l.drop k)
 | d, k, 0, acc, hd, hf, ha => by omega
 | 0, k, fuel + 1, acc, hd, hf, ha => by
  rw [O6, if_neg (by simp; omega), Z1 (by omega), List.append_nil]
 | d + 1, k, fuel + 1, acc, hd, hf, ha => by
  have hk : k < l.length := by omega
  have he := S6 hk
  generalize l[k] = e at he
  obtain ⟨a, x, b⟩ := e
  have ih := i07 l w0 w1 w2 hl d (k + 1) fuel (acc ++ [(a, x, b)]) (by omega) (by omega) (by simp; omega)
  rw [O6, if_pos (by simp; omega), P2 he]
  simp only [E4 he, Option.bind_some, k00, Q0 (m08 _ _), X2 hk (show l.length ≤ 9223372036854775807 by omega), Bool.not_true]
  have hb : ∀ b : Bool, (bif b then false else false) = false := fun b => by cases b <;> rfl
  simp only [hb, Bool.false_eq_true, if_false]
  rw [Q0 (by simp; omega), Option.bind_some, ih]
  simp
theorem C09 (l : List D0) (w0 w1 w2 : Int) (hl : l.length ≤ 1099511627776) : ∀ (d k fuel : Nat) (acc : List D0), k + d = l.length → d < fuel → acc.length = k →
  B3 l w0 w1 w2 fuel false (k : Int) acc = some ((goE (w0, w1, w2) (l.drop k)).1, acc ++ (goE (w0, w1, w2) (l.drop k)).2)
 | d, k, 0, acc, hd, hf, ha => by omega
 | 0, k, fuel + 1, acc, hd, hf, ha => by
  rw [O6, if_neg (by simp; omega), Z1 (by omega)]; simp [goE]
 | d + 1, k, fuel + 1, acc, hd, hf, ha => by
  have hk : k < l.length := by omega
  have he := S6 hk
  generalize l[k] = e at he
  obtain ⟨a, x, b⟩ := e
  have ih := C09 l w0 w1 w2 hl d (k + 1) fuel (acc ++ [(a, x, b)]) (by omega) (by omega) (by simp; omega)
  have on1 := i07 l w0 w1 w2 hl d (k + 1) fuel (acc ++ [(a, x, b)]) (by omega) (by omega) (by simp; omega)
  have on2 := i07 l w0 w1 w2 hl d (k + 1) fuel ((acc ++ [(w0, w1, w2)]) ++ [(a, x, b)]) (by omega) (by omega) (by simp; omega)
  rw [O6, if_pos (by simp; omega), P2 he]
  simp only [E4 he, Option.bind_some, k00, Q0 (m08 _ _), X2 hk (show l.length ≤ 9223372036854775807 by omega), Bool.not_true, Bool.not_false, goE]
  show _ = _
  unfold r09
  by_cases c1 : H0 (w0, w1, w2) (a, x, b) = 0
  ·rw [if_pos (by simpa using c1), if_neg (by simp [c1]), if_neg (by omega), if_pos c1]
   rw [Q0 (by simp; omega), Option.bind_some, on1]; simp
  ·rw [if_neg (by simpa using c1)]
   by_cases c2 : H0 (w0, w1, w2) (a, x, b) < 0
   ·rw [if_pos (by simp [c2]), if_pos c2, Q0 (by simp; omega), Option.bind_some, Q0 (by simp; omega), Option.bind_some, on2]; simp
   ·rw [if_neg (by simp [c2]), if_neg c2, if_neg c1, Q0 (by simp; omega), Option.bind_some, ih]; simp
theorem y04 (l : List D0) (e : D0) (hl : l.length ≤ 1099511627776) : T3 l e = some (Z9 H0 e l) := by
 obtain ⟨w0, w1, w2⟩ := e
 unfold T3
 have h := C09 l w0 w1 w2 hl l.length 0 D1 [] (by omega) (Y1 (by omega)) rfl
 rw [show ((0 : Nat) : Int) = 0 from rfl, List.drop_zero, List.nil_append] at h
 simp only [h, Option.bind_some, w0e]
 have hlen : ∀ l : List D0, (goE (w0, w1, w2) l).2.length ≤ l.length + 1 := fun l => by
  induction l with
  | nil => simp [goE]
  | cons y l ih =>
   unfold goE
   split
   ·simp
   ·split
    ·simp
    ·simp only [List.length_cons]; omega
 have := hlen l
 cases (goE (w0, w1, w2) l).1 with
 | true => rfl
 | false =>
  simp only [Bool.not_false, if_true, cond_false]
  rw [Q0 (by simp; omega), Option.bind_some]
theorem Y02 (e : D0) : ∀ l : List D0, (Z9 H0 e l).length ≤ l.length + 1
 | [] => by simp [Z9]
 | y :: l => by
  have := Y02 e l
  unfold Z9
  split
  ·simp
  ·split
   ·simp
   ·simp only [List.length_cons]; omega
theorem D09 (es : List D0) (hl : es.length ≤ 1099511627776) : Y7 es = some (T5 H0 [] es) := by
 unfold Y7
 rw [Q0 (by simp; omega), Option.bind_some, Q0 (by simp; omega), Option.bind_some, List.nil_append]
 exact congrArg some (C0c g7 D0b es es fun _ => Iff.rfl)
theorem T00 (g : l0) (hl : g.2.2.length ≤ 1099511627776) : Z2 g = some g := by
 obtain ⟨r, n, es⟩ := g
 unfold Z2
 simp only
 rw [Q0 (by simp only [List.length_nil, Nat.zero_add]; simp only at hl; omega)]; rfl
theorem l00 (g : l0) (hl : g.2.2.length ≤ 1099511627776) : I2 g = some g := by
 obtain ⟨r, n, es⟩ := g
 unfold I2
 simp only
 rw [Q0 (by simp only [List.length_nil, Nat.zero_add]; simp only at hl; omega)]; rfl
end Go.Proofs.YtfdlgbfeceodeaaGreat
namespace Go.Proofs.YtfdlgbfeceodeaaGreat
open Go.H
set_option linter.unusedVariables false
set_option linter.unusedSimpArgs false
inductive Rch (es : List D0) (v : Int) : Int → Prop
 | base : Rch es v v
 | fwd {e : D0} : e ∈ es → Rch es v e.1 → Rch es v e.2.2
 | bwd {e : D0} : e ∈ es → Rch es v e.2.2 → Rch es v e.1
theorem Rch.closed {es : List D0} {v : Int} : ∀ e ∈ es, Rch es v e.1 ↔ Rch es v e.2.2 := fun e he => ⟨.fwd he, .bwd he⟩
theorem Rch.sub {es : List D0} {v : Int} {P : Int → Prop} (hv : P v) (hc : ∀ e ∈ es, P e.1 ↔ P e.2.2) : ∀ {x}, Rch es v x → P x
 | _, .base => hv
 | _, .fwd he h => (hc _ he).1 (Rch.sub hv hc h)
 | _, .bwd he h => (hc _ he).2 (Rch.sub hv hc h)
def s1 (u : List Int) (e : D0) : List Int := if e.1 ∈ u then Z9 L7 e.2.2 u else u
def s2 (u : List Int) (e : D0) : List Int := if e.2.2 ∈ u then Z9 L7 e.1 u else u
end Go.Proofs.YtfdlgbfeceodeaaGreat
namespace Go.Proofs.YtfdlgbfeceodeaaGreat
open Go.H
set_option linter.unusedVariables false
set_option linter.unusedSimpArgs false
def getI (P : List Int) (v : Int) : Int := P.getD v.toNat (-1)
theorem p02 : ∀ (r l : List D0), (T5 H0 l r).length ≤ l.length + r.length
 | [], l => by simp [T5]
 | e :: r, l => by have := p02 r (Z9 H0 e l); have := Y02 e l; simp only [T5, List.length_cons]; omega
end Go.Proofs.YtfdlgbfeceodeaaGreat
namespace Go.Proofs.YtfdlgbfeceodeaaGreat
open Go.H
set_option linter.unusedVariables false
set_option linter.unusedSimpArgs false
def U00 : Nat → Nat → List Int
 | 0, _ => []
 | d + 1, i => (i : Int) :: -(i : Int) :: U00 d (i + 1)
theorem E09 : ∀ d i, (U00 d i).length = 2 * d
 | 0, i => rfl
 | d + 1, i => by simp only [U00, List.length_cons, E09 d]; omega
theorem g0g (R : Nat) (hR : R ≤ 900) : ∀ (d i fuel : Nat) (acc : List Int), i + d = R + 1 → d < fuel → acc.length + 2 * d ≤ 10000 →
  Z5 (R : Int) fuel (i : Int) acc = some (acc ++ U00 d i)
 | d, i, 0, acc, hd, hf, ha => by omega
 | 0, i, fuel + 1, acc, hd, hf, ha => by
  rw [b9, if_neg (by simp; omega)]; simp [U00]
 | d + 1, i, fuel + 1, acc, hd, hf, ha => by
  have ih := g0g R hR d (i + 1) fuel (acc ++ [(i : Int), -(i : Int)]) (by omega) (by omega) (by simp; omega)
  have w1 : IntKind.i64.wrap (0 - (i : Int)) = -(i : Int) := by rw [w64 (by omega) (by omega)]; omega
  rw [b9, if_pos (by simp; omega), w1, Q0 (by simp; omega), Option.bind_some, X2 (show i < 1000 by omega) (by omega), ih]
  simp [U00]
theorem i0g (R : Nat) (hR : R ≤ 900) : ∀ (d i fuel : Nat) (acc : List Int), i + d = R + 1 → d < fuel → acc.length + 2 * d ≤ 10000 →
  p5 (R : Int) fuel (i : Int) acc = some (acc ++ U00 d i)
 | d, i, 0, acc, hd, hf, ha => by omega
 | 0, i, fuel + 1, acc, hd, hf, ha => by
  rw [o8, if_neg (by simp; omega)]; simp [U00]
 | d + 1, i, fuel + 1, acc, hd, hf, ha => by
  have ih := i0g R hR d (i + 1) fuel ((acc ++ [(i : Int)]) ++ [-(i : Int)]) (by omega) (by omega) (by simp; omega)
  have w1 : IntKind.i64.wrap (0 - (i : Int)) = -(i : Int) := by rw [w64 (by omega) (by omega)]; omega
  rw [o8, if_pos (by simp; omega), w1, Q0 (by simp; omega), Option.bind_some, Q0 (by simp; omega), Option.bind_some, X2 (show i < 1000 by omega) (by omega), ih]
  simp [U00]
theorem P0h (R : Nat) (hR : R ≤ 900) : j7 (R : Int) = some (U00 R 1) := by
 unfold j7
 rw [show (1 : Int) = ((1 : Nat) : Int) from rfl, g0g R hR R 1 D1 [] (by omega) (Y1 (by omega)) (by simp; omega)]; rfl
theorem Q0h (R : Nat) (hR : R ≤ 900) : Y5 (R : Int) = some (U00 R 1) := by
 unfold Y5
 rw [show (1 : Int) = ((1 : Nat) : Int) from rfl, i0g R hR R 1 D1 [] (by omega) (Y1 (by omega)) (by simp; omega)]; rfl
end Go.Proofs.YtfdlgbfeceodeaaGreat
namespace Go.Proofs.YtfdlgbfeceodeaaGreat
open Go.H
set_option linter.unusedVariables false
set_option linter.unusedSimpArgs false
end Go.Proofs.YtfdlgbfeceodeaaGreat
namespace Go.Proofs.YtfdlgbfeceodeaaGreat
open Go.H
set_option linter.unusedVariables false
set_option linter.unusedSimpArgs false
def R0h (l : k08) : Prop := l.length ≤ 140737488355328 ∧ ∀ e ∈ l, e.1.size ≤ 140737488355328 ∧ e.2.2.2.length ≤ 140737488355328
end Go.Proofs.YtfdlgbfeceodeaaGreat
namespace Go.Proofs.YtfdlgbfeceodeaaGreat
open Go.H
set_option linter.unusedVariables false
set_option linter.unusedSimpArgs false
def j0g (l : k08) : Prop := l.length ≤ 1048576 ∧ ∀ e ∈ l, e.1.size ≤ 1048576 ∧ e.2.2.2.length ≤ 1048576
theorem j0g.ok {l : k08} (h : j0g l) : R0h l := ⟨by have := h.1; omega, fun e he => by have := h.2 e he; omega⟩
end Go.Proofs.YtfdlgbfeceodeaaGreat
namespace Go.Proofs.YtfdlgbfeceodeaaGreat
open Go.H
set_option linter.unusedVariables false
set_option linter.unusedSimpArgs false
theorem J0c {α : Type} {cf : α → α → Int} (h : z7 cf) : ∀ {l : List α}, (∀ i x y, l[i]? = some x → l[i + 1]? = some y → cf x y < 0) → Asc cf l
 | [], _ => List.Pairwise.nil
 | [x], _ => List.pairwise_singleton _ _
 | x :: y :: l, hn => by
  have ih : Asc cf (y :: l) := J0c h fun i a b ha hb => hn (i + 1) a b (by simpa using ha) (by simpa using hb)
  have hxy := hn 0 x y rfl rfl
  refine List.pairwise_cons.2 ⟨fun z hz => ?_, ih⟩
  rcases List.mem_cons.1 hz with rfl | hz
  ·exact hxy
  ·exact h.trans _ _ _ hxy ((List.pairwise_cons.1 ih).1 z hz)
theorem k0g {α : Type} {cf : α → α → Int} : ∀ {l : List α}, Asc cf l → ∀ {i : Nat} {x y : α}, l[i]? = some x → l[i + 1]? = some y → cf x y < 0
 | [], _, i, x, y, hx, _ => by simp at hx
 | a :: l, h, 0, x, y, hx, hy => by
  simp at hx hy; subst hx
  exact (List.pairwise_cons.1 h).1 y (List.mem_of_getElem? hy)
 | a :: l, h, i + 1, x, y, hx, hy => k0g (List.pairwise_cons.1 h).2 (i := i) (by simpa using hx) (by simpa using hy)
theorem l0g {r hi : Int} {es : List D0} : ∀ {d k : Nat}, (∀ i, k ≤ i → i < k + d → f0g r hi es i = false) → okE r hi es d k = true
 | 0, k, h => rfl
 | d + 1, k, h => by
  simp only [okE, Bool.and_eq_true, Bool.not_eq_true']
  exact ⟨h k (Nat.le_refl _) (by omega), l0g fun i h1 h2 => h i (by omega) (by omega)⟩
theorem y01 (g : l0) : T0 g = true ↔ inG g ∧ (1 ≤ g.1 ∧ g.1 ≤ 3) ∧ (1 ≤ g.2.1 ∧ g.2.1 ≤ 40) ∧ g.2.2.length ≤ 120 ∧ Asc H0 g.2.2 := by
 constructor
 ·intro h
  obtain ⟨q1, q2, q3, q4⟩ := l5 h
  refine ⟨q1, q2, q3, q4, J0c g7 fun i x y hx hy => ?_⟩
  simp only [T0, Bool.and_eq_true] at h
  have hb := I0d h.1.1.1 (i + 1) (Nat.zero_le _) (by have := (List.getElem?_eq_some_iff.1 hy).1; omega)
  rw [i06 hy] at hb
  simp only [Nat.add_sub_cancel, hx, Bool.or_eq_false_iff] at hb
  have := hb.2
  simp only [show decide (0 < i + 1) = true by simp, Bool.true_and, decide_eq_false_iff_not] at this
  have e : r09 x y = H0 x y := rfl
  omega
 ·rintro ⟨q1, q2, q3, q4, q5⟩
  obtain ⟨r, n, es⟩ := g
  simp only at q2 q3 q4 q5
  simp only [T0, inR, Bool.and_eq_true, decide_eq_true_eq]
  refine ⟨⟨⟨l0g fun i _ hi => ?_, q2⟩, q3⟩, q4⟩
  have hx := S6 (show i < es.length by omega)
  generalize es[i] = e at hx
  rw [i06 hx]
  have he := q1 e (List.mem_of_getElem? hx)
  simp only at he
  simp only [Bool.or_eq_false_iff, Bool.not_eq_false', o01, inR, Bool.and_eq_true, decide_eq_true_eq]
  rw [w64 (by omega) (by omega)]
  refine ⟨⟨⟨⟨by omega, by omega⟩, by omega, by omega⟩, by omega, by omega⟩, ?_⟩
  cases i with
  | zero => rfl
  | succ j =>
   have hy := S6 (show j < es.length by omega)
   generalize es[j] = f at hy
   have := k0g q5 hy hx
   simp only [Nat.add_sub_cancel, hy]
   have e' : r09 f e = H0 f e := rfl
   simp [e']; omega
theorem E0b {r : Int} {n : Int} {es : List D0} (hr : 1 ≤ r ∧ r ≤ 3) (hn : 1 ≤ n ∧ n ≤ 40) (hes : es.length ≤ 120) (hin : inG (r, n, es)) : T0 (r, n, T5 H0 [] es) = true := by
 refine (y01 _).2 ⟨fun e he => hin e ?_, hr, hn, ?_, Q01 g7 _ _ List.Pairwise.nil⟩
 ·rcases (R00 g7 e es []).1 he with h | h
  ·simp at h
  ·exact h
 ·have := p02 es []
  simp only [List.length_nil] at this
  simp only; omega
def q06 (a b : D0) : List (Int × Int) :=
 bif decide (a.2.1 = b.2.1) then (bif decide (a.1 = b.1) then [(if b.2.2 < a.2.2 then b.2.2 else a.2.2, if b.2.2 > a.2.2 then b.2.2 else a.2.2)] else []) ++ (bif decide (a.2.2 = b.2.2) then [(if b.1 < a.1 then b.1 else a.1, if b.1 > a.1 then b.1 else a.1)] else []) else []
def r00 (a : D0) : List D0 → List (Int × Int)
 | [] => []
 | b :: r => q06 a b ++ r00 a r
def l6 : List D0 → List (Int × Int)
 | [] => []
 | a :: r => r00 a r ++ l6 r
theorem g0f (a b : D0) : (q06 a b).length ≤ 2 := by
 unfold q06
 cases decide (a.2.1 = b.2.1) <;> cases decide (a.1 = b.1) <;> cases decide (a.2.2 = b.2.2) <;> simp
theorem j07 (a : D0) : ∀ l, (r00 a l).length ≤ 2 * l.length
 | [] => by simp [r00]
 | b :: r => by have := g0f a b; have := j07 a r; simp only [r00, List.length_append, List.length_cons]; omega
def mvV (f : Int × Int) (v : Int) : Int := if v = f.2 then f.1 else if v > f.2 then v - 1 else v
def mvE (f : Int × Int) (e : D0) : D0 := (mvV f e.1, e.2.1, mvV f e.2.2)
def c8 (g : l0) (f : Int × Int) : l0 := (g.1, g.2.1 - 1, T5 H0 [] (g.2.2.map (mvE f)))
def okF (g : l0) (f : Int × Int) : Prop := 0 ≤ f.1 ∧ f.1 < f.2 ∧ f.2 < g.2.1
theorem c04 {g : l0} {f : Int × Int} (hg : T0 g = true) (hf : okF g f) : T0 (c8 g f) = true := by
 obtain ⟨q1, q2, q3, q4, _⟩ := (y01 g).1 hg
 obtain ⟨f1, f2, f3⟩ := hf
 refine E0b q2 ⟨by omega, by omega⟩ (by simpa using q4) fun e he => ?_
 obtain ⟨e', he', rfl⟩ := List.mem_map.1 he
 obtain ⟨a1, a2, a3⟩ := q1 e' he'
 have hm : ∀ v : Int, 0 ≤ v ∧ v < g.2.1 → 0 ≤ mvV f v ∧ mvV f v < g.2.1 - 1 := fun v hv => by
  unfold mvV; split
  ·omega
  ·split <;> omega
 exact ⟨hm _ a1, hm _ a2, a3⟩
theorem K0c {g : l0} (hg : inG g) {a : D0} (ha : a ∈ g.2.2) : ∀ {l : List D0}, (∀ b ∈ l, b ∈ g.2.2 ∧ a ≠ b) → ∀ f ∈ r00 a l, okF g f
 | [], _, f, hf => by simp [r00] at hf
 | b :: r, h, f, hf => by
  rcases List.mem_append.1 (show f ∈ q06 a b ++ r00 a r from hf) with hf | hf
  ·have hb := hg b (h b (List.mem_cons_self ..)).1
   have ha' := hg a ha
   have hne := (h b (List.mem_cons_self ..)).2
   obtain ⟨a0, a1, a2⟩ := a
   obtain ⟨b0, b1, b2⟩ := b
   simp only at ha' hb
   unfold q06 at hf
   simp only at hf
   by_cases c1 : a1 = b1
   ·have d1 : ¬ (a0 = b0 ∧ a2 = b2) := fun ⟨x, y⟩ => hne (by rw [x, c1, y])
    simp only [c1, decide_true, cond_true, List.mem_append] at hf
    rcases hf with hf | hf
    ·by_cases c2 : a0 = b0
     ·simp only [c2, decide_true, cond_true, List.mem_singleton] at hf
      subst hf
      have : a2 ≠ b2 := fun y => d1 ⟨c2, y⟩
      unfold okF
      simp only
      split <;> split <;> omega
     ·simp [c2] at hf
    ·by_cases c2 : a2 = b2
     ·simp only [c2, decide_true, cond_true, List.mem_singleton] at hf
      subst hf
      have : a0 ≠ b0 := fun y => d1 ⟨y, c2⟩
      unfold okF
      simp only
      split <;> split <;> omega
     ·simp [c2] at hf
   ·simp [c1] at hf
  ·exact K0c hg ha (fun b' hb' => h b' (List.mem_cons_of_mem _ hb')) f hf
theorem L0c {g : l0} (hg : inG g) : ∀ {l : List D0}, (∀ b ∈ l, b ∈ g.2.2) → Asc H0 l → ∀ f ∈ l6 l, okF g f
 | [], _, _, f, hf => by simp [l6] at hf
 | a :: r, h, hA, f, hf => by
  rcases List.mem_append.1 (show f ∈ r00 a r ++ l6 r from hf) with hf | hf
  ·refine K0c hg (h a (List.mem_cons_self ..)) (fun b hb => ⟨h b (List.mem_cons_of_mem _ hb), fun e => ?_⟩) f hf
   have := (List.pairwise_cons.1 hA).1 b hb
   rw [e, g7.refl] at this; omega
  ·exact L0c hg (fun b hb => h b (List.mem_cons_of_mem _ hb)) (List.pairwise_cons.1 hA).2 f hf
theorem Z02 {g : l0} (hg : T0 g = true) : ∀ f ∈ l6 g.2.2, okF g f := by
 obtain ⟨q1, _, _, _, q5⟩ := (y01 g).1 hg
 exact L0c q1 (fun _ h => h) q5
def T9 : Nat → l0 → l0 × List (Int × Int)
 | 0, g => (g, [])
 | n + 1, g => match l6 g.2.2 with
  | [] => (g, [])
  | f :: _ => ((T9 n (c8 g f)).1, f :: (T9 n (c8 g f)).2)
def s00 (g : l0) : l0 × List (Int × Int) := bif T0 g then T9 40 g else (g, [])
theorem F09 : ∀ (n : Nat) {g : l0}, T0 g = true → g.2.1 ≤ (n : Int) + 1 → l6 (T9 n g).1.2.2 = []
 | 0, g, h, hn => by
  cases e : l6 g.2.2 with
  | nil => exact e
  | cons f l =>
   have := Z02 h f (by rw [e]; exact List.mem_cons_self ..)
   unfold okF at this
   omega
 | n + 1, g, h, hn => by
  unfold T9
  cases e : l6 g.2.2 with
  | nil => exact e
  | cons f l => exact F09 n (c04 h (Z02 h f (by rw [e]; exact List.mem_cons_self ..))) (by show g.2.1 - 1 ≤ _; omega)
theorem h0f (a b : D0) : q06 a b = [] ↔ E04 a b = false := by
 unfold q06 E04
 cases decide (a.2.1 = b.2.1) <;> cases decide (a.1 = b.1) <;> cases decide (a.2.2 = b.2.2) <;> simp
theorem N0a (a : D0) : ∀ l, r00 a l = [] ↔ ∀ b ∈ l, E04 a b = false
 | [] => by simp [r00]
 | b :: r => by
  rw [r00, List.append_eq_nil_iff, h0f, N0a a r]
  simp
theorem O0a : ∀ l, l6 l = [] ↔ l.Pairwise fun a b => E04 a b = false
 | [] => by simp [l6]
 | a :: r => by rw [l6, List.append_eq_nil_iff, N0a, O0a r, List.pairwise_cons]
theorem O8 (g : l0) : Y0 g = true ↔ T0 g = true ∧ l6 g.2.2 = [] := by
 unfold Y0
 rw [Bool.and_eq_true, h07, O0a]
end Go.Proofs.YtfdlgbfeceodeaaGreat
namespace Go.Proofs.YtfdlgbfeceodeaaGreat
open Go.H
set_option linter.unusedVariables false
set_option linter.unusedSimpArgs false
theorem P0a (l : List D0) (a0 a1 a2 : Int) (hl : l.length ≤ 1000) : ∀ (d k fuel : Nat) (acc : List Y2), k + d = l.length → d < fuel → acc.length + 2 * d ≤ 4000000 →
  M2 l a1 a0 a2 fuel (k : Int) acc = some (acc ++ r00 (a0, a1, a2) (l.drop k))
 | d, k, 0, acc, hd, hf, ha => by omega
 | 0, k, fuel + 1, acc, hd, hf, ha => by
  rw [V9, if_neg (by simp; omega), Z1 (by omega)]
  simp [r00]
 | d + 1, k, fuel + 1, acc, hd, hf, ha => by
  have hk : k < l.length := by omega
  have hx := S6 hk
  generalize l[k] = b at hx
  obtain ⟨b0, b1, b2⟩ := b
  have ih : ∀ acc' : List Y2, acc'.length + 2 * d ≤ 4000000 → M2 l a1 a0 a2 fuel ((k + 1 : Nat) : Int) acc' = some (acc' ++ r00 (a0, a1, a2) (l.drop (k + 1))) := fun acc' h => P0a l a0 a1 a2 hl d (k + 1) fuel acc' (by omega) (by omega) h
  rw [V9, if_pos (by simp; omega), E4 hx, Option.bind_some, X2 hk (by omega), P2 hx]
  simp only [r00, q06]
  cases decide (a1 = b1)
  ·simp only [Bool.not_false, if_true, cond_false, List.nil_append]
   exact ih acc (by omega)
  ·cases decide (a0 = b0) <;> cases decide (a2 = b2)
   all_goals simp only [Bool.not_true, Bool.false_eq_true, if_false, if_true, cond_true, cond_false, List.nil_append, List.append_nil]
   ·exact ih acc (by omega)
   ·rw [Q0 (by simp; omega), Option.bind_some, ih _ (by simp; omega)]; simp
   ·rw [Q0 (by simp; omega), Option.bind_some, ih _ (by simp; omega)]; simp
   ·rw [Q0 (by simp; omega), Option.bind_some, Q0 (by simp; omega), Option.bind_some, ih _ (by simp; omega)]; simp
theorem Q0a (l : List D0) (hl : l.length ≤ 1000) : ∀ (d k fuel : Nat) (acc : List Y2), k + d = l.length → d < fuel → acc.length + 2000 * d ≤ 3000000 →
  p7 l fuel (k : Int) acc = some (acc ++ l6 (l.drop k))
 | d, k, 0, acc, hd, hf, ha => by omega
 | 0, k, fuel + 1, acc, hd, hf, ha => by
  rw [W9, if_neg (by simp; omega), Z1 (by omega)]
  simp [l6]
 | d + 1, k, fuel + 1, acc, hd, hf, ha => by
  have hk : k < l.length := by omega
  have hx := S6 hk
  generalize l[k] = b at hx
  obtain ⟨b0, b1, b2⟩ := b
  have h0 := P0a (l.drop (k + 1)) b0 b1 b2 (by simp; omega) (l.length - (k + 1)) 0 D1 acc (by simp) (Y1 (by omega)) (by omega)
  have hr := j07 (b0, b1, b2) (l.drop (k + 1))
  simp only [List.length_drop] at hr
  rw [W9, if_pos (by simp; omega), E4 hx, Option.bind_some]
  simp only [X2 hk (show l.length ≤ 9223372036854775807 by omega)]
  rw [z09 (by omega), Option.bind_some, show (0 : Int) = ((0 : Nat) : Int) from rfl, h0, Option.bind_some, Q0a l hl d (k + 1) fuel _ (by omega) (by omega) (by simp only [List.length_append, List.drop_zero, List.length_drop] at hr ⊢; omega), P2 hx, l6]
  simp
theorem R0a (l : List D0) (hl : l.length ≤ 1000) (i : Nat) (a0 a1 a2 : Int) (hi : l[i]? = some (a0, a1, a2)) : ∀ (d k fuel : Nat) (acc : List Y2), k + d = l.length → d < fuel → acc.length + 2 * d ≤ 4000000 →
  J2 l (i : Int) fuel (k : Int) acc = some (acc ++ r00 (a0, a1, a2) (l.drop k))
 | d, k, 0, acc, hd, hf, ha => by omega
 | 0, k, fuel + 1, acc, hd, hf, ha => by
  rw [d9, if_neg (by simp; omega), Z1 (by omega)]
  simp [r00]
 | d + 1, k, fuel + 1, acc, hd, hf, ha => by
  have hk : k < l.length := by omega
  have hx := S6 hk
  generalize l[k] = b at hx
  obtain ⟨b0, b1, b2⟩ := b
  have ih : ∀ acc' : List Y2, acc'.length + 2 * d ≤ 4000000 → J2 l (i : Int) fuel ((k + 1 : Nat) : Int) acc' = some (acc' ++ r00 (a0, a1, a2) (l.drop (k + 1))) := fun acc' h => R0a l hl i a0 a1 a2 hi d (k + 1) fuel acc' (by omega) (by omega) h
  rw [d9, if_pos (by simp; omega), E4 hi, Option.bind_some]
  simp only []
  rw [E4 hx, Option.bind_some, X2 hk (by omega), P2 hx]
  simp only [r00, q06]
  cases decide (a1 = b1)
  ·simp only [Bool.false_eq_true, if_false, cond_false, List.nil_append]
   exact ih acc (by omega)
  ·cases decide (a0 = b0) <;> cases decide (a2 = b2)
   all_goals simp only [Bool.not_true, Bool.false_eq_true, if_false, if_true, cond_true, cond_false, List.nil_append, List.append_nil]
   ·exact ih acc (by omega)
   ·rw [Q0 (by simp; omega), Option.bind_some, ih _ (by simp; omega)]; simp
   ·rw [Q0 (by simp; omega), Option.bind_some, ih _ (by simp; omega)]; simp
   ·rw [Q0 (by simp; omega), Option.bind_some, Q0 (by simp; omega), Option.bind_some, ih _ (by simp; omega)]; simp
theorem S0a (l : List D0) (hl : l.length ≤ 1000) : ∀ (d k fuel : Nat) (acc : List Y2), k + d = l.length → d < fuel → acc.length + 2000 * d ≤ 3000000 →
  c6 l fuel (k : Int) acc = some (acc ++ l6 (l.drop k))
 | d, k, 0, acc, hd, hf, ha => by omega
 | 0, k, fuel + 1, acc, hd, hf, ha => by
  rw [f9, if_neg (by simp; omega), Z1 (by omega)]
  simp [l6]
 | d + 1, k, fuel + 1, acc, hd, hf, ha => by
  have hk : k < l.length := by omega
  have hx := S6 hk
  generalize l[k] = b at hx
  obtain ⟨b0, b1, b2⟩ := b
  have h0 := R0a l hl k b0 b1 b2 hx (l.length - (k + 1)) (k + 1) D1 acc (by omega) (Y1 (by omega)) (by omega)
  have hr := j07 (b0, b1, b2) (l.drop (k + 1))
  simp only [List.length_drop] at hr
  rw [f9, if_pos (by simp; omega), X2 hk (by omega), h0, Option.bind_some, S0a l hl d (k + 1) fuel _ (by omega) (by omega) (by simp only [List.length_append, List.length_drop] at hr ⊢; omega), P2 hx, l6]
  simp
theorem M0c (g : l0) (hl : g.2.2.length ≤ 1000) : C00 g = some (l6 g.2.2) := by
 obtain ⟨r, n, es⟩ := g
 unfold C00
 simp only
 rw [show (0 : Int) = ((0 : Nat) : Int) from rfl, Q0a es hl es.length 0 D1 [] (by omega) (Y1 (by simp only at hl; omega)) (by simp only at hl; simp; omega)]
 rfl
theorem N0c (g : l0) (hl : g.2.2.length ≤ 1000) : F9 g = some (l6 g.2.2) := by
 obtain ⟨r, n, es⟩ := g
 unfold F9
 simp only
 rw [show (0 : Int) = ((0 : Nat) : Int) from rfl, S0a es hl es.length 0 D1 [] (by omega) (Y1 (by simp only at hl; omega)) (by simp only at hl; simp; omega)]
 rfl
def t00 (g : l0) : Y2 × Bool := bif T0 g then (match l6 g.2.2 with
 | [] => ((0, 0), false)
 | f :: _ => (f, true)) else ((0, 0), false)
theorem U07 (g : l0) (hl : g.2.2.length ≤ 140737488355328) : V6 g = some (t00 g) := by
 have h1 := V8 g hl
 have h2 := M0c g
 unfold t00
 cases hg : T0 g with
 | false =>
  obtain ⟨r, n, es⟩ := g
  unfold V6
  simp only [h1, hg, Option.bind_some]; rfl
 | true =>
  have h2 := h2 (by have := (l5 hg).2.2.2; omega)
  obtain ⟨r, n, es⟩ := g
  unfold V6
  simp only [h1, hg, h2, Option.bind_some, cond_true]
  simp only at h2
  cases l6 es with
  | nil => rfl
  | cons f l =>
   rw [if_neg (by simp), if_neg (by simp; omega), f07 rfl]
   rfl
theorem V07 (g : l0) (hl : g.2.2.length ≤ 140737488355328) : T6 g = some (t00 g) := by
 have h1 := Z7 g hl
 have h2 := N0c g
 unfold t00
 cases hg : T0 g with
 | false =>
  obtain ⟨r, n, es⟩ := g
  unfold T6
  simp only [h1, hg, Option.bind_some]; rfl
 | true =>
  have h2 := h2 (by have := (l5 hg).2.2.2; omega)
  obtain ⟨r, n, es⟩ := g
  unfold T6
  simp only [h1, hg, h2, Option.bind_some, cond_true]
  simp only at h2
  cases l6 es with
  | nil => rfl
  | cons f l =>
   rw [if_neg (by simp), if_neg (by simp; omega), f07 rfl]
   rfl
theorem x0e (v : Int) (f : Y2) (hv : 0 ≤ v ∧ v < 1000) (hf : 0 ≤ f.1 ∧ f.1 < f.2) : M7 v f = some (mvV f v) := by
 obtain ⟨a, b⟩ := f
 simp only at hf
 unfold M7 mvV
 simp only
 by_cases c : v = b
 ·rw [if_pos (by simp [c]), if_neg (by simp; omega), if_pos c]
 ·rw [if_neg (by simp [c]), if_neg c]
  by_cases c2 : v > b
  ·rw [if_pos (by simp [c2]), if_pos c2, w64 (by omega) (by omega)]
  ·rw [if_neg (by simp; omega), if_neg c2]
theorem O0c (v : Int) (f : Y2) (hv : 0 ≤ v ∧ v < 1000) : C3 v f = some (mvV f v) := by
 obtain ⟨a, b⟩ := f
 unfold C3 mvV
 simp only
 by_cases c : v = b
 ·rw [if_pos (by simp [c]), if_pos c]
 ·rw [if_neg (by simp [c]), if_neg c]
  by_cases c2 : v > b
  ·rw [if_pos (by simp [c2]), if_pos c2, w64 (by omega) (by omega)]
  ·rw [if_neg (by simp; omega), if_neg c2]
theorem F0b {f : Y2} {v : Int} (hv : 0 ≤ v ∧ v < 1000) (hf : 0 ≤ f.1 ∧ f.1 < 1000) : J0 (mvV f v) := by
 unfold mvV
 split
 ·exact ⟨by omega, by omega⟩
 ·split
  ·exact ⟨by omega, by omega⟩
  ·exact ⟨by omega, by omega⟩
theorem P0c (es : List D0) (f : Y2) (r n : Int) (hl : es.length ≤ 1000) (hv : ∀ e ∈ es, (0 ≤ e.1 ∧ e.1 < 1000) ∧ (0 ≤ e.2.2 ∧ e.2.2 < 1000)) (hf : 0 ≤ f.1 ∧ f.1 < f.2) (hf2 : f.2 < 1000) : ∀ (d k fuel : Nat) (acc : List D0), k + d = es.length → d < fuel → acc.length ≤ k →
  U3 es f.1 f.2 fuel (k : Int) r n acc = some (r, n, T5 H0 acc ((es.drop k).map (mvE f)))
 | d, k, 0, acc, hd, hfu, ha => by omega
 | 0, k, fuel + 1, acc, hd, hfu, ha => by
  rw [Q6, if_neg (by simp; omega), Z1 (by omega)]
  rfl
 | d + 1, k, fuel + 1, acc, hd, hfu, ha => by
  have hk : k < es.length := by omega
  have hx := S6 hk
  have hvk := hv _ (List.getElem_mem hk)
  generalize es[k] = b at hx hvk
  obtain ⟨b0, b1, b2⟩ := b
  simp only at hvk
  have hln := Y02 (mvE f (b0, b1, b2)) acc
  rw [Q6, if_pos (by simp; omega), E4 hx, Option.bind_some]
  simp only []
  rw [x0e b0 (f.1, f.2) hvk.1 hf, Option.bind_some, Q0 (F0b hvk.1 ⟨hf.1, by show f.1 < 1000; omega⟩), Option.bind_some, x0e b2 (f.1, f.2) hvk.2 hf, Option.bind_some, Q0 (F0b hvk.2 ⟨hf.1, by show f.1 < 1000; omega⟩), Option.bind_some,
   y04 acc _ (by omega), Option.bind_some, X2 hk (by omega), P2 hx, List.map_cons]
  exact P0c es f r n hl hv hf hf2 d (k + 1) fuel _ (by omega) (by omega) (Nat.le_trans hln (by omega))
theorem Q0c {g : l0} {f : Y2} (hg : T0 g = true) (hf : okF g f) : w5 g f = some (c8 g f, true) := by
 obtain ⟨q1, q2, q3, q4⟩ := l5 hg
 have h1 := Z7 g (by omega)
 obtain ⟨f1, f2, f3⟩ := hf
 obtain ⟨r, n, es⟩ := g
 obtain ⟨a, b⟩ := f
 simp only at f1 f2 f3 q3 q4
 have h := P0c es (a, b) r (IntKind.i64.wrap (n - 1)) (by omega) (fun e he => by
  have := q1 e he
  simp only at this
  exact ⟨⟨by omega, by omega⟩, by omega, by omega⟩) ⟨f1, f2⟩ (by simp only; omega) es.length 0 D1 [] (by omega) (Y1 (by omega)) (Nat.le_refl _)
 unfold w5
 simp only [h1, hg, Option.bind_some]
 rw [if_neg (by simp; omega), show (0 : Int) = ((0 : Nat) : Int) from rfl, h, w64 (by omega) (by omega)]
 rfl
theorem R0c (es : List D0) (f : Y2) (hl : es.length ≤ 1000) (hv : ∀ e ∈ es, (0 ≤ e.1 ∧ e.1 < 1000) ∧ (0 ≤ e.2.2 ∧ e.2.2 < 1000)) (hf : 0 ≤ f.1 ∧ f.1 < 1000) : ∀ (d k fuel : Nat), k + d = es.length → d < fuel →
  V3 es f.1 f.2 fuel (k : Int) ((es.take k).map (mvE f) ++ es.drop k) = some (es.map (mvE f))
 | d, k, 0, hd, hfu => by omega
 | 0, k, fuel + 1, hd, hfu => by
  rw [R6, if_neg (by simp; omega), Z1 (by omega), List.append_nil, List.take_of_length_le (by omega)]
 | d + 1, k, fuel + 1, hd, hfu => by
  have hk : k < es.length := by omega
  have hx := S6 hk
  have hvk := hv _ (List.getElem_mem hk)
  generalize es[k] = b at hx hvk
  have htl : ((es.take k).map (mvE f)).length = k := by simp; omega
  have hg : ((es.take k).map (mvE f) ++ es.drop k)[k]? = some b := by
   rw [List.getElem?_append_right (by omega), htl, P2 hx]; simp
  have hs : ∀ y, ((es.take k).map (mvE f) ++ es.drop k).set k y = (es.take k).map (mvE f) ++ y :: es.drop (k + 1) := fun y => by
   rw [List.set_append_right _ _ (by omega), htl, P2 hx]; simp
  obtain ⟨b0, b1, b2⟩ := b
  simp only at hvk
  have e : (es.take (k + 1)).map (mvE f) ++ es.drop (k + 1) = (es.take k).map (mvE f) ++ mvE f (b0, b1, b2) :: es.drop (k + 1) := by
   rw [o0h hx]; simp
  have ih := R0c es f hl hv hf d (k + 1) fuel (by omega) (by omega)
  rw [e] at ih
  rw [R6, if_pos (by simp; omega), E4 hg, Option.bind_some]
  simp only []
  rw [O0c b0 (f.1, f.2) hvk.1, Option.bind_some, Q0 (F0b hvk.1 hf), Option.bind_some, O0c b2 (f.1, f.2) hvk.2, Option.bind_some, Q0 (F0b hvk.2 hf), Option.bind_some]
  simp only [Option.bind_some]
  rw [show ((k : Nat) : Int).toNat = k from Int.toNat_natCast k, hs, X2 hk (by omega)]
  exact ih
theorem S0c {g : l0} {f : Y2} (hg : T0 g = true) (hf : okF g f) : A5 g f = some (c8 g f, true) := by
 obtain ⟨q1, q2, q3, q4⟩ := l5 hg
 have h1 := V8 g (by omega)
 have h2 := l00 g (by omega)
 obtain ⟨f1, f2, f3⟩ := hf
 obtain ⟨r, n, es⟩ := g
 obtain ⟨a, b⟩ := f
 simp only at f1 f2 f3 q3 q4
 have h := R0c es (a, b) (by omega) (fun e he => by
  have := q1 e he
  simp only at this
  exact ⟨⟨by omega, by omega⟩, by omega, by omega⟩) ⟨f1, by simp only; omega⟩ es.length 0 D1 (by omega) (Y1 (by omega))
 simp only [List.take_zero, List.map_nil, List.nil_append, List.drop_zero] at h
 unfold A5
 simp only [h1, h2, hg, Option.bind_some]
 rw [if_neg (by simp; omega), show (0 : Int) = ((0 : Nat) : Int) from rfl, h, Option.bind_some, D09 _ (by simp; omega), Option.bind_some, w64 (by omega) (by omega)]
 rfl
def G9 (g : l0) : l0 × Y2 × Bool := bif T0 g then (match l6 g.2.2 with
 | [] => (g, (0, 0), false)
 | f :: _ => (c8 g f, f, true)) else (g, (0, 0), false)
theorem d04 (g : l0) (hl : g.2.2.length ≤ 1099511627776) : H7 g = some (G9 g) := by
 have h1 := V07 g (by omega)
 have h2 := T00 g hl
 have h3 : ∀ f, T0 g = true → okF g f → w5 g f = some (c8 g f, true) := fun f a b => Q0c a b
 have h4 : T0 g = true → ∀ f ∈ l6 g.2.2, okF g f := Z02
 unfold t00 at h1
 unfold G9
 obtain ⟨r, n, es⟩ := g
 unfold H7
 simp only [h1, Option.bind_some]
 cases hg : T0 (r, n, es) with
 | false => simp only [cond_false, Bool.not_false, if_true, h2, Option.bind_some]
 | true =>
  simp only [cond_true]
  simp only at h4
  cases e : l6 es with
  | nil => simp only [Bool.not_false, if_true, h2, Option.bind_some]
  | cons f l =>
   simp only [Bool.not_true, Bool.false_eq_true, if_false, h3 f hg (h4 hg f (by rw [e]; exact List.mem_cons_self ..)), Option.bind_some]
theorem e04 (g : l0) (hl : g.2.2.length ≤ 1099511627776) : I7 g = some (G9 g) := by
 have h1 := U07 g (by omega)
 have h2 := l00 g hl
 have h3 : ∀ f, T0 g = true → okF g f → A5 g f = some (c8 g f, true) := fun f a b => S0c a b
 have h4 : T0 g = true → ∀ f ∈ l6 g.2.2, okF g f := Z02
 unfold t00 at h1
 unfold G9
 obtain ⟨r, n, es⟩ := g
 unfold I7
 simp only [h1, Option.bind_some]
 cases hg : T0 (r, n, es) with
 | false => simp only [cond_false, Bool.not_false, if_true, h2, Option.bind_some]
 | true =>
  simp only [cond_true]
  simp only at h4
  cases e : l6 es with
  | nil => simp only [Bool.not_false, if_true, h2, Option.bind_some]
  | cons f l =>
   simp only [Bool.not_true, Bool.false_eq_true, if_false, h3 f hg (h4 hg f (by rw [e]; exact List.mem_cons_self ..)), Option.bind_some]
def S0h : (l0 × D6) ⊕ (Int × Int × C0 × (List Y2)) → Option (l0 × D6) := fun X => A8 X (fun S => match S with
 | (a, b, c, e) => some ((a, b, c), e))
theorem G09 : ∀ (d k fuel : Nat) (g : l0) (acc : List Y2), k + d = 40 → d < fuel → T0 g = true → acc.length = k →
  (d6 fuel (k : Int) g.1 g.2.1 g.2.2 acc).bind S0h = some ((T9 d g).1, acc ++ (T9 d g).2)
 | d, k, 0, g, acc, hd, hf, hg, ha => by omega
 | 0, k, fuel + 1, g, acc, hd, hf, hg, ha => by
  rw [y7, if_neg (by simp; omega)]
  simp [S0h, A8, T9]
 | d + 1, k, fuel + 1, g, acc, hd, hf, hg, ha => by
  have h1 := d04 g (by have := (l5 hg).2.2.2; omega)
  have h4 := Z02 hg
  unfold G9 at h1
  rw [hg] at h1
  simp only [cond_true] at h1
  rw [y7, if_pos (by simp; omega), show (g.1, g.2.1, g.2.2) = g from rfl, h1]
  unfold T9
  cases e : l6 g.2.2 with
  | nil => simp [S0h, A8]
  | cons f l =>
   have ih := G09 d (k + 1) fuel (c8 g f) (acc ++ [f]) (by omega) (by omega) (c04 hg (h4 f (by rw [e]; exact List.mem_cons_self ..))) (by simp [ha])
   simp only [Option.bind_some, Bool.not_true, Bool.false_eq_true, if_false]
   rw [Q0 (by simp; omega), Option.bind_some, X2 (show k < 1000 by omega) (by omega)]
   refine ih.trans ?_
   simp
theorem d0a (g : l0) (hl : g.2.2.length ≤ 1099511627776) : s8 g = some (s00 g) := by
 have h1 := d04 g hl
 have h2 := T00 g hl
 have h3 := G09 40 0 D1 g [] rfl (Y1 (by omega))
 unfold s00
 obtain ⟨r, n, es⟩ := g
 unfold s8
 simp only [h2, Option.bind_some]
 cases hg : T0 (r, n, es) with
 | false =>
  unfold G9 at h1
  rw [hg] at h1
  simp only [cond_false] at h1
  rw [show D1 = (D1 - 1) + 1 from rfl, y7, if_pos (by simp), h1]
  rfl
 | true => exact h3 hg rfl
theorem H09 : ∀ (d fuel : Nat) (g : l0) (acc : List Y2), d < fuel → T0 g = true → l6 (T9 d g).1.2.2 = [] → acc.length + d ≤ 1000 →
  f6 fuel g.1 g.2.1 g.2.2 acc = some (.inl ((T9 d g).1, acc ++ (T9 d g).2))
 | d, 0, g, acc, hf, hg, hn, ha => by omega
 | d, fuel + 1, g, acc, hf, hg, hn, ha => by
  have h1 := e04 g (by have := (l5 hg).2.2.2; omega)
  have h4 := Z02 hg
  unfold G9 at h1
  rw [hg] at h1
  simp only [cond_true] at h1
  rw [i9, show (g.1, g.2.1, g.2.2) = g from rfl, h1]
  cases e : l6 g.2.2 with
  | nil =>
   have e2 : T9 d g = (g, []) := by
    cases d with
    | zero => rfl
    | succ d => unfold T9; rw [e]
   rw [e2]
   simp
  | cons f l =>
   cases d with
   | zero => exact absurd e (by rw [show l6 g.2.2 = [] from hn]; simp)
   | succ d =>
    have e2 : T9 (d + 1) g = ((T9 d (c8 g f)).1, f :: (T9 d (c8 g f)).2) := by
     show (match l6 g.2.2 with | [] => (g, []) | f :: _ => ((T9 d (c8 g f)).1, f :: (T9 d (c8 g f)).2)) = _
     rw [e]
    rw [e2] at hn ⊢
    have ih := H09 d fuel (c8 g f) (acc ++ [f]) (by omega) (c04 hg (h4 f (by rw [e]; exact List.mem_cons_self ..))) hn (by simp; omega)
    simp only [Option.bind_some, Bool.not_true, Bool.false_eq_true, if_false]
    rw [Q0 (by simp; omega), Option.bind_some]
    refine ih.trans ?_
    simp
theorem e0a (g : l0) (hl : g.2.2.length ≤ 1099511627776) : w8 g = some (s00 g) := by
 have h1 := e04 g hl
 have h2 := l00 g hl
 have h3 := H09 40 D1 g [] (Y1 (by omega))
 have h5 : T0 g = true → l6 (T9 40 g).1.2.2 = [] := fun hg => F09 40 hg (by have := (l5 hg).2.2.1; omega)
 unfold s00
 obtain ⟨r, n, es⟩ := g
 unfold w8
 simp only [h2, Option.bind_some]
 cases hg : T0 (r, n, es) with
 | false =>
  unfold G9 at h1
  rw [hg] at h1
  simp only [cond_false] at h1
  rw [show D1 = (D1 - 1) + 1 from rfl, i9, h1]
  rfl
 | true =>
  have h := h3 hg (h5 hg) (by simp)
  simp only at h
  rw [h]
  rfl
end Go.Proofs.YtfdlgbfeceodeaaGreat
namespace Go.Proofs.YtfdlgbfeceodeaaGreat
open Go.H
set_option linter.unusedVariables false
set_option linter.unusedSimpArgs false
theorem k07 {g : l0} (h : T0 g = true) : Asc H0 g.2.2 := ((y01 g).1 h).2.2.2.2
def stp (u x v : Int) : D0 := if x < 0 then (v, -x, u) else (u, x, v)
def j01 (v : Int) : List Int → Int → Int → List D0
 | [], _, _ => []
 | [x], u, _ => [stp u x v]
 | x :: y :: r, u, n => stp u x n :: j01 v (y :: r) n (n + 1)
theorem l07 (v : Int) : ∀ (w : List Int) (u n : Int), (j01 v w u n).length = w.length
 | [], _, _ => rfl
 | [x], _, _ => rfl
 | x :: y :: r, u, n => by simp only [j01, List.length_cons, l07 v (y :: r)]
theorem J0d (u x v : Int) (hx : A7 x) : N7 u x v = some (stp u x v) := by
 unfold N7 stp
 by_cases c : x < 0
 ·rw [if_pos (by simp [c]), if_pos c, D0c hx.1 hx.2]
 ·rw [if_neg (by simp; omega), if_neg c]
theorem G0b (w : List Int) (v : Int) (r : Int) (hw : ∀ x ∈ w, A7 x) (hl : w.length ≤ 1000) : ∀ (d k fuel : Nat) (u n : Int) (es : List D0), k + d = w.length → d < fuel → 0 ≤ n → n ≤ 1000 + k → es.length ≤ 1000 + k →
  K4 w v fuel u (k : Int) r n es = some (r, n + ((d - 1 : Nat) : Int), es ++ j01 v (w.drop k) u n)
 | d, k, 0, u, n, es, hd, hf, h0, h1, h2 => by omega
 | 0, k, fuel + 1, u, n, es, hd, hf, h0, h1, h2 => by
  rw [g9, if_neg (by simp; omega), Z1 (by omega)]
  simp [j01]
 | d + 1, k, fuel + 1, u, n, es, hd, hf, h0, h1, h2 => by
  have hk : k < w.length := by omega
  have hx := S6 hk
  have hm := hw _ (List.getElem_mem hk)
  generalize w[k] = x at hx hm
  rw [g9, if_pos (by simp; omega), E4 hx, Option.bind_some, n09 (by omega) (by omega), P2 hx]
  by_cases c : k + 1 < w.length
  ·rw [if_pos (by simp; omega), J0d u x n hm, Option.bind_some]
   have hy := S6 c
   generalize w[k + 1] = y at hy
   have ih := G0b w v r hw hl d (k + 1) fuel n (n + 1) (es ++ [stp u x n]) (by omega) (by omega) (by omega) (by omega) (by simp; omega)
   simp only []
   rw [Q0 (by simp; omega), Option.bind_some, X2 hk (by omega), w64 (show (-9223372036854775808 : Int) ≤ n + 1 by omega) (by omega)]
   refine ih.trans ?_
   rw [P2 hy]
   simp only [j01, List.append_assoc, List.singleton_append]
   congr 3
   omega
  ·have hd0 : d = 0 := by omega
   subst hd0
   rw [if_neg (by simp; omega), J0d u x v hm, Option.bind_some]
   have ih := G0b w v r hw hl 0 (k + 1) fuel v n (es ++ [stp u x v]) (by omega) (by omega) h0 (by omega) (by simp; omega)
   simp only []
   rw [Q0 (by simp; omega), Option.bind_some, X2 hk (by omega)]
   refine ih.trans ?_
   rw [Z1 (show k + 1 = w.length by omega)]
   simp [j01]
theorem H0b (w : List Int) (v : Int) (r : Int) (hw : ∀ x ∈ w, A7 x ∧ x ≠ 0) (hl : w.length ≤ 1000) : ∀ (d k fuel : Nat) (u n : Int) (es : List D0), k + d = w.length → d < fuel → 0 ≤ n → n ≤ 1000 + k → es.length ≤ 1000 + k →
  T2 w v fuel u (k : Int) r n es = some (r, n + ((d - 1 : Nat) : Int), T5 H0 es (j01 v (w.drop k) u n))
 | d, k, 0, u, n, es, hd, hf, h0, h1, h2 => by omega
 | 0, k, fuel + 1, u, n, es, hd, hf, h0, h1, h2 => by
  rw [c9, if_neg (by simp; omega), Z1 (by omega)]
  simp [j01, T5]
 | d + 1, k, fuel + 1, u, n, es, hd, hf, h0, h1, h2 => by
  have hk : k < w.length := by omega
  have hx := S6 hk
  have hm := hw _ (List.getElem_mem hk)
  generalize w[k] = x at hx hm
  have hput : ∀ e, (Z9 H0 e es).length ≤ 1000 + (k + 1) := fun e => by have := Y02 e es; omega
  rw [c9, if_pos (by simp; omega), P2 hx]
  by_cases c : k + 1 < w.length
  ·have hy := S6 c
   generalize w[k + 1] = y at hy
   have ih := H0b w v r hw hl d (k + 1) fuel n (n + 1) (Z9 H0 (stp u x n) es) (by omega) (by omega) (by omega) (by omega) (hput _)
   rw [P2 hy] at ih
   rw [X2 hk (by omega), if_pos (by simp; omega), E4 hx, Option.bind_some, w64 (show (-9223372036854775808 : Int) ≤ n + 1 by omega) (by omega), P2 hy]
   have fin : some (r, n + 1 + ((d - 1 : Nat) : Int), T5 H0 (Z9 H0 (stp u x n) es) (j01 v (y :: w.drop (k + 1 + 1)) n (n + 1))) = some (r, n + ((d + 1 - 1 : Nat) : Int), T5 H0 es (j01 v (x :: y :: w.drop (k + 1 + 1)) u n)) := by
    simp only [j01, T5]
    congr 3
    omega
   by_cases c2 : x > 0
   ·have e : stp u x n = (u, x, n) := by unfold stp; rw [if_neg (by omega)]
    rw [if_pos (by simp [c2])]
    simp only [Option.bind_some]
    rw [y04 es _ (by omega), Option.bind_some, ← e]
    exact ih.trans fin
   ·have e : stp u x n = (n, -x, u) := by unfold stp; rw [if_pos (by omega)]
    rw [if_neg (by simp; omega)]
    simp only [Option.bind_some]
    rw [D0c hm.1.1 hm.1.2, y04 es _ (by omega), Option.bind_some, ← e]
    exact ih.trans fin
  ·have hd0 : d = 0 := by omega
   subst hd0
   have ih := H0b w v r hw hl 0 (k + 1) fuel v n (Z9 H0 (stp u x v) es) (by omega) (by omega) h0 (by omega) (hput _)
   rw [Z1 (show k + 1 = w.length by omega)] at ih ⊢
   rw [X2 hk (by omega), if_neg (by simp; omega), E4 hx, Option.bind_some]
   have fin : some (r, n + ((0 - 1 : Nat) : Int), T5 H0 (Z9 H0 (stp u x v) es) (j01 v [] v n)) = some (r, n + ((0 + 1 - 1 : Nat) : Int), T5 H0 es (j01 v [x] u n)) := by
    simp [j01, T5]
   by_cases c2 : x > 0
   ·have e : stp u x v = (u, x, v) := by unfold stp; rw [if_neg (by omega)]
    rw [if_pos (by simp [c2])]
    simp only [Option.bind_some]
    rw [y04 es _ (by omega), Option.bind_some, ← e]
    exact ih.trans fin
   ·have e : stp u x v = (v, -x, u) := by unfold stp; rw [if_pos (by omega)]
    rw [if_neg (by simp; omega)]
    simp only [Option.bind_some]
    rw [D0c hm.1.1 hm.1.2, y04 es _ (by omega), Option.bind_some, ← e]
    exact ih.trans fin
theorem I09 {es p : List D0} (hA : Asc H0 es) : T5 H0 [] (es ++ p) = T5 H0 es p :=
 m05 g7 (Q01 g7 _ _ .nil) (Q01 g7 _ _ hA) fun x => by
  rw [R00 g7, R00 g7]; simp
def L4 (g : l0) (u : Int) (w : List Int) (v : Int) : l0 × Bool :=
 bif !w.isEmpty && decide (g.2.1 + (w.length : Int) - 1 ≤ 40) && decide (g.2.2.length + w.length ≤ 120) then ((g.1, g.2.1 + ((w.length - 1 : Nat) : Int), T5 H0 g.2.2 (j01 v w u g.2.1)), true) else (g, false)
theorem y0e {r : Int} {w : List Int} (h : E6 r w = true) : w.length ≤ 24 ∧ ∀ x ∈ w, A7 x ∧ x ≠ 0 ∧ -r ≤ x ∧ x ≤ r := by
 have h1 := h
 simp only [E6, Bool.and_eq_true, decide_eq_true_eq] at h1
 refine ⟨h1.1.2, fun x hx => ?_⟩
 obtain ⟨i, hi⟩ := List.getElem?_of_mem hx
 have := m02 h hi
 exact ⟨⟨⟨by omega, by omega⟩, by omega⟩, this.2.2⟩
theorem f0a {g : l0} {u v : Int} {w : List Int} (hg : T0 g = true) (hu : 0 ≤ u ∧ u < g.2.1) (hv : 0 ≤ v ∧ v < g.2.1) (hw : E6 g.1 w = true) : r8 g u w v = some (L4 g u w v) := by
 obtain ⟨q1, q2, q3, q4⟩ := l5 hg
 obtain ⟨wl, wx⟩ := y0e hw
 have h1 := Z7 g (by omega)
 have h2 := T00 g (by omega)
 have h3 := d06 g.1 w (by omega)
 obtain ⟨r, n, es⟩ := g
 simp only at q3 q4 hu hv h3
 have hwp : IntKind.i64.wrap (n - 1) = n - 1 := w64 (by omega) (by omega)
 have hin : ∀ x : Int, 0 ≤ x ∧ x < n → inR 0 (n - 1) x = true := fun x hx => by simp [inR]; omega
 have h := H0b w v r (fun x hx => ⟨(wx x hx).1, (wx x hx).2.1⟩) (by omega) w.length 0 D1 u n es (by omega) (Y1 (by omega)) (by omega) (by omega) (by omega)
 unfold r8 L4
 simp only [h1, h2, hg, Option.bind_some, Bool.not_true, Bool.not_false, M3, cond_false, hwp, s03, hin u hu, hin v hv, h3, hw]
 rw [w64 (show (-9223372036854775808 : Int) ≤ n + ((w.length : Nat) : Int) by omega) (by omega), w64 (show (-9223372036854775808 : Int) ≤ n + ((w.length : Nat) : Int) - 1 by omega) (by omega), w64 (show (-9223372036854775808 : Int) ≤ ((es.length : Nat) : Int) + ((w.length : Nat) : Int) by omega) (by omega)]
 by_cases c : (w ≠ [] ∧ n + (w.length : Int) - 1 ≤ 40) ∧ es.length + w.length ≤ 120
 ·have hne : w.length ≠ 0 := by simpa using c.1.1
  rw [if_neg (by simp only [Bool.not_eq_true]; simp [c.1.1]; omega), show (0 : Int) = ((0 : Nat) : Int) from rfl, h, Option.bind_some]
  rw [show (!w.isEmpty && decide (n + (w.length : Int) - 1 ≤ 40) && decide (es.length + w.length ≤ 120)) = true by simp [c.1.1, c.1.2, c.2]]
  rfl
 ·rw [show (!w.isEmpty && decide (n + (w.length : Int) - 1 ≤ 40) && decide (es.length + w.length ≤ 120)) = false by
   rw [← Bool.not_eq_true]; simpa using c]
  rw [if_pos ?_]
  ·rfl
  ·by_cases d1 : w = []
   ·simp [d1]
   ·by_cases d2 : n + (w.length : Int) - 1 ≤ 40
    ·have d3 : ¬ es.length + w.length ≤ 120 := fun h => c ⟨⟨d1, d2⟩, h⟩
     have : decide (((es.length : Nat) : Int) + ((w.length : Nat) : Int) > 120) = true := by simp; omega
     rw [this]; simp
    ·have : decide (n + ((w.length : Nat) : Int) - 1 > 40) = true := by simp; omega
     rw [this]; simp
theorem p0h {g : l0} (hg : T0 g = true) {u : Int} (hu : 0 ≤ u ∧ u < g.2.1) : J4 g u = some true := by
 obtain ⟨q1, q2, q3, q4⟩ := l5 hg
 obtain ⟨r, n, es⟩ := g
 simp only at q3 hu
 unfold J4
 simp only [R01]
 rw [w64 (by omega) (by omega)]
 simp [inR]; omega
theorem g0a {g : l0} {u v : Int} {w : List Int} (hg : T0 g = true) (hu : 0 ≤ u ∧ u < g.2.1) (hv : 0 ≤ v ∧ v < g.2.1) (hw : E6 g.1 w = true) : t8 g u w v = some (L4 g u w v) := by
 obtain ⟨q1, q2, q3, q4⟩ := l5 hg
 obtain ⟨wl, wx⟩ := y0e hw
 have h1 := V8 g (by omega)
 have h2 := l00 g (by omega)
 have h3 := f06 g.1 w (by omega)
 have h4 := p0h hg hu
 have h5 := p0h hg hv
 have hA := k07 hg
 obtain ⟨r, n, es⟩ := g
 simp only at q3 q4 hu hv h3 hA
 have h := G0b w v r (fun x hx => (wx x hx).1) (by omega) w.length 0 D1 u n es (by omega) (Y1 (by omega)) (by omega) (by omega) (by omega)
 have hpl := l07 v w u n
 unfold t8 L4
 simp only [h1, h2, hg, Option.bind_some, Bool.not_true, Bool.not_false, M3, cond_false, h4, h5]
 rw [w64 (show (-9223372036854775808 : Int) ≤ n + ((w.length : Nat) : Int) by omega) (by omega), w64 (show (-9223372036854775808 : Int) ≤ n + ((w.length : Nat) : Int) - 1 by omega) (by omega), w64 (show (-9223372036854775808 : Int) ≤ ((es.length : Nat) : Int) + ((w.length : Nat) : Int) by omega) (by omega)]
 by_cases d1 : w = []
 ·subst d1
  simp [chk]
 rw [show decide (((w.length : Nat) : Int) = 0) = false by simp [d1], show (!false) = true from rfl, M3, h3, Option.bind_some, hw]
 by_cases c : n + (w.length : Int) - 1 ≤ 40 ∧ es.length + w.length ≤ 120
 ·rw [if_neg (by simp only [Bool.not_eq_true]; simp; omega), show (0 : Int) = ((0 : Nat) : Int) from rfl, h, Option.bind_some]
  rw [show (!w.isEmpty && decide (n + (w.length : Int) - 1 ≤ 40) && decide (es.length + w.length ≤ 120)) = true by simp [d1, c.1, c.2]]
  simp only [List.drop_zero, cond_true]
  rw [D09 _ (by simp; omega), I09 hA]
  rfl
 ·rw [show (!w.isEmpty && decide (n + (w.length : Int) - 1 ≤ 40) && decide (es.length + w.length ≤ 120)) = false by
   rw [← Bool.not_eq_true]; simp only [Bool.and_eq_true, decide_eq_true_eq, Bool.not_eq_true']; omega]
  rw [if_pos ?_]
  ·rfl
  ·by_cases d2 : n + (w.length : Int) - 1 ≤ 40
   ·have d3 : ¬ es.length + w.length ≤ 120 := fun h => c ⟨d2, h⟩
    have : decide (((es.length : Nat) : Int) + ((w.length : Nat) : Int) > 120) = true := by simp; omega
    rw [this]; simp
   ·have : decide (n + ((w.length : Nat) : Int) - 1 > 40) = true := by simp; omega
    rw [this]; simp
end Go.Proofs.YtfdlgbfeceodeaaGreat
namespace Go.Proofs.YtfdlgbfeceodeaaGreat
open Go.H
set_option linter.unusedVariables false
set_option linter.unusedSimpArgs false
def L1 (g : l0) : l0 × Bool := bif decide (g.2.1 < 40) then ((g.1, g.2.1 + 1, g.2.2), true) else (g, false)
theorem W07 {g : l0} (hg : T0 g = true) : U6 g = some (L1 g) := by
 obtain ⟨q1, q2, q3, q4⟩ := l5 hg
 have h1 := Z7 g (by omega)
 have h2 := T00 g (by omega)
 obtain ⟨r, n, es⟩ := g
 simp only at q3
 unfold U6 L1
 simp only [h1, h2, hg, Option.bind_some, Bool.not_true, cond_false]
 by_cases c : n < 40
 ·rw [if_neg (by simp; omega), w64 (by omega) (by omega)]; simp [c]
 ·rw [if_pos (by simp; omega)]; simp [c]
theorem X07 {g : l0} (hg : T0 g = true) : W6 g = some (L1 g) := by
 obtain ⟨q1, q2, q3, q4⟩ := l5 hg
 have h1 := V8 g (by omega)
 have h2 := l00 g (by omega)
 obtain ⟨r, n, es⟩ := g
 simp only at q3
 unfold W6 L1
 simp only [h1, h2, hg, Option.bind_some, Bool.not_true, cond_false]
 by_cases c : n < 40
 ·rw [if_neg (by simp; omega), w64 (by omega) (by omega)]; simp [c]
 ·rw [if_pos (by simp; omega)]; simp [c]
theorem z03 {g : l0} (hg : T0 g = true) : T0 (L1 g).1 = true := by
 unfold L1
 by_cases c : g.2.1 < 40
 ·simp only [c, decide_true, cond_true]
  obtain ⟨q1, q2, q3, q4, q5⟩ := (y01 g).1 hg
  refine (y01 _).2 ⟨fun e he => ?_, q2, ?_, q4, q5⟩
  ·have := q1 e he
   simp only
   omega
  ·simp only; omega
 ·simp only [c, decide_false, cond_false]; exact hg
theorem a0h {es : List D0} {e : D0} (hA : Asc H0 es) (he : e ∈ es) : Z9 H0 e es = es :=
 m05 g7 (m09 g7 _ _ hA) hA fun x => by
  rw [c06 g7]
  constructor
  ·rintro (rfl | h)
   ·exact he
   ·exact h
  ·exact .inr
theorem T0c (e : D0) : ∀ {es : List D0}, e ∉ es → (Z9 H0 e es).length = es.length + 1
 | [], _ => rfl
 | y :: l, h => by
  have ih := T0c e (es := l) fun hm => h (List.mem_cons_of_mem _ hm)
  unfold Z9
  split
  ·rfl
  ·split
   ·rename_i c
    exact absurd (g7.eq _ _ c) fun hh => h (by rw [hh]; exact List.mem_cons_self ..)
   ·simp only [List.length_cons, ih]
def Y6 (g : l0) (e : D0) : l0 × Bool := bif decide (g.2.2.length < 120) && !decide (e ∈ g.2.2) then ((g.1, g.2.1, Z9 H0 e g.2.2), true) else (g, false)
def i0f (g : l0) (e : D0) : Prop := (0 ≤ e.1 ∧ e.1 < g.2.1) ∧ (0 ≤ e.2.2 ∧ e.2.2 < g.2.1) ∧ 1 ≤ e.2.1 ∧ e.2.1 ≤ g.1
theorem m0g {g : l0} (hg : T0 g = true) {e : D0} (he : i0f g e) : o01 g.1 (IntKind.i64.wrap (g.2.1 - 1)) e = true := by
 obtain ⟨q1, q2, q3, q4⟩ := l5 hg
 rw [w64 (by omega) (by omega)]
 unfold i0f at he
 simp only [o01, inR, Bool.and_eq_true, decide_eq_true_eq]
 omega
theorem h0a {g : l0} {e : D0} (hg : T0 g = true) (he : i0f g e) : l7 g e = some (Y6 g e) := by
 obtain ⟨q1, q2, q3, q4⟩ := l5 hg
 have h1 := Z7 g (by omega)
 have h2 := T00 g (by omega)
 have h3 := F0c g e
 rw [m0g hg he] at h3
 have h4 := y04 g.2.2 e (by omega)
 have hA := k07 hg
 obtain ⟨r, n, es⟩ := g
 obtain ⟨e0, e1, e2⟩ := e
 simp only at q4 hA h4
 unfold l7 Y6
 simp only [h1, h2, hg, Option.bind_some, Bool.not_true, Bool.not_false, cond_false, M3, h3]
 by_cases c : es.length < 120
 ·rw [if_neg (by simp; omega), h4, Option.bind_some]
  by_cases d : (e0, e1, e2) ∈ es
  ·rw [a0h hA d]
   simp [c, d]
  ·have := T0c (e0, e1, e2) d
   simp only [this, c, d, decide_true, decide_false, Bool.not_false, Bool.and_true, cond_true]
   simp
   omega
 ·rw [if_pos (by simp; omega)]
  simp [c]
theorem z0e (es : List D0) (e : D0) (hl : es.length ≤ 140737488355328) : ∀ (d k fuel : Nat), k + d = es.length → d < fuel →
  ∃ X, H1 es e.1 e.2.1 e.2.2 fuel (k : Int) = some X ∧ ((∃ i : Nat, X = .inl (i : Int) ∧ i < es.length ∧ e ∈ es.drop k) ∨ (X = .inr () ∧ e ∉ es.drop k))
 | d, k, 0, hd, hf => by omega
 | 0, k, fuel + 1, hd, hf => by
  rw [N3, if_neg (by simp; omega), Z1 (by omega)]
  exact ⟨_, rfl, .inr ⟨rfl, by simp⟩⟩
 | d + 1, k, fuel + 1, hd, hf => by
  have hk : k < es.length := by omega
  have hx := S6 hk
  generalize es[k] = b at hx
  rw [N3, if_pos (by simp; omega), E4 hx, Option.bind_some, P2 hx]
  simp only []
  by_cases c : eqE e b = true
  ·rw [if_pos c]
   refine ⟨_, rfl, .inl ⟨k, rfl, hk, ?_⟩⟩
   rw [(D0b _ _).1 c]
   exact List.mem_cons_self ..
  ·rw [if_neg c, X2 hk (by omega)]
   obtain ⟨X, h1, h2⟩ := z0e es e hl d (k + 1) fuel (by omega) (by omega)
   refine ⟨X, h1, ?_⟩
   have hne : e ≠ b := fun h => c ((D0b _ _).2 h)
   rcases h2 with ⟨i, q1, q2, q3⟩ | ⟨q1, q2⟩
   ·exact .inl ⟨i, q1, q2, List.mem_cons_of_mem _ q3⟩
   ·refine .inr ⟨q1, fun h => ?_⟩
    rcases List.mem_cons.1 h with h | h
    ·exact hne h
    ·exact q2 h
theorem K0d (es : List D0) (e : D0) (hl : es.length ≤ 140737488355328) : A2 es e = some (decide (e ∈ es)) := by
 obtain ⟨X, h1, h2⟩ := z0e es e hl es.length 0 D1 (by omega) (Y1 hl)
 obtain ⟨e0, e1, e2⟩ := e
 unfold A2 E3
 simp only
 simp only [List.drop_zero] at h2
 rw [show (0 : Int) = ((0 : Nat) : Int) from rfl, h1]
 rcases h2 with ⟨i, rfl, q2, q3⟩ | ⟨rfl, q2⟩
 ·simp only [Option.bind_some, A4]
  rw [Q0 (show J0 ((i : Nat) : Int) from ⟨by omega, by omega⟩)]
  simp [q3]
 ·simp only [Option.bind_some, J1]
  rw [Q0 (show J0 (-1) from ⟨by omega, by omega⟩)]
  simp [q2]
theorem i0a {g : l0} {e : D0} (hg : T0 g = true) (he : i0f g e) : y8 g e = some (Y6 g e) := by
 obtain ⟨q1, q2, q3, q4⟩ := l5 hg
 have h1 := V8 g (by omega)
 have h2 := l00 g (by omega)
 have h3 := y03 g e
 rw [m0g hg he] at h3
 have h4 := K0d g.2.2 e (by omega)
 have hA := k07 hg
 obtain ⟨r, n, es⟩ := g
 obtain ⟨e0, e1, e2⟩ := e
 simp only at q4 hA h4
 unfold y8 Y6
 simp only [h1, h2, hg, Option.bind_some, Bool.not_true, Bool.not_false, cond_false, M3, h3, h4]
 by_cases d : (e0, e1, e2) ∈ es
 ·simp [d]
 ·by_cases c : es.length < 120
  ·rw [if_neg (by simp [d]; omega), Q0 (by simp; omega), Option.bind_some, D09 _ (by simp; omega), I09 hA]
   simp [c, d, T5]
  ·have : es.length = 120 := by omega
   rw [if_pos (by simp [this])]
   simp [c]
def W01 (g : l0) (v : Int) : List Int → List D0
 | [] => []
 | x :: r => (bif decide (p8 g v x < 0) then [(v, x, -1)] else []) ++ W01 g v r
def U04 (g : l0) : Nat → Nat → List D0
 | 0, _ => []
 | d + 1, v => W01 g (v : Int) (U00 g.1.toNat 1) ++ U04 g d (v + 1)
theorem m07 (g : l0) (v : Int) : ∀ l, (W01 g v l).length ≤ l.length
 | [] => Nat.le_refl _
 | x :: r => by
  have := m07 g v r
  simp only [W01, List.length_append, List.length_cons]
  cases decide (p8 g v x < 0) <;> simp <;> omega
theorem U0c (g : l0) (hg : T0 g = true) (v : Int) (ls : List Int) (hls : ∀ x ∈ ls, A7 x) (hl : ls.length ≤ 1000) : ∀ (d k fuel : Nat) (acc : List D0), k + d = ls.length → d < fuel → acc.length + d ≤ 100000 →
  j2 ls g.1 g.2.1 g.2.2 v fuel (k : Int) acc = some (acc ++ W01 g v (ls.drop k))
 | d, k, 0, acc, hd, hf, ha => by omega
 | 0, k, fuel + 1, acc, hd, hf, ha => by
  rw [n7, if_neg (by simp; omega), Z1 (by omega)]
  simp [W01]
 | d + 1, k, fuel + 1, acc, hd, hf, ha => by
  obtain ⟨q1, q2, q3, q4⟩ := l5 hg
  have hk : k < ls.length := by omega
  have hx := S6 hk
  have hm := hls _ (List.getElem_mem hk)
  generalize ls[k] = x at hx hm
  have ih : ∀ acc' : List D0, acc'.length + d ≤ 100000 → j2 ls g.1 g.2.1 g.2.2 v fuel ((k + 1 : Nat) : Int) acc' = some (acc' ++ W01 g v (ls.drop (k + 1))) := fun acc' h => U0c g hg v ls hls hl d (k + 1) fuel acc' (by omega) (by omega) h
  rw [n7, if_pos (by simp; omega), E4 hx, Option.bind_some, show (g.1, g.2.1, g.2.2) = g from rfl, v09 g v x hm (by omega), Option.bind_some, Q0 (l06 q1 q3.2 v x), Option.bind_some, X2 hk (by omega), P2 hx, W01]
  cases decide (p8 g v x < 0) with
  | true =>
   rw [if_pos rfl, Option.bind_some, Q0 (by simp; omega), Option.bind_some, ih _ (by simp; omega)]
   simp
  | false =>
   rw [if_neg (by simp), ih _ (by omega)]
   simp
theorem V0c (g : l0) (hg : T0 g = true) (v : Int) (ls : List Int) (hls : ∀ x ∈ ls, A7 x) (hl : ls.length ≤ 1000) : ∀ (d k fuel : Nat) (acc : List D0), k + d = ls.length → d < fuel → acc.length + d ≤ 100000 →
  C2 ls g.1 g.2.1 g.2.2 v fuel (k : Int) acc = some (acc ++ W01 g v (ls.drop k))
 | d, k, 0, acc, hd, hf, ha => by omega
 | 0, k, fuel + 1, acc, hd, hf, ha => by
  rw [r7, if_neg (by simp; omega), Z1 (by omega)]
  simp [W01]
 | d + 1, k, fuel + 1, acc, hd, hf, ha => by
  obtain ⟨q1, q2, q3, q4⟩ := l5 hg
  have hk : k < ls.length := by omega
  have hx := S6 hk
  have hm := hls _ (List.getElem_mem hk)
  generalize ls[k] = x at hx hm
  have ih : ∀ acc' : List D0, acc'.length + d ≤ 100000 → C2 ls g.1 g.2.1 g.2.2 v fuel ((k + 1 : Nat) : Int) acc' = some (acc' ++ W01 g v (ls.drop (k + 1))) := fun acc' h => V0c g hg v ls hls hl d (k + 1) fuel acc' (by omega) (by omega) h
  rw [r7, if_pos (by simp; omega), E4 hx, Option.bind_some, show (g.1, g.2.1, g.2.2) = g from rfl, w09 g v x hm (by omega), Option.bind_some, Q0 (l06 q1 q3.2 v x), Option.bind_some, X2 hk (by omega), P2 hx, W01]
  cases decide (p8 g v x < 0) with
  | true =>
   rw [if_pos rfl, Q0 (by simp; omega), Option.bind_some, ih _ (by simp; omega)]
   simp
  | false =>
   rw [if_neg (by simp), ih _ (by omega)]
   simp
theorem r06 : ∀ (d i : Nat) (x : Int), x ∈ U00 d i → ∃ j : Nat, i ≤ j ∧ j < i + d ∧ (x = (j : Int) ∨ x = -(j : Int))
 | 0, i, x, h => by simp [U00] at h
 | d + 1, i, x, h => by
  simp only [U00, List.mem_cons] at h
  rcases h with rfl | rfl | h
  ·exact ⟨i, Nat.le_refl _, by omega, .inl rfl⟩
  ·exact ⟨i, Nat.le_refl _, by omega, .inr rfl⟩
  ·obtain ⟨j, h1, h2, h3⟩ := r06 d (i + 1) x h
   exact ⟨j, by omega, by omega, h3⟩
theorem W0c (g : l0) (hf0 : Y0 g = true) : ∀ (d k fuel : Nat) (acc : List D0), k + d = g.2.1.toNat → d < fuel → acc.length + 100 * d ≤ 10000 →
  l4 g.2.1 g.1 g.2.2 fuel (k : Int) acc = some (acc ++ U04 g d k)
 | d, k, 0, acc, hd, hf, ha => by omega
 | 0, k, fuel + 1, acc, hd, hf, ha => by
  obtain ⟨q1, q2, q3, q4⟩ := s5 hf0
  rw [o7, show decide (((k : Nat) : Int) < g.2.1) = false by simp; omega]
  simp [chk, U04]
 | d + 1, k, fuel + 1, acc, hd, hf, ha => by
  obtain ⟨q1, q2, q3, q4⟩ := s5 hf0
  have hg := ((O8 g).1 hf0).1
  obtain ⟨R, hR⟩ : ∃ R : Nat, g.1 = (R : Int) := ⟨g.1.toNat, by omega⟩
  have hls : ∀ x ∈ U00 g.1.toNat 1, A7 x := fun x hx => by
   obtain ⟨j, h1, h2, h3⟩ := r06 _ _ _ hx
   refine ⟨⟨by omega, by omega⟩, by omega⟩
  have hlen := E09 g.1.toNat 1
  have hm := m07 g (k : Int) (U00 g.1.toNat 1)
  have h0 := U0c g hg (k : Int) (U00 g.1.toNat 1) hls (by omega) (U00 g.1.toNat 1).length 0 D1 acc (by omega) (Y1 (by omega)) (by omega)
  rw [o7, show decide (((k : Nat) : Int) < g.2.1) = true by simp; omega, M3, show (g.1, g.2.1, g.2.2) = g from rfl, E9 g (by omega), Option.bind_some, hf0]
  rw [if_pos (show (bif true then true else false) = true from rfl), show Y5 g.1 = some (U00 g.1.toNat 1) by rw [hR, Q0h R (by omega)]; rfl, Option.bind_some, show (0 : Int) = ((0 : Nat) : Int) from rfl, h0, Option.bind_some, X2 (show k < 1000 by omega) (by omega), W0c g hf0 d (k + 1) fuel _ (by omega) (by omega) (by simp; omega), U04]
  simp
theorem X0c (g : l0) (hf0 : Y0 g = true) : ∀ (d k fuel : Nat) (acc : List D0), k + d = g.2.1.toNat → d < fuel → acc.length + 100 * d ≤ 10000 →
  v4 g.2.1 g.1 g.2.2 fuel (k : Int) acc = some (acc ++ U04 g d k)
 | d, k, 0, acc, hd, hf, ha => by omega
 | 0, k, fuel + 1, acc, hd, hf, ha => by
  obtain ⟨q1, q2, q3, q4⟩ := s5 hf0
  rw [s7, if_neg (by simp; omega)]
  simp [U04]
 | d + 1, k, fuel + 1, acc, hd, hf, ha => by
  obtain ⟨q1, q2, q3, q4⟩ := s5 hf0
  have hg := ((O8 g).1 hf0).1
  obtain ⟨R, hR⟩ : ∃ R : Nat, g.1 = (R : Int) := ⟨g.1.toNat, by omega⟩
  have hls : ∀ x ∈ U00 g.1.toNat 1, A7 x := fun x hx => by
   obtain ⟨j, h1, h2, h3⟩ := r06 _ _ _ hx
   refine ⟨⟨by omega, by omega⟩, by omega⟩
  have hlen := E09 g.1.toNat 1
  have hm := m07 g (k : Int) (U00 g.1.toNat 1)
  have h0 := V0c g hg (k : Int) (U00 g.1.toNat 1) hls (by omega) (U00 g.1.toNat 1).length 0 D1 acc (by omega) (Y1 (by omega)) (by omega)
  rw [s7, if_pos (by simp; omega), show j7 g.1 = some (U00 g.1.toNat 1) by rw [hR, P0h R (by omega)]; rfl, Option.bind_some, show (0 : Int) = ((0 : Nat) : Int) from rfl, h0, Option.bind_some, X2 (show k < 1000 by omega) (by omega), X0c g hf0 d (k + 1) fuel _ (by omega) (by omega) (by simp; omega), U04]
  simp
def N5 (g : l0) : List D0 := U04 g g.2.1.toNat 0
theorem j0a {g : l0} (hf : Y0 g = true) : L5 g = some (N5 g) := by
 obtain ⟨q1, q2, q3, q4⟩ := s5 hf
 have h := W0c g hf g.2.1.toNat 0 D1 [] (by omega) (Y1 (by omega)) (by simp; omega)
 obtain ⟨r, n, es⟩ := g
 unfold L5 N5
 simp only at h ⊢
 rw [show (0 : Int) = ((0 : Nat) : Int) from rfl, h]; simp
theorem k0a {g : l0} (hf : Y0 g = true) : M5 g = some (N5 g) := by
 obtain ⟨q1, q2, q3, q4⟩ := s5 hf
 have h := X0c g hf g.2.1.toNat 0 D1 [] (by omega) (Y1 (by omega)) (by simp; omega)
 have h2 := V01 g (by omega)
 obtain ⟨r, n, es⟩ := g
 unfold M5 N5
 simp only [h2, hf, Option.bind_some] at h ⊢
 rw [if_neg (by simp), show (0 : Int) = ((0 : Nat) : Int) from rfl, h]; simp
theorem T0a {g : l0} {v : Int} {e : D0} : ∀ {l : List Int}, e ∈ W01 g v l → e.1 = v ∧ e.2.1 ∈ l ∧ e.2.2 = -1
 | [], h => nomatch h
 | x :: r, h => by
  simp only [W01, List.mem_append] at h
  rcases h with h | h
  ·cases hd : decide (p8 g v x < 0) with
   | true =>
    rw [hd] at h
    simp at h
    subst h
    exact ⟨rfl, List.mem_cons_self .., rfl⟩
   | false => rw [hd] at h; simp at h
  ·obtain ⟨h1, h2, h3⟩ := T0a h
   exact ⟨h1, List.mem_cons_of_mem _ h2, h3⟩
theorem U0a {g : l0} {e : D0} : ∀ {d k : Nat}, e ∈ U04 g d k → ((k : Int) ≤ e.1 ∧ e.1 < (k : Int) + d) ∧ e.2.1 ∈ U00 g.1.toNat 1
 | 0, k, h => nomatch h
 | d + 1, k, h => by
  rcases List.mem_append.1 (show e ∈ W01 g (k : Int) (U00 g.1.toNat 1) ++ U04 g d (k + 1) from h) with h | h
  ·obtain ⟨h1, h2, _⟩ := T0a h
   exact ⟨by omega, h2⟩
  ·obtain ⟨h1, h2⟩ := U0a h
   exact ⟨by omega, h2⟩
theorem f04 {g : l0} (hf : Y0 g = true) {e : D0} (h : e ∈ N5 g) : (0 ≤ e.1 ∧ e.1 < g.2.1) ∧ e.2.1 ≠ 0 ∧ -g.1 ≤ e.2.1 ∧ e.2.1 ≤ g.1 := by
 obtain ⟨q1, q2, q3, q4⟩ := s5 hf
 obtain ⟨h1, h2⟩ := U0a h
 obtain ⟨j, k1, k2, k3⟩ := r06 _ _ _ h2
 refine ⟨by omega, by omega, by omega, by omega⟩
end Go.Proofs.YtfdlgbfeceodeaaGreat
namespace Go.Proofs.YtfdlgbfeceodeaaGreat
open Go.H
set_option linter.unusedVariables false
set_option linter.unusedSimpArgs false
theorem g04 {x : M0} (h : O4 x = true) : ∀ w ∈ x.2, E6 x.1 w = true := by
 simp only [O4, N8, Bool.and_eq_true] at h
 have hw : ∀ {ws : List (List Int)}, h06 x.1 ws = true → ∀ w ∈ ws, E6 x.1 w = true := by
  intro ws
  induction ws with
  | nil => intro _ w hw; cases hw
  | cons v r ih =>
   intro h w hw
   simp only [h06, Bool.and_eq_true] at h
   rcases List.mem_cons.1 hw with rfl | hw
   ·exact h.1
   ·exact ih h.2 w hw
 exact hw h.1.1.2
theorem s06 {x : M0} (h : O4 x = true) : ∀ w ∈ x.2, (∀ y ∈ w, A7 y) ∧ w.length ≤ 24 := fun w hw => by
 have h1 := g04 h w hw
 refine ⟨fun y hy => ?_, ?_⟩
 ·obtain ⟨i, hi⟩ := List.getElem?_of_mem hy
  have := m02 h1 hi
  refine ⟨⟨by omega, by omega⟩, by omega⟩
 ·simp only [E6, Bool.and_eq_true, decide_eq_true_eq] at h1
  exact h1.1.2
theorem u03 {x : M0} (h : O4 x = true) : x.2.length ≤ 6 := by
 simp only [O4, N8, Bool.and_eq_true, decide_eq_true_eq] at h
 exact h.1.1.1.2
def j0f (g : l0) (v : Int) (r : List Int) : Bool := bif decide ((D8 g v r).2 < r.length) then true else !decide ((D8 g v r).1 = v)
def J09 (g : l0) (v : Int) : List (List Int) → Nat → Option Nat
 | [], _ => none
 | r :: l, i => bif j0f g v r then some i else J09 g v l (i + 1)
def A03 (g : l0) (rels : List (List Int)) : Nat → Nat → Option (Nat × Nat)
 | 0, _ => none
 | d + 1, v => match J09 g (v : Int) rels 0 with
  | some i => some (v, i)
  | none => A03 g rels d (v + 1)
def K09 (q : Option (Nat × Nat)) : Int × Int := match q with
 | some (v, i) => ((v : Int), (i : Int))
 | none => (-1, -1)
def W8 (p : M0) (g : l0) : Int × Int := bif O4 p && Y0 g && decide (p.1 = g.1) then K09 (A03 g p.2 g.2.1.toNat 0) else (-1, -1)
theorem L09 (rels : List (List Int)) (hrel : ∀ w ∈ rels, (∀ y ∈ w, A7 y) ∧ w.length ≤ 24) (r n : Int) (es : List D0) (hg : inG (r, n, es)) (hn : n ≤ 40) (hes : es.length ≤ 120) (hl : rels.length ≤ 6) (v : Int) (hv : J0 v) : ∀ (d k fuel : Nat), k + d = rels.length → d < fuel →
  S3 rels r n es v fuel (k : Int) = some (match J09 (r, n, es) v (rels.drop k) k with | some i => .inl (v, (i : Int)) | none => .inr ())
 | d, k, 0, hd, hf => by omega
 | 0, k, fuel + 1, hd, hf => by
  rw [C7, if_neg (by simp; omega), Z1 (by omega)]
  rfl
 | d + 1, k, fuel + 1, hd, hf => by
  have hk : k < rels.length := by omega
  have hx := S6 hk
  obtain ⟨hxm, hxl⟩ := hrel _ (List.getElem_mem hk)
  generalize rels[k] = w at hx hxm hxl
  have hle := A09 (r, n, es) w v
  rw [C7, if_pos (by simp; omega), E4 hx, Option.bind_some, N0h (r, n, es) hg hn (by simp only; omega) v w hxm (by omega), Option.bind_some, P2 hx]
  simp only [Q0 (B09 hg hn w v hv), Q0 (show J0 (((D8 (r, n, es) v w).2 : Nat) : Int) from ⟨by omega, by omega⟩), Option.bind_some, J09]
  have e : (bif decide ((((D8 (r, n, es) v w).2 : Nat) : Int) < ((w.length : Nat) : Int)) then true else !decide ((D8 (r, n, es) v w).1 = v)) = j0f (r, n, es) v w := by
   unfold j0f
   simp
  rw [e]
  cases j0f (r, n, es) v w with
  | true => rfl
  | false =>
   rw [if_neg (by simp), X2 hk (by omega)]
   exact L09 rels hrel r n es hg hn hes hl v hv d (k + 1) fuel (by omega) (by omega)
theorem M09 (rels : List (List Int)) (hrel : ∀ w ∈ rels, (∀ y ∈ w, A7 y) ∧ w.length ≤ 24) (r : Int) (N : Nat) (es : List D0) (hg : inG (r, (N : Int), es)) (hn : N ≤ 40) (hes : es.length ≤ 120) (hl : rels.length ≤ 6) : ∀ (d k fuel : Nat), k + d = N → d < fuel →
  F4 (N : Int) rels r es fuel (k : Int) = some (match A03 (r, (N : Int), es) rels d k with | some (v, i) => .inl ((v : Int), (i : Int)) | none => .inr ())
 | d, k, 0, hd, hf => by omega
 | 0, k, fuel + 1, hd, hf => by
  rw [D7, if_neg (by simp; omega)]
  rfl
 | d + 1, k, fuel + 1, hd, hf => by
  have h0 := L09 rels hrel r (N : Int) es hg (by omega) hes hl (k : Int) ⟨by omega, by omega⟩ rels.length 0 D1 (by omega) (Y1 (by omega))
  rw [show ((0 : Nat) : Int) = 0 from rfl, List.drop_zero] at h0
  rw [D7, if_pos (by simp; omega), h0, Option.bind_some]
  simp only [A03]
  cases J09 (r, (N : Int), es) (k : Int) rels 0 with
  | some i => rfl
  | none =>
   simp only [Z05]
   rw [X2 (show k < N by omega) (by omega)]
   exact M09 rels hrel r N es hg hn hes hl d (k + 1) fuel (by omega) (by omega)
theorem t06 (p : M0) (g : l0) (hl : p.2.length ≤ 140737488355328) (hs : H5 p.2) (hl2 : g.2.2.length ≤ 140737488355328) : i6 p g = some (W8 p g) := by
 have hP := i01 p hl hs
 have hF := V01 g hl2
 unfold W8
 obtain ⟨pr, rels⟩ := p
 obtain ⟨r, n, es⟩ := g
 unfold i6
 simp only [hP, Option.bind_some]
 cases hp : O4 (pr, rels) with
 | false => rfl
 | true =>
  simp only [Bool.not_true, Bool.not_false, M3, hF, Option.bind_some, cond_false, Bool.true_and]
  cases hf : Y0 (r, n, es) with
  | false => rfl
  | true =>
   by_cases hr : pr = r
   ·simp only [Bool.not_true, cond_false, hr, decide_true, Bool.true_and, cond_true, Bool.false_eq_true, if_false]
    obtain ⟨hg, _, hn, hes⟩ := s5 hf
    simp only at hn hes
    obtain ⟨N, rfl⟩ : ∃ N : Nat, n = (N : Int) := ⟨n.toNat, by omega⟩
    have h := M09 rels (s06 hp) r N es hg (by omega) hes (u03 hp) N 0 D1 (by omega) (Y1 (by omega))
    rw [show ((0 : Nat) : Int) = 0 from rfl] at h
    rw [h, Option.bind_some, Int.toNat_natCast]
    cases A03 (r, (N : Int), es) rels N 0 <;> rfl
   ·simp [hr]
theorem N09 (rels : List (List Int)) (hrel : ∀ w ∈ rels, (∀ y ∈ w, A7 y) ∧ w.length ≤ 24) (r n : Int) (es : List D0) (hf : Y0 (r, n, es) = true) (hl : rels.length ≤ 6) (v : Int) (hv : 0 ≤ v ∧ v < n) : ∀ (d k fuel : Nat), k + d = rels.length → d < fuel →
  Q3 rels r n es v fuel (k : Int) = some (match J09 (r, n, es) v (rels.drop k) k with | some i => .inl (v, (i : Int)) | none => .inr ())
 | d, k, 0, hd, hf' => by omega
 | 0, k, fuel + 1, hd, hf' => by
  rw [B7, if_neg (by simp; omega), Z1 (by omega)]
  rfl
 | d + 1, k, fuel + 1, hd, hf' => by
  have hk : k < rels.length := by omega
  have hx := S6 hk
  obtain ⟨hxm, hxl⟩ := hrel _ (List.getElem_mem hk)
  generalize rels[k] = w at hx hxm hxl
  obtain ⟨hg, _, hn, hes⟩ := s5 hf
  simp only at hn hes
  have h64 : J0 v := ⟨by omega, by omega⟩
  rw [B7, if_pos (by simp; omega), E4 hx, Option.bind_some, O0h (r, n, es) hf v hv w hxm (by omega), Option.bind_some, P2 hx]
  simp only [J09, j0f]
  cases decide ((D8 (r, n, es) v w).2 < w.length) with
  | true =>
   simp only [cond_true, Q0 (show J0 (-1) by decide), Option.bind_some, Bool.not_false, if_true]
  | false =>
   simp only [cond_false, Q0 (B09 hg hn.2 w v h64), Option.bind_some, Bool.not_true]
   cases decide ((D8 (r, n, es) v w).1 = v) with
   | false => rfl
   | true =>
    rw [if_neg (by simp), X2 hk (by omega)]
    exact N09 rels hrel r n es hf hl v hv d (k + 1) fuel (by omega) (by omega)
theorem O09 (rels : List (List Int)) (r : Int) (N : Nat) (es : List D0) (hp : O4 (r, rels) = true) (hf : Y0 (r, (N : Int), es) = true) (hl : rels.length ≤ 140737488355328) (hs : H5 rels) : ∀ (d k fuel : Nat), k + d = N → d < fuel →
  R3 (N : Int) r rels r es fuel (k : Int) = some (match A03 (r, (N : Int), es) rels d k with | some (v, i) => .inl ((v : Int), (i : Int)) | none => .inr ())
 | d, k, 0, hd, hf' => by omega
 | 0, k, fuel + 1, hd, hf' => by
  have e : decide ((k : Int) < (N : Int)) = false := by simp; omega
  rw [Q5, e, G7, Option.bind_some]
  simp only [cond_false, G7, Option.bind_some]
  rw [if_neg (by simp)]
  rfl
 | d + 1, k, fuel + 1, hd, hf' => by
  obtain ⟨hg, _, hn, hes⟩ := s5 hf
  simp only at hn hes
  have e : decide ((k : Int) < (N : Int)) = true := by simp; omega
  have h0 := N09 rels (s06 hp) r (N : Int) es hf (u03 hp) (k : Int) ⟨by omega, by omega⟩ rels.length 0 D1 (by omega) (Y1 (by omega))
  rw [show ((0 : Nat) : Int) = 0 from rfl, List.drop_zero] at h0
  rw [Q5, e, M3, C9 (r, rels) hl hs, Option.bind_some, hp]
  simp only [cond_true, M3, E9 (r, (N : Int), es) (show es.length ≤ 140737488355328 by omega), hf, Option.bind_some, decide_true, if_true, h0]
  simp only [A03]
  cases J09 (r, (N : Int), es) (k : Int) rels 0 with
  | some i => rfl
  | none =>
   simp only [Z05]
   rw [X2 (show k < N by omega) (by omega)]
   exact O09 rels r N es hp hf hl hs d (k + 1) fuel (by omega) (by omega)
theorem u06 (p : M0) (g : l0) (hl : p.2.length ≤ 140737488355328) (hs : H5 p.2) (hl2 : g.2.2.length ≤ 140737488355328) : g6 p g = some (W8 p g) := by
 have hP := C9 p hl hs
 have hF := E9 g hl2
 unfold W8
 obtain ⟨pr, rels⟩ := p
 obtain ⟨r, n, es⟩ := g
 unfold g6
 have stop : (O4 (pr, rels) && Y0 (r, n, es) && decide (pr = r)) = false → R3 n pr rels r es D1 0 = some (.inr ()) := fun hno => by
  rw [show D1 = (D1 - 1) + 1 from rfl, Q5]
  cases decide ((0 : Int) < n) with
  | false => simp [chk]
  | true =>
   simp only [M3, hP, Option.bind_some, cond_true]
   cases hp : O4 (pr, rels) with
   | false => simp [chk]
   | true =>
    simp only [M3, hF, Option.bind_some, cond_true]
    rw [hp] at hno
    cases hf : Y0 (r, n, es) with
    | false => simp
    | true =>
     rw [hf] at hno
     simp only [Bool.true_and] at hno
     simp [hno]
 cases hall : (O4 (pr, rels) && Y0 (r, n, es) && decide (pr = r)) with
 | false =>
  simp only [stop hall, Option.bind_some, hall, cond_false]
  rfl
 | true =>
  simp only [Bool.and_eq_true, decide_eq_true_eq] at hall
  obtain ⟨⟨hp, hf⟩, rfl⟩ := hall
  obtain ⟨hg, _, hn, hes⟩ := s5 hf
  simp only at hn hes
  obtain ⟨N, rfl⟩ : ∃ N : Nat, n = (N : Int) := ⟨n.toNat, by omega⟩
  have h := O09 rels pr N es hp hf hl hs N 0 D1 (by omega) (Y1 (by omega))
  rw [show ((0 : Nat) : Int) = 0 from rfl] at h
  simp only [h, Option.bind_some, hp, hf, decide_true, Bool.true_and, cond_true, Int.toNat_natCast]
  cases A03 (pr, (N : Int), es) rels N 0 <;> rfl
end Go.Proofs.YtfdlgbfeceodeaaGreat
namespace Go.Proofs.YtfdlgbfeceodeaaGreat
open Go.H
set_option linter.unusedVariables false
set_option linter.unusedSimpArgs false
theorem V0a {g : l0} {v : Int} : ∀ {l : List (List Int)} {k i : Nat}, J09 g v l k = some i → k ≤ i ∧ i < k + l.length
 | [], k, i, h => nomatch h
 | r :: l, k, i, h => by
  unfold J09 at h
  cases hb : j0f g v r with
  | true =>
   rw [hb] at h
   simp only [cond_true, Option.some.injEq] at h
   subst h
   simp
  | false =>
   rw [hb] at h
   have := V0a (l := l) (k := k + 1) (i := i) h
   simp only [List.length_cons]; omega
theorem n07 {g : l0} {rels : List (List Int)} : ∀ {d k v i : Nat}, A03 g rels d k = some (v, i) → (k ≤ v ∧ v < k + d) ∧ i < rels.length
 | 0, k, v, i, h => nomatch h
 | d + 1, k, v, i, h => by
  unfold A03 at h
  cases hr : J09 g (k : Int) rels 0 with
  | some j =>
   rw [hr] at h
   simp only [Option.some.injEq, Prod.mk.injEq] at h
   obtain ⟨rfl, rfl⟩ := h
   have := V0a hr
   omega
  | none =>
   rw [hr] at h
   have := n07 (d := d) (k := k + 1) h
   omega
def A0e (p : M0) (g : l0) (v i : Nat) : l0 × Bool × Bool := match p.2[i]? with
 | some w => bif (L4 g (v : Int) w (v : Int)).2 then ((s00 (L4 g (v : Int) w (v : Int)).1).1, true, true) else (g, false, false)
 | none => (g, false, false)
def B0e (g : l0) : l0 × Bool × Bool := match N5 g with
 | [] => (g, false, true)
 | e :: _ => bif (L1 g).2 then (bif (Y6 (L1 g).1 (stp e.1 e.2.1 g.2.1)).2 then ((Y6 (L1 g).1 (stp e.1 e.2.1 g.2.1)).1, true, true) else (g, false, false)) else (g, false, false)
def I0 (p : M0) (g : l0) : l0 × Bool × Bool := bif O4 p && Y0 g && decide (p.1 = g.1) then (match A03 g p.2 g.2.1.toNat 0 with
 | some (v, i) => A0e p g v i
 | none => B0e g) else (g, false, false)
theorem h04 {g : l0} (hg : T0 g = true) (u : Int) (w : List Int) (v : Int) : (L4 g u w v).1.2.2.length ≤ 120 := by
 have q := (l5 hg).2.2.2
 unfold L4
 cases hc : (!w.isEmpty && decide (g.2.1 + (w.length : Int) - 1 ≤ 40) && decide (g.2.2.length + w.length ≤ 120)) with
 | false => exact q
 | true =>
  simp only [Bool.and_eq_true, decide_eq_true_eq] at hc
  have h1 := p02 (j01 v w u g.2.1) g.2.2
  have h2 := l07 v w u g.2.1
  simp only [cond_true]
  omega
theorem n0g {g : l0} (hf : Y0 g = true) {e : D0} (he : e ∈ N5 g) (hv : (L1 g).2 = true) : i0f (L1 g).1 (stp e.1 e.2.1 g.2.1) := by
 obtain ⟨h1, h2, h3, h4⟩ := f04 hf he
 obtain ⟨q1, q2, q3, q4⟩ := s5 hf
 unfold L1 at hv ⊢
 by_cases c : g.2.1 < 40
 ·simp only [c, decide_true, cond_true]
  unfold stp i0f
  split <;> (simp only; omega)
 ·simp [c] at hv
theorem v06 (p : M0) (g : l0) (hl : p.2.length ≤ 140737488355328) (hs : H5 p.2) (hl2 : g.2.2.length ≤ 1099511627776) : P8 p g = some (I0 p g) := by
 have h1 := C9 p hl hs
 have h2 := E9 g (by omega)
 have h3 := T00 g hl2
 have h4 := u06 p g hl hs (by omega)
 have h5 : Y0 g = true → L5 g = some (N5 g) := j0a
 have h6 : Y0 g = true → U6 g = some (L1 g) := fun h => W07 ((O8 g).1 h).1
 have h7 : Y0 g = true → ∀ e ∈ N5 g, (L1 g).2 = true → l7 (L1 g).1 (stp e.1 e.2.1 g.2.1) = some (Y6 (L1 g).1 (stp e.1 e.2.1 g.2.1)) := fun h e he hv => h0a (z03 ((O8 g).1 h).1) (n0g h he hv)
 have h8 : O4 p = true → Y0 g = true → p.1 = g.1 → ∀ v i : Nat, A03 g p.2 g.2.1.toNat 0 = some (v, i) → ∃ w, p.2[i]? = some w ∧ r8 g (v : Int) w (v : Int) = some (L4 g (v : Int) w (v : Int)) ∧ s8 (L4 g (v : Int) w (v : Int)).1 = some (s00 (L4 g (v : Int) w (v : Int)).1) ∧ v ≤ 40 ∧ i ≤ 6 := fun a b c v i hh => by
  obtain ⟨k1, k2⟩ := n07 hh
  have hg := ((O8 g).1 b).1
  obtain ⟨q1, q2, q3, q4⟩ := s5 b
  refine ⟨p.2[i], S6 k2, f0a hg ⟨by omega, by omega⟩ ⟨by omega, by omega⟩ (by rw [← c]; exact g04 a _ (List.getElem_mem k2)), d0a _ (by have := h04 hg (v : Int) p.2[i] (v : Int); omega), by omega, by have := u03 a; omega⟩
 have h9 : Y0 g = true → ∀ e ∈ N5 g, (0 ≤ e.1 ∧ e.1 < g.2.1) ∧ e.2.1 ≠ 0 ∧ -3 ≤ e.2.1 ∧ e.2.1 ≤ 3 := fun h e he => by
  obtain ⟨k1, k2, k3, k4⟩ := f04 h he
  obtain ⟨q1, q2, q3, q4⟩ := s5 h
  exact ⟨k1, k2, by omega, by omega⟩
 unfold W8 at h4
 unfold I0 B0e
 obtain ⟨pr, rels⟩ := p
 obtain ⟨r, n, es⟩ := g
 unfold P8
 simp only [h1, Option.bind_some]
 cases hp : O4 (pr, rels) with
 | false => simp only [Bool.not_false, Bool.not_true, G7, Option.bind_some, cond_true, if_true, h3, Bool.false_and, cond_false]
 | true =>
  simp only [Bool.not_true, Bool.not_false, M3, h2, Option.bind_some, cond_false, Bool.true_and]
  cases hf : Y0 (r, n, es) with
  | false => simp only [Bool.not_false, cond_true, if_true, h3, Option.bind_some, Bool.false_and, cond_false]
  | true =>
   simp only [Bool.not_true, cond_false, Bool.true_and]
   by_cases hr : pr = r
   ·subst hr
    have e4 : g6 (pr, rels) (pr, n, es) = some (K09 (A03 (pr, n, es) rels n.toNat 0)) := by
     rw [h4]; simp only [hp, hf, decide_true, Bool.and_true, cond_true]
    simp only [decide_true, Bool.not_true, Bool.false_eq_true, if_false, cond_true]
    have h8 := h8 hp hf rfl
    simp only at h8
    cases hh : A03 (pr, n, es) rels n.toNat 0 with
    | some q =>
     obtain ⟨v, i⟩ := q
     obtain ⟨w, k1, k2, k3, k4, k5⟩ := h8 v i hh
     rw [hh] at e4
     simp only [K09] at e4
     rw [e4, Option.bind_some]
     try simp only []
     rw [Q0 (show J0 ((v : Nat) : Int) from ⟨by omega, by omega⟩), Option.bind_some, Q0 (show J0 ((i : Nat) : Int) from ⟨by omega, by omega⟩), Option.bind_some, if_pos (by simp), E4 k1, Option.bind_some, k2, Option.bind_some]
     unfold A0e
     simp only [k1]
     revert k3
     generalize L4 (pr, n, es) (v : Int) w (v : Int) = ap
     intro k3
     obtain ⟨g2, ok⟩ := ap
     try simp only at k3
     cases ok with
     | false => simp only [Bool.not_false, if_true, h3, Option.bind_some, cond_false]
     | true => simp only [Bool.not_true, Bool.false_eq_true, if_false, k3, Option.bind_some, cond_true]
    | none =>
     rw [hh] at e4
     simp only [K09] at e4
     rw [e4, Option.bind_some]
     try simp only []
     rw [Q0 (show J0 (-1) from ⟨by omega, by omega⟩), Option.bind_some, Option.bind_some, if_neg (by simp), h5 hf, Option.bind_some]
     have h7 := h7 hf
     have h9 := h9 hf
     have h6 := h6 hf
     cases hm : N5 (pr, n, es) with
     | nil => simp only [List.length_nil]; rw [if_pos (by simp), h3]; rfl
     | cons e l =>
      have h7 := h7 e (by rw [hm]; exact List.mem_cons_self ..)
      obtain ⟨k1, k2, k3, k4⟩ := h9 e (by rw [hm]; exact List.mem_cons_self ..)
      rw [if_neg (by simp; omega), h6, Option.bind_some]
      revert h7
      generalize L1 (pr, n, es) = av
      intro h7
      obtain ⟨g2, ok⟩ := av
      simp only at h7
      simp only []
      cases ok with
      | false => simp only [Bool.not_false, if_true, h3, Option.bind_some, cond_false]
      | true =>
       have h7 := h7 rfl
       simp only [Bool.not_true, Bool.false_eq_true, if_false, cond_true]
       obtain ⟨e0, e1, e2⟩ := e
       simp only at k1 k2 k3 k4 h7
       rw [f07 rfl]
       simp only [Option.bind_some]
       revert h7
       generalize Y6 g2 (stp e0 e1 n) = ae
       intro h7
       obtain ⟨g3, ok3⟩ := ae
       by_cases c : e1 < 0
       ·rw [if_pos (by simp [c]), w64 (by omega) (by omega), show ((n, 0 - e1, e0) : D0) = stp e0 e1 n by unfold stp; rw [if_pos c, Int.zero_sub], h7]
        cases ok3 <;> simp [h3]
       ·rw [if_neg (by simp; omega), show ((e0, e1, n) : D0) = stp e0 e1 n by unfold stp; rw [if_neg c], h7]
        cases ok3 <;> simp [h3]
   ·simp only [hr, decide_false, Bool.not_false, if_true, h3, Option.bind_some, cond_false]
theorem w06 (p : M0) (g : l0) (hl : p.2.length ≤ 140737488355328) (hs : H5 p.2) (hl2 : g.2.2.length ≤ 1099511627776) : Q8 p g = some (I0 p g) := by
 have h1 := i01 p hl hs
 have h2 := V01 g (by omega)
 have h3 := l00 g hl2
 have h4 := t06 p g hl hs (by omega)
 have h5 : Y0 g = true → M5 g = some (N5 g) := k0a
 have h6 : Y0 g = true → W6 g = some (L1 g) := fun h => X07 ((O8 g).1 h).1
 have h7 : Y0 g = true → ∀ e ∈ N5 g, (L1 g).2 = true → y8 (L1 g).1 (stp e.1 e.2.1 g.2.1) = some (Y6 (L1 g).1 (stp e.1 e.2.1 g.2.1)) := fun h e he hv => i0a (z03 ((O8 g).1 h).1) (n0g h he hv)
 have h8 : O4 p = true → Y0 g = true → p.1 = g.1 → ∀ v i : Nat, A03 g p.2 g.2.1.toNat 0 = some (v, i) → ∃ w, p.2[i]? = some w ∧ t8 g (v : Int) w (v : Int) = some (L4 g (v : Int) w (v : Int)) ∧ w8 (L4 g (v : Int) w (v : Int)).1 = some (s00 (L4 g (v : Int) w (v : Int)).1) ∧ v ≤ 40 ∧ i ≤ 6 := fun a b c v i hh => by
  obtain ⟨k1, k2⟩ := n07 hh
  have hg := ((O8 g).1 b).1
  obtain ⟨q1, q2, q3, q4⟩ := s5 b
  refine ⟨p.2[i], S6 k2, g0a hg ⟨by omega, by omega⟩ ⟨by omega, by omega⟩ (by rw [← c]; exact g04 a _ (List.getElem_mem k2)), e0a _ (by have := h04 hg (v : Int) p.2[i] (v : Int); omega), by omega, by have := u03 a; omega⟩
 have h9 : Y0 g = true → ∀ e ∈ N5 g, (0 ≤ e.1 ∧ e.1 < g.2.1) ∧ e.2.1 ≠ 0 ∧ -3 ≤ e.2.1 ∧ e.2.1 ≤ 3 := fun h e he => by
  obtain ⟨k1, k2, k3, k4⟩ := f04 h he
  obtain ⟨q1, q2, q3, q4⟩ := s5 h
  exact ⟨k1, k2, by omega, by omega⟩
 unfold W8 at h4
 unfold I0 B0e
 obtain ⟨pr, rels⟩ := p
 obtain ⟨r, n, es⟩ := g
 unfold Q8
 simp only [h1, Option.bind_some]
 cases hp : O4 (pr, rels) with
 | false => simp only [Bool.not_false, Bool.not_true, G7, Option.bind_some, cond_true, if_true, h3, Bool.false_and, cond_false]
 | true =>
  simp only [Bool.not_true, Bool.not_false, M3, h2, Option.bind_some, cond_false, Bool.true_and]
  cases hf : Y0 (r, n, es) with
  | false => simp only [Bool.not_false, cond_true, if_true, h3, Option.bind_some, Bool.false_and, cond_false]
  | true =>
   simp only [Bool.not_true, cond_false, Bool.true_and]
   by_cases hr : pr = r
   ·subst hr
    have e4 : i6 (pr, rels) (pr, n, es) = some (K09 (A03 (pr, n, es) rels n.toNat 0)) := by
     rw [h4]; simp only [hp, hf, decide_true, Bool.and_true, cond_true]
    simp only [decide_true, Bool.not_true, Bool.false_eq_true, if_false, cond_true]
    have h8 := h8 hp hf rfl
    simp only at h8
    cases hh : A03 (pr, n, es) rels n.toNat 0 with
    | some q =>
     obtain ⟨v, i⟩ := q
     obtain ⟨w, k1, k2, k3, k4, k5⟩ := h8 v i hh
     rw [hh] at e4
     simp only [K09] at e4
     rw [e4, Option.bind_some]
     try simp only []
     rw [Q0 (show J0 ((v : Nat) : Int) from ⟨by omega, by omega⟩), Option.bind_some, Q0 (show J0 ((i : Nat) : Int) from ⟨by omega, by omega⟩), Option.bind_some, if_pos (by simp), E4 k1, Option.bind_some, k2, Option.bind_some]
     unfold A0e
     simp only [k1]
     revert k3
     generalize L4 (pr, n, es) (v : Int) w (v : Int) = ap
     intro k3
     obtain ⟨g2, ok⟩ := ap
     try simp only at k3
     cases ok with
     | false => simp only [Bool.not_false, if_true, h3, Option.bind_some, cond_false]
     | true => simp only [Bool.not_true, Bool.false_eq_true, if_false, k3, Option.bind_some, cond_true]
    | none =>
     rw [hh] at e4
     simp only [K09] at e4
     rw [e4, Option.bind_some]
     try simp only []
     rw [Q0 (show J0 (-1) from ⟨by omega, by omega⟩), Option.bind_some, Option.bind_some, if_neg (by simp), h5 hf, Option.bind_some]
     have h7 := h7 hf
     have h9 := h9 hf
     have h6 := h6 hf
     cases hm : N5 (pr, n, es) with
     | nil => simp only [List.length_nil]; rw [if_pos (by simp), h3]; rfl
     | cons e l =>
      have h7 := h7 e (by rw [hm]; exact List.mem_cons_self ..)
      obtain ⟨k1, k2, k3, k4⟩ := h9 e (by rw [hm]; exact List.mem_cons_self ..)
      rw [if_neg (by simp; omega), h6, Option.bind_some]
      revert h7
      generalize L1 (pr, n, es) = av
      intro h7
      obtain ⟨g2, ok⟩ := av
      simp only at h7
      simp only []
      cases ok with
      | false => simp [h3]
      | true =>
       have h7 := h7 rfl
       simp only [Bool.not_true, Bool.false_eq_true, if_false, cond_true]
       obtain ⟨e0, e1, e2⟩ := e
       simp only at k1 k2 k3 k4 h7
       rw [f07 rfl]
       simp only [Option.bind_some]
       rw [J0d e0 e1 n ⟨⟨by omega, by omega⟩, by omega⟩]
       simp only [Option.bind_some]
       revert h7
       generalize Y6 g2 (stp e0 e1 n) = ae
       intro h7
       obtain ⟨g3, ok3⟩ := ae
       cases ok3 <;> simp [h3, h7]
   ·simp only [hr, decide_false, Bool.not_false, if_true, h3, Option.bind_some, cond_false]
end Go.Proofs.YtfdlgbfeceodeaaGreat
