/- Texts of the claim, joined: Plain laws: words and presentations, as the spec and the code know the; Plain laws: lists of words, and presentations, as the spec and the cod; Plain laws: graphs, as the spec and the code know them; Plain laws: steps in a graph; Plain laws: graphs: degrees, equality, edges put in order, sorted edge; Plain laws: valid graphs said in words; folds of a graph; Plain laws: the first defect. -/
import Derived.Test.YtfdlgbfeceodeaaGreatPart18
import Derived.Test.YtfdlgbfeceodeaaGreatH33
import Derived.Test.YtfdlgbfeceodeaaGreatH36
import Derived.Test.YtfdlgbfeceodeaaGreatPart17
namespace Go.Proofs.YtfdlgbfeceodeaaGreat
open Go.H
set_option linter.unusedVariables false
set_option linter.unusedSimpArgs false
theorem W0 {n : Nat} (h : n ≤ 140737488355328) : n < S0 := by unfold S0; omega
theorem N0 {p : Prop} [Decidable p] (h : p) : grd p = some () := by unfold grd; rw [if_pos h]
theorem J2 {α : Type} (o : Option α) (d : α) : chk true o d = o := rfl
theorem M5 {α : Type} (o : Option α) (d : α) : chk false o d = some d := rfl
theorem O3 {α : Type} {xs : List α} {k : Nat} {x : α} (h : xs[k]? = some x) : gi xs (k : Int) = some x := by rw [n08]; exact h
theorem T04 {α : Type} {xs : List α} {x : α} (h : xs[0]? = some x) : gi xs 0 = some x := O3 (k := 0) h
theorem m0e {x : Int} (h : F0 x) (h2 : x ≠ -9223372036854775808) : IntKind.i64.wrap (0 - x) = -x := by rw [w64 (by have := h.1; have := h.2; omega) (by have := h.1; have := h.2; omega)]; omega
theorem A0a {n : Nat} (h : 0 < n) (hm : n ≤ 9223372036854775807) : IntKind.i64.wrap ((n : Int) - 1) = ((n - 1 : Nat) : Int) := by rw [w64 (by omega) (by omega)]; omega
theorem V5 {α : Type} {xs : List α} {k : Nat} (h : k < xs.length) : xs[k]? = some xs[k] := List.getElem?_eq_getElem h
def inR (lo hi x : Int) : Bool := decide (lo ≤ x) && decide (x ≤ hi)
def s03 (lo hi : Int) (w : List Int) (i : Nat) : Bool :=
 match w[i]? with
 | none => true
 | some x => x == 0 || !inR lo hi x || (decide (0 < i) && match w[i - 1]? with
  | none => true
  | some y => x == IntKind.i64.wrap (0 - y))
def j01 (lo hi : Int) (w : List Int) : Nat → Nat → Bool
 | 0, _ => true
 | d + 1, k => !s03 lo hi w k && j01 lo hi w d (k + 1)
def Q4 (r : Int) (w : List Int) : Bool := inR 1 3 r && decide (w.length ≤ 24) && j01 (-r) r w w.length 0
theorem G01 (a b c : Int) : i4 a b c = some (inR b c a) := by
 unfold i4 inR
 by_cases h : b ≤ a <;> simp [h]
theorem B01 (a b c : Int) : P5 a b c = some (inR b c a) := G01 a b c
theorem t03 (r : Int) (w : List Int) (hl : w.length ≤ 140737488355328) : ∀ (d k fuel : Nat), k + d = w.length → d < fuel →
  N6 w r fuel (k : Int) = some (bif j01 (IntKind.i64.wrap (0 - r)) r w d k then .inr () else .inl false)
 | d, k, 0, hk, hf => by omega
 | 0, k, fuel + 1, hk, hf => by
  rw [N6.eq_2, if_neg (by simp; omega)]
  simp [j01]
 | d + 1, k, fuel + 1, hk, hf => by
  have hkl : k < w.length := by omega
  have hx := V5 hkl
  generalize w[k] = x at hx
  have next := t03 r w hl d (k + 1) fuel (by omega) (by omega)
  rw [N6.eq_2, if_pos (by simp; omega)]
  generalize IntKind.i64.wrap (0 - r) = lo at next ⊢
  simp only [O3 hx, Option.bind_some, G01, A2 hkl (by omega : w.length ≤ 9223372036854775807), next]
  have hbad : s03 lo r w k = (x == 0 || !inR lo r x || (decide (0 < k) && match w[k - 1]? with
   | none => true
   | some y => x == IntKind.i64.wrap (0 - y))) := by unfold s03; rw [hx]
  simp only [j01, hbad]
  by_cases h0 : x = 0
  ·simp [h0, chk]
  have e0 : decide (x = 0) = false := by simpa using h0
  have b0 : (x == 0) = false := by simpa using h0
  cases hin : inR lo r x with
  | false => simp [e0, b0, hin, chk]
  | true =>
   by_cases hk0 : k = 0
   ·have ek : decide ((k : Int) > 0) = false := by simp; omega
    have bk : decide (0 < k) = false := by simp; omega
    simp only [e0, b0, hin, ek, bk, J2, M5, Bool.not_true, Bool.not_false, Bool.and_true, Bool.false_and, Bool.or_self, Bool.true_and, cond_true, cond_false, Option.bind_some, Bool.or_false, Bool.and_false, Bool.false_eq_true, if_false, cond_true, cond_false]
   ·have hy := V5 (show k - 1 < w.length by omega)
    generalize w[k - 1] = y at hy
    have hpr : IntKind.i64.wrap ((k : Int) - 1) = ((k - 1 : Nat) : Int) := A0a (by omega) (by omega)
    have ek : decide ((k : Int) > 0) = true := by simp; omega
    have bk : decide (0 < k) = true := by simp; omega
    simp only [e0, b0, hin, ek, bk, hpr, hy, O3 hx, O3 hy, J2, M5, Bool.not_true, Bool.not_false, Bool.and_true, Bool.false_and, Bool.or_self, Bool.true_and, cond_true, cond_false, Option.bind_some, Bool.or_false, Bool.and_false, Bool.false_or]
    by_cases hxy : x = IntKind.i64.wrap (0 - y)
    ·have e1 : decide (x = IntKind.i64.wrap (0 - y)) = true := by simpa using hxy
     have b1 : (x == IntKind.i64.wrap (0 - y)) = true := by simpa using hxy
     simp only [e1, b1, if_true, Bool.not_true, Bool.false_and, Bool.false_eq_true, if_false, cond_true, cond_false]
    ·have e1 : decide (x = IntKind.i64.wrap (0 - y)) = false := by simpa using hxy
     have b1 : (x == IntKind.i64.wrap (0 - y)) = false := by simpa using hxy
     simp only [e1, b1, Bool.false_eq_true, if_false, Bool.not_false, Bool.true_and]
theorem l07 (r : Int) (w : List Int) (hl : w.length ≤ 140737488355328) : B9 r w = some (Q4 r w) := by
 unfold B9
 have h := t03 r w hl w.length 0 S0 (by omega) (W0 hl)
 rw [show ((0 : Nat) : Int) = 0 from rfl] at h
 rw [h, G01]
 unfold Q4
 by_cases hr : inR 1 3 r = true
 ·have : IntKind.i64.wrap (0 - r) = -r := by
   simp only [inR, Bool.and_eq_true, decide_eq_true_eq] at hr
   rw [w64 (by omega) (by omega)]; omega
  rw [this, hr]
  cases j01 (-r) r w w.length 0 <;> simp [l7] <;> omega
 ·simp only [Bool.not_eq_true] at hr
  rw [hr]
  cases j01 (IntKind.i64.wrap (0 - r)) r w w.length 0 <;> simp [l7]
theorem K0f (r x : Int) (hr : inR 1 3 r = true) : c9 r x = some (!(x == 0) && inR (-r) r x) := by
 have hn : IntKind.i64.wrap (0 - r) = -r := by
  simp only [inR, Bool.and_eq_true, decide_eq_true_eq] at hr
  rw [w64 (by omega) (by omega)]; omega
 unfold c9
 rw [hn, B01]
 by_cases h0 : x = 0
 ·simp [h0, chk]
 ·simp [h0, chk]
theorem m07 (y x : Int) : E7 y x = some (!(y == 0) && !(y == -9223372036854775808) && (x == IntKind.i64.wrap (0 - y))) := by
 unfold E7
 by_cases h0 : y = 0
 ·simp [h0]
 ·by_cases h1 : y = -9223372036854775808
  ·simp [h1]
  ·simp only [h0, h1, decide_false, Bool.not_false, cond_true, Option.some.injEq]
   have b2 : (y == 0) = false := by simpa using h0
   have b3 : (y == -9223372036854775808) = false := by simpa using h1
   rw [b2, b3]
   rfl
theorem u03 (r : Int) (w : List Int) (hr : inR 1 3 r = true) (hl : w.length ≤ 140737488355328) : ∀ (d k fuel : Nat), k + d = w.length → d < fuel →
  (∀ i, i < k → s03 (-r) r w i = false) →
  O6 w r fuel (k : Int) = some (bif j01 (-r) r w d k then .inr () else .inl false)
 | d, k, 0, hk, hf, hp => by omega
 | 0, k, fuel + 1, hk, hf, hp => by
  rw [O6.eq_2, if_neg (by simp; omega)]
  simp [j01]
 | d + 1, k, fuel + 1, hk, hf, hp => by
  have hkl : k < w.length := by omega
  have hx := V5 hkl
  generalize w[k] = x at hx
  have next := fun (hb : s03 (-r) r w k = false) => u03 r w hr hl d (k + 1) fuel (by omega) (by omega) (fun i hi => by
   by_cases e : i = k
   ·subst e; exact hb
   ·exact hp i (by omega))
  rw [O6.eq_2, if_pos (by simp; omega)]
  rw [O3 hx, Option.bind_some, K0f r x hr, A2 hkl (by omega : w.length ≤ 9223372036854775807)]
  have hbad : s03 (-r) r w k = (x == 0 || !inR (-r) r x || (decide (0 < k) && match w[k - 1]? with
   | none => true
   | some y => x == IntKind.i64.wrap (0 - y))) := by unfold s03; rw [hx]
  simp only [j01]
  by_cases h0 : x = 0
  ·simp [h0, chk, hbad]
  have b0 : (x == 0) = false := by simpa using h0
  cases hin : inR (-r) r x with
  | false => simp [b0, hin, chk, hbad]
  | true =>
   by_cases hk0 : k = 0
   ·have hb : s03 (-r) r w k = false := by rw [hbad]; simp [h0, hin, hk0]
    rw [next hb, hb]
    have ek : decide ((k : Int) > 0) = false := by simp; omega
    simp only [b0, ek, J2, M5, Bool.not_true, Bool.not_false, Bool.and_true, Bool.false_and, Bool.or_self, Bool.true_and, cond_true, cond_false, Option.bind_some, Bool.or_false, Bool.and_false, Bool.false_eq_true, if_false, cond_true, cond_false]
   ·have hy := V5 (show k - 1 < w.length by omega)
    have hpy := hp (k - 1) (by omega)
    generalize w[k - 1] = y at hy
    have hy0 : y ≠ 0 ∧ y ≠ -9223372036854775808 := by
     unfold s03 at hpy
     rw [hy] at hpy
     simp only [Bool.or_eq_false_iff, Bool.not_eq_false'] at hpy
     have h1 := hpy.1.2
     simp only [inR, Bool.and_eq_true, decide_eq_true_eq] at h1 hr
     exact ⟨by simpa using hpy.1.1, by omega⟩
    have b2 : (y == 0) = false := by simpa using hy0.1
    have b3 : (y == -9223372036854775808) = false := by simpa using hy0.2
    have hpr : IntKind.i64.wrap ((k : Int) - 1) = ((k - 1 : Nat) : Int) := A0a (by omega) (by omega)
    have ek : decide ((k : Int) > 0) = true := by simp; omega
    have bk : decide (0 < k) = true := by simp; omega
    simp only [b0, ek, hpr, O3 hy, m07, b2, b3, J2, M5, Bool.not_true, Bool.not_false, Bool.and_true, Bool.false_and, Bool.or_self, Bool.true_and, cond_true, cond_false, Option.bind_some, Bool.or_false, Bool.and_false, Bool.false_or]
    cases b1 : (x == IntKind.i64.wrap (0 - y)) with
    | true =>
     have hb : s03 (-r) r w k = true := by rw [hbad, hy, bk, b0, hin]; exact b1
     simp only [hb, if_true, Bool.not_true, Bool.false_and, Bool.false_eq_true, if_false, cond_true, cond_false]
    | false =>
     have hb : s03 (-r) r w k = false := by rw [hbad, hy, bk, b0, hin]; exact b1
     simp only [hb, next hb, Bool.false_eq_true, if_false, Bool.not_false, Bool.true_and]
theorem n07 (r : Int) (w : List Int) (hl : w.length ≤ 140737488355328) : C9 r w = some (Q4 r w) := by
 unfold C9
 rw [B01]
 unfold Q4
 cases hr : inR 1 3 r with
 | false => simp
 | true =>
  by_cases h24 : w.length ≤ 24
  ·have h := u03 r w hr hl w.length 0 S0 (by omega) (W0 hl) (fun i hi => by omega)
   rw [show ((0 : Nat) : Int) = 0 from rfl] at h
   have h24' : ¬ (24 : Int) < (w.length : Int) := by omega
   simp only [Option.bind_some, h, h24']
   cases j01 (-r) r w w.length 0 <;> simp [l7, h24]
  ·have h24' : (24 : Int) < (w.length : Int) := by omega
   simp [h24, h24']
end Go.Proofs.YtfdlgbfeceodeaaGreat
namespace Go.Proofs.YtfdlgbfeceodeaaGreat
open Go.H
set_option linter.unusedVariables false
set_option linter.unusedSimpArgs false
def tot : List (List Int) → Nat
 | [] => 0
 | w :: r => w.length + tot r
theorem O1 {α : Type} {xs : List α} {k : Nat} {x : α} (h : xs[k]? = some x) : xs.drop k = x :: xs.drop (k + 1) := by
 obtain ⟨hk, rfl⟩ := List.getElem?_eq_some_iff.1 h
 exact List.drop_eq_getElem_cons hk
theorem E1 {α : Type} {xs : List α} {k : Nat} (h : k = xs.length) : xs.drop k = [] := by rw [h]; exact List.drop_length
theorem a01 (ws : List (List Int)) (hl : ws.length ≤ 140737488355328) : ∀ (d k fuel a : Nat), k + d = ws.length → d < fuel → a + tot (ws.drop k) ≤ 9223372036854775807 →
  C3 ws fuel (a : Int) (k : Int) = some ((a + tot (ws.drop k) : Nat) : Int)
 | d, k, 0, a, hk, hf, ht => by omega
 | 0, k, fuel + 1, a, hk, hf, ht => by
  rw [C3.eq_2, if_neg (by simp; omega), E1 (by omega)]
  rfl
 | d + 1, k, fuel + 1, a, hk, hf, ht => by
  have hkl : k < ws.length := by omega
  have hx := V5 hkl
  generalize ws[k] = x at hx
  rw [O1 hx] at ht ⊢
  simp only [tot] at ht ⊢
  rw [C3.eq_2, if_pos (by simp; omega), O3 hx, Option.bind_some, A2 hkl (by omega : ws.length ≤ 9223372036854775807),
   show IntKind.i64.wrap ((a : Int) + ((x.length : Nat) : Int)) = ((a + x.length : Nat) : Int) by rw [w64 (by omega) (by omega)]; omega,
   a01 ws hl d (k + 1) fuel (a + x.length) (by omega) (by omega) (by omega)]
  rw [Nat.add_assoc]
theorem G02 (ws : List (List Int)) (hl : ws.length ≤ 140737488355328) (ht : tot ws ≤ 9223372036854775807) : Y6 ws = some ((tot ws : Nat) : Int) := by
 unfold Y6
 have h := a01 ws hl ws.length 0 S0 0 (by omega) (W0 hl) (by simpa using ht)
 rw [show ((0 : Nat) : Int) = 0 from rfl] at h
 rw [h]
 simp
theorem H00 (ws : List (List Int)) : ∀ (fuel : Nat) (a k : Int), Y4 ws fuel a k = C3 ws fuel a k
 | 0, a, k => rfl
 | fuel + 1, a, k => by
  rw [Y4.eq_2, C3.eq_2]
  simp only [H00 ws fuel]
theorem o07 (ws : List (List Int)) (hl : ws.length ≤ 140737488355328) (ht : tot ws ≤ 9223372036854775807) : Z7 ws = some ((tot ws : Nat) : Int) := by
 rw [← G02 ws hl ht]
 unfold Z7 Y6
 rw [H00]
def D05 (r : Int) : List (List Int) → Bool
 | [] => true
 | w :: l => Q4 r w && D05 r l
def J3 (r : Int) (ws : List (List Int)) : Bool := inR 1 3 r && decide (ws.length ≤ 6) && D05 r ws && decide (tot ws < 40)
theorem B0a {r : Int} : ∀ {ws : List (List Int)}, D05 r ws = true → tot ws ≤ 24 * ws.length
 | [], _ => by simp [tot]
 | w :: l, h => by
  simp only [D05, Bool.and_eq_true] at h
  have h1 := h.1
  simp only [Q4, Bool.and_eq_true, decide_eq_true_eq] at h1
  have := B0a h.2
  simp only [tot, List.length_cons]
  omega
def C2 (ws : List (List Int)) : Prop := ∀ w ∈ ws, w.length ≤ 140737488355328
theorem k02 (r : Int) (ws : List (List Int)) (hl : ws.length ≤ 140737488355328) (hs : C2 ws) : ∀ (d k fuel : Nat), k + d = ws.length → d < fuel →
  D5 ws r fuel (k : Int) = some (bif D05 r (ws.drop k) then .inr () else .inl false)
 | d, k, 0, hk, hf => by omega
 | 0, k, fuel + 1, hk, hf => by
  rw [D5.eq_2, if_neg (by simp; omega), E1 (by omega)]
  rfl
 | d + 1, k, fuel + 1, hk, hf => by
  have hkl : k < ws.length := by omega
  have hx := V5 hkl
  have hsx := hs _ (List.mem_of_getElem? hx)
  generalize ws[k] = x at hx hsx
  rw [O1 hx, D5.eq_2, if_pos (by simp; omega), O3 hx, Option.bind_some, l07 r x hsx, Option.bind_some, A2 hkl (by omega : ws.length ≤ 9223372036854775807),
   k02 r ws hl hs d (k + 1) fuel (by omega) (by omega)]
  simp only [D05]
  cases Q4 r x <;> simp
theorem U04 (r : Int) (ws : List (List Int)) (hl : ws.length ≤ 140737488355328) (hs : C2 ws) : t8 r ws = some (J3 r ws) := by
 unfold t8
 have h := k02 r ws hl hs ws.length 0 S0 (by omega) (W0 hl)
 rw [show ((0 : Nat) : Int) = 0 from rfl, List.drop_zero] at h
 rw [h, Option.bind_some]
 unfold J3
 cases ha : D05 r ws with
 | false => simp [l7]
 | true =>
  rw [cond_true, T0, G01, Option.bind_some]
  have := B0a ha
  cases hr : inR 1 3 r with
  | false => simp [chk, grd, F0]
  | true =>
   by_cases h6 : ws.length ≤ 6
   ·rw [G02 ws hl (by omega)]
    have h6' : decide (((ws.length : Nat) : Int) ≤ 6) = true := by simp; omega
    have h6'' : decide (ws.length ≤ 6) = true := by simpa using h6
    rw [h6', h6'', cond_true, J2, Option.bind_some, N0 (by constructor <;> omega)]
    simp
    omega
   ·have h6' : decide (((ws.length : Nat) : Int) ≤ 6) = false := by simp; omega
    have h6'' : decide (ws.length ≤ 6) = false := by simpa using h6
    rw [h6', h6'']
    simp [chk, grd, F0]
theorem l02 (r : Int) (ws : List (List Int)) (hl : ws.length ≤ 140737488355328) (hs : C2 ws) : ∀ (d k fuel : Nat), k + d = ws.length → d < fuel →
  E5 ws r fuel (k : Int) = some (bif D05 r (ws.drop k) then .inr () else .inl false)
 | d, k, 0, hk, hf => by omega
 | 0, k, fuel + 1, hk, hf => by
  rw [E5.eq_2, if_neg (by simp; omega), E1 (by omega)]
  rfl
 | d + 1, k, fuel + 1, hk, hf => by
  have hkl : k < ws.length := by omega
  have hx := V5 hkl
  have hsx := hs _ (List.mem_of_getElem? hx)
  generalize ws[k] = x at hx hsx
  rw [O1 hx, E5.eq_2, if_pos (by simp; omega), O3 hx, Option.bind_some, n07 r x hsx, Option.bind_some, A2 hkl (by omega : ws.length ≤ 9223372036854775807),
   l02 r ws hl hs d (k + 1) fuel (by omega) (by omega)]
  simp only [D05]
  cases Q4 r x <;> simp
theorem V04 (r : Int) (ws : List (List Int)) (hl : ws.length ≤ 140737488355328) (hs : C2 ws) : w8 r ws = some (J3 r ws) := by
 unfold w8
 rw [B01, Option.bind_some]
 unfold J3
 cases hr : inR 1 3 r with
 | false => simp
 | true =>
  by_cases h6 : ws.length ≤ 6
  ·have h6' : decide (((ws.length : Nat) : Int) > 6) = false := by simp; omega
   have h6'' : decide (ws.length ≤ 6) = true := by simpa using h6
   have h := l02 r ws hl hs ws.length 0 S0 (by omega) (W0 hl)
   rw [show ((0 : Nat) : Int) = 0 from rfl, List.drop_zero] at h
   rw [h6', h6'', h, Option.bind_some]
   cases ha : D05 r ws with
   | false => simp [l7]
   | true =>
    have := B0a ha
    simp only [cond_true, T0, o07 ws hl (by omega), Option.bind_some, N0 (show F0 ((tot ws : Nat) : Int) by constructor <;> omega)]
    simp
    omega
  ·have h6' : decide (((ws.length : Nat) : Int) > 6) = true := by simp; omega
   have h6'' : decide (ws.length ≤ 6) = false := by simpa using h6
   rw [h6', h6'']
   simp
def cyc (w : List Int) : Bool := match w[0]?, w[w.length - 1]? with
 | some x, some y => !(x == IntKind.i64.wrap (0 - y))
 | _, _ => false
def n0e : List (List Int) → Bool
 | [] => true
 | w :: l => cyc w && n0e l
def d4 (x : C0) : Bool := J3 x.1 x.2 && n0e x.2
theorem u00 (ws : List (List Int)) (hl : ws.length ≤ 140737488355328) (hs : C2 ws) : ∀ (d k fuel : Nat), k + d = ws.length → d < fuel →
  M3 ws fuel (k : Int) = some (bif n0e (ws.drop k) then .inr () else .inl false)
 | d, k, 0, hk, hf => by omega
 | 0, k, fuel + 1, hk, hf => by
  rw [M3.eq_2, if_neg (by simp; omega), E1 (by omega)]
  rfl
 | d + 1, k, fuel + 1, hk, hf => by
  have hkl : k < ws.length := by omega
  have hx := V5 hkl
  have hsx := hs _ (List.mem_of_getElem? hx)
  generalize ws[k] = x at hx hsx
  rw [O1 hx, M3.eq_2, if_pos (by simp; omega), O3 hx, Option.bind_some, A2 hkl (by omega : ws.length ≤ 9223372036854775807),
   u00 ws hl hs d (k + 1) fuel (by omega) (by omega)]
  simp only [n0e]
  by_cases h0 : x.length = 0
  ·have : x = [] := List.length_eq_zero_iff.1 h0
   subst this
   simp [chk, cyc]
  ·have e0 : decide (((x.length : Nat) : Int) = 0) = false := by simpa using h0
   have h1 := V5 (show 0 < x.length by omega)
   have h2 := V5 (show x.length - 1 < x.length by omega)
   have hc : cyc x = !(x[0] == IntKind.i64.wrap (0 - x[x.length - 1])) := by unfold cyc; rw [h1, h2]
   generalize x[0] = a at h1 hc
   generalize x[x.length - 1] = b at h2 hc
   rw [e0, A0a (by omega) (by omega), T04 h1, O3 h2, hc]
   simp only [Bool.not_false, J2, Option.bind_some, cond_false]
   cases hab : (a == IntKind.i64.wrap (0 - b)) with
   | true => rw [if_pos (by simpa using hab)]; rfl
   | false => rw [if_neg (by simpa using hab)]; simp
theorem C8 (x : C0) (hl : x.2.length ≤ 140737488355328) (hs : C2 x.2) : T4 x = some (d4 x) := by
 obtain ⟨r, ws⟩ := x
 unfold T4
 have h := u00 ws hl hs ws.length 0 S0 (by omega) (W0 hl)
 rw [show ((0 : Nat) : Int) = 0 from rfl, List.drop_zero] at h
 simp only [h, Option.bind_some, U04 r ws hl hs, d4]
 cases n0e ws <;> simp [l7]
theorem X0b {lo hi : Int} {w : List Int} : ∀ {d k : Nat}, j01 lo hi w d k = true → ∀ i, k ≤ i → i < k + d → s03 lo hi w i = false
 | 0, k, h, i, h1, h2 => by omega
 | d + 1, k, h, i, h1, h2 => by
  simp only [j01, Bool.and_eq_true, Bool.not_eq_true'] at h
  by_cases e : i = k
  ·subst e; exact h.1
  ·exact X0b h.2 i (by omega) (by omega)
theorem H02 {r : Int} {w : List Int} (h : Q4 r w = true) {i : Nat} {x : Int} (hx : w[i]? = some x) : (1 ≤ r ∧ r ≤ 3) ∧ w.length ≤ 24 ∧ x ≠ 0 ∧ -r ≤ x ∧ x ≤ r := by
 simp only [Q4, Bool.and_eq_true, decide_eq_true_eq] at h
 have hr := h.1.1
 simp only [inR, Bool.and_eq_true, decide_eq_true_eq] at hr
 have hb := X0b h.2 i (Nat.zero_le _) (by have := (List.getElem?_eq_some_iff.1 hx).1; omega)
 unfold s03 at hb
 rw [hx] at hb
 simp only [Bool.or_eq_false_iff, Bool.not_eq_false'] at hb
 have h1 := hb.1.2
 simp only [inR, Bool.and_eq_true, decide_eq_true_eq] at h1
 exact ⟨hr, h.1.2, by simpa using hb.1.1, h1⟩
theorem v00 (ws : List (List Int)) (hl : ws.length ≤ 140737488355328) (hs : C2 ws) (r : Int) (ha : inR 1 3 r = true) : ∀ (d k fuel : Nat), k + d = ws.length → d < fuel → D05 r (ws.drop k) = true →
  N3 ws fuel (k : Int) = some (bif n0e (ws.drop k) then .inr () else .inl false)
 | d, k, 0, hk, hf, hw => by omega
 | 0, k, fuel + 1, hk, hf, hw => by
  rw [N3.eq_2, if_neg (by simp; omega), E1 (by omega)]
  rfl
 | d + 1, k, fuel + 1, hk, hf, hw => by
  have hkl : k < ws.length := by omega
  have hx := V5 hkl
  have hsx := hs _ (List.mem_of_getElem? hx)
  generalize ws[k] = x at hx hsx
  rw [O1 hx] at hw ⊢
  simp only [D05, Bool.and_eq_true] at hw
  rw [N3.eq_2, if_pos (by simp; omega), O3 hx, Option.bind_some, A2 hkl (by omega : ws.length ≤ 9223372036854775807),
   v00 ws hl hs r ha d (k + 1) fuel (by omega) (by omega) hw.2]
  simp only [n0e]
  by_cases h0 : x.length = 0
  ·have : x = [] := List.length_eq_zero_iff.1 h0
   subst this
   simp [chk, cyc]
  ·have e0 : decide (((x.length : Nat) : Int) = 0) = false := by simpa using h0
   have h1 := V5 (show 0 < x.length by omega)
   have h2 := V5 (show x.length - 1 < x.length by omega)
   have hc : cyc x = !(x[0] == IntKind.i64.wrap (0 - x[x.length - 1])) := by unfold cyc; rw [h1, h2]
   generalize x[0] = a at h1 hc
   generalize x[x.length - 1] = b at h2 hc
   obtain ⟨hr1, _, a1, a2, a3⟩ := H02 hw.1 h1
   obtain ⟨_, _, b1, b2, b3⟩ := H02 hw.1 h2
   have na : IntKind.i64.wrap (0 - a) = -a := by rw [w64 (by omega) (by omega)]; omega
   have nb : IntKind.i64.wrap (0 - b) = -b := by rw [w64 (by omega) (by omega)]; omega
   rw [e0, A0a (by omega) (by omega), T04 h1, O3 h2, hc]
   simp only [Bool.not_false, J2, Option.bind_some, cond_false, m07, na, nb]
   have q1 : (a == 0) = false := by simpa using a1
   have q2 : (a == -9223372036854775808) = false := by simp; omega
   rw [q1, q2]
   simp only [Bool.not_false, Bool.true_and]
   by_cases hab : a = -b
   ·have e1 : (b == -a) = true := by simp; omega
    have e2 : (a == -b) = true := by simp; omega
    rw [e1, e2]; rfl
   ·have e1 : (b == -a) = false := by simp; omega
    have e2 : (a == -b) = false := by simp; omega
    rw [e1, e2]; simp
theorem W9 (x : C0) (hl : x.2.length ≤ 140737488355328) (hs : C2 x.2) : U4 x = some (d4 x) := by
 obtain ⟨r, ws⟩ := x
 unfold U4
 simp only [V04 r ws hl hs, d4, Option.bind_some]
 cases ha : J3 r ws with
 | false => simp
 | true =>
  simp only [J3, Bool.and_eq_true] at ha
  have h := v00 ws hl hs r ha.1.1.1 ws.length 0 S0 (by omega) (W0 hl) (by rw [List.drop_zero]; exact ha.1.2)
  rw [show ((0 : Nat) : Int) = 0 from rfl, List.drop_zero] at h
  rw [h]
  cases n0e ws <;> simp [l7]
end Go.Proofs.YtfdlgbfeceodeaaGreat
namespace Go.Proofs.YtfdlgbfeceodeaaGreat
open Go.H
set_option linter.unusedVariables false
set_option linter.unusedSimpArgs false
def H01 (r hi : Int) (e : D0) : Bool := inR 0 hi e.1 && inR 0 hi e.2.2 && inR 1 r e.2.1
def C0a (e f : D0) : Int := K0 e f
theorem D0a (e f : D0) : C0a e f = if D7 e.1 f.1 ≠ 0 then D7 e.1 f.1 else if D7 e.2.1 f.2.1 ≠ 0 then D7 e.2.1 f.2.1 else D7 e.2.2 f.2.2 := rfl
theorem T03 (a b : Int) : (a < b ∧ D7 a b = -1) ∨ (a > b ∧ D7 a b = 1) ∨ (a = b ∧ D7 a b = 0) := by
 unfold D7
 split
 ·omega
 ·split <;> omega
theorem I09 (e f : D0) : F0 (C0a e f) := by
 rw [D0a]
 split
 ·exact Z0c _ _
 ·split <;> exact Z0c _ _
theorem o0e (g : l0) (e : D0) : D9 g e = some (H01 g.1 (IntKind.i64.wrap (g.2.1 - 1)) e) := by
 obtain ⟨r, n, es⟩ := g
 obtain ⟨a, l, b⟩ := e
 unfold D9 H01
 simp only [G01, Option.bind_some]
 cases inR 0 (IntKind.i64.wrap (n - 1)) a with
 | false => rfl
 | true =>
  cases inR 0 (IntKind.i64.wrap (n - 1)) b with
  | false => rfl
  | true => simp [chk]
theorem i04 (g : l0) (e : D0) : c6 g e = some (H01 g.1 (IntKind.i64.wrap (g.2.1 - 1)) e) := by
 obtain ⟨r, n, es⟩ := g
 obtain ⟨a, l, b⟩ := e
 unfold c6 n5 H01
 simp only [B01, Option.bind_some]
 cases inR 0 (IntKind.i64.wrap (n - 1)) a with
 | false => rfl
 | true =>
  cases inR 0 (IntKind.i64.wrap (n - 1)) b with
  | false => rfl
  | true => simp [chk]
theorem B00 (e f : D0) : K6 e f = some (C0a e f) := by
 obtain ⟨a, l, b⟩ := e
 obtain ⟨a', l', b'⟩ := f
 unfold K6
 rw [show S0 = (S0 - 4) + 1 + 1 + 1 + 1 from rfl]
 have w1 : IntKind.i64.wrap (0 + 1) = 1 := by decide
 have w2 : IntKind.i64.wrap (1 + 1) = 2 := by decide
 have w3 : IntKind.i64.wrap (2 + 1) = 3 := by decide
 have g0 : ∀ x y z : Int, gi [x, y, z] 0 = some x := fun _ _ _ => rfl
 have g1 : ∀ x y z : Int, gi [x, y, z] 1 = some y := fun _ _ _ => rfl
 have g2 : ∀ x y z : Int, gi [x, y, z] 2 = some z := fun _ _ _ => rfl
 have d0 : decide ((0 : Int) < 3) = true := rfl
 have d1 : decide ((1 : Int) < 3) = true := rfl
 have d2 : decide ((2 : Int) < 3) = true := rfl
 have d3 : decide ((3 : Int) < 3) = false := rfl
 simp only [L5.eq_2, w1, w2, w3, g0, g1, g2, d0, d1, d2, d3, if_true, Option.bind_some, Bool.false_eq_true, if_false]
 rw [D0a]
 simp only
 rcases T03 a a' with ⟨h, e⟩ | ⟨h, e⟩ | ⟨h, e⟩
 ·simp [e, h, l7]
 ·have : ¬ a < a' := by omega
  simp [e, h, this, l7]
 ·subst h
  rcases T03 l l' with ⟨h, e2⟩ | ⟨h, e2⟩ | ⟨h, e2⟩
  ·simp [e, e2, h, l7]
  ·have : ¬ l < l' := by omega
   simp [e, e2, h, this, l7]
  ·subst h
   rcases T03 b b' with ⟨h, e3⟩ | ⟨h, e3⟩ | ⟨h, e3⟩
   ·simp [e, e2, e3, h, l7]
   ·have : ¬ b < b' := by omega
    simp [e, e2, e3, h, this, l7]
   ·subst h
    simp [e, e2, e3, l7]
theorem L0h (a b : Int) : U5 a b = some (D7 a b) := by
 unfold U5 D7
 by_cases h : a < b
 ·simp [h]
 ·by_cases h2 : a > b <;> simp [h, h2]
theorem m02 (e f : D0) : I7 e f = some (C0a e f) := by
 obtain ⟨a, l, b⟩ := e
 obtain ⟨a', l', b'⟩ := f
 rw [D0a]
 unfold I7
 simp only [L0h, Option.bind_some, N0 (Z0c _ _)]
 by_cases h1 : D7 a a' = 0
 ·by_cases h2 : D7 l l' = 0
  ·simp [h1, h2]
  ·simp [h1, h2]
 ·simp [h1]
def P0i (r hi : Int) (es : List D0) (k : Nat) : Bool := match es[k]? with
 | none => true
 | some e => !H01 r hi e || (decide (0 < k) && match es[k - 1]? with
  | none => true
  | some f => decide (C0a f e ≥ 0))
def okE (r hi : Int) (es : List D0) : Nat → Nat → Bool
 | 0, _ => true
 | d + 1, k => !P0i r hi es k && okE r hi es d (k + 1)
def M0 (g : l0) : Bool := okE g.1 (IntKind.i64.wrap (g.2.1 - 1)) g.2.2 g.2.2.length 0 && inR 1 3 g.1 && inR 1 40 g.2.1 && decide (g.2.2.length ≤ 120)
theorem p07 {r hi : Int} {es : List D0} {k : Nat} {e : D0} (hx : es[k]? = some e) : P0i r hi es k = (!H01 r hi e || (decide (0 < k) && match es[k - 1]? with
  | none => true
  | some f => decide (C0a f e ≥ 0))) := by unfold P0i; rw [hx]
theorem I02 (r n : Int) (es : List D0) (hl : es.length ≤ 140737488355328) : ∀ (d k fuel : Nat), k + d = es.length → d < fuel →
  Z5 es r n fuel (k : Int) = some (bif okE r (IntKind.i64.wrap (n - 1)) es d k then .inr () else .inl false)
 | d, k, 0, hk, hf => by omega
 | 0, k, fuel + 1, hk, hf => by
  rw [Z5.eq_2, if_neg (by simp; omega)]
  simp [okE]
 | d + 1, k, fuel + 1, hk, hf => by
  have hkl : k < es.length := by omega
  have hx := V5 hkl
  generalize es[k] = e at hx
  obtain ⟨e0, e1, e2⟩ := e
  have next := I02 r n es hl d (k + 1) fuel (by omega) (by omega)
  rw [Z5.eq_2, if_pos (by simp; omega), O3 hx, Option.bind_some]
  simp only [o0e, Option.bind_some, A2 hkl (by omega : es.length ≤ 9223372036854775807), next, okE, p07 hx]
  generalize IntKind.i64.wrap (n - 1) = hi
  cases hin : H01 r hi (e0, e1, e2) with
  | false => simp [chk, grd, F0]
  | true =>
   by_cases hk0 : k = 0
   ·have ek : decide ((k : Int) > 0) = false := by simp; omega
    have bk : decide (0 < k) = false := by simp; omega
    simp only [ek, bk, M5, Bool.not_true, Bool.not_false, Bool.and_true, Bool.false_and, Bool.or_self, Bool.true_and, cond_true, cond_false, Option.bind_some, Bool.or_false, Bool.false_eq_true, if_false, N0 (show F0 0 by decide)]
   ·have hy := V5 (show k - 1 < es.length by omega)
    generalize es[k - 1] = f at hy
    obtain ⟨f0, f1, f2⟩ := f
    have hpr : IntKind.i64.wrap ((k : Int) - 1) = ((k - 1 : Nat) : Int) := A0a (by omega) (by omega)
    have ek : decide ((k : Int) > 0) = true := by simp; omega
    have bk : decide (0 < k) = true := by simp; omega
    simp only [ek, bk, hpr, hy, O3 hx, O3 hy, J2, Bool.not_true, Bool.not_false, Bool.and_true, Bool.false_and, Bool.or_self, Bool.true_and, cond_true, cond_false, Option.bind_some, Bool.or_false, Bool.false_or, B00, N0 (I09 _ _)]
    cases decide (C0a (f0, f1, f2) (e0, e1, e2) ≥ 0) <;> rfl
theorem Q5 (g : l0) (hl : g.2.2.length ≤ 140737488355328) : G3 g = some (M0 g) := by
 obtain ⟨r, n, es⟩ := g
 unfold G3 M0
 simp only at hl ⊢
 have h := I02 r n es hl es.length 0 S0 (by omega) (W0 hl)
 rw [show ((0 : Nat) : Int) = 0 from rfl] at h
 rw [h, Option.bind_some]
 cases okE r (IntKind.i64.wrap (n - 1)) es es.length 0 with
 | false => simp [l7]
 | true =>
  rw [cond_true, T0, G01, G01, Option.bind_some]
  cases inR 1 3 r with
  | false => simp [chk]
  | true =>
   simp only [J2, Option.bind_some, cond_true, Bool.true_and]
   cases inR 1 40 n with
   | false => simp
   | true => simp; omega
theorem J02 (r n : Int) (es : List D0) (hl : es.length ≤ 140737488355328) : ∀ (d k fuel : Nat), k + d = es.length → d < fuel →
  d6 es r n fuel (k : Int) = some (bif okE r (IntKind.i64.wrap (n - 1)) es d k then .inr () else .inl false)
 | d, k, 0, hk, hf => by omega
 | 0, k, fuel + 1, hk, hf => by
  rw [d6.eq_2, if_neg (by simp; omega)]
  simp [okE]
 | d + 1, k, fuel + 1, hk, hf => by
  have hkl : k < es.length := by omega
  have hx := V5 hkl
  generalize es[k] = e at hx
  obtain ⟨e0, e1, e2⟩ := e
  have next := J02 r n es hl d (k + 1) fuel (by omega) (by omega)
  rw [d6.eq_2, if_pos (by simp; omega), O3 hx, Option.bind_some]
  simp only [i04, Option.bind_some, A2 hkl (by omega : es.length ≤ 9223372036854775807), next, okE, p07 hx]
  generalize IntKind.i64.wrap (n - 1) = hi
  cases hin : H01 r hi (e0, e1, e2) with
  | false => simp [chk, grd, F0]
  | true =>
   by_cases hk0 : k = 0
   ·have ek : decide ((k : Int) > 0) = false := by simp; omega
    have bk : decide (0 < k) = false := by simp; omega
    simp only [ek, bk, M5, Bool.not_true, Bool.not_false, Bool.and_true, Bool.false_and, Bool.or_self, Bool.true_and, cond_true, cond_false, Option.bind_some, Bool.or_false, Bool.false_eq_true, if_false, N0 (show F0 0 by decide)]
   ·have hy := V5 (show k - 1 < es.length by omega)
    generalize es[k - 1] = f at hy
    obtain ⟨f0, f1, f2⟩ := f
    have hpr : IntKind.i64.wrap ((k : Int) - 1) = ((k - 1 : Nat) : Int) := A0a (by omega) (by omega)
    have ek : decide ((k : Int) > 0) = true := by simp; omega
    have bk : decide (0 < k) = true := by simp; omega
    simp only [ek, bk, hpr, hy, O3 hx, O3 hy, J2, Bool.not_true, Bool.not_false, Bool.and_true, Bool.false_and, Bool.or_self, Bool.true_and, cond_true, cond_false, Option.bind_some, Bool.or_false, Bool.false_or, m02, N0 (I09 _ _)]
    cases decide (C0a (f0, f1, f2) (e0, e1, e2) ≥ 0) <;> rfl
theorem I8 (g : l0) (hl : g.2.2.length ≤ 140737488355328) : Z4 g = some (M0 g) := by
 obtain ⟨r, n, es⟩ := g
 unfold Z4 M0
 simp only at hl ⊢
 rw [B01, B01, Option.bind_some]
 cases hr : inR 1 3 r with
 | false => simp [chk]
 | true =>
  simp only [Bool.not_true, Bool.not_false, J2, Option.bind_some, cond_false]
  cases hn : inR 1 40 n with
  | false => simp
  | true =>
   by_cases h120 : es.length ≤ 120
   ·have h := J02 r n es hl es.length 0 S0 (by omega) (W0 hl)
    rw [show ((0 : Nat) : Int) = 0 from rfl] at h
    have e1 : decide (((es.length : Nat) : Int) > 120) = false := by simp; omega
    have e2 : decide (es.length ≤ 120) = true := by simpa using h120
    simp only [e1, e2, Bool.not_true, cond_false, Bool.false_eq_true, if_false, h, Option.bind_some]
    cases okE r (IntKind.i64.wrap (n - 1)) es es.length 0 <;> rfl
   ·have e1 : decide (((es.length : Nat) : Int) > 120) = true := by simp; omega
    have e2 : decide (es.length ≤ 120) = false := by simpa using h120
    simp only [e1, e2, Bool.not_true, cond_false, if_true, Bool.and_false]
theorem L0f {r hi : Int} {es : List D0} : ∀ {d k : Nat}, okE r hi es d k = true → ∀ i, k ≤ i → i < k + d → P0i r hi es i = false
 | 0, k, h, i, h1, h2 => by omega
 | d + 1, k, h, i, h1, h2 => by
  simp only [okE, Bool.and_eq_true, Bool.not_eq_true'] at h
  by_cases e : i = k
  ·subst e; exact h.1
  ·exact L0f h.2 i (by omega) (by omega)
end Go.Proofs.YtfdlgbfeceodeaaGreat
namespace Go.Proofs.YtfdlgbfeceodeaaGreat
open Go.H
set_option linter.unusedVariables false
set_option linter.unusedSimpArgs false
theorem p0e {n : Nat} (h : n ≤ 9223372036854775807) : n < S0 := by unfold S0; omega
def goI (x : Int) : List Int → Bool × List Int
 | [] => (false, [])
 | y :: l => if x < y then (true, x :: y :: l) else if y = x then (true, y :: l) else ((goI x l).1, y :: (goI x l).2)
theorem M0g (x : Int) : ∀ l, R8 D7 x l = bif (goI x l).1 then (goI x l).2 else (goI x l).2 ++ [x]
 | [] => rfl
 | y :: l => by
  have ih := M0g x l
  unfold R8 goI
  rcases T03 x y with ⟨h, e⟩ | ⟨h, e⟩ | ⟨h, e⟩
  ·rw [e, if_pos (by omega), if_pos h]; rfl
  ·rw [e, if_neg (by omega), if_neg (by omega), if_neg (by omega), if_neg (by omega), ih]
   cases (goI x l).1 <;> rfl
  ·rw [e, if_neg (by omega), if_pos rfl, if_neg (by omega), if_pos h.symm]; rfl
theorem E0a (l : List Int) (w : Int) (hl : l.length ≤ 1099511627776) : ∀ (d k fuel : Nat) (acc : List Int), k + d = l.length → d < fuel → acc.length ≤ k + 1 →
  R3 l w fuel true (k : Int) acc = some (true, acc ++ l.drop k)
 | d, k, 0, acc, hd, hf, ha => by omega
 | 0, k, fuel + 1, acc, hd, hf, ha => by
  rw [R3.eq_2, if_neg (by simp; omega), E1 (by omega), List.append_nil]
 | d + 1, k, fuel + 1, acc, hd, hf, ha => by
  have hk : k < l.length := by omega
  have hx := V5 hk
  generalize l[k] = x at hx
  have ih := E0a l w hl d (k + 1) fuel (acc ++ [x]) (by omega) (by omega) (by simp; omega)
  rw [R3.eq_2, if_pos (by simp; omega), O3 hx, Option.bind_some]
  have hb : ∀ c : Bool, (bif c then (!true) else false) = false := fun c => by cases c <;> rfl
  simp only [hb, Bool.false_eq_true, if_false, Option.bind_some, A2 hk (show l.length ≤ 9223372036854775807 by omega), ih, N0 (show (acc.length + [x].length) * 8 ≤ 140737488355328 by simp; omega)]
  rw [O1 hx]
  split <;> simp
theorem Y0b (l : List Int) (w : Int) (hl : l.length ≤ 1099511627776) : ∀ (d k fuel : Nat) (acc : List Int), k + d = l.length → d < fuel → acc.length = k →
  R3 l w fuel false (k : Int) acc = some ((goI w (l.drop k)).1, acc ++ (goI w (l.drop k)).2)
 | d, k, 0, acc, hd, hf, ha => by omega
 | 0, k, fuel + 1, acc, hd, hf, ha => by
  rw [R3.eq_2, if_neg (by simp; omega), E1 (by omega)]
  simp [goI]
 | d + 1, k, fuel + 1, acc, hd, hf, ha => by
  have hk : k < l.length := by omega
  have hx := V5 hk
  generalize l[k] = x at hx
  have ih := Y0b l w hl d (k + 1) fuel (acc ++ [x]) (by omega) (by omega) (by simp; omega)
  have on1 := E0a l w hl d (k + 1) fuel (acc ++ [x]) (by omega) (by omega) (by simp; omega)
  have on2 := E0a l w hl d (k + 1) fuel (acc ++ [w] ++ [x]) (by omega) (by omega) (by simp; omega)
  rw [R3.eq_2, if_pos (by simp; omega), O3 hx, Option.bind_some, O1 hx]
  unfold goI
  have hb : ∀ c : Bool, (bif c then (!true) else false) = false := fun c => by cases c <;> rfl
  have hb2 : ∀ c : Bool, (bif c then (!false) else false) = c := fun c => by cases c <;> rfl
  by_cases h0 : x = w
  ·rw [if_pos (by simpa using h0), Option.bind_some, hb, if_neg (by simp), Option.bind_some, N0 (by simp; omega), Option.bind_some, A2 hk (by omega), on1, if_neg (by omega), if_pos h0]
   simp
  ·rw [if_neg (by simpa using h0), Option.bind_some, hb2]
   by_cases h1 : w < x
   ·rw [if_pos (by simpa using h1), N0 (by simp; omega), Option.bind_some, Option.bind_some, N0 (by simp; omega), Option.bind_some, A2 hk (by omega), on2, if_pos h1]
    simp
   ·rw [if_neg (by simpa using h1), Option.bind_some, N0 (by simp; omega), Option.bind_some, A2 hk (by omega), ih, if_neg h1, if_neg h0]
    simp
theorem q07 (l : List Int) (w : Int) (hl : l.length ≤ 1099511627776) : n7 l w = some (R8 D7 w l) := by
 unfold n7
 have h := Y0b l w hl l.length 0 S0 [] (by omega) (W0 (by omega)) rfl
 rw [show ((0 : Nat) : Int) = 0 from rfl, List.drop_zero, List.nil_append] at h
 rw [h, Option.bind_some, M0g]
 have hlen : ∀ l : List Int, (goI w l).2.length ≤ l.length + 1 := fun l => by
  induction l with
  | nil => simp [goI]
  | cons y l ih =>
   unfold goI
   split
   ·simp
   ·split
    ·simp
    ·simp only [List.length_cons]; omega
 have := hlen l
 cases (goI w l).1 with
 | true => rfl
 | false =>
  simp only [Bool.not_false, if_true, cond_false]
  rw [N0 (by simp; omega), Option.bind_some]
def Z0b (v x : Int) (e : D0) : List Int :=
 if 0 < x ∧ e.2.1 = x ∧ e.1 = v then [e.2.2] else if x < 0 ∧ e.2.1 = -x ∧ e.2.2 = v then [e.1] else []
def Y9 (v x : Int) : List D0 → List Int
 | [] => []
 | e :: es => Z0b v x e ++ Y9 v x es
theorem M0h (v x : Int) (e : D0) : (Z0b v x e).length ≤ 1 := by unfold Z0b; split <;> (try split) <;> simp
theorem F0a (v x : Int) : ∀ es, (Y9 v x es).length ≤ es.length
 | [] => by simp [Y9]
 | e :: es => by
  have h1 := M0h v x e
  have h2 := F0a v x es
  simp only [Y9, List.length_append, List.length_cons]
  omega
def B7 (x : Int) : Prop := F0 x ∧ x ≠ -9223372036854775808
theorem r07 (es : List D0) (v x : Int) (hx : B7 x) (hl : es.length ≤ 1099511627776) : ∀ (d k fuel : Nat) (acc : List Int), k + d = es.length → d < fuel → acc.length ≤ k →
  W3 es x v fuel (k : Int) acc = some (acc ++ Y9 v x (es.drop k))
 | d, k, 0, acc, hd, hf, ha => by omega
 | 0, k, fuel + 1, acc, hd, hf, ha => by
  rw [W3.eq_2, if_neg (by simp; omega), E1 (by omega)]
  simp [Y9]
 | d + 1, k, fuel + 1, acc, hd, hf, ha => by
  have hk : k < es.length := by omega
  have he := V5 hk
  generalize es[k] = e at he
  obtain ⟨a, l, b⟩ := e
  have ih := fun acc' h => r07 es v x hx hl d (k + 1) fuel acc' (by omega) (by omega) h
  have hn : decide (x = -9223372036854775808) = false := by simp; exact hx.2
  rw [W3.eq_2, if_pos (by simp; omega), O3 he, Option.bind_some, O1 he]
  simp only [Y9, Z0b, m0e hx.1 hx.2, hn, Bool.not_false, A2 hk (show es.length ≤ 9223372036854775807 by omega)]
  by_cases c1 : 0 < x ∧ l = x ∧ a = v
  ·obtain ⟨c1, rfl, rfl⟩ := c1
   rw [if_pos (by simp [c1]), if_pos ⟨c1, rfl, rfl⟩, N0 (by simp; omega), Option.bind_some, ih _ (by simp; omega)]
   simp
  ·rw [if_neg c1, if_neg (by simp only [Bool.cond_eq_ite]; simp; intro h1 h2 h3; exact c1 ⟨h1, h2, h3⟩)]
   by_cases c2 : x < 0 ∧ l = -x ∧ b = v
   ·rw [if_pos c2, if_pos (by simp [c2.1, c2.2.1, c2.2.2]), N0 (by simp; omega), Option.bind_some, ih _ (by simp; omega)]
    simp
   ·rw [if_neg c2, if_neg (by simp only [Bool.cond_eq_ite]; simp; intro h1 h2 h3; exact c2 ⟨h1, h2, h3⟩), ih _ (by omega)]
    simp
theorem v03 (w : Int) : ∀ l : List Int, (R8 D7 w l).length ≤ l.length + 1
 | [] => by simp [R8]
 | y :: l => by
  have := v03 w l
  unfold R8
  split
  ·simp
  ·split
   ·simp
   ·simp only [List.length_cons]; omega
theorem s07 (es : List D0) (v x : Int) (hx : B7 x) (hl : es.length ≤ 1099511627776) : ∀ (d k fuel : Nat) (u : List Int), k + d = es.length → d < fuel → u.length ≤ k →
  I3 es x v fuel u (k : Int) = some (t6 D7 u (Y9 v x (es.drop k)))
 | d, k, 0, u, hd, hf, ha => by omega
 | 0, k, fuel + 1, u, hd, hf, ha => by
  rw [I3.eq_2, if_neg (by simp; omega), E1 (by omega)]
  rfl
 | d + 1, k, fuel + 1, u, hd, hf, ha => by
  have hk : k < es.length := by omega
  have he := V5 hk
  generalize es[k] = e at he
  obtain ⟨a, l, b⟩ := e
  have ih := fun u' h => s07 es v x hx hl d (k + 1) fuel u' (by omega) (by omega) h
  rw [I3.eq_2, if_pos (by simp; omega), O3 he, Option.bind_some, O1 he]
  simp only [Y9, Z0b, m0e hx.1 hx.2, A2 hk (show es.length ≤ 9223372036854775807 by omega)]
  by_cases c1 : 0 < x ∧ l = x ∧ a = v
  ·obtain ⟨c1, rfl, rfl⟩ := c1
   have hno : decide (l < 0) = false := by simp; omega
   have := v03 b u
   rw [if_pos (by simp [c1]), if_pos ⟨c1, rfl, rfl⟩, q07 u b (by omega), Option.bind_some, hno, if_neg (by simp), ih _ (by omega)]
   rfl
  ·rw [if_neg c1, if_neg (by simp only [Bool.cond_eq_ite]; simp; intro h1 h2 h3; exact c1 ⟨h1, h2, h3⟩)]
   by_cases c2 : x < 0 ∧ l = -x ∧ b = v
   ·have := v03 a u
    rw [if_pos c2, if_pos (by simp [c2.1, c2.2.1, c2.2.2]), q07 u a (by omega), Option.bind_some, ih _ (by omega)]
    rfl
   ·rw [if_neg c2, if_neg (by simp only [Bool.cond_eq_ite]; simp; intro h1 h2 h3; exact c2 ⟨h1, h2, h3⟩), ih _ (by omega)]
    rfl
def q01 (g : l0) (v x : Int) : List Int := t6 D7 [] (Y9 v x g.2.2)
theorem Q0j (x y : Int) : eqI x y = true ↔ x = y := by simp [eqI]
theorem q0e (g : l0) (v x : Int) (hx : B7 x) (hl : g.2.2.length ≤ 1099511627776) : L8 g v x = some (q01 g v x) := by
 obtain ⟨r, n, es⟩ := g
 unfold L8 q01
 have h := s07 es v x hx hl es.length 0 S0 [] (by omega) (p0e (by simp only at hl; omega)) (by simp)
 rw [show ((0 : Nat) : Int) = 0 from rfl, List.drop_zero] at h
 simp only [h, Option.bind_some]
theorem r0e (g : l0) (v x : Int) (hx : B7 x) (hl : g.2.2.length ≤ 1099511627776) : M8 g v x = some (q01 g v x) := by
 obtain ⟨r, n, es⟩ := g
 unfold M8 q01
 have h := r07 es v x hx hl es.length 0 S0 [] (by omega) (p0e (by simp only at hl; omega)) (by simp)
 rw [show ((0 : Nat) : Int) = 0 from rfl, List.drop_zero, List.nil_append] at h
 have hlen := F0a v x es
 simp only at hl
 simp only [h, Option.bind_some, N0 (show (Y9 v x es).length < 4611686018427387904 by omega)]
 rw [← l0e Q00 Q0j (Y9 v x es) (Y9 v x es) fun _ => Iff.rfl]
 rfl
def B5 (g : l0) (v x : Int) : Int := match q01 g v x with
 | [] => -1
 | a :: _ => a
theorem q06 (g : l0) (v x : Int) (hx : B7 x) (hl : g.2.2.length ≤ 1099511627776) : B6 g v x = some (B5 g v x) := by
 have h := q0e g v x hx hl
 obtain ⟨r, n, es⟩ := g
 unfold B6 B5
 simp only [h, Option.bind_some]
 cases q01 (r, n, es) v x with
 | nil => rfl
 | cons a l => rfl
theorem r06 (g : l0) (v x : Int) (hx : B7 x) (hl : g.2.2.length ≤ 1099511627776) : C6 g v x = some (B5 g v x) := by
 have h := r0e g v x hx hl
 obtain ⟨r, n, es⟩ := g
 unfold C6 B5
 simp only [h, Option.bind_some]
 cases q01 (r, n, es) v x with
 | nil => rfl
 | cons a l => rfl
theorem N0h {g : l0} {v x y : Int} (h : y ∈ q01 g v x) : y ∈ Y9 v x g.2.2 := by
 rcases (W8 Q00 y _ []).1 h with h | h
 ·cases h
 ·exact h
theorem G0a {v x y : Int} : ∀ {es : List D0}, y ∈ Y9 v x es ↔ ∃ e ∈ es, (0 < x ∧ e.2.1 = x ∧ e.1 = v ∧ y = e.2.2) ∨ (x < 0 ∧ e.2.1 = -x ∧ e.2.2 = v ∧ y = e.1)
 | [] => by simp [Y9]
 | e :: es => by
  simp only [Y9, List.mem_append, G0a (es := es), List.mem_cons, exists_eq_or_imp]
  refine or_congr ?_ Iff.rfl
  unfold Z0b
  split
  ·rename_i h
   simp only [List.mem_singleton]
   constructor
   ·rintro rfl; exact .inl ⟨h.1, h.2.1, h.2.2, rfl⟩
   ·rintro (⟨_, _, _, h4⟩ | ⟨h1, _⟩)
    ·exact h4
    ·omega
  ·rename_i h
   split
   ·rename_i h2
    simp only [List.mem_singleton]
    constructor
    ·rintro rfl; exact .inr ⟨h2.1, h2.2.1, h2.2.2, rfl⟩
    ·rintro (⟨h1, _⟩ | ⟨_, _, _, h4⟩)
     ·omega
     ·exact h4
   ·rename_i h2
    constructor
    ·intro h; cases h
    ·rintro (⟨h3, h4, h5, _⟩ | ⟨h3, h4, h5, _⟩)
     ·exact absurd ⟨h3, h4, h5⟩ h
     ·exact absurd ⟨h3, h4, h5⟩ h2
def inG (g : l0) : Prop := ∀ e ∈ g.2.2, (0 ≤ e.1 ∧ e.1 < g.2.1) ∧ (0 ≤ e.2.2 ∧ e.2.2 < g.2.1) ∧ 1 ≤ e.2.1 ∧ e.2.1 ≤ g.1
theorem T1 {g : l0} (h : M0 g = true) : inG g ∧ (1 ≤ g.1 ∧ g.1 ≤ 3) ∧ (1 ≤ g.2.1 ∧ g.2.1 ≤ 40) ∧ g.2.2.length ≤ 120 := by
 obtain ⟨r, n, es⟩ := g
 simp only [M0, inR, Bool.and_eq_true, decide_eq_true_eq] at h
 obtain ⟨⟨⟨h1, h2⟩, h3⟩, h4⟩ := h
 refine ⟨fun e he => ?_, h2, h3, h4⟩
 obtain ⟨i, hi⟩ := List.getElem?_of_mem he
 have hb := L0f h1 i (Nat.zero_le _) (by have := (List.getElem?_eq_some_iff.1 hi).1; simp only at this; omega)
 rw [p07 hi] at hb
 simp only [Bool.or_eq_false_iff, Bool.not_eq_false', H01, inR, Bool.and_eq_true, decide_eq_true_eq] at hb
 obtain ⟨⟨⟨⟨b1, b2⟩, b3, b4⟩, b5, b6⟩, _⟩ := hb
 rw [w64 (by omega) (by omega)] at b2 b4
 simp only
 exact ⟨⟨b1, by omega⟩, ⟨b3, by omega⟩, b5, b6⟩
theorem J09 {g : l0} (hg : inG g) (v x : Int) : B5 g v x = -1 ∨ (0 ≤ B5 g v x ∧ B5 g v x < g.2.1) := by
 unfold B5
 cases hs : q01 g v x with
 | nil => exact .inl rfl
 | cons a l =>
  right
  have ha : a ∈ q01 g v x := by rw [hs]; exact List.mem_cons_self ..
  obtain ⟨e, he, h⟩ := G0a.1 (N0h ha)
  have := hg e he
  rcases h with ⟨_, _, _, rfl⟩ | ⟨_, _, _, rfl⟩
  ·exact this.2.1
  ·exact this.1
theorem U03 {g : l0} (hg : inG g) (hn : g.2.1 ≤ 40) (v x : Int) : F0 (B5 g v x) := by
 rcases J09 hg v x with h | h
 ·rw [h]; decide
 ·constructor <;> omega
def s02 (a b : D0) : Bool := decide (a.2.1 = b.2.1) && (decide (a.1 = b.1) || decide (a.2.2 = b.2.2))
theorem p08 (a b : D0) : s02 a b = s02 b a := by
 unfold s02
 have h : ∀ x y : Int, decide (x = y) = decide (y = x) := fun x y => decide_eq_decide.2 ⟨Eq.symm, Eq.symm⟩
 rw [h a.2.1, h a.1, h a.2.2]
def noC (a : D0) : List D0 → Bool
 | [] => true
 | b :: l => !s02 a b && noC a l
def T05 : List D0 → Bool
 | [] => true
 | a :: l => noC a l && T05 l
theorem a0d (a : D0) : ∀ l, noC a l = true ↔ ∀ b ∈ l, s02 a b = false
 | [] => by simp [noC]
 | b :: l => by simp [noC, a0d a l]
theorem q08 : ∀ l, T05 l = true ↔ l.Pairwise fun a b => s02 a b = false
 | [] => by simp [T05]
 | a :: l => by simp [T05, q08 l, a0d, List.pairwise_cons]
def H0a : List D0 → List D0 → Bool
 | _, [] => true
 | pre, a :: l => noC a pre && H0a (pre ++ [a]) l
theorem a0c : ∀ (l pre : List D0), H0a pre l = true ↔ l.Pairwise (fun a b => s02 a b = false) ∧ ∀ a ∈ l, ∀ b ∈ pre, s02 a b = false
 | [], pre => by simp [H0a]
 | a :: l, pre => by
  simp only [H0a, Bool.and_eq_true, a0d, a0c l, List.pairwise_cons]
  constructor
  ·rintro ⟨h2, h3, h4⟩
   refine ⟨⟨fun b hb => by rw [p08]; exact h4 b hb a (by simp), h3⟩, fun x hx b hb => ?_⟩
   rcases List.mem_cons.1 hx with rfl | hx
   ·exact h2 b hb
   ·exact h4 x hx b (by simp [hb])
  ·rintro ⟨⟨h2, h3⟩, h4⟩
   refine ⟨fun b hb => h4 a (List.mem_cons_self ..) b hb, h3, fun x hx b hb => ?_⟩
   rcases List.mem_append.1 hb with hb | hb
   ·exact h4 x (List.mem_cons_of_mem _ hx) b hb
   ·rw [List.mem_singleton.1 hb, p08]; exact h2 x hx
theorem O0h (l : List D0) : H0a [] l = T05 l := by
 rw [Bool.eq_iff_iff, a0c, q08]
 simp
def P0 (g : l0) : Bool := M0 g && T05 g.2.2
theorem l0k (a0 a1 a2 b0 b1 b2 : Int) : (bif decide (a1 = b1) then (bif decide (a0 = b0) then true else decide (a2 = b2)) else false) = s02 (a0, a1, a2) (b0, b1, b2) := by
 unfold s02
 cases decide (a1 = b1) <;> cases decide (a0 = b0) <;> rfl
theorem t07 (l : List D0) (a : D0) (hl : l.length ≤ 140737488355328) : ∀ (d k fuel : Nat), k + d = l.length → d < fuel →
  H5 l a.2.1 a.1 a.2.2 fuel (k : Int) = some (bif noC a (l.drop k) then .inr () else .inl false)
 | d, k, 0, hd, hf => by omega
 | 0, k, fuel + 1, hd, hf => by
  rw [H5.eq_2, if_neg (by simp; omega), E1 (by omega)]
  rfl
 | d + 1, k, fuel + 1, hd, hf => by
  have hk : k < l.length := by omega
  have hx := V5 hk
  generalize l[k] = x at hx
  obtain ⟨a0, a1, a2⟩ := a
  obtain ⟨b0, b1, b2⟩ := x
  rw [H5.eq_2, if_pos (by simp; omega), O3 hx, Option.bind_some, O1 hx]
  simp only [l0k, noC]
  cases hc : s02 (a0, a1, a2) (b0, b1, b2) with
  | true => rfl
  | false =>
   rw [if_neg (by simp), A2 hk (by omega), t07 l (a0, a1, a2) hl d (k + 1) fuel (by omega) (by omega)]
   simp
theorem s06 {α : Type} {xs : List α} {k : Nat} (h : k ≤ xs.length) : n06 xs (k : Int) (xs.length : Int) = some (xs.drop k) := by
 unfold n06
 rw [if_pos ⟨by omega, by omega, by omega⟩]
 simp
theorem u07 (l : List D0) (hl : l.length ≤ 140737488355328) : ∀ (d k fuel : Nat), k + d = l.length → d < fuel →
  I5 l fuel (k : Int) = some (bif T05 (l.drop k) then .inr () else .inl false)
 | d, k, 0, hd, hf => by omega
 | 0, k, fuel + 1, hd, hf => by
  rw [I5.eq_2, if_neg (by simp; omega), E1 (by omega)]
  rfl
 | d + 1, k, fuel + 1, hd, hf => by
  have hk : k < l.length := by omega
  have hx := V5 hk
  generalize l[k] = x at hx
  have h0 := t07 (l.drop (k + 1)) x (by simp; omega) (l.drop (k + 1)).length 0 S0 (by omega) (W0 (by simp; omega))
  rw [show ((0 : Nat) : Int) = 0 from rfl, List.drop_zero] at h0
  obtain ⟨a0, a1, a2⟩ := x
  rw [I5.eq_2, if_pos (by simp; omega), O3 hx, Option.bind_some, O1 hx]
  simp only [A2 hk (show l.length ≤ 9223372036854775807 by omega), s06 (show k + 1 ≤ l.length by omega), Option.bind_some]
  simp only at h0
  rw [h0, Option.bind_some]
  simp only [T05]
  cases noC (a0, a1, a2) (l.drop (k + 1)) with
  | false => rfl
  | true =>
   simp only [cond_true, t0b, Bool.true_and]
   exact u07 l hl d (k + 1) fuel (by omega) (by omega)
theorem Z9 (g : l0) (hl : g.2.2.length ≤ 140737488355328) : S5 g = some (P0 g) := by
 have hG := I8 g hl
 obtain ⟨r, n, es⟩ := g
 unfold S5 P0
 simp only [hG, Option.bind_some]
 cases M0 (r, n, es) with
 | false => rfl
 | true =>
  have h := u07 es hl es.length 0 S0 (by omega) (W0 hl)
  rw [show ((0 : Nat) : Int) = 0 from rfl, List.drop_zero] at h
  rw [if_neg (by simp), h, Option.bind_some]
  cases T05 es <;> rfl
theorem v07 (l : List D0) (hl : l.length ≤ 140737488355328) {i : Nat} {a : D0} (ha : l[i]? = some a) : ∀ (d k fuel : Nat), k + d = i → d < fuel →
  F5 (i : Int) l fuel (k : Int) = some (bif noC a ((l.take i).drop k) then .inr () else .inl false)
 | d, k, 0, hd, hf => by omega
 | 0, k, fuel + 1, hd, hf => by
  have := (List.getElem?_eq_some_iff.1 ha).1
  rw [F5.eq_2, if_neg (by simp; omega), E1 (by simp; omega)]
  rfl
 | d + 1, k, fuel + 1, hd, hf => by
  have hi := (List.getElem?_eq_some_iff.1 ha).1
  have hk : k < l.length := by omega
  have hx := V5 hk
  have hx2 : (l.take i)[k]? = some l[k] := by rw [List.getElem?_take, if_pos (by omega)]; exact hx
  have ih := v07 l hl ha d (k + 1) fuel (by omega) (by omega)
  generalize l[k] = x at hx hx2
  obtain ⟨a0, a1, a2⟩ := a
  obtain ⟨b0, b1, b2⟩ := x
  rw [F5.eq_2, if_pos (by simp; omega), O3 ha, Option.bind_some, O1 hx2]
  simp only [O3 hx, Option.bind_some, l0k, noC]
  cases hc : s02 (a0, a1, a2) (b0, b1, b2) with
  | true => rfl
  | false =>
   rw [if_neg (by simp), A2 hk (by omega), ih]
   simp
theorem m0k {α : Type} {xs : List α} {k : Nat} {x : α} (h : xs[k]? = some x) : xs.take (k + 1) = xs.take k ++ [x] := by
 obtain ⟨hk, rfl⟩ := List.getElem?_eq_some_iff.1 h
 exact List.take_succ_eq_append_getElem hk
theorem w07 (r n : Int) (l : List D0) (hg : M0 (r, n, l) = true) (hl : l.length ≤ 140737488355328) : ∀ (d k fuel : Nat), k + d = l.length → d < fuel →
  F4 l r n fuel (k : Int) = some (bif H0a (l.take k) (l.drop k) then .inr () else .inl false)
 | d, k, 0, hd, hf => by omega
 | 0, k, fuel + 1, hd, hf => by
  have e : decide ((k : Int) < (l.length : Int)) = false := by simp; omega
  rw [F4.eq_2, e, M5, Option.bind_some, if_neg (by simp), E1 (by omega)]
  rfl
 | d + 1, k, fuel + 1, hd, hf => by
  have hk : k < l.length := by omega
  have hx := V5 hk
  generalize l[k] = x at hx
  have h0 := v07 l hl hx k 0 S0 (by omega) (W0 (by omega))
  rw [show ((0 : Nat) : Int) = 0 from rfl, List.drop_zero] at h0
  have e : decide ((k : Int) < (l.length : Int)) = true := by simp; omega
  rw [F4.eq_2, e, J2, Q5 (r, n, l) hl, Option.bind_some, hg, if_pos (show (bif true then true else false) = true from rfl), h0, Option.bind_some, O1 hx]
  simp only [H0a]
  cases noC x (l.take k) with
  | false => rfl
  | true =>
   simp only [cond_true, t0b, Bool.true_and]
   rw [A2 hk (by omega), ← m0k hx]
   exact w07 r n l hg hl d (k + 1) fuel (by omega) (by omega)
theorem N8 (g : l0) (hl : g.2.2.length ≤ 140737488355328) : R5 g = some (P0 g) := by
 have hG := Q5 g hl
 obtain ⟨r, n, es⟩ := g
 unfold R5 P0
 simp only [hG, Option.bind_some]
 cases hg : M0 (r, n, es) with
 | false =>
  have h1 : F4 es r n S0 0 = some (.inr ()) := by
   rw [show S0 = (S0 - 1) + 1 from rfl, F4.eq_2]
   by_cases e : decide ((0 : Int) < (es.length : Int)) = true
   ·rw [e, J2, hG, Option.bind_some, hg, if_neg (by simp)]
   ·rw [Bool.not_eq_true] at e
    rw [e, M5, Option.bind_some, if_neg (by simp)]
  rw [h1]
  rfl
 | true =>
  have h := w07 r n es hg hl es.length 0 S0 (by omega) (W0 hl)
  rw [show ((0 : Nat) : Int) = 0 from rfl, List.drop_zero, List.take_zero, O0h] at h
  rw [h, Option.bind_some]
  cases T05 es <;> rfl
def T8 (g : l0) : Int → List Int → Int × Nat
 | v, [] => (v, 0)
 | v, x :: w => if B5 g v x < 0 then (v, 0) else ((T8 g (B5 g v x) w).1, (T8 g (B5 g v x) w).2 + 1)
theorem I0a (g : l0) : ∀ (w : List Int) (v : Int), (T8 g v w).2 ≤ w.length
 | [], v => by simp [T8]
 | x :: w, v => by
  have := I0a g w (B5 g v x)
  unfold T8
  split
  ·simp
  ·simp only [List.length_cons]; omega
theorem J0a {g : l0} (hg : inG g) (hn : g.2.1 ≤ 40) : ∀ (w : List Int) (v : Int), F0 v → F0 (T8 g v w).1
 | [], v, h => h
 | x :: w, v, h => by
  unfold T8
  split
  ·exact h
  ·exact J0a hg hn w _ (U03 hg hn v x)
def R0j (q : Int × Nat) (n : Nat) (k : Nat) : (Int × Int) ⊕ Int := bif decide (q.2 < n) then .inl (q.1, ((k + q.2 : Nat) : Int)) else .inr q.1
theorem g09 (r n : Int) (es : List D0) (hg : inG (r, n, es)) (hn : n ≤ 40) (hes : es.length ≤ 1099511627776) (w : List Int) (hw : ∀ x ∈ w, B7 x) (hl : w.length ≤ 140737488355328) : ∀ (d k fuel : Nat) (v : Int), k + d = w.length → d < fuel →
  S4 w r n es fuel v (k : Int) = some (R0j (T8 (r, n, es) v (w.drop k)) d k)
 | d, k, 0, v, hd, hf => by omega
 | 0, k, fuel + 1, v, hd, hf => by
  rw [S4.eq_2, if_neg (by simp; omega), E1 (by omega)]
  rfl
 | d + 1, k, fuel + 1, v, hd, hf => by
  have hk : k < w.length := by omega
  have hx := V5 hk
  have hxm := hw _ (List.getElem_mem hk)
  generalize w[k] = x at hx hxm
  rw [S4.eq_2, if_pos (by simp; omega), O3 hx, Option.bind_some, r06 (r, n, es) v x hxm hes, Option.bind_some, N0 (U03 hg hn v x), Option.bind_some, O1 hx]
  unfold T8
  by_cases h : B5 (r, n, es) v x < 0
  ·rw [if_pos (by simpa using h), if_pos h]
   simp [R0j]
  ·rw [if_neg (by simpa using h), if_neg h, A2 hk (by omega), g09 r n es hg hn hes w hw hl d (k + 1) fuel _ (by omega) (by omega)]
   unfold R0j
   simp only [Nat.add_lt_add_iff_right]
   congr 2
   simp only [Nat.add_assoc, Nat.add_comm 1]
theorem P0k (g : l0) (hg : inG g) (hn : g.2.1 ≤ 40) (hes : g.2.2.length ≤ 1099511627776) (v : Int) (w : List Int) (hw : ∀ x ∈ w, B7 x) (hl : w.length ≤ 140737488355328) : B8 g v w = some ((T8 g v w).1, (((T8 g v w).2 : Nat) : Int)) := by
 obtain ⟨r, n, es⟩ := g
 unfold B8
 have h := g09 r n es hg hn hes w hw hl w.length 0 S0 v (by omega) (W0 hl)
 rw [show ((0 : Nat) : Int) = 0 from rfl, List.drop_zero] at h
 have hle := I0a (r, n, es) w v
 simp only [h, Option.bind_some, R0j]
 by_cases hc : (T8 (r, n, es) v w).2 < w.length
 ·simp [hc, l7]
 ·have : (T8 (r, n, es) v w).2 = w.length := by omega
  simp [this, l7]
theorem h09 (r n : Int) (es : List D0) (hg : inG (r, n, es)) (hn : n ≤ 40) (hes : es.length ≤ 1099511627776) (w : List Int) (hw : ∀ x ∈ w, B7 x) (hl : w.length ≤ 140737488355328) : ∀ (d k fuel : Nat) (v : Int), k + d = w.length → d < fuel →
  G5 w r n es fuel v (k : Int) = some (bif decide ((T8 (r, n, es) v (w.drop k)).2 < d) then .inl (-1, false) else .inr (T8 (r, n, es) v (w.drop k)).1)
 | d, k, 0, v, hd, hf => by omega
 | 0, k, fuel + 1, v, hd, hf => by
  rw [G5.eq_2, if_neg (by simp; omega), E1 (by omega)]
  rfl
 | d + 1, k, fuel + 1, v, hd, hf => by
  have hk : k < w.length := by omega
  have hx := V5 hk
  have hxm := hw _ (List.getElem_mem hk)
  generalize w[k] = x at hx hxm
  rw [G5.eq_2, if_pos (by simp; omega), O3 hx, Option.bind_some, q06 (r, n, es) v x hxm hes, Option.bind_some, N0 (U03 hg hn v x), Option.bind_some, O1 hx]
  unfold T8
  by_cases h : B5 (r, n, es) v x < 0
  ·rw [if_pos (by simpa using h), if_pos h]
   simp
  ·rw [if_neg (by simpa using h), if_neg h, A2 hk (by omega), h09 r n es hg hn hes w hw hl d (k + 1) fuel _ (by omega) (by omega)]
   simp only [Nat.add_lt_add_iff_right]
theorem Q0k (g : l0) (hf : P0 g = true) (v : Int) (hv : 0 ≤ v ∧ v < g.2.1) (w : List Int) (hw : ∀ x ∈ w, B7 x) (hl : w.length ≤ 140737488355328) :
  d9 g v w = some (bif decide ((T8 g v w).2 < w.length) then (-1, false) else ((T8 g v w).1, true)) := by
 have hgr : M0 g = true := by unfold P0 at hf; simp only [Bool.and_eq_true] at hf; exact hf.1
 obtain ⟨hg, _, hn, hes⟩ := T1 hgr
 have hF := N8 g (by omega)
 obtain ⟨r, n, es⟩ := g
 simp only at hv hn hes
 unfold d9
 have h := h09 r n es hg hn.2 (by omega) w hw hl w.length 0 S0 v (by omega) (W0 hl)
 rw [show ((0 : Nat) : Int) = 0 from rfl, List.drop_zero] at h
 have hr : inR 0 (n - 1) v = true := by simp only [inR, Bool.and_eq_true, decide_eq_true_eq]; omega
 simp only [hF, hf, Option.bind_some, Bool.not_true, Bool.not_false, J2, G01, w64 (show -9223372036854775808 ≤ n - 1 by omega) (show n - 1 ≤ 9223372036854775807 by omega), hr, cond_false, Bool.false_eq_true, if_false, h]
 cases decide ((T8 (r, n, es) v w).2 < w.length) <;> rfl
theorem C4 {g : l0} (h : P0 g = true) : inG g ∧ (1 ≤ g.1 ∧ g.1 ≤ 3) ∧ (1 ≤ g.2.1 ∧ g.2.1 ≤ 40) ∧ g.2.2.length ≤ 120 := by
 unfold P0 at h
 simp only [Bool.and_eq_true] at h
 exact T1 h.1
end Go.Proofs.YtfdlgbfeceodeaaGreat
namespace Go.Proofs.YtfdlgbfeceodeaaGreat
open Go.H
set_option linter.unusedVariables false
set_option linter.unusedSimpArgs false
def S0j (v : Int) (e : D0) : Nat := (if e.1 = v then 1 else 0) + (if e.2.2 = v then 1 else 0)
def V03 (v : Int) : List D0 → Nat
 | [] => 0
 | e :: r => S0j v e + V03 v r
theorem T0j (v : Int) (e : D0) : S0j v e ≤ 2 := by unfold S0j; split <;> split <;> omega
theorem b0d (v : Int) : ∀ l, V03 v l ≤ 2 * l.length
 | [] => by simp [V03]
 | e :: r => by have := T0j v e; have := b0d v r; simp only [V03, List.length_cons]; omega
theorem K0a (es : List D0) (v : Int) (hl : es.length ≤ 1099511627776) : ∀ (d k fuel acc : Nat), k + d = es.length → d < fuel → acc ≤ 2 * k →
  V2 es v fuel (acc : Int) (k : Int) = some ((acc + V03 v (es.drop k) : Nat) : Int)
 | d, k, 0, acc, hd, hf, ha => by omega
 | 0, k, fuel + 1, acc, hd, hf, ha => by
  rw [V2.eq_2, if_neg (by simp; omega), E1 (by omega)]; rfl
 | d + 1, k, fuel + 1, acc, hd, hf, ha => by
  have hk : k < es.length := by omega
  have he := V5 hk
  generalize es[k] = e at he
  obtain ⟨a, l, b⟩ := e
  have ih := fun acc' h => K0a es v hl d (k + 1) fuel acc' (by omega) (by omega) h
  have w1 : IntKind.i64.wrap ((acc : Int) + 1) = ((acc + 1 : Nat) : Int) := by rw [w64 (by omega) (by omega)]; rfl
  have w2 : IntKind.i64.wrap (((acc + 1 : Nat) : Int) + 1) = ((acc + 2 : Nat) : Int) := by rw [w64 (by omega) (by omega)]; rfl
  rw [V2.eq_2, if_pos (by simp; omega), O3 he, O1 he]
  simp only [Option.bind_some, V03, S0j, A2 hk (show es.length ≤ 9223372036854775807 by omega)]
  by_cases c1 : a = v
  ·rw [if_pos (by simpa using c1), if_pos c1]
   by_cases c2 : b = v
   ·rw [if_pos (by simpa using c2), if_pos c2, w1, w2, ih _ (by omega)]; congr 2; omega
   ·rw [if_neg (by simpa using c2), if_neg c2, w1, ih _ (by omega)]; congr 2; omega
  ·rw [if_neg (by simpa using c1), if_neg c1]
   by_cases c2 : b = v
   ·rw [if_pos (by simpa using c2), if_pos c2, w1, ih _ (by omega)]; congr 2; omega
   ·rw [if_neg (by simpa using c2), if_neg c2, ih _ (by omega)]; congr 2; omega
theorem L0a (es : List D0) (v : Int) : ∀ (fuel : Nat) (x y : Int), G4 es v fuel x y = V2 es v fuel x y
 | 0, x, y => rfl
 | fuel + 1, x, y => by
  rw [G4.eq_2, V2.eq_2]
  simp only [L0a es v fuel]
  by_cases c : (decide (y < ((es.length : Nat) : Int))) = true
  ·rw [if_pos c, if_pos c]
   cases hg : gi es y with
   | none => rfl
   | some e => simp only [Option.bind_some]
  ·rw [if_neg c, if_neg c]
theorem b0c (g : l0) (v : Int) (hl : g.2.2.length ≤ 1099511627776) : y8 g v = some ((V03 v g.2.2 : Nat) : Int) := by
 obtain ⟨r, n, es⟩ := g
 unfold y8
 have h := K0a es v hl es.length 0 S0 0 (by omega) (W0 (by simp only at hl; omega)) (Nat.zero_le _)
 rw [show ((0 : Nat) : Int) = 0 from rfl, List.drop_zero, Nat.zero_add] at h
 simp only [h, Option.bind_some]
theorem P0h (g : l0) (v : Int) (hl : g.2.2.length ≤ 1099511627776) : g9 g v = some ((V03 v g.2.2 : Nat) : Int) := by
 have h := b0c g v hl
 obtain ⟨r, n, es⟩ := g
 unfold g9
 unfold y8 at h
 simp only [L0a] at h ⊢
 exact h
theorem c0d (x y : D0) : eqE x y = true ↔ x = y := by simp [eqE]
def goE (x : D0) : List D0 → Bool × List D0
 | [] => (false, [])
 | y :: l => if K0 x y < 0 then (true, x :: y :: l) else if K0 x y = 0 then (true, y :: l) else ((goE x l).1, y :: (goE x l).2)
theorem N0g (x : D0) : ∀ l, R8 K0 x l = bif (goE x l).1 then (goE x l).2 else (goE x l).2 ++ [x]
 | [] => rfl
 | y :: l => by
  have ih := N0g x l
  unfold R8 goE
  by_cases c1 : K0 x y < 0
  ·rw [if_pos c1, if_pos c1]; rfl
  ·rw [if_neg c1, if_neg c1]
   by_cases c2 : K0 x y = 0
   ·rw [if_pos c2, if_pos c2]; rfl
   ·rw [if_neg c2, if_neg c2, ih]; cases (goE x l).1 <;> rfl
theorem r08 (l : List D0) (w0 w1 w2 : Int) (hl : l.length ≤ 1099511627776) : ∀ (d k fuel : Nat) (acc : List D0), k + d = l.length → d < fuel → acc.length ≤ k + 1 →
  S3 l w0 w1 w2 fuel true (k : Int) acc = some (true, acc ++ l.drop k)
 | d, k, 0, acc, hd, hf, ha => by omega
 | 0, k, fuel + 1, acc, hd, hf, ha => by
  rw [S3.eq_2, if_neg (by simp; omega), E1 (by omega), List.append_nil]
 | d + 1, k, fuel + 1, acc, hd, hf, ha => by
  have hk : k < l.length := by omega
  have he := V5 hk
  generalize l[k] = e at he
  obtain ⟨a, x, b⟩ := e
  have ih := r08 l w0 w1 w2 hl d (k + 1) fuel (acc ++ [(a, x, b)]) (by omega) (by omega) (by simp; omega)
  rw [S3.eq_2, if_pos (by simp; omega), O1 he]
  simp only [O3 he, Option.bind_some, B00, N0 (I09 _ _), A2 hk (show l.length ≤ 9223372036854775807 by omega), Bool.not_true]
  have hb : ∀ b : Bool, (bif b then false else false) = false := fun b => by cases b <;> rfl
  simp only [hb, Bool.false_eq_true, if_false]
  rw [N0 (by simp; omega), Option.bind_some, ih]
  simp
theorem M0a (l : List D0) (w0 w1 w2 : Int) (hl : l.length ≤ 1099511627776) : ∀ (d k fuel : Nat) (acc : List D0), k + d = l.length → d < fuel → acc.length = k →
  S3 l w0 w1 w2 fuel false (k : Int) acc = some ((goE (w0, w1, w2) (l.drop k)).1, acc ++ (goE (w0, w1, w2) (l.drop k)).2)
 | d, k, 0, acc, hd, hf, ha => by omega
 | 0, k, fuel + 1, acc, hd, hf, ha => by
  rw [S3.eq_2, if_neg (by simp; omega), E1 (by omega)]; simp [goE]
 | d + 1, k, fuel + 1, acc, hd, hf, ha => by
  have hk : k < l.length := by omega
  have he := V5 hk
  generalize l[k] = e at he
  obtain ⟨a, x, b⟩ := e
  have ih := M0a l w0 w1 w2 hl d (k + 1) fuel (acc ++ [(a, x, b)]) (by omega) (by omega) (by simp; omega)
  have on1 := r08 l w0 w1 w2 hl d (k + 1) fuel (acc ++ [(a, x, b)]) (by omega) (by omega) (by simp; omega)
  have on2 := r08 l w0 w1 w2 hl d (k + 1) fuel ((acc ++ [(w0, w1, w2)]) ++ [(a, x, b)]) (by omega) (by omega) (by simp; omega)
  rw [S3.eq_2, if_pos (by simp; omega), O1 he]
  simp only [O3 he, Option.bind_some, B00, N0 (I09 _ _), A2 hk (show l.length ≤ 9223372036854775807 by omega), Bool.not_true, Bool.not_false, goE]
  show _ = _
  unfold C0a
  by_cases c1 : K0 (w0, w1, w2) (a, x, b) = 0
  ·rw [if_pos (by simpa using c1), if_neg (by simp [c1]), if_neg (by omega), if_pos c1]
   rw [N0 (by simp; omega), Option.bind_some, on1]; simp
  ·rw [if_neg (by simpa using c1)]
   by_cases c2 : K0 (w0, w1, w2) (a, x, b) < 0
   ·rw [if_pos (by simp [c2]), if_pos c2, N0 (by simp; omega), Option.bind_some, N0 (by simp; omega), Option.bind_some, on2]; simp
   ·rw [if_neg (by simp [c2]), if_neg c2, if_neg c1, N0 (by simp; omega), Option.bind_some, ih]; simp
theorem W03 (l : List D0) (e : D0) (hl : l.length ≤ 1099511627776) : D6 l e = some (R8 K0 e l) := by
 obtain ⟨w0, w1, w2⟩ := e
 unfold D6
 have h := M0a l w0 w1 w2 hl l.length 0 S0 [] (by omega) (W0 (by omega)) rfl
 rw [show ((0 : Nat) : Int) = 0 from rfl, List.drop_zero, List.nil_append] at h
 simp only [h, Option.bind_some, N0g]
 have hlen : ∀ l : List D0, (goE (w0, w1, w2) l).2.length ≤ l.length + 1 := fun l => by
  induction l with
  | nil => simp [goE]
  | cons y l ih =>
   unfold goE
   split
   ·simp
   ·split
    ·simp
    ·simp only [List.length_cons]; omega
 have := hlen l
 cases (goE (w0, w1, w2) l).1 with
 | true => rfl
 | false =>
  simp only [Bool.not_false, if_true, cond_false]
  rw [N0 (by simp; omega), Option.bind_some]
theorem T01 (e : D0) : ∀ l : List D0, (R8 K0 e l).length ≤ l.length + 1
 | [] => by simp [R8]
 | y :: l => by
  have := T01 e l
  unfold R8
  split
  ·simp
  ·split
   ·simp
   ·simp only [List.length_cons]; omega
theorem x07 (es : List D0) (hl : es.length ≤ 1099511627776) : L7 es = some (t6 K0 [] es) := by
 unfold L7
 rw [N0 (by simp; omega), Option.bind_some, N0 (by simp; omega), Option.bind_some, List.nil_append]
 exact congrArg some (l0e Y5 c0d es es fun _ => Iff.rfl)
theorem C00 (g : l0) (hl : g.2.2.length ≤ 1099511627776) : L2 g = some g := by
 obtain ⟨r, n, es⟩ := g
 unfold L2
 simp only
 rw [N0 (by simp only [List.length_nil, Nat.zero_add]; simp only at hl; omega)]; rfl
theorem a00 (g : l0) (hl : g.2.2.length ≤ 1099511627776) : V1 g = some g := by
 obtain ⟨r, n, es⟩ := g
 unfold V1
 simp only
 rw [N0 (by simp only [List.length_nil, Nat.zero_add]; simp only at hl; omega)]; rfl
end Go.Proofs.YtfdlgbfeceodeaaGreat
namespace Go.Proofs.YtfdlgbfeceodeaaGreat
open Go.H
set_option linter.unusedVariables false
set_option linter.unusedSimpArgs false
inductive Rch (es : List D0) (v : Int) : Int → Prop
 | base : Rch es v v
 | fwd {e : D0} : e ∈ es → Rch es v e.1 → Rch es v e.2.2
 | bwd {e : D0} : e ∈ es → Rch es v e.2.2 → Rch es v e.1
theorem Rch.closed {es : List D0} {v : Int} : ∀ e ∈ es, Rch es v e.1 ↔ Rch es v e.2.2 := fun e he => ⟨.fwd he, .bwd he⟩
theorem Rch.sub {es : List D0} {v : Int} {P : Int → Prop} (hv : P v) (hc : ∀ e ∈ es, P e.1 ↔ P e.2.2) : ∀ {x}, Rch es v x → P x
 | _, .base => hv
 | _, .fwd he h => (hc _ he).1 (Rch.sub hv hc h)
 | _, .bwd he h => (hc _ he).2 (Rch.sub hv hc h)
def r8 (S : List Bool) (i : Int) : Bool := S.getD i.toNat false
def stJ (S : List Bool) (e : D0) : List Bool := (S.set e.1.toNat true).set e.2.2.toNat true
def pJ : List D0 → Bool → List Bool → Bool × List Bool
 | [], c, S => (c, S)
 | e :: r, c, S => bif r8 S e.1 == r8 S e.2.2 then pJ r c S else pJ r true (stJ S e)
def cF : List Bool → Nat
 | [] => 0
 | b :: r => (bif b then 0 else 1) + cF r
theorem M0f : ∀ (S : List Bool) (i : Nat), cF (S.set i true) ≤ cF S
 | [], i => by simp [cF]
 | b :: r, 0 => by simp [cF]
 | b :: r, i + 1 => by have := M0f r i; simp only [List.set_cons_succ, cF]; omega
theorem Q0i : ∀ (S : List Bool) (i : Nat), S[i]? = some false → cF (S.set i true) < cF S
 | [], i, h => by simp at h
 | b :: r, 0, h => by simp at h; subst h; simp [cF]
 | b :: r, i + 1, h => by have := Q0i r i (by simpa using h); simp only [List.set_cons_succ, cF]; omega
theorem n0k : ∀ S : List Bool, cF S ≤ S.length
 | [] => by simp [cF]
 | b :: r => by have := n0k r; cases b <;> simp only [cF, List.length_cons, cond_true, cond_false] <;> omega
def inN (n : Nat) (es : List D0) : Prop := ∀ e ∈ es, (0 ≤ e.1 ∧ e.1 < (n : Int)) ∧ (0 ≤ e.2.2 ∧ e.2.2 < (n : Int))
theorem W04 {S : List Bool} {i : Nat} (h : i < S.length) (x : Int) : r8 (S.set i true) x = (decide (x.toNat = i) || r8 S x) := by
 unfold r8
 rw [List.getD_eq_getElem?_getD, List.getD_eq_getElem?_getD, List.getElem?_set]
 by_cases c : i = x.toNat
 ·rw [if_pos c, if_pos (by omega)]; simp [c]
 ·rw [if_neg c]
  have : decide (x.toNat = i) = false := by simp; exact fun e => c e.symm
  rw [this]; rfl
theorem N0f : ∀ (es : List D0) (c : Bool) (S : List Bool), (pJ es c S).2.length = S.length
 | [], c, S => rfl
 | e :: r, c, S => by
  unfold pJ
  cases r8 S e.1 == r8 S e.2.2
  ·simp only [cond_false]; rw [N0f r]; simp [stJ]
  ·simp only [cond_true]; exact N0f r c S
theorem d0d {n : Nat} : ∀ (es : List D0) (c : Bool) (S : List Bool), S.length = n → inN n es → ∀ x, r8 S x = true → r8 (pJ es c S).2 x = true
 | [], c, S, hl, hn, x, h => h
 | e :: r, c, S, hl, hn, x, h => by
  have he := hn e (List.mem_cons_self ..)
  have hr : inN n r := fun e he => hn e (List.mem_cons_of_mem _ he)
  unfold pJ
  cases r8 S e.1 == r8 S e.2.2
  ·simp only [cond_false]
   refine d0d r _ _ (by simp [stJ, hl]) hr x ?_
   rw [stJ, W04 (by rw [List.length_set]; omega), W04 (by omega), h]; simp
  ·simp only [cond_true]; exact d0d r c S hl hr x h
theorem N0a {n : Nat} {P : Int → Prop} : ∀ (es : List D0) (c : Bool) (S : List Bool), S.length = n → inN n es → (∀ e ∈ es, P e.1 ↔ P e.2.2) → (∀ x, 0 ≤ x → r8 S x = true → P x) → ∀ x, 0 ≤ x → r8 (pJ es c S).2 x = true → P x
 | [], c, S, hl, hn, hc, hs, x, h0, h => hs x h0 h
 | e :: r, c, S, hl, hn, hc, hs, x, h0, h => by
  have he := hn e (List.mem_cons_self ..)
  have hr : inN n r := fun e he => hn e (List.mem_cons_of_mem _ he)
  have hc' := fun e he => hc e (List.mem_cons_of_mem _ he)
  have hce := hc e (List.mem_cons_self ..)
  unfold pJ at h
  cases hb : r8 S e.1 == r8 S e.2.2
  ·rw [hb] at h
   refine N0a r true (stJ S e) (by simp [stJ, hl]) hr hc' (fun y hy h => ?_) x h0 h
   rw [stJ, W04 (by rw [List.length_set]; omega), W04 (by omega)] at h
   simp only [Bool.or_eq_true, decide_eq_true_eq] at h
   have hor : P e.1 ∨ P e.2.2 := by
    cases h1 : r8 S e.1
    ·cases h2 : r8 S e.2.2
     ·rw [h1, h2] at hb; cases hb
     ·exact .inr (hs _ he.2.1 h2)
    ·exact .inl (hs _ he.1.1 h1)
   rcases h with h | h | h
   ·have : y = e.2.2 := by omega
    subst this; exact hor.elim hce.1 id
   ·have : y = e.1 := by omega
    subst this; exact hor.elim id hce.2
   ·exact hs y hy h
  ·rw [hb] at h
   exact N0a r c S hl hr hc' hs x h0 h
theorem O0f {n : Nat} : ∀ (es : List D0) (c : Bool) (S : List Bool), S.length = n → inN n es → cF (pJ es c S).2 ≤ cF S ∧ ((pJ es c S).1 = true → c = true ∨ cF (pJ es c S).2 < cF S) ∧ ((pJ es c S).1 = false → c = false ∧ (pJ es c S).2 = S ∧ ∀ e ∈ es, r8 S e.1 = r8 S e.2.2)
 | [], c, S, hl, hn => ⟨Nat.le_refl _, fun h => .inl h, fun h => ⟨h, rfl, fun e he => nomatch he⟩⟩
 | e :: r, c, S, hl, hn => by
  have he := hn e (List.mem_cons_self ..)
  have hr : inN n r := fun e he => hn e (List.mem_cons_of_mem _ he)
  unfold pJ
  cases hb : r8 S e.1 == r8 S e.2.2
  ·simp only [cond_false]
   obtain ⟨h1, h2, h3⟩ := O0f r true (stJ S e) (by simp [stJ, hl]) hr
   have hlt : cF (stJ S e) < cF S := by
    have g : ∀ (x : Int), 0 ≤ x → x < n → r8 S x = false → S[x.toNat]? = some false := fun x hx hx2 hg => by
     have hk : x.toNat < S.length := by omega
     unfold r8 at hg
     rw [List.getD_eq_getElem?_getD, List.getElem?_eq_getElem hk] at hg
     rw [List.getElem?_eq_getElem hk]; simpa using hg
    cases g1 : r8 S e.1
    ·have := Q0i S _ (g _ he.1.1 he.1.2 g1)
     have := M0f (S.set e.1.toNat true) e.2.2.toNat
     unfold stJ; omega
    ·have g2 : r8 S e.2.2 = false := by
      cases g2 : r8 S e.2.2
      ·rfl
      ·rw [g1, g2] at hb; cases hb
     have g3 : (S.set e.1.toNat true)[e.2.2.toNat]? = some false := by
      rw [List.getElem?_set]
      by_cases q : e.1.toNat = e.2.2.toNat
      ·exfalso
       have : e.1 = e.2.2 := by omega
       rw [this, g2] at g1; cases g1
      ·rw [if_neg q]; exact g _ he.2.1 he.2.2 g2
     have := Q0i _ _ g3
     have := M0f S e.1.toNat
     unfold stJ; omega
   refine ⟨by omega, fun _ => .inr (by omega), fun h => ?_⟩
   have := (h3 h).1; cases this
  ·simp only [cond_true]
   obtain ⟨h1, h2, h3⟩ := O0f r c S hl hr
   refine ⟨h1, h2, fun h => ⟨(h3 h).1, (h3 h).2.1, fun e' he' => ?_⟩⟩
   rcases List.mem_cons.1 he' with rfl | he'
   ·simpa using hb
   ·exact (h3 h).2.2 e' he'
theorem giB {S : List Bool} {n : Nat} (hl : S.length = n) {x : Int} (h0 : 0 ≤ x) (h1 : x < n) : gi S x = some (r8 S x) := by
 have hk : x.toNat < S.length := by omega
 have e : x = ((x.toNat : Nat) : Int) := by omega
 have h2 : gi S ((x.toNat : Nat) : Int) = some (r8 S x) := by
  rw [n08, List.getElem?_eq_getElem hk]
  unfold r8
  rw [List.getD_eq_getElem?_getD, List.getElem?_eq_getElem hk]; rfl
 rw [← e] at h2; exact h2
theorem c0c (es : List D0) {n : Nat} (hn : inN n es) (hl : es.length ≤ 9223372036854775807) : ∀ (d k fuel : Nat) (c : Bool) (S : List Bool), S.length = n → k + d = es.length → d < fuel →
  L3 es fuel c (k : Int) S = some (pJ (es.drop k) c S)
 | d, k, 0, c, S, hS, hd, hf => by omega
 | 0, k, fuel + 1, c, S, hS, hd, hf => by
  rw [L3.eq_2, if_neg (by simp; omega), E1 (by omega)]; rfl
 | d + 1, k, fuel + 1, c, S, hS, hd, hf => by
  have hk : k < es.length := by omega
  have he := V5 hk
  have hin := hn _ (List.mem_of_getElem? he)
  generalize es[k] = e at he hin
  obtain ⟨a, l, b⟩ := e
  have ih := fun c' S' h => c0c es hn hl d (k + 1) fuel c' S' h (by omega) (by omega)
  rw [L3.eq_2, if_pos (by simp; omega), O1 he]
  simp only [O3 he, Option.bind_some, giB hS hin.1.1 hin.1.2, giB hS hin.2.1 hin.2.2, A2 hk hl, giB (show (S.set a.toNat true).length = n by simp [hS]) hin.2.1 hin.2.2, pJ]
  cases hb : r8 S a == r8 S b
  ·simp only [Bool.not_false, if_true, cond_false]
   exact ih _ _ (by simp [hS])
  ·simp only [Bool.not_true, Bool.false_eq_true, if_false, cond_true]
   exact ih _ _ hS
theorem d0c (es : List D0) {n : Nat} (hn : inN n es) (hl : es.length ≤ 9223372036854775806) : ∀ (m fuel : Nat) (S : List Bool), S.length = n → cF S ≤ m → m + 1 < fuel →
  ∃ S', j4 es fuel true S = some S' ∧ S'.length = n ∧ (∀ x, r8 S x = true → r8 S' x = true) ∧ (∀ e ∈ es, r8 S' e.1 = r8 S' e.2.2) ∧
   ∀ P : Int → Prop, (∀ e ∈ es, P e.1 ↔ P e.2.2) → (∀ x, 0 ≤ x → r8 S x = true → P x) → ∀ x, 0 ≤ x → r8 S' x = true → P x
 | m, 0, S, hS, hm, hf => by omega
 | m, fuel + 1, S, hS, hm, hf => by
  have h0 := c0c es hn (by omega) es.length 0 S0 false S hS (by omega) (by unfold S0; omega)
  rw [show ((0 : Nat) : Int) = 0 from rfl, List.drop_zero] at h0
  obtain ⟨c1, c2, c3⟩ := O0f es false S hS hn
  have hlen := N0f es false S
  rw [j4.eq_2, if_pos rfl, h0, Option.bind_some]
  have hmono := d0d es false S hS hn
  have hsnd := fun P => N0a (P := P) es false S hS hn
  generalize pJ es false S = q at *
  obtain ⟨c, S'⟩ := q
  simp only at c1 c2 c3 hlen hmono hsnd ⊢
  cases c with
  | true =>
   rcases c2 rfl with h | h
   ·cases h
   ·obtain ⟨S2, e1, e2, e3, e4, e5⟩ := d0c es hn hl (m - 1) fuel S' (by omega) (by omega) (by omega)
    exact ⟨S2, e1, e2, fun x hx => e3 x (hmono x hx), e4, fun P hc hs => e5 P hc (hsnd P hc hs)⟩
  | false =>
   obtain ⟨_, e, hall⟩ := c3 rfl
   subst e
   obtain _ | fuel := fuel
   ·omega
   ·rw [j4.eq_2, if_neg (by simp)]
    exact ⟨_, rfl, hS, fun x h => h, hall, fun P _ hs => hs⟩
theorem R0i (r : Int) (n : Nat) (es : List D0) (hn : inN n es) (hl : es.length ≤ 9223372036854775806) (hn2 : 1 ≤ n) (hn3 : n ≤ 140737488355328) :
  ∃ S, J7 (r, (n : Int), es) 0 = some S ∧ S.length = n ∧ ∀ x, 0 ≤ x → x < (n : Int) → (r8 S x = true ↔ Rch es 0 x) := by
 unfold J7
 simp only [Int.toNat_natCast]
 have hg : gi (List.replicate n (false : Bool)) 0 = some false := by
  rw [T04 (x := false)]; rw [List.getElem?_replicate, if_pos (by omega)]
 rw [N0 (by omega), Option.bind_some, hg, Option.bind_some]
 have hS : ((List.replicate n (false : Bool)).set (0 : Int).toNat true).length = n := by simp
 obtain ⟨S', e1, e2, e3, e4, e5⟩ := d0c es hn hl n S0 _ hS (by have := n0k ((List.replicate n (false : Bool)).set (0 : Int).toNat true); omega) (by unfold S0; omega)
 rw [e1]
 have hb : ∀ x, r8 ((List.replicate n (false : Bool)).set (0 : Int).toNat true) x = decide (x.toNat = 0) := fun x => by
  rw [W04 (by simp; omega)]
  have : r8 (List.replicate n false) x = false := by
   unfold r8
   rw [List.getD_eq_getElem?_getD, List.getElem?_replicate]
   split <;> rfl
  rw [this]; simp
 refine ⟨S', rfl, e2, fun x h0 h1 => ⟨fun h => ?_, fun h => ?_⟩⟩
 ·refine e5 (Rch es 0) Rch.closed (fun y hy h => ?_) x h0 h
  rw [hb] at h
  have : y = 0 := by simp at h; omega
  subst this; exact .base
 ·exact Rch.sub (P := fun x => r8 S' x = true) (e3 0 (by rw [hb]; rfl)) (fun e he => by rw [e4 e he]) h
theorem o0k (l : List Int) (w : Int) (hl : l.length ≤ 9223372036854775807) : ∀ (d k fuel : Nat), k + d = l.length → d < fuel →
  A7 l w fuel (k : Int) = some (if w ∈ l.drop k then .inl true else .inr ())
 | d, k, 0, hd, hf => by omega
 | 0, k, fuel + 1, hd, hf => by
  rw [A7.eq_2, if_neg (by simp; omega), E1 (by omega)]; simp
 | d + 1, k, fuel + 1, hd, hf => by
  have hk : k < l.length := by omega
  have hx := V5 hk
  generalize l[k] = x at hx
  have ih := o0k l w hl d (k + 1) fuel (by omega) (by omega)
  rw [A7.eq_2, if_pos (by simp; omega), O1 hx]
  simp only [O3 hx, Option.bind_some, A2 hk hl, ih, List.mem_cons]
  by_cases c : x = w
  ·rw [if_pos (by simpa using c), if_pos (.inl c.symm)]
  ·rw [if_neg (by simpa using c)]
   by_cases c2 : w ∈ l.drop (k + 1)
   ·rw [if_pos c2, if_pos (.inr c2)]
   ·rw [if_neg c2, if_neg (fun h => h.elim (fun e => c e.symm) c2)]
theorem K09 (l : List Int) (w : Int) (hl : l.length ≤ 9223372036854775807) : K7 l w = some (decide (w ∈ l)) := by
 unfold K7
 have h := o0k l w hl l.length 0 S0 (by omega) (by unfold S0; omega)
 rw [show ((0 : Nat) : Int) = 0 from rfl, List.drop_zero] at h
 rw [h, Option.bind_some]
 by_cases c : w ∈ l
 ·rw [if_pos c]; simp [l7, c]
 ·rw [if_neg c]; simp [l7, c]
def s1 (u : List Int) (e : D0) : List Int := if e.1 ∈ u then R8 D7 e.2.2 u else u
def s2 (u : List Int) (e : D0) : List Int := if e.2.2 ∈ u then R8 D7 e.1 u else u
def pS : List D0 → List Int → List Int
 | [], u => u
 | e :: r, u => pS r (s2 (s1 u e) e)
theorem s08 {u : List Int} {e : D0} {x : Int} : x ∈ s1 u e ↔ x ∈ u ∨ (e.1 ∈ u ∧ x = e.2.2) := by
 unfold s1
 split
 ·rename_i h; rw [r03 Q00]; constructor
  ·rintro (h1 | h1)
   ·exact .inr ⟨h, h1⟩
   ·exact .inl h1
  ·rintro (h1 | ⟨_, h1⟩)
   ·exact .inr h1
   ·exact .inl h1
 ·rename_i h; constructor
  ·exact .inl
  ·rintro (h1 | ⟨h1, _⟩)
   ·exact h1
   ·exact absurd h1 h
theorem t08 {u : List Int} {e : D0} {x : Int} : x ∈ s2 u e ↔ x ∈ u ∨ (e.2.2 ∈ u ∧ x = e.1) := by
 unfold s2
 split
 ·rename_i h; rw [r03 Q00]; constructor
  ·rintro (h1 | h1)
   ·exact .inr ⟨h, h1⟩
   ·exact .inl h1
  ·rintro (h1 | ⟨_, h1⟩)
   ·exact .inr h1
   ·exact .inl h1
 ·rename_i h; constructor
  ·exact .inl
  ·rintro (h1 | ⟨h1, _⟩)
   ·exact h1
   ·exact absurd h1 h
theorem S0i (u : List Int) (e : D0) : (s1 u e).length ≤ u.length + 1 := by
 unfold s1; split
 ·exact v03 _ _
 ·omega
theorem T0i (u : List Int) (e : D0) : (s2 u e).length ≤ u.length + 1 := by
 unfold s2; split
 ·exact v03 _ _
 ·omega
theorem P0f : ∀ (es : List D0) (u : List Int), (pS es u).length ≤ u.length + 2 * es.length
 | [], u => by simp [pS]
 | e :: r, u => by
  have := P0f r (s2 (s1 u e) e)
  have := T0i (s1 u e) e
  have := S0i u e
  simp only [pS, List.length_cons]; omega
theorem X03 : ∀ (es : List D0) (u : List Int) (x : Int), x ∈ u → x ∈ pS es u
 | [], u, x, h => h
 | e :: r, u, x, h => X03 r _ x (t08.2 (.inl (s08.2 (.inl h))))
theorem O0a {P : Int → Prop} : ∀ (es : List D0) (u : List Int), (∀ e ∈ es, P e.1 ↔ P e.2.2) → (∀ x ∈ u, P x) → ∀ x ∈ pS es u, P x
 | [], u, hc, hs => hs
 | e :: r, u, hc, hs => O0a r _ (fun e he => hc e (List.mem_cons_of_mem _ he)) fun x hx => by
  have hce := hc e (List.mem_cons_self ..)
  have h1 : ∀ y ∈ s1 u e, P y := fun y hy => by
   rcases s08.1 hy with h | ⟨h, rfl⟩
   ·exact hs y h
   ·exact hce.1 (hs _ h)
  rcases t08.1 hx with h | ⟨h, rfl⟩
  ·exact h1 x h
  ·exact hce.2 (h1 _ h)
theorem s0e : ∀ (es : List D0) (u : List Int) (e : D0), e ∈ es → e.1 ∈ u ∨ e.2.2 ∈ u → e.1 ∈ pS es u ∧ e.2.2 ∈ pS es u
 | e' :: r, u, e, he, h => by
  simp only [pS]
  rcases List.mem_cons.1 he with rfl | he
  ·have h2 : e.2.2 ∈ s1 u e := by
    rcases h with h | h
    ·exact s08.2 (.inr ⟨h, rfl⟩)
    ·exact s08.2 (.inl h)
   exact ⟨X03 r _ _ (t08.2 (.inr ⟨h2, rfl⟩)), X03 r _ _ (t08.2 (.inl h2))⟩
  ·exact s0e r _ e he (h.imp (fun h => t08.2 (.inl (s08.2 (.inl h)))) fun h => t08.2 (.inl (s08.2 (.inl h))))
def act (es : List D0) (u : List Int) : Nat := es.countP fun e => decide (e.1 ∈ u) && decide (e.2.2 ∈ u)
def clo (es : List D0) (u : List Int) : Prop := ∀ e ∈ es, e.1 ∈ u ↔ e.2.2 ∈ u
theorem R0k (es : List D0) (u : List Int) : act es u ≤ es.length := List.countP_le_length
theorem e0c {α : Type} {p q : α → Bool} : ∀ {l : List α}, (∀ x ∈ l, p x = true → q x = true) → (∃ x ∈ l, p x = false ∧ q x = true) → l.countP p < l.countP q
 | [], _, ⟨x, hx, _⟩ => nomatch hx
 | y :: l, h, ⟨x, hx, h1, h2⟩ => by
  have hle : l.countP p ≤ l.countP q := List.countP_mono_left fun z hz => h z (List.mem_cons_of_mem _ hz)
  rcases List.mem_cons.1 hx with rfl | hx
  ·rw [List.countP_cons_of_neg (by simp [h1]), List.countP_cons_of_pos h2]; omega
  ·have ih := e0c (l := l) (fun z hz => h z (List.mem_cons_of_mem _ hz)) ⟨x, hx, h1, h2⟩
   cases hp : p y
   ·rw [List.countP_cons_of_neg (by simp [hp])]
    have : l.countP q ≤ (y :: l).countP q := by rw [List.countP_cons]; omega
    omega
   ·rw [List.countP_cons_of_pos hp, List.countP_cons_of_pos (h y (List.mem_cons_self ..) hp)]; omega
theorem y07 {es : List D0} {u : List Int} (h : clo es u) (x : Int) : x ∈ pS es u ↔ x ∈ u :=
 ⟨O0a (P := fun x => x ∈ u) es u h (fun _ h => h) x, X03 es u x⟩
theorem U0i {es : List D0} {u : List Int} : clo es (pS es u) ∨ act es u < act es (pS es u) := by
 by_cases h : clo es u
 ·left
  intro e he
  rw [y07 h, y07 h]; exact h e he
 ·right
  have : ∃ e ∈ es, ¬ (e.1 ∈ u ↔ e.2.2 ∈ u) := by
   refine Classical.byContradiction fun hn => h fun e he => ?_
   exact Classical.byContradiction fun h2 => hn ⟨e, he, h2⟩
  obtain ⟨e, he, hne⟩ := this
  refine e0c (fun x hx h => ?_) ⟨e, he, ?_, ?_⟩
  ·simp only [Bool.and_eq_true, decide_eq_true_eq] at h ⊢
   exact ⟨X03 _ _ _ h.1, X03 _ _ _ h.2⟩
  ·rw [Bool.eq_false_iff]
   intro h
   simp only [Bool.and_eq_true, decide_eq_true_eq] at h
   exact hne ⟨fun _ => h.2, fun _ => h.1⟩
  ·have ht : e.1 ∈ u ∨ e.2.2 ∈ u := by
    refine Classical.byContradiction fun hn => hne ⟨fun h => absurd (.inl h) hn, fun h => absurd (.inr h) hn⟩
   have := s0e es u e he ht
   simp only [Bool.and_eq_true, decide_eq_true_eq]; exact this
def itS (es : List D0) : Nat → List Int → List Int
 | 0, u => u
 | j + 1, u => itS es j (pS es u)
theorem O0g (es : List D0) : ∀ (j : Nat) (u : List Int), (itS es j u).length ≤ u.length + j * (2 * es.length)
 | 0, u => by simp [itS]
 | j + 1, u => by have := O0g es j (pS es u); have := P0f es u; simp only [itS, Nat.add_mul, Nat.one_mul]; omega
theorem P0g (es : List D0) : ∀ (j : Nat) (u : List Int), clo es u → clo es (itS es j u)
 | 0, u, h => h
 | j + 1, u, h => P0g es j _ fun e he => by rw [y07 h, y07 h]; exact h e he
theorem Q0g (es : List D0) : ∀ (j : Nat) (u : List Int), clo es (itS es j u) ∨ act es u + j ≤ act es (itS es j u)
 | 0, u => .inr (Nat.le_refl _)
 | j + 1, u => by
  rcases U0i (es := es) (u := u) with h | h
  ·exact .inl (P0g es j _ h)
  ·rcases Q0g es j (pS es u) with h2 | h2
   ·exact .inl h2
   ·right; simp only [itS]; omega
theorem t0e (es : List D0) : ∀ (j : Nat) (u : List Int) (x : Int), x ∈ u → x ∈ itS es j u
 | 0, u, x, h => h
 | j + 1, u, x, h => t0e es j _ x (X03 es u x h)
theorem f0c {P : Int → Prop} (es : List D0) (hc : ∀ e ∈ es, P e.1 ↔ P e.2.2) : ∀ (j : Nat) (u : List Int), (∀ x ∈ u, P x) → ∀ x ∈ itS es j u, P x
 | 0, u, hs => hs
 | j + 1, u, hs => f0c es hc j _ (O0a es u hc hs)
theorem U0j (es : List D0) (v x : Int) : x ∈ itS es (es.length + 1) [v] ↔ Rch es v x := by
 constructor
 ·exact f0c (P := Rch es v) es Rch.closed _ _ (fun y hy => by simp at hy; subst hy; exact .base) x
 ·have hc : clo es (itS es (es.length + 1) [v]) := by
   rcases Q0g es (es.length + 1) [v] with h | h
   ·exact h
   ·have := R0k es (itS es (es.length + 1) [v]); omega
  exact Rch.sub (P := fun x => x ∈ itS es (es.length + 1) [v]) (t0e _ _ _ _ (by simp)) hc
theorem P0a (es : List D0) (hl : es.length ≤ 9223372036854775807) : ∀ (d k fuel : Nat) (u : List Int), k + d = es.length → d < fuel → u.length + 2 * d ≤ 1099511627776 →
  T2 es fuel u (k : Int) = some (pS (es.drop k) u)
 | d, k, 0, u, hd, hf, hu => by omega
 | 0, k, fuel + 1, u, hd, hf, hu => by
  rw [T2.eq_2, if_neg (by simp; omega), E1 (by omega)]; rfl
 | d + 1, k, fuel + 1, u, hd, hf, hu => by
  have hk : k < es.length := by omega
  have he := V5 hk
  generalize es[k] = e at he
  obtain ⟨a, l, b⟩ := e
  have ih := fun u' h => P0a es hl d (k + 1) fuel u' (by omega) (by omega) h
  have g1 := S0i u (a, l, b)
  have g2 := T0i (s1 u (a, l, b)) (a, l, b)
  rw [T2.eq_2, if_pos (by simp; omega), O1 he]
  simp only [O3 he, Option.bind_some, K09 u _ (by omega), A2 hk hl, pS]
  by_cases c : a ∈ u
  ·rw [if_pos (by simpa using c), q07 _ _ (by omega), Option.bind_some]
   have e1 : s1 u (a, l, b) = R8 D7 b u := if_pos c
   rw [e1] at g1 g2 ⊢
   rw [K09 _ _ (by omega), Option.bind_some]
   by_cases c2 : b ∈ R8 D7 b u
   ·rw [if_pos (by simpa using c2), q07 _ _ (by omega), Option.bind_some]
    have e2 : s2 (R8 D7 b u) (a, l, b) = R8 D7 a (R8 D7 b u) := if_pos c2
    rw [e2] at g2 ⊢
    exact ih _ (by omega)
   ·rw [if_neg (by simpa using c2)]
    have e2 : s2 (R8 D7 b u) (a, l, b) = R8 D7 b u := if_neg c2
    rw [e2]
    exact ih _ (by omega)
  ·rw [if_neg (by simpa using c)]
   have e1 : s1 u (a, l, b) = u := if_neg c
   rw [e1] at g2 ⊢
   by_cases c2 : b ∈ u
   ·rw [if_pos (by simpa using c2), q07 _ _ (by omega), Option.bind_some]
    have e2 : s2 u (a, l, b) = R8 D7 a u := if_pos c2
    rw [e2] at g2 ⊢
    exact ih _ (by omega)
   ·rw [if_neg (by simpa using c2)]
    have e2 : s2 u (a, l, b) = u := if_neg c2
    rw [e2]
    exact ih _ (by omega)
theorem Q0a (es : List D0) (hl : es.length ≤ 120) : ∀ (d k fuel : Nat) (u : List Int), k + d = es.length + 1 → d < fuel → u.length ≤ 1 + k * 240 →
  H4 es fuel u (k : Int) = some (itS es d u)
 | d, k, 0, u, hd, hf, hu => by omega
 | 0, k, fuel + 1, u, hd, hf, hu => by
  rw [H4.eq_2, if_neg (by rw [w64 (by omega) (by omega)]; simp; omega)]; rfl
 | d + 1, k, fuel + 1, u, hd, hf, hu => by
  have h0 := P0a es (by omega) es.length 0 S0 u (by omega) (W0 (by omega)) (by omega)
  rw [show ((0 : Nat) : Int) = 0 from rfl, List.drop_zero] at h0
  have ih := Q0a es hl d (k + 1) fuel (pS es u) (by omega) (by omega) (by have := P0f es u; omega)
  rw [H4.eq_2, if_pos (by rw [w64 (by omega) (by omega)]; simp; omega), h0, Option.bind_some, A2 (show k < 1000 by omega) (by omega), ih]
  rfl
end Go.Proofs.YtfdlgbfeceodeaaGreat
namespace Go.Proofs.YtfdlgbfeceodeaaGreat
open Go.H
set_option linter.unusedVariables false
set_option linter.unusedSimpArgs false
def getI (P : List Int) (v : Int) : Int := P.getD v.toNat (-1)
def R00 : List Int → Nat → List Int → List Int
 | A, k, [] => A
 | A, k, v :: r => R00 (A.set v.toNat (k : Int)) (k + 1) r
def plc (n : Nat) (o : List Int) : List Int := R00 (List.replicate n (-1)) 0 o
theorem R0a : ∀ (o : List Int) (k : Nat) (A : List Int), (R00 A k o).length = A.length
 | [], k, A => rfl
 | v :: r, k, A => by rw [R00, R0a r]; simp
def inV (n : Nat) (o : List Int) : Prop := ∀ v ∈ o, 0 ≤ v ∧ v < (n : Int)
theorem giI {P : List Int} {n : Nat} (hl : P.length = n) {x : Int} (h0 : 0 ≤ x) (h1 : x < n) : gi P x = some (getI P x) := by
 have hk : x.toNat < P.length := by omega
 have e : x = ((x.toNat : Nat) : Int) := by omega
 have h2 : gi P ((x.toNat : Nat) : Int) = some (getI P x) := by
  rw [n08, List.getElem?_eq_getElem hk]
  unfold getI
  rw [List.getD_eq_getElem?_getD, List.getElem?_eq_getElem hk]; rfl
 rw [← e] at h2; exact h2
theorem w03 {A : List Int} {v x : Int} {y : Int} (h0 : 0 ≤ v) (h1 : v.toNat < A.length) (hx : 0 ≤ x) : getI (A.set v.toNat y) x = if x = v then y else getI A x := by
 unfold getI
 rw [List.getD_eq_getElem?_getD, List.getD_eq_getElem?_getD, List.getElem?_set]
 by_cases c : x = v
 ·rw [if_pos c, if_pos (by rw [c]), if_pos h1]; rfl
 ·rw [if_neg c, if_neg (by omega)]
theorem z07 {n : Nat} : ∀ (o : List Int) (k : Nat) (A : List Int), A.length = n → inV n o → (∀ x, 0 ≤ x → -1 ≤ getI A x ∧ getI A x < (k : Int)) → ∀ x, 0 ≤ x → -1 ≤ getI (R00 A k o) x ∧ getI (R00 A k o) x < ((k + o.length : Nat) : Int)
 | [], k, A, hA, ho, h, x, hx => h x hx
 | v :: r, k, A, hA, ho, h, x, hx => by
  have hv := ho v (List.mem_cons_self ..)
  have := z07 r (k + 1) (A.set v.toNat (k : Int)) (by simp [hA]) (fun w hw => ho w (List.mem_cons_of_mem _ hw)) (fun y hy => by
   rw [w03 hv.1 (by omega) hy]
   have := h y hy
   split <;> omega) x hx
  rw [R00, List.length_cons, show k + (r.length + 1) = k + 1 + r.length by omega]; exact this
theorem X04 (n : Nat) (x : Int) : getI (List.replicate n (-1)) x = -1 := by
 unfold getI
 rw [List.getD_eq_getElem?_getD, List.getElem?_replicate]
 split <;> rfl
theorem x03 {n : Nat} {o : List Int} (ho : inV n o) {x : Int} (hx : 0 ≤ x) : -1 ≤ getI (plc n o) x ∧ getI (plc n o) x < (o.length : Int) := by
 have := z07 o 0 (List.replicate n (-1)) (by simp) ho (fun x hx => by rw [X04]; omega) x hx
 rw [Nat.zero_add] at this; exact this
theorem R0g (n : Nat) (o : List Int) : (plc n o).length = n := by unfold plc; rw [R0a]; simp
def pE (P : List Int) : List D0 → List D0
 | [] => []
 | e :: r => bif decide (0 ≤ getI P e.1) && decide (0 ≤ getI P e.2.2) then (getI P e.1, e.2.1, getI P e.2.2) :: pE P r else pE P r
theorem e0d (P : List Int) : ∀ es, (pE P es).length ≤ es.length
 | [] => by simp [pE]
 | e :: r => by
  have := e0d P r
  unfold pE
  cases decide (0 ≤ getI P e.1) && decide (0 ≤ getI P e.2.2) <;> simp only [cond_true, cond_false, List.length_cons] <;> omega
theorem p0k {n : Nat} {o : List Int} (ho : inV n o) : ∀ (es : List D0), inN n es → inN o.length (pE (plc n o) es)
 | [], hn => fun e he => nomatch he
 | e :: r, hn => by
  have hr := p0k ho r fun e he => hn e (List.mem_cons_of_mem _ he)
  have he := hn e (List.mem_cons_self ..)
  unfold pE
  cases hb : decide (0 ≤ getI (plc n o) e.1) && decide (0 ≤ getI (plc n o) e.2.2)
  ·simpa only [cond_false] using hr
  ·simp only [cond_true]
   simp only [Bool.and_eq_true, decide_eq_true_eq] at hb
   intro e' he'
   rcases List.mem_cons.1 he' with rfl | he'
   ·exact ⟨⟨hb.1, (x03 ho he.1.1).2⟩, hb.2, (x03 ho he.2.1).2⟩
   ·exact hr e' he'
def I9 (g : l0) (o : List Int) : l0 := (g.1, (o.length : Int), t6 K0 [] (pE (plc g.2.1.toNat o) g.2.2))
theorem C01 : ∀ (r l : List D0), (t6 K0 l r).length ≤ l.length + r.length
 | [], l => by simp [t6]
 | e :: r, l => by have := C01 r (R8 K0 e l); have := T01 e l; simp only [t6, List.length_cons]; omega
theorem Q0f (g : l0) (o : List Int) : (I9 g o).2.2.length ≤ g.2.2.length := by
 have := C01 (pE (plc g.2.1.toNat o) g.2.2) []
 have := e0d (plc g.2.1.toNat o) g.2.2
 simp only [I9, List.length_nil] at *; omega
theorem Q0h {n : Nat} {r : Int} {es : List D0} {o : List Int} (ho : inV n o) (hn : inN n es) : inN o.length (I9 (r, (n : Int), es) o).2.2 := by
 intro e he
 simp only [I9, Int.toNat_natCast] at he
 rcases (W8 Y5 e _ _).1 he with h | h
 ·cases h
 ·exact p0k ho es hn e h
theorem S0g (n : Nat) (hn : n ≤ 140737488355328) : ∀ (d k fuel : Nat), k + d = n → d < fuel →
  N7 n fuel (k : Int) (List.replicate k (-1) ++ List.replicate d 0) = some (List.replicate n (-1))
 | d, k, 0, hd, hf => by omega
 | 0, k, fuel + 1, hd, hf => by
  rw [N7.eq_2, if_neg (by simp; omega), show k = n by omega]; simp
 | d + 1, k, fuel + 1, hd, hf => by
  have hg : gi (List.replicate k (-1) ++ List.replicate (d + 1) (0 : Int)) (k : Int) = some 0 := by
   rw [n08, List.getElem?_append_right (by simp)]; simp
  have ih := S0g n hn d (k + 1) fuel (by omega) (by omega)
  rw [N7.eq_2, if_pos (by simp; omega), hg, Option.bind_some, A2 (show k < n by omega) (by omega), Int.toNat_natCast]
  have e : (List.replicate k (-1) ++ List.replicate (d + 1) (0 : Int)).set k (-1) = List.replicate (k + 1) (-1) ++ List.replicate d 0 := by
   rw [List.set_append_right _ _ (by simp), List.length_replicate, Nat.sub_self, List.replicate_succ, List.set_cons_zero, List.replicate_succ']
   simp
  rw [e, ih]
theorem T0g (o : List Int) {n : Nat} (ho : inV n o) (hl : o.length ≤ 9223372036854775807) : ∀ (d k fuel : Nat) (A : List Int), A.length = n → k + d = o.length → d < fuel →
  M7 o fuel (k : Int) A = some (R00 A k (o.drop k))
 | d, k, 0, A, hA, hd, hf => by omega
 | 0, k, fuel + 1, A, hA, hd, hf => by
  rw [M7.eq_2, if_neg (by simp; omega), E1 (by omega)]; rfl
 | d + 1, k, fuel + 1, A, hA, hd, hf => by
  have hk : k < o.length := by omega
  have hx := V5 hk
  have hin := ho _ (List.mem_of_getElem? hx)
  generalize o[k] = v at hx hin
  have ih := T0g o ho hl d (k + 1) fuel (A.set v.toNat (k : Int)) (by simp [hA]) (by omega) (by omega)
  rw [M7.eq_2, if_pos (by simp; omega), O1 hx, O3 hx, Option.bind_some, giI hA hin.1 hin.2, Option.bind_some, A2 hk hl, ih]
  rfl
theorem U0g (es : List D0) {n : Nat} (hn : inN n es) (hl : es.length ≤ 1099511627776) (P : List Int) (hP : P.length = n) (r m : Int) : ∀ (d k fuel : Nat) (acc : List D0), k + d = es.length → d < fuel → acc.length ≤ k →
  o7 es P fuel (k : Int) r m acc = some (r, m, acc ++ pE P (es.drop k))
 | d, k, 0, acc, hd, hf, ha => by omega
 | 0, k, fuel + 1, acc, hd, hf, ha => by
  rw [o7.eq_2, if_neg (by simp; omega), E1 (by omega)]; simp [pE]
 | d + 1, k, fuel + 1, acc, hd, hf, ha => by
  have hk : k < es.length := by omega
  have he := V5 hk
  have hin := hn _ (List.mem_of_getElem? he)
  generalize es[k] = e at he hin
  obtain ⟨a, l, b⟩ := e
  have ih := fun acc' h => U0g es hn hl P hP r m d (k + 1) fuel acc' (by omega) (by omega) h
  rw [o7.eq_2, if_pos (by simp; omega), O1 he]
  simp only [O3 he, Option.bind_some, giI hP hin.1.1 hin.1.2, giI hP hin.2.1 hin.2.2, A2 hk (show es.length ≤ 9223372036854775807 by omega), pE]
  by_cases c1 : 0 ≤ getI P a
  ·simp only [show decide (getI P a ≥ 0) = true by simpa using c1, J2, Option.bind_some, cond_true, show decide (0 ≤ getI P a) = true by simpa using c1, Bool.true_and]
   by_cases c2 : 0 ≤ getI P b
   ·rw [if_pos (by simpa using c2), N0 (by simp; omega), Option.bind_some, ih _ (by simp; omega)]
    simp [c2]
   ·rw [if_neg (by simpa using c2), ih _ (by omega)]
    simp [c2]
  ·simp only [show decide (getI P a ≥ 0) = false by simpa using c1, M5, Option.bind_some, cond_false, show decide (0 ≤ getI P a) = false by simpa using c1, Bool.false_and]
   rw [if_neg (by simp), ih _ (by omega)]
theorem V0i (r : Int) (n : Nat) (es : List D0) (o : List Int) (hn : inN n es) (ho : inV n o) (hn2 : n ≤ 1000000) (hl : es.length ≤ 1099511627776) (hl2 : o.length ≤ 1099511627776) :
  G00 (r, (n : Int), es) o = some (I9 (r, (n : Int), es) o) := by
 unfold G00
 have h2 := S0g n (by omega) n 0 S0 (by omega) (W0 (by omega))
 have h1 := T0g o ho (by omega) o.length 0 S0 (List.replicate n (-1)) (by simp) (by omega) (W0 (by omega))
 have h0 := U0g es hn hl (plc n o) (R0g n o) r ((o.length : Nat) : Int) es.length 0 S0 [] (by omega) (W0 (by omega)) (Nat.le_refl _)
 rw [show ((0 : Nat) : Int) = 0 from rfl] at h0 h1 h2
 rw [List.replicate_zero, List.nil_append] at h2
 rw [List.drop_zero] at h1
 rw [List.drop_zero, List.nil_append] at h0
 simp only [Int.toNat_natCast]
 rw [N0 (by omega), Option.bind_some, Option.bind_some, List.length_replicate, N0 (by omega), Option.bind_some, h2, Option.bind_some, h1, Option.bind_some]
 rw [show R00 (List.replicate n (-1)) 0 o = plc n o from rfl, h0]
 simp only [Option.bind_some]
 rw [x07 _ (by have := e0d (plc n o) es; omega), Option.bind_some]
 rfl
theorem W0i (A : List Int) (i k : Nat) : (A.map (· + 1)).set i (((k + 1 : Nat) : Int)) = (A.set i (k : Int)).map (· + 1) := by
 rw [List.map_set]; rfl
theorem S0a {A : List Int} {n : Nat} (hA : A.length = n) {x : Int} (h0 : 0 ≤ x) (h1 : x < n) : gi (A.map (· + 1)) x = some (getI A x + 1) := by
 have hk : x.toNat < A.length := by omega
 have e : x = ((x.toNat : Nat) : Int) := by omega
 have h2 : gi (A.map (· + 1)) ((x.toNat : Nat) : Int) = some (getI A x + 1) := by
  rw [n08, List.getElem?_map, List.getElem?_eq_getElem hk]
  unfold getI
  rw [List.getD_eq_getElem?_getD, List.getElem?_eq_getElem hk]; rfl
 rw [← e] at h2; exact h2
theorem X0i (r : Int) (n : Nat) (es : List D0) (o : List Int) (ho : inV n o) (hd' : o.Nodup) (hn2 : 1 ≤ n ∧ n ≤ 1000000) (hl : o.length ≤ 1099511627776) : ∀ (d k fuel : Nat) (A : List Int), A.length = n → (∀ x, 0 ≤ x → -1 ≤ getI A x ∧ getI A x ≤ 1099511627776) → (∀ x ∈ o.drop k, getI A x = -1) → k + d = o.length → d < fuel →
  T3 o (n : Int) r es fuel (k : Int) (A.map (· + 1)) = some (.inr ((R00 A k (o.drop k)).map (· + 1)))
 | d, k, 0, A, hA, hr, hm, hd, hf => by omega
 | 0, k, fuel + 1, A, hA, hr, hm, hd, hf => by
  rw [T3.eq_2, if_neg (by simp; omega), E1 (by omega)]; rfl
 | d + 1, k, fuel + 1, A, hA, hr, hm, hd, hf => by
  have hk : k < o.length := by omega
  have hx := V5 hk
  have hin := ho _ (List.mem_of_getElem? hx)
  have hdr := O1 hx
  generalize o[k] = v at hx hin hdr
  have hnd : (o.drop k).Nodup := hd'.sublist (List.drop_sublist _ _)
  rw [hdr] at hnd hm
  have hA0 := hm v (List.mem_cons_self ..)
  have ih := X0i r n es o ho hd' hn2 hl d (k + 1) fuel (A.set v.toNat (k : Int)) (by simp [hA]) (fun x hx => by
   rw [w03 hin.1 (by omega) hx]; have := hr x hx; split <;> omega) (fun x hx => by
   have hx0 := ho x (List.mem_of_mem_drop hx)
   rw [w03 hin.1 (by omega) hx0.1, if_neg (fun e => (List.nodup_cons.1 hnd).1 (by rw [← e]; exact hx))]
   exact hm x (List.mem_cons_of_mem _ hx)) (by omega) (by omega)
  rw [T3.eq_2, if_pos (by simp; omega), hdr, O3 hx]
  simp only [Option.bind_some, G01, w64 (show -9223372036854775808 ≤ (n : Int) - 1 by omega) (show (n : Int) - 1 ≤ 9223372036854775807 by omega), inR, show decide (0 ≤ v) = true by simpa using hin.1, show decide (v ≤ (n : Int) - 1) = true by simp; omega, Bool.and_self, Bool.not_true, Bool.not_false, J2, S0a hA hin.1 hin.2, hA0, cond_false]
  rw [if_neg (by decide), A2 hk (by omega), W0i, ih]
  rfl
theorem Y0i (es : List D0) {n : Nat} (hn : inN n es) (hl : es.length ≤ 1099511627776) (P : List Int) (hP : P.length = n) (hr : ∀ x, 0 ≤ x → -1 ≤ getI P x ∧ getI P x ≤ 1099511627776) (r m : Int) : ∀ (d k fuel : Nat) (acc : List D0), k + d = es.length → d < fuel → acc.length ≤ k →
  A3 es (P.map (· + 1)) fuel (k : Int) r m acc = some (r, m, t6 K0 acc (pE P (es.drop k)))
 | d, k, 0, acc, hd, hf, ha => by omega
 | 0, k, fuel + 1, acc, hd, hf, ha => by
  rw [A3.eq_2, if_neg (by simp; omega), E1 (by omega)]; rfl
 | d + 1, k, fuel + 1, acc, hd, hf, ha => by
  have hk : k < es.length := by omega
  have he := V5 hk
  have hin := hn _ (List.mem_of_getElem? he)
  generalize es[k] = e at he hin
  obtain ⟨a, l, b⟩ := e
  have ih := fun acc' h => Y0i es hn hl P hP hr r m d (k + 1) fuel acc' (by omega) (by omega) h
  have ra := hr a hin.1.1
  have rb := hr b hin.2.1
  rw [A3.eq_2, if_pos (by simp; omega), O1 he]
  simp only [O3 he, Option.bind_some, S0a hP hin.1.1 hin.1.2, S0a hP hin.2.1 hin.2.2, A2 hk (show es.length ≤ 9223372036854775807 by omega), pE]
  by_cases c1 : 0 ≤ getI P a
  ·simp only [show decide (getI P a + 1 > 0) = true by simp; omega, J2, Option.bind_some, cond_true, show decide (0 ≤ getI P a) = true by simpa using c1, Bool.true_and]
   by_cases c2 : 0 ≤ getI P b
   ·rw [if_pos (by simp; omega), w64 (by omega) (by omega), w64 (by omega) (by omega), show getI P a + 1 - 1 = getI P a by omega, show getI P b + 1 - 1 = getI P b by omega]
    rw [W03 _ _ (by omega), Option.bind_some, ih _ (by have := T01 (getI P a, l, getI P b) acc; omega)]
    simp [c2, t6]
   ·rw [if_neg (by simp; omega), ih _ (by omega)]
    simp [c2]
  ·simp only [show decide (getI P a + 1 > 0) = false by simp; omega, M5, Option.bind_some, cond_false, show decide (0 ≤ getI P a) = false by simpa using c1, Bool.false_and]
   rw [if_neg (by simp), ih _ (by omega)]
theorem T0a (r : Int) (n : Nat) (es : List D0) (o : List Int) (hg : M0 (r, (n : Int), es) = true) (ho : inV n o) (hd : o.Nodup) (h1 : 1 ≤ o.length) (h2 : o.length ≤ n) :
  g6 (r, (n : Int), es) o = some (I9 (r, (n : Int), es) o, true) := by
 obtain ⟨q1, q2, q3, q4⟩ := T1 hg
 simp only at q2 q3 q4
 have hn : inN n es := fun e he => ⟨(q1 e he).1, (q1 e he).2.1⟩
 have hG := Q5 (r, (n : Int), es) (by simp only; omega)
 unfold g6
 have e1 := X0i r n es o ho hd (by omega) (by omega) o.length 0 S0 (List.replicate n (-1)) (by simp) (fun x hx => by rw [X04]; omega) (fun x hx => X04 n x) (by omega) (W0 (by omega))
 have e0 := Y0i es hn (by omega) (plc n o) (R0g n o) (fun x hx => by have := x03 ho hx; omega) r ((o.length : Nat) : Int) es.length 0 S0 [] (by omega) (W0 (by omega)) (Nat.le_refl _)
 rw [show ((0 : Nat) : Int) = 0 from rfl, List.drop_zero] at e0 e1
 rw [show (List.replicate n (-1 : Int)).map (· + 1) = List.replicate n 0 by simp] at e1
 rw [show R00 (List.replicate n (-1)) 0 o = plc n o from rfl] at e1
 have c1 : decide (((o.length : Nat) : Int) = 0) = false := decide_eq_false (by omega)
 have c2 : decide (((o.length : Nat) : Int) > (n : Int)) = false := decide_eq_false (by omega)
 simp only [hG, hg, Option.bind_some, Bool.not_true, cond_false, Int.toNat_natCast, c1, c2]
 rw [if_neg (by simp), N0 (by omega), Option.bind_some, e1]
 simp only [Option.bind_some, l7, e0]
 rfl
end Go.Proofs.YtfdlgbfeceodeaaGreat
namespace Go.Proofs.YtfdlgbfeceodeaaGreat
open Go.H
set_option linter.unusedVariables false
set_option linter.unusedSimpArgs false
theorem T02 : ∀ (n : Nat) (o : List Int), o.Nodup → inV n o → o.length ≤ n
 | 0, [], _, _ => Nat.le_refl _
 | 0, x :: r, _, h => by have := h x (List.mem_cons_self ..); omega
 | n + 1, o, hd, h => by
  have h1 : inV n (o.erase (n : Int)) := fun x hx => by
   obtain ⟨hne, hm⟩ := (List.Nodup.mem_erase_iff hd).1 hx
   have := h x hm; omega
  have h2 := T02 n _ (hd.erase _) h1
  by_cases hm : (n : Int) ∈ o
  ·rw [List.length_erase_of_mem hm] at h2; omega
  ·rw [List.erase_of_not_mem hm] at h2; omega
def b00 : Nat → Nat → List Int
 | 0, _ => []
 | d + 1, i => (i : Int) :: -(i : Int) :: b00 d (i + 1)
theorem y03 : ∀ d i, (b00 d i).length = 2 * d
 | 0, i => rfl
 | d + 1, i => by simp only [b00, List.length_cons, y03 d]; omega
theorem f0d : ∀ (d i : Nat), i + d ≤ 1000 → ∀ x ∈ b00 d i, B7 x
 | 0, i, h, x, hx => nomatch hx
 | d + 1, i, h, x, hx => by
  simp only [b00, List.mem_cons] at hx
  rcases hx with rfl | rfl | hx
  ·exact ⟨⟨by omega, by omega⟩, by omega⟩
  ·exact ⟨⟨by omega, by omega⟩, by omega⟩
  ·exact f0d d (i + 1) (by omega) x hx
theorem Z0i (R : Nat) (hR : R ≤ 900) : ∀ (d i fuel : Nat) (acc : List Int), i + d = R + 1 → d < fuel → acc.length + 2 * d ≤ 10000 →
  i6 (R : Int) fuel (i : Int) acc = some (acc ++ b00 d i)
 | d, i, 0, acc, hd, hf, ha => by omega
 | 0, i, fuel + 1, acc, hd, hf, ha => by
  rw [i6.eq_2, if_neg (by simp; omega)]; simp [b00]
 | d + 1, i, fuel + 1, acc, hd, hf, ha => by
  have ih := Z0i R hR d (i + 1) fuel (acc ++ [(i : Int), -(i : Int)]) (by omega) (by omega) (by simp; omega)
  have w1 : IntKind.i64.wrap (0 - (i : Int)) = -(i : Int) := by rw [w64 (by omega) (by omega)]; omega
  rw [i6.eq_2, if_pos (by simp; omega), w1, N0 (by simp; omega), Option.bind_some, A2 (show i < 1000 by omega) (by omega), ih]
  simp [b00]
theorem a0j (R : Nat) (hR : R ≤ 900) : ∀ (d i fuel : Nat) (acc : List Int), i + d = R + 1 → d < fuel → acc.length + 2 * d ≤ 10000 →
  c5 (R : Int) fuel (i : Int) acc = some (acc ++ b00 d i)
 | d, i, 0, acc, hd, hf, ha => by omega
 | 0, i, fuel + 1, acc, hd, hf, ha => by
  rw [c5.eq_2, if_neg (by simp; omega)]; simp [b00]
 | d + 1, i, fuel + 1, acc, hd, hf, ha => by
  have ih := a0j R hR d (i + 1) fuel ((acc ++ [(i : Int)]) ++ [-(i : Int)]) (by omega) (by omega) (by simp; omega)
  have w1 : IntKind.i64.wrap (0 - (i : Int)) = -(i : Int) := by rw [w64 (by omega) (by omega)]; omega
  rw [c5.eq_2, if_pos (by simp; omega), w1, N0 (by simp; omega), Option.bind_some, N0 (by simp; omega), Option.bind_some, A2 (show i < 1000 by omega) (by omega), ih]
  simp [b00]
theorem b0j (R : Nat) (hR : R ≤ 900) : c8 (R : Int) = some (b00 R 1) := by
 unfold c8
 rw [show (1 : Int) = ((1 : Nat) : Int) from rfl, Z0i R hR R 1 S0 [] (by omega) (W0 (by omega)) (by simp; omega)]; rfl
theorem c0j (R : Nat) (hR : R ≤ 900) : Z6 (R : Int) = some (b00 R 1) := by
 unfold Z6
 rw [show (1 : Int) = ((1 : Nat) : Int) from rfl, a0j R hR R 1 S0 [] (by omega) (W0 (by omega)) (by simp; omega)]; rfl
def U0a (u : List Int) (x : Int) : List Int := if 0 ≤ x ∧ x ∉ u then u ++ [x] else u
def j04 (g : l0) (v : Int) : List Int → List Int → List Int
 | [], u => u
 | x :: r, u => j04 g v r (U0a u (B5 g v x))
def I01 (g : l0) (ls : List Int) : Nat → Nat → List Int → List Int
 | 0, i, u => u
 | f + 1, i, u => match u[i]? with
  | some v => I01 g ls f (i + 1) (j04 g v ls u)
  | none => u
def gud (n : Nat) (u : List Int) : Prop := u.Nodup ∧ inV n u
theorem d0j {n : Nat} {u : List Int} {x : Int} (h : gud n u) (hx : x = -1 ∨ (0 ≤ x ∧ x < (n : Int))) : gud n (U0a u x) := by
 unfold U0a
 split
 ·rename_i hc
  refine ⟨List.nodup_append.2 ⟨h.1, by simp, fun a ha b hb => ?_⟩, fun y hy => ?_⟩
  ·simp at hb; subst hb; exact fun e => hc.2 (e ▸ ha)
  ·rcases List.mem_append.1 hy with hy | hy
   ·exact h.2 y hy
   ·simp at hy; subst hy; omega
 ·exact h
theorem u0e (u : List Int) (x : Int) : ∃ t, U0a u x = u ++ t := by
 unfold U0a; split
 ·exact ⟨_, rfl⟩
 ·exact ⟨[], by simp⟩
theorem x05 (g : l0) (v : Int) : ∀ (ls u : List Int), ∃ t, j04 g v ls u = u ++ t
 | [], u => ⟨[], by simp [j04]⟩
 | x :: r, u => by
  obtain ⟨t1, e1⟩ := u0e u (B5 g v x)
  obtain ⟨t2, e2⟩ := x05 g v r (U0a u (B5 g v x))
  exact ⟨t1 ++ t2, by rw [j04, e2, e1, List.append_assoc]⟩
theorem y05 {r : Int} {n : Nat} {es : List D0} (hg : inG (r, (n : Int), es)) (v : Int) : ∀ (ls u : List Int), gud n u → gud n (j04 (r, (n : Int), es) v ls u)
 | [], u, h => h
 | x :: l, u, h => y05 hg v l _ (d0j h (J09 hg v x))
theorem V0a {r : Int} {n : Nat} {es : List D0} (hg : inG (r, (n : Int), es)) (ls : List Int) : ∀ (f i : Nat) (u : List Int), gud n u → gud n (I01 (r, (n : Int), es) ls f i u)
 | 0, i, u, h => h
 | f + 1, i, u, h => by
  unfold I01
  split
  ·exact V0a hg ls f _ _ (y05 hg _ _ _ h)
  ·exact h
theorem W0a (g : l0) (ls : List Int) : ∀ (f i : Nat) (u : List Int), u.length ≤ (I01 g ls f i u).length
 | 0, i, u => Nat.le_refl _
 | f + 1, i, u => by
  unfold I01
  split
  ·rename_i v _
   obtain ⟨t, e⟩ := x05 g v ls u
   have := W0a g ls f (i + 1) (j04 g v ls u)
   rw [e] at this ⊢; simp only [List.length_append] at this; omega
  ·exact Nat.le_refl _
theorem V0g (r : Int) (n : Nat) (es : List D0) (hg : inG (r, (n : Int), es)) (hn : n ≤ 40) (hes : es.length ≤ 1099511627776) (ls : List Int) (hls : ∀ x ∈ ls, B7 x) (hl : ls.length ≤ 1000000) (i : Nat) (v : Int) : ∀ (d k fuel : Nat) (u : List Int), gud n u → u[i]? = some v → k + d = ls.length → d < fuel →
  X2 ls (i : Int) r (n : Int) es fuel (k : Int) u = some (j04 (r, (n : Int), es) v (ls.drop k) u)
 | d, k, 0, u, hu, hi, hd, hf => by omega
 | 0, k, fuel + 1, u, hu, hi, hd, hf => by
  rw [X2.eq_2, if_neg (by simp; omega), E1 (by omega)]; rfl
 | d + 1, k, fuel + 1, u, hu, hi, hd, hf => by
  have hk : k < ls.length := by omega
  have hx := V5 hk
  have hxm := hls _ (List.mem_of_getElem? hx)
  have hdr := O1 hx
  generalize ls[k] = x at hx hxm hdr
  have hlen := T02 n u hu.1 hu.2
  have hnx : B5 (r, (n : Int), es) v x = -1 ∨ (0 ≤ B5 (r, (n : Int), es) v x ∧ B5 (r, (n : Int), es) v x < (n : Int)) := J09 hg v x
  have hg2 := d0j hu hnx
  have hi2 : (U0a u (B5 (r, (n : Int), es) v x))[i]? = some v := by
   obtain ⟨t, e⟩ := u0e u (B5 (r, (n : Int), es) v x)
   rw [e, List.getElem?_append_left (List.getElem?_eq_some_iff.1 hi).1]; exact hi
  have ih := V0g r n es hg hn hes ls hls hl i v d (k + 1) fuel _ hg2 hi2 (by omega) (by omega)
  rw [X2.eq_2, if_pos (by simp; omega), hdr]
  simp only [O3 hi, O3 hx, Option.bind_some, q06 (r, (n : Int), es) v x hxm hes, N0 (U03 hg (show (n : Int) ≤ 40 by omega) v x), A2 hk (show ls.length ≤ 9223372036854775807 by omega), j04]
  rw [← ih]
  generalize B5 (r, (n : Int), es) v x = y at *
  unfold U0a
  by_cases c1 : 0 ≤ y
  ·simp only [show decide (y ≥ 0) = true by simpa using c1, J2, K09 u y (by omega), Option.bind_some, cond_true]
   by_cases c2 : y ∈ u
   ·rw [if_neg (by simp [c2]), if_neg (by simp [c2])]
   ·rw [if_pos (by simp [c2]), if_pos ⟨c1, c2⟩, N0 (by simp; omega), Option.bind_some]
  ·simp only [show decide (y ≥ 0) = false by simpa using c1, M5, Option.bind_some, cond_false]
   rw [if_neg (by simp), if_neg (fun h => c1 h.1)]
theorem W0g (r : Int) (n : Nat) (es : List D0) (hg : inG (r, (n : Int), es)) (hn : n ≤ 40) (hes : es.length ≤ 1099511627776) (ls : List Int) (hls : ∀ x ∈ ls, B7 x) (hl : ls.length ≤ 1000000) : ∀ (f i fuel : Nat) (u : List Int), gud n u → i ≤ u.length → n + 1 ≤ i + f → f < fuel →
  B4 ls r (n : Int) es fuel (i : Int) u = some (I01 (r, (n : Int), es) ls f i u)
 | f, i, 0, u, hu, hi, hd, hf => by omega
 | 0, i, fuel + 1, u, hu, hi, hd, hf => by have := T02 n u hu.1 hu.2; omega
 | f + 1, i, fuel + 1, u, hu, hi, hd, hf => by
  have hlen := T02 n u hu.1 hu.2
  rw [B4.eq_2, Option.bind_some, N0 (by omega), Option.bind_some]
  by_cases hk : i < u.length
  ·have hx := V5 hk
   generalize u[i] = v at hx
   have h0 := V0g r n es hg hn hes ls hls hl i v ls.length 0 S0 u hu hx (by omega) (W0 (by omega))
   rw [show ((0 : Nat) : Int) = 0 from rfl, List.drop_zero] at h0
   obtain ⟨t, e⟩ := x05 (r, (n : Int), es) v ls u
   have ih := W0g r n es hg hn hes ls hls hl f (i + 1) fuel _ (y05 hg v ls u hu) (by rw [e, List.length_append]; omega) (by omega) (by omega)
   rw [if_pos (by simpa using hk), h0, Option.bind_some, A2 hk (by omega), ih]
   simp only [I01, hx]
  ·have hx : u[i]? = none := List.getElem?_eq_none (by omega)
   rw [if_neg (by simpa using hk)]
   simp only [I01, hx]
def r01 (g : l0) : List Int := I01 g (b00 g.1.toNat 1) (g.2.1.toNat + 1) 0 [0]
theorem u08 {g : l0} (hf : P0 g = true) : gud g.2.1.toNat (r01 g) ∧ 1 ≤ (r01 g).length := by
 obtain ⟨h1, h2, h3, h4⟩ := C4 hf
 obtain ⟨r, n, es⟩ := g
 simp only at h2 h3 h4
 obtain ⟨N, rfl⟩ : ∃ N : Nat, n = (N : Int) := ⟨n.toNat, by omega⟩
 refine ⟨?_, ?_⟩
 ·exact V0a h1 _ _ _ _ ⟨by simp, fun x hx => by simp at hx; subst hx; show (0 : Int) ≤ 0 ∧ (0 : Int) < (((N : Int).toNat : Nat) : Int); omega⟩
 ·exact W0a _ _ _ _ [0]
theorem v0e (g : l0) (hf : P0 g = true) : R6 g = some (r01 g) := by
 obtain ⟨h1, h2, h3, h4⟩ := C4 hf
 have hF := N8 g (by omega)
 obtain ⟨r, n, es⟩ := g
 simp only at h2 h3 h4
 obtain ⟨N, rfl⟩ : ∃ N : Nat, n = (N : Int) := ⟨n.toNat, by omega⟩
 obtain ⟨R, rfl⟩ : ∃ R : Nat, r = (R : Int) := ⟨r.toNat, by omega⟩
 unfold R6
 have h0 := W0g (R : Int) N es h1 (by omega) (by omega) (b00 R 1) (f0d R 1 (by omega)) (by rw [y03]; omega) (N + 1) 0 S0 [0] ⟨by simp, fun x hx => by simp at hx; subst hx; omega⟩ (by simp) (by omega) (W0 (by omega))
 simp only [hF, hf, Option.bind_some, Bool.not_true, c0j R (by omega)]
 rw [show ((0 : Nat) : Int) = 0 from rfl] at h0
 rw [if_neg (by simp), h0]
 rfl
theorem V0j {a : List Int} (la : a.length ≤ 1099511627776) : i9 a = some a := by
 unfold i9
 rw [N0 (by simp; omega)]; rfl
def z03 (W : List (Option (List Int))) (x : Int) : Option (List Int) := W.getD x.toNat none
theorem giO {W : List (Option (List Int))} {n : Nat} (hl : W.length = n) {x : Int} (h0 : 0 ≤ x) (h1 : x < n) : gi W x = some (z03 W x) := by
 have hk : x.toNat < W.length := by omega
 have e : x = ((x.toNat : Nat) : Int) := by omega
 have h2 : gi W ((x.toNat : Nat) : Int) = some (z03 W x) := by
  rw [n08, List.getElem?_eq_getElem hk]
  unfold z03
  rw [List.getD_eq_getElem?_getD, List.getElem?_eq_getElem hk]; rfl
 rw [← e] at h2; exact h2
theorem A03 {A : List (Option (List Int))} {v x : Int} {y : Option (List Int)} (h0 : 0 ≤ v) (h1 : v.toNat < A.length) (hx : 0 ≤ x) : z03 (A.set v.toNat y) x = if x = v then y else z03 A x := by
 unfold z03
 rw [List.getD_eq_getElem?_getD, List.getD_eq_getElem?_getD, List.getElem?_set]
 by_cases c : x = v
 ·rw [if_pos c, if_pos (by rw [c]), if_pos h1]; rfl
 ·rw [if_neg c, if_neg (by omega)]
structure WOk (n : Nat) (W : List (Option (List Int))) (u : List Int) : Prop where
 len : W.length = n
 iff : ∀ x, 0 ≤ x → x < (n : Int) → ((z03 W x).isNone = true ↔ x ∉ u)
 short : ∀ x, ((z03 W x).getD []).length ≤ u.length
theorem X0g (r : Int) (n : Nat) (es : List D0) (hg : inG (r, (n : Int), es)) (hn : n ≤ 40) (hes : es.length ≤ 1099511627776) (ls : List Int) (hls : ∀ x ∈ ls, B7 x) (hl : ls.length ≤ 1000000) (v : Int) (hv : 0 ≤ v ∧ v < (n : Int)) : ∀ (d k fuel : Nat) (W : List (Option (List Int))) (u : List Int), gud n u → WOk n W u → k + d = ls.length → d < fuel →
  ∃ W', A4 ls r (n : Int) es v fuel (k : Int) W u = some (W', j04 (r, (n : Int), es) v (ls.drop k) u) ∧ WOk n W' (j04 (r, (n : Int), es) v (ls.drop k) u)
 | d, k, 0, W, u, hu, hw, hd, hf => by omega
 | 0, k, fuel + 1, W, u, hu, hw, hd, hf => by
  rw [A4.eq_2, if_neg (by simp; omega), E1 (by omega)]; exact ⟨W, rfl, hw⟩
 | d + 1, k, fuel + 1, W, u, hu, hw, hd, hf => by
  have hk : k < ls.length := by omega
  have hx := V5 hk
  have hxm := hls _ (List.mem_of_getElem? hx)
  have hdr := O1 hx
  generalize ls[k] = x at hx hxm hdr
  have hlen := T02 n u hu.1 hu.2
  have hnx : B5 (r, (n : Int), es) v x = -1 ∨ (0 ≤ B5 (r, (n : Int), es) v x ∧ B5 (r, (n : Int), es) v x < (n : Int)) := J09 hg v x
  have hg2 := d0j hu hnx
  have ih := fun W' h => X0g r n es hg hn hes ls hls hl v hv d (k + 1) fuel W' _ hg2 h (by omega) (by omega)
  rw [A4.eq_2, if_pos (by simp; omega), hdr]
  simp only [O3 hx, Option.bind_some, r06 (r, (n : Int), es) v x hxm hes, N0 (U03 hg (show (n : Int) ≤ 40 by omega) v x), A2 hk (show ls.length ≤ 9223372036854775807 by omega), j04]
  generalize B5 (r, (n : Int), es) v x = y at *
  by_cases c1 : 0 ≤ y
  ·have hy : y < (n : Int) := by omega
   simp only [show decide (y ≥ 0) = true by simpa using c1, J2, giO hw.len c1 hy, Option.bind_some, cond_true]
   by_cases c2 : y ∈ u
   ·have : ¬ ((z03 W y).isNone = true) := fun h => (hw.iff y c1 hy).1 h c2
    have e : U0a u y = u := if_neg fun h => h.2 c2
    rw [if_neg this]
    rw [e] at ih ⊢
    exact ih W hw
   ·have : (z03 W y).isNone = true := (hw.iff y c1 hy).2 c2
    have e : U0a u y = u ++ [y] := if_pos ⟨c1, c2⟩
    have hs := hw.short v
    rw [if_pos this, giO hw.len hv.1 hv.2, Option.bind_some, V0j (by omega), Option.bind_some, N0 (by simp; omega), Option.bind_some, N0 (by simp; omega), Option.bind_some]
    rw [e] at ih ⊢
    refine ih _ ⟨by simp [hw.len], fun z h0 h1 => ?_, fun z => ?_⟩
    ·rw [A03 c1 (by have := hw.len; omega) h0]
     by_cases c : z = y
     ·rw [if_pos c]; simp [c]
     ·rw [if_neg c, hw.iff z h0 h1]; simp [c]
    ·by_cases hz : 0 ≤ z
     ·rw [A03 c1 (by have := hw.len; omega) hz]
      by_cases c : z = y
      ·rw [if_pos c]; simp; exact hs
      ·rw [if_neg c]; have := hw.short z; simp only [List.length_append]; omega
     ·have hz0 : z03 (W.set y.toNat (some ((z03 W v).getD [] ++ [x]))) z = z03 (W.set y.toNat (some ((z03 W v).getD [] ++ [x]))) 0 := by
       unfold z03; rw [show z.toNat = (0 : Int).toNat by omega]
      rw [hz0, A03 c1 (by have := hw.len; omega) (Int.le_refl 0)]
      by_cases c : (0 : Int) = y
      ·rw [if_pos c]; simp; exact hs
      ·rw [if_neg c]; have := hw.short 0; simp only [List.length_append]; omega
  ·have e : U0a u y = u := if_neg fun h => c1 h.1
   simp only [show decide (y ≥ 0) = false by simpa using c1, M5, Option.bind_some, cond_false]
   rw [if_neg (by simp)]
   rw [e] at ih ⊢
   exact ih W hw
theorem Y0g (R n : Nat) (hR : R ≤ 900) (es : List D0) (hg : inG ((R : Int), (n : Int), es)) (hn : n ≤ 40) (hes : es.length ≤ 1099511627776) : ∀ (f i fuel : Nat) (W : List (Option (List Int))) (u : List Int), gud n u → WOk n W u → i ≤ u.length → n + 1 ≤ i + f → f < fuel →
  ∃ W', C5 (R : Int) (n : Int) es fuel (i : Int) W u = some (W', I01 ((R : Int), (n : Int), es) (b00 R 1) f i u)
 | f, i, 0, W, u, hu, hw, hi, hd, hf => by omega
 | 0, i, fuel + 1, W, u, hu, hw, hi, hd, hf => by have := T02 n u hu.1 hu.2; omega
 | f + 1, i, fuel + 1, W, u, hu, hw, hi, hd, hf => by
  have hlen := T02 n u hu.1 hu.2
  rw [C5.eq_2, Option.bind_some, N0 (by omega), Option.bind_some]
  by_cases hk : i < u.length
  ·have hx := V5 hk
   have hv := hu.2 _ (List.mem_of_getElem? hx)
   generalize u[i] = v at hx hv
   obtain ⟨W1, h0, hw1⟩ := X0g (R : Int) n es hg hn hes (b00 R 1) (f0d R 1 (by omega)) (by rw [y03]; omega) v hv (b00 R 1).length 0 S0 W u hu hw (by omega) (W0 (by rw [y03]; omega))
   rw [show ((0 : Nat) : Int) = 0 from rfl, List.drop_zero] at h0
   rw [List.drop_zero] at hw1
   obtain ⟨t, e⟩ := x05 ((R : Int), (n : Int), es) v (b00 R 1) u
   obtain ⟨W2, ih⟩ := Y0g R n hR es hg hn hes f (i + 1) fuel W1 _ (y05 hg v _ u hu) hw1 (by rw [e, List.length_append]; omega) (by omega) (by omega)
   rw [if_pos (by simpa using hk), O3 hx, Option.bind_some, b0j R hR, Option.bind_some, h0, Option.bind_some]
   simp only [A2 hk (show u.length ≤ 9223372036854775807 by omega), ih, I01, hx]
   exact ⟨_, rfl⟩
  ·have hx : u[i]? = none := List.getElem?_eq_none (by omega)
   rw [if_neg (by simpa using hk)]
   simp only [I01, hx]
   exact ⟨_, rfl⟩
theorem w0e (g : l0) (hf : P0 g = true) : T6 g = some (r01 g) := by
 obtain ⟨h1, h2, h3, h4⟩ := C4 hf
 have hF := Z9 g (by omega)
 obtain ⟨r, n, es⟩ := g
 simp only at h2 h3 h4
 obtain ⟨N, rfl⟩ : ∃ N : Nat, n = (N : Int) := ⟨n.toNat, by omega⟩
 obtain ⟨R, rfl⟩ : ∃ R : Nat, r = (R : Int) := ⟨r.toNat, by omega⟩
 unfold T6
 have hrep : ∀ x, z03 (List.replicate N (none : Option (List Int))) x = none := fun x => by
  unfold z03
  rw [List.getD_eq_getElem?_getD, List.getElem?_replicate]; split <;> rfl
 have hW : WOk N ((List.replicate N (none : Option (List Int))).set (0 : Int).toNat (some [])) [0] := by
  refine ⟨by simp, fun x h0 h1 => ?_, fun x => ?_⟩
  ·rw [A03 (Int.le_refl 0) (by simp; omega) h0]
   by_cases c : x = 0
   ·rw [if_pos c]; simp [c]
   ·rw [if_neg c, hrep]; simp [c]
  ·by_cases hz : 0 ≤ x
   ·rw [A03 (Int.le_refl 0) (by simp; omega) hz]
    split
    ·simp
    ·rw [hrep]; simp
   ·have : z03 ((List.replicate N (none : Option (List Int))).set (0 : Int).toNat (some [])) x = z03 ((List.replicate N (none : Option (List Int))).set (0 : Int).toNat (some [])) 0 := by
     unfold z03; rw [show x.toNat = (0 : Int).toNat by omega]
    rw [this, A03 (Int.le_refl 0) (by simp; omega) (Int.le_refl 0), if_pos rfl]; simp
 obtain ⟨W', h0⟩ := Y0g R N (by omega) es h1 (by omega) (by omega) (N + 1) 0 S0 _ [0] ⟨by simp, fun x hx => by simp at hx; subst hx; omega⟩ hW (by simp) (by omega) (W0 (by omega))
 have hg0 : gi (List.replicate N (none : Option (List Int))) 0 = some none := by
  rw [T04 (x := none)]; rw [List.getElem?_replicate, if_pos (by omega)]
 simp only [hF, hf, Option.bind_some, Bool.not_true, O9, Int.toNat_natCast]
 rw [if_neg (by simp), N0 (by omega), Option.bind_some, hg0, Option.bind_some]
 rw [show ((0 : Nat) : Int) = 0 from rfl] at h0
 rw [h0]
 rfl
def g0d (g : l0) : l0 := I9 g (r01 g)
theorem x0e (g : l0) (hf : P0 g = true) : U6 g = some (g0d g) := by
 obtain ⟨h1, h2, h3, h4⟩ := C4 hf
 have hF := Z9 g (by omega)
 have hO := w0e g hf
 obtain ⟨ho, ho1⟩ := u08 hf
 have hle := T02 _ _ ho.1 ho.2
 obtain ⟨r, n, es⟩ := g
 simp only at h2 h3 h4
 obtain ⟨N, rfl⟩ : ∃ N : Nat, n = (N : Int) := ⟨n.toNat, by omega⟩
 simp only [Int.toNat_natCast] at ho hle
 have hp := V0i r N es (r01 (r, (N : Int), es)) (fun e he => ⟨(h1 e he).1, (h1 e he).2.1⟩) ho.2 (by omega) (by omega) (by omega)
 unfold U6
 simp only [hF, hf, Option.bind_some, Bool.not_true, hO, hp]
 rfl
theorem y0e (g : l0) (hf : P0 g = true) : S6 g = some (g0d g) := by
 obtain ⟨h1, h2, h3, h4⟩ := C4 hf
 have hG : M0 g = true := by
  unfold P0 at hf; exact (Bool.and_eq_true _ _ ▸ hf).1
 have hO := v0e g hf
 obtain ⟨ho, ho1⟩ := u08 hf
 have hle := T02 _ _ ho.1 ho.2
 obtain ⟨r, n, es⟩ := g
 simp only at h2 h3 h4
 obtain ⟨N, rfl⟩ : ∃ N : Nat, n = (N : Int) := ⟨n.toNat, by omega⟩
 simp only [Int.toNat_natCast] at ho hle
 have hp := T0a r N es (r01 (r, (N : Int), es)) hG ho.2 ho.1 ho1 hle
 unfold S6
 simp only [Option.bind_some, hO, hp]
 rw [if_neg (by simp; intro h; rw [h] at ho1; simp at ho1)]
 rfl
end Go.Proofs.YtfdlgbfeceodeaaGreat
namespace Go.Proofs.YtfdlgbfeceodeaaGreat
open Go.H
set_option linter.unusedVariables false
set_option linter.unusedSimpArgs false
def lf (bad : Nat → Bool) : Nat → Nat → Option Nat
 | 0, v => none
 | d + 1, v => bif bad v then some v else lf bad d (v + 1)
theorem X0a {bad : Nat → Bool} : ∀ (d v k : Nat), lf bad d v = some k → v ≤ k ∧ k < v + d
 | 0, v, k, h => by cases h
 | d + 1, v, k, h => by
  unfold lf at h
  cases hb : bad v
  ·rw [hb] at h; have := X0a d (v + 1) k h; omega
  ·rw [hb] at h; cases h; omega
theorem z0e {b1 b2 : Nat → Bool} : ∀ (d v : Nat), (∀ k, v ≤ k → k < v + d → b1 k = b2 k) → lf b1 d v = lf b2 d v
 | 0, v, h => rfl
 | d + 1, v, h => by unfold lf; rw [h v (Nat.le_refl _) (by omega), z0e d (v + 1) fun k h1 h2 => h k (by omega) (by omega)]
def R0h (es : List D0) : List Int := itS es (es.length + 1) [0]
def R0f (es : List D0) (v : Nat) : Bool := decide (V03 (v : Int) es < 2) || !decide ((v : Int) ∈ R0h es)
def U02 (g : l0) : Option Nat := lf (R0f g.2.2) (g.2.1.toNat - 1) 1
theorem S0f (g : l0) (hg : M0 g = true) : a8 g 0 = some (R0h g.2.2) ∧ (R0h g.2.2).length ≤ 100000 := by
 obtain ⟨h1, h2, h3, h4⟩ := T1 hg
 have hq := Q5 g (by omega)
 obtain ⟨r, n, es⟩ := g
 simp only at h2 h3 h4
 unfold a8 R0h
 have hl := Q0a es h4 (es.length + 1) 0 S0 [0] (by omega) (W0 (by omega)) (by simp)
 have hlen := O0g es (es.length + 1) [0]
 refine ⟨?_, ?_⟩
 ·rw [show ((0 : Nat) : Int) = 0 from rfl] at hl
  simp only [hq, hg, Option.bind_some, Bool.not_true, Bool.not_false, J2, G01, inR, w64 (show -9223372036854775808 ≤ n - 1 by omega) (show n - 1 ≤ 9223372036854775807 by omega)]
  rw [if_neg (by simp; omega), hl]; rfl
 ·have : (es.length + 1) * (2 * es.length) ≤ 121 * 240 := Nat.mul_le_mul (by omega) (by omega)
  simp only [List.length_singleton] at hlen
  simp only
  omega
theorem e0j (r : Int) (n : Nat) (es : List D0) (hes : es.length ≤ 1000) (u : List Int) (hu : u.length ≤ 100000) (hn : n ≤ 40) : ∀ (d v fuel : Nat), v + d = n ∨ (d = 0 ∧ n ≤ v) → v ≤ 1000 → d < fuel →
  P6 (n : Int) r es u fuel (v : Int) = some (match lf (fun v => decide (V03 (v : Int) es < 2) || !decide ((v : Int) ∈ u)) d v with | some k => .inl (k : Int) | none => .inr ())
 | d, v, 0, hd, hv, hf => by omega
 | 0, v, fuel + 1, hd, hv, hf => by
  rw [P6.eq_2, if_neg (by simp; omega)]; rfl
 | d + 1, v, fuel + 1, hd, hv, hf => by
  have ih := e0j r n es hes u hu hn d (v + 1) fuel (by omega) (by omega) (by omega)
  have hdeg := b0d (v : Int) es
  rw [P6.eq_2, if_pos (by simp; omega), b0c (r, (n : Int), es) _ (by simp only; omega), Option.bind_some, N0 (c64 (by simp only; omega) (by simp only; omega)), Option.bind_some, A2 (show v < 10000 by omega) (by omega)]
  unfold lf
  by_cases c1 : V03 (v : Int) es < 2
  ·have e1 : decide (((V03 (v : Int) es : Nat) : Int) < 2) = true := decide_eq_true (by omega)
   simp only [e1, Bool.not_true, M5, Option.bind_some, cond_true, if_true, decide_eq_true c1, Bool.true_or]
  ·have e1 : decide (((V03 (v : Int) es : Nat) : Int) < 2) = false := decide_eq_false (by omega)
   simp only [e1, Bool.not_false, J2, K09 u _ (show u.length ≤ 9223372036854775807 by omega), Option.bind_some, cond_false, decide_eq_false c1, Bool.false_or]
   by_cases c2 : (v : Int) ∈ u
   ·simp only [decide_eq_true c2, Bool.not_true, Bool.false_eq_true, if_false, cond_false]; exact ih
   ·simp only [decide_eq_false c2, Bool.not_false, if_true, cond_true]
theorem S0k (g : l0) (hg : M0 g = true) : t00 g = some (match U02 g with | some k => (k : Int) | none => -1) := by
 obtain ⟨e1, e2⟩ := S0f g hg
 obtain ⟨h1, h2, h3, h4⟩ := T1 hg
 obtain ⟨r, n, es⟩ := g
 simp only at h2 h3 h4 e1 e2
 obtain ⟨N, rfl⟩ : ∃ N : Nat, n = (N : Int) := ⟨n.toNat, by omega⟩
 unfold t00 U02
 have hl := e0j r N es (by omega) (R0h es) e2 (by omega) (N - 1) 1 S0 (by omega) (by omega) (W0 (by omega))
 simp only [e1, Option.bind_some, Int.toNat_natCast]
 rw [show (1 : Int) = ((1 : Nat) : Int) from rfl, hl]
 rw [show (fun v : Nat => decide (V03 (v : Int) es < 2) || !decide ((v : Int) ∈ R0h es)) = R0f es from rfl]
 cases lf (R0f es) (N - 1) 1 <;> rfl
theorem Z0g (r : Int) (n : Nat) (es : List D0) (hes : es.length ≤ 1000) (S : List Bool) (hS : S.length = n) (hn : n ≤ 40) : ∀ (d v fuel : Nat), 1 ≤ v → v + d = n ∨ (d = 0 ∧ n ≤ v) → v ≤ 1000 → d + 1 < fuel →
  K3 (n : Int) r es S fuel 0 (v : Int) = some (match lf (fun v => decide (V03 (v : Int) es < 2) || !r8 S (v : Int)) d v with | some k => (k : Int) | none => 0)
 | d, v, 0, h1, hd, hv, hf => by omega
 | 0, v, fuel + 1, h1, hd, hv, hf => by
  have e : decide ((v : Int) < (n : Int)) = false := decide_eq_false (by omega)
  rw [K3.eq_2, if_neg (by rw [e]; simp)]; rfl
 | d + 1, v, fuel + 1, h1, hd, hv, hf => by
  have ih := Z0g r n es hes S hS hn d (v + 1) fuel (by omega) (by omega) (by omega) (by omega)
  have hdeg := b0d (v : Int) es
  have e : decide ((v : Int) < (n : Int)) = true := decide_eq_true (by omega)
  have hfin : ∀ w : Int, K3 (n : Int) r es S fuel (v : Int) w = some (v : Int) := fun w => by
   obtain _ | fuel := fuel
   ·omega
   ·have e2 : decide ((v : Int) = 0) = false := decide_eq_false (by omega)
    have e3 : ∀ b : Bool, (bif b then false else false) = false := fun b => by cases b <;> rfl
    rw [K3.eq_2, if_neg (by rw [e2, e3]; simp)]
  rw [K3.eq_2, if_pos (by rw [e]; rfl), P0h (r, (n : Int), es) _ (by simp only; omega), Option.bind_some, N0 (c64 (by simp only; omega) (by simp only; omega)), Option.bind_some, A2 (show v < 10000 by omega) (by omega)]
  unfold lf
  by_cases c1 : V03 (v : Int) es < 2
  ·have e1 : decide (((V03 (v : Int) es : Nat) : Int) < 2) = true := decide_eq_true (by omega)
   simp only [e1, Bool.not_true, M5, Option.bind_some, cond_true, if_true, decide_eq_true c1, Bool.true_or, hfin]
  ·have e1 : decide (((V03 (v : Int) es : Nat) : Int) < 2) = false := decide_eq_false (by omega)
   simp only [e1, Bool.not_false, J2, giB hS (show (0 : Int) ≤ (v : Int) by omega) (show (v : Int) < (n : Int) by omega), Option.bind_some, cond_false, decide_eq_false c1, Bool.false_or]
   cases hb : r8 S (v : Int)
   ·simp only [Bool.not_false, if_true, cond_true, hfin]
   ·simp only [Bool.not_true, Bool.false_eq_true, if_false, cond_false]; exact ih
def wo (g : Nat) : Nat → Nat → List Int
 | 0, k => []
 | d + 1, k => if k = g then wo g d (k + 1) else (k : Int) :: wo g d (k + 1)
theorem T0f (g : Nat) : ∀ (d k : Nat), (wo g d k).length = d - (if k ≤ g ∧ g < k + d then 1 else 0)
 | 0, k => by simp [wo]
 | d + 1, k => by
  have ih := T0f g d (k + 1)
  unfold wo
  by_cases c : k = g
  ·rw [if_pos c, ih, if_neg (by omega), if_pos (by omega)]; omega
  ·rw [if_neg c, List.length_cons, ih]
   by_cases c2 : k + 1 ≤ g ∧ g < k + 1 + d
   ·rw [if_pos c2, if_pos (by omega)]; omega
   ·rw [if_neg c2, if_neg (by omega)]; omega
theorem f0j (g n : Nat) : ∀ (d k : Nat), k + d ≤ n → inV n (wo g d k)
 | 0, k, h => fun x hx => nomatch hx
 | d + 1, k, h => by
  have ih := f0j g n d (k + 1) (by omega)
  unfold wo
  split
  ·exact ih
  ·intro x hx
   rcases List.mem_cons.1 hx with rfl | hx
   ·omega
   ·exact ih x hx
theorem a0h (n g : Nat) (hn : n ≤ 1000) : ∀ (d k fuel : Nat) (acc : List Int), k + d = n → d < fuel → acc.length ≤ k →
  L4 (n : Int) (g : Int) fuel (k : Int) acc = some (acc ++ wo g d k)
 | d, k, 0, acc, hd, hf, ha => by omega
 | 0, k, fuel + 1, acc, hd, hf, ha => by
  rw [L4.eq_2, if_neg (by simp; omega)]; simp [wo]
 | d + 1, k, fuel + 1, acc, hd, hf, ha => by
  have ih := fun acc' h => a0h n g hn d (k + 1) fuel acc' (by omega) (by omega) h
  rw [L4.eq_2, if_pos (by simp; omega), A2 (show k < 10000 by omega) (by omega)]
  unfold wo
  by_cases c : k = g
  ·have e : decide ((k : Int) = (g : Int)) = true := decide_eq_true (by omega)
   rw [e, if_neg (by simp), if_pos c, ih _ (by omega)]
  ·have e : decide ((k : Int) = (g : Int)) = false := decide_eq_false (by omega)
   rw [e, if_pos (show (!false) = true from rfl), if_neg c, N0 (by simp; omega), Option.bind_some, ih _ (by simp; omega)]
   simp
theorem b0h (n : Nat) (hn : n ≤ 1000) : ∀ (d k fuel : Nat) (acc : List Int), k + d = n → d < fuel → acc.length = k →
  ∃ u, d5 (n : Int) fuel (k : Int) acc = some u ∧ u.length = n
 | d, k, 0, acc, hd, hf, ha => by omega
 | 0, k, fuel + 1, acc, hd, hf, ha => by
  rw [d5.eq_2, if_neg (by simp; omega)]; exact ⟨_, rfl, by omega⟩
 | d + 1, k, fuel + 1, acc, hd, hf, ha => by
  obtain ⟨u, e1, e2⟩ := b0h n hn d (k + 1) fuel (acc ++ [(k : Int)]) (by omega) (by omega) (by simp; omega)
  rw [d5.eq_2, if_pos (by simp; omega), A2 (show k < 10000 by omega) (by omega), N0 (by simp; omega), Option.bind_some, e1]
  exact ⟨u, rfl, e2⟩
theorem g0j {α : Type} {xs : List α} {k : Nat} (h : k ≤ xs.length) : n06 xs 0 (k : Int) = some (xs.take k) := by
 unfold n06
 rw [if_pos (by omega)]; rfl
theorem P01 {g : l0} (h : P0 g = true) : M0 g = true := by
 unfold P0 at h; exact (Bool.and_eq_true _ _ ▸ h).1
end Go.Proofs.YtfdlgbfeceodeaaGreat
namespace Go.Proofs.YtfdlgbfeceodeaaGreat
open Go.H
set_option linter.unusedVariables false
set_option linter.unusedSimpArgs false
def T0k (l : G09) : Prop := l.length ≤ 140737488355328 ∧ ∀ e ∈ l, e.1.size ≤ 140737488355328 ∧ e.2.2.2.length ≤ 140737488355328
end Go.Proofs.YtfdlgbfeceodeaaGreat
namespace Go.Proofs.YtfdlgbfeceodeaaGreat
open Go.H
set_option linter.unusedVariables false
set_option linter.unusedSimpArgs false
def h0j (l : G09) : Prop := l.length ≤ 1048576 ∧ ∀ e ∈ l, e.1.size ≤ 1048576 ∧ e.2.2.2.length ≤ 1048576
theorem h0j.ok {l : G09} (h : h0j l) : T0k l := ⟨by have := h.1; omega, fun e he => by have := h.2 e he; omega⟩
end Go.Proofs.YtfdlgbfeceodeaaGreat
namespace Go.Proofs.YtfdlgbfeceodeaaGreat
open Go.H
set_option linter.unusedVariables false
set_option linter.unusedSimpArgs false
theorem A0e {α : Type} {cf : α → α → Int} (h : s8 cf) : ∀ {l : List α}, (∀ i x y, l[i]? = some x → l[i + 1]? = some y → cf x y < 0) → Asc cf l
 | [], _ => List.Pairwise.nil
 | [x], _ => List.pairwise_singleton _ _
 | x :: y :: l, hn => by
  have ih : Asc cf (y :: l) := A0e h fun i a b ha hb => hn (i + 1) a b (by simpa using ha) (by simpa using hb)
  have hxy := hn 0 x y rfl rfl
  refine List.pairwise_cons.2 ⟨fun z hz => ?_, ih⟩
  rcases List.mem_cons.1 hz with rfl | hz
  ·exact hxy
  ·exact h.trans _ _ _ hxy ((List.pairwise_cons.1 ih).1 z hz)
theorem i0j {α : Type} {cf : α → α → Int} : ∀ {l : List α}, Asc cf l → ∀ {i : Nat} {x y : α}, l[i]? = some x → l[i + 1]? = some y → cf x y < 0
 | [], _, i, x, y, hx, _ => by simp at hx
 | a :: l, h, 0, x, y, hx, hy => by
  simp at hx hy; subst hx
  exact (List.pairwise_cons.1 h).1 y (List.mem_of_getElem? hy)
 | a :: l, h, i + 1, x, y, hx, hy => i0j (List.pairwise_cons.1 h).2 (i := i) (by simpa using hx) (by simpa using hy)
theorem j0j {r hi : Int} {es : List D0} : ∀ {d k : Nat}, (∀ i, k ≤ i → i < k + d → P0i r hi es i = false) → okE r hi es d k = true
 | 0, k, h => rfl
 | d + 1, k, h => by
  simp only [okE, Bool.and_eq_true, Bool.not_eq_true']
  exact ⟨h k (Nat.le_refl _) (by omega), j0j fun i h1 h2 => h i (by omega) (by omega)⟩
theorem E9 (g : l0) : M0 g = true ↔ inG g ∧ (1 ≤ g.1 ∧ g.1 ≤ 3) ∧ (1 ≤ g.2.1 ∧ g.2.1 ≤ 40) ∧ g.2.2.length ≤ 120 ∧ Asc K0 g.2.2 := by
 constructor
 ·intro h
  obtain ⟨q1, q2, q3, q4⟩ := T1 h
  refine ⟨q1, q2, q3, q4, A0e Y5 fun i x y hx hy => ?_⟩
  simp only [M0, Bool.and_eq_true] at h
  have hb := L0f h.1.1.1 (i + 1) (Nat.zero_le _) (by have := (List.getElem?_eq_some_iff.1 hy).1; omega)
  rw [p07 hy] at hb
  simp only [Nat.add_sub_cancel, hx, Bool.or_eq_false_iff] at hb
  have := hb.2
  simp only [show decide (0 < i + 1) = true by simp, Bool.true_and, decide_eq_false_iff_not] at this
  have e : C0a x y = K0 x y := rfl
  omega
 ·rintro ⟨q1, q2, q3, q4, q5⟩
  obtain ⟨r, n, es⟩ := g
  simp only at q2 q3 q4 q5
  simp only [M0, inR, Bool.and_eq_true, decide_eq_true_eq]
  refine ⟨⟨⟨j0j fun i _ hi => ?_, q2⟩, q3⟩, q4⟩
  have hx := V5 (show i < es.length by omega)
  generalize es[i] = e at hx
  rw [p07 hx]
  have he := q1 e (List.mem_of_getElem? hx)
  simp only at he
  simp only [Bool.or_eq_false_iff, Bool.not_eq_false', H01, inR, Bool.and_eq_true, decide_eq_true_eq]
  rw [w64 (by omega) (by omega)]
  refine ⟨⟨⟨⟨by omega, by omega⟩, by omega, by omega⟩, by omega, by omega⟩, ?_⟩
  cases i with
  | zero => rfl
  | succ j =>
   have hy := V5 (show j < es.length by omega)
   generalize es[j] = f at hy
   have := i0j q5 hy hx
   simp only [Nat.add_sub_cancel, hy]
   have e' : C0a f e = K0 f e := rfl
   simp [e']; omega
theorem A07 {r : Int} {n : Int} {es : List D0} (hr : 1 ≤ r ∧ r ≤ 3) (hn : 1 ≤ n ∧ n ≤ 40) (hes : es.length ≤ 120) (hin : inG (r, n, es)) : M0 (r, n, t6 K0 [] es) = true := by
 refine (E9 _).2 ⟨fun e he => hin e ?_, hr, hn, ?_, i01 Y5 _ _ List.Pairwise.nil⟩
 ·rcases (W8 Y5 e es []).1 he with h | h
  ·simp at h
  ·exact h
 ·have := C01 es []
  simp only [List.length_nil] at this
  simp only; omega
def B07 (a b : D0) : List (Int × Int) :=
 bif decide (a.2.1 = b.2.1) then (bif decide (a.1 = b.1) then [(if b.2.2 < a.2.2 then b.2.2 else a.2.2, if b.2.2 > a.2.2 then b.2.2 else a.2.2)] else []) ++ (bif decide (a.2.2 = b.2.2) then [(if b.1 < a.1 then b.1 else a.1, if b.1 > a.1 then b.1 else a.1)] else []) else []
def I00 (a : D0) : List D0 → List (Int × Int)
 | [] => []
 | b :: r => B07 a b ++ I00 a r
def j7 : List D0 → List (Int × Int)
 | [] => []
 | a :: r => I00 a r ++ j7 r
theorem S0h (a b : D0) : (B07 a b).length ≤ 2 := by
 unfold B07
 cases decide (a.2.1 = b.2.1) <;> cases decide (a.1 = b.1) <;> cases decide (a.2.2 = b.2.2) <;> simp
theorem v08 (a : D0) : ∀ l, (I00 a l).length ≤ 2 * l.length
 | [] => by simp [I00]
 | b :: r => by have := S0h a b; have := v08 a r; simp only [I00, List.length_append, List.length_cons]; omega
def mvV (f : Int × Int) (v : Int) : Int := if v = f.2 then f.1 else if v > f.2 then v - 1 else v
def mvE (f : Int × Int) (e : D0) : D0 := (mvV f e.1, e.2.1, mvV f e.2.2)
def P9 (g : l0) (f : Int × Int) : l0 := (g.1, g.2.1 - 1, t6 K0 [] (g.2.2.map (mvE f)))
def okF (g : l0) (f : Int × Int) : Prop := 0 ≤ f.1 ∧ f.1 < f.2 ∧ f.2 < g.2.1
theorem K02 {g : l0} {f : Int × Int} (hg : M0 g = true) (hf : okF g f) : M0 (P9 g f) = true := by
 obtain ⟨q1, q2, q3, q4, _⟩ := (E9 g).1 hg
 obtain ⟨f1, f2, f3⟩ := hf
 refine A07 q2 ⟨by omega, by omega⟩ (by simpa using q4) fun e he => ?_
 obtain ⟨e', he', rfl⟩ := List.mem_map.1 he
 obtain ⟨a1, a2, a3⟩ := q1 e' he'
 have hm : ∀ v : Int, 0 ≤ v ∧ v < g.2.1 → 0 ≤ mvV f v ∧ mvV f v < g.2.1 - 1 := fun v hv => by
  unfold mvV; split
  ·omega
  ·split <;> omega
 exact ⟨hm _ a1, hm _ a2, a3⟩
theorem B0e {g : l0} (hg : inG g) {a : D0} (ha : a ∈ g.2.2) : ∀ {l : List D0}, (∀ b ∈ l, b ∈ g.2.2 ∧ a ≠ b) → ∀ f ∈ I00 a l, okF g f
 | [], _, f, hf => by simp [I00] at hf
 | b :: r, h, f, hf => by
  rcases List.mem_append.1 (show f ∈ B07 a b ++ I00 a r from hf) with hf | hf
  ·have hb := hg b (h b (List.mem_cons_self ..)).1
   have ha' := hg a ha
   have hne := (h b (List.mem_cons_self ..)).2
   obtain ⟨a0, a1, a2⟩ := a
   obtain ⟨b0, b1, b2⟩ := b
   simp only at ha' hb
   unfold B07 at hf
   simp only at hf
   by_cases c1 : a1 = b1
   ·have d1 : ¬ (a0 = b0 ∧ a2 = b2) := fun ⟨x, y⟩ => hne (by rw [x, c1, y])
    simp only [c1, decide_true, cond_true, List.mem_append] at hf
    rcases hf with hf | hf
    ·by_cases c2 : a0 = b0
     ·simp only [c2, decide_true, cond_true, List.mem_singleton] at hf
      subst hf
      have : a2 ≠ b2 := fun y => d1 ⟨c2, y⟩
      unfold okF
      simp only
      split <;> split <;> omega
     ·simp [c2] at hf
    ·by_cases c2 : a2 = b2
     ·simp only [c2, decide_true, cond_true, List.mem_singleton] at hf
      subst hf
      have : a0 ≠ b0 := fun y => d1 ⟨y, c2⟩
      unfold okF
      simp only
      split <;> split <;> omega
     ·simp [c2] at hf
   ·simp [c1] at hf
  ·exact B0e hg ha (fun b' hb' => h b' (List.mem_cons_of_mem _ hb')) f hf
theorem C0e {g : l0} (hg : inG g) : ∀ {l : List D0}, (∀ b ∈ l, b ∈ g.2.2) → Asc K0 l → ∀ f ∈ j7 l, okF g f
 | [], _, _, f, hf => by simp [j7] at hf
 | a :: r, h, hA, f, hf => by
  rcases List.mem_append.1 (show f ∈ I00 a r ++ j7 r from hf) with hf | hf
  ·refine B0e hg (h a (List.mem_cons_self ..)) (fun b hb => ⟨h b (List.mem_cons_of_mem _ hb), fun e => ?_⟩) f hf
   have := (List.pairwise_cons.1 hA).1 b hb
   rw [e, Y5.refl] at this; omega
  ·exact C0e hg (fun b hb => h b (List.mem_cons_of_mem _ hb)) (List.pairwise_cons.1 hA).2 f hf
theorem n02 {g : l0} (hg : M0 g = true) : ∀ f ∈ j7 g.2.2, okF g f := by
 obtain ⟨q1, _, _, _, q5⟩ := (E9 g).1 hg
 exact C0e q1 (fun _ h => h) q5
def Q9 : Nat → l0 → l0 × List (Int × Int)
 | 0, g => (g, [])
 | n + 1, g => match j7 g.2.2 with
  | [] => (g, [])
  | f :: _ => ((Q9 n (P9 g f)).1, f :: (Q9 n (P9 g f)).2)
def Y3 (g : l0) : l0 × List (Int × Int) := bif M0 g then Q9 40 g else (g, [])
theorem Y04 : ∀ (n : Nat) {g : l0}, M0 g = true → M0 (Q9 n g).1 = true
 | 0, g, h => h
 | n + 1, g, h => by
  unfold Q9
  cases e : j7 g.2.2 with
  | nil => exact h
  | cons f l => exact Y04 n (K02 h (n02 h f (by rw [e]; exact List.mem_cons_self ..)))
theorem t06 : ∀ (n : Nat) {g : l0}, M0 g = true → g.2.1 ≤ (n : Int) + 1 → j7 (Q9 n g).1.2.2 = []
 | 0, g, h, hn => by
  cases e : j7 g.2.2 with
  | nil => exact e
  | cons f l =>
   have := n02 h f (by rw [e]; exact List.mem_cons_self ..)
   unfold okF at this
   omega
 | n + 1, g, h, hn => by
  unfold Q9
  cases e : j7 g.2.2 with
  | nil => exact e
  | cons f l => exact t06 n (K02 h (n02 h f (by rw [e]; exact List.mem_cons_self ..))) (by show g.2.1 - 1 ≤ _; omega)
theorem T0h (a b : D0) : B07 a b = [] ↔ s02 a b = false := by
 unfold B07 s02
 cases decide (a.2.1 = b.2.1) <;> cases decide (a.1 = b.1) <;> cases decide (a.2.2 = b.2.2) <;> simp
theorem g0c (a : D0) : ∀ l, I00 a l = [] ↔ ∀ b ∈ l, s02 a b = false
 | [] => by simp [I00]
 | b :: r => by
  rw [I00, List.append_eq_nil_iff, T0h, g0c a r]
  simp
theorem w08 : ∀ l, j7 l = [] ↔ l.Pairwise fun a b => s02 a b = false
 | [] => by simp [j7]
 | a :: r => by rw [j7, List.append_eq_nil_iff, g0c, w08 r, List.pairwise_cons]
theorem H7 (g : l0) : P0 g = true ↔ M0 g = true ∧ j7 g.2.2 = [] := by
 unfold P0
 rw [Bool.and_eq_true, q08, w08]
theorem Y0a {g : l0} (h : M0 g = true) : P0 (Y3 g).1 = true := by
 have hg := (T1 h).2.2.1
 unfold Y3
 rw [h]
 exact (H7 _).2 ⟨Y04 40 h, t06 40 h (by omega)⟩
end Go.Proofs.YtfdlgbfeceodeaaGreat
namespace Go.Proofs.YtfdlgbfeceodeaaGreat
open Go.H
set_option linter.unusedVariables false
set_option linter.unusedSimpArgs false
theorem c05 {x : C0} (h : d4 x = true) : ∀ w ∈ x.2, Q4 x.1 w = true := by
 simp only [d4, J3, Bool.and_eq_true] at h
 have hw : ∀ {ws : List (List Int)}, D05 x.1 ws = true → ∀ w ∈ ws, Q4 x.1 w = true := by
  intro ws
  induction ws with
  | nil => intro _ w hw; cases hw
  | cons v r ih =>
   intro h w hw
   simp only [D05, Bool.and_eq_true] at h
   rcases List.mem_cons.1 hw with rfl | hw
   ·exact h.1
   ·exact ih h.2 w hw
 exact hw h.1.1.2
theorem D07 {x : C0} (h : d4 x = true) : ∀ w ∈ x.2, (∀ y ∈ w, B7 y) ∧ w.length ≤ 24 := fun w hw => by
 have h1 := c05 h w hw
 refine ⟨fun y hy => ?_, ?_⟩
 ·obtain ⟨i, hi⟩ := List.getElem?_of_mem hy
  have := H02 h1 hi
  refine ⟨⟨by omega, by omega⟩, by omega⟩
 ·simp only [Q4, Bool.and_eq_true, decide_eq_true_eq] at h1
  exact h1.1.2
theorem Y03 {x : C0} (h : d4 x = true) : x.2.length ≤ 6 := by
 simp only [d4, J3, Bool.and_eq_true, decide_eq_true_eq] at h
 exact h.1.1.1.2
def V0h (g : l0) (v : Int) (r : List Int) : Bool := bif decide ((T8 g v r).2 < r.length) then true else !decide ((T8 g v r).1 = v)
def c0b (g : l0) (v : Int) : List (List Int) → Nat → Option Nat
 | [], _ => none
 | r :: l, i => bif V0h g v r then some i else c0b g v l (i + 1)
def Z03 (g : l0) (rels : List (List Int)) : Nat → Nat → Option (Nat × Nat)
 | 0, _ => none
 | d + 1, v => match c0b g (v : Int) rels 0 with
  | some i => some (v, i)
  | none => Z03 g rels d (v + 1)
def d0b (q : Option (Nat × Nat)) : Int × Int := match q with
 | some (v, i) => ((v : Int), (i : Int))
 | none => (-1, -1)
def F9 (p : C0) (g : l0) : Int × Int := bif d4 p && P0 g && decide (p.1 = g.1) then d0b (Z03 g p.2 g.2.1.toNat 0) else (-1, -1)
theorem e0b (rels : List (List Int)) (hrel : ∀ w ∈ rels, (∀ y ∈ w, B7 y) ∧ w.length ≤ 24) (r n : Int) (es : List D0) (hg : inG (r, n, es)) (hn : n ≤ 40) (hes : es.length ≤ 120) (hl : rels.length ≤ 6) (v : Int) (hv : F0 v) : ∀ (d k fuel : Nat), k + d = rels.length → d < fuel →
  J4 rels r n es v fuel (k : Int) = some (match c0b (r, n, es) v (rels.drop k) k with | some i => .inl (v, (i : Int)) | none => .inr ())
 | d, k, 0, hd, hf => by omega
 | 0, k, fuel + 1, hd, hf => by
  rw [J4.eq_2, if_neg (by simp; omega), E1 (by omega)]
  rfl
 | d + 1, k, fuel + 1, hd, hf => by
  have hk : k < rels.length := by omega
  have hx := V5 hk
  obtain ⟨hxm, hxl⟩ := hrel _ (List.getElem_mem hk)
  generalize rels[k] = w at hx hxm hxl
  have hle := I0a (r, n, es) w v
  rw [J4.eq_2, if_pos (by simp; omega), O3 hx, Option.bind_some, P0k (r, n, es) hg hn (by simp only; omega) v w hxm (by omega), Option.bind_some, O1 hx]
  simp only [N0 (J0a hg hn w v hv), N0 (show F0 (((T8 (r, n, es) v w).2 : Nat) : Int) from ⟨by omega, by omega⟩), Option.bind_some, c0b]
  have e : (bif decide ((((T8 (r, n, es) v w).2 : Nat) : Int) < ((w.length : Nat) : Int)) then true else !decide ((T8 (r, n, es) v w).1 = v)) = V0h (r, n, es) v w := by
   unfold V0h
   simp
  rw [e]
  cases V0h (r, n, es) v w with
  | true => rfl
  | false =>
   rw [if_neg (by simp), A2 hk (by omega)]
   exact e0b rels hrel r n es hg hn hes hl v hv d (k + 1) fuel (by omega) (by omega)
theorem f0b (rels : List (List Int)) (hrel : ∀ w ∈ rels, (∀ y ∈ w, B7 y) ∧ w.length ≤ 24) (r : Int) (N : Nat) (es : List D0) (hg : inG (r, (N : Int), es)) (hn : N ≤ 40) (hes : es.length ≤ 120) (hl : rels.length ≤ 6) : ∀ (d k fuel : Nat), k + d = N → d < fuel →
  K4 (N : Int) rels r es fuel (k : Int) = some (match Z03 (r, (N : Int), es) rels d k with | some (v, i) => .inl ((v : Int), (i : Int)) | none => .inr ())
 | d, k, 0, hd, hf => by omega
 | 0, k, fuel + 1, hd, hf => by
  rw [K4.eq_2, if_neg (by simp; omega)]
  rfl
 | d + 1, k, fuel + 1, hd, hf => by
  have h0 := e0b rels hrel r (N : Int) es hg (by omega) hes hl (k : Int) ⟨by omega, by omega⟩ rels.length 0 S0 (by omega) (W0 (by omega))
  rw [show ((0 : Nat) : Int) = 0 from rfl, List.drop_zero] at h0
  rw [K4.eq_2, if_pos (by simp; omega), h0, Option.bind_some]
  simp only [Z03]
  cases c0b (r, (N : Int), es) (k : Int) rels 0 with
  | some i => rfl
  | none =>
   simp only [t0b]
   rw [A2 (show k < N by omega) (by omega)]
   exact f0b rels hrel r N es hg hn hes hl d (k + 1) fuel (by omega) (by omega)
theorem E07 (p : C0) (g : l0) (hl : p.2.length ≤ 140737488355328) (hs : C2 p.2) (hl2 : g.2.2.length ≤ 140737488355328) : d7 p g = some (F9 p g) := by
 have hP := W9 p hl hs
 have hF := Z9 g hl2
 unfold F9
 obtain ⟨pr, rels⟩ := p
 obtain ⟨r, n, es⟩ := g
 unfold d7
 simp only [hP, Option.bind_some]
 cases hp : d4 (pr, rels) with
 | false => rfl
 | true =>
  simp only [Bool.not_true, Bool.not_false, J2, hF, Option.bind_some, cond_false, Bool.true_and]
  cases hf : P0 (r, n, es) with
  | false => rfl
  | true =>
   by_cases hr : pr = r
   ·simp only [Bool.not_true, cond_false, hr, decide_true, Bool.true_and, cond_true, Bool.false_eq_true, if_false]
    obtain ⟨hg, _, hn, hes⟩ := C4 hf
    simp only at hn hes
    obtain ⟨N, rfl⟩ : ∃ N : Nat, n = (N : Int) := ⟨n.toNat, by omega⟩
    have h := f0b rels (D07 hp) r N es hg (by omega) hes (Y03 hp) N 0 S0 (by omega) (W0 (by omega))
    rw [show ((0 : Nat) : Int) = 0 from rfl] at h
    rw [h, Option.bind_some, Int.toNat_natCast]
    cases Z03 (r, (N : Int), es) rels N 0 <;> rfl
   ·simp [hr]
theorem g0b (rels : List (List Int)) (hrel : ∀ w ∈ rels, (∀ y ∈ w, B7 y) ∧ w.length ≤ 24) (r n : Int) (es : List D0) (hf : P0 (r, n, es) = true) (hl : rels.length ≤ 6) (v : Int) (hv : 0 ≤ v ∧ v < n) : ∀ (d k fuel : Nat), k + d = rels.length → d < fuel →
  I4 rels r n es v fuel (k : Int) = some (match c0b (r, n, es) v (rels.drop k) k with | some i => .inl (v, (i : Int)) | none => .inr ())
 | d, k, 0, hd, hf' => by omega
 | 0, k, fuel + 1, hd, hf' => by
  rw [I4.eq_2, if_neg (by simp; omega), E1 (by omega)]
  rfl
 | d + 1, k, fuel + 1, hd, hf' => by
  have hk : k < rels.length := by omega
  have hx := V5 hk
  obtain ⟨hxm, hxl⟩ := hrel _ (List.getElem_mem hk)
  generalize rels[k] = w at hx hxm hxl
  obtain ⟨hg, _, hn, hes⟩ := C4 hf
  simp only at hn hes
  have h64 : F0 v := ⟨by omega, by omega⟩
  rw [I4.eq_2, if_pos (by simp; omega), O3 hx, Option.bind_some, Q0k (r, n, es) hf v hv w hxm (by omega), Option.bind_some, O1 hx]
  simp only [c0b, V0h]
  cases decide ((T8 (r, n, es) v w).2 < w.length) with
  | true =>
   simp only [cond_true, N0 (show F0 (-1) by decide), Option.bind_some, Bool.not_false, if_true]
  | false =>
   simp only [cond_false, N0 (J0a hg hn.2 w v h64), Option.bind_some, Bool.not_true]
   cases decide ((T8 (r, n, es) v w).1 = v) with
   | false => rfl
   | true =>
    rw [if_neg (by simp), A2 hk (by omega)]
    exact g0b rels hrel r n es hf hl v hv d (k + 1) fuel (by omega) (by omega)
theorem h0b (rels : List (List Int)) (r : Int) (N : Nat) (es : List D0) (hp : d4 (r, rels) = true) (hf : P0 (r, (N : Int), es) = true) (hl : rels.length ≤ 140737488355328) (hs : C2 rels) : ∀ (d k fuel : Nat), k + d = N → d < fuel →
  D3 (N : Int) r rels r es fuel (k : Int) = some (match Z03 (r, (N : Int), es) rels d k with | some (v, i) => .inl ((v : Int), (i : Int)) | none => .inr ())
 | d, k, 0, hd, hf' => by omega
 | 0, k, fuel + 1, hd, hf' => by
  have e : decide ((k : Int) < (N : Int)) = false := by simp; omega
  rw [D3.eq_2, e, M5, Option.bind_some]
  simp only [cond_false, M5, Option.bind_some]
  rw [if_neg (by simp)]
  rfl
 | d + 1, k, fuel + 1, hd, hf' => by
  obtain ⟨hg, _, hn, hes⟩ := C4 hf
  simp only at hn hes
  have e : decide ((k : Int) < (N : Int)) = true := by simp; omega
  have h0 := g0b rels (D07 hp) r (N : Int) es hf (Y03 hp) (k : Int) ⟨by omega, by omega⟩ rels.length 0 S0 (by omega) (W0 (by omega))
  rw [show ((0 : Nat) : Int) = 0 from rfl, List.drop_zero] at h0
  rw [D3.eq_2, e, J2, C8 (r, rels) hl hs, Option.bind_some, hp]
  simp only [cond_true, J2, N8 (r, (N : Int), es) (show es.length ≤ 140737488355328 by omega), hf, Option.bind_some, decide_true, if_true, h0]
  simp only [Z03]
  cases c0b (r, (N : Int), es) (k : Int) rels 0 with
  | some i => rfl
  | none =>
   simp only [t0b]
   rw [A2 (show k < N by omega) (by omega)]
   exact h0b rels r N es hp hf hl hs d (k + 1) fuel (by omega) (by omega)
theorem F07 (p : C0) (g : l0) (hl : p.2.length ≤ 140737488355328) (hs : C2 p.2) (hl2 : g.2.2.length ≤ 140737488355328) : c7 p g = some (F9 p g) := by
 have hP := C8 p hl hs
 have hF := N8 g hl2
 unfold F9
 obtain ⟨pr, rels⟩ := p
 obtain ⟨r, n, es⟩ := g
 unfold c7
 have stop : (d4 (pr, rels) && P0 (r, n, es) && decide (pr = r)) = false → D3 n pr rels r es S0 0 = some (.inr ()) := fun hno => by
  rw [show S0 = (S0 - 1) + 1 from rfl, D3.eq_2]
  cases decide ((0 : Int) < n) with
  | false => simp [chk]
  | true =>
   simp only [J2, hP, Option.bind_some, cond_true]
   cases hp : d4 (pr, rels) with
   | false => simp [chk]
   | true =>
    simp only [J2, hF, Option.bind_some, cond_true]
    rw [hp] at hno
    cases hf : P0 (r, n, es) with
    | false => simp
    | true =>
     rw [hf] at hno
     simp only [Bool.true_and] at hno
     simp [hno]
 cases hall : (d4 (pr, rels) && P0 (r, n, es) && decide (pr = r)) with
 | false =>
  simp only [stop hall, Option.bind_some, hall, cond_false]
  rfl
 | true =>
  simp only [Bool.and_eq_true, decide_eq_true_eq] at hall
  obtain ⟨⟨hp, hf⟩, rfl⟩ := hall
  obtain ⟨hg, _, hn, hes⟩ := C4 hf
  simp only at hn hes
  obtain ⟨N, rfl⟩ : ∃ N : Nat, n = (N : Int) := ⟨n.toNat, by omega⟩
  have h := h0b rels pr N es hp hf hl hs N 0 S0 (by omega) (W0 (by omega))
  rw [show ((0 : Nat) : Int) = 0 from rfl] at h
  simp only [h, Option.bind_some, hp, hf, decide_true, Bool.true_and, cond_true, Int.toNat_natCast]
  cases Z03 (pr, (N : Int), es) rels N 0 <;> rfl
end Go.Proofs.YtfdlgbfeceodeaaGreat
