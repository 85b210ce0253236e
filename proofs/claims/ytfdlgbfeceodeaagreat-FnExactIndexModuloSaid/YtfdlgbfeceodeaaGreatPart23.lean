/- Texts of the claim, joined: Plain laws: words and presentations, as the spec and the code know the; Plain laws: lists of words, and presentations, as the spec and the cod; Plain laws: graphs, as the spec and the code know them; Plain laws: steps in a graph; Plain laws: graphs: degrees, equality, edges put in order, sorted edge; Plain laws: valid graphs said in words; folds of a graph; Plain laws: the first defect. -/
import Derived.Test.YtfdlgbfeceodeaaGreatPart18
import Derived.Test.YtfdlgbfeceodeaaGreatH33
import Derived.Test.YtfdlgbfeceodeaaGreatH36
import Derived.Test.YtfdlgbfeceodeaaGreatPart17
namespace Go.Proofs.YtfdlgbfeceodeaaGreat
open Go.H
set_option linter.unusedVariables false
set_option linter.unusedSimpArgs false
theorem W0 {n : Nat} (h : n ≤ 140737488355328) : n < S0 := by unfold S0; omega
theorem N0 {p : Prop} [Decidable p] (h : p) : grd p = some () := by unfold grd; rw [if_pos h]
theorem G2 {α : Type} (o : Option α) (d : α) : chk true o d = o := rfl
theorem N5 {α : Type} (o : Option α) (d : α) : chk false o d = some d := rfl
theorem N3 {α : Type} {xs : List α} {k : Nat} {x : α} (h : xs[k]? = some x) : gi xs (k : Int) = some x := by rw [j08]; exact h
theorem O04 {α : Type} {xs : List α} {x : α} (h : xs[0]? = some x) : gi xs 0 = some x := N3 (k := 0) h
theorem m0e {x : Int} (h : F0 x) (h2 : x ≠ -9223372036854775808) : IntKind.i64.wrap (0 - x) = -x := by rw [w64 (by have := h.1; have := h.2; omega) (by have := h.1; have := h.2; omega)]; omega
theorem u0a {n : Nat} (h : 0 < n) (hm : n ≤ 9223372036854775807) : IntKind.i64.wrap ((n : Int) - 1) = ((n - 1 : Nat) : Int) := by rw [w64 (by omega) (by omega)]; omega
theorem W5 {α : Type} {xs : List α} {k : Nat} (h : k < xs.length) : xs[k]? = some xs[k] := List.getElem?_eq_getElem h
def inR (lo hi x : Int) : Bool := decide (lo ≤ x) && decide (x ≤ hi)
def l03 (lo hi : Int) (w : List Int) (i : Nat) : Bool :=
 match w[i]? with
 | none => true
 | some x => x == 0 || !inR lo hi x || (decide (0 < i) && match w[i - 1]? with
  | none => true
  | some y => x == IntKind.i64.wrap (0 - y))
def g01 (lo hi : Int) (w : List Int) : Nat → Nat → Bool
 | 0, _ => true
 | d + 1, k => !l03 lo hi w k && g01 lo hi w d (k + 1)
def Q4 (r : Int) (w : List Int) : Bool := inR 1 3 r && decide (w.length ≤ 24) && g01 (-r) r w w.length 0
theorem D01 (a b c : Int) : i4 a b c = some (inR b c a) := by
 unfold i4 inR
 by_cases h : b ≤ a <;> simp [h]
theorem x01 (a b c : Int) : Q5 a b c = some (inR b c a) := D01 a b c
theorem m03 (r : Int) (w : List Int) (hl : w.length ≤ 140737488355328) : ∀ (d k fuel : Nat), k + d = w.length → d < fuel →
  N6 w r fuel (k : Int) = some (bif g01 (IntKind.i64.wrap (0 - r)) r w d k then .inr () else .inl false)
 | d, k, 0, hk, hf => by omega
 | 0, k, fuel + 1, hk, hf => by
  rw [N6.eq_2, if_neg (by simp; omega)]
  simp [g01]
 | d + 1, k, fuel + 1, hk, hf => by
  have hkl : k < w.length := by omega
  have hx := W5 hkl
  generalize w[k] = x at hx
  have next := m03 r w hl d (k + 1) fuel (by omega) (by omega)
  rw [N6.eq_2, if_pos (by simp; omega)]
  generalize IntKind.i64.wrap (0 - r) = lo at next ⊢
  simp only [N3 hx, Option.bind_some, D01, A2 hkl (by omega : w.length ≤ 9223372036854775807), next]
  have hbad : l03 lo r w k = (x == 0 || !inR lo r x || (decide (0 < k) && match w[k - 1]? with
   | none => true
   | some y => x == IntKind.i64.wrap (0 - y))) := by unfold l03; rw [hx]
  simp only [g01, hbad]
  by_cases h0 : x = 0
  ·simp [h0, chk]
  have e0 : decide (x = 0) = false := by simpa using h0
  have b0 : (x == 0) = false := by simpa using h0
  cases hin : inR lo r x with
  | false => simp [e0, b0, hin, chk]
  | true =>
   by_cases hk0 : k = 0
   ·have ek : decide ((k : Int) > 0) = false := by simp; omega
    have bk : decide (0 < k) = false := by simp; omega
    simp only [e0, b0, hin, ek, bk, G2, N5, Bool.not_true, Bool.not_false, Bool.and_true, Bool.false_and, Bool.or_self, Bool.true_and, cond_true, cond_false, Option.bind_some, Bool.or_false, Bool.and_false, Bool.false_eq_true, if_false, cond_true, cond_false]
   ·have hy := W5 (show k - 1 < w.length by omega)
    generalize w[k - 1] = y at hy
    have hpr : IntKind.i64.wrap ((k : Int) - 1) = ((k - 1 : Nat) : Int) := u0a (by omega) (by omega)
    have ek : decide ((k : Int) > 0) = true := by simp; omega
    have bk : decide (0 < k) = true := by simp; omega
    simp only [e0, b0, hin, ek, bk, hpr, hy, N3 hx, N3 hy, G2, N5, Bool.not_true, Bool.not_false, Bool.and_true, Bool.false_and, Bool.or_self, Bool.true_and, cond_true, cond_false, Option.bind_some, Bool.or_false, Bool.and_false, Bool.false_or]
    by_cases hxy : x = IntKind.i64.wrap (0 - y)
    ·have e1 : decide (x = IntKind.i64.wrap (0 - y)) = true := by simpa using hxy
     have b1 : (x == IntKind.i64.wrap (0 - y)) = true := by simpa using hxy
     simp only [e1, b1, if_true, Bool.not_true, Bool.false_and, Bool.false_eq_true, if_false, cond_true, cond_false]
    ·have e1 : decide (x = IntKind.i64.wrap (0 - y)) = false := by simpa using hxy
     have b1 : (x == IntKind.i64.wrap (0 - y)) = false := by simpa using hxy
     simp only [e1, b1, Bool.false_eq_true, if_false, Bool.not_false, Bool.true_and]
theorem g07 (r : Int) (w : List Int) (hl : w.length ≤ 140737488355328) : z9 r w = some (Q4 r w) := by
 unfold z9
 have h := m03 r w hl w.length 0 S0 (by omega) (W0 hl)
 rw [show ((0 : Nat) : Int) = 0 from rfl] at h
 rw [h, D01]
 unfold Q4
 by_cases hr : inR 1 3 r = true
 ·have : IntKind.i64.wrap (0 - r) = -r := by
   simp only [inR, Bool.and_eq_true, decide_eq_true_eq] at hr
   rw [w64 (by omega) (by omega)]; omega
  rw [this, hr]
  cases g01 (-r) r w w.length 0 <;> simp [l7] <;> omega
 ·simp only [Bool.not_eq_true] at hr
  rw [hr]
  cases g01 (IntKind.i64.wrap (0 - r)) r w w.length 0 <;> simp [l7]
theorem G0f (r x : Int) (hr : inR 1 3 r = true) : a9 r x = some (!(x == 0) && inR (-r) r x) := by
 have hn : IntKind.i64.wrap (0 - r) = -r := by
  simp only [inR, Bool.and_eq_true, decide_eq_true_eq] at hr
  rw [w64 (by omega) (by omega)]; omega
 unfold a9
 rw [hn, x01]
 by_cases h0 : x = 0
 ·simp [h0, chk]
 ·simp [h0, chk]
theorem h07 (y x : Int) : E7 y x = some (!(y == 0) && !(y == -9223372036854775808) && (x == IntKind.i64.wrap (0 - y))) := by
 unfold E7
 by_cases h0 : y = 0
 ·simp [h0]
 ·by_cases h1 : y = -9223372036854775808
  ·simp [h1]
  ·simp only [h0, h1, decide_false, Bool.not_false, cond_true, Option.some.injEq]
   have b2 : (y == 0) = false := by simpa using h0
   have b3 : (y == -9223372036854775808) = false := by simpa using h1
   rw [b2, b3]
   rfl
theorem n03 (r : Int) (w : List Int) (hr : inR 1 3 r = true) (hl : w.length ≤ 140737488355328) : ∀ (d k fuel : Nat), k + d = w.length → d < fuel →
  (∀ i, i < k → l03 (-r) r w i = false) →
  O6 w r fuel (k : Int) = some (bif g01 (-r) r w d k then .inr () else .inl false)
 | d, k, 0, hk, hf, hp => by omega
 | 0, k, fuel + 1, hk, hf, hp => by
  rw [O6.eq_2, if_neg (by simp; omega)]
  simp [g01]
 | d + 1, k, fuel + 1, hk, hf, hp => by
  have hkl : k < w.length := by omega
  have hx := W5 hkl
  generalize w[k] = x at hx
  have next := fun (hb : l03 (-r) r w k = false) => n03 r w hr hl d (k + 1) fuel (by omega) (by omega) (fun i hi => by
   by_cases e : i = k
   ·subst e; exact hb
   ·exact hp i (by omega))
  rw [O6.eq_2, if_pos (by simp; omega)]
  rw [N3 hx, Option.bind_some, G0f r x hr, A2 hkl (by omega : w.length ≤ 9223372036854775807)]
  have hbad : l03 (-r) r w k = (x == 0 || !inR (-r) r x || (decide (0 < k) && match w[k - 1]? with
   | none => true
   | some y => x == IntKind.i64.wrap (0 - y))) := by unfold l03; rw [hx]
  simp only [g01]
  by_cases h0 : x = 0
  ·simp [h0, chk, hbad]
  have b0 : (x == 0) = false := by simpa using h0
  cases hin : inR (-r) r x with
  | false => simp [b0, hin, chk, hbad]
  | true =>
   by_cases hk0 : k = 0
   ·have hb : l03 (-r) r w k = false := by rw [hbad]; simp [h0, hin, hk0]
    rw [next hb, hb]
    have ek : decide ((k : Int) > 0) = false := by simp; omega
    simp only [b0, ek, G2, N5, Bool.not_true, Bool.not_false, Bool.and_true, Bool.false_and, Bool.or_self, Bool.true_and, cond_true, cond_false, Option.bind_some, Bool.or_false, Bool.and_false, Bool.false_eq_true, if_false, cond_true, cond_false]
   ·have hy := W5 (show k - 1 < w.length by omega)
    have hpy := hp (k - 1) (by omega)
    generalize w[k - 1] = y at hy
    have hy0 : y ≠ 0 ∧ y ≠ -9223372036854775808 := by
     unfold l03 at hpy
     rw [hy] at hpy
     simp only [Bool.or_eq_false_iff, Bool.not_eq_false'] at hpy
     have h1 := hpy.1.2
     simp only [inR, Bool.and_eq_true, decide_eq_true_eq] at h1 hr
     exact ⟨by simpa using hpy.1.1, by omega⟩
    have b2 : (y == 0) = false := by simpa using hy0.1
    have b3 : (y == -9223372036854775808) = false := by simpa using hy0.2
    have hpr : IntKind.i64.wrap ((k : Int) - 1) = ((k - 1 : Nat) : Int) := u0a (by omega) (by omega)
    have ek : decide ((k : Int) > 0) = true := by simp; omega
    have bk : decide (0 < k) = true := by simp; omega
    simp only [b0, ek, hpr, N3 hy, h07, b2, b3, G2, N5, Bool.not_true, Bool.not_false, Bool.and_true, Bool.false_and, Bool.or_self, Bool.true_and, cond_true, cond_false, Option.bind_some, Bool.or_false, Bool.and_false, Bool.false_or]
    cases b1 : (x == IntKind.i64.wrap (0 - y)) with
    | true =>
     have hb : l03 (-r) r w k = true := by rw [hbad, hy, bk, b0, hin]; exact b1
     simp only [hb, if_true, Bool.not_true, Bool.false_and, Bool.false_eq_true, if_false, cond_true, cond_false]
    | false =>
     have hb : l03 (-r) r w k = false := by rw [hbad, hy, bk, b0, hin]; exact b1
     simp only [hb, next hb, Bool.false_eq_true, if_false, Bool.not_false, Bool.true_and]
theorem i07 (r : Int) (w : List Int) (hl : w.length ≤ 140737488355328) : A9 r w = some (Q4 r w) := by
 unfold A9
 rw [x01]
 unfold Q4
 cases hr : inR 1 3 r with
 | false => simp
 | true =>
  by_cases h24 : w.length ≤ 24
  ·have h := n03 r w hr hl w.length 0 S0 (by omega) (W0 hl) (fun i hi => by omega)
   rw [show ((0 : Nat) : Int) = 0 from rfl] at h
   have h24' : ¬ (24 : Int) < (w.length : Int) := by omega
   simp only [Option.bind_some, h, h24']
   cases g01 (-r) r w w.length 0 <;> simp [l7, h24]
  ·have h24' : (24 : Int) < (w.length : Int) := by omega
   simp [h24, h24']
end Go.Proofs.YtfdlgbfeceodeaaGreat
namespace Go.Proofs.YtfdlgbfeceodeaaGreat
open Go.H
set_option linter.unusedVariables false
set_option linter.unusedSimpArgs false
def tot : List (List Int) → Nat
 | [] => 0
 | w :: r => w.length + tot r
theorem K1 {α : Type} {xs : List α} {k : Nat} {x : α} (h : xs[k]? = some x) : xs.drop k = x :: xs.drop (k + 1) := by
 obtain ⟨hk, rfl⟩ := List.getElem?_eq_some_iff.1 h
 exact List.drop_eq_getElem_cons hk
theorem E1 {α : Type} {xs : List α} {k : Nat} (h : k = xs.length) : xs.drop k = [] := by rw [h]; exact List.drop_length
theorem Y00 (ws : List (List Int)) (hl : ws.length ≤ 140737488355328) : ∀ (d k fuel a : Nat), k + d = ws.length → d < fuel → a + tot (ws.drop k) ≤ 9223372036854775807 →
  C3 ws fuel (a : Int) (k : Int) = some ((a + tot (ws.drop k) : Nat) : Int)
 | d, k, 0, a, hk, hf, ht => by omega
 | 0, k, fuel + 1, a, hk, hf, ht => by
  rw [C3.eq_2, if_neg (by simp; omega), E1 (by omega)]
  rfl
 | d + 1, k, fuel + 1, a, hk, hf, ht => by
  have hkl : k < ws.length := by omega
  have hx := W5 hkl
  generalize ws[k] = x at hx
  rw [K1 hx] at ht ⊢
  simp only [tot] at ht ⊢
  rw [C3.eq_2, if_pos (by simp; omega), N3 hx, Option.bind_some, A2 hkl (by omega : ws.length ≤ 9223372036854775807),
   show IntKind.i64.wrap ((a : Int) + ((x.length : Nat) : Int)) = ((a + x.length : Nat) : Int) by rw [w64 (by omega) (by omega)]; omega,
   Y00 ws hl d (k + 1) fuel (a + x.length) (by omega) (by omega) (by omega)]
  rw [Nat.add_assoc]
theorem B02 (ws : List (List Int)) (hl : ws.length ≤ 140737488355328) (ht : tot ws ≤ 9223372036854775807) : Y6 ws = some ((tot ws : Nat) : Int) := by
 unfold Y6
 have h := Y00 ws hl ws.length 0 S0 0 (by omega) (W0 hl) (by simpa using ht)
 rw [show ((0 : Nat) : Int) = 0 from rfl] at h
 rw [h]
 simp
theorem F00 (ws : List (List Int)) : ∀ (fuel : Nat) (a k : Int), Y4 ws fuel a k = C3 ws fuel a k
 | 0, a, k => rfl
 | fuel + 1, a, k => by
  rw [Y4.eq_2, C3.eq_2]
  simp only [F00 ws fuel]
theorem j07 (ws : List (List Int)) (hl : ws.length ≤ 140737488355328) (ht : tot ws ≤ 9223372036854775807) : Z7 ws = some ((tot ws : Nat) : Int) := by
 rw [← B02 ws hl ht]
 unfold Z7 Y6
 rw [F00]
def z05 (r : Int) : List (List Int) → Bool
 | [] => true
 | w :: l => Q4 r w && z05 r l
def P3 (r : Int) (ws : List (List Int)) : Bool := inR 1 3 r && decide (ws.length ≤ 6) && z05 r ws && decide (tot ws < 40)
theorem v0a {r : Int} : ∀ {ws : List (List Int)}, z05 r ws = true → tot ws ≤ 24 * ws.length
 | [], _ => by simp [tot]
 | w :: l, h => by
  simp only [z05, Bool.and_eq_true] at h
  have h1 := h.1
  simp only [Q4, Bool.and_eq_true, decide_eq_true_eq] at h1
  have := v0a h.2
  simp only [tot, List.length_cons]
  omega
def L2 (ws : List (List Int)) : Prop := ∀ w ∈ ws, w.length ≤ 140737488355328
theorem g02 (r : Int) (ws : List (List Int)) (hl : ws.length ≤ 140737488355328) (hs : L2 ws) : ∀ (d k fuel : Nat), k + d = ws.length → d < fuel →
  E5 ws r fuel (k : Int) = some (bif z05 r (ws.drop k) then .inr () else .inl false)
 | d, k, 0, hk, hf => by omega
 | 0, k, fuel + 1, hk, hf => by
  rw [E5.eq_2, if_neg (by simp; omega), E1 (by omega)]
  rfl
 | d + 1, k, fuel + 1, hk, hf => by
  have hkl : k < ws.length := by omega
  have hx := W5 hkl
  have hsx := hs _ (List.mem_of_getElem? hx)
  generalize ws[k] = x at hx hsx
  rw [K1 hx, E5.eq_2, if_pos (by simp; omega), N3 hx, Option.bind_some, g07 r x hsx, Option.bind_some, A2 hkl (by omega : ws.length ≤ 9223372036854775807),
   g02 r ws hl hs d (k + 1) fuel (by omega) (by omega)]
  simp only [z05]
  cases Q4 r x <;> simp
theorem P04 (r : Int) (ws : List (List Int)) (hl : ws.length ≤ 140737488355328) (hs : L2 ws) : r8 r ws = some (P3 r ws) := by
 unfold r8
 have h := g02 r ws hl hs ws.length 0 S0 (by omega) (W0 hl)
 rw [show ((0 : Nat) : Int) = 0 from rfl, List.drop_zero] at h
 rw [h, Option.bind_some]
 unfold P3
 cases ha : z05 r ws with
 | false => simp [l7]
 | true =>
  rw [cond_true, T0, D01, Option.bind_some]
  have := v0a ha
  cases hr : inR 1 3 r with
  | false => simp [chk, grd, F0]
  | true =>
   by_cases h6 : ws.length ≤ 6
   ·rw [B02 ws hl (by omega)]
    have h6' : decide (((ws.length : Nat) : Int) ≤ 6) = true := by simp; omega
    have h6'' : decide (ws.length ≤ 6) = true := by simpa using h6
    rw [h6', h6'', cond_true, G2, Option.bind_some, N0 (by constructor <;> omega)]
    simp
    omega
   ·have h6' : decide (((ws.length : Nat) : Int) ≤ 6) = false := by simp; omega
    have h6'' : decide (ws.length ≤ 6) = false := by simpa using h6
    rw [h6', h6'']
    simp [chk, grd, F0]
theorem h02 (r : Int) (ws : List (List Int)) (hl : ws.length ≤ 140737488355328) (hs : L2 ws) : ∀ (d k fuel : Nat), k + d = ws.length → d < fuel →
  F5 ws r fuel (k : Int) = some (bif z05 r (ws.drop k) then .inr () else .inl false)
 | d, k, 0, hk, hf => by omega
 | 0, k, fuel + 1, hk, hf => by
  rw [F5.eq_2, if_neg (by simp; omega), E1 (by omega)]
  rfl
 | d + 1, k, fuel + 1, hk, hf => by
  have hkl : k < ws.length := by omega
  have hx := W5 hkl
  have hsx := hs _ (List.mem_of_getElem? hx)
  generalize ws[k] = x at hx hsx
  rw [K1 hx, F5.eq_2, if_pos (by simp; omega), N3 hx, Option.bind_some, i07 r x hsx, Option.bind_some, A2 hkl (by omega : ws.length ≤ 9223372036854775807),
   h02 r ws hl hs d (k + 1) fuel (by omega) (by omega)]
  simp only [z05]
  cases Q4 r x <;> simp
theorem Q04 (r : Int) (ws : List (List Int)) (hl : ws.length ≤ 140737488355328) (hs : L2 ws) : s8 r ws = some (P3 r ws) := by
 unfold s8
 rw [x01, Option.bind_some]
 unfold P3
 cases hr : inR 1 3 r with
 | false => simp
 | true =>
  by_cases h6 : ws.length ≤ 6
  ·have h6' : decide (((ws.length : Nat) : Int) > 6) = false := by simp; omega
   have h6'' : decide (ws.length ≤ 6) = true := by simpa using h6
   have h := h02 r ws hl hs ws.length 0 S0 (by omega) (W0 hl)
   rw [show ((0 : Nat) : Int) = 0 from rfl, List.drop_zero] at h
   rw [h6', h6'', h, Option.bind_some]
   cases ha : z05 r ws with
   | false => simp [l7]
   | true =>
    have := v0a ha
    simp only [cond_true, T0, j07 ws hl (by omega), Option.bind_some, N0 (show F0 ((tot ws : Nat) : Int) by constructor <;> omega)]
    simp
    omega
  ·have h6' : decide (((ws.length : Nat) : Int) > 6) = true := by simp; omega
   have h6'' : decide (ws.length ≤ 6) = false := by simpa using h6
   rw [h6', h6'']
   simp
def cyc (w : List Int) : Bool := match w[0]?, w[w.length - 1]? with
 | some x, some y => !(x == IntKind.i64.wrap (0 - y))
 | _, _ => false
def n0e : List (List Int) → Bool
 | [] => true
 | w :: l => cyc w && n0e l
def C4 (x : D0) : Bool := P3 x.1 x.2 && n0e x.2
theorem t00 (ws : List (List Int)) (hl : ws.length ≤ 140737488355328) (hs : L2 ws) : ∀ (d k fuel : Nat), k + d = ws.length → d < fuel →
  L3 ws fuel (k : Int) = some (bif n0e (ws.drop k) then .inr () else .inl false)
 | d, k, 0, hk, hf => by omega
 | 0, k, fuel + 1, hk, hf => by
  rw [L3.eq_2, if_neg (by simp; omega), E1 (by omega)]
  rfl
 | d + 1, k, fuel + 1, hk, hf => by
  have hkl : k < ws.length := by omega
  have hx := W5 hkl
  have hsx := hs _ (List.mem_of_getElem? hx)
  generalize ws[k] = x at hx hsx
  rw [K1 hx, L3.eq_2, if_pos (by simp; omega), N3 hx, Option.bind_some, A2 hkl (by omega : ws.length ≤ 9223372036854775807),
   t00 ws hl hs d (k + 1) fuel (by omega) (by omega)]
  simp only [n0e]
  by_cases h0 : x.length = 0
  ·have : x = [] := List.length_eq_zero_iff.1 h0
   subst this
   simp [chk, cyc]
  ·have e0 : decide (((x.length : Nat) : Int) = 0) = false := by simpa using h0
   have h1 := W5 (show 0 < x.length by omega)
   have h2 := W5 (show x.length - 1 < x.length by omega)
   have hc : cyc x = !(x[0] == IntKind.i64.wrap (0 - x[x.length - 1])) := by unfold cyc; rw [h1, h2]
   generalize x[0] = a at h1 hc
   generalize x[x.length - 1] = b at h2 hc
   rw [e0, u0a (by omega) (by omega), O04 h1, N3 h2, hc]
   simp only [Bool.not_false, G2, Option.bind_some, cond_false]
   cases hab : (a == IntKind.i64.wrap (0 - b)) with
   | true => rw [if_pos (by simpa using hab)]; rfl
   | false => rw [if_neg (by simpa using hab)]; simp
theorem A8 (x : D0) (hl : x.2.length ≤ 140737488355328) (hs : L2 x.2) : T4 x = some (C4 x) := by
 obtain ⟨r, ws⟩ := x
 unfold T4
 have h := t00 ws hl hs ws.length 0 S0 (by omega) (W0 hl)
 rw [show ((0 : Nat) : Int) = 0 from rfl, List.drop_zero] at h
 simp only [h, Option.bind_some, P04 r ws hl hs, C4]
 cases n0e ws <;> simp [l7]
theorem S0b {lo hi : Int} {w : List Int} : ∀ {d k : Nat}, g01 lo hi w d k = true → ∀ i, k ≤ i → i < k + d → l03 lo hi w i = false
 | 0, k, h, i, h1, h2 => by omega
 | d + 1, k, h, i, h1, h2 => by
  simp only [g01, Bool.and_eq_true, Bool.not_eq_true'] at h
  by_cases e : i = k
  ·subst e; exact h.1
  ·exact S0b h.2 i (by omega) (by omega)
theorem C02 {r : Int} {w : List Int} (h : Q4 r w = true) {i : Nat} {x : Int} (hx : w[i]? = some x) : (1 ≤ r ∧ r ≤ 3) ∧ w.length ≤ 24 ∧ x ≠ 0 ∧ -r ≤ x ∧ x ≤ r := by
 simp only [Q4, Bool.and_eq_true, decide_eq_true_eq] at h
 have hr := h.1.1
 simp only [inR, Bool.and_eq_true, decide_eq_true_eq] at hr
 have hb := S0b h.2 i (Nat.zero_le _) (by have := (List.getElem?_eq_some_iff.1 hx).1; omega)
 unfold l03 at hb
 rw [hx] at hb
 simp only [Bool.or_eq_false_iff, Bool.not_eq_false'] at hb
 have h1 := hb.1.2
 simp only [inR, Bool.and_eq_true, decide_eq_true_eq] at h1
 exact ⟨hr, h.1.2, by simpa using hb.1.1, h1⟩
theorem u00 (ws : List (List Int)) (hl : ws.length ≤ 140737488355328) (hs : L2 ws) (r : Int) (ha : inR 1 3 r = true) : ∀ (d k fuel : Nat), k + d = ws.length → d < fuel → z05 r (ws.drop k) = true →
  M3 ws fuel (k : Int) = some (bif n0e (ws.drop k) then .inr () else .inl false)
 | d, k, 0, hk, hf, hw => by omega
 | 0, k, fuel + 1, hk, hf, hw => by
  rw [M3.eq_2, if_neg (by simp; omega), E1 (by omega)]
  rfl
 | d + 1, k, fuel + 1, hk, hf, hw => by
  have hkl : k < ws.length := by omega
  have hx := W5 hkl
  have hsx := hs _ (List.mem_of_getElem? hx)
  generalize ws[k] = x at hx hsx
  rw [K1 hx] at hw ⊢
  simp only [z05, Bool.and_eq_true] at hw
  rw [M3.eq_2, if_pos (by simp; omega), N3 hx, Option.bind_some, A2 hkl (by omega : ws.length ≤ 9223372036854775807),
   u00 ws hl hs r ha d (k + 1) fuel (by omega) (by omega) hw.2]
  simp only [n0e]
  by_cases h0 : x.length = 0
  ·have : x = [] := List.length_eq_zero_iff.1 h0
   subst this
   simp [chk, cyc]
  ·have e0 : decide (((x.length : Nat) : Int) = 0) = false := by simpa using h0
   have h1 := W5 (show 0 < x.length by omega)
   have h2 := W5 (show x.length - 1 < x.length by omega)
   have hc : cyc x = !(x[0] == IntKind.i64.wrap (0 - x[x.length - 1])) := by unfold cyc; rw [h1, h2]
   generalize x[0] = a at h1 hc
   generalize x[x.length - 1] = b at h2 hc
   obtain ⟨hr1, _, a1, a2, a3⟩ := C02 hw.1 h1
   obtain ⟨_, _, b1, b2, b3⟩ := C02 hw.1 h2
   have na : IntKind.i64.wrap (0 - a) = -a := by rw [w64 (by omega) (by omega)]; omega
   have nb : IntKind.i64.wrap (0 - b) = -b := by rw [w64 (by omega) (by omega)]; omega
   rw [e0, u0a (by omega) (by omega), O04 h1, N3 h2, hc]
   simp only [Bool.not_false, G2, Option.bind_some, cond_false, h07, na, nb]
   have q1 : (a == 0) = false := by simpa using a1
   have q2 : (a == -9223372036854775808) = false := by simp; omega
   rw [q1, q2]
   simp only [Bool.not_false, Bool.true_and]
   by_cases hab : a = -b
   ·have e1 : (b == -a) = true := by simp; omega
    have e2 : (a == -b) = true := by simp; omega
    rw [e1, e2]; rfl
   ·have e1 : (b == -a) = false := by simp; omega
    have e2 : (a == -b) = false := by simp; omega
    rw [e1, e2]; simp
theorem U9 (x : D0) (hl : x.2.length ≤ 140737488355328) (hs : L2 x.2) : U4 x = some (C4 x) := by
 obtain ⟨r, ws⟩ := x
 unfold U4
 simp only [Q04 r ws hl hs, C4, Option.bind_some]
 cases ha : P3 r ws with
 | false => simp
 | true =>
  simp only [P3, Bool.and_eq_true] at ha
  have h := u00 ws hl hs r ha.1.1.1 ws.length 0 S0 (by omega) (W0 hl) (by rw [List.drop_zero]; exact ha.1.2)
  rw [show ((0 : Nat) : Int) = 0 from rfl, List.drop_zero] at h
  rw [h]
  cases n0e ws <;> simp [l7]
end Go.Proofs.YtfdlgbfeceodeaaGreat
namespace Go.Proofs.YtfdlgbfeceodeaaGreat
open Go.H
set_option linter.unusedVariables false
set_option linter.unusedSimpArgs false
def E01 (r hi : Int) (e : C0) : Bool := inR 0 hi e.1 && inR 0 hi e.2.2 && inR 1 r e.2.1
def w0a (e f : C0) : Int := K0 e f
theorem x0a (e f : C0) : w0a e f = if D7 e.1 f.1 ≠ 0 then D7 e.1 f.1 else if D7 e.2.1 f.2.1 ≠ 0 then D7 e.2.1 f.2.1 else D7 e.2.2 f.2.2 := rfl
theorem N03 (a b : Int) : (a < b ∧ D7 a b = -1) ∨ (a > b ∧ D7 a b = 1) ∨ (a = b ∧ D7 a b = 0) := by
 unfold D7
 split
 ·omega
 ·split <;> omega
theorem C09 (e f : C0) : F0 (w0a e f) := by
 rw [x0a]
 split
 ·exact Y0c _ _
 ·split <;> exact Y0c _ _
theorem o0e (g : l0) (e : C0) : B9 g e = some (E01 g.1 (IntKind.i64.wrap (g.2.1 - 1)) e) := by
 obtain ⟨r, n, es⟩ := g
 obtain ⟨a, l, b⟩ := e
 unfold B9 E01
 simp only [D01, Option.bind_some]
 cases inR 0 (IntKind.i64.wrap (n - 1)) a with
 | false => rfl
 | true =>
  cases inR 0 (IntKind.i64.wrap (n - 1)) b with
  | false => rfl
  | true => simp [chk]
theorem d04 (g : l0) (e : C0) : d6 g e = some (E01 g.1 (IntKind.i64.wrap (g.2.1 - 1)) e) := by
 obtain ⟨r, n, es⟩ := g
 obtain ⟨a, l, b⟩ := e
 unfold d6 o5 E01
 simp only [x01, Option.bind_some]
 cases inR 0 (IntKind.i64.wrap (n - 1)) a with
 | false => rfl
 | true =>
  cases inR 0 (IntKind.i64.wrap (n - 1)) b with
  | false => rfl
  | true => simp [chk]
theorem A00 (e f : C0) : K6 e f = some (w0a e f) := by
 obtain ⟨a, l, b⟩ := e
 obtain ⟨a', l', b'⟩ := f
 unfold K6
 rw [show S0 = (S0 - 4) + 1 + 1 + 1 + 1 from rfl]
 have w1 : IntKind.i64.wrap (0 + 1) = 1 := by decide
 have w2 : IntKind.i64.wrap (1 + 1) = 2 := by decide
 have w3 : IntKind.i64.wrap (2 + 1) = 3 := by decide
 have g0 : ∀ x y z : Int, gi [x, y, z] 0 = some x := fun _ _ _ => rfl
 have g1 : ∀ x y z : Int, gi [x, y, z] 1 = some y := fun _ _ _ => rfl
 have g2 : ∀ x y z : Int, gi [x, y, z] 2 = some z := fun _ _ _ => rfl
 have d0 : decide ((0 : Int) < 3) = true := rfl
 have d1 : decide ((1 : Int) < 3) = true := rfl
 have d2 : decide ((2 : Int) < 3) = true := rfl
 have d3 : decide ((3 : Int) < 3) = false := rfl
 simp only [M5.eq_2, w1, w2, w3, g0, g1, g2, d0, d1, d2, d3, if_true, Option.bind_some, Bool.false_eq_true, if_false]
 rw [x0a]
 simp only
 rcases N03 a a' with ⟨h, e⟩ | ⟨h, e⟩ | ⟨h, e⟩
 ·simp [e, h, l7]
 ·have : ¬ a < a' := by omega
  simp [e, h, this, l7]
 ·subst h
  rcases N03 l l' with ⟨h, e2⟩ | ⟨h, e2⟩ | ⟨h, e2⟩
  ·simp [e, e2, h, l7]
  ·have : ¬ l < l' := by omega
   simp [e, e2, h, this, l7]
  ·subst h
   rcases N03 b b' with ⟨h, e3⟩ | ⟨h, e3⟩ | ⟨h, e3⟩
   ·simp [e, e2, e3, h, l7]
   ·have : ¬ b < b' := by omega
    simp [e, e2, e3, h, this, l7]
   ·subst h
    simp [e, e2, e3, l7]
theorem F0h (a b : Int) : V5 a b = some (D7 a b) := by
 unfold V5 D7
 by_cases h : a < b
 ·simp [h]
 ·by_cases h2 : a > b <;> simp [h, h2]
theorem i02 (e f : C0) : I7 e f = some (w0a e f) := by
 obtain ⟨a, l, b⟩ := e
 obtain ⟨a', l', b'⟩ := f
 rw [x0a]
 unfold I7
 simp only [F0h, Option.bind_some, N0 (Y0c _ _)]
 by_cases h1 : D7 a a' = 0
 ·by_cases h2 : D7 l l' = 0
  ·simp [h1, h2]
  ·simp [h1, h2]
 ·simp [h1]
def G0i (r hi : Int) (es : List C0) (k : Nat) : Bool := match es[k]? with
 | none => true
 | some e => !E01 r hi e || (decide (0 < k) && match es[k - 1]? with
  | none => true
  | some f => decide (w0a f e ≥ 0))
def okE (r hi : Int) (es : List C0) : Nat → Nat → Bool
 | 0, _ => true
 | d + 1, k => !G0i r hi es k && okE r hi es d (k + 1)
def M0 (g : l0) : Bool := okE g.1 (IntKind.i64.wrap (g.2.1 - 1)) g.2.2 g.2.2.length 0 && inR 1 3 g.1 && inR 1 40 g.2.1 && decide (g.2.2.length ≤ 120)
theorem k07 {r hi : Int} {es : List C0} {k : Nat} {e : C0} (hx : es[k]? = some e) : G0i r hi es k = (!E01 r hi e || (decide (0 < k) && match es[k - 1]? with
  | none => true
  | some f => decide (w0a f e ≥ 0))) := by unfold G0i; rw [hx]
theorem D02 (r n : Int) (es : List C0) (hl : es.length ≤ 140737488355328) : ∀ (d k fuel : Nat), k + d = es.length → d < fuel →
  c6 es r n fuel (k : Int) = some (bif okE r (IntKind.i64.wrap (n - 1)) es d k then .inr () else .inl false)
 | d, k, 0, hk, hf => by omega
 | 0, k, fuel + 1, hk, hf => by
  rw [c6.eq_2, if_neg (by simp; omega)]
  simp [okE]
 | d + 1, k, fuel + 1, hk, hf => by
  have hkl : k < es.length := by omega
  have hx := W5 hkl
  generalize es[k] = e at hx
  obtain ⟨e0, e1, e2⟩ := e
  have next := D02 r n es hl d (k + 1) fuel (by omega) (by omega)
  rw [c6.eq_2, if_pos (by simp; omega), N3 hx, Option.bind_some]
  simp only [o0e, Option.bind_some, A2 hkl (by omega : es.length ≤ 9223372036854775807), next, okE, k07 hx]
  generalize IntKind.i64.wrap (n - 1) = hi
  cases hin : E01 r hi (e0, e1, e2) with
  | false => simp [chk, grd, F0]
  | true =>
   by_cases hk0 : k = 0
   ·have ek : decide ((k : Int) > 0) = false := by simp; omega
    have bk : decide (0 < k) = false := by simp; omega
    simp only [ek, bk, N5, Bool.not_true, Bool.not_false, Bool.and_true, Bool.false_and, Bool.or_self, Bool.true_and, cond_true, cond_false, Option.bind_some, Bool.or_false, Bool.false_eq_true, if_false, N0 (show F0 0 by decide)]
   ·have hy := W5 (show k - 1 < es.length by omega)
    generalize es[k - 1] = f at hy
    obtain ⟨f0, f1, f2⟩ := f
    have hpr : IntKind.i64.wrap ((k : Int) - 1) = ((k - 1 : Nat) : Int) := u0a (by omega) (by omega)
    have ek : decide ((k : Int) > 0) = true := by simp; omega
    have bk : decide (0 < k) = true := by simp; omega
    simp only [ek, bk, hpr, hy, N3 hx, N3 hy, G2, Bool.not_true, Bool.not_false, Bool.and_true, Bool.false_and, Bool.or_self, Bool.true_and, cond_true, cond_false, Option.bind_some, Bool.or_false, Bool.false_or, A00, N0 (C09 _ _)]
    cases decide (w0a (f0, f1, f2) (e0, e1, e2) ≥ 0) <;> rfl
theorem R5 (g : l0) (hl : g.2.2.length ≤ 140737488355328) : G3 g = some (M0 g) := by
 obtain ⟨r, n, es⟩ := g
 unfold G3 M0
 simp only at hl ⊢
 have h := D02 r n es hl es.length 0 S0 (by omega) (W0 hl)
 rw [show ((0 : Nat) : Int) = 0 from rfl] at h
 rw [h, Option.bind_some]
 cases okE r (IntKind.i64.wrap (n - 1)) es es.length 0 with
 | false => simp [l7]
 | true =>
  rw [cond_true, T0, D01, D01, Option.bind_some]
  cases inR 1 3 r with
  | false => simp [chk]
  | true =>
   simp only [G2, Option.bind_some, cond_true, Bool.true_and]
   cases inR 1 40 n with
   | false => simp
   | true => simp; omega
theorem E02 (r n : Int) (es : List C0) (hl : es.length ≤ 140737488355328) : ∀ (d k fuel : Nat), k + d = es.length → d < fuel →
  g6 es r n fuel (k : Int) = some (bif okE r (IntKind.i64.wrap (n - 1)) es d k then .inr () else .inl false)
 | d, k, 0, hk, hf => by omega
 | 0, k, fuel + 1, hk, hf => by
  rw [g6.eq_2, if_neg (by simp; omega)]
  simp [okE]
 | d + 1, k, fuel + 1, hk, hf => by
  have hkl : k < es.length := by omega
  have hx := W5 hkl
  generalize es[k] = e at hx
  obtain ⟨e0, e1, e2⟩ := e
  have next := E02 r n es hl d (k + 1) fuel (by omega) (by omega)
  rw [g6.eq_2, if_pos (by simp; omega), N3 hx, Option.bind_some]
  simp only [d04, Option.bind_some, A2 hkl (by omega : es.length ≤ 9223372036854775807), next, okE, k07 hx]
  generalize IntKind.i64.wrap (n - 1) = hi
  cases hin : E01 r hi (e0, e1, e2) with
  | false => simp [chk, grd, F0]
  | true =>
   by_cases hk0 : k = 0
   ·have ek : decide ((k : Int) > 0) = false := by simp; omega
    have bk : decide (0 < k) = false := by simp; omega
    simp only [ek, bk, N5, Bool.not_true, Bool.not_false, Bool.and_true, Bool.false_and, Bool.or_self, Bool.true_and, cond_true, cond_false, Option.bind_some, Bool.or_false, Bool.false_eq_true, if_false, N0 (show F0 0 by decide)]
   ·have hy := W5 (show k - 1 < es.length by omega)
    generalize es[k - 1] = f at hy
    obtain ⟨f0, f1, f2⟩ := f
    have hpr : IntKind.i64.wrap ((k : Int) - 1) = ((k - 1 : Nat) : Int) := u0a (by omega) (by omega)
    have ek : decide ((k : Int) > 0) = true := by simp; omega
    have bk : decide (0 < k) = true := by simp; omega
    simp only [ek, bk, hpr, hy, N3 hx, N3 hy, G2, Bool.not_true, Bool.not_false, Bool.and_true, Bool.false_and, Bool.or_self, Bool.true_and, cond_true, cond_false, Option.bind_some, Bool.or_false, Bool.false_or, i02, N0 (C09 _ _)]
    cases decide (w0a (f0, f1, f2) (e0, e1, e2) ≥ 0) <;> rfl
theorem G8 (g : l0) (hl : g.2.2.length ≤ 140737488355328) : Z4 g = some (M0 g) := by
 obtain ⟨r, n, es⟩ := g
 unfold Z4 M0
 simp only at hl ⊢
 rw [x01, x01, Option.bind_some]
 cases hr : inR 1 3 r with
 | false => simp [chk]
 | true =>
  simp only [Bool.not_true, Bool.not_false, G2, Option.bind_some, cond_false]
  cases hn : inR 1 40 n with
  | false => simp
  | true =>
   by_cases h120 : es.length ≤ 120
   ·have h := E02 r n es hl es.length 0 S0 (by omega) (W0 hl)
    rw [show ((0 : Nat) : Int) = 0 from rfl] at h
    have e1 : decide (((es.length : Nat) : Int) > 120) = false := by simp; omega
    have e2 : decide (es.length ≤ 120) = true := by simpa using h120
    simp only [e1, e2, Bool.not_true, cond_false, Bool.false_eq_true, if_false, h, Option.bind_some]
    cases okE r (IntKind.i64.wrap (n - 1)) es es.length 0 <;> rfl
   ·have e1 : decide (((es.length : Nat) : Int) > 120) = true := by simp; omega
    have e2 : decide (es.length ≤ 120) = false := by simpa using h120
    simp only [e1, e2, Bool.not_true, cond_false, if_true, Bool.and_false]
theorem H0f {r hi : Int} {es : List C0} : ∀ {d k : Nat}, okE r hi es d k = true → ∀ i, k ≤ i → i < k + d → G0i r hi es i = false
 | 0, k, h, i, h1, h2 => by omega
 | d + 1, k, h, i, h1, h2 => by
  simp only [okE, Bool.and_eq_true, Bool.not_eq_true'] at h
  by_cases e : i = k
  ·subst e; exact h.1
  ·exact H0f h.2 i (by omega) (by omega)
end Go.Proofs.YtfdlgbfeceodeaaGreat
namespace Go.Proofs.YtfdlgbfeceodeaaGreat
open Go.H
set_option linter.unusedVariables false
set_option linter.unusedSimpArgs false
theorem p0e {n : Nat} (h : n ≤ 9223372036854775807) : n < S0 := by unfold S0; omega
def goI (x : Int) : List Int → Bool × List Int
 | [] => (false, [])
 | y :: l => if x < y then (true, x :: y :: l) else if y = x then (true, y :: l) else ((goI x l).1, y :: (goI x l).2)
theorem F0g (x : Int) : ∀ l, P8 D7 x l = bif (goI x l).1 then (goI x l).2 else (goI x l).2 ++ [x]
 | [] => rfl
 | y :: l => by
  have ih := F0g x l
  unfold P8 goI
  rcases N03 x y with ⟨h, e⟩ | ⟨h, e⟩ | ⟨h, e⟩
  ·rw [e, if_pos (by omega), if_pos h]; rfl
  ·rw [e, if_neg (by omega), if_neg (by omega), if_neg (by omega), if_neg (by omega), ih]
   cases (goI x l).1 <;> rfl
  ·rw [e, if_neg (by omega), if_pos rfl, if_neg (by omega), if_pos h.symm]; rfl
theorem y0a (l : List Int) (w : Int) (hl : l.length ≤ 1099511627776) : ∀ (d k fuel : Nat) (acc : List Int), k + d = l.length → d < fuel → acc.length ≤ k + 1 →
  S3 l w fuel true (k : Int) acc = some (true, acc ++ l.drop k)
 | d, k, 0, acc, hd, hf, ha => by omega
 | 0, k, fuel + 1, acc, hd, hf, ha => by
  rw [S3.eq_2, if_neg (by simp; omega), E1 (by omega), List.append_nil]
 | d + 1, k, fuel + 1, acc, hd, hf, ha => by
  have hk : k < l.length := by omega
  have hx := W5 hk
  generalize l[k] = x at hx
  have ih := y0a l w hl d (k + 1) fuel (acc ++ [x]) (by omega) (by omega) (by simp; omega)
  rw [S3.eq_2, if_pos (by simp; omega), N3 hx, Option.bind_some]
  have hb : ∀ c : Bool, (bif c then (!true) else false) = false := fun c => by cases c <;> rfl
  simp only [hb, Bool.false_eq_true, if_false, Option.bind_some, A2 hk (show l.length ≤ 9223372036854775807 by omega), ih, N0 (show (acc.length + [x].length) * 8 ≤ 140737488355328 by simp; omega)]
  rw [K1 hx]
  split <;> simp
theorem T0b (l : List Int) (w : Int) (hl : l.length ≤ 1099511627776) : ∀ (d k fuel : Nat) (acc : List Int), k + d = l.length → d < fuel → acc.length = k →
  S3 l w fuel false (k : Int) acc = some ((goI w (l.drop k)).1, acc ++ (goI w (l.drop k)).2)
 | d, k, 0, acc, hd, hf, ha => by omega
 | 0, k, fuel + 1, acc, hd, hf, ha => by
  rw [S3.eq_2, if_neg (by simp; omega), E1 (by omega)]
  simp [goI]
 | d + 1, k, fuel + 1, acc, hd, hf, ha => by
  have hk : k < l.length := by omega
  have hx := W5 hk
  generalize l[k] = x at hx
  have ih := T0b l w hl d (k + 1) fuel (acc ++ [x]) (by omega) (by omega) (by simp; omega)
  have on1 := y0a l w hl d (k + 1) fuel (acc ++ [x]) (by omega) (by omega) (by simp; omega)
  have on2 := y0a l w hl d (k + 1) fuel (acc ++ [w] ++ [x]) (by omega) (by omega) (by simp; omega)
  rw [S3.eq_2, if_pos (by simp; omega), N3 hx, Option.bind_some, K1 hx]
  unfold goI
  have hb : ∀ c : Bool, (bif c then (!true) else false) = false := fun c => by cases c <;> rfl
  have hb2 : ∀ c : Bool, (bif c then (!false) else false) = c := fun c => by cases c <;> rfl
  by_cases h0 : x = w
  ·rw [if_pos (by simpa using h0), Option.bind_some, hb, if_neg (by simp), Option.bind_some, N0 (by simp; omega), Option.bind_some, A2 hk (by omega), on1, if_neg (by omega), if_pos h0]
   simp
  ·rw [if_neg (by simpa using h0), Option.bind_some, hb2]
   by_cases h1 : w < x
   ·rw [if_pos (by simpa using h1), N0 (by simp; omega), Option.bind_some, Option.bind_some, N0 (by simp; omega), Option.bind_some, A2 hk (by omega), on2, if_pos h1]
    simp
   ·rw [if_neg (by simpa using h1), Option.bind_some, N0 (by simp; omega), Option.bind_some, A2 hk (by omega), ih, if_neg h1, if_neg h0]
    simp
theorem l07 (l : List Int) (w : Int) (hl : l.length ≤ 1099511627776) : n7 l w = some (P8 D7 w l) := by
 unfold n7
 have h := T0b l w hl l.length 0 S0 [] (by omega) (W0 (by omega)) rfl
 rw [show ((0 : Nat) : Int) = 0 from rfl, List.drop_zero, List.nil_append] at h
 rw [h, Option.bind_some, F0g]
 have hlen : ∀ l : List Int, (goI w l).2.length ≤ l.length + 1 := fun l => by
  induction l with
  | nil => simp [goI]
  | cons y l ih =>
   unfold goI
   split
   ·simp
   ·split
    ·simp
    ·simp only [List.length_cons]; omega
 have := hlen l
 cases (goI w l).1 with
 | true => rfl
 | false =>
  simp only [Bool.not_false, if_true, cond_false]
  rw [N0 (by simp; omega), Option.bind_some]
def U0b (v x : Int) (e : C0) : List Int :=
 if 0 < x ∧ e.2.1 = x ∧ e.1 = v then [e.2.2] else if x < 0 ∧ e.2.1 = -x ∧ e.2.2 = v then [e.1] else []
def V9 (v x : Int) : List C0 → List Int
 | [] => []
 | e :: es => U0b v x e ++ V9 v x es
theorem G0h (v x : Int) (e : C0) : (U0b v x e).length ≤ 1 := by unfold U0b; split <;> (try split) <;> simp
theorem z0a (v x : Int) : ∀ es, (V9 v x es).length ≤ es.length
 | [] => by simp [V9]
 | e :: es => by
  have h1 := G0h v x e
  have h2 := z0a v x es
  simp only [V9, List.length_append, List.length_cons]
  omega
def B7 (x : Int) : Prop := F0 x ∧ x ≠ -9223372036854775808
theorem m07 (es : List C0) (v x : Int) (hx : B7 x) (hl : es.length ≤ 1099511627776) : ∀ (d k fuel : Nat) (acc : List Int), k + d = es.length → d < fuel → acc.length ≤ k →
  Y3 es x v fuel (k : Int) acc = some (acc ++ V9 v x (es.drop k))
 | d, k, 0, acc, hd, hf, ha => by omega
 | 0, k, fuel + 1, acc, hd, hf, ha => by
  rw [Y3.eq_2, if_neg (by simp; omega), E1 (by omega)]
  simp [V9]
 | d + 1, k, fuel + 1, acc, hd, hf, ha => by
  have hk : k < es.length := by omega
  have he := W5 hk
  generalize es[k] = e at he
  obtain ⟨a, l, b⟩ := e
  have ih := fun acc' h => m07 es v x hx hl d (k + 1) fuel acc' (by omega) (by omega) h
  have hn : decide (x = -9223372036854775808) = false := by simp; exact hx.2
  rw [Y3.eq_2, if_pos (by simp; omega), N3 he, Option.bind_some, K1 he]
  simp only [V9, U0b, m0e hx.1 hx.2, hn, Bool.not_false, A2 hk (show es.length ≤ 9223372036854775807 by omega)]
  by_cases c1 : 0 < x ∧ l = x ∧ a = v
  ·obtain ⟨c1, rfl, rfl⟩ := c1
   rw [if_pos (by simp [c1]), if_pos ⟨c1, rfl, rfl⟩, N0 (by simp; omega), Option.bind_some, ih _ (by simp; omega)]
   simp
  ·rw [if_neg c1, if_neg (by simp only [Bool.cond_eq_ite]; simp; intro h1 h2 h3; exact c1 ⟨h1, h2, h3⟩)]
   by_cases c2 : x < 0 ∧ l = -x ∧ b = v
   ·rw [if_pos c2, if_pos (by simp [c2.1, c2.2.1, c2.2.2]), N0 (by simp; omega), Option.bind_some, ih _ (by simp; omega)]
    simp
   ·rw [if_neg c2, if_neg (by simp only [Bool.cond_eq_ite]; simp; intro h1 h2 h3; exact c2 ⟨h1, h2, h3⟩), ih _ (by omega)]
    simp
theorem o03 (w : Int) : ∀ l : List Int, (P8 D7 w l).length ≤ l.length + 1
 | [] => by simp [P8]
 | y :: l => by
  have := o03 w l
  unfold P8
  split
  ·simp
  ·split
   ·simp
   ·simp only [List.length_cons]; omega
theorem n07 (es : List C0) (v x : Int) (hx : B7 x) (hl : es.length ≤ 1099511627776) : ∀ (d k fuel : Nat) (u : List Int), k + d = es.length → d < fuel → u.length ≤ k →
  I3 es x v fuel u (k : Int) = some (w6 D7 u (V9 v x (es.drop k)))
 | d, k, 0, u, hd, hf, ha => by omega
 | 0, k, fuel + 1, u, hd, hf, ha => by
  rw [I3.eq_2, if_neg (by simp; omega), E1 (by omega)]
  rfl
 | d + 1, k, fuel + 1, u, hd, hf, ha => by
  have hk : k < es.length := by omega
  have he := W5 hk
  generalize es[k] = e at he
  obtain ⟨a, l, b⟩ := e
  have ih := fun u' h => n07 es v x hx hl d (k + 1) fuel u' (by omega) (by omega) h
  rw [I3.eq_2, if_pos (by simp; omega), N3 he, Option.bind_some, K1 he]
  simp only [V9, U0b, m0e hx.1 hx.2, A2 hk (show es.length ≤ 9223372036854775807 by omega)]
  by_cases c1 : 0 < x ∧ l = x ∧ a = v
  ·obtain ⟨c1, rfl, rfl⟩ := c1
   have hno : decide (l < 0) = false := by simp; omega
   have := o03 b u
   rw [if_pos (by simp [c1]), if_pos ⟨c1, rfl, rfl⟩, l07 u b (by omega), Option.bind_some, hno, if_neg (by simp), ih _ (by omega)]
   rfl
  ·rw [if_neg c1, if_neg (by simp only [Bool.cond_eq_ite]; simp; intro h1 h2 h3; exact c1 ⟨h1, h2, h3⟩)]
   by_cases c2 : x < 0 ∧ l = -x ∧ b = v
   ·have := o03 a u
    rw [if_pos c2, if_pos (by simp [c2.1, c2.2.1, c2.2.2]), l07 u a (by omega), Option.bind_some, ih _ (by omega)]
    rfl
   ·rw [if_neg c2, if_neg (by simp only [Bool.cond_eq_ite]; simp; intro h1 h2 h3; exact c2 ⟨h1, h2, h3⟩), ih _ (by omega)]
    rfl
def n01 (g : l0) (v x : Int) : List Int := w6 D7 [] (V9 v x g.2.2)
theorem J0j (x y : Int) : eqI x y = true ↔ x = y := by simp [eqI]
theorem q0e (g : l0) (v x : Int) (hx : B7 x) (hl : g.2.2.length ≤ 1099511627776) : J8 g v x = some (n01 g v x) := by
 obtain ⟨r, n, es⟩ := g
 unfold J8 n01
 have h := n07 es v x hx hl es.length 0 S0 [] (by omega) (p0e (by simp only at hl; omega)) (by simp)
 rw [show ((0 : Nat) : Int) = 0 from rfl, List.drop_zero] at h
 simp only [h, Option.bind_some]
theorem r0e (g : l0) (v x : Int) (hx : B7 x) (hl : g.2.2.length ≤ 1099511627776) : K8 g v x = some (n01 g v x) := by
 obtain ⟨r, n, es⟩ := g
 unfold K8 n01
 have h := m07 es v x hx hl es.length 0 S0 [] (by omega) (p0e (by simp only at hl; omega)) (by simp)
 rw [show ((0 : Nat) : Int) = 0 from rfl, List.drop_zero, List.nil_append] at h
 have hlen := z0a v x es
 simp only at hl
 simp only [h, Option.bind_some, N0 (show (V9 v x es).length < 4611686018427387904 by omega)]
 rw [← l0e O00 J0j (V9 v x es) (V9 v x es) fun _ => Iff.rfl]
 rfl
def C5 (g : l0) (v x : Int) : Int := match n01 g v x with
 | [] => -1
 | a :: _ => a
theorem n06 (g : l0) (v x : Int) (hx : B7 x) (hl : g.2.2.length ≤ 1099511627776) : B6 g v x = some (C5 g v x) := by
 have h := q0e g v x hx hl
 obtain ⟨r, n, es⟩ := g
 unfold B6 C5
 simp only [h, Option.bind_some]
 cases n01 (r, n, es) v x with
 | nil => rfl
 | cons a l => rfl
theorem o06 (g : l0) (v x : Int) (hx : B7 x) (hl : g.2.2.length ≤ 1099511627776) : C6 g v x = some (C5 g v x) := by
 have h := r0e g v x hx hl
 obtain ⟨r, n, es⟩ := g
 unfold C6 C5
 simp only [h, Option.bind_some]
 cases n01 (r, n, es) v x with
 | nil => rfl
 | cons a l => rfl
theorem H0h {g : l0} {v x y : Int} (h : y ∈ n01 g v x) : y ∈ V9 v x g.2.2 := by
 rcases (U8 O00 y _ []).1 h with h | h
 ·cases h
 ·exact h
theorem A0a {v x y : Int} : ∀ {es : List C0}, y ∈ V9 v x es ↔ ∃ e ∈ es, (0 < x ∧ e.2.1 = x ∧ e.1 = v ∧ y = e.2.2) ∨ (x < 0 ∧ e.2.1 = -x ∧ e.2.2 = v ∧ y = e.1)
 | [] => by simp [V9]
 | e :: es => by
  simp only [V9, List.mem_append, A0a (es := es), List.mem_cons, exists_eq_or_imp]
  refine or_congr ?_ Iff.rfl
  unfold U0b
  split
  ·rename_i h
   simp only [List.mem_singleton]
   constructor
   ·rintro rfl; exact .inl ⟨h.1, h.2.1, h.2.2, rfl⟩
   ·rintro (⟨_, _, _, h4⟩ | ⟨h1, _⟩)
    ·exact h4
    ·omega
  ·rename_i h
   split
   ·rename_i h2
    simp only [List.mem_singleton]
    constructor
    ·rintro rfl; exact .inr ⟨h2.1, h2.2.1, h2.2.2, rfl⟩
    ·rintro (⟨h1, _⟩ | ⟨_, _, _, h4⟩)
     ·omega
     ·exact h4
   ·rename_i h2
    constructor
    ·intro h; cases h
    ·rintro (⟨h3, h4, h5, _⟩ | ⟨h3, h4, h5, _⟩)
     ·exact absurd ⟨h3, h4, h5⟩ h
     ·exact absurd ⟨h3, h4, h5⟩ h2
def inG (g : l0) : Prop := ∀ e ∈ g.2.2, (0 ≤ e.1 ∧ e.1 < g.2.1) ∧ (0 ≤ e.2.2 ∧ e.2.2 < g.2.1) ∧ 1 ≤ e.2.1 ∧ e.2.1 ≤ g.1
theorem O1 {g : l0} (h : M0 g = true) : inG g ∧ (1 ≤ g.1 ∧ g.1 ≤ 3) ∧ (1 ≤ g.2.1 ∧ g.2.1 ≤ 40) ∧ g.2.2.length ≤ 120 := by
 obtain ⟨r, n, es⟩ := g
 simp only [M0, inR, Bool.and_eq_true, decide_eq_true_eq] at h
 obtain ⟨⟨⟨h1, h2⟩, h3⟩, h4⟩ := h
 refine ⟨fun e he => ?_, h2, h3, h4⟩
 obtain ⟨i, hi⟩ := List.getElem?_of_mem he
 have hb := H0f h1 i (Nat.zero_le _) (by have := (List.getElem?_eq_some_iff.1 hi).1; simp only at this; omega)
 rw [k07 hi] at hb
 simp only [Bool.or_eq_false_iff, Bool.not_eq_false', E01, inR, Bool.and_eq_true, decide_eq_true_eq] at hb
 obtain ⟨⟨⟨⟨b1, b2⟩, b3, b4⟩, b5, b6⟩, _⟩ := hb
 rw [w64 (by omega) (by omega)] at b2 b4
 simp only
 exact ⟨⟨b1, by omega⟩, ⟨b3, by omega⟩, b5, b6⟩
theorem D09 {g : l0} (hg : inG g) (v x : Int) : C5 g v x = -1 ∨ (0 ≤ C5 g v x ∧ C5 g v x < g.2.1) := by
 unfold C5
 cases hs : n01 g v x with
 | nil => exact .inl rfl
 | cons a l =>
  right
  have ha : a ∈ n01 g v x := by rw [hs]; exact List.mem_cons_self ..
  obtain ⟨e, he, h⟩ := A0a.1 (H0h ha)
  have := hg e he
  rcases h with ⟨_, _, _, rfl⟩ | ⟨_, _, _, rfl⟩
  ·exact this.2.1
  ·exact this.1
theorem O03 {g : l0} (hg : inG g) (hn : g.2.1 ≤ 40) (v x : Int) : F0 (C5 g v x) := by
 rcases D09 hg v x with h | h
 ·rw [h]; decide
 ·constructor <;> omega
def n02 (a b : C0) : Bool := decide (a.2.1 = b.2.1) && (decide (a.1 = b.1) || decide (a.2.2 = b.2.2))
theorem l08 (a b : C0) : n02 a b = n02 b a := by
 unfold n02
 have h : ∀ x y : Int, decide (x = y) = decide (y = x) := fun x y => decide_eq_decide.2 ⟨Eq.symm, Eq.symm⟩
 rw [h a.2.1, h a.1, h a.2.2]
def noC (a : C0) : List C0 → Bool
 | [] => true
 | b :: l => !n02 a b && noC a l
def P05 : List C0 → Bool
 | [] => true
 | a :: l => noC a l && P05 l
theorem Z0c (a : C0) : ∀ l, noC a l = true ↔ ∀ b ∈ l, n02 a b = false
 | [] => by simp [noC]
 | b :: l => by simp [noC, Z0c a l]
theorem m08 : ∀ l, P05 l = true ↔ l.Pairwise fun a b => n02 a b = false
 | [] => by simp [P05]
 | a :: l => by simp [P05, m08 l, Z0c, List.pairwise_cons]
def B0a : List C0 → List C0 → Bool
 | _, [] => true
 | pre, a :: l => noC a pre && B0a (pre ++ [a]) l
theorem V0b : ∀ (l pre : List C0), B0a pre l = true ↔ l.Pairwise (fun a b => n02 a b = false) ∧ ∀ a ∈ l, ∀ b ∈ pre, n02 a b = false
 | [], pre => by simp [B0a]
 | a :: l, pre => by
  simp only [B0a, Bool.and_eq_true, Z0c, V0b l, List.pairwise_cons]
  constructor
  ·rintro ⟨h2, h3, h4⟩
   refine ⟨⟨fun b hb => by rw [l08]; exact h4 b hb a (by simp), h3⟩, fun x hx b hb => ?_⟩
   rcases List.mem_cons.1 hx with rfl | hx
   ·exact h2 b hb
   ·exact h4 x hx b (by simp [hb])
  ·rintro ⟨⟨h2, h3⟩, h4⟩
   refine ⟨fun b hb => h4 a (List.mem_cons_self ..) b hb, h3, fun x hx b hb => ?_⟩
   rcases List.mem_append.1 hb with hb | hb
   ·exact h4 x (List.mem_cons_of_mem _ hx) b hb
   ·rw [List.mem_singleton.1 hb, l08]; exact h2 x hx
theorem I0h (l : List C0) : B0a [] l = P05 l := by
 rw [Bool.eq_iff_iff, V0b, m08]
 simp
def P0 (g : l0) : Bool := M0 g && P05 g.2.2
theorem e0k (a0 a1 a2 b0 b1 b2 : Int) : (bif decide (a1 = b1) then (bif decide (a0 = b0) then true else decide (a2 = b2)) else false) = n02 (a0, a1, a2) (b0, b1, b2) := by
 unfold n02
 cases decide (a1 = b1) <;> cases decide (a0 = b0) <;> rfl
theorem o07 (l : List C0) (a : C0) (hl : l.length ≤ 140737488355328) : ∀ (d k fuel : Nat), k + d = l.length → d < fuel →
  I5 l a.2.1 a.1 a.2.2 fuel (k : Int) = some (bif noC a (l.drop k) then .inr () else .inl false)
 | d, k, 0, hd, hf => by omega
 | 0, k, fuel + 1, hd, hf => by
  rw [I5.eq_2, if_neg (by simp; omega), E1 (by omega)]
  rfl
 | d + 1, k, fuel + 1, hd, hf => by
  have hk : k < l.length := by omega
  have hx := W5 hk
  generalize l[k] = x at hx
  obtain ⟨a0, a1, a2⟩ := a
  obtain ⟨b0, b1, b2⟩ := x
  rw [I5.eq_2, if_pos (by simp; omega), N3 hx, Option.bind_some, K1 hx]
  simp only [e0k, noC]
  cases hc : n02 (a0, a1, a2) (b0, b1, b2) with
  | true => rfl
  | false =>
   rw [if_neg (by simp), A2 hk (by omega), o07 l (a0, a1, a2) hl d (k + 1) fuel (by omega) (by omega)]
   simp
theorem p06 {α : Type} {xs : List α} {k : Nat} (h : k ≤ xs.length) : k06 xs (k : Int) (xs.length : Int) = some (xs.drop k) := by
 unfold k06
 rw [if_pos ⟨by omega, by omega, by omega⟩]
 simp
theorem p07 (l : List C0) (hl : l.length ≤ 140737488355328) : ∀ (d k fuel : Nat), k + d = l.length → d < fuel →
  J5 l fuel (k : Int) = some (bif P05 (l.drop k) then .inr () else .inl false)
 | d, k, 0, hd, hf => by omega
 | 0, k, fuel + 1, hd, hf => by
  rw [J5.eq_2, if_neg (by simp; omega), E1 (by omega)]
  rfl
 | d + 1, k, fuel + 1, hd, hf => by
  have hk : k < l.length := by omega
  have hx := W5 hk
  generalize l[k] = x at hx
  have h0 := o07 (l.drop (k + 1)) x (by simp; omega) (l.drop (k + 1)).length 0 S0 (by omega) (W0 (by simp; omega))
  rw [show ((0 : Nat) : Int) = 0 from rfl, List.drop_zero] at h0
  obtain ⟨a0, a1, a2⟩ := x
  rw [J5.eq_2, if_pos (by simp; omega), N3 hx, Option.bind_some, K1 hx]
  simp only [A2 hk (show l.length ≤ 9223372036854775807 by omega), p06 (show k + 1 ≤ l.length by omega), Option.bind_some]
  simp only at h0
  rw [h0, Option.bind_some]
  simp only [P05]
  cases noC (a0, a1, a2) (l.drop (k + 1)) with
  | false => rfl
  | true =>
   simp only [cond_true, o0b, Bool.true_and]
   exact p07 l hl d (k + 1) fuel (by omega) (by omega)
theorem W9 (g : l0) (hl : g.2.2.length ≤ 140737488355328) : T5 g = some (P0 g) := by
 have hG := G8 g hl
 obtain ⟨r, n, es⟩ := g
 unfold T5 P0
 simp only [hG, Option.bind_some]
 cases M0 (r, n, es) with
 | false => rfl
 | true =>
  have h := p07 es hl es.length 0 S0 (by omega) (W0 hl)
  rw [show ((0 : Nat) : Int) = 0 from rfl, List.drop_zero] at h
  rw [if_neg (by simp), h, Option.bind_some]
  cases P05 es <;> rfl
theorem q07 (l : List C0) (hl : l.length ≤ 140737488355328) {i : Nat} {a : C0} (ha : l[i]? = some a) : ∀ (d k fuel : Nat), k + d = i → d < fuel →
  G5 (i : Int) l fuel (k : Int) = some (bif noC a ((l.take i).drop k) then .inr () else .inl false)
 | d, k, 0, hd, hf => by omega
 | 0, k, fuel + 1, hd, hf => by
  have := (List.getElem?_eq_some_iff.1 ha).1
  rw [G5.eq_2, if_neg (by simp; omega), E1 (by simp; omega)]
  rfl
 | d + 1, k, fuel + 1, hd, hf => by
  have hi := (List.getElem?_eq_some_iff.1 ha).1
  have hk : k < l.length := by omega
  have hx := W5 hk
  have hx2 : (l.take i)[k]? = some l[k] := by rw [List.getElem?_take, if_pos (by omega)]; exact hx
  have ih := q07 l hl ha d (k + 1) fuel (by omega) (by omega)
  generalize l[k] = x at hx hx2
  obtain ⟨a0, a1, a2⟩ := a
  obtain ⟨b0, b1, b2⟩ := x
  rw [G5.eq_2, if_pos (by simp; omega), N3 ha, Option.bind_some, K1 hx2]
  simp only [N3 hx, Option.bind_some, e0k, noC]
  cases hc : n02 (a0, a1, a2) (b0, b1, b2) with
  | true => rfl
  | false =>
   rw [if_neg (by simp), A2 hk (by omega), ih]
   simp
theorem f0k {α : Type} {xs : List α} {k : Nat} {x : α} (h : xs[k]? = some x) : xs.take (k + 1) = xs.take k ++ [x] := by
 obtain ⟨hk, rfl⟩ := List.getElem?_eq_some_iff.1 h
 exact List.take_succ_eq_append_getElem hk
theorem r07 (r n : Int) (l : List C0) (hg : M0 (r, n, l) = true) (hl : l.length ≤ 140737488355328) : ∀ (d k fuel : Nat), k + d = l.length → d < fuel →
  F4 l r n fuel (k : Int) = some (bif B0a (l.take k) (l.drop k) then .inr () else .inl false)
 | d, k, 0, hd, hf => by omega
 | 0, k, fuel + 1, hd, hf => by
  have e : decide ((k : Int) < (l.length : Int)) = false := by simp; omega
  rw [F4.eq_2, e, N5, Option.bind_some, if_neg (by simp), E1 (by omega)]
  rfl
 | d + 1, k, fuel + 1, hd, hf => by
  have hk : k < l.length := by omega
  have hx := W5 hk
  generalize l[k] = x at hx
  have h0 := q07 l hl hx k 0 S0 (by omega) (W0 (by omega))
  rw [show ((0 : Nat) : Int) = 0 from rfl, List.drop_zero] at h0
  have e : decide ((k : Int) < (l.length : Int)) = true := by simp; omega
  rw [F4.eq_2, e, G2, R5 (r, n, l) hl, Option.bind_some, hg, if_pos (show (bif true then true else false) = true from rfl), h0, Option.bind_some, K1 hx]
  simp only [B0a]
  cases noC x (l.take k) with
  | false => rfl
  | true =>
   simp only [cond_true, o0b, Bool.true_and]
   rw [A2 hk (by omega), ← f0k hx]
   exact r07 r n l hg hl d (k + 1) fuel (by omega) (by omega)
theorem L8 (g : l0) (hl : g.2.2.length ≤ 140737488355328) : S5 g = some (P0 g) := by
 have hG := R5 g hl
 obtain ⟨r, n, es⟩ := g
 unfold S5 P0
 simp only [hG, Option.bind_some]
 cases hg : M0 (r, n, es) with
 | false =>
  have h1 : F4 es r n S0 0 = some (.inr ()) := by
   rw [show S0 = (S0 - 1) + 1 from rfl, F4.eq_2]
   by_cases e : decide ((0 : Int) < (es.length : Int)) = true
   ·rw [e, G2, hG, Option.bind_some, hg, if_neg (by simp)]
   ·rw [Bool.not_eq_true] at e
    rw [e, N5, Option.bind_some, if_neg (by simp)]
  rw [h1]
  rfl
 | true =>
  have h := r07 r n es hg hl es.length 0 S0 (by omega) (W0 hl)
  rw [show ((0 : Nat) : Int) = 0 from rfl, List.drop_zero, List.take_zero, I0h] at h
  rw [h, Option.bind_some]
  cases P05 es <;> rfl
def R8 (g : l0) : Int → List Int → Int × Nat
 | v, [] => (v, 0)
 | v, x :: w => if C5 g v x < 0 then (v, 0) else ((R8 g (C5 g v x) w).1, (R8 g (C5 g v x) w).2 + 1)
theorem C0a (g : l0) : ∀ (w : List Int) (v : Int), (R8 g v w).2 ≤ w.length
 | [], v => by simp [R8]
 | x :: w, v => by
  have := C0a g w (C5 g v x)
  unfold R8
  split
  ·simp
  ·simp only [List.length_cons]; omega
theorem D0a {g : l0} (hg : inG g) (hn : g.2.1 ≤ 40) : ∀ (w : List Int) (v : Int), F0 v → F0 (R8 g v w).1
 | [], v, h => h
 | x :: w, v, h => by
  unfold R8
  split
  ·exact h
  ·exact D0a hg hn w _ (O03 hg hn v x)
def K0j (q : Int × Nat) (n : Nat) (k : Nat) : (Int × Int) ⊕ Int := bif decide (q.2 < n) then .inl (q.1, ((k + q.2 : Nat) : Int)) else .inr q.1
theorem a09 (r n : Int) (es : List C0) (hg : inG (r, n, es)) (hn : n ≤ 40) (hes : es.length ≤ 1099511627776) (w : List Int) (hw : ∀ x ∈ w, B7 x) (hl : w.length ≤ 140737488355328) : ∀ (d k fuel : Nat) (v : Int), k + d = w.length → d < fuel →
  S4 w r n es fuel v (k : Int) = some (K0j (R8 (r, n, es) v (w.drop k)) d k)
 | d, k, 0, v, hd, hf => by omega
 | 0, k, fuel + 1, v, hd, hf => by
  rw [S4.eq_2, if_neg (by simp; omega), E1 (by omega)]
  rfl
 | d + 1, k, fuel + 1, v, hd, hf => by
  have hk : k < w.length := by omega
  have hx := W5 hk
  have hxm := hw _ (List.getElem_mem hk)
  generalize w[k] = x at hx hxm
  rw [S4.eq_2, if_pos (by simp; omega), N3 hx, Option.bind_some, o06 (r, n, es) v x hxm hes, Option.bind_some, N0 (O03 hg hn v x), Option.bind_some, K1 hx]
  unfold R8
  by_cases h : C5 (r, n, es) v x < 0
  ·rw [if_pos (by simpa using h), if_pos h]
   simp [K0j]
  ·rw [if_neg (by simpa using h), if_neg h, A2 hk (by omega), a09 r n es hg hn hes w hw hl d (k + 1) fuel _ (by omega) (by omega)]
   unfold K0j
   simp only [Nat.add_lt_add_iff_right]
   congr 2
   simp only [Nat.add_assoc, Nat.add_comm 1]
theorem I0k (g : l0) (hg : inG g) (hn : g.2.1 ≤ 40) (hes : g.2.2.length ≤ 1099511627776) (v : Int) (w : List Int) (hw : ∀ x ∈ w, B7 x) (hl : w.length ≤ 140737488355328) : z8 g v w = some ((R8 g v w).1, (((R8 g v w).2 : Nat) : Int)) := by
 obtain ⟨r, n, es⟩ := g
 unfold z8
 have h := a09 r n es hg hn hes w hw hl w.length 0 S0 v (by omega) (W0 hl)
 rw [show ((0 : Nat) : Int) = 0 from rfl, List.drop_zero] at h
 have hle := C0a (r, n, es) w v
 simp only [h, Option.bind_some, K0j]
 by_cases hc : (R8 (r, n, es) v w).2 < w.length
 ·simp [hc, l7]
 ·have : (R8 (r, n, es) v w).2 = w.length := by omega
  simp [this, l7]
theorem b09 (r n : Int) (es : List C0) (hg : inG (r, n, es)) (hn : n ≤ 40) (hes : es.length ≤ 1099511627776) (w : List Int) (hw : ∀ x ∈ w, B7 x) (hl : w.length ≤ 140737488355328) : ∀ (d k fuel : Nat) (v : Int), k + d = w.length → d < fuel →
  H5 w r n es fuel v (k : Int) = some (bif decide ((R8 (r, n, es) v (w.drop k)).2 < d) then .inl (-1, false) else .inr (R8 (r, n, es) v (w.drop k)).1)
 | d, k, 0, v, hd, hf => by omega
 | 0, k, fuel + 1, v, hd, hf => by
  rw [H5.eq_2, if_neg (by simp; omega), E1 (by omega)]
  rfl
 | d + 1, k, fuel + 1, v, hd, hf => by
  have hk : k < w.length := by omega
  have hx := W5 hk
  have hxm := hw _ (List.getElem_mem hk)
  generalize w[k] = x at hx hxm
  rw [H5.eq_2, if_pos (by simp; omega), N3 hx, Option.bind_some, n06 (r, n, es) v x hxm hes, Option.bind_some, N0 (O03 hg hn v x), Option.bind_some, K1 hx]
  unfold R8
  by_cases h : C5 (r, n, es) v x < 0
  ·rw [if_pos (by simpa using h), if_pos h]
   simp
  ·rw [if_neg (by simpa using h), if_neg h, A2 hk (by omega), b09 r n es hg hn hes w hw hl d (k + 1) fuel _ (by omega) (by omega)]
   simp only [Nat.add_lt_add_iff_right]
theorem J0k (g : l0) (hf : P0 g = true) (v : Int) (hv : 0 ≤ v ∧ v < g.2.1) (w : List Int) (hw : ∀ x ∈ w, B7 x) (hl : w.length ≤ 140737488355328) :
  b9 g v w = some (bif decide ((R8 g v w).2 < w.length) then (-1, false) else ((R8 g v w).1, true)) := by
 have hgr : M0 g = true := by unfold P0 at hf; simp only [Bool.and_eq_true] at hf; exact hf.1
 obtain ⟨hg, _, hn, hes⟩ := O1 hgr
 have hF := L8 g (by omega)
 obtain ⟨r, n, es⟩ := g
 simp only at hv hn hes
 unfold b9
 have h := b09 r n es hg hn.2 (by omega) w hw hl w.length 0 S0 v (by omega) (W0 hl)
 rw [show ((0 : Nat) : Int) = 0 from rfl, List.drop_zero] at h
 have hr : inR 0 (n - 1) v = true := by simp only [inR, Bool.and_eq_true, decide_eq_true_eq]; omega
 simp only [hF, hf, Option.bind_some, Bool.not_true, Bool.not_false, G2, D01, w64 (show -9223372036854775808 ≤ n - 1 by omega) (show n - 1 ≤ 9223372036854775807 by omega), hr, cond_false, Bool.false_eq_true, if_false, h]
 cases decide ((R8 (r, n, es) v w).2 < w.length) <;> rfl
theorem L4 {g : l0} (h : P0 g = true) : inG g ∧ (1 ≤ g.1 ∧ g.1 ≤ 3) ∧ (1 ≤ g.2.1 ∧ g.2.1 ≤ 40) ∧ g.2.2.length ≤ 120 := by
 unfold P0 at h
 simp only [Bool.and_eq_true] at h
 exact O1 h.1
end Go.Proofs.YtfdlgbfeceodeaaGreat
namespace Go.Proofs.YtfdlgbfeceodeaaGreat
open Go.H
set_option linter.unusedVariables false
set_option linter.unusedSimpArgs false
def L0j (v : Int) (e : C0) : Nat := (if e.1 = v then 1 else 0) + (if e.2.2 = v then 1 else 0)
def P03 (v : Int) : List C0 → Nat
 | [] => 0
 | e :: r => L0j v e + P03 v r
theorem M0j (v : Int) (e : C0) : L0j v e ≤ 2 := by unfold L0j; split <;> split <;> omega
theorem a0d (v : Int) : ∀ l, P03 v l ≤ 2 * l.length
 | [] => by simp [P03]
 | e :: r => by have := M0j v e; have := a0d v r; simp only [P03, List.length_cons]; omega
theorem E0a (es : List C0) (v : Int) (hl : es.length ≤ 1099511627776) : ∀ (d k fuel acc : Nat), k + d = es.length → d < fuel → acc ≤ 2 * k →
  U2 es v fuel (acc : Int) (k : Int) = some ((acc + P03 v (es.drop k) : Nat) : Int)
 | d, k, 0, acc, hd, hf, ha => by omega
 | 0, k, fuel + 1, acc, hd, hf, ha => by
  rw [U2.eq_2, if_neg (by simp; omega), E1 (by omega)]; rfl
 | d + 1, k, fuel + 1, acc, hd, hf, ha => by
  have hk : k < es.length := by omega
  have he := W5 hk
  generalize es[k] = e at he
  obtain ⟨a, l, b⟩ := e
  have ih := fun acc' h => E0a es v hl d (k + 1) fuel acc' (by omega) (by omega) h
  have w1 : IntKind.i64.wrap ((acc : Int) + 1) = ((acc + 1 : Nat) : Int) := by rw [w64 (by omega) (by omega)]; rfl
  have w2 : IntKind.i64.wrap (((acc + 1 : Nat) : Int) + 1) = ((acc + 2 : Nat) : Int) := by rw [w64 (by omega) (by omega)]; rfl
  rw [U2.eq_2, if_pos (by simp; omega), N3 he, K1 he]
  simp only [Option.bind_some, P03, L0j, A2 hk (show es.length ≤ 9223372036854775807 by omega)]
  by_cases c1 : a = v
  ·rw [if_pos (by simpa using c1), if_pos c1]
   by_cases c2 : b = v
   ·rw [if_pos (by simpa using c2), if_pos c2, w1, w2, ih _ (by omega)]; congr 2; omega
   ·rw [if_neg (by simpa using c2), if_neg c2, w1, ih _ (by omega)]; congr 2; omega
  ·rw [if_neg (by simpa using c1), if_neg c1]
   by_cases c2 : b = v
   ·rw [if_pos (by simpa using c2), if_pos c2, w1, ih _ (by omega)]; congr 2; omega
   ·rw [if_neg (by simpa using c2), if_neg c2, ih _ (by omega)]; congr 2; omega
theorem F0a (es : List C0) (v : Int) : ∀ (fuel : Nat) (x y : Int), G4 es v fuel x y = U2 es v fuel x y
 | 0, x, y => rfl
 | fuel + 1, x, y => by
  rw [G4.eq_2, U2.eq_2]
  simp only [F0a es v fuel]
  by_cases c : (decide (y < ((es.length : Nat) : Int))) = true
  ·rw [if_pos c, if_pos c]
   cases hg : gi es y with
   | none => rfl
   | some e => simp only [Option.bind_some]
  ·rw [if_neg c, if_neg c]
theorem W0b (g : l0) (v : Int) (hl : g.2.2.length ≤ 1099511627776) : t8 g v = some ((P03 v g.2.2 : Nat) : Int) := by
 obtain ⟨r, n, es⟩ := g
 unfold t8
 have h := E0a es v hl es.length 0 S0 0 (by omega) (W0 (by simp only at hl; omega)) (Nat.zero_le _)
 rw [show ((0 : Nat) : Int) = 0 from rfl, List.drop_zero, Nat.zero_add] at h
 simp only [h, Option.bind_some]
theorem J0h (g : l0) (v : Int) (hl : g.2.2.length ≤ 1099511627776) : c9 g v = some ((P03 v g.2.2 : Nat) : Int) := by
 have h := W0b g v hl
 obtain ⟨r, n, es⟩ := g
 unfold c9
 unfold t8 at h
 simp only [F0a] at h ⊢
 exact h
theorem b0d (x y : C0) : eqE x y = true ↔ x = y := by simp [eqE]
def goE (x : C0) : List C0 → Bool × List C0
 | [] => (false, [])
 | y :: l => if K0 x y < 0 then (true, x :: y :: l) else if K0 x y = 0 then (true, y :: l) else ((goE x l).1, y :: (goE x l).2)
theorem G0g (x : C0) : ∀ l, P8 K0 x l = bif (goE x l).1 then (goE x l).2 else (goE x l).2 ++ [x]
 | [] => rfl
 | y :: l => by
  have ih := G0g x l
  unfold P8 goE
  by_cases c1 : K0 x y < 0
  ·rw [if_pos c1, if_pos c1]; rfl
  ·rw [if_neg c1, if_neg c1]
   by_cases c2 : K0 x y = 0
   ·rw [if_pos c2, if_pos c2]; rfl
   ·rw [if_neg c2, if_neg c2, ih]; cases (goE x l).1 <;> rfl
theorem n08 (l : List C0) (w0 w1 w2 : Int) (hl : l.length ≤ 1099511627776) : ∀ (d k fuel : Nat) (acc : List C0), k + d = l.length → d < fuel → acc.length ≤ k + 1 →
  T3 l w0 w1 w2 fuel true (k : Int) acc = some (true, acc ++ l.drop k)
 | d, k, 0, acc, hd, hf, ha => by omega
 | 0, k, fuel + 1, acc, hd, hf, ha => by
  rw [T3.eq_2, if_neg (by simp; omega), E1 (by omega), List.append_nil]
 | d + 1, k, fuel + 1, acc, hd, hf, ha => by
  have hk : k < l.length := by omega
  have he := W5 hk
  generalize l[k] = e at he
  obtain ⟨a, x, b⟩ := e
  have ih := n08 l w0 w1 w2 hl d (k + 1) fuel (acc ++ [(a, x, b)]) (by omega) (by omega) (by simp; omega)
  rw [T3.eq_2, if_pos (by simp; omega), K1 he]
  simp only [N3 he, Option.bind_some, A00, N0 (C09 _ _), A2 hk (show l.length ≤ 9223372036854775807 by omega), Bool.not_true]
  have hb : ∀ b : Bool, (bif b then false else false) = false := fun b => by cases b <;> rfl
  simp only [hb, Bool.false_eq_true, if_false]
  rw [N0 (by simp; omega), Option.bind_some, ih]
  simp
theorem G0a (l : List C0) (w0 w1 w2 : Int) (hl : l.length ≤ 1099511627776) : ∀ (d k fuel : Nat) (acc : List C0), k + d = l.length → d < fuel → acc.length = k →
  T3 l w0 w1 w2 fuel false (k : Int) acc = some ((goE (w0, w1, w2) (l.drop k)).1, acc ++ (goE (w0, w1, w2) (l.drop k)).2)
 | d, k, 0, acc, hd, hf, ha => by omega
 | 0, k, fuel + 1, acc, hd, hf, ha => by
  rw [T3.eq_2, if_neg (by simp; omega), E1 (by omega)]; simp [goE]
 | d + 1, k, fuel + 1, acc, hd, hf, ha => by
  have hk : k < l.length := by omega
  have he := W5 hk
  generalize l[k] = e at he
  obtain ⟨a, x, b⟩ := e
  have ih := G0a l w0 w1 w2 hl d (k + 1) fuel (acc ++ [(a, x, b)]) (by omega) (by omega) (by simp; omega)
  have on1 := n08 l w0 w1 w2 hl d (k + 1) fuel (acc ++ [(a, x, b)]) (by omega) (by omega) (by simp; omega)
  have on2 := n08 l w0 w1 w2 hl d (k + 1) fuel ((acc ++ [(w0, w1, w2)]) ++ [(a, x, b)]) (by omega) (by omega) (by simp; omega)
  rw [T3.eq_2, if_pos (by simp; omega), K1 he]
  simp only [N3 he, Option.bind_some, A00, N0 (C09 _ _), A2 hk (show l.length ≤ 9223372036854775807 by omega), Bool.not_true, Bool.not_false, goE]
  show _ = _
  unfold w0a
  by_cases c1 : K0 (w0, w1, w2) (a, x, b) = 0
  ·rw [if_pos (by simpa using c1), if_neg (by simp [c1]), if_neg (by omega), if_pos c1]
   rw [N0 (by simp; omega), Option.bind_some, on1]; simp
  ·rw [if_neg (by simpa using c1)]
   by_cases c2 : K0 (w0, w1, w2) (a, x, b) < 0
   ·rw [if_pos (by simp [c2]), if_pos c2, N0 (by simp; omega), Option.bind_some, N0 (by simp; omega), Option.bind_some, on2]; simp
   ·rw [if_neg (by simp [c2]), if_neg c2, if_neg c1, N0 (by simp; omega), Option.bind_some, ih]; simp
theorem Q03 (l : List C0) (e : C0) (hl : l.length ≤ 1099511627776) : D6 l e = some (P8 K0 e l) := by
 obtain ⟨w0, w1, w2⟩ := e
 unfold D6
 have h := G0a l w0 w1 w2 hl l.length 0 S0 [] (by omega) (W0 (by omega)) rfl
 rw [show ((0 : Nat) : Int) = 0 from rfl, List.drop_zero, List.nil_append] at h
 simp only [h, Option.bind_some, G0g]
 have hlen : ∀ l : List C0, (goE (w0, w1, w2) l).2.length ≤ l.length + 1 := fun l => by
  induction l with
  | nil => simp [goE]
  | cons y l ih =>
   unfold goE
   split
   ·simp
   ·split
    ·simp
    ·simp only [List.length_cons]; omega
 have := hlen l
 cases (goE (w0, w1, w2) l).1 with
 | true => rfl
 | false =>
  simp only [Bool.not_false, if_true, cond_false]
  rw [N0 (by simp; omega), Option.bind_some]
theorem P01 (e : C0) : ∀ l : List C0, (P8 K0 e l).length ≤ l.length + 1
 | [] => by simp [P8]
 | y :: l => by
  have := P01 e l
  unfold P8
  split
  ·simp
  ·split
   ·simp
   ·simp only [List.length_cons]; omega
theorem s07 (es : List C0) (hl : es.length ≤ 1099511627776) : L7 es = some (w6 K0 [] es) := by
 unfold L7
 rw [N0 (by simp; omega), Option.bind_some, N0 (by simp; omega), Option.bind_some, List.nil_append]
 exact congrArg some (l0e Z5 b0d es es fun _ => Iff.rfl)
theorem B00 (g : l0) (hl : g.2.2.length ≤ 1099511627776) : I2 g = some g := by
 obtain ⟨r, n, es⟩ := g
 unfold I2
 simp only
 rw [N0 (by simp only [List.length_nil, Nat.zero_add]; simp only at hl; omega)]; rfl
theorem Y9 (g : l0) (hl : g.2.2.length ≤ 1099511627776) : V1 g = some g := by
 obtain ⟨r, n, es⟩ := g
 unfold V1
 simp only
 rw [N0 (by simp only [List.length_nil, Nat.zero_add]; simp only at hl; omega)]; rfl
end Go.Proofs.YtfdlgbfeceodeaaGreat
namespace Go.Proofs.YtfdlgbfeceodeaaGreat
open Go.H
set_option linter.unusedVariables false
set_option linter.unusedSimpArgs false
inductive Rch (es : List C0) (v : Int) : Int → Prop
 | base : Rch es v v
 | fwd {e : C0} : e ∈ es → Rch es v e.1 → Rch es v e.2.2
 | bwd {e : C0} : e ∈ es → Rch es v e.2.2 → Rch es v e.1
theorem Rch.closed {es : List C0} {v : Int} : ∀ e ∈ es, Rch es v e.1 ↔ Rch es v e.2.2 := fun e he => ⟨.fwd he, .bwd he⟩
theorem Rch.sub {es : List C0} {v : Int} {P : Int → Prop} (hv : P v) (hc : ∀ e ∈ es, P e.1 ↔ P e.2.2) : ∀ {x}, Rch es v x → P x
 | _, .base => hv
 | _, .fwd he h => (hc _ he).1 (Rch.sub hv hc h)
 | _, .bwd he h => (hc _ he).2 (Rch.sub hv hc h)
def o8 (S : List Bool) (i : Int) : Bool := S.getD i.toNat false
def stJ (S : List Bool) (e : C0) : List Bool := (S.set e.1.toNat true).set e.2.2.toNat true
def pJ : List C0 → Bool → List Bool → Bool × List Bool
 | [], c, S => (c, S)
 | e :: r, c, S => bif o8 S e.1 == o8 S e.2.2 then pJ r c S else pJ r true (stJ S e)
def cF : List Bool → Nat
 | [] => 0
 | b :: r => (bif b then 0 else 1) + cF r
theorem I0f : ∀ (S : List Bool) (i : Nat), cF (S.set i true) ≤ cF S
 | [], i => by simp [cF]
 | b :: r, 0 => by simp [cF]
 | b :: r, i + 1 => by have := I0f r i; simp only [List.set_cons_succ, cF]; omega
theorem H0i : ∀ (S : List Bool) (i : Nat), S[i]? = some false → cF (S.set i true) < cF S
 | [], i, h => by simp at h
 | b :: r, 0, h => by simp at h; subst h; simp [cF]
 | b :: r, i + 1, h => by have := H0i r i (by simpa using h); simp only [List.set_cons_succ, cF]; omega
theorem g0k : ∀ S : List Bool, cF S ≤ S.length
 | [] => by simp [cF]
 | b :: r => by have := g0k r; cases b <;> simp only [cF, List.length_cons, cond_true, cond_false] <;> omega
def inN (n : Nat) (es : List C0) : Prop := ∀ e ∈ es, (0 ≤ e.1 ∧ e.1 < (n : Int)) ∧ (0 ≤ e.2.2 ∧ e.2.2 < (n : Int))
theorem R04 {S : List Bool} {i : Nat} (h : i < S.length) (x : Int) : o8 (S.set i true) x = (decide (x.toNat = i) || o8 S x) := by
 unfold o8
 rw [List.getD_eq_getElem?_getD, List.getD_eq_getElem?_getD, List.getElem?_set]
 by_cases c : i = x.toNat
 ·rw [if_pos c, if_pos (by omega)]; simp [c]
 ·rw [if_neg c]
  have : decide (x.toNat = i) = false := by simp; exact fun e => c e.symm
  rw [this]; rfl
theorem J0f : ∀ (es : List C0) (c : Bool) (S : List Bool), (pJ es c S).2.length = S.length
 | [], c, S => rfl
 | e :: r, c, S => by
  unfold pJ
  cases o8 S e.1 == o8 S e.2.2
  ·simp only [cond_false]; rw [J0f r]; simp [stJ]
  ·simp only [cond_true]; exact J0f r c S
theorem c0d {n : Nat} : ∀ (es : List C0) (c : Bool) (S : List Bool), S.length = n → inN n es → ∀ x, o8 S x = true → o8 (pJ es c S).2 x = true
 | [], c, S, hl, hn, x, h => h
 | e :: r, c, S, hl, hn, x, h => by
  have he := hn e (List.mem_cons_self ..)
  have hr : inN n r := fun e he => hn e (List.mem_cons_of_mem _ he)
  unfold pJ
  cases o8 S e.1 == o8 S e.2.2
  ·simp only [cond_false]
   refine c0d r _ _ (by simp [stJ, hl]) hr x ?_
   rw [stJ, R04 (by rw [List.length_set]; omega), R04 (by omega), h]; simp
  ·simp only [cond_true]; exact c0d r c S hl hr x h
theorem H0a {n : Nat} {P : Int → Prop} : ∀ (es : List C0) (c : Bool) (S : List Bool), S.length = n → inN n es → (∀ e ∈ es, P e.1 ↔ P e.2.2) → (∀ x, 0 ≤ x → o8 S x = true → P x) → ∀ x, 0 ≤ x → o8 (pJ es c S).2 x = true → P x
 | [], c, S, hl, hn, hc, hs, x, h0, h => hs x h0 h
 | e :: r, c, S, hl, hn, hc, hs, x, h0, h => by
  have he := hn e (List.mem_cons_self ..)
  have hr : inN n r := fun e he => hn e (List.mem_cons_of_mem _ he)
  have hc' := fun e he => hc e (List.mem_cons_of_mem _ he)
  have hce := hc e (List.mem_cons_self ..)
  unfold pJ at h
  cases hb : o8 S e.1 == o8 S e.2.2
  ·rw [hb] at h
   refine H0a r true (stJ S e) (by simp [stJ, hl]) hr hc' (fun y hy h => ?_) x h0 h
   rw [stJ, R04 (by rw [List.length_set]; omega), R04 (by omega)] at h
   simp only [Bool.or_eq_true, decide_eq_true_eq] at h
   have hor : P e.1 ∨ P e.2.2 := by
    cases h1 : o8 S e.1
    ·cases h2 : o8 S e.2.2
     ·rw [h1, h2] at hb; cases hb
     ·exact .inr (hs _ he.2.1 h2)
    ·exact .inl (hs _ he.1.1 h1)
   rcases h with h | h | h
   ·have : y = e.2.2 := by omega
    subst this; exact hor.elim hce.1 id
   ·have : y = e.1 := by omega
    subst this; exact hor.elim id hce.2
   ·exact hs y hy h
  ·rw [hb] at h
   exact H0a r c S hl hr hc' hs x h0 h
theorem K0f {n : Nat} : ∀ (es : List C0) (c : Bool) (S : List Bool), S.length = n → inN n es → cF (pJ es c S).2 ≤ cF S ∧ ((pJ es c S).1 = true → c = true ∨ cF (pJ es c S).2 < cF S) ∧ ((pJ es c S).1 = false → c = false ∧ (pJ es c S).2 = S ∧ ∀ e ∈ es, o8 S e.1 = o8 S e.2.2)
 | [], c, S, hl, hn => ⟨Nat.le_refl _, fun h => .inl h, fun h => ⟨h, rfl, fun e he => nomatch he⟩⟩
 | e :: r, c, S, hl, hn => by
  have he := hn e (List.mem_cons_self ..)
  have hr : inN n r := fun e he => hn e (List.mem_cons_of_mem _ he)
  unfold pJ
  cases hb : o8 S e.1 == o8 S e.2.2
  ·simp only [cond_false]
   obtain ⟨h1, h2, h3⟩ := K0f r true (stJ S e) (by simp [stJ, hl]) hr
   have hlt : cF (stJ S e) < cF S := by
    have g : ∀ (x : Int), 0 ≤ x → x < n → o8 S x = false → S[x.toNat]? = some false := fun x hx hx2 hg => by
     have hk : x.toNat < S.length := by omega
     unfold o8 at hg
     rw [List.getD_eq_getElem?_getD, List.getElem?_eq_getElem hk] at hg
     rw [List.getElem?_eq_getElem hk]; simpa using hg
    cases g1 : o8 S e.1
    ·have := H0i S _ (g _ he.1.1 he.1.2 g1)
     have := I0f (S.set e.1.toNat true) e.2.2.toNat
     unfold stJ; omega
    ·have g2 : o8 S e.2.2 = false := by
      cases g2 : o8 S e.2.2
      ·rfl
      ·rw [g1, g2] at hb; cases hb
     have g3 : (S.set e.1.toNat true)[e.2.2.toNat]? = some false := by
      rw [List.getElem?_set]
      by_cases q : e.1.toNat = e.2.2.toNat
      ·exfalso
       have : e.1 = e.2.2 := by omega
       rw [this, g2] at g1; cases g1
      ·rw [if_neg q]; exact g _ he.2.1 he.2.2 g2
     have := H0i _ _ g3
     have := I0f S e.1.toNat
     unfold stJ; omega
   refine ⟨by omega, fun _ => .inr (by omega), fun h => ?_⟩
   have := (h3 h).1; cases this
  ·simp only [cond_true]
   obtain ⟨h1, h2, h3⟩ := K0f r c S hl hr
   refine ⟨h1, h2, fun h => ⟨(h3 h).1, (h3 h).2.1, fun e' he' => ?_⟩⟩
   rcases List.mem_cons.1 he' with rfl | he'
   ·simpa using hb
   ·exact (h3 h).2.2 e' he'
theorem giB {S : List Bool} {n : Nat} (hl : S.length = n) {x : Int} (h0 : 0 ≤ x) (h1 : x < n) : gi S x = some (o8 S x) := by
 have hk : x.toNat < S.length := by omega
 have e : x = ((x.toNat : Nat) : Int) := by omega
 have h2 : gi S ((x.toNat : Nat) : Int) = some (o8 S x) := by
  rw [j08, List.getElem?_eq_getElem hk]
  unfold o8
  rw [List.getD_eq_getElem?_getD, List.getElem?_eq_getElem hk]; rfl
 rw [← e] at h2; exact h2
theorem X0b (es : List C0) {n : Nat} (hn : inN n es) (hl : es.length ≤ 9223372036854775807) : ∀ (d k fuel : Nat) (c : Bool) (S : List Bool), S.length = n → k + d = es.length → d < fuel →
  K3 es fuel c (k : Int) S = some (pJ (es.drop k) c S)
 | d, k, 0, c, S, hS, hd, hf => by omega
 | 0, k, fuel + 1, c, S, hS, hd, hf => by
  rw [K3.eq_2, if_neg (by simp; omega), E1 (by omega)]; rfl
 | d + 1, k, fuel + 1, c, S, hS, hd, hf => by
  have hk : k < es.length := by omega
  have he := W5 hk
  have hin := hn _ (List.mem_of_getElem? he)
  generalize es[k] = e at he hin
  obtain ⟨a, l, b⟩ := e
  have ih := fun c' S' h => X0b es hn hl d (k + 1) fuel c' S' h (by omega) (by omega)
  rw [K3.eq_2, if_pos (by simp; omega), K1 he]
  simp only [N3 he, Option.bind_some, giB hS hin.1.1 hin.1.2, giB hS hin.2.1 hin.2.2, A2 hk hl, giB (show (S.set a.toNat true).length = n by simp [hS]) hin.2.1 hin.2.2, pJ]
  cases hb : o8 S a == o8 S b
  ·simp only [Bool.not_false, if_true, cond_false]
   exact ih _ _ (by simp [hS])
  ·simp only [Bool.not_true, Bool.false_eq_true, if_false, cond_true]
   exact ih _ _ hS
theorem Y0b (es : List C0) {n : Nat} (hn : inN n es) (hl : es.length ≤ 9223372036854775806) : ∀ (m fuel : Nat) (S : List Bool), S.length = n → cF S ≤ m → m + 1 < fuel →
  ∃ S', j4 es fuel true S = some S' ∧ S'.length = n ∧ (∀ x, o8 S x = true → o8 S' x = true) ∧ (∀ e ∈ es, o8 S' e.1 = o8 S' e.2.2) ∧
   ∀ P : Int → Prop, (∀ e ∈ es, P e.1 ↔ P e.2.2) → (∀ x, 0 ≤ x → o8 S x = true → P x) → ∀ x, 0 ≤ x → o8 S' x = true → P x
 | m, 0, S, hS, hm, hf => by omega
 | m, fuel + 1, S, hS, hm, hf => by
  have h0 := X0b es hn (by omega) es.length 0 S0 false S hS (by omega) (by unfold S0; omega)
  rw [show ((0 : Nat) : Int) = 0 from rfl, List.drop_zero] at h0
  obtain ⟨c1, c2, c3⟩ := K0f es false S hS hn
  have hlen := J0f es false S
  rw [j4.eq_2, if_pos rfl, h0, Option.bind_some]
  have hmono := c0d es false S hS hn
  have hsnd := fun P => H0a (P := P) es false S hS hn
  generalize pJ es false S = q at *
  obtain ⟨c, S'⟩ := q
  simp only at c1 c2 c3 hlen hmono hsnd ⊢
  cases c with
  | true =>
   rcases c2 rfl with h | h
   ·cases h
   ·obtain ⟨S2, e1, e2, e3, e4, e5⟩ := Y0b es hn hl (m - 1) fuel S' (by omega) (by omega) (by omega)
    exact ⟨S2, e1, e2, fun x hx => e3 x (hmono x hx), e4, fun P hc hs => e5 P hc (hsnd P hc hs)⟩
  | false =>
   obtain ⟨_, e, hall⟩ := c3 rfl
   subst e
   obtain _ | fuel := fuel
   ·omega
   ·rw [j4.eq_2, if_neg (by simp)]
    exact ⟨_, rfl, hS, fun x h => h, hall, fun P _ hs => hs⟩
theorem I0i (r : Int) (n : Nat) (es : List C0) (hn : inN n es) (hl : es.length ≤ 9223372036854775806) (hn2 : 1 ≤ n) (hn3 : n ≤ 140737488355328) :
  ∃ S, J7 (r, (n : Int), es) 0 = some S ∧ S.length = n ∧ ∀ x, 0 ≤ x → x < (n : Int) → (o8 S x = true ↔ Rch es 0 x) := by
 unfold J7
 simp only [Int.toNat_natCast]
 have hg : gi (List.replicate n (false : Bool)) 0 = some false := by
  rw [O04 (x := false)]; rw [List.getElem?_replicate, if_pos (by omega)]
 rw [N0 (by omega), Option.bind_some, hg, Option.bind_some]
 have hS : ((List.replicate n (false : Bool)).set (0 : Int).toNat true).length = n := by simp
 obtain ⟨S', e1, e2, e3, e4, e5⟩ := Y0b es hn hl n S0 _ hS (by have := g0k ((List.replicate n (false : Bool)).set (0 : Int).toNat true); omega) (by unfold S0; omega)
 rw [e1]
 have hb : ∀ x, o8 ((List.replicate n (false : Bool)).set (0 : Int).toNat true) x = decide (x.toNat = 0) := fun x => by
  rw [R04 (by simp; omega)]
  have : o8 (List.replicate n false) x = false := by
   unfold o8
   rw [List.getD_eq_getElem?_getD, List.getElem?_replicate]
   split <;> rfl
  rw [this]; simp
 refine ⟨S', rfl, e2, fun x h0 h1 => ⟨fun h => ?_, fun h => ?_⟩⟩
 ·refine e5 (Rch es 0) Rch.closed (fun y hy h => ?_) x h0 h
  rw [hb] at h
  have : y = 0 := by simp at h; omega
  subst this; exact .base
 ·exact Rch.sub (P := fun x => o8 S' x = true) (e3 0 (by rw [hb]; rfl)) (fun e he => by rw [e4 e he]) h
theorem h0k (l : List Int) (w : Int) (hl : l.length ≤ 9223372036854775807) : ∀ (d k fuel : Nat), k + d = l.length → d < fuel →
  A7 l w fuel (k : Int) = some (if w ∈ l.drop k then .inl true else .inr ())
 | d, k, 0, hd, hf => by omega
 | 0, k, fuel + 1, hd, hf => by
  rw [A7.eq_2, if_neg (by simp; omega), E1 (by omega)]; simp
 | d + 1, k, fuel + 1, hd, hf => by
  have hk : k < l.length := by omega
  have hx := W5 hk
  generalize l[k] = x at hx
  have ih := h0k l w hl d (k + 1) fuel (by omega) (by omega)
  rw [A7.eq_2, if_pos (by simp; omega), K1 hx]
  simp only [N3 hx, Option.bind_some, A2 hk hl, ih, List.mem_cons]
  by_cases c : x = w
  ·rw [if_pos (by simpa using c), if_pos (.inl c.symm)]
  ·rw [if_neg (by simpa using c)]
   by_cases c2 : w ∈ l.drop (k + 1)
   ·rw [if_pos c2, if_pos (.inr c2)]
   ·rw [if_neg c2, if_neg (fun h => h.elim (fun e => c e.symm) c2)]
theorem E09 (l : List Int) (w : Int) (hl : l.length ≤ 9223372036854775807) : K7 l w = some (decide (w ∈ l)) := by
 unfold K7
 have h := h0k l w hl l.length 0 S0 (by omega) (by unfold S0; omega)
 rw [show ((0 : Nat) : Int) = 0 from rfl, List.drop_zero] at h
 rw [h, Option.bind_some]
 by_cases c : w ∈ l
 ·rw [if_pos c]; simp [l7, c]
 ·rw [if_neg c]; simp [l7, c]
def s1 (u : List Int) (e : C0) : List Int := if e.1 ∈ u then P8 D7 e.2.2 u else u
def s2 (u : List Int) (e : C0) : List Int := if e.2.2 ∈ u then P8 D7 e.1 u else u
def pS : List C0 → List Int → List Int
 | [], u => u
 | e :: r, u => pS r (s2 (s1 u e) e)
theorem o08 {u : List Int} {e : C0} {x : Int} : x ∈ s1 u e ↔ x ∈ u ∨ (e.1 ∈ u ∧ x = e.2.2) := by
 unfold s1
 split
 ·rename_i h; rw [k03 O00]; constructor
  ·rintro (h1 | h1)
   ·exact .inr ⟨h, h1⟩
   ·exact .inl h1
  ·rintro (h1 | ⟨_, h1⟩)
   ·exact .inr h1
   ·exact .inl h1
 ·rename_i h; constructor
  ·exact .inl
  ·rintro (h1 | ⟨h1, _⟩)
   ·exact h1
   ·exact absurd h1 h
theorem p08 {u : List Int} {e : C0} {x : Int} : x ∈ s2 u e ↔ x ∈ u ∨ (e.2.2 ∈ u ∧ x = e.1) := by
 unfold s2
 split
 ·rename_i h; rw [k03 O00]; constructor
  ·rintro (h1 | h1)
   ·exact .inr ⟨h, h1⟩
   ·exact .inl h1
  ·rintro (h1 | ⟨_, h1⟩)
   ·exact .inr h1
   ·exact .inl h1
 ·rename_i h; constructor
  ·exact .inl
  ·rintro (h1 | ⟨h1, _⟩)
   ·exact h1
   ·exact absurd h1 h
theorem J0i (u : List Int) (e : C0) : (s1 u e).length ≤ u.length + 1 := by
 unfold s1; split
 ·exact o03 _ _
 ·omega
theorem K0i (u : List Int) (e : C0) : (s2 u e).length ≤ u.length + 1 := by
 unfold s2; split
 ·exact o03 _ _
 ·omega
theorem L0f : ∀ (es : List C0) (u : List Int), (pS es u).length ≤ u.length + 2 * es.length
 | [], u => by simp [pS]
 | e :: r, u => by
  have := L0f r (s2 (s1 u e) e)
  have := K0i (s1 u e) e
  have := J0i u e
  simp only [pS, List.length_cons]; omega
theorem R03 : ∀ (es : List C0) (u : List Int) (x : Int), x ∈ u → x ∈ pS es u
 | [], u, x, h => h
 | e :: r, u, x, h => R03 r _ x (p08.2 (.inl (o08.2 (.inl h))))
theorem I0a {P : Int → Prop} : ∀ (es : List C0) (u : List Int), (∀ e ∈ es, P e.1 ↔ P e.2.2) → (∀ x ∈ u, P x) → ∀ x ∈ pS es u, P x
 | [], u, hc, hs => hs
 | e :: r, u, hc, hs => I0a r _ (fun e he => hc e (List.mem_cons_of_mem _ he)) fun x hx => by
  have hce := hc e (List.mem_cons_self ..)
  have h1 : ∀ y ∈ s1 u e, P y := fun y hy => by
   rcases o08.1 hy with h | ⟨h, rfl⟩
   ·exact hs y h
   ·exact hce.1 (hs _ h)
  rcases p08.1 hx with h | ⟨h, rfl⟩
  ·exact h1 x h
  ·exact hce.2 (h1 _ h)
theorem s0e : ∀ (es : List C0) (u : List Int) (e : C0), e ∈ es → e.1 ∈ u ∨ e.2.2 ∈ u → e.1 ∈ pS es u ∧ e.2.2 ∈ pS es u
 | e' :: r, u, e, he, h => by
  simp only [pS]
  rcases List.mem_cons.1 he with rfl | he
  ·have h2 : e.2.2 ∈ s1 u e := by
    rcases h with h | h
    ·exact o08.2 (.inr ⟨h, rfl⟩)
    ·exact o08.2 (.inl h)
   exact ⟨R03 r _ _ (p08.2 (.inr ⟨h2, rfl⟩)), R03 r _ _ (p08.2 (.inl h2))⟩
  ·exact s0e r _ e he (h.imp (fun h => p08.2 (.inl (o08.2 (.inl h)))) fun h => p08.2 (.inl (o08.2 (.inl h))))
def act (es : List C0) (u : List Int) : Nat := es.countP fun e => decide (e.1 ∈ u) && decide (e.2.2 ∈ u)
def clo (es : List C0) (u : List Int) : Prop := ∀ e ∈ es, e.1 ∈ u ↔ e.2.2 ∈ u
theorem K0k (es : List C0) (u : List Int) : act es u ≤ es.length := List.countP_le_length
theorem Z0b {α : Type} {p q : α → Bool} : ∀ {l : List α}, (∀ x ∈ l, p x = true → q x = true) → (∃ x ∈ l, p x = false ∧ q x = true) → l.countP p < l.countP q
 | [], _, ⟨x, hx, _⟩ => nomatch hx
 | y :: l, h, ⟨x, hx, h1, h2⟩ => by
  have hle : l.countP p ≤ l.countP q := List.countP_mono_left fun z hz => h z (List.mem_cons_of_mem _ hz)
  rcases List.mem_cons.1 hx with rfl | hx
  ·rw [List.countP_cons_of_neg (by simp [h1]), List.countP_cons_of_pos h2]; omega
  ·have ih := Z0b (l := l) (fun z hz => h z (List.mem_cons_of_mem _ hz)) ⟨x, hx, h1, h2⟩
   cases hp : p y
   ·rw [List.countP_cons_of_neg (by simp [hp])]
    have : l.countP q ≤ (y :: l).countP q := by rw [List.countP_cons]; omega
    omega
   ·rw [List.countP_cons_of_pos hp, List.countP_cons_of_pos (h y (List.mem_cons_self ..) hp)]; omega
theorem t07 {es : List C0} {u : List Int} (h : clo es u) (x : Int) : x ∈ pS es u ↔ x ∈ u :=
 ⟨I0a (P := fun x => x ∈ u) es u h (fun _ h => h) x, R03 es u x⟩
theorem L0i {es : List C0} {u : List Int} : clo es (pS es u) ∨ act es u < act es (pS es u) := by
 by_cases h : clo es u
 ·left
  intro e he
  rw [t07 h, t07 h]; exact h e he
 ·right
  have : ∃ e ∈ es, ¬ (e.1 ∈ u ↔ e.2.2 ∈ u) := by
   refine Classical.byContradiction fun hn => h fun e he => ?_
   exact Classical.byContradiction fun h2 => hn ⟨e, he, h2⟩
  obtain ⟨e, he, hne⟩ := this
  refine Z0b (fun x hx h => ?_) ⟨e, he, ?_, ?_⟩
  ·simp only [Bool.and_eq_true, decide_eq_true_eq] at h ⊢
   exact ⟨R03 _ _ _ h.1, R03 _ _ _ h.2⟩
  ·rw [Bool.eq_false_iff]
   intro h
   simp only [Bool.and_eq_true, decide_eq_true_eq] at h
   exact hne ⟨fun _ => h.2, fun _ => h.1⟩
  ·have ht : e.1 ∈ u ∨ e.2.2 ∈ u := by
    refine Classical.byContradiction fun hn => hne ⟨fun h => absurd (.inl h) hn, fun h => absurd (.inr h) hn⟩
   have := s0e es u e he ht
   simp only [Bool.and_eq_true, decide_eq_true_eq]; exact this
def itS (es : List C0) : Nat → List Int → List Int
 | 0, u => u
 | j + 1, u => itS es j (pS es u)
theorem H0g (es : List C0) : ∀ (j : Nat) (u : List Int), (itS es j u).length ≤ u.length + j * (2 * es.length)
 | 0, u => by simp [itS]
 | j + 1, u => by have := H0g es j (pS es u); have := L0f es u; simp only [itS, Nat.add_mul, Nat.one_mul]; omega
theorem I0g (es : List C0) : ∀ (j : Nat) (u : List Int), clo es u → clo es (itS es j u)
 | 0, u, h => h
 | j + 1, u, h => I0g es j _ fun e he => by rw [t07 h, t07 h]; exact h e he
theorem J0g (es : List C0) : ∀ (j : Nat) (u : List Int), clo es (itS es j u) ∨ act es u + j ≤ act es (itS es j u)
 | 0, u => .inr (Nat.le_refl _)
 | j + 1, u => by
  rcases L0i (es := es) (u := u) with h | h
  ·exact .inl (I0g es j _ h)
  ·rcases J0g es j (pS es u) with h2 | h2
   ·exact .inl h2
   ·right; simp only [itS]; omega
theorem t0e (es : List C0) : ∀ (j : Nat) (u : List Int) (x : Int), x ∈ u → x ∈ itS es j u
 | 0, u, x, h => h
 | j + 1, u, x, h => t0e es j _ x (R03 es u x h)
theorem a0c {P : Int → Prop} (es : List C0) (hc : ∀ e ∈ es, P e.1 ↔ P e.2.2) : ∀ (j : Nat) (u : List Int), (∀ x ∈ u, P x) → ∀ x ∈ itS es j u, P x
 | 0, u, hs => hs
 | j + 1, u, hs => a0c es hc j _ (I0a es u hc hs)
theorem N0j (es : List C0) (v x : Int) : x ∈ itS es (es.length + 1) [v] ↔ Rch es v x := by
 constructor
 ·exact a0c (P := Rch es v) es Rch.closed _ _ (fun y hy => by simp at hy; subst hy; exact .base) x
 ·have hc : clo es (itS es (es.length + 1) [v]) := by
   rcases J0g es (es.length + 1) [v] with h | h
   ·exact h
   ·have := K0k es (itS es (es.length + 1) [v]); omega
  exact Rch.sub (P := fun x => x ∈ itS es (es.length + 1) [v]) (t0e _ _ _ _ (by simp)) hc
theorem J0a (es : List C0) (hl : es.length ≤ 9223372036854775807) : ∀ (d k fuel : Nat) (u : List Int), k + d = es.length → d < fuel → u.length + 2 * d ≤ 1099511627776 →
  T2 es fuel u (k : Int) = some (pS (es.drop k) u)
 | d, k, 0, u, hd, hf, hu => by omega
 | 0, k, fuel + 1, u, hd, hf, hu => by
  rw [T2.eq_2, if_neg (by simp; omega), E1 (by omega)]; rfl
 | d + 1, k, fuel + 1, u, hd, hf, hu => by
  have hk : k < es.length := by omega
  have he := W5 hk
  generalize es[k] = e at he
  obtain ⟨a, l, b⟩ := e
  have ih := fun u' h => J0a es hl d (k + 1) fuel u' (by omega) (by omega) h
  have g1 := J0i u (a, l, b)
  have g2 := K0i (s1 u (a, l, b)) (a, l, b)
  rw [T2.eq_2, if_pos (by simp; omega), K1 he]
  simp only [N3 he, Option.bind_some, E09 u _ (by omega), A2 hk hl, pS]
  by_cases c : a ∈ u
  ·rw [if_pos (by simpa using c), l07 _ _ (by omega), Option.bind_some]
   have e1 : s1 u (a, l, b) = P8 D7 b u := if_pos c
   rw [e1] at g1 g2 ⊢
   rw [E09 _ _ (by omega), Option.bind_some]
   by_cases c2 : b ∈ P8 D7 b u
   ·rw [if_pos (by simpa using c2), l07 _ _ (by omega), Option.bind_some]
    have e2 : s2 (P8 D7 b u) (a, l, b) = P8 D7 a (P8 D7 b u) := if_pos c2
    rw [e2] at g2 ⊢
    exact ih _ (by omega)
   ·rw [if_neg (by simpa using c2)]
    have e2 : s2 (P8 D7 b u) (a, l, b) = P8 D7 b u := if_neg c2
    rw [e2]
    exact ih _ (by omega)
  ·rw [if_neg (by simpa using c)]
   have e1 : s1 u (a, l, b) = u := if_neg c
   rw [e1] at g2 ⊢
   by_cases c2 : b ∈ u
   ·rw [if_pos (by simpa using c2), l07 _ _ (by omega), Option.bind_some]
    have e2 : s2 u (a, l, b) = P8 D7 a u := if_pos c2
    rw [e2] at g2 ⊢
    exact ih _ (by omega)
   ·rw [if_neg (by simpa using c2)]
    have e2 : s2 u (a, l, b) = u := if_neg c2
    rw [e2]
    exact ih _ (by omega)
theorem K0a (es : List C0) (hl : es.length ≤ 120) : ∀ (d k fuel : Nat) (u : List Int), k + d = es.length + 1 → d < fuel → u.length ≤ 1 + k * 240 →
  H4 es fuel u (k : Int) = some (itS es d u)
 | d, k, 0, u, hd, hf, hu => by omega
 | 0, k, fuel + 1, u, hd, hf, hu => by
  rw [H4.eq_2, if_neg (by rw [w64 (by omega) (by omega)]; simp; omega)]; rfl
 | d + 1, k, fuel + 1, u, hd, hf, hu => by
  have h0 := J0a es (by omega) es.length 0 S0 u (by omega) (W0 (by omega)) (by omega)
  rw [show ((0 : Nat) : Int) = 0 from rfl, List.drop_zero] at h0
  have ih := K0a es hl d (k + 1) fuel (pS es u) (by omega) (by omega) (by have := L0f es u; omega)
  rw [H4.eq_2, if_pos (by rw [w64 (by omega) (by omega)]; simp; omega), h0, Option.bind_some, A2 (show k < 1000 by omega) (by omega), ih]
  rfl
end Go.Proofs.YtfdlgbfeceodeaaGreat
namespace Go.Proofs.YtfdlgbfeceodeaaGreat
open Go.H
set_option linter.unusedVariables false
set_option linter.unusedSimpArgs false
def getI (P : List Int) (v : Int) : Int := P.getD v.toNat (-1)
def P00 : List Int → Nat → List Int → List Int
 | A, k, [] => A
 | A, k, v :: r => P00 (A.set v.toNat (k : Int)) (k + 1) r
def plc (n : Nat) (o : List Int) : List Int := P00 (List.replicate n (-1)) 0 o
theorem L0a : ∀ (o : List Int) (k : Nat) (A : List Int), (P00 A k o).length = A.length
 | [], k, A => rfl
 | v :: r, k, A => by rw [P00, L0a r]; simp
def inV (n : Nat) (o : List Int) : Prop := ∀ v ∈ o, 0 ≤ v ∧ v < (n : Int)
theorem giI {P : List Int} {n : Nat} (hl : P.length = n) {x : Int} (h0 : 0 ≤ x) (h1 : x < n) : gi P x = some (getI P x) := by
 have hk : x.toNat < P.length := by omega
 have e : x = ((x.toNat : Nat) : Int) := by omega
 have h2 : gi P ((x.toNat : Nat) : Int) = some (getI P x) := by
  rw [j08, List.getElem?_eq_getElem hk]
  unfold getI
  rw [List.getD_eq_getElem?_getD, List.getElem?_eq_getElem hk]; rfl
 rw [← e] at h2; exact h2
theorem p03 {A : List Int} {v x : Int} {y : Int} (h0 : 0 ≤ v) (h1 : v.toNat < A.length) (hx : 0 ≤ x) : getI (A.set v.toNat y) x = if x = v then y else getI A x := by
 unfold getI
 rw [List.getD_eq_getElem?_getD, List.getD_eq_getElem?_getD, List.getElem?_set]
 by_cases c : x = v
 ·rw [if_pos c, if_pos (by rw [c]), if_pos h1]; rfl
 ·rw [if_neg c, if_neg (by omega)]
theorem u07 {n : Nat} : ∀ (o : List Int) (k : Nat) (A : List Int), A.length = n → inV n o → (∀ x, 0 ≤ x → -1 ≤ getI A x ∧ getI A x < (k : Int)) → ∀ x, 0 ≤ x → -1 ≤ getI (P00 A k o) x ∧ getI (P00 A k o) x < ((k + o.length : Nat) : Int)
 | [], k, A, hA, ho, h, x, hx => h x hx
 | v :: r, k, A, hA, ho, h, x, hx => by
  have hv := ho v (List.mem_cons_self ..)
  have := u07 r (k + 1) (A.set v.toNat (k : Int)) (by simp [hA]) (fun w hw => ho w (List.mem_cons_of_mem _ hw)) (fun y hy => by
   rw [p03 hv.1 (by omega) hy]
   have := h y hy
   split <;> omega) x hx
  rw [P00, List.length_cons, show k + (r.length + 1) = k + 1 + r.length by omega]; exact this
theorem S04 (n : Nat) (x : Int) : getI (List.replicate n (-1)) x = -1 := by
 unfold getI
 rw [List.getD_eq_getElem?_getD, List.getElem?_replicate]
 split <;> rfl
theorem q03 {n : Nat} {o : List Int} (ho : inV n o) {x : Int} (hx : 0 ≤ x) : -1 ≤ getI (plc n o) x ∧ getI (plc n o) x < (o.length : Int) := by
 have := u07 o 0 (List.replicate n (-1)) (by simp) ho (fun x hx => by rw [S04]; omega) x hx
 rw [Nat.zero_add] at this; exact this
theorem K0g (n : Nat) (o : List Int) : (plc n o).length = n := by unfold plc; rw [L0a]; simp
def pE (P : List Int) : List C0 → List C0
 | [] => []
 | e :: r => bif decide (0 ≤ getI P e.1) && decide (0 ≤ getI P e.2.2) then (getI P e.1, e.2.1, getI P e.2.2) :: pE P r else pE P r
theorem d0d (P : List Int) : ∀ es, (pE P es).length ≤ es.length
 | [] => by simp [pE]
 | e :: r => by
  have := d0d P r
  unfold pE
  cases decide (0 ≤ getI P e.1) && decide (0 ≤ getI P e.2.2) <;> simp only [cond_true, cond_false, List.length_cons] <;> omega
theorem i0k {n : Nat} {o : List Int} (ho : inV n o) : ∀ (es : List C0), inN n es → inN o.length (pE (plc n o) es)
 | [], hn => fun e he => nomatch he
 | e :: r, hn => by
  have hr := i0k ho r fun e he => hn e (List.mem_cons_of_mem _ he)
  have he := hn e (List.mem_cons_self ..)
  unfold pE
  cases hb : decide (0 ≤ getI (plc n o) e.1) && decide (0 ≤ getI (plc n o) e.2.2)
  ·simpa only [cond_false] using hr
  ·simp only [cond_true]
   simp only [Bool.and_eq_true, decide_eq_true_eq] at hb
   intro e' he'
   rcases List.mem_cons.1 he' with rfl | he'
   ·exact ⟨⟨hb.1, (q03 ho he.1.1).2⟩, hb.2, (q03 ho he.2.1).2⟩
   ·exact hr e' he'
def F9 (g : l0) (o : List Int) : l0 := (g.1, (o.length : Int), w6 K0 [] (pE (plc g.2.1.toNat o) g.2.2))
theorem y01 : ∀ (r l : List C0), (w6 K0 l r).length ≤ l.length + r.length
 | [], l => by simp [w6]
 | e :: r, l => by have := y01 r (P8 K0 e l); have := P01 e l; simp only [w6, List.length_cons]; omega
theorem M0f (g : l0) (o : List Int) : (F9 g o).2.2.length ≤ g.2.2.length := by
 have := y01 (pE (plc g.2.1.toNat o) g.2.2) []
 have := d0d (plc g.2.1.toNat o) g.2.2
 simp only [F9, List.length_nil] at *; omega
theorem K0h {n : Nat} {r : Int} {es : List C0} {o : List Int} (ho : inV n o) (hn : inN n es) : inN o.length (F9 (r, (n : Int), es) o).2.2 := by
 intro e he
 simp only [F9, Int.toNat_natCast] at he
 rcases (U8 Z5 e _ _).1 he with h | h
 ·cases h
 ·exact i0k ho es hn e h
theorem L0g (n : Nat) (hn : n ≤ 140737488355328) : ∀ (d k fuel : Nat), k + d = n → d < fuel →
  N7 n fuel (k : Int) (List.replicate k (-1) ++ List.replicate d 0) = some (List.replicate n (-1))
 | d, k, 0, hd, hf => by omega
 | 0, k, fuel + 1, hd, hf => by
  rw [N7.eq_2, if_neg (by simp; omega), show k = n by omega]; simp
 | d + 1, k, fuel + 1, hd, hf => by
  have hg : gi (List.replicate k (-1) ++ List.replicate (d + 1) (0 : Int)) (k : Int) = some 0 := by
   rw [j08, List.getElem?_append_right (by simp)]; simp
  have ih := L0g n hn d (k + 1) fuel (by omega) (by omega)
  rw [N7.eq_2, if_pos (by simp; omega), hg, Option.bind_some, A2 (show k < n by omega) (by omega), Int.toNat_natCast]
  have e : (List.replicate k (-1) ++ List.replicate (d + 1) (0 : Int)).set k (-1) = List.replicate (k + 1) (-1) ++ List.replicate d 0 := by
   rw [List.set_append_right _ _ (by simp), List.length_replicate, Nat.sub_self, List.replicate_succ, List.set_cons_zero, List.replicate_succ']
   simp
  rw [e, ih]
theorem M0g (o : List Int) {n : Nat} (ho : inV n o) (hl : o.length ≤ 9223372036854775807) : ∀ (d k fuel : Nat) (A : List Int), A.length = n → k + d = o.length → d < fuel →
  M7 o fuel (k : Int) A = some (P00 A k (o.drop k))
 | d, k, 0, A, hA, hd, hf => by omega
 | 0, k, fuel + 1, A, hA, hd, hf => by
  rw [M7.eq_2, if_neg (by simp; omega), E1 (by omega)]; rfl
 | d + 1, k, fuel + 1, A, hA, hd, hf => by
  have hk : k < o.length := by omega
  have hx := W5 hk
  have hin := ho _ (List.mem_of_getElem? hx)
  generalize o[k] = v at hx hin
  have ih := M0g o ho hl d (k + 1) fuel (A.set v.toNat (k : Int)) (by simp [hA]) (by omega) (by omega)
  rw [M7.eq_2, if_pos (by simp; omega), K1 hx, N3 hx, Option.bind_some, giI hA hin.1 hin.2, Option.bind_some, A2 hk hl, ih]
  rfl
theorem N0g (es : List C0) {n : Nat} (hn : inN n es) (hl : es.length ≤ 1099511627776) (P : List Int) (hP : P.length = n) (r m : Int) : ∀ (d k fuel : Nat) (acc : List C0), k + d = es.length → d < fuel → acc.length ≤ k →
  o7 es P fuel (k : Int) r m acc = some (r, m, acc ++ pE P (es.drop k))
 | d, k, 0, acc, hd, hf, ha => by omega
 | 0, k, fuel + 1, acc, hd, hf, ha => by
  rw [o7.eq_2, if_neg (by simp; omega), E1 (by omega)]; simp [pE]
 | d + 1, k, fuel + 1, acc, hd, hf, ha => by
  have hk : k < es.length := by omega
  have he := W5 hk
  have hin := hn _ (List.mem_of_getElem? he)
  generalize es[k] = e at he hin
  obtain ⟨a, l, b⟩ := e
  have ih := fun acc' h => N0g es hn hl P hP r m d (k + 1) fuel acc' (by omega) (by omega) h
  rw [o7.eq_2, if_pos (by simp; omega), K1 he]
  simp only [N3 he, Option.bind_some, giI hP hin.1.1 hin.1.2, giI hP hin.2.1 hin.2.2, A2 hk (show es.length ≤ 9223372036854775807 by omega), pE]
  by_cases c1 : 0 ≤ getI P a
  ·simp only [show decide (getI P a ≥ 0) = true by simpa using c1, G2, Option.bind_some, cond_true, show decide (0 ≤ getI P a) = true by simpa using c1, Bool.true_and]
   by_cases c2 : 0 ≤ getI P b
   ·rw [if_pos (by simpa using c2), N0 (by simp; omega), Option.bind_some, ih _ (by simp; omega)]
    simp [c2]
   ·rw [if_neg (by simpa using c2), ih _ (by omega)]
    simp [c2]
  ·simp only [show decide (getI P a ≥ 0) = false by simpa using c1, N5, Option.bind_some, cond_false, show decide (0 ≤ getI P a) = false by simpa using c1, Bool.false_and]
   rw [if_neg (by simp), ih _ (by omega)]
theorem M0i (r : Int) (n : Nat) (es : List C0) (o : List Int) (hn : inN n es) (ho : inV n o) (hn2 : n ≤ 1000000) (hl : es.length ≤ 1099511627776) (hl2 : o.length ≤ 1099511627776) :
  E00 (r, (n : Int), es) o = some (F9 (r, (n : Int), es) o) := by
 unfold E00
 have h2 := L0g n (by omega) n 0 S0 (by omega) (W0 (by omega))
 have h1 := M0g o ho (by omega) o.length 0 S0 (List.replicate n (-1)) (by simp) (by omega) (W0 (by omega))
 have h0 := N0g es hn hl (plc n o) (K0g n o) r ((o.length : Nat) : Int) es.length 0 S0 [] (by omega) (W0 (by omega)) (Nat.le_refl _)
 rw [show ((0 : Nat) : Int) = 0 from rfl] at h0 h1 h2
 rw [List.replicate_zero, List.nil_append] at h2
 rw [List.drop_zero] at h1
 rw [List.drop_zero, List.nil_append] at h0
 simp only [Int.toNat_natCast]
 rw [N0 (by omega), Option.bind_some, Option.bind_some, List.length_replicate, N0 (by omega), Option.bind_some, h2, Option.bind_some, h1, Option.bind_some]
 rw [show P00 (List.replicate n (-1)) 0 o = plc n o from rfl, h0]
 simp only [Option.bind_some]
 rw [s07 _ (by have := d0d (plc n o) es; omega), Option.bind_some]
 rfl
theorem N0i (A : List Int) (i k : Nat) : (A.map (· + 1)).set i (((k + 1 : Nat) : Int)) = (A.set i (k : Int)).map (· + 1) := by
 rw [List.map_set]; rfl
theorem M0a {A : List Int} {n : Nat} (hA : A.length = n) {x : Int} (h0 : 0 ≤ x) (h1 : x < n) : gi (A.map (· + 1)) x = some (getI A x + 1) := by
 have hk : x.toNat < A.length := by omega
 have e : x = ((x.toNat : Nat) : Int) := by omega
 have h2 : gi (A.map (· + 1)) ((x.toNat : Nat) : Int) = some (getI A x + 1) := by
  rw [j08, List.getElem?_map, List.getElem?_eq_getElem hk]
  unfold getI
  rw [List.getD_eq_getElem?_getD, List.getElem?_eq_getElem hk]; rfl
 rw [← e] at h2; exact h2
theorem O0i (r : Int) (n : Nat) (es : List C0) (o : List Int) (ho : inV n o) (hd' : o.Nodup) (hn2 : 1 ≤ n ∧ n ≤ 1000000) (hl : o.length ≤ 1099511627776) : ∀ (d k fuel : Nat) (A : List Int), A.length = n → (∀ x, 0 ≤ x → -1 ≤ getI A x ∧ getI A x ≤ 1099511627776) → (∀ x ∈ o.drop k, getI A x = -1) → k + d = o.length → d < fuel →
  U3 o (n : Int) r es fuel (k : Int) (A.map (· + 1)) = some (.inr ((P00 A k (o.drop k)).map (· + 1)))
 | d, k, 0, A, hA, hr, hm, hd, hf => by omega
 | 0, k, fuel + 1, A, hA, hr, hm, hd, hf => by
  rw [U3.eq_2, if_neg (by simp; omega), E1 (by omega)]; rfl
 | d + 1, k, fuel + 1, A, hA, hr, hm, hd, hf => by
  have hk : k < o.length := by omega
  have hx := W5 hk
  have hin := ho _ (List.mem_of_getElem? hx)
  have hdr := K1 hx
  generalize o[k] = v at hx hin hdr
  have hnd : (o.drop k).Nodup := hd'.sublist (List.drop_sublist _ _)
  rw [hdr] at hnd hm
  have hA0 := hm v (List.mem_cons_self ..)
  have ih := O0i r n es o ho hd' hn2 hl d (k + 1) fuel (A.set v.toNat (k : Int)) (by simp [hA]) (fun x hx => by
   rw [p03 hin.1 (by omega) hx]; have := hr x hx; split <;> omega) (fun x hx => by
   have hx0 := ho x (List.mem_of_mem_drop hx)
   rw [p03 hin.1 (by omega) hx0.1, if_neg (fun e => (List.nodup_cons.1 hnd).1 (by rw [← e]; exact hx))]
   exact hm x (List.mem_cons_of_mem _ hx)) (by omega) (by omega)
  rw [U3.eq_2, if_pos (by simp; omega), hdr, N3 hx]
  simp only [Option.bind_some, D01, w64 (show -9223372036854775808 ≤ (n : Int) - 1 by omega) (show (n : Int) - 1 ≤ 9223372036854775807 by omega), inR, show decide (0 ≤ v) = true by simpa using hin.1, show decide (v ≤ (n : Int) - 1) = true by simp; omega, Bool.and_self, Bool.not_true, Bool.not_false, G2, M0a hA hin.1 hin.2, hA0, cond_false]
  rw [if_neg (by decide), A2 hk (by omega), N0i, ih]
  rfl
theorem P0i (es : List C0) {n : Nat} (hn : inN n es) (hl : es.length ≤ 1099511627776) (P : List Int) (hP : P.length = n) (hr : ∀ x, 0 ≤ x → -1 ≤ getI P x ∧ getI P x ≤ 1099511627776) (r m : Int) : ∀ (d k fuel : Nat) (acc : List C0), k + d = es.length → d < fuel → acc.length ≤ k →
  A3 es (P.map (· + 1)) fuel (k : Int) r m acc = some (r, m, w6 K0 acc (pE P (es.drop k)))
 | d, k, 0, acc, hd, hf, ha => by omega
 | 0, k, fuel + 1, acc, hd, hf, ha => by
  rw [A3.eq_2, if_neg (by simp; omega), E1 (by omega)]; rfl
 | d + 1, k, fuel + 1, acc, hd, hf, ha => by
  have hk : k < es.length := by omega
  have he := W5 hk
  have hin := hn _ (List.mem_of_getElem? he)
  generalize es[k] = e at he hin
  obtain ⟨a, l, b⟩ := e
  have ih := fun acc' h => P0i es hn hl P hP hr r m d (k + 1) fuel acc' (by omega) (by omega) h
  have ra := hr a hin.1.1
  have rb := hr b hin.2.1
  rw [A3.eq_2, if_pos (by simp; omega), K1 he]
  simp only [N3 he, Option.bind_some, M0a hP hin.1.1 hin.1.2, M0a hP hin.2.1 hin.2.2, A2 hk (show es.length ≤ 9223372036854775807 by omega), pE]
  by_cases c1 : 0 ≤ getI P a
  ·simp only [show decide (getI P a + 1 > 0) = true by simp; omega, G2, Option.bind_some, cond_true, show decide (0 ≤ getI P a) = true by simpa using c1, Bool.true_and]
   by_cases c2 : 0 ≤ getI P b
   ·rw [if_pos (by simp; omega), w64 (by omega) (by omega), w64 (by omega) (by omega), show getI P a + 1 - 1 = getI P a by omega, show getI P b + 1 - 1 = getI P b by omega]
    rw [Q03 _ _ (by omega), Option.bind_some, ih _ (by have := P01 (getI P a, l, getI P b) acc; omega)]
    simp [c2, w6]
   ·rw [if_neg (by simp; omega), ih _ (by omega)]
    simp [c2]
  ·simp only [show decide (getI P a + 1 > 0) = false by simp; omega, N5, Option.bind_some, cond_false, show decide (0 ≤ getI P a) = false by simpa using c1, Bool.false_and]
   rw [if_neg (by simp), ih _ (by omega)]
theorem N0a (r : Int) (n : Nat) (es : List C0) (o : List Int) (hg : M0 (r, (n : Int), es) = true) (ho : inV n o) (hd : o.Nodup) (h1 : 1 ≤ o.length) (h2 : o.length ≤ n) :
  i6 (r, (n : Int), es) o = some (F9 (r, (n : Int), es) o, true) := by
 obtain ⟨q1, q2, q3, q4⟩ := O1 hg
 simp only at q2 q3 q4
 have hn : inN n es := fun e he => ⟨(q1 e he).1, (q1 e he).2.1⟩
 have hG := R5 (r, (n : Int), es) (by simp only; omega)
 unfold i6
 have e1 := O0i r n es o ho hd (by omega) (by omega) o.length 0 S0 (List.replicate n (-1)) (by simp) (fun x hx => by rw [S04]; omega) (fun x hx => S04 n x) (by omega) (W0 (by omega))
 have e0 := P0i es hn (by omega) (plc n o) (K0g n o) (fun x hx => by have := q03 ho hx; omega) r ((o.length : Nat) : Int) es.length 0 S0 [] (by omega) (W0 (by omega)) (Nat.le_refl _)
 rw [show ((0 : Nat) : Int) = 0 from rfl, List.drop_zero] at e0 e1
 rw [show (List.replicate n (-1 : Int)).map (· + 1) = List.replicate n 0 by simp] at e1
 rw [show P00 (List.replicate n (-1)) 0 o = plc n o from rfl] at e1
 have c1 : decide (((o.length : Nat) : Int) = 0) = false := decide_eq_false (by omega)
 have c2 : decide (((o.length : Nat) : Int) > (n : Int)) = false := decide_eq_false (by omega)
 simp only [hG, hg, Option.bind_some, Bool.not_true, cond_false, Int.toNat_natCast, c1, c2]
 rw [if_neg (by simp), N0 (by omega), Option.bind_some, e1]
 simp only [Option.bind_some, l7, e0]
 rfl
end Go.Proofs.YtfdlgbfeceodeaaGreat
namespace Go.Proofs.YtfdlgbfeceodeaaGreat
open Go.H
set_option linter.unusedVariables false
set_option linter.unusedSimpArgs false
theorem S03 : ∀ (n : Nat) (o : List Int), o.Nodup → inV n o → o.length ≤ n
 | 0, [], _, _ => Nat.le_refl _
 | 0, x :: r, _, h => by have := h x (List.mem_cons_self ..); omega
 | n + 1, o, hd, h => by
  have h1 : inV n (o.erase (n : Int)) := fun x hx => by
   obtain ⟨hne, hm⟩ := (List.Nodup.mem_erase_iff hd).1 hx
   have := h x hm; omega
  have h2 := S03 n _ (hd.erase _) h1
  by_cases hm : (n : Int) ∈ o
  ·rw [List.length_erase_of_mem hm] at h2; omega
  ·rw [List.erase_of_not_mem hm] at h2; omega
def Z9 : Nat → Nat → List Int
 | 0, _ => []
 | d + 1, i => (i : Int) :: -(i : Int) :: Z9 d (i + 1)
theorem r03 : ∀ d i, (Z9 d i).length = 2 * d
 | 0, i => rfl
 | d + 1, i => by simp only [Z9, List.length_cons, r03 d]; omega
theorem e0d : ∀ (d i : Nat), i + d ≤ 1000 → ∀ x ∈ Z9 d i, B7 x
 | 0, i, h, x, hx => nomatch hx
 | d + 1, i, h, x, hx => by
  simp only [Z9, List.mem_cons] at hx
  rcases hx with rfl | rfl | hx
  ·exact ⟨⟨by omega, by omega⟩, by omega⟩
  ·exact ⟨⟨by omega, by omega⟩, by omega⟩
  ·exact e0d d (i + 1) (by omega) x hx
theorem Q0i (R : Nat) (hR : R ≤ 900) : ∀ (d i fuel : Nat) (acc : List Int), i + d = R + 1 → d < fuel → acc.length + 2 * d ≤ 10000 →
  j6 (R : Int) fuel (i : Int) acc = some (acc ++ Z9 d i)
 | d, i, 0, acc, hd, hf, ha => by omega
 | 0, i, fuel + 1, acc, hd, hf, ha => by
  rw [j6.eq_2, if_neg (by simp; omega)]; simp [Z9]
 | d + 1, i, fuel + 1, acc, hd, hf, ha => by
  have ih := Q0i R hR d (i + 1) fuel (acc ++ [(i : Int), -(i : Int)]) (by omega) (by omega) (by simp; omega)
  have w1 : IntKind.i64.wrap (0 - (i : Int)) = -(i : Int) := by rw [w64 (by omega) (by omega)]; omega
  rw [j6.eq_2, if_pos (by simp; omega), w1, N0 (by simp; omega), Option.bind_some, A2 (show i < 1000 by omega) (by omega), ih]
  simp [Z9]
theorem R0i (R : Nat) (hR : R ≤ 900) : ∀ (d i fuel : Nat) (acc : List Int), i + d = R + 1 → d < fuel → acc.length + 2 * d ≤ 10000 →
  c5 (R : Int) fuel (i : Int) acc = some (acc ++ Z9 d i)
 | d, i, 0, acc, hd, hf, ha => by omega
 | 0, i, fuel + 1, acc, hd, hf, ha => by
  rw [c5.eq_2, if_neg (by simp; omega)]; simp [Z9]
 | d + 1, i, fuel + 1, acc, hd, hf, ha => by
  have ih := R0i R hR d (i + 1) fuel ((acc ++ [(i : Int)]) ++ [-(i : Int)]) (by omega) (by omega) (by simp; omega)
  have w1 : IntKind.i64.wrap (0 - (i : Int)) = -(i : Int) := by rw [w64 (by omega) (by omega)]; omega
  rw [c5.eq_2, if_pos (by simp; omega), w1, N0 (by simp; omega), Option.bind_some, N0 (by simp; omega), Option.bind_some, A2 (show i < 1000 by omega) (by omega), ih]
  simp [Z9]
theorem S0i (R : Nat) (hR : R ≤ 900) : c8 (R : Int) = some (Z9 R 1) := by
 unfold c8
 rw [show (1 : Int) = ((1 : Nat) : Int) from rfl, Q0i R hR R 1 S0 [] (by omega) (W0 (by omega)) (by simp; omega)]; rfl
theorem T0i (R : Nat) (hR : R ≤ 900) : Z6 (R : Int) = some (Z9 R 1) := by
 unfold Z6
 rw [show (1 : Int) = ((1 : Nat) : Int) from rfl, R0i R hR R 1 S0 [] (by omega) (W0 (by omega)) (by simp; omega)]; rfl
def O0a (u : List Int) (x : Int) : List Int := if 0 ≤ x ∧ x ∉ u then u ++ [x] else u
def e04 (g : l0) (v : Int) : List Int → List Int → List Int
 | [], u => u
 | x :: r, u => e04 g v r (O0a u (C5 g v x))
def F01 (g : l0) (ls : List Int) : Nat → Nat → List Int → List Int
 | 0, i, u => u
 | f + 1, i, u => match u[i]? with
  | some v => F01 g ls f (i + 1) (e04 g v ls u)
  | none => u
def gud (n : Nat) (u : List Int) : Prop := u.Nodup ∧ inV n u
theorem U0i {n : Nat} {u : List Int} {x : Int} (h : gud n u) (hx : x = -1 ∨ (0 ≤ x ∧ x < (n : Int))) : gud n (O0a u x) := by
 unfold O0a
 split
 ·rename_i hc
  refine ⟨List.nodup_append.2 ⟨h.1, by simp, fun a ha b hb => ?_⟩, fun y hy => ?_⟩
  ·simp at hb; subst hb; exact fun e => hc.2 (e ▸ ha)
  ·rcases List.mem_append.1 hy with hy | hy
   ·exact h.2 y hy
   ·simp at hy; subst hy; omega
 ·exact h
theorem u0e (u : List Int) (x : Int) : ∃ t, O0a u x = u ++ t := by
 unfold O0a; split
 ·exact ⟨_, rfl⟩
 ·exact ⟨[], by simp⟩
theorem s05 (g : l0) (v : Int) : ∀ (ls u : List Int), ∃ t, e04 g v ls u = u ++ t
 | [], u => ⟨[], by simp [e04]⟩
 | x :: r, u => by
  obtain ⟨t1, e1⟩ := u0e u (C5 g v x)
  obtain ⟨t2, e2⟩ := s05 g v r (O0a u (C5 g v x))
  exact ⟨t1 ++ t2, by rw [e04, e2, e1, List.append_assoc]⟩
theorem t05 {r : Int} {n : Nat} {es : List C0} (hg : inG (r, (n : Int), es)) (v : Int) : ∀ (ls u : List Int), gud n u → gud n (e04 (r, (n : Int), es) v ls u)
 | [], u, h => h
 | x :: l, u, h => t05 hg v l _ (U0i h (D09 hg v x))
theorem P0a {r : Int} {n : Nat} {es : List C0} (hg : inG (r, (n : Int), es)) (ls : List Int) : ∀ (f i : Nat) (u : List Int), gud n u → gud n (F01 (r, (n : Int), es) ls f i u)
 | 0, i, u, h => h
 | f + 1, i, u, h => by
  unfold F01
  split
  ·exact P0a hg ls f _ _ (t05 hg _ _ _ h)
  ·exact h
theorem Q0a (g : l0) (ls : List Int) : ∀ (f i : Nat) (u : List Int), u.length ≤ (F01 g ls f i u).length
 | 0, i, u => Nat.le_refl _
 | f + 1, i, u => by
  unfold F01
  split
  ·rename_i v _
   obtain ⟨t, e⟩ := s05 g v ls u
   have := Q0a g ls f (i + 1) (e04 g v ls u)
   rw [e] at this ⊢; simp only [List.length_append] at this; omega
  ·exact Nat.le_refl _
theorem O0g (r : Int) (n : Nat) (es : List C0) (hg : inG (r, (n : Int), es)) (hn : n ≤ 40) (hes : es.length ≤ 1099511627776) (ls : List Int) (hls : ∀ x ∈ ls, B7 x) (hl : ls.length ≤ 1000000) (i : Nat) (v : Int) : ∀ (d k fuel : Nat) (u : List Int), gud n u → u[i]? = some v → k + d = ls.length → d < fuel →
  V2 ls (i : Int) r (n : Int) es fuel (k : Int) u = some (e04 (r, (n : Int), es) v (ls.drop k) u)
 | d, k, 0, u, hu, hi, hd, hf => by omega
 | 0, k, fuel + 1, u, hu, hi, hd, hf => by
  rw [V2.eq_2, if_neg (by simp; omega), E1 (by omega)]; rfl
 | d + 1, k, fuel + 1, u, hu, hi, hd, hf => by
  have hk : k < ls.length := by omega
  have hx := W5 hk
  have hxm := hls _ (List.mem_of_getElem? hx)
  have hdr := K1 hx
  generalize ls[k] = x at hx hxm hdr
  have hlen := S03 n u hu.1 hu.2
  have hnx : C5 (r, (n : Int), es) v x = -1 ∨ (0 ≤ C5 (r, (n : Int), es) v x ∧ C5 (r, (n : Int), es) v x < (n : Int)) := D09 hg v x
  have hg2 := U0i hu hnx
  have hi2 : (O0a u (C5 (r, (n : Int), es) v x))[i]? = some v := by
   obtain ⟨t, e⟩ := u0e u (C5 (r, (n : Int), es) v x)
   rw [e, List.getElem?_append_left (List.getElem?_eq_some_iff.1 hi).1]; exact hi
  have ih := O0g r n es hg hn hes ls hls hl i v d (k + 1) fuel _ hg2 hi2 (by omega) (by omega)
  rw [V2.eq_2, if_pos (by simp; omega), hdr]
  simp only [N3 hi, N3 hx, Option.bind_some, n06 (r, (n : Int), es) v x hxm hes, N0 (O03 hg (show (n : Int) ≤ 40 by omega) v x), A2 hk (show ls.length ≤ 9223372036854775807 by omega), e04]
  rw [← ih]
  generalize C5 (r, (n : Int), es) v x = y at *
  unfold O0a
  by_cases c1 : 0 ≤ y
  ·simp only [show decide (y ≥ 0) = true by simpa using c1, G2, E09 u y (by omega), Option.bind_some, cond_true]
   by_cases c2 : y ∈ u
   ·rw [if_neg (by simp [c2]), if_neg (by simp [c2])]
   ·rw [if_pos (by simp [c2]), if_pos ⟨c1, c2⟩, N0 (by simp; omega), Option.bind_some]
  ·simp only [show decide (y ≥ 0) = false by simpa using c1, N5, Option.bind_some, cond_false]
   rw [if_neg (by simp), if_neg (fun h => c1 h.1)]
theorem P0g (r : Int) (n : Nat) (es : List C0) (hg : inG (r, (n : Int), es)) (hn : n ≤ 40) (hes : es.length ≤ 1099511627776) (ls : List Int) (hls : ∀ x ∈ ls, B7 x) (hl : ls.length ≤ 1000000) : ∀ (f i fuel : Nat) (u : List Int), gud n u → i ≤ u.length → n + 1 ≤ i + f → f < fuel →
  B4 ls r (n : Int) es fuel (i : Int) u = some (F01 (r, (n : Int), es) ls f i u)
 | f, i, 0, u, hu, hi, hd, hf => by omega
 | 0, i, fuel + 1, u, hu, hi, hd, hf => by have := S03 n u hu.1 hu.2; omega
 | f + 1, i, fuel + 1, u, hu, hi, hd, hf => by
  have hlen := S03 n u hu.1 hu.2
  rw [B4.eq_2, Option.bind_some, N0 (by omega), Option.bind_some]
  by_cases hk : i < u.length
  ·have hx := W5 hk
   generalize u[i] = v at hx
   have h0 := O0g r n es hg hn hes ls hls hl i v ls.length 0 S0 u hu hx (by omega) (W0 (by omega))
   rw [show ((0 : Nat) : Int) = 0 from rfl, List.drop_zero] at h0
   obtain ⟨t, e⟩ := s05 (r, (n : Int), es) v ls u
   have ih := P0g r n es hg hn hes ls hls hl f (i + 1) fuel _ (t05 hg v ls u hu) (by rw [e, List.length_append]; omega) (by omega) (by omega)
   rw [if_pos (by simpa using hk), h0, Option.bind_some, A2 hk (by omega), ih]
   simp only [F01, hx]
  ·have hx : u[i]? = none := List.getElem?_eq_none (by omega)
   rw [if_neg (by simpa using hk)]
   simp only [F01, hx]
def T03 (g : l0) : List Int := F01 g (Z9 g.1.toNat 1) (g.2.1.toNat + 1) 0 [0]
theorem b0c {g : l0} (hf : P0 g = true) : gud g.2.1.toNat (T03 g) ∧ 1 ≤ (T03 g).length := by
 obtain ⟨h1, h2, h3, h4⟩ := L4 hf
 obtain ⟨r, n, es⟩ := g
 simp only at h2 h3 h4
 obtain ⟨N, rfl⟩ : ∃ N : Nat, n = (N : Int) := ⟨n.toNat, by omega⟩
 refine ⟨?_, ?_⟩
 ·exact P0a h1 _ _ _ _ ⟨by simp, fun x hx => by simp at hx; subst hx; show (0 : Int) ≤ 0 ∧ (0 : Int) < (((N : Int).toNat : Nat) : Int); omega⟩
 ·exact Q0a _ _ _ _ [0]
theorem v0e (g : l0) (hf : P0 g = true) : R6 g = some (T03 g) := by
 obtain ⟨h1, h2, h3, h4⟩ := L4 hf
 have hF := L8 g (by omega)
 obtain ⟨r, n, es⟩ := g
 simp only at h2 h3 h4
 obtain ⟨N, rfl⟩ : ∃ N : Nat, n = (N : Int) := ⟨n.toNat, by omega⟩
 obtain ⟨R, rfl⟩ : ∃ R : Nat, r = (R : Int) := ⟨r.toNat, by omega⟩
 unfold R6
 have h0 := P0g (R : Int) N es h1 (by omega) (by omega) (Z9 R 1) (e0d R 1 (by omega)) (by rw [r03]; omega) (N + 1) 0 S0 [0] ⟨by simp, fun x hx => by simp at hx; subst hx; omega⟩ (by simp) (by omega) (W0 (by omega))
 simp only [hF, hf, Option.bind_some, Bool.not_true, T0i R (by omega)]
 rw [show ((0 : Nat) : Int) = 0 from rfl] at h0
 rw [if_neg (by simp), h0]
 rfl
theorem O0j {a : List Int} (la : a.length ≤ 1099511627776) : d9 a = some a := by
 unfold d9
 rw [N0 (by simp; omega)]; rfl
def s03 (W : List (Option (List Int))) (x : Int) : Option (List Int) := W.getD x.toNat none
theorem giO {W : List (Option (List Int))} {n : Nat} (hl : W.length = n) {x : Int} (h0 : 0 ≤ x) (h1 : x < n) : gi W x = some (s03 W x) := by
 have hk : x.toNat < W.length := by omega
 have e : x = ((x.toNat : Nat) : Int) := by omega
 have h2 : gi W ((x.toNat : Nat) : Int) = some (s03 W x) := by
  rw [j08, List.getElem?_eq_getElem hk]
  unfold s03
  rw [List.getD_eq_getElem?_getD, List.getElem?_eq_getElem hk]; rfl
 rw [← e] at h2; exact h2
theorem t03 {A : List (Option (List Int))} {v x : Int} {y : Option (List Int)} (h0 : 0 ≤ v) (h1 : v.toNat < A.length) (hx : 0 ≤ x) : s03 (A.set v.toNat y) x = if x = v then y else s03 A x := by
 unfold s03
 rw [List.getD_eq_getElem?_getD, List.getD_eq_getElem?_getD, List.getElem?_set]
 by_cases c : x = v
 ·rw [if_pos c, if_pos (by rw [c]), if_pos h1]; rfl
 ·rw [if_neg c, if_neg (by omega)]
structure WOk (n : Nat) (W : List (Option (List Int))) (u : List Int) : Prop where
 len : W.length = n
 iff : ∀ x, 0 ≤ x → x < (n : Int) → ((s03 W x).isNone = true ↔ x ∉ u)
 short : ∀ x, ((s03 W x).getD []).length ≤ u.length
theorem Q0g (r : Int) (n : Nat) (es : List C0) (hg : inG (r, (n : Int), es)) (hn : n ≤ 40) (hes : es.length ≤ 1099511627776) (ls : List Int) (hls : ∀ x ∈ ls, B7 x) (hl : ls.length ≤ 1000000) (v : Int) (hv : 0 ≤ v ∧ v < (n : Int)) : ∀ (d k fuel : Nat) (W : List (Option (List Int))) (u : List Int), gud n u → WOk n W u → k + d = ls.length → d < fuel →
  ∃ W', A4 ls r (n : Int) es v fuel (k : Int) W u = some (W', e04 (r, (n : Int), es) v (ls.drop k) u) ∧ WOk n W' (e04 (r, (n : Int), es) v (ls.drop k) u)
 | d, k, 0, W, u, hu, hw, hd, hf => by omega
 | 0, k, fuel + 1, W, u, hu, hw, hd, hf => by
  rw [A4.eq_2, if_neg (by simp; omega), E1 (by omega)]; exact ⟨W, rfl, hw⟩
 | d + 1, k, fuel + 1, W, u, hu, hw, hd, hf => by
  have hk : k < ls.length := by omega
  have hx := W5 hk
  have hxm := hls _ (List.mem_of_getElem? hx)
  have hdr := K1 hx
  generalize ls[k] = x at hx hxm hdr
  have hlen := S03 n u hu.1 hu.2
  have hnx : C5 (r, (n : Int), es) v x = -1 ∨ (0 ≤ C5 (r, (n : Int), es) v x ∧ C5 (r, (n : Int), es) v x < (n : Int)) := D09 hg v x
  have hg2 := U0i hu hnx
  have ih := fun W' h => Q0g r n es hg hn hes ls hls hl v hv d (k + 1) fuel W' _ hg2 h (by omega) (by omega)
  rw [A4.eq_2, if_pos (by simp; omega), hdr]
  simp only [N3 hx, Option.bind_some, o06 (r, (n : Int), es) v x hxm hes, N0 (O03 hg (show (n : Int) ≤ 40 by omega) v x), A2 hk (show ls.length ≤ 9223372036854775807 by omega), e04]
  generalize C5 (r, (n : Int), es) v x = y at *
  by_cases c1 : 0 ≤ y
  ·have hy : y < (n : Int) := by omega
   simp only [show decide (y ≥ 0) = true by simpa using c1, G2, giO hw.len c1 hy, Option.bind_some, cond_true]
   by_cases c2 : y ∈ u
   ·have : ¬ ((s03 W y).isNone = true) := fun h => (hw.iff y c1 hy).1 h c2
    have e : O0a u y = u := if_neg fun h => h.2 c2
    rw [if_neg this]
    rw [e] at ih ⊢
    exact ih W hw
   ·have : (s03 W y).isNone = true := (hw.iff y c1 hy).2 c2
    have e : O0a u y = u ++ [y] := if_pos ⟨c1, c2⟩
    have hs := hw.short v
    rw [if_pos this, giO hw.len hv.1 hv.2, Option.bind_some, O0j (by omega), Option.bind_some, N0 (by simp; omega), Option.bind_some, N0 (by simp; omega), Option.bind_some]
    rw [e] at ih ⊢
    refine ih _ ⟨by simp [hw.len], fun z h0 h1 => ?_, fun z => ?_⟩
    ·rw [t03 c1 (by have := hw.len; omega) h0]
     by_cases c : z = y
     ·rw [if_pos c]; simp [c]
     ·rw [if_neg c, hw.iff z h0 h1]; simp [c]
    ·by_cases hz : 0 ≤ z
     ·rw [t03 c1 (by have := hw.len; omega) hz]
      by_cases c : z = y
      ·rw [if_pos c]; simp; exact hs
      ·rw [if_neg c]; have := hw.short z; simp only [List.length_append]; omega
     ·have hz0 : s03 (W.set y.toNat (some ((s03 W v).getD [] ++ [x]))) z = s03 (W.set y.toNat (some ((s03 W v).getD [] ++ [x]))) 0 := by
       unfold s03; rw [show z.toNat = (0 : Int).toNat by omega]
      rw [hz0, t03 c1 (by have := hw.len; omega) (Int.le_refl 0)]
      by_cases c : (0 : Int) = y
      ·rw [if_pos c]; simp; exact hs
      ·rw [if_neg c]; have := hw.short 0; simp only [List.length_append]; omega
  ·have e : O0a u y = u := if_neg fun h => c1 h.1
   simp only [show decide (y ≥ 0) = false by simpa using c1, N5, Option.bind_some, cond_false]
   rw [if_neg (by simp)]
   rw [e] at ih ⊢
   exact ih W hw
theorem R0g (R n : Nat) (hR : R ≤ 900) (es : List C0) (hg : inG ((R : Int), (n : Int), es)) (hn : n ≤ 40) (hes : es.length ≤ 1099511627776) : ∀ (f i fuel : Nat) (W : List (Option (List Int))) (u : List Int), gud n u → WOk n W u → i ≤ u.length → n + 1 ≤ i + f → f < fuel →
  ∃ W', D5 (R : Int) (n : Int) es fuel (i : Int) W u = some (W', F01 ((R : Int), (n : Int), es) (Z9 R 1) f i u)
 | f, i, 0, W, u, hu, hw, hi, hd, hf => by omega
 | 0, i, fuel + 1, W, u, hu, hw, hi, hd, hf => by have := S03 n u hu.1 hu.2; omega
 | f + 1, i, fuel + 1, W, u, hu, hw, hi, hd, hf => by
  have hlen := S03 n u hu.1 hu.2
  rw [D5.eq_2, Option.bind_some, N0 (by omega), Option.bind_some]
  by_cases hk : i < u.length
  ·have hx := W5 hk
   have hv := hu.2 _ (List.mem_of_getElem? hx)
   generalize u[i] = v at hx hv
   obtain ⟨W1, h0, hw1⟩ := Q0g (R : Int) n es hg hn hes (Z9 R 1) (e0d R 1 (by omega)) (by rw [r03]; omega) v hv (Z9 R 1).length 0 S0 W u hu hw (by omega) (W0 (by rw [r03]; omega))
   rw [show ((0 : Nat) : Int) = 0 from rfl, List.drop_zero] at h0
   rw [List.drop_zero] at hw1
   obtain ⟨t, e⟩ := s05 ((R : Int), (n : Int), es) v (Z9 R 1) u
   obtain ⟨W2, ih⟩ := R0g R n hR es hg hn hes f (i + 1) fuel W1 _ (t05 hg v _ u hu) hw1 (by rw [e, List.length_append]; omega) (by omega) (by omega)
   rw [if_pos (by simpa using hk), N3 hx, Option.bind_some, S0i R hR, Option.bind_some, h0, Option.bind_some]
   simp only [A2 hk (show u.length ≤ 9223372036854775807 by omega), ih, F01, hx]
   exact ⟨_, rfl⟩
  ·have hx : u[i]? = none := List.getElem?_eq_none (by omega)
   rw [if_neg (by simpa using hk)]
   simp only [F01, hx]
   exact ⟨_, rfl⟩
theorem w0e (g : l0) (hf : P0 g = true) : T6 g = some (T03 g) := by
 obtain ⟨h1, h2, h3, h4⟩ := L4 hf
 have hF := W9 g (by omega)
 obtain ⟨r, n, es⟩ := g
 simp only at h2 h3 h4
 obtain ⟨N, rfl⟩ : ∃ N : Nat, n = (N : Int) := ⟨n.toNat, by omega⟩
 obtain ⟨R, rfl⟩ : ∃ R : Nat, r = (R : Int) := ⟨r.toNat, by omega⟩
 unfold T6
 have hrep : ∀ x, s03 (List.replicate N (none : Option (List Int))) x = none := fun x => by
  unfold s03
  rw [List.getD_eq_getElem?_getD, List.getElem?_replicate]; split <;> rfl
 have hW : WOk N ((List.replicate N (none : Option (List Int))).set (0 : Int).toNat (some [])) [0] := by
  refine ⟨by simp, fun x h0 h1 => ?_, fun x => ?_⟩
  ·rw [t03 (Int.le_refl 0) (by simp; omega) h0]
   by_cases c : x = 0
   ·rw [if_pos c]; simp [c]
   ·rw [if_neg c, hrep]; simp [c]
  ·by_cases hz : 0 ≤ x
   ·rw [t03 (Int.le_refl 0) (by simp; omega) hz]
    split
    ·simp
    ·rw [hrep]; simp
   ·have : s03 ((List.replicate N (none : Option (List Int))).set (0 : Int).toNat (some [])) x = s03 ((List.replicate N (none : Option (List Int))).set (0 : Int).toNat (some [])) 0 := by
     unfold s03; rw [show x.toNat = (0 : Int).toNat by omega]
    rw [this, t03 (Int.le_refl 0) (by simp; omega) (Int.le_refl 0), if_pos rfl]; simp
 obtain ⟨W', h0⟩ := R0g R N (by omega) es h1 (by omega) (by omega) (N + 1) 0 S0 _ [0] ⟨by simp, fun x hx => by simp at hx; subst hx; omega⟩ hW (by simp) (by omega) (W0 (by omega))
 have hg0 : gi (List.replicate N (none : Option (List Int))) 0 = some none := by
  rw [O04 (x := none)]; rw [List.getElem?_replicate, if_pos (by omega)]
 simp only [hF, hf, Option.bind_some, Bool.not_true, L9, Int.toNat_natCast]
 rw [if_neg (by simp), N0 (by omega), Option.bind_some, hg0, Option.bind_some]
 rw [show ((0 : Nat) : Int) = 0 from rfl] at h0
 rw [h0]
 rfl
def f0d (g : l0) : l0 := F9 g (T03 g)
theorem x0e (g : l0) (hf : P0 g = true) : U6 g = some (f0d g) := by
 obtain ⟨h1, h2, h3, h4⟩ := L4 hf
 have hF := W9 g (by omega)
 have hO := w0e g hf
 obtain ⟨ho, ho1⟩ := b0c hf
 have hle := S03 _ _ ho.1 ho.2
 obtain ⟨r, n, es⟩ := g
 simp only at h2 h3 h4
 obtain ⟨N, rfl⟩ : ∃ N : Nat, n = (N : Int) := ⟨n.toNat, by omega⟩
 simp only [Int.toNat_natCast] at ho hle
 have hp := M0i r N es (T03 (r, (N : Int), es)) (fun e he => ⟨(h1 e he).1, (h1 e he).2.1⟩) ho.2 (by omega) (by omega) (by omega)
 unfold U6
 simp only [hF, hf, Option.bind_some, Bool.not_true, hO, hp]
 rfl
theorem y0e (g : l0) (hf : P0 g = true) : S6 g = some (f0d g) := by
 obtain ⟨h1, h2, h3, h4⟩ := L4 hf
 have hG : M0 g = true := by
  unfold P0 at hf; exact (Bool.and_eq_true _ _ ▸ hf).1
 have hO := v0e g hf
 obtain ⟨ho, ho1⟩ := b0c hf
 have hle := S03 _ _ ho.1 ho.2
 obtain ⟨r, n, es⟩ := g
 simp only at h2 h3 h4
 obtain ⟨N, rfl⟩ : ∃ N : Nat, n = (N : Int) := ⟨n.toNat, by omega⟩
 simp only [Int.toNat_natCast] at ho hle
 have hp := N0a r N es (T03 (r, (N : Int), es)) hG ho.2 ho.1 ho1 hle
 unfold S6
 simp only [Option.bind_some, hO, hp]
 rw [if_neg (by simp; intro h; rw [h] at ho1; simp at ho1)]
 rfl
end Go.Proofs.YtfdlgbfeceodeaaGreat
namespace Go.Proofs.YtfdlgbfeceodeaaGreat
open Go.H
set_option linter.unusedVariables false
set_option linter.unusedSimpArgs false
def lf (bad : Nat → Bool) : Nat → Nat → Option Nat
 | 0, v => none
 | d + 1, v => bif bad v then some v else lf bad d (v + 1)
theorem R0a {bad : Nat → Bool} : ∀ (d v k : Nat), lf bad d v = some k → v ≤ k ∧ k < v + d
 | 0, v, k, h => by cases h
 | d + 1, v, k, h => by
  unfold lf at h
  cases hb : bad v
  ·rw [hb] at h; have := R0a d (v + 1) k h; omega
  ·rw [hb] at h; cases h; omega
theorem z0e {b1 b2 : Nat → Bool} : ∀ (d v : Nat), (∀ k, v ≤ k → k < v + d → b1 k = b2 k) → lf b1 d v = lf b2 d v
 | 0, v, h => rfl
 | d + 1, v, h => by unfold lf; rw [h v (Nat.le_refl _) (by omega), z0e d (v + 1) fun k h1 h2 => h k (by omega) (by omega)]
def L0h (es : List C0) : List Int := itS es (es.length + 1) [0]
def N0f (es : List C0) (v : Nat) : Bool := decide (P03 (v : Int) es < 2) || !decide ((v : Int) ∈ L0h es)
def N02 (g : l0) : Option Nat := lf (N0f g.2.2) (g.2.1.toNat - 1) 1
theorem O0f (g : l0) (hg : M0 g = true) : a8 g 0 = some (L0h g.2.2) ∧ (L0h g.2.2).length ≤ 100000 := by
 obtain ⟨h1, h2, h3, h4⟩ := O1 hg
 have hq := R5 g (by omega)
 obtain ⟨r, n, es⟩ := g
 simp only at h2 h3 h4
 unfold a8 L0h
 have hl := K0a es h4 (es.length + 1) 0 S0 [0] (by omega) (W0 (by omega)) (by simp)
 have hlen := H0g es (es.length + 1) [0]
 refine ⟨?_, ?_⟩
 ·rw [show ((0 : Nat) : Int) = 0 from rfl] at hl
  simp only [hq, hg, Option.bind_some, Bool.not_true, Bool.not_false, G2, D01, inR, w64 (show -9223372036854775808 ≤ n - 1 by omega) (show n - 1 ≤ 9223372036854775807 by omega)]
  rw [if_neg (by simp; omega), hl]; rfl
 ·have : (es.length + 1) * (2 * es.length) ≤ 121 * 240 := Nat.mul_le_mul (by omega) (by omega)
  simp only [List.length_singleton] at hlen
  simp only
  omega
theorem V0i (r : Int) (n : Nat) (es : List C0) (hes : es.length ≤ 1000) (u : List Int) (hu : u.length ≤ 100000) (hn : n ≤ 40) : ∀ (d v fuel : Nat), v + d = n ∨ (d = 0 ∧ n ≤ v) → v ≤ 1000 → d < fuel →
  P6 (n : Int) r es u fuel (v : Int) = some (match lf (fun v => decide (P03 (v : Int) es < 2) || !decide ((v : Int) ∈ u)) d v with | some k => .inl (k : Int) | none => .inr ())
 | d, v, 0, hd, hv, hf => by omega
 | 0, v, fuel + 1, hd, hv, hf => by
  rw [P6.eq_2, if_neg (by simp; omega)]; rfl
 | d + 1, v, fuel + 1, hd, hv, hf => by
  have ih := V0i r n es hes u hu hn d (v + 1) fuel (by omega) (by omega) (by omega)
  have hdeg := a0d (v : Int) es
  rw [P6.eq_2, if_pos (by simp; omega), W0b (r, (n : Int), es) _ (by simp only; omega), Option.bind_some, N0 (c64 (by simp only; omega) (by simp only; omega)), Option.bind_some, A2 (show v < 10000 by omega) (by omega)]
  unfold lf
  by_cases c1 : P03 (v : Int) es < 2
  ·have e1 : decide (((P03 (v : Int) es : Nat) : Int) < 2) = true := decide_eq_true (by omega)
   simp only [e1, Bool.not_true, N5, Option.bind_some, cond_true, if_true, decide_eq_true c1, Bool.true_or]
  ·have e1 : decide (((P03 (v : Int) es : Nat) : Int) < 2) = false := decide_eq_false (by omega)
   simp only [e1, Bool.not_false, G2, E09 u _ (show u.length ≤ 9223372036854775807 by omega), Option.bind_some, cond_false, decide_eq_false c1, Bool.false_or]
   by_cases c2 : (v : Int) ∈ u
   ·simp only [decide_eq_true c2, Bool.not_true, Bool.false_eq_true, if_false, cond_false]; exact ih
   ·simp only [decide_eq_false c2, Bool.not_false, if_true, cond_true]
theorem L0k (g : l0) (hg : M0 g = true) : s00 g = some (match N02 g with | some k => (k : Int) | none => -1) := by
 obtain ⟨e1, e2⟩ := O0f g hg
 obtain ⟨h1, h2, h3, h4⟩ := O1 hg
 obtain ⟨r, n, es⟩ := g
 simp only at h2 h3 h4 e1 e2
 obtain ⟨N, rfl⟩ : ∃ N : Nat, n = (N : Int) := ⟨n.toNat, by omega⟩
 unfold s00 N02
 have hl := V0i r N es (by omega) (L0h es) e2 (by omega) (N - 1) 1 S0 (by omega) (by omega) (W0 (by omega))
 simp only [e1, Option.bind_some, Int.toNat_natCast]
 rw [show (1 : Int) = ((1 : Nat) : Int) from rfl, hl]
 rw [show (fun v : Nat => decide (P03 (v : Int) es < 2) || !decide ((v : Int) ∈ L0h es)) = N0f es from rfl]
 cases lf (N0f es) (N - 1) 1 <;> rfl
theorem S0g (r : Int) (n : Nat) (es : List C0) (hes : es.length ≤ 1000) (S : List Bool) (hS : S.length = n) (hn : n ≤ 40) : ∀ (d v fuel : Nat), 1 ≤ v → v + d = n ∨ (d = 0 ∧ n ≤ v) → v ≤ 1000 → d + 1 < fuel →
  J3 (n : Int) r es S fuel 0 (v : Int) = some (match lf (fun v => decide (P03 (v : Int) es < 2) || !o8 S (v : Int)) d v with | some k => (k : Int) | none => 0)
 | d, v, 0, h1, hd, hv, hf => by omega
 | 0, v, fuel + 1, h1, hd, hv, hf => by
  have e : decide ((v : Int) < (n : Int)) = false := decide_eq_false (by omega)
  rw [J3.eq_2, if_neg (by rw [e]; simp)]; rfl
 | d + 1, v, fuel + 1, h1, hd, hv, hf => by
  have ih := S0g r n es hes S hS hn d (v + 1) fuel (by omega) (by omega) (by omega) (by omega)
  have hdeg := a0d (v : Int) es
  have e : decide ((v : Int) < (n : Int)) = true := decide_eq_true (by omega)
  have hfin : ∀ w : Int, J3 (n : Int) r es S fuel (v : Int) w = some (v : Int) := fun w => by
   obtain _ | fuel := fuel
   ·omega
   ·have e2 : decide ((v : Int) = 0) = false := decide_eq_false (by omega)
    have e3 : ∀ b : Bool, (bif b then false else false) = false := fun b => by cases b <;> rfl
    rw [J3.eq_2, if_neg (by rw [e2, e3]; simp)]
  rw [J3.eq_2, if_pos (by rw [e]; rfl), J0h (r, (n : Int), es) _ (by simp only; omega), Option.bind_some, N0 (c64 (by simp only; omega) (by simp only; omega)), Option.bind_some, A2 (show v < 10000 by omega) (by omega)]
  unfold lf
  by_cases c1 : P03 (v : Int) es < 2
  ·have e1 : decide (((P03 (v : Int) es : Nat) : Int) < 2) = true := decide_eq_true (by omega)
   simp only [e1, Bool.not_true, N5, Option.bind_some, cond_true, if_true, decide_eq_true c1, Bool.true_or, hfin]
  ·have e1 : decide (((P03 (v : Int) es : Nat) : Int) < 2) = false := decide_eq_false (by omega)
   simp only [e1, Bool.not_false, G2, giB hS (show (0 : Int) ≤ (v : Int) by omega) (show (v : Int) < (n : Int) by omega), Option.bind_some, cond_false, decide_eq_false c1, Bool.false_or]
   cases hb : o8 S (v : Int)
   ·simp only [Bool.not_false, if_true, cond_true, hfin]
   ·simp only [Bool.not_true, Bool.false_eq_true, if_false, cond_false]; exact ih
def wo (g : Nat) : Nat → Nat → List Int
 | 0, k => []
 | d + 1, k => if k = g then wo g d (k + 1) else (k : Int) :: wo g d (k + 1)
theorem P0f (g : Nat) : ∀ (d k : Nat), (wo g d k).length = d - (if k ≤ g ∧ g < k + d then 1 else 0)
 | 0, k => by simp [wo]
 | d + 1, k => by
  have ih := P0f g d (k + 1)
  unfold wo
  by_cases c : k = g
  ·rw [if_pos c, ih, if_neg (by omega), if_pos (by omega)]; omega
  ·rw [if_neg c, List.length_cons, ih]
   by_cases c2 : k + 1 ≤ g ∧ g < k + 1 + d
   ·rw [if_pos c2, if_pos (by omega)]; omega
   ·rw [if_neg c2, if_neg (by omega)]; omega
theorem W0i (g n : Nat) : ∀ (d k : Nat), k + d ≤ n → inV n (wo g d k)
 | 0, k, h => fun x hx => nomatch hx
 | d + 1, k, h => by
  have ih := W0i g n d (k + 1) (by omega)
  unfold wo
  split
  ·exact ih
  ·intro x hx
   rcases List.mem_cons.1 hx with rfl | hx
   ·omega
   ·exact ih x hx
theorem T0g (n g : Nat) (hn : n ≤ 1000) : ∀ (d k fuel : Nat) (acc : List Int), k + d = n → d < fuel → acc.length ≤ k →
  M4 (n : Int) (g : Int) fuel (k : Int) acc = some (acc ++ wo g d k)
 | d, k, 0, acc, hd, hf, ha => by omega
 | 0, k, fuel + 1, acc, hd, hf, ha => by
  rw [M4.eq_2, if_neg (by simp; omega)]; simp [wo]
 | d + 1, k, fuel + 1, acc, hd, hf, ha => by
  have ih := fun acc' h => T0g n g hn d (k + 1) fuel acc' (by omega) (by omega) h
  rw [M4.eq_2, if_pos (by simp; omega), A2 (show k < 10000 by omega) (by omega)]
  unfold wo
  by_cases c : k = g
  ·have e : decide ((k : Int) = (g : Int)) = true := decide_eq_true (by omega)
   rw [e, if_neg (by simp), if_pos c, ih _ (by omega)]
  ·have e : decide ((k : Int) = (g : Int)) = false := decide_eq_false (by omega)
   rw [e, if_pos (show (!false) = true from rfl), if_neg c, N0 (by simp; omega), Option.bind_some, ih _ (by simp; omega)]
   simp
theorem U0g (n : Nat) (hn : n ≤ 1000) : ∀ (d k fuel : Nat) (acc : List Int), k + d = n → d < fuel → acc.length = k →
  ∃ u, d5 (n : Int) fuel (k : Int) acc = some u ∧ u.length = n
 | d, k, 0, acc, hd, hf, ha => by omega
 | 0, k, fuel + 1, acc, hd, hf, ha => by
  rw [d5.eq_2, if_neg (by simp; omega)]; exact ⟨_, rfl, by omega⟩
 | d + 1, k, fuel + 1, acc, hd, hf, ha => by
  obtain ⟨u, e1, e2⟩ := U0g n hn d (k + 1) fuel (acc ++ [(k : Int)]) (by omega) (by omega) (by simp; omega)
  rw [d5.eq_2, if_pos (by simp; omega), A2 (show k < 10000 by omega) (by omega), N0 (by simp; omega), Option.bind_some, e1]
  exact ⟨u, rfl, e2⟩
theorem X0i {α : Type} {xs : List α} {k : Nat} (h : k ≤ xs.length) : k06 xs 0 (k : Int) = some (xs.take k) := by
 unfold k06
 rw [if_pos (by omega)]; rfl
theorem M01 {g : l0} (h : P0 g = true) : M0 g = true := by
 unfold P0 at h; exact (Bool.and_eq_true _ _ ▸ h).1
end Go.Proofs.YtfdlgbfeceodeaaGreat
namespace Go.Proofs.YtfdlgbfeceodeaaGreat
open Go.H
set_option linter.unusedVariables false
set_option linter.unusedSimpArgs false
def M0k (l : A09) : Prop := l.length ≤ 140737488355328 ∧ ∀ e ∈ l, e.1.size ≤ 140737488355328 ∧ e.2.2.2.length ≤ 140737488355328
end Go.Proofs.YtfdlgbfeceodeaaGreat
namespace Go.Proofs.YtfdlgbfeceodeaaGreat
open Go.H
set_option linter.unusedVariables false
set_option linter.unusedSimpArgs false
def Y0i (l : A09) : Prop := l.length ≤ 1048576 ∧ ∀ e ∈ l, e.1.size ≤ 1048576 ∧ e.2.2.2.length ≤ 1048576
theorem Y0i.ok {l : A09} (h : Y0i l) : M0k l := ⟨by have := h.1; omega, fun e he => by have := h.2 e he; omega⟩
end Go.Proofs.YtfdlgbfeceodeaaGreat
namespace Go.Proofs.YtfdlgbfeceodeaaGreat
open Go.H
set_option linter.unusedVariables false
set_option linter.unusedSimpArgs false
theorem A0e {α : Type} {cf : α → α → Int} (h : p8 cf) : ∀ {l : List α}, (∀ i x y, l[i]? = some x → l[i + 1]? = some y → cf x y < 0) → Asc cf l
 | [], _ => List.Pairwise.nil
 | [x], _ => List.pairwise_singleton _ _
 | x :: y :: l, hn => by
  have ih : Asc cf (y :: l) := A0e h fun i a b ha hb => hn (i + 1) a b (by simpa using ha) (by simpa using hb)
  have hxy := hn 0 x y rfl rfl
  refine List.pairwise_cons.2 ⟨fun z hz => ?_, ih⟩
  rcases List.mem_cons.1 hz with rfl | hz
  ·exact hxy
  ·exact h.trans _ _ _ hxy ((List.pairwise_cons.1 ih).1 z hz)
theorem Z0i {α : Type} {cf : α → α → Int} : ∀ {l : List α}, Asc cf l → ∀ {i : Nat} {x y : α}, l[i]? = some x → l[i + 1]? = some y → cf x y < 0
 | [], _, i, x, y, hx, _ => by simp at hx
 | a :: l, h, 0, x, y, hx, hy => by
  simp at hx hy; subst hx
  exact (List.pairwise_cons.1 h).1 y (List.mem_of_getElem? hy)
 | a :: l, h, i + 1, x, y, hx, hy => Z0i (List.pairwise_cons.1 h).2 (i := i) (by simpa using hx) (by simpa using hy)
theorem a0j {r hi : Int} {es : List C0} : ∀ {d k : Nat}, (∀ i, k ≤ i → i < k + d → G0i r hi es i = false) → okE r hi es d k = true
 | 0, k, h => rfl
 | d + 1, k, h => by
  simp only [okE, Bool.and_eq_true, Bool.not_eq_true']
  exact ⟨h k (Nat.le_refl _) (by omega), a0j fun i h1 h2 => h i (by omega) (by omega)⟩
theorem C9 (g : l0) : M0 g = true ↔ inG g ∧ (1 ≤ g.1 ∧ g.1 ≤ 3) ∧ (1 ≤ g.2.1 ∧ g.2.1 ≤ 40) ∧ g.2.2.length ≤ 120 ∧ Asc K0 g.2.2 := by
 constructor
 ·intro h
  obtain ⟨q1, q2, q3, q4⟩ := O1 h
  refine ⟨q1, q2, q3, q4, A0e Z5 fun i x y hx hy => ?_⟩
  simp only [M0, Bool.and_eq_true] at h
  have hb := H0f h.1.1.1 (i + 1) (Nat.zero_le _) (by have := (List.getElem?_eq_some_iff.1 hy).1; omega)
  rw [k07 hy] at hb
  simp only [Nat.add_sub_cancel, hx, Bool.or_eq_false_iff] at hb
  have := hb.2
  simp only [show decide (0 < i + 1) = true by simp, Bool.true_and, decide_eq_false_iff_not] at this
  have e : w0a x y = K0 x y := rfl
  omega
 ·rintro ⟨q1, q2, q3, q4, q5⟩
  obtain ⟨r, n, es⟩ := g
  simp only at q2 q3 q4 q5
  simp only [M0, inR, Bool.and_eq_true, decide_eq_true_eq]
  refine ⟨⟨⟨a0j fun i _ hi => ?_, q2⟩, q3⟩, q4⟩
  have hx := W5 (show i < es.length by omega)
  generalize es[i] = e at hx
  rw [k07 hx]
  have he := q1 e (List.mem_of_getElem? hx)
  simp only at he
  simp only [Bool.or_eq_false_iff, Bool.not_eq_false', E01, inR, Bool.and_eq_true, decide_eq_true_eq]
  rw [w64 (by omega) (by omega)]
  refine ⟨⟨⟨⟨by omega, by omega⟩, by omega, by omega⟩, by omega, by omega⟩, ?_⟩
  cases i with
  | zero => rfl
  | succ j =>
   have hy := W5 (show j < es.length by omega)
   generalize es[j] = f at hy
   have := Z0i q5 hy hx
   simp only [Nat.add_sub_cancel, hy]
   have e' : w0a f e = K0 f e := rfl
   simp [e']; omega
theorem v07 {r : Int} {n : Int} {es : List C0} (hr : 1 ≤ r ∧ r ≤ 3) (hn : 1 ≤ n ∧ n ≤ 40) (hes : es.length ≤ 120) (hin : inG (r, n, es)) : M0 (r, n, w6 K0 [] es) = true := by
 refine (C9 _).2 ⟨fun e he => hin e ?_, hr, hn, ?_, f01 Z5 _ _ List.Pairwise.nil⟩
 ·rcases (U8 Z5 e es []).1 he with h | h
  ·simp at h
  ·exact h
 ·have := y01 es []
  simp only [List.length_nil] at this
  simp only; omega
def w07 (a b : C0) : List (Int × Int) :=
 bif decide (a.2.1 = b.2.1) then (bif decide (a.1 = b.1) then [(if b.2.2 < a.2.2 then b.2.2 else a.2.2, if b.2.2 > a.2.2 then b.2.2 else a.2.2)] else []) ++ (bif decide (a.2.2 = b.2.2) then [(if b.1 < a.1 then b.1 else a.1, if b.1 > a.1 then b.1 else a.1)] else []) else []
def G00 (a : C0) : List C0 → List (Int × Int)
 | [] => []
 | b :: r => w07 a b ++ G00 a r
def j7 : List C0 → List (Int × Int)
 | [] => []
 | a :: r => G00 a r ++ j7 r
theorem M0h (a b : C0) : (w07 a b).length ≤ 2 := by
 unfold w07
 cases decide (a.2.1 = b.2.1) <;> cases decide (a.1 = b.1) <;> cases decide (a.2.2 = b.2.2) <;> simp
theorem q08 (a : C0) : ∀ l, (G00 a l).length ≤ 2 * l.length
 | [] => by simp [G00]
 | b :: r => by have := M0h a b; have := q08 a r; simp only [G00, List.length_append, List.length_cons]; omega
def mvV (f : Int × Int) (v : Int) : Int := if v = f.2 then f.1 else if v > f.2 then v - 1 else v
def mvE (f : Int × Int) (e : C0) : C0 := (mvV f e.1, e.2.1, mvV f e.2.2)
def M9 (g : l0) (f : Int × Int) : l0 := (g.1, g.2.1 - 1, w6 K0 [] (g.2.2.map (mvE f)))
def okF (g : l0) (f : Int × Int) : Prop := 0 ≤ f.1 ∧ f.1 < f.2 ∧ f.2 < g.2.1
theorem F02 {g : l0} {f : Int × Int} (hg : M0 g = true) (hf : okF g f) : M0 (M9 g f) = true := by
 obtain ⟨q1, q2, q3, q4, _⟩ := (C9 g).1 hg
 obtain ⟨f1, f2, f3⟩ := hf
 refine v07 q2 ⟨by omega, by omega⟩ (by simpa using q4) fun e he => ?_
 obtain ⟨e', he', rfl⟩ := List.mem_map.1 he
 obtain ⟨a1, a2, a3⟩ := q1 e' he'
 have hm : ∀ v : Int, 0 ≤ v ∧ v < g.2.1 → 0 ≤ mvV f v ∧ mvV f v < g.2.1 - 1 := fun v hv => by
  unfold mvV; split
  ·omega
  ·split <;> omega
 exact ⟨hm _ a1, hm _ a2, a3⟩
theorem B0e {g : l0} (hg : inG g) {a : C0} (ha : a ∈ g.2.2) : ∀ {l : List C0}, (∀ b ∈ l, b ∈ g.2.2 ∧ a ≠ b) → ∀ f ∈ G00 a l, okF g f
 | [], _, f, hf => by simp [G00] at hf
 | b :: r, h, f, hf => by
  rcases List.mem_append.1 (show f ∈ w07 a b ++ G00 a r from hf) with hf | hf
  ·have hb := hg b (h b (List.mem_cons_self ..)).1
   have ha' := hg a ha
   have hne := (h b (List.mem_cons_self ..)).2
   obtain ⟨a0, a1, a2⟩ := a
   obtain ⟨b0, b1, b2⟩ := b
   simp only at ha' hb
   unfold w07 at hf
   simp only at hf
   by_cases c1 : a1 = b1
   ·have d1 : ¬ (a0 = b0 ∧ a2 = b2) := fun ⟨x, y⟩ => hne (by rw [x, c1, y])
    simp only [c1, decide_true, cond_true, List.mem_append] at hf
    rcases hf with hf | hf
    ·by_cases c2 : a0 = b0
     ·simp only [c2, decide_true, cond_true, List.mem_singleton] at hf
      subst hf
      have : a2 ≠ b2 := fun y => d1 ⟨c2, y⟩
      unfold okF
      simp only
      split <;> split <;> omega
     ·simp [c2] at hf
    ·by_cases c2 : a2 = b2
     ·simp only [c2, decide_true, cond_true, List.mem_singleton] at hf
      subst hf
      have : a0 ≠ b0 := fun y => d1 ⟨y, c2⟩
      unfold okF
      simp only
      split <;> split <;> omega
     ·simp [c2] at hf
   ·simp [c1] at hf
  ·exact B0e hg ha (fun b' hb' => h b' (List.mem_cons_of_mem _ hb')) f hf
theorem C0e {g : l0} (hg : inG g) : ∀ {l : List C0}, (∀ b ∈ l, b ∈ g.2.2) → Asc K0 l → ∀ f ∈ j7 l, okF g f
 | [], _, _, f, hf => by simp [j7] at hf
 | a :: r, h, hA, f, hf => by
  rcases List.mem_append.1 (show f ∈ G00 a r ++ j7 r from hf) with hf | hf
  ·refine B0e hg (h a (List.mem_cons_self ..)) (fun b hb => ⟨h b (List.mem_cons_of_mem _ hb), fun e => ?_⟩) f hf
   have := (List.pairwise_cons.1 hA).1 b hb
   rw [e, Z5.refl] at this; omega
  ·exact C0e hg (fun b hb => h b (List.mem_cons_of_mem _ hb)) (List.pairwise_cons.1 hA).2 f hf
theorem j02 {g : l0} (hg : M0 g = true) : ∀ f ∈ j7 g.2.2, okF g f := by
 obtain ⟨q1, _, _, _, q5⟩ := (C9 g).1 hg
 exact C0e q1 (fun _ h => h) q5
def N9 : Nat → l0 → l0 × List (Int × Int)
 | 0, g => (g, [])
 | n + 1, g => match j7 g.2.2 with
  | [] => (g, [])
  | f :: _ => ((N9 n (M9 g f)).1, f :: (N9 n (M9 g f)).2)
def Z3 (g : l0) : l0 × List (Int × Int) := bif M0 g then N9 40 g else (g, [])
theorem T04 : ∀ (n : Nat) {g : l0}, M0 g = true → M0 (N9 n g).1 = true
 | 0, g, h => h
 | n + 1, g, h => by
  unfold N9
  cases e : j7 g.2.2 with
  | nil => exact h
  | cons f l => exact T04 n (F02 h (j02 h f (by rw [e]; exact List.mem_cons_self ..)))
theorem q06 : ∀ (n : Nat) {g : l0}, M0 g = true → g.2.1 ≤ (n : Int) + 1 → j7 (N9 n g).1.2.2 = []
 | 0, g, h, hn => by
  cases e : j7 g.2.2 with
  | nil => exact e
  | cons f l =>
   have := j02 h f (by rw [e]; exact List.mem_cons_self ..)
   unfold okF at this
   omega
 | n + 1, g, h, hn => by
  unfold N9
  cases e : j7 g.2.2 with
  | nil => exact e
  | cons f l => exact q06 n (F02 h (j02 h f (by rw [e]; exact List.mem_cons_self ..))) (by show g.2.1 - 1 ≤ _; omega)
theorem N0h (a b : C0) : w07 a b = [] ↔ n02 a b = false := by
 unfold w07 n02
 cases decide (a.2.1 = b.2.1) <;> cases decide (a.1 = b.1) <;> cases decide (a.2.2 = b.2.2) <;> simp
theorem c0c (a : C0) : ∀ l, G00 a l = [] ↔ ∀ b ∈ l, n02 a b = false
 | [] => by simp [G00]
 | b :: r => by
  rw [G00, List.append_eq_nil_iff, N0h, c0c a r]
  simp
theorem r08 : ∀ l, j7 l = [] ↔ l.Pairwise fun a b => n02 a b = false
 | [] => by simp [j7]
 | a :: r => by rw [j7, List.append_eq_nil_iff, c0c, r08 r, List.pairwise_cons]
theorem H7 (g : l0) : P0 g = true ↔ M0 g = true ∧ j7 g.2.2 = [] := by
 unfold P0
 rw [Bool.and_eq_true, m08, r08]
theorem S0a {g : l0} (h : M0 g = true) : P0 (Z3 g).1 = true := by
 have hg := (O1 h).2.2.1
 unfold Z3
 rw [h]
 exact (H7 _).2 ⟨T04 40 h, q06 40 h (by omega)⟩
end Go.Proofs.YtfdlgbfeceodeaaGreat
namespace Go.Proofs.YtfdlgbfeceodeaaGreat
open Go.H
set_option linter.unusedVariables false
set_option linter.unusedSimpArgs false
theorem X04 {x : D0} (h : C4 x = true) : ∀ w ∈ x.2, Q4 x.1 w = true := by
 simp only [C4, P3, Bool.and_eq_true] at h
 have hw : ∀ {ws : List (List Int)}, z05 x.1 ws = true → ∀ w ∈ ws, Q4 x.1 w = true := by
  intro ws
  induction ws with
  | nil => intro _ w hw; cases hw
  | cons v r ih =>
   intro h w hw
   simp only [z05, Bool.and_eq_true] at h
   rcases List.mem_cons.1 hw with rfl | hw
   ·exact h.1
   ·exact ih h.2 w hw
 exact hw h.1.1.2
theorem y07 {x : D0} (h : C4 x = true) : ∀ w ∈ x.2, (∀ y ∈ w, B7 y) ∧ w.length ≤ 24 := fun w hw => by
 have h1 := X04 h w hw
 refine ⟨fun y hy => ?_, ?_⟩
 ·obtain ⟨i, hi⟩ := List.getElem?_of_mem hy
  have := C02 h1 hi
  refine ⟨⟨by omega, by omega⟩, by omega⟩
 ·simp only [Q4, Bool.and_eq_true, decide_eq_true_eq] at h1
  exact h1.1.2
theorem U03 {x : D0} (h : C4 x = true) : x.2.length ≤ 6 := by
 simp only [C4, P3, Bool.and_eq_true, decide_eq_true_eq] at h
 exact h.1.1.1.2
def P0h (g : l0) (v : Int) (r : List Int) : Bool := bif decide ((R8 g v r).2 < r.length) then true else !decide ((R8 g v r).1 = v)
def W0a (g : l0) (v : Int) : List (List Int) → Nat → Option Nat
 | [], _ => none
 | r :: l, i => bif P0h g v r then some i else W0a g v l (i + 1)
def V03 (g : l0) (rels : List (List Int)) : Nat → Nat → Option (Nat × Nat)
 | 0, _ => none
 | d + 1, v => match W0a g (v : Int) rels 0 with
  | some i => some (v, i)
  | none => V03 g rels d (v + 1)
def X0a (q : Option (Nat × Nat)) : Int × Int := match q with
 | some (v, i) => ((v : Int), (i : Int))
 | none => (-1, -1)
def D9 (p : D0) (g : l0) : Int × Int := bif C4 p && P0 g && decide (p.1 = g.1) then X0a (V03 g p.2 g.2.1.toNat 0) else (-1, -1)
theorem Y0a (rels : List (List Int)) (hrel : ∀ w ∈ rels, (∀ y ∈ w, B7 y) ∧ w.length ≤ 24) (r n : Int) (es : List C0) (hg : inG (r, n, es)) (hn : n ≤ 40) (hes : es.length ≤ 120) (hl : rels.length ≤ 6) (v : Int) (hv : F0 v) : ∀ (d k fuel : Nat), k + d = rels.length → d < fuel →
  J4 rels r n es v fuel (k : Int) = some (match W0a (r, n, es) v (rels.drop k) k with | some i => .inl (v, (i : Int)) | none => .inr ())
 | d, k, 0, hd, hf => by omega
 | 0, k, fuel + 1, hd, hf => by
  rw [J4.eq_2, if_neg (by simp; omega), E1 (by omega)]
  rfl
 | d + 1, k, fuel + 1, hd, hf => by
  have hk : k < rels.length := by omega
  have hx := W5 hk
  obtain ⟨hxm, hxl⟩ := hrel _ (List.getElem_mem hk)
  generalize rels[k] = w at hx hxm hxl
  have hle := C0a (r, n, es) w v
  rw [J4.eq_2, if_pos (by simp; omega), N3 hx, Option.bind_some, I0k (r, n, es) hg hn (by simp only; omega) v w hxm (by omega), Option.bind_some, K1 hx]
  simp only [N0 (D0a hg hn w v hv), N0 (show F0 (((R8 (r, n, es) v w).2 : Nat) : Int) from ⟨by omega, by omega⟩), Option.bind_some, W0a]
  have e : (bif decide ((((R8 (r, n, es) v w).2 : Nat) : Int) < ((w.length : Nat) : Int)) then true else !decide ((R8 (r, n, es) v w).1 = v)) = P0h (r, n, es) v w := by
   unfold P0h
   simp
  rw [e]
  cases P0h (r, n, es) v w with
  | true => rfl
  | false =>
   rw [if_neg (by simp), A2 hk (by omega)]
   exact Y0a rels hrel r n es hg hn hes hl v hv d (k + 1) fuel (by omega) (by omega)
theorem Z0a (rels : List (List Int)) (hrel : ∀ w ∈ rels, (∀ y ∈ w, B7 y) ∧ w.length ≤ 24) (r : Int) (N : Nat) (es : List C0) (hg : inG (r, (N : Int), es)) (hn : N ≤ 40) (hes : es.length ≤ 120) (hl : rels.length ≤ 6) : ∀ (d k fuel : Nat), k + d = N → d < fuel →
  K4 (N : Int) rels r es fuel (k : Int) = some (match V03 (r, (N : Int), es) rels d k with | some (v, i) => .inl ((v : Int), (i : Int)) | none => .inr ())
 | d, k, 0, hd, hf => by omega
 | 0, k, fuel + 1, hd, hf => by
  rw [K4.eq_2, if_neg (by simp; omega)]
  rfl
 | d + 1, k, fuel + 1, hd, hf => by
  have h0 := Y0a rels hrel r (N : Int) es hg (by omega) hes hl (k : Int) ⟨by omega, by omega⟩ rels.length 0 S0 (by omega) (W0 (by omega))
  rw [show ((0 : Nat) : Int) = 0 from rfl, List.drop_zero] at h0
  rw [K4.eq_2, if_pos (by simp; omega), h0, Option.bind_some]
  simp only [V03]
  cases W0a (r, (N : Int), es) (k : Int) rels 0 with
  | some i => rfl
  | none =>
   simp only [o0b]
   rw [A2 (show k < N by omega) (by omega)]
   exact Z0a rels hrel r N es hg hn hes hl d (k + 1) fuel (by omega) (by omega)
theorem z07 (p : D0) (g : l0) (hl : p.2.length ≤ 140737488355328) (hs : L2 p.2) (hl2 : g.2.2.length ≤ 140737488355328) : d7 p g = some (D9 p g) := by
 have hP := U9 p hl hs
 have hF := W9 g hl2
 unfold D9
 obtain ⟨pr, rels⟩ := p
 obtain ⟨r, n, es⟩ := g
 unfold d7
 simp only [hP, Option.bind_some]
 cases hp : C4 (pr, rels) with
 | false => rfl
 | true =>
  simp only [Bool.not_true, Bool.not_false, G2, hF, Option.bind_some, cond_false, Bool.true_and]
  cases hf : P0 (r, n, es) with
  | false => rfl
  | true =>
   by_cases hr : pr = r
   ·simp only [Bool.not_true, cond_false, hr, decide_true, Bool.true_and, cond_true, Bool.false_eq_true, if_false]
    obtain ⟨hg, _, hn, hes⟩ := L4 hf
    simp only at hn hes
    obtain ⟨N, rfl⟩ : ∃ N : Nat, n = (N : Int) := ⟨n.toNat, by omega⟩
    have h := Z0a rels (y07 hp) r N es hg (by omega) hes (U03 hp) N 0 S0 (by omega) (W0 (by omega))
    rw [show ((0 : Nat) : Int) = 0 from rfl] at h
    rw [h, Option.bind_some, Int.toNat_natCast]
    cases V03 (r, (N : Int), es) rels N 0 <;> rfl
   ·simp [hr]
theorem a0b (rels : List (List Int)) (hrel : ∀ w ∈ rels, (∀ y ∈ w, B7 y) ∧ w.length ≤ 24) (r n : Int) (es : List C0) (hf : P0 (r, n, es) = true) (hl : rels.length ≤ 6) (v : Int) (hv : 0 ≤ v ∧ v < n) : ∀ (d k fuel : Nat), k + d = rels.length → d < fuel →
  I4 rels r n es v fuel (k : Int) = some (match W0a (r, n, es) v (rels.drop k) k with | some i => .inl (v, (i : Int)) | none => .inr ())
 | d, k, 0, hd, hf' => by omega
 | 0, k, fuel + 1, hd, hf' => by
  rw [I4.eq_2, if_neg (by simp; omega), E1 (by omega)]
  rfl
 | d + 1, k, fuel + 1, hd, hf' => by
  have hk : k < rels.length := by omega
  have hx := W5 hk
  obtain ⟨hxm, hxl⟩ := hrel _ (List.getElem_mem hk)
  generalize rels[k] = w at hx hxm hxl
  obtain ⟨hg, _, hn, hes⟩ := L4 hf
  simp only at hn hes
  have h64 : F0 v := ⟨by omega, by omega⟩
  rw [I4.eq_2, if_pos (by simp; omega), N3 hx, Option.bind_some, J0k (r, n, es) hf v hv w hxm (by omega), Option.bind_some, K1 hx]
  simp only [W0a, P0h]
  cases decide ((R8 (r, n, es) v w).2 < w.length) with
  | true =>
   simp only [cond_true, N0 (show F0 (-1) by decide), Option.bind_some, Bool.not_false, if_true]
  | false =>
   simp only [cond_false, N0 (D0a hg hn.2 w v h64), Option.bind_some, Bool.not_true]
   cases decide ((R8 (r, n, es) v w).1 = v) with
   | false => rfl
   | true =>
    rw [if_neg (by simp), A2 hk (by omega)]
    exact a0b rels hrel r n es hf hl v hv d (k + 1) fuel (by omega) (by omega)
theorem b0b (rels : List (List Int)) (r : Int) (N : Nat) (es : List C0) (hp : C4 (r, rels) = true) (hf : P0 (r, (N : Int), es) = true) (hl : rels.length ≤ 140737488355328) (hs : L2 rels) : ∀ (d k fuel : Nat), k + d = N → d < fuel →
  D3 (N : Int) r rels r es fuel (k : Int) = some (match V03 (r, (N : Int), es) rels d k with | some (v, i) => .inl ((v : Int), (i : Int)) | none => .inr ())
 | d, k, 0, hd, hf' => by omega
 | 0, k, fuel + 1, hd, hf' => by
  have e : decide ((k : Int) < (N : Int)) = false := by simp; omega
  rw [D3.eq_2, e, N5, Option.bind_some]
  simp only [cond_false, N5, Option.bind_some]
  rw [if_neg (by simp)]
  rfl
 | d + 1, k, fuel + 1, hd, hf' => by
  obtain ⟨hg, _, hn, hes⟩ := L4 hf
  simp only at hn hes
  have e : decide ((k : Int) < (N : Int)) = true := by simp; omega
  have h0 := a0b rels (y07 hp) r (N : Int) es hf (U03 hp) (k : Int) ⟨by omega, by omega⟩ rels.length 0 S0 (by omega) (W0 (by omega))
  rw [show ((0 : Nat) : Int) = 0 from rfl, List.drop_zero] at h0
  rw [D3.eq_2, e, G2, A8 (r, rels) hl hs, Option.bind_some, hp]
  simp only [cond_true, G2, L8 (r, (N : Int), es) (show es.length ≤ 140737488355328 by omega), hf, Option.bind_some, decide_true, if_true, h0]
  simp only [V03]
  cases W0a (r, (N : Int), es) (k : Int) rels 0 with
  | some i => rfl
  | none =>
   simp only [o0b]
   rw [A2 (show k < N by omega) (by omega)]
   exact b0b rels r N es hp hf hl hs d (k + 1) fuel (by omega) (by omega)
theorem A07 (p : D0) (g : l0) (hl : p.2.length ≤ 140737488355328) (hs : L2 p.2) (hl2 : g.2.2.length ≤ 140737488355328) : c7 p g = some (D9 p g) := by
 have hP := A8 p hl hs
 have hF := L8 g hl2
 unfold D9
 obtain ⟨pr, rels⟩ := p
 obtain ⟨r, n, es⟩ := g
 unfold c7
 have stop : (C4 (pr, rels) && P0 (r, n, es) && decide (pr = r)) = false → D3 n pr rels r es S0 0 = some (.inr ()) := fun hno => by
  rw [show S0 = (S0 - 1) + 1 from rfl, D3.eq_2]
  cases decide ((0 : Int) < n) with
  | false => simp [chk]
  | true =>
   simp only [G2, hP, Option.bind_some, cond_true]
   cases hp : C4 (pr, rels) with
   | false => simp [chk]
   | true =>
    simp only [G2, hF, Option.bind_some, cond_true]
    rw [hp] at hno
    cases hf : P0 (r, n, es) with
    | false => simp
    | true =>
     rw [hf] at hno
     simp only [Bool.true_and] at hno
     simp [hno]
 cases hall : (C4 (pr, rels) && P0 (r, n, es) && decide (pr = r)) with
 | false =>
  simp only [stop hall, Option.bind_some, hall, cond_false]
  rfl
 | true =>
  simp only [Bool.and_eq_true, decide_eq_true_eq] at hall
  obtain ⟨⟨hp, hf⟩, rfl⟩ := hall
  obtain ⟨hg, _, hn, hes⟩ := L4 hf
  simp only at hn hes
  obtain ⟨N, rfl⟩ : ∃ N : Nat, n = (N : Int) := ⟨n.toNat, by omega⟩
  have h := b0b rels pr N es hp hf hl hs N 0 S0 (by omega) (W0 (by omega))
  rw [show ((0 : Nat) : Int) = 0 from rfl] at h
  simp only [h, Option.bind_some, hp, hf, decide_true, Bool.true_and, cond_true, Int.toNat_natCast]
  cases V03 (pr, (N : Int), es) rels N 0 <;> rfl
end Go.Proofs.YtfdlgbfeceodeaaGreat
