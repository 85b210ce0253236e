/- Texts of the claim, joined: Plain laws: words and presentations, as the spec and the code know the; Plain laws: lists of words, and presentations, as the spec and the cod; Plain laws: graphs, as the spec and the code know them; Plain laws: steps in a graph; Plain laws: graphs: degrees, equality, edges put in order, sorted edge; Plain laws: valid graphs said in words; folds of a graph. -/
import Derived.Test.YtfdlgbfeceodeaaGreatPart18
import Derived.Test.YtfdlgbfeceodeaaGreatH33
import Derived.Test.YtfdlgbfeceodeaaGreatH36
import Derived.Test.YtfdlgbfeceodeaaGreatPart17
namespace Go.Proofs.YtfdlgbfeceodeaaGreat
open Go.H
set_option linter.unusedVariables false
set_option linter.unusedSimpArgs false
theorem Y0 {n : Nat} (h : n ≤ 140737488355328) : n < Q0 := by unfold Q0; omega
theorem J0 {p : Prop} [Decidable p] (h : p) : grd p = some () := by unfold grd; rw [if_pos h]
theorem T1 {α : Type} (o : Option α) (d : α) : chk true o d = o := rfl
theorem J4 {α : Type} (o : Option α) (d : α) : chk false o d = some d := rfl
theorem E3 {α : Type} {xs : List α} {k : Nat} {x : α} (h : xs[k]? = some x) : gi xs (k : Int) = some x := by rw [R08]; exact h
theorem u05 {α : Type} {xs : List α} {x : α} (h : xs[0]? = some x) : gi xs 0 = some x := E3 (k := 0) h
theorem l0f {x : Int} (h : D0 x) (h2 : x ≠ -9223372036854775808) : IntKind.i64.wrap (0 - x) = -x := by rw [w64 (by have := h.1; have := h.2; omega) (by have := h.1; have := h.2; omega)]; omega
theorem L09 {n : Nat} (h : 0 < n) (hm : n ≤ 9223372036854775807) : IntKind.i64.wrap ((n : Int) - 1) = ((n - 1 : Nat) : Int) := by rw [w64 (by omega) (by omega)]; omega
theorem N5 {α : Type} {xs : List α} {k : Nat} (h : k < xs.length) : xs[k]? = some xs[k] := List.getElem?_eq_getElem h
def inR (lo hi x : Int) : Bool := decide (lo ≤ x) && decide (x ≤ hi)
def h03 (lo hi : Int) (w : List Int) (i : Nat) : Bool :=
 match w[i]? with
 | none => true
 | some x => x == 0 || !inR lo hi x || (decide (0 < i) && match w[i - 1]? with
  | none => true
  | some y => x == IntKind.i64.wrap (0 - y))
def H01 (lo hi : Int) (w : List Int) : Nat → Nat → Bool
 | 0, _ => true
 | d + 1, k => !h03 lo hi w k && H01 lo hi w d (k + 1)
def Y2 (r : Int) (w : List Int) : Bool := inR 1 3 r && decide (w.length ≤ 24) && H01 (-r) r w w.length 0
theorem f02 (a b c : Int) : D4 a b c = some (inR b c a) := by
 unfold D4 inR
 by_cases h : b ≤ a <;> simp [h]
theorem Y01 (a b c : Int) : g6 a b c = some (inR b c a) := f02 a b c
theorem V03 (r : Int) (w : List Int) (hl : w.length ≤ 140737488355328) : ∀ (d k fuel : Nat), k + d = w.length → d < fuel →
  W6 w r fuel (k : Int) = some (bif H01 (IntKind.i64.wrap (0 - r)) r w d k then .inr () else .inl false)
 | d, k, 0, hk, hf => by omega
 | 0, k, fuel + 1, hk, hf => by
  rw [W6.eq_2, if_neg (by simp; omega)]
  simp [H01]
 | d + 1, k, fuel + 1, hk, hf => by
  have hkl : k < w.length := by omega
  have hx := N5 hkl
  generalize w[k] = x at hx
  have next := V03 r w hl d (k + 1) fuel (by omega) (by omega)
  rw [W6.eq_2, if_pos (by simp; omega)]
  generalize IntKind.i64.wrap (0 - r) = lo at next ⊢
  simp only [E3 hx, Option.bind_some, f02, j2 hkl (by omega : w.length ≤ 9223372036854775807), next]
  have hbad : h03 lo r w k = (x == 0 || !inR lo r x || (decide (0 < k) && match w[k - 1]? with
   | none => true
   | some y => x == IntKind.i64.wrap (0 - y))) := by unfold h03; rw [hx]
  simp only [H01, hbad]
  by_cases h0 : x = 0
  ·simp [h0, chk]
  have e0 : decide (x = 0) = false := by simpa using h0
  have b0 : (x == 0) = false := by simpa using h0
  cases hin : inR lo r x with
  | false => simp [e0, b0, hin, chk]
  | true =>
   by_cases hk0 : k = 0
   ·have ek : decide ((k : Int) > 0) = false := by simp; omega
    have bk : decide (0 < k) = false := by simp; omega
    simp only [e0, b0, hin, ek, bk, T1, J4, Bool.not_true, Bool.not_false, Bool.and_true, Bool.false_and, Bool.or_self, Bool.true_and, cond_true, cond_false, Option.bind_some, Bool.or_false, Bool.and_false, Bool.false_eq_true, if_false, cond_true, cond_false]
   ·have hy := N5 (show k - 1 < w.length by omega)
    generalize w[k - 1] = y at hy
    have hpr : IntKind.i64.wrap ((k : Int) - 1) = ((k - 1 : Nat) : Int) := L09 (by omega) (by omega)
    have ek : decide ((k : Int) > 0) = true := by simp; omega
    have bk : decide (0 < k) = true := by simp; omega
    simp only [e0, b0, hin, ek, bk, hpr, hy, E3 hx, E3 hy, T1, J4, Bool.not_true, Bool.not_false, Bool.and_true, Bool.false_and, Bool.or_self, Bool.true_and, cond_true, cond_false, Option.bind_some, Bool.or_false, Bool.and_false, Bool.false_or]
    by_cases hxy : x = IntKind.i64.wrap (0 - y)
    ·have e1 : decide (x = IntKind.i64.wrap (0 - y)) = true := by simpa using hxy
     have b1 : (x == IntKind.i64.wrap (0 - y)) = true := by simpa using hxy
     simp only [e1, b1, if_true, Bool.not_true, Bool.false_and, Bool.false_eq_true, if_false, cond_true, cond_false]
    ·have e1 : decide (x = IntKind.i64.wrap (0 - y)) = false := by simpa using hxy
     have b1 : (x == IntKind.i64.wrap (0 - y)) = false := by simpa using hxy
     simp only [e1, b1, Bool.false_eq_true, if_false, Bool.not_false, Bool.true_and]
theorem w04 (r : Int) (w : List Int) (hl : w.length ≤ 140737488355328) : i9 r w = some (Y2 r w) := by
 unfold i9
 have h := V03 r w hl w.length 0 Q0 (by omega) (Y0 hl)
 rw [show ((0 : Nat) : Int) = 0 from rfl] at h
 rw [h, f02]
 unfold Y2
 by_cases hr : inR 1 3 r = true
 ·have : IntKind.i64.wrap (0 - r) = -r := by
   simp only [inR, Bool.and_eq_true, decide_eq_true_eq] at hr
   rw [w64 (by omega) (by omega)]; omega
  rw [this, hr]
  cases H01 (-r) r w w.length 0 <;> simp [V6] <;> omega
 ·simp only [Bool.not_eq_true] at hr
  rw [hr]
  cases H01 (IntKind.i64.wrap (0 - r)) r w w.length 0 <;> simp [V6]
theorem N0g (r x : Int) (hr : inR 1 3 r = true) : M9 r x = some (!(x == 0) && inR (-r) r x) := by
 have hn : IntKind.i64.wrap (0 - r) = -r := by
  simp only [inR, Bool.and_eq_true, decide_eq_true_eq] at hr
  rw [w64 (by omega) (by omega)]; omega
 unfold M9
 rw [hn, Y01]
 by_cases h0 : x = 0
 ·simp [h0, chk]
 ·simp [h0, chk]
theorem O07 (y x : Int) : P7 y x = some (!(y == 0) && !(y == -9223372036854775808) && (x == IntKind.i64.wrap (0 - y))) := by
 unfold P7
 by_cases h0 : y = 0
 ·simp [h0]
 ·by_cases h1 : y = -9223372036854775808
  ·simp [h1]
  ·simp only [h0, h1, decide_false, Bool.not_false, cond_true, Option.some.injEq]
   have b2 : (y == 0) = false := by simpa using h0
   have b3 : (y == -9223372036854775808) = false := by simpa using h1
   rw [b2, b3]
   rfl
theorem W03 (r : Int) (w : List Int) (hr : inR 1 3 r = true) (hl : w.length ≤ 140737488355328) : ∀ (d k fuel : Nat), k + d = w.length → d < fuel →
  (∀ i, i < k → h03 (-r) r w i = false) →
  Y6 w r fuel (k : Int) = some (bif H01 (-r) r w d k then .inr () else .inl false)
 | d, k, 0, hk, hf, hp => by omega
 | 0, k, fuel + 1, hk, hf, hp => by
  rw [Y6.eq_2, if_neg (by simp; omega)]
  simp [H01]
 | d + 1, k, fuel + 1, hk, hf, hp => by
  have hkl : k < w.length := by omega
  have hx := N5 hkl
  generalize w[k] = x at hx
  have next := fun (hb : h03 (-r) r w k = false) => W03 r w hr hl d (k + 1) fuel (by omega) (by omega) (fun i hi => by
   by_cases e : i = k
   ·subst e; exact hb
   ·exact hp i (by omega))
  rw [Y6.eq_2, if_pos (by simp; omega)]
  rw [E3 hx, Option.bind_some, N0g r x hr, j2 hkl (by omega : w.length ≤ 9223372036854775807)]
  have hbad : h03 (-r) r w k = (x == 0 || !inR (-r) r x || (decide (0 < k) && match w[k - 1]? with
   | none => true
   | some y => x == IntKind.i64.wrap (0 - y))) := by unfold h03; rw [hx]
  simp only [H01]
  by_cases h0 : x = 0
  ·simp [h0, chk, hbad]
  have b0 : (x == 0) = false := by simpa using h0
  cases hin : inR (-r) r x with
  | false => simp [b0, hin, chk, hbad]
  | true =>
   by_cases hk0 : k = 0
   ·have hb : h03 (-r) r w k = false := by rw [hbad]; simp [h0, hin, hk0]
    rw [next hb, hb]
    have ek : decide ((k : Int) > 0) = false := by simp; omega
    simp only [b0, ek, T1, J4, Bool.not_true, Bool.not_false, Bool.and_true, Bool.false_and, Bool.or_self, Bool.true_and, cond_true, cond_false, Option.bind_some, Bool.or_false, Bool.and_false, Bool.false_eq_true, if_false, cond_true, cond_false]
   ·have hy := N5 (show k - 1 < w.length by omega)
    have hpy := hp (k - 1) (by omega)
    generalize w[k - 1] = y at hy
    have hy0 : y ≠ 0 ∧ y ≠ -9223372036854775808 := by
     unfold h03 at hpy
     rw [hy] at hpy
     simp only [Bool.or_eq_false_iff, Bool.not_eq_false'] at hpy
     have h1 := hpy.1.2
     simp only [inR, Bool.and_eq_true, decide_eq_true_eq] at h1 hr
     exact ⟨by simpa using hpy.1.1, by omega⟩
    have b2 : (y == 0) = false := by simpa using hy0.1
    have b3 : (y == -9223372036854775808) = false := by simpa using hy0.2
    have hpr : IntKind.i64.wrap ((k : Int) - 1) = ((k - 1 : Nat) : Int) := L09 (by omega) (by omega)
    have ek : decide ((k : Int) > 0) = true := by simp; omega
    have bk : decide (0 < k) = true := by simp; omega
    simp only [b0, ek, hpr, E3 hy, O07, b2, b3, T1, J4, Bool.not_true, Bool.not_false, Bool.and_true, Bool.false_and, Bool.or_self, Bool.true_and, cond_true, cond_false, Option.bind_some, Bool.or_false, Bool.and_false, Bool.false_or]
    cases b1 : (x == IntKind.i64.wrap (0 - y)) with
    | true =>
     have hb : h03 (-r) r w k = true := by rw [hbad, hy, bk, b0, hin]; exact b1
     simp only [hb, if_true, Bool.not_true, Bool.false_and, Bool.false_eq_true, if_false, cond_true, cond_false]
    | false =>
     have hb : h03 (-r) r w k = false := by rw [hbad, hy, bk, b0, hin]; exact b1
     simp only [hb, next hb, Bool.false_eq_true, if_false, Bool.not_false, Bool.true_and]
theorem x04 (r : Int) (w : List Int) (hl : w.length ≤ 140737488355328) : j9 r w = some (Y2 r w) := by
 unfold j9
 rw [Y01]
 unfold Y2
 cases hr : inR 1 3 r with
 | false => simp
 | true =>
  by_cases h24 : w.length ≤ 24
  ·have h := W03 r w hr hl w.length 0 Q0 (by omega) (Y0 hl) (fun i hi => by omega)
   rw [show ((0 : Nat) : Int) = 0 from rfl] at h
   have h24' : ¬ (24 : Int) < (w.length : Int) := by omega
   simp only [Option.bind_some, h, h24']
   cases H01 (-r) r w w.length 0 <;> simp [V6, h24]
  ·have h24' : (24 : Int) < (w.length : Int) := by omega
   simp [h24, h24']
end Go.Proofs.YtfdlgbfeceodeaaGreat
namespace Go.Proofs.YtfdlgbfeceodeaaGreat
open Go.H
set_option linter.unusedVariables false
set_option linter.unusedSimpArgs false
def tot : List (List Int) → Nat
 | [] => 0
 | w :: r => w.length + tot r
theorem J1 {α : Type} {xs : List α} {k : Nat} {x : α} (h : xs[k]? = some x) : xs.drop k = x :: xs.drop (k + 1) := by
 obtain ⟨hk, rfl⟩ := List.getElem?_eq_some_iff.1 h
 exact List.drop_eq_getElem_cons hk
theorem D1 {α : Type} {xs : List α} {k : Nat} (h : k = xs.length) : xs.drop k = [] := by rw [h]; exact List.drop_length
theorem z01 (ws : List (List Int)) (hl : ws.length ≤ 140737488355328) : ∀ (d k fuel a : Nat), k + d = ws.length → d < fuel → a + tot (ws.drop k) ≤ 9223372036854775807 →
  L3 ws fuel (a : Int) (k : Int) = some ((a + tot (ws.drop k) : Nat) : Int)
 | d, k, 0, a, hk, hf, ht => by omega
 | 0, k, fuel + 1, a, hk, hf, ht => by
  rw [L3.eq_2, if_neg (by simp; omega), D1 (by omega)]
  rfl
 | d + 1, k, fuel + 1, a, hk, hf, ht => by
  have hkl : k < ws.length := by omega
  have hx := N5 hkl
  generalize ws[k] = x at hx
  rw [J1 hx] at ht ⊢
  simp only [tot] at ht ⊢
  rw [L3.eq_2, if_pos (by simp; omega), E3 hx, Option.bind_some, j2 hkl (by omega : ws.length ≤ 9223372036854775807),
   show IntKind.i64.wrap ((a : Int) + ((x.length : Nat) : Int)) = ((a + x.length : Nat) : Int) by rw [w64 (by omega) (by omega)]; omega,
   z01 ws hl d (k + 1) fuel (a + x.length) (by omega) (by omega) (by omega)]
  rw [Nat.add_assoc]
theorem i03 (ws : List (List Int)) (hl : ws.length ≤ 140737488355328) (ht : tot ws ≤ 9223372036854775807) : n7 ws = some ((tot ws : Nat) : Int) := by
 unfold n7
 have h := z01 ws hl ws.length 0 Q0 0 (by omega) (Y0 hl) (by simpa using ht)
 rw [show ((0 : Nat) : Int) = 0 from rfl] at h
 rw [h]
 simp
theorem f01 (ws : List (List Int)) : ∀ (fuel : Nat) (a k : Int), p5 ws fuel a k = L3 ws fuel a k
 | 0, a, k => rfl
 | fuel + 1, a, k => by
  rw [p5.eq_2, L3.eq_2]
  simp only [f01 ws fuel]
theorem P07 (ws : List (List Int)) (hl : ws.length ≤ 140737488355328) (ht : tot ws ≤ 9223372036854775807) : y8 ws = some ((tot ws : Nat) : Int) := by
 rw [← i03 ws hl ht]
 unfold y8 n7
 rw [f01]
def g06 (r : Int) : List (List Int) → Bool
 | [] => true
 | w :: l => Y2 r w && g06 r l
def Q3 (r : Int) (ws : List (List Int)) : Bool := inR 1 3 r && decide (ws.length ≤ 6) && g06 r ws && decide (tot ws < 40)
theorem o0b {r : Int} : ∀ {ws : List (List Int)}, g06 r ws = true → tot ws ≤ 24 * ws.length
 | [], _ => by simp [tot]
 | w :: l, h => by
  simp only [g06, Bool.and_eq_true] at h
  have h1 := h.1
  simp only [Y2, Bool.and_eq_true, decide_eq_true_eq] at h1
  have := o0b h.2
  simp only [tot, List.length_cons]
  omega
def J3 (ws : List (List Int)) : Prop := ∀ w ∈ ws, w.length ≤ 140737488355328
theorem K02 (r : Int) (ws : List (List Int)) (hl : ws.length ≤ 140737488355328) (hs : J3 ws) : ∀ (d k fuel : Nat), k + d = ws.length → d < fuel →
  P5 ws r fuel (k : Int) = some (bif g06 r (ws.drop k) then .inr () else .inl false)
 | d, k, 0, hk, hf => by omega
 | 0, k, fuel + 1, hk, hf => by
  rw [P5.eq_2, if_neg (by simp; omega), D1 (by omega)]
  rfl
 | d + 1, k, fuel + 1, hk, hf => by
  have hkl : k < ws.length := by omega
  have hx := N5 hkl
  have hsx := hs _ (List.mem_of_getElem? hx)
  generalize ws[k] = x at hx hsx
  rw [J1 hx, P5.eq_2, if_pos (by simp; omega), E3 hx, Option.bind_some, w04 r x hsx, Option.bind_some, j2 hkl (by omega : ws.length ≤ 9223372036854775807),
   K02 r ws hl hs d (k + 1) fuel (by omega) (by omega)]
  simp only [g06]
  cases Y2 r x <;> simp
theorem v05 (r : Int) (ws : List (List Int)) (hl : ws.length ≤ 140737488355328) (hs : J3 ws) : O8 r ws = some (Q3 r ws) := by
 unfold O8
 have h := K02 r ws hl hs ws.length 0 Q0 (by omega) (Y0 hl)
 rw [show ((0 : Nat) : Int) = 0 from rfl, List.drop_zero] at h
 rw [h, Option.bind_some]
 unfold Q3
 cases ha : g06 r ws with
 | false => simp [V6]
 | true =>
  rw [cond_true, T0, f02, Option.bind_some]
  have := o0b ha
  cases hr : inR 1 3 r with
  | false => simp [chk, grd, D0]
  | true =>
   by_cases h6 : ws.length ≤ 6
   ·rw [i03 ws hl (by omega)]
    have h6' : decide (((ws.length : Nat) : Int) ≤ 6) = true := by simp; omega
    have h6'' : decide (ws.length ≤ 6) = true := by simpa using h6
    rw [h6', h6'', cond_true, T1, Option.bind_some, J0 (by constructor <;> omega)]
    simp
    omega
   ·have h6' : decide (((ws.length : Nat) : Int) ≤ 6) = false := by simp; omega
    have h6'' : decide (ws.length ≤ 6) = false := by simpa using h6
    rw [h6', h6'']
    simp [chk, grd, D0]
theorem L02 (r : Int) (ws : List (List Int)) (hl : ws.length ≤ 140737488355328) (hs : J3 ws) : ∀ (d k fuel : Nat), k + d = ws.length → d < fuel →
  Q5 ws r fuel (k : Int) = some (bif g06 r (ws.drop k) then .inr () else .inl false)
 | d, k, 0, hk, hf => by omega
 | 0, k, fuel + 1, hk, hf => by
  rw [Q5.eq_2, if_neg (by simp; omega), D1 (by omega)]
  rfl
 | d + 1, k, fuel + 1, hk, hf => by
  have hkl : k < ws.length := by omega
  have hx := N5 hkl
  have hsx := hs _ (List.mem_of_getElem? hx)
  generalize ws[k] = x at hx hsx
  rw [J1 hx, Q5.eq_2, if_pos (by simp; omega), E3 hx, Option.bind_some, x04 r x hsx, Option.bind_some, j2 hkl (by omega : ws.length ≤ 9223372036854775807),
   L02 r ws hl hs d (k + 1) fuel (by omega) (by omega)]
  simp only [g06]
  cases Y2 r x <;> simp
theorem w05 (r : Int) (ws : List (List Int)) (hl : ws.length ≤ 140737488355328) (hs : J3 ws) : P8 r ws = some (Q3 r ws) := by
 unfold P8
 rw [Y01, Option.bind_some]
 unfold Q3
 cases hr : inR 1 3 r with
 | false => simp
 | true =>
  by_cases h6 : ws.length ≤ 6
  ·have h6' : decide (((ws.length : Nat) : Int) > 6) = false := by simp; omega
   have h6'' : decide (ws.length ≤ 6) = true := by simpa using h6
   have h := L02 r ws hl hs ws.length 0 Q0 (by omega) (Y0 hl)
   rw [show ((0 : Nat) : Int) = 0 from rfl, List.drop_zero] at h
   rw [h6', h6'', h, Option.bind_some]
   cases ha : g06 r ws with
   | false => simp [V6]
   | true =>
    have := o0b ha
    simp only [cond_true, T0, P07 ws hl (by omega), Option.bind_some, J0 (show D0 ((tot ws : Nat) : Int) by constructor <;> omega)]
    simp
    omega
  ·have h6' : decide (((ws.length : Nat) : Int) > 6) = true := by simp; omega
   have h6'' : decide (ws.length ≤ 6) = false := by simpa using h6
   rw [h6', h6'']
   simp
def cyc (w : List Int) : Bool := match w[0]?, w[w.length - 1]? with
 | some x, some y => !(x == IntKind.i64.wrap (0 - y))
 | _, _ => false
def m0f : List (List Int) → Bool
 | [] => true
 | w :: l => cyc w && m0f l
def B4 (x : F0) : Bool := Q3 x.1 x.2 && m0f x.2
theorem Q00 (ws : List (List Int)) (hl : ws.length ≤ 140737488355328) (hs : J3 ws) : ∀ (d k fuel : Nat), k + d = ws.length → d < fuel →
  T3 ws fuel (k : Int) = some (bif m0f (ws.drop k) then .inr () else .inl false)
 | d, k, 0, hk, hf => by omega
 | 0, k, fuel + 1, hk, hf => by
  rw [T3.eq_2, if_neg (by simp; omega), D1 (by omega)]
  rfl
 | d + 1, k, fuel + 1, hk, hf => by
  have hkl : k < ws.length := by omega
  have hx := N5 hkl
  have hsx := hs _ (List.mem_of_getElem? hx)
  generalize ws[k] = x at hx hsx
  rw [J1 hx, T3.eq_2, if_pos (by simp; omega), E3 hx, Option.bind_some, j2 hkl (by omega : ws.length ≤ 9223372036854775807),
   Q00 ws hl hs d (k + 1) fuel (by omega) (by omega)]
  simp only [m0f]
  by_cases h0 : x.length = 0
  ·have : x = [] := List.length_eq_zero_iff.1 h0
   subst this
   simp [chk, cyc]
  ·have e0 : decide (((x.length : Nat) : Int) = 0) = false := by simpa using h0
   have h1 := N5 (show 0 < x.length by omega)
   have h2 := N5 (show x.length - 1 < x.length by omega)
   have hc : cyc x = !(x[0] == IntKind.i64.wrap (0 - x[x.length - 1])) := by unfold cyc; rw [h1, h2]
   generalize x[0] = a at h1 hc
   generalize x[x.length - 1] = b at h2 hc
   rw [e0, L09 (by omega) (by omega), u05 h1, E3 h2, hc]
   simp only [Bool.not_false, T1, Option.bind_some, cond_false]
   cases hab : (a == IntKind.i64.wrap (0 - b)) with
   | true => rw [if_pos (by simpa using hab)]; rfl
   | false => rw [if_neg (by simpa using hab)]; simp
theorem Y8 (x : F0) (hl : x.2.length ≤ 140737488355328) (hs : J3 x.2) : c5 x = some (B4 x) := by
 obtain ⟨r, ws⟩ := x
 unfold c5
 have h := Q00 ws hl hs ws.length 0 Q0 (by omega) (Y0 hl)
 rw [show ((0 : Nat) : Int) = 0 from rfl, List.drop_zero] at h
 simp only [h, Option.bind_some, v05 r ws hl hs, B4]
 cases m0f ws <;> simp [V6]
theorem T08 {lo hi : Int} {w : List Int} : ∀ {d k : Nat}, H01 lo hi w d k = true → ∀ i, k ≤ i → i < k + d → h03 lo hi w i = false
 | 0, k, h, i, h1, h2 => by omega
 | d + 1, k, h, i, h1, h2 => by
  simp only [H01, Bool.and_eq_true, Bool.not_eq_true'] at h
  by_cases e : i = k
  ·subst e; exact h.1
  ·exact T08 h.2 i (by omega) (by omega)
theorem j03 {r : Int} {w : List Int} (h : Y2 r w = true) {i : Nat} {x : Int} (hx : w[i]? = some x) : (1 ≤ r ∧ r ≤ 3) ∧ w.length ≤ 24 ∧ x ≠ 0 ∧ -r ≤ x ∧ x ≤ r := by
 simp only [Y2, Bool.and_eq_true, decide_eq_true_eq] at h
 have hr := h.1.1
 simp only [inR, Bool.and_eq_true, decide_eq_true_eq] at hr
 have hb := T08 h.2 i (Nat.zero_le _) (by have := (List.getElem?_eq_some_iff.1 hx).1; omega)
 unfold h03 at hb
 rw [hx] at hb
 simp only [Bool.or_eq_false_iff, Bool.not_eq_false'] at hb
 have h1 := hb.1.2
 simp only [inR, Bool.and_eq_true, decide_eq_true_eq] at h1
 exact ⟨hr, h.1.2, by simpa using hb.1.1, h1⟩
theorem R00 (ws : List (List Int)) (hl : ws.length ≤ 140737488355328) (hs : J3 ws) (r : Int) (ha : inR 1 3 r = true) : ∀ (d k fuel : Nat), k + d = ws.length → d < fuel → g06 r (ws.drop k) = true →
  U3 ws fuel (k : Int) = some (bif m0f (ws.drop k) then .inr () else .inl false)
 | d, k, 0, hk, hf, hw => by omega
 | 0, k, fuel + 1, hk, hf, hw => by
  rw [U3.eq_2, if_neg (by simp; omega), D1 (by omega)]
  rfl
 | d + 1, k, fuel + 1, hk, hf, hw => by
  have hkl : k < ws.length := by omega
  have hx := N5 hkl
  have hsx := hs _ (List.mem_of_getElem? hx)
  generalize ws[k] = x at hx hsx
  rw [J1 hx] at hw ⊢
  simp only [g06, Bool.and_eq_true] at hw
  rw [U3.eq_2, if_pos (by simp; omega), E3 hx, Option.bind_some, j2 hkl (by omega : ws.length ≤ 9223372036854775807),
   R00 ws hl hs r ha d (k + 1) fuel (by omega) (by omega) hw.2]
  simp only [m0f]
  by_cases h0 : x.length = 0
  ·have : x = [] := List.length_eq_zero_iff.1 h0
   subst this
   simp [chk, cyc]
  ·have e0 : decide (((x.length : Nat) : Int) = 0) = false := by simpa using h0
   have h1 := N5 (show 0 < x.length by omega)
   have h2 := N5 (show x.length - 1 < x.length by omega)
   have hc : cyc x = !(x[0] == IntKind.i64.wrap (0 - x[x.length - 1])) := by unfold cyc; rw [h1, h2]
   generalize x[0] = a at h1 hc
   generalize x[x.length - 1] = b at h2 hc
   obtain ⟨hr1, _, a1, a2, a3⟩ := j03 hw.1 h1
   obtain ⟨_, _, b1, b2, b3⟩ := j03 hw.1 h2
   have na : IntKind.i64.wrap (0 - a) = -a := by rw [w64 (by omega) (by omega)]; omega
   have nb : IntKind.i64.wrap (0 - b) = -b := by rw [w64 (by omega) (by omega)]; omega
   rw [e0, L09 (by omega) (by omega), u05 h1, E3 h2, hc]
   simp only [Bool.not_false, T1, Option.bind_some, cond_false, O07, na, nb]
   have q1 : (a == 0) = false := by simpa using a1
   have q2 : (a == -9223372036854775808) = false := by simp; omega
   rw [q1, q2]
   simp only [Bool.not_false, Bool.true_and]
   by_cases hab : a = -b
   ·have e1 : (b == -a) = true := by simp; omega
    have e2 : (a == -b) = true := by simp; omega
    rw [e1, e2]; rfl
   ·have e1 : (b == -a) = false := by simp; omega
    have e2 : (a == -b) = false := by simp; omega
    rw [e1, e2]; simp
theorem v00 (x : F0) (hl : x.2.length ≤ 140737488355328) (hs : J3 x.2) : d5 x = some (B4 x) := by
 obtain ⟨r, ws⟩ := x
 unfold d5
 simp only [w05 r ws hl hs, B4, Option.bind_some]
 cases ha : Q3 r ws with
 | false => simp
 | true =>
  simp only [Q3, Bool.and_eq_true] at ha
  have h := R00 ws hl hs r ha.1.1.1 ws.length 0 Q0 (by omega) (Y0 hl) (by rw [List.drop_zero]; exact ha.1.2)
  rw [show ((0 : Nat) : Int) = 0 from rfl, List.drop_zero] at h
  rw [h]
  cases m0f ws <;> simp [V6]
end Go.Proofs.YtfdlgbfeceodeaaGreat
namespace Go.Proofs.YtfdlgbfeceodeaaGreat
open Go.H
set_option linter.unusedVariables false
set_option linter.unusedSimpArgs false
def g02 (r hi : Int) (e : C0) : Bool := inR 0 hi e.1 && inR 0 hi e.2.2 && inR 1 r e.2.1
def p0b (e f : C0) : Int := H0 e f
theorem q0b (e f : C0) : p0b e f = if O7 e.1 f.1 ≠ 0 then O7 e.1 f.1 else if O7 e.2.1 f.2.1 ≠ 0 then O7 e.2.1 f.2.1 else O7 e.2.2 f.2.2 := rfl
theorem y04 (a b : Int) : (a < b ∧ O7 a b = -1) ∨ (a > b ∧ O7 a b = 1) ∨ (a = b ∧ O7 a b = 0) := by
 unfold O7
 split
 ·omega
 ·split <;> omega
theorem t0a (e f : C0) : D0 (p0b e f) := by
 rw [q0b]
 split
 ·exact W0d _ _
 ·split <;> exact W0d _ _
theorem n0f (g : l0) (e : C0) : a00 g e = some (g02 g.1 (IntKind.i64.wrap (g.2.1 - 1)) e) := by
 obtain ⟨r, n, es⟩ := g
 obtain ⟨a, l, b⟩ := e
 unfold a00 g02
 simp only [f02, Option.bind_some]
 cases inR 0 (IntKind.i64.wrap (n - 1)) a with
 | false => rfl
 | true =>
  cases inR 0 (IntKind.i64.wrap (n - 1)) b with
  | false => rfl
  | true => simp [chk]
theorem J04 (g : l0) (e : C0) : s6 g e = some (g02 g.1 (IntKind.i64.wrap (g.2.1 - 1)) e) := by
 obtain ⟨r, n, es⟩ := g
 obtain ⟨a, l, b⟩ := e
 unfold s6 G5 g02
 simp only [Y01, Option.bind_some]
 cases inR 0 (IntKind.i64.wrap (n - 1)) a with
 | false => rfl
 | true =>
  cases inR 0 (IntKind.i64.wrap (n - 1)) b with
  | false => rfl
  | true => simp [chk]
theorem a01 (e f : C0) : S6 e f = some (p0b e f) := by
 obtain ⟨a, l, b⟩ := e
 obtain ⟨a', l', b'⟩ := f
 unfold S6
 rw [show Q0 = (Q0 - 4) + 1 + 1 + 1 + 1 from rfl]
 have w1 : IntKind.i64.wrap (0 + 1) = 1 := by decide
 have w2 : IntKind.i64.wrap (1 + 1) = 2 := by decide
 have w3 : IntKind.i64.wrap (2 + 1) = 3 := by decide
 have g0 : ∀ x y z : Int, gi [x, y, z] 0 = some x := fun _ _ _ => rfl
 have g1 : ∀ x y z : Int, gi [x, y, z] 1 = some y := fun _ _ _ => rfl
 have g2 : ∀ x y z : Int, gi [x, y, z] 2 = some z := fun _ _ _ => rfl
 have d0 : decide ((0 : Int) < 3) = true := rfl
 have d1 : decide ((1 : Int) < 3) = true := rfl
 have d2 : decide ((2 : Int) < 3) = true := rfl
 have d3 : decide ((3 : Int) < 3) = false := rfl
 simp only [Y5.eq_2, w1, w2, w3, g0, g1, g2, d0, d1, d2, d3, if_true, Option.bind_some, Bool.false_eq_true, if_false]
 rw [q0b]
 simp only
 rcases y04 a a' with ⟨h, e⟩ | ⟨h, e⟩ | ⟨h, e⟩
 ·simp [e, h, V6]
 ·have : ¬ a < a' := by omega
  simp [e, h, this, V6]
 ·subst h
  rcases y04 l l' with ⟨h, e2⟩ | ⟨h, e2⟩ | ⟨h, e2⟩
  ·simp [e, e2, h, V6]
  ·have : ¬ l < l' := by omega
   simp [e, e2, h, this, V6]
  ·subst h
   rcases y04 b b' with ⟨h, e3⟩ | ⟨h, e3⟩ | ⟨h, e3⟩
   ·simp [e, e2, e3, h, V6]
   ·have : ¬ b < b' := by omega
    simp [e, e2, e3, h, this, V6]
   ·subst h
    simp [e, e2, e3, V6]
theorem R0i (a b : Int) : o6 a b = some (O7 a b) := by
 unfold o6 O7
 by_cases h : a < b
 ·simp [h]
 ·by_cases h2 : a > b <;> simp [h, h2]
theorem M02 (e f : C0) : W7 e f = some (p0b e f) := by
 obtain ⟨a, l, b⟩ := e
 obtain ⟨a', l', b'⟩ := f
 rw [q0b]
 unfold W7
 simp only [R0i, Option.bind_some, J0 (W0d _ _)]
 by_cases h1 : O7 a a' = 0
 ·by_cases h2 : O7 l l' = 0
  ·simp [h1, h2]
  ·simp [h1, h2]
 ·simp [h1]
def c0k (r hi : Int) (es : List C0) (k : Nat) : Bool := match es[k]? with
 | none => true
 | some e => !g02 r hi e || (decide (0 < k) && match es[k - 1]? with
  | none => true
  | some f => decide (p0b f e ≥ 0))
def okE (r hi : Int) (es : List C0) : Nat → Nat → Bool
 | 0, _ => true
 | d + 1, k => !c0k r hi es k && okE r hi es d (k + 1)
def O0 (g : l0) : Bool := okE g.1 (IntKind.i64.wrap (g.2.1 - 1)) g.2.2 g.2.2.length 0 && inR 1 3 g.1 && inR 1 40 g.2.1 && decide (g.2.2.length ≤ 120)
theorem Q07 {r hi : Int} {es : List C0} {k : Nat} {e : C0} (hx : es[k]? = some e) : c0k r hi es k = (!g02 r hi e || (decide (0 < k) && match es[k - 1]? with
  | none => true
  | some f => decide (p0b f e ≥ 0))) := by unfold c0k; rw [hx]
theorem k03 (r n : Int) (es : List C0) (hl : es.length ≤ 140737488355328) : ∀ (d k fuel : Nat), k + d = es.length → d < fuel →
  r6 es r n fuel (k : Int) = some (bif okE r (IntKind.i64.wrap (n - 1)) es d k then .inr () else .inl false)
 | d, k, 0, hk, hf => by omega
 | 0, k, fuel + 1, hk, hf => by
  rw [r6.eq_2, if_neg (by simp; omega)]
  simp [okE]
 | d + 1, k, fuel + 1, hk, hf => by
  have hkl : k < es.length := by omega
  have hx := N5 hkl
  generalize es[k] = e at hx
  obtain ⟨e0, e1, e2⟩ := e
  have next := k03 r n es hl d (k + 1) fuel (by omega) (by omega)
  rw [r6.eq_2, if_pos (by simp; omega), E3 hx, Option.bind_some]
  simp only [n0f, Option.bind_some, j2 hkl (by omega : es.length ≤ 9223372036854775807), next, okE, Q07 hx]
  generalize IntKind.i64.wrap (n - 1) = hi
  cases hin : g02 r hi (e0, e1, e2) with
  | false => simp [chk, grd, D0]
  | true =>
   by_cases hk0 : k = 0
   ·have ek : decide ((k : Int) > 0) = false := by simp; omega
    have bk : decide (0 < k) = false := by simp; omega
    simp only [ek, bk, J4, Bool.not_true, Bool.not_false, Bool.and_true, Bool.false_and, Bool.or_self, Bool.true_and, cond_true, cond_false, Option.bind_some, Bool.or_false, Bool.false_eq_true, if_false, J0 (show D0 0 by decide)]
   ·have hy := N5 (show k - 1 < es.length by omega)
    generalize es[k - 1] = f at hy
    obtain ⟨f0, f1, f2⟩ := f
    have hpr : IntKind.i64.wrap ((k : Int) - 1) = ((k - 1 : Nat) : Int) := L09 (by omega) (by omega)
    have ek : decide ((k : Int) > 0) = true := by simp; omega
    have bk : decide (0 < k) = true := by simp; omega
    simp only [ek, bk, hpr, hy, E3 hx, E3 hy, T1, Bool.not_true, Bool.not_false, Bool.and_true, Bool.false_and, Bool.or_self, Bool.true_and, cond_true, cond_false, Option.bind_some, Bool.or_false, Bool.false_or, a01, J0 (t0a _ _)]
    cases decide (p0b (f0, f1, f2) (e0, e1, e2) ≥ 0) <;> rfl
theorem i6 (g : l0) (hl : g.2.2.length ≤ 140737488355328) : O3 g = some (O0 g) := by
 obtain ⟨r, n, es⟩ := g
 unfold O3 O0
 simp only at hl ⊢
 have h := k03 r n es hl es.length 0 Q0 (by omega) (Y0 hl)
 rw [show ((0 : Nat) : Int) = 0 from rfl] at h
 rw [h, Option.bind_some]
 cases okE r (IntKind.i64.wrap (n - 1)) es es.length 0 with
 | false => simp [V6]
 | true =>
  rw [cond_true, T0, f02, f02, Option.bind_some]
  cases inR 1 3 r with
  | false => simp [chk]
  | true =>
   simp only [T1, Option.bind_some, cond_true, Bool.true_and]
   cases inR 1 40 n with
   | false => simp
   | true => simp; omega
theorem l03 (r n : Int) (es : List C0) (hl : es.length ≤ 140737488355328) : ∀ (d k fuel : Nat), k + d = es.length → d < fuel →
  t6 es r n fuel (k : Int) = some (bif okE r (IntKind.i64.wrap (n - 1)) es d k then .inr () else .inl false)
 | d, k, 0, hk, hf => by omega
 | 0, k, fuel + 1, hk, hf => by
  rw [t6.eq_2, if_neg (by simp; omega)]
  simp [okE]
 | d + 1, k, fuel + 1, hk, hf => by
  have hkl : k < es.length := by omega
  have hx := N5 hkl
  generalize es[k] = e at hx
  obtain ⟨e0, e1, e2⟩ := e
  have next := l03 r n es hl d (k + 1) fuel (by omega) (by omega)
  rw [t6.eq_2, if_pos (by simp; omega), E3 hx, Option.bind_some]
  simp only [J04, Option.bind_some, j2 hkl (by omega : es.length ≤ 9223372036854775807), next, okE, Q07 hx]
  generalize IntKind.i64.wrap (n - 1) = hi
  cases hin : g02 r hi (e0, e1, e2) with
  | false => simp [chk, grd, D0]
  | true =>
   by_cases hk0 : k = 0
   ·have ek : decide ((k : Int) > 0) = false := by simp; omega
    have bk : decide (0 < k) = false := by simp; omega
    simp only [ek, bk, J4, Bool.not_true, Bool.not_false, Bool.and_true, Bool.false_and, Bool.or_self, Bool.true_and, cond_true, cond_false, Option.bind_some, Bool.or_false, Bool.false_eq_true, if_false, J0 (show D0 0 by decide)]
   ·have hy := N5 (show k - 1 < es.length by omega)
    generalize es[k - 1] = f at hy
    obtain ⟨f0, f1, f2⟩ := f
    have hpr : IntKind.i64.wrap ((k : Int) - 1) = ((k - 1 : Nat) : Int) := L09 (by omega) (by omega)
    have ek : decide ((k : Int) > 0) = true := by simp; omega
    have bk : decide (0 < k) = true := by simp; omega
    simp only [ek, bk, hpr, hy, E3 hx, E3 hy, T1, Bool.not_true, Bool.not_false, Bool.and_true, Bool.false_and, Bool.or_self, Bool.true_and, cond_true, cond_false, Option.bind_some, Bool.or_false, Bool.false_or, M02, J0 (t0a _ _)]
    cases decide (p0b (f0, f1, f2) (e0, e1, e2) ≥ 0) <;> rfl
theorem l9 (g : l0) (hl : g.2.2.length ≤ 140737488355328) : s5 g = some (O0 g) := by
 obtain ⟨r, n, es⟩ := g
 unfold s5 O0
 simp only at hl ⊢
 rw [Y01, Y01, Option.bind_some]
 cases hr : inR 1 3 r with
 | false => simp [chk]
 | true =>
  simp only [Bool.not_true, Bool.not_false, T1, Option.bind_some, cond_false]
  cases hn : inR 1 40 n with
  | false => simp
  | true =>
   by_cases h120 : es.length ≤ 120
   ·have h := l03 r n es hl es.length 0 Q0 (by omega) (Y0 hl)
    rw [show ((0 : Nat) : Int) = 0 from rfl] at h
    have e1 : decide (((es.length : Nat) : Int) > 120) = false := by simp; omega
    have e2 : decide (es.length ≤ 120) = true := by simpa using h120
    simp only [e1, e2, Bool.not_true, cond_false, Bool.false_eq_true, if_false, h, Option.bind_some]
    cases okE r (IntKind.i64.wrap (n - 1)) es es.length 0 <;> rfl
   ·have e1 : decide (((es.length : Nat) : Int) > 120) = true := by simp; omega
    have e2 : decide (es.length ≤ 120) = false := by simpa using h120
    simp only [e1, e2, Bool.not_true, cond_false, if_true, Bool.and_false]
theorem O0g {r hi : Int} {es : List C0} : ∀ {d k : Nat}, okE r hi es d k = true → ∀ i, k ≤ i → i < k + d → c0k r hi es i = false
 | 0, k, h, i, h1, h2 => by omega
 | d + 1, k, h, i, h1, h2 => by
  simp only [okE, Bool.and_eq_true, Bool.not_eq_true'] at h
  by_cases e : i = k
  ·subst e; exact h.1
  ·exact O0g h.2 i (by omega) (by omega)
end Go.Proofs.YtfdlgbfeceodeaaGreat
namespace Go.Proofs.YtfdlgbfeceodeaaGreat
open Go.H
set_option linter.unusedVariables false
set_option linter.unusedSimpArgs false
theorem o0f {n : Nat} (h : n ≤ 9223372036854775807) : n < Q0 := by unfold Q0; omega
def goI (x : Int) : List Int → Bool × List Int
 | [] => (false, [])
 | y :: l => if x < y then (true, x :: y :: l) else if y = x then (true, y :: l) else ((goI x l).1, y :: (goI x l).2)
theorem P0h (x : Int) : ∀ l, g9 O7 x l = bif (goI x l).1 then (goI x l).2 else (goI x l).2 ++ [x]
 | [] => rfl
 | y :: l => by
  have ih := P0h x l
  unfold g9 goI
  rcases y04 x y with ⟨h, e⟩ | ⟨h, e⟩ | ⟨h, e⟩
  ·rw [e, if_pos (by omega), if_pos h]; rfl
  ·rw [e, if_neg (by omega), if_neg (by omega), if_neg (by omega), if_neg (by omega), ih]
   cases (goI x l).1 <;> rfl
  ·rw [e, if_neg (by omega), if_pos rfl, if_neg (by omega), if_pos h.symm]; rfl
theorem r0b (l : List Int) (w : Int) (hl : l.length ≤ 1099511627776) : ∀ (d k fuel : Nat) (acc : List Int), k + d = l.length → d < fuel → acc.length ≤ k + 1 →
  Z3 l w fuel true (k : Int) acc = some (true, acc ++ l.drop k)
 | d, k, 0, acc, hd, hf, ha => by omega
 | 0, k, fuel + 1, acc, hd, hf, ha => by
  rw [Z3.eq_2, if_neg (by simp; omega), D1 (by omega), List.append_nil]
 | d + 1, k, fuel + 1, acc, hd, hf, ha => by
  have hk : k < l.length := by omega
  have hx := N5 hk
  generalize l[k] = x at hx
  have ih := r0b l w hl d (k + 1) fuel (acc ++ [x]) (by omega) (by omega) (by simp; omega)
  rw [Z3.eq_2, if_pos (by simp; omega), E3 hx, Option.bind_some]
  have hb : ∀ c : Bool, (bif c then (!true) else false) = false := fun c => by cases c <;> rfl
  simp only [hb, Bool.false_eq_true, if_false, Option.bind_some, j2 hk (show l.length ≤ 9223372036854775807 by omega), ih, J0 (show (acc.length + [x].length) * 8 ≤ 140737488355328 by simp; omega)]
  rw [J1 hx]
  split <;> simp
theorem Q0c (l : List Int) (w : Int) (hl : l.length ≤ 1099511627776) : ∀ (d k fuel : Nat) (acc : List Int), k + d = l.length → d < fuel → acc.length = k →
  Z3 l w fuel false (k : Int) acc = some ((goI w (l.drop k)).1, acc ++ (goI w (l.drop k)).2)
 | d, k, 0, acc, hd, hf, ha => by omega
 | 0, k, fuel + 1, acc, hd, hf, ha => by
  rw [Z3.eq_2, if_neg (by simp; omega), D1 (by omega)]
  simp [goI]
 | d + 1, k, fuel + 1, acc, hd, hf, ha => by
  have hk : k < l.length := by omega
  have hx := N5 hk
  generalize l[k] = x at hx
  have ih := Q0c l w hl d (k + 1) fuel (acc ++ [x]) (by omega) (by omega) (by simp; omega)
  have on1 := r0b l w hl d (k + 1) fuel (acc ++ [x]) (by omega) (by omega) (by simp; omega)
  have on2 := r0b l w hl d (k + 1) fuel (acc ++ [w] ++ [x]) (by omega) (by omega) (by simp; omega)
  rw [Z3.eq_2, if_pos (by simp; omega), E3 hx, Option.bind_some, J1 hx]
  unfold goI
  have hb : ∀ c : Bool, (bif c then (!true) else false) = false := fun c => by cases c <;> rfl
  have hb2 : ∀ c : Bool, (bif c then (!false) else false) = c := fun c => by cases c <;> rfl
  by_cases h0 : x = w
  ·rw [if_pos (by simpa using h0), Option.bind_some, hb, if_neg (by simp), Option.bind_some, J0 (by simp; omega), Option.bind_some, j2 hk (by omega), on1, if_neg (by omega), if_pos h0]
   simp
  ·rw [if_neg (by simpa using h0), Option.bind_some, hb2]
   by_cases h1 : w < x
   ·rw [if_pos (by simpa using h1), J0 (by simp; omega), Option.bind_some, Option.bind_some, J0 (by simp; omega), Option.bind_some, j2 hk (by omega), on2, if_pos h1]
    simp
   ·rw [if_neg (by simpa using h1), Option.bind_some, J0 (by simp; omega), Option.bind_some, j2 hk (by omega), ih, if_neg h1, if_neg h0]
    simp
theorem R07 (l : List Int) (w : Int) (hl : l.length ≤ 1099511627776) : A7 l w = some (g9 O7 w l) := by
 unfold A7
 have h := Q0c l w hl l.length 0 Q0 [] (by omega) (Y0 (by omega)) rfl
 rw [show ((0 : Nat) : Int) = 0 from rfl, List.drop_zero, List.nil_append] at h
 rw [h, Option.bind_some, P0h]
 have hlen : ∀ l : List Int, (goI w l).2.length ≤ l.length + 1 := fun l => by
  induction l with
  | nil => simp [goI]
  | cons y l ih =>
   unfold goI
   split
   ·simp
   ·split
    ·simp
    ·simp only [List.length_cons]; omega
 have := hlen l
 cases (goI w l).1 with
 | true => rfl
 | false =>
  simp only [Bool.not_false, if_true, cond_false]
  rw [J0 (by simp; omega), Option.bind_some]
def R0c (v x : Int) (e : C0) : List Int :=
 if 0 < x ∧ e.2.1 = x ∧ e.1 = v then [e.2.2] else if x < 0 ∧ e.2.1 = -x ∧ e.2.2 = v then [e.1] else []
def C8 (v x : Int) : List C0 → List Int
 | [] => []
 | e :: es => R0c v x e ++ C8 v x es
theorem S0i (v x : Int) (e : C0) : (R0c v x e).length ≤ 1 := by unfold R0c; split <;> (try split) <;> simp
theorem s0b (v x : Int) : ∀ es, (C8 v x es).length ≤ es.length
 | [] => by simp [C8]
 | e :: es => by
  have h1 := S0i v x e
  have h2 := s0b v x es
  simp only [C8, List.length_append, List.length_cons]
  omega
def K7 (x : Int) : Prop := D0 x ∧ x ≠ -9223372036854775808
theorem S07 (es : List C0) (v x : Int) (hx : K7 x) (hl : es.length ≤ 1099511627776) : ∀ (d k fuel : Nat) (acc : List Int), k + d = es.length → d < fuel → acc.length ≤ k →
  j4 es x v fuel (k : Int) acc = some (acc ++ C8 v x (es.drop k))
 | d, k, 0, acc, hd, hf, ha => by omega
 | 0, k, fuel + 1, acc, hd, hf, ha => by
  rw [j4.eq_2, if_neg (by simp; omega), D1 (by omega)]
  simp [C8]
 | d + 1, k, fuel + 1, acc, hd, hf, ha => by
  have hk : k < es.length := by omega
  have he := N5 hk
  generalize es[k] = e at he
  obtain ⟨a, l, b⟩ := e
  have ih := fun acc' h => S07 es v x hx hl d (k + 1) fuel acc' (by omega) (by omega) h
  have hn : decide (x = -9223372036854775808) = false := by simp; exact hx.2
  rw [j4.eq_2, if_pos (by simp; omega), E3 he, Option.bind_some, J1 he]
  simp only [C8, R0c, l0f hx.1 hx.2, hn, Bool.not_false, j2 hk (show es.length ≤ 9223372036854775807 by omega)]
  by_cases c1 : 0 < x ∧ l = x ∧ a = v
  ·obtain ⟨c1, rfl, rfl⟩ := c1
   rw [if_pos (by simp [c1]), if_pos ⟨c1, rfl, rfl⟩, J0 (by simp; omega), Option.bind_some, ih _ (by simp; omega)]
   simp
  ·rw [if_neg c1, if_neg (by simp only [Bool.cond_eq_ite]; simp; intro h1 h2 h3; exact c1 ⟨h1, h2, h3⟩)]
   by_cases c2 : x < 0 ∧ l = -x ∧ b = v
   ·rw [if_pos c2, if_pos (by simp [c2.1, c2.2.1, c2.2.2]), J0 (by simp; omega), Option.bind_some, ih _ (by simp; omega)]
    simp
   ·rw [if_neg c2, if_neg (by simp only [Bool.cond_eq_ite]; simp; intro h1 h2 h3; exact c2 ⟨h1, h2, h3⟩), ih _ (by omega)]
    simp
theorem X03 (w : Int) : ∀ l : List Int, (g9 O7 w l).length ≤ l.length + 1
 | [] => by simp [g9]
 | y :: l => by
  have := X03 w l
  unfold g9
  split
  ·simp
  ·split
   ·simp
   ·simp only [List.length_cons]; omega
theorem T07 (es : List C0) (v x : Int) (hx : K7 x) (hl : es.length ≤ 1099511627776) : ∀ (d k fuel : Nat) (u : List Int), k + d = es.length → d < fuel → u.length ≤ k →
  P3 es x v fuel u (k : Int) = some (o5 O7 u (C8 v x (es.drop k)))
 | d, k, 0, u, hd, hf, ha => by omega
 | 0, k, fuel + 1, u, hd, hf, ha => by
  rw [P3.eq_2, if_neg (by simp; omega), D1 (by omega)]
  rfl
 | d + 1, k, fuel + 1, u, hd, hf, ha => by
  have hk : k < es.length := by omega
  have he := N5 hk
  generalize es[k] = e at he
  obtain ⟨a, l, b⟩ := e
  have ih := fun u' h => T07 es v x hx hl d (k + 1) fuel u' (by omega) (by omega) h
  rw [P3.eq_2, if_pos (by simp; omega), E3 he, Option.bind_some, J1 he]
  simp only [C8, R0c, l0f hx.1 hx.2, j2 hk (show es.length ≤ 9223372036854775807 by omega)]
  by_cases c1 : 0 < x ∧ l = x ∧ a = v
  ·obtain ⟨c1, rfl, rfl⟩ := c1
   have hno : decide (l < 0) = false := by simp; omega
   have := X03 b u
   rw [if_pos (by simp [c1]), if_pos ⟨c1, rfl, rfl⟩, R07 u b (by omega), Option.bind_some, hno, if_neg (by simp), ih _ (by omega)]
   rfl
  ·rw [if_neg c1, if_neg (by simp only [Bool.cond_eq_ite]; simp; intro h1 h2 h3; exact c1 ⟨h1, h2, h3⟩)]
   by_cases c2 : x < 0 ∧ l = -x ∧ b = v
   ·have := X03 a u
    rw [if_pos c2, if_pos (by simp [c2.1, c2.2.1, c2.2.2]), R07 u a (by omega), Option.bind_some, ih _ (by omega)]
    rfl
   ·rw [if_neg c2, if_neg (by simp only [Bool.cond_eq_ite]; simp; intro h1 h2 h3; exact c2 ⟨h1, h2, h3⟩), ih _ (by omega)]
    rfl
def U00 (g : l0) (v x : Int) : List Int := o5 O7 [] (C8 v x g.2.2)
theorem j0l (x y : Int) : eqI x y = true ↔ x = y := by simp [eqI]
theorem p0f (g : l0) (v x : Int) (hx : K7 x) (hl : g.2.2.length ≤ 1099511627776) : t9 g v x = some (U00 g v x) := by
 obtain ⟨r, n, es⟩ := g
 unfold t9 U00
 have h := T07 es v x hx hl es.length 0 Q0 [] (by omega) (o0f (by simp only at hl; omega)) (by simp)
 rw [show ((0 : Nat) : Int) = 0 from rfl, List.drop_zero] at h
 simp only [h, Option.bind_some]
theorem q0f (g : l0) (v x : Int) (hx : K7 x) (hl : g.2.2.length ≤ 1099511627776) : w9 g v x = some (U00 g v x) := by
 obtain ⟨r, n, es⟩ := g
 unfold w9 U00
 have h := S07 es v x hx hl es.length 0 Q0 [] (by omega) (o0f (by simp only at hl; omega)) (by simp)
 rw [show ((0 : Nat) : Int) = 0 from rfl, List.drop_zero, List.nil_append] at h
 have hlen := s0b v x es
 simp only at hl
 simp only [h, Option.bind_some, J0 (show (C8 v x es).length < 4611686018427387904 by omega)]
 rw [← k0f P00 j0l (C8 v x es) (C8 v x es) fun _ => Iff.rfl]
 rfl
def G2 (g : l0) (v x : Int) : Int := match U00 g v x with
 | [] => -1
 | a :: _ => a
theorem T06 (g : l0) (v x : Int) (hx : K7 x) (hl : g.2.2.length ≤ 1099511627776) : J6 g v x = some (G2 g v x) := by
 have h := p0f g v x hx hl
 obtain ⟨r, n, es⟩ := g
 unfold J6 G2
 simp only [h, Option.bind_some]
 cases U00 (r, n, es) v x with
 | nil => rfl
 | cons a l => rfl
theorem U06 (g : l0) (v x : Int) (hx : K7 x) (hl : g.2.2.length ≤ 1099511627776) : K6 g v x = some (G2 g v x) := by
 have h := q0f g v x hx hl
 obtain ⟨r, n, es⟩ := g
 unfold K6 G2
 simp only [h, Option.bind_some]
 cases U00 (r, n, es) v x with
 | nil => rfl
 | cons a l => rfl
theorem S0c {g : l0} {v x y : Int} (h : y ∈ U00 g v x) : y ∈ C8 v x g.2.2 := by
 rcases (T7 P00 y _ []).1 h with h | h
 ·cases h
 ·exact h
theorem U7 {v x y : Int} : ∀ {es : List C0}, y ∈ C8 v x es ↔ ∃ e ∈ es, (0 < x ∧ e.2.1 = x ∧ e.1 = v ∧ y = e.2.2) ∨ (x < 0 ∧ e.2.1 = -x ∧ e.2.2 = v ∧ y = e.1)
 | [] => by simp [C8]
 | e :: es => by
  simp only [C8, List.mem_append, U7 (es := es), List.mem_cons, exists_eq_or_imp]
  refine or_congr ?_ Iff.rfl
  unfold R0c
  split
  ·rename_i h
   simp only [List.mem_singleton]
   constructor
   ·rintro rfl; exact .inl ⟨h.1, h.2.1, h.2.2, rfl⟩
   ·rintro (⟨_, _, _, h4⟩ | ⟨h1, _⟩)
    ·exact h4
    ·omega
  ·rename_i h
   split
   ·rename_i h2
    simp only [List.mem_singleton]
    constructor
    ·rintro rfl; exact .inr ⟨h2.1, h2.2.1, h2.2.2, rfl⟩
    ·rintro (⟨h1, _⟩ | ⟨_, _, _, h4⟩)
     ·omega
     ·exact h4
   ·rename_i h2
    constructor
    ·intro h; cases h
    ·rintro (⟨h3, h4, h5, _⟩ | ⟨h3, h4, h5, _⟩)
     ·exact absurd ⟨h3, h4, h5⟩ h
     ·exact absurd ⟨h3, h4, h5⟩ h2
def inG (g : l0) : Prop := ∀ e ∈ g.2.2, (0 ≤ e.1 ∧ e.1 < g.2.1) ∧ (0 ≤ e.2.2 ∧ e.2.2 < g.2.1) ∧ 1 ≤ e.2.1 ∧ e.2.1 ≤ g.1
theorem O1 {g : l0} (h : O0 g = true) : inG g ∧ (1 ≤ g.1 ∧ g.1 ≤ 3) ∧ (1 ≤ g.2.1 ∧ g.2.1 ≤ 40) ∧ g.2.2.length ≤ 120 := by
 obtain ⟨r, n, es⟩ := g
 simp only [O0, inR, Bool.and_eq_true, decide_eq_true_eq] at h
 obtain ⟨⟨⟨h1, h2⟩, h3⟩, h4⟩ := h
 refine ⟨fun e he => ?_, h2, h3, h4⟩
 obtain ⟨i, hi⟩ := List.getElem?_of_mem he
 have hb := O0g h1 i (Nat.zero_le _) (by have := (List.getElem?_eq_some_iff.1 hi).1; simp only at this; omega)
 rw [Q07 hi] at hb
 simp only [Bool.or_eq_false_iff, Bool.not_eq_false', g02, inR, Bool.and_eq_true, decide_eq_true_eq] at hb
 obtain ⟨⟨⟨⟨b1, b2⟩, b3, b4⟩, b5, b6⟩, _⟩ := hb
 rw [w64 (by omega) (by omega)] at b2 b4
 simp only
 exact ⟨⟨b1, by omega⟩, ⟨b3, by omega⟩, b5, b6⟩
theorem u0a {g : l0} (hg : inG g) (v x : Int) : G2 g v x = -1 ∨ (0 ≤ G2 g v x ∧ G2 g v x < g.2.1) := by
 unfold G2
 cases hs : U00 g v x with
 | nil => exact .inl rfl
 | cons a l =>
  right
  have ha : a ∈ U00 g v x := by rw [hs]; exact List.mem_cons_self ..
  obtain ⟨e, he, h⟩ := U7.1 (S0c ha)
  have := hg e he
  rcases h with ⟨_, _, _, rfl⟩ | ⟨_, _, _, rfl⟩
  ·exact this.2.1
  ·exact this.1
theorem z04 {g : l0} (hg : inG g) (hn : g.2.1 ≤ 40) (v x : Int) : D0 (G2 g v x) := by
 rcases u0a hg v x with h | h
 ·rw [h]; decide
 ·constructor <;> omega
def N02 (a b : C0) : Bool := decide (a.2.1 = b.2.1) && (decide (a.1 = b.1) || decide (a.2.2 = b.2.2))
theorem U08 (a b : C0) : N02 a b = N02 b a := by
 unfold N02
 have h : ∀ x y : Int, decide (x = y) = decide (y = x) := fun x y => decide_eq_decide.2 ⟨Eq.symm, Eq.symm⟩
 rw [h a.2.1, h a.1, h a.2.2]
def noC (a : C0) : List C0 → Bool
 | [] => true
 | b :: l => !N02 a b && noC a l
def y06 : List C0 → Bool
 | [] => true
 | a :: l => noC a l && y06 l
theorem X0d (a : C0) : ∀ l, noC a l = true ↔ ∀ b ∈ l, N02 a b = false
 | [] => by simp [noC]
 | b :: l => by simp [noC, X0d a l]
theorem V08 : ∀ l, y06 l = true ↔ l.Pairwise fun a b => N02 a b = false
 | [] => by simp [y06]
 | a :: l => by simp [y06, V08 l, X0d, List.pairwise_cons]
def t0b : List C0 → List C0 → Bool
 | _, [] => true
 | pre, a :: l => noC a pre && t0b (pre ++ [a]) l
theorem T0c : ∀ (l pre : List C0), t0b pre l = true ↔ l.Pairwise (fun a b => N02 a b = false) ∧ ∀ a ∈ l, ∀ b ∈ pre, N02 a b = false
 | [], pre => by simp [t0b]
 | a :: l, pre => by
  simp only [t0b, Bool.and_eq_true, X0d, T0c l, List.pairwise_cons]
  constructor
  ·rintro ⟨h2, h3, h4⟩
   refine ⟨⟨fun b hb => by rw [U08]; exact h4 b hb a (by simp), h3⟩, fun x hx b hb => ?_⟩
   rcases List.mem_cons.1 hx with rfl | hx
   ·exact h2 b hb
   ·exact h4 x hx b (by simp [hb])
  ·rintro ⟨⟨h2, h3⟩, h4⟩
   refine ⟨fun b hb => h4 a (List.mem_cons_self ..) b hb, h3, fun x hx b hb => ?_⟩
   rcases List.mem_append.1 hb with hb | hb
   ·exact h4 x (List.mem_cons_of_mem _ hx) b hb
   ·rw [List.mem_singleton.1 hb, U08]; exact h2 x hx
theorem T0i (l : List C0) : t0b [] l = y06 l := by
 rw [Bool.eq_iff_iff, T0c, V08]
 simp
def N0 (g : l0) : Bool := O0 g && y06 g.2.2
theorem B0l (a0 a1 a2 b0 b1 b2 : Int) : (bif decide (a1 = b1) then (bif decide (a0 = b0) then true else decide (a2 = b2)) else false) = N02 (a0, a1, a2) (b0, b1, b2) := by
 unfold N02
 cases decide (a1 = b1) <;> cases decide (a0 = b0) <;> rfl
theorem U07 (l : List C0) (a : C0) (hl : l.length ≤ 140737488355328) : ∀ (d k fuel : Nat), k + d = l.length → d < fuel →
  T5 l a.2.1 a.1 a.2.2 fuel (k : Int) = some (bif noC a (l.drop k) then .inr () else .inl false)
 | d, k, 0, hd, hf => by omega
 | 0, k, fuel + 1, hd, hf => by
  rw [T5.eq_2, if_neg (by simp; omega), D1 (by omega)]
  rfl
 | d + 1, k, fuel + 1, hd, hf => by
  have hk : k < l.length := by omega
  have hx := N5 hk
  generalize l[k] = x at hx
  obtain ⟨a0, a1, a2⟩ := a
  obtain ⟨b0, b1, b2⟩ := x
  rw [T5.eq_2, if_pos (by simp; omega), E3 hx, Option.bind_some, J1 hx]
  simp only [B0l, noC]
  cases hc : N02 (a0, a1, a2) (b0, b1, b2) with
  | true => rfl
  | false =>
   rw [if_neg (by simp), j2 hk (by omega), U07 l (a0, a1, a2) hl d (k + 1) fuel (by omega) (by omega)]
   simp
theorem V06 {α : Type} {xs : List α} {k : Nat} (h : k ≤ xs.length) : R06 xs (k : Int) (xs.length : Int) = some (xs.drop k) := by
 unfold R06
 rw [if_pos ⟨by omega, by omega, by omega⟩]
 simp
theorem V07 (l : List C0) (hl : l.length ≤ 140737488355328) : ∀ (d k fuel : Nat), k + d = l.length → d < fuel →
  U5 l fuel (k : Int) = some (bif y06 (l.drop k) then .inr () else .inl false)
 | d, k, 0, hd, hf => by omega
 | 0, k, fuel + 1, hd, hf => by
  rw [U5.eq_2, if_neg (by simp; omega), D1 (by omega)]
  rfl
 | d + 1, k, fuel + 1, hd, hf => by
  have hk : k < l.length := by omega
  have hx := N5 hk
  generalize l[k] = x at hx
  have h0 := U07 (l.drop (k + 1)) x (by simp; omega) (l.drop (k + 1)).length 0 Q0 (by omega) (Y0 (by simp; omega))
  rw [show ((0 : Nat) : Int) = 0 from rfl, List.drop_zero] at h0
  obtain ⟨a0, a1, a2⟩ := x
  rw [U5.eq_2, if_pos (by simp; omega), E3 hx, Option.bind_some, J1 hx]
  simp only [j2 hk (show l.length ≤ 9223372036854775807 by omega), V06 (show k + 1 ≤ l.length by omega), Option.bind_some]
  simp only at h0
  rw [h0, Option.bind_some]
  simp only [y06]
  cases noC (a0, a1, a2) (l.drop (k + 1)) with
  | false => rfl
  | true =>
   simp only [cond_true, k0c, Bool.true_and]
   exact V07 l hl d (k + 1) fuel (by omega) (by omega)
theorem w00 (g : l0) (hl : g.2.2.length ≤ 140737488355328) : j6 g = some (N0 g) := by
 have hG := l9 g hl
 obtain ⟨r, n, es⟩ := g
 unfold j6 N0
 simp only [hG, Option.bind_some]
 cases O0 (r, n, es) with
 | false => rfl
 | true =>
  have h := V07 es hl es.length 0 Q0 (by omega) (Y0 hl)
  rw [show ((0 : Nat) : Int) = 0 from rfl, List.drop_zero] at h
  rw [if_neg (by simp), h, Option.bind_some]
  cases y06 es <;> rfl
theorem W07 (l : List C0) (hl : l.length ≤ 140737488355328) {i : Nat} {a : C0} (ha : l[i]? = some a) : ∀ (d k fuel : Nat), k + d = i → d < fuel →
  R5 (i : Int) l fuel (k : Int) = some (bif noC a ((l.take i).drop k) then .inr () else .inl false)
 | d, k, 0, hd, hf => by omega
 | 0, k, fuel + 1, hd, hf => by
  have := (List.getElem?_eq_some_iff.1 ha).1
  rw [R5.eq_2, if_neg (by simp; omega), D1 (by simp; omega)]
  rfl
 | d + 1, k, fuel + 1, hd, hf => by
  have hi := (List.getElem?_eq_some_iff.1 ha).1
  have hk : k < l.length := by omega
  have hx := N5 hk
  have hx2 : (l.take i)[k]? = some l[k] := by rw [List.getElem?_take, if_pos (by omega)]; exact hx
  have ih := W07 l hl ha d (k + 1) fuel (by omega) (by omega)
  generalize l[k] = x at hx hx2
  obtain ⟨a0, a1, a2⟩ := a
  obtain ⟨b0, b1, b2⟩ := x
  rw [R5.eq_2, if_pos (by simp; omega), E3 ha, Option.bind_some, J1 hx2]
  simp only [E3 hx, Option.bind_some, B0l, noC]
  cases hc : N02 (a0, a1, a2) (b0, b1, b2) with
  | true => rfl
  | false =>
   rw [if_neg (by simp), j2 hk (by omega), ih]
   simp
theorem Q0h {α : Type} {xs : List α} {k : Nat} {x : α} (h : xs[k]? = some x) : xs.take (k + 1) = xs.take k ++ [x] := by
 obtain ⟨hk, rfl⟩ := List.getElem?_eq_some_iff.1 h
 exact List.take_succ_eq_append_getElem hk
theorem X07 (r n : Int) (l : List C0) (hg : O0 (r, n, l) = true) (hl : l.length ≤ 140737488355328) : ∀ (d k fuel : Nat), k + d = l.length → d < fuel →
  M4 l r n fuel (k : Int) = some (bif t0b (l.take k) (l.drop k) then .inr () else .inl false)
 | d, k, 0, hd, hf => by omega
 | 0, k, fuel + 1, hd, hf => by
  have e : decide ((k : Int) < (l.length : Int)) = false := by simp; omega
  rw [M4.eq_2, e, J4, Option.bind_some, if_neg (by simp), D1 (by omega)]
  rfl
 | d + 1, k, fuel + 1, hd, hf => by
  have hk : k < l.length := by omega
  have hx := N5 hk
  generalize l[k] = x at hx
  have h0 := W07 l hl hx k 0 Q0 (by omega) (Y0 (by omega))
  rw [show ((0 : Nat) : Int) = 0 from rfl, List.drop_zero] at h0
  have e : decide ((k : Int) < (l.length : Int)) = true := by simp; omega
  rw [M4.eq_2, e, T1, i6 (r, n, l) hl, Option.bind_some, hg, if_pos (show (bif true then true else false) = true from rfl), h0, Option.bind_some, J1 hx]
  simp only [t0b]
  cases noC x (l.take k) with
  | false => rfl
  | true =>
   simp only [cond_true, k0c, Bool.true_and]
   rw [j2 hk (by omega), ← Q0h hx]
   exact X07 r n l hg hl d (k + 1) fuel (by omega) (by omega)
theorem D8 (g : l0) (hl : g.2.2.length ≤ 140737488355328) : F5 g = some (N0 g) := by
 have hG := i6 g hl
 obtain ⟨r, n, es⟩ := g
 unfold F5 N0
 simp only [hG, Option.bind_some]
 cases hg : O0 (r, n, es) with
 | false =>
  have h1 : M4 es r n Q0 0 = some (.inr ()) := by
   rw [show Q0 = (Q0 - 1) + 1 from rfl, M4.eq_2]
   by_cases e : decide ((0 : Int) < (es.length : Int)) = true
   ·rw [e, T1, hG, Option.bind_some, hg, if_neg (by simp)]
   ·rw [Bool.not_eq_true] at e
    rw [e, J4, Option.bind_some, if_neg (by simp)]
  rw [h1]
  rfl
 | true =>
  have h := X07 r n es hg hl es.length 0 Q0 (by omega) (Y0 hl)
  rw [show ((0 : Nat) : Int) = 0 from rfl, List.drop_zero, List.take_zero, T0i] at h
  rw [h, Option.bind_some]
  cases y06 es <;> rfl
def L7 (g : l0) : Int → List Int → Int × Nat
 | v, [] => (v, 0)
 | v, x :: w => if G2 g v x < 0 then (v, 0) else ((L7 g (G2 g v x) w).1, (L7 g (G2 g v x) w).2 + 1)
theorem x05 (g : l0) : ∀ (w : List Int) (v : Int), (L7 g v w).2 ≤ w.length
 | [], v => by simp [L7]
 | x :: w, v => by
  have := x05 g w (G2 g v x)
  unfold L7
  split
  ·simp
  ·simp only [List.length_cons]; omega
theorem y05 {g : l0} (hg : inG g) (hn : g.2.1 ≤ 40) : ∀ (w : List Int) (v : Int), D0 v → D0 (L7 g v w).1
 | [], v, h => h
 | x :: w, v, h => by
  unfold L7
  split
  ·exact h
  ·exact y05 hg hn w _ (z04 hg hn v x)
def k0l (q : Int × Nat) (n : Nat) (k : Nat) : (Int × Int) ⊕ Int := bif decide (q.2 < n) then .inl (q.1, ((k + q.2 : Nat) : Int)) else .inr q.1
theorem M09 (r n : Int) (es : List C0) (hg : inG (r, n, es)) (hn : n ≤ 40) (hes : es.length ≤ 1099511627776) (w : List Int) (hw : ∀ x ∈ w, K7 x) (hl : w.length ≤ 140737488355328) : ∀ (d k fuel : Nat) (v : Int), k + d = w.length → d < fuel →
  Z4 w r n es fuel v (k : Int) = some (k0l (L7 (r, n, es) v (w.drop k)) d k)
 | d, k, 0, v, hd, hf => by omega
 | 0, k, fuel + 1, v, hd, hf => by
  rw [Z4.eq_2, if_neg (by simp; omega), D1 (by omega)]
  rfl
 | d + 1, k, fuel + 1, v, hd, hf => by
  have hk : k < w.length := by omega
  have hx := N5 hk
  have hxm := hw _ (List.getElem_mem hk)
  generalize w[k] = x at hx hxm
  rw [Z4.eq_2, if_pos (by simp; omega), E3 hx, Option.bind_some, U06 (r, n, es) v x hxm hes, Option.bind_some, J0 (z04 hg hn v x), Option.bind_some, J1 hx]
  unfold L7
  by_cases h : G2 (r, n, es) v x < 0
  ·rw [if_pos (by simpa using h), if_pos h]
   simp [k0l]
  ·rw [if_neg (by simpa using h), if_neg h, j2 hk (by omega), M09 r n es hg hn hes w hw hl d (k + 1) fuel _ (by omega) (by omega)]
   unfold k0l
   simp only [Nat.add_lt_add_iff_right]
   congr 2
   simp only [Nat.add_assoc, Nat.add_comm 1]
theorem d0k (g : l0) (hg : inG g) (hn : g.2.1 ≤ 40) (hes : g.2.2.length ≤ 1099511627776) (v : Int) (w : List Int) (hw : ∀ x ∈ w, K7 x) (hl : w.length ≤ 140737488355328) : Q7 g v w = some ((L7 g v w).1, (((L7 g v w).2 : Nat) : Int)) := by
 obtain ⟨r, n, es⟩ := g
 unfold Q7
 have h := M09 r n es hg hn hes w hw hl w.length 0 Q0 v (by omega) (Y0 hl)
 rw [show ((0 : Nat) : Int) = 0 from rfl, List.drop_zero] at h
 have hle := x05 (r, n, es) w v
 simp only [h, Option.bind_some, k0l]
 by_cases hc : (L7 (r, n, es) v w).2 < w.length
 ·simp [hc, V6]
 ·have : (L7 (r, n, es) v w).2 = w.length := by omega
  simp [this, V6]
theorem N09 (r n : Int) (es : List C0) (hg : inG (r, n, es)) (hn : n ≤ 40) (hes : es.length ≤ 1099511627776) (w : List Int) (hw : ∀ x ∈ w, K7 x) (hl : w.length ≤ 140737488355328) : ∀ (d k fuel : Nat) (v : Int), k + d = w.length → d < fuel →
  S5 w r n es fuel v (k : Int) = some (bif decide ((L7 (r, n, es) v (w.drop k)).2 < d) then .inl (-1, false) else .inr (L7 (r, n, es) v (w.drop k)).1)
 | d, k, 0, v, hd, hf => by omega
 | 0, k, fuel + 1, v, hd, hf => by
  rw [S5.eq_2, if_neg (by simp; omega), D1 (by omega)]
  rfl
 | d + 1, k, fuel + 1, v, hd, hf => by
  have hk : k < w.length := by omega
  have hx := N5 hk
  have hxm := hw _ (List.getElem_mem hk)
  generalize w[k] = x at hx hxm
  rw [S5.eq_2, if_pos (by simp; omega), E3 hx, Option.bind_some, T06 (r, n, es) v x hxm hes, Option.bind_some, J0 (z04 hg hn v x), Option.bind_some, J1 hx]
  unfold L7
  by_cases h : G2 (r, n, es) v x < 0
  ·rw [if_pos (by simpa using h), if_pos h]
   simp
  ·rw [if_neg (by simpa using h), if_neg h, j2 hk (by omega), N09 r n es hg hn hes w hw hl d (k + 1) fuel _ (by omega) (by omega)]
   simp only [Nat.add_lt_add_iff_right]
theorem e0k (g : l0) (hf : N0 g = true) (v : Int) (hv : 0 ≤ v ∧ v < g.2.1) (w : List Int) (hw : ∀ x ∈ w, K7 x) (hl : w.length ≤ 140737488355328) :
  Q8 g v w = some (bif decide ((L7 g v w).2 < w.length) then (-1, false) else ((L7 g v w).1, true)) := by
 have hgr : O0 g = true := by unfold N0 at hf; simp only [Bool.and_eq_true] at hf; exact hf.1
 obtain ⟨hg, _, hn, hes⟩ := O1 hgr
 have hF := D8 g (by omega)
 obtain ⟨r, n, es⟩ := g
 simp only at hv hn hes
 unfold Q8
 have h := N09 r n es hg hn.2 (by omega) w hw hl w.length 0 Q0 v (by omega) (Y0 hl)
 rw [show ((0 : Nat) : Int) = 0 from rfl, List.drop_zero] at h
 have hr : inR 0 (n - 1) v = true := by simp only [inR, Bool.and_eq_true, decide_eq_true_eq]; omega
 simp only [hF, hf, Option.bind_some, Bool.not_true, Bool.not_false, T1, f02, w64 (show -9223372036854775808 ≤ n - 1 by omega) (show n - 1 ≤ 9223372036854775807 by omega), hr, cond_false, Bool.false_eq_true, if_false, h]
 cases decide ((L7 (r, n, es) v w).2 < w.length) <;> rfl
theorem G3 {g : l0} (h : N0 g = true) : inG g ∧ (1 ≤ g.1 ∧ g.1 ≤ 3) ∧ (1 ≤ g.2.1 ∧ g.2.1 ≤ 40) ∧ g.2.2.length ≤ 120 := by
 unfold N0 at h
 simp only [Bool.and_eq_true] at h
 exact O1 h.1
end Go.Proofs.YtfdlgbfeceodeaaGreat
namespace Go.Proofs.YtfdlgbfeceodeaaGreat
open Go.H
set_option linter.unusedVariables false
set_option linter.unusedSimpArgs false
def f0k (v : Int) (e : C0) : Nat := (if e.1 = v then 1 else 0) + (if e.2.2 = v then 1 else 0)
def w01 (v : Int) : List C0 → Nat
 | [] => 0
 | e :: r => f0k v e + w01 v r
theorem l0l (v : Int) (e : C0) : f0k v e ≤ 2 := by unfold f0k; split <;> split <;> omega
theorem Y0d (v : Int) : ∀ l, w01 v l ≤ 2 * l.length
 | [] => by simp [w01]
 | e :: r => by have := l0l v e; have := Y0d v r; simp only [w01, List.length_cons]; omega
theorem u0b (es : List C0) (v : Int) (hl : es.length ≤ 1099511627776) : ∀ (d k fuel acc : Nat), k + d = es.length → d < fuel → acc ≤ 2 * k →
  j3 es v fuel (acc : Int) (k : Int) = some ((acc + w01 v (es.drop k) : Nat) : Int)
 | d, k, 0, acc, hd, hf, ha => by omega
 | 0, k, fuel + 1, acc, hd, hf, ha => by
  rw [j3.eq_2, if_neg (by simp; omega), D1 (by omega)]; rfl
 | d + 1, k, fuel + 1, acc, hd, hf, ha => by
  have hk : k < es.length := by omega
  have he := N5 hk
  generalize es[k] = e at he
  obtain ⟨a, l, b⟩ := e
  have ih := fun acc' h => u0b es v hl d (k + 1) fuel acc' (by omega) (by omega) h
  have w1 : IntKind.i64.wrap ((acc : Int) + 1) = ((acc + 1 : Nat) : Int) := by rw [w64 (by omega) (by omega)]; rfl
  have w2 : IntKind.i64.wrap (((acc + 1 : Nat) : Int) + 1) = ((acc + 2 : Nat) : Int) := by rw [w64 (by omega) (by omega)]; rfl
  rw [j3.eq_2, if_pos (by simp; omega), E3 he, J1 he]
  simp only [Option.bind_some, w01, f0k, j2 hk (show es.length ≤ 9223372036854775807 by omega)]
  by_cases c1 : a = v
  ·rw [if_pos (by simpa using c1), if_pos c1]
   by_cases c2 : b = v
   ·rw [if_pos (by simpa using c2), if_pos c2, w1, w2, ih _ (by omega)]; congr 2; omega
   ·rw [if_neg (by simpa using c2), if_neg c2, w1, ih _ (by omega)]; congr 2; omega
  ·rw [if_neg (by simpa using c1), if_neg c1]
   by_cases c2 : b = v
   ·rw [if_pos (by simpa using c2), if_pos c2, w1, ih _ (by omega)]; congr 2; omega
   ·rw [if_neg (by simpa using c2), if_neg c2, ih _ (by omega)]; congr 2; omega
theorem v0b (es : List C0) (v : Int) : ∀ (fuel : Nat) (x y : Int), N4 es v fuel x y = j3 es v fuel x y
 | 0, x, y => rfl
 | fuel + 1, x, y => by
  rw [N4.eq_2, j3.eq_2]
  simp only [v0b es v fuel]
  by_cases c : (decide (y < ((es.length : Nat) : Int))) = true
  ·rw [if_pos c, if_pos c]
   cases hg : gi es y with
   | none => rfl
   | some e => simp only [Option.bind_some]
  ·rw [if_neg c, if_neg c]
theorem U0c (g : l0) (v : Int) (hl : g.2.2.length ≤ 1099511627776) : R8 g v = some ((w01 v g.2.2 : Nat) : Int) := by
 obtain ⟨r, n, es⟩ := g
 unfold R8
 have h := u0b es v hl es.length 0 Q0 0 (by omega) (Y0 (by simp only at hl; omega)) (Nat.zero_le _)
 rw [show ((0 : Nat) : Int) = 0 from rfl, List.drop_zero, Nat.zero_add] at h
 simp only [h, Option.bind_some]
theorem U0i (g : l0) (v : Int) (hl : g.2.2.length ≤ 1099511627776) : N9 g v = some ((w01 v g.2.2 : Nat) : Int) := by
 have h := U0c g v hl
 obtain ⟨r, n, es⟩ := g
 unfold N9
 unfold R8 at h
 simp only [v0b] at h ⊢
 exact h
def R0h (g h : l0) : Bool := decide (g = h)
theorem v0a (x y : C0) : eqE x y = true ↔ x = y := by simp [eqE]
theorem O09 (a b : List C0) (hab : a.length = b.length) (hl : a.length ≤ 9223372036854775807) : ∀ (d k fuel : Nat), k + d = a.length → d < fuel →
  K1 a b fuel (k : Int) = some (if a.drop k = b.drop k then .inr () else .inl false)
 | d, k, 0, hd, hf => by omega
 | 0, k, fuel + 1, hd, hf => by
  rw [K1.eq_2, if_neg (by simp; omega), D1 (by omega), D1 (by omega)]; rfl
 | d + 1, k, fuel + 1, hd, hf => by
  have hk : k < a.length := by omega
  have hk2 : k < b.length := by omega
  have ha := N5 hk
  have hb := N5 hk2
  generalize a[k] = x at ha
  generalize b[k] = y at hb
  have ih := O09 a b hab hl d (k + 1) fuel (by omega) (by omega)
  rw [K1.eq_2, if_pos (by simp; omega), E3 ha, E3 hb, J1 ha, J1 hb]
  simp only [Option.bind_some, j2 hk hl, ih]
  by_cases c : x = y
  ·subst c
   rw [if_neg (by simp [eqE])]
   simp
  ·have hne : eqE x y = false := Bool.eq_false_iff.2 fun h => c ((v0a x y).1 h)
   rw [if_pos (show (!eqE x y) = true by rw [hne]; rfl), if_neg (by simp [c])]
theorem P0g (a b : List C0) (hl : a.length ≤ 9223372036854775807) : H5 a b = some (decide (a = b)) := by
 unfold H5
 by_cases hab : a.length = b.length
 ·have h := O09 a b hab hl a.length 0 Q0 (by omega) (by unfold Q0; omega)
  rw [if_neg (by simp; omega), show (0 : Int) = ((0 : Nat) : Int) from rfl, h, List.drop_zero, List.drop_zero]
  by_cases c : a = b
  ·rw [if_pos c]; simp [V6, c]
  ·rw [if_neg c]; simp [V6, c]
 ·rw [if_pos (by simp; omega)]
  congr 1
  symm
  simp
  intro h; exact hab (by rw [h])
theorem V0c (a b : List C0) : ∀ (fuel : Nat) (k : Int), w5 a b fuel k = K1 a b fuel k
 | 0, k => rfl
 | fuel + 1, k => by
  rw [w5.eq_2, K1.eq_2]
  simp only [V0c a b fuel]
theorem V0i (g h : l0) (hl : g.2.2.length ≤ 9223372036854775807) : z8 g h = some (R0h g h) := by
 have hS := P0g g.2.2 h.2.2 hl
 obtain ⟨r, n, es⟩ := g
 obtain ⟨r', n', es'⟩ := h
 unfold z8 R0h
 unfold H5 at hS
 simp only [V0c, Prod.mk.injEq] at hS ⊢
 by_cases c1 : r = r'
 ·by_cases c2 : n = n'
  ·simp only [c1, c2, decide_true, Bool.not_true, cond_false, true_and]
   rw [← hS]
  ·simp [c1, c2]
 ·simp [c1]
def goE (x : C0) : List C0 → Bool × List C0
 | [] => (false, [])
 | y :: l => if H0 x y < 0 then (true, x :: y :: l) else if H0 x y = 0 then (true, y :: l) else ((goE x l).1, y :: (goE x l).2)
theorem S0h (x : C0) : ∀ l, g9 H0 x l = bif (goE x l).1 then (goE x l).2 else (goE x l).2 ++ [x]
 | [] => rfl
 | y :: l => by
  have ih := S0h x l
  unfold g9 goE
  by_cases c1 : H0 x y < 0
  ·rw [if_pos c1, if_pos c1]; rfl
  ·rw [if_neg c1, if_neg c1]
   by_cases c2 : H0 x y = 0
   ·rw [if_pos c2, if_pos c2]; rfl
   ·rw [if_neg c2, if_neg c2, ih]; cases (goE x l).1 <;> rfl
theorem W08 (l : List C0) (w0 w1 w2 : Int) (hl : l.length ≤ 1099511627776) : ∀ (d k fuel : Nat) (acc : List C0), k + d = l.length → d < fuel → acc.length ≤ k + 1 →
  c4 l w0 w1 w2 fuel true (k : Int) acc = some (true, acc ++ l.drop k)
 | d, k, 0, acc, hd, hf, ha => by omega
 | 0, k, fuel + 1, acc, hd, hf, ha => by
  rw [c4.eq_2, if_neg (by simp; omega), D1 (by omega), List.append_nil]
 | d + 1, k, fuel + 1, acc, hd, hf, ha => by
  have hk : k < l.length := by omega
  have he := N5 hk
  generalize l[k] = e at he
  obtain ⟨a, x, b⟩ := e
  have ih := W08 l w0 w1 w2 hl d (k + 1) fuel (acc ++ [(a, x, b)]) (by omega) (by omega) (by simp; omega)
  rw [c4.eq_2, if_pos (by simp; omega), J1 he]
  simp only [E3 he, Option.bind_some, a01, J0 (t0a _ _), j2 hk (show l.length ≤ 9223372036854775807 by omega), Bool.not_true]
  have hb : ∀ b : Bool, (bif b then false else false) = false := fun b => by cases b <;> rfl
  simp only [hb, Bool.false_eq_true, if_false]
  rw [J0 (by simp; omega), Option.bind_some, ih]
  simp
theorem w0b (l : List C0) (w0 w1 w2 : Int) (hl : l.length ≤ 1099511627776) : ∀ (d k fuel : Nat) (acc : List C0), k + d = l.length → d < fuel → acc.length = k →
  c4 l w0 w1 w2 fuel false (k : Int) acc = some ((goE (w0, w1, w2) (l.drop k)).1, acc ++ (goE (w0, w1, w2) (l.drop k)).2)
 | d, k, 0, acc, hd, hf, ha => by omega
 | 0, k, fuel + 1, acc, hd, hf, ha => by
  rw [c4.eq_2, if_neg (by simp; omega), D1 (by omega)]; simp [goE]
 | d + 1, k, fuel + 1, acc, hd, hf, ha => by
  have hk : k < l.length := by omega
  have he := N5 hk
  generalize l[k] = e at he
  obtain ⟨a, x, b⟩ := e
  have ih := w0b l w0 w1 w2 hl d (k + 1) fuel (acc ++ [(a, x, b)]) (by omega) (by omega) (by simp; omega)
  have on1 := W08 l w0 w1 w2 hl d (k + 1) fuel (acc ++ [(a, x, b)]) (by omega) (by omega) (by simp; omega)
  have on2 := W08 l w0 w1 w2 hl d (k + 1) fuel ((acc ++ [(w0, w1, w2)]) ++ [(a, x, b)]) (by omega) (by omega) (by simp; omega)
  rw [c4.eq_2, if_pos (by simp; omega), J1 he]
  simp only [E3 he, Option.bind_some, a01, J0 (t0a _ _), j2 hk (show l.length ≤ 9223372036854775807 by omega), Bool.not_true, Bool.not_false, goE]
  show _ = _
  unfold p0b
  by_cases c1 : H0 (w0, w1, w2) (a, x, b) = 0
  ·rw [if_pos (by simpa using c1), if_neg (by simp [c1]), if_neg (by omega), if_pos c1]
   rw [J0 (by simp; omega), Option.bind_some, on1]; simp
  ·rw [if_neg (by simpa using c1)]
   by_cases c2 : H0 (w0, w1, w2) (a, x, b) < 0
   ·rw [if_pos (by simp [c2]), if_pos c2, J0 (by simp; omega), Option.bind_some, J0 (by simp; omega), Option.bind_some, on2]; simp
   ·rw [if_neg (by simp [c2]), if_neg c2, if_neg c1, J0 (by simp; omega), Option.bind_some, ih]; simp
theorem A04 (l : List C0) (e : C0) (hl : l.length ≤ 1099511627776) : L6 l e = some (g9 H0 e l) := by
 obtain ⟨w0, w1, w2⟩ := e
 unfold L6
 have h := w0b l w0 w1 w2 hl l.length 0 Q0 [] (by omega) (Y0 (by omega)) rfl
 rw [show ((0 : Nat) : Int) = 0 from rfl, List.drop_zero, List.nil_append] at h
 simp only [h, Option.bind_some, S0h]
 have hlen : ∀ l : List C0, (goE (w0, w1, w2) l).2.length ≤ l.length + 1 := fun l => by
  induction l with
  | nil => simp [goE]
  | cons y l ih =>
   unfold goE
   split
   ·simp
   ·split
    ·simp
    ·simp only [List.length_cons]; omega
 have := hlen l
 cases (goE (w0, w1, w2) l).1 with
 | true => rfl
 | false =>
  simp only [Bool.not_false, if_true, cond_false]
  rw [J0 (by simp; omega), Option.bind_some]
theorem r02 (e : C0) : ∀ l : List C0, (g9 H0 e l).length ≤ l.length + 1
 | [] => by simp [g9]
 | y :: l => by
  have := r02 e l
  unfold g9
  split
  ·simp
  ·split
   ·simp
   ·simp only [List.length_cons]; omega
theorem Y07 (es : List C0) (hl : es.length ≤ 1099511627776) : c8 es = some (o5 H0 [] es) := by
 unfold c8
 rw [J0 (by simp; omega), Option.bind_some, J0 (by simp; omega), Option.bind_some, List.nil_append]
 exact congrArg some (k0f O4 v0a es es fun _ => Iff.rfl)
theorem b01 (g : l0) (hl : g.2.2.length ≤ 1099511627776) : M2 g = some g := by
 obtain ⟨r, n, es⟩ := g
 unfold M2
 simp only
 rw [J0 (by simp only [List.length_nil, Nat.zero_add]; simp only at hl; omega)]; rfl
theorem x00 (g : l0) (hl : g.2.2.length ≤ 1099511627776) : C2 g = some g := by
 obtain ⟨r, n, es⟩ := g
 unfold C2
 simp only
 rw [J0 (by simp only [List.length_nil, Nat.zero_add]; simp only at hl; omega)]; rfl
end Go.Proofs.YtfdlgbfeceodeaaGreat
namespace Go.Proofs.YtfdlgbfeceodeaaGreat
open Go.H
set_option linter.unusedVariables false
set_option linter.unusedSimpArgs false
inductive Rch (es : List C0) (v : Int) : Int → Prop
 | base : Rch es v v
 | fwd {e : C0} : e ∈ es → Rch es v e.1 → Rch es v e.2.2
 | bwd {e : C0} : e ∈ es → Rch es v e.2.2 → Rch es v e.1
theorem Rch.closed {es : List C0} {v : Int} : ∀ e ∈ es, Rch es v e.1 ↔ Rch es v e.2.2 := fun e he => ⟨.fwd he, .bwd he⟩
theorem Rch.sub {es : List C0} {v : Int} {P : Int → Prop} (hv : P v) (hc : ∀ e ∈ es, P e.1 ↔ P e.2.2) : ∀ {x}, Rch es v x → P x
 | _, .base => hv
 | _, .fwd he h => (hc _ he).1 (Rch.sub hv hc h)
 | _, .bwd he h => (hc _ he).2 (Rch.sub hv hc h)
def M8 (S : List Bool) (i : Int) : Bool := S.getD i.toNat false
def stJ (S : List Bool) (e : C0) : List Bool := (S.set e.1.toNat true).set e.2.2.toNat true
def pJ : List C0 → Bool → List Bool → Bool × List Bool
 | [], c, S => (c, S)
 | e :: r, c, S => bif M8 S e.1 == M8 S e.2.2 then pJ r c S else pJ r true (stJ S e)
def cF : List Bool → Nat
 | [] => 0
 | b :: r => (bif b then 0 else 1) + cF r
theorem Q0g : ∀ (S : List Bool) (i : Nat), cF (S.set i true) ≤ cF S
 | [], i => by simp [cF]
 | b :: r, 0 => by simp [cF]
 | b :: r, i + 1 => by have := Q0g r i; simp only [List.set_cons_succ, cF]; omega
theorem g0k : ∀ (S : List Bool) (i : Nat), S[i]? = some false → cF (S.set i true) < cF S
 | [], i, h => by simp at h
 | b :: r, 0, h => by simp at h; subst h; simp [cF]
 | b :: r, i + 1, h => by have := g0k r i (by simpa using h); simp only [List.set_cons_succ, cF]; omega
theorem C0l : ∀ S : List Bool, cF S ≤ S.length
 | [] => by simp [cF]
 | b :: r => by have := C0l r; cases b <;> simp only [cF, List.length_cons, cond_true, cond_false] <;> omega
def inN (n : Nat) (es : List C0) : Prop := ∀ e ∈ es, (0 ≤ e.1 ∧ e.1 < (n : Int)) ∧ (0 ≤ e.2.2 ∧ e.2.2 < (n : Int))
theorem z05 {S : List Bool} {i : Nat} (h : i < S.length) (x : Int) : M8 (S.set i true) x = (decide (x.toNat = i) || M8 S x) := by
 unfold M8
 rw [List.getD_eq_getElem?_getD, List.getD_eq_getElem?_getD, List.getElem?_set]
 by_cases c : i = x.toNat
 ·rw [if_pos c, if_pos (by omega)]; simp [c]
 ·rw [if_neg c]
  have : decide (x.toNat = i) = false := by simp; exact fun e => c e.symm
  rw [this]; rfl
theorem R0g : ∀ (es : List C0) (c : Bool) (S : List Bool), (pJ es c S).2.length = S.length
 | [], c, S => rfl
 | e :: r, c, S => by
  unfold pJ
  cases M8 S e.1 == M8 S e.2.2
  ·simp only [cond_false]; rw [R0g r]; simp [stJ]
  ·simp only [cond_true]; exact R0g r c S
theorem Z0d {n : Nat} : ∀ (es : List C0) (c : Bool) (S : List Bool), S.length = n → inN n es → ∀ x, M8 S x = true → M8 (pJ es c S).2 x = true
 | [], c, S, hl, hn, x, h => h
 | e :: r, c, S, hl, hn, x, h => by
  have he := hn e (List.mem_cons_self ..)
  have hr : inN n r := fun e he => hn e (List.mem_cons_of_mem _ he)
  unfold pJ
  cases M8 S e.1 == M8 S e.2.2
  ·simp only [cond_false]
   refine Z0d r _ _ (by simp [stJ, hl]) hr x ?_
   rw [stJ, z05 (by rw [List.length_set]; omega), z05 (by omega), h]; simp
  ·simp only [cond_true]; exact Z0d r c S hl hr x h
theorem x0b {n : Nat} {P : Int → Prop} : ∀ (es : List C0) (c : Bool) (S : List Bool), S.length = n → inN n es → (∀ e ∈ es, P e.1 ↔ P e.2.2) → (∀ x, 0 ≤ x → M8 S x = true → P x) → ∀ x, 0 ≤ x → M8 (pJ es c S).2 x = true → P x
 | [], c, S, hl, hn, hc, hs, x, h0, h => hs x h0 h
 | e :: r, c, S, hl, hn, hc, hs, x, h0, h => by
  have he := hn e (List.mem_cons_self ..)
  have hr : inN n r := fun e he => hn e (List.mem_cons_of_mem _ he)
  have hc' := fun e he => hc e (List.mem_cons_of_mem _ he)
  have hce := hc e (List.mem_cons_self ..)
  unfold pJ at h
  cases hb : M8 S e.1 == M8 S e.2.2
  ·rw [hb] at h
   refine x0b r true (stJ S e) (by simp [stJ, hl]) hr hc' (fun y hy h => ?_) x h0 h
   rw [stJ, z05 (by rw [List.length_set]; omega), z05 (by omega)] at h
   simp only [Bool.or_eq_true, decide_eq_true_eq] at h
   have hor : P e.1 ∨ P e.2.2 := by
    cases h1 : M8 S e.1
    ·cases h2 : M8 S e.2.2
     ·rw [h1, h2] at hb; cases hb
     ·exact .inr (hs _ he.2.1 h2)
    ·exact .inl (hs _ he.1.1 h1)
   rcases h with h | h | h
   ·have : y = e.2.2 := by omega
    subst this; exact hor.elim hce.1 id
   ·have : y = e.1 := by omega
    subst this; exact hor.elim id hce.2
   ·exact hs y hy h
  ·rw [hb] at h
   exact x0b r c S hl hr hc' hs x h0 h
theorem S0g {n : Nat} : ∀ (es : List C0) (c : Bool) (S : List Bool), S.length = n → inN n es → cF (pJ es c S).2 ≤ cF S ∧ ((pJ es c S).1 = true → c = true ∨ cF (pJ es c S).2 < cF S) ∧ ((pJ es c S).1 = false → c = false ∧ (pJ es c S).2 = S ∧ ∀ e ∈ es, M8 S e.1 = M8 S e.2.2)
 | [], c, S, hl, hn => ⟨Nat.le_refl _, fun h => .inl h, fun h => ⟨h, rfl, fun e he => nomatch he⟩⟩
 | e :: r, c, S, hl, hn => by
  have he := hn e (List.mem_cons_self ..)
  have hr : inN n r := fun e he => hn e (List.mem_cons_of_mem _ he)
  unfold pJ
  cases hb : M8 S e.1 == M8 S e.2.2
  ·simp only [cond_false]
   obtain ⟨h1, h2, h3⟩ := S0g r true (stJ S e) (by simp [stJ, hl]) hr
   have hlt : cF (stJ S e) < cF S := by
    have g : ∀ (x : Int), 0 ≤ x → x < n → M8 S x = false → S[x.toNat]? = some false := fun x hx hx2 hg => by
     have hk : x.toNat < S.length := by omega
     unfold M8 at hg
     rw [List.getD_eq_getElem?_getD, List.getElem?_eq_getElem hk] at hg
     rw [List.getElem?_eq_getElem hk]; simpa using hg
    cases g1 : M8 S e.1
    ·have := g0k S _ (g _ he.1.1 he.1.2 g1)
     have := Q0g (S.set e.1.toNat true) e.2.2.toNat
     unfold stJ; omega
    ·have g2 : M8 S e.2.2 = false := by
      cases g2 : M8 S e.2.2
      ·rfl
      ·rw [g1, g2] at hb; cases hb
     have g3 : (S.set e.1.toNat true)[e.2.2.toNat]? = some false := by
      rw [List.getElem?_set]
      by_cases q : e.1.toNat = e.2.2.toNat
      ·exfalso
       have : e.1 = e.2.2 := by omega
       rw [this, g2] at g1; cases g1
      ·rw [if_neg q]; exact g _ he.2.1 he.2.2 g2
     have := g0k _ _ g3
     have := Q0g S e.1.toNat
     unfold stJ; omega
   refine ⟨by omega, fun _ => .inr (by omega), fun h => ?_⟩
   have := (h3 h).1; cases this
  ·simp only [cond_true]
   obtain ⟨h1, h2, h3⟩ := S0g r c S hl hr
   refine ⟨h1, h2, fun h => ⟨(h3 h).1, (h3 h).2.1, fun e' he' => ?_⟩⟩
   rcases List.mem_cons.1 he' with rfl | he'
   ·simpa using hb
   ·exact (h3 h).2.2 e' he'
theorem giB {S : List Bool} {n : Nat} (hl : S.length = n) {x : Int} (h0 : 0 ≤ x) (h1 : x < n) : gi S x = some (M8 S x) := by
 have hk : x.toNat < S.length := by omega
 have e : x = ((x.toNat : Nat) : Int) := by omega
 have h2 : gi S ((x.toNat : Nat) : Int) = some (M8 S x) := by
  rw [R08, List.getElem?_eq_getElem hk]
  unfold M8
  rw [List.getD_eq_getElem?_getD, List.getElem?_eq_getElem hk]; rfl
 rw [← e] at h2; exact h2
theorem W0c (es : List C0) {n : Nat} (hn : inN n es) (hl : es.length ≤ 9223372036854775807) : ∀ (d k fuel : Nat) (c : Bool) (S : List Bool), S.length = n → k + d = es.length → d < fuel →
  S3 es fuel c (k : Int) S = some (pJ (es.drop k) c S)
 | d, k, 0, c, S, hS, hd, hf => by omega
 | 0, k, fuel + 1, c, S, hS, hd, hf => by
  rw [S3.eq_2, if_neg (by simp; omega), D1 (by omega)]; rfl
 | d + 1, k, fuel + 1, c, S, hS, hd, hf => by
  have hk : k < es.length := by omega
  have he := N5 hk
  have hin := hn _ (List.mem_of_getElem? he)
  generalize es[k] = e at he hin
  obtain ⟨a, l, b⟩ := e
  have ih := fun c' S' h => W0c es hn hl d (k + 1) fuel c' S' h (by omega) (by omega)
  rw [S3.eq_2, if_pos (by simp; omega), J1 he]
  simp only [E3 he, Option.bind_some, giB hS hin.1.1 hin.1.2, giB hS hin.2.1 hin.2.2, j2 hk hl, giB (show (S.set a.toNat true).length = n by simp [hS]) hin.2.1 hin.2.2, pJ]
  cases hb : M8 S a == M8 S b
  ·simp only [Bool.not_false, if_true, cond_false]
   exact ih _ _ (by simp [hS])
  ·simp only [Bool.not_true, Bool.false_eq_true, if_false, cond_true]
   exact ih _ _ hS
theorem X0c (es : List C0) {n : Nat} (hn : inN n es) (hl : es.length ≤ 9223372036854775806) : ∀ (m fuel : Nat) (S : List Bool), S.length = n → cF S ≤ m → m + 1 < fuel →
  ∃ S', E4 es fuel true S = some S' ∧ S'.length = n ∧ (∀ x, M8 S x = true → M8 S' x = true) ∧ (∀ e ∈ es, M8 S' e.1 = M8 S' e.2.2) ∧
   ∀ P : Int → Prop, (∀ e ∈ es, P e.1 ↔ P e.2.2) → (∀ x, 0 ≤ x → M8 S x = true → P x) → ∀ x, 0 ≤ x → M8 S' x = true → P x
 | m, 0, S, hS, hm, hf => by omega
 | m, fuel + 1, S, hS, hm, hf => by
  have h0 := W0c es hn (by omega) es.length 0 Q0 false S hS (by omega) (by unfold Q0; omega)
  rw [show ((0 : Nat) : Int) = 0 from rfl, List.drop_zero] at h0
  obtain ⟨c1, c2, c3⟩ := S0g es false S hS hn
  have hlen := R0g es false S
  rw [E4.eq_2, if_pos rfl, h0, Option.bind_some]
  have hmono := Z0d es false S hS hn
  have hsnd := fun P => x0b (P := P) es false S hS hn
  generalize pJ es false S = q at *
  obtain ⟨c, S'⟩ := q
  simp only at c1 c2 c3 hlen hmono hsnd ⊢
  cases c with
  | true =>
   rcases c2 rfl with h | h
   ·cases h
   ·obtain ⟨S2, e1, e2, e3, e4, e5⟩ := X0c es hn hl (m - 1) fuel S' (by omega) (by omega) (by omega)
    exact ⟨S2, e1, e2, fun x hx => e3 x (hmono x hx), e4, fun P hc hs => e5 P hc (hsnd P hc hs)⟩
  | false =>
   obtain ⟨_, e, hall⟩ := c3 rfl
   subst e
   obtain _ | fuel := fuel
   ·omega
   ·rw [E4.eq_2, if_neg (by simp)]
    exact ⟨_, rfl, hS, fun x h => h, hall, fun P _ hs => hs⟩
theorem h0k (r : Int) (n : Nat) (es : List C0) (hn : inN n es) (hl : es.length ≤ 9223372036854775806) (hn2 : 1 ≤ n) (hn3 : n ≤ 140737488355328) :
  ∃ S, Y7 (r, (n : Int), es) 0 = some S ∧ S.length = n ∧ ∀ x, 0 ≤ x → x < (n : Int) → (M8 S x = true ↔ Rch es 0 x) := by
 unfold Y7
 simp only [Int.toNat_natCast]
 have hg : gi (List.replicate n (false : Bool)) 0 = some false := by
  rw [u05 (x := false)]; rw [List.getElem?_replicate, if_pos (by omega)]
 rw [J0 (by omega), Option.bind_some, hg, Option.bind_some]
 have hS : ((List.replicate n (false : Bool)).set (0 : Int).toNat true).length = n := by simp
 obtain ⟨S', e1, e2, e3, e4, e5⟩ := X0c es hn hl n Q0 _ hS (by have := C0l ((List.replicate n (false : Bool)).set (0 : Int).toNat true); omega) (by unfold Q0; omega)
 rw [e1]
 have hb : ∀ x, M8 ((List.replicate n (false : Bool)).set (0 : Int).toNat true) x = decide (x.toNat = 0) := fun x => by
  rw [z05 (by simp; omega)]
  have : M8 (List.replicate n false) x = false := by
   unfold M8
   rw [List.getD_eq_getElem?_getD, List.getElem?_replicate]
   split <;> rfl
  rw [this]; simp
 refine ⟨S', rfl, e2, fun x h0 h1 => ⟨fun h => ?_, fun h => ?_⟩⟩
 ·refine e5 (Rch es 0) Rch.closed (fun y hy h => ?_) x h0 h
  rw [hb] at h
  have : y = 0 := by simp at h; omega
  subst this; exact .base
 ·exact Rch.sub (P := fun x => M8 S' x = true) (e3 0 (by rw [hb]; rfl)) (fun e he => by rw [e4 e he]) h
theorem D0l (l : List Int) (w : Int) (hl : l.length ≤ 9223372036854775807) : ∀ (d k fuel : Nat), k + d = l.length → d < fuel →
  J7 l w fuel (k : Int) = some (if w ∈ l.drop k then .inl true else .inr ())
 | d, k, 0, hd, hf => by omega
 | 0, k, fuel + 1, hd, hf => by
  rw [J7.eq_2, if_neg (by simp; omega), D1 (by omega)]; simp
 | d + 1, k, fuel + 1, hd, hf => by
  have hk : k < l.length := by omega
  have hx := N5 hk
  generalize l[k] = x at hx
  have ih := D0l l w hl d (k + 1) fuel (by omega) (by omega)
  rw [J7.eq_2, if_pos (by simp; omega), J1 hx]
  simp only [E3 hx, Option.bind_some, j2 hk hl, ih, List.mem_cons]
  by_cases c : x = w
  ·rw [if_pos (by simpa using c), if_pos (.inl c.symm)]
  ·rw [if_neg (by simpa using c)]
   by_cases c2 : w ∈ l.drop (k + 1)
   ·rw [if_pos c2, if_pos (.inr c2)]
   ·rw [if_neg c2, if_neg (fun h => h.elim (fun e => c e.symm) c2)]
theorem w0a (l : List Int) (w : Int) (hl : l.length ≤ 9223372036854775807) : Z7 l w = some (decide (w ∈ l)) := by
 unfold Z7
 have h := D0l l w hl l.length 0 Q0 (by omega) (by unfold Q0; omega)
 rw [show ((0 : Nat) : Int) = 0 from rfl, List.drop_zero] at h
 rw [h, Option.bind_some]
 by_cases c : w ∈ l
 ·rw [if_pos c]; simp [V6, c]
 ·rw [if_neg c]; simp [V6, c]
def s1 (u : List Int) (e : C0) : List Int := if e.1 ∈ u then g9 O7 e.2.2 u else u
def s2 (u : List Int) (e : C0) : List Int := if e.2.2 ∈ u then g9 O7 e.1 u else u
def pS : List C0 → List Int → List Int
 | [], u => u
 | e :: r, u => pS r (s2 (s1 u e) e)
theorem X08 {u : List Int} {e : C0} {x : Int} : x ∈ s1 u e ↔ x ∈ u ∨ (e.1 ∈ u ∧ x = e.2.2) := by
 unfold s1
 split
 ·rename_i h; rw [U03 P00]; constructor
  ·rintro (h1 | h1)
   ·exact .inr ⟨h, h1⟩
   ·exact .inl h1
  ·rintro (h1 | ⟨_, h1⟩)
   ·exact .inr h1
   ·exact .inl h1
 ·rename_i h; constructor
  ·exact .inl
  ·rintro (h1 | ⟨h1, _⟩)
   ·exact h1
   ·exact absurd h1 h
theorem Y08 {u : List Int} {e : C0} {x : Int} : x ∈ s2 u e ↔ x ∈ u ∨ (e.2.2 ∈ u ∧ x = e.1) := by
 unfold s2
 split
 ·rename_i h; rw [U03 P00]; constructor
  ·rintro (h1 | h1)
   ·exact .inr ⟨h, h1⟩
   ·exact .inl h1
  ·rintro (h1 | ⟨_, h1⟩)
   ·exact .inr h1
   ·exact .inl h1
 ·rename_i h; constructor
  ·exact .inl
  ·rintro (h1 | ⟨h1, _⟩)
   ·exact h1
   ·exact absurd h1 h
theorem i0k (u : List Int) (e : C0) : (s1 u e).length ≤ u.length + 1 := by
 unfold s1; split
 ·exact X03 _ _
 ·omega
theorem j0k (u : List Int) (e : C0) : (s2 u e).length ≤ u.length + 1 := by
 unfold s2; split
 ·exact X03 _ _
 ·omega
theorem T0g : ∀ (es : List C0) (u : List Int), (pS es u).length ≤ u.length + 2 * es.length
 | [], u => by simp [pS]
 | e :: r, u => by
  have := T0g r (s2 (s1 u e) e)
  have := j0k (s1 u e) e
  have := i0k u e
  simp only [pS, List.length_cons]; omega
theorem B04 : ∀ (es : List C0) (u : List Int) (x : Int), x ∈ u → x ∈ pS es u
 | [], u, x, h => h
 | e :: r, u, x, h => B04 r _ x (Y08.2 (.inl (X08.2 (.inl h))))
theorem y0b {P : Int → Prop} : ∀ (es : List C0) (u : List Int), (∀ e ∈ es, P e.1 ↔ P e.2.2) → (∀ x ∈ u, P x) → ∀ x ∈ pS es u, P x
 | [], u, hc, hs => hs
 | e :: r, u, hc, hs => y0b r _ (fun e he => hc e (List.mem_cons_of_mem _ he)) fun x hx => by
  have hce := hc e (List.mem_cons_self ..)
  have h1 : ∀ y ∈ s1 u e, P y := fun y hy => by
   rcases X08.1 hy with h | ⟨h, rfl⟩
   ·exact hs y h
   ·exact hce.1 (hs _ h)
  rcases Y08.1 hx with h | ⟨h, rfl⟩
  ·exact h1 x h
  ·exact hce.2 (h1 _ h)
theorem r0f : ∀ (es : List C0) (u : List Int) (e : C0), e ∈ es → e.1 ∈ u ∨ e.2.2 ∈ u → e.1 ∈ pS es u ∧ e.2.2 ∈ pS es u
 | e' :: r, u, e, he, h => by
  simp only [pS]
  rcases List.mem_cons.1 he with rfl | he
  ·have h2 : e.2.2 ∈ s1 u e := by
    rcases h with h | h
    ·exact X08.2 (.inr ⟨h, rfl⟩)
    ·exact X08.2 (.inl h)
   exact ⟨B04 r _ _ (Y08.2 (.inr ⟨h2, rfl⟩)), B04 r _ _ (Y08.2 (.inl h2))⟩
  ·exact r0f r _ e he (h.imp (fun h => Y08.2 (.inl (X08.2 (.inl h)))) fun h => Y08.2 (.inl (X08.2 (.inl h))))
def act (es : List C0) (u : List Int) : Nat := es.countP fun e => decide (e.1 ∈ u) && decide (e.2.2 ∈ u)
def clo (es : List C0) (u : List Int) : Prop := ∀ e ∈ es, e.1 ∈ u ↔ e.2.2 ∈ u
theorem f0m (es : List C0) (u : List Int) : act es u ≤ es.length := List.countP_le_length
theorem Y0c {α : Type} {p q : α → Bool} : ∀ {l : List α}, (∀ x ∈ l, p x = true → q x = true) → (∃ x ∈ l, p x = false ∧ q x = true) → l.countP p < l.countP q
 | [], _, ⟨x, hx, _⟩ => nomatch hx
 | y :: l, h, ⟨x, hx, h1, h2⟩ => by
  have hle : l.countP p ≤ l.countP q := List.countP_mono_left fun z hz => h z (List.mem_cons_of_mem _ hz)
  rcases List.mem_cons.1 hx with rfl | hx
  ·rw [List.countP_cons_of_neg (by simp [h1]), List.countP_cons_of_pos h2]; omega
  ·have ih := Y0c (l := l) (fun z hz => h z (List.mem_cons_of_mem _ hz)) ⟨x, hx, h1, h2⟩
   cases hp : p y
   ·rw [List.countP_cons_of_neg (by simp [hp])]
    have : l.countP q ≤ (y :: l).countP q := by rw [List.countP_cons]; omega
    omega
   ·rw [List.countP_cons_of_pos hp, List.countP_cons_of_pos (h y (List.mem_cons_self ..) hp)]; omega
theorem Z07 {es : List C0} {u : List Int} (h : clo es u) (x : Int) : x ∈ pS es u ↔ x ∈ u :=
 ⟨y0b (P := fun x => x ∈ u) es u h (fun _ h => h) x, B04 es u x⟩
theorem k0k {es : List C0} {u : List Int} : clo es (pS es u) ∨ act es u < act es (pS es u) := by
 by_cases h : clo es u
 ·left
  intro e he
  rw [Z07 h, Z07 h]; exact h e he
 ·right
  have : ∃ e ∈ es, ¬ (e.1 ∈ u ↔ e.2.2 ∈ u) := by
   refine Classical.byContradiction fun hn => h fun e he => ?_
   exact Classical.byContradiction fun h2 => hn ⟨e, he, h2⟩
  obtain ⟨e, he, hne⟩ := this
  refine Y0c (fun x hx h => ?_) ⟨e, he, ?_, ?_⟩
  ·simp only [Bool.and_eq_true, decide_eq_true_eq] at h ⊢
   exact ⟨B04 _ _ _ h.1, B04 _ _ _ h.2⟩
  ·rw [Bool.eq_false_iff]
   intro h
   simp only [Bool.and_eq_true, decide_eq_true_eq] at h
   exact hne ⟨fun _ => h.2, fun _ => h.1⟩
  ·have ht : e.1 ∈ u ∨ e.2.2 ∈ u := by
    refine Classical.byContradiction fun hn => hne ⟨fun h => absurd (.inl h) hn, fun h => absurd (.inr h) hn⟩
   have := r0f es u e he ht
   simp only [Bool.and_eq_true, decide_eq_true_eq]; exact this
def itS (es : List C0) : Nat → List Int → List Int
 | 0, u => u
 | j + 1, u => itS es j (pS es u)
theorem T0h (es : List C0) : ∀ (j : Nat) (u : List Int), (itS es j u).length ≤ u.length + j * (2 * es.length)
 | 0, u => by simp [itS]
 | j + 1, u => by have := T0h es j (pS es u); have := T0g es u; simp only [itS, Nat.add_mul, Nat.one_mul]; omega
theorem U0h (es : List C0) : ∀ (j : Nat) (u : List Int), clo es u → clo es (itS es j u)
 | 0, u, h => h
 | j + 1, u, h => U0h es j _ fun e he => by rw [Z07 h, Z07 h]; exact h e he
theorem V0h (es : List C0) : ∀ (j : Nat) (u : List Int), clo es (itS es j u) ∨ act es u + j ≤ act es (itS es j u)
 | 0, u => .inr (Nat.le_refl _)
 | j + 1, u => by
  rcases k0k (es := es) (u := u) with h | h
  ·exact .inl (U0h es j _ h)
  ·rcases V0h es j (pS es u) with h2 | h2
   ·exact .inl h2
   ·right; simp only [itS]; omega
theorem s0f (es : List C0) : ∀ (j : Nat) (u : List Int) (x : Int), x ∈ u → x ∈ itS es j u
 | 0, u, x, h => h
 | j + 1, u, x, h => s0f es j _ x (B04 es u x h)
theorem Z0c {P : Int → Prop} (es : List C0) (hc : ∀ e ∈ es, P e.1 ↔ P e.2.2) : ∀ (j : Nat) (u : List Int), (∀ x ∈ u, P x) → ∀ x ∈ itS es j u, P x
 | 0, u, hs => hs
 | j + 1, u, hs => Z0c es hc j _ (y0b es u hc hs)
theorem x0a (es : List C0) (v x : Int) : x ∈ itS es (es.length + 1) [v] ↔ Rch es v x := by
 constructor
 ·exact Z0c (P := Rch es v) es Rch.closed _ _ (fun y hy => by simp at hy; subst hy; exact .base) x
 ·have hc : clo es (itS es (es.length + 1) [v]) := by
   rcases V0h es (es.length + 1) [v] with h | h
   ·exact h
   ·have := f0m es (itS es (es.length + 1) [v]); omega
  exact Rch.sub (P := fun x => x ∈ itS es (es.length + 1) [v]) (s0f _ _ _ _ (by simp)) hc
theorem z0b (es : List C0) (hl : es.length ≤ 9223372036854775807) : ∀ (d k fuel : Nat) (u : List Int), k + d = es.length → d < fuel → u.length + 2 * d ≤ 1099511627776 →
  V2 es fuel u (k : Int) = some (pS (es.drop k) u)
 | d, k, 0, u, hd, hf, hu => by omega
 | 0, k, fuel + 1, u, hd, hf, hu => by
  rw [V2.eq_2, if_neg (by simp; omega), D1 (by omega)]; rfl
 | d + 1, k, fuel + 1, u, hd, hf, hu => by
  have hk : k < es.length := by omega
  have he := N5 hk
  generalize es[k] = e at he
  obtain ⟨a, l, b⟩ := e
  have ih := fun u' h => z0b es hl d (k + 1) fuel u' (by omega) (by omega) h
  have g1 := i0k u (a, l, b)
  have g2 := j0k (s1 u (a, l, b)) (a, l, b)
  rw [V2.eq_2, if_pos (by simp; omega), J1 he]
  simp only [E3 he, Option.bind_some, w0a u _ (by omega), j2 hk hl, pS]
  by_cases c : a ∈ u
  ·rw [if_pos (by simpa using c), R07 _ _ (by omega), Option.bind_some]
   have e1 : s1 u (a, l, b) = g9 O7 b u := if_pos c
   rw [e1] at g1 g2 ⊢
   rw [w0a _ _ (by omega), Option.bind_some]
   by_cases c2 : b ∈ g9 O7 b u
   ·rw [if_pos (by simpa using c2), R07 _ _ (by omega), Option.bind_some]
    have e2 : s2 (g9 O7 b u) (a, l, b) = g9 O7 a (g9 O7 b u) := if_pos c2
    rw [e2] at g2 ⊢
    exact ih _ (by omega)
   ·rw [if_neg (by simpa using c2)]
    have e2 : s2 (g9 O7 b u) (a, l, b) = g9 O7 b u := if_neg c2
    rw [e2]
    exact ih _ (by omega)
  ·rw [if_neg (by simpa using c)]
   have e1 : s1 u (a, l, b) = u := if_neg c
   rw [e1] at g2 ⊢
   by_cases c2 : b ∈ u
   ·rw [if_pos (by simpa using c2), R07 _ _ (by omega), Option.bind_some]
    have e2 : s2 u (a, l, b) = g9 O7 a u := if_pos c2
    rw [e2] at g2 ⊢
    exact ih _ (by omega)
   ·rw [if_neg (by simpa using c2)]
    have e2 : s2 u (a, l, b) = u := if_neg c2
    rw [e2]
    exact ih _ (by omega)
theorem A0b (es : List C0) (hl : es.length ≤ 120) : ∀ (d k fuel : Nat) (u : List Int), k + d = es.length + 1 → d < fuel → u.length ≤ 1 + k * 240 →
  P4 es fuel u (k : Int) = some (itS es d u)
 | d, k, 0, u, hd, hf, hu => by omega
 | 0, k, fuel + 1, u, hd, hf, hu => by
  rw [P4.eq_2, if_neg (by rw [w64 (by omega) (by omega)]; simp; omega)]; rfl
 | d + 1, k, fuel + 1, u, hd, hf, hu => by
  have h0 := z0b es (by omega) es.length 0 Q0 u (by omega) (Y0 (by omega)) (by omega)
  rw [show ((0 : Nat) : Int) = 0 from rfl, List.drop_zero] at h0
  have ih := A0b es hl d (k + 1) fuel (pS es u) (by omega) (by omega) (by have := T0g es u; omega)
  rw [P4.eq_2, if_pos (by rw [w64 (by omega) (by omega)]; simp; omega), h0, Option.bind_some, j2 (show k < 1000 by omega) (by omega), ih]
  rfl
end Go.Proofs.YtfdlgbfeceodeaaGreat
namespace Go.Proofs.YtfdlgbfeceodeaaGreat
open Go.H
set_option linter.unusedVariables false
set_option linter.unusedSimpArgs false
def getI (P : List Int) (v : Int) : Int := P.getD v.toNat (-1)
def F9 : List Int → Nat → List Int → List Int
 | A, k, [] => A
 | A, k, v :: r => F9 (A.set v.toNat (k : Int)) (k + 1) r
def plc (n : Nat) (o : List Int) : List Int := F9 (List.replicate n (-1)) 0 o
theorem B0b : ∀ (o : List Int) (k : Nat) (A : List Int), (F9 A k o).length = A.length
 | [], k, A => rfl
 | v :: r, k, A => by rw [F9, B0b r]; simp
def inV (n : Nat) (o : List Int) : Prop := ∀ v ∈ o, 0 ≤ v ∧ v < (n : Int)
theorem giI {P : List Int} {n : Nat} (hl : P.length = n) {x : Int} (h0 : 0 ≤ x) (h1 : x < n) : gi P x = some (getI P x) := by
 have hk : x.toNat < P.length := by omega
 have e : x = ((x.toNat : Nat) : Int) := by omega
 have h2 : gi P ((x.toNat : Nat) : Int) = some (getI P x) := by
  rw [R08, List.getElem?_eq_getElem hk]
  unfold getI
  rw [List.getD_eq_getElem?_getD, List.getElem?_eq_getElem hk]; rfl
 rw [← e] at h2; exact h2
theorem Z01 {A : List Int} {v x : Int} {y : Int} (h0 : 0 ≤ v) (h1 : v.toNat < A.length) (hx : 0 ≤ x) : getI (A.set v.toNat y) x = if x = v then y else getI A x := by
 unfold getI
 rw [List.getD_eq_getElem?_getD, List.getD_eq_getElem?_getD, List.getElem?_set]
 by_cases c : x = v
 ·rw [if_pos c, if_pos (by rw [c]), if_pos h1]; rfl
 ·rw [if_neg c, if_neg (by omega)]
theorem a08 {n : Nat} : ∀ (o : List Int) (k : Nat) (A : List Int), A.length = n → inV n o → (∀ x, 0 ≤ x → -1 ≤ getI A x ∧ getI A x < (k : Int)) → ∀ x, 0 ≤ x → -1 ≤ getI (F9 A k o) x ∧ getI (F9 A k o) x < ((k + o.length : Nat) : Int)
 | [], k, A, hA, ho, h, x, hx => h x hx
 | v :: r, k, A, hA, ho, h, x, hx => by
  have hv := ho v (List.mem_cons_self ..)
  have := a08 r (k + 1) (A.set v.toNat (k : Int)) (by simp [hA]) (fun w hw => ho w (List.mem_cons_of_mem _ hw)) (fun y hy => by
   rw [Z01 hv.1 (by omega) hy]
   have := h y hy
   split <;> omega) x hx
  rw [F9, List.length_cons, show k + (r.length + 1) = k + 1 + r.length by omega]; exact this
theorem A05 (n : Nat) (x : Int) : getI (List.replicate n (-1)) x = -1 := by
 unfold getI
 rw [List.getD_eq_getElem?_getD, List.getElem?_replicate]
 split <;> rfl
theorem Y03 {n : Nat} {o : List Int} (ho : inV n o) {x : Int} (hx : 0 ≤ x) : -1 ≤ getI (plc n o) x ∧ getI (plc n o) x < (o.length : Int) := by
 have := a08 o 0 (List.replicate n (-1)) (by simp) ho (fun x hx => by rw [A05]; omega) x hx
 rw [Nat.zero_add] at this; exact this
theorem W0h (n : Nat) (o : List Int) : (plc n o).length = n := by unfold plc; rw [B0b]; simp
def pE (P : List Int) : List C0 → List C0
 | [] => []
 | e :: r => bif decide (0 ≤ getI P e.1) && decide (0 ≤ getI P e.2.2) then (getI P e.1, e.2.1, getI P e.2.2) :: pE P r else pE P r
theorem a0e (P : List Int) : ∀ es, (pE P es).length ≤ es.length
 | [] => by simp [pE]
 | e :: r => by
  have := a0e P r
  unfold pE
  cases decide (0 ≤ getI P e.1) && decide (0 ≤ getI P e.2.2) <;> simp only [cond_true, cond_false, List.length_cons] <;> omega
theorem E0l {n : Nat} {o : List Int} (ho : inV n o) : ∀ (es : List C0), inN n es → inN o.length (pE (plc n o) es)
 | [], hn => fun e he => nomatch he
 | e :: r, hn => by
  have hr := E0l ho r fun e he => hn e (List.mem_cons_of_mem _ he)
  have he := hn e (List.mem_cons_self ..)
  unfold pE
  cases hb : decide (0 ≤ getI (plc n o) e.1) && decide (0 ≤ getI (plc n o) e.2.2)
  ·simpa only [cond_false] using hr
  ·simp only [cond_true]
   simp only [Bool.and_eq_true, decide_eq_true_eq] at hb
   intro e' he'
   rcases List.mem_cons.1 he' with rfl | he'
   ·exact ⟨⟨hb.1, (Y03 ho he.1.1).2⟩, hb.2, (Y03 ho he.2.1).2⟩
   ·exact hr e' he'
def n9 (g : l0) (o : List Int) : l0 := (g.1, (o.length : Int), o5 H0 [] (pE (plc g.2.1.toNat o) g.2.2))
theorem a02 : ∀ (r l : List C0), (o5 H0 l r).length ≤ l.length + r.length
 | [], l => by simp [o5]
 | e :: r, l => by have := a02 r (g9 H0 e l); have := r02 e l; simp only [o5, List.length_cons]; omega
theorem C0b (g : l0) (o : List Int) : (n9 g o).2.2.length ≤ g.2.2.length := by
 have := a02 (pE (plc g.2.1.toNat o) g.2.2) []
 have := a0e (plc g.2.1.toNat o) g.2.2
 simp only [n9, List.length_nil] at *; omega
theorem W0i {n : Nat} {r : Int} {es : List C0} {o : List Int} (ho : inV n o) (hn : inN n es) : inN o.length (n9 (r, (n : Int), es) o).2.2 := by
 intro e he
 simp only [n9, Int.toNat_natCast] at he
 rcases (T7 O4 e _ _).1 he with h | h
 ·cases h
 ·exact E0l ho es hn e h
theorem X0h (n : Nat) (hn : n ≤ 140737488355328) : ∀ (d k fuel : Nat), k + d = n → d < fuel →
  f8 n fuel (k : Int) (List.replicate k (-1) ++ List.replicate d 0) = some (List.replicate n (-1))
 | d, k, 0, hd, hf => by omega
 | 0, k, fuel + 1, hd, hf => by
  rw [f8.eq_2, if_neg (by simp; omega), show k = n by omega]; simp
 | d + 1, k, fuel + 1, hd, hf => by
  have hg : gi (List.replicate k (-1) ++ List.replicate (d + 1) (0 : Int)) (k : Int) = some 0 := by
   rw [R08, List.getElem?_append_right (by simp)]; simp
  have ih := X0h n hn d (k + 1) fuel (by omega) (by omega)
  rw [f8.eq_2, if_pos (by simp; omega), hg, Option.bind_some, j2 (show k < n by omega) (by omega), Int.toNat_natCast]
  have e : (List.replicate k (-1) ++ List.replicate (d + 1) (0 : Int)).set k (-1) = List.replicate (k + 1) (-1) ++ List.replicate d 0 := by
   rw [List.set_append_right _ _ (by simp), List.length_replicate, Nat.sub_self, List.replicate_succ, List.set_cons_zero, List.replicate_succ']
   simp
  rw [e, ih]
theorem Y0h (o : List Int) {n : Nat} (ho : inV n o) (hl : o.length ≤ 9223372036854775807) : ∀ (d k fuel : Nat) (A : List Int), A.length = n → k + d = o.length → d < fuel →
  d8 o fuel (k : Int) A = some (F9 A k (o.drop k))
 | d, k, 0, A, hA, hd, hf => by omega
 | 0, k, fuel + 1, A, hA, hd, hf => by
  rw [d8.eq_2, if_neg (by simp; omega), D1 (by omega)]; rfl
 | d + 1, k, fuel + 1, A, hA, hd, hf => by
  have hk : k < o.length := by omega
  have hx := N5 hk
  have hin := ho _ (List.mem_of_getElem? hx)
  generalize o[k] = v at hx hin
  have ih := Y0h o ho hl d (k + 1) fuel (A.set v.toNat (k : Int)) (by simp [hA]) (by omega) (by omega)
  rw [d8.eq_2, if_pos (by simp; omega), J1 hx, E3 hx, Option.bind_some, giI hA hin.1 hin.2, Option.bind_some, j2 hk hl, ih]
  rfl
theorem Z0h (es : List C0) {n : Nat} (hn : inN n es) (hl : es.length ≤ 1099511627776) (P : List Int) (hP : P.length = n) (r m : Int) : ∀ (d k fuel : Nat) (acc : List C0), k + d = es.length → d < fuel → acc.length ≤ k →
  B7 es P fuel (k : Int) r m acc = some (r, m, acc ++ pE P (es.drop k))
 | d, k, 0, acc, hd, hf, ha => by omega
 | 0, k, fuel + 1, acc, hd, hf, ha => by
  rw [B7.eq_2, if_neg (by simp; omega), D1 (by omega)]; simp [pE]
 | d + 1, k, fuel + 1, acc, hd, hf, ha => by
  have hk : k < es.length := by omega
  have he := N5 hk
  have hin := hn _ (List.mem_of_getElem? he)
  generalize es[k] = e at he hin
  obtain ⟨a, l, b⟩ := e
  have ih := fun acc' h => Z0h es hn hl P hP r m d (k + 1) fuel acc' (by omega) (by omega) h
  rw [B7.eq_2, if_pos (by simp; omega), J1 he]
  simp only [E3 he, Option.bind_some, giI hP hin.1.1 hin.1.2, giI hP hin.2.1 hin.2.2, j2 hk (show es.length ≤ 9223372036854775807 by omega), pE]
  by_cases c1 : 0 ≤ getI P a
  ·simp only [show decide (getI P a ≥ 0) = true by simpa using c1, T1, Option.bind_some, cond_true, show decide (0 ≤ getI P a) = true by simpa using c1, Bool.true_and]
   by_cases c2 : 0 ≤ getI P b
   ·rw [if_pos (by simpa using c2), J0 (by simp; omega), Option.bind_some, ih _ (by simp; omega)]
    simp [c2]
   ·rw [if_neg (by simpa using c2), ih _ (by omega)]
    simp [c2]
  ·simp only [show decide (getI P a ≥ 0) = false by simpa using c1, J4, Option.bind_some, cond_false, show decide (0 ≤ getI P a) = false by simpa using c1, Bool.false_and]
   rw [if_neg (by simp), ih _ (by omega)]
theorem l0k (r : Int) (n : Nat) (es : List C0) (o : List Int) (hn : inN n es) (ho : inV n o) (hn2 : n ≤ 1000000) (hl : es.length ≤ 1099511627776) (hl2 : o.length ≤ 1099511627776) :
  e01 (r, (n : Int), es) o = some (n9 (r, (n : Int), es) o) := by
 unfold e01
 have h2 := X0h n (by omega) n 0 Q0 (by omega) (Y0 (by omega))
 have h1 := Y0h o ho (by omega) o.length 0 Q0 (List.replicate n (-1)) (by simp) (by omega) (Y0 (by omega))
 have h0 := Z0h es hn hl (plc n o) (W0h n o) r ((o.length : Nat) : Int) es.length 0 Q0 [] (by omega) (Y0 (by omega)) (Nat.le_refl _)
 rw [show ((0 : Nat) : Int) = 0 from rfl] at h0 h1 h2
 rw [List.replicate_zero, List.nil_append] at h2
 rw [List.drop_zero] at h1
 rw [List.drop_zero, List.nil_append] at h0
 simp only [Int.toNat_natCast]
 rw [J0 (by omega), Option.bind_some, Option.bind_some, List.length_replicate, J0 (by omega), Option.bind_some, h2, Option.bind_some, h1, Option.bind_some]
 rw [show F9 (List.replicate n (-1)) 0 o = plc n o from rfl, h0]
 simp only [Option.bind_some]
 rw [Y07 _ (by have := a0e (plc n o) es; omega), Option.bind_some]
 rfl
theorem m0k (A : List Int) (i k : Nat) : (A.map (· + 1)).set i (((k + 1 : Nat) : Int)) = (A.set i (k : Int)).map (· + 1) := by
 rw [List.map_set]; rfl
theorem D0b {A : List Int} {n : Nat} (hA : A.length = n) {x : Int} (h0 : 0 ≤ x) (h1 : x < n) : gi (A.map (· + 1)) x = some (getI A x + 1) := by
 have hk : x.toNat < A.length := by omega
 have e : x = ((x.toNat : Nat) : Int) := by omega
 have h2 : gi (A.map (· + 1)) ((x.toNat : Nat) : Int) = some (getI A x + 1) := by
  rw [R08, List.getElem?_map, List.getElem?_eq_getElem hk]
  unfold getI
  rw [List.getD_eq_getElem?_getD, List.getElem?_eq_getElem hk]; rfl
 rw [← e] at h2; exact h2
theorem E0b {n : Nat} : ∀ (o : List Int) (k : Nat) (A : List Int) (x : Int), A.length = n → inV n o → 0 ≤ x → x ∉ o → getI (F9 A k o) x = getI A x
 | [], k, A, x, hA, ho, hx, h => rfl
 | v :: r, k, A, x, hA, ho, hx, h => by
  have hv := ho v (List.mem_cons_self ..)
  rw [F9, E0b r _ _ x (by simp [hA]) (fun w hw => ho w (List.mem_cons_of_mem _ hw)) hx (fun hm => h (List.mem_cons_of_mem _ hm)), Z01 hv.1 (by omega) hx, if_neg (fun e => h (by rw [e]; exact List.mem_cons_self ..))]
theorem n0k (r : Int) (n : Nat) (es : List C0) (o : List Int) (ho : inV n o) (hd' : o.Nodup) (hn2 : 1 ≤ n ∧ n ≤ 1000000) (hl : o.length ≤ 1099511627776) : ∀ (d k fuel : Nat) (A : List Int), A.length = n → (∀ x, 0 ≤ x → -1 ≤ getI A x ∧ getI A x ≤ 1099511627776) → (∀ x ∈ o.drop k, getI A x = -1) → k + d = o.length → d < fuel →
  d4 o (n : Int) r es fuel (k : Int) (A.map (· + 1)) = some (.inr ((F9 A k (o.drop k)).map (· + 1)))
 | d, k, 0, A, hA, hr, hm, hd, hf => by omega
 | 0, k, fuel + 1, A, hA, hr, hm, hd, hf => by
  rw [d4.eq_2, if_neg (by simp; omega), D1 (by omega)]; rfl
 | d + 1, k, fuel + 1, A, hA, hr, hm, hd, hf => by
  have hk : k < o.length := by omega
  have hx := N5 hk
  have hin := ho _ (List.mem_of_getElem? hx)
  have hdr := J1 hx
  generalize o[k] = v at hx hin hdr
  have hnd : (o.drop k).Nodup := hd'.sublist (List.drop_sublist _ _)
  rw [hdr] at hnd hm
  have hA0 := hm v (List.mem_cons_self ..)
  have ih := n0k r n es o ho hd' hn2 hl d (k + 1) fuel (A.set v.toNat (k : Int)) (by simp [hA]) (fun x hx => by
   rw [Z01 hin.1 (by omega) hx]; have := hr x hx; split <;> omega) (fun x hx => by
   have hx0 := ho x (List.mem_of_mem_drop hx)
   rw [Z01 hin.1 (by omega) hx0.1, if_neg (fun e => (List.nodup_cons.1 hnd).1 (by rw [← e]; exact hx))]
   exact hm x (List.mem_cons_of_mem _ hx)) (by omega) (by omega)
  rw [d4.eq_2, if_pos (by simp; omega), hdr, E3 hx]
  simp only [Option.bind_some, f02, w64 (show -9223372036854775808 ≤ (n : Int) - 1 by omega) (show (n : Int) - 1 ≤ 9223372036854775807 by omega), inR, show decide (0 ≤ v) = true by simpa using hin.1, show decide (v ≤ (n : Int) - 1) = true by simp; omega, Bool.and_self, Bool.not_true, Bool.not_false, T1, D0b hA hin.1 hin.2, hA0, cond_false]
  rw [if_neg (by decide), j2 hk (by omega), m0k, ih]
  rfl
theorem o0k (es : List C0) {n : Nat} (hn : inN n es) (hl : es.length ≤ 1099511627776) (P : List Int) (hP : P.length = n) (hr : ∀ x, 0 ≤ x → -1 ≤ getI P x ∧ getI P x ≤ 1099511627776) (r m : Int) : ∀ (d k fuel : Nat) (acc : List C0), k + d = es.length → d < fuel → acc.length ≤ k →
  I3 es (P.map (· + 1)) fuel (k : Int) r m acc = some (r, m, o5 H0 acc (pE P (es.drop k)))
 | d, k, 0, acc, hd, hf, ha => by omega
 | 0, k, fuel + 1, acc, hd, hf, ha => by
  rw [I3.eq_2, if_neg (by simp; omega), D1 (by omega)]; rfl
 | d + 1, k, fuel + 1, acc, hd, hf, ha => by
  have hk : k < es.length := by omega
  have he := N5 hk
  have hin := hn _ (List.mem_of_getElem? he)
  generalize es[k] = e at he hin
  obtain ⟨a, l, b⟩ := e
  have ih := fun acc' h => o0k es hn hl P hP hr r m d (k + 1) fuel acc' (by omega) (by omega) h
  have ra := hr a hin.1.1
  have rb := hr b hin.2.1
  rw [I3.eq_2, if_pos (by simp; omega), J1 he]
  simp only [E3 he, Option.bind_some, D0b hP hin.1.1 hin.1.2, D0b hP hin.2.1 hin.2.2, j2 hk (show es.length ≤ 9223372036854775807 by omega), pE]
  by_cases c1 : 0 ≤ getI P a
  ·simp only [show decide (getI P a + 1 > 0) = true by simp; omega, T1, Option.bind_some, cond_true, show decide (0 ≤ getI P a) = true by simpa using c1, Bool.true_and]
   by_cases c2 : 0 ≤ getI P b
   ·rw [if_pos (by simp; omega), w64 (by omega) (by omega), w64 (by omega) (by omega), show getI P a + 1 - 1 = getI P a by omega, show getI P b + 1 - 1 = getI P b by omega]
    rw [A04 _ _ (by omega), Option.bind_some, ih _ (by have := r02 (getI P a, l, getI P b) acc; omega)]
    simp [c2, o5]
   ·rw [if_neg (by simp; omega), ih _ (by omega)]
    simp [c2]
  ·simp only [show decide (getI P a + 1 > 0) = false by simp; omega, J4, Option.bind_some, cond_false, show decide (0 ≤ getI P a) = false by simpa using c1, Bool.false_and]
   rw [if_neg (by simp), ih _ (by omega)]
theorem F0b (r : Int) (n : Nat) (es : List C0) (o : List Int) (hg : O0 (r, (n : Int), es) = true) (ho : inV n o) (hd : o.Nodup) (h1 : 1 ≤ o.length) (h2 : o.length ≤ n) :
  w6 (r, (n : Int), es) o = some (n9 (r, (n : Int), es) o, true) := by
 obtain ⟨q1, q2, q3, q4⟩ := O1 hg
 simp only at q2 q3 q4
 have hn : inN n es := fun e he => ⟨(q1 e he).1, (q1 e he).2.1⟩
 have hG := i6 (r, (n : Int), es) (by simp only; omega)
 unfold w6
 have e1 := n0k r n es o ho hd (by omega) (by omega) o.length 0 Q0 (List.replicate n (-1)) (by simp) (fun x hx => by rw [A05]; omega) (fun x hx => A05 n x) (by omega) (Y0 (by omega))
 have e0 := o0k es hn (by omega) (plc n o) (W0h n o) (fun x hx => by have := Y03 ho hx; omega) r ((o.length : Nat) : Int) es.length 0 Q0 [] (by omega) (Y0 (by omega)) (Nat.le_refl _)
 rw [show ((0 : Nat) : Int) = 0 from rfl, List.drop_zero] at e0 e1
 rw [show (List.replicate n (-1 : Int)).map (· + 1) = List.replicate n 0 by simp] at e1
 rw [show F9 (List.replicate n (-1)) 0 o = plc n o from rfl] at e1
 have c1 : decide (((o.length : Nat) : Int) = 0) = false := decide_eq_false (by omega)
 have c2 : decide (((o.length : Nat) : Int) > (n : Int)) = false := decide_eq_false (by omega)
 simp only [hG, hg, Option.bind_some, Bool.not_true, cond_false, Int.toNat_natCast, c1, c2]
 rw [if_neg (by simp), J0 (by omega), Option.bind_some, e1]
 simp only [Option.bind_some, V6, e0]
 rfl
end Go.Proofs.YtfdlgbfeceodeaaGreat
namespace Go.Proofs.YtfdlgbfeceodeaaGreat
open Go.H
set_option linter.unusedVariables false
set_option linter.unusedSimpArgs false
theorem O02 : ∀ (n : Nat) (o : List Int), o.Nodup → inV n o → o.length ≤ n
 | 0, [], _, _ => Nat.le_refl _
 | 0, x :: r, _, h => by have := h x (List.mem_cons_self ..); omega
 | n + 1, o, hd, h => by
  have h1 : inV n (o.erase (n : Int)) := fun x hx => by
   obtain ⟨hne, hm⟩ := (List.Nodup.mem_erase_iff hd).1 hx
   have := h x hm; omega
  have h2 := O02 n _ (hd.erase _) h1
  by_cases hm : (n : Int) ∈ o
  ·rw [List.length_erase_of_mem hm] at h2; omega
  ·rw [List.erase_of_not_mem hm] at h2; omega
def o9 : Nat → Nat → List Int
 | 0, _ => []
 | d + 1, i => (i : Int) :: -(i : Int) :: o9 d (i + 1)
theorem Z03 : ∀ d i, (o9 d i).length = 2 * d
 | 0, i => rfl
 | d + 1, i => by simp only [o9, List.length_cons, Z03 d]; omega
theorem b0e : ∀ (d i : Nat), i + d ≤ 1000 → ∀ x ∈ o9 d i, K7 x
 | 0, i, h, x, hx => nomatch hx
 | d + 1, i, h, x, hx => by
  simp only [o9, List.mem_cons] at hx
  rcases hx with rfl | rfl | hx
  ·exact ⟨⟨by omega, by omega⟩, by omega⟩
  ·exact ⟨⟨by omega, by omega⟩, by omega⟩
  ·exact b0e d (i + 1) (by omega) x hx
theorem p0k (R : Nat) (hR : R ≤ 900) : ∀ (d i fuel : Nat) (acc : List Int), i + d = R + 1 → d < fuel → acc.length + 2 * d ≤ 10000 →
  A6 (R : Int) fuel (i : Int) acc = some (acc ++ o9 d i)
 | d, i, 0, acc, hd, hf, ha => by omega
 | 0, i, fuel + 1, acc, hd, hf, ha => by
  rw [A6.eq_2, if_neg (by simp; omega)]; simp [o9]
 | d + 1, i, fuel + 1, acc, hd, hf, ha => by
  have ih := p0k R hR d (i + 1) fuel (acc ++ [(i : Int), -(i : Int)]) (by omega) (by omega) (by simp; omega)
  have w1 : IntKind.i64.wrap (0 - (i : Int)) = -(i : Int) := by rw [w64 (by omega) (by omega)]; omega
  rw [A6.eq_2, if_pos (by simp; omega), w1, J0 (by simp; omega), Option.bind_some, j2 (show i < 1000 by omega) (by omega), ih]
  simp [o9]
theorem q0k (R : Nat) (hR : R ≤ 900) : ∀ (d i fuel : Nat) (acc : List Int), i + d = R + 1 → d < fuel → acc.length + 2 * d ≤ 10000 →
  A5 (R : Int) fuel (i : Int) acc = some (acc ++ o9 d i)
 | d, i, 0, acc, hd, hf, ha => by omega
 | 0, i, fuel + 1, acc, hd, hf, ha => by
  rw [A5.eq_2, if_neg (by simp; omega)]; simp [o9]
 | d + 1, i, fuel + 1, acc, hd, hf, ha => by
  have ih := q0k R hR d (i + 1) fuel ((acc ++ [(i : Int)]) ++ [-(i : Int)]) (by omega) (by omega) (by simp; omega)
  have w1 : IntKind.i64.wrap (0 - (i : Int)) = -(i : Int) := by rw [w64 (by omega) (by omega)]; omega
  rw [A5.eq_2, if_pos (by simp; omega), w1, J0 (by simp; omega), Option.bind_some, J0 (by simp; omega), Option.bind_some, j2 (show i < 1000 by omega) (by omega), ih]
  simp [o9]
theorem r0k (R : Nat) (hR : R ≤ 900) : B8 (R : Int) = some (o9 R 1) := by
 unfold B8
 rw [show (1 : Int) = ((1 : Nat) : Int) from rfl, p0k R hR R 1 Q0 [] (by omega) (Y0 (by omega)) (by simp; omega)]; rfl
theorem s0k (R : Nat) (hR : R ≤ 900) : o7 (R : Int) = some (o9 R 1) := by
 unfold o7
 rw [show (1 : Int) = ((1 : Nat) : Int) from rfl, q0k R hR R 1 Q0 [] (by omega) (Y0 (by omega)) (by simp; omega)]; rfl
def h06 (u : List Int) (x : Int) : List Int := if 0 ≤ x ∧ x ∉ u then u ++ [x] else u
def g01 (g : l0) (v : Int) : List Int → List Int → List Int
 | [], u => u
 | x :: r, u => g01 g v r (h06 u (G2 g v x))
def E8 (g : l0) (ls : List Int) : Nat → Nat → List Int → List Int
 | 0, i, u => u
 | f + 1, i, u => match u[i]? with
  | some v => E8 g ls f (i + 1) (g01 g v ls u)
  | none => u
def gud (n : Nat) (u : List Int) : Prop := u.Nodup ∧ inV n u
theorem a0i {n : Nat} {u : List Int} {x : Int} (h : gud n u) (hx : x = -1 ∨ (0 ≤ x ∧ x < (n : Int))) : gud n (h06 u x) := by
 unfold h06
 split
 ·rename_i hc
  refine ⟨List.nodup_append.2 ⟨h.1, by simp, fun a ha b hb => ?_⟩, fun y hy => ?_⟩
  ·simp at hb; subst hb; exact fun e => hc.2 (e ▸ ha)
  ·rcases List.mem_append.1 hy with hy | hy
   ·exact h.2 y hy
   ·simp at hy; subst hy; omega
 ·exact h
theorem t0f (u : List Int) (x : Int) : ∃ t, h06 u x = u ++ t := by
 unfold h06; split
 ·exact ⟨_, rfl⟩
 ·exact ⟨[], by simp⟩
theorem I01 (g : l0) (v : Int) : ∀ (ls u : List Int), ∃ t, g01 g v ls u = u ++ t
 | [], u => ⟨[], by simp [g01]⟩
 | x :: r, u => by
  obtain ⟨t1, e1⟩ := t0f u (G2 g v x)
  obtain ⟨t2, e2⟩ := I01 g v r (h06 u (G2 g v x))
  exact ⟨t1 ++ t2, by rw [g01, e2, e1, List.append_assoc]⟩
theorem s02 {r : Int} {n : Nat} {es : List C0} (hg : inG (r, (n : Int), es)) (v : Int) : ∀ (ls u : List Int), gud n u → gud n (g01 (r, (n : Int), es) v ls u)
 | [], u, h => h
 | x :: l, u, h => s02 hg v l _ (a0i h (u0a hg v x))
theorem G0b {r : Int} {n : Nat} {es : List C0} (hg : inG (r, (n : Int), es)) (ls : List Int) : ∀ (f i : Nat) (u : List Int), gud n u → gud n (E8 (r, (n : Int), es) ls f i u)
 | 0, i, u, h => h
 | f + 1, i, u, h => by
  unfold E8
  split
  ·exact G0b hg ls f _ _ (s02 hg _ _ _ h)
  ·exact h
theorem H0b (g : l0) (ls : List Int) : ∀ (f i : Nat) (u : List Int), u.length ≤ (E8 g ls f i u).length
 | 0, i, u => Nat.le_refl _
 | f + 1, i, u => by
  unfold E8
  split
  ·rename_i v _
   obtain ⟨t, e⟩ := I01 g v ls u
   have := H0b g ls f (i + 1) (g01 g v ls u)
   rw [e] at this ⊢; simp only [List.length_append] at this; omega
  ·exact Nat.le_refl _
theorem b0i (r : Int) (n : Nat) (es : List C0) (hg : inG (r, (n : Int), es)) (hn : n ≤ 40) (hes : es.length ≤ 1099511627776) (ls : List Int) (hls : ∀ x ∈ ls, K7 x) (hl : ls.length ≤ 1000000) (i : Nat) (v : Int) : ∀ (d k fuel : Nat) (u : List Int), gud n u → u[i]? = some v → k + d = ls.length → d < fuel →
  l3 ls (i : Int) r (n : Int) es fuel (k : Int) u = some (g01 (r, (n : Int), es) v (ls.drop k) u)
 | d, k, 0, u, hu, hi, hd, hf => by omega
 | 0, k, fuel + 1, u, hu, hi, hd, hf => by
  rw [l3.eq_2, if_neg (by simp; omega), D1 (by omega)]; rfl
 | d + 1, k, fuel + 1, u, hu, hi, hd, hf => by
  have hk : k < ls.length := by omega
  have hx := N5 hk
  have hxm := hls _ (List.mem_of_getElem? hx)
  have hdr := J1 hx
  generalize ls[k] = x at hx hxm hdr
  have hlen := O02 n u hu.1 hu.2
  have hnx : G2 (r, (n : Int), es) v x = -1 ∨ (0 ≤ G2 (r, (n : Int), es) v x ∧ G2 (r, (n : Int), es) v x < (n : Int)) := u0a hg v x
  have hg2 := a0i hu hnx
  have hi2 : (h06 u (G2 (r, (n : Int), es) v x))[i]? = some v := by
   obtain ⟨t, e⟩ := t0f u (G2 (r, (n : Int), es) v x)
   rw [e, List.getElem?_append_left (List.getElem?_eq_some_iff.1 hi).1]; exact hi
  have ih := b0i r n es hg hn hes ls hls hl i v d (k + 1) fuel _ hg2 hi2 (by omega) (by omega)
  rw [l3.eq_2, if_pos (by simp; omega), hdr]
  simp only [E3 hi, E3 hx, Option.bind_some, T06 (r, (n : Int), es) v x hxm hes, J0 (z04 hg (show (n : Int) ≤ 40 by omega) v x), j2 hk (show ls.length ≤ 9223372036854775807 by omega), g01]
  rw [← ih]
  generalize G2 (r, (n : Int), es) v x = y at *
  unfold h06
  by_cases c1 : 0 ≤ y
  ·simp only [show decide (y ≥ 0) = true by simpa using c1, T1, w0a u y (by omega), Option.bind_some, cond_true]
   by_cases c2 : y ∈ u
   ·rw [if_neg (by simp [c2]), if_neg (by simp [c2])]
   ·rw [if_pos (by simp [c2]), if_pos ⟨c1, c2⟩, J0 (by simp; omega), Option.bind_some]
  ·simp only [show decide (y ≥ 0) = false by simpa using c1, J4, Option.bind_some, cond_false]
   rw [if_neg (by simp), if_neg (fun h => c1 h.1)]
theorem c0i (r : Int) (n : Nat) (es : List C0) (hg : inG (r, (n : Int), es)) (hn : n ≤ 40) (hes : es.length ≤ 1099511627776) (ls : List Int) (hls : ∀ x ∈ ls, K7 x) (hl : ls.length ≤ 1000000) : ∀ (f i fuel : Nat) (u : List Int), gud n u → i ≤ u.length → n + 1 ≤ i + f → f < fuel →
  I4 ls r (n : Int) es fuel (i : Int) u = some (E8 (r, (n : Int), es) ls f i u)
 | f, i, 0, u, hu, hi, hd, hf => by omega
 | 0, i, fuel + 1, u, hu, hi, hd, hf => by have := O02 n u hu.1 hu.2; omega
 | f + 1, i, fuel + 1, u, hu, hi, hd, hf => by
  have hlen := O02 n u hu.1 hu.2
  rw [I4.eq_2, Option.bind_some, J0 (by omega), Option.bind_some]
  by_cases hk : i < u.length
  ·have hx := N5 hk
   generalize u[i] = v at hx
   have h0 := b0i r n es hg hn hes ls hls hl i v ls.length 0 Q0 u hu hx (by omega) (Y0 (by omega))
   rw [show ((0 : Nat) : Int) = 0 from rfl, List.drop_zero] at h0
   obtain ⟨t, e⟩ := I01 (r, (n : Int), es) v ls u
   have ih := c0i r n es hg hn hes ls hls hl f (i + 1) fuel _ (s02 hg v ls u hu) (by rw [e, List.length_append]; omega) (by omega) (by omega)
   rw [if_pos (by simpa using hk), h0, Option.bind_some, j2 hk (by omega), ih]
   simp only [E8, hx]
  ·have hx : u[i]? = none := List.getElem?_eq_none (by omega)
   rw [if_neg (by simpa using hk)]
   simp only [E8, hx]
def j5 (g : l0) : List Int := E8 g (o9 g.1.toNat 1) (g.2.1.toNat + 1) 0 [0]
theorem b06 {g : l0} (hf : N0 g = true) : gud g.2.1.toNat (j5 g) ∧ 1 ≤ (j5 g).length := by
 obtain ⟨h1, h2, h3, h4⟩ := G3 hf
 obtain ⟨r, n, es⟩ := g
 simp only at h2 h3 h4
 obtain ⟨N, rfl⟩ : ∃ N : Nat, n = (N : Int) := ⟨n.toNat, by omega⟩
 refine ⟨?_, ?_⟩
 ·exact G0b h1 _ _ _ _ ⟨by simp, fun x hx => by simp at hx; subst hx; show (0 : Int) ≤ 0 ∧ (0 : Int) < (((N : Int).toNat : Nat) : Int); omega⟩
 ·exact H0b _ _ _ _ [0]
theorem u0f (g : l0) (hf : N0 g = true) : d7 g = some (j5 g) := by
 obtain ⟨h1, h2, h3, h4⟩ := G3 hf
 have hF := D8 g (by omega)
 obtain ⟨r, n, es⟩ := g
 simp only at h2 h3 h4
 obtain ⟨N, rfl⟩ : ∃ N : Nat, n = (N : Int) := ⟨n.toNat, by omega⟩
 obtain ⟨R, rfl⟩ : ∃ R : Nat, r = (R : Int) := ⟨r.toNat, by omega⟩
 unfold d7
 have h0 := c0i (R : Int) N es h1 (by omega) (by omega) (o9 R 1) (b0e R 1 (by omega)) (by rw [Z03]; omega) (N + 1) 0 Q0 [0] ⟨by simp, fun x hx => by simp at hx; subst hx; omega⟩ (by simp) (by omega) (Y0 (by omega))
 simp only [hF, hf, Option.bind_some, Bool.not_true, s0k R (by omega)]
 rw [show ((0 : Nat) : Int) = 0 from rfl] at h0
 rw [if_neg (by simp), h0]
 rfl
theorem m0l {a : List Int} (la : a.length ≤ 1099511627776) : O9 a = some a := by
 unfold O9
 rw [J0 (by simp; omega)]; rfl
def a04 (W : List (Option (List Int))) (x : Int) : Option (List Int) := W.getD x.toNat none
theorem giO {W : List (Option (List Int))} {n : Nat} (hl : W.length = n) {x : Int} (h0 : 0 ≤ x) (h1 : x < n) : gi W x = some (a04 W x) := by
 have hk : x.toNat < W.length := by omega
 have e : x = ((x.toNat : Nat) : Int) := by omega
 have h2 : gi W ((x.toNat : Nat) : Int) = some (a04 W x) := by
  rw [R08, List.getElem?_eq_getElem hk]
  unfold a04
  rw [List.getD_eq_getElem?_getD, List.getElem?_eq_getElem hk]; rfl
 rw [← e] at h2; exact h2
theorem b04 {A : List (Option (List Int))} {v x : Int} {y : Option (List Int)} (h0 : 0 ≤ v) (h1 : v.toNat < A.length) (hx : 0 ≤ x) : a04 (A.set v.toNat y) x = if x = v then y else a04 A x := by
 unfold a04
 rw [List.getD_eq_getElem?_getD, List.getD_eq_getElem?_getD, List.getElem?_set]
 by_cases c : x = v
 ·rw [if_pos c, if_pos (by rw [c]), if_pos h1]; rfl
 ·rw [if_neg c, if_neg (by omega)]
structure WOk (n : Nat) (W : List (Option (List Int))) (u : List Int) : Prop where
 len : W.length = n
 iff : ∀ x, 0 ≤ x → x < (n : Int) → ((a04 W x).isNone = true ↔ x ∉ u)
 short : ∀ x, ((a04 W x).getD []).length ≤ u.length
theorem d0i (r : Int) (n : Nat) (es : List C0) (hg : inG (r, (n : Int), es)) (hn : n ≤ 40) (hes : es.length ≤ 1099511627776) (ls : List Int) (hls : ∀ x ∈ ls, K7 x) (hl : ls.length ≤ 1000000) (v : Int) (hv : 0 ≤ v ∧ v < (n : Int)) : ∀ (d k fuel : Nat) (W : List (Option (List Int))) (u : List Int), gud n u → WOk n W u → k + d = ls.length → d < fuel →
  ∃ W', H4 ls r (n : Int) es v fuel (k : Int) W u = some (W', g01 (r, (n : Int), es) v (ls.drop k) u) ∧ WOk n W' (g01 (r, (n : Int), es) v (ls.drop k) u)
 | d, k, 0, W, u, hu, hw, hd, hf => by omega
 | 0, k, fuel + 1, W, u, hu, hw, hd, hf => by
  rw [H4.eq_2, if_neg (by simp; omega), D1 (by omega)]; exact ⟨W, rfl, hw⟩
 | d + 1, k, fuel + 1, W, u, hu, hw, hd, hf => by
  have hk : k < ls.length := by omega
  have hx := N5 hk
  have hxm := hls _ (List.mem_of_getElem? hx)
  have hdr := J1 hx
  generalize ls[k] = x at hx hxm hdr
  have hlen := O02 n u hu.1 hu.2
  have hnx : G2 (r, (n : Int), es) v x = -1 ∨ (0 ≤ G2 (r, (n : Int), es) v x ∧ G2 (r, (n : Int), es) v x < (n : Int)) := u0a hg v x
  have hg2 := a0i hu hnx
  have ih := fun W' h => d0i r n es hg hn hes ls hls hl v hv d (k + 1) fuel W' _ hg2 h (by omega) (by omega)
  rw [H4.eq_2, if_pos (by simp; omega), hdr]
  simp only [E3 hx, Option.bind_some, U06 (r, (n : Int), es) v x hxm hes, J0 (z04 hg (show (n : Int) ≤ 40 by omega) v x), j2 hk (show ls.length ≤ 9223372036854775807 by omega), g01]
  generalize G2 (r, (n : Int), es) v x = y at *
  by_cases c1 : 0 ≤ y
  ·have hy : y < (n : Int) := by omega
   simp only [show decide (y ≥ 0) = true by simpa using c1, T1, giO hw.len c1 hy, Option.bind_some, cond_true]
   by_cases c2 : y ∈ u
   ·have : ¬ ((a04 W y).isNone = true) := fun h => (hw.iff y c1 hy).1 h c2
    have e : h06 u y = u := if_neg fun h => h.2 c2
    rw [if_neg this]
    rw [e] at ih ⊢
    exact ih W hw
   ·have : (a04 W y).isNone = true := (hw.iff y c1 hy).2 c2
    have e : h06 u y = u ++ [y] := if_pos ⟨c1, c2⟩
    have hs := hw.short v
    rw [if_pos this, giO hw.len hv.1 hv.2, Option.bind_some, m0l (by omega), Option.bind_some, J0 (by simp; omega), Option.bind_some, J0 (by simp; omega), Option.bind_some]
    rw [e] at ih ⊢
    refine ih _ ⟨by simp [hw.len], fun z h0 h1 => ?_, fun z => ?_⟩
    ·rw [b04 c1 (by have := hw.len; omega) h0]
     by_cases c : z = y
     ·rw [if_pos c]; simp [c]
     ·rw [if_neg c, hw.iff z h0 h1]; simp [c]
    ·by_cases hz : 0 ≤ z
     ·rw [b04 c1 (by have := hw.len; omega) hz]
      by_cases c : z = y
      ·rw [if_pos c]; simp; exact hs
      ·rw [if_neg c]; have := hw.short z; simp only [List.length_append]; omega
     ·have hz0 : a04 (W.set y.toNat (some ((a04 W v).getD [] ++ [x]))) z = a04 (W.set y.toNat (some ((a04 W v).getD [] ++ [x]))) 0 := by
       unfold a04; rw [show z.toNat = (0 : Int).toNat by omega]
      rw [hz0, b04 c1 (by have := hw.len; omega) (Int.le_refl 0)]
      by_cases c : (0 : Int) = y
      ·rw [if_pos c]; simp; exact hs
      ·rw [if_neg c]; have := hw.short 0; simp only [List.length_append]; omega
  ·have e : h06 u y = u := if_neg fun h => c1 h.1
   simp only [show decide (y ≥ 0) = false by simpa using c1, J4, Option.bind_some, cond_false]
   rw [if_neg (by simp)]
   rw [e] at ih ⊢
   exact ih W hw
theorem e0i (R n : Nat) (hR : R ≤ 900) (es : List C0) (hg : inG ((R : Int), (n : Int), es)) (hn : n ≤ 40) (hes : es.length ≤ 1099511627776) : ∀ (f i fuel : Nat) (W : List (Option (List Int))) (u : List Int), gud n u → WOk n W u → i ≤ u.length → n + 1 ≤ i + f → f < fuel →
  ∃ W', O5 (R : Int) (n : Int) es fuel (i : Int) W u = some (W', E8 ((R : Int), (n : Int), es) (o9 R 1) f i u)
 | f, i, 0, W, u, hu, hw, hi, hd, hf => by omega
 | 0, i, fuel + 1, W, u, hu, hw, hi, hd, hf => by have := O02 n u hu.1 hu.2; omega
 | f + 1, i, fuel + 1, W, u, hu, hw, hi, hd, hf => by
  have hlen := O02 n u hu.1 hu.2
  rw [O5.eq_2, Option.bind_some, J0 (by omega), Option.bind_some]
  by_cases hk : i < u.length
  ·have hx := N5 hk
   have hv := hu.2 _ (List.mem_of_getElem? hx)
   generalize u[i] = v at hx hv
   obtain ⟨W1, h0, hw1⟩ := d0i (R : Int) n es hg hn hes (o9 R 1) (b0e R 1 (by omega)) (by rw [Z03]; omega) v hv (o9 R 1).length 0 Q0 W u hu hw (by omega) (Y0 (by rw [Z03]; omega))
   rw [show ((0 : Nat) : Int) = 0 from rfl, List.drop_zero] at h0
   rw [List.drop_zero] at hw1
   obtain ⟨t, e⟩ := I01 ((R : Int), (n : Int), es) v (o9 R 1) u
   obtain ⟨W2, ih⟩ := e0i R n hR es hg hn hes f (i + 1) fuel W1 _ (s02 hg v _ u hu) hw1 (by rw [e, List.length_append]; omega) (by omega) (by omega)
   rw [if_pos (by simpa using hk), E3 hx, Option.bind_some, r0k R hR, Option.bind_some, h0, Option.bind_some]
   simp only [j2 hk (show u.length ≤ 9223372036854775807 by omega), ih, E8, hx]
   exact ⟨_, rfl⟩
  ·have hx : u[i]? = none := List.getElem?_eq_none (by omega)
   rw [if_neg (by simpa using hk)]
   simp only [E8, hx]
   exact ⟨_, rfl⟩
theorem v0f (g : l0) (hf : N0 g = true) : g7 g = some (j5 g) := by
 obtain ⟨h1, h2, h3, h4⟩ := G3 hf
 have hF := w00 g (by omega)
 obtain ⟨r, n, es⟩ := g
 simp only at h2 h3 h4
 obtain ⟨N, rfl⟩ : ∃ N : Nat, n = (N : Int) := ⟨n.toNat, by omega⟩
 obtain ⟨R, rfl⟩ : ∃ R : Nat, r = (R : Int) := ⟨r.toNat, by omega⟩
 unfold g7
 have hrep : ∀ x, a04 (List.replicate N (none : Option (List Int))) x = none := fun x => by
  unfold a04
  rw [List.getD_eq_getElem?_getD, List.getElem?_replicate]; split <;> rfl
 have hW : WOk N ((List.replicate N (none : Option (List Int))).set (0 : Int).toNat (some [])) [0] := by
  refine ⟨by simp, fun x h0 h1 => ?_, fun x => ?_⟩
  ·rw [b04 (Int.le_refl 0) (by simp; omega) h0]
   by_cases c : x = 0
   ·rw [if_pos c]; simp [c]
   ·rw [if_neg c, hrep]; simp [c]
  ·by_cases hz : 0 ≤ x
   ·rw [b04 (Int.le_refl 0) (by simp; omega) hz]
    split
    ·simp
    ·rw [hrep]; simp
   ·have : a04 ((List.replicate N (none : Option (List Int))).set (0 : Int).toNat (some [])) x = a04 ((List.replicate N (none : Option (List Int))).set (0 : Int).toNat (some [])) 0 := by
     unfold a04; rw [show x.toNat = (0 : Int).toNat by omega]
    rw [this, b04 (Int.le_refl 0) (by simp; omega) (Int.le_refl 0), if_pos rfl]; simp
 obtain ⟨W', h0⟩ := e0i R N (by omega) es h1 (by omega) (by omega) (N + 1) 0 Q0 _ [0] ⟨by simp, fun x hx => by simp at hx; subst hx; omega⟩ hW (by simp) (by omega) (Y0 (by omega))
 have hg0 : gi (List.replicate N (none : Option (List Int))) 0 = some none := by
  rw [u05 (x := none)]; rw [List.getElem?_replicate, if_pos (by omega)]
 simp only [hF, hf, Option.bind_some, Bool.not_true, m00, Int.toNat_natCast]
 rw [if_neg (by simp), J0 (by omega), Option.bind_some, hg0, Option.bind_some]
 rw [show ((0 : Nat) : Int) = 0 from rfl] at h0
 rw [h0]
 rfl
def B3 (g : l0) : l0 := n9 g (j5 g)
theorem w0f (g : l0) (hf : N0 g = true) : i7 g = some (B3 g) := by
 obtain ⟨h1, h2, h3, h4⟩ := G3 hf
 have hF := w00 g (by omega)
 have hO := v0f g hf
 obtain ⟨ho, ho1⟩ := b06 hf
 have hle := O02 _ _ ho.1 ho.2
 obtain ⟨r, n, es⟩ := g
 simp only at h2 h3 h4
 obtain ⟨N, rfl⟩ : ∃ N : Nat, n = (N : Int) := ⟨n.toNat, by omega⟩
 simp only [Int.toNat_natCast] at ho hle
 have hp := l0k r N es (j5 (r, (N : Int), es)) (fun e he => ⟨(h1 e he).1, (h1 e he).2.1⟩) ho.2 (by omega) (by omega) (by omega)
 unfold i7
 simp only [hF, hf, Option.bind_some, Bool.not_true, hO, hp]
 rfl
theorem P09 (g : l0) (hf : N0 g = true) : Z5 g = some (B3 g) := by
 obtain ⟨h1, h2, h3, h4⟩ := G3 hf
 have hG : O0 g = true := by
  unfold N0 at hf; exact (Bool.and_eq_true _ _ ▸ hf).1
 have hO := u0f g hf
 obtain ⟨ho, ho1⟩ := b06 hf
 have hle := O02 _ _ ho.1 ho.2
 obtain ⟨r, n, es⟩ := g
 simp only at h2 h3 h4
 obtain ⟨N, rfl⟩ : ∃ N : Nat, n = (N : Int) := ⟨n.toNat, by omega⟩
 simp only [Int.toNat_natCast] at ho hle
 have hp := F0b r N es (j5 (r, (N : Int), es)) hG ho.2 ho.1 ho1 hle
 unfold Z5
 simp only [Option.bind_some, hO, hp]
 rw [if_neg (by simp; intro h; rw [h] at ho1; simp at ho1)]
 rfl
end Go.Proofs.YtfdlgbfeceodeaaGreat
namespace Go.Proofs.YtfdlgbfeceodeaaGreat
open Go.H
set_option linter.unusedVariables false
set_option linter.unusedSimpArgs false
def lf (bad : Nat → Bool) : Nat → Nat → Option Nat
 | 0, v => none
 | d + 1, v => bif bad v then some v else lf bad d (v + 1)
theorem b08 {bad : Nat → Bool} : ∀ (d v k : Nat), lf bad d v = some k → v ≤ k ∧ k < v + d
 | 0, v, k, h => by cases h
 | d + 1, v, k, h => by
  unfold lf at h
  cases hb : bad v
  ·rw [hb] at h; have := b08 d (v + 1) k h; omega
  ·rw [hb] at h; cases h; omega
theorem x0f {b1 b2 : Nat → Bool} : ∀ (d v : Nat), (∀ k, v ≤ k → k < v + d → b1 k = b2 k) → lf b1 d v = lf b2 d v
 | 0, v, h => rfl
 | d + 1, v, h => by unfold lf; rw [h v (Nat.le_refl _) (by omega), x0f d (v + 1) fun k h1 h2 => h k (by omega) (by omega)]
def X0i (es : List C0) : List Int := itS es (es.length + 1) [0]
def c0e (es : List C0) (v : Nat) : Bool := decide (w01 (v : Int) es < 2) || !decide ((v : Int) ∈ X0i es)
def G9 (g : l0) : Option Nat := lf (c0e g.2.2) (g.2.1.toNat - 1) 1
theorem U0g (g : l0) (hg : O0 g = true) : A8 g 0 = some (X0i g.2.2) ∧ (X0i g.2.2).length ≤ 100000 := by
 obtain ⟨h1, h2, h3, h4⟩ := O1 hg
 have hq := i6 g (by omega)
 obtain ⟨r, n, es⟩ := g
 simp only at h2 h3 h4
 unfold A8 X0i
 have hl := A0b es h4 (es.length + 1) 0 Q0 [0] (by omega) (Y0 (by omega)) (by simp)
 have hlen := T0h es (es.length + 1) [0]
 refine ⟨?_, ?_⟩
 ·rw [show ((0 : Nat) : Int) = 0 from rfl] at hl
  simp only [hq, hg, Option.bind_some, Bool.not_true, Bool.not_false, T1, f02, inR, w64 (show -9223372036854775808 ≤ n - 1 by omega) (show n - 1 ≤ 9223372036854775807 by omega)]
  rw [if_neg (by simp; omega), hl]; rfl
 ·have : (es.length + 1) * (2 * es.length) ≤ 121 * 240 := Nat.mul_le_mul (by omega) (by omega)
  simp only [List.length_singleton] at hlen
  simp only
  omega
theorem t0k (r : Int) (n : Nat) (es : List C0) (hes : es.length ≤ 1000) (u : List Int) (hu : u.length ≤ 100000) (hn : n ≤ 40) : ∀ (d v fuel : Nat), v + d = n ∨ (d = 0 ∧ n ≤ v) → v ≤ 1000 → d < fuel →
  Z6 (n : Int) r es u fuel (v : Int) = some (match lf (fun v => decide (w01 (v : Int) es < 2) || !decide ((v : Int) ∈ u)) d v with | some k => .inl (k : Int) | none => .inr ())
 | d, v, 0, hd, hv, hf => by omega
 | 0, v, fuel + 1, hd, hv, hf => by
  rw [Z6.eq_2, if_neg (by simp; omega)]; rfl
 | d + 1, v, fuel + 1, hd, hv, hf => by
  have ih := t0k r n es hes u hu hn d (v + 1) fuel (by omega) (by omega) (by omega)
  have hdeg := Y0d (v : Int) es
  rw [Z6.eq_2, if_pos (by simp; omega), U0c (r, (n : Int), es) _ (by simp only; omega), Option.bind_some, J0 (c64 (by simp only; omega) (by simp only; omega)), Option.bind_some, j2 (show v < 10000 by omega) (by omega)]
  unfold lf
  by_cases c1 : w01 (v : Int) es < 2
  ·have e1 : decide (((w01 (v : Int) es : Nat) : Int) < 2) = true := decide_eq_true (by omega)
   simp only [e1, Bool.not_true, J4, Option.bind_some, cond_true, if_true, decide_eq_true c1, Bool.true_or]
  ·have e1 : decide (((w01 (v : Int) es : Nat) : Int) < 2) = false := decide_eq_false (by omega)
   simp only [e1, Bool.not_false, T1, w0a u _ (show u.length ≤ 9223372036854775807 by omega), Option.bind_some, cond_false, decide_eq_false c1, Bool.false_or]
   by_cases c2 : (v : Int) ∈ u
   ·simp only [decide_eq_true c2, Bool.not_true, Bool.false_eq_true, if_false, cond_false]; exact ih
   ·simp only [decide_eq_false c2, Bool.not_false, if_true, cond_true]
theorem u0k (g : l0) (hg : O0 g = true) : b00 g = some (match G9 g with | some k => (k : Int) | none => -1) := by
 obtain ⟨e1, e2⟩ := U0g g hg
 obtain ⟨h1, h2, h3, h4⟩ := O1 hg
 obtain ⟨r, n, es⟩ := g
 simp only at h2 h3 h4 e1 e2
 obtain ⟨N, rfl⟩ : ∃ N : Nat, n = (N : Int) := ⟨n.toNat, by omega⟩
 unfold b00 G9
 have hl := t0k r N es (by omega) (X0i es) e2 (by omega) (N - 1) 1 Q0 (by omega) (by omega) (Y0 (by omega))
 simp only [e1, Option.bind_some, Int.toNat_natCast]
 rw [show (1 : Int) = ((1 : Nat) : Int) from rfl, hl]
 rw [show (fun v : Nat => decide (w01 (v : Int) es < 2) || !decide ((v : Int) ∈ X0i es)) = c0e es from rfl]
 cases lf (c0e es) (N - 1) 1 <;> rfl
theorem f0i (r : Int) (n : Nat) (es : List C0) (hes : es.length ≤ 1000) (S : List Bool) (hS : S.length = n) (hn : n ≤ 40) : ∀ (d v fuel : Nat), 1 ≤ v → v + d = n ∨ (d = 0 ∧ n ≤ v) → v ≤ 1000 → d + 1 < fuel →
  R3 (n : Int) r es S fuel 0 (v : Int) = some (match lf (fun v => decide (w01 (v : Int) es < 2) || !M8 S (v : Int)) d v with | some k => (k : Int) | none => 0)
 | d, v, 0, h1, hd, hv, hf => by omega
 | 0, v, fuel + 1, h1, hd, hv, hf => by
  have e : decide ((v : Int) < (n : Int)) = false := decide_eq_false (by omega)
  rw [R3.eq_2, if_neg (by rw [e]; simp)]; rfl
 | d + 1, v, fuel + 1, h1, hd, hv, hf => by
  have ih := f0i r n es hes S hS hn d (v + 1) fuel (by omega) (by omega) (by omega) (by omega)
  have hdeg := Y0d (v : Int) es
  have e : decide ((v : Int) < (n : Int)) = true := decide_eq_true (by omega)
  have hfin : ∀ w : Int, R3 (n : Int) r es S fuel (v : Int) w = some (v : Int) := fun w => by
   obtain _ | fuel := fuel
   ·omega
   ·have e2 : decide ((v : Int) = 0) = false := decide_eq_false (by omega)
    have e3 : ∀ b : Bool, (bif b then false else false) = false := fun b => by cases b <;> rfl
    rw [R3.eq_2, if_neg (by rw [e2, e3]; simp)]
  rw [R3.eq_2, if_pos (by rw [e]; rfl), U0i (r, (n : Int), es) _ (by simp only; omega), Option.bind_some, J0 (c64 (by simp only; omega) (by simp only; omega)), Option.bind_some, j2 (show v < 10000 by omega) (by omega)]
  unfold lf
  by_cases c1 : w01 (v : Int) es < 2
  ·have e1 : decide (((w01 (v : Int) es : Nat) : Int) < 2) = true := decide_eq_true (by omega)
   simp only [e1, Bool.not_true, J4, Option.bind_some, cond_true, if_true, decide_eq_true c1, Bool.true_or, hfin]
  ·have e1 : decide (((w01 (v : Int) es : Nat) : Int) < 2) = false := decide_eq_false (by omega)
   simp only [e1, Bool.not_false, T1, giB hS (show (0 : Int) ≤ (v : Int) by omega) (show (v : Int) < (n : Int) by omega), Option.bind_some, cond_false, decide_eq_false c1, Bool.false_or]
   cases hb : M8 S (v : Int)
   ·simp only [Bool.not_false, if_true, cond_true, hfin]
   ·simp only [Bool.not_true, Bool.false_eq_true, if_false, cond_false]; exact ih
def wo (g : Nat) : Nat → Nat → List Int
 | 0, k => []
 | d + 1, k => if k = g then wo g d (k + 1) else (k : Int) :: wo g d (k + 1)
theorem V0g (g : Nat) : ∀ (d k : Nat), (wo g d k).length = d - (if k ≤ g ∧ g < k + d then 1 else 0)
 | 0, k => by simp [wo]
 | d + 1, k => by
  have ih := V0g g d (k + 1)
  unfold wo
  by_cases c : k = g
  ·rw [if_pos c, ih, if_neg (by omega), if_pos (by omega)]; omega
  ·rw [if_neg c, List.length_cons, ih]
   by_cases c2 : k + 1 ≤ g ∧ g < k + 1 + d
   ·rw [if_pos c2, if_pos (by omega)]; omega
   ·rw [if_neg c2, if_neg (by omega)]; omega
theorem v0k (g n : Nat) : ∀ (d k : Nat), k + d ≤ n → inV n (wo g d k)
 | 0, k, h => fun x hx => nomatch hx
 | d + 1, k, h => by
  have ih := v0k g n d (k + 1) (by omega)
  unfold wo
  split
  ·exact ih
  ·intro x hx
   rcases List.mem_cons.1 hx with rfl | hx
   ·omega
   ·exact ih x hx
theorem g0i (n g : Nat) (hn : n ≤ 1000) : ∀ (d k fuel : Nat) (acc : List Int), k + d = n → d < fuel → acc.length ≤ k →
  T4 (n : Int) (g : Int) fuel (k : Int) acc = some (acc ++ wo g d k)
 | d, k, 0, acc, hd, hf, ha => by omega
 | 0, k, fuel + 1, acc, hd, hf, ha => by
  rw [T4.eq_2, if_neg (by simp; omega)]; simp [wo]
 | d + 1, k, fuel + 1, acc, hd, hf, ha => by
  have ih := fun acc' h => g0i n g hn d (k + 1) fuel acc' (by omega) (by omega) h
  rw [T4.eq_2, if_pos (by simp; omega), j2 (show k < 10000 by omega) (by omega)]
  unfold wo
  by_cases c : k = g
  ·have e : decide ((k : Int) = (g : Int)) = true := decide_eq_true (by omega)
   rw [e, if_neg (by simp), if_pos c, ih _ (by omega)]
  ·have e : decide ((k : Int) = (g : Int)) = false := decide_eq_false (by omega)
   rw [e, if_pos (show (!false) = true from rfl), if_neg c, J0 (by simp; omega), Option.bind_some, ih _ (by simp; omega)]
   simp
theorem h0i (n : Nat) (hn : n ≤ 1000) : ∀ (d k fuel : Nat) (acc : List Int), k + d = n → d < fuel → acc.length = k →
  ∃ u, B5 (n : Int) fuel (k : Int) acc = some u ∧ u.length = n
 | d, k, 0, acc, hd, hf, ha => by omega
 | 0, k, fuel + 1, acc, hd, hf, ha => by
  rw [B5.eq_2, if_neg (by simp; omega)]; exact ⟨_, rfl, by omega⟩
 | d + 1, k, fuel + 1, acc, hd, hf, ha => by
  obtain ⟨u, e1, e2⟩ := h0i n hn d (k + 1) fuel (acc ++ [(k : Int)]) (by omega) (by omega) (by simp; omega)
  rw [B5.eq_2, if_pos (by simp; omega), j2 (show k < 10000 by omega) (by omega), J0 (by simp; omega), Option.bind_some, e1]
  exact ⟨u, rfl, e2⟩
theorem w0k {α : Type} {xs : List α} {k : Nat} (h : k ≤ xs.length) : R06 xs 0 (k : Int) = some (xs.take k) := by
 unfold R06
 rw [if_pos (by omega)]; rfl
def S00 (g : l0) : Bool := N0 g && ((G9 g).isNone && R0h (B3 g) g)
theorem a8 {g : l0} (h : N0 g = true) : O0 g = true := by
 unfold N0 at h; exact (Bool.and_eq_true _ _ ▸ h).1
theorem Y0i {g : l0} (hf : N0 g = true) : (B3 g).2.2.length ≤ 120 := by
 have := C0b g (j5 g)
 have := (G3 hf).2.2.2
 unfold B3; omega
theorem d0e (g : l0) (hl : g.2.2.length ≤ 140737488355328) : c00 g = some (S00 g) := by
 have hF := D8 g hl
 unfold S00
 by_cases hf : N0 g = true
 ·have hL := u0k g (a8 hf)
  have hC := P09 g hf
  have hE := V0i (B3 g) g (by have := Y0i hf; omega)
  obtain ⟨h1, h2, h3, h4⟩ := G3 hf
  obtain ⟨r, n, es⟩ := g
  unfold c00
  generalize B3 (r, n, es) = C at *
  obtain ⟨c1, c2, c3⟩ := C
  simp only [hF, hf, Option.bind_some, T1, hL, cond_true]
  cases hq : G9 (r, n, es) with
  | none =>
   simp only [J0 (show D0 (-1) by decide), Option.bind_some, show decide ((-1 : Int) < 0) = true from rfl, T1, hC, hE, cond_true, Option.isNone_none, Bool.true_and]
  | some k =>
   have hk := b08 _ _ _ hq
   simp only at h3
   simp only at hk
   have e0 : decide ((k : Int) < 0) = false := decide_eq_false (by omega)
   simp only [J0 (show D0 (k : Int) from c64 (by omega) (by omega)), Option.bind_some, e0, J4, cond_false, Option.isNone_some, Bool.false_and, Bool.and_false]
 ·have hf' : N0 g = false := Bool.eq_false_iff.2 hf
  obtain ⟨r, n, es⟩ := g
  unfold c00
  simp only [hF, hf', Option.bind_some, J4, J0 (show D0 0 by decide), cond_false, Bool.false_and]
end Go.Proofs.YtfdlgbfeceodeaaGreat
namespace Go.Proofs.YtfdlgbfeceodeaaGreat
open Go.H
set_option linter.unusedVariables false
set_option linter.unusedSimpArgs false
def g0m (l : r0a) : Prop := l.length ≤ 140737488355328 ∧ ∀ e ∈ l, e.1.size ≤ 140737488355328 ∧ e.2.2.2.length ≤ 140737488355328
end Go.Proofs.YtfdlgbfeceodeaaGreat
namespace Go.Proofs.YtfdlgbfeceodeaaGreat
open Go.H
set_option linter.unusedVariables false
set_option linter.unusedSimpArgs false
def x0k (l : r0a) : Prop := l.length ≤ 1048576 ∧ ∀ e ∈ l, e.1.size ≤ 1048576 ∧ e.2.2.2.length ≤ 1048576
theorem x0k.ok {l : r0a} (h : x0k l) : g0m l := ⟨by have := h.1; omega, fun e he => by have := h.2 e he; omega⟩
end Go.Proofs.YtfdlgbfeceodeaaGreat
namespace Go.Proofs.YtfdlgbfeceodeaaGreat
open Go.H
set_option linter.unusedVariables false
set_option linter.unusedSimpArgs false
theorem y0f {α : Type} {cf : α → α → Int} (h : N8 cf) : ∀ {l : List α}, (∀ i x y, l[i]? = some x → l[i + 1]? = some y → cf x y < 0) → Asc cf l
 | [], _ => List.Pairwise.nil
 | [x], _ => List.pairwise_singleton _ _
 | x :: y :: l, hn => by
  have ih : Asc cf (y :: l) := y0f h fun i a b ha hb => hn (i + 1) a b (by simpa using ha) (by simpa using hb)
  have hxy := hn 0 x y rfl rfl
  refine List.pairwise_cons.2 ⟨fun z hz => ?_, ih⟩
  rcases List.mem_cons.1 hz with rfl | hz
  ·exact hxy
  ·exact h.trans _ _ _ hxy ((List.pairwise_cons.1 ih).1 z hz)
theorem y0k {α : Type} {cf : α → α → Int} : ∀ {l : List α}, Asc cf l → ∀ {i : Nat} {x y : α}, l[i]? = some x → l[i + 1]? = some y → cf x y < 0
 | [], _, i, x, y, hx, _ => by simp at hx
 | a :: l, h, 0, x, y, hx, hy => by
  simp at hx hy; subst hx
  exact (List.pairwise_cons.1 h).1 y (List.mem_of_getElem? hy)
 | a :: l, h, i + 1, x, y, hx, hy => y0k (List.pairwise_cons.1 h).2 (i := i) (by simpa using hx) (by simpa using hy)
theorem z0k {r hi : Int} {es : List C0} : ∀ {d k : Nat}, (∀ i, k ≤ i → i < k + d → c0k r hi es i = false) → okE r hi es d k = true
 | 0, k, h => rfl
 | d + 1, k, h => by
  simp only [okE, Bool.and_eq_true, Bool.not_eq_true']
  exact ⟨h k (Nat.le_refl _) (by omega), z0k fun i h1 h2 => h i (by omega) (by omega)⟩
theorem d00 (g : l0) : O0 g = true ↔ inG g ∧ (1 ≤ g.1 ∧ g.1 ≤ 3) ∧ (1 ≤ g.2.1 ∧ g.2.1 ≤ 40) ∧ g.2.2.length ≤ 120 ∧ Asc H0 g.2.2 := by
 constructor
 ·intro h
  obtain ⟨q1, q2, q3, q4⟩ := O1 h
  refine ⟨q1, q2, q3, q4, y0f O4 fun i x y hx hy => ?_⟩
  simp only [O0, Bool.and_eq_true] at h
  have hb := O0g h.1.1.1 (i + 1) (Nat.zero_le _) (by have := (List.getElem?_eq_some_iff.1 hy).1; omega)
  rw [Q07 hy] at hb
  simp only [Nat.add_sub_cancel, hx, Bool.or_eq_false_iff] at hb
  have := hb.2
  simp only [show decide (0 < i + 1) = true by simp, Bool.true_and, decide_eq_false_iff_not] at this
  have e : p0b x y = H0 x y := rfl
  omega
 ·rintro ⟨q1, q2, q3, q4, q5⟩
  obtain ⟨r, n, es⟩ := g
  simp only at q2 q3 q4 q5
  simp only [O0, inR, Bool.and_eq_true, decide_eq_true_eq]
  refine ⟨⟨⟨z0k fun i _ hi => ?_, q2⟩, q3⟩, q4⟩
  have hx := N5 (show i < es.length by omega)
  generalize es[i] = e at hx
  rw [Q07 hx]
  have he := q1 e (List.mem_of_getElem? hx)
  simp only at he
  simp only [Bool.or_eq_false_iff, Bool.not_eq_false', g02, inR, Bool.and_eq_true, decide_eq_true_eq]
  rw [w64 (by omega) (by omega)]
  refine ⟨⟨⟨⟨by omega, by omega⟩, by omega, by omega⟩, by omega, by omega⟩, ?_⟩
  cases i with
  | zero => rfl
  | succ j =>
   have hy := N5 (show j < es.length by omega)
   generalize es[j] = f at hy
   have := y0k q5 hy hx
   simp only [Nat.add_sub_cancel, hy]
   have e' : p0b f e = H0 f e := rfl
   simp [e']; omega
theorem c08 {r : Int} {n : Int} {es : List C0} (hr : 1 ≤ r ∧ r ≤ 3) (hn : 1 ≤ n ∧ n ≤ 40) (hes : es.length ≤ 120) (hin : inG (r, n, es)) : O0 (r, n, o5 H0 [] es) = true := by
 refine (d00 _).2 ⟨fun e he => hin e ?_, hr, hn, ?_, Z00 O4 _ _ List.Pairwise.nil⟩
 ·rcases (T7 O4 e es []).1 he with h | h
  ·simp at h
  ·exact h
 ·have := a02 es []
  simp only [List.length_nil] at this
  simp only; omega
def d08 (a b : C0) : List (Int × Int) :=
 bif decide (a.2.1 = b.2.1) then (bif decide (a.1 = b.1) then [(if b.2.2 < a.2.2 then b.2.2 else a.2.2, if b.2.2 > a.2.2 then b.2.2 else a.2.2)] else []) ++ (bif decide (a.2.2 = b.2.2) then [(if b.1 < a.1 then b.1 else a.1, if b.1 > a.1 then b.1 else a.1)] else []) else []
def h01 (a : C0) : List C0 → List (Int × Int)
 | [] => []
 | b :: r => d08 a b ++ h01 a r
def z7 : List C0 → List (Int × Int)
 | [] => []
 | a :: r => h01 a r ++ z7 r
theorem Z0i (a b : C0) : (d08 a b).length ≤ 2 := by
 unfold d08
 cases decide (a.2.1 = b.2.1) <;> cases decide (a.1 = b.1) <;> cases decide (a.2.2 = b.2.2) <;> simp
theorem Z08 (a : C0) : ∀ l, (h01 a l).length ≤ 2 * l.length
 | [] => by simp [h01]
 | b :: r => by have := Z0i a b; have := Z08 a r; simp only [h01, List.length_append, List.length_cons]; omega
def mvV (f : Int × Int) (v : Int) : Int := if v = f.2 then f.1 else if v > f.2 then v - 1 else v
def mvE (f : Int × Int) (e : C0) : C0 := (mvV f e.1, e.2.1, mvV f e.2.2)
def n00 (g : l0) (f : Int × Int) : l0 := (g.1, g.2.1 - 1, o5 H0 [] (g.2.2.map (mvE f)))
def okF (g : l0) (f : Int × Int) : Prop := 0 ≤ f.1 ∧ f.1 < f.2 ∧ f.2 < g.2.1
theorem m03 {g : l0} {f : Int × Int} (hg : O0 g = true) (hf : okF g f) : O0 (n00 g f) = true := by
 obtain ⟨q1, q2, q3, q4, _⟩ := (d00 g).1 hg
 obtain ⟨f1, f2, f3⟩ := hf
 refine c08 q2 ⟨by omega, by omega⟩ (by simpa using q4) fun e he => ?_
 obtain ⟨e', he', rfl⟩ := List.mem_map.1 he
 obtain ⟨a1, a2, a3⟩ := q1 e' he'
 have hm : ∀ v : Int, 0 ≤ v ∧ v < g.2.1 → 0 ≤ mvV f v ∧ mvV f v < g.2.1 - 1 := fun v hv => by
  unfold mvV; split
  ·omega
  ·split <;> omega
 exact ⟨hm _ a1, hm _ a2, a3⟩
theorem z0f {g : l0} (hg : inG g) {a : C0} (ha : a ∈ g.2.2) : ∀ {l : List C0}, (∀ b ∈ l, b ∈ g.2.2 ∧ a ≠ b) → ∀ f ∈ h01 a l, okF g f
 | [], _, f, hf => by simp [h01] at hf
 | b :: r, h, f, hf => by
  rcases List.mem_append.1 (show f ∈ d08 a b ++ h01 a r from hf) with hf | hf
  ·have hb := hg b (h b (List.mem_cons_self ..)).1
   have ha' := hg a ha
   have hne := (h b (List.mem_cons_self ..)).2
   obtain ⟨a0, a1, a2⟩ := a
   obtain ⟨b0, b1, b2⟩ := b
   simp only at ha' hb
   unfold d08 at hf
   simp only at hf
   by_cases c1 : a1 = b1
   ·have d1 : ¬ (a0 = b0 ∧ a2 = b2) := fun ⟨x, y⟩ => hne (by rw [x, c1, y])
    simp only [c1, decide_true, cond_true, List.mem_append] at hf
    rcases hf with hf | hf
    ·by_cases c2 : a0 = b0
     ·simp only [c2, decide_true, cond_true, List.mem_singleton] at hf
      subst hf
      have : a2 ≠ b2 := fun y => d1 ⟨c2, y⟩
      unfold okF
      simp only
      split <;> split <;> omega
     ·simp [c2] at hf
    ·by_cases c2 : a2 = b2
     ·simp only [c2, decide_true, cond_true, List.mem_singleton] at hf
      subst hf
      have : a0 ≠ b0 := fun y => d1 ⟨y, c2⟩
      unfold okF
      simp only
      split <;> split <;> omega
     ·simp [c2] at hf
   ·simp [c1] at hf
  ·exact z0f hg ha (fun b' hb' => h b' (List.mem_cons_of_mem _ hb')) f hf
theorem A0f {g : l0} (hg : inG g) : ∀ {l : List C0}, (∀ b ∈ l, b ∈ g.2.2) → Asc H0 l → ∀ f ∈ z7 l, okF g f
 | [], _, _, f, hf => by simp [z7] at hf
 | a :: r, h, hA, f, hf => by
  rcases List.mem_append.1 (show f ∈ h01 a r ++ z7 r from hf) with hf | hf
  ·refine z0f hg (h a (List.mem_cons_self ..)) (fun b hb => ⟨h b (List.mem_cons_of_mem _ hb), fun e => ?_⟩) f hf
   have := (List.pairwise_cons.1 hA).1 b hb
   rw [e, O4.refl] at this; omega
  ·exact A0f hg (fun b hb => h b (List.mem_cons_of_mem _ hb)) (List.pairwise_cons.1 hA).2 f hf
theorem P02 {g : l0} (hg : O0 g = true) : ∀ f ∈ z7 g.2.2, okF g f := by
 obtain ⟨q1, _, _, _, q5⟩ := (d00 g).1 hg
 exact A0f q1 (fun _ h => h) q5
def o00 : Nat → l0 → l0 × List (Int × Int)
 | 0, g => (g, [])
 | n + 1, g => match z7 g.2.2 with
  | [] => (g, [])
  | f :: _ => ((o00 n (n00 g f)).1, f :: (o00 n (n00 g f)).2)
def l4 (g : l0) : l0 × List (Int × Int) := bif O0 g then o00 40 g else (g, [])
theorem B05 : ∀ (n : Nat) {g : l0}, O0 g = true → O0 (o00 n g).1 = true
 | 0, g, h => h
 | n + 1, g, h => by
  unfold o00
  cases e : z7 g.2.2 with
  | nil => exact h
  | cons f l => exact B05 n (m03 h (P02 h f (by rw [e]; exact List.mem_cons_self ..)))
theorem W06 : ∀ (n : Nat) {g : l0}, O0 g = true → g.2.1 ≤ (n : Int) + 1 → z7 (o00 n g).1.2.2 = []
 | 0, g, h, hn => by
  cases e : z7 g.2.2 with
  | nil => exact e
  | cons f l =>
   have := P02 h f (by rw [e]; exact List.mem_cons_self ..)
   unfold okF at this
   omega
 | n + 1, g, h, hn => by
  unfold o00
  cases e : z7 g.2.2 with
  | nil => exact e
  | cons f l => exact W06 n (m03 h (P02 h f (by rw [e]; exact List.mem_cons_self ..))) (by show g.2.1 - 1 ≤ _; omega)
theorem a0j (a b : C0) : d08 a b = [] ↔ N02 a b = false := by
 unfold d08 N02
 cases decide (a.2.1 = b.2.1) <;> cases decide (a.1 = b.1) <;> cases decide (a.2.2 = b.2.2) <;> simp
theorem a0d (a : C0) : ∀ l, h01 a l = [] ↔ ∀ b ∈ l, N02 a b = false
 | [] => by simp [h01]
 | b :: r => by
  rw [h01, List.append_eq_nil_iff, a0j, a0d a r]
  simp
theorem a09 : ∀ l, z7 l = [] ↔ l.Pairwise fun a b => N02 a b = false
 | [] => by simp [z7]
 | a :: r => by rw [z7, List.append_eq_nil_iff, a0d, a09 r, List.pairwise_cons]
theorem V7 (g : l0) : N0 g = true ↔ O0 g = true ∧ z7 g.2.2 = [] := by
 unfold N0
 rw [Bool.and_eq_true, V08, a09]
theorem I0b {g : l0} (h : O0 g = true) : N0 (l4 g).1 = true := by
 have hg := (O1 h).2.2.1
 unfold l4
 rw [h]
 exact (V7 _).2 ⟨B05 40 h, W06 40 h (by omega)⟩
end Go.Proofs.YtfdlgbfeceodeaaGreat
