/- Texts of the claim, joined: Plain laws: words and presentations, as the spec and the code know the; Plain laws: lists of words, and presentations, as the spec and the cod; Plain laws: graphs, as the spec and the code know them; Plain laws: steps in a graph; Plain laws: graphs: degrees, equality, edges put in order, sorted edge; Plain laws: valid graphs said in words; folds of a graph; Plain laws: the first defect. -/
import Derived.Test.YtfdlgbfeceodeaaGreatPart18
import Derived.Test.YtfdlgbfeceodeaaGreatH33
import Derived.Test.YtfdlgbfeceodeaaGreatH36
import Derived.Test.YtfdlgbfeceodeaaGreatPart17
namespace Go.Proofs.YtfdlgbfeceodeaaGreat
open Go.H
set_option linter.unusedVariables false
set_option linter.unusedSimpArgs false
theorem C1 {n : Nat} (h : n ≤ 140737488355328) : n < T0 := by unfold T0; omega
theorem O0 {p : Prop} [Decidable p] (h : p) : grd p = some () := by unfold grd; rw [if_pos h]
theorem O2 {α : Type} (o : Option α) (d : α) : chk true o d = o := rfl
theorem V5 {α : Type} (o : Option α) (d : α) : chk false o d = some d := rfl
theorem V3 {α : Type} {xs : List α} {k : Nat} {x : α} (h : xs[k]? = some x) : gi xs (k : Int) = some x := by rw [I08]; exact h
theorem m05 {α : Type} {xs : List α} {x : α} (h : xs[0]? = some x) : gi xs 0 = some x := V3 (k := 0) h
theorem Z0e {x : Int} (h : H0 x) (h2 : x ≠ -9223372036854775808) : IntKind.i64.wrap (0 - x) = -x := by rw [w64 (by have := h.1; have := h.2; omega) (by have := h.1; have := h.2; omega)]; omega
theorem i0b {n : Nat} (h : 0 < n) (hm : n ≤ 9223372036854775807) : IntKind.i64.wrap ((n : Int) - 1) = ((n - 1 : Nat) : Int) := by rw [w64 (by omega) (by omega)]; omega
theorem o6 {α : Type} {xs : List α} {k : Nat} (h : k < xs.length) : xs[k]? = some xs[k] := List.getElem?_eq_getElem h
def inR (lo hi x : Int) : Bool := decide (lo ≤ x) && decide (x ≤ hi)
def I03 (lo hi : Int) (w : List Int) (i : Nat) : Bool :=
 match w[i]? with
 | none => true
 | some x => x == 0 || !inR lo hi x || (decide (0 < i) && match w[i - 1]? with
  | none => true
  | some y => x == IntKind.i64.wrap (0 - y))
def y01 (lo hi : Int) (w : List Int) : Nat → Nat → Bool
 | 0, _ => true
 | d + 1, k => !I03 lo hi w k && y01 lo hi w d (k + 1)
def Z4 (r : Int) (w : List Int) : Bool := inR 1 3 r && decide (w.length ≤ 24) && y01 (-r) r w w.length 0
theorem U01 (a b c : Int) : F4 a b c = some (inR b c a) := by
 unfold F4 inR
 by_cases h : b ≤ a <;> simp [h]
theorem N01 (a b c : Int) : c6 a b c = some (inR b c a) := U01 a b c
theorem J03 (r : Int) (w : List Int) (hl : w.length ≤ 140737488355328) : ∀ (d k fuel : Nat), k + d = w.length → d < fuel →
  U6 w r fuel (k : Int) = some (bif y01 (IntKind.i64.wrap (0 - r)) r w d k then .inr () else .inl false)
 | d, k, 0, hk, hf => by omega
 | 0, k, fuel + 1, hk, hf => by
  rw [U6.eq_2, if_neg (by simp; omega)]
  simp [y01]
 | d + 1, k, fuel + 1, hk, hf => by
  have hkl : k < w.length := by omega
  have hx := o6 hkl
  generalize w[k] = x at hx
  have next := J03 r w hl d (k + 1) fuel (by omega) (by omega)
  rw [U6.eq_2, if_pos (by simp; omega)]
  generalize IntKind.i64.wrap (0 - r) = lo at next ⊢
  simp only [V3 hx, Option.bind_some, U01, Z1 hkl (by omega : w.length ≤ 9223372036854775807), next]
  have hbad : I03 lo r w k = (x == 0 || !inR lo r x || (decide (0 < k) && match w[k - 1]? with
   | none => true
   | some y => x == IntKind.i64.wrap (0 - y))) := by unfold I03; rw [hx]
  simp only [y01, hbad]
  by_cases h0 : x = 0
  ·simp [h0, chk]
  have e0 : decide (x = 0) = false := by simpa using h0
  have b0 : (x == 0) = false := by simpa using h0
  cases hin : inR lo r x with
  | false => simp [e0, b0, hin, chk]
  | true =>
   by_cases hk0 : k = 0
   ·have ek : decide ((k : Int) > 0) = false := by simp; omega
    have bk : decide (0 < k) = false := by simp; omega
    simp only [e0, b0, hin, ek, bk, O2, V5, Bool.not_true, Bool.not_false, Bool.and_true, Bool.false_and, Bool.or_self, Bool.true_and, cond_true, cond_false, Option.bind_some, Bool.or_false, Bool.and_false, Bool.false_eq_true, if_false, cond_true, cond_false]
   ·have hy := o6 (show k - 1 < w.length by omega)
    generalize w[k - 1] = y at hy
    have hpr : IntKind.i64.wrap ((k : Int) - 1) = ((k - 1 : Nat) : Int) := i0b (by omega) (by omega)
    have ek : decide ((k : Int) > 0) = true := by simp; omega
    have bk : decide (0 < k) = true := by simp; omega
    simp only [e0, b0, hin, ek, bk, hpr, hy, V3 hx, V3 hy, O2, V5, Bool.not_true, Bool.not_false, Bool.and_true, Bool.false_and, Bool.or_self, Bool.true_and, cond_true, cond_false, Option.bind_some, Bool.or_false, Bool.and_false, Bool.false_or]
    by_cases hxy : x = IntKind.i64.wrap (0 - y)
    ·have e1 : decide (x = IntKind.i64.wrap (0 - y)) = true := by simpa using hxy
     have b1 : (x == IntKind.i64.wrap (0 - y)) = true := by simpa using hxy
     simp only [e1, b1, if_true, Bool.not_true, Bool.false_and, Bool.false_eq_true, if_false, cond_true, cond_false]
    ·have e1 : decide (x = IntKind.i64.wrap (0 - y)) = false := by simpa using hxy
     have b1 : (x == IntKind.i64.wrap (0 - y)) = false := by simpa using hxy
     simp only [e1, b1, Bool.false_eq_true, if_false, Bool.not_false, Bool.true_and]
theorem F07 (r : Int) (w : List Int) (hl : w.length ≤ 140737488355328) : K9 r w = some (Z4 r w) := by
 unfold K9
 have h := J03 r w hl w.length 0 T0 (by omega) (C1 hl)
 rw [show ((0 : Nat) : Int) = 0 from rfl] at h
 rw [h, U01]
 unfold Z4
 by_cases hr : inR 1 3 r = true
 ·have : IntKind.i64.wrap (0 - r) = -r := by
   simp only [inR, Bool.and_eq_true, decide_eq_true_eq] at hr
   rw [w64 (by omega) (by omega)]; omega
  rw [this, hr]
  cases y01 (-r) r w w.length 0 <;> simp [w7] <;> omega
 ·simp only [Bool.not_eq_true] at hr
  rw [hr]
  cases y01 (IntKind.i64.wrap (0 - r)) r w w.length 0 <;> simp [w7]
theorem w0g (r x : Int) (hr : inR 1 3 r = true) : p9 r x = some (!(x == 0) && inR (-r) r x) := by
 have hn : IntKind.i64.wrap (0 - r) = -r := by
  simp only [inR, Bool.and_eq_true, decide_eq_true_eq] at hr
  rw [w64 (by omega) (by omega)]; omega
 unfold p9
 rw [hn, N01]
 by_cases h0 : x = 0
 ·simp [h0, chk]
 ·simp [h0, chk]
theorem G07 (y x : Int) : M7 y x = some (!(y == 0) && !(y == -9223372036854775808) && (x == IntKind.i64.wrap (0 - y))) := by
 unfold M7
 by_cases h0 : y = 0
 ·simp [h0]
 ·by_cases h1 : y = -9223372036854775808
  ·simp [h1]
  ·simp only [h0, h1, decide_false, Bool.not_false, cond_true, Option.some.injEq]
   have b2 : (y == 0) = false := by simpa using h0
   have b3 : (y == -9223372036854775808) = false := by simpa using h1
   rw [b2, b3]
   rfl
theorem K03 (r : Int) (w : List Int) (hr : inR 1 3 r = true) (hl : w.length ≤ 140737488355328) : ∀ (d k fuel : Nat), k + d = w.length → d < fuel →
  (∀ i, i < k → I03 (-r) r w i = false) →
  V6 w r fuel (k : Int) = some (bif y01 (-r) r w d k then .inr () else .inl false)
 | d, k, 0, hk, hf, hp => by omega
 | 0, k, fuel + 1, hk, hf, hp => by
  rw [V6.eq_2, if_neg (by simp; omega)]
  simp [y01]
 | d + 1, k, fuel + 1, hk, hf, hp => by
  have hkl : k < w.length := by omega
  have hx := o6 hkl
  generalize w[k] = x at hx
  have next := fun (hb : I03 (-r) r w k = false) => K03 r w hr hl d (k + 1) fuel (by omega) (by omega) (fun i hi => by
   by_cases e : i = k
   ·subst e; exact hb
   ·exact hp i (by omega))
  rw [V6.eq_2, if_pos (by simp; omega)]
  rw [V3 hx, Option.bind_some, w0g r x hr, Z1 hkl (by omega : w.length ≤ 9223372036854775807)]
  have hbad : I03 (-r) r w k = (x == 0 || !inR (-r) r x || (decide (0 < k) && match w[k - 1]? with
   | none => true
   | some y => x == IntKind.i64.wrap (0 - y))) := by unfold I03; rw [hx]
  simp only [y01]
  by_cases h0 : x = 0
  ·simp [h0, chk, hbad]
  have b0 : (x == 0) = false := by simpa using h0
  cases hin : inR (-r) r x with
  | false => simp [b0, hin, chk, hbad]
  | true =>
   by_cases hk0 : k = 0
   ·have hb : I03 (-r) r w k = false := by rw [hbad]; simp [h0, hin, hk0]
    rw [next hb, hb]
    have ek : decide ((k : Int) > 0) = false := by simp; omega
    simp only [b0, ek, O2, V5, Bool.not_true, Bool.not_false, Bool.and_true, Bool.false_and, Bool.or_self, Bool.true_and, cond_true, cond_false, Option.bind_some, Bool.or_false, Bool.and_false, Bool.false_eq_true, if_false, cond_true, cond_false]
   ·have hy := o6 (show k - 1 < w.length by omega)
    have hpy := hp (k - 1) (by omega)
    generalize w[k - 1] = y at hy
    have hy0 : y ≠ 0 ∧ y ≠ -9223372036854775808 := by
     unfold I03 at hpy
     rw [hy] at hpy
     simp only [Bool.or_eq_false_iff, Bool.not_eq_false'] at hpy
     have h1 := hpy.1.2
     simp only [inR, Bool.and_eq_true, decide_eq_true_eq] at h1 hr
     exact ⟨by simpa using hpy.1.1, by omega⟩
    have b2 : (y == 0) = false := by simpa using hy0.1
    have b3 : (y == -9223372036854775808) = false := by simpa using hy0.2
    have hpr : IntKind.i64.wrap ((k : Int) - 1) = ((k - 1 : Nat) : Int) := i0b (by omega) (by omega)
    have ek : decide ((k : Int) > 0) = true := by simp; omega
    have bk : decide (0 < k) = true := by simp; omega
    simp only [b0, ek, hpr, V3 hy, G07, b2, b3, O2, V5, Bool.not_true, Bool.not_false, Bool.and_true, Bool.false_and, Bool.or_self, Bool.true_and, cond_true, cond_false, Option.bind_some, Bool.or_false, Bool.and_false, Bool.false_or]
    cases b1 : (x == IntKind.i64.wrap (0 - y)) with
    | true =>
     have hb : I03 (-r) r w k = true := by rw [hbad, hy, bk, b0, hin]; exact b1
     simp only [hb, if_true, Bool.not_true, Bool.false_and, Bool.false_eq_true, if_false, cond_true, cond_false]
    | false =>
     have hb : I03 (-r) r w k = false := by rw [hbad, hy, bk, b0, hin]; exact b1
     simp only [hb, next hb, Bool.false_eq_true, if_false, Bool.not_false, Bool.true_and]
theorem H07 (r : Int) (w : List Int) (hl : w.length ≤ 140737488355328) : L9 r w = some (Z4 r w) := by
 unfold L9
 rw [N01]
 unfold Z4
 cases hr : inR 1 3 r with
 | false => simp
 | true =>
  by_cases h24 : w.length ≤ 24
  ·have h := K03 r w hr hl w.length 0 T0 (by omega) (C1 hl) (fun i hi => by omega)
   rw [show ((0 : Nat) : Int) = 0 from rfl] at h
   have h24' : ¬ (24 : Int) < (w.length : Int) := by omega
   simp only [Option.bind_some, h, h24']
   cases y01 (-r) r w w.length 0 <;> simp [w7, h24]
  ·have h24' : (24 : Int) < (w.length : Int) := by omega
   simp [h24, h24']
end Go.Proofs.YtfdlgbfeceodeaaGreat
namespace Go.Proofs.YtfdlgbfeceodeaaGreat
open Go.H
set_option linter.unusedVariables false
set_option linter.unusedSimpArgs false
def tot : List (List Int) → Nat
 | [] => 0
 | w :: r => w.length + tot r
theorem T1 {α : Type} {xs : List α} {k : Nat} {x : α} (h : xs[k]? = some x) : xs.drop k = x :: xs.drop (k + 1) := by
 obtain ⟨hk, rfl⟩ := List.getElem?_eq_some_iff.1 h
 exact List.drop_eq_getElem_cons hk
theorem I1 {α : Type} {xs : List α} {k : Nat} (h : k = xs.length) : xs.drop k = [] := by rw [h]; exact List.drop_length
theorem o01 (ws : List (List Int)) (hl : ws.length ≤ 140737488355328) : ∀ (d k fuel a : Nat), k + d = ws.length → d < fuel → a + tot (ws.drop k) ≤ 9223372036854775807 →
  K3 ws fuel (a : Int) (k : Int) = some ((a + tot (ws.drop k) : Nat) : Int)
 | d, k, 0, a, hk, hf, ht => by omega
 | 0, k, fuel + 1, a, hk, hf, ht => by
  rw [K3.eq_2, if_neg (by simp; omega), I1 (by omega)]
  rfl
 | d + 1, k, fuel + 1, a, hk, hf, ht => by
  have hkl : k < ws.length := by omega
  have hx := o6 hkl
  generalize ws[k] = x at hx
  rw [T1 hx] at ht ⊢
  simp only [tot] at ht ⊢
  rw [K3.eq_2, if_pos (by simp; omega), V3 hx, Option.bind_some, Z1 hkl (by omega : ws.length ≤ 9223372036854775807),
   show IntKind.i64.wrap ((a : Int) + ((x.length : Nat) : Int)) = ((a + x.length : Nat) : Int) by rw [w64 (by omega) (by omega)]; omega,
   o01 ws hl d (k + 1) fuel (a + x.length) (by omega) (by omega) (by omega)]
  rw [Nat.add_assoc]
theorem T02 (ws : List (List Int)) (hl : ws.length ≤ 140737488355328) (ht : tot ws ≤ 9223372036854775807) : l7 ws = some ((tot ws : Nat) : Int) := by
 unfold l7
 have h := o01 ws hl ws.length 0 T0 0 (by omega) (C1 hl) (by simpa using ht)
 rw [show ((0 : Nat) : Int) = 0 from rfl] at h
 rw [h]
 simp
theorem U00 (ws : List (List Int)) : ∀ (fuel : Nat) (a k : Int), o5 ws fuel a k = K3 ws fuel a k
 | 0, a, k => rfl
 | fuel + 1, a, k => by
  rw [o5.eq_2, K3.eq_2]
  simp only [U00 ws fuel]
theorem I07 (ws : List (List Int)) (hl : ws.length ≤ 140737488355328) (ht : tot ws ≤ 9223372036854775807) : o8 ws = some ((tot ws : Nat) : Int) := by
 rw [← T02 ws hl ht]
 unfold o8 l7
 rw [U00]
def Y05 (r : Int) : List (List Int) → Bool
 | [] => true
 | w :: l => Z4 r w && Y05 r l
def P3 (r : Int) (ws : List (List Int)) : Bool := inR 1 3 r && decide (ws.length ≤ 6) && Y05 r ws && decide (tot ws < 40)
theorem j0b {r : Int} : ∀ {ws : List (List Int)}, Y05 r ws = true → tot ws ≤ 24 * ws.length
 | [], _ => by simp [tot]
 | w :: l, h => by
  simp only [Y05, Bool.and_eq_true] at h
  have h1 := h.1
  simp only [Z4, Bool.and_eq_true, decide_eq_true_eq] at h1
  have := j0b h.2
  simp only [tot, List.length_cons]
  omega
def Q3 (ws : List (List Int)) : Prop := ∀ w ∈ ws, w.length ≤ 140737488355328
theorem y02 (r : Int) (ws : List (List Int)) (hl : ws.length ≤ 140737488355328) (hs : Q3 ws) : ∀ (d k fuel : Nat), k + d = ws.length → d < fuel →
  M5 ws r fuel (k : Int) = some (bif Y05 r (ws.drop k) then .inr () else .inl false)
 | d, k, 0, hk, hf => by omega
 | 0, k, fuel + 1, hk, hf => by
  rw [M5.eq_2, if_neg (by simp; omega), I1 (by omega)]
  rfl
 | d + 1, k, fuel + 1, hk, hf => by
  have hkl : k < ws.length := by omega
  have hx := o6 hkl
  have hsx := hs _ (List.mem_of_getElem? hx)
  generalize ws[k] = x at hx hsx
  rw [T1 hx, M5.eq_2, if_pos (by simp; omega), V3 hx, Option.bind_some, F07 r x hsx, Option.bind_some, Z1 hkl (by omega : ws.length ≤ 9223372036854775807),
   y02 r ws hl hs d (k + 1) fuel (by omega) (by omega)]
  simp only [Y05]
  cases Z4 r x <;> simp
theorem n05 (r : Int) (ws : List (List Int)) (hl : ws.length ≤ 140737488355328) (hs : Q3 ws) : E8 r ws = some (P3 r ws) := by
 unfold E8
 have h := y02 r ws hl hs ws.length 0 T0 (by omega) (C1 hl)
 rw [show ((0 : Nat) : Int) = 0 from rfl, List.drop_zero] at h
 rw [h, Option.bind_some]
 unfold P3
 cases ha : Y05 r ws with
 | false => simp [w7]
 | true =>
  rw [cond_true, U0, U01, Option.bind_some]
  have := j0b ha
  cases hr : inR 1 3 r with
  | false => simp [chk, grd, H0]
  | true =>
   by_cases h6 : ws.length ≤ 6
   ·rw [T02 ws hl (by omega)]
    have h6' : decide (((ws.length : Nat) : Int) ≤ 6) = true := by simp; omega
    have h6'' : decide (ws.length ≤ 6) = true := by simpa using h6
    rw [h6', h6'', cond_true, O2, Option.bind_some, O0 (by constructor <;> omega)]
    simp
    omega
   ·have h6' : decide (((ws.length : Nat) : Int) ≤ 6) = false := by simp; omega
    have h6'' : decide (ws.length ≤ 6) = false := by simpa using h6
    rw [h6', h6'']
    simp [chk, grd, H0]
theorem z02 (r : Int) (ws : List (List Int)) (hl : ws.length ≤ 140737488355328) (hs : Q3 ws) : ∀ (d k fuel : Nat), k + d = ws.length → d < fuel →
  N5 ws r fuel (k : Int) = some (bif Y05 r (ws.drop k) then .inr () else .inl false)
 | d, k, 0, hk, hf => by omega
 | 0, k, fuel + 1, hk, hf => by
  rw [N5.eq_2, if_neg (by simp; omega), I1 (by omega)]
  rfl
 | d + 1, k, fuel + 1, hk, hf => by
  have hkl : k < ws.length := by omega
  have hx := o6 hkl
  have hsx := hs _ (List.mem_of_getElem? hx)
  generalize ws[k] = x at hx hsx
  rw [T1 hx, N5.eq_2, if_pos (by simp; omega), V3 hx, Option.bind_some, H07 r x hsx, Option.bind_some, Z1 hkl (by omega : ws.length ≤ 9223372036854775807),
   z02 r ws hl hs d (k + 1) fuel (by omega) (by omega)]
  simp only [Y05]
  cases Z4 r x <;> simp
theorem o05 (r : Int) (ws : List (List Int)) (hl : ws.length ≤ 140737488355328) (hs : Q3 ws) : F8 r ws = some (P3 r ws) := by
 unfold F8
 rw [N01, Option.bind_some]
 unfold P3
 cases hr : inR 1 3 r with
 | false => simp
 | true =>
  by_cases h6 : ws.length ≤ 6
  ·have h6' : decide (((ws.length : Nat) : Int) > 6) = false := by simp; omega
   have h6'' : decide (ws.length ≤ 6) = true := by simpa using h6
   have h := z02 r ws hl hs ws.length 0 T0 (by omega) (C1 hl)
   rw [show ((0 : Nat) : Int) = 0 from rfl, List.drop_zero] at h
   rw [h6', h6'', h, Option.bind_some]
   cases ha : Y05 r ws with
   | false => simp [w7]
   | true =>
    have := j0b ha
    simp only [cond_true, U0, I07 ws hl (by omega), Option.bind_some, O0 (show H0 ((tot ws : Nat) : Int) by constructor <;> omega)]
    simp
    omega
  ·have h6' : decide (((ws.length : Nat) : Int) > 6) = true := by simp; omega
   have h6'' : decide (ws.length ≤ 6) = false := by simpa using h6
   rw [h6', h6'']
   simp
def cyc (w : List Int) : Bool := match w[0]?, w[w.length - 1]? with
 | some x, some y => !(x == IntKind.i64.wrap (0 - y))
 | _, _ => false
def a0f : List (List Int) → Bool
 | [] => true
 | w :: l => cyc w && a0f l
def D4 (x : D0) : Bool := P3 x.1 x.2 && a0f x.2
theorem G00 (ws : List (List Int)) (hl : ws.length ≤ 140737488355328) (hs : Q3 ws) : ∀ (d k fuel : Nat), k + d = ws.length → d < fuel →
  T3 ws fuel (k : Int) = some (bif a0f (ws.drop k) then .inr () else .inl false)
 | d, k, 0, hk, hf => by omega
 | 0, k, fuel + 1, hk, hf => by
  rw [T3.eq_2, if_neg (by simp; omega), I1 (by omega)]
  rfl
 | d + 1, k, fuel + 1, hk, hf => by
  have hkl : k < ws.length := by omega
  have hx := o6 hkl
  have hsx := hs _ (List.mem_of_getElem? hx)
  generalize ws[k] = x at hx hsx
  rw [T1 hx, T3.eq_2, if_pos (by simp; omega), V3 hx, Option.bind_some, Z1 hkl (by omega : ws.length ≤ 9223372036854775807),
   G00 ws hl hs d (k + 1) fuel (by omega) (by omega)]
  simp only [a0f]
  by_cases h0 : x.length = 0
  ·have : x = [] := List.length_eq_zero_iff.1 h0
   subst this
   simp [chk, cyc]
  ·have e0 : decide (((x.length : Nat) : Int) = 0) = false := by simpa using h0
   have h1 := o6 (show 0 < x.length by omega)
   have h2 := o6 (show x.length - 1 < x.length by omega)
   have hc : cyc x = !(x[0] == IntKind.i64.wrap (0 - x[x.length - 1])) := by unfold cyc; rw [h1, h2]
   generalize x[0] = a at h1 hc
   generalize x[x.length - 1] = b at h2 hc
   rw [e0, i0b (by omega) (by omega), m05 h1, V3 h2, hc]
   simp only [Bool.not_false, O2, Option.bind_some, cond_false]
   cases hab : (a == IntKind.i64.wrap (0 - b)) with
   | true => rw [if_pos (by simpa using hab)]; rfl
   | false => rw [if_neg (by simpa using hab)]; simp
theorem K8 (x : D0) (hl : x.2.length ≤ 140737488355328) (hs : Q3 x.2) : i5 x = some (D4 x) := by
 obtain ⟨r, ws⟩ := x
 unfold i5
 have h := G00 ws hl hs ws.length 0 T0 (by omega) (C1 hl)
 rw [show ((0 : Nat) : Int) = 0 from rfl, List.drop_zero] at h
 simp only [h, Option.bind_some, n05 r ws hl hs, D4]
 cases a0f ws <;> simp [w7]
theorem H0c {lo hi : Int} {w : List Int} : ∀ {d k : Nat}, y01 lo hi w d k = true → ∀ i, k ≤ i → i < k + d → I03 lo hi w i = false
 | 0, k, h, i, h1, h2 => by omega
 | d + 1, k, h, i, h1, h2 => by
  simp only [y01, Bool.and_eq_true, Bool.not_eq_true'] at h
  by_cases e : i = k
  ·subst e; exact h.1
  ·exact H0c h.2 i (by omega) (by omega)
theorem U02 {r : Int} {w : List Int} (h : Z4 r w = true) {i : Nat} {x : Int} (hx : w[i]? = some x) : (1 ≤ r ∧ r ≤ 3) ∧ w.length ≤ 24 ∧ x ≠ 0 ∧ -r ≤ x ∧ x ≤ r := by
 simp only [Z4, Bool.and_eq_true, decide_eq_true_eq] at h
 have hr := h.1.1
 simp only [inR, Bool.and_eq_true, decide_eq_true_eq] at hr
 have hb := H0c h.2 i (Nat.zero_le _) (by have := (List.getElem?_eq_some_iff.1 hx).1; omega)
 unfold I03 at hb
 rw [hx] at hb
 simp only [Bool.or_eq_false_iff, Bool.not_eq_false'] at hb
 have h1 := hb.1.2
 simp only [inR, Bool.and_eq_true, decide_eq_true_eq] at h1
 exact ⟨hr, h.1.2, by simpa using hb.1.1, h1⟩
theorem H00 (ws : List (List Int)) (hl : ws.length ≤ 140737488355328) (hs : Q3 ws) (r : Int) (ha : inR 1 3 r = true) : ∀ (d k fuel : Nat), k + d = ws.length → d < fuel → Y05 r (ws.drop k) = true →
  U3 ws fuel (k : Int) = some (bif a0f (ws.drop k) then .inr () else .inl false)
 | d, k, 0, hk, hf, hw => by omega
 | 0, k, fuel + 1, hk, hf, hw => by
  rw [U3.eq_2, if_neg (by simp; omega), I1 (by omega)]
  rfl
 | d + 1, k, fuel + 1, hk, hf, hw => by
  have hkl : k < ws.length := by omega
  have hx := o6 hkl
  have hsx := hs _ (List.mem_of_getElem? hx)
  generalize ws[k] = x at hx hsx
  rw [T1 hx] at hw ⊢
  simp only [Y05, Bool.and_eq_true] at hw
  rw [U3.eq_2, if_pos (by simp; omega), V3 hx, Option.bind_some, Z1 hkl (by omega : ws.length ≤ 9223372036854775807),
   H00 ws hl hs r ha d (k + 1) fuel (by omega) (by omega) hw.2]
  simp only [a0f]
  by_cases h0 : x.length = 0
  ·have : x = [] := List.length_eq_zero_iff.1 h0
   subst this
   simp [chk, cyc]
  ·have e0 : decide (((x.length : Nat) : Int) = 0) = false := by simpa using h0
   have h1 := o6 (show 0 < x.length by omega)
   have h2 := o6 (show x.length - 1 < x.length by omega)
   have hc : cyc x = !(x[0] == IntKind.i64.wrap (0 - x[x.length - 1])) := by unfold cyc; rw [h1, h2]
   generalize x[0] = a at h1 hc
   generalize x[x.length - 1] = b at h2 hc
   obtain ⟨hr1, _, a1, a2, a3⟩ := U02 hw.1 h1
   obtain ⟨_, _, b1, b2, b3⟩ := U02 hw.1 h2
   have na : IntKind.i64.wrap (0 - a) = -a := by rw [w64 (by omega) (by omega)]; omega
   have nb : IntKind.i64.wrap (0 - b) = -b := by rw [w64 (by omega) (by omega)]; omega
   rw [e0, i0b (by omega) (by omega), m05 h1, V3 h2, hc]
   simp only [Bool.not_false, O2, Option.bind_some, cond_false, G07, na, nb]
   have q1 : (a == 0) = false := by simpa using a1
   have q2 : (a == -9223372036854775808) = false := by simp; omega
   rw [q1, q2]
   simp only [Bool.not_false, Bool.true_and]
   by_cases hab : a = -b
   ·have e1 : (b == -a) = true := by simp; omega
    have e2 : (a == -b) = true := by simp; omega
    rw [e1, e2]; rfl
   ·have e1 : (b == -a) = false := by simp; omega
    have e2 : (a == -b) = false := by simp; omega
    rw [e1, e2]; simp
theorem f00 (x : D0) (hl : x.2.length ≤ 140737488355328) (hs : Q3 x.2) : j5 x = some (D4 x) := by
 obtain ⟨r, ws⟩ := x
 unfold j5
 simp only [o05 r ws hl hs, D4, Option.bind_some]
 cases ha : P3 r ws with
 | false => simp
 | true =>
  simp only [P3, Bool.and_eq_true] at ha
  have h := H00 ws hl hs r ha.1.1.1 ws.length 0 T0 (by omega) (C1 hl) (by rw [List.drop_zero]; exact ha.1.2)
  rw [show ((0 : Nat) : Int) = 0 from rfl, List.drop_zero] at h
  rw [h]
  cases a0f ws <;> simp [w7]
end Go.Proofs.YtfdlgbfeceodeaaGreat
namespace Go.Proofs.YtfdlgbfeceodeaaGreat
open Go.H
set_option linter.unusedVariables false
set_option linter.unusedSimpArgs false
def V01 (r hi : Int) (e : C0) : Bool := inR 0 hi e.1 && inR 0 hi e.2.2 && inR 1 r e.2.1
def k0b (e f : C0) : Int := M0 e f
theorem l0b (e f : C0) : k0b e f = if L7 e.1 f.1 ≠ 0 then L7 e.1 f.1 else if L7 e.2.1 f.2.1 ≠ 0 then L7 e.2.1 f.2.1 else L7 e.2.2 f.2.2 := rfl
theorem m04 (a b : Int) : (a < b ∧ L7 a b = -1) ∨ (a > b ∧ L7 a b = 1) ∨ (a = b ∧ L7 a b = 0) := by
 unfold L7
 split
 ·omega
 ·split <;> omega
theorem j0a (e f : C0) : H0 (k0b e f) := by
 rw [l0b]
 split
 ·exact N0d _ _
 ·split <;> exact N0d _ _
theorem b0f (g : l0) (e : C0) : M9 g e = some (V01 g.1 (IntKind.i64.wrap (g.2.1 - 1)) e) := by
 obtain ⟨r, n, es⟩ := g
 obtain ⟨a, l, b⟩ := e
 unfold M9 V01
 simp only [U01, Option.bind_some]
 cases inR 0 (IntKind.i64.wrap (n - 1)) a with
 | false => rfl
 | true =>
  cases inR 0 (IntKind.i64.wrap (n - 1)) b with
  | false => rfl
  | true => simp [chk]
theorem B04 (g : l0) (e : C0) : t6 g e = some (V01 g.1 (IntKind.i64.wrap (g.2.1 - 1)) e) := by
 obtain ⟨r, n, es⟩ := g
 obtain ⟨a, l, b⟩ := e
 unfold t6 E5 V01
 simp only [N01, Option.bind_some]
 cases inR 0 (IntKind.i64.wrap (n - 1)) a with
 | false => rfl
 | true =>
  cases inR 0 (IntKind.i64.wrap (n - 1)) b with
  | false => rfl
  | true => simp [chk]
theorem O00 (e f : C0) : R6 e f = some (k0b e f) := by
 obtain ⟨a, l, b⟩ := e
 obtain ⟨a', l', b'⟩ := f
 unfold R6
 rw [show T0 = (T0 - 4) + 1 + 1 + 1 + 1 from rfl]
 have w1 : IntKind.i64.wrap (0 + 1) = 1 := by decide
 have w2 : IntKind.i64.wrap (1 + 1) = 2 := by decide
 have w3 : IntKind.i64.wrap (2 + 1) = 3 := by decide
 have g0 : ∀ x y z : Int, gi [x, y, z] 0 = some x := fun _ _ _ => rfl
 have g1 : ∀ x y z : Int, gi [x, y, z] 1 = some y := fun _ _ _ => rfl
 have g2 : ∀ x y z : Int, gi [x, y, z] 2 = some z := fun _ _ _ => rfl
 have d0 : decide ((0 : Int) < 3) = true := rfl
 have d1 : decide ((1 : Int) < 3) = true := rfl
 have d2 : decide ((2 : Int) < 3) = true := rfl
 have d3 : decide ((3 : Int) < 3) = false := rfl
 simp only [U5.eq_2, w1, w2, w3, g0, g1, g2, d0, d1, d2, d3, if_true, Option.bind_some, Bool.false_eq_true, if_false]
 rw [l0b]
 simp only
 rcases m04 a a' with ⟨h, e⟩ | ⟨h, e⟩ | ⟨h, e⟩
 ·simp [e, h, w7]
 ·have : ¬ a < a' := by omega
  simp [e, h, this, w7]
 ·subst h
  rcases m04 l l' with ⟨h, e2⟩ | ⟨h, e2⟩ | ⟨h, e2⟩
  ·simp [e, e2, h, w7]
  ·have : ¬ l < l' := by omega
   simp [e, e2, h, this, w7]
  ·subst h
   rcases m04 b b' with ⟨h, e3⟩ | ⟨h, e3⟩ | ⟨h, e3⟩
   ·simp [e, e2, e3, h, w7]
   ·have : ¬ b < b' := by omega
    simp [e, e2, e3, h, this, w7]
   ·subst h
    simp [e, e2, e3, w7]
theorem v0i (a b : Int) : l6 a b = some (L7 a b) := by
 unfold l6 L7
 by_cases h : a < b
 ·simp [h]
 ·by_cases h2 : a > b <;> simp [h, h2]
theorem A02 (e f : C0) : Q7 e f = some (k0b e f) := by
 obtain ⟨a, l, b⟩ := e
 obtain ⟨a', l', b'⟩ := f
 rw [l0b]
 unfold Q7
 simp only [v0i, Option.bind_some, O0 (N0d _ _)]
 by_cases h1 : L7 a a' = 0
 ·by_cases h2 : L7 l l' = 0
  ·simp [h1, h2]
  ·simp [h1, h2]
 ·simp [h1]
def z0j (r hi : Int) (es : List C0) (k : Nat) : Bool := match es[k]? with
 | none => true
 | some e => !V01 r hi e || (decide (0 < k) && match es[k - 1]? with
  | none => true
  | some f => decide (k0b f e ≥ 0))
def okE (r hi : Int) (es : List C0) : Nat → Nat → Bool
 | 0, _ => true
 | d + 1, k => !z0j r hi es k && okE r hi es d (k + 1)
def N0 (g : l0) : Bool := okE g.1 (IntKind.i64.wrap (g.2.1 - 1)) g.2.2 g.2.2.length 0 && inR 1 3 g.1 && inR 1 40 g.2.1 && decide (g.2.2.length ≤ 120)
theorem J07 {r hi : Int} {es : List C0} {k : Nat} {e : C0} (hx : es[k]? = some e) : z0j r hi es k = (!V01 r hi e || (decide (0 < k) && match es[k - 1]? with
  | none => true
  | some f => decide (k0b f e ≥ 0))) := by unfold z0j; rw [hx]
theorem V02 (r n : Int) (es : List C0) (hl : es.length ≤ 140737488355328) : ∀ (d k fuel : Nat), k + d = es.length → d < fuel →
  s6 es r n fuel (k : Int) = some (bif okE r (IntKind.i64.wrap (n - 1)) es d k then .inr () else .inl false)
 | d, k, 0, hk, hf => by omega
 | 0, k, fuel + 1, hk, hf => by
  rw [s6.eq_2, if_neg (by simp; omega)]
  simp [okE]
 | d + 1, k, fuel + 1, hk, hf => by
  have hkl : k < es.length := by omega
  have hx := o6 hkl
  generalize es[k] = e at hx
  obtain ⟨e0, e1, e2⟩ := e
  have next := V02 r n es hl d (k + 1) fuel (by omega) (by omega)
  rw [s6.eq_2, if_pos (by simp; omega), V3 hx, Option.bind_some]
  simp only [b0f, Option.bind_some, Z1 hkl (by omega : es.length ≤ 9223372036854775807), next, okE, J07 hx]
  generalize IntKind.i64.wrap (n - 1) = hi
  cases hin : V01 r hi (e0, e1, e2) with
  | false => simp [chk, grd, H0]
  | true =>
   by_cases hk0 : k = 0
   ·have ek : decide ((k : Int) > 0) = false := by simp; omega
    have bk : decide (0 < k) = false := by simp; omega
    simp only [ek, bk, V5, Bool.not_true, Bool.not_false, Bool.and_true, Bool.false_and, Bool.or_self, Bool.true_and, cond_true, cond_false, Option.bind_some, Bool.or_false, Bool.false_eq_true, if_false, O0 (show H0 0 by decide)]
   ·have hy := o6 (show k - 1 < es.length by omega)
    generalize es[k - 1] = f at hy
    obtain ⟨f0, f1, f2⟩ := f
    have hpr : IntKind.i64.wrap ((k : Int) - 1) = ((k - 1 : Nat) : Int) := i0b (by omega) (by omega)
    have ek : decide ((k : Int) > 0) = true := by simp; omega
    have bk : decide (0 < k) = true := by simp; omega
    simp only [ek, bk, hpr, hy, V3 hx, V3 hy, O2, Bool.not_true, Bool.not_false, Bool.and_true, Bool.false_and, Bool.or_self, Bool.true_and, cond_true, cond_false, Option.bind_some, Bool.or_false, Bool.false_or, O00, O0 (j0a _ _)]
    cases decide (k0b (f0, f1, f2) (e0, e1, e2) ≥ 0) <;> rfl
theorem d6 (g : l0) (hl : g.2.2.length ≤ 140737488355328) : N3 g = some (N0 g) := by
 obtain ⟨r, n, es⟩ := g
 unfold N3 N0
 simp only at hl ⊢
 have h := V02 r n es hl es.length 0 T0 (by omega) (C1 hl)
 rw [show ((0 : Nat) : Int) = 0 from rfl] at h
 rw [h, Option.bind_some]
 cases okE r (IntKind.i64.wrap (n - 1)) es es.length 0 with
 | false => simp [w7]
 | true =>
  rw [cond_true, U0, U01, U01, Option.bind_some]
  cases inR 1 3 r with
  | false => simp [chk]
  | true =>
   simp only [O2, Option.bind_some, cond_true, Bool.true_and]
   cases inR 1 40 n with
   | false => simp
   | true => simp; omega
theorem W02 (r n : Int) (es : List C0) (hl : es.length ≤ 140737488355328) : ∀ (d k fuel : Nat), k + d = es.length → d < fuel →
  w6 es r n fuel (k : Int) = some (bif okE r (IntKind.i64.wrap (n - 1)) es d k then .inr () else .inl false)
 | d, k, 0, hk, hf => by omega
 | 0, k, fuel + 1, hk, hf => by
  rw [w6.eq_2, if_neg (by simp; omega)]
  simp [okE]
 | d + 1, k, fuel + 1, hk, hf => by
  have hkl : k < es.length := by omega
  have hx := o6 hkl
  generalize es[k] = e at hx
  obtain ⟨e0, e1, e2⟩ := e
  have next := W02 r n es hl d (k + 1) fuel (by omega) (by omega)
  rw [w6.eq_2, if_pos (by simp; omega), V3 hx, Option.bind_some]
  simp only [B04, Option.bind_some, Z1 hkl (by omega : es.length ≤ 9223372036854775807), next, okE, J07 hx]
  generalize IntKind.i64.wrap (n - 1) = hi
  cases hin : V01 r hi (e0, e1, e2) with
  | false => simp [chk, grd, H0]
  | true =>
   by_cases hk0 : k = 0
   ·have ek : decide ((k : Int) > 0) = false := by simp; omega
    have bk : decide (0 < k) = false := by simp; omega
    simp only [ek, bk, V5, Bool.not_true, Bool.not_false, Bool.and_true, Bool.false_and, Bool.or_self, Bool.true_and, cond_true, cond_false, Option.bind_some, Bool.or_false, Bool.false_eq_true, if_false, O0 (show H0 0 by decide)]
   ·have hy := o6 (show k - 1 < es.length by omega)
    generalize es[k - 1] = f at hy
    obtain ⟨f0, f1, f2⟩ := f
    have hpr : IntKind.i64.wrap ((k : Int) - 1) = ((k - 1 : Nat) : Int) := i0b (by omega) (by omega)
    have ek : decide ((k : Int) > 0) = true := by simp; omega
    have bk : decide (0 < k) = true := by simp; omega
    simp only [ek, bk, hpr, hy, V3 hx, V3 hy, O2, Bool.not_true, Bool.not_false, Bool.and_true, Bool.false_and, Bool.or_self, Bool.true_and, cond_true, cond_false, Option.bind_some, Bool.or_false, Bool.false_or, A02, O0 (j0a _ _)]
    cases decide (k0b (f0, f1, f2) (e0, e1, e2) ≥ 0) <;> rfl
theorem Q8 (g : l0) (hl : g.2.2.length ≤ 140737488355328) : p5 g = some (N0 g) := by
 obtain ⟨r, n, es⟩ := g
 unfold p5 N0
 simp only at hl ⊢
 rw [N01, N01, Option.bind_some]
 cases hr : inR 1 3 r with
 | false => simp [chk]
 | true =>
  simp only [Bool.not_true, Bool.not_false, O2, Option.bind_some, cond_false]
  cases hn : inR 1 40 n with
  | false => simp
  | true =>
   by_cases h120 : es.length ≤ 120
   ·have h := W02 r n es hl es.length 0 T0 (by omega) (C1 hl)
    rw [show ((0 : Nat) : Int) = 0 from rfl] at h
    have e1 : decide (((es.length : Nat) : Int) > 120) = false := by simp; omega
    have e2 : decide (es.length ≤ 120) = true := by simpa using h120
    simp only [e1, e2, Bool.not_true, cond_false, Bool.false_eq_true, if_false, h, Option.bind_some]
    cases okE r (IntKind.i64.wrap (n - 1)) es es.length 0 <;> rfl
   ·have e1 : decide (((es.length : Nat) : Int) > 120) = true := by simp; omega
    have e2 : decide (es.length ≤ 120) = false := by simpa using h120
    simp only [e1, e2, Bool.not_true, cond_false, if_true, Bool.and_false]
theorem x0g {r hi : Int} {es : List C0} : ∀ {d k : Nat}, okE r hi es d k = true → ∀ i, k ≤ i → i < k + d → z0j r hi es i = false
 | 0, k, h, i, h1, h2 => by omega
 | d + 1, k, h, i, h1, h2 => by
  simp only [okE, Bool.and_eq_true, Bool.not_eq_true'] at h
  by_cases e : i = k
  ·subst e; exact h.1
  ·exact x0g h.2 i (by omega) (by omega)
end Go.Proofs.YtfdlgbfeceodeaaGreat
namespace Go.Proofs.YtfdlgbfeceodeaaGreat
open Go.H
set_option linter.unusedVariables false
set_option linter.unusedSimpArgs false
theorem c0f {n : Nat} (h : n ≤ 9223372036854775807) : n < T0 := by unfold T0; omega
def goI (x : Int) : List Int → Bool × List Int
 | [] => (false, [])
 | y :: l => if x < y then (true, x :: y :: l) else if y = x then (true, y :: l) else ((goI x l).1, y :: (goI x l).2)
theorem x0h (x : Int) : ∀ l, a9 L7 x l = bif (goI x l).1 then (goI x l).2 else (goI x l).2 ++ [x]
 | [] => rfl
 | y :: l => by
  have ih := x0h x l
  unfold a9 goI
  rcases m04 x y with ⟨h, e⟩ | ⟨h, e⟩ | ⟨h, e⟩
  ·rw [e, if_pos (by omega), if_pos h]; rfl
  ·rw [e, if_neg (by omega), if_neg (by omega), if_neg (by omega), if_neg (by omega), ih]
   cases (goI x l).1 <;> rfl
  ·rw [e, if_neg (by omega), if_pos rfl, if_neg (by omega), if_pos h.symm]; rfl
theorem m0b (l : List Int) (w : Int) (hl : l.length ≤ 1099511627776) : ∀ (d k fuel : Nat) (acc : List Int), k + d = l.length → d < fuel → acc.length ≤ k + 1 →
  c4 l w fuel true (k : Int) acc = some (true, acc ++ l.drop k)
 | d, k, 0, acc, hd, hf, ha => by omega
 | 0, k, fuel + 1, acc, hd, hf, ha => by
  rw [c4.eq_2, if_neg (by simp; omega), I1 (by omega), List.append_nil]
 | d + 1, k, fuel + 1, acc, hd, hf, ha => by
  have hk : k < l.length := by omega
  have hx := o6 hk
  generalize l[k] = x at hx
  have ih := m0b l w hl d (k + 1) fuel (acc ++ [x]) (by omega) (by omega) (by simp; omega)
  rw [c4.eq_2, if_pos (by simp; omega), V3 hx, Option.bind_some]
  have hb : ∀ c : Bool, (bif c then (!true) else false) = false := fun c => by cases c <;> rfl
  simp only [hb, Bool.false_eq_true, if_false, Option.bind_some, Z1 hk (show l.length ≤ 9223372036854775807 by omega), ih, O0 (show (acc.length + [x].length) * 8 ≤ 140737488355328 by simp; omega)]
  rw [T1 hx]
  split <;> simp
theorem I0c (l : List Int) (w : Int) (hl : l.length ≤ 1099511627776) : ∀ (d k fuel : Nat) (acc : List Int), k + d = l.length → d < fuel → acc.length = k →
  c4 l w fuel false (k : Int) acc = some ((goI w (l.drop k)).1, acc ++ (goI w (l.drop k)).2)
 | d, k, 0, acc, hd, hf, ha => by omega
 | 0, k, fuel + 1, acc, hd, hf, ha => by
  rw [c4.eq_2, if_neg (by simp; omega), I1 (by omega)]
  simp [goI]
 | d + 1, k, fuel + 1, acc, hd, hf, ha => by
  have hk : k < l.length := by omega
  have hx := o6 hk
  generalize l[k] = x at hx
  have ih := I0c l w hl d (k + 1) fuel (acc ++ [x]) (by omega) (by omega) (by simp; omega)
  have on1 := m0b l w hl d (k + 1) fuel (acc ++ [x]) (by omega) (by omega) (by simp; omega)
  have on2 := m0b l w hl d (k + 1) fuel (acc ++ [w] ++ [x]) (by omega) (by omega) (by simp; omega)
  rw [c4.eq_2, if_pos (by simp; omega), V3 hx, Option.bind_some, T1 hx]
  unfold goI
  have hb : ∀ c : Bool, (bif c then (!true) else false) = false := fun c => by cases c <;> rfl
  have hb2 : ∀ c : Bool, (bif c then (!false) else false) = c := fun c => by cases c <;> rfl
  by_cases h0 : x = w
  ·rw [if_pos (by simpa using h0), Option.bind_some, hb, if_neg (by simp), Option.bind_some, O0 (by simp; omega), Option.bind_some, Z1 hk (by omega), on1, if_neg (by omega), if_pos h0]
   simp
  ·rw [if_neg (by simpa using h0), Option.bind_some, hb2]
   by_cases h1 : w < x
   ·rw [if_pos (by simpa using h1), O0 (by simp; omega), Option.bind_some, Option.bind_some, O0 (by simp; omega), Option.bind_some, Z1 hk (by omega), on2, if_pos h1]
    simp
   ·rw [if_neg (by simpa using h1), Option.bind_some, O0 (by simp; omega), Option.bind_some, Z1 hk (by omega), ih, if_neg h1, if_neg h0]
    simp
theorem K07 (l : List Int) (w : Int) (hl : l.length ≤ 1099511627776) : y7 l w = some (a9 L7 w l) := by
 unfold y7
 have h := I0c l w hl l.length 0 T0 [] (by omega) (C1 (by omega)) rfl
 rw [show ((0 : Nat) : Int) = 0 from rfl, List.drop_zero, List.nil_append] at h
 rw [h, Option.bind_some, x0h]
 have hlen : ∀ l : List Int, (goI w l).2.length ≤ l.length + 1 := fun l => by
  induction l with
  | nil => simp [goI]
  | cons y l ih =>
   unfold goI
   split
   ·simp
   ·split
    ·simp
    ·simp only [List.length_cons]; omega
 have := hlen l
 cases (goI w l).1 with
 | true => rfl
 | false =>
  simp only [Bool.not_false, if_true, cond_false]
  rw [O0 (by simp; omega), Option.bind_some]
def J0c (v x : Int) (e : C0) : List Int :=
 if 0 < x ∧ e.2.1 = x ∧ e.1 = v then [e.2.2] else if x < 0 ∧ e.2.1 = -x ∧ e.2.2 = v then [e.1] else []
def g00 (v x : Int) : List C0 → List Int
 | [] => []
 | e :: es => J0c v x e ++ g00 v x es
theorem w0i (v x : Int) (e : C0) : (J0c v x e).length ≤ 1 := by unfold J0c; split <;> (try split) <;> simp
theorem n0b (v x : Int) : ∀ es, (g00 v x es).length ≤ es.length
 | [] => by simp [g00]
 | e :: es => by
  have h1 := w0i v x e
  have h2 := n0b v x es
  simp only [g00, List.length_append, List.length_cons]
  omega
def J7 (x : Int) : Prop := H0 x ∧ x ≠ -9223372036854775808
theorem L07 (es : List C0) (v x : Int) (hx : J7 x) (hl : es.length ≤ 1099511627776) : ∀ (d k fuel : Nat) (acc : List Int), k + d = es.length → d < fuel → acc.length ≤ k →
  w4 es x v fuel (k : Int) acc = some (acc ++ g00 v x (es.drop k))
 | d, k, 0, acc, hd, hf, ha => by omega
 | 0, k, fuel + 1, acc, hd, hf, ha => by
  rw [w4.eq_2, if_neg (by simp; omega), I1 (by omega)]
  simp [g00]
 | d + 1, k, fuel + 1, acc, hd, hf, ha => by
  have hk : k < es.length := by omega
  have he := o6 hk
  generalize es[k] = e at he
  obtain ⟨a, l, b⟩ := e
  have ih := fun acc' h => L07 es v x hx hl d (k + 1) fuel acc' (by omega) (by omega) h
  have hn : decide (x = -9223372036854775808) = false := by simp; exact hx.2
  rw [w4.eq_2, if_pos (by simp; omega), V3 he, Option.bind_some, T1 he]
  simp only [g00, J0c, Z0e hx.1 hx.2, hn, Bool.not_false, Z1 hk (show es.length ≤ 9223372036854775807 by omega)]
  by_cases c1 : 0 < x ∧ l = x ∧ a = v
  ·obtain ⟨c1, rfl, rfl⟩ := c1
   rw [if_pos (by simp [c1]), if_pos ⟨c1, rfl, rfl⟩, O0 (by simp; omega), Option.bind_some, ih _ (by simp; omega)]
   simp
  ·rw [if_neg c1, if_neg (by simp only [Bool.cond_eq_ite]; simp; intro h1 h2 h3; exact c1 ⟨h1, h2, h3⟩)]
   by_cases c2 : x < 0 ∧ l = -x ∧ b = v
   ·rw [if_pos c2, if_pos (by simp [c2.1, c2.2.1, c2.2.2]), O0 (by simp; omega), Option.bind_some, ih _ (by simp; omega)]
    simp
   ·rw [if_neg c2, if_neg (by simp only [Bool.cond_eq_ite]; simp; intro h1 h2 h3; exact c2 ⟨h1, h2, h3⟩), ih _ (by omega)]
    simp
theorem L03 (w : Int) : ∀ l : List Int, (a9 L7 w l).length ≤ l.length + 1
 | [] => by simp [a9]
 | y :: l => by
  have := L03 w l
  unfold a9
  split
  ·simp
  ·split
   ·simp
   ·simp only [List.length_cons]; omega
theorem M07 (es : List C0) (v x : Int) (hx : J7 x) (hl : es.length ≤ 1099511627776) : ∀ (d k fuel : Nat) (u : List Int), k + d = es.length → d < fuel → u.length ≤ k →
  O3 es x v fuel u (k : Int) = some (I6 L7 u (g00 v x (es.drop k)))
 | d, k, 0, u, hd, hf, ha => by omega
 | 0, k, fuel + 1, u, hd, hf, ha => by
  rw [O3.eq_2, if_neg (by simp; omega), I1 (by omega)]
  rfl
 | d + 1, k, fuel + 1, u, hd, hf, ha => by
  have hk : k < es.length := by omega
  have he := o6 hk
  generalize es[k] = e at he
  obtain ⟨a, l, b⟩ := e
  have ih := fun u' h => M07 es v x hx hl d (k + 1) fuel u' (by omega) (by omega) h
  rw [O3.eq_2, if_pos (by simp; omega), V3 he, Option.bind_some, T1 he]
  simp only [g00, J0c, Z0e hx.1 hx.2, Z1 hk (show es.length ≤ 9223372036854775807 by omega)]
  by_cases c1 : 0 < x ∧ l = x ∧ a = v
  ·obtain ⟨c1, rfl, rfl⟩ := c1
   have hno : decide (l < 0) = false := by simp; omega
   have := L03 b u
   rw [if_pos (by simp [c1]), if_pos ⟨c1, rfl, rfl⟩, K07 u b (by omega), Option.bind_some, hno, if_neg (by simp), ih _ (by omega)]
   rfl
  ·rw [if_neg c1, if_neg (by simp only [Bool.cond_eq_ite]; simp; intro h1 h2 h3; exact c1 ⟨h1, h2, h3⟩)]
   by_cases c2 : x < 0 ∧ l = -x ∧ b = v
   ·have := L03 a u
    rw [if_pos c2, if_pos (by simp [c2.1, c2.2.1, c2.2.2]), K07 u a (by omega), Option.bind_some, ih _ (by omega)]
    rfl
   ·rw [if_neg c2, if_neg (by simp only [Bool.cond_eq_ite]; simp; intro h1 h2 h3; exact c2 ⟨h1, h2, h3⟩), ih _ (by omega)]
    rfl
def E01 (g : l0) (v x : Int) : List Int := I6 L7 [] (g00 v x g.2.2)
theorem H0k (x y : Int) : eqI x y = true ↔ x = y := by simp [eqI]
theorem d0f (g : l0) (v x : Int) (hx : J7 x) (hl : g.2.2.length ≤ 1099511627776) : T8 g v x = some (E01 g v x) := by
 obtain ⟨r, n, es⟩ := g
 unfold T8 E01
 have h := M07 es v x hx hl es.length 0 T0 [] (by omega) (c0f (by simp only at hl; omega)) (by simp)
 rw [show ((0 : Nat) : Int) = 0 from rfl, List.drop_zero] at h
 simp only [h, Option.bind_some]
theorem e0f (g : l0) (v x : Int) (hx : J7 x) (hl : g.2.2.length ≤ 1099511627776) : U8 g v x = some (E01 g v x) := by
 obtain ⟨r, n, es⟩ := g
 unfold U8 E01
 have h := L07 es v x hx hl es.length 0 T0 [] (by omega) (c0f (by simp only at hl; omega)) (by simp)
 rw [show ((0 : Nat) : Int) = 0 from rfl, List.drop_zero, List.nil_append] at h
 have hlen := n0b v x es
 simp only at hl
 simp only [h, Option.bind_some, O0 (show (g00 v x es).length < 4611686018427387904 by omega)]
 rw [← Y0e f01 H0k (g00 v x es) (g00 v x es) fun _ => Iff.rfl]
 rfl
def K5 (g : l0) (v x : Int) : Int := match E01 g v x with
 | [] => -1
 | a :: _ => a
theorem L06 (g : l0) (v x : Int) (hx : J7 x) (hl : g.2.2.length ≤ 1099511627776) : K6 g v x = some (K5 g v x) := by
 have h := d0f g v x hx hl
 obtain ⟨r, n, es⟩ := g
 unfold K6 K5
 simp only [h, Option.bind_some]
 cases E01 (r, n, es) v x with
 | nil => rfl
 | cons a l => rfl
theorem M06 (g : l0) (v x : Int) (hx : J7 x) (hl : g.2.2.length ≤ 1099511627776) : L6 g v x = some (K5 g v x) := by
 have h := e0f g v x hx hl
 obtain ⟨r, n, es⟩ := g
 unfold L6 K5
 simp only [h, Option.bind_some]
 cases E01 (r, n, es) v x with
 | nil => rfl
 | cons a l => rfl
theorem x0i {g : l0} {v x y : Int} (h : y ∈ E01 g v x) : y ∈ g00 v x g.2.2 := by
 rcases (l9 f01 y _ []).1 h with h | h
 ·cases h
 ·exact h
theorem o0b {v x y : Int} : ∀ {es : List C0}, y ∈ g00 v x es ↔ ∃ e ∈ es, (0 < x ∧ e.2.1 = x ∧ e.1 = v ∧ y = e.2.2) ∨ (x < 0 ∧ e.2.1 = -x ∧ e.2.2 = v ∧ y = e.1)
 | [] => by simp [g00]
 | e :: es => by
  simp only [g00, List.mem_append, o0b (es := es), List.mem_cons, exists_eq_or_imp]
  refine or_congr ?_ Iff.rfl
  unfold J0c
  split
  ·rename_i h
   simp only [List.mem_singleton]
   constructor
   ·rintro rfl; exact .inl ⟨h.1, h.2.1, h.2.2, rfl⟩
   ·rintro (⟨_, _, _, h4⟩ | ⟨h1, _⟩)
    ·exact h4
    ·omega
  ·rename_i h
   split
   ·rename_i h2
    simp only [List.mem_singleton]
    constructor
    ·rintro rfl; exact .inr ⟨h2.1, h2.2.1, h2.2.2, rfl⟩
    ·rintro (⟨h1, _⟩ | ⟨_, _, _, h4⟩)
     ·omega
     ·exact h4
   ·rename_i h2
    constructor
    ·intro h; cases h
    ·rintro (⟨h3, h4, h5, _⟩ | ⟨h3, h4, h5, _⟩)
     ·exact absurd ⟨h3, h4, h5⟩ h
     ·exact absurd ⟨h3, h4, h5⟩ h2
def inG (g : l0) : Prop := ∀ e ∈ g.2.2, (0 ≤ e.1 ∧ e.1 < g.2.1) ∧ (0 ≤ e.2.2 ∧ e.2.2 < g.2.1) ∧ 1 ≤ e.2.1 ∧ e.2.1 ≤ g.1
theorem Y1 {g : l0} (h : N0 g = true) : inG g ∧ (1 ≤ g.1 ∧ g.1 ≤ 3) ∧ (1 ≤ g.2.1 ∧ g.2.1 ≤ 40) ∧ g.2.2.length ≤ 120 := by
 obtain ⟨r, n, es⟩ := g
 simp only [N0, inR, Bool.and_eq_true, decide_eq_true_eq] at h
 obtain ⟨⟨⟨h1, h2⟩, h3⟩, h4⟩ := h
 refine ⟨fun e he => ?_, h2, h3, h4⟩
 obtain ⟨i, hi⟩ := List.getElem?_of_mem he
 have hb := x0g h1 i (Nat.zero_le _) (by have := (List.getElem?_eq_some_iff.1 hi).1; simp only at this; omega)
 rw [J07 hi] at hb
 simp only [Bool.or_eq_false_iff, Bool.not_eq_false', V01, inR, Bool.and_eq_true, decide_eq_true_eq] at hb
 obtain ⟨⟨⟨⟨b1, b2⟩, b3, b4⟩, b5, b6⟩, _⟩ := hb
 rw [w64 (by omega) (by omega)] at b2 b4
 simp only
 exact ⟨⟨b1, by omega⟩, ⟨b3, by omega⟩, b5, b6⟩
theorem k0a {g : l0} (hg : inG g) (v x : Int) : K5 g v x = -1 ∨ (0 ≤ K5 g v x ∧ K5 g v x < g.2.1) := by
 unfold K5
 cases hs : E01 g v x with
 | nil => exact .inl rfl
 | cons a l =>
  right
  have ha : a ∈ E01 g v x := by rw [hs]; exact List.mem_cons_self ..
  obtain ⟨e, he, h⟩ := o0b.1 (x0i ha)
  have := hg e he
  rcases h with ⟨_, _, _, rfl⟩ | ⟨_, _, _, rfl⟩
  ·exact this.2.1
  ·exact this.1
theorem n04 {g : l0} (hg : inG g) (hn : g.2.1 ≤ 40) (v x : Int) : H0 (K5 g v x) := by
 rcases k0a hg v x with h | h
 ·rw [h]; decide
 ·constructor <;> omega
def F02 (a b : C0) : Bool := decide (a.2.1 = b.2.1) && (decide (a.1 = b.1) || decide (a.2.2 = b.2.2))
theorem M08 (a b : C0) : F02 a b = F02 b a := by
 unfold F02
 have h : ∀ x y : Int, decide (x = y) = decide (y = x) := fun x y => decide_eq_decide.2 ⟨Eq.symm, Eq.symm⟩
 rw [h a.2.1, h a.1, h a.2.2]
def noC (a : C0) : List C0 → Bool
 | [] => true
 | b :: l => !F02 a b && noC a l
def o06 : List C0 → Bool
 | [] => true
 | a :: l => noC a l && o06 l
theorem O0d (a : C0) : ∀ l, noC a l = true ↔ ∀ b ∈ l, F02 a b = false
 | [] => by simp [noC]
 | b :: l => by simp [noC, O0d a l]
theorem N08 : ∀ l, o06 l = true ↔ l.Pairwise fun a b => F02 a b = false
 | [] => by simp [o06]
 | a :: l => by simp [o06, N08 l, O0d, List.pairwise_cons]
def p0b : List C0 → List C0 → Bool
 | _, [] => true
 | pre, a :: l => noC a pre && p0b (pre ++ [a]) l
theorem K0c : ∀ (l pre : List C0), p0b pre l = true ↔ l.Pairwise (fun a b => F02 a b = false) ∧ ∀ a ∈ l, ∀ b ∈ pre, F02 a b = false
 | [], pre => by simp [p0b]
 | a :: l, pre => by
  simp only [p0b, Bool.and_eq_true, O0d, K0c l, List.pairwise_cons]
  constructor
  ·rintro ⟨h2, h3, h4⟩
   refine ⟨⟨fun b hb => by rw [M08]; exact h4 b hb a (by simp), h3⟩, fun x hx b hb => ?_⟩
   rcases List.mem_cons.1 hx with rfl | hx
   ·exact h2 b hb
   ·exact h4 x hx b (by simp [hb])
  ·rintro ⟨⟨h2, h3⟩, h4⟩
   refine ⟨fun b hb => h4 a (List.mem_cons_self ..) b hb, h3, fun x hx b hb => ?_⟩
   rcases List.mem_append.1 hb with hb | hb
   ·exact h4 x (List.mem_cons_of_mem _ hx) b hb
   ·rw [List.mem_singleton.1 hb, M08]; exact h2 x hx
theorem y0i (l : List C0) : p0b [] l = o06 l := by
 rw [Bool.eq_iff_iff, K0c, N08]
 simp
def S0 (g : l0) : Bool := N0 g && o06 g.2.2
theorem c0l (a0 a1 a2 b0 b1 b2 : Int) : (bif decide (a1 = b1) then (bif decide (a0 = b0) then true else decide (a2 = b2)) else false) = F02 (a0, a1, a2) (b0, b1, b2) := by
 unfold F02
 cases decide (a1 = b1) <;> cases decide (a0 = b0) <;> rfl
theorem N07 (l : List C0) (a : C0) (hl : l.length ≤ 140737488355328) : ∀ (d k fuel : Nat), k + d = l.length → d < fuel →
  Q5 l a.2.1 a.1 a.2.2 fuel (k : Int) = some (bif noC a (l.drop k) then .inr () else .inl false)
 | d, k, 0, hd, hf => by omega
 | 0, k, fuel + 1, hd, hf => by
  rw [Q5.eq_2, if_neg (by simp; omega), I1 (by omega)]
  rfl
 | d + 1, k, fuel + 1, hd, hf => by
  have hk : k < l.length := by omega
  have hx := o6 hk
  generalize l[k] = x at hx
  obtain ⟨a0, a1, a2⟩ := a
  obtain ⟨b0, b1, b2⟩ := x
  rw [Q5.eq_2, if_pos (by simp; omega), V3 hx, Option.bind_some, T1 hx]
  simp only [c0l, noC]
  cases hc : F02 (a0, a1, a2) (b0, b1, b2) with
  | true => rfl
  | false =>
   rw [if_neg (by simp), Z1 hk (by omega), N07 l (a0, a1, a2) hl d (k + 1) fuel (by omega) (by omega)]
   simp
theorem N06 {α : Type} {xs : List α} {k : Nat} (h : k ≤ xs.length) : I06 xs (k : Int) (xs.length : Int) = some (xs.drop k) := by
 unfold I06
 rw [if_pos ⟨by omega, by omega, by omega⟩]
 simp
theorem O07 (l : List C0) (hl : l.length ≤ 140737488355328) : ∀ (d k fuel : Nat), k + d = l.length → d < fuel →
  R5 l fuel (k : Int) = some (bif o06 (l.drop k) then .inr () else .inl false)
 | d, k, 0, hd, hf => by omega
 | 0, k, fuel + 1, hd, hf => by
  rw [R5.eq_2, if_neg (by simp; omega), I1 (by omega)]
  rfl
 | d + 1, k, fuel + 1, hd, hf => by
  have hk : k < l.length := by omega
  have hx := o6 hk
  generalize l[k] = x at hx
  have h0 := N07 (l.drop (k + 1)) x (by simp; omega) (l.drop (k + 1)).length 0 T0 (by omega) (C1 (by simp; omega))
  rw [show ((0 : Nat) : Int) = 0 from rfl, List.drop_zero] at h0
  obtain ⟨a0, a1, a2⟩ := x
  rw [R5.eq_2, if_pos (by simp; omega), V3 hx, Option.bind_some, T1 hx]
  simp only [Z1 hk (show l.length ≤ 9223372036854775807 by omega), N06 (show k + 1 ≤ l.length by omega), Option.bind_some]
  simp only at h0
  rw [h0, Option.bind_some]
  simp only [o06]
  cases noC (a0, a1, a2) (l.drop (k + 1)) with
  | false => rfl
  | true =>
   simp only [cond_true, d0c, Bool.true_and]
   exact O07 l hl d (k + 1) fuel (by omega) (by omega)
theorem i00 (g : l0) (hl : g.2.2.length ≤ 140737488355328) : i6 g = some (S0 g) := by
 have hG := Q8 g hl
 obtain ⟨r, n, es⟩ := g
 unfold i6 S0
 simp only [hG, Option.bind_some]
 cases N0 (r, n, es) with
 | false => rfl
 | true =>
  have h := O07 es hl es.length 0 T0 (by omega) (C1 hl)
  rw [show ((0 : Nat) : Int) = 0 from rfl, List.drop_zero] at h
  rw [if_neg (by simp), h, Option.bind_some]
  cases o06 es <;> rfl
theorem P07 (l : List C0) (hl : l.length ≤ 140737488355328) {i : Nat} {a : C0} (ha : l[i]? = some a) : ∀ (d k fuel : Nat), k + d = i → d < fuel →
  O5 (i : Int) l fuel (k : Int) = some (bif noC a ((l.take i).drop k) then .inr () else .inl false)
 | d, k, 0, hd, hf => by omega
 | 0, k, fuel + 1, hd, hf => by
  have := (List.getElem?_eq_some_iff.1 ha).1
  rw [O5.eq_2, if_neg (by simp; omega), I1 (by simp; omega)]
  rfl
 | d + 1, k, fuel + 1, hd, hf => by
  have hi := (List.getElem?_eq_some_iff.1 ha).1
  have hk : k < l.length := by omega
  have hx := o6 hk
  have hx2 : (l.take i)[k]? = some l[k] := by rw [List.getElem?_take, if_pos (by omega)]; exact hx
  have ih := P07 l hl ha d (k + 1) fuel (by omega) (by omega)
  generalize l[k] = x at hx hx2
  obtain ⟨a0, a1, a2⟩ := a
  obtain ⟨b0, b1, b2⟩ := x
  rw [O5.eq_2, if_pos (by simp; omega), V3 ha, Option.bind_some, T1 hx2]
  simp only [V3 hx, Option.bind_some, c0l, noC]
  cases hc : F02 (a0, a1, a2) (b0, b1, b2) with
  | true => rfl
  | false =>
   rw [if_neg (by simp), Z1 hk (by omega), ih]
   simp
theorem d0l {α : Type} {xs : List α} {k : Nat} {x : α} (h : xs[k]? = some x) : xs.take (k + 1) = xs.take k ++ [x] := by
 obtain ⟨hk, rfl⟩ := List.getElem?_eq_some_iff.1 h
 exact List.take_succ_eq_append_getElem hk
theorem Q07 (r n : Int) (l : List C0) (hg : N0 (r, n, l) = true) (hl : l.length ≤ 140737488355328) : ∀ (d k fuel : Nat), k + d = l.length → d < fuel →
  O4 l r n fuel (k : Int) = some (bif p0b (l.take k) (l.drop k) then .inr () else .inl false)
 | d, k, 0, hd, hf => by omega
 | 0, k, fuel + 1, hd, hf => by
  have e : decide ((k : Int) < (l.length : Int)) = false := by simp; omega
  rw [O4.eq_2, e, V5, Option.bind_some, if_neg (by simp), I1 (by omega)]
  rfl
 | d + 1, k, fuel + 1, hd, hf => by
  have hk : k < l.length := by omega
  have hx := o6 hk
  generalize l[k] = x at hx
  have h0 := P07 l hl hx k 0 T0 (by omega) (C1 (by omega))
  rw [show ((0 : Nat) : Int) = 0 from rfl, List.drop_zero] at h0
  have e : decide ((k : Int) < (l.length : Int)) = true := by simp; omega
  rw [O4.eq_2, e, O2, d6 (r, n, l) hl, Option.bind_some, hg, if_pos (show (bif true then true else false) = true from rfl), h0, Option.bind_some, T1 hx]
  simp only [p0b]
  cases noC x (l.take k) with
  | false => rfl
  | true =>
   simp only [cond_true, d0c, Bool.true_and]
   rw [Z1 hk (by omega), ← d0l hx]
   exact Q07 r n l hg hl d (k + 1) fuel (by omega) (by omega)
theorem V8 (g : l0) (hl : g.2.2.length ≤ 140737488355328) : g6 g = some (S0 g) := by
 have hG := d6 g hl
 obtain ⟨r, n, es⟩ := g
 unfold g6 S0
 simp only [hG, Option.bind_some]
 cases hg : N0 (r, n, es) with
 | false =>
  have h1 : O4 es r n T0 0 = some (.inr ()) := by
   rw [show T0 = (T0 - 1) + 1 from rfl, O4.eq_2]
   by_cases e : decide ((0 : Int) < (es.length : Int)) = true
   ·rw [e, O2, hG, Option.bind_some, hg, if_neg (by simp)]
   ·rw [Bool.not_eq_true] at e
    rw [e, V5, Option.bind_some, if_neg (by simp)]
  rw [h1]
  rfl
 | true =>
  have h := Q07 r n es hg hl es.length 0 T0 (by omega) (C1 hl)
  rw [show ((0 : Nat) : Int) = 0 from rfl, List.drop_zero, List.take_zero, y0i] at h
  rw [h, Option.bind_some]
  cases o06 es <;> rfl
def c9 (g : l0) : Int → List Int → Int × Nat
 | v, [] => (v, 0)
 | v, x :: w => if K5 g v x < 0 then (v, 0) else ((c9 g (K5 g v x) w).1, (c9 g (K5 g v x) w).2 + 1)
theorem q0b (g : l0) : ∀ (w : List Int) (v : Int), (c9 g v w).2 ≤ w.length
 | [], v => by simp [c9]
 | x :: w, v => by
  have := q0b g w (K5 g v x)
  unfold c9
  split
  ·simp
  ·simp only [List.length_cons]; omega
theorem r0b {g : l0} (hg : inG g) (hn : g.2.1 ≤ 40) : ∀ (w : List Int) (v : Int), H0 v → H0 (c9 g v w).1
 | [], v, h => h
 | x :: w, v, h => by
  unfold c9
  split
  ·exact h
  ·exact r0b hg hn w _ (n04 hg hn v x)
def I0k (q : Int × Nat) (n : Nat) (k : Nat) : (Int × Int) ⊕ Int := bif decide (q.2 < n) then .inl (q.1, ((k + q.2 : Nat) : Int)) else .inr q.1
theorem D09 (r n : Int) (es : List C0) (hg : inG (r, n, es)) (hn : n ≤ 40) (hes : es.length ≤ 1099511627776) (w : List Int) (hw : ∀ x ∈ w, J7 x) (hl : w.length ≤ 140737488355328) : ∀ (d k fuel : Nat) (v : Int), k + d = w.length → d < fuel →
  d5 w r n es fuel v (k : Int) = some (I0k (c9 (r, n, es) v (w.drop k)) d k)
 | d, k, 0, v, hd, hf => by omega
 | 0, k, fuel + 1, v, hd, hf => by
  rw [d5.eq_2, if_neg (by simp; omega), I1 (by omega)]
  rfl
 | d + 1, k, fuel + 1, v, hd, hf => by
  have hk : k < w.length := by omega
  have hx := o6 hk
  have hxm := hw _ (List.getElem_mem hk)
  generalize w[k] = x at hx hxm
  rw [d5.eq_2, if_pos (by simp; omega), V3 hx, Option.bind_some, M06 (r, n, es) v x hxm hes, Option.bind_some, O0 (n04 hg hn v x), Option.bind_some, T1 hx]
  unfold c9
  by_cases h : K5 (r, n, es) v x < 0
  ·rw [if_pos (by simpa using h), if_pos h]
   simp [I0k]
  ·rw [if_neg (by simpa using h), if_neg h, Z1 hk (by omega), D09 r n es hg hn hes w hw hl d (k + 1) fuel _ (by omega) (by omega)]
   unfold I0k
   simp only [Nat.add_lt_add_iff_right]
   congr 2
   simp only [Nat.add_assoc, Nat.add_comm 1]
theorem H0l (g : l0) (hg : inG g) (hn : g.2.1 ≤ 40) (hes : g.2.2.length ≤ 1099511627776) (v : Int) (w : List Int) (hw : ∀ x ∈ w, J7 x) (hl : w.length ≤ 140737488355328) : J8 g v w = some ((c9 g v w).1, (((c9 g v w).2 : Nat) : Int)) := by
 obtain ⟨r, n, es⟩ := g
 unfold J8
 have h := D09 r n es hg hn hes w hw hl w.length 0 T0 v (by omega) (C1 hl)
 rw [show ((0 : Nat) : Int) = 0 from rfl, List.drop_zero] at h
 have hle := q0b (r, n, es) w v
 simp only [h, Option.bind_some, I0k]
 by_cases hc : (c9 (r, n, es) v w).2 < w.length
 ·simp [hc, w7]
 ·have : (c9 (r, n, es) v w).2 = w.length := by omega
  simp [this, w7]
theorem E09 (r n : Int) (es : List C0) (hg : inG (r, n, es)) (hn : n ≤ 40) (hes : es.length ≤ 1099511627776) (w : List Int) (hw : ∀ x ∈ w, J7 x) (hl : w.length ≤ 140737488355328) : ∀ (d k fuel : Nat) (v : Int), k + d = w.length → d < fuel →
  P5 w r n es fuel v (k : Int) = some (bif decide ((c9 (r, n, es) v (w.drop k)).2 < d) then .inl (-1, false) else .inr (c9 (r, n, es) v (w.drop k)).1)
 | d, k, 0, v, hd, hf => by omega
 | 0, k, fuel + 1, v, hd, hf => by
  rw [P5.eq_2, if_neg (by simp; omega), I1 (by omega)]
  rfl
 | d + 1, k, fuel + 1, v, hd, hf => by
  have hk : k < w.length := by omega
  have hx := o6 hk
  have hxm := hw _ (List.getElem_mem hk)
  generalize w[k] = x at hx hxm
  rw [P5.eq_2, if_pos (by simp; omega), V3 hx, Option.bind_some, L06 (r, n, es) v x hxm hes, Option.bind_some, O0 (n04 hg hn v x), Option.bind_some, T1 hx]
  unfold c9
  by_cases h : K5 (r, n, es) v x < 0
  ·rw [if_pos (by simpa using h), if_pos h]
   simp
  ·rw [if_neg (by simpa using h), if_neg h, Z1 hk (by omega), E09 r n es hg hn hes w hw hl d (k + 1) fuel _ (by omega) (by omega)]
   simp only [Nat.add_lt_add_iff_right]
theorem I0l (g : l0) (hf : S0 g = true) (v : Int) (hv : 0 ≤ v ∧ v < g.2.1) (w : List Int) (hw : ∀ x ∈ w, J7 x) (hl : w.length ≤ 140737488355328) :
  r9 g v w = some (bif decide ((c9 g v w).2 < w.length) then (-1, false) else ((c9 g v w).1, true)) := by
 have hgr : N0 g = true := by unfold S0 at hf; simp only [Bool.and_eq_true] at hf; exact hf.1
 obtain ⟨hg, _, hn, hes⟩ := Y1 hgr
 have hF := V8 g (by omega)
 obtain ⟨r, n, es⟩ := g
 simp only at hv hn hes
 unfold r9
 have h := E09 r n es hg hn.2 (by omega) w hw hl w.length 0 T0 v (by omega) (C1 hl)
 rw [show ((0 : Nat) : Int) = 0 from rfl, List.drop_zero] at h
 have hr : inR 0 (n - 1) v = true := by simp only [inR, Bool.and_eq_true, decide_eq_true_eq]; omega
 simp only [hF, hf, Option.bind_some, Bool.not_true, Bool.not_false, O2, U01, w64 (show -9223372036854775808 ≤ n - 1 by omega) (show n - 1 ≤ 9223372036854775807 by omega), hr, cond_false, Bool.false_eq_true, if_false, h]
 cases decide ((c9 (r, n, es) v w).2 < w.length) <;> rfl
theorem L4 {g : l0} (h : S0 g = true) : inG g ∧ (1 ≤ g.1 ∧ g.1 ≤ 3) ∧ (1 ≤ g.2.1 ∧ g.2.1 ≤ 40) ∧ g.2.2.length ≤ 120 := by
 unfold S0 at h
 simp only [Bool.and_eq_true] at h
 exact Y1 h.1
end Go.Proofs.YtfdlgbfeceodeaaGreat
namespace Go.Proofs.YtfdlgbfeceodeaaGreat
open Go.H
set_option linter.unusedVariables false
set_option linter.unusedSimpArgs false
def J0k (v : Int) (e : C0) : Nat := (if e.1 = v then 1 else 0) + (if e.2.2 = v then 1 else 0)
def o04 (v : Int) : List C0 → Nat
 | [] => 0
 | e :: r => J0k v e + o04 v r
theorem K0k (v : Int) (e : C0) : J0k v e ≤ 2 := by unfold J0k; split <;> split <;> omega
theorem P0d (v : Int) : ∀ l, o04 v l ≤ 2 * l.length
 | [] => by simp [o04]
 | e :: r => by have := K0k v e; have := P0d v r; simp only [o04, List.length_cons]; omega
theorem s0b (es : List C0) (v : Int) (hl : es.length ≤ 1099511627776) : ∀ (d k fuel acc : Nat), k + d = es.length → d < fuel → acc ≤ 2 * k →
  n3 es v fuel (acc : Int) (k : Int) = some ((acc + o04 v (es.drop k) : Nat) : Int)
 | d, k, 0, acc, hd, hf, ha => by omega
 | 0, k, fuel + 1, acc, hd, hf, ha => by
  rw [n3.eq_2, if_neg (by simp; omega), I1 (by omega)]; rfl
 | d + 1, k, fuel + 1, acc, hd, hf, ha => by
  have hk : k < es.length := by omega
  have he := o6 hk
  generalize es[k] = e at he
  obtain ⟨a, l, b⟩ := e
  have ih := fun acc' h => s0b es v hl d (k + 1) fuel acc' (by omega) (by omega) h
  have w1 : IntKind.i64.wrap ((acc : Int) + 1) = ((acc + 1 : Nat) : Int) := by rw [w64 (by omega) (by omega)]; rfl
  have w2 : IntKind.i64.wrap (((acc + 1 : Nat) : Int) + 1) = ((acc + 2 : Nat) : Int) := by rw [w64 (by omega) (by omega)]; rfl
  rw [n3.eq_2, if_pos (by simp; omega), V3 he, T1 he]
  simp only [Option.bind_some, o04, J0k, Z1 hk (show es.length ≤ 9223372036854775807 by omega)]
  by_cases c1 : a = v
  ·rw [if_pos (by simpa using c1), if_pos c1]
   by_cases c2 : b = v
   ·rw [if_pos (by simpa using c2), if_pos c2, w1, w2, ih _ (by omega)]; congr 2; omega
   ·rw [if_neg (by simpa using c2), if_neg c2, w1, ih _ (by omega)]; congr 2; omega
  ·rw [if_neg (by simpa using c1), if_neg c1]
   by_cases c2 : b = v
   ·rw [if_pos (by simpa using c2), if_pos c2, w1, ih _ (by omega)]; congr 2; omega
   ·rw [if_neg (by simpa using c2), if_neg c2, ih _ (by omega)]; congr 2; omega
theorem t0b (es : List C0) (v : Int) : ∀ (fuel : Nat) (x y : Int), P4 es v fuel x y = n3 es v fuel x y
 | 0, x, y => rfl
 | fuel + 1, x, y => by
  rw [P4.eq_2, n3.eq_2]
  simp only [t0b es v fuel]
  by_cases c : (decide (y < ((es.length : Nat) : Int))) = true
  ·rw [if_pos c, if_pos c]
   cases hg : gi es y with
   | none => rfl
   | some e => simp only [Option.bind_some]
  ·rw [if_neg c, if_neg c]
theorem L0c (g : l0) (v : Int) (hl : g.2.2.length ≤ 1099511627776) : G8 g v = some ((o04 v g.2.2 : Nat) : Int) := by
 obtain ⟨r, n, es⟩ := g
 unfold G8
 have h := s0b es v hl es.length 0 T0 0 (by omega) (C1 (by simp only at hl; omega)) (Nat.zero_le _)
 rw [show ((0 : Nat) : Int) = 0 from rfl, List.drop_zero, Nat.zero_add] at h
 simp only [h, Option.bind_some]
theorem z0i (g : l0) (v : Int) (hl : g.2.2.length ≤ 1099511627776) : s9 g v = some ((o04 v g.2.2 : Nat) : Int) := by
 have h := L0c g v hl
 obtain ⟨r, n, es⟩ := g
 unfold s9
 unfold G8 at h
 simp only [t0b] at h ⊢
 exact h
theorem Q0d (x y : C0) : eqE x y = true ↔ x = y := by simp [eqE]
def goE (x : C0) : List C0 → Bool × List C0
 | [] => (false, [])
 | y :: l => if M0 x y < 0 then (true, x :: y :: l) else if M0 x y = 0 then (true, y :: l) else ((goE x l).1, y :: (goE x l).2)
theorem y0h (x : C0) : ∀ l, a9 M0 x l = bif (goE x l).1 then (goE x l).2 else (goE x l).2 ++ [x]
 | [] => rfl
 | y :: l => by
  have ih := y0h x l
  unfold a9 goE
  by_cases c1 : M0 x y < 0
  ·rw [if_pos c1, if_pos c1]; rfl
  ·rw [if_neg c1, if_neg c1]
   by_cases c2 : M0 x y = 0
   ·rw [if_pos c2, if_pos c2]; rfl
   ·rw [if_neg c2, if_neg c2, ih]; cases (goE x l).1 <;> rfl
theorem O08 (l : List C0) (w0 w1 w2 : Int) (hl : l.length ≤ 1099511627776) : ∀ (d k fuel : Nat) (acc : List C0), k + d = l.length → d < fuel → acc.length ≤ k + 1 →
  d4 l w0 w1 w2 fuel true (k : Int) acc = some (true, acc ++ l.drop k)
 | d, k, 0, acc, hd, hf, ha => by omega
 | 0, k, fuel + 1, acc, hd, hf, ha => by
  rw [d4.eq_2, if_neg (by simp; omega), I1 (by omega), List.append_nil]
 | d + 1, k, fuel + 1, acc, hd, hf, ha => by
  have hk : k < l.length := by omega
  have he := o6 hk
  generalize l[k] = e at he
  obtain ⟨a, x, b⟩ := e
  have ih := O08 l w0 w1 w2 hl d (k + 1) fuel (acc ++ [(a, x, b)]) (by omega) (by omega) (by simp; omega)
  rw [d4.eq_2, if_pos (by simp; omega), T1 he]
  simp only [V3 he, Option.bind_some, O00, O0 (j0a _ _), Z1 hk (show l.length ≤ 9223372036854775807 by omega), Bool.not_true]
  have hb : ∀ b : Bool, (bif b then false else false) = false := fun b => by cases b <;> rfl
  simp only [hb, Bool.false_eq_true, if_false]
  rw [O0 (by simp; omega), Option.bind_some, ih]
  simp
theorem u0b (l : List C0) (w0 w1 w2 : Int) (hl : l.length ≤ 1099511627776) : ∀ (d k fuel : Nat) (acc : List C0), k + d = l.length → d < fuel → acc.length = k →
  d4 l w0 w1 w2 fuel false (k : Int) acc = some ((goE (w0, w1, w2) (l.drop k)).1, acc ++ (goE (w0, w1, w2) (l.drop k)).2)
 | d, k, 0, acc, hd, hf, ha => by omega
 | 0, k, fuel + 1, acc, hd, hf, ha => by
  rw [d4.eq_2, if_neg (by simp; omega), I1 (by omega)]; simp [goE]
 | d + 1, k, fuel + 1, acc, hd, hf, ha => by
  have hk : k < l.length := by omega
  have he := o6 hk
  generalize l[k] = e at he
  obtain ⟨a, x, b⟩ := e
  have ih := u0b l w0 w1 w2 hl d (k + 1) fuel (acc ++ [(a, x, b)]) (by omega) (by omega) (by simp; omega)
  have on1 := O08 l w0 w1 w2 hl d (k + 1) fuel (acc ++ [(a, x, b)]) (by omega) (by omega) (by simp; omega)
  have on2 := O08 l w0 w1 w2 hl d (k + 1) fuel ((acc ++ [(w0, w1, w2)]) ++ [(a, x, b)]) (by omega) (by omega) (by simp; omega)
  rw [d4.eq_2, if_pos (by simp; omega), T1 he]
  simp only [V3 he, Option.bind_some, O00, O0 (j0a _ _), Z1 hk (show l.length ≤ 9223372036854775807 by omega), Bool.not_true, Bool.not_false, goE]
  show _ = _
  unfold k0b
  by_cases c1 : M0 (w0, w1, w2) (a, x, b) = 0
  ·rw [if_pos (by simpa using c1), if_neg (by simp [c1]), if_neg (by omega), if_pos c1]
   rw [O0 (by simp; omega), Option.bind_some, on1]; simp
  ·rw [if_neg (by simpa using c1)]
   by_cases c2 : M0 (w0, w1, w2) (a, x, b) < 0
   ·rw [if_pos (by simp [c2]), if_pos c2, O0 (by simp; omega), Option.bind_some, O0 (by simp; omega), Option.bind_some, on2]; simp
   ·rw [if_neg (by simp [c2]), if_neg c2, if_neg c1, O0 (by simp; omega), Option.bind_some, ih]; simp
theorem p04 (l : List C0) (e : C0) (hl : l.length ≤ 1099511627776) : M6 l e = some (a9 M0 e l) := by
 obtain ⟨w0, w1, w2⟩ := e
 unfold M6
 have h := u0b l w0 w1 w2 hl l.length 0 T0 [] (by omega) (C1 (by omega)) rfl
 rw [show ((0 : Nat) : Int) = 0 from rfl, List.drop_zero, List.nil_append] at h
 simp only [h, Option.bind_some, y0h]
 have hlen : ∀ l : List C0, (goE (w0, w1, w2) l).2.length ≤ l.length + 1 := fun l => by
  induction l with
  | nil => simp [goE]
  | cons y l ih =>
   unfold goE
   split
   ·simp
   ·split
    ·simp
    ·simp only [List.length_cons]; omega
 have := hlen l
 cases (goE (w0, w1, w2) l).1 with
 | true => rfl
 | false =>
  simp only [Bool.not_false, if_true, cond_false]
  rw [O0 (by simp; omega), Option.bind_some]
theorem g02 (e : C0) : ∀ l : List C0, (a9 M0 e l).length ≤ l.length + 1
 | [] => by simp [a9]
 | y :: l => by
  have := g02 e l
  unfold a9
  split
  ·simp
  ·split
   ·simp
   ·simp only [List.length_cons]; omega
theorem R07 (es : List C0) (hl : es.length ≤ 1099511627776) : V7 es = some (I6 M0 [] es) := by
 unfold V7
 rw [O0 (by simp; omega), Option.bind_some, O0 (by simp; omega), Option.bind_some, List.nil_append]
 exact congrArg some (Y0e r6 Q0d es es fun _ => Iff.rfl)
theorem P00 (g : l0) (hl : g.2.2.length ≤ 1099511627776) : P2 g = some g := by
 obtain ⟨r, n, es⟩ := g
 unfold P2
 simp only
 rw [O0 (by simp only [List.length_nil, Nat.zero_add]; simp only at hl; omega)]; rfl
theorem j00 (g : l0) (hl : g.2.2.length ≤ 1099511627776) : C2 g = some g := by
 obtain ⟨r, n, es⟩ := g
 unfold C2
 simp only
 rw [O0 (by simp only [List.length_nil, Nat.zero_add]; simp only at hl; omega)]; rfl
end Go.Proofs.YtfdlgbfeceodeaaGreat
namespace Go.Proofs.YtfdlgbfeceodeaaGreat
open Go.H
set_option linter.unusedVariables false
set_option linter.unusedSimpArgs false
inductive Rch (es : List C0) (v : Int) : Int → Prop
 | base : Rch es v v
 | fwd {e : C0} : e ∈ es → Rch es v e.1 → Rch es v e.2.2
 | bwd {e : C0} : e ∈ es → Rch es v e.2.2 → Rch es v e.1
theorem Rch.closed {es : List C0} {v : Int} : ∀ e ∈ es, Rch es v e.1 ↔ Rch es v e.2.2 := fun e he => ⟨.fwd he, .bwd he⟩
theorem Rch.sub {es : List C0} {v : Int} {P : Int → Prop} (hv : P v) (hc : ∀ e ∈ es, P e.1 ↔ P e.2.2) : ∀ {x}, Rch es v x → P x
 | _, .base => hv
 | _, .fwd he h => (hc _ he).1 (Rch.sub hv hc h)
 | _, .bwd he h => (hc _ he).2 (Rch.sub hv hc h)
def C8 (S : List Bool) (i : Int) : Bool := S.getD i.toNat false
def stJ (S : List Bool) (e : C0) : List Bool := (S.set e.1.toNat true).set e.2.2.toNat true
def pJ : List C0 → Bool → List Bool → Bool × List Bool
 | [], c, S => (c, S)
 | e :: r, c, S => bif C8 S e.1 == C8 S e.2.2 then pJ r c S else pJ r true (stJ S e)
def cF : List Bool → Nat
 | [] => 0
 | b :: r => (bif b then 0 else 1) + cF r
theorem y0g : ∀ (S : List Bool) (i : Nat), cF (S.set i true) ≤ cF S
 | [], i => by simp [cF]
 | b :: r, 0 => by simp [cF]
 | b :: r, i + 1 => by have := y0g r i; simp only [List.set_cons_succ, cF]; omega
theorem A0j : ∀ (S : List Bool) (i : Nat), S[i]? = some false → cF (S.set i true) < cF S
 | [], i, h => by simp at h
 | b :: r, 0, h => by simp at h; subst h; simp [cF]
 | b :: r, i + 1, h => by have := A0j r i (by simpa using h); simp only [List.set_cons_succ, cF]; omega
theorem e0l : ∀ S : List Bool, cF S ≤ S.length
 | [] => by simp [cF]
 | b :: r => by have := e0l r; cases b <;> simp only [cF, List.length_cons, cond_true, cond_false] <;> omega
def inN (n : Nat) (es : List C0) : Prop := ∀ e ∈ es, (0 ≤ e.1 ∧ e.1 < (n : Int)) ∧ (0 ≤ e.2.2 ∧ e.2.2 < (n : Int))
theorem p05 {S : List Bool} {i : Nat} (h : i < S.length) (x : Int) : C8 (S.set i true) x = (decide (x.toNat = i) || C8 S x) := by
 unfold C8
 rw [List.getD_eq_getElem?_getD, List.getD_eq_getElem?_getD, List.getElem?_set]
 by_cases c : i = x.toNat
 ·rw [if_pos c, if_pos (by omega)]; simp [c]
 ·rw [if_neg c]
  have : decide (x.toNat = i) = false := by simp; exact fun e => c e.symm
  rw [this]; rfl
theorem z0g : ∀ (es : List C0) (c : Bool) (S : List Bool), (pJ es c S).2.length = S.length
 | [], c, S => rfl
 | e :: r, c, S => by
  unfold pJ
  cases C8 S e.1 == C8 S e.2.2
  ·simp only [cond_false]; rw [z0g r]; simp [stJ]
  ·simp only [cond_true]; exact z0g r c S
theorem R0d {n : Nat} : ∀ (es : List C0) (c : Bool) (S : List Bool), S.length = n → inN n es → ∀ x, C8 S x = true → C8 (pJ es c S).2 x = true
 | [], c, S, hl, hn, x, h => h
 | e :: r, c, S, hl, hn, x, h => by
  have he := hn e (List.mem_cons_self ..)
  have hr : inN n r := fun e he => hn e (List.mem_cons_of_mem _ he)
  unfold pJ
  cases C8 S e.1 == C8 S e.2.2
  ·simp only [cond_false]
   refine R0d r _ _ (by simp [stJ, hl]) hr x ?_
   rw [stJ, p05 (by rw [List.length_set]; omega), p05 (by omega), h]; simp
  ·simp only [cond_true]; exact R0d r c S hl hr x h
theorem v0b {n : Nat} {P : Int → Prop} : ∀ (es : List C0) (c : Bool) (S : List Bool), S.length = n → inN n es → (∀ e ∈ es, P e.1 ↔ P e.2.2) → (∀ x, 0 ≤ x → C8 S x = true → P x) → ∀ x, 0 ≤ x → C8 (pJ es c S).2 x = true → P x
 | [], c, S, hl, hn, hc, hs, x, h0, h => hs x h0 h
 | e :: r, c, S, hl, hn, hc, hs, x, h0, h => by
  have he := hn e (List.mem_cons_self ..)
  have hr : inN n r := fun e he => hn e (List.mem_cons_of_mem _ he)
  have hc' := fun e he => hc e (List.mem_cons_of_mem _ he)
  have hce := hc e (List.mem_cons_self ..)
  unfold pJ at h
  cases hb : C8 S e.1 == C8 S e.2.2
  ·rw [hb] at h
   refine v0b r true (stJ S e) (by simp [stJ, hl]) hr hc' (fun y hy h => ?_) x h0 h
   rw [stJ, p05 (by rw [List.length_set]; omega), p05 (by omega)] at h
   simp only [Bool.or_eq_true, decide_eq_true_eq] at h
   have hor : P e.1 ∨ P e.2.2 := by
    cases h1 : C8 S e.1
    ·cases h2 : C8 S e.2.2
     ·rw [h1, h2] at hb; cases hb
     ·exact .inr (hs _ he.2.1 h2)
    ·exact .inl (hs _ he.1.1 h1)
   rcases h with h | h | h
   ·have : y = e.2.2 := by omega
    subst this; exact hor.elim hce.1 id
   ·have : y = e.1 := by omega
    subst this; exact hor.elim id hce.2
   ·exact hs y hy h
  ·rw [hb] at h
   exact v0b r c S hl hr hc' hs x h0 h
theorem A0g {n : Nat} : ∀ (es : List C0) (c : Bool) (S : List Bool), S.length = n → inN n es → cF (pJ es c S).2 ≤ cF S ∧ ((pJ es c S).1 = true → c = true ∨ cF (pJ es c S).2 < cF S) ∧ ((pJ es c S).1 = false → c = false ∧ (pJ es c S).2 = S ∧ ∀ e ∈ es, C8 S e.1 = C8 S e.2.2)
 | [], c, S, hl, hn => ⟨Nat.le_refl _, fun h => .inl h, fun h => ⟨h, rfl, fun e he => nomatch he⟩⟩
 | e :: r, c, S, hl, hn => by
  have he := hn e (List.mem_cons_self ..)
  have hr : inN n r := fun e he => hn e (List.mem_cons_of_mem _ he)
  unfold pJ
  cases hb : C8 S e.1 == C8 S e.2.2
  ·simp only [cond_false]
   obtain ⟨h1, h2, h3⟩ := A0g r true (stJ S e) (by simp [stJ, hl]) hr
   have hlt : cF (stJ S e) < cF S := by
    have g : ∀ (x : Int), 0 ≤ x → x < n → C8 S x = false → S[x.toNat]? = some false := fun x hx hx2 hg => by
     have hk : x.toNat < S.length := by omega
     unfold C8 at hg
     rw [List.getD_eq_getElem?_getD, List.getElem?_eq_getElem hk] at hg
     rw [List.getElem?_eq_getElem hk]; simpa using hg
    cases g1 : C8 S e.1
    ·have := A0j S _ (g _ he.1.1 he.1.2 g1)
     have := y0g (S.set e.1.toNat true) e.2.2.toNat
     unfold stJ; omega
    ·have g2 : C8 S e.2.2 = false := by
      cases g2 : C8 S e.2.2
      ·rfl
      ·rw [g1, g2] at hb; cases hb
     have g3 : (S.set e.1.toNat true)[e.2.2.toNat]? = some false := by
      rw [List.getElem?_set]
      by_cases q : e.1.toNat = e.2.2.toNat
      ·exfalso
       have : e.1 = e.2.2 := by omega
       rw [this, g2] at g1; cases g1
      ·rw [if_neg q]; exact g _ he.2.1 he.2.2 g2
     have := A0j _ _ g3
     have := y0g S e.1.toNat
     unfold stJ; omega
   refine ⟨by omega, fun _ => .inr (by omega), fun h => ?_⟩
   have := (h3 h).1; cases this
  ·simp only [cond_true]
   obtain ⟨h1, h2, h3⟩ := A0g r c S hl hr
   refine ⟨h1, h2, fun h => ⟨(h3 h).1, (h3 h).2.1, fun e' he' => ?_⟩⟩
   rcases List.mem_cons.1 he' with rfl | he'
   ·simpa using hb
   ·exact (h3 h).2.2 e' he'
theorem giB {S : List Bool} {n : Nat} (hl : S.length = n) {x : Int} (h0 : 0 ≤ x) (h1 : x < n) : gi S x = some (C8 S x) := by
 have hk : x.toNat < S.length := by omega
 have e : x = ((x.toNat : Nat) : Int) := by omega
 have h2 : gi S ((x.toNat : Nat) : Int) = some (C8 S x) := by
  rw [I08, List.getElem?_eq_getElem hk]
  unfold C8
  rw [List.getD_eq_getElem?_getD, List.getElem?_eq_getElem hk]; rfl
 rw [← e] at h2; exact h2
theorem M0c (es : List C0) {n : Nat} (hn : inN n es) (hl : es.length ≤ 9223372036854775807) : ∀ (d k fuel : Nat) (c : Bool) (S : List Bool), S.length = n → k + d = es.length → d < fuel →
  S3 es fuel c (k : Int) S = some (pJ (es.drop k) c S)
 | d, k, 0, c, S, hS, hd, hf => by omega
 | 0, k, fuel + 1, c, S, hS, hd, hf => by
  rw [S3.eq_2, if_neg (by simp; omega), I1 (by omega)]; rfl
 | d + 1, k, fuel + 1, c, S, hS, hd, hf => by
  have hk : k < es.length := by omega
  have he := o6 hk
  have hin := hn _ (List.mem_of_getElem? he)
  generalize es[k] = e at he hin
  obtain ⟨a, l, b⟩ := e
  have ih := fun c' S' h => M0c es hn hl d (k + 1) fuel c' S' h (by omega) (by omega)
  rw [S3.eq_2, if_pos (by simp; omega), T1 he]
  simp only [V3 he, Option.bind_some, giB hS hin.1.1 hin.1.2, giB hS hin.2.1 hin.2.2, Z1 hk hl, giB (show (S.set a.toNat true).length = n by simp [hS]) hin.2.1 hin.2.2, pJ]
  cases hb : C8 S a == C8 S b
  ·simp only [Bool.not_false, if_true, cond_false]
   exact ih _ _ (by simp [hS])
  ·simp only [Bool.not_true, Bool.false_eq_true, if_false, cond_true]
   exact ih _ _ hS
theorem N0c (es : List C0) {n : Nat} (hn : inN n es) (hl : es.length ≤ 9223372036854775806) : ∀ (m fuel : Nat) (S : List Bool), S.length = n → cF S ≤ m → m + 1 < fuel →
  ∃ S', G4 es fuel true S = some S' ∧ S'.length = n ∧ (∀ x, C8 S x = true → C8 S' x = true) ∧ (∀ e ∈ es, C8 S' e.1 = C8 S' e.2.2) ∧
   ∀ P : Int → Prop, (∀ e ∈ es, P e.1 ↔ P e.2.2) → (∀ x, 0 ≤ x → C8 S x = true → P x) → ∀ x, 0 ≤ x → C8 S' x = true → P x
 | m, 0, S, hS, hm, hf => by omega
 | m, fuel + 1, S, hS, hm, hf => by
  have h0 := M0c es hn (by omega) es.length 0 T0 false S hS (by omega) (by unfold T0; omega)
  rw [show ((0 : Nat) : Int) = 0 from rfl, List.drop_zero] at h0
  obtain ⟨c1, c2, c3⟩ := A0g es false S hS hn
  have hlen := z0g es false S
  rw [G4.eq_2, if_pos rfl, h0, Option.bind_some]
  have hmono := R0d es false S hS hn
  have hsnd := fun P => v0b (P := P) es false S hS hn
  generalize pJ es false S = q at *
  obtain ⟨c, S'⟩ := q
  simp only at c1 c2 c3 hlen hmono hsnd ⊢
  cases c with
  | true =>
   rcases c2 rfl with h | h
   ·cases h
   ·obtain ⟨S2, e1, e2, e3, e4, e5⟩ := N0c es hn hl (m - 1) fuel S' (by omega) (by omega) (by omega)
    exact ⟨S2, e1, e2, fun x hx => e3 x (hmono x hx), e4, fun P hc hs => e5 P hc (hsnd P hc hs)⟩
  | false =>
   obtain ⟨_, e, hall⟩ := c3 rfl
   subst e
   obtain _ | fuel := fuel
   ·omega
   ·rw [G4.eq_2, if_neg (by simp)]
    exact ⟨_, rfl, hS, fun x h => h, hall, fun P _ hs => hs⟩
theorem B0j (r : Int) (n : Nat) (es : List C0) (hn : inN n es) (hl : es.length ≤ 9223372036854775806) (hn2 : 1 ≤ n) (hn3 : n ≤ 140737488355328) :
  ∃ S, R7 (r, (n : Int), es) 0 = some S ∧ S.length = n ∧ ∀ x, 0 ≤ x → x < (n : Int) → (C8 S x = true ↔ Rch es 0 x) := by
 unfold R7
 simp only [Int.toNat_natCast]
 have hg : gi (List.replicate n (false : Bool)) 0 = some false := by
  rw [m05 (x := false)]; rw [List.getElem?_replicate, if_pos (by omega)]
 rw [O0 (by omega), Option.bind_some, hg, Option.bind_some]
 have hS : ((List.replicate n (false : Bool)).set (0 : Int).toNat true).length = n := by simp
 obtain ⟨S', e1, e2, e3, e4, e5⟩ := N0c es hn hl n T0 _ hS (by have := e0l ((List.replicate n (false : Bool)).set (0 : Int).toNat true); omega) (by unfold T0; omega)
 rw [e1]
 have hb : ∀ x, C8 ((List.replicate n (false : Bool)).set (0 : Int).toNat true) x = decide (x.toNat = 0) := fun x => by
  rw [p05 (by simp; omega)]
  have : C8 (List.replicate n false) x = false := by
   unfold C8
   rw [List.getD_eq_getElem?_getD, List.getElem?_replicate]
   split <;> rfl
  rw [this]; simp
 refine ⟨S', rfl, e2, fun x h0 h1 => ⟨fun h => ?_, fun h => ?_⟩⟩
 ·refine e5 (Rch es 0) Rch.closed (fun y hy h => ?_) x h0 h
  rw [hb] at h
  have : y = 0 := by simp at h; omega
  subst this; exact .base
 ·exact Rch.sub (P := fun x => C8 S' x = true) (e3 0 (by rw [hb]; rfl)) (fun e he => by rw [e4 e he]) h
theorem f0l (l : List Int) (w : Int) (hl : l.length ≤ 9223372036854775807) : ∀ (d k fuel : Nat), k + d = l.length → d < fuel →
  I7 l w fuel (k : Int) = some (if w ∈ l.drop k then .inl true else .inr ())
 | d, k, 0, hd, hf => by omega
 | 0, k, fuel + 1, hd, hf => by
  rw [I7.eq_2, if_neg (by simp; omega), I1 (by omega)]; simp
 | d + 1, k, fuel + 1, hd, hf => by
  have hk : k < l.length := by omega
  have hx := o6 hk
  generalize l[k] = x at hx
  have ih := f0l l w hl d (k + 1) fuel (by omega) (by omega)
  rw [I7.eq_2, if_pos (by simp; omega), T1 hx]
  simp only [V3 hx, Option.bind_some, Z1 hk hl, ih, List.mem_cons]
  by_cases c : x = w
  ·rw [if_pos (by simpa using c), if_pos (.inl c.symm)]
  ·rw [if_neg (by simpa using c)]
   by_cases c2 : w ∈ l.drop (k + 1)
   ·rw [if_pos c2, if_pos (.inr c2)]
   ·rw [if_neg c2, if_neg (fun h => h.elim (fun e => c e.symm) c2)]
theorem l0a (l : List Int) (w : Int) (hl : l.length ≤ 9223372036854775807) : S7 l w = some (decide (w ∈ l)) := by
 unfold S7
 have h := f0l l w hl l.length 0 T0 (by omega) (by unfold T0; omega)
 rw [show ((0 : Nat) : Int) = 0 from rfl, List.drop_zero] at h
 rw [h, Option.bind_some]
 by_cases c : w ∈ l
 ·rw [if_pos c]; simp [w7, c]
 ·rw [if_neg c]; simp [w7, c]
def s1 (u : List Int) (e : C0) : List Int := if e.1 ∈ u then a9 L7 e.2.2 u else u
def s2 (u : List Int) (e : C0) : List Int := if e.2.2 ∈ u then a9 L7 e.1 u else u
def pS : List C0 → List Int → List Int
 | [], u => u
 | e :: r, u => pS r (s2 (s1 u e) e)
theorem P08 {u : List Int} {e : C0} {x : Int} : x ∈ s1 u e ↔ x ∈ u ∨ (e.1 ∈ u ∧ x = e.2.2) := by
 unfold s1
 split
 ·rename_i h; rw [H03 f01]; constructor
  ·rintro (h1 | h1)
   ·exact .inr ⟨h, h1⟩
   ·exact .inl h1
  ·rintro (h1 | ⟨_, h1⟩)
   ·exact .inr h1
   ·exact .inl h1
 ·rename_i h; constructor
  ·exact .inl
  ·rintro (h1 | ⟨h1, _⟩)
   ·exact h1
   ·exact absurd h1 h
theorem Q08 {u : List Int} {e : C0} {x : Int} : x ∈ s2 u e ↔ x ∈ u ∨ (e.2.2 ∈ u ∧ x = e.1) := by
 unfold s2
 split
 ·rename_i h; rw [H03 f01]; constructor
  ·rintro (h1 | h1)
   ·exact .inr ⟨h, h1⟩
   ·exact .inl h1
  ·rintro (h1 | ⟨_, h1⟩)
   ·exact .inr h1
   ·exact .inl h1
 ·rename_i h; constructor
  ·exact .inl
  ·rintro (h1 | ⟨h1, _⟩)
   ·exact h1
   ·exact absurd h1 h
theorem C0j (u : List Int) (e : C0) : (s1 u e).length ≤ u.length + 1 := by
 unfold s1; split
 ·exact L03 _ _
 ·omega
theorem D0j (u : List Int) (e : C0) : (s2 u e).length ≤ u.length + 1 := by
 unfold s2; split
 ·exact L03 _ _
 ·omega
theorem B0g : ∀ (es : List C0) (u : List Int), (pS es u).length ≤ u.length + 2 * es.length
 | [], u => by simp [pS]
 | e :: r, u => by
  have := B0g r (s2 (s1 u e) e)
  have := D0j (s1 u e) e
  have := C0j u e
  simp only [pS, List.length_cons]; omega
theorem q04 : ∀ (es : List C0) (u : List Int) (x : Int), x ∈ u → x ∈ pS es u
 | [], u, x, h => h
 | e :: r, u, x, h => q04 r _ x (Q08.2 (.inl (P08.2 (.inl h))))
theorem w0b {P : Int → Prop} : ∀ (es : List C0) (u : List Int), (∀ e ∈ es, P e.1 ↔ P e.2.2) → (∀ x ∈ u, P x) → ∀ x ∈ pS es u, P x
 | [], u, hc, hs => hs
 | e :: r, u, hc, hs => w0b r _ (fun e he => hc e (List.mem_cons_of_mem _ he)) fun x hx => by
  have hce := hc e (List.mem_cons_self ..)
  have h1 : ∀ y ∈ s1 u e, P y := fun y hy => by
   rcases P08.1 hy with h | ⟨h, rfl⟩
   ·exact hs y h
   ·exact hce.1 (hs _ h)
  rcases Q08.1 hx with h | ⟨h, rfl⟩
  ·exact h1 x h
  ·exact hce.2 (h1 _ h)
theorem f0f : ∀ (es : List C0) (u : List Int) (e : C0), e ∈ es → e.1 ∈ u ∨ e.2.2 ∈ u → e.1 ∈ pS es u ∧ e.2.2 ∈ pS es u
 | e' :: r, u, e, he, h => by
  simp only [pS]
  rcases List.mem_cons.1 he with rfl | he
  ·have h2 : e.2.2 ∈ s1 u e := by
    rcases h with h | h
    ·exact P08.2 (.inr ⟨h, rfl⟩)
    ·exact P08.2 (.inl h)
   exact ⟨q04 r _ _ (Q08.2 (.inr ⟨h2, rfl⟩)), q04 r _ _ (Q08.2 (.inl h2))⟩
  ·exact f0f r _ e he (h.imp (fun h => Q08.2 (.inl (P08.2 (.inl h)))) fun h => Q08.2 (.inl (P08.2 (.inl h))))
def act (es : List C0) (u : List Int) : Nat := es.countP fun e => decide (e.1 ∈ u) && decide (e.2.2 ∈ u)
def clo (es : List C0) (u : List Int) : Prop := ∀ e ∈ es, e.1 ∈ u ↔ e.2.2 ∈ u
theorem J0l (es : List C0) (u : List Int) : act es u ≤ es.length := List.countP_le_length
theorem O0c {α : Type} {p q : α → Bool} : ∀ {l : List α}, (∀ x ∈ l, p x = true → q x = true) → (∃ x ∈ l, p x = false ∧ q x = true) → l.countP p < l.countP q
 | [], _, ⟨x, hx, _⟩ => nomatch hx
 | y :: l, h, ⟨x, hx, h1, h2⟩ => by
  have hle : l.countP p ≤ l.countP q := List.countP_mono_left fun z hz => h z (List.mem_cons_of_mem _ hz)
  rcases List.mem_cons.1 hx with rfl | hx
  ·rw [List.countP_cons_of_neg (by simp [h1]), List.countP_cons_of_pos h2]; omega
  ·have ih := O0c (l := l) (fun z hz => h z (List.mem_cons_of_mem _ hz)) ⟨x, hx, h1, h2⟩
   cases hp : p y
   ·rw [List.countP_cons_of_neg (by simp [hp])]
    have : l.countP q ≤ (y :: l).countP q := by rw [List.countP_cons]; omega
    omega
   ·rw [List.countP_cons_of_pos hp, List.countP_cons_of_pos (h y (List.mem_cons_self ..) hp)]; omega
theorem S07 {es : List C0} {u : List Int} (h : clo es u) (x : Int) : x ∈ pS es u ↔ x ∈ u :=
 ⟨w0b (P := fun x => x ∈ u) es u h (fun _ h => h) x, q04 es u x⟩
theorem E0j {es : List C0} {u : List Int} : clo es (pS es u) ∨ act es u < act es (pS es u) := by
 by_cases h : clo es u
 ·left
  intro e he
  rw [S07 h, S07 h]; exact h e he
 ·right
  have : ∃ e ∈ es, ¬ (e.1 ∈ u ↔ e.2.2 ∈ u) := by
   refine Classical.byContradiction fun hn => h fun e he => ?_
   exact Classical.byContradiction fun h2 => hn ⟨e, he, h2⟩
  obtain ⟨e, he, hne⟩ := this
  refine O0c (fun x hx h => ?_) ⟨e, he, ?_, ?_⟩
  ·simp only [Bool.and_eq_true, decide_eq_true_eq] at h ⊢
   exact ⟨q04 _ _ _ h.1, q04 _ _ _ h.2⟩
  ·rw [Bool.eq_false_iff]
   intro h
   simp only [Bool.and_eq_true, decide_eq_true_eq] at h
   exact hne ⟨fun _ => h.2, fun _ => h.1⟩
  ·have ht : e.1 ∈ u ∨ e.2.2 ∈ u := by
    refine Classical.byContradiction fun hn => hne ⟨fun h => absurd (.inl h) hn, fun h => absurd (.inr h) hn⟩
   have := f0f es u e he ht
   simp only [Bool.and_eq_true, decide_eq_true_eq]; exact this
def itS (es : List C0) : Nat → List Int → List Int
 | 0, u => u
 | j + 1, u => itS es j (pS es u)
theorem z0h (es : List C0) : ∀ (j : Nat) (u : List Int), (itS es j u).length ≤ u.length + j * (2 * es.length)
 | 0, u => by simp [itS]
 | j + 1, u => by have := z0h es j (pS es u); have := B0g es u; simp only [itS, Nat.add_mul, Nat.one_mul]; omega
theorem A0h (es : List C0) : ∀ (j : Nat) (u : List Int), clo es u → clo es (itS es j u)
 | 0, u, h => h
 | j + 1, u, h => A0h es j _ fun e he => by rw [S07 h, S07 h]; exact h e he
theorem B0h (es : List C0) : ∀ (j : Nat) (u : List Int), clo es (itS es j u) ∨ act es u + j ≤ act es (itS es j u)
 | 0, u => .inr (Nat.le_refl _)
 | j + 1, u => by
  rcases E0j (es := es) (u := u) with h | h
  ·exact .inl (A0h es j _ h)
  ·rcases B0h es j (pS es u) with h2 | h2
   ·exact .inl h2
   ·right; simp only [itS]; omega
theorem g0f (es : List C0) : ∀ (j : Nat) (u : List Int) (x : Int), x ∈ u → x ∈ itS es j u
 | 0, u, x, h => h
 | j + 1, u, x, h => g0f es j _ x (q04 es u x h)
theorem P0c {P : Int → Prop} (es : List C0) (hc : ∀ e ∈ es, P e.1 ↔ P e.2.2) : ∀ (j : Nat) (u : List Int), (∀ x ∈ u, P x) → ∀ x ∈ itS es j u, P x
 | 0, u, hs => hs
 | j + 1, u, hs => P0c es hc j _ (w0b es u hc hs)
theorem L0k (es : List C0) (v x : Int) : x ∈ itS es (es.length + 1) [v] ↔ Rch es v x := by
 constructor
 ·exact P0c (P := Rch es v) es Rch.closed _ _ (fun y hy => by simp at hy; subst hy; exact .base) x
 ·have hc : clo es (itS es (es.length + 1) [v]) := by
   rcases B0h es (es.length + 1) [v] with h | h
   ·exact h
   ·have := J0l es (itS es (es.length + 1) [v]); omega
  exact Rch.sub (P := fun x => x ∈ itS es (es.length + 1) [v]) (g0f _ _ _ _ (by simp)) hc
theorem x0b (es : List C0) (hl : es.length ≤ 9223372036854775807) : ∀ (d k fuel : Nat) (u : List Int), k + d = es.length → d < fuel → u.length + 2 * d ≤ 1099511627776 →
  l3 es fuel u (k : Int) = some (pS (es.drop k) u)
 | d, k, 0, u, hd, hf, hu => by omega
 | 0, k, fuel + 1, u, hd, hf, hu => by
  rw [l3.eq_2, if_neg (by simp; omega), I1 (by omega)]; rfl
 | d + 1, k, fuel + 1, u, hd, hf, hu => by
  have hk : k < es.length := by omega
  have he := o6 hk
  generalize es[k] = e at he
  obtain ⟨a, l, b⟩ := e
  have ih := fun u' h => x0b es hl d (k + 1) fuel u' (by omega) (by omega) h
  have g1 := C0j u (a, l, b)
  have g2 := D0j (s1 u (a, l, b)) (a, l, b)
  rw [l3.eq_2, if_pos (by simp; omega), T1 he]
  simp only [V3 he, Option.bind_some, l0a u _ (by omega), Z1 hk hl, pS]
  by_cases c : a ∈ u
  ·rw [if_pos (by simpa using c), K07 _ _ (by omega), Option.bind_some]
   have e1 : s1 u (a, l, b) = a9 L7 b u := if_pos c
   rw [e1] at g1 g2 ⊢
   rw [l0a _ _ (by omega), Option.bind_some]
   by_cases c2 : b ∈ a9 L7 b u
   ·rw [if_pos (by simpa using c2), K07 _ _ (by omega), Option.bind_some]
    have e2 : s2 (a9 L7 b u) (a, l, b) = a9 L7 a (a9 L7 b u) := if_pos c2
    rw [e2] at g2 ⊢
    exact ih _ (by omega)
   ·rw [if_neg (by simpa using c2)]
    have e2 : s2 (a9 L7 b u) (a, l, b) = a9 L7 b u := if_neg c2
    rw [e2]
    exact ih _ (by omega)
  ·rw [if_neg (by simpa using c)]
   have e1 : s1 u (a, l, b) = u := if_neg c
   rw [e1] at g2 ⊢
   by_cases c2 : b ∈ u
   ·rw [if_pos (by simpa using c2), K07 _ _ (by omega), Option.bind_some]
    have e2 : s2 u (a, l, b) = a9 L7 a u := if_pos c2
    rw [e2] at g2 ⊢
    exact ih _ (by omega)
   ·rw [if_neg (by simpa using c2)]
    have e2 : s2 u (a, l, b) = u := if_neg c2
    rw [e2]
    exact ih _ (by omega)
theorem y0b (es : List C0) (hl : es.length ≤ 120) : ∀ (d k fuel : Nat) (u : List Int), k + d = es.length + 1 → d < fuel → u.length ≤ 1 + k * 240 →
  Q4 es fuel u (k : Int) = some (itS es d u)
 | d, k, 0, u, hd, hf, hu => by omega
 | 0, k, fuel + 1, u, hd, hf, hu => by
  rw [Q4.eq_2, if_neg (by rw [w64 (by omega) (by omega)]; simp; omega)]; rfl
 | d + 1, k, fuel + 1, u, hd, hf, hu => by
  have h0 := x0b es (by omega) es.length 0 T0 u (by omega) (C1 (by omega)) (by omega)
  rw [show ((0 : Nat) : Int) = 0 from rfl, List.drop_zero] at h0
  have ih := y0b es hl d (k + 1) fuel (pS es u) (by omega) (by omega) (by have := B0g es u; omega)
  rw [Q4.eq_2, if_pos (by rw [w64 (by omega) (by omega)]; simp; omega), h0, Option.bind_some, Z1 (show k < 1000 by omega) (by omega), ih]
  rfl
end Go.Proofs.YtfdlgbfeceodeaaGreat
namespace Go.Proofs.YtfdlgbfeceodeaaGreat
open Go.H
set_option linter.unusedVariables false
set_option linter.unusedSimpArgs false
def getI (P : List Int) (v : Int) : Int := P.getD v.toNat (-1)
def g01 : List Int → Nat → List Int → List Int
 | A, k, [] => A
 | A, k, v :: r => g01 (A.set v.toNat (k : Int)) (k + 1) r
def plc (n : Nat) (o : List Int) : List Int := g01 (List.replicate n (-1)) 0 o
theorem z0b : ∀ (o : List Int) (k : Nat) (A : List Int), (g01 A k o).length = A.length
 | [], k, A => rfl
 | v :: r, k, A => by rw [g01, z0b r]; simp
def inV (n : Nat) (o : List Int) : Prop := ∀ v ∈ o, 0 ≤ v ∧ v < (n : Int)
theorem giI {P : List Int} {n : Nat} (hl : P.length = n) {x : Int} (h0 : 0 ≤ x) (h1 : x < n) : gi P x = some (getI P x) := by
 have hk : x.toNat < P.length := by omega
 have e : x = ((x.toNat : Nat) : Int) := by omega
 have h2 : gi P ((x.toNat : Nat) : Int) = some (getI P x) := by
  rw [I08, List.getElem?_eq_getElem hk]
  unfold getI
  rw [List.getD_eq_getElem?_getD, List.getElem?_eq_getElem hk]; rfl
 rw [← e] at h2; exact h2
theorem M03 {A : List Int} {v x : Int} {y : Int} (h0 : 0 ≤ v) (h1 : v.toNat < A.length) (hx : 0 ≤ x) : getI (A.set v.toNat y) x = if x = v then y else getI A x := by
 unfold getI
 rw [List.getD_eq_getElem?_getD, List.getD_eq_getElem?_getD, List.getElem?_set]
 by_cases c : x = v
 ·rw [if_pos c, if_pos (by rw [c]), if_pos h1]; rfl
 ·rw [if_neg c, if_neg (by omega)]
theorem T07 {n : Nat} : ∀ (o : List Int) (k : Nat) (A : List Int), A.length = n → inV n o → (∀ x, 0 ≤ x → -1 ≤ getI A x ∧ getI A x < (k : Int)) → ∀ x, 0 ≤ x → -1 ≤ getI (g01 A k o) x ∧ getI (g01 A k o) x < ((k + o.length : Nat) : Int)
 | [], k, A, hA, ho, h, x, hx => h x hx
 | v :: r, k, A, hA, ho, h, x, hx => by
  have hv := ho v (List.mem_cons_self ..)
  have := T07 r (k + 1) (A.set v.toNat (k : Int)) (by simp [hA]) (fun w hw => ho w (List.mem_cons_of_mem _ hw)) (fun y hy => by
   rw [M03 hv.1 (by omega) hy]
   have := h y hy
   split <;> omega) x hx
  rw [g01, List.length_cons, show k + (r.length + 1) = k + 1 + r.length by omega]; exact this
theorem q05 (n : Nat) (x : Int) : getI (List.replicate n (-1)) x = -1 := by
 unfold getI
 rw [List.getD_eq_getElem?_getD, List.getElem?_replicate]
 split <;> rfl
theorem N03 {n : Nat} {o : List Int} (ho : inV n o) {x : Int} (hx : 0 ≤ x) : -1 ≤ getI (plc n o) x ∧ getI (plc n o) x < (o.length : Int) := by
 have := T07 o 0 (List.replicate n (-1)) (by simp) ho (fun x hx => by rw [q05]; omega) x hx
 rw [Nat.zero_add] at this; exact this
theorem C0h (n : Nat) (o : List Int) : (plc n o).length = n := by unfold plc; rw [z0b]; simp
def pE (P : List Int) : List C0 → List C0
 | [] => []
 | e :: r => bif decide (0 ≤ getI P e.1) && decide (0 ≤ getI P e.2.2) then (getI P e.1, e.2.1, getI P e.2.2) :: pE P r else pE P r
theorem S0d (P : List Int) : ∀ es, (pE P es).length ≤ es.length
 | [] => by simp [pE]
 | e :: r => by
  have := S0d P r
  unfold pE
  cases decide (0 ≤ getI P e.1) && decide (0 ≤ getI P e.2.2) <;> simp only [cond_true, cond_false, List.length_cons] <;> omega
theorem g0l {n : Nat} {o : List Int} (ho : inV n o) : ∀ (es : List C0), inN n es → inN o.length (pE (plc n o) es)
 | [], hn => fun e he => nomatch he
 | e :: r, hn => by
  have hr := g0l ho r fun e he => hn e (List.mem_cons_of_mem _ he)
  have he := hn e (List.mem_cons_self ..)
  unfold pE
  cases hb : decide (0 ≤ getI (plc n o) e.1) && decide (0 ≤ getI (plc n o) e.2.2)
  ·simpa only [cond_false] using hr
  ·simp only [cond_true]
   simp only [Bool.and_eq_true, decide_eq_true_eq] at hb
   intro e' he'
   rcases List.mem_cons.1 he' with rfl | he'
   ·exact ⟨⟨hb.1, (N03 ho he.1.1).2⟩, hb.2, (N03 ho he.2.1).2⟩
   ·exact hr e' he'
def Q9 (g : l0) (o : List Int) : l0 := (g.1, (o.length : Int), I6 M0 [] (pE (plc g.2.1.toNat o) g.2.2))
theorem O01 : ∀ (r l : List C0), (I6 M0 l r).length ≤ l.length + r.length
 | [], l => by simp [I6]
 | e :: r, l => by have := O01 r (a9 M0 e l); have := g02 e l; simp only [I6, List.length_cons]; omega
theorem A0b (g : l0) (o : List Int) : (Q9 g o).2.2.length ≤ g.2.2.length := by
 have := O01 (pE (plc g.2.1.toNat o) g.2.2) []
 have := S0d (plc g.2.1.toNat o) g.2.2
 simp only [Q9, List.length_nil] at *; omega
theorem A0i {n : Nat} {r : Int} {es : List C0} {o : List Int} (ho : inV n o) (hn : inN n es) : inN o.length (Q9 (r, (n : Int), es) o).2.2 := by
 intro e he
 simp only [Q9, Int.toNat_natCast] at he
 rcases (l9 r6 e _ _).1 he with h | h
 ·cases h
 ·exact g0l ho es hn e h
theorem D0h (n : Nat) (hn : n ≤ 140737488355328) : ∀ (d k fuel : Nat), k + d = n → d < fuel →
  Y7 n fuel (k : Int) (List.replicate k (-1) ++ List.replicate d 0) = some (List.replicate n (-1))
 | d, k, 0, hd, hf => by omega
 | 0, k, fuel + 1, hd, hf => by
  rw [Y7.eq_2, if_neg (by simp; omega), show k = n by omega]; simp
 | d + 1, k, fuel + 1, hd, hf => by
  have hg : gi (List.replicate k (-1) ++ List.replicate (d + 1) (0 : Int)) (k : Int) = some 0 := by
   rw [I08, List.getElem?_append_right (by simp)]; simp
  have ih := D0h n hn d (k + 1) fuel (by omega) (by omega)
  rw [Y7.eq_2, if_pos (by simp; omega), hg, Option.bind_some, Z1 (show k < n by omega) (by omega), Int.toNat_natCast]
  have e : (List.replicate k (-1) ++ List.replicate (d + 1) (0 : Int)).set k (-1) = List.replicate (k + 1) (-1) ++ List.replicate d 0 := by
   rw [List.set_append_right _ _ (by simp), List.length_replicate, Nat.sub_self, List.replicate_succ, List.set_cons_zero, List.replicate_succ']
   simp
  rw [e, ih]
theorem E0h (o : List Int) {n : Nat} (ho : inV n o) (hl : o.length ≤ 9223372036854775807) : ∀ (d k fuel : Nat) (A : List Int), A.length = n → k + d = o.length → d < fuel →
  W7 o fuel (k : Int) A = some (g01 A k (o.drop k))
 | d, k, 0, A, hA, hd, hf => by omega
 | 0, k, fuel + 1, A, hA, hd, hf => by
  rw [W7.eq_2, if_neg (by simp; omega), I1 (by omega)]; rfl
 | d + 1, k, fuel + 1, A, hA, hd, hf => by
  have hk : k < o.length := by omega
  have hx := o6 hk
  have hin := ho _ (List.mem_of_getElem? hx)
  generalize o[k] = v at hx hin
  have ih := E0h o ho hl d (k + 1) fuel (A.set v.toNat (k : Int)) (by simp [hA]) (by omega) (by omega)
  rw [W7.eq_2, if_pos (by simp; omega), T1 hx, V3 hx, Option.bind_some, giI hA hin.1 hin.2, Option.bind_some, Z1 hk hl, ih]
  rfl
theorem F0h (es : List C0) {n : Nat} (hn : inN n es) (hl : es.length ≤ 1099511627776) (P : List Int) (hP : P.length = n) (r m : Int) : ∀ (d k fuel : Nat) (acc : List C0), k + d = es.length → d < fuel → acc.length ≤ k →
  z7 es P fuel (k : Int) r m acc = some (r, m, acc ++ pE P (es.drop k))
 | d, k, 0, acc, hd, hf, ha => by omega
 | 0, k, fuel + 1, acc, hd, hf, ha => by
  rw [z7.eq_2, if_neg (by simp; omega), I1 (by omega)]; simp [pE]
 | d + 1, k, fuel + 1, acc, hd, hf, ha => by
  have hk : k < es.length := by omega
  have he := o6 hk
  have hin := hn _ (List.mem_of_getElem? he)
  generalize es[k] = e at he hin
  obtain ⟨a, l, b⟩ := e
  have ih := fun acc' h => F0h es hn hl P hP r m d (k + 1) fuel acc' (by omega) (by omega) h
  rw [z7.eq_2, if_pos (by simp; omega), T1 he]
  simp only [V3 he, Option.bind_some, giI hP hin.1.1 hin.1.2, giI hP hin.2.1 hin.2.2, Z1 hk (show es.length ≤ 9223372036854775807 by omega), pE]
  by_cases c1 : 0 ≤ getI P a
  ·simp only [show decide (getI P a ≥ 0) = true by simpa using c1, O2, Option.bind_some, cond_true, show decide (0 ≤ getI P a) = true by simpa using c1, Bool.true_and]
   by_cases c2 : 0 ≤ getI P b
   ·rw [if_pos (by simpa using c2), O0 (by simp; omega), Option.bind_some, ih _ (by simp; omega)]
    simp [c2]
   ·rw [if_neg (by simpa using c2), ih _ (by omega)]
    simp [c2]
  ·simp only [show decide (getI P a ≥ 0) = false by simpa using c1, V5, Option.bind_some, cond_false, show decide (0 ≤ getI P a) = false by simpa using c1, Bool.false_and]
   rw [if_neg (by simp), ih _ (by omega)]
theorem F0j (r : Int) (n : Nat) (es : List C0) (o : List Int) (hn : inN n es) (ho : inV n o) (hn2 : n ≤ 1000000) (hl : es.length ≤ 1099511627776) (hl2 : o.length ≤ 1099511627776) :
  T00 (r, (n : Int), es) o = some (Q9 (r, (n : Int), es) o) := by
 unfold T00
 have h2 := D0h n (by omega) n 0 T0 (by omega) (C1 (by omega))
 have h1 := E0h o ho (by omega) o.length 0 T0 (List.replicate n (-1)) (by simp) (by omega) (C1 (by omega))
 have h0 := F0h es hn hl (plc n o) (C0h n o) r ((o.length : Nat) : Int) es.length 0 T0 [] (by omega) (C1 (by omega)) (Nat.le_refl _)
 rw [show ((0 : Nat) : Int) = 0 from rfl] at h0 h1 h2
 rw [List.replicate_zero, List.nil_append] at h2
 rw [List.drop_zero] at h1
 rw [List.drop_zero, List.nil_append] at h0
 simp only [Int.toNat_natCast]
 rw [O0 (by omega), Option.bind_some, Option.bind_some, List.length_replicate, O0 (by omega), Option.bind_some, h2, Option.bind_some, h1, Option.bind_some]
 rw [show g01 (List.replicate n (-1)) 0 o = plc n o from rfl, h0]
 simp only [Option.bind_some]
 rw [R07 _ (by have := S0d (plc n o) es; omega), Option.bind_some]
 rfl
theorem G0j (A : List Int) (i k : Nat) : (A.map (· + 1)).set i (((k + 1 : Nat) : Int)) = (A.set i (k : Int)).map (· + 1) := by
 rw [List.map_set]; rfl
theorem B0b {A : List Int} {n : Nat} (hA : A.length = n) {x : Int} (h0 : 0 ≤ x) (h1 : x < n) : gi (A.map (· + 1)) x = some (getI A x + 1) := by
 have hk : x.toNat < A.length := by omega
 have e : x = ((x.toNat : Nat) : Int) := by omega
 have h2 : gi (A.map (· + 1)) ((x.toNat : Nat) : Int) = some (getI A x + 1) := by
  rw [I08, List.getElem?_map, List.getElem?_eq_getElem hk]
  unfold getI
  rw [List.getD_eq_getElem?_getD, List.getElem?_eq_getElem hk]; rfl
 rw [← e] at h2; exact h2
theorem H0j (r : Int) (n : Nat) (es : List C0) (o : List Int) (ho : inV n o) (hd' : o.Nodup) (hn2 : 1 ≤ n ∧ n ≤ 1000000) (hl : o.length ≤ 1099511627776) : ∀ (d k fuel : Nat) (A : List Int), A.length = n → (∀ x, 0 ≤ x → -1 ≤ getI A x ∧ getI A x ≤ 1099511627776) → (∀ x ∈ o.drop k, getI A x = -1) → k + d = o.length → d < fuel →
  f4 o (n : Int) r es fuel (k : Int) (A.map (· + 1)) = some (.inr ((g01 A k (o.drop k)).map (· + 1)))
 | d, k, 0, A, hA, hr, hm, hd, hf => by omega
 | 0, k, fuel + 1, A, hA, hr, hm, hd, hf => by
  rw [f4.eq_2, if_neg (by simp; omega), I1 (by omega)]; rfl
 | d + 1, k, fuel + 1, A, hA, hr, hm, hd, hf => by
  have hk : k < o.length := by omega
  have hx := o6 hk
  have hin := ho _ (List.mem_of_getElem? hx)
  have hdr := T1 hx
  generalize o[k] = v at hx hin hdr
  have hnd : (o.drop k).Nodup := hd'.sublist (List.drop_sublist _ _)
  rw [hdr] at hnd hm
  have hA0 := hm v (List.mem_cons_self ..)
  have ih := H0j r n es o ho hd' hn2 hl d (k + 1) fuel (A.set v.toNat (k : Int)) (by simp [hA]) (fun x hx => by
   rw [M03 hin.1 (by omega) hx]; have := hr x hx; split <;> omega) (fun x hx => by
   have hx0 := ho x (List.mem_of_mem_drop hx)
   rw [M03 hin.1 (by omega) hx0.1, if_neg (fun e => (List.nodup_cons.1 hnd).1 (by rw [← e]; exact hx))]
   exact hm x (List.mem_cons_of_mem _ hx)) (by omega) (by omega)
  rw [f4.eq_2, if_pos (by simp; omega), hdr, V3 hx]
  simp only [Option.bind_some, U01, w64 (show -9223372036854775808 ≤ (n : Int) - 1 by omega) (show (n : Int) - 1 ≤ 9223372036854775807 by omega), inR, show decide (0 ≤ v) = true by simpa using hin.1, show decide (v ≤ (n : Int) - 1) = true by simp; omega, Bool.and_self, Bool.not_true, Bool.not_false, O2, B0b hA hin.1 hin.2, hA0, cond_false]
  rw [if_neg (by decide), Z1 hk (by omega), G0j, ih]
  rfl
theorem I0j (es : List C0) {n : Nat} (hn : inN n es) (hl : es.length ≤ 1099511627776) (P : List Int) (hP : P.length = n) (hr : ∀ x, 0 ≤ x → -1 ≤ getI P x ∧ getI P x ≤ 1099511627776) (r m : Int) : ∀ (d k fuel : Nat) (acc : List C0), k + d = es.length → d < fuel → acc.length ≤ k →
  I3 es (P.map (· + 1)) fuel (k : Int) r m acc = some (r, m, I6 M0 acc (pE P (es.drop k)))
 | d, k, 0, acc, hd, hf, ha => by omega
 | 0, k, fuel + 1, acc, hd, hf, ha => by
  rw [I3.eq_2, if_neg (by simp; omega), I1 (by omega)]; rfl
 | d + 1, k, fuel + 1, acc, hd, hf, ha => by
  have hk : k < es.length := by omega
  have he := o6 hk
  have hin := hn _ (List.mem_of_getElem? he)
  generalize es[k] = e at he hin
  obtain ⟨a, l, b⟩ := e
  have ih := fun acc' h => I0j es hn hl P hP hr r m d (k + 1) fuel acc' (by omega) (by omega) h
  have ra := hr a hin.1.1
  have rb := hr b hin.2.1
  rw [I3.eq_2, if_pos (by simp; omega), T1 he]
  simp only [V3 he, Option.bind_some, B0b hP hin.1.1 hin.1.2, B0b hP hin.2.1 hin.2.2, Z1 hk (show es.length ≤ 9223372036854775807 by omega), pE]
  by_cases c1 : 0 ≤ getI P a
  ·simp only [show decide (getI P a + 1 > 0) = true by simp; omega, O2, Option.bind_some, cond_true, show decide (0 ≤ getI P a) = true by simpa using c1, Bool.true_and]
   by_cases c2 : 0 ≤ getI P b
   ·rw [if_pos (by simp; omega), w64 (by omega) (by omega), w64 (by omega) (by omega), show getI P a + 1 - 1 = getI P a by omega, show getI P b + 1 - 1 = getI P b by omega]
    rw [p04 _ _ (by omega), Option.bind_some, ih _ (by have := g02 (getI P a, l, getI P b) acc; omega)]
    simp [c2, I6]
   ·rw [if_neg (by simp; omega), ih _ (by omega)]
    simp [c2]
  ·simp only [show decide (getI P a + 1 > 0) = false by simp; omega, V5, Option.bind_some, cond_false, show decide (0 ≤ getI P a) = false by simpa using c1, Bool.false_and]
   rw [if_neg (by simp), ih _ (by omega)]
theorem C0b (r : Int) (n : Nat) (es : List C0) (o : List Int) (hg : N0 (r, (n : Int), es) = true) (ho : inV n o) (hd : o.Nodup) (h1 : 1 ≤ o.length) (h2 : o.length ≤ n) :
  A6 (r, (n : Int), es) o = some (Q9 (r, (n : Int), es) o, true) := by
 obtain ⟨q1, q2, q3, q4⟩ := Y1 hg
 simp only at q2 q3 q4
 have hn : inN n es := fun e he => ⟨(q1 e he).1, (q1 e he).2.1⟩
 have hG := d6 (r, (n : Int), es) (by simp only; omega)
 unfold A6
 have e1 := H0j r n es o ho hd (by omega) (by omega) o.length 0 T0 (List.replicate n (-1)) (by simp) (fun x hx => by rw [q05]; omega) (fun x hx => q05 n x) (by omega) (C1 (by omega))
 have e0 := I0j es hn (by omega) (plc n o) (C0h n o) (fun x hx => by have := N03 ho hx; omega) r ((o.length : Nat) : Int) es.length 0 T0 [] (by omega) (C1 (by omega)) (Nat.le_refl _)
 rw [show ((0 : Nat) : Int) = 0 from rfl, List.drop_zero] at e0 e1
 rw [show (List.replicate n (-1 : Int)).map (· + 1) = List.replicate n 0 by simp] at e1
 rw [show g01 (List.replicate n (-1)) 0 o = plc n o from rfl] at e1
 have c1 : decide (((o.length : Nat) : Int) = 0) = false := decide_eq_false (by omega)
 have c2 : decide (((o.length : Nat) : Int) > (n : Int)) = false := decide_eq_false (by omega)
 simp only [hG, hg, Option.bind_some, Bool.not_true, cond_false, Int.toNat_natCast, c1, c2]
 rw [if_neg (by simp), O0 (by omega), Option.bind_some, e1]
 simp only [Option.bind_some, w7, e0]
 rfl
end Go.Proofs.YtfdlgbfeceodeaaGreat
namespace Go.Proofs.YtfdlgbfeceodeaaGreat
open Go.H
set_option linter.unusedVariables false
set_option linter.unusedSimpArgs false
theorem r04 : ∀ (n : Nat) (o : List Int), o.Nodup → inV n o → o.length ≤ n
 | 0, [], _, _ => Nat.le_refl _
 | 0, x :: r, _, h => by have := h x (List.mem_cons_self ..); omega
 | n + 1, o, hd, h => by
  have h1 : inV n (o.erase (n : Int)) := fun x hx => by
   obtain ⟨hne, hm⟩ := (List.Nodup.mem_erase_iff hd).1 hx
   have := h x hm; omega
  have h2 := r04 n _ (hd.erase _) h1
  by_cases hm : (n : Int) ∈ o
  ·rw [List.length_erase_of_mem hm] at h2; omega
  ·rw [List.erase_of_not_mem hm] at h2; omega
def k00 : Nat → Nat → List Int
 | 0, _ => []
 | d + 1, i => (i : Int) :: -(i : Int) :: k00 d (i + 1)
theorem O03 : ∀ d i, (k00 d i).length = 2 * d
 | 0, i => rfl
 | d + 1, i => by simp only [k00, List.length_cons, O03 d]; omega
theorem T0d : ∀ (d i : Nat), i + d ≤ 1000 → ∀ x ∈ k00 d i, J7 x
 | 0, i, h, x, hx => nomatch hx
 | d + 1, i, h, x, hx => by
  simp only [k00, List.mem_cons] at hx
  rcases hx with rfl | rfl | hx
  ·exact ⟨⟨by omega, by omega⟩, by omega⟩
  ·exact ⟨⟨by omega, by omega⟩, by omega⟩
  ·exact T0d d (i + 1) (by omega) x hx
theorem J0j (R : Nat) (hR : R ≤ 900) : ∀ (d i fuel : Nat) (acc : List Int), i + d = R + 1 → d < fuel → acc.length + 2 * d ≤ 10000 →
  B6 (R : Int) fuel (i : Int) acc = some (acc ++ k00 d i)
 | d, i, 0, acc, hd, hf, ha => by omega
 | 0, i, fuel + 1, acc, hd, hf, ha => by
  rw [B6.eq_2, if_neg (by simp; omega)]; simp [k00]
 | d + 1, i, fuel + 1, acc, hd, hf, ha => by
  have ih := J0j R hR d (i + 1) fuel (acc ++ [(i : Int), -(i : Int)]) (by omega) (by omega) (by simp; omega)
  have w1 : IntKind.i64.wrap (0 - (i : Int)) = -(i : Int) := by rw [w64 (by omega) (by omega)]; omega
  rw [B6.eq_2, if_pos (by simp; omega), w1, O0 (by simp; omega), Option.bind_some, Z1 (show i < 1000 by omega) (by omega), ih]
  simp [k00]
theorem K0j (R : Nat) (hR : R ≤ 900) : ∀ (d i fuel : Nat) (acc : List Int), i + d = R + 1 → d < fuel → acc.length + 2 * d ≤ 10000 →
  s5 (R : Int) fuel (i : Int) acc = some (acc ++ k00 d i)
 | d, i, 0, acc, hd, hf, ha => by omega
 | 0, i, fuel + 1, acc, hd, hf, ha => by
  rw [s5.eq_2, if_neg (by simp; omega)]; simp [k00]
 | d + 1, i, fuel + 1, acc, hd, hf, ha => by
  have ih := K0j R hR d (i + 1) fuel ((acc ++ [(i : Int)]) ++ [-(i : Int)]) (by omega) (by omega) (by simp; omega)
  have w1 : IntKind.i64.wrap (0 - (i : Int)) = -(i : Int) := by rw [w64 (by omega) (by omega)]; omega
  rw [s5.eq_2, if_pos (by simp; omega), w1, O0 (by simp; omega), Option.bind_some, O0 (by simp; omega), Option.bind_some, Z1 (show i < 1000 by omega) (by omega), ih]
  simp [k00]
theorem L0j (R : Nat) (hR : R ≤ 900) : r8 (R : Int) = some (k00 R 1) := by
 unfold r8
 rw [show (1 : Int) = ((1 : Nat) : Int) from rfl, J0j R hR R 1 T0 [] (by omega) (C1 (by omega)) (by simp; omega)]; rfl
theorem M0j (R : Nat) (hR : R ≤ 900) : n7 (R : Int) = some (k00 R 1) := by
 unfold n7
 rw [show (1 : Int) = ((1 : Nat) : Int) from rfl, K0j R hR R 1 T0 [] (by omega) (C1 (by omega)) (by simp; omega)]; rfl
def D0b (u : List Int) (x : Int) : List Int := if 0 ≤ x ∧ x ∉ u then u ++ [x] else u
def C04 (g : l0) (v : Int) : List Int → List Int → List Int
 | [], u => u
 | x :: r, u => C04 g v r (D0b u (K5 g v x))
def W01 (g : l0) (ls : List Int) : Nat → Nat → List Int → List Int
 | 0, i, u => u
 | f + 1, i, u => match u[i]? with
  | some v => W01 g ls f (i + 1) (C04 g v ls u)
  | none => u
def gud (n : Nat) (u : List Int) : Prop := u.Nodup ∧ inV n u
theorem N0j {n : Nat} {u : List Int} {x : Int} (h : gud n u) (hx : x = -1 ∨ (0 ≤ x ∧ x < (n : Int))) : gud n (D0b u x) := by
 unfold D0b
 split
 ·rename_i hc
  refine ⟨List.nodup_append.2 ⟨h.1, by simp, fun a ha b hb => ?_⟩, fun y hy => ?_⟩
  ·simp at hb; subst hb; exact fun e => hc.2 (e ▸ ha)
  ·rcases List.mem_append.1 hy with hy | hy
   ·exact h.2 y hy
   ·simp at hy; subst hy; omega
 ·exact h
theorem h0f (u : List Int) (x : Int) : ∃ t, D0b u x = u ++ t := by
 unfold D0b; split
 ·exact ⟨_, rfl⟩
 ·exact ⟨[], by simp⟩
theorem S05 (g : l0) (v : Int) : ∀ (ls u : List Int), ∃ t, C04 g v ls u = u ++ t
 | [], u => ⟨[], by simp [C04]⟩
 | x :: r, u => by
  obtain ⟨t1, e1⟩ := h0f u (K5 g v x)
  obtain ⟨t2, e2⟩ := S05 g v r (D0b u (K5 g v x))
  exact ⟨t1 ++ t2, by rw [C04, e2, e1, List.append_assoc]⟩
theorem T05 {r : Int} {n : Nat} {es : List C0} (hg : inG (r, (n : Int), es)) (v : Int) : ∀ (ls u : List Int), gud n u → gud n (C04 (r, (n : Int), es) v ls u)
 | [], u, h => h
 | x :: l, u, h => T05 hg v l _ (N0j h (k0a hg v x))
theorem E0b {r : Int} {n : Nat} {es : List C0} (hg : inG (r, (n : Int), es)) (ls : List Int) : ∀ (f i : Nat) (u : List Int), gud n u → gud n (W01 (r, (n : Int), es) ls f i u)
 | 0, i, u, h => h
 | f + 1, i, u, h => by
  unfold W01
  split
  ·exact E0b hg ls f _ _ (T05 hg _ _ _ h)
  ·exact h
theorem F0b (g : l0) (ls : List Int) : ∀ (f i : Nat) (u : List Int), u.length ≤ (W01 g ls f i u).length
 | 0, i, u => Nat.le_refl _
 | f + 1, i, u => by
  unfold W01
  split
  ·rename_i v _
   obtain ⟨t, e⟩ := S05 g v ls u
   have := F0b g ls f (i + 1) (C04 g v ls u)
   rw [e] at this ⊢; simp only [List.length_append] at this; omega
  ·exact Nat.le_refl _
theorem G0h (r : Int) (n : Nat) (es : List C0) (hg : inG (r, (n : Int), es)) (hn : n ≤ 40) (hes : es.length ≤ 1099511627776) (ls : List Int) (hls : ∀ x ∈ ls, J7 x) (hl : ls.length ≤ 1000000) (i : Nat) (v : Int) : ∀ (d k fuel : Nat) (u : List Int), gud n u → u[i]? = some v → k + d = ls.length → d < fuel →
  A3 ls (i : Int) r (n : Int) es fuel (k : Int) u = some (C04 (r, (n : Int), es) v (ls.drop k) u)
 | d, k, 0, u, hu, hi, hd, hf => by omega
 | 0, k, fuel + 1, u, hu, hi, hd, hf => by
  rw [A3.eq_2, if_neg (by simp; omega), I1 (by omega)]; rfl
 | d + 1, k, fuel + 1, u, hu, hi, hd, hf => by
  have hk : k < ls.length := by omega
  have hx := o6 hk
  have hxm := hls _ (List.mem_of_getElem? hx)
  have hdr := T1 hx
  generalize ls[k] = x at hx hxm hdr
  have hlen := r04 n u hu.1 hu.2
  have hnx : K5 (r, (n : Int), es) v x = -1 ∨ (0 ≤ K5 (r, (n : Int), es) v x ∧ K5 (r, (n : Int), es) v x < (n : Int)) := k0a hg v x
  have hg2 := N0j hu hnx
  have hi2 : (D0b u (K5 (r, (n : Int), es) v x))[i]? = some v := by
   obtain ⟨t, e⟩ := h0f u (K5 (r, (n : Int), es) v x)
   rw [e, List.getElem?_append_left (List.getElem?_eq_some_iff.1 hi).1]; exact hi
  have ih := G0h r n es hg hn hes ls hls hl i v d (k + 1) fuel _ hg2 hi2 (by omega) (by omega)
  rw [A3.eq_2, if_pos (by simp; omega), hdr]
  simp only [V3 hi, V3 hx, Option.bind_some, L06 (r, (n : Int), es) v x hxm hes, O0 (n04 hg (show (n : Int) ≤ 40 by omega) v x), Z1 hk (show ls.length ≤ 9223372036854775807 by omega), C04]
  rw [← ih]
  generalize K5 (r, (n : Int), es) v x = y at *
  unfold D0b
  by_cases c1 : 0 ≤ y
  ·simp only [show decide (y ≥ 0) = true by simpa using c1, O2, l0a u y (by omega), Option.bind_some, cond_true]
   by_cases c2 : y ∈ u
   ·rw [if_neg (by simp [c2]), if_neg (by simp [c2])]
   ·rw [if_pos (by simp [c2]), if_pos ⟨c1, c2⟩, O0 (by simp; omega), Option.bind_some]
  ·simp only [show decide (y ≥ 0) = false by simpa using c1, V5, Option.bind_some, cond_false]
   rw [if_neg (by simp), if_neg (fun h => c1 h.1)]
theorem H0h (r : Int) (n : Nat) (es : List C0) (hg : inG (r, (n : Int), es)) (hn : n ≤ 40) (hes : es.length ≤ 1099511627776) (ls : List Int) (hls : ∀ x ∈ ls, J7 x) (hl : ls.length ≤ 1000000) : ∀ (f i fuel : Nat) (u : List Int), gud n u → i ≤ u.length → n + 1 ≤ i + f → f < fuel →
  K4 ls r (n : Int) es fuel (i : Int) u = some (W01 (r, (n : Int), es) ls f i u)
 | f, i, 0, u, hu, hi, hd, hf => by omega
 | 0, i, fuel + 1, u, hu, hi, hd, hf => by have := r04 n u hu.1 hu.2; omega
 | f + 1, i, fuel + 1, u, hu, hi, hd, hf => by
  have hlen := r04 n u hu.1 hu.2
  rw [K4.eq_2, Option.bind_some, O0 (by omega), Option.bind_some]
  by_cases hk : i < u.length
  ·have hx := o6 hk
   generalize u[i] = v at hx
   have h0 := G0h r n es hg hn hes ls hls hl i v ls.length 0 T0 u hu hx (by omega) (C1 (by omega))
   rw [show ((0 : Nat) : Int) = 0 from rfl, List.drop_zero] at h0
   obtain ⟨t, e⟩ := S05 (r, (n : Int), es) v ls u
   have ih := H0h r n es hg hn hes ls hls hl f (i + 1) fuel _ (T05 hg v ls u hu) (by rw [e, List.length_append]; omega) (by omega) (by omega)
   rw [if_pos (by simpa using hk), h0, Option.bind_some, Z1 hk (by omega), ih]
   simp only [W01, hx]
  ·have hx : u[i]? = none := List.getElem?_eq_none (by omega)
   rw [if_neg (by simpa using hk)]
   simp only [W01, hx]
def X02 (g : l0) : List Int := W01 g (k00 g.1.toNat 1) (g.2.1.toNat + 1) 0 [0]
theorem Q0c {g : l0} (hf : S0 g = true) : gud g.2.1.toNat (X02 g) ∧ 1 ≤ (X02 g).length := by
 obtain ⟨h1, h2, h3, h4⟩ := L4 hf
 obtain ⟨r, n, es⟩ := g
 simp only at h2 h3 h4
 obtain ⟨N, rfl⟩ : ∃ N : Nat, n = (N : Int) := ⟨n.toNat, by omega⟩
 refine ⟨?_, ?_⟩
 ·exact E0b h1 _ _ _ _ ⟨by simp, fun x hx => by simp at hx; subst hx; show (0 : Int) ≤ 0 ∧ (0 : Int) < (((N : Int).toNat : Nat) : Int); omega⟩
 ·exact F0b _ _ _ _ [0]
theorem i0f (g : l0) (hf : S0 g = true) : Z6 g = some (X02 g) := by
 obtain ⟨h1, h2, h3, h4⟩ := L4 hf
 have hF := V8 g (by omega)
 obtain ⟨r, n, es⟩ := g
 simp only at h2 h3 h4
 obtain ⟨N, rfl⟩ : ∃ N : Nat, n = (N : Int) := ⟨n.toNat, by omega⟩
 obtain ⟨R, rfl⟩ : ∃ R : Nat, r = (R : Int) := ⟨r.toNat, by omega⟩
 unfold Z6
 have h0 := H0h (R : Int) N es h1 (by omega) (by omega) (k00 R 1) (T0d R 1 (by omega)) (by rw [O03]; omega) (N + 1) 0 T0 [0] ⟨by simp, fun x hx => by simp at hx; subst hx; omega⟩ (by simp) (by omega) (C1 (by omega))
 simp only [hF, hf, Option.bind_some, Bool.not_true, M0j R (by omega)]
 rw [show ((0 : Nat) : Int) = 0 from rfl] at h0
 rw [if_neg (by simp), h0]
 rfl
theorem M0k {a : List Int} (la : a.length ≤ 1099511627776) : t9 a = some a := by
 unfold t9
 rw [O0 (by simp; omega)]; rfl
def P03 (W : List (Option (List Int))) (x : Int) : Option (List Int) := W.getD x.toNat none
theorem giO {W : List (Option (List Int))} {n : Nat} (hl : W.length = n) {x : Int} (h0 : 0 ≤ x) (h1 : x < n) : gi W x = some (P03 W x) := by
 have hk : x.toNat < W.length := by omega
 have e : x = ((x.toNat : Nat) : Int) := by omega
 have h2 : gi W ((x.toNat : Nat) : Int) = some (P03 W x) := by
  rw [I08, List.getElem?_eq_getElem hk]
  unfold P03
  rw [List.getD_eq_getElem?_getD, List.getElem?_eq_getElem hk]; rfl
 rw [← e] at h2; exact h2
theorem Q03 {A : List (Option (List Int))} {v x : Int} {y : Option (List Int)} (h0 : 0 ≤ v) (h1 : v.toNat < A.length) (hx : 0 ≤ x) : P03 (A.set v.toNat y) x = if x = v then y else P03 A x := by
 unfold P03
 rw [List.getD_eq_getElem?_getD, List.getD_eq_getElem?_getD, List.getElem?_set]
 by_cases c : x = v
 ·rw [if_pos c, if_pos (by rw [c]), if_pos h1]; rfl
 ·rw [if_neg c, if_neg (by omega)]
structure WOk (n : Nat) (W : List (Option (List Int))) (u : List Int) : Prop where
 len : W.length = n
 iff : ∀ x, 0 ≤ x → x < (n : Int) → ((P03 W x).isNone = true ↔ x ∉ u)
 short : ∀ x, ((P03 W x).getD []).length ≤ u.length
theorem I0h (r : Int) (n : Nat) (es : List C0) (hg : inG (r, (n : Int), es)) (hn : n ≤ 40) (hes : es.length ≤ 1099511627776) (ls : List Int) (hls : ∀ x ∈ ls, J7 x) (hl : ls.length ≤ 1000000) (v : Int) (hv : 0 ≤ v ∧ v < (n : Int)) : ∀ (d k fuel : Nat) (W : List (Option (List Int))) (u : List Int), gud n u → WOk n W u → k + d = ls.length → d < fuel →
  ∃ W', J4 ls r (n : Int) es v fuel (k : Int) W u = some (W', C04 (r, (n : Int), es) v (ls.drop k) u) ∧ WOk n W' (C04 (r, (n : Int), es) v (ls.drop k) u)
 | d, k, 0, W, u, hu, hw, hd, hf => by omega
 | 0, k, fuel + 1, W, u, hu, hw, hd, hf => by
  rw [J4.eq_2, if_neg (by simp; omega), I1 (by omega)]; exact ⟨W, rfl, hw⟩
 | d + 1, k, fuel + 1, W, u, hu, hw, hd, hf => by
  have hk : k < ls.length := by omega
  have hx := o6 hk
  have hxm := hls _ (List.mem_of_getElem? hx)
  have hdr := T1 hx
  generalize ls[k] = x at hx hxm hdr
  have hlen := r04 n u hu.1 hu.2
  have hnx : K5 (r, (n : Int), es) v x = -1 ∨ (0 ≤ K5 (r, (n : Int), es) v x ∧ K5 (r, (n : Int), es) v x < (n : Int)) := k0a hg v x
  have hg2 := N0j hu hnx
  have ih := fun W' h => I0h r n es hg hn hes ls hls hl v hv d (k + 1) fuel W' _ hg2 h (by omega) (by omega)
  rw [J4.eq_2, if_pos (by simp; omega), hdr]
  simp only [V3 hx, Option.bind_some, M06 (r, (n : Int), es) v x hxm hes, O0 (n04 hg (show (n : Int) ≤ 40 by omega) v x), Z1 hk (show ls.length ≤ 9223372036854775807 by omega), C04]
  generalize K5 (r, (n : Int), es) v x = y at *
  by_cases c1 : 0 ≤ y
  ·have hy : y < (n : Int) := by omega
   simp only [show decide (y ≥ 0) = true by simpa using c1, O2, giO hw.len c1 hy, Option.bind_some, cond_true]
   by_cases c2 : y ∈ u
   ·have : ¬ ((P03 W y).isNone = true) := fun h => (hw.iff y c1 hy).1 h c2
    have e : D0b u y = u := if_neg fun h => h.2 c2
    rw [if_neg this]
    rw [e] at ih ⊢
    exact ih W hw
   ·have : (P03 W y).isNone = true := (hw.iff y c1 hy).2 c2
    have e : D0b u y = u ++ [y] := if_pos ⟨c1, c2⟩
    have hs := hw.short v
    rw [if_pos this, giO hw.len hv.1 hv.2, Option.bind_some, M0k (by omega), Option.bind_some, O0 (by simp; omega), Option.bind_some, O0 (by simp; omega), Option.bind_some]
    rw [e] at ih ⊢
    refine ih _ ⟨by simp [hw.len], fun z h0 h1 => ?_, fun z => ?_⟩
    ·rw [Q03 c1 (by have := hw.len; omega) h0]
     by_cases c : z = y
     ·rw [if_pos c]; simp [c]
     ·rw [if_neg c, hw.iff z h0 h1]; simp [c]
    ·by_cases hz : 0 ≤ z
     ·rw [Q03 c1 (by have := hw.len; omega) hz]
      by_cases c : z = y
      ·rw [if_pos c]; simp; exact hs
      ·rw [if_neg c]; have := hw.short z; simp only [List.length_append]; omega
     ·have hz0 : P03 (W.set y.toNat (some ((P03 W v).getD [] ++ [x]))) z = P03 (W.set y.toNat (some ((P03 W v).getD [] ++ [x]))) 0 := by
       unfold P03; rw [show z.toNat = (0 : Int).toNat by omega]
      rw [hz0, Q03 c1 (by have := hw.len; omega) (Int.le_refl 0)]
      by_cases c : (0 : Int) = y
      ·rw [if_pos c]; simp; exact hs
      ·rw [if_neg c]; have := hw.short 0; simp only [List.length_append]; omega
  ·have e : D0b u y = u := if_neg fun h => c1 h.1
   simp only [show decide (y ≥ 0) = false by simpa using c1, V5, Option.bind_some, cond_false]
   rw [if_neg (by simp)]
   rw [e] at ih ⊢
   exact ih W hw
theorem J0h (R n : Nat) (hR : R ≤ 900) (es : List C0) (hg : inG ((R : Int), (n : Int), es)) (hn : n ≤ 40) (hes : es.length ≤ 1099511627776) : ∀ (f i fuel : Nat) (W : List (Option (List Int))) (u : List Int), gud n u → WOk n W u → i ≤ u.length → n + 1 ≤ i + f → f < fuel →
  ∃ W', L5 (R : Int) (n : Int) es fuel (i : Int) W u = some (W', W01 ((R : Int), (n : Int), es) (k00 R 1) f i u)
 | f, i, 0, W, u, hu, hw, hi, hd, hf => by omega
 | 0, i, fuel + 1, W, u, hu, hw, hi, hd, hf => by have := r04 n u hu.1 hu.2; omega
 | f + 1, i, fuel + 1, W, u, hu, hw, hi, hd, hf => by
  have hlen := r04 n u hu.1 hu.2
  rw [L5.eq_2, Option.bind_some, O0 (by omega), Option.bind_some]
  by_cases hk : i < u.length
  ·have hx := o6 hk
   have hv := hu.2 _ (List.mem_of_getElem? hx)
   generalize u[i] = v at hx hv
   obtain ⟨W1, h0, hw1⟩ := I0h (R : Int) n es hg hn hes (k00 R 1) (T0d R 1 (by omega)) (by rw [O03]; omega) v hv (k00 R 1).length 0 T0 W u hu hw (by omega) (C1 (by rw [O03]; omega))
   rw [show ((0 : Nat) : Int) = 0 from rfl, List.drop_zero] at h0
   rw [List.drop_zero] at hw1
   obtain ⟨t, e⟩ := S05 ((R : Int), (n : Int), es) v (k00 R 1) u
   obtain ⟨W2, ih⟩ := J0h R n hR es hg hn hes f (i + 1) fuel W1 _ (T05 hg v _ u hu) hw1 (by rw [e, List.length_append]; omega) (by omega) (by omega)
   rw [if_pos (by simpa using hk), V3 hx, Option.bind_some, L0j R hR, Option.bind_some, h0, Option.bind_some]
   simp only [Z1 hk (show u.length ≤ 9223372036854775807 by omega), ih, W01, hx]
   exact ⟨_, rfl⟩
  ·have hx : u[i]? = none := List.getElem?_eq_none (by omega)
   rw [if_neg (by simpa using hk)]
   simp only [W01, hx]
   exact ⟨_, rfl⟩
theorem j0f (g : l0) (hf : S0 g = true) : d7 g = some (X02 g) := by
 obtain ⟨h1, h2, h3, h4⟩ := L4 hf
 have hF := i00 g (by omega)
 obtain ⟨r, n, es⟩ := g
 simp only at h2 h3 h4
 obtain ⟨N, rfl⟩ : ∃ N : Nat, n = (N : Int) := ⟨n.toNat, by omega⟩
 obtain ⟨R, rfl⟩ : ∃ R : Nat, r = (R : Int) := ⟨r.toNat, by omega⟩
 unfold d7
 have hrep : ∀ x, P03 (List.replicate N (none : Option (List Int))) x = none := fun x => by
  unfold P03
  rw [List.getD_eq_getElem?_getD, List.getElem?_replicate]; split <;> rfl
 have hW : WOk N ((List.replicate N (none : Option (List Int))).set (0 : Int).toNat (some [])) [0] := by
  refine ⟨by simp, fun x h0 h1 => ?_, fun x => ?_⟩
  ·rw [Q03 (Int.le_refl 0) (by simp; omega) h0]
   by_cases c : x = 0
   ·rw [if_pos c]; simp [c]
   ·rw [if_neg c, hrep]; simp [c]
  ·by_cases hz : 0 ≤ x
   ·rw [Q03 (Int.le_refl 0) (by simp; omega) hz]
    split
    ·simp
    ·rw [hrep]; simp
   ·have : P03 ((List.replicate N (none : Option (List Int))).set (0 : Int).toNat (some [])) x = P03 ((List.replicate N (none : Option (List Int))).set (0 : Int).toNat (some [])) 0 := by
     unfold P03; rw [show x.toNat = (0 : Int).toNat by omega]
    rw [this, Q03 (Int.le_refl 0) (by simp; omega) (Int.le_refl 0), if_pos rfl]; simp
 obtain ⟨W', h0⟩ := J0h R N (by omega) es h1 (by omega) (by omega) (N + 1) 0 T0 _ [0] ⟨by simp, fun x hx => by simp at hx; subst hx; omega⟩ hW (by simp) (by omega) (C1 (by omega))
 have hg0 : gi (List.replicate N (none : Option (List Int))) 0 = some none := by
  rw [m05 (x := none)]; rw [List.getElem?_replicate, if_pos (by omega)]
 simp only [hF, hf, Option.bind_some, Bool.not_true, W9, Int.toNat_natCast]
 rw [if_neg (by simp), O0 (by omega), Option.bind_some, hg0, Option.bind_some]
 rw [show ((0 : Nat) : Int) = 0 from rfl] at h0
 rw [h0]
 rfl
def U07 (g : l0) : l0 := Q9 g (X02 g)
theorem k0f (g : l0) (hf : S0 g = true) : g7 g = some (U07 g) := by
 obtain ⟨h1, h2, h3, h4⟩ := L4 hf
 have hF := i00 g (by omega)
 have hO := j0f g hf
 obtain ⟨ho, ho1⟩ := Q0c hf
 have hle := r04 _ _ ho.1 ho.2
 obtain ⟨r, n, es⟩ := g
 simp only at h2 h3 h4
 obtain ⟨N, rfl⟩ : ∃ N : Nat, n = (N : Int) := ⟨n.toNat, by omega⟩
 simp only [Int.toNat_natCast] at ho hle
 have hp := F0j r N es (X02 (r, (N : Int), es)) (fun e he => ⟨(h1 e he).1, (h1 e he).2.1⟩) ho.2 (by omega) (by omega) (by omega)
 unfold g7
 simp only [hF, hf, Option.bind_some, Bool.not_true, hO, hp]
 rfl
theorem l0f (g : l0) (hf : S0 g = true) : c7 g = some (U07 g) := by
 obtain ⟨h1, h2, h3, h4⟩ := L4 hf
 have hG : N0 g = true := by
  unfold S0 at hf; exact (Bool.and_eq_true _ _ ▸ hf).1
 have hO := i0f g hf
 obtain ⟨ho, ho1⟩ := Q0c hf
 have hle := r04 _ _ ho.1 ho.2
 obtain ⟨r, n, es⟩ := g
 simp only at h2 h3 h4
 obtain ⟨N, rfl⟩ : ∃ N : Nat, n = (N : Int) := ⟨n.toNat, by omega⟩
 simp only [Int.toNat_natCast] at ho hle
 have hp := C0b r N es (X02 (r, (N : Int), es)) hG ho.2 ho.1 ho1 hle
 unfold c7
 simp only [Option.bind_some, hO, hp]
 rw [if_neg (by simp; intro h; rw [h] at ho1; simp at ho1)]
 rfl
end Go.Proofs.YtfdlgbfeceodeaaGreat
namespace Go.Proofs.YtfdlgbfeceodeaaGreat
open Go.H
set_option linter.unusedVariables false
set_option linter.unusedSimpArgs false
def lf (bad : Nat → Bool) : Nat → Nat → Option Nat
 | 0, v => none
 | d + 1, v => bif bad v then some v else lf bad d (v + 1)
theorem G0b {bad : Nat → Bool} : ∀ (d v k : Nat), lf bad d v = some k → v ≤ k ∧ k < v + d
 | 0, v, k, h => by cases h
 | d + 1, v, k, h => by
  unfold lf at h
  cases hb : bad v
  ·rw [hb] at h; have := G0b d (v + 1) k h; omega
  ·rw [hb] at h; cases h; omega
theorem m0f {b1 b2 : Nat → Bool} : ∀ (d v : Nat), (∀ k, v ≤ k → k < v + d → b1 k = b2 k) → lf b1 d v = lf b2 d v
 | 0, v, h => rfl
 | d + 1, v, h => by unfold lf; rw [h v (Nat.le_refl _) (by omega), m0f d (v + 1) fun k h1 h2 => h k (by omega) (by omega)]
def B0i (es : List C0) : List Int := itS es (es.length + 1) [0]
def C0g (es : List C0) (v : Nat) : Bool := decide (o04 (v : Int) es < 2) || !decide ((v : Int) ∈ B0i es)
def h03 (g : l0) : Option Nat := lf (C0g g.2.2) (g.2.1.toNat - 1) 1
theorem D0g (g : l0) (hg : N0 g = true) : p8 g 0 = some (B0i g.2.2) ∧ (B0i g.2.2).length ≤ 100000 := by
 obtain ⟨h1, h2, h3, h4⟩ := Y1 hg
 have hq := d6 g (by omega)
 obtain ⟨r, n, es⟩ := g
 simp only at h2 h3 h4
 unfold p8 B0i
 have hl := y0b es h4 (es.length + 1) 0 T0 [0] (by omega) (C1 (by omega)) (by simp)
 have hlen := z0h es (es.length + 1) [0]
 refine ⟨?_, ?_⟩
 ·rw [show ((0 : Nat) : Int) = 0 from rfl] at hl
  simp only [hq, hg, Option.bind_some, Bool.not_true, Bool.not_false, O2, U01, inR, w64 (show -9223372036854775808 ≤ n - 1 by omega) (show n - 1 ≤ 9223372036854775807 by omega)]
  rw [if_neg (by simp; omega), hl]; rfl
 ·have : (es.length + 1) * (2 * es.length) ≤ 121 * 240 := Nat.mul_le_mul (by omega) (by omega)
  simp only [List.length_singleton] at hlen
  simp only
  omega
theorem O0j (r : Int) (n : Nat) (es : List C0) (hes : es.length ≤ 1000) (u : List Int) (hu : u.length ≤ 100000) (hn : n ≤ 40) : ∀ (d v fuel : Nat), v + d = n ∨ (d = 0 ∧ n ≤ v) → v ≤ 1000 → d < fuel →
  W6 (n : Int) r es u fuel (v : Int) = some (match lf (fun v => decide (o04 (v : Int) es < 2) || !decide ((v : Int) ∈ u)) d v with | some k => .inl (k : Int) | none => .inr ())
 | d, v, 0, hd, hv, hf => by omega
 | 0, v, fuel + 1, hd, hv, hf => by
  rw [W6.eq_2, if_neg (by simp; omega)]; rfl
 | d + 1, v, fuel + 1, hd, hv, hf => by
  have ih := O0j r n es hes u hu hn d (v + 1) fuel (by omega) (by omega) (by omega)
  have hdeg := P0d (v : Int) es
  rw [W6.eq_2, if_pos (by simp; omega), L0c (r, (n : Int), es) _ (by simp only; omega), Option.bind_some, O0 (c64 (by simp only; omega) (by simp only; omega)), Option.bind_some, Z1 (show v < 10000 by omega) (by omega)]
  unfold lf
  by_cases c1 : o04 (v : Int) es < 2
  ·have e1 : decide (((o04 (v : Int) es : Nat) : Int) < 2) = true := decide_eq_true (by omega)
   simp only [e1, Bool.not_true, V5, Option.bind_some, cond_true, if_true, decide_eq_true c1, Bool.true_or]
  ·have e1 : decide (((o04 (v : Int) es : Nat) : Int) < 2) = false := decide_eq_false (by omega)
   simp only [e1, Bool.not_false, O2, l0a u _ (show u.length ≤ 9223372036854775807 by omega), Option.bind_some, cond_false, decide_eq_false c1, Bool.false_or]
   by_cases c2 : (v : Int) ∈ u
   ·simp only [decide_eq_true c2, Bool.not_true, Bool.false_eq_true, if_false, cond_false]; exact ih
   ·simp only [decide_eq_false c2, Bool.not_false, if_true, cond_true]
theorem K0l (g : l0) (hg : N0 g = true) : F00 g = some (match h03 g with | some k => (k : Int) | none => -1) := by
 obtain ⟨e1, e2⟩ := D0g g hg
 obtain ⟨h1, h2, h3, h4⟩ := Y1 hg
 obtain ⟨r, n, es⟩ := g
 simp only at h2 h3 h4 e1 e2
 obtain ⟨N, rfl⟩ : ∃ N : Nat, n = (N : Int) := ⟨n.toNat, by omega⟩
 unfold F00 h03
 have hl := O0j r N es (by omega) (B0i es) e2 (by omega) (N - 1) 1 T0 (by omega) (by omega) (C1 (by omega))
 simp only [e1, Option.bind_some, Int.toNat_natCast]
 rw [show (1 : Int) = ((1 : Nat) : Int) from rfl, hl]
 rw [show (fun v : Nat => decide (o04 (v : Int) es < 2) || !decide ((v : Int) ∈ B0i es)) = C0g es from rfl]
 cases lf (C0g es) (N - 1) 1 <;> rfl
theorem K0h (r : Int) (n : Nat) (es : List C0) (hes : es.length ≤ 1000) (S : List Bool) (hS : S.length = n) (hn : n ≤ 40) : ∀ (d v fuel : Nat), 1 ≤ v → v + d = n ∨ (d = 0 ∧ n ≤ v) → v ≤ 1000 → d + 1 < fuel →
  R3 (n : Int) r es S fuel 0 (v : Int) = some (match lf (fun v => decide (o04 (v : Int) es < 2) || !C8 S (v : Int)) d v with | some k => (k : Int) | none => 0)
 | d, v, 0, h1, hd, hv, hf => by omega
 | 0, v, fuel + 1, h1, hd, hv, hf => by
  have e : decide ((v : Int) < (n : Int)) = false := decide_eq_false (by omega)
  rw [R3.eq_2, if_neg (by rw [e]; simp)]; rfl
 | d + 1, v, fuel + 1, h1, hd, hv, hf => by
  have ih := K0h r n es hes S hS hn d (v + 1) fuel (by omega) (by omega) (by omega) (by omega)
  have hdeg := P0d (v : Int) es
  have e : decide ((v : Int) < (n : Int)) = true := decide_eq_true (by omega)
  have hfin : ∀ w : Int, R3 (n : Int) r es S fuel (v : Int) w = some (v : Int) := fun w => by
   obtain _ | fuel := fuel
   ·omega
   ·have e2 : decide ((v : Int) = 0) = false := decide_eq_false (by omega)
    have e3 : ∀ b : Bool, (bif b then false else false) = false := fun b => by cases b <;> rfl
    rw [R3.eq_2, if_neg (by rw [e2, e3]; simp)]
  rw [R3.eq_2, if_pos (by rw [e]; rfl), z0i (r, (n : Int), es) _ (by simp only; omega), Option.bind_some, O0 (c64 (by simp only; omega) (by simp only; omega)), Option.bind_some, Z1 (show v < 10000 by omega) (by omega)]
  unfold lf
  by_cases c1 : o04 (v : Int) es < 2
  ·have e1 : decide (((o04 (v : Int) es : Nat) : Int) < 2) = true := decide_eq_true (by omega)
   simp only [e1, Bool.not_true, V5, Option.bind_some, cond_true, if_true, decide_eq_true c1, Bool.true_or, hfin]
  ·have e1 : decide (((o04 (v : Int) es : Nat) : Int) < 2) = false := decide_eq_false (by omega)
   simp only [e1, Bool.not_false, O2, giB hS (show (0 : Int) ≤ (v : Int) by omega) (show (v : Int) < (n : Int) by omega), Option.bind_some, cond_false, decide_eq_false c1, Bool.false_or]
   cases hb : C8 S (v : Int)
   ·simp only [Bool.not_false, if_true, cond_true, hfin]
   ·simp only [Bool.not_true, Bool.false_eq_true, if_false, cond_false]; exact ih
def wo (g : Nat) : Nat → Nat → List Int
 | 0, k => []
 | d + 1, k => if k = g then wo g d (k + 1) else (k : Int) :: wo g d (k + 1)
theorem E0g (g : Nat) : ∀ (d k : Nat), (wo g d k).length = d - (if k ≤ g ∧ g < k + d then 1 else 0)
 | 0, k => by simp [wo]
 | d + 1, k => by
  have ih := E0g g d (k + 1)
  unfold wo
  by_cases c : k = g
  ·rw [if_pos c, ih, if_neg (by omega), if_pos (by omega)]; omega
  ·rw [if_neg c, List.length_cons, ih]
   by_cases c2 : k + 1 ≤ g ∧ g < k + 1 + d
   ·rw [if_pos c2, if_pos (by omega)]; omega
   ·rw [if_neg c2, if_neg (by omega)]; omega
theorem P0j (g n : Nat) : ∀ (d k : Nat), k + d ≤ n → inV n (wo g d k)
 | 0, k, h => fun x hx => nomatch hx
 | d + 1, k, h => by
  have ih := P0j g n d (k + 1) (by omega)
  unfold wo
  split
  ·exact ih
  ·intro x hx
   rcases List.mem_cons.1 hx with rfl | hx
   ·omega
   ·exact ih x hx
theorem L0h (n g : Nat) (hn : n ≤ 1000) : ∀ (d k fuel : Nat) (acc : List Int), k + d = n → d < fuel → acc.length ≤ k →
  U4 (n : Int) (g : Int) fuel (k : Int) acc = some (acc ++ wo g d k)
 | d, k, 0, acc, hd, hf, ha => by omega
 | 0, k, fuel + 1, acc, hd, hf, ha => by
  rw [U4.eq_2, if_neg (by simp; omega)]; simp [wo]
 | d + 1, k, fuel + 1, acc, hd, hf, ha => by
  have ih := fun acc' h => L0h n g hn d (k + 1) fuel acc' (by omega) (by omega) h
  rw [U4.eq_2, if_pos (by simp; omega), Z1 (show k < 10000 by omega) (by omega)]
  unfold wo
  by_cases c : k = g
  ·have e : decide ((k : Int) = (g : Int)) = true := decide_eq_true (by omega)
   rw [e, if_neg (by simp), if_pos c, ih _ (by omega)]
  ·have e : decide ((k : Int) = (g : Int)) = false := decide_eq_false (by omega)
   rw [e, if_pos (show (!false) = true from rfl), if_neg c, O0 (by simp; omega), Option.bind_some, ih _ (by simp; omega)]
   simp
theorem M0h (n : Nat) (hn : n ≤ 1000) : ∀ (d k fuel : Nat) (acc : List Int), k + d = n → d < fuel → acc.length = k →
  ∃ u, w5 (n : Int) fuel (k : Int) acc = some u ∧ u.length = n
 | d, k, 0, acc, hd, hf, ha => by omega
 | 0, k, fuel + 1, acc, hd, hf, ha => by
  rw [w5.eq_2, if_neg (by simp; omega)]; exact ⟨_, rfl, by omega⟩
 | d + 1, k, fuel + 1, acc, hd, hf, ha => by
  obtain ⟨u, e1, e2⟩ := M0h n hn d (k + 1) fuel (acc ++ [(k : Int)]) (by omega) (by omega) (by simp; omega)
  rw [w5.eq_2, if_pos (by simp; omega), Z1 (show k < 10000 by omega) (by omega), O0 (by simp; omega), Option.bind_some, e1]
  exact ⟨u, rfl, e2⟩
theorem Q0j {α : Type} {xs : List α} {k : Nat} (h : k ≤ xs.length) : I06 xs 0 (k : Int) = some (xs.take k) := by
 unfold I06
 rw [if_pos (by omega)]; rfl
theorem c02 {g : l0} (h : S0 g = true) : N0 g = true := by
 unfold S0 at h; exact (Bool.and_eq_true _ _ ▸ h).1
theorem C0i {g : l0} (hf : S0 g = true) : (U07 g).2.2.length ≤ 120 := by
 have := A0b g (X02 g)
 have := (L4 hf).2.2.2
 unfold U07; omega
end Go.Proofs.YtfdlgbfeceodeaaGreat
namespace Go.Proofs.YtfdlgbfeceodeaaGreat
open Go.H
set_option linter.unusedVariables false
set_option linter.unusedSimpArgs false
def L0l (l : h0a) : Prop := l.length ≤ 140737488355328 ∧ ∀ e ∈ l, e.1.size ≤ 140737488355328 ∧ e.2.2.2.length ≤ 140737488355328
end Go.Proofs.YtfdlgbfeceodeaaGreat
namespace Go.Proofs.YtfdlgbfeceodeaaGreat
open Go.H
set_option linter.unusedVariables false
set_option linter.unusedSimpArgs false
def R0j (l : h0a) : Prop := l.length ≤ 1048576 ∧ ∀ e ∈ l, e.1.size ≤ 1048576 ∧ e.2.2.2.length ≤ 1048576
theorem R0j.ok {l : h0a} (h : R0j l) : L0l l := ⟨by have := h.1; omega, fun e he => by have := h.2 e he; omega⟩
end Go.Proofs.YtfdlgbfeceodeaaGreat
namespace Go.Proofs.YtfdlgbfeceodeaaGreat
open Go.H
set_option linter.unusedVariables false
set_option linter.unusedSimpArgs false
theorem n0f {α : Type} {cf : α → α → Int} (h : D8 cf) : ∀ {l : List α}, (∀ i x y, l[i]? = some x → l[i + 1]? = some y → cf x y < 0) → Asc cf l
 | [], _ => List.Pairwise.nil
 | [x], _ => List.pairwise_singleton _ _
 | x :: y :: l, hn => by
  have ih : Asc cf (y :: l) := n0f h fun i a b ha hb => hn (i + 1) a b (by simpa using ha) (by simpa using hb)
  have hxy := hn 0 x y rfl rfl
  refine List.pairwise_cons.2 ⟨fun z hz => ?_, ih⟩
  rcases List.mem_cons.1 hz with rfl | hz
  ·exact hxy
  ·exact h.trans _ _ _ hxy ((List.pairwise_cons.1 ih).1 z hz)
theorem S0j {α : Type} {cf : α → α → Int} : ∀ {l : List α}, Asc cf l → ∀ {i : Nat} {x y : α}, l[i]? = some x → l[i + 1]? = some y → cf x y < 0
 | [], _, i, x, y, hx, _ => by simp at hx
 | a :: l, h, 0, x, y, hx, hy => by
  simp at hx hy; subst hx
  exact (List.pairwise_cons.1 h).1 y (List.mem_of_getElem? hy)
 | a :: l, h, i + 1, x, y, hx, hy => S0j (List.pairwise_cons.1 h).2 (i := i) (by simpa using hx) (by simpa using hy)
theorem T0j {r hi : Int} {es : List C0} : ∀ {d k : Nat}, (∀ i, k ≤ i → i < k + d → z0j r hi es i = false) → okE r hi es d k = true
 | 0, k, h => rfl
 | d + 1, k, h => by
  simp only [okE, Bool.and_eq_true, Bool.not_eq_true']
  exact ⟨h k (Nat.le_refl _) (by omega), T0j fun i h1 h2 => h i (by omega) (by omega)⟩
theorem N9 (g : l0) : N0 g = true ↔ inG g ∧ (1 ≤ g.1 ∧ g.1 ≤ 3) ∧ (1 ≤ g.2.1 ∧ g.2.1 ≤ 40) ∧ g.2.2.length ≤ 120 ∧ Asc M0 g.2.2 := by
 constructor
 ·intro h
  obtain ⟨q1, q2, q3, q4⟩ := Y1 h
  refine ⟨q1, q2, q3, q4, n0f r6 fun i x y hx hy => ?_⟩
  simp only [N0, Bool.and_eq_true] at h
  have hb := x0g h.1.1.1 (i + 1) (Nat.zero_le _) (by have := (List.getElem?_eq_some_iff.1 hy).1; omega)
  rw [J07 hy] at hb
  simp only [Nat.add_sub_cancel, hx, Bool.or_eq_false_iff] at hb
  have := hb.2
  simp only [show decide (0 < i + 1) = true by simp, Bool.true_and, decide_eq_false_iff_not] at this
  have e : k0b x y = M0 x y := rfl
  omega
 ·rintro ⟨q1, q2, q3, q4, q5⟩
  obtain ⟨r, n, es⟩ := g
  simp only at q2 q3 q4 q5
  simp only [N0, inR, Bool.and_eq_true, decide_eq_true_eq]
  refine ⟨⟨⟨T0j fun i _ hi => ?_, q2⟩, q3⟩, q4⟩
  have hx := o6 (show i < es.length by omega)
  generalize es[i] = e at hx
  rw [J07 hx]
  have he := q1 e (List.mem_of_getElem? hx)
  simp only at he
  simp only [Bool.or_eq_false_iff, Bool.not_eq_false', V01, inR, Bool.and_eq_true, decide_eq_true_eq]
  rw [w64 (by omega) (by omega)]
  refine ⟨⟨⟨⟨by omega, by omega⟩, by omega, by omega⟩, by omega, by omega⟩, ?_⟩
  cases i with
  | zero => rfl
  | succ j =>
   have hy := o6 (show j < es.length by omega)
   generalize es[j] = f at hy
   have := S0j q5 hy hx
   simp only [Nat.add_sub_cancel, hy]
   have e' : k0b f e = M0 f e := rfl
   simp [e']; omega
theorem V07 {r : Int} {n : Int} {es : List C0} (hr : 1 ≤ r ∧ r ≤ 3) (hn : 1 ≤ n ∧ n ≤ 40) (hes : es.length ≤ 120) (hin : inG (r, n, es)) : N0 (r, n, I6 M0 [] es) = true := by
 refine (N9 _).2 ⟨fun e he => hin e ?_, hr, hn, ?_, x01 r6 _ _ List.Pairwise.nil⟩
 ·rcases (l9 r6 e es []).1 he with h | h
  ·simp at h
  ·exact h
 ·have := O01 es []
  simp only [List.length_nil] at this
  simp only; omega
def W07 (a b : C0) : List (Int × Int) :=
 bif decide (a.2.1 = b.2.1) then (bif decide (a.1 = b.1) then [(if b.2.2 < a.2.2 then b.2.2 else a.2.2, if b.2.2 > a.2.2 then b.2.2 else a.2.2)] else []) ++ (bif decide (a.2.2 = b.2.2) then [(if b.1 < a.1 then b.1 else a.1, if b.1 > a.1 then b.1 else a.1)] else []) else []
def V00 (a : C0) : List C0 → List (Int × Int)
 | [] => []
 | b :: r => W07 a b ++ V00 a r
def t7 : List C0 → List (Int × Int)
 | [] => []
 | a :: r => V00 a r ++ t7 r
theorem D0i (a b : C0) : (W07 a b).length ≤ 2 := by
 unfold W07
 cases decide (a.2.1 = b.2.1) <;> cases decide (a.1 = b.1) <;> cases decide (a.2.2 = b.2.2) <;> simp
theorem R08 (a : C0) : ∀ l, (V00 a l).length ≤ 2 * l.length
 | [] => by simp [V00]
 | b :: r => by have := D0i a b; have := R08 a r; simp only [V00, List.length_append, List.length_cons]; omega
def mvV (f : Int × Int) (v : Int) : Int := if v = f.2 then f.1 else if v > f.2 then v - 1 else v
def mvE (f : Int × Int) (e : C0) : C0 := (mvV f e.1, e.2.1, mvV f e.2.2)
def Y9 (g : l0) (f : Int × Int) : l0 := (g.1, g.2.1 - 1, I6 M0 [] (g.2.2.map (mvE f)))
def okF (g : l0) (f : Int × Int) : Prop := 0 ≤ f.1 ∧ f.1 < f.2 ∧ f.2 < g.2.1
theorem Y02 {g : l0} {f : Int × Int} (hg : N0 g = true) (hf : okF g f) : N0 (Y9 g f) = true := by
 obtain ⟨q1, q2, q3, q4, _⟩ := (N9 g).1 hg
 obtain ⟨f1, f2, f3⟩ := hf
 refine V07 q2 ⟨by omega, by omega⟩ (by simpa using q4) fun e he => ?_
 obtain ⟨e', he', rfl⟩ := List.mem_map.1 he
 obtain ⟨a1, a2, a3⟩ := q1 e' he'
 have hm : ∀ v : Int, 0 ≤ v ∧ v < g.2.1 → 0 ≤ mvV f v ∧ mvV f v < g.2.1 - 1 := fun v hv => by
  unfold mvV; split
  ·omega
  ·split <;> omega
 exact ⟨hm _ a1, hm _ a2, a3⟩
theorem o0f {g : l0} (hg : inG g) {a : C0} (ha : a ∈ g.2.2) : ∀ {l : List C0}, (∀ b ∈ l, b ∈ g.2.2 ∧ a ≠ b) → ∀ f ∈ V00 a l, okF g f
 | [], _, f, hf => by simp [V00] at hf
 | b :: r, h, f, hf => by
  rcases List.mem_append.1 (show f ∈ W07 a b ++ V00 a r from hf) with hf | hf
  ·have hb := hg b (h b (List.mem_cons_self ..)).1
   have ha' := hg a ha
   have hne := (h b (List.mem_cons_self ..)).2
   obtain ⟨a0, a1, a2⟩ := a
   obtain ⟨b0, b1, b2⟩ := b
   simp only at ha' hb
   unfold W07 at hf
   simp only at hf
   by_cases c1 : a1 = b1
   ·have d1 : ¬ (a0 = b0 ∧ a2 = b2) := fun ⟨x, y⟩ => hne (by rw [x, c1, y])
    simp only [c1, decide_true, cond_true, List.mem_append] at hf
    rcases hf with hf | hf
    ·by_cases c2 : a0 = b0
     ·simp only [c2, decide_true, cond_true, List.mem_singleton] at hf
      subst hf
      have : a2 ≠ b2 := fun y => d1 ⟨c2, y⟩
      unfold okF
      simp only
      split <;> split <;> omega
     ·simp [c2] at hf
    ·by_cases c2 : a2 = b2
     ·simp only [c2, decide_true, cond_true, List.mem_singleton] at hf
      subst hf
      have : a0 ≠ b0 := fun y => d1 ⟨y, c2⟩
      unfold okF
      simp only
      split <;> split <;> omega
     ·simp [c2] at hf
   ·simp [c1] at hf
  ·exact o0f hg ha (fun b' hb' => h b' (List.mem_cons_of_mem _ hb')) f hf
theorem p0f {g : l0} (hg : inG g) : ∀ {l : List C0}, (∀ b ∈ l, b ∈ g.2.2) → Asc M0 l → ∀ f ∈ t7 l, okF g f
 | [], _, _, f, hf => by simp [t7] at hf
 | a :: r, h, hA, f, hf => by
  rcases List.mem_append.1 (show f ∈ V00 a r ++ t7 r from hf) with hf | hf
  ·refine o0f hg (h a (List.mem_cons_self ..)) (fun b hb => ⟨h b (List.mem_cons_of_mem _ hb), fun e => ?_⟩) f hf
   have := (List.pairwise_cons.1 hA).1 b hb
   rw [e, r6.refl] at this; omega
  ·exact p0f hg (fun b hb => h b (List.mem_cons_of_mem _ hb)) (List.pairwise_cons.1 hA).2 f hf
theorem B02 {g : l0} (hg : N0 g = true) : ∀ f ∈ t7 g.2.2, okF g f := by
 obtain ⟨q1, _, _, _, q5⟩ := (N9 g).1 hg
 exact p0f q1 (fun _ h => h) q5
def Z9 : Nat → l0 → l0 × List (Int × Int)
 | 0, g => (g, [])
 | n + 1, g => match t7 g.2.2 with
  | [] => (g, [])
  | f :: _ => ((Z9 n (Y9 g f)).1, f :: (Z9 n (Y9 g f)).2)
def A4 (g : l0) : l0 × List (Int × Int) := bif N0 g then Z9 40 g else (g, [])
theorem r05 : ∀ (n : Nat) {g : l0}, N0 g = true → N0 (Z9 n g).1 = true
 | 0, g, h => h
 | n + 1, g, h => by
  unfold Z9
  cases e : t7 g.2.2 with
  | nil => exact h
  | cons f l => exact r05 n (Y02 h (B02 h f (by rw [e]; exact List.mem_cons_self ..)))
theorem O06 : ∀ (n : Nat) {g : l0}, N0 g = true → g.2.1 ≤ (n : Int) + 1 → t7 (Z9 n g).1.2.2 = []
 | 0, g, h, hn => by
  cases e : t7 g.2.2 with
  | nil => exact e
  | cons f l =>
   have := B02 h f (by rw [e]; exact List.mem_cons_self ..)
   unfold okF at this
   omega
 | n + 1, g, h, hn => by
  unfold Z9
  cases e : t7 g.2.2 with
  | nil => exact e
  | cons f l => exact O06 n (Y02 h (B02 h f (by rw [e]; exact List.mem_cons_self ..))) (by show g.2.1 - 1 ≤ _; omega)
theorem E0i (a b : C0) : W07 a b = [] ↔ F02 a b = false := by
 unfold W07 F02
 cases decide (a.2.1 = b.2.1) <;> cases decide (a.1 = b.1) <;> cases decide (a.2.2 = b.2.2) <;> simp
theorem R0c (a : C0) : ∀ l, V00 a l = [] ↔ ∀ b ∈ l, F02 a b = false
 | [] => by simp [V00]
 | b :: r => by
  rw [V00, List.append_eq_nil_iff, E0i, R0c a r]
  simp
theorem S08 : ∀ l, t7 l = [] ↔ l.Pairwise fun a b => F02 a b = false
 | [] => by simp [t7]
 | a :: r => by rw [t7, List.append_eq_nil_iff, R0c, S08 r, List.pairwise_cons]
theorem P7 (g : l0) : S0 g = true ↔ N0 g = true ∧ t7 g.2.2 = [] := by
 unfold S0
 rw [Bool.and_eq_true, N08, S08]
theorem H0b {g : l0} (h : N0 g = true) : S0 (A4 g).1 = true := by
 have hg := (Y1 h).2.2.1
 unfold A4
 rw [h]
 exact (P7 _).2 ⟨r05 40 h, O06 40 h (by omega)⟩
end Go.Proofs.YtfdlgbfeceodeaaGreat
namespace Go.Proofs.YtfdlgbfeceodeaaGreat
open Go.H
set_option linter.unusedVariables false
set_option linter.unusedSimpArgs false
theorem v05 {x : D0} (h : D4 x = true) : ∀ w ∈ x.2, Z4 x.1 w = true := by
 simp only [D4, P3, Bool.and_eq_true] at h
 have hw : ∀ {ws : List (List Int)}, Y05 x.1 ws = true → ∀ w ∈ ws, Z4 x.1 w = true := by
  intro ws
  induction ws with
  | nil => intro _ w hw; cases hw
  | cons v r ih =>
   intro h w hw
   simp only [Y05, Bool.and_eq_true] at h
   rcases List.mem_cons.1 hw with rfl | hw
   ·exact h.1
   ·exact ih h.2 w hw
 exact hw h.1.1.2
theorem Y07 {x : D0} (h : D4 x = true) : ∀ w ∈ x.2, (∀ y ∈ w, J7 y) ∧ w.length ≤ 24 := fun w hw => by
 have h1 := v05 h w hw
 refine ⟨fun y hy => ?_, ?_⟩
 ·obtain ⟨i, hi⟩ := List.getElem?_of_mem hy
  have := U02 h1 hi
  refine ⟨⟨by omega, by omega⟩, by omega⟩
 ·simp only [Z4, Bool.and_eq_true, decide_eq_true_eq] at h1
  exact h1.1.2
theorem s04 {x : D0} (h : D4 x = true) : x.2.length ≤ 6 := by
 simp only [D4, P3, Bool.and_eq_true, decide_eq_true_eq] at h
 exact h.1.1.1.2
def G0i (g : l0) (v : Int) (r : List Int) : Bool := bif decide ((c9 g v r).2 < r.length) then true else !decide ((c9 g v r).1 = v)
def L0b (g : l0) (v : Int) : List (List Int) → Nat → Option Nat
 | [], _ => none
 | r :: l, i => bif G0i g v r then some i else L0b g v l (i + 1)
def t04 (g : l0) (rels : List (List Int)) : Nat → Nat → Option (Nat × Nat)
 | 0, _ => none
 | d + 1, v => match L0b g (v : Int) rels 0 with
  | some i => some (v, i)
  | none => t04 g rels d (v + 1)
def M0b (q : Option (Nat × Nat)) : Int × Int := match q with
 | some (v, i) => ((v : Int), (i : Int))
 | none => (-1, -1)
def O9 (p : D0) (g : l0) : Int × Int := bif D4 p && S0 g && decide (p.1 = g.1) then M0b (t04 g p.2 g.2.1.toNat 0) else (-1, -1)
theorem N0b (rels : List (List Int)) (hrel : ∀ w ∈ rels, (∀ y ∈ w, J7 y) ∧ w.length ≤ 24) (r n : Int) (es : List C0) (hg : inG (r, n, es)) (hn : n ≤ 40) (hes : es.length ≤ 120) (hl : rels.length ≤ 6) (v : Int) (hv : H0 v) : ∀ (d k fuel : Nat), k + d = rels.length → d < fuel →
  S4 rels r n es v fuel (k : Int) = some (match L0b (r, n, es) v (rels.drop k) k with | some i => .inl (v, (i : Int)) | none => .inr ())
 | d, k, 0, hd, hf => by omega
 | 0, k, fuel + 1, hd, hf => by
  rw [S4.eq_2, if_neg (by simp; omega), I1 (by omega)]
  rfl
 | d + 1, k, fuel + 1, hd, hf => by
  have hk : k < rels.length := by omega
  have hx := o6 hk
  obtain ⟨hxm, hxl⟩ := hrel _ (List.getElem_mem hk)
  generalize rels[k] = w at hx hxm hxl
  have hle := q0b (r, n, es) w v
  rw [S4.eq_2, if_pos (by simp; omega), V3 hx, Option.bind_some, H0l (r, n, es) hg hn (by simp only; omega) v w hxm (by omega), Option.bind_some, T1 hx]
  simp only [O0 (r0b hg hn w v hv), O0 (show H0 (((c9 (r, n, es) v w).2 : Nat) : Int) from ⟨by omega, by omega⟩), Option.bind_some, L0b]
  have e : (bif decide ((((c9 (r, n, es) v w).2 : Nat) : Int) < ((w.length : Nat) : Int)) then true else !decide ((c9 (r, n, es) v w).1 = v)) = G0i (r, n, es) v w := by
   unfold G0i
   simp
  rw [e]
  cases G0i (r, n, es) v w with
  | true => rfl
  | false =>
   rw [if_neg (by simp), Z1 hk (by omega)]
   exact N0b rels hrel r n es hg hn hes hl v hv d (k + 1) fuel (by omega) (by omega)
theorem O0b (rels : List (List Int)) (hrel : ∀ w ∈ rels, (∀ y ∈ w, J7 y) ∧ w.length ≤ 24) (r : Int) (N : Nat) (es : List C0) (hg : inG (r, (N : Int), es)) (hn : N ≤ 40) (hes : es.length ≤ 120) (hl : rels.length ≤ 6) : ∀ (d k fuel : Nat), k + d = N → d < fuel →
  T4 (N : Int) rels r es fuel (k : Int) = some (match t04 (r, (N : Int), es) rels d k with | some (v, i) => .inl ((v : Int), (i : Int)) | none => .inr ())
 | d, k, 0, hd, hf => by omega
 | 0, k, fuel + 1, hd, hf => by
  rw [T4.eq_2, if_neg (by simp; omega)]
  rfl
 | d + 1, k, fuel + 1, hd, hf => by
  have h0 := N0b rels hrel r (N : Int) es hg (by omega) hes hl (k : Int) ⟨by omega, by omega⟩ rels.length 0 T0 (by omega) (C1 (by omega))
  rw [show ((0 : Nat) : Int) = 0 from rfl, List.drop_zero] at h0
  rw [T4.eq_2, if_pos (by simp; omega), h0, Option.bind_some]
  simp only [t04]
  cases L0b (r, (N : Int), es) (k : Int) rels 0 with
  | some i => rfl
  | none =>
   simp only [d0c]
   rw [Z1 (show k < N by omega) (by omega)]
   exact O0b rels hrel r N es hg hn hes hl d (k + 1) fuel (by omega) (by omega)
theorem Z07 (p : D0) (g : l0) (hl : p.2.length ≤ 140737488355328) (hs : Q3 p.2) (hl2 : g.2.2.length ≤ 140737488355328) : p7 p g = some (O9 p g) := by
 have hP := f00 p hl hs
 have hF := i00 g hl2
 unfold O9
 obtain ⟨pr, rels⟩ := p
 obtain ⟨r, n, es⟩ := g
 unfold p7
 simp only [hP, Option.bind_some]
 cases hp : D4 (pr, rels) with
 | false => rfl
 | true =>
  simp only [Bool.not_true, Bool.not_false, O2, hF, Option.bind_some, cond_false, Bool.true_and]
  cases hf : S0 (r, n, es) with
  | false => rfl
  | true =>
   by_cases hr : pr = r
   ·simp only [Bool.not_true, cond_false, hr, decide_true, Bool.true_and, cond_true, Bool.false_eq_true, if_false]
    obtain ⟨hg, _, hn, hes⟩ := L4 hf
    simp only at hn hes
    obtain ⟨N, rfl⟩ : ∃ N : Nat, n = (N : Int) := ⟨n.toNat, by omega⟩
    have h := O0b rels (Y07 hp) r N es hg (by omega) hes (s04 hp) N 0 T0 (by omega) (C1 (by omega))
    rw [show ((0 : Nat) : Int) = 0 from rfl] at h
    rw [h, Option.bind_some, Int.toNat_natCast]
    cases t04 (r, (N : Int), es) rels N 0 <;> rfl
   ·simp [hr]
theorem P0b (rels : List (List Int)) (hrel : ∀ w ∈ rels, (∀ y ∈ w, J7 y) ∧ w.length ≤ 24) (r n : Int) (es : List C0) (hf : S0 (r, n, es) = true) (hl : rels.length ≤ 6) (v : Int) (hv : 0 ≤ v ∧ v < n) : ∀ (d k fuel : Nat), k + d = rels.length → d < fuel →
  R4 rels r n es v fuel (k : Int) = some (match L0b (r, n, es) v (rels.drop k) k with | some i => .inl (v, (i : Int)) | none => .inr ())
 | d, k, 0, hd, hf' => by omega
 | 0, k, fuel + 1, hd, hf' => by
  rw [R4.eq_2, if_neg (by simp; omega), I1 (by omega)]
  rfl
 | d + 1, k, fuel + 1, hd, hf' => by
  have hk : k < rels.length := by omega
  have hx := o6 hk
  obtain ⟨hxm, hxl⟩ := hrel _ (List.getElem_mem hk)
  generalize rels[k] = w at hx hxm hxl
  obtain ⟨hg, _, hn, hes⟩ := L4 hf
  simp only at hn hes
  have h64 : H0 v := ⟨by omega, by omega⟩
  rw [R4.eq_2, if_pos (by simp; omega), V3 hx, Option.bind_some, I0l (r, n, es) hf v hv w hxm (by omega), Option.bind_some, T1 hx]
  simp only [L0b, G0i]
  cases decide ((c9 (r, n, es) v w).2 < w.length) with
  | true =>
   simp only [cond_true, O0 (show H0 (-1) by decide), Option.bind_some, Bool.not_false, if_true]
  | false =>
   simp only [cond_false, O0 (r0b hg hn.2 w v h64), Option.bind_some, Bool.not_true]
   cases decide ((c9 (r, n, es) v w).1 = v) with
   | false => rfl
   | true =>
    rw [if_neg (by simp), Z1 hk (by omega)]
    exact P0b rels hrel r n es hf hl v hv d (k + 1) fuel (by omega) (by omega)
theorem Q0b (rels : List (List Int)) (r : Int) (N : Nat) (es : List C0) (hp : D4 (r, rels) = true) (hf : S0 (r, (N : Int), es) = true) (hl : rels.length ≤ 140737488355328) (hs : Q3 rels) : ∀ (d k fuel : Nat), k + d = N → d < fuel →
  L3 (N : Int) r rels r es fuel (k : Int) = some (match t04 (r, (N : Int), es) rels d k with | some (v, i) => .inl ((v : Int), (i : Int)) | none => .inr ())
 | d, k, 0, hd, hf' => by omega
 | 0, k, fuel + 1, hd, hf' => by
  have e : decide ((k : Int) < (N : Int)) = false := by simp; omega
  rw [L3.eq_2, e, V5, Option.bind_some]
  simp only [cond_false, V5, Option.bind_some]
  rw [if_neg (by simp)]
  rfl
 | d + 1, k, fuel + 1, hd, hf' => by
  obtain ⟨hg, _, hn, hes⟩ := L4 hf
  simp only at hn hes
  have e : decide ((k : Int) < (N : Int)) = true := by simp; omega
  have h0 := P0b rels (Y07 hp) r (N : Int) es hf (s04 hp) (k : Int) ⟨by omega, by omega⟩ rels.length 0 T0 (by omega) (C1 (by omega))
  rw [show ((0 : Nat) : Int) = 0 from rfl, List.drop_zero] at h0
  rw [L3.eq_2, e, O2, K8 (r, rels) hl hs, Option.bind_some, hp]
  simp only [cond_true, O2, V8 (r, (N : Int), es) (show es.length ≤ 140737488355328 by omega), hf, Option.bind_some, decide_true, if_true, h0]
  simp only [t04]
  cases L0b (r, (N : Int), es) (k : Int) rels 0 with
  | some i => rfl
  | none =>
   simp only [d0c]
   rw [Z1 (show k < N by omega) (by omega)]
   exact Q0b rels r N es hp hf hl hs d (k + 1) fuel (by omega) (by omega)
theorem a08 (p : D0) (g : l0) (hl : p.2.length ≤ 140737488355328) (hs : Q3 p.2) (hl2 : g.2.2.length ≤ 140737488355328) : o7 p g = some (O9 p g) := by
 have hP := K8 p hl hs
 have hF := V8 g hl2
 unfold O9
 obtain ⟨pr, rels⟩ := p
 obtain ⟨r, n, es⟩ := g
 unfold o7
 have stop : (D4 (pr, rels) && S0 (r, n, es) && decide (pr = r)) = false → L3 n pr rels r es T0 0 = some (.inr ()) := fun hno => by
  rw [show T0 = (T0 - 1) + 1 from rfl, L3.eq_2]
  cases decide ((0 : Int) < n) with
  | false => simp [chk]
  | true =>
   simp only [O2, hP, Option.bind_some, cond_true]
   cases hp : D4 (pr, rels) with
   | false => simp [chk]
   | true =>
    simp only [O2, hF, Option.bind_some, cond_true]
    rw [hp] at hno
    cases hf : S0 (r, n, es) with
    | false => simp
    | true =>
     rw [hf] at hno
     simp only [Bool.true_and] at hno
     simp [hno]
 cases hall : (D4 (pr, rels) && S0 (r, n, es) && decide (pr = r)) with
 | false =>
  simp only [stop hall, Option.bind_some, hall, cond_false]
  rfl
 | true =>
  simp only [Bool.and_eq_true, decide_eq_true_eq] at hall
  obtain ⟨⟨hp, hf⟩, rfl⟩ := hall
  obtain ⟨hg, _, hn, hes⟩ := L4 hf
  simp only at hn hes
  obtain ⟨N, rfl⟩ : ∃ N : Nat, n = (N : Int) := ⟨n.toNat, by omega⟩
  have h := Q0b rels pr N es hp hf hl hs N 0 T0 (by omega) (C1 (by omega))
  rw [show ((0 : Nat) : Int) = 0 from rfl] at h
  simp only [h, Option.bind_some, hp, hf, decide_true, Bool.true_and, cond_true, Int.toNat_natCast]
  cases t04 (pr, (N : Int), es) rels N 0 <;> rfl
end Go.Proofs.YtfdlgbfeceodeaaGreat
