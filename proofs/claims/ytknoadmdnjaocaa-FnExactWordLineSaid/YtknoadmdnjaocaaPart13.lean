/- Texts of the claim, joined: Plain laws: words and presentations, as the spec and the code know the; Plain laws: lists of words, and presentations, as the spec and the cod; Plain laws: words reduced; Plain laws: products of words; Plain laws: products, words of presentations; Plain laws: steps in a graph; Plain laws: words compared for equality; Plain laws: words compared; Plain laws: rotations of words, and the symmetrized set; Plain laws: cores of words, least rotations, cyclic forms; Plain laws: a word written in a basis; Plain laws: Whitehead's moves, the shortest word of an orbit; Plain laws: numbers in decimal; Plain laws: words and presentations in letters; Plain laws: numbers one behind the other; Plain laws: parts glued to a line; Plain laws: roots, exponent sums, and the line on a word; Plain laws: the line on a word. -/
import Derived.Test.YtknoadmdnjaocaaPart12
import Derived.Test.YtknoadmdnjaocaaPart11
import Derived.Test.YtknoadmdnjaocaaHE
import Derived.Test.YtknoadmdnjaocaaH34
import Derived.Test.YtknoadmdnjaocaaH33
import Derived.JoinedOf
namespace Go.Proofs.Ytknoadmdnjaocaa
open Go.H
set_option linter.unusedVariables false
set_option linter.unusedSimpArgs false
theorem I2 {n : Nat} (h : n ≤ 140737488355328) : n < N0 := by unfold N0; omega
theorem C0 {p : Prop} [Decidable p] (h : p) : grd p = some () := by unfold grd; rw [if_pos h]
theorem w5 {α : Type} (o : Option α) (d : α) : chk true o d = o := rfl
theorem M4 {α : Type} (o : Option α) (d : α) : chk false o d = some d := rfl
theorem l4 {α : Type} {xs : List α} {k : Nat} {x : α} (h : xs[k]? = some x) : gi xs (k : Int) = some x := by rw [z0f]; exact h
theorem C0f {α : Type} {xs : List α} {x : α} (h : xs[0]? = some x) : gi xs 0 = some x := l4 (k := 0) h
theorem Z0e {x : Int} (h : D0 x) (h2 : x ≠ -9223372036854775808) : IntKind.i64.wrap (0 - x) = -x := by rw [w64 (by have := h.1; have := h.2; omega) (by have := h.1; have := h.2; omega)]; omega
theorem h08 {n : Nat} (h : 0 < n) (hm : n ≤ 9223372036854775807) : IntKind.i64.wrap ((n : Int) - 1) = ((n - 1 : Nat) : Int) := by rw [w64 (by omega) (by omega)]; omega
theorem Y7 {α : Type} {xs : List α} {k : Nat} (h : k < xs.length) : xs[k]? = some xs[k] := List.getElem?_eq_getElem h
def inR (lo hi x : Int) : Bool := decide (lo ≤ x) && decide (x ≤ hi)
def v00 (lo hi : Int) (w : List Int) (i : Nat) : Bool :=
 match w[i]? with
 | none => true
 | some x => x == 0 || !inR lo hi x || (decide (0 < i) && match w[i - 1]? with
  | none => true
  | some y => x == IntKind.i64.wrap (0 - y))
def s8 (lo hi : Int) (w : List Int) : Nat → Nat → Bool
 | 0, _ => true
 | d + 1, k => !v00 lo hi w k && s8 lo hi w d (k + 1)
def T1 (r : Int) (w : List Int) : Bool := inR 1 3 r && decide (w.length ≤ 24) && s8 (-r) r w w.length 0
theorem w05 (a b c : Int) : Y3 a b c = some (inR b c a) := by
 unfold Y3 inR
 by_cases h : b ≤ a <;> simp [h]
theorem w00 (a b c : Int) : D2 a b c = some (inR b c a) := w05 a b c
theorem x01 (r : Int) (w : List Int) (hl : w.length ≤ 140737488355328) : ∀ (d k fuel : Nat), k + d = w.length → d < fuel →
  Q4 w r fuel (k : Int) = some (bif s8 (IntKind.i64.wrap (0 - r)) r w d k then .inr () else .inl false)
 | d, k, 0, hk, hf => by omega
 | 0, k, fuel + 1, hk, hf => by
  rw [Q4.eq_2, if_neg (by simp; omega)]
  simp [s8]
 | d + 1, k, fuel + 1, hk, hf => by
  have hkl : k < w.length := by omega
  have hx := Y7 hkl
  generalize w[k] = x at hx
  have next := x01 r w hl d (k + 1) fuel (by omega) (by omega)
  rw [Q4.eq_2, if_pos (by simp; omega)]
  generalize IntKind.i64.wrap (0 - r) = lo at next ⊢
  simp only [l4 hx, Option.bind_some, w05, S6 hkl (by omega : w.length ≤ 9223372036854775807), next]
  have hbad : v00 lo r w k = (x == 0 || !inR lo r x || (decide (0 < k) && match w[k - 1]? with
   | none => true
   | some y => x == IntKind.i64.wrap (0 - y))) := by unfold v00; rw [hx]
  simp only [s8, hbad]
  by_cases h0 : x = 0
  ·simp [h0, chk]
  have e0 : decide (x = 0) = false := by simpa using h0
  have b0 : (x == 0) = false := by simpa using h0
  cases hin : inR lo r x with
  | false => simp [e0, b0, hin, chk]
  | true =>
   by_cases hk0 : k = 0
   ·have ek : decide ((k : Int) > 0) = false := by simp; omega
    have bk : decide (0 < k) = false := by simp; omega
    simp only [e0, b0, hin, ek, bk, w5, M4, Bool.not_true, Bool.not_false, Bool.and_true, Bool.false_and, Bool.or_self, Bool.true_and, cond_true, cond_false, Option.bind_some, Bool.or_false, Bool.and_false, Bool.false_eq_true, if_false, cond_true, cond_false]
   ·have hy := Y7 (show k - 1 < w.length by omega)
    generalize w[k - 1] = y at hy
    have hpr : IntKind.i64.wrap ((k : Int) - 1) = ((k - 1 : Nat) : Int) := h08 (by omega) (by omega)
    have ek : decide ((k : Int) > 0) = true := by simp; omega
    have bk : decide (0 < k) = true := by simp; omega
    simp only [e0, b0, hin, ek, bk, hpr, hy, l4 hx, l4 hy, w5, M4, Bool.not_true, Bool.not_false, Bool.and_true, Bool.false_and, Bool.or_self, Bool.true_and, cond_true, cond_false, Option.bind_some, Bool.or_false, Bool.and_false, Bool.false_or]
    by_cases hxy : x = IntKind.i64.wrap (0 - y)
    ·have e1 : decide (x = IntKind.i64.wrap (0 - y)) = true := by simpa using hxy
     have b1 : (x == IntKind.i64.wrap (0 - y)) = true := by simpa using hxy
     simp only [e1, b1, if_true, Bool.not_true, Bool.false_and, Bool.false_eq_true, if_false, cond_true, cond_false]
    ·have e1 : decide (x = IntKind.i64.wrap (0 - y)) = false := by simpa using hxy
     have b1 : (x == IntKind.i64.wrap (0 - y)) = false := by simpa using hxy
     simp only [e1, b1, Bool.false_eq_true, if_false, Bool.not_false, Bool.true_and]
theorem S7 (r : Int) (w : List Int) (hl : w.length ≤ 140737488355328) : w4 r w = some (T1 r w) := by
 unfold w4
 have h := x01 r w hl w.length 0 N0 (by omega) (I2 hl)
 rw [show ((0 : Nat) : Int) = 0 from rfl] at h
 rw [h, w05]
 unfold T1
 by_cases hr : inR 1 3 r = true
 ·have : IntKind.i64.wrap (0 - r) = -r := by
   simp only [inR, Bool.and_eq_true, decide_eq_true_eq] at hr
   rw [w64 (by omega) (by omega)]; omega
  rw [this, hr]
  cases s8 (-r) r w w.length 0 <;> simp [r8] <;> omega
 ·simp only [Bool.not_eq_true] at hr
  rw [hr]
  cases s8 (IntKind.i64.wrap (0 - r)) r w w.length 0 <;> simp [r8]
theorem V0a (r x : Int) (hr : inR 1 3 r = true) : M5 r x = some (!(x == 0) && inR (-r) r x) := by
 have hn : IntKind.i64.wrap (0 - r) = -r := by
  simp only [inR, Bool.and_eq_true, decide_eq_true_eq] at hr
  rw [w64 (by omega) (by omega)]; omega
 unfold M5
 rw [hn, w00]
 by_cases h0 : x = 0
 ·simp [h0, chk]
 ·simp [h0, chk]
theorem V01 (y x : Int) : F4 y x = some (!(y == 0) && !(y == -9223372036854775808) && (x == IntKind.i64.wrap (0 - y))) := by
 unfold F4
 by_cases h0 : y = 0
 ·simp [h0]
 ·by_cases h1 : y = -9223372036854775808
  ·simp [h1]
  ·simp only [h0, h1, decide_false, Bool.not_false, cond_true, Option.some.injEq]
   have b2 : (y == 0) = false := by simpa using h0
   have b3 : (y == -9223372036854775808) = false := by simpa using h1
   rw [b2, b3]
   rfl
theorem y01 (r : Int) (w : List Int) (hr : inR 1 3 r = true) (hl : w.length ≤ 140737488355328) : ∀ (d k fuel : Nat), k + d = w.length → d < fuel →
  (∀ i, i < k → v00 (-r) r w i = false) →
  R4 w r fuel (k : Int) = some (bif s8 (-r) r w d k then .inr () else .inl false)
 | d, k, 0, hk, hf, hp => by omega
 | 0, k, fuel + 1, hk, hf, hp => by
  rw [R4.eq_2, if_neg (by simp; omega)]
  simp [s8]
 | d + 1, k, fuel + 1, hk, hf, hp => by
  have hkl : k < w.length := by omega
  have hx := Y7 hkl
  generalize w[k] = x at hx
  have next := fun (hb : v00 (-r) r w k = false) => y01 r w hr hl d (k + 1) fuel (by omega) (by omega) (fun i hi => by
   by_cases e : i = k
   ·subst e; exact hb
   ·exact hp i (by omega))
  rw [R4.eq_2, if_pos (by simp; omega)]
  rw [l4 hx, Option.bind_some, V0a r x hr, S6 hkl (by omega : w.length ≤ 9223372036854775807)]
  have hbad : v00 (-r) r w k = (x == 0 || !inR (-r) r x || (decide (0 < k) && match w[k - 1]? with
   | none => true
   | some y => x == IntKind.i64.wrap (0 - y))) := by unfold v00; rw [hx]
  simp only [s8]
  by_cases h0 : x = 0
  ·simp [h0, chk, hbad]
  have b0 : (x == 0) = false := by simpa using h0
  cases hin : inR (-r) r x with
  | false => simp [b0, hin, chk, hbad]
  | true =>
   by_cases hk0 : k = 0
   ·have hb : v00 (-r) r w k = false := by rw [hbad]; simp [h0, hin, hk0]
    rw [next hb, hb]
    have ek : decide ((k : Int) > 0) = false := by simp; omega
    simp only [b0, ek, w5, M4, Bool.not_true, Bool.not_false, Bool.and_true, Bool.false_and, Bool.or_self, Bool.true_and, cond_true, cond_false, Option.bind_some, Bool.or_false, Bool.and_false, Bool.false_eq_true, if_false, cond_true, cond_false]
   ·have hy := Y7 (show k - 1 < w.length by omega)
    have hpy := hp (k - 1) (by omega)
    generalize w[k - 1] = y at hy
    have hy0 : y ≠ 0 ∧ y ≠ -9223372036854775808 := by
     unfold v00 at hpy
     rw [hy] at hpy
     simp only [Bool.or_eq_false_iff, Bool.not_eq_false'] at hpy
     have h1 := hpy.1.2
     simp only [inR, Bool.and_eq_true, decide_eq_true_eq] at h1 hr
     exact ⟨by simpa using hpy.1.1, by omega⟩
    have b2 : (y == 0) = false := by simpa using hy0.1
    have b3 : (y == -9223372036854775808) = false := by simpa using hy0.2
    have hpr : IntKind.i64.wrap ((k : Int) - 1) = ((k - 1 : Nat) : Int) := h08 (by omega) (by omega)
    have ek : decide ((k : Int) > 0) = true := by simp; omega
    have bk : decide (0 < k) = true := by simp; omega
    simp only [b0, ek, hpr, l4 hy, V01, b2, b3, w5, M4, Bool.not_true, Bool.not_false, Bool.and_true, Bool.false_and, Bool.or_self, Bool.true_and, cond_true, cond_false, Option.bind_some, Bool.or_false, Bool.and_false, Bool.false_or]
    cases b1 : (x == IntKind.i64.wrap (0 - y)) with
    | true =>
     have hb : v00 (-r) r w k = true := by rw [hbad, hy, bk, b0, hin]; exact b1
     simp only [hb, if_true, Bool.not_true, Bool.false_and, Bool.false_eq_true, if_false, cond_true, cond_false]
    | false =>
     have hb : v00 (-r) r w k = false := by rw [hbad, hy, bk, b0, hin]; exact b1
     simp only [hb, next hb, Bool.false_eq_true, if_false, Bool.not_false, Bool.true_and]
theorem d00 (r : Int) (w : List Int) (hl : w.length ≤ 140737488355328) : V5 r w = some (T1 r w) := by
 unfold V5
 rw [w00]
 unfold T1
 cases hr : inR 1 3 r with
 | false => simp
 | true =>
  by_cases h24 : w.length ≤ 24
  ·have h := y01 r w hr hl w.length 0 N0 (by omega) (I2 hl) (fun i hi => by omega)
   rw [show ((0 : Nat) : Int) = 0 from rfl] at h
   have h24' : ¬ (24 : Int) < (w.length : Int) := by omega
   simp only [Option.bind_some, h, h24']
   cases s8 (-r) r w w.length 0 <;> simp [r8, h24]
  ·have h24' : (24 : Int) < (w.length : Int) := by omega
   simp [h24, h24']
end Go.Proofs.Ytknoadmdnjaocaa
namespace Go.Proofs.Ytknoadmdnjaocaa
open Go.H
set_option linter.unusedVariables false
set_option linter.unusedSimpArgs false
theorem U2 {α : Type} {xs : List α} {k : Nat} {x : α} (h : xs[k]? = some x) : xs.drop k = x :: xs.drop (k + 1) := by
 obtain ⟨hk, rfl⟩ := List.getElem?_eq_some_iff.1 h
 exact List.drop_eq_getElem_cons hk
theorem M3 {α : Type} {xs : List α} {k : Nat} (h : k = xs.length) : xs.drop k = [] := by rw [h]; exact List.drop_length
theorem i08 {lo hi : Int} {w : List Int} : ∀ {d k : Nat}, s8 lo hi w d k = true → ∀ i, k ≤ i → i < k + d → v00 lo hi w i = false
 | 0, k, h, i, h1, h2 => by omega
 | d + 1, k, h, i, h1, h2 => by
  simp only [s8, Bool.and_eq_true, Bool.not_eq_true'] at h
  by_cases e : i = k
  ·subst e; exact h.1
  ·exact i08 h.2 i (by omega) (by omega)
theorem g0a {r : Int} {w : List Int} (h : T1 r w = true) {i : Nat} {x : Int} (hx : w[i]? = some x) : (1 ≤ r ∧ r ≤ 3) ∧ w.length ≤ 24 ∧ x ≠ 0 ∧ -r ≤ x ∧ x ≤ r := by
 simp only [T1, Bool.and_eq_true, decide_eq_true_eq] at h
 have hr := h.1.1
 simp only [inR, Bool.and_eq_true, decide_eq_true_eq] at hr
 have hb := i08 h.2 i (Nat.zero_le _) (by have := (List.getElem?_eq_some_iff.1 hx).1; omega)
 unfold v00 at hb
 rw [hx] at hb
 simp only [Bool.or_eq_false_iff, Bool.not_eq_false'] at hb
 have h1 := hb.1.2
 simp only [inR, Bool.and_eq_true, decide_eq_true_eq] at h1
 exact ⟨hr, h.1.2, by simpa using hb.1.1, h1⟩
end Go.Proofs.Ytknoadmdnjaocaa
namespace Go.Proofs.Ytknoadmdnjaocaa
open Go.H
set_option linter.unusedVariables false
set_option linter.unusedSimpArgs false
def ng (x : Int) : Int := IntKind.i64.wrap (0 - x)
def inv (w : List Int) : List Int := (w.map ng).reverse
theorem W01 (w : List Int) : (inv w).length = w.length := by simp [inv]
def W7 (w : List Int) : Prop := ∀ x ∈ w, D0 x
theorem D0f (w : List Int) : W7 (inv w) := fun x hx => by
 simp only [inv, List.mem_reverse, List.mem_map] at hx
 obtain ⟨y, _, rfl⟩ := hx
 exact B0 _
theorem H0d {w : List Int} {k : Nat} {x : Int} (hx : w[k]? = some x) : inv (w.drop k) = inv (w.drop (k + 1)) ++ [ng x] := by
 rw [U2 hx]
 simp [inv]
theorem J9 (w : List Int) (hl : w.length ≤ 1099511627776) : ∀ (k fuel : Nat), k ≤ w.length → k < fuel →
  P1 w fuel ((k : Int) - 1) (inv (w.drop k)) = some (inv w)
 | k, 0, hk, hf => by omega
 | 0, fuel + 1, hk, hf => by
  rw [P1.eq_2, if_neg (by simp)]
  rfl
 | k + 1, fuel + 1, hk, hf => by
  have hx := Y7 (show k < w.length by omega)
  have next := J9 w hl k fuel (by omega) (by omega)
  generalize w[k] = x at hx
  rw [H0d hx] at next
  have hlen := W01 (w.drop (k + 1))
  rw [List.length_drop] at hlen
  rw [show (((k + 1 : Nat) : Int) - 1) = (k : Int) by omega, P1.eq_2, if_pos (by simp), l4 hx, Option.bind_some, C0 (by simp only [List.length_singleton]; omega), Option.bind_some,
   w64 (by omega) (by omega)]
  exact next
theorem j9 (w : List Int) (hl : w.length ≤ 1099511627776) : G4 w = some (inv w) := by
 unfold G4
 have h := J9 w hl w.length N0 (Nat.le_refl _) (I2 (by omega))
 rw [List.drop_length] at h
 rw [w64 (by omega) (by omega), show ([] : i0) = inv [] from rfl, h]
 rfl
theorem K8 (w : List Int) : ∀ (fuel : Nat) (k : Int) (u : List Int), C3 w fuel k u = P1 w fuel k u
 | 0, k, u => rfl
 | fuel + 1, k, u => by
  rw [C3.eq_2, P1.eq_2]
  simp only [K8 w fuel]
theorem z01 (w : List Int) (hl : w.length ≤ 1099511627776) : I5 w = some (inv w) := by
 rw [← j9 w hl]
 unfold I5 G4
 rw [C0 (by omega), Option.bind_some, K8]
 rfl
def x05 (l x : Int) : Bool := !(l == 0) && !(l == -9223372036854775808) && (x == ng l)
def R6 (s : List Int) (x : Int) : List Int := match s with
 | [] => [x]
 | l :: t => bif x05 l x then t else x :: l :: t
def B5 (s w : List Int) : List Int := w.foldl R6 s
def Red : List Int → Bool
 | [] => true
 | [_] => true
 | x :: l :: t => !x05 l x && Red (l :: t)
theorem Y06 {x : Int} {t : List Int} (h : Red (x :: t) = true) : Red t = true := by
 cases t with
 | nil => rfl
 | cons l t => simp only [Red, Bool.and_eq_true] at h; exact h.2
theorem C0c {s : List Int} (x : Int) (h : Red s = true) : Red (R6 s x) = true := by
 cases s with
 | nil => rfl
 | cons l t =>
  simp only [R6]
  cases hc : x05 l x with
  | true => exact Y06 h
  | false => simp only [cond_false, Red, hc, h]; rfl
theorem Z06 : ∀ (w s : List Int), Red s = true → Red (B5 s w) = true
 | [], s, h => h
 | x :: w, s, h => Z06 w (R6 s x) (C0c x h)
theorem A01 (s a b : List Int) : B5 s (a ++ b) = B5 (B5 s a) b := List.foldl_append
theorem j08 : ∀ (s : List Int), Red s = true → B5 [] s.reverse = s
 | [], h => rfl
 | x :: t, h => by
  rw [List.reverse_cons, A01, j08 t (Y06 h)]
  show R6 t x = _
  cases t with
  | nil => rfl
  | cons l t =>
   simp only [Red, Bool.and_eq_true, Bool.not_eq_true'] at h
   simp only [R6, h.1, cond_false]
theorem y05 (s : List Int) (x : Int) : (R6 s x).length ≤ s.length + 1 := by
 cases s with
 | nil => simp [R6]
 | cons l t =>
  simp only [R6]
  cases x05 l x <;> simp <;> omega
theorem L8 : ∀ (w s : List Int), (B5 s w).length ≤ s.length + w.length
 | [], s => by simp [B5]
 | x :: w, s => by
  have := L8 w (R6 s x)
  have := y05 s x
  simp only [B5, List.foldl_cons, List.length_cons] at *
  omega
theorem h0a {s : List Int} {x : Int} (h : W7 s) (hx : D0 x) : W7 (R6 s x) := by
 cases s with
 | nil => intro y hy; simp [R6] at hy; subst hy; exact hx
 | cons l t =>
  simp only [R6]
  cases x05 l x with
  | true => exact fun y hy => h y (List.mem_cons_of_mem _ hy)
  | false =>
   intro y hy
   rcases List.mem_cons.1 hy with rfl | hy
   ·exact hx
   ·exact h y hy
theorem M0b : ∀ (w s : List Int), W7 s → W7 w → W7 (B5 s w)
 | [], s, hs, hw => hs
 | x :: w, s, hs, hw => M0b w (R6 s x) (h0a hs (hw x (List.mem_cons_self ..))) fun y hy => hw y (List.mem_cons_of_mem _ hy)
theorem D0c {l x : Int} (hl : D0 l) (hx : D0 x) : (!(x == 0) && (l == ng x) && !(l == x)) = x05 l x := by
 unfold x05 ng
 have e : ∀ {z : Int}, D0 z → IntKind.i64.wrap (0 - z) = if z = -9223372036854775808 then -9223372036854775808 else -z := fun {z} hz => by
  split
  ·rename_i h; subst h; decide
  ·rw [w64 (by have := hz.1; have := hz.2; omega) (by have := hz.1; have := hz.2; omega)]; omega
 rw [e hl, e hx]
 have hl1 := hl.1
 have hl2 := hl.2
 have hx1 := hx.1
 have hx2 := hx.2
 rw [Bool.eq_iff_iff]
 simp only [Bool.and_eq_true, Bool.not_eq_true', beq_iff_eq, beq_eq_false_iff_ne, ne_eq]
 split <;> split <;> omega
theorem a07 {l : Int} {t : List Int} : (l :: t).reverse[t.length]? = some l := by
 rw [List.reverse_cons, List.getElem?_append_right (by simp)]
 simp
theorem k08 (l : Int) (t : List Int) : (l :: t).reverse.take t.length = t.reverse := by
 rw [List.reverse_cons, List.take_append_of_le_length (by simp), List.take_of_length_le (by simp)]
theorem B8 (w : List Int) (hw : W7 w) (hl : w.length ≤ 1099511627776) : ∀ (d k fuel : Nat) (s : List Int), k + d = w.length → d < fuel → W7 s → s.length ≤ k →
  I1 w fuel (k : Int) s.reverse = some (B5 s (w.drop k)).reverse
 | d, k, 0, s, hk, hf, hs, hsl => by omega
 | 0, k, fuel + 1, s, hk, hf, hs, hsl => by
  rw [I1.eq_2, if_neg (by simp; omega), M3 (by omega)]
  rfl
 | d + 1, k, fuel + 1, s, hk, hf, hs, hsl => by
  have hkl : k < w.length := by omega
  have hx := Y7 hkl
  have hx64 := hw _ (List.mem_of_getElem? hx)
  generalize w[k] = x at hx hx64
  have next := B8 w hw hl d (k + 1) fuel (R6 s x) (by omega) (by omega) (h0a hs hx64) (by have := y05 s x; omega)
  rw [U2 hx]
  show _ = some (B5 (R6 s x) (w.drop (k + 1))).reverse
  rw [← next, I1.eq_2, if_pos (by simp; omega), Option.bind_some, C0 (by rw [List.length_reverse]; omega), Option.bind_some]
  rw [S6 hkl (by omega : w.length ≤ 9223372036854775807)]
  have e0 : decide (x = 0) = (x == 0) := by rw [Bool.eq_iff_iff]; simp
  cases s with
  | nil =>
   have hz : decide ((((([] : List Int).reverse).length : Nat) : Int) > 0) = false := rfl
   simp only [hz, M4, Option.bind_some, cond_false, Bool.false_eq_true, if_false, l4 hx]
   rw [C0 (by simp)]
   rfl
  | cons l t =>
   have hl64 := hs l (List.mem_cons_self ..)
   have hp : decide ((((l :: t).reverse.length : Nat) : Int) > 0) = true := by simp
   have hpr : IntKind.i64.wrap ((((l :: t).reverse.length : Nat) : Int) - 1) = ((t.length : Nat) : Int) := by
    rw [h08 (by simp) (by simp only [List.length_reverse, List.length_cons] at *; omega)]; simp
   have hc := D0c hl64 hx64
   have e1 : decide (l = IntKind.i64.wrap (0 - x)) = (l == ng x) := by rw [Bool.eq_iff_iff]; simp [ng]
   have e2 : decide (l = x) = (l == x) := by rw [Bool.eq_iff_iff]; simp
   have hpush : (grd (((l :: t).reverse.length + [x].length) * 8 ≤ 140737488355328)) = some () := C0 (by simp only [List.length_cons] at hsl; simp only [List.length_reverse, List.length_cons, List.length_nil]; omega)
   simp only [hp, hpr, w5, Option.bind_some, cond_true, l4 hx, l4 a07, e0, R6]
   cases h0 : (x == 0) with
   | true =>
    rw [h0] at hc
    simp only [Bool.not_true, Bool.false_and] at hc
    simp only [← hc, Bool.not_true, M4, cond_false, Option.bind_some, Bool.false_eq_true, if_false, hpush]
    exact congrArg _ (List.reverse_cons ..).symm
   | false =>
    rw [h0] at hc
    simp only [Bool.not_false, Bool.true_and] at hc
    simp only [Bool.not_false, w5, cond_true, Option.bind_some, e1]
    cases h1 : (l == ng x) with
    | false =>
     rw [h1] at hc
     simp only [Bool.false_and] at hc
     simp only [← hc, M4, cond_false, Option.bind_some, Bool.false_eq_true, if_false, hpush]
     exact congrArg _ (List.reverse_cons ..).symm
    | true =>
     rw [h1] at hc
     simp only [Bool.true_and] at hc
     simp only [w5, cond_true, Option.bind_some, e2]
     cases h2 : (l == x) with
     | true =>
      rw [h2] at hc
      simp only [Bool.not_true] at hc
      simp only [← hc, Bool.not_true, Bool.false_eq_true, if_false, cond_false, Option.bind_some, hpush]
      exact congrArg _ (List.reverse_cons ..).symm
     | false =>
      rw [h2] at hc
      simp only [Bool.not_false] at hc
      simp only [← hc, Bool.not_false, if_true, cond_true]
      rw [C0 (by simp only [List.length_reverse, List.length_cons] at *; omega), Option.bind_some, Int.toNat_natCast, k08]
theorem Z7 (w : List Int) (hw : W7 w) (hl : w.length ≤ 1099511627776) : j3 w = some (B5 [] w).reverse := by
 unfold j3
 have h := B8 w hw hl w.length 0 N0 [] (by omega) (I2 (by omega)) (fun x hx => by cases hx) (by simp)
 rw [show ((0 : Nat) : Int) = 0 from rfl, List.drop_zero, List.reverse_nil] at h
 rw [h, Option.bind_some, C0 (by have := L8 w []; simp only [List.length_reverse, List.length_nil] at *; omega), Option.bind_some, List.nil_append]
end Go.Proofs.Ytknoadmdnjaocaa
namespace Go.Proofs.Ytknoadmdnjaocaa
open Go.H
set_option linter.unusedVariables false
set_option linter.unusedSimpArgs false
theorem l08 {a b : List Int} (ha : W7 a) (hb : W7 b) : W7 (a ++ b) := fun x hx => by
 rcases List.mem_append.1 hx with h | h
 ·exact ha x h
 ·exact hb x h
theorem E0c {a : List Int} (ha : W7 a) : W7 a.reverse := fun x hx => ha x (List.mem_reverse.1 hx)
theorem i0g : W7 [] := fun x hx => by cases hx
theorem W0a (u v : List Int) : B5 [] ((B5 [] u).reverse ++ v) = B5 [] (u ++ v) := by
 rw [A01, j08 _ (Z06 u [] rfl), A01]
theorem X0a (w : List Int) (hw : W7 w) : W7 (B5 [] w).reverse := E0c (M0b w [] i0g hw)
theorem R9 (w : List Int) (hl : w.length ≤ 1099511627776) (n0 : Nat) (hn : n0 ≤ 1099511627776) : ∀ (d k fuel : Nat) (s : List Int), k + d = w.length → d < fuel → s.length ≤ n0 + k →
  B3 w fuel (k : Int) s.reverse = some (B5 s (w.drop k)).reverse
 | d, k, 0, s, hk, hf, hsl => by omega
 | 0, k, fuel + 1, s, hk, hf, hsl => by
  rw [B3.eq_2, if_neg (by simp; omega), M3 (by omega)]
  rfl
 | d + 1, k, fuel + 1, s, hk, hf, hsl => by
  have hkl : k < w.length := by omega
  have hx := Y7 hkl
  generalize w[k] = x at hx
  have next := R9 w hl n0 hn d (k + 1) fuel (R6 s x) (by omega) (by omega) (by have := y05 s x; omega)
  rw [U2 hx]
  show _ = some (B5 (R6 s x) (w.drop (k + 1))).reverse
  rw [← next, B3.eq_2, if_pos (by simp; omega), l4 hx, Option.bind_some, Option.bind_some, C0 (by rw [List.length_reverse]; omega), Option.bind_some, Option.bind_some, Option.bind_some]
  rw [S6 hkl (by omega : w.length ≤ 9223372036854775807)]
  cases s with
  | nil =>
   have hz : decide ((((([] : List Int).reverse).length : Nat) : Int) > 0) = false := rfl
   simp only [hz, M4, Option.bind_some, cond_false, Bool.false_eq_true, if_false]
   rw [C0 (by simp)]
   rfl
  | cons l t =>
   have hp : decide ((((l :: t).reverse.length : Nat) : Int) > 0) = true := by simp
   have hpr : IntKind.i64.wrap ((((l :: t).reverse.length : Nat) : Int) - 1) = ((t.length : Nat) : Int) := by
    rw [h08 (by simp) (by simp only [List.length_cons] at hsl; simp only [List.length_reverse, List.length_cons]; omega)]; simp
   have hpush : (grd (((l :: t).reverse.length + [x].length) * 8 ≤ 140737488355328)) = some () := C0 (by simp only [List.length_cons] at hsl; simp only [List.length_reverse, List.length_cons, List.length_nil]; omega)
   have hlen : (grd ((l :: t).reverse.length ≤ 9223372036854775807)) = some () := C0 (by rw [List.length_reverse]; omega)
   simp only [hp, hpr, w5, Option.bind_some, cond_true, l4 a07, V01, R6]
   have hcc : (!(l == 0) && !(l == -9223372036854775808) && (x == IntKind.i64.wrap (0 - l))) = x05 l x := rfl
   rw [hcc]
   cases hc : x05 l x with
   | true =>
    simp only [if_true, cond_true, hlen, Option.bind_some]
    rw [C0 (by simp only [List.length_reverse, List.length_cons]; omega), Option.bind_some, Int.toNat_natCast, k08]
   | false =>
    simp only [Bool.false_eq_true, if_false, cond_false, hpush, hlen, Option.bind_some]
    exact congrArg _ (List.reverse_cons ..).symm
def i0a : List (List Int) → Nat
 | [] => 0
 | w :: r => w.length + i0a r
def Y0a (s : List Int) : List (List Int) → List Int
 | [] => s
 | w :: r => Y0a (B5 s w) r
theorem S9 (ws : List (List Int)) (hn : ws.length ≤ 1099511627776) : ∀ (d k fuel : Nat) (s : List Int), k + d = ws.length → d < fuel → s.length + i0a (ws.drop k) ≤ 1099511627776 →
  c4 ws fuel (k : Int) s.reverse = some (Y0a s (ws.drop k)).reverse
 | d, k, 0, s, hk, hf, hsl => by omega
 | 0, k, fuel + 1, s, hk, hf, hsl => by
  rw [c4.eq_2, if_neg (by simp; omega), M3 (by omega)]
  rfl
 | d + 1, k, fuel + 1, s, hk, hf, hsl => by
  have hkl : k < ws.length := by omega
  have hx := Y7 hkl
  generalize ws[k] = w at hx
  rw [U2 hx] at hsl ⊢
  simp only [i0a] at hsl
  have hr := L8 w s
  have h0 := R9 w (by omega) s.length (by omega) w.length 0 N0 s (by omega) (I2 (by omega)) (by omega)
  rw [show ((0 : Nat) : Int) = 0 from rfl, List.drop_zero] at h0
  rw [c4.eq_2, if_pos (by simp; omega), l4 hx, Option.bind_some, h0, Option.bind_some, S6 hkl (by omega : ws.length ≤ 9223372036854775807)]
  exact S9 ws hn d (k + 1) fuel (B5 s w) (by omega) (by omega) (by omega)
theorem b01 (ws : List (List Int)) (hn : ws.length ≤ 1099511627776) (hl : i0a ws ≤ 1099511627776) : l6 ws = some (Y0a [] ws).reverse := by
 unfold l6
 have h := S9 ws hn ws.length 0 N0 [] (by omega) (I2 (by omega)) (by simpa using hl)
 rw [show ((0 : Nat) : Int) = 0 from rfl, List.drop_zero, List.reverse_nil] at h
 rw [h]
 rfl
end Go.Proofs.Ytknoadmdnjaocaa
namespace Go.Proofs.Ytknoadmdnjaocaa
open Go.H
set_option linter.unusedVariables false
set_option linter.unusedSimpArgs false
theorem T9 (a b : List Int) (ha : W7 a) (hb : W7 b) (hl : a.length + b.length ≤ 1099511627776) : Z3 a b = some (B5 [] (a ++ b)).reverse := by
 unfold Z3
 rw [C0 (by simp only [List.length_nil]; omega), Option.bind_some, C0 (by simp only [List.length_append, List.length_nil]; omega), Option.bind_some, List.nil_append,
  Z7 _ (l08 ha hb) (by simp only [List.length_append]; omega)]
 rfl
end Go.Proofs.Ytknoadmdnjaocaa
namespace Go.Proofs.Ytknoadmdnjaocaa
open Go.H
set_option linter.unusedVariables false
set_option linter.unusedSimpArgs false
theorem j0a {n : Nat} (h : n ≤ 9223372036854775807) : n < N0 := by unfold N0; omega
def Z0a (x : Int) : Prop := D0 x ∧ x ≠ -9223372036854775808
theorem I0d {α : Type} {xs : List α} {k : Nat} {x : α} (h : xs[k]? = some x) : xs.take (k + 1) = xs.take k ++ [x] := by
 obtain ⟨hk, rfl⟩ := List.getElem?_eq_some_iff.1 h
 exact List.take_succ_eq_append_getElem hk
end Go.Proofs.Ytknoadmdnjaocaa
namespace Go.Proofs.Ytknoadmdnjaocaa
open Go.H
set_option linter.unusedVariables false
set_option linter.unusedSimpArgs false
theorem J0d (a b : List Int) (hab : a.length = b.length) (hl : a.length ≤ 9223372036854775807) : ∀ (d k fuel : Nat), k + d = a.length → d < fuel →
  Q1 a b fuel (k : Int) = some (bif eqW (a.drop k) (b.drop k) then .inr () else .inl false)
 | d, k, 0, hk, hf => by omega
 | 0, k, fuel + 1, hk, hf => by
  rw [Q1.eq_2, if_neg (by simp; omega), M3 (by omega), M3 (by omega)]
  rfl
 | d + 1, k, fuel + 1, hk, hf => by
  have hx := Y7 (show k < a.length by omega)
  have hy := Y7 (show k < b.length by omega)
  have next := J0d a b hab hl d (k + 1) fuel (by omega) (by omega)
  generalize a[k] = x at hx
  generalize b[k] = y at hy
  rw [Q1.eq_2, if_pos (by simp; omega), l4 hx, Option.bind_some, l4 hy, Option.bind_some, U2 hx, U2 hy]
  unfold eqW at next ⊢
  by_cases h : x = y
  ·rw [if_neg (by simpa using h), S6 (show k < a.length by omega) hl, next]
   simp [h]
  ·rw [if_pos (by simpa using h)]
   simp [h]
theorem B01 {a b : List Int} (la : a.length ≤ 9223372036854775807) : J5 a b = some (eqW a b) := by
 unfold J5
 by_cases h : a.length = b.length
 ·rw [if_neg (by simp [h])]
  have := J0d a b h (by omega) a.length 0 N0 (by omega) (j0a la)
  rw [show ((0 : Nat) : Int) = 0 from rfl] at this
  rw [this]
  simp only [List.drop_zero, Option.bind_some]
  unfold eqW
  by_cases h2 : a = b
  ·simp [h2, r8]
  ·simp [h2, r8]
 ·rw [if_pos (by simp; omega)]
  unfold eqW
  have : ¬ a = b := fun e => h (by rw [e])
  simp [this]
theorem M8 (a b : List Int) : ∀ (fuel : Nat) (k : Int), D3 a b fuel k = Q1 a b fuel k
 | 0, k => rfl
 | fuel + 1, k => by
  rw [D3.eq_2, Q1.eq_2]
  simp only [M8 a b fuel]
theorem z05 {a b : List Int} (la : a.length ≤ 9223372036854775807) : I6 a b = some (eqW a b) := by
 rw [← B01 la]
 unfold I6 J5
 rw [M8]
end Go.Proofs.Ytknoadmdnjaocaa
namespace Go.Proofs.Ytknoadmdnjaocaa
open Go.H
set_option linter.unusedVariables false
set_option linter.unusedSimpArgs false
theorem b09 {x : Int} (h : D0 x) (h2 : x ≠ -9223372036854775808) : (if IntKind.i64.wrap (0 - x) > x then IntKind.i64.wrap (0 - x) else x) = if x < 0 then -x else x := by
 rw [Z0e h h2]
 split <;> split <;> omega
theorem K0d : (if IntKind.i64.wrap (0 - (-9223372036854775808)) > -9223372036854775808 then IntKind.i64.wrap (0 - (-9223372036854775808)) else -9223372036854775808) = -9223372036854775808 := by decide
theorem D03 {x y : Int} (hx : D0 x) (hy : D0 y) : K7 x y = some (l03 x y) := by
 have bx := hx.1; have by' := hy.1
 have cx := hx.2; have cy := hy.2
 unfold K7 l03 u00 W06
 by_cases e : x = y
 ·subst e; simp
 ·rw [if_neg (by simpa using e)]
  by_cases ex : x = -9223372036854775808
  ·subst ex
   rw [K0d]
   rw [if_pos (by simp)]
   congr 1
   repeat' split
   all_goals omega
  ·rw [b09 hx ex]
   by_cases ey : y = -9223372036854775808
   ·subst ey
    rw [K0d]
    have h1 : ¬ (if x < 0 then -x else x) < 0 := by split <;> omega
    have h2 : ¬ (if x < 0 then -x else x) = -9223372036854775808 := by split <;> omega
    simp only [h1, h2, decide_false, decide_true, cond_false]
    rw [if_neg (by simp)]
    congr 1
    repeat' split
    all_goals omega
   ·rw [b09 hy ey]
    have h1 : ¬ (if x < 0 then -x else x) < 0 := by split <;> omega
    have h2 : (if y < 0 then -y else y) ≥ 0 := by split <;> omega
    simp only [h1, h2, decide_false, decide_true, cond_false, cond_true]
    generalize hc : (if x < 0 then -x else x) = ax
    generalize hd : (if y < 0 then -y else y) = ay
    by_cases h3 : ax > ay
    ·simp only [h3, decide_true, cond_true, if_true]
     congr 1
     split at hc <;> split at hd <;> (repeat' split) <;> omega
    ·simp only [h3, decide_false, cond_false]
     by_cases h4 : ax = ay
     ·simp only [h4, decide_true, cond_true]
      by_cases h5 : x < y
      ·simp only [h5, decide_true, if_true]
       congr 1
       split at hc <;> split at hd <;> (repeat' split) <;> omega
      ·simp only [h5, decide_false, Bool.false_eq_true, if_false]
       congr 1
       split at hc <;> split at hd <;> (repeat' split) <;> omega
     ·simp only [h4, decide_false, cond_false, Bool.false_eq_true, if_false]
      congr 1
      split at hc <;> split at hd <;> (repeat' split) <;> omega
theorem c01 (x y : Int) : V3 x y = some (u00 x y) := by
 unfold V3 u00
 by_cases h : x < y
 ·simp [h]
 ·by_cases h2 : x > y
  ·simp [h, h2]
  ·simp [h, h2]
theorem A05 {x y : Int} (hx : D0 x) (hy : D0 y) : L3 x y = some (l03 x y) := by
 have bx := hx.1; have by' := hy.1
 have cx := hx.2; have cy := hy.2
 unfold L3
 by_cases e : x = y
 ·subst e; rw [if_pos (by simp), f0a.refl]
 ·rw [if_neg (by simpa using e)]
  by_cases ex : x = -9223372036854775808
  ·subst ex
   rw [if_pos (by simp)]
   unfold l03 u00 W06
   congr 1
   repeat' split
   all_goals omega
  ·rw [if_neg (by simpa using ex)]
   by_cases ey : y = -9223372036854775808
   ·subst ey
    rw [if_pos (by simp)]
    unfold l03 u00 W06
    congr 1
    repeat' split
    all_goals omega
   ·rw [if_neg (by simpa using ey), b09 hx ex, b09 hy ey, c01, Option.bind_some, C0 (J04 _ _), Option.bind_some]
    by_cases h : u00 (if x < 0 then -x else x) (if y < 0 then -y else y) = 0
    ·rw [if_neg (by simpa using h), c01, Option.bind_some, C0 (J04 _ _), Option.bind_some]
     have h := K02.eq _ _ h
     unfold l03 u00 W06
     congr 1
     split at h <;> split at h <;> (repeat' split) <;> omega
    ·rw [if_pos (by simpa using h)]
     unfold l03 u00 W06
     unfold u00 at h
     congr 1
     (repeat' split) <;> omega
def X01 (w : List Int) : Prop := ∀ (k : Nat) (x : Int), w[k]? = some x → D0 x
theorem N0b (a b : List Int) (hab : a.length = b.length) (ha : X01 a) (hb : X01 b) (hl : a.length ≤ 9223372036854775807) : ∀ (d k fuel : Nat), k + d = a.length → d < fuel →
  S0 a b fuel (k : Int) = some (bif decide (w01 l03 (a.drop k) (b.drop k) = 0) then .inr () else .inl (w01 l03 (a.drop k) (b.drop k)))
 | d, k, 0, hk, hf => by omega
 | 0, k, fuel + 1, hk, hf => by
  rw [S0.eq_2, if_neg (by simp; omega), M3 (by omega), M3 (by omega)]
  rfl
 | d + 1, k, fuel + 1, hk, hf => by
  have hx := Y7 (show k < a.length by omega)
  have hy := Y7 (show k < b.length by omega)
  have next := N0b a b hab ha hb hl d (k + 1) fuel (by omega) (by omega)
  generalize a[k] = x at hx
  generalize b[k] = y at hy
  have h64 : D0 (l03 x y) := L0b _ _
  rw [S0.eq_2, if_pos (by simp; omega), l4 hx, Option.bind_some, l4 hy, Option.bind_some, D03 (ha _ _ hx) (hb _ _ hy), Option.bind_some, C0 h64, Option.bind_some,
   U2 hx, U2 hy]
  simp only [w01, thenC]
  by_cases h : l03 x y = 0
  ·rw [if_neg (by simpa using h), S6 (show k < a.length by omega) hl, next]
   simp [h]
  ·rw [if_pos (by simpa using h)]
   simp [h]
theorem x00 {a b : List Int} (ha : X01 a) (hb : X01 b) (la : a.length ≤ 9223372036854775807) : L4 a b = some (S1 a b) := by
 unfold L4 S1
 by_cases h : a.length = b.length
 ·rw [if_neg (by simp [h])]
  have := N0b a b h ha hb (by omega) a.length 0 N0 (by omega) (j0a la)
  rw [show ((0 : Nat) : Int) = 0 from rfl] at this
  rw [this]
  simp only [List.drop_zero, Option.bind_some]
  have e : u00 (a.length : Int) (b.length : Int) = 0 := by rw [h]; exact K02.refl _
  rw [e]
  by_cases h2 : w01 l03 a b = 0
  ·simp [h2, thenC, r8]
  ·simp [h2, thenC, r8]
 ·rw [if_pos (by simp; omega)]
  by_cases h2 : a.length < b.length
  ·rw [if_pos (by simp; omega)]
   have e : u00 (a.length : Int) (b.length : Int) = -1 := by unfold u00; rw [if_pos (by omega)]
   rw [e]; rfl
  ·rw [if_neg (by simp; omega)]
   have e : u00 (a.length : Int) (b.length : Int) = 1 := by unfold u00; rw [if_neg (by omega), if_pos (by omega)]
   rw [e]; rfl
theorem k0a (a b : List Int) (hab : a.length = b.length) (ha : X01 a) (hb : X01 b) (hl : a.length ≤ 9223372036854775807) : ∀ (d k fuel : Nat), k + d = a.length →
  O1 a b fuel (k : Int) = S0 a b fuel (k : Int)
 | d, k, 0, hk => rfl
 | 0, k, fuel + 1, hk => by
  rw [S0.eq_2, O1.eq_2, if_neg (by simp; omega), if_neg (by simp; omega)]
 | d + 1, k, fuel + 1, hk => by
  have hx := Y7 (show k < a.length by omega)
  have hy := Y7 (show k < b.length by omega)
  have next := k0a a b hab ha hb hl d (k + 1) fuel (by omega)
  generalize a[k] = x at hx
  generalize b[k] = y at hy
  rw [S0.eq_2, O1.eq_2, l4 hx, Option.bind_some, l4 hy, Option.bind_some, Option.bind_some, Option.bind_some, D03 (ha _ _ hx) (hb _ _ hy), A05 (ha _ _ hx) (hb _ _ hy), S6 (show k < a.length by omega) hl, next]
theorem V03 {a b : List Int} (ha : X01 a) (hb : X01 b) (la : a.length ≤ 9223372036854775807) : P5 a b = some (S1 a b) := by
 have hs := x00 ha hb la
 unfold P5
 rw [c01, Option.bind_some, C0 (J04 _ _), Option.bind_some]
 unfold S1
 by_cases h : u00 (a.length : Int) (b.length : Int) = 0
 ·have h1 : a.length = b.length := by have := K02.eq _ _ h; omega
  rw [if_neg (by simpa using h), show O1 a b N0 0 = S0 a b N0 0 from k0a a b h1 ha hb (by omega) a.length 0 N0 (by omega)]
  unfold L4 at hs
  rw [if_neg (by simp [h1])] at hs
  exact hs
 ·rw [if_pos (by simpa using h)]
  unfold thenC
  rw [if_pos h]
theorem Y01 {a : List Int} (la : a.length ≤ 1099511627776) : S4 a = some a := by
 unfold S4
 rw [C0 (by simp; omega)]
 rfl
end Go.Proofs.Ytknoadmdnjaocaa
namespace Go.Proofs.Ytknoadmdnjaocaa
open Go.H
set_option linter.unusedVariables false
set_option linter.unusedSimpArgs false
def T6 (w : List Int) (k : Nat) : List Int := w.drop k ++ w.take k
theorem Z6 (w : List Int) {k : Nat} (h : k ≤ w.length) : (T6 w k).length = w.length := by simp [T6]; omega
theorem C01 (w : List Int) {i k : Nat} (hi : i < w.length) (hk : k < w.length) : (T6 w k)[i]? = w[(i + k) % w.length]? := by
 unfold T6
 by_cases h : i < w.length - k
 ·rw [List.getElem?_append_left (by simpa using h), List.getElem?_drop, Nat.mod_eq_of_lt (by omega), Nat.add_comm]
 ·rw [List.getElem?_append_right (by simp; omega), List.getElem?_take, List.length_drop, if_pos (by omega), Nat.mod_eq_sub_mod (by omega), Nat.mod_eq_of_lt (by omega)]
  congr 1
  omega
theorem tmN (a b : Nat) : Int.tmod (a : Int) (b : Int) = ((a % b : Nat) : Int) := (Int.ofNat_tmod a b).symm
theorem F0c {α : Type} {xs : List α} {k : Nat} (h : k ≤ xs.length) : B00 xs (k : Int) (xs.length : Int) = some (xs.drop k) := by
 unfold B00
 rw [if_pos ⟨by omega, by omega, by omega⟩]
 simp
theorem K04 {α : Type} {xs : List α} {k : Nat} (h : k ≤ xs.length) : B00 xs 0 (k : Int) = some (xs.take k) := by
 unfold B00
 rw [if_pos ⟨by omega, by omega, by omega⟩]
 simp
theorem l9 (w : List Int) {k : Nat} (hk : k < w.length) (hl : w.length ≤ 1048576) : I3 w (k : Int) = some (T6 w k) := by
 unfold I3
 have h1 : Int.tmod (IntKind.i64.wrap (Int.tmod (k : Int) (w.length : Int) + (w.length : Int))) (w.length : Int) = (k : Int) := by
  rw [tmN, Nat.mod_eq_of_lt hk, w64 (by omega) (by omega), show (k : Int) + (w.length : Int) = ((k + w.length : Nat) : Int) by omega, tmN, Nat.add_mod_right, Nat.mod_eq_of_lt hk]
 rw [if_neg (by simp; intro e; subst e; simp at hk), C0 (by omega), Option.bind_some, Option.bind_some, h1]
 simp only [K04 (show k ≤ w.length by omega), F0c (show k ≤ w.length by omega), Option.bind_some, Y01 (show (w.drop k).length ≤ 1099511627776 by rw [List.length_drop]; omega)]
 rw [C0 (by simp; omega)]
 rfl
theorem K9 (w : List Int) {k : Nat} (hk : k < w.length) (hl : w.length ≤ 1048576) : ∀ (d i fuel : Nat) (acc : List Int), i + d = w.length → d < fuel → acc.length = i →
  Y0 w (k : Int) fuel (i : Int) acc = some (acc ++ (T6 w k).drop i)
 | d, i, 0, acc, hd, hf, ha => by omega
 | 0, i, fuel + 1, acc, hd, hf, ha => by
  rw [Y0.eq_2, if_neg (by simp; omega), M3 (by rw [Z6 w (by omega)]; omega), List.append_nil]
 | d + 1, i, fuel + 1, acc, hd, hf, ha => by
  have hi : i < w.length := by omega
  have hm : (i + k) % w.length < w.length := Nat.mod_lt _ (by omega)
  have hx : w[(i + k) % w.length]? = some w[(i + k) % w.length] := List.getElem?_eq_getElem hm
  have hr : (T6 w k)[i]? = some w[(i + k) % w.length] := by rw [C01 w hi hk, hx]
  generalize w[(i + k) % w.length] = x at hx hr
  have e : Int.tmod (IntKind.i64.wrap (Int.tmod (IntKind.i64.wrap ((i : Int) + Int.tmod (k : Int) (w.length : Int))) (w.length : Int) + (w.length : Int))) (w.length : Int) = (((i + k) % w.length : Nat) : Int) := by
   have e1 : IntKind.i64.wrap ((i : Int) + (k : Int)) = ((i + k : Nat) : Int) := by rw [w64 (by omega) (by omega)]; omega
   have e2 : IntKind.i64.wrap ((((i + k) % w.length : Nat) : Int) + (w.length : Int)) = (((i + k) % w.length + w.length : Nat) : Int) := by rw [w64 (by omega) (by omega)]; omega
   rw [tmN, Nat.mod_eq_of_lt hk, e1, tmN, e2, tmN, Nat.add_mod_right, Nat.mod_mod]
  rw [Y0.eq_2, if_pos (by simp; omega), C0 (by omega), Option.bind_some, Option.bind_some, Option.bind_some, e, l4 hx, Option.bind_some, C0 (by simp; omega), Option.bind_some, S6 hi (by omega),
   K9 w hk hl d (i + 1) fuel _ (by omega) (by omega) (by simp; omega), U2 hr]
  simp
theorem n9 (w : List Int) {k : Nat} (hk : k < w.length) (hl : w.length ≤ 1048576) : G3 w (k : Int) = some (T6 w k) := by
 unfold G3
 have h := K9 w hk hl w.length 0 N0 [] (by omega) (I2 (by omega)) rfl
 rw [show ((0 : Nat) : Int) = 0 from rfl] at h
 rw [h]
 rfl
theorem O0b (a b : List Int) : D0 (S1 a b) := by
 have h1 := J04 (a.length : Int) (b.length : Int)
 have h2 : ∀ x y : List Int, D0 (w01 l03 x y) := fun x => by
  induction x with
  | nil => intro y; cases y <;> (simp only [w01]; decide)
  | cons p x ih =>
   intro y
   cases y with
   | nil => simp only [w01]; decide
   | cons q y =>
    simp only [w01, thenC]
    split
    ·exact L0b _ _
    ·exact ih y
 unfold S1 thenC
 split
 ·exact h1
 ·exact h2 _ _
end Go.Proofs.Ytknoadmdnjaocaa
namespace Go.Proofs.Ytknoadmdnjaocaa
open Go.H
set_option linter.unusedVariables false
set_option linter.unusedSimpArgs false
def sm (r : Int) (w : List Int) : Prop := ∀ x ∈ w, x ≠ 0 ∧ -r ≤ x ∧ x ≤ r
theorem l0a {r : Int} (hr : r ≤ 3) {w : List Int} (h : sm r w) : W7 w := fun x hx => by have := h x hx; exact ⟨by omega, by omega⟩
theorem m08 {x : Int} (h1 : -3 ≤ x) (h2 : x ≤ 3) : ng x = -x := by unfold ng; rw [w64 (by omega) (by omega)]; omega
theorem P0b {r : Int} (hr : r ≤ 3) {l x : Int} (h0 : l ≠ 0) (h1 : -r ≤ l) (h2 : l ≤ r) : x05 l x = decide (x = -l) := by
 unfold x05
 rw [m08 (by omega) (by omega), show (l == 0) = false by simpa using h0, show (l == -9223372036854775808) = false by simp; omega]
 by_cases c : x = -l
 ·simp [c]
 ·simp [c]
theorem L0d {r : Int} {s : List Int} {x : Int} (hs : sm r s) (hx : x ≠ 0 ∧ -r ≤ x ∧ x ≤ r) : sm r (R6 s x) := by
 unfold R6
 cases s with
 | nil => intro y hy; simp at hy; rw [hy]; exact hx
 | cons l t =>
  simp only
  cases x05 l x with
  | true => exact fun y hy => hs y (List.mem_cons_of_mem _ hy)
  | false =>
   intro y hy
   rcases List.mem_cons.1 hy with rfl | hy
   ·exact hx
   ·exact hs y hy
theorem Z01 {r : Int} : ∀ (w s : List Int), sm r s → sm r w → sm r (B5 s w)
 | [], s, hs, _ => hs
 | x :: w, s, hs, hw => Z01 w (R6 s x) (L0d hs (hw x (List.mem_cons_self ..))) fun y hy => hw y (List.mem_cons_of_mem _ hy)
def rd (l : List Int) : Prop := ∀ A x y B, l = A ++ x :: y :: B → y ≠ -x
theorem E0f {P m Q : List Int} (h : rd (P ++ (m ++ Q))) : rd m := fun A x y B e => h (P ++ A) x y (B ++ Q) (by rw [e]; simp)
theorem F0f {l : List Int} (h : rd l) : rd l.reverse := fun A x y B e => by
 have := h B.reverse y x A.reverse (by
  have := congrArg List.reverse e
  rw [List.reverse_reverse] at this
  rw [this]; simp)
 omega
theorem M0d {r : Int} (hr : r ≤ 3) : ∀ {l : List Int}, sm r l → Red l = true → rd l
 | [], _, _, A, x, y, B, e => by cases A <;> cases e
 | [a], _, _, A, x, y, B, e => by
  cases A with
  | nil => cases e
  | cons b A => cases A <;> cases e
 | a :: b :: t, hs, h, A, x, y, B, e => by
  cases A with
  | nil =>
   simp only [List.nil_append, List.cons.injEq] at e
   obtain ⟨rfl, rfl, rfl⟩ := e
   have hb := hs b (by simp)
   have hh := h
   simp only [Red, Bool.and_eq_true] at hh
   have hc := hh.1
   rw [P0b hr hb.1 hb.2.1 hb.2.2] at hc
   simp only [Bool.not_eq_true', decide_eq_false_iff_not] at hc
   omega
  | cons c A =>
   simp only [List.cons_append, List.cons.injEq] at e
   exact M0d hr (fun x hx => hs x (List.mem_cons_of_mem _ hx)) (Y06 h) A x y B e.2
theorem j0g {l : List Int} (h : rd l) {i : Nat} {x y : Int} (hx : l[i]? = some x) (hy : l[i + 1]? = some y) : y ≠ -x := by
 refine h (l.take i) x y (l.drop (i + 2)) ?_
 rw [← U2 hy, ← U2 hx, List.take_append_drop]
theorem G0e {r : Int} (hr : r ≤ 3) {w : List Int} (hs : sm r w) (h : ∀ i x y, w[i]? = some x → w[i + 1]? = some y → y ≠ -x) : (B5 [] w).reverse = w := by
 have : ∀ k, k ≤ w.length → B5 [] (w.take k) = (w.take k).reverse := by
  intro k
  induction k with
  | zero => intro _; rfl
  | succ k ih =>
   intro hk
   have ih := ih (by omega)
   have hx := Y7 (show k < w.length by omega)
   generalize w[k] = x at hx
   rw [I0d hx, A01, ih, List.reverse_append]
   show R6 (w.take k).reverse x = x :: (w.take k).reverse
   cases k with
   | zero => rfl
   | succ j =>
    have hy := Y7 (show j < w.length by omega)
    generalize w[j] = y at hy
    have hym := hs y (List.mem_of_getElem? hy)
    rw [I0d hy, List.reverse_append]
    show R6 (y :: (w.take j).reverse) x = _
    have hc : x05 y x = false := by
     rw [P0b hr hym.1 hym.2.1 hym.2.2]
     exact decide_eq_false (h j y x hy hx)
    simp only [R6, hc, cond_false]
    rfl
 have := this w.length (Nat.le_refl _)
 rw [List.take_length] at this
 rw [this, List.reverse_reverse]
def ccA : Nat → List Int → List Int × List Int
 | 0, l => (l, [])
 | n + 1, l => if 2 ≤ l.length ∧ l.headD 0 = -(l.getLastD 0) then ((ccA n l.tail.dropLast).1, l.headD 0 :: (ccA n l.tail.dropLast).2) else (l, [])
theorem N0d {l : List Int} (h : 2 ≤ l.length) : ∃ a m b, l = a :: (m ++ [b]) ∧ l.headD 0 = a ∧ l.getLastD 0 = b ∧ l.tail.dropLast = m := by
 cases l with
 | nil => simp at h
 | cons a r =>
  have hr : r ≠ [] := fun e => by rw [e] at h; simp at h
  refine ⟨a, r.dropLast, r.getLast hr, by rw [List.dropLast_concat_getLast], rfl, ?_, rfl⟩
  cases r with
  | nil => exact absurd rfl hr
  | cons b t => simp [List.getLastD, List.getLast]
theorem g03 : ∀ (n : Nat) (l : List Int), ∃ q, l = (ccA n l).2 ++ ((ccA n l).1 ++ q)
 | 0, l => ⟨[], by simp [ccA]⟩
 | n + 1, l => by
  unfold ccA
  split
  ·rename_i c
   obtain ⟨a, m, b, e, e1, e2, e3⟩ := N0d c.1
   obtain ⟨q, hq⟩ := g03 n l.tail.dropLast
   refine ⟨q ++ [b], ?_⟩
   rw [e3] at hq ⊢
   rw [e1]
   conv => lhs; rw [e, hq]
   simp
  ·exact ⟨[], by simp⟩
theorem Q0b : ∀ (n : Nat) (l : List Int), l.length ≤ n → ¬ (2 ≤ (ccA n l).1.length ∧ (ccA n l).1.headD 0 = -((ccA n l).1.getLastD 0))
 | 0, l, h, c => by simp only [ccA] at c; omega
 | n + 1, l, h, c => by
  unfold ccA at c
  split at c
  ·rename_i c2
   obtain ⟨a, m, b, e, e1, e2, e3⟩ := N0d c2.1
   refine Q0b n l.tail.dropLast ?_ c
   rw [e3]
   rw [e] at h
   simp at h
   omega
  ·rename_i c2; exact c2 c
theorem L04 {n : Nat} {l : List Int} (h : ¬ (2 ≤ l.length ∧ l.headD 0 = -(l.getLastD 0))) : ccA n l = (l, []) := by
 cases n with
 | zero => rfl
 | succ n => unfold ccA; rw [if_neg h]
theorem R0b (n : Nat) (l : List Int) : (ccA n l).1.length ≤ l.length ∧ (ccA n l).2.length ≤ l.length := by
 obtain ⟨q, e⟩ := g03 n l
 have := congrArg List.length e
 simp only [List.length_append] at this
 omega
theorem H0e {r : Int} {n : Nat} {l : List Int} (h : sm r l) : sm r (ccA n l).1 ∧ sm r (ccA n l).2 := by
 obtain ⟨q, e⟩ := g03 n l
 exact ⟨fun x hx => h x (by rw [e]; simp [hx]), fun x hx => h x (by rw [e]; simp [hx])⟩
theorem b07 {α : Type} {xs : List α} {i j : Nat} (h1 : i ≤ j) (h2 : j ≤ xs.length) : B00 xs (i : Int) (j : Int) = some ((xs.take j).drop i) := by
 unfold B00
 rw [if_pos ⟨by omega, by omega, by omega⟩]
 simp
theorem a0f {r : Int} (hr : r ≤ 3) : ∀ (n fuel : Nat) (x p : List Int), x.length ≤ n → n < fuel → sm r x → x.length + p.length ≤ 1000000 →
  E3 fuel x p = some ((ccA n x).1, p ++ (ccA n x).2)
 | n, 0, x, p, hn, hf, hs, hl => by omega
 | n, fuel + 1, x, p, hn, hf, hs, hl => by
  rw [E3.eq_2]
  by_cases c : 2 ≤ x.length
  ·obtain ⟨a, m, b, e, e1, e2, e3⟩ := N0d c
   have ha := hs a (by rw [e]; simp)
   have hb := hs b (by rw [e]; simp)
   have hxl : x.length = m.length + 2 := by rw [e]; simp
   have g0 : gi x 0 = some a := by rw [e]; exact l4 (k := 0) rfl
   have g1 : gi x (IntKind.i64.wrap (((x.length : Nat) : Int) - 1)) = some b := by
    rw [w64 (by omega) (by omega), show ((x.length : Nat) : Int) - 1 = ((m.length + 1 : Nat) : Int) by omega]
    refine l4 ?_
    rw [e]; simp
   rw [show decide (((x.length : Nat) : Int) > 1) = true from decide_eq_true (by omega)]
   simp only [w5, g0, g1, Option.bind_some, cond_true]
   rw [show IntKind.i64.wrap (0 - b) = -b from m08 (by omega) (by omega)]
   obtain ⟨n, rfl⟩ : ∃ n', n = n' + 1 := ⟨n - 1, by omega⟩
   by_cases c2 : a = -b
   ·have hu : ccA (n + 1) x = ((ccA n m).1, a :: (ccA n m).2) := by
     show (if 2 ≤ x.length ∧ x.headD 0 = -(x.getLastD 0) then ((ccA n x.tail.dropLast).1, x.headD 0 :: (ccA n x.tail.dropLast).2) else (x, [])) = _
     rw [if_pos ⟨c, by rw [e1, e2]; exact c2⟩, e1, e3]
    have hcut : B00 x 1 (IntKind.i64.wrap (((x.length : Nat) : Int) - 1)) = some m := by
     rw [w64 (by omega) (by omega), show ((x.length : Nat) : Int) - 1 = ((m.length + 1 : Nat) : Int) by omega]
     have := b07 (xs := x) (i := 1) (j := m.length + 1) (by omega) (by omega)
     rw [show ((1 : Nat) : Int) = 1 from rfl] at this
     rw [this, e]
     simp
    rw [decide_eq_true c2]
    simp only [w5, g0, Option.bind_some, cond_true]
    rw [show IntKind.i64.wrap (0 - a) = -a from m08 (by omega) (by omega), show decide (a = -a) = false from decide_eq_false (by omega), if_pos (show (!false) = true from rfl), C0 (by simp; omega), Option.bind_some, hcut, Option.bind_some,
     a0f hr n fuel m (p ++ [a]) (by omega) (by omega) (fun y hy => hs y (by rw [e]; simp [hy])) (by simp; omega), hu]
    simp
   ·rw [decide_eq_false c2]
    simp only [M4, Option.bind_some, cond_false, Bool.false_eq_true, if_false]
    rw [L04 fun h => c2 (by rw [← e1, ← e2]; exact h.2)]; simp
  ·rw [show decide (((x.length : Nat) : Int) > 1) = false from decide_eq_false (by omega)]
   simp only [M4, Option.bind_some, cond_false, Bool.false_eq_true, if_false]
   rw [L04 fun h => c h.1]; simp
def j4 (w : List Int) : List Int × List Int := ccA (B5 [] w).length (B5 [] w).reverse
theorem c07 {r : Int} (hr : r ≤ 3) {w : List Int} (hs : sm r w) (hl : w.length ≤ 300000) : H4 w = some (j4 w) := by
 have h1 := Z7 w (l0a hr hs) (by omega)
 have hlr := L8 w []
 simp only [List.length_nil] at hlr
 have hsr : sm r (B5 [] w).reverse := fun x hx => Z01 w [] (fun y hy => by cases hy) hs x (List.mem_reverse.1 hx)
 have h2 := a0f hr (B5 [] w).length N0 (B5 [] w).reverse [] (by simp) (I2 (by omega)) hsr (by simp; omega)
 have h3 := R0b (B5 [] w).length (B5 [] w).reverse
 rw [List.length_reverse] at h3
 unfold H4 j4
 rw [h1, Option.bind_some, h2, Option.bind_some]
 simp only [List.nil_append]
 rw [C0 (by simp; omega), Option.bind_some]
theorem x07 {c : List Int} {k : Nat} (h : 2 * k + 2 ≤ c.length) {a b : Int} (ha : c[k]? = some a) (hb : c[c.length - k - 1]? = some b) :
  (c.take (c.length - k)).drop k = a :: ((c.take (c.length - (k + 1))).drop (k + 1) ++ [b]) := by
 have e1 : c.take (c.length - k) = c.take (c.length - (k + 1)) ++ [b] := by
  rw [show c.length - k = (c.length - k - 1) + 1 by omega, I0d hb, show c.length - k - 1 = c.length - (k + 1) by omega]
 rw [e1, List.drop_append_of_le_length (by rw [List.length_take]; omega)]
 have e2 : (c.take (c.length - (k + 1))).drop k = a :: (c.take (c.length - (k + 1))).drop (k + 1) := U2 (by rw [List.getElem?_take, if_pos (by omega)]; exact ha)
 rw [e2]; rfl
theorem b0f {r : Int} (hr : r ≤ 3) (c : List Int) (hs : sm r c) (hl : c.length ≤ 1000000) : ∀ (n k fuel : Nat), c.length ≤ 2 * k + n → 2 * k ≤ c.length → n < fuel →
  ∃ k', 2 * k' ≤ c.length ∧ k ≤ k' ∧ O2 c fuel (k : Int) ((c.length - k : Nat) : Int) = some ((k' : Int), ((c.length - k' : Nat) : Int)) ∧ ccA n ((c.take (c.length - k)).drop k) = ((c.take (c.length - k')).drop k', (c.take k').drop k)
 | n, k, 0, hn, hk, hf => by omega
 | n, k, fuel + 1, hn, hk, hf => by
  have stop : ∀ (h : ¬ (2 ≤ ((c.take (c.length - k)).drop k).length ∧ ((c.take (c.length - k)).drop k).headD 0 = -(((c.take (c.length - k)).drop k).getLastD 0))), ccA n ((c.take (c.length - k)).drop k) = ((c.take (c.length - k)).drop k, (c.take k).drop k) := fun h => by
   rw [L04 h, List.drop_eq_nil_of_le (show (c.take k).length ≤ k by rw [List.length_take]; omega)]
  have hw : IntKind.i64.wrap (((c.length - k : Nat) : Int) - (k : Int)) = ((c.length - 2 * k : Nat) : Int) := by rw [w64 (by omega) (by omega)]; omega
  by_cases h2 : 2 * k + 2 ≤ c.length
  ·have ha := Y7 (show k < c.length by omega)
   have hb := Y7 (show c.length - k - 1 < c.length by omega)
   generalize c[k] = a at ha
   generalize c[c.length - k - 1] = b at hb
   have ham := hs a (List.mem_of_getElem? ha)
   have hbm := hs b (List.mem_of_getElem? hb)
   have he := x07 h2 ha hb
   have hge : ((c.take (c.length - k)).drop k).headD 0 = a ∧ ((c.take (c.length - k)).drop k).getLastD 0 = b ∧ ((c.take (c.length - k)).drop k).tail.dropLast = (c.take (c.length - (k + 1))).drop (k + 1) ∧ 2 ≤ ((c.take (c.length - k)).drop k).length := by
    rw [he]
    refine ⟨rfl, ?_, ?_, by simp⟩
    ·rw [← List.cons_append, List.getLastD_concat]
    ·simp
   have g1 : gi c (IntKind.i64.wrap (((c.length - k : Nat) : Int) - 1)) = some b := by
    rw [w64 (by omega) (by omega), show ((c.length - k : Nat) : Int) - 1 = ((c.length - k - 1 : Nat) : Int) by omega]; exact l4 hb
   rw [O2.eq_2, hw, show decide (((c.length - 2 * k : Nat) : Int) ≥ 2) = true from decide_eq_true (by omega)]
   simp only [w5, l4 ha, g1, Option.bind_some, V01, cond_true]
   rw [show IntKind.i64.wrap (0 - a) = -a from m08 (by omega) (by omega), show (a == 0) = false by simpa using ham.1, show (a == -9223372036854775808) = false by simp; omega]
   by_cases c2 : b = -a
   ·obtain ⟨n, rfl⟩ : ∃ n', n = n' + 1 := ⟨n - 1, by omega⟩
    obtain ⟨k', q1, q2, q3, q4⟩ := b0f hr c hs hl n (k + 1) fuel (by omega) (by omega) (by omega)
    refine ⟨k', q1, by omega, ?_, ?_⟩
    ·rw [show (b == -a) = true by simpa using c2]
     simp only [Bool.not_false, Bool.and_self, if_true]
     rw [w64 (x := (k : Int) + 1) (by omega) (by omega), w64 (by omega) (by omega), show (k : Int) + 1 = ((k + 1 : Nat) : Int) by omega, show ((c.length - k : Nat) : Int) - 1 = ((c.length - (k + 1) : Nat) : Int) by omega]
     exact q3
    ·show (if 2 ≤ ((c.take (c.length - k)).drop k).length ∧ ((c.take (c.length - k)).drop k).headD 0 = -(((c.take (c.length - k)).drop k).getLastD 0) then ((ccA n ((c.take (c.length - k)).drop k).tail.dropLast).1, ((c.take (c.length - k)).drop k).headD 0 :: (ccA n ((c.take (c.length - k)).drop k).tail.dropLast).2) else ((c.take (c.length - k)).drop k, [])) = _
     rw [if_pos ⟨hge.2.2.2, by rw [hge.1, hge.2.1]; omega⟩, hge.1, hge.2.2.1, q4]
     simp only
     rw [show (c.take k').drop k = a :: (c.take k').drop (k + 1) from U2 (by rw [List.getElem?_take, if_pos (by omega)]; exact ha)]
   ·refine ⟨k, hk, Nat.le_refl _, ?_, stop fun h => c2 (by have := h.2; rw [hge.1, hge.2.1] at this; omega)⟩
    rw [show (b == -a) = false by simpa using c2]
    simp only [Bool.and_false, Bool.false_eq_true, if_false]
  ·refine ⟨k, hk, Nat.le_refl _, ?_, stop fun h => by have := h.1; rw [List.length_drop, List.length_take] at this; omega⟩
   rw [O2.eq_2, hw, show decide (((c.length - 2 * k : Nat) : Int) ≥ 2) = false from decide_eq_false (by omega)]
   simp only [M4, Option.bind_some, cond_false, Bool.false_eq_true, if_false]
theorem y07 (w : List Int) (hl : w.length ≤ 1099511627776) : s5 w = some (B5 [] w).reverse := by
 unfold s5
 rw [b01 [w] (by simp) (by simp only [i0a]; omega)]
 rfl
theorem M04 {r : Int} (hr : r ≤ 3) {w : List Int} (hs : sm r w) (hl : w.length ≤ 300000) : J3 w = some (j4 w) := by
 have h1 := y07 w (by omega)
 have hlr := L8 w []
 simp only [List.length_nil] at hlr
 have hsr : sm r (B5 [] w).reverse := fun x hx => Z01 w [] (fun y hy => by cases hy) hs x (List.mem_reverse.1 hx)
 unfold J3 j4
 rw [h1, Option.bind_some]
 have hcl : (B5 [] w).length = (B5 [] w).reverse.length := by simp
 rw [hcl]
 generalize (B5 [] w).reverse = c at *
 obtain ⟨k', q1, q2, q3, q4⟩ := b0f hr c hsr (by omega) c.length 0 N0 (by omega) (by omega) (I2 (by omega))
 rw [show ((0 : Nat) : Int) = 0 from rfl, Nat.sub_zero] at q3
 rw [List.drop_zero, Nat.sub_zero, List.take_length, List.drop_zero] at q4
 rw [q3, Option.bind_some, q4]
 simp only
 rw [b07 (by omega) (by omega), Option.bind_some, Y01 (by rw [List.length_drop, List.length_take]; omega), Option.bind_some]
 have h0 := b07 (xs := c) (i := 0) (j := k') (by omega) (by omega)
 rw [show ((0 : Nat) : Int) = 0 from rfl, List.drop_zero] at h0
 rw [h0, Option.bind_some, Y01 (by rw [List.length_take]; omega), Option.bind_some]
def lrA (w : List Int) : Nat → Nat → List Int → Int → List Int × Int
 | 0, k, b, at_ => (b, at_)
 | d + 1, k, b, at_ => if S1 (T6 w k) b < 0 then lrA w d (k + 1) (T6 w k) (k : Int) else lrA w d (k + 1) b at_
def d01 (w : List Int) : List Int × Int := lrA w (w.length - 1) 1 w 0
theorem d07 {r : Int} {w : List Int} (h : sm r w) (k : Nat) : sm r (T6 w k) := fun x hx => by
 unfold T6 at hx
 rcases List.mem_append.1 hx with hx | hx
 ·exact h x (List.mem_of_mem_drop hx)
 ·exact h x (List.mem_of_mem_take hx)
theorem c09 {r : Int} (hr : r ≤ 3) {w : List Int} (h : sm r w) : X01 w := fun k x hx => l0a hr h x (List.mem_of_getElem? hx)
theorem O0d {r : Int} (hr : r ≤ 3) {w : List Int} (hs : sm r w) (hl : w.length ≤ 300000) : ∀ (d k fuel : Nat) (b : List Int) (a : Int), w.length ≤ k + d → (d = 0 ∨ k + d = w.length) → d < fuel → sm r b → b.length = w.length →
  J1 w fuel b a (k : Int) = some (lrA w d k b a)
 | d, k, 0, b, a, h1, h2, hf, hb, hbl => by omega
 | 0, k, fuel + 1, b, a, h1, h2, hf, hb, hbl => by
  rw [J1.eq_2, if_neg (by simp only [decide_eq_true_eq]; omega)]; rfl
 | d + 1, k, fuel + 1, b, a, h1, h2, hf, hb, hbl => by
  have hk : k < w.length := by omega
  have hc := x00 (a := T6 w k) (b := b) (c09 hr (d07 hs k)) (c09 hr hb) (by rw [Z6 w (by omega)]; omega)
  rw [J1.eq_2, if_pos (by simp only [decide_eq_true_eq]; omega), n9 w hk (by omega), Option.bind_some, hc, Option.bind_some, C0 (O0b _ _), Option.bind_some, S6 hk (by omega), lrA]
  by_cases c : S1 (T6 w k) b < 0
  ·rw [if_pos (by simpa using c), if_pos c, O0d hr hs hl d (k + 1) fuel _ _ (by omega) (by omega) (by omega) (d07 hs k) (Z6 w (by omega))]
  ·rw [if_neg (by simpa using c), if_neg c, O0d hr hs hl d (k + 1) fuel _ _ (by omega) (by omega) (by omega) hb hbl]
theorem P0d {r : Int} (hr : r ≤ 3) {w : List Int} (hs : sm r w) (hl : w.length ≤ 300000) : ∀ (d k fuel : Nat) (b : List Int) (a : Int), w.length ≤ k + d → (d = 0 ∨ k + d = w.length) → d < fuel → sm r b → b.length = w.length →
  K1 w fuel b a (k : Int) = some (lrA w d k b a)
 | d, k, 0, b, a, h1, h2, hf, hb, hbl => by omega
 | 0, k, fuel + 1, b, a, h1, h2, hf, hb, hbl => by
  rw [K1.eq_2, if_neg (by simp only [decide_eq_true_eq]; omega)]; rfl
 | d + 1, k, fuel + 1, b, a, h1, h2, hf, hb, hbl => by
  have hk : k < w.length := by omega
  have hc := V03 (a := T6 w k) (b := b) (c09 hr (d07 hs k)) (c09 hr hb) (by rw [Z6 w (by omega)]; omega)
  rw [K1.eq_2, if_pos (by simp only [decide_eq_true_eq]; omega), l9 w hk (by omega), Option.bind_some, hc, Option.bind_some, C0 (O0b _ _), Option.bind_some, S6 hk (by omega), lrA]
  by_cases c : S1 (T6 w k) b < 0
  ·rw [if_pos (by simpa using c), if_pos c, P0d hr hs hl d (k + 1) fuel _ _ (by omega) (by omega) (by omega) (d07 hs k) (Z6 w (by omega))]
  ·rw [if_neg (by simpa using c), if_neg c, P0d hr hs hl d (k + 1) fuel _ _ (by omega) (by omega) (by omega) hb hbl]
theorem Q0d {r : Int} (hr : r ≤ 3) {w : List Int} (hs : sm r w) (hl : w.length ≤ 300000) : C5 w = some (d01 w) := by
 have h := O0d hr hs hl (w.length - 1) 1 N0 w 0 (by omega) (by omega) (I2 (by omega)) hs rfl
 rw [show ((1 : Nat) : Int) = 1 from rfl] at h
 unfold C5 d01
 rw [C0 (by simp; omega), Option.bind_some, List.nil_append, h, Option.bind_some]
theorem R0d {r : Int} (hr : r ≤ 3) {w : List Int} (hs : sm r w) (hl : w.length ≤ 300000) : F5 w = some (d01 w) := by
 have h := P0d hr hs hl (w.length - 1) 1 N0 w 0 (by omega) (by omega) (I2 (by omega)) hs rfl
 rw [show ((1 : Nat) : Int) = 1 from rfl] at h
 unfold F5 d01
 rw [Y01 (by omega), Option.bind_some, h, Option.bind_some]
theorem d09 (w : List Int) : ∀ (d k : Nat) (b : List Int) (a : Int), k + d ≤ 1000000 → D0 a → D0 (lrA w d k b a).2
 | 0, k, b, a, _, ha => ha
 | d + 1, k, b, a, hk, ha => by
  unfold lrA
  split
  ·exact d09 w d (k + 1) _ _ (by omega) ⟨by omega, by omega⟩
  ·exact d09 w d (k + 1) _ _ (by omega) ha
theorem a0b {w : List Int} : ∀ (d k : Nat) (b : List Int) (a : Int), k + d = w.length → (∃ j, j < w.length ∧ b = T6 w j) → (∀ j, j < k → ¬ S1 (T6 w j) b < 0) →
  (∃ j, j < w.length ∧ (lrA w d k b a).1 = T6 w j) ∧ ∀ j, j < w.length → ¬ S1 (T6 w j) (lrA w d k b a).1 < 0
 | 0, k, b, a, hk, hb, hm => ⟨hb, fun j hj => hm j (by omega)⟩
 | d + 1, k, b, a, hk, hb, hm => by
  unfold lrA
  split
  ·rename_i c
   refine a0b d (k + 1) _ _ (by omega) ⟨k, by omega, rfl⟩ fun j hj => ?_
   by_cases e : j = k
   ·subst e; rw [X06.refl]; omega
   ·exact fun c2 => hm j (by omega) (X06.trans _ _ _ c2 c)
  ·rename_i c
   refine a0b d (k + 1) _ _ (by omega) hb fun j hj => ?_
   by_cases e : j = k
   ·subst e; exact c
   ·exact hm j (by omega)
theorem h03 (w : List Int) : T6 w 0 = w := by simp [T6]
theorem N04 (w : List Int) (hw : w ≠ []) : (∃ j, j < w.length ∧ (d01 w).1 = T6 w j) ∧ ∀ j, j < w.length → ¬ S1 (T6 w j) (d01 w).1 < 0 := by
 have hl : 0 < w.length := List.length_pos_iff.2 hw
 refine a0b (w.length - 1) 1 w 0 (by omega) ⟨0, hl, (h03 w).symm⟩ fun j hj => ?_
 rw [show j = 0 by omega, h03, X06.refl]; omega
theorem S0b {w : List Int} : ∀ (d k : Nat) (a : Int), k + d ≤ w.length → (∀ j, j < w.length → ¬ S1 (T6 w j) w < 0) → lrA w d k w a = (w, a)
 | 0, k, a, _, h => rfl
 | d + 1, k, a, hk, h => by
  unfold lrA
  rw [if_neg (h k (by omega)), S0b d (k + 1) a (by omega) h]
theorem e07 (w : List Int) : (d01 w).1.length = w.length := by
 by_cases hw : w = []
 ·rw [hw]; rfl
 ·obtain ⟨⟨j, hj, e⟩, _⟩ := N04 w hw
  rw [e, Z6 w (by omega)]
theorem I0e {r : Int} {w : List Int} (h : sm r w) : sm r (d01 w).1 := by
 by_cases hw : w = []
 ·rw [hw]; exact fun x hx => by cases hx
 ·obtain ⟨⟨j, hj, e⟩, _⟩ := N04 w hw
  rw [e]; exact d07 h j
theorem J0e {w : List Int} {i j : Nat} (hi : i < w.length) (hj : j < w.length) : T6 (T6 w j) i = T6 w ((i + j) % w.length) := by
 have hl := Z6 w (show j ≤ w.length by omega)
 have hm : (i + j) % w.length < w.length := Nat.mod_lt _ (by omega)
 refine List.ext_getElem? fun k => ?_
 by_cases hk : k < w.length
 ·rw [C01 _ (by omega) (by omega), hl, C01 _ (Nat.mod_lt _ (by omega)) hj, C01 _ hk hm]
  congr 1
  rw [Nat.mod_add_mod, Nat.add_mod_mod, Nat.add_assoc]
 ·rw [List.getElem?_eq_none (by rw [Z6 _ (by omega)]; omega), List.getElem?_eq_none (by rw [Z6 _ (by omega)]; omega)]
theorem G0c (w : List Int) : d01 (d01 w).1 = ((d01 w).1, 0) := by
 by_cases hw : w = []
 ·rw [hw]; rfl
 ·obtain ⟨⟨j, hj, e⟩, hmin⟩ := N04 w hw
  have hlen := e07 w
  have hl : 0 < w.length := List.length_pos_iff.2 hw
  show lrA (d01 w).1 ((d01 w).1.length - 1) 1 (d01 w).1 0 = _
  refine S0b _ _ _ (by omega) fun i hi => ?_
  rw [hlen] at hi
  have := hmin ((i + j) % w.length) (Nat.mod_lt _ (by omega))
  rw [← J0e hi hj, ← e] at this
  exact this
def Q8 (w : List Int) : List Int := (d01 (j4 w).1).1
theorem B05 (w : List Int) : (j4 w).1.length ≤ w.length ∧ (j4 w).2.length ≤ w.length := by
 have h3 := R0b (B5 [] w).length (B5 [] w).reverse
 rw [List.length_reverse] at h3
 have hlr := L8 w []
 simp only [List.length_nil] at hlr
 unfold j4
 omega
theorem f07 {r : Int} {w : List Int} (h : sm r w) : sm r (j4 w).1 ∧ sm r (j4 w).2 :=
 H0e fun x hx => Z01 w [] (fun y hy => by cases hy) h x (List.mem_reverse.1 hx)
theorem g07 {r : Int} (hr : r ≤ 3) {w : List Int} (hs : sm r w) (hl : w.length ≤ 300000) : I4 w = some (Q8 w) := by
 have h1 := c07 hr hs hl
 have h3 := B05 w
 have h2 := Q0d hr (f07 hs).1 (by omega)
 have h4 : D0 (d01 (j4 w).1).2 := d09 (j4 w).1 ((j4 w).1.length - 1) 1 (j4 w).1 0 (by omega) ⟨by omega, by omega⟩
 unfold I4 Q8
 rw [h1, Option.bind_some]
 generalize j4 w = q at *
 obtain ⟨a, b⟩ := q
 simp only at h2 h4 ⊢
 rw [h2, Option.bind_some, C0 h4, Option.bind_some]
theorem m0a {r : Int} (hr : r ≤ 3) {w : List Int} (hs : sm r w) (hl : w.length ≤ 300000) : K5 w = some (Q8 w) := by
 have h1 := M04 hr hs hl
 have h3 := B05 w
 have h2 := R0d hr (f07 hs).1 (by omega)
 have h4 : D0 (d01 (j4 w).1).2 := d09 (j4 w).1 ((j4 w).1.length - 1) 1 (j4 w).1 0 (by omega) ⟨by omega, by omega⟩
 unfold K5 Q8
 rw [h1, Option.bind_some]
 generalize j4 w = q at *
 obtain ⟨a, b⟩ := q
 simp only at h2 h4 ⊢
 rw [h2, Option.bind_some, C0 h4, Option.bind_some]
theorem S0d {r : Int} (hr : r ≤ 3) {w : List Int} (hs : sm r w) (hl : w.length ≤ 300000) : S5 w = some (((Q8 w).length : Nat) : Int) := by
 have h1 := M04 hr hs hl
 unfold S5 Q8
 rw [e07, h1]; rfl
theorem b0b (w : List Int) : (Q8 w).length ≤ w.length := by
 unfold Q8
 rw [e07]
 exact (B05 w).1
theorem T0d {r : Int} {w : List Int} (h : sm r w) : sm r (Q8 w) := I0e (f07 h).1
def e09 (c : List Int) : Prop := ∀ i x y, i < c.length → c[i]? = some x → c[(i + 1) % c.length]? = some y → y ≠ -x
theorem K0e {c : List Int} (h : e09 c) {j : Nat} (hj : j < c.length) : e09 (T6 c j) := fun i x y hi hx hy => by
 have hl := Z6 c (show j ≤ c.length by omega)
 rw [hl] at hi hy
 rw [C01 _ hi hj] at hx
 rw [C01 _ (Nat.mod_lt _ (by omega)) hj] at hy
 refine h ((i + j) % c.length) x y (Nat.mod_lt _ (by omega)) hx ?_
 rw [← hy]
 congr 1
 rw [Nat.mod_add_mod, Nat.mod_add_mod]
 congr 1
 omega
theorem T0b {r : Int} (hr : r ≤ 3) {c : List Int} (hs : sm r c) (h : e09 c) : (B5 [] c).reverse = c := by
 refine G0e hr hs fun i x y hx hy => ?_
 have hi := (List.getElem?_eq_some_iff.1 hy).1
 exact h i x y (by omega) hx (by rw [Nat.mod_eq_of_lt hi]; exact hy)
theorem G0f {r : Int} (hr : r ≤ 3) {w : List Int} (hs : sm r w) : e09 (j4 w).1 := by
 have hsr : sm r (B5 [] w) := Z01 w [] (fun y hy => by cases hy) hs
 have hrd := F0f (M0d hr hsr (Z06 w [] rfl))
 obtain ⟨q, e⟩ := g03 (B5 [] w).length (B5 [] w).reverse
 have he := Q0b (B5 [] w).length (B5 [] w).reverse (by simp)
 have hcs := (f07 hs).1
 have hrc : rd (j4 w).1 := by rw [e] at hrd; exact E0f hrd
 unfold j4 at *
 generalize (ccA (B5 [] w).length (B5 [] w).reverse).1 = c at *
 intro i x y hi hx hy
 by_cases h1 : i + 1 < c.length
 ·rw [Nat.mod_eq_of_lt h1] at hy
  exact j0g hrc hx hy
 ·have h2 : i + 1 = c.length := by omega
  rw [h2, Nat.mod_self] at hy
  have hxm := hcs x (List.mem_of_getElem? hx)
  by_cases h3 : 2 ≤ c.length
  ·obtain ⟨a, m, b, e4, e1, e2, e3⟩ := N0d h3
   have ea : y = a := by rw [e4] at hy; simpa using hy.symm
   have eb : x = b := by
    have hi2 : i = m.length + 1 := by rw [e4] at h2; simp at h2; omega
    rw [e4, hi2] at hx
    simpa using hx.symm
   rw [ea, eb]
   exact fun c2 => he ⟨h3, by rw [e1, e2]; exact c2⟩
  ·have hi0 : i = 0 := by omega
   subst hi0
   rw [hx] at hy; cases hy
   omega
theorem c0b {r : Int} (hr : r ≤ 3) {w : List Int} (hs : sm r w) : e09 (Q8 w) := by
 unfold Q8
 by_cases hw : (j4 w).1 = []
 ·rw [hw]; intro i x y hi; cases hi
 ·obtain ⟨⟨j, hj, e⟩, _⟩ := N04 _ hw
  rw [e]; exact K0e (G0f hr hs) hj
theorem H0f {r : Int} (hr : r ≤ 3) {c : List Int} (hs : sm r c) (h : e09 c) : j4 c = (c, []) := by
 have hl : (B5 [] c).length = c.length := by have := congrArg List.length (T0b hr hs h); simpa using this
 unfold j4
 rw [T0b hr hs h]
 refine L04 fun hc => ?_
 obtain ⟨a, m, b, e4, e1, e2, e3⟩ := N0d hc.1
 have hlen : c.length = m.length + 2 := by rw [e4]; simp
 refine h (m.length + 1) b a (by omega) (by rw [e4]; simp) ?_ (by rw [← e1, ← e2]; exact hc.2)
 rw [show (m.length + 1 + 1) % c.length = 0 by rw [hlen]; exact Nat.mod_self _, e4]; rfl
theorem U0b {r : Int} (hr : r ≤ 3) {w : List Int} (hs : sm r w) : Q8 (Q8 w) = Q8 w := by
 have h1 := H0f hr (T0d hs) (c0b hr hs)
 have h2 : Q8 (Q8 w) = (d01 (Q8 w)).1 := by
  show (d01 (j4 (Q8 w)).1).1 = _
  rw [h1]
 rw [h2]
 show (d01 (d01 (j4 w).1).1).1 = _
 rw [G0c]; rfl
theorem n08 {lo hi : Int} {w : List Int} : ∀ {d k : Nat}, (∀ i, k ≤ i → i < k + d → v00 lo hi w i = false) → s8 lo hi w d k = true
 | 0, k, h => rfl
 | d + 1, k, h => by
  unfold s8
  rw [h k (Nat.le_refl _) (by omega), n08 fun i h1 h2 => h i (by omega) (by omega)]
  rfl
theorem U0d {r : Int} (hr : 1 ≤ r ∧ r ≤ 3) {c : List Int} (hs : sm r c) (h : e09 c) (hl : c.length ≤ 24) : T1 r c = true := by
 simp only [T1, Bool.and_eq_true, decide_eq_true_eq, inR]
 refine ⟨⟨⟨hr.1, hr.2⟩, hl⟩, n08 fun i h1 h2 => ?_⟩
 have hi : i < c.length := by omega
 have hx := Y7 hi
 generalize c[i] = x at hx
 have hxm := hs x (List.mem_of_getElem? hx)
 unfold v00
 rw [hx]
 simp only [inR, Bool.or_eq_false_iff]
 refine ⟨⟨by simpa using hxm.1, by simp; omega⟩, ?_⟩
 cases i with
 | zero => rfl
 | succ j =>
  have hy := Y7 (show j < c.length by omega)
  generalize c[j] = y at hy
  have hym := hs y (List.mem_of_getElem? hy)
  have := h j y x (by omega) hy (by rw [Nat.mod_eq_of_lt hi]; exact hx)
  rw [show j + 1 - 1 = j by omega, hy]
  simp only [Bool.and_eq_false_iff]
  right
  rw [show IntKind.i64.wrap (0 - y) = -y from m08 (by omega) (by omega)]
  simpa using this
theorem l8 {r : Int} {w : List Int} (h : T1 r w = true) : (1 ≤ r ∧ r ≤ 3) ∧ sm r w ∧ w.length ≤ 24 := by
 have h1 := h
 simp only [T1, Bool.and_eq_true, decide_eq_true_eq, inR] at h1
 refine ⟨⟨h1.1.1.1, h1.1.1.2⟩, fun x hx => ?_, h1.1.2⟩
 obtain ⟨i, hi⟩ := List.getElem?_of_mem hx
 have := g0a h hi
 exact ⟨this.2.2.1, this.2.2.2.1, this.2.2.2.2⟩
end Go.Proofs.Ytknoadmdnjaocaa
namespace Go.Proofs.Ytknoadmdnjaocaa
open Go.H
set_option linter.unusedVariables false
set_option linter.unusedSimpArgs false
theorem L0e {w : List Int} (hw : ∀ x ∈ w, Z0a x) : ∀ x ∈ inv w, Z0a x := fun x hx => by
 simp only [inv, List.mem_reverse, List.mem_map] at hx
 obtain ⟨y, hy, rfl⟩ := hx
 have h := hw y hy
 have h1 := h.1.1
 have h2 := h.1.2
 have h3 := h.2
 rw [show ng y = -y from Z0e h.1 h.2]
 exact ⟨⟨by omega, by omega⟩, by omega⟩
def exO (bs : List (List Int)) (k : Int) : Option (List Int) := if 0 < k ∧ k ≤ (bs.length : Int) then some (bs.getD (k.toNat - 1) []) else if k < 0 ∧ -(bs.length : Int) ≤ k then some (inv (bs.getD ((-k).toNat - 1) [])) else none
def exP (bs : List (List Int)) (k : Int) : List Int := (exO bs k).getD []
def e02 (bs : List (List Int)) (l : List Int) : List Int := (B5 [] ((l.take 200).flatMap (exP bs))).reverse
def BOk (bs : List (List Int)) : Prop := (∀ w ∈ bs, (∀ x ∈ w, Z0a x) ∧ w.length ≤ 1000) ∧ bs.length ≤ 1000
theorem L9 {bs : List (List Int)} {k : Nat} (h : k < bs.length) : bs.getD k [] ∈ bs := by
 rw [List.getD_eq_getElem?_getD, List.getElem?_eq_getElem h]; exact List.getElem_mem h
theorem M0e {bs : List (List Int)} (h : BOk bs) {k : Int} {w : List Int} (e : exO bs k = some w) : w.length ≤ 1000 ∧ ∀ x ∈ w, D0 x := by
 unfold exO at e
 split at e
 ·rename_i c
  have hm := L9 (bs := bs) (k := k.toNat - 1) (by omega)
  simp only [Option.some.injEq] at e
  rw [← e]
  exact ⟨(h.1 _ hm).2, fun x hx => ((h.1 _ hm).1 x hx).1⟩
 ·split at e
  ·rename_i c
   have hm := L9 (bs := bs) (k := (-k).toNat - 1) (by omega)
   simp only [Option.some.injEq] at e
   rw [← e]
   exact ⟨by rw [W01]; exact (h.1 _ hm).2, fun x hx => (L0e (h.1 _ hm).1 x hx).1⟩
  ·cases e
theorem V0b {bs : List (List Int)} (h : BOk bs) (k : Int) : (exP bs k).length ≤ 1000 ∧ ∀ x ∈ exP bs k, D0 x := by
 unfold exP
 cases e : exO bs k with
 | none => exact ⟨by simp, fun x hx => by cases hx⟩
 | some w => exact M0e h e
theorem g06 {bs : List (List Int)} {k : Nat} (h : k < bs.length) : gi bs (k : Int) = some (bs.getD k []) := by
 refine l4 ?_
 rw [List.getD_eq_getElem?_getD, List.getElem?_eq_getElem h]; rfl
theorem g6 {bs : List (List Int)} (h : BOk bs) : ∀ l : List Int, (l.flatMap (exP bs)).length ≤ 1000 * l.length ∧ ∀ x ∈ l.flatMap (exP bs), D0 x
 | [] => ⟨by simp, fun x hx => by cases hx⟩
 | k :: r => by
  have h1 := V0b h k
  have h2 := g6 h r
  rw [List.flatMap_cons]
  refine ⟨by rw [List.length_append, List.length_cons]; omega, fun x hx => ?_⟩
  rcases List.mem_append.1 hx with hx | hx
  ·exact h1.2 x hx
  ·exact h2.2 x hx
theorem V0d {bs : List (List Int)} (h : BOk bs) (l : List Int) : ∀ (d k fuel : Nat) (acc : List Int), k + d = (l.take 200).length → d < fuel → acc.length ≤ 1000 * k →
  E2 l bs fuel (k : Int) acc = some (acc ++ ((l.take 200).drop k).flatMap (exP bs))
 | d, k, 0, acc, hd, hf, ha => by omega
 | 0, k, fuel + 1, acc, hd, hf, ha => by
  rw [List.length_take] at hd
  have e : (bif (decide ((k : Int) < ((l.length : Nat) : Int))) then (decide ((k : Int) < 200)) else false) = false := by
   by_cases c : (k : Int) < ((l.length : Nat) : Int)
   ·rw [decide_eq_true c, cond_true]; exact decide_eq_false (by omega)
   ·rw [decide_eq_false c, cond_false]
  rw [E2.eq_2, e, if_neg (by simp), List.drop_eq_nil_of_le (by rw [List.length_take]; omega)]; simp
 | d + 1, k, fuel + 1, acc, hd, hf, ha => by
  have hkt : k < (l.take 200).length := by omega
  rw [List.length_take] at hd
  have hk : k < l.length := by omega
  have hb := h.2
  have hx := Y7 hk
  have hdr : (l.take 200).drop k = l[k] :: (l.take 200).drop (k + 1) := U2 (by rw [List.getElem?_take, if_pos (by omega)]; exact hx)
  generalize l[k] = x at hx hdr
  have hxl := V0b h x
  have ih := fun acc' q => V0d h l d (k + 1) fuel acc' (by rw [List.length_take]; omega) (by omega) q
  have e : (bif (decide ((k : Int) < ((l.length : Nat) : Int))) then (decide ((k : Int) < 200)) else false) = true := by
   rw [decide_eq_true (by omega), cond_true]; exact decide_eq_true (by omega)
  rw [E2.eq_2, e, if_pos rfl, hdr, List.flatMap_cons]
  simp only [l4 hx, Option.bind_some, S6 (show k < 1000 by omega) (show (1000 : Nat) ≤ 9223372036854775807 by omega)]
  unfold exP exO
  by_cases c1 : 0 < x
  ·rw [decide_eq_true (show x > 0 from c1)]
   simp only [w5, Option.bind_some, cond_true]
   by_cases c2 : x ≤ (bs.length : Int)
   ·have hm := L9 (bs := bs) (k := x.toNat - 1) (by omega)
    have hml := (h.1 _ hm).2
    have hg : gi bs (IntKind.i64.wrap (x - 1)) = some (bs.getD (x.toNat - 1) []) := by
     rw [w64 (by omega) (by omega), show x - 1 = ((x.toNat - 1 : Nat) : Int) by omega]; exact g06 (by omega)
    rw [if_pos (by simpa using c2), if_pos ⟨c1, c2⟩, hg, Option.bind_some, C0 (by omega), Option.bind_some, ih _ (by rw [List.length_append]; omega)]
    simp only [Option.getD_some, List.append_assoc]
    rfl
   ·rw [if_neg (by simpa using c2), decide_eq_false (show ¬ x < 0 by omega)]
    simp only [M4, Option.bind_some, cond_false]
    rw [if_neg (by simp), if_neg (fun q => c2 q.2), if_neg (fun q => by omega), ih _ (by omega)]
    simp only [Option.getD_none, List.nil_append]
    rfl
  ·rw [decide_eq_false (show ¬ x > 0 from c1)]
   simp only [M4, Option.bind_some, cond_false]
   rw [if_neg (by simp), if_neg (fun q => c1 q.1)]
   by_cases c3 : x < 0
   ·rw [decide_eq_true c3]
    simp only [w5, Option.bind_some, cond_true]
    rw [w64 (x := 0 - ((bs.length : Nat) : Int)) (by omega) (by omega)]
    by_cases c2 : -(bs.length : Int) ≤ x
    ·have hm := L9 (bs := bs) (k := (-x).toNat - 1) (by omega)
     have hml := (h.1 _ hm).2
     have hg : gi bs (IntKind.i64.wrap ((IntKind.i64.wrap (0 - x)) - 1)) = some (bs.getD ((-x).toNat - 1) []) := by
      rw [w64 (x := 0 - x) (by omega) (by omega), w64 (by omega) (by omega), show 0 - x - 1 = (((-x).toNat - 1 : Nat) : Int) by omega]; exact g06 (by omega)
     rw [if_pos (by simp only [decide_eq_true_eq]; omega), if_pos ⟨c3, c2⟩, hg, Option.bind_some, j9 _ (by omega), Option.bind_some, C0 (by rw [W01]; omega), Option.bind_some, ih _ (by rw [List.length_append, W01]; omega)]
     simp only [Option.getD_some, List.append_assoc]
     rfl
    ·rw [if_neg (by simp only [decide_eq_true_eq]; omega), if_neg (fun q => c2 q.2), ih _ (by omega)]
     simp only [Option.getD_none, List.nil_append]
     rfl
   ·rw [decide_eq_false c3]
    simp only [M4, Option.bind_some, cond_false]
    rw [if_neg (by simp), if_neg (fun q => c3 q.1), ih _ (by omega)]
    simp only [Option.getD_none, List.nil_append]
    rfl
theorem H0c {bs : List (List Int)} (h : BOk bs) (l : List Int) : c7 bs l = some (e02 bs l) := by
 have hL := V0d h l (l.take 200).length 0 N0 [] (by omega) (I2 (by rw [List.length_take]; omega)) (by simp)
 rw [show ((0 : Nat) : Int) = 0 from rfl, List.drop_zero, List.nil_append] at hL
 have hfl := g6 h (l.take 200)
 have hlt : (l.take 200).length ≤ 200 := by rw [List.length_take]; omega
 unfold c7 e02
 rw [hL, Option.bind_some, Z7 _ (fun x hx => hfl.2 x hx) (by omega)]
 rfl
theorem o08 : ∀ (ws : List (List Int)) (s : List Int), Y0a s ws = B5 s ws.flatten
 | [], s => rfl
 | w :: r, s => by rw [Y0a, o08 r, List.flatten_cons, A01]
theorem y00 (bs : List (List Int)) : ∀ l : List Int, (l.filterMap (exO bs)).flatten = l.flatMap (exP bs)
 | [] => rfl
 | k :: r => by
  rw [List.flatMap_cons, ← y00 bs r, List.filterMap_cons]
  unfold exP
  cases exO bs k with
  | none => rfl
  | some w => rfl
theorem p08 : ∀ ws : List (List Int), i0a ws = ws.flatten.length
 | [] => rfl
 | w :: r => by rw [i0a, p08 r, List.flatten_cons, List.length_append]
theorem W0d {bs : List (List Int)} (h : BOk bs) (l : List Int) (hl : l.length ≤ 200) : ∀ (d k fuel : Nat) (acc : List (List Int)), k + d = l.length → d < fuel → acc.length ≤ k →
  G2 l bs fuel (k : Int) acc = some (acc ++ (l.drop k).filterMap (exO bs))
 | d, k, 0, acc, hd, hf, ha => by omega
 | 0, k, fuel + 1, acc, hd, hf, ha => by
  rw [G2.eq_2, if_neg (by simp only [decide_eq_true_eq]; omega), M3 (by omega)]; simp
 | d + 1, k, fuel + 1, acc, hd, hf, ha => by
  have hk : k < l.length := by omega
  have hb := h.2
  have hx := Y7 hk
  have hdr := U2 hx
  generalize l[k] = x at hx hdr
  have ih := fun acc' q => W0d h l hl d (k + 1) fuel acc' (by omega) (by omega) q
  rw [G2.eq_2, if_pos (by simp only [decide_eq_true_eq]; omega), hdr, List.filterMap_cons]
  simp only [l4 hx, Option.bind_some, S6 (show k < 1000 by omega) (show (1000 : Nat) ≤ 9223372036854775807 by omega), w00, w64 (x := 0 - ((bs.length : Nat) : Int)) (by omega) (by omega)]
  unfold exO
  by_cases c1 : 0 < x ∧ x ≤ (bs.length : Int)
  ·have hm := L9 (bs := bs) (k := x.toNat - 1) (by omega)
   have hg : gi bs (IntKind.i64.wrap (x - 1)) = some (bs.getD (x.toNat - 1) []) := by
    rw [w64 (by omega) (by omega), show x - 1 = ((x.toNat - 1 : Nat) : Int) by omega]; exact g06 (by omega)
   rw [if_pos (show inR 1 ((bs.length : Nat) : Int) x = true by simp only [inR, Bool.and_eq_true, decide_eq_true_eq]; omega), if_pos c1, hg, Option.bind_some, C0 (by simp; omega), Option.bind_some, ih _ (by simp; omega)]
   simp only [List.append_assoc]
   rfl
  ·rw [if_neg (show ¬ inR 1 ((bs.length : Nat) : Int) x = true by simp only [inR, Bool.and_eq_true, decide_eq_true_eq]; omega), if_neg c1]
   by_cases c2 : x < 0 ∧ -(bs.length : Int) ≤ x
   ·have hm := L9 (bs := bs) (k := (-x).toNat - 1) (by omega)
    have hml := (h.1 _ hm).2
    have hg : gi bs (IntKind.i64.wrap ((IntKind.i64.wrap (0 - x)) - 1)) = some (bs.getD ((-x).toNat - 1) []) := by
     rw [w64 (x := 0 - x) (by omega) (by omega), w64 (by omega) (by omega), show 0 - x - 1 = (((-x).toNat - 1 : Nat) : Int) by omega]; exact g06 (by omega)
    rw [if_pos (show inR (0 - ((bs.length : Nat) : Int)) (-1) x = true by simp only [inR, Bool.and_eq_true, decide_eq_true_eq]; omega), if_pos c2, hg, Option.bind_some, z01 _ (by omega), Option.bind_some, C0 (by simp; omega), Option.bind_some, ih _ (by simp; omega)]
    simp only [List.append_assoc]
    rfl
   ·rw [if_neg (show ¬ inR (0 - ((bs.length : Nat) : Int)) (-1) x = true by simp only [inR, Bool.and_eq_true, decide_eq_true_eq]; omega), if_neg c2, ih _ (by omega)]
    rfl
theorem I0c {bs : List (List Int)} (h : BOk bs) (l : List Int) : d7 bs l = some (e02 bs l) := by
 have hlt : (l.take 200).length ≤ 200 := by rw [List.length_take]; omega
 have hL := W0d h (l.take 200) hlt (l.take 200).length 0 N0 [] (by omega) (I2 (by omega)) (by simp)
 rw [show ((0 : Nat) : Int) = 0 from rfl, List.drop_zero, List.nil_append] at hL
 have hfl := g6 h (l.take 200)
 have hc : B00 l 0 (if 200 < ((l.length : Nat) : Int) then 200 else ((l.length : Nat) : Int)) = some (l.take 200) := by
  by_cases c : 200 < ((l.length : Nat) : Int)
  ·rw [if_pos c]; exact K04 (k := 200) (by omega)
  ·rw [if_neg c, K04 (Nat.le_refl _), List.take_of_length_le (Nat.le_refl _), List.take_of_length_le (by omega)]
 have hfm : ((l.take 200).filterMap (exO bs)).length ≤ 200 := Nat.le_trans (List.length_filterMap_le _ _) hlt
 unfold d7 e02
 rw [hc, Option.bind_some, hL, Option.bind_some, b01 _ (by omega) (by rw [p08, y00]; omega), o08, y00]
 rfl
end Go.Proofs.Ytknoadmdnjaocaa
namespace Go.Proofs.Ytknoadmdnjaocaa
open Go.H
set_option linter.unusedVariables false
set_option linter.unusedSimpArgs false
def AWl (r : Int) : List z0 := (C2 r).getD []
def imW (r : Int) (t : z0) : List (List Int) := match L1 r t with
 | some ((_, im), _) => im
 | none => []
def N0e (r : Int) (im : List (List Int)) : Bool := decide (im.length ≤ 3) && im.all fun w => decide (w.length ≤ 3) && w.all fun x => decide (x ≠ 0) && (decide (-r ≤ x) && decide (x ≤ r))
def okT (r : Int) (t : z0) : Bool := decide (L1 r t = T3 r t) && ((L1 r t).isSome && N0e r (imW r t))
def okR (r : Int) : Bool := (C2 r).isSome && (decide (C2 r = R5 r) && (decide ((AWl r).length ≤ 1000) && (AWl r).all (okT r)))
theorem t0g : okR 1 = true := by kernel_rfl
theorem u0g : okR 2 = true := by kernel_rfl
theorem v0g : okR 3 = true := by kernel_rfl
theorem O0e {r : Int} (h : 1 ≤ r ∧ r ≤ 3) : okR r = true := by
 have : r = 1 ∨ r = 2 ∨ r = 3 := by omega
 rcases this with rfl | rfl | rfl
 ·exact t0g
 ·exact u0g
 ·exact v0g
theorem O04 {r : Int} (h : 1 ≤ r ∧ r ≤ 3) : C2 r = some (AWl r) ∧ R5 r = some (AWl r) ∧ (AWl r).length ≤ 1000 ∧ ∀ t ∈ AWl r, okT r t = true := by
 have hk := O0e h
 unfold okR at hk
 simp only [Bool.and_eq_true, decide_eq_true_eq, List.all_eq_true] at hk
 obtain ⟨h1, h2, h3, h4⟩ := hk
 have e : C2 r = some (AWl r) := by
  unfold AWl
  cases hh : C2 r with
  | none => rw [hh] at h1; cases h1
  | some l => rfl
 exact ⟨e, by rw [← h2]; exact e, h3, h4⟩
theorem C05 {r : Int} {t : z0} (h : okT r t = true) : (∃ a b, L1 r t = some ((a, imW r t), b) ∧ T3 r t = some ((a, imW r t), b)) ∧ N0e r (imW r t) = true := by
 unfold okT at h
 simp only [Bool.and_eq_true, decide_eq_true_eq] at h
 obtain ⟨h1, h2, h3⟩ := h
 refine ⟨?_, h3⟩
 cases hh : L1 r t with
 | none => rw [hh] at h2; cases h2
 | some q =>
  obtain ⟨⟨a, im⟩, b⟩ := q
  have e : imW r t = im := by unfold imW; rw [hh]
  exact ⟨a, b, by rw [e], by rw [← h1, hh, e]⟩
theorem W03 {r : Int} (hr : r ≤ 3) {im : List (List Int)} (h : N0e r im = true) : BOk im ∧ ∀ w ∈ im, sm r w := by
 unfold N0e at h
 simp only [Bool.and_eq_true, decide_eq_true_eq, List.all_eq_true] at h
 have hs : ∀ w ∈ im, sm r w := fun w hw x hx => by
  have := (h.2 w hw).2 x hx
  exact ⟨this.1, this.2.1, this.2.2⟩
 refine ⟨⟨fun w hw => ⟨fun x hx => ?_, by have := (h.2 w hw).1; omega⟩, by have := h.1; omega⟩, hs⟩
 have := hs w hw x hx
 exact ⟨⟨by omega, by omega⟩, by omega⟩
theorem X0d {r : Int} (hr : r ≤ 3) {w : List Int} (h : sm r w) : sm r (inv w) := fun x hx => by
 simp only [inv, List.mem_reverse, List.mem_map] at hx
 obtain ⟨y, hy, rfl⟩ := hx
 have := h y hy
 rw [m08 (by omega) (by omega)]
 omega
theorem I0f {r : Int} (hr : r ≤ 3) {bs : List (List Int)} (h : ∀ w ∈ bs, sm r w) (k : Int) : sm r (exP bs k) := by
 unfold exP exO
 split
 ·rename_i c
  exact h _ (L9 (by omega))
 ·split
  ·rename_i c
   exact X0d hr (h _ (L9 (by omega)))
  ·exact fun x hx => by cases hx
theorem f09 {r : Int} (hr : r ≤ 3) {bs : List (List Int)} (h : ∀ w ∈ bs, sm r w) (l : List Int) : sm r (e02 bs l) := by
 unfold e02
 refine fun x hx => Z01 _ [] (fun y hy => by cases hy) (fun y hy => ?_) x (List.mem_reverse.1 hx)
 obtain ⟨k, hk, hy⟩ := List.mem_flatMap.1 hy
 exact I0f hr h k y hy
theorem k0g {bs : List (List Int)} (h : BOk bs) (l : List Int) : (e02 bs l).length ≤ 200000 := by
 have h1 := g6 h (l.take 200)
 have h2 := L8 ((l.take 200).flatMap (exP bs)) []
 unfold e02
 rw [List.length_reverse]
 rw [List.length_take] at h1
 simp only [List.length_nil] at h2
 omega
def L02 (r : Int) (t : z0) (c : List Int) : List Int := Q8 (e02 (imW r t) c)
theorem W0b {r : Int} (hr : 1 ≤ r ∧ r ≤ 3) {t : z0} (ht : okT r t = true) (c : List Int) : E6 r t c = some (L02 r t c) := by
 obtain ⟨⟨a, b, h1, _⟩, h2⟩ := C05 ht
 obtain ⟨hb, hs⟩ := W03 hr.2 h2
 have h3 := H0c hb c
 have h4 := g07 hr.2 (f09 hr.2 hs c) (by have := k0g hb c; omega)
 unfold L02
 obtain ⟨t0, t1⟩ := t
 unfold E6
 simp only [h1, Option.bind_some, h3, h4]
theorem J0f {r : Int} (hr : 1 ≤ r ∧ r ≤ 3) {t : z0} (ht : okT r t = true) (c : List Int) : sm r (L02 r t c) ∧ e09 (L02 r t c) ∧ Q8 (L02 r t c) = L02 r t c := by
 obtain ⟨_, h2⟩ := C05 ht
 obtain ⟨hb, hs⟩ := W03 hr.2 h2
 have h := f09 hr.2 hs c
 exact ⟨T0d h, c0b hr.2 h, U0b hr.2 h⟩
def shA (r : Int) (c : List Int) : List z0 → Option z0
 | [] => none
 | t :: l => if (L02 r t c).length < c.length then some t else shA r c l
theorem P04 {r : Int} {c : List Int} : ∀ {l : List z0} {t : z0}, shA r c l = some t → t ∈ l ∧ (L02 r t c).length < c.length
 | [], t, h => nomatch h
 | u :: l, t, h => by
  unfold shA at h
  split at h
  ·rename_i hc; cases h; exact ⟨List.mem_cons_self .., hc⟩
  ·have := P04 h; exact ⟨List.mem_cons_of_mem _ this.1, this.2⟩
theorem c0f {r : Int} (hr : 1 ≤ r ∧ r ≤ 3) (c : List Int) (hc : c.length ≤ 1000) (ts : List z0) (ht : ∀ t ∈ ts, okT r t = true) (hl : ts.length ≤ 1000) : ∀ (d k fuel : Nat), k + d = ts.length → d < fuel →
  U1 ts r c fuel (k : Int) = some (match shA r c (ts.drop k) with | some t => .inl (t, true) | none => .inr ())
 | d, k, 0, hd, hf => by omega
 | 0, k, fuel + 1, hd, hf => by
  rw [U1.eq_2, if_neg (by simp only [decide_eq_true_eq]; omega), M3 (by omega)]; rfl
 | d + 1, k, fuel + 1, hd, hf => by
  have hk : k < ts.length := by omega
  have hx := Y7 hk
  have hm := ht _ (List.mem_of_getElem? hx)
  have hdr := U2 hx
  generalize ts[k] = t at hx hm hdr
  have ha := W0b hr hm c
  have ih := c0f hr c hc ts ht hl d (k + 1) fuel (by omega) (by omega)
  rw [U1.eq_2, if_pos (by simp only [decide_eq_true_eq]; omega), l4 hx, Option.bind_some, hdr, shA, S6 hk (by omega)]
  obtain ⟨t0, t1⟩ := t
  simp only [ha, Option.bind_some]
  by_cases q : (L02 r (t0, t1) c).length < c.length
  ·rw [if_pos (by simp only [decide_eq_true_eq]; omega), if_pos q]
  ·rw [if_neg (by simp only [decide_eq_true_eq]; omega), if_neg q, ih]
theorem d0f {r : Int} (hr : 1 ≤ r ∧ r ≤ 3) (c : List Int) (hc : c.length ≤ 1000) (ts : List z0) (ht : ∀ t ∈ ts, okT r t = true) (hl : ts.length ≤ 1000) : ∀ (d k fuel : Nat), k + d = ts.length → d < fuel →
  i4 ts r c fuel (k : Int) = some (match shA r c (ts.drop k) with | some t => .inl (t, L02 r t c, true) | none => .inr ())
 | d, k, 0, hd, hf => by omega
 | 0, k, fuel + 1, hd, hf => by
  rw [i4.eq_2, if_neg (by simp only [decide_eq_true_eq]; omega), M3 (by omega)]; rfl
 | d + 1, k, fuel + 1, hd, hf => by
  have hk : k < ts.length := by omega
  have hx := Y7 hk
  have hm := ht _ (List.mem_of_getElem? hx)
  have hdr := U2 hx
  generalize ts[k] = t at hx hm hdr
  obtain ⟨⟨a, b, _, h1⟩, h2⟩ := C05 hm
  obtain ⟨hb, hs⟩ := W03 hr.2 h2
  have h3 := I0c hb c
  have hel := k0g hb c
  have h4 := m0a hr.2 (f09 hr.2 hs c) (by omega)
  have h5 := S0d hr.2 (f09 hr.2 hs c) (by omega)
  have h6 := b0b (e02 (imW r t) c)
  have ih := d0f hr c hc ts ht hl d (k + 1) fuel (by omega) (by omega)
  rw [i4.eq_2, if_pos (by simp only [decide_eq_true_eq]; omega), l4 hx, Option.bind_some, hdr, shA, S6 hk (by omega)]
  unfold L02
  obtain ⟨t0, t1⟩ := t
  simp only [h1, Option.bind_some, h3, h5]
  rw [C0 (show D0 (((Q8 (e02 (imW r (t0, t1)) c)).length : Nat) : Int) from ⟨by omega, by omega⟩), Option.bind_some]
  by_cases q : (Q8 (e02 (imW r (t0, t1)) c)).length < c.length
  ·rw [if_pos (by simp only [decide_eq_true_eq]; omega), if_pos q, h4]; rfl
  ·rw [if_neg (by simp only [decide_eq_true_eq]; omega), if_neg q, ih]; rfl
def CFW (r : Int) (c : List Int) : Prop := T1 r c = true ∧ Q8 c = c
theorem Y0d {r : Int} (hr : 1 ≤ r ∧ r ≤ 3) {c : List Int} (h : sm r c ∧ e09 c ∧ Q8 c = c) (hl : c.length ≤ 24) : CFW r c := ⟨U0d hr h.1 h.2.1 hl, h.2.2⟩
theorem z07 {r : Int} {c : List Int} (h : CFW r c) : E5 r c = some (match shA r c (AWl r) with | some t => (t, true) | none => ((0, []), false)) := by
 obtain ⟨hr, hs, hl⟩ := l8 h.1
 have h1 := S7 r c (by omega)
 have h2 := g07 hr.2 hs (by omega)
 rw [h.2] at h2
 obtain ⟨h3, _, h4, h5⟩ := O04 hr
 have h6 := c0f hr c (by omega) (AWl r) h5 h4 (AWl r).length 0 N0 (by omega) (I2 (by omega))
 rw [show ((0 : Nat) : Int) = 0 from rfl, List.drop_zero] at h6
 unfold E5
 rw [h1, Option.bind_some, h.1, if_neg (by simp), h2, Option.bind_some, h3, Option.bind_some, h6, Option.bind_some]
 cases shA r c (AWl r) <;> rfl
theorem A07 {r : Int} {c : List Int} (h : CFW r c) : M7 r c = some (match shA r c (AWl r) with | some t => (t, L02 r t c, true) | none => ((0, []), [], false)) := by
 obtain ⟨hr, hs, hl⟩ := l8 h.1
 obtain ⟨_, h3, h4, h5⟩ := O04 hr
 have h6 := d0f hr c (by omega) (AWl r) h5 h4 (AWl r).length 0 N0 (by omega) (I2 (by omega))
 rw [show ((0 : Nat) : Int) = 0 from rfl, List.drop_zero] at h6
 unfold M7
 rw [h3, Option.bind_some, h6, Option.bind_some]
 cases shA r c (AWl r) <;> rfl
def rcA (r : Int) : Nat → List Int → List z0 → List Int × List z0
 | 0, c, l => (c, l)
 | d + 1, c, l => match shA r c (AWl r) with
  | some t => rcA r d (L02 r t c) (l ++ [t])
  | none => (c, l)
theorem n0a {r : Int} {c : List Int} (h : CFW r c) {t : z0} (ht : shA r c (AWl r) = some t) : CFW r (L02 r t c) := by
 obtain ⟨hr, hs, hl⟩ := l8 h.1
 obtain ⟨_, _, _, h5⟩ := O04 hr
 have h6 := P04 ht
 exact Y0d hr (J0f hr (h5 t h6.1) c) (by omega)
theorem e0f {r : Int} : ∀ (d k fuel : Nat) (c : List Int) (l : List z0), k + d = 24 → d < fuel → CFW r c → l.length ≤ k →
  (Z1 r fuel c (k : Int) l).bind (fun X45 => r8 X45 (fun S44 => match S44 with | (y38, y39) => some (y38, y39))) = some (rcA r d c l)
 | d, k, 0, c, l, hd, hf, h, hl => by omega
 | 0, k, fuel + 1, c, l, hd, hf, h, hl => by
  rw [Z1.eq_2, if_neg (by simp only [decide_eq_true_eq]; omega)]; rfl
 | d + 1, k, fuel + 1, c, l, hd, hf, h, hl => by
  have h1 := z07 h
  obtain ⟨hr, hs, hln⟩ := l8 h.1
  obtain ⟨_, _, _, h5⟩ := O04 hr
  rw [Z1.eq_2, if_pos (by simp only [decide_eq_true_eq]; omega), h1, Option.bind_some, rcA]
  cases hsh : shA r c (AWl r) with
  | none => rfl
  | some t =>
   have h6 := P04 hsh
   have h7 := W0b hr (h5 t h6.1) c
   have ih := e0f d (k + 1) fuel (L02 r t c) (l ++ [t]) (by omega) (by omega) (n0a h hsh) (by simp; omega)
   obtain ⟨t0, t1⟩ := t
   simp only [Bool.not_true, Bool.false_eq_true, if_false, h7, Option.bind_some]
   rw [C0 (by simp; omega), Option.bind_some, S6 (show k < 1000 by omega) (by omega)]
   exact ih
theorem f0f {r : Int} : ∀ (d k fuel : Nat) (c : List Int) (l : List z0), k + d = 24 → d < fuel → CFW r c → l.length = k →
  j2 r fuel c l = some (rcA r d c l)
 | d, k, 0, c, l, hd, hf, h, hl => by omega
 | 0, k, fuel + 1, c, l, hd, hf, h, hl => by
  rw [j2.eq_2, Option.bind_some, C0 (by omega), Option.bind_some, if_neg (by simp only [decide_eq_true_eq]; omega)]; rfl
 | d + 1, k, fuel + 1, c, l, hd, hf, h, hl => by
  have h1 := A07 h
  rw [j2.eq_2, Option.bind_some, C0 (by omega), Option.bind_some, if_pos (by simp only [decide_eq_true_eq]; omega), h1, Option.bind_some, rcA]
  cases hsh : shA r c (AWl r) with
  | none => rfl
  | some t =>
   have ih := f0f d (k + 1) fuel (L02 r t c) (l ++ [t]) (by omega) (by omega) (n0a h hsh) (by simp; omega)
   obtain ⟨t0, t1⟩ := t
   simp only [Bool.not_true, Bool.false_eq_true, if_false]
   rw [C0 (by simp; omega), Option.bind_some]
   exact ih
def W05 (r : Int) (w : List Int) : List Int × List z0 := bif T1 r w then rcA r 24 (Q8 w) [] else ([], [])
theorem Z0d {r : Int} {w : List Int} (h : T1 r w = true) : CFW r (Q8 w) := by
 obtain ⟨hr, hs, hl⟩ := l8 h
 have := b0b w
 exact Y0d hr ⟨T0d hs, c0b hr.2 hs, U0b hr.2 hs⟩ (by omega)
theorem o0a (r : Int) (w : List Int) (hw : w.length ≤ 140737488355328) : N4 r w = some (W05 r w) := by
 have h1 := S7 r w hw
 unfold N4 W05
 rw [h1, Option.bind_some]
 cases h : T1 r w with
 | false => rfl
 | true =>
  obtain ⟨hr, hs, hl⟩ := l8 h
  have h2 := g07 hr.2 hs (by omega)
  have h3 := e0f (r := r) 24 0 N0 (Q8 w) [] (by omega) (I2 (by omega)) (Z0d h) (by simp)
  rw [if_neg (by simp), h2, Option.bind_some]
  rw [show ((0 : Nat) : Int) = 0 from rfl] at h3
  rw [h3]; rfl
theorem p0a (r : Int) (w : List Int) (hw : w.length ≤ 140737488355328) : O4 r w = some (W05 r w) := by
 have h1 := d00 r w hw
 unfold O4 W05
 rw [h1, Option.bind_some]
 cases h : T1 r w with
 | false => rfl
 | true =>
  obtain ⟨hr, hs, hl⟩ := l8 h
  have h2 := m0a hr.2 hs (by omega)
  have h3 := f0f (r := r) 24 0 N0 (Q8 w) [] (by omega) (I2 (by omega)) (Z0d h) (by simp)
  rw [if_neg (by simp), h2, Option.bind_some, h3]; rfl
theorem X0b {r : Int} : ∀ (d : Nat) (c : List Int) (l : List z0), (rcA r d c l).1.length ≤ c.length
 | 0, c, l => Nat.le_refl _
 | d + 1, c, l => by
  unfold rcA
  cases h : shA r c (AWl r) with
  | none => exact Nat.le_refl _
  | some t =>
   have h1 := X0b (r := r) d (L02 r t c) (l ++ [t])
   have h2 := (P04 h).2
   simp only
   omega
theorem K0f (r : Int) (w : List Int) : (W05 r w).1.length ≤ w.length := by
 unfold W05
 cases T1 r w with
 | false => simp
 | true =>
  have h1 := X0b (r := r) 24 (Q8 w) []
  have h2 := b0b w
  simp only [cond_true]
  omega
def s7 (r : Int) (w : List Int) : Int := bif T1 r w then (((W05 r w).1.length : Nat) : Int) else -1
def M02 (r : Int) (w : List Int) : Bool := T1 r w && decide ((((W05 r w).1.length : Nat) : Int) = 1)
theorem q0a (r : Int) (w : List Int) (hw : w.length ≤ 140737488355328) : p6 r w = some (s7 r w) := by
 unfold p6 s7
 have h1 := S7 r w hw
 rw [o0a r w hw, Option.bind_some]
 generalize W05 r w = q
 obtain ⟨a, b⟩ := q
 simp only [h1, Option.bind_some]
 cases T1 r w <;> rfl
theorem r0a (r : Int) (w : List Int) (hw : w.length ≤ 140737488355328) : t6 r w = some (s7 r w) := by
 unfold t6 s7
 rw [d00 r w hw, Option.bind_some]
 cases h : T1 r w with
 | false => rfl
 | true => rw [if_neg (by simp), p0a r w hw]; rfl
theorem d0b (r : Int) (w : List Int) (hw : w.length ≤ 140737488355328) : r6 r w = some (M02 r w) := by
 unfold r6 M02
 have h1 := S7 r w hw
 rw [o0a r w hw, Option.bind_some]
 generalize W05 r w = q
 obtain ⟨a, b⟩ := q
 simp only [h1, Option.bind_some]
 cases T1 r w <;> rfl
theorem e0b (r : Int) (w : List Int) (hw : w.length ≤ 140737488355328) : w6 r w = some (M02 r w) := by
 unfold w6 M02
 rw [p0a r w hw, Option.bind_some]
 cases h : T1 r w with
 | false => unfold W05; rw [h]; rfl
 | true => rfl
end Go.Proofs.Ytknoadmdnjaocaa
namespace Go.Proofs.Ytknoadmdnjaocaa
open Go.H
set_option linter.unusedVariables false
set_option linter.unusedSimpArgs false
def s0a (n : Int) : ByteArray := if n = 0 then ⟨#[48]⟩ else if n < 0 then ⟨(45 :: k03 20 n.natAbs []).toArray⟩ else ⟨(k03 20 n.natAbs []).toArray⟩
def B7 (n : Int) (m : Nat) : Int := if n < 0 then -(m : Int) else m
theorem Y0b (n : Int) (m : Nat) : (B7 n m).tmod 10 = B7 n (m % 10) := by
 unfold B7
 split
 ·rw [Int.neg_tmod, show (10 : Int) = ((10 : Nat) : Int) from rfl, ← Int.ofNat_tmod]
 ·rw [show (10 : Int) = ((10 : Nat) : Int) from rfl, ← Int.ofNat_tmod]
theorem Z0b (n : Int) (m : Nat) : (B7 n m).tdiv 10 = B7 n (m / 10) := by
 unfold B7
 split
 ·rw [Int.neg_tdiv, show (10 : Int) = ((10 : Nat) : Int) from rfl, ← Int.ofNat_tdiv]
 ·rw [show (10 : Int) = ((10 : Nat) : Int) from rfl, ← Int.ofNat_tdiv]
theorem t0a {n : Int} {m : Nat} : B7 n m = 0 ↔ m = 0 := by
 unfold B7
 split <;> omega
theorem w0g {X : Int} {m : Nat} (acc : List UInt8) (e : X = ((m % 10 : Nat) : Int)) : strOfNums [IntKind.u8.wrap (IntKind.i64.wrap (48 + X))] ++ ⟨acc.toArray⟩ = ⟨(UInt8.ofNat (48 + m % 10) :: acc).toArray⟩ := by
 have hX : IntKind.u8.wrap (IntKind.i64.wrap (48 + X)) = ((48 + m % 10 : Nat) : Int) := by
  rw [e]
  simp [IntKind.wrap, IntKind.signed, IntKind.bits]
  omega
 rw [hX, show strOfNums [((48 + m % 10 : Nat) : Int)] = ⟨#[UInt8.ofNat (48 + m % 10)]⟩ from by simp only [strOfNums, List.map_cons, List.map_nil, Int.toNat_natCast]]
 generalize UInt8.ofNat (48 + m % 10) = d
 apply ByteArray.ext
 rw [ByteArray.data_append]
 simp
theorem J0c (a b : List UInt8) : (⟨a.toArray⟩ : ByteArray) ++ ⟨b.toArray⟩ = ⟨(a ++ b).toArray⟩ := by
 apply ByteArray.ext
 rw [ByteArray.data_append]
 simp
theorem t7 (a : List UInt8) : (⟨a.toArray⟩ : ByteArray).size = a.length := by simp [ByteArray.size]
theorem g0f {n : Int} {m : Nat} (h : m ≤ 9223372036854775808) (hn : n < 0 ∨ m ≤ 9223372036854775807) : D0 (B7 n m) := by
 unfold B7
 split <;> constructor <;> omega
theorem U9 (n : Int) : ∀ (f m fuel : Nat) (acc : List UInt8), m < 10 ^ f → f < fuel → m ≤ 9223372036854775808 → acc.length + f ≤ 100 → (n < 0 ∨ m ≤ 9223372036854775807) →
  V1 fuel (B7 n m) ⟨acc.toArray⟩ = some ⟨(k03 f m acc).toArray⟩
 | f, m, 0, acc, h1, h2, h3, h4, h5 => by omega
 | 0, m, fuel + 1, acc, h1, h2, h3, h4, h5 => by
  have : m = 0 := by simp at h1; exact h1
  subst this
  rw [V1.eq_2, show B7 n 0 = 0 by unfold B7; split <;> simp]
  rfl
 | f + 1, m, fuel + 1, acc, h1, h2, h3, h4, h5 => by
  rw [V1.eq_2]
  by_cases h0 : m = 0
  ·subst h0
   rw [show B7 n 0 = 0 by unfold B7; split <;> simp]
   simp [k03]
  ·have hs : B7 n m ≠ 0 := fun e => h0 (t0a.1 e)
   have next := U9 n f (m / 10) fuel (UInt8.ofNat (48 + m % 10) :: acc) (by rw [Nat.pow_succ] at h1; omega) (by omega) (by omega) (by simp only [List.length_cons]; omega) (by omega)
   have hq : IntKind.i64.wrap ((B7 n m).tdiv 10) = B7 n (m / 10) := by
    rw [Z0b]
    have := g0f (n := n) (m := m / 10) (by omega) (by omega)
    exact w64 this.1 this.2
   rw [if_pos (by simpa using hs), hq, Y0b]
   simp only [show ∀ k : Unit → Option ByteArray, (grd (10 ≠ 0)).bind k = k () from fun k => rfl]
   have key : ∀ X : Int, X = ((m % 10 : Nat) : Int) → ((grd ([IntKind.u8.wrap (IntKind.i64.wrap (48 + X))].length ≤ 9223372036854775807)).bind fun _ => (grd ((strOfNums [IntKind.u8.wrap (IntKind.i64.wrap (48 + X))]).size + (⟨acc.toArray⟩ : ByteArray).size ≤ 9223372036854775807)).bind fun _ =>
     V1 fuel (B7 n (m / 10)) (strOfNums [IntKind.u8.wrap (IntKind.i64.wrap (48 + X))] ++ ⟨acc.toArray⟩)) = some ⟨(k03 (f + 1) m acc).toArray⟩ := fun X hX => by
    rw [C0 (by simp), Option.bind_some, C0 (by rw [strOfNums_size, t7]; simp only [List.length_singleton]; omega), Option.bind_some, w0g acc hX, next]
    simp [k03, h0]
   by_cases hneg : B7 n (m % 10) < 0
   ·rw [if_pos (by simpa using hneg)]
    refine key _ ?_
    unfold B7 at hneg ⊢
    split at hneg
    ·rename_i hn
     rw [if_pos hn, w64 (by omega) (by omega)]; omega
    ·omega
   ·rw [if_neg (by simpa using hneg)]
    refine key _ ?_
    unfold B7 at hneg ⊢
    split at hneg
    ·rename_i hn
     rw [if_pos hn]; omega
    ·rename_i hn
     rw [if_neg hn]
theorem u0a (n : Int) : B7 n n.natAbs = n := by unfold B7; split <;> omega
theorem f02 (n : Int) (hn : D0 n) : Y5 n = some (s0a n) := by
 unfold Y5 s0a
 by_cases h0 : n = 0
 ·rw [if_pos (by simpa using h0), if_pos h0]
 ·rw [if_neg (by simpa using h0), if_neg h0]
  have h := U9 n 20 n.natAbs N0 [] (by have := hn.1; have := hn.2; omega) (by unfold N0; omega) (by have := hn.1; have := hn.2; omega) (by simp) (by have := hn.2; omega)
  rw [u0a] at h
  rw [h, Option.bind_some]
  have hl := U06 20 n.natAbs []
  simp only [List.length_nil] at hl
  by_cases hneg : n < 0
  ·rw [if_pos (by simpa using hneg), if_pos hneg, C0 (by have e := t7 (k03 20 n.natAbs []); have e1 : (⟨#[45]⟩ : ByteArray).size = 1 := rfl; omega), Option.bind_some]
   exact congrArg some (J0c [45] _)
  ·rw [if_neg (by simpa using hneg), if_neg hneg]
def Q04 : Nat → Nat → List Int
 | 0, _ => []
 | f + 1, m => if m = 0 then [] else ((48 + m % 10 : Nat) : Int) :: Q04 f (m / 10)
theorem v0a : ∀ (f m : Nat), (Q04 f m).length ≤ f
 | 0, m => by simp [Q04]
 | f + 1, m => by
  simp only [Q04]
  split
  ·simp
  ·have := v0a f (m / 10)
   simp only [List.length_cons]; omega
theorem D05 : ∀ (f m : Nat) (acc : List UInt8), k03 f m acc = (Q04 f m).reverse.map (fun x => UInt8.ofNat x.toNat) ++ acc
 | 0, m, acc => by simp [k03, Q04]
 | f + 1, m, acc => by
  simp only [k03, Q04]
  split
  ·simp
  ·rw [D05 f (m / 10)]
   simp only [List.reverse_cons, List.map_append, List.map_cons, List.map_nil, Int.toNat_natCast, List.append_assoc, List.singleton_append]
theorem V9 (n : Int) : ∀ (f m fuel : Nat) (acc : List Int), m < 10 ^ f → f < fuel → m ≤ 9223372036854775808 → acc.length + f ≤ 100 → (n < 0 ∨ m ≤ 9223372036854775807) →
  Y1 fuel (B7 n m) acc = some (acc ++ Q04 f m)
 | f, m, 0, acc, h1, h2, h3, h4, h5 => by omega
 | 0, m, fuel + 1, acc, h1, h2, h3, h4, h5 => by
  have : m = 0 := by simp at h1; exact h1
  subst this
  rw [Y1.eq_2, show B7 n 0 = 0 by unfold B7; split <;> simp]
  simp [Q04]
 | f + 1, m, fuel + 1, acc, h1, h2, h3, h4, h5 => by
  rw [Y1.eq_2]
  by_cases h0 : m = 0
  ·subst h0
   rw [show B7 n 0 = 0 by unfold B7; split <;> simp]
   simp [Q04]
  ·have hs : B7 n m ≠ 0 := fun e => h0 (t0a.1 e)
   have next := V9 n f (m / 10) fuel (acc ++ [((48 + m % 10 : Nat) : Int)]) (by rw [Nat.pow_succ] at h1; omega) (by omega) (by omega) (by simp only [List.length_append, List.length_singleton]; omega) (by omega)
   have hq : IntKind.i64.wrap ((B7 n m).tdiv 10) = B7 n (m / 10) := by
    rw [Z0b]
    have := g0f (n := n) (m := m / 10) (by omega) (by omega)
    exact w64 this.1 this.2
   rw [if_pos (by simpa using hs), hq, Y0b]
   simp only [show ∀ k : Unit → Option (List Int), (grd (10 ≠ 0)).bind k = k () from fun k => rfl]
   have key : ∀ X : Int, X = ((m % 10 : Nat) : Int) → ((grd ((acc.length + [IntKind.u8.wrap (IntKind.i64.wrap (48 + X))].length) * 1 ≤ 140737488355328)).bind fun _ =>
     Y1 fuel (B7 n (m / 10)) (acc ++ [IntKind.u8.wrap (IntKind.i64.wrap (48 + X))])) = some (acc ++ Q04 (f + 1) m) := fun X hX => by
    have hX' : IntKind.u8.wrap (IntKind.i64.wrap (48 + X)) = ((48 + m % 10 : Nat) : Int) := by
     rw [hX]
     simp [IntKind.wrap, IntKind.signed, IntKind.bits]
     omega
    rw [hX', C0 (by simp only [List.length_singleton]; omega), Option.bind_some, next]
    simp [Q04, h0]
   by_cases hneg : B7 n (m % 10) < 0
   ·rw [if_pos (by simpa using hneg)]
    refine key _ ?_
    unfold B7 at hneg ⊢
    split at hneg
    ·rename_i hn
     rw [if_pos hn, w64 (by omega) (by omega)]; omega
    ·omega
   ·rw [if_neg (by simpa using hneg)]
    refine key _ ?_
    unfold B7 at hneg ⊢
    split at hneg
    ·rename_i hn
     rw [if_pos hn]; omega
    ·rename_i hn
     rw [if_neg hn]
theorem h0f (xs : List Int) (hn : xs.length ≤ 140737488355328) : ∀ (fuel i j : Nat) (ys : List Int), i + j + 1 = xs.length → j + 1 - i < fuel → ys.length = xs.length → (∀ t, t < xs.length → ys[t]? = if t < i ∨ j < t then xs[xs.length - 1 - t]? else xs[t]?) →
  G1 fuel (i : Int) (j : Int) ys = some xs.reverse
 | 0, i, j, ys, h1, h2, h3, h4 => by omega
 | fuel + 1, i, j, ys, h1, h2, h3, h4 => by
  rw [G1.eq_2]
  by_cases hij : i < j
  ·have gi1 := Y7 (show i < ys.length by omega)
   have gj1 := Y7 (show j < ys.length by omega)
   generalize hxi : ys[i] = xi at gi1
   generalize hxj : ys[j] = xj at gj1
   rw [if_pos (by simp; omega), l4 gj1, Option.bind_some, l4 gi1, Option.bind_some, Option.bind_some]
   rw [l4 (k := j) (x := xj) (by rw [List.getElem?_set]; simp; rw [if_neg (by omega)]; exact gj1), Option.bind_some, S6 hij (by omega), h08 (by omega) (by omega)]
   refine h0f xs hn fuel (i + 1) (j - 1) _ (by omega) (by omega) (by simpa using h3) (fun t ht => ?_)
   have e1 := h4 i (by omega)
   have e2 := h4 j (by omega)
   rw [if_neg (by omega)] at e1 e2
   rw [gi1] at e1
   rw [gj1] at e2
   simp only [Int.toNat_natCast]
   by_cases t1 : j = t
   ·subst t1
    rw [List.getElem?_set_self (by simp only [List.length_set]; omega), if_pos (Or.inr (by omega)), show xs.length - 1 - j = i by omega]
    exact e1
   ·rw [List.getElem?_set_ne t1]
    by_cases t2 : i = t
    ·subst t2
     rw [List.getElem?_set_self (by omega), if_pos (Or.inl (by omega)), show xs.length - 1 - i = j by omega]
     exact e2
    ·rw [List.getElem?_set_ne t2, h4 t ht]
     by_cases c : t < i ∨ j < t
     ·rw [if_pos c, if_pos (by omega)]
     ·rw [if_neg c, if_neg (by omega)]
  ·rw [if_neg (by simp; omega)]
   refine congrArg some (List.ext_getElem? fun t => ?_)
   rcases Nat.lt_or_ge t xs.length with ht | ht
   ·rw [h4 t ht, List.getElem?_reverse ht]
    by_cases c : t < i ∨ j < t
    ·rw [if_pos c]
    ·rw [if_neg c, show xs.length - 1 - t = t by omega]
   ·rw [List.getElem?_eq_none (by omega), List.getElem?_eq_none (by simpa using ht)]
theorem a0e (xs : List Int) (h0 : 0 < xs.length) (hn : xs.length ≤ 1000) : G1 N0 0 (IntKind.i64.wrap (((xs.length : Nat) : Int) - 1)) xs = some xs.reverse := by
 rw [h08 h0 (by omega)]
 exact h0f xs (by omega) N0 0 (xs.length - 1) xs (by omega) (by unfold N0; omega) rfl (fun t ht => by rw [if_neg (by omega)])
theorem g02 (n : Int) (hn : D0 n) : Z5 n = some (s0a n) := by
 unfold Z5 s0a
 by_cases h0 : n = 0
 ·rw [if_pos (by simpa using h0), if_pos h0]
 ·rw [if_neg (by simpa using h0), if_neg h0]
  have h := V9 n 20 n.natAbs N0 [] (by have := hn.1; have := hn.2; omega) (by unfold N0; omega) (by have := hn.1; have := hn.2; omega) (by simp) (by have := hn.2; omega)
  rw [u0a, List.nil_append] at h
  have hl := v0a 20 n.natAbs
  have hp : 0 < (Q04 20 n.natAbs).length := by simp only [Q04]; rw [if_neg (by omega)]; simp
  rw [h, Option.bind_some]
  simp only [Option.bind_some]
  by_cases hneg : n < 0
  ·rw [if_pos (by simpa using hneg), if_pos hneg, C0 (by simp only [List.length_singleton]; omega), Option.bind_some, C0 (by simp only [List.length_append, List.length_singleton]; omega), Option.bind_some,
    a0e _ (by simp) (by simp only [List.length_append, List.length_singleton]; omega), Option.bind_some, C0 (by simp only [List.length_reverse, List.length_append, List.length_singleton]; omega), Option.bind_some, D05]
   simp [strOfNums]
  ·rw [if_neg (by simpa using hneg), if_neg hneg, C0 (by omega), Option.bind_some,
    a0e _ hp (by omega), Option.bind_some, C0 (by simp only [List.length_reverse]; omega), Option.bind_some, D05]
   simp [strOfNums]
end Go.Proofs.Ytknoadmdnjaocaa
namespace Go.Proofs.Ytknoadmdnjaocaa
open Go.H
set_option linter.unusedVariables false
set_option linter.unusedSimpArgs false
set_option maxRecDepth 10000
abbrev B (l : List UInt8) : ByteArray := ⟨l.toArray⟩
theorem h07 (l : List UInt8) : d0a (B l) ⟨#[]⟩ = l.isEmpty := by
 rw [D0d]
 cases l with
 | nil => rfl
 | cons x r =>
  rw [decide_eq_false (fun e => by have := congrArg ByteArray.size e; simp [B, ByteArray.size] at this)]
  rfl
def h02 (x : Int) : Bool := !(x == 0) && inR (-3) 3 x
def chL (x : Int) : UInt8 := if x < 0 then UInt8.ofNat (64 + x.natAbs) else UInt8.ofNat (96 + x.natAbs)
theorem T05 {x : Int} (hx : h02 x = true) : x = -3 ∨ x = -2 ∨ x = -1 ∨ x = 1 ∨ x = 2 ∨ x = 3 := by
 simp only [h02, inR, Bool.and_eq_true, Bool.not_eq_true', beq_eq_false_iff_ne, decide_eq_true_eq] at hx
 omega
theorem f0b (x : Int) : g7 x = some (h02 x) := by
 unfold g7 h02
 rw [w05]
 by_cases h : x = 0 <;> simp [h, chk]
theorem b0e (x : Int) (hx : h02 x = true) : A9 x = some (B [chL x]) := by
 rcases T05 hx with rfl | rfl | rfl | rfl | rfl | rfl <;> rfl
theorem g09 (x : Int) : J6 x = some (bif h02 x then B [chL x] else B []) := by
 cases hx : h02 x with
 | true => rcases T05 hx with rfl | rfl | rfl | rfl | rfl | rfl <;> rfl
 | false =>
  unfold J6
  rw [w00, w00]
  have h1 : inR 1 3 x = false := by
   simp only [h02, inR, Bool.and_eq_false_iff, Bool.not_eq_false', beq_iff_eq, decide_eq_false_iff_not] at hx ⊢
   omega
  have h2 : inR (-3) (-1) x = false := by
   simp only [h02, inR, Bool.and_eq_false_iff, Bool.not_eq_false', beq_iff_eq, decide_eq_false_iff_not] at hx ⊢
   omega
  rw [h1, h2]
  rfl
def z00 : List Int → Bool
 | [] => true
 | x :: r => h02 x && z00 r
def wl (w : List Int) : List UInt8 := match w with
 | [] => [49]
 | x :: r => (x :: r).map chL
def X03 (w : List Int) : ByteArray := bif z00 w then B (wl w) else B []
theorem L0f (w : List Int) : (wl w).length ≤ w.length + 1 := by cases w <;> simp [wl]
theorem w0a (w : List Int) : (X03 w).size ≤ w.length + 1 := by
 unfold X03
 cases z00 w with
 | false => show 0 ≤ _; omega
 | true => rw [cond_true, t7]; exact L0f w
theorem M9 (w : List Int) (hl : w.length ≤ 140737488355328) : ∀ (d k fuel : Nat) (acc : List UInt8), k + d = w.length → d < fuel → acc.length + d ≤ 140737488355328 →
  P2 w fuel (B acc) (k : Int) = some (bif z00 (w.drop k) then .inr (B (acc ++ (w.drop k).map chL)) else .inl (B []))
 | d, k, 0, acc, hk, hf, ha => by omega
 | 0, k, fuel + 1, acc, hk, hf, ha => by
  rw [P2.eq_2, if_neg (by simp; omega), M3 (by omega)]
  simp [z00]
 | d + 1, k, fuel + 1, acc, hk, hf, ha => by
  have hkl : k < w.length := by omega
  have hx := Y7 hkl
  generalize w[k] = x at hx
  have next := M9 w hl d (k + 1) fuel (acc ++ [chL x]) (by omega) (by omega) (by simp only [List.length_append, List.length_singleton]; omega)
  rw [U2 hx, P2.eq_2, if_pos (by simp; omega), l4 hx, Option.bind_some, f0b, Option.bind_some]
  simp only [z00]
  cases hlx : h02 x with
  | false => rfl
  | true =>
   rw [if_neg (by simp), Option.bind_some, b0e x hlx, Option.bind_some, C0 (by rw [t7]; simp), Option.bind_some, C0 (by rw [t7, t7]; simp only [List.length_singleton]; omega), Option.bind_some,
    J0c, S6 hkl (by omega : w.length ≤ 9223372036854775807), next]
   simp
theorem T7 (w : List Int) (hl : w.length ≤ 140737488355) : M1 w = some (X03 w) := by
 unfold M1
 have h := M9 w (by omega) w.length 0 N0 [] (by omega) (I2 (by omega)) (by simp only [List.length_nil]; omega)
 rw [show ((0 : Nat) : Int) = 0 from rfl, List.drop_zero, List.nil_append] at h
 rw [show (⟨#[]⟩ : ByteArray) = B [] from rfl, h, Option.bind_some]
 unfold X03
 cases z00 w with
 | false => rfl
 | true =>
  rw [cond_true, H0, show (B [] : ByteArray) = ⟨#[]⟩ from rfl, h07]
  cases w <;> rfl
theorem N9 (w : List Int) (hl : w.length ≤ 140737488355328) : ∀ (d k fuel : Nat) (acc : List UInt8), k + d = w.length → d < fuel → acc.length + d ≤ 140737488355328 →
  Q2 w fuel (B acc) (k : Int) = some (bif z00 (w.drop k) then .inr (B (acc ++ (w.drop k).map chL)) else .inl (B []))
 | d, k, 0, acc, hk, hf, ha => by omega
 | 0, k, fuel + 1, acc, hk, hf, ha => by
  rw [Q2.eq_2, if_neg (by simp; omega), M3 (by omega)]
  simp [z00]
 | d + 1, k, fuel + 1, acc, hk, hf, ha => by
  have hkl : k < w.length := by omega
  have hx := Y7 hkl
  generalize w[k] = x at hx
  have next := N9 w hl d (k + 1) fuel (acc ++ [chL x]) (by omega) (by omega) (by simp only [List.length_append, List.length_singleton]; omega)
  rw [U2 hx, Q2.eq_2, if_pos (by simp; omega), l4 hx, Option.bind_some, g09, Option.bind_some]
  simp only [z00]
  cases hlx : h02 x with
  | false => rw [cond_false, C0 (by rw [t7]; simp), Option.bind_some, h07]; rfl
  | true =>
   rw [cond_true, C0 (by rw [t7]; simp), Option.bind_some, h07, if_neg (by simp), C0 (by rw [t7, t7]; simp only [List.length_singleton]; omega), Option.bind_some,
    J0c, S6 hkl (by omega : w.length ≤ 9223372036854775807), next]
   simp
theorem U7 (w : List Int) (hl : w.length ≤ 140737488355) : N1 w = some (X03 w) := by
 unfold N1
 by_cases h0 : w.length = 0
 ·have : w = [] := List.length_eq_zero_iff.1 h0
  subst this
  rfl
 ·have h := N9 w (by omega) w.length 0 N0 [] (by omega) (I2 (by omega)) (by simp only [List.length_nil]; omega)
  rw [show ((0 : Nat) : Int) = 0 from rfl, List.drop_zero, List.nil_append] at h
  rw [if_neg (by simp; exact fun e => h0 (by rw [e]; rfl)), show (⟨#[]⟩ : ByteArray) = B [] from rfl, h, Option.bind_some]
  unfold X03
  cases z00 w with
  | false => rfl
  | true =>
   cases w with
   | nil => simp at h0
   | cons x r => rfl
def R04 (sep : UInt8) : List (List UInt8) → List UInt8
 | [] => []
 | x :: r => sep :: x ++ R04 sep r
def U05 (sep : UInt8) : List (List UInt8) → List UInt8
 | [] => []
 | x :: r => x ++ R04 sep r
def bsz : List (List UInt8) → Nat
 | [] => 0
 | x :: r => x.length + 1 + bsz r
theorem h09 : ∀ xs : List (List UInt8), xs.length ≤ bsz xs
 | [] => by simp
 | w :: r => by have := h09 r; simp only [bsz, List.length_cons]; omega
theorem i02 (sep : UInt8) (xs : List (List UInt8)) (hl : bsz xs ≤ 140737488355328) : ∀ (d k fuel : Nat) (acc : List UInt8), k + d = xs.length → d < fuel → acc.length + bsz (xs.drop k) ≤ 140737488355328 →
  H5 (xs.map B) (B [sep]) fuel (B acc) (k : Int) = some (B (acc ++ R04 sep (xs.drop k)))
 | d, k, 0, acc, hk, hf, ha => by omega
 | 0, k, fuel + 1, acc, hk, hf, ha => by
  rw [H5.eq_2, if_neg (by simp; omega), M3 (by omega)]
  simp [R04]
 | d + 1, k, fuel + 1, acc, hk, hf, ha => by
  have hkl : k < xs.length := by omega
  have hx := Y7 hkl
  have hlen := h09 xs
  generalize xs[k] = x at hx
  rw [U2 hx] at ha ⊢
  simp only [bsz] at ha
  have next := i02 sep xs hl d (k + 1) fuel (acc ++ [sep] ++ x) (by omega) (by omega) (by simp only [List.length_append, List.length_singleton]; omega)
  rw [H5.eq_2, if_pos (by simp; omega), l4 (x := B x) (by rw [List.getElem?_map, hx]; rfl), Option.bind_some, C0 (by rw [t7, t7]; simp only [List.length_singleton]; omega), Option.bind_some, J0c,
   C0 (by rw [t7, t7]; simp only [List.length_append, List.length_singleton]; omega), Option.bind_some, J0c, S6 hkl (by omega : xs.length ≤ 9223372036854775807), next]
  simp [R04]
def a0c (sep : UInt8) (e : ByteArray) : List (List UInt8) → ByteArray
 | [] => e
 | x :: r => B (U05 sep (x :: r))
theorem P0e (sep : UInt8) (e : ByteArray) (xs : List (List UInt8)) (hl : bsz xs ≤ 140737488355328) : R8 (xs.map B) (B [sep]) e = some (a0c sep e xs) := by
 unfold R8
 cases xs with
 | nil => rfl
 | cons x r =>
  simp only [bsz] at hl
  have hlen := h09 r
  have h := i02 sep r (by omega) r.length 0 N0 x (by omega) (I2 (by omega)) (by rw [List.drop_zero]; omega)
  rw [show ((0 : Nat) : Int) = 0 from rfl, List.drop_zero] at h
  rw [if_neg (by simp; omega), C0f (x := B x) rfl, Option.bind_some, B00, if_pos (by simp; omega), Option.bind_some]
  have e1 : (List.drop (1 : Int).toNat (List.take ((((x :: r).map B).length : Nat) : Int).toNat ((x :: r).map B))) = r.map B := by
   rw [Int.toNat_natCast, List.take_length]; rfl
  rw [e1, h]
  rfl
theorem K0c (n : Int) : (s0a n).size ≤ 21 := by
 unfold s0a
 have := U06 20 n.natAbs []
 simp only [List.length_nil] at this
 split
 ·show 1 ≤ _; omega
 ·split
  ·rw [t7]; simp only [List.length_cons]; omega
  ·rw [t7]; omega
end Go.Proofs.Ytknoadmdnjaocaa
namespace Go.Proofs.Ytknoadmdnjaocaa
open Go.H
set_option linter.unusedVariables false
set_option linter.unusedSimpArgs false
set_option maxRecDepth 10000
def fI (n : Int) : List UInt8 := if n = 0 then [48] else if n < 0 then 45 :: k03 20 n.natAbs [] else k03 20 n.natAbs []
theorem g0b (n : Int) : s0a n = B (fI n) := by
 unfold s0a fI
 split
 ·rfl
 ·split <;> rfl
theorem i09 (n : Int) : (fI n).length ≤ 21 := by
 have := K0c n
 rw [g0b, t7] at this
 exact this
theorem x0a : ∀ xs : List (List UInt8), (R04 32 xs).length = bsz xs
 | [] => rfl
 | x :: r => by
  have := x0a r
  simp only [R04, bsz, List.length_cons, List.length_append]
  omega
end Go.Proofs.Ytknoadmdnjaocaa
namespace Go.Proofs.Ytknoadmdnjaocaa
open Go.H
set_option linter.unusedVariables false
set_option linter.unusedSimpArgs false
set_option maxRecDepth 10000
theorem c0e (xs : List (List UInt8)) (hx : xs ≠ []) (hl : bsz xs ≤ 1000000000) : K6 (xs.map B) = some (B (U05 32 xs)) := by
 unfold K6
 rw [show (⟨#[32]⟩ : ByteArray) = B [32] from rfl, P0e 32 _ xs (by omega), Option.bind_some]
 cases xs with
 | nil => exact absurd rfl hx
 | cons x r =>
  have h1 := x0a r
  simp only [bsz] at hl
  rw [show ∀ e, a0c 32 e (x :: r) = B (U05 32 (x :: r)) from fun e => rfl, C0 (by rw [t7]; simp only [U05, List.length_append]; omega)]
  rfl
end Go.Proofs.Ytknoadmdnjaocaa
namespace Go.Proofs.Ytknoadmdnjaocaa
open Go.H
set_option linter.unusedVariables false
set_option linter.unusedSimpArgs false
set_option maxRecDepth 10000
theorem q08 (w : List Int) : T6 w w.length = w := by simp [T6]
theorem L0c {w : List Int} {k : Nat} (hk : k ≤ w.length) (h1 : 1 ≤ k) (hl : w.length ≤ 300000) : I3 w (k : Int) = some (T6 w k) := by
 by_cases c : k < w.length
 ·exact l9 w c (by omega)
 ·have e : k = w.length := by omega
  rw [e, q08]
  have h0 := l9 w (k := 0) (by omega) (by omega)
  rw [h03] at h0
  rw [← h0]
  unfold I3
  rw [show Int.tmod ((w.length : Nat) : Int) ((w.length : Nat) : Int) = Int.tmod ((0 : Nat) : Int) ((w.length : Nat) : Int) by rw [tmN, tmN, Nat.mod_self, Nat.zero_mod]]
theorem r08 (w : List Int) (a b : Int) (h : Int.tmod a ((w.length : Nat) : Int) = Int.tmod b ((w.length : Nat) : Int)) : ∀ (fuel : Nat) (i : Int) (acc : List Int), Y0 w a fuel i acc = Y0 w b fuel i acc
 | 0, i, acc => rfl
 | fuel + 1, i, acc => by
  rw [Y0.eq_2, Y0.eq_2, h]
  simp only [r08 w a b h fuel]
theorem M0c {w : List Int} {k : Nat} (hk : k ≤ w.length) (h1 : 1 ≤ k) (hl : w.length ≤ 300000) : G3 w (k : Int) = some (T6 w k) := by
 by_cases c : k < w.length
 ·exact n9 w c (by omega)
 ·have e : k = w.length := by omega
  rw [e, q08]
  have h0 := n9 w (k := 0) (by omega) (by omega)
  rw [h03] at h0
  rw [← h0]
  unfold G3
  rw [r08 w ((w.length : Nat) : Int) ((0 : Nat) : Int) (by rw [tmN, tmN, Nat.mod_self, Nat.zero_mod])]
def rtA (c p : List Int) : Nat → Nat → List Int × Int
 | 0, _ => ([], 0)
 | d + 1, k => if c.length % k = 0 ∧ T6 c k = c then ((B5 [] (p ++ c.take k ++ inv p)).reverse, ((c.length / k : Nat) : Int)) else rtA c p d (k + 1)
theorem tdN (a b : Nat) : Int.tdiv (a : Int) (b : Int) = ((a / b : Nat) : Int) := (Int.ofNat_tdiv a b).symm
theorem i0f {r : Int} (hr : r ≤ 3) {c p : List Int} (hc : sm r c) (hp : sm r p) (hl : c.length ≤ 1000 ∧ p.length ≤ 1000) : ∀ (d k fuel : Nat), k + d = c.length + 1 → 1 ≤ k → d < fuel →
  (T4 c p fuel (k : Int)).bind (fun X => r8 X (fun _ => some (([] : i0), 0))) = some (rtA c p d k)
 | d, k, 0, hd, hk, hf => by omega
 | 0, k, fuel + 1, hd, hk, hf => by
  rw [T4.eq_2, if_neg (by simp only [decide_eq_true_eq]; omega)]; rfl
 | d + 1, k, fuel + 1, hd, hk, hf => by
  have ih := i0f hr hc hp hl d (k + 1) fuel (by omega) (by omega) (by omega)
  have hrot := M0c (w := c) (k := k) (by omega) hk (by omega)
  have heq := B01 (a := T6 c k) (b := c) (by rw [Z6 c (by omega)]; omega)
  rw [T4.eq_2, if_pos (by simp only [decide_eq_true_eq]; omega), C0 (by omega), Option.bind_some, tmN, rtA, S6 (show k < 10000 by omega) (by omega)]
  by_cases c1 : c.length % k = 0
  ·rw [show decide (((c.length % k : Nat) : Int) = 0) = true from decide_eq_true (by omega)]
   simp only [w5, hrot, heq, Option.bind_some, cond_true]
   by_cases c2 : T6 c k = c
   ·have hcut := K04 (xs := c) (k := k) (by omega)
    have hct : W7 (c.take k) := fun x hx => l0a hr hc x (List.mem_of_mem_take hx)
    have h1 := T9 p (c.take k) (l0a hr hp) hct (by rw [List.length_take]; omega)
    have hx64 : W7 (B5 [] (p ++ c.take k)).reverse := X0a _ (l08 (l0a hr hp) hct)
    have hxl := L8 (p ++ c.take k) []
    simp only [List.length_nil, List.length_append, List.length_take] at hxl
    have h2 := T9 (B5 [] (p ++ c.take k)).reverse (inv p) hx64 (D0f p) (by rw [List.length_reverse, W01]; omega)
    rw [show eqW (T6 c k) c = true by simp [eqW, c2], if_pos rfl, if_pos ⟨c1, c2⟩, hcut, Option.bind_some, h1, Option.bind_some, j9 p (by omega), Option.bind_some, h2, Option.bind_some, Option.bind_some, tdN, W0a,
     w64 (x := ((c.length / k : Nat) : Int)) (by have := Int.natCast_nonneg (c.length / k); omega) (by have := Int.ofNat_le.2 (Nat.div_le_self c.length k); omega)]
    rfl
   ·rw [show eqW (T6 c k) c = false by simp [eqW, c2], if_neg (by simp), if_neg (fun h => c2 h.2)]
    exact ih
  ·rw [show decide (((c.length % k : Nat) : Int) = 0) = false from decide_eq_false (by omega)]
   simp only [M4, Option.bind_some, cond_false, Bool.false_eq_true, if_false]
   rw [if_neg (fun h => c1 h.1)]
   exact ih
theorem j0f {r : Int} (hr : r ≤ 3) {c p : List Int} (hc : sm r c) (hp : sm r p) (hl : c.length ≤ 1000 ∧ p.length ≤ 1000) : ∀ (d k fuel : Nat), k + d = c.length + 1 → 1 ≤ k → d < fuel →
  (U4 c p fuel (k : Int)).bind (fun X => r8 X (fun _ => some (([] : i0), 0))) = some (rtA c p d k)
 | d, k, 0, hd, hk, hf => by omega
 | 0, k, fuel + 1, hd, hk, hf => by
  rw [U4.eq_2, if_neg (by simp only [decide_eq_true_eq]; omega)]; rfl
 | d + 1, k, fuel + 1, hd, hk, hf => by
  have ih := j0f hr hc hp hl d (k + 1) fuel (by omega) (by omega) (by omega)
  have hrot := L0c (w := c) (k := k) (by omega) hk (by omega)
  have heq := z05 (a := T6 c k) (b := c) (by rw [Z6 c (by omega)]; omega)
  rw [U4.eq_2, if_pos (by simp only [decide_eq_true_eq]; omega), C0 (by omega), Option.bind_some, tmN, rtA, S6 (show k < 10000 by omega) (by omega)]
  by_cases c1 : c.length % k = 0
  ·rw [show decide (((c.length % k : Nat) : Int) = 0) = true from decide_eq_true (by omega)]
   simp only [w5, hrot, heq, Option.bind_some, cond_true]
   by_cases c2 : T6 c k = c
   ·have hcut := K04 (xs := c) (k := k) (by omega)
    have h2 := b01 [p, c.take k, inv p] (by simp) (by simp only [i0a, W01, List.length_take]; omega)
    have h3 : Y0a [] [p, c.take k, inv p] = B5 [] (p ++ c.take k ++ inv p) := by simp only [Y0a, A01]
    rw [show eqW (T6 c k) c = true by simp [eqW, c2], if_pos rfl, if_pos ⟨c1, c2⟩, hcut, Option.bind_some, z01 p (by omega), Option.bind_some, h2, Option.bind_some, Option.bind_some, tdN, h3,
     w64 (x := ((c.length / k : Nat) : Int)) (by have := Int.natCast_nonneg (c.length / k); omega) (by have := Int.ofNat_le.2 (Nat.div_le_self c.length k); omega)]
    rfl
   ·rw [show eqW (T6 c k) c = false by simp [eqW, c2], if_neg (by simp), if_neg (fun h => c2 h.2)]
    exact ih
  ·rw [show decide (((c.length % k : Nat) : Int) = 0) = false from decide_eq_false (by omega)]
   simp only [M4, Option.bind_some, cond_false, Bool.false_eq_true, if_false]
   rw [if_neg (fun h => c1 h.1)]
   exact ih
def N5 (w : List Int) : List Int × Int := rtA (j4 w).1 (j4 w).2 (j4 w).1.length 1
theorem h0b {r : Int} (hr : r ≤ 3) {w : List Int} (hs : sm r w) (hl : w.length ≤ 1000) : g8 w = some (N5 w) := by
 have h1 := c07 hr hs (by omega)
 have h2 := B05 w
 have h3 := f07 hs
 have h4 := i0f hr h3.1 h3.2 (by omega) (j4 w).1.length 1 N0 (by omega) (by omega) (I2 (by omega))
 rw [show ((1 : Nat) : Int) = 1 from rfl] at h4
 unfold g8 N5
 rw [h1, Option.bind_some]
 generalize j4 w = q at *
 obtain ⟨a, b⟩ := q
 exact h4
theorem i0b {r : Int} (hr : r ≤ 3) {w : List Int} (hs : sm r w) (hl : w.length ≤ 1000) : i8 w = some (N5 w) := by
 have h1 := M04 hr hs (by omega)
 have h2 := B05 w
 have h3 := f07 hs
 have h4 := j0f hr h3.1 h3.2 (by omega) (j4 w).1.length 1 N0 (by omega) (by omega) (I2 (by omega))
 rw [show ((1 : Nat) : Int) = 1 from rfl] at h4
 unfold i8 N5
 rw [h1, Option.bind_some]
 generalize j4 w = q at *
 obtain ⟨a, b⟩ := q
 exact h4
theorem s08 {r : Int} {c p : List Int} (hc : sm r c) (hp : sm r p) (hr : r ≤ 3) : ∀ (d k : Nat), sm r (rtA c p d k).1 ∧ (rtA c p d k).1.length ≤ c.length + 2 * p.length ∧ 0 ≤ (rtA c p d k).2 ∧ (rtA c p d k).2 ≤ c.length
 | 0, k => ⟨(fun x hx => by cases hx), by simp [rtA], by simp [rtA], by simp [rtA]⟩
 | d + 1, k => by
  unfold rtA
  split
  ·have h1 := L8 (p ++ c.take k ++ inv p) []
   simp only [List.length_nil, List.length_append, List.length_take, W01] at h1
   have h2 := Nat.div_le_self c.length k
   refine ⟨fun x hx => Z01 _ [] (fun y hy => by cases hy) (fun y hy => ?_) x (List.mem_reverse.1 hx), by rw [List.length_reverse]; omega, Int.natCast_nonneg _, Int.ofNat_le.2 h2⟩
   rcases List.mem_append.1 hy with hy | hy
   ·rcases List.mem_append.1 hy with hy | hy
    ·exact hp y hy
    ·exact hc y (List.mem_of_mem_take hy)
   ·exact X0d hr hp y hy
  ·exact s08 hc hp hr d (k + 1)
def esS (o : List Int) (x : Int) : List Int := if 0 < x then o.set (x.toNat - 1) (o.getD (x.toNat - 1) 0 + 1) else o.set ((-x).toNat - 1) (o.getD ((-x).toNat - 1) 0 - 1)
def i07 (o : List Int) (n : Nat) (b : Int) : Prop := o.length = n ∧ ∀ x ∈ o, -b ≤ x ∧ x ≤ b
theorem p9 {o : List Int} {n : Nat} {b : Int} (h : i07 o n b) {i : Nat} (hi : i < n) : -b ≤ o.getD i 0 ∧ o.getD i 0 ≤ b ∧ gi o (i : Int) = some (o.getD i 0) := by
 have hl := h.1
 have e : o[i]? = some (o.getD i 0) := by rw [List.getD_eq_getElem?_getD, List.getElem?_eq_getElem (by omega)]; rfl
 have := h.2 _ (List.mem_of_getElem? e)
 exact ⟨this.1, this.2, l4 e⟩
theorem t08 {o : List Int} {r x : Int} {b : Int} (h : i07 o r.toNat b) (hb : 0 ≤ b) (hx : x ≠ 0 ∧ -r ≤ x ∧ x ≤ r) : i07 (esS o x) r.toNat (b + 1) := by
 have key : ∀ (i : Nat) (v : Int), (-(b + 1) ≤ v ∧ v ≤ b + 1) → i07 (o.set i v) r.toNat (b + 1) := fun i v hv => by
  refine ⟨by rw [List.length_set]; exact h.1, fun y hy => ?_⟩
  rcases List.mem_or_eq_of_mem_set hy with hy | rfl
  ·have := h.2 y hy; omega
  ·exact hv
 unfold esS
 split
 ·have := p9 h (i := x.toNat - 1) (by omega)
  exact key _ _ (by omega)
 ·have := p9 h (i := (-x).toNat - 1) (by omega)
  exact key _ _ (by omega)
theorem k0f {r : Int} (hr : 1 ≤ r ∧ r ≤ 3) {w : List Int} (hs : sm r w) (hl : w.length ≤ 1000) : ∀ (d k fuel : Nat) (o : List Int), k + d = w.length → d < fuel → i07 o r.toNat (k : Int) →
  D1 w r fuel (k : Int) o = some ((w.drop k).foldl esS o)
 | d, k, 0, o, hd, hf, ho => by omega
 | 0, k, fuel + 1, o, hd, hf, ho => by
  rw [D1.eq_2, if_neg (by simp only [decide_eq_true_eq]; omega), M3 (by omega)]; rfl
 | d + 1, k, fuel + 1, o, hd, hf, ho => by
  have hk : k < w.length := by omega
  have hx := Y7 hk
  have hm := hs _ (List.mem_of_getElem? hx)
  have hdr := U2 hx
  generalize w[k] = x at hx hm hdr
  have hsm := t08 ho (by omega) hm
  have ih := k0f hr hs hl d (k + 1) fuel (esS o x) (by omega) (by omega) (by rw [show ((k + 1 : Nat) : Int) = (k : Int) + 1 by omega]; exact hsm)
  rw [D1.eq_2, if_pos (by simp only [decide_eq_true_eq]; omega), hdr, List.foldl_cons, ← ih, S6 hk (by omega)]
  simp only [l4 hx, Option.bind_some, decide_eq_false hm.1, Bool.not_false, w5, w05, cond_true]
  rw [w64 (x := 0 - r) (by omega) (by omega), show inR (0 - r) r x = true by simp [inR]; omega, if_pos rfl]
  unfold esS W5
  by_cases c : 0 < x
  ·have hg := p9 ho (i := x.toNat - 1) (by omega)
   rw [if_neg (by simp only [decide_eq_true_eq]; omega), Option.bind_some, C0 (show D0 x from ⟨by omega, by omega⟩), Option.bind_some, if_pos (by simp only [decide_eq_true_eq]; omega), w64 (x := x - 1) (by omega) (by omega),
    show x - 1 = ((x.toNat - 1 : Nat) : Int) by omega, hg.2.2, Option.bind_some, Option.bind_some, w64 (by omega) (by omega), Int.toNat_natCast, if_pos c]
  ·have hg := p9 ho (i := (-x).toNat - 1) (by omega)
   rw [if_pos (by simp only [decide_eq_true_eq]; omega), w64 (x := 0 - x) (by omega) (by omega), Option.bind_some, C0 (show D0 (0 - x) from ⟨by omega, by omega⟩), Option.bind_some, if_neg (by simp only [decide_eq_true_eq]; omega), w64 (x := 0 - x - 1) (by omega) (by omega),
    show 0 - x - 1 = (((-x).toNat - 1 : Nat) : Int) by omega, hg.2.2, Option.bind_some, Option.bind_some, w64 (by omega) (by omega), Int.toNat_natCast, if_neg c]
theorem l0f {r : Int} (hr : 1 ≤ r ∧ r ≤ 3) {w : List Int} (hs : sm r w) (hl : w.length ≤ 1000) : ∀ (d k fuel : Nat) (o : List Int), k + d = w.length → d < fuel → i07 o r.toNat (k : Int) →
  E1 w r fuel (k : Int) o = some ((w.drop k).foldl esS o)
 | d, k, 0, o, hd, hf, ho => by omega
 | 0, k, fuel + 1, o, hd, hf, ho => by
  rw [E1.eq_2, if_neg (by simp only [decide_eq_true_eq]; omega), M3 (by omega)]; rfl
 | d + 1, k, fuel + 1, o, hd, hf, ho => by
  have hk : k < w.length := by omega
  have hx := Y7 hk
  have hm := hs _ (List.mem_of_getElem? hx)
  have hdr := U2 hx
  generalize w[k] = x at hx hm hdr
  have hsm := t08 ho (by omega) hm
  have ih := l0f hr hs hl d (k + 1) fuel (esS o x) (by omega) (by omega) (by rw [show ((k + 1 : Nat) : Int) = (k : Int) + 1 by omega]; exact hsm)
  rw [E1.eq_2, if_pos (by simp only [decide_eq_true_eq]; omega), hdr, List.foldl_cons, ← ih, S6 hk (by omega)]
  simp only [l4 hx, Option.bind_some, w00]
  unfold esS
  by_cases c : 0 < x
  ·have hg := p9 ho (i := x.toNat - 1) (by omega)
   rw [if_pos (show inR 1 r x = true by simp [inR]; omega), w64 (x := x - 1) (by omega) (by omega),
    show x - 1 = ((x.toNat - 1 : Nat) : Int) by omega, hg.2.2, Option.bind_some, Option.bind_some, w64 (by omega) (by omega), Int.toNat_natCast, if_pos c]
  ·have hg := p9 ho (i := (-x).toNat - 1) (by omega)
   rw [if_neg (show ¬ inR 1 r x = true by simp [inR]; omega), w64 (x := 0 - r) (by omega) (by omega), if_pos (show inR (0 - r) (-1) x = true by simp [inR]; omega), w64 (x := 0 - x) (by omega) (by omega), w64 (x := 0 - x - 1) (by omega) (by omega),
    show 0 - x - 1 = (((-x).toNat - 1 : Nat) : Int) by omega, hg.2.2, Option.bind_some, Option.bind_some, w64 (by omega) (by omega), Int.toNat_natCast, if_neg c]
def E05 (r : Int) (w : List Int) : List Int := w.foldl esS (List.replicate r.toNat 0)
theorem u08 (n : Nat) : i07 (List.replicate n (0 : Int)) n 0 := ⟨by simp, fun x hx => by rw [List.eq_of_mem_replicate hx]; omega⟩
theorem d0e {r : Int} (hr : 1 ≤ r ∧ r ≤ 3) {w : List Int} (hs : sm r w) (hl : w.length ≤ 1000) : Q5 r w = some (E05 r w) := by
 have h := k0f hr hs hl w.length 0 N0 (List.replicate r.toNat 0) (by omega) (I2 (by omega)) (u08 _)
 rw [show ((0 : Nat) : Int) = 0 from rfl, List.drop_zero] at h
 unfold Q5 E05
 rw [w05, Option.bind_some, show inR 1 3 r = true by simp [inR]; omega, if_neg (by simp), C0 (by omega), Option.bind_some, h, Option.bind_some]
theorem e0e {r : Int} (hr : 1 ≤ r ∧ r ≤ 3) {w : List Int} (hs : sm r w) (hl : w.length ≤ 1000) : T5 r w = some (E05 r w) := by
 have h := l0f hr hs hl w.length 0 N0 (List.replicate r.toNat 0) (by omega) (I2 (by omega)) (u08 _)
 rw [show ((0 : Nat) : Int) = 0 from rfl, List.drop_zero] at h
 unfold T5 E05
 rw [w00, Option.bind_some, show inR 1 3 r = true by simp [inR]; omega, if_neg (by simp), C0 (by omega), Option.bind_some, h, Option.bind_some]
theorem f0e {r : Int} : ∀ (w o : List Int), (w.foldl esS o).length = o.length
 | [], o => rfl
 | x :: w, o => by
  rw [List.foldl_cons, f0e (r := r) w]
  unfold esS
  split <;> rw [List.length_set]
def j0b (l : List Int) : Bool := l.all fun x => decide (x = 0)
theorem l0g (l : List Int) (hl : l.length ≤ 1000) : ∀ (d k fuel : Nat), k + d = l.length → d < fuel → d4 l fuel (k : Int) = some (bif j0b (l.drop k) then .inr () else .inl false)
 | d, k, 0, hd, hf => by omega
 | 0, k, fuel + 1, hd, hf => by
  rw [d4.eq_2, if_neg (by simp only [decide_eq_true_eq]; omega), M3 (by omega)]; rfl
 | d + 1, k, fuel + 1, hd, hf => by
  have hk : k < l.length := by omega
  have hx := Y7 hk
  have hdr := U2 hx
  generalize l[k] = x at hx hdr
  have ih := l0g l hl d (k + 1) fuel (by omega) (by omega)
  rw [d4.eq_2, if_pos (by simp only [decide_eq_true_eq]; omega), l4 hx, Option.bind_some, S6 hk (by omega), ih, hdr]
  unfold j0b
  rw [List.all_cons]
  cases decide (x = 0) <;> rfl
theorem m0g (l : List Int) (hl : l.length ≤ 1000) : ∀ (d k fuel : Nat), k + d = l.length → d < fuel → w3 l fuel (k : Int) = some (bif j0b (l.drop k) then .inr () else .inl false)
 | d, k, 0, hd, hf => by omega
 | 0, k, fuel + 1, hd, hf => by
  rw [w3.eq_2, if_neg (by simp only [decide_eq_true_eq]; omega), M3 (by omega)]; rfl
 | d + 1, k, fuel + 1, hd, hf => by
  have hk : k < l.length := by omega
  have hx := Y7 hk
  have hdr := U2 hx
  generalize l[k] = x at hx hdr
  have ih := m0g l hl d (k + 1) fuel (by omega) (by omega)
  rw [w3.eq_2, if_pos (by simp only [decide_eq_true_eq]; omega), l4 hx, Option.bind_some, S6 hk (by omega), ih, hdr]
  unfold j0b
  rw [List.all_cons]
  cases decide (x = 0) <;> rfl
def S04 (r : Int) (w : List Int) : Bool := T1 r w && j0b (E05 r w)
theorem h06 {r : Int} (hr : 1 ≤ r ∧ r ≤ 3) (w : List Int) : (E05 r w).length ≤ 3 := by
 unfold E05
 rw [f0e (r := r), List.length_replicate]; omega
theorem N0c (r : Int) (w : List Int) (hw : w.length ≤ 140737488355328) : U6 r w = some (S04 r w) := by
 unfold U6 S04
 rw [S7 r w hw, Option.bind_some]
 cases h : T1 r w with
 | false => rfl
 | true =>
  obtain ⟨hr, hs, hl⟩ := l8 h
  have h1 := d0e hr hs (by omega)
  have h2 := l0g (E05 r w) (by have := h06 hr w; omega) (E05 r w).length 0 N0 (by omega) (I2 (by have := h06 hr w; omega))
  rw [show ((0 : Nat) : Int) = 0 from rfl, List.drop_zero] at h2
  simp only [w5, h1, Option.bind_some, cond_true, Bool.true_and]
  unfold O8
  rw [h2]
  cases j0b (E05 r w) <;> rfl
theorem O0c (r : Int) (w : List Int) (hw : w.length ≤ 140737488355328) : X5 r w = some (S04 r w) := by
 unfold X5 S04
 rw [d00 r w hw, Option.bind_some]
 cases h : T1 r w with
 | false => rfl
 | true =>
  obtain ⟨hr, hs, hl⟩ := l8 h
  have h1 := e0e hr hs (by omega)
  have h2 := m0g (E05 r w) (by have := h06 hr w; omega) (E05 r w).length 0 N0 (by omega) (I2 (by have := h06 hr w; omega))
  rw [show ((0 : Nat) : Int) = 0 from rfl, List.drop_zero] at h2
  rw [if_neg (by simp), h1, Option.bind_some, h2]
  cases j0b (E05 r w) <;> rfl
end Go.Proofs.Ytknoadmdnjaocaa
namespace Go.Proofs.Ytknoadmdnjaocaa
open Go.H
set_option linter.unusedVariables false
set_option linter.unusedSimpArgs false
set_option maxRecDepth 10000
def bl (b : ByteArray) : List UInt8 := b.data.toList
theorem y0a (b : ByteArray) : b = B (bl b) := by
 obtain ⟨d⟩ := b
 simp [bl, B]
theorem M0f (b : ByteArray) : (bl b).length = b.size := by
 obtain ⟨d⟩ := b
 simp [bl, ByteArray.size]
def W1 (w : List Int) : List UInt8 := bl (X03 w)
theorem N02 (w : List Int) : (W1 w).length ≤ w.length + 1 := by unfold W1; rw [M0f]; exact w0a w
def wlT (r : Int) (w : List Int) : List UInt8 := W1 w ++ [32, 99, 111, 114, 101, 32] ++ W1 (j4 w).1 ++ [32, 98, 121, 32] ++ W1 (j4 w).2 ++ [32, 114, 111, 111, 116, 32] ++ W1 (N5 w).1 ++ [32, 116, 111, 32] ++ fI (N5 w).2 ++ [32, 115, 104, 111, 114, 116, 101, 115, 116, 32] ++ fI (s7 r w)
def r9 (r : Int) (w : List Int) : ByteArray := bif T1 r w then B (wlT r w ++ (bif M02 r w then [32, 112, 114, 105, 109, 105, 116, 105, 118, 101] else []) ++ (bif S04 r w then [32, 100, 101, 114, 105, 118, 101, 100] else [])) else B []
theorem g0e (b : Bool) (s : List UInt8) : n7 b (B s) = some (B (bif b then s else [])) := by
 unfold n7
 cases b <;> rfl
theorem j07 {r : Int} {w : List Int} (h : T1 r w = true) : (j4 w).1.length ≤ 24 ∧ (j4 w).2.length ≤ 24 ∧ (N5 w).1.length ≤ 72 ∧ D0 (N5 w).2 ∧ D0 (s7 r w) := by
 obtain ⟨hr, hs, hl⟩ := l8 h
 have h1 := B05 w
 have h2 := f07 hs
 have h3 := s08 h2.1 h2.2 hr.2 (j4 w).1.length 1
 have h4 := K0f r w
 have h5 : s7 r w = (((W05 r w).1.length : Nat) : Int) := by unfold s7; rw [h]; rfl
 have h6 : (N5 w).1.length ≤ (j4 w).1.length + 2 * (j4 w).2.length := h3.2.1
 have h7 : 0 ≤ (N5 w).2 := h3.2.2.1
 have h8 : (N5 w).2 ≤ ((j4 w).1.length : Int) := h3.2.2.2
 exact ⟨by omega, by omega, by omega, ⟨by omega, by omega⟩, by rw [h5]; exact ⟨by omega, by omega⟩⟩
theorem k07 (r : Int) (w : List Int) (hw : w.length ≤ 140737488355) : i7 r w = some (r9 r w) := by
 have h1 := S7 r w (by omega)
 have hO := q0a r w (by omega)
 have hP := d0b r w (by omega)
 have hD := N0c r w (by omega)
 unfold r9 wlT
 cases h : T1 r w with
 | false =>
  unfold i7
  rw [h1, h]
  rfl
 | true =>
  obtain ⟨hr, hs, hl⟩ := l8 h
  obtain ⟨l1, l2, l3, k64, o64⟩ := j07 h
  have h2 := c07 hr.2 hs (by omega)
  have h3 := h0b hr.2 hs (by omega)
  have f1 : M1 w = some (B (W1 w)) := by rw [T7 w (by omega)]; exact congrArg some (y0a _)
  have f2 : M1 (j4 w).1 = some (B (W1 (j4 w).1)) := by rw [T7 _ (by omega)]; exact congrArg some (y0a _)
  have f3 : M1 (j4 w).2 = some (B (W1 (j4 w).2)) := by rw [T7 _ (by omega)]; exact congrArg some (y0a _)
  have f4 : M1 (N5 w).1 = some (B (W1 (N5 w).1)) := by rw [T7 _ (by omega)]; exact congrArg some (y0a _)
  have g1 := f02 _ k64
  have g2 := f02 _ o64
  have n1 := N02 w
  have n2 := N02 (j4 w).1
  have n3 := N02 (j4 w).2
  have n4 := N02 (N5 w).1
  have n5 := i09 (N5 w).2
  have n6 := i09 (s7 r w)
  have y1 : ((bif M02 r w then [32, 112, 114, 105, 109, 105, 116, 105, 118, 101] else ([] : List UInt8))).length ≤ 10 := by cases M02 r w <;> simp
  have y2 : ((bif S04 r w then [32, 100, 101, 114, 105, 118, 101, 100] else ([] : List UInt8))).length ≤ 8 := by cases S04 r w <;> simp
  rw [h] at h1
  rw [g0b] at g1 g2
  unfold i7
  rw [h1, Option.bind_some, if_neg (by simp), h2, Option.bind_some, h3]
  generalize j4 w = q1 at *
  generalize N5 w = q2 at *
  obtain ⟨c, p⟩ := q1
  obtain ⟨rt, k⟩ := q2
  simp only [f1, f2, f3, f4, g1, g2, hO, hP, hD, Option.bind_some, cond_true] at *
  simp only [show (⟨#[32, 99, 111, 114, 101, 32]⟩ : ByteArray) = B [32, 99, 111, 114, 101, 32] from rfl, show (⟨#[32, 98, 121, 32]⟩ : ByteArray) = B [32, 98, 121, 32] from rfl, show (⟨#[32, 114, 111, 111, 116, 32]⟩ : ByteArray) = B [32, 114, 111, 111, 116, 32] from rfl, show (⟨#[32, 116, 111, 32]⟩ : ByteArray) = B [32, 116, 111, 32] from rfl, show (⟨#[32, 115, 104, 111, 114, 116, 101, 115, 116, 32]⟩ : ByteArray) = B [32, 115, 104, 111, 114, 116, 101, 115, 116, 32] from rfl, show (⟨#[32, 112, 114, 105, 109, 105, 116, 105, 118, 101]⟩ : ByteArray) = B [32, 112, 114, 105, 109, 105, 116, 105, 118, 101] from rfl, show (⟨#[32, 100, 101, 114, 105, 118, 101, 100]⟩ : ByteArray) = B [32, 100, 101, 114, 105, 118, 101, 100] from rfl, g0e, J0c, t7, Option.bind_some, List.length_append, List.length_cons, List.length_nil]
  rw [C0 k64, Option.bind_some]
  generalize W1 w = A1 at *
  generalize W1 c = A2 at *
  generalize W1 p = A3 at *
  generalize W1 rt = A4 at *
  generalize fI k = A5 at *
  generalize fI (s7 r w) = A6 at *
  repeat rw [C0 (by first | exact o64 | omega), Option.bind_some]
  all_goals rfl
theorem l07 (r : Int) (w : List Int) (hw : w.length ≤ 140737488355) : j7 r w = some (r9 r w) := by
 have h1 := d00 r w (by omega)
 have hO := r0a r w (by omega)
 have hP := e0b r w (by omega)
 have hD := O0c r w (by omega)
 unfold r9
 cases h : T1 r w with
 | false =>
  unfold j7
  rw [h1, h]
  rfl
 | true =>
  obtain ⟨hr, hs, hl⟩ := l8 h
  obtain ⟨l1, l2, l3, k64, o64⟩ := j07 h
  have h2 := M04 hr.2 hs (by omega)
  have h3 := i0b hr.2 hs (by omega)
  have f1 : N1 w = some (B (W1 w)) := by rw [U7 w (by omega)]; exact congrArg some (y0a _)
  have f2 : N1 (j4 w).1 = some (B (W1 (j4 w).1)) := by rw [U7 _ (by omega)]; exact congrArg some (y0a _)
  have f3 : N1 (j4 w).2 = some (B (W1 (j4 w).2)) := by rw [U7 _ (by omega)]; exact congrArg some (y0a _)
  have f4 : N1 (N5 w).1 = some (B (W1 (N5 w).1)) := by rw [U7 _ (by omega)]; exact congrArg some (y0a _)
  have g1 := g02 _ k64
  have g2 := g02 _ o64
  have n1 := N02 w
  have n2 := N02 (j4 w).1
  have n3 := N02 (j4 w).2
  have n4 := N02 (N5 w).1
  have n5 := i09 (N5 w).2
  have n6 := i09 (s7 r w)
  have hbl : (wlT r w).length ≤ 300 := by
   unfold wlT
   simp only [List.length_append, List.length_cons, List.length_nil]
   omega
  have hln := c0e [W1 w, [99, 111, 114, 101], W1 (j4 w).1, [98, 121], W1 (j4 w).2, [114, 111, 111, 116], W1 (N5 w).1, [116, 111], fI (N5 w).2, [115, 104, 111, 114, 116, 101, 115, 116], fI (s7 r w)] (by simp) (by simp only [bsz, List.length_cons, List.length_nil]; omega)
  have hj : U05 32 [W1 w, [99, 111, 114, 101], W1 (j4 w).1, [98, 121], W1 (j4 w).2, [114, 111, 111, 116], W1 (N5 w).1, [116, 111], fI (N5 w).2, [115, 104, 111, 114, 116, 101, 115, 116], fI (s7 r w)] = wlT r w := by
   unfold wlT
   simp [U05, R04]
  rw [hj] at hln
  have two : ∀ (x s : List UInt8), x.length ≤ 400 → s.length ≤ 20 → K6 [B x, B s] = some (B (x ++ 32 :: s)) := fun x s hx hs => by
   have := c0e [x, s] (by simp) (by simp only [bsz]; omega)
   rw [show U05 32 [x, s] = x ++ 32 :: s by simp [U05, R04]] at this
   exact this
  rw [h] at h1
  rw [g0b] at g1 g2
  unfold j7
  rw [h1, Option.bind_some, if_neg (by simp), h2, Option.bind_some, h3]
  generalize hT : wlT r w = T at *
  generalize j4 w = q1 at *
  generalize N5 w = q2 at *
  obtain ⟨c, p⟩ := q1
  obtain ⟨rt, k⟩ := q2
  simp only [f1, f2, f3, f4, g1, g2, hO, hP, hD, Option.bind_some, cond_true, t7] at *
  rw [C0 k64, Option.bind_some]
  generalize W1 w = A1 at *
  generalize W1 c = A2 at *
  generalize W1 p = A3 at *
  generalize W1 rt = A4 at *
  generalize fI k = A5 at *
  generalize hA6 : fI (s7 r w) = A6 at *
  iterate 5 rw [C0 (by omega), Option.bind_some]
  rw [C0 o64, Option.bind_some, C0 (by omega), Option.bind_some]
  rw [show [B A1, (⟨#[99, 111, 114, 101]⟩ : ByteArray), B A2, (⟨#[98, 121]⟩ : ByteArray), B A3, (⟨#[114, 111, 111, 116]⟩ : ByteArray), B A4, (⟨#[116, 111]⟩ : ByteArray), B A5, (⟨#[115, 104, 111, 114, 116, 101, 115, 116]⟩ : ByteArray), B A6] = [A1, [99, 111, 114, 101], A2, [98, 121], A3, [114, 111, 111, 116], A4, [116, 111], A5, [115, 104, 111, 114, 116, 101, 115, 116], A6].map B from rfl, hln, Option.bind_some, C0 (by rw [t7]; omega), Option.bind_some]
  have p1 := two T [112, 114, 105, 109, 105, 116, 105, 118, 101] (by omega) (by simp)
  have p2 := two T [100, 101, 114, 105, 118, 101, 100] (by omega) (by simp)
  have p3 := two (T ++ 32 :: [112, 114, 105, 109, 105, 116, 105, 118, 101]) [100, 101, 114, 105, 118, 101, 100] (by simp; omega) (by simp)
  rw [show B [112, 114, 105, 109, 105, 116, 105, 118, 101] = (⟨#[112, 114, 105, 109, 105, 116, 105, 118, 101]⟩ : ByteArray) from rfl] at p1
  rw [show B [100, 101, 114, 105, 118, 101, 100] = (⟨#[100, 101, 114, 105, 118, 101, 100]⟩ : ByteArray) from rfl] at p2 p3
  cases M02 r w with
  | true =>
   rw [if_pos rfl, p1, Option.bind_some, C0 (by rw [t7]; simp; omega), Option.bind_some]
   cases S04 r w with
   | true => rw [if_pos rfl, p3, Option.bind_some, C0 (by rw [t7]; simp; omega), Option.bind_some]; simp
   | false => rw [if_neg (by simp)]; simp
  | false =>
   rw [if_neg (by simp)]
   cases S04 r w with
   | true => rw [if_pos rfl, p2, Option.bind_some, C0 (by rw [t7]; simp; omega), Option.bind_some]; simp
   | false => rw [if_neg (by simp)]; simp
end Go.Proofs.Ytknoadmdnjaocaa
