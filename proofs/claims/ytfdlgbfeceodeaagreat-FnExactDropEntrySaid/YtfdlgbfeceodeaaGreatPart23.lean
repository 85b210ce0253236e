/- Texts of the claim, joined: Plain laws: words and presentations, as the spec and the code know the; Plain laws: lists of words, and presentations, as the spec and the cod; Plain laws: graphs, as the spec and the code know them; Plain laws: steps in a graph; Plain laws: graphs: degrees, equality, edges put in order, sorted edge. -/
import Derived.Test.YtfdlgbfeceodeaaGreatPart18
import Derived.Test.YtfdlgbfeceodeaaGreatH33
import Derived.Test.YtfdlgbfeceodeaaGreatH36
namespace Go.Proofs.YtfdlgbfeceodeaaGreat
open Go.H
set_option linter.unusedVariables false
set_option linter.unusedSimpArgs false
theorem E2 {n : Nat} (h : n ≤ 140737488355328) : n < S0 := by unfold S0; omega
theorem N0 {p : Prop} [Decidable p] (h : p) : grd p = some () := by unfold grd; rw [if_pos h]
theorem I3 {α : Type} (o : Option α) (d : α) : chk true o d = o := rfl
theorem P2 {α : Type} (o : Option α) (d : α) : chk false o d = some d := rfl
theorem T4 {α : Type} {xs : List α} {k : Nat} {x : α} (h : xs[k]? = some x) : gi xs (k : Int) = some x := by rw [h05]; exact h
theorem r0e {α : Type} {xs : List α} {x : α} (h : xs[0]? = some x) : gi xs 0 = some x := T4 (k := 0) h
theorem R0f {x : Int} (h : J0 x) (h2 : x ≠ -9223372036854775808) : IntKind.i64.wrap (0 - x) = -x := by rw [w64 (by have := h.1; have := h.2; omega) (by have := h.1; have := h.2; omega)]; omega
theorem a0c {n : Nat} (h : 0 < n) (hm : n ≤ 9223372036854775807) : IntKind.i64.wrap ((n : Int) - 1) = ((n - 1 : Nat) : Int) := by rw [w64 (by omega) (by omega)]; omega
theorem J7 {α : Type} {xs : List α} {k : Nat} (h : k < xs.length) : xs[k]? = some xs[k] := List.getElem?_eq_getElem h
def inR (lo hi x : Int) : Bool := decide (lo ≤ x) && decide (x ≤ hi)
theorem M02 (a b c : Int) : f4 a b c = some (inR b c a) := by
 unfold f4 inR
 by_cases h : b ≤ a <;> simp [h]
theorem N02 (a b c : Int) : A5 a b c = some (inR b c a) := M02 a b c
end Go.Proofs.YtfdlgbfeceodeaaGreat
namespace Go.Proofs.YtfdlgbfeceodeaaGreat
open Go.H
set_option linter.unusedVariables false
set_option linter.unusedSimpArgs false
def tot : List (List Int) → Nat
 | [] => 0
 | w :: r => w.length + tot r
theorem R3 {α : Type} {xs : List α} {k : Nat} {x : α} (h : xs[k]? = some x) : xs.drop k = x :: xs.drop (k + 1) := by
 obtain ⟨hk, rfl⟩ := List.getElem?_eq_some_iff.1 h
 exact List.drop_eq_getElem_cons hk
theorem z3 {α : Type} {xs : List α} {k : Nat} (h : k = xs.length) : xs.drop k = [] := by rw [h]; exact List.drop_length
end Go.Proofs.YtfdlgbfeceodeaaGreat
namespace Go.Proofs.YtfdlgbfeceodeaaGreat
open Go.H
set_option linter.unusedVariables false
set_option linter.unusedSimpArgs false
def X01 (r hi : Int) (e : C0) : Bool := inR 0 hi e.1 && inR 0 hi e.2.2 && inR 1 r e.2.1
def U08 (e f : C0) : Int := M1 e f
theorem M06 (e f : C0) : U08 e f = if J5 e.1 f.1 ≠ 0 then J5 e.1 f.1 else if J5 e.2.1 f.2.1 ≠ 0 then J5 e.2.1 f.2.1 else J5 e.2.2 f.2.2 := rfl
theorem Y01 (a b : Int) : (a < b ∧ J5 a b = -1) ∨ (a > b ∧ J5 a b = 1) ∨ (a = b ∧ J5 a b = 0) := by
 unfold J5
 split
 ·omega
 ·split <;> omega
theorem Y05 (e f : C0) : J0 (U08 e f) := by
 rw [M06]
 split
 ·exact T08 _ _
 ·split <;> exact T08 _ _
theorem s0e (g : l0) (e : C0) : L7 g e = some (X01 g.1 (IntKind.i64.wrap (g.2.1 - 1)) e) := by
 obtain ⟨r, n, es⟩ := g
 obtain ⟨a, l, b⟩ := e
 unfold L7 X01
 simp only [M02, Option.bind_some]
 cases inR 0 (IntKind.i64.wrap (n - 1)) a with
 | false => rfl
 | true =>
  cases inR 0 (IntKind.i64.wrap (n - 1)) b with
  | false => rfl
  | true => simp [chk]
theorem M05 (g : l0) (e : C0) : H4 g e = some (X01 g.1 (IntKind.i64.wrap (g.2.1 - 1)) e) := by
 obtain ⟨r, n, es⟩ := g
 obtain ⟨a, l, b⟩ := e
 unfold H4 Z6 X01
 simp only [N02, Option.bind_some]
 cases inR 0 (IntKind.i64.wrap (n - 1)) a with
 | false => rfl
 | true =>
  cases inR 0 (IntKind.i64.wrap (n - 1)) b with
  | false => rfl
  | true => simp [chk]
theorem b9 (e f : C0) : K3 e f = some (U08 e f) := by
 obtain ⟨a, l, b⟩ := e
 obtain ⟨a', l', b'⟩ := f
 unfold K3
 rw [show S0 = (S0 - 4) + 1 + 1 + 1 + 1 from rfl]
 have w1 : IntKind.i64.wrap (0 + 1) = 1 := by decide
 have w2 : IntKind.i64.wrap (1 + 1) = 2 := by decide
 have w3 : IntKind.i64.wrap (2 + 1) = 3 := by decide
 have g0 : ∀ x y z : Int, gi [x, y, z] 0 = some x := fun _ _ _ => rfl
 have g1 : ∀ x y z : Int, gi [x, y, z] 1 = some y := fun _ _ _ => rfl
 have g2 : ∀ x y z : Int, gi [x, y, z] 2 = some z := fun _ _ _ => rfl
 have d0 : decide ((0 : Int) < 3) = true := rfl
 have d1 : decide ((1 : Int) < 3) = true := rfl
 have d2 : decide ((2 : Int) < 3) = true := rfl
 have d3 : decide ((3 : Int) < 3) = false := rfl
 simp only [j8, w1, w2, w3, g0, g1, g2, d0, d1, d2, d3, if_true, Option.bind_some, Bool.false_eq_true, if_false]
 rw [M06]
 simp only
 rcases Y01 a a' with ⟨h, e⟩ | ⟨h, e⟩ | ⟨h, e⟩
 ·simp [e, h, i8]
 ·have : ¬ a < a' := by omega
  simp [e, h, this, i8]
 ·subst h
  rcases Y01 l l' with ⟨h, e2⟩ | ⟨h, e2⟩ | ⟨h, e2⟩
  ·simp [e, e2, h, i8]
  ·have : ¬ l < l' := by omega
   simp [e, e2, h, this, i8]
  ·subst h
   rcases Y01 b b' with ⟨h, e3⟩ | ⟨h, e3⟩ | ⟨h, e3⟩
   ·simp [e, e2, e3, h, i8]
   ·have : ¬ b < b' := by omega
    simp [e, e2, e3, h, this, i8]
   ·subst h
    simp [e, e2, e3, i8]
theorem d0d (a b : Int) : A4 a b = some (J5 a b) := by
 unfold A4 J5
 by_cases h : a < b
 ·simp [h]
 ·by_cases h2 : a > b <;> simp [h, h2]
theorem C00 (e f : C0) : V4 e f = some (U08 e f) := by
 obtain ⟨a, l, b⟩ := e
 obtain ⟨a', l', b'⟩ := f
 rw [M06]
 unfold V4
 simp only [d0d, Option.bind_some, N0 (T08 _ _)]
 by_cases h1 : J5 a a' = 0
 ·by_cases h2 : J5 l l' = 0
  ·simp [h1, h2]
  ·simp [h1, h2]
 ·simp [h1]
def s0f (r hi : Int) (es : List C0) (k : Nat) : Bool := match es[k]? with
 | none => true
 | some e => !X01 r hi e || (decide (0 < k) && match es[k - 1]? with
  | none => true
  | some f => decide (U08 f e ≥ 0))
def okE (r hi : Int) (es : List C0) : Nat → Nat → Bool
 | 0, _ => true
 | d + 1, k => !s0f r hi es k && okE r hi es d (k + 1)
def Z4 (g : l0) : Bool := okE g.1 (IntKind.i64.wrap (g.2.1 - 1)) g.2.2 g.2.2.length 0 && inR 1 3 g.1 && inR 1 40 g.2.1 && decide (g.2.2.length ≤ 120)
theorem V08 {r hi : Int} {es : List C0} {k : Nat} {e : C0} (hx : es[k]? = some e) : s0f r hi es k = (!X01 r hi e || (decide (0 < k) && match es[k - 1]? with
  | none => true
  | some f => decide (U08 f e ≥ 0))) := by unfold s0f; rw [hx]
theorem R00 (r n : Int) (es : List C0) (hl : es.length ≤ 140737488355328) : ∀ (d k fuel : Nat), k + d = es.length → d < fuel →
  s5 es r n fuel (k : Int) = some (bif okE r (IntKind.i64.wrap (n - 1)) es d k then .inr () else .inl false)
 | d, k, 0, hk, hf => by omega
 | 0, k, fuel + 1, hk, hf => by
  rw [R7, if_neg (by simp; omega)]
  simp [okE]
 | d + 1, k, fuel + 1, hk, hf => by
  have hkl : k < es.length := by omega
  have hx := J7 hkl
  generalize es[k] = e at hx
  obtain ⟨e0, e1, e2⟩ := e
  have next := R00 r n es hl d (k + 1) fuel (by omega) (by omega)
  rw [R7, if_pos (by simp; omega), T4 hx, Option.bind_some]
  simp only [s0e, Option.bind_some, Q2 hkl (by omega : es.length ≤ 9223372036854775807), next, okE, V08 hx]
  generalize IntKind.i64.wrap (n - 1) = hi
  cases hin : X01 r hi (e0, e1, e2) with
  | false => simp [chk, grd, J0]
  | true =>
   by_cases hk0 : k = 0
   ·have ek : decide ((k : Int) > 0) = false := by simp; omega
    have bk : decide (0 < k) = false := by simp; omega
    simp only [ek, bk, P2, Bool.not_true, Bool.not_false, Bool.and_true, Bool.false_and, Bool.or_self, Bool.true_and, cond_true, cond_false, Option.bind_some, Bool.or_false, Bool.false_eq_true, if_false, N0 (show J0 0 by decide)]
   ·have hy := J7 (show k - 1 < es.length by omega)
    generalize es[k - 1] = f at hy
    obtain ⟨f0, f1, f2⟩ := f
    have hpr : IntKind.i64.wrap ((k : Int) - 1) = ((k - 1 : Nat) : Int) := a0c (by omega) (by omega)
    have ek : decide ((k : Int) > 0) = true := by simp; omega
    have bk : decide (0 < k) = true := by simp; omega
    simp only [ek, bk, hpr, hy, T4 hx, T4 hy, I3, Bool.not_true, Bool.not_false, Bool.and_true, Bool.false_and, Bool.or_self, Bool.true_and, cond_true, cond_false, Option.bind_some, Bool.or_false, Bool.false_or, b9, N0 (Y05 _ _)]
    cases decide (U08 (f0, f1, f2) (e0, e1, e2) ≥ 0) <;> rfl
theorem Q9 (g : l0) (hl : g.2.2.length ≤ 140737488355328) : R4 g = some (Z4 g) := by
 obtain ⟨r, n, es⟩ := g
 unfold R4 Z4
 simp only at hl ⊢
 have h := R00 r n es hl es.length 0 S0 (by omega) (E2 hl)
 rw [show ((0 : Nat) : Int) = 0 from rfl] at h
 rw [h, Option.bind_some]
 cases okE r (IntKind.i64.wrap (n - 1)) es es.length 0 with
 | false => simp [i8]
 | true =>
  rw [cond_true, z1, M02, M02, Option.bind_some]
  cases inR 1 3 r with
  | false => simp [chk]
  | true =>
   simp only [I3, Option.bind_some, cond_true, Bool.true_and]
   cases inR 1 40 n with
   | false => simp
   | true => simp; omega
theorem S00 (r n : Int) (es : List C0) (hl : es.length ≤ 140737488355328) : ∀ (d k fuel : Nat), k + d = es.length → d < fuel →
  w5 es r n fuel (k : Int) = some (bif okE r (IntKind.i64.wrap (n - 1)) es d k then .inr () else .inl false)
 | d, k, 0, hk, hf => by omega
 | 0, k, fuel + 1, hk, hf => by
  rw [S7, if_neg (by simp; omega)]
  simp [okE]
 | d + 1, k, fuel + 1, hk, hf => by
  have hkl : k < es.length := by omega
  have hx := J7 hkl
  generalize es[k] = e at hx
  obtain ⟨e0, e1, e2⟩ := e
  have next := S00 r n es hl d (k + 1) fuel (by omega) (by omega)
  rw [S7, if_pos (by simp; omega), T4 hx, Option.bind_some]
  simp only [M05, Option.bind_some, Q2 hkl (by omega : es.length ≤ 9223372036854775807), next, okE, V08 hx]
  generalize IntKind.i64.wrap (n - 1) = hi
  cases hin : X01 r hi (e0, e1, e2) with
  | false => simp [chk, grd, J0]
  | true =>
   by_cases hk0 : k = 0
   ·have ek : decide ((k : Int) > 0) = false := by simp; omega
    have bk : decide (0 < k) = false := by simp; omega
    simp only [ek, bk, P2, Bool.not_true, Bool.not_false, Bool.and_true, Bool.false_and, Bool.or_self, Bool.true_and, cond_true, cond_false, Option.bind_some, Bool.or_false, Bool.false_eq_true, if_false, N0 (show J0 0 by decide)]
   ·have hy := J7 (show k - 1 < es.length by omega)
    generalize es[k - 1] = f at hy
    obtain ⟨f0, f1, f2⟩ := f
    have hpr : IntKind.i64.wrap ((k : Int) - 1) = ((k - 1 : Nat) : Int) := a0c (by omega) (by omega)
    have ek : decide ((k : Int) > 0) = true := by simp; omega
    have bk : decide (0 < k) = true := by simp; omega
    simp only [ek, bk, hpr, hy, T4 hx, T4 hy, I3, Bool.not_true, Bool.not_false, Bool.and_true, Bool.false_and, Bool.or_self, Bool.true_and, cond_true, cond_false, Option.bind_some, Bool.or_false, Bool.false_or, C00, N0 (Y05 _ _)]
    cases decide (U08 (f0, f1, f2) (e0, e1, e2) ≥ 0) <;> rfl
theorem u03 (g : l0) (hl : g.2.2.length ≤ 140737488355328) : b7 g = some (Z4 g) := by
 obtain ⟨r, n, es⟩ := g
 unfold b7 Z4
 simp only at hl ⊢
 rw [N02, N02, Option.bind_some]
 cases hr : inR 1 3 r with
 | false => simp [chk]
 | true =>
  simp only [Bool.not_true, Bool.not_false, I3, Option.bind_some, cond_false]
  cases hn : inR 1 40 n with
  | false => simp
  | true =>
   by_cases h120 : es.length ≤ 120
   ·have h := S00 r n es hl es.length 0 S0 (by omega) (E2 hl)
    rw [show ((0 : Nat) : Int) = 0 from rfl] at h
    have e1 : decide (((es.length : Nat) : Int) > 120) = false := by simp; omega
    have e2 : decide (es.length ≤ 120) = true := by simpa using h120
    simp only [e1, e2, Bool.not_true, cond_false, Bool.false_eq_true, if_false, h, Option.bind_some]
    cases okE r (IntKind.i64.wrap (n - 1)) es es.length 0 <;> rfl
   ·have e1 : decide (((es.length : Nat) : Int) > 120) = true := by simp; omega
    have e2 : decide (es.length ≤ 120) = false := by simpa using h120
    simp only [e1, e2, Bool.not_true, cond_false, if_true, Bool.and_false]
theorem t0e {r hi : Int} {es : List C0} : ∀ {d k : Nat}, okE r hi es d k = true → ∀ i, k ≤ i → i < k + d → s0f r hi es i = false
 | 0, k, h, i, h1, h2 => by omega
 | d + 1, k, h, i, h1, h2 => by
  simp only [okE, Bool.and_eq_true, Bool.not_eq_true'] at h
  by_cases e : i = k
  ·subst e; exact h.1
  ·exact t0e h.2 i (by omega) (by omega)
end Go.Proofs.YtfdlgbfeceodeaaGreat
namespace Go.Proofs.YtfdlgbfeceodeaaGreat
open Go.H
set_option linter.unusedVariables false
set_option linter.unusedSimpArgs false
theorem e0a {n : Nat} (h : n ≤ 9223372036854775807) : n < S0 := by unfold S0; omega
def goI (x : Int) : List Int → Bool × List Int
 | [] => (false, [])
 | y :: l => if x < y then (true, x :: y :: l) else if y = x then (true, y :: l) else ((goI x l).1, y :: (goI x l).2)
theorem b0c (x : Int) : ∀ l, W8 J5 x l = bif (goI x l).1 then (goI x l).2 else (goI x l).2 ++ [x]
 | [] => rfl
 | y :: l => by
  have ih := b0c x l
  unfold W8 goI
  rcases Y01 x y with ⟨h, e⟩ | ⟨h, e⟩ | ⟨h, e⟩
  ·rw [e, if_pos (by omega), if_pos h]; rfl
  ·rw [e, if_neg (by omega), if_neg (by omega), if_neg (by omega), if_neg (by omega), ih]
   cases (goI x l).1 <;> rfl
  ·rw [e, if_neg (by omega), if_pos rfl, if_neg (by omega), if_pos h.symm]; rfl
theorem N06 (l : List Int) (w : Int) (hl : l.length ≤ 1099511627776) : ∀ (d k fuel : Nat) (acc : List Int), k + d = l.length → d < fuel → acc.length ≤ k + 1 →
  V2 l w fuel true (k : Int) acc = some (true, acc ++ l.drop k)
 | d, k, 0, acc, hd, hf, ha => by omega
 | 0, k, fuel + 1, acc, hd, hf, ha => by
  rw [V5, if_neg (by simp; omega), z3 (by omega), List.append_nil]
 | d + 1, k, fuel + 1, acc, hd, hf, ha => by
  have hk : k < l.length := by omega
  have hx := J7 hk
  generalize l[k] = x at hx
  have ih := N06 l w hl d (k + 1) fuel (acc ++ [x]) (by omega) (by omega) (by simp; omega)
  rw [V5, if_pos (by simp; omega), T4 hx, Option.bind_some]
  have hb : ∀ c : Bool, (bif c then (!true) else false) = false := fun c => by cases c <;> rfl
  simp only [hb, Bool.false_eq_true, if_false, Option.bind_some, Q2 hk (show l.length ≤ 9223372036854775807 by omega), ih, N0 (show (acc.length + [x].length) * 8 ≤ 140737488355328 by simp; omega)]
  rw [R3 hx]
  split <;> simp
theorem X07 (l : List Int) (w : Int) (hl : l.length ≤ 1099511627776) : ∀ (d k fuel : Nat) (acc : List Int), k + d = l.length → d < fuel → acc.length = k →
  V2 l w fuel false (k : Int) acc = some ((goI w (l.drop k)).1, acc ++ (goI w (l.drop k)).2)
 | d, k, 0, acc, hd, hf, ha => by omega
 | 0, k, fuel + 1, acc, hd, hf, ha => by
  rw [V5, if_neg (by simp; omega), z3 (by omega)]
  simp [goI]
 | d + 1, k, fuel + 1, acc, hd, hf, ha => by
  have hk : k < l.length := by omega
  have hx := J7 hk
  generalize l[k] = x at hx
  have ih := X07 l w hl d (k + 1) fuel (acc ++ [x]) (by omega) (by omega) (by simp; omega)
  have on1 := N06 l w hl d (k + 1) fuel (acc ++ [x]) (by omega) (by omega) (by simp; omega)
  have on2 := N06 l w hl d (k + 1) fuel (acc ++ [w] ++ [x]) (by omega) (by omega) (by simp; omega)
  rw [V5, if_pos (by simp; omega), T4 hx, Option.bind_some, R3 hx]
  unfold goI
  have hb : ∀ c : Bool, (bif c then (!true) else false) = false := fun c => by cases c <;> rfl
  have hb2 : ∀ c : Bool, (bif c then (!false) else false) = c := fun c => by cases c <;> rfl
  by_cases h0 : x = w
  ·rw [if_pos (by simpa using h0), Option.bind_some, hb, if_neg (by simp), Option.bind_some, N0 (by simp; omega), Option.bind_some, Q2 hk (by omega), on1, if_neg (by omega), if_pos h0]
   simp
  ·rw [if_neg (by simpa using h0), Option.bind_some, hb2]
   by_cases h1 : w < x
   ·rw [if_pos (by simpa using h1), N0 (by simp; omega), Option.bind_some, Option.bind_some, N0 (by simp; omega), Option.bind_some, Q2 hk (by omega), on2, if_pos h1]
    simp
   ·rw [if_neg (by simpa using h1), Option.bind_some, N0 (by simp; omega), Option.bind_some, Q2 hk (by omega), ih, if_neg h1, if_neg h0]
    simp
theorem v04 (l : List Int) (w : Int) (hl : l.length ≤ 1099511627776) : l3 l w = some (W8 J5 w l) := by
 unfold l3
 have h := X07 l w hl l.length 0 S0 [] (by omega) (E2 (by omega)) rfl
 rw [show ((0 : Nat) : Int) = 0 from rfl, List.drop_zero, List.nil_append] at h
 rw [h, Option.bind_some, b0c]
 have hlen : ∀ l : List Int, (goI w l).2.length ≤ l.length + 1 := fun l => by
  induction l with
  | nil => simp [goI]
  | cons y l ih =>
   unfold goI
   split
   ·simp
   ·split
    ·simp
    ·simp only [List.length_cons]; omega
 have := hlen l
 cases (goI w l).1 with
 | true => rfl
 | false =>
  simp only [Bool.not_false, if_true, cond_false]
  rw [N0 (by simp; omega), Option.bind_some]
def Y07 (v x : Int) (e : C0) : List Int :=
 if 0 < x ∧ e.2.1 = x ∧ e.1 = v then [e.2.2] else if x < 0 ∧ e.2.1 = -x ∧ e.2.2 = v then [e.1] else []
def r8 (v x : Int) : List C0 → List Int
 | [] => []
 | e :: es => Y07 v x e ++ r8 v x es
theorem e0d (v x : Int) (e : C0) : (Y07 v x e).length ≤ 1 := by unfold Y07; split <;> (try split) <;> simp
theorem O06 (v x : Int) : ∀ es, (r8 v x es).length ≤ es.length
 | [] => by simp [r8]
 | e :: es => by
  have h1 := e0d v x e
  have h2 := O06 v x es
  simp only [r8, List.length_append, List.length_cons]
  omega
def c01 (x : Int) : Prop := J0 x ∧ x ≠ -9223372036854775808
theorem w04 (es : List C0) (v x : Int) (hx : c01 x) (hl : es.length ≤ 1099511627776) : ∀ (d k fuel : Nat) (acc : List Int), k + d = es.length → d < fuel → acc.length ≤ k →
  J2 es x v fuel (k : Int) acc = some (acc ++ r8 v x (es.drop k))
 | d, k, 0, acc, hd, hf, ha => by omega
 | 0, k, fuel + 1, acc, hd, hf, ha => by
  rw [g7, if_neg (by simp; omega), z3 (by omega)]
  simp [r8]
 | d + 1, k, fuel + 1, acc, hd, hf, ha => by
  have hk : k < es.length := by omega
  have he := J7 hk
  generalize es[k] = e at he
  obtain ⟨a, l, b⟩ := e
  have ih := fun acc' h => w04 es v x hx hl d (k + 1) fuel acc' (by omega) (by omega) h
  have hn : decide (x = -9223372036854775808) = false := by simp; exact hx.2
  rw [g7, if_pos (by simp; omega), T4 he, Option.bind_some, R3 he]
  simp only [r8, Y07, R0f hx.1 hx.2, hn, Bool.not_false, Q2 hk (show es.length ≤ 9223372036854775807 by omega)]
  by_cases c1 : 0 < x ∧ l = x ∧ a = v
  ·obtain ⟨c1, rfl, rfl⟩ := c1
   rw [if_pos (by simp [c1]), if_pos ⟨c1, rfl, rfl⟩, N0 (by simp; omega), Option.bind_some, ih _ (by simp; omega)]
   simp
  ·rw [if_neg c1, if_neg (by simp only [Bool.cond_eq_ite]; simp; intro h1 h2 h3; exact c1 ⟨h1, h2, h3⟩)]
   by_cases c2 : x < 0 ∧ l = -x ∧ b = v
   ·rw [if_pos c2, if_pos (by simp [c2.1, c2.2.1, c2.2.2]), N0 (by simp; omega), Option.bind_some, ih _ (by simp; omega)]
    simp
   ·rw [if_neg c2, if_neg (by simp only [Bool.cond_eq_ite]; simp; intro h1 h2 h3; exact c2 ⟨h1, h2, h3⟩), ih _ (by omega)]
    simp
theorem A01 (w : Int) : ∀ l : List Int, (W8 J5 w l).length ≤ l.length + 1
 | [] => by simp [W8]
 | y :: l => by
  have := A01 w l
  unfold W8
  split
  ·simp
  ·split
   ·simp
   ·simp only [List.length_cons]; omega
theorem x04 (es : List C0) (v x : Int) (hx : c01 x) (hl : es.length ≤ 1099511627776) : ∀ (d k fuel : Nat) (u : List Int), k + d = es.length → d < fuel → u.length ≤ k →
  U1 es x v fuel u (k : Int) = some (X8 J5 u (r8 v x (es.drop k)))
 | d, k, 0, u, hd, hf, ha => by omega
 | 0, k, fuel + 1, u, hd, hf, ha => by
  rw [c7, if_neg (by simp; omega), z3 (by omega)]
  rfl
 | d + 1, k, fuel + 1, u, hd, hf, ha => by
  have hk : k < es.length := by omega
  have he := J7 hk
  generalize es[k] = e at he
  obtain ⟨a, l, b⟩ := e
  have ih := fun u' h => x04 es v x hx hl d (k + 1) fuel u' (by omega) (by omega) h
  rw [c7, if_pos (by simp; omega), T4 he, Option.bind_some, R3 he]
  simp only [r8, Y07, R0f hx.1 hx.2, Q2 hk (show es.length ≤ 9223372036854775807 by omega)]
  by_cases c1 : 0 < x ∧ l = x ∧ a = v
  ·obtain ⟨c1, rfl, rfl⟩ := c1
   have hno : decide (l < 0) = false := by simp; omega
   have := A01 b u
   rw [if_pos (by simp [c1]), if_pos ⟨c1, rfl, rfl⟩, v04 u b (by omega), Option.bind_some, hno, if_neg (by simp), ih _ (by omega)]
   rfl
  ·rw [if_neg c1, if_neg (by simp only [Bool.cond_eq_ite]; simp; intro h1 h2 h3; exact c1 ⟨h1, h2, h3⟩)]
   by_cases c2 : x < 0 ∧ l = -x ∧ b = v
   ·have := A01 a u
    rw [if_pos c2, if_pos (by simp [c2.1, c2.2.1, c2.2.2]), v04 u a (by omega), Option.bind_some, ih _ (by omega)]
    rfl
   ·rw [if_neg c2, if_neg (by simp only [Bool.cond_eq_ite]; simp; intro h1 h2 h3; exact c2 ⟨h1, h2, h3⟩), ih _ (by omega)]
    rfl
def R9 (g : l0) (v x : Int) : List Int := X8 J5 [] (r8 v x g.2.2)
theorem t0f (x y : Int) : eqI x y = true ↔ x = y := by simp [eqI]
theorem f0a (g : l0) (v x : Int) (hx : c01 x) (hl : g.2.2.length ≤ 1099511627776) : d7 g v x = some (R9 g v x) := by
 obtain ⟨r, n, es⟩ := g
 unfold d7 R9
 have h := x04 es v x hx hl es.length 0 S0 [] (by omega) (e0a (by simp only at hl; omega)) (by simp)
 rw [show ((0 : Nat) : Int) = 0 from rfl, List.drop_zero] at h
 simp only [h, Option.bind_some]
theorem g0a (g : l0) (v x : Int) (hx : c01 x) (hl : g.2.2.length ≤ 1099511627776) : i7 g v x = some (R9 g v x) := by
 obtain ⟨r, n, es⟩ := g
 unfold i7 R9
 have h := w04 es v x hx hl es.length 0 S0 [] (by omega) (e0a (by simp only at hl; omega)) (by simp)
 rw [show ((0 : Nat) : Int) = 0 from rfl, List.drop_zero, List.nil_append] at h
 have hlen := O06 v x es
 simp only at hl
 simp only [h, Option.bind_some, N0 (show (r8 v x es).length < 4611686018427387904 by omega)]
 rw [← d0a y9 t0f (r8 v x es) (r8 v x es) fun _ => Iff.rfl]
 rfl
def D6 (g : l0) (v x : Int) : Int := match R9 g v x with
 | [] => -1
 | a :: _ => a
theorem c0b (g : l0) (v x : Int) (hx : c01 x) (hl : g.2.2.length ≤ 1099511627776) : K5 g v x = some (D6 g v x) := by
 have h := f0a g v x hx hl
 obtain ⟨r, n, es⟩ := g
 unfold K5 D6
 simp only [h, Option.bind_some]
 cases R9 (r, n, es) v x with
 | nil => rfl
 | cons a l => rfl
theorem d0b (g : l0) (v x : Int) (hx : c01 x) (hl : g.2.2.length ≤ 1099511627776) : L5 g v x = some (D6 g v x) := by
 have h := g0a g v x hx hl
 obtain ⟨r, n, es⟩ := g
 unfold L5 D6
 simp only [h, Option.bind_some]
 cases R9 (r, n, es) v x with
 | nil => rfl
 | cons a l => rfl
theorem f0d {g : l0} {v x y : Int} (h : y ∈ R9 g v x) : y ∈ r8 v x g.2.2 := by
 rcases (W01 y9 y _ []).1 h with h | h
 ·cases h
 ·exact h
theorem P06 {v x y : Int} : ∀ {es : List C0}, y ∈ r8 v x es ↔ ∃ e ∈ es, (0 < x ∧ e.2.1 = x ∧ e.1 = v ∧ y = e.2.2) ∨ (x < 0 ∧ e.2.1 = -x ∧ e.2.2 = v ∧ y = e.1)
 | [] => by simp [r8]
 | e :: es => by
  simp only [r8, List.mem_append, P06 (es := es), List.mem_cons, exists_eq_or_imp]
  refine or_congr ?_ Iff.rfl
  unfold Y07
  split
  ·rename_i h
   simp only [List.mem_singleton]
   constructor
   ·rintro rfl; exact .inl ⟨h.1, h.2.1, h.2.2, rfl⟩
   ·rintro (⟨_, _, _, h4⟩ | ⟨h1, _⟩)
    ·exact h4
    ·omega
  ·rename_i h
   split
   ·rename_i h2
    simp only [List.mem_singleton]
    constructor
    ·rintro rfl; exact .inr ⟨h2.1, h2.2.1, h2.2.2, rfl⟩
    ·rintro (⟨h1, _⟩ | ⟨_, _, _, h4⟩)
     ·omega
     ·exact h4
   ·rename_i h2
    constructor
    ·intro h; cases h
    ·rintro (⟨h3, h4, h5, _⟩ | ⟨h3, h4, h5, _⟩)
     ·exact absurd ⟨h3, h4, h5⟩ h
     ·exact absurd ⟨h3, h4, h5⟩ h2
def inG (g : l0) : Prop := ∀ e ∈ g.2.2, (0 ≤ e.1 ∧ e.1 < g.2.1) ∧ (0 ≤ e.2.2 ∧ e.2.2 < g.2.1) ∧ 1 ≤ e.2.1 ∧ e.2.1 ≤ g.1
theorem O02 {g : l0} (h : Z4 g = true) : inG g ∧ (1 ≤ g.1 ∧ g.1 ≤ 3) ∧ (1 ≤ g.2.1 ∧ g.2.1 ≤ 40) ∧ g.2.2.length ≤ 120 := by
 obtain ⟨r, n, es⟩ := g
 simp only [Z4, inR, Bool.and_eq_true, decide_eq_true_eq] at h
 obtain ⟨⟨⟨h1, h2⟩, h3⟩, h4⟩ := h
 refine ⟨fun e he => ?_, h2, h3, h4⟩
 obtain ⟨i, hi⟩ := List.getElem?_of_mem he
 have hb := t0e h1 i (Nat.zero_le _) (by have := (List.getElem?_eq_some_iff.1 hi).1; simp only at this; omega)
 rw [V08 hi] at hb
 simp only [Bool.or_eq_false_iff, Bool.not_eq_false', X01, inR, Bool.and_eq_true, decide_eq_true_eq] at hb
 obtain ⟨⟨⟨⟨b1, b2⟩, b3, b4⟩, b5, b6⟩, _⟩ := hb
 rw [w64 (by omega) (by omega)] at b2 b4
 simp only
 exact ⟨⟨b1, by omega⟩, ⟨b3, by omega⟩, b5, b6⟩
theorem Z05 {g : l0} (hg : inG g) (v x : Int) : D6 g v x = -1 ∨ (0 ≤ D6 g v x ∧ D6 g v x < g.2.1) := by
 unfold D6
 cases hs : R9 g v x with
 | nil => exact .inl rfl
 | cons a l =>
  right
  have ha : a ∈ R9 g v x := by rw [hs]; exact List.mem_cons_self ..
  obtain ⟨e, he, h⟩ := P06.1 (f0d ha)
  have := hg e he
  rcases h with ⟨_, _, _, rfl⟩ | ⟨_, _, _, rfl⟩
  ·exact this.2.1
  ·exact this.1
theorem c0c {g : l0} (hg : inG g) (hn : g.2.1 ≤ 40) (v x : Int) : J0 (D6 g v x) := by
 rcases Z05 hg v x with h | h
 ·rw [h]; decide
 ·constructor <;> omega
def N05 (a b : C0) : Bool := decide (a.2.1 = b.2.1) && (decide (a.1 = b.1) || decide (a.2.2 = b.2.2))
theorem Z07 (a b : C0) : N05 a b = N05 b a := by
 unfold N05
 have h : ∀ x y : Int, decide (x = y) = decide (y = x) := fun x y => decide_eq_decide.2 ⟨Eq.symm, Eq.symm⟩
 rw [h a.2.1, h a.1, h a.2.2]
def noC (a : C0) : List C0 → Bool
 | [] => true
 | b :: l => !N05 a b && noC a l
def v03 : List C0 → Bool
 | [] => true
 | a :: l => noC a l && v03 l
theorem W08 (a : C0) : ∀ l, noC a l = true ↔ ∀ b ∈ l, N05 a b = false
 | [] => by simp [noC]
 | b :: l => by simp [noC, W08 a l]
theorem a08 : ∀ l, v03 l = true ↔ l.Pairwise fun a b => N05 a b = false
 | [] => by simp [v03]
 | a :: l => by simp [v03, a08 l, W08, List.pairwise_cons]
def Q06 : List C0 → List C0 → Bool
 | _, [] => true
 | pre, a :: l => noC a pre && Q06 (pre ++ [a]) l
theorem b08 : ∀ (l pre : List C0), Q06 pre l = true ↔ l.Pairwise (fun a b => N05 a b = false) ∧ ∀ a ∈ l, ∀ b ∈ pre, N05 a b = false
 | [], pre => by simp [Q06]
 | a :: l, pre => by
  simp only [Q06, Bool.and_eq_true, W08, b08 l, List.pairwise_cons]
  constructor
  ·rintro ⟨h2, h3, h4⟩
   refine ⟨⟨fun b hb => by rw [Z07]; exact h4 b hb a (by simp), h3⟩, fun x hx b hb => ?_⟩
   rcases List.mem_cons.1 hx with rfl | hx
   ·exact h2 b hb
   ·exact h4 x hx b (by simp [hb])
  ·rintro ⟨⟨h2, h3⟩, h4⟩
   refine ⟨fun b hb => h4 a (List.mem_cons_self ..) b hb, h3, fun x hx b hb => ?_⟩
   rcases List.mem_append.1 hb with hb | hb
   ·exact h4 x (List.mem_cons_of_mem _ hx) b hb
   ·rw [List.mem_singleton.1 hb, Z07]; exact h2 x hx
theorem g0d (l : List C0) : Q06 [] l = v03 l := by
 rw [Bool.eq_iff_iff, b08, a08]
 simp
def A3 (g : l0) : Bool := Z4 g && v03 g.2.2
theorem S0f (a0 a1 a2 b0 b1 b2 : Int) : (bif decide (a1 = b1) then (bif decide (a0 = b0) then true else decide (a2 = b2)) else false) = N05 (a0, a1, a2) (b0, b1, b2) := by
 unfold N05
 cases decide (a1 = b1) <;> cases decide (a0 = b0) <;> rfl
theorem y04 (l : List C0) (a : C0) (hl : l.length ≤ 140737488355328) : ∀ (d k fuel : Nat), k + d = l.length → d < fuel →
  l4 l a.2.1 a.1 a.2.2 fuel (k : Int) = some (bif noC a (l.drop k) then .inr () else .inl false)
 | d, k, 0, hd, hf => by omega
 | 0, k, fuel + 1, hd, hf => by
  rw [F7, if_neg (by simp; omega), z3 (by omega)]
  rfl
 | d + 1, k, fuel + 1, hd, hf => by
  have hk : k < l.length := by omega
  have hx := J7 hk
  generalize l[k] = x at hx
  obtain ⟨a0, a1, a2⟩ := a
  obtain ⟨b0, b1, b2⟩ := x
  rw [F7, if_pos (by simp; omega), T4 hx, Option.bind_some, R3 hx]
  simp only [S0f, noC]
  cases hc : N05 (a0, a1, a2) (b0, b1, b2) with
  | true => rfl
  | false =>
   rw [if_neg (by simp), Q2 hk (by omega), y04 l (a0, a1, a2) hl d (k + 1) fuel (by omega) (by omega)]
   simp
theorem L03 {α : Type} {xs : List α} {k : Nat} (h : k ≤ xs.length) : T01 xs (k : Int) (xs.length : Int) = some (xs.drop k) := by
 unfold T01
 rw [if_pos ⟨by omega, by omega, by omega⟩]
 simp
theorem z04 (l : List C0) (hl : l.length ≤ 140737488355328) : ∀ (d k fuel : Nat), k + d = l.length → d < fuel →
  S4 l fuel (k : Int) = some (bif v03 (l.drop k) then .inr () else .inl false)
 | d, k, 0, hd, hf => by omega
 | 0, k, fuel + 1, hd, hf => by
  rw [G7, if_neg (by simp; omega), z3 (by omega)]
  rfl
 | d + 1, k, fuel + 1, hd, hf => by
  have hk : k < l.length := by omega
  have hx := J7 hk
  generalize l[k] = x at hx
  have h0 := y04 (l.drop (k + 1)) x (by simp; omega) (l.drop (k + 1)).length 0 S0 (by omega) (E2 (by simp; omega))
  rw [show ((0 : Nat) : Int) = 0 from rfl, List.drop_zero] at h0
  obtain ⟨a0, a1, a2⟩ := x
  rw [G7, if_pos (by simp; omega), T4 hx, Option.bind_some, R3 hx]
  simp only [Q2 hk (show l.length ≤ 9223372036854775807 by omega), L03 (show k + 1 ≤ l.length by omega), Option.bind_some]
  simp only at h0
  rw [h0, Option.bind_some]
  simp only [v03]
  cases noC (a0, a1, a2) (l.drop (k + 1)) with
  | false => rfl
  | true =>
   simp only [cond_true, V09, Bool.true_and]
   exact z04 l hl d (k + 1) fuel (by omega) (by omega)
theorem D00 (g : l0) (hl : g.2.2.length ≤ 140737488355328) : P5 g = some (A3 g) := by
 have hG := u03 g hl
 obtain ⟨r, n, es⟩ := g
 unfold P5 A3
 simp only [hG, Option.bind_some]
 cases Z4 (r, n, es) with
 | false => rfl
 | true =>
  have h := z04 es hl es.length 0 S0 (by omega) (E2 hl)
  rw [show ((0 : Nat) : Int) = 0 from rfl, List.drop_zero] at h
  rw [if_neg (by simp), h, Option.bind_some]
  cases v03 es <;> rfl
theorem A04 (l : List C0) (hl : l.length ≤ 140737488355328) {i : Nat} {a : C0} (ha : l[i]? = some a) : ∀ (d k fuel : Nat), k + d = i → d < fuel →
  i4 (i : Int) l fuel (k : Int) = some (bif noC a ((l.take i).drop k) then .inr () else .inl false)
 | d, k, 0, hd, hf => by omega
 | 0, k, fuel + 1, hd, hf => by
  have := (List.getElem?_eq_some_iff.1 ha).1
  rw [E7, if_neg (by simp; omega), z3 (by simp; omega)]
  rfl
 | d + 1, k, fuel + 1, hd, hf => by
  have hi := (List.getElem?_eq_some_iff.1 ha).1
  have hk : k < l.length := by omega
  have hx := J7 hk
  have hx2 : (l.take i)[k]? = some l[k] := by rw [List.getElem?_take, if_pos (by omega)]; exact hx
  have ih := A04 l hl ha d (k + 1) fuel (by omega) (by omega)
  generalize l[k] = x at hx hx2
  obtain ⟨a0, a1, a2⟩ := a
  obtain ⟨b0, b1, b2⟩ := x
  rw [E7, if_pos (by simp; omega), T4 ha, Option.bind_some, R3 hx2]
  simp only [T4 hx, Option.bind_some, S0f, noC]
  cases hc : N05 (a0, a1, a2) (b0, b1, b2) with
  | true => rfl
  | false =>
   rw [if_neg (by simp), Q2 hk (by omega), ih]
   simp
theorem u0e {α : Type} {xs : List α} {k : Nat} {x : α} (h : xs[k]? = some x) : xs.take (k + 1) = xs.take k ++ [x] := by
 obtain ⟨hk, rfl⟩ := List.getElem?_eq_some_iff.1 h
 exact List.take_succ_eq_append_getElem hk
theorem B04 (r n : Int) (l : List C0) (hg : Z4 (r, n, l) = true) (hl : l.length ≤ 140737488355328) : ∀ (d k fuel : Nat), k + d = l.length → d < fuel →
  j4 l r n fuel (k : Int) = some (bif Q06 (l.take k) (l.drop k) then .inr () else .inl false)
 | d, k, 0, hd, hf => by omega
 | 0, k, fuel + 1, hd, hf => by
  have e : decide ((k : Int) < (l.length : Int)) = false := by simp; omega
  rw [c6, e, P2, Option.bind_some, if_neg (by simp), z3 (by omega)]
  rfl
 | d + 1, k, fuel + 1, hd, hf => by
  have hk : k < l.length := by omega
  have hx := J7 hk
  generalize l[k] = x at hx
  have h0 := A04 l hl hx k 0 S0 (by omega) (E2 (by omega))
  rw [show ((0 : Nat) : Int) = 0 from rfl, List.drop_zero] at h0
  have e : decide ((k : Int) < (l.length : Int)) = true := by simp; omega
  rw [c6, e, I3, Q9 (r, n, l) hl, Option.bind_some, hg, if_pos (show (bif true then true else false) = true from rfl), h0, Option.bind_some, R3 hx]
  simp only [Q06]
  cases noC x (l.take k) with
  | false => rfl
  | true =>
   simp only [cond_true, V09, Bool.true_and]
   rw [Q2 hk (by omega), ← u0e hx]
   exact B04 r n l hg hl d (k + 1) fuel (by omega) (by omega)
theorem P02 (g : l0) (hl : g.2.2.length ≤ 140737488355328) : F6 g = some (A3 g) := by
 have hG := Q9 g hl
 obtain ⟨r, n, es⟩ := g
 unfold F6 A3
 simp only [hG, Option.bind_some]
 cases hg : Z4 (r, n, es) with
 | false =>
  have h1 : j4 es r n S0 0 = some (.inr ()) := by
   rw [show S0 = (S0 - 1) + 1 from rfl, c6]
   by_cases e : decide ((0 : Int) < (es.length : Int)) = true
   ·rw [e, I3, hG, Option.bind_some, hg, if_neg (by simp)]
   ·rw [Bool.not_eq_true] at e
    rw [e, P2, Option.bind_some, if_neg (by simp)]
  rw [h1]
  rfl
 | true =>
  have h := B04 r n es hg hl es.length 0 S0 (by omega) (E2 hl)
  rw [show ((0 : Nat) : Int) = 0 from rfl, List.drop_zero, List.take_zero, g0d] at h
  rw [h, Option.bind_some]
  cases v03 es <;> rfl
theorem J9 {g : l0} (h : A3 g = true) : inG g ∧ (1 ≤ g.1 ∧ g.1 ≤ 3) ∧ (1 ≤ g.2.1 ∧ g.2.1 ≤ 40) ∧ g.2.2.length ≤ 120 := by
 unfold A3 at h
 simp only [Bool.and_eq_true] at h
 exact O02 h.1
end Go.Proofs.YtfdlgbfeceodeaaGreat
namespace Go.Proofs.YtfdlgbfeceodeaaGreat
open Go.H
set_option linter.unusedVariables false
set_option linter.unusedSimpArgs false
def u0f (v : Int) (e : C0) : Nat := (if e.1 = v then 1 else 0) + (if e.2.2 = v then 1 else 0)
def Z01 (v : Int) : List C0 → Nat
 | [] => 0
 | e :: r => u0f v e + Z01 v r
theorem v0f (v : Int) (e : C0) : u0f v e ≤ 2 := by unfold u0f; split <;> split <;> omega
theorem X08 (v : Int) : ∀ l, Z01 v l ≤ 2 * l.length
 | [] => by simp [Z01]
 | e :: r => by have := v0f v e; have := X08 v r; simp only [Z01, List.length_cons]; omega
theorem R06 (es : List C0) (v : Int) (hl : es.length ≤ 1099511627776) : ∀ (d k fuel acc : Nat), k + d = es.length → d < fuel → acc ≤ 2 * k →
  T1 es v fuel (acc : Int) (k : Int) = some ((acc + Z01 v (es.drop k) : Nat) : Int)
 | d, k, 0, acc, hd, hf, ha => by omega
 | 0, k, fuel + 1, acc, hd, hf, ha => by
  rw [d6, if_neg (by simp; omega), z3 (by omega)]; rfl
 | d + 1, k, fuel + 1, acc, hd, hf, ha => by
  have hk : k < es.length := by omega
  have he := J7 hk
  generalize es[k] = e at he
  obtain ⟨a, l, b⟩ := e
  have ih := fun acc' h => R06 es v hl d (k + 1) fuel acc' (by omega) (by omega) h
  have w1 : IntKind.i64.wrap ((acc : Int) + 1) = ((acc + 1 : Nat) : Int) := by rw [w64 (by omega) (by omega)]; rfl
  have w2 : IntKind.i64.wrap (((acc + 1 : Nat) : Int) + 1) = ((acc + 2 : Nat) : Int) := by rw [w64 (by omega) (by omega)]; rfl
  rw [d6, if_pos (by simp; omega), T4 he, R3 he]
  simp only [Option.bind_some, Z01, u0f, Q2 hk (show es.length ≤ 9223372036854775807 by omega)]
  by_cases c1 : a = v
  ·rw [if_pos (by simpa using c1), if_pos c1]
   by_cases c2 : b = v
   ·rw [if_pos (by simpa using c2), if_pos c2, w1, w2, ih _ (by omega)]; congr 2; omega
   ·rw [if_neg (by simpa using c2), if_neg c2, w1, ih _ (by omega)]; congr 2; omega
  ·rw [if_neg (by simpa using c1), if_neg c1]
   by_cases c2 : b = v
   ·rw [if_pos (by simpa using c2), if_pos c2, w1, ih _ (by omega)]; congr 2; omega
   ·rw [if_neg (by simpa using c2), if_neg c2, ih _ (by omega)]; congr 2; omega
theorem S06 (es : List C0) (v : Int) : ∀ (fuel : Nat) (x y : Int), Z1 es v fuel x y = T1 es v fuel x y
 | 0, x, y => rfl
 | fuel + 1, x, y => by
  rw [z9, d6]
  simp only [S06 es v fuel]
  by_cases c : (decide (y < ((es.length : Nat) : Int))) = true
  ·rw [if_pos c, if_pos c]
   cases hg : gi es y with
   | none => rfl
   | some e => simp only [Option.bind_some]
  ·rw [if_neg c, if_neg c]
theorem c08 (g : l0) (v : Int) (hl : g.2.2.length ≤ 1099511627776) : Q5 g v = some ((Z01 v g.2.2 : Nat) : Int) := by
 obtain ⟨r, n, es⟩ := g
 unfold Q5
 have h := R06 es v hl es.length 0 S0 0 (by omega) (E2 (by simp only at hl; omega)) (Nat.zero_le _)
 rw [show ((0 : Nat) : Int) = 0 from rfl, List.drop_zero, Nat.zero_add] at h
 simp only [h, Option.bind_some]
theorem h0d (g : l0) (v : Int) (hl : g.2.2.length ≤ 1099511627776) : G6 g v = some ((Z01 v g.2.2 : Nat) : Int) := by
 have h := c08 g v hl
 obtain ⟨r, n, es⟩ := g
 unfold G6
 unfold Q5 at h
 simp only [S06] at h ⊢
 exact h
def h0a (g h : l0) : Bool := decide (g = h)
theorem d0c (x y : C0) : eqE x y = true ↔ x = y := by simp [eqE]
theorem H05 (a b : List C0) (hab : a.length = b.length) (hl : a.length ≤ 9223372036854775807) : ∀ (d k fuel : Nat), k + d = a.length → d < fuel →
  Q0 a b fuel (k : Int) = some (if a.drop k = b.drop k then .inr () else .inl false)
 | d, k, 0, hd, hf => by omega
 | 0, k, fuel + 1, hd, hf => by
  rw [j2, if_neg (by simp; omega), z3 (by omega), z3 (by omega)]; rfl
 | d + 1, k, fuel + 1, hd, hf => by
  have hk : k < a.length := by omega
  have hk2 : k < b.length := by omega
  have ha := J7 hk
  have hb := J7 hk2
  generalize a[k] = x at ha
  generalize b[k] = y at hb
  have ih := H05 a b hab hl d (k + 1) fuel (by omega) (by omega)
  rw [j2, if_pos (by simp; omega), T4 ha, T4 hb, R3 ha, R3 hb]
  simp only [Option.bind_some, Q2 hk hl, ih]
  by_cases c : x = y
  ·subst c
   rw [if_neg (by simp [eqE])]
   simp
  ·have hne : eqE x y = false := Bool.eq_false_iff.2 fun h => c ((d0c x y).1 h)
   rw [if_pos (show (!eqE x y) = true by rw [hne]; rfl), if_neg (by simp [c])]
theorem T06 (a b : List C0) (hl : a.length ≤ 9223372036854775807) : J1 a b = some (decide (a = b)) := by
 unfold J1
 by_cases hab : a.length = b.length
 ·have h := H05 a b hab hl a.length 0 S0 (by omega) (by unfold S0; omega)
  rw [if_neg (by simp; omega), show (0 : Int) = ((0 : Nat) : Int) from rfl, h, List.drop_zero, List.drop_zero]
  by_cases c : a = b
  ·rw [if_pos c]; simp [i8, c]
  ·rw [if_neg c]; simp [i8, c]
 ·rw [if_pos (by simp; omega)]
  congr 1
  symm
  simp
  intro h; exact hab (by rw [h])
theorem i0d (g h : l0) (hl : g.2.2.length ≤ 9223372036854775807) : s6 g h = some (h0a g h) := by
 obtain ⟨r, n, es⟩ := g
 obtain ⟨r', n', es'⟩ := h
 unfold s6 h0a
 simp only [Prod.mk.injEq]
 by_cases c1 : r = r' <;> by_cases c2 : n = n' <;> simp [c1, c2, I3, P2, T06 es es' hl]
theorem d08 (a b : List C0) : ∀ (fuel : Nat) (k : Int), S3 a b fuel k = Q0 a b fuel k
 | 0, k => rfl
 | fuel + 1, k => by
  rw [I8, j2]
  simp only [d08 a b fuel]
theorem j0d (g h : l0) (hl : g.2.2.length ≤ 9223372036854775807) : p6 g h = some (h0a g h) := by
 have hS := T06 g.2.2 h.2.2 hl
 obtain ⟨r, n, es⟩ := g
 obtain ⟨r', n', es'⟩ := h
 unfold p6 h0a
 unfold J1 at hS
 simp only [d08, Prod.mk.injEq] at hS ⊢
 by_cases c1 : r = r'
 ·by_cases c2 : n = n'
  ·simp only [c1, c2, decide_true, Bool.not_true, cond_false, true_and]
   rw [← hS]
  ·simp [c1, c2]
 ·simp [c1]
def goE (x : C0) : List C0 → Bool × List C0
 | [] => (false, [])
 | y :: l => if M1 x y < 0 then (true, x :: y :: l) else if M1 x y = 0 then (true, y :: l) else ((goE x l).1, y :: (goE x l).2)
theorem e0c (x : C0) : ∀ l, W8 M1 x l = bif (goE x l).1 then (goE x l).2 else (goE x l).2 ++ [x]
 | [] => rfl
 | y :: l => by
  have ih := e0c x l
  unfold W8 goE
  by_cases c1 : M1 x y < 0
  ·rw [if_pos c1, if_pos c1]; rfl
  ·rw [if_neg c1, if_neg c1]
   by_cases c2 : M1 x y = 0
   ·rw [if_pos c2, if_pos c2]; rfl
   ·rw [if_neg c2, if_neg c2, ih]; cases (goE x l).1 <;> rfl
theorem k05 (l : List C0) (w0 w1 w2 : Int) (hl : l.length ≤ 1099511627776) : ∀ (d k fuel : Nat) (acc : List C0), k + d = l.length → d < fuel → acc.length ≤ k + 1 →
  Y2 l w0 w1 w2 fuel true (k : Int) acc = some (true, acc ++ l.drop k)
 | d, k, 0, acc, hd, hf, ha => by omega
 | 0, k, fuel + 1, acc, hd, hf, ha => by
  rw [W5, if_neg (by simp; omega), z3 (by omega), List.append_nil]
 | d + 1, k, fuel + 1, acc, hd, hf, ha => by
  have hk : k < l.length := by omega
  have he := J7 hk
  generalize l[k] = e at he
  obtain ⟨a, x, b⟩ := e
  have ih := k05 l w0 w1 w2 hl d (k + 1) fuel (acc ++ [(a, x, b)]) (by omega) (by omega) (by simp; omega)
  rw [W5, if_pos (by simp; omega), R3 he]
  simp only [T4 he, Option.bind_some, b9, N0 (Y05 _ _), Q2 hk (show l.length ≤ 9223372036854775807 by omega), Bool.not_true]
  have hb : ∀ b : Bool, (bif b then false else false) = false := fun b => by cases b <;> rfl
  simp only [hb, Bool.false_eq_true, if_false]
  rw [N0 (by simp; omega), Option.bind_some, ih]
  simp
theorem U06 (l : List C0) (w0 w1 w2 : Int) (hl : l.length ≤ 1099511627776) : ∀ (d k fuel : Nat) (acc : List C0), k + d = l.length → d < fuel → acc.length = k →
  Y2 l w0 w1 w2 fuel false (k : Int) acc = some ((goE (w0, w1, w2) (l.drop k)).1, acc ++ (goE (w0, w1, w2) (l.drop k)).2)
 | d, k, 0, acc, hd, hf, ha => by omega
 | 0, k, fuel + 1, acc, hd, hf, ha => by
  rw [W5, if_neg (by simp; omega), z3 (by omega)]; simp [goE]
 | d + 1, k, fuel + 1, acc, hd, hf, ha => by
  have hk : k < l.length := by omega
  have he := J7 hk
  generalize l[k] = e at he
  obtain ⟨a, x, b⟩ := e
  have ih := U06 l w0 w1 w2 hl d (k + 1) fuel (acc ++ [(a, x, b)]) (by omega) (by omega) (by simp; omega)
  have on1 := k05 l w0 w1 w2 hl d (k + 1) fuel (acc ++ [(a, x, b)]) (by omega) (by omega) (by simp; omega)
  have on2 := k05 l w0 w1 w2 hl d (k + 1) fuel ((acc ++ [(w0, w1, w2)]) ++ [(a, x, b)]) (by omega) (by omega) (by simp; omega)
  rw [W5, if_pos (by simp; omega), R3 he]
  simp only [T4 he, Option.bind_some, b9, N0 (Y05 _ _), Q2 hk (show l.length ≤ 9223372036854775807 by omega), Bool.not_true, Bool.not_false, goE]
  show _ = _
  unfold U08
  by_cases c1 : M1 (w0, w1, w2) (a, x, b) = 0
  ·rw [if_pos (by simpa using c1), if_neg (by simp [c1]), if_neg (by omega), if_pos c1]
   rw [N0 (by simp; omega), Option.bind_some, on1]; simp
  ·rw [if_neg (by simpa using c1)]
   by_cases c2 : M1 (w0, w1, w2) (a, x, b) < 0
   ·rw [if_pos (by simp [c2]), if_pos c2, N0 (by simp; omega), Option.bind_some, N0 (by simp; omega), Option.bind_some, on2]; simp
   ·rw [if_neg (by simp [c2]), if_neg c2, if_neg c1, N0 (by simp; omega), Option.bind_some, ih]; simp
theorem w0f (l : List C0) (e : C0) (hl : l.length ≤ 1099511627776) : C8 l e = some (W8 M1 e l) := by
 obtain ⟨w0, w1, w2⟩ := e
 unfold C8
 have h := U06 l w0 w1 w2 hl l.length 0 S0 [] (by omega) (E2 (by omega)) rfl
 rw [show ((0 : Nat) : Int) = 0 from rfl, List.drop_zero, List.nil_append] at h
 simp only [h, Option.bind_some, e0c]
 have hlen : ∀ l : List C0, (goE (w0, w1, w2) l).2.length ≤ l.length + 1 := fun l => by
  induction l with
  | nil => simp [goE]
  | cons y l ih =>
   unfold goE
   split
   ·simp
   ·split
    ·simp
    ·simp only [List.length_cons]; omega
 have := hlen l
 cases (goE (w0, w1, w2) l).1 with
 | true => rfl
 | false =>
  simp only [Bool.not_false, if_true, cond_false]
  rw [N0 (by simp; omega), Option.bind_some]
theorem l05 (e : C0) : ∀ l : List C0, (W8 M1 e l).length ≤ l.length + 1
 | [] => by simp [W8]
 | y :: l => by
  have := l05 e l
  unfold W8
  split
  ·simp
  ·split
   ·simp
   ·simp only [List.length_cons]; omega
theorem v0e (es : List C0) (hl : es.length ≤ 1099511627776) : N8 es = some (X8 M1 [] es) := by
 unfold N8
 rw [N0 (by simp; omega), Option.bind_some, N0 (by simp; omega), Option.bind_some, List.nil_append]
 exact congrArg some (d0a I06 d0c es es fun _ => Iff.rfl)
theorem V06 (g : l0) (hl : g.2.2.length ≤ 1099511627776) : V3 g = some g := by
 obtain ⟨r, n, es⟩ := g
 unfold V3
 simp only
 rw [N0 (by simp only [List.length_nil, Nat.zero_add]; simp only at hl; omega)]; rfl
theorem W06 (g : l0) (hl : g.2.2.length ≤ 1099511627776) : I4 g = some g := by
 obtain ⟨r, n, es⟩ := g
 unfold I4
 simp only
 rw [N0 (by simp only [List.length_nil, Nat.zero_add]; simp only at hl; omega)]; rfl
end Go.Proofs.YtfdlgbfeceodeaaGreat
namespace Go.Proofs.YtfdlgbfeceodeaaGreat
open Go.H
set_option linter.unusedVariables false
set_option linter.unusedSimpArgs false
inductive Rch (es : List C0) (v : Int) : Int → Prop
 | base : Rch es v v
 | fwd {e : C0} : e ∈ es → Rch es v e.1 → Rch es v e.2.2
 | bwd {e : C0} : e ∈ es → Rch es v e.2.2 → Rch es v e.1
theorem Rch.closed {es : List C0} {v : Int} : ∀ e ∈ es, Rch es v e.1 ↔ Rch es v e.2.2 := fun e he => ⟨.fwd he, .bwd he⟩
theorem Rch.sub {es : List C0} {v : Int} {P : Int → Prop} (hv : P v) (hc : ∀ e ∈ es, P e.1 ↔ P e.2.2) : ∀ {x}, Rch es v x → P x
 | _, .base => hv
 | _, .fwd he h => (hc _ he).1 (Rch.sub hv hc h)
 | _, .bwd he h => (hc _ he).2 (Rch.sub hv hc h)
def z6 (S : List Bool) (i : Int) : Bool := S.getD i.toNat false
def stJ (S : List Bool) (e : C0) : List Bool := (S.set e.1.toNat true).set e.2.2.toNat true
def pJ : List C0 → Bool → List Bool → Bool × List Bool
 | [], c, S => (c, S)
 | e :: r, c, S => bif z6 S e.1 == z6 S e.2.2 then pJ r c S else pJ r true (stJ S e)
def cF : List Bool → Nat
 | [] => 0
 | b :: r => (bif b then 0 else 1) + cF r
theorem e0b : ∀ (S : List Bool) (i : Nat), cF (S.set i true) ≤ cF S
 | [], i => by simp [cF]
 | b :: r, 0 => by simp [cF]
 | b :: r, i + 1 => by have := e0b r i; simp only [List.set_cons_succ, cF]; omega
theorem w0e : ∀ (S : List Bool) (i : Nat), S[i]? = some false → cF (S.set i true) < cF S
 | [], i, h => by simp at h
 | b :: r, 0, h => by simp at h; subst h; simp [cF]
 | b :: r, i + 1, h => by have := w0e r i (by simpa using h); simp only [List.set_cons_succ, cF]; omega
theorem T0f : ∀ S : List Bool, cF S ≤ S.length
 | [] => by simp [cF]
 | b :: r => by have := T0f r; cases b <;> simp only [cF, List.length_cons, cond_true, cond_false] <;> omega
def inN (n : Nat) (es : List C0) : Prop := ∀ e ∈ es, (0 ≤ e.1 ∧ e.1 < (n : Int)) ∧ (0 ≤ e.2.2 ∧ e.2.2 < (n : Int))
theorem Q02 {S : List Bool} {i : Nat} (h : i < S.length) (x : Int) : z6 (S.set i true) x = (decide (x.toNat = i) || z6 S x) := by
 unfold z6
 rw [List.getD_eq_getElem?_getD, List.getD_eq_getElem?_getD, List.getElem?_set]
 by_cases c : i = x.toNat
 ·rw [if_pos c, if_pos (by omega)]; simp [c]
 ·rw [if_neg c]
  have : decide (x.toNat = i) = false := by simp; exact fun e => c e.symm
  rw [this]; rfl
theorem f0b : ∀ (es : List C0) (c : Bool) (S : List Bool), (pJ es c S).2.length = S.length
 | [], c, S => rfl
 | e :: r, c, S => by
  unfold pJ
  cases z6 S e.1 == z6 S e.2.2
  ·simp only [cond_false]; rw [f0b r]; simp [stJ]
  ·simp only [cond_true]; exact f0b r c S
theorem Y08 {n : Nat} : ∀ (es : List C0) (c : Bool) (S : List Bool), S.length = n → inN n es → ∀ x, z6 S x = true → z6 (pJ es c S).2 x = true
 | [], c, S, hl, hn, x, h => h
 | e :: r, c, S, hl, hn, x, h => by
  have he := hn e (List.mem_cons_self ..)
  have hr : inN n r := fun e he => hn e (List.mem_cons_of_mem _ he)
  unfold pJ
  cases z6 S e.1 == z6 S e.2.2
  ·simp only [cond_false]
   refine Y08 r _ _ (by simp [stJ, hl]) hr x ?_
   rw [stJ, Q02 (by rw [List.length_set]; omega), Q02 (by omega), h]; simp
  ·simp only [cond_true]; exact Y08 r c S hl hr x h
theorem X06 {n : Nat} {P : Int → Prop} : ∀ (es : List C0) (c : Bool) (S : List Bool), S.length = n → inN n es → (∀ e ∈ es, P e.1 ↔ P e.2.2) → (∀ x, 0 ≤ x → z6 S x = true → P x) → ∀ x, 0 ≤ x → z6 (pJ es c S).2 x = true → P x
 | [], c, S, hl, hn, hc, hs, x, h0, h => hs x h0 h
 | e :: r, c, S, hl, hn, hc, hs, x, h0, h => by
  have he := hn e (List.mem_cons_self ..)
  have hr : inN n r := fun e he => hn e (List.mem_cons_of_mem _ he)
  have hc' := fun e he => hc e (List.mem_cons_of_mem _ he)
  have hce := hc e (List.mem_cons_self ..)
  unfold pJ at h
  cases hb : z6 S e.1 == z6 S e.2.2
  ·rw [hb] at h
   refine X06 r true (stJ S e) (by simp [stJ, hl]) hr hc' (fun y hy h => ?_) x h0 h
   rw [stJ, Q02 (by rw [List.length_set]; omega), Q02 (by omega)] at h
   simp only [Bool.or_eq_true, decide_eq_true_eq] at h
   have hor : P e.1 ∨ P e.2.2 := by
    cases h1 : z6 S e.1
    ·cases h2 : z6 S e.2.2
     ·rw [h1, h2] at hb; cases hb
     ·exact .inr (hs _ he.2.1 h2)
    ·exact .inl (hs _ he.1.1 h1)
   rcases h with h | h | h
   ·have : y = e.2.2 := by omega
    subst this; exact hor.elim hce.1 id
   ·have : y = e.1 := by omega
    subst this; exact hor.elim id hce.2
   ·exact hs y hy h
  ·rw [hb] at h
   exact X06 r c S hl hr hc' hs x h0 h
theorem g0b {n : Nat} : ∀ (es : List C0) (c : Bool) (S : List Bool), S.length = n → inN n es → cF (pJ es c S).2 ≤ cF S ∧ ((pJ es c S).1 = true → c = true ∨ cF (pJ es c S).2 < cF S) ∧ ((pJ es c S).1 = false → c = false ∧ (pJ es c S).2 = S ∧ ∀ e ∈ es, z6 S e.1 = z6 S e.2.2)
 | [], c, S, hl, hn => ⟨Nat.le_refl _, fun h => .inl h, fun h => ⟨h, rfl, fun e he => nomatch he⟩⟩
 | e :: r, c, S, hl, hn => by
  have he := hn e (List.mem_cons_self ..)
  have hr : inN n r := fun e he => hn e (List.mem_cons_of_mem _ he)
  unfold pJ
  cases hb : z6 S e.1 == z6 S e.2.2
  ·simp only [cond_false]
   obtain ⟨h1, h2, h3⟩ := g0b r true (stJ S e) (by simp [stJ, hl]) hr
   have hlt : cF (stJ S e) < cF S := by
    have g : ∀ (x : Int), 0 ≤ x → x < n → z6 S x = false → S[x.toNat]? = some false := fun x hx hx2 hg => by
     have hk : x.toNat < S.length := by omega
     unfold z6 at hg
     rw [List.getD_eq_getElem?_getD, List.getElem?_eq_getElem hk] at hg
     rw [List.getElem?_eq_getElem hk]; simpa using hg
    cases g1 : z6 S e.1
    ·have := w0e S _ (g _ he.1.1 he.1.2 g1)
     have := e0b (S.set e.1.toNat true) e.2.2.toNat
     unfold stJ; omega
    ·have g2 : z6 S e.2.2 = false := by
      cases g2 : z6 S e.2.2
      ·rfl
      ·rw [g1, g2] at hb; cases hb
     have g3 : (S.set e.1.toNat true)[e.2.2.toNat]? = some false := by
      rw [List.getElem?_set]
      by_cases q : e.1.toNat = e.2.2.toNat
      ·exfalso
       have : e.1 = e.2.2 := by omega
       rw [this, g2] at g1; cases g1
      ·rw [if_neg q]; exact g _ he.2.1 he.2.2 g2
     have := w0e _ _ g3
     have := e0b S e.1.toNat
     unfold stJ; omega
   refine ⟨by omega, fun _ => .inr (by omega), fun h => ?_⟩
   have := (h3 h).1; cases this
  ·simp only [cond_true]
   obtain ⟨h1, h2, h3⟩ := g0b r c S hl hr
   refine ⟨h1, h2, fun h => ⟨(h3 h).1, (h3 h).2.1, fun e' he' => ?_⟩⟩
   rcases List.mem_cons.1 he' with rfl | he'
   ·simpa using hb
   ·exact (h3 h).2.2 e' he'
theorem giB {S : List Bool} {n : Nat} (hl : S.length = n) {x : Int} (h0 : 0 ≤ x) (h1 : x < n) : gi S x = some (z6 S x) := by
 have hk : x.toNat < S.length := by omega
 have e : x = ((x.toNat : Nat) : Int) := by omega
 have h2 : gi S ((x.toNat : Nat) : Int) = some (z6 S x) := by
  rw [h05, List.getElem?_eq_getElem hk]
  unfold z6
  rw [List.getD_eq_getElem?_getD, List.getElem?_eq_getElem hk]; rfl
 rw [← e] at h2; exact h2
theorem e08 (es : List C0) {n : Nat} (hn : inN n es) (hl : es.length ≤ 9223372036854775807) : ∀ (d k fuel : Nat) (c : Bool) (S : List Bool), S.length = n → k + d = es.length → d < fuel →
  y2 es fuel c (k : Int) S = some (pJ (es.drop k) c S)
 | d, k, 0, c, S, hS, hd, hf => by omega
 | 0, k, fuel + 1, c, S, hS, hd, hf => by
  rw [t6, if_neg (by simp; omega), z3 (by omega)]; rfl
 | d + 1, k, fuel + 1, c, S, hS, hd, hf => by
  have hk : k < es.length := by omega
  have he := J7 hk
  have hin := hn _ (List.mem_of_getElem? he)
  generalize es[k] = e at he hin
  obtain ⟨a, l, b⟩ := e
  have ih := fun c' S' h => e08 es hn hl d (k + 1) fuel c' S' h (by omega) (by omega)
  rw [t6, if_pos (by simp; omega), R3 he]
  simp only [T4 he, Option.bind_some, giB hS hin.1.1 hin.1.2, giB hS hin.2.1 hin.2.2, Q2 hk hl, giB (show (S.set a.toNat true).length = n by simp [hS]) hin.2.1 hin.2.2, pJ]
  cases hb : z6 S a == z6 S b
  ·simp only [Bool.not_false, if_true, cond_false]
   exact ih _ _ (by simp [hS])
  ·simp only [Bool.not_true, Bool.false_eq_true, if_false, cond_true]
   exact ih _ _ hS
theorem f08 (es : List C0) {n : Nat} (hn : inN n es) (hl : es.length ≤ 9223372036854775806) : ∀ (m fuel : Nat) (S : List Bool), S.length = n → cF S ≤ m → m + 1 < fuel →
  ∃ S', N3 es fuel true S = some S' ∧ S'.length = n ∧ (∀ x, z6 S x = true → z6 S' x = true) ∧ (∀ e ∈ es, z6 S' e.1 = z6 S' e.2.2) ∧
   ∀ P : Int → Prop, (∀ e ∈ es, P e.1 ↔ P e.2.2) → (∀ x, 0 ≤ x → z6 S x = true → P x) → ∀ x, 0 ≤ x → z6 S' x = true → P x
 | m, 0, S, hS, hm, hf => by omega
 | m, fuel + 1, S, hS, hm, hf => by
  have h0 := e08 es hn (by omega) es.length 0 S0 false S hS (by omega) (by unfold S0; omega)
  rw [show ((0 : Nat) : Int) = 0 from rfl, List.drop_zero] at h0
  obtain ⟨c1, c2, c3⟩ := g0b es false S hS hn
  have hlen := f0b es false S
  rw [v6, if_pos rfl, h0, Option.bind_some]
  have hmono := Y08 es false S hS hn
  have hsnd := fun P => X06 (P := P) es false S hS hn
  generalize pJ es false S = q at *
  obtain ⟨c, S'⟩ := q
  simp only at c1 c2 c3 hlen hmono hsnd ⊢
  cases c with
  | true =>
   rcases c2 rfl with h | h
   ·cases h
   ·obtain ⟨S2, e1, e2, e3, e4, e5⟩ := f08 es hn hl (m - 1) fuel S' (by omega) (by omega) (by omega)
    exact ⟨S2, e1, e2, fun x hx => e3 x (hmono x hx), e4, fun P hc hs => e5 P hc (hsnd P hc hs)⟩
  | false =>
   obtain ⟨_, e, hall⟩ := c3 rfl
   subst e
   obtain _ | fuel := fuel
   ·omega
   ·rw [v6, if_neg (by simp)]
    exact ⟨_, rfl, hS, fun x h => h, hall, fun P _ hs => hs⟩
theorem x0e (r : Int) (n : Nat) (es : List C0) (hn : inN n es) (hl : es.length ≤ 9223372036854775806) (hn2 : 1 ≤ n) (hn3 : n ≤ 140737488355328) :
  ∃ S, Y4 (r, (n : Int), es) 0 = some S ∧ S.length = n ∧ ∀ x, 0 ≤ x → x < (n : Int) → (z6 S x = true ↔ Rch es 0 x) := by
 unfold Y4
 simp only [Int.toNat_natCast]
 have hg : gi (List.replicate n (false : Bool)) 0 = some false := by
  rw [r0e (x := false)]; rw [List.getElem?_replicate, if_pos (by omega)]
 rw [N0 (by omega), Option.bind_some, hg, Option.bind_some]
 have hS : ((List.replicate n (false : Bool)).set (0 : Int).toNat true).length = n := by simp
 obtain ⟨S', e1, e2, e3, e4, e5⟩ := f08 es hn hl n S0 _ hS (by have := T0f ((List.replicate n (false : Bool)).set (0 : Int).toNat true); omega) (by unfold S0; omega)
 rw [e1]
 have hb : ∀ x, z6 ((List.replicate n (false : Bool)).set (0 : Int).toNat true) x = decide (x.toNat = 0) := fun x => by
  rw [Q02 (by simp; omega)]
  have : z6 (List.replicate n false) x = false := by
   unfold z6
   rw [List.getD_eq_getElem?_getD, List.getElem?_replicate]
   split <;> rfl
  rw [this]; simp
 refine ⟨S', rfl, e2, fun x h0 h1 => ⟨fun h => ?_, fun h => ?_⟩⟩
 ·refine e5 (Rch es 0) Rch.closed (fun y hy h => ?_) x h0 h
  rw [hb] at h
  have : y = 0 := by simp at h; omega
  subst this; exact .base
 ·exact Rch.sub (P := fun x => z6 S' x = true) (e3 0 (by rw [hb]; rfl)) (fun e he => by rw [e4 e he]) h
theorem U0f (l : List Int) (w : Int) (hl : l.length ≤ 9223372036854775807) : ∀ (d k fuel : Nat), k + d = l.length → d < fuel →
  o6 l w fuel (k : Int) = some (if w ∈ l.drop k then .inl true else .inr ())
 | d, k, 0, hd, hf => by omega
 | 0, k, fuel + 1, hd, hf => by
  rw [L8, if_neg (by simp; omega), z3 (by omega)]; simp
 | d + 1, k, fuel + 1, hd, hf => by
  have hk : k < l.length := by omega
  have hx := J7 hk
  generalize l[k] = x at hx
  have ih := U0f l w hl d (k + 1) fuel (by omega) (by omega)
  rw [L8, if_pos (by simp; omega), R3 hx]
  simp only [T4 hx, Option.bind_some, Q2 hk hl, ih, List.mem_cons]
  by_cases c : x = w
  ·rw [if_pos (by simpa using c), if_pos (.inl c.symm)]
  ·rw [if_neg (by simpa using c)]
   by_cases c2 : w ∈ l.drop (k + 1)
   ·rw [if_pos c2, if_pos (.inr c2)]
   ·rw [if_neg c2, if_neg (fun h => h.elim (fun e => c e.symm) c2)]
theorem a06 (l : List Int) (w : Int) (hl : l.length ≤ 9223372036854775807) : Q3 l w = some (decide (w ∈ l)) := by
 unfold Q3
 have h := U0f l w hl l.length 0 S0 (by omega) (by unfold S0; omega)
 rw [show ((0 : Nat) : Int) = 0 from rfl, List.drop_zero] at h
 rw [h, Option.bind_some]
 by_cases c : w ∈ l
 ·rw [if_pos c]; simp [i8, c]
 ·rw [if_neg c]; simp [i8, c]
def s1 (u : List Int) (e : C0) : List Int := if e.1 ∈ u then W8 J5 e.2.2 u else u
def s2 (u : List Int) (e : C0) : List Int := if e.2.2 ∈ u then W8 J5 e.1 u else u
def pS : List C0 → List Int → List Int
 | [], u => u
 | e :: r, u => pS r (s2 (s1 u e) e)
theorem m05 {u : List Int} {e : C0} {x : Int} : x ∈ s1 u e ↔ x ∈ u ∨ (e.1 ∈ u ∧ x = e.2.2) := by
 unfold s1
 split
 ·rename_i h; rw [L02 y9]; constructor
  ·rintro (h1 | h1)
   ·exact .inr ⟨h, h1⟩
   ·exact .inl h1
  ·rintro (h1 | ⟨_, h1⟩)
   ·exact .inr h1
   ·exact .inl h1
 ·rename_i h; constructor
  ·exact .inl
  ·rintro (h1 | ⟨h1, _⟩)
   ·exact h1
   ·exact absurd h1 h
theorem n05 {u : List Int} {e : C0} {x : Int} : x ∈ s2 u e ↔ x ∈ u ∨ (e.2.2 ∈ u ∧ x = e.1) := by
 unfold s2
 split
 ·rename_i h; rw [L02 y9]; constructor
  ·rintro (h1 | h1)
   ·exact .inr ⟨h, h1⟩
   ·exact .inl h1
  ·rintro (h1 | ⟨_, h1⟩)
   ·exact .inr h1
   ·exact .inl h1
 ·rename_i h; constructor
  ·exact .inl
  ·rintro (h1 | ⟨h1, _⟩)
   ·exact h1
   ·exact absurd h1 h
theorem y0e (u : List Int) (e : C0) : (s1 u e).length ≤ u.length + 1 := by
 unfold s1; split
 ·exact A01 _ _
 ·omega
theorem z0e (u : List Int) (e : C0) : (s2 u e).length ≤ u.length + 1 := by
 unfold s2; split
 ·exact A01 _ _
 ·omega
theorem h0b : ∀ (es : List C0) (u : List Int), (pS es u).length ≤ u.length + 2 * es.length
 | [], u => by simp [pS]
 | e :: r, u => by
  have := h0b r (s2 (s1 u e) e)
  have := z0e (s1 u e) e
  have := y0e u e
  simp only [pS, List.length_cons]; omega
theorem a02 : ∀ (es : List C0) (u : List Int) (x : Int), x ∈ u → x ∈ pS es u
 | [], u, x, h => h
 | e :: r, u, x, h => a02 r _ x (n05.2 (.inl (m05.2 (.inl h))))
theorem Y06 {P : Int → Prop} : ∀ (es : List C0) (u : List Int), (∀ e ∈ es, P e.1 ↔ P e.2.2) → (∀ x ∈ u, P x) → ∀ x ∈ pS es u, P x
 | [], u, hc, hs => hs
 | e :: r, u, hc, hs => Y06 r _ (fun e he => hc e (List.mem_cons_of_mem _ he)) fun x hx => by
  have hce := hc e (List.mem_cons_self ..)
  have h1 : ∀ y ∈ s1 u e, P y := fun y hy => by
   rcases m05.1 hy with h | ⟨h, rfl⟩
   ·exact hs y h
   ·exact hce.1 (hs _ h)
  rcases n05.1 hx with h | ⟨h, rfl⟩
  ·exact h1 x h
  ·exact hce.2 (h1 _ h)
theorem i0a : ∀ (es : List C0) (u : List Int) (e : C0), e ∈ es → e.1 ∈ u ∨ e.2.2 ∈ u → e.1 ∈ pS es u ∧ e.2.2 ∈ pS es u
 | e' :: r, u, e, he, h => by
  simp only [pS]
  rcases List.mem_cons.1 he with rfl | he
  ·have h2 : e.2.2 ∈ s1 u e := by
    rcases h with h | h
    ·exact m05.2 (.inr ⟨h, rfl⟩)
    ·exact m05.2 (.inl h)
   exact ⟨a02 r _ _ (n05.2 (.inr ⟨h2, rfl⟩)), a02 r _ _ (n05.2 (.inl h2))⟩
  ·exact i0a r _ e he (h.imp (fun h => n05.2 (.inl (m05.2 (.inl h)))) fun h => n05.2 (.inl (m05.2 (.inl h))))
def act (es : List C0) (u : List Int) : Nat := es.countP fun e => decide (e.1 ∈ u) && decide (e.2.2 ∈ u)
def clo (es : List C0) (u : List Int) : Prop := ∀ e ∈ es, e.1 ∈ u ↔ e.2.2 ∈ u
theorem v0g (es : List C0) (u : List Int) : act es u ≤ es.length := List.countP_le_length
theorem g08 {α : Type} {p q : α → Bool} : ∀ {l : List α}, (∀ x ∈ l, p x = true → q x = true) → (∃ x ∈ l, p x = false ∧ q x = true) → l.countP p < l.countP q
 | [], _, ⟨x, hx, _⟩ => nomatch hx
 | y :: l, h, ⟨x, hx, h1, h2⟩ => by
  have hle : l.countP p ≤ l.countP q := List.countP_mono_left fun z hz => h z (List.mem_cons_of_mem _ hz)
  rcases List.mem_cons.1 hx with rfl | hx
  ·rw [List.countP_cons_of_neg (by simp [h1]), List.countP_cons_of_pos h2]; omega
  ·have ih := g08 (l := l) (fun z hz => h z (List.mem_cons_of_mem _ hz)) ⟨x, hx, h1, h2⟩
   cases hp : p y
   ·rw [List.countP_cons_of_neg (by simp [hp])]
    have : l.countP q ≤ (y :: l).countP q := by rw [List.countP_cons]; omega
    omega
   ·rw [List.countP_cons_of_pos hp, List.countP_cons_of_pos (h y (List.mem_cons_self ..) hp)]; omega
theorem C04 {es : List C0} {u : List Int} (h : clo es u) (x : Int) : x ∈ pS es u ↔ x ∈ u :=
 ⟨Y06 (P := fun x => x ∈ u) es u h (fun _ h => h) x, a02 es u x⟩
theorem A0e {es : List C0} {u : List Int} : clo es (pS es u) ∨ act es u < act es (pS es u) := by
 by_cases h : clo es u
 ·left
  intro e he
  rw [C04 h, C04 h]; exact h e he
 ·right
  have : ∃ e ∈ es, ¬ (e.1 ∈ u ↔ e.2.2 ∈ u) := by
   refine Classical.byContradiction fun hn => h fun e he => ?_
   exact Classical.byContradiction fun h2 => hn ⟨e, he, h2⟩
  obtain ⟨e, he, hne⟩ := this
  refine g08 (fun x hx h => ?_) ⟨e, he, ?_, ?_⟩
  ·simp only [Bool.and_eq_true, decide_eq_true_eq] at h ⊢
   exact ⟨a02 _ _ _ h.1, a02 _ _ _ h.2⟩
  ·rw [Bool.eq_false_iff]
   intro h
   simp only [Bool.and_eq_true, decide_eq_true_eq] at h
   exact hne ⟨fun _ => h.2, fun _ => h.1⟩
  ·have ht : e.1 ∈ u ∨ e.2.2 ∈ u := by
    refine Classical.byContradiction fun hn => hne ⟨fun h => absurd (.inl h) hn, fun h => absurd (.inr h) hn⟩
   have := i0a es u e he ht
   simp only [Bool.and_eq_true, decide_eq_true_eq]; exact this
def itS (es : List C0) : Nat → List Int → List Int
 | 0, u => u
 | j + 1, u => itS es j (pS es u)
theorem f0c (es : List C0) : ∀ (j : Nat) (u : List Int), (itS es j u).length ≤ u.length + j * (2 * es.length)
 | 0, u => by simp [itS]
 | j + 1, u => by have := f0c es j (pS es u); have := h0b es u; simp only [itS, Nat.add_mul, Nat.one_mul]; omega
theorem g0c (es : List C0) : ∀ (j : Nat) (u : List Int), clo es u → clo es (itS es j u)
 | 0, u, h => h
 | j + 1, u, h => g0c es j _ fun e he => by rw [C04 h, C04 h]; exact h e he
theorem h0c (es : List C0) : ∀ (j : Nat) (u : List Int), clo es (itS es j u) ∨ act es u + j ≤ act es (itS es j u)
 | 0, u => .inr (Nat.le_refl _)
 | j + 1, u => by
  rcases A0e (es := es) (u := u) with h | h
  ·exact .inl (g0c es j _ h)
  ·rcases h0c es j (pS es u) with h2 | h2
   ·exact .inl h2
   ·right; simp only [itS]; omega
theorem j0a (es : List C0) : ∀ (j : Nat) (u : List Int) (x : Int), x ∈ u → x ∈ itS es j u
 | 0, u, x, h => h
 | j + 1, u, x, h => j0a es j _ x (a02 es u x h)
theorem h08 {P : Int → Prop} (es : List C0) (hc : ∀ e ∈ es, P e.1 ↔ P e.2.2) : ∀ (j : Nat) (u : List Int), (∀ x ∈ u, P x) → ∀ x ∈ itS es j u, P x
 | 0, u, hs => hs
 | j + 1, u, hs => h08 es hc j _ (Y06 es u hc hs)
theorem x0f (es : List C0) (v x : Int) : x ∈ itS es (es.length + 1) [v] ↔ Rch es v x := by
 constructor
 ·exact h08 (P := Rch es v) es Rch.closed _ _ (fun y hy => by simp at hy; subst hy; exact .base) x
 ·have hc : clo es (itS es (es.length + 1) [v]) := by
   rcases h0c es (es.length + 1) [v] with h | h
   ·exact h
   ·have := v0g es (itS es (es.length + 1) [v]); omega
  exact Rch.sub (P := fun x => x ∈ itS es (es.length + 1) [v]) (j0a _ _ _ _ (by simp)) hc
theorem Z06 (es : List C0) (hl : es.length ≤ 9223372036854775807) : ∀ (d k fuel : Nat) (u : List Int), k + d = es.length → d < fuel → u.length + 2 * d ≤ 1099511627776 →
  C1 es fuel u (k : Int) = some (pS (es.drop k) u)
 | d, k, 0, u, hd, hf, hu => by omega
 | 0, k, fuel + 1, u, hd, hf, hu => by
  rw [B6, if_neg (by simp; omega), z3 (by omega)]; rfl
 | d + 1, k, fuel + 1, u, hd, hf, hu => by
  have hk : k < es.length := by omega
  have he := J7 hk
  generalize es[k] = e at he
  obtain ⟨a, l, b⟩ := e
  have ih := fun u' h => Z06 es hl d (k + 1) fuel u' (by omega) (by omega) h
  have g1 := y0e u (a, l, b)
  have g2 := z0e (s1 u (a, l, b)) (a, l, b)
  rw [B6, if_pos (by simp; omega), R3 he]
  simp only [T4 he, Option.bind_some, a06 u _ (by omega), Q2 hk hl, pS]
  by_cases c : a ∈ u
  ·rw [if_pos (by simpa using c), v04 _ _ (by omega), Option.bind_some]
   have e1 : s1 u (a, l, b) = W8 J5 b u := if_pos c
   rw [e1] at g1 g2 ⊢
   rw [a06 _ _ (by omega), Option.bind_some]
   by_cases c2 : b ∈ W8 J5 b u
   ·rw [if_pos (by simpa using c2), v04 _ _ (by omega), Option.bind_some]
    have e2 : s2 (W8 J5 b u) (a, l, b) = W8 J5 a (W8 J5 b u) := if_pos c2
    rw [e2] at g2 ⊢
    exact ih _ (by omega)
   ·rw [if_neg (by simpa using c2)]
    have e2 : s2 (W8 J5 b u) (a, l, b) = W8 J5 b u := if_neg c2
    rw [e2]
    exact ih _ (by omega)
  ·rw [if_neg (by simpa using c)]
   have e1 : s1 u (a, l, b) = u := if_neg c
   rw [e1] at g2 ⊢
   by_cases c2 : b ∈ u
   ·rw [if_pos (by simpa using c2), v04 _ _ (by omega), Option.bind_some]
    have e2 : s2 u (a, l, b) = W8 J5 a u := if_pos c2
    rw [e2] at g2 ⊢
    exact ih _ (by omega)
   ·rw [if_neg (by simpa using c2)]
    have e2 : s2 u (a, l, b) = u := if_neg c2
    rw [e2]
    exact ih _ (by omega)
theorem a07 (es : List C0) (hl : es.length ≤ 120) : ∀ (d k fuel : Nat) (u : List Int), k + d = es.length + 1 → d < fuel → u.length ≤ 1 + k * 240 →
  T3 es fuel u (k : Int) = some (itS es d u)
 | d, k, 0, u, hd, hf, hu => by omega
 | 0, k, fuel + 1, u, hd, hf, hu => by
  rw [C6, if_neg (by rw [w64 (by omega) (by omega)]; simp; omega)]; rfl
 | d + 1, k, fuel + 1, u, hd, hf, hu => by
  have h0 := Z06 es (by omega) es.length 0 S0 u (by omega) (E2 (by omega)) (by omega)
  rw [show ((0 : Nat) : Int) = 0 from rfl, List.drop_zero] at h0
  have ih := a07 es hl d (k + 1) fuel (pS es u) (by omega) (by omega) (by have := h0b es u; omega)
  rw [C6, if_pos (by rw [w64 (by omega) (by omega)]; simp; omega), h0, Option.bind_some, Q2 (show k < 1000 by omega) (by omega), ih]
  rfl
end Go.Proofs.YtfdlgbfeceodeaaGreat
namespace Go.Proofs.YtfdlgbfeceodeaaGreat
open Go.H
set_option linter.unusedVariables false
set_option linter.unusedSimpArgs false
def getI (P : List Int) (v : Int) : Int := P.getD v.toNat (-1)
def E00 : List Int → Nat → List Int → List Int
 | A, k, [] => A
 | A, k, v :: r => E00 (A.set v.toNat (k : Int)) (k + 1) r
def plc (n : Nat) (o : List Int) : List Int := E00 (List.replicate n (-1)) 0 o
theorem b07 : ∀ (o : List Int) (k : Nat) (A : List Int), (E00 A k o).length = A.length
 | [], k, A => rfl
 | v :: r, k, A => by rw [E00, b07 r]; simp
def inV (n : Nat) (o : List Int) : Prop := ∀ v ∈ o, 0 ≤ v ∧ v < (n : Int)
theorem giI {P : List Int} {n : Nat} (hl : P.length = n) {x : Int} (h0 : 0 ≤ x) (h1 : x < n) : gi P x = some (getI P x) := by
 have hk : x.toNat < P.length := by omega
 have e : x = ((x.toNat : Nat) : Int) := by omega
 have h2 : gi P ((x.toNat : Nat) : Int) = some (getI P x) := by
  rw [h05, List.getElem?_eq_getElem hk]
  unfold getI
  rw [List.getD_eq_getElem?_getD, List.getElem?_eq_getElem hk]; rfl
 rw [← e] at h2; exact h2
theorem c07 {A : List Int} {v x : Int} {y : Int} (h0 : 0 ≤ v) (h1 : v.toNat < A.length) (hx : 0 ≤ x) : getI (A.set v.toNat y) x = if x = v then y else getI A x := by
 unfold getI
 rw [List.getD_eq_getElem?_getD, List.getD_eq_getElem?_getD, List.getElem?_set]
 by_cases c : x = v
 ·rw [if_pos c, if_pos (by rw [c]), if_pos h1]; rfl
 ·rw [if_neg c, if_neg (by omega)]
theorem D04 {n : Nat} : ∀ (o : List Int) (k : Nat) (A : List Int), A.length = n → inV n o → (∀ x, 0 ≤ x → -1 ≤ getI A x ∧ getI A x < (k : Int)) → ∀ x, 0 ≤ x → -1 ≤ getI (E00 A k o) x ∧ getI (E00 A k o) x < ((k + o.length : Nat) : Int)
 | [], k, A, hA, ho, h, x, hx => h x hx
 | v :: r, k, A, hA, ho, h, x, hx => by
  have hv := ho v (List.mem_cons_self ..)
  have := D04 r (k + 1) (A.set v.toNat (k : Int)) (by simp [hA]) (fun w hw => ho w (List.mem_cons_of_mem _ hw)) (fun y hy => by
   rw [c07 hv.1 (by omega) hy]
   have := h y hy
   split <;> omega) x hx
  rw [E00, List.length_cons, show k + (r.length + 1) = k + 1 + r.length by omega]; exact this
theorem d07 (n : Nat) (x : Int) : getI (List.replicate n (-1)) x = -1 := by
 unfold getI
 rw [List.getD_eq_getElem?_getD, List.getElem?_replicate]
 split <;> rfl
theorem o05 {n : Nat} {o : List Int} (ho : inV n o) {x : Int} (hx : 0 ≤ x) : -1 ≤ getI (plc n o) x ∧ getI (plc n o) x < (o.length : Int) := by
 have := D04 o 0 (List.replicate n (-1)) (by simp) ho (fun x hx => by rw [d07]; omega) x hx
 rw [Nat.zero_add] at this; exact this
theorem i0c (n : Nat) (o : List Int) : (plc n o).length = n := by unfold plc; rw [b07]; simp
def pE (P : List Int) : List C0 → List C0
 | [] => []
 | e :: r => bif decide (0 ≤ getI P e.1) && decide (0 ≤ getI P e.2.2) then (getI P e.1, e.2.1, getI P e.2.2) :: pE P r else pE P r
theorem i0b (P : List Int) : ∀ es, (pE P es).length ≤ es.length
 | [] => by simp [pE]
 | e :: r => by
  have := i0b P r
  unfold pE
  cases decide (0 ≤ getI P e.1) && decide (0 ≤ getI P e.2.2) <;> simp only [cond_true, cond_false, List.length_cons] <;> omega
theorem V0f {n : Nat} {o : List Int} (ho : inV n o) : ∀ (es : List C0), inN n es → inN o.length (pE (plc n o) es)
 | [], hn => fun e he => nomatch he
 | e :: r, hn => by
  have hr := V0f ho r fun e he => hn e (List.mem_cons_of_mem _ he)
  have he := hn e (List.mem_cons_self ..)
  unfold pE
  cases hb : decide (0 ≤ getI (plc n o) e.1) && decide (0 ≤ getI (plc n o) e.2.2)
  ·simpa only [cond_false] using hr
  ·simp only [cond_true]
   simp only [Bool.and_eq_true, decide_eq_true_eq] at hb
   intro e' he'
   rcases List.mem_cons.1 he' with rfl | he'
   ·exact ⟨⟨hb.1, (o05 ho he.1.1).2⟩, hb.2, (o05 ho he.2.1).2⟩
   ·exact hr e' he'
def d01 (g : l0) (o : List Int) : l0 := (g.1, (o.length : Int), X8 M1 [] (pE (plc g.2.1.toNat o) g.2.2))
theorem I05 : ∀ (r l : List C0), (X8 M1 l r).length ≤ l.length + r.length
 | [], l => by simp [X8]
 | e :: r, l => by have := I05 r (W8 M1 e l); have := l05 e l; simp only [X8, List.length_cons]; omega
theorem e07 (g : l0) (o : List Int) : (d01 g o).2.2.length ≤ g.2.2.length := by
 have := I05 (pE (plc g.2.1.toNat o) g.2.2) []
 have := i0b (plc g.2.1.toNat o) g.2.2
 simp only [d01, List.length_nil] at *; omega
theorem k0d {n : Nat} {r : Int} {es : List C0} {o : List Int} (ho : inV n o) (hn : inN n es) : inN o.length (d01 (r, (n : Int), es) o).2.2 := by
 intro e he
 simp only [d01, Int.toNat_natCast] at he
 rcases (W01 I06 e _ _).1 he with h | h
 ·cases h
 ·exact V0f ho es hn e h
theorem j0c (n : Nat) (hn : n ≤ 140737488355328) : ∀ (d k fuel : Nat), k + d = n → d < fuel →
  T6 n fuel (k : Int) (List.replicate k (-1) ++ List.replicate d 0) = some (List.replicate n (-1))
 | d, k, 0, hd, hf => by omega
 | 0, k, fuel + 1, hd, hf => by
  rw [a9, if_neg (by simp; omega), show k = n by omega]; simp
 | d + 1, k, fuel + 1, hd, hf => by
  have hg : gi (List.replicate k (-1) ++ List.replicate (d + 1) (0 : Int)) (k : Int) = some 0 := by
   rw [h05, List.getElem?_append_right (by simp)]; simp
  have ih := j0c n hn d (k + 1) fuel (by omega) (by omega)
  rw [a9, if_pos (by simp; omega), hg, Option.bind_some, Q2 (show k < n by omega) (by omega), Int.toNat_natCast]
  have e : (List.replicate k (-1) ++ List.replicate (d + 1) (0 : Int)).set k (-1) = List.replicate (k + 1) (-1) ++ List.replicate d 0 := by
   rw [List.set_append_right _ _ (by simp), List.length_replicate, Nat.sub_self, List.replicate_succ, List.set_cons_zero, List.replicate_succ']
   simp
  rw [e, ih]
theorem k0c (o : List Int) {n : Nat} (ho : inV n o) (hl : o.length ≤ 9223372036854775807) : ∀ (d k fuel : Nat) (A : List Int), A.length = n → k + d = o.length → d < fuel →
  S6 o fuel (k : Int) A = some (E00 A k (o.drop k))
 | d, k, 0, A, hA, hd, hf => by omega
 | 0, k, fuel + 1, A, hA, hd, hf => by
  rw [Z8, if_neg (by simp; omega), z3 (by omega)]; rfl
 | d + 1, k, fuel + 1, A, hA, hd, hf => by
  have hk : k < o.length := by omega
  have hx := J7 hk
  have hin := ho _ (List.mem_of_getElem? hx)
  generalize o[k] = v at hx hin
  have ih := k0c o ho hl d (k + 1) fuel (A.set v.toNat (k : Int)) (by simp [hA]) (by omega) (by omega)
  rw [Z8, if_pos (by simp; omega), R3 hx, T4 hx, Option.bind_some, giI hA hin.1 hin.2, Option.bind_some, Q2 hk hl, ih]
  rfl
theorem l0c (es : List C0) {n : Nat} (hn : inN n es) (hl : es.length ≤ 1099511627776) (P : List Int) (hP : P.length = n) (r m : Int) : ∀ (d k fuel : Nat) (acc : List C0), k + d = es.length → d < fuel → acc.length ≤ k →
  B5 es P fuel (k : Int) r m acc = some (r, m, acc ++ pE P (es.drop k))
 | d, k, 0, acc, hd, hf, ha => by omega
 | 0, k, fuel + 1, acc, hd, hf, ha => by
  rw [Y8, if_neg (by simp; omega), z3 (by omega)]; simp [pE]
 | d + 1, k, fuel + 1, acc, hd, hf, ha => by
  have hk : k < es.length := by omega
  have he := J7 hk
  have hin := hn _ (List.mem_of_getElem? he)
  generalize es[k] = e at he hin
  obtain ⟨a, l, b⟩ := e
  have ih := fun acc' h => l0c es hn hl P hP r m d (k + 1) fuel acc' (by omega) (by omega) h
  rw [Y8, if_pos (by simp; omega), R3 he]
  simp only [T4 he, Option.bind_some, giI hP hin.1.1 hin.1.2, giI hP hin.2.1 hin.2.2, Q2 hk (show es.length ≤ 9223372036854775807 by omega), pE]
  by_cases c1 : 0 ≤ getI P a
  ·simp only [show decide (getI P a ≥ 0) = true by simpa using c1, I3, Option.bind_some, cond_true, show decide (0 ≤ getI P a) = true by simpa using c1, Bool.true_and]
   by_cases c2 : 0 ≤ getI P b
   ·rw [if_pos (by simpa using c2), N0 (by simp; omega), Option.bind_some, ih _ (by simp; omega)]
    simp [c2]
   ·rw [if_neg (by simpa using c2), ih _ (by omega)]
    simp [c2]
  ·simp only [show decide (getI P a ≥ 0) = false by simpa using c1, P2, Option.bind_some, cond_false, show decide (0 ≤ getI P a) = false by simpa using c1, Bool.false_and]
   rw [if_neg (by simp), ih _ (by omega)]
theorem B0e (r : Int) (n : Nat) (es : List C0) (o : List Int) (hn : inN n es) (ho : inV n o) (hn2 : n ≤ 1000000) (hl : es.length ≤ 1099511627776) (hl2 : o.length ≤ 1099511627776) :
  o8 (r, (n : Int), es) o = some (d01 (r, (n : Int), es) o) := by
 unfold o8
 have h2 := j0c n (by omega) n 0 S0 (by omega) (E2 (by omega))
 have h1 := k0c o ho (by omega) o.length 0 S0 (List.replicate n (-1)) (by simp) (by omega) (E2 (by omega))
 have h0 := l0c es hn hl (plc n o) (i0c n o) r ((o.length : Nat) : Int) es.length 0 S0 [] (by omega) (E2 (by omega)) (Nat.le_refl _)
 rw [show ((0 : Nat) : Int) = 0 from rfl] at h0 h1 h2
 rw [List.replicate_zero, List.nil_append] at h2
 rw [List.drop_zero] at h1
 rw [List.drop_zero, List.nil_append] at h0
 simp only [Int.toNat_natCast]
 rw [N0 (by omega), Option.bind_some, Option.bind_some, List.length_replicate, N0 (by omega), Option.bind_some, h2, Option.bind_some, h1, Option.bind_some]
 rw [show E00 (List.replicate n (-1)) 0 o = plc n o from rfl, h0]
 simp only [Option.bind_some]
 rw [v0e _ (by have := i0b (plc n o) es; omega), Option.bind_some]
 rfl
theorem C0e (A : List Int) (i k : Nat) : (A.map (· + 1)).set i (((k + 1 : Nat) : Int)) = (A.set i (k : Int)).map (· + 1) := by
 rw [List.map_set]; rfl
theorem f07 {A : List Int} {n : Nat} (hA : A.length = n) {x : Int} (h0 : 0 ≤ x) (h1 : x < n) : gi (A.map (· + 1)) x = some (getI A x + 1) := by
 have hk : x.toNat < A.length := by omega
 have e : x = ((x.toNat : Nat) : Int) := by omega
 have h2 : gi (A.map (· + 1)) ((x.toNat : Nat) : Int) = some (getI A x + 1) := by
  rw [h05, List.getElem?_map, List.getElem?_eq_getElem hk]
  unfold getI
  rw [List.getD_eq_getElem?_getD, List.getElem?_eq_getElem hk]; rfl
 rw [← e] at h2; exact h2
theorem D0e (r : Int) (n : Nat) (es : List C0) (o : List Int) (ho : inV n o) (hd' : o.Nodup) (hn2 : 1 ≤ n ∧ n ≤ 1000000) (hl : o.length ≤ 1099511627776) : ∀ (d k fuel : Nat) (A : List Int), A.length = n → (∀ x, 0 ≤ x → -1 ≤ getI A x ∧ getI A x ≤ 1099511627776) → (∀ x ∈ o.drop k, getI A x = -1) → k + d = o.length → d < fuel →
  C3 o (n : Int) r es fuel (k : Int) (A.map (· + 1)) = some (.inr ((E00 A k (o.drop k)).map (· + 1)))
 | d, k, 0, A, hA, hr, hm, hd, hf => by omega
 | 0, k, fuel + 1, A, hA, hr, hm, hd, hf => by
  rw [i6, if_neg (by simp; omega), z3 (by omega)]; rfl
 | d + 1, k, fuel + 1, A, hA, hr, hm, hd, hf => by
  have hk : k < o.length := by omega
  have hx := J7 hk
  have hin := ho _ (List.mem_of_getElem? hx)
  have hdr := R3 hx
  generalize o[k] = v at hx hin hdr
  have hnd : (o.drop k).Nodup := hd'.sublist (List.drop_sublist _ _)
  rw [hdr] at hnd hm
  have hA0 := hm v (List.mem_cons_self ..)
  have ih := D0e r n es o ho hd' hn2 hl d (k + 1) fuel (A.set v.toNat (k : Int)) (by simp [hA]) (fun x hx => by
   rw [c07 hin.1 (by omega) hx]; have := hr x hx; split <;> omega) (fun x hx => by
   have hx0 := ho x (List.mem_of_mem_drop hx)
   rw [c07 hin.1 (by omega) hx0.1, if_neg (fun e => (List.nodup_cons.1 hnd).1 (by rw [← e]; exact hx))]
   exact hm x (List.mem_cons_of_mem _ hx)) (by omega) (by omega)
  rw [i6, if_pos (by simp; omega), hdr, T4 hx]
  simp only [Option.bind_some, M02, w64 (show -9223372036854775808 ≤ (n : Int) - 1 by omega) (show (n : Int) - 1 ≤ 9223372036854775807 by omega), inR, show decide (0 ≤ v) = true by simpa using hin.1, show decide (v ≤ (n : Int) - 1) = true by simp; omega, Bool.and_self, Bool.not_true, Bool.not_false, I3, f07 hA hin.1 hin.2, hA0, cond_false]
  rw [if_neg (by decide), Q2 hk (by omega), C0e, ih]
  rfl
theorem E0e (es : List C0) {n : Nat} (hn : inN n es) (hl : es.length ≤ 1099511627776) (P : List Int) (hP : P.length = n) (hr : ∀ x, 0 ≤ x → -1 ≤ getI P x ∧ getI P x ≤ 1099511627776) (r m : Int) : ∀ (d k fuel : Nat) (acc : List C0), k + d = es.length → d < fuel → acc.length ≤ k →
  D2 es (P.map (· + 1)) fuel (k : Int) r m acc = some (r, m, X8 M1 acc (pE P (es.drop k)))
 | d, k, 0, acc, hd, hf, ha => by omega
 | 0, k, fuel + 1, acc, hd, hf, ha => by
  rw [g6, if_neg (by simp; omega), z3 (by omega)]; rfl
 | d + 1, k, fuel + 1, acc, hd, hf, ha => by
  have hk : k < es.length := by omega
  have he := J7 hk
  have hin := hn _ (List.mem_of_getElem? he)
  generalize es[k] = e at he hin
  obtain ⟨a, l, b⟩ := e
  have ih := fun acc' h => E0e es hn hl P hP hr r m d (k + 1) fuel acc' (by omega) (by omega) h
  have ra := hr a hin.1.1
  have rb := hr b hin.2.1
  rw [g6, if_pos (by simp; omega), R3 he]
  simp only [T4 he, Option.bind_some, f07 hP hin.1.1 hin.1.2, f07 hP hin.2.1 hin.2.2, Q2 hk (show es.length ≤ 9223372036854775807 by omega), pE]
  by_cases c1 : 0 ≤ getI P a
  ·simp only [show decide (getI P a + 1 > 0) = true by simp; omega, I3, Option.bind_some, cond_true, show decide (0 ≤ getI P a) = true by simpa using c1, Bool.true_and]
   by_cases c2 : 0 ≤ getI P b
   ·rw [if_pos (by simp; omega), w64 (by omega) (by omega), w64 (by omega) (by omega), show getI P a + 1 - 1 = getI P a by omega, show getI P b + 1 - 1 = getI P b by omega]
    rw [w0f _ _ (by omega), Option.bind_some, ih _ (by have := l05 (getI P a, l, getI P b) acc; omega)]
    simp [c2, X8]
   ·rw [if_neg (by simp; omega), ih _ (by omega)]
    simp [c2]
  ·simp only [show decide (getI P a + 1 > 0) = false by simp; omega, P2, Option.bind_some, cond_false, show decide (0 ≤ getI P a) = false by simpa using c1, Bool.false_and]
   rw [if_neg (by simp), ih _ (by omega)]
theorem j0b (r : Int) (n : Nat) (es : List C0) (o : List Int) (hg : Z4 (r, (n : Int), es) = true) (ho : inV n o) (hd : o.Nodup) (h1 : 1 ≤ o.length) (h2 : o.length ≤ n) :
  H5 (r, (n : Int), es) o = some (d01 (r, (n : Int), es) o, true) := by
 obtain ⟨q1, q2, q3, q4⟩ := O02 hg
 simp only at q2 q3 q4
 have hn : inN n es := fun e he => ⟨(q1 e he).1, (q1 e he).2.1⟩
 have hG := Q9 (r, (n : Int), es) (by simp only; omega)
 unfold H5
 have e1 := D0e r n es o ho hd (by omega) (by omega) o.length 0 S0 (List.replicate n (-1)) (by simp) (fun x hx => by rw [d07]; omega) (fun x hx => d07 n x) (by omega) (E2 (by omega))
 have e0 := E0e es hn (by omega) (plc n o) (i0c n o) (fun x hx => by have := o05 ho hx; omega) r ((o.length : Nat) : Int) es.length 0 S0 [] (by omega) (E2 (by omega)) (Nat.le_refl _)
 rw [show ((0 : Nat) : Int) = 0 from rfl, List.drop_zero] at e0 e1
 rw [show (List.replicate n (-1 : Int)).map (· + 1) = List.replicate n 0 by simp] at e1
 rw [show E00 (List.replicate n (-1)) 0 o = plc n o from rfl] at e1
 have c1 : decide (((o.length : Nat) : Int) = 0) = false := decide_eq_false (by omega)
 have c2 : decide (((o.length : Nat) : Int) > (n : Int)) = false := decide_eq_false (by omega)
 simp only [hG, hg, Option.bind_some, Bool.not_true, cond_false, Int.toNat_natCast, c1, c2]
 rw [if_neg (by simp), N0 (by omega), Option.bind_some, e1]
 simp only [Option.bind_some, i8, e0]
 rfl
end Go.Proofs.YtfdlgbfeceodeaaGreat
namespace Go.Proofs.YtfdlgbfeceodeaaGreat
open Go.H
set_option linter.unusedVariables false
set_option linter.unusedSimpArgs false
theorem b02 : ∀ (n : Nat) (o : List Int), o.Nodup → inV n o → o.length ≤ n
 | 0, [], _, _ => Nat.le_refl _
 | 0, x :: r, _, h => by have := h x (List.mem_cons_self ..); omega
 | n + 1, o, hd, h => by
  have h1 : inV n (o.erase (n : Int)) := fun x hx => by
   obtain ⟨hne, hm⟩ := (List.Nodup.mem_erase_iff hd).1 hx
   have := h x hm; omega
  have h2 := b02 n _ (hd.erase _) h1
  by_cases hm : (n : Int) ∈ o
  ·rw [List.length_erase_of_mem hm] at h2; omega
  ·rw [List.erase_of_not_mem hm] at h2; omega
def c02 : Nat → Nat → List Int
 | 0, _ => []
 | d + 1, i => (i : Int) :: -(i : Int) :: c02 d (i + 1)
theorem E04 : ∀ d i, (c02 d i).length = 2 * d
 | 0, i => rfl
 | d + 1, i => by simp only [c02, List.length_cons, E04 d]; omega
theorem Z08 : ∀ (d i : Nat), i + d ≤ 1000 → ∀ x ∈ c02 d i, c01 x
 | 0, i, h, x, hx => nomatch hx
 | d + 1, i, h, x, hx => by
  simp only [c02, List.mem_cons] at hx
  rcases hx with rfl | rfl | hx
  ·exact ⟨⟨by omega, by omega⟩, by omega⟩
  ·exact ⟨⟨by omega, by omega⟩, by omega⟩
  ·exact Z08 d (i + 1) (by omega) x hx
theorem F0e (R : Nat) (hR : R ≤ 900) : ∀ (d i fuel : Nat) (acc : List Int), i + d = R + 1 → d < fuel → acc.length + 2 * d ≤ 10000 →
  y5 (R : Int) fuel (i : Int) acc = some (acc ++ c02 d i)
 | d, i, 0, acc, hd, hf, ha => by omega
 | 0, i, fuel + 1, acc, hd, hf, ha => by
  rw [T7, if_neg (by simp; omega)]; simp [c02]
 | d + 1, i, fuel + 1, acc, hd, hf, ha => by
  have ih := F0e R hR d (i + 1) fuel (acc ++ [(i : Int), -(i : Int)]) (by omega) (by omega) (by simp; omega)
  have w1 : IntKind.i64.wrap (0 - (i : Int)) = -(i : Int) := by rw [w64 (by omega) (by omega)]; omega
  rw [T7, if_pos (by simp; omega), w1, N0 (by simp; omega), Option.bind_some, Q2 (show i < 1000 by omega) (by omega), ih]
  simp [c02]
theorem G0e (R : Nat) (hR : R ≤ 900) : ∀ (d i fuel : Nat) (acc : List Int), i + d = R + 1 → d < fuel → acc.length + 2 * d ≤ 10000 →
  B4 (R : Int) fuel (i : Int) acc = some (acc ++ c02 d i)
 | d, i, 0, acc, hd, hf, ha => by omega
 | 0, i, fuel + 1, acc, hd, hf, ha => by
  rw [j7, if_neg (by simp; omega)]; simp [c02]
 | d + 1, i, fuel + 1, acc, hd, hf, ha => by
  have ih := G0e R hR d (i + 1) fuel ((acc ++ [(i : Int)]) ++ [-(i : Int)]) (by omega) (by omega) (by simp; omega)
  have w1 : IntKind.i64.wrap (0 - (i : Int)) = -(i : Int) := by rw [w64 (by omega) (by omega)]; omega
  rw [j7, if_pos (by simp; omega), w1, N0 (by simp; omega), Option.bind_some, N0 (by simp; omega), Option.bind_some, Q2 (show i < 1000 by omega) (by omega), ih]
  simp [c02]
theorem w0g (R : Nat) (hR : R ≤ 900) : p7 (R : Int) = some (c02 R 1) := by
 unfold p7
 rw [show (1 : Int) = ((1 : Nat) : Int) from rfl, F0e R hR R 1 S0 [] (by omega) (E2 (by omega)) (by simp; omega)]; rfl
theorem x0g (R : Nat) (hR : R ≤ 900) : l7 (R : Int) = some (c02 R 1) := by
 unfold l7
 rw [show (1 : Int) = ((1 : Nat) : Int) from rfl, G0e R hR R 1 S0 [] (by omega) (E2 (by omega)) (by simp; omega)]; rfl
def g07 (u : List Int) (x : Int) : List Int := if 0 ≤ x ∧ x ∉ u then u ++ [x] else u
def g02 (g : l0) (v : Int) : List Int → List Int → List Int
 | [], u => u
 | x :: r, u => g02 g v r (g07 u (D6 g v x))
def c00 (g : l0) (ls : List Int) : Nat → Nat → List Int → List Int
 | 0, i, u => u
 | f + 1, i, u => match u[i]? with
  | some v => c00 g ls f (i + 1) (g02 g v ls u)
  | none => u
def gud (n : Nat) (u : List Int) : Prop := u.Nodup ∧ inV n u
theorem H0e {n : Nat} {u : List Int} {x : Int} (h : gud n u) (hx : x = -1 ∨ (0 ≤ x ∧ x < (n : Int))) : gud n (g07 u x) := by
 unfold g07
 split
 ·rename_i hc
  refine ⟨List.nodup_append.2 ⟨h.1, by simp, fun a ha b hb => ?_⟩, fun y hy => ?_⟩
  ·simp at hb; subst hb; exact fun e => hc.2 (e ▸ ha)
  ·rcases List.mem_append.1 hy with hy | hy
   ·exact h.2 y hy
   ·simp at hy; subst hy; omega
 ·exact h
theorem k0a (u : List Int) (x : Int) : ∃ t, g07 u x = u ++ t := by
 unfold g07; split
 ·exact ⟨_, rfl⟩
 ·exact ⟨[], by simp⟩
theorem g03 (g : l0) (v : Int) : ∀ (ls u : List Int), ∃ t, g02 g v ls u = u ++ t
 | [], u => ⟨[], by simp [g02]⟩
 | x :: r, u => by
  obtain ⟨t1, e1⟩ := k0a u (D6 g v x)
  obtain ⟨t2, e2⟩ := g03 g v r (g07 u (D6 g v x))
  exact ⟨t1 ++ t2, by rw [g02, e2, e1, List.append_assoc]⟩
theorem h03 {r : Int} {n : Nat} {es : List C0} (hg : inG (r, (n : Int), es)) (v : Int) : ∀ (ls u : List Int), gud n u → gud n (g02 (r, (n : Int), es) v ls u)
 | [], u, h => h
 | x :: l, u, h => h03 hg v l _ (H0e h (Z05 hg v x))
theorem h07 {r : Int} {n : Nat} {es : List C0} (hg : inG (r, (n : Int), es)) (ls : List Int) : ∀ (f i : Nat) (u : List Int), gud n u → gud n (c00 (r, (n : Int), es) ls f i u)
 | 0, i, u, h => h
 | f + 1, i, u, h => by
  unfold c00
  split
  ·exact h07 hg ls f _ _ (h03 hg _ _ _ h)
  ·exact h
theorem i07 (g : l0) (ls : List Int) : ∀ (f i : Nat) (u : List Int), u.length ≤ (c00 g ls f i u).length
 | 0, i, u => Nat.le_refl _
 | f + 1, i, u => by
  unfold c00
  split
  ·rename_i v _
   obtain ⟨t, e⟩ := g03 g v ls u
   have := i07 g ls f (i + 1) (g02 g v ls u)
   rw [e] at this ⊢; simp only [List.length_append] at this; omega
  ·exact Nat.le_refl _
theorem m0c (r : Int) (n : Nat) (es : List C0) (hg : inG (r, (n : Int), es)) (hn : n ≤ 40) (hes : es.length ≤ 1099511627776) (ls : List Int) (hls : ∀ x ∈ ls, c01 x) (hl : ls.length ≤ 1000000) (i : Nat) (v : Int) : ∀ (d k fuel : Nat) (u : List Int), gud n u → u[i]? = some v → k + d = ls.length → d < fuel →
  P1 ls (i : Int) r (n : Int) es fuel (k : Int) u = some (g02 (r, (n : Int), es) v (ls.drop k) u)
 | d, k, 0, u, hu, hi, hd, hf => by omega
 | 0, k, fuel + 1, u, hu, hi, hd, hf => by
  rw [S5, if_neg (by simp; omega), z3 (by omega)]; rfl
 | d + 1, k, fuel + 1, u, hu, hi, hd, hf => by
  have hk : k < ls.length := by omega
  have hx := J7 hk
  have hxm := hls _ (List.mem_of_getElem? hx)
  have hdr := R3 hx
  generalize ls[k] = x at hx hxm hdr
  have hlen := b02 n u hu.1 hu.2
  have hnx : D6 (r, (n : Int), es) v x = -1 ∨ (0 ≤ D6 (r, (n : Int), es) v x ∧ D6 (r, (n : Int), es) v x < (n : Int)) := Z05 hg v x
  have hg2 := H0e hu hnx
  have hi2 : (g07 u (D6 (r, (n : Int), es) v x))[i]? = some v := by
   obtain ⟨t, e⟩ := k0a u (D6 (r, (n : Int), es) v x)
   rw [e, List.getElem?_append_left (List.getElem?_eq_some_iff.1 hi).1]; exact hi
  have ih := m0c r n es hg hn hes ls hls hl i v d (k + 1) fuel _ hg2 hi2 (by omega) (by omega)
  rw [S5, if_pos (by simp; omega), hdr]
  simp only [T4 hi, T4 hx, Option.bind_some, c0b (r, (n : Int), es) v x hxm hes, N0 (c0c hg (show (n : Int) ≤ 40 by omega) v x), Q2 hk (show ls.length ≤ 9223372036854775807 by omega), g02]
  rw [← ih]
  generalize D6 (r, (n : Int), es) v x = y at *
  unfold g07
  by_cases c1 : 0 ≤ y
  ·simp only [show decide (y ≥ 0) = true by simpa using c1, I3, a06 u y (by omega), Option.bind_some, cond_true]
   by_cases c2 : y ∈ u
   ·rw [if_neg (by simp [c2]), if_neg (by simp [c2])]
   ·rw [if_pos (by simp [c2]), if_pos ⟨c1, c2⟩, N0 (by simp; omega), Option.bind_some]
  ·simp only [show decide (y ≥ 0) = false by simpa using c1, P2, Option.bind_some, cond_false]
   rw [if_neg (by simp), if_neg (fun h => c1 h.1)]
theorem n0c (r : Int) (n : Nat) (es : List C0) (hg : inG (r, (n : Int), es)) (hn : n ≤ 40) (hes : es.length ≤ 1099511627776) (ls : List Int) (hls : ∀ x ∈ ls, c01 x) (hl : ls.length ≤ 1000000) : ∀ (f i fuel : Nat) (u : List Int), gud n u → i ≤ u.length → n + 1 ≤ i + f → f < fuel →
  y3 ls r (n : Int) es fuel (i : Int) u = some (c00 (r, (n : Int), es) ls f i u)
 | f, i, 0, u, hu, hi, hd, hf => by omega
 | 0, i, fuel + 1, u, hu, hi, hd, hf => by have := b02 n u hu.1 hu.2; omega
 | f + 1, i, fuel + 1, u, hu, hi, hd, hf => by
  have hlen := b02 n u hu.1 hu.2
  rw [I7, Option.bind_some, N0 (by omega), Option.bind_some]
  by_cases hk : i < u.length
  ·have hx := J7 hk
   generalize u[i] = v at hx
   have h0 := m0c r n es hg hn hes ls hls hl i v ls.length 0 S0 u hu hx (by omega) (E2 (by omega))
   rw [show ((0 : Nat) : Int) = 0 from rfl, List.drop_zero] at h0
   obtain ⟨t, e⟩ := g03 (r, (n : Int), es) v ls u
   have ih := n0c r n es hg hn hes ls hls hl f (i + 1) fuel _ (h03 hg v ls u hu) (by rw [e, List.length_append]; omega) (by omega) (by omega)
   rw [if_pos (by simpa using hk), h0, Option.bind_some, Q2 hk (by omega), ih]
   simp only [c00, hx]
  ·have hx : u[i]? = none := List.getElem?_eq_none (by omega)
   rw [if_neg (by simpa using hk)]
   simp only [c00, hx]
def T00 (g : l0) : List Int := c00 g (c02 g.1.toNat 1) (g.2.1.toNat + 1) 0 [0]
theorem i08 {g : l0} (hf : A3 g = true) : gud g.2.1.toNat (T00 g) ∧ 1 ≤ (T00 g).length := by
 obtain ⟨h1, h2, h3, h4⟩ := J9 hf
 obtain ⟨r, n, es⟩ := g
 simp only at h2 h3 h4
 obtain ⟨N, rfl⟩ : ∃ N : Nat, n = (N : Int) := ⟨n.toNat, by omega⟩
 refine ⟨?_, ?_⟩
 ·exact h07 h1 _ _ _ _ ⟨by simp, fun x hx => by simp at hx; subst hx; show (0 : Int) ≤ 0 ∧ (0 : Int) < (((N : Int).toNat : Nat) : Int); omega⟩
 ·exact i07 _ _ _ _ [0]
theorem l0a (g : l0) (hf : A3 g = true) : i5 g = some (T00 g) := by
 obtain ⟨h1, h2, h3, h4⟩ := J9 hf
 have hF := P02 g (by omega)
 obtain ⟨r, n, es⟩ := g
 simp only at h2 h3 h4
 obtain ⟨N, rfl⟩ : ∃ N : Nat, n = (N : Int) := ⟨n.toNat, by omega⟩
 obtain ⟨R, rfl⟩ : ∃ R : Nat, r = (R : Int) := ⟨r.toNat, by omega⟩
 unfold i5
 have h0 := n0c (R : Int) N es h1 (by omega) (by omega) (c02 R 1) (Z08 R 1 (by omega)) (by rw [E04]; omega) (N + 1) 0 S0 [0] ⟨by simp, fun x hx => by simp at hx; subst hx; omega⟩ (by simp) (by omega) (E2 (by omega))
 simp only [hF, hf, Option.bind_some, Bool.not_true, x0g R (by omega)]
 rw [show ((0 : Nat) : Int) = 0 from rfl] at h0
 rw [if_neg (by simp), h0]
 rfl
theorem y0f {a : List Int} (la : a.length ≤ 1099511627776) : H6 a = some a := by
 unfold H6
 rw [N0 (by simp; omega)]; rfl
def B01 (W : List (Option (List Int))) (x : Int) : Option (List Int) := W.getD x.toNat none
theorem giO {W : List (Option (List Int))} {n : Nat} (hl : W.length = n) {x : Int} (h0 : 0 ≤ x) (h1 : x < n) : gi W x = some (B01 W x) := by
 have hk : x.toNat < W.length := by omega
 have e : x = ((x.toNat : Nat) : Int) := by omega
 have h2 : gi W ((x.toNat : Nat) : Int) = some (B01 W x) := by
  rw [h05, List.getElem?_eq_getElem hk]
  unfold B01
  rw [List.getD_eq_getElem?_getD, List.getElem?_eq_getElem hk]; rfl
 rw [← e] at h2; exact h2
theorem C01 {A : List (Option (List Int))} {v x : Int} {y : Option (List Int)} (h0 : 0 ≤ v) (h1 : v.toNat < A.length) (hx : 0 ≤ x) : B01 (A.set v.toNat y) x = if x = v then y else B01 A x := by
 unfold B01
 rw [List.getD_eq_getElem?_getD, List.getD_eq_getElem?_getD, List.getElem?_set]
 by_cases c : x = v
 ·rw [if_pos c, if_pos (by rw [c]), if_pos h1]; rfl
 ·rw [if_neg c, if_neg (by omega)]
structure WOk (n : Nat) (W : List (Option (List Int))) (u : List Int) : Prop where
 len : W.length = n
 iff : ∀ x, 0 ≤ x → x < (n : Int) → ((B01 W x).isNone = true ↔ x ∉ u)
 short : ∀ x, ((B01 W x).getD []).length ≤ u.length
theorem o0c (r : Int) (n : Nat) (es : List C0) (hg : inG (r, (n : Int), es)) (hn : n ≤ 40) (hes : es.length ≤ 1099511627776) (ls : List Int) (hls : ∀ x ∈ ls, c01 x) (hl : ls.length ≤ 1000000) (v : Int) (hv : 0 ≤ v ∧ v < (n : Int)) : ∀ (d k fuel : Nat) (W : List (Option (List Int))) (u : List Int), gud n u → WOk n W u → k + d = ls.length → d < fuel →
  ∃ W', M2 ls r (n : Int) es v fuel (k : Int) W u = some (W', g02 (r, (n : Int), es) v (ls.drop k) u) ∧ WOk n W' (g02 (r, (n : Int), es) v (ls.drop k) u)
 | d, k, 0, W, u, hu, hw, hd, hf => by omega
 | 0, k, fuel + 1, W, u, hu, hw, hd, hf => by
  rw [U6, if_neg (by simp; omega), z3 (by omega)]; exact ⟨W, rfl, hw⟩
 | d + 1, k, fuel + 1, W, u, hu, hw, hd, hf => by
  have hk : k < ls.length := by omega
  have hx := J7 hk
  have hxm := hls _ (List.mem_of_getElem? hx)
  have hdr := R3 hx
  generalize ls[k] = x at hx hxm hdr
  have hlen := b02 n u hu.1 hu.2
  have hnx : D6 (r, (n : Int), es) v x = -1 ∨ (0 ≤ D6 (r, (n : Int), es) v x ∧ D6 (r, (n : Int), es) v x < (n : Int)) := Z05 hg v x
  have hg2 := H0e hu hnx
  have ih := fun W' h => o0c r n es hg hn hes ls hls hl v hv d (k + 1) fuel W' _ hg2 h (by omega) (by omega)
  rw [U6, if_pos (by simp; omega), hdr]
  simp only [T4 hx, Option.bind_some, d0b (r, (n : Int), es) v x hxm hes, N0 (c0c hg (show (n : Int) ≤ 40 by omega) v x), Q2 hk (show ls.length ≤ 9223372036854775807 by omega), g02]
  generalize D6 (r, (n : Int), es) v x = y at *
  by_cases c1 : 0 ≤ y
  ·have hy : y < (n : Int) := by omega
   simp only [show decide (y ≥ 0) = true by simpa using c1, I3, giO hw.len c1 hy, Option.bind_some, cond_true]
   by_cases c2 : y ∈ u
   ·have : ¬ ((B01 W y).isNone = true) := fun h => (hw.iff y c1 hy).1 h c2
    have e : g07 u y = u := if_neg fun h => h.2 c2
    rw [if_neg this]
    rw [e] at ih ⊢
    exact ih W hw
   ·have : (B01 W y).isNone = true := (hw.iff y c1 hy).2 c2
    have e : g07 u y = u ++ [y] := if_pos ⟨c1, c2⟩
    have hs := hw.short v
    rw [if_pos this, giO hw.len hv.1 hv.2, Option.bind_some, y0f (by omega), Option.bind_some, N0 (by simp; omega), Option.bind_some, N0 (by simp; omega), Option.bind_some]
    rw [e] at ih ⊢
    refine ih _ ⟨by simp [hw.len], fun z h0 h1 => ?_, fun z => ?_⟩
    ·rw [C01 c1 (by have := hw.len; omega) h0]
     by_cases c : z = y
     ·rw [if_pos c]; simp [c]
     ·rw [if_neg c, hw.iff z h0 h1]; simp [c]
    ·by_cases hz : 0 ≤ z
     ·rw [C01 c1 (by have := hw.len; omega) hz]
      by_cases c : z = y
      ·rw [if_pos c]; simp; exact hs
      ·rw [if_neg c]; have := hw.short z; simp only [List.length_append]; omega
     ·have hz0 : B01 (W.set y.toNat (some ((B01 W v).getD [] ++ [x]))) z = B01 (W.set y.toNat (some ((B01 W v).getD [] ++ [x]))) 0 := by
       unfold B01; rw [show z.toNat = (0 : Int).toNat by omega]
      rw [hz0, C01 c1 (by have := hw.len; omega) (Int.le_refl 0)]
      by_cases c : (0 : Int) = y
      ·rw [if_pos c]; simp; exact hs
      ·rw [if_neg c]; have := hw.short 0; simp only [List.length_append]; omega
  ·have e : g07 u y = u := if_neg fun h => c1 h.1
   simp only [show decide (y ≥ 0) = false by simpa using c1, P2, Option.bind_some, cond_false]
   rw [if_neg (by simp)]
   rw [e] at ih ⊢
   exact ih W hw
theorem p0c (R n : Nat) (hR : R ≤ 900) (es : List C0) (hg : inG ((R : Int), (n : Int), es)) (hn : n ≤ 40) (hes : es.length ≤ 1099511627776) : ∀ (f i fuel : Nat) (W : List (Option (List Int))) (u : List Int), gud n u → WOk n W u → i ≤ u.length → n + 1 ≤ i + f → f < fuel →
  ∃ W', d4 (R : Int) (n : Int) es fuel (i : Int) W u = some (W', c00 ((R : Int), (n : Int), es) (c02 R 1) f i u)
 | f, i, 0, W, u, hu, hw, hi, hd, hf => by omega
 | 0, i, fuel + 1, W, u, hu, hw, hi, hd, hf => by have := b02 n u hu.1 hu.2; omega
 | f + 1, i, fuel + 1, W, u, hu, hw, hi, hd, hf => by
  have hlen := b02 n u hu.1 hu.2
  rw [O8, Option.bind_some, N0 (by omega), Option.bind_some]
  by_cases hk : i < u.length
  ·have hx := J7 hk
   have hv := hu.2 _ (List.mem_of_getElem? hx)
   generalize u[i] = v at hx hv
   obtain ⟨W1, h0, hw1⟩ := o0c (R : Int) n es hg hn hes (c02 R 1) (Z08 R 1 (by omega)) (by rw [E04]; omega) v hv (c02 R 1).length 0 S0 W u hu hw (by omega) (E2 (by rw [E04]; omega))
   rw [show ((0 : Nat) : Int) = 0 from rfl, List.drop_zero] at h0
   rw [List.drop_zero] at hw1
   obtain ⟨t, e⟩ := g03 ((R : Int), (n : Int), es) v (c02 R 1) u
   obtain ⟨W2, ih⟩ := p0c R n hR es hg hn hes f (i + 1) fuel W1 _ (h03 hg v _ u hu) hw1 (by rw [e, List.length_append]; omega) (by omega) (by omega)
   rw [if_pos (by simpa using hk), T4 hx, Option.bind_some, w0g R hR, Option.bind_some, h0, Option.bind_some]
   simp only [Q2 hk (show u.length ≤ 9223372036854775807 by omega), ih, c00, hx]
   exact ⟨_, rfl⟩
  ·have hx : u[i]? = none := List.getElem?_eq_none (by omega)
   rw [if_neg (by simpa using hk)]
   simp only [c00, hx]
   exact ⟨_, rfl⟩
theorem m0a (g : l0) (hf : A3 g = true) : l5 g = some (T00 g) := by
 obtain ⟨h1, h2, h3, h4⟩ := J9 hf
 have hF := D00 g (by omega)
 obtain ⟨r, n, es⟩ := g
 simp only at h2 h3 h4
 obtain ⟨N, rfl⟩ : ∃ N : Nat, n = (N : Int) := ⟨n.toNat, by omega⟩
 obtain ⟨R, rfl⟩ : ∃ R : Nat, r = (R : Int) := ⟨r.toNat, by omega⟩
 unfold l5
 have hrep : ∀ x, B01 (List.replicate N (none : Option (List Int))) x = none := fun x => by
  unfold B01
  rw [List.getD_eq_getElem?_getD, List.getElem?_replicate]; split <;> rfl
 have hW : WOk N ((List.replicate N (none : Option (List Int))).set (0 : Int).toNat (some [])) [0] := by
  refine ⟨by simp, fun x h0 h1 => ?_, fun x => ?_⟩
  ·rw [C01 (Int.le_refl 0) (by simp; omega) h0]
   by_cases c : x = 0
   ·rw [if_pos c]; simp [c]
   ·rw [if_neg c, hrep]; simp [c]
  ·by_cases hz : 0 ≤ x
   ·rw [C01 (Int.le_refl 0) (by simp; omega) hz]
    split
    ·simp
    ·rw [hrep]; simp
   ·have : B01 ((List.replicate N (none : Option (List Int))).set (0 : Int).toNat (some [])) x = B01 ((List.replicate N (none : Option (List Int))).set (0 : Int).toNat (some [])) 0 := by
     unfold B01; rw [show x.toNat = (0 : Int).toNat by omega]
    rw [this, C01 (Int.le_refl 0) (by simp; omega) (Int.le_refl 0), if_pos rfl]; simp
 obtain ⟨W', h0⟩ := p0c R N (by omega) es h1 (by omega) (by omega) (N + 1) 0 S0 _ [0] ⟨by simp, fun x hx => by simp at hx; subst hx; omega⟩ hW (by simp) (by omega) (E2 (by omega))
 have hg0 : gi (List.replicate N (none : Option (List Int))) 0 = some none := by
  rw [r0e (x := none)]; rw [List.getElem?_replicate, if_pos (by omega)]
 simp only [hF, hf, Option.bind_some, Bool.not_true, W7, Int.toNat_natCast]
 rw [if_neg (by simp), N0 (by omega), Option.bind_some, hg0, Option.bind_some]
 rw [show ((0 : Nat) : Int) = 0 from rfl] at h0
 rw [h0]
 rfl
def l00 (g : l0) : l0 := d01 g (T00 g)
theorem n0a (g : l0) (hf : A3 g = true) : n5 g = some (l00 g) := by
 obtain ⟨h1, h2, h3, h4⟩ := J9 hf
 have hF := D00 g (by omega)
 have hO := m0a g hf
 obtain ⟨ho, ho1⟩ := i08 hf
 have hle := b02 _ _ ho.1 ho.2
 obtain ⟨r, n, es⟩ := g
 simp only at h2 h3 h4
 obtain ⟨N, rfl⟩ : ∃ N : Nat, n = (N : Int) := ⟨n.toNat, by omega⟩
 simp only [Int.toNat_natCast] at ho hle
 have hp := B0e r N es (T00 (r, (N : Int), es)) (fun e he => ⟨(h1 e he).1, (h1 e he).2.1⟩) ho.2 (by omega) (by omega) (by omega)
 unfold n5
 simp only [hF, hf, Option.bind_some, Bool.not_true, hO, hp]
 rfl
theorem o0a (g : l0) (hf : A3 g = true) : j5 g = some (l00 g) := by
 obtain ⟨h1, h2, h3, h4⟩ := J9 hf
 have hG : Z4 g = true := by
  unfold A3 at hf; exact (Bool.and_eq_true _ _ ▸ hf).1
 have hO := l0a g hf
 obtain ⟨ho, ho1⟩ := i08 hf
 have hle := b02 _ _ ho.1 ho.2
 obtain ⟨r, n, es⟩ := g
 simp only at h2 h3 h4
 obtain ⟨N, rfl⟩ : ∃ N : Nat, n = (N : Int) := ⟨n.toNat, by omega⟩
 simp only [Int.toNat_natCast] at ho hle
 have hp := j0b r N es (T00 (r, (N : Int), es)) hG ho.2 ho.1 ho1 hle
 unfold j5
 simp only [Option.bind_some, hO, hp]
 rw [if_neg (by simp; intro h; rw [h] at ho1; simp at ho1)]
 rfl
end Go.Proofs.YtfdlgbfeceodeaaGreat
namespace Go.Proofs.YtfdlgbfeceodeaaGreat
open Go.H
set_option linter.unusedVariables false
set_option linter.unusedSimpArgs false
def lf (bad : Nat → Bool) : Nat → Nat → Option Nat
 | 0, v => none
 | d + 1, v => bif bad v then some v else lf bad d (v + 1)
theorem j07 {bad : Nat → Bool} : ∀ (d v k : Nat), lf bad d v = some k → v ≤ k ∧ k < v + d
 | 0, v, k, h => by cases h
 | d + 1, v, k, h => by
  unfold lf at h
  cases hb : bad v
  ·rw [hb] at h; have := j07 d (v + 1) k h; omega
  ·rw [hb] at h; cases h; omega
theorem p0a {b1 b2 : Nat → Bool} : ∀ (d v : Nat), (∀ k, v ≤ k → k < v + d → b1 k = b2 k) → lf b1 d v = lf b2 d v
 | 0, v, h => rfl
 | d + 1, v, h => by unfold lf; rw [h v (Nat.le_refl _) (by omega), p0a d (v + 1) fun k h1 h2 => h k (by omega) (by omega)]
def l0d (es : List C0) : List Int := itS es (es.length + 1) [0]
def k0b (es : List C0) (v : Nat) : Bool := decide (Z01 (v : Int) es < 2) || !decide ((v : Int) ∈ l0d es)
def R02 (g : l0) : Option Nat := lf (k0b g.2.2) (g.2.1.toNat - 1) 1
theorem l0b (g : l0) (hg : Z4 g = true) : r6 g 0 = some (l0d g.2.2) ∧ (l0d g.2.2).length ≤ 100000 := by
 obtain ⟨h1, h2, h3, h4⟩ := O02 hg
 have hq := Q9 g (by omega)
 obtain ⟨r, n, es⟩ := g
 simp only at h2 h3 h4
 unfold r6 l0d
 have hl := a07 es h4 (es.length + 1) 0 S0 [0] (by omega) (E2 (by omega)) (by simp)
 have hlen := f0c es (es.length + 1) [0]
 refine ⟨?_, ?_⟩
 ·rw [show ((0 : Nat) : Int) = 0 from rfl] at hl
  simp only [hq, hg, Option.bind_some, Bool.not_true, Bool.not_false, I3, M02, inR, w64 (show -9223372036854775808 ≤ n - 1 by omega) (show n - 1 ≤ 9223372036854775807 by omega)]
  rw [if_neg (by simp; omega), hl]; rfl
 ·have : (es.length + 1) * (2 * es.length) ≤ 121 * 240 := Nat.mul_le_mul (by omega) (by omega)
  simp only [List.length_singleton] at hlen
  simp only
  omega
theorem I0e (r : Int) (n : Nat) (es : List C0) (hes : es.length ≤ 1000) (u : List Int) (hu : u.length ≤ 100000) (hn : n ≤ 40) : ∀ (d v fuel : Nat), v + d = n ∨ (d = 0 ∧ n ≤ v) → v ≤ 1000 → d < fuel →
  R5 (n : Int) r es u fuel (v : Int) = some (match lf (fun v => decide (Z01 (v : Int) es < 2) || !decide ((v : Int) ∈ u)) d v with | some k => .inl (k : Int) | none => .inr ())
 | d, v, 0, hd, hv, hf => by omega
 | 0, v, fuel + 1, hd, hv, hf => by
  rw [l8, if_neg (by simp; omega)]; rfl
 | d + 1, v, fuel + 1, hd, hv, hf => by
  have ih := I0e r n es hes u hu hn d (v + 1) fuel (by omega) (by omega) (by omega)
  have hdeg := X08 (v : Int) es
  rw [l8, if_pos (by simp; omega), c08 (r, (n : Int), es) _ (by simp only; omega), Option.bind_some, N0 (c64 (by simp only; omega) (by simp only; omega)), Option.bind_some, Q2 (show v < 10000 by omega) (by omega)]
  unfold lf
  by_cases c1 : Z01 (v : Int) es < 2
  ·have e1 : decide (((Z01 (v : Int) es : Nat) : Int) < 2) = true := decide_eq_true (by omega)
   simp only [e1, Bool.not_true, P2, Option.bind_some, cond_true, if_true, decide_eq_true c1, Bool.true_or]
  ·have e1 : decide (((Z01 (v : Int) es : Nat) : Int) < 2) = false := decide_eq_false (by omega)
   simp only [e1, Bool.not_false, I3, a06 u _ (show u.length ≤ 9223372036854775807 by omega), Option.bind_some, cond_false, decide_eq_false c1, Bool.false_or]
   by_cases c2 : (v : Int) ∈ u
   ·simp only [decide_eq_true c2, Bool.not_true, Bool.false_eq_true, if_false, cond_false]; exact ih
   ·simp only [decide_eq_false c2, Bool.not_false, if_true, cond_true]
theorem y0g (g : l0) (hg : Z4 g = true) : M8 g = some (match R02 g with | some k => (k : Int) | none => -1) := by
 obtain ⟨e1, e2⟩ := l0b g hg
 obtain ⟨h1, h2, h3, h4⟩ := O02 hg
 obtain ⟨r, n, es⟩ := g
 simp only at h2 h3 h4 e1 e2
 obtain ⟨N, rfl⟩ : ∃ N : Nat, n = (N : Int) := ⟨n.toNat, by omega⟩
 unfold M8 R02
 have hl := I0e r N es (by omega) (l0d es) e2 (by omega) (N - 1) 1 S0 (by omega) (by omega) (E2 (by omega))
 simp only [e1, Option.bind_some, Int.toNat_natCast]
 rw [show (1 : Int) = ((1 : Nat) : Int) from rfl, hl]
 rw [show (fun v : Nat => decide (Z01 (v : Int) es < 2) || !decide ((v : Int) ∈ l0d es)) = k0b es from rfl]
 cases lf (k0b es) (N - 1) 1 <;> rfl
theorem q0c (r : Int) (n : Nat) (es : List C0) (hes : es.length ≤ 1000) (S : List Bool) (hS : S.length = n) (hn : n ≤ 40) : ∀ (d v fuel : Nat), 1 ≤ v → v + d = n ∨ (d = 0 ∧ n ≤ v) → v ≤ 1000 → d + 1 < fuel →
  L2 (n : Int) r es S fuel 0 (v : Int) = some (match lf (fun v => decide (Z01 (v : Int) es < 2) || !z6 S (v : Int)) d v with | some k => (k : Int) | none => 0)
 | d, v, 0, h1, hd, hv, hf => by omega
 | 0, v, fuel + 1, h1, hd, hv, hf => by
  have e : decide ((v : Int) < (n : Int)) = false := decide_eq_false (by omega)
  rw [N5, if_neg (by rw [e]; simp)]; rfl
 | d + 1, v, fuel + 1, h1, hd, hv, hf => by
  have ih := q0c r n es hes S hS hn d (v + 1) fuel (by omega) (by omega) (by omega) (by omega)
  have hdeg := X08 (v : Int) es
  have e : decide ((v : Int) < (n : Int)) = true := decide_eq_true (by omega)
  have hfin : ∀ w : Int, L2 (n : Int) r es S fuel (v : Int) w = some (v : Int) := fun w => by
   obtain _ | fuel := fuel
   ·omega
   ·have e2 : decide ((v : Int) = 0) = false := decide_eq_false (by omega)
    have e3 : ∀ b : Bool, (bif b then false else false) = false := fun b => by cases b <;> rfl
    rw [N5, if_neg (by rw [e2, e3]; simp)]
  rw [N5, if_pos (by rw [e]; rfl), h0d (r, (n : Int), es) _ (by simp only; omega), Option.bind_some, N0 (c64 (by simp only; omega) (by simp only; omega)), Option.bind_some, Q2 (show v < 10000 by omega) (by omega)]
  unfold lf
  by_cases c1 : Z01 (v : Int) es < 2
  ·have e1 : decide (((Z01 (v : Int) es : Nat) : Int) < 2) = true := decide_eq_true (by omega)
   simp only [e1, Bool.not_true, P2, Option.bind_some, cond_true, if_true, decide_eq_true c1, Bool.true_or, hfin]
  ·have e1 : decide (((Z01 (v : Int) es : Nat) : Int) < 2) = false := decide_eq_false (by omega)
   simp only [e1, Bool.not_false, I3, giB hS (show (0 : Int) ≤ (v : Int) by omega) (show (v : Int) < (n : Int) by omega), Option.bind_some, cond_false, decide_eq_false c1, Bool.false_or]
   cases hb : z6 S (v : Int)
   ·simp only [Bool.not_false, if_true, cond_true, hfin]
   ·simp only [Bool.not_true, Bool.false_eq_true, if_false, cond_false]; exact ih
def wo (g : Nat) : Nat → Nat → List Int
 | 0, k => []
 | d + 1, k => if k = g then wo g d (k + 1) else (k : Int) :: wo g d (k + 1)
theorem J0e (g : Nat) : ∀ (d k : Nat), (wo g d k).length = d - (if k ≤ g ∧ g < k + d then 1 else 0)
 | 0, k => by simp [wo]
 | d + 1, k => by
  have ih := J0e g d (k + 1)
  unfold wo
  by_cases c : k = g
  ·rw [if_pos c, ih, if_neg (by omega), if_pos (by omega)]; omega
  ·rw [if_neg c, List.length_cons, ih]
   by_cases c2 : k + 1 ≤ g ∧ g < k + 1 + d
   ·rw [if_pos c2, if_pos (by omega)]; omega
   ·rw [if_neg c2, if_neg (by omega)]; omega
theorem W0f (g n : Nat) : ∀ (d k : Nat), k + d ≤ n → inV n (wo g d k)
 | 0, k, h => fun x hx => nomatch hx
 | d + 1, k, h => by
  have ih := W0f g n d (k + 1) (by omega)
  unfold wo
  split
  ·exact ih
  ·intro x hx
   rcases List.mem_cons.1 hx with rfl | hx
   ·omega
   ·exact ih x hx
theorem r0c (n g : Nat) (hn : n ≤ 1000) : ∀ (d k fuel : Nat) (acc : List Int), k + d = n → d < fuel → acc.length ≤ k →
  Z2 (n : Int) (g : Int) fuel (k : Int) acc = some (acc ++ wo g d k)
 | d, k, 0, acc, hd, hf, ha => by omega
 | 0, k, fuel + 1, acc, hd, hf, ha => by
  rw [r7, if_neg (by simp; omega)]; simp [wo]
 | d + 1, k, fuel + 1, acc, hd, hf, ha => by
  have ih := fun acc' h => r0c n g hn d (k + 1) fuel acc' (by omega) (by omega) h
  rw [r7, if_pos (by simp; omega), Q2 (show k < 10000 by omega) (by omega)]
  unfold wo
  by_cases c : k = g
  ·have e : decide ((k : Int) = (g : Int)) = true := decide_eq_true (by omega)
   rw [e, if_neg (by simp), if_pos c, ih _ (by omega)]
  ·have e : decide ((k : Int) = (g : Int)) = false := decide_eq_false (by omega)
   rw [e, if_pos (show (!false) = true from rfl), if_neg c, N0 (by simp; omega), Option.bind_some, ih _ (by simp; omega)]
   simp
theorem s0c (n : Nat) (hn : n ≤ 1000) : ∀ (d k fuel : Nat) (acc : List Int), k + d = n → d < fuel → acc.length = k →
  ∃ u, E4 (n : Int) fuel (k : Int) acc = some u ∧ u.length = n
 | d, k, 0, acc, hd, hf, ha => by omega
 | 0, k, fuel + 1, acc, hd, hf, ha => by
  rw [t7, if_neg (by simp; omega)]; exact ⟨_, rfl, by omega⟩
 | d + 1, k, fuel + 1, acc, hd, hf, ha => by
  obtain ⟨u, e1, e2⟩ := s0c n hn d (k + 1) fuel (acc ++ [(k : Int)]) (by omega) (by omega) (by simp; omega)
  rw [t7, if_pos (by simp; omega), Q2 (show k < 10000 by omega) (by omega), N0 (by simp; omega), Option.bind_some, e1]
  exact ⟨u, rfl, e2⟩
theorem q0a {α : Type} {xs : List α} {k : Nat} (h : k ≤ xs.length) : T01 xs 0 (k : Int) = some (xs.take k) := by
 unfold T01
 rw [if_pos (by omega)]; rfl
theorem t0c : ∀ (n fuel : Nat) (left : List Int) (r : Int) (es : List C0), 1 ≤ n → n ≤ 40 → inN n es → es.length ≤ 120 → left.length = n → n < fuel →
  ∃ (g' : l0) (l' : List Int), D4 fuel left r (n : Int) es = some (.inl (g', l')) ∧ g'.2.1 ≤ (n : Int) ∧ (g'.2.1 = (n : Int) ↔ lf (k0b es) (n - 1) 1 = none)
 | n, 0, left, r, es, h1, h2, hn, hes, hl, hf => by omega
 | n, fuel + 1, left, r, es, h1, h2, hn, hes, hl, hf => by
  obtain ⟨S, eS, lS, hS⟩ := x0e r n es hn (by omega) h1 (by omega)
  have ht1 := q0c r n es (by omega) S lS h2 (n - 1) 1 S0 (Nat.le_refl _) (by omega) (by omega) (E2 (by omega))
  have hcg : lf (fun v => decide (Z01 (v : Int) es < 2) || !z6 S (v : Int)) (n - 1) 1 = lf (k0b es) (n - 1) 1 := p0a _ _ fun k k1 k2 => by
   unfold k0b
   have := hS (k : Int) (by omega) (by omega)
   have h3 := x0f es 0 (k : Int)
   congr 2
   cases hb : z6 S (k : Int)
   ·symm; exact decide_eq_false fun h => by rw [this.2 (h3.1 h)] at hb; cases hb
   ·symm; exact decide_eq_true (h3.2 (this.1 hb))
  rw [hcg] at ht1
  rw [i9, eS, Option.bind_some, show (1 : Int) = ((1 : Nat) : Int) from rfl, ht1, Option.bind_some]
  cases hlf : lf (k0b es) (n - 1) 1 with
  | none =>
   exact ⟨(r, (n : Int), es), left, by rw [if_pos (by rfl)], Int.le_refl _, by simp⟩
  | some k =>
   have hk := j07 _ _ _ hlf
   have e0 : decide ((k : Int) = 0) = false := decide_eq_false (by omega)
   have ho := W0f k n n 0 (by omega)
   have hlen := J0e k n 0
   rw [if_pos (by omega)] at hlen
   have ht0 := r0c n k (by omega) n 0 S0 [] (by omega) (E2 (by omega)) (Nat.le_refl _)
   rw [show ((0 : Nat) : Int) = 0 from rfl, List.nil_append] at ht0
   have hp := B0e r n es (wo k n 0) hn ho (by omega) (by omega) (by omega)
   have hpl := e07 (r, (n : Int), es) (wo k n 0)
   have hpi := k0d (r := r) ho hn
   have hw : IntKind.i64.wrap ((k : Int) + ((1 : Nat) : Int)) = ((k + 1 : Nat) : Int) := by rw [w64 (by omega) (by omega)]; rfl
   obtain ⟨g', l', q1, q2, q3⟩ := t0c (n - 1) fuel (left.take k ++ left.drop (k + 1)) r (d01 (r, (n : Int), es) (wo k n 0)).2.2 (by omega) (by omega) (by rw [hlen] at hpi; exact hpi) (by simp only at hpl; omega) (by simp only [List.length_append, List.length_take, List.length_drop]; omega) (by omega)
   refine ⟨g', l', ?_, by omega, ?_⟩
   ·simp only [e0, Bool.false_eq_true, if_false, ht0, Option.bind_some, hp]
    rw [show d01 (r, (n : Int), es) (wo k n 0) = (r, ((n - 1 : Nat) : Int), (d01 (r, (n : Int), es) (wo k n 0)).2.2) by rw [← hlen]; rfl]
    simp only [hw]
    rw [q0a (by omega), Option.bind_some, L03 (by omega), Option.bind_some, N0 (by simp only [List.length_take, List.length_drop]; omega), Option.bind_some, q1]
   ·constructor
    ·intro h; omega
    ·intro h; cases h
theorem m0b (g : l0) (hg : Z4 g = true) : ∃ (g' : l0) (l' : List Int), w7 g = some (g', l') ∧ (g'.2.1 = g.2.1 ↔ R02 g = none) := by
 obtain ⟨h1, h2, h3, h4⟩ := O02 hg
 have hq := u03 g (by omega)
 have hc := W06 g (by omega)
 obtain ⟨r, n, es⟩ := g
 simp only at h2 h3 h4
 obtain ⟨N, rfl⟩ : ∃ N : Nat, n = (N : Int) := ⟨n.toNat, by omega⟩
 have hn : inN N es := fun e he => ⟨(h1 e he).1, (h1 e he).2.1⟩
 obtain ⟨u, e1, e2⟩ := s0c N (by omega) N 0 S0 [] (by omega) (E2 (by omega)) rfl
 obtain ⟨g', l', q1, q2, q3⟩ := t0c N S0 u r es (by omega) (by omega) hn h4 e2 (E2 (by omega))
 refine ⟨g', l', ?_, ?_⟩
 ·unfold w7
  rw [show ((0 : Nat) : Int) = 0 from rfl] at e1
  simp only [hc, Option.bind_some, hq, hg, Bool.not_true, Bool.false_eq_true, if_false, e1, q1, i8]
 ·simp only [R02, Int.toNat_natCast]; exact q3
def L6 (g : l0) : Bool := A3 g && ((R02 g).isNone && h0a (l00 g) g)
theorem F04 {g : l0} (h : A3 g = true) : Z4 g = true := by
 unfold A3 at h; exact (Bool.and_eq_true _ _ ▸ h).1
theorem j08 {g : l0} (hf : A3 g = true) : (l00 g).2.2.length ≤ 120 := by
 have := e07 g (T00 g)
 have := (J9 hf).2.2.2
 unfold l00; omega
theorem a09 (g : l0) (hl : g.2.2.length ≤ 140737488355328) : V6 g = some (L6 g) := by
 have hF := D00 g hl
 unfold L6
 by_cases hf : A3 g = true
 ·obtain ⟨g', l', e1, e2⟩ := m0b g (F04 hf)
  have hC := n0a g hf
  have hE := i0d (l00 g) g (by have := j08 hf; omega)
  obtain ⟨r, n, es⟩ := g
  obtain ⟨r', n', es'⟩ := g'
  unfold V6
  simp only at e2
  generalize l00 (r, n, es) = C at *
  obtain ⟨c1, c2, c3⟩ := C
  simp only [hF, hf, Option.bind_some, Bool.not_true, Bool.false_eq_true, if_false, e1, hC]
  by_cases c : n' = n
  ·have := e2.1 c
   simp only [decide_eq_true c, I3, Option.bind_some, hE, cond_true, this, Option.isNone_none, Bool.true_and]
  ·have hne : (R02 (r, n, es)).isNone = false := by
    cases hq : R02 (r, n, es) with
    | none => exact absurd (e2.2 hq) c
    | some k => rfl
   simp only [decide_eq_false c, P2, Option.bind_some, cond_false, hne, Bool.false_and, Bool.and_false]
 ·have hf' : A3 g = false := Bool.eq_false_iff.2 hf
  obtain ⟨r, n, es⟩ := g
  unfold V6
  simp only [hF, hf', Option.bind_some, Bool.not_false, if_true, Bool.false_and]
theorem b09 (g : l0) (hl : g.2.2.length ≤ 140737488355328) : M7 g = some (L6 g) := by
 have hF := P02 g hl
 unfold L6
 by_cases hf : A3 g = true
 ·have hL := y0g g (F04 hf)
  have hC := o0a g hf
  have hE := j0d (l00 g) g (by have := j08 hf; omega)
  obtain ⟨h1, h2, h3, h4⟩ := J9 hf
  obtain ⟨r, n, es⟩ := g
  unfold M7
  generalize l00 (r, n, es) = C at *
  obtain ⟨c1, c2, c3⟩ := C
  simp only [hF, hf, Option.bind_some, I3, hL, cond_true]
  cases hq : R02 (r, n, es) with
  | none =>
   simp only [N0 (show J0 (-1) by decide), Option.bind_some, show decide ((-1 : Int) < 0) = true from rfl, I3, hC, hE, cond_true, Option.isNone_none, Bool.true_and]
  | some k =>
   have hk := j07 _ _ _ hq
   simp only at h3
   simp only at hk
   have e0 : decide ((k : Int) < 0) = false := decide_eq_false (by omega)
   simp only [N0 (show J0 (k : Int) from c64 (by omega) (by omega)), Option.bind_some, e0, P2, cond_false, Option.isNone_some, Bool.false_and, Bool.and_false]
 ·have hf' : A3 g = false := Bool.eq_false_iff.2 hf
  obtain ⟨r, n, es⟩ := g
  unfold M7
  simp only [hF, hf', Option.bind_some, P2, N0 (show J0 0 by decide), cond_false, Bool.false_and]
end Go.Proofs.YtfdlgbfeceodeaaGreat
namespace Go.Proofs.YtfdlgbfeceodeaaGreat
open Go.H
set_option linter.unusedVariables false
set_option linter.unusedSimpArgs false
theorem u0c {s : ByteArray} {k : Nat} (h : k < s.size) : ∃ c, sgi s (k : Int) = some c := by
 unfold sgi
 rw [if_pos (by omega), Int.toNat_natCast]
 exact ⟨_, getElem?_pos s k h⟩
def chB (s : ByteArray) (k : Nat) : Nat := match sgi s (k : Int) with
 | some c => c.toNat
 | none => 0
def z0g (c k : Nat) : Bool := !(decide (97 ≤ c) && decide (c ≤ 122)) && (decide (k = 0) || !(decide (48 ≤ c) && decide (c ≤ 57)))
def okN (s : ByteArray) : Nat → Nat → Bool
 | 0, k => true
 | d + 1, k => bif z0g (chB s k) k then false else okN s d (k + 1)
def A9 (s : ByteArray) : Bool := inR 1 8 ((s.size : Nat) : Int) && okN s s.size 0
theorem v0c (s : ByteArray) (hl : s.size ≤ 9223372036854775807) : ∀ (d k fuel : Nat), k + d = s.size → d < fuel →
  T5 s fuel (k : Int) = some (bif okN s d k then .inr () else .inl false)
 | d, k, 0, hd, hf => by omega
 | 0, k, fuel + 1, hd, hf => by
  rw [n8, if_neg (by simp; omega)]; rfl
 | d + 1, k, fuel + 1, hd, hf => by
  have hk : k < s.size := by omega
  obtain ⟨c, hc⟩ := u0c hk
  have ih := v0c s hl d (k + 1) fuel (by omega) (by omega)
  have hb : chB s k = c.toNat := by unfold chB; rw [hc]
  rw [n8, if_pos (by simp; omega), hc]
  simp only [Option.bind_some, okN, hb, z0g, Q2 hk hl, ih]
  have nd : ∀ (p q : Prop) [Decidable p] [Decidable q], (p ↔ ¬ q) → decide p = !decide q := fun p q _ _ h => by
   by_cases c : q
   ·rw [decide_eq_true c, decide_eq_false (fun hp => h.1 hp c)]; rfl
   ·rw [decide_eq_false c, decide_eq_true (h.2 c)]; rfl
  have t1 : decide (((c.toNat : Nat) : Int) < 97) = !decide (97 ≤ c.toNat) := nd _ _ (by omega)
  have t2 : decide (((c.toNat : Nat) : Int) > 122) = !decide (c.toNat ≤ 122) := nd _ _ (by omega)
  have t3 : decide (((c.toNat : Nat) : Int) < 48) = !decide (48 ≤ c.toNat) := nd _ _ (by omega)
  have t4 : decide (((c.toNat : Nat) : Int) > 57) = !decide (c.toNat ≤ 57) := nd _ _ (by omega)
  have t5 : decide ((k : Int) = 0) = decide (k = 0) := by congr 1; simp
  have fin : ∀ (b : Bool) (x y : Option (Bool ⊕ Unit)), (if b = true then x else y) = bif b then x else y := fun b x y => by cases b <;> rfl
  have hz : decide (((0 : UInt8).toNat : Int) > 122) = false := rfl
  rw [t1, t5]
  cases h1 : decide (97 ≤ c.toNat) <;> cases h2 : decide (c.toNat ≤ 122) <;> cases h3 : decide (48 ≤ c.toNat) <;> cases h4 : decide (c.toNat ≤ 57) <;>
   simp only [I3, P2, Option.bind_some, t2, t3, t4, h2, h3, h4, cond_true, cond_false, Bool.not_true, Bool.not_false, Bool.false_and, Bool.true_and, Bool.and_true, Bool.and_false, Bool.and_self, Bool.true_or, Bool.false_or, Bool.or_true, Bool.or_false, fin] <;>
   cases decide (k = 0) <;> cases okN s d (k + 1) <;> rfl
theorem w0c (s : ByteArray) (hl : s.size ≤ 9223372036854775807) : ∀ (d k fuel : Nat), k + d = s.size → d < fuel →
  U5 s fuel (k : Int) = some (bif okN s d k then .inr () else .inl false)
 | d, k, 0, hd, hf => by omega
 | 0, k, fuel + 1, hd, hf => by
  rw [p8, if_neg (by simp; omega)]; rfl
 | d + 1, k, fuel + 1, hd, hf => by
  have hk : k < s.size := by omega
  obtain ⟨c, hc⟩ := u0c hk
  have ih := w0c s hl d (k + 1) fuel (by omega) (by omega)
  have hb : chB s k = c.toNat := by unfold chB; rw [hc]
  rw [p8, if_pos (by simp; omega), hc]
  simp only [Option.bind_some, okN, hb, z0g, Q2 hk hl, ih]
  have t1 : decide (((c.toNat : Nat) : Int) ≥ 97) = decide (97 ≤ c.toNat) := by congr 1; simp; omega
  have t2 : decide (((c.toNat : Nat) : Int) ≤ 122) = decide (c.toNat ≤ 122) := by congr 1; simp; omega
  have t3 : decide (((c.toNat : Nat) : Int) ≥ 48) = decide (48 ≤ c.toNat) := by congr 1; simp; omega
  have t4 : decide (((c.toNat : Nat) : Int) ≤ 57) = decide (c.toNat ≤ 57) := by congr 1; simp; omega
  have t5 : decide ((k : Int) = 0) = decide (k = 0) := by congr 1; simp
  rw [t1, t3, t5]
  have fin : ∀ (b : Bool) (x y : Option (Bool ⊕ Unit)), (if b = true then x else y) = bif b then x else y := fun b x y => by cases b <;> rfl
  cases h1 : decide (97 ≤ c.toNat) <;> cases h3 : decide (48 ≤ c.toNat) <;> cases h5 : decide (k = 0) <;>
   simp only [I3, P2, Option.bind_some, t2, t4, cond_true, cond_false, Bool.not_true, Bool.not_false, Bool.false_and, Bool.true_and, Bool.true_or, Bool.false_or, Bool.and_true, fin] <;>
   cases decide (c.toNat ≤ 122) <;> cases decide (c.toNat ≤ 57) <;> cases okN s d (k + 1) <;> rfl
theorem c09 (s : ByteArray) (hl : s.size ≤ 9223372036854775807) : N7 s = some (A9 s) := by
 unfold N7 A9
 have h := v0c s hl s.size 0 S0 (by omega) (by unfold S0; omega)
 rw [show ((0 : Nat) : Int) = 0 from rfl] at h
 rw [h, Option.bind_some]
 cases okN s s.size 0
 ·simp [i8]
 ·simp [i8, M02]
theorem d09 (s : ByteArray) (hl : s.size ≤ 9223372036854775807) : O7 s = some (A9 s) := by
 unfold O7 A9
 have h := w0c s hl s.size 0 S0 (by omega) (by unfold S0; omega)
 rw [show ((0 : Nat) : Int) = 0 from rfl] at h
 rw [N02, Option.bind_some]
 cases inR 1 8 ((s.size : Nat) : Int)
 ·rfl
 ·rw [if_neg (by simp), h, Option.bind_some]
  cases okN s s.size 0 <;> simp [i8]
def z0f (r : Int) (l : V0) (k : Nat) : Bool := match l[k]? with
 | some e => bif A9 e.1 then (bif L6 e.2 then (bif decide (e.2.1 = r) then (bif decide (0 < k) then (match l[k - 1]? with
  | some e' => !b01 e'.1 e.1
  | none => false) else false) else true) else true) else true
 | none => false
def okL (r : Int) (l : V0) : Nat → Nat → Bool
 | 0, k => true
 | d + 1, k => bif z0f r l k then false else okL r l d (k + 1)
def c5 (x : O0) : Bool := inR 1 3 x.1 && (decide (x.2.length ≤ 16) && okL x.1 x.2 x.2.length 0)
def k07 (l : V0) : Prop := l.length ≤ 140737488355328 ∧ ∀ e ∈ l, e.1.size ≤ 140737488355328 ∧ e.2.2.2.length ≤ 140737488355328
theorem e09 {r : Int} {l : V0} {k : Nat} {e : d5} (he : l[k]? = some e) : z0f r l k = bif A9 e.1 then (bif L6 e.2 then (bif decide (e.2.1 = r) then (bif decide (0 < k) then (match l[k - 1]? with
  | some e' => !b01 e'.1 e.1
  | none => false) else false) else true) else true) else true := by unfold z0f; rw [he]
theorem K0e (r : Int) (l : V0) (hl : k07 l) : ∀ (d k fuel : Nat), k + d = l.length → d < fuel →
  G4 l r fuel (k : Int) = some (bif okL r l d k then .inr () else .inl false)
 | d, k, 0, hd, hf => by omega
 | 0, k, fuel + 1, hd, hf => by
  rw [y7, if_neg (by simp; omega)]; rfl
 | d + 1, k, fuel + 1, hd, hf => by
  have hk : k < l.length := by omega
  have he := J7 hk
  have hin := hl.2 _ (List.mem_of_getElem? he)
  have hlen := hl.1
  generalize l[k] = e at he hin
  obtain ⟨nm, r2, n, es⟩ := e
  simp only at hin
  have ih := K0e r l hl d (k + 1) fuel (by omega) (by omega)
  rw [y7, if_pos (by simp; omega)]
  simp only [T4 he, Option.bind_some, d09 nm (by omega), Q2 hk (show l.length ≤ 9223372036854775807 by omega), ih, okL, e09 he]
  have hC := a09 (r2, n, es) hin.2
  have fin : ∀ (b : Bool) (x y : Option (Bool ⊕ Unit)), (if b = true then x else y) = bif b then x else y := fun b x y => by cases b <;> rfl
  have fo : ∀ b : Bool, (b || true) = true := fun b => by cases b <;> rfl
  cases hN : A9 nm
  ·simp only [Bool.not_false, Bool.not_true, Bool.and_false, P2, Option.bind_some, cond_true, cond_false, if_true]
  ·by_cases hk0 : k = 0
   ·subst hk0
    have e0 : decide (((0 : Nat) : Int) > 0) = false := rfl
    have e0' : decide (0 < 0) = false := rfl
    simp only [e0, e0', Bool.not_true, Bool.not_false, Bool.false_and, P2, Option.bind_some, cond_true, cond_false, fin]
    cases hR : decide (r2 = r)
    ·simp only [Bool.not_false, P2, Bool.not_true, Option.bind_some, cond_true, cond_false]
     cases L6 (r2, n, es) <;> rfl
    ·simp only [Bool.not_true, Bool.not_false, I3, hC, Option.bind_some, cond_true, cond_false]
     cases L6 (r2, n, es) <;> cases okL r l d (0 + 1) <;> rfl
   ·have hk1 : k - 1 < l.length := by omega
    have he1 := J7 hk1
    generalize l[k - 1] = e' at he1
    obtain ⟨nm', r', n', es'⟩ := e'
    have e0 : decide ((k : Int) > 0) = true := decide_eq_true (by omega)
    have e0' : decide (0 < k) = true := decide_eq_true (by omega)
    simp only [e0, e0', Bool.not_true, Bool.not_false, Bool.true_and, I3, a0c (show 0 < k by omega) (show k ≤ 9223372036854775807 by omega), T4 he1, he1, Option.bind_some, cond_true, cond_false, fin]
    cases hS : b01 nm' nm
    ·simp only [Bool.not_false, P2, Bool.not_true, Option.bind_some, cond_true, cond_false]
     cases L6 (r2, n, es) <;> cases decide (r2 = r) <;> rfl
    ·cases hR : decide (r2 = r)
     ·simp only [Bool.not_false, P2, Bool.not_true, Option.bind_some, cond_true, cond_false]
      cases L6 (r2, n, es) <;> rfl
     ·simp only [Bool.not_true, Bool.not_false, I3, hC, Option.bind_some, cond_true, cond_false]
      cases L6 (r2, n, es) <;> cases okL r l d (k + 1) <;> rfl
theorem L0e (r : Int) (l : V0) (hl : k07 l) : ∀ (d k fuel : Nat), k + d = l.length → d < fuel →
  C4 l r fuel (k : Int) = some (bif okL r l d k then .inr () else .inl false)
 | d, k, 0, hd, hf => by omega
 | 0, k, fuel + 1, hd, hf => by
  rw [n7, if_neg (by simp; omega)]; rfl
 | d + 1, k, fuel + 1, hd, hf => by
  have hk : k < l.length := by omega
  have he := J7 hk
  have hin := hl.2 _ (List.mem_of_getElem? he)
  have hlen := hl.1
  generalize l[k] = e at he hin
  obtain ⟨nm, r2, n, es⟩ := e
  simp only at hin
  have ih := L0e r l hl d (k + 1) fuel (by omega) (by omega)
  have hC : M5 (r2, n, es) = some (L6 (r2, n, es)) := by
   unfold M5
   simp only [b09 (r2, n, es) hin.2, Option.bind_some]
  rw [n7, if_pos (by simp; omega)]
  simp only [T4 he, Option.bind_some, c09 nm (by omega), Q2 hk (show l.length ≤ 9223372036854775807 by omega), ih, okL, e09 he]
  have fin : ∀ (b : Bool) (x y : Option (Bool ⊕ Unit)), (if b = true then x else y) = bif b then x else y := fun b x y => by cases b <;> rfl
  cases hN : A9 nm
  ·simp only [Bool.not_false, Bool.not_true, Bool.and_false, P2, Option.bind_some, cond_true, cond_false, if_true]
  ·simp only [Bool.not_true, Bool.not_false, I3, hC, Option.bind_some, cond_false, cond_true]
   cases hQ : L6 (r2, n, es)
   ·simp only [Bool.not_false, Bool.not_true, Bool.and_false, P2, Option.bind_some, cond_true, cond_false, if_true]
   ·cases hR : decide (r2 = r)
    ·simp only [Bool.not_false, Bool.not_true, Bool.and_false, P2, Option.bind_some, cond_true, cond_false, if_true]
    ·by_cases hk0 : k = 0
     ·subst hk0
      have e0 : decide (((0 : Nat) : Int) > 0) = false := rfl
      have e0' : decide (0 < 0) = false := rfl
      simp only [e0, e0', Bool.not_true, Bool.not_false, Bool.false_and, P2, Option.bind_some, cond_true, cond_false, fin]
      try (cases okL r l d (0 + 1) <;> rfl)
     ·have hk1 : k - 1 < l.length := by omega
      have he1 := J7 hk1
      generalize l[k - 1] = e' at he1
      obtain ⟨nm', r', n', es'⟩ := e'
      have e0 : decide ((k : Int) > 0) = true := decide_eq_true (by omega)
      have e0' : decide (0 < k) = true := decide_eq_true (by omega)
      simp only [e0, e0', Bool.not_true, Bool.not_false, Bool.and_true, Bool.true_and, I3, a0c (show 0 < k by omega) (show k ≤ 9223372036854775807 by omega), T4 he1, he1, Option.bind_some, cond_true, cond_false, fin]
      cases b01 nm' nm <;> cases okL r l d (k + 1) <;> rfl
theorem O05 (x : O0) (hl : k07 x.2) : z7 x = some (c5 x) := by
 obtain ⟨r, l⟩ := x
 have h := K0e r l hl l.length 0 S0 (by omega) (E2 hl.1)
 rw [show ((0 : Nat) : Int) = 0 from rfl] at h
 unfold z7 c5
 simp only [N02, Option.bind_some]
 have t1 : decide (((l.length : Nat) : Int) > 16) = !decide (l.length ≤ 16) := by
  by_cases c : l.length ≤ 16
  ·rw [decide_eq_true c, decide_eq_false (by omega)]; rfl
  ·rw [decide_eq_false c, decide_eq_true (by omega)]; rfl
 rw [t1]
 cases inR 1 3 r
 ·rfl
 ·cases decide (l.length ≤ 16)
  ·rfl
  ·simp only [Bool.not_true, cond_false, Bool.false_eq_true, if_false, h, Option.bind_some, Bool.true_and]
   cases okL r l l.length 0 <;> rfl
theorem P05 (x : O0) (hl : k07 x.2) : o7 x = some (c5 x) := by
 obtain ⟨r, l⟩ := x
 have h := L0e r l hl l.length 0 S0 (by omega) (E2 hl.1)
 rw [show ((0 : Nat) : Int) = 0 from rfl] at h
 unfold o7 c5
 simp only [M02, h, Option.bind_some]
 have t1 : decide (((l.length : Nat) : Int) ≤ 16) = decide (l.length ≤ 16) := by
  by_cases c : l.length ≤ 16
  ·rw [decide_eq_true c, decide_eq_true (by omega)]
  ·rw [decide_eq_false c, decide_eq_false (by omega)]
 rw [t1]
 cases okL r l l.length 0
 ·cases inR 1 3 r <;> cases decide (l.length ≤ 16) <;> rfl
 ·cases inR 1 3 r <;> cases decide (l.length ≤ 16) <;> rfl
end Go.Proofs.YtfdlgbfeceodeaaGreat
namespace Go.Proofs.YtfdlgbfeceodeaaGreat
open Go.H
set_option linter.unusedVariables false
set_option linter.unusedSimpArgs false
theorem M0e : ∀ x : List UInt8, Go.Op.bytesLess x x = false
 | [] => rfl
 | a :: x => by simp [Go.Op.bytesLess, M0e x]
theorem r0a : ∀ (x y z : List UInt8), Go.Op.bytesLess x y = true → Go.Op.bytesLess y z = true → Go.Op.bytesLess x z = true
 | _, [], _, h, _ => by simp [Go.Op.bytesLess] at h
 | _, _ :: _, [], _, h => by simp [Go.Op.bytesLess] at h
 | [], _ :: _, _ :: _, _, _ => rfl
 | a :: x, b :: y, c :: z, h1, h2 => by
  have ih := r0a x y z
  simp only [Go.Op.bytesLess, Bool.or_eq_true, Bool.and_eq_true, decide_eq_true_eq, beq_iff_eq] at h1 h2 ⊢
  rcases h1 with h1 | ⟨rfl, h1⟩
  ·rcases h2 with h2 | ⟨rfl, h2⟩
   ·exact .inl (UInt8.lt_trans h1 h2)
   ·exact .inl h1
  ·rcases h2 with h2 | ⟨rfl, h2⟩
   ·exact .inl h2
   ·exact .inr ⟨rfl, ih h1 h2⟩
theorem A0f (x : ByteArray) : b01 x x = false := M0e _
theorem m0d {x y z : ByteArray} (h1 : b01 x y = true) (h2 : b01 y z = true) : b01 x z = true := r0a _ _ _ h1 h2
theorem x0c {r : Int} {l : V0} : ∀ (d k : Nat), k + d = l.length → okL r l d k = true → ∀ i, k ≤ i → 0 < i → ∀ e e', l[i - 1]? = some e → l[i]? = some e' → b01 e.1 e'.1 = true
 | 0, k, hd, h, i, hi, h0, e, e', h1, h2 => by have := (List.getElem?_eq_some_iff.1 h2).1; omega
 | d + 1, k, hd, h, i, hi, h0, e, e', h1, h2 => by
  unfold okL at h
  cases hb : z0f r l k
  ·rw [hb] at h
   by_cases c : i = k
   ·subst c
    rw [e09 h2] at hb
    have e0 : decide (0 < i) = true := decide_eq_true h0
    rw [e0, h1] at hb
    have hb2 : A9 e'.1 = true ∧ L6 e'.2 = true ∧ e'.2.1 = r ∧ b01 e.1 e'.1 = true := by simpa [Bool.cond_eq_ite] using hb
    exact hb2.2.2.2
   ·exact x0c d (k + 1) (by omega) h i (by omega) h0 e e' h1 h2
  ·rw [hb] at h; cases h
theorem y0c {x : O0} (h : c5 x = true) : ∀ (j i : Nat) (e e' : d5), i < j → x.2[i]? = some e → x.2[j]? = some e' → b01 e.1 e'.1 = true
 | 0, i, e, e', hij, h1, h2 => by omega
 | j + 1, i, e, e', hij, h1, h2 => by
  have hok : okL x.1 x.2 x.2.length 0 = true := by
   unfold c5 at h
   simp only [Bool.and_eq_true] at h; exact h.2.2
  have hj : j < x.2.length := by have := (List.getElem?_eq_some_iff.1 h2).1; omega
  have hm := J7 hj
  have hs := x0c x.2.length 0 (by omega) hok (j + 1) (Nat.zero_le _) (by omega) _ _ hm h2
  by_cases c : i = j
  ·subst c; rw [hm] at h1; cases h1; exact hs
  ·exact m0d (y0c h j i _ _ (by omega) h1 hm) hs
def e01 (l : V0) : Prop := l.length ≤ 1048576 ∧ ∀ e ∈ l, e.1.size ≤ 1048576 ∧ e.2.2.2.length ≤ 1048576
theorem e01.ok {l : V0} (h : e01 l) : k07 l := ⟨by have := h.1; omega, fun e he => by have := h.2 e he; omega⟩
theorem z0c (l : V0) (hl : e01 l) (r : Int) : ∀ (d k fuel : Nat), k + d = l.length → d < fuel →
  U3 l fuel (k : Int) r (l.take k) = some (r, l)
 | d, k, 0, hd, hf => by omega
 | 0, k, fuel + 1, hd, hf => by
  rw [E6, if_neg (by simp; omega), List.take_of_length_le (by omega)]
 | d + 1, k, fuel + 1, hd, hf => by
  have hk : k < l.length := by omega
  have he := J7 hk
  have hin := hl.2 _ (List.mem_of_getElem? he)
  have ht := u0e he
  generalize l[k] = e at he hin ht
  obtain ⟨nm, r2, n, es⟩ := e
  simp only at hin
  have hl1 := hl.1
  have ih := z0c l hl r d (k + 1) fuel (by omega) (by omega)
  rw [E6, if_pos (by simp; omega)]
  simp only [T4 he, Option.bind_some, W06 (r2, n, es) (by simp only; omega)]
  rw [N0 (by simp only [List.length_take, List.length_singleton]; omega), Option.bind_some, Q2 hk (by omega), ← ht, ih]
theorem B0f (x : O0) (hl : e01 x.2) : w6 x = some x := by
 obtain ⟨r, l⟩ := x
 have h := z0c l hl r l.length 0 S0 (by omega) (E2 (by have := hl.1; simp only at this; omega))
 rw [show ((0 : Nat) : Int) = 0 from rfl, List.take_zero] at h
 unfold w6
 simp only [h, Option.bind_some]
theorem A0c (l : V0) (hl : e01 l) (r : Int) : ∀ (d k fuel : Nat), k + d = l.length → d < fuel →
  z5 l fuel (k : Int) r (l.take k) = some (r, l)
 | d, k, 0, hd, hf => by omega
 | 0, k, fuel + 1, hd, hf => by
  rw [U7, if_neg (by simp; omega), List.take_of_length_le (by omega)]
 | d + 1, k, fuel + 1, hd, hf => by
  have hk : k < l.length := by omega
  have he := J7 hk
  have hin := hl.2 _ (List.mem_of_getElem? he)
  have ht := u0e he
  generalize l[k] = e at he hin ht
  obtain ⟨nm, r2, n, es⟩ := e
  simp only at hin
  have hl1 := hl.1
  have ih := A0c l hl r d (k + 1) fuel (by omega) (by omega)
  rw [U7, if_pos (by simp; omega)]
  simp only [T4 he, Option.bind_some, V06 (r2, n, es) (by simp only; omega)]
  rw [N0 (by simp only [List.length_take, List.length_singleton]; omega), Option.bind_some, Q2 hk (by omega), ← ht, ih]
theorem C0f (x : O0) (hl : e01 x.2) : s8 x = some x := by
 obtain ⟨r, l⟩ := x
 have h := A0c l hl r l.length 0 S0 (by omega) (E2 (by have := hl.1; simp only at this; omega))
 rw [show ((0 : Nat) : Int) = 0 from rfl, List.take_zero] at h
 unfold s8
 simp only [h, Option.bind_some]
def fnd (s : ByteArray) (l : V0) : Nat → Nat → Option Nat
 | 0, k => none
 | d + 1, k => match l[k]? with
  | some e => bif v01 e.1 s then some k else fnd s l d (k + 1)
  | none => none
def d02 (x : O0) (s : ByteArray) : Option Nat := fnd s x.2 x.2.length 0
theorem l07 {s : ByteArray} {l : V0} : ∀ (d k i : Nat), fnd s l d k = some i → k ≤ i ∧ (∃ e, l[i]? = some e ∧ e.1 = s) ∧ ∀ j, k ≤ j → j < i → ∀ e, l[j]? = some e → e.1 ≠ s
 | 0, k, i, h => by cases h
 | d + 1, k, i, h => by
  unfold fnd at h
  cases he : l[k]? with
  | none => rw [he] at h; cases h
  | some e =>
   rw [he] at h
   simp only at h
   cases hb : v01 e.1 s
   ·rw [hb] at h
    obtain ⟨h1, h2, h3⟩ := l07 d (k + 1) i h
    refine ⟨by omega, h2, fun j hj hji e' he' => ?_⟩
    by_cases c : j = k
    ·subst c; rw [he] at he'; cases he'
     intro h; rw [x01.2 h] at hb; cases hb
    ·exact h3 j (by omega) hji e' he'
   ·rw [hb] at h; cases h
    exact ⟨Nat.le_refl _, ⟨e, he, x01.1 hb⟩, fun j h1 h2 => by omega⟩
theorem s0a {s : ByteArray} {l : V0} : ∀ (d k : Nat), k + d = l.length → fnd s l d k = none → ∀ j, k ≤ j → ∀ e, l[j]? = some e → e.1 ≠ s
 | 0, k, hd, h, j, hj, e, he => by have := (List.getElem?_eq_some_iff.1 he).1; omega
 | d + 1, k, hd, h, j, hj, e, he => by
  unfold fnd at h
  have hx := J7 (show k < l.length by omega)
  generalize l[k] = x at hx
  rw [hx] at h
  simp only at h
  cases hb : v01 x.1 s
  ·rw [hb] at h
   by_cases c : j = k
   ·subst c; rw [hx] at he; cases he
    intro h; rw [x01.2 h] at hb; cases hb
   ·exact s0a d (k + 1) (by omega) h j (by omega) e he
  ·rw [hb] at h; cases h
theorem N0e (l : V0) (s : ByteArray) (hl : l.length ≤ 9223372036854775807) : ∀ (d k fuel : Nat), k + d = l.length → d < fuel →
  O3 l s fuel (k : Int) = some (match fnd s l d k with | some i => .inl (i : Int) | none => .inr ())
 | d, k, 0, hd, hf => by omega
 | 0, k, fuel + 1, hd, hf => by
  rw [y6, if_neg (by simp; omega)]; rfl
 | d + 1, k, fuel + 1, hd, hf => by
  have hk : k < l.length := by omega
  have he := J7 hk
  generalize l[k] = e at he
  obtain ⟨nm, r2, n, es⟩ := e
  have ih := N0e l s hl d (k + 1) fuel (by omega) (by omega)
  rw [y6, if_pos (by simp; omega)]
  simp only [T4 he, Option.bind_some, Q2 hk hl, ih, fnd, he]
  cases v01 nm s <;> rfl
theorem A0g (x : O0) (s : ByteArray) (hl : x.2.length ≤ 9223372036854775807) : Y5 x s = some (match d02 x s with | some i => (i : Int) | none => -1) := by
 obtain ⟨r, l⟩ := x
 have h := N0e l s hl l.length 0 S0 (by omega) (by unfold S0; simp only at hl; omega)
 rw [show ((0 : Nat) : Int) = 0 from rfl] at h
 unfold Y5 d02
 simp only [h, Option.bind_some]
 cases fnd s l l.length 0 <;> rfl
def I2 (x : O0) (s : ByteArray) : O0 × Bool := bif c5 x then (match d02 x s with
 | some i => ((x.1, x.2.take i ++ x.2.drop (i + 1)), true)
 | none => (x, false)) else (x, false)
theorem f09 {x : O0} {s : ByteArray} {i : Nat} (h : d02 x s = some i) : i < x.2.length := by
 obtain ⟨_, ⟨e, he, _⟩, _⟩ := l07 _ _ _ h
 exact (List.getElem?_eq_some_iff.1 he).1
theorem n0b (x : O0) (s : ByteArray) (hl : e01 x.2) : E8 x s = some (I2 x s) := by
 have hc := B0f x hl
 have h1 := hl.1
 have hf := A0g x s (by omega)
 have hi := O05 x hl.ok
 have hlt := fun i => @f09 x s i
 obtain ⟨r, l⟩ := x
 unfold E8 I2
 simp only at h1 hlt
 simp only [hc, hf, hi, Option.bind_some]
 cases hq : d02 (r, l) s with
 | none =>
  simp only [N0 (show J0 (-1) by decide), Option.bind_some]
  cases c5 (r, l) <;> rfl
 | some i =>
  have hi2 := hlt i hq
  have e0 : decide ((i : Int) < 0) = false := decide_eq_false (by omega)
  have hw : IntKind.i64.wrap ((i : Int) + 1) = ((i + 1 : Nat) : Int) := Q2 hi2 (by omega)
  simp only [N0 (show J0 (i : Int) from c64 (by omega) (by omega)), Option.bind_some, e0, hw]
  cases c5 (r, l)
  ·rfl
  ·simp only [Bool.not_true, cond_false, Bool.false_eq_true, if_false, cond_true]
   rw [q0a (by omega), Option.bind_some, L03 (by omega), Option.bind_some, N0 (by simp only [List.length_take, List.length_drop]; omega), Option.bind_some]
def flt (s : ByteArray) : V0 → V0
 | [] => []
 | e :: r => bif v01 e.1 s then flt s r else e :: flt s r
theorem G04 {s : ByteArray} : ∀ {l : V0}, (∀ e ∈ l, e.1 ≠ s) → flt s l = l
 | [], h => rfl
 | e :: r, h => by
  have : v01 e.1 s = false := Bool.eq_false_iff.2 fun hb => h e (List.mem_cons_self ..) (x01.1 hb)
  unfold flt
  rw [this, cond_false, G04 fun e he => h e (List.mem_cons_of_mem _ he)]
theorem B0c (s : ByteArray) : ∀ (a b : V0), flt s (a ++ b) = flt s a ++ flt s b
 | [], b => rfl
 | e :: r, b => by
  have := B0c s r b
  simp only [List.cons_append, flt, this]
  cases v01 e.1 s <;> rfl
theorem C0c (s : ByteArray) : ∀ l : V0, (flt s l).length ≤ l.length
 | [] => Nat.le_refl _
 | e :: r => by have := C0c s r; unfold flt; cases v01 e.1 s <;> simp only [cond_true, cond_false, List.length_cons] <;> omega
theorem D0c (l : V0) (hl : e01 l) (s : ByteArray) (r : Int) : ∀ (d k fuel : Nat) (acc : V0), k + d = l.length → d < fuel → acc.length ≤ k →
  D3 l s fuel (k : Int) r acc = some (r, acc ++ flt s (l.drop k))
 | d, k, 0, acc, hd, hf, ha => by omega
 | 0, k, fuel + 1, acc, hd, hf, ha => by
  rw [A7, if_neg (by simp; omega), z3 (by omega)]; simp [flt]
 | d + 1, k, fuel + 1, acc, hd, hf, ha => by
  have hk : k < l.length := by omega
  have he := J7 hk
  have hin := hl.2 _ (List.mem_of_getElem? he)
  generalize l[k] = e at he hin
  obtain ⟨nm, r2, n, es⟩ := e
  simp only at hin
  have hl1 := hl.1
  have ih := fun acc' h => D0c l hl s r d (k + 1) fuel acc' (by omega) (by omega) h
  rw [A7, if_pos (by simp; omega), R3 he]
  simp only [T4 he, Option.bind_some, V06 (r2, n, es) (by simp only; omega), Q2 hk (show l.length ≤ 9223372036854775807 by omega), flt]
  cases v01 nm s
  ·rw [if_pos (by rfl), N0 (by simp only [List.length_singleton]; omega), Option.bind_some, ih _ (by simp; omega)]; simp
  ·rw [if_neg (by simp), ih _ (by omega)]; rfl
theorem D0f {x : O0} {s : ByteArray} (hL : c5 x = true) {i : Nat} (hi : d02 x s = some i) : flt s x.2 = x.2.take i ++ x.2.drop (i + 1) := by
 obtain ⟨_, ⟨e, he, hes⟩, hbef⟩ := l07 _ _ _ hi
 have hlt := f09 hi
 have h3 : x.2 = x.2.take i ++ (e :: x.2.drop (i + 1)) := by
  rw [← R3 he, List.take_append_drop]
 conv => lhs; rw [h3]
 rw [B0c, G04 (fun e' he' => ?_)]
 ·congr 1
  unfold flt
  rw [x01.2 hes, cond_true]
  refine G04 fun e' he' => ?_
  obtain ⟨j, hj⟩ := List.getElem?_of_mem he'
  rw [List.getElem?_drop] at hj
  have := y0c hL (i + 1 + j) i e e' (by omega) he hj
  intro h; rw [hes, h, A0f] at this; cases this
 ·obtain ⟨j, hj⟩ := List.getElem?_of_mem he'
  have hjl := (List.getElem?_eq_some_iff.1 hj).1
  rw [List.length_take] at hjl
  rw [List.getElem?_take_of_lt (by omega)] at hj
  exact hbef j (Nat.zero_le _) (by omega) e' hj
theorem o0b (x : O0) (s : ByteArray) (hl : e01 x.2) : D8 x s = some (I2 x s) := by
 have hc := C0f x hl
 have h1 := hl.1
 have hi := P05 x hl.ok
 have hfl := fun h i => @D0f x s h i
 have hlt := fun i => @f09 x s i
 have hfn : d02 x s = none → flt s x.2 = x.2 := fun h => G04 fun e he => by
  obtain ⟨j, hj⟩ := List.getElem?_of_mem he
  exact s0a _ _ (by omega) h j (Nat.zero_le _) e hj
 have hD := D0c x.2 hl s x.1 x.2.length 0 S0 [] (by omega) (E2 (by omega)) (Nat.le_refl _)
 rw [show ((0 : Nat) : Int) = 0 from rfl, List.drop_zero, List.nil_append] at hD
 have hlen := C0c s x.2
 obtain ⟨r, l⟩ := x
 unfold D8 I2
 simp only at h1 hlt hfl hfn hD hlen
 simp only [hc, hi, hD, Option.bind_some, N0 (show (flt s l).length ≤ 9223372036854775807 by omega)]
 cases hL : c5 (r, l)
 ·rfl
 ·cases hq : d02 (r, l) s with
  | none =>
   rw [hfn hq]
   simp only [Bool.not_true, cond_false, decide_true, if_true, cond_true]
  | some i =>
   rw [hfl hL i hq]
   have := hlt i hq
   have e0 : decide ((((l.take i ++ l.drop (i + 1)).length : Nat) : Int) = ((l.length : Nat) : Int)) = false := decide_eq_false (by simp only [List.length_append, List.length_take, List.length_drop]; omega)
   simp only [Bool.not_true, cond_false, e0, Bool.false_eq_true, if_false, cond_true]
end Go.Proofs.YtfdlgbfeceodeaaGreat
