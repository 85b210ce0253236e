/- Texts of the claim, joined: Plain laws: words and presentations, as the spec and the code know the; Plain laws: lists of words, and presentations, as the spec and the cod; Plain laws: graphs, as the spec and the code know them; Plain laws: steps in a graph; Plain laws: graphs: degrees, equality, edges put in order, sorted edge; Plain laws: valid graphs said in words; folds of a graph; Plain laws: paths, vertices and edges added; the steps that are missin; Plain laws: vertices and edges added; the steps that are missing; Plain laws: trimming and the core of a folded graph; Plain laws: the core of a folded graph is a core. -/
import Derived.Test.YtknoadmdnjaocaaGreatPart18
import Derived.Test.YtknoadmdnjaocaaGreatH33
import Derived.Test.YtknoadmdnjaocaaGreatH36
import Derived.Test.YtknoadmdnjaocaaGreatPart17
namespace Go.Proofs.YtknoadmdnjaocaaGreat
open Go.H
set_option linter.unusedVariables false
set_option linter.unusedSimpArgs false
theorem M1 {n : Nat} (h : n ≤ 140737488355328) : n < T0 := by unfold T0; omega
theorem H0 {p : Prop} [Decidable p] (h : p) : grd p = some () := by unfold grd; rw [if_pos h]
theorem Z2 {α : Type} (o : Option α) (d : α) : chk true o d = o := rfl
theorem J2 {α : Type} (o : Option α) (d : α) : chk false o d = some d := rfl
theorem R3 {α : Type} {xs : List α} {k : Nat} {x : α} (h : xs[k]? = some x) : gi xs (k : Int) = some x := by rw [u07]; exact h
theorem K0i {α : Type} {xs : List α} {x : α} (h : xs[0]? = some x) : gi xs 0 = some x := R3 (k := 0) h
theorem d0b {x : Int} (h : P0 x) (h2 : x ≠ -9223372036854775808) : IntKind.i64.wrap (0 - x) = -x := by rw [w64 (by have := h.1; have := h.2; omega) (by have := h.1; have := h.2; omega)]; omega
theorem C0d {n : Nat} (h : 0 < n) (hm : n ≤ 9223372036854775807) : IntKind.i64.wrap ((n : Int) - 1) = ((n - 1 : Nat) : Int) := by rw [w64 (by omega) (by omega)]; omega
theorem P6 {α : Type} {xs : List α} {k : Nat} (h : k < xs.length) : xs[k]? = some xs[k] := List.getElem?_eq_getElem h
def inR (lo hi x : Int) : Bool := decide (lo ≤ x) && decide (x ≤ hi)
theorem l04 (a b c : Int) : E5 a b c = some (inR b c a) := by
 unfold E5 inR
 by_cases h : b ≤ a <;> simp [h]
theorem m04 (a b c : Int) : v6 a b c = some (inR b c a) := l04 a b c
theorem k0c (y x : Int) : F7 y x = some (!(y == 0) && !(y == -9223372036854775808) && (x == IntKind.i64.wrap (0 - y))) := by
 unfold F7
 by_cases h0 : y = 0
 ·simp [h0]
 ·by_cases h1 : y = -9223372036854775808
  ·simp [h1]
  ·simp only [h0, h1, decide_false, Bool.not_false, cond_true, Option.some.injEq]
   have b2 : (y == 0) = false := by simpa using h0
   have b3 : (y == -9223372036854775808) = false := by simpa using h1
   rw [b2, b3]
   rfl
end Go.Proofs.YtknoadmdnjaocaaGreat
namespace Go.Proofs.YtknoadmdnjaocaaGreat
open Go.H
set_option linter.unusedVariables false
set_option linter.unusedSimpArgs false
def tot : List (List Int) → Nat
 | [] => 0
 | w :: r => w.length + tot r
theorem O2 {α : Type} {xs : List α} {k : Nat} {x : α} (h : xs[k]? = some x) : xs.drop k = x :: xs.drop (k + 1) := by
 obtain ⟨hk, rfl⟩ := List.getElem?_eq_some_iff.1 h
 exact List.drop_eq_getElem_cons hk
theorem Y1 {α : Type} {xs : List α} {k : Nat} (h : k = xs.length) : xs.drop k = [] := by rw [h]; exact List.drop_length
end Go.Proofs.YtknoadmdnjaocaaGreat
namespace Go.Proofs.YtknoadmdnjaocaaGreat
open Go.H
set_option linter.unusedVariables false
set_option linter.unusedSimpArgs false
def r02 (r hi : Int) (e : B0) : Bool := inR 0 hi e.1 && inR 0 hi e.2.2 && inR 1 r e.2.1
def w09 (e f : B0) : Int := C1 e f
theorem x09 (e f : B0) : w09 e f = if O6 e.1 f.1 ≠ 0 then O6 e.1 f.1 else if O6 e.2.1 f.2.1 ≠ 0 then O6 e.2.1 f.2.1 else O6 e.2.2 f.2.2 := rfl
theorem q03 (a b : Int) : (a < b ∧ O6 a b = -1) ∨ (a > b ∧ O6 a b = 1) ∨ (a = b ∧ O6 a b = 0) := by
 unfold O6
 split
 ·omega
 ·split <;> omega
theorem w08 (e f : B0) : P0 (w09 e f) := by
 rw [x09]
 split
 ·exact j0c _ _
 ·split <;> exact j0c _ _
theorem L0i (g : j0) (e : B0) : B9 g e = some (r02 g.1 (IntKind.i64.wrap (g.2.1 - 1)) e) := by
 obtain ⟨r, n, es⟩ := g
 obtain ⟨a, l, b⟩ := e
 unfold B9 r02
 simp only [l04, Option.bind_some]
 cases inR 0 (IntKind.i64.wrap (n - 1)) a with
 | false => rfl
 | true =>
  cases inR 0 (IntKind.i64.wrap (n - 1)) b with
  | false => rfl
  | true => simp [chk]
theorem j08 (g : j0) (e : B0) : K6 g e = some (r02 g.1 (IntKind.i64.wrap (g.2.1 - 1)) e) := by
 obtain ⟨r, n, es⟩ := g
 obtain ⟨a, l, b⟩ := e
 unfold K6 a8 r02
 simp only [m04, Option.bind_some]
 cases inR 0 (IntKind.i64.wrap (n - 1)) a with
 | false => rfl
 | true =>
  cases inR 0 (IntKind.i64.wrap (n - 1)) b with
  | false => rfl
  | true => simp [chk]
theorem V9 (e f : B0) : R5 e f = some (w09 e f) := by
 obtain ⟨a, l, b⟩ := e
 obtain ⟨a', l', b'⟩ := f
 unfold R5
 rw [show T0 = (T0 - 4) + 1 + 1 + 1 + 1 from rfl]
 have w1 : IntKind.i64.wrap (0 + 1) = 1 := by decide
 have w2 : IntKind.i64.wrap (1 + 1) = 2 := by decide
 have w3 : IntKind.i64.wrap (2 + 1) = 3 := by decide
 have g0 : ∀ x y z : Int, gi [x, y, z] 0 = some x := fun _ _ _ => rfl
 have g1 : ∀ x y z : Int, gi [x, y, z] 1 = some y := fun _ _ _ => rfl
 have g2 : ∀ x y z : Int, gi [x, y, z] 2 = some z := fun _ _ _ => rfl
 have d0 : decide ((0 : Int) < 3) = true := rfl
 have d1 : decide ((1 : Int) < 3) = true := rfl
 have d2 : decide ((2 : Int) < 3) = true := rfl
 have d3 : decide ((3 : Int) < 3) = false := rfl
 simp only [p5.eq_2, w1, w2, w3, g0, g1, g2, d0, d1, d2, d3, if_true, Option.bind_some, Bool.false_eq_true, if_false]
 rw [x09]
 simp only
 rcases q03 a a' with ⟨h, e⟩ | ⟨h, e⟩ | ⟨h, e⟩
 ·simp [e, h, T7]
 ·have : ¬ a < a' := by omega
  simp [e, h, this, T7]
 ·subst h
  rcases q03 l l' with ⟨h, e2⟩ | ⟨h, e2⟩ | ⟨h, e2⟩
  ·simp [e, e2, h, T7]
  ·have : ¬ l < l' := by omega
   simp [e, e2, h, this, T7]
  ·subst h
   rcases q03 b b' with ⟨h, e3⟩ | ⟨h, e3⟩ | ⟨h, e3⟩
   ·simp [e, e2, e3, h, T7]
   ·have : ¬ b < b' := by omega
    simp [e, e2, e3, h, this, T7]
   ·subst h
    simp [e, e2, e3, T7]
theorem m0h (a b : Int) : C5 a b = some (O6 a b) := by
 unfold C5 O6
 by_cases h : a < b
 ·simp [h]
 ·by_cases h2 : a > b <;> simp [h, h2]
theorem N01 (e f : B0) : S6 e f = some (w09 e f) := by
 obtain ⟨a, l, b⟩ := e
 obtain ⟨a', l', b'⟩ := f
 rw [x09]
 unfold S6
 simp only [m0h, Option.bind_some, H0 (j0c _ _)]
 by_cases h1 : O6 a a' = 0
 ·by_cases h2 : O6 l l' = 0
  ·simp [h1, h2]
  ·simp [h1, h2]
 ·simp [h1]
def M0i (r hi : Int) (es : List B0) (k : Nat) : Bool := match es[k]? with
 | none => true
 | some e => !r02 r hi e || (decide (0 < k) && match es[k - 1]? with
  | none => true
  | some f => decide (w09 f e ≥ 0))
def okE (r hi : Int) (es : List B0) : Nat → Nat → Bool
 | 0, _ => true
 | d + 1, k => !M0i r hi es k && okE r hi es d (k + 1)
def w4 (g : j0) : Bool := okE g.1 (IntKind.i64.wrap (g.2.1 - 1)) g.2.2 g.2.2.length 0 && inR 1 3 g.1 && inR 1 40 g.2.1 && decide (g.2.2.length ≤ 120)
theorem A06 {r hi : Int} {es : List B0} {k : Nat} {e : B0} (hx : es[k]? = some e) : M0i r hi es k = (!r02 r hi e || (decide (0 < k) && match es[k - 1]? with
  | none => true
  | some f => decide (w09 f e ≥ 0))) := by unfold M0i; rw [hx]
theorem i02 (r n : Int) (es : List B0) (hl : es.length ≤ 140737488355328) : ∀ (d k fuel : Nat), k + d = es.length → d < fuel →
  F5 es r n fuel (k : Int) = some (bif okE r (IntKind.i64.wrap (n - 1)) es d k then .inr () else .inl false)
 | d, k, 0, hk, hf => by omega
 | 0, k, fuel + 1, hk, hf => by
  rw [F5.eq_2, if_neg (by simp; omega)]
  simp [okE]
 | d + 1, k, fuel + 1, hk, hf => by
  have hkl : k < es.length := by omega
  have hx := P6 hkl
  generalize es[k] = e at hx
  obtain ⟨e0, e1, e2⟩ := e
  have next := i02 r n es hl d (k + 1) fuel (by omega) (by omega)
  rw [F5.eq_2, if_pos (by simp; omega), R3 hx, Option.bind_some]
  simp only [L0i, Option.bind_some, L2 hkl (by omega : es.length ≤ 9223372036854775807), next, okE, A06 hx]
  generalize IntKind.i64.wrap (n - 1) = hi
  cases hin : r02 r hi (e0, e1, e2) with
  | false => simp [chk, grd, P0]
  | true =>
   by_cases hk0 : k = 0
   ·have ek : decide ((k : Int) > 0) = false := by simp; omega
    have bk : decide (0 < k) = false := by simp; omega
    simp only [ek, bk, J2, Bool.not_true, Bool.not_false, Bool.and_true, Bool.false_and, Bool.or_self, Bool.true_and, cond_true, cond_false, Option.bind_some, Bool.or_false, Bool.false_eq_true, if_false, H0 (show P0 0 by decide)]
   ·have hy := P6 (show k - 1 < es.length by omega)
    generalize es[k - 1] = f at hy
    obtain ⟨f0, f1, f2⟩ := f
    have hpr : IntKind.i64.wrap ((k : Int) - 1) = ((k - 1 : Nat) : Int) := C0d (by omega) (by omega)
    have ek : decide ((k : Int) > 0) = true := by simp; omega
    have bk : decide (0 < k) = true := by simp; omega
    simp only [ek, bk, hpr, hy, R3 hx, R3 hy, Z2, Bool.not_true, Bool.not_false, Bool.and_true, Bool.false_and, Bool.or_self, Bool.true_and, cond_true, cond_false, Option.bind_some, Bool.or_false, Bool.false_or, V9, H0 (w08 _ _)]
    cases decide (w09 (f0, f1, f2) (e0, e1, e2) ≥ 0) <;> rfl
theorem L00 (g : j0) (hl : g.2.2.length ≤ 140737488355328) : J6 g = some (w4 g) := by
 obtain ⟨r, n, es⟩ := g
 unfold J6 w4
 simp only at hl ⊢
 have h := i02 r n es hl es.length 0 T0 (by omega) (M1 hl)
 rw [show ((0 : Nat) : Int) = 0 from rfl] at h
 rw [h, Option.bind_some]
 cases okE r (IntKind.i64.wrap (n - 1)) es es.length 0 with
 | false => simp [T7]
 | true =>
  rw [cond_true, V0, l04, l04, Option.bind_some]
  cases inR 1 3 r with
  | false => simp [chk]
  | true =>
   simp only [Z2, Option.bind_some, cond_true, Bool.true_and]
   cases inR 1 40 n with
   | false => simp
   | true => simp; omega
theorem j02 (r n : Int) (es : List B0) (hl : es.length ≤ 140737488355328) : ∀ (d k fuel : Nat), k + d = es.length → d < fuel →
  G5 es r n fuel (k : Int) = some (bif okE r (IntKind.i64.wrap (n - 1)) es d k then .inr () else .inl false)
 | d, k, 0, hk, hf => by omega
 | 0, k, fuel + 1, hk, hf => by
  rw [G5.eq_2, if_neg (by simp; omega)]
  simp [okE]
 | d + 1, k, fuel + 1, hk, hf => by
  have hkl : k < es.length := by omega
  have hx := P6 hkl
  generalize es[k] = e at hx
  obtain ⟨e0, e1, e2⟩ := e
  have next := j02 r n es hl d (k + 1) fuel (by omega) (by omega)
  rw [G5.eq_2, if_pos (by simp; omega), R3 hx, Option.bind_some]
  simp only [j08, Option.bind_some, L2 hkl (by omega : es.length ≤ 9223372036854775807), next, okE, A06 hx]
  generalize IntKind.i64.wrap (n - 1) = hi
  cases hin : r02 r hi (e0, e1, e2) with
  | false => simp [chk, grd, P0]
  | true =>
   by_cases hk0 : k = 0
   ·have ek : decide ((k : Int) > 0) = false := by simp; omega
    have bk : decide (0 < k) = false := by simp; omega
    simp only [ek, bk, J2, Bool.not_true, Bool.not_false, Bool.and_true, Bool.false_and, Bool.or_self, Bool.true_and, cond_true, cond_false, Option.bind_some, Bool.or_false, Bool.false_eq_true, if_false, H0 (show P0 0 by decide)]
   ·have hy := P6 (show k - 1 < es.length by omega)
    generalize es[k - 1] = f at hy
    obtain ⟨f0, f1, f2⟩ := f
    have hpr : IntKind.i64.wrap ((k : Int) - 1) = ((k - 1 : Nat) : Int) := C0d (by omega) (by omega)
    have ek : decide ((k : Int) > 0) = true := by simp; omega
    have bk : decide (0 < k) = true := by simp; omega
    simp only [ek, bk, hpr, hy, R3 hx, R3 hy, Z2, Bool.not_true, Bool.not_false, Bool.and_true, Bool.false_and, Bool.or_self, Bool.true_and, cond_true, cond_false, Option.bind_some, Bool.or_false, Bool.false_or, N01, H0 (w08 _ _)]
    cases decide (w09 (f0, f1, f2) (e0, e1, e2) ≥ 0) <;> rfl
theorem l05 (g : j0) (hl : g.2.2.length ≤ 140737488355328) : c8 g = some (w4 g) := by
 obtain ⟨r, n, es⟩ := g
 unfold c8 w4
 simp only at hl ⊢
 rw [m04, m04, Option.bind_some]
 cases hr : inR 1 3 r with
 | false => simp [chk]
 | true =>
  simp only [Bool.not_true, Bool.not_false, Z2, Option.bind_some, cond_false]
  cases hn : inR 1 40 n with
  | false => simp
  | true =>
   by_cases h120 : es.length ≤ 120
   ·have h := j02 r n es hl es.length 0 T0 (by omega) (M1 hl)
    rw [show ((0 : Nat) : Int) = 0 from rfl] at h
    have e1 : decide (((es.length : Nat) : Int) > 120) = false := by simp; omega
    have e2 : decide (es.length ≤ 120) = true := by simpa using h120
    simp only [e1, e2, Bool.not_true, cond_false, Bool.false_eq_true, if_false, h, Option.bind_some]
    cases okE r (IntKind.i64.wrap (n - 1)) es es.length 0 <;> rfl
   ·have e1 : decide (((es.length : Nat) : Int) > 120) = true := by simp; omega
    have e2 : decide (es.length ≤ 120) = false := by simpa using h120
    simp only [e1, e2, Bool.not_true, cond_false, if_true, Bool.and_false]
theorem W0e {r hi : Int} {es : List B0} : ∀ {d k : Nat}, okE r hi es d k = true → ∀ i, k ≤ i → i < k + d → M0i r hi es i = false
 | 0, k, h, i, h1, h2 => by omega
 | d + 1, k, h, i, h1, h2 => by
  simp only [okE, Bool.and_eq_true, Bool.not_eq_true'] at h
  by_cases e : i = k
  ·subst e; exact h.1
  ·exact W0e h.2 i (by omega) (by omega)
end Go.Proofs.YtknoadmdnjaocaaGreat
namespace Go.Proofs.YtknoadmdnjaocaaGreat
open Go.H
set_option linter.unusedVariables false
set_option linter.unusedSimpArgs false
theorem D0d {n : Nat} (h : n ≤ 9223372036854775807) : n < T0 := by unfold T0; omega
def goI (x : Int) : List Int → Bool × List Int
 | [] => (false, [])
 | y :: l => if x < y then (true, x :: y :: l) else if y = x then (true, y :: l) else ((goI x l).1, y :: (goI x l).2)
theorem e0g (x : Int) : ∀ l, U9 O6 x l = bif (goI x l).1 then (goI x l).2 else (goI x l).2 ++ [x]
 | [] => rfl
 | y :: l => by
  have ih := e0g x l
  unfold U9 goI
  rcases q03 x y with ⟨h, e⟩ | ⟨h, e⟩ | ⟨h, e⟩
  ·rw [e, if_pos (by omega), if_pos h]; rfl
  ·rw [e, if_neg (by omega), if_neg (by omega), if_neg (by omega), if_neg (by omega), ih]
   cases (goI x l).1 <;> rfl
  ·rw [e, if_neg (by omega), if_pos rfl, if_neg (by omega), if_pos h.symm]; rfl
theorem y09 (l : List Int) (w : Int) (hl : l.length ≤ 1099511627776) : ∀ (d k fuel : Nat) (acc : List Int), k + d = l.length → d < fuel → acc.length ≤ k + 1 →
  J3 l w fuel true (k : Int) acc = some (true, acc ++ l.drop k)
 | d, k, 0, acc, hd, hf, ha => by omega
 | 0, k, fuel + 1, acc, hd, hf, ha => by
  rw [J3.eq_2, if_neg (by simp; omega), Y1 (by omega), List.append_nil]
 | d + 1, k, fuel + 1, acc, hd, hf, ha => by
  have hk : k < l.length := by omega
  have hx := P6 hk
  generalize l[k] = x at hx
  have ih := y09 l w hl d (k + 1) fuel (acc ++ [x]) (by omega) (by omega) (by simp; omega)
  rw [J3.eq_2, if_pos (by simp; omega), R3 hx, Option.bind_some]
  have hb : ∀ c : Bool, (bif c then (!true) else false) = false := fun c => by cases c <;> rfl
  simp only [hb, Bool.false_eq_true, if_false, Option.bind_some, L2 hk (show l.length ≤ 9223372036854775807 by omega), ih, H0 (show (acc.length + [x].length) * 8 ≤ 140737488355328 by simp; omega)]
  rw [O2 hx]
  split <;> simp
theorem e0b (l : List Int) (w : Int) (hl : l.length ≤ 1099511627776) : ∀ (d k fuel : Nat) (acc : List Int), k + d = l.length → d < fuel → acc.length = k →
  J3 l w fuel false (k : Int) acc = some ((goI w (l.drop k)).1, acc ++ (goI w (l.drop k)).2)
 | d, k, 0, acc, hd, hf, ha => by omega
 | 0, k, fuel + 1, acc, hd, hf, ha => by
  rw [J3.eq_2, if_neg (by simp; omega), Y1 (by omega)]
  simp [goI]
 | d + 1, k, fuel + 1, acc, hd, hf, ha => by
  have hk : k < l.length := by omega
  have hx := P6 hk
  generalize l[k] = x at hx
  have ih := e0b l w hl d (k + 1) fuel (acc ++ [x]) (by omega) (by omega) (by simp; omega)
  have on1 := y09 l w hl d (k + 1) fuel (acc ++ [x]) (by omega) (by omega) (by simp; omega)
  have on2 := y09 l w hl d (k + 1) fuel (acc ++ [w] ++ [x]) (by omega) (by omega) (by simp; omega)
  rw [J3.eq_2, if_pos (by simp; omega), R3 hx, Option.bind_some, O2 hx]
  unfold goI
  have hb : ∀ c : Bool, (bif c then (!true) else false) = false := fun c => by cases c <;> rfl
  have hb2 : ∀ c : Bool, (bif c then (!false) else false) = c := fun c => by cases c <;> rfl
  by_cases h0 : x = w
  ·rw [if_pos (by simpa using h0), Option.bind_some, hb, if_neg (by simp), Option.bind_some, H0 (by simp; omega), Option.bind_some, L2 hk (by omega), on1, if_neg (by omega), if_pos h0]
   simp
  ·rw [if_neg (by simpa using h0), Option.bind_some, hb2]
   by_cases h1 : w < x
   ·rw [if_pos (by simpa using h1), H0 (by simp; omega), Option.bind_some, Option.bind_some, H0 (by simp; omega), Option.bind_some, L2 hk (by omega), on2, if_pos h1]
    simp
   ·rw [if_neg (by simpa using h1), Option.bind_some, H0 (by simp; omega), Option.bind_some, L2 hk (by omega), ih, if_neg h1, if_neg h0]
    simp
theorem B06 (l : List Int) (w : Int) (hl : l.length ≤ 1099511627776) : w6 l w = some (U9 O6 w l) := by
 unfold w6
 have h := e0b l w hl l.length 0 T0 [] (by omega) (M1 (by omega)) rfl
 rw [show ((0 : Nat) : Int) = 0 from rfl, List.drop_zero, List.nil_append] at h
 rw [h, Option.bind_some, e0g]
 have hlen : ∀ l : List Int, (goI w l).2.length ≤ l.length + 1 := fun l => by
  induction l with
  | nil => simp [goI]
  | cons y l ih =>
   unfold goI
   split
   ·simp
   ·split
    ·simp
    ·simp only [List.length_cons]; omega
 have := hlen l
 cases (goI w l).1 with
 | true => rfl
 | false =>
  simp only [Bool.not_false, if_true, cond_false]
  rw [H0 (by simp; omega), Option.bind_some]
def f0b (v x : Int) (e : B0) : List Int :=
 if 0 < x ∧ e.2.1 = x ∧ e.1 = v then [e.2.2] else if x < 0 ∧ e.2.1 = -x ∧ e.2.2 = v then [e.1] else []
def A7 (v x : Int) : List B0 → List Int
 | [] => []
 | e :: es => f0b v x e ++ A7 v x es
theorem n0h (v x : Int) (e : B0) : (f0b v x e).length ≤ 1 := by unfold f0b; split <;> (try split) <;> simp
theorem z09 (v x : Int) : ∀ es, (A7 v x es).length ≤ es.length
 | [] => by simp [A7]
 | e :: es => by
  have h1 := n0h v x e
  have h2 := z09 v x es
  simp only [A7, List.length_append, List.length_cons]
  omega
def E4 (x : Int) : Prop := P0 x ∧ x ≠ -9223372036854775808
theorem C06 (es : List B0) (v x : Int) (hx : E4 x) (hl : es.length ≤ 1099511627776) : ∀ (d k fuel : Nat) (acc : List Int), k + d = es.length → d < fuel → acc.length ≤ k →
  O3 es x v fuel (k : Int) acc = some (acc ++ A7 v x (es.drop k))
 | d, k, 0, acc, hd, hf, ha => by omega
 | 0, k, fuel + 1, acc, hd, hf, ha => by
  rw [O3.eq_2, if_neg (by simp; omega), Y1 (by omega)]
  simp [A7]
 | d + 1, k, fuel + 1, acc, hd, hf, ha => by
  have hk : k < es.length := by omega
  have he := P6 hk
  generalize es[k] = e at he
  obtain ⟨a, l, b⟩ := e
  have ih := fun acc' h => C06 es v x hx hl d (k + 1) fuel acc' (by omega) (by omega) h
  have hn : decide (x = -9223372036854775808) = false := by simp; exact hx.2
  rw [O3.eq_2, if_pos (by simp; omega), R3 he, Option.bind_some, O2 he]
  simp only [A7, f0b, d0b hx.1 hx.2, hn, Bool.not_false, L2 hk (show es.length ≤ 9223372036854775807 by omega)]
  by_cases c1 : 0 < x ∧ l = x ∧ a = v
  ·obtain ⟨c1, rfl, rfl⟩ := c1
   rw [if_pos (by simp [c1]), if_pos ⟨c1, rfl, rfl⟩, H0 (by simp; omega), Option.bind_some, ih _ (by simp; omega)]
   simp
  ·rw [if_neg c1, if_neg (by simp only [Bool.cond_eq_ite]; simp; intro h1 h2 h3; exact c1 ⟨h1, h2, h3⟩)]
   by_cases c2 : x < 0 ∧ l = -x ∧ b = v
   ·rw [if_pos c2, if_pos (by simp [c2.1, c2.2.1, c2.2.2]), H0 (by simp; omega), Option.bind_some, ih _ (by simp; omega)]
    simp
   ·rw [if_neg c2, if_neg (by simp only [Bool.cond_eq_ite]; simp; intro h1 h2 h3; exact c2 ⟨h1, h2, h3⟩), ih _ (by omega)]
    simp
theorem Q02 (w : Int) : ∀ l : List Int, (U9 O6 w l).length ≤ l.length + 1
 | [] => by simp [U9]
 | y :: l => by
  have := Q02 w l
  unfold U9
  split
  ·simp
  ·split
   ·simp
   ·simp only [List.length_cons]; omega
theorem D06 (es : List B0) (v x : Int) (hx : E4 x) (hl : es.length ≤ 1099511627776) : ∀ (d k fuel : Nat) (u : List Int), k + d = es.length → d < fuel → u.length ≤ k →
  B3 es x v fuel u (k : Int) = some (w9 O6 u (A7 v x (es.drop k)))
 | d, k, 0, u, hd, hf, ha => by omega
 | 0, k, fuel + 1, u, hd, hf, ha => by
  rw [B3.eq_2, if_neg (by simp; omega), Y1 (by omega)]
  rfl
 | d + 1, k, fuel + 1, u, hd, hf, ha => by
  have hk : k < es.length := by omega
  have he := P6 hk
  generalize es[k] = e at he
  obtain ⟨a, l, b⟩ := e
  have ih := fun u' h => D06 es v x hx hl d (k + 1) fuel u' (by omega) (by omega) h
  rw [B3.eq_2, if_pos (by simp; omega), R3 he, Option.bind_some, O2 he]
  simp only [A7, f0b, d0b hx.1 hx.2, L2 hk (show es.length ≤ 9223372036854775807 by omega)]
  by_cases c1 : 0 < x ∧ l = x ∧ a = v
  ·obtain ⟨c1, rfl, rfl⟩ := c1
   have hno : decide (l < 0) = false := by simp; omega
   have := Q02 b u
   rw [if_pos (by simp [c1]), if_pos ⟨c1, rfl, rfl⟩, B06 u b (by omega), Option.bind_some, hno, if_neg (by simp), ih _ (by omega)]
   rfl
  ·rw [if_neg c1, if_neg (by simp only [Bool.cond_eq_ite]; simp; intro h1 h2 h3; exact c1 ⟨h1, h2, h3⟩)]
   by_cases c2 : x < 0 ∧ l = -x ∧ b = v
   ·have := Q02 a u
    rw [if_pos c2, if_pos (by simp [c2.1, c2.2.1, c2.2.2]), B06 u a (by omega), Option.bind_some, ih _ (by omega)]
    rfl
   ·rw [if_neg c2, if_neg (by simp only [Bool.cond_eq_ite]; simp; intro h1 h2 h3; exact c2 ⟨h1, h2, h3⟩), ih _ (by omega)]
    rfl
def I9 (g : j0) (v x : Int) : List Int := w9 O6 [] (A7 v x g.2.2)
theorem c0k (x y : Int) : eqI x y = true ↔ x = y := by simp [eqI]
theorem E0d (g : j0) (v x : Int) (hx : E4 x) (hl : g.2.2.length ≤ 1099511627776) : d8 g v x = some (I9 g v x) := by
 obtain ⟨r, n, es⟩ := g
 unfold d8 I9
 have h := D06 es v x hx hl es.length 0 T0 [] (by omega) (D0d (by simp only at hl; omega)) (by simp)
 rw [show ((0 : Nat) : Int) = 0 from rfl, List.drop_zero] at h
 simp only [h, Option.bind_some]
theorem F0d (g : j0) (v x : Int) (hx : E4 x) (hl : g.2.2.length ≤ 1099511627776) : f8 g v x = some (I9 g v x) := by
 obtain ⟨r, n, es⟩ := g
 unfold f8 I9
 have h := C06 es v x hx hl es.length 0 T0 [] (by omega) (D0d (by simp only at hl; omega)) (by simp)
 rw [show ((0 : Nat) : Int) = 0 from rfl, List.drop_zero, List.nil_append] at h
 have hlen := z09 v x es
 simp only at hl
 simp only [h, Option.bind_some, H0 (show (A7 v x es).length < 4611686018427387904 by omega)]
 rw [← B0d A9 c0k (A7 v x es) (A7 v x es) fun _ => Iff.rfl]
 rfl
def C0 (g : j0) (v x : Int) : Int := match I9 g v x with
 | [] => -1
 | a :: _ => a
theorem E05 (g : j0) (v x : Int) (hx : E4 x) (hl : g.2.2.length ≤ 1099511627776) : M5 g v x = some (C0 g v x) := by
 have h := E0d g v x hx hl
 obtain ⟨r, n, es⟩ := g
 unfold M5 C0
 simp only [h, Option.bind_some]
 cases I9 (r, n, es) v x with
 | nil => rfl
 | cons a l => rfl
theorem r03 (g : j0) (v x : Int) (hx : E4 x) (hl : g.2.2.length ≤ 1099511627776) : N5 g v x = some (C0 g v x) := by
 have h := F0d g v x hx hl
 obtain ⟨r, n, es⟩ := g
 unfold N5 C0
 simp only [h, Option.bind_some]
 cases I9 (r, n, es) v x with
 | nil => rfl
 | cons a l => rfl
theorem g0b {g : j0} {v x y : Int} (h : y ∈ I9 g v x) : y ∈ A7 v x g.2.2 := by
 rcases (D00 A9 y _ []).1 h with h | h
 ·cases h
 ·exact h
theorem O5 {v x y : Int} : ∀ {es : List B0}, y ∈ A7 v x es ↔ ∃ e ∈ es, (0 < x ∧ e.2.1 = x ∧ e.1 = v ∧ y = e.2.2) ∨ (x < 0 ∧ e.2.1 = -x ∧ e.2.2 = v ∧ y = e.1)
 | [] => by simp [A7]
 | e :: es => by
  simp only [A7, List.mem_append, O5 (es := es), List.mem_cons, exists_eq_or_imp]
  refine or_congr ?_ Iff.rfl
  unfold f0b
  split
  ·rename_i h
   simp only [List.mem_singleton]
   constructor
   ·rintro rfl; exact .inl ⟨h.1, h.2.1, h.2.2, rfl⟩
   ·rintro (⟨_, _, _, h4⟩ | ⟨h1, _⟩)
    ·exact h4
    ·omega
  ·rename_i h
   split
   ·rename_i h2
    simp only [List.mem_singleton]
    constructor
    ·rintro rfl; exact .inr ⟨h2.1, h2.2.1, h2.2.2, rfl⟩
    ·rintro (⟨h1, _⟩ | ⟨_, _, _, h4⟩)
     ·omega
     ·exact h4
   ·rename_i h2
    constructor
    ·intro h; cases h
    ·rintro (⟨h3, h4, h5, _⟩ | ⟨h3, h4, h5, _⟩)
     ·exact absurd ⟨h3, h4, h5⟩ h
     ·exact absurd ⟨h3, h4, h5⟩ h2
def inG (g : j0) : Prop := ∀ e ∈ g.2.2, (0 ≤ e.1 ∧ e.1 < g.2.1) ∧ (0 ≤ e.2.2 ∧ e.2.2 < g.2.1) ∧ 1 ≤ e.2.1 ∧ e.2.1 ≤ g.1
theorem R02 {g : j0} (h : w4 g = true) : inG g ∧ (1 ≤ g.1 ∧ g.1 ≤ 3) ∧ (1 ≤ g.2.1 ∧ g.2.1 ≤ 40) ∧ g.2.2.length ≤ 120 := by
 obtain ⟨r, n, es⟩ := g
 simp only [w4, inR, Bool.and_eq_true, decide_eq_true_eq] at h
 obtain ⟨⟨⟨h1, h2⟩, h3⟩, h4⟩ := h
 refine ⟨fun e he => ?_, h2, h3, h4⟩
 obtain ⟨i, hi⟩ := List.getElem?_of_mem he
 have hb := W0e h1 i (Nat.zero_le _) (by have := (List.getElem?_eq_some_iff.1 hi).1; simp only at this; omega)
 rw [A06 hi] at hb
 simp only [Bool.or_eq_false_iff, Bool.not_eq_false', r02, inR, Bool.and_eq_true, decide_eq_true_eq] at hb
 obtain ⟨⟨⟨⟨b1, b2⟩, b3, b4⟩, b5, b6⟩, _⟩ := hb
 rw [w64 (by omega) (by omega)] at b2 b4
 simp only
 exact ⟨⟨b1, by omega⟩, ⟨b3, by omega⟩, b5, b6⟩
theorem i9 {g : j0} (hg : inG g) (v x : Int) : C0 g v x = -1 ∨ (0 ≤ C0 g v x ∧ C0 g v x < g.2.1) := by
 unfold C0
 cases hs : I9 g v x with
 | nil => exact .inl rfl
 | cons a l =>
  right
  have ha : a ∈ I9 g v x := by rw [hs]; exact List.mem_cons_self ..
  obtain ⟨e, he, h⟩ := O5.1 (g0b ha)
  have := hg e he
  rcases h with ⟨_, _, _, rfl⟩ | ⟨_, _, _, rfl⟩
  ·exact this.2.1
  ·exact this.1
theorem o01 {g : j0} (hg : inG g) (hn : g.2.1 ≤ 40) (v x : Int) : P0 (C0 g v x) := by
 rcases i9 hg v x with h | h
 ·rw [h]; decide
 ·constructor <;> omega
def p01 (a b : B0) : Bool := decide (a.2.1 = b.2.1) && (decide (a.1 = b.1) || decide (a.2.2 = b.2.2))
theorem y07 (a b : B0) : p01 a b = p01 b a := by
 unfold p01
 have h : ∀ x y : Int, decide (x = y) = decide (y = x) := fun x y => decide_eq_decide.2 ⟨Eq.symm, Eq.symm⟩
 rw [h a.2.1, h a.1, h a.2.2]
def noC (a : B0) : List B0 → Bool
 | [] => true
 | b :: l => !p01 a b && noC a l
def m05 : List B0 → Bool
 | [] => true
 | a :: l => noC a l && m05 l
theorem l0c (a : B0) : ∀ l, noC a l = true ↔ ∀ b ∈ l, p01 a b = false
 | [] => by simp [noC]
 | b :: l => by simp [noC, l0c a l]
theorem N04 : ∀ l, m05 l = true ↔ l.Pairwise fun a b => p01 a b = false
 | [] => by simp [m05]
 | a :: l => by simp [m05, N04 l, l0c, List.pairwise_cons]
def A09 : List B0 → List B0 → Bool
 | _, [] => true
 | pre, a :: l => noC a pre && A09 (pre ++ [a]) l
theorem h0b : ∀ (l pre : List B0), A09 pre l = true ↔ l.Pairwise (fun a b => p01 a b = false) ∧ ∀ a ∈ l, ∀ b ∈ pre, p01 a b = false
 | [], pre => by simp [A09]
 | a :: l, pre => by
  simp only [A09, Bool.and_eq_true, l0c, h0b l, List.pairwise_cons]
  constructor
  ·rintro ⟨h2, h3, h4⟩
   refine ⟨⟨fun b hb => by rw [y07]; exact h4 b hb a (by simp), h3⟩, fun x hx b hb => ?_⟩
   rcases List.mem_cons.1 hx with rfl | hx
   ·exact h2 b hb
   ·exact h4 x hx b (by simp [hb])
  ·rintro ⟨⟨h2, h3⟩, h4⟩
   refine ⟨fun b hb => h4 a (List.mem_cons_self ..) b hb, h3, fun x hx b hb => ?_⟩
   rcases List.mem_append.1 hb with hb | hb
   ·exact h4 x (List.mem_cons_of_mem _ hx) b hb
   ·rw [List.mem_singleton.1 hb, y07]; exact h2 x hx
theorem o0h (l : List B0) : A09 [] l = m05 l := by
 rw [Bool.eq_iff_iff, h0b, N04]
 simp
def I0 (g : j0) : Bool := w4 g && m05 g.2.2
theorem B0k (a0 a1 a2 b0 b1 b2 : Int) : (bif decide (a1 = b1) then (bif decide (a0 = b0) then true else decide (a2 = b2)) else false) = p01 (a0, a1, a2) (b0, b1, b2) := by
 unfold p01
 cases decide (a1 = b1) <;> cases decide (a0 = b0) <;> rfl
theorem E06 (l : List B0) (a : B0) (hl : l.length ≤ 140737488355328) : ∀ (d k fuel : Nat), k + d = l.length → d < fuel →
  j5 l a.2.1 a.1 a.2.2 fuel (k : Int) = some (bif noC a (l.drop k) then .inr () else .inl false)
 | d, k, 0, hd, hf => by omega
 | 0, k, fuel + 1, hd, hf => by
  rw [j5.eq_2, if_neg (by simp; omega), Y1 (by omega)]
  rfl
 | d + 1, k, fuel + 1, hd, hf => by
  have hk : k < l.length := by omega
  have hx := P6 hk
  generalize l[k] = x at hx
  obtain ⟨a0, a1, a2⟩ := a
  obtain ⟨b0, b1, b2⟩ := x
  rw [j5.eq_2, if_pos (by simp; omega), R3 hx, Option.bind_some, O2 hx]
  simp only [B0k, noC]
  cases hc : p01 (a0, a1, a2) (b0, b1, b2) with
  | true => rfl
  | false =>
   rw [if_neg (by simp), L2 hk (by omega), E06 l (a0, a1, a2) hl d (k + 1) fuel (by omega) (by omega)]
   simp
theorem F05 {α : Type} {xs : List α} {k : Nat} (h : k ≤ xs.length) : V04 xs (k : Int) (xs.length : Int) = some (xs.drop k) := by
 unfold V04
 rw [if_pos ⟨by omega, by omega, by omega⟩]
 simp
theorem F06 (l : List B0) (hl : l.length ≤ 140737488355328) : ∀ (d k fuel : Nat), k + d = l.length → d < fuel →
  l5 l fuel (k : Int) = some (bif m05 (l.drop k) then .inr () else .inl false)
 | d, k, 0, hd, hf => by omega
 | 0, k, fuel + 1, hd, hf => by
  rw [l5.eq_2, if_neg (by simp; omega), Y1 (by omega)]
  rfl
 | d + 1, k, fuel + 1, hd, hf => by
  have hk : k < l.length := by omega
  have hx := P6 hk
  generalize l[k] = x at hx
  have h0 := E06 (l.drop (k + 1)) x (by simp; omega) (l.drop (k + 1)).length 0 T0 (by omega) (M1 (by simp; omega))
  rw [show ((0 : Nat) : Int) = 0 from rfl, List.drop_zero] at h0
  obtain ⟨a0, a1, a2⟩ := x
  rw [l5.eq_2, if_pos (by simp; omega), R3 hx, Option.bind_some, O2 hx]
  simp only [L2 hk (show l.length ≤ 9223372036854775807 by omega), F05 (show k + 1 ≤ l.length by omega), Option.bind_some]
  simp only at h0
  rw [h0, Option.bind_some]
  simp only [m05]
  cases noC (a0, a1, a2) (l.drop (k + 1)) with
  | false => rfl
  | true =>
   simp only [cond_true, R0e, Bool.true_and]
   exact F06 l hl d (k + 1) fuel (by omega) (by omega)
theorem l00 (g : j0) (hl : g.2.2.length ≤ 140737488355328) : S5 g = some (I0 g) := by
 have hG := l05 g hl
 obtain ⟨r, n, es⟩ := g
 unfold S5 I0
 simp only [hG, Option.bind_some]
 cases w4 (r, n, es) with
 | false => rfl
 | true =>
  have h := F06 es hl es.length 0 T0 (by omega) (M1 hl)
  rw [show ((0 : Nat) : Int) = 0 from rfl, List.drop_zero] at h
  rw [if_neg (by simp), h, Option.bind_some]
  cases m05 es <;> rfl
theorem G06 (l : List B0) (hl : l.length ≤ 140737488355328) {i : Nat} {a : B0} (ha : l[i]? = some a) : ∀ (d k fuel : Nat), k + d = i → d < fuel →
  i5 (i : Int) l fuel (k : Int) = some (bif noC a ((l.take i).drop k) then .inr () else .inl false)
 | d, k, 0, hd, hf => by omega
 | 0, k, fuel + 1, hd, hf => by
  have := (List.getElem?_eq_some_iff.1 ha).1
  rw [i5.eq_2, if_neg (by simp; omega), Y1 (by simp; omega)]
  rfl
 | d + 1, k, fuel + 1, hd, hf => by
  have hi := (List.getElem?_eq_some_iff.1 ha).1
  have hk : k < l.length := by omega
  have hx := P6 hk
  have hx2 : (l.take i)[k]? = some l[k] := by rw [List.getElem?_take, if_pos (by omega)]; exact hx
  have ih := G06 l hl ha d (k + 1) fuel (by omega) (by omega)
  generalize l[k] = x at hx hx2
  obtain ⟨a0, a1, a2⟩ := a
  obtain ⟨b0, b1, b2⟩ := x
  rw [i5.eq_2, if_pos (by simp; omega), R3 ha, Option.bind_some, O2 hx2]
  simp only [R3 hx, Option.bind_some, B0k, noC]
  cases hc : p01 (a0, a1, a2) (b0, b1, b2) with
  | true => rfl
  | false =>
   rw [if_neg (by simp), L2 hk (by omega), ih]
   simp
theorem K0l {α : Type} {xs : List α} {k : Nat} {x : α} (h : xs[k]? = some x) : xs.take (k + 1) = xs.take k ++ [x] := by
 obtain ⟨hk, rfl⟩ := List.getElem?_eq_some_iff.1 h
 exact List.take_succ_eq_append_getElem hk
theorem H06 (r n : Int) (l : List B0) (hg : w4 (r, n, l) = true) (hl : l.length ≤ 140737488355328) : ∀ (d k fuel : Nat), k + d = l.length → d < fuel →
  d4 l r n fuel (k : Int) = some (bif A09 (l.take k) (l.drop k) then .inr () else .inl false)
 | d, k, 0, hd, hf => by omega
 | 0, k, fuel + 1, hd, hf => by
  have e : decide ((k : Int) < (l.length : Int)) = false := by simp; omega
  rw [d4.eq_2, e, J2, Option.bind_some, if_neg (by simp), Y1 (by omega)]
  rfl
 | d + 1, k, fuel + 1, hd, hf => by
  have hk : k < l.length := by omega
  have hx := P6 hk
  generalize l[k] = x at hx
  have h0 := G06 l hl hx k 0 T0 (by omega) (M1 (by omega))
  rw [show ((0 : Nat) : Int) = 0 from rfl, List.drop_zero] at h0
  have e : decide ((k : Int) < (l.length : Int)) = true := by simp; omega
  rw [d4.eq_2, e, Z2, L00 (r, n, l) hl, Option.bind_some, hg, if_pos (show (bif true then true else false) = true from rfl), h0, Option.bind_some, O2 hx]
  simp only [A09]
  cases noC x (l.take k) with
  | false => rfl
  | true =>
   simp only [cond_true, R0e, Bool.true_and]
   rw [L2 hk (by omega), ← K0l hx]
   exact H06 r n l hg hl d (k + 1) fuel (by omega) (by omega)
theorem n04 (g : j0) (hl : g.2.2.length ≤ 140737488355328) : B7 g = some (I0 g) := by
 have hG := L00 g hl
 obtain ⟨r, n, es⟩ := g
 unfold B7 I0
 simp only [hG, Option.bind_some]
 cases hg : w4 (r, n, es) with
 | false =>
  have h1 : d4 es r n T0 0 = some (.inr ()) := by
   rw [show T0 = (T0 - 1) + 1 from rfl, d4.eq_2]
   by_cases e : decide ((0 : Int) < (es.length : Int)) = true
   ·rw [e, Z2, hG, Option.bind_some, hg, if_neg (by simp)]
   ·rw [Bool.not_eq_true] at e
    rw [e, J2, Option.bind_some, if_neg (by simp)]
  rw [h1]
  rfl
 | true =>
  have h := H06 r n es hg hl es.length 0 T0 (by omega) (M1 hl)
  rw [show ((0 : Nat) : Int) = 0 from rfl, List.drop_zero, List.take_zero, o0h] at h
  rw [h, Option.bind_some]
  cases m05 es <;> rfl
def Y8 (g : j0) : Int → List Int → Int × Nat
 | v, [] => (v, 0)
 | v, x :: w => if C0 g v x < 0 then (v, 0) else ((Y8 g (C0 g v x) w).1, (Y8 g (C0 g v x) w).2 + 1)
theorem B09 (g : j0) : ∀ (w : List Int) (v : Int), (Y8 g v w).2 ≤ w.length
 | [], v => by simp [Y8]
 | x :: w, v => by
  have := B09 g w (C0 g v x)
  unfold Y8
  split
  ·simp
  ·simp only [List.length_cons]; omega
theorem G0d {g : j0} (hg : inG g) (hn : g.2.1 ≤ 40) : ∀ (w : List Int) (v : Int), P0 v → P0 (Y8 g v w).1
 | [], v, h => h
 | x :: w, v, h => by
  unfold Y8
  split
  ·exact h
  ·exact G0d hg hn w _ (o01 hg hn v x)
def d0k (q : Int × Nat) (n : Nat) (k : Nat) : (Int × Int) ⊕ Int := bif decide (q.2 < n) then .inl (q.1, ((k + q.2 : Nat) : Int)) else .inr q.1
theorem f08 (r n : Int) (es : List B0) (hg : inG (r, n, es)) (hn : n ≤ 40) (hes : es.length ≤ 1099511627776) (w : List Int) (hw : ∀ x ∈ w, E4 x) (hl : w.length ≤ 140737488355328) : ∀ (d k fuel : Nat) (v : Int), k + d = w.length → d < fuel →
  I4 w r n es fuel v (k : Int) = some (d0k (Y8 (r, n, es) v (w.drop k)) d k)
 | d, k, 0, v, hd, hf => by omega
 | 0, k, fuel + 1, v, hd, hf => by
  rw [I4.eq_2, if_neg (by simp; omega), Y1 (by omega)]
  rfl
 | d + 1, k, fuel + 1, v, hd, hf => by
  have hk : k < w.length := by omega
  have hx := P6 hk
  have hxm := hw _ (List.getElem_mem hk)
  generalize w[k] = x at hx hxm
  rw [I4.eq_2, if_pos (by simp; omega), R3 hx, Option.bind_some, r03 (r, n, es) v x hxm hes, Option.bind_some, H0 (o01 hg hn v x), Option.bind_some, O2 hx]
  unfold Y8
  by_cases h : C0 (r, n, es) v x < 0
  ·rw [if_pos (by simpa using h), if_pos h]
   simp [d0k]
  ·rw [if_neg (by simpa using h), if_neg h, L2 hk (by omega), f08 r n es hg hn hes w hw hl d (k + 1) fuel _ (by omega) (by omega)]
   unfold d0k
   simp only [Nat.add_lt_add_iff_right]
   congr 2
   simp only [Nat.add_assoc, Nat.add_comm 1]
theorem g0l (g : j0) (hg : inG g) (hn : g.2.1 ≤ 40) (hes : g.2.2.length ≤ 1099511627776) (v : Int) (w : List Int) (hw : ∀ x ∈ w, E4 x) (hl : w.length ≤ 140737488355328) : G7 g v w = some ((Y8 g v w).1, (((Y8 g v w).2 : Nat) : Int)) := by
 obtain ⟨r, n, es⟩ := g
 unfold G7
 have h := f08 r n es hg hn hes w hw hl w.length 0 T0 v (by omega) (M1 hl)
 rw [show ((0 : Nat) : Int) = 0 from rfl, List.drop_zero] at h
 have hle := B09 (r, n, es) w v
 simp only [h, Option.bind_some, d0k]
 by_cases hc : (Y8 (r, n, es) v w).2 < w.length
 ·simp [hc, T7]
 ·have : (Y8 (r, n, es) v w).2 = w.length := by omega
  simp [this, T7]
theorem U0 {g : j0} (h : I0 g = true) : inG g ∧ (1 ≤ g.1 ∧ g.1 ≤ 3) ∧ (1 ≤ g.2.1 ∧ g.2.1 ≤ 40) ∧ g.2.2.length ≤ 120 := by
 unfold I0 at h
 simp only [Bool.and_eq_true] at h
 exact R02 h.1
end Go.Proofs.YtknoadmdnjaocaaGreat
namespace Go.Proofs.YtknoadmdnjaocaaGreat
open Go.H
set_option linter.unusedVariables false
set_option linter.unusedSimpArgs false
def W04 (v : Int) (e : B0) : Nat := (if e.1 = v then 1 else 0) + (if e.2.2 = v then 1 else 0)
def d01 (v : Int) : List B0 → Nat
 | [] => 0
 | e :: r => W04 v e + d01 v r
theorem e0k (v : Int) (e : B0) : W04 v e ≤ 2 := by unfold W04; split <;> split <;> omega
theorem m0c (v : Int) : ∀ l, d01 v l ≤ 2 * l.length
 | [] => by simp [d01]
 | e :: r => by have := e0k v e; have := m0c v r; simp only [d01, List.length_cons]; omega
theorem C09 (es : List B0) (v : Int) (hl : es.length ≤ 1099511627776) : ∀ (d k fuel acc : Nat), k + d = es.length → d < fuel → acc ≤ 2 * k →
  T2 es v fuel (acc : Int) (k : Int) = some ((acc + d01 v (es.drop k) : Nat) : Int)
 | d, k, 0, acc, hd, hf, ha => by omega
 | 0, k, fuel + 1, acc, hd, hf, ha => by
  rw [T2.eq_2, if_neg (by simp; omega), Y1 (by omega)]; rfl
 | d + 1, k, fuel + 1, acc, hd, hf, ha => by
  have hk : k < es.length := by omega
  have he := P6 hk
  generalize es[k] = e at he
  obtain ⟨a, l, b⟩ := e
  have ih := fun acc' h => C09 es v hl d (k + 1) fuel acc' (by omega) (by omega) h
  have w1 : IntKind.i64.wrap ((acc : Int) + 1) = ((acc + 1 : Nat) : Int) := by rw [w64 (by omega) (by omega)]; rfl
  have w2 : IntKind.i64.wrap (((acc + 1 : Nat) : Int) + 1) = ((acc + 2 : Nat) : Int) := by rw [w64 (by omega) (by omega)]; rfl
  rw [T2.eq_2, if_pos (by simp; omega), R3 he, O2 he]
  simp only [Option.bind_some, d01, W04, L2 hk (show es.length ≤ 9223372036854775807 by omega)]
  by_cases c1 : a = v
  ·rw [if_pos (by simpa using c1), if_pos c1]
   by_cases c2 : b = v
   ·rw [if_pos (by simpa using c2), if_pos c2, w1, w2, ih _ (by omega)]; congr 2; omega
   ·rw [if_neg (by simpa using c2), if_neg c2, w1, ih _ (by omega)]; congr 2; omega
  ·rw [if_neg (by simpa using c1), if_neg c1]
   by_cases c2 : b = v
   ·rw [if_pos (by simpa using c2), if_pos c2, w1, ih _ (by omega)]; congr 2; omega
   ·rw [if_neg (by simpa using c2), if_neg c2, ih _ (by omega)]; congr 2; omega
theorem D09 (es : List B0) (v : Int) : ∀ (fuel : Nat) (x y : Int), f4 es v fuel x y = T2 es v fuel x y
 | 0, x, y => rfl
 | fuel + 1, x, y => by
  rw [f4.eq_2, T2.eq_2]
  simp only [D09 es v fuel]
  by_cases c : (decide (y < ((es.length : Nat) : Int))) = true
  ·rw [if_pos c, if_pos c]
   cases hg : gi es y with
   | none => rfl
   | some e => simp only [Option.bind_some]
  ·rw [if_neg c, if_neg c]
theorem i0b (g : j0) (v : Int) (hl : g.2.2.length ≤ 1099511627776) : C7 g v = some ((d01 v g.2.2 : Nat) : Int) := by
 obtain ⟨r, n, es⟩ := g
 unfold C7
 have h := C09 es v hl es.length 0 T0 0 (by omega) (M1 (by simp only at hl; omega)) (Nat.zero_le _)
 rw [show ((0 : Nat) : Int) = 0 from rfl, List.drop_zero, Nat.zero_add] at h
 simp only [h, Option.bind_some]
theorem p0h (g : j0) (v : Int) (hl : g.2.2.length ≤ 1099511627776) : A8 g v = some ((d01 v g.2.2 : Nat) : Int) := by
 have h := i0b g v hl
 obtain ⟨r, n, es⟩ := g
 unfold A8
 unfold C7 at h
 simp only [D09] at h ⊢
 exact h
def H0d (g h : j0) : Bool := decide (g = h)
theorem x08 (x y : B0) : eqE x y = true ↔ x = y := by simp [eqE]
theorem g08 (a b : List B0) (hab : a.length = b.length) (hl : a.length ≤ 9223372036854775807) : ∀ (d k fuel : Nat), k + d = a.length → d < fuel →
  Q0 a b fuel (k : Int) = some (if a.drop k = b.drop k then .inr () else .inl false)
 | d, k, 0, hd, hf => by omega
 | 0, k, fuel + 1, hd, hf => by
  rw [Q0.eq_2, if_neg (by simp; omega), Y1 (by omega), Y1 (by omega)]; rfl
 | d + 1, k, fuel + 1, hd, hf => by
  have hk : k < a.length := by omega
  have hk2 : k < b.length := by omega
  have ha := P6 hk
  have hb := P6 hk2
  generalize a[k] = x at ha
  generalize b[k] = y at hb
  have ih := g08 a b hab hl d (k + 1) fuel (by omega) (by omega)
  rw [Q0.eq_2, if_pos (by simp; omega), R3 ha, R3 hb, O2 ha, O2 hb]
  simp only [Option.bind_some, L2 hk hl, ih]
  by_cases c : x = y
  ·subst c
   rw [if_neg (by simp [eqE])]
   simp
  ·have hne : eqE x y = false := Bool.eq_false_iff.2 fun h => c ((x08 x y).1 h)
   rw [if_pos (show (!eqE x y) = true by rw [hne]; rfl), if_neg (by simp [c])]
theorem E09 (a b : List B0) (hl : a.length ≤ 9223372036854775807) : V1 a b = some (decide (a = b)) := by
 unfold V1
 by_cases hab : a.length = b.length
 ·have h := g08 a b hab hl a.length 0 T0 (by omega) (by unfold T0; omega)
  rw [if_neg (by simp; omega), show (0 : Int) = ((0 : Nat) : Int) from rfl, h, List.drop_zero, List.drop_zero]
  by_cases c : a = b
  ·rw [if_pos c]; simp [T7, c]
  ·rw [if_neg c]; simp [T7, c]
 ·rw [if_pos (by simp; omega)]
  congr 1
  symm
  simp
  intro h; exact hab (by rw [h])
theorem q0h (g h : j0) (hl : g.2.2.length ≤ 9223372036854775807) : o7 g h = some (H0d g h) := by
 obtain ⟨r, n, es⟩ := g
 obtain ⟨r', n', es'⟩ := h
 unfold o7 H0d
 simp only [Prod.mk.injEq]
 by_cases c1 : r = r' <;> by_cases c2 : n = n' <;> simp [c1, c2, Z2, J2, E09 es es' hl]
theorem j0b (a b : List B0) : ∀ (fuel : Nat) (k : Int), N4 a b fuel k = Q0 a b fuel k
 | 0, k => rfl
 | fuel + 1, k => by
  rw [N4.eq_2, Q0.eq_2]
  simp only [j0b a b fuel]
theorem r0h (g h : j0) (hl : g.2.2.length ≤ 9223372036854775807) : l7 g h = some (H0d g h) := by
 have hS := E09 g.2.2 h.2.2 hl
 obtain ⟨r, n, es⟩ := g
 obtain ⟨r', n', es'⟩ := h
 unfold l7 H0d
 unfold V1 at hS
 simp only [j0b, Prod.mk.injEq] at hS ⊢
 by_cases c1 : r = r'
 ·by_cases c2 : n = n'
  ·simp only [c1, c2, decide_true, Bool.not_true, cond_false, true_and]
   rw [← hS]
  ·simp [c1, c2]
 ·simp [c1]
def goE (x : B0) : List B0 → Bool × List B0
 | [] => (false, [])
 | y :: l => if C1 x y < 0 then (true, x :: y :: l) else if C1 x y = 0 then (true, y :: l) else ((goE x l).1, y :: (goE x l).2)
theorem f0g (x : B0) : ∀ l, U9 C1 x l = bif (goE x l).1 then (goE x l).2 else (goE x l).2 ++ [x]
 | [] => rfl
 | y :: l => by
  have ih := f0g x l
  unfold U9 goE
  by_cases c1 : C1 x y < 0
  ·rw [if_pos c1, if_pos c1]; rfl
  ·rw [if_neg c1, if_neg c1]
   by_cases c2 : C1 x y = 0
   ·rw [if_pos c2, if_pos c2]; rfl
   ·rw [if_neg c2, if_neg c2, ih]; cases (goE x l).1 <;> rfl
theorem z07 (l : List B0) (w0 w1 w2 : Int) (hl : l.length ≤ 1099511627776) : ∀ (d k fuel : Nat) (acc : List B0), k + d = l.length → d < fuel → acc.length ≤ k + 1 →
  K3 l w0 w1 w2 fuel true (k : Int) acc = some (true, acc ++ l.drop k)
 | d, k, 0, acc, hd, hf, ha => by omega
 | 0, k, fuel + 1, acc, hd, hf, ha => by
  rw [K3.eq_2, if_neg (by simp; omega), Y1 (by omega), List.append_nil]
 | d + 1, k, fuel + 1, acc, hd, hf, ha => by
  have hk : k < l.length := by omega
  have he := P6 hk
  generalize l[k] = e at he
  obtain ⟨a, x, b⟩ := e
  have ih := z07 l w0 w1 w2 hl d (k + 1) fuel (acc ++ [(a, x, b)]) (by omega) (by omega) (by simp; omega)
  rw [K3.eq_2, if_pos (by simp; omega), O2 he]
  simp only [R3 he, Option.bind_some, V9, H0 (w08 _ _), L2 hk (show l.length ≤ 9223372036854775807 by omega), Bool.not_true]
  have hb : ∀ b : Bool, (bif b then false else false) = false := fun b => by cases b <;> rfl
  simp only [hb, Bool.false_eq_true, if_false]
  rw [H0 (by simp; omega), Option.bind_some, ih]
  simp
theorem F09 (l : List B0) (w0 w1 w2 : Int) (hl : l.length ≤ 1099511627776) : ∀ (d k fuel : Nat) (acc : List B0), k + d = l.length → d < fuel → acc.length = k →
  K3 l w0 w1 w2 fuel false (k : Int) acc = some ((goE (w0, w1, w2) (l.drop k)).1, acc ++ (goE (w0, w1, w2) (l.drop k)).2)
 | d, k, 0, acc, hd, hf, ha => by omega
 | 0, k, fuel + 1, acc, hd, hf, ha => by
  rw [K3.eq_2, if_neg (by simp; omega), Y1 (by omega)]; simp [goE]
 | d + 1, k, fuel + 1, acc, hd, hf, ha => by
  have hk : k < l.length := by omega
  have he := P6 hk
  generalize l[k] = e at he
  obtain ⟨a, x, b⟩ := e
  have ih := F09 l w0 w1 w2 hl d (k + 1) fuel (acc ++ [(a, x, b)]) (by omega) (by omega) (by simp; omega)
  have on1 := z07 l w0 w1 w2 hl d (k + 1) fuel (acc ++ [(a, x, b)]) (by omega) (by omega) (by simp; omega)
  have on2 := z07 l w0 w1 w2 hl d (k + 1) fuel ((acc ++ [(w0, w1, w2)]) ++ [(a, x, b)]) (by omega) (by omega) (by simp; omega)
  rw [K3.eq_2, if_pos (by simp; omega), O2 he]
  simp only [R3 he, Option.bind_some, V9, H0 (w08 _ _), L2 hk (show l.length ≤ 9223372036854775807 by omega), Bool.not_true, Bool.not_false, goE]
  show _ = _
  unfold w09
  by_cases c1 : C1 (w0, w1, w2) (a, x, b) = 0
  ·rw [if_pos (by simpa using c1), if_neg (by simp [c1]), if_neg (by omega), if_pos c1]
   rw [H0 (by simp; omega), Option.bind_some, on1]; simp
  ·rw [if_neg (by simpa using c1)]
   by_cases c2 : C1 (w0, w1, w2) (a, x, b) < 0
   ·rw [if_pos (by simp [c2]), if_pos c2, H0 (by simp; omega), Option.bind_some, H0 (by simp; omega), Option.bind_some, on2]; simp
   ·rw [if_neg (by simp [c2]), if_neg c2, if_neg c1, H0 (by simp; omega), Option.bind_some, ih]; simp
theorem f0k (l : List B0) (e : B0) (hl : l.length ≤ 1099511627776) : k00 l e = some (U9 C1 e l) := by
 obtain ⟨w0, w1, w2⟩ := e
 unfold k00
 have h := F09 l w0 w1 w2 hl l.length 0 T0 [] (by omega) (M1 (by omega)) rfl
 rw [show ((0 : Nat) : Int) = 0 from rfl, List.drop_zero, List.nil_append] at h
 simp only [h, Option.bind_some, f0g]
 have hlen : ∀ l : List B0, (goE (w0, w1, w2) l).2.length ≤ l.length + 1 := fun l => by
  induction l with
  | nil => simp [goE]
  | cons y l ih =>
   unfold goE
   split
   ·simp
   ·split
    ·simp
    ·simp only [List.length_cons]; omega
 have := hlen l
 cases (goE (w0, w1, w2) l).1 with
 | true => rfl
 | false =>
  simp only [Bool.not_false, if_true, cond_false]
  rw [H0 (by simp; omega), Option.bind_some]
theorem A07 (e : B0) : ∀ l : List B0, (U9 C1 e l).length ≤ l.length + 1
 | [] => by simp [U9]
 | y :: l => by
  have := A07 e l
  unfold U9
  split
  ·simp
  ·split
   ·simp
   ·simp only [List.length_cons]; omega
theorem I0d (es : List B0) (hl : es.length ≤ 1099511627776) : I8 es = some (w9 C1 [] es) := by
 unfold I8
 rw [H0 (by simp; omega), Option.bind_some, H0 (by simp; omega), Option.bind_some, List.nil_append]
 exact congrArg some (B0d P02 x08 es es fun _ => Iff.rfl)
theorem X0e (g : j0) (hl : g.2.2.length ≤ 1099511627776) : Y6 g = some g := by
 obtain ⟨r, n, es⟩ := g
 unfold Y6
 simp only
 rw [H0 (by simp only [List.length_nil, Nat.zero_add]; simp only at hl; omega)]; rfl
theorem G09 (g : j0) (hl : g.2.2.length ≤ 1099511627776) : o6 g = some g := by
 obtain ⟨r, n, es⟩ := g
 unfold o6
 simp only
 rw [H0 (by simp only [List.length_nil, Nat.zero_add]; simp only at hl; omega)]; rfl
end Go.Proofs.YtknoadmdnjaocaaGreat
namespace Go.Proofs.YtknoadmdnjaocaaGreat
open Go.H
set_option linter.unusedVariables false
set_option linter.unusedSimpArgs false
inductive Rch (es : List B0) (v : Int) : Int → Prop
 | base : Rch es v v
 | fwd {e : B0} : e ∈ es → Rch es v e.1 → Rch es v e.2.2
 | bwd {e : B0} : e ∈ es → Rch es v e.2.2 → Rch es v e.1
theorem Rch.closed {es : List B0} {v : Int} : ∀ e ∈ es, Rch es v e.1 ↔ Rch es v e.2.2 := fun e he => ⟨.fwd he, .bwd he⟩
theorem Rch.sub {es : List B0} {v : Int} {P : Int → Prop} (hv : P v) (hc : ∀ e ∈ es, P e.1 ↔ P e.2.2) : ∀ {x}, Rch es v x → P x
 | _, .base => hv
 | _, .fwd he h => (hc _ he).1 (Rch.sub hv hc h)
 | _, .bwd he h => (hc _ he).2 (Rch.sub hv hc h)
def w7 (S : List Bool) (i : Int) : Bool := S.getD i.toNat false
def stJ (S : List Bool) (e : B0) : List Bool := (S.set e.1.toNat true).set e.2.2.toNat true
def pJ : List B0 → Bool → List Bool → Bool × List Bool
 | [], c, S => (c, S)
 | e :: r, c, S => bif w7 S e.1 == w7 S e.2.2 then pJ r c S else pJ r true (stJ S e)
def cF : List Bool → Nat
 | [] => 0
 | b :: r => (bif b then 0 else 1) + cF r
theorem Y0e : ∀ (S : List Bool) (i : Nat), cF (S.set i true) ≤ cF S
 | [], i => by simp [cF]
 | b :: r, 0 => by simp [cF]
 | b :: r, i + 1 => by have := Y0e r i; simp only [List.set_cons_succ, cF]; omega
theorem N0i : ∀ (S : List Bool) (i : Nat), S[i]? = some false → cF (S.set i true) < cF S
 | [], i, h => by simp at h
 | b :: r, 0, h => by simp at h; subst h; simp [cF]
 | b :: r, i + 1, h => by have := N0i r i (by simpa using h); simp only [List.set_cons_succ, cF]; omega
theorem C0k : ∀ S : List Bool, cF S ≤ S.length
 | [] => by simp [cF]
 | b :: r => by have := C0k r; cases b <;> simp only [cF, List.length_cons, cond_true, cond_false] <;> omega
def inN (n : Nat) (es : List B0) : Prop := ∀ e ∈ es, (0 ≤ e.1 ∧ e.1 < (n : Int)) ∧ (0 ≤ e.2.2 ∧ e.2.2 < (n : Int))
theorem o04 {S : List Bool} {i : Nat} (h : i < S.length) (x : Int) : w7 (S.set i true) x = (decide (x.toNat = i) || w7 S x) := by
 unfold w7
 rw [List.getD_eq_getElem?_getD, List.getD_eq_getElem?_getD, List.getElem?_set]
 by_cases c : i = x.toNat
 ·rw [if_pos c, if_pos (by omega)]; simp [c]
 ·rw [if_neg c]
  have : decide (x.toNat = i) = false := by simp; exact fun e => c e.symm
  rw [this]; rfl
theorem Z0e : ∀ (es : List B0) (c : Bool) (S : List Bool), (pJ es c S).2.length = S.length
 | [], c, S => rfl
 | e :: r, c, S => by
  unfold pJ
  cases w7 S e.1 == w7 S e.2.2
  ·simp only [cond_false]; rw [Z0e r]; simp [stJ]
  ·simp only [cond_true]; exact Z0e r c S
theorem n0c {n : Nat} : ∀ (es : List B0) (c : Bool) (S : List Bool), S.length = n → inN n es → ∀ x, w7 S x = true → w7 (pJ es c S).2 x = true
 | [], c, S, hl, hn, x, h => h
 | e :: r, c, S, hl, hn, x, h => by
  have he := hn e (List.mem_cons_self ..)
  have hr : inN n r := fun e he => hn e (List.mem_cons_of_mem _ he)
  unfold pJ
  cases w7 S e.1 == w7 S e.2.2
  ·simp only [cond_false]
   refine n0c r _ _ (by simp [stJ, hl]) hr x ?_
   rw [stJ, o04 (by rw [List.length_set]; omega), o04 (by omega), h]; simp
  ·simp only [cond_true]; exact n0c r c S hl hr x h
theorem H09 {n : Nat} {P : Int → Prop} : ∀ (es : List B0) (c : Bool) (S : List Bool), S.length = n → inN n es → (∀ e ∈ es, P e.1 ↔ P e.2.2) → (∀ x, 0 ≤ x → w7 S x = true → P x) → ∀ x, 0 ≤ x → w7 (pJ es c S).2 x = true → P x
 | [], c, S, hl, hn, hc, hs, x, h0, h => hs x h0 h
 | e :: r, c, S, hl, hn, hc, hs, x, h0, h => by
  have he := hn e (List.mem_cons_self ..)
  have hr : inN n r := fun e he => hn e (List.mem_cons_of_mem _ he)
  have hc' := fun e he => hc e (List.mem_cons_of_mem _ he)
  have hce := hc e (List.mem_cons_self ..)
  unfold pJ at h
  cases hb : w7 S e.1 == w7 S e.2.2
  ·rw [hb] at h
   refine H09 r true (stJ S e) (by simp [stJ, hl]) hr hc' (fun y hy h => ?_) x h0 h
   rw [stJ, o04 (by rw [List.length_set]; omega), o04 (by omega)] at h
   simp only [Bool.or_eq_true, decide_eq_true_eq] at h
   have hor : P e.1 ∨ P e.2.2 := by
    cases h1 : w7 S e.1
    ·cases h2 : w7 S e.2.2
     ·rw [h1, h2] at hb; cases hb
     ·exact .inr (hs _ he.2.1 h2)
    ·exact .inl (hs _ he.1.1 h1)
   rcases h with h | h | h
   ·have : y = e.2.2 := by omega
    subst this; exact hor.elim hce.1 id
   ·have : y = e.1 := by omega
    subst this; exact hor.elim id hce.2
   ·exact hs y hy h
  ·rw [hb] at h
   exact H09 r c S hl hr hc' hs x h0 h
theorem a0f {n : Nat} : ∀ (es : List B0) (c : Bool) (S : List Bool), S.length = n → inN n es → cF (pJ es c S).2 ≤ cF S ∧ ((pJ es c S).1 = true → c = true ∨ cF (pJ es c S).2 < cF S) ∧ ((pJ es c S).1 = false → c = false ∧ (pJ es c S).2 = S ∧ ∀ e ∈ es, w7 S e.1 = w7 S e.2.2)
 | [], c, S, hl, hn => ⟨Nat.le_refl _, fun h => .inl h, fun h => ⟨h, rfl, fun e he => nomatch he⟩⟩
 | e :: r, c, S, hl, hn => by
  have he := hn e (List.mem_cons_self ..)
  have hr : inN n r := fun e he => hn e (List.mem_cons_of_mem _ he)
  unfold pJ
  cases hb : w7 S e.1 == w7 S e.2.2
  ·simp only [cond_false]
   obtain ⟨h1, h2, h3⟩ := a0f r true (stJ S e) (by simp [stJ, hl]) hr
   have hlt : cF (stJ S e) < cF S := by
    have g : ∀ (x : Int), 0 ≤ x → x < n → w7 S x = false → S[x.toNat]? = some false := fun x hx hx2 hg => by
     have hk : x.toNat < S.length := by omega
     unfold w7 at hg
     rw [List.getD_eq_getElem?_getD, List.getElem?_eq_getElem hk] at hg
     rw [List.getElem?_eq_getElem hk]; simpa using hg
    cases g1 : w7 S e.1
    ·have := N0i S _ (g _ he.1.1 he.1.2 g1)
     have := Y0e (S.set e.1.toNat true) e.2.2.toNat
     unfold stJ; omega
    ·have g2 : w7 S e.2.2 = false := by
      cases g2 : w7 S e.2.2
      ·rfl
      ·rw [g1, g2] at hb; cases hb
     have g3 : (S.set e.1.toNat true)[e.2.2.toNat]? = some false := by
      rw [List.getElem?_set]
      by_cases q : e.1.toNat = e.2.2.toNat
      ·exfalso
       have : e.1 = e.2.2 := by omega
       rw [this, g2] at g1; cases g1
      ·rw [if_neg q]; exact g _ he.2.1 he.2.2 g2
     have := N0i _ _ g3
     have := Y0e S e.1.toNat
     unfold stJ; omega
   refine ⟨by omega, fun _ => .inr (by omega), fun h => ?_⟩
   have := (h3 h).1; cases this
  ·simp only [cond_true]
   obtain ⟨h1, h2, h3⟩ := a0f r c S hl hr
   refine ⟨h1, h2, fun h => ⟨(h3 h).1, (h3 h).2.1, fun e' he' => ?_⟩⟩
   rcases List.mem_cons.1 he' with rfl | he'
   ·simpa using hb
   ·exact (h3 h).2.2 e' he'
theorem giB {S : List Bool} {n : Nat} (hl : S.length = n) {x : Int} (h0 : 0 ≤ x) (h1 : x < n) : gi S x = some (w7 S x) := by
 have hk : x.toNat < S.length := by omega
 have e : x = ((x.toNat : Nat) : Int) := by omega
 have h2 : gi S ((x.toNat : Nat) : Int) = some (w7 S x) := by
  rw [u07, List.getElem?_eq_getElem hk]
  unfold w7
  rw [List.getD_eq_getElem?_getD, List.getElem?_eq_getElem hk]; rfl
 rw [← e] at h2; exact h2
theorem k0b (es : List B0) {n : Nat} (hn : inN n es) (hl : es.length ≤ 9223372036854775807) : ∀ (d k fuel : Nat) (c : Bool) (S : List Bool), S.length = n → k + d = es.length → d < fuel →
  D3 es fuel c (k : Int) S = some (pJ (es.drop k) c S)
 | d, k, 0, c, S, hS, hd, hf => by omega
 | 0, k, fuel + 1, c, S, hS, hd, hf => by
  rw [D3.eq_2, if_neg (by simp; omega), Y1 (by omega)]; rfl
 | d + 1, k, fuel + 1, c, S, hS, hd, hf => by
  have hk : k < es.length := by omega
  have he := P6 hk
  have hin := hn _ (List.mem_of_getElem? he)
  generalize es[k] = e at he hin
  obtain ⟨a, l, b⟩ := e
  have ih := fun c' S' h => k0b es hn hl d (k + 1) fuel c' S' h (by omega) (by omega)
  rw [D3.eq_2, if_pos (by simp; omega), O2 he]
  simp only [R3 he, Option.bind_some, giB hS hin.1.1 hin.1.2, giB hS hin.2.1 hin.2.2, L2 hk hl, giB (show (S.set a.toNat true).length = n by simp [hS]) hin.2.1 hin.2.2, pJ]
  cases hb : w7 S a == w7 S b
  ·simp only [Bool.not_false, if_true, cond_false]
   exact ih _ _ (by simp [hS])
  ·simp only [Bool.not_true, Bool.false_eq_true, if_false, cond_true]
   exact ih _ _ hS
theorem l0b (es : List B0) {n : Nat} (hn : inN n es) (hl : es.length ≤ 9223372036854775806) : ∀ (m fuel : Nat) (S : List Bool), S.length = n → cF S ≤ m → m + 1 < fuel →
  ∃ S', S3 es fuel true S = some S' ∧ S'.length = n ∧ (∀ x, w7 S x = true → w7 S' x = true) ∧ (∀ e ∈ es, w7 S' e.1 = w7 S' e.2.2) ∧
   ∀ P : Int → Prop, (∀ e ∈ es, P e.1 ↔ P e.2.2) → (∀ x, 0 ≤ x → w7 S x = true → P x) → ∀ x, 0 ≤ x → w7 S' x = true → P x
 | m, 0, S, hS, hm, hf => by omega
 | m, fuel + 1, S, hS, hm, hf => by
  have h0 := k0b es hn (by omega) es.length 0 T0 false S hS (by omega) (by unfold T0; omega)
  rw [show ((0 : Nat) : Int) = 0 from rfl, List.drop_zero] at h0
  obtain ⟨c1, c2, c3⟩ := a0f es false S hS hn
  have hlen := Z0e es false S
  rw [S3.eq_2, if_pos rfl, h0, Option.bind_some]
  have hmono := n0c es false S hS hn
  have hsnd := fun P => H09 (P := P) es false S hS hn
  generalize pJ es false S = q at *
  obtain ⟨c, S'⟩ := q
  simp only at c1 c2 c3 hlen hmono hsnd ⊢
  cases c with
  | true =>
   rcases c2 rfl with h | h
   ·cases h
   ·obtain ⟨S2, e1, e2, e3, e4, e5⟩ := l0b es hn hl (m - 1) fuel S' (by omega) (by omega) (by omega)
    exact ⟨S2, e1, e2, fun x hx => e3 x (hmono x hx), e4, fun P hc hs => e5 P hc (hsnd P hc hs)⟩
  | false =>
   obtain ⟨_, e, hall⟩ := c3 rfl
   subst e
   obtain _ | fuel := fuel
   ·omega
   ·rw [S3.eq_2, if_neg (by simp)]
    exact ⟨_, rfl, hS, fun x h => h, hall, fun P _ hs => hs⟩
theorem O0i (r : Int) (n : Nat) (es : List B0) (hn : inN n es) (hl : es.length ≤ 9223372036854775806) (hn2 : 1 ≤ n) (hn3 : n ≤ 140737488355328) :
  ∃ S, T6 (r, (n : Int), es) 0 = some S ∧ S.length = n ∧ ∀ x, 0 ≤ x → x < (n : Int) → (w7 S x = true ↔ Rch es 0 x) := by
 unfold T6
 simp only [Int.toNat_natCast]
 have hg : gi (List.replicate n (false : Bool)) 0 = some false := by
  rw [K0i (x := false)]; rw [List.getElem?_replicate, if_pos (by omega)]
 rw [H0 (by omega), Option.bind_some, hg, Option.bind_some]
 have hS : ((List.replicate n (false : Bool)).set (0 : Int).toNat true).length = n := by simp
 obtain ⟨S', e1, e2, e3, e4, e5⟩ := l0b es hn hl n T0 _ hS (by have := C0k ((List.replicate n (false : Bool)).set (0 : Int).toNat true); omega) (by unfold T0; omega)
 rw [e1]
 have hb : ∀ x, w7 ((List.replicate n (false : Bool)).set (0 : Int).toNat true) x = decide (x.toNat = 0) := fun x => by
  rw [o04 (by simp; omega)]
  have : w7 (List.replicate n false) x = false := by
   unfold w7
   rw [List.getD_eq_getElem?_getD, List.getElem?_replicate]
   split <;> rfl
  rw [this]; simp
 refine ⟨S', rfl, e2, fun x h0 h1 => ⟨fun h => ?_, fun h => ?_⟩⟩
 ·refine e5 (Rch es 0) Rch.closed (fun y hy h => ?_) x h0 h
  rw [hb] at h
  have : y = 0 := by simp at h; omega
  subst this; exact .base
 ·exact Rch.sub (P := fun x => w7 S' x = true) (e3 0 (by rw [hb]; rfl)) (fun e he => by rw [e4 e he]) h
theorem D0k (l : List Int) (w : Int) (hl : l.length ≤ 9223372036854775807) : ∀ (d k fuel : Nat), k + d = l.length → d < fuel →
  L6 l w fuel (k : Int) = some (if w ∈ l.drop k then .inl true else .inr ())
 | d, k, 0, hd, hf => by omega
 | 0, k, fuel + 1, hd, hf => by
  rw [L6.eq_2, if_neg (by simp; omega), Y1 (by omega)]; simp
 | d + 1, k, fuel + 1, hd, hf => by
  have hk : k < l.length := by omega
  have hx := P6 hk
  generalize l[k] = x at hx
  have ih := D0k l w hl d (k + 1) fuel (by omega) (by omega)
  rw [L6.eq_2, if_pos (by simp; omega), O2 hx]
  simp only [R3 hx, Option.bind_some, L2 hk hl, ih, List.mem_cons]
  by_cases c : x = w
  ·rw [if_pos (by simpa using c), if_pos (.inl c.symm)]
  ·rw [if_neg (by simpa using c)]
   by_cases c2 : w ∈ l.drop (k + 1)
   ·rw [if_pos c2, if_pos (.inr c2)]
   ·rw [if_neg c2, if_neg (fun h => h.elim (fun e => c e.symm) c2)]
theorem I06 (l : List Int) (w : Int) (hl : l.length ≤ 9223372036854775807) : A6 l w = some (decide (w ∈ l)) := by
 unfold A6
 have h := D0k l w hl l.length 0 T0 (by omega) (by unfold T0; omega)
 rw [show ((0 : Nat) : Int) = 0 from rfl, List.drop_zero] at h
 rw [h, Option.bind_some]
 by_cases c : w ∈ l
 ·rw [if_pos c]; simp [T7, c]
 ·rw [if_neg c]; simp [T7, c]
def s1 (u : List Int) (e : B0) : List Int := if e.1 ∈ u then U9 O6 e.2.2 u else u
def s2 (u : List Int) (e : B0) : List Int := if e.2.2 ∈ u then U9 O6 e.1 u else u
def pS : List B0 → List Int → List Int
 | [], u => u
 | e :: r, u => pS r (s2 (s1 u e) e)
theorem B07 {u : List Int} {e : B0} {x : Int} : x ∈ s1 u e ↔ x ∈ u ∨ (e.1 ∈ u ∧ x = e.2.2) := by
 unfold s1
 split
 ·rename_i h; rw [k04 A9]; constructor
  ·rintro (h1 | h1)
   ·exact .inr ⟨h, h1⟩
   ·exact .inl h1
  ·rintro (h1 | ⟨_, h1⟩)
   ·exact .inr h1
   ·exact .inl h1
 ·rename_i h; constructor
  ·exact .inl
  ·rintro (h1 | ⟨h1, _⟩)
   ·exact h1
   ·exact absurd h1 h
theorem C07 {u : List Int} {e : B0} {x : Int} : x ∈ s2 u e ↔ x ∈ u ∨ (e.2.2 ∈ u ∧ x = e.1) := by
 unfold s2
 split
 ·rename_i h; rw [k04 A9]; constructor
  ·rintro (h1 | h1)
   ·exact .inr ⟨h, h1⟩
   ·exact .inl h1
  ·rintro (h1 | ⟨_, h1⟩)
   ·exact .inr h1
   ·exact .inl h1
 ·rename_i h; constructor
  ·exact .inl
  ·rintro (h1 | ⟨h1, _⟩)
   ·exact h1
   ·exact absurd h1 h
theorem P0i (u : List Int) (e : B0) : (s1 u e).length ≤ u.length + 1 := by
 unfold s1; split
 ·exact Q02 _ _
 ·omega
theorem Q0i (u : List Int) (e : B0) : (s2 u e).length ≤ u.length + 1 := by
 unfold s2; split
 ·exact Q02 _ _
 ·omega
theorem b0f : ∀ (es : List B0) (u : List Int), (pS es u).length ≤ u.length + 2 * es.length
 | [], u => by simp [pS]
 | e :: r, u => by
  have := b0f r (s2 (s1 u e) e)
  have := Q0i (s1 u e) e
  have := P0i u e
  simp only [pS, List.length_cons]; omega
theorem s03 : ∀ (es : List B0) (u : List Int) (x : Int), x ∈ u → x ∈ pS es u
 | [], u, x, h => h
 | e :: r, u, x, h => s03 r _ x (C07.2 (.inl (B07.2 (.inl h))))
theorem I09 {P : Int → Prop} : ∀ (es : List B0) (u : List Int), (∀ e ∈ es, P e.1 ↔ P e.2.2) → (∀ x ∈ u, P x) → ∀ x ∈ pS es u, P x
 | [], u, hc, hs => hs
 | e :: r, u, hc, hs => I09 r _ (fun e he => hc e (List.mem_cons_of_mem _ he)) fun x hx => by
  have hce := hc e (List.mem_cons_self ..)
  have h1 : ∀ y ∈ s1 u e, P y := fun y hy => by
   rcases B07.1 hy with h | ⟨h, rfl⟩
   ·exact hs y h
   ·exact hce.1 (hs _ h)
  rcases C07.1 hx with h | ⟨h, rfl⟩
  ·exact h1 x h
  ·exact hce.2 (h1 _ h)
theorem J0d : ∀ (es : List B0) (u : List Int) (e : B0), e ∈ es → e.1 ∈ u ∨ e.2.2 ∈ u → e.1 ∈ pS es u ∧ e.2.2 ∈ pS es u
 | e' :: r, u, e, he, h => by
  simp only [pS]
  rcases List.mem_cons.1 he with rfl | he
  ·have h2 : e.2.2 ∈ s1 u e := by
    rcases h with h | h
    ·exact B07.2 (.inr ⟨h, rfl⟩)
    ·exact B07.2 (.inl h)
   exact ⟨s03 r _ _ (C07.2 (.inr ⟨h2, rfl⟩)), s03 r _ _ (C07.2 (.inl h2))⟩
  ·exact J0d r _ e he (h.imp (fun h => C07.2 (.inl (B07.2 (.inl h)))) fun h => C07.2 (.inl (B07.2 (.inl h))))
def act (es : List B0) (u : List Int) : Nat := es.countP fun e => decide (e.1 ∈ u) && decide (e.2.2 ∈ u)
def clo (es : List B0) (u : List Int) : Prop := ∀ e ∈ es, e.1 ∈ u ↔ e.2.2 ∈ u
theorem h0l (es : List B0) (u : List Int) : act es u ≤ es.length := List.countP_le_length
theorem m0b {α : Type} {p q : α → Bool} : ∀ {l : List α}, (∀ x ∈ l, p x = true → q x = true) → (∃ x ∈ l, p x = false ∧ q x = true) → l.countP p < l.countP q
 | [], _, ⟨x, hx, _⟩ => nomatch hx
 | y :: l, h, ⟨x, hx, h1, h2⟩ => by
  have hle : l.countP p ≤ l.countP q := List.countP_mono_left fun z hz => h z (List.mem_cons_of_mem _ hz)
  rcases List.mem_cons.1 hx with rfl | hx
  ·rw [List.countP_cons_of_neg (by simp [h1]), List.countP_cons_of_pos h2]; omega
  ·have ih := m0b (l := l) (fun z hz => h z (List.mem_cons_of_mem _ hz)) ⟨x, hx, h1, h2⟩
   cases hp : p y
   ·rw [List.countP_cons_of_neg (by simp [hp])]
    have : l.countP q ≤ (y :: l).countP q := by rw [List.countP_cons]; omega
    omega
   ·rw [List.countP_cons_of_pos hp, List.countP_cons_of_pos (h y (List.mem_cons_self ..) hp)]; omega
theorem J06 {es : List B0} {u : List Int} (h : clo es u) (x : Int) : x ∈ pS es u ↔ x ∈ u :=
 ⟨I09 (P := fun x => x ∈ u) es u h (fun _ h => h) x, s03 es u x⟩
theorem R0i {es : List B0} {u : List Int} : clo es (pS es u) ∨ act es u < act es (pS es u) := by
 by_cases h : clo es u
 ·left
  intro e he
  rw [J06 h, J06 h]; exact h e he
 ·right
  have : ∃ e ∈ es, ¬ (e.1 ∈ u ↔ e.2.2 ∈ u) := by
   refine Classical.byContradiction fun hn => h fun e he => ?_
   exact Classical.byContradiction fun h2 => hn ⟨e, he, h2⟩
  obtain ⟨e, he, hne⟩ := this
  refine m0b (fun x hx h => ?_) ⟨e, he, ?_, ?_⟩
  ·simp only [Bool.and_eq_true, decide_eq_true_eq] at h ⊢
   exact ⟨s03 _ _ _ h.1, s03 _ _ _ h.2⟩
  ·rw [Bool.eq_false_iff]
   intro h
   simp only [Bool.and_eq_true, decide_eq_true_eq] at h
   exact hne ⟨fun _ => h.2, fun _ => h.1⟩
  ·have ht : e.1 ∈ u ∨ e.2.2 ∈ u := by
    refine Classical.byContradiction fun hn => hne ⟨fun h => absurd (.inl h) hn, fun h => absurd (.inr h) hn⟩
   have := J0d es u e he ht
   simp only [Bool.and_eq_true, decide_eq_true_eq]; exact this
def itS (es : List B0) : Nat → List Int → List Int
 | 0, u => u
 | j + 1, u => itS es j (pS es u)
theorem g0g (es : List B0) : ∀ (j : Nat) (u : List Int), (itS es j u).length ≤ u.length + j * (2 * es.length)
 | 0, u => by simp [itS]
 | j + 1, u => by have := g0g es j (pS es u); have := b0f es u; simp only [itS, Nat.add_mul, Nat.one_mul]; omega
theorem i0g (es : List B0) : ∀ (j : Nat) (u : List Int), clo es u → clo es (itS es j u)
 | 0, u, h => h
 | j + 1, u, h => i0g es j _ fun e he => by rw [J06 h, J06 h]; exact h e he
theorem j0g (es : List B0) : ∀ (j : Nat) (u : List Int), clo es (itS es j u) ∨ act es u + j ≤ act es (itS es j u)
 | 0, u => .inr (Nat.le_refl _)
 | j + 1, u => by
  rcases R0i (es := es) (u := u) with h | h
  ·exact .inl (i0g es j _ h)
  ·rcases j0g es j (pS es u) with h2 | h2
   ·exact .inl h2
   ·right; simp only [itS]; omega
theorem K0d (es : List B0) : ∀ (j : Nat) (u : List Int) (x : Int), x ∈ u → x ∈ itS es j u
 | 0, u, x, h => h
 | j + 1, u, x, h => K0d es j _ x (s03 es u x h)
theorem n0b {P : Int → Prop} (es : List B0) (hc : ∀ e ∈ es, P e.1 ↔ P e.2.2) : ∀ (j : Nat) (u : List Int), (∀ x ∈ u, P x) → ∀ x ∈ itS es j u, P x
 | 0, u, hs => hs
 | j + 1, u, hs => n0b es hc j _ (I09 es u hc hs)
theorem o0c (es : List B0) (v x : Int) : x ∈ itS es (es.length + 1) [v] ↔ Rch es v x := by
 constructor
 ·exact n0b (P := Rch es v) es Rch.closed _ _ (fun y hy => by simp at hy; subst hy; exact .base) x
 ·have hc : clo es (itS es (es.length + 1) [v]) := by
   rcases j0g es (es.length + 1) [v] with h | h
   ·exact h
   ·have := h0l es (itS es (es.length + 1) [v]); omega
  exact Rch.sub (P := fun x => x ∈ itS es (es.length + 1) [v]) (K0d _ _ _ _ (by simp)) hc
theorem J09 (es : List B0) (hl : es.length ≤ 9223372036854775807) : ∀ (d k fuel : Nat) (u : List Int), k + d = es.length → d < fuel → u.length + 2 * d ≤ 1099511627776 →
  M2 es fuel u (k : Int) = some (pS (es.drop k) u)
 | d, k, 0, u, hd, hf, hu => by omega
 | 0, k, fuel + 1, u, hd, hf, hu => by
  rw [M2.eq_2, if_neg (by simp; omega), Y1 (by omega)]; rfl
 | d + 1, k, fuel + 1, u, hd, hf, hu => by
  have hk : k < es.length := by omega
  have he := P6 hk
  generalize es[k] = e at he
  obtain ⟨a, l, b⟩ := e
  have ih := fun u' h => J09 es hl d (k + 1) fuel u' (by omega) (by omega) h
  have g1 := P0i u (a, l, b)
  have g2 := Q0i (s1 u (a, l, b)) (a, l, b)
  rw [M2.eq_2, if_pos (by simp; omega), O2 he]
  simp only [R3 he, Option.bind_some, I06 u _ (by omega), L2 hk hl, pS]
  by_cases c : a ∈ u
  ·rw [if_pos (by simpa using c), B06 _ _ (by omega), Option.bind_some]
   have e1 : s1 u (a, l, b) = U9 O6 b u := if_pos c
   rw [e1] at g1 g2 ⊢
   rw [I06 _ _ (by omega), Option.bind_some]
   by_cases c2 : b ∈ U9 O6 b u
   ·rw [if_pos (by simpa using c2), B06 _ _ (by omega), Option.bind_some]
    have e2 : s2 (U9 O6 b u) (a, l, b) = U9 O6 a (U9 O6 b u) := if_pos c2
    rw [e2] at g2 ⊢
    exact ih _ (by omega)
   ·rw [if_neg (by simpa using c2)]
    have e2 : s2 (U9 O6 b u) (a, l, b) = U9 O6 b u := if_neg c2
    rw [e2]
    exact ih _ (by omega)
  ·rw [if_neg (by simpa using c)]
   have e1 : s1 u (a, l, b) = u := if_neg c
   rw [e1] at g2 ⊢
   by_cases c2 : b ∈ u
   ·rw [if_pos (by simpa using c2), B06 _ _ (by omega), Option.bind_some]
    have e2 : s2 u (a, l, b) = U9 O6 a u := if_pos c2
    rw [e2] at g2 ⊢
    exact ih _ (by omega)
   ·rw [if_neg (by simpa using c2)]
    have e2 : s2 u (a, l, b) = u := if_neg c2
    rw [e2]
    exact ih _ (by omega)
theorem K09 (es : List B0) (hl : es.length ≤ 120) : ∀ (d k fuel : Nat) (u : List Int), k + d = es.length + 1 → d < fuel → u.length ≤ 1 + k * 240 →
  j4 es fuel u (k : Int) = some (itS es d u)
 | d, k, 0, u, hd, hf, hu => by omega
 | 0, k, fuel + 1, u, hd, hf, hu => by
  rw [j4.eq_2, if_neg (by rw [w64 (by omega) (by omega)]; simp; omega)]; rfl
 | d + 1, k, fuel + 1, u, hd, hf, hu => by
  have h0 := J09 es (by omega) es.length 0 T0 u (by omega) (M1 (by omega)) (by omega)
  rw [show ((0 : Nat) : Int) = 0 from rfl, List.drop_zero] at h0
  have ih := K09 es hl d (k + 1) fuel (pS es u) (by omega) (by omega) (by have := b0f es u; omega)
  rw [j4.eq_2, if_pos (by rw [w64 (by omega) (by omega)]; simp; omega), h0, Option.bind_some, L2 (show k < 1000 by omega) (by omega), ih]
  rfl
end Go.Proofs.YtknoadmdnjaocaaGreat
namespace Go.Proofs.YtknoadmdnjaocaaGreat
open Go.H
set_option linter.unusedVariables false
set_option linter.unusedSimpArgs false
def getI (P : List Int) (v : Int) : Int := P.getD v.toNat (-1)
def O01 : List Int → Nat → List Int → List Int
 | A, k, [] => A
 | A, k, v :: r => O01 (A.set v.toNat (k : Int)) (k + 1) r
def plc (n : Nat) (o : List Int) : List Int := O01 (List.replicate n (-1)) 0 o
theorem L09 : ∀ (o : List Int) (k : Nat) (A : List Int), (O01 A k o).length = A.length
 | [], k, A => rfl
 | v :: r, k, A => by rw [O01, L09 r]; simp
def inV (n : Nat) (o : List Int) : Prop := ∀ v ∈ o, 0 ≤ v ∧ v < (n : Int)
theorem giI {P : List Int} {n : Nat} (hl : P.length = n) {x : Int} (h0 : 0 ≤ x) (h1 : x < n) : gi P x = some (getI P x) := by
 have hk : x.toNat < P.length := by omega
 have e : x = ((x.toNat : Nat) : Int) := by omega
 have h2 : gi P ((x.toNat : Nat) : Int) = some (getI P x) := by
  rw [u07, List.getElem?_eq_getElem hk]
  unfold getI
  rw [List.getD_eq_getElem?_getD, List.getElem?_eq_getElem hk]; rfl
 rw [← e] at h2; exact h2
theorem P01 {A : List Int} {v x : Int} {y : Int} (h0 : 0 ≤ v) (h1 : v.toNat < A.length) (hx : 0 ≤ x) : getI (A.set v.toNat y) x = if x = v then y else getI A x := by
 unfold getI
 rw [List.getD_eq_getElem?_getD, List.getD_eq_getElem?_getD, List.getElem?_set]
 by_cases c : x = v
 ·rw [if_pos c, if_pos (by rw [c]), if_pos h1]; rfl
 ·rw [if_neg c, if_neg (by omega)]
theorem K06 {n : Nat} : ∀ (o : List Int) (k : Nat) (A : List Int), A.length = n → inV n o → (∀ x, 0 ≤ x → -1 ≤ getI A x ∧ getI A x < (k : Int)) → ∀ x, 0 ≤ x → -1 ≤ getI (O01 A k o) x ∧ getI (O01 A k o) x < ((k + o.length : Nat) : Int)
 | [], k, A, hA, ho, h, x, hx => h x hx
 | v :: r, k, A, hA, ho, h, x, hx => by
  have hv := ho v (List.mem_cons_self ..)
  have := K06 r (k + 1) (A.set v.toNat (k : Int)) (by simp [hA]) (fun w hw => ho w (List.mem_cons_of_mem _ hw)) (fun y hy => by
   rw [P01 hv.1 (by omega) hy]
   have := h y hy
   split <;> omega) x hx
  rw [O01, List.length_cons, show k + (r.length + 1) = k + 1 + r.length by omega]; exact this
theorem M09 (n : Nat) (x : Int) : getI (List.replicate n (-1)) x = -1 := by
 unfold getI
 rw [List.getD_eq_getElem?_getD, List.getElem?_replicate]
 split <;> rfl
theorem D07 {n : Nat} {o : List Int} (ho : inV n o) {x : Int} (hx : 0 ≤ x) : -1 ≤ getI (plc n o) x ∧ getI (plc n o) x < (o.length : Int) := by
 have := K06 o 0 (List.replicate n (-1)) (by simp) ho (fun x hx => by rw [M09]; omega) x hx
 rw [Nat.zero_add] at this; exact this
theorem k0g (n : Nat) (o : List Int) : (plc n o).length = n := by unfold plc; rw [L09]; simp
def pE (P : List Int) : List B0 → List B0
 | [] => []
 | e :: r => bif decide (0 ≤ getI P e.1) && decide (0 ≤ getI P e.2.2) then (getI P e.1, e.2.1, getI P e.2.2) :: pE P r else pE P r
theorem c0f (P : List Int) : ∀ es, (pE P es).length ≤ es.length
 | [] => by simp [pE]
 | e :: r => by
  have := c0f P r
  unfold pE
  cases decide (0 ≤ getI P e.1) && decide (0 ≤ getI P e.2.2) <;> simp only [cond_true, cond_false, List.length_cons] <;> omega
theorem E0k {n : Nat} {o : List Int} (ho : inV n o) : ∀ (es : List B0), inN n es → inN o.length (pE (plc n o) es)
 | [], hn => fun e he => nomatch he
 | e :: r, hn => by
  have hr := E0k ho r fun e he => hn e (List.mem_cons_of_mem _ he)
  have he := hn e (List.mem_cons_self ..)
  unfold pE
  cases hb : decide (0 ≤ getI (plc n o) e.1) && decide (0 ≤ getI (plc n o) e.2.2)
  ·simpa only [cond_false] using hr
  ·simp only [cond_true]
   simp only [Bool.and_eq_true, decide_eq_true_eq] at hb
   intro e' he'
   rcases List.mem_cons.1 he' with rfl | he'
   ·exact ⟨⟨hb.1, (D07 ho he.1.1).2⟩, hb.2, (D07 ho he.2.1).2⟩
   ·exact hr e' he'
def s02 (g : j0) (o : List Int) : j0 := (g.1, (o.length : Int), w9 C1 [] (pE (plc g.2.1.toNat o) g.2.2))
theorem p04 : ∀ (r l : List B0), (w9 C1 l r).length ≤ l.length + r.length
 | [], l => by simp [w9]
 | e :: r, l => by have := p04 r (U9 C1 e l); have := A07 e l; simp only [w9, List.length_cons]; omega
theorem N09 (g : j0) (o : List Int) : (s02 g o).2.2.length ≤ g.2.2.length := by
 have := p04 (pE (plc g.2.1.toNat o) g.2.2) []
 have := c0f (plc g.2.1.toNat o) g.2.2
 simp only [s02, List.length_nil] at *; omega
theorem s0h {n : Nat} {r : Int} {es : List B0} {o : List Int} (ho : inV n o) (hn : inN n es) : inN o.length (s02 (r, (n : Int), es) o).2.2 := by
 intro e he
 simp only [s02, Int.toNat_natCast] at he
 rcases (D00 P02 e _ _).1 he with h | h
 ·cases h
 ·exact E0k ho es hn e h
theorem l0g (n : Nat) (hn : n ≤ 140737488355328) : ∀ (d k fuel : Nat), k + d = n → d < fuel →
  c7 n fuel (k : Int) (List.replicate k (-1) ++ List.replicate d 0) = some (List.replicate n (-1))
 | d, k, 0, hd, hf => by omega
 | 0, k, fuel + 1, hd, hf => by
  rw [c7.eq_2, if_neg (by simp; omega), show k = n by omega]; simp
 | d + 1, k, fuel + 1, hd, hf => by
  have hg : gi (List.replicate k (-1) ++ List.replicate (d + 1) (0 : Int)) (k : Int) = some 0 := by
   rw [u07, List.getElem?_append_right (by simp)]; simp
  have ih := l0g n hn d (k + 1) fuel (by omega) (by omega)
  rw [c7.eq_2, if_pos (by simp; omega), hg, Option.bind_some, L2 (show k < n by omega) (by omega), Int.toNat_natCast]
  have e : (List.replicate k (-1) ++ List.replicate (d + 1) (0 : Int)).set k (-1) = List.replicate (k + 1) (-1) ++ List.replicate d 0 := by
   rw [List.set_append_right _ _ (by simp), List.length_replicate, Nat.sub_self, List.replicate_succ, List.set_cons_zero, List.replicate_succ']
   simp
  rw [e, ih]
theorem m0g (o : List Int) {n : Nat} (ho : inV n o) (hl : o.length ≤ 9223372036854775807) : ∀ (d k fuel : Nat) (A : List Int), A.length = n → k + d = o.length → d < fuel →
  Z6 o fuel (k : Int) A = some (O01 A k (o.drop k))
 | d, k, 0, A, hA, hd, hf => by omega
 | 0, k, fuel + 1, A, hA, hd, hf => by
  rw [Z6.eq_2, if_neg (by simp; omega), Y1 (by omega)]; rfl
 | d + 1, k, fuel + 1, A, hA, hd, hf => by
  have hk : k < o.length := by omega
  have hx := P6 hk
  have hin := ho _ (List.mem_of_getElem? hx)
  generalize o[k] = v at hx hin
  have ih := m0g o ho hl d (k + 1) fuel (A.set v.toNat (k : Int)) (by simp [hA]) (by omega) (by omega)
  rw [Z6.eq_2, if_pos (by simp; omega), O2 hx, R3 hx, Option.bind_some, giI hA hin.1 hin.2, Option.bind_some, L2 hk hl, ih]
  rfl
theorem n0g (es : List B0) {n : Nat} (hn : inN n es) (hl : es.length ≤ 1099511627776) (P : List Int) (hP : P.length = n) (r m : Int) : ∀ (d k fuel : Nat) (acc : List B0), k + d = es.length → d < fuel → acc.length ≤ k →
  B6 es P fuel (k : Int) r m acc = some (r, m, acc ++ pE P (es.drop k))
 | d, k, 0, acc, hd, hf, ha => by omega
 | 0, k, fuel + 1, acc, hd, hf, ha => by
  rw [B6.eq_2, if_neg (by simp; omega), Y1 (by omega)]; simp [pE]
 | d + 1, k, fuel + 1, acc, hd, hf, ha => by
  have hk : k < es.length := by omega
  have he := P6 hk
  have hin := hn _ (List.mem_of_getElem? he)
  generalize es[k] = e at he hin
  obtain ⟨a, l, b⟩ := e
  have ih := fun acc' h => n0g es hn hl P hP r m d (k + 1) fuel acc' (by omega) (by omega) h
  rw [B6.eq_2, if_pos (by simp; omega), O2 he]
  simp only [R3 he, Option.bind_some, giI hP hin.1.1 hin.1.2, giI hP hin.2.1 hin.2.2, L2 hk (show es.length ≤ 9223372036854775807 by omega), pE]
  by_cases c1 : 0 ≤ getI P a
  ·simp only [show decide (getI P a ≥ 0) = true by simpa using c1, Z2, Option.bind_some, cond_true, show decide (0 ≤ getI P a) = true by simpa using c1, Bool.true_and]
   by_cases c2 : 0 ≤ getI P b
   ·rw [if_pos (by simpa using c2), H0 (by simp; omega), Option.bind_some, ih _ (by simp; omega)]
    simp [c2]
   ·rw [if_neg (by simpa using c2), ih _ (by omega)]
    simp [c2]
  ·simp only [show decide (getI P a ≥ 0) = false by simpa using c1, J2, Option.bind_some, cond_false, show decide (0 ≤ getI P a) = false by simpa using c1, Bool.false_and]
   rw [if_neg (by simp), ih _ (by omega)]
theorem S0i (r : Int) (n : Nat) (es : List B0) (o : List Int) (hn : inN n es) (ho : inV n o) (hn2 : n ≤ 1000000) (hl : es.length ≤ 1099511627776) (hl2 : o.length ≤ 1099511627776) :
  a00 (r, (n : Int), es) o = some (s02 (r, (n : Int), es) o) := by
 unfold a00
 have h2 := l0g n (by omega) n 0 T0 (by omega) (M1 (by omega))
 have h1 := m0g o ho (by omega) o.length 0 T0 (List.replicate n (-1)) (by simp) (by omega) (M1 (by omega))
 have h0 := n0g es hn hl (plc n o) (k0g n o) r ((o.length : Nat) : Int) es.length 0 T0 [] (by omega) (M1 (by omega)) (Nat.le_refl _)
 rw [show ((0 : Nat) : Int) = 0 from rfl] at h0 h1 h2
 rw [List.replicate_zero, List.nil_append] at h2
 rw [List.drop_zero] at h1
 rw [List.drop_zero, List.nil_append] at h0
 simp only [Int.toNat_natCast]
 rw [H0 (by omega), Option.bind_some, Option.bind_some, List.length_replicate, H0 (by omega), Option.bind_some, h2, Option.bind_some, h1, Option.bind_some]
 rw [show O01 (List.replicate n (-1)) 0 o = plc n o from rfl, h0]
 simp only [Option.bind_some]
 rw [I0d _ (by have := c0f (plc n o) es; omega), Option.bind_some]
 rfl
theorem T0i (A : List Int) (i k : Nat) : (A.map (· + 1)).set i (((k + 1 : Nat) : Int)) = (A.set i (k : Int)).map (· + 1) := by
 rw [List.map_set]; rfl
theorem O09 {A : List Int} {n : Nat} (hA : A.length = n) {x : Int} (h0 : 0 ≤ x) (h1 : x < n) : gi (A.map (· + 1)) x = some (getI A x + 1) := by
 have hk : x.toNat < A.length := by omega
 have e : x = ((x.toNat : Nat) : Int) := by omega
 have h2 : gi (A.map (· + 1)) ((x.toNat : Nat) : Int) = some (getI A x + 1) := by
  rw [u07, List.getElem?_map, List.getElem?_eq_getElem hk]
  unfold getI
  rw [List.getD_eq_getElem?_getD, List.getElem?_eq_getElem hk]; rfl
 rw [← e] at h2; exact h2
theorem U0i (r : Int) (n : Nat) (es : List B0) (o : List Int) (ho : inV n o) (hd' : o.Nodup) (hn2 : 1 ≤ n ∧ n ≤ 1000000) (hl : o.length ≤ 1099511627776) : ∀ (d k fuel : Nat) (A : List Int), A.length = n → (∀ x, 0 ≤ x → -1 ≤ getI A x ∧ getI A x ≤ 1099511627776) → (∀ x ∈ o.drop k, getI A x = -1) → k + d = o.length → d < fuel →
  L3 o (n : Int) r es fuel (k : Int) (A.map (· + 1)) = some (.inr ((O01 A k (o.drop k)).map (· + 1)))
 | d, k, 0, A, hA, hr, hm, hd, hf => by omega
 | 0, k, fuel + 1, A, hA, hr, hm, hd, hf => by
  rw [L3.eq_2, if_neg (by simp; omega), Y1 (by omega)]; rfl
 | d + 1, k, fuel + 1, A, hA, hr, hm, hd, hf => by
  have hk : k < o.length := by omega
  have hx := P6 hk
  have hin := ho _ (List.mem_of_getElem? hx)
  have hdr := O2 hx
  generalize o[k] = v at hx hin hdr
  have hnd : (o.drop k).Nodup := hd'.sublist (List.drop_sublist _ _)
  rw [hdr] at hnd hm
  have hA0 := hm v (List.mem_cons_self ..)
  have ih := U0i r n es o ho hd' hn2 hl d (k + 1) fuel (A.set v.toNat (k : Int)) (by simp [hA]) (fun x hx => by
   rw [P01 hin.1 (by omega) hx]; have := hr x hx; split <;> omega) (fun x hx => by
   have hx0 := ho x (List.mem_of_mem_drop hx)
   rw [P01 hin.1 (by omega) hx0.1, if_neg (fun e => (List.nodup_cons.1 hnd).1 (by rw [← e]; exact hx))]
   exact hm x (List.mem_cons_of_mem _ hx)) (by omega) (by omega)
  rw [L3.eq_2, if_pos (by simp; omega), hdr, R3 hx]
  simp only [Option.bind_some, l04, w64 (show -9223372036854775808 ≤ (n : Int) - 1 by omega) (show (n : Int) - 1 ≤ 9223372036854775807 by omega), inR, show decide (0 ≤ v) = true by simpa using hin.1, show decide (v ≤ (n : Int) - 1) = true by simp; omega, Bool.and_self, Bool.not_true, Bool.not_false, Z2, O09 hA hin.1 hin.2, hA0, cond_false]
  rw [if_neg (by decide), L2 hk (by omega), T0i, ih]
  rfl
theorem V0i (es : List B0) {n : Nat} (hn : inN n es) (hl : es.length ≤ 1099511627776) (P : List Int) (hP : P.length = n) (hr : ∀ x, 0 ≤ x → -1 ≤ getI P x ∧ getI P x ≤ 1099511627776) (r m : Int) : ∀ (d k fuel : Nat) (acc : List B0), k + d = es.length → d < fuel → acc.length ≤ k →
  j3 es (P.map (· + 1)) fuel (k : Int) r m acc = some (r, m, w9 C1 acc (pE P (es.drop k)))
 | d, k, 0, acc, hd, hf, ha => by omega
 | 0, k, fuel + 1, acc, hd, hf, ha => by
  rw [j3.eq_2, if_neg (by simp; omega), Y1 (by omega)]; rfl
 | d + 1, k, fuel + 1, acc, hd, hf, ha => by
  have hk : k < es.length := by omega
  have he := P6 hk
  have hin := hn _ (List.mem_of_getElem? he)
  generalize es[k] = e at he hin
  obtain ⟨a, l, b⟩ := e
  have ih := fun acc' h => V0i es hn hl P hP hr r m d (k + 1) fuel acc' (by omega) (by omega) h
  have ra := hr a hin.1.1
  have rb := hr b hin.2.1
  rw [j3.eq_2, if_pos (by simp; omega), O2 he]
  simp only [R3 he, Option.bind_some, O09 hP hin.1.1 hin.1.2, O09 hP hin.2.1 hin.2.2, L2 hk (show es.length ≤ 9223372036854775807 by omega), pE]
  by_cases c1 : 0 ≤ getI P a
  ·simp only [show decide (getI P a + 1 > 0) = true by simp; omega, Z2, Option.bind_some, cond_true, show decide (0 ≤ getI P a) = true by simpa using c1, Bool.true_and]
   by_cases c2 : 0 ≤ getI P b
   ·rw [if_pos (by simp; omega), w64 (by omega) (by omega), w64 (by omega) (by omega), show getI P a + 1 - 1 = getI P a by omega, show getI P b + 1 - 1 = getI P b by omega]
    rw [f0k _ _ (by omega), Option.bind_some, ih _ (by have := A07 (getI P a, l, getI P b) acc; omega)]
    simp [c2, w9]
   ·rw [if_neg (by simp; omega), ih _ (by omega)]
    simp [c2]
  ·simp only [show decide (getI P a + 1 > 0) = false by simp; omega, J2, Option.bind_some, cond_false, show decide (0 ≤ getI P a) = false by simpa using c1, Bool.false_and]
   rw [if_neg (by simp), ih _ (by omega)]
theorem d0f (r : Int) (n : Nat) (es : List B0) (o : List Int) (hg : w4 (r, (n : Int), es) = true) (ho : inV n o) (hd : o.Nodup) (h1 : 1 ≤ o.length) (h2 : o.length ≤ n) :
  M6 (r, (n : Int), es) o = some (s02 (r, (n : Int), es) o, true) := by
 obtain ⟨q1, q2, q3, q4⟩ := R02 hg
 simp only at q2 q3 q4
 have hn : inN n es := fun e he => ⟨(q1 e he).1, (q1 e he).2.1⟩
 have hG := L00 (r, (n : Int), es) (by simp only; omega)
 unfold M6
 have e1 := U0i r n es o ho hd (by omega) (by omega) o.length 0 T0 (List.replicate n (-1)) (by simp) (fun x hx => by rw [M09]; omega) (fun x hx => M09 n x) (by omega) (M1 (by omega))
 have e0 := V0i es hn (by omega) (plc n o) (k0g n o) (fun x hx => by have := D07 ho hx; omega) r ((o.length : Nat) : Int) es.length 0 T0 [] (by omega) (M1 (by omega)) (Nat.le_refl _)
 rw [show ((0 : Nat) : Int) = 0 from rfl, List.drop_zero] at e0 e1
 rw [show (List.replicate n (-1 : Int)).map (· + 1) = List.replicate n 0 by simp] at e1
 rw [show O01 (List.replicate n (-1)) 0 o = plc n o from rfl] at e1
 have c1 : decide (((o.length : Nat) : Int) = 0) = false := decide_eq_false (by omega)
 have c2 : decide (((o.length : Nat) : Int) > (n : Int)) = false := decide_eq_false (by omega)
 simp only [hG, hg, Option.bind_some, Bool.not_true, cond_false, Int.toNat_natCast, c1, c2]
 rw [if_neg (by simp), H0 (by omega), Option.bind_some, e1]
 simp only [Option.bind_some, T7, e0]
 rfl
end Go.Proofs.YtknoadmdnjaocaaGreat
namespace Go.Proofs.YtknoadmdnjaocaaGreat
open Go.H
set_option linter.unusedVariables false
set_option linter.unusedSimpArgs false
theorem R7 : ∀ (n : Nat) (o : List Int), o.Nodup → inV n o → o.length ≤ n
 | 0, [], _, _ => Nat.le_refl _
 | 0, x :: r, _, h => by have := h x (List.mem_cons_self ..); omega
 | n + 1, o, hd, h => by
  have h1 : inV n (o.erase (n : Int)) := fun x hx => by
   obtain ⟨hne, hm⟩ := (List.Nodup.mem_erase_iff hd).1 hx
   have := h x hm; omega
  have h2 := R7 n _ (hd.erase _) h1
  by_cases hm : (n : Int) ∈ o
  ·rw [List.length_erase_of_mem hm] at h2; omega
  ·rw [List.erase_of_not_mem hm] at h2; omega
def i6 : Nat → Nat → List Int
 | 0, _ => []
 | d + 1, i => (i : Int) :: -(i : Int) :: i6 d (i + 1)
theorem Q01 : ∀ d i, (i6 d i).length = 2 * d
 | 0, i => rfl
 | d + 1, i => by simp only [i6, List.length_cons, Q01 d]; omega
theorem p0c : ∀ (d i : Nat), i + d ≤ 1000 → ∀ x ∈ i6 d i, E4 x
 | 0, i, h, x, hx => nomatch hx
 | d + 1, i, h, x, hx => by
  simp only [i6, List.mem_cons] at hx
  rcases hx with rfl | rfl | hx
  ·exact ⟨⟨by omega, by omega⟩, by omega⟩
  ·exact ⟨⟨by omega, by omega⟩, by omega⟩
  ·exact p0c d (i + 1) (by omega) x hx
theorem W0i (R : Nat) (hR : R ≤ 900) : ∀ (d i fuel : Nat) (acc : List Int), i + d = R + 1 → d < fuel → acc.length + 2 * d ≤ 10000 →
  H5 (R : Int) fuel (i : Int) acc = some (acc ++ i6 d i)
 | d, i, 0, acc, hd, hf, ha => by omega
 | 0, i, fuel + 1, acc, hd, hf, ha => by
  rw [H5.eq_2, if_neg (by simp; omega)]; simp [i6]
 | d + 1, i, fuel + 1, acc, hd, hf, ha => by
  have ih := W0i R hR d (i + 1) fuel (acc ++ [(i : Int), -(i : Int)]) (by omega) (by omega) (by simp; omega)
  have w1 : IntKind.i64.wrap (0 - (i : Int)) = -(i : Int) := by rw [w64 (by omega) (by omega)]; omega
  rw [H5.eq_2, if_pos (by simp; omega), w1, H0 (by simp; omega), Option.bind_some, L2 (show i < 1000 by omega) (by omega), ih]
  simp [i6]
theorem X0i (R : Nat) (hR : R ≤ 900) : ∀ (d i fuel : Nat) (acc : List Int), i + d = R + 1 → d < fuel → acc.length + 2 * d ≤ 10000 →
  O4 (R : Int) fuel (i : Int) acc = some (acc ++ i6 d i)
 | d, i, 0, acc, hd, hf, ha => by omega
 | 0, i, fuel + 1, acc, hd, hf, ha => by
  rw [O4.eq_2, if_neg (by simp; omega)]; simp [i6]
 | d + 1, i, fuel + 1, acc, hd, hf, ha => by
  have ih := X0i R hR d (i + 1) fuel ((acc ++ [(i : Int)]) ++ [-(i : Int)]) (by omega) (by omega) (by simp; omega)
  have w1 : IntKind.i64.wrap (0 - (i : Int)) = -(i : Int) := by rw [w64 (by omega) (by omega)]; omega
  rw [O4.eq_2, if_pos (by simp; omega), w1, H0 (by simp; omega), Option.bind_some, H0 (by simp; omega), Option.bind_some, L2 (show i < 1000 by omega) (by omega), ih]
  simp [i6]
theorem Y0i (R : Nat) (hR : R ≤ 900) : h8 (R : Int) = some (i6 R 1) := by
 unfold h8
 rw [show (1 : Int) = ((1 : Nat) : Int) from rfl, W0i R hR R 1 T0 [] (by omega) (M1 (by omega)) (by simp; omega)]; rfl
theorem Z0i (R : Nat) (hR : R ≤ 900) : l6 (R : Int) = some (i6 R 1) := by
 unfold l6
 rw [show (1 : Int) = ((1 : Nat) : Int) from rfl, X0i R hR R 1 T0 [] (by omega) (M1 (by omega)) (by simp; omega)]; rfl
def G05 (u : List Int) (x : Int) : List Int := if 0 ≤ x ∧ x ∉ u then u ++ [x] else u
def g01 (g : j0) (v : Int) : List Int → List Int → List Int
 | [], u => u
 | x :: r, u => g01 g v r (G05 u (C0 g v x))
def S7 (g : j0) (ls : List Int) : Nat → Nat → List Int → List Int
 | 0, i, u => u
 | f + 1, i, u => match u[i]? with
  | some v => S7 g ls f (i + 1) (g01 g v ls u)
  | none => u
def gud (n : Nat) (u : List Int) : Prop := u.Nodup ∧ inV n u
theorem a0j {n : Nat} {u : List Int} {x : Int} (h : gud n u) (hx : x = -1 ∨ (0 ≤ x ∧ x < (n : Int))) : gud n (G05 u x) := by
 unfold G05
 split
 ·rename_i hc
  refine ⟨List.nodup_append.2 ⟨h.1, by simp, fun a ha b hb => ?_⟩, fun y hy => ?_⟩
  ·simp at hb; subst hb; exact fun e => hc.2 (e ▸ ha)
  ·rcases List.mem_append.1 hy with hy | hy
   ·exact h.2 y hy
   ·simp at hy; subst hy; omega
 ·exact h
theorem P09 (u : List Int) (x : Int) : ∃ t, G05 u x = u ++ t := by
 unfold G05; split
 ·exact ⟨_, rfl⟩
 ·exact ⟨[], by simp⟩
theorem b00 (g : j0) (v : Int) : ∀ (ls u : List Int), ∃ t, g01 g v ls u = u ++ t
 | [], u => ⟨[], by simp [g01]⟩
 | x :: r, u => by
  obtain ⟨t1, e1⟩ := P09 u (C0 g v x)
  obtain ⟨t2, e2⟩ := b00 g v r (G05 u (C0 g v x))
  exact ⟨t1 ++ t2, by rw [g01, e2, e1, List.append_assoc]⟩
theorem S02 {r : Int} {n : Nat} {es : List B0} (hg : inG (r, (n : Int), es)) (v : Int) : ∀ (ls u : List Int), gud n u → gud n (g01 (r, (n : Int), es) v ls u)
 | [], u, h => h
 | x :: l, u, h => S02 hg v l _ (a0j h (i9 hg v x))
theorem Q09 {r : Int} {n : Nat} {es : List B0} (hg : inG (r, (n : Int), es)) (ls : List Int) : ∀ (f i : Nat) (u : List Int), gud n u → gud n (S7 (r, (n : Int), es) ls f i u)
 | 0, i, u, h => h
 | f + 1, i, u, h => by
  unfold S7
  split
  ·exact Q09 hg ls f _ _ (S02 hg _ _ _ h)
  ·exact h
theorem R09 (g : j0) (ls : List Int) : ∀ (f i : Nat) (u : List Int), u.length ≤ (S7 g ls f i u).length
 | 0, i, u => Nat.le_refl _
 | f + 1, i, u => by
  unfold S7
  split
  ·rename_i v _
   obtain ⟨t, e⟩ := b00 g v ls u
   have := R09 g ls f (i + 1) (g01 g v ls u)
   rw [e] at this ⊢; simp only [List.length_append] at this; omega
  ·exact Nat.le_refl _
theorem o0g (r : Int) (n : Nat) (es : List B0) (hg : inG (r, (n : Int), es)) (hn : n ≤ 40) (hes : es.length ≤ 1099511627776) (ls : List Int) (hls : ∀ x ∈ ls, E4 x) (hl : ls.length ≤ 1000000) (i : Nat) (v : Int) : ∀ (d k fuel : Nat) (u : List Int), gud n u → u[i]? = some v → k + d = ls.length → d < fuel →
  U2 ls (i : Int) r (n : Int) es fuel (k : Int) u = some (g01 (r, (n : Int), es) v (ls.drop k) u)
 | d, k, 0, u, hu, hi, hd, hf => by omega
 | 0, k, fuel + 1, u, hu, hi, hd, hf => by
  rw [U2.eq_2, if_neg (by simp; omega), Y1 (by omega)]; rfl
 | d + 1, k, fuel + 1, u, hu, hi, hd, hf => by
  have hk : k < ls.length := by omega
  have hx := P6 hk
  have hxm := hls _ (List.mem_of_getElem? hx)
  have hdr := O2 hx
  generalize ls[k] = x at hx hxm hdr
  have hlen := R7 n u hu.1 hu.2
  have hnx : C0 (r, (n : Int), es) v x = -1 ∨ (0 ≤ C0 (r, (n : Int), es) v x ∧ C0 (r, (n : Int), es) v x < (n : Int)) := i9 hg v x
  have hg2 := a0j hu hnx
  have hi2 : (G05 u (C0 (r, (n : Int), es) v x))[i]? = some v := by
   obtain ⟨t, e⟩ := P09 u (C0 (r, (n : Int), es) v x)
   rw [e, List.getElem?_append_left (List.getElem?_eq_some_iff.1 hi).1]; exact hi
  have ih := o0g r n es hg hn hes ls hls hl i v d (k + 1) fuel _ hg2 hi2 (by omega) (by omega)
  rw [U2.eq_2, if_pos (by simp; omega), hdr]
  simp only [R3 hi, R3 hx, Option.bind_some, E05 (r, (n : Int), es) v x hxm hes, H0 (o01 hg (show (n : Int) ≤ 40 by omega) v x), L2 hk (show ls.length ≤ 9223372036854775807 by omega), g01]
  rw [← ih]
  generalize C0 (r, (n : Int), es) v x = y at *
  unfold G05
  by_cases c1 : 0 ≤ y
  ·simp only [show decide (y ≥ 0) = true by simpa using c1, Z2, I06 u y (by omega), Option.bind_some, cond_true]
   by_cases c2 : y ∈ u
   ·rw [if_neg (by simp [c2]), if_neg (by simp [c2])]
   ·rw [if_pos (by simp [c2]), if_pos ⟨c1, c2⟩, H0 (by simp; omega), Option.bind_some]
  ·simp only [show decide (y ≥ 0) = false by simpa using c1, J2, Option.bind_some, cond_false]
   rw [if_neg (by simp), if_neg (fun h => c1 h.1)]
theorem p0g (r : Int) (n : Nat) (es : List B0) (hg : inG (r, (n : Int), es)) (hn : n ≤ 40) (hes : es.length ≤ 1099511627776) (ls : List Int) (hls : ∀ x ∈ ls, E4 x) (hl : ls.length ≤ 1000000) : ∀ (f i fuel : Nat) (u : List Int), gud n u → i ≤ u.length → n + 1 ≤ i + f → f < fuel →
  Z3 ls r (n : Int) es fuel (i : Int) u = some (S7 (r, (n : Int), es) ls f i u)
 | f, i, 0, u, hu, hi, hd, hf => by omega
 | 0, i, fuel + 1, u, hu, hi, hd, hf => by have := R7 n u hu.1 hu.2; omega
 | f + 1, i, fuel + 1, u, hu, hi, hd, hf => by
  have hlen := R7 n u hu.1 hu.2
  rw [Z3.eq_2, Option.bind_some, H0 (by omega), Option.bind_some]
  by_cases hk : i < u.length
  ·have hx := P6 hk
   generalize u[i] = v at hx
   have h0 := o0g r n es hg hn hes ls hls hl i v ls.length 0 T0 u hu hx (by omega) (M1 (by omega))
   rw [show ((0 : Nat) : Int) = 0 from rfl, List.drop_zero] at h0
   obtain ⟨t, e⟩ := b00 (r, (n : Int), es) v ls u
   have ih := p0g r n es hg hn hes ls hls hl f (i + 1) fuel _ (S02 hg v ls u hu) (by rw [e, List.length_append]; omega) (by omega) (by omega)
   rw [if_pos (by simpa using hk), h0, Option.bind_some, L2 hk (by omega), ih]
   simp only [S7, hx]
  ·have hx : u[i]? = none := List.getElem?_eq_none (by omega)
   rw [if_neg (by simpa using hk)]
   simp only [S7, hx]
def R8 (g : j0) : List Int := S7 g (i6 g.1.toNat 1) (g.2.1.toNat + 1) 0 [0]
theorem o0b {g : j0} (hf : I0 g = true) : gud g.2.1.toNat (R8 g) ∧ 1 ≤ (R8 g).length := by
 obtain ⟨h1, h2, h3, h4⟩ := U0 hf
 obtain ⟨r, n, es⟩ := g
 simp only at h2 h3 h4
 obtain ⟨N, rfl⟩ : ∃ N : Nat, n = (N : Int) := ⟨n.toNat, by omega⟩
 refine ⟨?_, ?_⟩
 ·exact Q09 h1 _ _ _ _ ⟨by simp, fun x hx => by simp at hx; subst hx; show (0 : Int) ≤ 0 ∧ (0 : Int) < (((N : Int).toNat : Nat) : Int); omega⟩
 ·exact R09 _ _ _ _ [0]
theorem L0d (g : j0) (hf : I0 g = true) : Z5 g = some (R8 g) := by
 obtain ⟨h1, h2, h3, h4⟩ := U0 hf
 have hF := n04 g (by omega)
 obtain ⟨r, n, es⟩ := g
 simp only at h2 h3 h4
 obtain ⟨N, rfl⟩ : ∃ N : Nat, n = (N : Int) := ⟨n.toNat, by omega⟩
 obtain ⟨R, rfl⟩ : ∃ R : Nat, r = (R : Int) := ⟨r.toNat, by omega⟩
 unfold Z5
 have h0 := p0g (R : Int) N es h1 (by omega) (by omega) (i6 R 1) (p0c R 1 (by omega)) (by rw [Q01]; omega) (N + 1) 0 T0 [0] ⟨by simp, fun x hx => by simp at hx; subst hx; omega⟩ (by simp) (by omega) (M1 (by omega))
 simp only [hF, hf, Option.bind_some, Bool.not_true, Z0i R (by omega)]
 rw [show ((0 : Nat) : Int) = 0 from rfl] at h0
 rw [if_neg (by simp), h0]
 rfl
theorem q0g {a : List Int} (la : a.length ≤ 1099511627776) : B8 a = some a := by
 unfold B8
 rw [H0 (by simp; omega)]; rfl
def X6 (W : List (Option (List Int))) (x : Int) : Option (List Int) := W.getD x.toNat none
theorem giO {W : List (Option (List Int))} {n : Nat} (hl : W.length = n) {x : Int} (h0 : 0 ≤ x) (h1 : x < n) : gi W x = some (X6 W x) := by
 have hk : x.toNat < W.length := by omega
 have e : x = ((x.toNat : Nat) : Int) := by omega
 have h2 : gi W ((x.toNat : Nat) : Int) = some (X6 W x) := by
  rw [u07, List.getElem?_eq_getElem hk]
  unfold X6
  rw [List.getD_eq_getElem?_getD, List.getElem?_eq_getElem hk]; rfl
 rw [← e] at h2; exact h2
theorem C8 {A : List (Option (List Int))} {v x : Int} {y : Option (List Int)} (h0 : 0 ≤ v) (h1 : v.toNat < A.length) (hx : 0 ≤ x) : X6 (A.set v.toNat y) x = if x = v then y else X6 A x := by
 unfold X6
 rw [List.getD_eq_getElem?_getD, List.getD_eq_getElem?_getD, List.getElem?_set]
 by_cases c : x = v
 ·rw [if_pos c, if_pos (by rw [c]), if_pos h1]; rfl
 ·rw [if_neg c, if_neg (by omega)]
structure WOk (n : Nat) (W : List (Option (List Int))) (u : List Int) : Prop where
 len : W.length = n
 iff : ∀ x, 0 ≤ x → x < (n : Int) → ((X6 W x).isNone = true ↔ x ∉ u)
 short : ∀ x, ((X6 W x).getD []).length ≤ u.length
theorem r0g (r : Int) (n : Nat) (es : List B0) (hg : inG (r, (n : Int), es)) (hn : n ≤ 40) (hes : es.length ≤ 1099511627776) (ls : List Int) (hls : ∀ x ∈ ls, E4 x) (hl : ls.length ≤ 1000000) (v : Int) (hv : 0 ≤ v ∧ v < (n : Int)) : ∀ (d k fuel : Nat) (W : List (Option (List Int))) (u : List Int), gud n u → WOk n W u → k + d = ls.length → d < fuel →
  ∃ W', D2 ls r (n : Int) es v fuel (k : Int) W u = some (W', g01 (r, (n : Int), es) v (ls.drop k) u) ∧ WOk n W' (g01 (r, (n : Int), es) v (ls.drop k) u)
 | d, k, 0, W, u, hu, hw, hd, hf => by omega
 | 0, k, fuel + 1, W, u, hu, hw, hd, hf => by
  rw [D2.eq_2, if_neg (by simp; omega), Y1 (by omega)]; exact ⟨W, rfl, hw⟩
 | d + 1, k, fuel + 1, W, u, hu, hw, hd, hf => by
  have hk : k < ls.length := by omega
  have hx := P6 hk
  have hxm := hls _ (List.mem_of_getElem? hx)
  have hdr := O2 hx
  generalize ls[k] = x at hx hxm hdr
  have hlen := R7 n u hu.1 hu.2
  have hnx : C0 (r, (n : Int), es) v x = -1 ∨ (0 ≤ C0 (r, (n : Int), es) v x ∧ C0 (r, (n : Int), es) v x < (n : Int)) := i9 hg v x
  have hg2 := a0j hu hnx
  have ih := fun W' h => r0g r n es hg hn hes ls hls hl v hv d (k + 1) fuel W' _ hg2 h (by omega) (by omega)
  rw [D2.eq_2, if_pos (by simp; omega), hdr]
  simp only [R3 hx, Option.bind_some, r03 (r, (n : Int), es) v x hxm hes, H0 (o01 hg (show (n : Int) ≤ 40 by omega) v x), L2 hk (show ls.length ≤ 9223372036854775807 by omega), g01]
  generalize C0 (r, (n : Int), es) v x = y at *
  by_cases c1 : 0 ≤ y
  ·have hy : y < (n : Int) := by omega
   simp only [show decide (y ≥ 0) = true by simpa using c1, Z2, giO hw.len c1 hy, Option.bind_some, cond_true]
   by_cases c2 : y ∈ u
   ·have : ¬ ((X6 W y).isNone = true) := fun h => (hw.iff y c1 hy).1 h c2
    have e : G05 u y = u := if_neg fun h => h.2 c2
    rw [if_neg this]
    rw [e] at ih ⊢
    exact ih W hw
   ·have : (X6 W y).isNone = true := (hw.iff y c1 hy).2 c2
    have e : G05 u y = u ++ [y] := if_pos ⟨c1, c2⟩
    have hs := hw.short v
    rw [if_pos this, giO hw.len hv.1 hv.2, Option.bind_some, q0g (by omega), Option.bind_some, H0 (by simp; omega), Option.bind_some, H0 (by simp; omega), Option.bind_some]
    rw [e] at ih ⊢
    refine ih _ ⟨by simp [hw.len], fun z h0 h1 => ?_, fun z => ?_⟩
    ·rw [C8 c1 (by have := hw.len; omega) h0]
     by_cases c : z = y
     ·rw [if_pos c]; simp [c]
     ·rw [if_neg c, hw.iff z h0 h1]; simp [c]
    ·by_cases hz : 0 ≤ z
     ·rw [C8 c1 (by have := hw.len; omega) hz]
      by_cases c : z = y
      ·rw [if_pos c]; simp; exact hs
      ·rw [if_neg c]; have := hw.short z; simp only [List.length_append]; omega
     ·have hz0 : X6 (W.set y.toNat (some ((X6 W v).getD [] ++ [x]))) z = X6 (W.set y.toNat (some ((X6 W v).getD [] ++ [x]))) 0 := by
       unfold X6; rw [show z.toNat = (0 : Int).toNat by omega]
      rw [hz0, C8 c1 (by have := hw.len; omega) (Int.le_refl 0)]
      by_cases c : (0 : Int) = y
      ·rw [if_pos c]; simp; exact hs
      ·rw [if_neg c]; have := hw.short 0; simp only [List.length_append]; omega
  ·have e : G05 u y = u := if_neg fun h => c1 h.1
   simp only [show decide (y ≥ 0) = false by simpa using c1, J2, Option.bind_some, cond_false]
   rw [if_neg (by simp)]
   rw [e] at ih ⊢
   exact ih W hw
theorem s0g (R n : Nat) (hR : R ≤ 900) (es : List B0) (hg : inG ((R : Int), (n : Int), es)) (hn : n ≤ 40) (hes : es.length ≤ 1099511627776) : ∀ (f i fuel : Nat) (W : List (Option (List Int))) (u : List Int), gud n u → WOk n W u → i ≤ u.length → n + 1 ≤ i + f → f < fuel →
  ∃ W', U3 (R : Int) (n : Int) es fuel (i : Int) W u = some (W', S7 ((R : Int), (n : Int), es) (i6 R 1) f i u)
 | f, i, 0, W, u, hu, hw, hi, hd, hf => by omega
 | 0, i, fuel + 1, W, u, hu, hw, hi, hd, hf => by have := R7 n u hu.1 hu.2; omega
 | f + 1, i, fuel + 1, W, u, hu, hw, hi, hd, hf => by
  have hlen := R7 n u hu.1 hu.2
  rw [U3.eq_2, Option.bind_some, H0 (by omega), Option.bind_some]
  by_cases hk : i < u.length
  ·have hx := P6 hk
   have hv := hu.2 _ (List.mem_of_getElem? hx)
   generalize u[i] = v at hx hv
   obtain ⟨W1, h0, hw1⟩ := r0g (R : Int) n es hg hn hes (i6 R 1) (p0c R 1 (by omega)) (by rw [Q01]; omega) v hv (i6 R 1).length 0 T0 W u hu hw (by omega) (M1 (by rw [Q01]; omega))
   rw [show ((0 : Nat) : Int) = 0 from rfl, List.drop_zero] at h0
   rw [List.drop_zero] at hw1
   obtain ⟨t, e⟩ := b00 ((R : Int), (n : Int), es) v (i6 R 1) u
   obtain ⟨W2, ih⟩ := s0g R n hR es hg hn hes f (i + 1) fuel W1 _ (S02 hg v _ u hu) hw1 (by rw [e, List.length_append]; omega) (by omega) (by omega)
   rw [if_pos (by simpa using hk), R3 hx, Option.bind_some, Y0i R hR, Option.bind_some, h0, Option.bind_some]
   simp only [L2 hk (show u.length ≤ 9223372036854775807 by omega), ih, S7, hx]
   exact ⟨_, rfl⟩
  ·have hx : u[i]? = none := List.getElem?_eq_none (by omega)
   rw [if_neg (by simpa using hk)]
   simp only [S7, hx]
   exact ⟨_, rfl⟩
theorem M0d (g : j0) (hf : I0 g = true) : d6 g = some (R8 g) := by
 obtain ⟨h1, h2, h3, h4⟩ := U0 hf
 have hF := l00 g (by omega)
 obtain ⟨r, n, es⟩ := g
 simp only at h2 h3 h4
 obtain ⟨N, rfl⟩ : ∃ N : Nat, n = (N : Int) := ⟨n.toNat, by omega⟩
 obtain ⟨R, rfl⟩ : ∃ R : Nat, r = (R : Int) := ⟨r.toNat, by omega⟩
 unfold d6
 have hrep : ∀ x, X6 (List.replicate N (none : Option (List Int))) x = none := fun x => by
  unfold X6
  rw [List.getD_eq_getElem?_getD, List.getElem?_replicate]; split <;> rfl
 have hW : WOk N ((List.replicate N (none : Option (List Int))).set (0 : Int).toNat (some [])) [0] := by
  refine ⟨by simp, fun x h0 h1 => ?_, fun x => ?_⟩
  ·rw [C8 (Int.le_refl 0) (by simp; omega) h0]
   by_cases c : x = 0
   ·rw [if_pos c]; simp [c]
   ·rw [if_neg c, hrep]; simp [c]
  ·by_cases hz : 0 ≤ x
   ·rw [C8 (Int.le_refl 0) (by simp; omega) hz]
    split
    ·simp
    ·rw [hrep]; simp
   ·have : X6 ((List.replicate N (none : Option (List Int))).set (0 : Int).toNat (some [])) x = X6 ((List.replicate N (none : Option (List Int))).set (0 : Int).toNat (some [])) 0 := by
     unfold X6; rw [show x.toNat = (0 : Int).toNat by omega]
    rw [this, C8 (Int.le_refl 0) (by simp; omega) (Int.le_refl 0), if_pos rfl]; simp
 obtain ⟨W', h0⟩ := s0g R N (by omega) es h1 (by omega) (by omega) (N + 1) 0 T0 _ [0] ⟨by simp, fun x hx => by simp at hx; subst hx; omega⟩ hW (by simp) (by omega) (M1 (by omega))
 have hg0 : gi (List.replicate N (none : Option (List Int))) 0 = some none := by
  rw [K0i (x := none)]; rw [List.getElem?_replicate, if_pos (by omega)]
 simp only [hF, hf, Option.bind_some, Bool.not_true, n5, Int.toNat_natCast]
 rw [if_neg (by simp), H0 (by omega), Option.bind_some, hg0, Option.bind_some]
 rw [show ((0 : Nat) : Int) = 0 from rfl] at h0
 rw [h0]
 rfl
def q01 (g : j0) : j0 := s02 g (R8 g)
theorem N0d (g : j0) (hf : I0 g = true) : g6 g = some (q01 g) := by
 obtain ⟨h1, h2, h3, h4⟩ := U0 hf
 have hF := l00 g (by omega)
 have hO := M0d g hf
 obtain ⟨ho, ho1⟩ := o0b hf
 have hle := R7 _ _ ho.1 ho.2
 obtain ⟨r, n, es⟩ := g
 simp only at h2 h3 h4
 obtain ⟨N, rfl⟩ : ∃ N : Nat, n = (N : Int) := ⟨n.toNat, by omega⟩
 simp only [Int.toNat_natCast] at ho hle
 have hp := S0i r N es (R8 (r, (N : Int), es)) (fun e he => ⟨(h1 e he).1, (h1 e he).2.1⟩) ho.2 (by omega) (by omega) (by omega)
 unfold g6
 simp only [hF, hf, Option.bind_some, Bool.not_true, hO, hp]
 rfl
theorem O0d (g : j0) (hf : I0 g = true) : c6 g = some (q01 g) := by
 obtain ⟨h1, h2, h3, h4⟩ := U0 hf
 have hG : w4 g = true := by
  unfold I0 at hf; exact (Bool.and_eq_true _ _ ▸ hf).1
 have hO := L0d g hf
 obtain ⟨ho, ho1⟩ := o0b hf
 have hle := R7 _ _ ho.1 ho.2
 obtain ⟨r, n, es⟩ := g
 simp only at h2 h3 h4
 obtain ⟨N, rfl⟩ : ∃ N : Nat, n = (N : Int) := ⟨n.toNat, by omega⟩
 simp only [Int.toNat_natCast] at ho hle
 have hp := d0f r N es (R8 (r, (N : Int), es)) hG ho.2 ho.1 ho1 hle
 unfold c6
 simp only [Option.bind_some, hO, hp]
 rw [if_neg (by simp; intro h; rw [h] at ho1; simp at ho1)]
 rfl
end Go.Proofs.YtknoadmdnjaocaaGreat
namespace Go.Proofs.YtknoadmdnjaocaaGreat
open Go.H
set_option linter.unusedVariables false
set_option linter.unusedSimpArgs false
def lf (bad : Nat → Bool) : Nat → Nat → Option Nat
 | 0, v => none
 | d + 1, v => bif bad v then some v else lf bad d (v + 1)
theorem S09 {bad : Nat → Bool} : ∀ (d v k : Nat), lf bad d v = some k → v ≤ k ∧ k < v + d
 | 0, v, k, h => by cases h
 | d + 1, v, k, h => by
  unfold lf at h
  cases hb : bad v
  ·rw [hb] at h; have := S09 d (v + 1) k h; omega
  ·rw [hb] at h; cases h; omega
theorem P0d {b1 b2 : Nat → Bool} : ∀ (d v : Nat), (∀ k, v ≤ k → k < v + d → b1 k = b2 k) → lf b1 d v = lf b2 d v
 | 0, v, h => rfl
 | d + 1, v, h => by unfold lf; rw [h v (Nat.le_refl _) (by omega), P0d d (v + 1) fun k h1 h2 => h k (by omega) (by omega)]
def t0h (es : List B0) : List Int := itS es (es.length + 1) [0]
def q0a (es : List B0) (v : Nat) : Bool := decide (d01 (v : Int) es < 2) || !decide ((v : Int) ∈ t0h es)
def t02 (g : j0) : Option Nat := lf (q0a g.2.2) (g.2.1.toNat - 1) 1
theorem e0f (g : j0) (hg : w4 g = true) : n7 g 0 = some (t0h g.2.2) ∧ (t0h g.2.2).length ≤ 100000 := by
 obtain ⟨h1, h2, h3, h4⟩ := R02 hg
 have hq := L00 g (by omega)
 obtain ⟨r, n, es⟩ := g
 simp only at h2 h3 h4
 unfold n7 t0h
 have hl := K09 es h4 (es.length + 1) 0 T0 [0] (by omega) (M1 (by omega)) (by simp)
 have hlen := g0g es (es.length + 1) [0]
 refine ⟨?_, ?_⟩
 ·rw [show ((0 : Nat) : Int) = 0 from rfl] at hl
  simp only [hq, hg, Option.bind_some, Bool.not_true, Bool.not_false, Z2, l04, inR, w64 (show -9223372036854775808 ≤ n - 1 by omega) (show n - 1 ≤ 9223372036854775807 by omega)]
  rw [if_neg (by simp; omega), hl]; rfl
 ·have : (es.length + 1) * (2 * es.length) ≤ 121 * 240 := Nat.mul_le_mul (by omega) (by omega)
  simp only [List.length_singleton] at hlen
  simp only
  omega
theorem b0j (r : Int) (n : Nat) (es : List B0) (hes : es.length ≤ 1000) (u : List Int) (hu : u.length ≤ 100000) (hn : n ≤ 40) : ∀ (d v fuel : Nat), v + d = n ∨ (d = 0 ∧ n ≤ v) → v ≤ 1000 → d < fuel →
  T5 (n : Int) r es u fuel (v : Int) = some (match lf (fun v => decide (d01 (v : Int) es < 2) || !decide ((v : Int) ∈ u)) d v with | some k => .inl (k : Int) | none => .inr ())
 | d, v, 0, hd, hv, hf => by omega
 | 0, v, fuel + 1, hd, hv, hf => by
  rw [T5.eq_2, if_neg (by simp; omega)]; rfl
 | d + 1, v, fuel + 1, hd, hv, hf => by
  have ih := b0j r n es hes u hu hn d (v + 1) fuel (by omega) (by omega) (by omega)
  have hdeg := m0c (v : Int) es
  rw [T5.eq_2, if_pos (by simp; omega), i0b (r, (n : Int), es) _ (by simp only; omega), Option.bind_some, H0 (c64 (by simp only; omega) (by simp only; omega)), Option.bind_some, L2 (show v < 10000 by omega) (by omega)]
  unfold lf
  by_cases c1 : d01 (v : Int) es < 2
  ·have e1 : decide (((d01 (v : Int) es : Nat) : Int) < 2) = true := decide_eq_true (by omega)
   simp only [e1, Bool.not_true, J2, Option.bind_some, cond_true, if_true, decide_eq_true c1, Bool.true_or]
  ·have e1 : decide (((d01 (v : Int) es : Nat) : Int) < 2) = false := decide_eq_false (by omega)
   simp only [e1, Bool.not_false, Z2, I06 u _ (show u.length ≤ 9223372036854775807 by omega), Option.bind_some, cond_false, decide_eq_false c1, Bool.false_or]
   by_cases c2 : (v : Int) ∈ u
   ·simp only [decide_eq_true c2, Bool.not_true, Bool.false_eq_true, if_false, cond_false]; exact ih
   ·simp only [decide_eq_false c2, Bool.not_false, if_true, cond_true]
theorem i0l (g : j0) (hg : w4 g = true) : C9 g = some (match t02 g with | some k => (k : Int) | none => -1) := by
 obtain ⟨e1, e2⟩ := e0f g hg
 obtain ⟨h1, h2, h3, h4⟩ := R02 hg
 obtain ⟨r, n, es⟩ := g
 simp only at h2 h3 h4 e1 e2
 obtain ⟨N, rfl⟩ : ∃ N : Nat, n = (N : Int) := ⟨n.toNat, by omega⟩
 unfold C9 t02
 have hl := b0j r N es (by omega) (t0h es) e2 (by omega) (N - 1) 1 T0 (by omega) (by omega) (M1 (by omega))
 simp only [e1, Option.bind_some, Int.toNat_natCast]
 rw [show (1 : Int) = ((1 : Nat) : Int) from rfl, hl]
 rw [show (fun v : Nat => decide (d01 (v : Int) es < 2) || !decide ((v : Int) ∈ t0h es)) = q0a es from rfl]
 cases lf (q0a es) (N - 1) 1 <;> rfl
theorem t0g (r : Int) (n : Nat) (es : List B0) (hes : es.length ≤ 1000) (S : List Bool) (hS : S.length = n) (hn : n ≤ 40) : ∀ (d v fuel : Nat), 1 ≤ v → v + d = n ∨ (d = 0 ∧ n ≤ v) → v ≤ 1000 → d + 1 < fuel →
  C3 (n : Int) r es S fuel 0 (v : Int) = some (match lf (fun v => decide (d01 (v : Int) es < 2) || !w7 S (v : Int)) d v with | some k => (k : Int) | none => 0)
 | d, v, 0, h1, hd, hv, hf => by omega
 | 0, v, fuel + 1, h1, hd, hv, hf => by
  have e : decide ((v : Int) < (n : Int)) = false := decide_eq_false (by omega)
  rw [C3.eq_2, if_neg (by rw [e]; simp)]; rfl
 | d + 1, v, fuel + 1, h1, hd, hv, hf => by
  have ih := t0g r n es hes S hS hn d (v + 1) fuel (by omega) (by omega) (by omega) (by omega)
  have hdeg := m0c (v : Int) es
  have e : decide ((v : Int) < (n : Int)) = true := decide_eq_true (by omega)
  have hfin : ∀ w : Int, C3 (n : Int) r es S fuel (v : Int) w = some (v : Int) := fun w => by
   obtain _ | fuel := fuel
   ·omega
   ·have e2 : decide ((v : Int) = 0) = false := decide_eq_false (by omega)
    have e3 : ∀ b : Bool, (bif b then false else false) = false := fun b => by cases b <;> rfl
    rw [C3.eq_2, if_neg (by rw [e2, e3]; simp)]
  rw [C3.eq_2, if_pos (by rw [e]; rfl), p0h (r, (n : Int), es) _ (by simp only; omega), Option.bind_some, H0 (c64 (by simp only; omega) (by simp only; omega)), Option.bind_some, L2 (show v < 10000 by omega) (by omega)]
  unfold lf
  by_cases c1 : d01 (v : Int) es < 2
  ·have e1 : decide (((d01 (v : Int) es : Nat) : Int) < 2) = true := decide_eq_true (by omega)
   simp only [e1, Bool.not_true, J2, Option.bind_some, cond_true, if_true, decide_eq_true c1, Bool.true_or, hfin]
  ·have e1 : decide (((d01 (v : Int) es : Nat) : Int) < 2) = false := decide_eq_false (by omega)
   simp only [e1, Bool.not_false, Z2, giB hS (show (0 : Int) ≤ (v : Int) by omega) (show (v : Int) < (n : Int) by omega), Option.bind_some, cond_false, decide_eq_false c1, Bool.false_or]
   cases hb : w7 S (v : Int)
   ·simp only [Bool.not_false, if_true, cond_true, hfin]
   ·simp only [Bool.not_true, Bool.false_eq_true, if_false, cond_false]; exact ih
def wo (g : Nat) : Nat → Nat → List Int
 | 0, k => []
 | d + 1, k => if k = g then wo g d (k + 1) else (k : Int) :: wo g d (k + 1)
theorem c0j (g : Nat) : ∀ (d k : Nat), (wo g d k).length = d - (if k ≤ g ∧ g < k + d then 1 else 0)
 | 0, k => by simp [wo]
 | d + 1, k => by
  have ih := c0j g d (k + 1)
  unfold wo
  by_cases c : k = g
  ·rw [if_pos c, ih, if_neg (by omega), if_pos (by omega)]; omega
  ·rw [if_neg c, List.length_cons, ih]
   by_cases c2 : k + 1 ≤ g ∧ g < k + 1 + d
   ·rw [if_pos c2, if_pos (by omega)]; omega
   ·rw [if_neg c2, if_neg (by omega)]; omega
theorem F0k (g n : Nat) : ∀ (d k : Nat), k + d ≤ n → inV n (wo g d k)
 | 0, k, h => fun x hx => nomatch hx
 | d + 1, k, h => by
  have ih := F0k g n d (k + 1) (by omega)
  unfold wo
  split
  ·exact ih
  ·intro x hx
   rcases List.mem_cons.1 hx with rfl | hx
   ·omega
   ·exact ih x hx
theorem u0g (n g : Nat) (hn : n ≤ 1000) : ∀ (d k fuel : Nat) (acc : List Int), k + d = n → d < fuel → acc.length ≤ k →
  B4 (n : Int) (g : Int) fuel (k : Int) acc = some (acc ++ wo g d k)
 | d, k, 0, acc, hd, hf, ha => by omega
 | 0, k, fuel + 1, acc, hd, hf, ha => by
  rw [B4.eq_2, if_neg (by simp; omega)]; simp [wo]
 | d + 1, k, fuel + 1, acc, hd, hf, ha => by
  have ih := fun acc' h => u0g n g hn d (k + 1) fuel acc' (by omega) (by omega) h
  rw [B4.eq_2, if_pos (by simp; omega), L2 (show k < 10000 by omega) (by omega)]
  unfold wo
  by_cases c : k = g
  ·have e : decide ((k : Int) = (g : Int)) = true := decide_eq_true (by omega)
   rw [e, if_neg (by simp), if_pos c, ih _ (by omega)]
  ·have e : decide ((k : Int) = (g : Int)) = false := decide_eq_false (by omega)
   rw [e, if_pos (show (!false) = true from rfl), if_neg c, H0 (by simp; omega), Option.bind_some, ih _ (by simp; omega)]
   simp
theorem v0g (n : Nat) (hn : n ≤ 1000) : ∀ (d k fuel : Nat) (acc : List Int), k + d = n → d < fuel → acc.length = k →
  ∃ u, Q4 (n : Int) fuel (k : Int) acc = some u ∧ u.length = n
 | d, k, 0, acc, hd, hf, ha => by omega
 | 0, k, fuel + 1, acc, hd, hf, ha => by
  rw [Q4.eq_2, if_neg (by simp; omega)]; exact ⟨_, rfl, by omega⟩
 | d + 1, k, fuel + 1, acc, hd, hf, ha => by
  obtain ⟨u, e1, e2⟩ := v0g n hn d (k + 1) fuel (acc ++ [(k : Int)]) (by omega) (by omega) (by simp; omega)
  rw [Q4.eq_2, if_pos (by simp; omega), L2 (show k < 10000 by omega) (by omega), H0 (by simp; omega), Option.bind_some, e1]
  exact ⟨u, rfl, e2⟩
theorem d0j {α : Type} {xs : List α} {k : Nat} (h : k ≤ xs.length) : V04 xs 0 (k : Int) = some (xs.take k) := by
 unfold V04
 rw [if_pos (by omega)]; rfl
theorem w0g : ∀ (n fuel : Nat) (left : List Int) (r : Int) (es : List B0), 1 ≤ n → n ≤ 40 → inN n es → es.length ≤ 120 → left.length = n → n < fuel →
  ∃ (g' : j0) (l' : List Int), D5 fuel left r (n : Int) es = some (.inl (g', l')) ∧ g'.2.1 ≤ (n : Int) ∧ (g'.2.1 = (n : Int) ↔ lf (q0a es) (n - 1) 1 = none)
 | n, 0, left, r, es, h1, h2, hn, hes, hl, hf => by omega
 | n, fuel + 1, left, r, es, h1, h2, hn, hes, hl, hf => by
  obtain ⟨S, eS, lS, hS⟩ := O0i r n es hn (by omega) h1 (by omega)
  have ht1 := t0g r n es (by omega) S lS h2 (n - 1) 1 T0 (Nat.le_refl _) (by omega) (by omega) (M1 (by omega))
  have hcg : lf (fun v => decide (d01 (v : Int) es < 2) || !w7 S (v : Int)) (n - 1) 1 = lf (q0a es) (n - 1) 1 := P0d _ _ fun k k1 k2 => by
   unfold q0a
   have := hS (k : Int) (by omega) (by omega)
   have h3 := o0c es 0 (k : Int)
   congr 2
   cases hb : w7 S (k : Int)
   ·symm; exact decide_eq_false fun h => by rw [this.2 (h3.1 h)] at hb; cases hb
   ·symm; exact decide_eq_true (h3.2 (this.1 hb))
  rw [hcg] at ht1
  rw [D5.eq_2, eS, Option.bind_some, show (1 : Int) = ((1 : Nat) : Int) from rfl, ht1, Option.bind_some]
  cases hlf : lf (q0a es) (n - 1) 1 with
  | none =>
   exact ⟨(r, (n : Int), es), left, by rw [if_pos (by rfl)], Int.le_refl _, by simp⟩
  | some k =>
   have hk := S09 _ _ _ hlf
   have e0 : decide ((k : Int) = 0) = false := decide_eq_false (by omega)
   have ho := F0k k n n 0 (by omega)
   have hlen := c0j k n 0
   rw [if_pos (by omega)] at hlen
   have ht0 := u0g n k (by omega) n 0 T0 [] (by omega) (M1 (by omega)) (Nat.le_refl _)
   rw [show ((0 : Nat) : Int) = 0 from rfl, List.nil_append] at ht0
   have hp := S0i r n es (wo k n 0) hn ho (by omega) (by omega) (by omega)
   have hpl := N09 (r, (n : Int), es) (wo k n 0)
   have hpi := s0h (r := r) ho hn
   have hw : IntKind.i64.wrap ((k : Int) + ((1 : Nat) : Int)) = ((k + 1 : Nat) : Int) := by rw [w64 (by omega) (by omega)]; rfl
   obtain ⟨g', l', q1, q2, q3⟩ := w0g (n - 1) fuel (left.take k ++ left.drop (k + 1)) r (s02 (r, (n : Int), es) (wo k n 0)).2.2 (by omega) (by omega) (by rw [hlen] at hpi; exact hpi) (by simp only at hpl; omega) (by simp only [List.length_append, List.length_take, List.length_drop]; omega) (by omega)
   refine ⟨g', l', ?_, by omega, ?_⟩
   ·simp only [e0, Bool.false_eq_true, if_false, ht0, Option.bind_some, hp]
    rw [show s02 (r, (n : Int), es) (wo k n 0) = (r, ((n - 1 : Nat) : Int), (s02 (r, (n : Int), es) (wo k n 0)).2.2) by rw [← hlen]; rfl]
    simp only [hw]
    rw [d0j (by omega), Option.bind_some, F05 (by omega), Option.bind_some, H0 (by simp only [List.length_take, List.length_drop]; omega), Option.bind_some, q1]
   ·constructor
    ·intro h; omega
    ·intro h; cases h
theorem f0f (g : j0) (hg : w4 g = true) : ∃ (g' : j0) (l' : List Int), i8 g = some (g', l') ∧ (g'.2.1 = g.2.1 ↔ t02 g = none) := by
 obtain ⟨h1, h2, h3, h4⟩ := R02 hg
 have hq := l05 g (by omega)
 have hc := G09 g (by omega)
 obtain ⟨r, n, es⟩ := g
 simp only at h2 h3 h4
 obtain ⟨N, rfl⟩ : ∃ N : Nat, n = (N : Int) := ⟨n.toNat, by omega⟩
 have hn : inN N es := fun e he => ⟨(h1 e he).1, (h1 e he).2.1⟩
 obtain ⟨u, e1, e2⟩ := v0g N (by omega) N 0 T0 [] (by omega) (M1 (by omega)) rfl
 obtain ⟨g', l', q1, q2, q3⟩ := w0g N T0 u r es (by omega) (by omega) hn h4 e2 (M1 (by omega))
 refine ⟨g', l', ?_, ?_⟩
 ·unfold i8
  rw [show ((0 : Nat) : Int) = 0 from rfl] at e1
  simp only [hc, Option.bind_some, hq, hg, Bool.not_true, Bool.false_eq_true, if_false, e1, q1, T7]
 ·simp only [t02, Int.toNat_natCast]; exact q3
def j1 (g : j0) : Bool := I0 g && ((t02 g).isNone && H0d (q01 g) g)
theorem t03 {g : j0} (h : I0 g = true) : w4 g = true := by
 unfold I0 at h; exact (Bool.and_eq_true _ _ ▸ h).1
theorem p0b {g : j0} (hf : I0 g = true) : (q01 g).2.2.length ≤ 120 := by
 have := N09 g (R8 g)
 have := (U0 hf).2.2.2
 unfold q01; omega
theorem m00 (g : j0) (hl : g.2.2.length ≤ 140737488355328) : K5 g = some (j1 g) := by
 have hF := l00 g hl
 unfold j1
 by_cases hf : I0 g = true
 ·obtain ⟨g', l', e1, e2⟩ := f0f g (t03 hf)
  have hC := N0d g hf
  have hE := q0h (q01 g) g (by have := p0b hf; omega)
  obtain ⟨r, n, es⟩ := g
  obtain ⟨r', n', es'⟩ := g'
  unfold K5
  simp only at e2
  generalize q01 (r, n, es) = C at *
  obtain ⟨c1, c2, c3⟩ := C
  simp only [hF, hf, Option.bind_some, Bool.not_true, Bool.false_eq_true, if_false, e1, hC]
  by_cases c : n' = n
  ·have := e2.1 c
   simp only [decide_eq_true c, Z2, Option.bind_some, hE, cond_true, this, Option.isNone_none, Bool.true_and]
  ·have hne : (t02 (r, n, es)).isNone = false := by
    cases hq : t02 (r, n, es) with
    | none => exact absurd (e2.2 hq) c
    | some k => rfl
   simp only [decide_eq_false c, J2, Option.bind_some, cond_false, hne, Bool.false_and, Bool.and_false]
 ·have hf' : I0 g = false := Bool.eq_false_iff.2 hf
  obtain ⟨r, n, es⟩ := g
  unfold K5
  simp only [hF, hf', Option.bind_some, Bool.not_false, if_true, Bool.false_and]
theorem u03 (g : j0) (hl : g.2.2.length ≤ 140737488355328) : H8 g = some (j1 g) := by
 have hF := n04 g hl
 unfold j1
 by_cases hf : I0 g = true
 ·have hL := i0l g (t03 hf)
  have hC := O0d g hf
  have hE := r0h (q01 g) g (by have := p0b hf; omega)
  obtain ⟨h1, h2, h3, h4⟩ := U0 hf
  obtain ⟨r, n, es⟩ := g
  unfold H8
  generalize q01 (r, n, es) = C at *
  obtain ⟨c1, c2, c3⟩ := C
  simp only [hF, hf, Option.bind_some, Z2, hL, cond_true]
  cases hq : t02 (r, n, es) with
  | none =>
   simp only [H0 (show P0 (-1) by decide), Option.bind_some, show decide ((-1 : Int) < 0) = true from rfl, Z2, hC, hE, cond_true, Option.isNone_none, Bool.true_and]
  | some k =>
   have hk := S09 _ _ _ hq
   simp only at h3
   simp only at hk
   have e0 : decide ((k : Int) < 0) = false := decide_eq_false (by omega)
   simp only [H0 (show P0 (k : Int) from c64 (by omega) (by omega)), Option.bind_some, e0, J2, cond_false, Option.isNone_some, Bool.false_and, Bool.and_false]
 ·have hf' : I0 g = false := Bool.eq_false_iff.2 hf
  obtain ⟨r, n, es⟩ := g
  unfold H8
  simp only [hF, hf', Option.bind_some, J2, H0 (show P0 0 by decide), cond_false, Bool.false_and]
end Go.Proofs.YtknoadmdnjaocaaGreat
namespace Go.Proofs.YtknoadmdnjaocaaGreat
open Go.H
set_option linter.unusedVariables false
set_option linter.unusedSimpArgs false
theorem x0g {s : ByteArray} {k : Nat} (h : k < s.size) : ∃ c, sgi s (k : Int) = some c := by
 unfold sgi
 rw [if_pos (by omega), Int.toNat_natCast]
 exact ⟨_, getElem?_pos s k h⟩
def chB (s : ByteArray) (k : Nat) : Nat := match sgi s (k : Int) with
 | some c => c.toNat
 | none => 0
def j0l (c k : Nat) : Bool := !(decide (97 ≤ c) && decide (c ≤ 122)) && (decide (k = 0) || !(decide (48 ≤ c) && decide (c ≤ 57)))
def okN (s : ByteArray) : Nat → Nat → Bool
 | 0, k => true
 | d + 1, k => bif j0l (chB s k) k then false else okN s d (k + 1)
def X00 (s : ByteArray) : Bool := inR 1 8 ((s.size : Nat) : Int) && okN s s.size 0
theorem y0g (s : ByteArray) (hl : s.size ≤ 9223372036854775807) : ∀ (d k fuel : Nat), k + d = s.size → d < fuel →
  U5 s fuel (k : Int) = some (bif okN s d k then .inr () else .inl false)
 | d, k, 0, hd, hf => by omega
 | 0, k, fuel + 1, hd, hf => by
  rw [U5.eq_2, if_neg (by simp; omega)]; rfl
 | d + 1, k, fuel + 1, hd, hf => by
  have hk : k < s.size := by omega
  obtain ⟨c, hc⟩ := x0g hk
  have ih := y0g s hl d (k + 1) fuel (by omega) (by omega)
  have hb : chB s k = c.toNat := by unfold chB; rw [hc]
  rw [U5.eq_2, if_pos (by simp; omega), hc]
  simp only [Option.bind_some, okN, hb, j0l, L2 hk hl, ih]
  have nd : ∀ (p q : Prop) [Decidable p] [Decidable q], (p ↔ ¬ q) → decide p = !decide q := fun p q _ _ h => by
   by_cases c : q
   ·rw [decide_eq_true c, decide_eq_false (fun hp => h.1 hp c)]; rfl
   ·rw [decide_eq_false c, decide_eq_true (h.2 c)]; rfl
  have t1 : decide (((c.toNat : Nat) : Int) < 97) = !decide (97 ≤ c.toNat) := nd _ _ (by omega)
  have t2 : decide (((c.toNat : Nat) : Int) > 122) = !decide (c.toNat ≤ 122) := nd _ _ (by omega)
  have t3 : decide (((c.toNat : Nat) : Int) < 48) = !decide (48 ≤ c.toNat) := nd _ _ (by omega)
  have t4 : decide (((c.toNat : Nat) : Int) > 57) = !decide (c.toNat ≤ 57) := nd _ _ (by omega)
  have t5 : decide ((k : Int) = 0) = decide (k = 0) := by congr 1; simp
  have fin : ∀ (b : Bool) (x y : Option (Bool ⊕ Unit)), (if b = true then x else y) = bif b then x else y := fun b x y => by cases b <;> rfl
  have hz : decide (((0 : UInt8).toNat : Int) > 122) = false := rfl
  rw [t1, t5]
  cases h1 : decide (97 ≤ c.toNat) <;> cases h2 : decide (c.toNat ≤ 122) <;> cases h3 : decide (48 ≤ c.toNat) <;> cases h4 : decide (c.toNat ≤ 57) <;>
   simp only [Z2, J2, Option.bind_some, t2, t3, t4, h2, h3, h4, cond_true, cond_false, Bool.not_true, Bool.not_false, Bool.false_and, Bool.true_and, Bool.and_true, Bool.and_false, Bool.and_self, Bool.true_or, Bool.false_or, Bool.or_true, Bool.or_false, fin] <;>
   cases decide (k = 0) <;> cases okN s d (k + 1) <;> rfl
theorem z0g (s : ByteArray) (hl : s.size ≤ 9223372036854775807) : ∀ (d k fuel : Nat), k + d = s.size → d < fuel →
  V5 s fuel (k : Int) = some (bif okN s d k then .inr () else .inl false)
 | d, k, 0, hd, hf => by omega
 | 0, k, fuel + 1, hd, hf => by
  rw [V5.eq_2, if_neg (by simp; omega)]; rfl
 | d + 1, k, fuel + 1, hd, hf => by
  have hk : k < s.size := by omega
  obtain ⟨c, hc⟩ := x0g hk
  have ih := z0g s hl d (k + 1) fuel (by omega) (by omega)
  have hb : chB s k = c.toNat := by unfold chB; rw [hc]
  rw [V5.eq_2, if_pos (by simp; omega), hc]
  simp only [Option.bind_some, okN, hb, j0l, L2 hk hl, ih]
  have t1 : decide (((c.toNat : Nat) : Int) ≥ 97) = decide (97 ≤ c.toNat) := by congr 1; simp; omega
  have t2 : decide (((c.toNat : Nat) : Int) ≤ 122) = decide (c.toNat ≤ 122) := by congr 1; simp; omega
  have t3 : decide (((c.toNat : Nat) : Int) ≥ 48) = decide (48 ≤ c.toNat) := by congr 1; simp; omega
  have t4 : decide (((c.toNat : Nat) : Int) ≤ 57) = decide (c.toNat ≤ 57) := by congr 1; simp; omega
  have t5 : decide ((k : Int) = 0) = decide (k = 0) := by congr 1; simp
  rw [t1, t3, t5]
  have fin : ∀ (b : Bool) (x y : Option (Bool ⊕ Unit)), (if b = true then x else y) = bif b then x else y := fun b x y => by cases b <;> rfl
  cases h1 : decide (97 ≤ c.toNat) <;> cases h3 : decide (48 ≤ c.toNat) <;> cases h5 : decide (k = 0) <;>
   simp only [Z2, J2, Option.bind_some, t2, t4, cond_true, cond_false, Bool.not_true, Bool.not_false, Bool.false_and, Bool.true_and, Bool.true_or, Bool.false_or, Bool.and_true, fin] <;>
   cases decide (c.toNat ≤ 122) <;> cases decide (c.toNat ≤ 57) <;> cases okN s d (k + 1) <;> rfl
theorem q0c (s : ByteArray) (hl : s.size ≤ 9223372036854775807) : D9 s = some (X00 s) := by
 unfold D9 X00
 have h := y0g s hl s.size 0 T0 (by omega) (by unfold T0; omega)
 rw [show ((0 : Nat) : Int) = 0 from rfl] at h
 rw [h, Option.bind_some]
 cases okN s s.size 0
 ·simp [T7]
 ·simp [T7, l04]
theorem r0c (s : ByteArray) (hl : s.size ≤ 9223372036854775807) : E9 s = some (X00 s) := by
 unfold E9 X00
 have h := z0g s hl s.size 0 T0 (by omega) (by unfold T0; omega)
 rw [show ((0 : Nat) : Int) = 0 from rfl] at h
 rw [m04, Option.bind_some]
 cases inR 1 8 ((s.size : Nat) : Int)
 ·rfl
 ·rw [if_neg (by simp), h, Option.bind_some]
  cases okN s s.size 0 <;> simp [T7]
def k0l (r : Int) (l : n3) (k : Nat) : Bool := match l[k]? with
 | some e => bif X00 e.1 then (bif j1 e.2 then (bif decide (e.2.1 = r) then (bif decide (0 < k) then (match l[k - 1]? with
  | some e' => !T0e e'.1 e.1
  | none => false) else false) else true) else true) else true
 | none => false
def okL (r : Int) (l : n3) : Nat → Nat → Bool
 | 0, k => true
 | d + 1, k => bif k0l r l k then false else okL r l d (k + 1)
def d7 (x : L1) : Bool := inR 1 3 x.1 && (decide (x.2.length ≤ 16) && okL x.1 x.2 x.2.length 0)
def T09 (l : n3) : Prop := l.length ≤ 140737488355328 ∧ ∀ e ∈ l, e.1.size ≤ 140737488355328 ∧ e.2.2.2.length ≤ 140737488355328
theorem A0g {r : Int} {l : n3} {k : Nat} {e : T9} (he : l[k]? = some e) : k0l r l k = bif X00 e.1 then (bif j1 e.2 then (bif decide (e.2.1 = r) then (bif decide (0 < k) then (match l[k - 1]? with
  | some e' => !T0e e'.1 e.1
  | none => false) else false) else true) else true) else true := by unfold k0l; rw [he]
theorem e0j (r : Int) (l : n3) (hl : T09 l) : ∀ (d k fuel : Nat), k + d = l.length → d < fuel →
  R4 l r fuel (k : Int) = some (bif okL r l d k then .inr () else .inl false)
 | d, k, 0, hd, hf => by omega
 | 0, k, fuel + 1, hd, hf => by
  rw [R4.eq_2, if_neg (by simp; omega)]; rfl
 | d + 1, k, fuel + 1, hd, hf => by
  have hk : k < l.length := by omega
  have he := P6 hk
  have hin := hl.2 _ (List.mem_of_getElem? he)
  have hlen := hl.1
  generalize l[k] = e at he hin
  obtain ⟨nm, r2, n, es⟩ := e
  simp only at hin
  have ih := e0j r l hl d (k + 1) fuel (by omega) (by omega)
  rw [R4.eq_2, if_pos (by simp; omega)]
  simp only [R3 he, Option.bind_some, r0c nm (by omega), L2 hk (show l.length ≤ 9223372036854775807 by omega), ih, okL, A0g he]
  have hC := m00 (r2, n, es) hin.2
  have fin : ∀ (b : Bool) (x y : Option (Bool ⊕ Unit)), (if b = true then x else y) = bif b then x else y := fun b x y => by cases b <;> rfl
  have fo : ∀ b : Bool, (b || true) = true := fun b => by cases b <;> rfl
  cases hN : X00 nm
  ·simp only [Bool.not_false, Bool.not_true, Bool.and_false, J2, Option.bind_some, cond_true, cond_false, if_true]
  ·by_cases hk0 : k = 0
   ·subst hk0
    have e0 : decide (((0 : Nat) : Int) > 0) = false := rfl
    have e0' : decide (0 < 0) = false := rfl
    simp only [e0, e0', Bool.not_true, Bool.not_false, Bool.false_and, J2, Option.bind_some, cond_true, cond_false, fin]
    cases hR : decide (r2 = r)
    ·simp only [Bool.not_false, J2, Bool.not_true, Option.bind_some, cond_true, cond_false]
     cases j1 (r2, n, es) <;> rfl
    ·simp only [Bool.not_true, Bool.not_false, Z2, hC, Option.bind_some, cond_true, cond_false]
     cases j1 (r2, n, es) <;> cases okL r l d (0 + 1) <;> rfl
   ·have hk1 : k - 1 < l.length := by omega
    have he1 := P6 hk1
    generalize l[k - 1] = e' at he1
    obtain ⟨nm', r', n', es'⟩ := e'
    have e0 : decide ((k : Int) > 0) = true := decide_eq_true (by omega)
    have e0' : decide (0 < k) = true := decide_eq_true (by omega)
    simp only [e0, e0', Bool.not_true, Bool.not_false, Bool.true_and, Z2, C0d (show 0 < k by omega) (show k ≤ 9223372036854775807 by omega), R3 he1, he1, Option.bind_some, cond_true, cond_false, fin]
    cases hS : T0e nm' nm
    ·simp only [Bool.not_false, J2, Bool.not_true, Option.bind_some, cond_true, cond_false]
     cases j1 (r2, n, es) <;> cases decide (r2 = r) <;> rfl
    ·cases hR : decide (r2 = r)
     ·simp only [Bool.not_false, J2, Bool.not_true, Option.bind_some, cond_true, cond_false]
      cases j1 (r2, n, es) <;> rfl
     ·simp only [Bool.not_true, Bool.not_false, Z2, hC, Option.bind_some, cond_true, cond_false]
      cases j1 (r2, n, es) <;> cases okL r l d (k + 1) <;> rfl
theorem f0j (r : Int) (l : n3) (hl : T09 l) : ∀ (d k fuel : Nat), k + d = l.length → d < fuel →
  P4 l r fuel (k : Int) = some (bif okL r l d k then .inr () else .inl false)
 | d, k, 0, hd, hf => by omega
 | 0, k, fuel + 1, hd, hf => by
  rw [P4.eq_2, if_neg (by simp; omega)]; rfl
 | d + 1, k, fuel + 1, hd, hf => by
  have hk : k < l.length := by omega
  have he := P6 hk
  have hin := hl.2 _ (List.mem_of_getElem? he)
  have hlen := hl.1
  generalize l[k] = e at he hin
  obtain ⟨nm, r2, n, es⟩ := e
  simp only at hin
  have ih := f0j r l hl d (k + 1) fuel (by omega) (by omega)
  have hC : M3 (r2, n, es) = some (j1 (r2, n, es)) := by
   unfold M3
   simp only [u03 (r2, n, es) hin.2, Option.bind_some]
  rw [P4.eq_2, if_pos (by simp; omega)]
  simp only [R3 he, Option.bind_some, q0c nm (by omega), L2 hk (show l.length ≤ 9223372036854775807 by omega), ih, okL, A0g he]
  have fin : ∀ (b : Bool) (x y : Option (Bool ⊕ Unit)), (if b = true then x else y) = bif b then x else y := fun b x y => by cases b <;> rfl
  cases hN : X00 nm
  ·simp only [Bool.not_false, Bool.not_true, Bool.and_false, J2, Option.bind_some, cond_true, cond_false, if_true]
  ·simp only [Bool.not_true, Bool.not_false, Z2, hC, Option.bind_some, cond_false, cond_true]
   cases hQ : j1 (r2, n, es)
   ·simp only [Bool.not_false, Bool.not_true, Bool.and_false, J2, Option.bind_some, cond_true, cond_false, if_true]
   ·cases hR : decide (r2 = r)
    ·simp only [Bool.not_false, Bool.not_true, Bool.and_false, J2, Option.bind_some, cond_true, cond_false, if_true]
    ·by_cases hk0 : k = 0
     ·subst hk0
      have e0 : decide (((0 : Nat) : Int) > 0) = false := rfl
      have e0' : decide (0 < 0) = false := rfl
      simp only [e0, e0', Bool.not_true, Bool.not_false, Bool.false_and, J2, Option.bind_some, cond_true, cond_false, fin]
      try (cases okL r l d (0 + 1) <;> rfl)
     ·have hk1 : k - 1 < l.length := by omega
      have he1 := P6 hk1
      generalize l[k - 1] = e' at he1
      obtain ⟨nm', r', n', es'⟩ := e'
      have e0 : decide ((k : Int) > 0) = true := decide_eq_true (by omega)
      have e0' : decide (0 < k) = true := decide_eq_true (by omega)
      simp only [e0, e0', Bool.not_true, Bool.not_false, Bool.and_true, Bool.true_and, Z2, C0d (show 0 < k by omega) (show k ≤ 9223372036854775807 by omega), R3 he1, he1, Option.bind_some, cond_true, cond_false, fin]
      cases T0e nm' nm <;> cases okL r l d (k + 1) <;> rfl
theorem k08 (x : L1) (hl : T09 x.2) : j8 x = some (d7 x) := by
 obtain ⟨r, l⟩ := x
 have h := e0j r l hl l.length 0 T0 (by omega) (M1 hl.1)
 rw [show ((0 : Nat) : Int) = 0 from rfl] at h
 unfold j8 d7
 simp only [m04, Option.bind_some]
 have t1 : decide (((l.length : Nat) : Int) > 16) = !decide (l.length ≤ 16) := by
  by_cases c : l.length ≤ 16
  ·rw [decide_eq_true c, decide_eq_false (by omega)]; rfl
  ·rw [decide_eq_false c, decide_eq_true (by omega)]; rfl
 rw [t1]
 cases inR 1 3 r
 ·rfl
 ·cases decide (l.length ≤ 16)
  ·rfl
  ·simp only [Bool.not_true, cond_false, Bool.false_eq_true, if_false, h, Option.bind_some, Bool.true_and]
   cases okL r l l.length 0 <;> rfl
theorem A03 (x : L1) (hl : T09 x.2) : g8 x = some (d7 x) := by
 obtain ⟨r, l⟩ := x
 have h := f0j r l hl l.length 0 T0 (by omega) (M1 hl.1)
 rw [show ((0 : Nat) : Int) = 0 from rfl] at h
 unfold g8 d7
 simp only [l04, h, Option.bind_some]
 have t1 : decide (((l.length : Nat) : Int) ≤ 16) = decide (l.length ≤ 16) := by
  by_cases c : l.length ≤ 16
  ·rw [decide_eq_true c, decide_eq_true (by omega)]
  ·rw [decide_eq_false c, decide_eq_false (by omega)]
 rw [t1]
 cases okL r l l.length 0
 ·cases inR 1 3 r <;> cases decide (l.length ≤ 16) <;> rfl
 ·cases inR 1 3 r <;> cases decide (l.length ≤ 16) <;> rfl
end Go.Proofs.YtknoadmdnjaocaaGreat
namespace Go.Proofs.YtknoadmdnjaocaaGreat
open Go.H
set_option linter.unusedVariables false
set_option linter.unusedSimpArgs false
def R01 (l : n3) : Prop := l.length ≤ 1048576 ∧ ∀ e ∈ l, e.1.size ≤ 1048576 ∧ e.2.2.2.length ≤ 1048576
theorem R01.ok {l : n3} (h : R01 l) : T09 l := ⟨by have := h.1; omega, fun e he => by have := h.2 e he; omega⟩
def fnd (s : ByteArray) (l : n3) : Nat → Nat → Option Nat
 | 0, k => none
 | d + 1, k => match l[k]? with
  | some e => bif h0c e.1 s then some k else fnd s l d (k + 1)
  | none => none
def H05 (x : L1) (s : ByteArray) : Option Nat := fnd s x.2 x.2.length 0
theorem Q0d {s : ByteArray} {l : n3} : ∀ (d k i : Nat), fnd s l d k = some i → k ≤ i ∧ (∃ e, l[i]? = some e ∧ e.1 = s) ∧ ∀ j, k ≤ j → j < i → ∀ e, l[j]? = some e → e.1 ≠ s
 | 0, k, i, h => by cases h
 | d + 1, k, i, h => by
  unfold fnd at h
  cases he : l[k]? with
  | none => rw [he] at h; cases h
  | some e =>
   rw [he] at h
   simp only at h
   cases hb : h0c e.1 s
   ·rw [hb] at h
    obtain ⟨h1, h2, h3⟩ := Q0d d (k + 1) i h
    refine ⟨by omega, h2, fun j hj hji e' he' => ?_⟩
    by_cases c : j = k
    ·subst c; rw [he] at he'; cases he'
     intro h; rw [a0b.2 h] at hb; cases hb
    ·exact h3 j (by omega) hji e' he'
   ·rw [hb] at h; cases h
    exact ⟨Nat.le_refl _, ⟨e, he, a0b.1 hb⟩, fun j h1 h2 => by omega⟩
theorem g0j (l : n3) (s : ByteArray) (hl : l.length ≤ 9223372036854775807) : ∀ (d k fuel : Nat), k + d = l.length → d < fuel →
  T3 l s fuel (k : Int) = some (match fnd s l d k with | some i => .inl (i : Int) | none => .inr ())
 | d, k, 0, hd, hf => by omega
 | 0, k, fuel + 1, hd, hf => by
  rw [T3.eq_2, if_neg (by simp; omega)]; rfl
 | d + 1, k, fuel + 1, hd, hf => by
  have hk : k < l.length := by omega
  have he := P6 hk
  generalize l[k] = e at he
  obtain ⟨nm, r2, n, es⟩ := e
  have ih := g0j l s hl d (k + 1) fuel (by omega) (by omega)
  rw [T3.eq_2, if_pos (by simp; omega)]
  simp only [R3 he, Option.bind_some, L2 hk hl, ih, fnd, he]
  cases h0c nm s <;> rfl
theorem l0l (x : L1) (s : ByteArray) (hl : x.2.length ≤ 9223372036854775807) : U6 x s = some (match H05 x s with | some i => (i : Int) | none => -1) := by
 obtain ⟨r, l⟩ := x
 have h := g0j l s hl l.length 0 T0 (by omega) (by unfold T0; simp only at hl; omega)
 rw [show ((0 : Nat) : Int) = 0 from rfl] at h
 unfold U6 H05
 simp only [h, Option.bind_some]
 cases fnd s l l.length 0 <;> rfl
theorem g0k {x : L1} {s : ByteArray} {i : Nat} (h : H05 x s = some i) : i < x.2.length := by
 obtain ⟨_, ⟨e, he, _⟩, _⟩ := Q0d _ _ _ h
 exact (List.getElem?_eq_some_iff.1 he).1
end Go.Proofs.YtknoadmdnjaocaaGreat
namespace Go.Proofs.YtknoadmdnjaocaaGreat
open Go.H
set_option linter.unusedVariables false
set_option linter.unusedSimpArgs false
theorem R0d {α : Type} {cf : α → α → Int} (h : z7 cf) : ∀ {l : List α}, (∀ i x y, l[i]? = some x → l[i + 1]? = some y → cf x y < 0) → Asc cf l
 | [], _ => List.Pairwise.nil
 | [x], _ => List.pairwise_singleton _ _
 | x :: y :: l, hn => by
  have ih : Asc cf (y :: l) := R0d h fun i a b ha hb => hn (i + 1) a b (by simpa using ha) (by simpa using hb)
  have hxy := hn 0 x y rfl rfl
  refine List.pairwise_cons.2 ⟨fun z hz => ?_, ih⟩
  rcases List.mem_cons.1 hz with rfl | hz
  ·exact hxy
  ·exact h.trans _ _ _ hxy ((List.pairwise_cons.1 ih).1 z hz)
theorem h0j {α : Type} {cf : α → α → Int} : ∀ {l : List α}, Asc cf l → ∀ {i : Nat} {x y : α}, l[i]? = some x → l[i + 1]? = some y → cf x y < 0
 | [], _, i, x, y, hx, _ => by simp at hx
 | a :: l, h, 0, x, y, hx, hy => by
  simp at hx hy; subst hx
  exact (List.pairwise_cons.1 h).1 y (List.mem_of_getElem? hy)
 | a :: l, h, i + 1, x, y, hx, hy => h0j (List.pairwise_cons.1 h).2 (i := i) (by simpa using hx) (by simpa using hy)
theorem i0j {r hi : Int} {es : List B0} : ∀ {d k : Nat}, (∀ i, k ≤ i → i < k + d → M0i r hi es i = false) → okE r hi es d k = true
 | 0, k, h => rfl
 | d + 1, k, h => by
  simp only [okE, Bool.and_eq_true, Bool.not_eq_true']
  exact ⟨h k (Nat.le_refl _) (by omega), i0j fun i h1 h2 => h i (by omega) (by omega)⟩
theorem u0h (g : j0) : w4 g = true ↔ inG g ∧ (1 ≤ g.1 ∧ g.1 ≤ 3) ∧ (1 ≤ g.2.1 ∧ g.2.1 ≤ 40) ∧ g.2.2.length ≤ 120 ∧ Asc C1 g.2.2 := by
 constructor
 ·intro h
  obtain ⟨q1, q2, q3, q4⟩ := R02 h
  refine ⟨q1, q2, q3, q4, R0d P02 fun i x y hx hy => ?_⟩
  simp only [w4, Bool.and_eq_true] at h
  have hb := W0e h.1.1.1 (i + 1) (Nat.zero_le _) (by have := (List.getElem?_eq_some_iff.1 hy).1; omega)
  rw [A06 hy] at hb
  simp only [Nat.add_sub_cancel, hx, Bool.or_eq_false_iff] at hb
  have := hb.2
  simp only [show decide (0 < i + 1) = true by simp, Bool.true_and, decide_eq_false_iff_not] at this
  have e : w09 x y = C1 x y := rfl
  omega
 ·rintro ⟨q1, q2, q3, q4, q5⟩
  obtain ⟨r, n, es⟩ := g
  simp only at q2 q3 q4 q5
  simp only [w4, inR, Bool.and_eq_true, decide_eq_true_eq]
  refine ⟨⟨⟨i0j fun i _ hi => ?_, q2⟩, q3⟩, q4⟩
  have hx := P6 (show i < es.length by omega)
  generalize es[i] = e at hx
  rw [A06 hx]
  have he := q1 e (List.mem_of_getElem? hx)
  simp only at he
  simp only [Bool.or_eq_false_iff, Bool.not_eq_false', r02, inR, Bool.and_eq_true, decide_eq_true_eq]
  rw [w64 (by omega) (by omega)]
  refine ⟨⟨⟨⟨by omega, by omega⟩, by omega, by omega⟩, by omega, by omega⟩, ?_⟩
  cases i with
  | zero => rfl
  | succ j =>
   have hy := P6 (show j < es.length by omega)
   generalize es[j] = f at hy
   have := h0j q5 hy hx
   simp only [Nat.add_sub_cancel, hy]
   have e' : w09 f e = C1 f e := rfl
   simp [e']; omega
def j0j (a b : B0) : List (Int × Int) :=
 bif decide (a.2.1 = b.2.1) then (bif decide (a.1 = b.1) then [(if b.2.2 < a.2.2 then b.2.2 else a.2.2, if b.2.2 > a.2.2 then b.2.2 else a.2.2)] else []) ++ (bif decide (a.2.2 = b.2.2) then [(if b.1 < a.1 then b.1 else a.1, if b.1 > a.1 then b.1 else a.1)] else []) else []
def S0d (a : B0) : List B0 → List (Int × Int)
 | [] => []
 | b :: r => j0j a b ++ S0d a r
def T0d : List B0 → List (Int × Int)
 | [] => []
 | a :: r => S0d a r ++ T0d r
def okF (g : j0) (f : Int × Int) : Prop := 0 ≤ f.1 ∧ f.1 < f.2 ∧ f.2 < g.2.1
theorem v0h (a b : B0) : j0j a b = [] ↔ p01 a b = false := by
 unfold j0j p01
 cases decide (a.2.1 = b.2.1) <;> cases decide (a.1 = b.1) <;> cases decide (a.2.2 = b.2.2) <;> simp
theorem q0b (a : B0) : ∀ l, S0d a l = [] ↔ ∀ b ∈ l, p01 a b = false
 | [] => by simp [S0d]
 | b :: r => by
  rw [S0d, List.append_eq_nil_iff, v0h, q0b a r]
  simp
theorem E07 : ∀ l, T0d l = [] ↔ l.Pairwise fun a b => p01 a b = false
 | [] => by simp [T0d]
 | a :: r => by rw [T0d, List.append_eq_nil_iff, q0b, E07 r, List.pairwise_cons]
theorem g0f (g : j0) : I0 g = true ↔ w4 g = true ∧ T0d g.2.2 = [] := by
 unfold I0
 rw [Bool.and_eq_true, N04, E07]
end Go.Proofs.YtknoadmdnjaocaaGreat
namespace Go.Proofs.YtknoadmdnjaocaaGreat
open Go.H
set_option linter.unusedVariables false
set_option linter.unusedSimpArgs false
def stp (u x v : Int) : B0 := if x < 0 then (v, -x, u) else (u, x, v)
theorem m0l (u x v : Int) (hx : E4 x) : Y00 u x v = some (stp u x v) := by
 unfold Y00 stp
 by_cases c : x < 0
 ·rw [if_pos (by simp [c]), if_pos c, d0b hx.1 hx.2]
 ·rw [if_neg (by simp; omega), if_neg c]
end Go.Proofs.YtknoadmdnjaocaaGreat
namespace Go.Proofs.YtknoadmdnjaocaaGreat
open Go.H
set_option linter.unusedVariables false
set_option linter.unusedSimpArgs false
theorem B0g (es : List B0) (e : B0) (hl : es.length ≤ 140737488355328) : ∀ (d k fuel : Nat), k + d = es.length → d < fuel →
  ∃ X, Y0 es e.1 e.2.1 e.2.2 fuel (k : Int) = some X ∧ ((∃ i : Nat, X = .inl (i : Int) ∧ i < es.length ∧ e ∈ es.drop k) ∨ (X = .inr () ∧ e ∉ es.drop k))
 | d, k, 0, hd, hf => by omega
 | 0, k, fuel + 1, hd, hf => by
  rw [Y0.eq_2, if_neg (by simp; omega), Y1 (by omega)]
  exact ⟨_, rfl, .inr ⟨rfl, by simp⟩⟩
 | d + 1, k, fuel + 1, hd, hf => by
  have hk : k < es.length := by omega
  have hx := P6 hk
  generalize es[k] = b at hx
  rw [Y0.eq_2, if_pos (by simp; omega), R3 hx, Option.bind_some, O2 hx]
  simp only []
  by_cases c : eqE e b = true
  ·rw [if_pos c]
   refine ⟨_, rfl, .inl ⟨k, rfl, hk, ?_⟩⟩
   rw [(x08 _ _).1 c]
   exact List.mem_cons_self ..
  ·rw [if_neg c, L2 hk (by omega)]
   obtain ⟨X, h1, h2⟩ := B0g es e hl d (k + 1) fuel (by omega) (by omega)
   refine ⟨X, h1, ?_⟩
   have hne : e ≠ b := fun h => c ((x08 _ _).2 h)
   rcases h2 with ⟨i, q1, q2, q3⟩ | ⟨q1, q2⟩
   ·exact .inl ⟨i, q1, q2, List.mem_cons_of_mem _ q3⟩
   ·refine .inr ⟨q1, fun h => ?_⟩
    rcases List.mem_cons.1 h with h | h
    ·exact hne h
    ·exact q2 h
theorem h0f (es : List B0) (e : B0) (hl : es.length ≤ 140737488355328) : A2 es e = some (decide (e ∈ es)) := by
 obtain ⟨X, h1, h2⟩ := B0g es e hl es.length 0 T0 (by omega) (M1 hl)
 obtain ⟨e0, e1, e2⟩ := e
 unfold A2 P3
 simp only
 simp only [List.drop_zero] at h2
 rw [show (0 : Int) = ((0 : Nat) : Int) from rfl, h1]
 rcases h2 with ⟨i, rfl, q2, q3⟩ | ⟨rfl, q2⟩
 ·simp only [Option.bind_some, Q3]
  rw [H0 (show P0 ((i : Nat) : Int) from ⟨by omega, by omega⟩)]
  simp [q3]
 ·simp only [Option.bind_some, V0]
  rw [H0 (show P0 (-1) from ⟨by omega, by omega⟩)]
  simp [q2]
theorem U09 : ∀ (d i : Nat) (x : Int), x ∈ i6 d i → ∃ j : Nat, i ≤ j ∧ j < i + d ∧ (x = (j : Int) ∨ x = -(j : Int))
 | 0, i, x, h => by simp [i6] at h
 | d + 1, i, x, h => by
  simp only [i6, List.mem_cons] at h
  rcases h with rfl | rfl | h
  ·exact ⟨i, Nat.le_refl _, by omega, .inl rfl⟩
  ·exact ⟨i, Nat.le_refl _, by omega, .inr rfl⟩
  ·obtain ⟨j, h1, h2, h3⟩ := U09 d (i + 1) x h
   exact ⟨j, by omega, by omega, h3⟩
end Go.Proofs.YtknoadmdnjaocaaGreat
namespace Go.Proofs.YtknoadmdnjaocaaGreat
open Go.H
set_option linter.unusedVariables false
set_option linter.unusedSimpArgs false
theorem k0j {es : List B0} (h : es.Pairwise fun a b => p01 a b = false) {a b : B0} (ha : a ∈ es) (hb : b ∈ es) (hne : a ≠ b) : p01 a b = false := by
 induction es with
 | nil => cases ha
 | cons c r ih =>
  obtain ⟨h1, h2⟩ := List.pairwise_cons.1 h
  rcases List.mem_cons.1 ha with rfl | ha'
  ·rcases List.mem_cons.1 hb with rfl | hb'
   ·exact absurd rfl hne
   ·exact h1 b hb'
  ·rcases List.mem_cons.1 hb with rfl | hb'
   ·rw [y07]; exact h1 a ha'
   ·exact ih h2 ha' hb'
theorem h0k {es : List B0} (hA : Asc C1 es) (h : ∀ a ∈ es, ∀ b ∈ es, a ≠ b → p01 a b = false) : es.Pairwise fun a b => p01 a b = false := by
 induction es with
 | nil => exact .nil
 | cons c r ih =>
  obtain ⟨h1, h2⟩ := List.pairwise_cons.1 hA
  refine List.pairwise_cons.2 ⟨fun b hb => h c (List.mem_cons_self ..) b (List.mem_cons_of_mem _ hb) fun e => ?_, ih h2 fun a ha b hb => h a (List.mem_cons_of_mem _ ha) b (List.mem_cons_of_mem _ hb)⟩
  have := h1 b hb
  rw [e, P02.refl] at this; omega
theorem w0h {g : j0} (hg : w4 g = true) : I0 g = true ↔ ∀ a ∈ g.2.2, ∀ b ∈ g.2.2, a ≠ b → p01 a b = false := by
 rw [g0f, E07]
 exact ⟨fun h a ha b hb hne => k0j h.2 ha hb hne, fun h => ⟨hg, h0k (graph_asc' hg) h⟩⟩
where graph_asc' {g : j0} (h : w4 g = true) : Asc C1 g.2.2 := ((u0h g).1 h).2.2.2.2
end Go.Proofs.YtknoadmdnjaocaaGreat
namespace Go.Proofs.YtknoadmdnjaocaaGreat
open Go.H
set_option linter.unusedVariables false
set_option linter.unusedSimpArgs false
theorem x0h {g : j0} (hf : I0 g = true) {v x y z : Int} (hy : y ∈ A7 v x g.2.2) (hz : z ∈ A7 v x g.2.2) : y = z := by
 obtain ⟨e, he, h1⟩ := O5.1 hy
 obtain ⟨e', he', h2⟩ := O5.1 hz
 by_cases hne : e = e'
 ·subst hne
  rcases h1 with ⟨a, b, c, rfl⟩ | ⟨a, b, c, rfl⟩ <;> rcases h2 with ⟨a', b', c', rfl⟩ | ⟨a', b', c', rfl⟩ <;> first | rfl | omega
 ·have hc := (w0h (t03 hf)).1 hf e he e' he' hne
  unfold p01 at hc
  simp only [Bool.and_eq_false_iff, Bool.or_eq_false_iff, decide_eq_false_iff_not] at hc
  rcases h1 with ⟨a, b, c, d⟩ | ⟨a, b, c, d⟩ <;> rcases h2 with ⟨a', b', c', d'⟩ | ⟨a', b', c', d'⟩ <;> first | omega | (exfalso; rcases hc with hc | ⟨hc1, hc2⟩ <;> omega)
theorem v03 (g : j0) (v x : Int) : (C0 g v x = -1 ∧ A7 v x g.2.2 = []) ∨ C0 g v x ∈ A7 v x g.2.2 := by
 unfold C0
 cases e : I9 g v x with
 | nil =>
  left
  refine ⟨rfl, List.eq_nil_iff_forall_not_mem.2 fun y hy => ?_⟩
  have : y ∈ I9 g v x := (D00 A9 y _ _).2 (.inr hy)
  rw [e] at this; cases this
 | cons a l => exact .inr (g0b (by rw [e]; exact List.mem_cons_self ..))
theorem w03 {g : j0} (hf : I0 g = true) {v x y : Int} (hy : y ∈ A7 v x g.2.2) : C0 g v x = y := by
 rcases v03 g v x with ⟨_, h⟩ | h
 ·rw [h] at hy; cases hy
 ·exact x0h hf h hy
theorem q04 : ∀ (d i j : Nat), i ≤ j → j < i + d → (j : Int) ∈ i6 d i ∧ -(j : Int) ∈ i6 d i
 | 0, i, j, h1, h2 => by omega
 | d + 1, i, j, h1, h2 => by
  simp only [i6, List.mem_cons]
  by_cases c : j = i
  ·subst c; simp
  ·obtain ⟨a, b⟩ := q04 d (i + 1) j (by omega) (by omega)
   exact ⟨.inr (.inr a), .inr (.inr b)⟩
theorem r0b (g : j0) (v : Int) : ∀ (ls u : List Int) (x : Int), x ∈ ls → 0 ≤ C0 g v x → C0 g v x ∈ g01 g v ls u
 | y :: r, u, x, hx, h0 => by
  rw [g01]
  rcases List.mem_cons.1 hx with rfl | hx
  ·obtain ⟨t, e⟩ := b00 g v r (G05 u (C0 g v x))
   rw [e]
   refine List.mem_append_left _ ?_
   unfold G05
   split
   ·exact List.mem_append_right _ (List.mem_singleton.2 rfl)
   ·rename_i h
    by_cases hm : C0 g v x ∈ u
    ·exact hm
    ·exact absurd ⟨h0, hm⟩ h
  ·exact r0b g v r _ x hx h0
theorem I05 (g : j0) (ls : List Int) : ∀ (f i : Nat) (u : List Int), ∃ t, S7 g ls f i u = u ++ t
 | 0, i, u => ⟨[], by simp [S7]⟩
 | f + 1, i, u => by
  unfold S7
  split
  ·rename_i v _
   obtain ⟨t1, e1⟩ := b00 g v ls u
   obtain ⟨t2, e2⟩ := I05 g ls f (i + 1) (g01 g v ls u)
   exact ⟨t1 ++ t2, by rw [e2, e1, List.append_assoc]⟩
  ·exact ⟨[], by simp⟩
theorem V09 {r : Int} {n : Nat} {es : List B0} (hg : inG (r, (n : Int), es)) (ls : List Int) : ∀ (f i : Nat) (u : List Int), gud n u → n + 1 ≤ f + i → i ≤ u.length →
  (∀ j, j < i → ∀ v, u[j]? = some v → ∀ x ∈ ls, 0 ≤ C0 (r, (n : Int), es) v x → C0 (r, (n : Int), es) v x ∈ u) →
  ∀ v ∈ S7 (r, (n : Int), es) ls f i u, ∀ x ∈ ls, 0 ≤ C0 (r, (n : Int), es) v x → C0 (r, (n : Int), es) v x ∈ S7 (r, (n : Int), es) ls f i u
 | 0, i, u, hu, hn, hi, hc => by have := R7 n u hu.1 hu.2; omega
 | f + 1, i, u, hu, hn, hi, hc => by
  unfold S7
  cases e : u[i]? with
  | none =>
   have : i = u.length := by have := List.getElem?_eq_none_iff.1 e; omega
   show ∀ v ∈ u, ∀ x ∈ ls, 0 ≤ C0 (r, (n : Int), es) v x → C0 (r, (n : Int), es) v x ∈ u
   intro v hv x hx h0
   obtain ⟨j, hj⟩ := List.getElem?_of_mem hv
   exact hc j (by have := (List.getElem?_eq_some_iff.1 hj).1; omega) v hj x hx h0
  | some w =>
   have hil := (List.getElem?_eq_some_iff.1 e).1
   obtain ⟨t, et⟩ := b00 (r, (n : Int), es) w ls u
   refine V09 hg ls f (i + 1) _ (S02 hg w ls u hu) (by omega) (by rw [et, List.length_append]; omega) fun j hj v hv x hx h0 => ?_
   by_cases c : j = i
   ·subst c
    rw [et, List.getElem?_append_left hil, e] at hv
    cases hv
    exact r0b _ _ ls u x hx h0
   ·rw [et, List.getElem?_append_left (by omega)] at hv
    rw [et]
    exact List.mem_append_left _ (hc j (by omega) v hv x hx h0)
theorem i0f (g : j0) : ∃ t, R8 g = 0 :: t := by
 obtain ⟨t, e⟩ := I05 g (i6 g.1.toNat 1) (g.2.1.toNat + 1) 0 [0]
 exact ⟨t, e⟩
theorem U0d {g : j0} (hf : I0 g = true) {x : Int} (h : Rch g.2.2 0 x) : x ∈ R8 g := by
 obtain ⟨q1, q2, q3, q4⟩ := U0 hf
 have hz := i0f g
 have hclo : ∀ v ∈ R8 g, ∀ x ∈ i6 g.1.toNat 1, 0 ≤ C0 g v x → C0 g v x ∈ R8 g := by
  obtain ⟨r, n, es⟩ := g
  simp only at q2 q3
  obtain ⟨N, rfl⟩ : ∃ N : Nat, n = (N : Int) := ⟨n.toNat, by omega⟩
  exact V09 q1 _ (((N : Int)).toNat + 1) 0 [0] ⟨by simp, fun x hx => by simp at hx; subst hx; omega⟩ (by simp only [Int.toNat_natCast]; omega) (Nat.zero_le _) (fun j hj => by omega)
 refine Rch.sub (P := fun x => x ∈ R8 g) ?_ (fun e he => ?_) h
 ·obtain ⟨t, e⟩ := hz
  rw [e]; exact List.mem_cons_self ..
 ·have hq := q1 e he
  obtain ⟨j, hj⟩ : ∃ j : Nat, e.2.1 = (j : Int) := ⟨e.2.1.toNat, by omega⟩
  obtain ⟨l1, l2⟩ := q04 g.1.toNat 1 j (by omega) (by omega)
  have n1 : C0 g e.1 (j : Int) = e.2.2 := w03 hf (O5.2 ⟨e, he, .inl ⟨by omega, hj, rfl, rfl⟩⟩)
  have n2 : C0 g e.2.2 (-(j : Int)) = e.1 := w03 hf (O5.2 ⟨e, he, .inr ⟨by omega, by omega, rfl, rfl⟩⟩)
  constructor
  ·intro h1
   have := hclo e.1 h1 (j : Int) l1 (by rw [n1]; omega)
   rwa [n1] at this
  ·intro h1
   have := hclo e.2.2 h1 (-(j : Int)) l2 (by rw [n2]; omega)
   rwa [n2] at this
theorem y08 {bad : Nat → Bool} : ∀ {d v : Nat}, lf bad d v = none → ∀ k, v ≤ k → k < v + d → bad k = false
 | 0, v, h, k, h1, h2 => by omega
 | d + 1, v, h, k, h1, h2 => by
  unfold lf at h
  cases hb : bad v with
  | true => rw [hb] at h; cases h
  | false =>
   rw [hb] at h
   by_cases c : k = v
   ·rw [c]; exact hb
   ·exact y08 (d := d) (v := v + 1) h k (by omega) (by omega)
theorem y0h {g : j0} (hf : I0 g = true) (hl : t02 g = none) {x : Int} (h0 : 0 ≤ x) (h1 : x < g.2.1) : x ∈ R8 g := by
 refine U0d hf ?_
 by_cases c : x = 0
 ·subst c; exact .base
 ·have := y08 hl x.toNat (by omega) (by omega)
  unfold q0a at this
  simp only [Bool.or_eq_false_iff, Bool.not_eq_false', decide_eq_true_eq] at this
  have h3 := this.2
  rw [show ((x.toNat : Nat) : Int) = x by omega] at h3
  exact (o0c _ _ _).1 h3
end Go.Proofs.YtknoadmdnjaocaaGreat
