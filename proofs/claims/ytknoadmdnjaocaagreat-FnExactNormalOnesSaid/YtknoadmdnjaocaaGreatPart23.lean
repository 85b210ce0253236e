/- Texts of the claim, joined: Plain laws: words and presentations, as the spec and the code know the; Plain laws: lists of words, and presentations, as the spec and the cod; Plain laws: graphs, as the spec and the code know them; Plain laws: steps in a graph; Plain laws: graphs: degrees, equality, edges put in order, sorted edge; Plain laws: valid graphs said in words; folds of a graph; Plain laws: what folding computes, of the spec and of the code; Plain laws: paths, vertices and edges added; the steps that are missin; Plain laws: words reduced. -/
import Derived.Test.YtknoadmdnjaocaaGreatPart18
import Derived.Test.YtknoadmdnjaocaaGreatH33
import Derived.Test.YtknoadmdnjaocaaGreatH36
import Derived.Test.YtknoadmdnjaocaaGreatPart17
namespace Go.Proofs.YtknoadmdnjaocaaGreat
open Go.H
set_option linter.unusedVariables false
set_option linter.unusedSimpArgs false
theorem C1 {n : Nat} (h : n ≤ 140737488355328) : n < U0 := by unfold U0; omega
theorem H0 {p : Prop} [Decidable p] (h : p) : grd p = some () := by unfold grd; rw [if_pos h]
theorem U1 {α : Type} (o : Option α) (d : α) : chk true o d = o := rfl
theorem F4 {α : Type} (o : Option α) (d : α) : chk false o d = some d := rfl
theorem H4 {α : Type} {xs : List α} {k : Nat} {x : α} (h : xs[k]? = some x) : gi xs (k : Int) = some x := by rw [s07]; exact h
theorem y0c {α : Type} {xs : List α} {x : α} (h : xs[0]? = some x) : gi xs 0 = some x := H4 (k := 0) h
theorem Q0i {x : Int} (h : N0 x) (h2 : x ≠ -9223372036854775808) : IntKind.i64.wrap (0 - x) = -x := by rw [w64 (by have := h.1; have := h.2; omega) (by have := h.1; have := h.2; omega)]; omega
theorem u0k {n : Nat} (h : 0 < n) (hm : n ≤ 9223372036854775807) : IntKind.i64.wrap ((n : Int) - 1) = ((n - 1 : Nat) : Int) := by rw [w64 (by omega) (by omega)]; omega
theorem R7 {α : Type} {xs : List α} {k : Nat} (h : k < xs.length) : xs[k]? = some xs[k] := List.getElem?_eq_getElem h
def inR (lo hi x : Int) : Bool := decide (lo ≤ x) && decide (x ≤ hi)
theorem u02 (a b c : Int) : d5 a b c = some (inR b c a) := by
 unfold d5 inR
 by_cases h : b ≤ a <;> simp [h]
theorem n04 (a b c : Int) : d8 a b c = some (inR b c a) := u02 a b c
end Go.Proofs.YtknoadmdnjaocaaGreat
namespace Go.Proofs.YtknoadmdnjaocaaGreat
open Go.H
set_option linter.unusedVariables false
set_option linter.unusedSimpArgs false
def tot : List (List Int) → Nat
 | [] => 0
 | w :: r => w.length + tot r
theorem V2 {α : Type} {xs : List α} {k : Nat} {x : α} (h : xs[k]? = some x) : xs.drop k = x :: xs.drop (k + 1) := by
 obtain ⟨hk, rfl⟩ := List.getElem?_eq_some_iff.1 h
 exact List.drop_eq_getElem_cons hk
theorem C2 {α : Type} {xs : List α} {k : Nat} (h : k = xs.length) : xs.drop k = [] := by rw [h]; exact List.drop_length
end Go.Proofs.YtknoadmdnjaocaaGreat
namespace Go.Proofs.YtknoadmdnjaocaaGreat
open Go.H
set_option linter.unusedVariables false
set_option linter.unusedSimpArgs false
def v02 (r hi : Int) (e : C0) : Bool := inR 0 hi e.1 && inR 0 hi e.2.2 && inR 1 r e.2.1
def K09 (e f : C0) : Int := O0 e f
theorem L09 (e f : C0) : K09 e f = if g7 e.1 f.1 ≠ 0 then g7 e.1 f.1 else if g7 e.2.1 f.2.1 ≠ 0 then g7 e.2.1 f.2.1 else g7 e.2.2 f.2.2 := rfl
theorem r03 (a b : Int) : (a < b ∧ g7 a b = -1) ∨ (a > b ∧ g7 a b = 1) ∨ (a = b ∧ g7 a b = 0) := by
 unfold g7
 split
 ·omega
 ·split <;> omega
theorem R08 (e f : C0) : N0 (K09 e f) := by
 rw [L09]
 split
 ·exact x0c _ _
 ·split <;> exact x0c _ _
theorem R0i (g : j0) (e : C0) : c00 g e = some (v02 g.1 (IntKind.i64.wrap (g.2.1 - 1)) e) := by
 obtain ⟨r, n, es⟩ := g
 obtain ⟨a, l, b⟩ := e
 unfold c00 v02
 simp only [u02, Option.bind_some]
 cases inR 0 (IntKind.i64.wrap (n - 1)) a with
 | false => rfl
 | true =>
  cases inR 0 (IntKind.i64.wrap (n - 1)) b with
  | false => rfl
  | true => simp [chk]
theorem s08 (g : j0) (e : C0) : S6 g e = some (v02 g.1 (IntKind.i64.wrap (g.2.1 - 1)) e) := by
 obtain ⟨r, n, es⟩ := g
 obtain ⟨a, l, b⟩ := e
 unfold S6 D3 v02
 simp only [n04, Option.bind_some]
 cases inR 0 (IntKind.i64.wrap (n - 1)) a with
 | false => rfl
 | true =>
  cases inR 0 (IntKind.i64.wrap (n - 1)) b with
  | false => rfl
  | true => simp [chk]
theorem n00 (e f : C0) : j6 e f = some (K09 e f) := by
 obtain ⟨a, l, b⟩ := e
 obtain ⟨a', l', b'⟩ := f
 unfold j6
 rw [show U0 = (U0 - 4) + 1 + 1 + 1 + 1 from rfl]
 have w1 : IntKind.i64.wrap (0 + 1) = 1 := by decide
 have w2 : IntKind.i64.wrap (1 + 1) = 2 := by decide
 have w3 : IntKind.i64.wrap (2 + 1) = 3 := by decide
 have g0 : ∀ x y z : Int, gi [x, y, z] 0 = some x := fun _ _ _ => rfl
 have g1 : ∀ x y z : Int, gi [x, y, z] 1 = some y := fun _ _ _ => rfl
 have g2 : ∀ x y z : Int, gi [x, y, z] 2 = some z := fun _ _ _ => rfl
 have d0 : decide ((0 : Int) < 3) = true := rfl
 have d1 : decide ((1 : Int) < 3) = true := rfl
 have d2 : decide ((2 : Int) < 3) = true := rfl
 have d3 : decide ((3 : Int) < 3) = false := rfl
 simp only [p5.eq_2, w1, w2, w3, g0, g1, g2, d0, d1, d2, d3, if_true, Option.bind_some, Bool.false_eq_true, if_false]
 rw [L09]
 simp only
 rcases r03 a a' with ⟨h, e⟩ | ⟨h, e⟩ | ⟨h, e⟩
 ·simp [e, h, l9]
 ·have : ¬ a < a' := by omega
  simp [e, h, this, l9]
 ·subst h
  rcases r03 l l' with ⟨h, e2⟩ | ⟨h, e2⟩ | ⟨h, e2⟩
  ·simp [e, e2, h, l9]
  ·have : ¬ l < l' := by omega
   simp [e, e2, h, this, l9]
  ·subst h
   rcases r03 b b' with ⟨h, e3⟩ | ⟨h, e3⟩ | ⟨h, e3⟩
   ·simp [e, e2, e3, h, l9]
   ·have : ¬ b < b' := by omega
    simp [e, e2, e3, h, this, l9]
   ·subst h
    simp [e, e2, e3, l9]
theorem x0h (a b : Int) : F5 a b = some (g7 a b) := by
 unfold F5 g7
 by_cases h : a < b
 ·simp [h]
 ·by_cases h2 : a > b <;> simp [h, h2]
theorem M01 (e f : C0) : n7 e f = some (K09 e f) := by
 obtain ⟨a, l, b⟩ := e
 obtain ⟨a', l', b'⟩ := f
 rw [L09]
 unfold n7
 simp only [x0h, Option.bind_some, H0 (x0c _ _)]
 by_cases h1 : g7 a a' = 0
 ·by_cases h2 : g7 l l' = 0
  ·simp [h1, h2]
  ·simp [h1, h2]
 ·simp [h1]
def S0i (r hi : Int) (es : List C0) (k : Nat) : Bool := match es[k]? with
 | none => true
 | some e => !v02 r hi e || (decide (0 < k) && match es[k - 1]? with
  | none => true
  | some f => decide (K09 f e ≥ 0))
def okE (r hi : Int) (es : List C0) : Nat → Nat → Bool
 | 0, _ => true
 | d + 1, k => !S0i r hi es k && okE r hi es d (k + 1)
def T0 (g : j0) : Bool := okE g.1 (IntKind.i64.wrap (g.2.1 - 1)) g.2.2 g.2.2.length 0 && inR 1 3 g.1 && inR 1 40 g.2.1 && decide (g.2.2.length ≤ 120)
theorem w06 {r hi : Int} {es : List C0} {k : Nat} {e : C0} (hx : es[k]? = some e) : S0i r hi es k = (!v02 r hi e || (decide (0 < k) && match es[k - 1]? with
  | none => true
  | some f => decide (K09 f e ≥ 0))) := by unfold S0i; rw [hx]
theorem k02 (r n : Int) (es : List C0) (hl : es.length ≤ 140737488355328) : ∀ (d k fuel : Nat), k + d = es.length → d < fuel →
  H5 es r n fuel (k : Int) = some (bif okE r (IntKind.i64.wrap (n - 1)) es d k then .inr () else .inl false)
 | d, k, 0, hk, hf => by omega
 | 0, k, fuel + 1, hk, hf => by
  rw [H5.eq_2, if_neg (by simp; omega)]
  simp [okE]
 | d + 1, k, fuel + 1, hk, hf => by
  have hkl : k < es.length := by omega
  have hx := R7 hkl
  generalize es[k] = e at hx
  obtain ⟨e0, e1, e2⟩ := e
  have next := k02 r n es hl d (k + 1) fuel (by omega) (by omega)
  rw [H5.eq_2, if_pos (by simp; omega), H4 hx, Option.bind_some]
  simp only [R0i, Option.bind_some, D2 hkl (by omega : es.length ≤ 9223372036854775807), next, okE, w06 hx]
  generalize IntKind.i64.wrap (n - 1) = hi
  cases hin : v02 r hi (e0, e1, e2) with
  | false => simp [chk, grd, N0]
  | true =>
   by_cases hk0 : k = 0
   ·have ek : decide ((k : Int) > 0) = false := by simp; omega
    have bk : decide (0 < k) = false := by simp; omega
    simp only [ek, bk, F4, Bool.not_true, Bool.not_false, Bool.and_true, Bool.false_and, Bool.or_self, Bool.true_and, cond_true, cond_false, Option.bind_some, Bool.or_false, Bool.false_eq_true, if_false, H0 (show N0 0 by decide)]
   ·have hy := R7 (show k - 1 < es.length by omega)
    generalize es[k - 1] = f at hy
    obtain ⟨f0, f1, f2⟩ := f
    have hpr : IntKind.i64.wrap ((k : Int) - 1) = ((k - 1 : Nat) : Int) := u0k (by omega) (by omega)
    have ek : decide ((k : Int) > 0) = true := by simp; omega
    have bk : decide (0 < k) = true := by simp; omega
    simp only [ek, bk, hpr, hy, H4 hx, H4 hy, U1, Bool.not_true, Bool.not_false, Bool.and_true, Bool.false_and, Bool.or_self, Bool.true_and, cond_true, cond_false, Option.bind_some, Bool.or_false, Bool.false_or, n00, H0 (R08 _ _)]
    cases decide (K09 (f0, f1, f2) (e0, e1, e2) ≥ 0) <;> rfl
theorem z7 (g : j0) (hl : g.2.2.length ≤ 140737488355328) : C4 g = some (T0 g) := by
 obtain ⟨r, n, es⟩ := g
 unfold C4 T0
 simp only at hl ⊢
 have h := k02 r n es hl es.length 0 U0 (by omega) (C1 hl)
 rw [show ((0 : Nat) : Int) = 0 from rfl] at h
 rw [h, Option.bind_some]
 cases okE r (IntKind.i64.wrap (n - 1)) es es.length 0 with
 | false => simp [l9]
 | true =>
  rw [cond_true, Y0, u02, u02, Option.bind_some]
  cases inR 1 3 r with
  | false => simp [chk]
  | true =>
   simp only [U1, Option.bind_some, cond_true, Bool.true_and]
   cases inR 1 40 n with
   | false => simp
   | true => simp; omega
theorem l02 (r n : Int) (es : List C0) (hl : es.length ≤ 140737488355328) : ∀ (d k fuel : Nat), k + d = es.length → d < fuel →
  I5 es r n fuel (k : Int) = some (bif okE r (IntKind.i64.wrap (n - 1)) es d k then .inr () else .inl false)
 | d, k, 0, hk, hf => by omega
 | 0, k, fuel + 1, hk, hf => by
  rw [I5.eq_2, if_neg (by simp; omega)]
  simp [okE]
 | d + 1, k, fuel + 1, hk, hf => by
  have hkl : k < es.length := by omega
  have hx := R7 hkl
  generalize es[k] = e at hx
  obtain ⟨e0, e1, e2⟩ := e
  have next := l02 r n es hl d (k + 1) fuel (by omega) (by omega)
  rw [I5.eq_2, if_pos (by simp; omega), H4 hx, Option.bind_some]
  simp only [s08, Option.bind_some, D2 hkl (by omega : es.length ≤ 9223372036854775807), next, okE, w06 hx]
  generalize IntKind.i64.wrap (n - 1) = hi
  cases hin : v02 r hi (e0, e1, e2) with
  | false => simp [chk, grd, N0]
  | true =>
   by_cases hk0 : k = 0
   ·have ek : decide ((k : Int) > 0) = false := by simp; omega
    have bk : decide (0 < k) = false := by simp; omega
    simp only [ek, bk, F4, Bool.not_true, Bool.not_false, Bool.and_true, Bool.false_and, Bool.or_self, Bool.true_and, cond_true, cond_false, Option.bind_some, Bool.or_false, Bool.false_eq_true, if_false, H0 (show N0 0 by decide)]
   ·have hy := R7 (show k - 1 < es.length by omega)
    generalize es[k - 1] = f at hy
    obtain ⟨f0, f1, f2⟩ := f
    have hpr : IntKind.i64.wrap ((k : Int) - 1) = ((k - 1 : Nat) : Int) := u0k (by omega) (by omega)
    have ek : decide ((k : Int) > 0) = true := by simp; omega
    have bk : decide (0 < k) = true := by simp; omega
    simp only [ek, bk, hpr, hy, H4 hx, H4 hy, U1, Bool.not_true, Bool.not_false, Bool.and_true, Bool.false_and, Bool.or_self, Bool.true_and, cond_true, cond_false, Option.bind_some, Bool.or_false, Bool.false_or, M01, H0 (R08 _ _)]
    cases decide (K09 (f0, f1, f2) (e0, e1, e2) ≥ 0) <;> rfl
theorem d00 (g : j0) (hl : g.2.2.length ≤ 140737488355328) : T6 g = some (T0 g) := by
 obtain ⟨r, n, es⟩ := g
 unfold T6 T0
 simp only at hl ⊢
 rw [n04, n04, Option.bind_some]
 cases hr : inR 1 3 r with
 | false => simp [chk]
 | true =>
  simp only [Bool.not_true, Bool.not_false, U1, Option.bind_some, cond_false]
  cases hn : inR 1 40 n with
  | false => simp
  | true =>
   by_cases h120 : es.length ≤ 120
   ·have h := l02 r n es hl es.length 0 U0 (by omega) (C1 hl)
    rw [show ((0 : Nat) : Int) = 0 from rfl] at h
    have e1 : decide (((es.length : Nat) : Int) > 120) = false := by simp; omega
    have e2 : decide (es.length ≤ 120) = true := by simpa using h120
    simp only [e1, e2, Bool.not_true, cond_false, Bool.false_eq_true, if_false, h, Option.bind_some]
    cases okE r (IntKind.i64.wrap (n - 1)) es es.length 0 <;> rfl
   ·have e1 : decide (((es.length : Nat) : Int) > 120) = true := by simp; omega
    have e2 : decide (es.length ≤ 120) = false := by simpa using h120
    simp only [e1, e2, Bool.not_true, cond_false, if_true, Bool.and_false]
theorem q0f {r hi : Int} {es : List C0} : ∀ {d k : Nat}, okE r hi es d k = true → ∀ i, k ≤ i → i < k + d → S0i r hi es i = false
 | 0, k, h, i, h1, h2 => by omega
 | d + 1, k, h, i, h1, h2 => by
  simp only [okE, Bool.and_eq_true, Bool.not_eq_true'] at h
  by_cases e : i = k
  ·subst e; exact h.1
  ·exact q0f h.2 i (by omega) (by omega)
end Go.Proofs.YtknoadmdnjaocaaGreat
namespace Go.Proofs.YtknoadmdnjaocaaGreat
open Go.H
set_option linter.unusedVariables false
set_option linter.unusedSimpArgs false
theorem Y0d {n : Nat} (h : n ≤ 9223372036854775807) : n < U0 := by unfold U0; omega
def goI (x : Int) : List Int → Bool × List Int
 | [] => (false, [])
 | y :: l => if x < y then (true, x :: y :: l) else if y = x then (true, y :: l) else ((goI x l).1, y :: (goI x l).2)
theorem x0g (x : Int) : ∀ l, O9 g7 x l = bif (goI x l).1 then (goI x l).2 else (goI x l).2 ++ [x]
 | [] => rfl
 | y :: l => by
  have ih := x0g x l
  unfold O9 goI
  rcases r03 x y with ⟨h, e⟩ | ⟨h, e⟩ | ⟨h, e⟩
  ·rw [e, if_pos (by omega), if_pos h]; rfl
  ·rw [e, if_neg (by omega), if_neg (by omega), if_neg (by omega), if_neg (by omega), ih]
   cases (goI x l).1 <;> rfl
  ·rw [e, if_neg (by omega), if_pos rfl, if_neg (by omega), if_pos h.symm]; rfl
theorem M09 (l : List Int) (w : Int) (hl : l.length ≤ 1099511627776) : ∀ (d k fuel : Nat) (acc : List Int), k + d = l.length → d < fuel → acc.length ≤ k + 1 →
  I3 l w fuel true (k : Int) acc = some (true, acc ++ l.drop k)
 | d, k, 0, acc, hd, hf, ha => by omega
 | 0, k, fuel + 1, acc, hd, hf, ha => by
  rw [I3.eq_2, if_neg (by simp; omega), C2 (by omega), List.append_nil]
 | d + 1, k, fuel + 1, acc, hd, hf, ha => by
  have hk : k < l.length := by omega
  have hx := R7 hk
  generalize l[k] = x at hx
  have ih := M09 l w hl d (k + 1) fuel (acc ++ [x]) (by omega) (by omega) (by simp; omega)
  rw [I3.eq_2, if_pos (by simp; omega), H4 hx, Option.bind_some]
  have hb : ∀ c : Bool, (bif c then (!true) else false) = false := fun c => by cases c <;> rfl
  simp only [hb, Bool.false_eq_true, if_false, Option.bind_some, D2 hk (show l.length ≤ 9223372036854775807 by omega), ih, H0 (show (acc.length + [x].length) * 8 ≤ 140737488355328 by simp; omega)]
  rw [V2 hx]
  split <;> simp
theorem m0b (l : List Int) (w : Int) (hl : l.length ≤ 1099511627776) : ∀ (d k fuel : Nat) (acc : List Int), k + d = l.length → d < fuel → acc.length = k →
  I3 l w fuel false (k : Int) acc = some ((goI w (l.drop k)).1, acc ++ (goI w (l.drop k)).2)
 | d, k, 0, acc, hd, hf, ha => by omega
 | 0, k, fuel + 1, acc, hd, hf, ha => by
  rw [I3.eq_2, if_neg (by simp; omega), C2 (by omega)]
  simp [goI]
 | d + 1, k, fuel + 1, acc, hd, hf, ha => by
  have hk : k < l.length := by omega
  have hx := R7 hk
  generalize l[k] = x at hx
  have ih := m0b l w hl d (k + 1) fuel (acc ++ [x]) (by omega) (by omega) (by simp; omega)
  have on1 := M09 l w hl d (k + 1) fuel (acc ++ [x]) (by omega) (by omega) (by simp; omega)
  have on2 := M09 l w hl d (k + 1) fuel (acc ++ [w] ++ [x]) (by omega) (by omega) (by simp; omega)
  rw [I3.eq_2, if_pos (by simp; omega), H4 hx, Option.bind_some, V2 hx]
  unfold goI
  have hb : ∀ c : Bool, (bif c then (!true) else false) = false := fun c => by cases c <;> rfl
  have hb2 : ∀ c : Bool, (bif c then (!false) else false) = c := fun c => by cases c <;> rfl
  by_cases h0 : x = w
  ·rw [if_pos (by simpa using h0), Option.bind_some, hb, if_neg (by simp), Option.bind_some, H0 (by simp; omega), Option.bind_some, D2 hk (by omega), on1, if_neg (by omega), if_pos h0]
   simp
  ·rw [if_neg (by simpa using h0), Option.bind_some, hb2]
   by_cases h1 : w < x
   ·rw [if_pos (by simpa using h1), H0 (by simp; omega), Option.bind_some, Option.bind_some, H0 (by simp; omega), Option.bind_some, D2 hk (by omega), on2, if_pos h1]
    simp
   ·rw [if_neg (by simpa using h1), Option.bind_some, H0 (by simp; omega), Option.bind_some, D2 hk (by omega), ih, if_neg h1, if_neg h0]
    simp
theorem x06 (l : List Int) (w : Int) (hl : l.length ≤ 1099511627776) : I6 l w = some (O9 g7 w l) := by
 unfold I6
 have h := m0b l w hl l.length 0 U0 [] (by omega) (C1 (by omega)) rfl
 rw [show ((0 : Nat) : Int) = 0 from rfl, List.drop_zero, List.nil_append] at h
 rw [h, Option.bind_some, x0g]
 have hlen : ∀ l : List Int, (goI w l).2.length ≤ l.length + 1 := fun l => by
  induction l with
  | nil => simp [goI]
  | cons y l ih =>
   unfold goI
   split
   ·simp
   ·split
    ·simp
    ·simp only [List.length_cons]; omega
 have := hlen l
 cases (goI w l).1 with
 | true => rfl
 | false =>
  simp only [Bool.not_false, if_true, cond_false]
  rw [H0 (by simp; omega), Option.bind_some]
def n0b (v x : Int) (e : C0) : List Int :=
 if 0 < x ∧ e.2.1 = x ∧ e.1 = v then [e.2.2] else if x < 0 ∧ e.2.1 = -x ∧ e.2.2 = v then [e.1] else []
def M7 (v x : Int) : List C0 → List Int
 | [] => []
 | e :: es => n0b v x e ++ M7 v x es
theorem y0h (v x : Int) (e : C0) : (n0b v x e).length ≤ 1 := by unfold n0b; split <;> (try split) <;> simp
theorem N09 (v x : Int) : ∀ es, (M7 v x es).length ≤ es.length
 | [] => by simp [M7]
 | e :: es => by
  have h1 := y0h v x e
  have h2 := N09 v x es
  simp only [M7, List.length_append, List.length_cons]
  omega
def Y9 (x : Int) : Prop := N0 x ∧ x ≠ -9223372036854775808
theorem y06 (es : List C0) (v x : Int) (hx : Y9 x) (hl : es.length ≤ 1099511627776) : ∀ (d k fuel : Nat) (acc : List Int), k + d = es.length → d < fuel → acc.length ≤ k →
  P3 es x v fuel (k : Int) acc = some (acc ++ M7 v x (es.drop k))
 | d, k, 0, acc, hd, hf, ha => by omega
 | 0, k, fuel + 1, acc, hd, hf, ha => by
  rw [P3.eq_2, if_neg (by simp; omega), C2 (by omega)]
  simp [M7]
 | d + 1, k, fuel + 1, acc, hd, hf, ha => by
  have hk : k < es.length := by omega
  have he := R7 hk
  generalize es[k] = e at he
  obtain ⟨a, l, b⟩ := e
  have ih := fun acc' h => y06 es v x hx hl d (k + 1) fuel acc' (by omega) (by omega) h
  have hn : decide (x = -9223372036854775808) = false := by simp; exact hx.2
  rw [P3.eq_2, if_pos (by simp; omega), H4 he, Option.bind_some, V2 he]
  simp only [M7, n0b, Q0i hx.1 hx.2, hn, Bool.not_false, D2 hk (show es.length ≤ 9223372036854775807 by omega)]
  by_cases c1 : 0 < x ∧ l = x ∧ a = v
  ·obtain ⟨c1, rfl, rfl⟩ := c1
   rw [if_pos (by simp [c1]), if_pos ⟨c1, rfl, rfl⟩, H0 (by simp; omega), Option.bind_some, ih _ (by simp; omega)]
   simp
  ·rw [if_neg c1, if_neg (by simp only [Bool.cond_eq_ite]; simp; intro h1 h2 h3; exact c1 ⟨h1, h2, h3⟩)]
   by_cases c2 : x < 0 ∧ l = -x ∧ b = v
   ·rw [if_pos c2, if_pos (by simp [c2.1, c2.2.1, c2.2.2]), H0 (by simp; omega), Option.bind_some, ih _ (by simp; omega)]
    simp
   ·rw [if_neg c2, if_neg (by simp only [Bool.cond_eq_ite]; simp; intro h1 h2 h3; exact c2 ⟨h1, h2, h3⟩), ih _ (by omega)]
    simp
theorem S02 (w : Int) : ∀ l : List Int, (O9 g7 w l).length ≤ l.length + 1
 | [] => by simp [O9]
 | y :: l => by
  have := S02 w l
  unfold O9
  split
  ·simp
  ·split
   ·simp
   ·simp only [List.length_cons]; omega
theorem z06 (es : List C0) (v x : Int) (hx : Y9 x) (hl : es.length ≤ 1099511627776) : ∀ (d k fuel : Nat) (u : List Int), k + d = es.length → d < fuel → u.length ≤ k →
  l3 es x v fuel u (k : Int) = some (K7 g7 u (M7 v x (es.drop k)))
 | d, k, 0, u, hd, hf, ha => by omega
 | 0, k, fuel + 1, u, hd, hf, ha => by
  rw [l3.eq_2, if_neg (by simp; omega), C2 (by omega)]
  rfl
 | d + 1, k, fuel + 1, u, hd, hf, ha => by
  have hk : k < es.length := by omega
  have he := R7 hk
  generalize es[k] = e at he
  obtain ⟨a, l, b⟩ := e
  have ih := fun u' h => z06 es v x hx hl d (k + 1) fuel u' (by omega) (by omega) h
  rw [l3.eq_2, if_pos (by simp; omega), H4 he, Option.bind_some, V2 he]
  simp only [M7, n0b, Q0i hx.1 hx.2, D2 hk (show es.length ≤ 9223372036854775807 by omega)]
  by_cases c1 : 0 < x ∧ l = x ∧ a = v
  ·obtain ⟨c1, rfl, rfl⟩ := c1
   have hno : decide (l < 0) = false := by simp; omega
   have := S02 b u
   rw [if_pos (by simp [c1]), if_pos ⟨c1, rfl, rfl⟩, x06 u b (by omega), Option.bind_some, hno, if_neg (by simp), ih _ (by omega)]
   rfl
  ·rw [if_neg c1, if_neg (by simp only [Bool.cond_eq_ite]; simp; intro h1 h2 h3; exact c1 ⟨h1, h2, h3⟩)]
   by_cases c2 : x < 0 ∧ l = -x ∧ b = v
   ·have := S02 a u
    rw [if_pos c2, if_pos (by simp [c2.1, c2.2.1, c2.2.2]), x06 u a (by omega), Option.bind_some, ih _ (by omega)]
    rfl
   ·rw [if_neg c2, if_neg (by simp only [Bool.cond_eq_ite]; simp; intro h1 h2 h3; exact c2 ⟨h1, h2, h3⟩), ih _ (by omega)]
    rfl
def g00 (g : j0) (v x : Int) : List Int := K7 g7 [] (M7 v x g.2.2)
theorem a0k (x y : Int) : eqI x y = true ↔ x = y := by simp [eqI]
theorem Z0d (g : j0) (v x : Int) (hx : Y9 x) (hl : g.2.2.length ≤ 1099511627776) : h8 g v x = some (g00 g v x) := by
 obtain ⟨r, n, es⟩ := g
 unfold h8 g00
 have h := z06 es v x hx hl es.length 0 U0 [] (by omega) (Y0d (by simp only at hl; omega)) (by simp)
 rw [show ((0 : Nat) : Int) = 0 from rfl, List.drop_zero] at h
 simp only [h, Option.bind_some]
theorem a0e (g : j0) (v x : Int) (hx : Y9 x) (hl : g.2.2.length ≤ 1099511627776) : i8 g v x = some (g00 g v x) := by
 obtain ⟨r, n, es⟩ := g
 unfold i8 g00
 have h := y06 es v x hx hl es.length 0 U0 [] (by omega) (Y0d (by simp only at hl; omega)) (by simp)
 rw [show ((0 : Nat) : Int) = 0 from rfl, List.drop_zero, List.nil_append] at h
 have hlen := N09 v x es
 simp only at hl
 simp only [h, Option.bind_some, H0 (show (M7 v x es).length < 4611686018427387904 by omega)]
 rw [← X0d b00 a0k (M7 v x es) (M7 v x es) fun _ => Iff.rfl]
 rfl
def j1 (g : j0) (v x : Int) : Int := match g00 g v x with
 | [] => -1
 | a :: _ => a
theorem H05 (g : j0) (v x : Int) (hx : Y9 x) (hl : g.2.2.length ≤ 1099511627776) : W5 g v x = some (j1 g v x) := by
 have h := Z0d g v x hx hl
 obtain ⟨r, n, es⟩ := g
 unfold W5 j1
 simp only [h, Option.bind_some]
 cases g00 (r, n, es) v x with
 | nil => rfl
 | cons a l => rfl
theorem I05 (g : j0) (v x : Int) (hx : Y9 x) (hl : g.2.2.length ≤ 1099511627776) : Y5 g v x = some (j1 g v x) := by
 have h := a0e g v x hx hl
 obtain ⟨r, n, es⟩ := g
 unfold Y5 j1
 simp only [h, Option.bind_some]
 cases g00 (r, n, es) v x with
 | nil => rfl
 | cons a l => rfl
theorem o0b {g : j0} {v x y : Int} (h : y ∈ g00 g v x) : y ∈ M7 v x g.2.2 := by
 rcases (C8 b00 y _ []).1 h with h | h
 ·cases h
 ·exact h
theorem c6 {v x y : Int} : ∀ {es : List C0}, y ∈ M7 v x es ↔ ∃ e ∈ es, (0 < x ∧ e.2.1 = x ∧ e.1 = v ∧ y = e.2.2) ∨ (x < 0 ∧ e.2.1 = -x ∧ e.2.2 = v ∧ y = e.1)
 | [] => by simp [M7]
 | e :: es => by
  simp only [M7, List.mem_append, c6 (es := es), List.mem_cons, exists_eq_or_imp]
  refine or_congr ?_ Iff.rfl
  unfold n0b
  split
  ·rename_i h
   simp only [List.mem_singleton]
   constructor
   ·rintro rfl; exact .inl ⟨h.1, h.2.1, h.2.2, rfl⟩
   ·rintro (⟨_, _, _, h4⟩ | ⟨h1, _⟩)
    ·exact h4
    ·omega
  ·rename_i h
   split
   ·rename_i h2
    simp only [List.mem_singleton]
    constructor
    ·rintro rfl; exact .inr ⟨h2.1, h2.2.1, h2.2.2, rfl⟩
    ·rintro (⟨h1, _⟩ | ⟨_, _, _, h4⟩)
     ·omega
     ·exact h4
   ·rename_i h2
    constructor
    ·intro h; cases h
    ·rintro (⟨h3, h4, h5, _⟩ | ⟨h3, h4, h5, _⟩)
     ·exact absurd ⟨h3, h4, h5⟩ h
     ·exact absurd ⟨h3, h4, h5⟩ h2
def inG (g : j0) : Prop := ∀ e ∈ g.2.2, (0 ≤ e.1 ∧ e.1 < g.2.1) ∧ (0 ≤ e.2.2 ∧ e.2.2 < g.2.1) ∧ 1 ≤ e.2.1 ∧ e.2.1 ≤ g.1
theorem C3 {g : j0} (h : T0 g = true) : inG g ∧ (1 ≤ g.1 ∧ g.1 ≤ 3) ∧ (1 ≤ g.2.1 ∧ g.2.1 ≤ 40) ∧ g.2.2.length ≤ 120 := by
 obtain ⟨r, n, es⟩ := g
 simp only [T0, inR, Bool.and_eq_true, decide_eq_true_eq] at h
 obtain ⟨⟨⟨h1, h2⟩, h3⟩, h4⟩ := h
 refine ⟨fun e he => ?_, h2, h3, h4⟩
 obtain ⟨i, hi⟩ := List.getElem?_of_mem he
 have hb := q0f h1 i (Nat.zero_le _) (by have := (List.getElem?_eq_some_iff.1 hi).1; simp only at this; omega)
 rw [w06 hi] at hb
 simp only [Bool.or_eq_false_iff, Bool.not_eq_false', v02, inR, Bool.and_eq_true, decide_eq_true_eq] at hb
 obtain ⟨⟨⟨⟨b1, b2⟩, b3, b4⟩, b5, b6⟩, _⟩ := hb
 rw [w64 (by omega) (by omega)] at b2 b4
 simp only
 exact ⟨⟨b1, by omega⟩, ⟨b3, by omega⟩, b5, b6⟩
theorem m02 {g : j0} (hg : inG g) (v x : Int) : j1 g v x = -1 ∨ (0 ≤ j1 g v x ∧ j1 g v x < g.2.1) := by
 unfold j1
 cases hs : g00 g v x with
 | nil => exact .inl rfl
 | cons a l =>
  right
  have ha : a ∈ g00 g v x := by rw [hs]; exact List.mem_cons_self ..
  obtain ⟨e, he, h⟩ := c6.1 (o0b ha)
  have := hg e he
  rcases h with ⟨_, _, _, rfl⟩ | ⟨_, _, _, rfl⟩
  ·exact this.2.1
  ·exact this.1
theorem N04 {g : j0} (hg : inG g) (hn : g.2.1 ≤ 40) (v x : Int) : N0 (j1 g v x) := by
 rcases m02 hg v x with h | h
 ·rw [h]; decide
 ·constructor <;> omega
def N01 (a b : C0) : Bool := decide (a.2.1 = b.2.1) && (decide (a.1 = b.1) || decide (a.2.2 = b.2.2))
theorem v07 (a b : C0) : N01 a b = N01 b a := by
 unfold N01
 have h : ∀ x y : Int, decide (x = y) = decide (y = x) := fun x y => decide_eq_decide.2 ⟨Eq.symm, Eq.symm⟩
 rw [h a.2.1, h a.1, h a.2.2]
def noC (a : C0) : List C0 → Bool
 | [] => true
 | b :: l => !N01 a b && noC a l
def l05 : List C0 → Bool
 | [] => true
 | a :: l => noC a l && l05 l
theorem z0c (a : C0) : ∀ l, noC a l = true ↔ ∀ b ∈ l, N01 a b = false
 | [] => by simp [noC]
 | b :: l => by simp [noC, z0c a l]
theorem w07 : ∀ l, l05 l = true ↔ l.Pairwise fun a b => N01 a b = false
 | [] => by simp [l05]
 | a :: l => by simp [l05, w07 l, z0c, List.pairwise_cons]
def O09 : List C0 → List C0 → Bool
 | _, [] => true
 | pre, a :: l => noC a pre && O09 (pre ++ [a]) l
theorem p0b : ∀ (l pre : List C0), O09 pre l = true ↔ l.Pairwise (fun a b => N01 a b = false) ∧ ∀ a ∈ l, ∀ b ∈ pre, N01 a b = false
 | [], pre => by simp [O09]
 | a :: l, pre => by
  simp only [O09, Bool.and_eq_true, z0c, p0b l, List.pairwise_cons]
  constructor
  ·rintro ⟨h2, h3, h4⟩
   refine ⟨⟨fun b hb => by rw [v07]; exact h4 b hb a (by simp), h3⟩, fun x hx b hb => ?_⟩
   rcases List.mem_cons.1 hx with rfl | hx
   ·exact h2 b hb
   ·exact h4 x hx b (by simp [hb])
  ·rintro ⟨⟨h2, h3⟩, h4⟩
   refine ⟨fun b hb => h4 a (List.mem_cons_self ..) b hb, h3, fun x hx b hb => ?_⟩
   rcases List.mem_append.1 hb with hb | hb
   ·exact h4 x (List.mem_cons_of_mem _ hx) b hb
   ·rw [List.mem_singleton.1 hb, v07]; exact h2 x hx
theorem z0h (l : List C0) : O09 [] l = l05 l := by
 rw [Bool.eq_iff_iff, p0b, w07]
 simp
def K0 (g : j0) : Bool := T0 g && l05 g.2.2
theorem v0k (a0 a1 a2 b0 b1 b2 : Int) : (bif decide (a1 = b1) then (bif decide (a0 = b0) then true else decide (a2 = b2)) else false) = N01 (a0, a1, a2) (b0, b1, b2) := by
 unfold N01
 cases decide (a1 = b1) <;> cases decide (a0 = b0) <;> rfl
theorem A06 (l : List C0) (a : C0) (hl : l.length ≤ 140737488355328) : ∀ (d k fuel : Nat), k + d = l.length → d < fuel →
  j5 l a.2.1 a.1 a.2.2 fuel (k : Int) = some (bif noC a (l.drop k) then .inr () else .inl false)
 | d, k, 0, hd, hf => by omega
 | 0, k, fuel + 1, hd, hf => by
  rw [j5.eq_2, if_neg (by simp; omega), C2 (by omega)]
  rfl
 | d + 1, k, fuel + 1, hd, hf => by
  have hk : k < l.length := by omega
  have hx := R7 hk
  generalize l[k] = x at hx
  obtain ⟨a0, a1, a2⟩ := a
  obtain ⟨b0, b1, b2⟩ := x
  rw [j5.eq_2, if_pos (by simp; omega), H4 hx, Option.bind_some, V2 hx]
  simp only [v0k, noC]
  cases hc : N01 (a0, a1, a2) (b0, b1, b2) with
  | true => rfl
  | false =>
   rw [if_neg (by simp), D2 hk (by omega), A06 l (a0, a1, a2) hl d (k + 1) fuel (by omega) (by omega)]
   simp
theorem s03 {α : Type} {xs : List α} {k : Nat} (h : k ≤ xs.length) : E05 xs (k : Int) (xs.length : Int) = some (xs.drop k) := by
 unfold E05
 rw [if_pos ⟨by omega, by omega, by omega⟩]
 simp
theorem B06 (l : List C0) (hl : l.length ≤ 140737488355328) : ∀ (d k fuel : Nat), k + d = l.length → d < fuel →
  l5 l fuel (k : Int) = some (bif l05 (l.drop k) then .inr () else .inl false)
 | d, k, 0, hd, hf => by omega
 | 0, k, fuel + 1, hd, hf => by
  rw [l5.eq_2, if_neg (by simp; omega), C2 (by omega)]
  rfl
 | d + 1, k, fuel + 1, hd, hf => by
  have hk : k < l.length := by omega
  have hx := R7 hk
  generalize l[k] = x at hx
  have h0 := A06 (l.drop (k + 1)) x (by simp; omega) (l.drop (k + 1)).length 0 U0 (by omega) (C1 (by simp; omega))
  rw [show ((0 : Nat) : Int) = 0 from rfl, List.drop_zero] at h0
  obtain ⟨a0, a1, a2⟩ := x
  rw [l5.eq_2, if_pos (by simp; omega), H4 hx, Option.bind_some, V2 hx]
  simp only [D2 hk (show l.length ≤ 9223372036854775807 by omega), s03 (show k + 1 ≤ l.length by omega), Option.bind_some]
  simp only at h0
  rw [h0, Option.bind_some]
  simp only [l05]
  cases noC (a0, a1, a2) (l.drop (k + 1)) with
  | false => rfl
  | true =>
   simp only [cond_true, s0h, Bool.true_and]
   exact B06 l hl d (k + 1) fuel (by omega) (by omega)
theorem j8 (g : j0) (hl : g.2.2.length ≤ 140737488355328) : S4 g = some (K0 g) := by
 have hG := d00 g hl
 obtain ⟨r, n, es⟩ := g
 unfold S4 K0
 simp only [hG, Option.bind_some]
 cases T0 (r, n, es) with
 | false => rfl
 | true =>
  have h := B06 es hl es.length 0 U0 (by omega) (C1 hl)
  rw [show ((0 : Nat) : Int) = 0 from rfl, List.drop_zero] at h
  rw [if_neg (by simp), h, Option.bind_some]
  cases l05 es <;> rfl
theorem C06 (l : List C0) (hl : l.length ≤ 140737488355328) {i : Nat} {a : C0} (ha : l[i]? = some a) : ∀ (d k fuel : Nat), k + d = i → d < fuel →
  i5 (i : Int) l fuel (k : Int) = some (bif noC a ((l.take i).drop k) then .inr () else .inl false)
 | d, k, 0, hd, hf => by omega
 | 0, k, fuel + 1, hd, hf => by
  have := (List.getElem?_eq_some_iff.1 ha).1
  rw [i5.eq_2, if_neg (by simp; omega), C2 (by simp; omega)]
  rfl
 | d + 1, k, fuel + 1, hd, hf => by
  have hi := (List.getElem?_eq_some_iff.1 ha).1
  have hk : k < l.length := by omega
  have hx := R7 hk
  have hx2 : (l.take i)[k]? = some l[k] := by rw [List.getElem?_take, if_pos (by omega)]; exact hx
  have ih := C06 l hl ha d (k + 1) fuel (by omega) (by omega)
  generalize l[k] = x at hx hx2
  obtain ⟨a0, a1, a2⟩ := a
  obtain ⟨b0, b1, b2⟩ := x
  rw [i5.eq_2, if_pos (by simp; omega), H4 ha, Option.bind_some, V2 hx2]
  simp only [H4 hx, Option.bind_some, v0k, noC]
  cases hc : N01 (a0, a1, a2) (b0, b1, b2) with
  | true => rfl
  | false =>
   rw [if_neg (by simp), D2 hk (by omega), ih]
   simp
theorem w0k {α : Type} {xs : List α} {k : Nat} {x : α} (h : xs[k]? = some x) : xs.take (k + 1) = xs.take k ++ [x] := by
 obtain ⟨hk, rfl⟩ := List.getElem?_eq_some_iff.1 h
 exact List.take_succ_eq_append_getElem hk
theorem D06 (r n : Int) (l : List C0) (hg : T0 (r, n, l) = true) (hl : l.length ≤ 140737488355328) : ∀ (d k fuel : Nat), k + d = l.length → d < fuel →
  f4 l r n fuel (k : Int) = some (bif O09 (l.take k) (l.drop k) then .inr () else .inl false)
 | d, k, 0, hd, hf => by omega
 | 0, k, fuel + 1, hd, hf => by
  have e : decide ((k : Int) < (l.length : Int)) = false := by simp; omega
  rw [f4.eq_2, e, F4, Option.bind_some, if_neg (by simp), C2 (by omega)]
  rfl
 | d + 1, k, fuel + 1, hd, hf => by
  have hk : k < l.length := by omega
  have hx := R7 hk
  generalize l[k] = x at hx
  have h0 := C06 l hl hx k 0 U0 (by omega) (C1 (by omega))
  rw [show ((0 : Nat) : Int) = 0 from rfl, List.drop_zero] at h0
  have e : decide ((k : Int) < (l.length : Int)) = true := by simp; omega
  rw [f4.eq_2, e, U1, z7 (r, n, l) hl, Option.bind_some, hg, if_pos (show (bif true then true else false) = true from rfl), h0, Option.bind_some, V2 hx]
  simp only [O09]
  cases noC x (l.take k) with
  | false => rfl
  | true =>
   simp only [cond_true, s0h, Bool.true_and]
   rw [D2 hk (by omega), ← w0k hx]
   exact D06 r n l hg hl d (k + 1) fuel (by omega) (by omega)
theorem A9 (g : j0) (hl : g.2.2.length ≤ 140737488355328) : D5 g = some (K0 g) := by
 have hG := z7 g hl
 obtain ⟨r, n, es⟩ := g
 unfold D5 K0
 simp only [hG, Option.bind_some]
 cases hg : T0 (r, n, es) with
 | false =>
  have h1 : f4 es r n U0 0 = some (.inr ()) := by
   rw [show U0 = (U0 - 1) + 1 from rfl, f4.eq_2]
   by_cases e : decide ((0 : Int) < (es.length : Int)) = true
   ·rw [e, U1, hG, Option.bind_some, hg, if_neg (by simp)]
   ·rw [Bool.not_eq_true] at e
    rw [e, F4, Option.bind_some, if_neg (by simp)]
  rw [h1]
  rfl
 | true =>
  have h := D06 r n es hg hl es.length 0 U0 (by omega) (C1 hl)
  rw [show ((0 : Nat) : Int) = 0 from rfl, List.drop_zero, List.take_zero, z0h] at h
  rw [h, Option.bind_some]
  cases l05 es <;> rfl
def j08 (g : j0) : Int → List Int → Int × Nat
 | v, [] => (v, 0)
 | v, x :: w => if j1 g v x < 0 then (v, 0) else ((j08 g (j1 g v x) w).1, (j08 g (j1 g v x) w).2 + 1)
theorem M1 {g : j0} (h : K0 g = true) : inG g ∧ (1 ≤ g.1 ∧ g.1 ≤ 3) ∧ (1 ≤ g.2.1 ∧ g.2.1 ≤ 40) ∧ g.2.2.length ≤ 120 := by
 unfold K0 at h
 simp only [Bool.and_eq_true] at h
 exact C3 h.1
end Go.Proofs.YtknoadmdnjaocaaGreat
namespace Go.Proofs.YtknoadmdnjaocaaGreat
open Go.H
set_option linter.unusedVariables false
set_option linter.unusedSimpArgs false
def T0i (v : Int) (e : C0) : Nat := (if e.1 = v then 1 else 0) + (if e.2.2 = v then 1 else 0)
def B00 (v : Int) : List C0 → Nat
 | [] => 0
 | e :: r => T0i v e + B00 v r
theorem b0k (v : Int) (e : C0) : T0i v e ≤ 2 := by unfold T0i; split <;> split <;> omega
theorem A0c (v : Int) : ∀ l, B00 v l ≤ 2 * l.length
 | [] => by simp [B00]
 | e :: r => by have := b0k v e; have := A0c v r; simp only [B00, List.length_cons]; omega
theorem P09 (es : List C0) (v : Int) (hl : es.length ≤ 1099511627776) : ∀ (d k fuel acc : Nat), k + d = es.length → d < fuel → acc ≤ 2 * k →
  O2 es v fuel (acc : Int) (k : Int) = some ((acc + B00 v (es.drop k) : Nat) : Int)
 | d, k, 0, acc, hd, hf, ha => by omega
 | 0, k, fuel + 1, acc, hd, hf, ha => by
  rw [O2.eq_2, if_neg (by simp; omega), C2 (by omega)]; rfl
 | d + 1, k, fuel + 1, acc, hd, hf, ha => by
  have hk : k < es.length := by omega
  have he := R7 hk
  generalize es[k] = e at he
  obtain ⟨a, l, b⟩ := e
  have ih := fun acc' h => P09 es v hl d (k + 1) fuel acc' (by omega) (by omega) h
  have w1 : IntKind.i64.wrap ((acc : Int) + 1) = ((acc + 1 : Nat) : Int) := by rw [w64 (by omega) (by omega)]; rfl
  have w2 : IntKind.i64.wrap (((acc + 1 : Nat) : Int) + 1) = ((acc + 2 : Nat) : Int) := by rw [w64 (by omega) (by omega)]; rfl
  rw [O2.eq_2, if_pos (by simp; omega), H4 he, V2 he]
  simp only [Option.bind_some, B00, T0i, D2 hk (show es.length ≤ 9223372036854775807 by omega)]
  by_cases c1 : a = v
  ·rw [if_pos (by simpa using c1), if_pos c1]
   by_cases c2 : b = v
   ·rw [if_pos (by simpa using c2), if_pos c2, w1, w2, ih _ (by omega)]; congr 2; omega
   ·rw [if_neg (by simpa using c2), if_neg c2, w1, ih _ (by omega)]; congr 2; omega
  ·rw [if_neg (by simpa using c1), if_neg c1]
   by_cases c2 : b = v
   ·rw [if_pos (by simpa using c2), if_pos c2, w1, ih _ (by omega)]; congr 2; omega
   ·rw [if_neg (by simpa using c2), if_neg c2, ih _ (by omega)]; congr 2; omega
theorem Q09 (es : List C0) (v : Int) : ∀ (fuel : Nat) (x y : Int), i4 es v fuel x y = O2 es v fuel x y
 | 0, x, y => rfl
 | fuel + 1, x, y => by
  rw [i4.eq_2, O2.eq_2]
  simp only [Q09 es v fuel]
  by_cases c : (decide (y < ((es.length : Nat) : Int))) = true
  ·rw [if_pos c, if_pos c]
   cases hg : gi es y with
   | none => rfl
   | some e => simp only [Option.bind_some]
  ·rw [if_neg c, if_neg c]
theorem q0b (g : j0) (v : Int) (hl : g.2.2.length ≤ 1099511627776) : T7 g v = some ((B00 v g.2.2 : Nat) : Int) := by
 obtain ⟨r, n, es⟩ := g
 unfold T7
 have h := P09 es v hl es.length 0 U0 0 (by omega) (C1 (by simp only at hl; omega)) (Nat.zero_le _)
 rw [show ((0 : Nat) : Int) = 0 from rfl, List.drop_zero, Nat.zero_add] at h
 simp only [h, Option.bind_some]
theorem A0h (g : j0) (v : Int) (hl : g.2.2.length ≤ 1099511627776) : G8 g v = some ((B00 v g.2.2 : Nat) : Int) := by
 have h := q0b g v hl
 obtain ⟨r, n, es⟩ := g
 unfold G8
 unfold T7 at h
 simp only [Q09] at h ⊢
 exact h
def k08 (g h : j0) : Bool := decide (g = h)
theorem y0g (x y : C0) : eqE x y = true ↔ x = y := by simp [eqE]
theorem l08 (a b : List C0) (hab : a.length = b.length) (hl : a.length ≤ 9223372036854775807) : ∀ (d k fuel : Nat), k + d = a.length → d < fuel →
  V0 a b fuel (k : Int) = some (if a.drop k = b.drop k then .inr () else .inl false)
 | d, k, 0, hd, hf => by omega
 | 0, k, fuel + 1, hd, hf => by
  rw [V0.eq_2, if_neg (by simp; omega), C2 (by omega), C2 (by omega)]; rfl
 | d + 1, k, fuel + 1, hd, hf => by
  have hk : k < a.length := by omega
  have hk2 : k < b.length := by omega
  have ha := R7 hk
  have hb := R7 hk2
  generalize a[k] = x at ha
  generalize b[k] = y at hb
  have ih := l08 a b hab hl d (k + 1) fuel (by omega) (by omega)
  rw [V0.eq_2, if_pos (by simp; omega), H4 ha, H4 hb, V2 ha, V2 hb]
  simp only [Option.bind_some, D2 hk hl, ih]
  by_cases c : x = y
  ·subst c
   rw [if_neg (by simp [eqE])]
   simp
  ·have hne : eqE x y = false := Bool.eq_false_iff.2 fun h => c ((y0g x y).1 h)
   rw [if_pos (show (!eqE x y) = true by rw [hne]; rfl), if_neg (by simp [c])]
theorem R09 (a b : List C0) (hl : a.length ≤ 9223372036854775807) : Z1 a b = some (decide (a = b)) := by
 unfold Z1
 by_cases hab : a.length = b.length
 ·have h := l08 a b hab hl a.length 0 U0 (by omega) (by unfold U0; omega)
  rw [if_neg (by simp; omega), show (0 : Int) = ((0 : Nat) : Int) from rfl, h, List.drop_zero, List.drop_zero]
  by_cases c : a = b
  ·rw [if_pos c]; simp [l9, c]
  ·rw [if_neg c]; simp [l9, c]
 ·rw [if_pos (by simp; omega)]
  congr 1
  symm
  simp
  intro h; exact hab (by rw [h])
theorem r0b (g h : j0) (hl : g.2.2.length ≤ 9223372036854775807) : G6 g h = some (k08 g h) := by
 obtain ⟨r, n, es⟩ := g
 obtain ⟨r', n', es'⟩ := h
 unfold G6 k08
 simp only [Prod.mk.injEq]
 by_cases c1 : r = r' <;> by_cases c2 : n = n' <;> simp [c1, c2, U1, F4, R09 es es' hl]
theorem s0b (a b : List C0) : ∀ (fuel : Nat) (k : Int), M4 a b fuel k = V0 a b fuel k
 | 0, k => rfl
 | fuel + 1, k => by
  rw [M4.eq_2, V0.eq_2]
  simp only [s0b a b fuel]
theorem t0b (g h : j0) (hl : g.2.2.length ≤ 9223372036854775807) : F6 g h = some (k08 g h) := by
 have hS := R09 g.2.2 h.2.2 hl
 obtain ⟨r, n, es⟩ := g
 obtain ⟨r', n', es'⟩ := h
 unfold F6 k08
 unfold Z1 at hS
 simp only [s0b, Prod.mk.injEq] at hS ⊢
 by_cases c1 : r = r'
 ·by_cases c2 : n = n'
  ·simp only [c1, c2, decide_true, Bool.not_true, cond_false, true_and]
   rw [← hS]
  ·simp [c1, c2]
 ·simp [c1]
def goE (x : C0) : List C0 → Bool × List C0
 | [] => (false, [])
 | y :: l => if O0 x y < 0 then (true, x :: y :: l) else if O0 x y = 0 then (true, y :: l) else ((goE x l).1, y :: (goE x l).2)
theorem z0g (x : C0) : ∀ l, O9 O0 x l = bif (goE x l).1 then (goE x l).2 else (goE x l).2 ++ [x]
 | [] => rfl
 | y :: l => by
  have ih := z0g x l
  unfold O9 goE
  by_cases c1 : O0 x y < 0
  ·rw [if_pos c1, if_pos c1]; rfl
  ·rw [if_neg c1, if_neg c1]
   by_cases c2 : O0 x y = 0
   ·rw [if_pos c2, if_pos c2]; rfl
   ·rw [if_neg c2, if_neg c2, ih]; cases (goE x l).1 <;> rfl
theorem x07 (l : List C0) (w0 w1 w2 : Int) (hl : l.length ≤ 1099511627776) : ∀ (d k fuel : Nat) (acc : List C0), k + d = l.length → d < fuel → acc.length ≤ k + 1 →
  J3 l w0 w1 w2 fuel true (k : Int) acc = some (true, acc ++ l.drop k)
 | d, k, 0, acc, hd, hf, ha => by omega
 | 0, k, fuel + 1, acc, hd, hf, ha => by
  rw [J3.eq_2, if_neg (by simp; omega), C2 (by omega), List.append_nil]
 | d + 1, k, fuel + 1, acc, hd, hf, ha => by
  have hk : k < l.length := by omega
  have he := R7 hk
  generalize l[k] = e at he
  obtain ⟨a, x, b⟩ := e
  have ih := x07 l w0 w1 w2 hl d (k + 1) fuel (acc ++ [(a, x, b)]) (by omega) (by omega) (by simp; omega)
  rw [J3.eq_2, if_pos (by simp; omega), V2 he]
  simp only [H4 he, Option.bind_some, n00, H0 (R08 _ _), D2 hk (show l.length ≤ 9223372036854775807 by omega), Bool.not_true]
  have hb : ∀ b : Bool, (bif b then false else false) = false := fun b => by cases b <;> rfl
  simp only [hb, Bool.false_eq_true, if_false]
  rw [H0 (by simp; omega), Option.bind_some, ih]
  simp
theorem S09 (l : List C0) (w0 w1 w2 : Int) (hl : l.length ≤ 1099511627776) : ∀ (d k fuel : Nat) (acc : List C0), k + d = l.length → d < fuel → acc.length = k →
  J3 l w0 w1 w2 fuel false (k : Int) acc = some ((goE (w0, w1, w2) (l.drop k)).1, acc ++ (goE (w0, w1, w2) (l.drop k)).2)
 | d, k, 0, acc, hd, hf, ha => by omega
 | 0, k, fuel + 1, acc, hd, hf, ha => by
  rw [J3.eq_2, if_neg (by simp; omega), C2 (by omega)]; simp [goE]
 | d + 1, k, fuel + 1, acc, hd, hf, ha => by
  have hk : k < l.length := by omega
  have he := R7 hk
  generalize l[k] = e at he
  obtain ⟨a, x, b⟩ := e
  have ih := S09 l w0 w1 w2 hl d (k + 1) fuel (acc ++ [(a, x, b)]) (by omega) (by omega) (by simp; omega)
  have on1 := x07 l w0 w1 w2 hl d (k + 1) fuel (acc ++ [(a, x, b)]) (by omega) (by omega) (by simp; omega)
  have on2 := x07 l w0 w1 w2 hl d (k + 1) fuel ((acc ++ [(w0, w1, w2)]) ++ [(a, x, b)]) (by omega) (by omega) (by simp; omega)
  rw [J3.eq_2, if_pos (by simp; omega), V2 he]
  simp only [H4 he, Option.bind_some, n00, H0 (R08 _ _), D2 hk (show l.length ≤ 9223372036854775807 by omega), Bool.not_true, Bool.not_false, goE]
  show _ = _
  unfold K09
  by_cases c1 : O0 (w0, w1, w2) (a, x, b) = 0
  ·rw [if_pos (by simpa using c1), if_neg (by simp [c1]), if_neg (by omega), if_pos c1]
   rw [H0 (by simp; omega), Option.bind_some, on1]; simp
  ·rw [if_neg (by simpa using c1)]
   by_cases c2 : O0 (w0, w1, w2) (a, x, b) < 0
   ·rw [if_pos (by simp [c2]), if_pos c2, H0 (by simp; omega), Option.bind_some, H0 (by simp; omega), Option.bind_some, on2]; simp
   ·rw [if_neg (by simp [c2]), if_neg c2, if_neg c1, H0 (by simp; omega), Option.bind_some, ih]; simp
theorem A0g (l : List C0) (e : C0) (hl : l.length ≤ 1099511627776) : P9 l e = some (O9 O0 e l) := by
 obtain ⟨w0, w1, w2⟩ := e
 unfold P9
 have h := S09 l w0 w1 w2 hl l.length 0 U0 [] (by omega) (C1 (by omega)) rfl
 rw [show ((0 : Nat) : Int) = 0 from rfl, List.drop_zero, List.nil_append] at h
 simp only [h, Option.bind_some, z0g]
 have hlen : ∀ l : List C0, (goE (w0, w1, w2) l).2.length ≤ l.length + 1 := fun l => by
  induction l with
  | nil => simp [goE]
  | cons y l ih =>
   unfold goE
   split
   ·simp
   ·split
    ·simp
    ·simp only [List.length_cons]; omega
 have := hlen l
 cases (goE (w0, w1, w2) l).1 with
 | true => rfl
 | false =>
  simp only [Bool.not_false, if_true, cond_false]
  rw [H0 (by simp; omega), Option.bind_some]
theorem O04 (e : C0) : ∀ l : List C0, (O9 O0 e l).length ≤ l.length + 1
 | [] => by simp [O9]
 | y :: l => by
  have := O04 e l
  unfold O9
  split
  ·simp
  ·split
   ·simp
   ·simp only [List.length_cons]; omega
theorem b0e (es : List C0) (hl : es.length ≤ 1099511627776) : W8 es = some (K7 O0 [] es) := by
 unfold W8
 rw [H0 (by simp; omega), Option.bind_some, H0 (by simp; omega), Option.bind_some, List.nil_append]
 exact congrArg some (X0d J7 y0g es es fun _ => Iff.rfl)
theorem J05 (g : j0) (hl : g.2.2.length ≤ 1099511627776) : T4 g = some g := by
 obtain ⟨r, n, es⟩ := g
 unfold T4
 simp only
 rw [H0 (by simp only [List.length_nil, Nat.zero_add]; simp only at hl; omega)]; rfl
theorem O01 (g : j0) (hl : g.2.2.length ≤ 1099511627776) : E4 g = some g := by
 obtain ⟨r, n, es⟩ := g
 unfold E4
 simp only
 rw [H0 (by simp only [List.length_nil, Nat.zero_add]; simp only at hl; omega)]; rfl
end Go.Proofs.YtknoadmdnjaocaaGreat
namespace Go.Proofs.YtknoadmdnjaocaaGreat
open Go.H
set_option linter.unusedVariables false
set_option linter.unusedSimpArgs false
inductive Rch (es : List C0) (v : Int) : Int → Prop
 | base : Rch es v v
 | fwd {e : C0} : e ∈ es → Rch es v e.1 → Rch es v e.2.2
 | bwd {e : C0} : e ∈ es → Rch es v e.2.2 → Rch es v e.1
theorem Rch.closed {es : List C0} {v : Int} : ∀ e ∈ es, Rch es v e.1 ↔ Rch es v e.2.2 := fun e he => ⟨.fwd he, .bwd he⟩
theorem Rch.sub {es : List C0} {v : Int} {P : Int → Prop} (hv : P v) (hc : ∀ e ∈ es, P e.1 ↔ P e.2.2) : ∀ {x}, Rch es v x → P x
 | _, .base => hv
 | _, .fwd he h => (hc _ he).1 (Rch.sub hv hc h)
 | _, .bwd he h => (hc _ he).2 (Rch.sub hv hc h)
def C7 (S : List Bool) (i : Int) : Bool := S.getD i.toNat false
def stJ (S : List Bool) (e : C0) : List Bool := (S.set e.1.toNat true).set e.2.2.toNat true
def pJ : List C0 → Bool → List Bool → Bool × List Bool
 | [], c, S => (c, S)
 | e :: r, c, S => bif C7 S e.1 == C7 S e.2.2 then pJ r c S else pJ r true (stJ S e)
def cF : List Bool → Nat
 | [] => 0
 | b :: r => (bif b then 0 else 1) + cF r
theorem r0f : ∀ (S : List Bool) (i : Nat), cF (S.set i true) ≤ cF S
 | [], i => by simp [cF]
 | b :: r, 0 => by simp [cF]
 | b :: r, i + 1 => by have := r0f r i; simp only [List.set_cons_succ, cF]; omega
theorem U0i : ∀ (S : List Bool) (i : Nat), S[i]? = some false → cF (S.set i true) < cF S
 | [], i, h => by simp at h
 | b :: r, 0, h => by simp at h; subst h; simp [cF]
 | b :: r, i + 1, h => by have := U0i r i (by simpa using h); simp only [List.set_cons_succ, cF]; omega
theorem x0k : ∀ S : List Bool, cF S ≤ S.length
 | [] => by simp [cF]
 | b :: r => by have := x0k r; cases b <;> simp only [cF, List.length_cons, cond_true, cond_false] <;> omega
def inN (n : Nat) (es : List C0) : Prop := ∀ e ∈ es, (0 ≤ e.1 ∧ e.1 < (n : Int)) ∧ (0 ≤ e.2.2 ∧ e.2.2 < (n : Int))
theorem o04 {S : List Bool} {i : Nat} (h : i < S.length) (x : Int) : C7 (S.set i true) x = (decide (x.toNat = i) || C7 S x) := by
 unfold C7
 rw [List.getD_eq_getElem?_getD, List.getD_eq_getElem?_getD, List.getElem?_set]
 by_cases c : i = x.toNat
 ·rw [if_pos c, if_pos (by omega)]; simp [c]
 ·rw [if_neg c]
  have : decide (x.toNat = i) = false := by simp; exact fun e => c e.symm
  rw [this]; rfl
theorem s0f : ∀ (es : List C0) (c : Bool) (S : List Bool), (pJ es c S).2.length = S.length
 | [], c, S => rfl
 | e :: r, c, S => by
  unfold pJ
  cases C7 S e.1 == C7 S e.2.2
  ·simp only [cond_false]; rw [s0f r]; simp [stJ]
  ·simp only [cond_true]; exact s0f r c S
theorem B0c {n : Nat} : ∀ (es : List C0) (c : Bool) (S : List Bool), S.length = n → inN n es → ∀ x, C7 S x = true → C7 (pJ es c S).2 x = true
 | [], c, S, hl, hn, x, h => h
 | e :: r, c, S, hl, hn, x, h => by
  have he := hn e (List.mem_cons_self ..)
  have hr : inN n r := fun e he => hn e (List.mem_cons_of_mem _ he)
  unfold pJ
  cases C7 S e.1 == C7 S e.2.2
  ·simp only [cond_false]
   refine B0c r _ _ (by simp [stJ, hl]) hr x ?_
   rw [stJ, o04 (by rw [List.length_set]; omega), o04 (by omega), h]; simp
  ·simp only [cond_true]; exact B0c r c S hl hr x h
theorem T09 {n : Nat} {P : Int → Prop} : ∀ (es : List C0) (c : Bool) (S : List Bool), S.length = n → inN n es → (∀ e ∈ es, P e.1 ↔ P e.2.2) → (∀ x, 0 ≤ x → C7 S x = true → P x) → ∀ x, 0 ≤ x → C7 (pJ es c S).2 x = true → P x
 | [], c, S, hl, hn, hc, hs, x, h0, h => hs x h0 h
 | e :: r, c, S, hl, hn, hc, hs, x, h0, h => by
  have he := hn e (List.mem_cons_self ..)
  have hr : inN n r := fun e he => hn e (List.mem_cons_of_mem _ he)
  have hc' := fun e he => hc e (List.mem_cons_of_mem _ he)
  have hce := hc e (List.mem_cons_self ..)
  unfold pJ at h
  cases hb : C7 S e.1 == C7 S e.2.2
  ·rw [hb] at h
   refine T09 r true (stJ S e) (by simp [stJ, hl]) hr hc' (fun y hy h => ?_) x h0 h
   rw [stJ, o04 (by rw [List.length_set]; omega), o04 (by omega)] at h
   simp only [Bool.or_eq_true, decide_eq_true_eq] at h
   have hor : P e.1 ∨ P e.2.2 := by
    cases h1 : C7 S e.1
    ·cases h2 : C7 S e.2.2
     ·rw [h1, h2] at hb; cases hb
     ·exact .inr (hs _ he.2.1 h2)
    ·exact .inl (hs _ he.1.1 h1)
   rcases h with h | h | h
   ·have : y = e.2.2 := by omega
    subst this; exact hor.elim hce.1 id
   ·have : y = e.1 := by omega
    subst this; exact hor.elim id hce.2
   ·exact hs y hy h
  ·rw [hb] at h
   exact T09 r c S hl hr hc' hs x h0 h
theorem t0f {n : Nat} : ∀ (es : List C0) (c : Bool) (S : List Bool), S.length = n → inN n es → cF (pJ es c S).2 ≤ cF S ∧ ((pJ es c S).1 = true → c = true ∨ cF (pJ es c S).2 < cF S) ∧ ((pJ es c S).1 = false → c = false ∧ (pJ es c S).2 = S ∧ ∀ e ∈ es, C7 S e.1 = C7 S e.2.2)
 | [], c, S, hl, hn => ⟨Nat.le_refl _, fun h => .inl h, fun h => ⟨h, rfl, fun e he => nomatch he⟩⟩
 | e :: r, c, S, hl, hn => by
  have he := hn e (List.mem_cons_self ..)
  have hr : inN n r := fun e he => hn e (List.mem_cons_of_mem _ he)
  unfold pJ
  cases hb : C7 S e.1 == C7 S e.2.2
  ·simp only [cond_false]
   obtain ⟨h1, h2, h3⟩ := t0f r true (stJ S e) (by simp [stJ, hl]) hr
   have hlt : cF (stJ S e) < cF S := by
    have g : ∀ (x : Int), 0 ≤ x → x < n → C7 S x = false → S[x.toNat]? = some false := fun x hx hx2 hg => by
     have hk : x.toNat < S.length := by omega
     unfold C7 at hg
     rw [List.getD_eq_getElem?_getD, List.getElem?_eq_getElem hk] at hg
     rw [List.getElem?_eq_getElem hk]; simpa using hg
    cases g1 : C7 S e.1
    ·have := U0i S _ (g _ he.1.1 he.1.2 g1)
     have := r0f (S.set e.1.toNat true) e.2.2.toNat
     unfold stJ; omega
    ·have g2 : C7 S e.2.2 = false := by
      cases g2 : C7 S e.2.2
      ·rfl
      ·rw [g1, g2] at hb; cases hb
     have g3 : (S.set e.1.toNat true)[e.2.2.toNat]? = some false := by
      rw [List.getElem?_set]
      by_cases q : e.1.toNat = e.2.2.toNat
      ·exfalso
       have : e.1 = e.2.2 := by omega
       rw [this, g2] at g1; cases g1
      ·rw [if_neg q]; exact g _ he.2.1 he.2.2 g2
     have := U0i _ _ g3
     have := r0f S e.1.toNat
     unfold stJ; omega
   refine ⟨by omega, fun _ => .inr (by omega), fun h => ?_⟩
   have := (h3 h).1; cases this
  ·simp only [cond_true]
   obtain ⟨h1, h2, h3⟩ := t0f r c S hl hr
   refine ⟨h1, h2, fun h => ⟨(h3 h).1, (h3 h).2.1, fun e' he' => ?_⟩⟩
   rcases List.mem_cons.1 he' with rfl | he'
   ·simpa using hb
   ·exact (h3 h).2.2 e' he'
theorem giB {S : List Bool} {n : Nat} (hl : S.length = n) {x : Int} (h0 : 0 ≤ x) (h1 : x < n) : gi S x = some (C7 S x) := by
 have hk : x.toNat < S.length := by omega
 have e : x = ((x.toNat : Nat) : Int) := by omega
 have h2 : gi S ((x.toNat : Nat) : Int) = some (C7 S x) := by
  rw [s07, List.getElem?_eq_getElem hk]
  unfold C7
  rw [List.getD_eq_getElem?_getD, List.getElem?_eq_getElem hk]; rfl
 rw [← e] at h2; exact h2
theorem u0b (es : List C0) {n : Nat} (hn : inN n es) (hl : es.length ≤ 9223372036854775807) : ∀ (d k fuel : Nat) (c : Bool) (S : List Bool), S.length = n → k + d = es.length → d < fuel →
  A3 es fuel c (k : Int) S = some (pJ (es.drop k) c S)
 | d, k, 0, c, S, hS, hd, hf => by omega
 | 0, k, fuel + 1, c, S, hS, hd, hf => by
  rw [A3.eq_2, if_neg (by simp; omega), C2 (by omega)]; rfl
 | d + 1, k, fuel + 1, c, S, hS, hd, hf => by
  have hk : k < es.length := by omega
  have he := R7 hk
  have hin := hn _ (List.mem_of_getElem? he)
  generalize es[k] = e at he hin
  obtain ⟨a, l, b⟩ := e
  have ih := fun c' S' h => u0b es hn hl d (k + 1) fuel c' S' h (by omega) (by omega)
  rw [A3.eq_2, if_pos (by simp; omega), V2 he]
  simp only [H4 he, Option.bind_some, giB hS hin.1.1 hin.1.2, giB hS hin.2.1 hin.2.2, D2 hk hl, giB (show (S.set a.toNat true).length = n by simp [hS]) hin.2.1 hin.2.2, pJ]
  cases hb : C7 S a == C7 S b
  ·simp only [Bool.not_false, if_true, cond_false]
   exact ih _ _ (by simp [hS])
  ·simp only [Bool.not_true, Bool.false_eq_true, if_false, cond_true]
   exact ih _ _ hS
theorem v0b (es : List C0) {n : Nat} (hn : inN n es) (hl : es.length ≤ 9223372036854775806) : ∀ (m fuel : Nat) (S : List Bool), S.length = n → cF S ≤ m → m + 1 < fuel →
  ∃ S', S3 es fuel true S = some S' ∧ S'.length = n ∧ (∀ x, C7 S x = true → C7 S' x = true) ∧ (∀ e ∈ es, C7 S' e.1 = C7 S' e.2.2) ∧
   ∀ P : Int → Prop, (∀ e ∈ es, P e.1 ↔ P e.2.2) → (∀ x, 0 ≤ x → C7 S x = true → P x) → ∀ x, 0 ≤ x → C7 S' x = true → P x
 | m, 0, S, hS, hm, hf => by omega
 | m, fuel + 1, S, hS, hm, hf => by
  have h0 := u0b es hn (by omega) es.length 0 U0 false S hS (by omega) (by unfold U0; omega)
  rw [show ((0 : Nat) : Int) = 0 from rfl, List.drop_zero] at h0
  obtain ⟨c1, c2, c3⟩ := t0f es false S hS hn
  have hlen := s0f es false S
  rw [S3.eq_2, if_pos rfl, h0, Option.bind_some]
  have hmono := B0c es false S hS hn
  have hsnd := fun P => T09 (P := P) es false S hS hn
  generalize pJ es false S = q at *
  obtain ⟨c, S'⟩ := q
  simp only at c1 c2 c3 hlen hmono hsnd ⊢
  cases c with
  | true =>
   rcases c2 rfl with h | h
   ·cases h
   ·obtain ⟨S2, e1, e2, e3, e4, e5⟩ := v0b es hn hl (m - 1) fuel S' (by omega) (by omega) (by omega)
    exact ⟨S2, e1, e2, fun x hx => e3 x (hmono x hx), e4, fun P hc hs => e5 P hc (hsnd P hc hs)⟩
  | false =>
   obtain ⟨_, e, hall⟩ := c3 rfl
   subst e
   obtain _ | fuel := fuel
   ·omega
   ·rw [S3.eq_2, if_neg (by simp)]
    exact ⟨_, rfl, hS, fun x h => h, hall, fun P _ hs => hs⟩
theorem c0e (r : Int) (n : Nat) (es : List C0) (hn : inN n es) (hl : es.length ≤ 9223372036854775806) (hn2 : 1 ≤ n) (hn3 : n ≤ 140737488355328) :
  ∃ S, o7 (r, (n : Int), es) 0 = some S ∧ S.length = n ∧ ∀ x, 0 ≤ x → x < (n : Int) → (C7 S x = true ↔ Rch es 0 x) := by
 unfold o7
 simp only [Int.toNat_natCast]
 have hg : gi (List.replicate n (false : Bool)) 0 = some false := by
  rw [y0c (x := false)]; rw [List.getElem?_replicate, if_pos (by omega)]
 rw [H0 (by omega), Option.bind_some, hg, Option.bind_some]
 have hS : ((List.replicate n (false : Bool)).set (0 : Int).toNat true).length = n := by simp
 obtain ⟨S', e1, e2, e3, e4, e5⟩ := v0b es hn hl n U0 _ hS (by have := x0k ((List.replicate n (false : Bool)).set (0 : Int).toNat true); omega) (by unfold U0; omega)
 rw [e1]
 have hb : ∀ x, C7 ((List.replicate n (false : Bool)).set (0 : Int).toNat true) x = decide (x.toNat = 0) := fun x => by
  rw [o04 (by simp; omega)]
  have : C7 (List.replicate n false) x = false := by
   unfold C7
   rw [List.getD_eq_getElem?_getD, List.getElem?_replicate]
   split <;> rfl
  rw [this]; simp
 refine ⟨S', rfl, e2, fun x h0 h1 => ⟨fun h => ?_, fun h => ?_⟩⟩
 ·refine e5 (Rch es 0) Rch.closed (fun y hy h => ?_) x h0 h
  rw [hb] at h
  have : y = 0 := by simp at h; omega
  subst this; exact .base
 ·exact Rch.sub (P := fun x => C7 S' x = true) (e3 0 (by rw [hb]; rfl)) (fun e he => by rw [e4 e he]) h
theorem y0k (l : List Int) (w : Int) (hl : l.length ≤ 9223372036854775807) : ∀ (d k fuel : Nat), k + d = l.length → d < fuel →
  U6 l w fuel (k : Int) = some (if w ∈ l.drop k then .inl true else .inr ())
 | d, k, 0, hd, hf => by omega
 | 0, k, fuel + 1, hd, hf => by
  rw [U6.eq_2, if_neg (by simp; omega), C2 (by omega)]; simp
 | d + 1, k, fuel + 1, hd, hf => by
  have hk : k < l.length := by omega
  have hx := R7 hk
  generalize l[k] = x at hx
  have ih := y0k l w hl d (k + 1) fuel (by omega) (by omega)
  rw [U6.eq_2, if_pos (by simp; omega), V2 hx]
  simp only [H4 hx, Option.bind_some, D2 hk hl, ih, List.mem_cons]
  by_cases c : x = w
  ·rw [if_pos (by simpa using c), if_pos (.inl c.symm)]
  ·rw [if_neg (by simpa using c)]
   by_cases c2 : w ∈ l.drop (k + 1)
   ·rw [if_pos c2, if_pos (.inr c2)]
   ·rw [if_neg c2, if_neg (fun h => h.elim (fun e => c e.symm) c2)]
theorem S08 (l : List Int) (w : Int) (hl : l.length ≤ 9223372036854775807) : r7 l w = some (decide (w ∈ l)) := by
 unfold r7
 have h := y0k l w hl l.length 0 U0 (by omega) (by unfold U0; omega)
 rw [show ((0 : Nat) : Int) = 0 from rfl, List.drop_zero] at h
 rw [h, Option.bind_some]
 by_cases c : w ∈ l
 ·rw [if_pos c]; simp [l9, c]
 ·rw [if_neg c]; simp [l9, c]
def s1 (u : List Int) (e : C0) : List Int := if e.1 ∈ u then O9 g7 e.2.2 u else u
def s2 (u : List Int) (e : C0) : List Int := if e.2.2 ∈ u then O9 g7 e.1 u else u
def pS : List C0 → List Int → List Int
 | [], u => u
 | e :: r, u => pS r (s2 (s1 u e) e)
theorem y07 {u : List Int} {e : C0} {x : Int} : x ∈ s1 u e ↔ x ∈ u ∨ (e.1 ∈ u ∧ x = e.2.2) := by
 unfold s1
 split
 ·rename_i h; rw [m04 b00]; constructor
  ·rintro (h1 | h1)
   ·exact .inr ⟨h, h1⟩
   ·exact .inl h1
  ·rintro (h1 | ⟨_, h1⟩)
   ·exact .inr h1
   ·exact .inl h1
 ·rename_i h; constructor
  ·exact .inl
  ·rintro (h1 | ⟨h1, _⟩)
   ·exact h1
   ·exact absurd h1 h
theorem z07 {u : List Int} {e : C0} {x : Int} : x ∈ s2 u e ↔ x ∈ u ∨ (e.2.2 ∈ u ∧ x = e.1) := by
 unfold s2
 split
 ·rename_i h; rw [m04 b00]; constructor
  ·rintro (h1 | h1)
   ·exact .inr ⟨h, h1⟩
   ·exact .inl h1
  ·rintro (h1 | ⟨_, h1⟩)
   ·exact .inr h1
   ·exact .inl h1
 ·rename_i h; constructor
  ·exact .inl
  ·rintro (h1 | ⟨h1, _⟩)
   ·exact h1
   ·exact absurd h1 h
theorem V0i (u : List Int) (e : C0) : (s1 u e).length ≤ u.length + 1 := by
 unfold s1; split
 ·exact S02 _ _
 ·omega
theorem W0i (u : List Int) (e : C0) : (s2 u e).length ≤ u.length + 1 := by
 unfold s2; split
 ·exact S02 _ _
 ·omega
theorem u0f : ∀ (es : List C0) (u : List Int), (pS es u).length ≤ u.length + 2 * es.length
 | [], u => by simp [pS]
 | e :: r, u => by
  have := u0f r (s2 (s1 u e) e)
  have := W0i (s1 u e) e
  have := V0i u e
  simp only [pS, List.length_cons]; omega
theorem t03 : ∀ (es : List C0) (u : List Int) (x : Int), x ∈ u → x ∈ pS es u
 | [], u, x, h => h
 | e :: r, u, x, h => t03 r _ x (z07.2 (.inl (y07.2 (.inl h))))
theorem U09 {P : Int → Prop} : ∀ (es : List C0) (u : List Int), (∀ e ∈ es, P e.1 ↔ P e.2.2) → (∀ x ∈ u, P x) → ∀ x ∈ pS es u, P x
 | [], u, hc, hs => hs
 | e :: r, u, hc, hs => U09 r _ (fun e he => hc e (List.mem_cons_of_mem _ he)) fun x hx => by
  have hce := hc e (List.mem_cons_self ..)
  have h1 : ∀ y ∈ s1 u e, P y := fun y hy => by
   rcases y07.1 hy with h | ⟨h, rfl⟩
   ·exact hs y h
   ·exact hce.1 (hs _ h)
  rcases z07.1 hx with h | ⟨h, rfl⟩
  ·exact h1 x h
  ·exact hce.2 (h1 _ h)
theorem d0e : ∀ (es : List C0) (u : List Int) (e : C0), e ∈ es → e.1 ∈ u ∨ e.2.2 ∈ u → e.1 ∈ pS es u ∧ e.2.2 ∈ pS es u
 | e' :: r, u, e, he, h => by
  simp only [pS]
  rcases List.mem_cons.1 he with rfl | he
  ·have h2 : e.2.2 ∈ s1 u e := by
    rcases h with h | h
    ·exact y07.2 (.inr ⟨h, rfl⟩)
    ·exact y07.2 (.inl h)
   exact ⟨t03 r _ _ (z07.2 (.inr ⟨h2, rfl⟩)), t03 r _ _ (z07.2 (.inl h2))⟩
  ·exact d0e r _ e he (h.imp (fun h => z07.2 (.inl (y07.2 (.inl h)))) fun h => z07.2 (.inl (y07.2 (.inl h))))
def act (es : List C0) (u : List Int) : Nat := es.countP fun e => decide (e.1 ∈ u) && decide (e.2.2 ∈ u)
def clo (es : List C0) (u : List Int) : Prop := ∀ e ∈ es, e.1 ∈ u ↔ e.2.2 ∈ u
theorem c0l (es : List C0) (u : List Int) : act es u ≤ es.length := List.countP_le_length
theorem w0b {α : Type} {p q : α → Bool} : ∀ {l : List α}, (∀ x ∈ l, p x = true → q x = true) → (∃ x ∈ l, p x = false ∧ q x = true) → l.countP p < l.countP q
 | [], _, ⟨x, hx, _⟩ => nomatch hx
 | y :: l, h, ⟨x, hx, h1, h2⟩ => by
  have hle : l.countP p ≤ l.countP q := List.countP_mono_left fun z hz => h z (List.mem_cons_of_mem _ hz)
  rcases List.mem_cons.1 hx with rfl | hx
  ·rw [List.countP_cons_of_neg (by simp [h1]), List.countP_cons_of_pos h2]; omega
  ·have ih := w0b (l := l) (fun z hz => h z (List.mem_cons_of_mem _ hz)) ⟨x, hx, h1, h2⟩
   cases hp : p y
   ·rw [List.countP_cons_of_neg (by simp [hp])]
    have : l.countP q ≤ (y :: l).countP q := by rw [List.countP_cons]; omega
    omega
   ·rw [List.countP_cons_of_pos hp, List.countP_cons_of_pos (h y (List.mem_cons_self ..) hp)]; omega
theorem E06 {es : List C0} {u : List Int} (h : clo es u) (x : Int) : x ∈ pS es u ↔ x ∈ u :=
 ⟨U09 (P := fun x => x ∈ u) es u h (fun _ h => h) x, t03 es u x⟩
theorem X0i {es : List C0} {u : List Int} : clo es (pS es u) ∨ act es u < act es (pS es u) := by
 by_cases h : clo es u
 ·left
  intro e he
  rw [E06 h, E06 h]; exact h e he
 ·right
  have : ∃ e ∈ es, ¬ (e.1 ∈ u ↔ e.2.2 ∈ u) := by
   refine Classical.byContradiction fun hn => h fun e he => ?_
   exact Classical.byContradiction fun h2 => hn ⟨e, he, h2⟩
  obtain ⟨e, he, hne⟩ := this
  refine w0b (fun x hx h => ?_) ⟨e, he, ?_, ?_⟩
  ·simp only [Bool.and_eq_true, decide_eq_true_eq] at h ⊢
   exact ⟨t03 _ _ _ h.1, t03 _ _ _ h.2⟩
  ·rw [Bool.eq_false_iff]
   intro h
   simp only [Bool.and_eq_true, decide_eq_true_eq] at h
   exact hne ⟨fun _ => h.2, fun _ => h.1⟩
  ·have ht : e.1 ∈ u ∨ e.2.2 ∈ u := by
    refine Classical.byContradiction fun hn => hne ⟨fun h => absurd (.inl h) hn, fun h => absurd (.inr h) hn⟩
   have := d0e es u e he ht
   simp only [Bool.and_eq_true, decide_eq_true_eq]; exact this
def itS (es : List C0) : Nat → List Int → List Int
 | 0, u => u
 | j + 1, u => itS es j (pS es u)
theorem B0g (es : List C0) : ∀ (j : Nat) (u : List Int), (itS es j u).length ≤ u.length + j * (2 * es.length)
 | 0, u => by simp [itS]
 | j + 1, u => by have := B0g es j (pS es u); have := u0f es u; simp only [itS, Nat.add_mul, Nat.one_mul]; omega
theorem C0g (es : List C0) : ∀ (j : Nat) (u : List Int), clo es u → clo es (itS es j u)
 | 0, u, h => h
 | j + 1, u, h => C0g es j _ fun e he => by rw [E06 h, E06 h]; exact h e he
theorem D0g (es : List C0) : ∀ (j : Nat) (u : List Int), clo es (itS es j u) ∨ act es u + j ≤ act es (itS es j u)
 | 0, u => .inr (Nat.le_refl _)
 | j + 1, u => by
  rcases X0i (es := es) (u := u) with h | h
  ·exact .inl (C0g es j _ h)
  ·rcases D0g es j (pS es u) with h2 | h2
   ·exact .inl h2
   ·right; simp only [itS]; omega
theorem e0e (es : List C0) : ∀ (j : Nat) (u : List Int) (x : Int), x ∈ u → x ∈ itS es j u
 | 0, u, x, h => h
 | j + 1, u, x, h => e0e es j _ x (t03 es u x h)
theorem x0b {P : Int → Prop} (es : List C0) (hc : ∀ e ∈ es, P e.1 ↔ P e.2.2) : ∀ (j : Nat) (u : List Int), (∀ x ∈ u, P x) → ∀ x ∈ itS es j u, P x
 | 0, u, hs => hs
 | j + 1, u, hs => x0b es hc j _ (U09 es u hc hs)
theorem P04 (es : List C0) (v x : Int) : x ∈ itS es (es.length + 1) [v] ↔ Rch es v x := by
 constructor
 ·exact x0b (P := Rch es v) es Rch.closed _ _ (fun y hy => by simp at hy; subst hy; exact .base) x
 ·have hc : clo es (itS es (es.length + 1) [v]) := by
   rcases D0g es (es.length + 1) [v] with h | h
   ·exact h
   ·have := c0l es (itS es (es.length + 1) [v]); omega
  exact Rch.sub (P := fun x => x ∈ itS es (es.length + 1) [v]) (e0e _ _ _ _ (by simp)) hc
theorem V09 (es : List C0) (hl : es.length ≤ 9223372036854775807) : ∀ (d k fuel : Nat) (u : List Int), k + d = es.length → d < fuel → u.length + 2 * d ≤ 1099511627776 →
  L2 es fuel u (k : Int) = some (pS (es.drop k) u)
 | d, k, 0, u, hd, hf, hu => by omega
 | 0, k, fuel + 1, u, hd, hf, hu => by
  rw [L2.eq_2, if_neg (by simp; omega), C2 (by omega)]; rfl
 | d + 1, k, fuel + 1, u, hd, hf, hu => by
  have hk : k < es.length := by omega
  have he := R7 hk
  generalize es[k] = e at he
  obtain ⟨a, l, b⟩ := e
  have ih := fun u' h => V09 es hl d (k + 1) fuel u' (by omega) (by omega) h
  have g1 := V0i u (a, l, b)
  have g2 := W0i (s1 u (a, l, b)) (a, l, b)
  rw [L2.eq_2, if_pos (by simp; omega), V2 he]
  simp only [H4 he, Option.bind_some, S08 u _ (by omega), D2 hk hl, pS]
  by_cases c : a ∈ u
  ·rw [if_pos (by simpa using c), x06 _ _ (by omega), Option.bind_some]
   have e1 : s1 u (a, l, b) = O9 g7 b u := if_pos c
   rw [e1] at g1 g2 ⊢
   rw [S08 _ _ (by omega), Option.bind_some]
   by_cases c2 : b ∈ O9 g7 b u
   ·rw [if_pos (by simpa using c2), x06 _ _ (by omega), Option.bind_some]
    have e2 : s2 (O9 g7 b u) (a, l, b) = O9 g7 a (O9 g7 b u) := if_pos c2
    rw [e2] at g2 ⊢
    exact ih _ (by omega)
   ·rw [if_neg (by simpa using c2)]
    have e2 : s2 (O9 g7 b u) (a, l, b) = O9 g7 b u := if_neg c2
    rw [e2]
    exact ih _ (by omega)
  ·rw [if_neg (by simpa using c)]
   have e1 : s1 u (a, l, b) = u := if_neg c
   rw [e1] at g2 ⊢
   by_cases c2 : b ∈ u
   ·rw [if_pos (by simpa using c2), x06 _ _ (by omega), Option.bind_some]
    have e2 : s2 u (a, l, b) = O9 g7 a u := if_pos c2
    rw [e2] at g2 ⊢
    exact ih _ (by omega)
   ·rw [if_neg (by simpa using c2)]
    have e2 : s2 u (a, l, b) = u := if_neg c2
    rw [e2]
    exact ih _ (by omega)
theorem W09 (es : List C0) (hl : es.length ≤ 120) : ∀ (d k fuel : Nat) (u : List Int), k + d = es.length + 1 → d < fuel → u.length ≤ 1 + k * 240 →
  j4 es fuel u (k : Int) = some (itS es d u)
 | d, k, 0, u, hd, hf, hu => by omega
 | 0, k, fuel + 1, u, hd, hf, hu => by
  rw [j4.eq_2, if_neg (by rw [w64 (by omega) (by omega)]; simp; omega)]; rfl
 | d + 1, k, fuel + 1, u, hd, hf, hu => by
  have h0 := V09 es (by omega) es.length 0 U0 u (by omega) (C1 (by omega)) (by omega)
  rw [show ((0 : Nat) : Int) = 0 from rfl, List.drop_zero] at h0
  have ih := W09 es hl d (k + 1) fuel (pS es u) (by omega) (by omega) (by have := u0f es u; omega)
  rw [j4.eq_2, if_pos (by rw [w64 (by omega) (by omega)]; simp; omega), h0, Option.bind_some, D2 (show k < 1000 by omega) (by omega), ih]
  rfl
end Go.Proofs.YtknoadmdnjaocaaGreat
namespace Go.Proofs.YtknoadmdnjaocaaGreat
open Go.H
set_option linter.unusedVariables false
set_option linter.unusedSimpArgs false
def getI (P : List Int) (v : Int) : Int := P.getD v.toNat (-1)
def D8 : List Int → Nat → List Int → List Int
 | A, k, [] => A
 | A, k, v :: r => D8 (A.set v.toNat (k : Int)) (k + 1) r
def plc (n : Nat) (o : List Int) : List Int := D8 (List.replicate n (-1)) 0 o
theorem X09 : ∀ (o : List Int) (k : Nat) (A : List Int), (D8 A k o).length = A.length
 | [], k, A => rfl
 | v :: r, k, A => by rw [D8, X09 r]; simp
def inV (n : Nat) (o : List Int) : Prop := ∀ v ∈ o, 0 ≤ v ∧ v < (n : Int)
theorem giI {P : List Int} {n : Nat} (hl : P.length = n) {x : Int} (h0 : 0 ≤ x) (h1 : x < n) : gi P x = some (getI P x) := by
 have hk : x.toNat < P.length := by omega
 have e : x = ((x.toNat : Nat) : Int) := by omega
 have h2 : gi P ((x.toNat : Nat) : Int) = some (getI P x) := by
  rw [s07, List.getElem?_eq_getElem hk]
  unfold getI
  rw [List.getD_eq_getElem?_getD, List.getElem?_eq_getElem hk]; rfl
 rw [← e] at h2; exact h2
theorem f01 {A : List Int} {v x : Int} {y : Int} (h0 : 0 ≤ v) (h1 : v.toNat < A.length) (hx : 0 ≤ x) : getI (A.set v.toNat y) x = if x = v then y else getI A x := by
 unfold getI
 rw [List.getD_eq_getElem?_getD, List.getD_eq_getElem?_getD, List.getElem?_set]
 by_cases c : x = v
 ·rw [if_pos c, if_pos (by rw [c]), if_pos h1]; rfl
 ·rw [if_neg c, if_neg (by omega)]
theorem F06 {n : Nat} : ∀ (o : List Int) (k : Nat) (A : List Int), A.length = n → inV n o → (∀ x, 0 ≤ x → -1 ≤ getI A x ∧ getI A x < (k : Int)) → ∀ x, 0 ≤ x → -1 ≤ getI (D8 A k o) x ∧ getI (D8 A k o) x < ((k + o.length : Nat) : Int)
 | [], k, A, hA, ho, h, x, hx => h x hx
 | v :: r, k, A, hA, ho, h, x, hx => by
  have hv := ho v (List.mem_cons_self ..)
  have := F06 r (k + 1) (A.set v.toNat (k : Int)) (by simp [hA]) (fun w hw => ho w (List.mem_cons_of_mem _ hw)) (fun y hy => by
   rw [f01 hv.1 (by omega) hy]
   have := h y hy
   split <;> omega) x hx
  rw [D8, List.length_cons, show k + (r.length + 1) = k + 1 + r.length by omega]; exact this
theorem p04 (n : Nat) (x : Int) : getI (List.replicate n (-1)) x = -1 := by
 unfold getI
 rw [List.getD_eq_getElem?_getD, List.getElem?_replicate]
 split <;> rfl
theorem T02 {n : Nat} {o : List Int} (ho : inV n o) {x : Int} (hx : 0 ≤ x) : -1 ≤ getI (plc n o) x ∧ getI (plc n o) x < (o.length : Int) := by
 have := F06 o 0 (List.replicate n (-1)) (by simp) ho (fun x hx => by rw [p04]; omega) x hx
 rw [Nat.zero_add] at this; exact this
theorem E0g (n : Nat) (o : List Int) : (plc n o).length = n := by unfold plc; rw [X09]; simp
def pE (P : List Int) : List C0 → List C0
 | [] => []
 | e :: r => bif decide (0 ≤ getI P e.1) && decide (0 ≤ getI P e.2.2) then (getI P e.1, e.2.1, getI P e.2.2) :: pE P r else pE P r
theorem C0c (P : List Int) : ∀ es, (pE P es).length ≤ es.length
 | [] => by simp [pE]
 | e :: r => by
  have := C0c P r
  unfold pE
  cases decide (0 ≤ getI P e.1) && decide (0 ≤ getI P e.2.2) <;> simp only [cond_true, cond_false, List.length_cons] <;> omega
theorem z0k {n : Nat} {o : List Int} (ho : inV n o) : ∀ (es : List C0), inN n es → inN o.length (pE (plc n o) es)
 | [], hn => fun e he => nomatch he
 | e :: r, hn => by
  have hr := z0k ho r fun e he => hn e (List.mem_cons_of_mem _ he)
  have he := hn e (List.mem_cons_self ..)
  unfold pE
  cases hb : decide (0 ≤ getI (plc n o) e.1) && decide (0 ≤ getI (plc n o) e.2.2)
  ·simpa only [cond_false] using hr
  ·simp only [cond_true]
   simp only [Bool.and_eq_true, decide_eq_true_eq] at hb
   intro e' he'
   rcases List.mem_cons.1 he' with rfl | he'
   ·exact ⟨⟨hb.1, (T02 ho he.1.1).2⟩, hb.2, (T02 ho he.2.1).2⟩
   ·exact hr e' he'
def w6 (g : j0) (o : List Int) : j0 := (g.1, (o.length : Int), K7 O0 [] (pE (plc g.2.1.toNat o) g.2.2))
theorem q04 : ∀ (r l : List C0), (K7 O0 l r).length ≤ l.length + r.length
 | [], l => by simp [K7]
 | e :: r, l => by have := q04 r (O9 O0 e l); have := O04 e l; simp only [K7, List.length_cons]; omega
theorem K05 (g : j0) (o : List Int) : (w6 g o).2.2.length ≤ g.2.2.length := by
 have := q04 (pE (plc g.2.1.toNat o) g.2.2) []
 have := C0c (plc g.2.1.toNat o) g.2.2
 simp only [w6, List.length_nil] at *; omega
theorem y0b {n : Nat} {r : Int} {es : List C0} {o : List Int} (ho : inV n o) (hn : inN n es) : inN o.length (w6 (r, (n : Int), es) o).2.2 := by
 intro e he
 simp only [w6, Int.toNat_natCast] at he
 rcases (C8 J7 e _ _).1 he with h | h
 ·cases h
 ·exact z0k ho es hn e h
theorem F0g (n : Nat) (hn : n ≤ 140737488355328) : ∀ (d k fuel : Nat), k + d = n → d < fuel →
  y7 n fuel (k : Int) (List.replicate k (-1) ++ List.replicate d 0) = some (List.replicate n (-1))
 | d, k, 0, hd, hf => by omega
 | 0, k, fuel + 1, hd, hf => by
  rw [y7.eq_2, if_neg (by simp; omega), show k = n by omega]; simp
 | d + 1, k, fuel + 1, hd, hf => by
  have hg : gi (List.replicate k (-1) ++ List.replicate (d + 1) (0 : Int)) (k : Int) = some 0 := by
   rw [s07, List.getElem?_append_right (by simp)]; simp
  have ih := F0g n hn d (k + 1) fuel (by omega) (by omega)
  rw [y7.eq_2, if_pos (by simp; omega), hg, Option.bind_some, D2 (show k < n by omega) (by omega), Int.toNat_natCast]
  have e : (List.replicate k (-1) ++ List.replicate (d + 1) (0 : Int)).set k (-1) = List.replicate (k + 1) (-1) ++ List.replicate d 0 := by
   rw [List.set_append_right _ _ (by simp), List.length_replicate, Nat.sub_self, List.replicate_succ, List.set_cons_zero, List.replicate_succ']
   simp
  rw [e, ih]
theorem G0g (o : List Int) {n : Nat} (ho : inV n o) (hl : o.length ≤ 9223372036854775807) : ∀ (d k fuel : Nat) (A : List Int), A.length = n → k + d = o.length → d < fuel →
  w7 o fuel (k : Int) A = some (D8 A k (o.drop k))
 | d, k, 0, A, hA, hd, hf => by omega
 | 0, k, fuel + 1, A, hA, hd, hf => by
  rw [w7.eq_2, if_neg (by simp; omega), C2 (by omega)]; rfl
 | d + 1, k, fuel + 1, A, hA, hd, hf => by
  have hk : k < o.length := by omega
  have hx := R7 hk
  have hin := ho _ (List.mem_of_getElem? hx)
  generalize o[k] = v at hx hin
  have ih := G0g o ho hl d (k + 1) fuel (A.set v.toNat (k : Int)) (by simp [hA]) (by omega) (by omega)
  rw [w7.eq_2, if_pos (by simp; omega), V2 hx, H4 hx, Option.bind_some, giI hA hin.1 hin.2, Option.bind_some, D2 hk hl, ih]
  rfl
theorem H0g (es : List C0) {n : Nat} (hn : inN n es) (hl : es.length ≤ 1099511627776) (P : List Int) (hP : P.length = n) (r m : Int) : ∀ (d k fuel : Nat) (acc : List C0), k + d = es.length → d < fuel → acc.length ≤ k →
  J6 es P fuel (k : Int) r m acc = some (r, m, acc ++ pE P (es.drop k))
 | d, k, 0, acc, hd, hf, ha => by omega
 | 0, k, fuel + 1, acc, hd, hf, ha => by
  rw [J6.eq_2, if_neg (by simp; omega), C2 (by omega)]; simp [pE]
 | d + 1, k, fuel + 1, acc, hd, hf, ha => by
  have hk : k < es.length := by omega
  have he := R7 hk
  have hin := hn _ (List.mem_of_getElem? he)
  generalize es[k] = e at he hin
  obtain ⟨a, l, b⟩ := e
  have ih := fun acc' h => H0g es hn hl P hP r m d (k + 1) fuel acc' (by omega) (by omega) h
  rw [J6.eq_2, if_pos (by simp; omega), V2 he]
  simp only [H4 he, Option.bind_some, giI hP hin.1.1 hin.1.2, giI hP hin.2.1 hin.2.2, D2 hk (show es.length ≤ 9223372036854775807 by omega), pE]
  by_cases c1 : 0 ≤ getI P a
  ·simp only [show decide (getI P a ≥ 0) = true by simpa using c1, U1, Option.bind_some, cond_true, show decide (0 ≤ getI P a) = true by simpa using c1, Bool.true_and]
   by_cases c2 : 0 ≤ getI P b
   ·rw [if_pos (by simpa using c2), H0 (by simp; omega), Option.bind_some, ih _ (by simp; omega)]
    simp [c2]
   ·rw [if_neg (by simpa using c2), ih _ (by omega)]
    simp [c2]
  ·simp only [show decide (getI P a ≥ 0) = false by simpa using c1, F4, Option.bind_some, cond_false, show decide (0 ≤ getI P a) = false by simpa using c1, Bool.false_and]
   rw [if_neg (by simp), ih _ (by omega)]
theorem D0c (r : Int) (n : Nat) (es : List C0) (o : List Int) (hn : inN n es) (ho : inV n o) (hn2 : n ≤ 1000000) (hl : es.length ≤ 1099511627776) (hl2 : o.length ≤ 1099511627776) :
  z9 (r, (n : Int), es) o = some (w6 (r, (n : Int), es) o) := by
 unfold z9
 have h2 := F0g n (by omega) n 0 U0 (by omega) (C1 (by omega))
 have h1 := G0g o ho (by omega) o.length 0 U0 (List.replicate n (-1)) (by simp) (by omega) (C1 (by omega))
 have h0 := H0g es hn hl (plc n o) (E0g n o) r ((o.length : Nat) : Int) es.length 0 U0 [] (by omega) (C1 (by omega)) (Nat.le_refl _)
 rw [show ((0 : Nat) : Int) = 0 from rfl] at h0 h1 h2
 rw [List.replicate_zero, List.nil_append] at h2
 rw [List.drop_zero] at h1
 rw [List.drop_zero, List.nil_append] at h0
 simp only [Int.toNat_natCast]
 rw [H0 (by omega), Option.bind_some, Option.bind_some, List.length_replicate, H0 (by omega), Option.bind_some, h2, Option.bind_some, h1, Option.bind_some]
 rw [show D8 (List.replicate n (-1)) 0 o = plc n o from rfl, h0]
 simp only [Option.bind_some]
 rw [b0e _ (by have := C0c (plc n o) es; omega), Option.bind_some]
 rfl
theorem Y0i (A : List Int) (i k : Nat) : (A.map (· + 1)).set i (((k + 1 : Nat) : Int)) = (A.set i (k : Int)).map (· + 1) := by
 rw [List.map_set]; rfl
theorem Y09 {A : List Int} {n : Nat} (hA : A.length = n) {x : Int} (h0 : 0 ≤ x) (h1 : x < n) : gi (A.map (· + 1)) x = some (getI A x + 1) := by
 have hk : x.toNat < A.length := by omega
 have e : x = ((x.toNat : Nat) : Int) := by omega
 have h2 : gi (A.map (· + 1)) ((x.toNat : Nat) : Int) = some (getI A x + 1) := by
  rw [s07, List.getElem?_map, List.getElem?_eq_getElem hk]
  unfold getI
  rw [List.getD_eq_getElem?_getD, List.getElem?_eq_getElem hk]; rfl
 rw [← e] at h2; exact h2
theorem Z09 {n : Nat} : ∀ (o : List Int) (k : Nat) (A : List Int) (x : Int), A.length = n → inV n o → 0 ≤ x → x ∉ o → getI (D8 A k o) x = getI A x
 | [], k, A, x, hA, ho, hx, h => rfl
 | v :: r, k, A, x, hA, ho, hx, h => by
  have hv := ho v (List.mem_cons_self ..)
  rw [D8, Z09 r _ _ x (by simp [hA]) (fun w hw => ho w (List.mem_cons_of_mem _ hw)) hx (fun hm => h (List.mem_cons_of_mem _ hm)), f01 hv.1 (by omega) hx, if_neg (fun e => h (by rw [e]; exact List.mem_cons_self ..))]
theorem Z0i (r : Int) (n : Nat) (es : List C0) (o : List Int) (ho : inV n o) (hd' : o.Nodup) (hn2 : 1 ≤ n ∧ n ≤ 1000000) (hl : o.length ≤ 1099511627776) : ∀ (d k fuel : Nat) (A : List Int), A.length = n → (∀ x, 0 ≤ x → -1 ≤ getI A x ∧ getI A x ≤ 1099511627776) → (∀ x ∈ o.drop k, getI A x = -1) → k + d = o.length → d < fuel →
  K3 o (n : Int) r es fuel (k : Int) (A.map (· + 1)) = some (.inr ((D8 A k (o.drop k)).map (· + 1)))
 | d, k, 0, A, hA, hr, hm, hd, hf => by omega
 | 0, k, fuel + 1, A, hA, hr, hm, hd, hf => by
  rw [K3.eq_2, if_neg (by simp; omega), C2 (by omega)]; rfl
 | d + 1, k, fuel + 1, A, hA, hr, hm, hd, hf => by
  have hk : k < o.length := by omega
  have hx := R7 hk
  have hin := ho _ (List.mem_of_getElem? hx)
  have hdr := V2 hx
  generalize o[k] = v at hx hin hdr
  have hnd : (o.drop k).Nodup := hd'.sublist (List.drop_sublist _ _)
  rw [hdr] at hnd hm
  have hA0 := hm v (List.mem_cons_self ..)
  have ih := Z0i r n es o ho hd' hn2 hl d (k + 1) fuel (A.set v.toNat (k : Int)) (by simp [hA]) (fun x hx => by
   rw [f01 hin.1 (by omega) hx]; have := hr x hx; split <;> omega) (fun x hx => by
   have hx0 := ho x (List.mem_of_mem_drop hx)
   rw [f01 hin.1 (by omega) hx0.1, if_neg (fun e => (List.nodup_cons.1 hnd).1 (by rw [← e]; exact hx))]
   exact hm x (List.mem_cons_of_mem _ hx)) (by omega) (by omega)
  rw [K3.eq_2, if_pos (by simp; omega), hdr, H4 hx]
  simp only [Option.bind_some, u02, w64 (show -9223372036854775808 ≤ (n : Int) - 1 by omega) (show (n : Int) - 1 ≤ 9223372036854775807 by omega), inR, show decide (0 ≤ v) = true by simpa using hin.1, show decide (v ≤ (n : Int) - 1) = true by simp; omega, Bool.and_self, Bool.not_true, Bool.not_false, U1, Y09 hA hin.1 hin.2, hA0, cond_false]
  rw [if_neg (by decide), D2 hk (by omega), Y0i, ih]
  rfl
theorem a0j (es : List C0) {n : Nat} (hn : inN n es) (hl : es.length ≤ 1099511627776) (P : List Int) (hP : P.length = n) (hr : ∀ x, 0 ≤ x → -1 ≤ getI P x ∧ getI P x ≤ 1099511627776) (r m : Int) : ∀ (d k fuel : Nat) (acc : List C0), k + d = es.length → d < fuel → acc.length ≤ k →
  Z2 es (P.map (· + 1)) fuel (k : Int) r m acc = some (r, m, K7 O0 acc (pE P (es.drop k)))
 | d, k, 0, acc, hd, hf, ha => by omega
 | 0, k, fuel + 1, acc, hd, hf, ha => by
  rw [Z2.eq_2, if_neg (by simp; omega), C2 (by omega)]; rfl
 | d + 1, k, fuel + 1, acc, hd, hf, ha => by
  have hk : k < es.length := by omega
  have he := R7 hk
  have hin := hn _ (List.mem_of_getElem? he)
  generalize es[k] = e at he hin
  obtain ⟨a, l, b⟩ := e
  have ih := fun acc' h => a0j es hn hl P hP hr r m d (k + 1) fuel acc' (by omega) (by omega) h
  have ra := hr a hin.1.1
  have rb := hr b hin.2.1
  rw [Z2.eq_2, if_pos (by simp; omega), V2 he]
  simp only [H4 he, Option.bind_some, Y09 hP hin.1.1 hin.1.2, Y09 hP hin.2.1 hin.2.2, D2 hk (show es.length ≤ 9223372036854775807 by omega), pE]
  by_cases c1 : 0 ≤ getI P a
  ·simp only [show decide (getI P a + 1 > 0) = true by simp; omega, U1, Option.bind_some, cond_true, show decide (0 ≤ getI P a) = true by simpa using c1, Bool.true_and]
   by_cases c2 : 0 ≤ getI P b
   ·rw [if_pos (by simp; omega), w64 (by omega) (by omega), w64 (by omega) (by omega), show getI P a + 1 - 1 = getI P a by omega, show getI P b + 1 - 1 = getI P b by omega]
    rw [A0g _ _ (by omega), Option.bind_some, ih _ (by have := O04 (getI P a, l, getI P b) acc; omega)]
    simp [c2, K7]
   ·rw [if_neg (by simp; omega), ih _ (by omega)]
    simp [c2]
  ·simp only [show decide (getI P a + 1 > 0) = false by simp; omega, F4, Option.bind_some, cond_false, show decide (0 ≤ getI P a) = false by simpa using c1, Bool.false_and]
   rw [if_neg (by simp), ih _ (by omega)]
theorem L05 (r : Int) (n : Nat) (es : List C0) (o : List Int) (hg : T0 (r, (n : Int), es) = true) (ho : inV n o) (hd : o.Nodup) (h1 : 1 ≤ o.length) (h2 : o.length ≤ n) :
  N4 (r, (n : Int), es) o = some (w6 (r, (n : Int), es) o, true) := by
 obtain ⟨q1, q2, q3, q4⟩ := C3 hg
 simp only at q2 q3 q4
 have hn : inN n es := fun e he => ⟨(q1 e he).1, (q1 e he).2.1⟩
 have hG := z7 (r, (n : Int), es) (by simp only; omega)
 unfold N4
 have e1 := Z0i r n es o ho hd (by omega) (by omega) o.length 0 U0 (List.replicate n (-1)) (by simp) (fun x hx => by rw [p04]; omega) (fun x hx => p04 n x) (by omega) (C1 (by omega))
 have e0 := a0j es hn (by omega) (plc n o) (E0g n o) (fun x hx => by have := T02 ho hx; omega) r ((o.length : Nat) : Int) es.length 0 U0 [] (by omega) (C1 (by omega)) (Nat.le_refl _)
 rw [show ((0 : Nat) : Int) = 0 from rfl, List.drop_zero] at e0 e1
 rw [show (List.replicate n (-1 : Int)).map (· + 1) = List.replicate n 0 by simp] at e1
 rw [show D8 (List.replicate n (-1)) 0 o = plc n o from rfl] at e1
 have c1 : decide (((o.length : Nat) : Int) = 0) = false := decide_eq_false (by omega)
 have c2 : decide (((o.length : Nat) : Int) > (n : Int)) = false := decide_eq_false (by omega)
 simp only [hG, hg, Option.bind_some, Bool.not_true, cond_false, Int.toNat_natCast, c1, c2]
 rw [if_neg (by simp), H0 (by omega), Option.bind_some, e1]
 simp only [Option.bind_some, l9, e0]
 rfl
end Go.Proofs.YtknoadmdnjaocaaGreat
namespace Go.Proofs.YtknoadmdnjaocaaGreat
open Go.H
set_option linter.unusedVariables false
set_option linter.unusedSimpArgs false
theorem a9 : ∀ (n : Nat) (o : List Int), o.Nodup → inV n o → o.length ≤ n
 | 0, [], _, _ => Nat.le_refl _
 | 0, x :: r, _, h => by have := h x (List.mem_cons_self ..); omega
 | n + 1, o, hd, h => by
  have h1 : inV n (o.erase (n : Int)) := fun x hx => by
   obtain ⟨hne, hm⟩ := (List.Nodup.mem_erase_iff hd).1 hx
   have := h x hm; omega
  have h2 := a9 n _ (hd.erase _) h1
  by_cases hm : (n : Int) ∈ o
  ·rw [List.length_erase_of_mem hm] at h2; omega
  ·rw [List.erase_of_not_mem hm] at h2; omega
def E5 : Nat → Nat → List Int
 | 0, _ => []
 | d + 1, i => (i : Int) :: -(i : Int) :: E5 d (i + 1)
theorem B9 : ∀ d i, (E5 d i).length = 2 * d
 | 0, i => rfl
 | d + 1, i => by simp only [E5, List.length_cons, B9 d]; omega
theorem E0c : ∀ (d i : Nat), i + d ≤ 1000 → ∀ x ∈ E5 d i, Y9 x
 | 0, i, h, x, hx => nomatch hx
 | d + 1, i, h, x, hx => by
  simp only [E5, List.mem_cons] at hx
  rcases hx with rfl | rfl | hx
  ·exact ⟨⟨by omega, by omega⟩, by omega⟩
  ·exact ⟨⟨by omega, by omega⟩, by omega⟩
  ·exact E0c d (i + 1) (by omega) x hx
theorem b0j (R : Nat) (hR : R ≤ 900) : ∀ (d i fuel : Nat) (acc : List Int), i + d = R + 1 → d < fuel → acc.length + 2 * d ≤ 10000 →
  K5 (R : Int) fuel (i : Int) acc = some (acc ++ E5 d i)
 | d, i, 0, acc, hd, hf, ha => by omega
 | 0, i, fuel + 1, acc, hd, hf, ha => by
  rw [K5.eq_2, if_neg (by simp; omega)]; simp [E5]
 | d + 1, i, fuel + 1, acc, hd, hf, ha => by
  have ih := b0j R hR d (i + 1) fuel (acc ++ [(i : Int), -(i : Int)]) (by omega) (by omega) (by simp; omega)
  have w1 : IntKind.i64.wrap (0 - (i : Int)) = -(i : Int) := by rw [w64 (by omega) (by omega)]; omega
  rw [K5.eq_2, if_pos (by simp; omega), w1, H0 (by simp; omega), Option.bind_some, D2 (show i < 1000 by omega) (by omega), ih]
  simp [E5]
theorem c0j (R : Nat) (hR : R ≤ 900) : ∀ (d i fuel : Nat) (acc : List Int), i + d = R + 1 → d < fuel → acc.length + 2 * d ≤ 10000 →
  O4 (R : Int) fuel (i : Int) acc = some (acc ++ E5 d i)
 | d, i, 0, acc, hd, hf, ha => by omega
 | 0, i, fuel + 1, acc, hd, hf, ha => by
  rw [O4.eq_2, if_neg (by simp; omega)]; simp [E5]
 | d + 1, i, fuel + 1, acc, hd, hf, ha => by
  have ih := c0j R hR d (i + 1) fuel ((acc ++ [(i : Int)]) ++ [-(i : Int)]) (by omega) (by omega) (by simp; omega)
  have w1 : IntKind.i64.wrap (0 - (i : Int)) = -(i : Int) := by rw [w64 (by omega) (by omega)]; omega
  rw [O4.eq_2, if_pos (by simp; omega), w1, H0 (by simp; omega), Option.bind_some, H0 (by simp; omega), Option.bind_some, D2 (show i < 1000 by omega) (by omega), ih]
  simp [E5]
theorem v0f (R : Nat) (hR : R ≤ 900) : Z5 (R : Int) = some (E5 R 1) := by
 unfold Z5
 rw [show (1 : Int) = ((1 : Nat) : Int) from rfl, b0j R hR R 1 U0 [] (by omega) (C1 (by omega)) (by simp; omega)]; rfl
theorem w0f (R : Nat) (hR : R ≤ 900) : J5 (R : Int) = some (E5 R 1) := by
 unfold J5
 rw [show (1 : Int) = ((1 : Nat) : Int) from rfl, c0j R hR R 1 U0 [] (by omega) (C1 (by omega)) (by simp; omega)]; rfl
def H03 (u : List Int) (x : Int) : List Int := if 0 ≤ x ∧ x ∉ u then u ++ [x] else u
def e00 (g : j0) (v : Int) : List Int → List Int → List Int
 | [], u => u
 | x :: r, u => e00 g v r (H03 u (j1 g v x))
def V6 (g : j0) (ls : List Int) : Nat → Nat → List Int → List Int
 | 0, i, u => u
 | f + 1, i, u => match u[i]? with
  | some v => V6 g ls f (i + 1) (e00 g v ls u)
  | none => u
def gud (n : Nat) (u : List Int) : Prop := u.Nodup ∧ inV n u
theorem I0g {n : Nat} {u : List Int} {x : Int} (h : gud n u) (hx : x = -1 ∨ (0 ≤ x ∧ x < (n : Int))) : gud n (H03 u x) := by
 unfold H03
 split
 ·rename_i hc
  refine ⟨List.nodup_append.2 ⟨h.1, by simp, fun a ha b hb => ?_⟩, fun y hy => ?_⟩
  ·simp at hb; subst hb; exact fun e => hc.2 (e ▸ ha)
  ·rcases List.mem_append.1 hy with hy | hy
   ·exact h.2 y hy
   ·simp at hy; subst hy; omega
 ·exact h
theorem a0a (u : List Int) (x : Int) : ∃ t, H03 u x = u ++ t := by
 unfold H03; split
 ·exact ⟨_, rfl⟩
 ·exact ⟨[], by simp⟩
theorem q00 (g : j0) (v : Int) : ∀ (ls u : List Int), ∃ t, e00 g v ls u = u ++ t
 | [], u => ⟨[], by simp [e00]⟩
 | x :: r, u => by
  obtain ⟨t1, e1⟩ := a0a u (j1 g v x)
  obtain ⟨t2, e2⟩ := q00 g v r (H03 u (j1 g v x))
  exact ⟨t1 ++ t2, by rw [e00, e2, e1, List.append_assoc]⟩
theorem u01 {r : Int} {n : Nat} {es : List C0} (hg : inG (r, (n : Int), es)) (v : Int) : ∀ (ls u : List Int), gud n u → gud n (e00 (r, (n : Int), es) v ls u)
 | [], u, h => h
 | x :: l, u, h => u01 hg v l _ (I0g h (m02 hg v x))
theorem b0a {r : Int} {n : Nat} {es : List C0} (hg : inG (r, (n : Int), es)) (ls : List Int) : ∀ (f i : Nat) (u : List Int), gud n u → gud n (V6 (r, (n : Int), es) ls f i u)
 | 0, i, u, h => h
 | f + 1, i, u, h => by
  unfold V6
  split
  ·exact b0a hg ls f _ _ (u01 hg _ _ _ h)
  ·exact h
theorem c0a (g : j0) (ls : List Int) : ∀ (f i : Nat) (u : List Int), u.length ≤ (V6 g ls f i u).length
 | 0, i, u => Nat.le_refl _
 | f + 1, i, u => by
  unfold V6
  split
  ·rename_i v _
   obtain ⟨t, e⟩ := q00 g v ls u
   have := c0a g ls f (i + 1) (e00 g v ls u)
   rw [e] at this ⊢; simp only [List.length_append] at this; omega
  ·exact Nat.le_refl _
theorem J0g (r : Int) (n : Nat) (es : List C0) (hg : inG (r, (n : Int), es)) (hn : n ≤ 40) (hes : es.length ≤ 1099511627776) (ls : List Int) (hls : ∀ x ∈ ls, Y9 x) (hl : ls.length ≤ 1000000) (i : Nat) (v : Int) : ∀ (d k fuel : Nat) (u : List Int), gud n u → u[i]? = some v → k + d = ls.length → d < fuel →
  P2 ls (i : Int) r (n : Int) es fuel (k : Int) u = some (e00 (r, (n : Int), es) v (ls.drop k) u)
 | d, k, 0, u, hu, hi, hd, hf => by omega
 | 0, k, fuel + 1, u, hu, hi, hd, hf => by
  rw [P2.eq_2, if_neg (by simp; omega), C2 (by omega)]; rfl
 | d + 1, k, fuel + 1, u, hu, hi, hd, hf => by
  have hk : k < ls.length := by omega
  have hx := R7 hk
  have hxm := hls _ (List.mem_of_getElem? hx)
  have hdr := V2 hx
  generalize ls[k] = x at hx hxm hdr
  have hlen := a9 n u hu.1 hu.2
  have hnx : j1 (r, (n : Int), es) v x = -1 ∨ (0 ≤ j1 (r, (n : Int), es) v x ∧ j1 (r, (n : Int), es) v x < (n : Int)) := m02 hg v x
  have hg2 := I0g hu hnx
  have hi2 : (H03 u (j1 (r, (n : Int), es) v x))[i]? = some v := by
   obtain ⟨t, e⟩ := a0a u (j1 (r, (n : Int), es) v x)
   rw [e, List.getElem?_append_left (List.getElem?_eq_some_iff.1 hi).1]; exact hi
  have ih := J0g r n es hg hn hes ls hls hl i v d (k + 1) fuel _ hg2 hi2 (by omega) (by omega)
  rw [P2.eq_2, if_pos (by simp; omega), hdr]
  simp only [H4 hi, H4 hx, Option.bind_some, H05 (r, (n : Int), es) v x hxm hes, H0 (N04 hg (show (n : Int) ≤ 40 by omega) v x), D2 hk (show ls.length ≤ 9223372036854775807 by omega), e00]
  rw [← ih]
  generalize j1 (r, (n : Int), es) v x = y at *
  unfold H03
  by_cases c1 : 0 ≤ y
  ·simp only [show decide (y ≥ 0) = true by simpa using c1, U1, S08 u y (by omega), Option.bind_some, cond_true]
   by_cases c2 : y ∈ u
   ·rw [if_neg (by simp [c2]), if_neg (by simp [c2])]
   ·rw [if_pos (by simp [c2]), if_pos ⟨c1, c2⟩, H0 (by simp; omega), Option.bind_some]
  ·simp only [show decide (y ≥ 0) = false by simpa using c1, F4, Option.bind_some, cond_false]
   rw [if_neg (by simp), if_neg (fun h => c1 h.1)]
theorem K0g (r : Int) (n : Nat) (es : List C0) (hg : inG (r, (n : Int), es)) (hn : n ≤ 40) (hes : es.length ≤ 1099511627776) (ls : List Int) (hls : ∀ x ∈ ls, Y9 x) (hl : ls.length ≤ 1000000) : ∀ (f i fuel : Nat) (u : List Int), gud n u → i ≤ u.length → n + 1 ≤ i + f → f < fuel →
  c4 ls r (n : Int) es fuel (i : Int) u = some (V6 (r, (n : Int), es) ls f i u)
 | f, i, 0, u, hu, hi, hd, hf => by omega
 | 0, i, fuel + 1, u, hu, hi, hd, hf => by have := a9 n u hu.1 hu.2; omega
 | f + 1, i, fuel + 1, u, hu, hi, hd, hf => by
  have hlen := a9 n u hu.1 hu.2
  rw [c4.eq_2, Option.bind_some, H0 (by omega), Option.bind_some]
  by_cases hk : i < u.length
  ·have hx := R7 hk
   generalize u[i] = v at hx
   have h0 := J0g r n es hg hn hes ls hls hl i v ls.length 0 U0 u hu hx (by omega) (C1 (by omega))
   rw [show ((0 : Nat) : Int) = 0 from rfl, List.drop_zero] at h0
   obtain ⟨t, e⟩ := q00 (r, (n : Int), es) v ls u
   have ih := K0g r n es hg hn hes ls hls hl f (i + 1) fuel _ (u01 hg v ls u hu) (by rw [e, List.length_append]; omega) (by omega) (by omega)
   rw [if_pos (by simpa using hk), h0, Option.bind_some, D2 hk (by omega), ih]
   simp only [V6, hx]
  ·have hx : u[i]? = none := List.getElem?_eq_none (by omega)
   rw [if_neg (by simpa using hk)]
   simp only [V6, hx]
def I4 (g : j0) : List Int := V6 g (E5 g.1.toNat 1) (g.2.1.toNat + 1) 0 [0]
theorem Q04 {g : j0} (hf : K0 g = true) : gud g.2.1.toNat (I4 g) ∧ 1 ≤ (I4 g).length := by
 obtain ⟨h1, h2, h3, h4⟩ := M1 hf
 obtain ⟨r, n, es⟩ := g
 simp only at h2 h3 h4
 obtain ⟨N, rfl⟩ : ∃ N : Nat, n = (N : Int) := ⟨n.toNat, by omega⟩
 refine ⟨?_, ?_⟩
 ·exact b0a h1 _ _ _ _ ⟨by simp, fun x hx => by simp at hx; subst hx; show (0 : Int) ≤ 0 ∧ (0 : Int) < (((N : Int).toNat : Nat) : Int); omega⟩
 ·exact c0a _ _ _ _ [0]
theorem f0e (g : j0) (hf : K0 g = true) : C6 g = some (I4 g) := by
 obtain ⟨h1, h2, h3, h4⟩ := M1 hf
 have hF := A9 g (by omega)
 obtain ⟨r, n, es⟩ := g
 simp only at h2 h3 h4
 obtain ⟨N, rfl⟩ : ∃ N : Nat, n = (N : Int) := ⟨n.toNat, by omega⟩
 obtain ⟨R, rfl⟩ : ∃ R : Nat, r = (R : Int) := ⟨r.toNat, by omega⟩
 unfold C6
 have h0 := K0g (R : Int) N es h1 (by omega) (by omega) (E5 R 1) (E0c R 1 (by omega)) (by rw [B9]; omega) (N + 1) 0 U0 [0] ⟨by simp, fun x hx => by simp at hx; subst hx; omega⟩ (by simp) (by omega) (C1 (by omega))
 simp only [hF, hf, Option.bind_some, Bool.not_true, w0f R (by omega)]
 rw [show ((0 : Nat) : Int) = 0 from rfl] at h0
 rw [if_neg (by simp), h0]
 rfl
theorem L0g {a : List Int} (la : a.length ≤ 1099511627776) : U7 a = some a := by
 unfold U7
 rw [H0 (by simp; omega)]; rfl
def A6 (W : List (Option (List Int))) (x : Int) : Option (List Int) := W.getD x.toNat none
theorem giO {W : List (Option (List Int))} {n : Nat} (hl : W.length = n) {x : Int} (h0 : 0 ≤ x) (h1 : x < n) : gi W x = some (A6 W x) := by
 have hk : x.toNat < W.length := by omega
 have e : x = ((x.toNat : Nat) : Int) := by omega
 have h2 : gi W ((x.toNat : Nat) : Int) = some (A6 W x) := by
  rw [s07, List.getElem?_eq_getElem hk]
  unfold A6
  rw [List.getD_eq_getElem?_getD, List.getElem?_eq_getElem hk]; rfl
 rw [← e] at h2; exact h2
theorem H8 {A : List (Option (List Int))} {v x : Int} {y : Option (List Int)} (h0 : 0 ≤ v) (h1 : v.toNat < A.length) (hx : 0 ≤ x) : A6 (A.set v.toNat y) x = if x = v then y else A6 A x := by
 unfold A6
 rw [List.getD_eq_getElem?_getD, List.getD_eq_getElem?_getD, List.getElem?_set]
 by_cases c : x = v
 ·rw [if_pos c, if_pos (by rw [c]), if_pos h1]; rfl
 ·rw [if_neg c, if_neg (by omega)]
structure WOk (n : Nat) (W : List (Option (List Int))) (u : List Int) : Prop where
 len : W.length = n
 iff : ∀ x, 0 ≤ x → x < (n : Int) → ((A6 W x).isNone = true ↔ x ∉ u)
 short : ∀ x, ((A6 W x).getD []).length ≤ u.length
theorem M0g (r : Int) (n : Nat) (es : List C0) (hg : inG (r, (n : Int), es)) (hn : n ≤ 40) (hes : es.length ≤ 1099511627776) (ls : List Int) (hls : ∀ x ∈ ls, Y9 x) (hl : ls.length ≤ 1000000) (v : Int) (hv : 0 ≤ v ∧ v < (n : Int)) : ∀ (d k fuel : Nat) (W : List (Option (List Int))) (u : List Int), gud n u → WOk n W u → k + d = ls.length → d < fuel →
  ∃ W', Q1 ls r (n : Int) es v fuel (k : Int) W u = some (W', e00 (r, (n : Int), es) v (ls.drop k) u) ∧ WOk n W' (e00 (r, (n : Int), es) v (ls.drop k) u)
 | d, k, 0, W, u, hu, hw, hd, hf => by omega
 | 0, k, fuel + 1, W, u, hu, hw, hd, hf => by
  rw [Q1.eq_2, if_neg (by simp; omega), C2 (by omega)]; exact ⟨W, rfl, hw⟩
 | d + 1, k, fuel + 1, W, u, hu, hw, hd, hf => by
  have hk : k < ls.length := by omega
  have hx := R7 hk
  have hxm := hls _ (List.mem_of_getElem? hx)
  have hdr := V2 hx
  generalize ls[k] = x at hx hxm hdr
  have hlen := a9 n u hu.1 hu.2
  have hnx : j1 (r, (n : Int), es) v x = -1 ∨ (0 ≤ j1 (r, (n : Int), es) v x ∧ j1 (r, (n : Int), es) v x < (n : Int)) := m02 hg v x
  have hg2 := I0g hu hnx
  have ih := fun W' h => M0g r n es hg hn hes ls hls hl v hv d (k + 1) fuel W' _ hg2 h (by omega) (by omega)
  rw [Q1.eq_2, if_pos (by simp; omega), hdr]
  simp only [H4 hx, Option.bind_some, I05 (r, (n : Int), es) v x hxm hes, H0 (N04 hg (show (n : Int) ≤ 40 by omega) v x), D2 hk (show ls.length ≤ 9223372036854775807 by omega), e00]
  generalize j1 (r, (n : Int), es) v x = y at *
  by_cases c1 : 0 ≤ y
  ·have hy : y < (n : Int) := by omega
   simp only [show decide (y ≥ 0) = true by simpa using c1, U1, giO hw.len c1 hy, Option.bind_some, cond_true]
   by_cases c2 : y ∈ u
   ·have : ¬ ((A6 W y).isNone = true) := fun h => (hw.iff y c1 hy).1 h c2
    have e : H03 u y = u := if_neg fun h => h.2 c2
    rw [if_neg this]
    rw [e] at ih ⊢
    exact ih W hw
   ·have : (A6 W y).isNone = true := (hw.iff y c1 hy).2 c2
    have e : H03 u y = u ++ [y] := if_pos ⟨c1, c2⟩
    have hs := hw.short v
    rw [if_pos this, giO hw.len hv.1 hv.2, Option.bind_some, L0g (by omega), Option.bind_some, H0 (by simp; omega), Option.bind_some, H0 (by simp; omega), Option.bind_some]
    rw [e] at ih ⊢
    refine ih _ ⟨by simp [hw.len], fun z h0 h1 => ?_, fun z => ?_⟩
    ·rw [H8 c1 (by have := hw.len; omega) h0]
     by_cases c : z = y
     ·rw [if_pos c]; simp [c]
     ·rw [if_neg c, hw.iff z h0 h1]; simp [c]
    ·by_cases hz : 0 ≤ z
     ·rw [H8 c1 (by have := hw.len; omega) hz]
      by_cases c : z = y
      ·rw [if_pos c]; simp; exact hs
      ·rw [if_neg c]; have := hw.short z; simp only [List.length_append]; omega
     ·have hz0 : A6 (W.set y.toNat (some ((A6 W v).getD [] ++ [x]))) z = A6 (W.set y.toNat (some ((A6 W v).getD [] ++ [x]))) 0 := by
       unfold A6; rw [show z.toNat = (0 : Int).toNat by omega]
      rw [hz0, H8 c1 (by have := hw.len; omega) (Int.le_refl 0)]
      by_cases c : (0 : Int) = y
      ·rw [if_pos c]; simp; exact hs
      ·rw [if_neg c]; have := hw.short 0; simp only [List.length_append]; omega
  ·have e : H03 u y = u := if_neg fun h => c1 h.1
   simp only [show decide (y ≥ 0) = false by simpa using c1, F4, Option.bind_some, cond_false]
   rw [if_neg (by simp)]
   rw [e] at ih ⊢
   exact ih W hw
theorem N0g (R n : Nat) (hR : R ≤ 900) (es : List C0) (hg : inG ((R : Int), (n : Int), es)) (hn : n ≤ 40) (hes : es.length ≤ 1099511627776) : ∀ (f i fuel : Nat) (W : List (Option (List Int))) (u : List Int), gud n u → WOk n W u → i ≤ u.length → n + 1 ≤ i + f → f < fuel →
  ∃ W', Y2 (R : Int) (n : Int) es fuel (i : Int) W u = some (W', V6 ((R : Int), (n : Int), es) (E5 R 1) f i u)
 | f, i, 0, W, u, hu, hw, hi, hd, hf => by omega
 | 0, i, fuel + 1, W, u, hu, hw, hi, hd, hf => by have := a9 n u hu.1 hu.2; omega
 | f + 1, i, fuel + 1, W, u, hu, hw, hi, hd, hf => by
  have hlen := a9 n u hu.1 hu.2
  rw [Y2.eq_2, Option.bind_some, H0 (by omega), Option.bind_some]
  by_cases hk : i < u.length
  ·have hx := R7 hk
   have hv := hu.2 _ (List.mem_of_getElem? hx)
   generalize u[i] = v at hx hv
   obtain ⟨W1, h0, hw1⟩ := M0g (R : Int) n es hg hn hes (E5 R 1) (E0c R 1 (by omega)) (by rw [B9]; omega) v hv (E5 R 1).length 0 U0 W u hu hw (by omega) (C1 (by rw [B9]; omega))
   rw [show ((0 : Nat) : Int) = 0 from rfl, List.drop_zero] at h0
   rw [List.drop_zero] at hw1
   obtain ⟨t, e⟩ := q00 ((R : Int), (n : Int), es) v (E5 R 1) u
   obtain ⟨W2, ih⟩ := N0g R n hR es hg hn hes f (i + 1) fuel W1 _ (u01 hg v _ u hu) hw1 (by rw [e, List.length_append]; omega) (by omega) (by omega)
   rw [if_pos (by simpa using hk), H4 hx, Option.bind_some, v0f R hR, Option.bind_some, h0, Option.bind_some]
   simp only [D2 hk (show u.length ≤ 9223372036854775807 by omega), ih, V6, hx]
   exact ⟨_, rfl⟩
  ·have hx : u[i]? = none := List.getElem?_eq_none (by omega)
   rw [if_neg (by simpa using hk)]
   simp only [V6, hx]
   exact ⟨_, rfl⟩
theorem g0e (g : j0) (hf : K0 g = true) : D6 g = some (I4 g) := by
 obtain ⟨h1, h2, h3, h4⟩ := M1 hf
 have hF := j8 g (by omega)
 obtain ⟨r, n, es⟩ := g
 simp only at h2 h3 h4
 obtain ⟨N, rfl⟩ : ∃ N : Nat, n = (N : Int) := ⟨n.toNat, by omega⟩
 obtain ⟨R, rfl⟩ : ∃ R : Nat, r = (R : Int) := ⟨r.toNat, by omega⟩
 unfold D6
 have hrep : ∀ x, A6 (List.replicate N (none : Option (List Int))) x = none := fun x => by
  unfold A6
  rw [List.getD_eq_getElem?_getD, List.getElem?_replicate]; split <;> rfl
 have hW : WOk N ((List.replicate N (none : Option (List Int))).set (0 : Int).toNat (some [])) [0] := by
  refine ⟨by simp, fun x h0 h1 => ?_, fun x => ?_⟩
  ·rw [H8 (Int.le_refl 0) (by simp; omega) h0]
   by_cases c : x = 0
   ·rw [if_pos c]; simp [c]
   ·rw [if_neg c, hrep]; simp [c]
  ·by_cases hz : 0 ≤ x
   ·rw [H8 (Int.le_refl 0) (by simp; omega) hz]
    split
    ·simp
    ·rw [hrep]; simp
   ·have : A6 ((List.replicate N (none : Option (List Int))).set (0 : Int).toNat (some [])) x = A6 ((List.replicate N (none : Option (List Int))).set (0 : Int).toNat (some [])) 0 := by
     unfold A6; rw [show x.toNat = (0 : Int).toNat by omega]
    rw [this, H8 (Int.le_refl 0) (by simp; omega) (Int.le_refl 0), if_pos rfl]; simp
 obtain ⟨W', h0⟩ := N0g R N (by omega) es h1 (by omega) (by omega) (N + 1) 0 U0 _ [0] ⟨by simp, fun x hx => by simp at hx; subst hx; omega⟩ hW (by simp) (by omega) (C1 (by omega))
 have hg0 : gi (List.replicate N (none : Option (List Int))) 0 = some none := by
  rw [y0c (x := none)]; rw [List.getElem?_replicate, if_pos (by omega)]
 simp only [hF, hf, Option.bind_some, Bool.not_true, c9, Int.toNat_natCast]
 rw [if_neg (by simp), H0 (by omega), Option.bind_some, hg0, Option.bind_some]
 rw [show ((0 : Nat) : Int) = 0 from rfl] at h0
 rw [h0]
 rfl
def M2 (g : j0) : j0 := w6 g (I4 g)
theorem m08 (g : j0) (hf : K0 g = true) : w5 g = some (M2 g) := by
 obtain ⟨h1, h2, h3, h4⟩ := M1 hf
 have hF := j8 g (by omega)
 have hO := g0e g hf
 obtain ⟨ho, ho1⟩ := Q04 hf
 have hle := a9 _ _ ho.1 ho.2
 obtain ⟨r, n, es⟩ := g
 simp only at h2 h3 h4
 obtain ⟨N, rfl⟩ : ∃ N : Nat, n = (N : Int) := ⟨n.toNat, by omega⟩
 simp only [Int.toNat_natCast] at ho hle
 have hp := D0c r N es (I4 (r, (N : Int), es)) (fun e he => ⟨(h1 e he).1, (h1 e he).2.1⟩) ho.2 (by omega) (by omega) (by omega)
 unfold w5
 simp only [hF, hf, Option.bind_some, Bool.not_true, hO, hp]
 rfl
theorem n08 (g : j0) (hf : K0 g = true) : s5 g = some (M2 g) := by
 obtain ⟨h1, h2, h3, h4⟩ := M1 hf
 have hG : T0 g = true := by
  unfold K0 at hf; exact (Bool.and_eq_true _ _ ▸ hf).1
 have hO := f0e g hf
 obtain ⟨ho, ho1⟩ := Q04 hf
 have hle := a9 _ _ ho.1 ho.2
 obtain ⟨r, n, es⟩ := g
 simp only at h2 h3 h4
 obtain ⟨N, rfl⟩ : ∃ N : Nat, n = (N : Int) := ⟨n.toNat, by omega⟩
 simp only [Int.toNat_natCast] at ho hle
 have hp := L05 r N es (I4 (r, (N : Int), es)) hG ho.2 ho.1 ho1 hle
 unfold s5
 simp only [Option.bind_some, hO, hp]
 rw [if_neg (by simp; intro h; rw [h] at ho1; simp at ho1)]
 rfl
end Go.Proofs.YtknoadmdnjaocaaGreat
namespace Go.Proofs.YtknoadmdnjaocaaGreat
open Go.H
set_option linter.unusedVariables false
set_option linter.unusedSimpArgs false
def lf (bad : Nat → Bool) : Nat → Nat → Option Nat
 | 0, v => none
 | d + 1, v => bif bad v then some v else lf bad d (v + 1)
theorem r04 {bad : Nat → Bool} : ∀ (d v k : Nat), lf bad d v = some k → v ≤ k ∧ k < v + d
 | 0, v, k, h => by cases h
 | d + 1, v, k, h => by
  unfold lf at h
  cases hb : bad v
  ·rw [hb] at h; have := r04 d (v + 1) k h; omega
  ·rw [hb] at h; cases h; omega
theorem d0a {b1 b2 : Nat → Bool} : ∀ (d v : Nat), (∀ k, v ≤ k → k < v + d → b1 k = b2 k) → lf b1 d v = lf b2 d v
 | 0, v, h => rfl
 | d + 1, v, h => by unfold lf; rw [h v (Nat.le_refl _) (by omega), d0a d (v + 1) fun k h1 h2 => h k (by omega) (by omega)]
def B0h (es : List C0) : List Int := itS es (es.length + 1) [0]
def G06 (es : List C0) (v : Nat) : Bool := decide (B00 (v : Int) es < 2) || !decide ((v : Int) ∈ B0h es)
def t7 (g : j0) : Option Nat := lf (G06 g.2.2) (g.2.1.toNat - 1) 1
theorem x0f (g : j0) (hg : T0 g = true) : L7 g 0 = some (B0h g.2.2) ∧ (B0h g.2.2).length ≤ 100000 := by
 obtain ⟨h1, h2, h3, h4⟩ := C3 hg
 have hq := z7 g (by omega)
 obtain ⟨r, n, es⟩ := g
 simp only at h2 h3 h4
 unfold L7 B0h
 have hl := W09 es h4 (es.length + 1) 0 U0 [0] (by omega) (C1 (by omega)) (by simp)
 have hlen := B0g es (es.length + 1) [0]
 refine ⟨?_, ?_⟩
 ·rw [show ((0 : Nat) : Int) = 0 from rfl] at hl
  simp only [hq, hg, Option.bind_some, Bool.not_true, Bool.not_false, U1, u02, inR, w64 (show -9223372036854775808 ≤ n - 1 by omega) (show n - 1 ≤ 9223372036854775807 by omega)]
  rw [if_neg (by simp; omega), hl]; rfl
 ·have : (es.length + 1) * (2 * es.length) ≤ 121 * 240 := Nat.mul_le_mul (by omega) (by omega)
  simp only [List.length_singleton] at hlen
  simp only
  omega
theorem d0j (r : Int) (n : Nat) (es : List C0) (hes : es.length ≤ 1000) (u : List Int) (hu : u.length ≤ 100000) (hn : n ≤ 40) : ∀ (d v fuel : Nat), v + d = n ∨ (d = 0 ∧ n ≤ v) → v ≤ 1000 → d < fuel →
  p6 (n : Int) r es u fuel (v : Int) = some (match lf (fun v => decide (B00 (v : Int) es < 2) || !decide ((v : Int) ∈ u)) d v with | some k => .inl (k : Int) | none => .inr ())
 | d, v, 0, hd, hv, hf => by omega
 | 0, v, fuel + 1, hd, hv, hf => by
  rw [p6.eq_2, if_neg (by simp; omega)]; rfl
 | d + 1, v, fuel + 1, hd, hv, hf => by
  have ih := d0j r n es hes u hu hn d (v + 1) fuel (by omega) (by omega) (by omega)
  have hdeg := A0c (v : Int) es
  rw [p6.eq_2, if_pos (by simp; omega), q0b (r, (n : Int), es) _ (by simp only; omega), Option.bind_some, H0 (c64 (by simp only; omega) (by simp only; omega)), Option.bind_some, D2 (show v < 10000 by omega) (by omega)]
  unfold lf
  by_cases c1 : B00 (v : Int) es < 2
  ·have e1 : decide (((B00 (v : Int) es : Nat) : Int) < 2) = true := decide_eq_true (by omega)
   simp only [e1, Bool.not_true, F4, Option.bind_some, cond_true, if_true, decide_eq_true c1, Bool.true_or]
  ·have e1 : decide (((B00 (v : Int) es : Nat) : Int) < 2) = false := decide_eq_false (by omega)
   simp only [e1, Bool.not_false, U1, S08 u _ (show u.length ≤ 9223372036854775807 by omega), Option.bind_some, cond_false, decide_eq_false c1, Bool.false_or]
   by_cases c2 : (v : Int) ∈ u
   ·simp only [decide_eq_true c2, Bool.not_true, Bool.false_eq_true, if_false, cond_false]; exact ih
   ·simp only [decide_eq_false c2, Bool.not_false, if_true, cond_true]
theorem e0j (g : j0) (hg : T0 g = true) : U8 g = some (match t7 g with | some k => (k : Int) | none => -1) := by
 obtain ⟨e1, e2⟩ := x0f g hg
 obtain ⟨h1, h2, h3, h4⟩ := C3 hg
 obtain ⟨r, n, es⟩ := g
 simp only at h2 h3 h4 e1 e2
 obtain ⟨N, rfl⟩ : ∃ N : Nat, n = (N : Int) := ⟨n.toNat, by omega⟩
 unfold U8 t7
 have hl := d0j r N es (by omega) (B0h es) e2 (by omega) (N - 1) 1 U0 (by omega) (by omega) (C1 (by omega))
 simp only [e1, Option.bind_some, Int.toNat_natCast]
 rw [show (1 : Int) = ((1 : Nat) : Int) from rfl, hl]
 rw [show (fun v : Nat => decide (B00 (v : Int) es < 2) || !decide ((v : Int) ∈ B0h es)) = G06 es from rfl]
 cases lf (G06 es) (N - 1) 1 <;> rfl
theorem F0c (r : Int) (n : Nat) (es : List C0) (hes : es.length ≤ 1000) (S : List Bool) (hS : S.length = n) (hn : n ≤ 40) : ∀ (d v fuel : Nat), 1 ≤ v → v + d = n ∨ (d = 0 ∧ n ≤ v) → v ≤ 1000 → d + 1 < fuel →
  n3 (n : Int) r es S fuel 0 (v : Int) = some (match lf (fun v => decide (B00 (v : Int) es < 2) || !C7 S (v : Int)) d v with | some k => (k : Int) | none => 0)
 | d, v, 0, h1, hd, hv, hf => by omega
 | 0, v, fuel + 1, h1, hd, hv, hf => by
  have e : decide ((v : Int) < (n : Int)) = false := decide_eq_false (by omega)
  rw [n3.eq_2, if_neg (by rw [e]; simp)]; rfl
 | d + 1, v, fuel + 1, h1, hd, hv, hf => by
  have ih := F0c r n es hes S hS hn d (v + 1) fuel (by omega) (by omega) (by omega) (by omega)
  have hdeg := A0c (v : Int) es
  have e : decide ((v : Int) < (n : Int)) = true := decide_eq_true (by omega)
  have hfin : ∀ w : Int, n3 (n : Int) r es S fuel (v : Int) w = some (v : Int) := fun w => by
   obtain _ | fuel := fuel
   ·omega
   ·have e2 : decide ((v : Int) = 0) = false := decide_eq_false (by omega)
    have e3 : ∀ b : Bool, (bif b then false else false) = false := fun b => by cases b <;> rfl
    rw [n3.eq_2, if_neg (by rw [e2, e3]; simp)]
  rw [n3.eq_2, if_pos (by rw [e]; rfl), A0h (r, (n : Int), es) _ (by simp only; omega), Option.bind_some, H0 (c64 (by simp only; omega) (by simp only; omega)), Option.bind_some, D2 (show v < 10000 by omega) (by omega)]
  unfold lf
  by_cases c1 : B00 (v : Int) es < 2
  ·have e1 : decide (((B00 (v : Int) es : Nat) : Int) < 2) = true := decide_eq_true (by omega)
   simp only [e1, Bool.not_true, F4, Option.bind_some, cond_true, if_true, decide_eq_true c1, Bool.true_or, hfin]
  ·have e1 : decide (((B00 (v : Int) es : Nat) : Int) < 2) = false := decide_eq_false (by omega)
   simp only [e1, Bool.not_false, U1, giB hS (show (0 : Int) ≤ (v : Int) by omega) (show (v : Int) < (n : Int) by omega), Option.bind_some, cond_false, decide_eq_false c1, Bool.false_or]
   cases hb : C7 S (v : Int)
   ·simp only [Bool.not_false, if_true, cond_true, hfin]
   ·simp only [Bool.not_true, Bool.false_eq_true, if_false, cond_false]; exact ih
def wo (g : Nat) : Nat → Nat → List Int
 | 0, k => []
 | d + 1, k => if k = g then wo g d (k + 1) else (k : Int) :: wo g d (k + 1)
theorem e0a (g : Nat) : ∀ (d k : Nat), (wo g d k).length = d - (if k ≤ g ∧ g < k + d then 1 else 0)
 | 0, k => by simp [wo]
 | d + 1, k => by
  have ih := e0a g d (k + 1)
  unfold wo
  by_cases c : k = g
  ·rw [if_pos c, ih, if_neg (by omega), if_pos (by omega)]; omega
  ·rw [if_neg c, List.length_cons, ih]
   by_cases c2 : k + 1 ≤ g ∧ g < k + 1 + d
   ·rw [if_pos c2, if_pos (by omega)]; omega
   ·rw [if_neg c2, if_neg (by omega)]; omega
theorem h0e (g n : Nat) : ∀ (d k : Nat), k + d ≤ n → inV n (wo g d k)
 | 0, k, h => fun x hx => nomatch hx
 | d + 1, k, h => by
  have ih := h0e g n d (k + 1) (by omega)
  unfold wo
  split
  ·exact ih
  ·intro x hx
   rcases List.mem_cons.1 hx with rfl | hx
   ·omega
   ·exact ih x hx
theorem G0c (n g : Nat) (hn : n ≤ 1000) : ∀ (d k fuel : Nat) (acc : List Int), k + d = n → d < fuel → acc.length ≤ k →
  n4 (n : Int) (g : Int) fuel (k : Int) acc = some (acc ++ wo g d k)
 | d, k, 0, acc, hd, hf, ha => by omega
 | 0, k, fuel + 1, acc, hd, hf, ha => by
  rw [n4.eq_2, if_neg (by simp; omega)]; simp [wo]
 | d + 1, k, fuel + 1, acc, hd, hf, ha => by
  have ih := fun acc' h => G0c n g hn d (k + 1) fuel acc' (by omega) (by omega) h
  rw [n4.eq_2, if_pos (by simp; omega), D2 (show k < 10000 by omega) (by omega)]
  unfold wo
  by_cases c : k = g
  ·have e : decide ((k : Int) = (g : Int)) = true := decide_eq_true (by omega)
   rw [e, if_neg (by simp), if_pos c, ih _ (by omega)]
  ·have e : decide ((k : Int) = (g : Int)) = false := decide_eq_false (by omega)
   rw [e, if_pos (show (!false) = true from rfl), if_neg c, H0 (by simp; omega), Option.bind_some, ih _ (by simp; omega)]
   simp
theorem H0c (n : Nat) (hn : n ≤ 1000) : ∀ (d k fuel : Nat) (acc : List Int), k + d = n → d < fuel → acc.length = k →
  ∃ u, P4 (n : Int) fuel (k : Int) acc = some u ∧ u.length = n
 | d, k, 0, acc, hd, hf, ha => by omega
 | 0, k, fuel + 1, acc, hd, hf, ha => by
  rw [P4.eq_2, if_neg (by simp; omega)]; exact ⟨_, rfl, by omega⟩
 | d + 1, k, fuel + 1, acc, hd, hf, ha => by
  obtain ⟨u, e1, e2⟩ := H0c n hn d (k + 1) fuel (acc ++ [(k : Int)]) (by omega) (by omega) (by simp; omega)
  rw [P4.eq_2, if_pos (by simp; omega), D2 (show k < 10000 by omega) (by omega), H0 (by simp; omega), Option.bind_some, e1]
  exact ⟨u, rfl, e2⟩
theorem i0e {α : Type} {xs : List α} {k : Nat} (h : k ≤ xs.length) : E05 xs 0 (k : Int) = some (xs.take k) := by
 unfold E05
 rw [if_pos (by omega)]; rfl
theorem O0g : ∀ (n fuel : Nat) (left : List Int) (r : Int) (es : List C0), 1 ≤ n → n ≤ 40 → inN n es → es.length ≤ 120 → left.length = n → n < fuel →
  ∃ (g' : j0) (l' : List Int), w4 fuel left r (n : Int) es = some (.inl (g', l')) ∧ g'.2.1 ≤ (n : Int) ∧ (g'.2.1 = (n : Int) ↔ lf (G06 es) (n - 1) 1 = none)
 | n, 0, left, r, es, h1, h2, hn, hes, hl, hf => by omega
 | n, fuel + 1, left, r, es, h1, h2, hn, hes, hl, hf => by
  obtain ⟨S, eS, lS, hS⟩ := c0e r n es hn (by omega) h1 (by omega)
  have ht1 := F0c r n es (by omega) S lS h2 (n - 1) 1 U0 (Nat.le_refl _) (by omega) (by omega) (C1 (by omega))
  have hcg : lf (fun v => decide (B00 (v : Int) es < 2) || !C7 S (v : Int)) (n - 1) 1 = lf (G06 es) (n - 1) 1 := d0a _ _ fun k k1 k2 => by
   unfold G06
   have := hS (k : Int) (by omega) (by omega)
   have h3 := P04 es 0 (k : Int)
   congr 2
   cases hb : C7 S (k : Int)
   ·symm; exact decide_eq_false fun h => by rw [this.2 (h3.1 h)] at hb; cases hb
   ·symm; exact decide_eq_true (h3.2 (this.1 hb))
  rw [hcg] at ht1
  rw [w4.eq_2, eS, Option.bind_some, show (1 : Int) = ((1 : Nat) : Int) from rfl, ht1, Option.bind_some]
  cases hlf : lf (G06 es) (n - 1) 1 with
  | none =>
   exact ⟨(r, (n : Int), es), left, by rw [if_pos (by rfl)], Int.le_refl _, by simp⟩
  | some k =>
   have hk := r04 _ _ _ hlf
   have e0 : decide ((k : Int) = 0) = false := decide_eq_false (by omega)
   have ho := h0e k n n 0 (by omega)
   have hlen := e0a k n 0
   rw [if_pos (by omega)] at hlen
   have ht0 := G0c n k (by omega) n 0 U0 [] (by omega) (C1 (by omega)) (Nat.le_refl _)
   rw [show ((0 : Nat) : Int) = 0 from rfl, List.nil_append] at ht0
   have hp := D0c r n es (wo k n 0) hn ho (by omega) (by omega) (by omega)
   have hpl := K05 (r, (n : Int), es) (wo k n 0)
   have hpi := y0b (r := r) ho hn
   have hw : IntKind.i64.wrap ((k : Int) + ((1 : Nat) : Int)) = ((k + 1 : Nat) : Int) := by rw [w64 (by omega) (by omega)]; rfl
   obtain ⟨g', l', q1, q2, q3⟩ := O0g (n - 1) fuel (left.take k ++ left.drop (k + 1)) r (w6 (r, (n : Int), es) (wo k n 0)).2.2 (by omega) (by omega) (by rw [hlen] at hpi; exact hpi) (by simp only at hpl; omega) (by simp only [List.length_append, List.length_take, List.length_drop]; omega) (by omega)
   refine ⟨g', l', ?_, by omega, ?_⟩
   ·simp only [e0, Bool.false_eq_true, if_false, ht0, Option.bind_some, hp]
    rw [show w6 (r, (n : Int), es) (wo k n 0) = (r, ((n - 1 : Nat) : Int), (w6 (r, (n : Int), es) (wo k n 0)).2.2) by rw [← hlen]; rfl]
    simp only [hw]
    rw [i0e (by omega), Option.bind_some, s03 (by omega), Option.bind_some, H0 (by simp only [List.length_take, List.length_drop]; omega), Option.bind_some, q1]
   ·constructor
    ·intro h; omega
    ·intro h; cases h
theorem y0f (g : j0) (hg : T0 g = true) : ∃ (g' : j0) (l' : List Int), L5 g = some (g', l') ∧ (g'.2.1 = g.2.1 ↔ t7 g = none) := by
 obtain ⟨h1, h2, h3, h4⟩ := C3 hg
 have hq := d00 g (by omega)
 have hc := O01 g (by omega)
 obtain ⟨r, n, es⟩ := g
 simp only at h2 h3 h4
 obtain ⟨N, rfl⟩ : ∃ N : Nat, n = (N : Int) := ⟨n.toNat, by omega⟩
 have hn : inN N es := fun e he => ⟨(h1 e he).1, (h1 e he).2.1⟩
 obtain ⟨u, e1, e2⟩ := H0c N (by omega) N 0 U0 [] (by omega) (C1 (by omega)) rfl
 obtain ⟨g', l', q1, q2, q3⟩ := O0g N U0 u r es (by omega) (by omega) hn h4 e2 (C1 (by omega))
 refine ⟨g', l', ?_, ?_⟩
 ·unfold L5
  rw [show ((0 : Nat) : Int) = 0 from rfl] at e1
  simp only [hc, Option.bind_some, hq, hg, Bool.not_true, Bool.false_eq_true, if_false, e1, q1, l9]
 ·simp only [t7, Int.toNat_natCast]; exact q3
def l4 (g : j0) : Bool := K0 g && ((t7 g).isNone && k08 (M2 g) g)
theorem J4 {g : j0} (h : K0 g = true) : T0 g = true := by
 unfold K0 at h; exact (Bool.and_eq_true _ _ ▸ h).1
theorem z0b {g : j0} (hf : K0 g = true) : (M2 g).2.2.length ≤ 120 := by
 have := K05 g (I4 g)
 have := (M1 hf).2.2.2
 unfold M2; omega
theorem H06 (g : j0) (hl : g.2.2.length ≤ 140737488355328) : f8 g = some (l4 g) := by
 have hF := j8 g hl
 unfold l4
 by_cases hf : K0 g = true
 ·obtain ⟨g', l', e1, e2⟩ := y0f g (J4 hf)
  have hC := m08 g hf
  have hE := r0b (M2 g) g (by have := z0b hf; omega)
  obtain ⟨r, n, es⟩ := g
  obtain ⟨r', n', es'⟩ := g'
  unfold f8
  simp only at e2
  generalize M2 (r, n, es) = C at *
  obtain ⟨c1, c2, c3⟩ := C
  simp only [hF, hf, Option.bind_some, Bool.not_true, Bool.false_eq_true, if_false, e1, hC]
  by_cases c : n' = n
  ·have := e2.1 c
   simp only [decide_eq_true c, U1, Option.bind_some, hE, cond_true, this, Option.isNone_none, Bool.true_and]
  ·have hne : (t7 (r, n, es)).isNone = false := by
    cases hq : t7 (r, n, es) with
    | none => exact absurd (e2.2 hq) c
    | some k => rfl
   simp only [decide_eq_false c, F4, Option.bind_some, cond_false, hne, Bool.false_and, Bool.and_false]
 ·have hf' : K0 g = false := Bool.eq_false_iff.2 hf
  obtain ⟨r, n, es⟩ := g
  unfold f8
  simp only [hF, hf', Option.bind_some, Bool.not_false, if_true, Bool.false_and]
theorem I06 (g : j0) (hl : g.2.2.length ≤ 140737488355328) : V8 g = some (l4 g) := by
 have hF := A9 g hl
 unfold l4
 by_cases hf : K0 g = true
 ·have hL := e0j g (J4 hf)
  have hC := n08 g hf
  have hE := t0b (M2 g) g (by have := z0b hf; omega)
  obtain ⟨h1, h2, h3, h4⟩ := M1 hf
  obtain ⟨r, n, es⟩ := g
  unfold V8
  generalize M2 (r, n, es) = C at *
  obtain ⟨c1, c2, c3⟩ := C
  simp only [hF, hf, Option.bind_some, U1, hL, cond_true]
  cases hq : t7 (r, n, es) with
  | none =>
   simp only [H0 (show N0 (-1) by decide), Option.bind_some, show decide ((-1 : Int) < 0) = true from rfl, U1, hC, hE, cond_true, Option.isNone_none, Bool.true_and]
  | some k =>
   have hk := r04 _ _ _ hq
   simp only at h3
   simp only at hk
   have e0 : decide ((k : Int) < 0) = false := decide_eq_false (by omega)
   simp only [H0 (show N0 (k : Int) from c64 (by omega) (by omega)), Option.bind_some, e0, F4, cond_false, Option.isNone_some, Bool.false_and, Bool.and_false]
 ·have hf' : K0 g = false := Bool.eq_false_iff.2 hf
  obtain ⟨r, n, es⟩ := g
  unfold V8
  simp only [hF, hf', Option.bind_some, F4, H0 (show N0 0 by decide), cond_false, Bool.false_and]
end Go.Proofs.YtknoadmdnjaocaaGreat
namespace Go.Proofs.YtknoadmdnjaocaaGreat
open Go.H
set_option linter.unusedVariables false
set_option linter.unusedSimpArgs false
def d0l (l : O08) : Prop := l.length ≤ 140737488355328 ∧ ∀ e ∈ l, e.1.size ≤ 140737488355328 ∧ e.2.2.2.length ≤ 140737488355328
end Go.Proofs.YtknoadmdnjaocaaGreat
namespace Go.Proofs.YtknoadmdnjaocaaGreat
open Go.H
set_option linter.unusedVariables false
set_option linter.unusedSimpArgs false
def f0j (l : O08) : Prop := l.length ≤ 1048576 ∧ ∀ e ∈ l, e.1.size ≤ 1048576 ∧ e.2.2.2.length ≤ 1048576
theorem f0j.ok {l : O08} (h : f0j l) : d0l l := ⟨by have := h.1; omega, fun e he => by have := h.2 e he; omega⟩
end Go.Proofs.YtknoadmdnjaocaaGreat
namespace Go.Proofs.YtknoadmdnjaocaaGreat
open Go.H
set_option linter.unusedVariables false
set_option linter.unusedSimpArgs false
theorem j0e {α : Type} {cf : α → α → Int} (h : Q7 cf) : ∀ {l : List α}, (∀ i x y, l[i]? = some x → l[i + 1]? = some y → cf x y < 0) → Asc cf l
 | [], _ => List.Pairwise.nil
 | [x], _ => List.pairwise_singleton _ _
 | x :: y :: l, hn => by
  have ih : Asc cf (y :: l) := j0e h fun i a b ha hb => hn (i + 1) a b (by simpa using ha) (by simpa using hb)
  have hxy := hn 0 x y rfl rfl
  refine List.pairwise_cons.2 ⟨fun z hz => ?_, ih⟩
  rcases List.mem_cons.1 hz with rfl | hz
  ·exact hxy
  ·exact h.trans _ _ _ hxy ((List.pairwise_cons.1 ih).1 z hz)
theorem g0j {α : Type} {cf : α → α → Int} : ∀ {l : List α}, Asc cf l → ∀ {i : Nat} {x y : α}, l[i]? = some x → l[i + 1]? = some y → cf x y < 0
 | [], _, i, x, y, hx, _ => by simp at hx
 | a :: l, h, 0, x, y, hx, hy => by
  simp at hx hy; subst hx
  exact (List.pairwise_cons.1 h).1 y (List.mem_of_getElem? hy)
 | a :: l, h, i + 1, x, y, hx, hy => g0j (List.pairwise_cons.1 h).2 (i := i) (by simpa using hx) (by simpa using hy)
theorem h0j {r hi : Int} {es : List C0} : ∀ {d k : Nat}, (∀ i, k ≤ i → i < k + d → S0i r hi es i = false) → okE r hi es d k = true
 | 0, k, h => rfl
 | d + 1, k, h => by
  simp only [okE, Bool.and_eq_true, Bool.not_eq_true']
  exact ⟨h k (Nat.le_refl _) (by omega), h0j fun i h1 h2 => h i (by omega) (by omega)⟩
theorem U02 (g : j0) : T0 g = true ↔ inG g ∧ (1 ≤ g.1 ∧ g.1 ≤ 3) ∧ (1 ≤ g.2.1 ∧ g.2.1 ≤ 40) ∧ g.2.2.length ≤ 120 ∧ Asc O0 g.2.2 := by
 constructor
 ·intro h
  obtain ⟨q1, q2, q3, q4⟩ := C3 h
  refine ⟨q1, q2, q3, q4, j0e J7 fun i x y hx hy => ?_⟩
  simp only [T0, Bool.and_eq_true] at h
  have hb := q0f h.1.1.1 (i + 1) (Nat.zero_le _) (by have := (List.getElem?_eq_some_iff.1 hy).1; omega)
  rw [w06 hy] at hb
  simp only [Nat.add_sub_cancel, hx, Bool.or_eq_false_iff] at hb
  have := hb.2
  simp only [show decide (0 < i + 1) = true by simp, Bool.true_and, decide_eq_false_iff_not] at this
  have e : K09 x y = O0 x y := rfl
  omega
 ·rintro ⟨q1, q2, q3, q4, q5⟩
  obtain ⟨r, n, es⟩ := g
  simp only at q2 q3 q4 q5
  simp only [T0, inR, Bool.and_eq_true, decide_eq_true_eq]
  refine ⟨⟨⟨h0j fun i _ hi => ?_, q2⟩, q3⟩, q4⟩
  have hx := R7 (show i < es.length by omega)
  generalize es[i] = e at hx
  rw [w06 hx]
  have he := q1 e (List.mem_of_getElem? hx)
  simp only at he
  simp only [Bool.or_eq_false_iff, Bool.not_eq_false', v02, inR, Bool.and_eq_true, decide_eq_true_eq]
  rw [w64 (by omega) (by omega)]
  refine ⟨⟨⟨⟨by omega, by omega⟩, by omega, by omega⟩, by omega, by omega⟩, ?_⟩
  cases i with
  | zero => rfl
  | succ j =>
   have hy := R7 (show j < es.length by omega)
   generalize es[j] = f at hy
   have := g0j q5 hy hx
   simp only [Nat.add_sub_cancel, hy]
   have e' : K09 f e = O0 f e := rfl
   simp [e']; omega
theorem J06 {r : Int} {n : Int} {es : List C0} (hr : 1 ≤ r ∧ r ≤ 3) (hn : 1 ≤ n ∧ n ≤ 40) (hes : es.length ≤ 120) (hin : inG (r, n, es)) : T0 (r, n, K7 O0 [] es) = true := by
 refine (U02 _).2 ⟨fun e he => hin e ?_, hr, hn, ?_, q03 J7 _ _ List.Pairwise.nil⟩
 ·rcases (C8 J7 e es []).1 he with h | h
  ·simp at h
  ·exact h
 ·have := q04 es []
  simp only [List.length_nil] at this
  simp only; omega
def K06 (a b : C0) : List (Int × Int) :=
 bif decide (a.2.1 = b.2.1) then (bif decide (a.1 = b.1) then [(if b.2.2 < a.2.2 then b.2.2 else a.2.2, if b.2.2 > a.2.2 then b.2.2 else a.2.2)] else []) ++ (bif decide (a.2.2 = b.2.2) then [(if b.1 < a.1 then b.1 else a.1, if b.1 > a.1 then b.1 else a.1)] else []) else []
def r00 (a : C0) : List C0 → List (Int × Int)
 | [] => []
 | b :: r => K06 a b ++ r00 a r
def W6 : List C0 → List (Int × Int)
 | [] => []
 | a :: r => r00 a r ++ W6 r
theorem C0h (a b : C0) : (K06 a b).length ≤ 2 := by
 unfold K06
 cases decide (a.2.1 = b.2.1) <;> cases decide (a.1 = b.1) <;> cases decide (a.2.2 = b.2.2) <;> simp
theorem A07 (a : C0) : ∀ l, (r00 a l).length ≤ 2 * l.length
 | [] => by simp [r00]
 | b :: r => by have := C0h a b; have := A07 a r; simp only [r00, List.length_append, List.length_cons]; omega
def mvV (f : Int × Int) (v : Int) : Int := if v = f.2 then f.1 else if v > f.2 then v - 1 else v
def mvE (f : Int × Int) (e : C0) : C0 := (mvV f e.1, e.2.1, mvV f e.2.2)
def d9 (g : j0) (f : Int × Int) : j0 := (g.1, g.2.1 - 1, K7 O0 [] (g.2.2.map (mvE f)))
def okF (g : j0) (f : Int × Int) : Prop := 0 ≤ f.1 ∧ f.1 < f.2 ∧ f.2 < g.2.1
theorem s04 {g : j0} {f : Int × Int} (hg : T0 g = true) (hf : okF g f) : T0 (d9 g f) = true := by
 obtain ⟨q1, q2, q3, q4, _⟩ := (U02 g).1 hg
 obtain ⟨f1, f2, f3⟩ := hf
 refine J06 q2 ⟨by omega, by omega⟩ (by simpa using q4) fun e he => ?_
 obtain ⟨e', he', rfl⟩ := List.mem_map.1 he
 obtain ⟨a1, a2, a3⟩ := q1 e' he'
 have hm : ∀ v : Int, 0 ≤ v ∧ v < g.2.1 → 0 ≤ mvV f v ∧ mvV f v < g.2.1 - 1 := fun v hv => by
  unfold mvV; split
  ·omega
  ·split <;> omega
 exact ⟨hm _ a1, hm _ a2, a3⟩
theorem k0e {g : j0} (hg : inG g) {a : C0} (ha : a ∈ g.2.2) : ∀ {l : List C0}, (∀ b ∈ l, b ∈ g.2.2 ∧ a ≠ b) → ∀ f ∈ r00 a l, okF g f
 | [], _, f, hf => by simp [r00] at hf
 | b :: r, h, f, hf => by
  rcases List.mem_append.1 (show f ∈ K06 a b ++ r00 a r from hf) with hf | hf
  ·have hb := hg b (h b (List.mem_cons_self ..)).1
   have ha' := hg a ha
   have hne := (h b (List.mem_cons_self ..)).2
   obtain ⟨a0, a1, a2⟩ := a
   obtain ⟨b0, b1, b2⟩ := b
   simp only at ha' hb
   unfold K06 at hf
   simp only at hf
   by_cases c1 : a1 = b1
   ·have d1 : ¬ (a0 = b0 ∧ a2 = b2) := fun ⟨x, y⟩ => hne (by rw [x, c1, y])
    simp only [c1, decide_true, cond_true, List.mem_append] at hf
    rcases hf with hf | hf
    ·by_cases c2 : a0 = b0
     ·simp only [c2, decide_true, cond_true, List.mem_singleton] at hf
      subst hf
      have : a2 ≠ b2 := fun y => d1 ⟨c2, y⟩
      unfold okF
      simp only
      split <;> split <;> omega
     ·simp [c2] at hf
    ·by_cases c2 : a2 = b2
     ·simp only [c2, decide_true, cond_true, List.mem_singleton] at hf
      subst hf
      have : a0 ≠ b0 := fun y => d1 ⟨y, c2⟩
      unfold okF
      simp only
      split <;> split <;> omega
     ·simp [c2] at hf
   ·simp [c1] at hf
  ·exact k0e hg ha (fun b' hb' => h b' (List.mem_cons_of_mem _ hb')) f hf
theorem l0e {g : j0} (hg : inG g) : ∀ {l : List C0}, (∀ b ∈ l, b ∈ g.2.2) → Asc O0 l → ∀ f ∈ W6 l, okF g f
 | [], _, _, f, hf => by simp [W6] at hf
 | a :: r, h, hA, f, hf => by
  rcases List.mem_append.1 (show f ∈ r00 a r ++ W6 r from hf) with hf | hf
  ·refine k0e hg (h a (List.mem_cons_self ..)) (fun b hb => ⟨h b (List.mem_cons_of_mem _ hb), fun e => ?_⟩) f hf
   have := (List.pairwise_cons.1 hA).1 b hb
   rw [e, J7.refl] at this; omega
  ·exact l0e hg (fun b hb => h b (List.mem_cons_of_mem _ hb)) (List.pairwise_cons.1 hA).2 f hf
theorem V02 {g : j0} (hg : T0 g = true) : ∀ f ∈ W6 g.2.2, okF g f := by
 obtain ⟨q1, _, _, _, q5⟩ := (U02 g).1 hg
 exact l0e q1 (fun _ h => h) q5
def V9 : Nat → j0 → j0 × List (Int × Int)
 | 0, g => (g, [])
 | n + 1, g => match W6 g.2.2 with
  | [] => (g, [])
  | f :: _ => ((V9 n (d9 g f)).1, f :: (V9 n (d9 g f)).2)
def v01 (g : j0) : j0 × List (Int × Int) := bif T0 g then V9 40 g else (g, [])
theorem f0a : ∀ (n : Nat) {g : j0}, T0 g = true → g.2.1 ≤ (n : Int) + 1 → W6 (V9 n g).1.2.2 = []
 | 0, g, h, hn => by
  cases e : W6 g.2.2 with
  | nil => exact e
  | cons f l =>
   have := V02 h f (by rw [e]; exact List.mem_cons_self ..)
   unfold okF at this
   omega
 | n + 1, g, h, hn => by
  unfold V9
  cases e : W6 g.2.2 with
  | nil => exact e
  | cons f l => exact f0a n (s04 h (V02 h f (by rw [e]; exact List.mem_cons_self ..))) (by show g.2.1 - 1 ≤ _; omega)
theorem D0h (a b : C0) : K06 a b = [] ↔ N01 a b = false := by
 unfold K06 N01
 cases decide (a.2.1 = b.2.1) <;> cases decide (a.1 = b.1) <;> cases decide (a.2.2 = b.2.2) <;> simp
theorem A0b (a : C0) : ∀ l, r00 a l = [] ↔ ∀ b ∈ l, N01 a b = false
 | [] => by simp [r00]
 | b :: r => by
  rw [r00, List.append_eq_nil_iff, D0h, A0b a r]
  simp
theorem B07 : ∀ l, W6 l = [] ↔ l.Pairwise fun a b => N01 a b = false
 | [] => by simp [W6]
 | a :: r => by rw [W6, List.append_eq_nil_iff, A0b, B07 r, List.pairwise_cons]
theorem u03 (g : j0) : K0 g = true ↔ T0 g = true ∧ W6 g.2.2 = [] := by
 unfold K0
 rw [Bool.and_eq_true, w07, B07]
end Go.Proofs.YtknoadmdnjaocaaGreat
namespace Go.Proofs.YtknoadmdnjaocaaGreat
open Go.H
set_option linter.unusedVariables false
set_option linter.unusedSimpArgs false
theorem B0b (l : List C0) (a0 a1 a2 : Int) (hl : l.length ≤ 1000) : ∀ (d k fuel : Nat) (acc : List R3), k + d = l.length → d < fuel → acc.length + 2 * d ≤ 4000000 →
  d4 l a1 a0 a2 fuel (k : Int) acc = some (acc ++ r00 (a0, a1, a2) (l.drop k))
 | d, k, 0, acc, hd, hf, ha => by omega
 | 0, k, fuel + 1, acc, hd, hf, ha => by
  rw [d4.eq_2, if_neg (by simp; omega), C2 (by omega)]
  simp [r00]
 | d + 1, k, fuel + 1, acc, hd, hf, ha => by
  have hk : k < l.length := by omega
  have hx := R7 hk
  generalize l[k] = b at hx
  obtain ⟨b0, b1, b2⟩ := b
  have ih : ∀ acc' : List R3, acc'.length + 2 * d ≤ 4000000 → d4 l a1 a0 a2 fuel ((k + 1 : Nat) : Int) acc' = some (acc' ++ r00 (a0, a1, a2) (l.drop (k + 1))) := fun acc' h => B0b l a0 a1 a2 hl d (k + 1) fuel acc' (by omega) (by omega) h
  rw [d4.eq_2, if_pos (by simp; omega), H4 hx, Option.bind_some, D2 hk (by omega), V2 hx]
  simp only [r00, K06]
  cases decide (a1 = b1)
  ·simp only [Bool.not_false, if_true, cond_false, List.nil_append]
   exact ih acc (by omega)
  ·cases decide (a0 = b0) <;> cases decide (a2 = b2)
   all_goals simp only [Bool.not_true, Bool.false_eq_true, if_false, if_true, cond_true, cond_false, List.nil_append, List.append_nil]
   ·exact ih acc (by omega)
   ·rw [H0 (by simp; omega), Option.bind_some, ih _ (by simp; omega)]; simp
   ·rw [H0 (by simp; omega), Option.bind_some, ih _ (by simp; omega)]; simp
   ·rw [H0 (by simp; omega), Option.bind_some, H0 (by simp; omega), Option.bind_some, ih _ (by simp; omega)]; simp
theorem C0b (l : List C0) (hl : l.length ≤ 1000) : ∀ (d k fuel : Nat) (acc : List R3), k + d = l.length → d < fuel → acc.length + 2000 * d ≤ 3000000 →
  Y6 l fuel (k : Int) acc = some (acc ++ W6 (l.drop k))
 | d, k, 0, acc, hd, hf, ha => by omega
 | 0, k, fuel + 1, acc, hd, hf, ha => by
  rw [Y6.eq_2, if_neg (by simp; omega), C2 (by omega)]
  simp [W6]
 | d + 1, k, fuel + 1, acc, hd, hf, ha => by
  have hk : k < l.length := by omega
  have hx := R7 hk
  generalize l[k] = b at hx
  obtain ⟨b0, b1, b2⟩ := b
  have h0 := B0b (l.drop (k + 1)) b0 b1 b2 (by simp; omega) (l.length - (k + 1)) 0 U0 acc (by simp) (C1 (by omega)) (by omega)
  have hr := A07 (b0, b1, b2) (l.drop (k + 1))
  simp only [List.length_drop] at hr
  rw [Y6.eq_2, if_pos (by simp; omega), H4 hx, Option.bind_some]
  simp only [D2 hk (show l.length ≤ 9223372036854775807 by omega)]
  rw [s03 (by omega), Option.bind_some, show (0 : Int) = ((0 : Nat) : Int) from rfl, h0, Option.bind_some, C0b l hl d (k + 1) fuel _ (by omega) (by omega) (by simp only [List.length_append, List.drop_zero, List.length_drop] at hr ⊢; omega), V2 hx, W6]
  simp
theorem D0b (l : List C0) (hl : l.length ≤ 1000) (i : Nat) (a0 a1 a2 : Int) (hi : l[i]? = some (a0, a1, a2)) : ∀ (d k fuel : Nat) (acc : List R3), k + d = l.length → d < fuel → acc.length + 2 * d ≤ 4000000 →
  E3 l (i : Int) fuel (k : Int) acc = some (acc ++ r00 (a0, a1, a2) (l.drop k))
 | d, k, 0, acc, hd, hf, ha => by omega
 | 0, k, fuel + 1, acc, hd, hf, ha => by
  rw [E3.eq_2, if_neg (by simp; omega), C2 (by omega)]
  simp [r00]
 | d + 1, k, fuel + 1, acc, hd, hf, ha => by
  have hk : k < l.length := by omega
  have hx := R7 hk
  generalize l[k] = b at hx
  obtain ⟨b0, b1, b2⟩ := b
  have ih : ∀ acc' : List R3, acc'.length + 2 * d ≤ 4000000 → E3 l (i : Int) fuel ((k + 1 : Nat) : Int) acc' = some (acc' ++ r00 (a0, a1, a2) (l.drop (k + 1))) := fun acc' h => D0b l hl i a0 a1 a2 hi d (k + 1) fuel acc' (by omega) (by omega) h
  rw [E3.eq_2, if_pos (by simp; omega), H4 hi, Option.bind_some]
  simp only []
  rw [H4 hx, Option.bind_some, D2 hk (by omega), V2 hx]
  simp only [r00, K06]
  cases decide (a1 = b1)
  ·simp only [Bool.false_eq_true, if_false, cond_false, List.nil_append]
   exact ih acc (by omega)
  ·cases decide (a0 = b0) <;> cases decide (a2 = b2)
   all_goals simp only [Bool.not_true, Bool.false_eq_true, if_false, if_true, cond_true, cond_false, List.nil_append, List.append_nil]
   ·exact ih acc (by omega)
   ·rw [H0 (by simp; omega), Option.bind_some, ih _ (by simp; omega)]; simp
   ·rw [H0 (by simp; omega), Option.bind_some, ih _ (by simp; omega)]; simp
   ·rw [H0 (by simp; omega), Option.bind_some, H0 (by simp; omega), Option.bind_some, ih _ (by simp; omega)]; simp
theorem E0b (l : List C0) (hl : l.length ≤ 1000) : ∀ (d k fuel : Nat) (acc : List R3), k + d = l.length → d < fuel → acc.length + 2000 * d ≤ 3000000 →
  M5 l fuel (k : Int) acc = some (acc ++ W6 (l.drop k))
 | d, k, 0, acc, hd, hf, ha => by omega
 | 0, k, fuel + 1, acc, hd, hf, ha => by
  rw [M5.eq_2, if_neg (by simp; omega), C2 (by omega)]
  simp [W6]
 | d + 1, k, fuel + 1, acc, hd, hf, ha => by
  have hk : k < l.length := by omega
  have hx := R7 hk
  generalize l[k] = b at hx
  obtain ⟨b0, b1, b2⟩ := b
  have h0 := D0b l hl k b0 b1 b2 hx (l.length - (k + 1)) (k + 1) U0 acc (by omega) (C1 (by omega)) (by omega)
  have hr := A07 (b0, b1, b2) (l.drop (k + 1))
  simp only [List.length_drop] at hr
  rw [M5.eq_2, if_pos (by simp; omega), D2 hk (by omega), h0, Option.bind_some, E0b l hl d (k + 1) fuel _ (by omega) (by omega) (by simp only [List.length_append, List.length_drop] at hr ⊢; omega), V2 hx, W6]
  simp
theorem m0e (g : j0) (hl : g.2.2.length ≤ 1000) : C00 g = some (W6 g.2.2) := by
 obtain ⟨r, n, es⟩ := g
 unfold C00
 simp only
 rw [show (0 : Int) = ((0 : Nat) : Int) from rfl, C0b es hl es.length 0 U0 [] (by omega) (C1 (by simp only at hl; omega)) (by simp only at hl; simp; omega)]
 rfl
theorem n0e (g : j0) (hl : g.2.2.length ≤ 1000) : C9 g = some (W6 g.2.2) := by
 obtain ⟨r, n, es⟩ := g
 unfold C9
 simp only
 rw [show (0 : Int) = ((0 : Nat) : Int) from rfl, E0b es hl es.length 0 U0 [] (by omega) (C1 (by simp only at hl; omega)) (by simp only at hl; simp; omega)]
 rfl
def s00 (g : j0) : R3 × Bool := bif T0 g then (match W6 g.2.2 with
 | [] => ((0, 0), false)
 | f :: _ => (f, true)) else ((0, 0), false)
theorem t08 (g : j0) (hl : g.2.2.length ≤ 140737488355328) : E7 g = some (s00 g) := by
 have h1 := d00 g hl
 have h2 := m0e g
 unfold s00
 cases hg : T0 g with
 | false =>
  obtain ⟨r, n, es⟩ := g
  unfold E7
  simp only [h1, hg, Option.bind_some]; rfl
 | true =>
  have h2 := h2 (by have := (C3 hg).2.2.2; omega)
  obtain ⟨r, n, es⟩ := g
  unfold E7
  simp only [h1, hg, h2, Option.bind_some, cond_true]
  simp only at h2
  cases W6 es with
  | nil => rfl
  | cons f l =>
   rw [if_neg (by simp), if_neg (by simp; omega), y0c rfl]
   rfl
theorem u08 (g : j0) (hl : g.2.2.length ≤ 140737488355328) : D7 g = some (s00 g) := by
 have h1 := z7 g hl
 have h2 := n0e g
 unfold s00
 cases hg : T0 g with
 | false =>
  obtain ⟨r, n, es⟩ := g
  unfold D7
  simp only [h1, hg, Option.bind_some]; rfl
 | true =>
  have h2 := h2 (by have := (C3 hg).2.2.2; omega)
  obtain ⟨r, n, es⟩ := g
  unfold D7
  simp only [h1, hg, h2, Option.bind_some, cond_true]
  simp only at h2
  cases W6 es with
  | nil => rfl
  | cons f l =>
   rw [if_neg (by simp), if_neg (by simp; omega), y0c rfl]
   rfl
theorem P0g (v : Int) (f : R3) (hv : 0 ≤ v ∧ v < 1000) (hf : 0 ≤ f.1 ∧ f.1 < f.2) : Q9 v f = some (mvV f v) := by
 obtain ⟨a, b⟩ := f
 simp only at hf
 unfold Q9 mvV
 simp only
 by_cases c : v = b
 ·rw [if_pos (by simp [c]), if_neg (by simp; omega), if_pos c]
 ·rw [if_neg (by simp [c]), if_neg c]
  by_cases c2 : v > b
  ·rw [if_pos (by simp [c2]), if_pos c2, w64 (by omega) (by omega)]
  ·rw [if_neg (by simp; omega), if_neg c2]
theorem o0e (v : Int) (f : R3) (hv : 0 ≤ v ∧ v < 1000) : V4 v f = some (mvV f v) := by
 obtain ⟨a, b⟩ := f
 unfold V4 mvV
 simp only
 by_cases c : v = b
 ·rw [if_pos (by simp [c]), if_pos c]
 ·rw [if_neg (by simp [c]), if_neg c]
  by_cases c2 : v > b
  ·rw [if_pos (by simp [c2]), if_pos c2, w64 (by omega) (by omega)]
  ·rw [if_neg (by simp; omega), if_neg c2]
theorem I0c {f : R3} {v : Int} (hv : 0 ≤ v ∧ v < 1000) (hf : 0 ≤ f.1 ∧ f.1 < 1000) : N0 (mvV f v) := by
 unfold mvV
 split
 ·exact ⟨by omega, by omega⟩
 ·split
  ·exact ⟨by omega, by omega⟩
  ·exact ⟨by omega, by omega⟩
theorem p0e (es : List C0) (f : R3) (r n : Int) (hl : es.length ≤ 1000) (hv : ∀ e ∈ es, (0 ≤ e.1 ∧ e.1 < 1000) ∧ (0 ≤ e.2.2 ∧ e.2.2 < 1000)) (hf : 0 ≤ f.1 ∧ f.1 < f.2) (hf2 : f.2 < 1000) : ∀ (d k fuel : Nat) (acc : List C0), k + d = es.length → d < fuel → acc.length ≤ k →
  L3 es f.1 f.2 fuel (k : Int) r n acc = some (r, n, K7 O0 acc ((es.drop k).map (mvE f)))
 | d, k, 0, acc, hd, hfu, ha => by omega
 | 0, k, fuel + 1, acc, hd, hfu, ha => by
  rw [L3.eq_2, if_neg (by simp; omega), C2 (by omega)]
  rfl
 | d + 1, k, fuel + 1, acc, hd, hfu, ha => by
  have hk : k < es.length := by omega
  have hx := R7 hk
  have hvk := hv _ (List.getElem_mem hk)
  generalize es[k] = b at hx hvk
  obtain ⟨b0, b1, b2⟩ := b
  simp only at hvk
  have hln := O04 (mvE f (b0, b1, b2)) acc
  rw [L3.eq_2, if_pos (by simp; omega), H4 hx, Option.bind_some]
  simp only []
  rw [P0g b0 (f.1, f.2) hvk.1 hf, Option.bind_some, H0 (I0c hvk.1 ⟨hf.1, by show f.1 < 1000; omega⟩), Option.bind_some, P0g b2 (f.1, f.2) hvk.2 hf, Option.bind_some, H0 (I0c hvk.2 ⟨hf.1, by show f.1 < 1000; omega⟩), Option.bind_some,
   A0g acc _ (by omega), Option.bind_some, D2 hk (by omega), V2 hx, List.map_cons]
  exact p0e es f r n hl hv hf hf2 d (k + 1) fuel _ (by omega) (by omega) (Nat.le_trans hln (by omega))
theorem q0e {g : j0} {f : R3} (hg : T0 g = true) (hf : okF g f) : N5 g f = some (d9 g f, true) := by
 obtain ⟨q1, q2, q3, q4⟩ := C3 hg
 have h1 := z7 g (by omega)
 obtain ⟨f1, f2, f3⟩ := hf
 obtain ⟨r, n, es⟩ := g
 obtain ⟨a, b⟩ := f
 simp only at f1 f2 f3 q3 q4
 have h := p0e es (a, b) r (IntKind.i64.wrap (n - 1)) (by omega) (fun e he => by
  have := q1 e he
  simp only at this
  exact ⟨⟨by omega, by omega⟩, by omega, by omega⟩) ⟨f1, f2⟩ (by simp only; omega) es.length 0 U0 [] (by omega) (C1 (by omega)) (Nat.le_refl _)
 unfold N5
 simp only [h1, hg, Option.bind_some]
 rw [if_neg (by simp; omega), show (0 : Int) = ((0 : Nat) : Int) from rfl, h, w64 (by omega) (by omega)]
 rfl
theorem r0e (es : List C0) (f : R3) (hl : es.length ≤ 1000) (hv : ∀ e ∈ es, (0 ≤ e.1 ∧ e.1 < 1000) ∧ (0 ≤ e.2.2 ∧ e.2.2 < 1000)) (hf : 0 ≤ f.1 ∧ f.1 < 1000) : ∀ (d k fuel : Nat), k + d = es.length → d < fuel →
  M3 es f.1 f.2 fuel (k : Int) ((es.take k).map (mvE f) ++ es.drop k) = some (es.map (mvE f))
 | d, k, 0, hd, hfu => by omega
 | 0, k, fuel + 1, hd, hfu => by
  rw [M3.eq_2, if_neg (by simp; omega), C2 (by omega), List.append_nil, List.take_of_length_le (by omega)]
 | d + 1, k, fuel + 1, hd, hfu => by
  have hk : k < es.length := by omega
  have hx := R7 hk
  have hvk := hv _ (List.getElem_mem hk)
  generalize es[k] = b at hx hvk
  have htl : ((es.take k).map (mvE f)).length = k := by simp; omega
  have hg : ((es.take k).map (mvE f) ++ es.drop k)[k]? = some b := by
   rw [List.getElem?_append_right (by omega), htl, V2 hx]; simp
  have hs : ∀ y, ((es.take k).map (mvE f) ++ es.drop k).set k y = (es.take k).map (mvE f) ++ y :: es.drop (k + 1) := fun y => by
   rw [List.set_append_right _ _ (by omega), htl, V2 hx]; simp
  obtain ⟨b0, b1, b2⟩ := b
  simp only at hvk
  have e : (es.take (k + 1)).map (mvE f) ++ es.drop (k + 1) = (es.take k).map (mvE f) ++ mvE f (b0, b1, b2) :: es.drop (k + 1) := by
   rw [w0k hx]; simp
  have ih := r0e es f hl hv hf d (k + 1) fuel (by omega) (by omega)
  rw [e] at ih
  rw [M3.eq_2, if_pos (by simp; omega), H4 hg, Option.bind_some]
  simp only []
  rw [o0e b0 (f.1, f.2) hvk.1, Option.bind_some, H0 (I0c hvk.1 hf), Option.bind_some, o0e b2 (f.1, f.2) hvk.2, Option.bind_some, H0 (I0c hvk.2 hf), Option.bind_some]
  simp only [Option.bind_some]
  rw [show ((k : Nat) : Int).toNat = k from Int.toNat_natCast k, hs, D2 hk (by omega)]
  exact ih
theorem s0e {g : j0} {f : R3} (hg : T0 g = true) (hf : okF g f) : O5 g f = some (d9 g f, true) := by
 obtain ⟨q1, q2, q3, q4⟩ := C3 hg
 have h1 := d00 g (by omega)
 have h2 := O01 g (by omega)
 obtain ⟨f1, f2, f3⟩ := hf
 obtain ⟨r, n, es⟩ := g
 obtain ⟨a, b⟩ := f
 simp only at f1 f2 f3 q3 q4
 have h := r0e es (a, b) (by omega) (fun e he => by
  have := q1 e he
  simp only at this
  exact ⟨⟨by omega, by omega⟩, by omega, by omega⟩) ⟨f1, by simp only; omega⟩ es.length 0 U0 (by omega) (C1 (by omega))
 simp only [List.take_zero, List.map_nil, List.nil_append, List.drop_zero] at h
 unfold O5
 simp only [h1, h2, hg, Option.bind_some]
 rw [if_neg (by simp; omega), show (0 : Int) = ((0 : Nat) : Int) from rfl, h, Option.bind_some, b0e _ (by simp; omega), Option.bind_some, w64 (by omega) (by omega)]
 rfl
def F9 (g : j0) : j0 × R3 × Bool := bif T0 g then (match W6 g.2.2 with
 | [] => (g, (0, 0), false)
 | f :: _ => (d9 g f, f, true)) else (g, (0, 0), false)
theorem t04 (g : j0) (hl : g.2.2.length ≤ 1099511627776) : I8 g = some (F9 g) := by
 have h1 := u08 g (by omega)
 have h2 := J05 g hl
 have h3 : ∀ f, T0 g = true → okF g f → N5 g f = some (d9 g f, true) := fun f a b => q0e a b
 have h4 : T0 g = true → ∀ f ∈ W6 g.2.2, okF g f := V02
 unfold s00 at h1
 unfold F9
 obtain ⟨r, n, es⟩ := g
 unfold I8
 simp only [h1, Option.bind_some]
 cases hg : T0 (r, n, es) with
 | false => simp only [cond_false, Bool.not_false, if_true, h2, Option.bind_some]
 | true =>
  simp only [cond_true]
  simp only at h4
  cases e : W6 es with
  | nil => simp only [Bool.not_false, if_true, h2, Option.bind_some]
  | cons f l =>
   simp only [Bool.not_true, Bool.false_eq_true, if_false, h3 f hg (h4 hg f (by rw [e]; exact List.mem_cons_self ..)), Option.bind_some]
theorem u04 (g : j0) (hl : g.2.2.length ≤ 1099511627776) : J8 g = some (F9 g) := by
 have h1 := t08 g (by omega)
 have h2 := O01 g hl
 have h3 : ∀ f, T0 g = true → okF g f → O5 g f = some (d9 g f, true) := fun f a b => s0e a b
 have h4 : T0 g = true → ∀ f ∈ W6 g.2.2, okF g f := V02
 unfold s00 at h1
 unfold F9
 obtain ⟨r, n, es⟩ := g
 unfold J8
 simp only [h1, Option.bind_some]
 cases hg : T0 (r, n, es) with
 | false => simp only [cond_false, Bool.not_false, if_true, h2, Option.bind_some]
 | true =>
  simp only [cond_true]
  simp only at h4
  cases e : W6 es with
  | nil => simp only [Bool.not_false, if_true, h2, Option.bind_some]
  | cons f l =>
   simp only [Bool.not_true, Bool.false_eq_true, if_false, h3 f hg (h4 hg f (by rw [e]; exact List.mem_cons_self ..)), Option.bind_some]
def e0l : (j0 × R6) ⊕ (Int × Int × I0 × (List R3)) → Option (j0 × R6) := fun X => l9 X (fun S => match S with
 | (a, b, c, e) => some ((a, b, c), e))
theorem g0a : ∀ (d k fuel : Nat) (g : j0) (acc : List R3), k + d = 40 → d < fuel → T0 g = true → acc.length = k →
  (U4 fuel (k : Int) g.1 g.2.1 g.2.2 acc).bind e0l = some ((V9 d g).1, acc ++ (V9 d g).2)
 | d, k, 0, g, acc, hd, hf, hg, ha => by omega
 | 0, k, fuel + 1, g, acc, hd, hf, hg, ha => by
  rw [U4.eq_2, if_neg (by simp; omega)]
  simp [e0l, l9, V9]
 | d + 1, k, fuel + 1, g, acc, hd, hf, hg, ha => by
  have h1 := t04 g (by have := (C3 hg).2.2.2; omega)
  have h4 := V02 hg
  unfold F9 at h1
  rw [hg] at h1
  simp only [cond_true] at h1
  rw [U4.eq_2, if_pos (by simp; omega), show (g.1, g.2.1, g.2.2) = g from rfl, h1]
  unfold V9
  cases e : W6 g.2.2 with
  | nil => simp [e0l, l9]
  | cons f l =>
   have ih := g0a d (k + 1) fuel (d9 g f) (acc ++ [f]) (by omega) (by omega) (s04 hg (h4 f (by rw [e]; exact List.mem_cons_self ..))) (by simp [ha])
   simp only [Option.bind_some, Bool.not_true, Bool.false_eq_true, if_false]
   rw [H0 (by simp; omega), Option.bind_some, D2 (show k < 1000 by omega) (by omega)]
   refine ih.trans ?_
   simp
theorem I0a (g : j0) (hl : g.2.2.length ≤ 1099511627776) : D9 g = some (v01 g) := by
 have h1 := t04 g hl
 have h2 := J05 g hl
 have h3 := g0a 40 0 U0 g [] rfl (C1 (by omega))
 unfold v01
 obtain ⟨r, n, es⟩ := g
 unfold D9
 simp only [h2, Option.bind_some]
 cases hg : T0 (r, n, es) with
 | false =>
  unfold F9 at h1
  rw [hg] at h1
  simp only [cond_false] at h1
  rw [show U0 = (U0 - 1) + 1 from rfl, U4.eq_2, if_pos (by simp), h1]
  rfl
 | true => exact h3 hg rfl
theorem h0a : ∀ (d fuel : Nat) (g : j0) (acc : List R3), d < fuel → T0 g = true → W6 (V9 d g).1.2.2 = [] → acc.length + d ≤ 1000 →
  P5 fuel g.1 g.2.1 g.2.2 acc = some (.inl ((V9 d g).1, acc ++ (V9 d g).2))
 | d, 0, g, acc, hf, hg, hn, ha => by omega
 | d, fuel + 1, g, acc, hf, hg, hn, ha => by
  have h1 := u04 g (by have := (C3 hg).2.2.2; omega)
  have h4 := V02 hg
  unfold F9 at h1
  rw [hg] at h1
  simp only [cond_true] at h1
  rw [P5.eq_2, show (g.1, g.2.1, g.2.2) = g from rfl, h1]
  cases e : W6 g.2.2 with
  | nil =>
   have e2 : V9 d g = (g, []) := by
    cases d with
    | zero => rfl
    | succ d => unfold V9; rw [e]
   rw [e2]
   simp
  | cons f l =>
   cases d with
   | zero => exact absurd e (by rw [show W6 g.2.2 = [] from hn]; simp)
   | succ d =>
    have e2 : V9 (d + 1) g = ((V9 d (d9 g f)).1, f :: (V9 d (d9 g f)).2) := by
     show (match W6 g.2.2 with | [] => (g, []) | f :: _ => ((V9 d (d9 g f)).1, f :: (V9 d (d9 g f)).2)) = _
     rw [e]
    rw [e2] at hn ⊢
    have ih := h0a d fuel (d9 g f) (acc ++ [f]) (by omega) (s04 hg (h4 f (by rw [e]; exact List.mem_cons_self ..))) hn (by simp; omega)
    simp only [Option.bind_some, Bool.not_true, Bool.false_eq_true, if_false]
    rw [H0 (by simp; omega), Option.bind_some]
    refine ih.trans ?_
    simp
theorem J0a (g : j0) (hl : g.2.2.length ≤ 1099511627776) : E9 g = some (v01 g) := by
 have h1 := u04 g hl
 have h2 := O01 g hl
 have h3 := h0a 40 U0 g [] (C1 (by omega))
 have h5 : T0 g = true → W6 (V9 40 g).1.2.2 = [] := fun hg => f0a 40 hg (by have := (C3 hg).2.2.1; omega)
 unfold v01
 obtain ⟨r, n, es⟩ := g
 unfold E9
 simp only [h2, Option.bind_some]
 cases hg : T0 (r, n, es) with
 | false =>
  unfold F9 at h1
  rw [hg] at h1
  simp only [cond_false] at h1
  rw [show U0 = (U0 - 1) + 1 from rfl, P5.eq_2, h1]
  rfl
 | true =>
  have h := h3 hg (h5 hg) (by simp)
  simp only at h
  rw [h]
  rfl
end Go.Proofs.YtknoadmdnjaocaaGreat
namespace Go.Proofs.YtknoadmdnjaocaaGreat
open Go.H
set_option linter.unusedVariables false
set_option linter.unusedSimpArgs false
theorem F0b {g : j0} (h : T0 g = true) : Asc O0 g.2.2 := ((U02 g).1 h).2.2.2.2
theorem y0l {g : j0} (hg : T0 g = true) {u : Int} (hu : 0 ≤ u ∧ u < g.2.1) : D3 g u = some true := by
 obtain ⟨q1, q2, q3, q4⟩ := C3 hg
 obtain ⟨r, n, es⟩ := g
 simp only at q3 hu
 unfold D3
 simp only [n04]
 rw [w64 (by omega) (by omega)]
 simp [inR]; omega
end Go.Proofs.YtknoadmdnjaocaaGreat
namespace Go.Proofs.YtknoadmdnjaocaaGreat
open Go.H
set_option linter.unusedVariables false
set_option linter.unusedSimpArgs false
def ng (x : Int) : Int := IntKind.i64.wrap (0 - x)
def l0j (l x : Int) : Bool := !(l == 0) && !(l == -9223372036854775808) && (x == ng l)
def m0k (s : List Int) (x : Int) : List Int := match s with
 | [] => [x]
 | l :: t => bif l0j l x then t else x :: l :: t
def Red : List Int → Bool
 | [] => true
 | [_] => true
 | x :: l :: t => !l0j l x && Red (l :: t)
end Go.Proofs.YtknoadmdnjaocaaGreat
