/- Texts of the claim, joined: Plain laws: words and presentations, as the spec and the code know the; Plain laws: lists of words, and presentations, as the spec and the cod; Plain laws: graphs, as the spec and the code know them; Plain laws: steps in a graph; Plain laws: graphs: degrees, equality, edges put in order, sorted edge; Plain laws: valid graphs said in words; folds of a graph; Plain laws: what folding computes, of the spec and of the code; Plain laws: paths, vertices and edges added; the steps that are missin; Plain laws: words compared for equality. -/
import Derived.Test.YtknoadmdnjaocaaGreatPart18
import Derived.Test.YtknoadmdnjaocaaGreatH33
import Derived.Test.YtknoadmdnjaocaaGreatH36
import Derived.Test.YtknoadmdnjaocaaGreatPart17
namespace Go.Proofs.YtknoadmdnjaocaaGreat
open Go.H
set_option linter.unusedVariables false
set_option linter.unusedSimpArgs false
theorem W0 {n : Nat} (h : n ≤ 140737488355328) : n < I0 := by unfold I0; omega
theorem B0 {p : Prop} [Decidable p] (h : p) : grd p = some () := by unfold grd; rw [if_pos h]
theorem C2 {α : Type} (o : Option α) (d : α) : chk true o d = o := rfl
theorem L3 {α : Type} (o : Option α) (d : α) : chk false o d = some d := rfl
theorem C3 {α : Type} {xs : List α} {k : Nat} {x : α} (h : xs[k]? = some x) : gi xs (k : Int) = some x := by rw [m08]; exact h
theorem p08 {α : Type} {xs : List α} {x : α} (h : xs[0]? = some x) : gi xs 0 = some x := C3 (k := 0) h
theorem w0l {x : Int} (h : M0 x) (h2 : x ≠ -9223372036854775808) : IntKind.i64.wrap (0 - x) = -x := by rw [w64 (by have := h.1; have := h.2; omega) (by have := h.1; have := h.2; omega)]; omega
theorem t0h {n : Nat} (h : 0 < n) (hm : n ≤ 9223372036854775807) : IntKind.i64.wrap ((n : Int) - 1) = ((n - 1 : Nat) : Int) := by rw [w64 (by omega) (by omega)]; omega
theorem L6 {α : Type} {xs : List α} {k : Nat} (h : k < xs.length) : xs[k]? = some xs[k] := List.getElem?_eq_getElem h
def inR (lo hi x : Int) : Bool := decide (lo ≤ x) && decide (x ≤ hi)
theorem Y04 (a b c : Int) : l6 a b c = some (inR b c a) := by
 unfold l6 inR
 by_cases h : b ≤ a <;> simp [h]
theorem x02 (a b c : Int) : M6 a b c = some (inR b c a) := Y04 a b c
end Go.Proofs.YtknoadmdnjaocaaGreat
namespace Go.Proofs.YtknoadmdnjaocaaGreat
open Go.H
set_option linter.unusedVariables false
set_option linter.unusedSimpArgs false
def tot : List (List Int) → Nat
 | [] => 0
 | w :: r => w.length + tot r
theorem M1 {α : Type} {xs : List α} {k : Nat} {x : α} (h : xs[k]? = some x) : xs.drop k = x :: xs.drop (k + 1) := by
 obtain ⟨hk, rfl⟩ := List.getElem?_eq_some_iff.1 h
 exact List.drop_eq_getElem_cons hk
theorem D1 {α : Type} {xs : List α} {k : Nat} (h : k = xs.length) : xs.drop k = [] := by rw [h]; exact List.drop_length
end Go.Proofs.YtknoadmdnjaocaaGreat
namespace Go.Proofs.YtknoadmdnjaocaaGreat
open Go.H
set_option linter.unusedVariables false
set_option linter.unusedSimpArgs false
def i03 (r hi : Int) (e : F0) : Bool := inR 0 hi e.1 && inR 0 hi e.2.2 && inR 1 r e.2.1
def I0a (e f : F0) : Int := V0 e f
theorem J0a (e f : F0) : I0a e f = if P7 e.1 f.1 ≠ 0 then P7 e.1 f.1 else if P7 e.2.1 f.2.1 ≠ 0 then P7 e.2.1 f.2.1 else P7 e.2.2 f.2.2 := rfl
theorem c04 (a b : Int) : (a < b ∧ P7 a b = -1) ∨ (a > b ∧ P7 a b = 1) ∨ (a = b ∧ P7 a b = 0) := by
 unfold P7
 split
 ·omega
 ·split <;> omega
theorem O09 (e f : F0) : M0 (I0a e f) := by
 rw [J0a]
 split
 ·exact s0d _ _
 ·split <;> exact s0d _ _
theorem T0j (g : l0) (e : F0) : B00 g e = some (i03 g.1 (IntKind.i64.wrap (g.2.1 - 1)) e) := by
 obtain ⟨r, n, es⟩ := g
 obtain ⟨a, l, b⟩ := e
 unfold B00 i03
 simp only [Y04, Option.bind_some]
 cases inR 0 (IntKind.i64.wrap (n - 1)) a with
 | false => rfl
 | true =>
  cases inR 0 (IntKind.i64.wrap (n - 1)) b with
  | false => rfl
  | true => simp [chk]
theorem t09 (g : l0) (e : F0) : G7 g e = some (i03 g.1 (IntKind.i64.wrap (g.2.1 - 1)) e) := by
 obtain ⟨r, n, es⟩ := g
 obtain ⟨a, l, b⟩ := e
 unfold G7 p6 i03
 simp only [x02, Option.bind_some]
 cases inR 0 (IntKind.i64.wrap (n - 1)) a with
 | false => rfl
 | true =>
  cases inR 0 (IntKind.i64.wrap (n - 1)) b with
  | false => rfl
  | true => simp [chk]
theorem K00 (e f : F0) : T6 e f = some (I0a e f) := by
 obtain ⟨a, l, b⟩ := e
 obtain ⟨a', l', b'⟩ := f
 unfold T6
 rw [show I0 = (I0 - 4) + 1 + 1 + 1 + 1 from rfl]
 have w1 : IntKind.i64.wrap (0 + 1) = 1 := by decide
 have w2 : IntKind.i64.wrap (1 + 1) = 2 := by decide
 have w3 : IntKind.i64.wrap (2 + 1) = 3 := by decide
 have g0 : ∀ x y z : Int, gi [x, y, z] 0 = some x := fun _ _ _ => rfl
 have g1 : ∀ x y z : Int, gi [x, y, z] 1 = some y := fun _ _ _ => rfl
 have g2 : ∀ x y z : Int, gi [x, y, z] 2 = some z := fun _ _ _ => rfl
 have d0 : decide ((0 : Int) < 3) = true := rfl
 have d1 : decide ((1 : Int) < 3) = true := rfl
 have d2 : decide ((2 : Int) < 3) = true := rfl
 have d3 : decide ((3 : Int) < 3) = false := rfl
 simp only [U5.eq_2, w1, w2, w3, g0, g1, g2, d0, d1, d2, d3, if_true, Option.bind_some, Bool.false_eq_true, if_false]
 rw [J0a]
 simp only
 rcases c04 a a' with ⟨h, e⟩ | ⟨h, e⟩ | ⟨h, e⟩
 ·simp [e, h, Z7]
 ·have : ¬ a < a' := by omega
  simp [e, h, this, Z7]
 ·subst h
  rcases c04 l l' with ⟨h, e2⟩ | ⟨h, e2⟩ | ⟨h, e2⟩
  ·simp [e, e2, h, Z7]
  ·have : ¬ l < l' := by omega
   simp [e, e2, h, this, Z7]
  ·subst h
   rcases c04 b b' with ⟨h, e3⟩ | ⟨h, e3⟩ | ⟨h, e3⟩
   ·simp [e, e2, e3, h, Z7]
   ·have : ¬ b < b' := by omega
    simp [e, e2, e3, h, this, Z7]
   ·subst h
    simp [e, e2, e3, Z7]
theorem K0i (a b : Int) : j6 a b = some (P7 a b) := by
 unfold j6 P7
 by_cases h : a < b
 ·simp [h]
 ·by_cases h2 : a > b <;> simp [h, h2]
theorem y02 (e f : F0) : V7 e f = some (I0a e f) := by
 obtain ⟨a, l, b⟩ := e
 obtain ⟨a', l', b'⟩ := f
 rw [J0a]
 unfold V7
 simp only [K0i, Option.bind_some, B0 (s0d _ _)]
 by_cases h1 : P7 a a' = 0
 ·by_cases h2 : P7 l l' = 0
  ·simp [h1, h2]
  ·simp [h1, h2]
 ·simp [h1]
def U0j (r hi : Int) (es : List F0) (k : Nat) : Bool := match es[k]? with
 | none => true
 | some e => !i03 r hi e || (decide (0 < k) && match es[k - 1]? with
  | none => true
  | some f => decide (I0a f e ≥ 0))
def okE (r hi : Int) (es : List F0) : Nat → Nat → Bool
 | 0, _ => true
 | d + 1, k => !U0j r hi es k && okE r hi es d (k + 1)
def Y0 (g : l0) : Bool := okE g.1 (IntKind.i64.wrap (g.2.1 - 1)) g.2.2 g.2.2.length 0 && inR 1 3 g.1 && inR 1 40 g.2.1 && decide (g.2.2.length ≤ 120)
theorem l07 {r hi : Int} {es : List F0} {k : Nat} {e : F0} (hx : es[k]? = some e) : U0j r hi es k = (!i03 r hi e || (decide (0 < k) && match es[k - 1]? with
  | none => true
  | some f => decide (I0a f e ≥ 0))) := by unfold U0j; rw [hx]
theorem Y02 (r n : Int) (es : List F0) (hl : es.length ≤ 140737488355328) : ∀ (d k fuel : Nat), k + d = es.length → d < fuel →
  o6 es r n fuel (k : Int) = some (bif okE r (IntKind.i64.wrap (n - 1)) es d k then .inr () else .inl false)
 | d, k, 0, hk, hf => by omega
 | 0, k, fuel + 1, hk, hf => by
  rw [o6.eq_2, if_neg (by simp; omega)]
  simp [okE]
 | d + 1, k, fuel + 1, hk, hf => by
  have hkl : k < es.length := by omega
  have hx := L6 hkl
  generalize es[k] = e at hx
  obtain ⟨e0, e1, e2⟩ := e
  have next := Y02 r n es hl d (k + 1) fuel (by omega) (by omega)
  rw [o6.eq_2, if_pos (by simp; omega), C3 hx, Option.bind_some]
  simp only [T0j, Option.bind_some, Q1 hkl (by omega : es.length ≤ 9223372036854775807), next, okE, l07 hx]
  generalize IntKind.i64.wrap (n - 1) = hi
  cases hin : i03 r hi (e0, e1, e2) with
  | false => simp [chk, grd, M0]
  | true =>
   by_cases hk0 : k = 0
   ·have ek : decide ((k : Int) > 0) = false := by simp; omega
    have bk : decide (0 < k) = false := by simp; omega
    simp only [ek, bk, L3, Bool.not_true, Bool.not_false, Bool.and_true, Bool.false_and, Bool.or_self, Bool.true_and, cond_true, cond_false, Option.bind_some, Bool.or_false, Bool.false_eq_true, if_false, B0 (show M0 0 by decide)]
   ·have hy := L6 (show k - 1 < es.length by omega)
    generalize es[k - 1] = f at hy
    obtain ⟨f0, f1, f2⟩ := f
    have hpr : IntKind.i64.wrap ((k : Int) - 1) = ((k - 1 : Nat) : Int) := t0h (by omega) (by omega)
    have ek : decide ((k : Int) > 0) = true := by simp; omega
    have bk : decide (0 < k) = true := by simp; omega
    simp only [ek, bk, hpr, hy, C3 hx, C3 hy, C2, Bool.not_true, Bool.not_false, Bool.and_true, Bool.false_and, Bool.or_self, Bool.true_and, cond_true, cond_false, Option.bind_some, Bool.or_false, Bool.false_or, K00, B0 (O09 _ _)]
    cases decide (I0a (f0, f1, f2) (e0, e1, e2) ≥ 0) <;> rfl
theorem g8 (g : l0) (hl : g.2.2.length ≤ 140737488355328) : U4 g = some (Y0 g) := by
 obtain ⟨r, n, es⟩ := g
 unfold U4 Y0
 simp only at hl ⊢
 have h := Y02 r n es hl es.length 0 I0 (by omega) (W0 hl)
 rw [show ((0 : Nat) : Int) = 0 from rfl] at h
 rw [h, Option.bind_some]
 cases okE r (IntKind.i64.wrap (n - 1)) es es.length 0 with
 | false => simp [Z7]
 | true =>
  rw [cond_true, K0, Y04, Y04, Option.bind_some]
  cases inR 1 3 r with
  | false => simp [chk]
  | true =>
   simp only [C2, Option.bind_some, cond_true, Bool.true_and]
   cases inR 1 40 n with
   | false => simp
   | true => simp; omega
theorem Z02 (r n : Int) (es : List F0) (hl : es.length ≤ 140737488355328) : ∀ (d k fuel : Nat), k + d = es.length → d < fuel →
  r6 es r n fuel (k : Int) = some (bif okE r (IntKind.i64.wrap (n - 1)) es d k then .inr () else .inl false)
 | d, k, 0, hk, hf => by omega
 | 0, k, fuel + 1, hk, hf => by
  rw [r6.eq_2, if_neg (by simp; omega)]
  simp [okE]
 | d + 1, k, fuel + 1, hk, hf => by
  have hkl : k < es.length := by omega
  have hx := L6 hkl
  generalize es[k] = e at hx
  obtain ⟨e0, e1, e2⟩ := e
  have next := Z02 r n es hl d (k + 1) fuel (by omega) (by omega)
  rw [r6.eq_2, if_pos (by simp; omega), C3 hx, Option.bind_some]
  simp only [t09, Option.bind_some, Q1 hkl (by omega : es.length ≤ 9223372036854775807), next, okE, l07 hx]
  generalize IntKind.i64.wrap (n - 1) = hi
  cases hin : i03 r hi (e0, e1, e2) with
  | false => simp [chk, grd, M0]
  | true =>
   by_cases hk0 : k = 0
   ·have ek : decide ((k : Int) > 0) = false := by simp; omega
    have bk : decide (0 < k) = false := by simp; omega
    simp only [ek, bk, L3, Bool.not_true, Bool.not_false, Bool.and_true, Bool.false_and, Bool.or_self, Bool.true_and, cond_true, cond_false, Option.bind_some, Bool.or_false, Bool.false_eq_true, if_false, B0 (show M0 0 by decide)]
   ·have hy := L6 (show k - 1 < es.length by omega)
    generalize es[k - 1] = f at hy
    obtain ⟨f0, f1, f2⟩ := f
    have hpr : IntKind.i64.wrap ((k : Int) - 1) = ((k - 1 : Nat) : Int) := t0h (by omega) (by omega)
    have ek : decide ((k : Int) > 0) = true := by simp; omega
    have bk : decide (0 < k) = true := by simp; omega
    simp only [ek, bk, hpr, hy, C3 hx, C3 hy, C2, Bool.not_true, Bool.not_false, Bool.and_true, Bool.false_and, Bool.or_self, Bool.true_and, cond_true, cond_false, Option.bind_some, Bool.or_false, Bool.false_or, y02, B0 (O09 _ _)]
    cases decide (I0a (f0, f1, f2) (e0, e1, e2) ≥ 0) <;> rfl
theorem C00 (g : l0) (hl : g.2.2.length ≤ 140737488355328) : H7 g = some (Y0 g) := by
 obtain ⟨r, n, es⟩ := g
 unfold H7 Y0
 simp only at hl ⊢
 rw [x02, x02, Option.bind_some]
 cases hr : inR 1 3 r with
 | false => simp [chk]
 | true =>
  simp only [Bool.not_true, Bool.not_false, C2, Option.bind_some, cond_false]
  cases hn : inR 1 40 n with
  | false => simp
  | true =>
   by_cases h120 : es.length ≤ 120
   ·have h := Z02 r n es hl es.length 0 I0 (by omega) (W0 hl)
    rw [show ((0 : Nat) : Int) = 0 from rfl] at h
    have e1 : decide (((es.length : Nat) : Int) > 120) = false := by simp; omega
    have e2 : decide (es.length ≤ 120) = true := by simpa using h120
    simp only [e1, e2, Bool.not_true, cond_false, Bool.false_eq_true, if_false, h, Option.bind_some]
    cases okE r (IntKind.i64.wrap (n - 1)) es es.length 0 <;> rfl
   ·have e1 : decide (((es.length : Nat) : Int) > 120) = true := by simp; omega
    have e2 : decide (es.length ≤ 120) = false := by simpa using h120
    simp only [e1, e2, Bool.not_true, cond_false, if_true, Bool.and_false]
theorem p0g {r hi : Int} {es : List F0} : ∀ {d k : Nat}, okE r hi es d k = true → ∀ i, k ≤ i → i < k + d → U0j r hi es i = false
 | 0, k, h, i, h1, h2 => by omega
 | d + 1, k, h, i, h1, h2 => by
  simp only [okE, Bool.and_eq_true, Bool.not_eq_true'] at h
  by_cases e : i = k
  ·subst e; exact h.1
  ·exact p0g h.2 i (by omega) (by omega)
end Go.Proofs.YtknoadmdnjaocaaGreat
namespace Go.Proofs.YtknoadmdnjaocaaGreat
open Go.H
set_option linter.unusedVariables false
set_option linter.unusedSimpArgs false
theorem K0a {n : Nat} (h : n ≤ 9223372036854775807) : n < I0 := by unfold I0; omega
def goI (x : Int) : List Int → Bool × List Int
 | [] => (false, [])
 | y :: l => if x < y then (true, x :: y :: l) else if y = x then (true, y :: l) else ((goI x l).1, y :: (goI x l).2)
theorem u0h (x : Int) : ∀ l, m00 P7 x l = bif (goI x l).1 then (goI x l).2 else (goI x l).2 ++ [x]
 | [] => rfl
 | y :: l => by
  have ih := u0h x l
  unfold m00 goI
  rcases c04 x y with ⟨h, e⟩ | ⟨h, e⟩ | ⟨h, e⟩
  ·rw [e, if_pos (by omega), if_pos h]; rfl
  ·rw [e, if_neg (by omega), if_neg (by omega), if_neg (by omega), if_neg (by omega), ih]
   cases (goI x l).1 <;> rfl
  ·rw [e, if_neg (by omega), if_pos rfl, if_neg (by omega), if_pos h.symm]; rfl
theorem L0a (l : List Int) (w : Int) (hl : l.length ≤ 1099511627776) : ∀ (d k fuel : Nat) (acc : List Int), k + d = l.length → d < fuel → acc.length ≤ k + 1 →
  N3 l w fuel true (k : Int) acc = some (true, acc ++ l.drop k)
 | d, k, 0, acc, hd, hf, ha => by omega
 | 0, k, fuel + 1, acc, hd, hf, ha => by
  rw [N3.eq_2, if_neg (by simp; omega), D1 (by omega), List.append_nil]
 | d + 1, k, fuel + 1, acc, hd, hf, ha => by
  have hk : k < l.length := by omega
  have hx := L6 hk
  generalize l[k] = x at hx
  have ih := L0a l w hl d (k + 1) fuel (acc ++ [x]) (by omega) (by omega) (by simp; omega)
  rw [N3.eq_2, if_pos (by simp; omega), C3 hx, Option.bind_some]
  have hb : ∀ c : Bool, (bif c then (!true) else false) = false := fun c => by cases c <;> rfl
  simp only [hb, Bool.false_eq_true, if_false, Option.bind_some, Q1 hk (show l.length ≤ 9223372036854775807 by omega), ih, B0 (show (acc.length + [x].length) * 8 ≤ 140737488355328 by simp; omega)]
  rw [M1 hx]
  split <;> simp
theorem k0c (l : List Int) (w : Int) (hl : l.length ≤ 1099511627776) : ∀ (d k fuel : Nat) (acc : List Int), k + d = l.length → d < fuel → acc.length = k →
  N3 l w fuel false (k : Int) acc = some ((goI w (l.drop k)).1, acc ++ (goI w (l.drop k)).2)
 | d, k, 0, acc, hd, hf, ha => by omega
 | 0, k, fuel + 1, acc, hd, hf, ha => by
  rw [N3.eq_2, if_neg (by simp; omega), D1 (by omega)]
  simp [goI]
 | d + 1, k, fuel + 1, acc, hd, hf, ha => by
  have hk : k < l.length := by omega
  have hx := L6 hk
  generalize l[k] = x at hx
  have ih := k0c l w hl d (k + 1) fuel (acc ++ [x]) (by omega) (by omega) (by simp; omega)
  have on1 := L0a l w hl d (k + 1) fuel (acc ++ [x]) (by omega) (by omega) (by simp; omega)
  have on2 := L0a l w hl d (k + 1) fuel (acc ++ [w] ++ [x]) (by omega) (by omega) (by simp; omega)
  rw [N3.eq_2, if_pos (by simp; omega), C3 hx, Option.bind_some, M1 hx]
  unfold goI
  have hb : ∀ c : Bool, (bif c then (!true) else false) = false := fun c => by cases c <;> rfl
  have hb2 : ∀ c : Bool, (bif c then (!false) else false) = c := fun c => by cases c <;> rfl
  by_cases h0 : x = w
  ·rw [if_pos (by simpa using h0), Option.bind_some, hb, if_neg (by simp), Option.bind_some, B0 (by simp; omega), Option.bind_some, Q1 hk (by omega), on1, if_neg (by omega), if_pos h0]
   simp
  ·rw [if_neg (by simpa using h0), Option.bind_some, hb2]
   by_cases h1 : w < x
   ·rw [if_pos (by simpa using h1), B0 (by simp; omega), Option.bind_some, Option.bind_some, B0 (by simp; omega), Option.bind_some, Q1 hk (by omega), on2, if_pos h1]
    simp
   ·rw [if_neg (by simpa using h1), Option.bind_some, B0 (by simp; omega), Option.bind_some, Q1 hk (by omega), ih, if_neg h1, if_neg h0]
    simp
theorem m07 (l : List Int) (w : Int) (hl : l.length ≤ 1099511627776) : t7 l w = some (m00 P7 w l) := by
 unfold t7
 have h := k0c l w hl l.length 0 I0 [] (by omega) (W0 (by omega)) rfl
 rw [show ((0 : Nat) : Int) = 0 from rfl, List.drop_zero, List.nil_append] at h
 rw [h, Option.bind_some, u0h]
 have hlen : ∀ l : List Int, (goI w l).2.length ≤ l.length + 1 := fun l => by
  induction l with
  | nil => simp [goI]
  | cons y l ih =>
   unfold goI
   split
   ·simp
   ·split
    ·simp
    ·simp only [List.length_cons]; omega
 have := hlen l
 cases (goI w l).1 with
 | true => rfl
 | false =>
  simp only [Bool.not_false, if_true, cond_false]
  rw [B0 (by simp; omega), Option.bind_some]
def l0c (v x : Int) (e : F0) : List Int :=
 if 0 < x ∧ e.2.1 = x ∧ e.1 = v then [e.2.2] else if x < 0 ∧ e.2.1 = -x ∧ e.2.2 = v then [e.1] else []
def z8 (v x : Int) : List F0 → List Int
 | [] => []
 | e :: es => l0c v x e ++ z8 v x es
theorem L0i (v x : Int) (e : F0) : (l0c v x e).length ≤ 1 := by unfold l0c; split <;> (try split) <;> simp
theorem M0a (v x : Int) : ∀ es, (z8 v x es).length ≤ es.length
 | [] => by simp [z8]
 | e :: es => by
  have h1 := L0i v x e
  have h2 := M0a v x es
  simp only [z8, List.length_append, List.length_cons]
  omega
def y00 (x : Int) : Prop := M0 x ∧ x ≠ -9223372036854775808
theorem n07 (es : List F0) (v x : Int) (hx : y00 x) (hl : es.length ≤ 1099511627776) : ∀ (d k fuel : Nat) (acc : List Int), k + d = es.length → d < fuel → acc.length ≤ k →
  d4 es x v fuel (k : Int) acc = some (acc ++ z8 v x (es.drop k))
 | d, k, 0, acc, hd, hf, ha => by omega
 | 0, k, fuel + 1, acc, hd, hf, ha => by
  rw [d4.eq_2, if_neg (by simp; omega), D1 (by omega)]
  simp [z8]
 | d + 1, k, fuel + 1, acc, hd, hf, ha => by
  have hk : k < es.length := by omega
  have he := L6 hk
  generalize es[k] = e at he
  obtain ⟨a, l, b⟩ := e
  have ih := fun acc' h => n07 es v x hx hl d (k + 1) fuel acc' (by omega) (by omega) h
  have hn : decide (x = -9223372036854775808) = false := by simp; exact hx.2
  rw [d4.eq_2, if_pos (by simp; omega), C3 he, Option.bind_some, M1 he]
  simp only [z8, l0c, w0l hx.1 hx.2, hn, Bool.not_false, Q1 hk (show es.length ≤ 9223372036854775807 by omega)]
  by_cases c1 : 0 < x ∧ l = x ∧ a = v
  ·obtain ⟨c1, rfl, rfl⟩ := c1
   rw [if_pos (by simp [c1]), if_pos ⟨c1, rfl, rfl⟩, B0 (by simp; omega), Option.bind_some, ih _ (by simp; omega)]
   simp
  ·rw [if_neg c1, if_neg (by simp only [Bool.cond_eq_ite]; simp; intro h1 h2 h3; exact c1 ⟨h1, h2, h3⟩)]
   by_cases c2 : x < 0 ∧ l = -x ∧ b = v
   ·rw [if_pos c2, if_pos (by simp [c2.1, c2.2.1, c2.2.2]), B0 (by simp; omega), Option.bind_some, ih _ (by simp; omega)]
    simp
   ·rw [if_neg c2, if_neg (by simp only [Bool.cond_eq_ite]; simp; intro h1 h2 h3; exact c2 ⟨h1, h2, h3⟩), ih _ (by omega)]
    simp
theorem B03 (w : Int) : ∀ l : List Int, (m00 P7 w l).length ≤ l.length + 1
 | [] => by simp [m00]
 | y :: l => by
  have := B03 w l
  unfold m00
  split
  ·simp
  ·split
   ·simp
   ·simp only [List.length_cons]; omega
theorem o07 (es : List F0) (v x : Int) (hx : y00 x) (hl : es.length ≤ 1099511627776) : ∀ (d k fuel : Nat) (u : List Int), k + d = es.length → d < fuel → u.length ≤ k →
  D3 es x v fuel u (k : Int) = some (t8 P7 u (z8 v x (es.drop k)))
 | d, k, 0, u, hd, hf, ha => by omega
 | 0, k, fuel + 1, u, hd, hf, ha => by
  rw [D3.eq_2, if_neg (by simp; omega), D1 (by omega)]
  rfl
 | d + 1, k, fuel + 1, u, hd, hf, ha => by
  have hk : k < es.length := by omega
  have he := L6 hk
  generalize es[k] = e at he
  obtain ⟨a, l, b⟩ := e
  have ih := fun u' h => o07 es v x hx hl d (k + 1) fuel u' (by omega) (by omega) h
  rw [D3.eq_2, if_pos (by simp; omega), C3 he, Option.bind_some, M1 he]
  simp only [z8, l0c, w0l hx.1 hx.2, Q1 hk (show es.length ≤ 9223372036854775807 by omega)]
  by_cases c1 : 0 < x ∧ l = x ∧ a = v
  ·obtain ⟨c1, rfl, rfl⟩ := c1
   have hno : decide (l < 0) = false := by simp; omega
   have := B03 b u
   rw [if_pos (by simp [c1]), if_pos ⟨c1, rfl, rfl⟩, m07 u b (by omega), Option.bind_some, hno, if_neg (by simp), ih _ (by omega)]
   rfl
  ·rw [if_neg c1, if_neg (by simp only [Bool.cond_eq_ite]; simp; intro h1 h2 h3; exact c1 ⟨h1, h2, h3⟩)]
   by_cases c2 : x < 0 ∧ l = -x ∧ b = v
   ·have := B03 a u
    rw [if_pos c2, if_pos (by simp [c2.1, c2.2.1, c2.2.2]), m07 u a (by omega), Option.bind_some, ih _ (by omega)]
    rfl
   ·rw [if_neg c2, if_neg (by simp only [Bool.cond_eq_ite]; simp; intro h1 h2 h3; exact c2 ⟨h1, h2, h3⟩), ih _ (by omega)]
    rfl
def D00 (g : l0) (v x : Int) : List Int := t8 P7 [] (z8 v x g.2.2)
theorem e0l (x y : Int) : eqI x y = true ↔ x = y := by simp [eqI]
theorem M0e (g : l0) (v x : Int) (hx : y00 x) (hl : g.2.2.length ≤ 1099511627776) : Z8 g v x = some (D00 g v x) := by
 obtain ⟨r, n, es⟩ := g
 unfold Z8 D00
 have h := o07 es v x hx hl es.length 0 I0 [] (by omega) (K0a (by simp only at hl; omega)) (by simp)
 rw [show ((0 : Nat) : Int) = 0 from rfl, List.drop_zero] at h
 simp only [h, Option.bind_some]
theorem N0e (g : l0) (v x : Int) (hx : y00 x) (hl : g.2.2.length ≤ 1099511627776) : a9 g v x = some (D00 g v x) := by
 obtain ⟨r, n, es⟩ := g
 unfold a9 D00
 have h := n07 es v x hx hl es.length 0 I0 [] (by omega) (K0a (by simp only at hl; omega)) (by simp)
 rw [show ((0 : Nat) : Int) = 0 from rfl, List.drop_zero, List.nil_append] at h
 have hlen := M0a v x es
 simp only at hl
 simp only [h, Option.bind_some, B0 (show (z8 v x es).length < 4611686018427387904 by omega)]
 rw [← L0e A00 e0l (z8 v x es) (z8 v x es) fun _ => Iff.rfl]
 rfl
def D2 (g : l0) (v x : Int) : Int := match D00 g v x with
 | [] => -1
 | a :: _ => a
theorem z06 (g : l0) (v x : Int) (hx : y00 x) (hl : g.2.2.length ≤ 1099511627776) : O6 g v x = some (D2 g v x) := by
 have h := M0e g v x hx hl
 obtain ⟨r, n, es⟩ := g
 unfold O6 D2
 simp only [h, Option.bind_some]
 cases D00 (r, n, es) v x with
 | nil => rfl
 | cons a l => rfl
theorem A06 (g : l0) (v x : Int) (hx : y00 x) (hl : g.2.2.length ≤ 1099511627776) : P6 g v x = some (D2 g v x) := by
 have h := N0e g v x hx hl
 obtain ⟨r, n, es⟩ := g
 unfold P6 D2
 simp only [h, Option.bind_some]
 cases D00 (r, n, es) v x with
 | nil => rfl
 | cons a l => rfl
theorem m0c {g : l0} {v x y : Int} (h : y ∈ D00 g v x) : y ∈ z8 v x g.2.2 := by
 rcases (r9 A00 y _ []).1 h with h | h
 ·cases h
 ·exact h
theorem S7 {v x y : Int} : ∀ {es : List F0}, y ∈ z8 v x es ↔ ∃ e ∈ es, (0 < x ∧ e.2.1 = x ∧ e.1 = v ∧ y = e.2.2) ∨ (x < 0 ∧ e.2.1 = -x ∧ e.2.2 = v ∧ y = e.1)
 | [] => by simp [z8]
 | e :: es => by
  simp only [z8, List.mem_append, S7 (es := es), List.mem_cons, exists_eq_or_imp]
  refine or_congr ?_ Iff.rfl
  unfold l0c
  split
  ·rename_i h
   simp only [List.mem_singleton]
   constructor
   ·rintro rfl; exact .inl ⟨h.1, h.2.1, h.2.2, rfl⟩
   ·rintro (⟨_, _, _, h4⟩ | ⟨h1, _⟩)
    ·exact h4
    ·omega
  ·rename_i h
   split
   ·rename_i h2
    simp only [List.mem_singleton]
    constructor
    ·rintro rfl; exact .inr ⟨h2.1, h2.2.1, h2.2.2, rfl⟩
    ·rintro (⟨h1, _⟩ | ⟨_, _, _, h4⟩)
     ·omega
     ·exact h4
   ·rename_i h2
    constructor
    ·intro h; cases h
    ·rintro (⟨h3, h4, h5, _⟩ | ⟨h3, h4, h5, _⟩)
     ·exact absurd ⟨h3, h4, h5⟩ h
     ·exact absurd ⟨h3, h4, h5⟩ h2
def inG (g : l0) : Prop := ∀ e ∈ g.2.2, (0 ≤ e.1 ∧ e.1 < g.2.1) ∧ (0 ≤ e.2.2 ∧ e.2.2 < g.2.1) ∧ 1 ≤ e.2.1 ∧ e.2.1 ≤ g.1
theorem Q3 {g : l0} (h : Y0 g = true) : inG g ∧ (1 ≤ g.1 ∧ g.1 ≤ 3) ∧ (1 ≤ g.2.1 ∧ g.2.1 ≤ 40) ∧ g.2.2.length ≤ 120 := by
 obtain ⟨r, n, es⟩ := g
 simp only [Y0, inR, Bool.and_eq_true, decide_eq_true_eq] at h
 obtain ⟨⟨⟨h1, h2⟩, h3⟩, h4⟩ := h
 refine ⟨fun e he => ?_, h2, h3, h4⟩
 obtain ⟨i, hi⟩ := List.getElem?_of_mem he
 have hb := p0g h1 i (Nat.zero_le _) (by have := (List.getElem?_eq_some_iff.1 hi).1; simp only at this; omega)
 rw [l07 hi] at hb
 simp only [Bool.or_eq_false_iff, Bool.not_eq_false', i03, inR, Bool.and_eq_true, decide_eq_true_eq] at hb
 obtain ⟨⟨⟨⟨b1, b2⟩, b3, b4⟩, b5, b6⟩, _⟩ := hb
 rw [w64 (by omega) (by omega)] at b2 b4
 simp only
 exact ⟨⟨b1, by omega⟩, ⟨b3, by omega⟩, b5, b6⟩
theorem P09 {g : l0} (hg : inG g) (v x : Int) : D2 g v x = -1 ∨ (0 ≤ D2 g v x ∧ D2 g v x < g.2.1) := by
 unfold D2
 cases hs : D00 g v x with
 | nil => exact .inl rfl
 | cons a l =>
  right
  have ha : a ∈ D00 g v x := by rw [hs]; exact List.mem_cons_self ..
  obtain ⟨e, he, h⟩ := S7.1 (m0c ha)
  have := hg e he
  rcases h with ⟨_, _, _, rfl⟩ | ⟨_, _, _, rfl⟩
  ·exact this.2.1
  ·exact this.1
theorem d04 {g : l0} (hg : inG g) (hn : g.2.1 ≤ 40) (v x : Int) : M0 (D2 g v x) := by
 rcases P09 hg v x with h | h
 ·rw [h]; decide
 ·constructor <;> omega
def z02 (a b : F0) : Bool := decide (a.2.1 = b.2.1) && (decide (a.1 = b.1) || decide (a.2.2 = b.2.2))
theorem q08 (a b : F0) : z02 a b = z02 b a := by
 unfold z02
 have h : ∀ x y : Int, decide (x = y) = decide (y = x) := fun x y => decide_eq_decide.2 ⟨Eq.symm, Eq.symm⟩
 rw [h a.2.1, h a.1, h a.2.2]
def noC (a : F0) : List F0 → Bool
 | [] => true
 | b :: l => !z02 a b && noC a l
def g06 : List F0 → Bool
 | [] => true
 | a :: l => noC a l && g06 l
theorem t0d (a : F0) : ∀ l, noC a l = true ↔ ∀ b ∈ l, z02 a b = false
 | [] => by simp [noC]
 | b :: l => by simp [noC, t0d a l]
theorem r08 : ∀ l, g06 l = true ↔ l.Pairwise fun a b => z02 a b = false
 | [] => by simp [g06]
 | a :: l => by simp [g06, r08 l, t0d, List.pairwise_cons]
def N0a : List F0 → List F0 → Bool
 | _, [] => true
 | pre, a :: l => noC a pre && N0a (pre ++ [a]) l
theorem n0c : ∀ (l pre : List F0), N0a pre l = true ↔ l.Pairwise (fun a b => z02 a b = false) ∧ ∀ a ∈ l, ∀ b ∈ pre, z02 a b = false
 | [], pre => by simp [N0a]
 | a :: l, pre => by
  simp only [N0a, Bool.and_eq_true, t0d, n0c l, List.pairwise_cons]
  constructor
  ·rintro ⟨h2, h3, h4⟩
   refine ⟨⟨fun b hb => by rw [q08]; exact h4 b hb a (by simp), h3⟩, fun x hx b hb => ?_⟩
   rcases List.mem_cons.1 hx with rfl | hx
   ·exact h2 b hb
   ·exact h4 x hx b (by simp [hb])
  ·rintro ⟨⟨h2, h3⟩, h4⟩
   refine ⟨fun b hb => h4 a (List.mem_cons_self ..) b hb, h3, fun x hx b hb => ?_⟩
   rcases List.mem_append.1 hb with hb | hb
   ·exact h4 x (List.mem_cons_of_mem _ hx) b hb
   ·rw [List.mem_singleton.1 hb, q08]; exact h2 x hx
theorem M0i (l : List F0) : N0a [] l = g06 l := by
 rw [Bool.eq_iff_iff, n0c, r08]
 simp
def S0 (g : l0) : Bool := Y0 g && g06 g.2.2
theorem x0l (a0 a1 a2 b0 b1 b2 : Int) : (bif decide (a1 = b1) then (bif decide (a0 = b0) then true else decide (a2 = b2)) else false) = z02 (a0, a1, a2) (b0, b1, b2) := by
 unfold z02
 cases decide (a1 = b1) <;> cases decide (a0 = b0) <;> rfl
theorem p07 (l : List F0) (a : F0) (hl : l.length ≤ 140737488355328) : ∀ (d k fuel : Nat), k + d = l.length → d < fuel →
  N5 l a.2.1 a.1 a.2.2 fuel (k : Int) = some (bif noC a (l.drop k) then .inr () else .inl false)
 | d, k, 0, hd, hf => by omega
 | 0, k, fuel + 1, hd, hf => by
  rw [N5.eq_2, if_neg (by simp; omega), D1 (by omega)]
  rfl
 | d + 1, k, fuel + 1, hd, hf => by
  have hk : k < l.length := by omega
  have hx := L6 hk
  generalize l[k] = x at hx
  obtain ⟨a0, a1, a2⟩ := a
  obtain ⟨b0, b1, b2⟩ := x
  rw [N5.eq_2, if_pos (by simp; omega), C3 hx, Option.bind_some, M1 hx]
  simp only [x0l, noC]
  cases hc : z02 (a0, a1, a2) (b0, b1, b2) with
  | true => rfl
  | false =>
   rw [if_neg (by simp), Q1 hk (by omega), p07 l (a0, a1, a2) hl d (k + 1) fuel (by omega) (by omega)]
   simp
theorem e04 {α : Type} {xs : List α} {k : Nat} (h : k ≤ xs.length) : W04 xs (k : Int) (xs.length : Int) = some (xs.drop k) := by
 unfold W04
 rw [if_pos ⟨by omega, by omega, by omega⟩]
 simp
theorem q07 (l : List F0) (hl : l.length ≤ 140737488355328) : ∀ (d k fuel : Nat), k + d = l.length → d < fuel →
  O5 l fuel (k : Int) = some (bif g06 (l.drop k) then .inr () else .inl false)
 | d, k, 0, hd, hf => by omega
 | 0, k, fuel + 1, hd, hf => by
  rw [O5.eq_2, if_neg (by simp; omega), D1 (by omega)]
  rfl
 | d + 1, k, fuel + 1, hd, hf => by
  have hk : k < l.length := by omega
  have hx := L6 hk
  generalize l[k] = x at hx
  have h0 := p07 (l.drop (k + 1)) x (by simp; omega) (l.drop (k + 1)).length 0 I0 (by omega) (W0 (by simp; omega))
  rw [show ((0 : Nat) : Int) = 0 from rfl, List.drop_zero] at h0
  obtain ⟨a0, a1, a2⟩ := x
  rw [O5.eq_2, if_pos (by simp; omega), C3 hx, Option.bind_some, M1 hx]
  simp only [Q1 hk (show l.length ≤ 9223372036854775807 by omega), e04 (show k + 1 ≤ l.length by omega), Option.bind_some]
  simp only at h0
  rw [h0, Option.bind_some]
  simp only [g06]
  cases noC (a0, a1, a2) (l.drop (k + 1)) with
  | false => rfl
  | true =>
   simp only [cond_true, q0d, Bool.true_and]
   exact q07 l hl d (k + 1) fuel (by omega) (by omega)
theorem a00 (g : l0) (hl : g.2.2.length ≤ 140737488355328) : d6 g = some (S0 g) := by
 have hG := C00 g hl
 obtain ⟨r, n, es⟩ := g
 unfold d6 S0
 simp only [hG, Option.bind_some]
 cases Y0 (r, n, es) with
 | false => rfl
 | true =>
  have h := q07 es hl es.length 0 I0 (by omega) (W0 hl)
  rw [show ((0 : Nat) : Int) = 0 from rfl, List.drop_zero] at h
  rw [if_neg (by simp), h, Option.bind_some]
  cases g06 es <;> rfl
theorem r07 (l : List F0) (hl : l.length ≤ 140737488355328) {i : Nat} {a : F0} (ha : l[i]? = some a) : ∀ (d k fuel : Nat), k + d = i → d < fuel →
  M5 (i : Int) l fuel (k : Int) = some (bif noC a ((l.take i).drop k) then .inr () else .inl false)
 | d, k, 0, hd, hf => by omega
 | 0, k, fuel + 1, hd, hf => by
  have := (List.getElem?_eq_some_iff.1 ha).1
  rw [M5.eq_2, if_neg (by simp; omega), D1 (by simp; omega)]
  rfl
 | d + 1, k, fuel + 1, hd, hf => by
  have hi := (List.getElem?_eq_some_iff.1 ha).1
  have hk : k < l.length := by omega
  have hx := L6 hk
  have hx2 : (l.take i)[k]? = some l[k] := by rw [List.getElem?_take, if_pos (by omega)]; exact hx
  have ih := r07 l hl ha d (k + 1) fuel (by omega) (by omega)
  generalize l[k] = x at hx hx2
  obtain ⟨a0, a1, a2⟩ := a
  obtain ⟨b0, b1, b2⟩ := x
  rw [M5.eq_2, if_pos (by simp; omega), C3 ha, Option.bind_some, M1 hx2]
  simp only [C3 hx, Option.bind_some, x0l, noC]
  cases hc : z02 (a0, a1, a2) (b0, b1, b2) with
  | true => rfl
  | false =>
   rw [if_neg (by simp), Q1 hk (by omega), ih]
   simp
theorem V0j {α : Type} {xs : List α} {k : Nat} {x : α} (h : xs[k]? = some x) : xs.take (k + 1) = xs.take k ++ [x] := by
 obtain ⟨hk, rfl⟩ := List.getElem?_eq_some_iff.1 h
 exact List.take_succ_eq_append_getElem hk
theorem s07 (r n : Int) (l : List F0) (hg : Y0 (r, n, l) = true) (hl : l.length ≤ 140737488355328) : ∀ (d k fuel : Nat), k + d = l.length → d < fuel →
  J4 l r n fuel (k : Int) = some (bif N0a (l.take k) (l.drop k) then .inr () else .inl false)
 | d, k, 0, hd, hf => by omega
 | 0, k, fuel + 1, hd, hf => by
  have e : decide ((k : Int) < (l.length : Int)) = false := by simp; omega
  rw [J4.eq_2, e, L3, Option.bind_some, if_neg (by simp), D1 (by omega)]
  rfl
 | d + 1, k, fuel + 1, hd, hf => by
  have hk : k < l.length := by omega
  have hx := L6 hk
  generalize l[k] = x at hx
  have h0 := r07 l hl hx k 0 I0 (by omega) (W0 (by omega))
  rw [show ((0 : Nat) : Int) = 0 from rfl, List.drop_zero] at h0
  have e : decide ((k : Int) < (l.length : Int)) = true := by simp; omega
  rw [J4.eq_2, e, C2, g8 (r, n, l) hl, Option.bind_some, hg, if_pos (show (bif true then true else false) = true from rfl), h0, Option.bind_some, M1 hx]
  simp only [N0a]
  cases noC x (l.take k) with
  | false => rfl
  | true =>
   simp only [cond_true, q0d, Bool.true_and]
   rw [Q1 hk (by omega), ← V0j hx]
   exact s07 r n l hg hl d (k + 1) fuel (by omega) (by omega)
theorem b01 (g : l0) (hl : g.2.2.length ≤ 140737488355328) : Z6 g = some (S0 g) := by
 have hG := g8 g hl
 obtain ⟨r, n, es⟩ := g
 unfold Z6 S0
 simp only [hG, Option.bind_some]
 cases hg : Y0 (r, n, es) with
 | false =>
  have h1 : J4 es r n I0 0 = some (.inr ()) := by
   rw [show I0 = (I0 - 1) + 1 from rfl, J4.eq_2]
   by_cases e : decide ((0 : Int) < (es.length : Int)) = true
   ·rw [e, C2, hG, Option.bind_some, hg, if_neg (by simp)]
   ·rw [Bool.not_eq_true] at e
    rw [e, L3, Option.bind_some, if_neg (by simp)]
  rw [h1]
  rfl
 | true =>
  have h := s07 r n es hg hl es.length 0 I0 (by omega) (W0 hl)
  rw [show ((0 : Nat) : Int) = 0 from rfl, List.drop_zero, List.take_zero, M0i] at h
  rw [h, Option.bind_some]
  cases g06 es <;> rfl
theorem L1 {g : l0} (h : S0 g = true) : inG g ∧ (1 ≤ g.1 ∧ g.1 ≤ 3) ∧ (1 ≤ g.2.1 ∧ g.2.1 ≤ 40) ∧ g.2.2.length ≤ 120 := by
 unfold S0 at h
 simp only [Bool.and_eq_true] at h
 exact Q3 h.1
end Go.Proofs.YtknoadmdnjaocaaGreat
namespace Go.Proofs.YtknoadmdnjaocaaGreat
open Go.H
set_option linter.unusedVariables false
set_option linter.unusedSimpArgs false
def W0j (v : Int) (e : F0) : Nat := (if e.1 = v then 1 else 0) + (if e.2.2 = v then 1 else 0)
def c01 (v : Int) : List F0 → Nat
 | [] => 0
 | e :: r => W0j v e + c01 v r
theorem f0l (v : Int) (e : F0) : W0j v e ≤ 2 := by unfold W0j; split <;> split <;> omega
theorem u0d (v : Int) : ∀ l, c01 v l ≤ 2 * l.length
 | [] => by simp [c01]
 | e :: r => by have := f0l v e; have := u0d v r; simp only [c01, List.length_cons]; omega
theorem O0a (es : List F0) (v : Int) (hl : es.length ≤ 1099511627776) : ∀ (d k fuel acc : Nat), k + d = es.length → d < fuel → acc ≤ 2 * k →
  L2 es v fuel (acc : Int) (k : Int) = some ((acc + c01 v (es.drop k) : Nat) : Int)
 | d, k, 0, acc, hd, hf, ha => by omega
 | 0, k, fuel + 1, acc, hd, hf, ha => by
  rw [L2.eq_2, if_neg (by simp; omega), D1 (by omega)]; rfl
 | d + 1, k, fuel + 1, acc, hd, hf, ha => by
  have hk : k < es.length := by omega
  have he := L6 hk
  generalize es[k] = e at he
  obtain ⟨a, l, b⟩ := e
  have ih := fun acc' h => O0a es v hl d (k + 1) fuel acc' (by omega) (by omega) h
  have w1 : IntKind.i64.wrap ((acc : Int) + 1) = ((acc + 1 : Nat) : Int) := by rw [w64 (by omega) (by omega)]; rfl
  have w2 : IntKind.i64.wrap (((acc + 1 : Nat) : Int) + 1) = ((acc + 2 : Nat) : Int) := by rw [w64 (by omega) (by omega)]; rfl
  rw [L2.eq_2, if_pos (by simp; omega), C3 he, M1 he]
  simp only [Option.bind_some, c01, W0j, Q1 hk (show es.length ≤ 9223372036854775807 by omega)]
  by_cases c1 : a = v
  ·rw [if_pos (by simpa using c1), if_pos c1]
   by_cases c2 : b = v
   ·rw [if_pos (by simpa using c2), if_pos c2, w1, w2, ih _ (by omega)]; congr 2; omega
   ·rw [if_neg (by simpa using c2), if_neg c2, w1, ih _ (by omega)]; congr 2; omega
  ·rw [if_neg (by simpa using c1), if_neg c1]
   by_cases c2 : b = v
   ·rw [if_pos (by simpa using c2), if_pos c2, w1, ih _ (by omega)]; congr 2; omega
   ·rw [if_neg (by simpa using c2), if_neg c2, ih _ (by omega)]; congr 2; omega
theorem P0a (es : List F0) (v : Int) : ∀ (fuel : Nat) (x y : Int), K4 es v fuel x y = L2 es v fuel x y
 | 0, x, y => rfl
 | fuel + 1, x, y => by
  rw [K4.eq_2, L2.eq_2]
  simp only [P0a es v fuel]
  by_cases c : (decide (y < ((es.length : Nat) : Int))) = true
  ·rw [if_pos c, if_pos c]
   cases hg : gi es y with
   | none => rfl
   | some e => simp only [Option.bind_some]
  ·rw [if_neg c, if_neg c]
theorem o0c (g : l0) (v : Int) (hl : g.2.2.length ≤ 1099511627776) : F8 g v = some ((c01 v g.2.2 : Nat) : Int) := by
 obtain ⟨r, n, es⟩ := g
 unfold F8
 have h := O0a es v hl es.length 0 I0 0 (by omega) (W0 (by simp only at hl; omega)) (Nat.zero_le _)
 rw [show ((0 : Nat) : Int) = 0 from rfl, List.drop_zero, Nat.zero_add] at h
 simp only [h, Option.bind_some]
theorem N0i (g : l0) (v : Int) (hl : g.2.2.length ≤ 1099511627776) : y9 g v = some ((c01 v g.2.2 : Nat) : Int) := by
 have h := o0c g v hl
 obtain ⟨r, n, es⟩ := g
 unfold y9
 unfold F8 at h
 simp only [P0a] at h ⊢
 exact h
def j09 (g h : l0) : Bool := decide (g = h)
theorem v0h (x y : F0) : eqE x y = true ↔ x = y := by simp [eqE]
theorem k09 (a b : List F0) (hab : a.length = b.length) (hl : a.length ≤ 9223372036854775807) : ∀ (d k fuel : Nat), k + d = a.length → d < fuel →
  Z0 a b fuel (k : Int) = some (if a.drop k = b.drop k then .inr () else .inl false)
 | d, k, 0, hd, hf => by omega
 | 0, k, fuel + 1, hd, hf => by
  rw [Z0.eq_2, if_neg (by simp; omega), D1 (by omega), D1 (by omega)]; rfl
 | d + 1, k, fuel + 1, hd, hf => by
  have hk : k < a.length := by omega
  have hk2 : k < b.length := by omega
  have ha := L6 hk
  have hb := L6 hk2
  generalize a[k] = x at ha
  generalize b[k] = y at hb
  have ih := k09 a b hab hl d (k + 1) fuel (by omega) (by omega)
  rw [Z0.eq_2, if_pos (by simp; omega), C3 ha, C3 hb, M1 ha, M1 hb]
  simp only [Option.bind_some, Q1 hk hl, ih]
  by_cases c : x = y
  ·subst c
   rw [if_neg (by simp [eqE])]
   simp
  ·have hne : eqE x y = false := Bool.eq_false_iff.2 fun h => c ((v0h x y).1 h)
   rw [if_pos (show (!eqE x y) = true by rw [hne]; rfl), if_neg (by simp [c])]
theorem Q0a (a b : List F0) (hl : a.length ≤ 9223372036854775807) : Y1 a b = some (decide (a = b)) := by
 unfold Y1
 by_cases hab : a.length = b.length
 ·have h := k09 a b hab hl a.length 0 I0 (by omega) (by unfold I0; omega)
  rw [if_neg (by simp; omega), show (0 : Int) = ((0 : Nat) : Int) from rfl, h, List.drop_zero, List.drop_zero]
  by_cases c : a = b
  ·rw [if_pos c]; simp [Z7, c]
  ·rw [if_neg c]; simp [Z7, c]
 ·rw [if_pos (by simp; omega)]
  congr 1
  symm
  simp
  intro h; exact hab (by rw [h])
theorem p0c (g h : l0) (hl : g.2.2.length ≤ 9223372036854775807) : p7 g h = some (j09 g h) := by
 obtain ⟨r, n, es⟩ := g
 obtain ⟨r', n', es'⟩ := h
 unfold p7 j09
 simp only [Prod.mk.injEq]
 by_cases c1 : r = r' <;> by_cases c2 : n = n' <;> simp [c1, c2, C2, L3, Q0a es es' hl]
theorem q0c (a b : List F0) : ∀ (fuel : Nat) (k : Int), j5 a b fuel k = Z0 a b fuel k
 | 0, k => rfl
 | fuel + 1, k => by
  rw [j5.eq_2, Z0.eq_2]
  simp only [q0c a b fuel]
theorem r0c (g h : l0) (hl : g.2.2.length ≤ 9223372036854775807) : n7 g h = some (j09 g h) := by
 have hS := Q0a g.2.2 h.2.2 hl
 obtain ⟨r, n, es⟩ := g
 obtain ⟨r', n', es'⟩ := h
 unfold n7 j09
 unfold Y1 at hS
 simp only [q0c, Prod.mk.injEq] at hS ⊢
 by_cases c1 : r = r'
 ·by_cases c2 : n = n'
  ·simp only [c1, c2, decide_true, Bool.not_true, cond_false, true_and]
   rw [← hS]
  ·simp [c1, c2]
 ·simp [c1]
def goE (x : F0) : List F0 → Bool × List F0
 | [] => (false, [])
 | y :: l => if V0 x y < 0 then (true, x :: y :: l) else if V0 x y = 0 then (true, y :: l) else ((goE x l).1, y :: (goE x l).2)
theorem w0h (x : F0) : ∀ l, m00 V0 x l = bif (goE x l).1 then (goE x l).2 else (goE x l).2 ++ [x]
 | [] => rfl
 | y :: l => by
  have ih := w0h x l
  unfold m00 goE
  by_cases c1 : V0 x y < 0
  ·rw [if_pos c1, if_pos c1]; rfl
  ·rw [if_neg c1, if_neg c1]
   by_cases c2 : V0 x y = 0
   ·rw [if_pos c2, if_pos c2]; rfl
   ·rw [if_neg c2, if_neg c2, ih]; cases (goE x l).1 <;> rfl
theorem s08 (l : List F0) (w0 w1 w2 : Int) (hl : l.length ≤ 1099511627776) : ∀ (d k fuel : Nat) (acc : List F0), k + d = l.length → d < fuel → acc.length ≤ k + 1 →
  O3 l w0 w1 w2 fuel true (k : Int) acc = some (true, acc ++ l.drop k)
 | d, k, 0, acc, hd, hf, ha => by omega
 | 0, k, fuel + 1, acc, hd, hf, ha => by
  rw [O3.eq_2, if_neg (by simp; omega), D1 (by omega), List.append_nil]
 | d + 1, k, fuel + 1, acc, hd, hf, ha => by
  have hk : k < l.length := by omega
  have he := L6 hk
  generalize l[k] = e at he
  obtain ⟨a, x, b⟩ := e
  have ih := s08 l w0 w1 w2 hl d (k + 1) fuel (acc ++ [(a, x, b)]) (by omega) (by omega) (by simp; omega)
  rw [O3.eq_2, if_pos (by simp; omega), M1 he]
  simp only [C3 he, Option.bind_some, K00, B0 (O09 _ _), Q1 hk (show l.length ≤ 9223372036854775807 by omega), Bool.not_true]
  have hb : ∀ b : Bool, (bif b then false else false) = false := fun b => by cases b <;> rfl
  simp only [hb, Bool.false_eq_true, if_false]
  rw [B0 (by simp; omega), Option.bind_some, ih]
  simp
theorem R0a (l : List F0) (w0 w1 w2 : Int) (hl : l.length ≤ 1099511627776) : ∀ (d k fuel : Nat) (acc : List F0), k + d = l.length → d < fuel → acc.length = k →
  O3 l w0 w1 w2 fuel false (k : Int) acc = some ((goE (w0, w1, w2) (l.drop k)).1, acc ++ (goE (w0, w1, w2) (l.drop k)).2)
 | d, k, 0, acc, hd, hf, ha => by omega
 | 0, k, fuel + 1, acc, hd, hf, ha => by
  rw [O3.eq_2, if_neg (by simp; omega), D1 (by omega)]; simp [goE]
 | d + 1, k, fuel + 1, acc, hd, hf, ha => by
  have hk : k < l.length := by omega
  have he := L6 hk
  generalize l[k] = e at he
  obtain ⟨a, x, b⟩ := e
  have ih := R0a l w0 w1 w2 hl d (k + 1) fuel (acc ++ [(a, x, b)]) (by omega) (by omega) (by simp; omega)
  have on1 := s08 l w0 w1 w2 hl d (k + 1) fuel (acc ++ [(a, x, b)]) (by omega) (by omega) (by simp; omega)
  have on2 := s08 l w0 w1 w2 hl d (k + 1) fuel ((acc ++ [(w0, w1, w2)]) ++ [(a, x, b)]) (by omega) (by omega) (by simp; omega)
  rw [O3.eq_2, if_pos (by simp; omega), M1 he]
  simp only [C3 he, Option.bind_some, K00, B0 (O09 _ _), Q1 hk (show l.length ≤ 9223372036854775807 by omega), Bool.not_true, Bool.not_false, goE]
  show _ = _
  unfold I0a
  by_cases c1 : V0 (w0, w1, w2) (a, x, b) = 0
  ·rw [if_pos (by simpa using c1), if_neg (by simp [c1]), if_neg (by omega), if_pos c1]
   rw [B0 (by simp; omega), Option.bind_some, on1]; simp
  ·rw [if_neg (by simpa using c1)]
   by_cases c2 : V0 (w0, w1, w2) (a, x, b) < 0
   ·rw [if_pos (by simp [c2]), if_pos c2, B0 (by simp; omega), Option.bind_some, B0 (by simp; omega), Option.bind_some, on2]; simp
   ·rw [if_neg (by simp [c2]), if_neg c2, if_neg c1, B0 (by simp; omega), Option.bind_some, ih]; simp
theorem x0h (l : List F0) (e : F0) (hl : l.length ≤ 1099511627776) : n00 l e = some (m00 V0 e l) := by
 obtain ⟨w0, w1, w2⟩ := e
 unfold n00
 have h := R0a l w0 w1 w2 hl l.length 0 I0 [] (by omega) (W0 (by omega)) rfl
 rw [show ((0 : Nat) : Int) = 0 from rfl, List.drop_zero, List.nil_append] at h
 simp only [h, Option.bind_some, w0h]
 have hlen : ∀ l : List F0, (goE (w0, w1, w2) l).2.length ≤ l.length + 1 := fun l => by
  induction l with
  | nil => simp [goE]
  | cons y l ih =>
   unfold goE
   split
   ·simp
   ·split
    ·simp
    ·simp only [List.length_cons]; omega
 have := hlen l
 cases (goE (w0, w1, w2) l).1 with
 | true => rfl
 | false =>
  simp only [Bool.not_false, if_true, cond_false]
  rw [B0 (by simp; omega), Option.bind_some]
theorem D05 (e : F0) : ∀ l : List F0, (m00 V0 e l).length ≤ l.length + 1
 | [] => by simp [m00]
 | y :: l => by
  have := D05 e l
  unfold m00
  split
  ·simp
  ·split
   ·simp
   ·simp only [List.length_cons]; omega
theorem O0e (es : List F0) (hl : es.length ≤ 1099511627776) : K9 es = some (t8 V0 [] es) := by
 unfold K9
 rw [B0 (by simp; omega), Option.bind_some, B0 (by simp; omega), Option.bind_some, List.nil_append]
 exact congrArg some (L0e r8 v0h es es fun _ => Iff.rfl)
theorem B06 (g : l0) (hl : g.2.2.length ≤ 1099511627776) : D5 g = some g := by
 obtain ⟨r, n, es⟩ := g
 unfold D5
 simp only
 rw [B0 (by simp only [List.length_nil, Nat.zero_add]; simp only at hl; omega)]; rfl
theorem A02 (g : l0) (hl : g.2.2.length ≤ 1099511627776) : W4 g = some g := by
 obtain ⟨r, n, es⟩ := g
 unfold W4
 simp only
 rw [B0 (by simp only [List.length_nil, Nat.zero_add]; simp only at hl; omega)]; rfl
end Go.Proofs.YtknoadmdnjaocaaGreat
namespace Go.Proofs.YtknoadmdnjaocaaGreat
open Go.H
set_option linter.unusedVariables false
set_option linter.unusedSimpArgs false
inductive Rch (es : List F0) (v : Int) : Int → Prop
 | base : Rch es v v
 | fwd {e : F0} : e ∈ es → Rch es v e.1 → Rch es v e.2.2
 | bwd {e : F0} : e ∈ es → Rch es v e.2.2 → Rch es v e.1
theorem Rch.closed {es : List F0} {v : Int} : ∀ e ∈ es, Rch es v e.1 ↔ Rch es v e.2.2 := fun e he => ⟨.fwd he, .bwd he⟩
theorem Rch.sub {es : List F0} {v : Int} {P : Int → Prop} (hv : P v) (hc : ∀ e ∈ es, P e.1 ↔ P e.2.2) : ∀ {x}, Rch es v x → P x
 | _, .base => hv
 | _, .fwd he h => (hc _ he).1 (Rch.sub hv hc h)
 | _, .bwd he h => (hc _ he).2 (Rch.sub hv hc h)
def Y7 (S : List Bool) (i : Int) : Bool := S.getD i.toNat false
def stJ (S : List Bool) (e : F0) : List Bool := (S.set e.1.toNat true).set e.2.2.toNat true
def pJ : List F0 → Bool → List Bool → Bool × List Bool
 | [], c, S => (c, S)
 | e :: r, c, S => bif Y7 S e.1 == Y7 S e.2.2 then pJ r c S else pJ r true (stJ S e)
def cF : List Bool → Nat
 | [] => 0
 | b :: r => (bif b then 0 else 1) + cF r
theorem q0g : ∀ (S : List Bool) (i : Nat), cF (S.set i true) ≤ cF S
 | [], i => by simp [cF]
 | b :: r, 0 => by simp [cF]
 | b :: r, i + 1 => by have := q0g r i; simp only [List.set_cons_succ, cF]; omega
theorem X0j : ∀ (S : List Bool) (i : Nat), S[i]? = some false → cF (S.set i true) < cF S
 | [], i, h => by simp at h
 | b :: r, 0, h => by simp at h; subst h; simp [cF]
 | b :: r, i + 1, h => by have := X0j r i (by simpa using h); simp only [List.set_cons_succ, cF]; omega
theorem y0l : ∀ S : List Bool, cF S ≤ S.length
 | [] => by simp [cF]
 | b :: r => by have := y0l r; cases b <;> simp only [cF, List.length_cons, cond_true, cond_false] <;> omega
def inN (n : Nat) (es : List F0) : Prop := ∀ e ∈ es, (0 ≤ e.1 ∧ e.1 < (n : Int)) ∧ (0 ≤ e.2.2 ∧ e.2.2 < (n : Int))
theorem C03 {S : List Bool} {i : Nat} (h : i < S.length) (x : Int) : Y7 (S.set i true) x = (decide (x.toNat = i) || Y7 S x) := by
 unfold Y7
 rw [List.getD_eq_getElem?_getD, List.getD_eq_getElem?_getD, List.getElem?_set]
 by_cases c : i = x.toNat
 ·rw [if_pos c, if_pos (by omega)]; simp [c]
 ·rw [if_neg c]
  have : decide (x.toNat = i) = false := by simp; exact fun e => c e.symm
  rw [this]; rfl
theorem r0g : ∀ (es : List F0) (c : Bool) (S : List Bool), (pJ es c S).2.length = S.length
 | [], c, S => rfl
 | e :: r, c, S => by
  unfold pJ
  cases Y7 S e.1 == Y7 S e.2.2
  ·simp only [cond_false]; rw [r0g r]; simp [stJ]
  ·simp only [cond_true]; exact r0g r c S
theorem v0d {n : Nat} : ∀ (es : List F0) (c : Bool) (S : List Bool), S.length = n → inN n es → ∀ x, Y7 S x = true → Y7 (pJ es c S).2 x = true
 | [], c, S, hl, hn, x, h => h
 | e :: r, c, S, hl, hn, x, h => by
  have he := hn e (List.mem_cons_self ..)
  have hr : inN n r := fun e he => hn e (List.mem_cons_of_mem _ he)
  unfold pJ
  cases Y7 S e.1 == Y7 S e.2.2
  ·simp only [cond_false]
   refine v0d r _ _ (by simp [stJ, hl]) hr x ?_
   rw [stJ, C03 (by rw [List.length_set]; omega), C03 (by omega), h]; simp
  ·simp only [cond_true]; exact v0d r c S hl hr x h
theorem S0a {n : Nat} {P : Int → Prop} : ∀ (es : List F0) (c : Bool) (S : List Bool), S.length = n → inN n es → (∀ e ∈ es, P e.1 ↔ P e.2.2) → (∀ x, 0 ≤ x → Y7 S x = true → P x) → ∀ x, 0 ≤ x → Y7 (pJ es c S).2 x = true → P x
 | [], c, S, hl, hn, hc, hs, x, h0, h => hs x h0 h
 | e :: r, c, S, hl, hn, hc, hs, x, h0, h => by
  have he := hn e (List.mem_cons_self ..)
  have hr : inN n r := fun e he => hn e (List.mem_cons_of_mem _ he)
  have hc' := fun e he => hc e (List.mem_cons_of_mem _ he)
  have hce := hc e (List.mem_cons_self ..)
  unfold pJ at h
  cases hb : Y7 S e.1 == Y7 S e.2.2
  ·rw [hb] at h
   refine S0a r true (stJ S e) (by simp [stJ, hl]) hr hc' (fun y hy h => ?_) x h0 h
   rw [stJ, C03 (by rw [List.length_set]; omega), C03 (by omega)] at h
   simp only [Bool.or_eq_true, decide_eq_true_eq] at h
   have hor : P e.1 ∨ P e.2.2 := by
    cases h1 : Y7 S e.1
    ·cases h2 : Y7 S e.2.2
     ·rw [h1, h2] at hb; cases hb
     ·exact .inr (hs _ he.2.1 h2)
    ·exact .inl (hs _ he.1.1 h1)
   rcases h with h | h | h
   ·have : y = e.2.2 := by omega
    subst this; exact hor.elim hce.1 id
   ·have : y = e.1 := by omega
    subst this; exact hor.elim id hce.2
   ·exact hs y hy h
  ·rw [hb] at h
   exact S0a r c S hl hr hc' hs x h0 h
theorem s0g {n : Nat} : ∀ (es : List F0) (c : Bool) (S : List Bool), S.length = n → inN n es → cF (pJ es c S).2 ≤ cF S ∧ ((pJ es c S).1 = true → c = true ∨ cF (pJ es c S).2 < cF S) ∧ ((pJ es c S).1 = false → c = false ∧ (pJ es c S).2 = S ∧ ∀ e ∈ es, Y7 S e.1 = Y7 S e.2.2)
 | [], c, S, hl, hn => ⟨Nat.le_refl _, fun h => .inl h, fun h => ⟨h, rfl, fun e he => nomatch he⟩⟩
 | e :: r, c, S, hl, hn => by
  have he := hn e (List.mem_cons_self ..)
  have hr : inN n r := fun e he => hn e (List.mem_cons_of_mem _ he)
  unfold pJ
  cases hb : Y7 S e.1 == Y7 S e.2.2
  ·simp only [cond_false]
   obtain ⟨h1, h2, h3⟩ := s0g r true (stJ S e) (by simp [stJ, hl]) hr
   have hlt : cF (stJ S e) < cF S := by
    have g : ∀ (x : Int), 0 ≤ x → x < n → Y7 S x = false → S[x.toNat]? = some false := fun x hx hx2 hg => by
     have hk : x.toNat < S.length := by omega
     unfold Y7 at hg
     rw [List.getD_eq_getElem?_getD, List.getElem?_eq_getElem hk] at hg
     rw [List.getElem?_eq_getElem hk]; simpa using hg
    cases g1 : Y7 S e.1
    ·have := X0j S _ (g _ he.1.1 he.1.2 g1)
     have := q0g (S.set e.1.toNat true) e.2.2.toNat
     unfold stJ; omega
    ·have g2 : Y7 S e.2.2 = false := by
      cases g2 : Y7 S e.2.2
      ·rfl
      ·rw [g1, g2] at hb; cases hb
     have g3 : (S.set e.1.toNat true)[e.2.2.toNat]? = some false := by
      rw [List.getElem?_set]
      by_cases q : e.1.toNat = e.2.2.toNat
      ·exfalso
       have : e.1 = e.2.2 := by omega
       rw [this, g2] at g1; cases g1
      ·rw [if_neg q]; exact g _ he.2.1 he.2.2 g2
     have := X0j _ _ g3
     have := q0g S e.1.toNat
     unfold stJ; omega
   refine ⟨by omega, fun _ => .inr (by omega), fun h => ?_⟩
   have := (h3 h).1; cases this
  ·simp only [cond_true]
   obtain ⟨h1, h2, h3⟩ := s0g r c S hl hr
   refine ⟨h1, h2, fun h => ⟨(h3 h).1, (h3 h).2.1, fun e' he' => ?_⟩⟩
   rcases List.mem_cons.1 he' with rfl | he'
   ·simpa using hb
   ·exact (h3 h).2.2 e' he'
theorem giB {S : List Bool} {n : Nat} (hl : S.length = n) {x : Int} (h0 : 0 ≤ x) (h1 : x < n) : gi S x = some (Y7 S x) := by
 have hk : x.toNat < S.length := by omega
 have e : x = ((x.toNat : Nat) : Int) := by omega
 have h2 : gi S ((x.toNat : Nat) : Int) = some (Y7 S x) := by
  rw [m08, List.getElem?_eq_getElem hk]
  unfold Y7
  rw [List.getD_eq_getElem?_getD, List.getElem?_eq_getElem hk]; rfl
 rw [← e] at h2; exact h2
theorem s0c (es : List F0) {n : Nat} (hn : inN n es) (hl : es.length ≤ 9223372036854775807) : ∀ (d k fuel : Nat) (c : Bool) (S : List Bool), S.length = n → k + d = es.length → d < fuel →
  G3 es fuel c (k : Int) S = some (pJ (es.drop k) c S)
 | d, k, 0, c, S, hS, hd, hf => by omega
 | 0, k, fuel + 1, c, S, hS, hd, hf => by
  rw [G3.eq_2, if_neg (by simp; omega), D1 (by omega)]; rfl
 | d + 1, k, fuel + 1, c, S, hS, hd, hf => by
  have hk : k < es.length := by omega
  have he := L6 hk
  have hin := hn _ (List.mem_of_getElem? he)
  generalize es[k] = e at he hin
  obtain ⟨a, l, b⟩ := e
  have ih := fun c' S' h => s0c es hn hl d (k + 1) fuel c' S' h (by omega) (by omega)
  rw [G3.eq_2, if_pos (by simp; omega), M1 he]
  simp only [C3 he, Option.bind_some, giB hS hin.1.1 hin.1.2, giB hS hin.2.1 hin.2.2, Q1 hk hl, giB (show (S.set a.toNat true).length = n by simp [hS]) hin.2.1 hin.2.2, pJ]
  cases hb : Y7 S a == Y7 S b
  ·simp only [Bool.not_false, if_true, cond_false]
   exact ih _ _ (by simp [hS])
  ·simp only [Bool.not_true, Bool.false_eq_true, if_false, cond_true]
   exact ih _ _ hS
theorem t0c (es : List F0) {n : Nat} (hn : inN n es) (hl : es.length ≤ 9223372036854775806) : ∀ (m fuel : Nat) (S : List Bool), S.length = n → cF S ≤ m → m + 1 < fuel →
  ∃ S', B4 es fuel true S = some S' ∧ S'.length = n ∧ (∀ x, Y7 S x = true → Y7 S' x = true) ∧ (∀ e ∈ es, Y7 S' e.1 = Y7 S' e.2.2) ∧
   ∀ P : Int → Prop, (∀ e ∈ es, P e.1 ↔ P e.2.2) → (∀ x, 0 ≤ x → Y7 S x = true → P x) → ∀ x, 0 ≤ x → Y7 S' x = true → P x
 | m, 0, S, hS, hm, hf => by omega
 | m, fuel + 1, S, hS, hm, hf => by
  have h0 := s0c es hn (by omega) es.length 0 I0 false S hS (by omega) (by unfold I0; omega)
  rw [show ((0 : Nat) : Int) = 0 from rfl, List.drop_zero] at h0
  obtain ⟨c1, c2, c3⟩ := s0g es false S hS hn
  have hlen := r0g es false S
  rw [B4.eq_2, if_pos rfl, h0, Option.bind_some]
  have hmono := v0d es false S hS hn
  have hsnd := fun P => S0a (P := P) es false S hS hn
  generalize pJ es false S = q at *
  obtain ⟨c, S'⟩ := q
  simp only at c1 c2 c3 hlen hmono hsnd ⊢
  cases c with
  | true =>
   rcases c2 rfl with h | h
   ·cases h
   ·obtain ⟨S2, e1, e2, e3, e4, e5⟩ := t0c es hn hl (m - 1) fuel S' (by omega) (by omega) (by omega)
    exact ⟨S2, e1, e2, fun x hx => e3 x (hmono x hx), e4, fun P hc hs => e5 P hc (hsnd P hc hs)⟩
  | false =>
   obtain ⟨_, e, hall⟩ := c3 rfl
   subst e
   obtain _ | fuel := fuel
   ·omega
   ·rw [B4.eq_2, if_neg (by simp)]
    exact ⟨_, rfl, hS, fun x h => h, hall, fun P _ hs => hs⟩
theorem P0e (r : Int) (n : Nat) (es : List F0) (hn : inN n es) (hl : es.length ≤ 9223372036854775806) (hn2 : 1 ≤ n) (hn3 : n ≤ 140737488355328) :
  ∃ S, W7 (r, (n : Int), es) 0 = some S ∧ S.length = n ∧ ∀ x, 0 ≤ x → x < (n : Int) → (Y7 S x = true ↔ Rch es 0 x) := by
 unfold W7
 simp only [Int.toNat_natCast]
 have hg : gi (List.replicate n (false : Bool)) 0 = some false := by
  rw [p08 (x := false)]; rw [List.getElem?_replicate, if_pos (by omega)]
 rw [B0 (by omega), Option.bind_some, hg, Option.bind_some]
 have hS : ((List.replicate n (false : Bool)).set (0 : Int).toNat true).length = n := by simp
 obtain ⟨S', e1, e2, e3, e4, e5⟩ := t0c es hn hl n I0 _ hS (by have := y0l ((List.replicate n (false : Bool)).set (0 : Int).toNat true); omega) (by unfold I0; omega)
 rw [e1]
 have hb : ∀ x, Y7 ((List.replicate n (false : Bool)).set (0 : Int).toNat true) x = decide (x.toNat = 0) := fun x => by
  rw [C03 (by simp; omega)]
  have : Y7 (List.replicate n false) x = false := by
   unfold Y7
   rw [List.getD_eq_getElem?_getD, List.getElem?_replicate]
   split <;> rfl
  rw [this]; simp
 refine ⟨S', rfl, e2, fun x h0 h1 => ⟨fun h => ?_, fun h => ?_⟩⟩
 ·refine e5 (Rch es 0) Rch.closed (fun y hy h => ?_) x h0 h
  rw [hb] at h
  have : y = 0 := by simp at h; omega
  subst this; exact .base
 ·exact Rch.sub (P := fun x => Y7 S' x = true) (e3 0 (by rw [hb]; rfl)) (fun e he => by rw [e4 e he]) h
theorem z0l (l : List Int) (w : Int) (hl : l.length ≤ 9223372036854775807) : ∀ (d k fuel : Nat), k + d = l.length → d < fuel →
  I7 l w fuel (k : Int) = some (if w ∈ l.drop k then .inl true else .inr ())
 | d, k, 0, hd, hf => by omega
 | 0, k, fuel + 1, hd, hf => by
  rw [I7.eq_2, if_neg (by simp; omega), D1 (by omega)]; simp
 | d + 1, k, fuel + 1, hd, hf => by
  have hk : k < l.length := by omega
  have hx := L6 hk
  generalize l[k] = x at hx
  have ih := z0l l w hl d (k + 1) fuel (by omega) (by omega)
  rw [I7.eq_2, if_pos (by simp; omega), M1 hx]
  simp only [C3 hx, Option.bind_some, Q1 hk hl, ih, List.mem_cons]
  by_cases c : x = w
  ·rw [if_pos (by simpa using c), if_pos (.inl c.symm)]
  ·rw [if_neg (by simpa using c)]
   by_cases c2 : w ∈ l.drop (k + 1)
   ·rw [if_pos c2, if_pos (.inr c2)]
   ·rw [if_neg c2, if_neg (fun h => h.elim (fun e => c e.symm) c2)]
theorem Q09 (l : List Int) (w : Int) (hl : l.length ≤ 9223372036854775807) : a8 l w = some (decide (w ∈ l)) := by
 unfold a8
 have h := z0l l w hl l.length 0 I0 (by omega) (by unfold I0; omega)
 rw [show ((0 : Nat) : Int) = 0 from rfl, List.drop_zero] at h
 rw [h, Option.bind_some]
 by_cases c : w ∈ l
 ·rw [if_pos c]; simp [Z7, c]
 ·rw [if_neg c]; simp [Z7, c]
def s1 (u : List Int) (e : F0) : List Int := if e.1 ∈ u then m00 P7 e.2.2 u else u
def s2 (u : List Int) (e : F0) : List Int := if e.2.2 ∈ u then m00 P7 e.1 u else u
def pS : List F0 → List Int → List Int
 | [], u => u
 | e :: r, u => pS r (s2 (s1 u e) e)
theorem t08 {u : List Int} {e : F0} {x : Int} : x ∈ s1 u e ↔ x ∈ u ∨ (e.1 ∈ u ∧ x = e.2.2) := by
 unfold s1
 split
 ·rename_i h; rw [X04 A00]; constructor
  ·rintro (h1 | h1)
   ·exact .inr ⟨h, h1⟩
   ·exact .inl h1
  ·rintro (h1 | ⟨_, h1⟩)
   ·exact .inr h1
   ·exact .inl h1
 ·rename_i h; constructor
  ·exact .inl
  ·rintro (h1 | ⟨h1, _⟩)
   ·exact h1
   ·exact absurd h1 h
theorem u08 {u : List Int} {e : F0} {x : Int} : x ∈ s2 u e ↔ x ∈ u ∨ (e.2.2 ∈ u ∧ x = e.1) := by
 unfold s2
 split
 ·rename_i h; rw [X04 A00]; constructor
  ·rintro (h1 | h1)
   ·exact .inr ⟨h, h1⟩
   ·exact .inl h1
  ·rintro (h1 | ⟨_, h1⟩)
   ·exact .inr h1
   ·exact .inl h1
 ·rename_i h; constructor
  ·exact .inl
  ·rintro (h1 | ⟨h1, _⟩)
   ·exact h1
   ·exact absurd h1 h
theorem Y0j (u : List Int) (e : F0) : (s1 u e).length ≤ u.length + 1 := by
 unfold s1; split
 ·exact B03 _ _
 ·omega
theorem Z0j (u : List Int) (e : F0) : (s2 u e).length ≤ u.length + 1 := by
 unfold s2; split
 ·exact B03 _ _
 ·omega
theorem t0g : ∀ (es : List F0) (u : List Int), (pS es u).length ≤ u.length + 2 * es.length
 | [], u => by simp [pS]
 | e :: r, u => by
  have := t0g r (s2 (s1 u e) e)
  have := Z0j (s1 u e) e
  have := Y0j u e
  simp only [pS, List.length_cons]; omega
theorem f04 : ∀ (es : List F0) (u : List Int) (x : Int), x ∈ u → x ∈ pS es u
 | [], u, x, h => h
 | e :: r, u, x, h => f04 r _ x (u08.2 (.inl (t08.2 (.inl h))))
theorem T0a {P : Int → Prop} : ∀ (es : List F0) (u : List Int), (∀ e ∈ es, P e.1 ↔ P e.2.2) → (∀ x ∈ u, P x) → ∀ x ∈ pS es u, P x
 | [], u, hc, hs => hs
 | e :: r, u, hc, hs => T0a r _ (fun e he => hc e (List.mem_cons_of_mem _ he)) fun x hx => by
  have hce := hc e (List.mem_cons_self ..)
  have h1 : ∀ y ∈ s1 u e, P y := fun y hy => by
   rcases t08.1 hy with h | ⟨h, rfl⟩
   ·exact hs y h
   ·exact hce.1 (hs _ h)
  rcases u08.1 hx with h | ⟨h, rfl⟩
  ·exact h1 x h
  ·exact hce.2 (h1 _ h)
theorem Q0e : ∀ (es : List F0) (u : List Int) (e : F0), e ∈ es → e.1 ∈ u ∨ e.2.2 ∈ u → e.1 ∈ pS es u ∧ e.2.2 ∈ pS es u
 | e' :: r, u, e, he, h => by
  simp only [pS]
  rcases List.mem_cons.1 he with rfl | he
  ·have h2 : e.2.2 ∈ s1 u e := by
    rcases h with h | h
    ·exact t08.2 (.inr ⟨h, rfl⟩)
    ·exact t08.2 (.inl h)
   exact ⟨f04 r _ _ (u08.2 (.inr ⟨h2, rfl⟩)), f04 r _ _ (u08.2 (.inl h2))⟩
  ·exact Q0e r _ e he (h.imp (fun h => u08.2 (.inl (t08.2 (.inl h)))) fun h => u08.2 (.inl (t08.2 (.inl h))))
def act (es : List F0) (u : List Int) : Nat := es.countP fun e => decide (e.1 ∈ u) && decide (e.2.2 ∈ u)
def clo (es : List F0) (u : List Int) : Prop := ∀ e ∈ es, e.1 ∈ u ↔ e.2.2 ∈ u
theorem j0m (es : List F0) (u : List Int) : act es u ≤ es.length := List.countP_le_length
theorem u0c {α : Type} {p q : α → Bool} : ∀ {l : List α}, (∀ x ∈ l, p x = true → q x = true) → (∃ x ∈ l, p x = false ∧ q x = true) → l.countP p < l.countP q
 | [], _, ⟨x, hx, _⟩ => nomatch hx
 | y :: l, h, ⟨x, hx, h1, h2⟩ => by
  have hle : l.countP p ≤ l.countP q := List.countP_mono_left fun z hz => h z (List.mem_cons_of_mem _ hz)
  rcases List.mem_cons.1 hx with rfl | hx
  ·rw [List.countP_cons_of_neg (by simp [h1]), List.countP_cons_of_pos h2]; omega
  ·have ih := u0c (l := l) (fun z hz => h z (List.mem_cons_of_mem _ hz)) ⟨x, hx, h1, h2⟩
   cases hp : p y
   ·rw [List.countP_cons_of_neg (by simp [hp])]
    have : l.countP q ≤ (y :: l).countP q := by rw [List.countP_cons]; omega
    omega
   ·rw [List.countP_cons_of_pos hp, List.countP_cons_of_pos (h y (List.mem_cons_self ..) hp)]; omega
theorem t07 {es : List F0} {u : List Int} (h : clo es u) (x : Int) : x ∈ pS es u ↔ x ∈ u :=
 ⟨T0a (P := fun x => x ∈ u) es u h (fun _ h => h) x, f04 es u x⟩
theorem a0k {es : List F0} {u : List Int} : clo es (pS es u) ∨ act es u < act es (pS es u) := by
 by_cases h : clo es u
 ·left
  intro e he
  rw [t07 h, t07 h]; exact h e he
 ·right
  have : ∃ e ∈ es, ¬ (e.1 ∈ u ↔ e.2.2 ∈ u) := by
   refine Classical.byContradiction fun hn => h fun e he => ?_
   exact Classical.byContradiction fun h2 => hn ⟨e, he, h2⟩
  obtain ⟨e, he, hne⟩ := this
  refine u0c (fun x hx h => ?_) ⟨e, he, ?_, ?_⟩
  ·simp only [Bool.and_eq_true, decide_eq_true_eq] at h ⊢
   exact ⟨f04 _ _ _ h.1, f04 _ _ _ h.2⟩
  ·rw [Bool.eq_false_iff]
   intro h
   simp only [Bool.and_eq_true, decide_eq_true_eq] at h
   exact hne ⟨fun _ => h.2, fun _ => h.1⟩
  ·have ht : e.1 ∈ u ∨ e.2.2 ∈ u := by
    refine Classical.byContradiction fun hn => hne ⟨fun h => absurd (.inl h) hn, fun h => absurd (.inr h) hn⟩
   have := Q0e es u e he ht
   simp only [Bool.and_eq_true, decide_eq_true_eq]; exact this
def itS (es : List F0) : Nat → List Int → List Int
 | 0, u => u
 | j + 1, u => itS es j (pS es u)
theorem y0h (es : List F0) : ∀ (j : Nat) (u : List Int), (itS es j u).length ≤ u.length + j * (2 * es.length)
 | 0, u => by simp [itS]
 | j + 1, u => by have := y0h es j (pS es u); have := t0g es u; simp only [itS, Nat.add_mul, Nat.one_mul]; omega
theorem z0h (es : List F0) : ∀ (j : Nat) (u : List Int), clo es u → clo es (itS es j u)
 | 0, u, h => h
 | j + 1, u, h => z0h es j _ fun e he => by rw [t07 h, t07 h]; exact h e he
theorem A0h (es : List F0) : ∀ (j : Nat) (u : List Int), clo es (itS es j u) ∨ act es u + j ≤ act es (itS es j u)
 | 0, u => .inr (Nat.le_refl _)
 | j + 1, u => by
  rcases a0k (es := es) (u := u) with h | h
  ·exact .inl (z0h es j _ h)
  ·rcases A0h es j (pS es u) with h2 | h2
   ·exact .inl h2
   ·right; simp only [itS]; omega
theorem R0e (es : List F0) : ∀ (j : Nat) (u : List Int) (x : Int), x ∈ u → x ∈ itS es j u
 | 0, u, x, h => h
 | j + 1, u, x, h => R0e es j _ x (f04 es u x h)
theorem v0c {P : Int → Prop} (es : List F0) (hc : ∀ e ∈ es, P e.1 ↔ P e.2.2) : ∀ (j : Nat) (u : List Int), (∀ x ∈ u, P x) → ∀ x ∈ itS es j u, P x
 | 0, u, hs => hs
 | j + 1, u, hs => v0c es hc j _ (T0a es u hc hs)
theorem u07 (es : List F0) (v x : Int) : x ∈ itS es (es.length + 1) [v] ↔ Rch es v x := by
 constructor
 ·exact v0c (P := Rch es v) es Rch.closed _ _ (fun y hy => by simp at hy; subst hy; exact .base) x
 ·have hc : clo es (itS es (es.length + 1) [v]) := by
   rcases A0h es (es.length + 1) [v] with h | h
   ·exact h
   ·have := j0m es (itS es (es.length + 1) [v]); omega
  exact Rch.sub (P := fun x => x ∈ itS es (es.length + 1) [v]) (R0e _ _ _ _ (by simp)) hc
theorem U0a (es : List F0) (hl : es.length ≤ 9223372036854775807) : ∀ (d k fuel : Nat) (u : List Int), k + d = es.length → d < fuel → u.length + 2 * d ≤ 1099511627776 →
  I2 es fuel u (k : Int) = some (pS (es.drop k) u)
 | d, k, 0, u, hd, hf, hu => by omega
 | 0, k, fuel + 1, u, hd, hf, hu => by
  rw [I2.eq_2, if_neg (by simp; omega), D1 (by omega)]; rfl
 | d + 1, k, fuel + 1, u, hd, hf, hu => by
  have hk : k < es.length := by omega
  have he := L6 hk
  generalize es[k] = e at he
  obtain ⟨a, l, b⟩ := e
  have ih := fun u' h => U0a es hl d (k + 1) fuel u' (by omega) (by omega) h
  have g1 := Y0j u (a, l, b)
  have g2 := Z0j (s1 u (a, l, b)) (a, l, b)
  rw [I2.eq_2, if_pos (by simp; omega), M1 he]
  simp only [C3 he, Option.bind_some, Q09 u _ (by omega), Q1 hk hl, pS]
  by_cases c : a ∈ u
  ·rw [if_pos (by simpa using c), m07 _ _ (by omega), Option.bind_some]
   have e1 : s1 u (a, l, b) = m00 P7 b u := if_pos c
   rw [e1] at g1 g2 ⊢
   rw [Q09 _ _ (by omega), Option.bind_some]
   by_cases c2 : b ∈ m00 P7 b u
   ·rw [if_pos (by simpa using c2), m07 _ _ (by omega), Option.bind_some]
    have e2 : s2 (m00 P7 b u) (a, l, b) = m00 P7 a (m00 P7 b u) := if_pos c2
    rw [e2] at g2 ⊢
    exact ih _ (by omega)
   ·rw [if_neg (by simpa using c2)]
    have e2 : s2 (m00 P7 b u) (a, l, b) = m00 P7 b u := if_neg c2
    rw [e2]
    exact ih _ (by omega)
  ·rw [if_neg (by simpa using c)]
   have e1 : s1 u (a, l, b) = u := if_neg c
   rw [e1] at g2 ⊢
   by_cases c2 : b ∈ u
   ·rw [if_pos (by simpa using c2), m07 _ _ (by omega), Option.bind_some]
    have e2 : s2 u (a, l, b) = m00 P7 a u := if_pos c2
    rw [e2] at g2 ⊢
    exact ih _ (by omega)
   ·rw [if_neg (by simpa using c2)]
    have e2 : s2 u (a, l, b) = u := if_neg c2
    rw [e2]
    exact ih _ (by omega)
theorem V0a (es : List F0) (hl : es.length ≤ 120) : ∀ (d k fuel : Nat) (u : List Int), k + d = es.length + 1 → d < fuel → u.length ≤ 1 + k * 240 →
  L4 es fuel u (k : Int) = some (itS es d u)
 | d, k, 0, u, hd, hf, hu => by omega
 | 0, k, fuel + 1, u, hd, hf, hu => by
  rw [L4.eq_2, if_neg (by rw [w64 (by omega) (by omega)]; simp; omega)]; rfl
 | d + 1, k, fuel + 1, u, hd, hf, hu => by
  have h0 := U0a es (by omega) es.length 0 I0 u (by omega) (W0 (by omega)) (by omega)
  rw [show ((0 : Nat) : Int) = 0 from rfl, List.drop_zero] at h0
  have ih := V0a es hl d (k + 1) fuel (pS es u) (by omega) (by omega) (by have := t0g es u; omega)
  rw [L4.eq_2, if_pos (by rw [w64 (by omega) (by omega)]; simp; omega), h0, Option.bind_some, Q1 (show k < 1000 by omega) (by omega), ih]
  rfl
end Go.Proofs.YtknoadmdnjaocaaGreat
namespace Go.Proofs.YtknoadmdnjaocaaGreat
open Go.H
set_option linter.unusedVariables false
set_option linter.unusedSimpArgs false
def getI (P : List Int) (v : Int) : Int := P.getD v.toNat (-1)
def t9 : List Int → Nat → List Int → List Int
 | A, k, [] => A
 | A, k, v :: r => t9 (A.set v.toNat (k : Int)) (k + 1) r
def plc (n : Nat) (o : List Int) : List Int := t9 (List.replicate n (-1)) 0 o
theorem W0a : ∀ (o : List Int) (k : Nat) (A : List Int), (t9 A k o).length = A.length
 | [], k, A => rfl
 | v :: r, k, A => by rw [t9, W0a r]; simp
def inV (n : Nat) (o : List Int) : Prop := ∀ v ∈ o, 0 ≤ v ∧ v < (n : Int)
theorem giI {P : List Int} {n : Nat} (hl : P.length = n) {x : Int} (h0 : 0 ≤ x) (h1 : x < n) : gi P x = some (getI P x) := by
 have hk : x.toNat < P.length := by omega
 have e : x = ((x.toNat : Nat) : Int) := by omega
 have h2 : gi P ((x.toNat : Nat) : Int) = some (getI P x) := by
  rw [m08, List.getElem?_eq_getElem hk]
  unfold getI
  rw [List.getD_eq_getElem?_getD, List.getElem?_eq_getElem hk]; rfl
 rw [← e] at h2; exact h2
theorem N01 {A : List Int} {v x : Int} {y : Int} (h0 : 0 ≤ v) (h1 : v.toNat < A.length) (hx : 0 ≤ x) : getI (A.set v.toNat y) x = if x = v then y else getI A x := by
 unfold getI
 rw [List.getD_eq_getElem?_getD, List.getD_eq_getElem?_getD, List.getElem?_set]
 by_cases c : x = v
 ·rw [if_pos c, if_pos (by rw [c]), if_pos h1]; rfl
 ·rw [if_neg c, if_neg (by omega)]
theorem v07 {n : Nat} : ∀ (o : List Int) (k : Nat) (A : List Int), A.length = n → inV n o → (∀ x, 0 ≤ x → -1 ≤ getI A x ∧ getI A x < (k : Int)) → ∀ x, 0 ≤ x → -1 ≤ getI (t9 A k o) x ∧ getI (t9 A k o) x < ((k + o.length : Nat) : Int)
 | [], k, A, hA, ho, h, x, hx => h x hx
 | v :: r, k, A, hA, ho, h, x, hx => by
  have hv := ho v (List.mem_cons_self ..)
  have := v07 r (k + 1) (A.set v.toNat (k : Int)) (by simp [hA]) (fun w hw => ho w (List.mem_cons_of_mem _ hw)) (fun y hy => by
   rw [N01 hv.1 (by omega) hy]
   have := h y hy
   split <;> omega) x hx
  rw [t9, List.length_cons, show k + (r.length + 1) = k + 1 + r.length by omega]; exact this
theorem Z04 (n : Nat) (x : Int) : getI (List.replicate n (-1)) x = -1 := by
 unfold getI
 rw [List.getD_eq_getElem?_getD, List.getElem?_replicate]
 split <;> rfl
theorem D03 {n : Nat} {o : List Int} (ho : inV n o) {x : Int} (hx : 0 ≤ x) : -1 ≤ getI (plc n o) x ∧ getI (plc n o) x < (o.length : Int) := by
 have := v07 o 0 (List.replicate n (-1)) (by simp) ho (fun x hx => by rw [Z04]; omega) x hx
 rw [Nat.zero_add] at this; exact this
theorem B0h (n : Nat) (o : List Int) : (plc n o).length = n := by unfold plc; rw [W0a]; simp
def pE (P : List Int) : List F0 → List F0
 | [] => []
 | e :: r => bif decide (0 ≤ getI P e.1) && decide (0 ≤ getI P e.2.2) then (getI P e.1, e.2.1, getI P e.2.2) :: pE P r else pE P r
theorem w0d (P : List Int) : ∀ es, (pE P es).length ≤ es.length
 | [] => by simp [pE]
 | e :: r => by
  have := w0d P r
  unfold pE
  cases decide (0 ≤ getI P e.1) && decide (0 ≤ getI P e.2.2) <;> simp only [cond_true, cond_false, List.length_cons] <;> omega
theorem A0l {n : Nat} {o : List Int} (ho : inV n o) : ∀ (es : List F0), inN n es → inN o.length (pE (plc n o) es)
 | [], hn => fun e he => nomatch he
 | e :: r, hn => by
  have hr := A0l ho r fun e he => hn e (List.mem_cons_of_mem _ he)
  have he := hn e (List.mem_cons_self ..)
  unfold pE
  cases hb : decide (0 ≤ getI (plc n o) e.1) && decide (0 ≤ getI (plc n o) e.2.2)
  ·simpa only [cond_false] using hr
  ·simp only [cond_true]
   simp only [Bool.and_eq_true, decide_eq_true_eq] at hb
   intro e' he'
   rcases List.mem_cons.1 he' with rfl | he'
   ·exact ⟨⟨hb.1, (D03 ho he.1.1).2⟩, hb.2, (D03 ho he.2.1).2⟩
   ·exact hr e' he'
def g7 (g : l0) (o : List Int) : l0 := (g.1, (o.length : Int), t8 V0 [] (pE (plc g.2.1.toNat o) g.2.2))
theorem a05 : ∀ (r l : List F0), (t8 V0 l r).length ≤ l.length + r.length
 | [], l => by simp [t8]
 | e :: r, l => by have := a05 r (m00 V0 e l); have := D05 e l; simp only [t8, List.length_cons]; omega
theorem C06 (g : l0) (o : List Int) : (g7 g o).2.2.length ≤ g.2.2.length := by
 have := a05 (pE (plc g.2.1.toNat o) g.2.2) []
 have := w0d (plc g.2.1.toNat o) g.2.2
 simp only [g7, List.length_nil] at *; omega
theorem w0c {n : Nat} {r : Int} {es : List F0} {o : List Int} (ho : inV n o) (hn : inN n es) : inN o.length (g7 (r, (n : Int), es) o).2.2 := by
 intro e he
 simp only [g7, Int.toNat_natCast] at he
 rcases (r9 r8 e _ _).1 he with h | h
 ·cases h
 ·exact A0l ho es hn e h
theorem C0h (n : Nat) (hn : n ≤ 140737488355328) : ∀ (d k fuel : Nat), k + d = n → d < fuel →
  d8 n fuel (k : Int) (List.replicate k (-1) ++ List.replicate d 0) = some (List.replicate n (-1))
 | d, k, 0, hd, hf => by omega
 | 0, k, fuel + 1, hd, hf => by
  rw [d8.eq_2, if_neg (by simp; omega), show k = n by omega]; simp
 | d + 1, k, fuel + 1, hd, hf => by
  have hg : gi (List.replicate k (-1) ++ List.replicate (d + 1) (0 : Int)) (k : Int) = some 0 := by
   rw [m08, List.getElem?_append_right (by simp)]; simp
  have ih := C0h n hn d (k + 1) fuel (by omega) (by omega)
  rw [d8.eq_2, if_pos (by simp; omega), hg, Option.bind_some, Q1 (show k < n by omega) (by omega), Int.toNat_natCast]
  have e : (List.replicate k (-1) ++ List.replicate (d + 1) (0 : Int)).set k (-1) = List.replicate (k + 1) (-1) ++ List.replicate d 0 := by
   rw [List.set_append_right _ _ (by simp), List.length_replicate, Nat.sub_self, List.replicate_succ, List.set_cons_zero, List.replicate_succ']
   simp
  rw [e, ih]
theorem D0h (o : List Int) {n : Nat} (ho : inV n o) (hl : o.length ≤ 9223372036854775807) : ∀ (d k fuel : Nat) (A : List Int), A.length = n → k + d = o.length → d < fuel →
  c8 o fuel (k : Int) A = some (t9 A k (o.drop k))
 | d, k, 0, A, hA, hd, hf => by omega
 | 0, k, fuel + 1, A, hA, hd, hf => by
  rw [c8.eq_2, if_neg (by simp; omega), D1 (by omega)]; rfl
 | d + 1, k, fuel + 1, A, hA, hd, hf => by
  have hk : k < o.length := by omega
  have hx := L6 hk
  have hin := ho _ (List.mem_of_getElem? hx)
  generalize o[k] = v at hx hin
  have ih := D0h o ho hl d (k + 1) fuel (A.set v.toNat (k : Int)) (by simp [hA]) (by omega) (by omega)
  rw [c8.eq_2, if_pos (by simp; omega), M1 hx, C3 hx, Option.bind_some, giI hA hin.1 hin.2, Option.bind_some, Q1 hk hl, ih]
  rfl
theorem E0h (es : List F0) {n : Nat} (hn : inN n es) (hl : es.length ≤ 1099511627776) (P : List Int) (hP : P.length = n) (r m : Int) : ∀ (d k fuel : Nat) (acc : List F0), k + d = es.length → d < fuel → acc.length ≤ k →
  w7 es P fuel (k : Int) r m acc = some (r, m, acc ++ pE P (es.drop k))
 | d, k, 0, acc, hd, hf, ha => by omega
 | 0, k, fuel + 1, acc, hd, hf, ha => by
  rw [w7.eq_2, if_neg (by simp; omega), D1 (by omega)]; simp [pE]
 | d + 1, k, fuel + 1, acc, hd, hf, ha => by
  have hk : k < es.length := by omega
  have he := L6 hk
  have hin := hn _ (List.mem_of_getElem? he)
  generalize es[k] = e at he hin
  obtain ⟨a, l, b⟩ := e
  have ih := fun acc' h => E0h es hn hl P hP r m d (k + 1) fuel acc' (by omega) (by omega) h
  rw [w7.eq_2, if_pos (by simp; omega), M1 he]
  simp only [C3 he, Option.bind_some, giI hP hin.1.1 hin.1.2, giI hP hin.2.1 hin.2.2, Q1 hk (show es.length ≤ 9223372036854775807 by omega), pE]
  by_cases c1 : 0 ≤ getI P a
  ·simp only [show decide (getI P a ≥ 0) = true by simpa using c1, C2, Option.bind_some, cond_true, show decide (0 ≤ getI P a) = true by simpa using c1, Bool.true_and]
   by_cases c2 : 0 ≤ getI P b
   ·rw [if_pos (by simpa using c2), B0 (by simp; omega), Option.bind_some, ih _ (by simp; omega)]
    simp [c2]
   ·rw [if_neg (by simpa using c2), ih _ (by omega)]
    simp [c2]
  ·simp only [show decide (getI P a ≥ 0) = false by simpa using c1, L3, Option.bind_some, cond_false, show decide (0 ≤ getI P a) = false by simpa using c1, Bool.false_and]
   rw [if_neg (by simp), ih _ (by omega)]
theorem x0d (r : Int) (n : Nat) (es : List F0) (o : List Int) (hn : inN n es) (ho : inV n o) (hn2 : n ≤ 1000000) (hl : es.length ≤ 1099511627776) (hl2 : o.length ≤ 1099511627776) :
  Z9 (r, (n : Int), es) o = some (g7 (r, (n : Int), es) o) := by
 unfold Z9
 have h2 := C0h n (by omega) n 0 I0 (by omega) (W0 (by omega))
 have h1 := D0h o ho (by omega) o.length 0 I0 (List.replicate n (-1)) (by simp) (by omega) (W0 (by omega))
 have h0 := E0h es hn hl (plc n o) (B0h n o) r ((o.length : Nat) : Int) es.length 0 I0 [] (by omega) (W0 (by omega)) (Nat.le_refl _)
 rw [show ((0 : Nat) : Int) = 0 from rfl] at h0 h1 h2
 rw [List.replicate_zero, List.nil_append] at h2
 rw [List.drop_zero] at h1
 rw [List.drop_zero, List.nil_append] at h0
 simp only [Int.toNat_natCast]
 rw [B0 (by omega), Option.bind_some, Option.bind_some, List.length_replicate, B0 (by omega), Option.bind_some, h2, Option.bind_some, h1, Option.bind_some]
 rw [show t9 (List.replicate n (-1)) 0 o = plc n o from rfl, h0]
 simp only [Option.bind_some]
 rw [O0e _ (by have := w0d (plc n o) es; omega), Option.bind_some]
 rfl
theorem b0k (A : List Int) (i k : Nat) : (A.map (· + 1)).set i (((k + 1 : Nat) : Int)) = (A.set i (k : Int)).map (· + 1) := by
 rw [List.map_set]; rfl
theorem X0a {A : List Int} {n : Nat} (hA : A.length = n) {x : Int} (h0 : 0 ≤ x) (h1 : x < n) : gi (A.map (· + 1)) x = some (getI A x + 1) := by
 have hk : x.toNat < A.length := by omega
 have e : x = ((x.toNat : Nat) : Int) := by omega
 have h2 : gi (A.map (· + 1)) ((x.toNat : Nat) : Int) = some (getI A x + 1) := by
  rw [m08, List.getElem?_map, List.getElem?_eq_getElem hk]
  unfold getI
  rw [List.getD_eq_getElem?_getD, List.getElem?_eq_getElem hk]; rfl
 rw [← e] at h2; exact h2
theorem Y0a {n : Nat} : ∀ (o : List Int) (k : Nat) (A : List Int) (x : Int), A.length = n → inV n o → 0 ≤ x → x ∉ o → getI (t9 A k o) x = getI A x
 | [], k, A, x, hA, ho, hx, h => rfl
 | v :: r, k, A, x, hA, ho, hx, h => by
  have hv := ho v (List.mem_cons_self ..)
  rw [t9, Y0a r _ _ x (by simp [hA]) (fun w hw => ho w (List.mem_cons_of_mem _ hw)) hx (fun hm => h (List.mem_cons_of_mem _ hm)), N01 hv.1 (by omega) hx, if_neg (fun e => h (by rw [e]; exact List.mem_cons_self ..))]
theorem c0k (r : Int) (n : Nat) (es : List F0) (o : List Int) (ho : inV n o) (hd' : o.Nodup) (hn2 : 1 ≤ n ∧ n ≤ 1000000) (hl : o.length ≤ 1099511627776) : ∀ (d k fuel : Nat) (A : List Int), A.length = n → (∀ x, 0 ≤ x → -1 ≤ getI A x ∧ getI A x ≤ 1099511627776) → (∀ x ∈ o.drop k, getI A x = -1) → k + d = o.length → d < fuel →
  P3 o (n : Int) r es fuel (k : Int) (A.map (· + 1)) = some (.inr ((t9 A k (o.drop k)).map (· + 1)))
 | d, k, 0, A, hA, hr, hm, hd, hf => by omega
 | 0, k, fuel + 1, A, hA, hr, hm, hd, hf => by
  rw [P3.eq_2, if_neg (by simp; omega), D1 (by omega)]; rfl
 | d + 1, k, fuel + 1, A, hA, hr, hm, hd, hf => by
  have hk : k < o.length := by omega
  have hx := L6 hk
  have hin := ho _ (List.mem_of_getElem? hx)
  have hdr := M1 hx
  generalize o[k] = v at hx hin hdr
  have hnd : (o.drop k).Nodup := hd'.sublist (List.drop_sublist _ _)
  rw [hdr] at hnd hm
  have hA0 := hm v (List.mem_cons_self ..)
  have ih := c0k r n es o ho hd' hn2 hl d (k + 1) fuel (A.set v.toNat (k : Int)) (by simp [hA]) (fun x hx => by
   rw [N01 hin.1 (by omega) hx]; have := hr x hx; split <;> omega) (fun x hx => by
   have hx0 := ho x (List.mem_of_mem_drop hx)
   rw [N01 hin.1 (by omega) hx0.1, if_neg (fun e => (List.nodup_cons.1 hnd).1 (by rw [← e]; exact hx))]
   exact hm x (List.mem_cons_of_mem _ hx)) (by omega) (by omega)
  rw [P3.eq_2, if_pos (by simp; omega), hdr, C3 hx]
  simp only [Option.bind_some, Y04, w64 (show -9223372036854775808 ≤ (n : Int) - 1 by omega) (show (n : Int) - 1 ≤ 9223372036854775807 by omega), inR, show decide (0 ≤ v) = true by simpa using hin.1, show decide (v ≤ (n : Int) - 1) = true by simp; omega, Bool.and_self, Bool.not_true, Bool.not_false, C2, X0a hA hin.1 hin.2, hA0, cond_false]
  rw [if_neg (by decide), Q1 hk (by omega), b0k, ih]
  rfl
theorem d0k (es : List F0) {n : Nat} (hn : inN n es) (hl : es.length ≤ 1099511627776) (P : List Int) (hP : P.length = n) (hr : ∀ x, 0 ≤ x → -1 ≤ getI P x ∧ getI P x ≤ 1099511627776) (r m : Int) : ∀ (d k fuel : Nat) (acc : List F0), k + d = es.length → d < fuel → acc.length ≤ k →
  j3 es (P.map (· + 1)) fuel (k : Int) r m acc = some (r, m, t8 V0 acc (pE P (es.drop k)))
 | d, k, 0, acc, hd, hf, ha => by omega
 | 0, k, fuel + 1, acc, hd, hf, ha => by
  rw [j3.eq_2, if_neg (by simp; omega), D1 (by omega)]; rfl
 | d + 1, k, fuel + 1, acc, hd, hf, ha => by
  have hk : k < es.length := by omega
  have he := L6 hk
  have hin := hn _ (List.mem_of_getElem? he)
  generalize es[k] = e at he hin
  obtain ⟨a, l, b⟩ := e
  have ih := fun acc' h => d0k es hn hl P hP hr r m d (k + 1) fuel acc' (by omega) (by omega) h
  have ra := hr a hin.1.1
  have rb := hr b hin.2.1
  rw [j3.eq_2, if_pos (by simp; omega), M1 he]
  simp only [C3 he, Option.bind_some, X0a hP hin.1.1 hin.1.2, X0a hP hin.2.1 hin.2.2, Q1 hk (show es.length ≤ 9223372036854775807 by omega), pE]
  by_cases c1 : 0 ≤ getI P a
  ·simp only [show decide (getI P a + 1 > 0) = true by simp; omega, C2, Option.bind_some, cond_true, show decide (0 ≤ getI P a) = true by simpa using c1, Bool.true_and]
   by_cases c2 : 0 ≤ getI P b
   ·rw [if_pos (by simp; omega), w64 (by omega) (by omega), w64 (by omega) (by omega), show getI P a + 1 - 1 = getI P a by omega, show getI P b + 1 - 1 = getI P b by omega]
    rw [x0h _ _ (by omega), Option.bind_some, ih _ (by have := D05 (getI P a, l, getI P b) acc; omega)]
    simp [c2, t8]
   ·rw [if_neg (by simp; omega), ih _ (by omega)]
    simp [c2]
  ·simp only [show decide (getI P a + 1 > 0) = false by simp; omega, L3, Option.bind_some, cond_false, show decide (0 ≤ getI P a) = false by simpa using c1, Bool.false_and]
   rw [if_neg (by simp), ih _ (by omega)]
theorem D06 (r : Int) (n : Nat) (es : List F0) (o : List Int) (hg : Y0 (r, (n : Int), es) = true) (ho : inV n o) (hd : o.Nodup) (h1 : 1 ≤ o.length) (h2 : o.length ≤ n) :
  l5 (r, (n : Int), es) o = some (g7 (r, (n : Int), es) o, true) := by
 obtain ⟨q1, q2, q3, q4⟩ := Q3 hg
 simp only at q2 q3 q4
 have hn : inN n es := fun e he => ⟨(q1 e he).1, (q1 e he).2.1⟩
 have hG := g8 (r, (n : Int), es) (by simp only; omega)
 unfold l5
 have e1 := c0k r n es o ho hd (by omega) (by omega) o.length 0 I0 (List.replicate n (-1)) (by simp) (fun x hx => by rw [Z04]; omega) (fun x hx => Z04 n x) (by omega) (W0 (by omega))
 have e0 := d0k es hn (by omega) (plc n o) (B0h n o) (fun x hx => by have := D03 ho hx; omega) r ((o.length : Nat) : Int) es.length 0 I0 [] (by omega) (W0 (by omega)) (Nat.le_refl _)
 rw [show ((0 : Nat) : Int) = 0 from rfl, List.drop_zero] at e0 e1
 rw [show (List.replicate n (-1 : Int)).map (· + 1) = List.replicate n 0 by simp] at e1
 rw [show t9 (List.replicate n (-1)) 0 o = plc n o from rfl] at e1
 have c1 : decide (((o.length : Nat) : Int) = 0) = false := decide_eq_false (by omega)
 have c2 : decide (((o.length : Nat) : Int) > (n : Int)) = false := decide_eq_false (by omega)
 simp only [hG, hg, Option.bind_some, Bool.not_true, cond_false, Int.toNat_natCast, c1, c2]
 rw [if_neg (by simp), B0 (by omega), Option.bind_some, e1]
 simp only [Option.bind_some, Z7, e0]
 rfl
end Go.Proofs.YtknoadmdnjaocaaGreat
namespace Go.Proofs.YtknoadmdnjaocaaGreat
open Go.H
set_option linter.unusedVariables false
set_option linter.unusedSimpArgs false
theorem B02 : ∀ (n : Nat) (o : List Int), o.Nodup → inV n o → o.length ≤ n
 | 0, [], _, _ => Nat.le_refl _
 | 0, x :: r, _, h => by have := h x (List.mem_cons_self ..); omega
 | n + 1, o, hd, h => by
  have h1 : inV n (o.erase (n : Int)) := fun x hx => by
   obtain ⟨hne, hm⟩ := (List.Nodup.mem_erase_iff hd).1 hx
   have := h x hm; omega
  have h2 := B02 n _ (hd.erase _) h1
  by_cases hm : (n : Int) ∈ o
  ·rw [List.length_erase_of_mem hm] at h2; omega
  ·rw [List.erase_of_not_mem hm] at h2; omega
def U8 : Nat → Nat → List Int
 | 0, _ => []
 | d + 1, i => (i : Int) :: -(i : Int) :: U8 d (i + 1)
theorem C02 : ∀ d i, (U8 d i).length = 2 * d
 | 0, i => rfl
 | d + 1, i => by simp only [U8, List.length_cons, C02 d]; omega
theorem y0d : ∀ (d i : Nat), i + d ≤ 1000 → ∀ x ∈ U8 d i, y00 x
 | 0, i, h, x, hx => nomatch hx
 | d + 1, i, h, x, hx => by
  simp only [U8, List.mem_cons] at hx
  rcases hx with rfl | rfl | hx
  ·exact ⟨⟨by omega, by omega⟩, by omega⟩
  ·exact ⟨⟨by omega, by omega⟩, by omega⟩
  ·exact y0d d (i + 1) (by omega) x hx
theorem e0k (R : Nat) (hR : R ≤ 900) : ∀ (d i fuel : Nat) (acc : List Int), i + d = R + 1 → d < fuel → acc.length + 2 * d ≤ 10000 →
  t6 (R : Int) fuel (i : Int) acc = some (acc ++ U8 d i)
 | d, i, 0, acc, hd, hf, ha => by omega
 | 0, i, fuel + 1, acc, hd, hf, ha => by
  rw [t6.eq_2, if_neg (by simp; omega)]; simp [U8]
 | d + 1, i, fuel + 1, acc, hd, hf, ha => by
  have ih := e0k R hR d (i + 1) fuel (acc ++ [(i : Int), -(i : Int)]) (by omega) (by omega) (by simp; omega)
  have w1 : IntKind.i64.wrap (0 - (i : Int)) = -(i : Int) := by rw [w64 (by omega) (by omega)]; omega
  rw [t6.eq_2, if_pos (by simp; omega), w1, B0 (by simp; omega), Option.bind_some, Q1 (show i < 1000 by omega) (by omega), ih]
  simp [U8]
theorem f0k (R : Nat) (hR : R ≤ 900) : ∀ (d i fuel : Nat) (acc : List Int), i + d = R + 1 → d < fuel → acc.length + 2 * d ≤ 10000 →
  n5 (R : Int) fuel (i : Int) acc = some (acc ++ U8 d i)
 | d, i, 0, acc, hd, hf, ha => by omega
 | 0, i, fuel + 1, acc, hd, hf, ha => by
  rw [n5.eq_2, if_neg (by simp; omega)]; simp [U8]
 | d + 1, i, fuel + 1, acc, hd, hf, ha => by
  have ih := f0k R hR d (i + 1) fuel ((acc ++ [(i : Int)]) ++ [-(i : Int)]) (by omega) (by omega) (by simp; omega)
  have w1 : IntKind.i64.wrap (0 - (i : Int)) = -(i : Int) := by rw [w64 (by omega) (by omega)]; omega
  rw [n5.eq_2, if_pos (by simp; omega), w1, B0 (by simp; omega), Option.bind_some, B0 (by simp; omega), Option.bind_some, Q1 (show i < 1000 by omega) (by omega), ih]
  simp [U8]
theorem g0k (R : Nat) (hR : R ≤ 900) : y8 (R : Int) = some (U8 R 1) := by
 unfold y8
 rw [show (1 : Int) = ((1 : Nat) : Int) from rfl, e0k R hR R 1 I0 [] (by omega) (W0 (by omega)) (by simp; omega)]; rfl
theorem h0k (R : Nat) (hR : R ≤ 900) : o7 (R : Int) = some (U8 R 1) := by
 unfold o7
 rw [show (1 : Int) = ((1 : Nat) : Int) from rfl, f0k R hR R 1 I0 [] (by omega) (W0 (by omega)) (by simp; omega)]; rfl
def M05 (u : List Int) (x : Int) : List Int := if 0 ≤ x ∧ x ∉ u then u ++ [x] else u
def N00 (g : l0) (v : Int) : List Int → List Int → List Int
 | [], u => u
 | x :: r, u => N00 g v r (M05 u (D2 g v x))
def A8 (g : l0) (ls : List Int) : Nat → Nat → List Int → List Int
 | 0, i, u => u
 | f + 1, i, u => match u[i]? with
  | some v => A8 g ls f (i + 1) (N00 g v ls u)
  | none => u
def gud (n : Nat) (u : List Int) : Prop := u.Nodup ∧ inV n u
theorem F0h {n : Nat} {u : List Int} {x : Int} (h : gud n u) (hx : x = -1 ∨ (0 ≤ x ∧ x < (n : Int))) : gud n (M05 u x) := by
 unfold M05
 split
 ·rename_i hc
  refine ⟨List.nodup_append.2 ⟨h.1, by simp, fun a ha b hb => ?_⟩, fun y hy => ?_⟩
  ·simp at hb; subst hb; exact fun e => hc.2 (e ▸ ha)
  ·rcases List.mem_append.1 hy with hy | hy
   ·exact h.2 y hy
   ·simp at hy; subst hy; omega
 ·exact h
theorem S0e (u : List Int) (x : Int) : ∃ t, M05 u x = u ++ t := by
 unfold M05; split
 ·exact ⟨_, rfl⟩
 ·exact ⟨[], by simp⟩
theorem w01 (g : l0) (v : Int) : ∀ (ls u : List Int), ∃ t, N00 g v ls u = u ++ t
 | [], u => ⟨[], by simp [N00]⟩
 | x :: r, u => by
  obtain ⟨t1, e1⟩ := S0e u (D2 g v x)
  obtain ⟨t2, e2⟩ := w01 g v r (M05 u (D2 g v x))
  exact ⟨t1 ++ t2, by rw [N00, e2, e1, List.append_assoc]⟩
theorem d02 {r : Int} {n : Nat} {es : List F0} (hg : inG (r, (n : Int), es)) (v : Int) : ∀ (ls u : List Int), gud n u → gud n (N00 (r, (n : Int), es) v ls u)
 | [], u, h => h
 | x :: l, u, h => d02 hg v l _ (F0h h (P09 hg v x))
theorem Z0a {r : Int} {n : Nat} {es : List F0} (hg : inG (r, (n : Int), es)) (ls : List Int) : ∀ (f i : Nat) (u : List Int), gud n u → gud n (A8 (r, (n : Int), es) ls f i u)
 | 0, i, u, h => h
 | f + 1, i, u, h => by
  unfold A8
  split
  ·exact Z0a hg ls f _ _ (d02 hg _ _ _ h)
  ·exact h
theorem a0b (g : l0) (ls : List Int) : ∀ (f i : Nat) (u : List Int), u.length ≤ (A8 g ls f i u).length
 | 0, i, u => Nat.le_refl _
 | f + 1, i, u => by
  unfold A8
  split
  ·rename_i v _
   obtain ⟨t, e⟩ := w01 g v ls u
   have := a0b g ls f (i + 1) (N00 g v ls u)
   rw [e] at this ⊢; simp only [List.length_append] at this; omega
  ·exact Nat.le_refl _
theorem G0h (r : Int) (n : Nat) (es : List F0) (hg : inG (r, (n : Int), es)) (hn : n ≤ 40) (hes : es.length ≤ 1099511627776) (ls : List Int) (hls : ∀ x ∈ ls, y00 x) (hl : ls.length ≤ 1000000) (i : Nat) (v : Int) : ∀ (d k fuel : Nat) (u : List Int), gud n u → u[i]? = some v → k + d = ls.length → d < fuel →
  M2 ls (i : Int) r (n : Int) es fuel (k : Int) u = some (N00 (r, (n : Int), es) v (ls.drop k) u)
 | d, k, 0, u, hu, hi, hd, hf => by omega
 | 0, k, fuel + 1, u, hu, hi, hd, hf => by
  rw [M2.eq_2, if_neg (by simp; omega), D1 (by omega)]; rfl
 | d + 1, k, fuel + 1, u, hu, hi, hd, hf => by
  have hk : k < ls.length := by omega
  have hx := L6 hk
  have hxm := hls _ (List.mem_of_getElem? hx)
  have hdr := M1 hx
  generalize ls[k] = x at hx hxm hdr
  have hlen := B02 n u hu.1 hu.2
  have hnx : D2 (r, (n : Int), es) v x = -1 ∨ (0 ≤ D2 (r, (n : Int), es) v x ∧ D2 (r, (n : Int), es) v x < (n : Int)) := P09 hg v x
  have hg2 := F0h hu hnx
  have hi2 : (M05 u (D2 (r, (n : Int), es) v x))[i]? = some v := by
   obtain ⟨t, e⟩ := S0e u (D2 (r, (n : Int), es) v x)
   rw [e, List.getElem?_append_left (List.getElem?_eq_some_iff.1 hi).1]; exact hi
  have ih := G0h r n es hg hn hes ls hls hl i v d (k + 1) fuel _ hg2 hi2 (by omega) (by omega)
  rw [M2.eq_2, if_pos (by simp; omega), hdr]
  simp only [C3 hi, C3 hx, Option.bind_some, z06 (r, (n : Int), es) v x hxm hes, B0 (d04 hg (show (n : Int) ≤ 40 by omega) v x), Q1 hk (show ls.length ≤ 9223372036854775807 by omega), N00]
  rw [← ih]
  generalize D2 (r, (n : Int), es) v x = y at *
  unfold M05
  by_cases c1 : 0 ≤ y
  ·simp only [show decide (y ≥ 0) = true by simpa using c1, C2, Q09 u y (by omega), Option.bind_some, cond_true]
   by_cases c2 : y ∈ u
   ·rw [if_neg (by simp [c2]), if_neg (by simp [c2])]
   ·rw [if_pos (by simp [c2]), if_pos ⟨c1, c2⟩, B0 (by simp; omega), Option.bind_some]
  ·simp only [show decide (y ≥ 0) = false by simpa using c1, L3, Option.bind_some, cond_false]
   rw [if_neg (by simp), if_neg (fun h => c1 h.1)]
theorem H0h (r : Int) (n : Nat) (es : List F0) (hg : inG (r, (n : Int), es)) (hn : n ≤ 40) (hes : es.length ≤ 1099511627776) (ls : List Int) (hls : ∀ x ∈ ls, y00 x) (hl : ls.length ≤ 1000000) : ∀ (f i fuel : Nat) (u : List Int), gud n u → i ≤ u.length → n + 1 ≤ i + f → f < fuel →
  G4 ls r (n : Int) es fuel (i : Int) u = some (A8 (r, (n : Int), es) ls f i u)
 | f, i, 0, u, hu, hi, hd, hf => by omega
 | 0, i, fuel + 1, u, hu, hi, hd, hf => by have := B02 n u hu.1 hu.2; omega
 | f + 1, i, fuel + 1, u, hu, hi, hd, hf => by
  have hlen := B02 n u hu.1 hu.2
  rw [G4.eq_2, Option.bind_some, B0 (by omega), Option.bind_some]
  by_cases hk : i < u.length
  ·have hx := L6 hk
   generalize u[i] = v at hx
   have h0 := G0h r n es hg hn hes ls hls hl i v ls.length 0 I0 u hu hx (by omega) (W0 (by omega))
   rw [show ((0 : Nat) : Int) = 0 from rfl, List.drop_zero] at h0
   obtain ⟨t, e⟩ := w01 (r, (n : Int), es) v ls u
   have ih := H0h r n es hg hn hes ls hls hl f (i + 1) fuel _ (d02 hg v ls u hu) (by rw [e, List.length_append]; omega) (by omega) (by omega)
   rw [if_pos (by simpa using hk), h0, Option.bind_some, Q1 hk (by omega), ih]
   simp only [A8, hx]
  ·have hx : u[i]? = none := List.getElem?_eq_none (by omega)
   rw [if_neg (by simpa using hk)]
   simp only [A8, hx]
def d5 (g : l0) : List Int := A8 g (U8 g.1.toNat 1) (g.2.1.toNat + 1) 0 [0]
theorem E05 {g : l0} (hf : S0 g = true) : gud g.2.1.toNat (d5 g) ∧ 1 ≤ (d5 g).length := by
 obtain ⟨h1, h2, h3, h4⟩ := L1 hf
 obtain ⟨r, n, es⟩ := g
 simp only at h2 h3 h4
 obtain ⟨N, rfl⟩ : ∃ N : Nat, n = (N : Int) := ⟨n.toNat, by omega⟩
 refine ⟨?_, ?_⟩
 ·exact Z0a h1 _ _ _ _ ⟨by simp, fun x hx => by simp at hx; subst hx; show (0 : Int) ≤ 0 ∧ (0 : Int) < (((N : Int).toNat : Nat) : Int); omega⟩
 ·exact a0b _ _ _ _ [0]
theorem T0e (g : l0) (hf : S0 g = true) : i7 g = some (d5 g) := by
 obtain ⟨h1, h2, h3, h4⟩ := L1 hf
 have hF := b01 g (by omega)
 obtain ⟨r, n, es⟩ := g
 simp only at h2 h3 h4
 obtain ⟨N, rfl⟩ : ∃ N : Nat, n = (N : Int) := ⟨n.toNat, by omega⟩
 obtain ⟨R, rfl⟩ : ∃ R : Nat, r = (R : Int) := ⟨r.toNat, by omega⟩
 unfold i7
 have h0 := H0h (R : Int) N es h1 (by omega) (by omega) (U8 R 1) (y0d R 1 (by omega)) (by rw [C02]; omega) (N + 1) 0 I0 [0] ⟨by simp, fun x hx => by simp at hx; subst hx; omega⟩ (by simp) (by omega) (W0 (by omega))
 simp only [hF, hf, Option.bind_some, Bool.not_true, h0k R (by omega)]
 rw [show ((0 : Nat) : Int) = 0 from rfl] at h0
 rw [if_neg (by simp), h0]
 rfl
theorem g0l {a : List Int} (la : a.length ≤ 1099511627776) : z9 a = some a := by
 unfold z9
 rw [B0 (by simp; omega)]; rfl
def E03 (W : List (Option (List Int))) (x : Int) : Option (List Int) := W.getD x.toNat none
theorem giO {W : List (Option (List Int))} {n : Nat} (hl : W.length = n) {x : Int} (h0 : 0 ≤ x) (h1 : x < n) : gi W x = some (E03 W x) := by
 have hk : x.toNat < W.length := by omega
 have e : x = ((x.toNat : Nat) : Int) := by omega
 have h2 : gi W ((x.toNat : Nat) : Int) = some (E03 W x) := by
  rw [m08, List.getElem?_eq_getElem hk]
  unfold E03
  rw [List.getD_eq_getElem?_getD, List.getElem?_eq_getElem hk]; rfl
 rw [← e] at h2; exact h2
theorem F03 {A : List (Option (List Int))} {v x : Int} {y : Option (List Int)} (h0 : 0 ≤ v) (h1 : v.toNat < A.length) (hx : 0 ≤ x) : E03 (A.set v.toNat y) x = if x = v then y else E03 A x := by
 unfold E03
 rw [List.getD_eq_getElem?_getD, List.getD_eq_getElem?_getD, List.getElem?_set]
 by_cases c : x = v
 ·rw [if_pos c, if_pos (by rw [c]), if_pos h1]; rfl
 ·rw [if_neg c, if_neg (by omega)]
structure WOk (n : Nat) (W : List (Option (List Int))) (u : List Int) : Prop where
 len : W.length = n
 iff : ∀ x, 0 ≤ x → x < (n : Int) → ((E03 W x).isNone = true ↔ x ∉ u)
 short : ∀ x, ((E03 W x).getD []).length ≤ u.length
theorem I0h (r : Int) (n : Nat) (es : List F0) (hg : inG (r, (n : Int), es)) (hn : n ≤ 40) (hes : es.length ≤ 1099511627776) (ls : List Int) (hls : ∀ x ∈ ls, y00 x) (hl : ls.length ≤ 1000000) (v : Int) (hv : 0 ≤ v ∧ v < (n : Int)) : ∀ (d k fuel : Nat) (W : List (Option (List Int))) (u : List Int), gud n u → WOk n W u → k + d = ls.length → d < fuel →
  ∃ W', F4 ls r (n : Int) es v fuel (k : Int) W u = some (W', N00 (r, (n : Int), es) v (ls.drop k) u) ∧ WOk n W' (N00 (r, (n : Int), es) v (ls.drop k) u)
 | d, k, 0, W, u, hu, hw, hd, hf => by omega
 | 0, k, fuel + 1, W, u, hu, hw, hd, hf => by
  rw [F4.eq_2, if_neg (by simp; omega), D1 (by omega)]; exact ⟨W, rfl, hw⟩
 | d + 1, k, fuel + 1, W, u, hu, hw, hd, hf => by
  have hk : k < ls.length := by omega
  have hx := L6 hk
  have hxm := hls _ (List.mem_of_getElem? hx)
  have hdr := M1 hx
  generalize ls[k] = x at hx hxm hdr
  have hlen := B02 n u hu.1 hu.2
  have hnx : D2 (r, (n : Int), es) v x = -1 ∨ (0 ≤ D2 (r, (n : Int), es) v x ∧ D2 (r, (n : Int), es) v x < (n : Int)) := P09 hg v x
  have hg2 := F0h hu hnx
  have ih := fun W' h => I0h r n es hg hn hes ls hls hl v hv d (k + 1) fuel W' _ hg2 h (by omega) (by omega)
  rw [F4.eq_2, if_pos (by simp; omega), hdr]
  simp only [C3 hx, Option.bind_some, A06 (r, (n : Int), es) v x hxm hes, B0 (d04 hg (show (n : Int) ≤ 40 by omega) v x), Q1 hk (show ls.length ≤ 9223372036854775807 by omega), N00]
  generalize D2 (r, (n : Int), es) v x = y at *
  by_cases c1 : 0 ≤ y
  ·have hy : y < (n : Int) := by omega
   simp only [show decide (y ≥ 0) = true by simpa using c1, C2, giO hw.len c1 hy, Option.bind_some, cond_true]
   by_cases c2 : y ∈ u
   ·have : ¬ ((E03 W y).isNone = true) := fun h => (hw.iff y c1 hy).1 h c2
    have e : M05 u y = u := if_neg fun h => h.2 c2
    rw [if_neg this]
    rw [e] at ih ⊢
    exact ih W hw
   ·have : (E03 W y).isNone = true := (hw.iff y c1 hy).2 c2
    have e : M05 u y = u ++ [y] := if_pos ⟨c1, c2⟩
    have hs := hw.short v
    rw [if_pos this, giO hw.len hv.1 hv.2, Option.bind_some, g0l (by omega), Option.bind_some, B0 (by simp; omega), Option.bind_some, B0 (by simp; omega), Option.bind_some]
    rw [e] at ih ⊢
    refine ih _ ⟨by simp [hw.len], fun z h0 h1 => ?_, fun z => ?_⟩
    ·rw [F03 c1 (by have := hw.len; omega) h0]
     by_cases c : z = y
     ·rw [if_pos c]; simp [c]
     ·rw [if_neg c, hw.iff z h0 h1]; simp [c]
    ·by_cases hz : 0 ≤ z
     ·rw [F03 c1 (by have := hw.len; omega) hz]
      by_cases c : z = y
      ·rw [if_pos c]; simp; exact hs
      ·rw [if_neg c]; have := hw.short z; simp only [List.length_append]; omega
     ·have hz0 : E03 (W.set y.toNat (some ((E03 W v).getD [] ++ [x]))) z = E03 (W.set y.toNat (some ((E03 W v).getD [] ++ [x]))) 0 := by
       unfold E03; rw [show z.toNat = (0 : Int).toNat by omega]
      rw [hz0, F03 c1 (by have := hw.len; omega) (Int.le_refl 0)]
      by_cases c : (0 : Int) = y
      ·rw [if_pos c]; simp; exact hs
      ·rw [if_neg c]; have := hw.short 0; simp only [List.length_append]; omega
  ·have e : M05 u y = u := if_neg fun h => c1 h.1
   simp only [show decide (y ≥ 0) = false by simpa using c1, L3, Option.bind_some, cond_false]
   rw [if_neg (by simp)]
   rw [e] at ih ⊢
   exact ih W hw
theorem J0h (R n : Nat) (hR : R ≤ 900) (es : List F0) (hg : inG ((R : Int), (n : Int), es)) (hn : n ≤ 40) (hes : es.length ≤ 1099511627776) : ∀ (f i fuel : Nat) (W : List (Option (List Int))) (u : List Int), gud n u → WOk n W u → i ≤ u.length → n + 1 ≤ i + f → f < fuel →
  ∃ W', K5 (R : Int) (n : Int) es fuel (i : Int) W u = some (W', A8 ((R : Int), (n : Int), es) (U8 R 1) f i u)
 | f, i, 0, W, u, hu, hw, hi, hd, hf => by omega
 | 0, i, fuel + 1, W, u, hu, hw, hi, hd, hf => by have := B02 n u hu.1 hu.2; omega
 | f + 1, i, fuel + 1, W, u, hu, hw, hi, hd, hf => by
  have hlen := B02 n u hu.1 hu.2
  rw [K5.eq_2, Option.bind_some, B0 (by omega), Option.bind_some]
  by_cases hk : i < u.length
  ·have hx := L6 hk
   have hv := hu.2 _ (List.mem_of_getElem? hx)
   generalize u[i] = v at hx hv
   obtain ⟨W1, h0, hw1⟩ := I0h (R : Int) n es hg hn hes (U8 R 1) (y0d R 1 (by omega)) (by rw [C02]; omega) v hv (U8 R 1).length 0 I0 W u hu hw (by omega) (W0 (by rw [C02]; omega))
   rw [show ((0 : Nat) : Int) = 0 from rfl, List.drop_zero] at h0
   rw [List.drop_zero] at hw1
   obtain ⟨t, e⟩ := w01 ((R : Int), (n : Int), es) v (U8 R 1) u
   obtain ⟨W2, ih⟩ := J0h R n hR es hg hn hes f (i + 1) fuel W1 _ (d02 hg v _ u hu) hw1 (by rw [e, List.length_append]; omega) (by omega) (by omega)
   rw [if_pos (by simpa using hk), C3 hx, Option.bind_some, g0k R hR, Option.bind_some, h0, Option.bind_some]
   simp only [Q1 hk (show u.length ≤ 9223372036854775807 by omega), ih, A8, hx]
   exact ⟨_, rfl⟩
  ·have hx : u[i]? = none := List.getElem?_eq_none (by omega)
   rw [if_neg (by simpa using hk)]
   simp only [A8, hx]
   exact ⟨_, rfl⟩
theorem U0e (g : l0) (hf : S0 g = true) : j7 g = some (d5 g) := by
 obtain ⟨h1, h2, h3, h4⟩ := L1 hf
 have hF := a00 g (by omega)
 obtain ⟨r, n, es⟩ := g
 simp only at h2 h3 h4
 obtain ⟨N, rfl⟩ : ∃ N : Nat, n = (N : Int) := ⟨n.toNat, by omega⟩
 obtain ⟨R, rfl⟩ : ∃ R : Nat, r = (R : Int) := ⟨r.toNat, by omega⟩
 unfold j7
 have hrep : ∀ x, E03 (List.replicate N (none : Option (List Int))) x = none := fun x => by
  unfold E03
  rw [List.getD_eq_getElem?_getD, List.getElem?_replicate]; split <;> rfl
 have hW : WOk N ((List.replicate N (none : Option (List Int))).set (0 : Int).toNat (some [])) [0] := by
  refine ⟨by simp, fun x h0 h1 => ?_, fun x => ?_⟩
  ·rw [F03 (Int.le_refl 0) (by simp; omega) h0]
   by_cases c : x = 0
   ·rw [if_pos c]; simp [c]
   ·rw [if_neg c, hrep]; simp [c]
  ·by_cases hz : 0 ≤ x
   ·rw [F03 (Int.le_refl 0) (by simp; omega) hz]
    split
    ·simp
    ·rw [hrep]; simp
   ·have : E03 ((List.replicate N (none : Option (List Int))).set (0 : Int).toNat (some [])) x = E03 ((List.replicate N (none : Option (List Int))).set (0 : Int).toNat (some [])) 0 := by
     unfold E03; rw [show x.toNat = (0 : Int).toNat by omega]
    rw [this, F03 (Int.le_refl 0) (by simp; omega) (Int.le_refl 0), if_pos rfl]; simp
 obtain ⟨W', h0⟩ := J0h R N (by omega) es h1 (by omega) (by omega) (N + 1) 0 I0 _ [0] ⟨by simp, fun x hx => by simp at hx; subst hx; omega⟩ hW (by simp) (by omega) (W0 (by omega))
 have hg0 : gi (List.replicate N (none : Option (List Int))) 0 = some none := by
  rw [p08 (x := none)]; rw [List.getElem?_replicate, if_pos (by omega)]
 simp only [hF, hf, Option.bind_some, Bool.not_true, Q9, Int.toNat_natCast]
 rw [if_neg (by simp), B0 (by omega), Option.bind_some, hg0, Option.bind_some]
 rw [show ((0 : Nat) : Int) = 0 from rfl] at h0
 rw [h0]
 rfl
def J2 (g : l0) : l0 := g7 g (d5 g)
theorem l09 (g : l0) (hf : S0 g = true) : W5 g = some (J2 g) := by
 obtain ⟨h1, h2, h3, h4⟩ := L1 hf
 have hF := a00 g (by omega)
 have hO := U0e g hf
 obtain ⟨ho, ho1⟩ := E05 hf
 have hle := B02 _ _ ho.1 ho.2
 obtain ⟨r, n, es⟩ := g
 simp only at h2 h3 h4
 obtain ⟨N, rfl⟩ : ∃ N : Nat, n = (N : Int) := ⟨n.toNat, by omega⟩
 simp only [Int.toNat_natCast] at ho hle
 have hp := x0d r N es (d5 (r, (N : Int), es)) (fun e he => ⟨(h1 e he).1, (h1 e he).2.1⟩) ho.2 (by omega) (by omega) (by omega)
 unfold W5
 simp only [hF, hf, Option.bind_some, Bool.not_true, hO, hp]
 rfl
theorem m09 (g : l0) (hf : S0 g = true) : V5 g = some (J2 g) := by
 obtain ⟨h1, h2, h3, h4⟩ := L1 hf
 have hG : Y0 g = true := by
  unfold S0 at hf; exact (Bool.and_eq_true _ _ ▸ hf).1
 have hO := T0e g hf
 obtain ⟨ho, ho1⟩ := E05 hf
 have hle := B02 _ _ ho.1 ho.2
 obtain ⟨r, n, es⟩ := g
 simp only at h2 h3 h4
 obtain ⟨N, rfl⟩ : ∃ N : Nat, n = (N : Int) := ⟨n.toNat, by omega⟩
 simp only [Int.toNat_natCast] at ho hle
 have hp := D06 r N es (d5 (r, (N : Int), es)) hG ho.2 ho.1 ho1 hle
 unfold V5
 simp only [Option.bind_some, hO, hp]
 rw [if_neg (by simp; intro h; rw [h] at ho1; simp at ho1)]
 rfl
end Go.Proofs.YtknoadmdnjaocaaGreat
namespace Go.Proofs.YtknoadmdnjaocaaGreat
open Go.H
set_option linter.unusedVariables false
set_option linter.unusedSimpArgs false
def lf (bad : Nat → Bool) : Nat → Nat → Option Nat
 | 0, v => none
 | d + 1, v => bif bad v then some v else lf bad d (v + 1)
theorem b05 {bad : Nat → Bool} : ∀ (d v k : Nat), lf bad d v = some k → v ≤ k ∧ k < v + d
 | 0, v, k, h => by cases h
 | d + 1, v, k, h => by
  unfold lf at h
  cases hb : bad v
  ·rw [hb] at h; have := b05 d (v + 1) k h; omega
  ·rw [hb] at h; cases h; omega
theorem b0b {b1 b2 : Nat → Bool} : ∀ (d v : Nat), (∀ k, v ≤ k → k < v + d → b1 k = b2 k) → lf b1 d v = lf b2 d v
 | 0, v, h => rfl
 | d + 1, v, h => by unfold lf; rw [h v (Nat.le_refl _) (by omega), b0b d (v + 1) fun k h1 h2 => h k (by omega) (by omega)]
def O0i (es : List F0) : List Int := itS es (es.length + 1) [0]
def v08 (es : List F0) (v : Nat) : Bool := decide (c01 (v : Int) es < 2) || !decide ((v : Int) ∈ O0i es)
def B8 (g : l0) : Option Nat := lf (v08 g.2.2) (g.2.1.toNat - 1) 1
theorem u0g (g : l0) (hg : Y0 g = true) : w8 g 0 = some (O0i g.2.2) ∧ (O0i g.2.2).length ≤ 100000 := by
 obtain ⟨h1, h2, h3, h4⟩ := Q3 hg
 have hq := g8 g (by omega)
 obtain ⟨r, n, es⟩ := g
 simp only at h2 h3 h4
 unfold w8 O0i
 have hl := V0a es h4 (es.length + 1) 0 I0 [0] (by omega) (W0 (by omega)) (by simp)
 have hlen := y0h es (es.length + 1) [0]
 refine ⟨?_, ?_⟩
 ·rw [show ((0 : Nat) : Int) = 0 from rfl] at hl
  simp only [hq, hg, Option.bind_some, Bool.not_true, Bool.not_false, C2, Y04, inR, w64 (show -9223372036854775808 ≤ n - 1 by omega) (show n - 1 ≤ 9223372036854775807 by omega)]
  rw [if_neg (by simp; omega), hl]; rfl
 ·have : (es.length + 1) * (2 * es.length) ≤ 121 * 240 := Nat.mul_le_mul (by omega) (by omega)
  simp only [List.length_singleton] at hlen
  simp only
  omega
theorem i0k (r : Int) (n : Nat) (es : List F0) (hes : es.length ≤ 1000) (u : List Int) (hu : u.length ≤ 100000) (hn : n ≤ 40) : ∀ (d v fuel : Nat), v + d = n ∨ (d = 0 ∧ n ≤ v) → v ≤ 1000 → d < fuel →
  c7 (n : Int) r es u fuel (v : Int) = some (match lf (fun v => decide (c01 (v : Int) es < 2) || !decide ((v : Int) ∈ u)) d v with | some k => .inl (k : Int) | none => .inr ())
 | d, v, 0, hd, hv, hf => by omega
 | 0, v, fuel + 1, hd, hv, hf => by
  rw [c7.eq_2, if_neg (by simp; omega)]; rfl
 | d + 1, v, fuel + 1, hd, hv, hf => by
  have ih := i0k r n es hes u hu hn d (v + 1) fuel (by omega) (by omega) (by omega)
  have hdeg := u0d (v : Int) es
  rw [c7.eq_2, if_pos (by simp; omega), o0c (r, (n : Int), es) _ (by simp only; omega), Option.bind_some, B0 (c64 (by simp only; omega) (by simp only; omega)), Option.bind_some, Q1 (show v < 10000 by omega) (by omega)]
  unfold lf
  by_cases c1 : c01 (v : Int) es < 2
  ·have e1 : decide (((c01 (v : Int) es : Nat) : Int) < 2) = true := decide_eq_true (by omega)
   simp only [e1, Bool.not_true, L3, Option.bind_some, cond_true, if_true, decide_eq_true c1, Bool.true_or]
  ·have e1 : decide (((c01 (v : Int) es : Nat) : Int) < 2) = false := decide_eq_false (by omega)
   simp only [e1, Bool.not_false, C2, Q09 u _ (show u.length ≤ 9223372036854775807 by omega), Option.bind_some, cond_false, decide_eq_false c1, Bool.false_or]
   by_cases c2 : (v : Int) ∈ u
   ·simp only [decide_eq_true c2, Bool.not_true, Bool.false_eq_true, if_false, cond_false]; exact ih
   ·simp only [decide_eq_false c2, Bool.not_false, if_true, cond_true]
theorem j0k (g : l0) (hg : Y0 g = true) : I9 g = some (match B8 g with | some k => (k : Int) | none => -1) := by
 obtain ⟨e1, e2⟩ := u0g g hg
 obtain ⟨h1, h2, h3, h4⟩ := Q3 hg
 obtain ⟨r, n, es⟩ := g
 simp only at h2 h3 h4 e1 e2
 obtain ⟨N, rfl⟩ : ∃ N : Nat, n = (N : Int) := ⟨n.toNat, by omega⟩
 unfold I9 B8
 have hl := i0k r N es (by omega) (O0i es) e2 (by omega) (N - 1) 1 I0 (by omega) (by omega) (W0 (by omega))
 simp only [e1, Option.bind_some, Int.toNat_natCast]
 rw [show (1 : Int) = ((1 : Nat) : Int) from rfl, hl]
 rw [show (fun v : Nat => decide (c01 (v : Int) es < 2) || !decide ((v : Int) ∈ O0i es)) = v08 es from rfl]
 cases lf (v08 es) (N - 1) 1 <;> rfl
theorem z0d (r : Int) (n : Nat) (es : List F0) (hes : es.length ≤ 1000) (S : List Bool) (hS : S.length = n) (hn : n ≤ 40) : ∀ (d v fuel : Nat), 1 ≤ v → v + d = n ∨ (d = 0 ∧ n ≤ v) → v ≤ 1000 → d + 1 < fuel →
  E3 (n : Int) r es S fuel 0 (v : Int) = some (match lf (fun v => decide (c01 (v : Int) es < 2) || !Y7 S (v : Int)) d v with | some k => (k : Int) | none => 0)
 | d, v, 0, h1, hd, hv, hf => by omega
 | 0, v, fuel + 1, h1, hd, hv, hf => by
  have e : decide ((v : Int) < (n : Int)) = false := decide_eq_false (by omega)
  rw [E3.eq_2, if_neg (by rw [e]; simp)]; rfl
 | d + 1, v, fuel + 1, h1, hd, hv, hf => by
  have ih := z0d r n es hes S hS hn d (v + 1) fuel (by omega) (by omega) (by omega) (by omega)
  have hdeg := u0d (v : Int) es
  have e : decide ((v : Int) < (n : Int)) = true := decide_eq_true (by omega)
  have hfin : ∀ w : Int, E3 (n : Int) r es S fuel (v : Int) w = some (v : Int) := fun w => by
   obtain _ | fuel := fuel
   ·omega
   ·have e2 : decide ((v : Int) = 0) = false := decide_eq_false (by omega)
    have e3 : ∀ b : Bool, (bif b then false else false) = false := fun b => by cases b <;> rfl
    rw [E3.eq_2, if_neg (by rw [e2, e3]; simp)]
  rw [E3.eq_2, if_pos (by rw [e]; rfl), N0i (r, (n : Int), es) _ (by simp only; omega), Option.bind_some, B0 (c64 (by simp only; omega) (by simp only; omega)), Option.bind_some, Q1 (show v < 10000 by omega) (by omega)]
  unfold lf
  by_cases c1 : c01 (v : Int) es < 2
  ·have e1 : decide (((c01 (v : Int) es : Nat) : Int) < 2) = true := decide_eq_true (by omega)
   simp only [e1, Bool.not_true, L3, Option.bind_some, cond_true, if_true, decide_eq_true c1, Bool.true_or, hfin]
  ·have e1 : decide (((c01 (v : Int) es : Nat) : Int) < 2) = false := decide_eq_false (by omega)
   simp only [e1, Bool.not_false, C2, giB hS (show (0 : Int) ≤ (v : Int) by omega) (show (v : Int) < (n : Int) by omega), Option.bind_some, cond_false, decide_eq_false c1, Bool.false_or]
   cases hb : Y7 S (v : Int)
   ·simp only [Bool.not_false, if_true, cond_true, hfin]
   ·simp only [Bool.not_true, Bool.false_eq_true, if_false, cond_false]; exact ih
def wo (g : Nat) : Nat → Nat → List Int
 | 0, k => []
 | d + 1, k => if k = g then wo g d (k + 1) else (k : Int) :: wo g d (k + 1)
theorem c0b (g : Nat) : ∀ (d k : Nat), (wo g d k).length = d - (if k ≤ g ∧ g < k + d then 1 else 0)
 | 0, k => by simp [wo]
 | d + 1, k => by
  have ih := c0b g d (k + 1)
  unfold wo
  by_cases c : k = g
  ·rw [if_pos c, ih, if_neg (by omega), if_pos (by omega)]; omega
  ·rw [if_neg c, List.length_cons, ih]
   by_cases c2 : k + 1 ≤ g ∧ g < k + 1 + d
   ·rw [if_pos c2, if_pos (by omega)]; omega
   ·rw [if_neg c2, if_neg (by omega)]; omega
theorem V0e (g n : Nat) : ∀ (d k : Nat), k + d ≤ n → inV n (wo g d k)
 | 0, k, h => fun x hx => nomatch hx
 | d + 1, k, h => by
  have ih := V0e g n d (k + 1) (by omega)
  unfold wo
  split
  ·exact ih
  ·intro x hx
   rcases List.mem_cons.1 hx with rfl | hx
   ·omega
   ·exact ih x hx
theorem A0d (n g : Nat) (hn : n ≤ 1000) : ∀ (d k fuel : Nat) (acc : List Int), k + d = n → d < fuel → acc.length ≤ k →
  N4 (n : Int) (g : Int) fuel (k : Int) acc = some (acc ++ wo g d k)
 | d, k, 0, acc, hd, hf, ha => by omega
 | 0, k, fuel + 1, acc, hd, hf, ha => by
  rw [N4.eq_2, if_neg (by simp; omega)]; simp [wo]
 | d + 1, k, fuel + 1, acc, hd, hf, ha => by
  have ih := fun acc' h => A0d n g hn d (k + 1) fuel acc' (by omega) (by omega) h
  rw [N4.eq_2, if_pos (by simp; omega), Q1 (show k < 10000 by omega) (by omega)]
  unfold wo
  by_cases c : k = g
  ·have e : decide ((k : Int) = (g : Int)) = true := decide_eq_true (by omega)
   rw [e, if_neg (by simp), if_pos c, ih _ (by omega)]
  ·have e : decide ((k : Int) = (g : Int)) = false := decide_eq_false (by omega)
   rw [e, if_pos (show (!false) = true from rfl), if_neg c, B0 (by simp; omega), Option.bind_some, ih _ (by simp; omega)]
   simp
theorem B0d (n : Nat) (hn : n ≤ 1000) : ∀ (d k fuel : Nat) (acc : List Int), k + d = n → d < fuel → acc.length = k →
  ∃ u, o5 (n : Int) fuel (k : Int) acc = some u ∧ u.length = n
 | d, k, 0, acc, hd, hf, ha => by omega
 | 0, k, fuel + 1, acc, hd, hf, ha => by
  rw [o5.eq_2, if_neg (by simp; omega)]; exact ⟨_, rfl, by omega⟩
 | d + 1, k, fuel + 1, acc, hd, hf, ha => by
  obtain ⟨u, e1, e2⟩ := B0d n hn d (k + 1) fuel (acc ++ [(k : Int)]) (by omega) (by omega) (by simp; omega)
  rw [o5.eq_2, if_pos (by simp; omega), Q1 (show k < 10000 by omega) (by omega), B0 (by simp; omega), Option.bind_some, e1]
  exact ⟨u, rfl, e2⟩
theorem W0e {α : Type} {xs : List α} {k : Nat} (h : k ≤ xs.length) : W04 xs 0 (k : Int) = some (xs.take k) := by
 unfold W04
 rw [if_pos (by omega)]; rfl
theorem K0h : ∀ (n fuel : Nat) (left : List Int) (r : Int) (es : List F0), 1 ≤ n → n ≤ 40 → inN n es → es.length ≤ 120 → left.length = n → n < fuel →
  ∃ (g' : l0) (l' : List Int), O4 fuel left r (n : Int) es = some (.inl (g', l')) ∧ g'.2.1 ≤ (n : Int) ∧ (g'.2.1 = (n : Int) ↔ lf (v08 es) (n - 1) 1 = none)
 | n, 0, left, r, es, h1, h2, hn, hes, hl, hf => by omega
 | n, fuel + 1, left, r, es, h1, h2, hn, hes, hl, hf => by
  obtain ⟨S, eS, lS, hS⟩ := P0e r n es hn (by omega) h1 (by omega)
  have ht1 := z0d r n es (by omega) S lS h2 (n - 1) 1 I0 (Nat.le_refl _) (by omega) (by omega) (W0 (by omega))
  have hcg : lf (fun v => decide (c01 (v : Int) es < 2) || !Y7 S (v : Int)) (n - 1) 1 = lf (v08 es) (n - 1) 1 := b0b _ _ fun k k1 k2 => by
   unfold v08
   have := hS (k : Int) (by omega) (by omega)
   have h3 := u07 es 0 (k : Int)
   congr 2
   cases hb : Y7 S (k : Int)
   ·symm; exact decide_eq_false fun h => by rw [this.2 (h3.1 h)] at hb; cases hb
   ·symm; exact decide_eq_true (h3.2 (this.1 hb))
  rw [hcg] at ht1
  rw [O4.eq_2, eS, Option.bind_some, show (1 : Int) = ((1 : Nat) : Int) from rfl, ht1, Option.bind_some]
  cases hlf : lf (v08 es) (n - 1) 1 with
  | none =>
   exact ⟨(r, (n : Int), es), left, by rw [if_pos (by rfl)], Int.le_refl _, by simp⟩
  | some k =>
   have hk := b05 _ _ _ hlf
   have e0 : decide ((k : Int) = 0) = false := decide_eq_false (by omega)
   have ho := V0e k n n 0 (by omega)
   have hlen := c0b k n 0
   rw [if_pos (by omega)] at hlen
   have ht0 := A0d n k (by omega) n 0 I0 [] (by omega) (W0 (by omega)) (Nat.le_refl _)
   rw [show ((0 : Nat) : Int) = 0 from rfl, List.nil_append] at ht0
   have hp := x0d r n es (wo k n 0) hn ho (by omega) (by omega) (by omega)
   have hpl := C06 (r, (n : Int), es) (wo k n 0)
   have hpi := w0c (r := r) ho hn
   have hw : IntKind.i64.wrap ((k : Int) + ((1 : Nat) : Int)) = ((k + 1 : Nat) : Int) := by rw [w64 (by omega) (by omega)]; rfl
   obtain ⟨g', l', q1, q2, q3⟩ := K0h (n - 1) fuel (left.take k ++ left.drop (k + 1)) r (g7 (r, (n : Int), es) (wo k n 0)).2.2 (by omega) (by omega) (by rw [hlen] at hpi; exact hpi) (by simp only at hpl; omega) (by simp only [List.length_append, List.length_take, List.length_drop]; omega) (by omega)
   refine ⟨g', l', ?_, by omega, ?_⟩
   ·simp only [e0, Bool.false_eq_true, if_false, ht0, Option.bind_some, hp]
    rw [show g7 (r, (n : Int), es) (wo k n 0) = (r, ((n - 1 : Nat) : Int), (g7 (r, (n : Int), es) (wo k n 0)).2.2) by rw [← hlen]; rfl]
    simp only [hw]
    rw [W0e (by omega), Option.bind_some, e04 (by omega), Option.bind_some, B0 (by simp only [List.length_take, List.length_drop]; omega), Option.bind_some, q1]
   ·constructor
    ·intro h; omega
    ·intro h; cases h
theorem v0g (g : l0) (hg : Y0 g = true) : ∃ (g' : l0) (l' : List Int), w6 g = some (g', l') ∧ (g'.2.1 = g.2.1 ↔ B8 g = none) := by
 obtain ⟨h1, h2, h3, h4⟩ := Q3 hg
 have hq := C00 g (by omega)
 have hc := A02 g (by omega)
 obtain ⟨r, n, es⟩ := g
 simp only at h2 h3 h4
 obtain ⟨N, rfl⟩ : ∃ N : Nat, n = (N : Int) := ⟨n.toNat, by omega⟩
 have hn : inN N es := fun e he => ⟨(h1 e he).1, (h1 e he).2.1⟩
 obtain ⟨u, e1, e2⟩ := B0d N (by omega) N 0 I0 [] (by omega) (W0 (by omega)) rfl
 obtain ⟨g', l', q1, q2, q3⟩ := K0h N I0 u r es (by omega) (by omega) hn h4 e2 (W0 (by omega))
 refine ⟨g', l', ?_, ?_⟩
 ·unfold w6
  rw [show ((0 : Nat) : Int) = 0 from rfl] at e1
  simp only [hc, Option.bind_some, hq, hg, Bool.not_true, Bool.false_eq_true, if_false, e1, q1, Z7]
 ·simp only [B8, Int.toNat_natCast]; exact q3
def Q6 (g : l0) : Bool := S0 g && ((B8 g).isNone && j09 (J2 g) g)
theorem g6 {g : l0} (h : S0 g = true) : Y0 g = true := by
 unfold S0 at h; exact (Bool.and_eq_true _ _ ▸ h).1
theorem x0c {g : l0} (hf : S0 g = true) : (J2 g).2.2.length ≤ 120 := by
 have := C06 g (d5 g)
 have := (L1 hf).2.2.2
 unfold J2; omega
theorem C0d (g : l0) (hl : g.2.2.length ≤ 140737488355328) : L9 g = some (Q6 g) := by
 have hF := a00 g hl
 unfold Q6
 by_cases hf : S0 g = true
 ·obtain ⟨g', l', e1, e2⟩ := v0g g (g6 hf)
  have hC := l09 g hf
  have hE := p0c (J2 g) g (by have := x0c hf; omega)
  obtain ⟨r, n, es⟩ := g
  obtain ⟨r', n', es'⟩ := g'
  unfold L9
  simp only at e2
  generalize J2 (r, n, es) = C at *
  obtain ⟨c1, c2, c3⟩ := C
  simp only [hF, hf, Option.bind_some, Bool.not_true, Bool.false_eq_true, if_false, e1, hC]
  by_cases c : n' = n
  ·have := e2.1 c
   simp only [decide_eq_true c, C2, Option.bind_some, hE, cond_true, this, Option.isNone_none, Bool.true_and]
  ·have hne : (B8 (r, n, es)).isNone = false := by
    cases hq : B8 (r, n, es) with
    | none => exact absurd (e2.2 hq) c
    | some k => rfl
   simp only [decide_eq_false c, L3, Option.bind_some, cond_false, hne, Bool.false_and, Bool.and_false]
 ·have hf' : S0 g = false := Bool.eq_false_iff.2 hf
  obtain ⟨r, n, es⟩ := g
  unfold L9
  simp only [hF, hf', Option.bind_some, Bool.not_false, if_true, Bool.false_and]
theorem D0d (g : l0) (hl : g.2.2.length ≤ 140737488355328) : J9 g = some (Q6 g) := by
 have hF := b01 g hl
 unfold Q6
 by_cases hf : S0 g = true
 ·have hL := j0k g (g6 hf)
  have hC := m09 g hf
  have hE := r0c (J2 g) g (by have := x0c hf; omega)
  obtain ⟨h1, h2, h3, h4⟩ := L1 hf
  obtain ⟨r, n, es⟩ := g
  unfold J9
  generalize J2 (r, n, es) = C at *
  obtain ⟨c1, c2, c3⟩ := C
  simp only [hF, hf, Option.bind_some, C2, hL, cond_true]
  cases hq : B8 (r, n, es) with
  | none =>
   simp only [B0 (show M0 (-1) by decide), Option.bind_some, show decide ((-1 : Int) < 0) = true from rfl, C2, hC, hE, cond_true, Option.isNone_none, Bool.true_and]
  | some k =>
   have hk := b05 _ _ _ hq
   simp only at h3
   simp only at hk
   have e0 : decide ((k : Int) < 0) = false := decide_eq_false (by omega)
   simp only [B0 (show M0 (k : Int) from c64 (by omega) (by omega)), Option.bind_some, e0, L3, cond_false, Option.isNone_some, Bool.false_and, Bool.and_false]
 ·have hf' : S0 g = false := Bool.eq_false_iff.2 hf
  obtain ⟨r, n, es⟩ := g
  unfold J9
  simp only [hF, hf', Option.bind_some, L3, B0 (show M0 0 by decide), cond_false, Bool.false_and]
end Go.Proofs.YtknoadmdnjaocaaGreat
namespace Go.Proofs.YtknoadmdnjaocaaGreat
open Go.H
set_option linter.unusedVariables false
set_option linter.unusedSimpArgs false
def k0m (l : M09) : Prop := l.length ≤ 140737488355328 ∧ ∀ e ∈ l, e.1.size ≤ 140737488355328 ∧ e.2.2.2.length ≤ 140737488355328
end Go.Proofs.YtknoadmdnjaocaaGreat
namespace Go.Proofs.YtknoadmdnjaocaaGreat
open Go.H
set_option linter.unusedVariables false
set_option linter.unusedSimpArgs false
def k0k (l : M09) : Prop := l.length ≤ 1048576 ∧ ∀ e ∈ l, e.1.size ≤ 1048576 ∧ e.2.2.2.length ≤ 1048576
theorem k0k.ok {l : M09} (h : k0k l) : k0m l := ⟨by have := h.1; omega, fun e he => by have := h.2 e he; omega⟩
end Go.Proofs.YtknoadmdnjaocaaGreat
namespace Go.Proofs.YtknoadmdnjaocaaGreat
open Go.H
set_option linter.unusedVariables false
set_option linter.unusedSimpArgs false
theorem X0e {α : Type} {cf : α → α → Int} (h : E8 cf) : ∀ {l : List α}, (∀ i x y, l[i]? = some x → l[i + 1]? = some y → cf x y < 0) → Asc cf l
 | [], _ => List.Pairwise.nil
 | [x], _ => List.pairwise_singleton _ _
 | x :: y :: l, hn => by
  have ih : Asc cf (y :: l) := X0e h fun i a b ha hb => hn (i + 1) a b (by simpa using ha) (by simpa using hb)
  have hxy := hn 0 x y rfl rfl
  refine List.pairwise_cons.2 ⟨fun z hz => ?_, ih⟩
  rcases List.mem_cons.1 hz with rfl | hz
  ·exact hxy
  ·exact h.trans _ _ _ hxy ((List.pairwise_cons.1 ih).1 z hz)
theorem l0k {α : Type} {cf : α → α → Int} : ∀ {l : List α}, Asc cf l → ∀ {i : Nat} {x y : α}, l[i]? = some x → l[i + 1]? = some y → cf x y < 0
 | [], _, i, x, y, hx, _ => by simp at hx
 | a :: l, h, 0, x, y, hx, hy => by
  simp at hx hy; subst hx
  exact (List.pairwise_cons.1 h).1 y (List.mem_of_getElem? hy)
 | a :: l, h, i + 1, x, y, hx, hy => l0k (List.pairwise_cons.1 h).2 (i := i) (by simpa using hx) (by simpa using hy)
theorem m0k {r hi : Int} {es : List F0} : ∀ {d k : Nat}, (∀ i, k ≤ i → i < k + d → U0j r hi es i = false) → okE r hi es d k = true
 | 0, k, h => rfl
 | d + 1, k, h => by
  simp only [okE, Bool.and_eq_true, Bool.not_eq_true']
  exact ⟨h k (Nat.le_refl _) (by omega), m0k fun i h1 h2 => h i (by omega) (by omega)⟩
theorem G03 (g : l0) : Y0 g = true ↔ inG g ∧ (1 ≤ g.1 ∧ g.1 ≤ 3) ∧ (1 ≤ g.2.1 ∧ g.2.1 ≤ 40) ∧ g.2.2.length ≤ 120 ∧ Asc V0 g.2.2 := by
 constructor
 ·intro h
  obtain ⟨q1, q2, q3, q4⟩ := Q3 h
  refine ⟨q1, q2, q3, q4, X0e r8 fun i x y hx hy => ?_⟩
  simp only [Y0, Bool.and_eq_true] at h
  have hb := p0g h.1.1.1 (i + 1) (Nat.zero_le _) (by have := (List.getElem?_eq_some_iff.1 hy).1; omega)
  rw [l07 hy] at hb
  simp only [Nat.add_sub_cancel, hx, Bool.or_eq_false_iff] at hb
  have := hb.2
  simp only [show decide (0 < i + 1) = true by simp, Bool.true_and, decide_eq_false_iff_not] at this
  have e : I0a x y = V0 x y := rfl
  omega
 ·rintro ⟨q1, q2, q3, q4, q5⟩
  obtain ⟨r, n, es⟩ := g
  simp only at q2 q3 q4 q5
  simp only [Y0, inR, Bool.and_eq_true, decide_eq_true_eq]
  refine ⟨⟨⟨m0k fun i _ hi => ?_, q2⟩, q3⟩, q4⟩
  have hx := L6 (show i < es.length by omega)
  generalize es[i] = e at hx
  rw [l07 hx]
  have he := q1 e (List.mem_of_getElem? hx)
  simp only at he
  simp only [Bool.or_eq_false_iff, Bool.not_eq_false', i03, inR, Bool.and_eq_true, decide_eq_true_eq]
  rw [w64 (by omega) (by omega)]
  refine ⟨⟨⟨⟨by omega, by omega⟩, by omega, by omega⟩, by omega, by omega⟩, ?_⟩
  cases i with
  | zero => rfl
  | succ j =>
   have hy := L6 (show j < es.length by omega)
   generalize es[j] = f at hy
   have := l0k q5 hy hx
   simp only [Nat.add_sub_cancel, hy]
   have e' : I0a f e = V0 f e := rfl
   simp [e']; omega
theorem w07 {r : Int} {n : Int} {es : List F0} (hr : 1 ≤ r ∧ r ≤ 3) (hn : 1 ≤ n ∧ n ≤ 40) (hes : es.length ≤ 120) (hin : inG (r, n, es)) : Y0 (r, n, t8 V0 [] es) = true := by
 refine (G03 _).2 ⟨fun e he => hin e ?_, hr, hn, ?_, b04 r8 _ _ List.Pairwise.nil⟩
 ·rcases (r9 r8 e es []).1 he with h | h
  ·simp at h
  ·exact h
 ·have := a05 es []
  simp only [List.length_nil] at this
  simp only; omega
def x07 (a b : F0) : List (Int × Int) :=
 bif decide (a.2.1 = b.2.1) then (bif decide (a.1 = b.1) then [(if b.2.2 < a.2.2 then b.2.2 else a.2.2, if b.2.2 > a.2.2 then b.2.2 else a.2.2)] else []) ++ (bif decide (a.2.2 = b.2.2) then [(if b.1 < a.1 then b.1 else a.1, if b.1 > a.1 then b.1 else a.1)] else []) else []
def O00 (a : F0) : List F0 → List (Int × Int)
 | [] => []
 | b :: r => x07 a b ++ O00 a r
def J7 : List F0 → List (Int × Int)
 | [] => []
 | a :: r => O00 a r ++ J7 r
theorem P0i (a b : F0) : (x07 a b).length ≤ 2 := by
 unfold x07
 cases decide (a.2.1 = b.2.1) <;> cases decide (a.1 = b.1) <;> cases decide (a.2.2 = b.2.2) <;> simp
theorem w08 (a : F0) : ∀ l, (O00 a l).length ≤ 2 * l.length
 | [] => by simp [O00]
 | b :: r => by have := P0i a b; have := w08 a r; simp only [O00, List.length_append, List.length_cons]; omega
def mvV (f : Int × Int) (v : Int) : Int := if v = f.2 then f.1 else if v > f.2 then v - 1 else v
def mvE (f : Int × Int) (e : F0) : F0 := (mvV f e.1, e.2.1, mvV f e.2.2)
def R9 (g : l0) (f : Int × Int) : l0 := (g.1, g.2.1 - 1, t8 V0 [] (g.2.2.map (mvE f)))
def okF (g : l0) (f : Int × Int) : Prop := 0 ≤ f.1 ∧ f.1 < f.2 ∧ f.2 < g.2.1
theorem c05 {g : l0} {f : Int × Int} (hg : Y0 g = true) (hf : okF g f) : Y0 (R9 g f) = true := by
 obtain ⟨q1, q2, q3, q4, _⟩ := (G03 g).1 hg
 obtain ⟨f1, f2, f3⟩ := hf
 refine w07 q2 ⟨by omega, by omega⟩ (by simpa using q4) fun e he => ?_
 obtain ⟨e', he', rfl⟩ := List.mem_map.1 he
 obtain ⟨a1, a2, a3⟩ := q1 e' he'
 have hm : ∀ v : Int, 0 ≤ v ∧ v < g.2.1 → 0 ≤ mvV f v ∧ mvV f v < g.2.1 - 1 := fun v hv => by
  unfold mvV; split
  ·omega
  ·split <;> omega
 exact ⟨hm _ a1, hm _ a2, a3⟩
theorem Y0e {g : l0} (hg : inG g) {a : F0} (ha : a ∈ g.2.2) : ∀ {l : List F0}, (∀ b ∈ l, b ∈ g.2.2 ∧ a ≠ b) → ∀ f ∈ O00 a l, okF g f
 | [], _, f, hf => by simp [O00] at hf
 | b :: r, h, f, hf => by
  rcases List.mem_append.1 (show f ∈ x07 a b ++ O00 a r from hf) with hf | hf
  ·have hb := hg b (h b (List.mem_cons_self ..)).1
   have ha' := hg a ha
   have hne := (h b (List.mem_cons_self ..)).2
   obtain ⟨a0, a1, a2⟩ := a
   obtain ⟨b0, b1, b2⟩ := b
   simp only at ha' hb
   unfold x07 at hf
   simp only at hf
   by_cases c1 : a1 = b1
   ·have d1 : ¬ (a0 = b0 ∧ a2 = b2) := fun ⟨x, y⟩ => hne (by rw [x, c1, y])
    simp only [c1, decide_true, cond_true, List.mem_append] at hf
    rcases hf with hf | hf
    ·by_cases c2 : a0 = b0
     ·simp only [c2, decide_true, cond_true, List.mem_singleton] at hf
      subst hf
      have : a2 ≠ b2 := fun y => d1 ⟨c2, y⟩
      unfold okF
      simp only
      split <;> split <;> omega
     ·simp [c2] at hf
    ·by_cases c2 : a2 = b2
     ·simp only [c2, decide_true, cond_true, List.mem_singleton] at hf
      subst hf
      have : a0 ≠ b0 := fun y => d1 ⟨y, c2⟩
      unfold okF
      simp only
      split <;> split <;> omega
     ·simp [c2] at hf
   ·simp [c1] at hf
  ·exact Y0e hg ha (fun b' hb' => h b' (List.mem_cons_of_mem _ hb')) f hf
theorem Z0e {g : l0} (hg : inG g) : ∀ {l : List F0}, (∀ b ∈ l, b ∈ g.2.2) → Asc V0 l → ∀ f ∈ J7 l, okF g f
 | [], _, _, f, hf => by simp [J7] at hf
 | a :: r, h, hA, f, hf => by
  rcases List.mem_append.1 (show f ∈ O00 a r ++ J7 r from hf) with hf | hf
  ·refine Y0e hg (h a (List.mem_cons_self ..)) (fun b hb => ⟨h b (List.mem_cons_of_mem _ hb), fun e => ?_⟩) f hf
   have := (List.pairwise_cons.1 hA).1 b hb
   rw [e, r8.refl] at this; omega
  ·exact Z0e hg (fun b hb => h b (List.mem_cons_of_mem _ hb)) (List.pairwise_cons.1 hA).2 f hf
theorem H03 {g : l0} (hg : Y0 g = true) : ∀ f ∈ J7 g.2.2, okF g f := by
 obtain ⟨q1, _, _, _, q5⟩ := (G03 g).1 hg
 exact Z0e q1 (fun _ h => h) q5
def w00 : Nat → l0 → l0 × List (Int × Int)
 | 0, g => (g, [])
 | n + 1, g => match J7 g.2.2 with
  | [] => (g, [])
  | f :: _ => ((w00 n (R9 g f)).1, f :: (w00 n (R9 g f)).2)
def e02 (g : l0) : l0 × List (Int × Int) := bif Y0 g then w00 40 g else (g, [])
theorem d0b : ∀ (n : Nat) {g : l0}, Y0 g = true → g.2.1 ≤ (n : Int) + 1 → J7 (w00 n g).1.2.2 = []
 | 0, g, h, hn => by
  cases e : J7 g.2.2 with
  | nil => exact e
  | cons f l =>
   have := H03 h f (by rw [e]; exact List.mem_cons_self ..)
   unfold okF at this
   omega
 | n + 1, g, h, hn => by
  unfold w00
  cases e : J7 g.2.2 with
  | nil => exact e
  | cons f l => exact d0b n (c05 h (H03 h f (by rw [e]; exact List.mem_cons_self ..))) (by show g.2.1 - 1 ≤ _; omega)
theorem Q0i (a b : F0) : x07 a b = [] ↔ z02 a b = false := by
 unfold x07 z02
 cases decide (a.2.1 = b.2.1) <;> cases decide (a.1 = b.1) <;> cases decide (a.2.2 = b.2.2) <;> simp
theorem y0c (a : F0) : ∀ l, O00 a l = [] ↔ ∀ b ∈ l, z02 a b = false
 | [] => by simp [O00]
 | b :: r => by
  rw [O00, List.append_eq_nil_iff, Q0i, y0c a r]
  simp
theorem x08 : ∀ l, J7 l = [] ↔ l.Pairwise fun a b => z02 a b = false
 | [] => by simp [J7]
 | a :: r => by rw [J7, List.append_eq_nil_iff, y0c, x08 r, List.pairwise_cons]
theorem g04 (g : l0) : S0 g = true ↔ Y0 g = true ∧ J7 g.2.2 = [] := by
 unfold S0
 rw [Bool.and_eq_true, r08, x08]
end Go.Proofs.YtknoadmdnjaocaaGreat
namespace Go.Proofs.YtknoadmdnjaocaaGreat
open Go.H
set_option linter.unusedVariables false
set_option linter.unusedSimpArgs false
theorem z0c (l : List F0) (a0 a1 a2 : Int) (hl : l.length ≤ 1000) : ∀ (d k fuel : Nat) (acc : List A4), k + d = l.length → d < fuel → acc.length + 2 * d ≤ 4000000 →
  H4 l a1 a0 a2 fuel (k : Int) acc = some (acc ++ O00 (a0, a1, a2) (l.drop k))
 | d, k, 0, acc, hd, hf, ha => by omega
 | 0, k, fuel + 1, acc, hd, hf, ha => by
  rw [H4.eq_2, if_neg (by simp; omega), D1 (by omega)]
  simp [O00]
 | d + 1, k, fuel + 1, acc, hd, hf, ha => by
  have hk : k < l.length := by omega
  have hx := L6 hk
  generalize l[k] = b at hx
  obtain ⟨b0, b1, b2⟩ := b
  have ih : ∀ acc' : List A4, acc'.length + 2 * d ≤ 4000000 → H4 l a1 a0 a2 fuel ((k + 1 : Nat) : Int) acc' = some (acc' ++ O00 (a0, a1, a2) (l.drop (k + 1))) := fun acc' h => z0c l a0 a1 a2 hl d (k + 1) fuel acc' (by omega) (by omega) h
  rw [H4.eq_2, if_pos (by simp; omega), C3 hx, Option.bind_some, Q1 hk (by omega), M1 hx]
  simp only [O00, x07]
  cases decide (a1 = b1)
  ·simp only [Bool.not_false, if_true, cond_false, List.nil_append]
   exact ih acc (by omega)
  ·cases decide (a0 = b0) <;> cases decide (a2 = b2)
   all_goals simp only [Bool.not_true, Bool.false_eq_true, if_false, if_true, cond_true, cond_false, List.nil_append, List.append_nil]
   ·exact ih acc (by omega)
   ·rw [B0 (by simp; omega), Option.bind_some, ih _ (by simp; omega)]; simp
   ·rw [B0 (by simp; omega), Option.bind_some, ih _ (by simp; omega)]; simp
   ·rw [B0 (by simp; omega), Option.bind_some, B0 (by simp; omega), Option.bind_some, ih _ (by simp; omega)]; simp
theorem A0c (l : List F0) (hl : l.length ≤ 1000) : ∀ (d k fuel : Nat) (acc : List A4), k + d = l.length → d < fuel → acc.length + 2000 * d ≤ 3000000 →
  K7 l fuel (k : Int) acc = some (acc ++ J7 (l.drop k))
 | d, k, 0, acc, hd, hf, ha => by omega
 | 0, k, fuel + 1, acc, hd, hf, ha => by
  rw [K7.eq_2, if_neg (by simp; omega), D1 (by omega)]
  simp [J7]
 | d + 1, k, fuel + 1, acc, hd, hf, ha => by
  have hk : k < l.length := by omega
  have hx := L6 hk
  generalize l[k] = b at hx
  obtain ⟨b0, b1, b2⟩ := b
  have h0 := z0c (l.drop (k + 1)) b0 b1 b2 (by simp; omega) (l.length - (k + 1)) 0 I0 acc (by simp) (W0 (by omega)) (by omega)
  have hr := w08 (b0, b1, b2) (l.drop (k + 1))
  simp only [List.length_drop] at hr
  rw [K7.eq_2, if_pos (by simp; omega), C3 hx, Option.bind_some]
  simp only [Q1 hk (show l.length ≤ 9223372036854775807 by omega)]
  rw [e04 (by omega), Option.bind_some, show (0 : Int) = ((0 : Nat) : Int) from rfl, h0, Option.bind_some, A0c l hl d (k + 1) fuel _ (by omega) (by omega) (by simp only [List.length_append, List.drop_zero, List.length_drop] at hr ⊢; omega), M1 hx, J7]
  simp
theorem B0c (l : List F0) (hl : l.length ≤ 1000) (i : Nat) (a0 a1 a2 : Int) (hi : l[i]? = some (a0, a1, a2)) : ∀ (d k fuel : Nat) (acc : List A4), k + d = l.length → d < fuel → acc.length + 2 * d ≤ 4000000 →
  M3 l (i : Int) fuel (k : Int) acc = some (acc ++ O00 (a0, a1, a2) (l.drop k))
 | d, k, 0, acc, hd, hf, ha => by omega
 | 0, k, fuel + 1, acc, hd, hf, ha => by
  rw [M3.eq_2, if_neg (by simp; omega), D1 (by omega)]
  simp [O00]
 | d + 1, k, fuel + 1, acc, hd, hf, ha => by
  have hk : k < l.length := by omega
  have hx := L6 hk
  generalize l[k] = b at hx
  obtain ⟨b0, b1, b2⟩ := b
  have ih : ∀ acc' : List A4, acc'.length + 2 * d ≤ 4000000 → M3 l (i : Int) fuel ((k + 1 : Nat) : Int) acc' = some (acc' ++ O00 (a0, a1, a2) (l.drop (k + 1))) := fun acc' h => B0c l hl i a0 a1 a2 hi d (k + 1) fuel acc' (by omega) (by omega) h
  rw [M3.eq_2, if_pos (by simp; omega), C3 hi, Option.bind_some]
  simp only []
  rw [C3 hx, Option.bind_some, Q1 hk (by omega), M1 hx]
  simp only [O00, x07]
  cases decide (a1 = b1)
  ·simp only [Bool.false_eq_true, if_false, cond_false, List.nil_append]
   exact ih acc (by omega)
  ·cases decide (a0 = b0) <;> cases decide (a2 = b2)
   all_goals simp only [Bool.not_true, Bool.false_eq_true, if_false, if_true, cond_true, cond_false, List.nil_append, List.append_nil]
   ·exact ih acc (by omega)
   ·rw [B0 (by simp; omega), Option.bind_some, ih _ (by simp; omega)]; simp
   ·rw [B0 (by simp; omega), Option.bind_some, ih _ (by simp; omega)]; simp
   ·rw [B0 (by simp; omega), Option.bind_some, B0 (by simp; omega), Option.bind_some, ih _ (by simp; omega)]; simp
theorem C0c (l : List F0) (hl : l.length ≤ 1000) : ∀ (d k fuel : Nat) (acc : List A4), k + d = l.length → d < fuel → acc.length + 2000 * d ≤ 3000000 →
  A6 l fuel (k : Int) acc = some (acc ++ J7 (l.drop k))
 | d, k, 0, acc, hd, hf, ha => by omega
 | 0, k, fuel + 1, acc, hd, hf, ha => by
  rw [A6.eq_2, if_neg (by simp; omega), D1 (by omega)]
  simp [J7]
 | d + 1, k, fuel + 1, acc, hd, hf, ha => by
  have hk : k < l.length := by omega
  have hx := L6 hk
  generalize l[k] = b at hx
  obtain ⟨b0, b1, b2⟩ := b
  have h0 := B0c l hl k b0 b1 b2 hx (l.length - (k + 1)) (k + 1) I0 acc (by omega) (W0 (by omega)) (by omega)
  have hr := w08 (b0, b1, b2) (l.drop (k + 1))
  simp only [List.length_drop] at hr
  rw [A6.eq_2, if_pos (by simp; omega), Q1 hk (by omega), h0, Option.bind_some, C0c l hl d (k + 1) fuel _ (by omega) (by omega) (by simp only [List.length_append, List.length_drop] at hr ⊢; omega), M1 hx, J7]
  simp
theorem a0f (g : l0) (hl : g.2.2.length ≤ 1000) : d01 g = some (J7 g.2.2) := by
 obtain ⟨r, n, es⟩ := g
 unfold d01
 simp only
 rw [show (0 : Int) = ((0 : Nat) : Int) from rfl, A0c es hl es.length 0 I0 [] (by omega) (W0 (by simp only at hl; omega)) (by simp only at hl; simp; omega)]
 rfl
theorem b0f (g : l0) (hl : g.2.2.length ≤ 1000) : b00 g = some (J7 g.2.2) := by
 obtain ⟨r, n, es⟩ := g
 unfold b00
 simp only
 rw [show (0 : Int) = ((0 : Nat) : Int) from rfl, C0c es hl es.length 0 I0 [] (by omega) (W0 (by simp only at hl; omega)) (by simp only at hl; simp; omega)]
 rfl
def P00 (g : l0) : A4 × Bool := bif Y0 g then (match J7 g.2.2 with
 | [] => ((0, 0), false)
 | f :: _ => (f, true)) else ((0, 0), false)
theorem u09 (g : l0) (hl : g.2.2.length ≤ 140737488355328) : j8 g = some (P00 g) := by
 have h1 := C00 g hl
 have h2 := a0f g
 unfold P00
 cases hg : Y0 g with
 | false =>
  obtain ⟨r, n, es⟩ := g
  unfold j8
  simp only [h1, hg, Option.bind_some]; rfl
 | true =>
  have h2 := h2 (by have := (Q3 hg).2.2.2; omega)
  obtain ⟨r, n, es⟩ := g
  unfold j8
  simp only [h1, hg, h2, Option.bind_some, cond_true]
  simp only at h2
  cases J7 es with
  | nil => rfl
  | cons f l =>
   rw [if_neg (by simp), if_neg (by simp; omega), p08 rfl]
   rfl
theorem v09 (g : l0) (hl : g.2.2.length ≤ 140737488355328) : i8 g = some (P00 g) := by
 have h1 := g8 g hl
 have h2 := b0f g
 unfold P00
 cases hg : Y0 g with
 | false =>
  obtain ⟨r, n, es⟩ := g
  unfold i8
  simp only [h1, hg, Option.bind_some]; rfl
 | true =>
  have h2 := h2 (by have := (Q3 hg).2.2.2; omega)
  obtain ⟨r, n, es⟩ := g
  unfold i8
  simp only [h1, hg, h2, Option.bind_some, cond_true]
  simp only at h2
  cases J7 es with
  | nil => rfl
  | cons f l =>
   rw [if_neg (by simp), if_neg (by simp; omega), p08 rfl]
   rfl
theorem L0h (v : Int) (f : A4) (hv : 0 ≤ v ∧ v < 1000) (hf : 0 ≤ f.1 ∧ f.1 < f.2) : o00 v f = some (mvV f v) := by
 obtain ⟨a, b⟩ := f
 simp only at hf
 unfold o00 mvV
 simp only
 by_cases c : v = b
 ·rw [if_pos (by simp [c]), if_neg (by simp; omega), if_pos c]
 ·rw [if_neg (by simp [c]), if_neg c]
  by_cases c2 : v > b
  ·rw [if_pos (by simp [c2]), if_pos c2, w64 (by omega) (by omega)]
  ·rw [if_neg (by simp; omega), if_neg c2]
theorem c0f (v : Int) (f : A4) (hv : 0 ≤ v ∧ v < 1000) : F5 v f = some (mvV f v) := by
 obtain ⟨a, b⟩ := f
 unfold F5 mvV
 simp only
 by_cases c : v = b
 ·rw [if_pos (by simp [c]), if_pos c]
 ·rw [if_neg (by simp [c]), if_neg c]
  by_cases c2 : v > b
  ·rw [if_pos (by simp [c2]), if_pos c2, w64 (by omega) (by omega)]
  ·rw [if_neg (by simp; omega), if_neg c2]
theorem E0d {f : A4} {v : Int} (hv : 0 ≤ v ∧ v < 1000) (hf : 0 ≤ f.1 ∧ f.1 < 1000) : M0 (mvV f v) := by
 unfold mvV
 split
 ·exact ⟨by omega, by omega⟩
 ·split
  ·exact ⟨by omega, by omega⟩
  ·exact ⟨by omega, by omega⟩
theorem d0f (es : List F0) (f : A4) (r n : Int) (hl : es.length ≤ 1000) (hv : ∀ e ∈ es, (0 ≤ e.1 ∧ e.1 < 1000) ∧ (0 ≤ e.2.2 ∧ e.2.2 < 1000)) (hf : 0 ≤ f.1 ∧ f.1 < f.2) (hf2 : f.2 < 1000) : ∀ (d k fuel : Nat) (acc : List F0), k + d = es.length → d < fuel → acc.length ≤ k →
  R3 es f.1 f.2 fuel (k : Int) r n acc = some (r, n, t8 V0 acc ((es.drop k).map (mvE f)))
 | d, k, 0, acc, hd, hfu, ha => by omega
 | 0, k, fuel + 1, acc, hd, hfu, ha => by
  rw [R3.eq_2, if_neg (by simp; omega), D1 (by omega)]
  rfl
 | d + 1, k, fuel + 1, acc, hd, hfu, ha => by
  have hk : k < es.length := by omega
  have hx := L6 hk
  have hvk := hv _ (List.getElem_mem hk)
  generalize es[k] = b at hx hvk
  obtain ⟨b0, b1, b2⟩ := b
  simp only at hvk
  have hln := D05 (mvE f (b0, b1, b2)) acc
  rw [R3.eq_2, if_pos (by simp; omega), C3 hx, Option.bind_some]
  simp only []
  rw [L0h b0 (f.1, f.2) hvk.1 hf, Option.bind_some, B0 (E0d hvk.1 ⟨hf.1, by show f.1 < 1000; omega⟩), Option.bind_some, L0h b2 (f.1, f.2) hvk.2 hf, Option.bind_some, B0 (E0d hvk.2 ⟨hf.1, by show f.1 < 1000; omega⟩), Option.bind_some,
   x0h acc _ (by omega), Option.bind_some, Q1 hk (by omega), M1 hx, List.map_cons]
  exact d0f es f r n hl hv hf hf2 d (k + 1) fuel _ (by omega) (by omega) (Nat.le_trans hln (by omega))
theorem e0f {g : l0} {f : A4} (hg : Y0 g = true) (hf : okF g f) : B6 g f = some (R9 g f, true) := by
 obtain ⟨q1, q2, q3, q4⟩ := Q3 hg
 have h1 := g8 g (by omega)
 obtain ⟨f1, f2, f3⟩ := hf
 obtain ⟨r, n, es⟩ := g
 obtain ⟨a, b⟩ := f
 simp only at f1 f2 f3 q3 q4
 have h := d0f es (a, b) r (IntKind.i64.wrap (n - 1)) (by omega) (fun e he => by
  have := q1 e he
  simp only at this
  exact ⟨⟨by omega, by omega⟩, by omega, by omega⟩) ⟨f1, f2⟩ (by simp only; omega) es.length 0 I0 [] (by omega) (W0 (by omega)) (Nat.le_refl _)
 unfold B6
 simp only [h1, hg, Option.bind_some]
 rw [if_neg (by simp; omega), show (0 : Int) = ((0 : Nat) : Int) from rfl, h, w64 (by omega) (by omega)]
 rfl
theorem f0f (es : List F0) (f : A4) (hl : es.length ≤ 1000) (hv : ∀ e ∈ es, (0 ≤ e.1 ∧ e.1 < 1000) ∧ (0 ≤ e.2.2 ∧ e.2.2 < 1000)) (hf : 0 ≤ f.1 ∧ f.1 < 1000) : ∀ (d k fuel : Nat), k + d = es.length → d < fuel →
  S3 es f.1 f.2 fuel (k : Int) ((es.take k).map (mvE f) ++ es.drop k) = some (es.map (mvE f))
 | d, k, 0, hd, hfu => by omega
 | 0, k, fuel + 1, hd, hfu => by
  rw [S3.eq_2, if_neg (by simp; omega), D1 (by omega), List.append_nil, List.take_of_length_le (by omega)]
 | d + 1, k, fuel + 1, hd, hfu => by
  have hk : k < es.length := by omega
  have hx := L6 hk
  have hvk := hv _ (List.getElem_mem hk)
  generalize es[k] = b at hx hvk
  have htl : ((es.take k).map (mvE f)).length = k := by simp; omega
  have hg : ((es.take k).map (mvE f) ++ es.drop k)[k]? = some b := by
   rw [List.getElem?_append_right (by omega), htl, M1 hx]; simp
  have hs : ∀ y, ((es.take k).map (mvE f) ++ es.drop k).set k y = (es.take k).map (mvE f) ++ y :: es.drop (k + 1) := fun y => by
   rw [List.set_append_right _ _ (by omega), htl, M1 hx]; simp
  obtain ⟨b0, b1, b2⟩ := b
  simp only at hvk
  have e : (es.take (k + 1)).map (mvE f) ++ es.drop (k + 1) = (es.take k).map (mvE f) ++ mvE f (b0, b1, b2) :: es.drop (k + 1) := by
   rw [V0j hx]; simp
  have ih := f0f es f hl hv hf d (k + 1) fuel (by omega) (by omega)
  rw [e] at ih
  rw [S3.eq_2, if_pos (by simp; omega), C3 hg, Option.bind_some]
  simp only []
  rw [c0f b0 (f.1, f.2) hvk.1, Option.bind_some, B0 (E0d hvk.1 hf), Option.bind_some, c0f b2 (f.1, f.2) hvk.2, Option.bind_some, B0 (E0d hvk.2 hf), Option.bind_some]
  simp only [Option.bind_some]
  rw [show ((k : Nat) : Int).toNat = k from Int.toNat_natCast k, hs, Q1 hk (by omega)]
  exact ih
theorem g0f {g : l0} {f : A4} (hg : Y0 g = true) (hf : okF g f) : C6 g f = some (R9 g f, true) := by
 obtain ⟨q1, q2, q3, q4⟩ := Q3 hg
 have h1 := C00 g (by omega)
 have h2 := A02 g (by omega)
 obtain ⟨f1, f2, f3⟩ := hf
 obtain ⟨r, n, es⟩ := g
 obtain ⟨a, b⟩ := f
 simp only at f1 f2 f3 q3 q4
 have h := f0f es (a, b) (by omega) (fun e he => by
  have := q1 e he
  simp only at this
  exact ⟨⟨by omega, by omega⟩, by omega, by omega⟩) ⟨f1, by simp only; omega⟩ es.length 0 I0 (by omega) (W0 (by omega))
 simp only [List.take_zero, List.map_nil, List.nil_append, List.drop_zero] at h
 unfold C6
 simp only [h1, h2, hg, Option.bind_some]
 rw [if_neg (by simp; omega), show (0 : Int) = ((0 : Nat) : Int) from rfl, h, Option.bind_some, O0e _ (by simp; omega), Option.bind_some, w64 (by omega) (by omega)]
 rfl
def e00 (g : l0) : l0 × A4 × Bool := bif Y0 g then (match J7 g.2.2 with
 | [] => (g, (0, 0), false)
 | f :: _ => (R9 g f, f, true)) else (g, (0, 0), false)
theorem d05 (g : l0) (hl : g.2.2.length ≤ 1099511627776) : A9 g = some (e00 g) := by
 have h1 := v09 g (by omega)
 have h2 := B06 g hl
 have h3 : ∀ f, Y0 g = true → okF g f → B6 g f = some (R9 g f, true) := fun f a b => e0f a b
 have h4 : Y0 g = true → ∀ f ∈ J7 g.2.2, okF g f := H03
 unfold P00 at h1
 unfold e00
 obtain ⟨r, n, es⟩ := g
 unfold A9
 simp only [h1, Option.bind_some]
 cases hg : Y0 (r, n, es) with
 | false => simp only [cond_false, Bool.not_false, if_true, h2, Option.bind_some]
 | true =>
  simp only [cond_true]
  simp only at h4
  cases e : J7 es with
  | nil => simp only [Bool.not_false, if_true, h2, Option.bind_some]
  | cons f l =>
   simp only [Bool.not_true, Bool.false_eq_true, if_false, h3 f hg (h4 hg f (by rw [e]; exact List.mem_cons_self ..)), Option.bind_some]
theorem e05 (g : l0) (hl : g.2.2.length ≤ 1099511627776) : B9 g = some (e00 g) := by
 have h1 := u09 g (by omega)
 have h2 := A02 g hl
 have h3 : ∀ f, Y0 g = true → okF g f → C6 g f = some (R9 g f, true) := fun f a b => g0f a b
 have h4 : Y0 g = true → ∀ f ∈ J7 g.2.2, okF g f := H03
 unfold P00 at h1
 unfold e00
 obtain ⟨r, n, es⟩ := g
 unfold B9
 simp only [h1, Option.bind_some]
 cases hg : Y0 (r, n, es) with
 | false => simp only [cond_false, Bool.not_false, if_true, h2, Option.bind_some]
 | true =>
  simp only [cond_true]
  simp only at h4
  cases e : J7 es with
  | nil => simp only [Bool.not_false, if_true, h2, Option.bind_some]
  | cons f l =>
   simp only [Bool.not_true, Bool.false_eq_true, if_false, h3 f hg (h4 hg f (by rw [e]; exact List.mem_cons_self ..)), Option.bind_some]
def l0m : (l0 × F7) ⊕ (Int × Int × J0 × (List A4)) → Option (l0 × F7) := fun X => Z7 X (fun S => match S with
 | (a, b, c, e) => some ((a, b, c), e))
theorem e0b : ∀ (d k fuel : Nat) (g : l0) (acc : List A4), k + d = 40 → d < fuel → Y0 g = true → acc.length = k →
  (E5 fuel (k : Int) g.1 g.2.1 g.2.2 acc).bind l0m = some ((w00 d g).1, acc ++ (w00 d g).2)
 | d, k, 0, g, acc, hd, hf, hg, ha => by omega
 | 0, k, fuel + 1, g, acc, hd, hf, hg, ha => by
  rw [E5.eq_2, if_neg (by simp; omega)]
  simp [l0m, Z7, w00]
 | d + 1, k, fuel + 1, g, acc, hd, hf, hg, ha => by
  have h1 := d05 g (by have := (Q3 hg).2.2.2; omega)
  have h4 := H03 hg
  unfold e00 at h1
  rw [hg] at h1
  simp only [cond_true] at h1
  rw [E5.eq_2, if_pos (by simp; omega), show (g.1, g.2.1, g.2.2) = g from rfl, h1]
  unfold w00
  cases e : J7 g.2.2 with
  | nil => simp [l0m, Z7]
  | cons f l =>
   have ih := e0b d (k + 1) fuel (R9 g f) (acc ++ [f]) (by omega) (by omega) (c05 hg (h4 f (by rw [e]; exact List.mem_cons_self ..))) (by simp [ha])
   simp only [Option.bind_some, Bool.not_true, Bool.false_eq_true, if_false]
   rw [B0 (by simp; omega), Option.bind_some, Q1 (show k < 1000 by omega) (by omega)]
   refine ih.trans ?_
   simp
theorem G0b (g : l0) (hl : g.2.2.length ≤ 1099511627776) : c00 g = some (e02 g) := by
 have h1 := d05 g hl
 have h2 := B06 g hl
 have h3 := e0b 40 0 I0 g [] rfl (W0 (by omega))
 unfold e02
 obtain ⟨r, n, es⟩ := g
 unfold c00
 simp only [h2, Option.bind_some]
 cases hg : Y0 (r, n, es) with
 | false =>
  unfold e00 at h1
  rw [hg] at h1
  simp only [cond_false] at h1
  rw [show I0 = (I0 - 1) + 1 from rfl, E5.eq_2, if_pos (by simp), h1]
  rfl
 | true => exact h3 hg rfl
theorem f0b : ∀ (d fuel : Nat) (g : l0) (acc : List A4), d < fuel → Y0 g = true → J7 (w00 d g).1.2.2 = [] → acc.length + d ≤ 1000 →
  D6 fuel g.1 g.2.1 g.2.2 acc = some (.inl ((w00 d g).1, acc ++ (w00 d g).2))
 | d, 0, g, acc, hf, hg, hn, ha => by omega
 | d, fuel + 1, g, acc, hf, hg, hn, ha => by
  have h1 := e05 g (by have := (Q3 hg).2.2.2; omega)
  have h4 := H03 hg
  unfold e00 at h1
  rw [hg] at h1
  simp only [cond_true] at h1
  rw [D6.eq_2, show (g.1, g.2.1, g.2.2) = g from rfl, h1]
  cases e : J7 g.2.2 with
  | nil =>
   have e2 : w00 d g = (g, []) := by
    cases d with
    | zero => rfl
    | succ d => unfold w00; rw [e]
   rw [e2]
   simp
  | cons f l =>
   cases d with
   | zero => exact absurd e (by rw [show J7 g.2.2 = [] from hn]; simp)
   | succ d =>
    have e2 : w00 (d + 1) g = ((w00 d (R9 g f)).1, f :: (w00 d (R9 g f)).2) := by
     show (match J7 g.2.2 with | [] => (g, []) | f :: _ => ((w00 d (R9 g f)).1, f :: (w00 d (R9 g f)).2)) = _
     rw [e]
    rw [e2] at hn ⊢
    have ih := f0b d fuel (R9 g f) (acc ++ [f]) (by omega) (c05 hg (h4 f (by rw [e]; exact List.mem_cons_self ..))) hn (by simp; omega)
    simp only [Option.bind_some, Bool.not_true, Bool.false_eq_true, if_false]
    rw [B0 (by simp; omega), Option.bind_some]
    refine ih.trans ?_
    simp
theorem H0b (g : l0) (hl : g.2.2.length ≤ 1099511627776) : d00 g = some (e02 g) := by
 have h1 := e05 g hl
 have h2 := A02 g hl
 have h3 := f0b 40 I0 g [] (W0 (by omega))
 have h5 : Y0 g = true → J7 (w00 40 g).1.2.2 = [] := fun hg => d0b 40 hg (by have := (Q3 hg).2.2.1; omega)
 unfold e02
 obtain ⟨r, n, es⟩ := g
 unfold d00
 simp only [h2, Option.bind_some]
 cases hg : Y0 (r, n, es) with
 | false =>
  unfold e00 at h1
  rw [hg] at h1
  simp only [cond_false] at h1
  rw [show I0 = (I0 - 1) + 1 from rfl, D6.eq_2, h1]
  rfl
 | true =>
  have h := h3 hg (h5 hg) (by simp)
  simp only at h
  rw [h]
  rfl
end Go.Proofs.YtknoadmdnjaocaaGreat
namespace Go.Proofs.YtknoadmdnjaocaaGreat
open Go.H
set_option linter.unusedVariables false
set_option linter.unusedSimpArgs false
theorem D0c {g : l0} (h : Y0 g = true) : Asc V0 g.2.2 := ((G03 g).1 h).2.2.2.2
theorem F0m {g : l0} (hg : Y0 g = true) {u : Int} (hu : 0 ≤ u ∧ u < g.2.1) : p6 g u = some true := by
 obtain ⟨q1, q2, q3, q4⟩ := Q3 hg
 obtain ⟨r, n, es⟩ := g
 simp only at q3 hu
 unfold p6
 simp only [x02]
 rw [w64 (by omega) (by omega)]
 simp [inR]; omega
end Go.Proofs.YtknoadmdnjaocaaGreat
namespace Go.Proofs.YtknoadmdnjaocaaGreat
open Go.H
set_option linter.unusedVariables false
set_option linter.unusedSimpArgs false
theorem s0k (a b : List Int) (hab : a.length = b.length) (hl : a.length ≤ 9223372036854775807) : ∀ (d k fuel : Nat), k + d = a.length → d < fuel →
  K3 a b fuel (k : Int) = some (bif eqW (a.drop k) (b.drop k) then .inr () else .inl false)
 | d, k, 0, hk, hf => by omega
 | 0, k, fuel + 1, hk, hf => by
  rw [K3.eq_2, if_neg (by simp; omega), D1 (by omega), D1 (by omega)]
  rfl
 | d + 1, k, fuel + 1, hk, hf => by
  have hx := L6 (show k < a.length by omega)
  have hy := L6 (show k < b.length by omega)
  have next := s0k a b hab hl d (k + 1) fuel (by omega) (by omega)
  generalize a[k] = x at hx
  generalize b[k] = y at hy
  rw [K3.eq_2, if_pos (by simp; omega), C3 hx, Option.bind_some, C3 hy, Option.bind_some, M1 hx, M1 hy]
  unfold eqW at next ⊢
  by_cases h : x = y
  ·rw [if_neg (by simpa using h), Q1 (show k < a.length by omega) hl, next]
   simp [h]
  ·rw [if_pos (by simpa using h)]
   simp [h]
theorem I03 {a b : List Int} (la : a.length ≤ 9223372036854775807) : Q7 a b = some (eqW a b) := by
 unfold Q7
 by_cases h : a.length = b.length
 ·rw [if_neg (by simp [h])]
  have := s0k a b h (by omega) a.length 0 I0 (by omega) (K0a la)
  rw [show ((0 : Nat) : Int) = 0 from rfl] at this
  rw [this]
  simp only [List.drop_zero, Option.bind_some]
  unfold eqW
  by_cases h2 : a = b
  ·simp [h2, Z7]
  ·simp [h2, Z7]
 ·rw [if_pos (by simp; omega)]
  unfold eqW
  have : ¬ a = b := fun e => h (by rw [e])
  simp [this]
theorem e01 (a b : List Int) : ∀ (fuel : Nat) (k : Int), L5 a b fuel k = K3 a b fuel k
 | 0, k => rfl
 | fuel + 1, k => by
  rw [L5.eq_2, K3.eq_2]
  simp only [e01 a b fuel]
theorem C08 {a b : List Int} (la : a.length ≤ 9223372036854775807) : J8 a b = some (eqW a b) := by
 rw [← I03 la]
 unfold J8 Q7
 rw [e01]
end Go.Proofs.YtknoadmdnjaocaaGreat
