/- Texts of the claim, joined: Plain laws: words reduced; Plain laws: whether a word is trivial in a group; Plain laws: words read in a folded graph; reducing a word keeps where ; Plain laws: the spec's walk through two graphs at once; Plain laws: where the spec's walk through two graphs ends well, there ; Plain laws: products of words; Plain laws: the tree of a folded graph, with the words that lead to it; Plain laws: the edges of the tree, the other edges, and the words that; Plain laws: the words of the basis of a core are loops of another core; Plain laws: which entries of a library lie inside another. -/
import Derived.Test.YtknoadmdnjaocaaGreatPart18
import Derived.Test.YtknoadmdnjaocaaGreatPart23
namespace Go.Proofs.YtknoadmdnjaocaaGreat
open Go.H
set_option linter.unusedVariables false
set_option linter.unusedSimpArgs false
def ng (x : Int) : Int := IntKind.i64.wrap (0 - x)
def inv (w : List Int) : List Int := (w.map ng).reverse
theorem s0c (w : List Int) : (inv w).length = w.length := by simp [inv]
theorem l0j {w : List Int} {k : Nat} {x : Int} (hx : w[k]? = some x) : inv (w.drop k) = inv (w.drop (k + 1)) ++ [ng x] := by
 rw [O2 hx]
 simp [inv]
theorem Z00 (w : List Int) (hl : w.length ≤ 1099511627776) : ∀ (k fuel : Nat), k ≤ w.length → k < fuel →
  Z4 w fuel ((k : Int) - 1) (inv (w.drop k)) = some (inv w)
 | k, 0, hk, hf => by omega
 | 0, fuel + 1, hk, hf => by
  rw [Z4.eq_2, if_neg (by simp)]
  rfl
 | k + 1, fuel + 1, hk, hf => by
  have hx := P6 (show k < w.length by omega)
  have next := Z00 w hl k fuel (by omega) (by omega)
  generalize w[k] = x at hx
  rw [l0j hx] at next
  have hlen := s0c (w.drop (k + 1))
  rw [List.length_drop] at hlen
  rw [show (((k + 1 : Nat) : Int) - 1) = (k : Int) by omega, Z4.eq_2, if_pos (by simp), R3 hx, Option.bind_some, H0 (by simp only [List.length_singleton]; omega), Option.bind_some,
   w64 (by omega) (by omega)]
  exact next
theorem F07 (w : List Int) (hl : w.length ≤ 1099511627776) : n00 w = some (inv w) := by
 unfold n00
 have h := Z00 w hl w.length T0 (Nat.le_refl _) (M1 (by omega))
 rw [List.drop_length] at h
 rw [w64 (by omega) (by omega), show ([] : J0) = inv [] from rfl, h]
 rfl
theorem o00 (w : List Int) : ∀ (fuel : Nat) (k : Int) (u : List Int), c5 w fuel k u = Z4 w fuel k u
 | 0, k, u => rfl
 | fuel + 1, k, u => by
  rw [c5.eq_2, Z4.eq_2]
  simp only [o00 w fuel]
theorem G07 (w : List Int) (hl : w.length ≤ 1099511627776) : H7 w = some (inv w) := by
 rw [← F07 w hl]
 unfold H7 n00
 rw [H0 (by omega), Option.bind_some, o00]
 rfl
def T02 (l x : Int) : Bool := !(l == 0) && !(l == -9223372036854775808) && (x == ng l)
def e01 (s : List Int) (x : Int) : List Int := match s with
 | [] => [x]
 | l :: t => bif T02 l x then t else x :: l :: t
def W9 (s w : List Int) : List Int := w.foldl e01 s
def Red : List Int → Bool
 | [] => true
 | [_] => true
 | x :: l :: t => !T02 l x && Red (l :: t)
theorem m0j {x : Int} {t : List Int} (h : Red (x :: t) = true) : Red t = true := by
 cases t with
 | nil => rfl
 | cons l t => simp only [Red, Bool.and_eq_true] at h; exact h.2
theorem V0d (s a b : List Int) : W9 s (a ++ b) = W9 (W9 s a) b := List.foldl_append
theorem s0b : ∀ (s : List Int), Red s = true → W9 [] s.reverse = s
 | [], h => rfl
 | x :: t, h => by
  rw [List.reverse_cons, V0d, s0b t (m0j h)]
  show e01 t x = _
  cases t with
  | nil => rfl
  | cons l t =>
   simp only [Red, Bool.and_eq_true, Bool.not_eq_true'] at h
   simp only [e01, h.1, cond_false]
theorem t0b (s : List Int) (x : Int) : (e01 s x).length ≤ s.length + 1 := by
 cases s with
 | nil => simp [e01]
 | cons l t =>
  simp only [e01]
  cases T02 l x <;> simp <;> omega
theorem L06 : ∀ (w s : List Int), (W9 s w).length ≤ s.length + w.length
 | [], s => by simp [W9]
 | x :: w, s => by
  have := L06 w (e01 s x)
  have := t0b s x
  simp only [W9, List.foldl_cons, List.length_cons] at *
  omega
theorem j0f {l : Int} {t : List Int} : (l :: t).reverse[t.length]? = some l := by
 rw [List.reverse_cons, List.getElem?_append_right (by simp)]
 simp
theorem z0h (l : Int) (t : List Int) : (l :: t).reverse.take t.length = t.reverse := by
 rw [List.reverse_cons, List.take_append_of_le_length (by simp), List.take_of_length_le (by simp)]
end Go.Proofs.YtknoadmdnjaocaaGreat
namespace Go.Proofs.YtknoadmdnjaocaaGreat
open Go.H
set_option linter.unusedVariables false
set_option linter.unusedSimpArgs false
def U00 (g : j0) (w : List Int) : Bool := decide ((Y8 g 0 w).2 = w.length) && decide ((Y8 g 0 w).1 = 0)
theorem V2 {g : j0} (h : j1 g = true) : I0 g = true := by
 unfold j1 at h
 simp only [Bool.and_eq_true] at h
 exact h.1
end Go.Proofs.YtknoadmdnjaocaaGreat
namespace Go.Proofs.YtknoadmdnjaocaaGreat
open Go.H
set_option linter.unusedVariables false
set_option linter.unusedSimpArgs false
def rdw (g : j0) : Int → List Int → Option Int
 | v, [] => some v
 | v, x :: w => if C0 g v x < 0 then none else rdw g (C0 g v x) w
theorem u0b (g : j0) : ∀ (w : List Int) (v u : Int), rdw g v w = some u ↔ ((Y8 g v w).2 = w.length ∧ (Y8 g v w).1 = u)
 | [], v, u => by simp [rdw, Y8]
 | x :: w, v, u => by
  have ih := u0b g w (C0 g v x) u
  unfold rdw Y8
  by_cases c : C0 g v x < 0
  ·rw [if_pos c, if_pos c]; simp
  ·rw [if_neg c, if_neg c, ih]; simp
theorem H07 (g : j0) (w : List Int) : U00 g w = true ↔ rdw g 0 w = some 0 := by
 unfold U00
 rw [u0b]; simp
theorem r01 (g : j0) : ∀ (a b : List Int) (v : Int), rdw g v (a ++ b) = (rdw g v a).bind fun u => rdw g u b
 | [], b, v => rfl
 | x :: a, b, v => by
  have ih := r01 g a b (C0 g v x)
  show (if C0 g v x < 0 then none else rdw g (C0 g v x) (a ++ b)) = (if C0 g v x < 0 then none else rdw g (C0 g v x) a).bind fun u => rdw g u b
  by_cases c : C0 g v x < 0
  ·rw [if_pos c, if_pos c]; rfl
  ·rw [if_neg c, if_neg c]; exact ih
theorem c00 {g : j0} (hf : I0 g = true) {v x u : Int} (h : C0 g v x = u) (h0 : 0 ≤ u) : C0 g u (-x) = v := by
 rcases v03 g v x with ⟨e, _⟩ | e
 ·omega
 ·rw [h] at e
  obtain ⟨d, hd, h1⟩ := O5.1 e
  refine w03 hf (O5.2 ⟨d, hd, ?_⟩)
  rcases h1 with ⟨a, b, c, rfl⟩ | ⟨a, b, c, rfl⟩
  ·exact .inr ⟨by omega, by omega, rfl, c.symm⟩
  ·exact .inl ⟨by omega, b, rfl, c.symm⟩
structure Mor (a b : j0) (f : Int → Int) : Prop where
 base : f 0 = 0
 rng : ∀ v, 0 ≤ v → v < a.2.1 → 0 ≤ f v ∧ f v < b.2.1
 step : ∀ v x, 0 ≤ v → v < a.2.1 → 0 ≤ C0 a v x → C0 b (f v) x = f (C0 a v x)
theorem Mor.rdw {a b : j0} {f : Int → Int} (m : Mor a b f) (ha : inG a) : ∀ (w : List Int) (v u : Int), 0 ≤ v → v < a.2.1 → rdw a v w = some u → rdw b (f v) w = some (f u)
 | [], v, u, h0, h1, h => by
  simp only [Go.Proofs.YtknoadmdnjaocaaGreat.rdw, Option.some.injEq] at h ⊢
  rw [h]
 | x :: w, v, u, h0, h1, h => by
  unfold Go.Proofs.YtknoadmdnjaocaaGreat.rdw at h ⊢
  by_cases c : C0 a v x < 0
  ·rw [if_pos c] at h; cases h
  ·rw [if_neg c] at h
   have hs := m.step v x h0 h1 (by omega)
   have hr : 0 ≤ C0 a v x ∧ C0 a v x < a.2.1 := by
    rcases i9 ha v x with e | e
    ·omega
    ·exact e
   have hb := m.rng _ hr.1 hr.2
   rw [hs, if_neg (by omega)]
   exact Mor.rdw m ha w _ u hr.1 hr.2 h
theorem Mor.loop {a b : j0} {f : Int → Int} (m : Mor a b f) (ha : I0 a = true) {w : List Int} (h : U00 a w = true) : U00 b w = true := by
 obtain ⟨q1, q2, q3, q4⟩ := U0 ha
 rw [H07] at h ⊢
 have := m.rdw q1 w 0 0 (Int.le_refl _) (by omega) h
 rwa [m.base] at this
end Go.Proofs.YtknoadmdnjaocaaGreat
namespace Go.Proofs.YtknoadmdnjaocaaGreat
open Go.H
set_option linter.unusedVariables false
set_option linter.unusedSimpArgs false
abbrev Im := List Int × List Int
def u02 (a b : j0) (v x : Int) (s : Im) : Option Im :=
 if C0 a v x < 0 then some s else if C0 b (getI s.1 v) x < 0 then none else if C0 a v x ∈ s.2 then (if getI s.1 (C0 a v x) = C0 b (getI s.1 v) x then some s else none) else some (s.1.set (C0 a v x).toNat (C0 b (getI s.1 v) x), s.2 ++ [C0 a v x])
def l08 (a b : j0) (v : Int) : List Int → Im → Option Im
 | [], s => some s
 | x :: r, s => (u02 a b v x s).bind fun s => l08 a b v r s
def r04 (a b : j0) (ls : List Int) : Nat → Nat → Im → Option Im
 | 0, i, s => some s
 | f + 1, i, s => match s.2[i]? with
  | some v => (l08 a b v ls s).bind fun s => r04 a b ls f (i + 1) s
  | none => some s
def p6 (a b : j0) : Bool := j1 a && j1 b && decide (a.1 = b.1) && (r04 a b (i6 a.1.toNat 1) (a.2.1.toNat + 1) 0 (List.replicate a.2.1.toNat 0, [0])).isSome
def M06 (n : Nat) (s : Im) : Prop := s.1.length = n ∧ gud n s.2 ∧ ∀ z ∈ s.1, P0 z
theorem O04 {a b : j0} {n : Nat} (hn : a.2.1 = (n : Int)) (ha : inG a) (hb : inG b) (hb2 : b.2.1 ≤ 40) {v x : Int} {s s' : Im} (h : M06 n s) (hs : u02 a b v x s = some s') : M06 n s' ∧ ∃ t, s'.2 = s.2 ++ t := by
 unfold u02 at hs
 split at hs
 ·cases hs; exact ⟨h, [], by simp⟩
 ·rename_i c1
  split at hs
  ·cases hs
  ·split at hs
   ·split at hs
    ·cases hs; exact ⟨h, [], by simp⟩
    ·cases hs
   ·rename_i c3
    cases hs
    have hr : 0 ≤ C0 a v x ∧ C0 a v x < (n : Int) := by
     rcases i9 ha v x with e | e
     ·omega
     ·omega
    refine ⟨⟨by simp [h.1], ⟨?_, ?_⟩, fun z hz => ?_⟩, _, rfl⟩
    ·refine List.nodup_append.2 ⟨h.2.1.1, by simp, fun p hp q hq => ?_⟩
     simp at hq; subst hq; exact fun e => c3 (e ▸ hp)
    ·intro y hy
     rcases List.mem_append.1 hy with hy | hy
     ·exact h.2.1.2 y hy
     ·simp at hy; subst hy; exact hr
    ·rcases List.mem_or_eq_of_mem_set hz with hz | rfl
     ·exact h.2.2 z hz
     ·exact o01 hb hb2 _ _
theorem n0j {A : List Int} {n : Nat} (hA : A.length = n) {x : Int} (h0 : 0 ≤ x) (h1 : x < n) : gi A x = some (getI A x) := giI hA h0 h1
theorem o0j (a b : j0) (n : Nat) (hn : a.2.1 = (n : Int)) (ha : I0 a = true) (hb : I0 b = true) (ls : List Int) (hls : ∀ x ∈ ls, E4 x) (hl : ls.length ≤ 1000) (i : Nat) (v : Int) : ∀ (d k fuel : Nat) (s : Im), M06 n s → s.2[i]? = some v → k + d = ls.length → d < fuel →
  i4 ls (i : Int) a.1 a.2.1 a.2.2 b.1 b.2.1 b.2.2 fuel (k : Int) s.1 s.2 = some (match l08 a b v (ls.drop k) s with | some s' => .inr s' | none => .inl false)
 | d, k, 0, s, hs, hi, hd, hf => by omega
 | 0, k, fuel + 1, s, hs, hi, hd, hf => by
  rw [i4.eq_2, if_neg (by simp; omega), Y1 (by omega)]; rfl
 | d + 1, k, fuel + 1, s, hs, hi, hd, hf => by
  obtain ⟨q1, q2, q3, q4⟩ := U0 ha
  obtain ⟨p1, p2, p3, p4⟩ := U0 hb
  have hk : k < ls.length := by omega
  have hx := P6 hk
  have hm := hls _ (List.getElem_mem hk)
  generalize ls[k] = x at hx hm
  have hv := hs.2.1.2 v (List.mem_of_getElem? hi)
  have hle := R7 n s.2 hs.2.1.1 hs.2.1.2
  have ih := fun s' (h : M06 n s') (h2 : s'.2[i]? = some v) => o0j a b n hn ha hb ls hls hl i v d (k + 1) fuel s' h h2 (by omega) (by omega)
  have hok := fun s' => O04 (v := v) (x := x) (s' := s') hn q1 p1 p3.2 hs
  have hya := i9 q1 v x
  rw [i4.eq_2, if_pos (by simp; omega), R3 hi, Option.bind_some, R3 hx, Option.bind_some, show (a.1, a.2.1, a.2.2) = a from rfl, E05 a v x hm (by omega), Option.bind_some, H0 (o01 q1 q3.2 v x), Option.bind_some, L2 hk (by omega), O2 hx, l08]
  unfold u02 at hok ⊢
  generalize C0 a v x = y at *
  by_cases c1 : y < 0
  ·rw [if_pos (by simp [c1]), if_pos c1, Option.bind_some]
   exact ih s hs hi
  ·rw [if_neg (by simp; omega), if_neg c1]
   rw [if_neg c1] at hok
   rw [Option.bind_some, n0j hs.1 hv.1 hv.2, Option.bind_some, Option.bind_some, show (b.1, b.2.1, b.2.2) = b from rfl]
   rw [E05 b (getI s.1 v) x hm (by omega), Option.bind_some, H0 (o01 p1 p3.2 (getI s.1 v) x), Option.bind_some]
   generalize C0 b (getI s.1 v) x = z at *
   by_cases c2 : z < 0
   ·rw [if_pos (by simp [c2]), if_pos c2]; rfl
   ·rw [if_neg (by simp; omega), if_neg c2, I06 s.2 y (by omega), Option.bind_some]
    rw [if_neg c2] at hok
    by_cases c3 : y ∈ s.2
    ·rw [if_pos c3]
     rw [if_neg (by simp [c3]), n0j hs.1 (by omega) (by omega), Option.bind_some]
     by_cases c4 : getI s.1 y = z
     ·rw [if_neg (by simp [c4]), if_pos c4, Option.bind_some]
      exact ih s hs hi
     ·rw [if_pos (by simp [c4]), if_neg c4]; rfl
    ·rw [if_neg c3] at hok ⊢
     obtain ⟨h1, t, h2⟩ := hok _ rfl
     rw [if_pos (by simp [c3]), H0 (by simp; omega), Option.bind_some, n0j hs.1 (by omega) (by omega), Option.bind_some, Option.bind_some]
     exact ih _ h1 (by simp only; rw [List.getElem?_append_left (List.getElem?_eq_some_iff.1 hi).1]; exact hi)
theorem z08 {a b : j0} {n : Nat} (hn : a.2.1 = (n : Int)) (ha : inG a) (hb : inG b) (hb2 : b.2.1 ≤ 40) (v : Int) : ∀ (ls : List Int) {s s' : Im}, M06 n s → l08 a b v ls s = some s' → M06 n s' ∧ ∃ t, s'.2 = s.2 ++ t
 | [], s, s', h, hs => by cases hs; exact ⟨h, [], by simp⟩
 | x :: r, s, s', h, hs => by
  rw [l08] at hs
  cases e : u02 a b v x s with
  | none => rw [e] at hs; cases hs
  | some s1 =>
   rw [e] at hs
   obtain ⟨h1, t1, e1⟩ := O04 hn ha hb hb2 h e
   obtain ⟨h2, t2, e2⟩ := z08 hn ha hb hb2 v r h1 hs
   exact ⟨h2, t1 ++ t2, by rw [e2, e1, List.append_assoc]⟩
theorem p0j (a b : j0) (n : Nat) (hn : a.2.1 = (n : Int)) (ha : I0 a = true) (hb : I0 b = true) (ls : List Int) (hls : ∀ x ∈ ls, E4 x) (hl : ls.length ≤ 1000) : ∀ (f i fuel : Nat) (s : Im), M06 n s → i ≤ s.2.length → n + 1 ≤ f + i → f < fuel →
  o5 ls a.1 a.2.1 a.2.2 b.1 b.2.1 b.2.2 fuel (i : Int) s.1 s.2 = some (match r04 a b ls f i s with | some s' => .inr s' | none => .inl false)
 | f, i, 0, s, hs, hi, hd, hf => by omega
 | 0, i, fuel + 1, s, hs, hi, hd, hf => by have := R7 n s.2 hs.2.1.1 hs.2.1.2; omega
 | f + 1, i, fuel + 1, s, hs, hi, hd, hf => by
  obtain ⟨q1, q2, q3, q4⟩ := U0 ha
  obtain ⟨p1, p2, p3, p4⟩ := U0 hb
  have hle := R7 n s.2 hs.2.1.1 hs.2.1.2
  rw [o5.eq_2, Option.bind_some, H0 (by omega), Option.bind_some]
  by_cases c : i < s.2.length
  ·have hx := P6 c
   generalize s.2[i] = v at hx
   have h0 := o0j a b n hn ha hb ls hls hl i v ls.length 0 T0 s hs hx (by omega) (M1 (by omega))
   rw [show ((0 : Nat) : Int) = 0 from rfl, List.drop_zero] at h0
   rw [if_pos (by simpa using c), h0, Option.bind_some, L2 c (by omega)]
   unfold r04
   rw [hx]
   cases e : l08 a b v ls s with
   | none => simp only [e]; rfl
   | some s1 =>
    obtain ⟨h1, t, e1⟩ := z08 hn q1 p1 p3.2 v ls hs e
    have ih := p0j a b n hn ha hb ls hls hl f (i + 1) fuel s1 h1 (by rw [e1, List.length_append]; omega) (by omega) (by omega)
    simp only [e, Option.bind_some]
    exact ih
  ·have hx : s.2[i]? = none := List.getElem?_eq_none (by omega)
   rw [if_neg (by simpa using c)]
   unfold r04
   rw [hx]
theorem W09 (a b : j0) (hla : a.2.2.length ≤ 140737488355328) (hlb : b.2.2.length ≤ 140737488355328) : D8 a b = some (p6 a b) := by
 have h1 := u03 a hla
 have h2 := u03 b hlb
 have h3 : M3 a = some (j1 a) := by
  obtain ⟨x, y, z⟩ := a
  unfold M3
  simp only [h1, Option.bind_some]
 have h4 : M3 b = some (j1 b) := by
  obtain ⟨x, y, z⟩ := b
  unfold M3
  simp only [h2, Option.bind_some]
 have h5 : j1 a = true → j1 b = true → o5 (i6 a.1.toNat 1) a.1 a.2.1 a.2.2 b.1 b.2.1 b.2.2 T0 ((0 : Nat) : Int) (List.replicate a.2.1.toNat 0) [0] = some (match r04 a b (i6 a.1.toNat 1) (a.2.1.toNat + 1) 0 (List.replicate a.2.1.toNat 0, [0]) with | some s' => .inr s' | none => .inl false) := fun ca cb => by
  have fa := V2 ca
  have fb := V2 cb
  obtain ⟨q1, q2, q3, q4⟩ := U0 fa
  have hln := Q01 a.1.toNat 1
  exact p0j a b a.2.1.toNat (by omega) fa fb (i6 a.1.toNat 1) (fun x hx => by
   obtain ⟨j, k1, k2, k3⟩ := U09 _ _ _ hx
   exact ⟨⟨by omega, by omega⟩, by omega⟩) (by omega) (a.2.1.toNat + 1) 0 T0 (List.replicate a.2.1.toNat 0, [0]) ⟨by simp, ⟨by simp, fun x hx => by simp at hx; subst hx; omega⟩, fun z hz => by
    rw [List.eq_of_mem_replicate hz]; exact ⟨by omega, by omega⟩⟩ (Nat.zero_le _) (by omega) (M1 (by omega))
 have h6 : j1 a = true → l6 a.1 = some (i6 a.1.toNat 1) ∧ (0 : Int) ≤ a.2.1 ∧ a.2.1 ≤ 40 := fun ca => by
  obtain ⟨q1, q2, q3, q4⟩ := U0 (V2 ca)
  obtain ⟨R, hR⟩ : ∃ R : Nat, a.1 = (R : Int) := ⟨a.1.toNat, by omega⟩
  exact ⟨by rw [hR, Z0i R (by omega)]; rfl, by omega, by omega⟩
 unfold p6
 obtain ⟨a0, a1, a2⟩ := a
 obtain ⟨b0, b1, b2⟩ := b
 unfold D8
 simp only [h3, Option.bind_some]
 cases ca : j1 (a0, a1, a2) with
 | false => rfl
 | true =>
  simp only [Bool.not_true, Bool.not_false, Z2, h4, Option.bind_some, cond_false, Bool.true_and]
  cases cb : j1 (b0, b1, b2) with
  | false => rfl
  | true =>
   have h5 := h5 ca cb
   obtain ⟨k1, k2, k3⟩ := h6 ca
   simp only at h5 k1 k2 k3
   by_cases hr : a0 = b0
   ·rw [if_neg (by simp [hr]), H0 (by omega), Option.bind_some, k1, Option.bind_some, show (0 : Int) = ((0 : Nat) : Int) from rfl]
    simp only [decide_eq_true hr, Bool.true_and]
    have h5' := h5
    rw [show ((0 : Nat) : Int) = 0 from rfl] at h5' ⊢
    rw [h5', Option.bind_some]
    cases r04 (a0, a1, a2) (b0, b1, b2) (i6 a0.toNat 1) (a1.toNat + 1) 0 (List.replicate a1.toNat 0, [0]) <;> rfl
   ·rw [if_pos (by simp [hr])]
    simp [hr]
end Go.Proofs.YtknoadmdnjaocaaGreat
namespace Go.Proofs.YtknoadmdnjaocaaGreat
open Go.H
set_option linter.unusedVariables false
set_option linter.unusedSimpArgs false
def J05 (s s' : Im) : Prop := (∃ t, s'.2 = s.2 ++ t) ∧ ∀ v ∈ s.2, getI s'.1 v = getI s.1 v
theorem J05.refl (s : Im) : J05 s s := ⟨⟨[], by simp⟩, fun _ _ => rfl⟩
theorem J05.trans {s s' s'' : Im} (h : J05 s s') (h' : J05 s' s'') : J05 s s'' := by
 obtain ⟨⟨t, e⟩, f⟩ := h
 obtain ⟨⟨t', e'⟩, f'⟩ := h'
 exact ⟨⟨t ++ t', by rw [e', e, List.append_assoc]⟩, fun v hv => (f' v (by rw [e]; exact List.mem_append_left _ hv)).trans (f v hv)⟩
def k0f (a b : j0) (v x : Int) (s : Im) : Prop := 0 ≤ C0 a v x → C0 a v x ∈ s.2 ∧ C0 b (getI s.1 v) x = getI s.1 (C0 a v x)
theorem k0f.le {a b : j0} {v x : Int} {s s' : Im} (hv : v ∈ s.2) (h : k0f a b v x s) (l : J05 s s') : k0f a b v x s' := fun h0 => by
 obtain ⟨h1, h2⟩ := h h0
 obtain ⟨⟨t, e⟩, f⟩ := l
 exact ⟨by rw [e]; exact List.mem_append_left _ h1, by rw [f v hv, f _ h1]; exact h2⟩
def inB (b : j0) (s : Im) : Prop := ∀ v ∈ s.2, 0 ≤ getI s.1 v ∧ getI s.1 v < b.2.1
theorem A0h {a b : j0} {n : Nat} (hn : a.2.1 = (n : Int)) (ha : inG a) (hb : inG b) {v x : Int} {s s' : Im} (h : M06 n s) (hv : v ∈ s.2) (hB : inB b s) (hs : u02 a b v x s = some s') : J05 s s' ∧ k0f a b v x s' ∧ inB b s' := by
 unfold u02 at hs
 split at hs
 ·rename_i c; cases hs; exact ⟨J05.refl s, fun h0 => by omega, hB⟩
 ·rename_i c1
  have hr : 0 ≤ C0 a v x ∧ C0 a v x < (n : Int) := by
   rcases i9 ha v x with e | e
   ·omega
   ·omega
  split at hs
  ·cases hs
  ·rename_i c2
   have hz : 0 ≤ C0 b (getI s.1 v) x ∧ C0 b (getI s.1 v) x < b.2.1 := by
    rcases i9 hb (getI s.1 v) x with e | e
    ·omega
    ·exact e
   split at hs
   ·rename_i c3
    split at hs
    ·rename_i c4
     cases hs
     exact ⟨J05.refl s, fun _ => ⟨c3, c4.symm⟩, hB⟩
    ·cases hs
   ·rename_i c3
    cases hs
    have hset : ∀ u ∈ s.2, getI (s.1.set (C0 a v x).toNat (C0 b (getI s.1 v) x)) u = getI s.1 u := fun u hu => by
     have := h.2.1.2 u hu
     rw [P01 hr.1 (by rw [h.1]; omega) this.1, if_neg fun (e : u = C0 a v x) => c3 (by rw [← e]; exact hu)]
    have hnew : getI (s.1.set (C0 a v x).toNat (C0 b (getI s.1 v) x)) (C0 a v x) = C0 b (getI s.1 v) x := by
     rw [P01 hr.1 (by rw [h.1]; omega) hr.1, if_pos rfl]
    refine ⟨⟨⟨_, rfl⟩, hset⟩, fun _ => ⟨List.mem_append_right _ (List.mem_singleton.2 rfl), ?_⟩, fun u hu => ?_⟩
    ·show C0 b (getI (s.1.set _ _) v) x = getI (s.1.set _ _) (C0 a v x)
     rw [hset v hv, hnew]
    ·show 0 ≤ getI (s.1.set _ _) u ∧ getI (s.1.set _ _) u < b.2.1
     rcases List.mem_append.1 hu with hu | hu
     ·rw [hset u hu]; exact hB u hu
     ·simp at hu; subst hu
      rw [hnew]; exact hz
theorem C0g {a b : j0} {n : Nat} (hn : a.2.1 = (n : Int)) (ha : inG a) (hb : inG b) (hb2 : b.2.1 ≤ 40) {v : Int} : ∀ (ls : List Int) {s s' : Im}, M06 n s → v ∈ s.2 → inB b s → l08 a b v ls s = some s' → J05 s s' ∧ (∀ x ∈ ls, k0f a b v x s') ∧ inB b s'
 | [], s, s', h, hv, hB, hs => by cases hs; exact ⟨J05.refl s, (fun x hx => by cases hx), hB⟩
 | x :: r, s, s', h, hv, hB, hs => by
  rw [l08] at hs
  cases e : u02 a b v x s with
  | none => rw [e] at hs; cases hs
  | some s1 =>
   rw [e] at hs
   obtain ⟨l1, o1, B1⟩ := A0h hn ha hb h hv hB e
   have hv1 : v ∈ s1.2 := by obtain ⟨⟨t, et⟩, _⟩ := l1; rw [et]; exact List.mem_append_left _ hv
   obtain ⟨l2, o2, B2⟩ := C0g hn ha hb hb2 r (O04 hn ha hb hb2 h e).1 hv1 B1 hs
   refine ⟨l1.trans l2, fun y hy => ?_, B2⟩
   rcases List.mem_cons.1 hy with rfl | hy
   ·exact o1.le hv1 l2
   ·exact o2 y hy
theorem W0d {a b : j0} {n : Nat} (hn : a.2.1 = (n : Int)) (ha : inG a) (hb : inG b) (hb2 : b.2.1 ≤ 40) (ls : List Int) : ∀ (f i : Nat) {s s' : Im}, M06 n s → inB b s → n + 1 ≤ f + i → i ≤ s.2.length → (∀ j, j < i → ∀ v, s.2[j]? = some v → ∀ x ∈ ls, k0f a b v x s) → r04 a b ls f i s = some s' →
  J05 s s' ∧ (∀ v ∈ s'.2, ∀ x ∈ ls, k0f a b v x s') ∧ inB b s' ∧ M06 n s'
 | 0, i, s, s', h, hB, hd, hi, hc, hs => by have := R7 n s.2 h.2.1.1 h.2.1.2; omega
 | f + 1, i, s, s', h, hB, hd, hi, hc, hs => by
  unfold r04 at hs
  cases e : s.2[i]? with
  | none =>
   rw [e] at hs
   cases hs
   refine ⟨J05.refl s, fun v hv x hx => ?_, hB, h⟩
   obtain ⟨j, hj⟩ := List.getElem?_of_mem hv
   have h1 := List.getElem?_eq_none_iff.1 e
   exact hc j (by have := (List.getElem?_eq_some_iff.1 hj).1; omega) v hj x hx
  | some v =>
   rw [e] at hs
   have hv := List.mem_of_getElem? e
   have hil := (List.getElem?_eq_some_iff.1 e).1
   simp only at hs
   cases e1 : l08 a b v ls s with
   | none => rw [e1] at hs; cases hs
   | some s1 =>
    rw [e1] at hs
    obtain ⟨l1, o1, B1⟩ := C0g hn ha hb hb2 ls h hv hB e1
    obtain ⟨⟨t, et⟩, hk⟩ := l1
    obtain ⟨l2, o2, B2, K2⟩ := W0d hn ha hb hb2 ls f (i + 1) (z08 hn ha hb hb2 v ls h e1).1 B1 (by omega) (by rw [et, List.length_append]; omega) (fun j hj u hu x hx => by
     by_cases c : j = i
     ·subst c
      rw [et, List.getElem?_append_left hil, e] at hu
      cases hu
      exact o1 x hx
     ·rw [et, List.getElem?_append_left (by omega)] at hu
      exact (hc j (by omega) u hu x hx).le (List.mem_of_getElem? hu) ⟨⟨t, et⟩, hk⟩) hs
    exact ⟨J05.trans ⟨⟨t, et⟩, hk⟩ l2, o2, B2, K2⟩
theorem X0d {g : j0} (hg : inG g) (hr : 1 ≤ g.1) {v x : Int} (h : 0 ≤ C0 g v x) : x ∈ i6 g.1.toNat 1 := by
 rcases v03 g v x with ⟨e, _⟩ | e
 ·omega
 ·obtain ⟨d, hd, h1⟩ := O5.1 e
  have hq := hg d hd
  rcases h1 with ⟨a, b, _⟩ | ⟨a, b, _⟩
  ·obtain ⟨l1, _⟩ := q04 g.1.toNat 1 x.toNat (by omega) (by omega)
   rwa [show ((x.toNat : Nat) : Int) = x by omega] at l1
  ·obtain ⟨_, l2⟩ := q04 g.1.toNat 1 (-x).toNat (by omega) (by omega)
   rwa [show -(((-x).toNat : Nat) : Int) = x by omega] at l2
theorem I07 {g : j0} (h : j1 g = true) : t02 g = none := by
 unfold j1 at h
 simp only [Bool.and_eq_true, Option.isNone_iff_eq_none] at h
 exact h.2.1
theorem l0f {g : j0} (h : j1 g = true) {x : Int} (h0 : 0 ≤ x) (h1 : x < g.2.1) : Rch g.2.2 0 x := by
 by_cases c : x = 0
 ·subst c; exact .base
 ·have := y08 (I07 h) x.toNat (by omega) (by omega)
  unfold q0a at this
  simp only [Bool.or_eq_false_iff, Bool.not_eq_false', decide_eq_true_eq] at this
  have h3 := this.2
  rw [show ((x.toNat : Nat) : Int) = x by omega] at h3
  exact (o0c _ _ _).1 h3
theorem m0f {a b : j0} (h : p6 a b = true) : ∃ f, Mor a b f := by
 unfold p6 at h
 simp only [Bool.and_eq_true, decide_eq_true_eq] at h
 obtain ⟨⟨⟨ca, cb⟩, hr⟩, hs⟩ := h
 have fa := V2 ca
 obtain ⟨q1, q2, q3, q4⟩ := U0 fa
 obtain ⟨p1, p2, p3, p4⟩ := U0 (V2 cb)
 obtain ⟨s', e⟩ := Option.isSome_iff_exists.1 hs
 have hn : a.2.1 = ((a.2.1.toNat : Nat) : Int) := by omega
 have hz : getI (List.replicate a.2.1.toNat (0 : Int)) 0 = 0 := by
  have : 0 < a.2.1.toNat := by omega
  unfold getI
  simp [List.getD_eq_getElem?_getD, List.getElem?_replicate, this]
 obtain ⟨⟨⟨t, et⟩, hk⟩, ho, hB, hK⟩ := W0d hn q1 p1 p3.2 (i6 a.1.toNat 1) (a.2.1.toNat + 1) 0 (s := (List.replicate a.2.1.toNat 0, [0])) ⟨by simp, ⟨by simp, fun x hx => by simp at hx; subst hx; omega⟩, fun z hz => by
  rw [List.eq_of_mem_replicate hz]; exact ⟨by omega, by omega⟩⟩ (fun v hv => by
  simp at hv; subst hv
  rw [hz]; omega) (by omega) (Nat.zero_le _) (fun j hj => by omega) e
 have h0 : (0 : Int) ∈ s'.2 := by rw [et]; simp
 have hall : ∀ v : Int, 0 ≤ v → v < a.2.1 → v ∈ s'.2 := fun v v0 v1 => by
  refine Rch.sub (P := fun x => x ∈ s'.2) h0 (fun d hd => ?_) (l0f ca v0 v1)
  have hq := q1 d hd
  obtain ⟨j, hj⟩ : ∃ j : Nat, d.2.1 = (j : Int) := ⟨d.2.1.toNat, by omega⟩
  obtain ⟨l1, l2⟩ := q04 a.1.toNat 1 j (by omega) (by omega)
  have n1 : C0 a d.1 (j : Int) = d.2.2 := w03 fa (O5.2 ⟨d, hd, .inl ⟨by omega, hj, rfl, rfl⟩⟩)
  have n2 : C0 a d.2.2 (-(j : Int)) = d.1 := w03 fa (O5.2 ⟨d, hd, .inr ⟨by omega, by omega, rfl, rfl⟩⟩)
  constructor
  ·intro h1
   have := (ho d.1 h1 (j : Int) l1 (by rw [n1]; omega)).1
   rwa [n1] at this
  ·intro h1
   have := (ho d.2.2 h1 (-(j : Int)) l2 (by rw [n2]; omega)).1
   rwa [n2] at this
 refine ⟨getI s'.1, ?_, fun v v0 v1 => hB v (hall v v0 v1), fun v x v0 v1 hx => (ho v (hall v v0 v1) x (X0d q1 (by omega) hx) hx).2⟩
 rw [hk 0 (by simp)]
 exact hz
def imF (f : Int → Int) (s : Im) : Prop := ∀ v ∈ s.2, getI s.1 v = f v
theorem n0f {a b : j0} {f : Int → Int} (m : Mor a b f) {n : Nat} (hn : a.2.1 = (n : Int)) (ha : inG a) {v x : Int} {s : Im} (h : M06 n s) (hv : v ∈ s.2) (hF : imF f s) : ∃ s', u02 a b v x s = some s' ∧ imF f s' := by
 have hvr := h.2.1.2 v hv
 unfold u02
 by_cases c1 : C0 a v x < 0
 ·rw [if_pos c1]; exact ⟨s, rfl, hF⟩
 ·have hr : 0 ≤ C0 a v x ∧ C0 a v x < (n : Int) := by
   rcases i9 ha v x with e | e
   ·omega
   ·omega
  have hs := m.step v x hvr.1 (by omega) hr.1
  have hb := m.rng _ hr.1 (by omega)
  rw [if_neg c1, hF v hv, hs, if_neg (by omega)]
  by_cases c3 : C0 a v x ∈ s.2
  ·rw [if_pos c3, if_pos (hF _ c3)]; exact ⟨s, rfl, hF⟩
  ·rw [if_neg c3]
   refine ⟨_, rfl, fun u hu => ?_⟩
   show getI (s.1.set _ _) u = f u
   rcases List.mem_append.1 hu with hu | hu
   ·have := h.2.1.2 u hu
    rw [P01 hr.1 (by rw [h.1]; omega) this.1, if_neg fun (e : u = C0 a v x) => c3 (by rw [← e]; exact hu)]
    exact hF u hu
   ·simp at hu; subst hu
    rw [P01 hr.1 (by rw [h.1]; omega) hr.1, if_pos rfl]
theorem Y0d {a b : j0} {f : Int → Int} (m : Mor a b f) {n : Nat} (hn : a.2.1 = (n : Int)) (ha : inG a) (hb : inG b) (hb2 : b.2.1 ≤ 40) {v : Int} : ∀ (ls : List Int) {s : Im}, M06 n s → v ∈ s.2 → imF f s → ∃ s', l08 a b v ls s = some s' ∧ imF f s'
 | [], s, h, hv, hF => ⟨s, rfl, hF⟩
 | x :: r, s, h, hv, hF => by
  obtain ⟨s1, e1, F1⟩ := n0f m hn ha (x := x) h hv hF
  obtain ⟨h1, t, et⟩ := O04 hn ha hb hb2 h e1
  obtain ⟨s2, e2, F2⟩ := Y0d m hn ha hb hb2 r h1 (by rw [et]; exact List.mem_append_left _ hv) F1
  exact ⟨s2, by rw [l08, e1]; exact e2, F2⟩
theorem v0b {a b : j0} {f : Int → Int} (m : Mor a b f) {n : Nat} (hn : a.2.1 = (n : Int)) (ha : inG a) (hb : inG b) (hb2 : b.2.1 ≤ 40) (ls : List Int) : ∀ (d i : Nat) {s : Im}, M06 n s → imF f s → ∃ s', r04 a b ls d i s = some s'
 | 0, i, s, h, hF => ⟨s, rfl⟩
 | d + 1, i, s, h, hF => by
  unfold r04
  cases e : s.2[i]? with
  | none => exact ⟨s, rfl⟩
  | some v =>
   obtain ⟨s1, e1, F1⟩ := Y0d m hn ha hb hb2 ls h (List.mem_of_getElem? e) hF
   obtain ⟨s2, e2⟩ := v0b m hn ha hb hb2 ls d (i + 1) (z08 hn ha hb hb2 v ls h e1).1 F1
   exact ⟨s2, by simp only [e1, Option.bind_some]; exact e2⟩
theorem o0f {a b : j0} (ca : j1 a = true) (cb : j1 b = true) (hr : a.1 = b.1) {f : Int → Int} (m : Mor a b f) : p6 a b = true := by
 obtain ⟨q1, q2, q3, q4⟩ := U0 (V2 ca)
 obtain ⟨p1, p2, p3, p4⟩ := U0 (V2 cb)
 have hn : a.2.1 = ((a.2.1.toNat : Nat) : Int) := by omega
 have hz : getI (List.replicate a.2.1.toNat (0 : Int)) 0 = 0 := by
  have : 0 < a.2.1.toNat := by omega
  unfold getI
  simp [List.getD_eq_getElem?_getD, List.getElem?_replicate, this]
 obtain ⟨s', e⟩ := v0b m hn q1 p1 p3.2 (i6 a.1.toNat 1) (a.2.1.toNat + 1) 0 (s := (List.replicate a.2.1.toNat 0, [0])) ⟨by simp, ⟨by simp, fun x hx => by simp at hx; subst hx; omega⟩, fun z hz => by
  rw [List.eq_of_mem_replicate hz]; exact ⟨by omega, by omega⟩⟩ (fun v hv => by
  simp at hv; subst hv
  rw [m.base]; exact hz)
 unfold p6
 rw [ca, cb, e, decide_eq_true hr]
 rfl
end Go.Proofs.YtknoadmdnjaocaaGreat
namespace Go.Proofs.YtknoadmdnjaocaaGreat
open Go.H
set_option linter.unusedVariables false
set_option linter.unusedSimpArgs false
theorem h01 (w : List Int) (hl : w.length ≤ 1099511627776) (n0 : Nat) (hn : n0 ≤ 1099511627776) : ∀ (d k fuel : Nat) (s : List Int), k + d = w.length → d < fuel → s.length ≤ n0 + k →
  T4 w fuel (k : Int) s.reverse = some (W9 s (w.drop k)).reverse
 | d, k, 0, s, hk, hf, hsl => by omega
 | 0, k, fuel + 1, s, hk, hf, hsl => by
  rw [T4.eq_2, if_neg (by simp; omega), Y1 (by omega)]
  rfl
 | d + 1, k, fuel + 1, s, hk, hf, hsl => by
  have hkl : k < w.length := by omega
  have hx := P6 hkl
  generalize w[k] = x at hx
  have next := h01 w hl n0 hn d (k + 1) fuel (e01 s x) (by omega) (by omega) (by have := t0b s x; omega)
  rw [O2 hx]
  show _ = some (W9 (e01 s x) (w.drop (k + 1))).reverse
  rw [← next, T4.eq_2, if_pos (by simp; omega), R3 hx, Option.bind_some, Option.bind_some, H0 (by rw [List.length_reverse]; omega), Option.bind_some, Option.bind_some, Option.bind_some]
  rw [L2 hkl (by omega : w.length ≤ 9223372036854775807)]
  cases s with
  | nil =>
   have hz : decide ((((([] : List Int).reverse).length : Nat) : Int) > 0) = false := rfl
   simp only [hz, J2, Option.bind_some, cond_false, Bool.false_eq_true, if_false]
   rw [H0 (by simp)]
   rfl
  | cons l t =>
   have hp : decide ((((l :: t).reverse.length : Nat) : Int) > 0) = true := by simp
   have hpr : IntKind.i64.wrap ((((l :: t).reverse.length : Nat) : Int) - 1) = ((t.length : Nat) : Int) := by
    rw [C0d (by simp) (by simp only [List.length_cons] at hsl; simp only [List.length_reverse, List.length_cons]; omega)]; simp
   have hpush : (grd (((l :: t).reverse.length + [x].length) * 8 ≤ 140737488355328)) = some () := H0 (by simp only [List.length_cons] at hsl; simp only [List.length_reverse, List.length_cons, List.length_nil]; omega)
   have hlen : (grd ((l :: t).reverse.length ≤ 9223372036854775807)) = some () := H0 (by rw [List.length_reverse]; omega)
   simp only [hp, hpr, Z2, Option.bind_some, cond_true, R3 j0f, k0c, e01]
   have hcc : (!(l == 0) && !(l == -9223372036854775808) && (x == IntKind.i64.wrap (0 - l))) = T02 l x := rfl
   rw [hcc]
   cases hc : T02 l x with
   | true =>
    simp only [if_true, cond_true, hlen, Option.bind_some]
    rw [H0 (by simp only [List.length_reverse, List.length_cons]; omega), Option.bind_some, Int.toNat_natCast, z0h]
   | false =>
    simp only [Bool.false_eq_true, if_false, cond_false, hpush, hlen, Option.bind_some]
    exact congrArg _ (List.reverse_cons ..).symm
def B0h : List (List Int) → Nat
 | [] => 0
 | w :: r => w.length + B0h r
def q0j (s : List Int) : List (List Int) → List Int
 | [] => s
 | w :: r => q0j (W9 s w) r
theorem i01 (ws : List (List Int)) (hn : ws.length ≤ 1099511627776) : ∀ (d k fuel : Nat) (s : List Int), k + d = ws.length → d < fuel → s.length + B0h (ws.drop k) ≤ 1099511627776 →
  I5 ws fuel (k : Int) s.reverse = some (q0j s (ws.drop k)).reverse
 | d, k, 0, s, hk, hf, hsl => by omega
 | 0, k, fuel + 1, s, hk, hf, hsl => by
  rw [I5.eq_2, if_neg (by simp; omega), Y1 (by omega)]
  rfl
 | d + 1, k, fuel + 1, s, hk, hf, hsl => by
  have hkl : k < ws.length := by omega
  have hx := P6 hkl
  generalize ws[k] = w at hx
  rw [O2 hx] at hsl ⊢
  simp only [B0h] at hsl
  have hr := L06 w s
  have h0 := h01 w (by omega) s.length (by omega) w.length 0 T0 s (by omega) (M1 (by omega)) (by omega)
  rw [show ((0 : Nat) : Int) = 0 from rfl, List.drop_zero] at h0
  rw [I5.eq_2, if_pos (by simp; omega), R3 hx, Option.bind_some, h0, Option.bind_some, L2 hkl (by omega : ws.length ≤ 9223372036854775807)]
  exact i01 ws hn d (k + 1) fuel (W9 s w) (by omega) (by omega) (by omega)
theorem n05 (ws : List (List Int)) (hn : ws.length ≤ 1099511627776) (hl : B0h ws ≤ 1099511627776) : p7 ws = some (q0j [] ws).reverse := by
 unfold p7
 have h := i01 ws hn ws.length 0 T0 [] (by omega) (M1 (by omega)) (by simpa using hl)
 rw [show ((0 : Nat) : Int) = 0 from rfl, List.drop_zero, List.reverse_nil] at h
 rw [h]
 rfl
end Go.Proofs.YtknoadmdnjaocaaGreat
namespace Go.Proofs.YtknoadmdnjaocaaGreat
open Go.H
set_option linter.unusedVariables false
set_option linter.unusedSimpArgs false
abbrev Tr8 := List (Option (List Int)) × List Int
def trS (g : j0) (v x : Int) (s : Tr8) : Tr8 := if 0 ≤ C0 g v x ∧ C0 g v x ∉ s.2 then (s.1.set (C0 g v x).toNat (some ((X6 s.1 v).getD [] ++ [x])), s.2 ++ [C0 g v x]) else s
def Z0d (g : j0) (v : Int) : List Int → Tr8 → Tr8
 | [], s => s
 | x :: r, s => Z0d g v r (trS g v x s)
def N06 (g : j0) (ls : List Int) : Nat → Nat → Tr8 → Tr8
 | 0, i, s => s
 | f + 1, i, s => match s.2[i]? with
  | some v => N06 g ls f (i + 1) (Z0d g v ls s)
  | none => s
def Z1 (g : j0) (p : Int) : List Int := S7 g (i6 g.1.toNat 1) (g.2.1.toNat + 1) 0 [p]
def J07 (g : j0) (p : Int) : Tr8 := N06 g (i6 g.1.toNat 1) (g.2.1.toNat + 1) 0 ((List.replicate g.2.1.toNat none).set p.toNat (some []), [p])
theorem D0g (g : j0) (v x : Int) (s : Tr8) : (trS g v x s).2 = G05 s.2 (C0 g v x) := by
 unfold trS G05
 split <;> rfl
theorem X09 (g : j0) (v : Int) : ∀ (ls : List Int) (s : Tr8), (Z0d g v ls s).2 = g01 g v ls s.2
 | [], s => rfl
 | x :: r, s => by rw [Z0d, X09 g v r, D0g]; rfl
theorem w0b (g : j0) (ls : List Int) : ∀ (f i : Nat) (s : Tr8), (N06 g ls f i s).2 = S7 g ls f i s.2
 | 0, i, s => rfl
 | f + 1, i, s => by
  unfold N06 S7
  cases s.2[i]? with
  | none => rfl
  | some v => simp only [w0b g ls f, X09]
theorem Y09 (g : j0) (p : Int) : (J07 g p).2 = Z1 g p := w0b _ _ _ _ _
structure TOk (g : j0) (p : Int) (n : Nat) (s : Tr8) : Prop where
 ok : WOk n s.1 s.2
 gd : gud n s.2
 base : p ∈ s.2
 word : X6 s.1 p = some []
 par : ∀ y ∈ s.2, y ≠ p → ∃ v ∈ s.2, ∃ x, x ∈ i6 g.1.toNat 1 ∧ C0 g v x = y ∧ ∃ a, X6 s.1 v = some a ∧ X6 s.1 y = some (a ++ [x])
 red : ∀ y ∈ s.2, ∀ a, X6 s.1 y = some a → Red a.reverse = true
theorem WOk.add {n : Nat} {W : List (Option (List Int))} {u : List Int} (hw : WOk n W u) {y : Int} (c1 : 0 ≤ y) (hy : y < (n : Int)) (v x : Int) : WOk n (W.set y.toNat (some ((X6 W v).getD [] ++ [x]))) (u ++ [y]) := by
 have hs := hw.short v
 refine ⟨by simp [hw.len], fun z h0 h1 => ?_, fun z => ?_⟩
 ·rw [C8 c1 (by have := hw.len; omega) h0]
  by_cases c : z = y
  ·rw [if_pos c]; simp [c]
  ·rw [if_neg c, hw.iff z h0 h1]; simp [c]
 ·by_cases hz : 0 ≤ z
  ·rw [C8 c1 (by have := hw.len; omega) hz]
   by_cases c : z = y
   ·rw [if_pos c]; simp; exact hs
   ·rw [if_neg c]; have := hw.short z; simp only [List.length_append]; omega
  ·have hz0 : X6 (W.set y.toNat (some ((X6 W v).getD [] ++ [x]))) z = X6 (W.set y.toNat (some ((X6 W v).getD [] ++ [x]))) 0 := by
    unfold X6; rw [show z.toNat = (0 : Int).toNat by omega]
   rw [hz0, C8 c1 (by have := hw.len; omega) (Int.le_refl 0)]
   by_cases c : (0 : Int) = y
   ·rw [if_pos c]; simp; exact hs
   ·rw [if_neg c]; have := hw.short 0; simp only [List.length_append]; omega
theorem WOk.get {n : Nat} {W : List (Option (List Int))} {u : List Int} (hw : WOk n W u) {v : Int} (h0 : 0 ≤ v) (h1 : v < (n : Int)) (hv : v ∈ u) : ∃ a, X6 W v = some a := by
 cases e : X6 W v with
 | none => exact absurd hv ((hw.iff v h0 h1).1 (by rw [e]; rfl))
 | some a => exact ⟨a, rfl⟩
theorem v01 {R : Nat} (hR : R ≤ 900) {x : Int} (hx : x ∈ i6 R 1) : E4 x ∧ x ≠ 0 ∧ -(R : Int) ≤ x ∧ x ≤ (R : Int) := by
 obtain ⟨j, k1, k2, k3⟩ := U09 _ _ _ hx
 exact ⟨⟨⟨by omega, by omega⟩, by omega⟩, by omega, by omega, by omega⟩
theorem r0j {l x : Int} (hl : E4 l) (h : T02 l x = true) : x = -l := by
 unfold T02 at h
 simp only [Bool.and_eq_true, beq_iff_eq] at h
 rw [h.2]; exact d0b hl.1 hl.2
theorem TOk.add {g : j0} (hf : I0 g = true) {p : Int} {n : Nat} (hn : g.2.1 = (n : Int)) {s : Tr8} (h : TOk g p n s) {v x : Int} (hv : v ∈ s.2) (hx : x ∈ i6 g.1.toNat 1) : TOk g p n (trS g v x s) := by
 obtain ⟨q1, q2, q3, q4⟩ := U0 hf
 unfold trS
 split
 ·rename_i c
  obtain ⟨c1, c2⟩ := c
  have hyr : C0 g v x < (n : Int) := by
   rcases i9 q1 v x with e | e <;> omega
  obtain ⟨W, u⟩ := s
  obtain ⟨ok, gd, base, word, par, red⟩ := h
  simp only at hv c1 c2 ok gd base word par red ⊢
  have hvr := gd.2 v hv
  obtain ⟨a, ha⟩ := ok.get hvr.1 hvr.2 hv
  have hlen := ok.len
  have keep : ∀ z ∈ u, X6 (W.set (C0 g v x).toNat (some ((X6 W v).getD [] ++ [x]))) z = X6 W z := fun z hz => by
   have := gd.2 z hz
   rw [C8 c1 (by omega) this.1, if_neg fun (e : z = C0 g v x) => c2 (by rw [← e]; exact hz)]
  have new : X6 (W.set (C0 g v x).toNat (some ((X6 W v).getD [] ++ [x]))) (C0 g v x) = some (a ++ [x]) := by
   rw [C8 c1 (by omega) c1, if_pos rfl, ha]; rfl
  refine ⟨ok.add c1 hyr v x, ⟨List.nodup_append.2 ⟨gd.1, by simp, fun a ha b hb => ?_⟩, fun y hy => ?_⟩, List.mem_append_left _ base, ?_, fun y hy hyp => ?_, fun y hy b hb => ?_⟩
  ·simp at hb; subst hb; exact fun e => c2 (e ▸ ha)
  ·rcases List.mem_append.1 hy with hy | hy
   ·exact gd.2 y hy
   ·simp at hy; subst hy; omega
  ·rw [keep p base]; exact word
  ·rcases List.mem_append.1 hy with hy | hy
   ·obtain ⟨v', hv', x', hx', e1, b, e2, e3⟩ := par y hy hyp
    exact ⟨v', List.mem_append_left _ hv', x', hx', e1, b, by rw [keep v' hv']; exact e2, by rw [keep y hy]; exact e3⟩
   ·simp at hy; subst hy
    exact ⟨v, List.mem_append_left _ hv, x, hx, rfl, a, by rw [keep v hv]; exact ha, new⟩
  ·rcases List.mem_append.1 hy with hy | hy
   ·rw [keep y hy] at hb; exact red y hy b hb
   ·simp at hy; subst hy
    rw [new] at hb; cases hb
    have hra := red v hv a ha
    rw [List.reverse_append]
    show Red (x :: a.reverse) = true
    cases e : a.reverse with
    | nil => rfl
    | cons l t =>
     rw [e] at hra
     unfold Red
     rw [hra, Bool.and_true]
     cases hc : T02 l x with
     | false => rfl
     | true =>
      exfalso
      have hvp : v ≠ p := fun e2 => by
       subst e2
       rw [word] at ha; cases ha; simp at e
      obtain ⟨v', hv', x', hx', e1, b, e2, e3⟩ := par v hv hvp
      rw [ha] at e3
      injection e3 with e3
      rw [e3, List.reverse_append] at e
      simp only [List.reverse_cons, List.reverse_nil, List.nil_append, List.cons_append, List.cons.injEq] at e
      rw [← e.1] at hc
      have := r0j (v01 (by omega) hx').1 hc
      have hb := c00 hf e1 hvr.1
      rw [← this] at hb
      exact c2 (hb ▸ hv')
 ·exact h
theorem E0g (g : j0) (v x : Int) (s : Tr8) : ∃ t, (trS g v x s).2 = s.2 ++ t := by rw [D0g]; exact P09 _ _
theorem s0j (g : j0) (v : Int) (ls : List Int) (s : Tr8) : ∃ t, (Z0d g v ls s).2 = s.2 ++ t := by rw [X09]; exact b00 _ _ _ _
theorem TOk.inn {g : j0} (hf : I0 g = true) {p : Int} {n : Nat} (hn : g.2.1 = (n : Int)) {v : Int} : ∀ (ls : List Int) {s : Tr8}, TOk g p n s → v ∈ s.2 → (∀ x ∈ ls, x ∈ i6 g.1.toNat 1) → TOk g p n (Z0d g v ls s)
 | [], s, h, hv, hl => h
 | x :: r, s, h, hv, hl => by
  obtain ⟨t, e⟩ := E0g g v x s
  exact TOk.inn hf hn r (h.add hf hn hv (hl x (List.mem_cons_self ..))) (by rw [e]; exact List.mem_append_left _ hv) fun y hy => hl y (List.mem_cons_of_mem _ hy)
theorem TOk.out {g : j0} (hf : I0 g = true) {p : Int} {n : Nat} (hn : g.2.1 = (n : Int)) : ∀ (f i : Nat) {s : Tr8}, TOk g p n s → TOk g p n (N06 g (i6 g.1.toNat 1) f i s)
 | 0, i, s, h => h
 | f + 1, i, s, h => by
  unfold N06
  cases e : s.2[i]? with
  | none => exact h
  | some v => exact TOk.out hf hn f (i + 1) (h.inn hf hn _ (List.mem_of_getElem? e) fun x hx => hx)
theorem t0j (N : Nat) (x : Int) : X6 (List.replicate N (none : Option (List Int))) x = none := by
 unfold X6
 rw [List.getD_eq_getElem?_getD, List.getElem?_replicate]; split <;> rfl
theorem x0b (g : j0) {p : Int} {N : Nat} (hp : 0 ≤ p ∧ p < (N : Int)) : TOk g p N ((List.replicate N none).set p.toNat (some []), [p]) := by
 have hset : ∀ x, 0 ≤ x → X6 ((List.replicate N (none : Option (List Int))).set p.toNat (some [])) x = if x = p then some [] else none := fun x h0 => by
  rw [C8 hp.1 (by simp; omega) h0, t0j]
 refine ⟨⟨by simp, fun x h0 h1 => ?_, fun x => ?_⟩, ⟨by simp, fun x hx => by simp at hx; subst hx; exact hp⟩, by simp, ?_, fun y hy h => ?_, fun y hy a ha => ?_⟩
 ·simp only
  rw [hset x h0]
  by_cases c : x = p
  ·rw [if_pos c]; simp [c]
  ·rw [if_neg c]; simp [c]
 ·have : ∀ x, 0 ≤ x → ((X6 ((List.replicate N (none : Option (List Int))).set p.toNat (some [])) x).getD []).length ≤ 1 := fun x h0 => by
   rw [hset x h0]; split <;> simp
  by_cases hz : 0 ≤ x
  ·exact this x hz
  ·have e : X6 ((List.replicate N (none : Option (List Int))).set p.toNat (some [])) x = X6 ((List.replicate N (none : Option (List Int))).set p.toNat (some [])) 0 := by
    unfold X6; rw [show x.toNat = (0 : Int).toNat by omega]
   simp only
   rw [e]; exact this 0 (Int.le_refl 0)
 ·simp only
  rw [hset p hp.1, if_pos rfl]
 ·simp at hy; exact absurd hy h
 ·simp at hy; subst hy
  simp only at ha
  rw [hset y hp.1, if_pos rfl] at ha
  cases ha; rfl
theorem t0c {g : j0} (hf : I0 g = true) {p : Int} (hp : 0 ≤ p ∧ p < g.2.1) : TOk g p g.2.1.toNat (J07 g p) := by
 obtain ⟨q1, q2, q3, q4⟩ := U0 hf
 exact TOk.out hf (by omega) _ _ (x0b g ⟨hp.1, by omega⟩)
theorem G0k {g : j0} (hf : I0 g = true) (p : Int) {n : Nat} (hn : g.2.1 = (n : Int)) (ls : List Int) (hls : ∀ x ∈ ls, x ∈ i6 g.1.toNat 1) (hl : ls.length ≤ 1000000) (v : Int) : ∀ (d k fuel : Nat) (s : Tr8), TOk g p n s → v ∈ s.2 → k + d = ls.length → d < fuel →
  D2 ls g.1 g.2.1 g.2.2 v fuel (k : Int) s.1 s.2 = some (Z0d g v (ls.drop k) s)
 | d, k, 0, s, hs, hv, hd, hf => by omega
 | 0, k, fuel + 1, s, hs, hv, hd, hf => by
  rw [D2.eq_2, if_neg (by simp; omega), Y1 (by omega)]; rfl
 | d + 1, k, fuel + 1, s, hs, hv, hd, hfu => by
  obtain ⟨q1, q2, q3, q4⟩ := U0 hf
  have hk : k < ls.length := by omega
  have hx := P6 hk
  have hxl := hls _ (List.mem_of_getElem? hx)
  have hdr := O2 hx
  generalize ls[k] = x at hx hxl hdr
  have hxm := (v01 (by omega) hxl).1
  have hlen := R7 n s.2 hs.gd.1 hs.gd.2
  have hnx := i9 q1 v x
  have hsn := hs.add hf hn hv hxl
  obtain ⟨t, et⟩ := E0g g v x s
  have ih := G0k hf p hn ls hls hl v d (k + 1) fuel (trS g v x s) hsn (by rw [et]; exact List.mem_append_left _ hv) (by omega) (by omega)
  have hw := hs.ok
  have hvr := hs.gd.2 v hv
  rw [D2.eq_2, if_pos (by simp; omega), hdr, Z0d, ← ih]
  simp only [R3 hx, Option.bind_some, show (g.1, g.2.1, g.2.2) = g from rfl, r03 g v x hxm (by omega), H0 (o01 q1 q3.2 v x), L2 hk (show ls.length ≤ 9223372036854775807 by omega)]
  unfold trS
  generalize C0 g v x = y at *
  by_cases c1 : 0 ≤ y
  ·have hy : y < (n : Int) := by omega
   simp only [show decide (y ≥ 0) = true by simpa using c1, Z2, giO hw.len c1 hy, Option.bind_some, cond_true]
   by_cases c2 : y ∈ s.2
   ·have : ¬ ((X6 s.1 y).isNone = true) := fun h => (hw.iff y c1 hy).1 h c2
    rw [if_neg this, if_neg fun h => h.2 c2]
   ·have : (X6 s.1 y).isNone = true := (hw.iff y c1 hy).2 c2
    have hsh := hw.short v
    rw [if_pos this, if_pos ⟨c1, c2⟩, giO hw.len hvr.1 hvr.2, Option.bind_some, q0g (by omega), Option.bind_some, H0 (by simp; omega), Option.bind_some, H0 (by simp; omega), Option.bind_some]
  ·simp only [show decide (y ≥ 0) = false by simpa using c1, J2, Option.bind_some, cond_false]
   rw [if_neg (by simp), if_neg fun h => c1 h.1]
theorem H0k {g : j0} (hf : I0 g = true) (p : Int) {n : Nat} (hn : g.2.1 = (n : Int)) : ∀ (f i fuel : Nat) (s : Tr8), TOk g p n s → i ≤ s.2.length → n + 1 ≤ i + f → f < fuel →
  U3 g.1 g.2.1 g.2.2 fuel (i : Int) s.1 s.2 = some (N06 g (i6 g.1.toNat 1) f i s)
 | f, i, 0, s, hs, hi, hd, hf => by omega
 | 0, i, fuel + 1, s, hs, hi, hd, hf => by have := R7 n s.2 hs.gd.1 hs.gd.2; omega
 | f + 1, i, fuel + 1, s, hs, hi, hd, hfu => by
  obtain ⟨q1, q2, q3, q4⟩ := U0 hf
  have hlen := R7 n s.2 hs.gd.1 hs.gd.2
  rw [U3.eq_2, Option.bind_some, H0 (by omega), Option.bind_some]
  by_cases hk : i < s.2.length
  ·have hx := P6 hk
   generalize s.2[i] = v at hx
   have hv := List.mem_of_getElem? hx
   have h0 := G0k hf p hn (i6 g.1.toNat 1) (fun x hx => hx) (by rw [Q01]; omega) v (i6 g.1.toNat 1).length 0 T0 s hs hv (by omega) (M1 (by rw [Q01]; omega))
   rw [show ((0 : Nat) : Int) = 0 from rfl, List.drop_zero] at h0
   obtain ⟨t, e⟩ := s0j g v (i6 g.1.toNat 1) s
   have ih := H0k hf p hn f (i + 1) fuel _ (hs.inn hf hn _ hv fun x hx => hx) (by rw [e, List.length_append]; omega) (by omega) (by omega)
   have hm : h8 g.1 = some (i6 g.1.toNat 1) := by
    have := Y0i g.1.toNat (by omega)
    rwa [show ((g.1.toNat : Nat) : Int) = g.1 by omega] at this
   rw [if_pos (by simpa using hk), R3 hx, Option.bind_some, hm, Option.bind_some, h0, Option.bind_some]
   simp only [L2 hk (show s.2.length ≤ 9223372036854775807 by omega), N06, hx]
   exact ih
  ·have hx : s.2[i]? = none := List.getElem?_eq_none (by omega)
   rw [if_neg (by simpa using hk)]
   simp only [N06, hx]
def x03 (g : j0) (p : Int) : List (List Int) := (J07 g p).1.map fun o => o.getD []
theorem Z09 {g : j0} (hf : I0 g = true) {p : Int} (hp : 0 ≤ p ∧ p < g.2.1) : n5 g p = some (Z1 g p, x03 g p) := by
 obtain ⟨q1, q2, q3, q4⟩ := U0 hf
 have hN : g.2.1 = ((g.2.1.toNat : Nat) : Int) := by omega
 have h0 := H0k hf p hN (g.2.1.toNat + 1) 0 T0 _ (x0b g (N := g.2.1.toNat) ⟨hp.1, by omega⟩) (by simp) (by omega) (M1 (by omega))
 have hg0 : gi (List.replicate g.2.1.toNat (none : Option (List Int))) p = some none := by
  have := R3 (xs := List.replicate g.2.1.toNat (none : Option (List Int))) (k := p.toNat) (x := none) (by rw [List.getElem?_replicate, if_pos (by omega)])
  rwa [show ((p.toNat : Nat) : Int) = p by omega] at this
 rw [← Y09]
 unfold x03 J07
 obtain ⟨a, b, c⟩ := g
 simp only at *
 unfold n5
 simp only
 rw [H0 (by omega), Option.bind_some, hg0, Option.bind_some]
 rw [show ((0 : Nat) : Int) = 0 from rfl] at h0
 rw [h0]
 rfl
end Go.Proofs.YtknoadmdnjaocaaGreat
namespace Go.Proofs.YtknoadmdnjaocaaGreat
open Go.H
set_option linter.unusedVariables false
set_option linter.unusedSimpArgs false
def tw (g : j0) (p v : Int) : List Int := (X6 (J07 g p).1 v).getD []
structure r0a (g : j0) (p : Int) (t : Int → List Int) : Prop where
 z : t p = []
 par : ∀ y ∈ Z1 g p, y ≠ p → ∃ v ∈ Z1 g p, ∃ x, x ∈ i6 g.1.toNat 1 ∧ C0 g v x = y ∧ t y = t v ++ [x]
 red : ∀ y ∈ Z1 g p, Red (t y).reverse = true
 len : ∀ y, (t y).length ≤ 40
theorem J8 {g : j0} (hf : I0 g = true) {p : Int} (hp : 0 ≤ p ∧ p < g.2.1) : r0a g p (tw g p) := by
 obtain ⟨q1, q2, q3, q4⟩ := U0 hf
 have h := t0c hf hp
 have e := Y09 g p
 refine ⟨by unfold tw; rw [h.word]; rfl, fun y hy hyp => ?_, fun y hy => ?_, fun y => ?_⟩
 ·rw [← e] at hy ⊢
  obtain ⟨v, hv, x, hx, e1, a, e2, e3⟩ := h.par y hy hyp
  exact ⟨v, hv, x, hx, e1, by unfold tw; rw [e2, e3]; rfl⟩
 ·rw [← e] at hy
  have hr := h.gd.2 y hy
  obtain ⟨a, ha⟩ := h.ok.get hr.1 hr.2 hy
  unfold tw
  rw [ha]
  exact h.red y hy a ha
 ·have := h.ok.short y
  have := R7 _ _ h.gd.1 h.gd.2
  unfold tw
  omega
theorem J7 {g : j0} (hf : I0 g = true) {p : Int} (hp : 0 ≤ p ∧ p < g.2.1) : gud g.2.1.toNat (Z1 g p) := by
 rw [← Y09]; exact (t0c hf hp).gd
theorem O06 (g : j0) (p : Int) : ∃ t, Z1 g p = p :: t := by
 obtain ⟨t, e⟩ := I05 g (i6 g.1.toNat 1) (g.2.1.toNat + 1) 0 [p]
 exact ⟨t, e⟩
theorem r0a.ind {g : j0} {p : Int} {t : Int → List Int} (h : r0a g p t) (P : Int → Prop) (h0 : P p) (hs : ∀ v ∈ Z1 g p, ∀ y ∈ Z1 g p, ∀ x, x ∈ i6 g.1.toNat 1 → C0 g v x = y → t y = t v ++ [x] → P v → P y) : ∀ (k : Nat) (y : Int), (t y).length ≤ k → y ∈ Z1 g p → P y
 | k, y, hk, hy => by
  by_cases c : y = p
  ·rw [c]; exact h0
  ·obtain ⟨v, hv, x, hx, e1, e2⟩ := h.par y hy c
   cases k with
   | zero => rw [e2] at hk; simp at hk
   | succ k => exact hs v hv y hy x hx e1 e2 (r0a.ind h P h0 hs k v (by rw [e2] at hk; simp at hk; omega) hv)
theorem r0a.induct {g : j0} {p : Int} {t : Int → List Int} (h : r0a g p t) {P : Int → Prop} (h0 : P p) (hs : ∀ v ∈ Z1 g p, ∀ y ∈ Z1 g p, ∀ x, x ∈ i6 g.1.toNat 1 → C0 g v x = y → t y = t v ++ [x] → P v → P y) {y : Int} (hy : y ∈ Z1 g p) : P y := h.ind P h0 hs _ y (Nat.le_refl _) hy
theorem u0c {g : j0} {v x y : Int} (h : C0 g v x = y) (h0 : 0 ≤ y) : rdw g v [x] = some y := by
 unfold rdw
 rw [if_neg (by omega), h]; rfl
theorem r0a.rd {g : j0} (hf : I0 g = true) {p : Int} (hp : 0 ≤ p ∧ p < g.2.1) {t : Int → List Int} (h : r0a g p t) {y : Int} (hy : y ∈ Z1 g p) : rdw g p (t y) = some y := by
 refine h.induct (P := fun y => rdw g p (t y) = some y) ?_ (fun v hv y hy x hx e1 e2 ih => ?_) hy
 ·rw [h.z]; rfl
 ·rw [e2, r01, ih, Option.bind_some]
  exact u0c e1 ((J7 hf hp).2 y hy).1
theorem r0a.let {g : j0} {p : Int} {t : Int → List Int} (h : r0a g p t) {y : Int} (hy : y ∈ Z1 g p) : ∀ x ∈ t y, x ∈ i6 g.1.toNat 1 := by
 refine h.induct (P := fun y => ∀ x ∈ t y, x ∈ i6 g.1.toNat 1) ?_ (fun v hv y hy x hx e1 e2 ih => ?_) hy
 ·rw [h.z]; exact fun x hx => by cases hx
 ·rw [e2]
  intro z hz
  rcases List.mem_append.1 hz with hz | hz
  ·exact ih z hz
  ·simp at hz; rw [hz]; exact hx
def a0e (w : List Int) : Int := w.getLastD 0
theorem U02 (a : List Int) (x : Int) : a0e (a ++ [x]) = x := by unfold a0e; simp
def tE (g : j0) (v : Int) : B0 := stp (C0 g v (-(a0e (tw g 0 v)))) (a0e (tw g 0 v)) v
def p00 (g : j0) : List B0 := w9 C1 [] ((Z1 g 0).tail.map (tE g))
theorem a0a {g : j0} (hf : I0 g = true) {p : Int} (hp : 0 ≤ p ∧ p < g.2.1) {v : Int} (hv : 0 ≤ v ∧ v < g.2.1) : gi (x03 g p) v = some (tw g p v) := by
 have h := t0c hf hp
 have hl := h.ok.len
 have hk : v.toNat < (J07 g p).1.length := by omega
 have := R3 (xs := x03 g p) (k := v.toNat) (x := tw g p v) (by
  unfold x03 tw X6
  rw [List.getElem?_map, List.getElem?_eq_getElem hk, List.getD_eq_getElem?_getD, List.getElem?_eq_getElem hk]; rfl)
 rwa [show ((v.toNat : Nat) : Int) = v by omega] at this
theorem b0a {g : j0} (hf : I0 g = true) {v : Int} : v ∈ (Z1 g 0).tail ↔ v ∈ Z1 g 0 ∧ v ≠ 0 := by
 obtain ⟨q1, q2, q3, q4⟩ := U0 hf
 obtain ⟨t, e⟩ := O06 g 0
 have hg := (J7 hf (p := 0) ⟨by omega, by omega⟩).1
 rw [e] at hg ⊢
 have := (List.nodup_cons.1 hg).1
 constructor
 ·intro h
  exact ⟨List.mem_cons_of_mem _ h, fun c => this (c ▸ h)⟩
 ·rintro ⟨h1, h2⟩
  rcases List.mem_cons.1 h1 with h1 | h1
  ·exact absurd h1 h2
  ·exact h1
theorem F0g {g : j0} (hf : I0 g = true) : ∀ (d k fuel : Nat) (acc : List B0), k + d = (Z1 g 0).tail.length → d < fuel → acc.length ≤ k →
  S4 (Z1 g 0).tail (x03 g 0) g.1 g.2.1 g.2.2 fuel (k : Int) acc = some (acc ++ ((Z1 g 0).tail.drop k).map (tE g))
 | d, k, 0, acc, hd, hf', ha => by omega
 | 0, k, fuel + 1, acc, hd, hf', ha => by
  rw [S4.eq_2, if_neg (by simp only [decide_eq_true_eq]; omega), Y1 (by omega)]; simp
 | d + 1, k, fuel + 1, acc, hd, hfu, ha => by
  obtain ⟨q1, q2, q3, q4⟩ := U0 hf
  have hp : (0 : Int) ≤ 0 ∧ (0 : Int) < g.2.1 := ⟨by omega, by omega⟩
  have hT := J8 hf hp
  have hG := J7 hf hp
  have hle := R7 _ _ hG.1 hG.2
  have hk : k < (Z1 g 0).tail.length := by omega
  have htl : (Z1 g 0).tail.length ≤ 40 := by rw [List.length_tail]; omega
  have hx := P6 hk
  have hvm := List.mem_of_getElem? hx
  have hdr := O2 hx
  generalize (Z1 g 0).tail[k] = v at hx hvm hdr
  obtain ⟨hvo, hv0⟩ := (b0a hf).1 hvm
  have hvr := hG.2 v hvo
  obtain ⟨u, hu, x, hx1, e1, e2⟩ := hT.par v hvo hv0
  have hlx := v01 (by omega) hx1
  have hll : (tw g 0 v).length = (tw g 0 u).length + 1 := by rw [e2]; simp
  have hlu := hT.len u
  have g2 : gi (tw g 0 v) (IntKind.i64.wrap (((tw g 0 v).length : Nat) - 1)) = some x := by
   rw [w64 (by omega) (by omega), show (((tw g 0 v).length : Nat) : Int) - 1 = (((tw g 0 u).length : Nat) : Int) by omega]
   refine R3 ?_
   rw [e2, List.getElem?_append_right (Nat.le_refl _)]; simp
  have hte : tE g v = stp (C0 g v (-x)) x v := by unfold tE; rw [e2, U02]
  have hnm : E4 (-x) := ⟨⟨by have := hlx.2.2; omega, by have := hlx.2.2; omega⟩, by have := hlx.2.2; omega⟩
  have ih := F0g hf d (k + 1) fuel (acc ++ [tE g v]) (by omega) (by omega) (by simp; omega)
  rw [S4.eq_2, if_pos (by simp only [decide_eq_true_eq]; omega), R3 hx, Option.bind_some, a0a hf hp ⟨hvr.1, by omega⟩, Option.bind_some, g2, Option.bind_some, d0b hlx.1.1 hlx.1.2, show (g.1, g.2.1, g.2.2) = g from rfl, r03 g v (-x) hnm (by omega), Option.bind_some, H0 (o01 q1 q3.2 v _), Option.bind_some, m0l _ x v hlx.1, Option.bind_some, ← hte, L2 hk (by omega), hdr, List.map_cons]
  generalize tE g v = t at ih ⊢
  obtain ⟨t0, t1, t2⟩ := t
  simp only
  rw [H0 (by simp; omega), Option.bind_some]
  rw [ih]
  simp
theorem b0e {g : j0} (hf : I0 g = true) : l8 g = some (p00 g) := by
 obtain ⟨q1, q2, q3, q4⟩ := U0 hf
 have hp : (0 : Int) ≤ 0 ∧ (0 : Int) < g.2.1 := ⟨by omega, by omega⟩
 have hG := J7 hf hp
 have hle := R7 _ _ hG.1 hG.2
 have h1 := Z09 hf hp
 obtain ⟨t, et⟩ := O06 g 0
 have hc : V04 (Z1 g 0) 1 (((Z1 g 0).length : Nat) : Int) = some (Z1 g 0).tail := by
  have := F05 (xs := Z1 g 0) (k := 1) (by rw [et]; simp)
  rw [show ((1 : Nat) : Int) = 1 from rfl] at this
  rw [this, List.drop_one]
 have hL := F0g hf (Z1 g 0).tail.length 0 T0 [] (by omega) (M1 (by rw [List.length_tail]; omega)) (by simp)
 rw [show ((0 : Nat) : Int) = 0 from rfl, List.drop_zero, List.nil_append] at hL
 have hs := I0d ((Z1 g 0).tail.map (tE g)) (by rw [List.length_map, List.length_tail]; omega)
 unfold p00
 obtain ⟨a, b, c⟩ := g
 simp only at *
 unfold l8
 simp only [h1, Option.bind_some, hc, hL, hs]
theorem P04 {g : j0} (hf : I0 g = true) {e : B0} : e ∈ p00 g ↔ ∃ z ∈ Z1 g 0, ∃ q ∈ Z1 g 0, ∃ l, l ∈ i6 g.1.toNat 1 ∧ C0 g q l = z ∧ tw g 0 z = tw g 0 q ++ [l] ∧ e = stp q l z := by
 obtain ⟨q1, q2, q3, q4⟩ := U0 hf
 have hp : (0 : Int) ≤ 0 ∧ (0 : Int) < g.2.1 := ⟨by omega, by omega⟩
 have hT := J8 hf hp
 have hG := J7 hf hp
 unfold p00
 rw [D00 P02, List.mem_map]
 constructor
 ·rintro (h | ⟨z, hz, rfl⟩)
  ·cases h
  ·obtain ⟨hz1, hz2⟩ := (b0a hf).1 hz
   obtain ⟨q, hq, l, hl, e1, e2⟩ := hT.par z hz1 hz2
   refine ⟨z, hz1, q, hq, l, hl, e1, e2, ?_⟩
   unfold tE
   rw [e2, U02, c00 hf e1 (hG.2 z hz1).1]
 ·rintro ⟨z, hz, q, hq, l, hl, e1, e2, rfl⟩
  refine .inr ⟨z, (b0a hf).2 ⟨hz, fun c => ?_⟩, ?_⟩
  ·rw [c, hT.z] at e2; simp at e2
  ·unfold tE
   rw [e2, U02, c00 hf e1 (hG.2 z hz).1]
def U7 (g : j0) : List B0 := g.2.2.filter fun e => !decide (e ∈ p00 g)
theorem C0h {g : j0} (hf : I0 g = true) : (p00 g).length ≤ 40 := by
 obtain ⟨q1, q2, q3, q4⟩ := U0 hf
 have hG := J7 hf (p := 0) ⟨by omega, by omega⟩
 have hle := R7 _ _ hG.1 hG.2
 unfold p00
 have := p04 ((Z1 g 0).tail.map (tE g)) []
 rw [List.length_map, List.length_tail, List.length_nil] at this
 omega
theorem G0g (T : List B0) (hT : T.length ≤ 1000) (es : List B0) (hl : es.length ≤ 1000) : ∀ (d k fuel : Nat) (acc : List B0), k + d = es.length → d < fuel → acc.length ≤ k →
  V3 es T fuel (k : Int) acc = some (acc ++ (es.drop k).filter fun e => !decide (e ∈ T))
 | d, k, 0, acc, hd, hf', ha => by omega
 | 0, k, fuel + 1, acc, hd, hf', ha => by
  rw [V3.eq_2, if_neg (by simp only [decide_eq_true_eq]; omega), Y1 (by omega)]; simp
 | d + 1, k, fuel + 1, acc, hd, hfu, ha => by
  have hk : k < es.length := by omega
  have hx := P6 hk
  have hdr := O2 hx
  generalize es[k] = e at hx hdr
  have ih := fun acc' h => G0g T hT es hl d (k + 1) fuel acc' (by omega) (by omega) h
  obtain ⟨e0, e1, e2⟩ := e
  rw [V3.eq_2, if_pos (by simp only [decide_eq_true_eq]; omega), R3 hx, Option.bind_some]
  simp only [h0f T (e0, e1, e2) (by omega), Option.bind_some, L2 hk (show es.length ≤ 9223372036854775807 by omega), hdr, List.filter_cons]
  by_cases c : (e0, e1, e2) ∈ T
  ·simp only [decide_eq_true c, Bool.not_true, Bool.false_eq_true, if_false]
   exact ih acc (by omega)
  ·simp only [decide_eq_false c, Bool.not_false, if_true]
   rw [H0 (by simp; omega), Option.bind_some, ih _ (by simp; omega)]
   simp
theorem i0k {g : j0} (hf : I0 g = true) : I7 g = some (U7 g) := by
 obtain ⟨q1, q2, q3, q4⟩ := U0 hf
 have h1 := l00 g (by omega)
 have h2 := b0e hf
 have h3 := C0h hf
 have hL := G0g (p00 g) (by omega) g.2.2 (by omega) g.2.2.length 0 T0 [] (by omega) (M1 (by omega)) (by simp)
 rw [show ((0 : Nat) : Int) = 0 from rfl, List.drop_zero, List.nil_append] at hL
 unfold U7
 obtain ⟨a, b, c⟩ := g
 simp only at *
 unfold I7
 simp only [h1, hf, Option.bind_some, h2, Bool.not_true, Bool.false_eq_true, if_false, hL]
theorem E00 {g : j0} {e : B0} : e ∈ U7 g ↔ e ∈ g.2.2 ∧ e ∉ p00 g := by
 unfold U7
 rw [List.mem_filter]
 simp
def bw (g : j0) (e : B0) : List Int := tw g 0 e.1 ++ [e.2.1] ++ inv (tw g 0 e.2.2)
def J9 (g : j0) : List (List Int) := (U7 g).map fun e => (W9 [] (bw g e)).reverse
theorem n0l {g : j0} (hf : I0 g = true) (e : B0) : (bw g e).length ≤ 81 := by
 obtain ⟨q1, q2, q3, q4⟩ := U0 hf
 have hT := J8 hf (p := 0) ⟨by omega, by omega⟩
 have h1 := hT.len e.1
 have h2 := hT.len e.2.2
 unfold bw
 simp only [List.length_append, s0c, List.length_singleton]
 omega
theorem H0g {g : j0} (hf : I0 g = true) (es : List B0) (he : ∀ e ∈ es, e ∈ g.2.2) (hl : es.length ≤ 1000) : ∀ (d k fuel : Nat) (acc : List (List Int)), k + d = es.length → d < fuel → acc.length ≤ k →
  J5 es (x03 g 0) fuel (k : Int) acc = some (acc ++ (es.drop k).map fun e => (W9 [] (bw g e)).reverse)
 | d, k, 0, acc, hd, hf', ha => by omega
 | 0, k, fuel + 1, acc, hd, hf', ha => by
  rw [J5.eq_2, if_neg (by simp only [decide_eq_true_eq]; omega), Y1 (by omega)]; simp
 | d + 1, k, fuel + 1, acc, hd, hfu, ha => by
  obtain ⟨q1, q2, q3, q4⟩ := U0 hf
  have hp : (0 : Int) ≤ 0 ∧ (0 : Int) < g.2.1 := ⟨by omega, by omega⟩
  have hT := J8 hf hp
  have hk : k < es.length := by omega
  have hx := P6 hk
  have hem := he _ (List.mem_of_getElem? hx)
  have hdr := O2 hx
  generalize es[k] = e at hx hdr hem
  have hq := q1 e hem
  have h1 := hT.len e.1
  have h2 := hT.len e.2.2
  have ih := fun acc' h => H0g hf es he hl d (k + 1) fuel acc' (by omega) (by omega) h
  have hpr : p7 [tw g 0 e.1, [e.2.1], inv (tw g 0 e.2.2)] = some (W9 [] (bw g e)).reverse := by
   rw [n05 _ (by simp) (by simp only [B0h, s0c, List.length_singleton]; omega)]
   unfold bw q0j
   simp only [q0j, V0d]
  obtain ⟨e0, e1, e2⟩ := e
  rw [J5.eq_2, if_pos (by simp only [decide_eq_true_eq]; omega), R3 hx, Option.bind_some]
  simp only at hq hpr h1 h2 ⊢
  rw [a0a hf hp hq.1, Option.bind_some, Option.bind_some, a0a hf hp hq.2.1, Option.bind_some, G07 _ (by omega), Option.bind_some, Option.bind_some, hpr, Option.bind_some, Option.bind_some, H0 (by simp; omega), Option.bind_some, L2 hk (show es.length ≤ 9223372036854775807 by omega), ih _ (by simp; omega), hdr]
  simp
theorem j0k {g : j0} (hc : j1 g = true) : n8 g = some (J9 g) := by
 have hf := V2 hc
 obtain ⟨q1, q2, q3, q4⟩ := U0 hf
 have h1 := m00 g (by omega)
 have h2 := i0k hf
 have h3 := Z09 hf (p := 0) ⟨by omega, by omega⟩
 have hle : (U7 g).length ≤ g.2.2.length := List.length_filter_le _ _
 have hL := H0g hf (U7 g) (fun e he => (E00.1 he).1) (by omega) (U7 g).length 0 T0 [] (by omega) (M1 (by omega)) (by simp)
 rw [show ((0 : Nat) : Int) = 0 from rfl, List.drop_zero, List.nil_append] at hL
 unfold J9
 obtain ⟨a, b, c⟩ := g
 simp only at *
 unfold n8
 simp only [h1, hc, Option.bind_some, h2, h3, Bool.not_true, Bool.false_eq_true, if_false, hL]
end Go.Proofs.YtknoadmdnjaocaaGreat
namespace Go.Proofs.YtknoadmdnjaocaaGreat
open Go.H
set_option linter.unusedVariables false
set_option linter.unusedSimpArgs false
theorem A08 : ∀ (s t : List Int), Red (s ++ t) = true ↔ Red s = true ∧ Red t = true ∧ ∀ a b, s.getLast? = some a → t.head? = some b → T02 b a = false
 | [], t => by simp [Red]
 | [a], [] => by simp [Red]
 | [a], b :: t => by
  show (!T02 b a && Red (b :: t)) = true ↔ _
  simp only [Bool.and_eq_true, Bool.not_eq_true']
  constructor
  ·rintro ⟨h1, h2⟩
   refine ⟨rfl, h2, fun a' b' ha hb => ?_⟩
   simp at ha hb; subst ha; subst hb; exact h1
  ·rintro ⟨_, h2, h3⟩
   exact ⟨h3 a b rfl rfl, h2⟩
 | x :: y :: s, t => by
  have ih := A08 (y :: s) t
  show (!T02 y x && Red (y :: s ++ t)) = true ↔ (!T02 y x && Red (y :: s)) = true ∧ _
  rw [Bool.and_eq_true, ih, Bool.and_eq_true, List.getLast?_cons_cons]
  constructor
  ·rintro ⟨h1, h2, h3, h4⟩; exact ⟨⟨h1, h2⟩, h3, h4⟩
  ·rintro ⟨⟨h1, h2⟩, h3, h4⟩; exact ⟨h1, h2, h3, h4⟩
theorem s04 {x : Int} (h : E4 x) : ng x = -x := d0b h.1 h.2
theorem K05 {x : Int} (h : E4 x) : E4 (-x) := ⟨⟨by have := h.1.2; have := h.2; omega, by have := h.1.1; have := h.2; omega⟩, by have := h.1.2; omega⟩
theorem P06 {l x : Int} (hl : E4 l) (h0 : l ≠ 0) : T02 l x = true ↔ x = -l := by
 unfold T02
 rw [s04 hl]
 simp only [Bool.and_eq_true, Bool.not_eq_true', beq_eq_false_iff_ne, beq_iff_eq, ne_eq]
 constructor
 ·exact fun h => h.2
 ·exact fun h => ⟨⟨h0, hl.2⟩, h⟩
theorem k0k {x y : Int} (hx : E4 x) (hx0 : x ≠ 0) (hy : E4 y) (hy0 : y ≠ 0) : T02 (ng y) (ng x) = T02 x y := by
 rw [Bool.eq_iff_iff, s04 hx, s04 hy, P06 (K05 hy) (by omega), P06 hx hx0]
 omega
theorem l0k (w : List Int) : (inv w).reverse = w.map ng := by simp [inv]
theorem u0j : ∀ (w : List Int), (∀ x ∈ w, E4 x ∧ x ≠ 0) → Red w.reverse = true → Red (w.map ng) = true
 | [], _, _ => rfl
 | [x], _, _ => rfl
 | x :: y :: w, hw, h => by
  rw [List.reverse_cons, A08] at h
  have ih := u0j (y :: w) (fun z hz => hw z (List.mem_cons_of_mem _ hz)) h.1
  have h3 := h.2.2 y x (by simp) rfl
  show (!T02 (ng y) (ng x) && Red (List.map ng (y :: w))) = true
  obtain ⟨hx, hx0⟩ := hw x (by simp)
  obtain ⟨hy, hy0⟩ := hw y (by simp)
  rw [k0k hx hx0 hy hy0, h3, ih]; rfl
theorem m0k {w : List Int} (hw : ∀ x ∈ w, E4 x) : inv (inv w) = w := by
 unfold inv
 rw [List.map_reverse, List.reverse_reverse, List.map_map]
 refine (List.map_congr_left fun x hx => ?_).trans (List.map_id w)
 have h := hw x hx
 show ng (ng x) = x
 rw [s04 h, s04 (K05 h)]; omega
theorem v0j (x : Int) (w : List Int) : inv (x :: w) = inv w ++ [ng x] := by simp [inv]
theorem I0g {w : List Int} (hw : ∀ x ∈ w, E4 x) : ∀ x ∈ inv w, E4 x := fun x hx => by
 simp only [inv, List.mem_reverse, List.mem_map] at hx
 obtain ⟨y, hy, rfl⟩ := hx
 rw [s04 (hw y hy)]; exact K05 (hw y hy)
theorem D0h {s : List Int} {x y : Int} (h : y ∈ e01 s x) : y ∈ s ∨ y = x := by
 cases s with
 | nil => simp [e01] at h; exact .inr h
 | cons l t =>
  simp only [e01] at h
  cases c : T02 l x with
  | true => rw [c] at h; exact .inl (List.mem_cons_of_mem _ h)
  | false =>
   rw [c] at h
   rcases List.mem_cons.1 h with h | h
   ·exact .inr h
   ·exact .inl h
theorem c0e : ∀ (w s : List Int) {y : Int}, y ∈ W9 s w → y ∈ s ∨ y ∈ w
 | [], s, y, h => .inl h
 | x :: w, s, y, h => by
  rcases c0e w (e01 s x) h with h | h
  ·rcases D0h h with h | rfl
   ·exact .inl h
   ·exact .inr (List.mem_cons_self ..)
  ·exact .inr (List.mem_cons_of_mem _ h)
theorem Q04 {g : j0} (hg : inG g) : ∀ (w : List Int) (v u : Int), (0 ≤ v ∧ v < g.2.1) → rdw g v w = some u → 0 ≤ u ∧ u < g.2.1
 | [], v, u, hv, h => by simp only [rdw, Option.some.injEq] at h; rw [← h]; exact hv
 | x :: w, v, u, hv, h => by
  unfold rdw at h
  by_cases c : C0 g v x < 0
  ·rw [if_pos c] at h; cases h
  ·rw [if_neg c] at h
   refine Q04 hg w _ u ?_ h
   rcases i9 hg v x with e | e <;> omega
theorem v0c {g : j0} (hf : I0 g = true) : ∀ (w : List Int) (v u : Int), (∀ x ∈ w, E4 x) → 0 ≤ v → rdw g v w = some u → rdw g u (inv w) = some v
 | [], v, u, hw, hv, h => by simp only [rdw, Option.some.injEq] at h; rw [← h]; rfl
 | x :: w, v, u, hw, hv, h => by
  unfold rdw at h
  by_cases c : C0 g v x < 0
  ·rw [if_pos c] at h; cases h
  ·rw [if_neg c] at h
   have ih := v0c hf w _ u (fun y hy => hw y (List.mem_cons_of_mem _ hy)) (by omega) h
   rw [v0j, r01, ih, Option.bind_some, s04 (hw x (List.mem_cons_self ..))]
   exact u0c (c00 hf rfl (by omega)) hv
theorem c0a {v : Int} {e : B0} (h : W04 v e ≠ 0) : e.1 = v ∨ e.2.2 = v := by
 unfold W04 at h
 by_cases c1 : e.1 = v
 ·exact .inl c1
 ·by_cases c2 : e.2.2 = v
  ·exact .inr c2
  ·rw [if_neg c1, if_neg c2] at h; omega
theorem y0b {v : Int} : ∀ {es : List B0}, (∀ e ∈ es, W04 v e = 0) → d01 v es = 0
 | [], h => rfl
 | e :: l, h => by
  show W04 v e + d01 v l = 0
  rw [h e (List.mem_cons_self ..), y0b fun d hd => h d (List.mem_cons_of_mem _ hd)]
theorem d0e {v : Int} : ∀ {es : List B0}, (∀ e ∈ es, W04 v e ≤ 1) → es.Pairwise (fun a b => W04 v a = 0 ∨ W04 v b = 0) → d01 v es ≤ 1
 | [], h, hp => Nat.zero_le _
 | e :: l, h, hp => by
  show W04 v e + d01 v l ≤ 1
  have h1 := h e (List.mem_cons_self ..)
  obtain ⟨hp1, hp2⟩ := List.pairwise_cons.1 hp
  have ih := d0e (fun d hd => h d (List.mem_cons_of_mem _ hd)) hp2
  by_cases c : W04 v e = 0
  ·omega
  ·have := y0b (v := v) (es := l) fun d hd => by
    rcases hp1 d hd with e1 | e1
    ·exact absurd e1 c
    ·exact e1
   omega
theorem R04 {g : j0} (hf : I0 g = true) {e : B0} (he : e ∈ g.2.2) : C0 g e.1 e.2.1 = e.2.2 ∧ C0 g e.2.2 (-e.2.1) = e.1 := by
 have hq := (U0 hf).1 e he
 exact ⟨w03 hf (O5.2 ⟨e, he, .inl ⟨by omega, rfl, rfl, rfl⟩⟩), w03 hf (O5.2 ⟨e, he, .inr ⟨by omega, by omega, rfl, rfl⟩⟩)⟩
theorem p0f {g : j0} (hf : I0 g = true) {v : Int} (hd : 2 ≤ d01 v g.2.2) (z : Int) : ∃ x, x ≠ z ∧ 0 ≤ C0 g v x := by
 refine Classical.byContradiction fun hno => ?_
 have hall : ∀ x, 0 ≤ C0 g v x → x = z := fun x h0 => Classical.byContradiction fun h => hno ⟨x, h, h0⟩
 obtain ⟨q1, q2, q3, q4⟩ := U0 hf
 have h1 : ∀ e ∈ g.2.2, e.1 = v → e.2.1 = z := fun e he h => by
  have := (R04 hf he).1
  rw [h] at this
  exact hall _ (by rw [this]; exact (q1 e he).2.1.1)
 have h2 : ∀ e ∈ g.2.2, e.2.2 = v → -e.2.1 = z := fun e he h => by
  have := (R04 hf he).2
  rw [h] at this
  exact hall _ (by rw [this]; exact (q1 e he).1.1)
 have hp : g.2.2.Pairwise fun a b => p01 a b = false := by
  unfold I0 at hf
  simp only [Bool.and_eq_true] at hf
  exact (N04 _).1 hf.2
 have := d0e (v := v) (es := g.2.2) (fun e he => by
  have hq := q1 e he
  unfold W04
  by_cases c1 : e.1 = v <;> by_cases c2 : e.2.2 = v
  ·have := h1 e he c1; have := h2 e he c2; omega
  ·rw [if_pos c1, if_neg c2]; omega
  ·rw [if_neg c1, if_pos c2]; omega
  ·rw [if_neg c1, if_neg c2]; omega) (List.Pairwise.imp_of_mem (fun {a b} ha hb hab => by
  have qa := q1 a ha
  have qb := q1 b hb
  unfold p01 at hab
  simp only [Bool.and_eq_false_iff, Bool.or_eq_false_iff, decide_eq_false_iff_not] at hab
  have a1 := h1 a ha
  have a2 := h2 a ha
  have b1 := h1 b hb
  have b2 := h2 b hb
  by_cases ha0 : W04 v a = 0
  ·exact .inl ha0
  ·by_cases hb0 : W04 v b = 0
   ·exact .inr hb0
   ·exfalso
    have ta := c0a ha0
    have tb := c0a hb0
    rcases ta with ta | ta <;> rcases tb with tb | tb
    ·have := a1 ta; have := b1 tb; omega
    ·have := a1 ta; have := b2 tb; omega
    ·have := a2 ta; have := b1 tb; omega
    ·have := a2 ta; have := b2 tb; omega) hp)
 omega
theorem V02 {g : j0} (h : j1 g = true) {v : Int} (h0 : 0 ≤ v) (h1 : v < g.2.1) : v ∈ Z1 g 0 := y0h (V2 h) (I07 h) h0 h1
theorem w0j {g : j0} (h : j1 g = true) {v : Int} (h0 : 0 < v) (h1 : v < g.2.1) : 2 ≤ d01 v g.2.2 := by
 have := y08 (I07 h) v.toNat (by omega) (by omega)
 unfold q0a at this
 simp only [Bool.or_eq_false_iff, decide_eq_false_iff_not] at this
 have h2 := this.1
 rw [show ((v.toNat : Nat) : Int) = v by omega] at h2
 omega
theorem z0b {u x v u' x' v' : Int} (h : stp u x v = stp u' x' v') : (u = u' ∧ x = x' ∧ v = v') ∨ (x = -x' ∧ u = v' ∧ v = u') := by
 unfold stp at h
 split at h <;> split at h <;> simp only [Prod.mk.injEq] at h <;> omega
theorem A0b {g : j0} {v x : Int} (h0 : 0 ≤ C0 g v x) : x ≠ 0 ∧ ∃ e ∈ g.2.2, e = stp v x (C0 g v x) ∧ ((0 < x ∧ e.2.1 = x ∧ e.1 = v ∧ e.2.2 = C0 g v x) ∨ (x < 0 ∧ e.2.1 = -x ∧ e.2.2 = v ∧ e.1 = C0 g v x)) := by
 rcases v03 g v x with ⟨e, _⟩ | e
 ·omega
 ·obtain ⟨d, hd, h1⟩ := O5.1 e
  obtain ⟨d0, d1, d2⟩ := d
  simp only at h1
  rcases h1 with ⟨a, b, c, e1⟩ | ⟨a, b, c, e1⟩
  ·refine ⟨by omega, _, hd, ?_, .inl ⟨a, b, c, e1.symm⟩⟩
   unfold stp
   rw [if_neg (by omega), ← b, ← c, b, c, ← e1]
  ·refine ⟨by omega, _, hd, ?_, .inr ⟨a, b, c, e1.symm⟩⟩
   unfold stp
   rw [if_pos a, ← e1, b, c]
theorem x0j {g : j0} (hc : j1 g = true) : ∀ (k : Nat) (v : Int), 0 < v → v < g.2.1 → 41 ≤ (tw g 0 v).length + k → ∃ u r, tw g 0 u = tw g 0 v ++ r ∧ ∃ e ∈ U7 g, e.1 = u ∨ e.2.2 = u
 | 0, v, h0, h1, hk => by
  have hf := V2 hc
  obtain ⟨q1, q2, q3, q4⟩ := U0 hf
  have := (J8 hf (p := 0) ⟨by omega, by omega⟩).len v
  omega
 | k + 1, v, h0, h1, hk => by
  have hf := V2 hc
  obtain ⟨q1, q2, q3, q4⟩ := U0 hf
  have hT := J8 hf (p := 0) ⟨by omega, by omega⟩
  obtain ⟨p, hp, x, hx, e1, e2⟩ := hT.par v (V02 hc (by omega) h1) (by omega)
  obtain ⟨x', hne, hn⟩ := p0f hf (w0j hc h0 h1) (-x)
  obtain ⟨hx0, d, hd, hds, hdc⟩ := A0b hn
  by_cases ht : d ∈ p00 g
  ·obtain ⟨z, hz, q, hq, l, hl, f1, f2, f3⟩ := (P04 hf).1 ht
   rw [hds] at f3
   rcases z0b f3 with ⟨g1, g2, g3⟩ | ⟨g1, g2, g3⟩
   ·have hzr := (J7 hf (p := 0) ⟨by omega, by omega⟩).2 z hz
    rw [← g1, ← g2] at f2
    have hz0 : z ≠ 0 := fun c => by rw [c, hT.z] at f2; simp at f2
    obtain ⟨u, r, hu, he⟩ := x0j hc k z (by omega) (by omega) (by rw [f2]; simp; omega)
    exact ⟨u, [x'] ++ r, by rw [hu, f2, List.append_assoc], he⟩
   ·exfalso
    rw [← g2, e2] at f2
    have := congrArg a0e f2
    rw [U02, U02] at this
    omega
  ·refine ⟨v, [], by simp, d, E00.2 ⟨hd, ht⟩, ?_⟩
   rcases hdc with ⟨_, _, e, _⟩ | ⟨_, _, e, _⟩
   ·exact .inl e
   ·exact .inr e
theorem S01 {g : j0} (hc : j1 g = true) {v : Int} (h0 : 0 ≤ v) (h1 : v < g.2.1) : ∀ x ∈ tw g 0 v, E4 x ∧ x ≠ 0 := fun x hx => by
 have hf := V2 hc
 obtain ⟨q1, q2, q3, q4⟩ := U0 hf
 have hT := J8 hf (p := 0) ⟨by omega, by omega⟩
 have := v01 (by omega) (hT.let (V02 hc h0 h1) x hx)
 exact ⟨this.1, this.2.1⟩
theorem o0l {g : j0} (hc : j1 g = true) {e : B0} (he : e ∈ U7 g) : Red (bw g e).reverse = true := by
 have hf := V2 hc
 obtain ⟨q1, q2, q3, q4⟩ := U0 hf
 obtain ⟨he1, he2⟩ := E00.1 he
 have hT := J8 hf (p := 0) ⟨by omega, by omega⟩
 have hq := q1 e he1
 obtain ⟨n1, n2⟩ := R04 hf he1
 have ho1 := V02 hc hq.1.1 hq.1.2
 have ho2 := V02 hc hq.2.1.1 hq.2.1.2
 have hxm : E4 e.2.1 := ⟨⟨by omega, by omega⟩, by omega⟩
 have hst : stp e.1 e.2.1 e.2.2 = e := by unfold stp; rw [if_neg (by omega)]
 have hst2 : stp e.2.2 (-e.2.1) e.1 = e := by unfold stp; rw [if_pos (by omega), Int.neg_neg]
 unfold bw
 rw [List.reverse_append, List.reverse_append, l0k, List.reverse_singleton, A08, A08]
 refine ⟨u0j _ (S01 hc hq.2.1.1 hq.2.1.2) (hT.red _ ho2), ⟨rfl, hT.red _ ho1, fun a b ha hb => ?_⟩, fun a b ha hb => ?_⟩
 ·simp only [List.getLast?_singleton, Option.some.injEq] at ha
  subst ha
  cases hcc : T02 b e.2.1 with
  | false => rfl
  | true =>
   exfalso
   have hz : e.1 ≠ 0 := fun c => by rw [c, hT.z] at hb; simp at hb
   obtain ⟨q, hq', l, hl, f1, f2⟩ := hT.par _ ho1 hz
   rw [f2, List.reverse_append] at hb
   simp at hb
   subst hb
   have hlo := v01 (by omega) hl
   have hxl := (P06 hlo.1 hlo.2.1).1 hcc
   have hb := c00 hf f1 hq.1.1
   rw [← hxl, n1] at hb
   refine he2 ((P04 hf).2 ⟨e.1, ho1, q, hq', l, hl, f1, f2, ?_⟩)
   rw [← hb, show l = -e.2.1 by omega]; exact hst2.symm
 ·simp only [List.cons_append, List.nil_append, List.head?_cons, Option.some.injEq] at hb
  subst hb
  cases hcc : T02 e.2.1 a with
  | false => rfl
  | true =>
   exfalso
   have hz : e.2.2 ≠ 0 := fun c => by rw [c, hT.z] at ha; simp at ha
   obtain ⟨q, hq', l, hl, f1, f2⟩ := hT.par _ ho2 hz
   rw [f2, List.map_append] at ha
   simp at ha
   have hlo := v01 (by omega) hl
   have hxl := (P06 hxm (by omega)).1 hcc
   rw [← ha, s04 hlo.1] at hxl
   have hl2 : l = e.2.1 := by omega
   have hb := c00 hf f1 hq.2.1.1
   rw [hl2, n2] at hb
   refine he2 ((P04 hf).2 ⟨e.2.2, ho2, q, hq', l, hl, f1, f2, ?_⟩)
   rw [← hb, hl2]; exact hst.symm
theorem E0h {g : j0} (hc : j1 g = true) {e : B0} (he : e ∈ g.2.2) : ∀ x ∈ bw g e, E4 x := fun x hx => by
 obtain ⟨q1, q2, q3, q4⟩ := U0 (V2 hc)
 have hq := q1 e he
 unfold bw at hx
 rcases List.mem_append.1 hx with hx | hx
 ·rcases List.mem_append.1 hx with hx | hx
  ·exact (S01 hc hq.1.1 hq.1.2 x hx).1
  ·simp at hx; subst hx
   exact ⟨⟨by omega, by omega⟩, by omega⟩
 ·exact I0g (fun y hy => (S01 hc hq.2.1.1 hq.2.1.2 y hy).1) x hx
theorem d0a {g : j0} (hc : j1 g = true) {e : B0} (he : e ∈ U7 g) : (W9 [] (W9 [] (bw g e)).reverse).reverse = bw g e ∧ (W9 [] (bw g e)).reverse = bw g e := by
 have h1 := s0b _ (o0l hc he)
 rw [List.reverse_reverse] at h1
 have h2 : (W9 [] (bw g e)).reverse = bw g e := by rw [h1, List.reverse_reverse]
 exact ⟨by rw [h2, h2], h2⟩
def K8 (b : j0) (ws : List (List Int)) : Bool := j1 b && ws.all fun w => U00 b (W9 [] w).reverse
theorem q0f {a b : j0} (ca : j1 a = true) (cb : j1 b = true) {e : B0} (he : e ∈ U7 a) (h : U00 b (W9 [] (W9 [] (bw a e)).reverse).reverse = true) : ∃ y1 y2, rdw b 0 (tw a 0 e.1) = some y1 ∧ C0 b y1 e.2.1 = y2 ∧ 0 ≤ y2 ∧ rdw b 0 (tw a 0 e.2.2) = some y2 := by
 have fb := V2 cb
 obtain ⟨q1, q2, q3, q4⟩ := U0 (V2 ca)
 obtain ⟨p1, p2, p3, p4⟩ := U0 fb
 have hq := q1 e (E00.1 he).1
 rw [(d0a ca he).1, H07] at h
 unfold bw at h
 rw [r01, r01] at h
 cases e1 : rdw b 0 (tw a 0 e.1) with
 | none => rw [e1] at h; cases h
 | some y1 =>
  rw [e1, Option.bind_some] at h
  cases e2 : rdw b y1 [e.2.1] with
  | none => rw [e2] at h; cases h
  | some y2 =>
   rw [e2, Option.bind_some] at h
   have hr1 := Q04 p1 _ _ _ ⟨by omega, by omega⟩ e1
   have hr2 := Q04 p1 _ _ _ hr1 e2
   have hl := S01 ca hq.2.1.1 hq.2.1.2
   have h3 := v0c fb _ _ _ (I0g fun x hx => (hl x hx).1) hr2.1 h
   rw [m0k fun x hx => (hl x hx).1] at h3
   refine ⟨y1, y2, rfl, ?_, hr2.1, h3⟩
   unfold rdw at e2
   by_cases c : C0 b y1 e.2.1 < 0
   ·rw [if_pos c] at e2; cases e2
   ·rw [if_neg c] at e2
    simpa only [rdw, Option.some.injEq] using e2
theorem F0h {a b : j0} (ca : j1 a = true) (cb : j1 b = true) (h : ∀ e ∈ U7 a, U00 b (W9 [] (W9 [] (bw a e)).reverse).reverse = true) : ∃ f, Mor a b f := by
 have fa := V2 ca
 have fb := V2 cb
 obtain ⟨q1, q2, q3, q4⟩ := U0 fa
 obtain ⟨p1, p2, p3, p4⟩ := U0 fb
 have hT := J8 fa (p := 0) ⟨by omega, by omega⟩
 have hex : ∀ e ∈ U7 a, ∃ y1 y2, rdw b 0 (tw a 0 e.1) = some y1 ∧ C0 b y1 e.2.1 = y2 ∧ 0 ≤ y2 ∧ rdw b 0 (tw a 0 e.2.2) = some y2 := fun e he => q0f ca cb he (h e he)
 have hrd : ∀ v, 0 ≤ v → v < a.2.1 → ∃ y, rdw b 0 (tw a 0 v) = some y := fun v h0 h1 => by
  by_cases c : v = 0
  ·rw [c, hT.z]; exact ⟨0, rfl⟩
  ·obtain ⟨u, r, hu, e, he, heu⟩ := x0j ca 41 v (by omega) h1 (by omega)
   obtain ⟨y1, y2, r1, r2, r3, r4⟩ := hex e he
   have : ∃ y, rdw b 0 (tw a 0 u) = some y := by
    rcases heu with rfl | rfl
    ·exact ⟨y1, r1⟩
    ·exact ⟨y2, r4⟩
   obtain ⟨y, hy⟩ := this
   rw [hu, r01] at hy
   cases e1 : rdw b 0 (tw a 0 v) with
   | none => rw [e1] at hy; cases hy
   | some z => exact ⟨z, rfl⟩
 let f : Int → Int := fun v => (rdw b 0 (tw a 0 v)).getD 0
 have hf : ∀ v, 0 ≤ v → v < a.2.1 → rdw b 0 (tw a 0 v) = some (f v) := fun v h0 h1 => by
  obtain ⟨y, hy⟩ := hrd v h0 h1
  show _ = some ((rdw b 0 (tw a 0 v)).getD 0)
  rw [hy]; rfl
 have hrng : ∀ v, 0 ≤ v → v < a.2.1 → 0 ≤ f v ∧ f v < b.2.1 := fun v h0 h1 => Q04 p1 _ _ _ ⟨by omega, by omega⟩ (hf v h0 h1)
 have hedge : ∀ e ∈ a.2.2, C0 b (f e.1) e.2.1 = f e.2.2 := fun e he => by
  have hq := q1 e he
  by_cases ht : e ∈ p00 a
  ·obtain ⟨z, hz, q, hqo, l, hl, f1, f2, f3⟩ := (P04 fa).1 ht
   have hzr := (J7 fa (p := 0) ⟨by omega, by omega⟩).2 z hz
   have hqr := (J7 fa (p := 0) ⟨by omega, by omega⟩).2 q hqo
   have hs : C0 b (f q) l = f z := by
    have h1 := hf z hzr.1 (by omega)
    rw [f2, r01, hf q hqr.1 (by omega), Option.bind_some] at h1
    unfold rdw at h1
    by_cases c : C0 b (f q) l < 0
    ·rw [if_pos c] at h1; cases h1
    ·rw [if_neg c] at h1
     simpa only [rdw, Option.some.injEq] using h1
   have hst : stp e.1 e.2.1 e.2.2 = e := by unfold stp; rw [if_neg (by omega)]
   rw [← hst] at f3
   rcases z0b f3 with ⟨g1, g2, g3⟩ | ⟨g1, g2, g3⟩
   ·rw [g1, g2, g3]; exact hs
   ·rw [g1, g2, g3]
    exact c00 fb hs (hrng z hzr.1 (by omega)).1
  ·obtain ⟨y1, y2, r1, r2, r3, r4⟩ := hex e (E00.2 ⟨he, ht⟩)
   have h1 := hf e.1 hq.1.1 hq.1.2
   have h2 := hf e.2.2 hq.2.1.1 hq.2.1.2
   rw [r1] at h1
   rw [r4] at h2
   injection h1 with h1
   injection h2 with h2
   rw [← h1, ← h2]; exact r2
 refine ⟨f, ?_, hrng, fun v x h0 h1 hx => ?_⟩
 ·show (rdw b 0 (tw a 0 0)).getD 0 = 0
  rw [hT.z]; rfl
 ·obtain ⟨hx0, d, hd, hds, hdc⟩ := A0b hx
  have hq := q1 d hd
  have hE := hedge d hd
  rcases hdc with ⟨k1, k2, k3, k4⟩ | ⟨k1, k2, k3, k4⟩
  ·rw [k2, k3, k4] at hE; exact hE
  ·rw [k2, k3, k4] at hE
   have := c00 fb hE (hrng v h0 h1).1
   rwa [Int.neg_neg] at this
theorem G0h {a b : j0} (ca : j1 a = true) {f : Int → Int} (m : Mor a b f) {e : B0} (he : e ∈ U7 a) : U00 b (W9 [] (W9 [] (bw a e)).reverse).reverse = true := by
 have fa := V2 ca
 obtain ⟨q1, q2, q3, q4⟩ := U0 fa
 have hT := J8 fa (p := 0) ⟨by omega, by omega⟩
 have he1 := (E00.1 he).1
 have hq := q1 e he1
 rw [(d0a ca he).1]
 refine m.loop fa ?_
 rw [H07]
 unfold bw
 rw [r01, r01, hT.rd fa ⟨by omega, by omega⟩ (V02 ca hq.1.1 hq.1.2), Option.bind_some, u0c (R04 fa he1).1 hq.2.1.1, Option.bind_some]
 exact v0c fa _ _ _ (fun x hx => (S01 ca hq.2.1.1 hq.2.1.2 x hx).1) (Int.le_refl 0) (hT.rd fa ⟨by omega, by omega⟩ (V02 ca hq.2.1.1 hq.2.1.2))
theorem e0e (a b : j0) : (j1 a && j1 b && decide (a.1 = b.1) && K8 b (J9 a)) = p6 a b := by
 rw [Bool.eq_iff_iff]
 constructor
 ·intro h
  unfold K8 J9 at h
  simp only [Bool.and_eq_true, decide_eq_true_eq, List.all_eq_true, List.mem_map] at h
  obtain ⟨⟨⟨ca, cb⟩, hr⟩, _, h⟩ := h
  obtain ⟨f, m⟩ := F0h ca cb fun e he => h _ ⟨e, he, rfl⟩
  exact o0f ca cb hr m
 ·intro h
  obtain ⟨f, m⟩ := m0f h
  unfold p6 at h
  unfold K8 J9
  simp only [Bool.and_eq_true, decide_eq_true_eq, List.all_eq_true, List.mem_map] at h ⊢
  obtain ⟨⟨⟨ca, cb⟩, hr⟩, hs⟩ := h
  refine ⟨⟨⟨ca, cb⟩, hr⟩, cb, ?_⟩
  rintro w ⟨e, he, rfl⟩
  exact G0h ca m he
end Go.Proofs.YtknoadmdnjaocaaGreat
namespace Go.Proofs.YtknoadmdnjaocaaGreat
open Go.H
set_option linter.unusedVariables false
set_option linter.unusedSimpArgs false
theorem n0k {g : j0} (hf : I0 g = true) {w : List Int} (hw : ∀ x ∈ w, E4 x) (hl : w.length ≤ 140737488355328) : r7 g w = some (U00 g w) := by
 obtain ⟨q1, q2, q3, q4⟩ := U0 hf
 have h2 := g0l g q1 q3.2 (by omega) 0 w hw hl
 have h5 := G0d q1 q3.2 w 0 ⟨by omega, by omega⟩
 have h6 := B09 g w 0
 unfold U00
 obtain ⟨a, b, c⟩ := g
 unfold r7
 simp only [h2, Option.bind_some]
 rw [H0 h5, Option.bind_some, H0 (show P0 (((Y8 (a, b, c) 0 w).2 : Nat) : Int) from ⟨by omega, by omega⟩), Option.bind_some]
 by_cases d : (Y8 (a, b, c) 0 w).2 = w.length
 ·rw [decide_eq_true d, show decide ((((Y8 (a, b, c) 0 w).2 : Nat) : Int) = ((w.length : Nat) : Int)) = true from decide_eq_true (by omega)]
  simp
 ·rw [decide_eq_false d, show decide ((((Y8 (a, b, c) 0 w).2 : Nat) : Int) = ((w.length : Nat) : Int)) = false from decide_eq_false (by omega)]
  simp
theorem w0c (w : List Int) (hl : w.length ≤ 1099511627776) : N6 w = some (W9 [] w).reverse := by
 unfold N6
 rw [n05 [w] (by simp) (by simp only [B0h]; omega)]
 rfl
theorem e0a {w : List Int} (hw : ∀ x ∈ w, E4 x) : ∀ x ∈ (W9 [] w).reverse, E4 x := fun x hx => by
 rcases c0e w [] (List.mem_reverse.1 hx) with h | h
 ·cases h
 ·exact hw x h
theorem y0j {g : j0} (hf : I0 g = true) (ws : List (List Int)) (hw : ∀ w ∈ ws, (∀ x ∈ w, E4 x) ∧ w.length ≤ 1099511627776) (hl : ws.length ≤ 1099511627776) : ∀ (d k fuel : Nat), k + d = ws.length → d < fuel →
  l4 ws g.1 g.2.1 g.2.2 fuel (k : Int) = some (bif (ws.drop k).all fun w => U00 g (W9 [] w).reverse then .inr () else .inl false)
 | d, k, 0, hd, hfu => by omega
 | 0, k, fuel + 1, hd, hfu => by
  rw [l4.eq_2, if_neg (by simp only [decide_eq_true_eq]; omega), Y1 (by omega)]; rfl
 | d + 1, k, fuel + 1, hd, hfu => by
  have hk : k < ws.length := by omega
  have hx := P6 hk
  have hm := hw _ (List.mem_of_getElem? hx)
  have hdr := O2 hx
  generalize ws[k] = w at hx hm hdr
  have hlr := L06 w []
  have ih := y0j hf ws hw hl d (k + 1) fuel (by omega) (by omega)
  rw [l4.eq_2, if_pos (by simp only [decide_eq_true_eq]; omega), R3 hx, Option.bind_some, w0c w hm.2, Option.bind_some, show (g.1, g.2.1, g.2.2) = g from rfl, n0k hf (e0a hm.1) (by rw [List.length_reverse]; simp only [List.length_nil] at hlr; omega), Option.bind_some, L2 hk (by omega), ih, hdr, List.all_cons]
  cases U00 g (W9 [] w).reverse <;> rfl
theorem s0a (b : j0) (hlb : b.2.2.length ≤ 140737488355328) (ws : List (List Int)) (hw : ∀ w ∈ ws, (∀ x ∈ w, E4 x) ∧ w.length ≤ 1099511627776) (hl : ws.length ≤ 1099511627776) : r6 b ws = some (K8 b ws) := by
 have h1 := m00 b hlb
 have hL : j1 b = true → _ := fun c => y0j (V2 c) ws hw hl ws.length 0 T0 (by omega) (M1 (by omega))
 rw [show ((0 : Nat) : Int) = 0 from rfl, List.drop_zero] at hL
 unfold K8
 obtain ⟨a, b, c⟩ := b
 unfold r6
 simp only [h1, Option.bind_some]
 cases cb : j1 (a, b, c) with
 | false => rfl
 | true =>
  have := hL cb
  simp only at this
  simp only [Bool.not_true, Bool.false_eq_true, if_false, this, Option.bind_some, Bool.true_and]
  cases ws.all fun w => U00 (a, b, c) (W9 [] w).reverse <;> rfl
theorem f0a {g : j0} (hc : j1 g = true) : (∀ w ∈ J9 g, (∀ x ∈ w, E4 x) ∧ w.length ≤ 81) ∧ (J9 g).length ≤ 120 := by
 obtain ⟨q1, q2, q3, q4⟩ := U0 (V2 hc)
 refine ⟨fun w hw => ?_, ?_⟩
 ·unfold J9 at hw
  obtain ⟨e, he, rfl⟩ := List.mem_map.1 hw
  refine ⟨e0a (E0h hc (E00.1 he).1), ?_⟩
  have h1 := L06 (bw g e) []
  have h2 := n0l (V2 hc) e
  rw [List.length_reverse]
  simp only [List.length_nil] at h1
  omega
 ·unfold J9
  rw [List.length_map]
  have : (U7 g).length ≤ g.2.2.length := List.length_filter_le _ _
  omega
theorem g0a (a b : j0) (hla : a.2.2.length ≤ 140737488355328) (hlb : b.2.2.length ≤ 140737488355328) : E8 a b = some (p6 a b) := by
 have h1 := m00 a hla
 have h2 := m00 b hlb
 have h3 : j1 a = true → n8 a = some (J9 a) := fun c => j0k c
 have h4 : j1 a = true → r6 b (J9 a) = some (K8 b (J9 a)) := fun c => s0a b hlb _ (fun w hw => ⟨((f0a c).1 w hw).1, by have := ((f0a c).1 w hw).2; omega⟩) (by have := (f0a c).2; omega)
 rw [← e0e]
 obtain ⟨a0, a1, a2⟩ := a
 obtain ⟨b0, b1, b2⟩ := b
 unfold E8
 simp only [h1, Option.bind_some]
 cases ca : j1 (a0, a1, a2) with
 | false => rfl
 | true =>
  simp only [Z2, h2, Option.bind_some, cond_true, Bool.true_and]
  cases cb : j1 (b0, b1, b2) with
  | false => rfl
  | true =>
   simp only [cond_true, Bool.true_and]
   by_cases hr : a0 = b0
   ·simp only [decide_eq_true hr, Z2, cond_true, h3 ca, Option.bind_some, h4 ca, Bool.true_and]
   ·simp only [decide_eq_false hr, J2, cond_false, Option.bind_some, Bool.false_and]
def zG : j0 := (0, 0, [])
def K7 (x : L1) (s : ByteArray) : j0 × Bool := match H05 x s with
 | some i => match x.2[i]? with
  | some e => (e.2, true)
  | none => (zG, false)
 | none => (zG, false)
theorem x0c (x : L1) (s : ByteArray) (hl : R01 x.2) : G9 x s = some (K7 x s) := by
 have h1 := hl.1
 have hf := l0l x s (by omega)
 have hlt := fun i => @g0k x s i
 obtain ⟨r, l⟩ := x
 unfold G9 K7
 simp only at h1 hlt
 simp only [hf, Option.bind_some]
 cases hq : H05 (r, l) s with
 | none =>
  simp only [H0 (show P0 (-1) by decide), Option.bind_some]
  rfl
 | some i =>
  have hi := hlt i hq
  have hx := P6 hi
  have hm := hl.2 _ (List.mem_of_getElem? hx)
  generalize l[i] = e at hx hm
  obtain ⟨nm, g0, g1, g2⟩ := e
  have e0 : decide ((i : Int) < 0) = false := decide_eq_false (by omega)
  have hc := G09 (g0, g1, g2) (by simp only at hm ⊢; omega)
  simp only [H0 (show P0 (i : Int) from c64 (by omega) (by omega)), Option.bind_some, e0, R3 hx, hc, hx]
  rfl
theorem J0g (l : n3) (s : ByteArray) (hl : R01 l) : ∀ (d k fuel : Nat), k + d = l.length → d < fuel →
  W5 l s fuel (k : Int) = some (match fnd s l d k with | some i => (match l[i]? with | some e => .inl (e.2, true) | none => .inr ()) | none => .inr ())
 | d, k, 0, hd, hf => by omega
 | 0, k, fuel + 1, hd, hf => by
  rw [W5.eq_2, if_neg (by simp only [decide_eq_true_eq]; omega)]; rfl
 | d + 1, k, fuel + 1, hd, hf => by
  have hk : k < l.length := by omega
  have he := P6 hk
  have hm := hl.2 _ (List.mem_of_getElem? he)
  generalize l[k] = e at he hm
  obtain ⟨nm, r2, n, es⟩ := e
  have ih := J0g l s hl d (k + 1) fuel (by omega) (by omega)
  have hc := X0e (r2, n, es) (by simp only at hm ⊢; omega)
  have := hl.1
  rw [W5.eq_2, if_pos (by simp only [decide_eq_true_eq]; omega)]
  simp only [R3 he, Option.bind_some, L2 hk (show l.length ≤ 9223372036854775807 by omega), ih, fnd, he, hc]
  cases h0c nm s
  ·rfl
  ·simp only [if_true, cond_true, he]
theorem y0c (x : L1) (s : ByteArray) (hl : R01 x.2) : F9 x s = some (K7 x s) := by
 have h1 := hl.1
 obtain ⟨r, l⟩ := x
 have h := J0g l s hl l.length 0 T0 (by omega) (M1 (by simp only at h1; omega))
 rw [show ((0 : Nat) : Int) = 0 from rfl] at h
 unfold F9 K7 H05
 simp only [h, Option.bind_some]
 cases fnd s l l.length 0 with
 | none => rfl
 | some i =>
  simp only
  cases l[i]? with
  | none => rfl
  | some e => rfl
theorem h0a {x : L1} {s : ByteArray} (hl : R01 x.2) : (K7 x s).1.2.2.length ≤ 1048576 := by
 unfold K7
 cases H05 x s with
 | none => simp [zG]
 | some i =>
  simp only
  cases e : x.2[i]? with
  | none => simp [zG]
  | some d => have := hl.2 d (List.mem_of_getElem? e); simp only; omega
def T01 (g : j0) : n3 → List ByteArray
 | [] => []
 | e :: l => bif p6 e.2 g then e.1 :: T01 g l else T01 g l
def E2 (x : L1) (s : ByteArray) : List ByteArray := bif (K7 x s).2 && d7 x then T01 (K7 x s).1 x.2 else []
theorem f0e (g : j0) (hg : g.2.2.length ≤ 1048576) (l : n3) (hl : R01 l) : ∀ (d k fuel : Nat) (acc : List ByteArray), k + d = l.length → d < fuel → acc.length ≤ k →
  N3 l g.1 g.2.1 g.2.2 fuel (k : Int) acc = some (acc ++ T01 g (l.drop k))
 | d, k, 0, acc, hd, hf, ha => by omega
 | 0, k, fuel + 1, acc, hd, hf, ha => by
  rw [N3.eq_2, if_neg (by simp only [decide_eq_true_eq]; omega), Y1 (by omega)]; simp [T01]
 | d + 1, k, fuel + 1, acc, hd, hf, ha => by
  have hk : k < l.length := by omega
  have he := P6 hk
  have hm := hl.2 _ (List.mem_of_getElem? he)
  have hdr := O2 he
  generalize l[k] = e at he hm hdr
  obtain ⟨nm, r2, n, es⟩ := e
  simp only at hm
  have h1 := hl.1
  have ih := fun acc' h => f0e g hg l hl d (k + 1) fuel acc' (by omega) (by omega) h
  have hin := g0a (r2, n, es) g (by simp only; omega) (by omega)
  rw [N3.eq_2, if_pos (by simp only [decide_eq_true_eq]; omega)]
  simp only [R3 he, Option.bind_some, show (g.1, g.2.1, g.2.2) = g from rfl, hin, L2 hk (show l.length ≤ 9223372036854775807 by omega), hdr, T01]
  cases p6 (r2, n, es) g
  ·simp only [Bool.false_eq_true, if_false, cond_false]
   exact ih acc (by omega)
  ·simp only [if_true, cond_true]
   rw [H0 (by simp; omega), Option.bind_some, ih _ (by simp; omega)]
   simp
theorem g0e (x : L1) (s : ByteArray) (hl : R01 x.2) : w8 x s = some (E2 x s) := by
 have h1 := x0c x s hl
 have h2 := k08 x hl.ok
 have h3 := h0a (s := s) hl
 have h4 := hl.1
 have hL := f0e (K7 x s).1 h3 x.2 hl x.2.length 0 T0 [] (by omega) (M1 (by omega)) (by simp)
 rw [show ((0 : Nat) : Int) = 0 from rfl, List.drop_zero, List.nil_append] at hL
 unfold E2
 obtain ⟨r, l⟩ := x
 generalize K7 (r, l) s = q at h1 hL ⊢
 obtain ⟨⟨g0, g1, g2⟩, is⟩ := q
 unfold w8
 simp only at hL
 simp only [h1, Option.bind_some]
 cases is
 ·rfl
 ·simp only [Bool.not_true, Bool.not_false, Z2, h2, Option.bind_some, cond_false, Bool.true_and]
  cases d7 (r, l)
  ·rfl
  ·simp only [Bool.not_true, Bool.false_eq_true, if_false, cond_true, hL, Option.bind_some]
theorem h0e (g : j0) (hg : g.2.2.length ≤ 1048576) (r : Int) (l : n3) (hl : R01 l) (hL : d7 (r, l) = true) : ∀ (d k fuel : Nat) (acc : List ByteArray), k + d = l.length → d < fuel → acc.length ≤ k →
  P2 l true r g.1 g.2.1 g.2.2 fuel (k : Int) acc = some (acc ++ T01 g (l.drop k))
 | d, k, 0, acc, hd, hf, ha => by omega
 | 0, k, fuel + 1, acc, hd, hf, ha => by
  have hc : decide ((k : Int) < ((l.length : Nat) : Int)) = false := decide_eq_false (by omega)
  rw [P2.eq_2]
  simp only [hc, cond_false, J2, Option.bind_some, Bool.false_eq_true, if_false]
  rw [Y1 (by omega)]; simp [T01]
 | d + 1, k, fuel + 1, acc, hd, hf, ha => by
  have hk : k < l.length := by omega
  have he := P6 hk
  have hm := hl.2 _ (List.mem_of_getElem? he)
  have hdr := O2 he
  generalize l[k] = e at he hm hdr
  obtain ⟨nm, r2, n, es⟩ := e
  simp only at hm
  have h1 := hl.1
  have ih := fun acc' h => h0e g hg r l hl hL d (k + 1) fuel acc' (by omega) (by omega) h
  have hin := W09 (r2, n, es) g (by simp only; omega) (by omega)
  have hc : decide ((k : Int) < ((l.length : Nat) : Int)) = true := decide_eq_true (by omega)
  have hlib := A03 (r, l) hl.ok
  rw [hL] at hlib
  rw [P2.eq_2]
  simp only [hc, cond_true, Z2, hlib, if_true, R3 he, Option.bind_some, show (g.1, g.2.1, g.2.2) = g from rfl, hin, L2 hk (show l.length ≤ 9223372036854775807 by omega), hdr, T01]
  cases p6 (r2, n, es) g
  ·simp only [Bool.false_eq_true, if_false, cond_false]
   exact ih acc (by omega)
  ·simp only [if_true, cond_true]
   rw [H0 (by simp; omega), Option.bind_some, ih _ (by simp; omega)]
   simp
theorem i0e (x : L1) (s : ByteArray) (hl : R01 x.2) : t8 x s = some (E2 x s) := by
 have h1 := y0c x s hl
 have h2 := A03 x hl.ok
 have h3 := h0a (s := s) hl
 have h4 := hl.1
 have hL : d7 x = true → _ := fun c => h0e (K7 x s).1 h3 x.1 x.2 hl c x.2.length 0 T0 [] (by omega) (M1 (by omega)) (by simp)
 rw [show ((0 : Nat) : Int) = 0 from rfl, List.drop_zero, List.nil_append] at hL
 unfold E2
 obtain ⟨r, l⟩ := x
 generalize K7 (r, l) s = q at h1 hL ⊢
 obtain ⟨⟨g0, g1, g2⟩, is⟩ := q
 unfold t8
 simp only at hL
 simp only [h1, Option.bind_some]
 have hF : ∃ f, T0 = f + 1 := ⟨T0 - 1, by unfold T0; omega⟩
 obtain ⟨f, ef⟩ := hF
 cases is
 ·rw [ef, P2.eq_2]
  have : (bif decide ((0 : Int) < ((l.length : Nat) : Int)) then false else false) = false := by cases decide ((0 : Int) < ((l.length : Nat) : Int)) <;> rfl
  simp only [this, J2, Option.bind_some, cond_false, Bool.false_eq_true, if_false, Bool.false_and]
 ·cases cl : d7 (r, l)
  ·rw [ef, P2.eq_2]
   rw [cl] at h2
   cases decide ((0 : Int) < ((l.length : Nat) : Int))
   ·rfl
   ·simp only [cond_true, Z2, h2, Option.bind_some, cond_false, Bool.false_eq_true, if_false, Bool.and_false]
  ·simp only [hL cl, Option.bind_some, Bool.and_self, cond_true]
end Go.Proofs.YtknoadmdnjaocaaGreat
