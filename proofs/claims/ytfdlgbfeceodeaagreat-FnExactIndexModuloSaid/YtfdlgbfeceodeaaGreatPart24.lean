/- Texts of the claim, joined: Plain laws: what folding computes, of the spec and of the code; Plain laws: paths, vertices and edges added; the steps that are missin; Plain laws: vertices and edges added; the steps that are missing; Plain laws: one step of the coset enumeration; Plain laws: trimming and the core of a folded graph; Plain laws: flowers of words, and the enumeration of cosets. -/
import Derived.Test.YtfdlgbfeceodeaaGreatPart23
import Derived.Test.YtfdlgbfeceodeaaGreatPart18
namespace Go.Proofs.YtfdlgbfeceodeaaGreat
open Go.H
set_option linter.unusedVariables false
set_option linter.unusedSimpArgs false
theorem d0c (l : List C0) (a0 a1 a2 : Int) (hl : l.length ≤ 1000) : ∀ (d k fuel : Nat) (acc : List f4), k + d = l.length → d < fuel → acc.length + 2 * d ≤ 4000000 →
  E4 l a1 a0 a2 fuel (k : Int) acc = some (acc ++ G00 (a0, a1, a2) (l.drop k))
 | d, k, 0, acc, hd, hf, ha => by omega
 | 0, k, fuel + 1, acc, hd, hf, ha => by
  rw [E4.eq_2, if_neg (by simp; omega), E1 (by omega)]
  simp [G00]
 | d + 1, k, fuel + 1, acc, hd, hf, ha => by
  have hk : k < l.length := by omega
  have hx := W5 hk
  generalize l[k] = b at hx
  obtain ⟨b0, b1, b2⟩ := b
  have ih : ∀ acc' : List f4, acc'.length + 2 * d ≤ 4000000 → E4 l a1 a0 a2 fuel ((k + 1 : Nat) : Int) acc' = some (acc' ++ G00 (a0, a1, a2) (l.drop (k + 1))) := fun acc' h => d0c l a0 a1 a2 hl d (k + 1) fuel acc' (by omega) (by omega) h
  rw [E4.eq_2, if_pos (by simp; omega), N3 hx, Option.bind_some, A2 hk (by omega), K1 hx]
  simp only [G00, w07]
  cases decide (a1 = b1)
  ·simp only [Bool.not_false, if_true, cond_false, List.nil_append]
   exact ih acc (by omega)
  ·cases decide (a0 = b0) <;> cases decide (a2 = b2)
   all_goals simp only [Bool.not_true, Bool.false_eq_true, if_false, if_true, cond_true, cond_false, List.nil_append, List.append_nil]
   ·exact ih acc (by omega)
   ·rw [N0 (by simp; omega), Option.bind_some, ih _ (by simp; omega)]; simp
   ·rw [N0 (by simp; omega), Option.bind_some, ih _ (by simp; omega)]; simp
   ·rw [N0 (by simp; omega), Option.bind_some, N0 (by simp; omega), Option.bind_some, ih _ (by simp; omega)]; simp
theorem e0c (l : List C0) (hl : l.length ≤ 1000) : ∀ (d k fuel : Nat) (acc : List f4), k + d = l.length → d < fuel → acc.length + 2000 * d ≤ 3000000 →
  C7 l fuel (k : Int) acc = some (acc ++ j7 (l.drop k))
 | d, k, 0, acc, hd, hf, ha => by omega
 | 0, k, fuel + 1, acc, hd, hf, ha => by
  rw [C7.eq_2, if_neg (by simp; omega), E1 (by omega)]
  simp [j7]
 | d + 1, k, fuel + 1, acc, hd, hf, ha => by
  have hk : k < l.length := by omega
  have hx := W5 hk
  generalize l[k] = b at hx
  obtain ⟨b0, b1, b2⟩ := b
  have h0 := d0c (l.drop (k + 1)) b0 b1 b2 (by simp; omega) (l.length - (k + 1)) 0 S0 acc (by simp) (W0 (by omega)) (by omega)
  have hr := q08 (b0, b1, b2) (l.drop (k + 1))
  simp only [List.length_drop] at hr
  rw [C7.eq_2, if_pos (by simp; omega), N3 hx, Option.bind_some]
  simp only [A2 hk (show l.length ≤ 9223372036854775807 by omega)]
  rw [p06 (by omega), Option.bind_some, show (0 : Int) = ((0 : Nat) : Int) from rfl, h0, Option.bind_some, e0c l hl d (k + 1) fuel _ (by omega) (by omega) (by simp only [List.length_append, List.drop_zero, List.length_drop] at hr ⊢; omega), K1 hx, j7]
  simp
theorem f0c (l : List C0) (hl : l.length ≤ 1000) (i : Nat) (a0 a1 a2 : Int) (hi : l[i]? = some (a0, a1, a2)) : ∀ (d k fuel : Nat) (acc : List f4), k + d = l.length → d < fuel → acc.length + 2 * d ≤ 4000000 →
  Q3 l (i : Int) fuel (k : Int) acc = some (acc ++ G00 (a0, a1, a2) (l.drop k))
 | d, k, 0, acc, hd, hf, ha => by omega
 | 0, k, fuel + 1, acc, hd, hf, ha => by
  rw [Q3.eq_2, if_neg (by simp; omega), E1 (by omega)]
  simp [G00]
 | d + 1, k, fuel + 1, acc, hd, hf, ha => by
  have hk : k < l.length := by omega
  have hx := W5 hk
  generalize l[k] = b at hx
  obtain ⟨b0, b1, b2⟩ := b
  have ih : ∀ acc' : List f4, acc'.length + 2 * d ≤ 4000000 → Q3 l (i : Int) fuel ((k + 1 : Nat) : Int) acc' = some (acc' ++ G00 (a0, a1, a2) (l.drop (k + 1))) := fun acc' h => f0c l hl i a0 a1 a2 hi d (k + 1) fuel acc' (by omega) (by omega) h
  rw [Q3.eq_2, if_pos (by simp; omega), N3 hi, Option.bind_some]
  simp only []
  rw [N3 hx, Option.bind_some, A2 hk (by omega), K1 hx]
  simp only [G00, w07]
  cases decide (a1 = b1)
  ·simp only [Bool.false_eq_true, if_false, cond_false, List.nil_append]
   exact ih acc (by omega)
  ·cases decide (a0 = b0) <;> cases decide (a2 = b2)
   all_goals simp only [Bool.not_true, Bool.false_eq_true, if_false, if_true, cond_true, cond_false, List.nil_append, List.append_nil]
   ·exact ih acc (by omega)
   ·rw [N0 (by simp; omega), Option.bind_some, ih _ (by simp; omega)]; simp
   ·rw [N0 (by simp; omega), Option.bind_some, ih _ (by simp; omega)]; simp
   ·rw [N0 (by simp; omega), Option.bind_some, N0 (by simp; omega), Option.bind_some, ih _ (by simp; omega)]; simp
theorem g0c (l : List C0) (hl : l.length ≤ 1000) : ∀ (d k fuel : Nat) (acc : List f4), k + d = l.length → d < fuel → acc.length + 2000 * d ≤ 3000000 →
  l6 l fuel (k : Int) acc = some (acc ++ j7 (l.drop k))
 | d, k, 0, acc, hd, hf, ha => by omega
 | 0, k, fuel + 1, acc, hd, hf, ha => by
  rw [l6.eq_2, if_neg (by simp; omega), E1 (by omega)]
  simp [j7]
 | d + 1, k, fuel + 1, acc, hd, hf, ha => by
  have hk : k < l.length := by omega
  have hx := W5 hk
  generalize l[k] = b at hx
  obtain ⟨b0, b1, b2⟩ := b
  have h0 := f0c l hl k b0 b1 b2 hx (l.length - (k + 1)) (k + 1) S0 acc (by omega) (W0 (by omega)) (by omega)
  have hr := q08 (b0, b1, b2) (l.drop (k + 1))
  simp only [List.length_drop] at hr
  rw [l6.eq_2, if_pos (by simp; omega), A2 hk (by omega), h0, Option.bind_some, g0c l hl d (k + 1) fuel _ (by omega) (by omega) (by simp only [List.length_append, List.length_drop] at hr ⊢; omega), K1 hx, j7]
  simp
theorem D0e (g : l0) (hl : g.2.2.length ≤ 1000) : Q00 g = some (j7 g.2.2) := by
 obtain ⟨r, n, es⟩ := g
 unfold Q00
 simp only
 rw [show (0 : Int) = ((0 : Nat) : Int) from rfl, e0c es hl es.length 0 S0 [] (by omega) (W0 (by simp only at hl; omega)) (by simp only at hl; simp; omega)]
 rfl
theorem E0e (g : l0) (hl : g.2.2.length ≤ 1000) : a00 g = some (j7 g.2.2) := by
 obtain ⟨r, n, es⟩ := g
 unfold a00
 simp only
 rw [show (0 : Int) = ((0 : Nat) : Int) from rfl, g0c es hl es.length 0 S0 [] (by omega) (W0 (by simp only at hl; omega)) (by simp only at hl; simp; omega)]
 rfl
def H00 (g : l0) : f4 × Bool := bif M0 g then (match j7 g.2.2 with
 | [] => ((0, 0), false)
 | f :: _ => (f, true)) else ((0, 0), false)
theorem g09 (g : l0) (hl : g.2.2.length ≤ 140737488355328) : R7 g = some (H00 g) := by
 have h1 := G8 g hl
 have h2 := D0e g
 unfold H00
 cases hg : M0 g with
 | false =>
  obtain ⟨r, n, es⟩ := g
  unfold R7
  simp only [h1, hg, Option.bind_some]; rfl
 | true =>
  have h2 := h2 (by have := (O1 hg).2.2.2; omega)
  obtain ⟨r, n, es⟩ := g
  unfold R7
  simp only [h1, hg, h2, Option.bind_some, cond_true]
  simp only at h2
  cases j7 es with
  | nil => rfl
  | cons f l =>
   rw [if_neg (by simp), if_neg (by simp; omega), O04 rfl]
   rfl
theorem h09 (g : l0) (hl : g.2.2.length ≤ 140737488355328) : P7 g = some (H00 g) := by
 have h1 := R5 g hl
 have h2 := E0e g
 unfold H00
 cases hg : M0 g with
 | false =>
  obtain ⟨r, n, es⟩ := g
  unfold P7
  simp only [h1, hg, Option.bind_some]; rfl
 | true =>
  have h2 := h2 (by have := (O1 hg).2.2.2; omega)
  obtain ⟨r, n, es⟩ := g
  unfold P7
  simp only [h1, hg, h2, Option.bind_some, cond_true]
  simp only at h2
  cases j7 es with
  | nil => rfl
  | cons f l =>
   rw [if_neg (by simp), if_neg (by simp; omega), O04 rfl]
   rfl
theorem V0g (v : Int) (f : f4) (hv : 0 ≤ v ∧ v < 1000) (hf : 0 ≤ f.1 ∧ f.1 < f.2) : k00 v f = some (mvV f v) := by
 obtain ⟨a, b⟩ := f
 simp only at hf
 unfold k00 mvV
 simp only
 by_cases c : v = b
 ·rw [if_pos (by simp [c]), if_neg (by simp; omega), if_pos c]
 ·rw [if_neg (by simp [c]), if_neg c]
  by_cases c2 : v > b
  ·rw [if_pos (by simp [c2]), if_pos c2, w64 (by omega) (by omega)]
  ·rw [if_neg (by simp; omega), if_neg c2]
theorem F0e (v : Int) (f : f4) (hv : 0 ≤ v ∧ v < 1000) : s5 v f = some (mvV f v) := by
 obtain ⟨a, b⟩ := f
 unfold s5 mvV
 simp only
 by_cases c : v = b
 ·rw [if_pos (by simp [c]), if_pos c]
 ·rw [if_neg (by simp [c]), if_neg c]
  by_cases c2 : v > b
  ·rw [if_pos (by simp [c2]), if_pos c2, w64 (by omega) (by omega)]
  ·rw [if_neg (by simp; omega), if_neg c2]
theorem g0d {f : f4} {v : Int} (hv : 0 ≤ v ∧ v < 1000) (hf : 0 ≤ f.1 ∧ f.1 < 1000) : F0 (mvV f v) := by
 unfold mvV
 split
 ·exact ⟨by omega, by omega⟩
 ·split
  ·exact ⟨by omega, by omega⟩
  ·exact ⟨by omega, by omega⟩
theorem G0e (es : List C0) (f : f4) (r n : Int) (hl : es.length ≤ 1000) (hv : ∀ e ∈ es, (0 ≤ e.1 ∧ e.1 < 1000) ∧ (0 ≤ e.2.2 ∧ e.2.2 < 1000)) (hf : 0 ≤ f.1 ∧ f.1 < f.2) (hf2 : f.2 < 1000) : ∀ (d k fuel : Nat) (acc : List C0), k + d = es.length → d < fuel → acc.length ≤ k →
  V3 es f.1 f.2 fuel (k : Int) r n acc = some (r, n, w6 K0 acc ((es.drop k).map (mvE f)))
 | d, k, 0, acc, hd, hfu, ha => by omega
 | 0, k, fuel + 1, acc, hd, hfu, ha => by
  rw [V3.eq_2, if_neg (by simp; omega), E1 (by omega)]
  rfl
 | d + 1, k, fuel + 1, acc, hd, hfu, ha => by
  have hk : k < es.length := by omega
  have hx := W5 hk
  have hvk := hv _ (List.getElem_mem hk)
  generalize es[k] = b at hx hvk
  obtain ⟨b0, b1, b2⟩ := b
  simp only at hvk
  have hln := P01 (mvE f (b0, b1, b2)) acc
  rw [V3.eq_2, if_pos (by simp; omega), N3 hx, Option.bind_some]
  simp only []
  rw [V0g b0 (f.1, f.2) hvk.1 hf, Option.bind_some, N0 (g0d hvk.1 ⟨hf.1, by show f.1 < 1000; omega⟩), Option.bind_some, V0g b2 (f.1, f.2) hvk.2 hf, Option.bind_some, N0 (g0d hvk.2 ⟨hf.1, by show f.1 < 1000; omega⟩), Option.bind_some,
   Q03 acc _ (by omega), Option.bind_some, A2 hk (by omega), K1 hx, List.map_cons]
  exact G0e es f r n hl hv hf hf2 d (k + 1) fuel _ (by omega) (by omega) (Nat.le_trans hln (by omega))
theorem H0e {g : l0} {f : f4} (hg : M0 g = true) (hf : okF g f) : o6 g f = some (M9 g f, true) := by
 obtain ⟨q1, q2, q3, q4⟩ := O1 hg
 have h1 := R5 g (by omega)
 obtain ⟨f1, f2, f3⟩ := hf
 obtain ⟨r, n, es⟩ := g
 obtain ⟨a, b⟩ := f
 simp only at f1 f2 f3 q3 q4
 have h := G0e es (a, b) r (IntKind.i64.wrap (n - 1)) (by omega) (fun e he => by
  have := q1 e he
  simp only at this
  exact ⟨⟨by omega, by omega⟩, by omega, by omega⟩) ⟨f1, f2⟩ (by simp only; omega) es.length 0 S0 [] (by omega) (W0 (by omega)) (Nat.le_refl _)
 unfold o6
 simp only [h1, hg, Option.bind_some]
 rw [if_neg (by simp; omega), show (0 : Int) = ((0 : Nat) : Int) from rfl, h, w64 (by omega) (by omega)]
 rfl
theorem I0e (es : List C0) (f : f4) (hl : es.length ≤ 1000) (hv : ∀ e ∈ es, (0 ≤ e.1 ∧ e.1 < 1000) ∧ (0 ≤ e.2.2 ∧ e.2.2 < 1000)) (hf : 0 ≤ f.1 ∧ f.1 < 1000) : ∀ (d k fuel : Nat), k + d = es.length → d < fuel →
  W3 es f.1 f.2 fuel (k : Int) ((es.take k).map (mvE f) ++ es.drop k) = some (es.map (mvE f))
 | d, k, 0, hd, hfu => by omega
 | 0, k, fuel + 1, hd, hfu => by
  rw [W3.eq_2, if_neg (by simp; omega), E1 (by omega), List.append_nil, List.take_of_length_le (by omega)]
 | d + 1, k, fuel + 1, hd, hfu => by
  have hk : k < es.length := by omega
  have hx := W5 hk
  have hvk := hv _ (List.getElem_mem hk)
  generalize es[k] = b at hx hvk
  have htl : ((es.take k).map (mvE f)).length = k := by simp; omega
  have hg : ((es.take k).map (mvE f) ++ es.drop k)[k]? = some b := by
   rw [List.getElem?_append_right (by omega), htl, K1 hx]; simp
  have hs : ∀ y, ((es.take k).map (mvE f) ++ es.drop k).set k y = (es.take k).map (mvE f) ++ y :: es.drop (k + 1) := fun y => by
   rw [List.set_append_right _ _ (by omega), htl, K1 hx]; simp
  obtain ⟨b0, b1, b2⟩ := b
  simp only at hvk
  have e : (es.take (k + 1)).map (mvE f) ++ es.drop (k + 1) = (es.take k).map (mvE f) ++ mvE f (b0, b1, b2) :: es.drop (k + 1) := by
   rw [f0k hx]; simp
  have ih := I0e es f hl hv hf d (k + 1) fuel (by omega) (by omega)
  rw [e] at ih
  rw [W3.eq_2, if_pos (by simp; omega), N3 hg, Option.bind_some]
  simp only []
  rw [F0e b0 (f.1, f.2) hvk.1, Option.bind_some, N0 (g0d hvk.1 hf), Option.bind_some, F0e b2 (f.1, f.2) hvk.2, Option.bind_some, N0 (g0d hvk.2 hf), Option.bind_some]
  simp only [Option.bind_some]
  rw [show ((k : Nat) : Int).toNat = k from Int.toNat_natCast k, hs, A2 hk (by omega)]
  exact ih
theorem J0e {g : l0} {f : f4} (hg : M0 g = true) (hf : okF g f) : p6 g f = some (M9 g f, true) := by
 obtain ⟨q1, q2, q3, q4⟩ := O1 hg
 have h1 := G8 g (by omega)
 have h2 := Y9 g (by omega)
 obtain ⟨f1, f2, f3⟩ := hf
 obtain ⟨r, n, es⟩ := g
 obtain ⟨a, b⟩ := f
 simp only at f1 f2 f3 q3 q4
 have h := I0e es (a, b) (by omega) (fun e he => by
  have := q1 e he
  simp only at this
  exact ⟨⟨by omega, by omega⟩, by omega, by omega⟩) ⟨f1, by simp only; omega⟩ es.length 0 S0 (by omega) (W0 (by omega))
 simp only [List.take_zero, List.map_nil, List.nil_append, List.drop_zero] at h
 unfold p6
 simp only [h1, h2, hg, Option.bind_some]
 rw [if_neg (by simp; omega), show (0 : Int) = ((0 : Nat) : Int) from rfl, h, Option.bind_some, s07 _ (by simp; omega), Option.bind_some, w64 (by omega) (by omega)]
 rfl
def c00 (g : l0) : l0 × f4 × Bool := bif M0 g then (match j7 g.2.2 with
 | [] => (g, (0, 0), false)
 | f :: _ => (M9 g f, f, true)) else (g, (0, 0), false)
theorem U04 (g : l0) (hl : g.2.2.length ≤ 1099511627776) : l9 g = some (c00 g) := by
 have h1 := h09 g (by omega)
 have h2 := B00 g hl
 have h3 : ∀ f, M0 g = true → okF g f → o6 g f = some (M9 g f, true) := fun f a b => H0e a b
 have h4 : M0 g = true → ∀ f ∈ j7 g.2.2, okF g f := j02
 unfold H00 at h1
 unfold c00
 obtain ⟨r, n, es⟩ := g
 unfold l9
 simp only [h1, Option.bind_some]
 cases hg : M0 (r, n, es) with
 | false => simp only [cond_false, Bool.not_false, if_true, h2, Option.bind_some]
 | true =>
  simp only [cond_true]
  simp only at h4
  cases e : j7 es with
  | nil => simp only [Bool.not_false, if_true, h2, Option.bind_some]
  | cons f l =>
   simp only [Bool.not_true, Bool.false_eq_true, if_false, h3 f hg (h4 hg f (by rw [e]; exact List.mem_cons_self ..)), Option.bind_some]
theorem V04 (g : l0) (hl : g.2.2.length ≤ 1099511627776) : r9 g = some (c00 g) := by
 have h1 := g09 g (by omega)
 have h2 := Y9 g hl
 have h3 : ∀ f, M0 g = true → okF g f → p6 g f = some (M9 g f, true) := fun f a b => J0e a b
 have h4 : M0 g = true → ∀ f ∈ j7 g.2.2, okF g f := j02
 unfold H00 at h1
 unfold c00
 obtain ⟨r, n, es⟩ := g
 unfold r9
 simp only [h1, Option.bind_some]
 cases hg : M0 (r, n, es) with
 | false => simp only [cond_false, Bool.not_false, if_true, h2, Option.bind_some]
 | true =>
  simp only [cond_true]
  simp only at h4
  cases e : j7 es with
  | nil => simp only [Bool.not_false, if_true, h2, Option.bind_some]
  | cons f l =>
   simp only [Bool.not_true, Bool.false_eq_true, if_false, h3 f hg (h4 hg f (by rw [e]; exact List.mem_cons_self ..)), Option.bind_some]
def N0k : (l0 × z7) ⊕ (Int × Int × J0 × (List f4)) → Option (l0 × z7) := fun X => l7 X (fun S => match S with
 | (a, b, c, e) => some ((a, b, c), e))
theorem T0a : ∀ (d k fuel : Nat) (g : l0) (acc : List f4), k + d = 40 → d < fuel → M0 g = true → acc.length = k →
  (p5 fuel (k : Int) g.1 g.2.1 g.2.2 acc).bind N0k = some ((N9 d g).1, acc ++ (N9 d g).2)
 | d, k, 0, g, acc, hd, hf, hg, ha => by omega
 | 0, k, fuel + 1, g, acc, hd, hf, hg, ha => by
  rw [p5.eq_2, if_neg (by simp; omega)]
  simp [N0k, l7, N9]
 | d + 1, k, fuel + 1, g, acc, hd, hf, hg, ha => by
  have h1 := U04 g (by have := (O1 hg).2.2.2; omega)
  have h4 := j02 hg
  unfold c00 at h1
  rw [hg] at h1
  simp only [cond_true] at h1
  rw [p5.eq_2, if_pos (by simp; omega), show (g.1, g.2.1, g.2.2) = g from rfl, h1]
  unfold N9
  cases e : j7 g.2.2 with
  | nil => simp [N0k, l7]
  | cons f l =>
   have ih := T0a d (k + 1) fuel (M9 g f) (acc ++ [f]) (by omega) (by omega) (F02 hg (h4 f (by rw [e]; exact List.mem_cons_self ..))) (by simp [ha])
   simp only [Option.bind_some, Bool.not_true, Bool.false_eq_true, if_false]
   rw [N0 (by simp; omega), Option.bind_some, A2 (show k < 1000 by omega) (by omega)]
   refine ih.trans ?_
   simp
theorem O02 (g : l0) (hl : g.2.2.length ≤ 1099511627776) : E6 g = some (Z3 g) := by
 have h1 := U04 g hl
 have h2 := B00 g hl
 have h3 := T0a 40 0 S0 g [] rfl (W0 (by omega))
 unfold Z3
 obtain ⟨r, n, es⟩ := g
 unfold E6
 simp only [h2, Option.bind_some]
 cases hg : M0 (r, n, es) with
 | false =>
  unfold c00 at h1
  rw [hg] at h1
  simp only [cond_false] at h1
  rw [show S0 = (S0 - 1) + 1 from rfl, p5.eq_2, if_pos (by simp), h1]
  rfl
 | true => exact h3 hg rfl
theorem U0a : ∀ (d fuel : Nat) (g : l0) (acc : List f4), d < fuel → M0 g = true → j7 (N9 d g).1.2.2 = [] → acc.length + d ≤ 1000 →
  r6 fuel g.1 g.2.1 g.2.2 acc = some (.inl ((N9 d g).1, acc ++ (N9 d g).2))
 | d, 0, g, acc, hf, hg, hn, ha => by omega
 | d, fuel + 1, g, acc, hf, hg, hn, ha => by
  have h1 := V04 g (by have := (O1 hg).2.2.2; omega)
  have h4 := j02 hg
  unfold c00 at h1
  rw [hg] at h1
  simp only [cond_true] at h1
  rw [r6.eq_2, show (g.1, g.2.1, g.2.2) = g from rfl, h1]
  cases e : j7 g.2.2 with
  | nil =>
   have e2 : N9 d g = (g, []) := by
    cases d with
    | zero => rfl
    | succ d => unfold N9; rw [e]
   rw [e2]
   simp
  | cons f l =>
   cases d with
   | zero => exact absurd e (by rw [show j7 g.2.2 = [] from hn]; simp)
   | succ d =>
    have e2 : N9 (d + 1) g = ((N9 d (M9 g f)).1, f :: (N9 d (M9 g f)).2) := by
     show (match j7 g.2.2 with | [] => (g, []) | f :: _ => ((N9 d (M9 g f)).1, f :: (N9 d (M9 g f)).2)) = _
     rw [e]
    rw [e2] at hn ⊢
    have ih := U0a d fuel (M9 g f) (acc ++ [f]) (by omega) (F02 hg (h4 f (by rw [e]; exact List.mem_cons_self ..))) hn (by simp; omega)
    simp only [Option.bind_some, Bool.not_true, Bool.false_eq_true, if_false]
    rw [N0 (by simp; omega), Option.bind_some]
    refine ih.trans ?_
    simp
theorem P02 (g : l0) (hl : g.2.2.length ≤ 1099511627776) : F6 g = some (Z3 g) := by
 have h1 := V04 g hl
 have h2 := Y9 g hl
 have h3 := U0a 40 S0 g [] (W0 (by omega))
 have h5 : M0 g = true → j7 (N9 40 g).1.2.2 = [] := fun hg => q06 40 hg (by have := (O1 hg).2.2.1; omega)
 unfold Z3
 obtain ⟨r, n, es⟩ := g
 unfold F6
 simp only [h2, Option.bind_some]
 cases hg : M0 (r, n, es) with
 | false =>
  unfold c00 at h1
  rw [hg] at h1
  simp only [cond_false] at h1
  rw [show S0 = (S0 - 1) + 1 from rfl, r6.eq_2, h1]
  rfl
 | true =>
  have h := h3 hg (h5 hg) (by simp)
  simp only at h
  rw [h]
  rfl
end Go.Proofs.YtfdlgbfeceodeaaGreat
namespace Go.Proofs.YtfdlgbfeceodeaaGreat
open Go.H
set_option linter.unusedVariables false
set_option linter.unusedSimpArgs false
theorem s08 {g : l0} (h : M0 g = true) : Asc K0 g.2.2 := ((C9 g).1 h).2.2.2.2
def stp (u x v : Int) : C0 := if x < 0 then (v, -x, u) else (u, x, v)
def v00 (v : Int) : List Int → Int → Int → List C0
 | [], _, _ => []
 | [x], u, _ => [stp u x v]
 | x :: y :: r, u, n => stp u x n :: v00 v (y :: r) n (n + 1)
theorem u05 (v : Int) : ∀ (w : List Int) (u n : Int), (v00 v w u n).length = w.length
 | [], _, _ => rfl
 | [x], _, _ => rfl
 | x :: y :: r, u, n => by simp only [v00, List.length_cons, u05 v (y :: r)]
theorem Q0f (u x v : Int) (hx : B7 x) : b00 u x v = some (stp u x v) := by
 unfold b00 stp
 by_cases c : x < 0
 ·rw [if_pos (by simp [c]), if_pos c, m0e hx.1 hx.2]
 ·rw [if_neg (by simp; omega), if_neg c]
theorem h0d (w : List Int) (v : Int) (r : Int) (hw : ∀ x ∈ w, B7 x) (hl : w.length ≤ 1000) : ∀ (d k fuel : Nat) (u n : Int) (es : List C0), k + d = w.length → d < fuel → 0 ≤ n → n ≤ 1000 + k → es.length ≤ 1000 + k →
  w5 w v fuel u (k : Int) r n es = some (r, n + ((d - 1 : Nat) : Int), es ++ v00 v (w.drop k) u n)
 | d, k, 0, u, n, es, hd, hf, h0, h1, h2 => by omega
 | 0, k, fuel + 1, u, n, es, hd, hf, h0, h1, h2 => by
  rw [w5.eq_2, if_neg (by simp; omega), E1 (by omega)]
  simp [v00]
 | d + 1, k, fuel + 1, u, n, es, hd, hf, h0, h1, h2 => by
  have hk : k < w.length := by omega
  have hx := W5 hk
  have hm := hw _ (List.getElem_mem hk)
  generalize w[k] = x at hx hm
  rw [w5.eq_2, if_pos (by simp; omega), N3 hx, Option.bind_some, u0a (by omega) (by omega), K1 hx]
  by_cases c : k + 1 < w.length
  ·rw [if_pos (by simp; omega), Q0f u x n hm, Option.bind_some]
   have hy := W5 c
   generalize w[k + 1] = y at hy
   have ih := h0d w v r hw hl d (k + 1) fuel n (n + 1) (es ++ [stp u x n]) (by omega) (by omega) (by omega) (by omega) (by simp; omega)
   simp only []
   rw [N0 (by simp; omega), Option.bind_some, A2 hk (by omega), w64 (show (-9223372036854775808 : Int) ≤ n + 1 by omega) (by omega)]
   refine ih.trans ?_
   rw [K1 hy]
   simp only [v00, List.append_assoc, List.singleton_append]
   congr 3
   omega
  ·have hd0 : d = 0 := by omega
   subst hd0
   rw [if_neg (by simp; omega), Q0f u x v hm, Option.bind_some]
   have ih := h0d w v r hw hl 0 (k + 1) fuel v n (es ++ [stp u x v]) (by omega) (by omega) h0 (by omega) (by simp; omega)
   simp only []
   rw [N0 (by simp; omega), Option.bind_some, A2 hk (by omega)]
   refine ih.trans ?_
   rw [E1 (show k + 1 = w.length by omega)]
   simp [v00]
theorem i0d (w : List Int) (v : Int) (r : Int) (hw : ∀ x ∈ w, B7 x ∧ x ≠ 0) (hl : w.length ≤ 1000) : ∀ (d k fuel : Nat) (u n : Int) (es : List C0), k + d = w.length → d < fuel → 0 ≤ n → n ≤ 1000 + k → es.length ≤ 1000 + k →
  D4 w v fuel u (k : Int) r n es = some (r, n + ((d - 1 : Nat) : Int), w6 K0 es (v00 v (w.drop k) u n))
 | d, k, 0, u, n, es, hd, hf, h0, h1, h2 => by omega
 | 0, k, fuel + 1, u, n, es, hd, hf, h0, h1, h2 => by
  rw [D4.eq_2, if_neg (by simp; omega), E1 (by omega)]
  simp [v00, w6]
 | d + 1, k, fuel + 1, u, n, es, hd, hf, h0, h1, h2 => by
  have hk : k < w.length := by omega
  have hx := W5 hk
  have hm := hw _ (List.getElem_mem hk)
  generalize w[k] = x at hx hm
  have hput : ∀ e, (P8 K0 e es).length ≤ 1000 + (k + 1) := fun e => by have := P01 e es; omega
  rw [D4.eq_2, if_pos (by simp; omega), K1 hx]
  by_cases c : k + 1 < w.length
  ·have hy := W5 c
   generalize w[k + 1] = y at hy
   have ih := i0d w v r hw hl d (k + 1) fuel n (n + 1) (P8 K0 (stp u x n) es) (by omega) (by omega) (by omega) (by omega) (hput _)
   rw [K1 hy] at ih
   rw [A2 hk (by omega), if_pos (by simp; omega), N3 hx, Option.bind_some, w64 (show (-9223372036854775808 : Int) ≤ n + 1 by omega) (by omega), K1 hy]
   have fin : some (r, n + 1 + ((d - 1 : Nat) : Int), w6 K0 (P8 K0 (stp u x n) es) (v00 v (y :: w.drop (k + 1 + 1)) n (n + 1))) = some (r, n + ((d + 1 - 1 : Nat) : Int), w6 K0 es (v00 v (x :: y :: w.drop (k + 1 + 1)) u n)) := by
    simp only [v00, w6]
    congr 3
    omega
   by_cases c2 : x > 0
   ·have e : stp u x n = (u, x, n) := by unfold stp; rw [if_neg (by omega)]
    rw [if_pos (by simp [c2])]
    simp only [Option.bind_some]
    rw [Q03 es _ (by omega), Option.bind_some, ← e]
    exact ih.trans fin
   ·have e : stp u x n = (n, -x, u) := by unfold stp; rw [if_pos (by omega)]
    rw [if_neg (by simp; omega)]
    simp only [Option.bind_some]
    rw [m0e hm.1.1 hm.1.2, Q03 es _ (by omega), Option.bind_some, ← e]
    exact ih.trans fin
  ·have hd0 : d = 0 := by omega
   subst hd0
   have ih := i0d w v r hw hl 0 (k + 1) fuel v n (P8 K0 (stp u x v) es) (by omega) (by omega) h0 (by omega) (hput _)
   rw [E1 (show k + 1 = w.length by omega)] at ih ⊢
   rw [A2 hk (by omega), if_neg (by simp; omega), N3 hx, Option.bind_some]
   have fin : some (r, n + ((0 - 1 : Nat) : Int), w6 K0 (P8 K0 (stp u x v) es) (v00 v [] v n)) = some (r, n + ((0 + 1 - 1 : Nat) : Int), w6 K0 es (v00 v [x] u n)) := by
    simp [v00, w6]
   by_cases c2 : x > 0
   ·have e : stp u x v = (u, x, v) := by unfold stp; rw [if_neg (by omega)]
    rw [if_pos (by simp [c2])]
    simp only [Option.bind_some]
    rw [Q03 es _ (by omega), Option.bind_some, ← e]
    exact ih.trans fin
   ·have e : stp u x v = (v, -x, u) := by unfold stp; rw [if_pos (by omega)]
    rw [if_neg (by simp; omega)]
    simp only [Option.bind_some]
    rw [m0e hm.1.1 hm.1.2, Q03 es _ (by omega), Option.bind_some, ← e]
    exact ih.trans fin
theorem V0a {es p : List C0} (hA : Asc K0 es) : w6 K0 [] (es ++ p) = w6 K0 es p :=
 l06 Z5 (f01 Z5 _ _ .nil) (f01 Z5 _ _ hA) fun x => by
  rw [U8 Z5, U8 Z5]; simp
def Q2 (g : l0) (u : Int) (w : List Int) (v : Int) : l0 × Bool :=
 bif !w.isEmpty && decide (g.2.1 + (w.length : Int) - 1 ≤ 40) && decide (g.2.2.length + w.length ≤ 120) then ((g.1, g.2.1 + ((w.length - 1 : Nat) : Int), w6 K0 g.2.2 (v00 v w u g.2.1)), true) else (g, false)
theorem j0d {r : Int} {w : List Int} (h : Q4 r w = true) : w.length ≤ 24 ∧ ∀ x ∈ w, B7 x ∧ x ≠ 0 ∧ -r ≤ x ∧ x ≤ r := by
 have h1 := h
 simp only [Q4, Bool.and_eq_true, decide_eq_true_eq] at h1
 refine ⟨h1.1.2, fun x hx => ?_⟩
 obtain ⟨i, hi⟩ := List.getElem?_of_mem hx
 have := C02 h hi
 exact ⟨⟨⟨by omega, by omega⟩, by omega⟩, this.2.2⟩
theorem Q05 {g : l0} {u v : Int} {w : List Int} (hg : M0 g = true) (hu : 0 ≤ u ∧ u < g.2.1) (hv : 0 ≤ v ∧ v < g.2.1) (hw : Q4 g.1 w = true) : d8 g u w v = some (Q2 g u w v) := by
 obtain ⟨q1, q2, q3, q4⟩ := O1 hg
 obtain ⟨wl, wx⟩ := j0d hw
 have h1 := R5 g (by omega)
 have h2 := B00 g (by omega)
 have h3 := g07 g.1 w (by omega)
 obtain ⟨r, n, es⟩ := g
 simp only at q3 q4 hu hv h3
 have hwp : IntKind.i64.wrap (n - 1) = n - 1 := w64 (by omega) (by omega)
 have hin : ∀ x : Int, 0 ≤ x ∧ x < n → inR 0 (n - 1) x = true := fun x hx => by simp [inR]; omega
 have h := i0d w v r (fun x hx => ⟨(wx x hx).1, (wx x hx).2.1⟩) (by omega) w.length 0 S0 u n es (by omega) (W0 (by omega)) (by omega) (by omega) (by omega)
 unfold d8 Q2
 simp only [h1, h2, hg, Option.bind_some, Bool.not_true, Bool.not_false, G2, cond_false, hwp, D01, hin u hu, hin v hv, h3, hw]
 rw [w64 (show (-9223372036854775808 : Int) ≤ n + ((w.length : Nat) : Int) by omega) (by omega), w64 (show (-9223372036854775808 : Int) ≤ n + ((w.length : Nat) : Int) - 1 by omega) (by omega), w64 (show (-9223372036854775808 : Int) ≤ ((es.length : Nat) : Int) + ((w.length : Nat) : Int) by omega) (by omega)]
 by_cases c : (w ≠ [] ∧ n + (w.length : Int) - 1 ≤ 40) ∧ es.length + w.length ≤ 120
 ·have hne : w.length ≠ 0 := by simpa using c.1.1
  rw [if_neg (by simp only [Bool.not_eq_true]; simp [c.1.1]; omega), show (0 : Int) = ((0 : Nat) : Int) from rfl, h, Option.bind_some]
  rw [show (!w.isEmpty && decide (n + (w.length : Int) - 1 ≤ 40) && decide (es.length + w.length ≤ 120)) = true by simp [c.1.1, c.1.2, c.2]]
  rfl
 ·rw [show (!w.isEmpty && decide (n + (w.length : Int) - 1 ≤ 40) && decide (es.length + w.length ≤ 120)) = false by
   rw [← Bool.not_eq_true]; simpa using c]
  rw [if_pos ?_]
  ·rfl
  ·by_cases d1 : w = []
   ·simp [d1]
   ·by_cases d2 : n + (w.length : Int) - 1 ≤ 40
    ·have d3 : ¬ es.length + w.length ≤ 120 := fun h => c ⟨⟨d1, d2⟩, h⟩
     have : decide (((es.length : Nat) : Int) + ((w.length : Nat) : Int) > 120) = true := by simp; omega
     rw [this]; simp
    ·have : decide (n + ((w.length : Nat) : Int) - 1 > 40) = true := by simp; omega
     rw [this]; simp
theorem j0k {g : l0} (hg : M0 g = true) {u : Int} (hu : 0 ≤ u ∧ u < g.2.1) : o5 g u = some true := by
 obtain ⟨q1, q2, q3, q4⟩ := O1 hg
 obtain ⟨r, n, es⟩ := g
 simp only at q3 hu
 unfold o5
 simp only [x01]
 rw [w64 (by omega) (by omega)]
 simp [inR]; omega
theorem R05 {g : l0} {u v : Int} {w : List Int} (hg : M0 g = true) (hu : 0 ≤ u ∧ u < g.2.1) (hv : 0 ≤ v ∧ v < g.2.1) (hw : Q4 g.1 w = true) : g8 g u w v = some (Q2 g u w v) := by
 obtain ⟨q1, q2, q3, q4⟩ := O1 hg
 obtain ⟨wl, wx⟩ := j0d hw
 have h1 := G8 g (by omega)
 have h2 := Y9 g (by omega)
 have h3 := i07 g.1 w (by omega)
 have h4 := j0k hg hu
 have h5 := j0k hg hv
 have hA := s08 hg
 obtain ⟨r, n, es⟩ := g
 simp only at q3 q4 hu hv h3 hA
 have h := h0d w v r (fun x hx => (wx x hx).1) (by omega) w.length 0 S0 u n es (by omega) (W0 (by omega)) (by omega) (by omega) (by omega)
 have hpl := u05 v w u n
 unfold g8 Q2
 simp only [h1, h2, hg, Option.bind_some, Bool.not_true, Bool.not_false, G2, cond_false, h4, h5]
 rw [w64 (show (-9223372036854775808 : Int) ≤ n + ((w.length : Nat) : Int) by omega) (by omega), w64 (show (-9223372036854775808 : Int) ≤ n + ((w.length : Nat) : Int) - 1 by omega) (by omega), w64 (show (-9223372036854775808 : Int) ≤ ((es.length : Nat) : Int) + ((w.length : Nat) : Int) by omega) (by omega)]
 by_cases d1 : w = []
 ·subst d1
  simp [chk]
 rw [show decide (((w.length : Nat) : Int) = 0) = false by simp [d1], show (!false) = true from rfl, G2, h3, Option.bind_some, hw]
 by_cases c : n + (w.length : Int) - 1 ≤ 40 ∧ es.length + w.length ≤ 120
 ·rw [if_neg (by simp only [Bool.not_eq_true]; simp; omega), show (0 : Int) = ((0 : Nat) : Int) from rfl, h, Option.bind_some]
  rw [show (!w.isEmpty && decide (n + (w.length : Int) - 1 ≤ 40) && decide (es.length + w.length ≤ 120)) = true by simp [d1, c.1, c.2]]
  simp only [List.drop_zero, cond_true]
  rw [s07 _ (by simp; omega), V0a hA]
  rfl
 ·rw [show (!w.isEmpty && decide (n + (w.length : Int) - 1 ≤ 40) && decide (es.length + w.length ≤ 120)) = false by
   rw [← Bool.not_eq_true]; simp only [Bool.and_eq_true, decide_eq_true_eq, Bool.not_eq_true']; omega]
  rw [if_pos ?_]
  ·rfl
  ·by_cases d2 : n + (w.length : Int) - 1 ≤ 40
   ·have d3 : ¬ es.length + w.length ≤ 120 := fun h => c ⟨d2, h⟩
    have : decide (((es.length : Nat) : Int) + ((w.length : Nat) : Int) > 120) = true := by simp; omega
    rw [this]; simp
   ·have : decide (n + ((w.length : Nat) : Int) - 1 > 40) = true := by simp; omega
    rw [this]; simp
end Go.Proofs.YtfdlgbfeceodeaaGreat
namespace Go.Proofs.YtfdlgbfeceodeaaGreat
open Go.H
set_option linter.unusedVariables false
set_option linter.unusedSimpArgs false
def L1 (g : l0) : l0 × Bool := bif decide (g.2.1 < 40) then ((g.1, g.2.1 + 1, g.2.2), true) else (g, false)
theorem i09 {g : l0} (hg : M0 g = true) : Q7 g = some (L1 g) := by
 obtain ⟨q1, q2, q3, q4⟩ := O1 hg
 have h1 := R5 g (by omega)
 have h2 := B00 g (by omega)
 obtain ⟨r, n, es⟩ := g
 simp only at q3
 unfold Q7 L1
 simp only [h1, h2, hg, Option.bind_some, Bool.not_true, cond_false]
 by_cases c : n < 40
 ·rw [if_neg (by simp; omega), w64 (by omega) (by omega)]; simp [c]
 ·rw [if_pos (by simp; omega)]; simp [c]
theorem j09 {g : l0} (hg : M0 g = true) : S7 g = some (L1 g) := by
 obtain ⟨q1, q2, q3, q4⟩ := O1 hg
 have h1 := G8 g (by omega)
 have h2 := Y9 g (by omega)
 obtain ⟨r, n, es⟩ := g
 simp only at q3
 unfold S7 L1
 simp only [h1, h2, hg, Option.bind_some, Bool.not_true, cond_false]
 by_cases c : n < 40
 ·rw [if_neg (by simp; omega), w64 (by omega) (by omega)]; simp [c]
 ·rw [if_pos (by simp; omega)]; simp [c]
theorem f04 {g : l0} (hg : M0 g = true) : M0 (L1 g).1 = true := by
 unfold L1
 by_cases c : g.2.1 < 40
 ·simp only [c, decide_true, cond_true]
  obtain ⟨q1, q2, q3, q4, q5⟩ := (C9 g).1 hg
  refine (C9 _).2 ⟨fun e he => ?_, q2, ?_, q4, q5⟩
  ·have := q1 e he
   simp only
   omega
  ·simp only; omega
 ·simp only [c, decide_false, cond_false]; exact hg
theorem P0j {es : List C0} {e : C0} (hA : Asc K0 es) (he : e ∈ es) : P8 K0 e es = es :=
 l06 Z5 (t0a Z5 _ _ hA) hA fun x => by
  rw [k03 Z5]
  constructor
  ·rintro (rfl | h)
   ·exact he
   ·exact h
  ·exact .inr
theorem K0e (e : C0) : ∀ {es : List C0}, e ∉ es → (P8 K0 e es).length = es.length + 1
 | [], _ => rfl
 | y :: l, h => by
  have ih := K0e e (es := l) fun hm => h (List.mem_cons_of_mem _ hm)
  unfold P8
  split
  ·rfl
  ·split
   ·rename_i c
    exact absurd (Z5.eq _ _ c) fun hh => h (by rw [hh]; exact List.mem_cons_self ..)
   ·simp only [List.length_cons, ih]
def F7 (g : l0) (e : C0) : l0 × Bool := bif decide (g.2.2.length < 120) && !decide (e ∈ g.2.2) then ((g.1, g.2.1, P8 K0 e g.2.2), true) else (g, false)
def O0h (g : l0) (e : C0) : Prop := (0 ≤ e.1 ∧ e.1 < g.2.1) ∧ (0 ≤ e.2.2 ∧ e.2.2 < g.2.1) ∧ 1 ≤ e.2.1 ∧ e.2.1 ≤ g.1
theorem b0j {g : l0} (hg : M0 g = true) {e : C0} (he : O0h g e) : E01 g.1 (IntKind.i64.wrap (g.2.1 - 1)) e = true := by
 obtain ⟨q1, q2, q3, q4⟩ := O1 hg
 rw [w64 (by omega) (by omega)]
 unfold O0h at he
 simp only [E01, inR, Bool.and_eq_true, decide_eq_true_eq]
 omega
theorem p0b {g : l0} {e : C0} (hg : M0 g = true) (he : O0h g e) : f8 g e = some (F7 g e) := by
 obtain ⟨q1, q2, q3, q4⟩ := O1 hg
 have h1 := R5 g (by omega)
 have h2 := B00 g (by omega)
 have h3 := o0e g e
 rw [b0j hg he] at h3
 have h4 := Q03 g.2.2 e (by omega)
 have hA := s08 hg
 obtain ⟨r, n, es⟩ := g
 obtain ⟨e0, e1, e2⟩ := e
 simp only at q4 hA h4
 unfold f8 F7
 simp only [h1, h2, hg, Option.bind_some, Bool.not_true, Bool.not_false, cond_false, G2, h3]
 by_cases c : es.length < 120
 ·rw [if_neg (by simp; omega), h4, Option.bind_some]
  by_cases d : (e0, e1, e2) ∈ es
  ·rw [P0j hA d]
   simp [c, d]
  ·have := K0e (e0, e1, e2) d
   simp only [this, c, d, decide_true, decide_false, Bool.not_false, Bool.and_true, cond_true]
   simp
   omega
 ·rw [if_pos (by simp; omega)]
  simp [c]
theorem W0g (es : List C0) (e : C0) (hl : es.length ≤ 140737488355328) : ∀ (d k fuel : Nat), k + d = es.length → d < fuel →
  ∃ X, C1 es e.1 e.2.1 e.2.2 fuel (k : Int) = some X ∧ ((∃ i : Nat, X = .inl (i : Int) ∧ i < es.length ∧ e ∈ es.drop k) ∨ (X = .inr () ∧ e ∉ es.drop k))
 | d, k, 0, hd, hf => by omega
 | 0, k, fuel + 1, hd, hf => by
  rw [C1.eq_2, if_neg (by simp; omega), E1 (by omega)]
  exact ⟨_, rfl, .inr ⟨rfl, by simp⟩⟩
 | d + 1, k, fuel + 1, hd, hf => by
  have hk : k < es.length := by omega
  have hx := W5 hk
  generalize es[k] = b at hx
  rw [C1.eq_2, if_pos (by simp; omega), N3 hx, Option.bind_some, K1 hx]
  simp only []
  by_cases c : eqE e b = true
  ·rw [if_pos c]
   refine ⟨_, rfl, .inl ⟨k, rfl, hk, ?_⟩⟩
   rw [(b0d _ _).1 c]
   exact List.mem_cons_self ..
  ·rw [if_neg c, A2 hk (by omega)]
   obtain ⟨X, h1, h2⟩ := W0g es e hl d (k + 1) fuel (by omega) (by omega)
   refine ⟨X, h1, ?_⟩
   have hne : e ≠ b := fun h => c ((b0d _ _).2 h)
   rcases h2 with ⟨i, q1, q2, q3⟩ | ⟨q1, q2⟩
   ·exact .inl ⟨i, q1, q2, List.mem_cons_of_mem _ q3⟩
   ·refine .inr ⟨q1, fun h => ?_⟩
    rcases List.mem_cons.1 h with h | h
    ·exact hne h
    ·exact q2 h
theorem R0f (es : List C0) (e : C0) (hl : es.length ≤ 140737488355328) : J2 es e = some (decide (e ∈ es)) := by
 obtain ⟨X, h1, h2⟩ := W0g es e hl es.length 0 S0 (by omega) (W0 hl)
 obtain ⟨e0, e1, e2⟩ := e
 unfold J2 c4
 simp only
 simp only [List.drop_zero] at h2
 rw [show (0 : Int) = ((0 : Nat) : Int) from rfl, h1]
 rcases h2 with ⟨i, rfl, q2, q3⟩ | ⟨rfl, q2⟩
 ·simp only [Option.bind_some, n3]
  rw [N0 (show F0 ((i : Nat) : Int) from ⟨by omega, by omega⟩)]
  simp [q3]
 ·simp only [Option.bind_some, T0]
  rw [N0 (show F0 (-1) from ⟨by omega, by omega⟩)]
  simp [q2]
theorem q0b {g : l0} {e : C0} (hg : M0 g = true) (he : O0h g e) : N8 g e = some (F7 g e) := by
 obtain ⟨q1, q2, q3, q4⟩ := O1 hg
 have h1 := G8 g (by omega)
 have h2 := Y9 g (by omega)
 have h3 := d04 g e
 rw [b0j hg he] at h3
 have h4 := R0f g.2.2 e (by omega)
 have hA := s08 hg
 obtain ⟨r, n, es⟩ := g
 obtain ⟨e0, e1, e2⟩ := e
 simp only at q4 hA h4
 unfold N8 F7
 simp only [h1, h2, hg, Option.bind_some, Bool.not_true, Bool.not_false, cond_false, G2, h3, h4]
 by_cases d : (e0, e1, e2) ∈ es
 ·simp [d]
 ·by_cases c : es.length < 120
  ·rw [if_neg (by simp [d]; omega), N0 (by simp; omega), Option.bind_some, s07 _ (by simp; omega), V0a hA]
   simp [c, d, w6]
  ·have : es.length = 120 := by omega
   rw [if_pos (by simp [this])]
   simp [c]
def k02 (g : l0) (v : Int) : List Int → List C0
 | [] => []
 | x :: r => (bif decide (C5 g v x < 0) then [(v, x, -1)] else []) ++ k02 g v r
def S05 (g : l0) : Nat → Nat → List C0
 | 0, _ => []
 | d + 1, v => k02 g (v : Int) (Z9 g.1.toNat 1) ++ S05 g d (v + 1)
theorem t08 (g : l0) (v : Int) : ∀ l, (k02 g v l).length ≤ l.length
 | [] => Nat.le_refl _
 | x :: r => by
  have := t08 g v r
  simp only [k02, List.length_append, List.length_cons]
  cases decide (C5 g v x < 0) <;> simp <;> omega
theorem L0e (g : l0) (hg : M0 g = true) (v : Int) (ls : List Int) (hls : ∀ x ∈ ls, B7 x) (hl : ls.length ≤ 1000) : ∀ (d k fuel : Nat) (acc : List C0), k + d = ls.length → d < fuel → acc.length + d ≤ 100000 →
  X2 ls g.1 g.2.1 g.2.2 v fuel (k : Int) acc = some (acc ++ k02 g v (ls.drop k))
 | d, k, 0, acc, hd, hf, ha => by omega
 | 0, k, fuel + 1, acc, hd, hf, ha => by
  rw [X2.eq_2, if_neg (by simp; omega), E1 (by omega)]
  simp [k02]
 | d + 1, k, fuel + 1, acc, hd, hf, ha => by
  obtain ⟨q1, q2, q3, q4⟩ := O1 hg
  have hk : k < ls.length := by omega
  have hx := W5 hk
  have hm := hls _ (List.getElem_mem hk)
  generalize ls[k] = x at hx hm
  have ih : ∀ acc' : List C0, acc'.length + d ≤ 100000 → X2 ls g.1 g.2.1 g.2.2 v fuel ((k + 1 : Nat) : Int) acc' = some (acc' ++ k02 g v (ls.drop (k + 1))) := fun acc' h => L0e g hg v ls hls hl d (k + 1) fuel acc' (by omega) (by omega) h
  rw [X2.eq_2, if_pos (by simp; omega), N3 hx, Option.bind_some, show (g.1, g.2.1, g.2.2) = g from rfl, n06 g v x hm (by omega), Option.bind_some, N0 (O03 q1 q3.2 v x), Option.bind_some, A2 hk (by omega), K1 hx, k02]
  cases decide (C5 g v x < 0) with
  | true =>
   rw [if_pos rfl, Option.bind_some, N0 (by simp; omega), Option.bind_some, ih _ (by simp; omega)]
   simp
  | false =>
   rw [if_neg (by simp), ih _ (by omega)]
   simp
theorem M0e (g : l0) (hg : M0 g = true) (v : Int) (ls : List Int) (hls : ∀ x ∈ ls, B7 x) (hl : ls.length ≤ 1000) : ∀ (d k fuel : Nat) (acc : List C0), k + d = ls.length → d < fuel → acc.length + d ≤ 100000 →
  Y2 ls g.1 g.2.1 g.2.2 v fuel (k : Int) acc = some (acc ++ k02 g v (ls.drop k))
 | d, k, 0, acc, hd, hf, ha => by omega
 | 0, k, fuel + 1, acc, hd, hf, ha => by
  rw [Y2.eq_2, if_neg (by simp; omega), E1 (by omega)]
  simp [k02]
 | d + 1, k, fuel + 1, acc, hd, hf, ha => by
  obtain ⟨q1, q2, q3, q4⟩ := O1 hg
  have hk : k < ls.length := by omega
  have hx := W5 hk
  have hm := hls _ (List.getElem_mem hk)
  generalize ls[k] = x at hx hm
  have ih : ∀ acc' : List C0, acc'.length + d ≤ 100000 → Y2 ls g.1 g.2.1 g.2.2 v fuel ((k + 1 : Nat) : Int) acc' = some (acc' ++ k02 g v (ls.drop (k + 1))) := fun acc' h => M0e g hg v ls hls hl d (k + 1) fuel acc' (by omega) (by omega) h
  rw [Y2.eq_2, if_pos (by simp; omega), N3 hx, Option.bind_some, show (g.1, g.2.1, g.2.2) = g from rfl, o06 g v x hm (by omega), Option.bind_some, N0 (O03 q1 q3.2 v x), Option.bind_some, A2 hk (by omega), K1 hx, k02]
  cases decide (C5 g v x < 0) with
  | true =>
   rw [if_pos rfl, N0 (by simp; omega), Option.bind_some, ih _ (by simp; omega)]
   simp
  | false =>
   rw [if_neg (by simp), ih _ (by omega)]
   simp
theorem x07 : ∀ (d i : Nat) (x : Int), x ∈ Z9 d i → ∃ j : Nat, i ≤ j ∧ j < i + d ∧ (x = (j : Int) ∨ x = -(j : Int))
 | 0, i, x, h => by simp [Z9] at h
 | d + 1, i, x, h => by
  simp only [Z9, List.mem_cons] at h
  rcases h with rfl | rfl | h
  ·exact ⟨i, Nat.le_refl _, by omega, .inl rfl⟩
  ·exact ⟨i, Nat.le_refl _, by omega, .inr rfl⟩
  ·obtain ⟨j, h1, h2, h3⟩ := x07 d (i + 1) x h
   exact ⟨j, by omega, by omega, h3⟩
theorem N0e (g : l0) (hf0 : P0 g = true) : ∀ (d k fuel : Nat) (acc : List C0), k + d = g.2.1.toNat → d < fuel → acc.length + 100 * d ≤ 10000 →
  l4 g.2.1 g.1 g.2.2 fuel (k : Int) acc = some (acc ++ S05 g d k)
 | d, k, 0, acc, hd, hf, ha => by omega
 | 0, k, fuel + 1, acc, hd, hf, ha => by
  obtain ⟨q1, q2, q3, q4⟩ := L4 hf0
  rw [l4.eq_2, show decide (((k : Nat) : Int) < g.2.1) = false by simp; omega]
  simp [chk, S05]
 | d + 1, k, fuel + 1, acc, hd, hf, ha => by
  obtain ⟨q1, q2, q3, q4⟩ := L4 hf0
  have hg := ((H7 g).1 hf0).1
  obtain ⟨R, hR⟩ : ∃ R : Nat, g.1 = (R : Int) := ⟨g.1.toNat, by omega⟩
  have hls : ∀ x ∈ Z9 g.1.toNat 1, B7 x := fun x hx => by
   obtain ⟨j, h1, h2, h3⟩ := x07 _ _ _ hx
   refine ⟨⟨by omega, by omega⟩, by omega⟩
  have hlen := r03 g.1.toNat 1
  have hm := t08 g (k : Int) (Z9 g.1.toNat 1)
  have h0 := L0e g hg (k : Int) (Z9 g.1.toNat 1) hls (by omega) (Z9 g.1.toNat 1).length 0 S0 acc (by omega) (W0 (by omega)) (by omega)
  rw [l4.eq_2, show decide (((k : Nat) : Int) < g.2.1) = true by simp; omega, G2, show (g.1, g.2.1, g.2.2) = g from rfl, L8 g (by omega), Option.bind_some, hf0]
  rw [if_pos (show (bif true then true else false) = true from rfl), show Z6 g.1 = some (Z9 g.1.toNat 1) by rw [hR, T0i R (by omega)]; rfl, Option.bind_some, show (0 : Int) = ((0 : Nat) : Int) from rfl, h0, Option.bind_some, A2 (show k < 1000 by omega) (by omega), N0e g hf0 d (k + 1) fuel _ (by omega) (by omega) (by simp; omega), S05]
  simp
theorem O0e (g : l0) (hf0 : P0 g = true) : ∀ (d k fuel : Nat) (acc : List C0), k + d = g.2.1.toNat → d < fuel → acc.length + 100 * d ≤ 10000 →
  w4 g.2.1 g.1 g.2.2 fuel (k : Int) acc = some (acc ++ S05 g d k)
 | d, k, 0, acc, hd, hf, ha => by omega
 | 0, k, fuel + 1, acc, hd, hf, ha => by
  obtain ⟨q1, q2, q3, q4⟩ := L4 hf0
  rw [w4.eq_2, if_neg (by simp; omega)]
  simp [S05]
 | d + 1, k, fuel + 1, acc, hd, hf, ha => by
  obtain ⟨q1, q2, q3, q4⟩ := L4 hf0
  have hg := ((H7 g).1 hf0).1
  obtain ⟨R, hR⟩ : ∃ R : Nat, g.1 = (R : Int) := ⟨g.1.toNat, by omega⟩
  have hls : ∀ x ∈ Z9 g.1.toNat 1, B7 x := fun x hx => by
   obtain ⟨j, h1, h2, h3⟩ := x07 _ _ _ hx
   refine ⟨⟨by omega, by omega⟩, by omega⟩
  have hlen := r03 g.1.toNat 1
  have hm := t08 g (k : Int) (Z9 g.1.toNat 1)
  have h0 := M0e g hg (k : Int) (Z9 g.1.toNat 1) hls (by omega) (Z9 g.1.toNat 1).length 0 S0 acc (by omega) (W0 (by omega)) (by omega)
  rw [w4.eq_2, if_pos (by simp; omega), show c8 g.1 = some (Z9 g.1.toNat 1) by rw [hR, S0i R (by omega)]; rfl, Option.bind_some, show (0 : Int) = ((0 : Nat) : Int) from rfl, h0, Option.bind_some, A2 (show k < 1000 by omega) (by omega), O0e g hf0 d (k + 1) fuel _ (by omega) (by omega) (by simp; omega), S05]
  simp
def s6 (g : l0) : List C0 := S05 g g.2.1.toNat 0
theorem r0b {g : l0} (hf : P0 g = true) : L6 g = some (s6 g) := by
 obtain ⟨q1, q2, q3, q4⟩ := L4 hf
 have h := N0e g hf g.2.1.toNat 0 S0 [] (by omega) (W0 (by omega)) (by simp; omega)
 obtain ⟨r, n, es⟩ := g
 unfold L6 s6
 simp only at h ⊢
 rw [show (0 : Int) = ((0 : Nat) : Int) from rfl, h]; simp
theorem s0b {g : l0} (hf : P0 g = true) : M6 g = some (s6 g) := by
 obtain ⟨q1, q2, q3, q4⟩ := L4 hf
 have h := O0e g hf g.2.1.toNat 0 S0 [] (by omega) (W0 (by omega)) (by simp; omega)
 have h2 := W9 g (by omega)
 obtain ⟨r, n, es⟩ := g
 unfold M6 s6
 simp only [h2, hf, Option.bind_some] at h ⊢
 rw [if_neg (by simp), show (0 : Int) = ((0 : Nat) : Int) from rfl, h]; simp
theorem h0c {g : l0} {v : Int} {e : C0} : ∀ {l : List Int}, e ∈ k02 g v l → e.1 = v ∧ e.2.1 ∈ l ∧ e.2.2 = -1
 | [], h => nomatch h
 | x :: r, h => by
  simp only [k02, List.mem_append] at h
  rcases h with h | h
  ·cases hd : decide (C5 g v x < 0) with
   | true =>
    rw [hd] at h
    simp at h
    subst h
    exact ⟨rfl, List.mem_cons_self .., rfl⟩
   | false => rw [hd] at h; simp at h
  ·obtain ⟨h1, h2, h3⟩ := h0c h
   exact ⟨h1, List.mem_cons_of_mem _ h2, h3⟩
theorem i0c {g : l0} {e : C0} : ∀ {d k : Nat}, e ∈ S05 g d k → ((k : Int) ≤ e.1 ∧ e.1 < (k : Int) + d) ∧ e.2.1 ∈ Z9 g.1.toNat 1
 | 0, k, h => nomatch h
 | d + 1, k, h => by
  rcases List.mem_append.1 (show e ∈ k02 g (k : Int) (Z9 g.1.toNat 1) ++ S05 g d (k + 1) from h) with h | h
  ·obtain ⟨h1, h2, _⟩ := h0c h
   exact ⟨by omega, h2⟩
  ·obtain ⟨h1, h2⟩ := i0c h
   exact ⟨by omega, h2⟩
theorem W04 {g : l0} (hf : P0 g = true) {e : C0} (h : e ∈ s6 g) : (0 ≤ e.1 ∧ e.1 < g.2.1) ∧ e.2.1 ≠ 0 ∧ -g.1 ≤ e.2.1 ∧ e.2.1 ≤ g.1 := by
 obtain ⟨q1, q2, q3, q4⟩ := L4 hf
 obtain ⟨h1, h2⟩ := i0c h
 obtain ⟨j, k1, k2, k3⟩ := x07 _ _ _ h2
 refine ⟨by omega, by omega, by omega, by omega⟩
end Go.Proofs.YtfdlgbfeceodeaaGreat
namespace Go.Proofs.YtfdlgbfeceodeaaGreat
open Go.H
set_option linter.unusedVariables false
set_option linter.unusedSimpArgs false
theorem j0c {g : l0} {v : Int} : ∀ {l : List (List Int)} {k i : Nat}, W0a g v l k = some i → k ≤ i ∧ i < k + l.length
 | [], k, i, h => nomatch h
 | r :: l, k, i, h => by
  unfold W0a at h
  cases hb : P0h g v r with
  | true =>
   rw [hb] at h
   simp only [cond_true, Option.some.injEq] at h
   subst h
   simp
  | false =>
   rw [hb] at h
   have := j0c (l := l) (k := k + 1) (i := i) h
   simp only [List.length_cons]; omega
theorem u08 {g : l0} {rels : List (List Int)} : ∀ {d k v i : Nat}, V03 g rels d k = some (v, i) → (k ≤ v ∧ v < k + d) ∧ i < rels.length
 | 0, k, v, i, h => nomatch h
 | d + 1, k, v, i, h => by
  unfold V03 at h
  cases hr : W0a g (k : Int) rels 0 with
  | some j =>
   rw [hr] at h
   simp only [Option.some.injEq, Prod.mk.injEq] at h
   obtain ⟨rfl, rfl⟩ := h
   have := j0c hr
   omega
  | none =>
   rw [hr] at h
   have := u08 (d := d) (k := k + 1) h
   omega
def P0e (p : D0) (g : l0) (v i : Nat) : l0 × Bool × Bool := match p.2[i]? with
 | some w => bif (Q2 g (v : Int) w (v : Int)).2 then ((Z3 (Q2 g (v : Int) w (v : Int)).1).1, true, true) else (g, false, false)
 | none => (g, false, false)
def Q0e (g : l0) : l0 × Bool × Bool := match s6 g with
 | [] => (g, false, true)
 | e :: _ => bif (L1 g).2 then (bif (F7 (L1 g).1 (stp e.1 e.2.1 g.2.1)).2 then ((F7 (L1 g).1 (stp e.1 e.2.1 g.2.1)).1, true, true) else (g, false, false)) else (g, false, false)
def Q1 (p : D0) (g : l0) : l0 × Bool × Bool := bif C4 p && P0 g && decide (p.1 = g.1) then (match V03 g p.2 g.2.1.toNat 0 with
 | some (v, i) => P0e p g v i
 | none => Q0e g) else (g, false, false)
theorem Y04 {g : l0} (hg : M0 g = true) (u : Int) (w : List Int) (v : Int) : (Q2 g u w v).1.2.2.length ≤ 120 := by
 have q := (O1 hg).2.2.2
 unfold Q2
 cases hc : (!w.isEmpty && decide (g.2.1 + (w.length : Int) - 1 ≤ 40) && decide (g.2.2.length + w.length ≤ 120)) with
 | false => exact q
 | true =>
  simp only [Bool.and_eq_true, decide_eq_true_eq] at hc
  have h1 := y01 (v00 v w u g.2.1) g.2.2
  have h2 := u05 v w u g.2.1
  simp only [cond_true]
  omega
theorem c0j {g : l0} (hf : P0 g = true) {e : C0} (he : e ∈ s6 g) (hv : (L1 g).2 = true) : O0h (L1 g).1 (stp e.1 e.2.1 g.2.1) := by
 obtain ⟨h1, h2, h3, h4⟩ := W04 hf he
 obtain ⟨q1, q2, q3, q4⟩ := L4 hf
 unfold L1 at hv ⊢
 by_cases c : g.2.1 < 40
 ·simp only [c, decide_true, cond_true]
  unfold stp O0h
  split <;> (simp only; omega)
 ·simp [c] at hv
theorem B07 (p : D0) (g : l0) (hl : p.2.length ≤ 140737488355328) (hs : L2 p.2) (hl2 : g.2.2.length ≤ 1099511627776) : i8 p g = some (Q1 p g) := by
 have h1 := A8 p hl hs
 have h2 := L8 g (by omega)
 have h3 := B00 g hl2
 have h4 := A07 p g hl hs (by omega)
 have h5 : P0 g = true → L6 g = some (s6 g) := r0b
 have h6 : P0 g = true → Q7 g = some (L1 g) := fun h => i09 ((H7 g).1 h).1
 have h7 : P0 g = true → ∀ e ∈ s6 g, (L1 g).2 = true → f8 (L1 g).1 (stp e.1 e.2.1 g.2.1) = some (F7 (L1 g).1 (stp e.1 e.2.1 g.2.1)) := fun h e he hv => p0b (f04 ((H7 g).1 h).1) (c0j h he hv)
 have h8 : C4 p = true → P0 g = true → p.1 = g.1 → ∀ v i : Nat, V03 g p.2 g.2.1.toNat 0 = some (v, i) → ∃ w, p.2[i]? = some w ∧ d8 g (v : Int) w (v : Int) = some (Q2 g (v : Int) w (v : Int)) ∧ E6 (Q2 g (v : Int) w (v : Int)).1 = some (Z3 (Q2 g (v : Int) w (v : Int)).1) ∧ v ≤ 40 ∧ i ≤ 6 := fun a b c v i hh => by
  obtain ⟨k1, k2⟩ := u08 hh
  have hg := ((H7 g).1 b).1
  obtain ⟨q1, q2, q3, q4⟩ := L4 b
  refine ⟨p.2[i], W5 k2, Q05 hg ⟨by omega, by omega⟩ ⟨by omega, by omega⟩ (by rw [← c]; exact X04 a _ (List.getElem_mem k2)), O02 _ (by have := Y04 hg (v : Int) p.2[i] (v : Int); omega), by omega, by have := U03 a; omega⟩
 have h9 : P0 g = true → ∀ e ∈ s6 g, (0 ≤ e.1 ∧ e.1 < g.2.1) ∧ e.2.1 ≠ 0 ∧ -3 ≤ e.2.1 ∧ e.2.1 ≤ 3 := fun h e he => by
  obtain ⟨k1, k2, k3, k4⟩ := W04 h he
  obtain ⟨q1, q2, q3, q4⟩ := L4 h
  exact ⟨k1, k2, by omega, by omega⟩
 unfold D9 at h4
 unfold Q1 Q0e
 obtain ⟨pr, rels⟩ := p
 obtain ⟨r, n, es⟩ := g
 unfold i8
 simp only [h1, Option.bind_some]
 cases hp : C4 (pr, rels) with
 | false => simp only [Bool.not_false, Bool.not_true, N5, Option.bind_some, cond_true, if_true, h3, Bool.false_and, cond_false]
 | true =>
  simp only [Bool.not_true, Bool.not_false, G2, h2, Option.bind_some, cond_false, Bool.true_and]
  cases hf : P0 (r, n, es) with
  | false => simp only [Bool.not_false, cond_true, if_true, h3, Option.bind_some, Bool.false_and, cond_false]
  | true =>
   simp only [Bool.not_true, cond_false, Bool.true_and]
   by_cases hr : pr = r
   ·subst hr
    have e4 : c7 (pr, rels) (pr, n, es) = some (X0a (V03 (pr, n, es) rels n.toNat 0)) := by
     rw [h4]; simp only [hp, hf, decide_true, Bool.and_true, cond_true]
    simp only [decide_true, Bool.not_true, Bool.false_eq_true, if_false, cond_true]
    have h8 := h8 hp hf rfl
    simp only at h8
    cases hh : V03 (pr, n, es) rels n.toNat 0 with
    | some q =>
     obtain ⟨v, i⟩ := q
     obtain ⟨w, k1, k2, k3, k4, k5⟩ := h8 v i hh
     rw [hh] at e4
     simp only [X0a] at e4
     rw [e4, Option.bind_some]
     try simp only []
     rw [N0 (show F0 ((v : Nat) : Int) from ⟨by omega, by omega⟩), Option.bind_some, N0 (show F0 ((i : Nat) : Int) from ⟨by omega, by omega⟩), Option.bind_some, if_pos (by simp), N3 k1, Option.bind_some, k2, Option.bind_some]
     unfold P0e
     simp only [k1]
     revert k3
     generalize Q2 (pr, n, es) (v : Int) w (v : Int) = ap
     intro k3
     obtain ⟨g2, ok⟩ := ap
     try simp only at k3
     cases ok with
     | false => simp only [Bool.not_false, if_true, h3, Option.bind_some, cond_false]
     | true => simp only [Bool.not_true, Bool.false_eq_true, if_false, k3, Option.bind_some, cond_true]
    | none =>
     rw [hh] at e4
     simp only [X0a] at e4
     rw [e4, Option.bind_some]
     try simp only []
     rw [N0 (show F0 (-1) from ⟨by omega, by omega⟩), Option.bind_some, Option.bind_some, if_neg (by simp), h5 hf, Option.bind_some]
     have h7 := h7 hf
     have h9 := h9 hf
     have h6 := h6 hf
     cases hm : s6 (pr, n, es) with
     | nil => simp only [List.length_nil]; rw [if_pos (by simp), h3]; rfl
     | cons e l =>
      have h7 := h7 e (by rw [hm]; exact List.mem_cons_self ..)
      obtain ⟨k1, k2, k3, k4⟩ := h9 e (by rw [hm]; exact List.mem_cons_self ..)
      rw [if_neg (by simp; omega), h6, Option.bind_some]
      revert h7
      generalize L1 (pr, n, es) = av
      intro h7
      obtain ⟨g2, ok⟩ := av
      simp only at h7
      simp only []
      cases ok with
      | false => simp only [Bool.not_false, if_true, h3, Option.bind_some, cond_false]
      | true =>
       have h7 := h7 rfl
       simp only [Bool.not_true, Bool.false_eq_true, if_false, cond_true]
       obtain ⟨e0, e1, e2⟩ := e
       simp only at k1 k2 k3 k4 h7
       rw [O04 rfl]
       simp only [Option.bind_some]
       revert h7
       generalize F7 g2 (stp e0 e1 n) = ae
       intro h7
       obtain ⟨g3, ok3⟩ := ae
       by_cases c : e1 < 0
       ·rw [if_pos (by simp [c]), w64 (by omega) (by omega), show ((n, 0 - e1, e0) : C0) = stp e0 e1 n by unfold stp; rw [if_pos c, Int.zero_sub], h7]
        cases ok3 <;> simp [h3]
       ·rw [if_neg (by simp; omega), show ((e0, e1, n) : C0) = stp e0 e1 n by unfold stp; rw [if_neg c], h7]
        cases ok3 <;> simp [h3]
   ·simp only [hr, decide_false, Bool.not_false, if_true, h3, Option.bind_some, cond_false]
theorem C07 (p : D0) (g : l0) (hl : p.2.length ≤ 140737488355328) (hs : L2 p.2) (hl2 : g.2.2.length ≤ 1099511627776) : j8 p g = some (Q1 p g) := by
 have h1 := U9 p hl hs
 have h2 := W9 g (by omega)
 have h3 := Y9 g hl2
 have h4 := z07 p g hl hs (by omega)
 have h5 : P0 g = true → M6 g = some (s6 g) := s0b
 have h6 : P0 g = true → S7 g = some (L1 g) := fun h => j09 ((H7 g).1 h).1
 have h7 : P0 g = true → ∀ e ∈ s6 g, (L1 g).2 = true → N8 (L1 g).1 (stp e.1 e.2.1 g.2.1) = some (F7 (L1 g).1 (stp e.1 e.2.1 g.2.1)) := fun h e he hv => q0b (f04 ((H7 g).1 h).1) (c0j h he hv)
 have h8 : C4 p = true → P0 g = true → p.1 = g.1 → ∀ v i : Nat, V03 g p.2 g.2.1.toNat 0 = some (v, i) → ∃ w, p.2[i]? = some w ∧ g8 g (v : Int) w (v : Int) = some (Q2 g (v : Int) w (v : Int)) ∧ F6 (Q2 g (v : Int) w (v : Int)).1 = some (Z3 (Q2 g (v : Int) w (v : Int)).1) ∧ v ≤ 40 ∧ i ≤ 6 := fun a b c v i hh => by
  obtain ⟨k1, k2⟩ := u08 hh
  have hg := ((H7 g).1 b).1
  obtain ⟨q1, q2, q3, q4⟩ := L4 b
  refine ⟨p.2[i], W5 k2, R05 hg ⟨by omega, by omega⟩ ⟨by omega, by omega⟩ (by rw [← c]; exact X04 a _ (List.getElem_mem k2)), P02 _ (by have := Y04 hg (v : Int) p.2[i] (v : Int); omega), by omega, by have := U03 a; omega⟩
 have h9 : P0 g = true → ∀ e ∈ s6 g, (0 ≤ e.1 ∧ e.1 < g.2.1) ∧ e.2.1 ≠ 0 ∧ -3 ≤ e.2.1 ∧ e.2.1 ≤ 3 := fun h e he => by
  obtain ⟨k1, k2, k3, k4⟩ := W04 h he
  obtain ⟨q1, q2, q3, q4⟩ := L4 h
  exact ⟨k1, k2, by omega, by omega⟩
 unfold D9 at h4
 unfold Q1 Q0e
 obtain ⟨pr, rels⟩ := p
 obtain ⟨r, n, es⟩ := g
 unfold j8
 simp only [h1, Option.bind_some]
 cases hp : C4 (pr, rels) with
 | false => simp only [Bool.not_false, Bool.not_true, N5, Option.bind_some, cond_true, if_true, h3, Bool.false_and, cond_false]
 | true =>
  simp only [Bool.not_true, Bool.not_false, G2, h2, Option.bind_some, cond_false, Bool.true_and]
  cases hf : P0 (r, n, es) with
  | false => simp only [Bool.not_false, cond_true, if_true, h3, Option.bind_some, Bool.false_and, cond_false]
  | true =>
   simp only [Bool.not_true, cond_false, Bool.true_and]
   by_cases hr : pr = r
   ·subst hr
    have e4 : d7 (pr, rels) (pr, n, es) = some (X0a (V03 (pr, n, es) rels n.toNat 0)) := by
     rw [h4]; simp only [hp, hf, decide_true, Bool.and_true, cond_true]
    simp only [decide_true, Bool.not_true, Bool.false_eq_true, if_false, cond_true]
    have h8 := h8 hp hf rfl
    simp only at h8
    cases hh : V03 (pr, n, es) rels n.toNat 0 with
    | some q =>
     obtain ⟨v, i⟩ := q
     obtain ⟨w, k1, k2, k3, k4, k5⟩ := h8 v i hh
     rw [hh] at e4
     simp only [X0a] at e4
     rw [e4, Option.bind_some]
     try simp only []
     rw [N0 (show F0 ((v : Nat) : Int) from ⟨by omega, by omega⟩), Option.bind_some, N0 (show F0 ((i : Nat) : Int) from ⟨by omega, by omega⟩), Option.bind_some, if_pos (by simp), N3 k1, Option.bind_some, k2, Option.bind_some]
     unfold P0e
     simp only [k1]
     revert k3
     generalize Q2 (pr, n, es) (v : Int) w (v : Int) = ap
     intro k3
     obtain ⟨g2, ok⟩ := ap
     try simp only at k3
     cases ok with
     | false => simp only [Bool.not_false, if_true, h3, Option.bind_some, cond_false]
     | true => simp only [Bool.not_true, Bool.false_eq_true, if_false, k3, Option.bind_some, cond_true]
    | none =>
     rw [hh] at e4
     simp only [X0a] at e4
     rw [e4, Option.bind_some]
     try simp only []
     rw [N0 (show F0 (-1) from ⟨by omega, by omega⟩), Option.bind_some, Option.bind_some, if_neg (by simp), h5 hf, Option.bind_some]
     have h7 := h7 hf
     have h9 := h9 hf
     have h6 := h6 hf
     cases hm : s6 (pr, n, es) with
     | nil => simp only [List.length_nil]; rw [if_pos (by simp), h3]; rfl
     | cons e l =>
      have h7 := h7 e (by rw [hm]; exact List.mem_cons_self ..)
      obtain ⟨k1, k2, k3, k4⟩ := h9 e (by rw [hm]; exact List.mem_cons_self ..)
      rw [if_neg (by simp; omega), h6, Option.bind_some]
      revert h7
      generalize L1 (pr, n, es) = av
      intro h7
      obtain ⟨g2, ok⟩ := av
      simp only at h7
      simp only []
      cases ok with
      | false => simp [h3]
      | true =>
       have h7 := h7 rfl
       simp only [Bool.not_true, Bool.false_eq_true, if_false, cond_true]
       obtain ⟨e0, e1, e2⟩ := e
       simp only at k1 k2 k3 k4 h7
       rw [O04 rfl]
       simp only [Option.bind_some]
       rw [Q0f e0 e1 n ⟨⟨by omega, by omega⟩, by omega⟩]
       simp only [Option.bind_some]
       revert h7
       generalize F7 g2 (stp e0 e1 n) = ae
       intro h7
       obtain ⟨g3, ok3⟩ := ae
       cases ok3 <;> simp [h3, h7]
   ·simp only [hr, decide_false, Bool.not_false, if_true, h3, Option.bind_some, cond_false]
end Go.Proofs.YtfdlgbfeceodeaaGreat
namespace Go.Proofs.YtfdlgbfeceodeaaGreat
open Go.H
set_option linter.unusedVariables false
set_option linter.unusedSimpArgs false
theorem S0f (g : Nat) : ∀ (d k : Nat) (x : Int), x ∈ wo g d k → ∃ j : Nat, x = (j : Int) ∧ k ≤ j ∧ j < k + d
 | 0, k, x, h => nomatch h
 | d + 1, k, x, h => by
  unfold wo at h
  split at h
  ·obtain ⟨j, h1, h2, h3⟩ := S0f g d (k + 1) x h
   exact ⟨j, h1, by omega, by omega⟩
  ·rcases List.mem_cons.1 h with rfl | h
   ·exact ⟨k, rfl, Nat.le_refl _, by omega⟩
   ·obtain ⟨j, h1, h2, h3⟩ := S0f g d (k + 1) x h
    exact ⟨j, h1, by omega, by omega⟩
theorem D07 (g : Nat) : ∀ (d k : Nat), (wo g d k).Nodup
 | 0, k => List.nodup_nil
 | d + 1, k => by
  unfold wo
  split
  ·exact D07 g d (k + 1)
  ·refine List.nodup_cons.2 ⟨fun h => ?_, D07 g d (k + 1)⟩
   obtain ⟨j, h1, h2, h3⟩ := S0f g d (k + 1) _ h
   omega
theorem k0d (P : List Int) : ∀ (es : List C0), ∀ e ∈ pE P es, ∃ a ∈ es, e = (getI P a.1, a.2.1, getI P a.2.2) ∧ 0 ≤ getI P a.1 ∧ 0 ≤ getI P a.2.2
 | [], e, h => nomatch h
 | b :: r, e, h => by
  unfold pE at h
  cases hb : decide (0 ≤ getI P b.1) && decide (0 ≤ getI P b.2.2)
  ·rw [hb] at h
   obtain ⟨a, h1, h2⟩ := k0d P r e h
   exact ⟨a, List.mem_cons_of_mem _ h1, h2⟩
  ·rw [hb] at h
   simp only [Bool.and_eq_true, decide_eq_true_eq] at hb
   rcases List.mem_cons.1 h with rfl | h
   ·exact ⟨b, List.mem_cons_self .., rfl, hb.1, hb.2⟩
   ·obtain ⟨a, h1, h2⟩ := k0d P r e h
    exact ⟨a, List.mem_cons_of_mem _ h1, h2⟩
theorem c0b {g : l0} {o : List Int} (hg : M0 g = true) (ho : inV g.2.1.toNat o) (h1 : 1 ≤ o.length) (h2 : o.length ≤ 40) : M0 (F9 g o) = true := by
 obtain ⟨q1, q2, q3, q4⟩ := O1 hg
 have hl := d0d (plc g.2.1.toNat o) g.2.2
 refine v07 q2 ⟨by omega, by omega⟩ (by omega) fun e he => ?_
 obtain ⟨a, ha, rfl, k1, k2⟩ := k0d _ _ e he
 have hq := q1 a ha
 have r1 := (q03 ho (x := a.1) (by omega)).2
 have r2 := (q03 ho (x := a.2.2) (by omega)).2
 exact ⟨⟨k1, r1⟩, ⟨k2, r2⟩, hq.2.2⟩
theorem d0b {n : Nat} : ∀ (o : List Int) (k : Nat) (A : List Int), A.length = n → inV n o → o.Nodup → (∀ x, 0 ≤ x → getI A x < (k : Int)) → (∀ x y, 0 ≤ x → 0 ≤ y → 0 ≤ getI A x → getI A x = getI A y → x = y) →
  ∀ x y, 0 ≤ x → 0 ≤ y → 0 ≤ getI (P00 A k o) x → getI (P00 A k o) x = getI (P00 A k o) y → x = y
 | [], k, A, hA, ho, hd, hr, hi => hi
 | v :: r, k, A, hA, ho, hd, hr, hi => by
  have hv := ho v (List.mem_cons_self ..)
  refine d0b r (k + 1) (A.set v.toNat (k : Int)) (by simp [hA]) (fun w hw => ho w (List.mem_cons_of_mem _ hw)) (List.nodup_cons.1 hd).2 (fun x hx => ?_) (fun x y hx hy h0 he => ?_)
  ·rw [p03 hv.1 (by omega) hx]
   have := hr x hx
   split <;> omega
  ·rw [p03 hv.1 (by omega) hx] at h0 he
   rw [p03 hv.1 (by omega) hy] at he
   have h1 := hr x hx
   have h2 := hr y hy
   by_cases c1 : x = v
   ·by_cases c2 : y = v
    ·rw [c1, c2]
    ·rw [if_pos c1, if_neg c2] at he; omega
   ·by_cases c2 : y = v
    ·rw [if_neg c1, if_pos c2] at he; omega
    ·rw [if_neg c1] at h0; rw [if_neg c1, if_neg c2] at he
     exact hi x y hx hy h0 he
theorem X0g {n : Nat} {o : List Int} (ho : inV n o) (hd : o.Nodup) {x y : Int} (hx : 0 ≤ x) (hy : 0 ≤ y) (h0 : 0 ≤ getI (plc n o) x) (he : getI (plc n o) x = getI (plc n o) y) : x = y := by
 refine d0b o 0 (List.replicate n (-1)) (by simp) ho hd (fun x hx => by rw [S04]; omega) (fun x y _ _ h _ => by rw [S04] at h; omega) x y hx hy h0 he
theorem d0j {es : List C0} (h : es.Pairwise fun a b => n02 a b = false) {a b : C0} (ha : a ∈ es) (hb : b ∈ es) (hne : a ≠ b) : n02 a b = false := by
 induction es with
 | nil => cases ha
 | cons c r ih =>
  obtain ⟨h1, h2⟩ := List.pairwise_cons.1 h
  rcases List.mem_cons.1 ha with rfl | ha'
  ·rcases List.mem_cons.1 hb with rfl | hb'
   ·exact absurd rfl hne
   ·exact h1 b hb'
  ·rcases List.mem_cons.1 hb with rfl | hb'
   ·rw [l08]; exact h1 a ha'
   ·exact ih h2 ha' hb'
theorem Q0j {es : List C0} (hA : Asc K0 es) (h : ∀ a ∈ es, ∀ b ∈ es, a ≠ b → n02 a b = false) : es.Pairwise fun a b => n02 a b = false := by
 induction es with
 | nil => exact .nil
 | cons c r ih =>
  obtain ⟨h1, h2⟩ := List.pairwise_cons.1 hA
  refine List.pairwise_cons.2 ⟨fun b hb => h c (List.mem_cons_self ..) b (List.mem_cons_of_mem _ hb) fun e => ?_, ih h2 fun a ha b hb => h a (List.mem_cons_of_mem _ ha) b (List.mem_cons_of_mem _ hb)⟩
  have := h1 b hb
  rw [e, Z5.refl] at this; omega
theorem k0c {g : l0} (hg : M0 g = true) : P0 g = true ↔ ∀ a ∈ g.2.2, ∀ b ∈ g.2.2, a ≠ b → n02 a b = false := by
 rw [H7, r08]
 exact ⟨fun h a ha b hb hne => d0j h.2 ha hb hne, fun h => ⟨hg, Q0j (graph_asc' hg) h⟩⟩
where graph_asc' {g : l0} (h : M0 g = true) : Asc K0 g.2.2 := ((C9 g).1 h).2.2.2.2
theorem R0e {g : l0} {o : List Int} (hf : P0 g = true) (ho : inV g.2.1.toNat o) (hd : o.Nodup) (h1 : 1 ≤ o.length) (h2 : o.length ≤ 40) : P0 (F9 g o) = true := by
 have hg := M01 hf
 obtain ⟨q1, q2, q3, q4⟩ := O1 hg
 refine (k0c (c0b hg ho h1 h2)).2 fun a ha b hb hne => ?_
 have mem : ∀ e ∈ (F9 g o).2.2, ∃ a ∈ g.2.2, e = (getI (plc g.2.1.toNat o) a.1, a.2.1, getI (plc g.2.1.toNat o) a.2.2) ∧ 0 ≤ getI (plc g.2.1.toNat o) a.1 ∧ 0 ≤ getI (plc g.2.1.toNat o) a.2.2 := fun e he => by
  rcases (U8 Z5 e _ _).1 he with h | h
  ·cases h
  ·exact k0d _ _ e h
 obtain ⟨a', ha', rfl, k1, k2⟩ := mem a ha
 obtain ⟨b', hb', rfl, k3, k4⟩ := mem b hb
 have hne' : a' ≠ b' := fun e => hne (by rw [e])
 have hc := (k0c hg).1 hf a' ha' b' hb' hne'
 have ra := q1 a' ha'
 have rb := q1 b' hb'
 unfold n02 at hc ⊢
 simp only [Bool.and_eq_false_iff, Bool.or_eq_false_iff, decide_eq_false_iff_not] at hc ⊢
 rcases hc with hc | ⟨hc1, hc2⟩
 ·exact .inl hc
 ·exact .inr ⟨fun e => hc1 (X0g ho hd ra.1.1 rb.1.1 k1 e), fun e => hc2 (X0g ho hd ra.2.1.1 rb.2.1.1 k2 e)⟩
def u03 : Nat → l0 → l0
 | 0, g => g
 | d + 1, g => match N02 g with
  | none => g
  | some k => u03 d (F9 g (wo k g.2.1.toNat 0))
theorem Y0g {g : l0} {k : Nat} (h : N02 g = some k) : 1 ≤ k ∧ k < g.2.1.toNat := by
 have := R0a _ _ _ h
 omega
theorem l0c {g : l0} (hg : M0 g = true) {k : Nat} (h : N02 g = some k) : inV g.2.1.toNat (wo k g.2.1.toNat 0) ∧ (wo k g.2.1.toNat 0).length = g.2.1.toNat - 1 ∧ 1 ≤ (wo k g.2.1.toNat 0).length ∧ (wo k g.2.1.toNat 0).length ≤ 40 := by
 obtain ⟨q1, q2, q3, q4⟩ := O1 hg
 have hk := Y0g h
 have hlen := P0f k g.2.1.toNat 0
 rw [if_pos (by omega)] at hlen
 exact ⟨W0i k _ _ 0 (by omega), hlen, by omega, by omega⟩
theorem W03 : ∀ (d : Nat) {g : l0}, P0 g = true → P0 (u03 d g) = true
 | 0, g, h => h
 | d + 1, g, h => by
  unfold u03
  cases e : N02 g with
  | none => exact h
  | some k =>
   obtain ⟨h1, h2, h3, h4⟩ := l0c (M01 h) e
   exact W03 d (R0e h h1 (D07 _ _ _) h3 h4)
theorem e0b (n g : Nat) (hn : n ≤ 1000) (u : List Int) (hu : u.length = n) : ∀ (d k fuel : Nat) (acc bcc : List Int), k + d = n → d < fuel → acc.length ≤ k → bcc.length ≤ k →
  ∃ v, N4 (n : Int) (g : Int) u fuel (k : Int) acc bcc = some (acc ++ wo g d k, v) ∧ v.length + acc.length = bcc.length + (acc ++ wo g d k).length
 | d, k, 0, acc, bcc, hd, hf, ha, hb => by omega
 | 0, k, fuel + 1, acc, bcc, hd, hf, ha, hb => by
  rw [N4.eq_2, if_neg (by simp; omega)]; exact ⟨bcc, by simp [wo], by simp [wo]⟩
 | d + 1, k, fuel + 1, acc, bcc, hd, hf, ha, hb => by
  have hx := W5 (show k < u.length by omega)
  generalize u[k] = x at hx
  rw [N4.eq_2, if_pos (by simp; omega), A2 (show k < 10000 by omega) (by omega)]
  unfold wo
  by_cases c : k = g
  ·have e : decide ((k : Int) = (g : Int)) = true := decide_eq_true (by omega)
   rw [e, if_neg (by simp), if_pos c]
   exact e0b n g hn u hu d (k + 1) fuel acc bcc (by omega) (by omega) (by omega) (by omega)
  ·have e : decide ((k : Int) = (g : Int)) = false := decide_eq_false (by omega)
   rw [e, if_pos (show (!false) = true from rfl), if_neg c, N0 (by simp; omega), Option.bind_some, N3 hx, Option.bind_some, N0 (by simp; omega), Option.bind_some]
   obtain ⟨v, h1, h2⟩ := e0b n g hn u hu d (k + 1) fuel (acc ++ [(k : Int)]) (bcc ++ [x]) (by omega) (by omega) (by simp; omega) (by simp; omega)
   refine ⟨v, by rw [h1]; simp, ?_⟩
   simp only [List.length_append, List.length_cons, List.length_nil] at h2 ⊢
   omega
theorem S0e (g : l0) (hg : M0 g = true) : ∀ (d k fuel : Nat) (acc : List Int), k + d = g.2.1.toNat → d < fuel → acc.length = k →
  ∃ u, j5 g.2.1 g.1 g.2.2 fuel (k : Int) acc = some u ∧ u.length = g.2.1.toNat
 | d, k, 0, acc, hd, hf, ha => by omega
 | 0, k, fuel + 1, acc, hd, hf, ha => by
  obtain ⟨q1, q2, q3, q4⟩ := O1 hg
  rw [j5.eq_2, show decide (((k : Nat) : Int) < g.2.1) = false by simp; omega]
  exact ⟨acc, by simp [chk], by omega⟩
 | d + 1, k, fuel + 1, acc, hd, hf, ha => by
  obtain ⟨q1, q2, q3, q4⟩ := O1 hg
  obtain ⟨u, h1, h2⟩ := S0e g hg d (k + 1) fuel (acc ++ [(k : Int)]) (by omega) (by omega) (by simp; omega)
  rw [j5.eq_2, show decide (((k : Nat) : Int) < g.2.1) = true by simp; omega, G2, show (g.1, g.2.1, g.2.2) = g from rfl, R5 g (by omega), Option.bind_some, hg]
  rw [if_pos (show (bif true then true else false) = true from rfl), N0 (by simp; omega), Option.bind_some, A2 (show k < 1000 by omega) (by omega), h1]
  exact ⟨u, rfl, h2⟩
theorem T0e (g0 : l0) (hg0 : M0 g0 = true) : ∀ (d k fuel : Nat) (g : l0) (u : List Int), k + d = 40 → d < fuel → M0 g = true → u.length = g.2.1.toNat → g.2.1.toNat ≤ d + 1 →
  ∃ v, (i5 g0.1 g0.2.1 g0.2.2 fuel u (k : Int) g.1 g.2.1 g.2.2).bind (fun X => l7 X (fun S => match S with | (a, b, c, e) => some ((b, c, e), a))) = some (u03 d g, v)
 | d, k, 0, g, u, hd, hf, hg, hu, hn => by omega
 | 0, k, fuel + 1, g, u, hd, hf, hg, hu, hn => by
  rw [i5.eq_2, show decide (((k : Nat) : Int) < 40) = false by simp; omega]
  exact ⟨u, by simp [chk, l7, u03]⟩
 | d + 1, k, fuel + 1, g, u, hd, hf, hg, hu, hn => by
  obtain ⟨p1, p2, p3, p4⟩ := O1 hg0
  obtain ⟨q1, q2, q3, q4⟩ := O1 hg
  have hl := L0k g hg
  rw [i5.eq_2, show decide (((k : Nat) : Int) < 40) = true by simp; omega, G2, show (g0.1, g0.2.1, g0.2.2) = g0 from rfl, R5 g0 (by omega), Option.bind_some, hg0]
  rw [if_pos (show (bif true then true else false) = true from rfl), show (g.1, g.2.1, g.2.2) = g from rfl, hl]
  unfold u03
  cases e : N02 g with
  | none =>
   simp only [Option.bind_some]
   rw [N0 (show F0 (-1) from ⟨by omega, by omega⟩), Option.bind_some, if_pos (by simp)]
   exact ⟨u, rfl⟩
  | some j =>
   obtain ⟨h1, h2, h3, h4⟩ := l0c hg e
   have hj := Y0g e
   obtain ⟨N, hN⟩ : ∃ N : Nat, g.2.1 = (N : Int) := ⟨g.2.1.toNat, by omega⟩
   have hNt : g.2.1.toNat = N := by omega
   obtain ⟨v, w1, w2⟩ := e0b N j (by omega) u (by omega) N 0 S0 [] [] (by omega) (W0 (by omega)) (Nat.le_refl _) (Nat.le_refl _)
   have hr := N0a g.1 N g.2.2 (wo j N 0) (by rw [← hN]; exact hg) (by rw [← hNt]; exact h1) (D07 _ _ _) (by rw [← hNt]; exact h3) (by rw [← hNt]; omega)
   rw [← hN, show (g.1, g.2.1, g.2.2) = g from rfl] at hr
   have hG := c0b hg h1 h3 h4
   rw [hNt] at hG h2 h3
   obtain ⟨v2, z⟩ := T0e g0 hg0 d (k + 1) fuel (F9 g (wo j N 0)) v (by omega) (by omega) hG (by simp only [List.nil_append, List.length_nil] at w2; show v.length = ((wo j N 0).length : Int).toNat; omega) (by show ((wo j N 0).length : Int).toNat ≤ d + 1; omega)
   simp only [Option.bind_some]
   rw [N0 (show F0 ((j : Nat) : Int) from ⟨by omega, by omega⟩), Option.bind_some, if_neg (by simp), hN, show (0 : Int) = ((0 : Nat) : Int) from rfl, w1]
   simp only [Option.bind_some, List.nil_append]
   rw [← hN, hr]
   simp only [Option.bind_some]
   rw [A2 (show k < 1000 by omega) (by omega), hNt]
   exact ⟨v2, z⟩
def f0b (g : l0) : l0 := u03 40 g
theorem T0f {g : l0} (hg : M0 g = true) : ∃ v, O8 g = some (f0b g, v) := by
 obtain ⟨q1, q2, q3, q4⟩ := O1 hg
 have hc := B00 g (by omega)
 obtain ⟨u, h1, h2⟩ := S0e g hg g.2.1.toNat 0 S0 [] (by omega) (W0 (by omega)) rfl
 obtain ⟨v, h3⟩ := T0e g hg 40 0 S0 g u rfl (W0 (by omega)) hg h2 (by omega)
 refine ⟨v, ?_⟩
 obtain ⟨r, n, es⟩ := g
 unfold O8
 simp only [hc, Option.bind_some]
 simp only at h1 h3
 rw [show (0 : Int) = ((0 : Nat) : Int) from rfl, h1, Option.bind_some]
 exact h3
theorem U0e : ∀ (n fuel d : Nat) (left : List Int) (r : Int) (es : List C0), 1 ≤ n → n ≤ 40 → inN n es → es.length ≤ 120 → left.length = n → n < fuel → n ≤ d + 1 →
  ∃ l', Y5 fuel left r (n : Int) es = some (.inl (u03 d (r, (n : Int), es), l'))
 | n, 0, d, left, r, es, h1, h2, hn, hes, hl, hf, hd => by omega
 | n, fuel + 1, d, left, r, es, h1, h2, hn, hes, hl, hf, hd => by
  obtain ⟨S, eS, lS, hS⟩ := I0i r n es hn (by omega) h1 (by omega)
  have ht1 := S0g r n es (by omega) S lS h2 (n - 1) 1 S0 (Nat.le_refl _) (by omega) (by omega) (W0 (by omega))
  have hcg : lf (fun v => decide (P03 (v : Int) es < 2) || !o8 S (v : Int)) (n - 1) 1 = lf (N0f es) (n - 1) 1 := z0e _ _ fun k k1 k2 => by
   unfold N0f
   have := hS (k : Int) (by omega) (by omega)
   have h3 := N0j es 0 (k : Int)
   congr 2
   cases hb : o8 S (k : Int)
   ·symm; exact decide_eq_false fun h => by rw [this.2 (h3.1 h)] at hb; cases hb
   ·symm; exact decide_eq_true (h3.2 (this.1 hb))
  rw [hcg] at ht1
  have hleaf : N02 (r, (n : Int), es) = lf (N0f es) (n - 1) 1 := by simp only [N02, Int.toNat_natCast]
  rw [Y5.eq_2, eS, Option.bind_some, show (1 : Int) = ((1 : Nat) : Int) from rfl, ht1, Option.bind_some]
  cases hlf : lf (N0f es) (n - 1) 1 with
  | none =>
   have e2 : u03 d (r, (n : Int), es) = (r, (n : Int), es) := by
    cases d with
    | zero => rfl
    | succ d => unfold u03; rw [hleaf, hlf]
   rw [e2]
   exact ⟨left, by rw [if_pos (by rfl)]⟩
  | some k =>
   have hk := R0a _ _ _ hlf
   have e0 : decide ((k : Int) = 0) = false := decide_eq_false (by omega)
   have ho := W0i k n n 0 (by omega)
   have hlen := P0f k n 0
   rw [if_pos (by omega)] at hlen
   have ht0 := T0g n k (by omega) n 0 S0 [] (by omega) (W0 (by omega)) (Nat.le_refl _)
   rw [show ((0 : Nat) : Int) = 0 from rfl, List.nil_append] at ht0
   have hp := M0i r n es (wo k n 0) hn ho (by omega) (by omega) (by omega)
   have hpl := M0f (r, (n : Int), es) (wo k n 0)
   have hpi := K0h (r := r) ho hn
   have hw : IntKind.i64.wrap ((k : Int) + ((1 : Nat) : Int)) = ((k + 1 : Nat) : Int) := by rw [w64 (by omega) (by omega)]; rfl
   obtain ⟨d', rfl⟩ : ∃ d', d = d' + 1 := ⟨d - 1, by omega⟩
   have hF : F9 (r, (n : Int), es) (wo k n 0) = (r, ((n - 1 : Nat) : Int), (F9 (r, (n : Int), es) (wo k n 0)).2.2) := by rw [← hlen]; rfl
   obtain ⟨l', q1⟩ := U0e (n - 1) fuel d' (left.take k ++ left.drop (k + 1)) r (F9 (r, (n : Int), es) (wo k n 0)).2.2 (by omega) (by omega) (by rw [hlen] at hpi; exact hpi) (by simp only at hpl; omega) (by simp only [List.length_append, List.length_take, List.length_drop]; omega) (by omega) (by omega)
   refine ⟨l', ?_⟩
   rw [← hF] at q1
   have e2 : u03 (d' + 1) (r, (n : Int), es) = u03 d' (F9 (r, (n : Int), es) (wo k n 0)) := by
    show (match N02 (r, (n : Int), es) with | none => (r, (n : Int), es) | some k => u03 d' (F9 (r, (n : Int), es) (wo k ((n : Int)).toNat 0))) = _
    rw [hleaf, hlf, Int.toNat_natCast]
   rw [e2]
   simp only [e0, Bool.false_eq_true, if_false, ht0, Option.bind_some, hp]
   generalize F9 (r, (n : Int), es) (wo k n 0) = gp at *
   rw [hF]
   simp only [hw]
   rw [X0i (by omega), Option.bind_some, p06 (by omega), Option.bind_some, N0 (by simp only [List.length_take, List.length_drop]; omega), Option.bind_some, q1, ← hF]
theorem V0e {g : l0} (hg : M0 g = true) : ∃ v, M8 g = some (f0b g, v) := by
 obtain ⟨h1, h2, h3, h4⟩ := O1 hg
 have hq := G8 g (by omega)
 have hc := Y9 g (by omega)
 obtain ⟨r, n, es⟩ := g
 simp only at h2 h3 h4
 obtain ⟨N, rfl⟩ : ∃ N : Nat, n = (N : Int) := ⟨n.toNat, by omega⟩
 have hn : inN N es := fun e he => ⟨(h1 e he).1, (h1 e he).2.1⟩
 obtain ⟨u, e1, e2⟩ := U0g N (by omega) N 0 S0 [] (by omega) (W0 (by omega)) rfl
 obtain ⟨l', q1⟩ := U0e N S0 40 u r es (by omega) (by omega) hn h4 e2 (W0 (by omega)) (by omega)
 refine ⟨l', ?_⟩
 unfold M8
 rw [show ((0 : Nat) : Int) = 0 from rfl] at e1
 simp only [hc, Option.bind_some, hq, hg, Bool.not_true, Bool.false_eq_true, if_false, e1, q1, l7]
 rfl
def r06 (g : l0) : l0 := f0d (f0b g)
theorem E07 {g : l0} (hf : P0 g = true) : Z3 g = (g, []) := by
 obtain ⟨h1, h2⟩ := (H7 g).1 hf
 unfold Z3
 rw [h1]
 show N9 40 g = _
 unfold N9
 rw [h2]
theorem U0f {g : l0} (hf : P0 g = true) : T7 g = some (r06 g) := by
 have hg := M01 hf
 obtain ⟨h1, h2, h3, h4⟩ := O1 hg
 have e1 := O02 g (by omega)
 rw [E07 hf] at e1
 obtain ⟨v, e2⟩ := T0f hg
 have e3 := y0e (f0b g) (W03 40 hf)
 obtain ⟨r, n, es⟩ := g
 unfold T7 r06
 simp only [e1, Option.bind_some, e2]
 simp only [e3, Option.bind_some]
theorem V0f {g : l0} (hf : P0 g = true) : U7 g = some (r06 g) := by
 have hg := M01 hf
 obtain ⟨h1, h2, h3, h4⟩ := O1 hg
 have e1 := P02 g (by omega)
 rw [E07 hf] at e1
 obtain ⟨v, e2⟩ := V0e hg
 have e3 := x0e (f0b g) (W03 40 hf)
 obtain ⟨r, n, es⟩ := g
 unfold U7 r06
 simp only [e1, Option.bind_some, e2]
 simp only [e3, Option.bind_some]
end Go.Proofs.YtfdlgbfeceodeaaGreat
namespace Go.Proofs.YtfdlgbfeceodeaaGreat
open Go.H
set_option linter.unusedVariables false
set_option linter.unusedSimpArgs false
theorem e0j {N r u x v : Int} (hu : 0 ≤ u ∧ u < N) (hv : 0 ≤ v ∧ v < N) (hx : x ≠ 0 ∧ -r ≤ x ∧ x ≤ r) : (0 ≤ (stp u x v).1 ∧ (stp u x v).1 < N) ∧ (0 ≤ (stp u x v).2.2 ∧ (stp u x v).2.2 < N) ∧ 1 ≤ (stp u x v).2.1 ∧ (stp u x v).2.1 ≤ r := by
 unfold stp
 split <;> (simp only; omega)
theorem W0e {N r v : Int} (hv : 0 ≤ v ∧ v < N) : ∀ (w : List Int) (u n : Int), (0 ≤ u ∧ u < N) → 0 ≤ n → n + ((w.length - 1 : Nat) : Int) ≤ N → (∀ x ∈ w, x ≠ 0 ∧ -r ≤ x ∧ x ≤ r) →
  ∀ e ∈ v00 v w u n, (0 ≤ e.1 ∧ e.1 < N) ∧ (0 ≤ e.2.2 ∧ e.2.2 < N) ∧ 1 ≤ e.2.1 ∧ e.2.1 ≤ r
 | [], u, n, hu, h0, hn, hw, e, he => nomatch he
 | [x], u, n, hu, h0, hn, hw, e, he => by
  simp only [v00, List.mem_singleton] at he
  subst he
  exact e0j hu hv (hw x (List.mem_cons_self ..))
 | x :: y :: l, u, n, hu, h0, hn, hw, e, he => by
  simp only [List.length_cons] at hn
  simp only [v00] at he
  rcases List.mem_cons.1 he with rfl | he
  ·exact e0j hu ⟨h0, by omega⟩ (hw x (List.mem_cons_self ..))
  ·exact W0e hv (y :: l) n (n + 1) ⟨h0, by omega⟩ (by omega) (by simp only [List.length_cons]; omega) (fun z hz => hw z (List.mem_cons_of_mem _ hz)) e he
theorem Q02 {g : l0} {u v : Int} {w : List Int} (hg : M0 g = true) (hu : 0 ≤ u ∧ u < g.2.1) (hv : 0 ≤ v ∧ v < g.2.1) (hw : Q4 g.1 w = true) : M0 (Q2 g u w v).1 = true := by
 obtain ⟨q1, q2, q3, q4, q5⟩ := (C9 g).1 hg
 obtain ⟨wl, wx⟩ := j0d hw
 unfold Q2
 cases hc : (!w.isEmpty && decide (g.2.1 + (w.length : Int) - 1 ≤ 40) && decide (g.2.2.length + w.length ≤ 120)) with
 | false => exact hg
 | true =>
  simp only [Bool.and_eq_true, decide_eq_true_eq, Bool.not_eq_true', List.isEmpty_eq_false_iff] at hc
  have hne : 1 ≤ w.length := by
   have := List.length_pos_iff.2 hc.1.1; omega
  have h1 := y01 (v00 v w u g.2.1) g.2.2
  have h2 := u05 v w u g.2.1
  simp only [cond_true]
  refine (C9 _).2 ⟨fun e he => ?_, q2, ⟨by simp only; omega, by simp only; omega⟩, by simp only; omega, f01 Z5 _ _ q5⟩
  simp only at he ⊢
  rcases (U8 Z5 e _ _).1 he with h | h
  ·have := q1 e h
   omega
  ·exact W0e ⟨by omega, by omega⟩ w u g.2.1 ⟨by omega, by omega⟩ (by omega) (Int.le_refl _) (fun x hx => (wx x hx).2) e h
theorem X03 (g : l0) (u : Int) (w : List Int) (v : Int) : (Q2 g u w v).1.1 = g.1 := by
 unfold Q2
 cases (!w.isEmpty && decide (g.2.1 + (w.length : Int) - 1 ≤ 40) && decide (g.2.2.length + w.length ≤ 120)) <;> rfl
def d00 : List (List Int) → l0 → l0
 | [], g => g
 | w :: r, g => d00 r (Q2 g 0 w 0).1
theorem c09 : ∀ (ws : List (List Int)) {g : l0}, M0 g = true → (∀ w ∈ ws, Q4 g.1 w = true) → M0 (d00 ws g) = true
 | [], g, hg, hw => hg
 | w :: r, g, hg, hw => by
  obtain ⟨q1, q2, q3, q4⟩ := O1 hg
  exact c09 r (Q02 hg ⟨Int.le_refl _, by omega⟩ ⟨Int.le_refl _, by omega⟩ (hw w (List.mem_cons_self ..))) fun w' hw' => by
   rw [X03]; exact hw w' (List.mem_cons_of_mem _ hw')
theorem X0e {g : l0} {w : List Int} (hg : M0 g = true) (hw : Q4 g.1 w = true) : i9 g w = some (Q2 g 0 w 0) := by
 obtain ⟨q1, q2, q3, q4⟩ := O1 hg
 have h := Q05 hg (u := 0) (v := 0) ⟨Int.le_refl _, by omega⟩ ⟨Int.le_refl _, by omega⟩ hw
 obtain ⟨r, n, es⟩ := g
 unfold i9
 simp only [h, Option.bind_some]
theorem Y0e {g : l0} {w : List Int} (hg : M0 g = true) (hw : Q4 g.1 w = true) : o9 g w = some (Q2 g 0 w 0) := by
 obtain ⟨q1, q2, q3, q4⟩ := O1 hg
 have h := R05 hg (u := 0) (v := 0) ⟨Int.le_refl _, by omega⟩ ⟨Int.le_refl _, by omega⟩ hw
 obtain ⟨r, n, es⟩ := g
 unfold o9
 simp only [h, Option.bind_some]
theorem m0c (ws : List (List Int)) (hl : ws.length ≤ 1000) : ∀ (d k fuel : Nat) (g : l0), k + d = ws.length → d < fuel → M0 g = true → (∀ w ∈ ws, Q4 g.1 w = true) →
  K5 ws fuel (k : Int) g.1 g.2.1 g.2.2 = some (d00 (ws.drop k) g)
 | d, k, 0, g, hd, hf, hg, hw => by omega
 | 0, k, fuel + 1, g, hd, hf, hg, hw => by
  rw [K5.eq_2, if_neg (by simp; omega), E1 (by omega)]; rfl
 | d + 1, k, fuel + 1, g, hd, hf, hg, hw => by
  have hk : k < ws.length := by omega
  have hx := W5 hk
  have hwk := hw _ (List.getElem_mem hk)
  generalize ws[k] = w at hx hwk
  obtain ⟨q1, q2, q3, q4⟩ := O1 hg
  have ih := m0c ws hl d (k + 1) fuel (Q2 g 0 w 0).1 (by omega) (by omega) (Q02 hg ⟨Int.le_refl _, by omega⟩ ⟨Int.le_refl _, by omega⟩ hwk) (by rw [X03]; exact hw)
  rw [K5.eq_2, if_pos (by simp; omega), N3 hx, Option.bind_some, show (g.1, g.2.1, g.2.2) = g from rfl, X0e hg hwk, Option.bind_some, A2 hk (by omega), K1 hx]
  exact ih
theorem n0c (ws : List (List Int)) (hl : ws.length ≤ 1000) : ∀ (d k fuel : Nat) (g : l0), k + d = ws.length → d < fuel → M0 g = true → (∀ w ∈ ws, Q4 g.1 w = true) →
  W4 ws fuel (k : Int) g.1 g.2.1 g.2.2 = some (d00 (ws.drop k) g)
 | d, k, 0, g, hd, hf, hg, hw => by omega
 | 0, k, fuel + 1, g, hd, hf, hg, hw => by
  rw [W4.eq_2, if_neg (by simp; omega), E1 (by omega)]; rfl
 | d + 1, k, fuel + 1, g, hd, hf, hg, hw => by
  have hk : k < ws.length := by omega
  have hx := W5 hk
  have hwk := hw _ (List.getElem_mem hk)
  generalize ws[k] = w at hx hwk
  obtain ⟨q1, q2, q3, q4⟩ := O1 hg
  have ih := n0c ws hl d (k + 1) fuel (Q2 g 0 w 0).1 (by omega) (by omega) (Q02 hg ⟨Int.le_refl _, by omega⟩ ⟨Int.le_refl _, by omega⟩ hwk) (by rw [X03]; exact hw)
  rw [W4.eq_2, if_pos (by simp; omega), N3 hx, Option.bind_some, A2 hk (by omega), K1 hx]
  by_cases c : w = []
  ·subst c
   rw [if_neg (by simp)]
   have e : (Q2 g 0 [] 0).1 = g := rfl
   rw [e] at ih
   rw [ih]
   show _ = some (d00 (ws.drop (k + 1)) (Q2 g 0 [] 0).1)
   rw [e]
  ·have : 0 < w.length := List.length_pos_iff.2 c
   rw [if_pos (by simp; omega), show (g.1, g.2.1, g.2.2) = g from rfl, Y0e hg hwk, Option.bind_some]
   exact ih
def v03 (r : Int) (ws : List (List Int)) : l0 × Bool := bif P3 r ws then (d00 ws (r, 1, []), true) else ((0, 0, []), false)
theorem v08 {r : Int} {ws : List (List Int)} (h : P3 r ws = true) : (1 ≤ r ∧ r ≤ 3) ∧ ws.length ≤ 6 ∧ ∀ w ∈ ws, Q4 r w = true := by
 simp only [P3, inR, Bool.and_eq_true, decide_eq_true_eq] at h
 refine ⟨h.1.1.1, h.1.1.2, ?_⟩
 have hw : ∀ {ws : List (List Int)}, z05 r ws = true → ∀ w ∈ ws, Q4 r w = true := by
  intro ws
  induction ws with
  | nil => intro _ w hw; cases hw
  | cons v l ih =>
   intro h w hw
   simp only [z05, Bool.and_eq_true] at h
   rcases List.mem_cons.1 hw with rfl | hw
   ·exact h.1
   ·exact ih h.2 w hw
 exact hw h.1.2
theorem w08 {r : Int} (hr : 1 ≤ r ∧ r ≤ 3) : M0 (r, 1, []) = true := (C9 _).2 ⟨(fun e he => by cases he), hr, ⟨by simp, by simp⟩, by simp, List.Pairwise.nil⟩
theorem l0d (r : Int) (ws : List (List Int)) (hl : ws.length ≤ 140737488355328) (hs : L2 ws) : j9 r ws = some (v03 r ws) := by
 have h1 := P04 r ws hl hs
 unfold j9 v03
 rw [h1, Option.bind_some]
 cases hA : P3 r ws with
 | false => rfl
 | true =>
  obtain ⟨hr, hn, hw⟩ := v08 hA
  have h := m0c ws (by omega) ws.length 0 S0 (r, 1, []) (by omega) (W0 (by omega)) (w08 hr) hw
  have h2 : g9 r = some ((r, 1, []), true) := by
   unfold g9
   rw [D01, Option.bind_some, if_neg (by simp [inR]; omega)]
  rw [if_neg (by simp), h2, Option.bind_some]
  simp only [] at h ⊢
  rw [show (0 : Int) = ((0 : Nat) : Int) from rfl, h]
  rfl
theorem m0d (r : Int) (ws : List (List Int)) (hl : ws.length ≤ 140737488355328) (hs : L2 ws) : p9 r ws = some (v03 r ws) := by
 have h1 := Q04 r ws hl hs
 unfold p9 v03
 rw [h1, Option.bind_some]
 cases hA : P3 r ws with
 | false => rfl
 | true =>
  obtain ⟨hr, hn, hw⟩ := v08 hA
  have h := n0c ws (by omega) ws.length 0 S0 (r, 1, []) (by omega) (W0 (by omega)) (w08 hr) hw
  have h2 : n9 r = some ((r, 1, []), true) := by
   unfold n9
   rw [x01, Option.bind_some, if_neg (by simp [inR]; omega)]
  rw [if_neg (by simp), h2, Option.bind_some]
  simp only [] at h ⊢
  rw [show (0 : Int) = ((0 : Nat) : Int) from rfl, h]
  rfl
def f0j : l0 := (0, 0, [])
def d09 (p : D0) : Nat → l0 → l0 × Bool
 | 0, _ => (f0j, false)
 | d + 1, g => bif (Q1 p g).2.2 then (bif (Q1 p g).2.1 then d09 p d (Q1 p g).1 else (r06 g, true)) else (f0j, false)
theorem o0c {p : D0} {g : l0} (h : (Q1 p g).2.2 = true) : C4 p = true ∧ P0 g = true ∧ p.1 = g.1 := by
 unfold Q1 at h
 cases hc : (C4 p && P0 g && decide (p.1 = g.1)) with
 | false => rw [hc] at h; cases h
 | true =>
  simp only [Bool.and_eq_true, decide_eq_true_eq] at hc
  exact ⟨hc.1.1, hc.1.2, hc.2⟩
theorem p0c {p : D0} {g : l0} (h : (Q1 p g).2.1 = false) : (Q1 p g).1 = g := by
 unfold Q1 at h ⊢
 cases hc : (C4 p && P0 g && decide (p.1 = g.1)) with
 | false => rfl
 | true =>
  rw [hc] at h
  simp only [cond_true] at h ⊢
  cases hh : V03 g p.2 g.2.1.toNat 0 with
  | some q =>
   obtain ⟨v, i⟩ := q
   rw [hh] at h
   simp only [P0e] at h ⊢
   cases hi : p.2[i]? with
   | none => rfl
   | some w =>
    rw [hi] at h
    simp only at h ⊢
    cases ha : (Q2 g (v : Int) w (v : Int)).2 with
    | false => rfl
    | true => rw [ha] at h; cases h
  | none =>
   rw [hh] at h
   simp only [Q0e] at h ⊢
   cases hm : s6 g with
   | nil => rfl
   | cons e l =>
    rw [hm] at h
    simp only at h ⊢
    cases hv : (L1 g).2 with
    | false => rfl
    | true =>
     rw [hv] at h
     simp only [cond_true] at h ⊢
     cases he : (F7 (L1 g).1 (stp e.1 e.2.1 g.2.1)).2 with
     | false => rfl
     | true => rw [he] at h; cases h
theorem Z0e {p : D0} {g : l0} (h : g.2.2.length ≤ 1000) : (Q1 p g).1.2.2.length ≤ 1000 := by
 by_cases hf : (Q1 p g).2.1 = false
 ·rw [p0c hf]; exact h
 ·unfold Q1 at hf ⊢
  cases hc : (C4 p && P0 g && decide (p.1 = g.1)) with
  | false => exact h
  | true =>
   simp only [Bool.and_eq_true] at hc
   have hg := ((H7 g).1 hc.1.2).1
   have hgl := (O1 hg).2.2.2
   simp only [cond_true]
   cases V03 g p.2 g.2.1.toNat 0 with
   | some q =>
    obtain ⟨v, i⟩ := q
    simp only [P0e]
    cases p.2[i]? with
    | none => exact h
    | some w =>
     simp only
     cases (Q2 g (v : Int) w (v : Int)).2 with
     | false => exact h
     | true =>
      have h1 := Y04 hg (v : Int) w (v : Int)
      simp only [cond_true, Z3]
      cases hG : M0 (Q2 g (v : Int) w (v : Int)).1 with
      | false => simp only [cond_false]; omega
      | true =>
       have := (O1 (T04 40 hG)).2.2.2
       simp only [cond_true]; omega
   | none =>
    simp only [Q0e]
    cases s6 g with
    | nil => exact h
    | cons e l =>
     simp only
     cases (L1 g).2 with
     | false => exact h
     | true =>
      simp only [cond_true]
      have h1 : (L1 g).1.2.2 = g.2.2 := by unfold L1; cases decide (g.2.1 < 40) <;> rfl
      have h2 : (F7 (L1 g).1 (stp e.1 e.2.1 g.2.1)).1.2.2.length ≤ g.2.2.length + 1 := by
       have := P01 (stp e.1 e.2.1 g.2.1) (L1 g).1.2.2
       unfold F7
       rw [h1] at this ⊢
       cases (decide (g.2.2.length < 120) && !decide (stp e.1 e.2.1 g.2.1 ∈ g.2.2)) with
       | false => simp only [cond_false, h1]; omega
       | true => simp only [cond_true]; omega
      cases (F7 (L1 g).1 (stp e.1 e.2.1 g.2.1)).2 with
      | false => exact h
      | true => simp only [cond_true]; omega
def R0j : (l0 × Bool) ⊕ (Int × Int × J0) → Option (l0 × Bool) := fun X => l7 X (fun S => match S with
 | (a, b, c) => some ((0, 0, []), false))
theorem Z0g (p : D0) (hl : p.2.length ≤ 140737488355328) (hs : L2 p.2) : ∀ (d k fuel : Nat) (g : l0), k + d = 300 → d < fuel → g.2.2.length ≤ 1000 →
  (N2 p.1 p.2 fuel (k : Int) g.1 g.2.1 g.2.2).bind R0j = some (d09 p d g)
 | d, k, 0, g, hd, hf, hg => by omega
 | 0, k, fuel + 1, g, hd, hf, hg => by
  rw [N2.eq_2, if_neg (by simp; omega)]; rfl
 | d + 1, k, fuel + 1, g, hd, hf, hg => by
  have h1 := B07 p g hl hs (by omega)
  have h2 : (Q1 p g).2.2 = true → (Q1 p g).2.1 = false → T7 (Q1 p g).1 = some (r06 g) := fun a b => by
   rw [p0c b]; exact U0f (o0c a).2.1
  have ih := Z0g p hl hs d (k + 1) fuel (Q1 p g).1 (by omega) (by omega) (Z0e hg)
  rw [N2.eq_2, if_pos (by simp; omega), show (g.1, g.2.1, g.2.2) = g from rfl, show (p.1, p.2) = p from rfl, h1, Option.bind_some, A2 (show k < 1000 by omega) (by omega)]
  unfold d09
  revert h2 ih
  generalize Q1 p g = q
  obtain ⟨g2, more, fine⟩ := q
  obtain ⟨a, b, c⟩ := g2
  intro h2 ih
  simp only at h2 ih ⊢
  cases fine with
  | false => rfl
  | true =>
   cases more with
   | true => exact ih
   | false =>
    simp only [Bool.not_true, Bool.not_false, Bool.false_eq_true, if_false, if_true, h2 rfl rfl, Option.bind_some]
    rfl
theorem a0h (p : D0) (hl : p.2.length ≤ 140737488355328) (hs : L2 p.2) : ∀ (d k fuel : Nat) (g : l0), k + d = 300 → d < fuel → g.2.2.length ≤ 1000 →
  (O2 p.1 p.2 fuel (k : Int) g.1 g.2.1 g.2.2).bind R0j = some (d09 p d g)
 | d, k, 0, g, hd, hf, hg => by omega
 | 0, k, fuel + 1, g, hd, hf, hg => by
  rw [O2.eq_2, if_neg (by simp; omega)]; rfl
 | d + 1, k, fuel + 1, g, hd, hf, hg => by
  have h1 := C07 p g hl hs (by omega)
  have h2 : (Q1 p g).2.2 = true → U7 g = some (r06 g) := fun a => V0f (o0c a).2.1
  have ih := a0h p hl hs d (k + 1) fuel (Q1 p g).1 (by omega) (by omega) (Z0e hg)
  rw [O2.eq_2, if_pos (by simp; omega), show (g.1, g.2.1, g.2.2) = g from rfl, show (p.1, p.2) = p from rfl, h1, Option.bind_some, A2 (show k < 1000 by omega) (by omega)]
  unfold d09
  revert h2 ih
  generalize Q1 p g = q
  obtain ⟨g2, more, fine⟩ := q
  obtain ⟨a, b, c⟩ := g2
  intro h2 ih
  simp only at h2 ih ⊢
  cases fine with
  | false => rfl
  | true =>
   cases more with
   | true => exact ih
   | false =>
    simp only [Bool.not_true, Bool.not_false, Bool.false_eq_true, if_false, if_true, h2 rfl, Option.bind_some]
    rfl
def Z04 (p : D0) (ws : List (List Int)) : l0 × Bool := bif C4 p && P3 p.1 ws then d09 p 300 (Z3 (d00 ws (p.1, 1, []))).1 else (f0j, false)
theorem F07 {r : Int} {ws : List (List Int)} (h : P3 r ws = true) : (d00 ws (r, 1, [])).2.2.length ≤ 120 ∧ (Z3 (d00 ws (r, 1, []))).1.2.2.length ≤ 1000 := by
 obtain ⟨hr, hn, hw⟩ := v08 h
 have hg := c09 ws (w08 hr) hw
 refine ⟨(O1 hg).2.2.2, ?_⟩
 have := (L4 (S0a hg)).2.2.2
 omega
theorem W0f (p : D0) (ws : List (List Int)) (hl : p.2.length ≤ 140737488355328) (hs : L2 p.2) (hl2 : ws.length ≤ 140737488355328) (hs2 : L2 ws) : G6 p ws = some (Z04 p ws) := by
 have h1 := A8 p hl hs
 have h2 := l0d p.1 ws hl2 hs2
 have h3 : P3 p.1 ws = true → E6 (d00 ws (p.1, 1, [])) = some (Z3 (d00 ws (p.1, 1, []))) := fun h => O02 _ (by have := (F07 h).1; omega)
 have h4 : P3 p.1 ws = true → (N2 p.1 p.2 S0 ((0 : Nat) : Int) (Z3 (d00 ws (p.1, 1, []))).1.1 (Z3 (d00 ws (p.1, 1, []))).1.2.1 (Z3 (d00 ws (p.1, 1, []))).1.2.2).bind R0j = some (d09 p 300 (Z3 (d00 ws (p.1, 1, []))).1) := fun h => Z0g p hl hs 300 0 S0 _ rfl (W0 (by omega)) (F07 h).2
 unfold v03 at h2
 unfold Z04
 obtain ⟨pr, rels⟩ := p
 unfold G6
 simp only at h2 h3 h4 ⊢
 rw [h2, Option.bind_some]
 cases hA : P3 pr ws with
 | false =>
  rw [Bool.and_false]; rfl
 | true =>
  have h3 := h3 hA
  have h4 := h4 hA
  simp only [cond_true, Bool.not_true, Bool.not_false, G2, cond_false, h1, Option.bind_some, Bool.and_true]
  cases hP : C4 (pr, rels) with
  | false => rfl
  | true =>
   rw [if_neg (by simp)]
   revert h3 h4
   generalize d00 ws (pr, 1, []) = fl
   intro h3 h4
   obtain ⟨a, b, c⟩ := fl
   simp only [h3, Option.bind_some]
   exact h4
theorem X0f (p : D0) (ws : List (List Int)) (hl : p.2.length ≤ 140737488355328) (hs : L2 p.2) (hl2 : ws.length ≤ 140737488355328) (hs2 : L2 ws) : H6 p ws = some (Z04 p ws) := by
 have h1 := U9 p hl hs
 have h2 := m0d p.1 ws hl2 hs2
 have h3 : P3 p.1 ws = true → F6 (d00 ws (p.1, 1, [])) = some (Z3 (d00 ws (p.1, 1, []))) := fun h => P02 _ (by have := (F07 h).1; omega)
 have h4 : P3 p.1 ws = true → (O2 p.1 p.2 S0 ((0 : Nat) : Int) (Z3 (d00 ws (p.1, 1, []))).1.1 (Z3 (d00 ws (p.1, 1, []))).1.2.1 (Z3 (d00 ws (p.1, 1, []))).1.2.2).bind R0j = some (d09 p 300 (Z3 (d00 ws (p.1, 1, []))).1) := fun h => a0h p hl hs 300 0 S0 _ rfl (W0 (by omega)) (F07 h).2
 unfold v03 at h2
 unfold Z04
 obtain ⟨pr, rels⟩ := p
 unfold H6
 simp only at h2 h3 h4 ⊢
 rw [h1, Option.bind_some]
 cases hP : C4 (pr, rels) with
 | false => rfl
 | true =>
  rw [if_neg (by simp), h2, Option.bind_some]
  cases hA : P3 pr ws with
  | false => rfl
  | true =>
   have h3 := h3 hA
   have h4 := h4 hA
   simp only [cond_true, Bool.not_true, Bool.false_eq_true, if_false]
   revert h3 h4
   generalize d00 ws (pr, 1, []) = fl
   intro h3 h4
   obtain ⟨a, b, c⟩ := fl
   simp only [h3, Option.bind_some]
   exact h4
def G07 (p : D0) (ws : List (List Int)) : Int := bif (Z04 p ws).2 then (Z04 p ws).1.2.1 else -1
theorem a0f (p : D0) (ws : List (List Int)) (hl : p.2.length ≤ 140737488355328) (hs : L2 p.2) (hl2 : ws.length ≤ 140737488355328) (hs2 : L2 ws) : V8 p ws = some (G07 p ws) := by
 have h := W0f p ws hl hs hl2 hs2
 unfold G07
 obtain ⟨pr, rels⟩ := p
 unfold V8
 simp only [h, Option.bind_some]
 cases (Z04 (pr, rels) ws).2 <;> rfl
theorem b0f (p : D0) (ws : List (List Int)) (hl : p.2.length ≤ 140737488355328) (hs : L2 p.2) (hl2 : ws.length ≤ 140737488355328) (hs2 : L2 ws) : W8 p ws = some (G07 p ws) := by
 have h := X0f p ws hl hs hl2 hs2
 unfold G07
 obtain ⟨pr, rels⟩ := p
 unfold W8
 simp only [h, Option.bind_some]
 cases (Z04 (pr, rels) ws).2 <;> rfl
end Go.Proofs.YtfdlgbfeceodeaaGreat
