/- Texts of the claim, joined: Plain laws: what folding computes, of the spec and of the code; Plain laws: paths, vertices and edges added; the steps that are missin; Plain laws: vertices and edges added; the steps that are missing; Plain laws: one step of the coset enumeration; Plain laws: trimming and the core of a folded graph; Plain laws: flowers of words, and the enumeration of cosets; Plain laws: what the enumeration yields is small; the size of a group. -/
import Derived.Test.YtfdlgbfeceodeaaGreatPart23
import Derived.Test.YtfdlgbfeceodeaaGreatPart18
namespace Go.Proofs.YtfdlgbfeceodeaaGreat
open Go.H
set_option linter.unusedVariables false
set_option linter.unusedSimpArgs false
theorem h0c (l : List D0) (a0 a1 a2 : Int) (hl : l.length ≤ 1000) : ∀ (d k fuel : Nat) (acc : List f4), k + d = l.length → d < fuel → acc.length + 2 * d ≤ 4000000 →
  E4 l a1 a0 a2 fuel (k : Int) acc = some (acc ++ I00 (a0, a1, a2) (l.drop k))
 | d, k, 0, acc, hd, hf, ha => by omega
 | 0, k, fuel + 1, acc, hd, hf, ha => by
  rw [E4.eq_2, if_neg (by simp; omega), E1 (by omega)]
  simp [I00]
 | d + 1, k, fuel + 1, acc, hd, hf, ha => by
  have hk : k < l.length := by omega
  have hx := V5 hk
  generalize l[k] = b at hx
  obtain ⟨b0, b1, b2⟩ := b
  have ih : ∀ acc' : List f4, acc'.length + 2 * d ≤ 4000000 → E4 l a1 a0 a2 fuel ((k + 1 : Nat) : Int) acc' = some (acc' ++ I00 (a0, a1, a2) (l.drop (k + 1))) := fun acc' h => h0c l a0 a1 a2 hl d (k + 1) fuel acc' (by omega) (by omega) h
  rw [E4.eq_2, if_pos (by simp; omega), O3 hx, Option.bind_some, A2 hk (by omega), O1 hx]
  simp only [I00, B07]
  cases decide (a1 = b1)
  ·simp only [Bool.not_false, if_true, cond_false, List.nil_append]
   exact ih acc (by omega)
  ·cases decide (a0 = b0) <;> cases decide (a2 = b2)
   all_goals simp only [Bool.not_true, Bool.false_eq_true, if_false, if_true, cond_true, cond_false, List.nil_append, List.append_nil]
   ·exact ih acc (by omega)
   ·rw [N0 (by simp; omega), Option.bind_some, ih _ (by simp; omega)]; simp
   ·rw [N0 (by simp; omega), Option.bind_some, ih _ (by simp; omega)]; simp
   ·rw [N0 (by simp; omega), Option.bind_some, N0 (by simp; omega), Option.bind_some, ih _ (by simp; omega)]; simp
theorem i0c (l : List D0) (hl : l.length ≤ 1000) : ∀ (d k fuel : Nat) (acc : List f4), k + d = l.length → d < fuel → acc.length + 2000 * d ≤ 3000000 →
  C7 l fuel (k : Int) acc = some (acc ++ j7 (l.drop k))
 | d, k, 0, acc, hd, hf, ha => by omega
 | 0, k, fuel + 1, acc, hd, hf, ha => by
  rw [C7.eq_2, if_neg (by simp; omega), E1 (by omega)]
  simp [j7]
 | d + 1, k, fuel + 1, acc, hd, hf, ha => by
  have hk : k < l.length := by omega
  have hx := V5 hk
  generalize l[k] = b at hx
  obtain ⟨b0, b1, b2⟩ := b
  have h0 := h0c (l.drop (k + 1)) b0 b1 b2 (by simp; omega) (l.length - (k + 1)) 0 S0 acc (by simp) (W0 (by omega)) (by omega)
  have hr := v08 (b0, b1, b2) (l.drop (k + 1))
  simp only [List.length_drop] at hr
  rw [C7.eq_2, if_pos (by simp; omega), O3 hx, Option.bind_some]
  simp only [A2 hk (show l.length ≤ 9223372036854775807 by omega)]
  rw [s06 (by omega), Option.bind_some, show (0 : Int) = ((0 : Nat) : Int) from rfl, h0, Option.bind_some, i0c l hl d (k + 1) fuel _ (by omega) (by omega) (by simp only [List.length_append, List.drop_zero, List.length_drop] at hr ⊢; omega), O1 hx, j7]
  simp
theorem j0c (l : List D0) (hl : l.length ≤ 1000) (i : Nat) (a0 a1 a2 : Int) (hi : l[i]? = some (a0, a1, a2)) : ∀ (d k fuel : Nat) (acc : List f4), k + d = l.length → d < fuel → acc.length + 2 * d ≤ 4000000 →
  Q3 l (i : Int) fuel (k : Int) acc = some (acc ++ I00 (a0, a1, a2) (l.drop k))
 | d, k, 0, acc, hd, hf, ha => by omega
 | 0, k, fuel + 1, acc, hd, hf, ha => by
  rw [Q3.eq_2, if_neg (by simp; omega), E1 (by omega)]
  simp [I00]
 | d + 1, k, fuel + 1, acc, hd, hf, ha => by
  have hk : k < l.length := by omega
  have hx := V5 hk
  generalize l[k] = b at hx
  obtain ⟨b0, b1, b2⟩ := b
  have ih : ∀ acc' : List f4, acc'.length + 2 * d ≤ 4000000 → Q3 l (i : Int) fuel ((k + 1 : Nat) : Int) acc' = some (acc' ++ I00 (a0, a1, a2) (l.drop (k + 1))) := fun acc' h => j0c l hl i a0 a1 a2 hi d (k + 1) fuel acc' (by omega) (by omega) h
  rw [Q3.eq_2, if_pos (by simp; omega), O3 hi, Option.bind_some]
  simp only []
  rw [O3 hx, Option.bind_some, A2 hk (by omega), O1 hx]
  simp only [I00, B07]
  cases decide (a1 = b1)
  ·simp only [Bool.false_eq_true, if_false, cond_false, List.nil_append]
   exact ih acc (by omega)
  ·cases decide (a0 = b0) <;> cases decide (a2 = b2)
   all_goals simp only [Bool.not_true, Bool.false_eq_true, if_false, if_true, cond_true, cond_false, List.nil_append, List.append_nil]
   ·exact ih acc (by omega)
   ·rw [N0 (by simp; omega), Option.bind_some, ih _ (by simp; omega)]; simp
   ·rw [N0 (by simp; omega), Option.bind_some, ih _ (by simp; omega)]; simp
   ·rw [N0 (by simp; omega), Option.bind_some, N0 (by simp; omega), Option.bind_some, ih _ (by simp; omega)]; simp
theorem k0c (l : List D0) (hl : l.length ≤ 1000) : ∀ (d k fuel : Nat) (acc : List f4), k + d = l.length → d < fuel → acc.length + 2000 * d ≤ 3000000 →
  j6 l fuel (k : Int) acc = some (acc ++ j7 (l.drop k))
 | d, k, 0, acc, hd, hf, ha => by omega
 | 0, k, fuel + 1, acc, hd, hf, ha => by
  rw [j6.eq_2, if_neg (by simp; omega), E1 (by omega)]
  simp [j7]
 | d + 1, k, fuel + 1, acc, hd, hf, ha => by
  have hk : k < l.length := by omega
  have hx := V5 hk
  generalize l[k] = b at hx
  obtain ⟨b0, b1, b2⟩ := b
  have h0 := j0c l hl k b0 b1 b2 hx (l.length - (k + 1)) (k + 1) S0 acc (by omega) (W0 (by omega)) (by omega)
  have hr := v08 (b0, b1, b2) (l.drop (k + 1))
  simp only [List.length_drop] at hr
  rw [j6.eq_2, if_pos (by simp; omega), A2 hk (by omega), h0, Option.bind_some, k0c l hl d (k + 1) fuel _ (by omega) (by omega) (by simp only [List.length_append, List.length_drop] at hr ⊢; omega), O1 hx, j7]
  simp
theorem D0e (g : l0) (hl : g.2.2.length ≤ 1000) : S00 g = some (j7 g.2.2) := by
 obtain ⟨r, n, es⟩ := g
 unfold S00
 simp only
 rw [show (0 : Int) = ((0 : Nat) : Int) from rfl, i0c es hl es.length 0 S0 [] (by omega) (W0 (by simp only at hl; omega)) (by simp only at hl; simp; omega)]
 rfl
theorem E0e (g : l0) (hl : g.2.2.length ≤ 1000) : c00 g = some (j7 g.2.2) := by
 obtain ⟨r, n, es⟩ := g
 unfold c00
 simp only
 rw [show (0 : Int) = ((0 : Nat) : Int) from rfl, k0c es hl es.length 0 S0 [] (by omega) (W0 (by simp only at hl; omega)) (by simp only at hl; simp; omega)]
 rfl
def J00 (g : l0) : f4 × Bool := bif M0 g then (match j7 g.2.2 with
 | [] => ((0, 0), false)
 | f :: _ => (f, true)) else ((0, 0), false)
theorem m09 (g : l0) (hl : g.2.2.length ≤ 140737488355328) : R7 g = some (J00 g) := by
 have h1 := I8 g hl
 have h2 := D0e g
 unfold J00
 cases hg : M0 g with
 | false =>
  obtain ⟨r, n, es⟩ := g
  unfold R7
  simp only [h1, hg, Option.bind_some]; rfl
 | true =>
  have h2 := h2 (by have := (T1 hg).2.2.2; omega)
  obtain ⟨r, n, es⟩ := g
  unfold R7
  simp only [h1, hg, h2, Option.bind_some, cond_true]
  simp only at h2
  cases j7 es with
  | nil => rfl
  | cons f l =>
   rw [if_neg (by simp), if_neg (by simp; omega), T04 rfl]
   rfl
theorem n09 (g : l0) (hl : g.2.2.length ≤ 140737488355328) : P7 g = some (J00 g) := by
 have h1 := Q5 g hl
 have h2 := E0e g
 unfold J00
 cases hg : M0 g with
 | false =>
  obtain ⟨r, n, es⟩ := g
  unfold P7
  simp only [h1, hg, Option.bind_some]; rfl
 | true =>
  have h2 := h2 (by have := (T1 hg).2.2.2; omega)
  obtain ⟨r, n, es⟩ := g
  unfold P7
  simp only [h1, hg, h2, Option.bind_some, cond_true]
  simp only at h2
  cases j7 es with
  | nil => rfl
  | cons f l =>
   rw [if_neg (by simp), if_neg (by simp; omega), T04 rfl]
   rfl
theorem c0h (v : Int) (f : f4) (hv : 0 ≤ v ∧ v < 1000) (hf : 0 ≤ f.1 ∧ f.1 < f.2) : m00 v f = some (mvV f v) := by
 obtain ⟨a, b⟩ := f
 simp only at hf
 unfold m00 mvV
 simp only
 by_cases c : v = b
 ·rw [if_pos (by simp [c]), if_neg (by simp; omega), if_pos c]
 ·rw [if_neg (by simp [c]), if_neg c]
  by_cases c2 : v > b
  ·rw [if_pos (by simp [c2]), if_pos c2, w64 (by omega) (by omega)]
  ·rw [if_neg (by simp; omega), if_neg c2]
theorem F0e (v : Int) (f : f4) (hv : 0 ≤ v ∧ v < 1000) : p5 v f = some (mvV f v) := by
 obtain ⟨a, b⟩ := f
 unfold p5 mvV
 simp only
 by_cases c : v = b
 ·rw [if_pos (by simp [c]), if_pos c]
 ·rw [if_neg (by simp [c]), if_neg c]
  by_cases c2 : v > b
  ·rw [if_pos (by simp [c2]), if_pos c2, w64 (by omega) (by omega)]
  ·rw [if_neg (by simp; omega), if_neg c2]
theorem h0d {f : f4} {v : Int} (hv : 0 ≤ v ∧ v < 1000) (hf : 0 ≤ f.1 ∧ f.1 < 1000) : F0 (mvV f v) := by
 unfold mvV
 split
 ·exact ⟨by omega, by omega⟩
 ·split
  ·exact ⟨by omega, by omega⟩
  ·exact ⟨by omega, by omega⟩
theorem G0e (es : List D0) (f : f4) (r n : Int) (hl : es.length ≤ 1000) (hv : ∀ e ∈ es, (0 ≤ e.1 ∧ e.1 < 1000) ∧ (0 ≤ e.2.2 ∧ e.2.2 < 1000)) (hf : 0 ≤ f.1 ∧ f.1 < f.2) (hf2 : f.2 < 1000) : ∀ (d k fuel : Nat) (acc : List D0), k + d = es.length → d < fuel → acc.length ≤ k →
  U3 es f.1 f.2 fuel (k : Int) r n acc = some (r, n, t6 K0 acc ((es.drop k).map (mvE f)))
 | d, k, 0, acc, hd, hfu, ha => by omega
 | 0, k, fuel + 1, acc, hd, hfu, ha => by
  rw [U3.eq_2, if_neg (by simp; omega), E1 (by omega)]
  rfl
 | d + 1, k, fuel + 1, acc, hd, hfu, ha => by
  have hk : k < es.length := by omega
  have hx := V5 hk
  have hvk := hv _ (List.getElem_mem hk)
  generalize es[k] = b at hx hvk
  obtain ⟨b0, b1, b2⟩ := b
  simp only at hvk
  have hln := T01 (mvE f (b0, b1, b2)) acc
  rw [U3.eq_2, if_pos (by simp; omega), O3 hx, Option.bind_some]
  simp only []
  rw [c0h b0 (f.1, f.2) hvk.1 hf, Option.bind_some, N0 (h0d hvk.1 ⟨hf.1, by show f.1 < 1000; omega⟩), Option.bind_some, c0h b2 (f.1, f.2) hvk.2 hf, Option.bind_some, N0 (h0d hvk.2 ⟨hf.1, by show f.1 < 1000; omega⟩), Option.bind_some,
   W03 acc _ (by omega), Option.bind_some, A2 hk (by omega), O1 hx, List.map_cons]
  exact G0e es f r n hl hv hf hf2 d (k + 1) fuel _ (by omega) (by omega) (Nat.le_trans hln (by omega))
theorem H0e {g : l0} {f : f4} (hg : M0 g = true) (hf : okF g f) : l6 g f = some (P9 g f, true) := by
 obtain ⟨q1, q2, q3, q4⟩ := T1 hg
 have h1 := Q5 g (by omega)
 obtain ⟨f1, f2, f3⟩ := hf
 obtain ⟨r, n, es⟩ := g
 obtain ⟨a, b⟩ := f
 simp only at f1 f2 f3 q3 q4
 have h := G0e es (a, b) r (IntKind.i64.wrap (n - 1)) (by omega) (fun e he => by
  have := q1 e he
  simp only at this
  exact ⟨⟨by omega, by omega⟩, by omega, by omega⟩) ⟨f1, f2⟩ (by simp only; omega) es.length 0 S0 [] (by omega) (W0 (by omega)) (Nat.le_refl _)
 unfold l6
 simp only [h1, hg, Option.bind_some]
 rw [if_neg (by simp; omega), show (0 : Int) = ((0 : Nat) : Int) from rfl, h, w64 (by omega) (by omega)]
 rfl
theorem I0e (es : List D0) (f : f4) (hl : es.length ≤ 1000) (hv : ∀ e ∈ es, (0 ≤ e.1 ∧ e.1 < 1000) ∧ (0 ≤ e.2.2 ∧ e.2.2 < 1000)) (hf : 0 ≤ f.1 ∧ f.1 < 1000) : ∀ (d k fuel : Nat), k + d = es.length → d < fuel →
  V3 es f.1 f.2 fuel (k : Int) ((es.take k).map (mvE f) ++ es.drop k) = some (es.map (mvE f))
 | d, k, 0, hd, hfu => by omega
 | 0, k, fuel + 1, hd, hfu => by
  rw [V3.eq_2, if_neg (by simp; omega), E1 (by omega), List.append_nil, List.take_of_length_le (by omega)]
 | d + 1, k, fuel + 1, hd, hfu => by
  have hk : k < es.length := by omega
  have hx := V5 hk
  have hvk := hv _ (List.getElem_mem hk)
  generalize es[k] = b at hx hvk
  have htl : ((es.take k).map (mvE f)).length = k := by simp; omega
  have hg : ((es.take k).map (mvE f) ++ es.drop k)[k]? = some b := by
   rw [List.getElem?_append_right (by omega), htl, O1 hx]; simp
  have hs : ∀ y, ((es.take k).map (mvE f) ++ es.drop k).set k y = (es.take k).map (mvE f) ++ y :: es.drop (k + 1) := fun y => by
   rw [List.set_append_right _ _ (by omega), htl, O1 hx]; simp
  obtain ⟨b0, b1, b2⟩ := b
  simp only at hvk
  have e : (es.take (k + 1)).map (mvE f) ++ es.drop (k + 1) = (es.take k).map (mvE f) ++ mvE f (b0, b1, b2) :: es.drop (k + 1) := by
   rw [m0k hx]; simp
  have ih := I0e es f hl hv hf d (k + 1) fuel (by omega) (by omega)
  rw [e] at ih
  rw [V3.eq_2, if_pos (by simp; omega), O3 hg, Option.bind_some]
  simp only []
  rw [F0e b0 (f.1, f.2) hvk.1, Option.bind_some, N0 (h0d hvk.1 hf), Option.bind_some, F0e b2 (f.1, f.2) hvk.2, Option.bind_some, N0 (h0d hvk.2 hf), Option.bind_some]
  simp only [Option.bind_some]
  rw [show ((k : Nat) : Int).toNat = k from Int.toNat_natCast k, hs, A2 hk (by omega)]
  exact ih
theorem J0e {g : l0} {f : f4} (hg : M0 g = true) (hf : okF g f) : o6 g f = some (P9 g f, true) := by
 obtain ⟨q1, q2, q3, q4⟩ := T1 hg
 have h1 := I8 g (by omega)
 have h2 := a00 g (by omega)
 obtain ⟨f1, f2, f3⟩ := hf
 obtain ⟨r, n, es⟩ := g
 obtain ⟨a, b⟩ := f
 simp only at f1 f2 f3 q3 q4
 have h := I0e es (a, b) (by omega) (fun e he => by
  have := q1 e he
  simp only at this
  exact ⟨⟨by omega, by omega⟩, by omega, by omega⟩) ⟨f1, by simp only; omega⟩ es.length 0 S0 (by omega) (W0 (by omega))
 simp only [List.take_zero, List.map_nil, List.nil_append, List.drop_zero] at h
 unfold o6
 simp only [h1, h2, hg, Option.bind_some]
 rw [if_neg (by simp; omega), show (0 : Int) = ((0 : Nat) : Int) from rfl, h, Option.bind_some, x07 _ (by simp; omega), Option.bind_some, w64 (by omega) (by omega)]
 rfl
def e00 (g : l0) : l0 × f4 × Bool := bif M0 g then (match j7 g.2.2 with
 | [] => (g, (0, 0), false)
 | f :: _ => (P9 g f, f, true)) else (g, (0, 0), false)
theorem Z04 (g : l0) (hl : g.2.2.length ≤ 1099511627776) : o9 g = some (e00 g) := by
 have h1 := n09 g (by omega)
 have h2 := C00 g hl
 have h3 : ∀ f, M0 g = true → okF g f → l6 g f = some (P9 g f, true) := fun f a b => H0e a b
 have h4 : M0 g = true → ∀ f ∈ j7 g.2.2, okF g f := n02
 unfold J00 at h1
 unfold e00
 obtain ⟨r, n, es⟩ := g
 unfold o9
 simp only [h1, Option.bind_some]
 cases hg : M0 (r, n, es) with
 | false => simp only [cond_false, Bool.not_false, if_true, h2, Option.bind_some]
 | true =>
  simp only [cond_true]
  simp only at h4
  cases e : j7 es with
  | nil => simp only [Bool.not_false, if_true, h2, Option.bind_some]
  | cons f l =>
   simp only [Bool.not_true, Bool.false_eq_true, if_false, h3 f hg (h4 hg f (by rw [e]; exact List.mem_cons_self ..)), Option.bind_some]
theorem a05 (g : l0) (hl : g.2.2.length ≤ 1099511627776) : t9 g = some (e00 g) := by
 have h1 := m09 g (by omega)
 have h2 := a00 g hl
 have h3 : ∀ f, M0 g = true → okF g f → o6 g f = some (P9 g f, true) := fun f a b => J0e a b
 have h4 : M0 g = true → ∀ f ∈ j7 g.2.2, okF g f := n02
 unfold J00 at h1
 unfold e00
 obtain ⟨r, n, es⟩ := g
 unfold t9
 simp only [h1, Option.bind_some]
 cases hg : M0 (r, n, es) with
 | false => simp only [cond_false, Bool.not_false, if_true, h2, Option.bind_some]
 | true =>
  simp only [cond_true]
  simp only at h4
  cases e : j7 es with
  | nil => simp only [Bool.not_false, if_true, h2, Option.bind_some]
  | cons f l =>
   simp only [Bool.not_true, Bool.false_eq_true, if_false, h3 f hg (h4 hg f (by rw [e]; exact List.mem_cons_self ..)), Option.bind_some]
def U0k : (l0 × z7) ⊕ (Int × Int × J0 × (List f4)) → Option (l0 × z7) := fun X => l7 X (fun S => match S with
 | (a, b, c, e) => some ((a, b, c), e))
theorem Z0a : ∀ (d k fuel : Nat) (g : l0) (acc : List f4), k + d = 40 → d < fuel → M0 g = true → acc.length = k →
  (o5 fuel (k : Int) g.1 g.2.1 g.2.2 acc).bind U0k = some ((Q9 d g).1, acc ++ (Q9 d g).2)
 | d, k, 0, g, acc, hd, hf, hg, ha => by omega
 | 0, k, fuel + 1, g, acc, hd, hf, hg, ha => by
  rw [o5.eq_2, if_neg (by simp; omega)]
  simp [U0k, l7, Q9]
 | d + 1, k, fuel + 1, g, acc, hd, hf, hg, ha => by
  have h1 := Z04 g (by have := (T1 hg).2.2.2; omega)
  have h4 := n02 hg
  unfold e00 at h1
  rw [hg] at h1
  simp only [cond_true] at h1
  rw [o5.eq_2, if_pos (by simp; omega), show (g.1, g.2.1, g.2.2) = g from rfl, h1]
  unfold Q9
  cases e : j7 g.2.2 with
  | nil => simp [U0k, l7]
  | cons f l =>
   have ih := Z0a d (k + 1) fuel (P9 g f) (acc ++ [f]) (by omega) (by omega) (K02 hg (h4 f (by rw [e]; exact List.mem_cons_self ..))) (by simp [ha])
   simp only [Option.bind_some, Bool.not_true, Bool.false_eq_true, if_false]
   rw [N0 (by simp; omega), Option.bind_some, A2 (show k < 1000 by omega) (by omega)]
   refine ih.trans ?_
   simp
theorem V02 (g : l0) (hl : g.2.2.length ≤ 1099511627776) : E6 g = some (Y3 g) := by
 have h1 := Z04 g hl
 have h2 := C00 g hl
 have h3 := Z0a 40 0 S0 g [] rfl (W0 (by omega))
 unfold Y3
 obtain ⟨r, n, es⟩ := g
 unfold E6
 simp only [h2, Option.bind_some]
 cases hg : M0 (r, n, es) with
 | false =>
  unfold e00 at h1
  rw [hg] at h1
  simp only [cond_false] at h1
  rw [show S0 = (S0 - 1) + 1 from rfl, o5.eq_2, if_pos (by simp), h1]
  rfl
 | true => exact h3 hg rfl
theorem a0b : ∀ (d fuel : Nat) (g : l0) (acc : List f4), d < fuel → M0 g = true → j7 (Q9 d g).1.2.2 = [] → acc.length + d ≤ 1000 →
  p6 fuel g.1 g.2.1 g.2.2 acc = some (.inl ((Q9 d g).1, acc ++ (Q9 d g).2))
 | d, 0, g, acc, hf, hg, hn, ha => by omega
 | d, fuel + 1, g, acc, hf, hg, hn, ha => by
  have h1 := a05 g (by have := (T1 hg).2.2.2; omega)
  have h4 := n02 hg
  unfold e00 at h1
  rw [hg] at h1
  simp only [cond_true] at h1
  rw [p6.eq_2, show (g.1, g.2.1, g.2.2) = g from rfl, h1]
  cases e : j7 g.2.2 with
  | nil =>
   have e2 : Q9 d g = (g, []) := by
    cases d with
    | zero => rfl
    | succ d => unfold Q9; rw [e]
   rw [e2]
   simp
  | cons f l =>
   cases d with
   | zero => exact absurd e (by rw [show j7 g.2.2 = [] from hn]; simp)
   | succ d =>
    have e2 : Q9 (d + 1) g = ((Q9 d (P9 g f)).1, f :: (Q9 d (P9 g f)).2) := by
     show (match j7 g.2.2 with | [] => (g, []) | f :: _ => ((Q9 d (P9 g f)).1, f :: (Q9 d (P9 g f)).2)) = _
     rw [e]
    rw [e2] at hn ⊢
    have ih := a0b d fuel (P9 g f) (acc ++ [f]) (by omega) (K02 hg (h4 f (by rw [e]; exact List.mem_cons_self ..))) hn (by simp; omega)
    simp only [Option.bind_some, Bool.not_true, Bool.false_eq_true, if_false]
    rw [N0 (by simp; omega), Option.bind_some]
    refine ih.trans ?_
    simp
theorem W02 (g : l0) (hl : g.2.2.length ≤ 1099511627776) : F6 g = some (Y3 g) := by
 have h1 := a05 g hl
 have h2 := a00 g hl
 have h3 := a0b 40 S0 g [] (W0 (by omega))
 have h5 : M0 g = true → j7 (Q9 40 g).1.2.2 = [] := fun hg => t06 40 hg (by have := (T1 hg).2.2.1; omega)
 unfold Y3
 obtain ⟨r, n, es⟩ := g
 unfold F6
 simp only [h2, Option.bind_some]
 cases hg : M0 (r, n, es) with
 | false =>
  unfold e00 at h1
  rw [hg] at h1
  simp only [cond_false] at h1
  rw [show S0 = (S0 - 1) + 1 from rfl, p6.eq_2, h1]
  rfl
 | true =>
  have h := h3 hg (h5 hg) (by simp)
  simp only at h
  rw [h]
  rfl
end Go.Proofs.YtfdlgbfeceodeaaGreat
namespace Go.Proofs.YtfdlgbfeceodeaaGreat
open Go.H
set_option linter.unusedVariables false
set_option linter.unusedSimpArgs false
theorem x08 {g : l0} (h : M0 g = true) : Asc K0 g.2.2 := ((E9 g).1 h).2.2.2.2
def stp (u x v : Int) : D0 := if x < 0 then (v, -x, u) else (u, x, v)
def w00 (v : Int) : List Int → Int → Int → List D0
 | [], _, _ => []
 | [x], u, _ => [stp u x v]
 | x :: y :: r, u, n => stp u x n :: w00 v (y :: r) n (n + 1)
theorem z05 (v : Int) : ∀ (w : List Int) (u n : Int), (w00 v w u n).length = w.length
 | [], _, _ => rfl
 | [x], _, _ => rfl
 | x :: y :: r, u, n => by simp only [w00, List.length_cons, z05 v (y :: r)]
theorem U0f (u x v : Int) (hx : B7 x) : d00 u x v = some (stp u x v) := by
 unfold d00 stp
 by_cases c : x < 0
 ·rw [if_pos (by simp [c]), if_pos c, m0e hx.1 hx.2]
 ·rw [if_neg (by simp; omega), if_neg c]
theorem i0d (w : List Int) (v : Int) (r : Int) (hw : ∀ x ∈ w, B7 x) (hl : w.length ≤ 1000) : ∀ (d k fuel : Nat) (u n : Int) (es : List D0), k + d = w.length → d < fuel → 0 ≤ n → n ≤ 1000 + k → es.length ≤ 1000 + k →
  s5 w v fuel u (k : Int) r n es = some (r, n + ((d - 1 : Nat) : Int), es ++ w00 v (w.drop k) u n)
 | d, k, 0, u, n, es, hd, hf, h0, h1, h2 => by omega
 | 0, k, fuel + 1, u, n, es, hd, hf, h0, h1, h2 => by
  rw [s5.eq_2, if_neg (by simp; omega), E1 (by omega)]
  simp [w00]
 | d + 1, k, fuel + 1, u, n, es, hd, hf, h0, h1, h2 => by
  have hk : k < w.length := by omega
  have hx := V5 hk
  have hm := hw _ (List.getElem_mem hk)
  generalize w[k] = x at hx hm
  rw [s5.eq_2, if_pos (by simp; omega), O3 hx, Option.bind_some, A0a (by omega) (by omega), O1 hx]
  by_cases c : k + 1 < w.length
  ·rw [if_pos (by simp; omega), U0f u x n hm, Option.bind_some]
   have hy := V5 c
   generalize w[k + 1] = y at hy
   have ih := i0d w v r hw hl d (k + 1) fuel n (n + 1) (es ++ [stp u x n]) (by omega) (by omega) (by omega) (by omega) (by simp; omega)
   simp only []
   rw [N0 (by simp; omega), Option.bind_some, A2 hk (by omega), w64 (show (-9223372036854775808 : Int) ≤ n + 1 by omega) (by omega)]
   refine ih.trans ?_
   rw [O1 hy]
   simp only [w00, List.append_assoc, List.singleton_append]
   congr 3
   omega
  ·have hd0 : d = 0 := by omega
   subst hd0
   rw [if_neg (by simp; omega), U0f u x v hm, Option.bind_some]
   have ih := i0d w v r hw hl 0 (k + 1) fuel v n (es ++ [stp u x v]) (by omega) (by omega) h0 (by omega) (by simp; omega)
   simp only []
   rw [N0 (by simp; omega), Option.bind_some, A2 hk (by omega)]
   refine ih.trans ?_
   rw [E1 (show k + 1 = w.length by omega)]
   simp [w00]
theorem j0d (w : List Int) (v : Int) (r : Int) (hw : ∀ x ∈ w, B7 x ∧ x ≠ 0) (hl : w.length ≤ 1000) : ∀ (d k fuel : Nat) (u n : Int) (es : List D0), k + d = w.length → d < fuel → 0 ≤ n → n ≤ 1000 + k → es.length ≤ 1000 + k →
  D4 w v fuel u (k : Int) r n es = some (r, n + ((d - 1 : Nat) : Int), t6 K0 es (w00 v (w.drop k) u n))
 | d, k, 0, u, n, es, hd, hf, h0, h1, h2 => by omega
 | 0, k, fuel + 1, u, n, es, hd, hf, h0, h1, h2 => by
  rw [D4.eq_2, if_neg (by simp; omega), E1 (by omega)]
  simp [w00, t6]
 | d + 1, k, fuel + 1, u, n, es, hd, hf, h0, h1, h2 => by
  have hk : k < w.length := by omega
  have hx := V5 hk
  have hm := hw _ (List.getElem_mem hk)
  generalize w[k] = x at hx hm
  have hput : ∀ e, (R8 K0 e es).length ≤ 1000 + (k + 1) := fun e => by have := T01 e es; omega
  rw [D4.eq_2, if_pos (by simp; omega), O1 hx]
  by_cases c : k + 1 < w.length
  ·have hy := V5 c
   generalize w[k + 1] = y at hy
   have ih := j0d w v r hw hl d (k + 1) fuel n (n + 1) (R8 K0 (stp u x n) es) (by omega) (by omega) (by omega) (by omega) (hput _)
   rw [O1 hy] at ih
   rw [A2 hk (by omega), if_pos (by simp; omega), O3 hx, Option.bind_some, w64 (show (-9223372036854775808 : Int) ≤ n + 1 by omega) (by omega), O1 hy]
   have fin : some (r, n + 1 + ((d - 1 : Nat) : Int), t6 K0 (R8 K0 (stp u x n) es) (w00 v (y :: w.drop (k + 1 + 1)) n (n + 1))) = some (r, n + ((d + 1 - 1 : Nat) : Int), t6 K0 es (w00 v (x :: y :: w.drop (k + 1 + 1)) u n)) := by
    simp only [w00, t6]
    congr 3
    omega
   by_cases c2 : x > 0
   ·have e : stp u x n = (u, x, n) := by unfold stp; rw [if_neg (by omega)]
    rw [if_pos (by simp [c2])]
    simp only [Option.bind_some]
    rw [W03 es _ (by omega), Option.bind_some, ← e]
    exact ih.trans fin
   ·have e : stp u x n = (n, -x, u) := by unfold stp; rw [if_pos (by omega)]
    rw [if_neg (by simp; omega)]
    simp only [Option.bind_some]
    rw [m0e hm.1.1 hm.1.2, W03 es _ (by omega), Option.bind_some, ← e]
    exact ih.trans fin
  ·have hd0 : d = 0 := by omega
   subst hd0
   have ih := j0d w v r hw hl 0 (k + 1) fuel v n (R8 K0 (stp u x v) es) (by omega) (by omega) h0 (by omega) (hput _)
   rw [E1 (show k + 1 = w.length by omega)] at ih ⊢
   rw [A2 hk (by omega), if_neg (by simp; omega), O3 hx, Option.bind_some]
   have fin : some (r, n + ((0 - 1 : Nat) : Int), t6 K0 (R8 K0 (stp u x v) es) (w00 v [] v n)) = some (r, n + ((0 + 1 - 1 : Nat) : Int), t6 K0 es (w00 v [x] u n)) := by
    simp [w00, t6]
   by_cases c2 : x > 0
   ·have e : stp u x v = (u, x, v) := by unfold stp; rw [if_neg (by omega)]
    rw [if_pos (by simp [c2])]
    simp only [Option.bind_some]
    rw [W03 es _ (by omega), Option.bind_some, ← e]
    exact ih.trans fin
   ·have e : stp u x v = (v, -x, u) := by unfold stp; rw [if_pos (by omega)]
    rw [if_neg (by simp; omega)]
    simp only [Option.bind_some]
    rw [m0e hm.1.1 hm.1.2, W03 es _ (by omega), Option.bind_some, ← e]
    exact ih.trans fin
theorem b0b {es p : List D0} (hA : Asc K0 es) : t6 K0 [] (es ++ p) = t6 K0 es p :=
 o06 Y5 (i01 Y5 _ _ .nil) (i01 Y5 _ _ hA) fun x => by
  rw [W8 Y5, W8 Y5]; simp
def Q2 (g : l0) (u : Int) (w : List Int) (v : Int) : l0 × Bool :=
 bif !w.isEmpty && decide (g.2.1 + (w.length : Int) - 1 ≤ 40) && decide (g.2.2.length + w.length ≤ 120) then ((g.1, g.2.1 + ((w.length - 1 : Nat) : Int), t6 K0 g.2.2 (w00 v w u g.2.1)), true) else (g, false)
theorem k0d {r : Int} {w : List Int} (h : Q4 r w = true) : w.length ≤ 24 ∧ ∀ x ∈ w, B7 x ∧ x ≠ 0 ∧ -r ≤ x ∧ x ≤ r := by
 have h1 := h
 simp only [Q4, Bool.and_eq_true, decide_eq_true_eq] at h1
 refine ⟨h1.1.2, fun x hx => ?_⟩
 obtain ⟨i, hi⟩ := List.getElem?_of_mem hx
 have := H02 h hi
 exact ⟨⟨⟨by omega, by omega⟩, by omega⟩, this.2.2⟩
theorem U05 {g : l0} {u v : Int} {w : List Int} (hg : M0 g = true) (hu : 0 ≤ u ∧ u < g.2.1) (hv : 0 ≤ v ∧ v < g.2.1) (hw : Q4 g.1 w = true) : d8 g u w v = some (Q2 g u w v) := by
 obtain ⟨q1, q2, q3, q4⟩ := T1 hg
 obtain ⟨wl, wx⟩ := k0d hw
 have h1 := Q5 g (by omega)
 have h2 := C00 g (by omega)
 have h3 := l07 g.1 w (by omega)
 obtain ⟨r, n, es⟩ := g
 simp only at q3 q4 hu hv h3
 have hwp : IntKind.i64.wrap (n - 1) = n - 1 := w64 (by omega) (by omega)
 have hin : ∀ x : Int, 0 ≤ x ∧ x < n → inR 0 (n - 1) x = true := fun x hx => by simp [inR]; omega
 have h := j0d w v r (fun x hx => ⟨(wx x hx).1, (wx x hx).2.1⟩) (by omega) w.length 0 S0 u n es (by omega) (W0 (by omega)) (by omega) (by omega) (by omega)
 unfold d8 Q2
 simp only [h1, h2, hg, Option.bind_some, Bool.not_true, Bool.not_false, J2, cond_false, hwp, G01, hin u hu, hin v hv, h3, hw]
 rw [w64 (show (-9223372036854775808 : Int) ≤ n + ((w.length : Nat) : Int) by omega) (by omega), w64 (show (-9223372036854775808 : Int) ≤ n + ((w.length : Nat) : Int) - 1 by omega) (by omega), w64 (show (-9223372036854775808 : Int) ≤ ((es.length : Nat) : Int) + ((w.length : Nat) : Int) by omega) (by omega)]
 by_cases c : (w ≠ [] ∧ n + (w.length : Int) - 1 ≤ 40) ∧ es.length + w.length ≤ 120
 ·have hne : w.length ≠ 0 := by simpa using c.1.1
  rw [if_neg (by simp only [Bool.not_eq_true]; simp [c.1.1]; omega), show (0 : Int) = ((0 : Nat) : Int) from rfl, h, Option.bind_some]
  rw [show (!w.isEmpty && decide (n + (w.length : Int) - 1 ≤ 40) && decide (es.length + w.length ≤ 120)) = true by simp [c.1.1, c.1.2, c.2]]
  rfl
 ·rw [show (!w.isEmpty && decide (n + (w.length : Int) - 1 ≤ 40) && decide (es.length + w.length ≤ 120)) = false by
   rw [← Bool.not_eq_true]; simpa using c]
  rw [if_pos ?_]
  ·rfl
  ·by_cases d1 : w = []
   ·simp [d1]
   ·by_cases d2 : n + (w.length : Int) - 1 ≤ 40
    ·have d3 : ¬ es.length + w.length ≤ 120 := fun h => c ⟨⟨d1, d2⟩, h⟩
     have : decide (((es.length : Nat) : Int) + ((w.length : Nat) : Int) > 120) = true := by simp; omega
     rw [this]; simp
    ·have : decide (n + ((w.length : Nat) : Int) - 1 > 40) = true := by simp; omega
     rw [this]; simp
theorem q0k {g : l0} (hg : M0 g = true) {u : Int} (hu : 0 ≤ u ∧ u < g.2.1) : n5 g u = some true := by
 obtain ⟨q1, q2, q3, q4⟩ := T1 hg
 obtain ⟨r, n, es⟩ := g
 simp only at q3 hu
 unfold n5
 simp only [B01]
 rw [w64 (by omega) (by omega)]
 simp [inR]; omega
theorem V05 {g : l0} {u v : Int} {w : List Int} (hg : M0 g = true) (hu : 0 ≤ u ∧ u < g.2.1) (hv : 0 ≤ v ∧ v < g.2.1) (hw : Q4 g.1 w = true) : g8 g u w v = some (Q2 g u w v) := by
 obtain ⟨q1, q2, q3, q4⟩ := T1 hg
 obtain ⟨wl, wx⟩ := k0d hw
 have h1 := I8 g (by omega)
 have h2 := a00 g (by omega)
 have h3 := n07 g.1 w (by omega)
 have h4 := q0k hg hu
 have h5 := q0k hg hv
 have hA := x08 hg
 obtain ⟨r, n, es⟩ := g
 simp only at q3 q4 hu hv h3 hA
 have h := i0d w v r (fun x hx => (wx x hx).1) (by omega) w.length 0 S0 u n es (by omega) (W0 (by omega)) (by omega) (by omega) (by omega)
 have hpl := z05 v w u n
 unfold g8 Q2
 simp only [h1, h2, hg, Option.bind_some, Bool.not_true, Bool.not_false, J2, cond_false, h4, h5]
 rw [w64 (show (-9223372036854775808 : Int) ≤ n + ((w.length : Nat) : Int) by omega) (by omega), w64 (show (-9223372036854775808 : Int) ≤ n + ((w.length : Nat) : Int) - 1 by omega) (by omega), w64 (show (-9223372036854775808 : Int) ≤ ((es.length : Nat) : Int) + ((w.length : Nat) : Int) by omega) (by omega)]
 by_cases d1 : w = []
 ·subst d1
  simp [chk]
 rw [show decide (((w.length : Nat) : Int) = 0) = false by simp [d1], show (!false) = true from rfl, J2, h3, Option.bind_some, hw]
 by_cases c : n + (w.length : Int) - 1 ≤ 40 ∧ es.length + w.length ≤ 120
 ·rw [if_neg (by simp only [Bool.not_eq_true]; simp; omega), show (0 : Int) = ((0 : Nat) : Int) from rfl, h, Option.bind_some]
  rw [show (!w.isEmpty && decide (n + (w.length : Int) - 1 ≤ 40) && decide (es.length + w.length ≤ 120)) = true by simp [d1, c.1, c.2]]
  simp only [List.drop_zero, cond_true]
  rw [x07 _ (by simp; omega), b0b hA]
  rfl
 ·rw [show (!w.isEmpty && decide (n + (w.length : Int) - 1 ≤ 40) && decide (es.length + w.length ≤ 120)) = false by
   rw [← Bool.not_eq_true]; simp only [Bool.and_eq_true, decide_eq_true_eq, Bool.not_eq_true']; omega]
  rw [if_pos ?_]
  ·rfl
  ·by_cases d2 : n + (w.length : Int) - 1 ≤ 40
   ·have d3 : ¬ es.length + w.length ≤ 120 := fun h => c ⟨d2, h⟩
    have : decide (((es.length : Nat) : Int) + ((w.length : Nat) : Int) > 120) = true := by simp; omega
    rw [this]; simp
   ·have : decide (n + ((w.length : Nat) : Int) - 1 > 40) = true := by simp; omega
    rw [this]; simp
end Go.Proofs.YtfdlgbfeceodeaaGreat
namespace Go.Proofs.YtfdlgbfeceodeaaGreat
open Go.H
set_option linter.unusedVariables false
set_option linter.unusedSimpArgs false
def P1 (g : l0) : l0 × Bool := bif decide (g.2.1 < 40) then ((g.1, g.2.1 + 1, g.2.2), true) else (g, false)
theorem o09 {g : l0} (hg : M0 g = true) : Q7 g = some (P1 g) := by
 obtain ⟨q1, q2, q3, q4⟩ := T1 hg
 have h1 := Q5 g (by omega)
 have h2 := C00 g (by omega)
 obtain ⟨r, n, es⟩ := g
 simp only at q3
 unfold Q7 P1
 simp only [h1, h2, hg, Option.bind_some, Bool.not_true, cond_false]
 by_cases c : n < 40
 ·rw [if_neg (by simp; omega), w64 (by omega) (by omega)]; simp [c]
 ·rw [if_pos (by simp; omega)]; simp [c]
theorem p09 {g : l0} (hg : M0 g = true) : S7 g = some (P1 g) := by
 obtain ⟨q1, q2, q3, q4⟩ := T1 hg
 have h1 := I8 g (by omega)
 have h2 := a00 g (by omega)
 obtain ⟨r, n, es⟩ := g
 simp only at q3
 unfold S7 P1
 simp only [h1, h2, hg, Option.bind_some, Bool.not_true, cond_false]
 by_cases c : n < 40
 ·rw [if_neg (by simp; omega), w64 (by omega) (by omega)]; simp [c]
 ·rw [if_pos (by simp; omega)]; simp [c]
theorem k04 {g : l0} (hg : M0 g = true) : M0 (P1 g).1 = true := by
 unfold P1
 by_cases c : g.2.1 < 40
 ·simp only [c, decide_true, cond_true]
  obtain ⟨q1, q2, q3, q4, q5⟩ := (E9 g).1 hg
  refine (E9 _).2 ⟨fun e he => ?_, q2, ?_, q4, q5⟩
  ·have := q1 e he
   simp only
   omega
  ·simp only; omega
 ·simp only [c, decide_false, cond_false]; exact hg
theorem W0j {es : List D0} {e : D0} (hA : Asc K0 es) (he : e ∈ es) : R8 K0 e es = es :=
 o06 Y5 (z0a Y5 _ _ hA) hA fun x => by
  rw [r03 Y5]
  constructor
  ·rintro (rfl | h)
   ·exact he
   ·exact h
  ·exact .inr
theorem K0e (e : D0) : ∀ {es : List D0}, e ∉ es → (R8 K0 e es).length = es.length + 1
 | [], _ => rfl
 | y :: l, h => by
  have ih := K0e e (es := l) fun hm => h (List.mem_cons_of_mem _ hm)
  unfold R8
  split
  ·rfl
  ·split
   ·rename_i c
    exact absurd (Y5.eq _ _ c) fun hh => h (by rw [hh]; exact List.mem_cons_self ..)
   ·simp only [List.length_cons, ih]
def F7 (g : l0) (e : D0) : l0 × Bool := bif decide (g.2.2.length < 120) && !decide (e ∈ g.2.2) then ((g.1, g.2.1, R8 K0 e g.2.2), true) else (g, false)
def U0h (g : l0) (e : D0) : Prop := (0 ≤ e.1 ∧ e.1 < g.2.1) ∧ (0 ≤ e.2.2 ∧ e.2.2 < g.2.1) ∧ 1 ≤ e.2.1 ∧ e.2.1 ≤ g.1
theorem k0j {g : l0} (hg : M0 g = true) {e : D0} (he : U0h g e) : H01 g.1 (IntKind.i64.wrap (g.2.1 - 1)) e = true := by
 obtain ⟨q1, q2, q3, q4⟩ := T1 hg
 rw [w64 (by omega) (by omega)]
 unfold U0h at he
 simp only [H01, inR, Bool.and_eq_true, decide_eq_true_eq]
 omega
theorem u0b {g : l0} {e : D0} (hg : M0 g = true) (he : U0h g e) : f8 g e = some (F7 g e) := by
 obtain ⟨q1, q2, q3, q4⟩ := T1 hg
 have h1 := Q5 g (by omega)
 have h2 := C00 g (by omega)
 have h3 := o0e g e
 rw [k0j hg he] at h3
 have h4 := W03 g.2.2 e (by omega)
 have hA := x08 hg
 obtain ⟨r, n, es⟩ := g
 obtain ⟨e0, e1, e2⟩ := e
 simp only at q4 hA h4
 unfold f8 F7
 simp only [h1, h2, hg, Option.bind_some, Bool.not_true, Bool.not_false, cond_false, J2, h3]
 by_cases c : es.length < 120
 ·rw [if_neg (by simp; omega), h4, Option.bind_some]
  by_cases d : (e0, e1, e2) ∈ es
  ·rw [W0j hA d]
   simp [c, d]
  ·have := K0e (e0, e1, e2) d
   simp only [this, c, d, decide_true, decide_false, Bool.not_false, Bool.and_true, cond_true]
   simp
   omega
 ·rw [if_pos (by simp; omega)]
  simp [c]
theorem d0h (es : List D0) (e : D0) (hl : es.length ≤ 140737488355328) : ∀ (d k fuel : Nat), k + d = es.length → d < fuel →
  ∃ X, C1 es e.1 e.2.1 e.2.2 fuel (k : Int) = some X ∧ ((∃ i : Nat, X = .inl (i : Int) ∧ i < es.length ∧ e ∈ es.drop k) ∨ (X = .inr () ∧ e ∉ es.drop k))
 | d, k, 0, hd, hf => by omega
 | 0, k, fuel + 1, hd, hf => by
  rw [C1.eq_2, if_neg (by simp; omega), E1 (by omega)]
  exact ⟨_, rfl, .inr ⟨rfl, by simp⟩⟩
 | d + 1, k, fuel + 1, hd, hf => by
  have hk : k < es.length := by omega
  have hx := V5 hk
  generalize es[k] = b at hx
  rw [C1.eq_2, if_pos (by simp; omega), O3 hx, Option.bind_some, O1 hx]
  simp only []
  by_cases c : eqE e b = true
  ·rw [if_pos c]
   refine ⟨_, rfl, .inl ⟨k, rfl, hk, ?_⟩⟩
   rw [(c0d _ _).1 c]
   exact List.mem_cons_self ..
  ·rw [if_neg c, A2 hk (by omega)]
   obtain ⟨X, h1, h2⟩ := d0h es e hl d (k + 1) fuel (by omega) (by omega)
   refine ⟨X, h1, ?_⟩
   have hne : e ≠ b := fun h => c ((c0d _ _).2 h)
   rcases h2 with ⟨i, q1, q2, q3⟩ | ⟨q1, q2⟩
   ·exact .inl ⟨i, q1, q2, List.mem_cons_of_mem _ q3⟩
   ·refine .inr ⟨q1, fun h => ?_⟩
    rcases List.mem_cons.1 h with h | h
    ·exact hne h
    ·exact q2 h
theorem V0f (es : List D0) (e : D0) (hl : es.length ≤ 140737488355328) : M2 es e = some (decide (e ∈ es)) := by
 obtain ⟨X, h1, h2⟩ := d0h es e hl es.length 0 S0 (by omega) (W0 hl)
 obtain ⟨e0, e1, e2⟩ := e
 unfold M2 Z3
 simp only
 simp only [List.drop_zero] at h2
 rw [show (0 : Int) = ((0 : Nat) : Int) from rfl, h1]
 rcases h2 with ⟨i, rfl, q2, q3⟩ | ⟨rfl, q2⟩
 ·simp only [Option.bind_some, n3]
  rw [N0 (show F0 ((i : Nat) : Int) from ⟨by omega, by omega⟩)]
  simp [q3]
 ·simp only [Option.bind_some, T0]
  rw [N0 (show F0 (-1) from ⟨by omega, by omega⟩)]
  simp [q2]
theorem v0b {g : l0} {e : D0} (hg : M0 g = true) (he : U0h g e) : P8 g e = some (F7 g e) := by
 obtain ⟨q1, q2, q3, q4⟩ := T1 hg
 have h1 := I8 g (by omega)
 have h2 := a00 g (by omega)
 have h3 := i04 g e
 rw [k0j hg he] at h3
 have h4 := V0f g.2.2 e (by omega)
 have hA := x08 hg
 obtain ⟨r, n, es⟩ := g
 obtain ⟨e0, e1, e2⟩ := e
 simp only at q4 hA h4
 unfold P8 F7
 simp only [h1, h2, hg, Option.bind_some, Bool.not_true, Bool.not_false, cond_false, J2, h3, h4]
 by_cases d : (e0, e1, e2) ∈ es
 ·simp [d]
 ·by_cases c : es.length < 120
  ·rw [if_neg (by simp [d]; omega), N0 (by simp; omega), Option.bind_some, x07 _ (by simp; omega), b0b hA]
   simp [c, d, t6]
  ·have : es.length = 120 := by omega
   rw [if_pos (by simp [this])]
   simp [c]
def o02 (g : l0) (v : Int) : List Int → List D0
 | [] => []
 | x :: r => (bif decide (B5 g v x < 0) then [(v, x, -1)] else []) ++ o02 g v r
def W05 (g : l0) : Nat → Nat → List D0
 | 0, _ => []
 | d + 1, v => o02 g (v : Int) (b00 g.1.toNat 1) ++ W05 g d (v + 1)
theorem y08 (g : l0) (v : Int) : ∀ l, (o02 g v l).length ≤ l.length
 | [] => Nat.le_refl _
 | x :: r => by
  have := y08 g v r
  simp only [o02, List.length_append, List.length_cons]
  cases decide (B5 g v x < 0) <;> simp <;> omega
theorem L0e (g : l0) (hg : M0 g = true) (v : Int) (ls : List Int) (hls : ∀ x ∈ ls, B7 x) (hl : ls.length ≤ 1000) : ∀ (d k fuel : Nat) (acc : List D0), k + d = ls.length → d < fuel → acc.length + d ≤ 100000 →
  Y2 ls g.1 g.2.1 g.2.2 v fuel (k : Int) acc = some (acc ++ o02 g v (ls.drop k))
 | d, k, 0, acc, hd, hf, ha => by omega
 | 0, k, fuel + 1, acc, hd, hf, ha => by
  rw [Y2.eq_2, if_neg (by simp; omega), E1 (by omega)]
  simp [o02]
 | d + 1, k, fuel + 1, acc, hd, hf, ha => by
  obtain ⟨q1, q2, q3, q4⟩ := T1 hg
  have hk : k < ls.length := by omega
  have hx := V5 hk
  have hm := hls _ (List.getElem_mem hk)
  generalize ls[k] = x at hx hm
  have ih : ∀ acc' : List D0, acc'.length + d ≤ 100000 → Y2 ls g.1 g.2.1 g.2.2 v fuel ((k + 1 : Nat) : Int) acc' = some (acc' ++ o02 g v (ls.drop (k + 1))) := fun acc' h => L0e g hg v ls hls hl d (k + 1) fuel acc' (by omega) (by omega) h
  rw [Y2.eq_2, if_pos (by simp; omega), O3 hx, Option.bind_some, show (g.1, g.2.1, g.2.2) = g from rfl, q06 g v x hm (by omega), Option.bind_some, N0 (U03 q1 q3.2 v x), Option.bind_some, A2 hk (by omega), O1 hx, o02]
  cases decide (B5 g v x < 0) with
  | true =>
   rw [if_pos rfl, Option.bind_some, N0 (by simp; omega), Option.bind_some, ih _ (by simp; omega)]
   simp
  | false =>
   rw [if_neg (by simp), ih _ (by omega)]
   simp
theorem M0e (g : l0) (hg : M0 g = true) (v : Int) (ls : List Int) (hls : ∀ x ∈ ls, B7 x) (hl : ls.length ≤ 1000) : ∀ (d k fuel : Nat) (acc : List D0), k + d = ls.length → d < fuel → acc.length + d ≤ 100000 →
  Z2 ls g.1 g.2.1 g.2.2 v fuel (k : Int) acc = some (acc ++ o02 g v (ls.drop k))
 | d, k, 0, acc, hd, hf, ha => by omega
 | 0, k, fuel + 1, acc, hd, hf, ha => by
  rw [Z2.eq_2, if_neg (by simp; omega), E1 (by omega)]
  simp [o02]
 | d + 1, k, fuel + 1, acc, hd, hf, ha => by
  obtain ⟨q1, q2, q3, q4⟩ := T1 hg
  have hk : k < ls.length := by omega
  have hx := V5 hk
  have hm := hls _ (List.getElem_mem hk)
  generalize ls[k] = x at hx hm
  have ih : ∀ acc' : List D0, acc'.length + d ≤ 100000 → Z2 ls g.1 g.2.1 g.2.2 v fuel ((k + 1 : Nat) : Int) acc' = some (acc' ++ o02 g v (ls.drop (k + 1))) := fun acc' h => M0e g hg v ls hls hl d (k + 1) fuel acc' (by omega) (by omega) h
  rw [Z2.eq_2, if_pos (by simp; omega), O3 hx, Option.bind_some, show (g.1, g.2.1, g.2.2) = g from rfl, r06 g v x hm (by omega), Option.bind_some, N0 (U03 q1 q3.2 v x), Option.bind_some, A2 hk (by omega), O1 hx, o02]
  cases decide (B5 g v x < 0) with
  | true =>
   rw [if_pos rfl, N0 (by simp; omega), Option.bind_some, ih _ (by simp; omega)]
   simp
  | false =>
   rw [if_neg (by simp), ih _ (by omega)]
   simp
theorem C07 : ∀ (d i : Nat) (x : Int), x ∈ b00 d i → ∃ j : Nat, i ≤ j ∧ j < i + d ∧ (x = (j : Int) ∨ x = -(j : Int))
 | 0, i, x, h => by simp [b00] at h
 | d + 1, i, x, h => by
  simp only [b00, List.mem_cons] at h
  rcases h with rfl | rfl | h
  ·exact ⟨i, Nat.le_refl _, by omega, .inl rfl⟩
  ·exact ⟨i, Nat.le_refl _, by omega, .inr rfl⟩
  ·obtain ⟨j, h1, h2, h3⟩ := C07 d (i + 1) x h
   exact ⟨j, by omega, by omega, h3⟩
theorem N0e (g : l0) (hf0 : P0 g = true) : ∀ (d k fuel : Nat) (acc : List D0), k + d = g.2.1.toNat → d < fuel → acc.length + 100 * d ≤ 10000 →
  l4 g.2.1 g.1 g.2.2 fuel (k : Int) acc = some (acc ++ W05 g d k)
 | d, k, 0, acc, hd, hf, ha => by omega
 | 0, k, fuel + 1, acc, hd, hf, ha => by
  obtain ⟨q1, q2, q3, q4⟩ := C4 hf0
  rw [l4.eq_2, show decide (((k : Nat) : Int) < g.2.1) = false by simp; omega]
  simp [chk, W05]
 | d + 1, k, fuel + 1, acc, hd, hf, ha => by
  obtain ⟨q1, q2, q3, q4⟩ := C4 hf0
  have hg := ((H7 g).1 hf0).1
  obtain ⟨R, hR⟩ : ∃ R : Nat, g.1 = (R : Int) := ⟨g.1.toNat, by omega⟩
  have hls : ∀ x ∈ b00 g.1.toNat 1, B7 x := fun x hx => by
   obtain ⟨j, h1, h2, h3⟩ := C07 _ _ _ hx
   refine ⟨⟨by omega, by omega⟩, by omega⟩
  have hlen := y03 g.1.toNat 1
  have hm := y08 g (k : Int) (b00 g.1.toNat 1)
  have h0 := L0e g hg (k : Int) (b00 g.1.toNat 1) hls (by omega) (b00 g.1.toNat 1).length 0 S0 acc (by omega) (W0 (by omega)) (by omega)
  rw [l4.eq_2, show decide (((k : Nat) : Int) < g.2.1) = true by simp; omega, J2, show (g.1, g.2.1, g.2.2) = g from rfl, N8 g (by omega), Option.bind_some, hf0]
  rw [if_pos (show (bif true then true else false) = true from rfl), show Z6 g.1 = some (b00 g.1.toNat 1) by rw [hR, c0j R (by omega)]; rfl, Option.bind_some, show (0 : Int) = ((0 : Nat) : Int) from rfl, h0, Option.bind_some, A2 (show k < 1000 by omega) (by omega), N0e g hf0 d (k + 1) fuel _ (by omega) (by omega) (by simp; omega), W05]
  simp
theorem O0e (g : l0) (hf0 : P0 g = true) : ∀ (d k fuel : Nat) (acc : List D0), k + d = g.2.1.toNat → d < fuel → acc.length + 100 * d ≤ 10000 →
  w4 g.2.1 g.1 g.2.2 fuel (k : Int) acc = some (acc ++ W05 g d k)
 | d, k, 0, acc, hd, hf, ha => by omega
 | 0, k, fuel + 1, acc, hd, hf, ha => by
  obtain ⟨q1, q2, q3, q4⟩ := C4 hf0
  rw [w4.eq_2, if_neg (by simp; omega)]
  simp [W05]
 | d + 1, k, fuel + 1, acc, hd, hf, ha => by
  obtain ⟨q1, q2, q3, q4⟩ := C4 hf0
  have hg := ((H7 g).1 hf0).1
  obtain ⟨R, hR⟩ : ∃ R : Nat, g.1 = (R : Int) := ⟨g.1.toNat, by omega⟩
  have hls : ∀ x ∈ b00 g.1.toNat 1, B7 x := fun x hx => by
   obtain ⟨j, h1, h2, h3⟩ := C07 _ _ _ hx
   refine ⟨⟨by omega, by omega⟩, by omega⟩
  have hlen := y03 g.1.toNat 1
  have hm := y08 g (k : Int) (b00 g.1.toNat 1)
  have h0 := M0e g hg (k : Int) (b00 g.1.toNat 1) hls (by omega) (b00 g.1.toNat 1).length 0 S0 acc (by omega) (W0 (by omega)) (by omega)
  rw [w4.eq_2, if_pos (by simp; omega), show c8 g.1 = some (b00 g.1.toNat 1) by rw [hR, b0j R (by omega)]; rfl, Option.bind_some, show (0 : Int) = ((0 : Nat) : Int) from rfl, h0, Option.bind_some, A2 (show k < 1000 by omega) (by omega), O0e g hf0 d (k + 1) fuel _ (by omega) (by omega) (by simp; omega), W05]
  simp
def r6 (g : l0) : List D0 := W05 g g.2.1.toNat 0
theorem w0b {g : l0} (hf : P0 g = true) : L6 g = some (r6 g) := by
 obtain ⟨q1, q2, q3, q4⟩ := C4 hf
 have h := N0e g hf g.2.1.toNat 0 S0 [] (by omega) (W0 (by omega)) (by simp; omega)
 obtain ⟨r, n, es⟩ := g
 unfold L6 r6
 simp only at h ⊢
 rw [show (0 : Int) = ((0 : Nat) : Int) from rfl, h]; simp
theorem x0b {g : l0} (hf : P0 g = true) : M6 g = some (r6 g) := by
 obtain ⟨q1, q2, q3, q4⟩ := C4 hf
 have h := O0e g hf g.2.1.toNat 0 S0 [] (by omega) (W0 (by omega)) (by simp; omega)
 have h2 := Z9 g (by omega)
 obtain ⟨r, n, es⟩ := g
 unfold M6 r6
 simp only [h2, hf, Option.bind_some] at h ⊢
 rw [if_neg (by simp), show (0 : Int) = ((0 : Nat) : Int) from rfl, h]; simp
theorem l0c {g : l0} {v : Int} {e : D0} : ∀ {l : List Int}, e ∈ o02 g v l → e.1 = v ∧ e.2.1 ∈ l ∧ e.2.2 = -1
 | [], h => nomatch h
 | x :: r, h => by
  simp only [o02, List.mem_append] at h
  rcases h with h | h
  ·cases hd : decide (B5 g v x < 0) with
   | true =>
    rw [hd] at h
    simp at h
    subst h
    exact ⟨rfl, List.mem_cons_self .., rfl⟩
   | false => rw [hd] at h; simp at h
  ·obtain ⟨h1, h2, h3⟩ := l0c h
   exact ⟨h1, List.mem_cons_of_mem _ h2, h3⟩
theorem m0c {g : l0} {e : D0} : ∀ {d k : Nat}, e ∈ W05 g d k → ((k : Int) ≤ e.1 ∧ e.1 < (k : Int) + d) ∧ e.2.1 ∈ b00 g.1.toNat 1
 | 0, k, h => nomatch h
 | d + 1, k, h => by
  rcases List.mem_append.1 (show e ∈ o02 g (k : Int) (b00 g.1.toNat 1) ++ W05 g d (k + 1) from h) with h | h
  ·obtain ⟨h1, h2, _⟩ := l0c h
   exact ⟨by omega, h2⟩
  ·obtain ⟨h1, h2⟩ := m0c h
   exact ⟨by omega, h2⟩
theorem b05 {g : l0} (hf : P0 g = true) {e : D0} (h : e ∈ r6 g) : (0 ≤ e.1 ∧ e.1 < g.2.1) ∧ e.2.1 ≠ 0 ∧ -g.1 ≤ e.2.1 ∧ e.2.1 ≤ g.1 := by
 obtain ⟨q1, q2, q3, q4⟩ := C4 hf
 obtain ⟨h1, h2⟩ := m0c h
 obtain ⟨j, k1, k2, k3⟩ := C07 _ _ _ h2
 refine ⟨by omega, by omega, by omega, by omega⟩
end Go.Proofs.YtfdlgbfeceodeaaGreat
namespace Go.Proofs.YtfdlgbfeceodeaaGreat
open Go.H
set_option linter.unusedVariables false
set_option linter.unusedSimpArgs false
theorem n0c {g : l0} {v : Int} : ∀ {l : List (List Int)} {k i : Nat}, c0b g v l k = some i → k ≤ i ∧ i < k + l.length
 | [], k, i, h => nomatch h
 | r :: l, k, i, h => by
  unfold c0b at h
  cases hb : V0h g v r with
  | true =>
   rw [hb] at h
   simp only [cond_true, Option.some.injEq] at h
   subst h
   simp
  | false =>
   rw [hb] at h
   have := n0c (l := l) (k := k + 1) (i := i) h
   simp only [List.length_cons]; omega
theorem z08 {g : l0} {rels : List (List Int)} : ∀ {d k v i : Nat}, Z03 g rels d k = some (v, i) → (k ≤ v ∧ v < k + d) ∧ i < rels.length
 | 0, k, v, i, h => nomatch h
 | d + 1, k, v, i, h => by
  unfold Z03 at h
  cases hr : c0b g (k : Int) rels 0 with
  | some j =>
   rw [hr] at h
   simp only [Option.some.injEq, Prod.mk.injEq] at h
   obtain ⟨rfl, rfl⟩ := h
   have := n0c hr
   omega
  | none =>
   rw [hr] at h
   have := z08 (d := d) (k := k + 1) h
   omega
def P0e (p : C0) (g : l0) (v i : Nat) : l0 × Bool × Bool := match p.2[i]? with
 | some w => bif (Q2 g (v : Int) w (v : Int)).2 then ((Y3 (Q2 g (v : Int) w (v : Int)).1).1, true, true) else (g, false, false)
 | none => (g, false, false)
def Q0e (g : l0) : l0 × Bool × Bool := match r6 g with
 | [] => (g, false, true)
 | e :: _ => bif (P1 g).2 then (bif (F7 (P1 g).1 (stp e.1 e.2.1 g.2.1)).2 then ((F7 (P1 g).1 (stp e.1 e.2.1 g.2.1)).1, true, true) else (g, false, false)) else (g, false, false)
def K1 (p : C0) (g : l0) : l0 × Bool × Bool := bif d4 p && P0 g && decide (p.1 = g.1) then (match Z03 g p.2 g.2.1.toNat 0 with
 | some (v, i) => P0e p g v i
 | none => Q0e g) else (g, false, false)
theorem d05 {g : l0} (hg : M0 g = true) (u : Int) (w : List Int) (v : Int) : (Q2 g u w v).1.2.2.length ≤ 120 := by
 have q := (T1 hg).2.2.2
 unfold Q2
 cases hc : (!w.isEmpty && decide (g.2.1 + (w.length : Int) - 1 ≤ 40) && decide (g.2.2.length + w.length ≤ 120)) with
 | false => exact q
 | true =>
  simp only [Bool.and_eq_true, decide_eq_true_eq] at hc
  have h1 := C01 (w00 v w u g.2.1) g.2.2
  have h2 := z05 v w u g.2.1
  simp only [cond_true]
  omega
theorem l0j {g : l0} (hf : P0 g = true) {e : D0} (he : e ∈ r6 g) (hv : (P1 g).2 = true) : U0h (P1 g).1 (stp e.1 e.2.1 g.2.1) := by
 obtain ⟨h1, h2, h3, h4⟩ := b05 hf he
 obtain ⟨q1, q2, q3, q4⟩ := C4 hf
 unfold P1 at hv ⊢
 by_cases c : g.2.1 < 40
 ·simp only [c, decide_true, cond_true]
  unfold stp U0h
  split <;> (simp only; omega)
 ·simp [c] at hv
theorem G07 (p : C0) (g : l0) (hl : p.2.length ≤ 140737488355328) (hs : C2 p.2) (hl2 : g.2.2.length ≤ 1099511627776) : i8 p g = some (K1 p g) := by
 have h1 := C8 p hl hs
 have h2 := N8 g (by omega)
 have h3 := C00 g hl2
 have h4 := F07 p g hl hs (by omega)
 have h5 : P0 g = true → L6 g = some (r6 g) := w0b
 have h6 : P0 g = true → Q7 g = some (P1 g) := fun h => o09 ((H7 g).1 h).1
 have h7 : P0 g = true → ∀ e ∈ r6 g, (P1 g).2 = true → f8 (P1 g).1 (stp e.1 e.2.1 g.2.1) = some (F7 (P1 g).1 (stp e.1 e.2.1 g.2.1)) := fun h e he hv => u0b (k04 ((H7 g).1 h).1) (l0j h he hv)
 have h8 : d4 p = true → P0 g = true → p.1 = g.1 → ∀ v i : Nat, Z03 g p.2 g.2.1.toNat 0 = some (v, i) → ∃ w, p.2[i]? = some w ∧ d8 g (v : Int) w (v : Int) = some (Q2 g (v : Int) w (v : Int)) ∧ E6 (Q2 g (v : Int) w (v : Int)).1 = some (Y3 (Q2 g (v : Int) w (v : Int)).1) ∧ v ≤ 40 ∧ i ≤ 6 := fun a b c v i hh => by
  obtain ⟨k1, k2⟩ := z08 hh
  have hg := ((H7 g).1 b).1
  obtain ⟨q1, q2, q3, q4⟩ := C4 b
  refine ⟨p.2[i], V5 k2, U05 hg ⟨by omega, by omega⟩ ⟨by omega, by omega⟩ (by rw [← c]; exact c05 a _ (List.getElem_mem k2)), V02 _ (by have := d05 hg (v : Int) p.2[i] (v : Int); omega), by omega, by have := Y03 a; omega⟩
 have h9 : P0 g = true → ∀ e ∈ r6 g, (0 ≤ e.1 ∧ e.1 < g.2.1) ∧ e.2.1 ≠ 0 ∧ -3 ≤ e.2.1 ∧ e.2.1 ≤ 3 := fun h e he => by
  obtain ⟨k1, k2, k3, k4⟩ := b05 h he
  obtain ⟨q1, q2, q3, q4⟩ := C4 h
  exact ⟨k1, k2, by omega, by omega⟩
 unfold F9 at h4
 unfold K1 Q0e
 obtain ⟨pr, rels⟩ := p
 obtain ⟨r, n, es⟩ := g
 unfold i8
 simp only [h1, Option.bind_some]
 cases hp : d4 (pr, rels) with
 | false => simp only [Bool.not_false, Bool.not_true, M5, Option.bind_some, cond_true, if_true, h3, Bool.false_and, cond_false]
 | true =>
  simp only [Bool.not_true, Bool.not_false, J2, h2, Option.bind_some, cond_false, Bool.true_and]
  cases hf : P0 (r, n, es) with
  | false => simp only [Bool.not_false, cond_true, if_true, h3, Option.bind_some, Bool.false_and, cond_false]
  | true =>
   simp only [Bool.not_true, cond_false, Bool.true_and]
   by_cases hr : pr = r
   ·subst hr
    have e4 : c7 (pr, rels) (pr, n, es) = some (d0b (Z03 (pr, n, es) rels n.toNat 0)) := by
     rw [h4]; simp only [hp, hf, decide_true, Bool.and_true, cond_true]
    simp only [decide_true, Bool.not_true, Bool.false_eq_true, if_false, cond_true]
    have h8 := h8 hp hf rfl
    simp only at h8
    cases hh : Z03 (pr, n, es) rels n.toNat 0 with
    | some q =>
     obtain ⟨v, i⟩ := q
     obtain ⟨w, k1, k2, k3, k4, k5⟩ := h8 v i hh
     rw [hh] at e4
     simp only [d0b] at e4
     rw [e4, Option.bind_some]
     try simp only []
     rw [N0 (show F0 ((v : Nat) : Int) from ⟨by omega, by omega⟩), Option.bind_some, N0 (show F0 ((i : Nat) : Int) from ⟨by omega, by omega⟩), Option.bind_some, if_pos (by simp), O3 k1, Option.bind_some, k2, Option.bind_some]
     unfold P0e
     simp only [k1]
     revert k3
     generalize Q2 (pr, n, es) (v : Int) w (v : Int) = ap
     intro k3
     obtain ⟨g2, ok⟩ := ap
     try simp only at k3
     cases ok with
     | false => simp only [Bool.not_false, if_true, h3, Option.bind_some, cond_false]
     | true => simp only [Bool.not_true, Bool.false_eq_true, if_false, k3, Option.bind_some, cond_true]
    | none =>
     rw [hh] at e4
     simp only [d0b] at e4
     rw [e4, Option.bind_some]
     try simp only []
     rw [N0 (show F0 (-1) from ⟨by omega, by omega⟩), Option.bind_some, Option.bind_some, if_neg (by simp), h5 hf, Option.bind_some]
     have h7 := h7 hf
     have h9 := h9 hf
     have h6 := h6 hf
     cases hm : r6 (pr, n, es) with
     | nil => simp only [List.length_nil]; rw [if_pos (by simp), h3]; rfl
     | cons e l =>
      have h7 := h7 e (by rw [hm]; exact List.mem_cons_self ..)
      obtain ⟨k1, k2, k3, k4⟩ := h9 e (by rw [hm]; exact List.mem_cons_self ..)
      rw [if_neg (by simp; omega), h6, Option.bind_some]
      revert h7
      generalize P1 (pr, n, es) = av
      intro h7
      obtain ⟨g2, ok⟩ := av
      simp only at h7
      simp only []
      cases ok with
      | false => simp only [Bool.not_false, if_true, h3, Option.bind_some, cond_false]
      | true =>
       have h7 := h7 rfl
       simp only [Bool.not_true, Bool.false_eq_true, if_false, cond_true]
       obtain ⟨e0, e1, e2⟩ := e
       simp only at k1 k2 k3 k4 h7
       rw [T04 rfl]
       simp only [Option.bind_some]
       revert h7
       generalize F7 g2 (stp e0 e1 n) = ae
       intro h7
       obtain ⟨g3, ok3⟩ := ae
       by_cases c : e1 < 0
       ·rw [if_pos (by simp [c]), w64 (by omega) (by omega), show ((n, 0 - e1, e0) : D0) = stp e0 e1 n by unfold stp; rw [if_pos c, Int.zero_sub], h7]
        cases ok3 <;> simp [h3]
       ·rw [if_neg (by simp; omega), show ((e0, e1, n) : D0) = stp e0 e1 n by unfold stp; rw [if_neg c], h7]
        cases ok3 <;> simp [h3]
   ·simp only [hr, decide_false, Bool.not_false, if_true, h3, Option.bind_some, cond_false]
theorem H07 (p : C0) (g : l0) (hl : p.2.length ≤ 140737488355328) (hs : C2 p.2) (hl2 : g.2.2.length ≤ 1099511627776) : j8 p g = some (K1 p g) := by
 have h1 := W9 p hl hs
 have h2 := Z9 g (by omega)
 have h3 := a00 g hl2
 have h4 := E07 p g hl hs (by omega)
 have h5 : P0 g = true → M6 g = some (r6 g) := x0b
 have h6 : P0 g = true → S7 g = some (P1 g) := fun h => p09 ((H7 g).1 h).1
 have h7 : P0 g = true → ∀ e ∈ r6 g, (P1 g).2 = true → P8 (P1 g).1 (stp e.1 e.2.1 g.2.1) = some (F7 (P1 g).1 (stp e.1 e.2.1 g.2.1)) := fun h e he hv => v0b (k04 ((H7 g).1 h).1) (l0j h he hv)
 have h8 : d4 p = true → P0 g = true → p.1 = g.1 → ∀ v i : Nat, Z03 g p.2 g.2.1.toNat 0 = some (v, i) → ∃ w, p.2[i]? = some w ∧ g8 g (v : Int) w (v : Int) = some (Q2 g (v : Int) w (v : Int)) ∧ F6 (Q2 g (v : Int) w (v : Int)).1 = some (Y3 (Q2 g (v : Int) w (v : Int)).1) ∧ v ≤ 40 ∧ i ≤ 6 := fun a b c v i hh => by
  obtain ⟨k1, k2⟩ := z08 hh
  have hg := ((H7 g).1 b).1
  obtain ⟨q1, q2, q3, q4⟩ := C4 b
  refine ⟨p.2[i], V5 k2, V05 hg ⟨by omega, by omega⟩ ⟨by omega, by omega⟩ (by rw [← c]; exact c05 a _ (List.getElem_mem k2)), W02 _ (by have := d05 hg (v : Int) p.2[i] (v : Int); omega), by omega, by have := Y03 a; omega⟩
 have h9 : P0 g = true → ∀ e ∈ r6 g, (0 ≤ e.1 ∧ e.1 < g.2.1) ∧ e.2.1 ≠ 0 ∧ -3 ≤ e.2.1 ∧ e.2.1 ≤ 3 := fun h e he => by
  obtain ⟨k1, k2, k3, k4⟩ := b05 h he
  obtain ⟨q1, q2, q3, q4⟩ := C4 h
  exact ⟨k1, k2, by omega, by omega⟩
 unfold F9 at h4
 unfold K1 Q0e
 obtain ⟨pr, rels⟩ := p
 obtain ⟨r, n, es⟩ := g
 unfold j8
 simp only [h1, Option.bind_some]
 cases hp : d4 (pr, rels) with
 | false => simp only [Bool.not_false, Bool.not_true, M5, Option.bind_some, cond_true, if_true, h3, Bool.false_and, cond_false]
 | true =>
  simp only [Bool.not_true, Bool.not_false, J2, h2, Option.bind_some, cond_false, Bool.true_and]
  cases hf : P0 (r, n, es) with
  | false => simp only [Bool.not_false, cond_true, if_true, h3, Option.bind_some, Bool.false_and, cond_false]
  | true =>
   simp only [Bool.not_true, cond_false, Bool.true_and]
   by_cases hr : pr = r
   ·subst hr
    have e4 : d7 (pr, rels) (pr, n, es) = some (d0b (Z03 (pr, n, es) rels n.toNat 0)) := by
     rw [h4]; simp only [hp, hf, decide_true, Bool.and_true, cond_true]
    simp only [decide_true, Bool.not_true, Bool.false_eq_true, if_false, cond_true]
    have h8 := h8 hp hf rfl
    simp only at h8
    cases hh : Z03 (pr, n, es) rels n.toNat 0 with
    | some q =>
     obtain ⟨v, i⟩ := q
     obtain ⟨w, k1, k2, k3, k4, k5⟩ := h8 v i hh
     rw [hh] at e4
     simp only [d0b] at e4
     rw [e4, Option.bind_some]
     try simp only []
     rw [N0 (show F0 ((v : Nat) : Int) from ⟨by omega, by omega⟩), Option.bind_some, N0 (show F0 ((i : Nat) : Int) from ⟨by omega, by omega⟩), Option.bind_some, if_pos (by simp), O3 k1, Option.bind_some, k2, Option.bind_some]
     unfold P0e
     simp only [k1]
     revert k3
     generalize Q2 (pr, n, es) (v : Int) w (v : Int) = ap
     intro k3
     obtain ⟨g2, ok⟩ := ap
     try simp only at k3
     cases ok with
     | false => simp only [Bool.not_false, if_true, h3, Option.bind_some, cond_false]
     | true => simp only [Bool.not_true, Bool.false_eq_true, if_false, k3, Option.bind_some, cond_true]
    | none =>
     rw [hh] at e4
     simp only [d0b] at e4
     rw [e4, Option.bind_some]
     try simp only []
     rw [N0 (show F0 (-1) from ⟨by omega, by omega⟩), Option.bind_some, Option.bind_some, if_neg (by simp), h5 hf, Option.bind_some]
     have h7 := h7 hf
     have h9 := h9 hf
     have h6 := h6 hf
     cases hm : r6 (pr, n, es) with
     | nil => simp only [List.length_nil]; rw [if_pos (by simp), h3]; rfl
     | cons e l =>
      have h7 := h7 e (by rw [hm]; exact List.mem_cons_self ..)
      obtain ⟨k1, k2, k3, k4⟩ := h9 e (by rw [hm]; exact List.mem_cons_self ..)
      rw [if_neg (by simp; omega), h6, Option.bind_some]
      revert h7
      generalize P1 (pr, n, es) = av
      intro h7
      obtain ⟨g2, ok⟩ := av
      simp only at h7
      simp only []
      cases ok with
      | false => simp [h3]
      | true =>
       have h7 := h7 rfl
       simp only [Bool.not_true, Bool.false_eq_true, if_false, cond_true]
       obtain ⟨e0, e1, e2⟩ := e
       simp only at k1 k2 k3 k4 h7
       rw [T04 rfl]
       simp only [Option.bind_some]
       rw [U0f e0 e1 n ⟨⟨by omega, by omega⟩, by omega⟩]
       simp only [Option.bind_some]
       revert h7
       generalize F7 g2 (stp e0 e1 n) = ae
       intro h7
       obtain ⟨g3, ok3⟩ := ae
       cases ok3 <;> simp [h3, h7]
   ·simp only [hr, decide_false, Bool.not_false, if_true, h3, Option.bind_some, cond_false]
end Go.Proofs.YtfdlgbfeceodeaaGreat
namespace Go.Proofs.YtfdlgbfeceodeaaGreat
open Go.H
set_option linter.unusedVariables false
set_option linter.unusedSimpArgs false
theorem W0f (g : Nat) : ∀ (d k : Nat) (x : Int), x ∈ wo g d k → ∃ j : Nat, x = (j : Int) ∧ k ≤ j ∧ j < k + d
 | 0, k, x, h => nomatch h
 | d + 1, k, x, h => by
  unfold wo at h
  split at h
  ·obtain ⟨j, h1, h2, h3⟩ := W0f g d (k + 1) x h
   exact ⟨j, h1, by omega, by omega⟩
  ·rcases List.mem_cons.1 h with rfl | h
   ·exact ⟨k, rfl, Nat.le_refl _, by omega⟩
   ·obtain ⟨j, h1, h2, h3⟩ := W0f g d (k + 1) x h
    exact ⟨j, h1, by omega, by omega⟩
theorem I07 (g : Nat) : ∀ (d k : Nat), (wo g d k).Nodup
 | 0, k => List.nodup_nil
 | d + 1, k => by
  unfold wo
  split
  ·exact I07 g d (k + 1)
  ·refine List.nodup_cons.2 ⟨fun h => ?_, I07 g d (k + 1)⟩
   obtain ⟨j, h1, h2, h3⟩ := W0f g d (k + 1) _ h
   omega
theorem l0d (P : List Int) : ∀ (es : List D0), ∀ e ∈ pE P es, ∃ a ∈ es, e = (getI P a.1, a.2.1, getI P a.2.2) ∧ 0 ≤ getI P a.1 ∧ 0 ≤ getI P a.2.2
 | [], e, h => nomatch h
 | b :: r, e, h => by
  unfold pE at h
  cases hb : decide (0 ≤ getI P b.1) && decide (0 ≤ getI P b.2.2)
  ·rw [hb] at h
   obtain ⟨a, h1, h2⟩ := l0d P r e h
   exact ⟨a, List.mem_cons_of_mem _ h1, h2⟩
  ·rw [hb] at h
   simp only [Bool.and_eq_true, decide_eq_true_eq] at hb
   rcases List.mem_cons.1 h with rfl | h
   ·exact ⟨b, List.mem_cons_self .., rfl, hb.1, hb.2⟩
   ·obtain ⟨a, h1, h2⟩ := l0d P r e h
    exact ⟨a, List.mem_cons_of_mem _ h1, h2⟩
theorem i0b {g : l0} {o : List Int} (hg : M0 g = true) (ho : inV g.2.1.toNat o) (h1 : 1 ≤ o.length) (h2 : o.length ≤ 40) : M0 (I9 g o) = true := by
 obtain ⟨q1, q2, q3, q4⟩ := T1 hg
 have hl := e0d (plc g.2.1.toNat o) g.2.2
 refine A07 q2 ⟨by omega, by omega⟩ (by omega) fun e he => ?_
 obtain ⟨a, ha, rfl, k1, k2⟩ := l0d _ _ e he
 have hq := q1 a ha
 have r1 := (x03 ho (x := a.1) (by omega)).2
 have r2 := (x03 ho (x := a.2.2) (by omega)).2
 exact ⟨⟨k1, r1⟩, ⟨k2, r2⟩, hq.2.2⟩
theorem j0b {n : Nat} : ∀ (o : List Int) (k : Nat) (A : List Int), A.length = n → inV n o → o.Nodup → (∀ x, 0 ≤ x → getI A x < (k : Int)) → (∀ x y, 0 ≤ x → 0 ≤ y → 0 ≤ getI A x → getI A x = getI A y → x = y) →
  ∀ x y, 0 ≤ x → 0 ≤ y → 0 ≤ getI (R00 A k o) x → getI (R00 A k o) x = getI (R00 A k o) y → x = y
 | [], k, A, hA, ho, hd, hr, hi => hi
 | v :: r, k, A, hA, ho, hd, hr, hi => by
  have hv := ho v (List.mem_cons_self ..)
  refine j0b r (k + 1) (A.set v.toNat (k : Int)) (by simp [hA]) (fun w hw => ho w (List.mem_cons_of_mem _ hw)) (List.nodup_cons.1 hd).2 (fun x hx => ?_) (fun x y hx hy h0 he => ?_)
  ·rw [w03 hv.1 (by omega) hx]
   have := hr x hx
   split <;> omega
  ·rw [w03 hv.1 (by omega) hx] at h0 he
   rw [w03 hv.1 (by omega) hy] at he
   have h1 := hr x hx
   have h2 := hr y hy
   by_cases c1 : x = v
   ·by_cases c2 : y = v
    ·rw [c1, c2]
    ·rw [if_pos c1, if_neg c2] at he; omega
   ·by_cases c2 : y = v
    ·rw [if_neg c1, if_pos c2] at he; omega
    ·rw [if_neg c1] at h0; rw [if_neg c1, if_neg c2] at he
     exact hi x y hx hy h0 he
theorem e0h {n : Nat} {o : List Int} (ho : inV n o) (hd : o.Nodup) {x y : Int} (hx : 0 ≤ x) (hy : 0 ≤ y) (h0 : 0 ≤ getI (plc n o) x) (he : getI (plc n o) x = getI (plc n o) y) : x = y := by
 refine j0b o 0 (List.replicate n (-1)) (by simp) ho hd (fun x hx => by rw [X04]; omega) (fun x y _ _ h _ => by rw [X04] at h; omega) x y hx hy h0 he
theorem m0j {es : List D0} (h : es.Pairwise fun a b => s02 a b = false) {a b : D0} (ha : a ∈ es) (hb : b ∈ es) (hne : a ≠ b) : s02 a b = false := by
 induction es with
 | nil => cases ha
 | cons c r ih =>
  obtain ⟨h1, h2⟩ := List.pairwise_cons.1 h
  rcases List.mem_cons.1 ha with rfl | ha'
  ·rcases List.mem_cons.1 hb with rfl | hb'
   ·exact absurd rfl hne
   ·exact h1 b hb'
  ·rcases List.mem_cons.1 hb with rfl | hb'
   ·rw [p08]; exact h1 a ha'
   ·exact ih h2 ha' hb'
theorem X0j {es : List D0} (hA : Asc K0 es) (h : ∀ a ∈ es, ∀ b ∈ es, a ≠ b → s02 a b = false) : es.Pairwise fun a b => s02 a b = false := by
 induction es with
 | nil => exact .nil
 | cons c r ih =>
  obtain ⟨h1, h2⟩ := List.pairwise_cons.1 hA
  refine List.pairwise_cons.2 ⟨fun b hb => h c (List.mem_cons_self ..) b (List.mem_cons_of_mem _ hb) fun e => ?_, ih h2 fun a ha b hb => h a (List.mem_cons_of_mem _ ha) b (List.mem_cons_of_mem _ hb)⟩
  have := h1 b hb
  rw [e, Y5.refl] at this; omega
theorem o0c {g : l0} (hg : M0 g = true) : P0 g = true ↔ ∀ a ∈ g.2.2, ∀ b ∈ g.2.2, a ≠ b → s02 a b = false := by
 rw [H7, w08]
 exact ⟨fun h a ha b hb hne => m0j h.2 ha hb hne, fun h => ⟨hg, X0j (graph_asc' hg) h⟩⟩
where graph_asc' {g : l0} (h : M0 g = true) : Asc K0 g.2.2 := ((E9 g).1 h).2.2.2.2
theorem R0e {g : l0} {o : List Int} (hf : P0 g = true) (ho : inV g.2.1.toNat o) (hd : o.Nodup) (h1 : 1 ≤ o.length) (h2 : o.length ≤ 40) : P0 (I9 g o) = true := by
 have hg := P01 hf
 obtain ⟨q1, q2, q3, q4⟩ := T1 hg
 refine (o0c (i0b hg ho h1 h2)).2 fun a ha b hb hne => ?_
 have mem : ∀ e ∈ (I9 g o).2.2, ∃ a ∈ g.2.2, e = (getI (plc g.2.1.toNat o) a.1, a.2.1, getI (plc g.2.1.toNat o) a.2.2) ∧ 0 ≤ getI (plc g.2.1.toNat o) a.1 ∧ 0 ≤ getI (plc g.2.1.toNat o) a.2.2 := fun e he => by
  rcases (W8 Y5 e _ _).1 he with h | h
  ·cases h
  ·exact l0d _ _ e h
 obtain ⟨a', ha', rfl, k1, k2⟩ := mem a ha
 obtain ⟨b', hb', rfl, k3, k4⟩ := mem b hb
 have hne' : a' ≠ b' := fun e => hne (by rw [e])
 have hc := (o0c hg).1 hf a' ha' b' hb' hne'
 have ra := q1 a' ha'
 have rb := q1 b' hb'
 unfold s02 at hc ⊢
 simp only [Bool.and_eq_false_iff, Bool.or_eq_false_iff, decide_eq_false_iff_not] at hc ⊢
 rcases hc with hc | ⟨hc1, hc2⟩
 ·exact .inl hc
 ·exact .inr ⟨fun e => hc1 (e0h ho hd ra.1.1 rb.1.1 k1 e), fun e => hc2 (e0h ho hd ra.2.1.1 rb.2.1.1 k2 e)⟩
def L02 : Nat → l0 → l0
 | 0, g => g
 | d + 1, g => match U02 g with
  | none => g
  | some k => L02 d (I9 g (wo k g.2.1.toNat 0))
theorem f0h {g : l0} {k : Nat} (h : U02 g = some k) : 1 ≤ k ∧ k < g.2.1.toNat := by
 have := X0a _ _ _ h
 omega
theorem p0c {g : l0} (hg : M0 g = true) {k : Nat} (h : U02 g = some k) : inV g.2.1.toNat (wo k g.2.1.toNat 0) ∧ (wo k g.2.1.toNat 0).length = g.2.1.toNat - 1 ∧ 1 ≤ (wo k g.2.1.toNat 0).length ∧ (wo k g.2.1.toNat 0).length ≤ 40 := by
 obtain ⟨q1, q2, q3, q4⟩ := T1 hg
 have hk := f0h h
 have hlen := T0f k g.2.1.toNat 0
 rw [if_pos (by omega)] at hlen
 exact ⟨f0j k _ _ 0 (by omega), hlen, by omega, by omega⟩
theorem Q01 : ∀ (d : Nat) {g : l0}, P0 g = true → P0 (L02 d g) = true
 | 0, g, h => h
 | d + 1, g, h => by
  unfold L02
  cases e : U02 g with
  | none => exact h
  | some k =>
   obtain ⟨h1, h2, h3, h4⟩ := p0c (P01 h) e
   exact Q01 d (R0e h h1 (I07 _ _ _) h3 h4)
theorem k0b (n g : Nat) (hn : n ≤ 1000) (u : List Int) (hu : u.length = n) : ∀ (d k fuel : Nat) (acc bcc : List Int), k + d = n → d < fuel → acc.length ≤ k → bcc.length ≤ k →
  ∃ v, M4 (n : Int) (g : Int) u fuel (k : Int) acc bcc = some (acc ++ wo g d k, v) ∧ v.length + acc.length = bcc.length + (acc ++ wo g d k).length
 | d, k, 0, acc, bcc, hd, hf, ha, hb => by omega
 | 0, k, fuel + 1, acc, bcc, hd, hf, ha, hb => by
  rw [M4.eq_2, if_neg (by simp; omega)]; exact ⟨bcc, by simp [wo], by simp [wo]⟩
 | d + 1, k, fuel + 1, acc, bcc, hd, hf, ha, hb => by
  have hx := V5 (show k < u.length by omega)
  generalize u[k] = x at hx
  rw [M4.eq_2, if_pos (by simp; omega), A2 (show k < 10000 by omega) (by omega)]
  unfold wo
  by_cases c : k = g
  ·have e : decide ((k : Int) = (g : Int)) = true := decide_eq_true (by omega)
   rw [e, if_neg (by simp), if_pos c]
   exact k0b n g hn u hu d (k + 1) fuel acc bcc (by omega) (by omega) (by omega) (by omega)
  ·have e : decide ((k : Int) = (g : Int)) = false := decide_eq_false (by omega)
   rw [e, if_pos (show (!false) = true from rfl), if_neg c, N0 (by simp; omega), Option.bind_some, O3 hx, Option.bind_some, N0 (by simp; omega), Option.bind_some]
   obtain ⟨v, h1, h2⟩ := k0b n g hn u hu d (k + 1) fuel (acc ++ [(k : Int)]) (bcc ++ [x]) (by omega) (by omega) (by simp; omega) (by simp; omega)
   refine ⟨v, by rw [h1]; simp, ?_⟩
   simp only [List.length_append, List.length_cons, List.length_nil] at h2 ⊢
   omega
theorem S0e (g : l0) (hg : M0 g = true) : ∀ (d k fuel : Nat) (acc : List Int), k + d = g.2.1.toNat → d < fuel → acc.length = k →
  ∃ u, j5 g.2.1 g.1 g.2.2 fuel (k : Int) acc = some u ∧ u.length = g.2.1.toNat
 | d, k, 0, acc, hd, hf, ha => by omega
 | 0, k, fuel + 1, acc, hd, hf, ha => by
  obtain ⟨q1, q2, q3, q4⟩ := T1 hg
  rw [j5.eq_2, show decide (((k : Nat) : Int) < g.2.1) = false by simp; omega]
  exact ⟨acc, by simp [chk], by omega⟩
 | d + 1, k, fuel + 1, acc, hd, hf, ha => by
  obtain ⟨q1, q2, q3, q4⟩ := T1 hg
  obtain ⟨u, h1, h2⟩ := S0e g hg d (k + 1) fuel (acc ++ [(k : Int)]) (by omega) (by omega) (by simp; omega)
  rw [j5.eq_2, show decide (((k : Nat) : Int) < g.2.1) = true by simp; omega, J2, show (g.1, g.2.1, g.2.2) = g from rfl, Q5 g (by omega), Option.bind_some, hg]
  rw [if_pos (show (bif true then true else false) = true from rfl), N0 (by simp; omega), Option.bind_some, A2 (show k < 1000 by omega) (by omega), h1]
  exact ⟨u, rfl, h2⟩
theorem T0e (g0 : l0) (hg0 : M0 g0 = true) : ∀ (d k fuel : Nat) (g : l0) (u : List Int), k + d = 40 → d < fuel → M0 g = true → u.length = g.2.1.toNat → g.2.1.toNat ≤ d + 1 →
  ∃ v, (i5 g0.1 g0.2.1 g0.2.2 fuel u (k : Int) g.1 g.2.1 g.2.2).bind (fun X => l7 X (fun S => match S with | (a, b, c, e) => some ((b, c, e), a))) = some (L02 d g, v)
 | d, k, 0, g, u, hd, hf, hg, hu, hn => by omega
 | 0, k, fuel + 1, g, u, hd, hf, hg, hu, hn => by
  rw [i5.eq_2, show decide (((k : Nat) : Int) < 40) = false by simp; omega]
  exact ⟨u, by simp [chk, l7, L02]⟩
 | d + 1, k, fuel + 1, g, u, hd, hf, hg, hu, hn => by
  obtain ⟨p1, p2, p3, p4⟩ := T1 hg0
  obtain ⟨q1, q2, q3, q4⟩ := T1 hg
  have hl := S0k g hg
  rw [i5.eq_2, show decide (((k : Nat) : Int) < 40) = true by simp; omega, J2, show (g0.1, g0.2.1, g0.2.2) = g0 from rfl, Q5 g0 (by omega), Option.bind_some, hg0]
  rw [if_pos (show (bif true then true else false) = true from rfl), show (g.1, g.2.1, g.2.2) = g from rfl, hl]
  unfold L02
  cases e : U02 g with
  | none =>
   simp only [Option.bind_some]
   rw [N0 (show F0 (-1) from ⟨by omega, by omega⟩), Option.bind_some, if_pos (by simp)]
   exact ⟨u, rfl⟩
  | some j =>
   obtain ⟨h1, h2, h3, h4⟩ := p0c hg e
   have hj := f0h e
   obtain ⟨N, hN⟩ : ∃ N : Nat, g.2.1 = (N : Int) := ⟨g.2.1.toNat, by omega⟩
   have hNt : g.2.1.toNat = N := by omega
   obtain ⟨v, w1, w2⟩ := k0b N j (by omega) u (by omega) N 0 S0 [] [] (by omega) (W0 (by omega)) (Nat.le_refl _) (Nat.le_refl _)
   have hr := T0a g.1 N g.2.2 (wo j N 0) (by rw [← hN]; exact hg) (by rw [← hNt]; exact h1) (I07 _ _ _) (by rw [← hNt]; exact h3) (by rw [← hNt]; omega)
   rw [← hN, show (g.1, g.2.1, g.2.2) = g from rfl] at hr
   have hG := i0b hg h1 h3 h4
   rw [hNt] at hG h2 h3
   obtain ⟨v2, z⟩ := T0e g0 hg0 d (k + 1) fuel (I9 g (wo j N 0)) v (by omega) (by omega) hG (by simp only [List.nil_append, List.length_nil] at w2; show v.length = ((wo j N 0).length : Int).toNat; omega) (by show ((wo j N 0).length : Int).toNat ≤ d + 1; omega)
   simp only [Option.bind_some]
   rw [N0 (show F0 ((j : Nat) : Int) from ⟨by omega, by omega⟩), Option.bind_some, if_neg (by simp), hN, show (0 : Int) = ((0 : Nat) : Int) from rfl, w1]
   simp only [Option.bind_some, List.nil_append]
   rw [← hN, hr]
   simp only [Option.bind_some]
   rw [A2 (show k < 1000 by omega) (by omega), hNt]
   exact ⟨v2, z⟩
def u06 (g : l0) : l0 := L02 40 g
theorem X0f {g : l0} (hg : M0 g = true) : ∃ v, Q8 g = some (u06 g, v) := by
 obtain ⟨q1, q2, q3, q4⟩ := T1 hg
 have hc := C00 g (by omega)
 obtain ⟨u, h1, h2⟩ := S0e g hg g.2.1.toNat 0 S0 [] (by omega) (W0 (by omega)) rfl
 obtain ⟨v, h3⟩ := T0e g hg 40 0 S0 g u rfl (W0 (by omega)) hg h2 (by omega)
 refine ⟨v, ?_⟩
 obtain ⟨r, n, es⟩ := g
 unfold Q8
 simp only [hc, Option.bind_some]
 simp only at h1 h3
 rw [show (0 : Int) = ((0 : Nat) : Int) from rfl, h1, Option.bind_some]
 exact h3
theorem U0e : ∀ (n fuel d : Nat) (left : List Int) (r : Int) (es : List D0), 1 ≤ n → n ≤ 40 → inN n es → es.length ≤ 120 → left.length = n → n < fuel → n ≤ d + 1 →
  ∃ l', W5 fuel left r (n : Int) es = some (.inl (L02 d (r, (n : Int), es), l'))
 | n, 0, d, left, r, es, h1, h2, hn, hes, hl, hf, hd => by omega
 | n, fuel + 1, d, left, r, es, h1, h2, hn, hes, hl, hf, hd => by
  obtain ⟨S, eS, lS, hS⟩ := R0i r n es hn (by omega) h1 (by omega)
  have ht1 := Z0g r n es (by omega) S lS h2 (n - 1) 1 S0 (Nat.le_refl _) (by omega) (by omega) (W0 (by omega))
  have hcg : lf (fun v => decide (V03 (v : Int) es < 2) || !r8 S (v : Int)) (n - 1) 1 = lf (R0f es) (n - 1) 1 := z0e _ _ fun k k1 k2 => by
   unfold R0f
   have := hS (k : Int) (by omega) (by omega)
   have h3 := U0j es 0 (k : Int)
   congr 2
   cases hb : r8 S (k : Int)
   ·symm; exact decide_eq_false fun h => by rw [this.2 (h3.1 h)] at hb; cases hb
   ·symm; exact decide_eq_true (h3.2 (this.1 hb))
  rw [hcg] at ht1
  have hleaf : U02 (r, (n : Int), es) = lf (R0f es) (n - 1) 1 := by simp only [U02, Int.toNat_natCast]
  rw [W5.eq_2, eS, Option.bind_some, show (1 : Int) = ((1 : Nat) : Int) from rfl, ht1, Option.bind_some]
  cases hlf : lf (R0f es) (n - 1) 1 with
  | none =>
   have e2 : L02 d (r, (n : Int), es) = (r, (n : Int), es) := by
    cases d with
    | zero => rfl
    | succ d => unfold L02; rw [hleaf, hlf]
   rw [e2]
   exact ⟨left, by rw [if_pos (by rfl)]⟩
  | some k =>
   have hk := X0a _ _ _ hlf
   have e0 : decide ((k : Int) = 0) = false := decide_eq_false (by omega)
   have ho := f0j k n n 0 (by omega)
   have hlen := T0f k n 0
   rw [if_pos (by omega)] at hlen
   have ht0 := a0h n k (by omega) n 0 S0 [] (by omega) (W0 (by omega)) (Nat.le_refl _)
   rw [show ((0 : Nat) : Int) = 0 from rfl, List.nil_append] at ht0
   have hp := V0i r n es (wo k n 0) hn ho (by omega) (by omega) (by omega)
   have hpl := Q0f (r, (n : Int), es) (wo k n 0)
   have hpi := Q0h (r := r) ho hn
   have hw : IntKind.i64.wrap ((k : Int) + ((1 : Nat) : Int)) = ((k + 1 : Nat) : Int) := by rw [w64 (by omega) (by omega)]; rfl
   obtain ⟨d', rfl⟩ : ∃ d', d = d' + 1 := ⟨d - 1, by omega⟩
   have hF : I9 (r, (n : Int), es) (wo k n 0) = (r, ((n - 1 : Nat) : Int), (I9 (r, (n : Int), es) (wo k n 0)).2.2) := by rw [← hlen]; rfl
   obtain ⟨l', q1⟩ := U0e (n - 1) fuel d' (left.take k ++ left.drop (k + 1)) r (I9 (r, (n : Int), es) (wo k n 0)).2.2 (by omega) (by omega) (by rw [hlen] at hpi; exact hpi) (by simp only at hpl; omega) (by simp only [List.length_append, List.length_take, List.length_drop]; omega) (by omega) (by omega)
   refine ⟨l', ?_⟩
   rw [← hF] at q1
   have e2 : L02 (d' + 1) (r, (n : Int), es) = L02 d' (I9 (r, (n : Int), es) (wo k n 0)) := by
    show (match U02 (r, (n : Int), es) with | none => (r, (n : Int), es) | some k => L02 d' (I9 (r, (n : Int), es) (wo k ((n : Int)).toNat 0))) = _
    rw [hleaf, hlf, Int.toNat_natCast]
   rw [e2]
   simp only [e0, Bool.false_eq_true, if_false, ht0, Option.bind_some, hp]
   generalize I9 (r, (n : Int), es) (wo k n 0) = gp at *
   rw [hF]
   simp only [hw]
   rw [g0j (by omega), Option.bind_some, s06 (by omega), Option.bind_some, N0 (by simp only [List.length_take, List.length_drop]; omega), Option.bind_some, q1, ← hF]
theorem V0e {g : l0} (hg : M0 g = true) : ∃ v, O8 g = some (u06 g, v) := by
 obtain ⟨h1, h2, h3, h4⟩ := T1 hg
 have hq := I8 g (by omega)
 have hc := a00 g (by omega)
 obtain ⟨r, n, es⟩ := g
 simp only at h2 h3 h4
 obtain ⟨N, rfl⟩ : ∃ N : Nat, n = (N : Int) := ⟨n.toNat, by omega⟩
 have hn : inN N es := fun e he => ⟨(h1 e he).1, (h1 e he).2.1⟩
 obtain ⟨u, e1, e2⟩ := b0h N (by omega) N 0 S0 [] (by omega) (W0 (by omega)) rfl
 obtain ⟨l', q1⟩ := U0e N S0 40 u r es (by omega) (by omega) hn h4 e2 (W0 (by omega)) (by omega)
 refine ⟨l', ?_⟩
 unfold O8
 rw [show ((0 : Nat) : Int) = 0 from rfl] at e1
 simp only [hc, Option.bind_some, hq, hg, Bool.not_true, Bool.false_eq_true, if_false, e1, q1, l7]
 rfl
def a04 (g : l0) : l0 := g0d (u06 g)
theorem J07 {g : l0} (hf : P0 g = true) : Y3 g = (g, []) := by
 obtain ⟨h1, h2⟩ := (H7 g).1 hf
 unfold Y3
 rw [h1]
 show Q9 40 g = _
 unfold Q9
 rw [h2]
theorem Y0f {g : l0} (hf : P0 g = true) : T7 g = some (a04 g) := by
 have hg := P01 hf
 obtain ⟨h1, h2, h3, h4⟩ := T1 hg
 have e1 := V02 g (by omega)
 rw [J07 hf] at e1
 obtain ⟨v, e2⟩ := X0f hg
 have e3 := y0e (u06 g) (Q01 40 hf)
 obtain ⟨r, n, es⟩ := g
 unfold T7 a04
 simp only [e1, Option.bind_some, e2]
 simp only [e3, Option.bind_some]
theorem Z0f {g : l0} (hf : P0 g = true) : U7 g = some (a04 g) := by
 have hg := P01 hf
 obtain ⟨h1, h2, h3, h4⟩ := T1 hg
 have e1 := W02 g (by omega)
 rw [J07 hf] at e1
 obtain ⟨v, e2⟩ := V0e hg
 have e3 := x0e (u06 g) (Q01 40 hf)
 obtain ⟨r, n, es⟩ := g
 unfold U7 a04
 simp only [e1, Option.bind_some, e2]
 simp only [e3, Option.bind_some]
end Go.Proofs.YtfdlgbfeceodeaaGreat
namespace Go.Proofs.YtfdlgbfeceodeaaGreat
open Go.H
set_option linter.unusedVariables false
set_option linter.unusedSimpArgs false
theorem n0j {N r u x v : Int} (hu : 0 ≤ u ∧ u < N) (hv : 0 ≤ v ∧ v < N) (hx : x ≠ 0 ∧ -r ≤ x ∧ x ≤ r) : (0 ≤ (stp u x v).1 ∧ (stp u x v).1 < N) ∧ (0 ≤ (stp u x v).2.2 ∧ (stp u x v).2.2 < N) ∧ 1 ≤ (stp u x v).2.1 ∧ (stp u x v).2.1 ≤ r := by
 unfold stp
 split <;> (simp only; omega)
theorem W0e {N r v : Int} (hv : 0 ≤ v ∧ v < N) : ∀ (w : List Int) (u n : Int), (0 ≤ u ∧ u < N) → 0 ≤ n → n + ((w.length - 1 : Nat) : Int) ≤ N → (∀ x ∈ w, x ≠ 0 ∧ -r ≤ x ∧ x ≤ r) →
  ∀ e ∈ w00 v w u n, (0 ≤ e.1 ∧ e.1 < N) ∧ (0 ≤ e.2.2 ∧ e.2.2 < N) ∧ 1 ≤ e.2.1 ∧ e.2.1 ≤ r
 | [], u, n, hu, h0, hn, hw, e, he => nomatch he
 | [x], u, n, hu, h0, hn, hw, e, he => by
  simp only [w00, List.mem_singleton] at he
  subst he
  exact n0j hu hv (hw x (List.mem_cons_self ..))
 | x :: y :: l, u, n, hu, h0, hn, hw, e, he => by
  simp only [List.length_cons] at hn
  simp only [w00] at he
  rcases List.mem_cons.1 he with rfl | he
  ·exact n0j hu ⟨h0, by omega⟩ (hw x (List.mem_cons_self ..))
  ·exact W0e hv (y :: l) n (n + 1) ⟨h0, by omega⟩ (by omega) (by simp only [List.length_cons]; omega) (fun z hz => hw z (List.mem_cons_of_mem _ hz)) e he
theorem X02 {g : l0} {u v : Int} {w : List Int} (hg : M0 g = true) (hu : 0 ≤ u ∧ u < g.2.1) (hv : 0 ≤ v ∧ v < g.2.1) (hw : Q4 g.1 w = true) : M0 (Q2 g u w v).1 = true := by
 obtain ⟨q1, q2, q3, q4, q5⟩ := (E9 g).1 hg
 obtain ⟨wl, wx⟩ := k0d hw
 unfold Q2
 cases hc : (!w.isEmpty && decide (g.2.1 + (w.length : Int) - 1 ≤ 40) && decide (g.2.2.length + w.length ≤ 120)) with
 | false => exact hg
 | true =>
  simp only [Bool.and_eq_true, decide_eq_true_eq, Bool.not_eq_true', List.isEmpty_eq_false_iff] at hc
  have hne : 1 ≤ w.length := by
   have := List.length_pos_iff.2 hc.1.1; omega
  have h1 := C01 (w00 v w u g.2.1) g.2.2
  have h2 := z05 v w u g.2.1
  simp only [cond_true]
  refine (E9 _).2 ⟨fun e he => ?_, q2, ⟨by simp only; omega, by simp only; omega⟩, by simp only; omega, i01 Y5 _ _ q5⟩
  simp only at he ⊢
  rcases (W8 Y5 e _ _).1 he with h | h
  ·have := q1 e h
   omega
  ·exact W0e ⟨by omega, by omega⟩ w u g.2.1 ⟨by omega, by omega⟩ (by omega) (Int.le_refl _) (fun x hx => (wx x hx).2) e h
theorem b04 (g : l0) (u : Int) (w : List Int) (v : Int) : (Q2 g u w v).1.1 = g.1 := by
 unfold Q2
 cases (!w.isEmpty && decide (g.2.1 + (w.length : Int) - 1 ≤ 40) && decide (g.2.2.length + w.length ≤ 120)) <;> rfl
def f00 : List (List Int) → l0 → l0
 | [], g => g
 | w :: r, g => f00 r (Q2 g 0 w 0).1
theorem i09 : ∀ (ws : List (List Int)) {g : l0}, M0 g = true → (∀ w ∈ ws, Q4 g.1 w = true) → M0 (f00 ws g) = true
 | [], g, hg, hw => hg
 | w :: r, g, hg, hw => by
  obtain ⟨q1, q2, q3, q4⟩ := T1 hg
  exact i09 r (X02 hg ⟨Int.le_refl _, by omega⟩ ⟨Int.le_refl _, by omega⟩ (hw w (List.mem_cons_self ..))) fun w' hw' => by
   rw [b04]; exact hw w' (List.mem_cons_of_mem _ hw')
theorem X0e {g : l0} {w : List Int} (hg : M0 g = true) (hw : Q4 g.1 w = true) : l9 g w = some (Q2 g 0 w 0) := by
 obtain ⟨q1, q2, q3, q4⟩ := T1 hg
 have h := U05 hg (u := 0) (v := 0) ⟨Int.le_refl _, by omega⟩ ⟨Int.le_refl _, by omega⟩ hw
 obtain ⟨r, n, es⟩ := g
 unfold l9
 simp only [h, Option.bind_some]
theorem Y0e {g : l0} {w : List Int} (hg : M0 g = true) (hw : Q4 g.1 w = true) : r9 g w = some (Q2 g 0 w 0) := by
 obtain ⟨q1, q2, q3, q4⟩ := T1 hg
 have h := V05 hg (u := 0) (v := 0) ⟨Int.le_refl _, by omega⟩ ⟨Int.le_refl _, by omega⟩ hw
 obtain ⟨r, n, es⟩ := g
 unfold r9
 simp only [h, Option.bind_some]
theorem q0c (ws : List (List Int)) (hl : ws.length ≤ 1000) : ∀ (d k fuel : Nat) (g : l0), k + d = ws.length → d < fuel → M0 g = true → (∀ w ∈ ws, Q4 g.1 w = true) →
  J5 ws fuel (k : Int) g.1 g.2.1 g.2.2 = some (f00 (ws.drop k) g)
 | d, k, 0, g, hd, hf, hg, hw => by omega
 | 0, k, fuel + 1, g, hd, hf, hg, hw => by
  rw [J5.eq_2, if_neg (by simp; omega), E1 (by omega)]; rfl
 | d + 1, k, fuel + 1, g, hd, hf, hg, hw => by
  have hk : k < ws.length := by omega
  have hx := V5 hk
  have hwk := hw _ (List.getElem_mem hk)
  generalize ws[k] = w at hx hwk
  obtain ⟨q1, q2, q3, q4⟩ := T1 hg
  have ih := q0c ws hl d (k + 1) fuel (Q2 g 0 w 0).1 (by omega) (by omega) (X02 hg ⟨Int.le_refl _, by omega⟩ ⟨Int.le_refl _, by omega⟩ hwk) (by rw [b04]; exact hw)
  rw [J5.eq_2, if_pos (by simp; omega), O3 hx, Option.bind_some, show (g.1, g.2.1, g.2.2) = g from rfl, X0e hg hwk, Option.bind_some, A2 hk (by omega), O1 hx]
  exact ih
theorem r0c (ws : List (List Int)) (hl : ws.length ≤ 1000) : ∀ (d k fuel : Nat) (g : l0), k + d = ws.length → d < fuel → M0 g = true → (∀ w ∈ ws, Q4 g.1 w = true) →
  W4 ws fuel (k : Int) g.1 g.2.1 g.2.2 = some (f00 (ws.drop k) g)
 | d, k, 0, g, hd, hf, hg, hw => by omega
 | 0, k, fuel + 1, g, hd, hf, hg, hw => by
  rw [W4.eq_2, if_neg (by simp; omega), E1 (by omega)]; rfl
 | d + 1, k, fuel + 1, g, hd, hf, hg, hw => by
  have hk : k < ws.length := by omega
  have hx := V5 hk
  have hwk := hw _ (List.getElem_mem hk)
  generalize ws[k] = w at hx hwk
  obtain ⟨q1, q2, q3, q4⟩ := T1 hg
  have ih := r0c ws hl d (k + 1) fuel (Q2 g 0 w 0).1 (by omega) (by omega) (X02 hg ⟨Int.le_refl _, by omega⟩ ⟨Int.le_refl _, by omega⟩ hwk) (by rw [b04]; exact hw)
  rw [W4.eq_2, if_pos (by simp; omega), O3 hx, Option.bind_some, A2 hk (by omega), O1 hx]
  by_cases c : w = []
  ·subst c
   rw [if_neg (by simp)]
   have e : (Q2 g 0 [] 0).1 = g := rfl
   rw [e] at ih
   rw [ih]
   show _ = some (f00 (ws.drop (k + 1)) (Q2 g 0 [] 0).1)
   rw [e]
  ·have : 0 < w.length := List.length_pos_iff.2 c
   rw [if_pos (by simp; omega), show (g.1, g.2.1, g.2.2) = g from rfl, Y0e hg hwk, Option.bind_some]
   exact ih
def B03 (r : Int) (ws : List (List Int)) : l0 × Bool := bif J3 r ws then (f00 ws (r, 1, []), true) else ((0, 0, []), false)
theorem A08 {r : Int} {ws : List (List Int)} (h : J3 r ws = true) : (1 ≤ r ∧ r ≤ 3) ∧ ws.length ≤ 6 ∧ ∀ w ∈ ws, Q4 r w = true := by
 simp only [J3, inR, Bool.and_eq_true, decide_eq_true_eq] at h
 refine ⟨h.1.1.1, h.1.1.2, ?_⟩
 have hw : ∀ {ws : List (List Int)}, D05 r ws = true → ∀ w ∈ ws, Q4 r w = true := by
  intro ws
  induction ws with
  | nil => intro _ w hw; cases hw
  | cons v l ih =>
   intro h w hw
   simp only [D05, Bool.and_eq_true] at h
   rcases List.mem_cons.1 hw with rfl | hw
   ·exact h.1
   ·exact ih h.2 w hw
 exact hw h.1.2
theorem B08 {r : Int} (hr : 1 ≤ r ∧ r ≤ 3) : M0 (r, 1, []) = true := (E9 _).2 ⟨(fun e he => by cases he), hr, ⟨by simp, by simp⟩, by simp, List.Pairwise.nil⟩
theorem m0d (r : Int) (ws : List (List Int)) (hl : ws.length ≤ 140737488355328) (hs : C2 ws) : n9 r ws = some (B03 r ws) := by
 have h1 := U04 r ws hl hs
 unfold n9 B03
 rw [h1, Option.bind_some]
 cases hA : J3 r ws with
 | false => rfl
 | true =>
  obtain ⟨hr, hn, hw⟩ := A08 hA
  have h := q0c ws (by omega) ws.length 0 S0 (r, 1, []) (by omega) (W0 (by omega)) (B08 hr) hw
  have h2 : j9 r = some ((r, 1, []), true) := by
   unfold j9
   rw [G01, Option.bind_some, if_neg (by simp [inR]; omega)]
  rw [if_neg (by simp), h2, Option.bind_some]
  simp only [] at h ⊢
  rw [show (0 : Int) = ((0 : Nat) : Int) from rfl, h]
  rfl
theorem n0d (r : Int) (ws : List (List Int)) (hl : ws.length ≤ 140737488355328) (hs : C2 ws) : s9 r ws = some (B03 r ws) := by
 have h1 := V04 r ws hl hs
 unfold s9 B03
 rw [h1, Option.bind_some]
 cases hA : J3 r ws with
 | false => rfl
 | true =>
  obtain ⟨hr, hn, hw⟩ := A08 hA
  have h := r0c ws (by omega) ws.length 0 S0 (r, 1, []) (by omega) (W0 (by omega)) (B08 hr) hw
  have h2 : p9 r = some ((r, 1, []), true) := by
   unfold p9
   rw [B01, Option.bind_some, if_neg (by simp [inR]; omega)]
  rw [if_neg (by simp), h2, Option.bind_some]
  simp only [] at h ⊢
  rw [show (0 : Int) = ((0 : Nat) : Int) from rfl, h]
  rfl
def Z0e : l0 := (0, 0, [])
def e05 (p : C0) : Nat → l0 → l0 × Bool
 | 0, _ => (Z0e, false)
 | d + 1, g => bif (K1 p g).2.2 then (bif (K1 p g).2.1 then e05 p d (K1 p g).1 else (a04 g, true)) else (Z0e, false)
theorem C08 {p : C0} {g : l0} (h : (K1 p g).2.2 = true) : d4 p = true ∧ P0 g = true ∧ p.1 = g.1 := by
 unfold K1 at h
 cases hc : (d4 p && P0 g && decide (p.1 = g.1)) with
 | false => rw [hc] at h; cases h
 | true =>
  simp only [Bool.and_eq_true, decide_eq_true_eq] at hc
  exact ⟨hc.1.1, hc.1.2, hc.2⟩
theorem s0c {p : C0} {g : l0} (h : (K1 p g).2.1 = false) : (K1 p g).1 = g := by
 unfold K1 at h ⊢
 cases hc : (d4 p && P0 g && decide (p.1 = g.1)) with
 | false => rfl
 | true =>
  rw [hc] at h
  simp only [cond_true] at h ⊢
  cases hh : Z03 g p.2 g.2.1.toNat 0 with
  | some q =>
   obtain ⟨v, i⟩ := q
   rw [hh] at h
   simp only [P0e] at h ⊢
   cases hi : p.2[i]? with
   | none => rfl
   | some w =>
    rw [hi] at h
    simp only at h ⊢
    cases ha : (Q2 g (v : Int) w (v : Int)).2 with
    | false => rfl
    | true => rw [ha] at h; cases h
  | none =>
   rw [hh] at h
   simp only [Q0e] at h ⊢
   cases hm : r6 g with
   | nil => rfl
   | cons e l =>
    rw [hm] at h
    simp only at h ⊢
    cases hv : (P1 g).2 with
    | false => rfl
    | true =>
     rw [hv] at h
     simp only [cond_true] at h ⊢
     cases he : (F7 (P1 g).1 (stp e.1 e.2.1 g.2.1)).2 with
     | false => rfl
     | true => rw [he] at h; cases h
theorem a0f {p : C0} {g : l0} (h : g.2.2.length ≤ 1000) : (K1 p g).1.2.2.length ≤ 1000 := by
 by_cases hf : (K1 p g).2.1 = false
 ·rw [s0c hf]; exact h
 ·unfold K1 at hf ⊢
  cases hc : (d4 p && P0 g && decide (p.1 = g.1)) with
  | false => exact h
  | true =>
   simp only [Bool.and_eq_true] at hc
   have hg := ((H7 g).1 hc.1.2).1
   have hgl := (T1 hg).2.2.2
   simp only [cond_true]
   cases Z03 g p.2 g.2.1.toNat 0 with
   | some q =>
    obtain ⟨v, i⟩ := q
    simp only [P0e]
    cases p.2[i]? with
    | none => exact h
    | some w =>
     simp only
     cases (Q2 g (v : Int) w (v : Int)).2 with
     | false => exact h
     | true =>
      have h1 := d05 hg (v : Int) w (v : Int)
      simp only [cond_true, Y3]
      cases hG : M0 (Q2 g (v : Int) w (v : Int)).1 with
      | false => simp only [cond_false]; omega
      | true =>
       have := (T1 (Y04 40 hG)).2.2.2
       simp only [cond_true]; omega
   | none =>
    simp only [Q0e]
    cases r6 g with
    | nil => exact h
    | cons e l =>
     simp only
     cases (P1 g).2 with
     | false => exact h
     | true =>
      simp only [cond_true]
      have h1 : (P1 g).1.2.2 = g.2.2 := by unfold P1; cases decide (g.2.1 < 40) <;> rfl
      have h2 : (F7 (P1 g).1 (stp e.1 e.2.1 g.2.1)).1.2.2.length ≤ g.2.2.length + 1 := by
       have := T01 (stp e.1 e.2.1 g.2.1) (P1 g).1.2.2
       unfold F7
       rw [h1] at this ⊢
       cases (decide (g.2.2.length < 120) && !decide (stp e.1 e.2.1 g.2.1 ∈ g.2.2)) with
       | false => simp only [cond_false, h1]; omega
       | true => simp only [cond_true]; omega
      cases (F7 (P1 g).1 (stp e.1 e.2.1 g.2.1)).2 with
      | false => exact h
      | true => simp only [cond_true]; omega
def Y0j : (l0 × Bool) ⊕ (Int × Int × J0) → Option (l0 × Bool) := fun X => l7 X (fun S => match S with
 | (a, b, c) => some ((0, 0, []), false))
theorem g0h (p : C0) (hl : p.2.length ≤ 140737488355328) (hs : C2 p.2) : ∀ (d k fuel : Nat) (g : l0), k + d = 300 → d < fuel → g.2.2.length ≤ 1000 →
  (N2 p.1 p.2 fuel (k : Int) g.1 g.2.1 g.2.2).bind Y0j = some (e05 p d g)
 | d, k, 0, g, hd, hf, hg => by omega
 | 0, k, fuel + 1, g, hd, hf, hg => by
  rw [N2.eq_2, if_neg (by simp; omega)]; rfl
 | d + 1, k, fuel + 1, g, hd, hf, hg => by
  have h1 := G07 p g hl hs (by omega)
  have h2 : (K1 p g).2.2 = true → (K1 p g).2.1 = false → T7 (K1 p g).1 = some (a04 g) := fun a b => by
   rw [s0c b]; exact Y0f (C08 a).2.1
  have ih := g0h p hl hs d (k + 1) fuel (K1 p g).1 (by omega) (by omega) (a0f hg)
  rw [N2.eq_2, if_pos (by simp; omega), show (g.1, g.2.1, g.2.2) = g from rfl, show (p.1, p.2) = p from rfl, h1, Option.bind_some, A2 (show k < 1000 by omega) (by omega)]
  unfold e05
  revert h2 ih
  generalize K1 p g = q
  obtain ⟨g2, more, fine⟩ := q
  obtain ⟨a, b, c⟩ := g2
  intro h2 ih
  simp only at h2 ih ⊢
  cases fine with
  | false => rfl
  | true =>
   cases more with
   | true => exact ih
   | false =>
    simp only [Bool.not_true, Bool.not_false, Bool.false_eq_true, if_false, if_true, h2 rfl rfl, Option.bind_some]
    rfl
theorem h0h (p : C0) (hl : p.2.length ≤ 140737488355328) (hs : C2 p.2) : ∀ (d k fuel : Nat) (g : l0), k + d = 300 → d < fuel → g.2.2.length ≤ 1000 →
  (O2 p.1 p.2 fuel (k : Int) g.1 g.2.1 g.2.2).bind Y0j = some (e05 p d g)
 | d, k, 0, g, hd, hf, hg => by omega
 | 0, k, fuel + 1, g, hd, hf, hg => by
  rw [O2.eq_2, if_neg (by simp; omega)]; rfl
 | d + 1, k, fuel + 1, g, hd, hf, hg => by
  have h1 := H07 p g hl hs (by omega)
  have h2 : (K1 p g).2.2 = true → U7 g = some (a04 g) := fun a => Z0f (C08 a).2.1
  have ih := h0h p hl hs d (k + 1) fuel (K1 p g).1 (by omega) (by omega) (a0f hg)
  rw [O2.eq_2, if_pos (by simp; omega), show (g.1, g.2.1, g.2.2) = g from rfl, show (p.1, p.2) = p from rfl, h1, Option.bind_some, A2 (show k < 1000 by omega) (by omega)]
  unfold e05
  revert h2 ih
  generalize K1 p g = q
  obtain ⟨g2, more, fine⟩ := q
  obtain ⟨a, b, c⟩ := g2
  intro h2 ih
  simp only at h2 ih ⊢
  cases fine with
  | false => rfl
  | true =>
   cases more with
   | true => exact ih
   | false =>
    simp only [Bool.not_true, Bool.not_false, Bool.false_eq_true, if_false, if_true, h2 rfl, Option.bind_some]
    rfl
def p02 (p : C0) (ws : List (List Int)) : l0 × Bool := bif d4 p && J3 p.1 ws then e05 p 300 (Y3 (f00 ws (p.1, 1, []))).1 else (Z0e, false)
theorem K07 {r : Int} {ws : List (List Int)} (h : J3 r ws = true) : (f00 ws (r, 1, [])).2.2.length ≤ 120 ∧ (Y3 (f00 ws (r, 1, []))).1.2.2.length ≤ 1000 := by
 obtain ⟨hr, hn, hw⟩ := A08 h
 have hg := i09 ws (B08 hr) hw
 refine ⟨(T1 hg).2.2.2, ?_⟩
 have := (C4 (Y0a hg)).2.2.2
 omega
theorem a0g (p : C0) (ws : List (List Int)) (hl : p.2.length ≤ 140737488355328) (hs : C2 p.2) (hl2 : ws.length ≤ 140737488355328) (hs2 : C2 ws) : G6 p ws = some (p02 p ws) := by
 have h1 := C8 p hl hs
 have h2 := m0d p.1 ws hl2 hs2
 have h3 : J3 p.1 ws = true → E6 (f00 ws (p.1, 1, [])) = some (Y3 (f00 ws (p.1, 1, []))) := fun h => V02 _ (by have := (K07 h).1; omega)
 have h4 : J3 p.1 ws = true → (N2 p.1 p.2 S0 ((0 : Nat) : Int) (Y3 (f00 ws (p.1, 1, []))).1.1 (Y3 (f00 ws (p.1, 1, []))).1.2.1 (Y3 (f00 ws (p.1, 1, []))).1.2.2).bind Y0j = some (e05 p 300 (Y3 (f00 ws (p.1, 1, []))).1) := fun h => g0h p hl hs 300 0 S0 _ rfl (W0 (by omega)) (K07 h).2
 unfold B03 at h2
 unfold p02
 obtain ⟨pr, rels⟩ := p
 unfold G6
 simp only at h2 h3 h4 ⊢
 rw [h2, Option.bind_some]
 cases hA : J3 pr ws with
 | false =>
  rw [Bool.and_false]; rfl
 | true =>
  have h3 := h3 hA
  have h4 := h4 hA
  simp only [cond_true, Bool.not_true, Bool.not_false, J2, cond_false, h1, Option.bind_some, Bool.and_true]
  cases hP : d4 (pr, rels) with
  | false => rfl
  | true =>
   rw [if_neg (by simp)]
   revert h3 h4
   generalize f00 ws (pr, 1, []) = fl
   intro h3 h4
   obtain ⟨a, b, c⟩ := fl
   simp only [h3, Option.bind_some]
   exact h4
theorem b0g (p : C0) (ws : List (List Int)) (hl : p.2.length ≤ 140737488355328) (hs : C2 p.2) (hl2 : ws.length ≤ 140737488355328) (hs2 : C2 ws) : H6 p ws = some (p02 p ws) := by
 have h1 := W9 p hl hs
 have h2 := n0d p.1 ws hl2 hs2
 have h3 : J3 p.1 ws = true → F6 (f00 ws (p.1, 1, [])) = some (Y3 (f00 ws (p.1, 1, []))) := fun h => W02 _ (by have := (K07 h).1; omega)
 have h4 : J3 p.1 ws = true → (O2 p.1 p.2 S0 ((0 : Nat) : Int) (Y3 (f00 ws (p.1, 1, []))).1.1 (Y3 (f00 ws (p.1, 1, []))).1.2.1 (Y3 (f00 ws (p.1, 1, []))).1.2.2).bind Y0j = some (e05 p 300 (Y3 (f00 ws (p.1, 1, []))).1) := fun h => h0h p hl hs 300 0 S0 _ rfl (W0 (by omega)) (K07 h).2
 unfold B03 at h2
 unfold p02
 obtain ⟨pr, rels⟩ := p
 unfold H6
 simp only at h2 h3 h4 ⊢
 rw [h1, Option.bind_some]
 cases hP : d4 (pr, rels) with
 | false => rfl
 | true =>
  rw [if_neg (by simp), h2, Option.bind_some]
  cases hA : J3 pr ws with
  | false => rfl
  | true =>
   have h3 := h3 hA
   have h4 := h4 hA
   simp only [cond_true, Bool.not_true, Bool.false_eq_true, if_false]
   revert h3 h4
   generalize f00 ws (pr, 1, []) = fl
   intro h3 h4
   obtain ⟨a, b, c⟩ := fl
   simp only [h3, Option.bind_some]
   exact h4
def c04 (p : C0) (ws : List (List Int)) : Int := bif (p02 p ws).2 then (p02 p ws).1.2.1 else -1
theorem b0f (p : C0) (ws : List (List Int)) (hl : p.2.length ≤ 140737488355328) (hs : C2 p.2) (hl2 : ws.length ≤ 140737488355328) (hs2 : C2 ws) : l8 p ws = some (c04 p ws) := by
 have h := a0g p ws hl hs hl2 hs2
 unfold c04
 obtain ⟨pr, rels⟩ := p
 unfold l8
 simp only [h, Option.bind_some]
 cases (p02 (pr, rels) ws).2 <;> rfl
theorem c0f (p : C0) (ws : List (List Int)) (hl : p.2.length ≤ 140737488355328) (hs : C2 p.2) (hl2 : ws.length ≤ 140737488355328) (hs2 : C2 ws) : n8 p ws = some (c04 p ws) := by
 have h := b0g p ws hl hs hl2 hs2
 unfold c04
 obtain ⟨pr, rels⟩ := p
 unfold n8
 simp only [h, Option.bind_some]
 cases (p02 (pr, rels) ws).2 <;> rfl
end Go.Proofs.YtfdlgbfeceodeaaGreat
namespace Go.Proofs.YtfdlgbfeceodeaaGreat
open Go.H
set_option linter.unusedVariables false
set_option linter.unusedSimpArgs false
theorem j09 (p : C0) : ∀ (d : Nat) (g : l0), e05 p d g = (Z0e, false) ∨ ∃ g', P0 g' = true ∧ e05 p d g = (a04 g', true)
 | 0, g => .inl rfl
 | d + 1, g => by
  unfold e05
  cases h : (K1 p g).2.2 with
  | false => exact .inl rfl
  | true =>
   cases h2 : (K1 p g).2.1 with
   | true => exact j09 p d _
   | false => exact .inr ⟨g, (C08 h).2.1, rfl⟩
theorem c0g (p : C0) (ws : List (List Int)) : p02 p ws = (Z0e, false) ∨ ∃ g', P0 g' = true ∧ p02 p ws = (a04 g', true) := by
 unfold p02
 cases d4 p && J3 p.1 ws with
 | false => exact .inl rfl
 | true => exact j09 p 300 _
theorem d0f (p : C0) (ws : List (List Int)) : F0 (c04 p ws) := by
 unfold c04
 rcases c0g p ws with h | ⟨g, hf, h⟩
 ·rw [h]; exact ⟨by decide, by decide⟩
 ·rw [h]
  have hf2 := Q01 40 hf
  obtain ⟨q1, q2, q3, q4⟩ := C4 hf2
  have : (r01 (u06 g)).length ≤ 40 := by
   have ho := (u08 hf2).1
   have := T02 _ _ ho.1 ho.2
   show (r01 (L02 40 g)).length ≤ 40
   omega
  show F0 (((r01 (u06 g)).length : Nat) : Int)
  exact ⟨by omega, by omega⟩
def G9 (p : C0) : Int := c04 p []
theorem d0g (p : C0) (hl : p.2.length ≤ 140737488355328) (hs : C2 p.2) : Y8 p = some (G9 p) := by
 have h := b0f p [] hl hs (by simp) (fun w hw => by cases hw)
 have h2 := d0f p []
 unfold G9
 obtain ⟨pr, rels⟩ := p
 unfold Y8
 simp only [h, Option.bind_some]
 rw [N0 h2]; rfl
theorem e0g (p : C0) (hl : p.2.length ≤ 140737488355328) (hs : C2 p.2) : Z8 p = some (G9 p) := by
 have h := c0f p [] hl hs (by simp) (fun w hw => by cases hw)
 have h2 := d0f p []
 unfold G9
 obtain ⟨pr, rels⟩ := p
 unfold Z8
 simp only [h, Option.bind_some]
 rw [N0 h2]; rfl
end Go.Proofs.YtfdlgbfeceodeaaGreat
