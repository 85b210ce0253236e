/- Texts of the claim, joined: Plain laws: what folding computes, of the spec and of the code; Plain laws: paths, vertices and edges added; the steps that are missin; Plain laws: vertices and edges added; the steps that are missing; Plain laws: one step of the coset enumeration; Plain laws: trimming and the core of a folded graph; Plain laws: flowers of words, and the enumeration of cosets; Plain laws: what the enumeration yields is small; the size of a group. -/
import Derived.Test.YtfdlgbfeceodeaaGreatPart23
import Derived.Test.YtfdlgbfeceodeaaGreatPart18
namespace Go.Proofs.YtfdlgbfeceodeaaGreat
open Go.H
set_option linter.unusedVariables false
set_option linter.unusedSimpArgs false
theorem S0c (l : List C0) (a0 a1 a2 : Int) (hl : l.length ≤ 1000) : ∀ (d k fuel : Nat) (acc : List E4), k + d = l.length → d < fuel → acc.length + 2 * d ≤ 4000000 →
  N4 l a1 a0 a2 fuel (k : Int) acc = some (acc ++ V00 (a0, a1, a2) (l.drop k))
 | d, k, 0, acc, hd, hf, ha => by omega
 | 0, k, fuel + 1, acc, hd, hf, ha => by
  rw [N4.eq_2, if_neg (by simp; omega), I1 (by omega)]
  simp [V00]
 | d + 1, k, fuel + 1, acc, hd, hf, ha => by
  have hk : k < l.length := by omega
  have hx := o6 hk
  generalize l[k] = b at hx
  obtain ⟨b0, b1, b2⟩ := b
  have ih : ∀ acc' : List E4, acc'.length + 2 * d ≤ 4000000 → N4 l a1 a0 a2 fuel ((k + 1 : Nat) : Int) acc' = some (acc' ++ V00 (a0, a1, a2) (l.drop (k + 1))) := fun acc' h => S0c l a0 a1 a2 hl d (k + 1) fuel acc' (by omega) (by omega) h
  rw [N4.eq_2, if_pos (by simp; omega), V3 hx, Option.bind_some, Z1 hk (by omega), T1 hx]
  simp only [V00, W07]
  cases decide (a1 = b1)
  ·simp only [Bool.not_false, if_true, cond_false, List.nil_append]
   exact ih acc (by omega)
  ·cases decide (a0 = b0) <;> cases decide (a2 = b2)
   all_goals simp only [Bool.not_true, Bool.false_eq_true, if_false, if_true, cond_true, cond_false, List.nil_append, List.append_nil]
   ·exact ih acc (by omega)
   ·rw [O0 (by simp; omega), Option.bind_some, ih _ (by simp; omega)]; simp
   ·rw [O0 (by simp; omega), Option.bind_some, ih _ (by simp; omega)]; simp
   ·rw [O0 (by simp; omega), Option.bind_some, O0 (by simp; omega), Option.bind_some, ih _ (by simp; omega)]; simp
theorem T0c (l : List C0) (hl : l.length ≤ 1000) : ∀ (d k fuel : Nat) (acc : List E4), k + d = l.length → d < fuel → acc.length + 2000 * d ≤ 3000000 →
  K7 l fuel (k : Int) acc = some (acc ++ t7 (l.drop k))
 | d, k, 0, acc, hd, hf, ha => by omega
 | 0, k, fuel + 1, acc, hd, hf, ha => by
  rw [K7.eq_2, if_neg (by simp; omega), I1 (by omega)]
  simp [t7]
 | d + 1, k, fuel + 1, acc, hd, hf, ha => by
  have hk : k < l.length := by omega
  have hx := o6 hk
  generalize l[k] = b at hx
  obtain ⟨b0, b1, b2⟩ := b
  have h0 := S0c (l.drop (k + 1)) b0 b1 b2 (by simp; omega) (l.length - (k + 1)) 0 T0 acc (by simp) (C1 (by omega)) (by omega)
  have hr := R08 (b0, b1, b2) (l.drop (k + 1))
  simp only [List.length_drop] at hr
  rw [K7.eq_2, if_pos (by simp; omega), V3 hx, Option.bind_some]
  simp only [Z1 hk (show l.length ≤ 9223372036854775807 by omega)]
  rw [N06 (by omega), Option.bind_some, show (0 : Int) = ((0 : Nat) : Int) from rfl, h0, Option.bind_some, T0c l hl d (k + 1) fuel _ (by omega) (by omega) (by simp only [List.length_append, List.drop_zero, List.length_drop] at hr ⊢; omega), T1 hx, t7]
  simp
theorem U0c (l : List C0) (hl : l.length ≤ 1000) (i : Nat) (a0 a1 a2 : Int) (hi : l[i]? = some (a0, a1, a2)) : ∀ (d k fuel : Nat) (acc : List E4), k + d = l.length → d < fuel → acc.length + 2 * d ≤ 4000000 →
  Z3 l (i : Int) fuel (k : Int) acc = some (acc ++ V00 (a0, a1, a2) (l.drop k))
 | d, k, 0, acc, hd, hf, ha => by omega
 | 0, k, fuel + 1, acc, hd, hf, ha => by
  rw [Z3.eq_2, if_neg (by simp; omega), I1 (by omega)]
  simp [V00]
 | d + 1, k, fuel + 1, acc, hd, hf, ha => by
  have hk : k < l.length := by omega
  have hx := o6 hk
  generalize l[k] = b at hx
  obtain ⟨b0, b1, b2⟩ := b
  have ih : ∀ acc' : List E4, acc'.length + 2 * d ≤ 4000000 → Z3 l (i : Int) fuel ((k + 1 : Nat) : Int) acc' = some (acc' ++ V00 (a0, a1, a2) (l.drop (k + 1))) := fun acc' h => U0c l hl i a0 a1 a2 hi d (k + 1) fuel acc' (by omega) (by omega) h
  rw [Z3.eq_2, if_pos (by simp; omega), V3 hi, Option.bind_some]
  simp only []
  rw [V3 hx, Option.bind_some, Z1 hk (by omega), T1 hx]
  simp only [V00, W07]
  cases decide (a1 = b1)
  ·simp only [Bool.false_eq_true, if_false, cond_false, List.nil_append]
   exact ih acc (by omega)
  ·cases decide (a0 = b0) <;> cases decide (a2 = b2)
   all_goals simp only [Bool.not_true, Bool.false_eq_true, if_false, if_true, cond_true, cond_false, List.nil_append, List.append_nil]
   ·exact ih acc (by omega)
   ·rw [O0 (by simp; omega), Option.bind_some, ih _ (by simp; omega)]; simp
   ·rw [O0 (by simp; omega), Option.bind_some, ih _ (by simp; omega)]; simp
   ·rw [O0 (by simp; omega), Option.bind_some, O0 (by simp; omega), Option.bind_some, ih _ (by simp; omega)]; simp
theorem V0c (l : List C0) (hl : l.length ≤ 1000) : ∀ (d k fuel : Nat) (acc : List E4), k + d = l.length → d < fuel → acc.length + 2000 * d ≤ 3000000 →
  C6 l fuel (k : Int) acc = some (acc ++ t7 (l.drop k))
 | d, k, 0, acc, hd, hf, ha => by omega
 | 0, k, fuel + 1, acc, hd, hf, ha => by
  rw [C6.eq_2, if_neg (by simp; omega), I1 (by omega)]
  simp [t7]
 | d + 1, k, fuel + 1, acc, hd, hf, ha => by
  have hk : k < l.length := by omega
  have hx := o6 hk
  generalize l[k] = b at hx
  obtain ⟨b0, b1, b2⟩ := b
  have h0 := U0c l hl k b0 b1 b2 hx (l.length - (k + 1)) (k + 1) T0 acc (by omega) (C1 (by omega)) (by omega)
  have hr := R08 (b0, b1, b2) (l.drop (k + 1))
  simp only [List.length_drop] at hr
  rw [C6.eq_2, if_pos (by simp; omega), Z1 hk (by omega), h0, Option.bind_some, V0c l hl d (k + 1) fuel _ (by omega) (by omega) (by simp only [List.length_append, List.length_drop] at hr ⊢; omega), T1 hx, t7]
  simp
theorem q0f (g : l0) (hl : g.2.2.length ≤ 1000) : h01 g = some (t7 g.2.2) := by
 obtain ⟨r, n, es⟩ := g
 unfold h01
 simp only
 rw [show (0 : Int) = ((0 : Nat) : Int) from rfl, T0c es hl es.length 0 T0 [] (by omega) (C1 (by simp only at hl; omega)) (by simp only at hl; simp; omega)]
 rfl
theorem r0f (g : l0) (hl : g.2.2.length ≤ 1000) : l00 g = some (t7 g.2.2) := by
 obtain ⟨r, n, es⟩ := g
 unfold l00
 simp only
 rw [show (0 : Int) = ((0 : Nat) : Int) from rfl, V0c es hl es.length 0 T0 [] (by omega) (C1 (by simp only at hl; omega)) (by simp only at hl; simp; omega)]
 rfl
def W00 (g : l0) : E4 × Bool := bif N0 g then (match t7 g.2.2 with
 | [] => ((0, 0), false)
 | f :: _ => (f, true)) else ((0, 0), false)
theorem L09 (g : l0) (hl : g.2.2.length ≤ 140737488355328) : d8 g = some (W00 g) := by
 have h1 := Q8 g hl
 have h2 := q0f g
 unfold W00
 cases hg : N0 g with
 | false =>
  obtain ⟨r, n, es⟩ := g
  unfold d8
  simp only [h1, hg, Option.bind_some]; rfl
 | true =>
  have h2 := h2 (by have := (Y1 hg).2.2.2; omega)
  obtain ⟨r, n, es⟩ := g
  unfold d8
  simp only [h1, hg, h2, Option.bind_some, cond_true]
  simp only at h2
  cases t7 es with
  | nil => rfl
  | cons f l =>
   rw [if_neg (by simp), if_neg (by simp; omega), m05 rfl]
   rfl
theorem M09 (g : l0) (hl : g.2.2.length ≤ 140737488355328) : a8 g = some (W00 g) := by
 have h1 := d6 g hl
 have h2 := r0f g
 unfold W00
 cases hg : N0 g with
 | false =>
  obtain ⟨r, n, es⟩ := g
  unfold a8
  simp only [h1, hg, Option.bind_some]; rfl
 | true =>
  have h2 := h2 (by have := (Y1 hg).2.2.2; omega)
  obtain ⟨r, n, es⟩ := g
  unfold a8
  simp only [h1, hg, h2, Option.bind_some, cond_true]
  simp only at h2
  cases t7 es with
  | nil => rfl
  | cons f l =>
   rw [if_neg (by simp), if_neg (by simp; omega), m05 rfl]
   rfl
theorem N0h (v : Int) (f : E4) (hv : 0 ≤ v ∧ v < 1000) (hf : 0 ≤ f.1 ∧ f.1 < f.2) : v00 v f = some (mvV f v) := by
 obtain ⟨a, b⟩ := f
 simp only at hf
 unfold v00 mvV
 simp only
 by_cases c : v = b
 ·rw [if_pos (by simp [c]), if_neg (by simp; omega), if_pos c]
 ·rw [if_neg (by simp [c]), if_neg c]
  by_cases c2 : v > b
  ·rw [if_pos (by simp [c2]), if_pos c2, w64 (by omega) (by omega)]
  ·rw [if_neg (by simp; omega), if_neg c2]
theorem s0f (v : Int) (f : E4) (hv : 0 ≤ v ∧ v < 1000) : G5 v f = some (mvV f v) := by
 obtain ⟨a, b⟩ := f
 unfold G5 mvV
 simp only
 by_cases c : v = b
 ·rw [if_pos (by simp [c]), if_pos c]
 ·rw [if_neg (by simp [c]), if_neg c]
  by_cases c2 : v > b
  ·rw [if_pos (by simp [c2]), if_pos c2, w64 (by omega) (by omega)]
  ·rw [if_neg (by simp; omega), if_neg c2]
theorem U0d {f : E4} {v : Int} (hv : 0 ≤ v ∧ v < 1000) (hf : 0 ≤ f.1 ∧ f.1 < 1000) : H0 (mvV f v) := by
 unfold mvV
 split
 ·exact ⟨by omega, by omega⟩
 ·split
  ·exact ⟨by omega, by omega⟩
  ·exact ⟨by omega, by omega⟩
theorem t0f (es : List C0) (f : E4) (r n : Int) (hl : es.length ≤ 1000) (hv : ∀ e ∈ es, (0 ≤ e.1 ∧ e.1 < 1000) ∧ (0 ≤ e.2.2 ∧ e.2.2 < 1000)) (hf : 0 ≤ f.1 ∧ f.1 < f.2) (hf2 : f.2 < 1000) : ∀ (d k fuel : Nat) (acc : List C0), k + d = es.length → d < fuel → acc.length ≤ k →
  i4 es f.1 f.2 fuel (k : Int) r n acc = some (r, n, I6 M0 acc ((es.drop k).map (mvE f)))
 | d, k, 0, acc, hd, hfu, ha => by omega
 | 0, k, fuel + 1, acc, hd, hfu, ha => by
  rw [i4.eq_2, if_neg (by simp; omega), I1 (by omega)]
  rfl
 | d + 1, k, fuel + 1, acc, hd, hfu, ha => by
  have hk : k < es.length := by omega
  have hx := o6 hk
  have hvk := hv _ (List.getElem_mem hk)
  generalize es[k] = b at hx hvk
  obtain ⟨b0, b1, b2⟩ := b
  simp only at hvk
  have hln := g02 (mvE f (b0, b1, b2)) acc
  rw [i4.eq_2, if_pos (by simp; omega), V3 hx, Option.bind_some]
  simp only []
  rw [N0h b0 (f.1, f.2) hvk.1 hf, Option.bind_some, O0 (U0d hvk.1 ⟨hf.1, by show f.1 < 1000; omega⟩), Option.bind_some, N0h b2 (f.1, f.2) hvk.2 hf, Option.bind_some, O0 (U0d hvk.2 ⟨hf.1, by show f.1 < 1000; omega⟩), Option.bind_some,
   p04 acc _ (by omega), Option.bind_some, Z1 hk (by omega), T1 hx, List.map_cons]
  exact t0f es f r n hl hv hf hf2 d (k + 1) fuel _ (by omega) (by omega) (Nat.le_trans hln (by omega))
theorem u0f {g : l0} {f : E4} (hg : N0 g = true) (hf : okF g f) : D6 g f = some (Y9 g f, true) := by
 obtain ⟨q1, q2, q3, q4⟩ := Y1 hg
 have h1 := d6 g (by omega)
 obtain ⟨f1, f2, f3⟩ := hf
 obtain ⟨r, n, es⟩ := g
 obtain ⟨a, b⟩ := f
 simp only at f1 f2 f3 q3 q4
 have h := t0f es (a, b) r (IntKind.i64.wrap (n - 1)) (by omega) (fun e he => by
  have := q1 e he
  simp only at this
  exact ⟨⟨by omega, by omega⟩, by omega, by omega⟩) ⟨f1, f2⟩ (by simp only; omega) es.length 0 T0 [] (by omega) (C1 (by omega)) (Nat.le_refl _)
 unfold D6
 simp only [h1, hg, Option.bind_some]
 rw [if_neg (by simp; omega), show (0 : Int) = ((0 : Nat) : Int) from rfl, h, w64 (by omega) (by omega)]
 rfl
theorem v0f (es : List C0) (f : E4) (hl : es.length ≤ 1000) (hv : ∀ e ∈ es, (0 ≤ e.1 ∧ e.1 < 1000) ∧ (0 ≤ e.2.2 ∧ e.2.2 < 1000)) (hf : 0 ≤ f.1 ∧ f.1 < 1000) : ∀ (d k fuel : Nat), k + d = es.length → d < fuel →
  j4 es f.1 f.2 fuel (k : Int) ((es.take k).map (mvE f) ++ es.drop k) = some (es.map (mvE f))
 | d, k, 0, hd, hfu => by omega
 | 0, k, fuel + 1, hd, hfu => by
  rw [j4.eq_2, if_neg (by simp; omega), I1 (by omega), List.append_nil, List.take_of_length_le (by omega)]
 | d + 1, k, fuel + 1, hd, hfu => by
  have hk : k < es.length := by omega
  have hx := o6 hk
  have hvk := hv _ (List.getElem_mem hk)
  generalize es[k] = b at hx hvk
  have htl : ((es.take k).map (mvE f)).length = k := by simp; omega
  have hg : ((es.take k).map (mvE f) ++ es.drop k)[k]? = some b := by
   rw [List.getElem?_append_right (by omega), htl, T1 hx]; simp
  have hs : ∀ y, ((es.take k).map (mvE f) ++ es.drop k).set k y = (es.take k).map (mvE f) ++ y :: es.drop (k + 1) := fun y => by
   rw [List.set_append_right _ _ (by omega), htl, T1 hx]; simp
  obtain ⟨b0, b1, b2⟩ := b
  simp only at hvk
  have e : (es.take (k + 1)).map (mvE f) ++ es.drop (k + 1) = (es.take k).map (mvE f) ++ mvE f (b0, b1, b2) :: es.drop (k + 1) := by
   rw [d0l hx]; simp
  have ih := v0f es f hl hv hf d (k + 1) fuel (by omega) (by omega)
  rw [e] at ih
  rw [j4.eq_2, if_pos (by simp; omega), V3 hg, Option.bind_some]
  simp only []
  rw [s0f b0 (f.1, f.2) hvk.1, Option.bind_some, O0 (U0d hvk.1 hf), Option.bind_some, s0f b2 (f.1, f.2) hvk.2, Option.bind_some, O0 (U0d hvk.2 hf), Option.bind_some]
  simp only [Option.bind_some]
  rw [show ((k : Nat) : Int).toNat = k from Int.toNat_natCast k, hs, Z1 hk (by omega)]
  exact ih
theorem w0f {g : l0} {f : E4} (hg : N0 g = true) (hf : okF g f) : E6 g f = some (Y9 g f, true) := by
 obtain ⟨q1, q2, q3, q4⟩ := Y1 hg
 have h1 := Q8 g (by omega)
 have h2 := j00 g (by omega)
 obtain ⟨f1, f2, f3⟩ := hf
 obtain ⟨r, n, es⟩ := g
 obtain ⟨a, b⟩ := f
 simp only at f1 f2 f3 q3 q4
 have h := v0f es (a, b) (by omega) (fun e he => by
  have := q1 e he
  simp only at this
  exact ⟨⟨by omega, by omega⟩, by omega, by omega⟩) ⟨f1, by simp only; omega⟩ es.length 0 T0 (by omega) (C1 (by omega))
 simp only [List.take_zero, List.map_nil, List.nil_append, List.drop_zero] at h
 unfold E6
 simp only [h1, h2, hg, Option.bind_some]
 rw [if_neg (by simp; omega), show (0 : Int) = ((0 : Nat) : Int) from rfl, h, Option.bind_some, R07 _ (by simp; omega), Option.bind_some, w64 (by omega) (by omega)]
 rfl
def n00 (g : l0) : l0 × E4 × Bool := bif N0 g then (match t7 g.2.2 with
 | [] => (g, (0, 0), false)
 | f :: _ => (Y9 g f, f, true)) else (g, (0, 0), false)
theorem s05 (g : l0) (hl : g.2.2.length ≤ 1099511627776) : B9 g = some (n00 g) := by
 have h1 := M09 g (by omega)
 have h2 := P00 g hl
 have h3 : ∀ f, N0 g = true → okF g f → D6 g f = some (Y9 g f, true) := fun f a b => u0f a b
 have h4 : N0 g = true → ∀ f ∈ t7 g.2.2, okF g f := B02
 unfold W00 at h1
 unfold n00
 obtain ⟨r, n, es⟩ := g
 unfold B9
 simp only [h1, Option.bind_some]
 cases hg : N0 (r, n, es) with
 | false => simp only [cond_false, Bool.not_false, if_true, h2, Option.bind_some]
 | true =>
  simp only [cond_true]
  simp only at h4
  cases e : t7 es with
  | nil => simp only [Bool.not_false, if_true, h2, Option.bind_some]
  | cons f l =>
   simp only [Bool.not_true, Bool.false_eq_true, if_false, h3 f hg (h4 hg f (by rw [e]; exact List.mem_cons_self ..)), Option.bind_some]
theorem t05 (g : l0) (hl : g.2.2.length ≤ 1099511627776) : F9 g = some (n00 g) := by
 have h1 := L09 g (by omega)
 have h2 := j00 g hl
 have h3 : ∀ f, N0 g = true → okF g f → E6 g f = some (Y9 g f, true) := fun f a b => w0f a b
 have h4 : N0 g = true → ∀ f ∈ t7 g.2.2, okF g f := B02
 unfold W00 at h1
 unfold n00
 obtain ⟨r, n, es⟩ := g
 unfold F9
 simp only [h1, Option.bind_some]
 cases hg : N0 (r, n, es) with
 | false => simp only [cond_false, Bool.not_false, if_true, h2, Option.bind_some]
 | true =>
  simp only [cond_true]
  simp only at h4
  cases e : t7 es with
  | nil => simp only [Bool.not_false, if_true, h2, Option.bind_some]
  | cons f l =>
   simp only [Bool.not_true, Bool.false_eq_true, if_false, h3 f hg (h4 hg f (by rw [e]; exact List.mem_cons_self ..)), Option.bind_some]
def M0l : (l0 × H7) ⊕ (Int × Int × J0 × (List E4)) → Option (l0 × H7) := fun X => w7 X (fun S => match S with
 | (a, b, c, e) => some ((a, b, c), e))
theorem I0b : ∀ (d k fuel : Nat) (g : l0) (acc : List E4), k + d = 40 → d < fuel → N0 g = true → acc.length = k →
  (F5 fuel (k : Int) g.1 g.2.1 g.2.2 acc).bind M0l = some ((Z9 d g).1, acc ++ (Z9 d g).2)
 | d, k, 0, g, acc, hd, hf, hg, ha => by omega
 | 0, k, fuel + 1, g, acc, hd, hf, hg, ha => by
  rw [F5.eq_2, if_neg (by simp; omega)]
  simp [M0l, w7, Z9]
 | d + 1, k, fuel + 1, g, acc, hd, hf, hg, ha => by
  have h1 := s05 g (by have := (Y1 hg).2.2.2; omega)
  have h4 := B02 hg
  unfold n00 at h1
  rw [hg] at h1
  simp only [cond_true] at h1
  rw [F5.eq_2, if_pos (by simp; omega), show (g.1, g.2.1, g.2.2) = g from rfl, h1]
  unfold Z9
  cases e : t7 g.2.2 with
  | nil => simp [M0l, w7]
  | cons f l =>
   have ih := I0b d (k + 1) fuel (Y9 g f) (acc ++ [f]) (by omega) (by omega) (Y02 hg (h4 f (by rw [e]; exact List.mem_cons_self ..))) (by simp [ha])
   simp only [Option.bind_some, Bool.not_true, Bool.false_eq_true, if_false]
   rw [O0 (by simp; omega), Option.bind_some, Z1 (show k < 1000 by omega) (by omega)]
   refine ih.trans ?_
   simp
theorem i03 (g : l0) (hl : g.2.2.length ≤ 1099511627776) : N6 g = some (A4 g) := by
 have h1 := s05 g hl
 have h2 := P00 g hl
 have h3 := I0b 40 0 T0 g [] rfl (C1 (by omega))
 unfold A4
 obtain ⟨r, n, es⟩ := g
 unfold N6
 simp only [h2, Option.bind_some]
 cases hg : N0 (r, n, es) with
 | false =>
  unfold n00 at h1
  rw [hg] at h1
  simp only [cond_false] at h1
  rw [show T0 = (T0 - 1) + 1 from rfl, F5.eq_2, if_pos (by simp), h1]
  rfl
 | true => exact h3 hg rfl
theorem J0b : ∀ (d fuel : Nat) (g : l0) (acc : List E4), d < fuel → N0 g = true → t7 (Z9 d g).1.2.2 = [] → acc.length + d ≤ 1000 →
  F6 fuel g.1 g.2.1 g.2.2 acc = some (.inl ((Z9 d g).1, acc ++ (Z9 d g).2))
 | d, 0, g, acc, hf, hg, hn, ha => by omega
 | d, fuel + 1, g, acc, hf, hg, hn, ha => by
  have h1 := t05 g (by have := (Y1 hg).2.2.2; omega)
  have h4 := B02 hg
  unfold n00 at h1
  rw [hg] at h1
  simp only [cond_true] at h1
  rw [F6.eq_2, show (g.1, g.2.1, g.2.2) = g from rfl, h1]
  cases e : t7 g.2.2 with
  | nil =>
   have e2 : Z9 d g = (g, []) := by
    cases d with
    | zero => rfl
    | succ d => unfold Z9; rw [e]
   rw [e2]
   simp
  | cons f l =>
   cases d with
   | zero => exact absurd e (by rw [show t7 g.2.2 = [] from hn]; simp)
   | succ d =>
    have e2 : Z9 (d + 1) g = ((Z9 d (Y9 g f)).1, f :: (Z9 d (Y9 g f)).2) := by
     show (match t7 g.2.2 with | [] => (g, []) | f :: _ => ((Z9 d (Y9 g f)).1, f :: (Z9 d (Y9 g f)).2)) = _
     rw [e]
    rw [e2] at hn ⊢
    have ih := J0b d fuel (Y9 g f) (acc ++ [f]) (by omega) (Y02 hg (h4 f (by rw [e]; exact List.mem_cons_self ..))) hn (by simp; omega)
    simp only [Option.bind_some, Bool.not_true, Bool.false_eq_true, if_false]
    rw [O0 (by simp; omega), Option.bind_some]
    refine ih.trans ?_
    simp
theorem j03 (g : l0) (hl : g.2.2.length ≤ 1099511627776) : O6 g = some (A4 g) := by
 have h1 := t05 g hl
 have h2 := j00 g hl
 have h3 := J0b 40 T0 g [] (C1 (by omega))
 have h5 : N0 g = true → t7 (Z9 40 g).1.2.2 = [] := fun hg => O06 40 hg (by have := (Y1 hg).2.2.1; omega)
 unfold A4
 obtain ⟨r, n, es⟩ := g
 unfold O6
 simp only [h2, Option.bind_some]
 cases hg : N0 (r, n, es) with
 | false =>
  unfold n00 at h1
  rw [hg] at h1
  simp only [cond_false] at h1
  rw [show T0 = (T0 - 1) + 1 from rfl, F6.eq_2, h1]
  rfl
 | true =>
  have h := h3 hg (h5 hg) (by simp)
  simp only at h
  rw [h]
  rfl
end Go.Proofs.YtfdlgbfeceodeaaGreat
namespace Go.Proofs.YtfdlgbfeceodeaaGreat
open Go.H
set_option linter.unusedVariables false
set_option linter.unusedSimpArgs false
theorem T08 {g : l0} (h : N0 g = true) : Asc M0 g.2.2 := ((N9 g).1 h).2.2.2.2
def stp (u x v : Int) : C0 := if x < 0 then (v, -x, u) else (u, x, v)
def I00 (v : Int) : List Int → Int → Int → List C0
 | [], _, _ => []
 | [x], u, _ => [stp u x v]
 | x :: y :: r, u, n => stp u x n :: I00 v (y :: r) n (n + 1)
theorem U05 (v : Int) : ∀ (w : List Int) (u n : Int), (I00 v w u n).length = w.length
 | [], _, _ => rfl
 | [x], _, _ => rfl
 | x :: y :: r, u, n => by simp only [I00, List.length_cons, U05 v (y :: r)]
theorem F0g (u x v : Int) (hx : J7 x) : m00 u x v = some (stp u x v) := by
 unfold m00 stp
 by_cases c : x < 0
 ·rw [if_pos (by simp [c]), if_pos c, Z0e hx.1 hx.2]
 ·rw [if_neg (by simp; omega), if_neg c]
theorem V0d (w : List Int) (v : Int) (r : Int) (hw : ∀ x ∈ w, J7 x) (hl : w.length ≤ 1000) : ∀ (d k fuel : Nat) (u n : Int) (es : List C0), k + d = w.length → d < fuel → 0 ≤ n → n ≤ 1000 + k → es.length ≤ 1000 + k →
  H5 w v fuel u (k : Int) r n es = some (r, n + ((d - 1 : Nat) : Int), es ++ I00 v (w.drop k) u n)
 | d, k, 0, u, n, es, hd, hf, h0, h1, h2 => by omega
 | 0, k, fuel + 1, u, n, es, hd, hf, h0, h1, h2 => by
  rw [H5.eq_2, if_neg (by simp; omega), I1 (by omega)]
  simp [I00]
 | d + 1, k, fuel + 1, u, n, es, hd, hf, h0, h1, h2 => by
  have hk : k < w.length := by omega
  have hx := o6 hk
  have hm := hw _ (List.getElem_mem hk)
  generalize w[k] = x at hx hm
  rw [H5.eq_2, if_pos (by simp; omega), V3 hx, Option.bind_some, i0b (by omega) (by omega), T1 hx]
  by_cases c : k + 1 < w.length
  ·rw [if_pos (by simp; omega), F0g u x n hm, Option.bind_some]
   have hy := o6 c
   generalize w[k + 1] = y at hy
   have ih := V0d w v r hw hl d (k + 1) fuel n (n + 1) (es ++ [stp u x n]) (by omega) (by omega) (by omega) (by omega) (by simp; omega)
   simp only []
   rw [O0 (by simp; omega), Option.bind_some, Z1 hk (by omega), w64 (show (-9223372036854775808 : Int) ≤ n + 1 by omega) (by omega)]
   refine ih.trans ?_
   rw [T1 hy]
   simp only [I00, List.append_assoc, List.singleton_append]
   congr 3
   omega
  ·have hd0 : d = 0 := by omega
   subst hd0
   rw [if_neg (by simp; omega), F0g u x v hm, Option.bind_some]
   have ih := V0d w v r hw hl 0 (k + 1) fuel v n (es ++ [stp u x v]) (by omega) (by omega) h0 (by omega) (by simp; omega)
   simp only []
   rw [O0 (by simp; omega), Option.bind_some, Z1 hk (by omega)]
   refine ih.trans ?_
   rw [I1 (show k + 1 = w.length by omega)]
   simp [I00]
theorem W0d (w : List Int) (v : Int) (r : Int) (hw : ∀ x ∈ w, J7 x ∧ x ≠ 0) (hl : w.length ≤ 1000) : ∀ (d k fuel : Nat) (u n : Int) (es : List C0), k + d = w.length → d < fuel → 0 ≤ n → n ≤ 1000 + k → es.length ≤ 1000 + k →
  M4 w v fuel u (k : Int) r n es = some (r, n + ((d - 1 : Nat) : Int), I6 M0 es (I00 v (w.drop k) u n))
 | d, k, 0, u, n, es, hd, hf, h0, h1, h2 => by omega
 | 0, k, fuel + 1, u, n, es, hd, hf, h0, h1, h2 => by
  rw [M4.eq_2, if_neg (by simp; omega), I1 (by omega)]
  simp [I00, I6]
 | d + 1, k, fuel + 1, u, n, es, hd, hf, h0, h1, h2 => by
  have hk : k < w.length := by omega
  have hx := o6 hk
  have hm := hw _ (List.getElem_mem hk)
  generalize w[k] = x at hx hm
  have hput : ∀ e, (a9 M0 e es).length ≤ 1000 + (k + 1) := fun e => by have := g02 e es; omega
  rw [M4.eq_2, if_pos (by simp; omega), T1 hx]
  by_cases c : k + 1 < w.length
  ·have hy := o6 c
   generalize w[k + 1] = y at hy
   have ih := W0d w v r hw hl d (k + 1) fuel n (n + 1) (a9 M0 (stp u x n) es) (by omega) (by omega) (by omega) (by omega) (hput _)
   rw [T1 hy] at ih
   rw [Z1 hk (by omega), if_pos (by simp; omega), V3 hx, Option.bind_some, w64 (show (-9223372036854775808 : Int) ≤ n + 1 by omega) (by omega), T1 hy]
   have fin : some (r, n + 1 + ((d - 1 : Nat) : Int), I6 M0 (a9 M0 (stp u x n) es) (I00 v (y :: w.drop (k + 1 + 1)) n (n + 1))) = some (r, n + ((d + 1 - 1 : Nat) : Int), I6 M0 es (I00 v (x :: y :: w.drop (k + 1 + 1)) u n)) := by
    simp only [I00, I6]
    congr 3
    omega
   by_cases c2 : x > 0
   ·have e : stp u x n = (u, x, n) := by unfold stp; rw [if_neg (by omega)]
    rw [if_pos (by simp [c2])]
    simp only [Option.bind_some]
    rw [p04 es _ (by omega), Option.bind_some, ← e]
    exact ih.trans fin
   ·have e : stp u x n = (n, -x, u) := by unfold stp; rw [if_pos (by omega)]
    rw [if_neg (by simp; omega)]
    simp only [Option.bind_some]
    rw [Z0e hm.1.1 hm.1.2, p04 es _ (by omega), Option.bind_some, ← e]
    exact ih.trans fin
  ·have hd0 : d = 0 := by omega
   subst hd0
   have ih := W0d w v r hw hl 0 (k + 1) fuel v n (a9 M0 (stp u x v) es) (by omega) (by omega) h0 (by omega) (hput _)
   rw [I1 (show k + 1 = w.length by omega)] at ih ⊢
   rw [Z1 hk (by omega), if_neg (by simp; omega), V3 hx, Option.bind_some]
   have fin : some (r, n + ((0 - 1 : Nat) : Int), I6 M0 (a9 M0 (stp u x v) es) (I00 v [] v n)) = some (r, n + ((0 + 1 - 1 : Nat) : Int), I6 M0 es (I00 v [x] u n)) := by
    simp [I00, I6]
   by_cases c2 : x > 0
   ·have e : stp u x v = (u, x, v) := by unfold stp; rw [if_neg (by omega)]
    rw [if_pos (by simp [c2])]
    simp only [Option.bind_some]
    rw [p04 es _ (by omega), Option.bind_some, ← e]
    exact ih.trans fin
   ·have e : stp u x v = (v, -x, u) := by unfold stp; rw [if_pos (by omega)]
    rw [if_neg (by simp; omega)]
    simp only [Option.bind_some]
    rw [Z0e hm.1.1 hm.1.2, p04 es _ (by omega), Option.bind_some, ← e]
    exact ih.trans fin
theorem K0b {es p : List C0} (hA : Asc M0 es) : I6 M0 [] (es ++ p) = I6 M0 es p :=
 J06 r6 (x01 r6 _ _ .nil) (x01 r6 _ _ hA) fun x => by
  rw [l9 r6, l9 r6]; simp
def j3 (g : l0) (u : Int) (w : List Int) (v : Int) : l0 × Bool :=
 bif !w.isEmpty && decide (g.2.1 + (w.length : Int) - 1 ≤ 40) && decide (g.2.2.length + w.length ≤ 120) then ((g.1, g.2.1 + ((w.length - 1 : Nat) : Int), I6 M0 g.2.2 (I00 v w u g.2.1)), true) else (g, false)
theorem X0d {r : Int} {w : List Int} (h : Z4 r w = true) : w.length ≤ 24 ∧ ∀ x ∈ w, J7 x ∧ x ≠ 0 ∧ -r ≤ x ∧ x ≤ r := by
 have h1 := h
 simp only [Z4, Bool.and_eq_true, decide_eq_true_eq] at h1
 refine ⟨h1.1.2, fun x hx => ?_⟩
 obtain ⟨i, hi⟩ := List.getElem?_of_mem hx
 have := U02 h hi
 exact ⟨⟨⟨by omega, by omega⟩, by omega⟩, this.2.2⟩
theorem p06 {g : l0} {u v : Int} {w : List Int} (hg : N0 g = true) (hu : 0 ≤ u ∧ u < g.2.1) (hv : 0 ≤ v ∧ v < g.2.1) (hw : Z4 g.1 w = true) : s8 g u w v = some (j3 g u w v) := by
 obtain ⟨q1, q2, q3, q4⟩ := Y1 hg
 obtain ⟨wl, wx⟩ := X0d hw
 have h1 := d6 g (by omega)
 have h2 := P00 g (by omega)
 have h3 := F07 g.1 w (by omega)
 obtain ⟨r, n, es⟩ := g
 simp only at q3 q4 hu hv h3
 have hwp : IntKind.i64.wrap (n - 1) = n - 1 := w64 (by omega) (by omega)
 have hin : ∀ x : Int, 0 ≤ x ∧ x < n → inR 0 (n - 1) x = true := fun x hx => by simp [inR]; omega
 have h := W0d w v r (fun x hx => ⟨(wx x hx).1, (wx x hx).2.1⟩) (by omega) w.length 0 T0 u n es (by omega) (C1 (by omega)) (by omega) (by omega) (by omega)
 unfold s8 j3
 simp only [h1, h2, hg, Option.bind_some, Bool.not_true, Bool.not_false, O2, cond_false, hwp, U01, hin u hu, hin v hv, h3, hw]
 rw [w64 (show (-9223372036854775808 : Int) ≤ n + ((w.length : Nat) : Int) by omega) (by omega), w64 (show (-9223372036854775808 : Int) ≤ n + ((w.length : Nat) : Int) - 1 by omega) (by omega), w64 (show (-9223372036854775808 : Int) ≤ ((es.length : Nat) : Int) + ((w.length : Nat) : Int) by omega) (by omega)]
 by_cases c : (w ≠ [] ∧ n + (w.length : Int) - 1 ≤ 40) ∧ es.length + w.length ≤ 120
 ·have hne : w.length ≠ 0 := by simpa using c.1.1
  rw [if_neg (by simp only [Bool.not_eq_true]; simp [c.1.1]; omega), show (0 : Int) = ((0 : Nat) : Int) from rfl, h, Option.bind_some]
  rw [show (!w.isEmpty && decide (n + (w.length : Int) - 1 ≤ 40) && decide (es.length + w.length ≤ 120)) = true by simp [c.1.1, c.1.2, c.2]]
  rfl
 ·rw [show (!w.isEmpty && decide (n + (w.length : Int) - 1 ≤ 40) && decide (es.length + w.length ≤ 120)) = false by
   rw [← Bool.not_eq_true]; simpa using c]
  rw [if_pos ?_]
  ·rfl
  ·by_cases d1 : w = []
   ·simp [d1]
   ·by_cases d2 : n + (w.length : Int) - 1 ≤ 40
    ·have d3 : ¬ es.length + w.length ≤ 120 := fun h => c ⟨⟨d1, d2⟩, h⟩
     have : decide (((es.length : Nat) : Int) + ((w.length : Nat) : Int) > 120) = true := by simp; omega
     rw [this]; simp
    ·have : decide (n + ((w.length : Nat) : Int) - 1 > 40) = true := by simp; omega
     rw [this]; simp
theorem h0l {g : l0} (hg : N0 g = true) {u : Int} (hu : 0 ≤ u ∧ u < g.2.1) : E5 g u = some true := by
 obtain ⟨q1, q2, q3, q4⟩ := Y1 hg
 obtain ⟨r, n, es⟩ := g
 simp only at q3 hu
 unfold E5
 simp only [N01]
 rw [w64 (by omega) (by omega)]
 simp [inR]; omega
theorem q06 {g : l0} {u v : Int} {w : List Int} (hg : N0 g = true) (hu : 0 ≤ u ∧ u < g.2.1) (hv : 0 ≤ v ∧ v < g.2.1) (hw : Z4 g.1 w = true) : w8 g u w v = some (j3 g u w v) := by
 obtain ⟨q1, q2, q3, q4⟩ := Y1 hg
 obtain ⟨wl, wx⟩ := X0d hw
 have h1 := Q8 g (by omega)
 have h2 := j00 g (by omega)
 have h3 := H07 g.1 w (by omega)
 have h4 := h0l hg hu
 have h5 := h0l hg hv
 have hA := T08 hg
 obtain ⟨r, n, es⟩ := g
 simp only at q3 q4 hu hv h3 hA
 have h := V0d w v r (fun x hx => (wx x hx).1) (by omega) w.length 0 T0 u n es (by omega) (C1 (by omega)) (by omega) (by omega) (by omega)
 have hpl := U05 v w u n
 unfold w8 j3
 simp only [h1, h2, hg, Option.bind_some, Bool.not_true, Bool.not_false, O2, cond_false, h4, h5]
 rw [w64 (show (-9223372036854775808 : Int) ≤ n + ((w.length : Nat) : Int) by omega) (by omega), w64 (show (-9223372036854775808 : Int) ≤ n + ((w.length : Nat) : Int) - 1 by omega) (by omega), w64 (show (-9223372036854775808 : Int) ≤ ((es.length : Nat) : Int) + ((w.length : Nat) : Int) by omega) (by omega)]
 by_cases d1 : w = []
 ·subst d1
  simp [chk]
 rw [show decide (((w.length : Nat) : Int) = 0) = false by simp [d1], show (!false) = true from rfl, O2, h3, Option.bind_some, hw]
 by_cases c : n + (w.length : Int) - 1 ≤ 40 ∧ es.length + w.length ≤ 120
 ·rw [if_neg (by simp only [Bool.not_eq_true]; simp; omega), show (0 : Int) = ((0 : Nat) : Int) from rfl, h, Option.bind_some]
  rw [show (!w.isEmpty && decide (n + (w.length : Int) - 1 ≤ 40) && decide (es.length + w.length ≤ 120)) = true by simp [d1, c.1, c.2]]
  simp only [List.drop_zero, cond_true]
  rw [R07 _ (by simp; omega), K0b hA]
  rfl
 ·rw [show (!w.isEmpty && decide (n + (w.length : Int) - 1 ≤ 40) && decide (es.length + w.length ≤ 120)) = false by
   rw [← Bool.not_eq_true]; simp only [Bool.and_eq_true, decide_eq_true_eq, Bool.not_eq_true']; omega]
  rw [if_pos ?_]
  ·rfl
  ·by_cases d2 : n + (w.length : Int) - 1 ≤ 40
   ·have d3 : ¬ es.length + w.length ≤ 120 := fun h => c ⟨d2, h⟩
    have : decide (((es.length : Nat) : Int) + ((w.length : Nat) : Int) > 120) = true := by simp; omega
    rw [this]; simp
   ·have : decide (n + ((w.length : Nat) : Int) - 1 > 40) = true := by simp; omega
    rw [this]; simp
end Go.Proofs.YtfdlgbfeceodeaaGreat
namespace Go.Proofs.YtfdlgbfeceodeaaGreat
open Go.H
set_option linter.unusedVariables false
set_option linter.unusedSimpArgs false
def U1 (g : l0) : l0 × Bool := bif decide (g.2.1 < 40) then ((g.1, g.2.1 + 1, g.2.2), true) else (g, false)
theorem N09 {g : l0} (hg : N0 g = true) : c8 g = some (U1 g) := by
 obtain ⟨q1, q2, q3, q4⟩ := Y1 hg
 have h1 := d6 g (by omega)
 have h2 := P00 g (by omega)
 obtain ⟨r, n, es⟩ := g
 simp only at q3
 unfold c8 U1
 simp only [h1, h2, hg, Option.bind_some, Bool.not_true, cond_false]
 by_cases c : n < 40
 ·rw [if_neg (by simp; omega), w64 (by omega) (by omega)]; simp [c]
 ·rw [if_pos (by simp; omega)]; simp [c]
theorem O09 {g : l0} (hg : N0 g = true) : f8 g = some (U1 g) := by
 obtain ⟨q1, q2, q3, q4⟩ := Y1 hg
 have h1 := Q8 g (by omega)
 have h2 := j00 g (by omega)
 obtain ⟨r, n, es⟩ := g
 simp only at q3
 unfold f8 U1
 simp only [h1, h2, hg, Option.bind_some, Bool.not_true, cond_false]
 by_cases c : n < 40
 ·rw [if_neg (by simp; omega), w64 (by omega) (by omega)]; simp [c]
 ·rw [if_pos (by simp; omega)]; simp [c]
theorem D04 {g : l0} (hg : N0 g = true) : N0 (U1 g).1 = true := by
 unfold U1
 by_cases c : g.2.1 < 40
 ·simp only [c, decide_true, cond_true]
  obtain ⟨q1, q2, q3, q4, q5⟩ := (N9 g).1 hg
  refine (N9 _).2 ⟨fun e he => ?_, q2, ?_, q4, q5⟩
  ·have := q1 e he
   simp only
   omega
  ·simp only; omega
 ·simp only [c, decide_false, cond_false]; exact hg
theorem N0k {es : List C0} {e : C0} (hA : Asc M0 es) (he : e ∈ es) : a9 M0 e es = es :=
 J06 r6 (h0b r6 _ _ hA) hA fun x => by
  rw [H03 r6]
  constructor
  ·rintro (rfl | h)
   ·exact he
   ·exact h
  ·exact .inr
theorem x0f (e : C0) : ∀ {es : List C0}, e ∉ es → (a9 M0 e es).length = es.length + 1
 | [], _ => rfl
 | y :: l, h => by
  have ih := x0f e (es := l) fun hm => h (List.mem_cons_of_mem _ hm)
  unfold a9
  split
  ·rfl
  ·split
   ·rename_i c
    exact absurd (r6.eq _ _ c) fun hh => h (by rw [hh]; exact List.mem_cons_self ..)
   ·simp only [List.length_cons, ih]
def N7 (g : l0) (e : C0) : l0 × Bool := bif decide (g.2.2.length < 120) && !decide (e ∈ g.2.2) then ((g.1, g.2.1, a9 M0 e g.2.2), true) else (g, false)
def F0i (g : l0) (e : C0) : Prop := (0 ≤ e.1 ∧ e.1 < g.2.1) ∧ (0 ≤ e.2.2 ∧ e.2.2 < g.2.1) ∧ 1 ≤ e.2.1 ∧ e.2.1 ≤ g.1
theorem U0j {g : l0} (hg : N0 g = true) {e : C0} (he : F0i g e) : V01 g.1 (IntKind.i64.wrap (g.2.1 - 1)) e = true := by
 obtain ⟨q1, q2, q3, q4⟩ := Y1 hg
 rw [w64 (by omega) (by omega)]
 unfold F0i at he
 simp only [V01, inR, Bool.and_eq_true, decide_eq_true_eq]
 omega
theorem e0c {g : l0} {e : C0} (hg : N0 g = true) (he : F0i g e) : t8 g e = some (N7 g e) := by
 obtain ⟨q1, q2, q3, q4⟩ := Y1 hg
 have h1 := d6 g (by omega)
 have h2 := P00 g (by omega)
 have h3 := b0f g e
 rw [U0j hg he] at h3
 have h4 := p04 g.2.2 e (by omega)
 have hA := T08 hg
 obtain ⟨r, n, es⟩ := g
 obtain ⟨e0, e1, e2⟩ := e
 simp only at q4 hA h4
 unfold t8 N7
 simp only [h1, h2, hg, Option.bind_some, Bool.not_true, Bool.not_false, cond_false, O2, h3]
 by_cases c : es.length < 120
 ·rw [if_neg (by simp; omega), h4, Option.bind_some]
  by_cases d : (e0, e1, e2) ∈ es
  ·rw [N0k hA d]
   simp [c, d]
  ·have := x0f (e0, e1, e2) d
   simp only [this, c, d, decide_true, decide_false, Bool.not_false, Bool.and_true, cond_true]
   simp
   omega
 ·rw [if_pos (by simp; omega)]
  simp [c]
theorem O0h (es : List C0) (e : C0) (hl : es.length ≤ 140737488355328) : ∀ (d k fuel : Nat), k + d = es.length → d < fuel →
  ∃ X, H1 es e.1 e.2.1 e.2.2 fuel (k : Int) = some X ∧ ((∃ i : Nat, X = .inl (i : Int) ∧ i < es.length ∧ e ∈ es.drop k) ∨ (X = .inr () ∧ e ∉ es.drop k))
 | d, k, 0, hd, hf => by omega
 | 0, k, fuel + 1, hd, hf => by
  rw [H1.eq_2, if_neg (by simp; omega), I1 (by omega)]
  exact ⟨_, rfl, .inr ⟨rfl, by simp⟩⟩
 | d + 1, k, fuel + 1, hd, hf => by
  have hk : k < es.length := by omega
  have hx := o6 hk
  generalize es[k] = b at hx
  rw [H1.eq_2, if_pos (by simp; omega), V3 hx, Option.bind_some, T1 hx]
  simp only []
  by_cases c : eqE e b = true
  ·rw [if_pos c]
   refine ⟨_, rfl, .inl ⟨k, rfl, hk, ?_⟩⟩
   rw [(Q0d _ _).1 c]
   exact List.mem_cons_self ..
  ·rw [if_neg c, Z1 hk (by omega)]
   obtain ⟨X, h1, h2⟩ := O0h es e hl d (k + 1) fuel (by omega) (by omega)
   refine ⟨X, h1, ?_⟩
   have hne : e ≠ b := fun h => c ((Q0d _ _).2 h)
   rcases h2 with ⟨i, q1, q2, q3⟩ | ⟨q1, q2⟩
   ·exact .inl ⟨i, q1, q2, List.mem_cons_of_mem _ q3⟩
   ·refine .inr ⟨q1, fun h => ?_⟩
    rcases List.mem_cons.1 h with h | h
    ·exact hne h
    ·exact q2 h
theorem G0g (es : List C0) (e : C0) (hl : es.length ≤ 140737488355328) : Q2 es e = some (decide (e ∈ es)) := by
 obtain ⟨X, h1, h2⟩ := O0h es e hl es.length 0 T0 (by omega) (C1 hl)
 obtain ⟨e0, e1, e2⟩ := e
 unfold Q2 B4
 simp only
 simp only [List.drop_zero] at h2
 rw [show (0 : Int) = ((0 : Nat) : Int) from rfl, h1]
 rcases h2 with ⟨i, rfl, q2, q3⟩ | ⟨rfl, q2⟩
 ·simp only [Option.bind_some, G3]
  rw [O0 (show H0 ((i : Nat) : Int) from ⟨by omega, by omega⟩)]
  simp [q3]
 ·simp only [Option.bind_some, U0]
  rw [O0 (show H0 (-1) from ⟨by omega, by omega⟩)]
  simp [q2]
theorem f0c {g : l0} {e : C0} (hg : N0 g = true) (he : F0i g e) : Y8 g e = some (N7 g e) := by
 obtain ⟨q1, q2, q3, q4⟩ := Y1 hg
 have h1 := Q8 g (by omega)
 have h2 := j00 g (by omega)
 have h3 := B04 g e
 rw [U0j hg he] at h3
 have h4 := G0g g.2.2 e (by omega)
 have hA := T08 hg
 obtain ⟨r, n, es⟩ := g
 obtain ⟨e0, e1, e2⟩ := e
 simp only at q4 hA h4
 unfold Y8 N7
 simp only [h1, h2, hg, Option.bind_some, Bool.not_true, Bool.not_false, cond_false, O2, h3, h4]
 by_cases d : (e0, e1, e2) ∈ es
 ·simp [d]
 ·by_cases c : es.length < 120
  ·rw [if_neg (by simp [d]; omega), O0 (by simp; omega), Option.bind_some, R07 _ (by simp; omega), K0b hA]
   simp [c, d, I6]
  ·have : es.length = 120 := by omega
   rw [if_pos (by simp [this])]
   simp [c]
def C02 (g : l0) (v : Int) : List Int → List C0
 | [] => []
 | x :: r => (bif decide (K5 g v x < 0) then [(v, x, -1)] else []) ++ C02 g v r
def r06 (g : l0) : Nat → Nat → List C0
 | 0, _ => []
 | d + 1, v => C02 g (v : Int) (k00 g.1.toNat 1) ++ r06 g d (v + 1)
theorem U08 (g : l0) (v : Int) : ∀ l, (C02 g v l).length ≤ l.length
 | [] => Nat.le_refl _
 | x :: r => by
  have := U08 g v r
  simp only [C02, List.length_append, List.length_cons]
  cases decide (K5 g v x < 0) <;> simp <;> omega
theorem y0f (g : l0) (hg : N0 g = true) (v : Int) (ls : List Int) (hls : ∀ x ∈ ls, J7 x) (hl : ls.length ≤ 1000) : ∀ (d k fuel : Nat) (acc : List C0), k + d = ls.length → d < fuel → acc.length + d ≤ 100000 →
  B3 ls g.1 g.2.1 g.2.2 v fuel (k : Int) acc = some (acc ++ C02 g v (ls.drop k))
 | d, k, 0, acc, hd, hf, ha => by omega
 | 0, k, fuel + 1, acc, hd, hf, ha => by
  rw [B3.eq_2, if_neg (by simp; omega), I1 (by omega)]
  simp [C02]
 | d + 1, k, fuel + 1, acc, hd, hf, ha => by
  obtain ⟨q1, q2, q3, q4⟩ := Y1 hg
  have hk : k < ls.length := by omega
  have hx := o6 hk
  have hm := hls _ (List.getElem_mem hk)
  generalize ls[k] = x at hx hm
  have ih : ∀ acc' : List C0, acc'.length + d ≤ 100000 → B3 ls g.1 g.2.1 g.2.2 v fuel ((k + 1 : Nat) : Int) acc' = some (acc' ++ C02 g v (ls.drop (k + 1))) := fun acc' h => y0f g hg v ls hls hl d (k + 1) fuel acc' (by omega) (by omega) h
  rw [B3.eq_2, if_pos (by simp; omega), V3 hx, Option.bind_some, show (g.1, g.2.1, g.2.2) = g from rfl, L06 g v x hm (by omega), Option.bind_some, O0 (n04 q1 q3.2 v x), Option.bind_some, Z1 hk (by omega), T1 hx, C02]
  cases decide (K5 g v x < 0) with
  | true =>
   rw [if_pos rfl, Option.bind_some, O0 (by simp; omega), Option.bind_some, ih _ (by simp; omega)]
   simp
  | false =>
   rw [if_neg (by simp), ih _ (by omega)]
   simp
theorem z0f (g : l0) (hg : N0 g = true) (v : Int) (ls : List Int) (hls : ∀ x ∈ ls, J7 x) (hl : ls.length ≤ 1000) : ∀ (d k fuel : Nat) (acc : List C0), k + d = ls.length → d < fuel → acc.length + d ≤ 100000 →
  C3 ls g.1 g.2.1 g.2.2 v fuel (k : Int) acc = some (acc ++ C02 g v (ls.drop k))
 | d, k, 0, acc, hd, hf, ha => by omega
 | 0, k, fuel + 1, acc, hd, hf, ha => by
  rw [C3.eq_2, if_neg (by simp; omega), I1 (by omega)]
  simp [C02]
 | d + 1, k, fuel + 1, acc, hd, hf, ha => by
  obtain ⟨q1, q2, q3, q4⟩ := Y1 hg
  have hk : k < ls.length := by omega
  have hx := o6 hk
  have hm := hls _ (List.getElem_mem hk)
  generalize ls[k] = x at hx hm
  have ih : ∀ acc' : List C0, acc'.length + d ≤ 100000 → C3 ls g.1 g.2.1 g.2.2 v fuel ((k + 1 : Nat) : Int) acc' = some (acc' ++ C02 g v (ls.drop (k + 1))) := fun acc' h => z0f g hg v ls hls hl d (k + 1) fuel acc' (by omega) (by omega) h
  rw [C3.eq_2, if_pos (by simp; omega), V3 hx, Option.bind_some, show (g.1, g.2.1, g.2.2) = g from rfl, M06 g v x hm (by omega), Option.bind_some, O0 (n04 q1 q3.2 v x), Option.bind_some, Z1 hk (by omega), T1 hx, C02]
  cases decide (K5 g v x < 0) with
  | true =>
   rw [if_pos rfl, O0 (by simp; omega), Option.bind_some, ih _ (by simp; omega)]
   simp
  | false =>
   rw [if_neg (by simp), ih _ (by omega)]
   simp
theorem X07 : ∀ (d i : Nat) (x : Int), x ∈ k00 d i → ∃ j : Nat, i ≤ j ∧ j < i + d ∧ (x = (j : Int) ∨ x = -(j : Int))
 | 0, i, x, h => by simp [k00] at h
 | d + 1, i, x, h => by
  simp only [k00, List.mem_cons] at h
  rcases h with rfl | rfl | h
  ·exact ⟨i, Nat.le_refl _, by omega, .inl rfl⟩
  ·exact ⟨i, Nat.le_refl _, by omega, .inr rfl⟩
  ·obtain ⟨j, h1, h2, h3⟩ := X07 d (i + 1) x h
   exact ⟨j, by omega, by omega, h3⟩
theorem A0f (g : l0) (hf0 : S0 g = true) : ∀ (d k fuel : Nat) (acc : List C0), k + d = g.2.1.toNat → d < fuel → acc.length + 100 * d ≤ 10000 →
  H4 g.2.1 g.1 g.2.2 fuel (k : Int) acc = some (acc ++ r06 g d k)
 | d, k, 0, acc, hd, hf, ha => by omega
 | 0, k, fuel + 1, acc, hd, hf, ha => by
  obtain ⟨q1, q2, q3, q4⟩ := L4 hf0
  rw [H4.eq_2, show decide (((k : Nat) : Int) < g.2.1) = false by simp; omega]
  simp [chk, r06]
 | d + 1, k, fuel + 1, acc, hd, hf, ha => by
  obtain ⟨q1, q2, q3, q4⟩ := L4 hf0
  have hg := ((P7 g).1 hf0).1
  obtain ⟨R, hR⟩ : ∃ R : Nat, g.1 = (R : Int) := ⟨g.1.toNat, by omega⟩
  have hls : ∀ x ∈ k00 g.1.toNat 1, J7 x := fun x hx => by
   obtain ⟨j, h1, h2, h3⟩ := X07 _ _ _ hx
   refine ⟨⟨by omega, by omega⟩, by omega⟩
  have hlen := O03 g.1.toNat 1
  have hm := U08 g (k : Int) (k00 g.1.toNat 1)
  have h0 := y0f g hg (k : Int) (k00 g.1.toNat 1) hls (by omega) (k00 g.1.toNat 1).length 0 T0 acc (by omega) (C1 (by omega)) (by omega)
  rw [H4.eq_2, show decide (((k : Nat) : Int) < g.2.1) = true by simp; omega, O2, show (g.1, g.2.1, g.2.2) = g from rfl, V8 g (by omega), Option.bind_some, hf0]
  rw [if_pos (show (bif true then true else false) = true from rfl), show n7 g.1 = some (k00 g.1.toNat 1) by rw [hR, M0j R (by omega)]; rfl, Option.bind_some, show (0 : Int) = ((0 : Nat) : Int) from rfl, h0, Option.bind_some, Z1 (show k < 1000 by omega) (by omega), A0f g hf0 d (k + 1) fuel _ (by omega) (by omega) (by simp; omega), r06]
  simp
theorem B0f (g : l0) (hf0 : S0 g = true) : ∀ (d k fuel : Nat) (acc : List C0), k + d = g.2.1.toNat → d < fuel → acc.length + 100 * d ≤ 10000 →
  I4 g.2.1 g.1 g.2.2 fuel (k : Int) acc = some (acc ++ r06 g d k)
 | d, k, 0, acc, hd, hf, ha => by omega
 | 0, k, fuel + 1, acc, hd, hf, ha => by
  obtain ⟨q1, q2, q3, q4⟩ := L4 hf0
  rw [I4.eq_2, if_neg (by simp; omega)]
  simp [r06]
 | d + 1, k, fuel + 1, acc, hd, hf, ha => by
  obtain ⟨q1, q2, q3, q4⟩ := L4 hf0
  have hg := ((P7 g).1 hf0).1
  obtain ⟨R, hR⟩ : ∃ R : Nat, g.1 = (R : Int) := ⟨g.1.toNat, by omega⟩
  have hls : ∀ x ∈ k00 g.1.toNat 1, J7 x := fun x hx => by
   obtain ⟨j, h1, h2, h3⟩ := X07 _ _ _ hx
   refine ⟨⟨by omega, by omega⟩, by omega⟩
  have hlen := O03 g.1.toNat 1
  have hm := U08 g (k : Int) (k00 g.1.toNat 1)
  have h0 := z0f g hg (k : Int) (k00 g.1.toNat 1) hls (by omega) (k00 g.1.toNat 1).length 0 T0 acc (by omega) (C1 (by omega)) (by omega)
  rw [I4.eq_2, if_pos (by simp; omega), show r8 g.1 = some (k00 g.1.toNat 1) by rw [hR, L0j R (by omega)]; rfl, Option.bind_some, show (0 : Int) = ((0 : Nat) : Int) from rfl, h0, Option.bind_some, Z1 (show k < 1000 by omega) (by omega), B0f g hf0 d (k + 1) fuel _ (by omega) (by omega) (by simp; omega), r06]
  simp
def G6 (g : l0) : List C0 := r06 g g.2.1.toNat 0
theorem g0c {g : l0} (hf : S0 g = true) : S6 g = some (G6 g) := by
 obtain ⟨q1, q2, q3, q4⟩ := L4 hf
 have h := A0f g hf g.2.1.toNat 0 T0 [] (by omega) (C1 (by omega)) (by simp; omega)
 obtain ⟨r, n, es⟩ := g
 unfold S6 G6
 simp only at h ⊢
 rw [show (0 : Int) = ((0 : Nat) : Int) from rfl, h]; simp
theorem h0c {g : l0} (hf : S0 g = true) : T6 g = some (G6 g) := by
 obtain ⟨q1, q2, q3, q4⟩ := L4 hf
 have h := B0f g hf g.2.1.toNat 0 T0 [] (by omega) (C1 (by omega)) (by simp; omega)
 have h2 := i00 g (by omega)
 obtain ⟨r, n, es⟩ := g
 unfold T6 G6
 simp only [h2, hf, Option.bind_some] at h ⊢
 rw [if_neg (by simp), show (0 : Int) = ((0 : Nat) : Int) from rfl, h]; simp
theorem W0c {g : l0} {v : Int} {e : C0} : ∀ {l : List Int}, e ∈ C02 g v l → e.1 = v ∧ e.2.1 ∈ l ∧ e.2.2 = -1
 | [], h => nomatch h
 | x :: r, h => by
  simp only [C02, List.mem_append] at h
  rcases h with h | h
  ·cases hd : decide (K5 g v x < 0) with
   | true =>
    rw [hd] at h
    simp at h
    subst h
    exact ⟨rfl, List.mem_cons_self .., rfl⟩
   | false => rw [hd] at h; simp at h
  ·obtain ⟨h1, h2, h3⟩ := W0c h
   exact ⟨h1, List.mem_cons_of_mem _ h2, h3⟩
theorem X0c {g : l0} {e : C0} : ∀ {d k : Nat}, e ∈ r06 g d k → ((k : Int) ≤ e.1 ∧ e.1 < (k : Int) + d) ∧ e.2.1 ∈ k00 g.1.toNat 1
 | 0, k, h => nomatch h
 | d + 1, k, h => by
  rcases List.mem_append.1 (show e ∈ C02 g (k : Int) (k00 g.1.toNat 1) ++ r06 g d (k + 1) from h) with h | h
  ·obtain ⟨h1, h2, _⟩ := W0c h
   exact ⟨by omega, h2⟩
  ·obtain ⟨h1, h2⟩ := X0c h
   exact ⟨by omega, h2⟩
theorem u05 {g : l0} (hf : S0 g = true) {e : C0} (h : e ∈ G6 g) : (0 ≤ e.1 ∧ e.1 < g.2.1) ∧ e.2.1 ≠ 0 ∧ -g.1 ≤ e.2.1 ∧ e.2.1 ≤ g.1 := by
 obtain ⟨q1, q2, q3, q4⟩ := L4 hf
 obtain ⟨h1, h2⟩ := X0c h
 obtain ⟨j, k1, k2, k3⟩ := X07 _ _ _ h2
 refine ⟨by omega, by omega, by omega, by omega⟩
end Go.Proofs.YtfdlgbfeceodeaaGreat
namespace Go.Proofs.YtfdlgbfeceodeaaGreat
open Go.H
set_option linter.unusedVariables false
set_option linter.unusedSimpArgs false
theorem Y0c {g : l0} {v : Int} : ∀ {l : List (List Int)} {k i : Nat}, L0b g v l k = some i → k ≤ i ∧ i < k + l.length
 | [], k, i, h => nomatch h
 | r :: l, k, i, h => by
  unfold L0b at h
  cases hb : G0i g v r with
  | true =>
   rw [hb] at h
   simp only [cond_true, Option.some.injEq] at h
   subst h
   simp
  | false =>
   rw [hb] at h
   have := Y0c (l := l) (k := k + 1) (i := i) h
   simp only [List.length_cons]; omega
theorem V08 {g : l0} {rels : List (List Int)} : ∀ {d k v i : Nat}, t04 g rels d k = some (v, i) → (k ≤ v ∧ v < k + d) ∧ i < rels.length
 | 0, k, v, i, h => nomatch h
 | d + 1, k, v, i, h => by
  unfold t04 at h
  cases hr : L0b g (k : Int) rels 0 with
  | some j =>
   rw [hr] at h
   simp only [Option.some.injEq, Prod.mk.injEq] at h
   obtain ⟨rfl, rfl⟩ := h
   have := Y0c hr
   omega
  | none =>
   rw [hr] at h
   have := V08 (d := d) (k := k + 1) h
   omega
def C0f (p : D0) (g : l0) (v i : Nat) : l0 × Bool × Bool := match p.2[i]? with
 | some w => bif (j3 g (v : Int) w (v : Int)).2 then ((A4 (j3 g (v : Int) w (v : Int)).1).1, true, true) else (g, false, false)
 | none => (g, false, false)
def D0f (g : l0) : l0 × Bool × Bool := match G6 g with
 | [] => (g, false, true)
 | e :: _ => bif (U1 g).2 then (bif (N7 (U1 g).1 (stp e.1 e.2.1 g.2.1)).2 then ((N7 (U1 g).1 (stp e.1 e.2.1 g.2.1)).1, true, true) else (g, false, false)) else (g, false, false)
def O1 (p : D0) (g : l0) : l0 × Bool × Bool := bif D4 p && S0 g && decide (p.1 = g.1) then (match t04 g p.2 g.2.1.toNat 0 with
 | some (v, i) => C0f p g v i
 | none => D0f g) else (g, false, false)
theorem w05 {g : l0} (hg : N0 g = true) (u : Int) (w : List Int) (v : Int) : (j3 g u w v).1.2.2.length ≤ 120 := by
 have q := (Y1 hg).2.2.2
 unfold j3
 cases hc : (!w.isEmpty && decide (g.2.1 + (w.length : Int) - 1 ≤ 40) && decide (g.2.2.length + w.length ≤ 120)) with
 | false => exact q
 | true =>
  simp only [Bool.and_eq_true, decide_eq_true_eq] at hc
  have h1 := O01 (I00 v w u g.2.1) g.2.2
  have h2 := U05 v w u g.2.1
  simp only [cond_true]
  omega
theorem V0j {g : l0} (hf : S0 g = true) {e : C0} (he : e ∈ G6 g) (hv : (U1 g).2 = true) : F0i (U1 g).1 (stp e.1 e.2.1 g.2.1) := by
 obtain ⟨h1, h2, h3, h4⟩ := u05 hf he
 obtain ⟨q1, q2, q3, q4⟩ := L4 hf
 unfold U1 at hv ⊢
 by_cases c : g.2.1 < 40
 ·simp only [c, decide_true, cond_true]
  unfold stp F0i
  split <;> (simp only; omega)
 ·simp [c] at hv
theorem b08 (p : D0) (g : l0) (hl : p.2.length ≤ 140737488355328) (hs : Q3 p.2) (hl2 : g.2.2.length ≤ 1099511627776) : y8 p g = some (O1 p g) := by
 have h1 := K8 p hl hs
 have h2 := V8 g (by omega)
 have h3 := P00 g hl2
 have h4 := a08 p g hl hs (by omega)
 have h5 : S0 g = true → S6 g = some (G6 g) := g0c
 have h6 : S0 g = true → c8 g = some (U1 g) := fun h => N09 ((P7 g).1 h).1
 have h7 : S0 g = true → ∀ e ∈ G6 g, (U1 g).2 = true → t8 (U1 g).1 (stp e.1 e.2.1 g.2.1) = some (N7 (U1 g).1 (stp e.1 e.2.1 g.2.1)) := fun h e he hv => e0c (D04 ((P7 g).1 h).1) (V0j h he hv)
 have h8 : D4 p = true → S0 g = true → p.1 = g.1 → ∀ v i : Nat, t04 g p.2 g.2.1.toNat 0 = some (v, i) → ∃ w, p.2[i]? = some w ∧ s8 g (v : Int) w (v : Int) = some (j3 g (v : Int) w (v : Int)) ∧ N6 (j3 g (v : Int) w (v : Int)).1 = some (A4 (j3 g (v : Int) w (v : Int)).1) ∧ v ≤ 40 ∧ i ≤ 6 := fun a b c v i hh => by
  obtain ⟨k1, k2⟩ := V08 hh
  have hg := ((P7 g).1 b).1
  obtain ⟨q1, q2, q3, q4⟩ := L4 b
  refine ⟨p.2[i], o6 k2, p06 hg ⟨by omega, by omega⟩ ⟨by omega, by omega⟩ (by rw [← c]; exact v05 a _ (List.getElem_mem k2)), i03 _ (by have := w05 hg (v : Int) p.2[i] (v : Int); omega), by omega, by have := s04 a; omega⟩
 have h9 : S0 g = true → ∀ e ∈ G6 g, (0 ≤ e.1 ∧ e.1 < g.2.1) ∧ e.2.1 ≠ 0 ∧ -3 ≤ e.2.1 ∧ e.2.1 ≤ 3 := fun h e he => by
  obtain ⟨k1, k2, k3, k4⟩ := u05 h he
  obtain ⟨q1, q2, q3, q4⟩ := L4 h
  exact ⟨k1, k2, by omega, by omega⟩
 unfold O9 at h4
 unfold O1 D0f
 obtain ⟨pr, rels⟩ := p
 obtain ⟨r, n, es⟩ := g
 unfold y8
 simp only [h1, Option.bind_some]
 cases hp : D4 (pr, rels) with
 | false => simp only [Bool.not_false, Bool.not_true, V5, Option.bind_some, cond_true, if_true, h3, Bool.false_and, cond_false]
 | true =>
  simp only [Bool.not_true, Bool.not_false, O2, h2, Option.bind_some, cond_false, Bool.true_and]
  cases hf : S0 (r, n, es) with
  | false => simp only [Bool.not_false, cond_true, if_true, h3, Option.bind_some, Bool.false_and, cond_false]
  | true =>
   simp only [Bool.not_true, cond_false, Bool.true_and]
   by_cases hr : pr = r
   ·subst hr
    have e4 : o7 (pr, rels) (pr, n, es) = some (M0b (t04 (pr, n, es) rels n.toNat 0)) := by
     rw [h4]; simp only [hp, hf, decide_true, Bool.and_true, cond_true]
    simp only [decide_true, Bool.not_true, Bool.false_eq_true, if_false, cond_true]
    have h8 := h8 hp hf rfl
    simp only at h8
    cases hh : t04 (pr, n, es) rels n.toNat 0 with
    | some q =>
     obtain ⟨v, i⟩ := q
     obtain ⟨w, k1, k2, k3, k4, k5⟩ := h8 v i hh
     rw [hh] at e4
     simp only [M0b] at e4
     rw [e4, Option.bind_some]
     try simp only []
     rw [O0 (show H0 ((v : Nat) : Int) from ⟨by omega, by omega⟩), Option.bind_some, O0 (show H0 ((i : Nat) : Int) from ⟨by omega, by omega⟩), Option.bind_some, if_pos (by simp), V3 k1, Option.bind_some, k2, Option.bind_some]
     unfold C0f
     simp only [k1]
     revert k3
     generalize j3 (pr, n, es) (v : Int) w (v : Int) = ap
     intro k3
     obtain ⟨g2, ok⟩ := ap
     try simp only at k3
     cases ok with
     | false => simp only [Bool.not_false, if_true, h3, Option.bind_some, cond_false]
     | true => simp only [Bool.not_true, Bool.false_eq_true, if_false, k3, Option.bind_some, cond_true]
    | none =>
     rw [hh] at e4
     simp only [M0b] at e4
     rw [e4, Option.bind_some]
     try simp only []
     rw [O0 (show H0 (-1) from ⟨by omega, by omega⟩), Option.bind_some, Option.bind_some, if_neg (by simp), h5 hf, Option.bind_some]
     have h7 := h7 hf
     have h9 := h9 hf
     have h6 := h6 hf
     cases hm : G6 (pr, n, es) with
     | nil => simp only [List.length_nil]; rw [if_pos (by simp), h3]; rfl
     | cons e l =>
      have h7 := h7 e (by rw [hm]; exact List.mem_cons_self ..)
      obtain ⟨k1, k2, k3, k4⟩ := h9 e (by rw [hm]; exact List.mem_cons_self ..)
      rw [if_neg (by simp; omega), h6, Option.bind_some]
      revert h7
      generalize U1 (pr, n, es) = av
      intro h7
      obtain ⟨g2, ok⟩ := av
      simp only at h7
      simp only []
      cases ok with
      | false => simp only [Bool.not_false, if_true, h3, Option.bind_some, cond_false]
      | true =>
       have h7 := h7 rfl
       simp only [Bool.not_true, Bool.false_eq_true, if_false, cond_true]
       obtain ⟨e0, e1, e2⟩ := e
       simp only at k1 k2 k3 k4 h7
       rw [m05 rfl]
       simp only [Option.bind_some]
       revert h7
       generalize N7 g2 (stp e0 e1 n) = ae
       intro h7
       obtain ⟨g3, ok3⟩ := ae
       by_cases c : e1 < 0
       ·rw [if_pos (by simp [c]), w64 (by omega) (by omega), show ((n, 0 - e1, e0) : C0) = stp e0 e1 n by unfold stp; rw [if_pos c, Int.zero_sub], h7]
        cases ok3 <;> simp [h3]
       ·rw [if_neg (by simp; omega), show ((e0, e1, n) : C0) = stp e0 e1 n by unfold stp; rw [if_neg c], h7]
        cases ok3 <;> simp [h3]
   ·simp only [hr, decide_false, Bool.not_false, if_true, h3, Option.bind_some, cond_false]
theorem c08 (p : D0) (g : l0) (hl : p.2.length ≤ 140737488355328) (hs : Q3 p.2) (hl2 : g.2.2.length ≤ 1099511627776) : z8 p g = some (O1 p g) := by
 have h1 := f00 p hl hs
 have h2 := i00 g (by omega)
 have h3 := j00 g hl2
 have h4 := Z07 p g hl hs (by omega)
 have h5 : S0 g = true → T6 g = some (G6 g) := h0c
 have h6 : S0 g = true → f8 g = some (U1 g) := fun h => O09 ((P7 g).1 h).1
 have h7 : S0 g = true → ∀ e ∈ G6 g, (U1 g).2 = true → Y8 (U1 g).1 (stp e.1 e.2.1 g.2.1) = some (N7 (U1 g).1 (stp e.1 e.2.1 g.2.1)) := fun h e he hv => f0c (D04 ((P7 g).1 h).1) (V0j h he hv)
 have h8 : D4 p = true → S0 g = true → p.1 = g.1 → ∀ v i : Nat, t04 g p.2 g.2.1.toNat 0 = some (v, i) → ∃ w, p.2[i]? = some w ∧ w8 g (v : Int) w (v : Int) = some (j3 g (v : Int) w (v : Int)) ∧ O6 (j3 g (v : Int) w (v : Int)).1 = some (A4 (j3 g (v : Int) w (v : Int)).1) ∧ v ≤ 40 ∧ i ≤ 6 := fun a b c v i hh => by
  obtain ⟨k1, k2⟩ := V08 hh
  have hg := ((P7 g).1 b).1
  obtain ⟨q1, q2, q3, q4⟩ := L4 b
  refine ⟨p.2[i], o6 k2, q06 hg ⟨by omega, by omega⟩ ⟨by omega, by omega⟩ (by rw [← c]; exact v05 a _ (List.getElem_mem k2)), j03 _ (by have := w05 hg (v : Int) p.2[i] (v : Int); omega), by omega, by have := s04 a; omega⟩
 have h9 : S0 g = true → ∀ e ∈ G6 g, (0 ≤ e.1 ∧ e.1 < g.2.1) ∧ e.2.1 ≠ 0 ∧ -3 ≤ e.2.1 ∧ e.2.1 ≤ 3 := fun h e he => by
  obtain ⟨k1, k2, k3, k4⟩ := u05 h he
  obtain ⟨q1, q2, q3, q4⟩ := L4 h
  exact ⟨k1, k2, by omega, by omega⟩
 unfold O9 at h4
 unfold O1 D0f
 obtain ⟨pr, rels⟩ := p
 obtain ⟨r, n, es⟩ := g
 unfold z8
 simp only [h1, Option.bind_some]
 cases hp : D4 (pr, rels) with
 | false => simp only [Bool.not_false, Bool.not_true, V5, Option.bind_some, cond_true, if_true, h3, Bool.false_and, cond_false]
 | true =>
  simp only [Bool.not_true, Bool.not_false, O2, h2, Option.bind_some, cond_false, Bool.true_and]
  cases hf : S0 (r, n, es) with
  | false => simp only [Bool.not_false, cond_true, if_true, h3, Option.bind_some, Bool.false_and, cond_false]
  | true =>
   simp only [Bool.not_true, cond_false, Bool.true_and]
   by_cases hr : pr = r
   ·subst hr
    have e4 : p7 (pr, rels) (pr, n, es) = some (M0b (t04 (pr, n, es) rels n.toNat 0)) := by
     rw [h4]; simp only [hp, hf, decide_true, Bool.and_true, cond_true]
    simp only [decide_true, Bool.not_true, Bool.false_eq_true, if_false, cond_true]
    have h8 := h8 hp hf rfl
    simp only at h8
    cases hh : t04 (pr, n, es) rels n.toNat 0 with
    | some q =>
     obtain ⟨v, i⟩ := q
     obtain ⟨w, k1, k2, k3, k4, k5⟩ := h8 v i hh
     rw [hh] at e4
     simp only [M0b] at e4
     rw [e4, Option.bind_some]
     try simp only []
     rw [O0 (show H0 ((v : Nat) : Int) from ⟨by omega, by omega⟩), Option.bind_some, O0 (show H0 ((i : Nat) : Int) from ⟨by omega, by omega⟩), Option.bind_some, if_pos (by simp), V3 k1, Option.bind_some, k2, Option.bind_some]
     unfold C0f
     simp only [k1]
     revert k3
     generalize j3 (pr, n, es) (v : Int) w (v : Int) = ap
     intro k3
     obtain ⟨g2, ok⟩ := ap
     try simp only at k3
     cases ok with
     | false => simp only [Bool.not_false, if_true, h3, Option.bind_some, cond_false]
     | true => simp only [Bool.not_true, Bool.false_eq_true, if_false, k3, Option.bind_some, cond_true]
    | none =>
     rw [hh] at e4
     simp only [M0b] at e4
     rw [e4, Option.bind_some]
     try simp only []
     rw [O0 (show H0 (-1) from ⟨by omega, by omega⟩), Option.bind_some, Option.bind_some, if_neg (by simp), h5 hf, Option.bind_some]
     have h7 := h7 hf
     have h9 := h9 hf
     have h6 := h6 hf
     cases hm : G6 (pr, n, es) with
     | nil => simp only [List.length_nil]; rw [if_pos (by simp), h3]; rfl
     | cons e l =>
      have h7 := h7 e (by rw [hm]; exact List.mem_cons_self ..)
      obtain ⟨k1, k2, k3, k4⟩ := h9 e (by rw [hm]; exact List.mem_cons_self ..)
      rw [if_neg (by simp; omega), h6, Option.bind_some]
      revert h7
      generalize U1 (pr, n, es) = av
      intro h7
      obtain ⟨g2, ok⟩ := av
      simp only at h7
      simp only []
      cases ok with
      | false => simp [h3]
      | true =>
       have h7 := h7 rfl
       simp only [Bool.not_true, Bool.false_eq_true, if_false, cond_true]
       obtain ⟨e0, e1, e2⟩ := e
       simp only at k1 k2 k3 k4 h7
       rw [m05 rfl]
       simp only [Option.bind_some]
       rw [F0g e0 e1 n ⟨⟨by omega, by omega⟩, by omega⟩]
       simp only [Option.bind_some]
       revert h7
       generalize N7 g2 (stp e0 e1 n) = ae
       intro h7
       obtain ⟨g3, ok3⟩ := ae
       cases ok3 <;> simp [h3, h7]
   ·simp only [hr, decide_false, Bool.not_false, if_true, h3, Option.bind_some, cond_false]
end Go.Proofs.YtfdlgbfeceodeaaGreat
namespace Go.Proofs.YtfdlgbfeceodeaaGreat
open Go.H
set_option linter.unusedVariables false
set_option linter.unusedSimpArgs false
theorem H0g (g : Nat) : ∀ (d k : Nat) (x : Int), x ∈ wo g d k → ∃ j : Nat, x = (j : Int) ∧ k ≤ j ∧ j < k + d
 | 0, k, x, h => nomatch h
 | d + 1, k, x, h => by
  unfold wo at h
  split at h
  ·obtain ⟨j, h1, h2, h3⟩ := H0g g d (k + 1) x h
   exact ⟨j, h1, by omega, by omega⟩
  ·rcases List.mem_cons.1 h with rfl | h
   ·exact ⟨k, rfl, Nat.le_refl _, by omega⟩
   ·obtain ⟨j, h1, h2, h3⟩ := H0g g d (k + 1) x h
    exact ⟨j, h1, by omega, by omega⟩
theorem d08 (g : Nat) : ∀ (d k : Nat), (wo g d k).Nodup
 | 0, k => List.nodup_nil
 | d + 1, k => by
  unfold wo
  split
  ·exact d08 g d (k + 1)
  ·refine List.nodup_cons.2 ⟨fun h => ?_, d08 g d (k + 1)⟩
   obtain ⟨j, h1, h2, h3⟩ := H0g g d (k + 1) _ h
   omega
theorem Y0d (P : List Int) : ∀ (es : List C0), ∀ e ∈ pE P es, ∃ a ∈ es, e = (getI P a.1, a.2.1, getI P a.2.2) ∧ 0 ≤ getI P a.1 ∧ 0 ≤ getI P a.2.2
 | [], e, h => nomatch h
 | b :: r, e, h => by
  unfold pE at h
  cases hb : decide (0 ≤ getI P b.1) && decide (0 ≤ getI P b.2.2)
  ·rw [hb] at h
   obtain ⟨a, h1, h2⟩ := Y0d P r e h
   exact ⟨a, List.mem_cons_of_mem _ h1, h2⟩
  ·rw [hb] at h
   simp only [Bool.and_eq_true, decide_eq_true_eq] at hb
   rcases List.mem_cons.1 h with rfl | h
   ·exact ⟨b, List.mem_cons_self .., rfl, hb.1, hb.2⟩
   ·obtain ⟨a, h1, h2⟩ := Y0d P r e h
    exact ⟨a, List.mem_cons_of_mem _ h1, h2⟩
theorem R0b {g : l0} {o : List Int} (hg : N0 g = true) (ho : inV g.2.1.toNat o) (h1 : 1 ≤ o.length) (h2 : o.length ≤ 40) : N0 (Q9 g o) = true := by
 obtain ⟨q1, q2, q3, q4⟩ := Y1 hg
 have hl := S0d (plc g.2.1.toNat o) g.2.2
 refine V07 q2 ⟨by omega, by omega⟩ (by omega) fun e he => ?_
 obtain ⟨a, ha, rfl, k1, k2⟩ := Y0d _ _ e he
 have hq := q1 a ha
 have r1 := (N03 ho (x := a.1) (by omega)).2
 have r2 := (N03 ho (x := a.2.2) (by omega)).2
 exact ⟨⟨k1, r1⟩, ⟨k2, r2⟩, hq.2.2⟩
theorem S0b {n : Nat} : ∀ (o : List Int) (k : Nat) (A : List Int), A.length = n → inV n o → o.Nodup → (∀ x, 0 ≤ x → getI A x < (k : Int)) → (∀ x y, 0 ≤ x → 0 ≤ y → 0 ≤ getI A x → getI A x = getI A y → x = y) →
  ∀ x y, 0 ≤ x → 0 ≤ y → 0 ≤ getI (g01 A k o) x → getI (g01 A k o) x = getI (g01 A k o) y → x = y
 | [], k, A, hA, ho, hd, hr, hi => hi
 | v :: r, k, A, hA, ho, hd, hr, hi => by
  have hv := ho v (List.mem_cons_self ..)
  refine S0b r (k + 1) (A.set v.toNat (k : Int)) (by simp [hA]) (fun w hw => ho w (List.mem_cons_of_mem _ hw)) (List.nodup_cons.1 hd).2 (fun x hx => ?_) (fun x y hx hy h0 he => ?_)
  ·rw [M03 hv.1 (by omega) hx]
   have := hr x hx
   split <;> omega
  ·rw [M03 hv.1 (by omega) hx] at h0 he
   rw [M03 hv.1 (by omega) hy] at he
   have h1 := hr x hx
   have h2 := hr y hy
   by_cases c1 : x = v
   ·by_cases c2 : y = v
    ·rw [c1, c2]
    ·rw [if_pos c1, if_neg c2] at he; omega
   ·by_cases c2 : y = v
    ·rw [if_neg c1, if_pos c2] at he; omega
    ·rw [if_neg c1] at h0; rw [if_neg c1, if_neg c2] at he
     exact hi x y hx hy h0 he
theorem P0h {n : Nat} {o : List Int} (ho : inV n o) (hd : o.Nodup) {x y : Int} (hx : 0 ≤ x) (hy : 0 ≤ y) (h0 : 0 ≤ getI (plc n o) x) (he : getI (plc n o) x = getI (plc n o) y) : x = y := by
 refine S0b o 0 (List.replicate n (-1)) (by simp) ho hd (fun x hx => by rw [q05]; omega) (fun x y _ _ h _ => by rw [q05] at h; omega) x y hx hy h0 he
theorem W0j {es : List C0} (h : es.Pairwise fun a b => F02 a b = false) {a b : C0} (ha : a ∈ es) (hb : b ∈ es) (hne : a ≠ b) : F02 a b = false := by
 induction es with
 | nil => cases ha
 | cons c r ih =>
  obtain ⟨h1, h2⟩ := List.pairwise_cons.1 h
  rcases List.mem_cons.1 ha with rfl | ha'
  ·rcases List.mem_cons.1 hb with rfl | hb'
   ·exact absurd rfl hne
   ·exact h1 b hb'
  ·rcases List.mem_cons.1 hb with rfl | hb'
   ·rw [M08]; exact h1 a ha'
   ·exact ih h2 ha' hb'
theorem O0k {es : List C0} (hA : Asc M0 es) (h : ∀ a ∈ es, ∀ b ∈ es, a ≠ b → F02 a b = false) : es.Pairwise fun a b => F02 a b = false := by
 induction es with
 | nil => exact .nil
 | cons c r ih =>
  obtain ⟨h1, h2⟩ := List.pairwise_cons.1 hA
  refine List.pairwise_cons.2 ⟨fun b hb => h c (List.mem_cons_self ..) b (List.mem_cons_of_mem _ hb) fun e => ?_, ih h2 fun a ha b hb => h a (List.mem_cons_of_mem _ ha) b (List.mem_cons_of_mem _ hb)⟩
  have := h1 b hb
  rw [e, r6.refl] at this; omega
theorem Z0c {g : l0} (hg : N0 g = true) : S0 g = true ↔ ∀ a ∈ g.2.2, ∀ b ∈ g.2.2, a ≠ b → F02 a b = false := by
 rw [P7, S08]
 exact ⟨fun h a ha b hb hne => W0j h.2 ha hb hne, fun h => ⟨hg, O0k (graph_asc' hg) h⟩⟩
where graph_asc' {g : l0} (h : N0 g = true) : Asc M0 g.2.2 := ((N9 g).1 h).2.2.2.2
theorem E0f {g : l0} {o : List Int} (hf : S0 g = true) (ho : inV g.2.1.toNat o) (hd : o.Nodup) (h1 : 1 ≤ o.length) (h2 : o.length ≤ 40) : S0 (Q9 g o) = true := by
 have hg := c02 hf
 obtain ⟨q1, q2, q3, q4⟩ := Y1 hg
 refine (Z0c (R0b hg ho h1 h2)).2 fun a ha b hb hne => ?_
 have mem : ∀ e ∈ (Q9 g o).2.2, ∃ a ∈ g.2.2, e = (getI (plc g.2.1.toNat o) a.1, a.2.1, getI (plc g.2.1.toNat o) a.2.2) ∧ 0 ≤ getI (plc g.2.1.toNat o) a.1 ∧ 0 ≤ getI (plc g.2.1.toNat o) a.2.2 := fun e he => by
  rcases (l9 r6 e _ _).1 he with h | h
  ·cases h
  ·exact Y0d _ _ e h
 obtain ⟨a', ha', rfl, k1, k2⟩ := mem a ha
 obtain ⟨b', hb', rfl, k3, k4⟩ := mem b hb
 have hne' : a' ≠ b' := fun e => hne (by rw [e])
 have hc := (Z0c hg).1 hf a' ha' b' hb' hne'
 have ra := q1 a' ha'
 have rb := q1 b' hb'
 unfold F02 at hc ⊢
 simp only [Bool.and_eq_false_iff, Bool.or_eq_false_iff, decide_eq_false_iff_not] at hc ⊢
 rcases hc with hc | ⟨hc1, hc2⟩
 ·exact .inl hc
 ·exact .inr ⟨fun e => hc1 (P0h ho hd ra.1.1 rb.1.1 k1 e), fun e => hc2 (P0h ho hd ra.2.1.1 rb.2.1.1 k2 e)⟩
def R03 : Nat → l0 → l0
 | 0, g => g
 | d + 1, g => match h03 g with
  | none => g
  | some k => R03 d (Q9 g (wo k g.2.1.toNat 0))
theorem Q0h {g : l0} {k : Nat} (h : h03 g = some k) : 1 ≤ k ∧ k < g.2.1.toNat := by
 have := G0b _ _ _ h
 omega
theorem a0d {g : l0} (hg : N0 g = true) {k : Nat} (h : h03 g = some k) : inV g.2.1.toNat (wo k g.2.1.toNat 0) ∧ (wo k g.2.1.toNat 0).length = g.2.1.toNat - 1 ∧ 1 ≤ (wo k g.2.1.toNat 0).length ∧ (wo k g.2.1.toNat 0).length ≤ 40 := by
 obtain ⟨q1, q2, q3, q4⟩ := Y1 hg
 have hk := Q0h h
 have hlen := E0g k g.2.1.toNat 0
 rw [if_pos (by omega)] at hlen
 exact ⟨P0j k _ _ 0 (by omega), hlen, by omega, by omega⟩
theorem d02 : ∀ (d : Nat) {g : l0}, S0 g = true → S0 (R03 d g) = true
 | 0, g, h => h
 | d + 1, g, h => by
  unfold R03
  cases e : h03 g with
  | none => exact h
  | some k =>
   obtain ⟨h1, h2, h3, h4⟩ := a0d (c02 h) e
   exact d02 d (E0f h h1 (d08 _ _ _) h3 h4)
theorem T0b (n g : Nat) (hn : n ≤ 1000) (u : List Int) (hu : u.length = n) : ∀ (d k fuel : Nat) (acc bcc : List Int), k + d = n → d < fuel → acc.length ≤ k → bcc.length ≤ k →
  ∃ v, V4 (n : Int) (g : Int) u fuel (k : Int) acc bcc = some (acc ++ wo g d k, v) ∧ v.length + acc.length = bcc.length + (acc ++ wo g d k).length
 | d, k, 0, acc, bcc, hd, hf, ha, hb => by omega
 | 0, k, fuel + 1, acc, bcc, hd, hf, ha, hb => by
  rw [V4.eq_2, if_neg (by simp; omega)]; exact ⟨bcc, by simp [wo], by simp [wo]⟩
 | d + 1, k, fuel + 1, acc, bcc, hd, hf, ha, hb => by
  have hx := o6 (show k < u.length by omega)
  generalize u[k] = x at hx
  rw [V4.eq_2, if_pos (by simp; omega), Z1 (show k < 10000 by omega) (by omega)]
  unfold wo
  by_cases c : k = g
  ·have e : decide ((k : Int) = (g : Int)) = true := decide_eq_true (by omega)
   rw [e, if_neg (by simp), if_pos c]
   exact T0b n g hn u hu d (k + 1) fuel acc bcc (by omega) (by omega) (by omega) (by omega)
  ·have e : decide ((k : Int) = (g : Int)) = false := decide_eq_false (by omega)
   rw [e, if_pos (show (!false) = true from rfl), if_neg c, O0 (by simp; omega), Option.bind_some, V3 hx, Option.bind_some, O0 (by simp; omega), Option.bind_some]
   obtain ⟨v, h1, h2⟩ := T0b n g hn u hu d (k + 1) fuel (acc ++ [(k : Int)]) (bcc ++ [x]) (by omega) (by omega) (by simp; omega) (by simp; omega)
   refine ⟨v, by rw [h1]; simp, ?_⟩
   simp only [List.length_append, List.length_cons, List.length_nil] at h2 ⊢
   omega
theorem F0f (g : l0) (hg : N0 g = true) : ∀ (d k fuel : Nat) (acc : List Int), k + d = g.2.1.toNat → d < fuel → acc.length = k →
  ∃ u, B5 g.2.1 g.1 g.2.2 fuel (k : Int) acc = some u ∧ u.length = g.2.1.toNat
 | d, k, 0, acc, hd, hf, ha => by omega
 | 0, k, fuel + 1, acc, hd, hf, ha => by
  obtain ⟨q1, q2, q3, q4⟩ := Y1 hg
  rw [B5.eq_2, show decide (((k : Nat) : Int) < g.2.1) = false by simp; omega]
  exact ⟨acc, by simp [chk], by omega⟩
 | d + 1, k, fuel + 1, acc, hd, hf, ha => by
  obtain ⟨q1, q2, q3, q4⟩ := Y1 hg
  obtain ⟨u, h1, h2⟩ := F0f g hg d (k + 1) fuel (acc ++ [(k : Int)]) (by omega) (by omega) (by simp; omega)
  rw [B5.eq_2, show decide (((k : Nat) : Int) < g.2.1) = true by simp; omega, O2, show (g.1, g.2.1, g.2.2) = g from rfl, d6 g (by omega), Option.bind_some, hg]
  rw [if_pos (show (bif true then true else false) = true from rfl), O0 (by simp; omega), Option.bind_some, Z1 (show k < 1000 by omega) (by omega), h1]
  exact ⟨u, rfl, h2⟩
theorem G0f (g0 : l0) (hg0 : N0 g0 = true) : ∀ (d k fuel : Nat) (g : l0) (u : List Int), k + d = 40 → d < fuel → N0 g = true → u.length = g.2.1.toNat → g.2.1.toNat ≤ d + 1 →
  ∃ v, (A5 g0.1 g0.2.1 g0.2.2 fuel u (k : Int) g.1 g.2.1 g.2.2).bind (fun X => w7 X (fun S => match S with | (a, b, c, e) => some ((b, c, e), a))) = some (R03 d g, v)
 | d, k, 0, g, u, hd, hf, hg, hu, hn => by omega
 | 0, k, fuel + 1, g, u, hd, hf, hg, hu, hn => by
  rw [A5.eq_2, show decide (((k : Nat) : Int) < 40) = false by simp; omega]
  exact ⟨u, by simp [chk, w7, R03]⟩
 | d + 1, k, fuel + 1, g, u, hd, hf, hg, hu, hn => by
  obtain ⟨p1, p2, p3, p4⟩ := Y1 hg0
  obtain ⟨q1, q2, q3, q4⟩ := Y1 hg
  have hl := K0l g hg
  rw [A5.eq_2, show decide (((k : Nat) : Int) < 40) = true by simp; omega, O2, show (g0.1, g0.2.1, g0.2.2) = g0 from rfl, d6 g0 (by omega), Option.bind_some, hg0]
  rw [if_pos (show (bif true then true else false) = true from rfl), show (g.1, g.2.1, g.2.2) = g from rfl, hl]
  unfold R03
  cases e : h03 g with
  | none =>
   simp only [Option.bind_some]
   rw [O0 (show H0 (-1) from ⟨by omega, by omega⟩), Option.bind_some, if_pos (by simp)]
   exact ⟨u, rfl⟩
  | some j =>
   obtain ⟨h1, h2, h3, h4⟩ := a0d hg e
   have hj := Q0h e
   obtain ⟨N, hN⟩ : ∃ N : Nat, g.2.1 = (N : Int) := ⟨g.2.1.toNat, by omega⟩
   have hNt : g.2.1.toNat = N := by omega
   obtain ⟨v, w1, w2⟩ := T0b N j (by omega) u (by omega) N 0 T0 [] [] (by omega) (C1 (by omega)) (Nat.le_refl _) (Nat.le_refl _)
   have hr := C0b g.1 N g.2.2 (wo j N 0) (by rw [← hN]; exact hg) (by rw [← hNt]; exact h1) (d08 _ _ _) (by rw [← hNt]; exact h3) (by rw [← hNt]; omega)
   rw [← hN, show (g.1, g.2.1, g.2.2) = g from rfl] at hr
   have hG := R0b hg h1 h3 h4
   rw [hNt] at hG h2 h3
   obtain ⟨v2, z⟩ := G0f g0 hg0 d (k + 1) fuel (Q9 g (wo j N 0)) v (by omega) (by omega) hG (by simp only [List.nil_append, List.length_nil] at w2; show v.length = ((wo j N 0).length : Int).toNat; omega) (by show ((wo j N 0).length : Int).toNat ≤ d + 1; omega)
   simp only [Option.bind_some]
   rw [O0 (show H0 ((j : Nat) : Int) from ⟨by omega, by omega⟩), Option.bind_some, if_neg (by simp), hN, show (0 : Int) = ((0 : Nat) : Int) from rfl, w1]
   simp only [Option.bind_some, List.nil_append]
   rw [← hN, hr]
   simp only [Option.bind_some]
   rw [Z1 (show k < 1000 by omega) (by omega), hNt]
   exact ⟨v2, z⟩
def U0b (g : l0) : l0 := R03 40 g
theorem I0g {g : l0} (hg : N0 g = true) : ∃ v, Z8 g = some (U0b g, v) := by
 obtain ⟨q1, q2, q3, q4⟩ := Y1 hg
 have hc := P00 g (by omega)
 obtain ⟨u, h1, h2⟩ := F0f g hg g.2.1.toNat 0 T0 [] (by omega) (C1 (by omega)) rfl
 obtain ⟨v, h3⟩ := G0f g hg 40 0 T0 g u rfl (C1 (by omega)) hg h2 (by omega)
 refine ⟨v, ?_⟩
 obtain ⟨r, n, es⟩ := g
 unfold Z8
 simp only [hc, Option.bind_some]
 simp only at h1 h3
 rw [show (0 : Int) = ((0 : Nat) : Int) from rfl, h1, Option.bind_some]
 exact h3
theorem H0f : ∀ (n fuel d : Nat) (left : List Int) (r : Int) (es : List C0), 1 ≤ n → n ≤ 40 → inN n es → es.length ≤ 120 → left.length = n → n < fuel → n ≤ d + 1 →
  ∃ l', p6 fuel left r (n : Int) es = some (.inl (R03 d (r, (n : Int), es), l'))
 | n, 0, d, left, r, es, h1, h2, hn, hes, hl, hf, hd => by omega
 | n, fuel + 1, d, left, r, es, h1, h2, hn, hes, hl, hf, hd => by
  obtain ⟨S, eS, lS, hS⟩ := B0j r n es hn (by omega) h1 (by omega)
  have ht1 := K0h r n es (by omega) S lS h2 (n - 1) 1 T0 (Nat.le_refl _) (by omega) (by omega) (C1 (by omega))
  have hcg : lf (fun v => decide (o04 (v : Int) es < 2) || !C8 S (v : Int)) (n - 1) 1 = lf (C0g es) (n - 1) 1 := m0f _ _ fun k k1 k2 => by
   unfold C0g
   have := hS (k : Int) (by omega) (by omega)
   have h3 := L0k es 0 (k : Int)
   congr 2
   cases hb : C8 S (k : Int)
   ·symm; exact decide_eq_false fun h => by rw [this.2 (h3.1 h)] at hb; cases hb
   ·symm; exact decide_eq_true (h3.2 (this.1 hb))
  rw [hcg] at ht1
  have hleaf : h03 (r, (n : Int), es) = lf (C0g es) (n - 1) 1 := by simp only [h03, Int.toNat_natCast]
  rw [p6.eq_2, eS, Option.bind_some, show (1 : Int) = ((1 : Nat) : Int) from rfl, ht1, Option.bind_some]
  cases hlf : lf (C0g es) (n - 1) 1 with
  | none =>
   have e2 : R03 d (r, (n : Int), es) = (r, (n : Int), es) := by
    cases d with
    | zero => rfl
    | succ d => unfold R03; rw [hleaf, hlf]
   rw [e2]
   exact ⟨left, by rw [if_pos (by rfl)]⟩
  | some k =>
   have hk := G0b _ _ _ hlf
   have e0 : decide ((k : Int) = 0) = false := decide_eq_false (by omega)
   have ho := P0j k n n 0 (by omega)
   have hlen := E0g k n 0
   rw [if_pos (by omega)] at hlen
   have ht0 := L0h n k (by omega) n 0 T0 [] (by omega) (C1 (by omega)) (Nat.le_refl _)
   rw [show ((0 : Nat) : Int) = 0 from rfl, List.nil_append] at ht0
   have hp := F0j r n es (wo k n 0) hn ho (by omega) (by omega) (by omega)
   have hpl := A0b (r, (n : Int), es) (wo k n 0)
   have hpi := A0i (r := r) ho hn
   have hw : IntKind.i64.wrap ((k : Int) + ((1 : Nat) : Int)) = ((k + 1 : Nat) : Int) := by rw [w64 (by omega) (by omega)]; rfl
   obtain ⟨d', rfl⟩ : ∃ d', d = d' + 1 := ⟨d - 1, by omega⟩
   have hF : Q9 (r, (n : Int), es) (wo k n 0) = (r, ((n - 1 : Nat) : Int), (Q9 (r, (n : Int), es) (wo k n 0)).2.2) := by rw [← hlen]; rfl
   obtain ⟨l', q1⟩ := H0f (n - 1) fuel d' (left.take k ++ left.drop (k + 1)) r (Q9 (r, (n : Int), es) (wo k n 0)).2.2 (by omega) (by omega) (by rw [hlen] at hpi; exact hpi) (by simp only at hpl; omega) (by simp only [List.length_append, List.length_take, List.length_drop]; omega) (by omega) (by omega)
   refine ⟨l', ?_⟩
   rw [← hF] at q1
   have e2 : R03 (d' + 1) (r, (n : Int), es) = R03 d' (Q9 (r, (n : Int), es) (wo k n 0)) := by
    show (match h03 (r, (n : Int), es) with | none => (r, (n : Int), es) | some k => R03 d' (Q9 (r, (n : Int), es) (wo k ((n : Int)).toNat 0))) = _
    rw [hleaf, hlf, Int.toNat_natCast]
   rw [e2]
   simp only [e0, Bool.false_eq_true, if_false, ht0, Option.bind_some, hp]
   generalize Q9 (r, (n : Int), es) (wo k n 0) = gp at *
   rw [hF]
   simp only [hw]
   rw [Q0j (by omega), Option.bind_some, N06 (by omega), Option.bind_some, O0 (by simp only [List.length_take, List.length_drop]; omega), Option.bind_some, q1, ← hF]
theorem I0f {g : l0} (hg : N0 g = true) : ∃ v, W8 g = some (U0b g, v) := by
 obtain ⟨h1, h2, h3, h4⟩ := Y1 hg
 have hq := Q8 g (by omega)
 have hc := j00 g (by omega)
 obtain ⟨r, n, es⟩ := g
 simp only at h2 h3 h4
 obtain ⟨N, rfl⟩ : ∃ N : Nat, n = (N : Int) := ⟨n.toNat, by omega⟩
 have hn : inN N es := fun e he => ⟨(h1 e he).1, (h1 e he).2.1⟩
 obtain ⟨u, e1, e2⟩ := M0h N (by omega) N 0 T0 [] (by omega) (C1 (by omega)) rfl
 obtain ⟨l', q1⟩ := H0f N T0 40 u r es (by omega) (by omega) hn h4 e2 (C1 (by omega)) (by omega)
 refine ⟨l', ?_⟩
 unfold W8
 rw [show ((0 : Nat) : Int) = 0 from rfl] at e1
 simp only [hc, Option.bind_some, hq, hg, Bool.not_true, Bool.false_eq_true, if_false, e1, q1, w7]
 rfl
def u04 (g : l0) : l0 := U07 (U0b g)
theorem e08 {g : l0} (hf : S0 g = true) : A4 g = (g, []) := by
 obtain ⟨h1, h2⟩ := (P7 g).1 hf
 unfold A4
 rw [h1]
 show Z9 40 g = _
 unfold Z9
 rw [h2]
theorem J0g {g : l0} (hf : S0 g = true) : g8 g = some (u04 g) := by
 have hg := c02 hf
 obtain ⟨h1, h2, h3, h4⟩ := Y1 hg
 have e1 := i03 g (by omega)
 rw [e08 hf] at e1
 obtain ⟨v, e2⟩ := I0g hg
 have e3 := l0f (U0b g) (d02 40 hf)
 obtain ⟨r, n, es⟩ := g
 unfold g8 u04
 simp only [e1, Option.bind_some, e2]
 simp only [e3, Option.bind_some]
theorem K0g {g : l0} (hf : S0 g = true) : i8 g = some (u04 g) := by
 have hg := c02 hf
 obtain ⟨h1, h2, h3, h4⟩ := Y1 hg
 have e1 := j03 g (by omega)
 rw [e08 hf] at e1
 obtain ⟨v, e2⟩ := I0f hg
 have e3 := k0f (U0b g) (d02 40 hf)
 obtain ⟨r, n, es⟩ := g
 unfold i8 u04
 simp only [e1, Option.bind_some, e2]
 simp only [e3, Option.bind_some]
end Go.Proofs.YtfdlgbfeceodeaaGreat
namespace Go.Proofs.YtfdlgbfeceodeaaGreat
open Go.H
set_option linter.unusedVariables false
set_option linter.unusedSimpArgs false
theorem X0j {N r u x v : Int} (hu : 0 ≤ u ∧ u < N) (hv : 0 ≤ v ∧ v < N) (hx : x ≠ 0 ∧ -r ≤ x ∧ x ≤ r) : (0 ≤ (stp u x v).1 ∧ (stp u x v).1 < N) ∧ (0 ≤ (stp u x v).2.2 ∧ (stp u x v).2.2 < N) ∧ 1 ≤ (stp u x v).2.1 ∧ (stp u x v).2.1 ≤ r := by
 unfold stp
 split <;> (simp only; omega)
theorem J0f {N r v : Int} (hv : 0 ≤ v ∧ v < N) : ∀ (w : List Int) (u n : Int), (0 ≤ u ∧ u < N) → 0 ≤ n → n + ((w.length - 1 : Nat) : Int) ≤ N → (∀ x ∈ w, x ≠ 0 ∧ -r ≤ x ∧ x ≤ r) →
  ∀ e ∈ I00 v w u n, (0 ≤ e.1 ∧ e.1 < N) ∧ (0 ≤ e.2.2 ∧ e.2.2 < N) ∧ 1 ≤ e.2.1 ∧ e.2.1 ≤ r
 | [], u, n, hu, h0, hn, hw, e, he => nomatch he
 | [x], u, n, hu, h0, hn, hw, e, he => by
  simp only [I00, List.mem_singleton] at he
  subst he
  exact X0j hu hv (hw x (List.mem_cons_self ..))
 | x :: y :: l, u, n, hu, h0, hn, hw, e, he => by
  simp only [List.length_cons] at hn
  simp only [I00] at he
  rcases List.mem_cons.1 he with rfl | he
  ·exact X0j hu ⟨h0, by omega⟩ (hw x (List.mem_cons_self ..))
  ·exact J0f hv (y :: l) n (n + 1) ⟨h0, by omega⟩ (by omega) (by simp only [List.length_cons]; omega) (fun z hz => hw z (List.mem_cons_of_mem _ hz)) e he
theorem k03 {g : l0} {u v : Int} {w : List Int} (hg : N0 g = true) (hu : 0 ≤ u ∧ u < g.2.1) (hv : 0 ≤ v ∧ v < g.2.1) (hw : Z4 g.1 w = true) : N0 (j3 g u w v).1 = true := by
 obtain ⟨q1, q2, q3, q4, q5⟩ := (N9 g).1 hg
 obtain ⟨wl, wx⟩ := X0d hw
 unfold j3
 cases hc : (!w.isEmpty && decide (g.2.1 + (w.length : Int) - 1 ≤ 40) && decide (g.2.2.length + w.length ≤ 120)) with
 | false => exact hg
 | true =>
  simp only [Bool.and_eq_true, decide_eq_true_eq, Bool.not_eq_true', List.isEmpty_eq_false_iff] at hc
  have hne : 1 ≤ w.length := by
   have := List.length_pos_iff.2 hc.1.1; omega
  have h1 := O01 (I00 v w u g.2.1) g.2.2
  have h2 := U05 v w u g.2.1
  simp only [cond_true]
  refine (N9 _).2 ⟨fun e he => ?_, q2, ⟨by simp only; omega, by simp only; omega⟩, by simp only; omega, x01 r6 _ _ q5⟩
  simp only at he ⊢
  rcases (l9 r6 e _ _).1 he with h | h
  ·have := q1 e h
   omega
  ·exact J0f ⟨by omega, by omega⟩ w u g.2.1 ⟨by omega, by omega⟩ (by omega) (Int.le_refl _) (fun x hx => (wx x hx).2) e h
theorem v04 (g : l0) (u : Int) (w : List Int) (v : Int) : (j3 g u w v).1.1 = g.1 := by
 unfold j3
 cases (!w.isEmpty && decide (g.2.1 + (w.length : Int) - 1 ≤ 40) && decide (g.2.2.length + w.length ≤ 120)) <;> rfl
def o00 : List (List Int) → l0 → l0
 | [], g => g
 | w :: r, g => o00 r (j3 g 0 w 0).1
theorem F09 : ∀ (ws : List (List Int)) {g : l0}, N0 g = true → (∀ w ∈ ws, Z4 g.1 w = true) → N0 (o00 ws g) = true
 | [], g, hg, hw => hg
 | w :: r, g, hg, hw => by
  obtain ⟨q1, q2, q3, q4⟩ := Y1 hg
  exact F09 r (k03 hg ⟨Int.le_refl _, by omega⟩ ⟨Int.le_refl _, by omega⟩ (hw w (List.mem_cons_self ..))) fun w' hw' => by
   rw [v04]; exact hw w' (List.mem_cons_of_mem _ hw')
theorem K0f {g : l0} {w : List Int} (hg : N0 g = true) (hw : Z4 g.1 w = true) : z9 g w = some (j3 g 0 w 0) := by
 obtain ⟨q1, q2, q3, q4⟩ := Y1 hg
 have h := p06 hg (u := 0) (v := 0) ⟨Int.le_refl _, by omega⟩ ⟨Int.le_refl _, by omega⟩ hw
 obtain ⟨r, n, es⟩ := g
 unfold z9
 simp only [h, Option.bind_some]
theorem L0f {g : l0} {w : List Int} (hg : N0 g = true) (hw : Z4 g.1 w = true) : D9 g w = some (j3 g 0 w 0) := by
 obtain ⟨q1, q2, q3, q4⟩ := Y1 hg
 have h := q06 hg (u := 0) (v := 0) ⟨Int.le_refl _, by omega⟩ ⟨Int.le_refl _, by omega⟩ hw
 obtain ⟨r, n, es⟩ := g
 unfold D9
 simp only [h, Option.bind_some]
theorem b0d (ws : List (List Int)) (hl : ws.length ≤ 1000) : ∀ (d k fuel : Nat) (g : l0), k + d = ws.length → d < fuel → N0 g = true → (∀ w ∈ ws, Z4 g.1 w = true) →
  S5 ws fuel (k : Int) g.1 g.2.1 g.2.2 = some (o00 (ws.drop k) g)
 | d, k, 0, g, hd, hf, hg, hw => by omega
 | 0, k, fuel + 1, g, hd, hf, hg, hw => by
  rw [S5.eq_2, if_neg (by simp; omega), I1 (by omega)]; rfl
 | d + 1, k, fuel + 1, g, hd, hf, hg, hw => by
  have hk : k < ws.length := by omega
  have hx := o6 hk
  have hwk := hw _ (List.getElem_mem hk)
  generalize ws[k] = w at hx hwk
  obtain ⟨q1, q2, q3, q4⟩ := Y1 hg
  have ih := b0d ws hl d (k + 1) fuel (j3 g 0 w 0).1 (by omega) (by omega) (k03 hg ⟨Int.le_refl _, by omega⟩ ⟨Int.le_refl _, by omega⟩ hwk) (by rw [v04]; exact hw)
  rw [S5.eq_2, if_pos (by simp; omega), V3 hx, Option.bind_some, show (g.1, g.2.1, g.2.2) = g from rfl, K0f hg hwk, Option.bind_some, Z1 hk (by omega), T1 hx]
  exact ih
theorem c0d (ws : List (List Int)) (hl : ws.length ≤ 1000) : ∀ (d k fuel : Nat) (g : l0), k + d = ws.length → d < fuel → N0 g = true → (∀ w ∈ ws, Z4 g.1 w = true) →
  n5 ws fuel (k : Int) g.1 g.2.1 g.2.2 = some (o00 (ws.drop k) g)
 | d, k, 0, g, hd, hf, hg, hw => by omega
 | 0, k, fuel + 1, g, hd, hf, hg, hw => by
  rw [n5.eq_2, if_neg (by simp; omega), I1 (by omega)]; rfl
 | d + 1, k, fuel + 1, g, hd, hf, hg, hw => by
  have hk : k < ws.length := by omega
  have hx := o6 hk
  have hwk := hw _ (List.getElem_mem hk)
  generalize ws[k] = w at hx hwk
  obtain ⟨q1, q2, q3, q4⟩ := Y1 hg
  have ih := c0d ws hl d (k + 1) fuel (j3 g 0 w 0).1 (by omega) (by omega) (k03 hg ⟨Int.le_refl _, by omega⟩ ⟨Int.le_refl _, by omega⟩ hwk) (by rw [v04]; exact hw)
  rw [n5.eq_2, if_pos (by simp; omega), V3 hx, Option.bind_some, Z1 hk (by omega), T1 hx]
  by_cases c : w = []
  ·subst c
   rw [if_neg (by simp)]
   have e : (j3 g 0 [] 0).1 = g := rfl
   rw [e] at ih
   rw [ih]
   show _ = some (o00 (ws.drop (k + 1)) (j3 g 0 [] 0).1)
   rw [e]
  ·have : 0 < w.length := List.length_pos_iff.2 c
   rw [if_pos (by simp; omega), show (g.1, g.2.1, g.2.2) = g from rfl, L0f hg hwk, Option.bind_some]
   exact ih
def S03 (r : Int) (ws : List (List Int)) : l0 × Bool := bif P3 r ws then (o00 ws (r, 1, []), true) else ((0, 0, []), false)
theorem W08 {r : Int} {ws : List (List Int)} (h : P3 r ws = true) : (1 ≤ r ∧ r ≤ 3) ∧ ws.length ≤ 6 ∧ ∀ w ∈ ws, Z4 r w = true := by
 simp only [P3, inR, Bool.and_eq_true, decide_eq_true_eq] at h
 refine ⟨h.1.1.1, h.1.1.2, ?_⟩
 have hw : ∀ {ws : List (List Int)}, Y05 r ws = true → ∀ w ∈ ws, Z4 r w = true := by
  intro ws
  induction ws with
  | nil => intro _ w hw; cases hw
  | cons v l ih =>
   intro h w hw
   simp only [Y05, Bool.and_eq_true] at h
   rcases List.mem_cons.1 hw with rfl | hw
   ·exact h.1
   ·exact ih h.2 w hw
 exact hw h.1.2
theorem X08 {r : Int} (hr : 1 ≤ r ∧ r ≤ 3) : N0 (r, 1, []) = true := (N9 _).2 ⟨(fun e he => by cases he), hr, ⟨by simp, by simp⟩, by simp, List.Pairwise.nil⟩
theorem Z0d (r : Int) (ws : List (List Int)) (hl : ws.length ≤ 140737488355328) (hs : Q3 ws) : A9 r ws = some (S03 r ws) := by
 have h1 := n05 r ws hl hs
 unfold A9 S03
 rw [h1, Option.bind_some]
 cases hA : P3 r ws with
 | false => rfl
 | true =>
  obtain ⟨hr, hn, hw⟩ := W08 hA
  have h := b0d ws (by omega) ws.length 0 T0 (r, 1, []) (by omega) (C1 (by omega)) (X08 hr) hw
  have h2 : w9 r = some ((r, 1, []), true) := by
   unfold w9
   rw [U01, Option.bind_some, if_neg (by simp [inR]; omega)]
  rw [if_neg (by simp), h2, Option.bind_some]
  simp only [] at h ⊢
  rw [show (0 : Int) = ((0 : Nat) : Int) from rfl, h]
  rfl
theorem a0e (r : Int) (ws : List (List Int)) (hl : ws.length ≤ 140737488355328) (hs : Q3 ws) : E9 r ws = some (S03 r ws) := by
 have h1 := o05 r ws hl hs
 unfold E9 S03
 rw [h1, Option.bind_some]
 cases hA : P3 r ws with
 | false => rfl
 | true =>
  obtain ⟨hr, hn, hw⟩ := W08 hA
  have h := c0d ws (by omega) ws.length 0 T0 (r, 1, []) (by omega) (C1 (by omega)) (X08 hr) hw
  have h2 : C9 r = some ((r, 1, []), true) := by
   unfold C9
   rw [N01, Option.bind_some, if_neg (by simp [inR]; omega)]
  rw [if_neg (by simp), h2, Option.bind_some]
  simp only [] at h ⊢
  rw [show (0 : Int) = ((0 : Nat) : Int) from rfl, h]
  rfl
def d0d : l0 := (0, 0, [])
def x05 (p : D0) : Nat → l0 → l0 × Bool
 | 0, _ => (d0d, false)
 | d + 1, g => bif (O1 p g).2.2 then (bif (O1 p g).2.1 then x05 p d (O1 p g).1 else (u04 g, true)) else (d0d, false)
theorem Y08 {p : D0} {g : l0} (h : (O1 p g).2.2 = true) : D4 p = true ∧ S0 g = true ∧ p.1 = g.1 := by
 unfold O1 at h
 cases hc : (D4 p && S0 g && decide (p.1 = g.1)) with
 | false => rw [hc] at h; cases h
 | true =>
  simp only [Bool.and_eq_true, decide_eq_true_eq] at hc
  exact ⟨hc.1.1, hc.1.2, hc.2⟩
theorem e0d {p : D0} {g : l0} (h : (O1 p g).2.1 = false) : (O1 p g).1 = g := by
 unfold O1 at h ⊢
 cases hc : (D4 p && S0 g && decide (p.1 = g.1)) with
 | false => rfl
 | true =>
  rw [hc] at h
  simp only [cond_true] at h ⊢
  cases hh : t04 g p.2 g.2.1.toNat 0 with
  | some q =>
   obtain ⟨v, i⟩ := q
   rw [hh] at h
   simp only [C0f] at h ⊢
   cases hi : p.2[i]? with
   | none => rfl
   | some w =>
    rw [hi] at h
    simp only at h ⊢
    cases ha : (j3 g (v : Int) w (v : Int)).2 with
    | false => rfl
    | true => rw [ha] at h; cases h
  | none =>
   rw [hh] at h
   simp only [D0f] at h ⊢
   cases hm : G6 g with
   | nil => rfl
   | cons e l =>
    rw [hm] at h
    simp only at h ⊢
    cases hv : (U1 g).2 with
    | false => rfl
    | true =>
     rw [hv] at h
     simp only [cond_true] at h ⊢
     cases he : (N7 (U1 g).1 (stp e.1 e.2.1 g.2.1)).2 with
     | false => rfl
     | true => rw [he] at h; cases h
theorem M0f {p : D0} {g : l0} (h : g.2.2.length ≤ 1000) : (O1 p g).1.2.2.length ≤ 1000 := by
 by_cases hf : (O1 p g).2.1 = false
 ·rw [e0d hf]; exact h
 ·unfold O1 at hf ⊢
  cases hc : (D4 p && S0 g && decide (p.1 = g.1)) with
  | false => exact h
  | true =>
   simp only [Bool.and_eq_true] at hc
   have hg := ((P7 g).1 hc.1.2).1
   have hgl := (Y1 hg).2.2.2
   simp only [cond_true]
   cases t04 g p.2 g.2.1.toNat 0 with
   | some q =>
    obtain ⟨v, i⟩ := q
    simp only [C0f]
    cases p.2[i]? with
    | none => exact h
    | some w =>
     simp only
     cases (j3 g (v : Int) w (v : Int)).2 with
     | false => exact h
     | true =>
      have h1 := w05 hg (v : Int) w (v : Int)
      simp only [cond_true, A4]
      cases hG : N0 (j3 g (v : Int) w (v : Int)).1 with
      | false => simp only [cond_false]; omega
      | true =>
       have := (Y1 (r05 40 hG)).2.2.2
       simp only [cond_true]; omega
   | none =>
    simp only [D0f]
    cases G6 g with
    | nil => exact h
    | cons e l =>
     simp only
     cases (U1 g).2 with
     | false => exact h
     | true =>
      simp only [cond_true]
      have h1 : (U1 g).1.2.2 = g.2.2 := by unfold U1; cases decide (g.2.1 < 40) <;> rfl
      have h2 : (N7 (U1 g).1 (stp e.1 e.2.1 g.2.1)).1.2.2.length ≤ g.2.2.length + 1 := by
       have := g02 (stp e.1 e.2.1 g.2.1) (U1 g).1.2.2
       unfold N7
       rw [h1] at this ⊢
       cases (decide (g.2.2.length < 120) && !decide (stp e.1 e.2.1 g.2.1 ∈ g.2.2)) with
       | false => simp only [cond_false, h1]; omega
       | true => simp only [cond_true]; omega
      cases (N7 (U1 g).1 (stp e.1 e.2.1 g.2.1)).2 with
      | false => exact h
      | true => simp only [cond_true]; omega
def P0k : (l0 × Bool) ⊕ (Int × Int × J0) → Option (l0 × Bool) := fun X => w7 X (fun S => match S with
 | (a, b, c) => some ((0, 0, []), false))
theorem R0h (p : D0) (hl : p.2.length ≤ 140737488355328) (hs : Q3 p.2) : ∀ (d k fuel : Nat) (g : l0), k + d = 300 → d < fuel → g.2.2.length ≤ 1000 →
  (X2 p.1 p.2 fuel (k : Int) g.1 g.2.1 g.2.2).bind P0k = some (x05 p d g)
 | d, k, 0, g, hd, hf, hg => by omega
 | 0, k, fuel + 1, g, hd, hf, hg => by
  rw [X2.eq_2, if_neg (by simp; omega)]; rfl
 | d + 1, k, fuel + 1, g, hd, hf, hg => by
  have h1 := b08 p g hl hs (by omega)
  have h2 : (O1 p g).2.2 = true → (O1 p g).2.1 = false → g8 (O1 p g).1 = some (u04 g) := fun a b => by
   rw [e0d b]; exact J0g (Y08 a).2.1
  have ih := R0h p hl hs d (k + 1) fuel (O1 p g).1 (by omega) (by omega) (M0f hg)
  rw [X2.eq_2, if_pos (by simp; omega), show (g.1, g.2.1, g.2.2) = g from rfl, show (p.1, p.2) = p from rfl, h1, Option.bind_some, Z1 (show k < 1000 by omega) (by omega)]
  unfold x05
  revert h2 ih
  generalize O1 p g = q
  obtain ⟨g2, more, fine⟩ := q
  obtain ⟨a, b, c⟩ := g2
  intro h2 ih
  simp only at h2 ih ⊢
  cases fine with
  | false => rfl
  | true =>
   cases more with
   | true => exact ih
   | false =>
    simp only [Bool.not_true, Bool.not_false, Bool.false_eq_true, if_false, if_true, h2 rfl rfl, Option.bind_some]
    rfl
theorem S0h (p : D0) (hl : p.2.length ≤ 140737488355328) (hs : Q3 p.2) : ∀ (d k fuel : Nat) (g : l0), k + d = 300 → d < fuel → g.2.2.length ≤ 1000 →
  (Y2 p.1 p.2 fuel (k : Int) g.1 g.2.1 g.2.2).bind P0k = some (x05 p d g)
 | d, k, 0, g, hd, hf, hg => by omega
 | 0, k, fuel + 1, g, hd, hf, hg => by
  rw [Y2.eq_2, if_neg (by simp; omega)]; rfl
 | d + 1, k, fuel + 1, g, hd, hf, hg => by
  have h1 := c08 p g hl hs (by omega)
  have h2 : (O1 p g).2.2 = true → i8 g = some (u04 g) := fun a => K0g (Y08 a).2.1
  have ih := S0h p hl hs d (k + 1) fuel (O1 p g).1 (by omega) (by omega) (M0f hg)
  rw [Y2.eq_2, if_pos (by simp; omega), show (g.1, g.2.1, g.2.2) = g from rfl, show (p.1, p.2) = p from rfl, h1, Option.bind_some, Z1 (show k < 1000 by omega) (by omega)]
  unfold x05
  revert h2 ih
  generalize O1 p g = q
  obtain ⟨g2, more, fine⟩ := q
  obtain ⟨a, b, c⟩ := g2
  intro h2 ih
  simp only at h2 ih ⊢
  cases fine with
  | false => rfl
  | true =>
   cases more with
   | true => exact ih
   | false =>
    simp only [Bool.not_true, Bool.not_false, Bool.false_eq_true, if_false, if_true, h2 rfl, Option.bind_some]
    rfl
def l03 (p : D0) (ws : List (List Int)) : l0 × Bool := bif D4 p && P3 p.1 ws then x05 p 300 (A4 (o00 ws (p.1, 1, []))).1 else (d0d, false)
theorem f08 {r : Int} {ws : List (List Int)} (h : P3 r ws = true) : (o00 ws (r, 1, [])).2.2.length ≤ 120 ∧ (A4 (o00 ws (r, 1, []))).1.2.2.length ≤ 1000 := by
 obtain ⟨hr, hn, hw⟩ := W08 h
 have hg := F09 ws (X08 hr) hw
 refine ⟨(Y1 hg).2.2.2, ?_⟩
 have := (L4 (H0b hg)).2.2.2
 omega
theorem L0g (p : D0) (ws : List (List Int)) (hl : p.2.length ≤ 140737488355328) (hs : Q3 p.2) (hl2 : ws.length ≤ 140737488355328) (hs2 : Q3 ws) : T7 p ws = some (l03 p ws) := by
 have h1 := K8 p hl hs
 have h2 := Z0d p.1 ws hl2 hs2
 have h3 : P3 p.1 ws = true → N6 (o00 ws (p.1, 1, [])) = some (A4 (o00 ws (p.1, 1, []))) := fun h => i03 _ (by have := (f08 h).1; omega)
 have h4 : P3 p.1 ws = true → (X2 p.1 p.2 T0 ((0 : Nat) : Int) (A4 (o00 ws (p.1, 1, []))).1.1 (A4 (o00 ws (p.1, 1, []))).1.2.1 (A4 (o00 ws (p.1, 1, []))).1.2.2).bind P0k = some (x05 p 300 (A4 (o00 ws (p.1, 1, []))).1) := fun h => R0h p hl hs 300 0 T0 _ rfl (C1 (by omega)) (f08 h).2
 unfold S03 at h2
 unfold l03
 obtain ⟨pr, rels⟩ := p
 unfold T7
 simp only at h2 h3 h4 ⊢
 rw [h2, Option.bind_some]
 cases hA : P3 pr ws with
 | false =>
  rw [Bool.and_false]; rfl
 | true =>
  have h3 := h3 hA
  have h4 := h4 hA
  simp only [cond_true, Bool.not_true, Bool.not_false, O2, cond_false, h1, Option.bind_some, Bool.and_true]
  cases hP : D4 (pr, rels) with
  | false => rfl
  | true =>
   rw [if_neg (by simp)]
   revert h3 h4
   generalize o00 ws (pr, 1, []) = fl
   intro h3 h4
   obtain ⟨a, b, c⟩ := fl
   simp only [h3, Option.bind_some]
   exact h4
theorem M0g (p : D0) (ws : List (List Int)) (hl : p.2.length ≤ 140737488355328) (hs : Q3 p.2) (hl2 : ws.length ≤ 140737488355328) (hs2 : Q3 ws) : U7 p ws = some (l03 p ws) := by
 have h1 := f00 p hl hs
 have h2 := a0e p.1 ws hl2 hs2
 have h3 : P3 p.1 ws = true → O6 (o00 ws (p.1, 1, [])) = some (A4 (o00 ws (p.1, 1, []))) := fun h => j03 _ (by have := (f08 h).1; omega)
 have h4 : P3 p.1 ws = true → (Y2 p.1 p.2 T0 ((0 : Nat) : Int) (A4 (o00 ws (p.1, 1, []))).1.1 (A4 (o00 ws (p.1, 1, []))).1.2.1 (A4 (o00 ws (p.1, 1, []))).1.2.2).bind P0k = some (x05 p 300 (A4 (o00 ws (p.1, 1, []))).1) := fun h => S0h p hl hs 300 0 T0 _ rfl (C1 (by omega)) (f08 h).2
 unfold S03 at h2
 unfold l03
 obtain ⟨pr, rels⟩ := p
 unfold U7
 simp only at h2 h3 h4 ⊢
 rw [h1, Option.bind_some]
 cases hP : D4 (pr, rels) with
 | false => rfl
 | true =>
  rw [if_neg (by simp), h2, Option.bind_some]
  cases hA : P3 pr ws with
  | false => rfl
  | true =>
   have h3 := h3 hA
   have h4 := h4 hA
   simp only [cond_true, Bool.not_true, Bool.false_eq_true, if_false]
   revert h3 h4
   generalize o00 ws (pr, 1, []) = fl
   intro h3 h4
   obtain ⟨a, b, c⟩ := fl
   simp only [h3, Option.bind_some]
   exact h4
end Go.Proofs.YtfdlgbfeceodeaaGreat
namespace Go.Proofs.YtfdlgbfeceodeaaGreat
open Go.H
set_option linter.unusedVariables false
set_option linter.unusedSimpArgs false
theorem G09 (p : D0) : ∀ (d : Nat) (g : l0), x05 p d g = (d0d, false) ∨ ∃ g', S0 g' = true ∧ x05 p d g = (u04 g', true)
 | 0, g => .inl rfl
 | d + 1, g => by
  unfold x05
  cases h : (O1 p g).2.2 with
  | false => exact .inl rfl
  | true =>
   cases h2 : (O1 p g).2.1 with
   | true => exact G09 p d _
   | false => exact .inr ⟨g, (Y08 h).2.1, rfl⟩
theorem N0g (p : D0) (ws : List (List Int)) : l03 p ws = (d0d, false) ∨ ∃ g', S0 g' = true ∧ l03 p ws = (u04 g', true) := by
 unfold l03
 cases D4 p && P3 p.1 ws with
 | false => exact .inl rfl
 | true => exact G09 p 300 _
theorem Y0j (p : D0) (ws : List (List Int)) : (l03 p ws).1.2.2.length ≤ 120 := by
 rcases N0g p ws with h | ⟨g, hf, h⟩
 ·rw [h]; simp [d0d]
 ·rw [h]; exact C0i (d02 40 hf)
end Go.Proofs.YtfdlgbfeceodeaaGreat
