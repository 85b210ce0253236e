/- Texts of the claim, joined: Plain laws: what folding computes, of the spec and of the code; Plain laws: paths, vertices and edges added; the steps that are missin; Plain laws: vertices and edges added; the steps that are missing; Plain laws: the first defect; Plain laws: one step of the coset enumeration; Plain laws: trimming and the core of a folded graph; Plain laws: flowers of words, and the enumeration of cosets; Plain laws: what the enumeration yields is small; the size of a group; Plain laws: the core of a folded graph is a core; Plain laws: words reduced; Plain laws: whether a word is trivial in a group. -/
import Derived.Test.YtfdlgbfeceodeaaGreatPart23
import Derived.Test.YtfdlgbfeceodeaaGreatPart18
namespace Go.Proofs.YtfdlgbfeceodeaaGreat
open Go.H
set_option linter.unusedVariables false
set_option linter.unusedSimpArgs false
theorem b0d (l : List C0) (a0 a1 a2 : Int) (hl : l.length ≤ 1000) : ∀ (d k fuel : Nat) (acc : List C4), k + d = l.length → d < fuel → acc.length + 2 * d ≤ 4000000 →
  L4 l a1 a0 a2 fuel (k : Int) acc = some (acc ++ h01 (a0, a1, a2) (l.drop k))
 | d, k, 0, acc, hd, hf, ha => by omega
 | 0, k, fuel + 1, acc, hd, hf, ha => by
  rw [L4.eq_2, if_neg (by simp; omega), D1 (by omega)]
  simp [h01]
 | d + 1, k, fuel + 1, acc, hd, hf, ha => by
  have hk : k < l.length := by omega
  have hx := N5 hk
  generalize l[k] = b at hx
  obtain ⟨b0, b1, b2⟩ := b
  have ih : ∀ acc' : List C4, acc'.length + 2 * d ≤ 4000000 → L4 l a1 a0 a2 fuel ((k + 1 : Nat) : Int) acc' = some (acc' ++ h01 (a0, a1, a2) (l.drop (k + 1))) := fun acc' h => b0d l a0 a1 a2 hl d (k + 1) fuel acc' (by omega) (by omega) h
  rw [L4.eq_2, if_pos (by simp; omega), E3 hx, Option.bind_some, j2 hk (by omega), J1 hx]
  simp only [h01, d08]
  cases decide (a1 = b1)
  ·simp only [Bool.not_false, if_true, cond_false, List.nil_append]
   exact ih acc (by omega)
  ·cases decide (a0 = b0) <;> cases decide (a2 = b2)
   all_goals simp only [Bool.not_true, Bool.false_eq_true, if_false, if_true, cond_true, cond_false, List.nil_append, List.append_nil]
   ·exact ih acc (by omega)
   ·rw [J0 (by simp; omega), Option.bind_some, ih _ (by simp; omega)]; simp
   ·rw [J0 (by simp; omega), Option.bind_some, ih _ (by simp; omega)]; simp
   ·rw [J0 (by simp; omega), Option.bind_some, J0 (by simp; omega), Option.bind_some, ih _ (by simp; omega)]; simp
theorem c0d (l : List C0) (hl : l.length ≤ 1000) : ∀ (d k fuel : Nat) (acc : List C4), k + d = l.length → d < fuel → acc.length + 2000 * d ≤ 3000000 →
  M7 l fuel (k : Int) acc = some (acc ++ z7 (l.drop k))
 | d, k, 0, acc, hd, hf, ha => by omega
 | 0, k, fuel + 1, acc, hd, hf, ha => by
  rw [M7.eq_2, if_neg (by simp; omega), D1 (by omega)]
  simp [z7]
 | d + 1, k, fuel + 1, acc, hd, hf, ha => by
  have hk : k < l.length := by omega
  have hx := N5 hk
  generalize l[k] = b at hx
  obtain ⟨b0, b1, b2⟩ := b
  have h0 := b0d (l.drop (k + 1)) b0 b1 b2 (by simp; omega) (l.length - (k + 1)) 0 Q0 acc (by simp) (Y0 (by omega)) (by omega)
  have hr := Z08 (b0, b1, b2) (l.drop (k + 1))
  simp only [List.length_drop] at hr
  rw [M7.eq_2, if_pos (by simp; omega), E3 hx, Option.bind_some]
  simp only [j2 hk (show l.length ≤ 9223372036854775807 by omega)]
  rw [V06 (by omega), Option.bind_some, show (0 : Int) = ((0 : Nat) : Int) from rfl, h0, Option.bind_some, c0d l hl d (k + 1) fuel _ (by omega) (by omega) (by simp only [List.length_append, List.drop_zero, List.length_drop] at hr ⊢; omega), J1 hx, z7]
  simp
theorem d0d (l : List C0) (hl : l.length ≤ 1000) (i : Nat) (a0 a1 a2 : Int) (hi : l[i]? = some (a0, a1, a2)) : ∀ (d k fuel : Nat) (acc : List C4), k + d = l.length → d < fuel → acc.length + 2 * d ≤ 4000000 →
  Y3 l (i : Int) fuel (k : Int) acc = some (acc ++ h01 (a0, a1, a2) (l.drop k))
 | d, k, 0, acc, hd, hf, ha => by omega
 | 0, k, fuel + 1, acc, hd, hf, ha => by
  rw [Y3.eq_2, if_neg (by simp; omega), D1 (by omega)]
  simp [h01]
 | d + 1, k, fuel + 1, acc, hd, hf, ha => by
  have hk : k < l.length := by omega
  have hx := N5 hk
  generalize l[k] = b at hx
  obtain ⟨b0, b1, b2⟩ := b
  have ih : ∀ acc' : List C4, acc'.length + 2 * d ≤ 4000000 → Y3 l (i : Int) fuel ((k + 1 : Nat) : Int) acc' = some (acc' ++ h01 (a0, a1, a2) (l.drop (k + 1))) := fun acc' h => d0d l hl i a0 a1 a2 hi d (k + 1) fuel acc' (by omega) (by omega) h
  rw [Y3.eq_2, if_pos (by simp; omega), E3 hi, Option.bind_some]
  simp only []
  rw [E3 hx, Option.bind_some, j2 hk (by omega), J1 hx]
  simp only [h01, d08]
  cases decide (a1 = b1)
  ·simp only [Bool.false_eq_true, if_false, cond_false, List.nil_append]
   exact ih acc (by omega)
  ·cases decide (a0 = b0) <;> cases decide (a2 = b2)
   all_goals simp only [Bool.not_true, Bool.false_eq_true, if_false, if_true, cond_true, cond_false, List.nil_append, List.append_nil]
   ·exact ih acc (by omega)
   ·rw [J0 (by simp; omega), Option.bind_some, ih _ (by simp; omega)]; simp
   ·rw [J0 (by simp; omega), Option.bind_some, ih _ (by simp; omega)]; simp
   ·rw [J0 (by simp; omega), Option.bind_some, J0 (by simp; omega), Option.bind_some, ih _ (by simp; omega)]; simp
theorem e0d (l : List C0) (hl : l.length ≤ 1000) : ∀ (d k fuel : Nat) (acc : List C4), k + d = l.length → d < fuel → acc.length + 2000 * d ≤ 3000000 →
  B6 l fuel (k : Int) acc = some (acc ++ z7 (l.drop k))
 | d, k, 0, acc, hd, hf, ha => by omega
 | 0, k, fuel + 1, acc, hd, hf, ha => by
  rw [B6.eq_2, if_neg (by simp; omega), D1 (by omega)]
  simp [z7]
 | d + 1, k, fuel + 1, acc, hd, hf, ha => by
  have hk : k < l.length := by omega
  have hx := N5 hk
  generalize l[k] = b at hx
  obtain ⟨b0, b1, b2⟩ := b
  have h0 := d0d l hl k b0 b1 b2 hx (l.length - (k + 1)) (k + 1) Q0 acc (by omega) (Y0 (by omega)) (by omega)
  have hr := Z08 (b0, b1, b2) (l.drop (k + 1))
  simp only [List.length_drop] at hr
  rw [B6.eq_2, if_pos (by simp; omega), j2 hk (by omega), h0, Option.bind_some, e0d l hl d (k + 1) fuel _ (by omega) (by omega) (by simp only [List.length_append, List.length_drop] at hr ⊢; omega), J1 hx, z7]
  simp
theorem B0f (g : l0) (hl : g.2.2.length ≤ 1000) : q01 g = some (z7 g.2.2) := by
 obtain ⟨r, n, es⟩ := g
 unfold q01
 simp only
 rw [show (0 : Int) = ((0 : Nat) : Int) from rfl, c0d es hl es.length 0 Q0 [] (by omega) (Y0 (by simp only at hl; omega)) (by simp only at hl; simp; omega)]
 rfl
theorem C0f (g : l0) (hl : g.2.2.length ≤ 1000) : y00 g = some (z7 g.2.2) := by
 obtain ⟨r, n, es⟩ := g
 unfold y00
 simp only
 rw [show (0 : Int) = ((0 : Nat) : Int) from rfl, e0d es hl es.length 0 Q0 [] (by omega) (Y0 (by simp only at hl; omega)) (by simp only at hl; simp; omega)]
 rfl
def i01 (g : l0) : C4 × Bool := bif O0 g then (match z7 g.2.2 with
 | [] => ((0, 0), false)
 | f :: _ => (f, true)) else ((0, 0), false)
theorem X09 (g : l0) (hl : g.2.2.length ≤ 140737488355328) : n8 g = some (i01 g) := by
 have h1 := l9 g hl
 have h2 := B0f g
 unfold i01
 cases hg : O0 g with
 | false =>
  obtain ⟨r, n, es⟩ := g
  unfold n8
  simp only [h1, hg, Option.bind_some]; rfl
 | true =>
  have h2 := h2 (by have := (O1 hg).2.2.2; omega)
  obtain ⟨r, n, es⟩ := g
  unfold n8
  simp only [h1, hg, h2, Option.bind_some, cond_true]
  simp only at h2
  cases z7 es with
  | nil => rfl
  | cons f l =>
   rw [if_neg (by simp), if_neg (by simp; omega), u05 rfl]
   rfl
theorem Y09 (g : l0) (hl : g.2.2.length ≤ 140737488355328) : j8 g = some (i01 g) := by
 have h1 := i6 g hl
 have h2 := C0f g
 unfold i01
 cases hg : O0 g with
 | false =>
  obtain ⟨r, n, es⟩ := g
  unfold j8
  simp only [h1, hg, Option.bind_some]; rfl
 | true =>
  have h2 := h2 (by have := (O1 hg).2.2.2; omega)
  obtain ⟨r, n, es⟩ := g
  unfold j8
  simp only [h1, hg, h2, Option.bind_some, cond_true]
  simp only at h2
  cases z7 es with
  | nil => rfl
  | cons f l =>
   rw [if_neg (by simp), if_neg (by simp; omega), u05 rfl]
   rfl
theorem i0i (v : Int) (f : C4) (hv : 0 ≤ v ∧ v < 1000) (hf : 0 ≤ f.1 ∧ f.1 < f.2) : H00 v f = some (mvV f v) := by
 obtain ⟨a, b⟩ := f
 simp only at hf
 unfold H00 mvV
 simp only
 by_cases c : v = b
 ·rw [if_pos (by simp [c]), if_neg (by simp; omega), if_pos c]
 ·rw [if_neg (by simp [c]), if_neg c]
  by_cases c2 : v > b
  ·rw [if_pos (by simp [c2]), if_pos c2, w64 (by omega) (by omega)]
  ·rw [if_neg (by simp; omega), if_neg c2]
theorem D0f (v : Int) (f : C4) (hv : 0 ≤ v ∧ v < 1000) : J5 v f = some (mvV f v) := by
 obtain ⟨a, b⟩ := f
 unfold J5 mvV
 simp only
 by_cases c : v = b
 ·rw [if_pos (by simp [c]), if_pos c]
 ·rw [if_neg (by simp [c]), if_neg c]
  by_cases c2 : v > b
  ·rw [if_pos (by simp [c2]), if_pos c2, w64 (by omega) (by omega)]
  ·rw [if_neg (by simp; omega), if_neg c2]
theorem e0e {f : C4} {v : Int} (hv : 0 ≤ v ∧ v < 1000) (hf : 0 ≤ f.1 ∧ f.1 < 1000) : D0 (mvV f v) := by
 unfold mvV
 split
 ·exact ⟨by omega, by omega⟩
 ·split
  ·exact ⟨by omega, by omega⟩
  ·exact ⟨by omega, by omega⟩
theorem E0f (es : List C0) (f : C4) (r n : Int) (hl : es.length ≤ 1000) (hv : ∀ e ∈ es, (0 ≤ e.1 ∧ e.1 < 1000) ∧ (0 ≤ e.2.2 ∧ e.2.2 < 1000)) (hf : 0 ≤ f.1 ∧ f.1 < f.2) (hf2 : f.2 < 1000) : ∀ (d k fuel : Nat) (acc : List C0), k + d = es.length → d < fuel → acc.length ≤ k →
  f4 es f.1 f.2 fuel (k : Int) r n acc = some (r, n, o5 H0 acc ((es.drop k).map (mvE f)))
 | d, k, 0, acc, hd, hfu, ha => by omega
 | 0, k, fuel + 1, acc, hd, hfu, ha => by
  rw [f4.eq_2, if_neg (by simp; omega), D1 (by omega)]
  rfl
 | d + 1, k, fuel + 1, acc, hd, hfu, ha => by
  have hk : k < es.length := by omega
  have hx := N5 hk
  have hvk := hv _ (List.getElem_mem hk)
  generalize es[k] = b at hx hvk
  obtain ⟨b0, b1, b2⟩ := b
  simp only at hvk
  have hln := r02 (mvE f (b0, b1, b2)) acc
  rw [f4.eq_2, if_pos (by simp; omega), E3 hx, Option.bind_some]
  simp only []
  rw [i0i b0 (f.1, f.2) hvk.1 hf, Option.bind_some, J0 (e0e hvk.1 ⟨hf.1, by show f.1 < 1000; omega⟩), Option.bind_some, i0i b2 (f.1, f.2) hvk.2 hf, Option.bind_some, J0 (e0e hvk.2 ⟨hf.1, by show f.1 < 1000; omega⟩), Option.bind_some,
   A04 acc _ (by omega), Option.bind_some, j2 hk (by omega), J1 hx, List.map_cons]
  exact E0f es f r n hl hv hf hf2 d (k + 1) fuel _ (by omega) (by omega) (Nat.le_trans hln (by omega))
theorem F0f {g : l0} {f : C4} (hg : O0 g = true) (hf : okF g f) : C6 g f = some (n00 g f, true) := by
 obtain ⟨q1, q2, q3, q4⟩ := O1 hg
 have h1 := i6 g (by omega)
 obtain ⟨f1, f2, f3⟩ := hf
 obtain ⟨r, n, es⟩ := g
 obtain ⟨a, b⟩ := f
 simp only at f1 f2 f3 q3 q4
 have h := E0f es (a, b) r (IntKind.i64.wrap (n - 1)) (by omega) (fun e he => by
  have := q1 e he
  simp only at this
  exact ⟨⟨by omega, by omega⟩, by omega, by omega⟩) ⟨f1, f2⟩ (by simp only; omega) es.length 0 Q0 [] (by omega) (Y0 (by omega)) (Nat.le_refl _)
 unfold C6
 simp only [h1, hg, Option.bind_some]
 rw [if_neg (by simp; omega), show (0 : Int) = ((0 : Nat) : Int) from rfl, h, w64 (by omega) (by omega)]
 rfl
theorem G0f (es : List C0) (f : C4) (hl : es.length ≤ 1000) (hv : ∀ e ∈ es, (0 ≤ e.1 ∧ e.1 < 1000) ∧ (0 ≤ e.2.2 ∧ e.2.2 < 1000)) (hf : 0 ≤ f.1 ∧ f.1 < 1000) : ∀ (d k fuel : Nat), k + d = es.length → d < fuel →
  i4 es f.1 f.2 fuel (k : Int) ((es.take k).map (mvE f) ++ es.drop k) = some (es.map (mvE f))
 | d, k, 0, hd, hfu => by omega
 | 0, k, fuel + 1, hd, hfu => by
  rw [i4.eq_2, if_neg (by simp; omega), D1 (by omega), List.append_nil, List.take_of_length_le (by omega)]
 | d + 1, k, fuel + 1, hd, hfu => by
  have hk : k < es.length := by omega
  have hx := N5 hk
  have hvk := hv _ (List.getElem_mem hk)
  generalize es[k] = b at hx hvk
  have htl : ((es.take k).map (mvE f)).length = k := by simp; omega
  have hg : ((es.take k).map (mvE f) ++ es.drop k)[k]? = some b := by
   rw [List.getElem?_append_right (by omega), htl, J1 hx]; simp
  have hs : ∀ y, ((es.take k).map (mvE f) ++ es.drop k).set k y = (es.take k).map (mvE f) ++ y :: es.drop (k + 1) := fun y => by
   rw [List.set_append_right _ _ (by omega), htl, J1 hx]; simp
  obtain ⟨b0, b1, b2⟩ := b
  simp only at hvk
  have e : (es.take (k + 1)).map (mvE f) ++ es.drop (k + 1) = (es.take k).map (mvE f) ++ mvE f (b0, b1, b2) :: es.drop (k + 1) := by
   rw [Q0h hx]; simp
  have ih := G0f es f hl hv hf d (k + 1) fuel (by omega) (by omega)
  rw [e] at ih
  rw [i4.eq_2, if_pos (by simp; omega), E3 hg, Option.bind_some]
  simp only []
  rw [D0f b0 (f.1, f.2) hvk.1, Option.bind_some, J0 (e0e hvk.1 hf), Option.bind_some, D0f b2 (f.1, f.2) hvk.2, Option.bind_some, J0 (e0e hvk.2 hf), Option.bind_some]
  simp only [Option.bind_some]
  rw [show ((k : Nat) : Int).toNat = k from Int.toNat_natCast k, hs, j2 hk (by omega)]
  exact ih
theorem H0f {g : l0} {f : C4} (hg : O0 g = true) (hf : okF g f) : D6 g f = some (n00 g f, true) := by
 obtain ⟨q1, q2, q3, q4⟩ := O1 hg
 have h1 := l9 g (by omega)
 have h2 := x00 g (by omega)
 obtain ⟨f1, f2, f3⟩ := hf
 obtain ⟨r, n, es⟩ := g
 obtain ⟨a, b⟩ := f
 simp only at f1 f2 f3 q3 q4
 have h := G0f es (a, b) (by omega) (fun e he => by
  have := q1 e he
  simp only at this
  exact ⟨⟨by omega, by omega⟩, by omega, by omega⟩) ⟨f1, by simp only; omega⟩ es.length 0 Q0 (by omega) (Y0 (by omega))
 simp only [List.take_zero, List.map_nil, List.nil_append, List.drop_zero] at h
 unfold D6
 simp only [h1, h2, hg, Option.bind_some]
 rw [if_neg (by simp; omega), show (0 : Int) = ((0 : Nat) : Int) from rfl, h, Option.bind_some, Y07 _ (by simp; omega), Option.bind_some, w64 (by omega) (by omega)]
 rfl
def A00 (g : l0) : l0 × C4 × Bool := bif O0 g then (match z7 g.2.2 with
 | [] => (g, (0, 0), false)
 | f :: _ => (n00 g f, f, true)) else (g, (0, 0), false)
theorem C05 (g : l0) (hl : g.2.2.length ≤ 1099511627776) : S9 g = some (A00 g) := by
 have h1 := Y09 g (by omega)
 have h2 := b01 g hl
 have h3 : ∀ f, O0 g = true → okF g f → C6 g f = some (n00 g f, true) := fun f a b => F0f a b
 have h4 : O0 g = true → ∀ f ∈ z7 g.2.2, okF g f := P02
 unfold i01 at h1
 unfold A00
 obtain ⟨r, n, es⟩ := g
 unfold S9
 simp only [h1, Option.bind_some]
 cases hg : O0 (r, n, es) with
 | false => simp only [cond_false, Bool.not_false, if_true, h2, Option.bind_some]
 | true =>
  simp only [cond_true]
  simp only at h4
  cases e : z7 es with
  | nil => simp only [Bool.not_false, if_true, h2, Option.bind_some]
  | cons f l =>
   simp only [Bool.not_true, Bool.false_eq_true, if_false, h3 f hg (h4 hg f (by rw [e]; exact List.mem_cons_self ..)), Option.bind_some]
theorem D05 (g : l0) (hl : g.2.2.length ≤ 1099511627776) : W9 g = some (A00 g) := by
 have h1 := X09 g (by omega)
 have h2 := x00 g hl
 have h3 : ∀ f, O0 g = true → okF g f → D6 g f = some (n00 g f, true) := fun f a b => H0f a b
 have h4 : O0 g = true → ∀ f ∈ z7 g.2.2, okF g f := P02
 unfold i01 at h1
 unfold A00
 obtain ⟨r, n, es⟩ := g
 unfold W9
 simp only [h1, Option.bind_some]
 cases hg : O0 (r, n, es) with
 | false => simp only [cond_false, Bool.not_false, if_true, h2, Option.bind_some]
 | true =>
  simp only [cond_true]
  simp only at h4
  cases e : z7 es with
  | nil => simp only [Bool.not_false, if_true, h2, Option.bind_some]
  | cons f l =>
   simp only [Bool.not_true, Bool.false_eq_true, if_false, h3 f hg (h4 hg f (by rw [e]; exact List.mem_cons_self ..)), Option.bind_some]
def h0m : (l0 × I7) ⊕ (Int × Int × M0 × (List C4)) → Option (l0 × I7) := fun X => V6 X (fun S => match S with
 | (a, b, c, e) => some ((a, b, c), e))
theorem J0b : ∀ (d k fuel : Nat) (g : l0) (acc : List C4), k + d = 40 → d < fuel → O0 g = true → acc.length = k →
  (I5 fuel (k : Int) g.1 g.2.1 g.2.2 acc).bind h0m = some ((o00 d g).1, acc ++ (o00 d g).2)
 | d, k, 0, g, acc, hd, hf, hg, ha => by omega
 | 0, k, fuel + 1, g, acc, hd, hf, hg, ha => by
  rw [I5.eq_2, if_neg (by simp; omega)]
  simp [h0m, V6, o00]
 | d + 1, k, fuel + 1, g, acc, hd, hf, hg, ha => by
  have h1 := C05 g (by have := (O1 hg).2.2.2; omega)
  have h4 := P02 hg
  unfold A00 at h1
  rw [hg] at h1
  simp only [cond_true] at h1
  rw [I5.eq_2, if_pos (by simp; omega), show (g.1, g.2.1, g.2.2) = g from rfl, h1]
  unfold o00
  cases e : z7 g.2.2 with
  | nil => simp [h0m, V6]
  | cons f l =>
   have ih := J0b d (k + 1) fuel (n00 g f) (acc ++ [f]) (by omega) (by omega) (m03 hg (h4 f (by rw [e]; exact List.mem_cons_self ..))) (by simp [ha])
   simp only [Option.bind_some, Bool.not_true, Bool.false_eq_true, if_false]
   rw [J0 (by simp; omega), Option.bind_some, j2 (show k < 1000 by omega) (by omega)]
   refine ih.trans ?_
   simp
theorem v03 (g : l0) (hl : g.2.2.length ≤ 1099511627776) : M6 g = some (l4 g) := by
 have h1 := C05 g hl
 have h2 := b01 g hl
 have h3 := J0b 40 0 Q0 g [] rfl (Y0 (by omega))
 unfold l4
 obtain ⟨r, n, es⟩ := g
 unfold M6
 simp only [h2, Option.bind_some]
 cases hg : O0 (r, n, es) with
 | false =>
  unfold A00 at h1
  rw [hg] at h1
  simp only [cond_false] at h1
  rw [show Q0 = (Q0 - 1) + 1 from rfl, I5.eq_2, if_pos (by simp), h1]
  rfl
 | true => exact h3 hg rfl
theorem K0b : ∀ (d fuel : Nat) (g : l0) (acc : List C4), d < fuel → O0 g = true → z7 (o00 d g).1.2.2 = [] → acc.length + d ≤ 1000 →
  E6 fuel g.1 g.2.1 g.2.2 acc = some (.inl ((o00 d g).1, acc ++ (o00 d g).2))
 | d, 0, g, acc, hf, hg, hn, ha => by omega
 | d, fuel + 1, g, acc, hf, hg, hn, ha => by
  have h1 := D05 g (by have := (O1 hg).2.2.2; omega)
  have h4 := P02 hg
  unfold A00 at h1
  rw [hg] at h1
  simp only [cond_true] at h1
  rw [E6.eq_2, show (g.1, g.2.1, g.2.2) = g from rfl, h1]
  cases e : z7 g.2.2 with
  | nil =>
   have e2 : o00 d g = (g, []) := by
    cases d with
    | zero => rfl
    | succ d => unfold o00; rw [e]
   rw [e2]
   simp
  | cons f l =>
   cases d with
   | zero => exact absurd e (by rw [show z7 g.2.2 = [] from hn]; simp)
   | succ d =>
    have e2 : o00 (d + 1) g = ((o00 d (n00 g f)).1, f :: (o00 d (n00 g f)).2) := by
     show (match z7 g.2.2 with | [] => (g, []) | f :: _ => ((o00 d (n00 g f)).1, f :: (o00 d (n00 g f)).2)) = _
     rw [e]
    rw [e2] at hn ⊢
    have ih := K0b d fuel (n00 g f) (acc ++ [f]) (by omega) (m03 hg (h4 f (by rw [e]; exact List.mem_cons_self ..))) hn (by simp; omega)
    simp only [Option.bind_some, Bool.not_true, Bool.false_eq_true, if_false]
    rw [J0 (by simp; omega), Option.bind_some]
    refine ih.trans ?_
    simp
theorem w03 (g : l0) (hl : g.2.2.length ≤ 1099511627776) : N6 g = some (l4 g) := by
 have h1 := D05 g hl
 have h2 := x00 g hl
 have h3 := K0b 40 Q0 g [] (Y0 (by omega))
 have h5 : O0 g = true → z7 (o00 40 g).1.2.2 = [] := fun hg => W06 40 hg (by have := (O1 hg).2.2.1; omega)
 unfold l4
 obtain ⟨r, n, es⟩ := g
 unfold N6
 simp only [h2, Option.bind_some]
 cases hg : O0 (r, n, es) with
 | false =>
  unfold A00 at h1
  rw [hg] at h1
  simp only [cond_false] at h1
  rw [show Q0 = (Q0 - 1) + 1 from rfl, E6.eq_2, h1]
  rfl
 | true =>
  have h := h3 hg (h5 hg) (by simp)
  simp only at h
  rw [h]
  rfl
end Go.Proofs.YtfdlgbfeceodeaaGreat
namespace Go.Proofs.YtfdlgbfeceodeaaGreat
open Go.H
set_option linter.unusedVariables false
set_option linter.unusedSimpArgs false
theorem c04 {g : l0} (h : O0 g = true) : Asc H0 g.2.2 := ((d00 g).1 h).2.2.2.2
def stp (u x v : Int) : C0 := if x < 0 then (v, -x, u) else (u, x, v)
def T00 (v : Int) : List Int → Int → Int → List C0
 | [], _, _ => []
 | [x], u, _ => [stp u x v]
 | x :: y :: r, u, n => stp u x n :: T00 v (y :: r) n (n + 1)
theorem c06 (v : Int) : ∀ (w : List Int) (u n : Int), (T00 v w u n).length = w.length
 | [], _, _ => rfl
 | [x], _, _ => rfl
 | x :: y :: r, u, n => by simp only [T00, List.length_cons, c06 v (y :: r)]
theorem W0g (u x v : Int) (hx : K7 x) : z00 u x v = some (stp u x v) := by
 unfold z00 stp
 by_cases c : x < 0
 ·rw [if_pos (by simp [c]), if_pos c, l0f hx.1 hx.2]
 ·rw [if_neg (by simp; omega), if_neg c]
theorem f0e (w : List Int) (v : Int) (r : Int) (hw : ∀ x ∈ w, K7 x) (hl : w.length ≤ 1000) : ∀ (d k fuel : Nat) (u n : Int) (es : List C0), k + d = w.length → d < fuel → 0 ≤ n → n ≤ 1000 + k → es.length ≤ 1000 + k →
  K5 w v fuel u (k : Int) r n es = some (r, n + ((d - 1 : Nat) : Int), es ++ T00 v (w.drop k) u n)
 | d, k, 0, u, n, es, hd, hf, h0, h1, h2 => by omega
 | 0, k, fuel + 1, u, n, es, hd, hf, h0, h1, h2 => by
  rw [K5.eq_2, if_neg (by simp; omega), D1 (by omega)]
  simp [T00]
 | d + 1, k, fuel + 1, u, n, es, hd, hf, h0, h1, h2 => by
  have hk : k < w.length := by omega
  have hx := N5 hk
  have hm := hw _ (List.getElem_mem hk)
  generalize w[k] = x at hx hm
  rw [K5.eq_2, if_pos (by simp; omega), E3 hx, Option.bind_some, L09 (by omega) (by omega), J1 hx]
  by_cases c : k + 1 < w.length
  ·rw [if_pos (by simp; omega), W0g u x n hm, Option.bind_some]
   have hy := N5 c
   generalize w[k + 1] = y at hy
   have ih := f0e w v r hw hl d (k + 1) fuel n (n + 1) (es ++ [stp u x n]) (by omega) (by omega) (by omega) (by omega) (by simp; omega)
   simp only []
   rw [J0 (by simp; omega), Option.bind_some, j2 hk (by omega), w64 (show (-9223372036854775808 : Int) ≤ n + 1 by omega) (by omega)]
   refine ih.trans ?_
   rw [J1 hy]
   simp only [T00, List.append_assoc, List.singleton_append]
   congr 3
   omega
  ·have hd0 : d = 0 := by omega
   subst hd0
   rw [if_neg (by simp; omega), W0g u x v hm, Option.bind_some]
   have ih := f0e w v r hw hl 0 (k + 1) fuel v n (es ++ [stp u x v]) (by omega) (by omega) h0 (by omega) (by simp; omega)
   simp only []
   rw [J0 (by simp; omega), Option.bind_some, j2 hk (by omega)]
   refine ih.trans ?_
   rw [D1 (show k + 1 = w.length by omega)]
   simp [T00]
theorem g0e (w : List Int) (v : Int) (r : Int) (hw : ∀ x ∈ w, K7 x ∧ x ≠ 0) (hl : w.length ≤ 1000) : ∀ (d k fuel : Nat) (u n : Int) (es : List C0), k + d = w.length → d < fuel → 0 ≤ n → n ≤ 1000 + k → es.length ≤ 1000 + k →
  K4 w v fuel u (k : Int) r n es = some (r, n + ((d - 1 : Nat) : Int), o5 H0 es (T00 v (w.drop k) u n))
 | d, k, 0, u, n, es, hd, hf, h0, h1, h2 => by omega
 | 0, k, fuel + 1, u, n, es, hd, hf, h0, h1, h2 => by
  rw [K4.eq_2, if_neg (by simp; omega), D1 (by omega)]
  simp [T00, o5]
 | d + 1, k, fuel + 1, u, n, es, hd, hf, h0, h1, h2 => by
  have hk : k < w.length := by omega
  have hx := N5 hk
  have hm := hw _ (List.getElem_mem hk)
  generalize w[k] = x at hx hm
  have hput : ∀ e, (g9 H0 e es).length ≤ 1000 + (k + 1) := fun e => by have := r02 e es; omega
  rw [K4.eq_2, if_pos (by simp; omega), J1 hx]
  by_cases c : k + 1 < w.length
  ·have hy := N5 c
   generalize w[k + 1] = y at hy
   have ih := g0e w v r hw hl d (k + 1) fuel n (n + 1) (g9 H0 (stp u x n) es) (by omega) (by omega) (by omega) (by omega) (hput _)
   rw [J1 hy] at ih
   rw [j2 hk (by omega), if_pos (by simp; omega), E3 hx, Option.bind_some, w64 (show (-9223372036854775808 : Int) ≤ n + 1 by omega) (by omega), J1 hy]
   have fin : some (r, n + 1 + ((d - 1 : Nat) : Int), o5 H0 (g9 H0 (stp u x n) es) (T00 v (y :: w.drop (k + 1 + 1)) n (n + 1))) = some (r, n + ((d + 1 - 1 : Nat) : Int), o5 H0 es (T00 v (x :: y :: w.drop (k + 1 + 1)) u n)) := by
    simp only [T00, o5]
    congr 3
    omega
   by_cases c2 : x > 0
   ·have e : stp u x n = (u, x, n) := by unfold stp; rw [if_neg (by omega)]
    rw [if_pos (by simp [c2])]
    simp only [Option.bind_some]
    rw [A04 es _ (by omega), Option.bind_some, ← e]
    exact ih.trans fin
   ·have e : stp u x n = (n, -x, u) := by unfold stp; rw [if_pos (by omega)]
    rw [if_neg (by simp; omega)]
    simp only [Option.bind_some]
    rw [l0f hm.1.1 hm.1.2, A04 es _ (by omega), Option.bind_some, ← e]
    exact ih.trans fin
  ·have hd0 : d = 0 := by omega
   subst hd0
   have ih := g0e w v r hw hl 0 (k + 1) fuel v n (g9 H0 (stp u x v) es) (by omega) (by omega) h0 (by omega) (hput _)
   rw [D1 (show k + 1 = w.length by omega)] at ih ⊢
   rw [j2 hk (by omega), if_neg (by simp; omega), E3 hx, Option.bind_some]
   have fin : some (r, n + ((0 - 1 : Nat) : Int), o5 H0 (g9 H0 (stp u x v) es) (T00 v [] v n)) = some (r, n + ((0 + 1 - 1 : Nat) : Int), o5 H0 es (T00 v [x] u n)) := by
    simp [T00, o5]
   by_cases c2 : x > 0
   ·have e : stp u x v = (u, x, v) := by unfold stp; rw [if_neg (by omega)]
    rw [if_pos (by simp [c2])]
    simp only [Option.bind_some]
    rw [A04 es _ (by omega), Option.bind_some, ← e]
    exact ih.trans fin
   ·have e : stp u x v = (v, -x, u) := by unfold stp; rw [if_pos (by omega)]
    rw [if_neg (by simp; omega)]
    simp only [Option.bind_some]
    rw [l0f hm.1.1 hm.1.2, A04 es _ (by omega), Option.bind_some, ← e]
    exact ih.trans fin
theorem L0b {es p : List C0} (hA : Asc H0 es) : o5 H0 [] (es ++ p) = o5 H0 es p :=
 v04 O4 (Z00 O4 _ _ .nil) (Z00 O4 _ _ hA) fun x => by
  rw [T7 O4, T7 O4]; simp
def U2 (g : l0) (u : Int) (w : List Int) (v : Int) : l0 × Bool :=
 bif !w.isEmpty && decide (g.2.1 + (w.length : Int) - 1 ≤ 40) && decide (g.2.2.length + w.length ≤ 120) then ((g.1, g.2.1 + ((w.length - 1 : Nat) : Int), o5 H0 g.2.2 (T00 v w u g.2.1)), true) else (g, false)
theorem e08 {r : Int} {w : List Int} (h : Y2 r w = true) : w.length ≤ 24 ∧ ∀ x ∈ w, K7 x ∧ x ≠ 0 ∧ -r ≤ x ∧ x ≤ r := by
 have h1 := h
 simp only [Y2, Bool.and_eq_true, decide_eq_true_eq] at h1
 refine ⟨h1.1.2, fun x hx => ?_⟩
 obtain ⟨i, hi⟩ := List.getElem?_of_mem hx
 have := j03 h hi
 exact ⟨⟨⟨by omega, by omega⟩, by omega⟩, this.2.2⟩
theorem z06 {g : l0} {u v : Int} {w : List Int} (hg : O0 g = true) (hu : 0 ≤ u ∧ u < g.2.1) (hv : 0 ≤ v ∧ v < g.2.1) (hw : Y2 g.1 w = true) : F8 g u w v = some (U2 g u w v) := by
 obtain ⟨q1, q2, q3, q4⟩ := O1 hg
 obtain ⟨wl, wx⟩ := e08 hw
 have h1 := i6 g (by omega)
 have h2 := b01 g (by omega)
 have h3 := w04 g.1 w (by omega)
 obtain ⟨r, n, es⟩ := g
 simp only at q3 q4 hu hv h3
 have hwp : IntKind.i64.wrap (n - 1) = n - 1 := w64 (by omega) (by omega)
 have hin : ∀ x : Int, 0 ≤ x ∧ x < n → inR 0 (n - 1) x = true := fun x hx => by simp [inR]; omega
 have h := g0e w v r (fun x hx => ⟨(wx x hx).1, (wx x hx).2.1⟩) (by omega) w.length 0 Q0 u n es (by omega) (Y0 (by omega)) (by omega) (by omega) (by omega)
 unfold F8 U2
 simp only [h1, h2, hg, Option.bind_some, Bool.not_true, Bool.not_false, T1, cond_false, hwp, f02, hin u hu, hin v hv, h3, hw]
 rw [w64 (show (-9223372036854775808 : Int) ≤ n + ((w.length : Nat) : Int) by omega) (by omega), w64 (show (-9223372036854775808 : Int) ≤ n + ((w.length : Nat) : Int) - 1 by omega) (by omega), w64 (show (-9223372036854775808 : Int) ≤ ((es.length : Nat) : Int) + ((w.length : Nat) : Int) by omega) (by omega)]
 by_cases c : (w ≠ [] ∧ n + (w.length : Int) - 1 ≤ 40) ∧ es.length + w.length ≤ 120
 ·have hne : w.length ≠ 0 := by simpa using c.1.1
  rw [if_neg (by simp only [Bool.not_eq_true]; simp [c.1.1]; omega), show (0 : Int) = ((0 : Nat) : Int) from rfl, h, Option.bind_some]
  rw [show (!w.isEmpty && decide (n + (w.length : Int) - 1 ≤ 40) && decide (es.length + w.length ≤ 120)) = true by simp [c.1.1, c.1.2, c.2]]
  rfl
 ·rw [show (!w.isEmpty && decide (n + (w.length : Int) - 1 ≤ 40) && decide (es.length + w.length ≤ 120)) = false by
   rw [← Bool.not_eq_true]; simpa using c]
  rw [if_pos ?_]
  ·rfl
  ·by_cases d1 : w = []
   ·simp [d1]
   ·by_cases d2 : n + (w.length : Int) - 1 ≤ 40
    ·have d3 : ¬ es.length + w.length ≤ 120 := fun h => c ⟨⟨d1, d2⟩, h⟩
     have : decide (((es.length : Nat) : Int) + ((w.length : Nat) : Int) > 120) = true := by simp; omega
     rw [this]; simp
    ·have : decide (n + ((w.length : Nat) : Int) - 1 > 40) = true := by simp; omega
     rw [this]; simp
theorem F0l {g : l0} (hg : O0 g = true) {u : Int} (hu : 0 ≤ u ∧ u < g.2.1) : G5 g u = some true := by
 obtain ⟨q1, q2, q3, q4⟩ := O1 hg
 obtain ⟨r, n, es⟩ := g
 simp only at q3 hu
 unfold G5
 simp only [Y01]
 rw [w64 (by omega) (by omega)]
 simp [inR]; omega
theorem A06 {g : l0} {u v : Int} {w : List Int} (hg : O0 g = true) (hu : 0 ≤ u ∧ u < g.2.1) (hv : 0 ≤ v ∧ v < g.2.1) (hw : Y2 g.1 w = true) : H8 g u w v = some (U2 g u w v) := by
 obtain ⟨q1, q2, q3, q4⟩ := O1 hg
 obtain ⟨wl, wx⟩ := e08 hw
 have h1 := l9 g (by omega)
 have h2 := x00 g (by omega)
 have h3 := x04 g.1 w (by omega)
 have h4 := F0l hg hu
 have h5 := F0l hg hv
 have hA := c04 hg
 obtain ⟨r, n, es⟩ := g
 simp only at q3 q4 hu hv h3 hA
 have h := f0e w v r (fun x hx => (wx x hx).1) (by omega) w.length 0 Q0 u n es (by omega) (Y0 (by omega)) (by omega) (by omega) (by omega)
 have hpl := c06 v w u n
 unfold H8 U2
 simp only [h1, h2, hg, Option.bind_some, Bool.not_true, Bool.not_false, T1, cond_false, h4, h5]
 rw [w64 (show (-9223372036854775808 : Int) ≤ n + ((w.length : Nat) : Int) by omega) (by omega), w64 (show (-9223372036854775808 : Int) ≤ n + ((w.length : Nat) : Int) - 1 by omega) (by omega), w64 (show (-9223372036854775808 : Int) ≤ ((es.length : Nat) : Int) + ((w.length : Nat) : Int) by omega) (by omega)]
 by_cases d1 : w = []
 ·subst d1
  simp [chk]
 rw [show decide (((w.length : Nat) : Int) = 0) = false by simp [d1], show (!false) = true from rfl, T1, h3, Option.bind_some, hw]
 by_cases c : n + (w.length : Int) - 1 ≤ 40 ∧ es.length + w.length ≤ 120
 ·rw [if_neg (by simp only [Bool.not_eq_true]; simp; omega), show (0 : Int) = ((0 : Nat) : Int) from rfl, h, Option.bind_some]
  rw [show (!w.isEmpty && decide (n + (w.length : Int) - 1 ≤ 40) && decide (es.length + w.length ≤ 120)) = true by simp [d1, c.1, c.2]]
  simp only [List.drop_zero, cond_true]
  rw [Y07 _ (by simp; omega), L0b hA]
  rfl
 ·rw [show (!w.isEmpty && decide (n + (w.length : Int) - 1 ≤ 40) && decide (es.length + w.length ≤ 120)) = false by
   rw [← Bool.not_eq_true]; simp only [Bool.and_eq_true, decide_eq_true_eq, Bool.not_eq_true']; omega]
  rw [if_pos ?_]
  ·rfl
  ·by_cases d2 : n + (w.length : Int) - 1 ≤ 40
   ·have d3 : ¬ es.length + w.length ≤ 120 := fun h => c ⟨d2, h⟩
    have : decide (((es.length : Nat) : Int) + ((w.length : Nat) : Int) > 120) = true := by simp; omega
    rw [this]; simp
   ·have : decide (n + ((w.length : Nat) : Int) - 1 > 40) = true := by simp; omega
    rw [this]; simp
end Go.Proofs.YtfdlgbfeceodeaaGreat
namespace Go.Proofs.YtfdlgbfeceodeaaGreat
open Go.H
set_option linter.unusedVariables false
set_option linter.unusedSimpArgs false
def P1 (g : l0) : l0 × Bool := bif decide (g.2.1 < 40) then ((g.1, g.2.1 + 1, g.2.2), true) else (g, false)
theorem Z09 {g : l0} (hg : O0 g = true) : l8 g = some (P1 g) := by
 obtain ⟨q1, q2, q3, q4⟩ := O1 hg
 have h1 := i6 g (by omega)
 have h2 := b01 g (by omega)
 obtain ⟨r, n, es⟩ := g
 simp only at q3
 unfold l8 P1
 simp only [h1, h2, hg, Option.bind_some, Bool.not_true, cond_false]
 by_cases c : n < 40
 ·rw [if_neg (by simp; omega), w64 (by omega) (by omega)]; simp [c]
 ·rw [if_pos (by simp; omega)]; simp [c]
theorem a0a {g : l0} (hg : O0 g = true) : o8 g = some (P1 g) := by
 obtain ⟨q1, q2, q3, q4⟩ := O1 hg
 have h1 := l9 g (by omega)
 have h2 := x00 g (by omega)
 obtain ⟨r, n, es⟩ := g
 simp only at q3
 unfold o8 P1
 simp only [h1, h2, hg, Option.bind_some, Bool.not_true, cond_false]
 by_cases c : n < 40
 ·rw [if_neg (by simp; omega), w64 (by omega) (by omega)]; simp [c]
 ·rw [if_pos (by simp; omega)]; simp [c]
theorem K04 {g : l0} (hg : O0 g = true) : O0 (P1 g).1 = true := by
 unfold P1
 by_cases c : g.2.1 < 40
 ·simp only [c, decide_true, cond_true]
  obtain ⟨q1, q2, q3, q4, q5⟩ := (d00 g).1 hg
  refine (d00 _).2 ⟨fun e he => ?_, q2, ?_, q4, q5⟩
  ·have := q1 e he
   simp only
   omega
  ·simp only; omega
 ·simp only [c, decide_false, cond_false]; exact hg
theorem n0l {es : List C0} {e : C0} (hA : Asc H0 es) (he : e ∈ es) : g9 H0 e es = es :=
 v04 O4 (n0b O4 _ _ hA) hA fun x => by
  rw [U03 O4]
  constructor
  ·rintro (rfl | h)
   ·exact he
   ·exact h
  ·exact .inr
theorem I0f (e : C0) : ∀ {es : List C0}, e ∉ es → (g9 H0 e es).length = es.length + 1
 | [], _ => rfl
 | y :: l, h => by
  have ih := I0f e (es := l) fun hm => h (List.mem_cons_of_mem _ hm)
  unfold g9
  split
  ·rfl
  ·split
   ·rename_i c
    exact absurd (O4.eq _ _ c) fun hh => h (by rw [hh]; exact List.mem_cons_self ..)
   ·simp only [List.length_cons, ih]
def R7 (g : l0) (e : C0) : l0 × Bool := bif decide (g.2.2.length < 120) && !decide (e ∈ g.2.2) then ((g.1, g.2.1, g9 H0 e g.2.2), true) else (g, false)
def b0j (g : l0) (e : C0) : Prop := (0 ≤ e.1 ∧ e.1 < g.2.1) ∧ (0 ≤ e.2.2 ∧ e.2.2 < g.2.1) ∧ 1 ≤ e.2.1 ∧ e.2.1 ≤ g.1
theorem A0k {g : l0} (hg : O0 g = true) {e : C0} (he : b0j g e) : g02 g.1 (IntKind.i64.wrap (g.2.1 - 1)) e = true := by
 obtain ⟨q1, q2, q3, q4⟩ := O1 hg
 rw [w64 (by omega) (by omega)]
 unfold b0j at he
 simp only [g02, inR, Bool.and_eq_true, decide_eq_true_eq]
 omega
theorem l0c {g : l0} {e : C0} (hg : O0 g = true) (he : b0j g e) : G8 g e = some (R7 g e) := by
 obtain ⟨q1, q2, q3, q4⟩ := O1 hg
 have h1 := i6 g (by omega)
 have h2 := b01 g (by omega)
 have h3 := n0f g e
 rw [A0k hg he] at h3
 have h4 := A04 g.2.2 e (by omega)
 have hA := c04 hg
 obtain ⟨r, n, es⟩ := g
 obtain ⟨e0, e1, e2⟩ := e
 simp only at q4 hA h4
 unfold G8 R7
 simp only [h1, h2, hg, Option.bind_some, Bool.not_true, Bool.not_false, cond_false, T1, h3]
 by_cases c : es.length < 120
 ·rw [if_neg (by simp; omega), h4, Option.bind_some]
  by_cases d : (e0, e1, e2) ∈ es
  ·rw [n0l hA d]
   simp [c, d]
  ·have := I0f (e0, e1, e2) d
   simp only [this, c, d, decide_true, decide_false, Bool.not_false, Bool.and_true, cond_true]
   simp
   omega
 ·rw [if_pos (by simp; omega)]
  simp [c]
theorem j0i (es : List C0) (e : C0) (hl : es.length ≤ 140737488355328) : ∀ (d k fuel : Nat), k + d = es.length → d < fuel →
  ∃ X, E1 es e.1 e.2.1 e.2.2 fuel (k : Int) = some X ∧ ((∃ i : Nat, X = .inl (i : Int) ∧ i < es.length ∧ e ∈ es.drop k) ∨ (X = .inr () ∧ e ∉ es.drop k))
 | d, k, 0, hd, hf => by omega
 | 0, k, fuel + 1, hd, hf => by
  rw [E1.eq_2, if_neg (by simp; omega), D1 (by omega)]
  exact ⟨_, rfl, .inr ⟨rfl, by simp⟩⟩
 | d + 1, k, fuel + 1, hd, hf => by
  have hk : k < es.length := by omega
  have hx := N5 hk
  generalize es[k] = b at hx
  rw [E1.eq_2, if_pos (by simp; omega), E3 hx, Option.bind_some, J1 hx]
  simp only []
  by_cases c : eqE e b = true
  ·rw [if_pos c]
   refine ⟨_, rfl, .inl ⟨k, rfl, hk, ?_⟩⟩
   rw [(v0a _ _).1 c]
   exact List.mem_cons_self ..
  ·rw [if_neg c, j2 hk (by omega)]
   obtain ⟨X, h1, h2⟩ := j0i es e hl d (k + 1) fuel (by omega) (by omega)
   refine ⟨X, h1, ?_⟩
   have hne : e ≠ b := fun h => c ((v0a _ _).2 h)
   rcases h2 with ⟨i, q1, q2, q3⟩ | ⟨q1, q2⟩
   ·exact .inl ⟨i, q1, q2, List.mem_cons_of_mem _ q3⟩
   ·refine .inr ⟨q1, fun h => ?_⟩
    rcases List.mem_cons.1 h with h | h
    ·exact hne h
    ·exact q2 h
theorem X0g (es : List C0) (e : C0) (hl : es.length ≤ 140737488355328) : N2 es e = some (decide (e ∈ es)) := by
 obtain ⟨X, h1, h2⟩ := j0i es e hl es.length 0 Q0 (by omega) (Y0 hl)
 obtain ⟨e0, e1, e2⟩ := e
 unfold N2 w4
 simp only
 simp only [List.drop_zero] at h2
 rw [show (0 : Int) = ((0 : Nat) : Int) from rfl, h1]
 rcases h2 with ⟨i, rfl, q2, q3⟩ | ⟨rfl, q2⟩
 ·simp only [Option.bind_some, Z2]
  rw [J0 (show D0 ((i : Nat) : Int) from ⟨by omega, by omega⟩)]
  simp [q3]
 ·simp only [Option.bind_some, T0]
  rw [J0 (show D0 (-1) from ⟨by omega, by omega⟩)]
  simp [q2]
theorem m0c {g : l0} {e : C0} (hg : O0 g = true) (he : b0j g e) : A9 g e = some (R7 g e) := by
 obtain ⟨q1, q2, q3, q4⟩ := O1 hg
 have h1 := l9 g (by omega)
 have h2 := x00 g (by omega)
 have h3 := J04 g e
 rw [A0k hg he] at h3
 have h4 := X0g g.2.2 e (by omega)
 have hA := c04 hg
 obtain ⟨r, n, es⟩ := g
 obtain ⟨e0, e1, e2⟩ := e
 simp only at q4 hA h4
 unfold A9 R7
 simp only [h1, h2, hg, Option.bind_some, Bool.not_true, Bool.not_false, cond_false, T1, h3, h4]
 by_cases d : (e0, e1, e2) ∈ es
 ·simp [d]
 ·by_cases c : es.length < 120
  ·rw [if_neg (by simp [d]; omega), J0 (by simp; omega), Option.bind_some, Y07 _ (by simp; omega), L0b hA]
   simp [c, d, o5]
  ·have : es.length = 120 := by omega
   rw [if_pos (by simp [this])]
   simp [c]
def Q02 (g : l0) (v : Int) : List Int → List C0
 | [] => []
 | x :: r => (bif decide (G2 g v x < 0) then [(v, x, -1)] else []) ++ Q02 g v r
def B06 (g : l0) : Nat → Nat → List C0
 | 0, _ => []
 | d + 1, v => Q02 g (v : Int) (o9 g.1.toNat 1) ++ B06 g d (v + 1)
theorem b09 (g : l0) (v : Int) : ∀ l, (Q02 g v l).length ≤ l.length
 | [] => Nat.le_refl _
 | x :: r => by
  have := b09 g v r
  simp only [Q02, List.length_append, List.length_cons]
  cases decide (G2 g v x < 0) <;> simp <;> omega
theorem J0f (g : l0) (hg : O0 g = true) (v : Int) (ls : List Int) (hls : ∀ x ∈ ls, K7 x) (hl : ls.length ≤ 1000) : ∀ (d k fuel : Nat) (acc : List C0), k + d = ls.length → d < fuel → acc.length + d ≤ 100000 →
  n3 ls g.1 g.2.1 g.2.2 v fuel (k : Int) acc = some (acc ++ Q02 g v (ls.drop k))
 | d, k, 0, acc, hd, hf, ha => by omega
 | 0, k, fuel + 1, acc, hd, hf, ha => by
  rw [n3.eq_2, if_neg (by simp; omega), D1 (by omega)]
  simp [Q02]
 | d + 1, k, fuel + 1, acc, hd, hf, ha => by
  obtain ⟨q1, q2, q3, q4⟩ := O1 hg
  have hk : k < ls.length := by omega
  have hx := N5 hk
  have hm := hls _ (List.getElem_mem hk)
  generalize ls[k] = x at hx hm
  have ih : ∀ acc' : List C0, acc'.length + d ≤ 100000 → n3 ls g.1 g.2.1 g.2.2 v fuel ((k + 1 : Nat) : Int) acc' = some (acc' ++ Q02 g v (ls.drop (k + 1))) := fun acc' h => J0f g hg v ls hls hl d (k + 1) fuel acc' (by omega) (by omega) h
  rw [n3.eq_2, if_pos (by simp; omega), E3 hx, Option.bind_some, show (g.1, g.2.1, g.2.2) = g from rfl, T06 g v x hm (by omega), Option.bind_some, J0 (z04 q1 q3.2 v x), Option.bind_some, j2 hk (by omega), J1 hx, Q02]
  cases decide (G2 g v x < 0) with
  | true =>
   rw [if_pos rfl, Option.bind_some, J0 (by simp; omega), Option.bind_some, ih _ (by simp; omega)]
   simp
  | false =>
   rw [if_neg (by simp), ih _ (by omega)]
   simp
theorem K0f (g : l0) (hg : O0 g = true) (v : Int) (ls : List Int) (hls : ∀ x ∈ ls, K7 x) (hl : ls.length ≤ 1000) : ∀ (d k fuel : Nat) (acc : List C0), k + d = ls.length → d < fuel → acc.length + d ≤ 100000 →
  A3 ls g.1 g.2.1 g.2.2 v fuel (k : Int) acc = some (acc ++ Q02 g v (ls.drop k))
 | d, k, 0, acc, hd, hf, ha => by omega
 | 0, k, fuel + 1, acc, hd, hf, ha => by
  rw [A3.eq_2, if_neg (by simp; omega), D1 (by omega)]
  simp [Q02]
 | d + 1, k, fuel + 1, acc, hd, hf, ha => by
  obtain ⟨q1, q2, q3, q4⟩ := O1 hg
  have hk : k < ls.length := by omega
  have hx := N5 hk
  have hm := hls _ (List.getElem_mem hk)
  generalize ls[k] = x at hx hm
  have ih : ∀ acc' : List C0, acc'.length + d ≤ 100000 → A3 ls g.1 g.2.1 g.2.2 v fuel ((k + 1 : Nat) : Int) acc' = some (acc' ++ Q02 g v (ls.drop (k + 1))) := fun acc' h => K0f g hg v ls hls hl d (k + 1) fuel acc' (by omega) (by omega) h
  rw [A3.eq_2, if_pos (by simp; omega), E3 hx, Option.bind_some, show (g.1, g.2.1, g.2.2) = g from rfl, U06 g v x hm (by omega), Option.bind_some, J0 (z04 q1 q3.2 v x), Option.bind_some, j2 hk (by omega), J1 hx, Q02]
  cases decide (G2 g v x < 0) with
  | true =>
   rw [if_pos rfl, J0 (by simp; omega), Option.bind_some, ih _ (by simp; omega)]
   simp
  | false =>
   rw [if_neg (by simp), ih _ (by omega)]
   simp
theorem f08 : ∀ (d i : Nat) (x : Int), x ∈ o9 d i → ∃ j : Nat, i ≤ j ∧ j < i + d ∧ (x = (j : Int) ∨ x = -(j : Int))
 | 0, i, x, h => by simp [o9] at h
 | d + 1, i, x, h => by
  simp only [o9, List.mem_cons] at h
  rcases h with rfl | rfl | h
  ·exact ⟨i, Nat.le_refl _, by omega, .inl rfl⟩
  ·exact ⟨i, Nat.le_refl _, by omega, .inr rfl⟩
  ·obtain ⟨j, h1, h2, h3⟩ := f08 d (i + 1) x h
   exact ⟨j, by omega, by omega, h3⟩
theorem L0f (g : l0) (hf0 : N0 g = true) : ∀ (d k fuel : Nat) (acc : List C0), k + d = g.2.1.toNat → d < fuel → acc.length + 100 * d ≤ 10000 →
  F4 g.2.1 g.1 g.2.2 fuel (k : Int) acc = some (acc ++ B06 g d k)
 | d, k, 0, acc, hd, hf, ha => by omega
 | 0, k, fuel + 1, acc, hd, hf, ha => by
  obtain ⟨q1, q2, q3, q4⟩ := G3 hf0
  rw [F4.eq_2, show decide (((k : Nat) : Int) < g.2.1) = false by simp; omega]
  simp [chk, B06]
 | d + 1, k, fuel + 1, acc, hd, hf, ha => by
  obtain ⟨q1, q2, q3, q4⟩ := G3 hf0
  have hg := ((V7 g).1 hf0).1
  obtain ⟨R, hR⟩ : ∃ R : Nat, g.1 = (R : Int) := ⟨g.1.toNat, by omega⟩
  have hls : ∀ x ∈ o9 g.1.toNat 1, K7 x := fun x hx => by
   obtain ⟨j, h1, h2, h3⟩ := f08 _ _ _ hx
   refine ⟨⟨by omega, by omega⟩, by omega⟩
  have hlen := Z03 g.1.toNat 1
  have hm := b09 g (k : Int) (o9 g.1.toNat 1)
  have h0 := J0f g hg (k : Int) (o9 g.1.toNat 1) hls (by omega) (o9 g.1.toNat 1).length 0 Q0 acc (by omega) (Y0 (by omega)) (by omega)
  rw [F4.eq_2, show decide (((k : Nat) : Int) < g.2.1) = true by simp; omega, T1, show (g.1, g.2.1, g.2.2) = g from rfl, D8 g (by omega), Option.bind_some, hf0]
  rw [if_pos (show (bif true then true else false) = true from rfl), show o7 g.1 = some (o9 g.1.toNat 1) by rw [hR, s0k R (by omega)]; rfl, Option.bind_some, show (0 : Int) = ((0 : Nat) : Int) from rfl, h0, Option.bind_some, j2 (show k < 1000 by omega) (by omega), L0f g hf0 d (k + 1) fuel _ (by omega) (by omega) (by simp; omega), B06]
  simp
theorem M0f (g : l0) (hf0 : N0 g = true) : ∀ (d k fuel : Nat) (acc : List C0), k + d = g.2.1.toNat → d < fuel → acc.length + 100 * d ≤ 10000 →
  G4 g.2.1 g.1 g.2.2 fuel (k : Int) acc = some (acc ++ B06 g d k)
 | d, k, 0, acc, hd, hf, ha => by omega
 | 0, k, fuel + 1, acc, hd, hf, ha => by
  obtain ⟨q1, q2, q3, q4⟩ := G3 hf0
  rw [G4.eq_2, if_neg (by simp; omega)]
  simp [B06]
 | d + 1, k, fuel + 1, acc, hd, hf, ha => by
  obtain ⟨q1, q2, q3, q4⟩ := G3 hf0
  have hg := ((V7 g).1 hf0).1
  obtain ⟨R, hR⟩ : ∃ R : Nat, g.1 = (R : Int) := ⟨g.1.toNat, by omega⟩
  have hls : ∀ x ∈ o9 g.1.toNat 1, K7 x := fun x hx => by
   obtain ⟨j, h1, h2, h3⟩ := f08 _ _ _ hx
   refine ⟨⟨by omega, by omega⟩, by omega⟩
  have hlen := Z03 g.1.toNat 1
  have hm := b09 g (k : Int) (o9 g.1.toNat 1)
  have h0 := K0f g hg (k : Int) (o9 g.1.toNat 1) hls (by omega) (o9 g.1.toNat 1).length 0 Q0 acc (by omega) (Y0 (by omega)) (by omega)
  rw [G4.eq_2, if_pos (by simp; omega), show B8 g.1 = some (o9 g.1.toNat 1) by rw [hR, r0k R (by omega)]; rfl, Option.bind_some, show (0 : Int) = ((0 : Nat) : Int) from rfl, h0, Option.bind_some, j2 (show k < 1000 by omega) (by omega), M0f g hf0 d (k + 1) fuel _ (by omega) (by omega) (by simp; omega), B06]
  simp
def F6 (g : l0) : List C0 := B06 g g.2.1.toNat 0
theorem n0c {g : l0} (hf : N0 g = true) : T6 g = some (F6 g) := by
 obtain ⟨q1, q2, q3, q4⟩ := G3 hf
 have h := L0f g hf g.2.1.toNat 0 Q0 [] (by omega) (Y0 (by omega)) (by simp; omega)
 obtain ⟨r, n, es⟩ := g
 unfold T6 F6
 simp only at h ⊢
 rw [show (0 : Int) = ((0 : Nat) : Int) from rfl, h]; simp
theorem o0c {g : l0} (hf : N0 g = true) : U6 g = some (F6 g) := by
 obtain ⟨q1, q2, q3, q4⟩ := G3 hf
 have h := M0f g hf g.2.1.toNat 0 Q0 [] (by omega) (Y0 (by omega)) (by simp; omega)
 have h2 := w00 g (by omega)
 obtain ⟨r, n, es⟩ := g
 unfold U6 F6
 simp only [h2, hf, Option.bind_some] at h ⊢
 rw [if_neg (by simp), show (0 : Int) = ((0 : Nat) : Int) from rfl, h]; simp
theorem f0d {g : l0} {v : Int} {e : C0} : ∀ {l : List Int}, e ∈ Q02 g v l → e.1 = v ∧ e.2.1 ∈ l ∧ e.2.2 = -1
 | [], h => nomatch h
 | x :: r, h => by
  simp only [Q02, List.mem_append] at h
  rcases h with h | h
  ·cases hd : decide (G2 g v x < 0) with
   | true =>
    rw [hd] at h
    simp at h
    subst h
    exact ⟨rfl, List.mem_cons_self .., rfl⟩
   | false => rw [hd] at h; simp at h
  ·obtain ⟨h1, h2, h3⟩ := f0d h
   exact ⟨h1, List.mem_cons_of_mem _ h2, h3⟩
theorem g0d {g : l0} {e : C0} : ∀ {d k : Nat}, e ∈ B06 g d k → ((k : Int) ≤ e.1 ∧ e.1 < (k : Int) + d) ∧ e.2.1 ∈ o9 g.1.toNat 1
 | 0, k, h => nomatch h
 | d + 1, k, h => by
  rcases List.mem_append.1 (show e ∈ Q02 g (k : Int) (o9 g.1.toNat 1) ++ B06 g d (k + 1) from h) with h | h
  ·obtain ⟨h1, h2, _⟩ := f0d h
   exact ⟨by omega, h2⟩
  ·obtain ⟨h1, h2⟩ := g0d h
   exact ⟨by omega, h2⟩
theorem E05 {g : l0} (hf : N0 g = true) {e : C0} (h : e ∈ F6 g) : (0 ≤ e.1 ∧ e.1 < g.2.1) ∧ e.2.1 ≠ 0 ∧ -g.1 ≤ e.2.1 ∧ e.2.1 ≤ g.1 := by
 obtain ⟨q1, q2, q3, q4⟩ := G3 hf
 obtain ⟨h1, h2⟩ := g0d h
 obtain ⟨j, k1, k2, k3⟩ := f08 _ _ _ h2
 refine ⟨by omega, by omega, by omega, by omega⟩
end Go.Proofs.YtfdlgbfeceodeaaGreat
namespace Go.Proofs.YtfdlgbfeceodeaaGreat
open Go.H
set_option linter.unusedVariables false
set_option linter.unusedSimpArgs false
theorem F05 {x : F0} (h : B4 x = true) : ∀ w ∈ x.2, Y2 x.1 w = true := by
 simp only [B4, Q3, Bool.and_eq_true] at h
 have hw : ∀ {ws : List (List Int)}, g06 x.1 ws = true → ∀ w ∈ ws, Y2 x.1 w = true := by
  intro ws
  induction ws with
  | nil => intro _ w hw; cases hw
  | cons v r ih =>
   intro h w hw
   simp only [g06, Bool.and_eq_true] at h
   rcases List.mem_cons.1 hw with rfl | hw
   ·exact h.1
   ·exact ih h.2 w hw
 exact hw h.1.1.2
theorem g08 {x : F0} (h : B4 x = true) : ∀ w ∈ x.2, (∀ y ∈ w, K7 y) ∧ w.length ≤ 24 := fun w hw => by
 have h1 := F05 h w hw
 refine ⟨fun y hy => ?_, ?_⟩
 ·obtain ⟨i, hi⟩ := List.getElem?_of_mem hy
  have := j03 h1 hi
  refine ⟨⟨by omega, by omega⟩, by omega⟩
 ·simp only [Y2, Bool.and_eq_true, decide_eq_true_eq] at h1
  exact h1.1.2
theorem C04 {x : F0} (h : B4 x = true) : x.2.length ≤ 6 := by
 simp only [B4, Q3, Bool.and_eq_true, decide_eq_true_eq] at h
 exact h.1.1.1.2
def c0j (g : l0) (v : Int) (r : List Int) : Bool := bif decide ((L7 g v r).2 < r.length) then true else !decide ((L7 g v r).1 = v)
def M0b (g : l0) (v : Int) : List (List Int) → Nat → Option Nat
 | [], _ => none
 | r :: l, i => bif c0j g v r then some i else M0b g v l (i + 1)
def D04 (g : l0) (rels : List (List Int)) : Nat → Nat → Option (Nat × Nat)
 | 0, _ => none
 | d + 1, v => match M0b g (v : Int) rels 0 with
  | some i => some (v, i)
  | none => D04 g rels d (v + 1)
def N0b (q : Option (Nat × Nat)) : Int × Int := match q with
 | some (v, i) => ((v : Int), (i : Int))
 | none => (-1, -1)
def e00 (p : F0) (g : l0) : Int × Int := bif B4 p && N0 g && decide (p.1 = g.1) then N0b (D04 g p.2 g.2.1.toNat 0) else (-1, -1)
theorem O0b (rels : List (List Int)) (hrel : ∀ w ∈ rels, (∀ y ∈ w, K7 y) ∧ w.length ≤ 24) (r n : Int) (es : List C0) (hg : inG (r, n, es)) (hn : n ≤ 40) (hes : es.length ≤ 120) (hl : rels.length ≤ 6) (v : Int) (hv : D0 v) : ∀ (d k fuel : Nat), k + d = rels.length → d < fuel →
  R4 rels r n es v fuel (k : Int) = some (match M0b (r, n, es) v (rels.drop k) k with | some i => .inl (v, (i : Int)) | none => .inr ())
 | d, k, 0, hd, hf => by omega
 | 0, k, fuel + 1, hd, hf => by
  rw [R4.eq_2, if_neg (by simp; omega), D1 (by omega)]
  rfl
 | d + 1, k, fuel + 1, hd, hf => by
  have hk : k < rels.length := by omega
  have hx := N5 hk
  obtain ⟨hxm, hxl⟩ := hrel _ (List.getElem_mem hk)
  generalize rels[k] = w at hx hxm hxl
  have hle := x05 (r, n, es) w v
  rw [R4.eq_2, if_pos (by simp; omega), E3 hx, Option.bind_some, d0k (r, n, es) hg hn (by simp only; omega) v w hxm (by omega), Option.bind_some, J1 hx]
  simp only [J0 (y05 hg hn w v hv), J0 (show D0 (((L7 (r, n, es) v w).2 : Nat) : Int) from ⟨by omega, by omega⟩), Option.bind_some, M0b]
  have e : (bif decide ((((L7 (r, n, es) v w).2 : Nat) : Int) < ((w.length : Nat) : Int)) then true else !decide ((L7 (r, n, es) v w).1 = v)) = c0j (r, n, es) v w := by
   unfold c0j
   simp
  rw [e]
  cases c0j (r, n, es) v w with
  | true => rfl
  | false =>
   rw [if_neg (by simp), j2 hk (by omega)]
   exact O0b rels hrel r n es hg hn hes hl v hv d (k + 1) fuel (by omega) (by omega)
theorem P0b (rels : List (List Int)) (hrel : ∀ w ∈ rels, (∀ y ∈ w, K7 y) ∧ w.length ≤ 24) (r : Int) (N : Nat) (es : List C0) (hg : inG (r, (N : Int), es)) (hn : N ≤ 40) (hes : es.length ≤ 120) (hl : rels.length ≤ 6) : ∀ (d k fuel : Nat), k + d = N → d < fuel →
  S4 (N : Int) rels r es fuel (k : Int) = some (match D04 (r, (N : Int), es) rels d k with | some (v, i) => .inl ((v : Int), (i : Int)) | none => .inr ())
 | d, k, 0, hd, hf => by omega
 | 0, k, fuel + 1, hd, hf => by
  rw [S4.eq_2, if_neg (by simp; omega)]
  rfl
 | d + 1, k, fuel + 1, hd, hf => by
  have h0 := O0b rels hrel r (N : Int) es hg (by omega) hes hl (k : Int) ⟨by omega, by omega⟩ rels.length 0 Q0 (by omega) (Y0 (by omega))
  rw [show ((0 : Nat) : Int) = 0 from rfl, List.drop_zero] at h0
  rw [S4.eq_2, if_pos (by simp; omega), h0, Option.bind_some]
  simp only [D04]
  cases M0b (r, (N : Int), es) (k : Int) rels 0 with
  | some i => rfl
  | none =>
   simp only [k0c]
   rw [j2 (show k < N by omega) (by omega)]
   exact P0b rels hrel r N es hg hn hes hl d (k + 1) fuel (by omega) (by omega)
theorem h08 (p : F0) (g : l0) (hl : p.2.length ≤ 140737488355328) (hs : J3 p.2) (hl2 : g.2.2.length ≤ 140737488355328) : r7 p g = some (e00 p g) := by
 have hP := v00 p hl hs
 have hF := w00 g hl2
 unfold e00
 obtain ⟨pr, rels⟩ := p
 obtain ⟨r, n, es⟩ := g
 unfold r7
 simp only [hP, Option.bind_some]
 cases hp : B4 (pr, rels) with
 | false => rfl
 | true =>
  simp only [Bool.not_true, Bool.not_false, T1, hF, Option.bind_some, cond_false, Bool.true_and]
  cases hf : N0 (r, n, es) with
  | false => rfl
  | true =>
   by_cases hr : pr = r
   ·simp only [Bool.not_true, cond_false, hr, decide_true, Bool.true_and, cond_true, Bool.false_eq_true, if_false]
    obtain ⟨hg, _, hn, hes⟩ := G3 hf
    simp only at hn hes
    obtain ⟨N, rfl⟩ : ∃ N : Nat, n = (N : Int) := ⟨n.toNat, by omega⟩
    have h := P0b rels (g08 hp) r N es hg (by omega) hes (C04 hp) N 0 Q0 (by omega) (Y0 (by omega))
    rw [show ((0 : Nat) : Int) = 0 from rfl] at h
    rw [h, Option.bind_some, Int.toNat_natCast]
    cases D04 (r, (N : Int), es) rels N 0 <;> rfl
   ·simp [hr]
theorem Q0b (rels : List (List Int)) (hrel : ∀ w ∈ rels, (∀ y ∈ w, K7 y) ∧ w.length ≤ 24) (r n : Int) (es : List C0) (hf : N0 (r, n, es) = true) (hl : rels.length ≤ 6) (v : Int) (hv : 0 ≤ v ∧ v < n) : ∀ (d k fuel : Nat), k + d = rels.length → d < fuel →
  Q4 rels r n es v fuel (k : Int) = some (match M0b (r, n, es) v (rels.drop k) k with | some i => .inl (v, (i : Int)) | none => .inr ())
 | d, k, 0, hd, hf' => by omega
 | 0, k, fuel + 1, hd, hf' => by
  rw [Q4.eq_2, if_neg (by simp; omega), D1 (by omega)]
  rfl
 | d + 1, k, fuel + 1, hd, hf' => by
  have hk : k < rels.length := by omega
  have hx := N5 hk
  obtain ⟨hxm, hxl⟩ := hrel _ (List.getElem_mem hk)
  generalize rels[k] = w at hx hxm hxl
  obtain ⟨hg, _, hn, hes⟩ := G3 hf
  simp only at hn hes
  have h64 : D0 v := ⟨by omega, by omega⟩
  rw [Q4.eq_2, if_pos (by simp; omega), E3 hx, Option.bind_some, e0k (r, n, es) hf v hv w hxm (by omega), Option.bind_some, J1 hx]
  simp only [M0b, c0j]
  cases decide ((L7 (r, n, es) v w).2 < w.length) with
  | true =>
   simp only [cond_true, J0 (show D0 (-1) by decide), Option.bind_some, Bool.not_false, if_true]
  | false =>
   simp only [cond_false, J0 (y05 hg hn.2 w v h64), Option.bind_some, Bool.not_true]
   cases decide ((L7 (r, n, es) v w).1 = v) with
   | false => rfl
   | true =>
    rw [if_neg (by simp), j2 hk (by omega)]
    exact Q0b rels hrel r n es hf hl v hv d (k + 1) fuel (by omega) (by omega)
theorem R0b (rels : List (List Int)) (r : Int) (N : Nat) (es : List C0) (hp : B4 (r, rels) = true) (hf : N0 (r, (N : Int), es) = true) (hl : rels.length ≤ 140737488355328) (hs : J3 rels) : ∀ (d k fuel : Nat), k + d = N → d < fuel →
  M3 (N : Int) r rels r es fuel (k : Int) = some (match D04 (r, (N : Int), es) rels d k with | some (v, i) => .inl ((v : Int), (i : Int)) | none => .inr ())
 | d, k, 0, hd, hf' => by omega
 | 0, k, fuel + 1, hd, hf' => by
  have e : decide ((k : Int) < (N : Int)) = false := by simp; omega
  rw [M3.eq_2, e, J4, Option.bind_some]
  simp only [cond_false, J4, Option.bind_some]
  rw [if_neg (by simp)]
  rfl
 | d + 1, k, fuel + 1, hd, hf' => by
  obtain ⟨hg, _, hn, hes⟩ := G3 hf
  simp only at hn hes
  have e : decide ((k : Int) < (N : Int)) = true := by simp; omega
  have h0 := Q0b rels (g08 hp) r (N : Int) es hf (C04 hp) (k : Int) ⟨by omega, by omega⟩ rels.length 0 Q0 (by omega) (Y0 (by omega))
  rw [show ((0 : Nat) : Int) = 0 from rfl, List.drop_zero] at h0
  rw [M3.eq_2, e, T1, Y8 (r, rels) hl hs, Option.bind_some, hp]
  simp only [cond_true, T1, D8 (r, (N : Int), es) (show es.length ≤ 140737488355328 by omega), hf, Option.bind_some, decide_true, if_true, h0]
  simp only [D04]
  cases M0b (r, (N : Int), es) (k : Int) rels 0 with
  | some i => rfl
  | none =>
   simp only [k0c]
   rw [j2 (show k < N by omega) (by omega)]
   exact R0b rels r N es hp hf hl hs d (k + 1) fuel (by omega) (by omega)
theorem i08 (p : F0) (g : l0) (hl : p.2.length ≤ 140737488355328) (hs : J3 p.2) (hl2 : g.2.2.length ≤ 140737488355328) : p7 p g = some (e00 p g) := by
 have hP := Y8 p hl hs
 have hF := D8 g hl2
 unfold e00
 obtain ⟨pr, rels⟩ := p
 obtain ⟨r, n, es⟩ := g
 unfold p7
 have stop : (B4 (pr, rels) && N0 (r, n, es) && decide (pr = r)) = false → M3 n pr rels r es Q0 0 = some (.inr ()) := fun hno => by
  rw [show Q0 = (Q0 - 1) + 1 from rfl, M3.eq_2]
  cases decide ((0 : Int) < n) with
  | false => simp [chk]
  | true =>
   simp only [T1, hP, Option.bind_some, cond_true]
   cases hp : B4 (pr, rels) with
   | false => simp [chk]
   | true =>
    simp only [T1, hF, Option.bind_some, cond_true]
    rw [hp] at hno
    cases hf : N0 (r, n, es) with
    | false => simp
    | true =>
     rw [hf] at hno
     simp only [Bool.true_and] at hno
     simp [hno]
 cases hall : (B4 (pr, rels) && N0 (r, n, es) && decide (pr = r)) with
 | false =>
  simp only [stop hall, Option.bind_some, hall, cond_false]
  rfl
 | true =>
  simp only [Bool.and_eq_true, decide_eq_true_eq] at hall
  obtain ⟨⟨hp, hf⟩, rfl⟩ := hall
  obtain ⟨hg, _, hn, hes⟩ := G3 hf
  simp only at hn hes
  obtain ⟨N, rfl⟩ : ∃ N : Nat, n = (N : Int) := ⟨n.toNat, by omega⟩
  have h := R0b rels pr N es hp hf hl hs N 0 Q0 (by omega) (Y0 (by omega))
  rw [show ((0 : Nat) : Int) = 0 from rfl] at h
  simp only [h, Option.bind_some, hp, hf, decide_true, Bool.true_and, cond_true, Int.toNat_natCast]
  cases D04 (pr, (N : Int), es) rels N 0 <;> rfl
end Go.Proofs.YtfdlgbfeceodeaaGreat
namespace Go.Proofs.YtfdlgbfeceodeaaGreat
open Go.H
set_option linter.unusedVariables false
set_option linter.unusedSimpArgs false
theorem h0d {g : l0} {v : Int} : ∀ {l : List (List Int)} {k i : Nat}, M0b g v l k = some i → k ≤ i ∧ i < k + l.length
 | [], k, i, h => nomatch h
 | r :: l, k, i, h => by
  unfold M0b at h
  cases hb : c0j g v r with
  | true =>
   rw [hb] at h
   simp only [cond_true, Option.some.injEq] at h
   subst h
   simp
  | false =>
   rw [hb] at h
   have := h0d (l := l) (k := k + 1) (i := i) h
   simp only [List.length_cons]; omega
theorem c09 {g : l0} {rels : List (List Int)} : ∀ {d k v i : Nat}, D04 g rels d k = some (v, i) → (k ≤ v ∧ v < k + d) ∧ i < rels.length
 | 0, k, v, i, h => nomatch h
 | d + 1, k, v, i, h => by
  unfold D04 at h
  cases hr : M0b g (k : Int) rels 0 with
  | some j =>
   rw [hr] at h
   simp only [Option.some.injEq, Prod.mk.injEq] at h
   obtain ⟨rfl, rfl⟩ := h
   have := h0d hr
   omega
  | none =>
   rw [hr] at h
   have := c09 (d := d) (k := k + 1) h
   omega
def N0f (p : F0) (g : l0) (v i : Nat) : l0 × Bool × Bool := match p.2[i]? with
 | some w => bif (U2 g (v : Int) w (v : Int)).2 then ((l4 (U2 g (v : Int) w (v : Int)).1).1, true, true) else (g, false, false)
 | none => (g, false, false)
def O0f (g : l0) : l0 × Bool × Bool := match F6 g with
 | [] => (g, false, true)
 | e :: _ => bif (P1 g).2 then (bif (R7 (P1 g).1 (stp e.1 e.2.1 g.2.1)).2 then ((R7 (P1 g).1 (stp e.1 e.2.1 g.2.1)).1, true, true) else (g, false, false)) else (g, false, false)
def M1 (p : F0) (g : l0) : l0 × Bool × Bool := bif B4 p && N0 g && decide (p.1 = g.1) then (match D04 g p.2 g.2.1.toNat 0 with
 | some (v, i) => N0f p g v i
 | none => O0f g) else (g, false, false)
theorem G05 {g : l0} (hg : O0 g = true) (u : Int) (w : List Int) (v : Int) : (U2 g u w v).1.2.2.length ≤ 120 := by
 have q := (O1 hg).2.2.2
 unfold U2
 cases hc : (!w.isEmpty && decide (g.2.1 + (w.length : Int) - 1 ≤ 40) && decide (g.2.2.length + w.length ≤ 120)) with
 | false => exact q
 | true =>
  simp only [Bool.and_eq_true, decide_eq_true_eq] at hc
  have h1 := a02 (T00 v w u g.2.1) g.2.2
  have h2 := c06 v w u g.2.1
  simp only [cond_true]
  omega
theorem B0k {g : l0} (hf : N0 g = true) {e : C0} (he : e ∈ F6 g) (hv : (P1 g).2 = true) : b0j (P1 g).1 (stp e.1 e.2.1 g.2.1) := by
 obtain ⟨h1, h2, h3, h4⟩ := E05 hf he
 obtain ⟨q1, q2, q3, q4⟩ := G3 hf
 unfold P1 at hv ⊢
 by_cases c : g.2.1 < 40
 ·simp only [c, decide_true, cond_true]
  unfold stp b0j
  split <;> (simp only; omega)
 ·simp [c] at hv
theorem j08 (p : F0) (g : l0) (hl : p.2.length ≤ 140737488355328) (hs : J3 p.2) (hl2 : g.2.2.length ≤ 1099511627776) : I8 p g = some (M1 p g) := by
 have h1 := Y8 p hl hs
 have h2 := D8 g (by omega)
 have h3 := b01 g hl2
 have h4 := i08 p g hl hs (by omega)
 have h5 : N0 g = true → T6 g = some (F6 g) := n0c
 have h6 : N0 g = true → l8 g = some (P1 g) := fun h => Z09 ((V7 g).1 h).1
 have h7 : N0 g = true → ∀ e ∈ F6 g, (P1 g).2 = true → G8 (P1 g).1 (stp e.1 e.2.1 g.2.1) = some (R7 (P1 g).1 (stp e.1 e.2.1 g.2.1)) := fun h e he hv => l0c (K04 ((V7 g).1 h).1) (B0k h he hv)
 have h8 : B4 p = true → N0 g = true → p.1 = g.1 → ∀ v i : Nat, D04 g p.2 g.2.1.toNat 0 = some (v, i) → ∃ w, p.2[i]? = some w ∧ F8 g (v : Int) w (v : Int) = some (U2 g (v : Int) w (v : Int)) ∧ M6 (U2 g (v : Int) w (v : Int)).1 = some (l4 (U2 g (v : Int) w (v : Int)).1) ∧ v ≤ 40 ∧ i ≤ 6 := fun a b c v i hh => by
  obtain ⟨k1, k2⟩ := c09 hh
  have hg := ((V7 g).1 b).1
  obtain ⟨q1, q2, q3, q4⟩ := G3 b
  refine ⟨p.2[i], N5 k2, z06 hg ⟨by omega, by omega⟩ ⟨by omega, by omega⟩ (by rw [← c]; exact F05 a _ (List.getElem_mem k2)), v03 _ (by have := G05 hg (v : Int) p.2[i] (v : Int); omega), by omega, by have := C04 a; omega⟩
 have h9 : N0 g = true → ∀ e ∈ F6 g, (0 ≤ e.1 ∧ e.1 < g.2.1) ∧ e.2.1 ≠ 0 ∧ -3 ≤ e.2.1 ∧ e.2.1 ≤ 3 := fun h e he => by
  obtain ⟨k1, k2, k3, k4⟩ := E05 h he
  obtain ⟨q1, q2, q3, q4⟩ := G3 h
  exact ⟨k1, k2, by omega, by omega⟩
 unfold e00 at h4
 unfold M1 O0f
 obtain ⟨pr, rels⟩ := p
 obtain ⟨r, n, es⟩ := g
 unfold I8
 simp only [h1, Option.bind_some]
 cases hp : B4 (pr, rels) with
 | false => simp only [Bool.not_false, Bool.not_true, J4, Option.bind_some, cond_true, if_true, h3, Bool.false_and, cond_false]
 | true =>
  simp only [Bool.not_true, Bool.not_false, T1, h2, Option.bind_some, cond_false, Bool.true_and]
  cases hf : N0 (r, n, es) with
  | false => simp only [Bool.not_false, cond_true, if_true, h3, Option.bind_some, Bool.false_and, cond_false]
  | true =>
   simp only [Bool.not_true, cond_false, Bool.true_and]
   by_cases hr : pr = r
   ·subst hr
    have e4 : p7 (pr, rels) (pr, n, es) = some (N0b (D04 (pr, n, es) rels n.toNat 0)) := by
     rw [h4]; simp only [hp, hf, decide_true, Bool.and_true, cond_true]
    simp only [decide_true, Bool.not_true, Bool.false_eq_true, if_false, cond_true]
    have h8 := h8 hp hf rfl
    simp only at h8
    cases hh : D04 (pr, n, es) rels n.toNat 0 with
    | some q =>
     obtain ⟨v, i⟩ := q
     obtain ⟨w, k1, k2, k3, k4, k5⟩ := h8 v i hh
     rw [hh] at e4
     simp only [N0b] at e4
     rw [e4, Option.bind_some]
     try simp only []
     rw [J0 (show D0 ((v : Nat) : Int) from ⟨by omega, by omega⟩), Option.bind_some, J0 (show D0 ((i : Nat) : Int) from ⟨by omega, by omega⟩), Option.bind_some, if_pos (by simp), E3 k1, Option.bind_some, k2, Option.bind_some]
     unfold N0f
     simp only [k1]
     revert k3
     generalize U2 (pr, n, es) (v : Int) w (v : Int) = ap
     intro k3
     obtain ⟨g2, ok⟩ := ap
     try simp only at k3
     cases ok with
     | false => simp only [Bool.not_false, if_true, h3, Option.bind_some, cond_false]
     | true => simp only [Bool.not_true, Bool.false_eq_true, if_false, k3, Option.bind_some, cond_true]
    | none =>
     rw [hh] at e4
     simp only [N0b] at e4
     rw [e4, Option.bind_some]
     try simp only []
     rw [J0 (show D0 (-1) from ⟨by omega, by omega⟩), Option.bind_some, Option.bind_some, if_neg (by simp), h5 hf, Option.bind_some]
     have h7 := h7 hf
     have h9 := h9 hf
     have h6 := h6 hf
     cases hm : F6 (pr, n, es) with
     | nil => simp only [List.length_nil]; rw [if_pos (by simp), h3]; rfl
     | cons e l =>
      have h7 := h7 e (by rw [hm]; exact List.mem_cons_self ..)
      obtain ⟨k1, k2, k3, k4⟩ := h9 e (by rw [hm]; exact List.mem_cons_self ..)
      rw [if_neg (by simp; omega), h6, Option.bind_some]
      revert h7
      generalize P1 (pr, n, es) = av
      intro h7
      obtain ⟨g2, ok⟩ := av
      simp only at h7
      simp only []
      cases ok with
      | false => simp only [Bool.not_false, if_true, h3, Option.bind_some, cond_false]
      | true =>
       have h7 := h7 rfl
       simp only [Bool.not_true, Bool.false_eq_true, if_false, cond_true]
       obtain ⟨e0, e1, e2⟩ := e
       simp only at k1 k2 k3 k4 h7
       rw [u05 rfl]
       simp only [Option.bind_some]
       revert h7
       generalize R7 g2 (stp e0 e1 n) = ae
       intro h7
       obtain ⟨g3, ok3⟩ := ae
       by_cases c : e1 < 0
       ·rw [if_pos (by simp [c]), w64 (by omega) (by omega), show ((n, 0 - e1, e0) : C0) = stp e0 e1 n by unfold stp; rw [if_pos c, Int.zero_sub], h7]
        cases ok3 <;> simp [h3]
       ·rw [if_neg (by simp; omega), show ((e0, e1, n) : C0) = stp e0 e1 n by unfold stp; rw [if_neg c], h7]
        cases ok3 <;> simp [h3]
   ·simp only [hr, decide_false, Bool.not_false, if_true, h3, Option.bind_some, cond_false]
theorem k08 (p : F0) (g : l0) (hl : p.2.length ≤ 140737488355328) (hs : J3 p.2) (hl2 : g.2.2.length ≤ 1099511627776) : J8 p g = some (M1 p g) := by
 have h1 := v00 p hl hs
 have h2 := w00 g (by omega)
 have h3 := x00 g hl2
 have h4 := h08 p g hl hs (by omega)
 have h5 : N0 g = true → U6 g = some (F6 g) := o0c
 have h6 : N0 g = true → o8 g = some (P1 g) := fun h => a0a ((V7 g).1 h).1
 have h7 : N0 g = true → ∀ e ∈ F6 g, (P1 g).2 = true → A9 (P1 g).1 (stp e.1 e.2.1 g.2.1) = some (R7 (P1 g).1 (stp e.1 e.2.1 g.2.1)) := fun h e he hv => m0c (K04 ((V7 g).1 h).1) (B0k h he hv)
 have h8 : B4 p = true → N0 g = true → p.1 = g.1 → ∀ v i : Nat, D04 g p.2 g.2.1.toNat 0 = some (v, i) → ∃ w, p.2[i]? = some w ∧ H8 g (v : Int) w (v : Int) = some (U2 g (v : Int) w (v : Int)) ∧ N6 (U2 g (v : Int) w (v : Int)).1 = some (l4 (U2 g (v : Int) w (v : Int)).1) ∧ v ≤ 40 ∧ i ≤ 6 := fun a b c v i hh => by
  obtain ⟨k1, k2⟩ := c09 hh
  have hg := ((V7 g).1 b).1
  obtain ⟨q1, q2, q3, q4⟩ := G3 b
  refine ⟨p.2[i], N5 k2, A06 hg ⟨by omega, by omega⟩ ⟨by omega, by omega⟩ (by rw [← c]; exact F05 a _ (List.getElem_mem k2)), w03 _ (by have := G05 hg (v : Int) p.2[i] (v : Int); omega), by omega, by have := C04 a; omega⟩
 have h9 : N0 g = true → ∀ e ∈ F6 g, (0 ≤ e.1 ∧ e.1 < g.2.1) ∧ e.2.1 ≠ 0 ∧ -3 ≤ e.2.1 ∧ e.2.1 ≤ 3 := fun h e he => by
  obtain ⟨k1, k2, k3, k4⟩ := E05 h he
  obtain ⟨q1, q2, q3, q4⟩ := G3 h
  exact ⟨k1, k2, by omega, by omega⟩
 unfold e00 at h4
 unfold M1 O0f
 obtain ⟨pr, rels⟩ := p
 obtain ⟨r, n, es⟩ := g
 unfold J8
 simp only [h1, Option.bind_some]
 cases hp : B4 (pr, rels) with
 | false => simp only [Bool.not_false, Bool.not_true, J4, Option.bind_some, cond_true, if_true, h3, Bool.false_and, cond_false]
 | true =>
  simp only [Bool.not_true, Bool.not_false, T1, h2, Option.bind_some, cond_false, Bool.true_and]
  cases hf : N0 (r, n, es) with
  | false => simp only [Bool.not_false, cond_true, if_true, h3, Option.bind_some, Bool.false_and, cond_false]
  | true =>
   simp only [Bool.not_true, cond_false, Bool.true_and]
   by_cases hr : pr = r
   ·subst hr
    have e4 : r7 (pr, rels) (pr, n, es) = some (N0b (D04 (pr, n, es) rels n.toNat 0)) := by
     rw [h4]; simp only [hp, hf, decide_true, Bool.and_true, cond_true]
    simp only [decide_true, Bool.not_true, Bool.false_eq_true, if_false, cond_true]
    have h8 := h8 hp hf rfl
    simp only at h8
    cases hh : D04 (pr, n, es) rels n.toNat 0 with
    | some q =>
     obtain ⟨v, i⟩ := q
     obtain ⟨w, k1, k2, k3, k4, k5⟩ := h8 v i hh
     rw [hh] at e4
     simp only [N0b] at e4
     rw [e4, Option.bind_some]
     try simp only []
     rw [J0 (show D0 ((v : Nat) : Int) from ⟨by omega, by omega⟩), Option.bind_some, J0 (show D0 ((i : Nat) : Int) from ⟨by omega, by omega⟩), Option.bind_some, if_pos (by simp), E3 k1, Option.bind_some, k2, Option.bind_some]
     unfold N0f
     simp only [k1]
     revert k3
     generalize U2 (pr, n, es) (v : Int) w (v : Int) = ap
     intro k3
     obtain ⟨g2, ok⟩ := ap
     try simp only at k3
     cases ok with
     | false => simp only [Bool.not_false, if_true, h3, Option.bind_some, cond_false]
     | true => simp only [Bool.not_true, Bool.false_eq_true, if_false, k3, Option.bind_some, cond_true]
    | none =>
     rw [hh] at e4
     simp only [N0b] at e4
     rw [e4, Option.bind_some]
     try simp only []
     rw [J0 (show D0 (-1) from ⟨by omega, by omega⟩), Option.bind_some, Option.bind_some, if_neg (by simp), h5 hf, Option.bind_some]
     have h7 := h7 hf
     have h9 := h9 hf
     have h6 := h6 hf
     cases hm : F6 (pr, n, es) with
     | nil => simp only [List.length_nil]; rw [if_pos (by simp), h3]; rfl
     | cons e l =>
      have h7 := h7 e (by rw [hm]; exact List.mem_cons_self ..)
      obtain ⟨k1, k2, k3, k4⟩ := h9 e (by rw [hm]; exact List.mem_cons_self ..)
      rw [if_neg (by simp; omega), h6, Option.bind_some]
      revert h7
      generalize P1 (pr, n, es) = av
      intro h7
      obtain ⟨g2, ok⟩ := av
      simp only at h7
      simp only []
      cases ok with
      | false => simp [h3]
      | true =>
       have h7 := h7 rfl
       simp only [Bool.not_true, Bool.false_eq_true, if_false, cond_true]
       obtain ⟨e0, e1, e2⟩ := e
       simp only at k1 k2 k3 k4 h7
       rw [u05 rfl]
       simp only [Option.bind_some]
       rw [W0g e0 e1 n ⟨⟨by omega, by omega⟩, by omega⟩]
       simp only [Option.bind_some]
       revert h7
       generalize R7 g2 (stp e0 e1 n) = ae
       intro h7
       obtain ⟨g3, ok3⟩ := ae
       cases ok3 <;> simp [h3, h7]
   ·simp only [hr, decide_false, Bool.not_false, if_true, h3, Option.bind_some, cond_false]
end Go.Proofs.YtfdlgbfeceodeaaGreat
namespace Go.Proofs.YtfdlgbfeceodeaaGreat
open Go.H
set_option linter.unusedVariables false
set_option linter.unusedSimpArgs false
theorem Y0g (g : Nat) : ∀ (d k : Nat) (x : Int), x ∈ wo g d k → ∃ j : Nat, x = (j : Int) ∧ k ≤ j ∧ j < k + d
 | 0, k, x, h => nomatch h
 | d + 1, k, x, h => by
  unfold wo at h
  split at h
  ·obtain ⟨j, h1, h2, h3⟩ := Y0g g d (k + 1) x h
   exact ⟨j, h1, by omega, by omega⟩
  ·rcases List.mem_cons.1 h with rfl | h
   ·exact ⟨k, rfl, Nat.le_refl _, by omega⟩
   ·obtain ⟨j, h1, h2, h3⟩ := Y0g g d (k + 1) x h
    exact ⟨j, h1, by omega, by omega⟩
theorem l08 (g : Nat) : ∀ (d k : Nat), (wo g d k).Nodup
 | 0, k => List.nodup_nil
 | d + 1, k => by
  unfold wo
  split
  ·exact l08 g d (k + 1)
  ·refine List.nodup_cons.2 ⟨fun h => ?_, l08 g d (k + 1)⟩
   obtain ⟨j, h1, h2, h3⟩ := Y0g g d (k + 1) _ h
   omega
theorem h0e (P : List Int) : ∀ (es : List C0), ∀ e ∈ pE P es, ∃ a ∈ es, e = (getI P a.1, a.2.1, getI P a.2.2) ∧ 0 ≤ getI P a.1 ∧ 0 ≤ getI P a.2.2
 | [], e, h => nomatch h
 | b :: r, e, h => by
  unfold pE at h
  cases hb : decide (0 ≤ getI P b.1) && decide (0 ≤ getI P b.2.2)
  ·rw [hb] at h
   obtain ⟨a, h1, h2⟩ := h0e P r e h
   exact ⟨a, List.mem_cons_of_mem _ h1, h2⟩
  ·rw [hb] at h
   simp only [Bool.and_eq_true, decide_eq_true_eq] at hb
   rcases List.mem_cons.1 h with rfl | h
   ·exact ⟨b, List.mem_cons_self .., rfl, hb.1, hb.2⟩
   ·obtain ⟨a, h1, h2⟩ := h0e P r e h
    exact ⟨a, List.mem_cons_of_mem _ h1, h2⟩
theorem X06 {g : l0} {o : List Int} (hg : O0 g = true) (ho : inV g.2.1.toNat o) (h1 : 1 ≤ o.length) (h2 : o.length ≤ 40) : O0 (n9 g o) = true := by
 obtain ⟨q1, q2, q3, q4⟩ := O1 hg
 have hl := a0e (plc g.2.1.toNat o) g.2.2
 refine c08 q2 ⟨by omega, by omega⟩ (by omega) fun e he => ?_
 obtain ⟨a, ha, rfl, k1, k2⟩ := h0e _ _ e he
 have hq := q1 a ha
 have r1 := (Y03 ho (x := a.1) (by omega)).2
 have r2 := (Y03 ho (x := a.2.2) (by omega)).2
 exact ⟨⟨k1, r1⟩, ⟨k2, r2⟩, hq.2.2⟩
theorem S0b {n : Nat} : ∀ (o : List Int) (k : Nat) (A : List Int), A.length = n → inV n o → o.Nodup → (∀ x, 0 ≤ x → getI A x < (k : Int)) → (∀ x y, 0 ≤ x → 0 ≤ y → 0 ≤ getI A x → getI A x = getI A y → x = y) →
  ∀ x y, 0 ≤ x → 0 ≤ y → 0 ≤ getI (F9 A k o) x → getI (F9 A k o) x = getI (F9 A k o) y → x = y
 | [], k, A, hA, ho, hd, hr, hi => hi
 | v :: r, k, A, hA, ho, hd, hr, hi => by
  have hv := ho v (List.mem_cons_self ..)
  refine S0b r (k + 1) (A.set v.toNat (k : Int)) (by simp [hA]) (fun w hw => ho w (List.mem_cons_of_mem _ hw)) (List.nodup_cons.1 hd).2 (fun x hx => ?_) (fun x y hx hy h0 he => ?_)
  ·rw [Z01 hv.1 (by omega) hx]
   have := hr x hx
   split <;> omega
  ·rw [Z01 hv.1 (by omega) hx] at h0 he
   rw [Z01 hv.1 (by omega) hy] at he
   have h1 := hr x hx
   have h2 := hr y hy
   by_cases c1 : x = v
   ·by_cases c2 : y = v
    ·rw [c1, c2]
    ·rw [if_pos c1, if_neg c2] at he; omega
   ·by_cases c2 : y = v
    ·rw [if_neg c1, if_pos c2] at he; omega
    ·rw [if_neg c1] at h0; rw [if_neg c1, if_neg c2] at he
     exact hi x y hx hy h0 he
theorem i0e {n : Nat} {o : List Int} (ho : inV n o) (hd : o.Nodup) {x y : Int} (hx : 0 ≤ x) (hy : 0 ≤ y) (h0 : 0 ≤ getI (plc n o) x) (he : getI (plc n o) x = getI (plc n o) y) : x = y := by
 refine S0b o 0 (List.replicate n (-1)) (by simp) ho hd (fun x hx => by rw [A05]; omega) (fun x y _ _ h _ => by rw [A05] at h; omega) x y hx hy h0 he
theorem C0k {es : List C0} (h : es.Pairwise fun a b => N02 a b = false) {a b : C0} (ha : a ∈ es) (hb : b ∈ es) (hne : a ≠ b) : N02 a b = false := by
 induction es with
 | nil => cases ha
 | cons c r ih =>
  obtain ⟨h1, h2⟩ := List.pairwise_cons.1 h
  rcases List.mem_cons.1 ha with rfl | ha'
  ·rcases List.mem_cons.1 hb with rfl | hb'
   ·exact absurd rfl hne
   ·exact h1 b hb'
  ·rcases List.mem_cons.1 hb with rfl | hb'
   ·rw [U08]; exact h1 a ha'
   ·exact ih h2 ha' hb'
theorem o0l {es : List C0} (hA : Asc H0 es) (h : ∀ a ∈ es, ∀ b ∈ es, a ≠ b → N02 a b = false) : es.Pairwise fun a b => N02 a b = false := by
 induction es with
 | nil => exact .nil
 | cons c r ih =>
  obtain ⟨h1, h2⟩ := List.pairwise_cons.1 hA
  refine List.pairwise_cons.2 ⟨fun b hb => h c (List.mem_cons_self ..) b (List.mem_cons_of_mem _ hb) fun e => ?_, ih h2 fun a ha b hb => h a (List.mem_cons_of_mem _ ha) b (List.mem_cons_of_mem _ hb)⟩
  have := h1 b hb
  rw [e, O4.refl] at this; omega
theorem d09 {g : l0} (hg : O0 g = true) : N0 g = true ↔ ∀ a ∈ g.2.2, ∀ b ∈ g.2.2, a ≠ b → N02 a b = false := by
 rw [V7, a09]
 exact ⟨fun h a ha b hb hne => C0k h.2 ha hb hne, fun h => ⟨hg, o0l (graph_asc' hg) h⟩⟩
where graph_asc' {g : l0} (h : O0 g = true) : Asc H0 g.2.2 := ((d00 g).1 h).2.2.2.2
theorem Q09 {g : l0} {o : List Int} (hf : N0 g = true) (ho : inV g.2.1.toNat o) (hd : o.Nodup) (h1 : 1 ≤ o.length) (h2 : o.length ≤ 40) : N0 (n9 g o) = true := by
 have hg := a8 hf
 obtain ⟨q1, q2, q3, q4⟩ := O1 hg
 refine (d09 (X06 hg ho h1 h2)).2 fun a ha b hb hne => ?_
 have mem : ∀ e ∈ (n9 g o).2.2, ∃ a ∈ g.2.2, e = (getI (plc g.2.1.toNat o) a.1, a.2.1, getI (plc g.2.1.toNat o) a.2.2) ∧ 0 ≤ getI (plc g.2.1.toNat o) a.1 ∧ 0 ≤ getI (plc g.2.1.toNat o) a.2.2 := fun e he => by
  rcases (T7 O4 e _ _).1 he with h | h
  ·cases h
  ·exact h0e _ _ e h
 obtain ⟨a', ha', rfl, k1, k2⟩ := mem a ha
 obtain ⟨b', hb', rfl, k3, k4⟩ := mem b hb
 have hne' : a' ≠ b' := fun e => hne (by rw [e])
 have hc := (d09 hg).1 hf a' ha' b' hb' hne'
 have ra := q1 a' ha'
 have rb := q1 b' hb'
 unfold N02 at hc ⊢
 simp only [Bool.and_eq_false_iff, Bool.or_eq_false_iff, decide_eq_false_iff_not] at hc ⊢
 rcases hc with hc | ⟨hc1, hc2⟩
 ·exact .inl hc
 ·exact .inr ⟨fun e => hc1 (i0e ho hd ra.1.1 rb.1.1 k1 e), fun e => hc2 (i0e ho hd ra.2.1.1 rb.2.1.1 k2 e)⟩
def R02 : Nat → l0 → l0
 | 0, g => g
 | d + 1, g => match G9 g with
  | none => g
  | some k => R02 d (n9 g (wo k g.2.1.toNat 0))
theorem j0e {g : l0} {k : Nat} (h : G9 g = some k) : 1 ≤ k ∧ k < g.2.1.toNat := by
 have := b08 _ _ _ h
 omega
theorem e09 {g : l0} (hg : O0 g = true) {k : Nat} (h : G9 g = some k) : inV g.2.1.toNat (wo k g.2.1.toNat 0) ∧ (wo k g.2.1.toNat 0).length = g.2.1.toNat - 1 ∧ 1 ≤ (wo k g.2.1.toNat 0).length ∧ (wo k g.2.1.toNat 0).length ≤ 40 := by
 obtain ⟨q1, q2, q3, q4⟩ := O1 hg
 have hk := j0e h
 have hlen := V0g k g.2.1.toNat 0
 rw [if_pos (by omega)] at hlen
 exact ⟨v0k k _ _ 0 (by omega), hlen, by omega, by omega⟩
theorem o02 : ∀ (d : Nat) {g : l0}, N0 g = true → N0 (R02 d g) = true
 | 0, g, h => h
 | d + 1, g, h => by
  unfold R02
  cases e : G9 g with
  | none => exact h
  | some k =>
   obtain ⟨h1, h2, h3, h4⟩ := e09 (a8 h) e
   exact o02 d (Q09 h h1 (l08 _ _ _) h3 h4)
theorem T0b (n g : Nat) (hn : n ≤ 1000) (u : List Int) (hu : u.length = n) : ∀ (d k fuel : Nat) (acc bcc : List Int), k + d = n → d < fuel → acc.length ≤ k → bcc.length ≤ k →
  ∃ v, U4 (n : Int) (g : Int) u fuel (k : Int) acc bcc = some (acc ++ wo g d k, v) ∧ v.length + acc.length = bcc.length + (acc ++ wo g d k).length
 | d, k, 0, acc, bcc, hd, hf, ha, hb => by omega
 | 0, k, fuel + 1, acc, bcc, hd, hf, ha, hb => by
  rw [U4.eq_2, if_neg (by simp; omega)]; exact ⟨bcc, by simp [wo], by simp [wo]⟩
 | d + 1, k, fuel + 1, acc, bcc, hd, hf, ha, hb => by
  have hx := N5 (show k < u.length by omega)
  generalize u[k] = x at hx
  rw [U4.eq_2, if_pos (by simp; omega), j2 (show k < 10000 by omega) (by omega)]
  unfold wo
  by_cases c : k = g
  ·have e : decide ((k : Int) = (g : Int)) = true := decide_eq_true (by omega)
   rw [e, if_neg (by simp), if_pos c]
   exact T0b n g hn u hu d (k + 1) fuel acc bcc (by omega) (by omega) (by omega) (by omega)
  ·have e : decide ((k : Int) = (g : Int)) = false := decide_eq_false (by omega)
   rw [e, if_pos (show (!false) = true from rfl), if_neg c, J0 (by simp; omega), Option.bind_some, E3 hx, Option.bind_some, J0 (by simp; omega), Option.bind_some]
   obtain ⟨v, h1, h2⟩ := T0b n g hn u hu d (k + 1) fuel (acc ++ [(k : Int)]) (bcc ++ [x]) (by omega) (by omega) (by simp; omega) (by simp; omega)
   refine ⟨v, by rw [h1]; simp, ?_⟩
   simp only [List.length_append, List.length_cons, List.length_nil] at h2 ⊢
   omega
theorem P0f (g : l0) (hg : O0 g = true) : ∀ (d k fuel : Nat) (acc : List Int), k + d = g.2.1.toNat → d < fuel → acc.length = k →
  ∃ u, D5 g.2.1 g.1 g.2.2 fuel (k : Int) acc = some u ∧ u.length = g.2.1.toNat
 | d, k, 0, acc, hd, hf, ha => by omega
 | 0, k, fuel + 1, acc, hd, hf, ha => by
  obtain ⟨q1, q2, q3, q4⟩ := O1 hg
  rw [D5.eq_2, show decide (((k : Nat) : Int) < g.2.1) = false by simp; omega]
  exact ⟨acc, by simp [chk], by omega⟩
 | d + 1, k, fuel + 1, acc, hd, hf, ha => by
  obtain ⟨q1, q2, q3, q4⟩ := O1 hg
  obtain ⟨u, h1, h2⟩ := P0f g hg d (k + 1) fuel (acc ++ [(k : Int)]) (by omega) (by omega) (by simp; omega)
  rw [D5.eq_2, show decide (((k : Nat) : Int) < g.2.1) = true by simp; omega, T1, show (g.1, g.2.1, g.2.2) = g from rfl, i6 g (by omega), Option.bind_some, hg]
  rw [if_pos (show (bif true then true else false) = true from rfl), J0 (by simp; omega), Option.bind_some, j2 (show k < 1000 by omega) (by omega), h1]
  exact ⟨u, rfl, h2⟩
theorem Q0f (g0 : l0) (hg0 : O0 g0 = true) : ∀ (d k fuel : Nat) (g : l0) (u : List Int), k + d = 40 → d < fuel → O0 g = true → u.length = g.2.1.toNat → g.2.1.toNat ≤ d + 1 →
  ∃ v, (C5 g0.1 g0.2.1 g0.2.2 fuel u (k : Int) g.1 g.2.1 g.2.2).bind (fun X => V6 X (fun S => match S with | (a, b, c, e) => some ((b, c, e), a))) = some (R02 d g, v)
 | d, k, 0, g, u, hd, hf, hg, hu, hn => by omega
 | 0, k, fuel + 1, g, u, hd, hf, hg, hu, hn => by
  rw [C5.eq_2, show decide (((k : Nat) : Int) < 40) = false by simp; omega]
  exact ⟨u, by simp [chk, V6, R02]⟩
 | d + 1, k, fuel + 1, g, u, hd, hf, hg, hu, hn => by
  obtain ⟨p1, p2, p3, p4⟩ := O1 hg0
  obtain ⟨q1, q2, q3, q4⟩ := O1 hg
  have hl := u0k g hg
  rw [C5.eq_2, show decide (((k : Nat) : Int) < 40) = true by simp; omega, T1, show (g0.1, g0.2.1, g0.2.2) = g0 from rfl, i6 g0 (by omega), Option.bind_some, hg0]
  rw [if_pos (show (bif true then true else false) = true from rfl), show (g.1, g.2.1, g.2.2) = g from rfl, hl]
  unfold R02
  cases e : G9 g with
  | none =>
   simp only [Option.bind_some]
   rw [J0 (show D0 (-1) from ⟨by omega, by omega⟩), Option.bind_some, if_pos (by simp)]
   exact ⟨u, rfl⟩
  | some j =>
   obtain ⟨h1, h2, h3, h4⟩ := e09 hg e
   have hj := j0e e
   obtain ⟨N, hN⟩ : ∃ N : Nat, g.2.1 = (N : Int) := ⟨g.2.1.toNat, by omega⟩
   have hNt : g.2.1.toNat = N := by omega
   obtain ⟨v, w1, w2⟩ := T0b N j (by omega) u (by omega) N 0 Q0 [] [] (by omega) (Y0 (by omega)) (Nat.le_refl _) (Nat.le_refl _)
   have hr := F0b g.1 N g.2.2 (wo j N 0) (by rw [← hN]; exact hg) (by rw [← hNt]; exact h1) (l08 _ _ _) (by rw [← hNt]; exact h3) (by rw [← hNt]; omega)
   rw [← hN, show (g.1, g.2.1, g.2.2) = g from rfl] at hr
   have hG := X06 hg h1 h3 h4
   rw [hNt] at hG h2 h3
   obtain ⟨v2, z⟩ := Q0f g0 hg0 d (k + 1) fuel (n9 g (wo j N 0)) v (by omega) (by omega) hG (by simp only [List.nil_append, List.length_nil] at w2; show v.length = ((wo j N 0).length : Int).toNat; omega) (by show ((wo j N 0).length : Int).toNat ≤ d + 1; omega)
   simp only [Option.bind_some]
   rw [J0 (show D0 ((j : Nat) : Int) from ⟨by omega, by omega⟩), Option.bind_some, if_neg (by simp), hN, show (0 : Int) = ((0 : Nat) : Int) from rfl, w1]
   simp only [Option.bind_some, List.nil_append]
   rw [← hN, hr]
   simp only [Option.bind_some]
   rw [j2 (show k < 1000 by omega) (by omega), hNt]
   exact ⟨v2, z⟩
def U0b (g : l0) : l0 := R02 40 g
theorem Z0g {g : l0} (hg : O0 g = true) : ∃ v, B9 g = some (U0b g, v) := by
 obtain ⟨q1, q2, q3, q4⟩ := O1 hg
 have hc := b01 g (by omega)
 obtain ⟨u, h1, h2⟩ := P0f g hg g.2.1.toNat 0 Q0 [] (by omega) (Y0 (by omega)) rfl
 obtain ⟨v, h3⟩ := Q0f g hg 40 0 Q0 g u rfl (Y0 (by omega)) hg h2 (by omega)
 refine ⟨v, ?_⟩
 obtain ⟨r, n, es⟩ := g
 unfold B9
 simp only [hc, Option.bind_some]
 simp only at h1 h3
 rw [show (0 : Int) = ((0 : Nat) : Int) from rfl, h1, Option.bind_some]
 exact h3
theorem R0f : ∀ (n fuel d : Nat) (left : List Int) (r : Int) (es : List C0), 1 ≤ n → n ≤ 40 → inN n es → es.length ≤ 120 → left.length = n → n < fuel → n ≤ d + 1 →
  ∃ l', p6 fuel left r (n : Int) es = some (.inl (R02 d (r, (n : Int), es), l'))
 | n, 0, d, left, r, es, h1, h2, hn, hes, hl, hf, hd => by omega
 | n, fuel + 1, d, left, r, es, h1, h2, hn, hes, hl, hf, hd => by
  obtain ⟨S, eS, lS, hS⟩ := h0k r n es hn (by omega) h1 (by omega)
  have ht1 := f0i r n es (by omega) S lS h2 (n - 1) 1 Q0 (Nat.le_refl _) (by omega) (by omega) (Y0 (by omega))
  have hcg : lf (fun v => decide (w01 (v : Int) es < 2) || !M8 S (v : Int)) (n - 1) 1 = lf (c0e es) (n - 1) 1 := x0f _ _ fun k k1 k2 => by
   unfold c0e
   have := hS (k : Int) (by omega) (by omega)
   have h3 := x0a es 0 (k : Int)
   congr 2
   cases hb : M8 S (k : Int)
   ·symm; exact decide_eq_false fun h => by rw [this.2 (h3.1 h)] at hb; cases hb
   ·symm; exact decide_eq_true (h3.2 (this.1 hb))
  rw [hcg] at ht1
  have hleaf : G9 (r, (n : Int), es) = lf (c0e es) (n - 1) 1 := by simp only [G9, Int.toNat_natCast]
  rw [p6.eq_2, eS, Option.bind_some, show (1 : Int) = ((1 : Nat) : Int) from rfl, ht1, Option.bind_some]
  cases hlf : lf (c0e es) (n - 1) 1 with
  | none =>
   have e2 : R02 d (r, (n : Int), es) = (r, (n : Int), es) := by
    cases d with
    | zero => rfl
    | succ d => unfold R02; rw [hleaf, hlf]
   rw [e2]
   exact ⟨left, by rw [if_pos (by rfl)]⟩
  | some k =>
   have hk := b08 _ _ _ hlf
   have e0 : decide ((k : Int) = 0) = false := decide_eq_false (by omega)
   have ho := v0k k n n 0 (by omega)
   have hlen := V0g k n 0
   rw [if_pos (by omega)] at hlen
   have ht0 := g0i n k (by omega) n 0 Q0 [] (by omega) (Y0 (by omega)) (Nat.le_refl _)
   rw [show ((0 : Nat) : Int) = 0 from rfl, List.nil_append] at ht0
   have hp := l0k r n es (wo k n 0) hn ho (by omega) (by omega) (by omega)
   have hpl := C0b (r, (n : Int), es) (wo k n 0)
   have hpi := W0i (r := r) ho hn
   have hw : IntKind.i64.wrap ((k : Int) + ((1 : Nat) : Int)) = ((k + 1 : Nat) : Int) := by rw [w64 (by omega) (by omega)]; rfl
   obtain ⟨d', rfl⟩ : ∃ d', d = d' + 1 := ⟨d - 1, by omega⟩
   have hF : n9 (r, (n : Int), es) (wo k n 0) = (r, ((n - 1 : Nat) : Int), (n9 (r, (n : Int), es) (wo k n 0)).2.2) := by rw [← hlen]; rfl
   obtain ⟨l', q1⟩ := R0f (n - 1) fuel d' (left.take k ++ left.drop (k + 1)) r (n9 (r, (n : Int), es) (wo k n 0)).2.2 (by omega) (by omega) (by rw [hlen] at hpi; exact hpi) (by simp only at hpl; omega) (by simp only [List.length_append, List.length_take, List.length_drop]; omega) (by omega) (by omega)
   refine ⟨l', ?_⟩
   rw [← hF] at q1
   have e2 : R02 (d' + 1) (r, (n : Int), es) = R02 d' (n9 (r, (n : Int), es) (wo k n 0)) := by
    show (match G9 (r, (n : Int), es) with | none => (r, (n : Int), es) | some k => R02 d' (n9 (r, (n : Int), es) (wo k ((n : Int)).toNat 0))) = _
    rw [hleaf, hlf, Int.toNat_natCast]
   rw [e2]
   simp only [e0, Bool.false_eq_true, if_false, ht0, Option.bind_some, hp]
   generalize n9 (r, (n : Int), es) (wo k n 0) = gp at *
   rw [hF]
   simp only [hw]
   rw [w0k (by omega), Option.bind_some, V06 (by omega), Option.bind_some, J0 (by simp only [List.length_take, List.length_drop]; omega), Option.bind_some, q1, ← hF]
theorem S0f {g : l0} (hg : O0 g = true) : ∃ v, z9 g = some (U0b g, v) := by
 obtain ⟨h1, h2, h3, h4⟩ := O1 hg
 have hq := l9 g (by omega)
 have hc := x00 g (by omega)
 obtain ⟨r, n, es⟩ := g
 simp only at h2 h3 h4
 obtain ⟨N, rfl⟩ : ∃ N : Nat, n = (N : Int) := ⟨n.toNat, by omega⟩
 have hn : inN N es := fun e he => ⟨(h1 e he).1, (h1 e he).2.1⟩
 obtain ⟨u, e1, e2⟩ := h0i N (by omega) N 0 Q0 [] (by omega) (Y0 (by omega)) rfl
 obtain ⟨l', q1⟩ := R0f N Q0 40 u r es (by omega) (by omega) hn h4 e2 (Y0 (by omega)) (by omega)
 refine ⟨l', ?_⟩
 unfold z9
 rw [show ((0 : Nat) : Int) = 0 from rfl] at e1
 simp only [hc, Option.bind_some, hq, hg, Bool.not_true, Bool.false_eq_true, if_false, e1, q1, V6]
 rfl
def x03 (g : l0) : l0 := B3 (U0b g)
theorem m08 {g : l0} (hf : N0 g = true) : l4 g = (g, []) := by
 obtain ⟨h1, h2⟩ := (V7 g).1 hf
 unfold l4
 rw [h1]
 show o00 40 g = _
 unfold o00
 rw [h2]
theorem a0h {g : l0} (hf : N0 g = true) : p8 g = some (x03 g) := by
 have hg := a8 hf
 obtain ⟨h1, h2, h3, h4⟩ := O1 hg
 have e1 := v03 g (by omega)
 rw [m08 hf] at e1
 obtain ⟨v, e2⟩ := Z0g hg
 have e3 := P09 (U0b g) (o02 40 hf)
 obtain ⟨r, n, es⟩ := g
 unfold p8 x03
 simp only [e1, Option.bind_some, e2]
 simp only [e3, Option.bind_some]
theorem b0h {g : l0} (hf : N0 g = true) : r8 g = some (x03 g) := by
 have hg := a8 hf
 obtain ⟨h1, h2, h3, h4⟩ := O1 hg
 have e1 := w03 g (by omega)
 rw [m08 hf] at e1
 obtain ⟨v, e2⟩ := S0f hg
 have e3 := w0f (U0b g) (o02 40 hf)
 obtain ⟨r, n, es⟩ := g
 unfold r8 x03
 simp only [e1, Option.bind_some, e2]
 simp only [e3, Option.bind_some]
end Go.Proofs.YtfdlgbfeceodeaaGreat
namespace Go.Proofs.YtfdlgbfeceodeaaGreat
open Go.H
set_option linter.unusedVariables false
set_option linter.unusedSimpArgs false
theorem D0k {N r u x v : Int} (hu : 0 ≤ u ∧ u < N) (hv : 0 ≤ v ∧ v < N) (hx : x ≠ 0 ∧ -r ≤ x ∧ x ≤ r) : (0 ≤ (stp u x v).1 ∧ (stp u x v).1 < N) ∧ (0 ≤ (stp u x v).2.2 ∧ (stp u x v).2.2 < N) ∧ 1 ≤ (stp u x v).2.1 ∧ (stp u x v).2.1 ≤ r := by
 unfold stp
 split <;> (simp only; omega)
theorem T0f {N r v : Int} (hv : 0 ≤ v ∧ v < N) : ∀ (w : List Int) (u n : Int), (0 ≤ u ∧ u < N) → 0 ≤ n → n + ((w.length - 1 : Nat) : Int) ≤ N → (∀ x ∈ w, x ≠ 0 ∧ -r ≤ x ∧ x ≤ r) →
  ∀ e ∈ T00 v w u n, (0 ≤ e.1 ∧ e.1 < N) ∧ (0 ≤ e.2.2 ∧ e.2.2 < N) ∧ 1 ≤ e.2.1 ∧ e.2.1 ≤ r
 | [], u, n, hu, h0, hn, hw, e, he => nomatch he
 | [x], u, n, hu, h0, hn, hw, e, he => by
  simp only [T00, List.mem_singleton] at he
  subst he
  exact D0k hu hv (hw x (List.mem_cons_self ..))
 | x :: y :: l, u, n, hu, h0, hn, hw, e, he => by
  simp only [List.length_cons] at hn
  simp only [T00] at he
  rcases List.mem_cons.1 he with rfl | he
  ·exact D0k hu ⟨h0, by omega⟩ (hw x (List.mem_cons_self ..))
  ·exact T0f hv (y :: l) n (n + 1) ⟨h0, by omega⟩ (by omega) (by simp only [List.length_cons]; omega) (fun z hz => hw z (List.mem_cons_of_mem _ hz)) e he
theorem y03 {g : l0} {u v : Int} {w : List Int} (hg : O0 g = true) (hu : 0 ≤ u ∧ u < g.2.1) (hv : 0 ≤ v ∧ v < g.2.1) (hw : Y2 g.1 w = true) : O0 (U2 g u w v).1 = true := by
 obtain ⟨q1, q2, q3, q4, q5⟩ := (d00 g).1 hg
 obtain ⟨wl, wx⟩ := e08 hw
 unfold U2
 cases hc : (!w.isEmpty && decide (g.2.1 + (w.length : Int) - 1 ≤ 40) && decide (g.2.2.length + w.length ≤ 120)) with
 | false => exact hg
 | true =>
  simp only [Bool.and_eq_true, decide_eq_true_eq, Bool.not_eq_true', List.isEmpty_eq_false_iff] at hc
  have hne : 1 ≤ w.length := by
   have := List.length_pos_iff.2 hc.1.1; omega
  have h1 := a02 (T00 v w u g.2.1) g.2.2
  have h2 := c06 v w u g.2.1
  simp only [cond_true]
  refine (d00 _).2 ⟨fun e he => ?_, q2, ⟨by simp only; omega, by simp only; omega⟩, by simp only; omega, Z00 O4 _ _ q5⟩
  simp only at he ⊢
  rcases (T7 O4 e _ _).1 he with h | h
  ·have := q1 e h
   omega
  ·exact T0f ⟨by omega, by omega⟩ w u g.2.1 ⟨by omega, by omega⟩ (by omega) (Int.le_refl _) (fun x hx => (wx x hx).2) e h
theorem E04 (g : l0) (u : Int) (w : List Int) (v : Int) : (U2 g u w v).1.1 = g.1 := by
 unfold U2
 cases (!w.isEmpty && decide (g.2.1 + (w.length : Int) - 1 ≤ 40) && decide (g.2.2.length + w.length ≤ 120)) <;> rfl
def B00 : List (List Int) → l0 → l0
 | [], g => g
 | w :: r, g => B00 r (U2 g 0 w 0).1
theorem R09 : ∀ (ws : List (List Int)) {g : l0}, O0 g = true → (∀ w ∈ ws, Y2 g.1 w = true) → O0 (B00 ws g) = true
 | [], g, hg, hw => hg
 | w :: r, g, hg, hw => by
  obtain ⟨q1, q2, q3, q4⟩ := O1 hg
  exact R09 r (y03 hg ⟨Int.le_refl _, by omega⟩ ⟨Int.le_refl _, by omega⟩ (hw w (List.mem_cons_self ..))) fun w' hw' => by
   rw [E04]; exact hw w' (List.mem_cons_of_mem _ hw')
theorem U0f {g : l0} {w : List Int} (hg : O0 g = true) (hw : Y2 g.1 w = true) : Q9 g w = some (U2 g 0 w 0) := by
 obtain ⟨q1, q2, q3, q4⟩ := O1 hg
 have h := z06 hg (u := 0) (v := 0) ⟨Int.le_refl _, by omega⟩ ⟨Int.le_refl _, by omega⟩ hw
 obtain ⟨r, n, es⟩ := g
 unfold Q9
 simp only [h, Option.bind_some]
theorem V0f {g : l0} {w : List Int} (hg : O0 g = true) (hw : Y2 g.1 w = true) : U9 g w = some (U2 g 0 w 0) := by
 obtain ⟨q1, q2, q3, q4⟩ := O1 hg
 have h := A06 hg (u := 0) (v := 0) ⟨Int.le_refl _, by omega⟩ ⟨Int.le_refl _, by omega⟩ hw
 obtain ⟨r, n, es⟩ := g
 unfold U9
 simp only [h, Option.bind_some]
theorem i0d (ws : List (List Int)) (hl : ws.length ≤ 1000) : ∀ (d k fuel : Nat) (g : l0), k + d = ws.length → d < fuel → O0 g = true → (∀ w ∈ ws, Y2 g.1 w = true) →
  V5 ws fuel (k : Int) g.1 g.2.1 g.2.2 = some (B00 (ws.drop k) g)
 | d, k, 0, g, hd, hf, hg, hw => by omega
 | 0, k, fuel + 1, g, hd, hf, hg, hw => by
  rw [V5.eq_2, if_neg (by simp; omega), D1 (by omega)]; rfl
 | d + 1, k, fuel + 1, g, hd, hf, hg, hw => by
  have hk : k < ws.length := by omega
  have hx := N5 hk
  have hwk := hw _ (List.getElem_mem hk)
  generalize ws[k] = w at hx hwk
  obtain ⟨q1, q2, q3, q4⟩ := O1 hg
  have ih := i0d ws hl d (k + 1) fuel (U2 g 0 w 0).1 (by omega) (by omega) (y03 hg ⟨Int.le_refl _, by omega⟩ ⟨Int.le_refl _, by omega⟩ hwk) (by rw [E04]; exact hw)
  rw [V5.eq_2, if_pos (by simp; omega), E3 hx, Option.bind_some, show (g.1, g.2.1, g.2.2) = g from rfl, U0f hg hwk, Option.bind_some, j2 hk (by omega), J1 hx]
  exact ih
theorem j0d (ws : List (List Int)) (hl : ws.length ≤ 1000) : ∀ (d k fuel : Nat) (g : l0), k + d = ws.length → d < fuel → O0 g = true → (∀ w ∈ ws, Y2 g.1 w = true) →
  l5 ws fuel (k : Int) g.1 g.2.1 g.2.2 = some (B00 (ws.drop k) g)
 | d, k, 0, g, hd, hf, hg, hw => by omega
 | 0, k, fuel + 1, g, hd, hf, hg, hw => by
  rw [l5.eq_2, if_neg (by simp; omega), D1 (by omega)]; rfl
 | d + 1, k, fuel + 1, g, hd, hf, hg, hw => by
  have hk : k < ws.length := by omega
  have hx := N5 hk
  have hwk := hw _ (List.getElem_mem hk)
  generalize ws[k] = w at hx hwk
  obtain ⟨q1, q2, q3, q4⟩ := O1 hg
  have ih := j0d ws hl d (k + 1) fuel (U2 g 0 w 0).1 (by omega) (by omega) (y03 hg ⟨Int.le_refl _, by omega⟩ ⟨Int.le_refl _, by omega⟩ hwk) (by rw [E04]; exact hw)
  rw [l5.eq_2, if_pos (by simp; omega), E3 hx, Option.bind_some, j2 hk (by omega), J1 hx]
  by_cases c : w = []
  ·subst c
   rw [if_neg (by simp)]
   have e : (U2 g 0 [] 0).1 = g := rfl
   rw [e] at ih
   rw [ih]
   show _ = some (B00 (ws.drop (k + 1)) (U2 g 0 [] 0).1)
   rw [e]
  ·have : 0 < w.length := List.length_pos_iff.2 c
   rw [if_pos (by simp; omega), show (g.1, g.2.1, g.2.2) = g from rfl, V0f hg hwk, Option.bind_some]
   exact ih
def d04 (r : Int) (ws : List (List Int)) : l0 × Bool := bif Q3 r ws then (B00 ws (r, 1, []), true) else ((0, 0, []), false)
theorem f09 {r : Int} {ws : List (List Int)} (h : Q3 r ws = true) : (1 ≤ r ∧ r ≤ 3) ∧ ws.length ≤ 6 ∧ ∀ w ∈ ws, Y2 r w = true := by
 simp only [Q3, inR, Bool.and_eq_true, decide_eq_true_eq] at h
 refine ⟨h.1.1.1, h.1.1.2, ?_⟩
 have hw : ∀ {ws : List (List Int)}, g06 r ws = true → ∀ w ∈ ws, Y2 r w = true := by
  intro ws
  induction ws with
  | nil => intro _ w hw; cases hw
  | cons v l ih =>
   intro h w hw
   simp only [g06, Bool.and_eq_true] at h
   rcases List.mem_cons.1 hw with rfl | hw
   ·exact h.1
   ·exact ih h.2 w hw
 exact hw h.1.2
theorem g09 {r : Int} (hr : 1 ≤ r ∧ r ≤ 3) : O0 (r, 1, []) = true := (d00 _).2 ⟨(fun e he => by cases he), hr, ⟨by simp, by simp⟩, by simp, List.Pairwise.nil⟩
theorem k0e (r : Int) (ws : List (List Int)) (hl : ws.length ≤ 140737488355328) (hs : J3 ws) : R9 r ws = some (d04 r ws) := by
 have h1 := v05 r ws hl hs
 unfold R9 d04
 rw [h1, Option.bind_some]
 cases hA : Q3 r ws with
 | false => rfl
 | true =>
  obtain ⟨hr, hn, hw⟩ := f09 hA
  have h := i0d ws (by omega) ws.length 0 Q0 (r, 1, []) (by omega) (Y0 (by omega)) (g09 hr) hw
  have h2 : P9 r = some ((r, 1, []), true) := by
   unfold P9
   rw [f02, Option.bind_some, if_neg (by simp [inR]; omega)]
  rw [if_neg (by simp), h2, Option.bind_some]
  simp only [] at h ⊢
  rw [show (0 : Int) = ((0 : Nat) : Int) from rfl, h]
  rfl
theorem l0e (r : Int) (ws : List (List Int)) (hl : ws.length ≤ 140737488355328) (hs : J3 ws) : V9 r ws = some (d04 r ws) := by
 have h1 := w05 r ws hl hs
 unfold V9 d04
 rw [h1, Option.bind_some]
 cases hA : Q3 r ws with
 | false => rfl
 | true =>
  obtain ⟨hr, hn, hw⟩ := f09 hA
  have h := j0d ws (by omega) ws.length 0 Q0 (r, 1, []) (by omega) (Y0 (by omega)) (g09 hr) hw
  have h2 : T9 r = some ((r, 1, []), true) := by
   unfold T9
   rw [Y01, Option.bind_some, if_neg (by simp [inR]; omega)]
  rw [if_neg (by simp), h2, Option.bind_some]
  simp only [] at h ⊢
  rw [show (0 : Int) = ((0 : Nat) : Int) from rfl, h]
  rfl
def W0f : l0 := (0, 0, [])
def H05 (p : F0) : Nat → l0 → l0 × Bool
 | 0, _ => (W0f, false)
 | d + 1, g => bif (M1 p g).2.2 then (bif (M1 p g).2.1 then H05 p d (M1 p g).1 else (x03 g, true)) else (W0f, false)
theorem h09 {p : F0} {g : l0} (h : (M1 p g).2.2 = true) : B4 p = true ∧ N0 g = true ∧ p.1 = g.1 := by
 unfold M1 at h
 cases hc : (B4 p && N0 g && decide (p.1 = g.1)) with
 | false => rw [hc] at h; cases h
 | true =>
  simp only [Bool.and_eq_true, decide_eq_true_eq] at hc
  exact ⟨hc.1.1, hc.1.2, hc.2⟩
theorem k0d {p : F0} {g : l0} (h : (M1 p g).2.1 = false) : (M1 p g).1 = g := by
 unfold M1 at h ⊢
 cases hc : (B4 p && N0 g && decide (p.1 = g.1)) with
 | false => rfl
 | true =>
  rw [hc] at h
  simp only [cond_true] at h ⊢
  cases hh : D04 g p.2 g.2.1.toNat 0 with
  | some q =>
   obtain ⟨v, i⟩ := q
   rw [hh] at h
   simp only [N0f] at h ⊢
   cases hi : p.2[i]? with
   | none => rfl
   | some w =>
    rw [hi] at h
    simp only at h ⊢
    cases ha : (U2 g (v : Int) w (v : Int)).2 with
    | false => rfl
    | true => rw [ha] at h; cases h
  | none =>
   rw [hh] at h
   simp only [O0f] at h ⊢
   cases hm : F6 g with
   | nil => rfl
   | cons e l =>
    rw [hm] at h
    simp only at h ⊢
    cases hv : (P1 g).2 with
    | false => rfl
    | true =>
     rw [hv] at h
     simp only [cond_true] at h ⊢
     cases he : (R7 (P1 g).1 (stp e.1 e.2.1 g.2.1)).2 with
     | false => rfl
     | true => rw [he] at h; cases h
theorem X0f {p : F0} {g : l0} (h : g.2.2.length ≤ 1000) : (M1 p g).1.2.2.length ≤ 1000 := by
 by_cases hf : (M1 p g).2.1 = false
 ·rw [k0d hf]; exact h
 ·unfold M1 at hf ⊢
  cases hc : (B4 p && N0 g && decide (p.1 = g.1)) with
  | false => exact h
  | true =>
   simp only [Bool.and_eq_true] at hc
   have hg := ((V7 g).1 hc.1.2).1
   have hgl := (O1 hg).2.2.2
   simp only [cond_true]
   cases D04 g p.2 g.2.1.toNat 0 with
   | some q =>
    obtain ⟨v, i⟩ := q
    simp only [N0f]
    cases p.2[i]? with
    | none => exact h
    | some w =>
     simp only
     cases (U2 g (v : Int) w (v : Int)).2 with
     | false => exact h
     | true =>
      have h1 := G05 hg (v : Int) w (v : Int)
      simp only [cond_true, l4]
      cases hG : O0 (U2 g (v : Int) w (v : Int)).1 with
      | false => simp only [cond_false]; omega
      | true =>
       have := (O1 (B05 40 hG)).2.2.2
       simp only [cond_true]; omega
   | none =>
    simp only [O0f]
    cases F6 g with
    | nil => exact h
    | cons e l =>
     simp only
     cases (P1 g).2 with
     | false => exact h
     | true =>
      simp only [cond_true]
      have h1 : (P1 g).1.2.2 = g.2.2 := by unfold P1; cases decide (g.2.1 < 40) <;> rfl
      have h2 : (R7 (P1 g).1 (stp e.1 e.2.1 g.2.1)).1.2.2.length ≤ g.2.2.length + 1 := by
       have := r02 (stp e.1 e.2.1 g.2.1) (P1 g).1.2.2
       unfold R7
       rw [h1] at this ⊢
       cases (decide (g.2.2.length < 120) && !decide (stp e.1 e.2.1 g.2.1 ∈ g.2.2)) with
       | false => simp only [cond_false, h1]; omega
       | true => simp only [cond_true]; omega
      cases (R7 (P1 g).1 (stp e.1 e.2.1 g.2.1)).2 with
      | false => exact h
      | true => simp only [cond_true]; omega
def p0l : (l0 × Bool) ⊕ (Int × Int × M0) → Option (l0 × Bool) := fun X => V6 X (fun S => match S with
 | (a, b, c) => some ((0, 0, []), false))
theorem k0i (p : F0) (hl : p.2.length ≤ 140737488355328) (hs : J3 p.2) : ∀ (d k fuel : Nat) (g : l0), k + d = 300 → d < fuel → g.2.2.length ≤ 1000 →
  (O2 p.1 p.2 fuel (k : Int) g.1 g.2.1 g.2.2).bind p0l = some (H05 p d g)
 | d, k, 0, g, hd, hf, hg => by omega
 | 0, k, fuel + 1, g, hd, hf, hg => by
  rw [O2.eq_2, if_neg (by simp; omega)]; rfl
 | d + 1, k, fuel + 1, g, hd, hf, hg => by
  have h1 := j08 p g hl hs (by omega)
  have h2 : (M1 p g).2.2 = true → (M1 p g).2.1 = false → p8 (M1 p g).1 = some (x03 g) := fun a b => by
   rw [k0d b]; exact a0h (h09 a).2.1
  have ih := k0i p hl hs d (k + 1) fuel (M1 p g).1 (by omega) (by omega) (X0f hg)
  rw [O2.eq_2, if_pos (by simp; omega), show (g.1, g.2.1, g.2.2) = g from rfl, show (p.1, p.2) = p from rfl, h1, Option.bind_some, j2 (show k < 1000 by omega) (by omega)]
  unfold H05
  revert h2 ih
  generalize M1 p g = q
  obtain ⟨g2, more, fine⟩ := q
  obtain ⟨a, b, c⟩ := g2
  intro h2 ih
  simp only at h2 ih ⊢
  cases fine with
  | false => rfl
  | true =>
   cases more with
   | true => exact ih
   | false =>
    simp only [Bool.not_true, Bool.not_false, Bool.false_eq_true, if_false, if_true, h2 rfl rfl, Option.bind_some]
    rfl
theorem l0i (p : F0) (hl : p.2.length ≤ 140737488355328) (hs : J3 p.2) : ∀ (d k fuel : Nat) (g : l0), k + d = 300 → d < fuel → g.2.2.length ≤ 1000 →
  (P2 p.1 p.2 fuel (k : Int) g.1 g.2.1 g.2.2).bind p0l = some (H05 p d g)
 | d, k, 0, g, hd, hf, hg => by omega
 | 0, k, fuel + 1, g, hd, hf, hg => by
  rw [P2.eq_2, if_neg (by simp; omega)]; rfl
 | d + 1, k, fuel + 1, g, hd, hf, hg => by
  have h1 := k08 p g hl hs (by omega)
  have h2 : (M1 p g).2.2 = true → r8 g = some (x03 g) := fun a => b0h (h09 a).2.1
  have ih := l0i p hl hs d (k + 1) fuel (M1 p g).1 (by omega) (by omega) (X0f hg)
  rw [P2.eq_2, if_pos (by simp; omega), show (g.1, g.2.1, g.2.2) = g from rfl, show (p.1, p.2) = p from rfl, h1, Option.bind_some, j2 (show k < 1000 by omega) (by omega)]
  unfold H05
  revert h2 ih
  generalize M1 p g = q
  obtain ⟨g2, more, fine⟩ := q
  obtain ⟨a, b, c⟩ := g2
  intro h2 ih
  simp only at h2 ih ⊢
  cases fine with
  | false => rfl
  | true =>
   cases more with
   | true => exact ih
   | false =>
    simp only [Bool.not_true, Bool.not_false, Bool.false_eq_true, if_false, if_true, h2 rfl, Option.bind_some]
    rfl
def J9 (p : F0) (ws : List (List Int)) : l0 × Bool := bif B4 p && Q3 p.1 ws then H05 p 300 (l4 (B00 ws (p.1, 1, []))).1 else (W0f, false)
theorem n08 {r : Int} {ws : List (List Int)} (h : Q3 r ws = true) : (B00 ws (r, 1, [])).2.2.length ≤ 120 ∧ (l4 (B00 ws (r, 1, []))).1.2.2.length ≤ 1000 := by
 obtain ⟨hr, hn, hw⟩ := f09 h
 have hg := R09 ws (g09 hr) hw
 refine ⟨(O1 hg).2.2.2, ?_⟩
 have := (G3 (I0b hg)).2.2.2
 omega
theorem c0h (p : F0) (ws : List (List Int)) (hl : p.2.length ≤ 140737488355328) (hs : J3 p.2) (hl2 : ws.length ≤ 140737488355328) (hs2 : J3 ws) : O6 p ws = some (J9 p ws) := by
 have h1 := Y8 p hl hs
 have h2 := k0e p.1 ws hl2 hs2
 have h3 : Q3 p.1 ws = true → M6 (B00 ws (p.1, 1, [])) = some (l4 (B00 ws (p.1, 1, []))) := fun h => v03 _ (by have := (n08 h).1; omega)
 have h4 : Q3 p.1 ws = true → (O2 p.1 p.2 Q0 ((0 : Nat) : Int) (l4 (B00 ws (p.1, 1, []))).1.1 (l4 (B00 ws (p.1, 1, []))).1.2.1 (l4 (B00 ws (p.1, 1, []))).1.2.2).bind p0l = some (H05 p 300 (l4 (B00 ws (p.1, 1, []))).1) := fun h => k0i p hl hs 300 0 Q0 _ rfl (Y0 (by omega)) (n08 h).2
 unfold d04 at h2
 unfold J9
 obtain ⟨pr, rels⟩ := p
 unfold O6
 simp only at h2 h3 h4 ⊢
 rw [h2, Option.bind_some]
 cases hA : Q3 pr ws with
 | false =>
  rw [Bool.and_false]; rfl
 | true =>
  have h3 := h3 hA
  have h4 := h4 hA
  simp only [cond_true, Bool.not_true, Bool.not_false, T1, cond_false, h1, Option.bind_some, Bool.and_true]
  cases hP : B4 (pr, rels) with
  | false => rfl
  | true =>
   rw [if_neg (by simp)]
   revert h3 h4
   generalize B00 ws (pr, 1, []) = fl
   intro h3 h4
   obtain ⟨a, b, c⟩ := fl
   simp only [h3, Option.bind_some]
   exact h4
theorem d0h (p : F0) (ws : List (List Int)) (hl : p.2.length ≤ 140737488355328) (hs : J3 p.2) (hl2 : ws.length ≤ 140737488355328) (hs2 : J3 ws) : P6 p ws = some (J9 p ws) := by
 have h1 := v00 p hl hs
 have h2 := l0e p.1 ws hl2 hs2
 have h3 : Q3 p.1 ws = true → N6 (B00 ws (p.1, 1, [])) = some (l4 (B00 ws (p.1, 1, []))) := fun h => w03 _ (by have := (n08 h).1; omega)
 have h4 : Q3 p.1 ws = true → (P2 p.1 p.2 Q0 ((0 : Nat) : Int) (l4 (B00 ws (p.1, 1, []))).1.1 (l4 (B00 ws (p.1, 1, []))).1.2.1 (l4 (B00 ws (p.1, 1, []))).1.2.2).bind p0l = some (H05 p 300 (l4 (B00 ws (p.1, 1, []))).1) := fun h => l0i p hl hs 300 0 Q0 _ rfl (Y0 (by omega)) (n08 h).2
 unfold d04 at h2
 unfold J9
 obtain ⟨pr, rels⟩ := p
 unfold P6
 simp only at h2 h3 h4 ⊢
 rw [h1, Option.bind_some]
 cases hP : B4 (pr, rels) with
 | false => rfl
 | true =>
  rw [if_neg (by simp), h2, Option.bind_some]
  cases hA : Q3 pr ws with
  | false => rfl
  | true =>
   have h3 := h3 hA
   have h4 := h4 hA
   simp only [cond_true, Bool.not_true, Bool.false_eq_true, if_false]
   revert h3 h4
   generalize B00 ws (pr, 1, []) = fl
   intro h3 h4
   obtain ⟨a, b, c⟩ := fl
   simp only [h3, Option.bind_some]
   exact h4
end Go.Proofs.YtfdlgbfeceodeaaGreat
namespace Go.Proofs.YtfdlgbfeceodeaaGreat
open Go.H
set_option linter.unusedVariables false
set_option linter.unusedSimpArgs false
theorem S09 (p : F0) : ∀ (d : Nat) (g : l0), H05 p d g = (W0f, false) ∨ ∃ g', N0 g' = true ∧ H05 p d g = (x03 g', true)
 | 0, g => .inl rfl
 | d + 1, g => by
  unfold H05
  cases h : (M1 p g).2.2 with
  | false => exact .inl rfl
  | true =>
   cases h2 : (M1 p g).2.1 with
   | true => exact S09 p d _
   | false => exact .inr ⟨g, (h09 h).2.1, rfl⟩
theorem e0h (p : F0) (ws : List (List Int)) : J9 p ws = (W0f, false) ∨ ∃ g', N0 g' = true ∧ J9 p ws = (x03 g', true) := by
 unfold J9
 cases B4 p && Q3 p.1 ws with
 | false => exact .inl rfl
 | true => exact S09 p 300 _
end Go.Proofs.YtfdlgbfeceodeaaGreat
namespace Go.Proofs.YtfdlgbfeceodeaaGreat
open Go.H
set_option linter.unusedVariables false
set_option linter.unusedSimpArgs false
theorem V0b : ∀ (d : Nat) {g : l0}, O0 g = true → g.2.1.toNat ≤ d + 1 → G9 (R02 d g) = none
 | 0, g, hg, hn => by
  cases e : G9 g with
  | none => exact e
  | some k => have := j0e e; omega
 | d + 1, g, hg, hn => by
  unfold R02
  cases e : G9 g with
  | none => exact e
  | some k =>
   obtain ⟨h1, h2, h3, h4⟩ := e09 hg e
   exact V0b d (X06 hg h1 h3 h4) (by show (((wo k g.2.1.toNat 0).length : Nat) : Int).toNat ≤ d + 1; omega)
theorem d0j {g : l0} (hf : N0 g = true) {v x y z : Int} (hy : y ∈ C8 v x g.2.2) (hz : z ∈ C8 v x g.2.2) : y = z := by
 obtain ⟨e, he, h1⟩ := U7.1 hy
 obtain ⟨e', he', h2⟩ := U7.1 hz
 by_cases hne : e = e'
 ·subst hne
  rcases h1 with ⟨a, b, c, rfl⟩ | ⟨a, b, c, rfl⟩ <;> rcases h2 with ⟨a', b', c', rfl⟩ | ⟨a', b', c', rfl⟩ <;> first | rfl | omega
 ·have hc := (d09 (a8 hf)).1 hf e he e' he' hne
  unfold N02 at hc
  simp only [Bool.and_eq_false_iff, Bool.or_eq_false_iff, decide_eq_false_iff_not] at hc
  rcases h1 with ⟨a, b, c, d⟩ | ⟨a, b, c, d⟩ <;> rcases h2 with ⟨a', b', c', d'⟩ | ⟨a', b', c', d'⟩ <;> first | omega | (exfalso; rcases hc with hc | ⟨hc1, hc2⟩ <;> omega)
theorem Y06 (g : l0) (v x : Int) : (G2 g v x = -1 ∧ C8 v x g.2.2 = []) ∨ G2 g v x ∈ C8 v x g.2.2 := by
 unfold G2
 cases e : U00 g v x with
 | nil =>
  left
  refine ⟨rfl, List.eq_nil_iff_forall_not_mem.2 fun y hy => ?_⟩
  have : y ∈ U00 g v x := (T7 P00 y _ _).2 (.inr hy)
  rw [e] at this; cases this
 | cons a l => exact .inr (S0c (by rw [e]; exact List.mem_cons_self ..))
theorem y0a {g : l0} (hf : N0 g = true) {v x y : Int} (hy : y ∈ C8 v x g.2.2) : G2 g v x = y := by
 rcases Y06 g v x with ⟨_, h⟩ | h
 ·rw [h] at hy; cases hy
 ·exact d0j hf h hy
theorem Y0f : ∀ (d i j : Nat), i ≤ j → j < i + d → (j : Int) ∈ o9 d i ∧ -(j : Int) ∈ o9 d i
 | 0, i, j, h1, h2 => by omega
 | d + 1, i, j, h1, h2 => by
  simp only [o9, List.mem_cons]
  by_cases c : j = i
  ·subst c; simp
  ·obtain ⟨a, b⟩ := Y0f d (i + 1) j (by omega) (by omega)
   exact ⟨.inr (.inr a), .inr (.inr b)⟩
theorem l0d (g : l0) (v : Int) : ∀ (ls u : List Int) (x : Int), x ∈ ls → 0 ≤ G2 g v x → G2 g v x ∈ g01 g v ls u
 | y :: r, u, x, hx, h0 => by
  rw [g01]
  rcases List.mem_cons.1 hx with rfl | hx
  ·obtain ⟨t, e⟩ := I01 g v r (h06 u (G2 g v x))
   rw [e]
   refine List.mem_append_left _ ?_
   unfold h06
   split
   ·exact List.mem_append_right _ (List.mem_singleton.2 rfl)
   ·rename_i h
    by_cases hm : G2 g v x ∈ u
    ·exact hm
    ·exact absurd ⟨h0, hm⟩ h
  ·exact l0d g v r _ x hx h0
theorem W0b (g : l0) (ls : List Int) : ∀ (f i : Nat) (u : List Int), ∃ t, E8 g ls f i u = u ++ t
 | 0, i, u => ⟨[], by simp [E8]⟩
 | f + 1, i, u => by
  unfold E8
  split
  ·rename_i v _
   obtain ⟨t1, e1⟩ := I01 g v ls u
   obtain ⟨t2, e2⟩ := W0b g ls f (i + 1) (g01 g v ls u)
   exact ⟨t1 ++ t2, by rw [e2, e1, List.append_assoc]⟩
  ·exact ⟨[], by simp⟩
theorem X0b {r : Int} {n : Nat} {es : List C0} (hg : inG (r, (n : Int), es)) (ls : List Int) : ∀ (f i : Nat) (u : List Int), gud n u → n + 1 ≤ f + i → i ≤ u.length →
  (∀ j, j < i → ∀ v, u[j]? = some v → ∀ x ∈ ls, 0 ≤ G2 (r, (n : Int), es) v x → G2 (r, (n : Int), es) v x ∈ u) →
  ∀ v ∈ E8 (r, (n : Int), es) ls f i u, ∀ x ∈ ls, 0 ≤ G2 (r, (n : Int), es) v x → G2 (r, (n : Int), es) v x ∈ E8 (r, (n : Int), es) ls f i u
 | 0, i, u, hu, hn, hi, hc => by have := O02 n u hu.1 hu.2; omega
 | f + 1, i, u, hu, hn, hi, hc => by
  unfold E8
  cases e : u[i]? with
  | none =>
   have : i = u.length := by have := List.getElem?_eq_none_iff.1 e; omega
   show ∀ v ∈ u, ∀ x ∈ ls, 0 ≤ G2 (r, (n : Int), es) v x → G2 (r, (n : Int), es) v x ∈ u
   intro v hv x hx h0
   obtain ⟨j, hj⟩ := List.getElem?_of_mem hv
   exact hc j (by have := (List.getElem?_eq_some_iff.1 hj).1; omega) v hj x hx h0
  | some w =>
   have hil := (List.getElem?_eq_some_iff.1 e).1
   obtain ⟨t, et⟩ := I01 (r, (n : Int), es) w ls u
   refine X0b hg ls f (i + 1) _ (s02 hg w ls u hu) (by omega) (by rw [et, List.length_append]; omega) fun j hj v hv x hx h0 => ?_
   by_cases c : j = i
   ·subst c
    rw [et, List.getElem?_append_left hil, e] at hv
    cases hv
    exact l0d _ _ ls u x hx h0
   ·rw [et, List.getElem?_append_left (by omega)] at hv
    rw [et]
    exact List.mem_append_left _ (hc j (by omega) v hv x hx h0)
theorem Y0b (g : l0) : ∃ t, j5 g = 0 :: t := by
 obtain ⟨t, e⟩ := W0b g (o9 g.1.toNat 1) (g.2.1.toNat + 1) 0 [0]
 exact ⟨t, e⟩
theorem Z0f {g : l0} (hf : N0 g = true) {x : Int} (h : Rch g.2.2 0 x) : x ∈ j5 g := by
 obtain ⟨q1, q2, q3, q4⟩ := G3 hf
 have hz := Y0b g
 have hclo : ∀ v ∈ j5 g, ∀ x ∈ o9 g.1.toNat 1, 0 ≤ G2 g v x → G2 g v x ∈ j5 g := by
  obtain ⟨r, n, es⟩ := g
  simp only at q2 q3
  obtain ⟨N, rfl⟩ : ∃ N : Nat, n = (N : Int) := ⟨n.toNat, by omega⟩
  exact X0b q1 _ (((N : Int)).toNat + 1) 0 [0] ⟨by simp, fun x hx => by simp at hx; subst hx; omega⟩ (by simp only [Int.toNat_natCast]; omega) (Nat.zero_le _) (fun j hj => by omega)
 refine Rch.sub (P := fun x => x ∈ j5 g) ?_ (fun e he => ?_) h
 ·obtain ⟨t, e⟩ := hz
  rw [e]; exact List.mem_cons_self ..
 ·have hq := q1 e he
  obtain ⟨j, hj⟩ : ∃ j : Nat, e.2.1 = (j : Int) := ⟨e.2.1.toNat, by omega⟩
  obtain ⟨l1, l2⟩ := Y0f g.1.toNat 1 j (by omega) (by omega)
  have n1 : G2 g e.1 (j : Int) = e.2.2 := y0a hf (U7.2 ⟨e, he, .inl ⟨by omega, hj, rfl, rfl⟩⟩)
  have n2 : G2 g e.2.2 (-(j : Int)) = e.1 := y0a hf (U7.2 ⟨e, he, .inr ⟨by omega, by omega, rfl, rfl⟩⟩)
  constructor
  ·intro h1
   have := hclo e.1 h1 (j : Int) l1 (by rw [n1]; omega)
   rwa [n1] at this
  ·intro h1
   have := hclo e.2.2 h1 (-(j : Int)) l2 (by rw [n2]; omega)
   rwa [n2] at this
theorem m0e {bad : Nat → Bool} : ∀ {d v : Nat}, lf bad d v = none → ∀ k, v ≤ k → k < v + d → bad k = false
 | 0, v, h, k, h1, h2 => by omega
 | d + 1, v, h, k, h1, h2 => by
  unfold lf at h
  cases hb : bad v with
  | true => rw [hb] at h; cases h
  | false =>
   rw [hb] at h
   by_cases c : k = v
   ·rw [c]; exact hb
   ·exact m0e (d := d) (v := v + 1) h k (by omega) (by omega)
theorem Z0b {bad : Nat → Bool} : ∀ {d v : Nat}, (∀ k, v ≤ k → k < v + d → bad k = false) → lf bad d v = none
 | 0, v, h => rfl
 | d + 1, v, h => by
  unfold lf
  rw [h v (Nat.le_refl _) (by omega)]
  exact Z0b fun k h1 h2 => h k (by omega) (by omega)
theorem e0j {g : l0} (hf : N0 g = true) (hl : G9 g = none) {x : Int} (h0 : 0 ≤ x) (h1 : x < g.2.1) : x ∈ j5 g := by
 refine Z0f hf ?_
 by_cases c : x = 0
 ·subst c; exact .base
 ·have := m0e hl x.toNat (by omega) (by omega)
  unfold c0e at this
  simp only [Bool.or_eq_false_iff, Bool.not_eq_false', decide_eq_true_eq] at this
  have h3 := this.2
  rw [show ((x.toNat : Nat) : Int) = x by omega] at h3
  exact (x0a _ _ _).1 h3
theorem m0d {n : Nat} : ∀ (o : List Int) (k : Nat) (A : List Int), A.length = n → inV n o → o.Nodup → ∀ (i : Nat) (v : Int), o[i]? = some v → getI (F9 A k o) v = ((k + i : Nat) : Int)
 | [], k, A, hA, ho, hd, i, v, hi => by simp at hi
 | w :: r, k, A, hA, ho, hd, i, v, hi => by
  have hw := ho w (List.mem_cons_self ..)
  obtain ⟨hd1, hd2⟩ := List.nodup_cons.1 hd
  cases i with
  | zero =>
   simp at hi; subst hi
   rw [F9, E0b r _ _ w (by simp [hA]) (fun u hu => ho u (List.mem_cons_of_mem _ hu)) hw.1 hd1, Z01 hw.1 (by omega) hw.1, if_pos rfl]; rfl
  | succ i =>
   rw [F9, m0d r (k + 1) _ (by simp [hA]) (fun u hu => ho u (List.mem_cons_of_mem _ hu)) hd2 i v (by simpa using hi)]
   omega
theorem E0k {n : Nat} {o : List Int} (ho : inV n o) (hd : o.Nodup) {i : Nat} {v : Int} (hi : o[i]? = some v) : getI (plc n o) v = (i : Int) := by
 have := m0d o 0 (List.replicate n (-1)) (by simp) ho hd i v hi
 rw [Nat.zero_add] at this; exact this
theorem f0h (P : List Int) : ∀ (es : List C0), (∀ e ∈ es, 0 ≤ getI P e.1 ∧ 0 ≤ getI P e.2.2) → pE P es = es.map fun e => (getI P e.1, e.2.1, getI P e.2.2)
 | [], h => rfl
 | e :: r, h => by
  have h1 := h e (List.mem_cons_self ..)
  unfold pE
  rw [show (decide (0 ≤ getI P e.1) && decide (0 ≤ getI P e.2.2)) = true by simp [h1.1, h1.2], f0h P r fun e' he' => h e' (List.mem_cons_of_mem _ he')]
  rfl
theorem n0d (e : C0) : ∀ {l : List C0}, e ∉ l → (g9 H0 e l).Perm (e :: l)
 | [], _ => List.Perm.refl _
 | y :: l, h => by
  have ih := n0d e (l := l) fun hm => h (List.mem_cons_of_mem _ hm)
  unfold g9
  split
  ·exact List.Perm.refl _
  ·split
   ·rename_i c
    exact absurd (O4.eq _ _ c) fun hh => h (by rw [hh]; exact List.mem_cons_self ..)
   ·exact (List.Perm.cons y ih).trans (List.Perm.swap e y l)
theorem T09 : ∀ (r acc : List C0), (acc ++ r).Nodup → (o5 H0 acc r).Perm (acc ++ r)
 | [], acc, h => by simp [o5]
 | x :: r, acc, h => by
  have hm : (acc ++ x :: r).Perm (x :: (acc ++ r)) := List.perm_middle
  have hn := hm.nodup_iff.1 h
  have hx : x ∉ acc := fun h1 => (List.nodup_cons.1 hn).1 (List.mem_append_left _ h1)
  have hp := n0d x hx
  have hp2 : (g9 H0 x acc ++ r).Perm (x :: (acc ++ r)) := hp.append_right r
  rw [o5]
  exact ((T09 r _ (hp2.nodup_iff.2 hn)).trans hp2).trans hm.symm
theorem f0j (v : Int) {l l' : List C0} (h : l.Perm l') : w01 v l = w01 v l' := by
 induction h with
 | nil => rfl
 | cons x _ ih => simp only [w01, ih]
 | swap x y l => simp only [w01]; omega
 | trans _ _ h1 h2 => rw [h1, h2]
theorem a0g {φ : Int → Int} {v : Int} : ∀ (es : List C0), (∀ e ∈ es, (φ e.1 = φ v ↔ e.1 = v) ∧ (φ e.2.2 = φ v ↔ e.2.2 = v)) → w01 (φ v) (es.map fun e => (φ e.1, e.2.1, φ e.2.2)) = w01 v es
 | [], h => rfl
 | e :: r, h => by
  obtain ⟨h1, h2⟩ := h e (List.mem_cons_self ..)
  have ih := a0g r fun e' he' => h e' (List.mem_cons_of_mem _ he')
  simp only [List.map_cons, w01, ih, f0k]
  congr 2
  ·by_cases c : e.1 = v
   ·rw [if_pos (h1.2 c), if_pos c]
   ·rw [if_neg fun q => c (h1.1 q), if_neg c]
  ·by_cases c : e.2.2 = v
   ·rw [if_pos (h2.2 c), if_pos c]
   ·rw [if_neg fun q => c (h2.1 q), if_neg c]
theorem F0k : ∀ (m : Nat) (o : List Int), (∀ i : Nat, i < m → (i : Int) ∈ o) → m ≤ o.length
 | 0, o, h => Nat.zero_le _
 | m + 1, o, h => by
  have hm := h m (by omega)
  have h1 := F0k m (o.erase (m : Int)) fun i hi => (List.mem_erase_of_ne (by omega)).2 (h i (by omega))
  rw [List.length_erase_of_mem hm] at h1
  have := List.length_pos_of_mem hm
  omega
theorem g0j {es : List C0} (hA : Asc H0 es) : es.Nodup := by
 refine List.Pairwise.imp (fun {a b} h e => ?_) hA
 rw [e, O4.refl] at h; omega
theorem b0g {es : List C0} (hA : Asc H0 es) : o5 H0 [] es = es :=
 v04 O4 (Z00 O4 _ _ .nil) hA fun x => by rw [T7 O4]; simp
theorem g0h {t : l0} (hf : N0 t = true) (hl : G9 t = none) : S00 (B3 t) = true := by
 have hg := a8 hf
 obtain ⟨q1, q2, q3, q4⟩ := G3 hf
 have hA := c04 hg
 obtain ⟨⟨hd, ho⟩, ho1⟩ := b06 hf
 have hlen := O02 _ _ hd ho
 have hall : ∀ x : Int, 0 ≤ x → x < t.2.1 → x ∈ j5 t := fun x h0 h1 => e0j hf hl h0 h1
 obtain ⟨tl, hz⟩ := Y0b t
 obtain ⟨n, hn⟩ : ∃ n : Nat, t.2.1 = (n : Int) := ⟨t.2.1.toNat, by omega⟩
 have hnt : t.2.1.toNat = n := by omega
 rw [hnt] at ho hlen
 have hol : (j5 t).length = n := by
  have := F0k n (j5 t) fun i hi => hall _ (by omega) (by omega)
  omega
 let P : Int → Int := getI (plc n (j5 t))
 have hP : ∀ (i : Nat) (v : Int), (j5 t)[i]? = some v → P v = (i : Int) := fun i v hi => E0k ho hd hi
 have hPr : ∀ x : Int, 0 ≤ x → x < t.2.1 → 0 ≤ P x ∧ P x < (n : Int) := fun x h0 h1 => by
  obtain ⟨i, hi⟩ := List.getElem?_of_mem (hall x h0 h1)
  have := (List.getElem?_eq_some_iff.1 hi).1
  rw [hP i x hi]; omega
 have hPi : ∀ x y : Int, 0 ≤ x → x < t.2.1 → 0 ≤ y → y < t.2.1 → P x = P y → x = y := fun x y h0 h1 h2 h3 h => i0e ho hd h0 h2 (hPr x h0 h1).1 h
 have hP0 : P 0 = 0 := hP 0 0 (by rw [hz]; rfl)
 have hpE : pE (plc n (j5 t)) t.2.2 = t.2.2.map fun e => (P e.1, e.2.1, P e.2.2) := f0h _ _ fun e he => by
  have := q1 e he
  exact ⟨(hPr e.1 this.1.1 this.1.2).1, (hPr e.2.2 this.2.1.1 this.2.1.2).1⟩
 have hC : B3 t = (t.1, (n : Int), o5 H0 [] (t.2.2.map fun e => (P e.1, e.2.1, P e.2.2))) := by
  unfold B3 n9
  rw [hnt, hpE, hol]
 have hinjE : ∀ e ∈ t.2.2, ∀ e' ∈ t.2.2, ((P e.1, e.2.1, P e.2.2) : C0) = (P e'.1, e'.2.1, P e'.2.2) → e = e' := fun e he e' he' h => by
  have a := q1 e he
  have b := q1 e' he'
  simp only [Prod.mk.injEq] at h
  have h1 := hPi _ _ a.1.1 a.1.2 b.1.1 b.1.2 h.1
  have h2 := hPi _ _ a.2.1.1 a.2.1.2 b.2.1.1 b.2.1.2 h.2.2
  obtain ⟨e0, e1, e2⟩ := e
  obtain ⟨f0, f1, f2⟩ := e'
  simp only at h1 h2 h
  rw [h1, h2, h.2.1]
 have hmap : (t.2.2.map fun e => ((P e.1, e.2.1, P e.2.2) : C0)).Nodup := by
  have := g0j hA
  rw [List.Nodup, List.pairwise_map]
  exact List.Pairwise.imp_of_mem (fun {a b} ha hb h e => h (hinjE a ha b hb e)) this
 have hmem : ∀ e', e' ∈ (B3 t).2.2 ↔ ∃ e ∈ t.2.2, e' = (P e.1, e.2.1, P e.2.2) := fun e' => by
  rw [hC]
  simp only
  rw [T7 O4]
  simp only [List.not_mem_nil, false_or, List.mem_map]
  exact ⟨fun ⟨e, h1, h2⟩ => ⟨e, h1, h2.symm⟩, fun ⟨e, h1, h2⟩ => ⟨e, h1, h2.symm⟩⟩
 have hcf : N0 (B3 t) = true := Q09 hf (by rw [hnt]; exact ho) hd ho1 (by omega)
 have hcg := a8 hcf
 have hn1 : (B3 t).2.1 = (n : Int) := by rw [hC]
 have hdeg : ∀ v : Int, 0 ≤ v → v < t.2.1 → w01 (P v) (B3 t).2.2 = w01 v t.2.2 := fun v h0 h1 => by
  rw [hC]
  simp only
  rw [f0j _ (T09 _ [] (by simpa using hmap)), List.nil_append]
  refine a0g _ fun e he => ?_
  have := q1 e he
  exact ⟨⟨fun h => hPi _ _ this.1.1 this.1.2 h0 h1 h, fun h => by rw [h]⟩, ⟨fun h => hPi _ _ this.2.1.1 this.2.1.2 h0 h1 h, fun h => by rw [h]⟩⟩
 have hrch : ∀ x, Rch t.2.2 0 x → Rch (B3 t).2.2 0 (P x) := fun x hx =>
  Rch.sub (P := fun x => Rch (B3 t).2.2 0 (P x)) (by show Rch _ 0 (P 0); rw [hP0]; exact .base) (fun e he => Rch.closed (P e.1, e.2.1, P e.2.2) ((hmem _).2 ⟨e, he, rfl⟩)) hx
 have hleaf : G9 (B3 t) = none := by
  unfold G9
  refine Z0b fun k k1 k2 => ?_
  rw [hn1, Int.toNat_natCast] at k2
  obtain ⟨v, hv⟩ : ∃ v, (j5 t)[k]? = some v := ⟨_, List.getElem?_eq_getElem (by omega)⟩
  have hvr := ho v (List.mem_of_getElem? hv)
  have hPv := hP k v hv
  have hv0 : v ≠ 0 := fun h => by rw [h, hP0] at hPv; omega
  have hb := m0e hl v.toNat (by omega) (by omega)
  unfold c0e at hb ⊢
  rw [show ((v.toNat : Nat) : Int) = v by omega] at hb
  simp only [Bool.or_eq_false_iff, Bool.not_eq_false', decide_eq_true_eq, decide_eq_false_iff_not] at hb ⊢
  refine ⟨?_, ?_⟩
  ·rw [← hPv, hdeg v hvr.1 (by omega)]; exact hb.1
  ·rw [← hPv]
   exact (x0a _ _ _).2 (hrch v ((x0a _ _ _).1 hb.2))
 have hnext : ∀ v x : Int, 0 ≤ v → v < t.2.1 → (G2 t v x = -1 ∧ G2 (B3 t) (P v) x = -1) ∨ ((0 ≤ G2 t v x ∧ G2 t v x < t.2.1) ∧ G2 (B3 t) (P v) x = P (G2 t v x)) := fun v x h0 h1 => by
  rcases Y06 t v x with ⟨e1, e2⟩ | e1
  ·left
   refine ⟨e1, ?_⟩
   rcases Y06 (B3 t) (P v) x with ⟨c1, c2⟩ | c1
   ·exact c1
   ·exfalso
    obtain ⟨e', he', hh⟩ := U7.1 c1
    obtain ⟨e, he, rfl⟩ := (hmem e').1 he'
    have hq := q1 e he
    have : ∃ y, y ∈ C8 v x t.2.2 := by
     rcases hh with ⟨a, b, c, _⟩ | ⟨a, b, c, _⟩
     ·exact ⟨_, U7.2 ⟨e, he, .inl ⟨a, b, hPi _ _ hq.1.1 hq.1.2 h0 h1 c, rfl⟩⟩⟩
     ·exact ⟨_, U7.2 ⟨e, he, .inr ⟨a, b, hPi _ _ hq.2.1.1 hq.2.1.2 h0 h1 c, rfl⟩⟩⟩
    obtain ⟨y, hy⟩ := this
    rw [e2] at hy; cases hy
  ·right
   generalize G2 t v x = y at e1
   obtain ⟨e, he, hh⟩ := U7.1 e1
   have hq := q1 e he
   rcases hh with ⟨a, b, c, rfl⟩ | ⟨a, b, c, rfl⟩
   ·exact ⟨hq.2.1, y0a hcf (U7.2 ⟨_, (hmem _).2 ⟨e, he, rfl⟩, .inl ⟨a, b, by show P e.1 = P v; rw [c], rfl⟩⟩)⟩
   ·exact ⟨hq.1, y0a hcf (U7.2 ⟨_, (hmem _).2 ⟨e, he, rfl⟩, .inr ⟨a, b, by show P e.2.2 = P v; rw [c], rfl⟩⟩)⟩
 have inR' : ∀ u : List Int, gud n u → ∀ x ∈ u, 0 ≤ x ∧ x < t.2.1 := fun u hu x hx => by have := hu.2 x hx; omega
 have hgt : inG (t.1, (n : Int), t.2.2) := by
  have := q1
  intro e he
  have := q1 e he
  rw [hn] at this; exact this
 have het : (t.1, (n : Int), t.2.2) = t := by
  rw [← hn]
 have hS : ∀ (u : List Int) (y z : Int), gud n u → (y = -1 ∧ z = -1) ∨ ((0 ≤ y ∧ y < t.2.1) ∧ z = P y) → h06 (u.map P) z = (h06 u y).map P := fun u y z hu h => by
  unfold h06
  rcases h with ⟨rfl, rfl⟩ | ⟨⟨h0, h1⟩, rfl⟩
  ·rw [if_neg (by omega), if_neg (by omega)]
  ·have hm : P y ∈ u.map P ↔ y ∈ u := by
    constructor
    ·intro h
     obtain ⟨x, hx, e⟩ := List.mem_map.1 h
     have := inR' u hu x hx
     rw [← hPi x y this.1 this.2 h0 h1 e]; exact hx
    ·exact fun h => List.mem_map.2 ⟨y, h, rfl⟩
   by_cases c : y ∈ u
   ·rw [if_neg fun q => q.2 (hm.2 c), if_neg fun q => q.2 c]
   ·rw [if_pos ⟨(hPr y h0 h1).1, fun q => c (hm.1 q)⟩, if_pos ⟨h0, c⟩]; simp
 have hIn : ∀ (v : Int), 0 ≤ v → v < t.2.1 → ∀ (ls u : List Int), gud n u → g01 (B3 t) (P v) ls (u.map P) = (g01 t v ls u).map P := fun v h0 h1 ls => by
  induction ls with
  | nil => intro u hu; rfl
  | cons x l ih =>
   intro u hu
   have hx : G2 t v x = -1 ∨ (0 ≤ G2 t v x ∧ G2 t v x < (n : Int)) := by
    rcases hnext v x h0 h1 with ⟨a, _⟩ | ⟨a, _⟩
    ·exact .inl a
    ·exact .inr (by omega)
   rw [g01, g01, hS u _ _ hu (hnext v x h0 h1), ih _ (a0i hu hx)]
 have hOut : ∀ (f i : Nat) (u : List Int) (ls : List Int), gud n u → E8 (B3 t) ls f i (u.map P) = (E8 t ls f i u).map P := fun f => by
  induction f with
  | zero => intro i u ls hu; rfl
  | succ f ih =>
   intro i u ls hu
   unfold E8
   rw [List.getElem?_map]
   cases e : u[i]? with
   | none => rfl
   | some v =>
    have hv := inR' u hu v (List.mem_of_getElem? e)
    have hgi : gud n (g01 t v ls u) := by
     have := s02 hgt v ls u hu
     rw [het] at this; exact this
    simp only [Option.map_some]
    rw [hIn v hv.1 hv.2 ls u hu]
    exact ih (i + 1) _ ls hgi
 have hord : j5 (B3 t) = (j5 t).map P := by
  have h1 : (B3 t).1 = t.1 := by rw [hC]
  have h2 := hOut (n + 1) 0 [0] (o9 t.1.toNat 1) ⟨by simp, fun x hx => by simp at hx; subst hx; omega⟩
  rw [List.map_cons, List.map_nil, hP0] at h2
  show E8 (B3 t) (o9 (B3 t).1.toNat 1) ((B3 t).2.1.toNat + 1) 0 [0] = (E8 t (o9 t.1.toNat 1) (t.2.1.toNat + 1) 0 [0]).map P
  rw [h1, hn1, hnt, Int.toNat_natCast]
  exact h2
 have hiota : ∀ i : Nat, i < n → (j5 (B3 t))[i]? = some (i : Int) := fun i hi => by
  rw [hord, List.getElem?_map]
  obtain ⟨v, hv⟩ : ∃ v, (j5 t)[i]? = some v := ⟨_, List.getElem?_eq_getElem (by omega)⟩
  rw [hv, Option.map_some, hP i v hv]
 obtain ⟨⟨hd2, ho2⟩, _⟩ := b06 hcf
 rw [hn1, Int.toNat_natCast] at ho2
 have hid : ∀ x : Int, 0 ≤ x → x < (n : Int) → getI (plc n (j5 (B3 t))) x = x := fun x h0 h1 => by
  have := E0k ho2 hd2 (hiota x.toNat (by omega))
  rw [show ((x.toNat : Nat) : Int) = x by omega] at this; exact this
 have hlen2 : (j5 (B3 t)).length = n := by rw [hord, List.length_map, hol]
 have hcin := (O1 hcg).1
 have hcan : B3 (B3 t) = B3 t := by
  have hpe : pE (plc n (j5 (B3 t))) (B3 t).2.2 = (B3 t).2.2 := by
   rw [f0h _ _ fun e he => by
    have := hcin e he
    rw [hn1] at this
    exact ⟨by rw [hid _ this.1.1 this.1.2]; exact this.1.1, by rw [hid _ this.2.1.1 this.2.1.2]; exact this.2.1.1⟩]
   refine (List.map_congr_left fun e he => ?_).trans (List.map_id _)
   have := hcin e he
   rw [hn1] at this
   rw [hid _ this.1.1 this.1.2, hid _ this.2.1.1 this.2.1.2]; rfl
  show n9 (B3 t) (j5 (B3 t)) = B3 t
  unfold n9
  rw [hn1, Int.toNat_natCast, hpe, b0g (c04 hcg), hlen2]
  rw [← hn1]
 unfold S00
 rw [hcf, hleaf, hcan]
 simp [R0h]
theorem h0j {g : l0} (hf : N0 g = true) : S00 (x03 g) = true := by
 have hg := a8 hf
 have := (O1 hg).2.2.1
 exact g0h (o02 40 hf) (V0b 40 hg (by omega))
end Go.Proofs.YtfdlgbfeceodeaaGreat
namespace Go.Proofs.YtfdlgbfeceodeaaGreat
open Go.H
set_option linter.unusedVariables false
set_option linter.unusedSimpArgs false
def ng (x : Int) : Int := IntKind.i64.wrap (0 - x)
def c0g (w : List Int) : Prop := ∀ x ∈ w, D0 x
def h0h (l x : Int) : Bool := !(l == 0) && !(l == -9223372036854775808) && (x == ng l)
def h02 (s : List Int) (x : Int) : List Int := match s with
 | [] => [x]
 | l :: t => bif h0h l x then t else x :: l :: t
def a0c (s w : List Int) : List Int := w.foldl h02 s
theorem G0k (s a b : List Int) : a0c s (a ++ b) = a0c (a0c s a) b := List.foldl_append
theorem o0d (s : List Int) (x : Int) : (h02 s x).length ≤ s.length + 1 := by
 cases s with
 | nil => simp [h02]
 | cons l t =>
  simp only [h02]
  cases h0h l x <;> simp <;> omega
theorem d0g : ∀ (w s : List Int), (a0c s w).length ≤ s.length + w.length
 | [], s => by simp [a0c]
 | x :: w, s => by
  have := d0g w (h02 s x)
  have := o0d s x
  simp only [a0c, List.foldl_cons, List.length_cons] at *
  omega
theorem H0k {s : List Int} {x : Int} (h : c0g s) (hx : D0 x) : c0g (h02 s x) := by
 cases s with
 | nil => intro y hy; simp [h02] at hy; subst hy; exact hx
 | cons l t =>
  simp only [h02]
  cases h0h l x with
  | true => exact fun y hy => h y (List.mem_cons_of_mem _ hy)
  | false =>
   intro y hy
   rcases List.mem_cons.1 hy with rfl | hy
   ·exact hx
   ·exact h y hy
theorem i0j {l x : Int} (hl : D0 l) (hx : D0 x) : (!(x == 0) && (l == ng x) && !(l == x)) = h0h l x := by
 unfold h0h ng
 have e : ∀ {z : Int}, D0 z → IntKind.i64.wrap (0 - z) = if z = -9223372036854775808 then -9223372036854775808 else -z := fun {z} hz => by
  split
  ·rename_i h; subst h; decide
  ·rw [w64 (by have := hz.1; have := hz.2; omega) (by have := hz.1; have := hz.2; omega)]; omega
 rw [e hl, e hx]
 have hl1 := hl.1
 have hl2 := hl.2
 have hx1 := hx.1
 have hx2 := hx.2
 rw [Bool.eq_iff_iff]
 simp only [Bool.and_eq_true, Bool.not_eq_true', beq_iff_eq, beq_eq_false_iff_ne, ne_eq]
 split <;> split <;> omega
theorem i0h {l : Int} {t : List Int} : (l :: t).reverse[t.length]? = some l := by
 rw [List.reverse_cons, List.getElem?_append_right (by simp)]
 simp
theorem j0j (l : Int) (t : List Int) : (l :: t).reverse.take t.length = t.reverse := by
 rw [List.reverse_cons, List.take_append_of_le_length (by simp), List.take_of_length_le (by simp)]
theorem j01 (w : List Int) (hw : c0g w) (hl : w.length ≤ 1099511627776) : ∀ (d k fuel : Nat) (s : List Int), k + d = w.length → d < fuel → c0g s → s.length ≤ k →
  K3 w fuel (k : Int) s.reverse = some (a0c s (w.drop k)).reverse
 | d, k, 0, s, hk, hf, hs, hsl => by omega
 | 0, k, fuel + 1, s, hk, hf, hs, hsl => by
  rw [K3.eq_2, if_neg (by simp; omega), D1 (by omega)]
  rfl
 | d + 1, k, fuel + 1, s, hk, hf, hs, hsl => by
  have hkl : k < w.length := by omega
  have hx := N5 hkl
  have hx64 := hw _ (List.mem_of_getElem? hx)
  generalize w[k] = x at hx hx64
  have next := j01 w hw hl d (k + 1) fuel (h02 s x) (by omega) (by omega) (H0k hs hx64) (by have := o0d s x; omega)
  rw [J1 hx]
  show _ = some (a0c (h02 s x) (w.drop (k + 1))).reverse
  rw [← next, K3.eq_2, if_pos (by simp; omega), Option.bind_some, J0 (by rw [List.length_reverse]; omega), Option.bind_some]
  rw [j2 hkl (by omega : w.length ≤ 9223372036854775807)]
  have e0 : decide (x = 0) = (x == 0) := by rw [Bool.eq_iff_iff]; simp
  cases s with
  | nil =>
   have hz : decide ((((([] : List Int).reverse).length : Nat) : Int) > 0) = false := rfl
   simp only [hz, J4, Option.bind_some, cond_false, Bool.false_eq_true, if_false, E3 hx]
   rw [J0 (by simp)]
   rfl
  | cons l t =>
   have hl64 := hs l (List.mem_cons_self ..)
   have hp : decide ((((l :: t).reverse.length : Nat) : Int) > 0) = true := by simp
   have hpr : IntKind.i64.wrap ((((l :: t).reverse.length : Nat) : Int) - 1) = ((t.length : Nat) : Int) := by
    rw [L09 (by simp) (by simp only [List.length_reverse, List.length_cons] at *; omega)]; simp
   have hc := i0j hl64 hx64
   have e1 : decide (l = IntKind.i64.wrap (0 - x)) = (l == ng x) := by rw [Bool.eq_iff_iff]; simp [ng]
   have e2 : decide (l = x) = (l == x) := by rw [Bool.eq_iff_iff]; simp
   have hpush : (grd (((l :: t).reverse.length + [x].length) * 8 ≤ 140737488355328)) = some () := J0 (by simp only [List.length_cons] at hsl; simp only [List.length_reverse, List.length_cons, List.length_nil]; omega)
   simp only [hp, hpr, T1, Option.bind_some, cond_true, E3 hx, E3 i0h, e0, h02]
   cases h0 : (x == 0) with
   | true =>
    rw [h0] at hc
    simp only [Bool.not_true, Bool.false_and] at hc
    simp only [← hc, Bool.not_true, J4, cond_false, Option.bind_some, Bool.false_eq_true, if_false, hpush]
    exact congrArg _ (List.reverse_cons ..).symm
   | false =>
    rw [h0] at hc
    simp only [Bool.not_false, Bool.true_and] at hc
    simp only [Bool.not_false, T1, cond_true, Option.bind_some, e1]
    cases h1 : (l == ng x) with
    | false =>
     rw [h1] at hc
     simp only [Bool.false_and] at hc
     simp only [← hc, J4, cond_false, Option.bind_some, Bool.false_eq_true, if_false, hpush]
     exact congrArg _ (List.reverse_cons ..).symm
    | true =>
     rw [h1] at hc
     simp only [Bool.true_and] at hc
     simp only [T1, cond_true, Option.bind_some, e2]
     cases h2 : (l == x) with
     | true =>
      rw [h2] at hc
      simp only [Bool.not_true] at hc
      simp only [← hc, Bool.not_true, Bool.false_eq_true, if_false, cond_false, Option.bind_some, hpush]
      exact congrArg _ (List.reverse_cons ..).symm
     | false =>
      rw [h2] at hc
      simp only [Bool.not_false] at hc
      simp only [← hc, Bool.not_false, if_true, cond_true]
      rw [J0 (by simp only [List.length_reverse, List.length_cons] at *; omega), Option.bind_some, Int.toNat_natCast, j0j]
theorem i06 (w : List Int) (hw : c0g w) (hl : w.length ≤ 1099511627776) : N7 w = some (a0c [] w).reverse := by
 unfold N7
 have h := j01 w hw hl w.length 0 Q0 [] (by omega) (Y0 (by omega)) (fun x hx => by cases hx) (by simp)
 rw [show ((0 : Nat) : Int) = 0 from rfl, List.drop_zero, List.reverse_nil] at h
 rw [h, Option.bind_some, J0 (by have := d0g w []; simp only [List.length_reverse, List.length_nil] at *; omega), Option.bind_some, List.nil_append]
end Go.Proofs.YtfdlgbfeceodeaaGreat
namespace Go.Proofs.YtfdlgbfeceodeaaGreat
open Go.H
set_option linter.unusedVariables false
set_option linter.unusedSimpArgs false
theorem e0g {r : Int} {w : List Int} (h : Y2 r w = true) : ∀ k, k ≤ w.length → a0c [] (w.take k) = (w.take k).reverse
 | 0, _ => rfl
 | k + 1, hk => by
  have ih := e0g h k (by omega)
  have hx := N5 (show k < w.length by omega)
  generalize w[k] = x at hx
  have ht : w.take (k + 1) = w.take k ++ [x] := Q0h hx
  rw [ht, G0k, ih, List.reverse_append]
  show h02 (w.take k).reverse x = x :: (w.take k).reverse
  cases k with
  | zero => rfl
  | succ j =>
   have hy := N5 (show j < w.length by omega)
   generalize w[j] = y at hy
   rw [Q0h hy, List.reverse_append]
   show h02 (y :: (w.take j).reverse) x = _
   have h2 := h
   simp only [Y2, Bool.and_eq_true, decide_eq_true_eq] at h2
   have hb := T08 h2.2 (j + 1) (Nat.zero_le _) (by omega)
   unfold h03 at hb
   rw [hx] at hb
   simp only [Nat.add_sub_cancel, hy, Bool.or_eq_false_iff, show decide (0 < j + 1) = true by simp, Bool.true_and] at hb
   have hc : h0h y x = false := by unfold h0h ng; rw [hb.2, Bool.and_false]
   simp only [h02, hc, cond_false]
   rfl
theorem I0k {r : Int} {w : List Int} (h : Y2 r w = true) : (a0c [] w).reverse = w := by
 have := e0g h w.length (Nat.le_refl _)
 rw [List.take_length] at this
 rw [this, List.reverse_reverse]
def r05 (g : l0) (w : List Int) : Bool := decide ((L7 g 0 w).2 = w.length) && decide ((L7 g 0 w).1 = 0)
theorem U09 {g : l0} (h : S00 g = true) : N0 g = true := by
 unfold S00 at h
 simp only [Bool.and_eq_true] at h
 exact h.1
theorem b0c {r : Int} {g : l0} {w : List Int} (hc : S00 g = true) (hw : Y2 r w = true) : S8 g w = some (r05 g w) := by
 have hf := U09 hc
 obtain ⟨q1, q2, q3, q4⟩ := G3 hf
 obtain ⟨wl, wx⟩ := e08 hw
 have h1 := i06 w (fun x hx => (wx x hx).1.1) (by omega)
 rw [I0k hw] at h1
 have h2 := e0k g hf 0 ⟨Int.le_refl _, by omega⟩ w (fun x hx => (wx x hx).1) (by omega)
 have h3 := d0e g (by omega)
 have h4 : W8 g = some true := by
  obtain ⟨a, b, c⟩ := g
  unfold W8
  simp only [h3, hc, Option.bind_some]
 have h5 := y05 q1 q3.2 w 0 ⟨by omega, by omega⟩
 have h6 := x05 g w 0
 unfold r05
 obtain ⟨a, b, c⟩ := g
 unfold S8
 simp only [h1, Option.bind_some, h2]
 by_cases d : (L7 (a, b, c) 0 w).2 < w.length
 ·simp only [decide_eq_true d, cond_true]
  rw [J0 (show D0 (-1) from ⟨by omega, by omega⟩), Option.bind_some, h4]
  have : decide ((L7 (a, b, c) 0 w).2 = w.length) = false := decide_eq_false (by omega)
  rw [this]; rfl
 ·simp only [decide_eq_false d, cond_false]
  rw [J0 h5, Option.bind_some, h4]
  have : decide ((L7 (a, b, c) 0 w).2 = w.length) = true := decide_eq_true (by omega)
  rw [this]
  simp only [Option.bind_some, cond_true, Bool.true_and]
theorem f0g {r : Int} {g : l0} {w : List Int} (hc : S00 g = true) (hw : Y2 r w = true) : t7 g w = some (r05 g w) := by
 have hf := U09 hc
 obtain ⟨q1, q2, q3, q4⟩ := G3 hf
 obtain ⟨wl, wx⟩ := e08 hw
 have h2 := d0k g q1 q3.2 (by omega) 0 w (fun x hx => (wx x hx).1) (by omega)
 have h5 := y05 q1 q3.2 w 0 ⟨by omega, by omega⟩
 have h6 := x05 g w 0
 unfold r05
 obtain ⟨a, b, c⟩ := g
 unfold t7
 simp only [h2, Option.bind_some]
 rw [J0 h5, Option.bind_some, J0 (show D0 (((L7 (a, b, c) 0 w).2 : Nat) : Int) from ⟨by omega, by omega⟩), Option.bind_some]
 by_cases d : (L7 (a, b, c) 0 w).2 = w.length
 ·rw [decide_eq_true d, show decide ((((L7 (a, b, c) 0 w).2 : Nat) : Int) = ((w.length : Nat) : Int)) = true from decide_eq_true (by omega)]
  simp
 ·rw [decide_eq_false d, show decide ((((L7 (a, b, c) 0 w).2 : Nat) : Int) = ((w.length : Nat) : Int)) = false from decide_eq_false (by omega)]
  simp
def g8 (p : F0) (w : List Int) : Bool × Bool := bif (J9 p []).2 && Y2 p.1 w then (r05 (J9 p []).1 w, true) else (false, false)
theorem p0d {p : F0} {ws : List (List Int)} (h : (J9 p ws).2 = true) : S00 (J9 p ws).1 = true := by
 rcases e0h p ws with h1 | ⟨g, hf, h1⟩
 ·rw [h1] at h; cases h
 ·rw [h1]; exact h0j hf
theorem p0c (p : F0) (w : List Int) (hl : p.2.length ≤ 140737488355328) (hs : J3 p.2) (hw : w.length ≤ 140737488355328) : H9 p w = some (g8 p w) := by
 have h1 := c0h p [] hl hs (by simp) (fun w hw => by cases hw)
 have h2 := w04 p.1 w hw
 have h3 : (J9 p []).2 = true → Y2 p.1 w = true → S8 (J9 p []).1 w = some (r05 (J9 p []).1 w) := fun a b => b0c (p0d a) b
 unfold g8
 obtain ⟨pr, rels⟩ := p
 unfold H9
 simp only [h1, Option.bind_some]
 revert h3
 generalize J9 (pr, rels) [] = q
 intro h3
 obtain ⟨⟨a, b, c⟩, ok⟩ := q
 simp only at h2 h3 ⊢
 cases ok with
 | false => rfl
 | true =>
  simp only [Bool.not_true, Bool.not_false, T1, h2, Option.bind_some, cond_false, Bool.true_and]
  cases hb : Y2 pr w with
  | false => rfl
  | true =>
   rw [if_neg (by simp), h3 rfl hb]; rfl
theorem q0c (p : F0) (w : List Int) (hl : p.2.length ≤ 140737488355328) (hs : J3 p.2) (hw : w.length ≤ 140737488355328) : I9 p w = some (g8 p w) := by
 have h1 := d0h p [] hl hs (by simp) (fun w hw => by cases hw)
 have h2 := x04 p.1 w hw
 have h3 : (J9 p []).2 = true → Y2 p.1 w = true → t7 (J9 p []).1 w = some (r05 (J9 p []).1 w) := fun a b => f0g (p0d a) b
 unfold g8
 obtain ⟨pr, rels⟩ := p
 unfold I9
 simp only [h1, Option.bind_some]
 revert h3
 generalize J9 (pr, rels) [] = q
 intro h3
 obtain ⟨⟨a, b, c⟩, ok⟩ := q
 simp only at h2 h3 ⊢
 cases ok with
 | false => rfl
 | true =>
  simp only [Bool.not_true, Bool.not_false, T1, h2, Option.bind_some, cond_false, Bool.true_and]
  cases hb : Y2 pr w with
  | false => rfl
  | true =>
   rw [if_neg (by simp), h3 rfl hb]; rfl
end Go.Proofs.YtfdlgbfeceodeaaGreat
