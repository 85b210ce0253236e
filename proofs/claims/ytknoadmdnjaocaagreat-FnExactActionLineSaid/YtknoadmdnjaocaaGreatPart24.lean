/- Texts of the claim, joined: Plain laws: vertices and edges added; the steps that are missing; Plain laws: trimming and the core of a folded graph; Plain laws: the core of a folded graph is a core; Plain laws: subgroups of finite index; the base moved; Plain laws: permutations, as the spec and the code know them; Plain laws: the permutations of a subgroup of finite index, the group ; Plain laws: numbers in decimal; Plain laws: words and presentations in letters; Plain laws: numbers one behind the other; Plain laws: the line on an action. -/
import Derived.Test.YtknoadmdnjaocaaGreatPart23
import Derived.Test.YtknoadmdnjaocaaGreatPart18
import Derived.Test.YtknoadmdnjaocaaGreatPart17
import Derived.Test.YtknoadmdnjaocaaGreatH36
namespace Go.Proofs.YtknoadmdnjaocaaGreat
open Go.H
set_option linter.unusedVariables false
set_option linter.unusedSimpArgs false
def m04 (g : l0) (v : Int) : List Int → List F0
 | [] => []
 | x :: r => (bif decide (D2 g v x < 0) then [(v, x, -1)] else []) ++ m04 g v r
def h06 (g : l0) : Nat → Nat → List F0
 | 0, _ => []
 | d + 1, v => m04 g (v : Int) (U8 g.1.toNat 1) ++ h06 g d (v + 1)
theorem F05 (g : l0) (v : Int) : ∀ l, (m04 g v l).length ≤ l.length
 | [] => Nat.le_refl _
 | x :: r => by
  have := F05 g v r
  simp only [m04, List.length_append, List.length_cons]
  cases decide (D2 g v x < 0) <;> simp <;> omega
theorem h0f (g : l0) (hg : Y0 g = true) (v : Int) (ls : List Int) (hls : ∀ x ∈ ls, y00 x) (hl : ls.length ≤ 1000) : ∀ (d k fuel : Nat) (acc : List F0), k + d = ls.length → d < fuel → acc.length + d ≤ 100000 →
  O2 ls g.1 g.2.1 g.2.2 v fuel (k : Int) acc = some (acc ++ m04 g v (ls.drop k))
 | d, k, 0, acc, hd, hf, ha => by omega
 | 0, k, fuel + 1, acc, hd, hf, ha => by
  rw [O2.eq_2, if_neg (by simp; omega), D1 (by omega)]
  simp [m04]
 | d + 1, k, fuel + 1, acc, hd, hf, ha => by
  obtain ⟨q1, q2, q3, q4⟩ := Q3 hg
  have hk : k < ls.length := by omega
  have hx := L6 hk
  have hm := hls _ (List.getElem_mem hk)
  generalize ls[k] = x at hx hm
  have ih : ∀ acc' : List F0, acc'.length + d ≤ 100000 → O2 ls g.1 g.2.1 g.2.2 v fuel ((k + 1 : Nat) : Int) acc' = some (acc' ++ m04 g v (ls.drop (k + 1))) := fun acc' h => h0f g hg v ls hls hl d (k + 1) fuel acc' (by omega) (by omega) h
  rw [O2.eq_2, if_pos (by simp; omega), C3 hx, Option.bind_some, show (g.1, g.2.1, g.2.2) = g from rfl, z06 g v x hm (by omega), Option.bind_some, B0 (d04 q1 q3.2 v x), Option.bind_some, Q1 hk (by omega), M1 hx, m04]
  cases decide (D2 g v x < 0) with
  | true =>
   rw [if_pos rfl, Option.bind_some, B0 (by simp; omega), Option.bind_some, ih _ (by simp; omega)]
   simp
  | false =>
   rw [if_neg (by simp), ih _ (by omega)]
   simp
theorem i0f (g : l0) (hg : Y0 g = true) (v : Int) (ls : List Int) (hls : ∀ x ∈ ls, y00 x) (hl : ls.length ≤ 1000) : ∀ (d k fuel : Nat) (acc : List F0), k + d = ls.length → d < fuel → acc.length + d ≤ 100000 →
  P2 ls g.1 g.2.1 g.2.2 v fuel (k : Int) acc = some (acc ++ m04 g v (ls.drop k))
 | d, k, 0, acc, hd, hf, ha => by omega
 | 0, k, fuel + 1, acc, hd, hf, ha => by
  rw [P2.eq_2, if_neg (by simp; omega), D1 (by omega)]
  simp [m04]
 | d + 1, k, fuel + 1, acc, hd, hf, ha => by
  obtain ⟨q1, q2, q3, q4⟩ := Q3 hg
  have hk : k < ls.length := by omega
  have hx := L6 hk
  have hm := hls _ (List.getElem_mem hk)
  generalize ls[k] = x at hx hm
  have ih : ∀ acc' : List F0, acc'.length + d ≤ 100000 → P2 ls g.1 g.2.1 g.2.2 v fuel ((k + 1 : Nat) : Int) acc' = some (acc' ++ m04 g v (ls.drop (k + 1))) := fun acc' h => i0f g hg v ls hls hl d (k + 1) fuel acc' (by omega) (by omega) h
  rw [P2.eq_2, if_pos (by simp; omega), C3 hx, Option.bind_some, show (g.1, g.2.1, g.2.2) = g from rfl, A06 g v x hm (by omega), Option.bind_some, B0 (d04 q1 q3.2 v x), Option.bind_some, Q1 hk (by omega), M1 hx, m04]
  cases decide (D2 g v x < 0) with
  | true =>
   rw [if_pos rfl, B0 (by simp; omega), Option.bind_some, ih _ (by simp; omega)]
   simp
  | false =>
   rw [if_neg (by simp), ih _ (by omega)]
   simp
theorem g0b : ∀ (d i : Nat) (x : Int), x ∈ U8 d i → ∃ j : Nat, i ≤ j ∧ j < i + d ∧ (x = (j : Int) ∨ x = -(j : Int))
 | 0, i, x, h => by simp [U8] at h
 | d + 1, i, x, h => by
  simp only [U8, List.mem_cons] at h
  rcases h with rfl | rfl | h
  ·exact ⟨i, Nat.le_refl _, by omega, .inl rfl⟩
  ·exact ⟨i, Nat.le_refl _, by omega, .inr rfl⟩
  ·obtain ⟨j, h1, h2, h3⟩ := g0b d (i + 1) x h
   exact ⟨j, by omega, by omega, h3⟩
theorem j0f (g : l0) (hf0 : S0 g = true) : ∀ (d k fuel : Nat) (acc : List F0), k + d = g.2.1.toNat → d < fuel → acc.length + 100 * d ≤ 10000 →
  C4 g.2.1 g.1 g.2.2 fuel (k : Int) acc = some (acc ++ h06 g d k)
 | d, k, 0, acc, hd, hf, ha => by omega
 | 0, k, fuel + 1, acc, hd, hf, ha => by
  obtain ⟨q1, q2, q3, q4⟩ := L1 hf0
  rw [C4.eq_2, show decide (((k : Nat) : Int) < g.2.1) = false by simp; omega]
  simp [chk, h06]
 | d + 1, k, fuel + 1, acc, hd, hf, ha => by
  obtain ⟨q1, q2, q3, q4⟩ := L1 hf0
  have hg := ((g04 g).1 hf0).1
  obtain ⟨R, hR⟩ : ∃ R : Nat, g.1 = (R : Int) := ⟨g.1.toNat, by omega⟩
  have hls : ∀ x ∈ U8 g.1.toNat 1, y00 x := fun x hx => by
   obtain ⟨j, h1, h2, h3⟩ := g0b _ _ _ hx
   refine ⟨⟨by omega, by omega⟩, by omega⟩
  have hlen := C02 g.1.toNat 1
  have hm := F05 g (k : Int) (U8 g.1.toNat 1)
  have h0 := h0f g hg (k : Int) (U8 g.1.toNat 1) hls (by omega) (U8 g.1.toNat 1).length 0 I0 acc (by omega) (W0 (by omega)) (by omega)
  rw [C4.eq_2, show decide (((k : Nat) : Int) < g.2.1) = true by simp; omega, C2, show (g.1, g.2.1, g.2.2) = g from rfl, b01 g (by omega), Option.bind_some, hf0]
  rw [if_pos (show (bif true then true else false) = true from rfl), show o7 g.1 = some (U8 g.1.toNat 1) by rw [hR, h0k R (by omega)]; rfl, Option.bind_some, show (0 : Int) = ((0 : Nat) : Int) from rfl, h0, Option.bind_some, Q1 (show k < 1000 by omega) (by omega), j0f g hf0 d (k + 1) fuel _ (by omega) (by omega) (by simp; omega), h06]
  simp
theorem k0f (g : l0) (hf0 : S0 g = true) : ∀ (d k fuel : Nat) (acc : List F0), k + d = g.2.1.toNat → d < fuel → acc.length + 100 * d ≤ 10000 →
  D4 g.2.1 g.1 g.2.2 fuel (k : Int) acc = some (acc ++ h06 g d k)
 | d, k, 0, acc, hd, hf, ha => by omega
 | 0, k, fuel + 1, acc, hd, hf, ha => by
  obtain ⟨q1, q2, q3, q4⟩ := L1 hf0
  rw [D4.eq_2, if_neg (by simp; omega)]
  simp [h06]
 | d + 1, k, fuel + 1, acc, hd, hf, ha => by
  obtain ⟨q1, q2, q3, q4⟩ := L1 hf0
  have hg := ((g04 g).1 hf0).1
  obtain ⟨R, hR⟩ : ∃ R : Nat, g.1 = (R : Int) := ⟨g.1.toNat, by omega⟩
  have hls : ∀ x ∈ U8 g.1.toNat 1, y00 x := fun x hx => by
   obtain ⟨j, h1, h2, h3⟩ := g0b _ _ _ hx
   refine ⟨⟨by omega, by omega⟩, by omega⟩
  have hlen := C02 g.1.toNat 1
  have hm := F05 g (k : Int) (U8 g.1.toNat 1)
  have h0 := i0f g hg (k : Int) (U8 g.1.toNat 1) hls (by omega) (U8 g.1.toNat 1).length 0 I0 acc (by omega) (W0 (by omega)) (by omega)
  rw [D4.eq_2, if_pos (by simp; omega), show y8 g.1 = some (U8 g.1.toNat 1) by rw [hR, g0k R (by omega)]; rfl, Option.bind_some, show (0 : Int) = ((0 : Nat) : Int) from rfl, h0, Option.bind_some, Q1 (show k < 1000 by omega) (by omega), k0f g hf0 d (k + 1) fuel _ (by omega) (by omega) (by simp; omega), h06]
  simp
def b9 (g : l0) : List F0 := h06 g g.2.1.toNat 0
theorem I0b {g : l0} (hf : S0 g = true) : U6 g = some (b9 g) := by
 obtain ⟨q1, q2, q3, q4⟩ := L1 hf
 have h := j0f g hf g.2.1.toNat 0 I0 [] (by omega) (W0 (by omega)) (by simp; omega)
 obtain ⟨r, n, es⟩ := g
 unfold U6 b9
 simp only at h ⊢
 rw [show (0 : Int) = ((0 : Nat) : Int) from rfl, h]; simp
theorem J0b {g : l0} (hf : S0 g = true) : V6 g = some (b9 g) := by
 obtain ⟨q1, q2, q3, q4⟩ := L1 hf
 have h := k0f g hf g.2.1.toNat 0 I0 [] (by omega) (W0 (by omega)) (by simp; omega)
 have h2 := a00 g (by omega)
 obtain ⟨r, n, es⟩ := g
 unfold V6 b9
 simp only [h2, hf, Option.bind_some] at h ⊢
 rw [if_neg (by simp), show (0 : Int) = ((0 : Nat) : Int) from rfl, h]; simp
end Go.Proofs.YtknoadmdnjaocaaGreat
namespace Go.Proofs.YtknoadmdnjaocaaGreat
open Go.H
set_option linter.unusedVariables false
set_option linter.unusedSimpArgs false
theorem w0g (g : Nat) : ∀ (d k : Nat) (x : Int), x ∈ wo g d k → ∃ j : Nat, x = (j : Int) ∧ k ≤ j ∧ j < k + d
 | 0, k, x, h => nomatch h
 | d + 1, k, x, h => by
  unfold wo at h
  split at h
  ·obtain ⟨j, h1, h2, h3⟩ := w0g g d (k + 1) x h
   exact ⟨j, h1, by omega, by omega⟩
  ·rcases List.mem_cons.1 h with rfl | h
   ·exact ⟨k, rfl, Nat.le_refl _, by omega⟩
   ·obtain ⟨j, h1, h2, h3⟩ := w0g g d (k + 1) x h
    exact ⟨j, h1, by omega, by omega⟩
theorem f05 (g : Nat) : ∀ (d k : Nat), (wo g d k).Nodup
 | 0, k => List.nodup_nil
 | d + 1, k => by
  unfold wo
  split
  ·exact f05 g d (k + 1)
  ·refine List.nodup_cons.2 ⟨fun h => ?_, f05 g d (k + 1)⟩
   obtain ⟨j, h1, h2, h3⟩ := w0g g d (k + 1) _ h
   omega
theorem F0d (P : List Int) : ∀ (es : List F0), ∀ e ∈ pE P es, ∃ a ∈ es, e = (getI P a.1, a.2.1, getI P a.2.2) ∧ 0 ≤ getI P a.1 ∧ 0 ≤ getI P a.2.2
 | [], e, h => nomatch h
 | b :: r, e, h => by
  unfold pE at h
  cases hb : decide (0 ≤ getI P b.1) && decide (0 ≤ getI P b.2.2)
  ·rw [hb] at h
   obtain ⟨a, h1, h2⟩ := F0d P r e h
   exact ⟨a, List.mem_cons_of_mem _ h1, h2⟩
  ·rw [hb] at h
   simp only [Bool.and_eq_true, decide_eq_true_eq] at hb
   rcases List.mem_cons.1 h with rfl | h
   ·exact ⟨b, List.mem_cons_self .., rfl, hb.1, hb.2⟩
   ·obtain ⟨a, h1, h2⟩ := F0d P r e h
    exact ⟨a, List.mem_cons_of_mem _ h1, h2⟩
theorem E06 {g : l0} {o : List Int} (hg : Y0 g = true) (ho : inV g.2.1.toNat o) (h1 : 1 ≤ o.length) (h2 : o.length ≤ 40) : Y0 (g7 g o) = true := by
 obtain ⟨q1, q2, q3, q4⟩ := Q3 hg
 have hl := w0d (plc g.2.1.toNat o) g.2.2
 refine w07 q2 ⟨by omega, by omega⟩ (by omega) fun e he => ?_
 obtain ⟨a, ha, rfl, k1, k2⟩ := F0d _ _ e he
 have hq := q1 a ha
 have r1 := (D03 ho (x := a.1) (by omega)).2
 have r2 := (D03 ho (x := a.2.2) (by omega)).2
 exact ⟨⟨k1, r1⟩, ⟨k2, r2⟩, hq.2.2⟩
theorem h0b {n : Nat} : ∀ (o : List Int) (k : Nat) (A : List Int), A.length = n → inV n o → o.Nodup → (∀ x, 0 ≤ x → getI A x < (k : Int)) → (∀ x y, 0 ≤ x → 0 ≤ y → 0 ≤ getI A x → getI A x = getI A y → x = y) →
  ∀ x y, 0 ≤ x → 0 ≤ y → 0 ≤ getI (t9 A k o) x → getI (t9 A k o) x = getI (t9 A k o) y → x = y
 | [], k, A, hA, ho, hd, hr, hi => hi
 | v :: r, k, A, hA, ho, hd, hr, hi => by
  have hv := ho v (List.mem_cons_self ..)
  refine h0b r (k + 1) (A.set v.toNat (k : Int)) (by simp [hA]) (fun w hw => ho w (List.mem_cons_of_mem _ hw)) (List.nodup_cons.1 hd).2 (fun x hx => ?_) (fun x y hx hy h0 he => ?_)
  ·rw [N01 hv.1 (by omega) hx]
   have := hr x hx
   split <;> omega
  ·rw [N01 hv.1 (by omega) hx] at h0 he
   rw [N01 hv.1 (by omega) hy] at he
   have h1 := hr x hx
   have h2 := hr y hy
   by_cases c1 : x = v
   ·by_cases c2 : y = v
    ·rw [c1, c2]
    ·rw [if_pos c1, if_neg c2] at he; omega
   ·by_cases c2 : y = v
    ·rw [if_neg c1, if_pos c2] at he; omega
    ·rw [if_neg c1] at h0; rw [if_neg c1, if_neg c2] at he
     exact hi x y hx hy h0 he
theorem G0d {n : Nat} {o : List Int} (ho : inV n o) (hd : o.Nodup) {x y : Int} (hx : 0 ≤ x) (hy : 0 ≤ y) (h0 : 0 ≤ getI (plc n o) x) (he : getI (plc n o) x = getI (plc n o) y) : x = y := by
 refine h0b o 0 (List.replicate n (-1)) (by simp) ho hd (fun x hx => by rw [Z04]; omega) (fun x y _ _ h _ => by rw [Z04] at h; omega) x y hx hy h0 he
theorem n0k {es : List F0} (h : es.Pairwise fun a b => z02 a b = false) {a b : F0} (ha : a ∈ es) (hb : b ∈ es) (hne : a ≠ b) : z02 a b = false := by
 induction es with
 | nil => cases ha
 | cons c r ih =>
  obtain ⟨h1, h2⟩ := List.pairwise_cons.1 h
  rcases List.mem_cons.1 ha with rfl | ha'
  ·rcases List.mem_cons.1 hb with rfl | hb'
   ·exact absurd rfl hne
   ·exact h1 b hb'
  ·rcases List.mem_cons.1 hb with rfl | hb'
   ·rw [q08]; exact h1 a ha'
   ·exact ih h2 ha' hb'
theorem h0l {es : List F0} (hA : Asc V0 es) (h : ∀ a ∈ es, ∀ b ∈ es, a ≠ b → z02 a b = false) : es.Pairwise fun a b => z02 a b = false := by
 induction es with
 | nil => exact .nil
 | cons c r ih =>
  obtain ⟨h1, h2⟩ := List.pairwise_cons.1 hA
  refine List.pairwise_cons.2 ⟨fun b hb => h c (List.mem_cons_self ..) b (List.mem_cons_of_mem _ hb) fun e => ?_, ih h2 fun a ha b hb => h a (List.mem_cons_of_mem _ ha) b (List.mem_cons_of_mem _ hb)⟩
  have := h1 b hb
  rw [e, r8.refl] at this; omega
theorem y08 {g : l0} (hg : Y0 g = true) : S0 g = true ↔ ∀ a ∈ g.2.2, ∀ b ∈ g.2.2, a ≠ b → z02 a b = false := by
 rw [g04, x08]
 exact ⟨fun h a ha b hb hne => n0k h.2 ha hb hne, fun h => ⟨hg, h0l (graph_asc' hg) h⟩⟩
where graph_asc' {g : l0} (h : Y0 g = true) : Asc V0 g.2.2 := ((G03 g).1 h).2.2.2.2
theorem g05 {g : l0} {o : List Int} (hf : S0 g = true) (ho : inV g.2.1.toNat o) (hd : o.Nodup) (h1 : 1 ≤ o.length) (h2 : o.length ≤ 40) : S0 (g7 g o) = true := by
 have hg := g6 hf
 obtain ⟨q1, q2, q3, q4⟩ := Q3 hg
 refine (y08 (E06 hg ho h1 h2)).2 fun a ha b hb hne => ?_
 have mem : ∀ e ∈ (g7 g o).2.2, ∃ a ∈ g.2.2, e = (getI (plc g.2.1.toNat o) a.1, a.2.1, getI (plc g.2.1.toNat o) a.2.2) ∧ 0 ≤ getI (plc g.2.1.toNat o) a.1 ∧ 0 ≤ getI (plc g.2.1.toNat o) a.2.2 := fun e he => by
  rcases (r9 r8 e _ _).1 he with h | h
  ·cases h
  ·exact F0d _ _ e h
 obtain ⟨a', ha', rfl, k1, k2⟩ := mem a ha
 obtain ⟨b', hb', rfl, k3, k4⟩ := mem b hb
 have hne' : a' ≠ b' := fun e => hne (by rw [e])
 have hc := (y08 hg).1 hf a' ha' b' hb' hne'
 have ra := q1 a' ha'
 have rb := q1 b' hb'
 unfold z02 at hc ⊢
 simp only [Bool.and_eq_false_iff, Bool.or_eq_false_iff, decide_eq_false_iff_not] at hc ⊢
 rcases hc with hc | ⟨hc1, hc2⟩
 ·exact .inl hc
 ·exact .inr ⟨fun e => hc1 (G0d ho hd ra.1.1 rb.1.1 k1 e), fun e => hc2 (G0d ho hd ra.2.1.1 rb.2.1.1 k2 e)⟩
def D02 : Nat → l0 → l0
 | 0, g => g
 | d + 1, g => match B8 g with
  | none => g
  | some k => D02 d (g7 g (wo k g.2.1.toNat 0))
theorem H0d {g : l0} {k : Nat} (h : B8 g = some k) : 1 ≤ k ∧ k < g.2.1.toNat := by
 have := b05 _ _ _ h
 omega
theorem z08 {g : l0} (hg : Y0 g = true) {k : Nat} (h : B8 g = some k) : inV g.2.1.toNat (wo k g.2.1.toNat 0) ∧ (wo k g.2.1.toNat 0).length = g.2.1.toNat - 1 ∧ 1 ≤ (wo k g.2.1.toNat 0).length ∧ (wo k g.2.1.toNat 0).length ≤ 40 := by
 obtain ⟨q1, q2, q3, q4⟩ := Q3 hg
 have hk := H0d h
 have hlen := c0b k g.2.1.toNat 0
 rw [if_pos (by omega)] at hlen
 exact ⟨V0e k _ _ 0 (by omega), hlen, by omega, by omega⟩
theorem a02 : ∀ (d : Nat) {g : l0}, S0 g = true → S0 (D02 d g) = true
 | 0, g, h => h
 | d + 1, g, h => by
  unfold D02
  cases e : B8 g with
  | none => exact h
  | some k =>
   obtain ⟨h1, h2, h3, h4⟩ := z08 (g6 h) e
   exact a02 d (g05 h h1 (f05 _ _ _) h3 h4)
theorem i0b (n g : Nat) (hn : n ≤ 1000) (u : List Int) (hu : u.length = n) : ∀ (d k fuel : Nat) (acc bcc : List Int), k + d = n → d < fuel → acc.length ≤ k → bcc.length ≤ k →
  ∃ v, P4 (n : Int) (g : Int) u fuel (k : Int) acc bcc = some (acc ++ wo g d k, v) ∧ v.length + acc.length = bcc.length + (acc ++ wo g d k).length
 | d, k, 0, acc, bcc, hd, hf, ha, hb => by omega
 | 0, k, fuel + 1, acc, bcc, hd, hf, ha, hb => by
  rw [P4.eq_2, if_neg (by simp; omega)]; exact ⟨bcc, by simp [wo], by simp [wo]⟩
 | d + 1, k, fuel + 1, acc, bcc, hd, hf, ha, hb => by
  have hx := L6 (show k < u.length by omega)
  generalize u[k] = x at hx
  rw [P4.eq_2, if_pos (by simp; omega), Q1 (show k < 10000 by omega) (by omega)]
  unfold wo
  by_cases c : k = g
  ·have e : decide ((k : Int) = (g : Int)) = true := decide_eq_true (by omega)
   rw [e, if_neg (by simp), if_pos c]
   exact i0b n g hn u hu d (k + 1) fuel acc bcc (by omega) (by omega) (by omega) (by omega)
  ·have e : decide ((k : Int) = (g : Int)) = false := decide_eq_false (by omega)
   rw [e, if_pos (show (!false) = true from rfl), if_neg c, B0 (by simp; omega), Option.bind_some, C3 hx, Option.bind_some, B0 (by simp; omega), Option.bind_some]
   obtain ⟨v, h1, h2⟩ := i0b n g hn u hu d (k + 1) fuel (acc ++ [(k : Int)]) (bcc ++ [x]) (by omega) (by omega) (by simp; omega) (by simp; omega)
   refine ⟨v, by rw [h1]; simp, ?_⟩
   simp only [List.length_append, List.length_cons, List.length_nil] at h2 ⊢
   omega
theorem l0f (g : l0) (hg : Y0 g = true) : ∀ (d k fuel : Nat) (acc : List Int), k + d = g.2.1.toNat → d < fuel → acc.length = k →
  ∃ u, s5 g.2.1 g.1 g.2.2 fuel (k : Int) acc = some u ∧ u.length = g.2.1.toNat
 | d, k, 0, acc, hd, hf, ha => by omega
 | 0, k, fuel + 1, acc, hd, hf, ha => by
  obtain ⟨q1, q2, q3, q4⟩ := Q3 hg
  rw [s5.eq_2, show decide (((k : Nat) : Int) < g.2.1) = false by simp; omega]
  exact ⟨acc, by simp [chk], by omega⟩
 | d + 1, k, fuel + 1, acc, hd, hf, ha => by
  obtain ⟨q1, q2, q3, q4⟩ := Q3 hg
  obtain ⟨u, h1, h2⟩ := l0f g hg d (k + 1) fuel (acc ++ [(k : Int)]) (by omega) (by omega) (by simp; omega)
  rw [s5.eq_2, show decide (((k : Nat) : Int) < g.2.1) = true by simp; omega, C2, show (g.1, g.2.1, g.2.2) = g from rfl, g8 g (by omega), Option.bind_some, hg]
  rw [if_pos (show (bif true then true else false) = true from rfl), B0 (by simp; omega), Option.bind_some, Q1 (show k < 1000 by omega) (by omega), h1]
  exact ⟨u, rfl, h2⟩
theorem m0f (g0 : l0) (hg0 : Y0 g0 = true) : ∀ (d k fuel : Nat) (g : l0) (u : List Int), k + d = 40 → d < fuel → Y0 g = true → u.length = g.2.1.toNat → g.2.1.toNat ≤ d + 1 →
  ∃ v, (p5 g0.1 g0.2.1 g0.2.2 fuel u (k : Int) g.1 g.2.1 g.2.2).bind (fun X => Z7 X (fun S => match S with | (a, b, c, e) => some ((b, c, e), a))) = some (D02 d g, v)
 | d, k, 0, g, u, hd, hf, hg, hu, hn => by omega
 | 0, k, fuel + 1, g, u, hd, hf, hg, hu, hn => by
  rw [p5.eq_2, show decide (((k : Nat) : Int) < 40) = false by simp; omega]
  exact ⟨u, by simp [chk, Z7, D02]⟩
 | d + 1, k, fuel + 1, g, u, hd, hf, hg, hu, hn => by
  obtain ⟨p1, p2, p3, p4⟩ := Q3 hg0
  obtain ⟨q1, q2, q3, q4⟩ := Q3 hg
  have hl := j0k g hg
  rw [p5.eq_2, show decide (((k : Nat) : Int) < 40) = true by simp; omega, C2, show (g0.1, g0.2.1, g0.2.2) = g0 from rfl, g8 g0 (by omega), Option.bind_some, hg0]
  rw [if_pos (show (bif true then true else false) = true from rfl), show (g.1, g.2.1, g.2.2) = g from rfl, hl]
  unfold D02
  cases e : B8 g with
  | none =>
   simp only [Option.bind_some]
   rw [B0 (show M0 (-1) from ⟨by omega, by omega⟩), Option.bind_some, if_pos (by simp)]
   exact ⟨u, rfl⟩
  | some j =>
   obtain ⟨h1, h2, h3, h4⟩ := z08 hg e
   have hj := H0d e
   obtain ⟨N, hN⟩ : ∃ N : Nat, g.2.1 = (N : Int) := ⟨g.2.1.toNat, by omega⟩
   have hNt : g.2.1.toNat = N := by omega
   obtain ⟨v, w1, w2⟩ := i0b N j (by omega) u (by omega) N 0 I0 [] [] (by omega) (W0 (by omega)) (Nat.le_refl _) (Nat.le_refl _)
   have hr := D06 g.1 N g.2.2 (wo j N 0) (by rw [← hN]; exact hg) (by rw [← hNt]; exact h1) (f05 _ _ _) (by rw [← hNt]; exact h3) (by rw [← hNt]; omega)
   rw [← hN, show (g.1, g.2.1, g.2.2) = g from rfl] at hr
   have hG := E06 hg h1 h3 h4
   rw [hNt] at hG h2 h3
   obtain ⟨v2, z⟩ := m0f g0 hg0 d (k + 1) fuel (g7 g (wo j N 0)) v (by omega) (by omega) hG (by simp only [List.nil_append, List.length_nil] at w2; show v.length = ((wo j N 0).length : Int).toNat; omega) (by show ((wo j N 0).length : Int).toNat ≤ d + 1; omega)
   simp only [Option.bind_some]
   rw [B0 (show M0 ((j : Nat) : Int) from ⟨by omega, by omega⟩), Option.bind_some, if_neg (by simp), hN, show (0 : Int) = ((0 : Nat) : Int) from rfl, w1]
   simp only [Option.bind_some, List.nil_append]
   rw [← hN, hr]
   simp only [Option.bind_some]
   rw [Q1 (show k < 1000 by omega) (by omega), hNt]
   exact ⟨v2, z⟩
def j0b (g : l0) : l0 := D02 40 g
theorem x0g {g : l0} (hg : Y0 g = true) : ∃ v, c9 g = some (j0b g, v) := by
 obtain ⟨q1, q2, q3, q4⟩ := Q3 hg
 have hc := B06 g (by omega)
 obtain ⟨u, h1, h2⟩ := l0f g hg g.2.1.toNat 0 I0 [] (by omega) (W0 (by omega)) rfl
 obtain ⟨v, h3⟩ := m0f g hg 40 0 I0 g u rfl (W0 (by omega)) hg h2 (by omega)
 refine ⟨v, ?_⟩
 obtain ⟨r, n, es⟩ := g
 unfold c9
 simp only [hc, Option.bind_some]
 simp only at h1 h3
 rw [show (0 : Int) = ((0 : Nat) : Int) from rfl, h1, Option.bind_some]
 exact h3
theorem n0f : ∀ (n fuel d : Nat) (left : List Int) (r : Int) (es : List F0), 1 ≤ n → n ≤ 40 → inN n es → es.length ≤ 120 → left.length = n → n < fuel → n ≤ d + 1 →
  ∃ l', O4 fuel left r (n : Int) es = some (.inl (D02 d (r, (n : Int), es), l'))
 | n, 0, d, left, r, es, h1, h2, hn, hes, hl, hf, hd => by omega
 | n, fuel + 1, d, left, r, es, h1, h2, hn, hes, hl, hf, hd => by
  obtain ⟨S, eS, lS, hS⟩ := P0e r n es hn (by omega) h1 (by omega)
  have ht1 := z0d r n es (by omega) S lS h2 (n - 1) 1 I0 (Nat.le_refl _) (by omega) (by omega) (W0 (by omega))
  have hcg : lf (fun v => decide (c01 (v : Int) es < 2) || !Y7 S (v : Int)) (n - 1) 1 = lf (v08 es) (n - 1) 1 := b0b _ _ fun k k1 k2 => by
   unfold v08
   have := hS (k : Int) (by omega) (by omega)
   have h3 := u07 es 0 (k : Int)
   congr 2
   cases hb : Y7 S (k : Int)
   ·symm; exact decide_eq_false fun h => by rw [this.2 (h3.1 h)] at hb; cases hb
   ·symm; exact decide_eq_true (h3.2 (this.1 hb))
  rw [hcg] at ht1
  have hleaf : B8 (r, (n : Int), es) = lf (v08 es) (n - 1) 1 := by simp only [B8, Int.toNat_natCast]
  rw [O4.eq_2, eS, Option.bind_some, show (1 : Int) = ((1 : Nat) : Int) from rfl, ht1, Option.bind_some]
  cases hlf : lf (v08 es) (n - 1) 1 with
  | none =>
   have e2 : D02 d (r, (n : Int), es) = (r, (n : Int), es) := by
    cases d with
    | zero => rfl
    | succ d => unfold D02; rw [hleaf, hlf]
   rw [e2]
   exact ⟨left, by rw [if_pos (by rfl)]⟩
  | some k =>
   have hk := b05 _ _ _ hlf
   have e0 : decide ((k : Int) = 0) = false := decide_eq_false (by omega)
   have ho := V0e k n n 0 (by omega)
   have hlen := c0b k n 0
   rw [if_pos (by omega)] at hlen
   have ht0 := A0d n k (by omega) n 0 I0 [] (by omega) (W0 (by omega)) (Nat.le_refl _)
   rw [show ((0 : Nat) : Int) = 0 from rfl, List.nil_append] at ht0
   have hp := x0d r n es (wo k n 0) hn ho (by omega) (by omega) (by omega)
   have hpl := C06 (r, (n : Int), es) (wo k n 0)
   have hpi := w0c (r := r) ho hn
   have hw : IntKind.i64.wrap ((k : Int) + ((1 : Nat) : Int)) = ((k + 1 : Nat) : Int) := by rw [w64 (by omega) (by omega)]; rfl
   obtain ⟨d', rfl⟩ : ∃ d', d = d' + 1 := ⟨d - 1, by omega⟩
   have hF : g7 (r, (n : Int), es) (wo k n 0) = (r, ((n - 1 : Nat) : Int), (g7 (r, (n : Int), es) (wo k n 0)).2.2) := by rw [← hlen]; rfl
   obtain ⟨l', q1⟩ := n0f (n - 1) fuel d' (left.take k ++ left.drop (k + 1)) r (g7 (r, (n : Int), es) (wo k n 0)).2.2 (by omega) (by omega) (by rw [hlen] at hpi; exact hpi) (by simp only at hpl; omega) (by simp only [List.length_append, List.length_take, List.length_drop]; omega) (by omega) (by omega)
   refine ⟨l', ?_⟩
   rw [← hF] at q1
   have e2 : D02 (d' + 1) (r, (n : Int), es) = D02 d' (g7 (r, (n : Int), es) (wo k n 0)) := by
    show (match B8 (r, (n : Int), es) with | none => (r, (n : Int), es) | some k => D02 d' (g7 (r, (n : Int), es) (wo k ((n : Int)).toNat 0))) = _
    rw [hleaf, hlf, Int.toNat_natCast]
   rw [e2]
   simp only [e0, Bool.false_eq_true, if_false, ht0, Option.bind_some, hp]
   generalize g7 (r, (n : Int), es) (wo k n 0) = gp at *
   rw [hF]
   simp only [hw]
   rw [W0e (by omega), Option.bind_some, e04 (by omega), Option.bind_some, B0 (by simp only [List.length_take, List.length_drop]; omega), Option.bind_some, q1, ← hF]
theorem o0f {g : l0} (hg : Y0 g = true) : ∃ v, w6 g = some (j0b g, v) := by
 obtain ⟨h1, h2, h3, h4⟩ := Q3 hg
 have hq := C00 g (by omega)
 have hc := A02 g (by omega)
 obtain ⟨r, n, es⟩ := g
 simp only at h2 h3 h4
 obtain ⟨N, rfl⟩ : ∃ N : Nat, n = (N : Int) := ⟨n.toNat, by omega⟩
 have hn : inN N es := fun e he => ⟨(h1 e he).1, (h1 e he).2.1⟩
 obtain ⟨u, e1, e2⟩ := B0d N (by omega) N 0 I0 [] (by omega) (W0 (by omega)) rfl
 obtain ⟨l', q1⟩ := n0f N I0 40 u r es (by omega) (by omega) hn h4 e2 (W0 (by omega)) (by omega)
 refine ⟨l', ?_⟩
 unfold w6
 rw [show ((0 : Nat) : Int) = 0 from rfl] at e1
 simp only [hc, Option.bind_some, hq, hg, Bool.not_true, Bool.false_eq_true, if_false, e1, q1, Z7]
 rfl
def A08 (g : l0) : l0 := J2 (j0b g)
theorem y07 {g : l0} (hf : S0 g = true) : e02 g = (g, []) := by
 obtain ⟨h1, h2⟩ := (g04 g).1 hf
 unfold e02
 rw [h1]
 show w00 40 g = _
 unfold w00
 rw [h2]
theorem y0g {g : l0} (hf : S0 g = true) : d9 g = some (A08 g) := by
 have hg := g6 hf
 obtain ⟨h1, h2, h3, h4⟩ := Q3 hg
 have e1 := G0b g (by omega)
 rw [y07 hf] at e1
 obtain ⟨v, e2⟩ := x0g hg
 have e3 := m09 (j0b g) (a02 40 hf)
 obtain ⟨r, n, es⟩ := g
 unfold d9 A08
 simp only [e1, Option.bind_some, e2]
 simp only [e3, Option.bind_some]
theorem z0g {g : l0} (hf : S0 g = true) : g9 g = some (A08 g) := by
 have hg := g6 hf
 obtain ⟨h1, h2, h3, h4⟩ := Q3 hg
 have e1 := H0b g (by omega)
 rw [y07 hf] at e1
 obtain ⟨v, e2⟩ := o0f hg
 have e3 := l09 (j0b g) (a02 40 hf)
 obtain ⟨r, n, es⟩ := g
 unfold g9 A08
 simp only [e1, Option.bind_some, e2]
 simp only [e3, Option.bind_some]
end Go.Proofs.YtknoadmdnjaocaaGreat
namespace Go.Proofs.YtknoadmdnjaocaaGreat
open Go.H
set_option linter.unusedVariables false
set_option linter.unusedSimpArgs false
theorem k0b : ∀ (d : Nat) {g : l0}, Y0 g = true → g.2.1.toNat ≤ d + 1 → B8 (D02 d g) = none
 | 0, g, hg, hn => by
  cases e : B8 g with
  | none => exact e
  | some k => have := H0d e; omega
 | d + 1, g, hg, hn => by
  unfold D02
  cases e : B8 g with
  | none => exact e
  | some k =>
   obtain ⟨h1, h2, h3, h4⟩ := z08 hg e
   exact k0b d (E06 hg h1 h3 h4) (by show (((wo k g.2.1.toNat 0).length : Nat) : Int).toNat ≤ d + 1; omega)
theorem R0i {g : l0} (hf : S0 g = true) {v x y z : Int} (hy : y ∈ z8 v x g.2.2) (hz : z ∈ z8 v x g.2.2) : y = z := by
 obtain ⟨e, he, h1⟩ := S7.1 hy
 obtain ⟨e', he', h2⟩ := S7.1 hz
 by_cases hne : e = e'
 ·subst hne
  rcases h1 with ⟨a, b, c, rfl⟩ | ⟨a, b, c, rfl⟩ <;> rcases h2 with ⟨a', b', c', rfl⟩ | ⟨a', b', c', rfl⟩ <;> first | rfl | omega
 ·have hc := (y08 (g6 hf)).1 hf e he e' he' hne
  unfold z02 at hc
  simp only [Bool.and_eq_false_iff, Bool.or_eq_false_iff, decide_eq_false_iff_not] at hc
  rcases h1 with ⟨a, b, c, d⟩ | ⟨a, b, c, d⟩ <;> rcases h2 with ⟨a', b', c', d'⟩ | ⟨a', b', c', d'⟩ <;> first | omega | (exfalso; rcases hc with hc | ⟨hc1, hc2⟩ <;> omega)
theorem F06 (g : l0) (v x : Int) : (D2 g v x = -1 ∧ z8 v x g.2.2 = []) ∨ D2 g v x ∈ z8 v x g.2.2 := by
 unfold D2
 cases e : D00 g v x with
 | nil =>
  left
  refine ⟨rfl, List.eq_nil_iff_forall_not_mem.2 fun y hy => ?_⟩
  have : y ∈ D00 g v x := (r9 A00 y _ _).2 (.inr hy)
  rw [e] at this; cases this
 | cons a l => exact .inr (m0c (by rw [e]; exact List.mem_cons_self ..))
theorem R09 {g : l0} (hf : S0 g = true) {v x y : Int} (hy : y ∈ z8 v x g.2.2) : D2 g v x = y := by
 rcases F06 g v x with ⟨_, h⟩ | h
 ·rw [h] at hy; cases hy
 ·exact R0i hf h hy
theorem p0f : ∀ (d i j : Nat), i ≤ j → j < i + d → (j : Int) ∈ U8 d i ∧ -(j : Int) ∈ U8 d i
 | 0, i, j, h1, h2 => by omega
 | d + 1, i, j, h1, h2 => by
  simp only [U8, List.mem_cons]
  by_cases c : j = i
  ·subst c; simp
  ·obtain ⟨a, b⟩ := p0f d (i + 1) j (by omega) (by omega)
   exact ⟨.inr (.inr a), .inr (.inr b)⟩
theorem E0c (g : l0) (v : Int) : ∀ (ls u : List Int) (x : Int), x ∈ ls → 0 ≤ D2 g v x → D2 g v x ∈ N00 g v ls u
 | y :: r, u, x, hx, h0 => by
  rw [N00]
  rcases List.mem_cons.1 hx with rfl | hx
  ·obtain ⟨t, e⟩ := w01 g v r (M05 u (D2 g v x))
   rw [e]
   refine List.mem_append_left _ ?_
   unfold M05
   split
   ·exact List.mem_append_right _ (List.mem_singleton.2 rfl)
   ·rename_i h
    by_cases hm : D2 g v x ∈ u
    ·exact hm
    ·exact absurd ⟨h0, hm⟩ h
  ·exact E0c g v r _ x hx h0
theorem l0b (g : l0) (ls : List Int) : ∀ (f i : Nat) (u : List Int), ∃ t, A8 g ls f i u = u ++ t
 | 0, i, u => ⟨[], by simp [A8]⟩
 | f + 1, i, u => by
  unfold A8
  split
  ·rename_i v _
   obtain ⟨t1, e1⟩ := w01 g v ls u
   obtain ⟨t2, e2⟩ := l0b g ls f (i + 1) (N00 g v ls u)
   exact ⟨t1 ++ t2, by rw [e2, e1, List.append_assoc]⟩
  ·exact ⟨[], by simp⟩
theorem m0b {r : Int} {n : Nat} {es : List F0} (hg : inG (r, (n : Int), es)) (ls : List Int) : ∀ (f i : Nat) (u : List Int), gud n u → n + 1 ≤ f + i → i ≤ u.length →
  (∀ j, j < i → ∀ v, u[j]? = some v → ∀ x ∈ ls, 0 ≤ D2 (r, (n : Int), es) v x → D2 (r, (n : Int), es) v x ∈ u) →
  ∀ v ∈ A8 (r, (n : Int), es) ls f i u, ∀ x ∈ ls, 0 ≤ D2 (r, (n : Int), es) v x → D2 (r, (n : Int), es) v x ∈ A8 (r, (n : Int), es) ls f i u
 | 0, i, u, hu, hn, hi, hc => by have := B02 n u hu.1 hu.2; omega
 | f + 1, i, u, hu, hn, hi, hc => by
  unfold A8
  cases e : u[i]? with
  | none =>
   have : i = u.length := by have := List.getElem?_eq_none_iff.1 e; omega
   show ∀ v ∈ u, ∀ x ∈ ls, 0 ≤ D2 (r, (n : Int), es) v x → D2 (r, (n : Int), es) v x ∈ u
   intro v hv x hx h0
   obtain ⟨j, hj⟩ := List.getElem?_of_mem hv
   exact hc j (by have := (List.getElem?_eq_some_iff.1 hj).1; omega) v hj x hx h0
  | some w =>
   have hil := (List.getElem?_eq_some_iff.1 e).1
   obtain ⟨t, et⟩ := w01 (r, (n : Int), es) w ls u
   refine m0b hg ls f (i + 1) _ (d02 hg w ls u hu) (by omega) (by rw [et, List.length_append]; omega) fun j hj v hv x hx h0 => ?_
   by_cases c : j = i
   ·subst c
    rw [et, List.getElem?_append_left hil, e] at hv
    cases hv
    exact E0c _ _ ls u x hx h0
   ·rw [et, List.getElem?_append_left (by omega)] at hv
    rw [et]
    exact List.mem_append_left _ (hc j (by omega) v hv x hx h0)
theorem n0b (g : l0) : ∃ t, d5 g = 0 :: t := by
 obtain ⟨t, e⟩ := l0b g (U8 g.1.toNat 1) (g.2.1.toNat + 1) 0 [0]
 exact ⟨t, e⟩
theorem q0f {g : l0} (hf : S0 g = true) {x : Int} (h : Rch g.2.2 0 x) : x ∈ d5 g := by
 obtain ⟨q1, q2, q3, q4⟩ := L1 hf
 have hz := n0b g
 have hclo : ∀ v ∈ d5 g, ∀ x ∈ U8 g.1.toNat 1, 0 ≤ D2 g v x → D2 g v x ∈ d5 g := by
  obtain ⟨r, n, es⟩ := g
  simp only at q2 q3
  obtain ⟨N, rfl⟩ : ∃ N : Nat, n = (N : Int) := ⟨n.toNat, by omega⟩
  exact m0b q1 _ (((N : Int)).toNat + 1) 0 [0] ⟨by simp, fun x hx => by simp at hx; subst hx; omega⟩ (by simp only [Int.toNat_natCast]; omega) (Nat.zero_le _) (fun j hj => by omega)
 refine Rch.sub (P := fun x => x ∈ d5 g) ?_ (fun e he => ?_) h
 ·obtain ⟨t, e⟩ := hz
  rw [e]; exact List.mem_cons_self ..
 ·have hq := q1 e he
  obtain ⟨j, hj⟩ : ∃ j : Nat, e.2.1 = (j : Int) := ⟨e.2.1.toNat, by omega⟩
  obtain ⟨l1, l2⟩ := p0f g.1.toNat 1 j (by omega) (by omega)
  have n1 : D2 g e.1 (j : Int) = e.2.2 := R09 hf (S7.2 ⟨e, he, .inl ⟨by omega, hj, rfl, rfl⟩⟩)
  have n2 : D2 g e.2.2 (-(j : Int)) = e.1 := R09 hf (S7.2 ⟨e, he, .inr ⟨by omega, by omega, rfl, rfl⟩⟩)
  constructor
  ·intro h1
   have := hclo e.1 h1 (j : Int) l1 (by rw [n1]; omega)
   rwa [n1] at this
  ·intro h1
   have := hclo e.2.2 h1 (-(j : Int)) l2 (by rw [n2]; omega)
   rwa [n2] at this
theorem I0d {bad : Nat → Bool} : ∀ {d v : Nat}, lf bad d v = none → ∀ k, v ≤ k → k < v + d → bad k = false
 | 0, v, h, k, h1, h2 => by omega
 | d + 1, v, h, k, h1, h2 => by
  unfold lf at h
  cases hb : bad v with
  | true => rw [hb] at h; cases h
  | false =>
   rw [hb] at h
   by_cases c : k = v
   ·rw [c]; exact hb
   ·exact I0d (d := d) (v := v + 1) h k (by omega) (by omega)
theorem o0b {bad : Nat → Bool} : ∀ {d v : Nat}, (∀ k, v ≤ k → k < v + d → bad k = false) → lf bad d v = none
 | 0, v, h => rfl
 | d + 1, v, h => by
  unfold lf
  rw [h v (Nat.le_refl _) (by omega)]
  exact o0b fun k h1 h2 => h k (by omega) (by omega)
theorem S0i {g : l0} (hf : S0 g = true) (hl : B8 g = none) {x : Int} (h0 : 0 ≤ x) (h1 : x < g.2.1) : x ∈ d5 g := by
 refine q0f hf ?_
 by_cases c : x = 0
 ·subst c; exact .base
 ·have := I0d hl x.toNat (by omega) (by omega)
  unfold v08 at this
  simp only [Bool.or_eq_false_iff, Bool.not_eq_false', decide_eq_true_eq] at this
  have h3 := this.2
  rw [show ((x.toNat : Nat) : Int) = x by omega] at h3
  exact (u07 _ _ _).1 h3
theorem F0c {n : Nat} : ∀ (o : List Int) (k : Nat) (A : List Int), A.length = n → inV n o → o.Nodup → ∀ (i : Nat) (v : Int), o[i]? = some v → getI (t9 A k o) v = ((k + i : Nat) : Int)
 | [], k, A, hA, ho, hd, i, v, hi => by simp at hi
 | w :: r, k, A, hA, ho, hd, i, v, hi => by
  have hw := ho w (List.mem_cons_self ..)
  obtain ⟨hd1, hd2⟩ := List.nodup_cons.1 hd
  cases i with
  | zero =>
   simp at hi; subst hi
   rw [t9, Y0a r _ _ w (by simp [hA]) (fun u hu => ho u (List.mem_cons_of_mem _ hu)) hw.1 hd1, N01 hw.1 (by omega) hw.1, if_pos rfl]; rfl
  | succ i =>
   rw [t9, F0c r (k + 1) _ (by simp [hA]) (fun u hu => ho u (List.mem_cons_of_mem _ hu)) hd2 i v (by simpa using hi)]
   omega
theorem o0k {n : Nat} {o : List Int} (ho : inV n o) (hd : o.Nodup) {i : Nat} {v : Int} (hi : o[i]? = some v) : getI (plc n o) v = (i : Int) := by
 have := F0c o 0 (List.replicate n (-1)) (by simp) ho hd i v hi
 rw [Nat.zero_add] at this; exact this
theorem A0g (P : List Int) : ∀ (es : List F0), (∀ e ∈ es, 0 ≤ getI P e.1 ∧ 0 ≤ getI P e.2.2) → pE P es = es.map fun e => (getI P e.1, e.2.1, getI P e.2.2)
 | [], h => rfl
 | e :: r, h => by
  have h1 := h e (List.mem_cons_self ..)
  unfold pE
  rw [show (decide (0 ≤ getI P e.1) && decide (0 ≤ getI P e.2.2)) = true by simp [h1.1, h1.2], A0g P r fun e' he' => h e' (List.mem_cons_of_mem _ he')]
  rfl
theorem G0c (e : F0) : ∀ {l : List F0}, e ∉ l → (m00 V0 e l).Perm (e :: l)
 | [], _ => List.Perm.refl _
 | y :: l, h => by
  have ih := G0c e (l := l) fun hm => h (List.mem_cons_of_mem _ hm)
  unfold m00
  split
  ·exact List.Perm.refl _
  ·split
   ·rename_i c
    exact absurd (r8.eq _ _ c) fun hh => h (by rw [hh]; exact List.mem_cons_self ..)
   ·exact (List.Perm.cons y ih).trans (List.Perm.swap e y l)
theorem n09 : ∀ (r acc : List F0), (acc ++ r).Nodup → (t8 V0 acc r).Perm (acc ++ r)
 | [], acc, h => by simp [t8]
 | x :: r, acc, h => by
  have hm : (acc ++ x :: r).Perm (x :: (acc ++ r)) := List.perm_middle
  have hn := hm.nodup_iff.1 h
  have hx : x ∉ acc := fun h1 => (List.nodup_cons.1 hn).1 (List.mem_append_left _ h1)
  have hp := G0c x hx
  have hp2 : (m00 V0 x acc ++ r).Perm (x :: (acc ++ r)) := hp.append_right r
  rw [t8]
  exact ((n09 r _ (hp2.nodup_iff.2 hn)).trans hp2).trans hm.symm
theorem T0i (v : Int) {l l' : List F0} (h : l.Perm l') : c01 v l = c01 v l' := by
 induction h with
 | nil => rfl
 | cons x _ ih => simp only [c01, ih]
 | swap x y l => simp only [c01]; omega
 | trans _ _ h1 h2 => rw [h1, h2]
theorem r0f {φ : Int → Int} {v : Int} : ∀ (es : List F0), (∀ e ∈ es, (φ e.1 = φ v ↔ e.1 = v) ∧ (φ e.2.2 = φ v ↔ e.2.2 = v)) → c01 (φ v) (es.map fun e => (φ e.1, e.2.1, φ e.2.2)) = c01 v es
 | [], h => rfl
 | e :: r, h => by
  obtain ⟨h1, h2⟩ := h e (List.mem_cons_self ..)
  have ih := r0f r fun e' he' => h e' (List.mem_cons_of_mem _ he')
  simp only [List.map_cons, c01, ih, W0j]
  congr 2
  ·by_cases c : e.1 = v
   ·rw [if_pos (h1.2 c), if_pos c]
   ·rw [if_neg fun q => c (h1.1 q), if_neg c]
  ·by_cases c : e.2.2 = v
   ·rw [if_pos (h2.2 c), if_pos c]
   ·rw [if_neg fun q => c (h2.1 q), if_neg c]
theorem p0k : ∀ (m : Nat) (o : List Int), (∀ i : Nat, i < m → (i : Int) ∈ o) → m ≤ o.length
 | 0, o, h => Nat.zero_le _
 | m + 1, o, h => by
  have hm := h m (by omega)
  have h1 := p0k m (o.erase (m : Int)) fun i hi => (List.mem_erase_of_ne (by omega)).2 (h i (by omega))
  rw [List.length_erase_of_mem hm] at h1
  have := List.length_pos_of_mem hm
  omega
theorem U0i {es : List F0} (hA : Asc V0 es) : es.Nodup := by
 refine List.Pairwise.imp (fun {a b} h e => ?_) hA
 rw [e, r8.refl] at h; omega
theorem s0f {es : List F0} (hA : Asc V0 es) : t8 V0 [] es = es :=
 F0a r8 (b04 r8 _ _ .nil) hA fun x => by rw [r9 r8]; simp
theorem B0g {t : l0} (hf : S0 t = true) (hl : B8 t = none) : Q6 (J2 t) = true := by
 have hg := g6 hf
 obtain ⟨q1, q2, q3, q4⟩ := L1 hf
 have hA := D0c hg
 obtain ⟨⟨hd, ho⟩, ho1⟩ := E05 hf
 have hlen := B02 _ _ hd ho
 have hall : ∀ x : Int, 0 ≤ x → x < t.2.1 → x ∈ d5 t := fun x h0 h1 => S0i hf hl h0 h1
 obtain ⟨tl, hz⟩ := n0b t
 obtain ⟨n, hn⟩ : ∃ n : Nat, t.2.1 = (n : Int) := ⟨t.2.1.toNat, by omega⟩
 have hnt : t.2.1.toNat = n := by omega
 rw [hnt] at ho hlen
 have hol : (d5 t).length = n := by
  have := p0k n (d5 t) fun i hi => hall _ (by omega) (by omega)
  omega
 let P : Int → Int := getI (plc n (d5 t))
 have hP : ∀ (i : Nat) (v : Int), (d5 t)[i]? = some v → P v = (i : Int) := fun i v hi => o0k ho hd hi
 have hPr : ∀ x : Int, 0 ≤ x → x < t.2.1 → 0 ≤ P x ∧ P x < (n : Int) := fun x h0 h1 => by
  obtain ⟨i, hi⟩ := List.getElem?_of_mem (hall x h0 h1)
  have := (List.getElem?_eq_some_iff.1 hi).1
  rw [hP i x hi]; omega
 have hPi : ∀ x y : Int, 0 ≤ x → x < t.2.1 → 0 ≤ y → y < t.2.1 → P x = P y → x = y := fun x y h0 h1 h2 h3 h => G0d ho hd h0 h2 (hPr x h0 h1).1 h
 have hP0 : P 0 = 0 := hP 0 0 (by rw [hz]; rfl)
 have hpE : pE (plc n (d5 t)) t.2.2 = t.2.2.map fun e => (P e.1, e.2.1, P e.2.2) := A0g _ _ fun e he => by
  have := q1 e he
  exact ⟨(hPr e.1 this.1.1 this.1.2).1, (hPr e.2.2 this.2.1.1 this.2.1.2).1⟩
 have hC : J2 t = (t.1, (n : Int), t8 V0 [] (t.2.2.map fun e => (P e.1, e.2.1, P e.2.2))) := by
  unfold J2 g7
  rw [hnt, hpE, hol]
 have hinjE : ∀ e ∈ t.2.2, ∀ e' ∈ t.2.2, ((P e.1, e.2.1, P e.2.2) : F0) = (P e'.1, e'.2.1, P e'.2.2) → e = e' := fun e he e' he' h => by
  have a := q1 e he
  have b := q1 e' he'
  simp only [Prod.mk.injEq] at h
  have h1 := hPi _ _ a.1.1 a.1.2 b.1.1 b.1.2 h.1
  have h2 := hPi _ _ a.2.1.1 a.2.1.2 b.2.1.1 b.2.1.2 h.2.2
  obtain ⟨e0, e1, e2⟩ := e
  obtain ⟨f0, f1, f2⟩ := e'
  simp only at h1 h2 h
  rw [h1, h2, h.2.1]
 have hmap : (t.2.2.map fun e => ((P e.1, e.2.1, P e.2.2) : F0)).Nodup := by
  have := U0i hA
  rw [List.Nodup, List.pairwise_map]
  exact List.Pairwise.imp_of_mem (fun {a b} ha hb h e => h (hinjE a ha b hb e)) this
 have hmem : ∀ e', e' ∈ (J2 t).2.2 ↔ ∃ e ∈ t.2.2, e' = (P e.1, e.2.1, P e.2.2) := fun e' => by
  rw [hC]
  simp only
  rw [r9 r8]
  simp only [List.not_mem_nil, false_or, List.mem_map]
  exact ⟨fun ⟨e, h1, h2⟩ => ⟨e, h1, h2.symm⟩, fun ⟨e, h1, h2⟩ => ⟨e, h1, h2.symm⟩⟩
 have hcf : S0 (J2 t) = true := g05 hf (by rw [hnt]; exact ho) hd ho1 (by omega)
 have hcg := g6 hcf
 have hn1 : (J2 t).2.1 = (n : Int) := by rw [hC]
 have hdeg : ∀ v : Int, 0 ≤ v → v < t.2.1 → c01 (P v) (J2 t).2.2 = c01 v t.2.2 := fun v h0 h1 => by
  rw [hC]
  simp only
  rw [T0i _ (n09 _ [] (by simpa using hmap)), List.nil_append]
  refine r0f _ fun e he => ?_
  have := q1 e he
  exact ⟨⟨fun h => hPi _ _ this.1.1 this.1.2 h0 h1 h, fun h => by rw [h]⟩, ⟨fun h => hPi _ _ this.2.1.1 this.2.1.2 h0 h1 h, fun h => by rw [h]⟩⟩
 have hrch : ∀ x, Rch t.2.2 0 x → Rch (J2 t).2.2 0 (P x) := fun x hx =>
  Rch.sub (P := fun x => Rch (J2 t).2.2 0 (P x)) (by show Rch _ 0 (P 0); rw [hP0]; exact .base) (fun e he => Rch.closed (P e.1, e.2.1, P e.2.2) ((hmem _).2 ⟨e, he, rfl⟩)) hx
 have hleaf : B8 (J2 t) = none := by
  unfold B8
  refine o0b fun k k1 k2 => ?_
  rw [hn1, Int.toNat_natCast] at k2
  obtain ⟨v, hv⟩ : ∃ v, (d5 t)[k]? = some v := ⟨_, List.getElem?_eq_getElem (by omega)⟩
  have hvr := ho v (List.mem_of_getElem? hv)
  have hPv := hP k v hv
  have hv0 : v ≠ 0 := fun h => by rw [h, hP0] at hPv; omega
  have hb := I0d hl v.toNat (by omega) (by omega)
  unfold v08 at hb ⊢
  rw [show ((v.toNat : Nat) : Int) = v by omega] at hb
  simp only [Bool.or_eq_false_iff, Bool.not_eq_false', decide_eq_true_eq, decide_eq_false_iff_not] at hb ⊢
  refine ⟨?_, ?_⟩
  ·rw [← hPv, hdeg v hvr.1 (by omega)]; exact hb.1
  ·rw [← hPv]
   exact (u07 _ _ _).2 (hrch v ((u07 _ _ _).1 hb.2))
 have hnext : ∀ v x : Int, 0 ≤ v → v < t.2.1 → (D2 t v x = -1 ∧ D2 (J2 t) (P v) x = -1) ∨ ((0 ≤ D2 t v x ∧ D2 t v x < t.2.1) ∧ D2 (J2 t) (P v) x = P (D2 t v x)) := fun v x h0 h1 => by
  rcases F06 t v x with ⟨e1, e2⟩ | e1
  ·left
   refine ⟨e1, ?_⟩
   rcases F06 (J2 t) (P v) x with ⟨c1, c2⟩ | c1
   ·exact c1
   ·exfalso
    obtain ⟨e', he', hh⟩ := S7.1 c1
    obtain ⟨e, he, rfl⟩ := (hmem e').1 he'
    have hq := q1 e he
    have : ∃ y, y ∈ z8 v x t.2.2 := by
     rcases hh with ⟨a, b, c, _⟩ | ⟨a, b, c, _⟩
     ·exact ⟨_, S7.2 ⟨e, he, .inl ⟨a, b, hPi _ _ hq.1.1 hq.1.2 h0 h1 c, rfl⟩⟩⟩
     ·exact ⟨_, S7.2 ⟨e, he, .inr ⟨a, b, hPi _ _ hq.2.1.1 hq.2.1.2 h0 h1 c, rfl⟩⟩⟩
    obtain ⟨y, hy⟩ := this
    rw [e2] at hy; cases hy
  ·right
   generalize D2 t v x = y at e1
   obtain ⟨e, he, hh⟩ := S7.1 e1
   have hq := q1 e he
   rcases hh with ⟨a, b, c, rfl⟩ | ⟨a, b, c, rfl⟩
   ·exact ⟨hq.2.1, R09 hcf (S7.2 ⟨_, (hmem _).2 ⟨e, he, rfl⟩, .inl ⟨a, b, by show P e.1 = P v; rw [c], rfl⟩⟩)⟩
   ·exact ⟨hq.1, R09 hcf (S7.2 ⟨_, (hmem _).2 ⟨e, he, rfl⟩, .inr ⟨a, b, by show P e.2.2 = P v; rw [c], rfl⟩⟩)⟩
 have inR' : ∀ u : List Int, gud n u → ∀ x ∈ u, 0 ≤ x ∧ x < t.2.1 := fun u hu x hx => by have := hu.2 x hx; omega
 have hgt : inG (t.1, (n : Int), t.2.2) := by
  have := q1
  intro e he
  have := q1 e he
  rw [hn] at this; exact this
 have het : (t.1, (n : Int), t.2.2) = t := by
  rw [← hn]
 have hS : ∀ (u : List Int) (y z : Int), gud n u → (y = -1 ∧ z = -1) ∨ ((0 ≤ y ∧ y < t.2.1) ∧ z = P y) → M05 (u.map P) z = (M05 u y).map P := fun u y z hu h => by
  unfold M05
  rcases h with ⟨rfl, rfl⟩ | ⟨⟨h0, h1⟩, rfl⟩
  ·rw [if_neg (by omega), if_neg (by omega)]
  ·have hm : P y ∈ u.map P ↔ y ∈ u := by
    constructor
    ·intro h
     obtain ⟨x, hx, e⟩ := List.mem_map.1 h
     have := inR' u hu x hx
     rw [← hPi x y this.1 this.2 h0 h1 e]; exact hx
    ·exact fun h => List.mem_map.2 ⟨y, h, rfl⟩
   by_cases c : y ∈ u
   ·rw [if_neg fun q => q.2 (hm.2 c), if_neg fun q => q.2 c]
   ·rw [if_pos ⟨(hPr y h0 h1).1, fun q => c (hm.1 q)⟩, if_pos ⟨h0, c⟩]; simp
 have hIn : ∀ (v : Int), 0 ≤ v → v < t.2.1 → ∀ (ls u : List Int), gud n u → N00 (J2 t) (P v) ls (u.map P) = (N00 t v ls u).map P := fun v h0 h1 ls => by
  induction ls with
  | nil => intro u hu; rfl
  | cons x l ih =>
   intro u hu
   have hx : D2 t v x = -1 ∨ (0 ≤ D2 t v x ∧ D2 t v x < (n : Int)) := by
    rcases hnext v x h0 h1 with ⟨a, _⟩ | ⟨a, _⟩
    ·exact .inl a
    ·exact .inr (by omega)
   rw [N00, N00, hS u _ _ hu (hnext v x h0 h1), ih _ (F0h hu hx)]
 have hOut : ∀ (f i : Nat) (u : List Int) (ls : List Int), gud n u → A8 (J2 t) ls f i (u.map P) = (A8 t ls f i u).map P := fun f => by
  induction f with
  | zero => intro i u ls hu; rfl
  | succ f ih =>
   intro i u ls hu
   unfold A8
   rw [List.getElem?_map]
   cases e : u[i]? with
   | none => rfl
   | some v =>
    have hv := inR' u hu v (List.mem_of_getElem? e)
    have hgi : gud n (N00 t v ls u) := by
     have := d02 hgt v ls u hu
     rw [het] at this; exact this
    simp only [Option.map_some]
    rw [hIn v hv.1 hv.2 ls u hu]
    exact ih (i + 1) _ ls hgi
 have hord : d5 (J2 t) = (d5 t).map P := by
  have h1 : (J2 t).1 = t.1 := by rw [hC]
  have h2 := hOut (n + 1) 0 [0] (U8 t.1.toNat 1) ⟨by simp, fun x hx => by simp at hx; subst hx; omega⟩
  rw [List.map_cons, List.map_nil, hP0] at h2
  show A8 (J2 t) (U8 (J2 t).1.toNat 1) ((J2 t).2.1.toNat + 1) 0 [0] = (A8 t (U8 t.1.toNat 1) (t.2.1.toNat + 1) 0 [0]).map P
  rw [h1, hn1, hnt, Int.toNat_natCast]
  exact h2
 have hiota : ∀ i : Nat, i < n → (d5 (J2 t))[i]? = some (i : Int) := fun i hi => by
  rw [hord, List.getElem?_map]
  obtain ⟨v, hv⟩ : ∃ v, (d5 t)[i]? = some v := ⟨_, List.getElem?_eq_getElem (by omega)⟩
  rw [hv, Option.map_some, hP i v hv]
 obtain ⟨⟨hd2, ho2⟩, _⟩ := E05 hcf
 rw [hn1, Int.toNat_natCast] at ho2
 have hid : ∀ x : Int, 0 ≤ x → x < (n : Int) → getI (plc n (d5 (J2 t))) x = x := fun x h0 h1 => by
  have := o0k ho2 hd2 (hiota x.toNat (by omega))
  rw [show ((x.toNat : Nat) : Int) = x by omega] at this; exact this
 have hlen2 : (d5 (J2 t)).length = n := by rw [hord, List.length_map, hol]
 have hcin := (Q3 hcg).1
 have hcan : J2 (J2 t) = J2 t := by
  have hpe : pE (plc n (d5 (J2 t))) (J2 t).2.2 = (J2 t).2.2 := by
   rw [A0g _ _ fun e he => by
    have := hcin e he
    rw [hn1] at this
    exact ⟨by rw [hid _ this.1.1 this.1.2]; exact this.1.1, by rw [hid _ this.2.1.1 this.2.1.2]; exact this.2.1.1⟩]
   refine (List.map_congr_left fun e he => ?_).trans (List.map_id _)
   have := hcin e he
   rw [hn1] at this
   rw [hid _ this.1.1 this.1.2, hid _ this.2.1.1 this.2.1.2]; rfl
  show g7 (J2 t) (d5 (J2 t)) = J2 t
  unfold g7
  rw [hn1, Int.toNat_natCast, hpe, s0f (D0c hcg), hlen2]
  rw [← hn1]
 unfold Q6
 rw [hcf, hleaf, hcan]
 simp [j09]
theorem V0i {g : l0} (hf : S0 g = true) : Q6 (A08 g) = true := by
 have hg := g6 hf
 have := (Q3 hg).2.2.1
 exact B0g (a02 40 hf) (k0b 40 hg (by omega))
end Go.Proofs.YtknoadmdnjaocaaGreat
namespace Go.Proofs.YtknoadmdnjaocaaGreat
open Go.H
set_option linter.unusedVariables false
set_option linter.unusedSimpArgs false
theorem H0c (g : l0) : ∀ d k, (h06 g d k).length ≤ d * (U8 g.1.toNat 1).length
 | 0, k => Nat.zero_le _
 | d + 1, k => by
  have h1 := F05 g (k : Int) (U8 g.1.toNat 1)
  have h2 := H0c g d (k + 1)
  rw [h06, List.length_append, Nat.succ_mul]
  omega
theorem o09 {g : l0} (hf : S0 g = true) : (b9 g).length ≤ 1000 := by
 obtain ⟨q1, q2, q3, q4⟩ := L1 hf
 have h := H0c g g.2.1.toNat 0
 rw [C02] at h
 unfold b9
 have h2 : g.2.1.toNat * (2 * g.1.toNat) ≤ 40 * (2 * 3) := Nat.mul_le_mul (by omega) (by omega)
 omega
def K6 (g : l0) : Bool := Q6 g && decide ((b9 g).length = 0)
theorem G0m (n : Nat) : decide (((n : Nat) : Int) = 0) = decide (n = 0) := by
 by_cases c : n = 0
 ·rw [decide_eq_true c, decide_eq_true (by omega)]
 ·rw [decide_eq_false c, decide_eq_false (by omega)]
theorem G5 {g : l0} (h : Q6 g = true) : S0 g = true := by
 unfold Q6 at h
 simp only [Bool.and_eq_true] at h
 exact h.1
theorem a03 (g : l0) (hl : g.2.2.length ≤ 140737488355328) : E6 g = some (K6 g) := by
 have h1 := D0d g hl
 have h2 : Q6 g = true → U6 g = some (b9 g) := fun c => I0b (G5 c)
 have h3 : Q6 g = true → (b9 g).length ≤ 1000 := fun c => o09 (G5 c)
 unfold K6
 obtain ⟨a, b, c⟩ := g
 unfold E6 P9
 simp only [h1, Option.bind_some]
 cases e : Q6 (a, b, c) with
 | false => rfl
 | true =>
  have := h3 e
  simp only [C2, h2 e, Option.bind_some, cond_true, Bool.true_and]
  rw [B0 (by omega), Option.bind_some, G0m]
theorem b03 (g : l0) (hl : g.2.2.length ≤ 140737488355328) : M4 g = some (K6 g) := by
 have h1 := C0d g hl
 have h2 : Q6 g = true → V6 g = some (b9 g) := fun c => J0b (G5 c)
 have h3 : Q6 g = true → (b9 g).length ≤ 1000 := fun c => o09 (G5 c)
 unfold K6
 obtain ⟨a, b, c⟩ := g
 unfold M4
 simp only [h1, Option.bind_some]
 cases e : Q6 (a, b, c) with
 | false => rfl
 | true =>
  have := h3 e
  simp only [C2, h2 e, Option.bind_some, cond_true, Bool.true_and]
  rw [B0 (by omega), Option.bind_some, G0m]
theorem I8 {g : l0} (h : K6 g = true) : Q6 g = true := by
 unfold K6 at h
 simp only [Bool.and_eq_true] at h
 exact h.1
def n04 (g : l0) (v : Int) : List Int := v :: wo v.toNat g.2.1.toNat 0
def S01 (g : l0) (v : Int) : l0 := A08 (g7 g (n04 g v))
theorem q0k (g : Nat) : ∀ (d k : Nat), (g : Int) ∉ wo g d k
 | 0, k, h => nomatch h
 | d + 1, k, h => by
  unfold wo at h
  split at h
  ·exact q0k g d (k + 1) h
  ·rcases List.mem_cons.1 h with h | h
   ·omega
   ·exact q0k g d (k + 1) h
theorem p0b {g : l0} (hf : S0 g = true) {v : Int} (hv : 0 ≤ v ∧ v < g.2.1) : inV g.2.1.toNat (n04 g v) ∧ (n04 g v).Nodup ∧ (n04 g v).length = g.2.1.toNat := by
 obtain ⟨q1, q2, q3, q4⟩ := L1 hf
 refine ⟨fun x hx => ?_, ?_, ?_⟩
 ·rcases List.mem_cons.1 hx with rfl | hx
  ·omega
  ·exact V0e _ _ _ _ (by omega) x hx
 ·refine List.nodup_cons.2 ⟨fun h => ?_, f05 _ _ _⟩
  have := q0k v.toNat g.2.1.toNat 0
  rw [show ((v.toNat : Nat) : Int) = v by omega] at this
  exact this h
 ·unfold n04
  rw [List.length_cons, c0b, if_pos (by omega)]
  omega
theorem B08 {g : l0} (hf : S0 g = true) {v : Int} (hv : 0 ≤ v ∧ v < g.2.1) : S0 (g7 g (n04 g v)) = true := by
 obtain ⟨q1, q2, q3, q4⟩ := L1 hf
 obtain ⟨h1, h2, h3⟩ := p0b hf hv
 exact g05 hf h1 h2 (by omega) (by omega)
theorem I0c {g : l0} (hf : S0 g = true) {v : Int} (hv : 0 ≤ v ∧ v < g.2.1) : Q6 (S01 g v) = true := V0i (B08 hf hv)
theorem r0k (n : Nat) (v : Int) (h0 : 0 ≤ v) (hn : n ≤ 1000) : ∀ (d k fuel : Nat) (acc : List Int), k + d = n → d < fuel → acc.length ≤ k + 1 →
  T3 (n : Int) v fuel (k : Int) acc = some (acc ++ wo v.toNat d k)
 | d, k, 0, acc, hd, hf, ha => by omega
 | 0, k, fuel + 1, acc, hd, hf, ha => by
  rw [T3.eq_2, if_neg (by simp only [decide_eq_true_eq]; omega)]; simp [wo]
 | d + 1, k, fuel + 1, acc, hd, hf, ha => by
  have ih := fun acc' h => r0k n v h0 hn d (k + 1) fuel acc' (by omega) (by omega) h
  rw [T3.eq_2, if_pos (by simp only [decide_eq_true_eq]; omega), Q1 (show k < 10000 by omega) (by omega)]
  unfold wo
  by_cases c : k = v.toNat
  ·have e : decide ((k : Int) = v) = true := decide_eq_true (by omega)
   rw [e, if_neg (by simp), if_pos c, ih _ (by omega)]
  ·have e : decide ((k : Int) = v) = false := decide_eq_false (by omega)
   rw [e, if_pos (show (!false) = true from rfl), if_neg c, B0 (by simp; omega), Option.bind_some, ih _ (by simp; omega)]
   simp
theorem B0l (n : Nat) (v : Int) : ∀ (fuel : Nat) (k : Int) (acc : List Int), P5 (n : Int) v fuel k acc = T3 (n : Int) v fuel k acc
 | 0, k, acc => rfl
 | fuel + 1, k, acc => by
  rw [P5.eq_2, T3.eq_2]
  simp only [B0l n v fuel]
theorem C0g {g : l0} (hf : S0 g = true) {v : Int} (hv : 0 ≤ v ∧ v < g.2.1) : C9 g v = some (S01 g v, true) := by
 obtain ⟨q1, q2, q3, q4⟩ := L1 hf
 obtain ⟨h1, h2, h3⟩ := p0b hf hv
 have hfd := b01 g (by omega)
 rw [hf] at hfd
 have hL := r0k g.2.1.toNat v hv.1 (by omega) g.2.1.toNat 0 I0 [v] (by omega) (W0 (by omega)) (by simp)
 have hc := y0g (B08 hf hv)
 have hr := D06 g.1 g.2.1.toNat g.2.2 (n04 g v) (by rw [show ((g.2.1.toNat : Nat) : Int) = g.2.1 by omega]; exact g6 hf) h1 h2 (by omega) (by omega)
 rw [show ((0 : Nat) : Int) = 0 from rfl] at hL
 rw [show ((g.2.1.toNat : Nat) : Int) = g.2.1 by omega] at hL hr
 rw [show [v] ++ wo v.toNat g.2.1.toNat 0 = n04 g v from rfl] at hL
 rw [show (g.1, g.2.1, g.2.2) = g from rfl] at hr
 unfold S01
 generalize n04 g v = o at *
 generalize hpt : g7 g o = q at *
 obtain ⟨a, b, c⟩ := g
 obtain ⟨qa, qb, qc⟩ := q
 simp only at hL hv q3 ⊢
 unfold C9
 simp only [hfd, Option.bind_some, Bool.not_true, Bool.not_false, C2, Y04, cond_false]
 rw [w64 (by omega) (by omega), show inR 0 (b - 1) v = true by simp [inR]; omega]
 simp only [Bool.not_true, Bool.false_eq_true, if_false, hL, Option.bind_some, hr, hc]
theorem D0g {g : l0} (hf : S0 g = true) {v : Int} (hv : 0 ≤ v ∧ v < g.2.1) : D9 g v = some (S01 g v, true) := by
 obtain ⟨q1, q2, q3, q4⟩ := L1 hf
 obtain ⟨h1, h2, h3⟩ := p0b hf hv
 have hfd := a00 g (by omega)
 rw [hf] at hfd
 have hh := F0m (g6 hf) hv
 have hL := r0k g.2.1.toNat v hv.1 (by omega) g.2.1.toNat 0 I0 [v] (by omega) (W0 (by omega)) (by simp)
 rw [← B0l] at hL
 have hc := z0g (B08 hf hv)
 have hr := x0d g.1 g.2.1.toNat g.2.2 (n04 g v) (fun e he => by have := q1 e he; omega) h1 (by omega) (by omega) (by omega)
 rw [show ((0 : Nat) : Int) = 0 from rfl] at hL
 rw [show ((g.2.1.toNat : Nat) : Int) = g.2.1 by omega] at hL hr
 rw [show [v] ++ wo v.toNat g.2.1.toNat 0 = n04 g v from rfl] at hL
 rw [show (g.1, g.2.1, g.2.2) = g from rfl] at hr
 unfold S01
 generalize n04 g v = o at *
 generalize hpt : g7 g o = q at *
 obtain ⟨a, b, c⟩ := g
 obtain ⟨qa, qb, qc⟩ := q
 simp only at hL hv q3 ⊢
 unfold D9
 simp only [hfd, Option.bind_some, Bool.not_true, Bool.not_false, C2, hh, cond_false]
 simp only [Bool.false_eq_true, if_false, hL, Option.bind_some, hr, hc]
theorem t0f {g : l0} (h : Q6 g = true) : g.2.2.length ≤ 120 ∧ (1 ≤ g.2.1 ∧ g.2.1 ≤ 40) ∧ (1 ≤ g.1 ∧ g.1 ≤ 3) := by
 obtain ⟨q1, q2, q3, q4⟩ := L1 (G5 h)
 exact ⟨q4, q3, q2⟩
end Go.Proofs.YtknoadmdnjaocaaGreat
namespace Go.Proofs.YtknoadmdnjaocaaGreat
open Go.H
set_option linter.unusedVariables false
set_option linter.unusedSimpArgs false
def i06 (p : List Int) : Nat → Nat → Bool
 | 0, k => true
 | d + 1, k => match p[k]? with
  | some x => inR 0 ((p.length : Int) - 1) x && (!decide (x ∈ p.take k) && i06 p d (k + 1))
  | none => true
def c6 (p : List Int) : Bool := decide (p.length ≤ 40) && i06 p p.length 0
theorem K0b {α : Type} {xs : List α} {k i : Nat} {x : α} (hk : k < i) (h : xs[k]? = some x) : (xs.take i).drop k = x :: (xs.take i).drop (k + 1) := M1 (by rw [List.getElem?_take, if_pos hk]; exact h)
theorem u0f (p : List Int) (i : Nat) (x : Int) (hi : p[i]? = some x) (hl : p.length ≤ 9223372036854775807) : ∀ (d k fuel : Nat), k + d = i → d < fuel →
  V3 (i : Int) p fuel (k : Int) = some (bif decide (x ∈ (p.take i).drop k) then .inl false else .inr ())
 | d, k, 0, hd, hf => by omega
 | 0, k, fuel + 1, hd, hf => by
  have : (p.take i).drop k = [] := List.drop_eq_nil_of_le (by rw [List.length_take]; omega)
  rw [V3.eq_2, if_neg (by simp only [decide_eq_true_eq]; omega), this]; simp
 | d + 1, k, fuel + 1, hd, hf => by
  have hil := (List.getElem?_eq_some_iff.1 hi).1
  have hk : k < p.length := by omega
  have hy := L6 hk
  generalize p[k] = y at hy
  have ih := u0f p i x hi hl d (k + 1) fuel (by omega) (by omega)
  rw [V3.eq_2, if_pos (by simp only [decide_eq_true_eq]; omega), C3 hy, Option.bind_some, C3 hi, Option.bind_some, Q1 hk hl, ih, K0b (by omega) hy]
  by_cases c : y = x
  ·rw [if_pos (by simp [c])]; simp [c]
  ·rw [if_neg (by simp [c])]
   have : (x ∈ y :: (p.take i).drop (k + 1)) = (x ∈ (p.take i).drop (k + 1)) := by
    rw [List.mem_cons]; simp [Ne.symm c]
   simp only [this]
theorem v0f (p : List Int) (hl : p.length ≤ 140737488355328) : ∀ (d k fuel : Nat), k + d = p.length → d < fuel →
  W3 p fuel (k : Int) = some (bif i06 p d k then .inr () else .inl false)
 | d, k, 0, hd, hf => by omega
 | 0, k, fuel + 1, hd, hf => by
  rw [W3.eq_2, if_neg (by simp only [decide_eq_true_eq]; omega)]; rfl
 | d + 1, k, fuel + 1, hd, hf => by
  have hk : k < p.length := by omega
  have hx := L6 hk
  generalize p[k] = x at hx
  have ih := v0f p hl d (k + 1) fuel (by omega) (by omega)
  have h0 := u0f p k x hx (by omega) k 0 I0 (by omega) (W0 (by omega))
  rw [show ((0 : Nat) : Int) = 0 from rfl, List.drop_zero] at h0
  rw [W3.eq_2, if_pos (by simp only [decide_eq_true_eq]; omega), C3 hx, Option.bind_some, Y04, Option.bind_some, w64 (by omega) (by omega), h0, Q1 hk (by omega), ih]
  rw [i06, hx]
  simp only
  cases inR 0 ((p.length : Int) - 1) x
  ·rfl
  ·simp only [Bool.not_true, Bool.false_eq_true, if_false, Option.bind_some, Bool.true_and]
   by_cases c : x ∈ p.take k
   ·simp only [decide_eq_true c]; rfl
   ·simp only [decide_eq_false c]; rfl
theorem f01 (p : List Int) (hl : p.length ≤ 140737488355328) : G6 p = some (c6 p) := by
 have h := v0f p hl p.length 0 I0 (by omega) (W0 (by omega))
 rw [show ((0 : Nat) : Int) = 0 from rfl] at h
 unfold G6 c6
 rw [h]
 cases i06 p p.length 0
 ·simp only [Option.bind_some, cond_false, Z7, Bool.and_false]
 ·simp only [Option.bind_some, cond_true, Z7, Bool.and_true]
  congr 1
  by_cases c : p.length ≤ 40
  ·rw [decide_eq_true c, decide_eq_true (by omega)]
  ·rw [decide_eq_false c, decide_eq_false (by omega)]
theorem M0h (p : List Int) (hl : p.length ≤ 1000) : ∀ (d k fuel : Nat) (S : List Bool), k + d = p.length → d < fuel → S.length = p.length → (∀ x, 0 ≤ x → x < (p.length : Int) → Y7 S x = decide (x ∈ p.take k)) →
  ∃ S', Z3 p fuel (k : Int) S = some (bif i06 p d k then .inr S' else .inl false)
 | d, k, 0, S, hd, hf, hS, hm => by omega
 | 0, k, fuel + 1, S, hd, hf, hS, hm => by
  rw [Z3.eq_2, if_neg (by simp only [decide_eq_true_eq]; omega)]; exact ⟨S, rfl⟩
 | d + 1, k, fuel + 1, S, hd, hf, hS, hm => by
  have hk : k < p.length := by omega
  have hx := L6 hk
  have hts := V0j hx
  generalize p[k] = x at hx hts
  rw [Z3.eq_2, if_pos (by simp only [decide_eq_true_eq]; omega), C3 hx, Option.bind_some, x02, Option.bind_some, w64 (by omega) (by omega)]
  rw [i06, hx]
  simp only
  cases hr : inR 0 ((p.length : Int) - 1) x
  ·exact ⟨S, rfl⟩
  ·have hr2 : 0 ≤ x ∧ x < (p.length : Int) := by
    simp only [inR, Bool.and_eq_true, decide_eq_true_eq] at hr; omega
   simp only [Bool.not_true, Bool.not_false, C2, giB hS hr2.1 hr2.2, Option.bind_some, cond_false, Bool.true_and]
   rw [hm x hr2.1 hr2.2]
   by_cases c : x ∈ p.take k
   ·rw [decide_eq_true c, if_pos rfl]; exact ⟨S, rfl⟩
   ·rw [decide_eq_false c, if_neg (by simp), Q1 hk (by omega)]
    obtain ⟨S', ih⟩ := M0h p hl d (k + 1) fuel (S.set x.toNat true) (by omega) (by omega) (by simp [hS]) (fun y h0 h1 => by
     rw [C03 (by omega), hm y h0 h1, hts]
     by_cases e : y = x
     ·subst e; simp
     ·have : y.toNat ≠ x.toNat := by omega
      simp [this, e])
    exact ⟨S', by rw [ih]; rfl⟩
theorem z07 (p : List Int) : I6 p = some (c6 p) := by
 unfold I6 c6
 by_cases c : p.length ≤ 40
 ·obtain ⟨S', h⟩ := M0h p (by omega) p.length 0 I0 (List.replicate p.length false) (by omega) (W0 (by omega)) (by simp) (fun x h0 h1 => by
   unfold Y7
   rw [List.getD_eq_getElem?_getD, List.getElem?_replicate]
   split <;> simp)
  rw [show ((0 : Nat) : Int) = 0 from rfl] at h
  rw [if_neg (by simp only [decide_eq_true_eq]; omega), B0 (by omega), Option.bind_some, Int.toNat_natCast, h, decide_eq_true c]
  cases i06 p p.length 0 <;> rfl
 ·rw [if_pos (by simp only [decide_eq_true_eq]; omega), decide_eq_false c]; rfl
theorem w0f {p : List Int} : ∀ {d k : Nat}, i06 p d k = true → ∀ i, k ≤ i → i < k + d → ∀ x, p[i]? = some x → (0 ≤ x ∧ x < (p.length : Int)) ∧ x ∉ p.take i
 | 0, k, h, i, h1, h2, x, hx => by omega
 | d + 1, k, h, i, h1, h2, x, hx => by
  unfold i06 at h
  cases e : p[k]? with
  | none =>
   have h3 := List.getElem?_eq_none_iff.1 e
   have := (List.getElem?_eq_some_iff.1 hx).1
   omega
  | some y =>
   rw [e] at h
   simp only [Bool.and_eq_true, Bool.not_eq_true', decide_eq_false_iff_not] at h
   by_cases c : i = k
   ·subst c
    rw [e] at hx; cases hx
    have := h.1
    simp only [inR, Bool.and_eq_true, decide_eq_true_eq] at this
    exact ⟨by omega, h.2.1⟩
   ·exact w0f h.2.2 i (by omega) (by omega) x hx
theorem x0f {p : List Int} (h : c6 p = true) : ∀ x ∈ p, 0 ≤ x ∧ x < (p.length : Int) := fun x hx => by
 unfold c6 at h
 simp only [Bool.and_eq_true] at h
 obtain ⟨i, hi⟩ := List.getElem?_of_mem hx
 exact (w0f h.2 i (Nat.zero_le _) (by have := (List.getElem?_eq_some_iff.1 hi).1; omega) x hi).1
def ups : Nat → Nat → List Int
 | 0, _ => []
 | d + 1, k => (k : Int) :: ups d (k + 1)
theorem N0h : ∀ d k, (ups d k).length = d
 | 0, k => rfl
 | d + 1, k => by simp only [ups, List.length_cons, N0h d]
theorem C0l (n : Nat) (hn : n ≤ 40) : ∀ (d k fuel : Nat) (acc : List Int), k + d = n → d < fuel → acc.length ≤ k → N1 (n : Int) fuel (k : Int) acc = some (acc ++ ups d k)
 | d, k, 0, acc, hd, hf, ha => by omega
 | 0, k, fuel + 1, acc, hd, hf, ha => by
  have : decide ((k : Int) < (n : Int)) = false := decide_eq_false (by omega)
  rw [N1.eq_2, this]; simp [ups]
 | d + 1, k, fuel + 1, acc, hd, hf, ha => by
  have h1 : decide ((k : Int) < (n : Int)) = true := decide_eq_true (by omega)
  have h2 : decide ((k : Int) < 40) = true := decide_eq_true (by omega)
  rw [N1.eq_2, h1, h2, cond_true, if_pos rfl, B0 (by simp; omega), Option.bind_some, Q1 (show k < 1000 by omega) (by omega), C0l n hn d (k + 1) fuel _ (by omega) (by omega) (by simp; omega)]
  simp [ups]
theorem y0f (n : Nat) (hn : n ≤ 40) : I4 (n : Int) = some (ups n 0) := by
 have h := C0l n hn n 0 I0 [] (by omega) (W0 (by omega)) (by simp)
 unfold I4
 rw [show (0 : Int) = ((0 : Nat) : Int) from rfl, h]; rfl
theorem D0l (n : Int) : ∀ (fuel : Nat) (k : Int) (acc : List Int), V2 n fuel k acc = N1 n fuel k acc
 | 0, k, acc => rfl
 | fuel + 1, k, acc => by
  rw [V2.eq_2, N1.eq_2]
  simp only [D0l n fuel]
theorem t0k (n : Nat) (hn : n ≤ 40) : A5 (n : Int) = some (ups n 0) := by
 rw [← y0f n hn]
 unfold A5 I4
 rw [D0l]
def x01 (p q : List Int) : List Int := bif decide (p.length = q.length) && (c6 p && c6 q) then p.map (getI q) else []
theorem i0l (m n : Nat) : decide (((m : Nat) : Int) = ((n : Nat) : Int)) = decide (m = n) := by
 by_cases c : m = n
 ·rw [decide_eq_true c, decide_eq_true (by omega)]
 ·rw [decide_eq_false c, decide_eq_false (by omega)]
theorem O0h (p q : List Int) (hl : p.length = q.length) (hp : c6 p = true) (hq : c6 q = true) : ∀ (d k fuel : Nat) (acc : List Int), k + d = p.length → d < fuel → acc.length ≤ k →
  G1 p q fuel (k : Int) acc = some (acc ++ (p.drop k).map (getI q))
 | d, k, 0, acc, hd, hf, ha => by omega
 | 0, k, fuel + 1, acc, hd, hf, ha => by
  have : decide ((k : Int) < ((p.length : Nat) : Int)) = false := decide_eq_false (by omega)
  rw [G1.eq_2, this]
  simp only [cond_false, L3, Option.bind_some, Bool.false_eq_true, if_false]
  rw [D1 (by omega)]; simp
 | d + 1, k, fuel + 1, acc, hd, hf, ha => by
  have hp0 := hp
  unfold c6 at hp0
  simp only [Bool.and_eq_true, decide_eq_true_eq] at hp0
  have hk : k < p.length := by omega
  have hx := L6 hk
  have hxr := x0f hp _ (List.mem_of_getElem? hx)
  have hdr := M1 hx
  generalize p[k] = x at hx hxr hdr
  have h1 : decide ((k : Int) < ((p.length : Nat) : Int)) = true := decide_eq_true (by omega)
  have h2 : decide (((p.length : Nat) : Int) = ((q.length : Nat) : Int)) = true := decide_eq_true (by omega)
  rw [G1.eq_2, h1, h2]
  simp only [cond_true, C2, f01 p (by omega), hp, Option.bind_some, f01 q (by omega), hq, if_true, C3 hx, giI rfl hxr.1 (show x < ((q.length : Nat) : Int) by omega)]
  rw [B0 (by simp; omega), Option.bind_some, Q1 hk (by omega), O0h p q hl hp hq d (k + 1) fuel _ (by omega) (by omega) (by simp; omega), hdr]
  simp
theorem E0g (p q : List Int) (lp : p.length ≤ 140737488355328) (lq : q.length ≤ 140737488355328) : w5 p q = some (x01 p q) := by
 unfold w5 x01
 by_cases hl : p.length = q.length
 ·by_cases hp : c6 p = true
  ·by_cases hq : c6 q = true
   ·have h := O0h p q hl hp hq p.length 0 I0 [] (by omega) (W0 (by omega)) (by simp)
    rw [show ((0 : Nat) : Int) = 0 from rfl, List.drop_zero, List.nil_append] at h
    rw [h, hp, hq, decide_eq_true hl]; rfl
   ·rw [Bool.not_eq_true] at hq
    rw [hq, Bool.and_false, Bool.and_false, show I0 = (I0 - 1) + 1 from rfl, G1.eq_2]
    cases hc : decide ((0 : Int) < ((p.length : Nat) : Int))
    ·simp only [cond_false, L3, Option.bind_some, Bool.false_eq_true, if_false]
    ·simp only [cond_true, i0l, decide_eq_true hl, C2, f01 p lp, hp, Option.bind_some, f01 q lq, hq, Bool.false_eq_true, if_false, cond_false]
  ·rw [Bool.not_eq_true] at hp
   rw [hp, Bool.false_and, Bool.and_false, show I0 = (I0 - 1) + 1 from rfl, G1.eq_2]
   cases hc : decide ((0 : Int) < ((p.length : Nat) : Int))
   ·simp only [cond_false, L3, Option.bind_some, Bool.false_eq_true, if_false]
   ·simp only [cond_true, i0l, decide_eq_true hl, C2, f01 p lp, hp, Option.bind_some, L3, Bool.false_eq_true, if_false, cond_false]
 ·rw [decide_eq_false hl, Bool.false_and, show I0 = (I0 - 1) + 1 from rfl, G1.eq_2]
  cases hc : decide ((0 : Int) < ((p.length : Nat) : Int))
  ·simp only [cond_false, L3, Option.bind_some, Bool.false_eq_true, if_false]
  ·simp only [cond_true, i0l, decide_eq_false hl, L3, Option.bind_some, Bool.false_eq_true, if_false, cond_false]
theorem P0h (p q : List Int) (hl : p.length = q.length) (hp : c6 p = true) (hq : c6 q = true) : ∀ (d k fuel : Nat) (acc : List Int), k + d = p.length → d < fuel → acc.length ≤ k →
  A2 p q fuel (k : Int) acc = some (acc ++ (p.drop k).map (getI q))
 | d, k, 0, acc, hd, hf, ha => by omega
 | 0, k, fuel + 1, acc, hd, hf, ha => by
  rw [A2.eq_2, if_neg (by simp only [decide_eq_true_eq]; omega), D1 (by omega)]; simp
 | d + 1, k, fuel + 1, acc, hd, hf, ha => by
  have hp0 := hp
  unfold c6 at hp0
  simp only [Bool.and_eq_true, decide_eq_true_eq] at hp0
  have hk : k < p.length := by omega
  have hx := L6 hk
  have hxr := x0f hp _ (List.mem_of_getElem? hx)
  have hdr := M1 hx
  generalize p[k] = x at hx hxr hdr
  rw [A2.eq_2, if_pos (by simp only [decide_eq_true_eq]; omega), C3 hx, Option.bind_some, giI rfl hxr.1 (show x < ((q.length : Nat) : Int) by omega), Option.bind_some, B0 (by simp; omega), Option.bind_some, Q1 hk (by omega), P0h p q hl hp hq d (k + 1) fuel _ (by omega) (by omega) (by simp; omega), hdr]
  simp
theorem F0g (p q : List Int) : B5 p q = some (x01 p q) := by
 unfold B5 x01
 rw [z07, Option.bind_some, i0l]
 cases hp : c6 p
 ·simp only [Bool.not_false, Bool.not_true, L3, Option.bind_some, cond_true, Bool.false_and, Bool.and_false, cond_false, if_true]
 ·rw [z07 q]
  simp only [Bool.not_true, Bool.not_false, C2, Option.bind_some, cond_false, Bool.true_and]
  cases hq : c6 q
  ·simp only [Bool.not_false, cond_true, if_true, Bool.and_false, cond_false]
  ·by_cases hl : p.length = q.length
   ·have h := P0h p q hl hp hq p.length 0 I0 [] (by omega) (by
     unfold c6 at hp
     simp only [Bool.and_eq_true, decide_eq_true_eq] at hp
     exact W0 (by omega)) (by simp)
    rw [show ((0 : Nat) : Int) = 0 from rfl, List.drop_zero, List.nil_append] at h
    simp only [decide_eq_true hl, Bool.not_true, cond_false, Bool.false_eq_true, if_false, h, Option.bind_some, Bool.and_true, cond_true]
   ·simp only [decide_eq_false hl, Bool.not_false, Bool.not_true, cond_false, if_true, Bool.false_and]
theorem q0b (p q : List Int) : (x01 p q).length ≤ p.length := by
 unfold x01
 cases decide (p.length = q.length) && (c6 p && c6 q) <;> simp
end Go.Proofs.YtknoadmdnjaocaaGreat
namespace Go.Proofs.YtknoadmdnjaocaaGreat
open Go.H
set_option linter.unusedVariables false
set_option linter.unusedSimpArgs false
def r0b (g : l0) (x : Int) : Nat → Nat → List Int
 | 0, _ => []
 | d + 1, k => D2 g (k : Int) x :: r0b g x d (k + 1)
def w09 (g : l0) : Nat → Nat → List (List Int)
 | 0, _ => []
 | d + 1, x => r0b g (x : Int) g.2.1.toNat 0 :: w09 g d (x + 1)
def C5 (g : l0) : List (List Int) := bif K6 g then w09 g g.1.toNat 1 else []
theorem z0f (g : l0) (x : Int) : ∀ d k, (r0b g x d k).length = d
 | 0, k => rfl
 | d + 1, k => by simp only [r0b, List.length_cons, z0f g x d]
theorem A0f (g : l0) : ∀ d k, (w09 g d k).length = d
 | 0, k => rfl
 | d + 1, k => by simp only [w09, List.length_cons, A0f g d]
theorem B0f (g : l0) : ∀ d k, ∀ w ∈ w09 g d k, w.length = g.2.1.toNat
 | 0, k, w, h => nomatch h
 | d + 1, k, w, h => by
  rcases List.mem_cons.1 h with rfl | h
  ·exact z0f g _ _ _
  ·exact B0f g d _ w h
theorem Q0h {g : l0} (hf : S0 g = true) (x : Int) : ∀ d k, ∀ y ∈ r0b g x d k, M0 y
 | 0, k, y, h => nomatch h
 | d + 1, k, y, h => by
  obtain ⟨q1, q2, q3, q4⟩ := L1 hf
  rcases List.mem_cons.1 h with rfl | h
  ·exact d04 q1 q3.2 _ _
  ·exact Q0h hf x d _ y h
theorem R0h {g : l0} (hf : S0 g = true) : ∀ d k, ∀ w ∈ w09 g d k, ∀ y ∈ w, M0 y
 | 0, k, w, h => nomatch h
 | d + 1, k, w, h => by
  rcases List.mem_cons.1 h with rfl | h
  ·exact Q0h hf _ _ _
  ·exact R0h hf d _ w h
theorem S0h {g : l0} (hf : S0 g = true) (x : Int) (hx : y00 x) : ∀ (d k fuel : Nat) (acc : List Int), k + d = g.2.1.toNat → d < fuel → acc.length ≤ k →
  Q5 g.2.1 g.1 g.2.2 x fuel (k : Int) acc = some (acc ++ r0b g x d k)
 | d, k, 0, acc, hd, hfu, ha => by omega
 | 0, k, fuel + 1, acc, hd, hfu, ha => by
  rw [Q5.eq_2, if_neg (by simp only [decide_eq_true_eq]; omega)]; simp [r0b]
 | d + 1, k, fuel + 1, acc, hd, hfu, ha => by
  obtain ⟨q1, q2, q3, q4⟩ := L1 hf
  rw [Q5.eq_2, if_pos (by simp only [decide_eq_true_eq]; omega), show (g.1, g.2.1, g.2.2) = g from rfl, z06 g _ x hx (by omega), Option.bind_some, B0 (d04 q1 q3.2 _ x), Option.bind_some, B0 (by simp; omega), Option.bind_some, Q1 (show k < 1000 by omega) (by omega), S0h hf x hx d (k + 1) fuel _ (by omega) (by omega) (by simp; omega)]
  simp [r0b]
theorem T0h {g : l0} (hf : S0 g = true) (x : Int) (hx : y00 x) : ∀ (d k fuel : Nat) (acc : List Int), k + d = g.2.1.toNat → d < fuel → acc.length ≤ k →
  R5 g.2.1 g.1 g.2.2 x fuel (k : Int) acc = some (acc ++ r0b g x d k)
 | d, k, 0, acc, hd, hfu, ha => by omega
 | 0, k, fuel + 1, acc, hd, hfu, ha => by
  rw [R5.eq_2, if_neg (by simp only [decide_eq_true_eq]; omega)]; simp [r0b]
 | d + 1, k, fuel + 1, acc, hd, hfu, ha => by
  obtain ⟨q1, q2, q3, q4⟩ := L1 hf
  rw [R5.eq_2, if_pos (by simp only [decide_eq_true_eq]; omega), show (g.1, g.2.1, g.2.2) = g from rfl, A06 g _ x hx (by omega), Option.bind_some, B0 (d04 q1 q3.2 _ x), Option.bind_some, B0 (by simp; omega), Option.bind_some, Q1 (show k < 1000 by omega) (by omega), T0h hf x hx d (k + 1) fuel _ (by omega) (by omega) (by simp; omega)]
  simp [r0b]
theorem U0h {g : l0} (hg : K6 g = true) : ∀ (d x fuel : Nat) (acc : List (List Int)), x + d = g.1.toNat + 1 → d < fuel → acc.length ≤ x →
  i5 g.1 g.2.1 g.2.2 fuel (x : Int) acc = some (acc ++ w09 g d x)
 | d, x, 0, acc, hd, hfu, ha => by omega
 | 0, x, fuel + 1, acc, hd, hfu, ha => by
  have : decide ((x : Int) ≤ g.1) = false := decide_eq_false (by omega)
  rw [i5.eq_2, this, L3]; simp [w09]
 | d + 1, x, fuel + 1, acc, hd, hfu, ha => by
  have hf := G5 (I8 hg)
  obtain ⟨q1, q2, q3, q4⟩ := L1 hf
  have hfin := a03 g (by omega)
  have h0 := S0h hf (x : Int) ⟨⟨by omega, by omega⟩, by omega⟩ g.2.1.toNat 0 I0 [] (by omega) (W0 (by omega)) (by simp)
  rw [show ((0 : Nat) : Int) = 0 from rfl, List.nil_append] at h0
  have : decide ((x : Int) ≤ g.1) = true := decide_eq_true (by omega)
  rw [i5.eq_2, this, C2, show (g.1, g.2.1, g.2.2) = g from rfl, hfin, hg, Option.bind_some, cond_true, if_pos rfl, h0, Option.bind_some, B0 (by simp; omega), Option.bind_some, Q1 (show x < 1000 by omega) (by omega), U0h hg d (x + 1) fuel _ (by omega) (by omega) (by simp; omega)]
  simp [w09]
theorem V0h {g : l0} (hf : S0 g = true) : ∀ (d x fuel : Nat) (acc : List (List Int)), x + d = g.1.toNat + 1 → d < fuel → acc.length ≤ x →
  S5 g.1 g.2.1 g.2.2 fuel (x : Int) acc = some (acc ++ w09 g d x)
 | d, x, 0, acc, hd, hfu, ha => by omega
 | 0, x, fuel + 1, acc, hd, hfu, ha => by
  obtain ⟨q1, q2, q3, q4⟩ := L1 hf
  rw [S5.eq_2, if_neg (by simp only [decide_eq_true_eq]; omega)]; simp [w09]
 | d + 1, x, fuel + 1, acc, hd, hfu, ha => by
  obtain ⟨q1, q2, q3, q4⟩ := L1 hf
  have h0 := T0h hf (x : Int) ⟨⟨by omega, by omega⟩, by omega⟩ g.2.1.toNat 0 I0 [] (by omega) (W0 (by omega)) (by simp)
  rw [show ((0 : Nat) : Int) = 0 from rfl, List.nil_append] at h0
  rw [S5.eq_2, if_pos (by simp only [decide_eq_true_eq]; omega), h0, Option.bind_some, B0 (by simp; omega), Option.bind_some, Q1 (show x < 1000 by omega) (by omega), V0h hf d (x + 1) fuel _ (by omega) (by omega) (by simp; omega)]
  simp [w09]
theorem A07 (g : l0) (hl : g.2.2.length ≤ 140737488355328) : T7 g = some (C5 g) := by
 have h1 := a03 g hl
 unfold C5
 cases hg : K6 g with
 | true =>
  obtain ⟨q1, q2, q3, q4⟩ := L1 (G5 (I8 hg))
  have h := U0h hg g.1.toNat 1 I0 [] (by omega) (W0 (by omega)) (by simp)
  obtain ⟨a, b, c⟩ := g
  unfold T7
  simp only at h ⊢
  rw [show (1 : Int) = ((1 : Nat) : Int) from rfl, h]; rfl
 | false =>
  obtain ⟨a, b, c⟩ := g
  unfold T7
  simp only
  rw [show I0 = (I0 - 1) + 1 from rfl, i5.eq_2]
  cases decide ((1 : Int) ≤ a)
  ·rfl
  ·rw [C2, h1, hg]; rfl
theorem B07 (g : l0) (hl : g.2.2.length ≤ 140737488355328) : U7 g = some (C5 g) := by
 have h1 := b03 g hl
 unfold C5
 cases hg : K6 g with
 | true =>
  have hf := G5 (I8 hg)
  obtain ⟨q1, q2, q3, q4⟩ := L1 hf
  have h := V0h hf g.1.toNat 1 I0 [] (by omega) (W0 (by omega)) (by simp)
  obtain ⟨a, b, c⟩ := g
  unfold U7
  simp only [h1, hg, Option.bind_some, Bool.not_true, Bool.false_eq_true, if_false] at h ⊢
  rw [show (1 : Int) = ((1 : Nat) : Int) from rfl, h]; rfl
 | false =>
  obtain ⟨a, b, c⟩ := g
  unfold U7
  simp only [h1, hg, Option.bind_some, Bool.not_false, if_true, cond_false]
theorem h04 {g : l0} (hg : K6 g = true) : (C5 g).length = g.1.toNat ∧ 1 ≤ g.1.toNat ∧ g.1.toNat ≤ 3 := by
 obtain ⟨q1, q2, q3, q4⟩ := L1 (G5 (I8 hg))
 unfold C5
 rw [hg, cond_true, A0f]
 omega
theorem G06 {g : l0} (hg : K6 g = true) : ∀ w ∈ C5 g, w.length ≤ 40 ∧ ∀ y ∈ w, M0 y := fun w hw => by
 have hf := G5 (I8 hg)
 obtain ⟨q1, q2, q3, q4⟩ := L1 hf
 unfold C5 at hw
 rw [hg, cond_true] at hw
 exact ⟨by rw [B0f g _ _ w hw]; omega, R0h hf _ _ w hw⟩
def gIn (w : List Int) : List (List Int) → List (List Int) → Option (List (List Int))
 | [], out => some out
 | p :: r, out => if x01 w p ∈ out then gIn w r out else if out.length = 200 then none else gIn w r (out ++ [x01 w p])
def D08 (A : List (List Int)) : Nat → Nat → List (List Int) → Option (List (List Int))
 | 0, i, out => some out
 | f + 1, i, out => match out[i]? with
  | some w => (gIn w A out).bind (D08 A f (i + 1))
  | none => some out
def F01 (g : l0) : List (List Int) := bif K6 g then (D08 (C5 g) 201 0 [ups g.2.1.toNat 0]).getD [] else []
def okG (out : List (List Int)) : Prop := out.length ≤ 200 ∧ ∀ w ∈ out, w.length ≤ 40
theorem s0b {w : List Int} (hw : w.length ≤ 40) : ∀ (A out out' : List (List Int)), okG out → gIn w A out = some out' → okG out' ∧ ∃ t, out' = out ++ t
 | [], out, out', h, e => by cases e; exact ⟨h, [], by simp⟩
 | p :: r, out, out', h, e => by
  rw [gIn] at e
  split at e
  ·exact s0b hw r out out' h e
  ·split at e
   ·cases e
   ·have hc := q0b w p
    obtain ⟨h2, t, et⟩ := s0b hw r _ out' ⟨by have := h.1; simp only [List.length_append, List.length_singleton]; omega, fun y hy => by
     rcases List.mem_append.1 hy with hy | hy
     ·exact h.2 y hy
     ·simp at hy; subst hy; omega⟩ e
    exact ⟨h2, [x01 w p] ++ t, by rw [et, List.append_assoc]⟩
theorem E0l (out : List (List Int)) (x : List Int) (ho : okG out) : ∀ (d k fuel : Nat) (b : Bool), k + d = out.length → d < fuel →
  Y3 out x fuel b (k : Int) = some (b || decide (x ∈ out.drop k))
 | d, k, 0, b, hd, hf => by omega
 | 0, k, fuel + 1, b, hd, hf => by
  have := ho.1
  rw [Y3.eq_2, Option.bind_some, B0 (by omega), Option.bind_some, if_neg (by simp only [decide_eq_true_eq]; omega), D1 (by omega)]; simp
 | d + 1, k, fuel + 1, b, hd, hf => by
  have h200 := ho.1
  have hk : k < out.length := by omega
  have hy := L6 hk
  have hyl := ho.2 _ (List.mem_of_getElem? hy)
  have hdr := M1 hy
  generalize out[k] = y at hy hyl hdr
  have ih := fun b => E0l out x ho d (k + 1) fuel b (by omega) (by omega)
  rw [Y3.eq_2, Option.bind_some, B0 (by omega), Option.bind_some, if_pos (by simp only [decide_eq_true_eq]; omega), Q1 hk (by omega), hdr]
  cases b
  ·simp only [Bool.not_false, C2, C3 hy, Option.bind_some, I03 (a := y) (b := x) (by omega), cond_false, ih]
   unfold eqW
   by_cases c : y = x
   ·simp [c]
   ·simp [c, Ne.symm c]
  ·simp only [Bool.not_true, L3, Option.bind_some, cond_true, ih, Bool.true_or]
theorem F0l (out : List (List Int)) (x : List Int) (hx : x.length ≤ 40) (ho : okG out) : ∀ (d k fuel : Nat) (b : Bool), k + d = out.length → d < fuel →
  c4 out.length out x fuel b (k : Int) = some (b || decide (x ∈ out.drop k))
 | d, k, 0, b, hd, hf => by omega
 | 0, k, fuel + 1, b, hd, hf => by
  rw [c4.eq_2, if_neg (by simp only [decide_eq_true_eq]; omega), D1 (by omega)]; simp
 | d + 1, k, fuel + 1, b, hd, hf => by
  have h200 := ho.1
  have hk : k < out.length := by omega
  have hy := L6 hk
  have hdr := M1 hy
  generalize out[k] = y at hy hdr
  have ih := fun b => F0l out x hx ho d (k + 1) fuel b (by omega) (by omega)
  rw [c4.eq_2, if_pos (by simp only [decide_eq_true_eq]; omega), Q1 hk (by omega), hdr, C3 hy, Option.bind_some]
  cases b
  ·simp only [Bool.not_false, C2, Option.bind_some, C08 (a := x) (b := y) (by omega), cond_false, ih]
   unfold eqW
   by_cases c : x = y
   ·simp [c]
   ·simp [c]
  ·simp only [Bool.not_true, L3, Option.bind_some, cond_true, ih, Bool.true_or]
theorem u0k (A : List (List Int)) (hA : A.length ≤ 1000 ∧ ∀ w ∈ A, w.length ≤ 1000) (i : Nat) (w : List Int) (hw : w.length ≤ 40) : ∀ (d k fuel : Nat) (out : List (List Int)), okG out → out[i]? = some w → k + d = A.length → d < fuel →
  n3 A (i : Int) fuel (k : Int) out = some (match gIn w (A.drop k) out with | some o => .inr o | none => .inl [])
 | d, k, 0, out, ho, hi, hd, hf => by omega
 | 0, k, fuel + 1, out, ho, hi, hd, hf => by
  rw [n3.eq_2, if_neg (by simp only [decide_eq_true_eq]; omega), D1 (by omega)]; rfl
 | d + 1, k, fuel + 1, out, ho, hi, hd, hf => by
  have h200 := ho.1
  have hk : k < A.length := by omega
  have hp := L6 hk
  have hpl := hA.2 _ (List.mem_of_getElem? hp)
  have hdr := M1 hp
  generalize A[k] = p at hp hpl hdr
  have hc := q0b w p
  have h0 := E0l out (x01 w p) ho out.length 0 I0 false (by omega) (W0 (by omega))
  rw [show ((0 : Nat) : Int) = 0 from rfl, List.drop_zero, Bool.false_or] at h0
  rw [n3.eq_2, if_pos (by simp only [decide_eq_true_eq]; omega), C3 hi, Option.bind_some, C3 hp, Option.bind_some, E0g w p (by omega) (by omega), Option.bind_some, h0, Option.bind_some, Q1 hk (by omega), hdr, gIn]
  by_cases c : x01 w p ∈ out
  ·rw [if_neg (by simp [c]), if_pos c]
   exact u0k A hA i w hw d (k + 1) fuel out ho hi (by omega) (by omega)
  ·rw [if_pos (by simp [c]), if_neg c, Option.bind_some, B0 (by omega), Option.bind_some]
   by_cases c2 : out.length = 200
   ·rw [if_pos (by simp only [decide_eq_true_eq]; omega), if_pos c2]
   ·rw [if_neg (by simp only [decide_eq_true_eq]; omega), if_neg c2, B0 (by simp; omega), Option.bind_some]
    exact u0k A hA i w hw d (k + 1) fuel _ ⟨by simp only [List.length_append, List.length_singleton]; omega, fun y hy => by
     rcases List.mem_append.1 hy with hy | hy
     ·exact ho.2 y hy
     ·simp at hy; subst hy; omega⟩ (by rw [List.getElem?_append_left (List.getElem?_eq_some_iff.1 hi).1]; exact hi) (by omega) (by omega)
theorem v0k (A : List (List Int)) (hA : A.length ≤ 1000) (i : Nat) (w : List Int) (hw : w.length ≤ 40) : ∀ (d k fuel : Nat) (out : List (List Int)), okG out → out[i]? = some w → k + d = A.length → d < fuel →
  A3 A (i : Int) fuel (k : Int) out = some (match gIn w (A.drop k) out with | some o => .inr o | none => .inl [])
 | d, k, 0, out, ho, hi, hd, hf => by omega
 | 0, k, fuel + 1, out, ho, hi, hd, hf => by
  rw [A3.eq_2, if_neg (by simp only [decide_eq_true_eq]; omega), D1 (by omega)]; rfl
 | d + 1, k, fuel + 1, out, ho, hi, hd, hf => by
  have h200 := ho.1
  have hk : k < A.length := by omega
  have hp := L6 hk
  have hdr := M1 hp
  generalize A[k] = p at hp hdr
  have hc := q0b w p
  have h0 := F0l out (x01 w p) (by omega) ho out.length 0 I0 false (by omega) (W0 (by omega))
  rw [show ((0 : Nat) : Int) = 0 from rfl, List.drop_zero, Bool.false_or] at h0
  rw [A3.eq_2, if_pos (by simp only [decide_eq_true_eq]; omega), C3 hp, Option.bind_some, C3 hi, Option.bind_some, F0g w p, Option.bind_some, Option.bind_some, B0 (by omega), Option.bind_some, h0, Option.bind_some, Q1 hk (by omega), hdr, gIn]
  by_cases c : x01 w p ∈ out
  ·rw [if_pos (by simp [c]), if_pos c]
   exact v0k A hA i w hw d (k + 1) fuel out ho hi (by omega) (by omega)
  ·rw [if_neg (by simp [c]), if_neg c, Option.bind_some, B0 (by omega), Option.bind_some]
   by_cases c2 : out.length = 200
   ·rw [if_pos (by simp only [decide_eq_true_eq]; omega), if_pos c2]
   ·rw [if_neg (by simp only [decide_eq_true_eq]; omega), if_neg c2, B0 (by simp; omega), Option.bind_some]
    exact v0k A hA i w hw d (k + 1) fuel _ ⟨by simp only [List.length_append, List.length_singleton]; omega, fun y hy => by
     rcases List.mem_append.1 hy with hy | hy
     ·exact ho.2 y hy
     ·simp at hy; subst hy; omega⟩ (by rw [List.getElem?_append_left (List.getElem?_eq_some_iff.1 hi).1]; exact hi) (by omega) (by omega)
theorem G0l (A : List (List Int)) (hA : A.length ≤ 1000 ∧ ∀ w ∈ A, w.length ≤ 1000) : ∀ (f i fuel : Nat) (out : List (List Int)), okG out → i ≤ out.length → 201 ≤ f + i → f < fuel →
  Q4 A fuel (i : Int) out = some (match D08 A f i out with | some o => .inr o | none => .inl [])
 | f, i, 0, out, ho, hi, hd, hf => by omega
 | 0, i, fuel + 1, out, ho, hi, hd, hf => by have := ho.1; omega
 | f + 1, i, fuel + 1, out, ho, hi, hd, hf => by
  have h200 := ho.1
  rw [Q4.eq_2, Option.bind_some, B0 (by omega), Option.bind_some]
  by_cases c : i < out.length
  ·have hx := L6 c
   have hwl := ho.2 _ (List.mem_of_getElem? hx)
   generalize out[i] = w at hx hwl
   have h1 := u0k A hA i w hwl A.length 0 I0 out ho hx (by omega) (W0 (by omega))
   rw [show ((0 : Nat) : Int) = 0 from rfl, List.drop_zero] at h1
   rw [if_pos (by simpa using c), h1, Option.bind_some, Q1 c (by omega), D08, hx]
   cases e : gIn w A out with
   | none => simp only [e]; rfl
   | some o =>
    obtain ⟨h2, t, et⟩ := s0b hwl A out o ho e
    have ih := G0l A hA f (i + 1) fuel o h2 (by rw [et, List.length_append]; omega) (by omega) (by omega)
    simp only [e, Option.bind_some]
    exact ih
  ·have hx : out[i]? = none := List.getElem?_eq_none (by omega)
   rw [if_neg (by simpa using c), D08, hx]
theorem H0l (A : List (List Int)) (hA : A.length ≤ 1000) : ∀ (f i fuel : Nat) (out : List (List Int)), okG out → i ≤ out.length → 201 ≤ f + i → f < fuel →
  R4 A fuel (i : Int) out = some (match D08 A f i out with | some o => .inr o | none => .inl [])
 | f, i, 0, out, ho, hi, hd, hf => by omega
 | 0, i, fuel + 1, out, ho, hi, hd, hf => by have := ho.1; omega
 | f + 1, i, fuel + 1, out, ho, hi, hd, hf => by
  have h200 := ho.1
  rw [R4.eq_2, Option.bind_some, B0 (by omega), Option.bind_some]
  by_cases c : i < out.length
  ·have hx := L6 c
   have hwl := ho.2 _ (List.mem_of_getElem? hx)
   generalize out[i] = w at hx hwl
   have h1 := v0k A hA i w hwl A.length 0 I0 out ho hx (by omega) (W0 (by omega))
   rw [show ((0 : Nat) : Int) = 0 from rfl, List.drop_zero] at h1
   rw [if_pos (by simpa using c), h1, Option.bind_some, Q1 c (by omega), D08, hx]
   cases e : gIn w A out with
   | none => simp only [e]; rfl
   | some o =>
    obtain ⟨h2, t, et⟩ := s0b hwl A out o ho e
    have ih := H0l A hA f (i + 1) fuel o h2 (by rw [et, List.length_append]; omega) (by omega) (by omega)
    simp only [e, Option.bind_some]
    exact ih
  ·have hx : out[i]? = none := List.getElem?_eq_none (by omega)
   rw [if_neg (by simpa using c), D08, hx]
theorem W0h {A : List (List Int)} : ∀ (f i : Nat) (out out' : List (List Int)), okG out → D08 A f i out = some out' → okG out' ∧ ∃ t, out' = out ++ t
 | 0, i, out, out', h, e => by cases e; exact ⟨h, [], by simp⟩
 | f + 1, i, out, out', h, e => by
  rw [D08] at e
  cases hx : out[i]? with
  | none => rw [hx] at e; cases e; exact ⟨h, [], by simp⟩
  | some w =>
   rw [hx] at e
   simp only at e
   cases e1 : gIn w A out with
   | none => rw [e1] at e; cases e
   | some o =>
    rw [e1] at e
    obtain ⟨h2, t, et⟩ := s0b (h.2 w (List.mem_of_getElem? hx)) A out o h e1
    obtain ⟨h3, t', et'⟩ := W0h f (i + 1) o out' h2 e
    exact ⟨h3, t ++ t', by rw [et', et, List.append_assoc]⟩
theorem t0b {g : l0} (hf : S0 g = true) : okG [ups g.2.1.toNat 0] := by
 obtain ⟨q1, q2, q3, q4⟩ := L1 hf
 exact ⟨by simp, fun w hw => by simp at hw; subst hw; rw [N0h]; omega⟩
theorem W0i (g : l0) : (F01 g).length ≤ 200 := by
 unfold F01
 cases hg : K6 g with
 | false => simp
 | true =>
  rw [cond_true]
  cases e : D08 (C5 g) 201 0 [ups g.2.1.toNat 0] with
  | none => simp
  | some o => exact (W0h _ _ _ _ (t0b (G5 (I8 hg))) e).1.1
theorem C0f (g : l0) (hl : g.2.2.length ≤ 140737488355328) : H6 g = some (F01 g) := by
 have h1 := A07 g hl
 unfold F01
 cases hg : K6 g with
 | false =>
  have h2 : C5 g = [] := by unfold C5; rw [hg]; rfl
  rw [h2] at h1
  obtain ⟨a, b, c⟩ := g
  unfold H6
  simp only [h1, Option.bind_some]
  rfl
 | true =>
  have hf := G5 (I8 hg)
  obtain ⟨q1, q2, q3, q4⟩ := L1 hf
  obtain ⟨a1, a2, a3⟩ := h04 hg
  have hid := y0f g.2.1.toNat (by omega)
  rw [show ((g.2.1.toNat : Nat) : Int) = g.2.1 by omega] at hid
  have hL := G0l (C5 g) ⟨by omega, fun w hw => by have := (G06 hg w hw).1; omega⟩ 201 0 I0 _ (t0b hf) (by simp) (by omega) (W0 (by omega))
  rw [show ((0 : Nat) : Int) = 0 from rfl] at hL
  obtain ⟨a, b, c⟩ := g
  unfold H6
  simp only [h1, Option.bind_some, cond_true] at hid hL ⊢
  rw [if_neg (by simp only [decide_eq_true_eq]; omega), hid, Option.bind_some, hL, Option.bind_some]
  cases D08 (C5 (a, b, c)) 201 0 [ups b.toNat 0] <;> rfl
theorem D0f (g : l0) (hl : g.2.2.length ≤ 140737488355328) : J6 g = some (F01 g) := by
 have h1 := B07 g hl
 have h0 := b03 g hl
 unfold F01
 cases hg : K6 g with
 | false =>
  obtain ⟨a, b, c⟩ := g
  unfold J6
  simp only [h0, hg, Option.bind_some]
  rfl
 | true =>
  have hf := G5 (I8 hg)
  obtain ⟨q1, q2, q3, q4⟩ := L1 hf
  obtain ⟨a1, a2, a3⟩ := h04 hg
  have hid := t0k g.2.1.toNat (by omega)
  rw [show ((g.2.1.toNat : Nat) : Int) = g.2.1 by omega] at hid
  have hL := H0l (C5 g) (by omega) 201 0 I0 _ (t0b hf) (by simp) (by omega) (W0 (by omega))
  rw [show ((0 : Nat) : Int) = 0 from rfl] at hL
  obtain ⟨a, b, c⟩ := g
  unfold J6
  simp only [h0, hg, h1, Option.bind_some, cond_true, Bool.not_true, Bool.false_eq_true, if_false] at hid hL ⊢
  rw [hid, Option.bind_some, B0 (by simp), Option.bind_some, List.nil_append, hL, Option.bind_some]
  cases D08 (C5 (a, b, c)) 201 0 [ups b.toNat 0] <;> rfl
def J3 (g : l0) : Int := if (F01 g).length = 0 then -1 else (((F01 g).length : Nat) : Int)
theorem x09 (g : l0) (hl : g.2.2.length ≤ 140737488355328) : h9 g = some (J3 g) := by
 have h := C0f g hl
 unfold J3
 obtain ⟨a, b, c⟩ := g
 unfold h9
 simp only [h, Option.bind_some]
 by_cases e : (F01 (a, b, c)).length = 0
 ·rw [if_pos (by simp only [decide_eq_true_eq]; omega), if_pos e]
 ·rw [if_neg (by simp only [decide_eq_true_eq]; omega), if_neg e]
theorem y09 (g : l0) (hl : g.2.2.length ≤ 140737488355328) : i9 g = some (J3 g) := by
 have h := D0f g hl
 unfold J3
 obtain ⟨a, b, c⟩ := g
 unfold i9
 simp only [h, Option.bind_some]
 by_cases e : (F01 (a, b, c)).length = 0
 ·rw [if_neg (by simp only [decide_eq_true_eq]; omega), if_pos e]
 ·rw [if_pos (by simp only [decide_eq_true_eq]; omega), if_neg e]
theorem C07 (g : l0) : M0 (J3 g) := by
 have := W0i g
 unfold J3
 split
 ·exact ⟨by omega, by omega⟩
 ·exact ⟨by omega, by omega⟩
def cjA (g : l0) : Nat → Nat → List l0 → List l0
 | 0, _, out => out
 | d + 1, v, out => cjA g d (v + 1) (if S01 g (v : Int) ∈ out then out else out ++ [S01 g (v : Int)])
def j9 (g : l0) : List l0 := bif K6 g then cjA g g.2.1.toNat 0 [] else []
def smG (out : List l0) : Prop := ∀ g ∈ out, g.2.2.length ≤ 120
theorem w0k (out : List l0) (x : l0) (ho : smG out) (hl : out.length ≤ 1000) : ∀ (d k fuel : Nat) (b : Bool), k + d = out.length → d < fuel →
  E4 out x.1 x.2.1 x.2.2 fuel b (k : Int) = some (b || decide (x ∈ out.drop k))
 | d, k, 0, b, hd, hf => by omega
 | 0, k, fuel + 1, b, hd, hf => by
  rw [E4.eq_2, Option.bind_some, B0 (by omega), Option.bind_some, if_neg (by simp only [decide_eq_true_eq]; omega), D1 (by omega)]; simp
 | d + 1, k, fuel + 1, b, hd, hf => by
  have hk : k < out.length := by omega
  have hy := L6 hk
  have hyl := ho _ (List.mem_of_getElem? hy)
  have hdr := M1 hy
  generalize out[k] = y at hy hyl hdr
  have ih := fun b => w0k out x ho hl d (k + 1) fuel b (by omega) (by omega)
  have he := r0c y x (by omega)
  rw [E4.eq_2, Option.bind_some, B0 (by omega), Option.bind_some, if_pos (by simp only [decide_eq_true_eq]; omega), Q1 hk (by omega), hdr]
  cases b
  ·simp only [Bool.not_false, C2, C3 hy, Option.bind_some]
   obtain ⟨y0, y1, y2⟩ := y
   obtain ⟨x0, x1, x2⟩ := x
   simp only at ih ⊢
   rw [he, Option.bind_some, cond_false, ih]
   unfold j09
   by_cases c : (y0, y1, y2) = (x0, x1, x2)
   ·simp [c]
   ·simp only [decide_eq_false c, Bool.false_or]
    have : ((x0, x1, x2) ∈ (y0, y1, y2) :: out.drop (k + 1)) = ((x0, x1, x2) ∈ out.drop (k + 1)) := by
     rw [List.mem_cons]; simp only [eq_iff_iff, or_iff_right_iff_imp]; exact fun e => absurd e.symm c
    simp only [this]
  ·simp only [Bool.not_true, L3, Option.bind_some, cond_true, ih, Bool.true_or]
theorem X0h (out : List l0) (x : l0) (ho : smG out) (hl : out.length ≤ 1000000) : ∀ (d k fuel : Nat), k + d = out.length → d < fuel →
  T5 out x.1 x.2.1 x.2.2 fuel (k : Int) = some (bif decide (x ∈ out.drop k) then .inl true else .inr ())
 | d, k, 0, hd, hf => by omega
 | 0, k, fuel + 1, hd, hf => by
  rw [T5.eq_2, if_neg (by simp only [decide_eq_true_eq]; omega), D1 (by omega)]; simp
 | d + 1, k, fuel + 1, hd, hf => by
  have hk : k < out.length := by omega
  have hy := L6 hk
  have hyl := ho _ (List.mem_of_getElem? hy)
  have hdr := M1 hy
  generalize out[k] = y at hy hyl hdr
  have ih := X0h out x ho hl d (k + 1) fuel (by omega) (by omega)
  have he := p0c y x (by omega)
  rw [T5.eq_2, if_pos (by simp only [decide_eq_true_eq]; omega), Q1 hk (by omega), hdr, C3 hy, Option.bind_some]
  obtain ⟨y0, y1, y2⟩ := y
  obtain ⟨x0, x1, x2⟩ := x
  simp only at ih ⊢
  rw [he, Option.bind_some, ih]
  unfold j09
  by_cases c : (y0, y1, y2) = (x0, x1, x2)
  ·simp [c]
  ·rw [if_neg (by simp only [decide_eq_true_eq]; exact c)]
   have : ((x0, x1, x2) ∈ (y0, y1, y2) :: out.drop (k + 1)) = ((x0, x1, x2) ∈ out.drop (k + 1)) := by
    rw [List.mem_cons]; simp only [eq_iff_iff, or_iff_right_iff_imp]; exact fun e => absurd e.symm c
   simp only [this]
theorem J0d (out : List l0) (x : l0) (ho : smG out) (hl : out.length ≤ 1000000) : E9 out x = some (decide (x ∈ out)) := by
 have h := X0h out x ho hl out.length 0 I0 (by omega) (W0 (by omega))
 rw [show ((0 : Nat) : Int) = 0 from rfl, List.drop_zero] at h
 obtain ⟨a, b, c⟩ := x
 unfold E9
 simp only at h ⊢
 rw [h]
 by_cases e : (a, b, c) ∈ out
 ·simp [e, Z7]
 ·simp [e, Z7]
theorem Y0h {out : List l0} (ho : smG out) {g : l0} (hg : g.2.2.length ≤ 120) : smG (out ++ [g]) := fun x hx => by
 rcases List.mem_append.1 hx with hx | hx
 ·exact ho x hx
 ·simp at hx; subst hx; exact hg
theorem G0g {g : l0} (hg : K6 g = true) : ∀ (d k fuel : Nat) (out : List l0), k + d = g.2.1.toNat → d < fuel → smG out → out.length ≤ k →
  Q2 g.2.1 g.1 g.2.2 fuel (k : Int) out = some (cjA g d k out)
 | d, k, 0, out, hd, hfu, ho, hl => by omega
 | 0, k, fuel + 1, out, hd, hfu, ho, hl => by
  have : decide ((k : Int) < g.2.1) = false := decide_eq_false (by omega)
  rw [Q2.eq_2, this]; rfl
 | d + 1, k, fuel + 1, out, hd, hfu, ho, hl => by
  have hf := G5 (I8 hg)
  obtain ⟨q1, q2, q3, q4⟩ := L1 hf
  have hfin := a03 g (by omega)
  have hm := C0g hf (v := (k : Int)) ⟨by omega, by omega⟩
  have hml := t0f (I0c hf (v := (k : Int)) ⟨by omega, by omega⟩)
  have h0 := w0k out (S01 g (k : Int)) ho (by omega) out.length 0 I0 false (by omega) (W0 (by omega))
  rw [show ((0 : Nat) : Int) = 0 from rfl, List.drop_zero, Bool.false_or] at h0
  have : decide ((k : Int) < g.2.1) = true := decide_eq_true (by omega)
  rw [Q2.eq_2, this, C2, show (g.1, g.2.1, g.2.2) = g from rfl, hfin, hg, Option.bind_some, cond_true, if_pos rfl, hm, Option.bind_some, Q1 (show k < 1000 by omega) (by omega), cjA]
  generalize S01 g (k : Int) = m at *
  obtain ⟨m0, m1, m2⟩ := m
  simp only at h0 hml ⊢
  rw [h0, Option.bind_some]
  by_cases c : (m0, m1, m2) ∈ out
  ·rw [if_neg (by simp [c]), if_pos c]
   exact G0g hg d (k + 1) fuel out (by omega) (by omega) ho (by omega)
  ·rw [if_pos (by simp [c]), if_neg c, B0 (by simp; omega), Option.bind_some]
   exact G0g hg d (k + 1) fuel _ (by omega) (by omega) (Y0h ho hml.1) (by simp; omega)
theorem x0k {g : l0} (hf : S0 g = true) : ∀ (d k fuel : Nat) (out : List l0), k + d = g.2.1.toNat → d < fuel → smG out → out.length ≤ k →
  I3 g.2.1 g.1 g.2.2 fuel (k : Int) out = some (cjA g d k out)
 | d, k, 0, out, hd, hfu, ho, hl => by omega
 | 0, k, fuel + 1, out, hd, hfu, ho, hl => by
  rw [I3.eq_2, if_neg (by simp only [decide_eq_true_eq]; omega)]; rfl
 | d + 1, k, fuel + 1, out, hd, hfu, ho, hl => by
  obtain ⟨q1, q2, q3, q4⟩ := L1 hf
  have hm := D0g hf (v := (k : Int)) ⟨by omega, by omega⟩
  have hml := t0f (I0c hf (v := (k : Int)) ⟨by omega, by omega⟩)
  have h0 := J0d out (S01 g (k : Int)) ho (by omega)
  rw [I3.eq_2, if_pos (by simp only [decide_eq_true_eq]; omega), show (g.1, g.2.1, g.2.2) = g from rfl, hm, Option.bind_some, Q1 (show k < 1000 by omega) (by omega), cjA]
  generalize S01 g (k : Int) = m at *
  obtain ⟨m0, m1, m2⟩ := m
  simp only at h0 hml ⊢
  rw [h0, Option.bind_some]
  by_cases c : (m0, m1, m2) ∈ out
  ·rw [if_neg (by simp [c]), if_pos c]
   exact x0k hf d (k + 1) fuel out (by omega) (by omega) ho (by omega)
  ·rw [if_pos (by simp [c]), if_neg c, B0 (by simp; omega), Option.bind_some]
   exact x0k hf d (k + 1) fuel _ (by omega) (by omega) (Y0h ho hml.1) (by simp; omega)
theorem Z0h : smG [] := fun x hx => by cases hx
theorem H0g (g : l0) (hl : g.2.2.length ≤ 140737488355328) : W6 g = some (j9 g) := by
 have h1 := a03 g hl
 unfold j9
 cases hg : K6 g with
 | true =>
  obtain ⟨q1, q2, q3, q4⟩ := L1 (G5 (I8 hg))
  have h := G0g hg g.2.1.toNat 0 I0 [] (by omega) (W0 (by omega)) Z0h (by simp)
  obtain ⟨a, b, c⟩ := g
  unfold W6
  simp only at h ⊢
  rw [show (0 : Int) = ((0 : Nat) : Int) from rfl, h]; rfl
 | false =>
  obtain ⟨a, b, c⟩ := g
  unfold W6
  simp only
  rw [show I0 = (I0 - 1) + 1 from rfl, Q2.eq_2]
  cases decide ((0 : Int) < b)
  ·rfl
  ·rw [C2, h1, hg]; rfl
theorem I0g (g : l0) (hl : g.2.2.length ≤ 140737488355328) : Y6 g = some (j9 g) := by
 have h1 := b03 g hl
 unfold j9
 cases hg : K6 g with
 | true =>
  have hf := G5 (I8 hg)
  obtain ⟨q1, q2, q3, q4⟩ := L1 hf
  have h := x0k hf g.2.1.toNat 0 I0 [] (by omega) (W0 (by omega)) Z0h (by simp)
  obtain ⟨a, b, c⟩ := g
  unfold Y6
  simp only [h1, hg, Option.bind_some, Bool.not_true, Bool.false_eq_true, if_false] at h ⊢
  rw [show (0 : Int) = ((0 : Nat) : Int) from rfl, h]; rfl
 | false =>
  obtain ⟨a, b, c⟩ := g
  unfold Y6
  simp only [h1, hg, Option.bind_some, Bool.not_false, if_true, cond_false]
theorem K0d (g : l0) : ∀ (d k : Nat) (out : List l0), (cjA g d k out).length ≤ out.length + d
 | 0, k, out => Nat.le_refl _
 | d + 1, k, out => by
  rw [cjA]
  split
  ·have := K0d g d (k + 1) out; omega
  ·have := K0d g d (k + 1) (out ++ [S01 g (k : Int)]); rw [List.length_append, List.length_singleton] at this; omega
theorem u0b (g : l0) : (j9 g).length ≤ 40 := by
 unfold j9
 cases hg : K6 g with
 | false => simp
 | true =>
  obtain ⟨q1, q2, q3, q4⟩ := L1 (G5 (I8 hg))
  have := K0d g g.2.1.toNat 0 []
  rw [List.length_nil] at this
  rw [cond_true]; omega
end Go.Proofs.YtknoadmdnjaocaaGreat
namespace Go.Proofs.YtknoadmdnjaocaaGreat
open Go.H
set_option linter.unusedVariables false
set_option linter.unusedSimpArgs false
def E0f (n : Int) : ByteArray := if n = 0 then ⟨#[48]⟩ else if n < 0 then ⟨(45 :: L05 20 n.natAbs []).toArray⟩ else ⟨(L05 20 n.natAbs []).toArray⟩
def S9 (n : Int) (m : Nat) : Int := if n < 0 then -(m : Int) else m
theorem a0i (n : Int) (m : Nat) : (S9 n m).tmod 10 = S9 n (m % 10) := by
 unfold S9
 split
 ·rw [Int.neg_tmod, show (10 : Int) = ((10 : Nat) : Int) from rfl, ← Int.ofNat_tmod]
 ·rw [show (10 : Int) = ((10 : Nat) : Int) from rfl, ← Int.ofNat_tmod]
theorem b0i (n : Int) (m : Nat) : (S9 n m).tdiv 10 = S9 n (m / 10) := by
 unfold S9
 split
 ·rw [Int.neg_tdiv, show (10 : Int) = ((10 : Nat) : Int) from rfl, ← Int.ofNat_tdiv]
 ·rw [show (10 : Int) = ((10 : Nat) : Int) from rfl, ← Int.ofNat_tdiv]
theorem F0f {n : Int} {m : Nat} : S9 n m = 0 ↔ m = 0 := by
 unfold S9
 split <;> omega
theorem Y0m {X : Int} {m : Nat} (acc : List UInt8) (e : X = ((m % 10 : Nat) : Int)) : strOfNums [IntKind.u8.wrap (IntKind.i64.wrap (48 + X))] ++ ⟨acc.toArray⟩ = ⟨(UInt8.ofNat (48 + m % 10) :: acc).toArray⟩ := by
 have hX : IntKind.u8.wrap (IntKind.i64.wrap (48 + X)) = ((48 + m % 10 : Nat) : Int) := by
  rw [e]
  simp [IntKind.wrap, IntKind.signed, IntKind.bits]
  omega
 rw [hX, show strOfNums [((48 + m % 10 : Nat) : Int)] = ⟨#[UInt8.ofNat (48 + m % 10)]⟩ from by simp only [strOfNums, List.map_cons, List.map_nil, Int.toNat_natCast]]
 generalize UInt8.ofNat (48 + m % 10) = d
 apply ByteArray.ext
 rw [ByteArray.data_append]
 simp
theorem J0g (a b : List UInt8) : (⟨a.toArray⟩ : ByteArray) ++ ⟨b.toArray⟩ = ⟨(a ++ b).toArray⟩ := by
 apply ByteArray.ext
 rw [ByteArray.data_append]
 simp
theorem R00 (a : List UInt8) : (⟨a.toArray⟩ : ByteArray).size = a.length := by simp [ByteArray.size]
theorem I0l {n : Int} {m : Nat} (h : m ≤ 9223372036854775808) (hn : n < 0 ∨ m ≤ 9223372036854775807) : M0 (S9 n m) := by
 unfold S9
 split <;> constructor <;> omega
theorem T01 (n : Int) : ∀ (f m fuel : Nat) (acc : List UInt8), m < 10 ^ f → f < fuel → m ≤ 9223372036854775808 → acc.length + f ≤ 100 → (n < 0 ∨ m ≤ 9223372036854775807) →
  f4 fuel (S9 n m) ⟨acc.toArray⟩ = some ⟨(L05 f m acc).toArray⟩
 | f, m, 0, acc, h1, h2, h3, h4, h5 => by omega
 | 0, m, fuel + 1, acc, h1, h2, h3, h4, h5 => by
  have : m = 0 := by simp at h1; exact h1
  subst this
  rw [f4.eq_2, show S9 n 0 = 0 by unfold S9; split <;> simp]
  rfl
 | f + 1, m, fuel + 1, acc, h1, h2, h3, h4, h5 => by
  rw [f4.eq_2]
  by_cases h0 : m = 0
  ·subst h0
   rw [show S9 n 0 = 0 by unfold S9; split <;> simp]
   simp [L05]
  ·have hs : S9 n m ≠ 0 := fun e => h0 (F0f.1 e)
   have next := T01 n f (m / 10) fuel (UInt8.ofNat (48 + m % 10) :: acc) (by rw [Nat.pow_succ] at h1; omega) (by omega) (by omega) (by simp only [List.length_cons]; omega) (by omega)
   have hq : IntKind.i64.wrap ((S9 n m).tdiv 10) = S9 n (m / 10) := by
    rw [b0i]
    have := I0l (n := n) (m := m / 10) (by omega) (by omega)
    exact w64 this.1 this.2
   rw [if_pos (by simpa using hs), hq, a0i]
   simp only [show ∀ k : Unit → Option ByteArray, (grd (10 ≠ 0)).bind k = k () from fun k => rfl]
   have key : ∀ X : Int, X = ((m % 10 : Nat) : Int) → ((grd ([IntKind.u8.wrap (IntKind.i64.wrap (48 + X))].length ≤ 9223372036854775807)).bind fun _ => (grd ((strOfNums [IntKind.u8.wrap (IntKind.i64.wrap (48 + X))]).size + (⟨acc.toArray⟩ : ByteArray).size ≤ 9223372036854775807)).bind fun _ =>
     f4 fuel (S9 n (m / 10)) (strOfNums [IntKind.u8.wrap (IntKind.i64.wrap (48 + X))] ++ ⟨acc.toArray⟩)) = some ⟨(L05 (f + 1) m acc).toArray⟩ := fun X hX => by
    rw [B0 (by simp), Option.bind_some, B0 (by rw [strOfNums_size, R00]; simp only [List.length_singleton]; omega), Option.bind_some, Y0m acc hX, next]
    simp [L05, h0]
   by_cases hneg : S9 n (m % 10) < 0
   ·rw [if_pos (by simpa using hneg)]
    refine key _ ?_
    unfold S9 at hneg ⊢
    split at hneg
    ·rename_i hn
     rw [if_pos hn, w64 (by omega) (by omega)]; omega
    ·omega
   ·rw [if_neg (by simpa using hneg)]
    refine key _ ?_
    unfold S9 at hneg ⊢
    split at hneg
    ·rename_i hn
     rw [if_pos hn]; omega
    ·rename_i hn
     rw [if_neg hn]
theorem G0f (n : Int) : S9 n n.natAbs = n := by unfold S9; split <;> omega
theorem F9 (n : Int) (hn : M0 n) : H5 n = some (E0f n) := by
 unfold H5 E0f
 by_cases h0 : n = 0
 ·rw [if_pos (by simpa using h0), if_pos h0]
 ·rw [if_neg (by simpa using h0), if_neg h0]
  have h := T01 n 20 n.natAbs I0 [] (by have := hn.1; have := hn.2; omega) (by unfold I0; omega) (by have := hn.1; have := hn.2; omega) (by simp) (by have := hn.2; omega)
  rw [G0f] at h
  rw [h, Option.bind_some]
  have hl := D0a 20 n.natAbs []
  simp only [List.length_nil] at hl
  by_cases hneg : n < 0
  ·rw [if_pos (by simpa using hneg), if_pos hneg, B0 (by have e := R00 (L05 20 n.natAbs []); have e1 : (⟨#[45]⟩ : ByteArray).size = 1 := rfl; omega), Option.bind_some]
   exact congrArg some (J0g [45] _)
  ·rw [if_neg (by simpa using hneg), if_neg hneg]
def h05 : Nat → Nat → List Int
 | 0, _ => []
 | f + 1, m => if m = 0 then [] else ((48 + m % 10 : Nat) : Int) :: h05 f (m / 10)
theorem H0f : ∀ (f m : Nat), (h05 f m).length ≤ f
 | 0, m => by simp [h05]
 | f + 1, m => by
  simp only [h05]
  split
  ·simp
  ·have := H0f f (m / 10)
   simp only [List.length_cons]; omega
theorem G05 : ∀ (f m : Nat) (acc : List UInt8), L05 f m acc = (h05 f m).reverse.map (fun x => UInt8.ofNat x.toNat) ++ acc
 | 0, m, acc => by simp [L05, h05]
 | f + 1, m, acc => by
  simp only [L05, h05]
  split
  ·simp
  ·rw [G05 f (m / 10)]
   simp only [List.reverse_cons, List.map_append, List.map_cons, List.map_nil, Int.toNat_natCast, List.append_assoc, List.singleton_append]
theorem U01 (n : Int) : ∀ (f m fuel : Nat) (acc : List Int), m < 10 ^ f → f < fuel → m ≤ 9223372036854775808 → acc.length + f ≤ 100 → (n < 0 ∨ m ≤ 9223372036854775807) →
  i4 fuel (S9 n m) acc = some (acc ++ h05 f m)
 | f, m, 0, acc, h1, h2, h3, h4, h5 => by omega
 | 0, m, fuel + 1, acc, h1, h2, h3, h4, h5 => by
  have : m = 0 := by simp at h1; exact h1
  subst this
  rw [i4.eq_2, show S9 n 0 = 0 by unfold S9; split <;> simp]
  simp [h05]
 | f + 1, m, fuel + 1, acc, h1, h2, h3, h4, h5 => by
  rw [i4.eq_2]
  by_cases h0 : m = 0
  ·subst h0
   rw [show S9 n 0 = 0 by unfold S9; split <;> simp]
   simp [h05]
  ·have hs : S9 n m ≠ 0 := fun e => h0 (F0f.1 e)
   have next := U01 n f (m / 10) fuel (acc ++ [((48 + m % 10 : Nat) : Int)]) (by rw [Nat.pow_succ] at h1; omega) (by omega) (by omega) (by simp only [List.length_append, List.length_singleton]; omega) (by omega)
   have hq : IntKind.i64.wrap ((S9 n m).tdiv 10) = S9 n (m / 10) := by
    rw [b0i]
    have := I0l (n := n) (m := m / 10) (by omega) (by omega)
    exact w64 this.1 this.2
   rw [if_pos (by simpa using hs), hq, a0i]
   simp only [show ∀ k : Unit → Option (List Int), (grd (10 ≠ 0)).bind k = k () from fun k => rfl]
   have key : ∀ X : Int, X = ((m % 10 : Nat) : Int) → ((grd ((acc.length + [IntKind.u8.wrap (IntKind.i64.wrap (48 + X))].length) * 1 ≤ 140737488355328)).bind fun _ =>
     i4 fuel (S9 n (m / 10)) (acc ++ [IntKind.u8.wrap (IntKind.i64.wrap (48 + X))])) = some (acc ++ h05 (f + 1) m) := fun X hX => by
    have hX' : IntKind.u8.wrap (IntKind.i64.wrap (48 + X)) = ((48 + m % 10 : Nat) : Int) := by
     rw [hX]
     simp [IntKind.wrap, IntKind.signed, IntKind.bits]
     omega
    rw [hX', B0 (by simp only [List.length_singleton]; omega), Option.bind_some, next]
    simp [h05, h0]
   by_cases hneg : S9 n (m % 10) < 0
   ·rw [if_pos (by simpa using hneg)]
    refine key _ ?_
    unfold S9 at hneg ⊢
    split at hneg
    ·rename_i hn
     rw [if_pos hn, w64 (by omega) (by omega)]; omega
    ·omega
   ·rw [if_neg (by simpa using hneg)]
    refine key _ ?_
    unfold S9 at hneg ⊢
    split at hneg
    ·rename_i hn
     rw [if_pos hn]; omega
    ·rename_i hn
     rw [if_neg hn]
theorem J0l (xs : List Int) (hn : xs.length ≤ 140737488355328) : ∀ (fuel i j : Nat) (ys : List Int), i + j + 1 = xs.length → j + 1 - i < fuel → ys.length = xs.length → (∀ t, t < xs.length → ys[t]? = if t < i ∨ j < t then xs[xs.length - 1 - t]? else xs[t]?) →
  U2 fuel (i : Int) (j : Int) ys = some xs.reverse
 | 0, i, j, ys, h1, h2, h3, h4 => by omega
 | fuel + 1, i, j, ys, h1, h2, h3, h4 => by
  rw [U2.eq_2]
  by_cases hij : i < j
  ·have gi1 := L6 (show i < ys.length by omega)
   have gj1 := L6 (show j < ys.length by omega)
   generalize hxi : ys[i] = xi at gi1
   generalize hxj : ys[j] = xj at gj1
   rw [if_pos (by simp; omega), C3 gj1, Option.bind_some, C3 gi1, Option.bind_some, Option.bind_some]
   rw [C3 (k := j) (x := xj) (by rw [List.getElem?_set]; simp; rw [if_neg (by omega)]; exact gj1), Option.bind_some, Q1 hij (by omega), t0h (by omega) (by omega)]
   refine J0l xs hn fuel (i + 1) (j - 1) _ (by omega) (by omega) (by simpa using h3) (fun t ht => ?_)
   have e1 := h4 i (by omega)
   have e2 := h4 j (by omega)
   rw [if_neg (by omega)] at e1 e2
   rw [gi1] at e1
   rw [gj1] at e2
   simp only [Int.toNat_natCast]
   by_cases t1 : j = t
   ·subst t1
    rw [List.getElem?_set_self (by simp only [List.length_set]; omega), if_pos (Or.inr (by omega)), show xs.length - 1 - j = i by omega]
    exact e1
   ·rw [List.getElem?_set_ne t1]
    by_cases t2 : i = t
    ·subst t2
     rw [List.getElem?_set_self (by omega), if_pos (Or.inl (by omega)), show xs.length - 1 - i = j by omega]
     exact e2
    ·rw [List.getElem?_set_ne t2, h4 t ht]
     by_cases c : t < i ∨ j < t
     ·rw [if_pos c, if_pos (by omega)]
     ·rw [if_neg c, if_neg (by omega)]
  ·rw [if_neg (by simp; omega)]
   refine congrArg some (List.ext_getElem? fun t => ?_)
   rcases Nat.lt_or_ge t xs.length with ht | ht
   ·rw [h4 t ht, List.getElem?_reverse ht]
    by_cases c : t < i ∨ j < t
    ·rw [if_pos c]
    ·rw [if_neg c, show xs.length - 1 - t = t by omega]
   ·rw [List.getElem?_eq_none (by omega), List.getElem?_eq_none (by simpa using ht)]
theorem y0k (xs : List Int) (h0 : 0 < xs.length) (hn : xs.length ≤ 1000) : U2 I0 0 (IntKind.i64.wrap (((xs.length : Nat) : Int) - 1)) xs = some xs.reverse := by
 rw [t0h h0 (by omega)]
 exact J0l xs (by omega) I0 0 (xs.length - 1) xs (by omega) (by unfold I0; omega) rfl (fun t ht => by rw [if_neg (by omega)])
theorem E00 (n : Int) (hn : M0 n) : F6 n = some (E0f n) := by
 unfold F6 E0f
 by_cases h0 : n = 0
 ·rw [if_pos (by simpa using h0), if_pos h0]
 ·rw [if_neg (by simpa using h0), if_neg h0]
  have h := U01 n 20 n.natAbs I0 [] (by have := hn.1; have := hn.2; omega) (by unfold I0; omega) (by have := hn.1; have := hn.2; omega) (by simp) (by have := hn.2; omega)
  rw [G0f, List.nil_append] at h
  have hl := H0f 20 n.natAbs
  have hp : 0 < (h05 20 n.natAbs).length := by simp only [h05]; rw [if_neg (by omega)]; simp
  rw [h, Option.bind_some]
  simp only [Option.bind_some]
  by_cases hneg : n < 0
  ·rw [if_pos (by simpa using hneg), if_pos hneg, B0 (by simp only [List.length_singleton]; omega), Option.bind_some, B0 (by simp only [List.length_append, List.length_singleton]; omega), Option.bind_some,
    y0k _ (by simp) (by simp only [List.length_append, List.length_singleton]; omega), Option.bind_some, B0 (by simp only [List.length_reverse, List.length_append, List.length_singleton]; omega), Option.bind_some, G05]
   simp [strOfNums]
  ·rw [if_neg (by simpa using hneg), if_neg hneg, B0 (by omega), Option.bind_some,
    y0k _ hp (by omega), Option.bind_some, B0 (by simp only [List.length_reverse]; omega), Option.bind_some, G05]
   simp [strOfNums]
end Go.Proofs.YtknoadmdnjaocaaGreat
namespace Go.Proofs.YtknoadmdnjaocaaGreat
open Go.H
set_option linter.unusedVariables false
set_option linter.unusedSimpArgs false
set_option maxRecDepth 10000
abbrev B (l : List UInt8) : ByteArray := ⟨l.toArray⟩
theorem z0k (l : List UInt8) : k0g (B l) ⟨#[]⟩ = l.isEmpty := by
 rw [P0j]
 cases l with
 | nil => rfl
 | cons x r =>
  rw [decide_eq_false (fun e => by have := congrArg ByteArray.size e; simp [B, ByteArray.size] at this)]
  rfl
def p09 (x : Int) : Bool := !(x == 0) && inR (-3) 3 x
def chL (x : Int) : UInt8 := if x < 0 then UInt8.ofNat (64 + x.natAbs) else UInt8.ofNat (96 + x.natAbs)
theorem q09 {x : Int} (hx : p09 x = true) : x = -3 ∨ x = -2 ∨ x = -1 ∨ x = 1 ∨ x = 2 ∨ x = 3 := by
 simp only [p09, inR, Bool.and_eq_true, Bool.not_eq_true', beq_eq_false_iff_ne, decide_eq_true_eq] at hx
 omega
theorem A0k (x : Int) (hx : p09 x = true) : E01 x = some (B [chL x]) := by
 rcases q09 hx with rfl | rfl | rfl | rfl | rfl | rfl <;> rfl
theorem L0d (x : Int) : K8 x = some (bif p09 x then B [chL x] else B []) := by
 cases hx : p09 x with
 | true => rcases q09 hx with rfl | rfl | rfl | rfl | rfl | rfl <;> rfl
 | false =>
  unfold K8
  rw [x02, x02]
  have h1 : inR 1 3 x = false := by
   simp only [p09, inR, Bool.and_eq_false_iff, Bool.not_eq_false', beq_iff_eq, decide_eq_false_iff_not] at hx ⊢
   omega
  have h2 : inR (-3) (-1) x = false := by
   simp only [p09, inR, Bool.and_eq_false_iff, Bool.not_eq_false', beq_iff_eq, decide_eq_false_iff_not] at hx ⊢
   omega
  rw [h1, h2]
  rfl
def o04 (sep : UInt8) : List (List UInt8) → List UInt8
 | [] => []
 | x :: r => sep :: x ++ o04 sep r
def p04 (sep : UInt8) : List (List UInt8) → List UInt8
 | [] => []
 | x :: r => x ++ o04 sep r
def bsz : List (List UInt8) → Nat
 | [] => 0
 | x :: r => x.length + 1 + bsz r
theorem M0d : ∀ xs : List (List UInt8), xs.length ≤ bsz xs
 | [] => by simp
 | w :: r => by have := M0d r; simp only [bsz, List.length_cons]; omega
theorem q04 (sep : UInt8) (xs : List (List UInt8)) (hl : bsz xs ≤ 140737488355328) : ∀ (d k fuel : Nat) (acc : List UInt8), k + d = xs.length → d < fuel → acc.length + bsz (xs.drop k) ≤ 140737488355328 →
  L7 (xs.map B) (B [sep]) fuel (B acc) (k : Int) = some (B (acc ++ o04 sep (xs.drop k)))
 | d, k, 0, acc, hk, hf, ha => by omega
 | 0, k, fuel + 1, acc, hk, hf, ha => by
  rw [L7.eq_2, if_neg (by simp; omega), D1 (by omega)]
  simp [o04]
 | d + 1, k, fuel + 1, acc, hk, hf, ha => by
  have hkl : k < xs.length := by omega
  have hx := L6 hkl
  have hlen := M0d xs
  generalize xs[k] = x at hx
  rw [M1 hx] at ha ⊢
  simp only [bsz] at ha
  have next := q04 sep xs hl d (k + 1) fuel (acc ++ [sep] ++ x) (by omega) (by omega) (by simp only [List.length_append, List.length_singleton]; omega)
  rw [L7.eq_2, if_pos (by simp; omega), C3 (x := B x) (by rw [List.getElem?_map, hx]; rfl), Option.bind_some, B0 (by rw [R00, R00]; simp only [List.length_singleton]; omega), Option.bind_some, J0g,
   B0 (by rw [R00, R00]; simp only [List.length_append, List.length_singleton]; omega), Option.bind_some, J0g, Q1 hkl (by omega : xs.length ≤ 9223372036854775807), next]
  simp [o04]
def S09 (sep : UInt8) (e : ByteArray) : List (List UInt8) → ByteArray
 | [] => e
 | x :: r => B (p04 sep (x :: r))
theorem c0i (sep : UInt8) (e : ByteArray) (xs : List (List UInt8)) (hl : bsz xs ≤ 140737488355328) : p00 (xs.map B) (B [sep]) e = some (S09 sep e xs) := by
 unfold p00
 cases xs with
 | nil => rfl
 | cons x r =>
  simp only [bsz] at hl
  have hlen := M0d r
  have h := q04 sep r (by omega) r.length 0 I0 x (by omega) (W0 (by omega)) (by rw [List.drop_zero]; omega)
  rw [show ((0 : Nat) : Int) = 0 from rfl, List.drop_zero] at h
  rw [if_neg (by simp; omega), p08 (x := B x) rfl, Option.bind_some, W04, if_pos (by simp; omega), Option.bind_some]
  have e1 : (List.drop (1 : Int).toNat (List.take ((((x :: r).map B).length : Nat) : Int).toNat ((x :: r).map B))) = r.map B := by
   rw [Int.toNat_natCast, List.take_length]; rfl
  rw [e1, h]
  rfl
theorem X0i (n : Int) : (E0f n).size ≤ 21 := by
 unfold E0f
 have := D0a 20 n.natAbs []
 simp only [List.length_nil] at this
 split
 ·show 1 ≤ _; omega
 ·split
  ·rw [R00]; simp only [List.length_cons]; omega
  ·rw [R00]; omega
end Go.Proofs.YtknoadmdnjaocaaGreat
namespace Go.Proofs.YtknoadmdnjaocaaGreat
open Go.H
set_option linter.unusedVariables false
set_option linter.unusedSimpArgs false
set_option maxRecDepth 10000
def fI (n : Int) : List UInt8 := if n = 0 then [48] else if n < 0 then 45 :: L05 20 n.natAbs [] else L05 20 n.natAbs []
theorem E08 (n : Int) : E0f n = B (fI n) := by
 unfold E0f fI
 split
 ·rfl
 ·split <;> rfl
theorem g01 (n : Int) : (fI n).length ≤ 21 := by
 have := X0i n
 rw [E08, R00] at this
 exact this
theorem H0m (n : Int) : (fI n).isEmpty = false := by
 unfold fI
 split
 ·rfl
 ·split
  ·rfl
  ·rw [G05]
   have : 0 < (h05 20 n.natAbs).length := by simp only [h05]; rw [if_neg (by omega)]; simp
   cases h : ((h05 20 n.natAbs).reverse.map (fun x => UInt8.ofNat x.toNat) ++ []) with
   | nil =>
    have h2 := congrArg List.length h
    simp only [List.append_nil, List.length_map, List.length_reverse, List.length_nil] at h2
    omega
   | cons x r => rfl
def N0d (w : List Int) : Prop := ∀ x ∈ w, M0 x
def I0m : ByteArray := ⟨#[110, 111, 110, 101]⟩
def H05 (ks : List Int) : ByteArray := S09 32 I0m (ks.map fI)
def z09 : List Int → List UInt8
 | [] => [110, 111, 110, 101]
 | k :: r => p04 32 ((k :: r).map fI)
theorem i05 (ks : List Int) : H05 ks = B (z09 ks) := by cases ks <;> rfl
theorem K0g : ∀ ks : List Int, bsz (ks.map fI) ≤ 22 * ks.length
 | [] => by simp [bsz]
 | k :: r => by
  have := K0g r
  have := g01 k
  simp only [List.map_cons, bsz, List.length_cons]
  omega
theorem v0b : ∀ xs : List (List UInt8), (o04 32 xs).length = bsz xs
 | [] => rfl
 | x :: r => by
  have := v0b r
  simp only [o04, bsz, List.length_cons, List.length_append]
  omega
theorem D07 (ks : List Int) : (z09 ks).length ≤ 4 + 22 * ks.length := by
 cases ks with
 | nil => simp [z09]
 | cons k r =>
  have h1 := v0b (r.map fI)
  have h2 := K0g r
  have h3 := g01 k
  simp only [z09, List.map_cons, p04, List.length_append, List.length_cons]
  omega
theorem j0l (ks : List Int) : (z09 ks).isEmpty = false := by
 cases ks with
 | nil => rfl
 | cons k r =>
  have := H0m k
  simp only [z09, List.map_cons, p04]
  cases h : fI k with
  | nil => rw [h] at this; cases this
  | cons x t => rfl
theorem S00 (ks : List Int) (h64 : N0d ks) (hl : ks.length ≤ 1073741824) : ∀ (d k fuel : Nat) (acc : List UInt8), k + d = ks.length → d < fuel → 0 < k → acc.length ≤ 22 * k →
  Z1 ks fuel (B acc) (k : Int) = some (B (acc ++ o04 32 ((ks.drop k).map fI)))
 | d, k, 0, acc, hk, hf, h0, ha => by omega
 | 0, k, fuel + 1, acc, hk, hf, h0, ha => by
  rw [Z1.eq_2, if_neg (by simp; omega), D1 (by omega)]
  simp [o04]
 | d + 1, k, fuel + 1, acc, hk, hf, h0, ha => by
  have hkl : k < ks.length := by omega
  have hx := L6 hkl
  have hx64 := h64 _ (List.mem_of_getElem? hx)
  generalize ks[k] = x at hx hx64
  have hfl := g01 x
  have next := S00 ks h64 hl d (k + 1) fuel (acc ++ [32] ++ fI x) (by omega) (by omega) (by omega) (by simp only [List.length_append, List.length_singleton]; omega)
  rw [M1 hx, Z1.eq_2, if_pos (by simp; omega), if_pos (by simp; omega)]
  simp only [F9 x hx64, E08, show (⟨#[32]⟩ : ByteArray) = B [32] from rfl, J0g, Option.bind_some, R00, C3 hx]
  rw [B0 (by simp only [List.length_singleton]; omega), Option.bind_some, B0 (by omega), Option.bind_some, B0 (by simp only [List.length_append, List.length_singleton]; omega), Option.bind_some,
   Q1 hkl (by omega : ks.length ≤ 9223372036854775807), next]
  simp [o04]
theorem N05 (ks : List Int) (h64 : N0d ks) (hl : ks.length ≤ 1073741824) : M7 ks = some (H05 ks) := by
 unfold M7
 cases ks with
 | nil => rw [show I0 = (I0 - 1) + 1 from rfl, Z1.eq_2, if_neg (by simp), Option.bind_some, if_pos (n08.2 rfl)]; rfl
 | cons x r =>
  have hx64 := h64 x (List.mem_cons_self ..)
  have hfl := g01 x
  have next := S00 (x :: r) h64 hl r.length 1 (I0 - 1) (fI x) (by simp only [List.length_cons]; omega) (by simp only [List.length_cons] at hl; unfold I0; omega) (by omega) (by omega)
  rw [show I0 = (I0 - 1) + 1 from rfl, Z1.eq_2, if_pos (by simp), if_neg (by simp), p08 (x := x) rfl]
  simp only [F9 x hx64, E08, show (⟨#[]⟩ : ByteArray) = B [] from rfl, J0g, Option.bind_some, R00, List.nil_append]
  rw [B0 (by omega), Option.bind_some, B0 (by simp only [List.length_nil]; omega), Option.bind_some, show IntKind.i64.wrap (0 + 1) = ((1 : Nat) : Int) by decide, next, Option.bind_some, show (B [] : ByteArray) = ⟨#[]⟩ from rfl, z0k]
  have := j0l (x :: r)
  simp only [z09, List.map_cons, p04] at this
  simp only [List.drop_succ_cons, List.drop_zero]
  rw [this]
  rfl
theorem T00 (ks : List Int) (h64 : N0d ks) (hl : ks.length ≤ 1073741824) : ∀ (d k fuel : Nat) (acc : List ByteArray), k + d = ks.length → d < fuel → acc.length = k →
  U3 ks fuel (k : Int) acc = some (acc ++ (ks.drop k).map fun x => B (fI x))
 | d, k, 0, acc, hk, hf, ha => by omega
 | 0, k, fuel + 1, acc, hk, hf, ha => by
  rw [U3.eq_2, if_neg (by simp; omega), D1 (by omega)]
  simp
 | d + 1, k, fuel + 1, acc, hk, hf, ha => by
  have hkl : k < ks.length := by omega
  have hx := L6 hkl
  have hx64 := h64 _ (List.mem_of_getElem? hx)
  generalize ks[k] = x at hx hx64
  have hfl := g01 x
  have next := T00 ks h64 hl d (k + 1) fuel (acc ++ [B (fI x)]) (by omega) (by omega) (by simp only [List.length_append, List.length_singleton]; omega)
  rw [M1 hx, U3.eq_2, if_pos (by simp; omega), C3 hx, Option.bind_some, E00 x hx64, Option.bind_some, E08,
   B0 (by rw [R00]; omega), Option.bind_some, B0 (by simp only [List.length_singleton]; omega), Option.bind_some, Q1 hkl (by omega : ks.length ≤ 9223372036854775807), next]
  simp
theorem O05 (ks : List Int) (h64 : N0d ks) (hl : ks.length ≤ 1073741824) : N7 ks = some (H05 ks) := by
 unfold N7
 have h := T00 ks h64 hl ks.length 0 I0 [] (by omega) (W0 (by omega)) rfl
 have h2 := K0g ks
 rw [show ((0 : Nat) : Int) = 0 from rfl, List.drop_zero, List.nil_append] at h
 rw [h, Option.bind_some, show (ks.map fun w => B (fI w)) = (ks.map fI).map B by simp, show (⟨#[32]⟩ : ByteArray) = B [32] from rfl, c0i 32 _ _ (by omega), Option.bind_some,
  show S09 32 ⟨#[110, 111, 110, 101]⟩ (ks.map fI) = H05 ks from rfl, i05, B0 (by have := D07 ks; rw [R00]; omega)]
 rfl
end Go.Proofs.YtknoadmdnjaocaaGreat
namespace Go.Proofs.YtknoadmdnjaocaaGreat
open Go.H
set_option linter.unusedVariables false
set_option linter.unusedSimpArgs false
set_option maxRecDepth 10000
theorem B0k (xs : List (List UInt8)) (hx : xs ≠ []) (hl : bsz xs ≤ 1000000000) : Q00 (xs.map B) = some (B (p04 32 xs)) := by
 unfold Q00
 rw [show (⟨#[32]⟩ : ByteArray) = B [32] from rfl, c0i 32 _ xs (by omega), Option.bind_some]
 cases xs with
 | nil => exact absurd rfl hx
 | cons x r =>
  have h1 := v0b r
  simp only [bsz] at hl
  rw [show ∀ e, S09 32 e (x :: r) = B (p04 32 (x :: r)) from fun e => rfl, B0 (by rw [R00]; simp only [p04, List.length_append]; omega)]
  rfl
def w0b (s : List UInt8) (i : Nat) (p : List Int) : List UInt8 := s ++ [32] ++ [chL ((i + 1 : Nat) : Int)] ++ [32] ++ z09 p
def atA : List (List Int) → Nat → List UInt8 → List UInt8
 | [], _, s => s
 | p :: r, i, s => atA r (i + 1) (w0b s i p)
def hdA (a b c : Int) : List UInt8 := [112, 111, 105, 110, 116, 115, 32] ++ fI a ++ [32, 103, 114, 111, 117, 112, 32] ++ fI b ++ [32, 99, 111, 110, 106, 117, 103, 97, 116, 101, 115, 32] ++ fI c
def q00 (g : l0) : ByteArray := bif K6 g then B (atA (C5 g) 0 (hdA g.2.1 (J3 g) (((j9 g).length : Nat) : Int))) else B []
theorem d0i (a b c : Int) : (hdA a b c).length ≤ 100 := by
 have h1 := g01 a
 have h2 := g01 b
 have h3 := g01 c
 unfold hdA
 simp only [List.length_append, List.length_cons, List.length_nil]
 omega
theorem I0f {i n : Nat} (h : i < n) (hn : n ≤ 3) : p09 ((i + 1 : Nat) : Int) = true := by
 have : i = 0 ∨ i = 1 ∨ i = 2 := by omega
 rcases this with rfl | rfl | rfl <;> decide
theorem J0c (s : List UInt8) (i : Nat) (p : List Int) (hp : p.length ≤ 40) : (w0b s i p).length ≤ s.length + 1000 := by
 have := D07 p
 unfold w0b
 simp only [List.length_append, List.length_cons, List.length_nil]
 omega
theorem e0i (A : List (List Int)) (hA : A.length ≤ 3) (hw : ∀ w ∈ A, w.length ≤ 40 ∧ ∀ y ∈ w, M0 y) : ∀ (d k fuel : Nat) (s : List UInt8), k + d = A.length → d < fuel → s.length ≤ 100 + 1000 * k →
  Y4 A fuel (B s) (k : Int) = some (B (atA (A.drop k) k s))
 | d, k, 0, s, hd, hf, hs => by omega
 | 0, k, fuel + 1, s, hd, hf, hs => by
  rw [Y4.eq_2, if_neg (by simp only [decide_eq_true_eq]; omega), D1 (by omega)]; rfl
 | d + 1, k, fuel + 1, s, hd, hf, hs => by
  have hk : k < A.length := by omega
  have hx := L6 hk
  obtain ⟨w1, w2⟩ := hw _ (List.mem_of_getElem? hx)
  have hdr := M1 hx
  generalize A[k] = p at hx w1 w2 hdr
  have hil := D07 p
  have hsl := J0c s k p w1
  have hc := A0k ((k + 1 : Nat) : Int) (I0f hk hA)
  have hfi := N05 p w2 (by omega)
  rw [i05] at hfi
  have ih := e0i A hA hw d (k + 1) fuel (w0b s k p) (by omega) (by omega) (by omega)
  rw [Y4.eq_2, if_pos (by simp only [decide_eq_true_eq]; omega), Q1 (show k < 1000 by omega) (by omega), hdr, atA, ← ih]
  simp only [hc, C3 hx, hfi, show (⟨#[32]⟩ : ByteArray) = B [32] from rfl, J0g, Option.bind_some, R00]
  rw [B0 (by simp only [List.length_singleton]; omega), Option.bind_some, B0 (by simp), Option.bind_some, B0 (by simp only [List.length_append, List.length_singleton]; omega), Option.bind_some, B0 (by simp only [List.length_append, List.length_singleton]; omega), Option.bind_some, B0 (by omega), Option.bind_some, B0 (by simp only [List.length_append, List.length_singleton]; omega), Option.bind_some]
  rfl
theorem f0i (A : List (List Int)) (hA : A.length ≤ 3) (hw : ∀ w ∈ A, w.length ≤ 40 ∧ ∀ y ∈ w, M0 y) : ∀ (d k fuel : Nat) (s : List UInt8), k + d = A.length → d < fuel → s.length ≤ 100 + 1000 * k →
  Z4 A fuel (B s) (k : Int) = some (B (atA (A.drop k) k s))
 | d, k, 0, s, hd, hf, hs => by omega
 | 0, k, fuel + 1, s, hd, hf, hs => by
  rw [Z4.eq_2, if_neg (by simp only [decide_eq_true_eq]; omega), D1 (by omega)]; rfl
 | d + 1, k, fuel + 1, s, hd, hf, hs => by
  have hk : k < A.length := by omega
  have hx := L6 hk
  obtain ⟨w1, w2⟩ := hw _ (List.mem_of_getElem? hx)
  have hdr := M1 hx
  generalize A[k] = p at hx w1 w2 hdr
  have hil := D07 p
  have hsl := J0c s k p w1
  have hc := L0d ((k + 1 : Nat) : Int)
  rw [I0f hk hA, cond_true] at hc
  have hfi := O05 p w2 (by omega)
  rw [i05] at hfi
  have ih := f0i A hA hw d (k + 1) fuel (w0b s k p) (by omega) (by omega) (by omega)
  have hl := B0k [s, [chL ((k + 1 : Nat) : Int)], z09 p] (by simp) (by simp only [bsz, List.length_singleton]; omega)
  have hj : p04 32 [s, [chL ((k + 1 : Nat) : Int)], z09 p] = w0b s k p := by
   unfold w0b
   simp [p04, o04]
  rw [hj] at hl
  rw [Z4.eq_2, if_pos (by simp only [decide_eq_true_eq]; omega), Q1 (show k < 1000 by omega) (by omega), hdr, atA, ← ih]
  simp only [hc, C3 hx, hfi, Option.bind_some, R00]
  rw [B0 (by simp), Option.bind_some, B0 (by omega), Option.bind_some, show [B s, B [chL ((k + 1 : Nat) : Int)], B (z09 p)] = [s, [chL ((k + 1 : Nat) : Int)], z09 p].map B from rfl, hl, Option.bind_some, B0 (by rw [R00]; omega), Option.bind_some]
theorem F08 (g : l0) (hl : g.2.2.length ≤ 140737488355328) : L8 g = some (q00 g) := by
 have h1 := A07 g hl
 have h2 := x09 g hl
 have h3 := H0g g hl
 have h4 := u0b g
 have h5 := C07 g
 unfold q00
 cases hg : K6 g with
 | false =>
  have e : C5 g = [] := by unfold C5; rw [hg]; rfl
  rw [e] at h1
  obtain ⟨a, b, c⟩ := g
  unfold L8
  simp only [h1, Option.bind_some]
  rfl
 | true =>
  obtain ⟨q1, q2, q3, q4⟩ := L1 (G5 (I8 hg))
  obtain ⟨a1, a2, a3⟩ := h04 hg
  have hb := F9 g.2.1 ⟨by omega, by omega⟩
  have hc := F9 (J3 g) h5
  have hd := F9 (((j9 g).length : Nat) : Int) ⟨by omega, by omega⟩
  have hL := e0i (C5 g) (by omega) (G06 hg) (C5 g).length 0 I0 (hdA g.2.1 (J3 g) (((j9 g).length : Nat) : Int)) (by omega) (W0 (by omega)) (by have := d0i g.2.1 (J3 g) (((j9 g).length : Nat) : Int); omega)
  rw [show ((0 : Nat) : Int) = 0 from rfl, List.drop_zero] at hL
  have l1 := g01 g.2.1
  have l2 := g01 (J3 g)
  have l3 := g01 (((j9 g).length : Nat) : Int)
  obtain ⟨a, b, c⟩ := g
  unfold L8
  simp only [h1, Option.bind_some, cond_true] at hb hc hd hL l1 l2 l3 ⊢
  rw [if_neg (by simp only [decide_eq_true_eq]; omega)]
  simp only [hb, h2, hc, h3, hd, E08, Option.bind_some, show (⟨#[112, 111, 105, 110, 116, 115, 32]⟩ : ByteArray) = B [112, 111, 105, 110, 116, 115, 32] from rfl, show (⟨#[32, 103, 114, 111, 117, 112, 32]⟩ : ByteArray) = B [32, 103, 114, 111, 117, 112, 32] from rfl, show (⟨#[32, 99, 111, 110, 106, 117, 103, 97, 116, 101, 115, 32]⟩ : ByteArray) = B [32, 99, 111, 110, 106, 117, 103, 97, 116, 101, 115, 32] from rfl, J0g, R00]
  simp only [List.length_append, List.length_cons, List.length_nil]
  rw [B0 (by omega), Option.bind_some, B0 (by omega), Option.bind_some, B0 (by omega), Option.bind_some, B0 h5, Option.bind_some, B0 (by omega), Option.bind_some, B0 (by omega), Option.bind_some, B0 (by omega), Option.bind_some, B0 (by omega), Option.bind_some, B0 (by omega), Option.bind_some, B0 (by omega), Option.bind_some]
  unfold hdA at hL ⊢
  rw [hL]
  rfl
theorem G08 (g : l0) (hl : g.2.2.length ≤ 140737488355328) : M8 g = some (q00 g) := by
 have h0 := b03 g hl
 have h1 := B07 g hl
 have h2 := y09 g hl
 have h3 := I0g g hl
 have h4 := u0b g
 have h5 := C07 g
 unfold q00
 cases hg : K6 g with
 | false =>
  obtain ⟨a, b, c⟩ := g
  unfold M8
  simp only [h0, hg, Option.bind_some]
  rfl
 | true =>
  obtain ⟨q1, q2, q3, q4⟩ := L1 (G5 (I8 hg))
  obtain ⟨a1, a2, a3⟩ := h04 hg
  have hb := E00 g.2.1 ⟨by omega, by omega⟩
  have hc := E00 (J3 g) h5
  have hd := E00 (((j9 g).length : Nat) : Int) ⟨by omega, by omega⟩
  have hlen := d0i g.2.1 (J3 g) (((j9 g).length : Nat) : Int)
  have hL := f0i (C5 g) (by omega) (G06 hg) (C5 g).length 0 I0 (hdA g.2.1 (J3 g) (((j9 g).length : Nat) : Int)) (by omega) (W0 (by omega)) (by omega)
  rw [show ((0 : Nat) : Int) = 0 from rfl, List.drop_zero] at hL
  have l1 := g01 g.2.1
  have l2 := g01 (J3 g)
  have l3 := g01 (((j9 g).length : Nat) : Int)
  have hln := B0k [[112, 111, 105, 110, 116, 115], fI g.2.1, [103, 114, 111, 117, 112], fI (J3 g), [99, 111, 110, 106, 117, 103, 97, 116, 101, 115], fI (((j9 g).length : Nat) : Int)] (by simp) (by simp only [bsz, List.length_cons, List.length_nil]; omega)
  have hj : p04 32 [[112, 111, 105, 110, 116, 115], fI g.2.1, [103, 114, 111, 117, 112], fI (J3 g), [99, 111, 110, 106, 117, 103, 97, 116, 101, 115], fI (((j9 g).length : Nat) : Int)] = hdA g.2.1 (J3 g) (((j9 g).length : Nat) : Int) := by
   unfold hdA
   simp [p04, o04]
  rw [hj] at hln
  obtain ⟨a, b, c⟩ := g
  unfold M8
  simp only [h0, hg, h1, Option.bind_some, cond_true, Bool.not_true, Bool.false_eq_true, if_false] at hb hc hd hL l1 l2 l3 hln hlen ⊢
  simp only [hb, h2, hc, h3, hd, E08, Option.bind_some, R00]
  rw [B0 (by omega), Option.bind_some, B0 h5, Option.bind_some, B0 (by omega), Option.bind_some, B0 (by omega), Option.bind_some, B0 (by omega), Option.bind_some]
  have e : ([(⟨#[112, 111, 105, 110, 116, 115]⟩ : ByteArray), B (fI b), (⟨#[103, 114, 111, 117, 112]⟩ : ByteArray), B (fI (J3 (a, b, c))), (⟨#[99, 111, 110, 106, 117, 103, 97, 116, 101, 115]⟩ : ByteArray), B (fI (((j9 (a, b, c)).length : Nat) : Int))]) = [[112, 111, 105, 110, 116, 115], fI b, [103, 114, 111, 117, 112], fI (J3 (a, b, c)), [99, 111, 110, 106, 117, 103, 97, 116, 101, 115], fI (((j9 (a, b, c)).length : Nat) : Int)].map B := rfl
  rw [e, hln, Option.bind_some, B0 (by rw [R00]; omega), Option.bind_some, hL]
  rfl
end Go.Proofs.YtknoadmdnjaocaaGreat
