/- Texts of the claim, joined: Plain laws: vertices and edges added; the steps that are missing; Plain laws: trimming and the core of a folded graph; Plain laws: the core of a folded graph is a core; Plain laws: whether a word is trivial in a group; Plain laws: words read in a folded graph; reducing a word keeps where ; Plain laws: the spec's walk through two graphs at once; Plain laws: where the spec's walk through two graphs ends well, there ; Plain laws: the tree of a folded graph, with the words that lead to it; Plain laws: subgroups of finite index; the base moved; Plain laws: words of paths, of the spec and of the code; Plain laws: normal subgroups. -/
import Derived.Test.YtknoadmdnjaocaaGreatPart23
import Derived.Test.YtknoadmdnjaocaaGreatPart18
import Derived.Test.YtknoadmdnjaocaaGreatPart17
import Derived.Test.YtknoadmdnjaocaaGreatH36
namespace Go.Proofs.YtknoadmdnjaocaaGreat
open Go.H
set_option linter.unusedVariables false
set_option linter.unusedSimpArgs false
def D03 (g : j0) (v : Int) : List Int → List C0
 | [] => []
 | x :: r => (bif decide (j1 g v x < 0) then [(v, x, -1)] else []) ++ D03 g v r
def m05 (g : j0) : Nat → Nat → List C0
 | 0, _ => []
 | d + 1, v => D03 g (v : Int) (E5 g.1.toNat 1) ++ m05 g d (v + 1)
theorem R04 (g : j0) (v : Int) : ∀ l, (D03 g v l).length ≤ l.length
 | [] => Nat.le_refl _
 | x :: r => by
  have := R04 g v r
  simp only [D03, List.length_append, List.length_cons]
  cases decide (j1 g v x < 0) <;> simp <;> omega
theorem t0e (g : j0) (hg : T0 g = true) (v : Int) (ls : List Int) (hls : ∀ x ∈ ls, Y9 x) (hl : ls.length ≤ 1000) : ∀ (d k fuel : Nat) (acc : List C0), k + d = ls.length → d < fuel → acc.length + d ≤ 100000 →
  Q2 ls g.1 g.2.1 g.2.2 v fuel (k : Int) acc = some (acc ++ D03 g v (ls.drop k))
 | d, k, 0, acc, hd, hf, ha => by omega
 | 0, k, fuel + 1, acc, hd, hf, ha => by
  rw [Q2.eq_2, if_neg (by simp; omega), C2 (by omega)]
  simp [D03]
 | d + 1, k, fuel + 1, acc, hd, hf, ha => by
  obtain ⟨q1, q2, q3, q4⟩ := C3 hg
  have hk : k < ls.length := by omega
  have hx := R7 hk
  have hm := hls _ (List.getElem_mem hk)
  generalize ls[k] = x at hx hm
  have ih : ∀ acc' : List C0, acc'.length + d ≤ 100000 → Q2 ls g.1 g.2.1 g.2.2 v fuel ((k + 1 : Nat) : Int) acc' = some (acc' ++ D03 g v (ls.drop (k + 1))) := fun acc' h => t0e g hg v ls hls hl d (k + 1) fuel acc' (by omega) (by omega) h
  rw [Q2.eq_2, if_pos (by simp; omega), H4 hx, Option.bind_some, show (g.1, g.2.1, g.2.2) = g from rfl, H05 g v x hm (by omega), Option.bind_some, H0 (N04 q1 q3.2 v x), Option.bind_some, D2 hk (by omega), V2 hx, D03]
  cases decide (j1 g v x < 0) with
  | true =>
   rw [if_pos rfl, Option.bind_some, H0 (by simp; omega), Option.bind_some, ih _ (by simp; omega)]
   simp
  | false =>
   rw [if_neg (by simp), ih _ (by omega)]
   simp
theorem u0e (g : j0) (hg : T0 g = true) (v : Int) (ls : List Int) (hls : ∀ x ∈ ls, Y9 x) (hl : ls.length ≤ 1000) : ∀ (d k fuel : Nat) (acc : List C0), k + d = ls.length → d < fuel → acc.length + d ≤ 100000 →
  T2 ls g.1 g.2.1 g.2.2 v fuel (k : Int) acc = some (acc ++ D03 g v (ls.drop k))
 | d, k, 0, acc, hd, hf, ha => by omega
 | 0, k, fuel + 1, acc, hd, hf, ha => by
  rw [T2.eq_2, if_neg (by simp; omega), C2 (by omega)]
  simp [D03]
 | d + 1, k, fuel + 1, acc, hd, hf, ha => by
  obtain ⟨q1, q2, q3, q4⟩ := C3 hg
  have hk : k < ls.length := by omega
  have hx := R7 hk
  have hm := hls _ (List.getElem_mem hk)
  generalize ls[k] = x at hx hm
  have ih : ∀ acc' : List C0, acc'.length + d ≤ 100000 → T2 ls g.1 g.2.1 g.2.2 v fuel ((k + 1 : Nat) : Int) acc' = some (acc' ++ D03 g v (ls.drop (k + 1))) := fun acc' h => u0e g hg v ls hls hl d (k + 1) fuel acc' (by omega) (by omega) h
  rw [T2.eq_2, if_pos (by simp; omega), H4 hx, Option.bind_some, show (g.1, g.2.1, g.2.2) = g from rfl, I05 g v x hm (by omega), Option.bind_some, H0 (N04 q1 q3.2 v x), Option.bind_some, D2 hk (by omega), V2 hx, D03]
  cases decide (j1 g v x < 0) with
  | true =>
   rw [if_pos rfl, H0 (by simp; omega), Option.bind_some, ih _ (by simp; omega)]
   simp
  | false =>
   rw [if_neg (by simp), ih _ (by omega)]
   simp
theorem L06 : ∀ (d i : Nat) (x : Int), x ∈ E5 d i → ∃ j : Nat, i ≤ j ∧ j < i + d ∧ (x = (j : Int) ∨ x = -(j : Int))
 | 0, i, x, h => by simp [E5] at h
 | d + 1, i, x, h => by
  simp only [E5, List.mem_cons] at h
  rcases h with rfl | rfl | h
  ·exact ⟨i, Nat.le_refl _, by omega, .inl rfl⟩
  ·exact ⟨i, Nat.le_refl _, by omega, .inr rfl⟩
  ·obtain ⟨j, h1, h2, h3⟩ := L06 d (i + 1) x h
   exact ⟨j, by omega, by omega, h3⟩
theorem v0e (g : j0) (hf0 : K0 g = true) : ∀ (d k fuel : Nat) (acc : List C0), k + d = g.2.1.toNat → d < fuel → acc.length + 100 * d ≤ 10000 →
  T3 g.2.1 g.1 g.2.2 fuel (k : Int) acc = some (acc ++ m05 g d k)
 | d, k, 0, acc, hd, hf, ha => by omega
 | 0, k, fuel + 1, acc, hd, hf, ha => by
  obtain ⟨q1, q2, q3, q4⟩ := M1 hf0
  rw [T3.eq_2, show decide (((k : Nat) : Int) < g.2.1) = false by simp; omega]
  simp [chk, m05]
 | d + 1, k, fuel + 1, acc, hd, hf, ha => by
  obtain ⟨q1, q2, q3, q4⟩ := M1 hf0
  have hg := ((u03 g).1 hf0).1
  obtain ⟨R, hR⟩ : ∃ R : Nat, g.1 = (R : Int) := ⟨g.1.toNat, by omega⟩
  have hls : ∀ x ∈ E5 g.1.toNat 1, Y9 x := fun x hx => by
   obtain ⟨j, h1, h2, h3⟩ := L06 _ _ _ hx
   refine ⟨⟨by omega, by omega⟩, by omega⟩
  have hlen := B9 g.1.toNat 1
  have hm := R04 g (k : Int) (E5 g.1.toNat 1)
  have h0 := t0e g hg (k : Int) (E5 g.1.toNat 1) hls (by omega) (E5 g.1.toNat 1).length 0 U0 acc (by omega) (C1 (by omega)) (by omega)
  rw [T3.eq_2, show decide (((k : Nat) : Int) < g.2.1) = true by simp; omega, U1, show (g.1, g.2.1, g.2.2) = g from rfl, A9 g (by omega), Option.bind_some, hf0]
  rw [if_pos (show (bif true then true else false) = true from rfl), show J5 g.1 = some (E5 g.1.toNat 1) by rw [hR, w0f R (by omega)]; rfl, Option.bind_some, show (0 : Int) = ((0 : Nat) : Int) from rfl, h0, Option.bind_some, D2 (show k < 1000 by omega) (by omega), v0e g hf0 d (k + 1) fuel _ (by omega) (by omega) (by simp; omega), m05]
  simp
theorem w0e (g : j0) (hf0 : K0 g = true) : ∀ (d k fuel : Nat) (acc : List C0), k + d = g.2.1.toNat → d < fuel → acc.length + 100 * d ≤ 10000 →
  U3 g.2.1 g.1 g.2.2 fuel (k : Int) acc = some (acc ++ m05 g d k)
 | d, k, 0, acc, hd, hf, ha => by omega
 | 0, k, fuel + 1, acc, hd, hf, ha => by
  obtain ⟨q1, q2, q3, q4⟩ := M1 hf0
  rw [U3.eq_2, if_neg (by simp; omega)]
  simp [m05]
 | d + 1, k, fuel + 1, acc, hd, hf, ha => by
  obtain ⟨q1, q2, q3, q4⟩ := M1 hf0
  have hg := ((u03 g).1 hf0).1
  obtain ⟨R, hR⟩ : ∃ R : Nat, g.1 = (R : Int) := ⟨g.1.toNat, by omega⟩
  have hls : ∀ x ∈ E5 g.1.toNat 1, Y9 x := fun x hx => by
   obtain ⟨j, h1, h2, h3⟩ := L06 _ _ _ hx
   refine ⟨⟨by omega, by omega⟩, by omega⟩
  have hlen := B9 g.1.toNat 1
  have hm := R04 g (k : Int) (E5 g.1.toNat 1)
  have h0 := u0e g hg (k : Int) (E5 g.1.toNat 1) hls (by omega) (E5 g.1.toNat 1).length 0 U0 acc (by omega) (C1 (by omega)) (by omega)
  rw [U3.eq_2, if_pos (by simp; omega), show Z5 g.1 = some (E5 g.1.toNat 1) by rw [hR, v0f R (by omega)]; rfl, Option.bind_some, show (0 : Int) = ((0 : Nat) : Int) from rfl, h0, Option.bind_some, D2 (show k < 1000 by omega) (by omega), w0e g hf0 d (k + 1) fuel _ (by omega) (by omega) (by simp; omega), m05]
  simp
def l8 (g : j0) : List C0 := m05 g g.2.1.toNat 0
theorem K0a {g : j0} (hf : K0 g = true) : l6 g = some (l8 g) := by
 obtain ⟨q1, q2, q3, q4⟩ := M1 hf
 have h := v0e g hf g.2.1.toNat 0 U0 [] (by omega) (C1 (by omega)) (by simp; omega)
 obtain ⟨r, n, es⟩ := g
 unfold l6 l8
 simp only at h ⊢
 rw [show (0 : Int) = ((0 : Nat) : Int) from rfl, h]; simp
theorem L0a {g : j0} (hf : K0 g = true) : o6 g = some (l8 g) := by
 obtain ⟨q1, q2, q3, q4⟩ := M1 hf
 have h := w0e g hf g.2.1.toNat 0 U0 [] (by omega) (C1 (by omega)) (by simp; omega)
 have h2 := j8 g (by omega)
 obtain ⟨r, n, es⟩ := g
 unfold o6 l8
 simp only [h2, hf, Option.bind_some] at h ⊢
 rw [if_neg (by simp), show (0 : Int) = ((0 : Nat) : Int) from rfl, h]; simp
end Go.Proofs.YtknoadmdnjaocaaGreat
namespace Go.Proofs.YtknoadmdnjaocaaGreat
open Go.H
set_option linter.unusedVariables false
set_option linter.unusedSimpArgs false
theorem z0f (g : Nat) : ∀ (d k : Nat) (x : Int), x ∈ wo g d k → ∃ j : Nat, x = (j : Int) ∧ k ≤ j ∧ j < k + d
 | 0, k, x, h => nomatch h
 | d + 1, k, x, h => by
  unfold wo at h
  split at h
  ·obtain ⟨j, h1, h2, h3⟩ := z0f g d (k + 1) x h
   exact ⟨j, h1, by omega, by omega⟩
  ·rcases List.mem_cons.1 h with rfl | h
   ·exact ⟨k, rfl, Nat.le_refl _, by omega⟩
   ·obtain ⟨j, h1, h2, h3⟩ := z0f g d (k + 1) x h
    exact ⟨j, h1, by omega, by omega⟩
theorem v04 (g : Nat) : ∀ (d k : Nat), (wo g d k).Nodup
 | 0, k => List.nodup_nil
 | d + 1, k => by
  unfold wo
  split
  ·exact v04 g d (k + 1)
  ·refine List.nodup_cons.2 ⟨fun h => ?_, v04 g d (k + 1)⟩
   obtain ⟨j, h1, h2, h3⟩ := z0f g d (k + 1) _ h
   omega
theorem J0c (P : List Int) : ∀ (es : List C0), ∀ e ∈ pE P es, ∃ a ∈ es, e = (getI P a.1, a.2.1, getI P a.2.2) ∧ 0 ≤ getI P a.1 ∧ 0 ≤ getI P a.2.2
 | [], e, h => nomatch h
 | b :: r, e, h => by
  unfold pE at h
  cases hb : decide (0 ≤ getI P b.1) && decide (0 ≤ getI P b.2.2)
  ·rw [hb] at h
   obtain ⟨a, h1, h2⟩ := J0c P r e h
   exact ⟨a, List.mem_cons_of_mem _ h1, h2⟩
  ·rw [hb] at h
   simp only [Bool.and_eq_true, decide_eq_true_eq] at hb
   rcases List.mem_cons.1 h with rfl | h
   ·exact ⟨b, List.mem_cons_self .., rfl, hb.1, hb.2⟩
   ·obtain ⟨a, h1, h2⟩ := J0c P r e h
    exact ⟨a, List.mem_cons_of_mem _ h1, h2⟩
theorem M05 {g : j0} {o : List Int} (hg : T0 g = true) (ho : inV g.2.1.toNat o) (h1 : 1 ≤ o.length) (h2 : o.length ≤ 40) : T0 (w6 g o) = true := by
 obtain ⟨q1, q2, q3, q4⟩ := C3 hg
 have hl := C0c (plc g.2.1.toNat o) g.2.2
 refine J06 q2 ⟨by omega, by omega⟩ (by omega) fun e he => ?_
 obtain ⟨a, ha, rfl, k1, k2⟩ := J0c _ _ e he
 have hq := q1 a ha
 have r1 := (T02 ho (x := a.1) (by omega)).2
 have r2 := (T02 ho (x := a.2.2) (by omega)).2
 exact ⟨⟨k1, r1⟩, ⟨k2, r2⟩, hq.2.2⟩
theorem i0a {n : Nat} : ∀ (o : List Int) (k : Nat) (A : List Int), A.length = n → inV n o → o.Nodup → (∀ x, 0 ≤ x → getI A x < (k : Int)) → (∀ x y, 0 ≤ x → 0 ≤ y → 0 ≤ getI A x → getI A x = getI A y → x = y) →
  ∀ x y, 0 ≤ x → 0 ≤ y → 0 ≤ getI (D8 A k o) x → getI (D8 A k o) x = getI (D8 A k o) y → x = y
 | [], k, A, hA, ho, hd, hr, hi => hi
 | v :: r, k, A, hA, ho, hd, hr, hi => by
  have hv := ho v (List.mem_cons_self ..)
  refine i0a r (k + 1) (A.set v.toNat (k : Int)) (by simp [hA]) (fun w hw => ho w (List.mem_cons_of_mem _ hw)) (List.nodup_cons.1 hd).2 (fun x hx => ?_) (fun x y hx hy h0 he => ?_)
  ·rw [f01 hv.1 (by omega) hx]
   have := hr x hx
   split <;> omega
  ·rw [f01 hv.1 (by omega) hx] at h0 he
   rw [f01 hv.1 (by omega) hy] at he
   have h1 := hr x hx
   have h2 := hr y hy
   by_cases c1 : x = v
   ·by_cases c2 : y = v
    ·rw [c1, c2]
    ·rw [if_pos c1, if_neg c2] at he; omega
   ·by_cases c2 : y = v
    ·rw [if_neg c1, if_pos c2] at he; omega
    ·rw [if_neg c1] at h0; rw [if_neg c1, if_neg c2] at he
     exact hi x y hx hy h0 he
theorem K0c {n : Nat} {o : List Int} (ho : inV n o) (hd : o.Nodup) {x y : Int} (hx : 0 ≤ x) (hy : 0 ≤ y) (h0 : 0 ≤ getI (plc n o) x) (he : getI (plc n o) x = getI (plc n o) y) : x = y := by
 refine i0a o 0 (List.replicate n (-1)) (by simp) ho hd (fun x hx => by rw [p04]; omega) (fun x y _ _ h _ => by rw [p04] at h; omega) x y hx hy h0 he
theorem i0j {es : List C0} (h : es.Pairwise fun a b => N01 a b = false) {a b : C0} (ha : a ∈ es) (hb : b ∈ es) (hne : a ≠ b) : N01 a b = false := by
 induction es with
 | nil => cases ha
 | cons c r ih =>
  obtain ⟨h1, h2⟩ := List.pairwise_cons.1 h
  rcases List.mem_cons.1 ha with rfl | ha'
  ·rcases List.mem_cons.1 hb with rfl | hb'
   ·exact absurd rfl hne
   ·exact h1 b hb'
  ·rcases List.mem_cons.1 hb with rfl | hb'
   ·rw [v07]; exact h1 a ha'
   ·exact ih h2 ha' hb'
theorem c0k {es : List C0} (hA : Asc O0 es) (h : ∀ a ∈ es, ∀ b ∈ es, a ≠ b → N01 a b = false) : es.Pairwise fun a b => N01 a b = false := by
 induction es with
 | nil => exact .nil
 | cons c r ih =>
  obtain ⟨h1, h2⟩ := List.pairwise_cons.1 hA
  refine List.pairwise_cons.2 ⟨fun b hb => h c (List.mem_cons_self ..) b (List.mem_cons_of_mem _ hb) fun e => ?_, ih h2 fun a ha b hb => h a (List.mem_cons_of_mem _ ha) b (List.mem_cons_of_mem _ hb)⟩
  have := h1 b hb
  rw [e, J7.refl] at this; omega
theorem C07 {g : j0} (hg : T0 g = true) : K0 g = true ↔ ∀ a ∈ g.2.2, ∀ b ∈ g.2.2, a ≠ b → N01 a b = false := by
 rw [u03, B07]
 exact ⟨fun h a ha b hb hne => i0j h.2 ha hb hne, fun h => ⟨hg, c0k (graph_asc' hg) h⟩⟩
where graph_asc' {g : j0} (h : T0 g = true) : Asc O0 g.2.2 := ((U02 g).1 h).2.2.2.2
theorem w04 {g : j0} {o : List Int} (hf : K0 g = true) (ho : inV g.2.1.toNat o) (hd : o.Nodup) (h1 : 1 ≤ o.length) (h2 : o.length ≤ 40) : K0 (w6 g o) = true := by
 have hg := J4 hf
 obtain ⟨q1, q2, q3, q4⟩ := C3 hg
 refine (C07 (M05 hg ho h1 h2)).2 fun a ha b hb hne => ?_
 have mem : ∀ e ∈ (w6 g o).2.2, ∃ a ∈ g.2.2, e = (getI (plc g.2.1.toNat o) a.1, a.2.1, getI (plc g.2.1.toNat o) a.2.2) ∧ 0 ≤ getI (plc g.2.1.toNat o) a.1 ∧ 0 ≤ getI (plc g.2.1.toNat o) a.2.2 := fun e he => by
  rcases (C8 J7 e _ _).1 he with h | h
  ·cases h
  ·exact J0c _ _ e h
 obtain ⟨a', ha', rfl, k1, k2⟩ := mem a ha
 obtain ⟨b', hb', rfl, k3, k4⟩ := mem b hb
 have hne' : a' ≠ b' := fun e => hne (by rw [e])
 have hc := (C07 hg).1 hf a' ha' b' hb' hne'
 have ra := q1 a' ha'
 have rb := q1 b' hb'
 unfold N01 at hc ⊢
 simp only [Bool.and_eq_false_iff, Bool.or_eq_false_iff, decide_eq_false_iff_not] at hc ⊢
 rcases hc with hc | ⟨hc1, hc2⟩
 ·exact .inl hc
 ·exact .inr ⟨fun e => hc1 (K0c ho hd ra.1.1 rb.1.1 k1 e), fun e => hc2 (K0c ho hd ra.2.1.1 rb.2.1.1 k2 e)⟩
def P01 : Nat → j0 → j0
 | 0, g => g
 | d + 1, g => match t7 g with
  | none => g
  | some k => P01 d (w6 g (wo k g.2.1.toNat 0))
theorem L0c {g : j0} {k : Nat} (h : t7 g = some k) : 1 ≤ k ∧ k < g.2.1.toNat := by
 have := r04 _ _ _ h
 omega
theorem D07 {g : j0} (hg : T0 g = true) {k : Nat} (h : t7 g = some k) : inV g.2.1.toNat (wo k g.2.1.toNat 0) ∧ (wo k g.2.1.toNat 0).length = g.2.1.toNat - 1 ∧ 1 ≤ (wo k g.2.1.toNat 0).length ∧ (wo k g.2.1.toNat 0).length ≤ 40 := by
 obtain ⟨q1, q2, q3, q4⟩ := C3 hg
 have hk := L0c h
 have hlen := e0a k g.2.1.toNat 0
 rw [if_pos (by omega)] at hlen
 exact ⟨h0e k _ _ 0 (by omega), hlen, by omega, by omega⟩
theorem q01 : ∀ (d : Nat) {g : j0}, K0 g = true → K0 (P01 d g) = true
 | 0, g, h => h
 | d + 1, g, h => by
  unfold P01
  cases e : t7 g with
  | none => exact h
  | some k =>
   obtain ⟨h1, h2, h3, h4⟩ := D07 (J4 h) e
   exact q01 d (w04 h h1 (v04 _ _ _) h3 h4)
theorem j0a (n g : Nat) (hn : n ≤ 1000) (u : List Int) (hu : u.length = n) : ∀ (d k fuel : Nat) (acc bcc : List Int), k + d = n → d < fuel → acc.length ≤ k → bcc.length ≤ k →
  ∃ v, A4 (n : Int) (g : Int) u fuel (k : Int) acc bcc = some (acc ++ wo g d k, v) ∧ v.length + acc.length = bcc.length + (acc ++ wo g d k).length
 | d, k, 0, acc, bcc, hd, hf, ha, hb => by omega
 | 0, k, fuel + 1, acc, bcc, hd, hf, ha, hb => by
  rw [A4.eq_2, if_neg (by simp; omega)]; exact ⟨bcc, by simp [wo], by simp [wo]⟩
 | d + 1, k, fuel + 1, acc, bcc, hd, hf, ha, hb => by
  have hx := R7 (show k < u.length by omega)
  generalize u[k] = x at hx
  rw [A4.eq_2, if_pos (by simp; omega), D2 (show k < 10000 by omega) (by omega)]
  unfold wo
  by_cases c : k = g
  ·have e : decide ((k : Int) = (g : Int)) = true := decide_eq_true (by omega)
   rw [e, if_neg (by simp), if_pos c]
   exact j0a n g hn u hu d (k + 1) fuel acc bcc (by omega) (by omega) (by omega) (by omega)
  ·have e : decide ((k : Int) = (g : Int)) = false := decide_eq_false (by omega)
   rw [e, if_pos (show (!false) = true from rfl), if_neg c, H0 (by simp; omega), Option.bind_some, H4 hx, Option.bind_some, H0 (by simp; omega), Option.bind_some]
   obtain ⟨v, h1, h2⟩ := j0a n g hn u hu d (k + 1) fuel (acc ++ [(k : Int)]) (bcc ++ [x]) (by omega) (by omega) (by simp; omega) (by simp; omega)
   refine ⟨v, by rw [h1]; simp, ?_⟩
   simp only [List.length_append, List.length_cons, List.length_nil] at h2 ⊢
   omega
theorem x0e (g : j0) (hg : T0 g = true) : ∀ (d k fuel : Nat) (acc : List Int), k + d = g.2.1.toNat → d < fuel → acc.length = k →
  ∃ u, R4 g.2.1 g.1 g.2.2 fuel (k : Int) acc = some u ∧ u.length = g.2.1.toNat
 | d, k, 0, acc, hd, hf, ha => by omega
 | 0, k, fuel + 1, acc, hd, hf, ha => by
  obtain ⟨q1, q2, q3, q4⟩ := C3 hg
  rw [R4.eq_2, show decide (((k : Nat) : Int) < g.2.1) = false by simp; omega]
  exact ⟨acc, by simp [chk], by omega⟩
 | d + 1, k, fuel + 1, acc, hd, hf, ha => by
  obtain ⟨q1, q2, q3, q4⟩ := C3 hg
  obtain ⟨u, h1, h2⟩ := x0e g hg d (k + 1) fuel (acc ++ [(k : Int)]) (by omega) (by omega) (by simp; omega)
  rw [R4.eq_2, show decide (((k : Nat) : Int) < g.2.1) = true by simp; omega, U1, show (g.1, g.2.1, g.2.2) = g from rfl, z7 g (by omega), Option.bind_some, hg]
  rw [if_pos (show (bif true then true else false) = true from rfl), H0 (by simp; omega), Option.bind_some, D2 (show k < 1000 by omega) (by omega), h1]
  exact ⟨u, rfl, h2⟩
theorem y0e (g0 : j0) (hg0 : T0 g0 = true) : ∀ (d k fuel : Nat) (g : j0) (u : List Int), k + d = 40 → d < fuel → T0 g = true → u.length = g.2.1.toNat → g.2.1.toNat ≤ d + 1 →
  ∃ v, (Q4 g0.1 g0.2.1 g0.2.2 fuel u (k : Int) g.1 g.2.1 g.2.2).bind (fun X => l9 X (fun S => match S with | (a, b, c, e) => some ((b, c, e), a))) = some (P01 d g, v)
 | d, k, 0, g, u, hd, hf, hg, hu, hn => by omega
 | 0, k, fuel + 1, g, u, hd, hf, hg, hu, hn => by
  rw [Q4.eq_2, show decide (((k : Nat) : Int) < 40) = false by simp; omega]
  exact ⟨u, by simp [chk, l9, P01]⟩
 | d + 1, k, fuel + 1, g, u, hd, hf, hg, hu, hn => by
  obtain ⟨p1, p2, p3, p4⟩ := C3 hg0
  obtain ⟨q1, q2, q3, q4⟩ := C3 hg
  have hl := e0j g hg
  rw [Q4.eq_2, show decide (((k : Nat) : Int) < 40) = true by simp; omega, U1, show (g0.1, g0.2.1, g0.2.2) = g0 from rfl, z7 g0 (by omega), Option.bind_some, hg0]
  rw [if_pos (show (bif true then true else false) = true from rfl), show (g.1, g.2.1, g.2.2) = g from rfl, hl]
  unfold P01
  cases e : t7 g with
  | none =>
   simp only [Option.bind_some]
   rw [H0 (show N0 (-1) from ⟨by omega, by omega⟩), Option.bind_some, if_pos (by simp)]
   exact ⟨u, rfl⟩
  | some j =>
   obtain ⟨h1, h2, h3, h4⟩ := D07 hg e
   have hj := L0c e
   obtain ⟨N, hN⟩ : ∃ N : Nat, g.2.1 = (N : Int) := ⟨g.2.1.toNat, by omega⟩
   have hNt : g.2.1.toNat = N := by omega
   obtain ⟨v, w1, w2⟩ := j0a N j (by omega) u (by omega) N 0 U0 [] [] (by omega) (C1 (by omega)) (Nat.le_refl _) (Nat.le_refl _)
   have hr := L05 g.1 N g.2.2 (wo j N 0) (by rw [← hN]; exact hg) (by rw [← hNt]; exact h1) (v04 _ _ _) (by rw [← hNt]; exact h3) (by rw [← hNt]; omega)
   rw [← hN, show (g.1, g.2.1, g.2.2) = g from rfl] at hr
   have hG := M05 hg h1 h3 h4
   rw [hNt] at hG h2 h3
   obtain ⟨v2, z⟩ := y0e g0 hg0 d (k + 1) fuel (w6 g (wo j N 0)) v (by omega) (by omega) hG (by simp only [List.nil_append, List.length_nil] at w2; show v.length = ((wo j N 0).length : Int).toNat; omega) (by show ((wo j N 0).length : Int).toNat ≤ d + 1; omega)
   simp only [Option.bind_some]
   rw [H0 (show N0 ((j : Nat) : Int) from ⟨by omega, by omega⟩), Option.bind_some, if_neg (by simp), hN, show (0 : Int) = ((0 : Nat) : Int) from rfl, w1]
   simp only [Option.bind_some, List.nil_append]
   rw [← hN, hr]
   simp only [Option.bind_some]
   rw [D2 (show k < 1000 by omega) (by omega), hNt]
   exact ⟨v2, z⟩
def k0a (g : j0) : j0 := P01 40 g
theorem A0f {g : j0} (hg : T0 g = true) : ∃ v, n8 g = some (k0a g, v) := by
 obtain ⟨q1, q2, q3, q4⟩ := C3 hg
 have hc := J05 g (by omega)
 obtain ⟨u, h1, h2⟩ := x0e g hg g.2.1.toNat 0 U0 [] (by omega) (C1 (by omega)) rfl
 obtain ⟨v, h3⟩ := y0e g hg 40 0 U0 g u rfl (C1 (by omega)) hg h2 (by omega)
 refine ⟨v, ?_⟩
 obtain ⟨r, n, es⟩ := g
 unfold n8
 simp only [hc, Option.bind_some]
 simp only at h1 h3
 rw [show (0 : Int) = ((0 : Nat) : Int) from rfl, h1, Option.bind_some]
 exact h3
theorem z0e : ∀ (n fuel d : Nat) (left : List Int) (r : Int) (es : List C0), 1 ≤ n → n ≤ 40 → inN n es → es.length ≤ 120 → left.length = n → n < fuel → n ≤ d + 1 →
  ∃ l', w4 fuel left r (n : Int) es = some (.inl (P01 d (r, (n : Int), es), l'))
 | n, 0, d, left, r, es, h1, h2, hn, hes, hl, hf, hd => by omega
 | n, fuel + 1, d, left, r, es, h1, h2, hn, hes, hl, hf, hd => by
  obtain ⟨S, eS, lS, hS⟩ := c0e r n es hn (by omega) h1 (by omega)
  have ht1 := F0c r n es (by omega) S lS h2 (n - 1) 1 U0 (Nat.le_refl _) (by omega) (by omega) (C1 (by omega))
  have hcg : lf (fun v => decide (B00 (v : Int) es < 2) || !C7 S (v : Int)) (n - 1) 1 = lf (G06 es) (n - 1) 1 := d0a _ _ fun k k1 k2 => by
   unfold G06
   have := hS (k : Int) (by omega) (by omega)
   have h3 := P04 es 0 (k : Int)
   congr 2
   cases hb : C7 S (k : Int)
   ·symm; exact decide_eq_false fun h => by rw [this.2 (h3.1 h)] at hb; cases hb
   ·symm; exact decide_eq_true (h3.2 (this.1 hb))
  rw [hcg] at ht1
  have hleaf : t7 (r, (n : Int), es) = lf (G06 es) (n - 1) 1 := by simp only [t7, Int.toNat_natCast]
  rw [w4.eq_2, eS, Option.bind_some, show (1 : Int) = ((1 : Nat) : Int) from rfl, ht1, Option.bind_some]
  cases hlf : lf (G06 es) (n - 1) 1 with
  | none =>
   have e2 : P01 d (r, (n : Int), es) = (r, (n : Int), es) := by
    cases d with
    | zero => rfl
    | succ d => unfold P01; rw [hleaf, hlf]
   rw [e2]
   exact ⟨left, by rw [if_pos (by rfl)]⟩
  | some k =>
   have hk := r04 _ _ _ hlf
   have e0 : decide ((k : Int) = 0) = false := decide_eq_false (by omega)
   have ho := h0e k n n 0 (by omega)
   have hlen := e0a k n 0
   rw [if_pos (by omega)] at hlen
   have ht0 := G0c n k (by omega) n 0 U0 [] (by omega) (C1 (by omega)) (Nat.le_refl _)
   rw [show ((0 : Nat) : Int) = 0 from rfl, List.nil_append] at ht0
   have hp := D0c r n es (wo k n 0) hn ho (by omega) (by omega) (by omega)
   have hpl := K05 (r, (n : Int), es) (wo k n 0)
   have hpi := y0b (r := r) ho hn
   have hw : IntKind.i64.wrap ((k : Int) + ((1 : Nat) : Int)) = ((k + 1 : Nat) : Int) := by rw [w64 (by omega) (by omega)]; rfl
   obtain ⟨d', rfl⟩ : ∃ d', d = d' + 1 := ⟨d - 1, by omega⟩
   have hF : w6 (r, (n : Int), es) (wo k n 0) = (r, ((n - 1 : Nat) : Int), (w6 (r, (n : Int), es) (wo k n 0)).2.2) := by rw [← hlen]; rfl
   obtain ⟨l', q1⟩ := z0e (n - 1) fuel d' (left.take k ++ left.drop (k + 1)) r (w6 (r, (n : Int), es) (wo k n 0)).2.2 (by omega) (by omega) (by rw [hlen] at hpi; exact hpi) (by simp only at hpl; omega) (by simp only [List.length_append, List.length_take, List.length_drop]; omega) (by omega) (by omega)
   refine ⟨l', ?_⟩
   rw [← hF] at q1
   have e2 : P01 (d' + 1) (r, (n : Int), es) = P01 d' (w6 (r, (n : Int), es) (wo k n 0)) := by
    show (match t7 (r, (n : Int), es) with | none => (r, (n : Int), es) | some k => P01 d' (w6 (r, (n : Int), es) (wo k ((n : Int)).toNat 0))) = _
    rw [hleaf, hlf, Int.toNat_natCast]
   rw [e2]
   simp only [e0, Bool.false_eq_true, if_false, ht0, Option.bind_some, hp]
   generalize w6 (r, (n : Int), es) (wo k n 0) = gp at *
   rw [hF]
   simp only [hw]
   rw [i0e (by omega), Option.bind_some, s03 (by omega), Option.bind_some, H0 (by simp only [List.length_take, List.length_drop]; omega), Option.bind_some, q1, ← hF]
theorem A0e {g : j0} (hg : T0 g = true) : ∃ v, L5 g = some (k0a g, v) := by
 obtain ⟨h1, h2, h3, h4⟩ := C3 hg
 have hq := d00 g (by omega)
 have hc := O01 g (by omega)
 obtain ⟨r, n, es⟩ := g
 simp only at h2 h3 h4
 obtain ⟨N, rfl⟩ : ∃ N : Nat, n = (N : Int) := ⟨n.toNat, by omega⟩
 have hn : inN N es := fun e he => ⟨(h1 e he).1, (h1 e he).2.1⟩
 obtain ⟨u, e1, e2⟩ := H0c N (by omega) N 0 U0 [] (by omega) (C1 (by omega)) rfl
 obtain ⟨l', q1⟩ := z0e N U0 40 u r es (by omega) (by omega) hn h4 e2 (C1 (by omega)) (by omega)
 refine ⟨l', ?_⟩
 unfold L5
 rw [show ((0 : Nat) : Int) = 0 from rfl] at e1
 simp only [hc, Option.bind_some, hq, hg, Bool.not_true, Bool.false_eq_true, if_false, e1, q1, l9]
 rfl
def E07 (g : j0) : j0 := M2 (k0a g)
theorem M06 {g : j0} (hf : K0 g = true) : v01 g = (g, []) := by
 obtain ⟨h1, h2⟩ := (u03 g).1 hf
 unfold v01
 rw [h1]
 show V9 40 g = _
 unfold V9
 rw [h2]
theorem B0f {g : j0} (hf : K0 g = true) : o8 g = some (E07 g) := by
 have hg := J4 hf
 obtain ⟨h1, h2, h3, h4⟩ := C3 hg
 have e1 := I0a g (by omega)
 rw [M06 hf] at e1
 obtain ⟨v, e2⟩ := A0f hg
 have e3 := n08 (k0a g) (q01 40 hf)
 obtain ⟨r, n, es⟩ := g
 unfold o8 E07
 simp only [e1, Option.bind_some, e2]
 simp only [e3, Option.bind_some]
theorem C0f {g : j0} (hf : K0 g = true) : p8 g = some (E07 g) := by
 have hg := J4 hf
 obtain ⟨h1, h2, h3, h4⟩ := C3 hg
 have e1 := J0a g (by omega)
 rw [M06 hf] at e1
 obtain ⟨v, e2⟩ := A0e hg
 have e3 := m08 (k0a g) (q01 40 hf)
 obtain ⟨r, n, es⟩ := g
 unfold p8 E07
 simp only [e1, Option.bind_some, e2]
 simp only [e3, Option.bind_some]
end Go.Proofs.YtknoadmdnjaocaaGreat
namespace Go.Proofs.YtknoadmdnjaocaaGreat
open Go.H
set_option linter.unusedVariables false
set_option linter.unusedSimpArgs false
theorem l0a : ∀ (d : Nat) {g : j0}, T0 g = true → g.2.1.toNat ≤ d + 1 → t7 (P01 d g) = none
 | 0, g, hg, hn => by
  cases e : t7 g with
  | none => exact e
  | some k => have := L0c e; omega
 | d + 1, g, hg, hn => by
  unfold P01
  cases e : t7 g with
  | none => exact e
  | some k =>
   obtain ⟨h1, h2, h3, h4⟩ := D07 hg e
   exact l0a d (M05 hg h1 h3 h4) (by show (((wo k g.2.1.toNat 0).length : Nat) : Int).toNat ≤ d + 1; omega)
theorem E0h {g : j0} (hf : K0 g = true) {v x y z : Int} (hy : y ∈ M7 v x g.2.2) (hz : z ∈ M7 v x g.2.2) : y = z := by
 obtain ⟨e, he, h1⟩ := c6.1 hy
 obtain ⟨e', he', h2⟩ := c6.1 hz
 by_cases hne : e = e'
 ·subst hne
  rcases h1 with ⟨a, b, c, rfl⟩ | ⟨a, b, c, rfl⟩ <;> rcases h2 with ⟨a', b', c', rfl⟩ | ⟨a', b', c', rfl⟩ <;> first | rfl | omega
 ·have hc := (C07 (J4 hf)).1 hf e he e' he' hne
  unfold N01 at hc
  simp only [Bool.and_eq_false_iff, Bool.or_eq_false_iff, decide_eq_false_iff_not] at hc
  rcases h1 with ⟨a, b, c, d⟩ | ⟨a, b, c, d⟩ <;> rcases h2 with ⟨a', b', c', d'⟩ | ⟨a', b', c', d'⟩ <;> first | omega | (exfalso; rcases hc with hc | ⟨hc1, hc2⟩ <;> omega)
theorem v03 (g : j0) (v x : Int) : (j1 g v x = -1 ∧ M7 v x g.2.2 = []) ∨ j1 g v x ∈ M7 v x g.2.2 := by
 unfold j1
 cases e : g00 g v x with
 | nil =>
  left
  refine ⟨rfl, List.eq_nil_iff_forall_not_mem.2 fun y hy => ?_⟩
  have : y ∈ g00 g v x := (C8 b00 y _ _).2 (.inr hy)
  rw [e] at this; cases this
 | cons a l => exact .inr (o0b (by rw [e]; exact List.mem_cons_self ..))
theorem N06 {g : j0} (hf : K0 g = true) {v x y : Int} (hy : y ∈ M7 v x g.2.2) : j1 g v x = y := by
 rcases v03 g v x with ⟨_, h⟩ | h
 ·rw [h] at hy; cases hy
 ·exact E0h hf h hy
theorem B0e : ∀ (d i j : Nat), i ≤ j → j < i + d → (j : Int) ∈ E5 d i ∧ -(j : Int) ∈ E5 d i
 | 0, i, j, h1, h2 => by omega
 | d + 1, i, j, h1, h2 => by
  simp only [E5, List.mem_cons]
  by_cases c : j = i
  ·subst c; simp
  ·obtain ⟨a, b⟩ := B0e d (i + 1) j (by omega) (by omega)
   exact ⟨.inr (.inr a), .inr (.inr b)⟩
theorem G0b (g : j0) (v : Int) : ∀ (ls u : List Int) (x : Int), x ∈ ls → 0 ≤ j1 g v x → j1 g v x ∈ e00 g v ls u
 | y :: r, u, x, hx, h0 => by
  rw [e00]
  rcases List.mem_cons.1 hx with rfl | hx
  ·obtain ⟨t, e⟩ := q00 g v r (H03 u (j1 g v x))
   rw [e]
   refine List.mem_append_left _ ?_
   unfold H03
   split
   ·exact List.mem_append_right _ (List.mem_singleton.2 rfl)
   ·rename_i h
    by_cases hm : j1 g v x ∈ u
    ·exact hm
    ·exact absurd ⟨h0, hm⟩ h
  ·exact G0b g v r _ x hx h0
theorem m0a (g : j0) (ls : List Int) : ∀ (f i : Nat) (u : List Int), ∃ t, V6 g ls f i u = u ++ t
 | 0, i, u => ⟨[], by simp [V6]⟩
 | f + 1, i, u => by
  unfold V6
  split
  ·rename_i v _
   obtain ⟨t1, e1⟩ := q00 g v ls u
   obtain ⟨t2, e2⟩ := m0a g ls f (i + 1) (e00 g v ls u)
   exact ⟨t1 ++ t2, by rw [e2, e1, List.append_assoc]⟩
  ·exact ⟨[], by simp⟩
theorem n0a {r : Int} {n : Nat} {es : List C0} (hg : inG (r, (n : Int), es)) (ls : List Int) : ∀ (f i : Nat) (u : List Int), gud n u → n + 1 ≤ f + i → i ≤ u.length →
  (∀ j, j < i → ∀ v, u[j]? = some v → ∀ x ∈ ls, 0 ≤ j1 (r, (n : Int), es) v x → j1 (r, (n : Int), es) v x ∈ u) →
  ∀ v ∈ V6 (r, (n : Int), es) ls f i u, ∀ x ∈ ls, 0 ≤ j1 (r, (n : Int), es) v x → j1 (r, (n : Int), es) v x ∈ V6 (r, (n : Int), es) ls f i u
 | 0, i, u, hu, hn, hi, hc => by have := a9 n u hu.1 hu.2; omega
 | f + 1, i, u, hu, hn, hi, hc => by
  unfold V6
  cases e : u[i]? with
  | none =>
   have : i = u.length := by have := List.getElem?_eq_none_iff.1 e; omega
   show ∀ v ∈ u, ∀ x ∈ ls, 0 ≤ j1 (r, (n : Int), es) v x → j1 (r, (n : Int), es) v x ∈ u
   intro v hv x hx h0
   obtain ⟨j, hj⟩ := List.getElem?_of_mem hv
   exact hc j (by have := (List.getElem?_eq_some_iff.1 hj).1; omega) v hj x hx h0
  | some w =>
   have hil := (List.getElem?_eq_some_iff.1 e).1
   obtain ⟨t, et⟩ := q00 (r, (n : Int), es) w ls u
   refine n0a hg ls f (i + 1) _ (u01 hg w ls u hu) (by omega) (by rw [et, List.length_append]; omega) fun j hj v hv x hx h0 => ?_
   by_cases c : j = i
   ·subst c
    rw [et, List.getElem?_append_left hil, e] at hv
    cases hv
    exact G0b _ _ ls u x hx h0
   ·rw [et, List.getElem?_append_left (by omega)] at hv
    rw [et]
    exact List.mem_append_left _ (hc j (by omega) v hv x hx h0)
theorem o0a (g : j0) : ∃ t, I4 g = 0 :: t := by
 obtain ⟨t, e⟩ := m0a g (E5 g.1.toNat 1) (g.2.1.toNat + 1) 0 [0]
 exact ⟨t, e⟩
theorem C0e {g : j0} (hf : K0 g = true) {x : Int} (h : Rch g.2.2 0 x) : x ∈ I4 g := by
 obtain ⟨q1, q2, q3, q4⟩ := M1 hf
 have hz := o0a g
 have hclo : ∀ v ∈ I4 g, ∀ x ∈ E5 g.1.toNat 1, 0 ≤ j1 g v x → j1 g v x ∈ I4 g := by
  obtain ⟨r, n, es⟩ := g
  simp only at q2 q3
  obtain ⟨N, rfl⟩ : ∃ N : Nat, n = (N : Int) := ⟨n.toNat, by omega⟩
  exact n0a q1 _ (((N : Int)).toNat + 1) 0 [0] ⟨by simp, fun x hx => by simp at hx; subst hx; omega⟩ (by simp only [Int.toNat_natCast]; omega) (Nat.zero_le _) (fun j hj => by omega)
 refine Rch.sub (P := fun x => x ∈ I4 g) ?_ (fun e he => ?_) h
 ·obtain ⟨t, e⟩ := hz
  rw [e]; exact List.mem_cons_self ..
 ·have hq := q1 e he
  obtain ⟨j, hj⟩ : ∃ j : Nat, e.2.1 = (j : Int) := ⟨e.2.1.toNat, by omega⟩
  obtain ⟨l1, l2⟩ := B0e g.1.toNat 1 j (by omega) (by omega)
  have n1 : j1 g e.1 (j : Int) = e.2.2 := N06 hf (c6.2 ⟨e, he, .inl ⟨by omega, hj, rfl, rfl⟩⟩)
  have n2 : j1 g e.2.2 (-(j : Int)) = e.1 := N06 hf (c6.2 ⟨e, he, .inr ⟨by omega, by omega, rfl, rfl⟩⟩)
  constructor
  ·intro h1
   have := hclo e.1 h1 (j : Int) l1 (by rw [n1]; omega)
   rwa [n1] at this
  ·intro h1
   have := hclo e.2.2 h1 (-(j : Int)) l2 (by rw [n2]; omega)
   rwa [n2] at this
theorem T08 {bad : Nat → Bool} : ∀ {d v : Nat}, lf bad d v = none → ∀ k, v ≤ k → k < v + d → bad k = false
 | 0, v, h, k, h1, h2 => by omega
 | d + 1, v, h, k, h1, h2 => by
  unfold lf at h
  cases hb : bad v with
  | true => rw [hb] at h; cases h
  | false =>
   rw [hb] at h
   by_cases c : k = v
   ·rw [c]; exact hb
   ·exact T08 (d := d) (v := v + 1) h k (by omega) (by omega)
theorem p0a {bad : Nat → Bool} : ∀ {d v : Nat}, (∀ k, v ≤ k → k < v + d → bad k = false) → lf bad d v = none
 | 0, v, h => rfl
 | d + 1, v, h => by
  unfold lf
  rw [h v (Nat.le_refl _) (by omega)]
  exact p0a fun k h1 h2 => h k (by omega) (by omega)
theorem F0h {g : j0} (hf : K0 g = true) (hl : t7 g = none) {x : Int} (h0 : 0 ≤ x) (h1 : x < g.2.1) : x ∈ I4 g := by
 refine C0e hf ?_
 by_cases c : x = 0
 ·subst c; exact .base
 ·have := T08 hl x.toNat (by omega) (by omega)
  unfold G06 at this
  simp only [Bool.or_eq_false_iff, Bool.not_eq_false', decide_eq_true_eq] at this
  have h3 := this.2
  rw [show ((x.toNat : Nat) : Int) = x by omega] at h3
  exact (P04 _ _ _).1 h3
theorem H0b {n : Nat} : ∀ (o : List Int) (k : Nat) (A : List Int), A.length = n → inV n o → o.Nodup → ∀ (i : Nat) (v : Int), o[i]? = some v → getI (D8 A k o) v = ((k + i : Nat) : Int)
 | [], k, A, hA, ho, hd, i, v, hi => by simp at hi
 | w :: r, k, A, hA, ho, hd, i, v, hi => by
  have hw := ho w (List.mem_cons_self ..)
  obtain ⟨hd1, hd2⟩ := List.nodup_cons.1 hd
  cases i with
  | zero =>
   simp at hi; subst hi
   rw [D8, Z09 r _ _ w (by simp [hA]) (fun u hu => ho u (List.mem_cons_of_mem _ hu)) hw.1 hd1, f01 hw.1 (by omega) hw.1, if_pos rfl]; rfl
  | succ i =>
   rw [D8, H0b r (k + 1) _ (by simp [hA]) (fun u hu => ho u (List.mem_cons_of_mem _ hu)) hd2 i v (by simpa using hi)]
   omega
theorem j0j {n : Nat} {o : List Int} (ho : inV n o) (hd : o.Nodup) {i : Nat} {v : Int} (hi : o[i]? = some v) : getI (plc n o) v = (i : Int) := by
 have := H0b o 0 (List.replicate n (-1)) (by simp) ho hd i v hi
 rw [Nat.zero_add] at this; exact this
theorem D0f (P : List Int) : ∀ (es : List C0), (∀ e ∈ es, 0 ≤ getI P e.1 ∧ 0 ≤ getI P e.2.2) → pE P es = es.map fun e => (getI P e.1, e.2.1, getI P e.2.2)
 | [], h => rfl
 | e :: r, h => by
  have h1 := h e (List.mem_cons_self ..)
  unfold pE
  rw [show (decide (0 ≤ getI P e.1) && decide (0 ≤ getI P e.2.2)) = true by simp [h1.1, h1.2], D0f P r fun e' he' => h e' (List.mem_cons_of_mem _ he')]
  rfl
theorem I0b (e : C0) : ∀ {l : List C0}, e ∉ l → (O9 O0 e l).Perm (e :: l)
 | [], _ => List.Perm.refl _
 | y :: l, h => by
  have ih := I0b e (l := l) fun hm => h (List.mem_cons_of_mem _ hm)
  unfold O9
  split
  ·exact List.Perm.refl _
  ·split
   ·rename_i c
    exact absurd (J7.eq _ _ c) fun hh => h (by rw [hh]; exact List.mem_cons_self ..)
   ·exact (List.Perm.cons y ih).trans (List.Perm.swap e y l)
theorem o08 : ∀ (r acc : List C0), (acc ++ r).Nodup → (K7 O0 acc r).Perm (acc ++ r)
 | [], acc, h => by simp [K7]
 | x :: r, acc, h => by
  have hm : (acc ++ x :: r).Perm (x :: (acc ++ r)) := List.perm_middle
  have hn := hm.nodup_iff.1 h
  have hx : x ∉ acc := fun h1 => (List.nodup_cons.1 hn).1 (List.mem_append_left _ h1)
  have hp := I0b x hx
  have hp2 : (O9 O0 x acc ++ r).Perm (x :: (acc ++ r)) := hp.append_right r
  rw [K7]
  exact ((o08 r _ (hp2.nodup_iff.2 hn)).trans hp2).trans hm.symm
theorem G0h (v : Int) {l l' : List C0} (h : l.Perm l') : B00 v l = B00 v l' := by
 induction h with
 | nil => rfl
 | cons x _ ih => simp only [B00, ih]
 | swap x y l => simp only [B00]; omega
 | trans _ _ h1 h2 => rw [h1, h2]
theorem D0e {φ : Int → Int} {v : Int} : ∀ (es : List C0), (∀ e ∈ es, (φ e.1 = φ v ↔ e.1 = v) ∧ (φ e.2.2 = φ v ↔ e.2.2 = v)) → B00 (φ v) (es.map fun e => (φ e.1, e.2.1, φ e.2.2)) = B00 v es
 | [], h => rfl
 | e :: r, h => by
  obtain ⟨h1, h2⟩ := h e (List.mem_cons_self ..)
  have ih := D0e r fun e' he' => h e' (List.mem_cons_of_mem _ he')
  simp only [List.map_cons, B00, ih, T0i]
  congr 2
  ·by_cases c : e.1 = v
   ·rw [if_pos (h1.2 c), if_pos c]
   ·rw [if_neg fun q => c (h1.1 q), if_neg c]
  ·by_cases c : e.2.2 = v
   ·rw [if_pos (h2.2 c), if_pos c]
   ·rw [if_neg fun q => c (h2.1 q), if_neg c]
theorem k0j : ∀ (m : Nat) (o : List Int), (∀ i : Nat, i < m → (i : Int) ∈ o) → m ≤ o.length
 | 0, o, h => Nat.zero_le _
 | m + 1, o, h => by
  have hm := h m (by omega)
  have h1 := k0j m (o.erase (m : Int)) fun i hi => (List.mem_erase_of_ne (by omega)).2 (h i (by omega))
  rw [List.length_erase_of_mem hm] at h1
  have := List.length_pos_of_mem hm
  omega
theorem H0h {es : List C0} (hA : Asc O0 es) : es.Nodup := by
 refine List.Pairwise.imp (fun {a b} h e => ?_) hA
 rw [e, J7.refl] at h; omega
theorem E0e {es : List C0} (hA : Asc O0 es) : K7 O0 [] es = es :=
 H09 J7 (q03 J7 _ _ .nil) hA fun x => by rw [C8 J7]; simp
theorem E0f {t : j0} (hf : K0 t = true) (hl : t7 t = none) : l4 (M2 t) = true := by
 have hg := J4 hf
 obtain ⟨q1, q2, q3, q4⟩ := M1 hf
 have hA := F0b hg
 obtain ⟨⟨hd, ho⟩, ho1⟩ := Q04 hf
 have hlen := a9 _ _ hd ho
 have hall : ∀ x : Int, 0 ≤ x → x < t.2.1 → x ∈ I4 t := fun x h0 h1 => F0h hf hl h0 h1
 obtain ⟨tl, hz⟩ := o0a t
 obtain ⟨n, hn⟩ : ∃ n : Nat, t.2.1 = (n : Int) := ⟨t.2.1.toNat, by omega⟩
 have hnt : t.2.1.toNat = n := by omega
 rw [hnt] at ho hlen
 have hol : (I4 t).length = n := by
  have := k0j n (I4 t) fun i hi => hall _ (by omega) (by omega)
  omega
 let P : Int → Int := getI (plc n (I4 t))
 have hP : ∀ (i : Nat) (v : Int), (I4 t)[i]? = some v → P v = (i : Int) := fun i v hi => j0j ho hd hi
 have hPr : ∀ x : Int, 0 ≤ x → x < t.2.1 → 0 ≤ P x ∧ P x < (n : Int) := fun x h0 h1 => by
  obtain ⟨i, hi⟩ := List.getElem?_of_mem (hall x h0 h1)
  have := (List.getElem?_eq_some_iff.1 hi).1
  rw [hP i x hi]; omega
 have hPi : ∀ x y : Int, 0 ≤ x → x < t.2.1 → 0 ≤ y → y < t.2.1 → P x = P y → x = y := fun x y h0 h1 h2 h3 h => K0c ho hd h0 h2 (hPr x h0 h1).1 h
 have hP0 : P 0 = 0 := hP 0 0 (by rw [hz]; rfl)
 have hpE : pE (plc n (I4 t)) t.2.2 = t.2.2.map fun e => (P e.1, e.2.1, P e.2.2) := D0f _ _ fun e he => by
  have := q1 e he
  exact ⟨(hPr e.1 this.1.1 this.1.2).1, (hPr e.2.2 this.2.1.1 this.2.1.2).1⟩
 have hC : M2 t = (t.1, (n : Int), K7 O0 [] (t.2.2.map fun e => (P e.1, e.2.1, P e.2.2))) := by
  unfold M2 w6
  rw [hnt, hpE, hol]
 have hinjE : ∀ e ∈ t.2.2, ∀ e' ∈ t.2.2, ((P e.1, e.2.1, P e.2.2) : C0) = (P e'.1, e'.2.1, P e'.2.2) → e = e' := fun e he e' he' h => by
  have a := q1 e he
  have b := q1 e' he'
  simp only [Prod.mk.injEq] at h
  have h1 := hPi _ _ a.1.1 a.1.2 b.1.1 b.1.2 h.1
  have h2 := hPi _ _ a.2.1.1 a.2.1.2 b.2.1.1 b.2.1.2 h.2.2
  obtain ⟨e0, e1, e2⟩ := e
  obtain ⟨f0, f1, f2⟩ := e'
  simp only at h1 h2 h
  rw [h1, h2, h.2.1]
 have hmap : (t.2.2.map fun e => ((P e.1, e.2.1, P e.2.2) : C0)).Nodup := by
  have := H0h hA
  rw [List.Nodup, List.pairwise_map]
  exact List.Pairwise.imp_of_mem (fun {a b} ha hb h e => h (hinjE a ha b hb e)) this
 have hmem : ∀ e', e' ∈ (M2 t).2.2 ↔ ∃ e ∈ t.2.2, e' = (P e.1, e.2.1, P e.2.2) := fun e' => by
  rw [hC]
  simp only
  rw [C8 J7]
  simp only [List.not_mem_nil, false_or, List.mem_map]
  exact ⟨fun ⟨e, h1, h2⟩ => ⟨e, h1, h2.symm⟩, fun ⟨e, h1, h2⟩ => ⟨e, h1, h2.symm⟩⟩
 have hcf : K0 (M2 t) = true := w04 hf (by rw [hnt]; exact ho) hd ho1 (by omega)
 have hcg := J4 hcf
 have hn1 : (M2 t).2.1 = (n : Int) := by rw [hC]
 have hdeg : ∀ v : Int, 0 ≤ v → v < t.2.1 → B00 (P v) (M2 t).2.2 = B00 v t.2.2 := fun v h0 h1 => by
  rw [hC]
  simp only
  rw [G0h _ (o08 _ [] (by simpa using hmap)), List.nil_append]
  refine D0e _ fun e he => ?_
  have := q1 e he
  exact ⟨⟨fun h => hPi _ _ this.1.1 this.1.2 h0 h1 h, fun h => by rw [h]⟩, ⟨fun h => hPi _ _ this.2.1.1 this.2.1.2 h0 h1 h, fun h => by rw [h]⟩⟩
 have hrch : ∀ x, Rch t.2.2 0 x → Rch (M2 t).2.2 0 (P x) := fun x hx =>
  Rch.sub (P := fun x => Rch (M2 t).2.2 0 (P x)) (by show Rch _ 0 (P 0); rw [hP0]; exact .base) (fun e he => Rch.closed (P e.1, e.2.1, P e.2.2) ((hmem _).2 ⟨e, he, rfl⟩)) hx
 have hleaf : t7 (M2 t) = none := by
  unfold t7
  refine p0a fun k k1 k2 => ?_
  rw [hn1, Int.toNat_natCast] at k2
  obtain ⟨v, hv⟩ : ∃ v, (I4 t)[k]? = some v := ⟨_, List.getElem?_eq_getElem (by omega)⟩
  have hvr := ho v (List.mem_of_getElem? hv)
  have hPv := hP k v hv
  have hv0 : v ≠ 0 := fun h => by rw [h, hP0] at hPv; omega
  have hb := T08 hl v.toNat (by omega) (by omega)
  unfold G06 at hb ⊢
  rw [show ((v.toNat : Nat) : Int) = v by omega] at hb
  simp only [Bool.or_eq_false_iff, Bool.not_eq_false', decide_eq_true_eq, decide_eq_false_iff_not] at hb ⊢
  refine ⟨?_, ?_⟩
  ·rw [← hPv, hdeg v hvr.1 (by omega)]; exact hb.1
  ·rw [← hPv]
   exact (P04 _ _ _).2 (hrch v ((P04 _ _ _).1 hb.2))
 have hnext : ∀ v x : Int, 0 ≤ v → v < t.2.1 → (j1 t v x = -1 ∧ j1 (M2 t) (P v) x = -1) ∨ ((0 ≤ j1 t v x ∧ j1 t v x < t.2.1) ∧ j1 (M2 t) (P v) x = P (j1 t v x)) := fun v x h0 h1 => by
  rcases v03 t v x with ⟨e1, e2⟩ | e1
  ·left
   refine ⟨e1, ?_⟩
   rcases v03 (M2 t) (P v) x with ⟨c1, c2⟩ | c1
   ·exact c1
   ·exfalso
    obtain ⟨e', he', hh⟩ := c6.1 c1
    obtain ⟨e, he, rfl⟩ := (hmem e').1 he'
    have hq := q1 e he
    have : ∃ y, y ∈ M7 v x t.2.2 := by
     rcases hh with ⟨a, b, c, _⟩ | ⟨a, b, c, _⟩
     ·exact ⟨_, c6.2 ⟨e, he, .inl ⟨a, b, hPi _ _ hq.1.1 hq.1.2 h0 h1 c, rfl⟩⟩⟩
     ·exact ⟨_, c6.2 ⟨e, he, .inr ⟨a, b, hPi _ _ hq.2.1.1 hq.2.1.2 h0 h1 c, rfl⟩⟩⟩
    obtain ⟨y, hy⟩ := this
    rw [e2] at hy; cases hy
  ·right
   generalize j1 t v x = y at e1
   obtain ⟨e, he, hh⟩ := c6.1 e1
   have hq := q1 e he
   rcases hh with ⟨a, b, c, rfl⟩ | ⟨a, b, c, rfl⟩
   ·exact ⟨hq.2.1, N06 hcf (c6.2 ⟨_, (hmem _).2 ⟨e, he, rfl⟩, .inl ⟨a, b, by show P e.1 = P v; rw [c], rfl⟩⟩)⟩
   ·exact ⟨hq.1, N06 hcf (c6.2 ⟨_, (hmem _).2 ⟨e, he, rfl⟩, .inr ⟨a, b, by show P e.2.2 = P v; rw [c], rfl⟩⟩)⟩
 have inR' : ∀ u : List Int, gud n u → ∀ x ∈ u, 0 ≤ x ∧ x < t.2.1 := fun u hu x hx => by have := hu.2 x hx; omega
 have hgt : inG (t.1, (n : Int), t.2.2) := by
  have := q1
  intro e he
  have := q1 e he
  rw [hn] at this; exact this
 have het : (t.1, (n : Int), t.2.2) = t := by
  rw [← hn]
 have hS : ∀ (u : List Int) (y z : Int), gud n u → (y = -1 ∧ z = -1) ∨ ((0 ≤ y ∧ y < t.2.1) ∧ z = P y) → H03 (u.map P) z = (H03 u y).map P := fun u y z hu h => by
  unfold H03
  rcases h with ⟨rfl, rfl⟩ | ⟨⟨h0, h1⟩, rfl⟩
  ·rw [if_neg (by omega), if_neg (by omega)]
  ·have hm : P y ∈ u.map P ↔ y ∈ u := by
    constructor
    ·intro h
     obtain ⟨x, hx, e⟩ := List.mem_map.1 h
     have := inR' u hu x hx
     rw [← hPi x y this.1 this.2 h0 h1 e]; exact hx
    ·exact fun h => List.mem_map.2 ⟨y, h, rfl⟩
   by_cases c : y ∈ u
   ·rw [if_neg fun q => q.2 (hm.2 c), if_neg fun q => q.2 c]
   ·rw [if_pos ⟨(hPr y h0 h1).1, fun q => c (hm.1 q)⟩, if_pos ⟨h0, c⟩]; simp
 have hIn : ∀ (v : Int), 0 ≤ v → v < t.2.1 → ∀ (ls u : List Int), gud n u → e00 (M2 t) (P v) ls (u.map P) = (e00 t v ls u).map P := fun v h0 h1 ls => by
  induction ls with
  | nil => intro u hu; rfl
  | cons x l ih =>
   intro u hu
   have hx : j1 t v x = -1 ∨ (0 ≤ j1 t v x ∧ j1 t v x < (n : Int)) := by
    rcases hnext v x h0 h1 with ⟨a, _⟩ | ⟨a, _⟩
    ·exact .inl a
    ·exact .inr (by omega)
   rw [e00, e00, hS u _ _ hu (hnext v x h0 h1), ih _ (I0g hu hx)]
 have hOut : ∀ (f i : Nat) (u : List Int) (ls : List Int), gud n u → V6 (M2 t) ls f i (u.map P) = (V6 t ls f i u).map P := fun f => by
  induction f with
  | zero => intro i u ls hu; rfl
  | succ f ih =>
   intro i u ls hu
   unfold V6
   rw [List.getElem?_map]
   cases e : u[i]? with
   | none => rfl
   | some v =>
    have hv := inR' u hu v (List.mem_of_getElem? e)
    have hgi : gud n (e00 t v ls u) := by
     have := u01 hgt v ls u hu
     rw [het] at this; exact this
    simp only [Option.map_some]
    rw [hIn v hv.1 hv.2 ls u hu]
    exact ih (i + 1) _ ls hgi
 have hord : I4 (M2 t) = (I4 t).map P := by
  have h1 : (M2 t).1 = t.1 := by rw [hC]
  have h2 := hOut (n + 1) 0 [0] (E5 t.1.toNat 1) ⟨by simp, fun x hx => by simp at hx; subst hx; omega⟩
  rw [List.map_cons, List.map_nil, hP0] at h2
  show V6 (M2 t) (E5 (M2 t).1.toNat 1) ((M2 t).2.1.toNat + 1) 0 [0] = (V6 t (E5 t.1.toNat 1) (t.2.1.toNat + 1) 0 [0]).map P
  rw [h1, hn1, hnt, Int.toNat_natCast]
  exact h2
 have hiota : ∀ i : Nat, i < n → (I4 (M2 t))[i]? = some (i : Int) := fun i hi => by
  rw [hord, List.getElem?_map]
  obtain ⟨v, hv⟩ : ∃ v, (I4 t)[i]? = some v := ⟨_, List.getElem?_eq_getElem (by omega)⟩
  rw [hv, Option.map_some, hP i v hv]
 obtain ⟨⟨hd2, ho2⟩, _⟩ := Q04 hcf
 rw [hn1, Int.toNat_natCast] at ho2
 have hid : ∀ x : Int, 0 ≤ x → x < (n : Int) → getI (plc n (I4 (M2 t))) x = x := fun x h0 h1 => by
  have := j0j ho2 hd2 (hiota x.toNat (by omega))
  rw [show ((x.toNat : Nat) : Int) = x by omega] at this; exact this
 have hlen2 : (I4 (M2 t)).length = n := by rw [hord, List.length_map, hol]
 have hcin := (C3 hcg).1
 have hcan : M2 (M2 t) = M2 t := by
  have hpe : pE (plc n (I4 (M2 t))) (M2 t).2.2 = (M2 t).2.2 := by
   rw [D0f _ _ fun e he => by
    have := hcin e he
    rw [hn1] at this
    exact ⟨by rw [hid _ this.1.1 this.1.2]; exact this.1.1, by rw [hid _ this.2.1.1 this.2.1.2]; exact this.2.1.1⟩]
   refine (List.map_congr_left fun e he => ?_).trans (List.map_id _)
   have := hcin e he
   rw [hn1] at this
   rw [hid _ this.1.1 this.1.2, hid _ this.2.1.1 this.2.1.2]; rfl
  show w6 (M2 t) (I4 (M2 t)) = M2 t
  unfold w6
  rw [hn1, Int.toNat_natCast, hpe, E0e (F0b hcg), hlen2]
  rw [← hn1]
 unfold l4
 rw [hcf, hleaf, hcan]
 simp [k08]
theorem I0h {g : j0} (hf : K0 g = true) : l4 (E07 g) = true := by
 have hg := J4 hf
 have := (C3 hg).2.2.1
 exact E0f (q01 40 hf) (l0a 40 hg (by omega))
end Go.Proofs.YtknoadmdnjaocaaGreat
namespace Go.Proofs.YtknoadmdnjaocaaGreat
open Go.H
set_option linter.unusedVariables false
set_option linter.unusedSimpArgs false
def g08 (g : j0) (w : List Int) : Bool := decide ((j08 g 0 w).2 = w.length) && decide ((j08 g 0 w).1 = 0)
end Go.Proofs.YtknoadmdnjaocaaGreat
namespace Go.Proofs.YtknoadmdnjaocaaGreat
open Go.H
set_option linter.unusedVariables false
set_option linter.unusedSimpArgs false
def rdw (g : j0) : Int → List Int → Option Int
 | v, [] => some v
 | v, x :: w => if j1 g v x < 0 then none else rdw g (j1 g v x) w
theorem J0b (g : j0) : ∀ (w : List Int) (v u : Int), rdw g v w = some u ↔ ((j08 g v w).2 = w.length ∧ (j08 g v w).1 = u)
 | [], v, u => by simp [rdw, j08]
 | x :: w, v, u => by
  have ih := J0b g w (j1 g v x) u
  unfold rdw j08
  by_cases c : j1 g v x < 0
  ·rw [if_pos c, if_pos c]; simp
  ·rw [if_neg c, if_neg c, ih]; simp
theorem J0h (g : j0) (w : List Int) : g08 g w = true ↔ rdw g 0 w = some 0 := by
 unfold g08
 rw [J0b]; simp
theorem K0h {g : j0} (hf : K0 g = true) {v x u : Int} (h : j1 g v x = u) (h0 : 0 ≤ u) : j1 g u (-x) = v := by
 rcases v03 g v x with ⟨e, _⟩ | e
 ·omega
 ·rw [h] at e
  obtain ⟨d, hd, h1⟩ := c6.1 e
  refine N06 hf (c6.2 ⟨d, hd, ?_⟩)
  rcases h1 with ⟨a, b, c, rfl⟩ | ⟨a, b, c, rfl⟩
  ·exact .inr ⟨by omega, by omega, rfl, c.symm⟩
  ·exact .inl ⟨by omega, b, rfl, c.symm⟩
structure Mor (a b : j0) (f : Int → Int) : Prop where
 base : f 0 = 0
 rng : ∀ v, 0 ≤ v → v < a.2.1 → 0 ≤ f v ∧ f v < b.2.1
 step : ∀ v x, 0 ≤ v → v < a.2.1 → 0 ≤ j1 a v x → j1 b (f v) x = f (j1 a v x)
theorem Mor.rdw {a b : j0} {f : Int → Int} (m : Mor a b f) (ha : inG a) : ∀ (w : List Int) (v u : Int), 0 ≤ v → v < a.2.1 → rdw a v w = some u → rdw b (f v) w = some (f u)
 | [], v, u, h0, h1, h => by
  simp only [Go.Proofs.YtknoadmdnjaocaaGreat.rdw, Option.some.injEq] at h ⊢
  rw [h]
 | x :: w, v, u, h0, h1, h => by
  unfold Go.Proofs.YtknoadmdnjaocaaGreat.rdw at h ⊢
  by_cases c : j1 a v x < 0
  ·rw [if_pos c] at h; cases h
  ·rw [if_neg c] at h
   have hs := m.step v x h0 h1 (by omega)
   have hr : 0 ≤ j1 a v x ∧ j1 a v x < a.2.1 := by
    rcases m02 ha v x with e | e
    ·omega
    ·exact e
   have hb := m.rng _ hr.1 hr.2
   rw [hs, if_neg (by omega)]
   exact Mor.rdw m ha w _ u hr.1 hr.2 h
theorem Mor.loop {a b : j0} {f : Int → Int} (m : Mor a b f) (ha : K0 a = true) {w : List Int} (h : g08 a w = true) : g08 b w = true := by
 obtain ⟨q1, q2, q3, q4⟩ := M1 ha
 rw [J0h] at h ⊢
 have := m.rdw q1 w 0 0 (Int.le_refl _) (by omega) h
 rwa [m.base] at this
end Go.Proofs.YtknoadmdnjaocaaGreat
namespace Go.Proofs.YtknoadmdnjaocaaGreat
open Go.H
set_option linter.unusedVariables false
set_option linter.unusedSimpArgs false
abbrev Im := List Int × List Int
end Go.Proofs.YtknoadmdnjaocaaGreat
namespace Go.Proofs.YtknoadmdnjaocaaGreat
open Go.H
set_option linter.unusedVariables false
set_option linter.unusedSimpArgs false
def F0f (s s' : Im) : Prop := (∃ t, s'.2 = s.2 ++ t) ∧ ∀ v ∈ s.2, getI s'.1 v = getI s.1 v
theorem F0f.refl (s : Im) : F0f s s := ⟨⟨[], by simp⟩, fun _ _ => rfl⟩
theorem F0f.trans {s s' s'' : Im} (h : F0f s s') (h' : F0f s' s'') : F0f s s'' := by
 obtain ⟨⟨t, e⟩, f⟩ := h
 obtain ⟨⟨t', e'⟩, f'⟩ := h'
 exact ⟨⟨t ++ t', by rw [e', e, List.append_assoc]⟩, fun v hv => (f' v (by rw [e]; exact List.mem_append_left _ hv)).trans (f v hv)⟩
def f0l (a b : j0) (v x : Int) (s : Im) : Prop := 0 ≤ j1 a v x → j1 a v x ∈ s.2 ∧ j1 b (getI s.1 v) x = getI s.1 (j1 a v x)
theorem f0l.le {a b : j0} {v x : Int} {s s' : Im} (hv : v ∈ s.2) (h : f0l a b v x s) (l : F0f s s') : f0l a b v x s' := fun h0 => by
 obtain ⟨h1, h2⟩ := h h0
 obtain ⟨⟨t, e⟩, f⟩ := l
 exact ⟨by rw [e]; exact List.mem_append_left _ h1, by rw [f v hv, f _ h1]; exact h2⟩
theorem L0h {g : j0} (h : l4 g = true) : t7 g = none := by
 unfold l4 at h
 simp only [Bool.and_eq_true, Option.isNone_iff_eq_none] at h
 exact h.2.1
theorem G0f {g : j0} (h : l4 g = true) {x : Int} (h0 : 0 ≤ x) (h1 : x < g.2.1) : Rch g.2.2 0 x := by
 by_cases c : x = 0
 ·subst c; exact .base
 ·have := T08 (L0h h) x.toNat (by omega) (by omega)
  unfold G06 at this
  simp only [Bool.or_eq_false_iff, Bool.not_eq_false', decide_eq_true_eq] at this
  have h3 := this.2
  rw [show ((x.toNat : Nat) : Int) = x by omega] at h3
  exact (P04 _ _ _).1 h3
end Go.Proofs.YtknoadmdnjaocaaGreat
namespace Go.Proofs.YtknoadmdnjaocaaGreat
open Go.H
set_option linter.unusedVariables false
set_option linter.unusedSimpArgs false
abbrev Tr8 := List (Option (List Int)) × List Int
def trS (g : j0) (v x : Int) (s : Tr8) : Tr8 := if 0 ≤ j1 g v x ∧ j1 g v x ∉ s.2 then (s.1.set (j1 g v x).toNat (some ((A6 s.1 v).getD [] ++ [x])), s.2 ++ [j1 g v x]) else s
def v08 (g : j0) (v : Int) : List Int → Tr8 → Tr8
 | [], s => s
 | x :: r, s => v08 g v r (trS g v x s)
def n02 (g : j0) (ls : List Int) : Nat → Nat → Tr8 → Tr8
 | 0, i, s => s
 | f + 1, i, s => match s.2[i]? with
  | some v => n02 g ls f (i + 1) (v08 g v ls s)
  | none => s
def K0b (g : j0) (p : Int) : List Int := V6 g (E5 g.1.toNat 1) (g.2.1.toNat + 1) 0 [p]
def Q01 (g : j0) (p : Int) : Tr8 := n02 g (E5 g.1.toNat 1) (g.2.1.toNat + 1) 0 ((List.replicate g.2.1.toNat none).set p.toNat (some []), [p])
theorem Q0g (g : j0) (v x : Int) (s : Tr8) : (trS g v x s).2 = H03 s.2 (j1 g v x) := by
 unfold trS H03
 split <;> rfl
theorem q0a (g : j0) (v : Int) : ∀ (ls : List Int) (s : Tr8), (v08 g v ls s).2 = e00 g v ls s.2
 | [], s => rfl
 | x :: r, s => by rw [v08, q0a g v r, Q0g]; rfl
theorem L0b (g : j0) (ls : List Int) : ∀ (f i : Nat) (s : Tr8), (n02 g ls f i s).2 = V6 g ls f i s.2
 | 0, i, s => rfl
 | f + 1, i, s => by
  unfold n02 V6
  cases s.2[i]? with
  | none => rfl
  | some v => simp only [L0b g ls f, q0a]
theorem m0j (g : j0) (p : Int) : (Q01 g p).2 = K0b g p := L0b _ _ _ _ _
structure TOk (g : j0) (p : Int) (n : Nat) (s : Tr8) : Prop where
 ok : WOk n s.1 s.2
 gd : gud n s.2
 base : p ∈ s.2
 word : A6 s.1 p = some []
 par : ∀ y ∈ s.2, y ≠ p → ∃ v ∈ s.2, ∃ x, x ∈ E5 g.1.toNat 1 ∧ j1 g v x = y ∧ ∃ a, A6 s.1 v = some a ∧ A6 s.1 y = some (a ++ [x])
 red : ∀ y ∈ s.2, ∀ a, A6 s.1 y = some a → Red a.reverse = true
theorem WOk.add {n : Nat} {W : List (Option (List Int))} {u : List Int} (hw : WOk n W u) {y : Int} (c1 : 0 ≤ y) (hy : y < (n : Int)) (v x : Int) : WOk n (W.set y.toNat (some ((A6 W v).getD [] ++ [x]))) (u ++ [y]) := by
 have hs := hw.short v
 refine ⟨by simp [hw.len], fun z h0 h1 => ?_, fun z => ?_⟩
 ·rw [H8 c1 (by have := hw.len; omega) h0]
  by_cases c : z = y
  ·rw [if_pos c]; simp [c]
  ·rw [if_neg c, hw.iff z h0 h1]; simp [c]
 ·by_cases hz : 0 ≤ z
  ·rw [H8 c1 (by have := hw.len; omega) hz]
   by_cases c : z = y
   ·rw [if_pos c]; simp; exact hs
   ·rw [if_neg c]; have := hw.short z; simp only [List.length_append]; omega
  ·have hz0 : A6 (W.set y.toNat (some ((A6 W v).getD [] ++ [x]))) z = A6 (W.set y.toNat (some ((A6 W v).getD [] ++ [x]))) 0 := by
    unfold A6; rw [show z.toNat = (0 : Int).toNat by omega]
   rw [hz0, H8 c1 (by have := hw.len; omega) (Int.le_refl 0)]
   by_cases c : (0 : Int) = y
   ·rw [if_pos c]; simp; exact hs
   ·rw [if_neg c]; have := hw.short 0; simp only [List.length_append]; omega
theorem WOk.get {n : Nat} {W : List (Option (List Int))} {u : List Int} (hw : WOk n W u) {v : Int} (h0 : 0 ≤ v) (h1 : v < (n : Int)) (hv : v ∈ u) : ∃ a, A6 W v = some a := by
 cases e : A6 W v with
 | none => exact absurd hv ((hw.iff v h0 h1).1 (by rw [e]; rfl))
 | some a => exact ⟨a, rfl⟩
theorem F07 {R : Nat} (hR : R ≤ 900) {x : Int} (hx : x ∈ E5 R 1) : Y9 x ∧ x ≠ 0 ∧ -(R : Int) ≤ x ∧ x ≤ (R : Int) := by
 obtain ⟨j, k1, k2, k3⟩ := L06 _ _ _ hx
 exact ⟨⟨⟨by omega, by omega⟩, by omega⟩, by omega, by omega, by omega⟩
theorem n0j {l x : Int} (hl : Y9 l) (h : l0j l x = true) : x = -l := by
 unfold l0j at h
 simp only [Bool.and_eq_true, beq_iff_eq] at h
 rw [h.2]; exact Q0i hl.1 hl.2
theorem TOk.add {g : j0} (hf : K0 g = true) {p : Int} {n : Nat} (hn : g.2.1 = (n : Int)) {s : Tr8} (h : TOk g p n s) {v x : Int} (hv : v ∈ s.2) (hx : x ∈ E5 g.1.toNat 1) : TOk g p n (trS g v x s) := by
 obtain ⟨q1, q2, q3, q4⟩ := M1 hf
 unfold trS
 split
 ·rename_i c
  obtain ⟨c1, c2⟩ := c
  have hyr : j1 g v x < (n : Int) := by
   rcases m02 q1 v x with e | e <;> omega
  obtain ⟨W, u⟩ := s
  obtain ⟨ok, gd, base, word, par, red⟩ := h
  simp only at hv c1 c2 ok gd base word par red ⊢
  have hvr := gd.2 v hv
  obtain ⟨a, ha⟩ := ok.get hvr.1 hvr.2 hv
  have hlen := ok.len
  have keep : ∀ z ∈ u, A6 (W.set (j1 g v x).toNat (some ((A6 W v).getD [] ++ [x]))) z = A6 W z := fun z hz => by
   have := gd.2 z hz
   rw [H8 c1 (by omega) this.1, if_neg fun (e : z = j1 g v x) => c2 (by rw [← e]; exact hz)]
  have new : A6 (W.set (j1 g v x).toNat (some ((A6 W v).getD [] ++ [x]))) (j1 g v x) = some (a ++ [x]) := by
   rw [H8 c1 (by omega) c1, if_pos rfl, ha]; rfl
  refine ⟨ok.add c1 hyr v x, ⟨List.nodup_append.2 ⟨gd.1, by simp, fun a ha b hb => ?_⟩, fun y hy => ?_⟩, List.mem_append_left _ base, ?_, fun y hy hyp => ?_, fun y hy b hb => ?_⟩
  ·simp at hb; subst hb; exact fun e => c2 (e ▸ ha)
  ·rcases List.mem_append.1 hy with hy | hy
   ·exact gd.2 y hy
   ·simp at hy; subst hy; omega
  ·rw [keep p base]; exact word
  ·rcases List.mem_append.1 hy with hy | hy
   ·obtain ⟨v', hv', x', hx', e1, b, e2, e3⟩ := par y hy hyp
    exact ⟨v', List.mem_append_left _ hv', x', hx', e1, b, by rw [keep v' hv']; exact e2, by rw [keep y hy]; exact e3⟩
   ·simp at hy; subst hy
    exact ⟨v, List.mem_append_left _ hv, x, hx, rfl, a, by rw [keep v hv]; exact ha, new⟩
  ·rcases List.mem_append.1 hy with hy | hy
   ·rw [keep y hy] at hb; exact red y hy b hb
   ·simp at hy; subst hy
    rw [new] at hb; cases hb
    have hra := red v hv a ha
    rw [List.reverse_append]
    show Red (x :: a.reverse) = true
    cases e : a.reverse with
    | nil => rfl
    | cons l t =>
     rw [e] at hra
     unfold Red
     rw [hra, Bool.and_true]
     cases hc : l0j l x with
     | false => rfl
     | true =>
      exfalso
      have hvp : v ≠ p := fun e2 => by
       subst e2
       rw [word] at ha; cases ha; simp at e
      obtain ⟨v', hv', x', hx', e1, b, e2, e3⟩ := par v hv hvp
      rw [ha] at e3
      injection e3 with e3
      rw [e3, List.reverse_append] at e
      simp only [List.reverse_cons, List.reverse_nil, List.nil_append, List.cons_append, List.cons.injEq] at e
      rw [← e.1] at hc
      have := n0j (F07 (by omega) hx').1 hc
      have hb := K0h hf e1 hvr.1
      rw [← this] at hb
      exact c2 (hb ▸ hv')
 ·exact h
theorem M0c (g : j0) (v x : Int) (s : Tr8) : ∃ t, (trS g v x s).2 = s.2 ++ t := by rw [Q0g]; exact a0a _ _
theorem F0e (g : j0) (v : Int) (ls : List Int) (s : Tr8) : ∃ t, (v08 g v ls s).2 = s.2 ++ t := by rw [q0a]; exact q00 _ _ _ _
theorem TOk.inn {g : j0} (hf : K0 g = true) {p : Int} {n : Nat} (hn : g.2.1 = (n : Int)) {v : Int} : ∀ (ls : List Int) {s : Tr8}, TOk g p n s → v ∈ s.2 → (∀ x ∈ ls, x ∈ E5 g.1.toNat 1) → TOk g p n (v08 g v ls s)
 | [], s, h, hv, hl => h
 | x :: r, s, h, hv, hl => by
  obtain ⟨t, e⟩ := M0c g v x s
  exact TOk.inn hf hn r (h.add hf hn hv (hl x (List.mem_cons_self ..))) (by rw [e]; exact List.mem_append_left _ hv) fun y hy => hl y (List.mem_cons_of_mem _ hy)
theorem TOk.out {g : j0} (hf : K0 g = true) {p : Int} {n : Nat} (hn : g.2.1 = (n : Int)) : ∀ (f i : Nat) {s : Tr8}, TOk g p n s → TOk g p n (n02 g (E5 g.1.toNat 1) f i s)
 | 0, i, s, h => h
 | f + 1, i, s, h => by
  unfold n02
  cases e : s.2[i]? with
  | none => exact h
  | some v => exact TOk.out hf hn f (i + 1) (h.inn hf hn _ (List.mem_of_getElem? e) fun x hx => hx)
theorem o0j (N : Nat) (x : Int) : A6 (List.replicate N (none : Option (List Int))) x = none := by
 unfold A6
 rw [List.getD_eq_getElem?_getD, List.getElem?_replicate]; split <;> rfl
theorem G07 (g : j0) {p : Int} {N : Nat} (hp : 0 ≤ p ∧ p < (N : Int)) : TOk g p N ((List.replicate N none).set p.toNat (some []), [p]) := by
 have hset : ∀ x, 0 ≤ x → A6 ((List.replicate N (none : Option (List Int))).set p.toNat (some [])) x = if x = p then some [] else none := fun x h0 => by
  rw [H8 hp.1 (by simp; omega) h0, o0j]
 refine ⟨⟨by simp, fun x h0 h1 => ?_, fun x => ?_⟩, ⟨by simp, fun x hx => by simp at hx; subst hx; exact hp⟩, by simp, ?_, fun y hy h => ?_, fun y hy a ha => ?_⟩
 ·simp only
  rw [hset x h0]
  by_cases c : x = p
  ·rw [if_pos c]; simp [c]
  ·rw [if_neg c]; simp [c]
 ·have : ∀ x, 0 ≤ x → ((A6 ((List.replicate N (none : Option (List Int))).set p.toNat (some [])) x).getD []).length ≤ 1 := fun x h0 => by
   rw [hset x h0]; split <;> simp
  by_cases hz : 0 ≤ x
  ·exact this x hz
  ·have e : A6 ((List.replicate N (none : Option (List Int))).set p.toNat (some [])) x = A6 ((List.replicate N (none : Option (List Int))).set p.toNat (some [])) 0 := by
    unfold A6; rw [show x.toNat = (0 : Int).toNat by omega]
   simp only
   rw [e]; exact this 0 (Int.le_refl 0)
 ·simp only
  rw [hset p hp.1, if_pos rfl]
 ·simp at hy; exact absurd hy h
 ·simp at hy; subst hy
  simp only at ha
  rw [hset y hp.1, if_pos rfl] at ha
  cases ha; rfl
theorem N0c {g : j0} (hf : K0 g = true) {p : Int} (hp : 0 ≤ p ∧ p < g.2.1) : TOk g p g.2.1.toNat (Q01 g p) := by
 obtain ⟨q1, q2, q3, q4⟩ := M1 hf
 exact TOk.out hf (by omega) _ _ (G07 g ⟨hp.1, by omega⟩)
theorem A0k {g : j0} (hf : K0 g = true) (p : Int) {n : Nat} (hn : g.2.1 = (n : Int)) (ls : List Int) (hls : ∀ x ∈ ls, x ∈ E5 g.1.toNat 1) (hl : ls.length ≤ 1000000) (v : Int) : ∀ (d k fuel : Nat) (s : Tr8), TOk g p n s → v ∈ s.2 → k + d = ls.length → d < fuel →
  Q1 ls g.1 g.2.1 g.2.2 v fuel (k : Int) s.1 s.2 = some (v08 g v (ls.drop k) s)
 | d, k, 0, s, hs, hv, hd, hf => by omega
 | 0, k, fuel + 1, s, hs, hv, hd, hf => by
  rw [Q1.eq_2, if_neg (by simp; omega), C2 (by omega)]; rfl
 | d + 1, k, fuel + 1, s, hs, hv, hd, hfu => by
  obtain ⟨q1, q2, q3, q4⟩ := M1 hf
  have hk : k < ls.length := by omega
  have hx := R7 hk
  have hxl := hls _ (List.mem_of_getElem? hx)
  have hdr := V2 hx
  generalize ls[k] = x at hx hxl hdr
  have hxm := (F07 (by omega) hxl).1
  have hlen := a9 n s.2 hs.gd.1 hs.gd.2
  have hnx := m02 q1 v x
  have hsn := hs.add hf hn hv hxl
  obtain ⟨t, et⟩ := M0c g v x s
  have ih := A0k hf p hn ls hls hl v d (k + 1) fuel (trS g v x s) hsn (by rw [et]; exact List.mem_append_left _ hv) (by omega) (by omega)
  have hw := hs.ok
  have hvr := hs.gd.2 v hv
  rw [Q1.eq_2, if_pos (by simp; omega), hdr, v08, ← ih]
  simp only [H4 hx, Option.bind_some, show (g.1, g.2.1, g.2.2) = g from rfl, I05 g v x hxm (by omega), H0 (N04 q1 q3.2 v x), D2 hk (show ls.length ≤ 9223372036854775807 by omega)]
  unfold trS
  generalize j1 g v x = y at *
  by_cases c1 : 0 ≤ y
  ·have hy : y < (n : Int) := by omega
   simp only [show decide (y ≥ 0) = true by simpa using c1, U1, giO hw.len c1 hy, Option.bind_some, cond_true]
   by_cases c2 : y ∈ s.2
   ·have : ¬ ((A6 s.1 y).isNone = true) := fun h => (hw.iff y c1 hy).1 h c2
    rw [if_neg this, if_neg fun h => h.2 c2]
   ·have : (A6 s.1 y).isNone = true := (hw.iff y c1 hy).2 c2
    have hsh := hw.short v
    rw [if_pos this, if_pos ⟨c1, c2⟩, giO hw.len hvr.1 hvr.2, Option.bind_some, L0g (by omega), Option.bind_some, H0 (by simp; omega), Option.bind_some, H0 (by simp; omega), Option.bind_some]
  ·simp only [show decide (y ≥ 0) = false by simpa using c1, F4, Option.bind_some, cond_false]
   rw [if_neg (by simp), if_neg fun h => c1 h.1]
theorem B0k {g : j0} (hf : K0 g = true) (p : Int) {n : Nat} (hn : g.2.1 = (n : Int)) : ∀ (f i fuel : Nat) (s : Tr8), TOk g p n s → i ≤ s.2.length → n + 1 ≤ i + f → f < fuel →
  Y2 g.1 g.2.1 g.2.2 fuel (i : Int) s.1 s.2 = some (n02 g (E5 g.1.toNat 1) f i s)
 | f, i, 0, s, hs, hi, hd, hf => by omega
 | 0, i, fuel + 1, s, hs, hi, hd, hf => by have := a9 n s.2 hs.gd.1 hs.gd.2; omega
 | f + 1, i, fuel + 1, s, hs, hi, hd, hfu => by
  obtain ⟨q1, q2, q3, q4⟩ := M1 hf
  have hlen := a9 n s.2 hs.gd.1 hs.gd.2
  rw [Y2.eq_2, Option.bind_some, H0 (by omega), Option.bind_some]
  by_cases hk : i < s.2.length
  ·have hx := R7 hk
   generalize s.2[i] = v at hx
   have hv := List.mem_of_getElem? hx
   have h0 := A0k hf p hn (E5 g.1.toNat 1) (fun x hx => hx) (by rw [B9]; omega) v (E5 g.1.toNat 1).length 0 U0 s hs hv (by omega) (C1 (by rw [B9]; omega))
   rw [show ((0 : Nat) : Int) = 0 from rfl, List.drop_zero] at h0
   obtain ⟨t, e⟩ := F0e g v (E5 g.1.toNat 1) s
   have ih := B0k hf p hn f (i + 1) fuel _ (hs.inn hf hn _ hv fun x hx => hx) (by rw [e, List.length_append]; omega) (by omega) (by omega)
   have hm : Z5 g.1 = some (E5 g.1.toNat 1) := by
    have := v0f g.1.toNat (by omega)
    rwa [show ((g.1.toNat : Nat) : Int) = g.1 by omega] at this
   rw [if_pos (by simpa using hk), H4 hx, Option.bind_some, hm, Option.bind_some, h0, Option.bind_some]
   simp only [D2 hk (show s.2.length ≤ 9223372036854775807 by omega), n02, hx]
   exact ih
  ·have hx : s.2[i]? = none := List.getElem?_eq_none (by omega)
   rw [if_neg (by simpa using hk)]
   simp only [n02, hx]
end Go.Proofs.YtknoadmdnjaocaaGreat
namespace Go.Proofs.YtknoadmdnjaocaaGreat
open Go.H
set_option linter.unusedVariables false
set_option linter.unusedSimpArgs false
theorem M0b (g : j0) : ∀ d k, (m05 g d k).length ≤ d * (E5 g.1.toNat 1).length
 | 0, k => Nat.zero_le _
 | d + 1, k => by
  have h1 := R04 g (k : Int) (E5 g.1.toNat 1)
  have h2 := M0b g d (k + 1)
  rw [m05, List.length_append, Nat.succ_mul]
  omega
theorem p08 {g : j0} (hf : K0 g = true) : (l8 g).length ≤ 1000 := by
 obtain ⟨q1, q2, q3, q4⟩ := M1 hf
 have h := M0b g g.2.1.toNat 0
 rw [B9] at h
 unfold l8
 have h2 : g.2.1.toNat * (2 * g.1.toNat) ≤ 40 * (2 * 3) := Nat.mul_le_mul (by omega) (by omega)
 omega
def g9 (g : j0) : Bool := l4 g && decide ((l8 g).length = 0)
theorem d0k (n : Nat) : decide (((n : Nat) : Int) = 0) = decide (n = 0) := by
 by_cases c : n = 0
 ·rw [decide_eq_true c, decide_eq_true (by omega)]
 ·rw [decide_eq_false c, decide_eq_false (by omega)]
theorem Y8 {g : j0} (h : l4 g = true) : K0 g = true := by
 unfold l4 at h
 simp only [Bool.and_eq_true] at h
 exact h.1
theorem x04 (g : j0) (hl : g.2.2.length ≤ 140737488355328) : Q5 g = some (g9 g) := by
 have h1 := I06 g hl
 have h2 : l4 g = true → l6 g = some (l8 g) := fun c => K0a (Y8 c)
 have h3 : l4 g = true → (l8 g).length ≤ 1000 := fun c => p08 (Y8 c)
 unfold g9
 obtain ⟨a, b, c⟩ := g
 unfold Q5 i7
 simp only [h1, Option.bind_some]
 cases e : l4 (a, b, c) with
 | false => rfl
 | true =>
  have := h3 e
  simp only [U1, h2 e, Option.bind_some, cond_true, Bool.true_and]
  rw [H0 (by omega), Option.bind_some, d0k]
theorem q08 (g : j0) (hl : g.2.2.length ≤ 140737488355328) : R5 g = some (g9 g) := by
 have h1 := H06 g hl
 have h2 : l4 g = true → o6 g = some (l8 g) := fun c => L0a (Y8 c)
 have h3 : l4 g = true → (l8 g).length ≤ 1000 := fun c => p08 (Y8 c)
 unfold g9
 obtain ⟨a, b, c⟩ := g
 unfold R5
 simp only [h1, Option.bind_some]
 cases e : l4 (a, b, c) with
 | false => rfl
 | true =>
  have := h3 e
  simp only [U1, h2 e, Option.bind_some, cond_true, Bool.true_and]
  rw [H0 (by omega), Option.bind_some, d0k]
theorem O06 {g : j0} (h : g9 g = true) : l4 g = true := by
 unfold g9 at h
 simp only [Bool.and_eq_true] at h
 exact h.1
def E03 (g : j0) (v : Int) : List Int := v :: wo v.toNat g.2.1.toNat 0
def w02 (g : j0) (v : Int) : j0 := E07 (w6 g (E03 g v))
theorem p0j (g : Nat) : ∀ (d k : Nat), (g : Int) ∉ wo g d k
 | 0, k, h => nomatch h
 | d + 1, k, h => by
  unfold wo at h
  split at h
  ·exact p0j g d (k + 1) h
  ·rcases List.mem_cons.1 h with h | h
   ·omega
   ·exact p0j g d (k + 1) h
theorem r0a {g : j0} (hf : K0 g = true) {v : Int} (hv : 0 ≤ v ∧ v < g.2.1) : inV g.2.1.toNat (E03 g v) ∧ (E03 g v).Nodup ∧ (E03 g v).length = g.2.1.toNat := by
 obtain ⟨q1, q2, q3, q4⟩ := M1 hf
 refine ⟨fun x hx => ?_, ?_, ?_⟩
 ·rcases List.mem_cons.1 hx with rfl | hx
  ·omega
  ·exact h0e _ _ _ _ (by omega) x hx
 ·refine List.nodup_cons.2 ⟨fun h => ?_, v04 _ _ _⟩
  have := p0j v.toNat g.2.1.toNat 0
  rw [show ((v.toNat : Nat) : Int) = v by omega] at this
  exact this h
 ·unfold E03
  rw [List.length_cons, e0a, if_pos (by omega)]
  omega
theorem H07 {g : j0} (hf : K0 g = true) {v : Int} (hv : 0 ≤ v ∧ v < g.2.1) : K0 (w6 g (E03 g v)) = true := by
 obtain ⟨q1, q2, q3, q4⟩ := M1 hf
 obtain ⟨h1, h2, h3⟩ := r0a hf hv
 exact w04 hf h1 h2 (by omega) (by omega)
theorem N0b {g : j0} (hf : K0 g = true) {v : Int} (hv : 0 ≤ v ∧ v < g.2.1) : l4 (w02 g v) = true := I0h (H07 hf hv)
theorem q0j (n : Nat) (v : Int) (h0 : 0 ≤ v) (hn : n ≤ 1000) : ∀ (d k fuel : Nat) (acc : List Int), k + d = n → d < fuel → acc.length ≤ k + 1 →
  N3 (n : Int) v fuel (k : Int) acc = some (acc ++ wo v.toNat d k)
 | d, k, 0, acc, hd, hf, ha => by omega
 | 0, k, fuel + 1, acc, hd, hf, ha => by
  rw [N3.eq_2, if_neg (by simp only [decide_eq_true_eq]; omega)]; simp [wo]
 | d + 1, k, fuel + 1, acc, hd, hf, ha => by
  have ih := fun acc' h => q0j n v h0 hn d (k + 1) fuel acc' (by omega) (by omega) h
  rw [N3.eq_2, if_pos (by simp only [decide_eq_true_eq]; omega), D2 (show k < 10000 by omega) (by omega)]
  unfold wo
  by_cases c : k = v.toNat
  ·have e : decide ((k : Int) = v) = true := decide_eq_true (by omega)
   rw [e, if_neg (by simp), if_pos c, ih _ (by omega)]
  ·have e : decide ((k : Int) = v) = false := decide_eq_false (by omega)
   rw [e, if_pos (show (!false) = true from rfl), if_neg c, H0 (by simp; omega), Option.bind_some, ih _ (by simp; omega)]
   simp
theorem C0k (n : Nat) (v : Int) : ∀ (fuel : Nat) (k : Int) (acc : List Int), n5 (n : Int) v fuel k acc = N3 (n : Int) v fuel k acc
 | 0, k, acc => rfl
 | fuel + 1, k, acc => by
  rw [n5.eq_2, N3.eq_2]
  simp only [C0k n v fuel]
theorem H0f {g : j0} (hf : K0 g = true) {v : Int} (hv : 0 ≤ v ∧ v < g.2.1) : K8 g v = some (w02 g v, true) := by
 obtain ⟨q1, q2, q3, q4⟩ := M1 hf
 obtain ⟨h1, h2, h3⟩ := r0a hf hv
 have hfd := A9 g (by omega)
 rw [hf] at hfd
 have hL := q0j g.2.1.toNat v hv.1 (by omega) g.2.1.toNat 0 U0 [v] (by omega) (C1 (by omega)) (by simp)
 have hc := B0f (H07 hf hv)
 have hr := L05 g.1 g.2.1.toNat g.2.2 (E03 g v) (by rw [show ((g.2.1.toNat : Nat) : Int) = g.2.1 by omega]; exact J4 hf) h1 h2 (by omega) (by omega)
 rw [show ((0 : Nat) : Int) = 0 from rfl] at hL
 rw [show ((g.2.1.toNat : Nat) : Int) = g.2.1 by omega] at hL hr
 rw [show [v] ++ wo v.toNat g.2.1.toNat 0 = E03 g v from rfl] at hL
 rw [show (g.1, g.2.1, g.2.2) = g from rfl] at hr
 unfold w02
 generalize E03 g v = o at *
 generalize hpt : w6 g o = q at *
 obtain ⟨a, b, c⟩ := g
 obtain ⟨qa, qb, qc⟩ := q
 simp only at hL hv q3 ⊢
 unfold K8
 simp only [hfd, Option.bind_some, Bool.not_true, Bool.not_false, U1, u02, cond_false]
 rw [w64 (by omega) (by omega), show inR 0 (b - 1) v = true by simp [inR]; omega]
 simp only [Bool.not_true, Bool.false_eq_true, if_false, hL, Option.bind_some, hr, hc]
theorem I0f {g : j0} (hf : K0 g = true) {v : Int} (hv : 0 ≤ v ∧ v < g.2.1) : L8 g v = some (w02 g v, true) := by
 obtain ⟨q1, q2, q3, q4⟩ := M1 hf
 obtain ⟨h1, h2, h3⟩ := r0a hf hv
 have hfd := j8 g (by omega)
 rw [hf] at hfd
 have hh := y0l (J4 hf) hv
 have hL := q0j g.2.1.toNat v hv.1 (by omega) g.2.1.toNat 0 U0 [v] (by omega) (C1 (by omega)) (by simp)
 rw [← C0k] at hL
 have hc := C0f (H07 hf hv)
 have hr := D0c g.1 g.2.1.toNat g.2.2 (E03 g v) (fun e he => by have := q1 e he; omega) h1 (by omega) (by omega) (by omega)
 rw [show ((0 : Nat) : Int) = 0 from rfl] at hL
 rw [show ((g.2.1.toNat : Nat) : Int) = g.2.1 by omega] at hL hr
 rw [show [v] ++ wo v.toNat g.2.1.toNat 0 = E03 g v from rfl] at hL
 rw [show (g.1, g.2.1, g.2.2) = g from rfl] at hr
 unfold w02
 generalize E03 g v = o at *
 generalize hpt : w6 g o = q at *
 obtain ⟨a, b, c⟩ := g
 obtain ⟨qa, qb, qc⟩ := q
 simp only at hL hv q3 ⊢
 unfold L8
 simp only [hfd, Option.bind_some, Bool.not_true, Bool.not_false, U1, hh, cond_false]
 simp only [Bool.false_eq_true, if_false, hL, Option.bind_some, hr, hc]
theorem G0e {g : j0} (h : l4 g = true) : g.2.2.length ≤ 120 ∧ (1 ≤ g.2.1 ∧ g.2.1 ≤ 40) ∧ (1 ≤ g.1 ∧ g.1 ≤ 3) := by
 obtain ⟨q1, q2, q3, q4⟩ := M1 (Y8 h)
 exact ⟨q4, q3, q2⟩
end Go.Proofs.YtknoadmdnjaocaaGreat
namespace Go.Proofs.YtknoadmdnjaocaaGreat
open Go.H
set_option linter.unusedVariables false
set_option linter.unusedSimpArgs false
theorem H0e (ls : List Int) (r n : Int) (es : List C0) (v : Int) : ∀ (fuel : Nat) (k : Int) (W : List (Option (List Int))) (u : List Int), Z6 ls r n es v fuel k W u = Q1 ls r n es v fuel k W u
 | 0, k, W, u => rfl
 | fuel + 1, k, W, u => by
  rw [Z6.eq_2, Q1.eq_2]
  simp only [H0e ls r n es v fuel]
theorem I0e (r n : Int) (es : List C0) : ∀ (fuel : Nat) (k : Int) (W : List (Option (List Int))) (u : List Int), N7 r n es fuel k W u = Y2 r n es fuel k W u
 | 0, k, W, u => rfl
 | fuel + 1, k, W, u => by
  rw [N7.eq_2, Y2.eq_2]
  simp only [I0e r n es fuel, H0e]
theorem e0k {g : j0} (hf : K0 g = true) {p : Int} (hp : 0 ≤ p ∧ p < g.2.1) : D00 g p = some (K0b g p, (Q01 g p).1) := by
 obtain ⟨q1, q2, q3, q4⟩ := M1 hf
 have hN : g.2.1 = ((g.2.1.toNat : Nat) : Int) := by omega
 have h0 := B0k hf p hN (g.2.1.toNat + 1) 0 U0 _ (G07 g (N := g.2.1.toNat) ⟨hp.1, by omega⟩) (by simp) (by omega) (C1 (by omega))
 have hg0 : gi (List.replicate g.2.1.toNat (none : Option (List Int))) p = some none := by
  have := H4 (xs := List.replicate g.2.1.toNat (none : Option (List Int))) (k := p.toNat) (x := none) (by rw [List.getElem?_replicate, if_pos (by omega)])
  rwa [show ((p.toNat : Nat) : Int) = p by omega] at this
 rw [← m0j]
 unfold Q01
 obtain ⟨a, b, c⟩ := g
 simp only at *
 unfold D00
 simp only
 rw [H0 (by omega), Option.bind_some, hg0, Option.bind_some, I0e]
 rw [show ((0 : Nat) : Int) = 0 from rfl] at h0
 rw [h0]
 rfl
def isS (o : Option (List Int)) : Bool := o.isSome
def gtD (o : Option (List Int)) : List Int := o.getD []
theorem giM {α β : Type} {f : α → β} {W : List α} {n : Nat} (hl : W.length = n) {x : Int} (h0 : 0 ≤ x) (h1 : x < (n : Int)) {y : α} (hy : gi W x = some y) : gi (W.map f) x = some (f y) := by
 obtain ⟨_, h2⟩ := u0c hy
 have := H4 (xs := W.map f) (k := x.toNat) (x := f y) (by rw [List.getElem?_map, h2]; rfl)
 rwa [show ((x.toNat : Nat) : Int) = x by omega] at this
theorem r0j {g : j0} (hf : K0 g = true) (p : Int) {n : Nat} (hn : g.2.1 = (n : Int)) (ls : List Int) (hls : ∀ x ∈ ls, x ∈ E5 g.1.toNat 1) (hl : ls.length ≤ 1000000) (i : Nat) (v : Int) : ∀ (d k fuel : Nat) (s : Tr8), TOk g p n s → s.2[i]? = some v → k + d = ls.length → d < fuel →
  K4 ls (i : Int) g.1 g.2.1 g.2.2 fuel (k : Int) (s.1.map isS) (s.1.map gtD) s.2 = some ((v08 g v (ls.drop k) s).1.map isS, (v08 g v (ls.drop k) s).1.map gtD, (v08 g v (ls.drop k) s).2)
 | d, k, 0, s, hs, hv, hd, hf => by omega
 | 0, k, fuel + 1, s, hs, hv, hd, hf => by
  rw [K4.eq_2, if_neg (by simp only [decide_eq_true_eq]; omega), C2 (by omega)]; rfl
 | d + 1, k, fuel + 1, s, hs, hi, hd, hfu => by
  obtain ⟨q1, q2, q3, q4⟩ := M1 hf
  have hk : k < ls.length := by omega
  have hx := R7 hk
  have hxl := hls _ (List.mem_of_getElem? hx)
  have hdr := V2 hx
  generalize ls[k] = x at hx hxl hdr
  have hxm := (F07 (by omega) hxl).1
  have hlen := a9 n s.2 hs.gd.1 hs.gd.2
  have hnx := m02 q1 v x
  have hv := List.mem_of_getElem? hi
  have hsn := hs.add hf hn hv hxl
  obtain ⟨t, et⟩ := M0c g v x s
  have ih := r0j hf p hn ls hls hl i v d (k + 1) fuel (trS g v x s) hsn (by rw [et, List.getElem?_append_left (List.getElem?_eq_some_iff.1 hi).1]; exact hi) (by omega) (by omega)
  have hw := hs.ok
  have hvr := hs.gd.2 v hv
  have hsh := hw.short v
  obtain ⟨a, ha⟩ := hw.get hvr.1 hvr.2 hv
  have hva : gi s.1 v = some (some a) := by rw [giO hw.len hvr.1 hvr.2, ha]
  rw [ha] at hsh
  rw [K4.eq_2, if_pos (by simp only [decide_eq_true_eq]; omega), hdr, v08, ← ih]
  simp only [H4 hi, H4 hx, Option.bind_some, show (g.1, g.2.1, g.2.2) = g from rfl, H05 g v x hxm (by omega), H0 (N04 q1 q3.2 v x), D2 hk (show ls.length ≤ 9223372036854775807 by omega), giM (f := gtD) hw.len hvr.1 hvr.2 hva]
  unfold trS
  generalize j1 g v x = y at *
  by_cases c1 : 0 ≤ y
  ·have hy : y < (n : Int) := by omega
   have hgy := giM (f := isS) hw.len c1 hy (giO hw.len c1 hy)
   have hgw := giM (f := gtD) hw.len c1 hy (giO hw.len c1 hy)
   simp only [show decide (y ≥ 0) = true by simpa using c1, U1, hgy, hgw, Option.bind_some, cond_true]
   by_cases c2 : y ∈ s.2
   ·have : isS (A6 s.1 y) = true := by
     have h2 : ¬ ((A6 s.1 y).isNone = true) := fun h => (hw.iff y c1 hy).1 h c2
     unfold isS
     cases e : A6 s.1 y with
     | none => rw [e] at h2; exact absurd rfl h2
     | some b => rfl
    rw [this, if_neg (by simp), if_neg fun h => h.2 c2]
   ·have : isS (A6 s.1 y) = false := by
     have h2 : (A6 s.1 y).isNone = true := (hw.iff y c1 hy).2 c2
     unfold isS
     cases e : A6 s.1 y with
     | none => rfl
     | some b => rw [e] at h2; cases h2
    have hgd : gtD (some a) = a := rfl
    simp only [Option.getD_some] at hsh
    rw [this, if_pos (by simp), if_pos ⟨c1, c2⟩, hgd, H0 (by omega), Option.bind_some, H0 (by simp; omega), Option.bind_some, H0 (by simp; omega), Option.bind_some, ha]
    simp only [List.map_set, Option.getD_some]
    rfl
  ·simp only [show decide (y ≥ 0) = false by simpa using c1, F4, Option.bind_some, cond_false]
   rw [if_neg (by simp), if_neg fun h => c1 h.1]
theorem s0j {g : j0} (hf : K0 g = true) (p : Int) {n : Nat} (hn : g.2.1 = (n : Int)) : ∀ (f i fuel : Nat) (s : Tr8), TOk g p n s → i ≤ s.2.length → n + 1 ≤ i + f → f < fuel →
  d6 (E5 g.1.toNat 1) g.1 g.2.1 g.2.2 fuel (i : Int) (s.1.map isS) (s.1.map gtD) s.2 = some ((n02 g (E5 g.1.toNat 1) f i s).1.map isS, (n02 g (E5 g.1.toNat 1) f i s).1.map gtD, (n02 g (E5 g.1.toNat 1) f i s).2)
 | f, i, 0, s, hs, hi, hd, hf => by omega
 | 0, i, fuel + 1, s, hs, hi, hd, hf => by have := a9 n s.2 hs.gd.1 hs.gd.2; omega
 | f + 1, i, fuel + 1, s, hs, hi, hd, hfu => by
  obtain ⟨q1, q2, q3, q4⟩ := M1 hf
  have hlen := a9 n s.2 hs.gd.1 hs.gd.2
  rw [d6.eq_2, Option.bind_some, H0 (by omega), Option.bind_some]
  by_cases hk : i < s.2.length
  ·have hx := R7 hk
   generalize s.2[i] = v at hx
   have hv := List.mem_of_getElem? hx
   have h0 := r0j hf p hn (E5 g.1.toNat 1) (fun x hx => hx) (by rw [B9]; omega) i v (E5 g.1.toNat 1).length 0 U0 s hs hx (by omega) (C1 (by rw [B9]; omega))
   rw [show ((0 : Nat) : Int) = 0 from rfl, List.drop_zero] at h0
   obtain ⟨t, e⟩ := F0e g v (E5 g.1.toNat 1) s
   have ih := s0j hf p hn f (i + 1) fuel _ (hs.inn hf hn _ hv fun x hx => hx) (by rw [e, List.length_append]; omega) (by omega) (by omega)
   rw [if_pos (by simpa using hk), h0, Option.bind_some]
   simp only [D2 hk (show s.2.length ≤ 9223372036854775807 by omega), n02, hx]
   exact ih
  ·have hx : s.2[i]? = none := List.getElem?_eq_none (by omega)
   rw [if_neg (by simpa using hk)]
   simp only [n02, hx]
theorem O0c {g : j0} (hf : K0 g = true) {p : Int} (hp : 0 ≤ p ∧ p < g.2.1) : M8 g p = some ((Q01 g p).1.map isS, (Q01 g p).1.map gtD) := by
 obtain ⟨q1, q2, q3, q4⟩ := M1 hf
 have hN : g.2.1 = ((g.2.1.toNat : Nat) : Int) := by omega
 have h0 := s0j hf p hN (g.2.1.toNat + 1) 0 U0 _ (G07 g (N := g.2.1.toNat) ⟨hp.1, by omega⟩) (by simp) (by omega) (C1 (by omega))
 have hlt := w0f g.1.toNat (by omega)
 rw [show ((g.1.toNat : Nat) : Int) = g.1 by omega] at hlt
 have rep : ∀ {α : Type} (z : α), gi (List.replicate g.2.1.toNat z) p = some z := fun z => by
  have := H4 (xs := List.replicate g.2.1.toNat z) (k := p.toNat) (x := z) (by rw [List.getElem?_replicate, if_pos (by omega)])
  rwa [show ((p.toNat : Nat) : Int) = p by omega] at this
 have e1 : ((List.replicate g.2.1.toNat (none : Option (List Int))).set p.toNat (some [])).map isS = (List.replicate g.2.1.toNat false).set p.toNat true := by
  rw [List.map_set, List.map_replicate]; rfl
 have e2 : ((List.replicate g.2.1.toNat (none : Option (List Int))).set p.toNat (some [])).map gtD = (List.replicate g.2.1.toNat ([] : List Int)).set p.toNat [] := by
  rw [List.map_set, List.map_replicate]; rfl
 rw [e1, e2] at h0
 unfold Q01
 obtain ⟨a, b, c⟩ := g
 simp only at *
 unfold M8
 simp only
 rw [H0 (by omega), Option.bind_some, H0 (by omega), Option.bind_some, rep false, Option.bind_some, rep [], Option.bind_some, hlt, Option.bind_some]
 rw [show ((0 : Nat) : Int) = 0 from rfl] at h0
 rw [h0]
 rfl
def s0a (g : j0) (u v : Int) : List Int × Bool := bif K0 g && (inR 0 (g.2.1 - 1) u && inR 0 (g.2.1 - 1) v) then (match A6 (Q01 g u).1 v with
 | some w => (w, true)
 | none => ([], false)) else ([], false)
theorem P0c {n u : Int} (h : inR 0 (n - 1) u = true) : 0 ≤ u ∧ u < n := by
 simp only [inR, Bool.and_eq_true, decide_eq_true_eq] at h
 omega
theorem t0j (g : j0) (hg : T0 g = true) (u : Int) : D3 g u = some (inR 0 (g.2.1 - 1) u) := by
 obtain ⟨q1, q2, q3, q4⟩ := C3 hg
 obtain ⟨r, n, es⟩ := g
 simp only at q3
 unfold D3
 simp only [n04]
 rw [w64 (by omega) (by omega)]
 rfl
theorem M0h {g : j0} (hf : K0 g = true) {u v : Int} (hu : 0 ≤ u ∧ u < g.2.1) : (gtD (A6 (Q01 g u).1 v)).length ≤ 40 := by
 obtain ⟨q1, q2, q3, q4⟩ := M1 hf
 have h := N0c hf hu
 have := h.ok.short v
 have := a9 _ _ h.gd.1 h.gd.2
 unfold gtD
 omega
theorem J0f (g : j0) (hl : g.2.2.length ≤ 140737488355328) (u v : Int) : r6 g u v = some (s0a g u v) := by
 have h1 := A9 g hl
 unfold s0a
 cases hf : K0 g with
 | false =>
  obtain ⟨a, b, c⟩ := g
  unfold r6
  simp only [h1, hf, Option.bind_some, Bool.not_false, Bool.not_true, F4, cond_true]
  rfl
 | true =>
  obtain ⟨q1, q2, q3, q4⟩ := M1 hf
  cases hu : inR 0 (g.2.1 - 1) u with
  | false =>
   obtain ⟨a, b, c⟩ := g
   unfold r6
   simp only at hu q3
   simp only [h1, hf, Option.bind_some, Bool.not_false, Bool.not_true, U1, cond_false, u02]
   rw [w64 (by omega) (by omega), hu]
   rfl
  | true =>
   cases hv : inR 0 (g.2.1 - 1) v with
   | false =>
    obtain ⟨a, b, c⟩ := g
    unfold r6
    simp only at hu hv q3
    simp only [h1, hf, Option.bind_some, Bool.not_false, Bool.not_true, U1, cond_false, u02]
    rw [w64 (by omega) (by omega), hu]
    simp only [Bool.not_true, Bool.not_false, Option.bind_some, cond_false, U1, hv]
    rfl
   | true =>
    have hur := P0c hu
    have hvr := P0c hv
    have hs := O0c hf hur
    have hok := (N0c hf hur).ok
    have hg1 := giM (f := isS) hok.len hvr.1 (by omega) (giO hok.len hvr.1 (by omega))
    have hg2 := giM (f := gtD) hok.len hvr.1 (by omega) (giO hok.len hvr.1 (by omega))
    have hpl := M0h hf (v := v) hur
    obtain ⟨a, b, c⟩ := g
    unfold r6
    simp only at hu hv q3 hg1 hg2
    simp only [h1, hf, Option.bind_some, Bool.not_false, Bool.not_true, U1, cond_false, u02]
    rw [w64 (by omega) (by omega), hu]
    simp only [Bool.not_true, Bool.not_false, Option.bind_some, cond_false, U1, hv, Bool.false_eq_true, if_false, hs, hg1, hg2, Bool.and_self, cond_true]
    cases e : A6 (Q01 (a, b, c) u).1 v with
    | none => rfl
    | some w =>
     rw [e] at hpl
     have hw : gtD (some w) = w := rfl
     rw [hw] at hpl ⊢
     rw [show isS (some w) = true from rfl, if_neg (by simp), H0 (by simp only [List.length_nil]; omega), Option.bind_some, List.nil_append]
theorem K0f (g : j0) (hl : g.2.2.length ≤ 140737488355328) (u v : Int) : t6 g u v = some (s0a g u v) := by
 have h1 := j8 g hl
 unfold s0a
 cases hf : K0 g with
 | false =>
  obtain ⟨a, b, c⟩ := g
  unfold t6
  simp only [h1, hf, Option.bind_some, Bool.not_false, Bool.not_true, F4, cond_true]
  rfl
 | true =>
  obtain ⟨q1, q2, q3, q4⟩ := M1 hf
  have hhu := t0j g (J4 hf) u
  have hhv := t0j g (J4 hf) v
  cases hu : inR 0 (g.2.1 - 1) u with
  | false =>
   obtain ⟨a, b, c⟩ := g
   unfold t6
   simp only at hu hhu q3
   simp only [h1, hf, Option.bind_some, Bool.not_false, Bool.not_true, U1, cond_false, hhu, hu]
   rfl
  | true =>
   cases hv : inR 0 (g.2.1 - 1) v with
   | false =>
    obtain ⟨a, b, c⟩ := g
    unfold t6
    simp only at hu hv hhu hhv q3
    simp only [h1, hf, Option.bind_some, Bool.not_false, Bool.not_true, U1, cond_false, hhu, hu, hhv, hv]
    rfl
   | true =>
    have hur := P0c hu
    have hvr := P0c hv
    have hs := e0k hf hur
    have hok := (N0c hf hur).ok
    have hg1 := giO hok.len hvr.1 (show v < ((g.2.1.toNat : Nat) : Int) by omega)
    obtain ⟨a, b, c⟩ := g
    unfold t6
    simp only at hu hv hhu hhv q3 hg1
    simp only [h1, hf, Option.bind_some, Bool.not_false, Bool.not_true, U1, cond_false, hhu, hu, hhv, hv, Bool.false_eq_true, if_false, hs, hg1, Bool.and_self, cond_true]
    cases e : A6 (Q01 (a, b, c) u).1 v with
    | none => rfl
    | some w => rfl
def R01 (g : j0) (v : Int) : List Int := (s0a g 0 v).1
theorem t0a (g : j0) (hl : g.2.2.length ≤ 140737488355328) (v : Int) : N8 g v = some (R01 g v) := by
 have h := J0f g hl 0 v
 unfold R01
 obtain ⟨a, b, c⟩ := g
 unfold N8
 simp only [h, Option.bind_some]
theorem u0a (g : j0) (hl : g.2.2.length ≤ 140737488355328) (v : Int) : P8 g v = some (R01 g v) := by
 have h := K0f g hl 0 v
 unfold R01
 obtain ⟨a, b, c⟩ := g
 unfold P8
 simp only [h, Option.bind_some]
end Go.Proofs.YtknoadmdnjaocaaGreat
namespace Go.Proofs.YtknoadmdnjaocaaGreat
open Go.H
set_option linter.unusedVariables false
set_option linter.unusedSimpArgs false
def S01 (g : j0) : Bool := l4 g && decide (g.2.2.length = 0)
theorem N0h {g : j0} (h : l4 g = true) (he : g.2.2.length = 0) : g.2.1 = 1 := by
 have hf := Y8 h
 obtain ⟨q1, q2, q3, q4⟩ := M1 hf
 have hes : g.2.2 = [] := List.eq_nil_of_length_eq_zero he
 refine Classical.byContradiction fun hne => ?_
 have h1 : Rch g.2.2 0 1 := G0f h (by omega) (by omega)
 rw [hes] at h1
 have := Rch.sub (P := fun x => x = 0) rfl (fun e he => by cases he) h1
 omega
theorem Q0c (g : j0) (hl : g.2.2.length ≤ 140737488355328) : r8 g = some (S01 g) := by
 have h1 := I06 g hl
 unfold S01
 obtain ⟨a, b, c⟩ := g
 unfold r8 i7
 simp only [h1, Option.bind_some, d0k]
 cases l4 (a, b, c) <;> rfl
theorem R0c (g : j0) (hl : g.2.2.length ≤ 140737488355328) : s8 g = some (S01 g) := by
 have h1 := H06 g hl
 have h2 := @N0h g
 unfold S01
 obtain ⟨a, b, c⟩ := g
 unfold s8
 simp only [h1, Option.bind_some, d0k]
 cases hc : l4 (a, b, c) with
 | false => rfl
 | true =>
  by_cases he : c.length = 0
  ·have := h2 hc he
   simp only at this
   rw [decide_eq_true he, decide_eq_true this]; rfl
  ·rw [decide_eq_false he]
   cases decide (b = 1) <;> rfl
def nzA (g : j0) : Nat → Nat → List (List Int)
 | 0, _ => []
 | d + 1, v => if w02 g (v : Int) = g then R01 g (v : Int) :: nzA g d (v + 1) else nzA g d (v + 1)
def w03 (g : j0) : List (List Int) := bif g9 g then nzA g g.2.1.toNat 0 else []
theorem R0g (g : j0) : ∀ d v, (nzA g d v).length ≤ d
 | 0, v => Nat.le_refl _
 | d + 1, v => by
  have := R0g g d (v + 1)
  rw [nzA]
  split
  ·rw [List.length_cons]; omega
  ·omega
theorem D0k {g : j0} (hg : g9 g = true) : ∀ (d k fuel : Nat) (acc : List (List Int)), k + d = g.2.1.toNat → d < fuel → acc.length ≤ k →
  j2 g.2.1 g.1 g.2.2 fuel (k : Int) acc = some (acc ++ nzA g d k)
 | d, k, 0, acc, hd, hfu, hl => by omega
 | 0, k, fuel + 1, acc, hd, hfu, hl => by
  have : decide ((k : Int) < g.2.1) = false := decide_eq_false (by omega)
  rw [j2.eq_2, this, F4]; simp [nzA]
 | d + 1, k, fuel + 1, acc, hd, hfu, hl => by
  have hf := Y8 (O06 hg)
  obtain ⟨q1, q2, q3, q4⟩ := M1 hf
  have hfin := x04 g (by omega)
  have hm := H0f hf (v := (k : Int)) ⟨by omega, by omega⟩
  have hml := G0e (N0b hf (v := (k : Int)) ⟨by omega, by omega⟩)
  have he := t0b (w02 g (k : Int)) g (by omega)
  have htw := t0a g (by omega) (k : Int)
  have ih := fun acc' h => D0k hg d (k + 1) fuel acc' (by omega) (by omega) h
  have : decide ((k : Int) < g.2.1) = true := decide_eq_true (by omega)
  rw [j2.eq_2, this, U1, show (g.1, g.2.1, g.2.2) = g from rfl, hfin, hg, Option.bind_some, cond_true, if_pos rfl, hm, Option.bind_some, D2 (show k < 1000 by omega) (by omega), nzA]
  generalize w02 g (k : Int) = m at *
  obtain ⟨m0, m1, m2⟩ := m
  simp only
  rw [he, Option.bind_some]
  unfold k08
  by_cases c : (m0, m1, m2) = g
  ·rw [if_pos (by simpa using c), if_pos c, htw, Option.bind_some, H0 (by simp; omega), Option.bind_some, ih _ (by simp; omega)]
   simp
  ·rw [if_neg (by simpa using c), if_neg c]
   exact ih acc (by omega)
theorem E0k {g : j0} (hf : K0 g = true) : ∀ (d k fuel : Nat) (acc : List (List Int)), k + d = g.2.1.toNat → d < fuel → acc.length ≤ k →
  I2 g.2.1 g.1 g.2.2 fuel (k : Int) acc = some (acc ++ nzA g d k)
 | d, k, 0, acc, hd, hfu, hl => by omega
 | 0, k, fuel + 1, acc, hd, hfu, hl => by
  obtain ⟨q1, q2, q3, q4⟩ := M1 hf
  rw [I2.eq_2, if_neg (by simp only [decide_eq_true_eq]; omega)]; simp [nzA]
 | d + 1, k, fuel + 1, acc, hd, hfu, hl => by
  obtain ⟨q1, q2, q3, q4⟩ := M1 hf
  have hm := I0f hf (v := (k : Int)) ⟨by omega, by omega⟩
  have hml := G0e (N0b hf (v := (k : Int)) ⟨by omega, by omega⟩)
  have he := r0b (w02 g (k : Int)) g (by omega)
  have htw := u0a g (by omega) (k : Int)
  have ih := fun acc' h => E0k hf d (k + 1) fuel acc' (by omega) (by omega) h
  rw [I2.eq_2, if_pos (by simp only [decide_eq_true_eq]; omega), show (g.1, g.2.1, g.2.2) = g from rfl, hm, Option.bind_some, D2 (show k < 1000 by omega) (by omega), nzA]
  generalize w02 g (k : Int) = m at *
  obtain ⟨m0, m1, m2⟩ := m
  simp only
  rw [he, Option.bind_some]
  unfold k08
  by_cases c : (m0, m1, m2) = g
  ·rw [if_pos (by simpa using c), if_pos c, htw, Option.bind_some, H0 (by simp; omega), Option.bind_some, ih _ (by simp; omega)]
   simp
  ·rw [if_neg (by simpa using c), if_neg c]
   exact ih acc (by omega)
theorem J0e (g : j0) (hl : g.2.2.length ≤ 140737488355328) : W4 g = some (w03 g) := by
 have h1 := x04 g hl
 unfold w03
 cases hg : g9 g with
 | true =>
  obtain ⟨q1, q2, q3, q4⟩ := M1 (Y8 (O06 hg))
  have h := D0k hg g.2.1.toNat 0 U0 [] (by omega) (C1 (by omega)) (by simp)
  obtain ⟨a, b, c⟩ := g
  unfold W4
  simp only at h ⊢
  rw [show (0 : Int) = ((0 : Nat) : Int) from rfl, h]; rfl
 | false =>
  obtain ⟨a, b, c⟩ := g
  unfold W4
  simp only
  rw [show U0 = (U0 - 1) + 1 from rfl, j2.eq_2]
  cases decide ((0 : Int) < b)
  ·rfl
  ·rw [U1, h1, hg]; rfl
theorem K0e (g : j0) (hl : g.2.2.length ≤ 140737488355328) : Y4 g = some (w03 g) := by
 have h1 := q08 g hl
 unfold w03
 cases hg : g9 g with
 | true =>
  have hf := Y8 (O06 hg)
  obtain ⟨q1, q2, q3, q4⟩ := M1 hf
  have h := E0k hf g.2.1.toNat 0 U0 [] (by omega) (C1 (by omega)) (by simp)
  obtain ⟨a, b, c⟩ := g
  unfold Y4
  simp only [h1, hg, Option.bind_some, Bool.not_true, Bool.false_eq_true, if_false] at h ⊢
  rw [show (0 : Int) = ((0 : Nat) : Int) from rfl, h]; rfl
 | false =>
  obtain ⟨a, b, c⟩ := g
  unfold Y4
  simp only [h1, hg, Option.bind_some, Bool.not_false, if_true, cond_false]
theorem O0b (g : j0) : (w03 g).length ≤ 40 := by
 unfold w03
 cases hg : g9 g with
 | false => simp
 | true =>
  obtain ⟨q1, q2, q3, q4⟩ := M1 (Y8 (O06 hg))
  have := R0g g g.2.1.toNat 0
  rw [cond_true]; omega
def G9 (g : j0) : Bool := S01 g || (g9 g && decide ((((w03 g).length : Nat) : Int) = g.2.1))
theorem v0a (g : j0) (hl : g.2.2.length ≤ 140737488355328) : O8 g = some (G9 g) := by
 have h1 := Q0c g hl
 have h2 := x04 g hl
 have h3 := J0e g hl
 have h4 := O0b g
 unfold G9
 obtain ⟨a, b, c⟩ := g
 unfold O8
 simp only [h1, Option.bind_some]
 cases S01 (a, b, c)
 ·simp only [Bool.not_false, U1, h2, Option.bind_some, Bool.and_true, Bool.false_or]
  cases g9 (a, b, c)
  ·rfl
  ·simp only [U1, h3, Option.bind_some, cond_false, cond_true, Bool.true_and]
   rw [H0 (by omega)]; rfl
 ·simp only [Bool.not_true, F4, Option.bind_some, Bool.and_false, cond_true, Bool.true_or]
  rfl
theorem w0a (g : j0) (hl : g.2.2.length ≤ 140737488355328) : Q8 g = some (G9 g) := by
 have h1 := R0c g hl
 have h2 := q08 g hl
 have h3 := K0e g hl
 have h4 := O0b g
 unfold G9
 obtain ⟨a, b, c⟩ := g
 unfold Q8
 simp only [h1, Option.bind_some]
 cases S01 (a, b, c)
 ·simp only [Bool.not_false, U1, h2, Option.bind_some, Bool.and_true, Bool.false_or]
  cases g9 (a, b, c)
  ·rfl
  ·simp only [U1, h3, Option.bind_some, cond_false, cond_true, Bool.true_and]
   rw [H0 (by omega)]; rfl
 ·simp only [Bool.not_true, F4, Option.bind_some, Bool.and_false, cond_true, Bool.true_or]
  rfl
def noA (l : List j0) : Nat → Nat → List Int
 | 0, _ => []
 | d + 1, k => match l[k]? with
  | some g => bif G9 g then (k : Int) :: noA l d (k + 1) else noA l d (k + 1)
  | none => []
def O3 (l : List j0) : List Int := noA l l.length 0
def u0j (l : List j0) : Prop := l.length ≤ 1048576 ∧ ∀ g ∈ l, g.2.2.length ≤ 140737488355328
theorem F0k (l : List j0) (hl : u0j l) : ∀ (d k fuel : Nat) (acc : List Int), k + d = l.length → d < fuel → acc.length ≤ k →
  V3 l fuel (k : Int) acc = some (acc ++ noA l d k)
 | d, k, 0, acc, hd, hfu, ha => by omega
 | 0, k, fuel + 1, acc, hd, hfu, ha => by
  rw [V3.eq_2, if_neg (by simp only [decide_eq_true_eq]; omega)]; simp [noA]
 | d + 1, k, fuel + 1, acc, hd, hfu, ha => by
  have h1 := hl.1
  have hk : k < l.length := by omega
  have hx := R7 hk
  have hm := hl.2 _ (List.mem_of_getElem? hx)
  generalize l[k] = g at hx hm
  have hn := v0a g hm
  have ih := fun acc' h => F0k l hl d (k + 1) fuel acc' (by omega) (by omega) h
  rw [V3.eq_2, if_pos (by simp only [decide_eq_true_eq]; omega), H4 hx, Option.bind_some, D2 hk (by omega), noA, hx]
  obtain ⟨g0, g1, g2⟩ := g
  simp only
  rw [hn, Option.bind_some]
  cases G9 (g0, g1, g2)
  ·rw [if_neg (by simp)]
   exact ih acc (by omega)
  ·rw [if_pos rfl, H0 (by simp; omega), Option.bind_some, ih _ (by simp; omega)]
   simp
theorem G0k (l : List j0) (hl : u0j l) : ∀ (d k fuel : Nat) (acc : List Int), k + d = l.length → d < fuel → acc.length ≤ k →
  Y3 l fuel (k : Int) acc = some (acc ++ noA l d k)
 | d, k, 0, acc, hd, hfu, ha => by omega
 | 0, k, fuel + 1, acc, hd, hfu, ha => by
  rw [Y3.eq_2, if_neg (by simp only [decide_eq_true_eq]; omega)]; simp [noA]
 | d + 1, k, fuel + 1, acc, hd, hfu, ha => by
  have h1 := hl.1
  have hk : k < l.length := by omega
  have hx := R7 hk
  have hm := hl.2 _ (List.mem_of_getElem? hx)
  generalize l[k] = g at hx hm
  have hn := w0a g hm
  have ih := fun acc' h => G0k l hl d (k + 1) fuel acc' (by omega) (by omega) h
  rw [Y3.eq_2, if_pos (by simp only [decide_eq_true_eq]; omega), H4 hx, Option.bind_some, D2 hk (by omega), noA, hx]
  obtain ⟨g0, g1, g2⟩ := g
  simp only
  rw [hn, Option.bind_some]
  cases G9 (g0, g1, g2)
  ·rw [if_neg (by simp)]
   exact ih acc (by omega)
  ·rw [if_pos rfl, H0 (by simp; omega), Option.bind_some, ih _ (by simp; omega)]
   simp
theorem I07 (l : List j0) (hl : u0j l) : i9 l = some (O3 l) := by
 have h1 := hl.1
 have h := F0k l hl l.length 0 U0 [] (by omega) (C1 (by omega)) (by simp)
 unfold i9
 rw [show (0 : Int) = ((0 : Nat) : Int) from rfl, h]; rfl
theorem J07 (l : List j0) (hl : u0j l) : j9 l = some (O3 l) := by
 have h1 := hl.1
 have h := G0k l hl l.length 0 U0 [] (by omega) (C1 (by omega)) (by simp)
 unfold j9
 rw [show (0 : Int) = ((0 : Nat) : Int) from rfl, h]; rfl
theorem S0g (l : List j0) : ∀ d k, (noA l d k).length ≤ d
 | 0, k => Nat.le_refl _
 | d + 1, k => by
  have := S0g l d (k + 1)
  rw [noA]
  cases l[k]? with
  | none => simp
  | some g =>
   simp only
   cases G9 g <;> simp only [cond_true, cond_false, List.length_cons] <;> omega
end Go.Proofs.YtknoadmdnjaocaaGreat
