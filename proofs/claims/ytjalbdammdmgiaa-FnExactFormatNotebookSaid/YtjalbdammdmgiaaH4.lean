/- Plain laws over the model: how the evaluator's state stands to the machine's. -/
import Derived.Test.YtjalbdammdmgiaaH3
namespace Go.H
set_option linter.unusedVariables false

theorem nth_eq {α : Type} : ∀ (l : List α) (k : Nat), nth l k = l[k]?
  | [], k => by simp [nth]
  | x :: r, 0 => by simp [nth]
  | x :: r, k + 1 => by simp [nth, nth_eq r k]
theorem updN_eq {α : Type} : ∀ (l : List α) (k : Nat) (x : α), updN l k x = l.set k x
  | [], k, x => by simp [updN]
  | y :: r, 0, x => by simp [updN]
  | y :: r, k + 1, x => by simp [updN, updN_eq r k x]
theorem nth_updN {α : Type} (l : List α) (k : Nat) (x : α) (hk : k < l.length) (j : Nat) : nth (updN l k x) j = if j = k then some x else nth l j := by
  rw [nth_eq, nth_eq, updN_eq, List.getElem?_set]
  by_cases e : k = j
  · subst e; simp [hk]
  · simp [e, Ne.symm e]
theorem nth_lt {α : Type} {l : List α} {k : Nat} {x : α} (h : nth l k = some x) : k < l.length := by
  rw [nth_eq] at h
  exact (List.getElem?_eq_some_iff.1 h).1
theorem nth_snoc {α : Type} (l : List α) (x : α) (j : Nat) : nth (l ++ [x]) j = if j = l.length then some x else nth l j := by
  rw [nth_eq, nth_eq, List.getElem?_append]
  by_cases e : j < l.length
  · simp [e, Nat.ne_of_lt e]
  · by_cases e2 : j = l.length
    · subst e2; simp
    · rw [if_neg e, if_neg e2]
      have h1 : l[j]? = none := List.getElem?_eq_none (by omega)
      rw [h1, List.getElem?_eq_none]
      simp; omega
theorem length_updN {α : Type} (l : List α) (k : Nat) (x : α) : (updN l k x).length = l.length := by rw [updN_eq]; simp

def stamp (st : St) (i : Nat) : Option Nat := match nth st.ow i with
  | some o => some o.stamp
  | none => none

def GoodC (st : St) (oe : Nat → Value) : Cell → Value → Prop
  | .val v, x => x = v
  | .own i k, x => ∃ s, stamp st i = some s ∧ k ≤ s ∧ (k = s → x = oe i)
def GoodCs (st : St) (oe : Nat → Value) : List Cell → List Value → Prop
  | [], [] => True
  | c :: cs, v :: vs => GoodC st oe c v ∧ GoodCs st oe cs vs
  | _, _ => False
def Good (st : St) (be : Nat → Nat) (oe : Nat → Value) : AV → Value → Prop
  | .val v, x => x = v
  | .own i k, x => ∃ s, stamp st i = some s ∧ k ≤ s ∧ (k = s → x = oe i)
  | .box i off, x => i < st.bx.length ∧ x = ptr (be i) off
  | .hel s idx sz k, x => ∃ b o n c, s = .slice (some ⟨b, o, none⟩) n c ∧ x = ptr b (o + (idx.toNat * sz + k))
  | .oel i st0 idx sz k, x => ∃ s, stamp st i = some s ∧ st0 ≤ s ∧ (st0 = s → ∃ g n c, oe i = .slice (some ⟨g, 0, none⟩) n c ∧ x = ptr g (idx.toNat * sz + k))
  | .agg cs, x => ∃ vs, x = .agg vs.toArray ∧ GoodCs st oe cs vs
  | .dead, _ => True

structure Grow (st : St) (be : Nat → Nat) (oe : Nat → Value) (st' : St) (be' : Nat → Nat) (oe' : Nat → Value) : Prop where
  bl : st.bx.length ≤ st'.bx.length
  be : ∀ i, i < st.bx.length → be' i = be i
  sm : ∀ i s, stamp st i = some s → ∃ s', stamp st' i = some s' ∧ s ≤ s' ∧ (s' = s → oe' i = oe i)

theorem Grow.refl (st : St) (be : Nat → Nat) (oe : Nat → Value) : Grow st be oe st be oe :=
  ⟨Nat.le_refl _, fun _ _ => rfl, fun i s h => ⟨s, h, Nat.le_refl _, fun _ => rfl⟩⟩

theorem GoodC.grow {st st' : St} {be be' : Nat → Nat} {oe oe' : Nat → Value} (g : Grow st be oe st' be' oe') {c : Cell} {x : Value} (h : GoodC st oe c x) : GoodC st' oe' c x := by
  cases c with
  | val v => exact h
  | own i k =>
    obtain ⟨s, h1, h2, h3⟩ := h
    obtain ⟨s', g1, g2, g3⟩ := g.sm i s h1
    exact ⟨s', g1, Nat.le_trans h2 g2, fun e => by rw [g3 (by omega)]; exact h3 (by omega)⟩
theorem GoodCs.grow {st st' : St} {be be' : Nat → Nat} {oe oe' : Nat → Value} (g : Grow st be oe st' be' oe') : ∀ {cs : List Cell} {vs : List Value}, GoodCs st oe cs vs → GoodCs st' oe' cs vs
  | [], [], _ => trivial
  | _ :: _, _ :: _, h => ⟨h.1.grow g, GoodCs.grow g h.2⟩
  | [], _ :: _, h => h.elim
  | _ :: _, [], h => h.elim
theorem Good.grow {st st' : St} {be be' : Nat → Nat} {oe oe' : Nat → Value} (g : Grow st be oe st' be' oe') {av : AV} {x : Value} (h : Good st be oe av x) : Good st' be' oe' av x := by
  cases av with
  | val v => exact h
  | own i k =>
    obtain ⟨s, h1, h2, h3⟩ := h
    obtain ⟨s', g1, g2, g3⟩ := g.sm i s h1
    exact ⟨s', g1, Nat.le_trans h2 g2, fun e => by rw [g3 (by omega)]; exact h3 (by omega)⟩
  | box i off => exact ⟨Nat.lt_of_lt_of_le h.1 g.bl, by rw [g.be i h.1]; exact h.2⟩
  | hel s idx sz k => exact h
  | oel i st0 idx sz k =>
    obtain ⟨s, h1, h2, h3⟩ := h
    obtain ⟨s', g1, g2, g3⟩ := g.sm i s h1
    exact ⟨s', g1, Nat.le_trans h2 g2, fun e => by rw [g3 (by omega)]; exact h3 (by omega)⟩
  | agg cs => obtain ⟨vs, h1, h2⟩ := h; exact ⟨vs, h1, h2.grow g⟩
  | dead => trivial

theorem GoodCs.length {st : St} {oe : Nat → Value} : ∀ {cs : List Cell} {vs : List Value}, GoodCs st oe cs vs → cs.length = vs.length
  | [], [], _ => rfl
  | _ :: _, _ :: _, h => by simp [GoodCs.length h.2]
  | [], _ :: _, h => h.elim
  | _ :: _, [], h => h.elim
theorem GoodCs.vals (st : St) (oe : Nat → Value) : ∀ (vs : List Value), GoodCs st oe (vals vs) vs
  | [] => trivial
  | _ :: r => ⟨rfl, GoodCs.vals st oe r⟩
theorem GoodCs.nth {st : St} {oe : Nat → Value} : ∀ {cs : List Cell} {vs : List Value} {k : Nat} {c : Cell}, GoodCs st oe cs vs → nth cs k = some c → ∃ v, vs[k]? = some v ∧ GoodC st oe c v
  | [], _, k, c, _, h => by simp [H.nth] at h
  | c0 :: cs, v0 :: vs, 0, c, h, hn => by simp [H.nth] at hn; subst hn; exact ⟨v0, by simp, h.1⟩
  | c0 :: cs, v0 :: vs, k + 1, c, h, hn => by
    simp [H.nth] at hn
    obtain ⟨v, h1, h2⟩ := GoodCs.nth h.2 hn
    exact ⟨v, by simpa using h1, h2⟩
  | _ :: _, [], _, _, h, _ => h.elim
theorem GoodCs.drop {st : St} {oe : Nat → Value} : ∀ {cs : List Cell} {vs : List Value} (k : Nat), GoodCs st oe cs vs → GoodCs st oe (cs.drop k) (vs.drop k)
  | cs, vs, 0, h => by simpa using h
  | [], [], k + 1, h => by simpa using h
  | _ :: cs, _ :: vs, k + 1, h => by simpa using GoodCs.drop k h.2
  | [], _ :: _, _ + 1, h => h.elim
  | _ :: _, [], _ + 1, h => h.elim
theorem GoodCs.take {st : St} {oe : Nat → Value} : ∀ {cs : List Cell} {vs : List Value} (k : Nat), GoodCs st oe cs vs → GoodCs st oe (cs.take k) (vs.take k)
  | cs, vs, 0, h => by simp [GoodCs]
  | [], [], k + 1, h => by simp [GoodCs]
  | _ :: cs, _ :: vs, k + 1, h => by simpa [GoodCs] using ⟨h.1, GoodCs.take k h.2⟩
  | [], _ :: _, _ + 1, h => h.elim
  | _ :: _, [], _ + 1, h => h.elim
theorem GoodCs.upd {st : St} {oe : Nat → Value} : ∀ {cs : List Cell} {vs : List Value} {k : Nat} {c : Cell} {v : Value}, GoodCs st oe cs vs → GoodC st oe c v → GoodCs st oe (updN cs k c) (vs.set k v)
  | [], [], k, c, v, h, hc => by simp [updN, GoodCs]
  | _ :: cs, _ :: vs, 0, c, v, h, hc => ⟨hc, h.2⟩
  | _ :: cs, _ :: vs, k + 1, c, v, h, hc => ⟨h.1, GoodCs.upd h.2 hc⟩
  | [], _ :: _, _, _, _, h, _ => h.elim
  | _ :: _, [], _, _, _, h, _ => h.elim
def spliceV : List Value → Nat → List Value → List Value
  | cs, _, [] => cs
  | cs, off, x :: r => spliceV (cs.set off x) (off + 1) r
theorem GoodCs.splice {st : St} {oe : Nat → Value} : ∀ {new : List Cell} {ns : List Value} {cs : List Cell} {vs : List Value} {off : Nat}, GoodCs st oe cs vs → GoodCs st oe new ns → GoodCs st oe (splice cs off new) (spliceV vs off ns)
  | [], [], cs, vs, off, h, _ => h
  | c :: new, v :: ns, cs, vs, off, h, hn => by
    simp only [H.splice, spliceV]
    exact GoodCs.splice (h.upd hn.1) hn.2
  | [], _ :: _, _, _, _, _, h => h.elim
  | _ :: _, [], _, _, _, _, h => h.elim
theorem length_spliceV : ∀ (ns vs : List Value) (off : Nat), (spliceV vs off ns).length = vs.length
  | [], vs, off => rfl
  | n :: ns, vs, off => by simp [spliceV, length_spliceV ns]

/-- a slice of the call's own, in memory -/
def OwnH (h H : Hp) (v : Value) (e : TypeId) (sz : Nat) (nn : Bool) (xs : List (List Value)) : Prop :=
  (∀ x ∈ xs, x.length = sz ∧ ∀ v ∈ x, v.oneCell' = true) ∧
  ((v = .slice none 0 0 ∧ xs = [] ∧ nn = false) ∨
   ∃ g cap cur, v = .slice (some ⟨g, 0, none⟩) xs.length cap ∧ h g = none ∧ H g = some (.cells cur e (0, 0)) ∧
     xs.length ≤ cap ∧ cap ≤ maxLen ∧ cur.size = cap * sz ∧ cur.toList.take (xs.length * sz) = xs.flatten)

structure Sim (P : Program) (h0 : Hp) (w0 : World) (be : Nat → Nat) (oe : Nat → Value) (H : Hp) (st : St) (h : Hp) (a : Act) (w : World) : Prop where
  mv : Moved h0 w0 H w
  sub : ∀ b o, h b = some o → H b = some o
  box : ∀ i cs ty, nth st.bx i = some (.live cs ty) → h (be i) = none ∧ ∃ vs, GoodCs st oe cs vs ∧ H (be i) = some (.cells vs.toArray ty (0, 0))
  pub : ∀ i b, nth st.bx i = some (.publ b) → be i = b
  own : ∀ i s e sz by_ nn xs, nth st.ow i = some ⟨s, .live e sz by_ nn xs⟩ → OwnH h H (oe i) e sz nn xs
  frz : ∀ i s v, nth st.ow i = some ⟨s, .frozen v⟩ → oe i = v
  bb : ∀ i j cs ty cs' ty', nth st.bx i = some (.live cs ty) → nth st.bx j = some (.live cs' ty') → be i = be j → i = j
  oo : ∀ i j s e sz by_ nn xs s' e' sz' by' nn' xs' g, nth st.ow i = some ⟨s, .live e sz by_ nn xs⟩ → nth st.ow j = some ⟨s', .live e' sz' by' nn' xs'⟩ →
    (oe i).ownBlock = some g → (oe j).ownBlock = some g → i = j
  bo : ∀ i cs ty j s e sz by_ nn xs, nth st.bx i = some (.live cs ty) → nth st.ow j = some ⟨s, .live e sz by_ nn xs⟩ → (oe j).ownBlock ≠ some (be i)
  dfr : a.defers = []
  siz : a.tmps.size = st.n
  fr : ∀ s, Good st be oe (look st.fr s) (a.tmps.getD s undef)

section
variable {P : Program} {h0 : Hp} {w0 : World} {be : Nat → Nat} {oe : Nat → Value} {H : Hp} {st : St} {h : Hp} {a : Act} {w : World}

theorem OwnH.block {h H : Hp} {v : Value} {e sz : Nat} {nn : Bool} {xs : List (List Value)} (o : OwnH h H v e sz nn xs) {g : Nat} (hg : v.ownBlock = some g) :
    h g = none ∧ ∃ cap cur, v = .slice (some ⟨g, 0, none⟩) xs.length cap ∧ H g = some (.cells cur e (0, 0)) := by
  rcases o.2 with ⟨rfl, _⟩ | ⟨g', cap, cur, rfl, h1, h2, _⟩
  · simp [Value.ownBlock] at hg
  · simp [Value.ownBlock] at hg
    subst hg
    exact ⟨h1, cap, cur, rfl, h2⟩

theorem OwnH.keep {h h' H H' : Hp} {v : Value} {e sz : Nat} {nn : Bool} {xs : List (List Value)} (o : OwnH h H v e sz nn xs)
    (hk : ∀ g, v.ownBlock = some g → H' g = H g ∧ h' g = none) : OwnH h' H' v e sz nn xs := by
  refine ⟨o.1, ?_⟩
  rcases o.2 with hn | ⟨g, cap, cur, rfl, h1, h2, r⟩
  · exact .inl hn
  · obtain ⟨k1, k2⟩ := hk g rfl
    exact .inr ⟨g, cap, cur, rfl, k2, by rw [k1]; exact h2, r⟩

theorem vis_H (s : Sim P h0 w0 be oe H st h a w) : Vis H w := s.mv.vis
theorem vis_h (s : Sim P h0 w0 be oe H st h a w) : Vis h w := fun b o hb => s.mv.vis b o (s.sub b o hb)

/-- what is looked at moves on; what the call keeps for itself stays -/
theorem Sim.moved (s : Sim P h0 w0 be oe H st h a w) {h' : Hp} {w' : World} (m : Moved h w h' w') : ∃ H', Sim P h0 w0 be oe H' st h' a w' := by
  let H' : Hp := fun b => match h' b with
    | some o => some o
    | none => match h b with
      | some _ => none
      | none => H b
  have hpriv : ∀ b, h b = none → H b ≠ none → H' b = H b ∧ h' b = none := by
    intro b hb hH
    have hlt : b < w.heap.size := s.mv.vis.lt hH
    have hn : h' b = none := m.none_of hlt hb
    exact ⟨by simp [H', hn, hb], hn⟩
  have hmv : Moved H w H' w' := by
    refine ⟨m.os, m.tape, m.output, m.size, ?_, ?_, ?_, m.fz⟩
    · intro b hb hH
      have : h b = none := by
        cases hc : h b with
        | none => rfl
        | some o => rw [s.sub b o hc] at hH; cases hH
      exact m.keep b hb this
    · intro b o ho
      simp only [H'] at ho
      split at ho
      · rename_i x hx; cases ho; exact m.vis b _ hx
      · split at ho
        · cases ho
        · rename_i hx hb
          have hlt : b < w.heap.size := s.mv.vis.lt (by rw [ho]; simp)
          rw [m.keep b hlt hb]
          exact s.mv.vis b o ho
    · intro b hb
      simp only [H'] at hb
      split at hb
      · rename_i x hx
        rcases m.fresh b (by simp [hx]) with h1 | h1
        · left
          cases hc : h b with
          | none => exact absurd hc h1
          | some o => rw [s.sub b o hc]; simp
        · exact .inr h1
      · split at hb
        · exact absurd rfl hb
        · exact .inl hb
  refine ⟨H', ⟨s.mv.trans hmv, ?_, ?_, s.pub, ?_, s.frz, s.bb, s.oo, s.bo, s.dfr, s.siz, s.fr⟩⟩
  · intro b o ho; simp [H', ho]
  · intro i cs ty hi
    obtain ⟨h1, vs, h2, h3⟩ := s.box i cs ty hi
    obtain ⟨k1, k2⟩ := hpriv (be i) h1 (by rw [h3]; simp)
    exact ⟨k2, vs, h2, by rw [k1]; exact h3⟩
  · intro i s' e sz by_ nn xs hi
    refine (s.own i s' e sz by_ nn xs hi).keep fun g hg => ?_
    obtain ⟨h1, cap, cur, _, h3⟩ := (s.own i s' e sz by_ nn xs hi).block hg
    exact hpriv g h1 (by rw [h3]; simp)

theorem look_cons (d : Nat) (av : AV) (r : List (Nat × AV)) (s : Nat) : look ((d, av) :: r) s = if d = s then av else look r s := by
  simp only [look]
  cases h : Nat.beq d s with
  | true => simp [Nat.eq_of_beq_eq_true h]
  | false => simp [Nat.ne_of_beq_eq_false h]

theorem Sim.put (s : Sim P h0 w0 be oe H st h a w) {d : Nat} {av : AV} {v : Value} (hd : d < st.n) (hg : Good st be oe av v) :
    Sim P h0 w0 be oe H { st with fr := (d, av) :: st.fr } h (a.put (some d) v) w := by
  have gr : Grow st be oe { st with fr := (d, av) :: st.fr } be oe := ⟨Nat.le_refl _, fun _ _ => rfl, fun i s h => ⟨s, h, Nat.le_refl _, fun _ => rfl⟩⟩
  refine ⟨s.mv, s.sub, fun i cs ty hi => ?_, s.pub, s.own, s.frz, s.bb, s.oo, s.bo, s.dfr, by simp [Act.put, s.siz], ?_⟩
  · obtain ⟨h1, vs, h2, h3⟩ := s.box i cs ty hi
    exact ⟨h1, vs, h2.grow gr, h3⟩
  intro t
  refine Good.grow gr ?_
  rw [look_cons]
  by_cases e : d = t
  · subst e
    rw [if_pos rfl]
    have : (a.put (some d) v).tmps.getD d undef = v := by simp [Act.put, s.siz, hd]
    rw [this]
    exact hg
  · rw [if_neg e]
    have : (a.put (some d) v).tmps.getD t undef = a.tmps.getD t undef := by simp [Act.put, Array.getElem?_setIfInBounds_ne e]
    rw [this]
    exact s.fr t

/-- the state turns, the frame stays -/
theorem Sim.newBox (s : Sim P h0 w0 be oe H st h a w) {cs : List Cell} {vs : List Value} {t : TypeId} {b : Nat} {w' : World} (hg : GoodCs st oe cs vs) (hb : H b = none)
    (m : Moved H w (H.set b (.cells vs.toArray t (0, 0))) w') :
    let be' := fun j => if j = st.bx.length then b else be j
    let st' : St := { st with bx := st.bx ++ [.live cs t] }
    Sim P h0 w0 be' oe (H.set b (.cells vs.toArray t (0, 0))) st' h a w' ∧ Grow st be oe st' be' oe := by
  intro be' st'
  have hhb : h b = none := by
    cases hc : h b with
    | none => rfl
    | some o => rw [s.sub b o hc] at hb; cases hb
  have gr : Grow st be oe st' be' oe := by
    refine ⟨by simp [st'], fun i hi => ?_, fun i s hs => ⟨s, hs, Nat.le_refl _, fun _ => rfl⟩⟩
    simp [be', Nat.ne_of_lt hi]
  have hne : ∀ x, H x ≠ none → x ≠ b := fun x hx e => by subst e; exact hx hb
  have old : ∀ i cs ty, nth st.bx i = some (.live cs ty) → be' i = be i := fun i cs ty hi => by simp [be', Nat.ne_of_lt (nth_lt hi)]
  have cases_ : ∀ i x, nth st'.bx i = some x → (i = st.bx.length ∧ x = .live cs t) ∨ (i ≠ st.bx.length ∧ nth st.bx i = some x) := by
    intro i x hi
    simp only [st', nth_snoc] at hi
    split at hi
    · rename_i e; simp at hi; exact .inl ⟨e, hi.symm⟩
    · rename_i e; exact .inr ⟨e, hi⟩
  have Hb : ∀ i cs ty, nth st.bx i = some (.live cs ty) → be i ≠ b := fun i cs ty hi => by
    obtain ⟨_, vs, _, h3⟩ := s.box i cs ty hi
    exact hne _ (by rw [h3]; simp)
  have Ho : ∀ i s' e sz by_ nn xs g, nth st.ow i = some ⟨s', .live e sz by_ nn xs⟩ → (oe i).ownBlock = some g → g ≠ b := fun i s' e sz by_ nn xs g hi hg => by
    obtain ⟨_, _, _, _, h3⟩ := (s.own i s' e sz by_ nn xs hi).block hg
    exact hne _ (by rw [h3]; simp)
  refine ⟨⟨s.mv.trans m, ?_, ?_, ?_, ?_, s.frz, ?_, s.oo, ?_, s.dfr, s.siz, fun t => (s.fr t).grow gr⟩, gr⟩
  · intro x o hx
    rw [Hp.set_other _ _ (hne x (by rw [s.sub x o hx]; simp))]
    exact s.sub x o hx
  · intro i cs' ty hi
    rcases cases_ i _ hi with ⟨rfl, e⟩ | ⟨e, hi'⟩
    · cases e
      exact ⟨by simp [be', hhb], vs, hg.grow gr, by simp [be', Hp.set]⟩
    · obtain ⟨h1, vs', h2, h3⟩ := s.box i cs' ty hi'
      rw [old i cs' ty hi']
      exact ⟨h1, vs', h2.grow gr, by rw [Hp.set_other _ _ (Hb i cs' ty hi')]; exact h3⟩
  · intro i b' hi
    rcases cases_ i _ hi with ⟨_, e⟩ | ⟨e, hi'⟩
    · cases e
    · simp [be', e, s.pub i b' hi']
  · intro i s' e sz by_ nn xs hi
    refine (s.own i s' e sz by_ nn xs hi).keep fun g hg' => ?_
    obtain ⟨h1, cap, cur, _, h3⟩ := (s.own i s' e sz by_ nn xs hi).block hg'
    exact ⟨Hp.set_other _ _ (Ho i s' e sz by_ nn xs g hi hg'), h1⟩
  · intro i j cs1 ty1 cs2 ty2 hi hj e
    rcases cases_ i _ hi with ⟨rfl, e1⟩ | ⟨e1, hi'⟩ <;> rcases cases_ j _ hj with ⟨rfl, e2⟩ | ⟨e2, hj'⟩
    · rfl
    · rw [old j _ _ hj'] at e; simp [be'] at e; exact absurd e.symm (Hb j _ _ hj')
    · rw [old i _ _ hi'] at e; simp [be'] at e; exact absurd e (Hb i _ _ hi')
    · rw [old i _ _ hi', old j _ _ hj'] at e; exact s.bb i j _ _ _ _ hi' hj' e
  · intro i cs1 ty1 j s' e sz by_ nn xs hi hj hc
    rcases cases_ i _ hi with ⟨rfl, e1⟩ | ⟨e1, hi'⟩
    · simp [be'] at hc; exact Ho j _ _ _ _ _ _ _ hj hc rfl
    · rw [old i _ _ hi'] at hc; exact s.bo i _ _ j _ _ _ _ _ _ hi' hj hc

theorem Sim.updBox (s : Sim P h0 w0 be oe H st h a w) {i : Nat} {cs0 cs : List Cell} {vs : List Value} {t : TypeId} {w' : World} (hi : nth st.bx i = some (.live cs0 t))
    (hg : GoodCs st oe cs vs) (m : Moved H w (H.set (be i) (.cells vs.toArray t (0, 0))) w') :
    Sim P h0 w0 be oe (H.set (be i) (.cells vs.toArray t (0, 0))) { st with bx := updN st.bx i (.live cs t) } h a w' ∧ Grow st be oe { st with bx := updN st.bx i (.live cs t) } be oe := by
  have gr : Grow st be oe { st with bx := updN st.bx i (.live cs t) } be oe :=
    ⟨by simp [length_updN], fun _ _ => rfl, fun i s hs => ⟨s, hs, Nat.le_refl _, fun _ => rfl⟩⟩
  have hh := (s.box i cs0 t hi).1
  have cases_ : ∀ j x, nth (updN st.bx i (.live cs t)) j = some x → (j = i ∧ x = .live cs t) ∨ (j ≠ i ∧ nth st.bx j = some x) := by
    intro j x hj
    rw [nth_updN _ _ _ (nth_lt hi)] at hj
    split at hj
    · rename_i e; simp at hj; exact .inl ⟨e, hj.symm⟩
    · rename_i e; exact .inr ⟨e, hj⟩
  refine ⟨⟨s.mv.trans m, ?_, ?_, ?_, ?_, s.frz, ?_, s.oo, ?_, s.dfr, s.siz, fun t => (s.fr t).grow gr⟩, gr⟩
  · intro x o hx
    have : x ≠ be i := fun e => by subst e; rw [hh] at hx; cases hx
    rw [Hp.set_other _ _ this]; exact s.sub x o hx
  · intro j cs' ty hj
    rcases cases_ j _ hj with ⟨rfl, e⟩ | ⟨e, hj'⟩
    · cases e; exact ⟨hh, vs, hg.grow gr, by simp [Hp.set]⟩
    · obtain ⟨h1, vs', h2, h3⟩ := s.box j cs' ty hj'
      have : be j ≠ be i := fun e' => e (s.bb j i _ _ _ _ hj' hi e')
      exact ⟨h1, vs', h2.grow gr, by rw [Hp.set_other _ _ this]; exact h3⟩
  · intro j b hj
    rcases cases_ j _ hj with ⟨_, e⟩ | ⟨e, hj'⟩
    · cases e
    · exact s.pub j b hj'
  · intro j s' e sz by_ nn xs hj
    refine (s.own j s' e sz by_ nn xs hj).keep fun g hg' => ?_
    obtain ⟨h1, cap, cur, _, h3⟩ := (s.own j s' e sz by_ nn xs hj).block hg'
    exact ⟨Hp.set_other _ _ (fun e' => by subst e'; exact s.bo i _ _ j _ _ _ _ _ _ hi hj hg'), h1⟩
  · intro x y cs1 ty1 cs2 ty2 hx hy e
    rcases cases_ x _ hx with ⟨rfl, e1⟩ | ⟨e1, hx'⟩ <;> rcases cases_ y _ hy with ⟨rfl, e2⟩ | ⟨e2, hy'⟩
    · rfl
    · exact s.bb _ _ _ _ _ _ hi hy' e
    · exact s.bb _ _ _ _ _ _ hx' hi e
    · exact s.bb _ _ _ _ _ _ hx' hy' e
  · intro x cs1 ty1 j s' e sz by_ nn xs hx hj
    rcases cases_ x _ hx with ⟨rfl, e1⟩ | ⟨e1, hx'⟩
    · exact s.bo _ _ _ j _ _ _ _ _ _ hi hj
    · exact s.bo _ _ _ j _ _ _ _ _ _ hx' hj
end
end Go.H
