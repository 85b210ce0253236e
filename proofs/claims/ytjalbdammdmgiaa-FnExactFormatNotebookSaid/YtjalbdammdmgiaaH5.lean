/- Plain laws over the model: slices of the call's own: made, written, handed on. -/
import Derived.Test.YtjalbdammdmgiaaH4
namespace Go.H
set_option linter.unusedVariables false
section
variable {P : Program} {h0 : Hp} {w0 : World} {be : Nat → Nat} {oe : Nat → Value} {H : Hp} {st : St} {h : Hp} {a : Act} {w : World}

theorem stamp_snoc (st : St) (o : Own) (i s : Nat) (hs : stamp st i = some s) : stamp { st with ow := st.ow ++ [o] } i = some s := by
  unfold stamp at *
  have hl : i < st.ow.length := by
    cases hn : nth st.ow i with
    | none => rw [hn] at hs; cases hs
    | some x => exact nth_lt hn
  rw [show nth ({ st with ow := st.ow ++ [o] } : St).ow i = nth st.ow i from by rw [nth_snoc, if_neg (Nat.ne_of_lt hl)]]
  exact hs

theorem Sim.newOwn (s : Sim P h0 w0 be oe H st h a w) {v : Value} {e sz by_ : Nat} {nn : Bool} {xs : List (List Value)} {H' : Hp} {w' : World}
    (hH : ∀ b o, H b = some o → H' b = some o) (m : Moved H w H' w') (ho : OwnH h H' v e sz nn xs) (hnew : ∀ g, v.ownBlock = some g → H g = none) :
    let oe' := fun j => if j = st.ow.length then v else oe j
    let st' : St := { st with ow := st.ow ++ [⟨0, .live e sz by_ nn xs⟩] }
    Sim P h0 w0 be oe' H' st' h a w' ∧ Grow st be oe st' be oe' := by
  intro oe' st'
  have gr : Grow st be oe st' be oe' := by
    refine ⟨Nat.le_refl _, fun _ _ => rfl, fun i s hs => ⟨s, stamp_snoc st _ i s hs, Nat.le_refl _, fun _ => ?_⟩⟩
    have hl : i < st.ow.length := by
      unfold stamp at hs
      cases hn : nth st.ow i with
      | none => rw [hn] at hs; cases hs
      | some x => exact nth_lt hn
    simp [oe', Nat.ne_of_lt hl]
  have cases_ : ∀ i x, nth st'.ow i = some x → (i = st.ow.length ∧ x = ⟨0, .live e sz by_ nn xs⟩) ∨ (i ≠ st.ow.length ∧ nth st.ow i = some x) := by
    intro i x hi
    simp only [st', nth_snoc] at hi
    split at hi
    · rename_i e; simp at hi; exact .inl ⟨e, hi.symm⟩
    · rename_i e; exact .inr ⟨e, hi⟩
  have keepB : ∀ b, H b ≠ none → H' b = H b := by
    intro b hb
    cases hc : H b with
    | none => exact absurd hc hb
    | some o => exact hH b o hc
  refine ⟨⟨s.mv.trans m, fun b o hb => hH b o (s.sub b o hb), ?_, s.pub, ?_, ?_, s.bb, ?_, ?_, s.dfr, s.siz, fun t => (s.fr t).grow gr⟩, gr⟩
  · intro i cs ty hi
    obtain ⟨h1, vs, h2, h3⟩ := s.box i cs ty hi
    exact ⟨h1, vs, h2.grow gr, hH _ _ h3⟩
  · intro i s' e1 sz1 by1 nn1 xs1 hi
    rcases cases_ i _ hi with ⟨rfl, e2⟩ | ⟨e2, hi'⟩
    · cases e2
      simp only [oe', if_pos rfl]
      exact ho
    · simp only [oe', if_neg e2]
      refine (s.own i _ _ _ _ _ _ hi').keep fun g hg => ?_
      obtain ⟨h1, cap, cur, _, h3⟩ := (s.own i _ _ _ _ _ _ hi').block hg
      exact ⟨keepB g (by rw [h3]; simp), h1⟩
  · intro i s' v' hi
    rcases cases_ i _ hi with ⟨rfl, e2⟩ | ⟨e2, hi'⟩
    · cases e2
    · simp only [oe', if_neg e2]; exact s.frz i s' v' hi'
  · intro i j s1 e1 sz1 by1 nn1 xs1 s2 e2 sz2 by2 nn2 xs2 g hi hj gi gj
    have hv : ∀ k s1 e1 sz1 by1 nn1 xs1, nth st.ow k = some ⟨s1, .live e1 sz1 by1 nn1 xs1⟩ → (oe k).ownBlock = some g → v.ownBlock ≠ some g := fun k _ _ _ _ _ _ hk hg hc => by
      obtain ⟨h1, cap, cur, _, h3⟩ := (s.own k _ _ _ _ _ _ hk).block hg
      rw [hnew g hc] at h3; cases h3
    rcases cases_ i _ hi with ⟨rfl, e3⟩ | ⟨e3, hi'⟩ <;> rcases cases_ j _ hj with ⟨rfl, e4⟩ | ⟨e4, hj'⟩
    · rfl
    · simp only [oe', if_pos rfl] at gi; simp only [oe', if_neg e4] at gj; exact absurd gi (hv j _ _ _ _ _ _ hj' gj)
    · simp only [oe', if_neg e3] at gi; simp only [oe', if_pos rfl] at gj; exact absurd gj (hv i _ _ _ _ _ _ hi' gi)
    · simp only [oe', if_neg e3] at gi; simp only [oe', if_neg e4] at gj; exact s.oo i j _ _ _ _ _ _ _ _ _ _ _ _ g hi' hj' gi gj
  · intro i cs ty j s1 e1 sz1 by1 nn1 xs1 hi hj hc
    rcases cases_ j _ hj with ⟨rfl, e4⟩ | ⟨e4, hj'⟩
    · simp only [oe', if_pos rfl] at hc
      obtain ⟨_, vs, _, h3⟩ := s.box i cs ty hi
      rw [hnew _ hc] at h3; cases h3
    · simp only [oe', if_neg e4] at hc; exact s.bo i cs ty j _ _ _ _ _ _ hi hj' hc

theorem Sim.updOwn (s : Sim P h0 w0 be oe H st h a w) {i s0 e0 sz0 by0 : Nat} {nn0 : Bool} {xs0 : List (List Value)} (hi : nth st.ow i = some ⟨s0, .live e0 sz0 by0 nn0 xs0⟩)
    {v : Value} {s1 e sz by_ : Nat} {nn : Bool} {xs : List (List Value)} {H' : Hp} {w' : World} (hs : s0 ≤ s1) (hv : s1 = s0 → v = oe i)
    (m : Moved H w H' w') (hk : ∀ b, (oe i).ownBlock ≠ some b → H b ≠ none → H' b = H b) (ho : OwnH h H' v e sz nn xs)
    (hnew : ∀ g, v.ownBlock = some g → (oe i).ownBlock = some g ∨ H g = none) :
    let oe' := fun j => if j = i then v else oe j
    let st' : St := { st with ow := updN st.ow i ⟨s1, .live e sz by_ nn xs⟩ }
    Sim P h0 w0 be oe' H' st' h a w' ∧ Grow st be oe st' be oe' := by
  intro oe' st'
  have hlt := nth_lt hi
  have gr : Grow st be oe st' be oe' := by
    refine ⟨Nat.le_refl _, fun _ _ => rfl, fun j t ht => ?_⟩
    unfold stamp at ht ⊢
    simp only [st', nth_updN _ _ _ hlt]
    by_cases e1 : j = i
    · subst e1
      rw [hi] at ht
      simp at ht
      subst ht
      refine ⟨s1, by simp, hs, fun e2 => ?_⟩
      simp only [oe', if_pos rfl]; exact hv e2
    · rw [if_neg e1]
      refine ⟨t, ht, Nat.le_refl _, fun _ => ?_⟩
      simp only [oe', if_neg e1]
  have cases_ : ∀ j x, nth st'.ow j = some x → (j = i ∧ x = ⟨s1, .live e sz by_ nn xs⟩) ∨ (j ≠ i ∧ nth st.ow j = some x) := by
    intro j x hj
    simp only [st', nth_updN _ _ _ hlt] at hj
    split at hj
    · rename_i e; simp at hj; exact .inl ⟨e, hj.symm⟩
    · rename_i e; exact .inr ⟨e, hj⟩
  have hblk : ∀ g, (oe i).ownBlock = some g → h g = none := fun g hg => ((s.own i _ _ _ _ _ _ hi).block hg).1
  have other : ∀ j s1 e1 sz1 by1 nn1 xs1 g, j ≠ i → nth st.ow j = some ⟨s1, .live e1 sz1 by1 nn1 xs1⟩ → (oe j).ownBlock = some g → (oe i).ownBlock ≠ some g ∧ v.ownBlock ≠ some g := by
    intro j s1 e1 sz1 by1 nn1 xs1 g hne hj hg
    have h1 : (oe i).ownBlock ≠ some g := fun hc => hne (s.oo j i _ _ _ _ _ _ _ _ _ _ _ _ g hj hi hg hc)
    refine ⟨h1, fun hc => ?_⟩
    rcases hnew g hc with h2 | h2
    · exact h1 h2
    · obtain ⟨_, cap, cur, _, h3⟩ := (s.own j _ _ _ _ _ _ hj).block hg
      rw [h2] at h3; cases h3
  have bx_ : ∀ k cs ty, nth st.bx k = some (.live cs ty) → (oe i).ownBlock ≠ some (be k) ∧ v.ownBlock ≠ some (be k) := by
    intro k cs ty hk'
    have h1 := s.bo k cs ty i _ _ _ _ _ _ hk' hi
    refine ⟨h1, fun hc => ?_⟩
    rcases hnew _ hc with h2 | h2
    · exact h1 h2
    · obtain ⟨_, vs, _, h3⟩ := s.box k cs ty hk'
      rw [h2] at h3; cases h3
  refine ⟨⟨s.mv.trans m, ?_, ?_, s.pub, ?_, ?_, s.bb, ?_, ?_, s.dfr, s.siz, fun t => (s.fr t).grow gr⟩, gr⟩
  · intro b o hb
    have hH := s.sub b o hb
    rw [hk b (fun hc => by rw [hblk b hc] at hb; cases hb) (by rw [hH]; simp)]
    exact hH
  · intro k cs ty hk'
    obtain ⟨h1, vs, h2, h3⟩ := s.box k cs ty hk'
    exact ⟨h1, vs, h2.grow gr, by rw [hk _ (bx_ k cs ty hk').1 (by rw [h3]; simp)]; exact h3⟩
  · intro j s' e1 sz1 by1 nn1 xs1 hj
    rcases cases_ j _ hj with ⟨rfl, e2⟩ | ⟨e2, hj'⟩
    · cases e2
      simp only [oe', if_pos rfl]
      exact ho
    · simp only [oe', if_neg e2]
      refine (s.own j _ _ _ _ _ _ hj').keep fun g hg => ?_
      obtain ⟨h1, cap, cur, _, h3⟩ := (s.own j _ _ _ _ _ _ hj').block hg
      exact ⟨hk g (other j _ _ _ _ _ _ g e2 hj' hg).1 (by rw [h3]; simp), h1⟩
  · intro j s' v' hj
    rcases cases_ j _ hj with ⟨rfl, e2⟩ | ⟨e2, hj'⟩
    · cases e2
    · simp only [oe', if_neg e2]; exact s.frz j s' v' hj'
  · intro x y s1 e1 sz1 by1 nn1 xs1 s2 e2 sz2 by2 nn2 xs2 g hx hy gx gy
    rcases cases_ x _ hx with ⟨rfl, e3⟩ | ⟨e3, hx'⟩ <;> rcases cases_ y _ hy with ⟨rfl, e4⟩ | ⟨e4, hy'⟩
    · rfl
    · simp only [oe', if_pos rfl] at gx; simp only [oe', if_neg e4] at gy; exact absurd gx (other y _ _ _ _ _ _ g e4 hy' gy).2
    · simp only [oe', if_neg e3] at gx; simp only [oe', if_pos rfl] at gy; exact absurd gy (other x _ _ _ _ _ _ g e3 hx' gx).2
    · simp only [oe', if_neg e3] at gx; simp only [oe', if_neg e4] at gy; exact s.oo x y _ _ _ _ _ _ _ _ _ _ _ _ g hx' hy' gx gy
  · intro k cs ty j s1 e1 sz1 by1 nn1 xs1 hk' hj hc
    rcases cases_ j _ hj with ⟨rfl, e4⟩ | ⟨e4, hj'⟩
    · simp only [oe', if_pos rfl] at hc; exact (bx_ k cs ty hk').2 hc
    · simp only [oe', if_neg e4] at hc; exact s.bo k cs ty j _ _ _ _ _ _ hk' hj' hc

theorem Sim.freeze (s : Sim P h0 w0 be oe H st h a w) {i s0 e sz by_ : Nat} {nn : Bool} {xs : List (List Value)} (hi : nth st.ow i = some ⟨s0, .live e sz by_ nn xs⟩) :
    ∃ h', Froze h h' (oe i) e sz nn xs ∧ Sim P h0 w0 be oe H { st with ow := updN st.ow i ⟨s0, .frozen (oe i)⟩ } h' a w ∧
      Grow st be oe { st with ow := updN st.ow i ⟨s0, .frozen (oe i)⟩ } be oe := by
  have hlt := nth_lt hi
  have ho := s.own i _ _ _ _ _ _ hi
  have gr : Grow st be oe { st with ow := updN st.ow i ⟨s0, .frozen (oe i)⟩ } be oe := by
    refine ⟨Nat.le_refl _, fun _ _ => rfl, fun j t ht => ⟨t, ?_, Nat.le_refl _, fun _ => rfl⟩⟩
    unfold stamp at ht ⊢
    simp only [nth_updN _ _ _ hlt]
    by_cases e1 : j = i
    · subst e1; rw [hi] at ht; simpa using ht
    · rw [if_neg e1]; exact ht
  have cases_ : ∀ j x, nth (updN st.ow i ⟨s0, .frozen (oe i)⟩) j = some x → (j = i ∧ x = ⟨s0, .frozen (oe i)⟩) ∨ (j ≠ i ∧ nth st.ow j = some x) := by
    intro j x hj
    simp only [nth_updN _ _ _ hlt] at hj
    split at hj
    · rename_i e; simp at hj; exact .inl ⟨e, hj.symm⟩
    · rename_i e; exact .inr ⟨e, hj⟩
  -- the heap that is looked at gains the slice's block
  have main : ∀ h', (∀ b, (oe i).ownBlock ≠ some b → h' b = h b) → (∀ b o, h' b = some o → H b = some o) →
      Sim P h0 w0 be oe H { st with ow := updN st.ow i ⟨s0, .frozen (oe i)⟩ } h' a w := by
    intro h' hk hsub
    refine ⟨s.mv, hsub, ?_, s.pub, ?_, ?_, s.bb, ?_, ?_, s.dfr, s.siz, fun t => (s.fr t).grow gr⟩
    · intro k cs ty hk'
      obtain ⟨h1, vs, h2, h3⟩ := s.box k cs ty hk'
      exact ⟨by rw [hk _ (s.bo k cs ty i _ _ _ _ _ _ hk' hi)]; exact h1, vs, h2.grow gr, h3⟩
    · intro j s' e1 sz1 by1 nn1 xs1 hj
      rcases cases_ j _ hj with ⟨rfl, e2⟩ | ⟨e2, hj'⟩
      · cases e2
      · refine (s.own j _ _ _ _ _ _ hj').keep fun g hg => ⟨rfl, ?_⟩
        rw [hk g (fun hc => e2 (s.oo j i _ _ _ _ _ _ _ _ _ _ _ _ g hj' hi hg hc))]
        exact ((s.own j _ _ _ _ _ _ hj').block hg).1
    · intro j s' v' hj
      rcases cases_ j _ hj with ⟨rfl, e2⟩ | ⟨e2, hj'⟩
      · cases e2; rfl
      · exact s.frz j s' v' hj'
    · intro x y s1 e1 sz1 by1 nn1 xs1 s2 e2 sz2 by2 nn2 xs2 g hx hy gx gy
      rcases cases_ x _ hx with ⟨rfl, e3⟩ | ⟨e3, hx'⟩ <;> rcases cases_ y _ hy with ⟨rfl, e4⟩ | ⟨e4, hy'⟩
      · rfl
      · cases e3
      · cases e4
      · exact s.oo x y _ _ _ _ _ _ _ _ _ _ _ _ g hx' hy' gx gy
    · intro k cs ty j s1 e1 sz1 by1 nn1 xs1 hk' hj hc
      rcases cases_ j _ hj with ⟨rfl, e4⟩ | ⟨e4, hj'⟩
      · cases e4
      · exact s.bo k cs ty j _ _ _ _ _ _ hk' hj' hc
  rcases ho.2 with ⟨hv, hx, hn⟩ | ⟨g, cap, cur, hv, h1, h2, r⟩
  · exact ⟨h, ⟨ho.1, .inl ⟨hv, hx, hn, rfl⟩⟩, main h (fun _ _ => rfl) s.sub, gr⟩
  · refine ⟨h.set g (.cells cur e (0, 0)), ⟨ho.1, .inr ⟨g, cap, cur, hv, h1, rfl, r⟩⟩, main _ ?_ ?_, gr⟩
    · intro b hb
      exact Hp.set_other _ _ (fun e' => hb (by rw [hv]; simp [Value.ownBlock, e']))
    · intro b o hb
      by_cases e' : b = g
      · subst e'; simp [Hp.set] at hb; subst hb; exact h2
      · rw [Hp.set_other _ _ e'] at hb; exact s.sub b o hb

theorem Sim.publ (s : Sim P h0 w0 be oe H st h a w) {i : Nat} {cs : List Cell} {ty : TypeId} (hi : nth st.bx i = some (.live cs ty)) {vs : List Value}
    (hH : H (be i) = some (.cells vs.toArray ty (0, 0))) :
    h (be i) = none ∧ Sim P h0 w0 be oe H { st with bx := updN st.bx i (.publ (be i)) } (h.set (be i) (.cells vs.toArray ty (0, 0))) a w ∧
      Grow st be oe { st with bx := updN st.bx i (.publ (be i)) } be oe := by
  have hlt := nth_lt hi
  have hh := (s.box i cs ty hi).1
  have gr : Grow st be oe { st with bx := updN st.bx i (.publ (be i)) } be oe :=
    ⟨by simp [length_updN], fun _ _ => rfl, fun j t ht => ⟨t, ht, Nat.le_refl _, fun _ => rfl⟩⟩
  have cases_ : ∀ j x, nth (updN st.bx i (.publ (be i))) j = some x → (j = i ∧ x = .publ (be i)) ∨ (j ≠ i ∧ nth st.bx j = some x) := by
    intro j x hj
    simp only [nth_updN _ _ _ hlt] at hj
    split at hj
    · rename_i e; simp at hj; exact .inl ⟨e, hj.symm⟩
    · rename_i e; exact .inr ⟨e, hj⟩
  refine ⟨hh, ⟨s.mv, ?_, ?_, ?_, ?_, s.frz, ?_, s.oo, ?_, s.dfr, s.siz, fun t => (s.fr t).grow gr⟩, gr⟩
  · intro b o hb
    by_cases e' : b = be i
    · subst e'; simp [Hp.set] at hb; subst hb; exact hH
    · rw [Hp.set_other _ _ e'] at hb; exact s.sub b o hb
  · intro k cs' ty' hk
    rcases cases_ k _ hk with ⟨rfl, e⟩ | ⟨e, hk'⟩
    · cases e
    · obtain ⟨h1, vs', h2, h3⟩ := s.box k cs' ty' hk'
      exact ⟨by rw [Hp.set_other _ _ (fun e' => e (s.bb k i _ _ _ _ hk' hi e'))]; exact h1, vs', h2.grow gr, h3⟩
  · intro k b hk
    rcases cases_ k _ hk with ⟨rfl, e⟩ | ⟨e, hk'⟩
    · cases e; rfl
    · exact s.pub k b hk'
  · intro j s' e1 sz1 by1 nn1 xs1 hj
    refine (s.own j _ _ _ _ _ _ hj).keep fun g hg => ⟨rfl, ?_⟩
    rw [Hp.set_other _ _ (fun e' => by subst e'; exact s.bo i cs ty j _ _ _ _ _ _ hi hj hg)]
    exact ((s.own j _ _ _ _ _ _ hj).block hg).1
  · intro x y cs1 ty1 cs2 ty2 hx hy e
    rcases cases_ x _ hx with ⟨_, e1⟩ | ⟨e1, hx'⟩
    · cases e1
    rcases cases_ y _ hy with ⟨_, e2⟩ | ⟨e2, hy'⟩
    · cases e2
    exact s.bb _ _ _ _ _ _ hx' hy' e
  · intro x cs1 ty1 j s' e sz by_ nn xs hx hj
    rcases cases_ x _ hx with ⟨_, e1⟩ | ⟨e1, hx'⟩
    · cases e1
    · exact s.bo _ _ _ j _ _ _ _ _ _ hx' hj

/-! ## reading -/
theorem Sim.rdA (s : Sim P h0 w0 be oe H st h a w) {av : AV} {x : Value} (g : Good st be oe av x) : Good st be oe (rdA st av) x := by
  cases av with
  | own i k =>
    simp only [Go.H.rdA]
    split
    · rename_i s' o hn
      split
      · rename_i hb
        have hk := Nat.eq_of_beq_eq_true hb
        split
        · exact g
        · rename_i v
          obtain ⟨t, h1, _, h3⟩ := g
          have : t = s' := by simp [stamp, hn] at h1; exact h1.symm
          subst this
          have := h3 hk.symm
          rw [s.frz i _ v hn] at this
          exact this
      · trivial
    · trivial
  | box i off =>
    simp only [Go.H.rdA]
    split
    · exact g
    · rename_i b hn
      have := g.2
      rw [s.pub i b hn] at this
      exact this
    · trivial
  | oel i k idx sz f =>
    simp only [Go.H.rdA]
    split
    · split
      · exact g
      · trivial
    · trivial
  | _ => exact g

theorem Sim.rdO (s : Sim P h0 w0 be oe H st h a w) (x : Operand) : Good st be oe (rdO st x) (a.eval x) := by
  cases x with
  | tmp t => exact s.rdA (s.fr t)
  | const v => rfl
  | global g => trivial
  | func f => rfl

/-- what 'rdA' gives of an own slice is as it stands -/
theorem rdA_own {st : St} {av : AV} {i k : Nat} (h : Go.H.rdA st av = .own i k) : ∃ e sz by_ nn xs, nth st.ow i = some ⟨k, .live e sz by_ nn xs⟩ := by
  cases av with
  | own j l =>
    simp only [Go.H.rdA] at h
    split at h
    · rename_i s' o hn
      split at h
      · rename_i hb
        split at h
        · cases h
          rw [Nat.eq_of_beq_eq_true hb] at hn
          exact ⟨_, _, _, _, _, hn⟩
        · cases h
      · cases h
    · cases h
  | box j off => simp only [Go.H.rdA] at h; split at h <;> cases h
  | oel j l idx sz f => simp only [Go.H.rdA] at h; split at h <;> (try split at h) <;> cases h
  | _ => cases h
theorem rdO_own {st : St} {x : Operand} {i k : Nat} (h : Go.H.rdO st x = .own i k) : ∃ e sz by_ nn xs, nth st.ow i = some ⟨k, .live e sz by_ nn xs⟩ := by
  cases x with
  | tmp t => exact rdA_own h
  | _ => cases h
theorem rdA_oel {st : St} {av : AV} {i k : Nat} {idx : Int} {sz f : Nat} (h : Go.H.rdA st av = .oel i k idx sz f) : ∃ e sz' by_ nn xs, nth st.ow i = some ⟨k, .live e sz' by_ nn xs⟩ := by
  cases av with
  | own j l => simp only [Go.H.rdA] at h; split at h <;> (try split at h) <;> (try split at h) <;> cases h
  | box j off => simp only [Go.H.rdA] at h; split at h <;> cases h
  | oel j l idx sz f =>
    simp only [Go.H.rdA] at h
    split at h
    · rename_i s' e1 sz1 by1 nn1 xs1 hn
      split at h
      · rename_i hb
        cases h
        rw [Nat.eq_of_beq_eq_true hb] at hn
        exact ⟨_, _, _, _, _, hn⟩
      · cases h
    · cases h
  | _ => cases h
theorem rdO_oel {st : St} {x : Operand} {i k : Nat} {idx : Int} {sz f : Nat} (h : Go.H.rdO st x = .oel i k idx sz f) : ∃ e sz' by_ nn xs, nth st.ow i = some ⟨k, .live e sz' by_ nn xs⟩ := by
  cases x with
  | tmp t => exact rdA_oel h
  | _ => cases h
theorem Good.own_cur {st : St} {be : Nat → Nat} {oe : Nat → Value} {i k : Nat} {x : Value} {o : OSt} (g : Good st be oe (.own i k) x) (hn : nth st.ow i = some ⟨k, o⟩) : x = oe i := by
  obtain ⟨s, h1, _, h3⟩ := g
  have : s = k := by simp [stamp, hn] at h1; exact h1.symm
  exact h3 this.symm
theorem Good.oel_cur {st : St} {be : Nat → Nat} {oe : Nat → Value} {i k : Nat} {idx : Int} {sz f : Nat} {x : Value} {o : OSt} (g : Good st be oe (.oel i k idx sz f) x) (hn : nth st.ow i = some ⟨k, o⟩) :
    ∃ g n c, oe i = .slice (some ⟨g, 0, none⟩) n c ∧ x = ptr g (idx.toNat * sz + f) := by
  obtain ⟨s, h1, _, h3⟩ := g
  have : s = k := by simp [stamp, hn] at h1; exact h1.symm
  exact h3 this.symm
theorem valsOf_good {st : St} : ∀ {cs : List Cell} {vs ws : List Value}, valsOf cs = some vs → GoodCs st oe cs ws → ws = vs
  | [], vs, [], h, _ => by cases h; rfl
  | [], vs, _ :: _, h, g => g.elim
  | .val v :: r, vs, [], h, g => g.elim
  | .val v :: r, vs, w :: ws, h, g => by
    simp only [valsOf] at h
    split at h
    · rename_i vs' hr
      cases h
      obtain ⟨g1, g2⟩ := g
      rw [valsOf_good hr g2, show w = v from g1]
    · cases h
  | .own i k :: r, vs, ws, h, g => by cases h
theorem plainG_good {st : St} {av : AV} {v x : Value} (h : plainG av = some v) (g : Good st be oe av x) : x = v := by
  cases av with
  | val u => cases h; exact g
  | agg cs =>
    simp only [plainG] at h
    split at h
    · rename_i vs hv
      cases h
      obtain ⟨ws, rfl, g2⟩ := g
      rw [valsOf_good hv g2]
    · cases h
  | _ => cases h
end
end Go.H
