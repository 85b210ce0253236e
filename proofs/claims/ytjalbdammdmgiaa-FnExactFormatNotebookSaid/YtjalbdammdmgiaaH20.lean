/- Plain laws over the model: what a function's code asks is enough. -/
import Derived.Test.YtjalbdammdmgiaaH19
namespace Go.H
set_option linter.unusedVariables false
set_option linter.unusedSimpArgs false
section
variable {P : Program} {h0 : Hp} {w0 : World} {be : Nat → Nat} {oe : Nat → Value} {H : Hp} {st : St} {h : Hp} {a : Act} {w : World}

theorem bound_of (s : Sim P h0 w0 be oe H st h a w) : ∀ i cs ty, nth st.bx i = some (.live cs ty) → AllOwn (fun j k => ∃ s, stamp st j = some s ∧ k ≤ s) cs := by
  intro i cs ty hi
  obtain ⟨_, vs, g, _⟩ := s.box i cs ty hi
  have : ∀ (cs : List Cell) (vs : List Value), GoodCs st oe cs vs → AllOwn (fun j k => ∃ s, stamp st j = some s ∧ k ≤ s) cs := by
    intro cs
    induction cs with
    | nil => intro vs _; trivial
    | cons c r ih =>
      intro vs g
      cases vs with
      | nil => exact g.elim
      | cons v vs =>
        cases c with
        | val x => exact ih vs g.2
        | own j k =>
          obtain ⟨s', h1, h2, _⟩ := g.1
          exact ⟨⟨s', h1, h2⟩, ih vs g.2⟩
  exact this cs vs g

theorem post_mono {Q Q' : Ex → St → Hp → Prop} (hq : ∀ e st h, Q e st h → Q' e st h) : ∀ e a w, Post P h0 w0 Q e a w → Post P h0 w0 Q' e a w
  | .normal, a, w, ⟨st, h, be, oe, H, k, s⟩ => ⟨st, h, be, oe, H, hq _ _ _ k, s⟩
  | .exit i, a, w, ⟨st, h, be, oe, H, k, s⟩ => ⟨st, h, be, oe, H, hq _ _ _ k, s⟩
  | .ret, a, w, ⟨st, h, be, oe, H, k, s⟩ => ⟨st, h, be, oe, H, hq _ _ _ k, s⟩

theorem least (p : Nat → Prop) (h : ∃ n, p n) : ∃ n, p n ∧ ∀ m, p m → n ≤ m := by
  obtain ⟨n, hn⟩ := h
  induction n using Nat.strongRecOn with
  | _ n ih =>
    by_cases hx : ∃ m, m < n ∧ p m
    · obtain ⟨m, hm, hp⟩ := hx
      exact ih m hm hp
    · exact ⟨n, hn, fun m hm => Nat.le_of_not_lt fun hlt => hx ⟨m, hlt, hm⟩⟩

theorem lenL_eq : ∀ (a b : List Value), lenL a b = true → a.length = b.length
  | [], [], _ => rfl
  | _ :: r, _ :: r', h => by simp [lenL_eq r r' h]
  | [], _ :: _, h => by cases h
  | _ :: _, [], h => by cases h

/-- one slot at the head again -/
theorem fr_end {A : Ann} {ds : List Nat} {st e st2 : St} {dyn sta : List (Nat × AV)} {v1' : List Value} {av1 : ∀ t, (look (zipV A.vars v1' (dyn ++ sta)) t = look (dyn ++ sta) t ∧ t ∉ A.vars) ∨ (∃ v, look (zipV A.vars v1' (dyn ++ sta)) t = .val v ∧ rdA e (look e.fr t) = .val v)}
    (s : Sim P h0 w0 be oe H e h a w) (hfr : st2.fr = zipV A.vars v1' (dyn ++ sta)) (hlb : st2.bx.length = st.bx.length) (hlow : ∀ i, stamp st2 i = stamp st i)
    (hoa : ∀ i k, (i ∉ A.owns ∨ i ∈ A.kept) → stamp st i = some k → stamp e i = stamp st2 i)
    (d1 : ∀ p ∈ dyn, p.1 ∈ ds) (d2 : ∀ p ∈ dyn, DynOk st p.1 p.2) (d3 : ∀ t ∈ ds, t ∉ A.vars → ∃ av, (t, av) ∈ dyn)
    (s1 : ∀ t, t ∉ ds → StableH A st (look sta t)) (hsd : ∀ t av, (t, av) ∈ dyn → (∀ i k, av = .own i k → ∃ k', rdA e (look e.fr t) = .own i k') ∧ (∀ i o, av = .box i o → rdA e (look e.fr t) = .box i o))
    (htail : ∀ t, look sta t = .dead ∨ look e.fr t = look sta t) : ∀ t, Good st2 be oe (look st2.fr t) (a.tmps.getD t undef) := by
  intro t
  rw [hfr]
  have gt := s.fr t
  have gr := s.rdA gt
  rcases av1 t with ⟨h1, hv⟩ | ⟨v, h1, h2⟩
  · rw [h1]
    rcases look_app dyn sta t with ⟨av, m1, m2⟩ | ⟨m1, m2⟩
    · rw [m2]
      obtain ⟨q1, q2⟩ := hsd t av m1
      rcases d2 _ m1 with rfl | ⟨i, k, rfl, hs, _⟩ | ⟨i, o, rfl, hb, _⟩
      · trivial
      · obtain ⟨k', hk'⟩ := q1 i k rfl
        rw [hk'] at gr
        refine ⟨k, by rw [hlow, hs], Nat.le_refl _, fun _ => ?_⟩
        obtain ⟨e1, sz1, by1, nn1, xs1, hn1⟩ := rdA_own hk'
        exact gr.own_cur hn1
      · rw [q2 i o rfl] at gr
        exact ⟨by rw [hlb]; exact hb, gr.2⟩
    · rw [m2]
      have htd : t ∉ ds := fun hd => by
        obtain ⟨av, hm⟩ := d3 t hd hv
        exact m1 av hm
      rcases htail t with hdd | e1
      · rw [hdd]; trivial
      have hs := s1 t htd
      rw [e1] at gt
      cases hl : look sta t with
      | val v => rw [hl] at gt; exact gt
      | hel s0 idx sz k => rw [hl] at gt; exact gt
      | dead => trivial
      | agg cs =>
        rw [hl] at gt hs
        obtain ⟨vs, k1, k2⟩ := gt
        refine ⟨vs, k1, ?_⟩
        have : ∀ (cs : List Cell) (vs : List Value), noOwn cs = true → GoodCs e oe cs vs → GoodCs st2 oe cs vs := by
          intro cs
          induction cs with
          | nil => intro vs _ g; cases vs <;> exact g
          | cons c r ih =>
            intro vs hno g
            cases vs with
            | nil => exact g.elim
            | cons v vs =>
              cases c with
              | val x => exact ⟨g.1, ih vs hno g.2⟩
              | own j k => cases hno
        exact this cs vs hs k2
      | box i o =>
        rw [hl] at gt hs
        exact ⟨by rw [hlb]; exact hs, gt.2⟩
      | own i k =>
        rw [hl] at gt hs
        obtain ⟨hs1, hs2⟩ := hs
        obtain ⟨s', k1, k2, k3⟩ := gt
        refine ⟨k, by rw [hlow, hs2], Nat.le_refl _, fun _ => ?_⟩
        have : stamp e i = stamp st2 i := hoa i k hs1 hs2
        rw [this, hlow, hs2] at k1
        cases k1
        exact k3 rfl
      | oel i s0 idx sz k => rw [hl] at hs; exact hs.elim
  · rw [h1]
    rw [h2] at gr
    exact gr

theorem adopt_sound : ∀ (l : List (Nat × Nat × Nat × Nat)) (st : St) (oe : Nat → Value) {K : St → Prop}, Sim P h0 w0 be oe H st h a w → adopt l st K → ∃ st' oe', K st' ∧ Sim P h0 w0 be oe' H st' h a w
  | [], st, oe, K, s, he => ⟨st, oe, he, s⟩
  | (t, e, sz, by_) :: r, ⟨n, fr, bx, ow⟩, oe, K, s, he => by
    simp only [adopt] at he
    split at he
    · rename_i hr hlt
      rw [lenK_eq] at he
      have gv := s.rdA (s.fr t)
      have hv : a.tmps.getD t undef = .slice none 0 0 := by
        have : rdA ⟨n, fr, bx, ow⟩ (look fr t) = .val (.slice none 0 0) := hr
        rw [show rdA ⟨n, fr, bx, ow⟩ (look (St.mk n fr bx ow).fr t) = .val (.slice none 0 0) from this] at gv
        exact gv
      have hO : OwnH h H (.slice none 0 0) e sz false [] := ⟨by simp, .inl ⟨rfl, rfl, rfl⟩⟩
      obtain ⟨s1, gr⟩ := s.newOwn (by_ := by_) (fun b o hb => hb) (Moved.refl s.mv.vis) hO (by simp [Value.ownBlock])
      refine adopt_sound r _ _ (s1.refr (fr := (t, .own ow.length 0) :: fr) fun u => ?_) he
      rw [look_cons]
      by_cases eu : t = u
      · subst eu
        rw [if_pos rfl, hv]
        exact ⟨0, by simp [stamp, nth_snoc], Nat.le_refl _, fun _ => by simp⟩
      · rw [if_neg eu]
        exact s1.fr u
    · exact he.elim
theorem adoptB_sound : ∀ (l : List (Nat × Nat × Nat × Nat × Nat)) (st : St) (oe : Nat → Value) {K : St → Prop}, Sim P h0 w0 be oe H st h a w → adoptB l st K → ∃ st' oe', K st' ∧ Sim P h0 w0 be oe' H st' h a w
  | [], st, oe, K, s, he => ⟨st, oe, he, s⟩
  | (i, k, e, sz, by_) :: r, ⟨n, fr, bx, ow⟩, oe, K, s, he => by
    simp only [adoptB] at he
    split at he
    rotate_left
    · exact he.elim
    rename_i cs ty hn
    split at he
    rotate_left
    · exact he.elim
    rename_i hk
    rw [lenK_eq] at he
    have hO : OwnH h H (.slice none 0 0) e sz false [] := ⟨by simp, .inl ⟨rfl, rfl, rfl⟩⟩
    obtain ⟨s1, gr⟩ := s.newOwn (by_ := by_) (fun b o hb => hb) (Moved.refl s.mv.vis) hO (by simp [Value.ownBlock])
    have hlt := nth_lt hn
    refine adoptB_sound r _ (fun j => if j = ow.length then .slice none 0 0 else oe j) ?_ he
    have gr2 : Grow ⟨n, fr, bx, ow ++ [⟨0, .live e sz by_ false []⟩]⟩ be (fun j => if j = ow.length then .slice none 0 0 else oe j) ⟨n, fr, updN bx i (.live (updN cs k (.own ow.length 0)) ty), ow ++ [⟨0, .live e sz by_ false []⟩]⟩ be (fun j => if j = ow.length then .slice none 0 0 else oe j) :=
      ⟨by simp [length_updN], fun _ _ => rfl, fun i s h => ⟨s, h, Nat.le_refl _, fun _ => rfl⟩⟩
    have hlive : ∀ j cs' ty', nth (updN bx i (.live (updN cs k (.own ow.length 0)) ty)) j = some (.live cs' ty') → ∃ cs0, nth bx j = some (.live cs0 ty') := fun j cs' ty' hj => by
      rw [nth_updN _ _ _ hlt] at hj
      split at hj
      · rename_i e'; subst e'; cases hj; exact ⟨cs, hn⟩
      · exact ⟨cs', hj⟩
    refine ⟨s1.mv, s1.sub, fun j cs' ty' hj => ?_, fun j b hj => ?_, s1.own, s1.frz, fun j j' c1 t1 c2 t2 h1 h2 => ?_, s1.oo, fun j cs' ty' j' s0 e0 sz0 by0 nn xs hj hj' => ?_, s1.dfr, s1.siz, fun t => (s1.fr t).grow gr2⟩
    · rw [nth_updN _ _ _ hlt] at hj
      split at hj
      · rename_i e'
        subst e'
        cases hj
        obtain ⟨k1, vs, k2, k3⟩ := s1.box j cs ty hn
        refine ⟨k1, vs, ?_, k3⟩
        obtain ⟨v, v1, v2⟩ := k2.nth hk
        have hv : v = .slice none 0 0 := v2
        have := (k2.grow gr2).upd (k := k) (c := .own ow.length 0) (v := v) (by rw [hv]; exact ⟨0, by simp [stamp, nth_snoc], Nat.le_refl _, fun _ => by simp⟩)
        rwa [show vs.set k v = vs from by
          obtain ⟨hi, hx⟩ := List.getElem?_eq_some_iff.1 v1
          rw [← hx]; exact List.set_getElem_self hi] at this
      · obtain ⟨k1, vs, k2, k3⟩ := s1.box j cs' ty' hj
        exact ⟨k1, vs, k2.grow gr2, k3⟩
    · rw [nth_updN _ _ _ hlt] at hj
      split at hj
      · cases hj
      · exact s1.pub j b hj
    · obtain ⟨c1', h1'⟩ := hlive _ _ _ h1
      obtain ⟨c2', h2'⟩ := hlive _ _ _ h2
      exact s1.bb j j' _ _ _ _ h1' h2'
    · obtain ⟨c1', h1'⟩ := hlive _ _ _ hj
      exact s1.bo j _ _ j' _ _ _ _ _ _ h1' hj'

theorem pubS_sound : ∀ (l : List Nat) {st : St} {h : Hp} {K : St → Hp → Prop}, Sim P h0 w0 be oe H st h a w → pubS l st h K → ∃ st' h', K st' h' ∧ Sim P h0 w0 be oe H st' h' a w
  | [], st, h, K, s, he => ⟨st, h, he, s⟩
  | t :: r, st, h, K, s, he => by
    simp only [pubS] at he
    obtain ⟨⟨n, fr, bx, ow⟩, h', hk, s1, _⟩ := rfy_sound s (s.rdA (s.fr t)) he
    dsimp only at hk
    split at hk
    · refine pubS_sound r (s1.refr (fr := (t, .val (a.tmps.getD t undef)) :: fr) fun u => ?_) hk
      rw [look_cons]
      by_cases eu : t = u
      · subst eu
        rw [if_pos rfl]
        rfl
      · rw [if_neg eu]
        exact s1.fr u
    · exact hk.elim

set_option maxHeartbeats 1000000 in
theorem loop_sound {body : Code} {ds0 : List Nat} {Q : Ex → St → Hp → Prop}
    (ih : ∀ (Q : Ex → St → Hp → Prop) (st : St) (h : Hp) (a : Act) (w : World) (be : Nat → Nat) (oe : Nat → Value) (H : Hp), Sim P h0 w0 be oe H st h a w → ev P body Q st h → body.wp P (Post P h0 w0 Q) a w)
    (s : Sim P h0 w0 be oe H st h a w) (he : loopF (fun Q => ev P body Q) ds0 Q st h) : (Code.loop body).wp P (Post P h0 w0 Q) a w := by
  obtain ⟨A, I, μ, he⟩ := he
  obtain ⟨st, oe, he, s⟩ := adopt_sound _ _ _ s he
  obtain ⟨st, oe, he, s⟩ := adoptB_sound _ _ _ s he
  obtain ⟨st, h, he, s⟩ := pubS_sound _ s he
  unfold getA at he
  obtain ⟨v1, hv1, he, hz⟩ := getV_spec st _ he
  obtain ⟨v2, he, hbx⟩ := bx_self st _ he
  obtain ⟨os0, hos, ⟨hI, he⟩, how⟩ := ow_self st _ he
  rw [forceN_eq] at he
  obtain ⟨dyn, he, d1, d2, d3, _⟩ := headD_spec A st _ _ he (by simp)
  obtain ⟨sta, hbody, s1⟩ := headS_spec A ds0 st _ he
  have d1' : ∀ p ∈ dyn, p.1 ∈ ds0 := fun p hp => (d1 p hp).resolve_right (by simp)
  have s1' : ∀ t, t ∉ ds0 → StableH A st (look sta t) := fun t ht => by
    rcases s1 t ht with h | ⟨_, h⟩
    · rw [h]; trivial
    · exact h
  have hrun := fun (vs : List Value) (hvs : vs.length = (v1 ++ v2).length) (os : List (List (List Value))) (hosl : os.length = os0.length) => forallO_elim _ (forallV_elim _ hbody vs hvs) os hosl
  -- the head
  let hd : List Value → List BSt → List Own → St := fun v1 bx ow => ⟨st.n, zipV A.vars v1 (dyn ++ sta), bx, ow⟩
  let Inv : Nat → Act → World → Prop := fun m a w => ∃ (vs : List Value) (os : List (List (List Value))) (u1 u2 : List Value) (bx : List BSt) (ow : List Own) (h' : Hp) (be : Nat → Nat) (oe : Nat → Value) (H : Hp),
    vs.length = (v1 ++ v2).length ∧ os.length = os0.length ∧ vs = u1 ++ u2 ∧ u1.length = A.vars.length ∧ (∀ K2, setBx A.boxes u2 st.bx K2 = K2 bx) ∧ (∀ K2, setOw A.owns os st.ow K2 = K2 ow) ∧
      atI A I μ m vs os h' ∧ Sim P h0 w0 be oe H (hd u1 bx ow) h' a w
  have bd0 := bound_of s
  have hbase : ∀ m a w, Inv m a w → body.wp P (Exit.then (fun a w => ∃ m', Inv m' a w ∧ m' < m) (Post P h0 w0 Q)) a w := by
    rintro m a w ⟨vs, os, u1, u2, bx, ow, h', be, oe, H, hvs, hosl, rfl, hu1, hsb, hso, hI, hS⟩
    have hr := headK_at (hrun _ hvs os hosl) hI
    rw [← hu1, splitV_app, hsb, hso] at hr
    refine Code.wp_mono (fun e a' w' hp => ?_) (ih _ _ _ _ _ _ _ _ hS hr)
    cases e with
    | normal =>
      obtain ⟨e, h2, be2, oe2, H2, hend, s2⟩ := hp
      dsimp only at hend
      obtain ⟨e, h2, hend, s2⟩ := pubS_sound _ s2 hend
      unfold endL at hend
      split at hend
      · rename_i hbn hsd
        obtain ⟨hpop, hsx, hsw, hg⟩ := hend
        have hn := Nat.eq_of_beq_eq_true hbn
        have hx := sameBx_spec 0 _ _ hsx
        have hw' := sameOw_spec 0 _ _ hsw
        simp only [Nat.zero_add] at hx hw'
        unfold getA at hg
        obtain ⟨x1, hx1, hg, hz2⟩ := getV_spec e _ hg
        -- the variables
        have hin : ∀ (is : List Nat) {K : List Value → Prop}, getBx is e K → (∀ i ∈ is, i ∈ A.boxes) → (∀ i ∈ is, (nth st.bx i).isSome = true) →
            ∀ i ∈ is, ∃ cs ty cs', nth st.bx i = some (.live cs ty) ∧ nth e.bx i = some (.live cs' ty) ∧ ShC e cs cs' := by
          intro is K _ hA hsome i hi
          cases hb : nth st.bx i with
          | none => have := hsome i hi; rw [hb] at this; cases this
          | some b =>
            rcases hx i b hb with ⟨_, cs, ty, cs', rfl, h2, h3⟩ | ⟨h1, _⟩
            · exact ⟨cs, ty, cs', rfl, h2, h3⟩
            · exact absurd (hA i hi) h1
        have hsome : ∀ i ∈ A.boxes, (nth st.bx i).isSome = true := by
          have gen : ∀ (is : List Nat) (vs : List Value) (bx : List BSt), (setBx is vs bx fun _ => True) → ∀ i ∈ is, (nth bx i).isSome = true := by
            intro is
            induction is with
            | nil => intro vs bx _ i hi; cases hi
            | cons j r ih =>
              intro vs bx hs i hi
              simp only [setBx] at hs
              split at hs
              · rename_i cs ty hn
                rcases List.mem_cons.1 hi with rfl | hi
                · rw [hn]; rfl
                · have hc : ∀ (cs : List Cell) (vs : List Value) (K : List Cell → List Value → Prop), cellSet cs vs K → ∃ a b, K a b := by
                    intro cs
                    induction cs with
                    | nil => intro vs K h; exact ⟨_, _, h⟩
                    | cons c r ih =>
                      intro vs K h
                      cases c with
                      | val v =>
                        cases vs with
                        | nil => exact h.elim
                        | cons v' vs => obtain ⟨a, b, h⟩ := ih _ _ h; exact ⟨_, _, h⟩
                      | own i k => obtain ⟨a, b, h⟩ := ih _ _ h; exact ⟨_, _, h⟩
                  obtain ⟨a, b, hs⟩ := hc _ _ _ hs
                  have := ih _ _ hs i hi
                  rw [nth_updN _ _ _ (nth_lt hn)] at this
                  split at this
                  · rename_i e'; rw [e', hn]; rfl
                  · exact this
              · exact hs.elim
          exact gen A.boxes v2 st.bx (by rw [hbx]; trivial)
        have hsomeO : ∀ i ∈ A.owns, (nth st.ow i).isSome = true := by
          have gen : ∀ (is : List Nat) (vs : List (List (List Value))) (ow : List Own), (setOw is vs ow fun _ => True) → ∀ i ∈ is, (nth ow i).isSome = true := by
            intro is
            induction is with
            | nil => intro vs bx _ i hi; cases hi
            | cons j r ih =>
              intro vs ow hs i hi
              cases vs with
              | nil => exact hs.elim
              | cons x vs =>
                simp only [setOw] at hs
                split at hs
                · rename_i hn
                  rcases List.mem_cons.1 hi with rfl | hi
                  · rw [hn]; rfl
                  · have := ih _ _ hs i hi
                    rw [nth_updN _ _ _ (nth_lt hn)] at this
                    split at this
                    · rename_i e'; rw [e', hn]; rfl
                    · exact this
                · exact hs.elim
          exact gen A.owns os0 st.ow (by rw [how]; trivial)
        obtain ⟨x2, hg, bx2, t1, t2, t3, t4, t5⟩ := bx_turn e A.boxes st.bx (hin _ hg (fun _ h => h) hsome) hg
        have hinO : ∀ i ∈ A.owns, ∃ s e1 sz by_ nn xs0 s' nn' xs, nth st.ow i = some ⟨s, .live e1 sz by_ nn xs0⟩ ∧ nth e.ow i = some ⟨s', .live e1 sz by_ nn' xs⟩ ∧ (nn = true → nn' = true) := fun i hi => by
          cases hb : nth st.ow i with
          | none => have := hsomeO i hi; rw [hb] at this; cases this
          | some b =>
            rcases hw' i b hb with ⟨_, s, e1, sz, by_, nn, xs0, s', nn', xs, rfl, h2, h3, _⟩ | ⟨h1, _⟩
            · exact ⟨s, e1, sz, by_, nn, xs0, s', nn', xs, rfl, h2, h3⟩
            · exact absurd hi h1
        obtain ⟨os2, o0, hg, ow2, o1, o2, o3, o4⟩ := ow_turn e A.owns st.ow hinO hg
        split at hg
        rotate_left
        · exact hg.elim
        rename_i hlen
        rw [← hx1, splitV_app, t1, o1] at hg
        obtain ⟨m2, hI2, hlt⟩ := endI_at hg
        have hstamp : ∀ i, stamp (hd x1 bx2 ow2) i = stamp st i := fun i => by
          have := o4 i
          unfold stamp
          simp only [hd]
          cases h1 : nth ow2 i <;> cases h2 : nth st.ow i <;> rw [h1, h2] at this <;> simp at this <;> simp [this]
        refine ⟨m2, ⟨x1 ++ x2, os2, x1, x2, bx2, ow2, h2, be2, oe2, H2, ?_, ?_, rfl, hx1, t1, o1, hI2, ?_⟩, hlt⟩
        · rw [← hvs]; exact lenL_eq _ _ hlen
        · rw [o0]
          have : os0.length = A.owns.length := hos
          rw [this]
        · refine head_sim (A := A) s2 hn ?_ ?_ ?_ ?_
          · intro i b hi
            by_cases hm : i ∈ A.boxes
            · obtain ⟨cs2, ty, cs', k1, k2, k3⟩ := t4 i hm
              have : nth bx2 i = some b := hi
              rw [k1] at this
              cases this
              exact .inl ⟨cs2, ty, cs', rfl, k2, k3⟩
            · have : nth bx2 i = some b := hi
              rw [t3 i hm] at this
              rcases hx i b this with ⟨h1, _⟩ | ⟨_, h2, h3⟩
              · exact absurd h1 hm
              · exact .inr ⟨h2, h3⟩
          · intro i o hi
            by_cases hm : i ∈ A.owns
            · obtain ⟨s0, e1, sz, by_, nn, s', nn', xs, k1, k2, k3⟩ := o3 i hm
              have : nth ow2 i = some o := hi
              rw [k1] at this
              cases this
              exact .inl ⟨⟨s0, e1, sz, by_, nn, s', nn', xs, rfl, k2, k3⟩, hm⟩
            · have : nth ow2 i = some o := hi
              rw [o2 i hm] at this
              rcases hw' i o this with ⟨h1, _⟩ | ⟨_, h2⟩
              · exact absurd h1 hm
              · exact .inr ⟨h2, hm⟩
          · intro i cs ty hi
            have := t5 _ bd0 i cs ty hi
            have hh : (fun j k => ∃ s, stamp (hd x1 bx2 ow2) j = some s ∧ k ≤ s) = (fun j k => ∃ s, stamp st j = some s ∧ k ≤ s) := by
              funext j k; rw [hstamp]
            rw [hh]
            exact this
          · refine fr_end (A := A) (ds := ds0) (st := st) (av1 := fun t => hz2 (dyn ++ sta) t) s2 rfl t2 hstamp ?_ d1' d2 d3 s1' (sameD_spec dyn hsd) (lookL_spec _ hpop)
            intro i k hi hk
            show stamp e i = stamp (hd x1 bx2 ow2) i
            rw [hstamp i]
            cases hb : nth st.ow i with
            | none => unfold stamp at hk; rw [hb] at hk; cases hk
            | some b =>
              rcases hw' i b hb with ⟨h1, s0, e1, sz, by_, nn, xs0, s', nn', xs, rfl, h2, _, h4⟩ | ⟨_, h2⟩
              · have := h4 (hi.resolve_left (fun h => h h1))
                simp [stamp, hb, h2, this]
              · unfold stamp
                rw [hb, h2]
      · exact hend.elim
    | exit i => exact hp
    | ret => exact hp
    | _ => exact hp
  -- the first head
  have hS0 : Sim P h0 w0 be oe H (hd v1 st.bx st.ow) h a w := by
    refine s.refr (fr := zipV A.vars v1 (dyn ++ sta)) fun t => ?_
    have gt := s.fr t
    have gr := s.rdA gt
    rcases hz (dyn ++ sta) t with ⟨h1, hv⟩ | ⟨v, h1, h2⟩
    · rw [h1]
      rcases look_app dyn sta t with ⟨av, m1, m2⟩ | ⟨m1, m2⟩
      · rw [m2]
        rcases d2 _ m1 with rfl | ⟨i, k, rfl, _, hr⟩ | ⟨i, o, rfl, _, hr⟩
        · trivial
        · rw [hr] at gr; exact gr
        · rw [hr] at gr; exact gr
      · rw [m2]
        have htd : t ∉ ds0 := fun hd => by
          obtain ⟨av, hm⟩ := d3 t hd hv
          exact m1 av hm
        rcases s1 t htd with h | ⟨h, _⟩
        · rw [h]; trivial
        · rw [h]; exact gr
    · rw [h1]
      rw [h2] at gr
      exact gr
  obtain ⟨m0, hI⟩ := headI_at (μ := μ) hI
  have hI0 : Inv m0 a w := ⟨v1 ++ v2, os0, v1, v2, st.bx, st.ow, h, be, oe, H, rfl, rfl, rfl, hv1, hbx, how, hI, hS0⟩
  -- the measure: the least that is reached
  classical
  let M : Act → World → Nat := fun a w => if hx : ∃ m, Inv m a w then Classical.choose (least _ hx) else 0
  refine wp_loop (fun a w => ∃ m, Inv m a w) M ⟨_, hI0⟩ fun a w hx => ?_
  have hM : M a w = Classical.choose (least _ hx) := by simp only [M, dif_pos hx]
  refine Code.wp_mono (fun e a' w' hq => ?_) (hbase _ a w (Classical.choose_spec (least _ hx)).1)
  cases e with
  | normal =>
    obtain ⟨m', hm', hlt⟩ := hq
    refine ⟨⟨m', hm'⟩, ?_⟩
    have hx' : ∃ m, Inv m a' w' := ⟨m', hm'⟩
    have : M a' w' = Classical.choose (least _ hx') := by simp only [M, dif_pos hx']
    rw [hM, this]
    exact Nat.lt_of_le_of_lt ((Classical.choose_spec (least _ hx')).2 m' hm') hlt
  | _ => exact hq
end
end Go.H
