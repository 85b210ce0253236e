/- Plain laws over the model: the state at a loop's head stands for what is there. -/
import Derived.Test.YtjalbdammdmgiaaH18
namespace Go.H
set_option linter.unusedVariables false
set_option linter.unusedSimpArgs false

def StableH (A : Ann) (st : St) : AV → Prop
  | .val _ | .hel _ _ _ _ | .dead => True
  | .agg cs => noOwn cs = true
  | .box i _ => i < st.bx.length
  | .own i k => (i ∉ A.owns ∨ i ∈ A.kept) ∧ stamp st i = some k
  | .oel _ _ _ _ _ => False

theorem rdA_box {st : St} {av : AV} {i off : Nat} (h : rdA st av = .box i off) : i < st.bx.length := by
  cases av with
  | box j o =>
    simp only [rdA] at h
    split at h
    · rename_i hn; cases h; exact nth_lt hn
    · cases h
    · cases h
  | own j k =>
    simp only [rdA] at h
    split at h
    · split at h
      · split at h <;> cases h
      · cases h
    · cases h
  | oel j s idx sz k =>
    simp only [rdA] at h
    split at h
    · split at h <;> cases h
    · cases h
  | _ => cases h

theorem stamp_own {st : St} {av : AV} {i k : Nat} (h : rdA st av = .own i k) : stamp st i = some k := by
  obtain ⟨e, sz, by_, nn, xs, hn⟩ := rdA_own h
  simp [stamp, hn]

theorem headS_spec (A : Ann) (ds : List Nat) (st : St) : ∀ (l : List (Nat × AV)) {K : List (Nat × AV) → Prop}, headS A ds st l K → ∃ sta, K sta ∧ ∀ t, t ∉ ds →
    look sta t = .dead ∨ (look sta t = rdA st (look l t) ∧ StableH A st (look sta t))
  | [], K, h => ⟨[], h, fun t _ => .inl rfl⟩
  | (s, av) :: r, K, h => by
    have put : ∀ av', (av' = .dead ∨ (av' = rdA st av ∧ StableH A st av')) → (headS A ds st r fun l => K ((s, av') :: l)) → ∃ sta, K sta ∧ ∀ t, t ∉ ds →
        look sta t = .dead ∨ (look sta t = rdA st (look ((s, av) :: r) t) ∧ StableH A st (look sta t)) := by
      intro av' hav h
      obtain ⟨sta, h1, h2⟩ := headS_spec A ds st r h
      refine ⟨_, h1, fun t ht => ?_⟩
      rw [look_cons, look_cons]
      by_cases e : s = t
      · rw [if_pos e, if_pos e]; exact hav
      · rw [if_neg e, if_neg e]; exact h2 t ht
    simp only [headS] at h
    split at h
    · rename_i hm
      obtain ⟨sta, h1, h2⟩ := headS_spec A ds st r h
      refine ⟨sta, h1, fun t ht => ?_⟩
      rw [look_cons, if_neg (fun e => ht (by rw [← e]; exact (memN_iff _ _).1 hm))]
      exact h2 t ht
    · split at h
      · rename_i i k hr
        split at h
        · exact put _ (.inl rfl) h
        · rename_i hm
          refine put _ (.inr ⟨hr.symm, ?_, stamp_own hr⟩) h
          cases h1 : memN i A.owns with
          | false => exact .inl (memN_false h1)
          | true =>
            cases h2 : memN i A.kept with
            | true => exact .inr ((memN_iff _ _).1 h2)
            | false => exact absurd h2 (hm h1)
      · exact put _ (.inl rfl) h
      · rename_i cs hr
        split at h
        · rename_i hno
          exact put _ (.inr ⟨hr.symm, hno⟩) h
        · exact put _ (.inl rfl) h
      · rename_i h1 h2 h3
        refine put _ (.inr ⟨rfl, ?_⟩) h
        cases hr : rdA st av with
        | own i k => exact absurd hr (h1 i k)
        | oel i s0 idx sz k => exact absurd hr (h2 i s0 idx sz k)
        | agg cs => exact absurd hr (h3 cs)
        | box i o => exact rdA_box hr
        | val v => trivial
        | hel s0 idx sz k => trivial
        | dead => trivial

/-- what an entry of a written slot is -/
def DynOk (st : St) (t : Nat) (av : AV) : Prop :=
  av = .dead ∨ (∃ i k, av = .own i k ∧ stamp st i = some k ∧ rdA st (look st.fr t) = .own i k) ∨ (∃ i o, av = .box i o ∧ i < st.bx.length ∧ rdA st (look st.fr t) = .box i o)

theorem headD_spec (A : Ann) (st : St) : ∀ (l : List Nat) (acc : List (Nat × AV)) {K : List (Nat × AV) → Prop}, headD A st l acc K → (∀ p ∈ acc, DynOk st p.1 p.2) →
    ∃ dyn, K dyn ∧ (∀ p ∈ dyn, p.1 ∈ l ∨ p ∈ acc) ∧ (∀ p ∈ dyn, DynOk st p.1 p.2) ∧ (∀ t ∈ l, t ∉ A.vars → ∃ av, (t, av) ∈ dyn) ∧ (∀ p ∈ acc, p ∈ dyn)
  | [], acc, K, h, ha => ⟨acc, h, fun p hp => .inr hp, ha, by simp, fun _ h => h⟩
  | s :: r, acc, K, h, ha => by
    have put : ∀ av', DynOk st s av' → headD A st r ((s, av') :: acc) K → ∃ dyn, K dyn ∧ (∀ p ∈ dyn, p.1 ∈ s :: r ∨ p ∈ acc) ∧ (∀ p ∈ dyn, DynOk st p.1 p.2) ∧ (∀ t ∈ s :: r, t ∉ A.vars → ∃ av, (t, av) ∈ dyn) ∧ (∀ p ∈ acc, p ∈ dyn) := by
      intro av' hav h
      obtain ⟨dyn, h1, h2, h3, h4, h5⟩ := headD_spec A st r _ h (fun p hp => by
        rcases List.mem_cons.1 hp with rfl | hp
        · exact hav
        · exact ha p hp)
      refine ⟨dyn, h1, fun p hp => ?_, h3, fun t ht hv => ?_, fun p hp => h5 p (List.mem_cons_of_mem _ hp)⟩
      · rcases h2 p hp with h | h
        · exact .inl (List.mem_cons_of_mem _ h)
        · rcases List.mem_cons.1 h with rfl | h
          · exact .inl (List.mem_cons_self ..)
          · exact .inr h
      · rcases List.mem_cons.1 ht with rfl | ht
        · exact ⟨av', h5 _ (List.mem_cons_self ..)⟩
        · exact h4 t ht hv
    simp only [headD] at h
    split at h
    · rename_i hm
      obtain ⟨dyn, h1, h2, h3, h4, h5⟩ := headD_spec A st r _ h ha
      refine ⟨dyn, h1, fun p hp => (h2 p hp).imp (List.mem_cons_of_mem _) id, h3, fun t ht hv => ?_, h5⟩
      rcases List.mem_cons.1 ht with rfl | ht
      · exact absurd ((memN_iff _ _).1 hm) hv
      · exact h4 t ht hv
    · split at h
      · rename_i i k hr
        exact put _ (.inr (.inl ⟨i, k, rfl, stamp_own hr, hr⟩)) h
      · rename_i i o hr
        exact put _ (.inr (.inr ⟨i, o, rfl, rdA_box hr, hr⟩)) h
      · exact put _ (.inl rfl) h

theorem look_app : ∀ (dyn sta : List (Nat × AV)) (t : Nat), (∃ av, (t, av) ∈ dyn ∧ look (dyn ++ sta) t = av) ∨ ((∀ av, (t, av) ∉ dyn) ∧ look (dyn ++ sta) t = look sta t)
  | [], sta, t => .inr ⟨by simp, rfl⟩
  | (s, av) :: r, sta, t => by
    simp only [List.cons_append]
    rw [look_cons]
    by_cases e : s = t
    · subst e
      exact .inl ⟨av, List.mem_cons_self .., if_pos rfl⟩
    · rw [if_neg e]
      rcases look_app r sta t with ⟨av', h1, h2⟩ | ⟨h1, h2⟩
      · exact .inl ⟨av', List.mem_cons_of_mem _ h1, h2⟩
      · exact .inr ⟨fun av' h => by
          rcases List.mem_cons.1 h with h | h
          · cases h; exact e rfl
          · exact h1 av' h, h2⟩

theorem sameD_spec {hd e : St} : ∀ (dyn : List (Nat × AV)), sameD hd e dyn = true → ∀ t av, (t, av) ∈ dyn → (∀ i k, av = .own i k → ∃ k', rdA e (look e.fr t) = .own i k') ∧ (∀ i o, av = .box i o → rdA e (look e.fr t) = .box i o)
  | [], _, t, av, h => by cases h
  | (s, x) :: r, hs, t, av, h => by
    have key : sameD hd e r = true ∧ (∀ i k, x = .own i k → ∃ k', rdA e (look e.fr s) = .own i k') ∧ (∀ i o, x = .box i o → rdA e (look e.fr s) = .box i o) := by
      simp only [sameD] at hs
      split at hs
      · split at hs
        · rename_i hr
          split at hs
          · rename_i hb
            refine ⟨hs, fun i k hx => ?_, (fun i o hx => nomatch hx)⟩
            cases hx
            exact ⟨_, by rw [hr, Nat.eq_of_beq_eq_true hb]⟩
          · cases hs
        · cases hs
      · split at hs
        · rename_i hr
          split at hs
          · rename_i hb1 hb2
            refine ⟨hs, (fun i k hx => nomatch hx), fun i o hx => ?_⟩
            cases hx
            rw [hr, Nat.eq_of_beq_eq_true hb1, Nat.eq_of_beq_eq_true hb2]
          · cases hs
        · cases hs
      · rename_i h1 h2
        exact ⟨hs, fun i k hx => absurd hx (h1 i k), fun i o hx => absurd hx (h2 i o)⟩
    rcases List.mem_cons.1 h with h | h
    · cases h; exact key.2
    · exact sameD_spec r key.1 t av h

theorem lookL_spec {fr : List (Nat × AV)} : ∀ (sta : List (Nat × AV)), lookL fr sta = avsL sta → ∀ t, look sta t = .dead ∨ look fr t = look sta t
  | [], _, t => .inl rfl
  | (s, av) :: r, h, t => by
    rw [look_cons]
    simp only [lookL, avsL] at h
    cases hd : isDead av with
    | true =>
      rw [hd] at h
      by_cases e : s = t
      · rw [if_pos e]
        left
        cases av <;> first | rfl | cases hd
      · rw [if_neg e]
        exact lookL_spec r h t
    | false =>
      rw [hd] at h
      simp only [List.cons.injEq] at h
      by_cases e : s = t
      · subst e
        rw [if_pos rfl]
        exact .inr h.1
      · rw [if_neg e]
        exact lookL_spec r h.2 t

theorem goodCs_eq {e st2 : St} {be : Nat → Nat} {oe : Nat → Value} : ∀ {cs2 cs' : List Cell} {vs : List Value}, EqC e cs2 cs' → AllOwn (fun j k => ∃ s, stamp st2 j = some s ∧ k ≤ s) cs2 → GoodCs e oe cs' vs → GoodCs st2 oe cs2 vs
  | [], [], [], _, _, _ => trivial
  | .val v :: r, .val v' :: r', x :: vs, h, ha, g => ⟨by rw [show x = v' from g.1, h.1]; rfl, goodCs_eq (be := be) h.2 ha g.2⟩
  | .own i k :: r, .own j k' :: r', x :: vs, h, ha, g => by
    obtain ⟨hij, ⟨b, hr⟩, h⟩ := h
    subst hij
    obtain ⟨⟨s, s1, s2⟩, ha⟩ := ha
    refine ⟨⟨s, s1, s2, fun _ => ?_⟩, goodCs_eq (be := be) h ha g.2⟩
    obtain ⟨_, hb⟩ := rdA_own_same hr
    subst hb
    obtain ⟨s', t1, t2, t3⟩ := g.1
    rw [stamp_own hr] at t1
    cases t1
    exact t3 rfl
  | [], _ :: _, _, h, _, _ => h.elim
  | .val _ :: _, [], _, h, _, _ => h.elim
  | .own _ _ :: _, [], _, h, _, _ => h.elim
  | .val _ :: _, .own _ _ :: _, _, h, _, _ => h.elim
  | .own _ _ :: _, .val _ :: _, _, h, _, _ => h.elim
  | _, _ :: _, [], _, _, g => g.elim
  | _, [], _ :: _, _, _, g => g.elim

theorem goodCs_clear {os : List Nat} {e st2 : St} {oe : Nat → Value} (hst : ∀ j, j ∉ os → ∀ s, stamp st2 j = some s → stamp e j = some s) : ∀ {cs : List Cell} {vs : List Value}, clearCs os cs = true →
    AllOwn (fun j k => ∃ s, stamp st2 j = some s ∧ k ≤ s) cs → GoodCs e oe cs vs → GoodCs st2 oe cs vs
  | [], [], _, _, _ => trivial
  | .val v :: r, x :: vs, h, ha, g => ⟨g.1, goodCs_clear hst h ha g.2⟩
  | .own i k :: r, x :: vs, h, ha, g => by
    simp only [clearCs] at h
    split at h
    · cases h
    · rename_i hm
      obtain ⟨⟨s, s1, s2⟩, ha⟩ := ha
      refine ⟨⟨s, s1, s2, fun hk => ?_⟩, goodCs_clear hst h ha g.2⟩
      obtain ⟨s', t1, t2, t3⟩ := g.1
      rw [hst i (memN_false hm) s s1] at t1
      cases t1
      exact t3 hk
  | [], _ :: _, _, _, g => g.elim
  | _ :: _, [], _, _, g => g.elim

section
variable {P : Program} {h0 : Hp} {w0 : World} {be : Nat → Nat} {oe : Nat → Value} {H : Hp} {h : Hp} {a : Act} {w : World}

theorem head_sim {A : Ann} {e st2 : St} (s : Sim P h0 w0 be oe H e h a w) (hn : e.n = st2.n)
    (hb : ∀ i b, nth st2.bx i = some b → (∃ cs2 ty cs', b = .live cs2 ty ∧ nth e.bx i = some (.live cs' ty) ∧ EqC e cs2 cs') ∨ (nth e.bx i = some b ∧ clearB A.owns b = true))
    (ho : ∀ i o, nth st2.ow i = some o → (∃ s t sz by_ nn s' nn' xs, o = ⟨s, .live t sz by_ nn xs⟩ ∧ nth e.ow i = some ⟨s', .live t sz by_ nn' xs⟩ ∧ (nn = true → nn' = true)) ∧ i ∈ A.owns ∨ (nth e.ow i = some o ∧ i ∉ A.owns))
    (bd : ∀ i cs ty, nth st2.bx i = some (.live cs ty) → AllOwn (fun j k => ∃ s, stamp st2 j = some s ∧ k ≤ s) cs)
    (hf : ∀ t, Good st2 be oe (look st2.fr t) (a.tmps.getD t undef)) : Sim P h0 w0 be oe H st2 h a w := by
  have hst : ∀ j, j ∉ A.owns → ∀ s, stamp st2 j = some s → stamp e j = some s := fun j hj s0 hs => by
    unfold stamp at hs ⊢
    cases ho' : nth st2.ow j with
    | none => rw [ho'] at hs; cases hs
    | some o =>
      rw [ho'] at hs
      rcases ho j o ho' with ⟨_, h⟩ | ⟨h, _⟩
      · exact absurd h hj
      · rw [h]; exact hs
  have hlive : ∀ i cs ty, nth st2.bx i = some (.live cs ty) → ∃ cs', nth e.bx i = some (.live cs' ty) := fun i cs ty hi => by
    rcases hb i _ hi with ⟨cs2, ty2, cs', he, h2, _⟩ | ⟨h2, _⟩
    · cases he; exact ⟨cs', h2⟩
    · exact ⟨cs, h2⟩
  have hol : ∀ i s0 t sz by_ nn xs, nth st2.ow i = some ⟨s0, .live t sz by_ nn xs⟩ → ∃ s' nn', nth e.ow i = some ⟨s', .live t sz by_ nn' xs⟩ ∧ (nn = true → nn' = true) := fun i s0 t sz by_ nn xs hi => by
    rcases ho i _ hi with ⟨⟨s1, t1, sz1, by1, nn1, s', nn', xs1, he, h2, h3⟩, _⟩ | ⟨h2, _⟩
    · cases he; exact ⟨s', nn', h2, h3⟩
    · exact ⟨s0, nn, h2, id⟩
  refine ⟨s.mv, s.sub, fun i cs ty hi => ?_, fun i b hi => ?_, fun i s0 t sz by_ nn xs hi => ?_, fun i s0 v hi => ?_, fun i j cs ty cs' ty' hi hj => ?_, fun i j s0 t sz by_ nn xs s1 t1 sz1 by1 nn1 xs1 g hi hj => ?_, fun i cs ty j s0 t sz by_ nn xs hi hj => ?_, s.dfr, by rw [s.siz, hn], hf⟩
  · rcases hb i _ hi with ⟨cs2, ty2, cs', he, h2, h3⟩ | ⟨h2, h3⟩
    · cases he
      obtain ⟨k1, vs, k2, k3⟩ := s.box i cs' ty h2
      exact ⟨k1, vs, goodCs_eq (be := be) h3 (bd i _ _ hi) k2, k3⟩
    · obtain ⟨k1, vs, k2, k3⟩ := s.box i cs ty h2
      exact ⟨k1, vs, goodCs_clear hst h3 (bd i _ _ hi) k2, k3⟩
  · rcases hb i _ hi with ⟨cs2, ty2, cs', he, h2, h3⟩ | ⟨h2, h3⟩
    · cases he
    · exact s.pub i b h2
  · obtain ⟨s', nn', h2, h3⟩ := hol i _ _ _ _ _ _ hi
    obtain ⟨k1, k2⟩ := s.own i _ _ _ _ _ _ h2
    refine ⟨k1, k2.imp (fun ⟨a1, a2, a3⟩ => ⟨a1, a2, ?_⟩) id⟩
    cases nn with
    | false => rfl
    | true => rw [h3 rfl] at a3; cases a3
  · rcases ho i _ hi with ⟨⟨s1, t1, sz1, by1, nn1, s', nn', xs1, he, h2, h3⟩, _⟩ | ⟨h2, _⟩
    · cases he
    · exact s.frz i s0 v h2
  · obtain ⟨c1, h1⟩ := hlive i cs ty hi
    obtain ⟨c2, h2⟩ := hlive j cs' ty' hj
    exact s.bb i j _ _ _ _ h1 h2
  · obtain ⟨_, _, h1, _⟩ := hol i _ _ _ _ _ _ hi
    obtain ⟨_, _, h2, _⟩ := hol j _ _ _ _ _ _ hj
    exact s.oo i j _ _ _ _ _ _ _ _ _ _ _ _ g h1 h2
  · obtain ⟨c1, h1⟩ := hlive i cs ty hi
    obtain ⟨_, _, h2, _⟩ := hol j _ _ _ _ _ _ hj
    exact s.bo i _ _ j _ _ _ _ _ _ h1 h2
end
end Go.H
