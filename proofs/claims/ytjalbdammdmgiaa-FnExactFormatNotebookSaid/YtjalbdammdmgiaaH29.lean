/- Plain laws over the model: a region that draws its order, whose operations that do something follow one another: any order will do. -/
import Derived.Test.YtjalbdammdmgiaaH26
namespace Go.H
set_option linter.unusedVariables false
set_option linter.unusedSimpArgs false

theorem getCo_C {P : Program} {t : TypeId} {cs : List Cell} {off : Nat} {av : AV} (h : getCo P t cs off = some av) : getC P t cs off fun a => a = av := by
  unfold getCo at h
  unfold getC
  cases hA : tAgg P t with
  | none => rw [hA] at h; cases h
  | some bb =>
    rw [hA] at h
    cases bb with
    | true =>
      cases hT : tSize P t with
      | none => rw [hT] at h; cases h
      | some m =>
        rw [hT] at h
        simp only at h ⊢
        split at h
        · rename_i hB
          cases h
          rw [hB]
        · cases h
    | false =>
      simp only at h ⊢
      split at h
      · rename_i c hN
        cases h
        rw [hN]
      · cases h

section
variable {P : Program} {h0 : Hp} {w0 : World} {be : Nat → Nat} {oe : Nat → Value} {H : Hp} {h : Hp} {a : Act} {w : World}

theorem rawS_good {L : List (Nat × Fact)} {st stX : St} {x : Operand}
    (hv : ∀ t, x = .tmp t → (∀ av, lookS L t = some (.pu av) → Good stX be oe av (a.tmps.getD t undef)) ∧ (lookS L t = none → Good stX be oe (look st.fr t) (a.tmps.getD t undef))) : Good stX be oe (rawS L st x) (a.eval x) := by
  cases x with
  | tmp t =>
    obtain ⟨h1, h2⟩ := hv t rfl
    show Good stX be oe (rawS L st (.tmp t)) (a.tmps.getD t undef)
    simp only [rawS]
    split
    · rename_i av e; exact h1 av e
    · trivial
    · rename_i e; exact h2 e
  | const v => exact rfl
  | global g => trivial
  | func f => trivial

theorem pureC_run {L : List (Nat × Fact)} {st stX : St} {o : Oper} {av : AV} (s : Sim P h0 w0 be oe H stX h a w) (hbx : stX.bx = st.bx) (hp : pureC P L o st = some av)
    (hv : ∀ t, Operand.tmp t ∈ o.op.operands → (∀ av, lookS L t = some (.pu av) → Good stX be oe av (a.tmps.getD t undef)) ∧ (lookS L t = none → Good stX be oe (look st.fr t) (a.tmps.getD t undef))) :
    ∃ v, (execOp a.eval o).run P w = .ok (.value v) w ∧ Good stX be oe av v := by
  unfold pureC at hp
  split at hp
  · rename_i x hx
    split at hp
    · cases hp
      refine ⟨a.eval x, ?_, rawS_good fun t ht => hv t (by rw [hx]; simp [Op.operands, ht])⟩
      unfold execOp; rw [hx]; rfl
    · cases hp
  · rename_i x hx
    split at hp
    · cases hp
      refine ⟨a.eval x, ?_, rawS_good fun t ht => hv t (by rw [hx]; simp [Op.operands, ht])⟩
      unfold execOp; rw [hx]; rfl
    · cases hp
  · rename_i t x hx
    have g := rawS_good (L := L) (st := st) (stX := stX) (be := be) (oe := oe) (a := a) (x := x) fun t ht => hv t (by rw [hx]; simp [Op.operands, ht])
    split at hp
    · rename_i i off hr
      rw [hr] at g
      split at hp
      · rename_i cs ty hn
        split at hp
        · rename_i av' hco
          split at hp
          · cases hp
            obtain ⟨h1, vs, h2, h3⟩ := s.box i cs ty (by rw [hbx]; exact hn)
            obtain ⟨av2, v, k1, k2, k3⟩ := R.load_row (H := H) (b := be i) (o := 0) (be := be) (getCo_C hco) h2 (fun j v hj => by simp [Hp.cell, h3, hj])
            subst k1
            exact ⟨v, R.run_of (R.exec_load hx g.2 (by simpa using k3)) w (vis_H s), k2⟩
          · cases hp
        · cases hp
      · cases hp
    · cases hp
  · rename_i t x k hx
    have g := rawS_good (L := L) (st := st) (stX := stX) (be := be) (oe := oe) (a := a) (x := x) fun t ht => hv t (by rw [hx]; simp [Op.operands, ht])
    split at hp
    · rename_i i off fo hr ht
      rw [hr] at g
      cases hp
      exact ⟨ptr (be i) (off + fo), R.run_of (R.exec_fieldAddr hx ht g.2) w (vis_H s), g.1, rfl⟩
    · cases hp
  · cases hp

theorem openC_elim {L : List (Nat × Fact)} {st stX : St} {val : Nat → Value} {K : List (Nat × AV) → Prop} : ∀ {l : List Operand} {acc : List (Nat × AV)},
    (∀ t, Good stX be oe (look acc t) (val t)) → (∀ t, Operand.tmp t ∈ l → (∀ av, lookS L t = some (.pu av) → Good stX be oe av (val t)) ∧ (lookS L t = none → Good stX be oe (look st.fr t) (val t))) →
    openC L st.fr l acc K → ∃ fr, K fr ∧ ∀ t, Good stX be oe (look fr t) (val t)
  | [], acc, h1, h2, he => ⟨acc, he, h1⟩
  | .tmp t :: r, acc, h1, h2, he => by
    have h2r : ∀ u, Operand.tmp u ∈ r → _ := fun u hu => h2 u (List.mem_cons_of_mem _ hu)
    have hx := h2 t (List.mem_cons_self ..)
    have put : ∀ av, Good stX be oe av (val t) → ∀ u, Good stX be oe (look ((t, av) :: acc) u) (val u) := fun av g u => by
      rw [look_cons]
      split
      · rename_i e; subst e; exact g
      · exact h1 u
    simp only [openC] at he
    split at he
    · rename_i av e
      exact openC_elim (put av (hx.1 _ e)) h2r he
    · rename_i F e
      exact openC_elim (put .dead trivial) h2r he
    · rename_i e
      exact openC_elim (put _ (hx.2 e)) h2r he
  | .const v :: r, acc, h1, h2, he => openC_elim (l := r) h1 (fun u hu => h2 u (List.mem_cons_of_mem _ hu)) he
  | .global v :: r, acc, h1, h2, he => openC_elim (l := r) h1 (fun u hu => h2 u (List.mem_cons_of_mem _ hu)) he
  | .func v :: r, acc, h1, h2, he => openC_elim (l := r) h1 (fun u hu => h2 u (List.mem_cons_of_mem _ hu)) he

theorem look_finC : ∀ (L : List (Nat × Fact)) (fr : List (Nat × AV)) (t : Nat), look (finC L fr) t = match lookS L t with
    | some (.pu av) => av
    | some (.ef _) => .dead
    | none => look fr t
  | [], fr, t => rfl
  | (d, .pu av) :: r, fr, t => by
    simp only [finC]
    rw [look_cons, lookS_cons]
    split
    · rfl
    · exact look_finC r fr t
  | (d, .ef F) :: r, fr, t => by
    simp only [finC]
    rw [look_cons, lookS_cons]
    split
    · rfl
    · exact look_finC r fr t

theorem pureC_agree {L L' : List (Nat × Fact)} {o : Oper} {st : St} (h : ∀ t, Operand.tmp t ∈ o.op.operands → lookS L t = lookS L' t) : pureC P L o st = pureC P L' o st := by
  have raw : ∀ x : Operand, (∀ t, x = .tmp t → Operand.tmp t ∈ o.op.operands) → rawS L st x = rawS L' st x := fun x hx => by
    cases x with
    | tmp t => simp only [rawS, h t (hx t rfl)]
    | _ => rfl
  unfold pureC
  split
  · rename_i x hx; rw [raw x fun t ht => by rw [hx]; simp [Op.operands, ht]]
  · rename_i x hx; rw [raw x fun t ht => by rw [hx]; simp [Op.operands, ht]]
  · rename_i t x hx; rw [raw x fun t ht => by rw [hx]; simp [Op.operands, ht]]
  · rename_i t x k hx; rw [raw x fun t ht => by rw [hx]; simp [Op.operands, ht]]
  · rfl

theorem openC_agree {L L' : List (Nat × Fact)} {fr0 : List (Nat × AV)} {K : List (Nat × AV) → Prop} : ∀ {l : List Operand} {acc : List (Nat × AV)}, (∀ t, Operand.tmp t ∈ l → lookS L t = lookS L' t) → openC L fr0 l acc K → openC L' fr0 l acc K
  | [], acc, hl, h => h
  | .tmp t :: r, acc, hl, h => by
    have e := hl t (List.mem_cons_self ..)
    have hr : ∀ u, Operand.tmp u ∈ r → lookS L u = lookS L' u := fun u hu => hl u (List.mem_cons_of_mem _ hu)
    simp only [openC] at h ⊢
    rw [← e]
    split at h
    · exact openC_agree hr h
    · exact openC_agree hr h
    · exact openC_agree hr h
  | .const _ :: r, acc, hl, h => openC_agree (l := r) (fun u hu => hl u (List.mem_cons_of_mem _ hu)) h
  | .func _ :: r, acc, hl, h => openC_agree (l := r) (fun u hu => hl u (List.mem_cons_of_mem _ hu)) h
  | .global _ :: r, acc, hl, h => openC_agree (l := r) (fun u hu => hl u (List.mem_cons_of_mem _ hu)) h
structure SplitOK (P : Program) (st : St) (h : Hp) (ops : List Oper) (k : Nat) (L : List (Nat × Fact)) (X E : List (Nat × Oper)) : Prop where
  key : ∀ t f, lookS L t = some f → ∃ (i : Nat) (oi : Oper), i < k ∧ ops[i]? = some oi ∧ oi.dst = some t
  cov : ∀ (i : Nat) (oi : Oper) (d : Nat), i < k → ops[i]? = some oi → oi.dst = some d → ∃ f, lookS L d = some f
  each : ∀ (j : Nat) (o : Oper), j < k → ops[j]? = some o → o.guard = none ∧ ((j, o) ∈ E ∨ ((∀ p ∈ E, p.1 ≠ j) ∧ ∃ av, (pureC P L o st = some av ∨ ((j, o) ∈ X ∧ lookX P st h L o av)) ∧ ∀ d, o.dst = some d → lookS L d = some (.pu av)))
  eff : ∀ p ∈ E, p.1 < k ∧ ops[p.1]? = some p.2 ∧ ∀ d, p.2.dst = some d → ∃ F, lookS L d = some (.ef F)
  nd : (E.map fun p => p.1).Nodup
  xx : ∀ p ∈ X, p.1 < k ∧ ops[p.1]? = some p.2

theorem SplitOK.add {st : St} {h : Hp} {ops : List Oper} {k : Nat} {L : List (Nat × Fact)} {X X' E E' : List (Nat × Oper)} {o : Oper} {f : Fact}
    (hD : ∀ (i j : Nat) (oi oj : Oper) (d : Nat), ops[i]? = some oi → ops[j]? = some oj → oi.dst = some d → oj.dst = some d → i = j)
    (hdep : ∀ (j : Nat) (o : Oper) (t i : Nat) (oi : Oper), ops[j]? = some o → Operand.tmp t ∈ o.op.operands → ops[i]? = some oi → oi.dst = some t → i < j)
    (s : SplitOK P st h ops k L X E) (ho : ops[k]? = some o) (hg : o.guard = none) (hX : X' = X ∨ X' = X ++ [(k, o)])
    (hE : (E' = E ∧ ∃ av, f = .pu av ∧ (pureC P L o st = some av ∨ ((k, o) ∈ X' ∧ lookX P st h L o av))) ∨ (E' = E ++ [(k, o)] ∧ ∃ F, f = .ef F)) : SplitOK P st h ops (k + 1) (addS o.dst f L) X' E' := by
  have no : ∀ d, o.dst = some d → lookS L d = none := fun d hd => by
    cases h : lookS L d with
    | none => rfl
    | some g =>
      obtain ⟨i, oi, h1, h2, h3⟩ := s.key d g h
      have := hD i k oi o d h2 ho h3 hd
      omega
  have up : ∀ t g, lookS L t = some g → lookS (addS o.dst f L) t = some g := fun t g ht => by
    cases hd : o.dst with
    | none => exact ht
    | some d =>
      show lookS ((d, f) :: L) t = some g
      rw [lookS_cons]
      split
      · rename_i e; subst e; rw [no d hd] at ht; cases ht
      · exact ht
  have top : ∀ d, o.dst = some d → lookS (addS o.dst f L) d = some f := fun d hd => by
    rw [hd]; show lookS ((d, f) :: L) d = some f; rw [lookS_cons, if_pos rfl]
  have dn : ∀ t g, lookS (addS o.dst f L) t = some g → lookS L t = some g ∨ (o.dst = some t ∧ g = f) := fun t g ht => by
    cases hd : o.dst with
    | none => rw [hd] at ht; exact .inl ht
    | some d =>
      rw [hd] at ht
      change lookS ((d, f) :: L) t = some g at ht
      rw [lookS_cons] at ht
      split at ht
      · rename_i e; subst e; cases ht; exact .inr ⟨rfl, rfl⟩
      · exact .inl ht
  have agree : ∀ (j : Nat) (oj : Oper), j ≤ k → ops[j]? = some oj → pureC P L oj st = pureC P (addS o.dst f L) oj st := fun j oj hj hoj => pureC_agree fun t ht => by
    cases hd : o.dst with
    | none => rfl
    | some d =>
      show lookS L t = lookS ((d, f) :: L) t
      rw [lookS_cons]
      split
      · rename_i e
        subst e
        have := hdep j oj d k o hoj ht ho hd
        omega
      · rfl
  have agreeX : ∀ (j : Nat) (oj : Oper) (av : AV), j ≤ k → ops[j]? = some oj → lookX P st h L oj av → lookX P st h (addS o.dst f L) oj av := fun j oj av hj hoj hx => by
    obtain ⟨n, fr, bx, ow⟩ := st
    intro h' hs
    refine openC_agree (fun t ht => ?_) (hx h' hs)
    cases hd : o.dst with
    | none => rfl
    | some d =>
      show lookS L t = lookS ((d, f) :: L) t
      rw [lookS_cons]
      split
      · rename_i e
        subst e
        have := hdep j oj d k o hoj (by simpa using ht) ho hd
        omega
      · rfl
  have inX : ∀ p, p ∈ X → p ∈ X' := fun p hp => by
    rcases hX with rfl | rfl
    · exact hp
    · exact List.mem_append_left _ hp
  refine ⟨fun t g ht => ?_, fun i oi d hi h1 h2 => ?_, fun j oj hj hoj => ?_, fun p hp => ?_, ?_, fun p hp => ?_⟩
  rotate_left 5
  · rcases hX with rfl | rfl
    · obtain ⟨h1, h2⟩ := s.xx p hp
      exact ⟨by omega, h2⟩
    · rcases List.mem_append.1 hp with hp | hp
      · obtain ⟨h1, h2⟩ := s.xx p hp
        exact ⟨by omega, h2⟩
      · simp at hp
        subst hp
        exact ⟨by simp, ho⟩
  rotate_left 4
  · rcases hE with ⟨rfl, _⟩ | ⟨rfl, _⟩
    · exact s.nd
    · rw [List.map_append, List.nodup_append]
      refine ⟨s.nd, by simp, fun x hx y hy e => ?_⟩
      obtain ⟨p, hp, rfl⟩ := List.mem_map.1 hx
      have := (s.eff p hp).1
      simp at hy
      omega
  · rcases dn t g ht with h | ⟨h, _⟩
    · obtain ⟨i, oi, h1, h2⟩ := s.key t g h
      exact ⟨i, oi, by omega, h2⟩
    · exact ⟨k, o, by omega, ho, h⟩
  · rcases Nat.lt_or_ge i k with h | h
    · obtain ⟨g, hg⟩ := s.cov i oi d h h1 h2
      exact ⟨g, up d g hg⟩
    · have : i = k := by omega
      subst this
      rw [ho] at h1; cases h1
      exact ⟨f, top d h2⟩
  · rcases Nat.lt_or_ge j k with h | h
    · obtain ⟨k1, k2⟩ := s.each j oj h hoj
      refine ⟨k1, ?_⟩
      rcases k2 with k2 | ⟨k2, av, k3, k4⟩
      · left
        rcases hE with ⟨rfl, _⟩ | ⟨rfl, _⟩
        · exact k2
        · exact List.mem_append_left _ k2
      · right
        refine ⟨fun p hp => ?_, av, k3.imp (fun k3 => by rw [← agree j oj (by omega) hoj]; exact k3) (fun k3 => ⟨inX _ k3.1, agreeX j oj av (by omega) hoj k3.2⟩), fun d hd => up d _ (k4 d hd)⟩
        rcases hE with ⟨rfl, _⟩ | ⟨rfl, _⟩
        · exact k2 p hp
        · rcases List.mem_append.1 hp with hp | hp
          · exact k2 p hp
          · simp at hp; rw [hp]; show k ≠ j; omega
    · have : j = k := by omega
      subst this
      rw [ho] at hoj; cases hoj
      refine ⟨hg, ?_⟩
      rcases hE with ⟨rfl, av, rfl, hp⟩ | ⟨rfl, F, rfl⟩
      · right
        exact ⟨fun p hp => by have := (s.eff p hp).1; omega, av, hp.imp (fun hp => by rw [← agree _ o (Nat.le_refl _) ho]; exact hp) (fun hp => ⟨hp.1, agreeX _ o av (Nat.le_refl _) ho hp.2⟩), top⟩
      · left
        exact List.mem_append_right _ (List.mem_singleton.2 rfl)
  · have old : p ∈ E → p.1 < k + 1 ∧ ops[p.1]? = some p.2 ∧ ∀ d, p.2.dst = some d → ∃ F, lookS (addS o.dst f L) d = some (.ef F) := fun hp => by
      obtain ⟨h1, h2, h3⟩ := s.eff p hp
      exact ⟨by omega, h2, fun d hd => by obtain ⟨F, hF⟩ := h3 d hd; exact ⟨F, up d _ hF⟩⟩
    rcases hE with ⟨rfl, _⟩ | ⟨rfl, F, rfl⟩
    · exact old hp
    · rcases List.mem_append.1 hp with hp | hp
      · exact old hp
      · simp at hp
        subst hp
        exact ⟨by omega, ho, fun d hd => ⟨F, top d hd⟩⟩

theorem splitC_spec {ops : List Oper} {st : St} {h : Hp} {K : List (Nat × Fact) → List (Nat × Oper) → List (Nat × Oper) → Prop}
    (hD : ∀ (i j : Nat) (oi oj : Oper) (d : Nat), ops[i]? = some oi → ops[j]? = some oj → oi.dst = some d → oj.dst = some d → i = j)
    (hdep : ∀ (j : Nat) (o : Oper) (t i : Nat) (oi : Oper), ops[j]? = some o → Operand.tmp t ∈ o.op.operands → ops[i]? = some oi → oi.dst = some t → i < j) :
    ∀ (l : List Oper) (k : Nat) (L : List (Nat × Fact)) (X E : List (Nat × Oper)), (∀ j, l[j]? = ops[k + j]?) → SplitOK P st h ops k L X E → splitC P st h l k L X E K → ∃ L0 X0 E0, K L0 X0 E0 ∧ SplitOK P st h ops ops.length L0 X0 E0
  | [], k, L, X, E, hl, s, he => by
    refine ⟨L, X, E, he, ?_⟩
    have hk : ops.length ≤ k := by
      have := hl 0
      simpa using this
    have lt : ∀ (i : Nat) (oi : Oper), ops[i]? = some oi → i < ops.length := fun i oi h => (List.getElem?_eq_some_iff.1 h).1
    exact ⟨fun t f h => by obtain ⟨i, oi, _, h2, h3⟩ := s.key t f h; exact ⟨i, oi, lt i oi h2, h2, h3⟩, fun i oi d hi => s.cov i oi d (by omega), fun j o hj => s.each j o (by omega),
      fun p hp => by obtain ⟨_, h2, h3⟩ := s.eff p hp; exact ⟨lt _ _ h2, h2, h3⟩, s.nd, fun p hp => by obtain ⟨_, h2⟩ := s.xx p hp; exact ⟨lt _ _ h2, h2⟩⟩
  | o :: l, k, L, X, E, hl, s, he => by
    have ho : ops[k]? = some o := by simpa using (hl 0).symm
    have hl' : ∀ j, l[j]? = ops[k + 1 + j]? := fun j => by have := hl (j + 1); simpa [Nat.add_assoc, Nat.add_comm 1 j] using this
    simp only [splitC] at he
    split at he
    · exact he.elim
    · rename_i hg
      split at he
      · rename_i av hav
        rw [forceA_eq] at he
        exact splitC_spec hD hdep l (k + 1) _ _ _ hl' (s.add hD hdep ho hg (.inl rfl) (.inl ⟨rfl, av, rfl, .inl hav⟩)) he
      · rcases he with ⟨av, hx, he⟩ | he
        · rw [forceA_eq] at he
          exact splitC_spec hD hdep l (k + 1) _ _ _ hl' (s.add hD hdep ho hg (.inr rfl) (.inl ⟨rfl, av, rfl, .inr ⟨by simp, hx⟩⟩)) he
        · exact splitC_spec hD hdep l (k + 1) _ _ _ hl' (s.add hD hdep ho hg (.inl rfl) (.inr ⟨rfl, _, rfl⟩)) he

theorem chain_pred : ∀ (r : List (Nat × Oper)) (q : Nat × Oper), chainB r = true → q ∈ r.tail → ∃ p ∈ r, edgeTo p.1 q.2 = true
  | [], q, _, h => by cases h
  | [x], q, _, h => by cases h
  | (i, o) :: (j, o') :: r, q, hc, h => by
    simp only [chainB, Bool.and_eq_true] at hc
    rcases List.mem_cons.1 h with rfl | h
    · exact ⟨(i, o), List.mem_cons_self .., hc.1⟩
    · obtain ⟨p, hp, he⟩ := chain_pred ((j, o') :: r) q hc.2 h
      exact ⟨p, List.mem_cons_of_mem _ hp, he⟩
theorem chain_suffix : ∀ (d r : List (Nat × Oper)), chainB (d ++ r) = true → chainB r = true
  | [], r, h => h
  | [x], [], h => rfl
  | [(i, o)], (j, o') :: r, h => by simp only [List.singleton_append, chainB, Bool.and_eq_true] at h; exact h.2
  | (i, o) :: (j, o') :: d, r, h => by
    simp only [List.cons_append, chainB, Bool.and_eq_true] at h
    exact chain_suffix ((j, o') :: d) r h.2

theorem edgesAll_spec {i : Nat} {o : Oper} : ∀ {N : Nat}, edgesAll N i o = true → ∀ k, k < N → k ≠ i → ∃ e ∈ o.after, Region.binds .any e = true ∧ e.on = k
  | 0, _, k, hk, _ => by omega
  | N + 1, h, k, hk, hne => by
    simp only [edgesAll, Bool.and_eq_true, Bool.or_eq_true] at h
    by_cases e : k = N
    · subst e
      rcases h.1 with g | g
      · exact absurd (Nat.eq_of_beq_eq_true g) hne
      · exact edgeTo_spec g
    · exact edgesAll_spec h.2 k (by omega) hne

def InvC (P : Program) (h0 : Hp) (w0 : World) (ops : Array Oper) (n : Nat) (fr : List (Nat × AV)) (bx0 : List BSt) (ow0 : List Own) (hs : Hp) (E : List (Nat × Oper)) (L0 : List (Nat × Fact)) (K : St → Hp → Prop) (listed : Array Bool) (a : Act) (w : World) : Prop :=
  ∃ (dn r : List (Nat × Oper)) (L : List (Nat × Fact)) (bx : List BSt) (ow : List Own) (h : Hp) (be : Nat → Nat) (oe : Nat → Value) (H : Hp), E = dn ++ r ∧ (dn = [] → ow = ow0 ∧ Sub hs h) ∧ (∀ (j : Nat) (o : Oper), ops[j]? = some o → listed.getD j false = true → ∀ e ∈ o.after, Region.binds .any e = true → listed.getD e.on false = true) ∧ (∀ p ∈ r, listed.getD p.1 true = false) ∧ (∀ p ∈ dn, listed.getD p.1 false = true) ∧
    (bx = bx0 ∨ ∀ k, k < ops.size → listed.getD k false = true) ∧ Sim P h0 w0 be oe H ⟨n, deadF ops.toList fr, bx, ow⟩ h a w ∧ evC ops.size P r L ⟨n, fr, bx, ow⟩ h K ∧
    (∀ t, (lookS L0 t = none → lookS L t = none) ∧ ∀ av, lookS L0 t = some (.pu av) → lookS L t = some (.pu av)) ∧
    ∀ (j : Nat) (o : Oper) (d : Nat), ops[j]? = some o → o.dst = some d → listed.getD j false = true → ∃ av, lookS L d = some (.pu av) ∧ Good ⟨n, fr, bx, ow⟩ be oe av (a.tmps.getD d undef)

theorem anyI {ops : Array Oper} {Q : Exit → Act → World → Prop} {Inv : Array Bool → Act → World → Prop} (hB : ∀ (k : Nat) (o : Oper), ops.toList[k]? = some o → ∀ e ∈ o.after, Region.binds .any e = true → e.on < k)
    (hstep : ∀ listed a w j o, listed.size = ops.size → listed.getD j true = false → ops[j]? = some o → (∀ e ∈ o.after, Region.binds .any e = true → listed.getD e.on false = true) → Inv listed a w → o.guard = none ∧ o.wp P a w (Inv (listed.setIfInBounds j true)) Q)
    (hQ : ∀ listed a w, (∀ j, j < ops.size → listed.getD j false = true) → Inv listed a w → Q .normal a w) :
    ∀ (fuel : Nat) (listed : Array Bool) (a : Act) (w : World), listed.size = ops.size → listed.toList.count true + fuel = ops.size → Inv listed a w → wpAny P .any ops Q fuel listed a w
  | 0, listed, a, w, hsz, hc, hi => by
    have hall' : ∀ j, j < ops.size → listed.getD j false = true := fun j hj => by
      have h1 : ∀ b ∈ listed.toList, true = b := List.count_eq_length.1 (by simp only [Array.length_toList]; omega)
      have hlt : j < listed.size := by omega
      have := h1 listed[j] (by simp)
      simp [hlt, ← this]
    refine ⟨?_, hQ listed a w hall' hi⟩
    cases hr : Region.ready .any ops listed with
    | nil => rfl
    | cons j r =>
      have hj : j ∈ Region.ready .any ops listed := by rw [hr]; exact List.mem_cons_self ..
      obtain ⟨h1, o, h2, _⟩ := mem_ready.1 hj
      have hlt : j < ops.size := (Array.getElem?_eq_some_iff.1 h2).1
      have := hall' j hlt
      have hlt' : j < listed.size := by omega
      simp [hlt'] at this h1
      rw [this] at h1; cases h1
  | fuel + 1, listed, a, w, hsz, hc, hi => by
    refine ⟨fun hr => hQ listed a w (ready_nil hB hsz hr) hi, fun j hj => ?_⟩
    obtain ⟨h1, o, h2, h3⟩ := mem_ready.1 hj
    unfold wpOp
    simp only [h2]
    obtain ⟨hg, hw'⟩ := hstep listed a w j o hsz h1 h2 h3 hi
    have hw : Region.wanted o (yielded ops a.tmps) = true := by unfold Region.wanted; rw [hg]
    rw [if_pos hw]
    exact .inl (Oper.wp_mono (fun a' w' hi' => anyI hB hstep hQ fuel _ a' w' (by simpa using hsz) (by rw [count_set h1]; omega) hi') hw')

theorem stepC {ops : Array Oper} {n : Nat} {fr : List (Nat × AV)} {bx0 : List BSt} {ow0 : List Own} {hs : Hp} {X E : List (Nat × Oper)} {L0 : List (Nat × Fact)} {K : St → Hp → Prop} {Q : Exit → Act → World → Prop} {listed : Array Bool} {j : Nat} {o : Oper}
    (hD : ∀ (i j : Nat) (oi oj : Oper) (d : Nat), ops.toList[i]? = some oi → ops.toList[j]? = some oj → oi.dst = some d → oj.dst = some d → i = j)
    (hn : ∀ o ∈ ops.toList, ∀ d, o.dst = some d → d < n) (sp : SplitOK P ⟨n, fr, bx0, ow0⟩ hs ops.toList ops.toList.length L0 X E) (hch : chainB E = true) (hea : earlyB X E = true)
    (hj : listed.getD j true = false) (ho : ops[j]? = some o) (hsz : listed.size = ops.size)
    (hdep : ∀ t, Operand.tmp t ∈ o.op.operands → ∀ (i : Nat) (oi : Oper), ops.toList[i]? = some oi → oi.dst = some t → listed.getD i false = true)
    (hedge : ∀ e ∈ o.after, Region.binds .any e = true → listed.getD e.on false = true)
    (hi : InvC P h0 w0 ops n fr bx0 ow0 hs E L0 K listed a w) : o.guard = none ∧ o.wp P a w (InvC P h0 w0 ops n fr bx0 ow0 hs E L0 K (listed.setIfInBounds j true)) Q := by
  obtain ⟨dn, r, L, bx, ow, h', be, oe, H, hE, hdn0, hcl, hr, hdn, hbx, s, he, R1, R2⟩ := hi
  have hoL : ops.toList[j]? = some o := by simpa using ho
  have hmem : o ∈ ops.toList := List.mem_of_getElem? hoL
  have hlt : j < ops.toList.length := (List.getElem?_eq_some_iff.1 hoL).1
  have hjs : j < listed.size := by simpa [hsz] using hlt
  have hbx0 : bx = bx0 := by
    rcases hbx with e | e
    · exact e
    · have h1 := e j (by simpa using hlt)
      simp [hjs] at h1 hj
      rw [h1] at hj; cases hj
  subst hbx0
  obtain ⟨hg, hkind⟩ := sp.each j o hlt hoL
  refine ⟨hg, ?_⟩
  have L0key : ∀ t, lookS L t ≠ none → ∃ (i : Nat) (oi : Oper), ops.toList[i]? = some oi ∧ oi.dst = some t := fun t ht => by
    cases h0' : lookS L0 t with
    | none => exact absurd ((R1 t).1 h0') ht
    | some f => obtain ⟨i, oi, _, h2, h3⟩ := sp.key t f h0'; exact ⟨i, oi, h2, h3⟩
  have frame : ∀ t, (∀ o' ∈ ops.toList, o'.dst ≠ some t) → Good ⟨n, fr, bx, ow⟩ be oe (look fr t) (a.tmps.getD t undef) := fun t ht => by
    have g := s.fr t
    change Good _ be oe (look (deadF ops.toList fr) t) _ at g
    rw [deadF_miss ht] at g
    exact Good.fr (st := ⟨n, deadF ops.toList fr, bx, ow⟩) (fr := fr) g
  -- what the operands hold
  have opnd : ∀ t, Operand.tmp t ∈ o.op.operands → (∀ av, lookS L t = some (.pu av) → Good ⟨n, fr, bx, ow⟩ be oe av (a.tmps.getD t undef)) ∧ (lookS L t = none → Good ⟨n, fr, bx, ow⟩ be oe (look fr t) (a.tmps.getD t undef)) := fun t ht => by
    refine ⟨fun av hav => ?_, fun hno => frame t fun o' ho' hd => ?_⟩
    · obtain ⟨i, oi, h1, h2⟩ := L0key t (by rw [hav]; simp)
      obtain ⟨av', e1, e2⟩ := R2 i oi t (by simpa using h1) h2 (hdep t ht i oi h1 h2)
      rw [hav] at e1; cases e1
      exact e2
    · obtain ⟨i, hi, e⟩ := List.getElem_of_mem ho'
      have h1 : ops.toList[i]? = some o' := by rw [List.getElem?_eq_getElem hi, e]
      obtain ⟨av', e1, _⟩ := R2 i o' t (by simpa using h1) hd (hdep t ht i o' h1 hd)
      rw [hno] at e1; cases e1
  have hset : ∀ i, i ≠ j → ∀ d, (listed.setIfInBounds j true).getD i d = listed.getD i d := fun i hij d => getD_set_ne d (Ne.symm hij)
  -- the machine's state behind an operation that left v
  have sput : ∀ {bx' : List BSt} {ow' : List Own} {h'' : Hp} {be' : Nat → Nat} {oe' : Nat → Value} {H' : Hp} {v : Value} {w' : World}, Sim P h0 w0 be' oe' H' ⟨n, deadF ops.toList fr, bx', ow'⟩ h'' a w' → Sim P h0 w0 be' oe' H' ⟨n, deadF ops.toList fr, bx', ow'⟩ h'' (a.put o.dst v) w' := by
    intro bx' ow' h'' be' oe' H' v w' s1
    cases hd : o.dst with
    | none => exact s1
    | some d =>
      have hp := s1.put (d := d) (av := .dead) (v := v) (hn o hmem d hd) trivial
      refine hp.refr (fr := deadF ops.toList fr) fun t => ?_
      have g := hp.fr t
      change Good _ _ _ (look ((d, .dead) :: deadF ops.toList fr) t) _ at g
      rw [look_cons] at g
      split at g
      · rename_i e
        subst e
        rw [deadF_hit hmem hd]
        trivial
      · exact g
  have tput : ∀ (v : Value) (i : Nat) (oi : Oper) (d : Nat), ops[i]? = some oi → oi.dst = some d → i ≠ j → (a.put o.dst v).tmps.getD d undef = a.tmps.getD d undef := fun v i oi d h1 h2 hij => by
    cases hd : o.dst with
    | none => rfl
    | some d' =>
      have hne : d' ≠ d := fun e => by subst e; exact hij (hD i j oi o d' (by simpa using h1) hoL h2 hd)
      simp [Act.put, Array.getElem?_setIfInBounds_ne hne]
  have tself : ∀ (v : Value) (d : Nat), o.dst = some d → (a.put o.dst v).tmps.getD d undef = v := fun v d hd => by
    have hlt : d < a.tmps.size := by rw [s.siz]; exact hn o hmem d hd
    rw [hd]
    simp [Act.put, hlt]
  have hcl' : ∀ (i : Nat) (oi : Oper), ops[i]? = some oi → (listed.setIfInBounds j true).getD i false = true → ∀ e ∈ oi.after, Region.binds .any e = true → (listed.setIfInBounds j true).getD e.on false = true := fun i oi h1 h2 e he1 he2 => by
    by_cases hij : i = j
    · subst hij
      rw [ho] at h1; cases h1
      exact getD_set_true (hedge e he1 he2)
    · rw [hset i hij] at h2
      exact getD_set_true (hcl i oi h1 h2 e he1 he2)
  rcases hkind with hin | ⟨hnot, av, hpu | ⟨hinX, hlk⟩, hL⟩
  · -- it is the next of those that do something
    have hjr : (j, o) ∈ r := by
      rw [hE] at hin
      rcases List.mem_append.1 hin with hx | hx
      · have h1 := hdn _ hx
        simp [hjs] at h1 hj
        rw [h1] at hj; cases hj
      · exact hx
    obtain ⟨q, r', rfl⟩ : ∃ q r', r = q :: r' := by
      cases r with
      | nil => cases hjr
      | cons q r' => exact ⟨q, r', rfl⟩
    have hq : q = (j, o) := by
      rcases List.mem_cons.1 hjr with e | hx
      · exact e.symm
      · exfalso
        obtain ⟨p, hp, hed⟩ := chain_pred (q :: r') (j, o) (chain_suffix dn _ (by rw [← hE]; exact hch)) hx
        obtain ⟨e, he1, he2, he3⟩ := edgeTo_spec hed
        have h1 := hedge e he1 he2
        have h2 := hr p hp
        rw [he3] at h1
        rcases Nat.lt_or_ge p.1 listed.size with g | g
        · simp [g] at h1 h2
          rw [h1] at h2; cases h2
        · simp [Array.getElem?_eq_none g] at h1
    subst hq
    simp only [evC] at he
    obtain ⟨fr1, he, g1⟩ := openC_elim (acc := []) (st := ⟨n, fr, bx, ow⟩) (stX := ⟨n, fr, bx, ow⟩) (be := be) (oe := oe) (val := fun t => a.tmps.getD t undef) (fun t => trivial) (fun t ht => opnd t (by simpa using ht)) he
    have s' : Sim P h0 w0 be oe H ⟨n, fr1, bx, ow⟩ h' a w := s.refr (fr := fr1) fun t => Good.fr (st := ⟨n, fr, bx, ow⟩) (fr := deadF ops.toList fr) (g1 t)
    refine Oper.wp_mono (fun a' w' hx => ?_) (evOp_sound s' he)
    obtain ⟨av', ⟨n', fr', bx', ow'⟩, h'', v, be', oe', H', hk, rfl, s2, g2, gr⟩ := hx
    obtain ⟨hsame, hk⟩ := hk
    rw [forceA_eq, forceL_eq, forceL_eq] at hk
    have hnn : n' = n := by
      have e1 : a.tmps.size = n' := s2.siz
      have e2 : a.tmps.size = n := s.siz
      omega
    subst hnn
    have gr' : Grow ⟨n', fr, bx, ow⟩ be oe ⟨n', fr, bx', ow'⟩ be' oe' := ⟨gr.bl, gr.be, gr.sm⟩
    have grD : Grow ⟨n', deadF ops.toList fr, bx, ow⟩ be oe ⟨n', deadF ops.toList fr, bx', ow'⟩ be' oe' := ⟨gr.bl, gr.be, gr.sm⟩
    have s3 : Sim P h0 w0 be' oe' H' ⟨n', deadF ops.toList fr, bx', ow'⟩ h'' a w' :=
      s2.refr (fr := deadF ops.toList fr) fun t => Good.fr (st := ⟨n', deadF ops.toList fr, bx', ow'⟩) (fr := fr') ((s.fr t).grow grD)
    have htop : ∀ d, o.dst = some d → lookS (addS o.dst (.pu av') L) d = some (.pu av') := fun d hd => by
      rw [hd]; show lookS ((d, .pu av') :: L) d = _; rw [lookS_cons, if_pos rfl]
    have hold : ∀ t, o.dst ≠ some t → lookS (addS o.dst (.pu av') L) t = lookS L t := fun t ht => by
      cases hd : o.dst with
      | none => rfl
      | some d =>
        show lookS ((d, .pu av') :: L) t = _
        rw [lookS_cons, if_neg fun e => ht (by rw [hd, e])]
    refine ⟨dn ++ [(j, o)], r', addS o.dst (.pu av') L, bx', ow', h'', be', oe', H', by rw [hE]; simp, fun h => by simp at h, hcl', fun p hp => ?_, fun p hp => ?_, ?_, sput s3, hk, fun t => ?_, fun i oi d h1 h2 h3 => ?_⟩
    · have hne : p.1 ≠ j := fun e => by
        have hnd := sp.nd
        rw [hE, List.map_append, List.nodup_append] at hnd
        have h2 := hnd.2.1
        rw [List.map_cons, List.nodup_cons] at h2
        exact h2.1 (List.mem_map.2 ⟨p, hp, e⟩)
      rw [hset _ hne]
      exact hr p (List.mem_cons_of_mem _ hp)
    · rcases List.mem_append.1 hp with hp | hp
      · exact getD_set_true (hdn p hp)
      · simp at hp
        subst hp
        simp [hjs]
    · cases hl : lastB ops.size j o r' with
      | false => rw [hl] at hsame; exact .inl hsame
      | true =>
        right
        have hall : edgesAll ops.size j o = true := by
          cases r' with
          | nil => exact hl
          | cons q r'' => cases hl
        intro k hk
        by_cases hkj : k = j
        · subst hkj; simp [hjs]
        · rw [hset k hkj]
          obtain ⟨e, he1, he2, rfl⟩ := edgesAll_spec hall k hk hkj
          exact hedge e he1 he2
    · by_cases ht : o.dst = some t
      · obtain ⟨_, _, hF⟩ := sp.eff (j, o) (by rw [hE]; simp)
        obtain ⟨F, hF⟩ := hF t ht
        exact ⟨fun e => (by rw [hF] at e; cases e), fun av e => (by rw [hF] at e; cases e)⟩
      · rw [hold t ht]
        exact R1 t
    · by_cases hij : i = j
      · subst hij
        rw [ho] at h1; cases h1
        exact ⟨av', htop d h2, by rw [tself v d h2]; exact Good.fr (st := ⟨n', fr', bx', ow'⟩) (fr := fr) g2⟩
      · rw [hset _ hij] at h3
        obtain ⟨av2, e1, e2⟩ := R2 i oi d h1 h2 h3
        have hdd : o.dst ≠ some d := fun e => hij (hD i j oi o d (by simpa using h1) hoL h2 e)
        exact ⟨av2, by rw [hold d hdd]; exact e1, by rw [tput v i oi d h1 h2 hij]; exact e2.grow gr'⟩
  · -- it only looks
    have toD : ∀ {av : AV} {x : Value}, Good ⟨n, fr, bx, ow⟩ be oe av x → Good ⟨n, deadF ops.toList fr, bx, ow⟩ be oe av x := fun g => Good.fr (st := ⟨n, fr, bx, ow⟩) (fr := deadF ops.toList fr) g
    obtain ⟨v, hrun, gv⟩ := pureC_run (st := ⟨n, fr, bx, ow0⟩) (stX := ⟨n, deadF ops.toList fr, bx, ow⟩) s rfl hpu (fun t ht => ⟨fun av e => toD ((opnd t ht).1 av ((R1 t).2 av e)), fun e => toD ((opnd t ht).2 ((R1 t).1 e))⟩)
    refine wp_value hrun ?_
    refine ⟨dn, r, L, bx, ow, h', be, oe, H, hE, hdn0, hcl', fun p hp => ?_, fun p hp => getD_set_true (hdn p hp), .inl rfl, sput s, he, R1, fun i oi d h1 h2 h3 => ?_⟩
    · have hne : p.1 ≠ j := hnot p (by rw [hE]; exact List.mem_append_right _ hp)
      rw [hset _ hne]
      exact hr p hp
    · by_cases hij : i = j
      · subst hij
        rw [ho] at h1; cases h1
        exact ⟨av, (R1 d).2 av (hL d h2), by rw [tself v d h2]; exact Good.fr (st := ⟨n, deadF ops.toList fr, bx, ow⟩) (fr := fr) gv⟩
      · rw [hset _ hij] at h3
        obtain ⟨av2, e1, e2⟩ := R2 i oi d h1 h2 h3
        exact ⟨av2, e1, by rw [tput v i oi d h1 h2 hij]; exact e2⟩
  · -- it looks ahead of all that changes something
    have hdnil : dn = [] := by
      cases hdq : dn with
      | nil => rfl
      | cons q0 dn' =>
        exfalso
        obtain ⟨jq, q⟩ := q0
        have hjf : listed.getD j false = false := by simp [hjs] at hj ⊢; exact hj
        have hql : listed.getD jq false = true := hdn (jq, q) (by rw [hdq]; exact List.mem_cons_self ..)
        have hqo : ops[jq]? = some q := by
          have := (sp.eff (jq, q) (by rw [hE, hdq]; simp)).2.1
          simpa using this
        rw [hE, hdq] at hea
        simp only [earlyB, List.cons_append, List.all_eq_true, Bool.or_eq_true, List.any_eq_true, Bool.and_eq_true] at hea
        rcases hea (j, o) hinX with h1 | ⟨y, hy, h1, h2⟩
        · obtain ⟨e, he1, he2, he3⟩ := edgeTo_spec h1
          have := hcl jq q hqo hql e he1 he2
          rw [he3, hjf] at this; cases this
        · obtain ⟨e, he1, he2, he3⟩ := edgeTo_spec h2
          have h4 := hcl jq q hqo hql e he1 he2
          obtain ⟨e', he1', he2', he3'⟩ := edgeTo_spec h1
          have h5 := (sp.xx y hy).2
          have := hcl y.1 y.2 (by simpa using h5) (by rw [← he3]; exact h4) e' he1' he2'
          rw [he3', hjf] at this; cases this
    obtain ⟨rfl, hsub⟩ := hdn0 hdnil
    obtain ⟨fr1, hev, g1⟩ := openC_elim (acc := []) (st := ⟨n, fr, bx, ow⟩) (stX := ⟨n, fr, bx, ow⟩) (be := be) (oe := oe) (val := fun t => a.tmps.getD t undef) (fun t => trivial)
      (fun t ht => ⟨fun av e => (opnd t (by simpa using ht)).1 av ((R1 t).2 av e), fun e => (opnd t (by simpa using ht)).2 ((R1 t).1 e)⟩) (hlk h' hsub)
    have s' : Sim P h0 w0 be oe H ⟨n, fr1, bx, ow⟩ h' a w := s.refr (fr := fr1) fun t => Good.fr (st := ⟨n, fr, bx, ow⟩) (fr := deadF ops.toList fr) (g1 t)
    refine Oper.wp_mono (fun a' w' hx => ?_) (evOp_sound s' hev)
    obtain ⟨av', st', h'', v, be', oe', H', ⟨rfl, rfl, rfl⟩, rfl, s2, g2, gr⟩ := hx
    have gr' : Grow ⟨n, fr, bx, ow⟩ be oe ⟨n, fr, bx, ow⟩ be' oe' := ⟨gr.bl, gr.be, gr.sm⟩
    have grD : Grow ⟨n, deadF ops.toList fr, bx, ow⟩ be oe ⟨n, deadF ops.toList fr, bx, ow⟩ be' oe' := ⟨gr.bl, gr.be, gr.sm⟩
    have s3 : Sim P h0 w0 be' oe' H' ⟨n, deadF ops.toList fr, bx, ow⟩ h'' a w' :=
      s2.refr (fr := deadF ops.toList fr) fun t => Good.fr (st := ⟨n, deadF ops.toList fr, bx, ow⟩) (fr := fr1) ((s.fr t).grow grD)
    refine ⟨dn, r, L, bx, ow, h'', be', oe', H', hE, fun _ => ⟨rfl, hsub⟩, hcl', fun p hp => ?_, fun p hp => getD_set_true (hdn p hp), .inl rfl, sput s3, he, R1, fun i oi d h1 h2 h3 => ?_⟩
    · have hne : p.1 ≠ j := hnot p (by rw [hE]; exact List.mem_append_right _ hp)
      rw [hset _ hne]
      exact hr p hp
    · by_cases hij : i = j
      · subst hij
        rw [ho] at h1; cases h1
        exact ⟨av', (R1 d).2 av' (hL d h2), by rw [tself v d h2]; exact Good.fr (st := ⟨n, fr1, bx, ow⟩) (fr := fr) g2⟩
      · rw [hset _ hij] at h3
        obtain ⟨av2, e1, e2⟩ := R2 i oi d h1 h2 h3
        exact ⟨av2, e1, by rw [tput v i oi d h1 h2 hij]; exact e2.grow gr'⟩

theorem evC_sound {ops : Array Oper} {st : St} {K : St → Hp → Prop} {Q : Exit → Act → World → Prop} (s : Sim P h0 w0 be oe H st h a w) (hb : stableB st.n ops.toList = true)
    (he : splitC P st h ops.toList 0 [] [] [] fun L X E => (chainB E = true ∧ earlyB X E = true) ∧ evC ops.size P E L st h K)
    (hQ : ∀ a w st h be oe H, K st h → Sim P h0 w0 be oe H st h a w → Q .normal a w) : wpAny P .any ops Q ops.size (Array.replicate ops.size false) a w := by
  simp only [stableB, Bool.and_eq_true] at hb
  obtain ⟨⟨b1, b2⟩, b3⟩ := hb
  obtain ⟨hn, hD⟩ := distB_spec b1
  have hB : ∀ (k : Nat) (o : Oper), ops.toList[k]? = some o → ∀ e ∈ o.after, Region.binds .any e = true → e.on < k := fun k o hk e he' hb => by
    have := backB_spec b2 k o hk e he' hb
    omega
  have hdep := depsB_spec b3
  obtain ⟨L0, X, E, ⟨⟨hch, hea⟩, hev⟩, sp⟩ := splitC_spec (ops := ops.toList) hD (fun j o t i oi h1 h2 h3 h4 => by
    obtain ⟨e, he', hb, rfl⟩ := hdep o (List.mem_of_getElem? h1) t h2 i oi h3 h4
    exact hB j o h1 e he' hb) ops.toList 0 [] [] [] (fun j => by simp) ⟨fun t f h => (by cases h), fun i oi d hi => by omega, fun j o hj => by omega, fun p hp => (by cases hp), by simp, fun p hp => (by cases hp)⟩ he
  obtain ⟨n, fr, bx, ow⟩ := st
  refine anyI (Inv := InvC P h0 w0 ops n fr bx ow h E L0 K) hB (fun listed a w j o hsz h1 h2 h3 hi => ?_) (fun listed a w hl hi => ?_) ops.size _ a w (by simp) (by simp [List.count_replicate]) ?_
  · refine stepC hD hn sp hch hea h1 h2 hsz (fun t ht i oi hi1 hi2 => ?_) h3 hi
    obtain ⟨e, he1, he2, rfl⟩ := hdep o (List.mem_of_getElem? (i := j) (by simpa using h2)) t ht i oi hi1 hi2
    exact h3 e he1 he2
  · obtain ⟨dn, r, L, bx, ow', h', be, oe, H, hE, _, _, hr, hdn, _, s, hev, R1, R2⟩ := hi
    have hrn : r = [] := by
      cases r with
      | nil => rfl
      | cons p r' =>
        have h1 := hr p (List.mem_cons_self ..)
        have h2 := (sp.eff p (by rw [hE]; simp)).1
        have h3 := hl p.1 (by simpa using h2)
        rcases Nat.lt_or_ge p.1 listed.size with g | g
        · simp [g] at h1 h3
          rw [h3] at h1; cases h1
        · simp [Array.getElem?_eq_none g] at h3
    subst hrn
    simp only [evC, forceL_eq] at hev
    refine hQ a w _ h' be oe H hev (s.refr (fr := finC L fr) fun t => ?_)
    rw [look_finC]
    have key : ∀ t, lookS L t ≠ none → ∃ (i : Nat) (oi : Oper), ops[i]? = some oi ∧ oi.dst = some t ∧ i < ops.size := fun t ht => by
      cases h0' : lookS L0 t with
      | none => exact absurd ((R1 t).1 h0') ht
      | some f =>
        obtain ⟨i, oi, h1, h2, h3⟩ := sp.key t f h0'
        exact ⟨i, oi, by simpa using h2, h3, by simpa using h1⟩
    cases hL : lookS L t with
    | none =>
      have hmiss : ∀ o' ∈ ops.toList, o'.dst ≠ some t := fun o' ho' hd => by
        obtain ⟨i, hi, e⟩ := List.getElem_of_mem ho'
        have h1 : ops[i]? = some o' := by rw [← e]; simp at hi ⊢
        obtain ⟨av', e1, _⟩ := R2 i o' t h1 hd (hl i (by simpa using hi))
        rw [hL] at e1; cases e1
      have g := s.fr t
      change Good _ be oe (look (deadF ops.toList fr) t) _ at g
      rw [deadF_miss hmiss] at g
      exact g
    | some f =>
      cases f with
      | ef F => trivial
      | pu av =>
        obtain ⟨i, oi, h1, h2, h3⟩ := key t (by rw [hL]; simp)
        obtain ⟨av', e1, e2⟩ := R2 i oi t h1 h2 (hl i h3)
        rw [hL] at e1; cases e1
        exact Good.fr (st := ⟨n, fr, bx, ow'⟩) (fr := deadF ops.toList fr) e2
  · refine ⟨[], E, L0, bx, ow, h, be, oe, H, rfl, fun _ => ⟨rfl, fun _ _ h => h⟩, fun j o h1 h2 => by (simp [Array.getElem?_replicate] at h2; split at h2 <;> cases h2), fun p hp => ?_, fun p hp => (by cases hp), .inl rfl, s.refr (fr := deadF ops.toList fr) fun t => ?_, hev, fun t => ⟨id, fun av => id⟩, fun j o d h1 h2 h3 => ?_⟩
    · have := (sp.eff p hp).1
      have h2 : p.1 < ops.size := by simpa using this
      simp [h2]
    · by_cases hx : ∃ o ∈ ops.toList, o.dst = some t
      · obtain ⟨o, h1, h2⟩ := hx
        rw [deadF_hit h1 h2]
        trivial
      · rw [deadF_miss fun o ho hd => hx ⟨o, ho, hd⟩]
        exact s.fr t
    · simp [Array.getElem?_replicate] at h3
      split at h3 <;> cases h3
end
end Go.H
