/- Plain laws over the model: a region in whatever order, with guards: facts that last. -/
import Derived.Test.YtjalbdammdmgiaaH29
namespace Go.H
set_option linter.unusedVariables false
set_option linter.unusedSimpArgs false

theorem lookU_mem : ∀ {L : FL} {t : Nat} {x : List (Nat × Bool) × Fact}, lookU L t = some x → (t, x) ∈ L
  | [], t, x, h => by cases h
  | (d, y) :: r, t, x, h => by
    simp only [lookU] at h
    split at h
    · rename_i hb
      cases h
      rw [Nat.eq_of_beq_eq_true hb]
      exact List.mem_cons_self ..
    · exact List.mem_cons_of_mem _ (lookU_mem h)
theorem lookU_some : ∀ {L : FL} {t : Nat} {x : List (Nat × Bool) × Fact}, (t, x) ∈ L → ∃ y, lookU L t = some y
  | (d, y) :: r, t, x, h => by
    simp only [lookU]
    split
    · exact ⟨_, rfl⟩
    · rename_i hb
      rcases List.mem_cons.1 h with e | h
      · cases e; exact absurd rfl (Nat.ne_of_beq_eq_false hb)
      · exact lookU_some h

theorem lookE_ext {bs : List BE} {x : BE} (hx : ∀ y ∈ bs, y.j ≠ x.j) {j : Nat} {b : BE} (h : lookE bs j = some b) : lookE (x :: bs) j = some b := by
  simp only [lookE]
  split
  · rename_i hb
    obtain ⟨h1, h2⟩ := lookE_mem h
    exact absurd (h2.trans (Nat.eq_of_beq_eq_true hb).symm) (hx b h1)
  · exact h

/-- what is known of each operation: its guards, whether they hold, its fact -/
abbrev Asg := Nat → List (Nat × Bool) × Bool × Fact

structure PreU (ops : List Oper) (A : Asg) (L : FL) (bs : List BE) (k : Nat) : Prop where
  p1 : ∀ t x, (t, x) ∈ L → ∃ i oi, i < k ∧ ops[i]? = some oi ∧ oi.dst = some t ∧ (A i).1 = x.1 ∧ (A i).2.2 = x.2
  p2 : ∀ i oi d, i < k → ops[i]? = some oi → oi.dst = some d → ∃ x, lookU L d = some x
  p3 : ∀ i, i < k → i < ops.length → cB bs (A i).1 = some (A i).2.1
  p4 : ∀ x ∈ bs, x.j < k ∧ (∃ o, ops[x.j]? = some o ∧ o.dst = some x.d) ∧ (A x.j).1 = x.ch ∧ (A x.j).2.2 = .pu (.val (.bool x.e))
structure ExtU (bs bs' : List BE) : Prop where
  c : ∀ ch c, cB bs ch = some c → cB bs' ch = some c
  e : ∀ j b, lookE bs j = some b → lookE bs' j = some b
theorem ExtU.refl (bs : List BE) : ExtU bs bs := ⟨fun _ _ h => h, fun _ _ h => h⟩
theorem ExtU.trans {a b c : List BE} (h1 : ExtU a b) (h2 : ExtU b c) : ExtU a c := ⟨fun ch x h => h2.c ch x (h1.c ch x h), fun j b h => h2.e j b (h1.e j b h)⟩

def OpU (P : Program) (st : St) (h : Hp) (L : FL) (bs : List BE) (o : Oper) (ch : List (Nat × Bool)) (c : Bool) : Fact → Prop
  | .pu av => pureU P L bs ch o st = some av ∨ ∀ h', Sub h h' → imp ch c (openU L st h' ch o.op.operands.toList [] fun fr => evOp P o { st with fr := fr } h' (sameU av { st with fr := fr } h'))
  | .ef F => (∀ v h1 h2, Sub h1 h2 → F v h1 → F v h2) ∧ ∀ h', Sub h h' → imp ch c (openU L st h' ch o.op.operands.toList [] fun fr => evOp P o { st with fr := fr } h' (stayU { st with fr := fr } h' F))

theorem addU_mem {d : Option Tmp} {ch : List (Nat × Bool)} {f : Fact} {L : FL} {p : Nat × List (Nat × Bool) × Fact} (h : p ∈ addU d ch f L) : (∃ s, d = some s ∧ p = (s, ch, f)) ∨ p ∈ L := by
  cases d with
  | none => exact .inr h
  | some s =>
    rcases List.mem_cons.1 h with h | h
    · exact .inl ⟨s, rfl, h⟩
    · exact .inr h
theorem addT_mem {i : Nat} {d : Option Tmp} {ch : List (Nat × Bool)} {av : AV} {bs : List BE} {x : BE} (h : x ∈ addT i d ch av bs) : (∃ s e, d = some s ∧ av = .val (.bool e) ∧ x = ⟨i, s, e, ch⟩) ∨ x ∈ bs := by
  unfold addT at h
  split at h
  · split at h
    · rcases List.mem_cons.1 h with h | h
      · exact .inl ⟨_, _, rfl, rfl, h⟩
      · exact .inr h
    · exact .inr h
  · exact .inr h
theorem addT_ext {i : Nat} {d : Option Tmp} {ch : List (Nat × Bool)} {av : AV} {bs : List BE} (hx : ∀ y ∈ bs, y.j < i) : ExtU bs (addT i d ch av bs) := by
  unfold addT
  split
  · split
    · refine ⟨fun ch' c h => cB_ext (fun y hy => ?_) h, fun j b h => lookE_ext (fun y hy => ?_) h⟩ <;> (have := hx y hy; simp only; omega)
    · exact ExtU.refl _
  · exact ExtU.refl _

theorem evU_nil (P : Program) (i : Nat) (L : FL) (bs : List BE) (st : St) (h : Hp) (K : St → Hp → Prop) : evU P [] i L bs st h K = ∀ h', Sub h h' → finU h' L st.fr fun fr => K { st with fr := fr } h' := by
  obtain ⟨n, fr, bx, ow⟩ := st; rfl
theorem evU_cons (P : Program) (o : Oper) (l : List Oper) (i : Nat) (L : FL) (bs : List BE) (st : St) (h : Hp) (K : St → Hp → Prop) (he : evU P (o :: l) i L bs st h K) :
    ∃ ch c f, chainOf bs o.guard = some ch ∧ cB bs ch = some c ∧ OpU P st h L bs o ch c f ∧ ∃ bs', bs' = (match f with
      | .pu av => addT i o.dst ch av bs
      | .ef _ => bs) ∧ evU P l (i + 1) (addU o.dst ch f L) bs' st h K := by
  obtain ⟨n, fr, bx, ow⟩ := st
  change (match chainOf bs o.guard with
        | some ch => match cB bs ch with
          | some c => match pureU P L bs ch o ⟨n, fr, bx, ow⟩ with
            | some av => forceA av fun av => evU P l (i + 1) (addU o.dst ch (.pu av) L) (addT i o.dst ch av bs) ⟨n, fr, bx, ow⟩ h K
            | none => (∃ av, (∀ h', Sub h h' → imp ch c (openU L ⟨n, fr, bx, ow⟩ h' ch o.op.operands.toList [] fun fr => evOp P o ⟨n, fr, bx, ow⟩ h' (sameU av ⟨n, fr, bx, ow⟩ h'))) ∧
                  forceA av fun av => evU P l (i + 1) (addU o.dst ch (.pu av) L) (addT i o.dst ch av bs) ⟨n, fr, bx, ow⟩ h K) ∨
                (∃ F : Value → Hp → Prop, (∀ v h1 h2, Sub h1 h2 → F v h1 → F v h2) ∧
                  (∀ h', Sub h h' → imp ch c (openU L ⟨n, fr, bx, ow⟩ h' ch o.op.operands.toList [] fun fr => evOp P o ⟨n, fr, bx, ow⟩ h' (stayU ⟨n, fr, bx, ow⟩ h' F))) ∧
                  evU P l (i + 1) (addU o.dst ch (.ef F) L) bs ⟨n, fr, bx, ow⟩ h K)
          | none => False
        | none => False) at he
  split at he
  · rename_i ch hch
    split at he
    · rename_i c hc
      split at he
      · rename_i av hav
        rw [forceA_eq] at he
        exact ⟨ch, c, .pu av, hch, hc, .inl hav, _, rfl, he⟩
      · rcases he with ⟨av, h1, h2⟩ | ⟨F, h1, h2, h3⟩
        · rw [forceA_eq] at h2
          exact ⟨ch, c, .pu av, hch, hc, .inr h1, _, rfl, h2⟩
        · exact ⟨ch, c, .ef F, hch, hc, ⟨h1, h2⟩, _, rfl, h3⟩
    · exact he.elim
  · exact he.elim

theorem evU_spec {P : Program} {ops : List Oper} {st : St} {h : Hp} {K : St → Hp → Prop} (hD : ∀ (i j : Nat) (oi oj : Oper) (d : Nat), ops[i]? = some oi → ops[j]? = some oj → oi.dst = some d → oj.dst = some d → i = j) :
    ∀ (l : List Oper) (k : Nat) (L : FL) (bs : List BE) (A0 : Asg), (∀ j, l[j]? = ops[k + j]?) → k + l.length = ops.length → PreU ops A0 L bs k → evU P l k L bs st h K →
      ∃ (A : Asg) (L' : FL) (Bf : List BE), (∀ i, i < k → A i = A0 i) ∧ ExtU bs Bf ∧ PreU ops A L' Bf ops.length ∧
        (∀ j o, k ≤ j → ops[j]? = some o → ∃ Lj bj, chainOf Bf o.guard = some (A j).1 ∧ PreU ops A Lj bj j ∧ ExtU bj Bf ∧ cB bj (A j).1 = some (A j).2.1 ∧ OpU P st h Lj bj o (A j).1 (A j).2.1 (A j).2.2) ∧
        (∀ h', Sub h h' → finU h' L' st.fr fun fr => K { st with fr := fr } h')
  | [], k, L, bs, A0, hl, hk, hp, he => by
    have hk' : k = ops.length := by simpa using hk
    subst hk'
    refine ⟨A0, L, bs, fun _ _ => rfl, ExtU.refl _, hp, fun j o hj ho => ?_, by rw [evU_nil] at he; exact he⟩
    have := (List.getElem?_eq_some_iff.1 ho).1
    omega
  | o :: l, k, L, bs, A0, hl, hk, hp, he => by
    have ho : ops[k]? = some o := by simpa using (hl 0).symm
    have hl' : ∀ j, l[j]? = ops[k + 1 + j]? := fun j => by have := hl (j + 1); simpa [Nat.add_assoc, Nat.add_comm 1 j] using this
    have hk' : k + 1 + l.length = ops.length := by simp only [List.length_cons] at hk; omega
    obtain ⟨ch, c, f, hch, hc, hop, bs', hbs, he'⟩ := evU_cons P o l k L bs st h K he
    let A1 : Asg := fun i => if i = k then (ch, c, f) else A0 i
    have a1k : A1 k = (ch, c, f) := by simp [A1]
    have a1 : ∀ i, i < k → A1 i = A0 i := fun i hi => by simp [A1, Nat.ne_of_lt hi]
    have hbk : ∀ y ∈ bs, y.j < k := fun y hy => (hp.p4 y hy).1
    have hext : ExtU bs bs' := by
      subst hbs
      cases f with
      | pu av => exact addT_ext hbk
      | ef F => exact ExtU.refl _
    have hp1 : PreU ops A1 (addU o.dst ch f L) bs' (k + 1) := by
      refine ⟨fun t x hx => ?_, fun i oi d hi h1 h2 => ?_, fun i hi hlt => ?_, fun x hx => ?_⟩
      · rcases addU_mem hx with ⟨s, hs, e⟩ | hx
        · cases e
          exact ⟨k, o, Nat.lt_succ_self _, ho, hs, by rw [a1k], by rw [a1k]⟩
        · obtain ⟨i, oi, g1, g2, g3, g4, g5⟩ := hp.p1 t x hx
          exact ⟨i, oi, Nat.lt_succ_of_lt g1, g2, g3, by rw [a1 i g1]; exact g4, by rw [a1 i g1]; exact g5⟩
      · rcases Nat.lt_or_ge i k with hik | hik
        · obtain ⟨x, hx⟩ := hp.p2 i oi d hik h1 h2
          cases hd : o.dst with
          | none => exact ⟨x, hx⟩
          | some s => exact lookU_some (x := x) (List.mem_cons_of_mem _ (lookU_mem hx))
        · have : i = k := by omega
          subst this
          rw [ho] at h1; cases h1
          rw [h2]
          exact lookU_some (List.mem_cons_self ..)
      · rcases Nat.lt_or_ge i k with hik | hik
        · rw [a1 i hik]; exact hext.c _ _ (hp.p3 i hik hlt)
        · have : i = k := by omega
          subst this
          rw [a1k]; exact hext.c _ _ hc
      · subst hbs
        cases f with
        | ef F =>
          obtain ⟨g1, g2, g3, g4⟩ := hp.p4 x hx
          exact ⟨Nat.lt_succ_of_lt g1, g2, by rw [a1 _ g1]; exact g3, by rw [a1 _ g1]; exact g4⟩
        | pu av =>
          rcases addT_mem hx with ⟨s, e, hs, hav, rfl⟩ | hx
          · refine ⟨Nat.lt_succ_self _, ⟨o, ho, hs⟩, by rw [a1k], ?_⟩
            rw [a1k, hav]
          · obtain ⟨g1, g2, g3, g4⟩ := hp.p4 x hx
            exact ⟨Nat.lt_succ_of_lt g1, g2, by rw [a1 _ g1]; exact g3, by rw [a1 _ g1]; exact g4⟩
    obtain ⟨A, L', Bf, b1, b2, b3, b4, b5⟩ := evU_spec hD l (k + 1) _ bs' A1 hl' hk' hp1 he'
    have bk : A k = (ch, c, f) := by rw [b1 k (Nat.lt_succ_self _), a1k]
    have bi : ∀ i, i < k → A i = A0 i := fun i hi => by rw [b1 i (Nat.lt_succ_of_lt hi), a1 i hi]
    refine ⟨A, L', Bf, bi, hext.trans b2, b3, fun j oj hj hoj => ?_, b5⟩
    rcases Nat.lt_or_ge k j with hkj | hkj
    · exact b4 j oj hkj hoj
    · have : j = k := by omega
      subst this
      rw [ho] at hoj; cases hoj
      refine ⟨L, bs, ?_, ⟨fun t x hx => ?_, fun i oi d hi h1 h2 => hp.p2 i oi d hi h1 h2, fun i hi hlt => ?_, fun x hx => ?_⟩, hext.trans b2, by rw [bk]; exact hc, by rw [bk]; exact hop⟩
      · rw [bk]
        cases hg : o.guard with
        | none => rw [hg] at hch; exact hch
        | some p =>
          obtain ⟨jj, w⟩ := p
          rw [hg] at hch
          simp only [chainOf] at hch ⊢
          split at hch
          · rename_i b hb
            rw [(hext.trans b2).e _ _ hb]
            exact hch
          · cases hch
      · obtain ⟨i, oi, g1, g2, g3, g4, g5⟩ := hp.p1 t x hx
        exact ⟨i, oi, g1, g2, g3, by rw [bi i g1]; exact g4, by rw [bi i g1]; exact g5⟩
      · rw [bi i hi]; exact hp.p3 i hi hlt
      · obtain ⟨g1, g2, g3, g4⟩ := hp.p4 x hx
        exact ⟨g1, g2, by rw [bi _ g1]; exact g3, by rw [bi _ g1]; exact g4⟩

section
variable {P : Program} {h0 : Hp} {w0 : World} {be : Nat → Nat} {oe : Nat → Value} {H : Hp} {h : Hp} {a : Act} {w : World}

/-- what a slot holds, where its guards let it be written -/
def SlotOK (st : St) (be : Nat → Nat) (oe : Nat → Value) (h : Hp) (bs : List BE) (x : List (Nat × Bool) × Fact) (v : Value) : Prop := cB bs x.1 = some true → FactOK st be oe h x.2 v

theorem openU_elim {L : FL} {st : St} {h : Hp} {bs : List BE} {ch : List (Nat × Bool)} {val : Nat → Value} {K : List (Nat × AV) → Prop} (hc : cB bs ch = some true) : ∀ {l : List Operand} {acc : List (Nat × AV)},
    (∀ t, Good st be oe (look acc t) (val t)) → (∀ t, Operand.tmp t ∈ l → (∀ x, lookU L t = some x → SlotOK st be oe h bs x (val t)) ∧ (lookU L t = none → Good st be oe (look st.fr t) (val t))) →
    openU L st h ch l acc K → ∃ fr, K fr ∧ ∀ t, Good st be oe (look fr t) (val t)
  | [], acc, h1, h2, he => ⟨acc, he, h1⟩
  | .tmp t :: r, acc, h1, h2, he => by
    have h2r : ∀ u, Operand.tmp u ∈ r → _ := fun u hu => h2 u (List.mem_cons_of_mem _ hu)
    have hx := h2 t (List.mem_cons_self ..)
    have put : ∀ av, Good st be oe av (val t) → ∀ u, Good st be oe (look ((t, av) :: acc) u) (val u) := fun av g u => by
      rw [look_cons]
      split
      · rename_i e; subst e; exact g
      · exact h1 u
    simp only [openU] at he
    split at he
    · rename_i ch2 f e
      split at he
      · rename_i hs
        have hf := hx.1 _ e (cB_sufx hs hc)
        cases f with
        | pu av => exact openU_elim hc (put av hf) h2r he
        | ef F => exact openU_elim hc (put (.val (val t)) rfl) h2r (he _ hf)
      · exact he.elim
    · rename_i e
      exact openU_elim hc (put _ (hx.2 e)) h2r he
  | .const v :: r, acc, h1, h2, he => openU_elim (l := r) hc h1 (fun u hu => h2 u (List.mem_cons_of_mem _ hu)) he
  | .global v :: r, acc, h1, h2, he => openU_elim (l := r) hc h1 (fun u hu => h2 u (List.mem_cons_of_mem _ hu)) he
  | .func v :: r, acc, h1, h2, he => openU_elim (l := r) hc h1 (fun u hu => h2 u (List.mem_cons_of_mem _ hu)) he

theorem finU_elim {st : St} {val : Nat → Value} {K : List (Nat × AV) → Prop} : ∀ {L : FL} {fr : List (Nat × AV)}, (∀ p ∈ L, p.2.1 = [] → FactOK st be oe h p.2.2 (val p.1)) →
    (∀ t, (∀ x, (t, x) ∉ L) → Good st be oe (look fr t) (val t)) → finU h L fr K → ∃ fr, K fr ∧ ∀ t, Good st be oe (look fr t) (val t)
  | [], fr, h1, h2, he => ⟨fr, he, fun t => h2 t (by simp)⟩
  | (d, ch, f) :: r, fr, h1, h2, he => by
    have step : ∀ av, Good st be oe av (val d) → finU h r ((d, av) :: fr) K → ∃ fr, K fr ∧ ∀ t, Good st be oe (look fr t) (val t) := fun av g he =>
      finU_elim (L := r) (fr := (d, av) :: fr) (fun p hp => h1 p (List.mem_cons_of_mem _ hp)) (fun t ht => by
        rw [look_cons]
        split
        · rename_i e; subst e; exact g
        · rename_i hne
          exact h2 t fun x hx => by
            rcases List.mem_cons.1 hx with e | hx
            · cases e; exact hne rfl
            · exact ht x hx) he
    cases ch with
    | nil =>
      have hf := h1 (d, [], f) (List.mem_cons_self ..) rfl
      cases f with
      | pu av => exact step av hf he
      | ef F => exact step (.val (val d)) rfl (he _ hf)
    | cons p q =>
      refine step .dead trivial ?_
      cases f <;> exact he

/-- one operation that only looks -/
theorem pureU_ev {st : St} {L : FL} {bs : List BE} {ch : List (Nat × Bool)} {o : Oper} {av : AV} (hp : pureU P L bs ch o st = some av) (hc : cB bs ch = some true)
    (hv : ∀ t, (∀ x, lookU L t = some x → SlotOK st be oe h bs x (a.tmps.getD t undef)) ∧ (lookU L t = none → Good st be oe (look st.fr t) (a.tmps.getD t undef)) ∨ Operand.tmp t ∉ o.op.operands)
    (ht : ∀ x ∈ bs, ∀ y, lookU L x.d = some y → y = (x.ch, .pu (.val (.bool x.e)))) (hj : ∀ x ∈ bs, lookE bs x.j = some x) (hbsL : ∀ x ∈ bs, ∃ y, lookU L x.d = some y)
    (hg : ∀ {fr : List (Nat × AV)}, (∀ t, Good st be oe (look fr t) (a.tmps.getD t undef)) → Sim P h0 w0 be oe H { st with fr := fr } h a w) {Q : Exit → Act → World → Prop} :
    o.wp P a w (fun a' w' => ∃ v be' oe' H', a' = a.put o.dst v ∧ (∃ fr, Sim P h0 w0 be' oe' H' { st with fr := fr } h a w') ∧ Grow st be oe st be' oe' ∧ Good st be' oe' av v) Q := by
  have s0 : Sim P h0 w0 be oe H { st with fr := [] } h a w := hg (fun t => trivial)
  have rd : ∀ (x : Operand) (ch2 : List (Nat × Bool)), cB bs ch2 = some true → (∀ t, x = .tmp t → Operand.tmp t ∈ o.op.operands) → Good st be oe (rdU L st ch2 x) (a.eval x) := by
    intro x ch2 hc2 hx
    cases x with
    | tmp t =>
      have hvt := (hv t).resolve_right (fun hn => hn (hx t rfl))
      simp only [rdU]
      split
      · rename_i ch3 A e
        split
        · rename_i hs
          have := hvt.1 _ e (cB_sufx hs hc2)
          have g : Good st be oe A (a.tmps.getD t undef) := this
          have g2 := s0.rdA (Good.fr (st := st) (fr := []) g)
          have e2 : rdA { st with fr := [] } A = rdA st A := by obtain ⟨n, fr, bx, ow⟩ := st; cases A <;> rfl
          rw [e2] at g2
          exact Good.fr (st := { st with fr := [] }) (fr := st.fr) g2
        · trivial
      · trivial
      · rename_i e
        have g := hvt.2 e
        have g2 := s0.rdA (Good.fr (st := st) (fr := []) g)
        have e2 : rdA { st with fr := [] } (look st.fr t) = rdA st (look st.fr t) := by obtain ⟨n, fr, bx, ow⟩ := st; cases look fr t <;> rfl
        rw [e2] at g2
        exact Good.fr (st := { st with fr := [] }) (fr := st.fr) g2
    | const v => exact rfl
    | global v => trivial
    | func v => exact rfl
  have done : ∀ {v : Value}, (∀ w', (execOp a.eval o).run P w' = .ok (.value v) w' ∨ ¬ Vis H w') → Good st be oe av v → o.wp P a w (fun a' w' => ∃ v be' oe' H', a' = a.put o.dst v ∧ (∃ fr, Sim P h0 w0 be' oe' H' { st with fr := fr } h a w') ∧ Grow st be oe st be' oe' ∧ Good st be' oe' av v) Q := fun {v} hr g =>
    wp_value ((hr w).resolve_right fun hn => hn s0.mv.vis) ⟨v, be, oe, H, rfl, ⟨[], s0⟩, Grow.refl _ _ _, g⟩
  unfold pureU at hp
  split at hp
  · rename_i x hx
    have g := rd x ch hc (fun t e => by rw [hx]; simp [Op.operands, e])
    refine done (v := a.eval x) (fun w' => .inl (by unfold execOp; rw [hx]; rfl)) ?_
    revert hp
    cases hr : rdU L st ch x <;> intro hp <;> first | (cases hp; done) | (cases hp; rw [hr] at g; exact g)
  · rename_i x hx
    have g := rd x ch hc (fun t e => by rw [hx]; simp [Op.operands, e])
    refine done (v := a.eval x) (fun w' => .inl (by unfold execOp; rw [hx]; rfl)) ?_
    revert hp
    cases hr : rdU L st ch x <;> intro hp <;> first | (cases hp; done) | (cases hp; rw [hr] at g; exact g)
  · rename_i t x hx
    have g := rd x ch hc (fun t e => by rw [hx]; simp [Op.operands, e])
    split at hp
    · rename_i i off hr
      rw [hr] at g
      split at hp
      · rename_i cs ty hn
        have hxt : ∃ u, x = .tmp u := by
          cases x with
          | tmp u => exact ⟨u, rfl⟩
          | const v => simp [rdU, rdO] at hr
          | global v => simp [rdU, rdO] at hr
          | func v => simp [rdU, rdO] at hr
        obtain ⟨u, rfl⟩ := hxt
        have he : evOp P o { st with fr := [(u, .box i off)] } h fun av' st' h' => av' = av ∧ st' = { st with fr := [(u, .box i off)] } ∧ h' = h := by
          have hrd : rdO { st with fr := [(u, .box i off)] } (.tmp u) = .box i off := by
            show rdA _ (look [(u, AV.box i off)] u) = _
            rw [look_cons, if_pos rfl]
            simp only [rdA, hn]
          simp only [evOp, hx, hrd, hn]
          unfold getCo at hp
          unfold getC
          cases hA : tAgg P t with
          | none => rw [hA] at hp; cases hp
          | some bb =>
            rw [hA] at hp
            cases bb with
            | true =>
              cases hT : tSize P t with
              | none => rw [hT] at hp; cases hp
              | some m =>
                rw [hT] at hp
                simp only at hp ⊢
                split at hp
                · rename_i hB
                  cases hp
                  rw [hB]
                  simp
                · cases hp
            | false =>
              simp only at hp ⊢
              split at hp
              · rename_i cc hN
                cases hp
                rw [hN]
                simp
              · cases hp
        have s1 := hg (fr := [(u, .box i off)]) (fun u' => by
          rw [look_cons]
          split
          · rename_i e; subst e; exact g
          · trivial)
        refine Oper.wp_mono (fun a' w' hx => ?_) (evOp_sound s1 he)
        obtain ⟨av', st', h'', v, be', oe', H', ⟨e1, e2, e3⟩, ha, s2, g2, gr⟩ := hx
        rw [e2, e3] at s2
        rw [e1, e2] at g2
        rw [e2] at gr
        exact ⟨v, be', oe', H', ha, ⟨_, s2⟩, ⟨gr.bl, gr.be, gr.sm⟩, Good.fr (st := { st with fr := [(u, .box i off)] }) (fr := st.fr) g2⟩
      · cases hp
    · cases hp
  · rename_i t x k hx
    have g := rd x ch hc (fun t e => by rw [hx]; simp [Op.operands, e])
    split at hp
    · rename_i i off fo hr htf
      rw [hr] at g
      cases hp
      refine done (v := ptr (be i) (off + fo)) (fun w' => ?_) ⟨g.1, rfl⟩
      by_cases hvis : Vis H w'
      · exact .inl (R.run_of (R.exec_fieldAddr (H := H) hx htf g.2) w' hvis)
      · exact .inr hvis
    · rename_i sl j sz kk fo hr htf
      rw [hr] at g
      cases hp
      obtain ⟨b, o', n, cp, e1, e2⟩ := g
      refine done (v := ptr b (o' + (j.toNat * sz + kk) + fo)) (fun w' => ?_) ⟨b, o', n, cp, e1, by simp [Nat.add_assoc]⟩
      by_cases hvis : Vis H w'
      · exact .inl (R.run_of (R.exec_fieldAddr (H := H) hx htf e2) w' hvis)
      · exact .inr hvis
    · cases hp
  · rename_i s x y hx
    have g := rd (.tmp s) ch hc (fun t e => by rw [hx]; cases e; simp [Op.operands])
    split at hp
    · rename_i e q hs hq
      rw [hs] at g
      have ge : a.eval (.tmp s) = .bool e := g
      split at hp
      · rename_i hsf
        obtain ⟨hm, hqd⟩ := slotB_mem hq
        have hqc := cB_sufx hsf hc
        -- the test's own value
        have hqe : q.e = e := by
          have hrd : rdU L st ch (.tmp s) = .val (.bool e) := hs
          obtain ⟨y0, hl⟩ := hbsL q hm
          have hy := ht q hm y0 hl
          rw [hy] at hl
          rw [hqd] at hl
          simp only [rdU, hl, hsf, Go.H.rdA] at hrd
          cases hrd; rfl
        have hlk := hj q hm
        split at hp
        · rename_i bx by_ hx1 hy1
          cases hp
          refine done (v := .bool (cond e bx by_)) (fun w' => .inl ?_) rfl
          unfold execOp; rw [hx]
          simp only [ge, Sem.run_bind, asBool, Sem.run_pure, Result.andThen_ok]
          cases e with
          | true =>
            have hch : cB bs ((q.j, true) :: q.ch) = some true := by
              rw [cB_cons, hlk, hqc]; simp [lit, hqe]
            have g4 := rd x _ hch (fun t e => by rw [hx]; simp [Op.operands, e])
            rw [hx1] at g4
            have g5 : a.eval x = .bool bx := g4
            simp [g5]
          | false =>
            have hch : cB bs ((q.j, false) :: q.ch) = some true := by
              rw [cB_cons, hlk, hqc]; simp [lit, hqe]
            have g4 := rd y _ hch (fun t e => by rw [hx]; simp [Op.operands, e])
            rw [hy1] at g4
            have g5 : a.eval y = .bool by_ := g4
            simp [g5]
        · cases hp
      · cases hp
    · cases hp
  · cases hp

theorem Sim.untail {st : St} {t : List Own} (s : Sim P h0 w0 be oe H { st with ow := st.ow ++ t } h a w) (hf : ∀ u, Good st be oe (look st.fr u) (a.tmps.getD u undef))
    (hb : ∀ i cs ty, nth st.bx i = some (.live cs ty) → ∃ vs, GoodCs st oe cs vs ∧ H (be i) = some (.cells vs.toArray ty (0, 0))) : Sim P h0 w0 be oe H st h a w := by
  have up : ∀ i o, nth st.ow i = some o → nth (st.ow ++ t) i = some o := fun i o hi => by
    rw [nth_eq] at hi ⊢
    rw [List.getElem?_append_left (List.getElem?_eq_some_iff.1 hi).1]
    exact hi
  refine ⟨s.mv, s.sub, fun i cs ty hi => ⟨(s.box i cs ty hi).1, hb i cs ty hi⟩, s.pub, fun i s' e sz by_ nn xs hi => s.own i s' e sz by_ nn xs (up i _ hi), fun i s' v hi => s.frz i s' v (up i _ hi), s.bb,
    fun i j s1 e sz by_ nn xs s2 e' sz' by' nn' xs' g hi hj => s.oo i j s1 e sz by_ nn xs s2 e' sz' by' nn' xs' g (up i _ hi) (up j _ hj), fun i cs ty j s1 e sz by_ nn xs hi hj => s.bo i cs ty j s1 e sz by_ nn xs hi (up j _ hj), s.dfr, s.siz, hf⟩

def InvU (P : Program) (h0 : Hp) (w0 : World) (ops : Array Oper) (st : St) (h : Hp) (A : Asg) (listed : Array Bool) (a : Act) (w : World) : Prop :=
  ∃ be oe H h', Sub h h' ∧ Sim P h0 w0 be oe H { st with fr := deadF ops.toList st.fr } h' a w ∧
    ∀ j o d, ops[j]? = some o → o.dst = some d → listed.getD j false = true → ((A j).2.1 = true → FactOK st be oe h' (A j).2.2 (a.tmps.getD d undef)) ∧ ((A j).2.1 = false → a.tmps.getD d undef = undef)

theorem tail_eq {st st' : St} (t : tailOw st st') : ∃ r, st' = { st with ow := st.ow ++ r } := by
  obtain ⟨n, fr, bx, ow⟩ := st
  obtain ⟨n', fr', bx', ow'⟩ := st'
  obtain ⟨h1, h2, h3, r, h4⟩ := t
  simp only at h1 h2 h3 h4
  subst h1 h2 h3 h4
  exact ⟨r, rfl⟩
theorem nth_app {α : Type} {l r : List α} {i : Nat} (hi : i < l.length) : nth (l ++ r) i = nth l i := by
  rw [nth_eq, nth_eq, List.getElem?_append_left hi]
theorem stamp_app {st : St} {r : List Own} {i s : Nat} (hs : stamp st i = some s) : stamp { st with ow := st.ow ++ r } i = some s := by
  unfold stamp at hs ⊢
  cases hn : nth st.ow i with
  | none => rw [hn] at hs; cases hs
  | some o => rw [hn] at hs; rw [nth_app (nth_lt hn), hn]; exact hs

theorem stepU {ops : Array Oper} {st : St} {A : Asg} {Lf : FL} {Bf : List BE} {listed : Array Bool} {j : Nat} {o : Oper} {Q : Exit → Act → World → Prop}
    (hD : ∀ (i j : Nat) (oi oj : Oper) (d : Nat), ops.toList[i]? = some oi → ops.toList[j]? = some oj → oi.dst = some d → oj.dst = some d → i = j)
    (hn : ∀ o ∈ ops.toList, ∀ d, o.dst = some d → d < st.n)
    (hB : ∀ (k : Nat) (o : Oper), ops.toList[k]? = some o → ∀ e ∈ o.after, Region.binds .any e = true → e.on < k)
    (hdep : ∀ o ∈ ops.toList, ∀ t, Operand.tmp t ∈ o.op.operands → ∀ (i : Nat) (oi : Oper), ops.toList[i]? = some oi → oi.dst = some t → ∃ e ∈ o.after, Region.binds .any e = true ∧ e.on = i)
    (hgd : ∀ o ∈ ops.toList, ∀ i w, o.guard = some (i, w) → edgeTo i o = true)
    (hP : PreU ops.toList A Lf Bf ops.toList.length)
    (hall : ∀ j o, ops.toList[j]? = some o → ∃ Lj bj, chainOf Bf o.guard = some (A j).1 ∧ PreU ops.toList A Lj bj j ∧ ExtU bj Bf ∧ cB bj (A j).1 = some (A j).2.1 ∧ OpU P st h Lj bj o (A j).1 (A j).2.1 (A j).2.2)
    (ho : ops[j]? = some o) (hrd : ∀ e ∈ o.after, Region.binds .any e = true → listed.getD e.on false = true) (hi : InvU P h0 w0 ops st h A listed a w) :
    (Region.wanted o (yielded ops a.tmps) = true → o.wp P a w (InvU P h0 w0 ops st h A (listed.setIfInBounds j true)) Q) ∧
    (Region.wanted o (yielded ops a.tmps) = false → InvU P h0 w0 ops st h A (listed.setIfInBounds j true) (a.put o.dst undef) w) := by
  obtain ⟨be, oe, H, h', hs, s, facts⟩ := hi
  have hoL : ops.toList[j]? = some o := by simpa using ho
  have hmem : o ∈ ops.toList := List.mem_of_getElem? hoL
  have hjlt : j < ops.toList.length := (List.getElem?_eq_some_iff.1 hoL).1
  obtain ⟨Lj, bj, hch, hpj, hxj, hcj, hop⟩ := hall j o hoL
  have hcf : cB Bf (A j).1 = some (A j).2.1 := hP.p3 j hjlt hjlt
  -- the guard
  have hw : Region.wanted o (yielded ops a.tmps) = (A j).2.1 := by
    unfold Region.wanted
    cases hg : o.guard with
    | none =>
      rw [hg] at hch
      cases hch' : (A j).1 with
      | nil => rw [hch'] at hcf; exact Option.some.inj hcf
      | cons p q => rw [hch'] at hch; cases hch
    | some p =>
      obtain ⟨i, wv⟩ := p
      rw [hg] at hch
      simp only [chainOf] at hch
      split at hch
      · rename_i b hb
        obtain ⟨hm, rfl⟩ := lookE_mem hb
        obtain ⟨g1, ⟨o', g2, g3⟩, g4, g5⟩ := hP.p4 b hm
        have hl : listed.getD b.j false = true := by
          obtain ⟨e, he, hb', hon⟩ := edgeTo_spec (hgd o hmem b.j wv hg)
          rw [← hon]; exact hrd e he hb'
        have hf := facts b.j o' b.d (by simpa using g2) g3 hl
        have hc3 := hP.p3 b.j g1 g1
        rw [g4] at hc3
        have hlt : b.d < a.tmps.size := by rw [s.siz]; exact hn o' (List.mem_of_getElem? g2) b.d g3
        have hv : a.tmps[b.d]? = some (if (A b.j).2.1 = true then .bool b.e else undef) := by
          rw [Array.getElem?_eq_getElem hlt]
          have hgd' : a.tmps.getD b.d undef = a.tmps[b.d] := by simp [hlt]
          cases hc : (A b.j).2.1 with
          | true =>
            have := hf.1 hc
            rw [g5, hgd'] at this
            have h2 : a.tmps[b.d] = .bool b.e := this
            rw [h2]; rfl
          | false =>
            have := hf.2 hc
            rw [hgd'] at this
            rw [this]; rfl
        have hy : yielded ops a.tmps b.j = if (A b.j).2.1 = true then some b.e else none := by
          unfold yielded
          have : ops[b.j]? = some o' := by simpa using g2
          simp only [this, g3, Option.bind_some, hv]
          cases (A b.j).2.1 <;> rfl
        have hchj : (A j).1 = (b.j, wv) :: b.ch := by
          have := Option.some.inj hch
          exact this.symm
        rw [hchj, cB_cons, hb, hc3] at hcf
        simp only [Option.some.injEq] at hcf
        simp only [hy, ← hcf]
        cases (A b.j).2.1 <;> cases wv <;> cases b.e <;> rfl
      · cases hch
  have stab : ∀ i oi, ops.toList[i]? = some oi → ∀ F, (A i).2.2 = .ef F → ∀ v h1 h2, Sub h1 h2 → F v h1 → F v h2 := fun i oi hoi F hF => by
    obtain ⟨Li, bi, _, _, _, _, hopi⟩ := hall i oi hoi
    rw [hF] at hopi
    exact hopi.1
  -- behind the operation
  have fin : ∀ {fr : List (Nat × AV)} {a' : Act} {w' : World} {h'' : Hp} {be' : Nat → Nat} {oe' : Nat → Value} {H' : Hp} {v : Value}, Sub h' h'' → a' = a.put o.dst v → Sim P h0 w0 be' oe' H' { st with fr := fr } h'' a w' →
      Grow st be oe st be' oe' → ((A j).2.1 = true → FactOK st be' oe' h'' (A j).2.2 v) → ((A j).2.1 = false → v = undef) → InvU P h0 w0 ops st h A (listed.setIfInBounds j true) a' w' := by
    intro fr a' w' h'' be' oe' H' v hss ha s' gr2 hv hv2
    subst ha
    have gr' : Grow { st with fr := deadF ops.toList st.fr } be oe { st with fr := deadF ops.toList st.fr } be' oe' := ⟨gr2.bl, gr2.be, gr2.sm⟩
    have s1 : Sim P h0 w0 be' oe' H' { st with fr := deadF ops.toList st.fr } h'' a w' :=
      s'.refr (fr := deadF ops.toList st.fr) fun t => Good.fr (st := { st with fr := deadF ops.toList st.fr }) ((s.fr t).grow gr')
    have s2 : Sim P h0 w0 be' oe' H' { st with fr := deadF ops.toList st.fr } h'' (a.put o.dst v) w' := by
      cases hd : o.dst with
      | none => exact s1
      | some d =>
        have hp := s1.put (d := d) (av := .dead) (v := v) (hn o hmem d hd) trivial
        refine hp.refr (fr := deadF ops.toList st.fr) fun t => ?_
        have g := hp.fr t
        rw [look_cons] at g
        split at g
        · rename_i e
          subst e
          rw [deadF_hit hmem hd]
          trivial
        · exact g
    refine ⟨be', oe', H', h'', fun b x hb => hss b x (hs b x hb), s2, fun i oi d h1 h2 h3 => ?_⟩
    by_cases hij : j = i
    · subst hij
      rw [ho] at h1; cases h1
      have hlt : d < a.tmps.size := by rw [s.siz]; exact hn o hmem d h2
      have : (a.put o.dst v).tmps.getD d undef = v := by
        rw [h2]
        simp [Act.put, hlt]
      rw [this]
      exact ⟨hv, hv2⟩
    · have hl0 : listed.getD i false = true := by rw [getD_set_ne false hij] at h3; exact h3
      have hne : ∀ d', o.dst = some d' → d' ≠ d := fun d' hd' e => by
        subst e
        exact hij (hD j i o oi d' hoL (by simpa using h1) hd' h2)
      have : (a.put o.dst v).tmps.getD d undef = a.tmps.getD d undef := by
        cases hd : o.dst with
        | none => rfl
        | some d' => simp [Act.put, Array.getElem?_setIfInBounds_ne (hne d' hd)]
      rw [this]
      obtain ⟨old, old2⟩ := facts i oi d h1 h2 hl0
      refine ⟨fun hc => ?_, old2⟩
      have old := old hc
      cases hA : (A i).2.2 with
      | pu av => rw [hA] at old; exact Good.grow gr2 old
      | ef F => rw [hA] at old; exact stab i oi (by simpa using h1) F hA _ _ _ hss old
  refine ⟨fun hwt => ?_, fun hwf => ?_⟩
  rotate_left
  · have hc : (A j).2.1 = false := by rw [← hw]; exact hwf
    exact fin (fr := deadF ops.toList st.fr) (fun _ _ h => h) rfl s (Grow.refl _ _ _) (fun h => by rw [hc] at h; cases h) (fun _ => rfl)
  have hc : (A j).2.1 = true := by rw [← hw]; exact hwt
  rw [hc] at hcj hop
  have hcf' : cB Bf (A j).1 = some true := by rw [hcf, hc]
  -- what the slots hold
  have slot : ∀ t x, lookU Lj t = some x → SlotOK st be oe h' bj x (a.tmps.getD t undef) ∨ Operand.tmp t ∉ o.op.operands := fun t x hx => by
    by_cases ht : Operand.tmp t ∈ o.op.operands
    · refine .inl fun hcx => ?_
      obtain ⟨i, oi, g1, g2, g3, g4, g5⟩ := hpj.p1 t x (lookU_mem hx)
      obtain ⟨e, he, hb, hon⟩ := hdep o hmem t ht i oi g2 g3
      have hl : listed.getD i false = true := by rw [← hon]; exact hrd e he hb
      have hci : (A i).2.1 = true := by
        have h1 := hP.p3 i (List.getElem?_eq_some_iff.1 g2).1 (List.getElem?_eq_some_iff.1 g2).1
        rw [g4, hxj.c _ _ hcx] at h1
        exact (Option.some.inj h1).symm
      have := (facts i oi t (by simpa using g2) g3 hl).1 hci
      rwa [g5] at this
    · exact .inr ht
  have free : ∀ t, Operand.tmp t ∈ o.op.operands → lookU Lj t = none → Good st be oe (look st.fr t) (a.tmps.getD t undef) := fun t ht hno => by
    have g := s.fr t
    have hmiss : look (deadF ops.toList st.fr) t = look st.fr t := deadF_miss fun o' ho' hd => by
      obtain ⟨i, hi, e⟩ := List.getElem_of_mem ho'
      have hoi : ops.toList[i]? = some o' := by rw [List.getElem?_eq_getElem hi, e]
      obtain ⟨ed, he, hb, hon⟩ := hdep o hmem t ht i o' hoi hd
      have hlt := hB j o hoL ed he hb
      rw [hon] at hlt
      obtain ⟨x, hx⟩ := hpj.p2 i o' t hlt hoi hd
      rw [hno] at hx; cases hx
    rw [← hmiss]
    exact Good.fr (st := { st with fr := deadF ops.toList st.fr }) (fr := st.fr) g
  have opnd : ∀ t, Operand.tmp t ∈ o.op.operands → (∀ x, lookU Lj t = some x → SlotOK st be oe h' bj x (a.tmps.getD t undef)) ∧ (lookU Lj t = none → Good st be oe (look st.fr t) (a.tmps.getD t undef)) := fun t ht =>
    ⟨fun x hx => (slot t x hx).resolve_right fun hn => hn ht, free t ht⟩
  have mk : ∀ {fr : List (Nat × AV)}, (∀ t, Good st be oe (look fr t) (a.tmps.getD t undef)) → Sim P h0 w0 be oe H { st with fr := fr } h' a w := fun {fr} g => s.refr (fr := fr) fun t => Good.fr (g t)
  cases hA : (A j).2.2 with
  | pu av =>
    rw [hA] at hop
    rcases hop with hop | hop
    · refine Oper.wp_mono (fun a' w' hx => ?_) (pureU_ev (be := be) (oe := oe) (H := H) (h := h') hop hcj (fun t => ?_) (fun x hx y hy => ?_) (fun x hx => ?_) (fun x hx => ?_) mk)
      · obtain ⟨v, be', oe', H', ha, ⟨fr, s2⟩, gr, g2⟩ := hx
        exact fin (fun _ _ h => h) ha s2 gr (fun _ => by rw [hA]; exact g2) (fun h => by rw [hc] at h; cases h)
      · by_cases ht : Operand.tmp t ∈ o.op.operands
        · exact .inl (opnd t ht)
        · exact .inr ht
      · obtain ⟨g1, ⟨o', g2, g3⟩, g4, g5⟩ := hpj.p4 x hx
        obtain ⟨i, oi, k1, k2, k3, k4, k5⟩ := hpj.p1 x.d y (lookU_mem hy)
        have : i = x.j := hD i x.j oi o' x.d k2 g2 k3 g3
        subst this
        exact Prod.ext (k4.symm.trans g4) (k5.symm.trans g5)
      · have key : ∀ (l : List BE), x ∈ l → ∃ b, lookE l x.j = some b := by
          intro l
          induction l with
          | nil => intro h; cases h
          | cons z l ih =>
            intro h
            simp only [lookE]
            split
            · exact ⟨_, rfl⟩
            · rename_i hb
              rcases List.mem_cons.1 h with rfl | h
              · exact absurd rfl (Nat.ne_of_beq_eq_false hb)
              · exact ih h
        obtain ⟨b, hb⟩ := key bj hx
        obtain ⟨hbm, hbj⟩ := lookE_mem hb
        obtain ⟨_, ⟨o1, a1, a2⟩, a3, a4⟩ := hpj.p4 b hbm
        obtain ⟨_, ⟨o2, b1, b2⟩, b3, b4⟩ := hpj.p4 x hx
        rw [hbj] at a1 a3 a4
        rw [b1] at a1; cases a1
        rw [b2] at a2
        rw [b4] at a4
        have e1 : x.d = b.d := by simpa using a2
        have e2 : x.ch = b.ch := b3.symm.trans a3
        have e3 : x.e = b.e := by simpa using a4
        rw [hb]
        obtain ⟨bj', bd', be', bc'⟩ := b
        obtain ⟨xj', xd', xe', xc'⟩ := x
        simp only at hbj e1 e2 e3
        subst hbj e1 e2 e3
        rfl
      · obtain ⟨g1, ⟨o', g2, g3⟩, _, _⟩ := hpj.p4 x hx
        exact hpj.p2 x.j o' x.d g1 g2 g3
    · obtain ⟨fr, he, g⟩ := openU_elim (acc := []) (be := be) (oe := oe) (val := fun t => a.tmps.getD t undef) hcj (fun t => trivial) (fun t ht => opnd t (by simpa using ht)) (imp_spec (bs := bj) (hop h' hs) rfl)
      refine Oper.wp_mono (fun a' w' hx => ?_) (evOp_sound (mk g) he)
      obtain ⟨av', st', h'', v, be', oe', H', ⟨rfl, rfl, rfl⟩, ha, s2, g2, gr⟩ := hx
      exact fin (fun _ _ h => h) ha s2 ⟨gr.bl, gr.be, gr.sm⟩ (fun _ => by rw [hA]; exact Good.fr (st := { st with fr := fr }) (fr := st.fr) g2) (fun h => by rw [hc] at h; cases h)
  | ef F =>
    rw [hA] at hop
    obtain ⟨_, hop⟩ := hop
    obtain ⟨fr, he, g⟩ := openU_elim (acc := []) (be := be) (oe := oe) (val := fun t => a.tmps.getD t undef) hcj (fun t => trivial) (fun t ht => opnd t (by simpa using ht)) (imp_spec (bs := bj) (hop h' hs) rfl)
    refine Oper.wp_mono (fun a' w' hx => ?_) (evOp_sound (mk g) he)
    obtain ⟨av', st', h'', v, be', oe', H', hk, ha, s2, g2, gr⟩ := hx
    obtain ⟨st2, h2, ⟨ht, k1, k2⟩, s3, gr3⟩ := rfy_sound s2 g2 hk
    obtain ⟨r, rfl⟩ := tail_eq ht
    have gr4 : Grow st be oe st be' oe' := by
      have gx := gr.trans gr3
      refine ⟨gx.bl, gx.be, fun i s0 hs0 => ?_⟩
      obtain ⟨s1, q1, q2, q3⟩ := gx.sm i s0 hs0
      have q4 : stamp { n := st.n, fr := fr, bx := st.bx, ow := st.ow ++ r } i = some s0 := stamp_app (st := { st with fr := fr }) hs0
      rw [q4] at q1
      cases q1
      exact ⟨s0, hs0, Nat.le_refl _, fun _ => q3 rfl⟩
    have hbox : ∀ i cs ty, nth st.bx i = some (.live cs ty) → ∃ vs, GoodCs { st with fr := fr } oe' cs vs ∧ H' (be' i) = some (.cells vs.toArray ty (0, 0)) := fun i cs ty hi => by
      obtain ⟨_, vs0, q1, _⟩ := s.box i cs ty hi
      obtain ⟨_, vs, q3, q4⟩ := s3.box i cs ty hi
      refine ⟨vs, ?_, q4⟩
      have key : ∀ (cs : List Cell) (vs0 vs : List Value), GoodCs { st with fr := deadF ops.toList st.fr } oe cs vs0 → GoodCs { n := st.n, fr := fr, bx := st.bx, ow := st.ow ++ r } oe' cs vs → GoodCs { st with fr := fr } oe' cs vs := by
        intro cs
        induction cs with
        | nil => intro vs0 vs _ g; cases vs with
          | nil => trivial
          | cons v vs => exact g.elim
        | cons c cs ih =>
          intro vs0 vs g0 g1
          cases vs0 with
          | nil => exact g0.elim
          | cons v0 vs0 =>
            cases vs with
            | nil => exact g1.elim
            | cons v1 vs =>
              refine ⟨?_, ih vs0 vs g0.2 g1.2⟩
              cases c with
              | val x => exact g1.1
              | own k s1 =>
                obtain ⟨t0, r1, _, _⟩ := g0.1
                obtain ⟨t1, r2, r3, r4⟩ := g1.1
                have r5 : stamp { n := st.n, fr := fr, bx := st.bx, ow := st.ow ++ r } k = some t0 := stamp_app (st := { st with fr := fr }) r1
                rw [r5] at r2
                cases r2
                exact ⟨t0, r1, r3, r4⟩
      exact key cs vs0 vs q1 q3
    have s4 : Sim P h0 w0 be' oe' H' { st with fr := fr } h2 a w' := Sim.untail (st := { st with fr := fr }) (t := r) s3 (fun u => Good.grow (st := { st with fr := fr }) (st' := { st with fr := fr }) ⟨gr4.bl, gr4.be, gr4.sm⟩ (Good.fr (g u))) hbox
    exact fin (fr := fr) k1 ha s4 gr4 (fun _ => by rw [hA]; exact k2) (fun h => by rw [hc] at h; cases h)

theorem InvU.start {ops : Array Oper} {st : St} {A : Asg} (s : Sim P h0 w0 be oe H st h a w) : InvU P h0 w0 ops st h A (Array.replicate ops.size false) a w := by
  refine ⟨be, oe, H, h, fun _ _ h => h, s.refr (fr := deadF ops.toList st.fr) fun t => ?_, fun j o d h1 h2 h3 => ?_⟩
  · by_cases hx : ∃ o ∈ ops.toList, o.dst = some t
    · obtain ⟨o, h1, h2⟩ := hx
      rw [deadF_hit h1 h2]
      trivial
    · rw [deadF_miss fun o ho hd => hx ⟨o, ho, hd⟩]
      exact s.fr t
  · simp [Array.getElem?_replicate] at h3
    split at h3 <;> cases h3

theorem finishU {ops : Array Oper} {st : St} {A : Asg} {Lf : FL} {Bf : List BE} {K : St → Hp → Prop} {Q : Exit → Act → World → Prop} {listed : Array Bool}
    (hP : PreU ops.toList A Lf Bf ops.toList.length) (hfin : ∀ h', Sub h h' → finU h' Lf st.fr fun fr => K { st with fr := fr } h') (hl : ∀ j, j < ops.size → listed.getD j false = true)
    (hQ : ∀ a w st h be oe H, K st h → Sim P h0 w0 be oe H st h a w → Q .normal a w) (hi : InvU P h0 w0 ops st h A listed a w) : Q .normal a w := by
  obtain ⟨be, oe, H, h', hs, s, facts⟩ := hi
  obtain ⟨fr, hk, g⟩ := finU_elim (st := st) (be := be) (oe := oe) (val := fun t => a.tmps.getD t undef) (fun p hp hch => by
    obtain ⟨t, x⟩ := p
    obtain ⟨i, oi, h0, h1, h2, h3, h4⟩ := hP.p1 t x hp
    have hc : (A i).2.1 = true := by
      have := hP.p3 i h0 h0
      rw [h3, show x.1 = [] from hch] at this
      exact (Option.some.inj this).symm
    have := (facts i oi t (by simpa using h1) h2 (hl i (by simpa using h0))).1 hc
    rwa [h4] at this) (fun t ht => by
    have hmiss : look (deadF ops.toList st.fr) t = look st.fr t := deadF_miss fun o' ho' hd => by
      obtain ⟨i, hi, e⟩ := List.getElem_of_mem ho'
      obtain ⟨x, hx⟩ := hP.p2 i o' t hi (by rw [List.getElem?_eq_getElem hi, e]) hd
      exact ht x (lookU_mem hx)
    have := s.fr t
    rw [hmiss] at this
    exact Good.fr (st := { st with fr := deadF ops.toList st.fr }) (fr := st.fr) this) (hfin h' hs)
  exact hQ a w _ h' be oe H hk (s.refr (fr := fr) fun t => Good.fr (g t))

theorem guardsB_spec : ∀ {l : List Oper}, guardsB l = true → ∀ o ∈ l, ∀ i w, o.guard = some (i, w) → edgeTo i o = true
  | [], h, o, ho => by cases ho
  | y :: r, h, o, ho => by
    simp only [guardsB, Bool.and_eq_true] at h
    rcases List.mem_cons.1 ho with rfl | ho
    · intro i w hg
      have := h.1
      rw [hg] at this
      exact this
    · exact guardsB_spec h.2 o ho

theorem anyU {ops : Array Oper} {Q : Exit → Act → World → Prop} {Inv : Array Bool → Act → World → Prop} (hB : ∀ (k : Nat) (o : Oper), ops.toList[k]? = some o → ∀ e ∈ o.after, Region.binds .any e = true → e.on < k)
    (hstep : ∀ listed a w j o, ops[j]? = some o → (∀ e ∈ o.after, Region.binds .any e = true → listed.getD e.on false = true) → Inv listed a w →
      (Region.wanted o (yielded ops a.tmps) = true → o.wp P a w (Inv (listed.setIfInBounds j true)) Q) ∧ (Region.wanted o (yielded ops a.tmps) = false → Inv (listed.setIfInBounds j true) (a.put o.dst undef) w))
    (hQ : ∀ listed a w, (∀ j, j < ops.size → listed.getD j false = true) → Inv listed a w → Q .normal a w) :
    ∀ (fuel : Nat) (listed : Array Bool) (a : Act) (w : World), listed.size = ops.size → listed.toList.count true + fuel = ops.size → Inv listed a w → wpAny P .any ops Q fuel listed a w
  | 0, listed, a, w, hsz, hc, hi => by
    have hall' : ∀ j, j < ops.size → listed.getD j false = true := fun j hj => by
      have h1 : ∀ b ∈ listed.toList, true = b := List.count_eq_length.1 (by simp only [Array.length_toList]; omega)
      have hlt : j < listed.size := by omega
      have := h1 listed[j] (by simp)
      simp [hlt, ← this]
    refine ⟨?_, hQ listed a w hall' hi⟩
    cases hr : Region.ready .any ops listed with
    | nil => rfl
    | cons j r =>
      have hj : j ∈ Region.ready .any ops listed := by rw [hr]; exact List.mem_cons_self ..
      obtain ⟨h1, o, h2, _⟩ := mem_ready.1 hj
      have hlt : j < ops.size := (Array.getElem?_eq_some_iff.1 h2).1
      have := hall' j hlt
      have hlt' : j < listed.size := by omega
      simp [hlt'] at this h1
      rw [this] at h1; cases h1
  | fuel + 1, listed, a, w, hsz, hc, hi => by
    refine ⟨fun hr => hQ listed a w (ready_nil hB hsz hr) hi, fun j hj => ?_⟩
    obtain ⟨h1, o, h2, h3⟩ := mem_ready.1 hj
    unfold wpOp
    simp only [h2]
    obtain ⟨ht, hf⟩ := hstep listed a w j o h2 h3 hi
    have next : ∀ a' w', Inv (listed.setIfInBounds j true) a' w' → wpAny P .any ops Q fuel (listed.setIfInBounds j true) a' w' := fun a' w' hi' => anyU hB hstep hQ fuel _ a' w' (by simpa using hsz) (by rw [count_set h1]; omega) hi'
    cases hw : Region.wanted o (yielded ops a.tmps) with
    | true =>
      rw [if_pos rfl]
      exact .inl (Oper.wp_mono next (ht hw))
    | false =>
      rw [if_neg (by simp)]
      exact next _ _ (hf hw)

theorem listU {ops : Array Oper} {Q : Exit → Act → World → Prop} {Inv : Array Bool → Act → World → Prop} (hB : ∀ (k : Nat) (o : Oper), ops.toList[k]? = some o → ∀ e ∈ o.after, Region.binds .any e = true → e.on < k)
    (hstep : ∀ listed a w j o, ops[j]? = some o → (∀ e ∈ o.after, Region.binds .any e = true → listed.getD e.on false = true) → Inv listed a w →
      (Region.wanted o (yielded ops a.tmps) = true → o.wp P a w (Inv (listed.setIfInBounds j true)) Q) ∧ (Region.wanted o (yielded ops a.tmps) = false → Inv (listed.setIfInBounds j true) (a.put o.dst undef) w))
    (hQ : ∀ listed a w, (∀ j, j < ops.size → listed.getD j false = true) → Inv listed a w → Q .normal a w) :
    ∀ (l : List Oper) (k : Nat) (listed : Array Bool) (a : Act) (w : World), (∀ j, l[j]? = ops.toList[k + j]?) → k + l.length = ops.size → listed.size = ops.size → (∀ j, j < k → listed.getD j false = true) → Inv listed a w → wpList P ops Q l a w
  | [], k, listed, a, w, hl, hk, hsz, hp, hi => hQ listed a w (fun j hj => hp j (by simp at hk; omega)) hi
  | o :: l, k, listed, a, w, hl, hk, hsz, hp, hi => by
    have ho : ops.toList[k]? = some o := by simpa using (hl 0).symm
    have hl' : ∀ j, l[j]? = ops.toList[k + 1 + j]? := fun j => by have := hl (j + 1); simpa [Nat.add_assoc, Nat.add_comm 1 j] using this
    obtain ⟨ht, hf⟩ := hstep listed a w k o (by simpa using ho) (fun e he hb => hp _ (hB k o ho e he hb)) hi
    have next : ∀ a' w', Inv (listed.setIfInBounds k true) a' w' → wpList P ops Q l a' w' := fun a' w' hi' =>
      listU hB hstep hQ l (k + 1) _ a' w' hl' (by simp only [List.length_cons] at hk; omega) (by simpa using hsz) (fun j hj => by
        by_cases e : k = j
        · subst e
          have : k < listed.size := by simp only [List.length_cons] at hk; omega
          simp [this]
        · rw [getD_set_ne false e]; exact hp j (by omega)) hi'
    unfold wpList
    cases hw : Region.wanted o (yielded ops a.tmps) with
    | true =>
      rw [if_pos rfl]
      exact .inl (Oper.wp_mono next (ht hw))
    | false =>
      rw [if_neg (by simp)]
      exact next _ _ (hf hw)

theorem evU_both {ops : Array Oper} {st : St} {K : St → Hp → Prop} {Q : Exit → Act → World → Prop} (hb : stableU st.n ops.toList = true) (he : evU P ops.toList 0 [] [] st h K)
    (hQ : ∀ a w st h be oe H, K st h → Sim P h0 w0 be oe H st h a w → Q .normal a w) :
    (∀ {be : Nat → Nat} {oe : Nat → Value} {H : Hp} {a : Act} {w : World}, Sim P h0 w0 be oe H st h a w → wpAny P .any ops Q ops.size (Array.replicate ops.size false) a w) ∧
    (∀ {be : Nat → Nat} {oe : Nat → Value} {H : Hp} {a : Act} {w : World}, Sim P h0 w0 be oe H st h a w → wpList P ops Q ops.toList a w) := by
  simp only [stableU, stableB, Bool.and_eq_true] at hb
  obtain ⟨⟨⟨b1, b2⟩, b3⟩, b4⟩ := hb
  obtain ⟨hn, hD⟩ := distB_spec b1
  have hB : ∀ (k : Nat) (o : Oper), ops.toList[k]? = some o → ∀ e ∈ o.after, Region.binds .any e = true → e.on < k := fun k o hk e he' hb => by
    have := backB_spec b2 k o hk e he' hb
    omega
  have hdep := depsB_spec b3
  have hgd := guardsB_spec b4
  obtain ⟨A, Lf, Bf, _, _, hP, hall, hfin⟩ := evU_spec (ops := ops.toList) hD ops.toList 0 [] [] (fun _ => ([], true, .pu .dead)) (fun j => by simp) (by simp)
    ⟨fun t x h => (by cases h), fun i oi d hi => by omega, fun i hi => by omega, fun x hx => (by cases hx)⟩ he
  have step : ∀ listed a w j o, ops[j]? = some o → (∀ e ∈ o.after, Region.binds .any e = true → listed.getD e.on false = true) → InvU P h0 w0 ops st h A listed a w →
      (Region.wanted o (yielded ops a.tmps) = true → o.wp P a w (InvU P h0 w0 ops st h A (listed.setIfInBounds j true)) Q) ∧ (Region.wanted o (yielded ops a.tmps) = false → InvU P h0 w0 ops st h A (listed.setIfInBounds j true) (a.put o.dst undef) w) :=
    fun listed a w j o h1 h2 h3 => stepU hD hn hB hdep hgd hP (fun j o ho => hall j o (Nat.zero_le _) ho) h1 h2 h3
  have done : ∀ listed a w, (∀ j, j < ops.size → listed.getD j false = true) → InvU P h0 w0 ops st h A listed a w → Q .normal a w := fun listed a w hl hi => finishU hP hfin hl hQ hi
  refine ⟨fun s => ?_, fun s => ?_⟩
  · exact anyU hB step done ops.size _ _ _ (by simp) (by simp [List.count_replicate]) (InvU.start s)
  · exact listU hB step done ops.toList 0 _ _ _ (fun j => by simp) (by simp) (by simp) (fun j hj => by omega) (InvU.start s)
end
end Go.H
