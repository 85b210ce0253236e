/- Plain laws over the model: a region that draws its order, whose operations' facts last: any order will do. -/
import Derived.Test.YtjalbdammdmgiaaH16
namespace Go.H
set_option linter.unusedVariables false
set_option linter.unusedSimpArgs false

/-! ### what the Bool says -/
theorem edgeTo_spec {i : Nat} {o : Oper} (h : edgeTo i o = true) : ∃ e ∈ o.after, Region.binds .any e = true ∧ e.on = i := by
  unfold edgeTo at h
  rw [List.any_eq_true] at h
  obtain ⟨e, he, h⟩ := h
  simp only [Bool.and_eq_true] at h
  exact ⟨e, by simpa using he, h.1, Nat.eq_of_beq_eq_true h.2⟩
theorem writersOk_spec {o : Oper} {t : Nat} : ∀ {l : List Oper} {i : Nat}, writersOk o t l i = true → ∀ k x, l[k]? = some x → x.dst = some t → edgeTo (i + k) o = true
  | [], i, h, k, x, hk, hd => by simp at hk
  | y :: r, i, h, 0, x, hk, hd => by
    simp at hk
    subst hk
    simp only [writersOk, hd, Nat.beq_refl, Bool.and_eq_true] at h
    exact h.1
  | y :: r, i, h, k + 1, x, hk, hd => by
    simp only [List.getElem?_cons_succ] at hk
    have hr : writersOk o t r (i + 1) = true := by
      simp only [writersOk] at h
      split at h
      · split at h
        · simp only [Bool.and_eq_true] at h; exact h.2
        · exact h
      · exact h
    have := writersOk_spec hr k x hk hd
    rwa [show i + 1 + k = i + (k + 1) from by omega] at this
theorem opndsOk_spec {o : Oper} {ops : List Oper} : ∀ {l : List Operand}, opndsOk o ops l = true → ∀ t, Operand.tmp t ∈ l → writersOk o t ops 0 = true
  | [], h, t, ht => by cases ht
  | .tmp u :: r, h, t, ht => by
    simp only [opndsOk, Bool.and_eq_true] at h
    rcases List.mem_cons.1 ht with e | ht
    · cases e; exact h.1
    · exact opndsOk_spec h.2 t ht
  | .const v :: r, h, t, ht => by
    rcases List.mem_cons.1 ht with e | ht
    · cases e
    · exact opndsOk_spec (l := r) h t ht
  | .global v :: r, h, t, ht => by
    rcases List.mem_cons.1 ht with e | ht
    · cases e
    · exact opndsOk_spec (l := r) h t ht
  | .func v :: r, h, t, ht => by
    rcases List.mem_cons.1 ht with e | ht
    · cases e
    · exact opndsOk_spec (l := r) h t ht
theorem depsB_spec {ops : List Oper} : ∀ {l : List Oper}, depsB ops l = true → ∀ o ∈ l, ∀ t, Operand.tmp t ∈ o.op.operands → ∀ k x, ops[k]? = some x → x.dst = some t → ∃ e ∈ o.after, Region.binds .any e = true ∧ e.on = k
  | [], h, o, ho => by cases ho
  | y :: r, h, o, ho => by
    simp only [depsB, Bool.and_eq_true] at h
    rcases List.mem_cons.1 ho with rfl | ho
    · intro t ht k x hk hd
      have := writersOk_spec (opndsOk_spec h.1 t (by simpa using ht)) k x hk hd
      rw [Nat.zero_add] at this
      exact edgeTo_spec this
    · exact depsB_spec h.2 o ho
theorem otherDst_spec {d : Nat} : ∀ {l : List Oper}, otherDst d l = true → ∀ o ∈ l, o.dst ≠ some d
  | [], h, o, ho => by cases ho
  | y :: r, h, o, ho => by
    simp only [otherDst] at h
    split at h
    · rename_i d' hd
      simp only [Bool.and_eq_true, Bool.not_eq_true'] at h
      rcases List.mem_cons.1 ho with rfl | ho
      · intro e; rw [hd] at e; cases e; exact Nat.ne_of_beq_eq_false h.1 rfl
      · exact otherDst_spec h.2 o ho
    · rename_i hd
      rcases List.mem_cons.1 ho with rfl | ho
      · intro e; rw [hd] at e; cases e
      · exact otherDst_spec h o ho
theorem distB_spec {n : Nat} : ∀ {l : List Oper}, distB n l = true → (∀ o ∈ l, ∀ d, o.dst = some d → d < n) ∧
    ∀ (i j : Nat) (oi oj : Oper) (d : Nat), l[i]? = some oi → l[j]? = some oj → oi.dst = some d → oj.dst = some d → i = j
  | [], h => ⟨by simp, fun i j oi oj d hi => by simp at hi⟩
  | y :: r, h => by
    simp only [distB] at h
    split at h
    · rename_i d hd
      simp only [Bool.and_eq_true] at h
      obtain ⟨⟨h1, h2⟩, h3⟩ := h
      obtain ⟨k1, k2⟩ := distB_spec h3
      have ho := otherDst_spec h2
      refine ⟨fun o hm d' hd' => ?_, fun i j oi oj d' hi hj e1 e2 => ?_⟩
      · rcases List.mem_cons.1 hm with rfl | hm
        · rw [hd] at hd'; cases hd'
          have h1' : Nat.ble (d + 1) n = true := h1
          exact Nat.le_of_ble_eq_true h1'
        · exact k1 o hm d' hd'
      · cases i with
        | zero =>
          simp at hi
          cases j with
          | zero => rfl
          | succ j =>
            simp at hj
            subst hi
            rw [hd] at e1; cases e1
            exact absurd e2 (ho oj (List.mem_of_getElem? hj))
        | succ i =>
          simp at hi
          cases j with
          | zero =>
            simp at hj
            subst hj
            rw [hd] at e2; cases e2
            exact absurd e1 (ho oi (List.mem_of_getElem? hi))
          | succ j =>
            simp at hj
            rw [k2 i j oi oj d' hi hj e1 e2]
    · rename_i hd
      obtain ⟨k1, k2⟩ := distB_spec h
      refine ⟨fun o hm d' hd' => ?_, fun i j oi oj d' hi hj e1 e2 => ?_⟩
      · rcases List.mem_cons.1 hm with rfl | hm
        · rw [hd] at hd'; cases hd'
        · exact k1 o hm d' hd'
      · cases i with
        | zero => simp at hi; subst hi; rw [hd] at e1; cases e1
        | succ i =>
          simp at hi
          cases j with
          | zero => simp at hj; subst hj; rw [hd] at e2; cases e2
          | succ j => simp at hj; rw [k2 i j oi oj d' hi hj e1 e2]
theorem backB_spec : ∀ {l : List Oper} {j : Nat}, backB l j = true → ∀ k o, l[k]? = some o → ∀ e ∈ o.after, Region.binds .any e = true → e.on < j + k
  | [], j, h, k, o, hk => by simp at hk
  | y :: r, j, h, k, o, hk => by
    simp only [backB, Bool.and_eq_true, List.all_eq_true] at h
    cases k with
    | zero =>
      simp at hk
      subst hk
      intro e he hb
      have := h.1 e (by simpa using he)
      simp [hb, Nat.blt] at this
      omega
    | succ k =>
      simp at hk
      intro e he hb
      have := backB_spec h.2 k o hk e he hb
      omega

/-! ### slots -/
def deadF : List Oper → List (Nat × AV) → List (Nat × AV)
  | [], fr => fr
  | o :: r, fr => match o.dst with
    | some d => (d, .dead) :: deadF r fr
    | none => deadF r fr
theorem deadF_miss {t : Nat} : ∀ {l : List Oper} {fr : List (Nat × AV)}, (∀ o ∈ l, o.dst ≠ some t) → look (deadF l fr) t = look fr t
  | [], fr, h => rfl
  | o :: r, fr, h => by
    have hr := deadF_miss (fr := fr) fun o' ho' => h o' (List.mem_cons_of_mem _ ho')
    simp only [deadF]
    split
    · rename_i d hd
      rw [look_cons, if_neg (fun e => h o (List.mem_cons_self ..) (by rw [hd, e]))]
      exact hr
    · exact hr
theorem deadF_hit {t : Nat} : ∀ {l : List Oper} {fr : List (Nat × AV)} {o : Oper}, o ∈ l → o.dst = some t → look (deadF l fr) t = .dead
  | [], fr, o, h, _ => by cases h
  | y :: r, fr, o, h, hd => by
    simp only [deadF]
    split
    · rename_i d hy
      rw [look_cons]
      split
      · rfl
      · rename_i hne
        rcases List.mem_cons.1 h with rfl | h
        · rw [hd] at hy; cases hy; exact absurd rfl hne
        · exact deadF_hit h hd
    · rename_i hy
      rcases List.mem_cons.1 h with rfl | h
      · rw [hd] at hy; cases hy
      · exact deadF_hit h hd

theorem lookS_cons (d : Nat) (f : Fact) (r : List (Nat × Fact)) (s : Nat) : lookS ((d, f) :: r) s = if d = s then some f else lookS r s := by
  simp only [lookS]
  cases h : Nat.beq d s with
  | true => rw [if_pos (Nat.eq_of_beq_eq_true h)]
  | false => rw [if_neg (Nat.ne_of_beq_eq_false h)]

def agreeS (L L' : List (Nat × Fact)) (l : List Operand) : Prop := ∀ t, Operand.tmp t ∈ l → lookS L t = lookS L' t
theorem rdS_agree {L L' : List (Nat × Fact)} {st : St} {x : Operand} (h : agreeS L L' [x]) : rdS L st x = rdS L' st x := by
  cases x with
  | tmp t => simp only [rdS, h t (List.mem_cons_self ..)]
  | _ => rfl
theorem pureAV_agree {P : Program} {L L' : List (Nat × Fact)} {o : Oper} {st : St} (h : agreeS L L' o.op.operands.toList) : pureAV P L o st = pureAV P L' o st := by
  unfold pureAV
  split
  · rename_i x hx
    rw [rdS_agree (L' := L') fun t ht => h t (by rw [hx]; simpa [Op.operands] using ht)]
  · rename_i x hx
    rw [rdS_agree (L' := L') fun t ht => h t (by rw [hx]; simpa [Op.operands] using ht)]
  · rename_i t x hx
    rw [rdS_agree (L' := L') fun t ht => h t (by rw [hx]; simpa [Op.operands] using ht)]
  · rfl
theorem openS_agree {L L' : List (Nat × Fact)} {st : St} {h : Hp} {K : List (Nat × AV) → Prop} : ∀ {l : List Operand} {acc : List (Nat × AV)}, agreeS L L' l → openS L st h l acc K → openS L' st h l acc K
  | [], acc, _, he => he
  | .tmp t :: r, acc, ha, he => by
    have hr : agreeS L L' r := fun u hu => ha u (List.mem_cons_of_mem _ hu)
    simp only [openS] at he ⊢
    rw [← ha t (List.mem_cons_self ..)]
    split at he
    · exact openS_agree hr he
    · exact fun v hv => openS_agree hr (he v hv)
    · exact openS_agree hr he
  | .const v :: r, acc, ha, he => openS_agree (l := r) (fun u hu => ha u (List.mem_cons_of_mem _ hu)) he
  | .global v :: r, acc, ha, he => openS_agree (l := r) (fun u hu => ha u (List.mem_cons_of_mem _ hu)) he
  | .func v :: r, acc, ha, he => openS_agree (l := r) (fun u hu => ha u (List.mem_cons_of_mem _ hu)) he

section
variable {P : Program} {h0 : Hp} {w0 : World} {be : Nat → Nat} {oe : Nat → Value} {H : Hp} {h : Hp} {a : Act} {w : World}

theorem Sim.refr {st : St} (s : Sim P h0 w0 be oe H st h a w) {fr : List (Nat × AV)} (hf : ∀ t, Good st be oe (look fr t) (a.tmps.getD t undef)) : Sim P h0 w0 be oe H { st with fr := fr } h a w := by
  have gr : Grow st be oe { st with fr := fr } be oe := ⟨Nat.le_refl _, fun _ _ => rfl, fun i s h => ⟨s, h, Nat.le_refl _, fun _ => rfl⟩⟩
  refine ⟨s.mv, s.sub, fun i cs ty hi => ?_, s.pub, s.own, s.frz, s.bb, s.oo, s.bo, s.dfr, s.siz, fun t => (hf t).grow gr⟩
  obtain ⟨h1, vs, h2, h3⟩ := s.box i cs ty hi
  exact ⟨h1, vs, h2.grow gr, h3⟩

/-- a fact of a slot holds -/
def FactOK (st : St) (be : Nat → Nat) (oe : Nat → Value) (h : Hp) : Fact → Value → Prop
  | .pu av, v => Good st be oe av v
  | .ef F, v => F v h

theorem openS_elim {L : List (Nat × Fact)} {st : St} {h : Hp} {val : Nat → Value} {K : List (Nat × AV) → Prop} : ∀ {l : List Operand} {acc : List (Nat × AV)},
    (∀ t, Good st be oe (look acc t) (val t)) → (∀ t, Operand.tmp t ∈ l → (∀ f, lookS L t = some f → FactOK st be oe h f (val t)) ∧ (lookS L t = none → Good st be oe (look st.fr t) (val t))) →
    openS L st h l acc K → ∃ fr, K fr ∧ ∀ t, Good st be oe (look fr t) (val t)
  | [], acc, h1, h2, he => ⟨acc, he, h1⟩
  | .tmp t :: r, acc, h1, h2, he => by
    have h2r : ∀ u, Operand.tmp u ∈ r → _ := fun u hu => h2 u (List.mem_cons_of_mem _ hu)
    have hx := h2 t (List.mem_cons_self ..)
    have put : ∀ av, Good st be oe av (val t) → ∀ u, Good st be oe (look ((t, av) :: acc) u) (val u) := fun av g u => by
      rw [look_cons]
      split
      · rename_i e; subst e; exact g
      · exact h1 u
    simp only [openS] at he
    split at he
    · rename_i av e
      exact openS_elim (put av (hx.1 _ e)) h2r he
    · rename_i F e
      exact openS_elim (put (.val (val t)) rfl) h2r (he _ (hx.1 _ e))
    · rename_i e
      exact openS_elim (put _ (hx.2 e)) h2r he
  | .const v :: r, acc, h1, h2, he => openS_elim (l := r) h1 (fun u hu => h2 u (List.mem_cons_of_mem _ hu)) he
  | .global v :: r, acc, h1, h2, he => openS_elim (l := r) h1 (fun u hu => h2 u (List.mem_cons_of_mem _ hu)) he
  | .func v :: r, acc, h1, h2, he => openS_elim (l := r) h1 (fun u hu => h2 u (List.mem_cons_of_mem _ hu)) he

theorem finS_elim {st : St} {val : Nat → Value} {K : List (Nat × AV) → Prop} : ∀ {L : List (Nat × Fact)} {fr : List (Nat × AV)}, (∀ p ∈ L, FactOK st be oe h p.2 (val p.1)) → 
    (∀ t, (∀ f, (t, f) ∉ L) → Good st be oe (look fr t) (val t)) → finS h L fr K → ∃ fr, K fr ∧ ∀ t, Good st be oe (look fr t) (val t)
  | [], fr, h1, h2, he => ⟨fr, he, fun t => h2 t (by simp)⟩
  | (d, .pu av) :: r, fr, h1, h2, he => finS_elim (L := r) (fr := (d, av) :: fr) (fun p hp => h1 p (List.mem_cons_of_mem _ hp)) (fun t ht => by
      rw [look_cons]
      split
      · rename_i e; subst e; exact h1 (d, .pu av) (List.mem_cons_self ..)
      · rename_i hne
        exact h2 t fun f hf => by
          rcases List.mem_cons.1 hf with e | hf
          · cases e; exact hne rfl
          · exact ht f hf) he
  | (d, .ef F) :: r, fr, h1, h2, he => finS_elim (L := r) (fr := (d, .val (val d)) :: fr) (fun p hp => h1 p (List.mem_cons_of_mem _ hp)) (fun t ht => by
      rw [look_cons]
      split
      · rename_i e; subst e; exact rfl
      · rename_i hne
        exact h2 t fun f hf => by
          rcases List.mem_cons.1 hf with e | hf
          · cases e; exact hne rfl
          · exact ht f hf) (he _ (h1 (d, .ef F) (List.mem_cons_self ..)))

/-! ### each operation -/
def OpOK (P : Program) (st : St) (h : Hp) (L : List (Nat × Fact)) (o : Oper) : Prop :=
  o.guard = none ∧ ∃ f, (∀ d, o.dst = some d → lookS L d = some f) ∧ match f with
    | .pu av => pureAV P L o st = some av
    | .ef F => (∀ v h1 h2, Sub h1 h2 → F v h1 → F v h2) ∧ ∀ h', Sub h h' → openS L st h' o.op.operands.toList [] fun fr => evOp P o { st with fr := fr } h' (stayS { st with fr := fr } h' F)

theorem lookS_mem : ∀ {L : List (Nat × Fact)} {t : Nat} {f : Fact}, lookS L t = some f → (t, f) ∈ L
  | [], t, f, h => by cases h
  | (d, f') :: r, t, f, h => by
    rw [lookS_cons] at h
    split at h
    · rename_i e; subst e; cases h; exact List.mem_cons_self ..
    · exact List.mem_cons_of_mem _ (lookS_mem h)

theorem evS_spec {ops : List Oper} {st : St} {h : Hp} {K : St → Hp → Prop} (hD : ∀ (i j : Nat) (oi oj : Oper) (d : Nat), ops[i]? = some oi → ops[j]? = some oj → oi.dst = some d → oj.dst = some d → i = j)
    (hdep : ∀ (j : Nat) (o : Oper) (t i : Nat) (oi : Oper), ops[j]? = some o → Operand.tmp t ∈ o.op.operands → ops[i]? = some oi → oi.dst = some t → i < j) :
    ∀ (l : List Oper) (k : Nat) (L : List (Nat × Fact)), (∀ j, l[j]? = ops[k + j]?) → (∀ t f, (t, f) ∈ L → ∃ (i : Nat) (oi : Oper), i < k ∧ ops[i]? = some oi ∧ oi.dst = some t) →
      (∀ (i : Nat) (oi : Oper) (d : Nat), i < k → ops[i]? = some oi → oi.dst = some d → ∃ f, lookS L d = some f) → (∀ p q, p ∈ L → q ∈ L → p.1 = q.1 → p.2 = q.2) → evS P l L st h K →
      ∃ L', (∀ t f, lookS L t = some f → lookS L' t = some f) ∧ (∀ t f, (t, f) ∈ L' → ∃ (i : Nat) (oi : Oper), ops[i]? = some oi ∧ oi.dst = some t) ∧ (∀ p q, p ∈ L' → q ∈ L' → p.1 = q.1 → p.2 = q.2) ∧
        (∀ (i : Nat) (oi : Oper) (d : Nat), ops[i]? = some oi → oi.dst = some d → ∃ f, lookS L' d = some f) ∧
        (∀ j o, k ≤ j → ops[j]? = some o → OpOK P st h L' o) ∧ (∀ h', Sub h h' → finS h' L' st.fr fun fr => K { st with fr := fr } h')
  | [], k, L, hl, hc, hc2, hu, he => by
    have no : ∀ j o, ops[j]? = some o → j < k := fun j o ho => by
      rcases Nat.lt_or_ge j k with h | h
      · exact h
      · have := hl (j - k)
        rw [show k + (j - k) = j from by omega, ho] at this
        simp at this
    refine ⟨L, fun _ _ h => h, fun t f ht => ?_, hu, fun i oi d h1 h2 => hc2 i oi d (no i oi h1) h1 h2, fun j o hj ho => ?_, he⟩
    · obtain ⟨i, oi, _, h1, h2⟩ := hc t f ht
      exact ⟨i, oi, h1, h2⟩
    · exact absurd (no j o ho) (by omega)
  | o :: l, k, L, hl, hc, hc2, hu, he => by
    have ho : ops[k]? = some o := by simpa using (hl 0).symm
    have hl' : ∀ j, l[j]? = ops[k + 1 + j]? := fun j => by have := hl (j + 1); simpa [Nat.add_assoc, Nat.add_comm 1 j] using this
    -- whatever the new fact is
    have rest : ∀ f, evS P l (addS o.dst f L) st h K → ∃ L', (∀ t f, lookS L t = some f → lookS L' t = some f) ∧ (∀ t f, (t, f) ∈ L' → ∃ (i : Nat) (oi : Oper), ops[i]? = some oi ∧ oi.dst = some t) ∧ (∀ p q, p ∈ L' → q ∈ L' → p.1 = q.1 → p.2 = q.2) ∧
        (∀ (i : Nat) (oi : Oper) (d : Nat), ops[i]? = some oi → oi.dst = some d → ∃ f, lookS L' d = some f) ∧
        (∀ j o, k + 1 ≤ j → ops[j]? = some o → OpOK P st h L' o) ∧ (∀ h', Sub h h' → finS h' L' st.fr fun fr => K { st with fr := fr } h') ∧ (∀ d, o.dst = some d → lookS L' d = some f) ∧
        agreeS L L' o.op.operands.toList := by
      intro f he
      have no : ∀ d, o.dst = some d → ∀ r : Nat × Fact, r ∈ L → r.1 ≠ d := fun d hd r hr er => by
        obtain ⟨i, oi, h1, h2, h3⟩ := hc r.1 r.2 hr
        rw [er] at h3
        have := hD i k oi o d h2 ho h3 hd
        omega
      have hc' : ∀ t g, (t, g) ∈ addS o.dst f L → ∃ (i : Nat) (oi : Oper), i < k + 1 ∧ ops[i]? = some oi ∧ oi.dst = some t := fun t g ht => by
        cases hd : o.dst with
        | none =>
          rw [hd] at ht
          obtain ⟨i, oi, h1, h2⟩ := hc t g ht
          exact ⟨i, oi, by omega, h2⟩
        | some d =>
          rw [hd] at ht
          rcases List.mem_cons.1 ht with e | ht
          · cases e; exact ⟨k, o, by omega, ho, hd⟩
          · obtain ⟨i, oi, h1, h2⟩ := hc t g ht
            exact ⟨i, oi, by omega, h2⟩
      have hu' : ∀ p q, p ∈ addS o.dst f L → q ∈ addS o.dst f L → p.1 = q.1 → p.2 = q.2 := fun p q hp hq e => by
        cases hd : o.dst with
        | none => rw [hd] at hp hq; exact hu p q hp hq e
        | some d =>
          rw [hd] at hp hq
          rcases List.mem_cons.1 hp with rfl | hp
          · rcases List.mem_cons.1 hq with rfl | hq
            · rfl
            · exact absurd e.symm (no d hd q hq)
          · rcases List.mem_cons.1 hq with rfl | hq
            · exact absurd e (no d hd p hp)
            · exact hu p q hp hq e
      have up : ∀ t g, lookS L t = some g → lookS (addS o.dst f L) t = some g := fun t g ht => by
        cases hd : o.dst with
        | none => exact ht
        | some d =>
          show lookS ((d, f) :: L) t = some g
          rw [lookS_cons]
          split
          · rename_i e
            subst e
            exact absurd rfl (no d hd _ (lookS_mem ht))
          · exact ht
      have top : ∀ d, o.dst = some d → lookS (addS o.dst f L) d = some f := fun d hd => by
        rw [hd]; show lookS ((d, f) :: L) d = some f; rw [lookS_cons, if_pos rfl]
      have hc2' : ∀ i oi d, i < k + 1 → ops[i]? = some oi → oi.dst = some d → ∃ f', lookS (addS o.dst f L) d = some f' := fun i oi d hi h1 h2 => by
        rcases Nat.lt_or_ge i k with h | h
        · obtain ⟨g, hg⟩ := hc2 i oi d h h1 h2
          exact ⟨g, up d g hg⟩
        · have : i = k := by omega
          subst this
          rw [ho] at h1; cases h1
          exact ⟨f, top d h2⟩
      obtain ⟨L', a1, a2, a3, a3', a4, a5⟩ := evS_spec hD hdep l (k + 1) _ hl' hc' hc2' hu' he
      refine ⟨L', fun t g ht => a1 t g (up t g ht), a2, a3, a3', a4, a5, fun d hd => a1 d f (top d hd), fun t ht => ?_⟩
      cases hL : lookS L t with
      | some g => exact (a1 t g (up t g hL)).symm
      | none =>
        cases hL' : lookS L' t with
        | none => rfl
        | some g =>
          exfalso
          obtain ⟨i, oi, h1, h2⟩ := a2 t g (lookS_mem hL')
          have hlt := hdep k o t i oi ho (by simpa using ht) h1 h2
          obtain ⟨g', hg'⟩ := hc2 i oi t hlt h1 h2
          rw [hL] at hg'; cases hg'
    have fin : ∀ f, (∃ L', (∀ t f, lookS L t = some f → lookS L' t = some f) ∧ (∀ t f, (t, f) ∈ L' → ∃ (i : Nat) (oi : Oper), ops[i]? = some oi ∧ oi.dst = some t) ∧ (∀ p q, p ∈ L' → q ∈ L' → p.1 = q.1 → p.2 = q.2) ∧
        (∀ (i : Nat) (oi : Oper) (d : Nat), ops[i]? = some oi → oi.dst = some d → ∃ f, lookS L' d = some f) ∧
        (∀ j o, k + 1 ≤ j → ops[j]? = some o → OpOK P st h L' o) ∧ (∀ h', Sub h h' → finS h' L' st.fr fun fr => K { st with fr := fr } h') ∧ (∀ d, o.dst = some d → lookS L' d = some f) ∧
        agreeS L L' o.op.operands.toList) → (∀ L', agreeS L L' o.op.operands.toList → (∀ d, o.dst = some d → lookS L' d = some f) → OpOK P st h L' o) →
        ∃ L', (∀ t f, lookS L t = some f → lookS L' t = some f) ∧ (∀ t f, (t, f) ∈ L' → ∃ (i : Nat) (oi : Oper), ops[i]? = some oi ∧ oi.dst = some t) ∧ (∀ p q, p ∈ L' → q ∈ L' → p.1 = q.1 → p.2 = q.2) ∧
        (∀ (i : Nat) (oi : Oper) (d : Nat), ops[i]? = some oi → oi.dst = some d → ∃ f, lookS L' d = some f) ∧
        (∀ j o, k ≤ j → ops[j]? = some o → OpOK P st h L' o) ∧ (∀ h', Sub h h' → finS h' L' st.fr fun fr => K { st with fr := fr } h') := by
      rintro f ⟨L', a1, a2, a3, a3', a4, a5, a6, a7⟩ hok
      refine ⟨L', a1, a2, a3, a3', fun j oj hj hoj => ?_, a5⟩
      rcases Nat.lt_or_ge k j with hk | hk
      · exact a4 j oj hk hoj
      · have : j = k := by omega
        subst this
        rw [ho] at hoj; cases hoj
        exact hok L' a7 a6
    obtain ⟨n, fr, bx, ow⟩ := st
    simp only [evS] at he
    split at he
    · exact he.elim
    · rename_i hg
      split at he
      · rename_i av hav
        rw [forceA_eq] at he
        exact fin (.pu av) (rest _ he) fun L' ag top => ⟨hg, .pu av, top, by rw [← pureAV_agree ag]; exact hav⟩
      · obtain ⟨F, h1, h2, he⟩ := he
        exact fin (.ef F) (rest _ he) fun L' ag top => ⟨hg, .ef F, top, h1, fun h' hs => openS_agree ag (h2 h' hs)⟩

/-! ### one operation, in whatever order -/
theorem pure_ev {st : St} {L : List (Nat × Fact)} {o : Oper} {av : AV} {val : Nat → Value} (hp : pureAV P L o st = some av)
    (hv : ∀ t, Operand.tmp t ∈ o.op.operands → (∀ f, lookS L t = some f → FactOK st be oe h f (val t)) ∧ (lookS L t = none → Good st be oe (look st.fr t) (val t))) :
    ∃ fr, (∀ t, Good st be oe (look fr t) (val t)) ∧ evOp P o { st with fr := fr } h fun av' st' h' => av' = av ∧ st' = { st with fr := fr } ∧ h' = h := by
  have one : ∀ x : Operand, (∀ t, x = .tmp t → Operand.tmp t ∈ o.op.operands) → rdS L st x ≠ .dead → ∃ fr, (∀ t, Good st be oe (look fr t) (val t)) ∧ rdO { st with fr := fr } x = rdS L st x := by
    intro x hx hne
    cases x with
    | tmp t =>
      obtain ⟨h1, h2⟩ := hv t (hx t rfl)
      have mk : ∀ A, Good st be oe A (val t) → ∀ u, Good st be oe (look [(t, A)] u) (val u) := fun A g u => by
        rw [look_cons]
        split
        · rename_i e; subst e; exact g
        · trivial
      have rd : ∀ A, rdO { st with fr := [(t, A)] } (.tmp t) = rdA st A := fun A => by
        show Go.H.rdA _ (look [(t, A)] t) = _
        rw [look_cons, if_pos rfl]
        obtain ⟨n, fr, bx, ow⟩ := st
        cases A <;> rfl
      cases hL : lookS L t with
      | none => exact ⟨_, mk _ (h2 hL), by rw [rd]; simp only [rdS, hL]⟩
      | some f =>
        cases f with
        | pu A => exact ⟨_, mk _ (h1 _ hL), by rw [rd]; simp only [rdS, hL]⟩
        | ef F => exact absurd (by simp only [rdS, hL]) hne
    | const v => exact ⟨[], fun t => trivial, rfl⟩
    | global v => exact ⟨[], fun t => trivial, rfl⟩
    | func v => exact ⟨[], fun t => trivial, rfl⟩
  unfold pureAV at hp
  split at hp
  · rename_i x hx
    have hne : rdS L st x ≠ .dead := fun e => by rw [e] at hp; cases hp
    obtain ⟨fr, g, e⟩ := one x (fun t ht => by rw [hx]; simp [Op.operands, ht]) hne
    refine ⟨fr, g, ?_⟩
    simp only [evOp, hx, e]
    revert hp
    cases rdS L st x <;> intro hp <;> first | (cases hp; done) | (cases hp; simp; done)
  · rename_i x hx
    have hne : rdS L st x ≠ .dead := fun e => by rw [e] at hp; cases hp
    obtain ⟨fr, g, e⟩ := one x (fun t ht => by rw [hx]; simp [Op.operands, ht]) hne
    refine ⟨fr, g, ?_⟩
    simp only [evOp, hx, e]
    revert hp
    cases rdS L st x <;> intro hp <;> first | (cases hp; done) | (cases hp; simp; done)
  · rename_i t x hx
    have hne : rdS L st x ≠ .dead := fun e => by rw [e] at hp; cases hp
    obtain ⟨fr, g, e⟩ := one x (fun t ht => by rw [hx]; simp [Op.operands, ht]) hne
    refine ⟨fr, g, ?_⟩
    simp only [evOp, hx, e]
    split at hp
    · rename_i i off hr
      split at hp
      · rename_i cs ty hn
        simp only [hr, hn]
        unfold getCo at hp
        unfold getC
        cases hA : tAgg P t with
        | none => rw [hA] at hp; cases hp
        | some bb =>
          rw [hA] at hp
          cases bb with
          | true =>
            cases hT : tSize P t with
            | none => rw [hT] at hp; cases hp
            | some m =>
              rw [hT] at hp
              simp only at hp ⊢
              split at hp
              · rename_i hB
                cases hp
                rw [hB]
                simp
              · cases hp
          | false =>
            simp only at hp ⊢
            split at hp
            · rename_i c hN
              cases hp
              rw [hN]
              simp
            · cases hp
      · cases hp
    · cases hp
  · cases hp

def InvS (P : Program) (h0 : Hp) (w0 : World) (ops : Array Oper) (st : St) (h : Hp) (L : List (Nat × Fact)) (listed : Array Bool) (a : Act) (w : World) : Prop :=
  ∃ be oe H h', Sub h h' ∧ Sim P h0 w0 be oe H { st with fr := deadF ops.toList st.fr } h' a w ∧
    ∀ j o d f, ops[j]? = some o → o.dst = some d → listed.getD j false = true → lookS L d = some f → FactOK st be oe h' f (a.tmps.getD d undef)

theorem Good.fr {st : St} {fr : List (Nat × AV)} {av : AV} {v : Value} (g : Good st be oe av v) : Good { st with fr := fr } be oe av v := by
  obtain ⟨n, fr0, bx, ow⟩ := st
  show Good ⟨n, fr, bx, ow⟩ be oe av v
  exact Good.grow (st := ⟨n, fr0, bx, ow⟩) (st' := ⟨n, fr, bx, ow⟩) (be := be) (oe := oe) (be' := be) (oe' := oe) (av := av) (x := v) ⟨Nat.le_refl _, fun _ _ => rfl, fun i s h => ⟨s, h, Nat.le_refl _, fun _ => rfl⟩⟩ g

theorem stepS {ops : Array Oper} {st : St} {L : List (Nat × Fact)} {listed : Array Bool} {j : Nat} {o : Oper} {Q : Exit → Act → World → Prop}
    (hD : ∀ (i j : Nat) (oi oj : Oper) (d : Nat), ops.toList[i]? = some oi → ops.toList[j]? = some oj → oi.dst = some d → oj.dst = some d → i = j)
    (hn : ∀ o ∈ ops.toList, ∀ d, o.dst = some d → d < st.n)
    (hL1 : ∀ t f, (t, f) ∈ L → ∃ (i : Nat) (oi : Oper), ops.toList[i]? = some oi ∧ oi.dst = some t)
    (hL2 : ∀ (i : Nat) (oi : Oper) (d : Nat), ops.toList[i]? = some oi → oi.dst = some d → ∃ f, lookS L d = some f)
    (ho : ops[j]? = some o) (hall : ∀ (j : Nat) (o : Oper), ops.toList[j]? = some o → OpOK P st h L o) (hdep : ∀ t, Operand.tmp t ∈ o.op.operands → ∀ (i : Nat) (oi : Oper), ops.toList[i]? = some oi → oi.dst = some t → listed.getD i false = true)
    (hi : InvS P h0 w0 ops st h L listed a w) : o.wp P a w (InvS P h0 w0 ops st h L (listed.setIfInBounds j true)) Q := by
  obtain ⟨be, oe, H, h', hs, s, facts⟩ := hi
  have hoL : ops.toList[j]? = some o := by simpa using ho
  have hmem : o ∈ ops.toList := List.mem_of_getElem? hoL
  obtain ⟨hg, f, hf, hop⟩ := hall j o hoL
  have hst : ∀ d F, lookS L d = some (.ef F) → ∀ v h1 h2, Sub h1 h2 → F v h1 → F v h2 := fun d F hF => by
    obtain ⟨i, oi, h1, h2⟩ := hL1 d _ (lookS_mem hF)
    obtain ⟨_, f', hf', hop'⟩ := hall i oi h1
    rw [hf' d h2] at hF
    cases hF
    exact hop'.1
  -- what the operands hold
  have opnd : ∀ t, Operand.tmp t ∈ o.op.operands → (∀ f, lookS L t = some f → FactOK st be oe h' f (a.tmps.getD t undef)) ∧ (lookS L t = none → Good st be oe (look st.fr t) (a.tmps.getD t undef)) := fun t ht => by
    refine ⟨fun f hf => ?_, fun hno => ?_⟩
    · obtain ⟨i, oi, h1, h2⟩ := hL1 t f (lookS_mem hf)
      exact facts i oi t f (by simpa using h1) h2 (hdep t ht i oi h1 h2) hf
    · have g := s.fr t
      have hmiss : look (deadF ops.toList st.fr) t = look st.fr t := deadF_miss fun o' ho' hd => by
        obtain ⟨i, hi, e⟩ := List.getElem_of_mem ho'
        obtain ⟨f, hf⟩ := hL2 i o' t (by rw [List.getElem?_eq_getElem hi, e]) hd
        rw [hno] at hf; cases hf
      rw [← hmiss]
      exact Good.fr (st := { st with fr := deadF ops.toList st.fr }) (fr := st.fr) g
  -- behind the operation
  have fin : ∀ {fr : List (Nat × AV)} {a' : Act} {w' : World} {h'' : Hp} {be' : Nat → Nat} {oe' : Nat → Value} {H' : Hp} {v : Value}, Sub h' h'' → a' = a.put o.dst v → Sim P h0 w0 be' oe' H' { st with fr := fr } h'' a w' →
      Grow { st with fr := fr } be oe { st with fr := fr } be' oe' → FactOK st be' oe' h'' f v → InvS P h0 w0 ops st h L (listed.setIfInBounds j true) a' w' := by
    intro fr a' w' h'' be' oe' H' v hss ha s' gr hv
    subst ha
    have gr' : Grow { st with fr := deadF ops.toList st.fr } be oe { st with fr := deadF ops.toList st.fr } be' oe' := ⟨gr.bl, gr.be, gr.sm⟩
    have gr2 : Grow st be oe st be' oe' := ⟨gr.bl, gr.be, gr.sm⟩
    have s1 : Sim P h0 w0 be' oe' H' { st with fr := deadF ops.toList st.fr } h'' a w' :=
      s'.refr (fr := deadF ops.toList st.fr) fun t => Good.fr (st := { st with fr := deadF ops.toList st.fr }) ((s.fr t).grow gr')
    have s2 : Sim P h0 w0 be' oe' H' { st with fr := deadF ops.toList st.fr } h'' (a.put o.dst v) w' := by
      cases hd : o.dst with
      | none => exact s1
      | some d =>
        have hp := s1.put (d := d) (av := .dead) (v := v) (hn o hmem d hd) trivial
        refine hp.refr (fr := deadF ops.toList st.fr) fun t => ?_
        have g := hp.fr t
        rw [look_cons] at g
        split at g
        · rename_i e
          subst e
          rw [deadF_hit hmem hd]
          trivial
        · exact g
    refine ⟨be', oe', H', h'', fun b x hb => hss b x (hs b x hb), s2, fun i oi d g h1 h2 h3 h4 => ?_⟩
    by_cases hij : j = i
    · subst hij
      rw [ho] at h1; cases h1
      rw [hf d h2] at h4; cases h4
      have hlt : d < a.tmps.size := by rw [s.siz]; exact hn o hmem d h2
      have : (a.put o.dst v).tmps.getD d undef = v := by
        rw [h2]
        simp [Act.put, hlt]
      rw [this]
      exact hv
    · have hl0 : listed.getD i false = true := by rw [getD_set_ne false hij] at h3; exact h3
      have hne : ∀ d', o.dst = some d' → d' ≠ d := fun d' hd' e => by
        subst e
        exact hij (hD j i o oi d' hoL (by simpa using h1) hd' h2)
      have : (a.put o.dst v).tmps.getD d undef = a.tmps.getD d undef := by
        cases hd : o.dst with
        | none => rfl
        | some d' => simp [Act.put, Array.getElem?_setIfInBounds_ne (hne d' hd)]
      rw [this]
      have old := facts i oi d g h1 h2 hl0 h4
      cases g with
      | pu av => exact Good.grow gr2 old
      | ef F => exact hst d F h4 _ _ _ hss old
  cases f with
  | pu av =>
    obtain ⟨fr, g, he⟩ := pure_ev (h := h') hop opnd
    have s' : Sim P h0 w0 be oe H { st with fr := fr } h' a w := s.refr (fr := fr) fun t => Good.fr (g t)
    refine Oper.wp_mono (fun a' w' hx => ?_) (evOp_sound s' he)
    obtain ⟨av', st', h'', v, be', oe', H', ⟨rfl, rfl, rfl⟩, ha, s2, g2, gr⟩ := hx
    exact fin (fun _ _ h => h) ha s2 gr (Good.fr (st := { st with fr := fr }) (fr := st.fr) g2)
  | ef F =>
    obtain ⟨fr, he, g⟩ := openS_elim (acc := []) (be := be) (oe := oe) (val := fun t => a.tmps.getD t undef) (fun t => trivial) (fun t ht => opnd t (by simpa using ht)) (hop.2 h' hs)
    have s' : Sim P h0 w0 be oe H { st with fr := fr } h' a w := s.refr (fr := fr) fun t => Good.fr (g t)
    refine Oper.wp_mono (fun a' w' hx => ?_) (evOp_sound s' he)
    obtain ⟨av', st', h'', v, be', oe', H', hk, ha, s2, g2, gr⟩ := hx
    cases av' with
    | val u =>
      obtain ⟨rfl, k1, k2⟩ := hk
      have hv : v = u := g2
      subst hv
      exact fin k1 ha s2 gr k2
    | _ => exact hk.elim

theorem ready_nil {ops : Array Oper} (hB : ∀ (k : Nat) (o : Oper), ops.toList[k]? = some o → ∀ e ∈ o.after, Region.binds .any e = true → e.on < k) {listed : Array Bool} (hsz : listed.size = ops.size) (hr : Region.ready .any ops listed = []) :
    ∀ j, j < ops.size → listed.getD j false = true := by
  intro j
  induction j using Nat.strongRecOn with
  | _ j ih =>
    intro hj
    cases hl : listed.getD j false with
    | true => rfl
    | false =>
      have hlt : j < listed.size := by omega
      have : j ∈ Region.ready .any ops listed := by
        refine mem_ready.2 ⟨?_, ops[j], by simp [hj], fun e he hb => ?_⟩
        · simp [hlt] at hl ⊢; exact hl
        · have := hB j ops[j] (by simp [hj]) e he hb
          exact ih e.on this (by omega)
      rw [hr] at this
      cases this

theorem count_set {listed : Array Bool} {j : Nat} (hj : listed.getD j true = false) : (listed.setIfInBounds j true).toList.count true = listed.toList.count true + 1 := by
  have hlt : j < listed.size := by
    rcases Nat.lt_or_ge j listed.size with h | h
    · exact h
    · simp [Array.getElem?_eq_none h] at hj
  have hv : listed[j] = false := by simpa [hlt] using hj
  rw [Array.toList_setIfInBounds, List.count_set (by simpa using hlt)]
  simp [hv]

theorem anyS {ops : Array Oper} {st : St} {L : List (Nat × Fact)} {Q : Exit → Act → World → Prop}
    (hD : ∀ (i j : Nat) (oi oj : Oper) (d : Nat), ops.toList[i]? = some oi → ops.toList[j]? = some oj → oi.dst = some d → oj.dst = some d → i = j)
    (hn : ∀ o ∈ ops.toList, ∀ d, o.dst = some d → d < st.n)
    (hB : ∀ (k : Nat) (o : Oper), ops.toList[k]? = some o → ∀ e ∈ o.after, Region.binds .any e = true → e.on < k)
    (hdep : ∀ o ∈ ops.toList, ∀ t, Operand.tmp t ∈ o.op.operands → ∀ (i : Nat) (oi : Oper), ops.toList[i]? = some oi → oi.dst = some t → ∃ e ∈ o.after, Region.binds .any e = true ∧ e.on = i)
    (hL1 : ∀ t f, (t, f) ∈ L → ∃ (i : Nat) (oi : Oper), ops.toList[i]? = some oi ∧ oi.dst = some t)
    (hL2 : ∀ (i : Nat) (oi : Oper) (d : Nat), ops.toList[i]? = some oi → oi.dst = some d → ∃ f, lookS L d = some f)
    (hall : ∀ (j : Nat) (o : Oper), ops.toList[j]? = some o → OpOK P st h L o)
    (hQ : ∀ listed a w, (∀ j, j < ops.size → listed.getD j false = true) → InvS P h0 w0 ops st h L listed a w → Q .normal a w) :
    ∀ (fuel : Nat) (listed : Array Bool) (a : Act) (w : World), listed.size = ops.size → listed.toList.count true + fuel = ops.size → InvS P h0 w0 ops st h L listed a w → wpAny P .any ops Q fuel listed a w
  | 0, listed, a, w, hsz, hc, hi => by
    have hall' : ∀ j, j < ops.size → listed.getD j false = true := fun j hj => by
      have h1 : ∀ b ∈ listed.toList, true = b := List.count_eq_length.1 (by simp only [Array.length_toList]; omega)
      have hlt : j < listed.size := by omega
      have := h1 listed[j] (by simp)
      simp [hlt, ← this]
    refine ⟨?_, hQ listed a w hall' hi⟩
    cases hr : Region.ready .any ops listed with
    | nil => rfl
    | cons j r =>
      have hj : j ∈ Region.ready .any ops listed := by rw [hr]; exact List.mem_cons_self ..
      obtain ⟨h1, o, h2, _⟩ := mem_ready.1 hj
      have hlt : j < ops.size := (Array.getElem?_eq_some_iff.1 h2).1
      have := hall' j hlt
      have hlt' : j < listed.size := by omega
      simp [hlt'] at this h1
      rw [this] at h1; cases h1
  | fuel + 1, listed, a, w, hsz, hc, hi => by
    refine ⟨fun hr => hQ listed a w (ready_nil hB hsz hr) hi, fun j hj => ?_⟩
    obtain ⟨h1, o, h2, h3⟩ := mem_ready.1 hj
    have hmem : o ∈ ops.toList := List.mem_of_getElem? (i := j) (by simpa using h2)
    unfold wpOp
    simp only [h2]
    have hg : o.guard = none := (hall j o (by simpa using h2)).1
    have hw : Region.wanted o (yielded ops a.tmps) = true := by unfold Region.wanted; rw [hg]
    rw [if_pos hw]
    refine .inl (Oper.wp_mono (fun a' w' hi' => ?_) (stepS (Q := Q) hD hn hL1 hL2 h2 hall (fun t ht i oi hi1 hi2 => ?_) hi))
    · exact anyS hD hn hB hdep hL1 hL2 hall hQ fuel _ a' w' (by simpa using hsz) (by rw [count_set h1]; omega) hi'
    · obtain ⟨e, he, hb, rfl⟩ := hdep o hmem t ht i oi hi1 hi2
      exact h3 e he hb

theorem evS_sound {ops : Array Oper} {st : St} {K : St → Hp → Prop} {Q : Exit → Act → World → Prop} (s : Sim P h0 w0 be oe H st h a w) (hb : stableB st.n ops.toList = true) (he : evS P ops.toList [] st h K)
    (hQ : ∀ a w st h be oe H, K st h → Sim P h0 w0 be oe H st h a w → Q .normal a w) : wpAny P .any ops Q ops.size (Array.replicate ops.size false) a w := by
  simp only [stableB, Bool.and_eq_true] at hb
  obtain ⟨⟨b1, b2⟩, b3⟩ := hb
  obtain ⟨hn, hD⟩ := distB_spec b1
  have hB : ∀ (k : Nat) (o : Oper), ops.toList[k]? = some o → ∀ e ∈ o.after, Region.binds .any e = true → e.on < k := fun k o hk e he' hb => by
    have := backB_spec b2 k o hk e he' hb
    omega
  have hdep := depsB_spec b3
  obtain ⟨L, a1, hL1, hu, hL2, hall, hfin⟩ := evS_spec (ops := ops.toList) hD (fun j o t i oi h1 h2 h3 h4 => by
    obtain ⟨e, he', hb, rfl⟩ := hdep o (List.mem_of_getElem? h1) t h2 i oi h3 h4
    exact hB j o h1 e he' hb) ops.toList 0 [] (fun j => by simp) (by simp) (fun i oi d hi => by omega) (by simp) he
  refine anyS (h0 := h0) (w0 := w0) hD hn hB hdep hL1 hL2 (fun j o ho => hall j o (Nat.zero_le _) ho) (fun listed a w hl hi => ?_) ops.size _ a w (by simp) (by simp [List.count_replicate]) ?_
  · obtain ⟨be, oe, H, h', hs, s, facts⟩ := hi
    obtain ⟨fr, hk, g⟩ := finS_elim (st := st) (be := be) (oe := oe) (val := fun t => a.tmps.getD t undef) (fun p hp => by
      obtain ⟨t, f⟩ := p
      obtain ⟨i, oi, h1, h2⟩ := hL1 t f hp
      obtain ⟨f', hf'⟩ := hL2 i oi t h1 h2
      have : f' = f := hu (t, f') (t, f) (lookS_mem hf') hp rfl
      subst this
      exact facts i oi t f' (by simpa using h1) h2 (hl i (by simpa using (List.getElem?_eq_some_iff.1 h1).1)) hf') (fun t ht => by
      have hmiss : look (deadF ops.toList st.fr) t = look st.fr t := deadF_miss fun o' ho' hd => by
        obtain ⟨i, hi, e⟩ := List.getElem_of_mem ho'
        obtain ⟨f, hf⟩ := hL2 i o' t (by rw [List.getElem?_eq_getElem hi, e]) hd
        exact ht f (lookS_mem hf)
      have := s.fr t
      rw [hmiss] at this
      exact Good.fr (st := { st with fr := deadF ops.toList st.fr }) (fr := st.fr) this) (hfin h' hs)
    exact hQ a w _ h' be oe H hk (s.refr (fr := fr) fun t => Good.fr (g t))
  · refine ⟨be, oe, H, h, fun _ _ h => h, s.refr (fr := deadF ops.toList st.fr) fun t => ?_, fun j o d f h1 h2 h3 => ?_⟩
    · by_cases hx : ∃ o ∈ ops.toList, o.dst = some t
      · obtain ⟨o, h1, h2⟩ := hx
        rw [deadF_hit h1 h2]
        trivial
      · rw [deadF_miss fun o ho hd => hx ⟨o, ho, hd⟩]
        exact s.fr t
    · simp [Array.getElem?_replicate] at h3
      split at h3 <;> cases h3
end
end Go.H
