/- The library of the walks, part HD: plain laws over the model. -/
import Derived.Test.YtknoadmdnjaocaaHC
import Derived.ProofKit
namespace Go.H
set_option linter.unusedVariables false
set_option linter.unusedSimpArgs false
theorem P4 {i : Nat} {o : Oper} (h : d6 i o = true) : ∃ e ∈ o.after, Region.binds .any e = true ∧ e.on = i := by
 unfold d6 at h
 rw [List.any_eq_true] at h
 obtain ⟨e, he, h⟩ := h
 simp only [Bool.and_eq_true] at h
 exact ⟨e, by simpa using he, h.1, Nat.eq_of_beq_eq_true h.2⟩
theorem E02 {o : Oper} {t : Nat} : ∀ {l : List Oper} {i : Nat}, Q7 o t l i = true → ∀ k x, l[k]? = some x → x.dst = some t → d6 (i + k) o = true
 | [], i, h, k, x, hk, hd => by simp at hk
 | y :: r, i, h, 0, x, hk, hd => by
  simp at hk
  subst hk
  simp only [Q7, hd, Nat.beq_refl, Bool.and_eq_true] at h
  exact h.1
 | y :: r, i, h, k + 1, x, hk, hd => by
  simp only [List.getElem?_cons_succ] at hk
  have hr : Q7 o t r (i + 1) = true := by
   simp only [Q7] at h
   split at h
   ·split at h
    ·simp only [Bool.and_eq_true] at h; exact h.2
    ·exact h
   ·exact h
  have := E02 hr k x hk hd
  rwa [show i + 1 + k = i + (k + 1) from by omega] at this
theorem H8 {o : Oper} {ops : List Oper} : ∀ {l : List Operand}, h04 o ops l = true → ∀ t, Operand.tmp t ∈ l → Q7 o t ops 0 = true
 | [], h, t, ht => by cases ht
 | .tmp u :: r, h, t, ht => by
  simp only [h04, Bool.and_eq_true] at h
  rcases List.mem_cons.1 ht with e | ht
  ·cases e; exact h.1
  ·exact H8 h.2 t ht
 | .const v :: r, h, t, ht => by
  rcases List.mem_cons.1 ht with e | ht
  ·cases e
  ·exact H8 (l := r) h t ht
 | .global v :: r, h, t, ht => by
  rcases List.mem_cons.1 ht with e | ht
  ·cases e
  ·exact H8 (l := r) h t ht
 | .func v :: r, h, t, ht => by
  rcases List.mem_cons.1 ht with e | ht
  ·cases e
  ·exact H8 (l := r) h t ht
theorem r00 {ops : List Oper} : ∀ {l : List Oper}, l0b ops l = true → ∀ o ∈ l, ∀ t, Operand.tmp t ∈ o.op.operands → ∀ k x, ops[k]? = some x → x.dst = some t → ∃ e ∈ o.after, Region.binds .any e = true ∧ e.on = k
 | [], h, o, ho => by cases ho
 | y :: r, h, o, ho => by
  simp only [l0b, Bool.and_eq_true] at h
  rcases List.mem_cons.1 ho with rfl | ho
  ·intro t ht k x hk hd
   have := E02 (H8 h.1 t (by simpa using ht)) k x hk hd
   rw [Nat.zero_add] at this
   exact P4 this
  ·exact r00 h.2 o ho
theorem Y00 {d : Nat} : ∀ {l : List Oper}, s02 d l = true → ∀ o ∈ l, o.dst ≠ some d
 | [], h, o, ho => by cases ho
 | y :: r, h, o, ho => by
  simp only [s02] at h
  split at h
  ·rename_i d' hd
   simp only [Bool.and_eq_true, Bool.not_eq_true'] at h
   rcases List.mem_cons.1 ho with rfl | ho
   ·intro e; rw [hd] at e; cases e; exact Nat.ne_of_beq_eq_false h.1 rfl
   ·exact Y00 h.2 o ho
  ·rename_i hd
   rcases List.mem_cons.1 ho with rfl | ho
   ·intro e; rw [hd] at e; cases e
   ·exact Y00 h o ho
theorem c9 {n : Nat} : ∀ {l : List Oper}, q09 n l = true → (∀ o ∈ l, ∀ d, o.dst = some d → d < n) ∧
  ∀ (i j : Nat) (oi oj : Oper) (d : Nat), l[i]? = some oi → l[j]? = some oj → oi.dst = some d → oj.dst = some d → i = j
 | [], h => ⟨by simp, fun i j oi oj d hi => by simp at hi⟩
 | y :: r, h => by
  simp only [q09] at h
  split at h
  ·rename_i d hd
   simp only [Bool.and_eq_true] at h
   obtain ⟨⟨h1, h2⟩, h3⟩ := h
   obtain ⟨k1, k2⟩ := c9 h3
   have ho := Y00 h2
   refine ⟨fun o hm d' hd' => ?_, fun i j oi oj d' hi hj e1 e2 => ?_⟩
   ·rcases List.mem_cons.1 hm with rfl | hm
    ·rw [hd] at hd'; cases hd'
     have h1' : Nat.ble (d + 1) n = true := h1
     exact Nat.le_of_ble_eq_true h1'
    ·exact k1 o hm d' hd'
   ·cases i with
    | zero =>
     simp at hi
     cases j with
     | zero => rfl
     | succ j =>
      simp at hj
      subst hi
      rw [hd] at e1; cases e1
      exact absurd e2 (ho oj (List.mem_of_getElem? hj))
    | succ i =>
     simp at hi
     cases j with
     | zero =>
      simp at hj
      subst hj
      rw [hd] at e2; cases e2
      exact absurd e1 (ho oi (List.mem_of_getElem? hi))
     | succ j =>
      simp at hj
      rw [k2 i j oi oj d' hi hj e1 e2]
  ·rename_i hd
   obtain ⟨k1, k2⟩ := c9 h
   refine ⟨fun o hm d' hd' => ?_, fun i j oi oj d' hi hj e1 e2 => ?_⟩
   ·rcases List.mem_cons.1 hm with rfl | hm
    ·rw [hd] at hd'; cases hd'
    ·exact k1 o hm d' hd'
   ·cases i with
    | zero => simp at hi; subst hi; rw [hd] at e1; cases e1
    | succ i =>
     simp at hi
     cases j with
     | zero => simp at hj; subst hj; rw [hd] at e2; cases e2
     | succ j => simp at hj; rw [k2 i j oi oj d' hi hj e1 e2]
theorem o8 : ∀ {l : List Oper} {j : Nat}, J05 l j = true → ∀ k o, l[k]? = some o → ∀ e ∈ o.after, Region.binds .any e = true → e.on < j + k
 | [], j, h, k, o, hk => by simp at hk
 | y :: r, j, h, k, o, hk => by
  simp only [J05, Bool.and_eq_true, List.all_eq_true] at h
  cases k with
  | zero =>
   simp at hk
   subst hk
   intro e he hb
   have := h.1 e (by simpa using he)
   simp [hb, Nat.blt] at this
   omega
  | succ k =>
   simp at hk
   intro e he hb
   have := o8 h.2 k o hk e he hb
   omega
def H1 : List Oper → List (Nat × AV) → List (Nat × AV)
 | [], fr => fr
 | o :: r, fr => match o.dst with
  | some d => (d, .dead) :: H1 r fr
  | none => H1 r fr
theorem j6 {t : Nat} : ∀ {l : List Oper} {fr : List (Nat × AV)}, (∀ o ∈ l, o.dst ≠ some t) → Q0 (H1 l fr) t = Q0 fr t
 | [], fr, h => rfl
 | o :: r, fr, h => by
  have hr := j6 (fr := fr) fun o' ho' => h o' (List.mem_cons_of_mem _ ho')
  simp only [H1]
  split
  ·rename_i d hd
   rw [Z0, if_neg (fun e => h o (List.mem_cons_self ..) (by rw [hd, e]))]
   exact hr
  ·exact hr
theorem l7 {t : Nat} : ∀ {l : List Oper} {fr : List (Nat × AV)} {o : Oper}, o ∈ l → o.dst = some t → Q0 (H1 l fr) t = .dead
 | [], fr, o, h, _ => by cases h
 | y :: r, fr, o, h, hd => by
  simp only [H1]
  split
  ·rename_i d hy
   rw [Z0]
   split
   ·rfl
   ·rename_i hne
    rcases List.mem_cons.1 h with rfl | h
    ·rw [hd] at hy; cases hy; exact absurd rfl hne
    ·exact l7 h hd
  ·rename_i hy
   rcases List.mem_cons.1 h with rfl | h
   ·rw [hd] at hy; cases hy
   ·exact l7 h hd
theorem L5 (d : Nat) (f : J2) (r : List (Nat × J2)) (s : Nat) : K0 ((d, f) :: r) s = if d = s then some f else K0 r s := by
 simp only [K0]
 cases h : Nat.beq d s with
 | true => rw [if_pos (Nat.eq_of_beq_eq_true h)]
 | false => rw [if_neg (Nat.ne_of_beq_eq_false h)]
def J03 (L L' : List (Nat × J2)) (l : List Operand) : Prop := ∀ t, Operand.tmp t ∈ l → K0 L t = K0 L' t
theorem h05 {L L' : List (Nat × J2)} {st : St} {x : Operand} (h : J03 L L' [x]) : rdS L st x = rdS L' st x := by
 cases x with
 | tmp t => simp only [rdS, h t (List.mem_cons_self ..)]
 | _ => rfl
theorem Q08 {P : Program} {L L' : List (Nat × J2)} {o : Oper} {st : St} (h : J03 L L' o.op.operands.toList) : H03 P L o st = H03 P L' o st := by
 unfold H03
 split
 ·rename_i x hx
  rw [h05 (L' := L') fun t ht => h t (by rw [hx]; simpa [Op.operands] using ht)]
 ·rename_i x hx
  rw [h05 (L' := L') fun t ht => h t (by rw [hx]; simpa [Op.operands] using ht)]
 ·rename_i t x hx
  rw [h05 (L' := L') fun t ht => h t (by rw [hx]; simpa [Op.operands] using ht)]
 ·rfl
theorem F7 {L L' : List (Nat × J2)} {st : St} {h : Hp} {K : List (Nat × AV) → Prop} : ∀ {l : List Operand} {acc : List (Nat × AV)}, J03 L L' l → r02 L st h l acc K → r02 L' st h l acc K
 | [], acc, _, he => he
 | .tmp t :: r, acc, ha, he => by
  have hr : J03 L L' r := fun u hu => ha u (List.mem_cons_of_mem _ hu)
  simp only [r02] at he ⊢
  rw [← ha t (List.mem_cons_self ..)]
  split at he
  ·exact F7 hr he
  ·exact fun v hv => F7 hr (he v hv)
  ·exact F7 hr he
 | .const v :: r, acc, ha, he => F7 (l := r) (fun u hu => ha u (List.mem_cons_of_mem _ hu)) he
 | .global v :: r, acc, ha, he => F7 (l := r) (fun u hu => ha u (List.mem_cons_of_mem _ hu)) he
 | .func v :: r, acc, ha, he => F7 (l := r) (fun u hu => ha u (List.mem_cons_of_mem _ hu)) he
section
variable {P : Program} {h0 : Hp} {w0 : World} {be : Nat → Nat} {oe : Nat → Value} {H : Hp} {h : Hp} {a : Act} {w : World}
theorem Sim.refr {st : St} (s : Sim P h0 w0 be oe H st h a w) {fr : List (Nat × AV)} (hf : ∀ t, J0 st be oe (Q0 fr t) (a.tmps.getD t undef)) : Sim P h0 w0 be oe H { st with fr := fr } h a w := by
 have gr : K3 st be oe { st with fr := fr } be oe := ⟨Nat.le_refl _, fun _ _ => rfl, fun i s h => ⟨s, h, Nat.le_refl _, fun _ => rfl⟩⟩
 refine ⟨s.mv, s.sub, fun i cs ty hi => ?_, s.pub, s.own, s.frz, s.bb, s.oo, s.bo, s.dfr, s.siz, fun t => (hf t).grow gr⟩
 obtain ⟨h1, vs, h2, h3⟩ := s.box i cs ty hi
 exact ⟨h1, vs, h2.grow gr, h3⟩
def P9 (st : St) (be : Nat → Nat) (oe : Nat → Value) (h : Hp) : J2 → Value → Prop
 | .pu av, v => J0 st be oe av v
 | .ef F, v => F v h
theorem p8 {L : List (Nat × J2)} {st : St} {h : Hp} {val : Nat → Value} {K : List (Nat × AV) → Prop} : ∀ {l : List Operand} {acc : List (Nat × AV)},
  (∀ t, J0 st be oe (Q0 acc t) (val t)) → (∀ t, Operand.tmp t ∈ l → (∀ f, K0 L t = some f → P9 st be oe h f (val t)) ∧ (K0 L t = none → J0 st be oe (Q0 st.fr t) (val t))) →
  r02 L st h l acc K → ∃ fr, K fr ∧ ∀ t, J0 st be oe (Q0 fr t) (val t)
 | [], acc, h1, h2, he => ⟨acc, he, h1⟩
 | .tmp t :: r, acc, h1, h2, he => by
  have h2r : ∀ u, Operand.tmp u ∈ r → _ := fun u hu => h2 u (List.mem_cons_of_mem _ hu)
  have hx := h2 t (List.mem_cons_self ..)
  have put : ∀ av, J0 st be oe av (val t) → ∀ u, J0 st be oe (Q0 ((t, av) :: acc) u) (val u) := fun av g u => by
   rw [Z0]
   split
   ·rename_i e; subst e; exact g
   ·exact h1 u
  simp only [r02] at he
  split at he
  ·rename_i av e
   exact p8 (put av (hx.1 _ e)) h2r he
  ·rename_i F e
   exact p8 (put (.val (val t)) rfl) h2r (he _ (hx.1 _ e))
  ·rename_i e
   exact p8 (put _ (hx.2 e)) h2r he
 | .const v :: r, acc, h1, h2, he => p8 (l := r) h1 (fun u hu => h2 u (List.mem_cons_of_mem _ hu)) he
 | .global v :: r, acc, h1, h2, he => p8 (l := r) h1 (fun u hu => h2 u (List.mem_cons_of_mem _ hu)) he
 | .func v :: r, acc, h1, h2, he => p8 (l := r) h1 (fun u hu => h2 u (List.mem_cons_of_mem _ hu)) he
theorem i05 {st : St} {val : Nat → Value} {K : List (Nat × AV) → Prop} : ∀ {L : List (Nat × J2)} {fr : List (Nat × AV)}, (∀ p ∈ L, P9 st be oe h p.2 (val p.1)) →
  (∀ t, (∀ f, (t, f) ∉ L) → J0 st be oe (Q0 fr t) (val t)) → p09 h L fr K → ∃ fr, K fr ∧ ∀ t, J0 st be oe (Q0 fr t) (val t)
 | [], fr, h1, h2, he => ⟨fr, he, fun t => h2 t (by simp)⟩
 | (d, .pu av) :: r, fr, h1, h2, he => i05 (L := r) (fr := (d, av) :: fr) (fun p hp => h1 p (List.mem_cons_of_mem _ hp)) (fun t ht => by
   rw [Z0]
   split
   ·rename_i e; subst e; exact h1 (d, .pu av) (List.mem_cons_self ..)
   ·rename_i hne
    exact h2 t fun f hf => by
     rcases List.mem_cons.1 hf with e | hf
     ·cases e; exact hne rfl
     ·exact ht f hf) he
 | (d, .ef F) :: r, fr, h1, h2, he => i05 (L := r) (fr := (d, .val (val d)) :: fr) (fun p hp => h1 p (List.mem_cons_of_mem _ hp)) (fun t ht => by
   rw [Z0]
   split
   ·rename_i e; subst e; exact rfl
   ·rename_i hne
    exact h2 t fun f hf => by
     rcases List.mem_cons.1 hf with e | hf
     ·cases e; exact hne rfl
     ·exact ht f hf) (he _ (h1 (d, .ef F) (List.mem_cons_self ..)))
def O0a (P : Program) (st : St) (h : Hp) (L : List (Nat × J2)) (o : Oper) : Prop :=
 o.guard = none ∧ ∃ f, (∀ d, o.dst = some d → K0 L d = some f) ∧ match f with
  | .pu av => H03 P L o st = some av
  | .ef F => (∀ v h1 h2, Sub h1 h2 → F v h1 → F v h2) ∧ ∀ h', Sub h h' → r02 L st h' o.op.operands.toList [] fun fr => d5 P o { st with fr := fr } h' (S0e { st with fr := fr } h' F)
theorem d9 : ∀ {L : List (Nat × J2)} {t : Nat} {f : J2}, K0 L t = some f → (t, f) ∈ L
 | [], t, f, h => by cases h
 | (d, f') :: r, t, f, h => by
  rw [L5] at h
  split at h
  ·rename_i e; subst e; cases h; exact List.mem_cons_self ..
  ·exact List.mem_cons_of_mem _ (d9 h)
theorem G09 {ops : List Oper} {st : St} {h : Hp} {K : St → Hp → Prop} (hD : ∀ (i j : Nat) (oi oj : Oper) (d : Nat), ops[i]? = some oi → ops[j]? = some oj → oi.dst = some d → oj.dst = some d → i = j)
  (hdep : ∀ (j : Nat) (o : Oper) (t i : Nat) (oi : Oper), ops[j]? = some o → Operand.tmp t ∈ o.op.operands → ops[i]? = some oi → oi.dst = some t → i < j) :
  ∀ (l : List Oper) (k : Nat) (L : List (Nat × J2)), (∀ j, l[j]? = ops[k + j]?) → (∀ t f, (t, f) ∈ L → ∃ (i : Nat) (oi : Oper), i < k ∧ ops[i]? = some oi ∧ oi.dst = some t) →
   (∀ (i : Nat) (oi : Oper) (d : Nat), i < k → ops[i]? = some oi → oi.dst = some d → ∃ f, K0 L d = some f) → (∀ p q, p ∈ L → q ∈ L → p.1 = q.1 → p.2 = q.2) → evS P l L st h K →
   ∃ L', (∀ t f, K0 L t = some f → K0 L' t = some f) ∧ (∀ t f, (t, f) ∈ L' → ∃ (i : Nat) (oi : Oper), ops[i]? = some oi ∧ oi.dst = some t) ∧ (∀ p q, p ∈ L' → q ∈ L' → p.1 = q.1 → p.2 = q.2) ∧
    (∀ (i : Nat) (oi : Oper) (d : Nat), ops[i]? = some oi → oi.dst = some d → ∃ f, K0 L' d = some f) ∧
    (∀ j o, k ≤ j → ops[j]? = some o → O0a P st h L' o) ∧ (∀ h', Sub h h' → p09 h' L' st.fr fun fr => K { st with fr := fr } h')
 | [], k, L, hl, hc, hc2, hu, he => by
  have no : ∀ j o, ops[j]? = some o → j < k := fun j o ho => by
   rcases Nat.lt_or_ge j k with h | h
   ·exact h
   ·have := hl (j - k)
    rw [show k + (j - k) = j from by omega, ho] at this
    simp at this
  refine ⟨L, fun _ _ h => h, fun t f ht => ?_, hu, fun i oi d h1 h2 => hc2 i oi d (no i oi h1) h1 h2, fun j o hj ho => ?_, he⟩
  ·obtain ⟨i, oi, _, h1, h2⟩ := hc t f ht
   exact ⟨i, oi, h1, h2⟩
  ·exact absurd (no j o ho) (by omega)
 | o :: l, k, L, hl, hc, hc2, hu, he => by
  have ho : ops[k]? = some o := by simpa using (hl 0).symm
  have hl' : ∀ j, l[j]? = ops[k + 1 + j]? := fun j => by have := hl (j + 1); simpa [Nat.add_assoc, Nat.add_comm 1 j] using this
  have rest : ∀ f, evS P l (C9 o.dst f L) st h K → ∃ L', (∀ t f, K0 L t = some f → K0 L' t = some f) ∧ (∀ t f, (t, f) ∈ L' → ∃ (i : Nat) (oi : Oper), ops[i]? = some oi ∧ oi.dst = some t) ∧ (∀ p q, p ∈ L' → q ∈ L' → p.1 = q.1 → p.2 = q.2) ∧
    (∀ (i : Nat) (oi : Oper) (d : Nat), ops[i]? = some oi → oi.dst = some d → ∃ f, K0 L' d = some f) ∧
    (∀ j o, k + 1 ≤ j → ops[j]? = some o → O0a P st h L' o) ∧ (∀ h', Sub h h' → p09 h' L' st.fr fun fr => K { st with fr := fr } h') ∧ (∀ d, o.dst = some d → K0 L' d = some f) ∧
    J03 L L' o.op.operands.toList := by
   intro f he
   have no : ∀ d, o.dst = some d → ∀ r : Nat × J2, r ∈ L → r.1 ≠ d := fun d hd r hr er => by
    obtain ⟨i, oi, h1, h2, h3⟩ := hc r.1 r.2 hr
    rw [er] at h3
    have := hD i k oi o d h2 ho h3 hd
    omega
   have hc' : ∀ t g, (t, g) ∈ C9 o.dst f L → ∃ (i : Nat) (oi : Oper), i < k + 1 ∧ ops[i]? = some oi ∧ oi.dst = some t := fun t g ht => by
    cases hd : o.dst with
    | none =>
     rw [hd] at ht
     obtain ⟨i, oi, h1, h2⟩ := hc t g ht
     exact ⟨i, oi, by omega, h2⟩
    | some d =>
     rw [hd] at ht
     rcases List.mem_cons.1 ht with e | ht
     ·cases e; exact ⟨k, o, by omega, ho, hd⟩
     ·obtain ⟨i, oi, h1, h2⟩ := hc t g ht
      exact ⟨i, oi, by omega, h2⟩
   have hu' : ∀ p q, p ∈ C9 o.dst f L → q ∈ C9 o.dst f L → p.1 = q.1 → p.2 = q.2 := fun p q hp hq e => by
    cases hd : o.dst with
    | none => rw [hd] at hp hq; exact hu p q hp hq e
    | some d =>
     rw [hd] at hp hq
     rcases List.mem_cons.1 hp with rfl | hp
     ·rcases List.mem_cons.1 hq with rfl | hq
      ·rfl
      ·exact absurd e.symm (no d hd q hq)
     ·rcases List.mem_cons.1 hq with rfl | hq
      ·exact absurd e (no d hd p hp)
      ·exact hu p q hp hq e
   have up : ∀ t g, K0 L t = some g → K0 (C9 o.dst f L) t = some g := fun t g ht => by
    cases hd : o.dst with
    | none => exact ht
    | some d =>
     show K0 ((d, f) :: L) t = some g
     rw [L5]
     split
     ·rename_i e
      subst e
      exact absurd rfl (no d hd _ (d9 ht))
     ·exact ht
   have top : ∀ d, o.dst = some d → K0 (C9 o.dst f L) d = some f := fun d hd => by
    rw [hd]; show K0 ((d, f) :: L) d = some f; rw [L5, if_pos rfl]
   have hc2' : ∀ i oi d, i < k + 1 → ops[i]? = some oi → oi.dst = some d → ∃ f', K0 (C9 o.dst f L) d = some f' := fun i oi d hi h1 h2 => by
    rcases Nat.lt_or_ge i k with h | h
    ·obtain ⟨g, hg⟩ := hc2 i oi d h h1 h2
     exact ⟨g, up d g hg⟩
    ·have : i = k := by omega
     subst this
     rw [ho] at h1; cases h1
     exact ⟨f, top d h2⟩
   obtain ⟨L', a1, a2, a3, a3', a4, a5⟩ := G09 hD hdep l (k + 1) _ hl' hc' hc2' hu' he
   refine ⟨L', fun t g ht => a1 t g (up t g ht), a2, a3, a3', a4, a5, fun d hd => a1 d f (top d hd), fun t ht => ?_⟩
   cases hL : K0 L t with
   | some g => exact (a1 t g (up t g hL)).symm
   | none =>
    cases hL' : K0 L' t with
    | none => rfl
    | some g =>
     exfalso
     obtain ⟨i, oi, h1, h2⟩ := a2 t g (d9 hL')
     have hlt := hdep k o t i oi ho (by simpa using ht) h1 h2
     obtain ⟨g', hg'⟩ := hc2 i oi t hlt h1 h2
     rw [hL] at hg'; cases hg'
  have fin : ∀ f, (∃ L', (∀ t f, K0 L t = some f → K0 L' t = some f) ∧ (∀ t f, (t, f) ∈ L' → ∃ (i : Nat) (oi : Oper), ops[i]? = some oi ∧ oi.dst = some t) ∧ (∀ p q, p ∈ L' → q ∈ L' → p.1 = q.1 → p.2 = q.2) ∧
    (∀ (i : Nat) (oi : Oper) (d : Nat), ops[i]? = some oi → oi.dst = some d → ∃ f, K0 L' d = some f) ∧
    (∀ j o, k + 1 ≤ j → ops[j]? = some o → O0a P st h L' o) ∧ (∀ h', Sub h h' → p09 h' L' st.fr fun fr => K { st with fr := fr } h') ∧ (∀ d, o.dst = some d → K0 L' d = some f) ∧
    J03 L L' o.op.operands.toList) → (∀ L', J03 L L' o.op.operands.toList → (∀ d, o.dst = some d → K0 L' d = some f) → O0a P st h L' o) →
    ∃ L', (∀ t f, K0 L t = some f → K0 L' t = some f) ∧ (∀ t f, (t, f) ∈ L' → ∃ (i : Nat) (oi : Oper), ops[i]? = some oi ∧ oi.dst = some t) ∧ (∀ p q, p ∈ L' → q ∈ L' → p.1 = q.1 → p.2 = q.2) ∧
    (∀ (i : Nat) (oi : Oper) (d : Nat), ops[i]? = some oi → oi.dst = some d → ∃ f, K0 L' d = some f) ∧
    (∀ j o, k ≤ j → ops[j]? = some o → O0a P st h L' o) ∧ (∀ h', Sub h h' → p09 h' L' st.fr fun fr => K { st with fr := fr } h') := by
   rintro f ⟨L', a1, a2, a3, a3', a4, a5, a6, a7⟩ hok
   refine ⟨L', a1, a2, a3, a3', fun j oj hj hoj => ?_, a5⟩
   rcases Nat.lt_or_ge k j with hk | hk
   ·exact a4 j oj hk hoj
   ·have : j = k := by omega
    subst this
    rw [ho] at hoj; cases hoj
    exact hok L' a7 a6
  obtain ⟨n, fr, bx, ow⟩ := st
  simp only [evS] at he
  split at he
  ·exact he.elim
  ·rename_i hg
   split at he
   ·rename_i av hav
    rw [P7] at he
    exact fin (.pu av) (rest _ he) fun L' ag top => ⟨hg, .pu av, top, by rw [← Q08 ag]; exact hav⟩
   ·obtain ⟨F, h1, h2, he⟩ := he
    exact fin (.ef F) (rest _ he) fun L' ag top => ⟨hg, .ef F, top, h1, fun h' hs => F7 ag (h2 h' hs)⟩
theorem u0e {st : St} {L : List (Nat × J2)} {o : Oper} {av : AV} {val : Nat → Value} (hp : H03 P L o st = some av)
  (hv : ∀ t, Operand.tmp t ∈ o.op.operands → (∀ f, K0 L t = some f → P9 st be oe h f (val t)) ∧ (K0 L t = none → J0 st be oe (Q0 st.fr t) (val t))) :
  ∃ fr, (∀ t, J0 st be oe (Q0 fr t) (val t)) ∧ d5 P o { st with fr := fr } h fun av' st' h' => av' = av ∧ st' = { st with fr := fr } ∧ h' = h := by
 have one : ∀ x : Operand, (∀ t, x = .tmp t → Operand.tmp t ∈ o.op.operands) → rdS L st x ≠ .dead → ∃ fr, (∀ t, J0 st be oe (Q0 fr t) (val t)) ∧ rdO { st with fr := fr } x = rdS L st x := by
  intro x hx hne
  cases x with
  | tmp t =>
   obtain ⟨h1, h2⟩ := hv t (hx t rfl)
   have mk : ∀ A, J0 st be oe A (val t) → ∀ u, J0 st be oe (Q0 [(t, A)] u) (val u) := fun A g u => by
    rw [Z0]
    split
    ·rename_i e; subst e; exact g
    ·trivial
   have rd : ∀ A, rdO { st with fr := [(t, A)] } (.tmp t) = rdA st A := fun A => by
    show Go.H.rdA _ (Q0 [(t, A)] t) = _
    rw [Z0, if_pos rfl]
    obtain ⟨n, fr, bx, ow⟩ := st
    cases A <;> rfl
   cases hL : K0 L t with
   | none => exact ⟨_, mk _ (h2 hL), by rw [rd]; simp only [rdS, hL]⟩
   | some f =>
    cases f with
    | pu A => exact ⟨_, mk _ (h1 _ hL), by rw [rd]; simp only [rdS, hL]⟩
    | ef F => exact absurd (by simp only [rdS, hL]) hne
  | const v => exact ⟨[], fun t => trivial, rfl⟩
  | global v => exact ⟨[], fun t => trivial, rfl⟩
  | func v => exact ⟨[], fun t => trivial, rfl⟩
 unfold H03 at hp
 split at hp
 ·rename_i x hx
  have hne : rdS L st x ≠ .dead := fun e => by rw [e] at hp; cases hp
  obtain ⟨fr, g, e⟩ := one x (fun t ht => by rw [hx]; simp [Op.operands, ht]) hne
  refine ⟨fr, g, ?_⟩
  simp only [d5, hx, e]
  revert hp
  cases rdS L st x <;> intro hp <;> first | (cases hp; done) | (cases hp; simp; done)
 ·rename_i x hx
  have hne : rdS L st x ≠ .dead := fun e => by rw [e] at hp; cases hp
  obtain ⟨fr, g, e⟩ := one x (fun t ht => by rw [hx]; simp [Op.operands, ht]) hne
  refine ⟨fr, g, ?_⟩
  simp only [d5, hx, e]
  revert hp
  cases rdS L st x <;> intro hp <;> first | (cases hp; done) | (cases hp; simp; done)
 ·rename_i t x hx
  have hne : rdS L st x ≠ .dead := fun e => by rw [e] at hp; cases hp
  obtain ⟨fr, g, e⟩ := one x (fun t ht => by rw [hx]; simp [Op.operands, ht]) hne
  refine ⟨fr, g, ?_⟩
  simp only [d5, hx, e]
  split at hp
  ·rename_i i off hr
   split at hp
   ·rename_i cs ty hn
    simp only [hr, hn]
    unfold o06 at hp
    unfold g00
    cases hA : w08 P t with
    | none => rw [hA] at hp; cases hp
    | some bb =>
     rw [hA] at hp
     cases bb with
     | true =>
      cases hT : W2 P t with
      | none => rw [hT] at hp; cases hp
      | some m =>
       rw [hT] at hp
       simp only at hp ⊢
       split at hp
       ·rename_i hB
        cases hp
        rw [hB]
        simp
       ·cases hp
     | false =>
      simp only at hp ⊢
      split at hp
      ·rename_i c hN
       cases hp
       rw [hN]
       simp
      ·cases hp
   ·cases hp
  ·cases hp
 ·cases hp
def n0d (P : Program) (h0 : Hp) (w0 : World) (ops : Array Oper) (st : St) (h : Hp) (L : List (Nat × J2)) (listed : Array Bool) (a : Act) (w : World) : Prop :=
 ∃ be oe H h', Sub h h' ∧ Sim P h0 w0 be oe H { st with fr := H1 ops.toList st.fr } h' a w ∧
  ∀ j o d f, ops[j]? = some o → o.dst = some d → listed.getD j false = true → K0 L d = some f → P9 st be oe h' f (a.tmps.getD d undef)
theorem J0.fr {st : St} {fr : List (Nat × AV)} {av : AV} {v : Value} (g : J0 st be oe av v) : J0 { st with fr := fr } be oe av v := by
 obtain ⟨n, fr0, bx, ow⟩ := st
 show J0 ⟨n, fr, bx, ow⟩ be oe av v
 exact J0.grow (st := ⟨n, fr0, bx, ow⟩) (st' := ⟨n, fr, bx, ow⟩) (be := be) (oe := oe) (be' := be) (oe' := oe) (av := av) (x := v) ⟨Nat.le_refl _, fun _ _ => rfl, fun i s h => ⟨s, h, Nat.le_refl _, fun _ => rfl⟩⟩ g
theorem R6 {ops : Array Oper} {st : St} {L : List (Nat × J2)} {listed : Array Bool} {j : Nat} {o : Oper} {Q : Exit → Act → World → Prop}
  (hD : ∀ (i j : Nat) (oi oj : Oper) (d : Nat), ops.toList[i]? = some oi → ops.toList[j]? = some oj → oi.dst = some d → oj.dst = some d → i = j)
  (hn : ∀ o ∈ ops.toList, ∀ d, o.dst = some d → d < st.n)
  (hL1 : ∀ t f, (t, f) ∈ L → ∃ (i : Nat) (oi : Oper), ops.toList[i]? = some oi ∧ oi.dst = some t)
  (hL2 : ∀ (i : Nat) (oi : Oper) (d : Nat), ops.toList[i]? = some oi → oi.dst = some d → ∃ f, K0 L d = some f)
  (ho : ops[j]? = some o) (hall : ∀ (j : Nat) (o : Oper), ops.toList[j]? = some o → O0a P st h L o) (hdep : ∀ t, Operand.tmp t ∈ o.op.operands → ∀ (i : Nat) (oi : Oper), ops.toList[i]? = some oi → oi.dst = some t → listed.getD i false = true)
  (hi : n0d P h0 w0 ops st h L listed a w) : o.wp P a w (n0d P h0 w0 ops st h L (listed.setIfInBounds j true)) Q := by
 obtain ⟨be, oe, H, h', hs, s, facts⟩ := hi
 have hoL : ops.toList[j]? = some o := by simpa using ho
 have hmem : o ∈ ops.toList := List.mem_of_getElem? hoL
 obtain ⟨hg, f, hf, hop⟩ := hall j o hoL
 have hst : ∀ d F, K0 L d = some (.ef F) → ∀ v h1 h2, Sub h1 h2 → F v h1 → F v h2 := fun d F hF => by
  obtain ⟨i, oi, h1, h2⟩ := hL1 d _ (d9 hF)
  obtain ⟨_, f', hf', hop'⟩ := hall i oi h1
  rw [hf' d h2] at hF
  cases hF
  exact hop'.1
 have opnd : ∀ t, Operand.tmp t ∈ o.op.operands → (∀ f, K0 L t = some f → P9 st be oe h' f (a.tmps.getD t undef)) ∧ (K0 L t = none → J0 st be oe (Q0 st.fr t) (a.tmps.getD t undef)) := fun t ht => by
  refine ⟨fun f hf => ?_, fun hno => ?_⟩
  ·obtain ⟨i, oi, h1, h2⟩ := hL1 t f (d9 hf)
   exact facts i oi t f (by simpa using h1) h2 (hdep t ht i oi h1 h2) hf
  ·have g := s.fr t
   have hmiss : Q0 (H1 ops.toList st.fr) t = Q0 st.fr t := j6 fun o' ho' hd => by
    obtain ⟨i, hi, e⟩ := List.getElem_of_mem ho'
    obtain ⟨f, hf⟩ := hL2 i o' t (by rw [List.getElem?_eq_getElem hi, e]) hd
    rw [hno] at hf; cases hf
   rw [← hmiss]
   exact J0.fr (st := { st with fr := H1 ops.toList st.fr }) (fr := st.fr) g
 have fin : ∀ {fr : List (Nat × AV)} {a' : Act} {w' : World} {h'' : Hp} {be' : Nat → Nat} {oe' : Nat → Value} {H' : Hp} {v : Value}, Sub h' h'' → a' = a.put o.dst v → Sim P h0 w0 be' oe' H' { st with fr := fr } h'' a w' →
   K3 { st with fr := fr } be oe { st with fr := fr } be' oe' → P9 st be' oe' h'' f v → n0d P h0 w0 ops st h L (listed.setIfInBounds j true) a' w' := by
  intro fr a' w' h'' be' oe' H' v hss ha s' gr hv
  subst ha
  have gr' : K3 { st with fr := H1 ops.toList st.fr } be oe { st with fr := H1 ops.toList st.fr } be' oe' := ⟨gr.bl, gr.be, gr.sm⟩
  have gr2 : K3 st be oe st be' oe' := ⟨gr.bl, gr.be, gr.sm⟩
  have s1 : Sim P h0 w0 be' oe' H' { st with fr := H1 ops.toList st.fr } h'' a w' :=
   s'.refr (fr := H1 ops.toList st.fr) fun t => J0.fr (st := { st with fr := H1 ops.toList st.fr }) ((s.fr t).grow gr')
  have s2 : Sim P h0 w0 be' oe' H' { st with fr := H1 ops.toList st.fr } h'' (a.put o.dst v) w' := by
   cases hd : o.dst with
   | none => exact s1
   | some d =>
    have hp := s1.put (d := d) (av := .dead) (v := v) (hn o hmem d hd) trivial
    refine hp.refr (fr := H1 ops.toList st.fr) fun t => ?_
    have g := hp.fr t
    rw [Z0] at g
    split at g
    ·rename_i e
     subst e
     rw [l7 hmem hd]
     trivial
    ·exact g
  refine ⟨be', oe', H', h'', fun b x hb => hss b x (hs b x hb), s2, fun i oi d g h1 h2 h3 h4 => ?_⟩
  by_cases hij : j = i
  ·subst hij
   rw [ho] at h1; cases h1
   rw [hf d h2] at h4; cases h4
   have hlt : d < a.tmps.size := by rw [s.siz]; exact hn o hmem d h2
   have : (a.put o.dst v).tmps.getD d undef = v := by
    rw [h2]
    simp [Act.put, hlt]
   rw [this]
   exact hv
  ·have hl0 : listed.getD i false = true := by rw [getD_set_ne false hij] at h3; exact h3
   have hne : ∀ d', o.dst = some d' → d' ≠ d := fun d' hd' e => by
    subst e
    exact hij (hD j i o oi d' hoL (by simpa using h1) hd' h2)
   have : (a.put o.dst v).tmps.getD d undef = a.tmps.getD d undef := by
    cases hd : o.dst with
    | none => rfl
    | some d' => simp [Act.put, Array.getElem?_setIfInBounds_ne (hne d' hd)]
   rw [this]
   have old := facts i oi d g h1 h2 hl0 h4
   cases g with
   | pu av => exact J0.grow gr2 old
   | ef F => exact hst d F h4 _ _ _ hss old
 cases f with
 | pu av =>
  obtain ⟨fr, g, he⟩ := u0e (h := h') hop opnd
  have s' : Sim P h0 w0 be oe H { st with fr := fr } h' a w := s.refr (fr := fr) fun t => J0.fr (g t)
  refine Oper.wp_mono (fun a' w' hx => ?_) (i6 s' he)
  obtain ⟨av', st', h'', v, be', oe', H', ⟨rfl, rfl, rfl⟩, ha, s2, g2, gr⟩ := hx
  exact fin (fun _ _ h => h) ha s2 gr (J0.fr (st := { st with fr := fr }) (fr := st.fr) g2)
 | ef F =>
  obtain ⟨fr, he, g⟩ := p8 (acc := []) (be := be) (oe := oe) (val := fun t => a.tmps.getD t undef) (fun t => trivial) (fun t ht => opnd t (by simpa using ht)) (hop.2 h' hs)
  have s' : Sim P h0 w0 be oe H { st with fr := fr } h' a w := s.refr (fr := fr) fun t => J0.fr (g t)
  refine Oper.wp_mono (fun a' w' hx => ?_) (i6 s' he)
  obtain ⟨av', st', h'', v, be', oe', H', hk, ha, s2, g2, gr⟩ := hx
  cases av' with
  | val u =>
   obtain ⟨rfl, k1, k2⟩ := hk
   have hv : v = u := g2
   subst hv
   exact fin k1 ha s2 gr k2
  | _ => exact hk.elim
theorem e03 {ops : Array Oper} (hB : ∀ (k : Nat) (o : Oper), ops.toList[k]? = some o → ∀ e ∈ o.after, Region.binds .any e = true → e.on < k) {listed : Array Bool} (hsz : listed.size = ops.size) (hr : Region.ready .any ops listed = []) :
  ∀ j, j < ops.size → listed.getD j false = true := by
 intro j
 induction j using Nat.strongRecOn with
 | _ j ih =>
  intro hj
  cases hl : listed.getD j false with
  | true => rfl
  | false =>
   have hlt : j < listed.size := by omega
   have : j ∈ Region.ready .any ops listed := by
    refine mem_ready.2 ⟨?_, ops[j], by simp [hj], fun e he hb => ?_⟩
    ·simp [hlt] at hl ⊢; exact hl
    ·have := hB j ops[j] (by simp [hj]) e he hb
     exact ih e.on this (by omega)
   rw [hr] at this
   cases this
theorem count_set {listed : Array Bool} {j : Nat} (hj : listed.getD j true = false) : (listed.setIfInBounds j true).toList.count true = listed.toList.count true + 1 := by
 have hlt : j < listed.size := by
  rcases Nat.lt_or_ge j listed.size with h | h
  ·exact h
  ·simp [Array.getElem?_eq_none h] at hj
 have hv : listed[j] = false := by simpa [hlt] using hj
 rw [Array.toList_setIfInBounds, List.count_set (by simpa using hlt)]
 simp [hv]
theorem X0f {ops : Array Oper} {st : St} {L : List (Nat × J2)} {Q : Exit → Act → World → Prop}
  (hD : ∀ (i j : Nat) (oi oj : Oper) (d : Nat), ops.toList[i]? = some oi → ops.toList[j]? = some oj → oi.dst = some d → oj.dst = some d → i = j)
  (hn : ∀ o ∈ ops.toList, ∀ d, o.dst = some d → d < st.n)
  (hB : ∀ (k : Nat) (o : Oper), ops.toList[k]? = some o → ∀ e ∈ o.after, Region.binds .any e = true → e.on < k)
  (hdep : ∀ o ∈ ops.toList, ∀ t, Operand.tmp t ∈ o.op.operands → ∀ (i : Nat) (oi : Oper), ops.toList[i]? = some oi → oi.dst = some t → ∃ e ∈ o.after, Region.binds .any e = true ∧ e.on = i)
  (hL1 : ∀ t f, (t, f) ∈ L → ∃ (i : Nat) (oi : Oper), ops.toList[i]? = some oi ∧ oi.dst = some t)
  (hL2 : ∀ (i : Nat) (oi : Oper) (d : Nat), ops.toList[i]? = some oi → oi.dst = some d → ∃ f, K0 L d = some f)
  (hall : ∀ (j : Nat) (o : Oper), ops.toList[j]? = some o → O0a P st h L o)
  (hQ : ∀ listed a w, (∀ j, j < ops.size → listed.getD j false = true) → n0d P h0 w0 ops st h L listed a w → Q .normal a w) :
  ∀ (fuel : Nat) (listed : Array Bool) (a : Act) (w : World), listed.size = ops.size → listed.toList.count true + fuel = ops.size → n0d P h0 w0 ops st h L listed a w → wpAny P .any ops Q fuel listed a w
 | 0, listed, a, w, hsz, hc, hi => by
  have hall' : ∀ j, j < ops.size → listed.getD j false = true := fun j hj => by
   have h1 : ∀ b ∈ listed.toList, true = b := List.count_eq_length.1 (by simp only [Array.length_toList]; omega)
   have hlt : j < listed.size := by omega
   have := h1 listed[j] (by simp)
   simp [hlt, ← this]
  refine ⟨?_, hQ listed a w hall' hi⟩
  cases hr : Region.ready .any ops listed with
  | nil => rfl
  | cons j r =>
   have hj : j ∈ Region.ready .any ops listed := by rw [hr]; exact List.mem_cons_self ..
   obtain ⟨h1, o, h2, _⟩ := mem_ready.1 hj
   have hlt : j < ops.size := (Array.getElem?_eq_some_iff.1 h2).1
   have := hall' j hlt
   have hlt' : j < listed.size := by omega
   simp [hlt'] at this h1
   rw [this] at h1; cases h1
 | fuel + 1, listed, a, w, hsz, hc, hi => by
  refine ⟨fun hr => hQ listed a w (e03 hB hsz hr) hi, fun j hj => ?_⟩
  obtain ⟨h1, o, h2, h3⟩ := mem_ready.1 hj
  have hmem : o ∈ ops.toList := List.mem_of_getElem? (i := j) (by simpa using h2)
  unfold wpOp
  simp only [h2]
  have hg : o.guard = none := (hall j o (by simpa using h2)).1
  have hw : Region.wanted o (yielded ops a.tmps) = true := by unfold Region.wanted; rw [hg]
  rw [if_pos hw]
  refine .inl (Oper.wp_mono (fun a' w' hi' => ?_) (R6 (Q := Q) hD hn hL1 hL2 h2 hall (fun t ht i oi hi1 hi2 => ?_) hi))
  ·exact X0f hD hn hB hdep hL1 hL2 hall hQ fuel _ a' w' (by simpa using hsz) (by rw [count_set h1]; omega) hi'
  ·obtain ⟨e, he, hb, rfl⟩ := hdep o hmem t ht i oi hi1 hi2
   exact h3 e he hb
theorem n0c {ops : Array Oper} {st : St} {K : St → Hp → Prop} {Q : Exit → Act → World → Prop} (s : Sim P h0 w0 be oe H st h a w) (hb : F6 st.n ops.toList = true) (he : evS P ops.toList [] st h K)
  (hQ : ∀ a w st h be oe H, K st h → Sim P h0 w0 be oe H st h a w → Q .normal a w) : wpAny P .any ops Q ops.size (Array.replicate ops.size false) a w := by
 simp only [F6, Bool.and_eq_true] at hb
 obtain ⟨⟨b1, b2⟩, b3⟩ := hb
 obtain ⟨hn, hD⟩ := c9 b1
 have hB : ∀ (k : Nat) (o : Oper), ops.toList[k]? = some o → ∀ e ∈ o.after, Region.binds .any e = true → e.on < k := fun k o hk e he' hb => by
  have := o8 b2 k o hk e he' hb
  omega
 have hdep := r00 b3
 obtain ⟨L, a1, hL1, hu, hL2, hall, hfin⟩ := G09 (ops := ops.toList) hD (fun j o t i oi h1 h2 h3 h4 => by
  obtain ⟨e, he', hb, rfl⟩ := hdep o (List.mem_of_getElem? h1) t h2 i oi h3 h4
  exact hB j o h1 e he' hb) ops.toList 0 [] (fun j => by simp) (by simp) (fun i oi d hi => by omega) (by simp) he
 refine X0f (h0 := h0) (w0 := w0) hD hn hB hdep hL1 hL2 (fun j o ho => hall j o (Nat.zero_le _) ho) (fun listed a w hl hi => ?_) ops.size _ a w (by simp) (by simp [List.count_replicate]) ?_
 ·obtain ⟨be, oe, H, h', hs, s, facts⟩ := hi
  obtain ⟨fr, hk, g⟩ := i05 (st := st) (be := be) (oe := oe) (val := fun t => a.tmps.getD t undef) (fun p hp => by
   obtain ⟨t, f⟩ := p
   obtain ⟨i, oi, h1, h2⟩ := hL1 t f hp
   obtain ⟨f', hf'⟩ := hL2 i oi t h1 h2
   have : f' = f := hu (t, f') (t, f) (d9 hf') hp rfl
   subst this
   exact facts i oi t f' (by simpa using h1) h2 (hl i (by simpa using (List.getElem?_eq_some_iff.1 h1).1)) hf') (fun t ht => by
   have hmiss : Q0 (H1 ops.toList st.fr) t = Q0 st.fr t := j6 fun o' ho' hd => by
    obtain ⟨i, hi, e⟩ := List.getElem_of_mem ho'
    obtain ⟨f, hf⟩ := hL2 i o' t (by rw [List.getElem?_eq_getElem hi, e]) hd
    exact ht f (d9 hf)
   have := s.fr t
   rw [hmiss] at this
   exact J0.fr (st := { st with fr := H1 ops.toList st.fr }) (fr := st.fr) this) (hfin h' hs)
  exact hQ a w _ h' be oe H hk (s.refr (fr := fr) fun t => J0.fr (g t))
 ·refine ⟨be, oe, H, h, fun _ _ h => h, s.refr (fr := H1 ops.toList st.fr) fun t => ?_, fun j o d f h1 h2 h3 => ?_⟩
  ·by_cases hx : ∃ o ∈ ops.toList, o.dst = some t
   ·obtain ⟨o, h1, h2⟩ := hx
    rw [l7 h1 h2]
    trivial
   ·rw [j6 fun o ho hd => hx ⟨o, ho, hd⟩]
    exact s.fr t
  ·simp [Array.getElem?_replicate] at h3
   split at h3 <;> cases h3
end
end Go.H
namespace Go.H
set_option linter.unusedVariables false
set_option linter.unusedSimpArgs false
theorem v0e {P : Program} {t : TypeId} {cs : List N2} {off : Nat} {av : AV} (h : o06 P t cs off = some av) : g00 P t cs off fun a => a = av := by
 unfold o06 at h
 unfold g00
 cases hA : w08 P t with
 | none => rw [hA] at h; cases h
 | some bb =>
  rw [hA] at h
  cases bb with
  | true =>
   cases hT : W2 P t with
   | none => rw [hT] at h; cases h
   | some m =>
    rw [hT] at h
    simp only at h ⊢
    split at h
    ·rename_i hB
     cases h
     rw [hB]
    ·cases h
  | false =>
   simp only at h ⊢
   split at h
   ·rename_i c hN
    cases h
    rw [hN]
   ·cases h
section
variable {P : Program} {h0 : Hp} {w0 : World} {be : Nat → Nat} {oe : Nat → Value} {H : Hp} {h : Hp} {a : Act} {w : World}
theorem u01 {L : List (Nat × J2)} {st stX : St} {x : Operand}
  (hv : ∀ t, x = .tmp t → (∀ av, K0 L t = some (.pu av) → J0 stX be oe av (a.tmps.getD t undef)) ∧ (K0 L t = none → J0 stX be oe (Q0 st.fr t) (a.tmps.getD t undef))) : J0 stX be oe (X00 L st x) (a.eval x) := by
 cases x with
 | tmp t =>
  obtain ⟨h1, h2⟩ := hv t rfl
  show J0 stX be oe (X00 L st (.tmp t)) (a.tmps.getD t undef)
  simp only [X00]
  split
  ·rename_i av e; exact h1 av e
  ·trivial
  ·rename_i e; exact h2 e
 | const v => exact rfl
 | global g => trivial
 | func f => trivial
theorem Q01 {L : List (Nat × J2)} {st stX : St} : ∀ (l : List Operand) {vs : List (Nat × Value)}, (∀ t, Operand.tmp t ∈ l → J0 stX be oe (X00 L st (.tmp t)) (a.tmps.getD t undef)) → K05 L st l = some vs →
  (∀ p ∈ vs, p.2 = a.eval (.tmp p.1)) ∧ (∀ x ∈ l, (∃ t v, x = .tmp t ∧ (t, v) ∈ vs) ∨ (∀ ws, rho ws x = a.eval x))
 | [], vs, G, h => by cases h; simp
 | .tmp t :: r, vs, G, h => by
  simp only [K05] at h
  split at h
  ·rename_i v hv
   split at h
   ·rename_i vs' hr
    cases h
    obtain ⟨h1, h2⟩ := Q01 r (fun u hu => G u (List.mem_cons_of_mem _ hu)) hr
    have g := G t (List.mem_cons_self ..)
    rw [hv] at g
    have g : a.tmps.getD t undef = v := g
    refine ⟨fun p hp => ?_, fun x hx => ?_⟩
    ·rcases List.mem_cons.1 hp with rfl | hp
     ·exact g.symm
     ·exact h1 p hp
    ·rcases List.mem_cons.1 hx with rfl | hx
     ·exact .inl ⟨t, v, rfl, List.mem_cons_self ..⟩
     ·rcases h2 x hx with ⟨t', v', rfl, hm⟩ | hf
      ·exact .inl ⟨t', v', rfl, List.mem_cons_of_mem _ hm⟩
      ·exact .inr hf
   ·cases h
  ·cases h
 | .global _ :: r, vs, G, h => by cases h
 | .const v :: r, vs, G, h => by
  obtain ⟨h1, h2⟩ := Q01 r (vs := vs) (fun u hu => G u (List.mem_cons_of_mem _ hu)) h
  exact ⟨h1, fun x hx => by
   rcases List.mem_cons.1 hx with rfl | hx
   ·exact .inr fun _ => rfl
   ·exact h2 x hx⟩
 | .func f :: r, vs, G, h => by
  obtain ⟨h1, h2⟩ := Q01 r (vs := vs) (fun u hu => G u (List.mem_cons_of_mem _ hu)) h
  exact ⟨h1, fun x hx => by
   rcases List.mem_cons.1 hx with rfl | hx
   ·exact .inr fun _ => rfl
   ·exact h2 x hx⟩
theorem H09 {L : List (Nat × J2)} {st stX : St} {o : Oper} {av : AV} (hp : E0a P L o st = some av)
  (hv : ∀ t, Operand.tmp t ∈ o.op.operands → (∀ av, K0 L t = some (.pu av) → J0 stX be oe av (a.tmps.getD t undef)) ∧ (K0 L t = none → J0 stX be oe (Q0 st.fr t) (a.tmps.getD t undef))) :
  ∃ v, (execOp a.eval o).run P w = .ok (.value v) w ∧ J0 stX be oe av v := by
 unfold E0a at hp
 split at hp
 ·rename_i vs hsel hvs
  obtain ⟨h1, h2⟩ := Q01 (a := a) (stX := stX) (be := be) (oe := oe) _ (fun t ht => u01 (x := .tmp t) fun u hu => by cases hu; exact hv t (by simpa using ht)) hvs
  split at hp
  ·cases hp
  ·split at hp
   ·rename_i v hev
    cases hp
    rw [w06, e05 hsel h1 h2] at hev
    exact ⟨v, t0b _ hev w, rfl⟩
   ·cases hp
 ·cases hp
theorem L00 {L L' : List (Nat × J2)} {st : St} : ∀ {l : List Operand}, (∀ t, Operand.tmp t ∈ l → K0 L t = K0 L' t) → K05 L st l = K05 L' st l
 | [], h => rfl
 | .tmp t :: r, h => by simp only [K05, X00, h t (List.mem_cons_self ..), L00 fun u hu => h u (List.mem_cons_of_mem _ hu)]
 | .global _ :: r, h => rfl
 | .const _ :: r, h => L00 (l := r) fun u hu => h u (List.mem_cons_of_mem _ hu)
 | .func _ :: r, h => L00 (l := r) fun u hu => h u (List.mem_cons_of_mem _ hu)
theorem G06 {L : List (Nat × J2)} {st : St} {o : Oper} {t : TypeId} {x : Operand} {i off : Nat} (hx : o.op = .load t x) (hr : X00 L st x = .box i off) : ∀ {l : List Oper}, o ∈ l → i ∈ N6 L st l
 | [], h => nomatch h
 | y :: r, h => by
  rcases List.mem_cons.1 h with rfl | h
  ·simp only [N6, hx, hr]
   exact List.mem_cons_self ..
  ·have := G06 hx hr h
   simp only [N6]
   split
   ·split
    ·exact List.mem_cons_of_mem _ this
    ·exact this
   ·exact this
theorem P07 {bx bx' : List BSt} {i : Nat} : ∀ {l : List Nat}, v03 bx l = v03 bx' l → i ∈ l → nth bx i = nth bx' i
 | [], _, h => nomatch h
 | y :: r, e, h => by
  simp only [v03, List.cons.injEq] at e
  rcases List.mem_cons.1 h with rfl | h
  ·exact e.1
  ·exact P07 e.2 h
theorem o0c {L : List (Nat × J2)} {st stX : St} {o : Oper} {av : AV} (s : Sim P h0 w0 be oe H stX h a w) (hbx : ∀ t x i off, o.op = .load t x → X00 L st x = .box i off → nth stX.bx i = nth st.bx i) (hp : u03 P L o st = some av)
  (hv : ∀ t, Operand.tmp t ∈ o.op.operands → (∀ av, K0 L t = some (.pu av) → J0 stX be oe av (a.tmps.getD t undef)) ∧ (K0 L t = none → J0 stX be oe (Q0 st.fr t) (a.tmps.getD t undef))) :
  ∃ v, (execOp a.eval o).run P w = .ok (.value v) w ∧ J0 stX be oe av v := by
 unfold u03 at hp
 split at hp
 ·rename_i x hx
  split at hp
  ·cases hp
   refine ⟨a.eval x, ?_, u01 fun t ht => hv t (by rw [hx]; simp [Op.operands, ht])⟩
   unfold execOp; rw [hx]; rfl
  ·cases hp
 ·rename_i x hx
  split at hp
  ·cases hp
   refine ⟨a.eval x, ?_, u01 fun t ht => hv t (by rw [hx]; simp [Op.operands, ht])⟩
   unfold execOp; rw [hx]; rfl
  ·cases hp
 ·rename_i t x hx
  have g := u01 (L := L) (st := st) (stX := stX) (be := be) (oe := oe) (a := a) (x := x) fun t ht => hv t (by rw [hx]; simp [Op.operands, ht])
  split at hp
  ·rename_i i off hr
   rw [hr] at g
   split at hp
   ·rename_i cs ty hn
    split at hp
    ·rename_i av' hco
     split at hp
     ·cases hp
      obtain ⟨h1, vs, h2, h3⟩ := s.box i cs ty (by rw [hbx t x i off hx hr]; exact hn)
      obtain ⟨av2, v, k1, k2, k3⟩ := R.load_row (H := H) (b := be i) (o := 0) (be := be) (v0e hco) h2 (fun j v hj => by simp [Hp.cell, h3, hj])
      subst k1
      exact ⟨v, R.run_of (R.exec_load hx g.2 (by simpa using k3)) w (g0d s), k2⟩
     ·cases hp
    ·cases hp
   ·cases hp
  ·cases hp
 ·rename_i t x k hx
  have g := u01 (L := L) (st := st) (stX := stX) (be := be) (oe := oe) (a := a) (x := x) fun t ht => hv t (by rw [hx]; simp [Op.operands, ht])
  split at hp
  ·rename_i i off fo hr ht
   rw [hr] at g
   cases hp
   exact ⟨ptr (be i) (off + fo), R.run_of (R.exec_fieldAddr hx ht g.2) w (g0d s), g.1, rfl⟩
  ·cases hp
 ·split at hp
  ·exact H09 hp hv
  ·cases hp
 ·split at hp
  ·split at hp
   ·exact H09 hp hv
   ·cases hp
  ·cases hp
 ·cases hp
theorem G7 {L : List (Nat × J2)} {st stX : St} {val : Nat → Value} {K : List (Nat × AV) → Prop} : ∀ {l : List Operand} {acc : List (Nat × AV)},
  (∀ t, J0 stX be oe (Q0 acc t) (val t)) → (∀ t, Operand.tmp t ∈ l → (∀ av, K0 L t = some (.pu av) → J0 stX be oe av (val t)) ∧ (K0 L t = none → J0 stX be oe (Q0 st.fr t) (val t))) →
  F00 L st.fr l acc K → ∃ fr, K fr ∧ ∀ t, J0 stX be oe (Q0 fr t) (val t)
 | [], acc, h1, h2, he => ⟨acc, he, h1⟩
 | .tmp t :: r, acc, h1, h2, he => by
  have h2r : ∀ u, Operand.tmp u ∈ r → _ := fun u hu => h2 u (List.mem_cons_of_mem _ hu)
  have hx := h2 t (List.mem_cons_self ..)
  have put : ∀ av, J0 stX be oe av (val t) → ∀ u, J0 stX be oe (Q0 ((t, av) :: acc) u) (val u) := fun av g u => by
   rw [Z0]
   split
   ·rename_i e; subst e; exact g
   ·exact h1 u
  simp only [F00] at he
  split at he
  ·rename_i av e
   exact G7 (put av (hx.1 _ e)) h2r he
  ·rename_i F e
   exact G7 (put .dead trivial) h2r he
  ·rename_i e
   exact G7 (put _ (hx.2 e)) h2r he
 | .const v :: r, acc, h1, h2, he => G7 (l := r) h1 (fun u hu => h2 u (List.mem_cons_of_mem _ hu)) he
 | .global v :: r, acc, h1, h2, he => G7 (l := r) h1 (fun u hu => h2 u (List.mem_cons_of_mem _ hu)) he
 | .func v :: r, acc, h1, h2, he => G7 (l := r) h1 (fun u hu => h2 u (List.mem_cons_of_mem _ hu)) he
theorem j05 : ∀ (L : List (Nat × J2)) (fr : List (Nat × AV)) (t : Nat), Q0 (F0a L fr) t = match K0 L t with
  | some (.pu av) => av
  | some (.ef _) => .dead
  | none => Q0 fr t
 | [], fr, t => rfl
 | (d, .pu av) :: r, fr, t => by
  simp only [F0a]
  rw [Z0, L5]
  split
  ·rfl
  ·exact j05 r fr t
 | (d, .ef F) :: r, fr, t => by
  simp only [F0a]
  rw [Z0, L5]
  split
  ·rfl
  ·exact j05 r fr t
theorem I09 {L L' : List (Nat × J2)} {o : Oper} {st : St} (h : ∀ t, Operand.tmp t ∈ o.op.operands → K0 L t = K0 L' t) : u03 P L o st = u03 P L' o st := by
 have raw : ∀ x : Operand, (∀ t, x = .tmp t → Operand.tmp t ∈ o.op.operands) → X00 L st x = X00 L' st x := fun x hx => by
  cases x with
  | tmp t => simp only [X00, h t (hx t rfl)]
  | _ => rfl
 have sem : E0a P L o st = E0a P L' o st := by
  unfold E0a
  rw [L00 (l := o.op.operands.toList) fun t ht => h t (by simpa using ht)]
 unfold u03
 split
 ·rename_i x hx; rw [raw x fun t ht => by rw [hx]; simp [Op.operands, ht]]
 ·rename_i x hx; rw [raw x fun t ht => by rw [hx]; simp [Op.operands, ht]]
 ·rename_i t x hx; rw [raw x fun t ht => by rw [hx]; simp [Op.operands, ht]]
 ·rename_i t x k hx; rw [raw x fun t ht => by rw [hx]; simp [Op.operands, ht]]
 ·rename_i op t x y yt hx
  rw [raw x fun t ht => by rw [hx]; simp [Op.operands, ht], raw y fun t ht => by rw [hx]; simp [Op.operands, ht], sem]
 ·rename_i as ts hx
  split
  ·rename_i x hl
   rw [raw x fun t ht => by
    rw [hx]
    have : x ∈ as.toList := by rw [hl]; exact List.mem_cons_self ..
    rw [ht] at this
    simp [Op.operands, Call.operands]
    simpa using this, sem]
  ·rfl
 ·rfl
theorem H7 {L L' : List (Nat × J2)} {fr0 : List (Nat × AV)} {K : List (Nat × AV) → Prop} : ∀ {l : List Operand} {acc : List (Nat × AV)}, (∀ t, Operand.tmp t ∈ l → K0 L t = K0 L' t) → F00 L fr0 l acc K → F00 L' fr0 l acc K
 | [], acc, hl, h => h
 | .tmp t :: r, acc, hl, h => by
  have e := hl t (List.mem_cons_self ..)
  have hr : ∀ u, Operand.tmp u ∈ r → K0 L u = K0 L' u := fun u hu => hl u (List.mem_cons_of_mem _ hu)
  simp only [F00] at h ⊢
  rw [← e]
  split at h
  ·exact H7 hr h
  ·exact H7 hr h
  ·exact H7 hr h
 | .const _ :: r, acc, hl, h => H7 (l := r) (fun u hu => hl u (List.mem_cons_of_mem _ hu)) h
 | .func _ :: r, acc, hl, h => H7 (l := r) (fun u hu => hl u (List.mem_cons_of_mem _ hu)) h
 | .global _ :: r, acc, hl, h => H7 (l := r) (fun u hu => hl u (List.mem_cons_of_mem _ hu)) h
structure M00 (P : Program) (st : St) (h : Hp) (ops : List Oper) (k : Nat) (L : List (Nat × J2)) (X E : List (Nat × Oper)) : Prop where
 key : ∀ t f, K0 L t = some f → ∃ (i : Nat) (oi : Oper), i < k ∧ ops[i]? = some oi ∧ oi.dst = some t
 cov : ∀ (i : Nat) (oi : Oper) (d : Nat), i < k → ops[i]? = some oi → oi.dst = some d → ∃ f, K0 L d = some f
 each : ∀ (j : Nat) (o : Oper), j < k → ops[j]? = some o → o.guard = none ∧ ((j, o) ∈ E ∨ ((∀ p ∈ E, p.1 ≠ j) ∧ ∃ av, (u03 P L o st = some av ∨ ((j, o) ∈ X ∧ r09 P st h L o av)) ∧ ∀ d, o.dst = some d → K0 L d = some (.pu av)))
 eff : ∀ p ∈ E, p.1 < k ∧ ops[p.1]? = some p.2 ∧ ∀ d, p.2.dst = some d → ∃ F, K0 L d = some (.ef F)
 nd : (E.map fun p => p.1).Nodup
 xx : ∀ p ∈ X, p.1 < k ∧ ops[p.1]? = some p.2
theorem M00.add {st : St} {h : Hp} {ops : List Oper} {k : Nat} {L : List (Nat × J2)} {X X' E E' : List (Nat × Oper)} {o : Oper} {f : J2}
  (hD : ∀ (i j : Nat) (oi oj : Oper) (d : Nat), ops[i]? = some oi → ops[j]? = some oj → oi.dst = some d → oj.dst = some d → i = j)
  (hdep : ∀ (j : Nat) (o : Oper) (t i : Nat) (oi : Oper), ops[j]? = some o → Operand.tmp t ∈ o.op.operands → ops[i]? = some oi → oi.dst = some t → i < j)
  (s : M00 P st h ops k L X E) (ho : ops[k]? = some o) (hg : o.guard = none) (hX : X' = X ∨ X' = X ++ [(k, o)])
  (hE : (E' = E ∧ ∃ av, f = .pu av ∧ (u03 P L o st = some av ∨ ((k, o) ∈ X' ∧ r09 P st h L o av))) ∨ (E' = E ++ [(k, o)] ∧ ∃ F, f = .ef F)) : M00 P st h ops (k + 1) (C9 o.dst f L) X' E' := by
 have no : ∀ d, o.dst = some d → K0 L d = none := fun d hd => by
  cases h : K0 L d with
  | none => rfl
  | some g =>
   obtain ⟨i, oi, h1, h2, h3⟩ := s.key d g h
   have := hD i k oi o d h2 ho h3 hd
   omega
 have up : ∀ t g, K0 L t = some g → K0 (C9 o.dst f L) t = some g := fun t g ht => by
  cases hd : o.dst with
  | none => exact ht
  | some d =>
   show K0 ((d, f) :: L) t = some g
   rw [L5]
   split
   ·rename_i e; subst e; rw [no d hd] at ht; cases ht
   ·exact ht
 have top : ∀ d, o.dst = some d → K0 (C9 o.dst f L) d = some f := fun d hd => by
  rw [hd]; show K0 ((d, f) :: L) d = some f; rw [L5, if_pos rfl]
 have dn : ∀ t g, K0 (C9 o.dst f L) t = some g → K0 L t = some g ∨ (o.dst = some t ∧ g = f) := fun t g ht => by
  cases hd : o.dst with
  | none => rw [hd] at ht; exact .inl ht
  | some d =>
   rw [hd] at ht
   change K0 ((d, f) :: L) t = some g at ht
   rw [L5] at ht
   split at ht
   ·rename_i e; subst e; cases ht; exact .inr ⟨rfl, rfl⟩
   ·exact .inl ht
 have agree : ∀ (j : Nat) (oj : Oper), j ≤ k → ops[j]? = some oj → u03 P L oj st = u03 P (C9 o.dst f L) oj st := fun j oj hj hoj => I09 fun t ht => by
  cases hd : o.dst with
  | none => rfl
  | some d =>
   show K0 L t = K0 ((d, f) :: L) t
   rw [L5]
   split
   ·rename_i e
    subst e
    have := hdep j oj d k o hoj ht ho hd
    omega
   ·rfl
 have agreeX : ∀ (j : Nat) (oj : Oper) (av : AV), j ≤ k → ops[j]? = some oj → r09 P st h L oj av → r09 P st h (C9 o.dst f L) oj av := fun j oj av hj hoj hx => by
  obtain ⟨n, fr, bx, ow⟩ := st
  intro h' hs
  refine H7 (fun t ht => ?_) (hx h' hs)
  cases hd : o.dst with
  | none => rfl
  | some d =>
   show K0 L t = K0 ((d, f) :: L) t
   rw [L5]
   split
   ·rename_i e
    subst e
    have := hdep j oj d k o hoj (by simpa using ht) ho hd
    omega
   ·rfl
 have inX : ∀ p, p ∈ X → p ∈ X' := fun p hp => by
  rcases hX with rfl | rfl
  ·exact hp
  ·exact List.mem_append_left _ hp
 refine ⟨fun t g ht => ?_, fun i oi d hi h1 h2 => ?_, fun j oj hj hoj => ?_, fun p hp => ?_, ?_, fun p hp => ?_⟩
 rotate_left 5
 ·rcases hX with rfl | rfl
  ·obtain ⟨h1, h2⟩ := s.xx p hp
   exact ⟨by omega, h2⟩
  ·rcases List.mem_append.1 hp with hp | hp
   ·obtain ⟨h1, h2⟩ := s.xx p hp
    exact ⟨by omega, h2⟩
   ·simp at hp
    subst hp
    exact ⟨by simp, ho⟩
 rotate_left 4
 ·rcases hE with ⟨rfl, _⟩ | ⟨rfl, _⟩
  ·exact s.nd
  ·rw [List.map_append, List.nodup_append]
   refine ⟨s.nd, by simp, fun x hx y hy e => ?_⟩
   obtain ⟨p, hp, rfl⟩ := List.mem_map.1 hx
   have := (s.eff p hp).1
   simp at hy
   omega
 ·rcases dn t g ht with h | ⟨h, _⟩
  ·obtain ⟨i, oi, h1, h2⟩ := s.key t g h
   exact ⟨i, oi, by omega, h2⟩
  ·exact ⟨k, o, by omega, ho, h⟩
 ·rcases Nat.lt_or_ge i k with h | h
  ·obtain ⟨g, hg⟩ := s.cov i oi d h h1 h2
   exact ⟨g, up d g hg⟩
  ·have : i = k := by omega
   subst this
   rw [ho] at h1; cases h1
   exact ⟨f, top d h2⟩
 ·rcases Nat.lt_or_ge j k with h | h
  ·obtain ⟨k1, k2⟩ := s.each j oj h hoj
   refine ⟨k1, ?_⟩
   rcases k2 with k2 | ⟨k2, av, k3, k4⟩
   ·left
    rcases hE with ⟨rfl, _⟩ | ⟨rfl, _⟩
    ·exact k2
    ·exact List.mem_append_left _ k2
   ·right
    refine ⟨fun p hp => ?_, av, k3.imp (fun k3 => by rw [← agree j oj (by omega) hoj]; exact k3) (fun k3 => ⟨inX _ k3.1, agreeX j oj av (by omega) hoj k3.2⟩), fun d hd => up d _ (k4 d hd)⟩
    rcases hE with ⟨rfl, _⟩ | ⟨rfl, _⟩
    ·exact k2 p hp
    ·rcases List.mem_append.1 hp with hp | hp
     ·exact k2 p hp
     ·simp at hp; rw [hp]; show k ≠ j; omega
  ·have : j = k := by omega
   subst this
   rw [ho] at hoj; cases hoj
   refine ⟨hg, ?_⟩
   rcases hE with ⟨rfl, av, rfl, hp⟩ | ⟨rfl, F, rfl⟩
   ·right
    exact ⟨fun p hp => by have := (s.eff p hp).1; omega, av, hp.imp (fun hp => by rw [← agree _ o (Nat.le_refl _) ho]; exact hp) (fun hp => ⟨hp.1, agreeX _ o av (Nat.le_refl _) ho hp.2⟩), top⟩
   ·left
    exact List.mem_append_right _ (List.mem_singleton.2 rfl)
 ·have old : p ∈ E → p.1 < k + 1 ∧ ops[p.1]? = some p.2 ∧ ∀ d, p.2.dst = some d → ∃ F, K0 (C9 o.dst f L) d = some (.ef F) := fun hp => by
   obtain ⟨h1, h2, h3⟩ := s.eff p hp
   exact ⟨by omega, h2, fun d hd => by obtain ⟨F, hF⟩ := h3 d hd; exact ⟨F, up d _ hF⟩⟩
  rcases hE with ⟨rfl, _⟩ | ⟨rfl, F, rfl⟩
  ·exact old hp
  ·rcases List.mem_append.1 hp with hp | hp
   ·exact old hp
   ·simp at hp
    subst hp
    exact ⟨by omega, ho, fun d hd => ⟨F, top d hd⟩⟩
theorem N00 {ops : List Oper} {st : St} {h : Hp} {K : List (Nat × J2) → List (Nat × Oper) → List (Nat × Oper) → Prop}
  (hD : ∀ (i j : Nat) (oi oj : Oper) (d : Nat), ops[i]? = some oi → ops[j]? = some oj → oi.dst = some d → oj.dst = some d → i = j)
  (hdep : ∀ (j : Nat) (o : Oper) (t i : Nat) (oi : Oper), ops[j]? = some o → Operand.tmp t ∈ o.op.operands → ops[i]? = some oi → oi.dst = some t → i < j) :
  ∀ (l : List Oper) (k : Nat) (L : List (Nat × J2)) (X E : List (Nat × Oper)), (∀ j, l[j]? = ops[k + j]?) → M00 P st h ops k L X E → a9 P st h l k L X E K → ∃ L0 X0 E0, K L0 X0 E0 ∧ M00 P st h ops ops.length L0 X0 E0
 | [], k, L, X, E, hl, s, he => by
  refine ⟨L, X, E, he, ?_⟩
  have hk : ops.length ≤ k := by
   have := hl 0
   simpa using this
  have lt : ∀ (i : Nat) (oi : Oper), ops[i]? = some oi → i < ops.length := fun i oi h => (List.getElem?_eq_some_iff.1 h).1
  exact ⟨fun t f h => by obtain ⟨i, oi, _, h2, h3⟩ := s.key t f h; exact ⟨i, oi, lt i oi h2, h2, h3⟩, fun i oi d hi => s.cov i oi d (by omega), fun j o hj => s.each j o (by omega),
   fun p hp => by obtain ⟨_, h2, h3⟩ := s.eff p hp; exact ⟨lt _ _ h2, h2, h3⟩, s.nd, fun p hp => by obtain ⟨_, h2⟩ := s.xx p hp; exact ⟨lt _ _ h2, h2⟩⟩
 | o :: l, k, L, X, E, hl, s, he => by
  have ho : ops[k]? = some o := by simpa using (hl 0).symm
  have hl' : ∀ j, l[j]? = ops[k + 1 + j]? := fun j => by have := hl (j + 1); simpa [Nat.add_assoc, Nat.add_comm 1 j] using this
  simp only [a9] at he
  split at he
  ·exact he.elim
  ·rename_i hg
   split at he
   ·rename_i av hav
    rw [P7] at he
    exact N00 hD hdep l (k + 1) _ _ _ hl' (s.add hD hdep ho hg (.inl rfl) (.inl ⟨rfl, av, rfl, .inl hav⟩)) he
   ·rcases he with ⟨av, hx, he⟩ | he
    ·rw [P7] at he
     exact N00 hD hdep l (k + 1) _ _ _ hl' (s.add hD hdep ho hg (.inr rfl) (.inl ⟨rfl, av, rfl, .inr ⟨by simp, hx⟩⟩)) he
    ·exact N00 hD hdep l (k + 1) _ _ _ hl' (s.add hD hdep ho hg (.inl rfl) (.inr ⟨rfl, _, rfl⟩)) he
theorem H06 : ∀ (r : List (Nat × Oper)) (q : Nat × Oper), l00 r = true → q ∈ r.tail → ∃ p ∈ r, d6 p.1 q.2 = true
 | [], q, _, h => by cases h
 | [x], q, _, h => by cases h
 | (i, o) :: (j, o') :: r, q, hc, h => by
  simp only [l00, Bool.and_eq_true] at hc
  rcases List.mem_cons.1 h with rfl | h
  ·exact ⟨(i, o), List.mem_cons_self .., hc.1⟩
  ·obtain ⟨p, hp, he⟩ := H06 ((j, o') :: r) q hc.2 h
   exact ⟨p, List.mem_cons_of_mem _ hp, he⟩
theorem I8 : ∀ (d r : List (Nat × Oper)), l00 (d ++ r) = true → l00 r = true
 | [], r, h => h
 | [x], [], h => rfl
 | [(i, o)], (j, o') :: r, h => by simp only [List.singleton_append, l00, Bool.and_eq_true] at h; exact h.2
 | (i, o) :: (j, o') :: d, r, h => by
  simp only [List.cons_append, l00, Bool.and_eq_true] at h
  exact I8 ((j, o') :: d) r h.2
theorem Z00 {i : Nat} {o : Oper} : ∀ {N : Nat}, m00 N i o = true → ∀ k, k < N → k ≠ i → ∃ e ∈ o.after, Region.binds .any e = true ∧ e.on = k
 | 0, _, k, hk, _ => by omega
 | N + 1, h, k, hk, hne => by
  simp only [m00, Bool.and_eq_true, Bool.or_eq_true] at h
  by_cases e : k = N
  ·subst e
   rcases h.1 with g | g
   ·exact absurd (Nat.eq_of_beq_eq_true g) hne
   ·exact P4 g
  ·exact Z00 h.2 k (by omega) hne
def o0d (P : Program) (h0 : Hp) (w0 : World) (ops : Array Oper) (n : Nat) (fr : List (Nat × AV)) (bx0 : List BSt) (ow0 : List Own) (hs : Hp) (c : Nat) (F : List (Nat × Oper)) (L0 : List (Nat × J2)) (EV : List (Nat × Oper) → List (Nat × Oper) → List (Nat × J2) → St → Hp → Prop) (listed : Array Bool) (a : Act) (w : World) : Prop :=
 ∃ (dn r : List (Nat × Oper)) (L : List (Nat × J2)) (bx : List BSt) (ow : List Own) (h : Hp) (be : Nat → Nat) (oe : Nat → Value) (H : Hp), F = dn ++ r ∧ (dn.length ≤ c → ow = ow0 ∧ Sub hs h ∧ (bx = bx0 ∨ ∀ k, k < ops.size → listed.getD k false = true)) ∧ (∀ (j : Nat) (o : Oper), ops[j]? = some o → listed.getD j false = true → ∀ e ∈ o.after, Region.binds .any e = true → listed.getD e.on false = true) ∧ (∀ p ∈ r, listed.getD p.1 true = false) ∧ (∀ p ∈ dn, listed.getD p.1 false = true) ∧
  (v03 bx (N6 L0 ⟨n, fr, bx0, ow0⟩ ops.toList) = v03 bx0 (N6 L0 ⟨n, fr, bx0, ow0⟩ ops.toList) ∨ ∀ k, k < ops.size → listed.getD k false = true) ∧ Sim P h0 w0 be oe H ⟨n, H1 ops.toList fr, bx, ow⟩ h a w ∧ EV dn r L ⟨n, fr, bx, ow⟩ h ∧
  (∀ t, (K0 L0 t = none → K0 L t = none) ∧ ∀ av, K0 L0 t = some (.pu av) → K0 L t = some (.pu av)) ∧
  ∀ (j : Nat) (o : Oper) (d : Nat), ops[j]? = some o → o.dst = some d → listed.getD j false = true → ∃ av, K0 L d = some (.pu av) ∧ J0 ⟨n, fr, bx, ow⟩ be oe av (a.tmps.getD d undef)
abbrev p0c (P : Program) (h0 : Hp) (w0 : World) (ops : Array Oper) (n : Nat) (fr : List (Nat × AV)) (bx0 : List BSt) (ow0 : List Own) (hs : Hp) (c : Nat) (E : List (Nat × Oper)) (L0 : List (Nat × J2)) (K : St → Hp → Prop) (listed : Array Bool) (a : Act) (w : World) : Prop :=
 o0d P h0 w0 ops n fr bx0 ow0 hs c E L0 (fun dn r L st h => evC (N6 L0 ⟨n, fr, bx0, ow0⟩ ops.toList) ops.size P (c - dn.length) r L st h K) listed a w
theorem v0f {ops : Array Oper} {Q : Exit → Act → World → Prop} {Inv : Array Bool → Act → World → Prop} (hB : ∀ (k : Nat) (o : Oper), ops.toList[k]? = some o → ∀ e ∈ o.after, Region.binds .any e = true → e.on < k)
  (hstep : ∀ listed a w j o, listed.size = ops.size → listed.getD j true = false → ops[j]? = some o → (∀ e ∈ o.after, Region.binds .any e = true → listed.getD e.on false = true) → Inv listed a w → o.guard = none ∧ o.wp P a w (Inv (listed.setIfInBounds j true)) Q)
  (hQ : ∀ listed a w, (∀ j, j < ops.size → listed.getD j false = true) → Inv listed a w → Q .normal a w) :
  ∀ (fuel : Nat) (listed : Array Bool) (a : Act) (w : World), listed.size = ops.size → listed.toList.count true + fuel = ops.size → Inv listed a w → wpAny P .any ops Q fuel listed a w
 | 0, listed, a, w, hsz, hc, hi => by
  have hall' : ∀ j, j < ops.size → listed.getD j false = true := fun j hj => by
   have h1 : ∀ b ∈ listed.toList, true = b := List.count_eq_length.1 (by simp only [Array.length_toList]; omega)
   have hlt : j < listed.size := by omega
   have := h1 listed[j] (by simp)
   simp [hlt, ← this]
  refine ⟨?_, hQ listed a w hall' hi⟩
  cases hr : Region.ready .any ops listed with
  | nil => rfl
  | cons j r =>
   have hj : j ∈ Region.ready .any ops listed := by rw [hr]; exact List.mem_cons_self ..
   obtain ⟨h1, o, h2, _⟩ := mem_ready.1 hj
   have hlt : j < ops.size := (Array.getElem?_eq_some_iff.1 h2).1
   have := hall' j hlt
   have hlt' : j < listed.size := by omega
   simp [hlt'] at this h1
   rw [this] at h1; cases h1
 | fuel + 1, listed, a, w, hsz, hc, hi => by
  refine ⟨fun hr => hQ listed a w (e03 hB hsz hr) hi, fun j hj => ?_⟩
  obtain ⟨h1, o, h2, h3⟩ := mem_ready.1 hj
  unfold wpOp
  simp only [h2]
  obtain ⟨hg, hw'⟩ := hstep listed a w j o hsz h1 h2 h3 hi
  have hw : Region.wanted o (yielded ops a.tmps) = true := by unfold Region.wanted; rw [hg]
  rw [if_pos hw]
  exact .inl (Oper.wp_mono (fun a' w' hi' => v0f hB hstep hQ fuel _ a' w' (by simpa using hsz) (by rw [count_set h1]; omega) hi') hw')
theorem x04 {ops : Array Oper} {listed : Array Bool} {X : List (Nat × Oper)}
  (hcl : ∀ (k : Nat) (o : Oper), ops[k]? = some o → listed.getD k false = true → ∀ e ∈ o.after, Region.binds .any e = true → listed.getD e.on false = true)
  (hX : ∀ y ∈ X, ops[y.1]? = some y.2) : ∀ (n i jq : Nat) (q : Oper), ops[jq]? = some q → listed.getD jq false = true → C08 X n i q = true → listed.getD i false = true
 | 0, i, jq, q, hq, hl, hr => by
  obtain ⟨e, he1, he2, he3⟩ := P4 hr
  have := hcl jq q hq hl e he1 he2
  rwa [he3] at this
 | n + 1, i, jq, q, hq, hl, hr => by
  simp only [C08, Bool.or_eq_true, List.any_eq_true, Bool.and_eq_true] at hr
  rcases hr with h1 | ⟨y, hy, h1, h2⟩
  ·obtain ⟨e, he1, he2, he3⟩ := P4 h1
   have := hcl jq q hq hl e he1 he2
   rwa [he3] at this
  ·obtain ⟨e, he1, he2, he3⟩ := P4 h1
   have h4 := hcl jq q hq hl e he1 he2
   rw [he3] at h4
   exact x04 hcl hX n i y.1 y.2 (hX y hy) h4 h2
theorem k05 {E : List (Nat × Oper)} {listed : Array Bool} {j : Nat} {o : Oper} (hedge : ∀ e ∈ o.after, Region.binds .any e = true → listed.getD e.on false = true)
  (hch : ∀ dn r, E = dn ++ r → l00 r = true) {dn r : List (Nat × Oper)} (hE : E = dn ++ r) (hr : ∀ p ∈ r, listed.getD p.1 true = false) (hjr : (j, o) ∈ r) : ∃ r', r = (j, o) :: r' := by
 obtain ⟨q, r', rfl⟩ : ∃ q r', r = q :: r' := by
  cases r with
  | nil => cases hjr
  | cons q r' => exact ⟨q, r', rfl⟩
 rcases List.mem_cons.1 hjr with e | hx
 ·exact ⟨r', by rw [e]⟩
 ·exfalso
  obtain ⟨p, hp, hed⟩ := H06 (q :: r') (j, o) (hch dn _ hE) hx
  obtain ⟨e, he1, he2, he3⟩ := P4 hed
  have h1 := hedge e he1 he2
  have h2 := hr p hp
  rw [he3] at h1
  rcases Nat.lt_or_ge p.1 listed.size with g | g
  ·simp [g] at h1 h2
   rw [h1] at h2; cases h2
  ·simp [Array.getElem?_eq_none g] at h1
theorem w0b {ops : Array Oper} {n : Nat} {fr : List (Nat × AV)} {bx0 : List BSt} {ow0 : List Own} {hs : Hp} {c : Nat} {X E F : List (Nat × Oper)} {L0 : List (Nat × J2)} {EV : List (Nat × Oper) → List (Nat × Oper) → List (Nat × J2) → St → Hp → Prop} {Q : Exit → Act → World → Prop} {listed : Array Bool} {j : Nat} {o : Oper}
  (hD : ∀ (i j : Nat) (oi oj : Oper) (d : Nat), ops.toList[i]? = some oi → ops.toList[j]? = some oj → oi.dst = some d → oj.dst = some d → i = j)
  (hn : ∀ o ∈ ops.toList, ∀ d, o.dst = some d → d < n) (sp : M00 P ⟨n, fr, bx0, ow0⟩ hs ops.toList ops.toList.length L0 X E) (hFE : ∀ x ∈ F, x ∈ E) (hEF : (j, o) ∈ E → (j, o) ∈ F) (hFn : (F.map fun p => p.1).Nodup)
  (hnx : ∀ dn r, F = dn ++ r → (∀ p ∈ dn, listed.getD p.1 false = true) → (∀ p ∈ r, listed.getD p.1 true = false) → (j, o) ∈ r → ∃ r', r = (j, o) :: r')
  (hev : ∀ dn r' L bx ow h, F = dn ++ (j, o) :: r' → (∀ p ∈ dn, listed.getD p.1 false = true) → EV dn ((j, o) :: r') L ⟨n, fr, bx, ow⟩ h → F00 L fr o.op.operands.toList [] fun fr1 => d5 P o ⟨n, fr1, bx, ow⟩ h fun av st' h' => match st' with
   | ⟨_, _, bx', ow'⟩ => D08 (c - dn.length) ow ow' h h' ∧ o0b (c - dn.length) (s06 ops.size j o r') (N6 L0 ⟨n, fr, bx0, ow0⟩ ops.toList) bx bx' ∧ p7 av fun av => U5 bx' fun bx' => U5 ow' fun ow' => EV (dn ++ [(j, o)]) r' (C9 o.dst (.pu av) L) ⟨n, fr, bx', ow'⟩ h')
  (hea : p06 X (X ++ E) (F.drop c) = true)
  (hj : listed.getD j true = false) (ho : ops[j]? = some o) (hsz : listed.size = ops.size)
  (hdep : ∀ t, Operand.tmp t ∈ o.op.operands → ∀ (i : Nat) (oi : Oper), ops.toList[i]? = some oi → oi.dst = some t → listed.getD i false = true)
  (hedge : ∀ e ∈ o.after, Region.binds .any e = true → listed.getD e.on false = true)
  (hi : o0d P h0 w0 ops n fr bx0 ow0 hs c F L0 EV listed a w) : o.guard = none ∧ o.wp P a w (o0d P h0 w0 ops n fr bx0 ow0 hs c F L0 EV (listed.setIfInBounds j true)) Q := by
 obtain ⟨dn, r, L, bx, ow, h', be, oe, H, hE, hdn0, hcl, hr, hdn, hbx, s, he, R1, R2⟩ := hi
 have hoL : ops.toList[j]? = some o := by simpa using ho
 have hmem : o ∈ ops.toList := List.mem_of_getElem? hoL
 have hlt : j < ops.toList.length := (List.getElem?_eq_some_iff.1 hoL).1
 have hjs : j < listed.size := by simpa [hsz] using hlt
 have some_un : ¬ ∀ k, k < ops.size → listed.getD k false = true := fun e => by
  have h1 := e j (by simpa using hlt)
  simp [hjs] at h1 hj
  rw [h1] at hj; cases hj
 have hbx0 : v03 bx (N6 L0 ⟨n, fr, bx0, ow0⟩ ops.toList) = v03 bx0 (N6 L0 ⟨n, fr, bx0, ow0⟩ ops.toList) := by
  rcases hbx with e | e
  ·exact e
  ·exact absurd e some_un
 obtain ⟨hg, hkind⟩ := sp.each j o hlt hoL
 refine ⟨hg, ?_⟩
 have L0key : ∀ t, K0 L t ≠ none → ∃ (i : Nat) (oi : Oper), ops.toList[i]? = some oi ∧ oi.dst = some t := fun t ht => by
  cases h0' : K0 L0 t with
  | none => exact absurd ((R1 t).1 h0') ht
  | some f => obtain ⟨i, oi, _, h2, h3⟩ := sp.key t f h0'; exact ⟨i, oi, h2, h3⟩
 have frame : ∀ t, (∀ o' ∈ ops.toList, o'.dst ≠ some t) → J0 ⟨n, fr, bx, ow⟩ be oe (Q0 fr t) (a.tmps.getD t undef) := fun t ht => by
  have g := s.fr t
  change J0 _ be oe (Q0 (H1 ops.toList fr) t) _ at g
  rw [j6 ht] at g
  exact J0.fr (st := ⟨n, H1 ops.toList fr, bx, ow⟩) (fr := fr) g
 have opnd : ∀ t, Operand.tmp t ∈ o.op.operands → (∀ av, K0 L t = some (.pu av) → J0 ⟨n, fr, bx, ow⟩ be oe av (a.tmps.getD t undef)) ∧ (K0 L t = none → J0 ⟨n, fr, bx, ow⟩ be oe (Q0 fr t) (a.tmps.getD t undef)) := fun t ht => by
  refine ⟨fun av hav => ?_, fun hno => frame t fun o' ho' hd => ?_⟩
  ·obtain ⟨i, oi, h1, h2⟩ := L0key t (by rw [hav]; simp)
   obtain ⟨av', e1, e2⟩ := R2 i oi t (by simpa using h1) h2 (hdep t ht i oi h1 h2)
   rw [hav] at e1; cases e1
   exact e2
  ·obtain ⟨i, hi, e⟩ := List.getElem_of_mem ho'
   have h1 : ops.toList[i]? = some o' := by rw [List.getElem?_eq_getElem hi, e]
   obtain ⟨av', e1, _⟩ := R2 i o' t (by simpa using h1) hd (hdep t ht i o' h1 hd)
   rw [hno] at e1; cases e1
 have hset : ∀ i, i ≠ j → ∀ d, (listed.setIfInBounds j true).getD i d = listed.getD i d := fun i hij d => getD_set_ne d (Ne.symm hij)
 have sput : ∀ {bx' : List BSt} {ow' : List Own} {h'' : Hp} {be' : Nat → Nat} {oe' : Nat → Value} {H' : Hp} {v : Value} {w' : World}, Sim P h0 w0 be' oe' H' ⟨n, H1 ops.toList fr, bx', ow'⟩ h'' a w' → Sim P h0 w0 be' oe' H' ⟨n, H1 ops.toList fr, bx', ow'⟩ h'' (a.put o.dst v) w' := by
  intro bx' ow' h'' be' oe' H' v w' s1
  cases hd : o.dst with
  | none => exact s1
  | some d =>
   have hp := s1.put (d := d) (av := .dead) (v := v) (hn o hmem d hd) trivial
   refine hp.refr (fr := H1 ops.toList fr) fun t => ?_
   have g := hp.fr t
   change J0 _ _ _ (Q0 ((d, .dead) :: H1 ops.toList fr) t) _ at g
   rw [Z0] at g
   split at g
   ·rename_i e
    subst e
    rw [l7 hmem hd]
    trivial
   ·exact g
 have tput : ∀ (v : Value) (i : Nat) (oi : Oper) (d : Nat), ops[i]? = some oi → oi.dst = some d → i ≠ j → (a.put o.dst v).tmps.getD d undef = a.tmps.getD d undef := fun v i oi d h1 h2 hij => by
  cases hd : o.dst with
  | none => rfl
  | some d' =>
   have hne : d' ≠ d := fun e => by subst e; exact hij (hD i j oi o d' (by simpa using h1) hoL h2 hd)
   simp [Act.put, Array.getElem?_setIfInBounds_ne hne]
 have tself : ∀ (v : Value) (d : Nat), o.dst = some d → (a.put o.dst v).tmps.getD d undef = v := fun v d hd => by
  have hlt : d < a.tmps.size := by rw [s.siz]; exact hn o hmem d hd
  rw [hd]
  simp [Act.put, hlt]
 have hcl' : ∀ (i : Nat) (oi : Oper), ops[i]? = some oi → (listed.setIfInBounds j true).getD i false = true → ∀ e ∈ oi.after, Region.binds .any e = true → (listed.setIfInBounds j true).getD e.on false = true := fun i oi h1 h2 e he1 he2 => by
  by_cases hij : i = j
  ·subst hij
   rw [ho] at h1; cases h1
   exact getD_set_true (hedge e he1 he2)
  ·rw [hset i hij] at h2
   exact getD_set_true (hcl i oi h1 h2 e he1 he2)
 rcases hkind with hin | ⟨hnot, av, hpu | ⟨hinX, hlk⟩, hL⟩
 ·
  have hjr : (j, o) ∈ r := by
   have hin := hEF hin
   rw [hE] at hin
   rcases List.mem_append.1 hin with hx | hx
   ·have h1 := hdn _ hx
    simp [hjs] at h1 hj
    rw [h1] at hj; cases hj
   ·exact hx
  obtain ⟨r', rfl⟩ := hnx dn r hE hdn hr hjr
  have he := hev dn r' L bx ow h' hE hdn he
  obtain ⟨fr1, he, g1⟩ := G7 (acc := []) (st := ⟨n, fr, bx, ow⟩) (stX := ⟨n, fr, bx, ow⟩) (be := be) (oe := oe) (val := fun t => a.tmps.getD t undef) (fun t => trivial) (fun t ht => opnd t (by simpa using ht)) he
  have s' : Sim P h0 w0 be oe H ⟨n, fr1, bx, ow⟩ h' a w := s.refr (fr := fr1) fun t => J0.fr (st := ⟨n, fr, bx, ow⟩) (fr := H1 ops.toList fr) (g1 t)
  refine Oper.wp_mono (fun a' w' hx => ?_) (i6 s' he)
  obtain ⟨av', ⟨n', fr', bx', ow'⟩, h'', v, be', oe', H', hk, rfl, s2, g2, gr⟩ := hx
  obtain ⟨hclean, hsame, hk⟩ := hk
  rw [P7, O7, O7] at hk
  have hnn : n' = n := by
   have e1 : a.tmps.size = n' := s2.siz
   have e2 : a.tmps.size = n := s.siz
   omega
  subst hnn
  have gr' : K3 ⟨n', fr, bx, ow⟩ be oe ⟨n', fr, bx', ow'⟩ be' oe' := ⟨gr.bl, gr.be, gr.sm⟩
  have grD : K3 ⟨n', H1 ops.toList fr, bx, ow⟩ be oe ⟨n', H1 ops.toList fr, bx', ow'⟩ be' oe' := ⟨gr.bl, gr.be, gr.sm⟩
  have s3 : Sim P h0 w0 be' oe' H' ⟨n', H1 ops.toList fr, bx', ow'⟩ h'' a w' :=
   s2.refr (fr := H1 ops.toList fr) fun t => J0.fr (st := ⟨n', H1 ops.toList fr, bx', ow'⟩) (fr := fr') ((s.fr t).grow grD)
  have htop : ∀ d, o.dst = some d → K0 (C9 o.dst (.pu av') L) d = some (.pu av') := fun d hd => by
   rw [hd]; show K0 ((d, .pu av') :: L) d = _; rw [L5, if_pos rfl]
  have hold : ∀ t, o.dst ≠ some t → K0 (C9 o.dst (.pu av') L) t = K0 L t := fun t ht => by
   cases hd : o.dst with
   | none => rfl
   | some d =>
    show K0 ((d, .pu av') :: L) t = _
    rw [L5, if_neg fun e => ht (by rw [hd, e])]
  have lastAll : s06 ops.size j o r' = true → ∀ k, k < ops.size → (listed.setIfInBounds j true).getD k false = true := fun hl k hk => by
   have hall : m00 ops.size j o = true := by
    cases r' with
    | nil => exact hl
    | cons q r'' => cases hl
   by_cases hkj : k = j
   ·subst hkj; simp [hjs]
   ·rw [hset k hkj]
    obtain ⟨e, he1, he2, rfl⟩ := Z00 hall k hk hkj
    exact hedge e he1 he2
  refine ⟨dn ++ [(j, o)], r', C9 o.dst (.pu av') L, bx', ow', h'', be', oe', H', by rw [hE]; simp, fun hle => (by
   have hle' : dn.length < c := by simp only [List.length_append, List.length_singleton] at hle; omega
   obtain ⟨e1, e2, e3⟩ := hdn0 (by omega)
   obtain ⟨c1, hc1⟩ : ∃ c1, c - dn.length = c1 + 1 := ⟨c - dn.length - 1, by omega⟩
   rw [hc1] at hclean hsame
   refine ⟨hclean.1.trans e1, fun b o hb => hclean.2 b o (e2 b o hb), ?_⟩
   cases hl : s06 ops.size j o r' with
   | true => exact .inr (lastAll hl)
   | false =>
    rw [hl] at hsame
    rcases e3 with e3 | e3
    ·exact .inl (hsame.trans e3)
    ·exact absurd e3 some_un), hcl', fun p hp => ?_, fun p hp => ?_, ?_, sput s3, hk, fun t => ?_, fun i oi d h1 h2 h3 => ?_⟩
  ·have hne : p.1 ≠ j := fun e => by
    have hnd := hFn
    rw [hE, List.map_append, List.nodup_append] at hnd
    have h2 := hnd.2.1
    rw [List.map_cons, List.nodup_cons] at h2
    exact h2.1 (List.mem_map.2 ⟨p, hp, e⟩)
   rw [hset _ hne]
   exact hr p (List.mem_cons_of_mem _ hp)
  ·rcases List.mem_append.1 hp with hp | hp
   ·exact getD_set_true (hdn p hp)
   ·simp at hp
    subst hp
    simp [hjs]
  ·cases hl : s06 ops.size j o r' with
   | false =>
    rw [hl] at hsame
    left
    rw [← hbx0]
    cases hc : c - dn.length with
    | zero => rw [hc] at hsame; exact hsame
    | succ c1 =>
     rw [hc] at hsame
     have hsame : bx' = bx := hsame
     rw [hsame]
   | true => exact .inr (lastAll hl)
  ·by_cases ht : o.dst = some t
   ·obtain ⟨_, _, hF⟩ := sp.eff (j, o) hin
    obtain ⟨F, hF⟩ := hF t ht
    exact ⟨fun e => (by rw [hF] at e; cases e), fun av e => (by rw [hF] at e; cases e)⟩
   ·rw [hold t ht]
    exact R1 t
  ·by_cases hij : i = j
   ·subst hij
    rw [ho] at h1; cases h1
    exact ⟨av', htop d h2, by rw [tself v d h2]; exact J0.fr (st := ⟨n', fr', bx', ow'⟩) (fr := fr) g2⟩
   ·rw [hset _ hij] at h3
    obtain ⟨av2, e1, e2⟩ := R2 i oi d h1 h2 h3
    have hdd : o.dst ≠ some d := fun e => hij (hD i j oi o d (by simpa using h1) hoL h2 e)
    exact ⟨av2, by rw [hold d hdd]; exact e1, by rw [tput v i oi d h1 h2 hij]; exact e2.grow gr'⟩
 ·
  have toD : ∀ {av : AV} {x : Value}, J0 ⟨n, fr, bx, ow⟩ be oe av x → J0 ⟨n, H1 ops.toList fr, bx, ow⟩ be oe av x := fun g => J0.fr (st := ⟨n, fr, bx, ow⟩) (fr := H1 ops.toList fr) g
  obtain ⟨v, hrun, gv⟩ := o0c (st := ⟨n, fr, bx0, ow0⟩) (stX := ⟨n, H1 ops.toList fr, bx, ow⟩) s (fun tt x i off e1 e2 => P07 hbx0 (G06 e1 e2 hmem)) hpu (fun t ht => ⟨fun av e => toD ((opnd t ht).1 av ((R1 t).2 av e)), fun e => toD ((opnd t ht).2 ((R1 t).1 e))⟩)
  refine V4 hrun ?_
  refine ⟨dn, r, L, bx, ow, h', be, oe, H, hE, (fun hle => ⟨(hdn0 hle).1, (hdn0 hle).2.1, .inl ((hdn0 hle).2.2.resolve_right some_un)⟩), hcl', fun p hp => ?_, fun p hp => getD_set_true (hdn p hp), .inl hbx0, sput s, he, R1, fun i oi d h1 h2 h3 => ?_⟩
  ·have hne : p.1 ≠ j := hnot p (hFE _ (by rw [hE]; exact List.mem_append_right _ hp))
   rw [hset _ hne]
   exact hr p hp
  ·by_cases hij : i = j
   ·subst hij
    rw [ho] at h1; cases h1
    exact ⟨av, (R1 d).2 av (hL d h2), by rw [tself v d h2]; exact J0.fr (st := ⟨n, H1 ops.toList fr, bx, ow⟩) (fr := fr) gv⟩
   ·rw [hset _ hij] at h3
    obtain ⟨av2, e1, e2⟩ := R2 i oi d h1 h2 h3
    exact ⟨av2, e1, by rw [tput v i oi d h1 h2 hij]; exact e2⟩
 ·
  have hdnil : dn.length ≤ c := by
   rcases Nat.lt_or_ge c dn.length with hlt' | hge
   ·exfalso
    obtain ⟨⟨jq, q⟩, hq0⟩ : ∃ q0, dn[c]? = some q0 := ⟨_, List.getElem?_eq_getElem hlt'⟩
    have hqdn : (jq, q) ∈ dn := List.mem_of_getElem? hq0
    have hdrop : ∃ t, F.drop c = (jq, q) :: t := by
     obtain ⟨hlt2, e2⟩ := List.getElem?_eq_some_iff.1 hq0
     refine ⟨(dn ++ r).drop (c + 1), ?_⟩
     rw [hE, List.drop_eq_getElem_cons (by simp; omega), List.getElem_append_left hlt2, e2]
    have hjf : listed.getD j false = false := by simp [hjs] at hj ⊢; exact hj
    have hql : listed.getD jq false = true := hdn (jq, q) hqdn
    have hqo : ops[jq]? = some q := by
     have := (sp.eff (jq, q) (hFE _ (by rw [hE]; exact List.mem_append_left _ hqdn))).2.1
     simpa using this
    obtain ⟨t, ht⟩ := hdrop
    rw [ht] at hea
    simp only [p06, List.all_eq_true] at hea
    have := x04 (X := X ++ E) hcl (fun y hy => by
     rcases List.mem_append.1 hy with hy | hy
     ·have h5 := (sp.xx y hy).2; simpa using h5
     ·have h5 := (sp.eff y hy).2.1; simpa using h5) 8 j jq q hqo hql (hea (j, o) hinX)
    rw [hjf] at this; cases this
   ·exact hge
  obtain ⟨rfl, hsub, hb0⟩ := hdn0 hdnil
  obtain rfl := hb0.resolve_right some_un
  obtain ⟨fr1, hev, g1⟩ := G7 (acc := []) (st := ⟨n, fr, bx, ow⟩) (stX := ⟨n, fr, bx, ow⟩) (be := be) (oe := oe) (val := fun t => a.tmps.getD t undef) (fun t => trivial)
   (fun t ht => ⟨fun av e => (opnd t (by simpa using ht)).1 av ((R1 t).2 av e), fun e => (opnd t (by simpa using ht)).2 ((R1 t).1 e)⟩) (hlk h' hsub)
  have s' : Sim P h0 w0 be oe H ⟨n, fr1, bx, ow⟩ h' a w := s.refr (fr := fr1) fun t => J0.fr (st := ⟨n, fr, bx, ow⟩) (fr := H1 ops.toList fr) (g1 t)
  refine Oper.wp_mono (fun a' w' hx => ?_) (i6 s' hev)
  obtain ⟨av', st', h'', v, be', oe', H', ⟨rfl, rfl, rfl⟩, rfl, s2, g2, gr⟩ := hx
  have gr' : K3 ⟨n, fr, bx, ow⟩ be oe ⟨n, fr, bx, ow⟩ be' oe' := ⟨gr.bl, gr.be, gr.sm⟩
  have grD : K3 ⟨n, H1 ops.toList fr, bx, ow⟩ be oe ⟨n, H1 ops.toList fr, bx, ow⟩ be' oe' := ⟨gr.bl, gr.be, gr.sm⟩
  have s3 : Sim P h0 w0 be' oe' H' ⟨n, H1 ops.toList fr, bx, ow⟩ h'' a w' :=
   s2.refr (fr := H1 ops.toList fr) fun t => J0.fr (st := ⟨n, H1 ops.toList fr, bx, ow⟩) (fr := fr1) ((s.fr t).grow grD)
  refine ⟨dn, r, L, bx, ow, h'', be', oe', H', hE, fun _ => ⟨rfl, hsub, .inl rfl⟩, hcl', fun p hp => ?_, fun p hp => getD_set_true (hdn p hp), .inl rfl, sput s3, he, R1, fun i oi d h1 h2 h3 => ?_⟩
  ·have hne : p.1 ≠ j := hnot p (hFE _ (by rw [hE]; exact List.mem_append_right _ hp))
   rw [hset _ hne]
   exact hr p hp
  ·by_cases hij : i = j
   ·subst hij
    rw [ho] at h1; cases h1
    exact ⟨av', (R1 d).2 av' (hL d h2), by rw [tself v d h2]; exact J0.fr (st := ⟨n, fr1, bx, ow⟩) (fr := fr) g2⟩
   ·rw [hset _ hij] at h3
    obtain ⟨av2, e1, e2⟩ := R2 i oi d h1 h2 h3
    exact ⟨av2, e1, by rw [tput v i oi d h1 h2 hij]; exact e2.grow gr'⟩
theorem Y0f {ops : Array Oper} {n : Nat} {fr : List (Nat × AV)} {bx0 : List BSt} {ow0 : List Own} {hs : Hp} {c : Nat} {X E : List (Nat × Oper)} {L0 : List (Nat × J2)} {K : St → Hp → Prop} {Q : Exit → Act → World → Prop} {listed : Array Bool} {j : Nat} {o : Oper}
  (hD : ∀ (i j : Nat) (oi oj : Oper) (d : Nat), ops.toList[i]? = some oi → ops.toList[j]? = some oj → oi.dst = some d → oj.dst = some d → i = j)
  (hn : ∀ o ∈ ops.toList, ∀ d, o.dst = some d → d < n) (sp : M00 P ⟨n, fr, bx0, ow0⟩ hs ops.toList ops.toList.length L0 X E) (hch : l00 E = true) (hea : p06 X (X ++ E) (E.drop c) = true)
  (hj : listed.getD j true = false) (ho : ops[j]? = some o) (hsz : listed.size = ops.size)
  (hdep : ∀ t, Operand.tmp t ∈ o.op.operands → ∀ (i : Nat) (oi : Oper), ops.toList[i]? = some oi → oi.dst = some t → listed.getD i false = true)
  (hedge : ∀ e ∈ o.after, Region.binds .any e = true → listed.getD e.on false = true)
  (hi : p0c P h0 w0 ops n fr bx0 ow0 hs c E L0 K listed a w) : o.guard = none ∧ o.wp P a w (p0c P h0 w0 ops n fr bx0 ow0 hs c E L0 K (listed.setIfInBounds j true)) Q := by
 refine w0b hD hn sp (fun x hx => hx) id sp.nd (fun dn r hE hdn hr hjr => ?_) (fun dn r' L bx ow h hE hdn he => ?_) hea hj ho hsz hdep hedge hi
 ·exact k05 hedge (fun dn r hE => I8 dn r (by rw [← hE]; exact hch)) hE hr hjr
 ·simp only [evC] at he
  have e : c - (dn ++ [(j, o)]).length = c - dn.length - 1 := by simp; omega
  simp only [e]
  exact he
theorem I06 : ∀ {k : Nat} {E : List (Nat × Oper)} {f : Nat × Oper} {E' : List (Nat × Oper)}, I07 k E = some (f, E') → ∃ A B, E = A ++ f :: B ∧ E' = A ++ B
 | _, [], f, E', h => by simp [I07] at h
 | 0, x :: r, f, E', h => by
  simp only [I07, Option.some.injEq, Prod.mk.injEq] at h
  obtain ⟨rfl, rfl⟩ := h
  exact ⟨[], r, rfl, rfl⟩
 | k + 1, x :: r, f, E', h => by
  simp only [I07] at h
  split at h
  ·rename_i f1 r' hk
   simp only [Option.some.injEq, Prod.mk.injEq] at h
   obtain ⟨rfl, rfl⟩ := h
   obtain ⟨A, B, rfl, rfl⟩ := I06 hk
   exact ⟨x :: A, B, rfl, rfl⟩
  ·cases h
theorem Q07 {f : Nat × Oper} : ∀ {p : Nat} {E : List (Nat × Oper)}, f0c f p E = true → ∃ q, E[p]? = some q ∧ d6 f.1 q.2 = true
 | _, [], h => by simp [f0c] at h
 | 0, (i, q) :: r, h => ⟨(i, q), rfl, by simpa [f0c] using h⟩
 | p + 1, x :: r, h => by
  obtain ⟨q, h1, h2⟩ := Q07 (E := r) (p := p) (by simpa [f0c] using h)
  exact ⟨q, by simpa using h1, h2⟩
theorem p0d : ∀ {X : List (Nat × Oper)}, noX X = true → X = []
 | [], _ => rfl
 | _ :: _, h => by simp [noX] at h
theorem l05 {Y : List (Nat × Oper)} : ∀ (E : List (Nat × Oper)), p06 [] Y E = true
 | [] => rfl
 | _ :: _ => rfl
theorem e06 {l : Array Bool} {j : Nat} (h : l.getD j true = false) : l.getD j false = false := by
 rcases Nat.lt_or_ge j l.size with g | g
 ·simp [g] at h ⊢; exact h
 ·simp [Array.getElem?_eq_none g] at h
theorem m05 {listed : Array Bool} : ∀ {A B dn r : List (Nat × Oper)}, A ++ B = dn ++ r → (∀ p ∈ A, listed.getD p.1 false = true) → (∀ p ∈ r, listed.getD p.1 true = false) → ∃ C, dn = A ++ C ∧ B = C ++ r
 | [], B, dn, r, h, _, _ => ⟨dn, rfl, by simpa using h⟩
 | x :: A, B, [], r, h, hA, hr => by
  exfalso
  have h1 := hA x (List.mem_cons_self ..)
  have h2 := e06 (hr x (by rw [show r = x :: A ++ B from by simpa using h.symm]; simp))
  rw [h1] at h2; cases h2
 | x :: A, B, y :: dn, r, h, hA, hr => by
  simp only [List.cons_append, List.cons.injEq] at h
  obtain ⟨rfl, h⟩ := h
  obtain ⟨C, h1, h2⟩ := m05 h (fun p hp => hA p (List.mem_cons_of_mem _ hp)) hr
  exact ⟨C, by rw [h1]; rfl, h2⟩
theorem J09 {rd : List Nat} {N c : Nat} {L : List (Nat × J2)} {K : St → Hp → Prop} {dn r' : List (Nat × Oper)} {j : Nat} {o : Oper} {n : Nat} {fr : List (Nat × AV)} {bx : List BSt} {ow : List Own} {h : Hp}
  (he : evC rd N P (c - dn.length) ((j, o) :: r') L ⟨n, fr, bx, ow⟩ h K) : F00 L fr o.op.operands.toList [] fun fr1 => d5 P o ⟨n, fr1, bx, ow⟩ h fun av st' h' => match st' with
   | ⟨_, _, bx', ow'⟩ => D08 (c - dn.length) ow ow' h h' ∧ o0b (c - dn.length) (s06 N j o r') rd bx bx' ∧ p7 av fun av => U5 bx' fun bx' => U5 ow' fun ow' => evC rd N P (c - (dn ++ [(j, o)]).length) r' (C9 o.dst (.pu av) L) ⟨n, fr, bx', ow'⟩ h' K := by
 simp only [evC] at he
 have e : c - (dn ++ [(j, o)]).length = c - dn.length - 1 := by simp; omega
 simp only [e]
 exact he
theorem q0d {f : Nat × Oper} {rd : List Nat} {N : Nat} {K : St → Hp → Prop} {h : Hp} {st : St} {L : List (Nat × J2)} : ∀ {p : Nat} {E : List (Nat × Oper)}, m0e f rd N P p E L st h K → evC rd N P 0 (f :: E) L st h K
 | 0, _, h => h
 | _ + 1, _, h => h.1
theorem Z0f {ops : Array Oper} {n : Nat} {fr : List (Nat × AV)} {bx : List BSt} {ow : List Own} {hs : Hp} {c : Nat} {X E F : List (Nat × Oper)} {L0 : List (Nat × J2)} {K : St → Hp → Prop} {R : Act → World → Prop} {listed : Array Bool}
  (sp : M00 P ⟨n, fr, bx, ow⟩ hs ops.toList ops.toList.length L0 X E) (hFE : ∀ x ∈ F, x ∈ E)
  (hQ : ∀ a w st h be oe H, K st h → Sim P h0 w0 be oe H st h a w → R a w) (hl : ∀ j, j < ops.size → listed.getD j false = true)
  (hi : p0c P h0 w0 ops n fr bx ow hs c F L0 K listed a w) : R a w := by
  obtain ⟨dn, r, L, bx, ow', h', be, oe, H, hE, _, _, hr, hdn, _, s, hev, R1, R2⟩ := hi
  have hrn : r = [] := by
   cases r with
   | nil => rfl
   | cons p r' =>
    have h1 := hr p (List.mem_cons_self ..)
    have h2 := (sp.eff p (hFE _ (by rw [hE]; simp))).1
    have h3 := hl p.1 (by simpa using h2)
    rcases Nat.lt_or_ge p.1 listed.size with g | g
    ·simp [g] at h1 h3
     rw [h3] at h1; cases h1
    ·simp [Array.getElem?_eq_none g] at h3
  subst hrn
  simp only [evC, O7] at hev
  refine hQ a w _ h' be oe H hev (s.refr (fr := F0a L fr) fun t => ?_)
  rw [j05]
  have key : ∀ t, K0 L t ≠ none → ∃ (i : Nat) (oi : Oper), ops[i]? = some oi ∧ oi.dst = some t ∧ i < ops.size := fun t ht => by
   cases h0' : K0 L0 t with
   | none => exact absurd ((R1 t).1 h0') ht
   | some f =>
    obtain ⟨i, oi, h1, h2, h3⟩ := sp.key t f h0'
    exact ⟨i, oi, by simpa using h2, h3, by simpa using h1⟩
  cases hL : K0 L t with
  | none =>
   have hmiss : ∀ o' ∈ ops.toList, o'.dst ≠ some t := fun o' ho' hd => by
    obtain ⟨i, hi, e⟩ := List.getElem_of_mem ho'
    have h1 : ops[i]? = some o' := by rw [← e]; simp at hi ⊢
    obtain ⟨av', e1, _⟩ := R2 i o' t h1 hd (hl i (by simpa using hi))
    rw [hL] at e1; cases e1
   have g := s.fr t
   change J0 _ be oe (Q0 (H1 ops.toList fr) t) _ at g
   rw [j6 hmiss] at g
   exact g
  | some f =>
   cases f with
   | ef F => trivial
   | pu av =>
    obtain ⟨i, oi, h1, h2, h3⟩ := key t (by rw [hL]; simp)
    obtain ⟨av', e1, e2⟩ := R2 i oi t h1 h2 (hl i h3)
    rw [hL] at e1; cases e1
    exact J0.fr (st := ⟨n, fr, bx, ow'⟩) (fr := H1 ops.toList fr) e2
theorem K09 {ops : Array Oper} {st : St} {K : St → Hp → Prop} {Q : Exit → Act → World → Prop} {R : Act → World → Prop} (s : Sim P h0 w0 be oe H st h a w) (hb : F6 st.n ops.toList = true)
  (he : a9 P st h ops.toList 0 [] [] [] fun L X E => evD (N6 L st ops.toList) ops.size P X E L st h K)
  (hQ : ∀ a w st h be oe H, K st h → Sim P h0 w0 be oe H st h a w → R a w) :
  ∃ Inv : Array Bool → Act → World → Prop, (∀ (k : Nat) (o : Oper), ops.toList[k]? = some o → ∀ e ∈ o.after, Region.binds .any e = true → e.on < k) ∧
   (∀ listed a w j o, listed.size = ops.size → listed.getD j true = false → ops[j]? = some o → (∀ e ∈ o.after, Region.binds .any e = true → listed.getD e.on false = true) → Inv listed a w → o.guard = none ∧ o.wp P a w (Inv (listed.setIfInBounds j true)) Q) ∧
   (∀ listed a w, (∀ j, j < ops.size → listed.getD j false = true) → Inv listed a w → R a w) ∧ Inv (Array.replicate ops.size false) a w := by
 simp only [F6, Bool.and_eq_true] at hb
 obtain ⟨⟨b1, b2⟩, b3⟩ := hb
 obtain ⟨hn, hD⟩ := c9 b1
 have hB : ∀ (k : Nat) (o : Oper), ops.toList[k]? = some o → ∀ e ∈ o.after, Region.binds .any e = true → e.on < k := fun k o hk e he' hb => by
  have := o8 b2 k o hk e he' hb
  omega
 have hdep := r00 b3
 obtain ⟨L0, X, E, hd, sp⟩ := N00 (ops := ops.toList) hD (fun j o t i oi h1 h2 h3 h4 => by
  obtain ⟨e, he', hb, rfl⟩ := hdep o (List.mem_of_getElem? h1) t h2 i oi h3 h4
  exact hB j o h1 e he' hb) ops.toList 0 [] [] [] (fun j => by simp) ⟨fun t f h => (by cases h), fun i oi d hi => by omega, fun j o hj => by omega, fun p hp => (by cases hp), by simp, fun p hp => (by cases hp)⟩ he
 obtain ⟨n, fr, bx, ow⟩ := st
 have deps : ∀ (listed : Array Bool) (j : Nat) (o : Oper), ops[j]? = some o → (∀ e ∈ o.after, Region.binds .any e = true → listed.getD e.on false = true) → ∀ t, Operand.tmp t ∈ o.op.operands → ∀ (i : Nat) (oi : Oper), ops.toList[i]? = some oi → oi.dst = some t → listed.getD i false = true := fun listed j o h2 h3 t ht i oi hi1 hi2 => by
  obtain ⟨e, he1, he2, rfl⟩ := hdep o (List.mem_of_getElem? (i := j) (by simpa using h2)) t ht i oi hi1 hi2
  exact h3 e he1 he2
 have init : ∀ (c : Nat) (F : List (Nat × Oper)) (EV : List (Nat × Oper) → List (Nat × Oper) → List (Nat × J2) → St → Hp → Prop), (∀ x ∈ F, x ∈ E) → EV [] F L0 ⟨n, fr, bx, ow⟩ h → o0d P h0 w0 ops n fr bx ow h c F L0 EV (Array.replicate ops.size false) a w := fun c F EV hFE hev => by
  refine ⟨[], F, L0, bx, ow, h, be, oe, H, rfl, fun _ => ⟨rfl, fun _ _ h => h, .inl rfl⟩, fun j o h1 h2 => by (simp [Array.getElem?_replicate] at h2; split at h2 <;> cases h2), fun p hp => ?_, fun p hp => (by cases hp), .inl rfl, s.refr (fr := H1 ops.toList fr) fun t => ?_, hev, fun t => ⟨id, fun av => id⟩, fun j o d h1 h2 h3 => ?_⟩
  ·have := (sp.eff p (hFE p hp)).1
   have h2 : p.1 < ops.size := by simpa using this
   simp [h2]
  ·by_cases hx : ∃ o ∈ ops.toList, o.dst = some t
   ·obtain ⟨o, h1, h2⟩ := hx
    rw [l7 h1 h2]
    trivial
   ·rw [j6 fun o ho hd => hx ⟨o, ho, hd⟩]
    exact s.fr t
  ·simp [Array.getElem?_replicate] at h3
   split at h3 <;> cases h3
 rcases hd with ⟨c, ⟨hch, hea⟩, hev⟩ | ⟨k, p, hd⟩
 ·refine ⟨p0c P h0 w0 ops n fr bx ow h c E L0 K, hB, (fun listed a w j o hsz h1 h2 h3 hi => Y0f hD hn sp hch hea h1 h2 hsz (deps listed j o h2 h3) h3 hi), (fun listed a w hl hi => Z0f sp (fun x hx => hx) hQ hl hi), init c E _ (fun x hx => hx) hev⟩
 ·split at hd
  ·rename_i f E' hk
   obtain ⟨⟨hX, hch, hfl⟩, hev⟩ := hd
   obtain rfl := p0d hX
   obtain ⟨A, B, rfl, rfl⟩ := I06 hk
   obtain ⟨q, hq1, hq2⟩ := Q07 hfl
   have hfE : f ∈ A ++ f :: B := by simp
   have hfe := sp.eff f hfE
   have hfo : ops[f.1]? = some f.2 := by simpa using hfe.2.1
   have hfs : f.1 < ops.size := by simpa using hfe.1
   have mem' : ∀ x ∈ A ++ B, x ∈ A ++ f :: B := fun x hx => by
    rcases List.mem_append.1 hx with hx | hx
    ·exact List.mem_append_left _ hx
    ·exact List.mem_append_right _ (List.mem_cons_of_mem _ hx)
   have nd : ((A ++ B).map fun p => p.1).Nodup := by
    have := sp.nd
    rw [List.map_append, List.nodup_append] at this ⊢
    obtain ⟨n1, n2, n3⟩ := this
    rw [List.map_cons, List.nodup_cons] at n2
    exact ⟨n1, n2.2, fun x hx y hy => n3 x hx y (by rw [List.map_cons]; exact List.mem_cons_of_mem _ hy)⟩
   have perm : ∀ d1 r1, A ++ B = d1 ++ r1 → ((d1 ++ f :: r1).map fun p => p.1).Nodup := fun d1 r1 e => by
    have h1 : (A ++ f :: B).Perm (d1 ++ f :: r1) := List.perm_middle.trans ((List.Perm.cons f (by rw [e])).trans List.perm_middle.symm)
    exact (h1.map _).nodup sp.nd
   have memF : ∀ d1 r1, A ++ B = d1 ++ r1 → ∀ x, x ∈ d1 ++ f :: r1 ↔ x ∈ A ++ f :: B := fun d1 r1 e x => by
    have h1 : x ∈ A ++ B ↔ x ∈ d1 ++ r1 := by rw [e]
    simp only [List.mem_append, List.mem_cons] at h1 ⊢
    constructor
    ·rintro (h | h | h)
     ·rcases h1.2 (.inl h) with h | h
      ·exact .inl h
      ·exact .inr (.inr h)
     ·exact .inr (.inl h)
     ·rcases h1.2 (.inr h) with h | h
      ·exact .inl h
      ·exact .inr (.inr h)
    ·rintro (h | h | h)
     ·rcases h1.1 (.inl h) with h | h
      ·exact .inl h
      ·exact .inr (.inr h)
     ·exact .inr (.inl h)
     ·rcases h1.1 (.inr h) with h | h
      ·exact .inl h
      ·exact .inr (.inr h)
   let rd := N6 L0 ⟨n, fr, bx, ow⟩ ops.toList
   let EV1 : List (Nat × Oper) → List (Nat × Oper) → List (Nat × J2) → St → Hp → Prop := fun dn r L st h => m0e f rd ops.size P (p - dn.length) r L st h K
   refine ⟨fun listed a w => (listed.getD f.1 true = false ∧ o0d P h0 w0 ops n fr bx ow h 0 (A ++ B) L0 EV1 listed a w) ∨
    (listed.getD f.1 false = true ∧ ∃ d1 r1, A ++ B = d1 ++ r1 ∧ (∀ p ∈ d1, listed.getD p.1 false = true) ∧ p0c P h0 w0 ops n fr bx ow h 0 (d1 ++ f :: r1) L0 K listed a w), hB, (fun listed a w j o hsz h1 h2 h3 hi => ?_), (fun listed a w hl hi => ?_), .inl ⟨by simp [hfs], init 0 (A ++ B) EV1 mem' hev⟩⟩
   ·have hjs : j < listed.size := by rw [hsz]; exact (Array.getElem?_eq_some_iff.1 h2).1
    have listedF : ∀ {x : Nat}, listed.getD x false = true → (listed.setIfInBounds j true).getD x false = true := fun h => getD_set_true h
    rcases hi with ⟨hf, hi⟩ | ⟨hf, d1, r1, hE, hd1, hi⟩
    ·have hff := e06 hf
     by_cases hjf : j = f.1
     ·
      subst hjf
      rw [hfo] at h2; cases h2
      obtain ⟨dn, r, L, bx', ow', h', be', oe', H', hE, y0, y1, y2, y3, y4, y5, y6, y7, y8⟩ := hi
      have hi2 : p0c P h0 w0 ops n fr bx ow h 0 (dn ++ f :: r) L0 K listed a w :=
       ⟨dn, f :: r, L, bx', ow', h', be', oe', H', rfl, y0, y1, fun p hp => by
        rcases List.mem_cons.1 hp with rfl | hp
        ·exact hf
        ·exact y2 p hp, y3, y4, y5, by show evC _ _ _ (0 - dn.length) _ _ _ _ _; rw [Nat.zero_sub]; exact q0d y6, y7, y8⟩
      have := w0b (F := dn ++ f :: r) (j := f.1) (o := f.2) (Q := Q) hD hn sp (fun x hx => (memF dn r hE x).1 hx) (fun hx => (memF dn r hE _).2 hx) (perm dn r hE) (fun dn' r' e g1 g2 g3 => by
       obtain ⟨C, e1, e2⟩ := m05 (listed := listed) e y3 g2
       cases C with
       | nil => exact ⟨r, by simpa using e2.symm⟩
       | cons z C =>
        exfalso
        simp only [List.cons_append, List.cons.injEq] at e2
        have := g1 f (by rw [e1, e2.1]; simp)
        rw [hff] at this; cases this) (fun dn r' L bx ow h hE hdn he => J09 he) (l05 _) h1 hfo hsz (deps listed f.1 f.2 hfo h3) h3 hi2
      exact ⟨this.1, Oper.wp_mono (fun a' w' hx => .inr ⟨by simp [hjs], dn, r, hE, fun p hp => listedF (y3 p hp), hx⟩) this.2⟩
     ·have hjo : (j, o) ≠ f := fun e => hjf (by rw [← e])
      have hcl : ∀ (j : Nat) (o : Oper), ops[j]? = some o → listed.getD j false = true → ∀ e ∈ o.after, Region.binds .any e = true → listed.getD e.on false = true := by
       obtain ⟨_, _, _, _, _, _, _, _, _, _, _, y1, _⟩ := hi
       exact y1
      have := w0b (F := A ++ B) (Q := Q) (EV := EV1) hD hn sp mem' (fun hx => by
       rcases List.mem_append.1 hx with hx | hx
       ·exact List.mem_append_left _ hx
       ·rcases List.mem_cons.1 hx with hx | hx
        ·exact absurd hx hjo
        ·exact List.mem_append_right _ hx) nd (fun dn r hE hdn hr hjr => k05 h3 (fun dn r hE => I8 dn r (by rw [← hE]; exact hch)) hE hr hjr) (fun dn r' L bx2 ow2 h hE hdn he => by
       have hlt : dn.length < p := by
        rcases Nat.lt_or_ge dn.length p with g | g
        ·exact g
        ·exfalso
         have hfl' : listed.getD f.1 false = true := by
          rw [hE] at hq1
          obtain ⟨e, he1, he2, he3⟩ := P4 hq2
          rcases Nat.lt_or_ge p dn.length with g2 | g2
          ·rw [List.getElem?_append_left g2] at hq1
           have hqd : q ∈ dn := List.mem_of_getElem? hq1
           have := (sp.eff q (mem' q (by rw [hE]; exact List.mem_append_left _ hqd))).2.1
           have := hcl q.1 q.2 (by simpa using this) (hdn q hqd) e he1 he2
           rwa [he3] at this
          ·have e1 : p = dn.length := by omega
           rw [e1, List.getElem?_append_right (Nat.le_refl _)] at hq1
           simp at hq1
           subst hq1
           have := h3 e he1 he2
           rwa [he3] at this
         rw [hff] at hfl'; cases hfl'
       obtain ⟨p', hp'⟩ : ∃ p', p - dn.length = p' + 1 := ⟨p - dn.length - 1, by omega⟩
       have e1 : p - (dn ++ [(j, o)]).length = p' := by simp; omega
       simp only [EV1, hp', e1, Nat.zero_sub] at he ⊢
       exact he.2) (l05 _) h1 h2 hsz (deps listed j o h2 h3) h3 hi
      exact ⟨this.1, Oper.wp_mono (fun a' w' hx => .inl ⟨by rw [getD_set_ne true hjf]; exact hf, hx⟩) this.2⟩
    ·have hjf : j ≠ f.1 := fun e => by
      subst e
      have := e06 h1
      rw [hf] at this; cases this
     have := w0b (F := d1 ++ f :: r1) (Q := Q) hD hn sp (fun x hx => (memF d1 r1 hE x).1 hx) (fun hx => (memF d1 r1 hE _).2 hx) (perm d1 r1 hE) (fun dn' r' e g1 g2 g3 => by
      obtain ⟨C, e1, e2⟩ := m05 (listed := listed) (A := d1 ++ [f]) (B := r1) (by simpa using e) (fun p hp => by
       rcases List.mem_append.1 hp with hp | hp
       ·exact hd1 p hp
       ·simp at hp; rw [hp]; exact hf) g2
      exact k05 (E := r') (dn := []) h3 (fun dn r'' e3 => I8 dn r'' (by rw [← e3]; exact I8 (d1 ++ C) r' (by rw [List.append_assoc, ← e2, ← hE]; exact hch))) rfl g2 g3) (fun dn r' L bx ow h hE hdn he => J09 he) (l05 _) h1 h2 hsz (deps listed j o h2 h3) h3 hi
     exact ⟨this.1, Oper.wp_mono (fun a' w' hx => .inr ⟨listedF hf, d1, r1, hE, fun p hp => listedF (hd1 p hp), hx⟩) this.2⟩
   ·rcases hi with ⟨hf, hi⟩ | ⟨hf, d1, r1, hE, hd1, hi⟩
    ·have := hl f.1 hfs
     rw [e06 hf] at this; cases this
    ·exact Z0f sp (fun x hx => (memF d1 r1 hE x).1 hx) hQ hl hi
  ·exact hd.elim
theorem q0c {ops : Array Oper} {st : St} {K : St → Hp → Prop} {Q : Exit → Act → World → Prop} (s : Sim P h0 w0 be oe H st h a w) (hb : F6 st.n ops.toList = true)
  (he : a9 P st h ops.toList 0 [] [] [] fun L X E => evD (N6 L st ops.toList) ops.size P X E L st h K)
  (hQ : ∀ a w st h be oe H, K st h → Sim P h0 w0 be oe H st h a w → Q .normal a w) : wpAny P .any ops Q ops.size (Array.replicate ops.size false) a w := by
 obtain ⟨Inv, h1, h2, h3, h4⟩ := K09 (Q := Q) (R := fun a w => Q .normal a w) s hb he hQ
 exact v0f (Inv := Inv) h1 h2 h3 ops.size _ a w (by simp) (by simp [List.count_replicate]) h4
theorem y04 {L l : Array Bool} {x : Bool} (h : L.toList = l.toList ++ [x]) {j : Nat} (hj : j < l.size) (b : Bool) : L.getD j b = l.getD j b := by
 rw [Array.getD_eq_getD_getElem?, Array.getD_eq_getD_getElem?, ← Array.getElem?_toList, ← Array.getElem?_toList, h, List.getElem?_append_left (by simpa using hj)]
theorem r0c {L l : Array Bool} {x : Bool} (h : L.toList = l.toList ++ [x]) (b : Bool) : L.getD l.size b = x := by
 rw [Array.getD_eq_getD_getElem?, ← Array.getElem?_toList, h, List.getElem?_append_right (by simp)]; simp
theorem a0g {ops ops0 : Array Oper} {o : Oper} {Q : Exit → Act → World → Prop} {Inv : Array Bool → Act → World → Prop} {a : Act} {w : World} (hops : ops.toList = ops0.toList ++ [o])
  (hBf : ∀ (k : Nat) (o : Oper), ops.toList[k]? = some o → ∀ e ∈ o.after, Region.binds .any e = true → e.on < k)
  (hg : o.guard = none) (hl : ∀ k, k < ops0.size → ∃ e ∈ o.after, Region.binds .any e = true ∧ e.on = k)
  (hstep : ∀ listed a w j o, listed.size = ops0.size → listed.getD j true = false → ops0[j]? = some o → (∀ e ∈ o.after, Region.binds .any e = true → listed.getD e.on false = true) → Inv listed a w → o.guard = none ∧ o.wp P a w (Inv (listed.setIfInBounds j true)) Q)
  (hQ : ∀ listed a w, (∀ j, j < ops0.size → listed.getD j false = true) → Inv listed a w → o.wp P a w (fun a w => Q .normal a w) Q)
  (h0 : Inv (Array.replicate ops0.size false) a w) : wpAny P .any ops Q ops.size (Array.replicate ops.size false) a w := by
 have hsize : ops.size = ops0.size + 1 := by
  have := congrArg List.length hops
  simpa using this
 refine v0f (Inv := fun L a w => (∃ l : Array Bool, l.size = ops0.size ∧ L.toList = l.toList ++ [false] ∧ Inv l a w) ∨ ((∀ j, j < ops.size → L.getD j false = true) ∧ Q .normal a w)) hBf (fun L a w j o' hsz h1 h2 h3 hi => ?_) (fun L a w hall hi => ?_) ops.size _ a w (by simp) (by simp [List.count_replicate]) (.inl ⟨_, by simp, by simp [hsize, List.replicate_succ'], h0⟩)
 ·rcases hi with ⟨l, hls, hL, hi⟩ | ⟨hall, _⟩
  ·have hjlt : j < ops.size := (Array.getElem?_eq_some_iff.1 h2).1
   by_cases hj : j < ops0.size
   ·have h2' : ops0[j]? = some o' := by
     rw [← Array.getElem?_toList] at h2 ⊢
     rw [hops, List.getElem?_append_left (by simpa using hj)] at h2; exact h2
    obtain ⟨g1, g2⟩ := hstep l a w j o' hls (by rw [← y04 hL (by omega)]; exact h1) h2' (fun e he hb => by
     have := hBf j o' (by rw [Array.getElem?_toList]; exact h2) e he hb
     rw [← y04 hL (by omega)]; exact h3 e he hb) hi
    refine ⟨g1, Oper.wp_mono (fun a' w' hi' => .inl ⟨_, by simpa using hls, ?_, hi'⟩) g2⟩
    rw [Array.toList_setIfInBounds, hL, List.set_append_left _ _ (by simpa [hls] using hj), Array.toList_setIfInBounds]
   ·have hje : j = ops0.size := by omega
    have ho : o' = o := by
     rw [← Array.getElem?_toList, hops, List.getElem?_append_right (by simp; omega)] at h2
     rw [hje] at h2; simp at h2; exact h2.symm
    subst ho
    have hall : ∀ k, k < ops0.size → l.getD k false = true := fun k hk => by
     obtain ⟨e, he, hb, rfl⟩ := hl k hk
     rw [← y04 hL (by omega)]; exact h3 e he hb
    refine ⟨hg, Oper.wp_mono (fun a' w' hq => .inr ⟨fun k hk => ?_, hq⟩) (hQ l a w hall hi)⟩
    by_cases hkj : k = j
    ·rw [hkj]; simp [Array.getD_eq_getD_getElem?, hsz, hjlt]
    ·have hk0 : k < ops0.size := by omega
     have := hall k hk0
     rw [← y04 hL (by omega)] at this
     rw [Array.getD_eq_getD_getElem?, Array.getElem?_setIfInBounds_ne (by omega), ← Array.getD_eq_getD_getElem?]; exact this
  ·have hjlt : j < ops.size := (Array.getElem?_eq_some_iff.1 h2).1
   have e1 := hall j hjlt
   rw [Array.getD_eq_getD_getElem?] at e1 h1
   rw [Array.getElem?_eq_getElem (by omega)] at e1 h1
   simp at e1 h1
   rw [e1] at h1; cases h1
 ·rcases hi with ⟨l, hls, hL, hi⟩ | ⟨_, hq⟩
  ·have := hall ops0.size (by omega)
   rw [← hls, r0c hL] at this; cases this
  ·exact hq
theorem Q05 {o : Oper} : ∀ (ops : List Oper), r06 ops = some o → ops = W6 ops ++ [o]
 | [], h => by simp [r06] at h
 | [x], h => by simp only [r06, Option.some.injEq] at h; rw [h]; simp [W6]
 | x :: y :: r, h => by
  simp only [r06] at h
  have := Q05 (y :: r) (by simp only [r06]; exact h)
  rw [show W6 (x :: y :: r) = x :: W6 (y :: r) by simp only [W6], List.cons_append, ← this]
theorem s0c {ops : List Oper} {o : Oper} (h : X0c ops = some o) : ops = W6 ops ++ [o] ∧ o.guard = none ∧ m00 (W6 ops).length (W6 ops).length o = true := by
 unfold X0c at h
 split at h
 ·rename_i o' ho'
  split at h
  ·rename_i d hg hd
   split at h
   ·rename_i hb
    cases h
    simp only [Bool.and_eq_true] at hb
    exact ⟨Q05 _ ho', hg, hb.2⟩
   ·cases h
  ·cases h
 ·cases h
end
end Go.H
namespace Go.H
set_option linter.unusedVariables false
set_option linter.unusedSimpArgs false
theorem e00 : ∀ {L : FL} {t : Nat} {x : List (Nat × Bool) × J2}, V8 L t = some x → (t, x) ∈ L
 | [], t, x, h => by cases h
 | (d, y) :: r, t, x, h => by
  simp only [V8] at h
  split at h
  ·rename_i hb
   cases h
   rw [Nat.eq_of_beq_eq_true hb]
   exact List.mem_cons_self ..
  ·exact List.mem_cons_of_mem _ (e00 h)
theorem K03 : ∀ {L : FL} {t : Nat} {x : List (Nat × Bool) × J2}, (t, x) ∈ L → ∃ y, V8 L t = some y
 | (d, y) :: r, t, x, h => by
  simp only [V8]
  split
  ·exact ⟨_, rfl⟩
  ·rename_i hb
   rcases List.mem_cons.1 h with e | h
   ·cases e; exact absurd rfl (Nat.ne_of_beq_eq_false hb)
   ·exact K03 h
theorem t0c {bs : List BE} {x : BE} (hx : ∀ y ∈ bs, y.j ≠ x.j) {j : Nat} {b : BE} (h : V7 bs j = some b) : V7 (x :: bs) j = some b := by
 simp only [V7]
 split
 ·rename_i hb
  obtain ⟨h1, h2⟩ := b9 h
  exact absurd (h2.trans (Nat.eq_of_beq_eq_true hb).symm) (hx b h1)
 ·exact h
abbrev Asg := Nat → List (Nat × Bool) × Bool × J2
structure w07 (ops : List Oper) (A : Asg) (L : FL) (bs : List BE) (k : Nat) : Prop where
 p1 : ∀ t x, (t, x) ∈ L → ∃ i oi, i < k ∧ ops[i]? = some oi ∧ oi.dst = some t ∧ (A i).1 = x.1 ∧ (A i).2.2 = x.2
 p2 : ∀ i oi d, i < k → ops[i]? = some oi → oi.dst = some d → ∃ x, V8 L d = some x
 p3 : ∀ i, i < k → i < ops.length → cB bs (A i).1 = some (A i).2.1
 p4 : ∀ x ∈ bs, x.j < k ∧ (∃ o, ops[x.j]? = some o ∧ o.dst = some x.d) ∧ (A x.j).1 = x.ch ∧ (A x.j).2.2 = .pu (.val (.bool x.e))
structure j03 (bs bs' : List BE) : Prop where
 c : ∀ ch c, cB bs ch = some c → cB bs' ch = some c
 e : ∀ j b, V7 bs j = some b → V7 bs' j = some b
theorem j03.refl (bs : List BE) : j03 bs bs := ⟨fun _ _ h => h, fun _ _ h => h⟩
theorem j03.trans {a b c : List BE} (h1 : j03 a b) (h2 : j03 b c) : j03 a c := ⟨fun ch x h => h2.c ch x (h1.c ch x h), fun j b h => h2.e j b (h1.e j b h)⟩
def OpU (P : Program) (st : St) (h : Hp) (L : FL) (bs : List BE) (o : Oper) (ch : List (Nat × Bool)) (c : Bool) : J2 → Prop
 | .pu av => w03 P L bs ch o st = some av ∨ ∀ h', Sub h h' → imp ch c (b02 L st h' ch o.op.operands.toList [] fun fr => d5 P o { st with fr := fr } h' (n0b av { st with fr := fr } h'))
 | .ef F => (∀ v h1 h2, Sub h1 h2 → F v h1 → F v h2) ∧ ∀ h', Sub h h' → imp ch c (b02 L st h' ch o.op.operands.toList [] fun fr => s09 P o { st with fr := fr } h' (Y0c { st with fr := fr } h' F))
theorem r0d {d : Option Tmp} {ch : List (Nat × Bool)} {f : J2} {L : FL} {p : Nat × List (Nat × Bool) × J2} (h : p ∈ E08 d ch f L) : (∃ s, d = some s ∧ p = (s, ch, f)) ∨ p ∈ L := by
 cases d with
 | none => exact .inr h
 | some s =>
  rcases List.mem_cons.1 h with h | h
  ·exact .inl ⟨s, rfl, h⟩
  ·exact .inr h
theorem s0d {i : Nat} {d : Option Tmp} {ch : List (Nat × Bool)} {av : AV} {bs : List BE} {x : BE} (h : x ∈ F08 i d ch av bs) : (∃ s e, d = some s ∧ av = .val (.bool e) ∧ x = ⟨i, s, e, ch⟩) ∨ x ∈ bs := by
 unfold F08 at h
 split at h
 ·split at h
  ·rcases List.mem_cons.1 h with h | h
   ·exact .inl ⟨_, _, rfl, rfl, h⟩
   ·exact .inr h
  ·exact .inr h
 ·exact .inr h
theorem t0d {i : Nat} {d : Option Tmp} {ch : List (Nat × Bool)} {av : AV} {bs : List BE} (hx : ∀ y ∈ bs, y.j < i) : j03 bs (F08 i d ch av bs) := by
 unfold F08
 split
 ·split
  ·refine ⟨fun ch' c h => N0a (fun y hy => ?_) h, fun j b h => t0c (fun y hy => ?_) h⟩ <;> (have := hx y hy; simp only; omega)
  ·exact j03.refl _
 ·exact j03.refl _
theorem w0e (P : Program) (i : Nat) (L : FL) (bs : List BE) (st : St) (h : Hp) (K : St → Hp → Prop) : evU P [] i L bs st h K = ∀ h', Sub h h' → s07 h' L st.fr fun fr => K { st with fr := fr } h' := by
 obtain ⟨n, fr, bx, ow⟩ := st; rfl
theorem u0d (P : Program) (o : Oper) (l : List Oper) (i : Nat) (L : FL) (bs : List BE) (st : St) (h : Hp) (K : St → Hp → Prop) (he : evU P (o :: l) i L bs st h K) :
    ∃ ch c f, B6 bs o.guard = some ch ∧ cB bs ch = some c ∧ (OpU P st h L bs o ch c f ∧ ∀ av, w03 P L bs ch o st = some av → f = .pu av) ∧ ∃ bs', bs' = (match f with
      | .pu av => F08 i o.dst ch av bs
      | .ef _ => bs) ∧ evU P l (i + 1) (E08 o.dst ch f L) bs' st h K := by
  obtain ⟨n, fr, bx, ow⟩ := st
  change (match B6 bs o.guard with
        | some ch => match cB bs ch with
          | some c => match w03 P L bs ch o ⟨n, fr, bx, ow⟩ with
            | some av => p7 av fun av => evU P l (i + 1) (E08 o.dst ch (.pu av) L) (F08 i o.dst ch av bs) ⟨n, fr, bx, ow⟩ h K
            | none => (∃ av, (∀ h', Sub h h' → imp ch c (b02 L ⟨n, fr, bx, ow⟩ h' ch o.op.operands.toList [] fun fr => d5 P o ⟨n, fr, bx, ow⟩ h' (n0b av ⟨n, fr, bx, ow⟩ h'))) ∧
                  p7 av fun av => evU P l (i + 1) (E08 o.dst ch (.pu av) L) (F08 i o.dst ch av bs) ⟨n, fr, bx, ow⟩ h K) ∨
                (∃ F : Value → Hp → Prop, (∀ v h1 h2, Sub h1 h2 → F v h1 → F v h2) ∧
                  (∀ h', Sub h h' → imp ch c (b02 L ⟨n, fr, bx, ow⟩ h' ch o.op.operands.toList [] fun fr => s09 P o ⟨n, fr, bx, ow⟩ h' (Y0c ⟨n, fr, bx, ow⟩ h' F))) ∧
                  evU P l (i + 1) (E08 o.dst ch (.ef F) L) bs ⟨n, fr, bx, ow⟩ h K)
          | none => False
        | none => False) at he
  split at he
  · rename_i ch hch
    split at he
    · rename_i c hc
      split at he
      · rename_i av hav
        rw [P7] at he
        exact ⟨ch, c, .pu av, hch, hc, ⟨.inl hav, fun av' h' => by rw [hav] at h'; cases h'; rfl⟩, _, rfl, he⟩
      · rename_i hno
        have nop : ∀ (f : J2) av, w03 P L bs ch o ⟨n, fr, bx, ow⟩ = some av → f = .pu av := fun f av h' => by rw [hno] at h'; cases h'
        rcases he with ⟨av, h1, h2⟩ | ⟨F, h1, h2, h3⟩
        · rw [P7] at h2
          exact ⟨ch, c, .pu av, hch, hc, ⟨.inr h1, nop _⟩, _, rfl, h2⟩
        · exact ⟨ch, c, .ef F, hch, hc, ⟨⟨h1, h2⟩, nop _⟩, _, rfl, h3⟩
    · exact he.elim
  · exact he.elim
theorem J06 {P : Program} {ops : List Oper} {st : St} {h : Hp} {K : St → Hp → Prop} (hD : ∀ (i j : Nat) (oi oj : Oper) (d : Nat), ops[i]? = some oi → ops[j]? = some oj → oi.dst = some d → oj.dst = some d → i = j) :
  ∀ (l : List Oper) (k : Nat) (L : FL) (bs : List BE) (A0 : Asg), (∀ j, l[j]? = ops[k + j]?) → k + l.length = ops.length → w07 ops A0 L bs k → evU P l k L bs st h K →
   ∃ (A : Asg) (L' : FL) (Bf : List BE), (∀ i, i < k → A i = A0 i) ∧ j03 bs Bf ∧ w07 ops A L' Bf ops.length ∧
    (∀ j o, k ≤ j → ops[j]? = some o → ∃ Lj bj, B6 Bf o.guard = some (A j).1 ∧ w07 ops A Lj bj j ∧ j03 bj Bf ∧ cB bj (A j).1 = some (A j).2.1 ∧ (OpU P st h Lj bj o (A j).1 (A j).2.1 (A j).2.2 ∧ ∀ av, w03 P Lj bj (A j).1 o st = some av → (A j).2.2 = .pu av)) ∧
    (∀ h', Sub h h' → s07 h' L' st.fr fun fr => K { st with fr := fr } h')
 | [], k, L, bs, A0, hl, hk, hp, he => by
  have hk' : k = ops.length := by simpa using hk
  subst hk'
  refine ⟨A0, L, bs, fun _ _ => rfl, j03.refl _, hp, fun j o hj ho => ?_, by rw [w0e] at he; exact he⟩
  have := (List.getElem?_eq_some_iff.1 ho).1
  omega
 | o :: l, k, L, bs, A0, hl, hk, hp, he => by
  have ho : ops[k]? = some o := by simpa using (hl 0).symm
  have hl' : ∀ j, l[j]? = ops[k + 1 + j]? := fun j => by have := hl (j + 1); simpa [Nat.add_assoc, Nat.add_comm 1 j] using this
  have hk' : k + 1 + l.length = ops.length := by simp only [List.length_cons] at hk; omega
  obtain ⟨ch, c, f, hch, hc, hop, bs', hbs, he'⟩ := u0d P o l k L bs st h K he
  let A1 : Asg := fun i => if i = k then (ch, c, f) else A0 i
  have a1k : A1 k = (ch, c, f) := by simp [A1]
  have a1 : ∀ i, i < k → A1 i = A0 i := fun i hi => by simp [A1, Nat.ne_of_lt hi]
  have hbk : ∀ y ∈ bs, y.j < k := fun y hy => (hp.p4 y hy).1
  have hext : j03 bs bs' := by
   subst hbs
   cases f with
   | pu av => exact t0d hbk
   | ef F => exact j03.refl _
  have hp1 : w07 ops A1 (E08 o.dst ch f L) bs' (k + 1) := by
   refine ⟨fun t x hx => ?_, fun i oi d hi h1 h2 => ?_, fun i hi hlt => ?_, fun x hx => ?_⟩
   ·rcases r0d hx with ⟨s, hs, e⟩ | hx
    ·cases e
     exact ⟨k, o, Nat.lt_succ_self _, ho, hs, by rw [a1k], by rw [a1k]⟩
    ·obtain ⟨i, oi, g1, g2, g3, g4, g5⟩ := hp.p1 t x hx
     exact ⟨i, oi, Nat.lt_succ_of_lt g1, g2, g3, by rw [a1 i g1]; exact g4, by rw [a1 i g1]; exact g5⟩
   ·rcases Nat.lt_or_ge i k with hik | hik
    ·obtain ⟨x, hx⟩ := hp.p2 i oi d hik h1 h2
     cases hd : o.dst with
     | none => exact ⟨x, hx⟩
     | some s => exact K03 (x := x) (List.mem_cons_of_mem _ (e00 hx))
    ·have : i = k := by omega
     subst this
     rw [ho] at h1; cases h1
     rw [h2]
     exact K03 (List.mem_cons_self ..)
   ·rcases Nat.lt_or_ge i k with hik | hik
    ·rw [a1 i hik]; exact hext.c _ _ (hp.p3 i hik hlt)
    ·have : i = k := by omega
     subst this
     rw [a1k]; exact hext.c _ _ hc
   ·subst hbs
    cases f with
    | ef F =>
     obtain ⟨g1, g2, g3, g4⟩ := hp.p4 x hx
     exact ⟨Nat.lt_succ_of_lt g1, g2, by rw [a1 _ g1]; exact g3, by rw [a1 _ g1]; exact g4⟩
    | pu av =>
     rcases s0d hx with ⟨s, e, hs, hav, rfl⟩ | hx
     ·refine ⟨Nat.lt_succ_self _, ⟨o, ho, hs⟩, by rw [a1k], ?_⟩
      rw [a1k, hav]
     ·obtain ⟨g1, g2, g3, g4⟩ := hp.p4 x hx
      exact ⟨Nat.lt_succ_of_lt g1, g2, by rw [a1 _ g1]; exact g3, by rw [a1 _ g1]; exact g4⟩
  obtain ⟨A, L', Bf, b1, b2, b3, b4, b5⟩ := J06 hD l (k + 1) _ bs' A1 hl' hk' hp1 he'
  have bk : A k = (ch, c, f) := by rw [b1 k (Nat.lt_succ_self _), a1k]
  have bi : ∀ i, i < k → A i = A0 i := fun i hi => by rw [b1 i (Nat.lt_succ_of_lt hi), a1 i hi]
  refine ⟨A, L', Bf, bi, hext.trans b2, b3, fun j oj hj hoj => ?_, b5⟩
  rcases Nat.lt_or_ge k j with hkj | hkj
  ·exact b4 j oj hkj hoj
  ·have : j = k := by omega
   subst this
   rw [ho] at hoj; cases hoj
   refine ⟨L, bs, ?_, ⟨fun t x hx => ?_, fun i oi d hi h1 h2 => hp.p2 i oi d hi h1 h2, fun i hi hlt => ?_, fun x hx => ?_⟩, hext.trans b2, by rw [bk]; exact hc, by rw [bk]; exact hop⟩
   ·rw [bk]
    cases hg : o.guard with
    | none => rw [hg] at hch; exact hch
    | some p =>
     obtain ⟨jj, w⟩ := p
     rw [hg] at hch
     simp only [B6] at hch ⊢
     split at hch
     ·rename_i b hb
      rw [(hext.trans b2).e _ _ hb]
      exact hch
     ·cases hch
   ·obtain ⟨i, oi, g1, g2, g3, g4, g5⟩ := hp.p1 t x hx
    exact ⟨i, oi, g1, g2, g3, by rw [bi i g1]; exact g4, by rw [bi i g1]; exact g5⟩
   ·rw [bi i hi]; exact hp.p3 i hi hlt
   ·obtain ⟨g1, g2, g3, g4⟩ := hp.p4 x hx
    exact ⟨g1, g2, by rw [bi _ g1]; exact g3, by rw [bi _ g1]; exact g4⟩
section
variable {P : Program} {h0 : Hp} {w0 : World} {be : Nat → Nat} {oe : Nat → Value} {H : Hp} {st : St} {h : Hp} {a : Act} {w : World} {o : Oper} {K : AV → St → Hp → Prop} {Q : Exit → Act → World → Prop}
theorem L09 (s : Sim P h0 w0 be oe H st h a w) {t n : Nat} {ps : Array (Nat × Operand)} (ho : o.op = .buildSlice t n ps) (hps : ps.toList = []) (he : Z0c P t n st h K) : o.wp P a w (Nx P h0 w0 st be oe K a o.dst) Q := by
 unfold Z0c at he
 split at he
 rotate_left
 ·exact he.elim
 rename_i e hte
 split at he
 rotate_left
 ·exact he.elim
 rename_i sz hs hn
 have hn0 := Nat.eq_of_beq_eq_true hn
 subst hn0
 have hps0 : ps = #[] := by apply Array.ext'; simpa using hps
 subst hps0
 have hw : wpS P (execOp a.eval o) h (fun nx h' => ∃ b, h b = none ∧ nx = .value (.slice (some ⟨b, 0, none⟩) 0 0) ∧ h' = h.set b (.cells #[] e (0, 0))) := by
  unfold execOp; rw [ho]
  refine C4 _ _ _ ?_
  simp only [Instr.buildSlice, P0, Y2 (P6 hte), E7 hs, Nat.zero_mul, U0]
  rw [if_neg (by omega)]
  simp only [U0, if_true, Instr.fill, Array.map_empty, P0, newRow, newObj, wpS]
  exact fun b hb => ⟨b, hb, rfl, by rw [show Array.range 0 = #[] from rfl, Array.map_empty]⟩
 obtain ⟨nx, h', w', hr, ⟨b, hb, rfl, rfl⟩, hmv⟩ := D6 _ _ _ (p04 s) hw
 obtain ⟨H', s'⟩ := s.moved hmv
 exact V4 hr ⟨_, _, _, _, _, _, _, he b hb, rfl, s', rfl, K3.refl _ _ _⟩
theorem M09 (s : Sim P h0 w0 be oe H st h a w) {t : TypeId} {p q : Operand} {as : Array Operand} {ts : Array TypeId} (ho : o.op = .call { callee := .builtin .append, args := as, argTypes := ts })
  (ha : as = #[p, q]) (hts : ts = #[t, t]) (he : a0d P t p q st h K) : o.wp P a w (Nx P h0 w0 st be oe K a o.dst) Q := by
 unfold a0d at he
 split at he
 rotate_left
 ·exact he.elim
 rename_i e hte
 split at he
 rotate_left
 ·exact he.elim
 rename_i sz by_ z hs hb hz
 split at he
 rotate_left
 ·exact he.elim
 rename_i hzl
 obtain ⟨i, hi, i1, i2, i3⟩ := I03 hs hb hz
 have ht := P6 hte
 have hzs : z.cells.size = i.size := by rw [i1]; simpa using E8 _ _ hzl
 have g := s.rdO p
 split at he
 rotate_left
 ·exact he.elim
 rename_i g0 o0 hr
 rw [hr] at g
 have hg : a.eval p = .slice (some ⟨g0, o0, none⟩) 0 0 := g
 obtain ⟨ys, ⟨hroom, hk1, hk2⟩, hy⟩ := L01 s (Nat.succ_pos sz) he
 have i1' : i.size = sz + 1 := i1
 have i2' : i.bytes = by_ + 1 := i2
 rw [← i1] at hy
 rw [← i1'] at hk2
 rw [← i2'] at hroom
 have hb1 : 0 < i.bytes := by rw [i2]; exact Nat.succ_pos _
 have hlen : ys.length ≤ 140737488355328 := Nat.le_trans (Nat.le_mul_of_pos_right _ hb1) hroom
 have hl63 : ((0 + ys.length : Nat) : Int) ≤ 9223372036854775807 := by omega
 have hfy := g6 ys (fun x hx => (hy.1 x hx).1)
 have hv := p04 s
 by_cases hn : ys = []
 ·have hrun : (Builtin.append_ #[t, t] o.type #[.slice (some ⟨g0, o0, none⟩) 0 0, a.eval q]).run P w = .ok (.slice (some ⟨g0, o0, none⟩) 0 0) w := by
   subst hn
   rcases hy.2 with ⟨ad, c, hq, hc⟩ | ⟨c, hq, _⟩
   ·rw [hq]
    simp [Builtin.append_, run_underlying ht, sizeOf, typeInfo, hi, Builtin.lenOf, Builtin.firstCells, loadCells, loadCellsFrom, storeCells]
   ·rw [hq]
    simp [Builtin.append_, run_underlying ht, sizeOf, typeInfo, hi, Builtin.lenOf, Builtin.firstCells, storeCells]
  rw [← hg] at hrun
  exact V4 (F9 ho ha hts hrun) ⟨_, _, h, _, _, _, _, hk1 hn, rfl, s, hg, K3.refl _ _ _⟩
 ·rcases hy.2 with ⟨ad, cc, hq, hc⟩ | ⟨cc, hq, hys⟩
  rotate_left
  ·exact absurd hys hn
  have hpos : 0 < ys.length := by
   cases ys with
   | nil => exact absurd rfl hn
   | cons y r => simp
  have hrun := run_append_grow (P := P) w t o.type e i z ht hi i3 ⟨g0, o0, none⟩ 0 0 [] (by simp) (fun j u hj => by simp at hj) ad ys.length cc ys.flatten hfy hc (by omega) hl63 (growslice_fits (by omega) (by unfold f04 at hroom; simpa using hroom))
  have hge := grownCap_ge w (0 + ys.length) 0 e
  have hcm : grownCap w (0 + ys.length) 0 e ≤ maxLen := grownCap_le_maxLen w _ 0 e (by unfold maxLen; omega)
  rw [← hq, ← hg] at hrun
  obtain ⟨H', s'⟩ := s.moved (T0.newD hv (.cells ([].toArray ++ ys.flatten.toArray ++ Builtin.zeroCells z.cells (grownCap w (0 + ys.length) 0 e - (0 + ys.length))) e (0, 0)) rfl)
  refine V4 (F9 ho ha hts hrun) ⟨_, _, _, _, _, _, _, hk2 _ _ ⟨fun x hx => hy.1 x hx, .inr ⟨w.heap.size, grownCap w (0 + ys.length) 0 e, _, ?_, F8 hv, rfl, by omega, hcm, ?_, ?_⟩⟩, rfl, s', rfl, K3.refl _ _ _⟩
  ·rw [Nat.zero_add]
  ·simp only [Array.size_append, List.size_toArray, hfy, size_zeroCells, hzs, List.length_nil, ← Nat.add_mul, Nat.zero_add]
   rw [Nat.zero_add] at hge
   congr 1; omega
  ·simp only [Array.toList_append, List.append_assoc, List.nil_append]
   rw [List.take_append_of_le_length (by simp [hfy]), List.take_of_length_le (by simp [hfy])]
theorem N09 (s : Sim P h0 w0 be oe H st h a w) (he : s09 P o st h K) : o.wp P a w (Nx P h0 w0 st be oe K a o.dst) Q := by
 unfold s09 at he
 split at he
 ·rename_i t n ps ho
  split at he
  ·rename_i hps; exact L09 s ho hps he
  ·exact i6 s he
 ·rename_i as ts ho
  split at he
  ·rename_i x y t t' ha ht
   split at he
   ·rename_i hb
    have := Nat.eq_of_beq_eq_true hb
    subst this
    exact M09 s ho (by apply Array.ext'; simpa using ha) (by apply Array.ext'; simpa using ht) he
   ·exact he.elim
  ·exact he.elim
 ·exact i6 s he
end
section
variable {P : Program} {h0 : Hp} {w0 : World} {be : Nat → Nat} {oe : Nat → Value} {H : Hp} {h : Hp} {a : Act} {w : World}
def R08 (st : St) (be : Nat → Nat) (oe : Nat → Value) (h : Hp) (bs : List BE) (x : List (Nat × Bool) × J2) (v : Value) : Prop := cB bs x.1 = some true → P9 st be oe h x.2 v
theorem I7 {L : FL} {st : St} {h : Hp} {bs : List BE} {ch : List (Nat × Bool)} {val : Nat → Value} {K : List (Nat × AV) → Prop} (hc : cB bs ch = some true) : ∀ {l : List Operand} {acc : List (Nat × AV)},
  (∀ t, J0 st be oe (Q0 acc t) (val t)) → (∀ t, Operand.tmp t ∈ l → (∀ x, V8 L t = some x → R08 st be oe h bs x (val t)) ∧ (V8 L t = none → J0 st be oe (Q0 st.fr t) (val t))) →
  b02 L st h ch l acc K → ∃ fr, K fr ∧ ∀ t, J0 st be oe (Q0 fr t) (val t)
 | [], acc, h1, h2, he => ⟨acc, he, h1⟩
 | .tmp t :: r, acc, h1, h2, he => by
  have h2r : ∀ u, Operand.tmp u ∈ r → _ := fun u hu => h2 u (List.mem_cons_of_mem _ hu)
  have hx := h2 t (List.mem_cons_self ..)
  have put : ∀ av, J0 st be oe av (val t) → ∀ u, J0 st be oe (Q0 ((t, av) :: acc) u) (val u) := fun av g u => by
   rw [Z0]
   split
   ·rename_i e; subst e; exact g
   ·exact h1 u
  simp only [b02] at he
  split at he
  ·rename_i ch2 f e
   split at he
   ·rename_i hs
    have hf := hx.1 _ e (d03 hs hc)
    cases f with
    | pu av => exact I7 hc (put av hf) h2r he
    | ef F => exact I7 hc (put (.val (val t)) rfl) h2r (he _ hf)
   ·exact he.elim
  ·rename_i e
   exact I7 hc (put _ (hx.2 e)) h2r he
 | .const v :: r, acc, h1, h2, he => I7 (l := r) hc h1 (fun u hu => h2 u (List.mem_cons_of_mem _ hu)) he
 | .global v :: r, acc, h1, h2, he => I7 (l := r) hc h1 (fun u hu => h2 u (List.mem_cons_of_mem _ hu)) he
 | .func v :: r, acc, h1, h2, he => I7 (l := r) hc h1 (fun u hu => h2 u (List.mem_cons_of_mem _ hu)) he
theorem R07 {st : St} {val : Nat → Value} {K : List (Nat × AV) → Prop} : ∀ {L : FL} {fr : List (Nat × AV)}, (∀ p ∈ L, p.2.1 = [] → P9 st be oe h p.2.2 (val p.1)) →
  (∀ t, (∀ x, (t, x) ∉ L) → J0 st be oe (Q0 fr t) (val t)) → s07 h L fr K → ∃ fr, K fr ∧ ∀ t, J0 st be oe (Q0 fr t) (val t)
 | [], fr, h1, h2, he => ⟨fr, he, fun t => h2 t (by simp)⟩
 | (d, ch, f) :: r, fr, h1, h2, he => by
  have step : ∀ av, J0 st be oe av (val d) → s07 h r ((d, av) :: fr) K → ∃ fr, K fr ∧ ∀ t, J0 st be oe (Q0 fr t) (val t) := fun av g he =>
   R07 (L := r) (fr := (d, av) :: fr) (fun p hp => h1 p (List.mem_cons_of_mem _ hp)) (fun t ht => by
    rw [Z0]
    split
    ·rename_i e; subst e; exact g
    ·rename_i hne
     exact h2 t fun x hx => by
      rcases List.mem_cons.1 hx with e | hx
      ·cases e; exact hne rfl
      ·exact ht x hx) he
  cases ch with
  | nil =>
   have hf := h1 (d, [], f) (List.mem_cons_self ..) rfl
   cases f with
   | pu av => exact step av hf he
   | ef F => exact step (.val (val d)) rfl (he _ hf)
  | cons p q =>
   refine step .dead trivial ?_
   cases f <;> exact he
theorem v0d {st : St} {L : FL} {bs : List BE} {ch : List (Nat × Bool)} {o : Oper} {av : AV} (hp : w03 P L bs ch o st = some av) (hc : cB bs ch = some true)
  (hv : ∀ t, (∀ x, V8 L t = some x → R08 st be oe h bs x (a.tmps.getD t undef)) ∧ (V8 L t = none → J0 st be oe (Q0 st.fr t) (a.tmps.getD t undef)) ∨ Operand.tmp t ∉ o.op.operands)
  (ht : ∀ x ∈ bs, ∀ y, V8 L x.d = some y → y = (x.ch, .pu (.val (.bool x.e)))) (hj : ∀ x ∈ bs, V7 bs x.j = some x) (hbsL : ∀ x ∈ bs, ∃ y, V8 L x.d = some y)
  (hg : ∀ {fr : List (Nat × AV)}, (∀ t, J0 st be oe (Q0 fr t) (a.tmps.getD t undef)) → Sim P h0 w0 be oe H { st with fr := fr } h a w) {Q : Exit → Act → World → Prop} :
  o.wp P a w (fun a' w' => ∃ v be' oe' H', a' = a.put o.dst v ∧ (∃ fr, Sim P h0 w0 be' oe' H' { st with fr := fr } h a w') ∧ K3 st be oe st be' oe' ∧ J0 st be' oe' av v) Q := by
 have s0 : Sim P h0 w0 be oe H { st with fr := [] } h a w := hg (fun t => trivial)
 have rd : ∀ (x : Operand) (ch2 : List (Nat × Bool)), cB bs ch2 = some true → (∀ t, x = .tmp t → Operand.tmp t ∈ o.op.operands) → J0 st be oe (rdU L st ch2 x) (a.eval x) := by
  intro x ch2 hc2 hx
  cases x with
  | tmp t =>
   have hvt := (hv t).resolve_right (fun hn => hn (hx t rfl))
   simp only [rdU]
   split
   ·rename_i ch3 A e
    split
    ·rename_i hs
     have := hvt.1 _ e (d03 hs hc2)
     have g : J0 st be oe A (a.tmps.getD t undef) := this
     have g2 := s0.rdA (J0.fr (st := st) (fr := []) g)
     have e2 : rdA { st with fr := [] } A = rdA st A := by obtain ⟨n, fr, bx, ow⟩ := st; cases A <;> rfl
     rw [e2] at g2
     exact J0.fr (st := { st with fr := [] }) (fr := st.fr) g2
    ·trivial
   ·trivial
   ·rename_i e
    have g := hvt.2 e
    have g2 := s0.rdA (J0.fr (st := st) (fr := []) g)
    have e2 : rdA { st with fr := [] } (Q0 st.fr t) = rdA st (Q0 st.fr t) := by obtain ⟨n, fr, bx, ow⟩ := st; cases Q0 fr t <;> rfl
    rw [e2] at g2
    exact J0.fr (st := { st with fr := [] }) (fr := st.fr) g2
  | const v => exact rfl
  | global v => trivial
  | func v => exact rfl
 have done : ∀ {v : Value}, (∀ w', (execOp a.eval o).run P w' = .ok (.value v) w' ∨ ¬ Vis H w') → J0 st be oe av v → o.wp P a w (fun a' w' => ∃ v be' oe' H', a' = a.put o.dst v ∧ (∃ fr, Sim P h0 w0 be' oe' H' { st with fr := fr } h a w') ∧ K3 st be oe st be' oe' ∧ J0 st be' oe' av v) Q := fun {v} hr g =>
  V4 ((hr w).resolve_right fun hn => hn s0.mv.vis) ⟨v, be, oe, H, rfl, ⟨[], s0⟩, K3.refl _ _ _, g⟩
 unfold w03 at hp
 split at hp
 ·rename_i x hx
  have g := rd x ch hc (fun t e => by rw [hx]; simp [Op.operands, e])
  refine done (v := a.eval x) (fun w' => .inl (by unfold execOp; rw [hx]; rfl)) ?_
  revert hp
  cases hr : rdU L st ch x <;> intro hp <;> first | (cases hp; done) | (cases hp; rw [hr] at g; exact g)
 ·rename_i x hx
  have g := rd x ch hc (fun t e => by rw [hx]; simp [Op.operands, e])
  refine done (v := a.eval x) (fun w' => .inl (by unfold execOp; rw [hx]; rfl)) ?_
  revert hp
  cases hr : rdU L st ch x <;> intro hp <;> first | (cases hp; done) | (cases hp; rw [hr] at g; exact g)
 ·rename_i t x hx
  have g := rd x ch hc (fun t e => by rw [hx]; simp [Op.operands, e])
  split at hp
  ·rename_i i off hr
   rw [hr] at g
   split at hp
   ·rename_i cs ty hn
    have hxt : ∃ u, x = .tmp u := by
     cases x with
     | tmp u => exact ⟨u, rfl⟩
     | const v => simp [rdU, rdO] at hr
     | global v => simp [rdU, rdO] at hr
     | func v => simp [rdU, rdO] at hr
    obtain ⟨u, rfl⟩ := hxt
    have he : d5 P o { st with fr := [(u, .box i off)] } h fun av' st' h' => av' = av ∧ st' = { st with fr := [(u, .box i off)] } ∧ h' = h := by
     have hrd : rdO { st with fr := [(u, .box i off)] } (.tmp u) = .box i off := by
      show rdA _ (Q0 [(u, AV.box i off)] u) = _
      rw [Z0, if_pos rfl]
      simp only [rdA, hn]
     simp only [d5, hx, hrd, hn]
     unfold o06 at hp
     unfold g00
     cases hA : w08 P t with
     | none => rw [hA] at hp; cases hp
     | some bb =>
      rw [hA] at hp
      cases bb with
      | true =>
       cases hT : W2 P t with
       | none => rw [hT] at hp; cases hp
       | some m =>
        rw [hT] at hp
        simp only at hp ⊢
        split at hp
        ·rename_i hB
         cases hp
         rw [hB]
         simp
        ·cases hp
      | false =>
       simp only at hp ⊢
       split at hp
       ·rename_i cc hN
        cases hp
        rw [hN]
        simp
       ·cases hp
    have s1 := hg (fr := [(u, .box i off)]) (fun u' => by
     rw [Z0]
     split
     ·rename_i e; subst e; exact g
     ·trivial)
    refine Oper.wp_mono (fun a' w' hx => ?_) (i6 s1 he)
    obtain ⟨av', st', h'', v, be', oe', H', ⟨e1, e2, e3⟩, ha, s2, g2, gr⟩ := hx
    rw [e2, e3] at s2
    rw [e1, e2] at g2
    rw [e2] at gr
    exact ⟨v, be', oe', H', ha, ⟨_, s2⟩, ⟨gr.bl, gr.be, gr.sm⟩, J0.fr (st := { st with fr := [(u, .box i off)] }) (fr := st.fr) g2⟩
   ·cases hp
  ·cases hp
 ·rename_i t x k hx
  have g := rd x ch hc (fun t e => by rw [hx]; simp [Op.operands, e])
  split at hp
  ·rename_i i off fo hr htf
   rw [hr] at g
   cases hp
   refine done (v := ptr (be i) (off + fo)) (fun w' => ?_) ⟨g.1, rfl⟩
   by_cases hvis : Vis H w'
   ·exact .inl (R.run_of (R.exec_fieldAddr (H := H) hx htf g.2) w' hvis)
   ·exact .inr hvis
  ·rename_i sl j sz kk fo hr htf
   rw [hr] at g
   cases hp
   obtain ⟨b, o', n, cp, e1, e2⟩ := g
   refine done (v := ptr b (o' + (j.toNat * sz + kk) + fo)) (fun w' => ?_) ⟨b, o', n, cp, e1, by simp [Nat.add_assoc]⟩
   by_cases hvis : Vis H w'
   ·exact .inl (R.run_of (R.exec_fieldAddr (H := H) hx htf e2) w' hvis)
   ·exact .inr hvis
  ·cases hp
 ·rename_i s x y hx
  have g := rd (.tmp s) ch hc (fun t e => by rw [hx]; cases e; simp [Op.operands])
  split at hp
  ·rename_i e q hs hq
   rw [hs] at g
   have ge : a.eval (.tmp s) = .bool e := g
   split at hp
   ·rename_i hsf
    obtain ⟨hm, hqd⟩ := g05 hq
    have hqc := d03 hsf hc
    have hqe : q.e = e := by
     have hrd : rdU L st ch (.tmp s) = .val (.bool e) := hs
     obtain ⟨y0, hl⟩ := hbsL q hm
     have hy := ht q hm y0 hl
     rw [hy] at hl
     rw [hqd] at hl
     simp only [rdU, hl, hsf, Go.H.rdA] at hrd
     cases hrd; rfl
    have hlk := hj q hm
    split at hp
    ·rename_i bx by_ hx1 hy1
     cases hp
     refine done (v := .bool (cond e bx by_)) (fun w' => .inl ?_) rfl
     unfold execOp; rw [hx]
     simp only [ge, Sem.run_bind, asBool, Sem.run_pure, Result.andThen_ok]
     cases e with
     | true =>
      have hch : cB bs ((q.j, true) :: q.ch) = some true := by
       rw [c00, hlk, hqc]; simp [lit, hqe]
      have g4 := rd x _ hch (fun t e => by rw [hx]; simp [Op.operands, e])
      rw [hx1] at g4
      have g5 : a.eval x = .bool bx := g4
      simp [g5]
     | false =>
      have hch : cB bs ((q.j, false) :: q.ch) = some true := by
       rw [c00, hlk, hqc]; simp [lit, hqe]
      have g4 := rd y _ hch (fun t e => by rw [hx]; simp [Op.operands, e])
      rw [hy1] at g4
      have g5 : a.eval y = .bool by_ := g4
      simp [g5]
    ·cases hp
   ·cases hp
  ·cases hp
 ·cases hp
theorem Sim.untail {st : St} {t : List Own} (s : Sim P h0 w0 be oe H { st with ow := st.ow ++ t } h a w) (hf : ∀ u, J0 st be oe (Q0 st.fr u) (a.tmps.getD u undef))
  (hb : ∀ i cs ty, nth st.bx i = some (.live cs ty) → ∃ vs, M0 st oe cs vs ∧ H (be i) = some (.cells vs.toArray ty (0, 0))) : Sim P h0 w0 be oe H st h a w := by
 have up : ∀ i o, nth st.ow i = some o → nth (st.ow ++ t) i = some o := fun i o hi => by
  rw [n00] at hi ⊢
  rw [List.getElem?_append_left (List.getElem?_eq_some_iff.1 hi).1]
  exact hi
 refine ⟨s.mv, s.sub, fun i cs ty hi => ⟨(s.box i cs ty hi).1, hb i cs ty hi⟩, s.pub, fun i s' e sz by_ nn xs hi => s.own i s' e sz by_ nn xs (up i _ hi), fun i s' v hi => s.frz i s' v (up i _ hi), s.bb,
  fun i j s1 e sz by_ nn xs s2 e' sz' by' nn' xs' g hi hj => s.oo i j s1 e sz by_ nn xs s2 e' sz' by' nn' xs' g (up i _ hi) (up j _ hj), fun i cs ty j s1 e sz by_ nn xs hi hj => s.bo i cs ty j s1 e sz by_ nn xs hi (up j _ hj), s.dfr, s.siz, hf⟩
def L03 (P : Program) (h0 : Hp) (w0 : World) (ops : Array Oper) (st : St) (h : Hp) (A : Asg) (sk : Nat → Bool) (kp : List (Nat × Value)) (listed : Array Bool) (a : Act) (w : World) : Prop :=
 ∃ be oe H h', Sub h h' ∧ Sim P h0 w0 be oe H { st with fr := H1 ops.toList st.fr } h' a w ∧ (∀ p ∈ kp, a.tmps.getD p.1 undef = p.2) ∧
  ∀ j o d, sk j = false → ops[j]? = some o → o.dst = some d → listed.getD j false = true → ((A j).2.1 = true → P9 st be oe h' (A j).2.2 (a.tmps.getD d undef)) ∧ ((A j).2.1 = false → a.tmps.getD d undef = undef)
theorem x0e {st st' : St} (t : G0a st st') : ∃ r, st' = { st with ow := st.ow ++ r } := by
 obtain ⟨n, fr, bx, ow⟩ := st
 obtain ⟨n', fr', bx', ow'⟩ := st'
 obtain ⟨h1, h2, h3, r, h4⟩ := t
 simp only at h1 h2 h3 h4
 subst h1 h2 h3 h4
 exact ⟨r, rfl⟩
theorem y0e {α : Type} {l r : List α} {i : Nat} (hi : i < l.length) : nth (l ++ r) i = nth l i := by
 rw [n00, n00, List.getElem?_append_left hi]
theorem S07 {st : St} {r : List Own} {i s : Nat} (hs : stamp st i = some s) : stamp { st with ow := st.ow ++ r } i = some s := by
 unfold stamp at hs ⊢
 cases hn : nth st.ow i with
 | none => rw [hn] at hs; cases hs
 | some o => rw [hn] at hs; rw [y0e (D7 hn), hn]; exact hs
theorem T0e {ops : Array Oper} {st : St} {A : Asg} {sk : Nat → Bool} {kp : List (Nat × Value)} {Lf : FL} {Bf : List BE} {listed : Array Bool} {j : Nat} {o : Oper} {Q : Exit → Act → World → Prop}
  (hD : ∀ (i j : Nat) (oi oj : Oper) (d : Nat), ops.toList[i]? = some oi → ops.toList[j]? = some oj → oi.dst = some d → oj.dst = some d → i = j)
  (hn : ∀ o ∈ ops.toList, ∀ d, o.dst = some d → d < st.n)
  (hB : ∀ (k : Nat) (o : Oper), ops.toList[k]? = some o → ∀ e ∈ o.after, Region.binds .any e = true → e.on < k)
  (hdep : ∀ o ∈ ops.toList, ∀ t, Operand.tmp t ∈ o.op.operands → ∀ (i : Nat) (oi : Oper), ops.toList[i]? = some oi → oi.dst = some t → ∃ e ∈ o.after, Region.binds .any e = true ∧ e.on = i)
  (hgd : ∀ o ∈ ops.toList, ∀ i w, o.guard = some (i, w) → d6 i o = true)
  (hP : w07 ops.toList A Lf Bf ops.toList.length)
  (hall : ∀ j o, ops.toList[j]? = some o → ∃ Lj bj, B6 Bf o.guard = some (A j).1 ∧ w07 ops.toList A Lj bj j ∧ j03 bj Bf ∧ cB bj (A j).1 = some (A j).2.1 ∧ (OpU P st h Lj bj o (A j).1 (A j).2.1 (A j).2.2 ∧ ∀ av, w03 P Lj bj (A j).1 o st = some av → (A j).2.2 = .pu av))
  (hskj : sk j = false) (hskr : ∀ (i : Nat) (oi : Oper) (d : Nat), ops.toList[i]? = some oi → oi.dst = some d → sk i = true → ∀ o' ∈ ops.toList, Operand.tmp d ∉ o'.op.operands)
  (hskb : ∀ i, sk i = true → (A i).2.2 = .pu (.val undef)) (hskk : ∀ p ∈ kp, ∃ (i : Nat) (oi : Oper), ops.toList[i]? = some oi ∧ oi.dst = some p.1 ∧ sk i = true)
  (ho : ops[j]? = some o) (hrd : ∀ e ∈ o.after, Region.binds .any e = true → listed.getD e.on false = true) (hi : L03 P h0 w0 ops st h A sk kp listed a w) :
  (Region.wanted o (yielded ops a.tmps) = true → o.wp P a w (L03 P h0 w0 ops st h A sk kp (listed.setIfInBounds j true)) Q) ∧
  (Region.wanted o (yielded ops a.tmps) = false → L03 P h0 w0 ops st h A sk kp (listed.setIfInBounds j true) (a.put o.dst undef) w) := by
 obtain ⟨be, oe, H, h', hs, s, keep, facts⟩ := hi
 have hoL : ops.toList[j]? = some o := by simpa using ho
 have hmem : o ∈ ops.toList := List.mem_of_getElem? hoL
 have hjlt : j < ops.toList.length := (List.getElem?_eq_some_iff.1 hoL).1
 obtain ⟨Lj, bj, hch, hpj, hxj, hcj, hop, _⟩ := hall j o hoL
 have hcf : cB Bf (A j).1 = some (A j).2.1 := hP.p3 j hjlt hjlt
 have hw : Region.wanted o (yielded ops a.tmps) = (A j).2.1 := by
  unfold Region.wanted
  cases hg : o.guard with
  | none =>
   rw [hg] at hch
   cases hch' : (A j).1 with
   | nil => rw [hch'] at hcf; exact Option.some.inj hcf
   | cons p q => rw [hch'] at hch; cases hch
  | some p =>
   obtain ⟨i, wv⟩ := p
   rw [hg] at hch
   simp only [B6] at hch
   split at hch
   ·rename_i b hb
    obtain ⟨hm, rfl⟩ := b9 hb
    obtain ⟨g1, ⟨o', g2, g3⟩, g4, g5⟩ := hP.p4 b hm
    have hl : listed.getD b.j false = true := by
     obtain ⟨e, he, hb', hon⟩ := P4 (hgd o hmem b.j wv hg)
     rw [← hon]; exact hrd e he hb'
    have hsb : sk b.j = false := by
     cases e : sk b.j with
     | false => rfl
     | true => rw [hskb b.j e] at g5; cases g5
    have hf := facts b.j o' b.d hsb (by simpa using g2) g3 hl
    have hc3 := hP.p3 b.j g1 g1
    rw [g4] at hc3
    have hlt : b.d < a.tmps.size := by rw [s.siz]; exact hn o' (List.mem_of_getElem? g2) b.d g3
    have hv : a.tmps[b.d]? = some (if (A b.j).2.1 = true then .bool b.e else undef) := by
     rw [Array.getElem?_eq_getElem hlt]
     have hgd' : a.tmps.getD b.d undef = a.tmps[b.d] := by simp [hlt]
     cases hc : (A b.j).2.1 with
     | true =>
      have := hf.1 hc
      rw [g5, hgd'] at this
      have h2 : a.tmps[b.d] = .bool b.e := this
      rw [h2]; rfl
     | false =>
      have := hf.2 hc
      rw [hgd'] at this
      rw [this]; rfl
    have hy : yielded ops a.tmps b.j = if (A b.j).2.1 = true then some b.e else none := by
     unfold yielded
     have : ops[b.j]? = some o' := by simpa using g2
     simp only [this, g3, Option.bind_some, hv]
     cases (A b.j).2.1 <;> rfl
    have hchj : (A j).1 = (b.j, wv) :: b.ch := by
     have := Option.some.inj hch
     exact this.symm
    rw [hchj, c00, hb, hc3] at hcf
    simp only [Option.some.injEq] at hcf
    simp only [hy, ← hcf]
    cases (A b.j).2.1 <;> cases wv <;> cases b.e <;> rfl
   ·cases hch
 have stab : ∀ i oi, ops.toList[i]? = some oi → ∀ F, (A i).2.2 = .ef F → ∀ v h1 h2, Sub h1 h2 → F v h1 → F v h2 := fun i oi hoi F hF => by
  obtain ⟨Li, bi, _, _, _, _, hopi, _⟩ := hall i oi hoi
  rw [hF] at hopi
  exact hopi.1
 have fin : ∀ {fr : List (Nat × AV)} {a' : Act} {w' : World} {h'' : Hp} {be' : Nat → Nat} {oe' : Nat → Value} {H' : Hp} {v : Value}, Sub h' h'' → a' = a.put o.dst v → Sim P h0 w0 be' oe' H' { st with fr := fr } h'' a w' →
   K3 st be oe st be' oe' → ((A j).2.1 = true → P9 st be' oe' h'' (A j).2.2 v) → ((A j).2.1 = false → v = undef) → L03 P h0 w0 ops st h A sk kp (listed.setIfInBounds j true) a' w' := by
  intro fr a' w' h'' be' oe' H' v hss ha s' gr2 hv hv2
  subst ha
  have gr' : K3 { st with fr := H1 ops.toList st.fr } be oe { st with fr := H1 ops.toList st.fr } be' oe' := ⟨gr2.bl, gr2.be, gr2.sm⟩
  have s1 : Sim P h0 w0 be' oe' H' { st with fr := H1 ops.toList st.fr } h'' a w' :=
   s'.refr (fr := H1 ops.toList st.fr) fun t => J0.fr (st := { st with fr := H1 ops.toList st.fr }) ((s.fr t).grow gr')
  have s2 : Sim P h0 w0 be' oe' H' { st with fr := H1 ops.toList st.fr } h'' (a.put o.dst v) w' := by
   cases hd : o.dst with
   | none => exact s1
   | some d =>
    have hp := s1.put (d := d) (av := .dead) (v := v) (hn o hmem d hd) trivial
    refine hp.refr (fr := H1 ops.toList st.fr) fun t => ?_
    have g := hp.fr t
    rw [Z0] at g
    split at g
    ·rename_i e
     subst e
     rw [l7 hmem hd]
     trivial
    ·exact g
  have tk : ∀ d, o.dst ≠ some d → (a.put o.dst v).tmps.getD d undef = a.tmps.getD d undef := fun d hd => by
   cases hd' : o.dst with
   | none => rfl
   | some d' => simp [Act.put, Array.getElem?_setIfInBounds_ne (fun e => hd (by rw [hd', e]) : d' ≠ d)]
  refine ⟨be', oe', H', h'', fun b x hb => hss b x (hs b x hb), s2, fun p hp => ?_, fun i oi d hsi h1 h2 h3 => ?_⟩
  ·obtain ⟨i, oi, k1, k2, k3⟩ := hskk p hp
   rw [tk p.1 fun e => ?_]
   ·exact keep p hp
   ·have := hD j i o oi p.1 hoL k1 e k2
    subst this
    rw [hskj] at k3; cases k3
  by_cases hij : j = i
  ·subst hij
   rw [ho] at h1; cases h1
   have hlt : d < a.tmps.size := by rw [s.siz]; exact hn o hmem d h2
   have : (a.put o.dst v).tmps.getD d undef = v := by
    rw [h2]
    simp [Act.put, hlt]
   rw [this]
   exact ⟨hv, hv2⟩
  ·have hl0 : listed.getD i false = true := by rw [getD_set_ne false hij] at h3; exact h3
   have hne : ∀ d', o.dst = some d' → d' ≠ d := fun d' hd' e => by
    subst e
    exact hij (hD j i o oi d' hoL (by simpa using h1) hd' h2)
   have : (a.put o.dst v).tmps.getD d undef = a.tmps.getD d undef := by
    cases hd : o.dst with
    | none => rfl
    | some d' => simp [Act.put, Array.getElem?_setIfInBounds_ne (hne d' hd)]
   rw [this]
   obtain ⟨old, old2⟩ := facts i oi d hsi h1 h2 hl0
   refine ⟨fun hc => ?_, old2⟩
   have old := old hc
   cases hA : (A i).2.2 with
   | pu av => rw [hA] at old; exact J0.grow gr2 old
   | ef F => rw [hA] at old; exact stab i oi (by simpa using h1) F hA _ _ _ hss old
 refine ⟨fun hwt => ?_, fun hwf => ?_⟩
 rotate_left
 ·have hc : (A j).2.1 = false := by rw [← hw]; exact hwf
  exact fin (fr := H1 ops.toList st.fr) (fun _ _ h => h) rfl s (K3.refl _ _ _) (fun h => by rw [hc] at h; cases h) (fun _ => rfl)
 have hc : (A j).2.1 = true := by rw [← hw]; exact hwt
 rw [hc] at hcj hop
 have hcf' : cB Bf (A j).1 = some true := by rw [hcf, hc]
 have slot : ∀ t x, V8 Lj t = some x → R08 st be oe h' bj x (a.tmps.getD t undef) ∨ Operand.tmp t ∉ o.op.operands := fun t x hx => by
  by_cases ht : Operand.tmp t ∈ o.op.operands
  ·refine .inl fun hcx => ?_
   obtain ⟨i, oi, g1, g2, g3, g4, g5⟩ := hpj.p1 t x (e00 hx)
   obtain ⟨e, he, hb, hon⟩ := hdep o hmem t ht i oi g2 g3
   have hl : listed.getD i false = true := by rw [← hon]; exact hrd e he hb
   have hci : (A i).2.1 = true := by
    have h1 := hP.p3 i (List.getElem?_eq_some_iff.1 g2).1 (List.getElem?_eq_some_iff.1 g2).1
    rw [g4, hxj.c _ _ hcx] at h1
    exact (Option.some.inj h1).symm
   have hsi : sk i = false := by
    cases e : sk i with
    | false => rfl
    | true => exact absurd ht (hskr i oi t g2 g3 e o hmem)
   have := (facts i oi t hsi (by simpa using g2) g3 hl).1 hci
   rwa [g5] at this
  ·exact .inr ht
 have free : ∀ t, Operand.tmp t ∈ o.op.operands → V8 Lj t = none → J0 st be oe (Q0 st.fr t) (a.tmps.getD t undef) := fun t ht hno => by
  have g := s.fr t
  have hmiss : Q0 (H1 ops.toList st.fr) t = Q0 st.fr t := j6 fun o' ho' hd => by
   obtain ⟨i, hi, e⟩ := List.getElem_of_mem ho'
   have hoi : ops.toList[i]? = some o' := by rw [List.getElem?_eq_getElem hi, e]
   obtain ⟨ed, he, hb, hon⟩ := hdep o hmem t ht i o' hoi hd
   have hlt := hB j o hoL ed he hb
   rw [hon] at hlt
   obtain ⟨x, hx⟩ := hpj.p2 i o' t hlt hoi hd
   rw [hno] at hx; cases hx
  rw [← hmiss]
  exact J0.fr (st := { st with fr := H1 ops.toList st.fr }) (fr := st.fr) g
 have opnd : ∀ t, Operand.tmp t ∈ o.op.operands → (∀ x, V8 Lj t = some x → R08 st be oe h' bj x (a.tmps.getD t undef)) ∧ (V8 Lj t = none → J0 st be oe (Q0 st.fr t) (a.tmps.getD t undef)) := fun t ht =>
  ⟨fun x hx => (slot t x hx).resolve_right fun hn => hn ht, free t ht⟩
 have mk : ∀ {fr : List (Nat × AV)}, (∀ t, J0 st be oe (Q0 fr t) (a.tmps.getD t undef)) → Sim P h0 w0 be oe H { st with fr := fr } h' a w := fun {fr} g => s.refr (fr := fr) fun t => J0.fr (g t)
 cases hA : (A j).2.2 with
 | pu av =>
  rw [hA] at hop
  rcases hop with hop | hop
  ·refine Oper.wp_mono (fun a' w' hx => ?_) (v0d (be := be) (oe := oe) (H := H) (h := h') hop hcj (fun t => ?_) (fun x hx y hy => ?_) (fun x hx => ?_) (fun x hx => ?_) mk)
   ·obtain ⟨v, be', oe', H', ha, ⟨fr, s2⟩, gr, g2⟩ := hx
    exact fin (fun _ _ h => h) ha s2 gr (fun _ => by rw [hA]; exact g2) (fun h => by rw [hc] at h; cases h)
   ·by_cases ht : Operand.tmp t ∈ o.op.operands
    ·exact .inl (opnd t ht)
    ·exact .inr ht
   ·obtain ⟨g1, ⟨o', g2, g3⟩, g4, g5⟩ := hpj.p4 x hx
    obtain ⟨i, oi, k1, k2, k3, k4, k5⟩ := hpj.p1 x.d y (e00 hy)
    have : i = x.j := hD i x.j oi o' x.d k2 g2 k3 g3
    subst this
    exact Prod.ext (k4.symm.trans g4) (k5.symm.trans g5)
   ·have key : ∀ (l : List BE), x ∈ l → ∃ b, V7 l x.j = some b := by
     intro l
     induction l with
     | nil => intro h; cases h
     | cons z l ih =>
      intro h
      simp only [V7]
      split
      ·exact ⟨_, rfl⟩
      ·rename_i hb
       rcases List.mem_cons.1 h with rfl | h
       ·exact absurd rfl (Nat.ne_of_beq_eq_false hb)
       ·exact ih h
    obtain ⟨b, hb⟩ := key bj hx
    obtain ⟨hbm, hbj⟩ := b9 hb
    obtain ⟨_, ⟨o1, a1, a2⟩, a3, a4⟩ := hpj.p4 b hbm
    obtain ⟨_, ⟨o2, b1, b2⟩, b3, b4⟩ := hpj.p4 x hx
    rw [hbj] at a1 a3 a4
    rw [b1] at a1; cases a1
    rw [b2] at a2
    rw [b4] at a4
    have e1 : x.d = b.d := by simpa using a2
    have e2 : x.ch = b.ch := b3.symm.trans a3
    have e3 : x.e = b.e := by simpa using a4
    rw [hb]
    obtain ⟨bj', bd', be', bc'⟩ := b
    obtain ⟨xj', xd', xe', xc'⟩ := x
    simp only at hbj e1 e2 e3
    subst hbj e1 e2 e3
    rfl
   ·obtain ⟨g1, ⟨o', g2, g3⟩, _, _⟩ := hpj.p4 x hx
    exact hpj.p2 x.j o' x.d g1 g2 g3
  ·obtain ⟨fr, he, g⟩ := I7 (acc := []) (be := be) (oe := oe) (val := fun t => a.tmps.getD t undef) hcj (fun t => trivial) (fun t ht => opnd t (by simpa using ht)) (C02 (bs := bj) (hop h' hs) rfl)
   refine Oper.wp_mono (fun a' w' hx => ?_) (i6 (mk g) he)
   obtain ⟨av', st', h'', v, be', oe', H', ⟨rfl, rfl, rfl⟩, ha, s2, g2, gr⟩ := hx
   exact fin (fun _ _ h => h) ha s2 ⟨gr.bl, gr.be, gr.sm⟩ (fun _ => by rw [hA]; exact J0.fr (st := { st with fr := fr }) (fr := st.fr) g2) (fun h => by rw [hc] at h; cases h)
 | ef F =>
  rw [hA] at hop
  obtain ⟨_, hop⟩ := hop
  obtain ⟨fr, he, g⟩ := I7 (acc := []) (be := be) (oe := oe) (val := fun t => a.tmps.getD t undef) hcj (fun t => trivial) (fun t ht => opnd t (by simpa using ht)) (C02 (bs := bj) (hop h' hs) rfl)
  refine Oper.wp_mono (fun a' w' hx => ?_) (N09 (mk g) he)
  obtain ⟨av', st', h'', v, be', oe', H', hk, ha, s2, g2, gr⟩ := hx
  obtain ⟨st2, h2, ⟨ht, k1, k2⟩, s3, gr3⟩ := A8 s2 g2 hk
  obtain ⟨r, rfl⟩ := x0e ht
  have gr4 : K3 st be oe st be' oe' := by
   have gx := gr.trans gr3
   refine ⟨gx.bl, gx.be, fun i s0 hs0 => ?_⟩
   obtain ⟨s1, q1, q2, q3⟩ := gx.sm i s0 hs0
   have q4 : stamp { n := st.n, fr := fr, bx := st.bx, ow := st.ow ++ r } i = some s0 := S07 (st := { st with fr := fr }) hs0
   rw [q4] at q1
   cases q1
   exact ⟨s0, hs0, Nat.le_refl _, fun _ => q3 rfl⟩
  have hbox : ∀ i cs ty, nth st.bx i = some (.live cs ty) → ∃ vs, M0 { st with fr := fr } oe' cs vs ∧ H' (be' i) = some (.cells vs.toArray ty (0, 0)) := fun i cs ty hi => by
   obtain ⟨_, vs0, q1, _⟩ := s.box i cs ty hi
   obtain ⟨_, vs, q3, q4⟩ := s3.box i cs ty hi
   refine ⟨vs, ?_, q4⟩
   have key : ∀ (cs : List N2) (vs0 vs : List Value), M0 { st with fr := H1 ops.toList st.fr } oe cs vs0 → M0 { n := st.n, fr := fr, bx := st.bx, ow := st.ow ++ r } oe' cs vs → M0 { st with fr := fr } oe' cs vs := by
    intro cs
    induction cs with
    | nil => intro vs0 vs _ g; cases vs with
     | nil => trivial
     | cons v vs => exact g.elim
    | cons c cs ih =>
     intro vs0 vs g0 g1
     cases vs0 with
     | nil => exact g0.elim
     | cons v0 vs0 =>
      cases vs with
      | nil => exact g1.elim
      | cons v1 vs =>
       refine ⟨?_, ih vs0 vs g0.2 g1.2⟩
       cases c with
       | val x => exact g1.1
       | own k s1 =>
        obtain ⟨t0, r1, _, _⟩ := g0.1
        obtain ⟨t1, r2, r3, r4⟩ := g1.1
        have r5 : stamp { n := st.n, fr := fr, bx := st.bx, ow := st.ow ++ r } k = some t0 := S07 (st := { st with fr := fr }) r1
        rw [r5] at r2
        cases r2
        exact ⟨t0, r1, r3, r4⟩
   exact key cs vs0 vs q1 q3
  have s4 : Sim P h0 w0 be' oe' H' { st with fr := fr } h2 a w' := Sim.untail (st := { st with fr := fr }) (t := r) s3 (fun u => J0.grow (st := { st with fr := fr }) (st' := { st with fr := fr }) ⟨gr4.bl, gr4.be, gr4.sm⟩ (J0.fr (g u))) hbox
  exact fin (fr := fr) k1 ha s4 gr4 (fun _ => by rw [hA]; exact k2) (fun h => by rw [hc] at h; cases h)
theorem L03.start {ops : Array Oper} {st : St} {A : Asg} {sk : Nat → Bool} (s : Sim P h0 w0 be oe H st h a w) : L03 P h0 w0 ops st h A sk [] (Array.replicate ops.size false) a w := by
 refine ⟨be, oe, H, h, fun _ _ h => h, s.refr (fr := H1 ops.toList st.fr) fun t => ?_, fun p hp => (by cases hp), fun j o d _ h1 h2 h3 => ?_⟩
 ·by_cases hx : ∃ o ∈ ops.toList, o.dst = some t
  ·obtain ⟨o, h1, h2⟩ := hx
   rw [l7 h1 h2]
   trivial
  ·rw [j6 fun o ho hd => hx ⟨o, ho, hd⟩]
   exact s.fr t
 ·simp [Array.getElem?_replicate] at h3
  split at h3 <;> cases h3
theorem x0b {ops : Array Oper} {st : St} {A : Asg} {sk : Nat → Bool} {kp : List (Nat × Value)} {Lf : FL} {Bf : List BE} {K : St → Hp → Prop} {listed : Array Bool}
  (hskb : ∀ i, sk i = true → (A i).2.2 = .pu (.val undef)) (hD : ∀ (i j : Nat) (oi oj : Oper) (d : Nat), ops.toList[i]? = some oi → ops.toList[j]? = some oj → oi.dst = some d → oj.dst = some d → i = j)
  (hP : w07 ops.toList A Lf Bf ops.toList.length) (hfin : ∀ h', Sub h h' → s07 h' Lf st.fr fun fr => K { st with fr := fr } h') (hl : ∀ j, j < ops.size → listed.getD j false = true)
  (hi : L03 P h0 w0 ops st h A sk kp listed a w) : ∃ be oe H h' fr, K { st with fr := fr } h' ∧ Sim P h0 w0 be oe H { st with fr := H1 ops.toList st.fr } h' a w ∧ (∀ p ∈ kp, a.tmps.getD p.1 undef = p.2) ∧
   ∀ t, (∀ (i : Nat) (oi : Oper), ops.toList[i]? = some oi → oi.dst = some t → sk i = false) → J0 st be oe (Q0 fr t) (a.tmps.getD t undef) := by
 obtain ⟨be, oe, H, h', hs, s, keep, facts⟩ := hi
 have hdec : ∀ t, (∃ (i : Nat) (oi : Oper), ops.toList[i]? = some oi ∧ oi.dst = some t ∧ sk i = true) ∨ ¬ ∃ (i : Nat) (oi : Oper), ops.toList[i]? = some oi ∧ oi.dst = some t ∧ sk i = true := fun t => Classical.em _
 have hval : ∃ val : Nat → Value, ∀ t, ((∃ (i : Nat) (oi : Oper), ops.toList[i]? = some oi ∧ oi.dst = some t ∧ sk i = true) → val t = undef) ∧ ((¬ ∃ (i : Nat) (oi : Oper), ops.toList[i]? = some oi ∧ oi.dst = some t ∧ sk i = true) → val t = a.tmps.getD t undef) :=
  Classical.axiomOfChoice (r := fun t v => ((∃ (i : Nat) (oi : Oper), ops.toList[i]? = some oi ∧ oi.dst = some t ∧ sk i = true) → v = undef) ∧ ((¬ ∃ (i : Nat) (oi : Oper), ops.toList[i]? = some oi ∧ oi.dst = some t ∧ sk i = true) → v = a.tmps.getD t undef)) fun t => by
   rcases hdec t with h | h
   ·exact ⟨undef, fun _ => rfl, fun n => absurd h n⟩
   ·exact ⟨_, fun n => absurd n h, fun _ => rfl⟩
 obtain ⟨val, hval⟩ := hval
 obtain ⟨fr, hk, g⟩ := R07 (st := st) (be := be) (oe := oe) (val := val) (fun p hp hch => by
  obtain ⟨t, x⟩ := p
  obtain ⟨i, oi, h0, h1, h2, h3, h4⟩ := hP.p1 t x hp
  cases hsk : sk i with
  | true =>
   have e := (hval t).1 ⟨i, oi, h1, h2, hsk⟩
   have e2 := hskb i hsk
   rw [h4] at e2
   show P9 st be oe h' x.2 (val t)
   rw [e2, e]; exact rfl
  | false =>
  have hno : ¬ ∃ (i : Nat) (oi : Oper), ops.toList[i]? = some oi ∧ oi.dst = some t ∧ sk i = true := fun ⟨k, ok, k1, k2, k3⟩ => by
   have := hD i k oi ok t h1 k1 h2 k2
   subst this
   rw [hsk] at k3; cases k3
  have hc : (A i).2.1 = true := by
   have := hP.p3 i h0 h0
   rw [h3, show x.1 = [] from hch] at this
   exact (Option.some.inj this).symm
  have := (facts i oi t hsk (by simpa using h1) h2 (hl i (by simpa using h0))).1 hc
  rw [h4] at this
  show P9 st be oe h' x.2 (val t)
  rw [(hval t).2 hno]; exact this) (fun t ht => by
  have hno : ¬ ∃ (i : Nat) (oi : Oper), ops.toList[i]? = some oi ∧ oi.dst = some t ∧ sk i = true := fun ⟨k, ok, k1, k2, k3⟩ => by
   obtain ⟨x, hx⟩ := hP.p2 k ok t (List.getElem?_eq_some_iff.1 k1).1 k1 k2
   exact ht x (e00 hx)
  rw [(hval t).2 hno]
  have hmiss : Q0 (H1 ops.toList st.fr) t = Q0 st.fr t := j6 fun o' ho' hd => by
   obtain ⟨i, hi, e⟩ := List.getElem_of_mem ho'
   obtain ⟨x, hx⟩ := hP.p2 i o' t hi (by rw [List.getElem?_eq_getElem hi, e]) hd
   exact ht x (e00 hx)
  have := s.fr t
  rw [hmiss] at this
  exact J0.fr (st := { st with fr := H1 ops.toList st.fr }) (fr := st.fr) this) (hfin h' hs)
 refine ⟨be, oe, H, h', fr, hk, s, keep, fun t ht => ?_⟩
 have := g t
 rw [(hval t).2 fun ⟨k, ok, k1, k2, k3⟩ => by rw [ht k ok k1 k2] at k3; cases k3] at this
 exact this
theorem R01 : ∀ {l : List Oper}, c06 l = true → ∀ o ∈ l, ∀ i w, o.guard = some (i, w) → d6 i o = true
 | [], h, o, ho => by cases ho
 | y :: r, h, o, ho => by
  simp only [c06, Bool.and_eq_true] at h
  rcases List.mem_cons.1 ho with rfl | ho
  ·intro i w hg
   have := h.1
   rw [hg] at this
   exact this
  ·exact R01 h.2 o ho
theorem b0g {ops : Array Oper} {Q : Exit → Act → World → Prop} {Inv : Array Bool → Act → World → Prop} (hB : ∀ (k : Nat) (o : Oper), ops.toList[k]? = some o → ∀ e ∈ o.after, Region.binds .any e = true → e.on < k)
  (hstep : ∀ listed a w j o, ops[j]? = some o → (∀ e ∈ o.after, Region.binds .any e = true → listed.getD e.on false = true) → Inv listed a w →
   (Region.wanted o (yielded ops a.tmps) = true → o.wp P a w (Inv (listed.setIfInBounds j true)) Q) ∧ (Region.wanted o (yielded ops a.tmps) = false → Inv (listed.setIfInBounds j true) (a.put o.dst undef) w))
  (hQ : ∀ listed a w, (∀ j, j < ops.size → listed.getD j false = true) → Inv listed a w → Q .normal a w) :
  ∀ (fuel : Nat) (listed : Array Bool) (a : Act) (w : World), listed.size = ops.size → listed.toList.count true + fuel = ops.size → Inv listed a w → wpAny P .any ops Q fuel listed a w
 | 0, listed, a, w, hsz, hc, hi => by
  have hall' : ∀ j, j < ops.size → listed.getD j false = true := fun j hj => by
   have h1 : ∀ b ∈ listed.toList, true = b := List.count_eq_length.1 (by simp only [Array.length_toList]; omega)
   have hlt : j < listed.size := by omega
   have := h1 listed[j] (by simp)
   simp [hlt, ← this]
  refine ⟨?_, hQ listed a w hall' hi⟩
  cases hr : Region.ready .any ops listed with
  | nil => rfl
  | cons j r =>
   have hj : j ∈ Region.ready .any ops listed := by rw [hr]; exact List.mem_cons_self ..
   obtain ⟨h1, o, h2, _⟩ := mem_ready.1 hj
   have hlt : j < ops.size := (Array.getElem?_eq_some_iff.1 h2).1
   have := hall' j hlt
   have hlt' : j < listed.size := by omega
   simp [hlt'] at this h1
   rw [this] at h1; cases h1
 | fuel + 1, listed, a, w, hsz, hc, hi => by
  refine ⟨fun hr => hQ listed a w (e03 hB hsz hr) hi, fun j hj => ?_⟩
  obtain ⟨h1, o, h2, h3⟩ := mem_ready.1 hj
  unfold wpOp
  simp only [h2]
  obtain ⟨ht, hf⟩ := hstep listed a w j o h2 h3 hi
  have next : ∀ a' w', Inv (listed.setIfInBounds j true) a' w' → wpAny P .any ops Q fuel (listed.setIfInBounds j true) a' w' := fun a' w' hi' => b0g hB hstep hQ fuel _ a' w' (by simpa using hsz) (by rw [count_set h1]; omega) hi'
  cases hw : Region.wanted o (yielded ops a.tmps) with
  | true =>
   rw [if_pos rfl]
   exact .inl (Oper.wp_mono next (ht hw))
  | false =>
   rw [if_neg (by simp)]
   exact next _ _ (hf hw)
theorem U0e {ops : Array Oper} {Q : Exit → Act → World → Prop} {Inv : Array Bool → Act → World → Prop} (hB : ∀ (k : Nat) (o : Oper), ops.toList[k]? = some o → ∀ e ∈ o.after, Region.binds .any e = true → e.on < k)
  (hstep : ∀ listed a w j o, ops[j]? = some o → (∀ e ∈ o.after, Region.binds .any e = true → listed.getD e.on false = true) → Inv listed a w →
   (Region.wanted o (yielded ops a.tmps) = true → o.wp P a w (Inv (listed.setIfInBounds j true)) Q) ∧ (Region.wanted o (yielded ops a.tmps) = false → Inv (listed.setIfInBounds j true) (a.put o.dst undef) w))
  (hQ : ∀ listed a w, (∀ j, j < ops.size → listed.getD j false = true) → Inv listed a w → Q .normal a w) :
  ∀ (l : List Oper) (k : Nat) (listed : Array Bool) (a : Act) (w : World), (∀ j, l[j]? = ops.toList[k + j]?) → k + l.length = ops.size → listed.size = ops.size → (∀ j, j < k → listed.getD j false = true) → Inv listed a w → wpList P ops Q l a w
 | [], k, listed, a, w, hl, hk, hsz, hp, hi => hQ listed a w (fun j hj => hp j (by simp at hk; omega)) hi
 | o :: l, k, listed, a, w, hl, hk, hsz, hp, hi => by
  have ho : ops.toList[k]? = some o := by simpa using (hl 0).symm
  have hl' : ∀ j, l[j]? = ops.toList[k + 1 + j]? := fun j => by have := hl (j + 1); simpa [Nat.add_assoc, Nat.add_comm 1 j] using this
  obtain ⟨ht, hf⟩ := hstep listed a w k o (by simpa using ho) (fun e he hb => hp _ (hB k o ho e he hb)) hi
  have next : ∀ a' w', Inv (listed.setIfInBounds k true) a' w' → wpList P ops Q l a' w' := fun a' w' hi' =>
   U0e hB hstep hQ l (k + 1) _ a' w' hl' (by simp only [List.length_cons] at hk; omega) (by simpa using hsz) (fun j hj => by
    by_cases e : k = j
    ·subst e
     have : k < listed.size := by simp only [List.length_cons] at hk; omega
     simp [this]
    ·rw [getD_set_ne false e]; exact hp j (by omega)) hi'
  unfold wpList
  cases hw : Region.wanted o (yielded ops a.tmps) with
  | true =>
   rw [if_pos rfl]
   exact .inl (Oper.wp_mono next (ht hw))
  | false =>
   rw [if_neg (by simp)]
   exact next _ _ (hf hw)
theorem O09 {ops : Array Oper} {st : St} {K : St → Hp → Prop} {Q : Exit → Act → World → Prop} (hb : t9 st.n ops.toList = true) (he : evU P ops.toList 0 [] [] st h K)
  (hQ : ∀ a w st h be oe H, K st h → Sim P h0 w0 be oe H st h a w → Q .normal a w) :
  (∀ {be : Nat → Nat} {oe : Nat → Value} {H : Hp} {a : Act} {w : World}, Sim P h0 w0 be oe H st h a w → wpAny P .any ops Q ops.size (Array.replicate ops.size false) a w) ∧
  (∀ {be : Nat → Nat} {oe : Nat → Value} {H : Hp} {a : Act} {w : World}, Sim P h0 w0 be oe H st h a w → wpList P ops Q ops.toList a w) := by
 simp only [t9, F6, Bool.and_eq_true] at hb
 obtain ⟨⟨⟨b1, b2⟩, b3⟩, b4⟩ := hb
 obtain ⟨hn, hD⟩ := c9 b1
 have hB : ∀ (k : Nat) (o : Oper), ops.toList[k]? = some o → ∀ e ∈ o.after, Region.binds .any e = true → e.on < k := fun k o hk e he' hb => by
  have := o8 b2 k o hk e he' hb
  omega
 have hdep := r00 b3
 have hgd := R01 b4
 obtain ⟨A, Lf, Bf, _, _, hP, hall, hfin⟩ := J06 (ops := ops.toList) hD ops.toList 0 [] [] (fun _ => ([], true, .pu .dead)) (fun j => by simp) (by simp)
  ⟨fun t x h => (by cases h), fun i oi d hi => by omega, fun i hi => by omega, fun x hx => (by cases hx)⟩ he
 have step : ∀ listed a w j o, ops[j]? = some o → (∀ e ∈ o.after, Region.binds .any e = true → listed.getD e.on false = true) → L03 P h0 w0 ops st h A (fun _ => false) [] listed a w →
   (Region.wanted o (yielded ops a.tmps) = true → o.wp P a w (L03 P h0 w0 ops st h A (fun _ => false) [] (listed.setIfInBounds j true)) Q) ∧ (Region.wanted o (yielded ops a.tmps) = false → L03 P h0 w0 ops st h A (fun _ => false) [] (listed.setIfInBounds j true) (a.put o.dst undef) w) :=
  fun listed a w j o h1 h2 h3 => T0e hD hn hB hdep hgd hP (fun j o ho => hall j o (Nat.zero_le _) ho) rfl (fun _ _ _ _ _ h => nomatch h) (fun _ h => nomatch h) (fun _ hp => nomatch hp) h1 h2 h3
 have done : ∀ listed a w, (∀ j, j < ops.size → listed.getD j false = true) → L03 P h0 w0 ops st h A (fun _ => false) [] listed a w → Q .normal a w := fun listed a w hl hi => by
  obtain ⟨be, oe, H, h', fr, hk, s, _, g⟩ := x0b (sk := fun _ => false) (fun _ h => nomatch h) hD hP hfin hl hi
  exact hQ a w _ h' be oe H hk (s.refr (fr := fr) fun t => J0.fr (g t fun _ _ _ _ => rfl))
 refine ⟨fun s => ?_, fun s => ?_⟩
 ·exact b0g hB step done ops.size _ _ _ (by simp) (by simp [List.count_replicate]) (L03.start s)
 ·exact U0e hB step done ops.toList 0 _ _ _ (fun j => by simp) (by simp) (by simp) (fun j hj => by omega) (L03.start s)
end
end Go.H
namespace Go.H
set_option linter.unusedVariables false
set_option linter.unusedSimpArgs false
def G9 (H : Hp) : List (Nat × Obj) → Hp
 | [] => H
 | p :: l => (G9 H l).set p.1 p.2
theorem g9 {H : Hp} {b : Nat} : ∀ {l : List (Nat × Obj)}, (∀ p ∈ l, p.1 ≠ b) → G9 H l b = H b
 | [], _ => rfl
 | p :: l, h => by
  rw [G9, Hp.set_other _ _ fun e => h p (List.mem_cons_self ..) e.symm]
  exact g9 fun q hq => h q (List.mem_cons_of_mem _ hq)
theorem s00 {H : Hp} : ∀ {l : List (Nat × Obj)}, (l.map fun p => p.1).Nodup → ∀ {p : Nat × Obj}, p ∈ l → G9 H l p.1 = some p.2
 | [], _, p, h => nomatch h
 | q :: l, hd, p, h => by
  rw [List.map_cons, List.nodup_cons] at hd
  rcases List.mem_cons.1 h with rfl | h
  ·exact Hp.set_same _ _ _
  ·rw [G9, Hp.set_other _ _ fun e => hd.1 (List.mem_map.2 ⟨p, h, e⟩)]
   exact s00 hd.2 h
theorem F02 {H : Hp} {l : List (Nat × Obj)} (b : Nat) : (∃ p ∈ l, p.1 = b) ∨ ∀ p ∈ l, p.1 ≠ b := by
 by_cases h : ∃ p ∈ l, p.1 = b
 ·exact .inl h
 ·exact .inr fun p hp e => h ⟨p, hp, e⟩
theorem K06 {h1 H : Hp} {w1 w : World} {l : List (Nat × Obj)} (hv : Vis (G9 h1 l) w1) (hl : ∀ p ∈ l, h1 p.1 = none ∧ p.1 < w1.heap.size) (hd : (l.map fun p => p.1).Nodup) (m : T0 h1 w1 H w) :
  T0 (G9 h1 l) w1 (G9 H l) w := by
 refine ⟨m.os, m.tape, m.output, m.size, fun b hb hn => ?_, fun b o ho => ?_, fun b hb => ?_, m.fz, m.dn⟩
 ·rcases F02 (H := h1) (l := l) b with ⟨p, hp, rfl⟩ | ho
  ·rw [s00 hd hp] at hn; cases hn
  ·rw [g9 ho] at hn; exact m.keep b hb hn
 ·rcases F02 (H := h1) (l := l) b with ⟨p, hp, rfl⟩ | h
  ·rw [s00 hd hp] at ho; cases ho
   rw [m.keep p.1 (hl p hp).2 (hl p hp).1]
   exact hv p.1 _ (s00 hd hp)
  ·rw [g9 h] at ho; exact m.vis b o ho
 ·rcases F02 (H := h1) (l := l) b with ⟨p, hp, rfl⟩ | h
  ·left; rw [s00 hd hp]; simp
  ·rw [g9 h] at hb ⊢
   exact m.fresh b hb
section
variable {P : Program} {h0 : Hp} {w0 : World} {be : Nat → Nat} {oe : Nat → Value} {H : Hp} {h : Hp} {a : Act} {w : World}
theorem Sim.base {st : St} (s : Sim P h0 w0 be oe H st h a w) {h1 : Hp} {w1 w' : World} (m : T0 h1 w1 H w') : Sim P h1 w1 be oe H st h a w' :=
 ⟨m, s.sub, s.box, s.pub, s.own, s.frz, s.bb, s.oo, s.bo, s.dfr, s.siz, s.fr⟩
theorem Sim.more {st : St} (s : Sim P h0 w0 be oe H st h a w) {l : List (Nat × Obj)} (hl : ∀ p ∈ l, H p.1 = none) {h1 : Hp} {w1 : World} (m : T0 h1 w1 (G9 H l) w) : Sim P h1 w1 be oe (G9 H l) st h a w := by
 have keep : ∀ b, H b ≠ none → G9 H l b = H b := fun b hb => g9 fun p hp e => hb (by rw [← e]; exact hl p hp)
 refine ⟨m, fun b o hb => by rw [keep b (by rw [s.sub b o hb]; simp)]; exact s.sub b o hb, fun i cs ty hi => ?_, s.pub, fun i s' e sz by_ nn xs hi => ?_, s.frz, s.bb, s.oo, s.bo, s.dfr, s.siz, s.fr⟩
 ·obtain ⟨h2, vs, h3, h4⟩ := s.box i cs ty hi
  exact ⟨h2, vs, h3, by rw [keep _ (by rw [h4]; simp)]; exact h4⟩
 ·refine (s.own i s' e sz by_ nn xs hi).keep fun g hg => ?_
  obtain ⟨k1, _, _, _, k3⟩ := (s.own i s' e sz by_ nn xs hi).block hg
  exact ⟨keep g (by rw [k3]; simp), k1⟩
theorem Sim.claim {st : St} (s : Sim P h0 w0 be oe H st h a w) {cs : List N2} {vs : List Value} {t : TypeId} {b : Nat} (hg : M0 st oe cs vs) (hH : H b = some (.cells vs.toArray t (0, 0))) (hh : h b = none)
  (Hb : ∀ i cs ty, nth st.bx i = some (.live cs ty) → be i ≠ b) (Ho : ∀ i s' e sz by_ nn xs g, nth st.ow i = some ⟨s', .live e sz by_ nn xs⟩ → (oe i).ownBlock = some g → g ≠ b) :
  let be' := fun j => if j = st.bx.length then b else be j
  let st' : St := { st with bx := st.bx ++ [.live cs t] }
  Sim P h0 w0 be' oe H st' h a w ∧ K3 st be oe st' be' oe := by
 intro be' st'
 have gr : K3 st be oe st' be' oe := by
  refine ⟨by simp [st'], fun i hi => ?_, fun i s hs => ⟨s, hs, Nat.le_refl _, fun _ => rfl⟩⟩
  simp [be', Nat.ne_of_lt hi]
 have old : ∀ i cs ty, nth st.bx i = some (.live cs ty) → be' i = be i := fun i cs ty hi => by simp [be', Nat.ne_of_lt (D7 hi)]
 have cases_ : ∀ i x, nth st'.bx i = some x → (i = st.bx.length ∧ x = .live cs t) ∨ (i ≠ st.bx.length ∧ nth st.bx i = some x) := by
  intro i x hi
  simp only [st', c8] at hi
  split at hi
  ·rename_i e; simp at hi; exact .inl ⟨e, hi.symm⟩
  ·rename_i e; exact .inr ⟨e, hi⟩
 refine ⟨⟨s.mv, s.sub, ?_, ?_, s.own, s.frz, ?_, s.oo, ?_, s.dfr, s.siz, fun t => (s.fr t).grow gr⟩, gr⟩
 ·intro i cs' ty hi
  rcases cases_ i _ hi with ⟨rfl, e⟩ | ⟨e, hi'⟩
  ·cases e
   exact ⟨by simp [be', hh], vs, hg.grow gr, by simp [be', hH]⟩
  ·obtain ⟨h1, vs', h2, h3⟩ := s.box i cs' ty hi'
   rw [old i cs' ty hi']
   exact ⟨h1, vs', h2.grow gr, h3⟩
 ·intro i b' hi
  rcases cases_ i _ hi with ⟨_, e⟩ | ⟨e, hi'⟩
  ·cases e
  ·simp [be', e, s.pub i b' hi']
 ·intro i j cs1 ty1 cs2 ty2 hi hj e
  rcases cases_ i _ hi with ⟨rfl, e1⟩ | ⟨e1, hi'⟩ <;> rcases cases_ j _ hj with ⟨rfl, e2⟩ | ⟨e2, hj'⟩
  ·rfl
  ·rw [old j _ _ hj'] at e; simp [be'] at e; exact absurd e.symm (Hb j _ _ hj')
  ·rw [old i _ _ hi'] at e; simp [be'] at e; exact absurd e (Hb i _ _ hi')
  ·rw [old i _ _ hi', old j _ _ hj'] at e; exact s.bb i j _ _ _ _ hi' hj' e
 ·intro i cs1 ty1 j s' e sz by_ nn xs hi hj hc
  rcases cases_ i _ hi with ⟨rfl, e1⟩ | ⟨e1, hi'⟩
  ·simp [be'] at hc; exact Ho j _ _ _ _ _ _ _ hj hc rfl
  ·rw [old i _ _ hi'] at hc; exact s.bo i _ _ j _ _ _ _ _ _ hi' hj hc
def z04 (a : Act) (d : Nat) : Nat := match a.tmps.getD d undef with
 | .pointer (some ⟨b, _, _⟩) => b
 | _ => 0
theorem v01 {a : Act} {d b : Nat} (e : a.tmps.getD d undef = ptr b 0) : z04 a d = b := by
 unfold z04; rw [e]; rfl
def p0g (P : Program) (H h : Hp) (a : Act) (n : Nat) (o : Oper) : Prop := a00 o = true → ∃ d t z, o.op = .alloc t ∧ o.dst = some d ∧ d < n ∧ C7 P t = some z ∧ a.tmps.getD d undef = ptr (z04 a d) 0 ∧ H (z04 a d) = some (.cells z.cells t (0, 0)) ∧ h (z04 a d) = none
def q0g (a : Act) (o o' : Oper) : Prop := a00 o = true → a00 o' = true → ∀ d d', o.dst = some d → o'.dst = some d' → z04 a d ≠ z04 a d'
theorem S08 {st : St} {h : Hp} {d : Nat} : p02 ⟨st, h, [], []⟩ d = false := rfl
theorem P0a {K : St → Hp → Prop} {fd : List (Nat × AV)} : ∀ (l : List Oper) (st : St) (be : Nat → Nat), Sim P h0 w0 be oe H { st with fr := fd } h a w →
  (∀ t, (∀ o ∈ l, a00 o = true → o.dst ≠ some t) → J0 st be oe (Q0 st.fr t) (a.tmps.getD t undef)) → (∀ o ∈ l, p0g P H h a st.n o) → l.Pairwise (q0g a) →
  (∀ i cs ty, nth st.bx i = some (.live cs ty) → ∀ o ∈ l, a00 o = true → ∀ d, o.dst = some d → be i ≠ z04 a d) →
  (∀ i s' e sz by_ nn xs g, nth st.ow i = some ⟨s', .live e sz by_ nn xs⟩ → (oe i).ownBlock = some g → ∀ o ∈ l, a00 o = true → ∀ d, o.dst = some d → g ≠ z04 a d) →
  doA (D9 P) l st h K → ∃ st' be', K st' h ∧ Sim P h0 w0 be' oe H st' h a w
 | [], st, be, s, hg, _, _, _, _, he => ⟨st, be, he, s.refr (fr := st.fr) fun t => J0.fr (st := st) (hg t fun o ho => nomatch ho)⟩
 | o :: l, st, be, s, hg, hok, hne, hb, ho, he => by
  rw [List.pairwise_cons] at hne
  have he : (match a00 o with
   | true => D9 P o st h fun st h => doA (D9 P) l st h K
   | false => doA (D9 P) l st h K) := he
  cases hal : a00 o with
  | false =>
   rw [hal] at he
   exact P0a l st be s (fun t ht => hg t fun o' ho' ha => by
    rcases List.mem_cons.1 ho' with rfl | ho'
    ·rw [hal] at ha; cases ha
    ·exact ht o' ho' ha) (fun o' ho' => hok o' (List.mem_cons_of_mem _ ho')) hne.2 (fun i cs ty hi o' ho' => hb i cs ty hi o' (List.mem_cons_of_mem _ ho')) (fun i s' e sz by_ nn xs g hi hgg o' ho' => ho i s' e sz by_ nn xs g hi hgg o' (List.mem_cons_of_mem _ ho')) he
  | true =>
   rw [hal] at he
   obtain ⟨d, t, z, q1, q2, q3, q4, q5, q6, q7⟩ := hok o (List.mem_cons_self ..) hal
   simp only [D9, d5, q1, q4, X04, q2, n06, S08] at he
   have hblt : Nat.blt d (st.withBx (st.bx ++ [.live (vals z.cells.toList) t])).n = true := by
    cases st; exact Nat.ble_eq_true_of_le q3
   simp only [hblt] at he
   obtain ⟨n, fr, bx, ow⟩ := st
   have he2 : doA (D9 P) l ⟨n, (d, .box bx.length 0) :: fr, bx ++ [.live (vals z.cells.toList) t], ow⟩ h K := he
   have harr : z.cells = z.cells.toList.toArray := by simp
   rw [harr] at q6
   obtain ⟨s2, gr⟩ := s.claim (M0.vals _ oe _) q6 q7 (fun i cs ty hi => hb i cs ty hi o (List.mem_cons_self ..) hal d q2) (fun i s' e sz by_ nn xs g hi hgg => ho i s' e sz by_ nn xs g hi hgg o (List.mem_cons_self ..) hal d q2)
   refine P0a l ⟨n, (d, .box bx.length 0) :: fr, bx ++ [.live (vals z.cells.toList) t], ow⟩ _ s2 (fun u hu => ?_) (fun o' ho' => hok o' (List.mem_cons_of_mem _ ho')) hne.2 (fun i cs ty hi o' ho' hal' d' hd' => ?_) (fun i s' e sz by_ nn xs g hi hgg o' ho' => ho i s' e sz by_ nn xs g hi hgg o' (List.mem_cons_of_mem _ ho')) he2
   ·show J0 _ _ _ (Q0 ((d, .box bx.length 0) :: fr) u) _
    rw [Z0]
    split
    ·rename_i e
     subst e
     refine ⟨by simp, ?_⟩
     rw [q5]; simp
    ·rename_i e
     have g1 := hg u fun o' ho' ha hd => by
      rcases List.mem_cons.1 ho' with rfl | ho'
      ·rw [q2] at hd; cases hd; exact e rfl
      ·exact hu o' ho' ha hd
     exact J0.fr (st := ⟨n, fd, bx ++ [.live (vals z.cells.toList) t], ow⟩) (J0.grow gr (J0.fr (st := ⟨n, fr, bx, ow⟩) (fr := fd) g1))
   ·simp only [c8] at hi
    split at hi
    ·rename_i e
     subst e
     simp only [if_pos]
     exact hne.1 o' ho' hal hal' d d' q2 hd'
    ·rename_i e
     simp only [if_neg e]
     exact hb i cs ty hi o' (List.mem_cons_of_mem _ ho') hal' d' hd'
theorem O00 {d : Nat} : ∀ {l : List Operand}, t02 d l = false → Operand.tmp d ∉ l
 | [], _, h => nomatch h
 | x :: r, hr, h => by
  rcases List.mem_cons.1 h with e | h2
  ·subst e
   simp [t02] at hr
  ·cases x <;> simp only [t02, Bool.or_eq_false_iff] at hr
   ·exact O00 hr.2 h2
   all_goals exact O00 hr h2
theorem R05 {d : Nat} : ∀ {l : List Oper}, q06 d l = false → ∀ o ∈ l, Operand.tmp d ∉ o.op.operands
 | [], _, o, h => nomatch h
 | y :: r, hr, o, h => by
  simp only [q06, Bool.or_eq_false_iff] at hr
  rcases List.mem_cons.1 h with rfl | h
  ·exact fun hm => O00 hr.1 (by simpa using hm)
  ·exact R05 hr.2 o h
theorem P09 {all : List Oper} : ∀ {l : List Oper}, okA P all l = true → ∀ o ∈ l, a00 o = true → ∃ t d z, o.op = .alloc t ∧ o.guard = none ∧ o.dst = some d ∧ C7 P t = some z ∧ ∀ o' ∈ all, Operand.tmp d ∉ o'.op.operands
 | [], _, o, h, _ => nomatch h
 | y :: r, hk, o, h, ha => by
  simp only [okA, Bool.and_eq_true] at hk
  rcases List.mem_cons.1 h with rfl | h
  ·have h1 := hk.1
   unfold a00 at ha
   split at ha
   ·rename_i t ht
    rw [ht] at h1
    simp only at h1
    split at h1
    ·rename_i d z hg hd hz
     exact ⟨t, d, z, ht, hg, hd, hz, R05 (by simpa using h1)⟩
    ·cases h1
   ·cases ha
  ·exact P09 hk.2 o h ha
theorem Q09 {o : Oper} (h : a00 o = false) : G6 o = o := by
 unfold G6 a00 at *
 split
 ·rename_i t ht; rw [ht] at h; cases h
 ·rfl
theorem J4 (o : Oper) : (G6 o).dst = o.dst := by unfold G6; split <;> rfl
theorem R09 (o : Oper) : (G6 o).after = o.after := by unfold G6; split <;> rfl
theorem S09 (o : Oper) : (G6 o).guard = o.guard := by unfold G6; split <;> rfl
theorem K4 : ∀ (l : List Oper) (i : Nat), (L2 l)[i]? = (l[i]?).map G6
 | [], i => by simp [L2]
 | o :: r, 0 => by simp [L2]
 | o :: r, i + 1 => by simp [L2, K4 r i]
theorem T07 : ∀ (l : List Oper), (L2 l).length = l.length
 | [] => rfl
 | o :: r => by simp [L2, T07 r]
theorem T09 {o : Oper} {d : Nat} (h : Operand.tmp d ∈ (G6 o).op.operands) : Operand.tmp d ∈ o.op.operands := by
 cases hal : a00 o with
 | false => rwa [Q09 hal] at h
 | true =>
  unfold a00 at hal
  split at hal
  ·rename_i t ht
   unfold G6 at h
   rw [ht] at h
   simp [Op.operands] at h
  ·cases hal
abbrev r0g := List (Nat × Nat × Obj)
def skA (pre : List Oper) (i : Nat) : Bool := match pre[i]? with
 | some o => a00 o
 | none => false
def n05 (P : Program) (h0 : Hp) (w0 : World) (pre : List Oper) (st : St) (h : Hp) (A : Asg) (listed : Array Bool) (a : Act) (w : World) : Prop :=
 ∃ (pd : r0g) (h1 : Hp) (w1 : World), T0 h0 w0 (G9 h1 (pd.map fun p => p.2)) w1 ∧ (∀ p ∈ pd, h1 p.2.1 = none ∧ p.2.1 < w1.heap.size) ∧ ((pd.map fun p => p.2).map fun p => p.1).Nodup ∧
  L03 P h1 w1 (L2 pre).toArray st h A (skA pre) (pd.map fun p => (p.1, ptr p.2.1 0)) listed a w ∧
  (∀ (j : Nat) (o : Oper) t d z, pre[j]? = some o → o.op = .alloc t → o.dst = some d → C7 P t = some z → listed.getD j false = true → ∃ b, (d, b, Obj.cells z.cells t (0, 0)) ∈ pd) ∧
  ∀ p ∈ pd, ∃ (j : Nat) (o : Oper), pre[j]? = some o ∧ a00 o = true ∧ o.dst = some p.1 ∧ listed.getD j false = true
theorem n05.start {pre : List Oper} {st : St} {A : Asg} {N : Nat} (s : Sim P h0 w0 be oe H st h a w) : n05 P h0 w0 pre st h A (Array.replicate N false) a w := by
 refine ⟨[], H, w, s.mv, fun p hp => (by cases hp), by simp, ?_, fun j o t d z _ _ _ _ hl => ?_, fun p hp => (by cases hp)⟩
 ·have s' : Sim P H w be oe H st h a w := s.base (T0.refl s.mv.vis)
  refine ⟨be, oe, H, h, fun _ _ h => h, s'.refr (fr := H1 (L2 pre) st.fr) fun t => ?_, fun p hp => (by cases hp), fun j o d _ h1 h2 h3 => ?_⟩
  ·by_cases hx : ∃ o ∈ L2 pre, o.dst = some t
   ·obtain ⟨o, h1, h2⟩ := hx
    rw [l7 h1 h2]
    trivial
   ·rw [j6 fun o ho hd => hx ⟨o, ho, hd⟩]
    exact s'.fr t
  ·simp [Array.getElem?_replicate] at h3
   split at h3 <;> cases h3
 ·simp [Array.getElem?_replicate] at hl
  split at hl <;> cases hl
theorem V0e {pre : List Oper} {st : St} {A : Asg} {Lf : FL} {Bf : List BE} {listed : Array Bool} {j : Nat} {o : Oper} {Q : Exit → Act → World → Prop}
  (hD : ∀ (i j : Nat) (oi oj : Oper) (d : Nat), (L2 pre)[i]? = some oi → (L2 pre)[j]? = some oj → oi.dst = some d → oj.dst = some d → i = j)
  (hn : ∀ o ∈ L2 pre, ∀ d, o.dst = some d → d < st.n)
  (hB : ∀ (k : Nat) (o : Oper), (L2 pre)[k]? = some o → ∀ e ∈ o.after, Region.binds .any e = true → e.on < k)
  (hdep : ∀ o ∈ L2 pre, ∀ t, Operand.tmp t ∈ o.op.operands → ∀ (i : Nat) (oi : Oper), (L2 pre)[i]? = some oi → oi.dst = some t → ∃ e ∈ o.after, Region.binds .any e = true ∧ e.on = i)
  (hgd : ∀ o ∈ L2 pre, ∀ i w, o.guard = some (i, w) → d6 i o = true)
  (hP : w07 (L2 pre) A Lf Bf (L2 pre).length)
  (hall : ∀ j o, (L2 pre)[j]? = some o → ∃ Lj bj, B6 Bf o.guard = some (A j).1 ∧ w07 (L2 pre) A Lj bj j ∧ j03 bj Bf ∧ cB bj (A j).1 = some (A j).2.1 ∧ (OpU P st h Lj bj o (A j).1 (A j).2.1 (A j).2.2 ∧ ∀ av, w03 P Lj bj (A j).1 o st = some av → (A j).2.2 = .pu av))
  (hsr : ∀ (i : Nat) (oi : Oper) (d : Nat), (L2 pre)[i]? = some oi → oi.dst = some d → skA pre i = true → ∀ o' ∈ L2 pre, Operand.tmp d ∉ o'.op.operands)
  (hsb : ∀ i, skA pre i = true → (A i).2.2 = .pu (.val undef)) (hal : ∀ o ∈ pre, a00 o = true → ∃ t d z, o.op = .alloc t ∧ o.guard = none ∧ o.dst = some d ∧ C7 P t = some z ∧ ∀ o' ∈ pre, Operand.tmp d ∉ o'.op.operands)
  (hun : listed.getD j true = false)
  (ho : pre[j]? = some o) (hrd : ∀ e ∈ o.after, Region.binds .any e = true → listed.getD e.on false = true) (hi : n05 P h0 w0 pre st h A listed a w) :
  (Region.wanted o (yielded (L2 pre).toArray a.tmps) = true → o.wp P a w (n05 P h0 w0 pre st h A (listed.setIfInBounds j true)) Q) ∧
  (Region.wanted o (yielded (L2 pre).toArray a.tmps) = false → n05 P h0 w0 pre st h A (listed.setIfInBounds j true) (a.put o.dst undef) w) := by
 obtain ⟨pd, h1, w1, m1, hp1, hnd, iu, hA1, hA2⟩ := hi
 have hmem : o ∈ pre := List.mem_of_getElem? ho
 have hx : (L2 pre)[j]? = some (G6 o) := by rw [K4, ho]; rfl
 have hlj : listed.getD j false = false := by
  have : j < listed.size := by
   rcases Nat.lt_or_ge j listed.size with h | h
   ·exact h
   ·simp [Array.getElem?_eq_none h] at hun
  simp [this] at hun ⊢
  exact hun
 have hjs : j < listed.size := by
  rcases Nat.lt_or_ge j listed.size with h | h
  ·exact h
  ·simp [Array.getElem?_eq_none h] at hun
 have hA2' : ∀ p ∈ pd, ∃ (i : Nat) (oi : Oper), (L2 pre)[i]? = some oi ∧ oi.dst = some p.1 ∧ skA pre i = true := fun p hp => by
  obtain ⟨i, oi, q1, q2, q3, _⟩ := hA2 p hp
  exact ⟨i, G6 oi, by rw [K4, q1]; rfl, by rw [J4]; exact q3, by unfold skA; rw [q1]; exact q2⟩
 cases hisa : a00 o with
 | false =>
  have hid := Q09 hisa
  rw [hid] at hx
  have hsj : skA pre j = false := by unfold skA; rw [ho]; exact hisa
  have up : ∀ a' w', L03 P h1 w1 (L2 pre).toArray st h A (skA pre) (pd.map fun p => (p.1, ptr p.2.1 0)) (listed.setIfInBounds j true) a' w' → n05 P h0 w0 pre st h A (listed.setIfInBounds j true) a' w' := fun a' w' iu' => by
   refine ⟨pd, h1, w1, m1, hp1, hnd, iu', fun i oi t d z q1 q2 q3 q4 q5 => ?_, fun p hp => ?_⟩
   ·by_cases e : j = i
    ·subst e
     rw [ho] at q1; cases q1
     unfold a00 at hisa; rw [q2] at hisa; cases hisa
    ·rw [getD_set_ne false e] at q5
     exact hA1 i oi t d z q1 q2 q3 q4 q5
   ·obtain ⟨i, oi, q1, q2, q3, q4⟩ := hA2 p hp
    exact ⟨i, oi, q1, q2, q3, getD_set_true q4⟩
  have st2 := T0e (P := P) (h0 := h1) (w0 := w1) (ops := (L2 pre).toArray) (Q := Q) (sk := skA pre) (kp := pd.map fun p => (p.1, ptr p.2.1 0)) (by simpa using hD) (by simpa using hn) (by simpa using hB) (by simpa using hdep) (by simpa using hgd) (by simpa using hP) (by simpa using hall) hsj (by simpa using hsr) hsb (fun p hp => by
   obtain ⟨q, hq, rfl⟩ := List.mem_map.1 hp
   simpa using hA2' q hq) (by simpa using hx) hrd iu
  exact ⟨fun hw => Oper.wp_mono (fun a' w' => up a' w') (st2.1 hw), fun hw => up _ _ (st2.2 hw)⟩
 | true =>
  obtain ⟨t, d, z, k1, k2, k3, k4, k5⟩ := hal o hmem hisa
  refine ⟨fun _ => ?_, fun hw => ?_⟩
  rotate_left
  ·unfold Region.wanted at hw; rw [k2] at hw; cases hw
  obtain ⟨be, oe, H, h', hs, s, keep, facts⟩ := iu
  have m2 : T0 h0 w0 (G9 H (pd.map fun p => p.2)) w := m1.trans (K06 m1.vis (fun p hp => by
   obtain ⟨q, hq, rfl⟩ := List.mem_map.1 hp
   exact hp1 q hq) hnd s.mv)
  have Hn : ∀ p ∈ pd, H p.2.1 = none := fun p hp => s.mv.none_of (hp1 p hp).2 (hp1 p hp).1
  have hw : wpS P (execOp a.eval o) (G9 H (pd.map fun p => p.2)) (fun n H' => ∃ b, G9 H (pd.map fun p => p.2) b = none ∧ n = .value (ptr b 0) ∧ H' = (G9 H (pd.map fun p => p.2)).set b (.cells z.cells t (0, 0))) := by
   unfold execOp; rw [k1]
   refine C4 _ _ _ ?_
   simp only [Instr.alloc, newVar, newRow, newObj, P0, x06 k4, U0, wpS]
   exact fun b hb => ⟨b, hb, rfl, rfl⟩
  obtain ⟨n, H', w', hr, ⟨b, hb, rfl, rfl⟩, hm⟩ := D6 _ _ _ m2.vis hw
  refine V4 hr ?_
  have hbn : ∀ p ∈ pd, p.2.1 ≠ b := fun p hp e => by
   have := s00 (H := H) hnd (List.mem_map.2 ⟨p, hp, rfl⟩)
   rw [e, hb] at this; cases this
  have hHb : H b = none := by
   rw [← hb, g9]
   intro p hp
   obtain ⟨q, hq, rfl⟩ := List.mem_map.1 hp
   exact hbn q hq
  have hv : Vis H w' := fun x ox hx' => by
   refine hm.vis x ox ?_
   rw [Hp.set_other _ _ fun e => by subst e; rw [hHb] at hx'; cases hx']
   rw [g9]
   ·exact hx'
   ·intro p hp e
    obtain ⟨q, hq, rfl⟩ := List.mem_map.1 hp
    rw [← e, Hn q hq] at hx'; cases hx'
  have hlt : d < a.tmps.size := by rw [s.siz]; exact hn (G6 o) (List.mem_of_getElem? hx) d (by rw [J4]; exact k3)
  have tself : (a.put o.dst (ptr b 0)).tmps.getD d undef = ptr b 0 := by rw [k3]; simp [Act.put, hlt]
  have tother : ∀ u, u ≠ d → (a.put o.dst (ptr b 0)).tmps.getD u undef = a.tmps.getD u undef := fun u hu => by
   rw [k3]; simp [Act.put, Array.getElem?_setIfInBounds_ne (Ne.symm hu)]
  have pne : ∀ p ∈ pd, p.1 ≠ d := fun p hp e => by
   obtain ⟨i, oi, q1, q2, q3, q4⟩ := hA2 p hp
   have := hD i j (G6 oi) (G6 o) d (by rw [K4, q1]; rfl) hx (by rw [J4, q3, e]) (by rw [J4]; exact k3)
   subst this
   rw [hlj] at q4; cases q4
  have s1 : Sim P H w' be oe H { st with fr := H1 (L2 pre) st.fr } h' a w' := (by simpa using s : Sim P h1 w1 be oe H { st with fr := H1 (L2 pre) st.fr } h' a w).base (T0.refl hv)
  have s2 : Sim P H w' be oe H { st with fr := H1 (L2 pre) st.fr } h' (a.put o.dst (ptr b 0)) w' := by
   have hp := s1.put (d := d) (av := .dead) (v := ptr b 0) (hn (G6 o) (List.mem_of_getElem? hx) d (by rw [J4]; exact k3)) trivial
   rw [k3]
   refine hp.refr (fr := H1 (L2 pre) st.fr) fun u => ?_
   have g := hp.fr u
   rw [Z0] at g
   split at g
   ·rename_i e
    subst e
    rw [l7 (List.mem_of_getElem? hx) (by rw [J4]; exact k3)]
    trivial
   ·exact g
  refine ⟨(d, b, .cells z.cells t (0, 0)) :: pd, H, w', ?_, fun p hp => ?_, ?_, ⟨be, oe, H, h', hs, by simpa using s2, fun p hp => ?_, fun i oi u q0 q1 q2 q3 => ?_⟩, fun i oi t' d' z' q1 q2 q3 q4 q5 => ?_, fun p hp => ?_⟩
  ·exact m2.trans hm
  ·rcases List.mem_cons.1 hp with rfl | hp
   ·exact ⟨hHb, hm.vis.lt (by rw [Hp.set_same]; simp)⟩
   ·exact ⟨Hn p hp, Nat.lt_of_lt_of_le (hp1 p hp).2 (Nat.le_trans s.mv.size hm.size)⟩
  ·rw [List.map_cons, List.map_cons, List.nodup_cons]
   refine ⟨fun hc => ?_, hnd⟩
   obtain ⟨q, hq, e⟩ := List.mem_map.1 hc
   obtain ⟨p, hp, rfl⟩ := List.mem_map.1 hq
   exact hbn p hp e
  ·rw [List.map_cons] at hp
   rcases List.mem_cons.1 hp with rfl | hp
   ·exact tself
   ·obtain ⟨q, hq, rfl⟩ := List.mem_map.1 hp
    rw [tother _ (pne q hq)]
    exact keep _ hp
  ·have hij : j ≠ i := fun e => by
    subst e
    have q9 : a00 o = false := by unfold skA at q0; rw [ho] at q0; exact q0
    rw [hisa] at q9; cases q9
   rw [getD_set_ne false hij] at q3
   have hud : u ≠ d := fun e => by
    subst e
    exact hij (hD j i (G6 o) oi u hx (by simpa using q1) (by rw [J4]; exact k3) q2)
   rw [tother u hud]
   exact facts i oi u q0 q1 q2 q3
  ·by_cases e : j = i
   ·subst e
    rw [ho] at q1; cases q1
    rw [k1] at q2; cases q2
    rw [k3] at q3; cases q3
    rw [k4] at q4; cases q4
    exact ⟨b, List.mem_cons_self ..⟩
   ·rw [getD_set_ne false e] at q5
    obtain ⟨b', hb'⟩ := hA1 i oi t' d' z' q1 q2 q3 q4 q5
    exact ⟨b', List.mem_cons_of_mem _ hb'⟩
  ·rcases List.mem_cons.1 hp with rfl | hp
   ·exact ⟨j, o, ho, hisa, k3, by simp [hjs]⟩
   ·obtain ⟨i, oi, q1, q2, q3, q4⟩ := hA2 p hp
    exact ⟨i, oi, q1, q2, q3, getD_set_true q4⟩
theorem U07 {α β : Type} {f : α → β} : ∀ {l : List α}, (l.map f).Nodup → ∀ {p q : α}, p ∈ l → q ∈ l → f p = f q → p = q
 | [], _, p, q, h, _, _ => nomatch h
 | x :: l, hd, p, q, hp, hq, e => by
  rw [List.map_cons, List.nodup_cons] at hd
  rcases List.mem_cons.1 hp with e1 | hp2 <;> rcases List.mem_cons.1 hq with e2 | hq2
  ·rw [e1, e2]
  ·exact absurd (List.mem_map.2 ⟨q, hq2, by rw [← e, e1]⟩) hd.1
  ·exact absurd (List.mem_map.2 ⟨p, hp2, by rw [e, e2]⟩) hd.1
  ·exact U07 hd.2 hp2 hq2 e
theorem z0e {pre : List Oper} {st : St} {A : Asg} {Lf : FL} {Bf : List BE} {K : St → Hp → Prop} {listed : Array Bool}
  (hD : ∀ (i j : Nat) (oi oj : Oper) (d : Nat), (L2 pre)[i]? = some oi → (L2 pre)[j]? = some oj → oi.dst = some d → oj.dst = some d → i = j)
  (hn : ∀ o ∈ L2 pre, ∀ d, o.dst = some d → d < st.n)
  (hsb : ∀ i, skA pre i = true → (A i).2.2 = .pu (.val undef)) (hal : ∀ o ∈ pre, a00 o = true → ∃ t d z, o.op = .alloc t ∧ o.guard = none ∧ o.dst = some d ∧ C7 P t = some z ∧ ∀ o' ∈ pre, Operand.tmp d ∉ o'.op.operands)
  (hP : w07 (L2 pre) A Lf Bf (L2 pre).length) (hfin : ∀ h', Sub h h' → s07 h' Lf st.fr fun fr => doA (D9 P) pre { st with fr := fr } h' K) (hl : ∀ j, j < pre.length → listed.getD j false = true)
  (hi : n05 P h0 w0 pre st h A listed a w) : ∃ st' h' be oe H, K st' h' ∧ Sim P h0 w0 be oe H st' h' a w := by
 obtain ⟨pd, h1, w1, m1, hp1, hnd, iu, hA1, hA2⟩ := hi
 obtain ⟨be, oe, H, h', fr, hk, s, keep, g⟩ := x0b (K := fun st h => doA (D9 P) pre st h K) (ops := (L2 pre).toArray) hsb (by simpa using hD) (by simpa using hP) hfin (fun j hj => hl j (by simpa [T07] using hj)) iu
 have m2 : T0 h0 w0 (G9 H (pd.map fun p => p.2)) w := m1.trans (K06 m1.vis (fun p hp => by
  obtain ⟨q, hq, rfl⟩ := List.mem_map.1 hp
  exact hp1 q hq) hnd s.mv)
 have Hn : ∀ p ∈ pd, H p.2.1 = none := fun p hp => s.mv.none_of (hp1 p hp).2 (hp1 p hp).1
 have s' := s.more (l := pd.map fun p => p.2) (fun p hp => by
  obtain ⟨q, hq, rfl⟩ := List.mem_map.1 hp
  exact Hn q hq) m2
 have each : ∀ o ∈ pre, a00 o = true → ∃ t d z b, o.op = .alloc t ∧ o.dst = some d ∧ C7 P t = some z ∧ (d, b, Obj.cells z.cells t (0, 0)) ∈ pd ∧ a.tmps.getD d undef = ptr b 0 := fun o ho ha => by
  obtain ⟨t, d, z, k1, k2, k3, k4, k5⟩ := hal o ho ha
  obtain ⟨j, hj⟩ := List.getElem?_of_mem ho
  obtain ⟨b, hb⟩ := hA1 j o t d z hj k1 k3 k4 (hl j (List.getElem?_eq_some_iff.1 hj).1)
  exact ⟨t, d, z, b, k1, k3, k4, hb, keep _ (List.mem_map.2 ⟨_, hb, rfl⟩)⟩
 have hnone : ∀ b, H b = none → h' b = none := fun b hb => by
  cases e : h' b with
  | none => rfl
  | some o => rw [s.sub b o e] at hb; cases hb
 refine (P0a (K := K) (fd := H1 (L2 pre).toArray.toList st.fr) pre { st with fr := fr } be s' (fun t ht => ?_) (fun o ho ha => ?_) ?_ (fun i cs ty hi o ho ha d hd => ?_) (fun i s0 e sz by_ nn xs gb hi hgb o ho ha d hd => ?_) hk).elim fun st' hx => hx.elim fun be' hx => ⟨st', h', be', oe, _, hx.1, hx.2⟩
 ·refine J0.fr (st := st) (fr := fr) (g t fun i oi q1 q2 => ?_)
  have q1 : (L2 pre)[i]? = some oi := by simpa using q1
  rw [K4] at q1
  cases e : pre[i]? with
  | none => rw [e] at q1; cases q1
  | some o0 =>
   rw [e] at q1; cases q1
   cases hal0 : a00 o0 with
   | false => unfold skA; rw [e]; exact hal0
   | true => exact absurd (by rw [← J4]; exact q2) (ht o0 (List.mem_of_getElem? e) hal0)
 ·obtain ⟨t, d, z, b, k1, k2, k3, k4, k5⟩ := each o ho ha
  have eb := v01 k5
  obtain ⟨j, hj⟩ := List.getElem?_of_mem ho
  refine ⟨d, t, z, k1, k2, hn (G6 o) (List.mem_of_getElem? (i := j) (by rw [K4, hj]; rfl)) d (by rw [J4]; exact k2), k3, by rw [eb]; exact k5, by rw [eb]; exact s00 hnd (List.mem_map.2 ⟨_, k4, rfl⟩), by rw [eb]; exact hnone b (Hn _ k4)⟩
 ·rw [List.pairwise_iff_getElem]
  intro i j hi hj hij ha ha' d d' hd hd' e
  obtain ⟨t, d1, z, b, k1, k2, k3, k4, k5⟩ := each _ (List.getElem_mem hi) ha
  obtain ⟨t', d2, z', b', q1, q2, q3, q4, q5⟩ := each _ (List.getElem_mem hj) ha'
  rw [k2] at hd; cases hd
  rw [q2] at hd'; cases hd'
  rw [v01 k5, v01 q5] at e
  subst e
  have := U07 (f := fun p : Nat × Nat × Obj => p.2.1) (by have := hnd; rw [List.map_map] at this; exact this) k4 q4 rfl
  have ed : d = d' := congrArg Prod.fst this
  subst ed
  have := hD i j (G6 pre[i]) (G6 pre[j]) d (by rw [K4, List.getElem?_eq_getElem hi]; rfl) (by rw [K4, List.getElem?_eq_getElem hj]; rfl) (by rw [J4]; exact k2) (by rw [J4]; exact q2)
  omega
 ·obtain ⟨t, d1, z, b, k1, k2, k3, k4, k5⟩ := each o ho ha
  rw [k2] at hd; cases hd
  rw [v01 k5]
  intro e
  obtain ⟨_, vs, _, h3⟩ := s.box i cs ty hi
  rw [e, Hn _ k4] at h3; cases h3
 ·obtain ⟨t, d1, z, b, k1, k2, k3, k4, k5⟩ := each o ho ha
  rw [k2] at hd; cases hd
  rw [v01 k5]
  intro e'
  obtain ⟨_, _, _, _, h3⟩ := (s.own i s0 e sz by_ nn xs hi).block hgb
  rw [e', Hn _ k4] at h3; cases h3
theorem c0g {ops : Array Oper} {Q : Exit → Act → World → Prop} {Inv : Array Bool → Act → World → Prop} (hB : ∀ (k : Nat) (o : Oper), ops.toList[k]? = some o → ∀ e ∈ o.after, Region.binds .any e = true → e.on < k)
  (hstep : ∀ listed a w j o, listed.size = ops.size → listed.getD j true = false → ops[j]? = some o → (∀ e ∈ o.after, Region.binds .any e = true → listed.getD e.on false = true) → Inv listed a w →
   (Region.wanted o (yielded ops a.tmps) = true → o.wp P a w (Inv (listed.setIfInBounds j true)) Q) ∧ (Region.wanted o (yielded ops a.tmps) = false → Inv (listed.setIfInBounds j true) (a.put o.dst undef) w))
  (hQ : ∀ listed a w, (∀ j, j < ops.size → listed.getD j false = true) → Inv listed a w → Q .normal a w) :
  ∀ (fuel : Nat) (listed : Array Bool) (a : Act) (w : World), listed.size = ops.size → listed.toList.count true + fuel = ops.size → Inv listed a w → wpAny P .any ops Q fuel listed a w
 | 0, listed, a, w, hsz, hc, hi => by
  have hall' : ∀ j, j < ops.size → listed.getD j false = true := fun j hj => by
   have h1 : ∀ b ∈ listed.toList, true = b := List.count_eq_length.1 (by simp only [Array.length_toList]; omega)
   have hlt : j < listed.size := by omega
   have := h1 listed[j] (by simp)
   simp [hlt, ← this]
  refine ⟨?_, hQ listed a w hall' hi⟩
  cases hr : Region.ready .any ops listed with
  | nil => rfl
  | cons j r =>
   have hj : j ∈ Region.ready .any ops listed := by rw [hr]; exact List.mem_cons_self ..
   obtain ⟨h1, o, h2, _⟩ := mem_ready.1 hj
   have hlt : j < ops.size := (Array.getElem?_eq_some_iff.1 h2).1
   have := hall' j hlt
   have hlt' : j < listed.size := by omega
   simp [hlt'] at this h1
   rw [this] at h1; cases h1
 | fuel + 1, listed, a, w, hsz, hc, hi => by
  refine ⟨fun hr => hQ listed a w (e03 hB hsz hr) hi, fun j hj => ?_⟩
  obtain ⟨h1, o, h2, h3⟩ := mem_ready.1 hj
  unfold wpOp
  simp only [h2]
  obtain ⟨ht, hf⟩ := hstep listed a w j o hsz h1 h2 h3 hi
  have next : ∀ a' w', Inv (listed.setIfInBounds j true) a' w' → wpAny P .any ops Q fuel (listed.setIfInBounds j true) a' w' := fun a' w' hi' => c0g hB hstep hQ fuel _ a' w' (by simpa using hsz) (by rw [count_set h1]; omega) hi'
  cases hw : Region.wanted o (yielded ops a.tmps) with
  | true =>
   rw [if_pos rfl]
   exact .inl (Oper.wp_mono next (ht hw))
  | false =>
   rw [if_neg (by simp)]
   exact next _ _ (hf hw)
theorem o05 {x : Nat} : ∀ {l : List Nat}, H0a x l = true ↔ x ∈ l
 | [] => by simp [H0a]
 | y :: r => by
  simp only [H0a, Bool.or_eq_true, List.mem_cons, o05 (l := r)]
  constructor
  ·rintro (h | h)
   ·exact .inl (Nat.eq_of_beq_eq_true h)
   ·exact .inr h
  ·rintro (rfl | h)
   ·exact .inl (Nat.beq_refl _)
   ·exact .inr h
theorem V07 {ops : List Oper} {i : Nat} : ∀ {l : List Nat}, o0e ops i l = true → ∃ j o, j ∈ l ∧ ops[j]? = some o ∧ d6 i o = true
 | [], h => by cases h
 | j :: r, h => by
  simp only [o0e, Bool.or_eq_true] at h
  rcases h with h | h
  ·split at h
   ·rename_i o ho
    rw [n00] at ho
    exact ⟨j, o, List.mem_cons_self .., ho, h⟩
   ·cases h
  ·obtain ⟨j', o, h1, h2⟩ := V07 h
   exact ⟨j', o, List.mem_cons_of_mem _ h1, h2⟩
theorem M03 {ops : List Oper} {G : Nat → Prop} (hG : ∀ i j o, G j → ops[j]? = some o → d6 i o = true → G i) : ∀ (n : Nat) (acc : List Nat), (∀ j ∈ acc, G j) → ∀ i ∈ J07 ops n acc, G i
 | 0, acc, h => h
 | n + 1, acc, h => by
  unfold J07
  split
  ·rename_i hh
   obtain ⟨j, o, h1, h2, h3⟩ := V07 hh
   exact M03 hG n _ fun i hi => by
    rcases List.mem_cons.1 hi with rfl | hi
    ·exact hG _ j o (h j h1) h2 h3
    ·exact h i hi
  ·exact M03 hG n acc h
theorem N03 {d : Nat} : ∀ {l : List Oper}, j04 d l = false → ∀ o ∈ l, o.dst ≠ some d
 | [], _, o, h => nomatch h
 | y :: r, hp, o, h => by
  simp only [j04, Bool.or_eq_false_iff] at hp
  rcases List.mem_cons.1 h with rfl | h
  ·intro hd
   rw [hd] at hp
   have := hp.1
   simp at this
  ·exact N03 hp.2 o h
theorem a01 {ml : List Nat} {t : Nat} : ∀ {l : List Oper} {k : Nat}, l01 ml t l k = true → ∀ (i : Nat) (o : Oper), l[i]? = some o → o.dst = some t → k + i ∈ ml
 | [], k, _, i, o, h, _ => by simp at h
 | y :: r, k, hw, i, o, h, hd => by
  simp only [l01, Bool.and_eq_true] at hw
  cases i with
  | zero =>
   simp at h; subst h
   have h1 := hw.1
   rw [hd] at h1
   simp at h1
   exact o05.1 h1
  | succ i =>
   have := a01 hw.2 i o (by simpa using h) hd
   rw [show k + (i + 1) = k + 1 + i by omega]; exact this
theorem B03 {i d : Nat} : ∀ {l : List Oper}, m01 i d l = true → ∀ o ∈ l, Operand.tmp d ∈ o.op.operands → d6 i o = true
 | [], _, o, h, _ => nomatch h
 | y :: r, hr, o, h, hm => by
  simp only [m01, Bool.and_eq_true, Bool.or_eq_true] at hr
  rcases List.mem_cons.1 h with rfl | h
  ·rcases hr.1 with h1 | h1
   ·have h2 : t02 d o.op.operands.toList = false := by simpa using h1
    exact absurd (show Operand.tmp d ∈ o.op.operands.toList by simpa using hm) (O00 h2)
   ·exact h1
  ·exact B03 hr.2 o h hm
theorem L06 : ∀ {l : List Oper}, t09 l = true → ∀ o ∈ l, H05 o.op = false
 | [], _, o, h => nomatch h
 | y :: r, hs, o, h => by
  simp only [t09, Bool.and_eq_true] at hs
  rcases List.mem_cons.1 h with rfl | h
  ·simpa using hs.1
  ·exact L06 hs.2 o h
def G02 (o : Oper) (x : Value) : Option Value := match o.op with
 | .extract _ k => match x with
  | .tuple vs => vs[k]?
  | _ => none
 | _ => some x
theorem P00 {o : Oper} {t : Nat} (h : i04 o = some t) : o.guard = none ∧ ((∃ k, o.op = .extract (.tmp t) k) ∨ o.op = .move (.tmp t) ∨ o.op = .assign (.tmp t)) := by
 unfold i04 at h
 split at h
 ·cases h
 ·rename_i hg
  refine ⟨hg, ?_⟩
  split at h
  ·rename_i u k e; cases h; exact .inl ⟨k, e⟩
  ·rename_i u e; cases h; exact .inr (.inl e)
  ·rename_i u e; cases h; exact .inr (.inr e)
  ·cases h
theorem U09 {o : Oper} {t : Nat} {a : Act} {v : Value} (h : i04 o = some t) (hv : G02 o (a.tmps.getD t undef) = some v) (w : World) : (execOp a.eval o).run P w = .ok (.value v) w := by
 obtain ⟨_, ⟨k, e⟩ | e | e⟩ := P00 h
 ·unfold G02 at hv; rw [e] at hv
  simp only at hv
  split at hv
  ·rename_i vs hx
   unfold execOp; rw [e]
   have hx' : a.eval (.tmp t) = .tuple vs := hx
   simp only [Instr.extract, hx', hv]
   rfl
  ·cases hv
 ·unfold G02 at hv; rw [e] at hv; cases hv
  unfold execOp; rw [e]; rfl
 ·unfold G02 at hv; rw [e] at hv; cases hv
  unfold execOp; rw [e]; rfl
theorem A0e {o : Oper} {t : Nat} {a : Act} {w : World} {N : Act → World → Prop} (h : i04 o = some t) (hw : o.wp P a w N fun _ _ _ => False) : ∃ v, G02 o (a.tmps.getD t undef) = some v ∧ N (a.put o.dst v) w := by
 obtain ⟨_, ⟨k, e⟩ | e | e⟩ := P00 h
 ·cases hx : G02 o (a.tmps.getD t undef) with
  | some v =>
   refine ⟨v, rfl, ?_⟩
   unfold Oper.wp at hw
   rw [U09 h hx w] at hw
   exact hw
  | none =>
   exfalso
   unfold G02 at hx; rw [e] at hx
   simp only at hx
   unfold Oper.wp execOp at hw; rw [e] at hw
   have ex : a.eval (.tmp t) = a.tmps.getD t undef := rfl
   simp only [Instr.extract, ex] at hw
   split at hx
   ·rename_i vs hvs
    rw [hvs] at hw
    simp only [hx] at hw
    exact hw
   ·rename_i hno
    generalize a.tmps.getD t undef = x at hw hno
    cases x <;> first | exact hw | exact absurd rfl (hno _)
 ·refine ⟨_, by unfold G02; rw [e], ?_⟩
  unfold Oper.wp execOp at hw; rw [e] at hw
  exact hw
 ·refine ⟨_, by unfold G02; rw [e], ?_⟩
  unfold Oper.wp execOp at hw; rw [e] at hw
  exact hw
def M06 (as a : Act) (D : Nat → Prop) : Prop := as.tmps.size = a.tmps.size ∧ as.defers = a.defers ∧ ∀ d, ¬ D d → as.tmps.getD d undef = a.tmps.getD d undef
theorem H9 (a : Act) (d u : Nat) (v : Value) : (a.put (some d) v).tmps.getD u undef = if d = u ∧ d < a.tmps.size then v else a.tmps.getD u undef := by
 by_cases e : d = u
 ·subst e
  by_cases h : d < a.tmps.size
  ·simp [Act.put, h]
  ·simp [Act.put, h]
 ·rw [if_neg fun h => e h.1]
  simp [Act.put, Array.getElem?_setIfInBounds_ne e]
theorem M06.put {as a : Act} {D : Nat → Prop} (l : M06 as a D) (d : Option Nat) (v : Value) : M06 (as.put d v) (a.put d v) D := by
 cases d with
 | none => exact l
 | some d =>
  refine ⟨by simp [Act.put, l.1], l.2.1, fun u hu => ?_⟩
  rw [H9, H9, l.1, l.2.2 u hu]
theorem B0e {o : Oper} {as a : Act} {w : World} {D : Nat → Prop} {N : Act → World → Prop} {Q : Exit → Act → World → Prop} (l : M06 as a D) (hs : H05 o.op = false) (hr : ∀ d, Operand.tmp d ∈ o.op.operands → ¬ D d)
  (hw : o.wp P as w N fun _ _ _ => False) : o.wp P a w (fun a' w' => ∃ as', N as' w' ∧ M06 as' a' D ∧ (∃ v, as' = as.put o.dst v ∨ ∃ x, as' = { as with defers := x }.put o.dst v) ∧ ∃ v, a' = a.put o.dst v ∨ ∃ x, a' = { a with defers := x }.put o.dst v) Q := by
 have he : execOp as.eval o = execOp a.eval o := execOp_congr o (fun cs b e => by rw [e] at hs; cases hs) fun x hx => by
  cases x with
  | tmp d => exact l.2.2 d (hr d hx)
  | _ => rfl
 unfold Oper.wp at *
 rw [he] at hw
 generalize (execOp a.eval o).run P w = r at hw
 have fin : ∀ (v : Value) (w' : World), N (as.put o.dst v) w' → ∃ as', N as' w' ∧ M06 as' (a.put o.dst v) D ∧ (∃ v, as' = as.put o.dst v ∨ ∃ x, as' = { as with defers := x }.put o.dst v) ∧ ∃ v', a.put o.dst v = a.put o.dst v' ∨ ∃ x, a.put o.dst v = { a with defers := x }.put o.dst v' :=
  fun v w' h => ⟨_, h, l.put o.dst v, ⟨v, .inl rfl⟩, v, .inl rfl⟩
 cases r with
 | ok n w' =>
  cases n with
  | value v => exact fin v w' hw
  | skip => exact fin undef w' hw
  | defer d =>
   refine ⟨_, hw, M06.put (as := { as with defers := d :: as.defers }) (a := { a with defers := d :: a.defers }) ⟨l.1, by simp [l.2.1], l.2.2⟩ o.dst undef, ⟨_, .inr ⟨_, rfl⟩⟩, _, .inr ⟨_, rfl⟩⟩
  | enter f args =>
   refine Calls.mono hw fun e w'' h => ?_
   cases e with
   | returned v => exact fin v w'' h
   | panicked c => exact h.elim
   | outgrown => obtain ⟨_, _, h⟩ := h; exact h.elim
  | row row args => exact Rows.mono hw fun v w'' h => fin v w'' h
  | _ => exact hw.elim
 | halt hh w' => cases hh <;> exact hw.elim
theorem Sim.like {st : St} {as a : Act} {h0 : Hp} {w0 : World} {be : Nat → Nat} {oe : Nat → Value} {H h : Hp} {w : World} (s : Sim P h0 w0 be oe H st h as w) {D : Nat → Prop} (l : M06 as a D) (hD : ∀ d, ¬ D d) : Sim P h0 w0 be oe H st h a w :=
 ⟨s.mv, s.sub, s.box, s.pub, s.own, s.frz, s.bb, s.oo, s.bo, by rw [← l.2.1]; exact s.dfr, by rw [← l.1]; exact s.siz, fun t => by rw [← l.2.2 t (hD t)]; exact s.fr t⟩
theorem W07 : ∀ {l : List Oper} {k : Nat}, b0d k l = true → (∀ o ∈ l, o.guard = none) ∧ ∀ (i : Nat) (o : Oper), l[i + 1]? = some o → d6 (k + i) o = true
 | [], k, h => ⟨fun o ho => (nomatch ho), fun i o hi => (nomatch hi)⟩
 | [x], k, h => by
  rw [b0d] at h
  simp only [Bool.and_eq_true] at h
  refine ⟨fun o ho => ?_, fun i o hi => nomatch hi⟩
  simp at ho; subst ho
  have h1 := h.1.1
  split at h1
  ·assumption
  ·cases h1
 | x :: y :: r, k, h => by
  rw [b0d] at h
  simp only [Bool.and_eq_true] at h
  obtain ⟨g1, g2⟩ := W07 (l := y :: r) h.2
  refine ⟨fun o ho => ?_, fun i o hi => ?_⟩
  ·rcases List.mem_cons.1 ho with rfl | ho
   ·have h1 := h.1.1
    split at h1
    ·assumption
    ·cases h1
   ·exact g1 o ho
  ·cases i with
   | zero => simp at hi; subst hi; exact h.1.2
   | succ i =>
    have := g2 i o (by simpa using hi)
    rw [show k + (i + 1) = k + 1 + i by omega]; exact this
theorem V09 {o : Oper} {st : St} {K : St → Hp → Prop} {Q : Exit → Act → World → Prop} (s : Sim P h0 w0 be oe H st h a w) (he : D9 P o st h K) :
  o.wp P a w (fun a' w' => ∃ st' h' be' oe' H', K st' h' ∧ Sim P h0 w0 be' oe' H' st' h' a' w') Q := by
 refine Oper.wp_mono (fun a' w' hn => ?_) (i6 s he)
 obtain ⟨av, st', h', v, be', oe', H', hk, rfl, s', g, gr⟩ := hn
 obtain ⟨rs', k1, k2, k3, k4⟩ := p00 (ops := #[o]) (i := 0) (rs := ⟨st', h', [], []⟩) (ch := []) (c := true) (v := v) s' ⟨(fun x hx => nomatch hx), (fun x hx => nomatch hx), (fun d ch av hl => nomatch hl)⟩ (by rfl) rfl (fun _ => g) (fun h => by cases h) hk
 exact ⟨rs'.st, rs'.h, be', oe', H', k1, k4⟩
theorem A04 {pre tl : List Oper} {ml : List Nat} : ∀ {l : List Oper} {k : Nat}, d06 pre tl ml l k = true → ∀ (i : Nat) (o : Oper), l[i]? = some o → H0a (k + i) ml = true ∨ p0b pre tl ml (k + i) o = true
 | [], k, _, i, o, h => by simp at h
 | y :: r, k, hw, i, o, h => by
  simp only [d06, Bool.and_eq_true, Bool.or_eq_true] at hw
  cases i with
  | zero => simp at h; subst h; exact hw.1
  | succ i =>
   have := A04 hw.2 i o (by simpa using h)
   rw [show k + (i + 1) = k + 1 + i by omega]; exact this
theorem Q0a {pre tl : List Oper} {ml : List Nat} {i : Nat} {o : Oper} (h : p0b pre tl ml i o = true) : ∃ t d, i04 o = some t ∧ o.dst = some d ∧ j04 d tl = false ∧ j04 t tl = false ∧ l01 ml t pre 0 = true ∧ m01 i d tl = true := by
 unfold p0b at h
 split at h
 ·rename_i t d h1 h2
  simp only [Bool.and_eq_true, Bool.not_eq_true'] at h
  exact ⟨t, d, h1, h2, h.1.1.1, h.1.1.2, h.1.2, h.2⟩
 ·cases h
theorem u0c {ops : Array Oper} {m : Nat} {st : St} {K : St → Hp → Prop} {Q : Exit → Act → World → Prop} (hb : okZ P st.n m ops.toList = true) (he : evT P (D9 P) m ops.toList st h K)
  (hQ : ∀ a w st h be oe H, K st h → Sim P h0 w0 be oe H st h a w → Q .normal a w) (s : Sim P h0 w0 be oe H st h a w) : wpAny P .any ops Q ops.size (Array.replicate ops.size false) a w := by
 simp only [okZ, t9, F6, Bool.and_eq_true, Bool.or_eq_true] at hb
 obtain ⟨⟨⟨⟨⟨⟨⟨b1, b2⟩, b3⟩, b4⟩, b5⟩, b6⟩, b7⟩, b8⟩ := hb
 generalize hpre : ops.toList.take m = pre at b1 b2 b3 b4 b5 b8
 obtain ⟨hn, hD⟩ := c9 b1
 have hB : ∀ (k : Nat) (o : Oper), (L2 pre)[k]? = some o → ∀ e ∈ o.after, Region.binds .any e = true → e.on < k := fun k o hk e he' hb => by
  have := o8 b2 k o hk e he' hb
  omega
 have hdep := r00 b3
 have hgd := R01 b4
 have hal := P09 b5
 have hBB : ∀ (k : Nat) (o : Oper), ops.toList[k]? = some o → ∀ e ∈ o.after, Region.binds .any e = true → e.on < k := fun k o hk e he' hb => by
  have := o8 b6 k o hk e he' hb
  omega
 obtain ⟨sq1, sq2⟩ := W07 b7
 unfold evT at he
 rw [hpre] at he
 obtain ⟨A, Lf, Bf, _, _, hP, hall, hfin⟩ := J06 (ops := L2 pre) hD (L2 pre) 0 [] [] (fun _ => ([], true, .pu .dead)) (fun j => by simp) (by simp)
  ⟨fun t x h => (by cases h), fun i oi d hi => by omega, fun i hi => by omega, fun x hx => (by cases hx)⟩ he
 have hpl : pre.length = min m ops.size := by rw [← hpre]; simp
 have hpg : ∀ j, j < m → ops.toList[j]? = pre[j]? := fun j hj => by rw [← hpre, List.getElem?_take, if_pos hj]
 have hdg : ∀ j, (ops.toList.drop m)[j]? = ops.toList[m + j]? := fun j => List.getElem?_drop
 have hsr : ∀ (i : Nat) (oi : Oper) (d : Nat), (L2 pre)[i]? = some oi → oi.dst = some d → skA pre i = true → ∀ o' ∈ L2 pre, Operand.tmp d ∉ o'.op.operands := fun i oi d q1 q2 q3 o' ho' hc => by
  rw [K4] at q1
  unfold skA at q3
  cases e : pre[i]? with
  | none => rw [e] at q1; cases q1
  | some o0 =>
   rw [e] at q1 q3
   cases q1
   obtain ⟨t, d1, z, k1, k2, k3, k4, k5⟩ := hal o0 (List.mem_of_getElem? e) q3
   rw [J4, k3] at q2; cases q2
   obtain ⟨j, hj⟩ := List.getElem?_of_mem ho'
   rw [K4] at hj
   cases e2 : pre[j]? with
   | none => rw [e2] at hj; cases hj
   | some o1 =>
    rw [e2] at hj; cases hj
    exact k5 o1 (List.mem_of_getElem? e2) (T09 hc)
 have hsb : ∀ i, skA pre i = true → (A i).2.2 = .pu (.val undef) := fun i q3 => by
  unfold skA at q3
  cases e : pre[i]? with
  | none => rw [e] at q3; cases q3
  | some o0 =>
   rw [e] at q3
   obtain ⟨t, d1, z, k1, k2, k3, k4, k5⟩ := hal o0 (List.mem_of_getElem? e) q3
   obtain ⟨Lj, bj, _, _, _, _, _, hu⟩ := hall i (G6 o0) (Nat.zero_le _) (by rw [K4, e]; rfl)
   refine hu _ ?_
   unfold G6
   rw [k1]
   rfl
 let Rest : Nat → Act → World → Prop := fun k a w => ∃ st' h' be oe H, doT (D9 P) (ops.toList.drop k) st' h' K ∧ Sim P h0 w0 be oe H st' h' a w
 let ml := J07 ops.toList m [m]
 let Dl : Array Bool → Nat → Prop := fun listed u => ∃ (i : Nat) (o : Oper), pre[i]? = some o ∧ listed.getD i false = false ∧ o.dst = some u
 let Lat : Array Bool → Act → Act → Prop := fun listed as a => ∀ (i : Nat) (o : Oper) (t d : Nat), pre[i]? = some o → listed.getD i false = false → i04 o = some t → o.dst = some d → G02 o (a.tmps.getD t undef) = some (as.tmps.getD d undef)
 let Inv : Array Bool → Act → World → Prop := fun listed a w => (∀ (j : Nat) (o : Oper), ops[j]? = some o → listed.getD j false = true → ∀ e ∈ o.after, Region.binds .any e = true → listed.getD e.on false = true) ∧
  (((∀ k, m ≤ k → listed.getD k false = false) ∧ n05 P h0 w0 pre st h A listed a w) ∨ ∃ k as, m < k ∧ k ≤ ops.size ∧ (∀ i, i < k → listed.getD i false = true ∨ (i < m ∧ i ∉ ml)) ∧ (∀ i, k ≤ i → listed.getD i false = false) ∧ Rest k as w ∧ M06 as a (Dl listed) ∧ Lat listed as a)
 have lateOf : m < ops.size → ∀ (i : Nat) (o : Oper), pre[i]? = some o → i ∉ ml → ∃ t d, i04 o = some t ∧ o.dst = some d ∧ j04 d (ops.toList.drop m) = false ∧ j04 t (ops.toList.drop m) = false ∧ l01 ml t pre 0 = true ∧ m01 i d (ops.toList.drop m) = true := fun hm i o hi hml => by
  rcases b8 with h | h
  ·exfalso
   have : ops.toList.drop m = [] := by
    cases e : ops.toList.drop m with
    | nil => rfl
    | cons x r => rw [e] at h; cases h
   have := List.drop_eq_nil_iff.1 this
   simp at this; omega
  ·have := A04 h.1 i o hi
   rw [Nat.zero_add] at this
   rcases this with h1 | h1
   ·exact absurd (o05.1 h1) hml
   ·exact Q0a h1
 have noselT : m < ops.size → t09 (ops.toList.drop m) = true := fun hm => by
  rcases b8 with h | h
  ·exfalso
   have : ops.toList.drop m = [] := by
    cases e : ops.toList.drop m with
    | nil => rfl
    | cons x r => rw [e] at h; cases h
   have := List.drop_eq_nil_iff.1 this
   simp at this; omega
  ·exact h.2
 have preD : ∀ (i j : Nat) (oi oj : Oper) (d : Nat), pre[i]? = some oi → pre[j]? = some oj → oi.dst = some d → oj.dst = some d → i = j := fun i j oi oj d h1 h2 h3 h4 =>
  hD i j (G6 oi) (G6 oj) d (by rw [K4, h1]; rfl) (by rw [K4, h2]; rfl) (by rw [J4]; exact h3) (by rw [J4]; exact h4)
 have preN : ∀ (i : Nat) (o : Oper) (d : Nat), pre[i]? = some o → o.dst = some d → d < st.n := fun i o d h1 h2 =>
  hn (G6 o) (List.mem_of_getElem? (i := i) (by rw [K4, h1]; rfl)) d (by rw [J4]; exact h2)
 have unl : ∀ {listed : Array Bool} {j : Nat}, listed.getD j true = false → listed.getD j false = false ∧ j < listed.size := fun {listed j} hj => by
  rcases Nat.lt_or_ge j listed.size with h | h
  ·simp [h] at hj ⊢; exact hj
  ·simp [Array.getElem?_eq_none h] at hj
 have allpre : ∀ {listed : Array Bool} {a : Act} {w : World}, (∀ j, j < pre.length → listed.getD j false = true) → n05 P h0 w0 pre st h A listed a w → Rest m a w := fun {listed a w} hl hi =>
  z0e (K := fun st h => doT (D9 P) (ops.toList.drop m) st h K) hD hn hsb hal hP hfin hl hi
 have tail : ∀ {Q : Exit → Act → World → Prop} {k : Nat} {o : Oper} {a : Act} {w : World}, ops[k]? = some o → Rest k a w → o.wp P a w (Rest (k + 1)) Q := fun {Q k o a w} ho hr => by
  obtain ⟨st', h', be, oe, H, hd, s'⟩ := hr
  have hk : k < ops.toList.length := by simpa using (Array.getElem?_eq_some_iff.1 ho).1
  have e : ops.toList.drop k = o :: ops.toList.drop (k + 1) := by
   rw [List.drop_eq_getElem_cons hk]
   congr 1
   have : ops.toList[k]? = some o := by simpa using ho
   rw [List.getElem?_eq_getElem hk] at this
   exact Option.some.inj this
  rw [e] at hd
  exact V09 s' hd
 have virt : m < ops.size → ∀ {listed : Array Bool} {a : Act} {w : World}, listed.size = ops.size → (∀ i, i < m → i ∈ ml → listed.getD i false = true) → n05 P h0 w0 pre st h A listed a w →
   ∀ k, k ≤ pre.length → ∃ l2 as, l2.size = ops.size ∧ (∀ i, i < k → l2.getD i false = true) ∧ (∀ i, k ≤ i → l2.getD i false = listed.getD i false) ∧ n05 P h0 w0 pre st h A l2 as w ∧
    M06 as a (fun u => ∃ (i : Nat) (o : Oper), i < k ∧ pre[i]? = some o ∧ listed.getD i false = false ∧ o.dst = some u) ∧
    ∀ (i : Nat) (o : Oper) (t d : Nat), i < k → pre[i]? = some o → listed.getD i false = false → i04 o = some t → o.dst = some d → G02 o (a.tmps.getD t undef) = some (as.tmps.getD d undef) := by
  intro hmN listed a w hsz hml hA k
  induction k with
  | zero => exact fun _ => ⟨listed, a, hsz, fun i hi => by omega, fun i _ => rfl, hA, ⟨rfl, rfl, fun _ _ => rfl⟩, fun i o t d hi => by omega⟩
  | succ k ih =>
   intro hk
   obtain ⟨l2, as, z1, z2, z3, z4, z5, z6⟩ := ih (by omega)
   cases hlk : listed.getD k false with
   | true =>
    refine ⟨l2, as, z1, fun i hi => ?_, fun i hi => z3 i (by omega), z4, ⟨z5.1, z5.2.1, fun u hu => z5.2.2 u fun ⟨i, o, q1, q2⟩ => hu ⟨i, o, by omega, q2⟩⟩, fun i o t d hi q1 q2 q3 q4 => ?_⟩
    ·by_cases e : i = k
     ·subst e; rw [z3 i (Nat.le_refl _)]; exact hlk
     ·exact z2 i (by omega)
    ·have : i ≠ k := fun e => by subst e; rw [hlk] at q2; cases q2
     exact z6 i o t d (by omega) q1 q2 q3 q4
   | false =>
    obtain ⟨o, ho⟩ : ∃ o, pre[k]? = some o := ⟨pre[k], List.getElem?_eq_getElem (by omega)⟩
    have hkm : k < m := by omega
    have hkml : k ∉ ml := fun h => by rw [hml k hkm h] at hlk; cases hlk
    obtain ⟨t, d, y1, y2, y3, y4, y5, y6⟩ := lateOf hmN k o ho hkml
    have hg := (P00 y1).1
    have hl2k : l2.getD k false = false := by rw [z3 k (Nat.le_refl _)]; exact hlk
    have hks : k < l2.size := by rw [z1]; omega
    have hun2 : l2.getD k true = false := by
     simp [hks] at hl2k ⊢; exact hl2k
    have hoL : ops.toList[k]? = some o := by rw [hpg k hkm]; exact ho
    have st1 := (V0e (Q := fun _ _ _ => False) hD hn hB hdep hgd hP (fun j o ho => hall j o (Nat.zero_le _) ho) hsr hsb hal hun2 ho (fun e he1 he2 => z2 e.on (hBB k o hoL e he1 he2)) z4).1 (by unfold Region.wanted; rw [hg])
    obtain ⟨v, v1, v2⟩ := A0e y1 st1
    have hasz : as.tmps.size = st.n := by
     obtain ⟨_, _, _, _, _, _, iu, _, _⟩ := z4
     obtain ⟨_, _, _, _, _, s, _⟩ := iu
     exact s.siz
    have htne : ¬ ∃ (i : Nat) (o : Oper), i < k ∧ pre[i]? = some o ∧ listed.getD i false = false ∧ o.dst = some t := fun ⟨i, o', q1, q2, q3, q4⟩ => by
     have := a01 y5 i o' q2 q4
     rw [Nat.zero_add] at this
     rw [hml i (by omega) this] at q3; cases q3
    rw [z5.2.2 t htne] at v1
    rw [y2] at v2
    refine ⟨l2.setIfInBounds k true, as.put (some d) v, by simpa using z1, fun i hi => ?_, fun i hi => ?_, v2, ⟨by simp [Act.put, z5.1], z5.2.1, fun u hu => ?_⟩, fun i o' t' d' hi q1 q2 q3 q4 => ?_⟩
    ·by_cases e : k = i
     ·subst e; simp [hks]
     ·rw [getD_set_ne false e]; exact z2 i (by omega)
    ·rw [getD_set_ne false (by omega)]; exact z3 i (by omega)
    ·rw [H9, if_neg fun e => hu ⟨k, o, by omega, ho, hlk, by rw [y2, e.1]⟩]
     exact z5.2.2 u fun ⟨i, o', q1, q2⟩ => hu ⟨i, o', by omega, q2⟩
    ·rw [H9]
     by_cases e : i = k
     ·subst e
      rw [ho] at q1; cases q1
      rw [y1] at q3; cases q3
      rw [y2] at q4; cases q4
      rw [if_pos ⟨rfl, by rw [hasz]; exact preN i o d ho y2⟩]
      exact v1
     ·rw [if_neg fun h => e (preD i k o' o d' q1 ho q4 (by rw [y2, h.1]))]
      exact z6 i o' t' d' (by omega) q1 q2 q3 q4
 refine c0g (Inv := Inv) hBB (fun listed a w j o hsz hun ho hrd hi => ?_) (fun listed a w hl hi => ?_) ops.size _ a w (by simp) (by simp [List.count_replicate]) ⟨fun j o _ h => ?_, .inl ⟨fun k _ => ?_, n05.start s⟩⟩
 rotate_left 2
 ·simp [Array.getElem?_replicate] at h
  split at h <;> cases h
 ·simp [Array.getElem?_replicate]
  split <;> simp
 rotate_left 1
 ·rcases hi.2 with ⟨hm, hA⟩ | ⟨k, as, k1, k2, k3, k4, hr, lk, lt⟩
  ·have hms : ops.size ≤ m := by
    rcases Nat.lt_or_ge m ops.size with h | h
    ·have := hm m (Nat.le_refl _)
     rw [hl m h] at this; cases this
    ·exact h
   obtain ⟨st', h', be, oe, H, hd, s'⟩ := allpre (fun j hj => hl j (by omega)) hA
   rw [List.drop_eq_nil_of_le (by simpa using hms)] at hd
   exact hQ a w st' h' be oe H hd s'
  ·have hk : k = ops.size := by
    rcases Nat.lt_or_ge k ops.size with h | h
    ·have := k4 k (Nat.le_refl _)
     rw [hl k h] at this; cases this
    ·omega
   subst hk
   obtain ⟨st', h', be, oe, H, hd, s'⟩ := hr
   rw [List.drop_eq_nil_of_le (by simp)] at hd
   refine hQ a w st' h' be oe H hd (s'.like lk fun u ⟨i, o, q1, q2, q3⟩ => ?_)
   have := (List.getElem?_eq_some_iff.1 q1).1
   rw [hl i (by omega)] at q2; cases q2
 ·obtain ⟨hcl, hi⟩ := hi
  obtain ⟨hjf, hjs⟩ := unl hun
  have hcl' : ∀ (i : Nat) (oi : Oper), ops[i]? = some oi → (listed.setIfInBounds j true).getD i false = true → ∀ e ∈ oi.after, Region.binds .any e = true → (listed.setIfInBounds j true).getD e.on false = true := fun i oi h1 h2 e he1 he2 => by
   by_cases hij : j = i
   ·subst hij
    rw [ho] at h1; cases h1
    exact getD_set_true (hrd e he1 he2)
   ·rw [getD_set_ne false hij] at h2
    exact getD_set_true (hcl i oi h1 h2 e he1 he2)
  have hoL : ops.toList[j]? = some o := by simpa using ho
  have hjlt : j < ops.size := (Array.getElem?_eq_some_iff.1 ho).1
  by_cases hjm : j < m
  ·rcases hi with ⟨hm, hA⟩ | ⟨k, as, k1, k2, k3, k4, hr, lk, lt⟩
   ·have hop : pre[j]? = some o := by rw [← hpg j hjm]; exact hoL
    have st1 := V0e (Q := Q) hD hn hB hdep hgd hP (fun j o ho => hall j o (Nat.zero_le _) ho) hsr hsb hal hun hop hrd hA
    have hyd : Region.wanted o (yielded ops a.tmps) = Region.wanted o (yielded (L2 pre).toArray a.tmps) := by
     unfold Region.wanted
     cases hg : o.guard with
     | none => rfl
     | some p =>
      obtain ⟨i, wv⟩ := p
      obtain ⟨e, he1, he2, he3⟩ := P4 (hgd (G6 o) (List.mem_of_getElem? (i := j) (by rw [K4, hop]; rfl)) i wv (by rw [S09]; exact hg))
      rw [R09] at he1
      have hlt := hBB j o hoL e he1 he2
      rw [he3] at hlt
      have hig := hpg i (by omega)
      have : yielded ops a.tmps i = yielded (L2 pre).toArray a.tmps i := by
       unfold yielded
       have e1 : ops[i]? = pre[i]? := by rw [← hig]; simp
       have e2 : (L2 pre).toArray[i]? = (pre[i]?).map G6 := by simp [K4]
       rw [e1, e2]
       cases pre[i]? with
       | none => rfl
       | some o0 => simp [J4]
      simp only [this]
    rw [hyd]
    have up : ∀ a' w', n05 P h0 w0 pre st h A (listed.setIfInBounds j true) a' w' → Inv (listed.setIfInBounds j true) a' w' := fun a' w' hx => ⟨hcl', .inl ⟨fun k hk => by rw [getD_set_ne false (by omega)]; exact hm k hk, hx⟩⟩
    exact ⟨fun hw => Oper.wp_mono up (st1.1 hw), fun hw => up _ _ (st1.2 hw)⟩
   ·have hop : pre[j]? = some o := by rw [← hpg j hjm]; exact hoL
    have hjml : j ∉ ml := by
     rcases k3 j (by omega) with h | h
     ·rw [hjf] at h; cases h
     ·exact h.2
    obtain ⟨t, d, y1, y2, y3, y4, y5, y6⟩ := lateOf (by omega) j o hop hjml
    have hg := (P00 y1).1
    refine ⟨fun _ => ?_, fun hw => by unfold Region.wanted at hw; rw [hg] at hw; cases hw⟩
    unfold Oper.wp
    rw [U09 y1 (lt j o t d hop hjf y1 y2) w]
    refine ⟨hcl', .inr ⟨k, as, k1, k2, fun i hi => ?_, fun i hi => ?_, hr, ⟨by rw [y2]; simp [Act.put, lk.1], by rw [y2]; exact lk.2.1, fun u hu => ?_⟩, fun i o' t' d' q1 q2 q3 q4 => ?_⟩⟩
    ·rcases k3 i hi with h | h
     ·exact .inl (getD_set_true h)
     ·exact .inr h
    ·rw [getD_set_ne false (by omega)]; exact k4 i hi
    ·rw [y2, H9]
     by_cases e : d = u
     ·subst e
      by_cases hlt : d < a.tmps.size
      ·rw [if_pos ⟨rfl, hlt⟩]
      ·rw [if_neg fun h => hlt h.2]
       have e1 : ∀ (x : Act), ¬ d < x.tmps.size → x.tmps.getD d undef = undef := fun x hx => by
        simp [Array.getElem?_eq_none (Nat.le_of_not_lt hx)]
       rw [e1 a hlt, e1 as (by rw [lk.1]; exact hlt)]
     ·rw [if_neg fun h => e h.1]
      refine lk.2.2 u fun ⟨i, o', q1, q2, q3⟩ => ?_
      by_cases e2 : j = i
      ·subst e2
       rw [hop] at q1; cases q1
       rw [y2] at q3; cases q3
       exact e rfl
      ·exact hu ⟨i, o', q1, by rw [getD_set_ne false e2]; exact q2, q3⟩
    ·have e2 : j ≠ i := fun e2 => by subst e2; simp [hjs] at q2
     rw [getD_set_ne false e2] at q2
     have hi' := (List.getElem?_eq_some_iff.1 q1).1
     have himl : i ∉ ml := by
      rcases k3 i (by omega) with h | h
      ·rw [q2] at h; cases h
      ·exact h.2
     obtain ⟨t2, d2, x1, x2, x3, x4, x5, x6⟩ := lateOf (by omega) i o' q1 himl
     rw [q3] at x1; cases x1
     rw [y2, H9, if_neg fun h => ?_]
     ·exact lt i o' t' d' q1 q2 q3 q4
     ·have := a01 x5 j o hop (by rw [y2, h.1])
      rw [Nat.zero_add] at this
      exact hjml this
  ·have hg : o.guard = none := sq1 o (List.mem_of_getElem? (i := j - m) (by rw [hdg]; rw [show m + (j - m) = j by omega]; exact hoL))
   have prev : m < j → listed.getD (j - 1) false = true := fun hlt => by
    have := sq2 (j - m - 1) o (by rw [hdg]; rw [show m + (j - m - 1 + 1) = j by omega]; exact hoL)
    obtain ⟨e, he1, he2, he3⟩ := P4 this
    have := hrd e he1 he2
    rw [he3, show m + (j - m - 1) = j - 1 by omega] at this
    exact this
   refine ⟨fun _ => ?_, fun hw => by unfold Region.wanted at hw; rw [hg] at hw; cases hw⟩
   have hmt : o ∈ ops.toList.drop m := List.mem_of_getElem? (i := j - m) (by rw [hdg, show m + (j - m) = j by omega]; exact hoL)
   have go : ∀ as, (∀ i, i < j → listed.getD i false = true ∨ (i < m ∧ i ∉ ml)) → (∀ i, j ≤ i → listed.getD i false = false) → Rest j as w → M06 as a (Dl listed) → Lat listed as a → o.wp P a w (Inv (listed.setIfInBounds j true)) Q := fun as q1 q2 hr lk lt => by
    have hjD : ∀ u, Dl (listed.setIfInBounds j true) u ↔ Dl listed u := fun u => by
     constructor
     ·rintro ⟨i, o', p1, p2, p3⟩
      have := (List.getElem?_eq_some_iff.1 p1).1
      rw [getD_set_ne false (by omega)] at p2
      exact ⟨i, o', p1, p2, p3⟩
     ·rintro ⟨i, o', p1, p2, p3⟩
      have := (List.getElem?_eq_some_iff.1 p1).1
      exact ⟨i, o', p1, by rw [getD_set_ne false (by omega)]; exact p2, p3⟩
    have lateU : ∀ (i : Nat) (o' : Oper), pre[i]? = some o' → listed.getD i false = false → i ∉ ml := fun i o' p1 p2 => by
     have := (List.getElem?_eq_some_iff.1 p1).1
     rcases q1 i (by omega) with h | h
     ·rw [p2] at h; cases h
     ·exact h.2
    refine Oper.wp_mono (fun a' w' hx => ?_) (B0e (Q := Q) lk (L06 (noselT (by omega)) o hmt) (fun u hu ⟨i, o', p1, p2, p3⟩ => ?_) (tail (Q := fun _ _ _ => False) ho hr))
    ·obtain ⟨as', hr', lk', ⟨v1, hv1⟩, v2, hv2⟩ := hx
     have e1 : ∀ u, o.dst ≠ some u → as'.tmps.getD u undef = as.tmps.getD u undef := fun u hu => by
      cases hd : o.dst with
      | none =>
       rw [hd] at hv1
       rcases hv1 with h | ⟨x, h⟩ <;> rw [h] <;> rfl
      | some d =>
       rw [hd] at hv1 hu
       rcases hv1 with h | ⟨x, h⟩ <;> rw [h, H9, if_neg fun h => hu (by rw [h.1])]
     have e2 : ∀ u, o.dst ≠ some u → a'.tmps.getD u undef = a.tmps.getD u undef := fun u hu => by
      cases hd : o.dst with
      | none =>
       rw [hd] at hv2
       rcases hv2 with h | ⟨x, h⟩ <;> rw [h] <;> rfl
      | some d =>
       rw [hd] at hv2 hu
       rcases hv2 with h | ⟨x, h⟩ <;> rw [h, H9, if_neg fun h => hu (by rw [h.1])]
     refine ⟨hcl', .inr ⟨j + 1, as', by omega, by omega, fun i hi => ?_, fun i hi => ?_, hr', ⟨lk'.1, lk'.2.1, fun u hu => lk'.2.2 u fun h => hu ((hjD u).2 h)⟩, fun i o' t d p1 p2 p3 p4 => ?_⟩⟩
     ·by_cases e : j = i
      ·subst e; left; simp [hjs]
      ·rw [getD_set_ne false e]; exact q1 i (by omega)
     ·rw [getD_set_ne false (by omega)]; exact q2 i (by omega)
     ·have hi' := (List.getElem?_eq_some_iff.1 p1).1
      rw [getD_set_ne false (by omega)] at p2
      obtain ⟨t2, d2, x1, x2, x3, x4, x5, x6⟩ := lateOf (by omega) i o' p1 (lateU i o' p1 p2)
      rw [p3] at x1; cases x1
      rw [p4] at x2; cases x2
      rw [e1 d (N03 x3 o hmt), e2 t (N03 x4 o hmt)]
      exact lt i o' t d p1 p2 p3 p4
    ·obtain ⟨t2, d2, x1, x2, x3, x4, x5, x6⟩ := lateOf (by omega) i o' p1 (lateU i o' p1 p2)
     rw [p3] at x2; cases x2
     obtain ⟨e, he1, he2, he3⟩ := P4 (B03 x6 o hmt hu)
     have := hrd e he1 he2
     rw [he3, p2] at this; cases this
   rcases hi with ⟨hm, hA⟩ | ⟨k, as, k1, k2, k3, k4, hr, lk, lt⟩
   ·have hjm' : j = m := by
     rcases Nat.lt_or_ge m j with h | h
     ·have := prev h
      rw [hm (j - 1) (by omega)] at this; cases this
     ·omega
    subst hjm'
    have hml : ∀ i, i < j → i ∈ ml → listed.getD i false = true := fun i hi hmi => by
     have := M03 (G := fun i => i = j ∨ listed.getD i false = true) (ops := ops.toList) (fun i' j' o' hG ho' he' => ?_) j [j] (fun x hx => .inl (by simpa using hx)) i hmi
     ·rcases this with h | h
      ·omega
      ·exact h
     ·obtain ⟨e, he1, he2, he3⟩ := P4 he'
      rw [← he3]
      right
      rcases hG with rfl | hG
      ·rw [hoL] at ho'; cases ho'
       exact hrd e he1 he2
      ·exact hcl j' o' (by simpa using ho') hG e he1 he2
    obtain ⟨l2, as, z1, z2, z3, z4, z5, z6⟩ := virt hjlt (by assumption) hml hA pre.length (Nat.le_refl _)
    refine go as (fun i hi => ?_) hm (allpre (fun i hi => z2 i hi) z4) ⟨z5.1, z5.2.1, fun u hu => z5.2.2 u fun ⟨i, o', p1, p2⟩ => hu ⟨i, o', p2⟩⟩ (fun i o' t d p1 p2 p3 p4 => z6 i o' t d (List.getElem?_eq_some_iff.1 p1).1 p1 p2 p3 p4)
    by_cases h : i ∈ ml
    ·exact .inl (hml i hi h)
    ·exact .inr ⟨hi, h⟩
   ·have hjk : j = k := by
     have h1 : k ≤ j := by
      rcases Nat.lt_or_ge j k with h | h
      ·rcases k3 j h with h2 | h2
       ·rw [hjf] at h2; cases h2
       ·omega
      ·exact h
     rcases Nat.lt_or_ge k j with h | h
     ·have := prev (by omega)
      rw [k4 (j - 1) (by omega)] at this; cases this
     ·omega
    subst hjk
    exact go as k3 k4 hr lk lt
end
end Go.H
namespace Go.H
set_option linter.unusedVariables false
set_option linter.unusedSimpArgs false
section
variable {P : Program} {h0 : Hp} {w0 : World} {Q : Exit → Act → World → Prop} {ops : Array Oper} {K : RS → Prop}
theorem W09 {be : Nat → Nat} {oe : Nat → Value} {H : Hp} {rs : RS} {a : Act} {w : World} {o : Oper} {i : Nat} {Kr : RS → Prop} (s : Sim P h0 w0 be oe H rs.st rs.h a w) (r : B02 ops be oe rs a i) (ho : ops[i]? = some o)
  {ch : List (Nat × Bool)} {c : Bool} (hch : B6 rs.bs o.guard = some ch) (hc : cB rs.bs ch = some c) (he : evG P o ch c rs fun av => n06 o.dst i ch av rs Kr) :
  ∃ v rs', Kr rs' ∧ B02 ops be oe rs' (a.put o.dst v) (i + 1) ∧ Sim P h0 w0 be oe H rs'.st rs'.h (a.put o.dst v) w ∧ Region.wanted o (yielded ops a.tmps) = c ∧
   (c = true → ∀ w', CW H w w' → o.quietAt P a (CW H w) w' v) ∧ (c = false → v = undef) := by
 obtain ⟨av, hk, hq⟩ := m0c s r hc he
 have hw := l0c r hch hc
 cases c with
 | true =>
  obtain ⟨v, hg, hqv⟩ := hq rfl
  obtain ⟨rs', k1, _, k3, k4⟩ := p00 s r ho hc (fun _ => hg) (fun h => by cases h) hk
  exact ⟨v, rs', k1, k3, k4, hw, fun _ => hqv, fun h => by cases h⟩
 | false =>
  obtain ⟨rs', k1, _, k3, k4⟩ := p00 (v := undef) s r ho hc (fun h => by cases h) (fun _ => rfl) hk
  exact ⟨undef, rs', k1, k3, k4, hw, (fun h => nomatch h), fun _ => rfl⟩
theorem Q00 (hQ : ∀ rs a w be oe H, K rs → Sim P h0 w0 be oe H rs.st rs.h a w → Q .normal a w) : ∀ (l : List Oper) (i : Nat) (rs : RS) (a : Act) (w : World) (be : Nat → Nat) (oe : Nat → Value) (H : Hp),
  (∀ j, l[j]? = ops[i + j]?) → Sim P h0 w0 be oe H rs.st rs.h a w → B02 ops be oe rs a i → I05 P l i rs K → wpList P ops Q l a w
 | [], i, rs, a, w, be, oe, H, _, s, _, he => hQ rs a w be oe H he s
 | o :: l, i, rs, a, w, be, oe, H, hl, s, r, he => by
  have ho : ops[i]? = some o := by simpa using (hl 0).symm
  have hl' : ∀ j, l[j]? = ops[i + 1 + j]? := fun j => by have := hl (j + 1); simpa [Nat.add_assoc, Nat.add_comm 1 j] using this
  have gen : ∀ ch c, B6 rs.bs o.guard = some ch → cB rs.bs ch = some c → (evG P o ch c rs fun av => n06 o.dst i ch av rs fun rs => I05 P l (i + 1) rs K) → wpList P ops Q (o :: l) a w := by
   intro ch c hch hc he
   obtain ⟨v, rs', k1, k2, k3, hw, hq, hn⟩ := W09 s r ho hch hc he
   unfold wpList
   rw [hw]
   cases c with
   | false =>
    rw [if_neg (by simp), ← hn rfl]
    exact Q00 hQ l (i + 1) rs' _ w be oe H hl' k3 k2 k1
   | true =>
    rw [if_pos rfl]
    refine .inl (Oper.wp_of_quiet (C := CW H w) (K := fun a' => a' = a.put o.dst v) (T0.refl s.mv.vis) (fun a' w' m e => ?_) ⟨v, hq rfl, rfl⟩)
    subst e
    exact Q00 hQ l (i + 1) rs' _ w' be oe H hl' (k3.still (hf := H) (fun _ _ h => h) m) k2 k1
  simp only [I05] at he
  split at he
  ·rename_i hg hp
   have hw : Region.wanted o (yielded ops a.tmps) = true := by unfold Region.wanted; rw [hg]
   unfold wpList
   rw [if_pos hw]
   refine .inl (Oper.wp_mono (fun a' w' hn => ?_) (i6 (Q := Q) s he))
   obtain ⟨av, st', h', v, be', oe', H', hk, rfl, s', g, gr⟩ := hn
   obtain ⟨rs', k1, _, k3, k4⟩ := p00 (rs := { rs with st := st', h := h' }) (ch := []) (c := true) (v := v) s' (r.grow gr) ho rfl (fun _ => g) (fun h => by cases h) hk
   exact Q00 hQ l (i + 1) rs' _ w' be' oe' H' hl' k4 k3 k1
  ·split at he
   ·rename_i ch hch
    split at he
    ·rename_i c hc
     exact gen ch c hch hc he
    ·exact he.elim
   ·exact he.elim
theorem X07 {be : Nat → Nat} {oe : Nat → Value} {H : Hp} {w : World} (hQ : ∀ rs a w be oe H, K rs → Sim P h0 w0 be oe H rs.st rs.h a w → Q .normal a w) : ∀ (l : List Oper) (i : Nat) (rs : RS) (a : Act),
  (∀ j, l[j]? = ops[i + j]?) → Sim P h0 w0 be oe H rs.st rs.h a w → B02 ops be oe rs a i → evQ P l i rs K → wpQuiet P ops (CW H w) (fun a' => ∀ w', CW H w w' → Q .normal a' w') l a
 | [], i, rs, a, _, s, _, he => fun w' m => hQ rs a w' be oe H he (s.still (hf := H) (fun _ _ h => h) m)
 | o :: l, i, rs, a, hl, s, r, he => by
  have ho : ops[i]? = some o := by simpa using (hl 0).symm
  have hl' : ∀ j, l[j]? = ops[i + 1 + j]? := fun j => by have := hl (j + 1); simpa [Nat.add_assoc, Nat.add_comm 1 j] using this
  simp only [evQ] at he
  split at he
  ·rename_i ch hch
   split at he
   ·rename_i c hc
    obtain ⟨v, rs', k1, k2, k3, hw, hq, hn⟩ := W09 s r ho hch hc he
    have ih := X07 hQ l (i + 1) rs' _ hl' k3 k2 k1
    unfold wpQuiet
    rw [hw]
    cases c with
    | false => rw [if_neg (by simp), ← hn rfl]; exact ih
    | true => rw [if_pos rfl]; exact ⟨v, hq rfl, ih⟩
   ·exact he.elim
  ·exact he.elim
theorem B02.init {be : Nat → Nat} {oe : Nat → Value} {st : St} {h : Hp} {a : Act} : B02 ops be oe ⟨st, h, [], []⟩ a 0 :=
 ⟨(fun x hx => nomatch hx), (fun x hx => nomatch hx), (fun d ch av hl => nomatch hl)⟩
def T08 (P : Program) (h0 : Hp) (w0 : World) (Q : Ex → St → Hp → Prop) : Exit → Act → World → Prop
 | .normal, a, w => ∃ st h be oe H, Q .normal st h ∧ Sim P h0 w0 be oe H st h a w
 | .exit i, a, w => ∃ st h be oe H, Q (.exit i) st h ∧ Sim P h0 w0 be oe H st h a w
 | .ret, a, w => ∃ st h be oe H, Q .ret st h ∧ Sim P h0 w0 be oe H st h a w
 | _, _, _ => False
variable {be : Nat → Nat} {oe : Nat → Value} {H : Hp} {st : St} {h : Hp} {a : Act} {w : World}
theorem U08 {Q : Ex → St → Hp → Prop} {id : Nat} {d : Bool} (s : Sim P h0 w0 be oe H st h a w) (he : ev P (.region id ops d) Q st h) : (Code.region id ops d).wp P (T08 P h0 w0 Q) a w := by
 cases d with
 | false =>
  simp only [ev] at he
  split at he
  ·exact wp_region_list ((O09 (h0 := h0) (w0 := w0) he.1 he.2 fun a w st h be oe H hk s => ⟨st, h, be, oe, H, hk, s⟩).2 s)
  ·exact wp_region_list (Q00 (K := fun rs => Q .normal rs.st rs.h) (fun rs a w be oe H hk s => ⟨rs.st, rs.h, be, oe, H, hk, s⟩) _ 0 ⟨st, h, [], []⟩ a w be oe H (fun j => by simp) s B02.init he)
 | true =>
  rcases he with ⟨⟨h1, h2⟩, he⟩ | ⟨⟨h1, h2⟩, he⟩ | he | ⟨⟨h1, h2⟩, he⟩ | ⟨m, ⟨h1, h2⟩, he⟩
  ·refine wp_region_quiet (C := CW H w) h1 h2 (T0.drawn s.mv.vis _ (by first | exact Nat.le_succ _ | exact Nat.le_add_right _ _ | exact Nat.le_refl _)) ?_
   exact X07 (K := fun rs => Q .normal rs.st rs.h) (fun rs a w be oe H hk s => ⟨rs.st, rs.h, be, oe, H, hk, s⟩) _ 0 ⟨st, h, [], []⟩ a (fun j => by simp) s B02.init he
  ·exact wp_region_any h1 (n0c (s.still (hf := H) (fun _ _ h => h) (T0.drawn s.mv.vis _ (by first | exact Nat.le_succ _ | exact Nat.le_add_right _ _ | exact Nat.le_refl _))) h2 he fun a w st h be oe H hk s => ⟨st, h, be, oe, H, hk, s⟩)
  ·split at he
   ·obtain ⟨⟨h1, h2⟩, he⟩ := he
    exact wp_region_any h1 (q0c (s.still (hf := H) (fun _ _ h => h) (T0.drawn s.mv.vis _ (by first | exact Nat.le_succ _ | exact Nat.le_add_right _ _ | exact Nat.le_refl _))) h2 he fun a w st h be oe H hk s => ⟨st, h, be, oe, H, hk, s⟩)
   ·rename_i o hp
    obtain ⟨⟨h1, h2⟩, he⟩ := he
    simp only [Bool.and_eq_true] at h2
    obtain ⟨e1, hg, hall⟩ := s0c hp
    have s' := s.still (hf := H) (fun _ _ h => h) (T0.drawn s.mv.vis (w.drawn + 1) (by first | exact Nat.le_succ _ | exact Nat.le_add_right _ _ | exact Nat.le_refl _))
    obtain ⟨Inv, k1, k2, k3, k4⟩ := K09 (ops := (W6 ops.toList).toArray) (Q := T08 P h0 w0 Q) (R := fun a w => o.wp P a w (fun a w => T08 P h0 w0 Q .normal a w) (T08 P h0 w0 Q)) s' (by simpa using h2.1) (by simpa using he) fun a w st h be oe H hk s => by
     refine Oper.wp_mono (fun a' w' hn => ?_) (i6 (Q := T08 P h0 w0 Q) s hk)
     obtain ⟨av, st', h', v, be', oe', H', hk, rfl, s', g, gr⟩ := hn
     obtain ⟨rs', k1, k2, k3, k4⟩ := p00 (ops := #[o]) (i := 0) (rs := ⟨st', h', [], []⟩) (ch := []) (c := true) (v := v) s' B02.init (by rfl) rfl (fun _ => g) (fun h => by cases h) hk
     exact ⟨rs'.st, rs'.h, be', oe', H', k1, k4⟩
    exact wp_region_any h1 (a0g (ops0 := (W6 ops.toList).toArray) (o := o) (Inv := Inv) (by simpa using e1) (fun k o hk e he' hb => by
     have := o8 h2.2 k o hk e he' hb
     omega) hg (fun k hk => Z00 hall k (by simpa using hk) (by simp at hk; omega)) k2 k3 k4)
  ·exact wp_region_any h1 ((O09 (h0 := h0) (w0 := w0) h2 he fun a w st h be oe H hk s => ⟨st, h, be, oe, H, hk, s⟩).1 (s.still (hf := H) (fun _ _ h => h) (T0.drawn s.mv.vis _ (by first | exact Nat.le_succ _ | exact Nat.le_add_right _ _ | exact Nat.le_refl _))))
  ·exact wp_region_any h1 (u0c h2 he (fun a w st h be oe H hk s => ⟨st, h, be, oe, H, hk, s⟩) (s.still (hf := H) (fun _ _ h => h) (T0.drawn s.mv.vis _ (by first | exact Nat.le_succ _ | exact Nat.le_add_right _ _ | exact Nat.le_refl _))))
end
end Go.H
namespace Go.H
set_option linter.unusedVariables false
set_option linter.unusedSimpArgs false
theorem I9 (x : Nat) : ∀ l : List Nat, i03 x l = true ↔ x ∈ l
 | [] => by simp [i03]
 | y :: r => by
  simp only [i03]
  cases h : Nat.beq x y with
  | true => simp [Nat.eq_of_beq_eq_true h]
  | false => simp [I9 x r, Nat.ne_of_beq_eq_false h]
theorem S01 {x : Nat} {l : List Nat} (h : i03 x l = false) : x ∉ l := fun hm => by rw [(I9 x l).2 hm] at h; cases h
theorem Y07 : ∀ (l : List Nat) (K : List Nat → Prop), Y04 l K = K l
 | [], K => rfl
 | x :: r, K => by simp only [Y04, Y07 r]
theorem B04 : ∀ (n : Nat) {K : List Value → Prop}, l04 n K → ∀ vs : List Value, vs.length = n → K vs
 | 0, K, h, vs, hl => by rw [List.length_eq_zero_iff.1 hl]; exact h
 | n + 1, K, h, [], hl => by cases hl
 | n + 1, K, h, v :: vs, hl => B04 n (h v) vs (by simpa using hl)
theorem C04 : ∀ (n : Nat) {K : List (List (List Value)) → Prop}, m04 n K → ∀ os : List (List (List Value)), os.length = n → K os
 | 0, K, h, vs, hl => by rw [List.length_eq_zero_iff.1 hl]; exact h
 | n + 1, K, h, [], hl => by cases hl
 | n + 1, K, h, v :: vs, hl => C04 n (h v) vs (by simpa using hl)
theorem O03 {α : Type} : ∀ (a b : List α) (K : List α → List α → Prop), u02 a.length (a ++ b) K = K a b
 | [], b, K => rfl
 | x :: a, b, K => by simp only [List.length_cons, List.cons_append, u02, O03 a b]
theorem p05 (e : St) : ∀ (l : List Nat) {K : List Value → Prop}, p0e l e K → ∃ vs, vs.length = l.length ∧ K vs ∧
  ∀ acc t, (Q0 (Z04 l vs acc) t = Q0 acc t ∧ t ∉ l) ∨ (∃ v, Q0 (Z04 l vs acc) t = .val v ∧ rdA e (Q0 e.fr t) = .val v)
 | [], K, h => ⟨[], rfl, h, fun acc t => .inl ⟨rfl, by simp⟩⟩
 | s :: r, K, h => by
  simp only [p0e] at h
  split at h
  ·rename_i v hv
   obtain ⟨vs, h1, h2, h3⟩ := p05 e r h
   refine ⟨v :: vs, by simp [h1], h2, fun acc t => ?_⟩
   rcases h3 ((s, .val v) :: acc) t with ⟨h4, h5⟩ | h4
   ·by_cases e' : s = t
    ·subst e'
     exact .inr ⟨v, by simp only [Z04, h4, Z0, if_true], hv⟩
    ·exact .inl ⟨by simp only [Z04, h4, Z0, if_neg e'], by simp [h5, Ne.symm e']⟩
   ·exact .inr h4
  ·exact h.elim
def t00 (B : Nat → Nat → Prop) : List N2 → Prop
 | [] => True
 | .val _ :: r => t00 B r
 | .own i k :: r => B i k ∧ t00 B r
def ShC (e : St) : List N2 → List N2 → Prop
 | [], [] => True
 | .val _ :: r, .val _ :: r' => ShC e r r'
 | .own i _ :: r, .own j k' :: r' => i = j ∧ (∃ b, rdA e (.own j k') = .own j b) ∧ ShC e r r'
 | _, _ => False
def EqC (e : St) : List N2 → List N2 → Prop
 | [], [] => True
 | .val v :: r, .val v' :: r' => v = v' ∧ EqC e r r'
 | .own i _ :: r, .own j k' :: r' => i = j ∧ (∃ b, rdA e (.own j k') = .own j b) ∧ EqC e r r'
 | _, _ => False
theorem EqC.sh {e : St} : ∀ {cs cs' : List N2}, EqC e cs cs' → ShC e cs cs'
 | [], [], _ => trivial
 | .val _ :: r, .val _ :: r', h => EqC.sh (cs := r) (cs' := r') h.2
 | .own i _ :: r, .own j k' :: r', h => ⟨h.1, h.2.1, EqC.sh (cs := r) (cs' := r') h.2.2⟩
 | [], _ :: _, h => h.elim
 | .val _ :: _, [], h => h.elim
 | .own _ _ :: _, [], h => h.elim
 | .val _ :: _, .own _ _ :: _, h => h.elim
 | .own _ _ :: _, .val _ :: _, h => h.elim
theorem D04 {e : St} {i k a b : Nat} (h : rdA e (.own i k) = .own a b) : a = i ∧ b = k := by
 simp only [rdA] at h
 split at h
 ·split at h
  ·split at h
   ·cases h; exact ⟨rfl, rfl⟩
   ·cases h
  ·cases h
 ·cases h
theorem T01 {hd e : St} : ∀ (cs cs' : List N2), q01 hd e cs cs' = true → ShC e cs cs'
 | [], [], _ => trivial
 | .val _ :: r, .val _ :: r', h => T01 r r' h
 | .own i _ :: r, .own j k' :: r', h => by
  simp only [q01] at h
  split at h
  ·rename_i a b hb hr
   obtain ⟨rfl, _⟩ := D04 hr
   exact ⟨Nat.eq_of_beq_eq_true hb, ⟨_, hr⟩, T01 r r' h⟩
  ·cases h
 | [], _ :: _, h => by cases h
 | .val _ :: _, [], h => by cases h
 | .own _ _ :: _, [], h => by cases h
 | .val _ :: _, .own _ _ :: _, h => by cases h
 | .own _ _ :: _, .val _ :: _, h => by cases h
theorem q05 (e : St) : ∀ (cs cs' : List N2), ShC e cs cs' → ∀ {K : List Value → Prop}, w09 cs' e K → ∃ vs, K vs ∧ ∃ cs2, (∀ (rest : List Value) (K2 : List N2 → List Value → Prop), w9 cs (vs ++ rest) K2 = K2 cs2 rest) ∧ EqC e cs2 cs' ∧
  (∀ B, t00 B cs → t00 B cs2)
 | [], [], _, K, h => ⟨[], h, [], fun _ _ => rfl, trivial, fun _ h => h⟩
 | .val _ :: r, .val v :: r', hs, K, h => by
  obtain ⟨vs, h1, cs2, h2, h3, h4⟩ := q05 e r r' hs (K := fun vs => K (v :: vs)) h
  exact ⟨v :: vs, h1, .val v :: cs2, fun rest K2 => by simp only [List.cons_append, w9, h2], ⟨rfl, h3⟩, fun B hB => h4 B hB⟩
 | .own i k :: r, .own j k' :: r', hs, K, h => by
  obtain ⟨vs, h1, cs2, h2, h3, h4⟩ := q05 e r r' hs.2.2 (K := K) h
  exact ⟨vs, h1, .own i k :: cs2, fun rest K2 => by simp only [w9, h2], ⟨hs.1, hs.2.1, h3⟩, fun B hB => ⟨hB.1, h4 B hB.2⟩⟩
 | [], _ :: _, h, _, _ => h.elim
 | .val _ :: _, [], h, _, _ => h.elim
 | .own _ _ :: _, [], h, _, _ => h.elim
 | .val _ :: _, .own _ _ :: _, h, _, _ => h.elim
 | .own _ _ :: _, .val _ :: _, h, _, _ => h.elim
theorem r05 (e : St) : ∀ (cs : List N2) {K : List Value → Prop}, w09 cs e K → ∃ vs, K vs ∧ ∀ (rest : List Value) (K2 : List N2 → List Value → Prop), w9 cs (vs ++ rest) K2 = K2 cs rest
 | [], K, h => ⟨[], h, fun _ _ => rfl⟩
 | .val v :: r, K, h => by
  obtain ⟨vs, h1, h2⟩ := r05 e r (K := fun vs => K (v :: vs)) h
  exact ⟨v :: vs, h1, fun rest K2 => by simp only [List.cons_append, w9, h2]⟩
 | .own i k :: r, K, h => by
  obtain ⟨vs, h1, h2⟩ := r05 e r (K := K) h
  exact ⟨vs, h1, fun rest K2 => by simp only [w9, h2]⟩
theorem Z07 {α : Type} (l : List α) (i : Nat) (x : α) (h : nth l i = some x) : M6 l i x = l := by
 rw [n00] at h
 obtain ⟨hi, hx⟩ := List.getElem?_eq_some_iff.1 h
 rw [o04, ← hx]
 exact List.set_getElem_self hi
theorem y0b (e : St) : ∀ (is : List Nat) {K : List Value → Prop}, u06 is e K → ∃ ws, K ws ∧ ∀ K2, n01 is ws e.bx K2 = K2 e.bx
 | [], K, h => ⟨[], h, fun _ => rfl⟩
 | i :: r, K, h => by
  simp only [u06] at h
  split at h
  ·rename_i cs ty hn
   obtain ⟨vs, h1, h2⟩ := r05 e cs h
   obtain ⟨ws, h3, h4⟩ := y0b e r h1
   refine ⟨vs ++ ws, h3, fun K2 => ?_⟩
   simp only [n01, hn, h2, Z07 _ _ _ hn, h4]
  ·exact h.elim
theorem z0b (e : St) : ∀ (is : List Nat) {K : List (List (List Value)) → Prop}, K07 is e K → ∃ os, os.length = is.length ∧ K os ∧ ∀ K2, o01 is os e.ow K2 = K2 e.ow
 | [], K, h => ⟨[], rfl, h, fun _ => rfl⟩
 | i :: r, K, h => by
  simp only [K07] at h
  split at h
  ·rename_i s ty sz by_ nn xs hn
   obtain ⟨ws, h2, h3, h4⟩ := z0b e r h
   refine ⟨xs :: ws, by simp [h2], h3, fun K2 => ?_⟩
   simp only [o01, hn, Z07 _ _ _ hn, h4]
  ·exact h.elim
theorem A0b (e : St) : ∀ (is : List Nat) (bx : List BSt), (∀ i ∈ is, ∃ cs ty cs', nth bx i = some (.live cs ty) ∧ nth e.bx i = some (.live cs' ty) ∧ ShC e cs cs') → ∀ {K : List Value → Prop}, u06 is e K →
  ∃ ws, K ws ∧ ∃ bx2, (∀ K2, n01 is ws bx K2 = K2 bx2) ∧ bx2.length = bx.length ∧ (∀ i, i ∉ is → nth bx2 i = nth bx i) ∧
   (∀ i ∈ is, ∃ cs2 ty cs', nth bx2 i = some (.live cs2 ty) ∧ nth e.bx i = some (.live cs' ty) ∧ EqC e cs2 cs') ∧
   (∀ B, (∀ i cs ty, nth bx i = some (.live cs ty) → t00 B cs) → (∀ i cs ty, nth bx2 i = some (.live cs ty) → t00 B cs))
 | [], bx, _, K, h => ⟨[], h, bx, fun _ => rfl, rfl, fun _ _ => rfl, by simp, fun _ h => h⟩
 | i :: r, bx, hs, K, h => by
  obtain ⟨cs, ty, cs', h1, h2, h3⟩ := hs i (List.mem_cons_self ..)
  simp only [u06, h2] at h
  obtain ⟨vs, k1, cs2, k2, k3, k4⟩ := q05 e cs cs' h3 h
  have hlt := D7 h1
  have hs1 : ∀ j ∈ r, ∃ cs1 ty1 cs1', nth (M6 bx i (.live cs2 ty)) j = some (.live cs1 ty1) ∧ nth e.bx j = some (.live cs1' ty1) ∧ ShC e cs1 cs1' := fun j hj => by
   rw [R3 _ _ _ hlt]
   by_cases ej : j = i
   ·subst ej
    rw [if_pos rfl]
    exact ⟨cs2, ty, cs', rfl, h2, k3.sh⟩
   ·rw [if_neg ej]
    exact hs j (List.mem_cons_of_mem _ hj)
  obtain ⟨ws, m1, bx2, m2, m3, m4, m5, m6⟩ := A0b e r _ hs1 k1
  refine ⟨vs ++ ws, m1, bx2, fun K2 => by simp only [n01, h1, k2, m2], by rw [m3, G00], fun j hj => ?_, fun j hj => ?_, fun B hB => m6 B fun j cs3 ty3 hj => ?_⟩
  ·simp only [List.mem_cons, not_or] at hj
   rw [m4 j hj.2, R3 _ _ _ hlt, if_neg hj.1]
  ·by_cases hr : j ∈ r
   ·exact m5 j hr
   ·rcases List.mem_cons.1 hj with rfl | hj
    ·refine ⟨cs2, ty, cs', ?_, h2, k3⟩
     rw [m4 j hr, R3 _ _ _ hlt, if_pos rfl]
    ·exact absurd hj hr
  ·rw [R3 _ _ _ hlt] at hj
   split at hj
   ·cases hj
    exact k4 B (hB i cs ty h1)
   ·exact hB j cs3 ty3 hj
theorem B0b (en : St) : ∀ (is : List Nat) (ow : List Own), (∀ i ∈ is, ∃ s e sz by_ nn xs0 s' nn' xs, nth ow i = some ⟨s, .live e sz by_ nn xs0⟩ ∧ nth en.ow i = some ⟨s', .live e sz by_ nn' xs⟩ ∧ (nn = true → nn' = true)) →
  ∀ {K : List (List (List Value)) → Prop}, K07 is en K → ∃ os, os.length = is.length ∧ K os ∧ ∃ ow2, (∀ K2, o01 is os ow K2 = K2 ow2) ∧ (∀ i, i ∉ is → nth ow2 i = nth ow i) ∧
   (∀ i ∈ is, ∃ s e sz by_ nn s' nn' xs, nth ow2 i = some ⟨s, .live e sz by_ nn xs⟩ ∧ nth en.ow i = some ⟨s', .live e sz by_ nn' xs⟩ ∧ (nn = true → nn' = true)) ∧
   (∀ i, (nth ow2 i).map (·.stamp) = (nth ow i).map (·.stamp))
 | [], ow, _, K, h => ⟨[], rfl, h, ow, fun _ => rfl, fun _ _ => rfl, by simp, fun _ => rfl⟩
 | i :: r, ow, hs, K, h => by
  obtain ⟨s, e, sz, by_, nn, xs0, s', nn', xs, h1, h2, h3⟩ := hs i (List.mem_cons_self ..)
  simp only [K07, h2] at h
  have hlt := D7 h1
  have hs1 : ∀ j ∈ r, ∃ s0 e0 sz0 by0 nn0 xs0 s' nn' xs', nth (M6 ow i ⟨s, .live e sz by_ nn xs⟩) j = some ⟨s0, .live e0 sz0 by0 nn0 xs0⟩ ∧ nth en.ow j = some ⟨s', .live e0 sz0 by0 nn' xs'⟩ ∧ (nn0 = true → nn' = true) := fun j hj => by
   rw [R3 _ _ _ hlt]
   by_cases ej : j = i
   ·subst ej
    rw [if_pos rfl]
    exact ⟨s, e, sz, by_, nn, xs, s', nn', xs, rfl, h2, h3⟩
   ·rw [if_neg ej]
    exact hs j (List.mem_cons_of_mem _ hj)
  obtain ⟨os, m0, m1, ow2, m2, m4, m5, m6⟩ := B0b en r _ hs1 h
  refine ⟨xs :: os, by simp [m0], m1, ow2, fun K2 => by simp only [o01, h1, m2], fun j hj => ?_, fun j hj => ?_, fun j => ?_⟩
  ·simp only [List.mem_cons, not_or] at hj
   rw [m4 j hj.2, R3 _ _ _ hlt, if_neg hj.1]
  ·by_cases hr : j ∈ r
   ·exact m5 j hr
   ·rcases List.mem_cons.1 hj with rfl | hj
    ·refine ⟨s, e, sz, by_, nn, s', nn', xs, ?_, h2, h3⟩
     rw [m4 j hr, R3 _ _ _ hlt, if_pos rfl]
    ·exact absurd hj hr
  ·rw [m6 j, R3 _ _ _ hlt]
   split
   ·rename_i e'; subst e'; rw [h1]; rfl
   ·rfl
theorem H02 {A : Ann} {hd e : St} : ∀ (i : Nat) (bx bx' : List BSt), a05 A hd e i bx bx' → ∀ k b, nth bx k = some b →
  (i + k ∈ A.boxes ∧ ∃ cs ty cs', b = .live cs ty ∧ nth bx' k = some (.live cs' ty) ∧ ShC e cs cs') ∨ (i + k ∉ A.boxes ∧ nth bx' k = some b ∧ K0a A.owns b = true)
 | i, [], _, _, k, b, hk => by cases k <;> cases hk
 | i, x :: r, [], h, _, _, _ => by cases h
 | i, x :: r, y :: r', h, k, b, hk => by
  simp only [a05] at h
  split at h
  ·rename_i hm
   split at h
   ·rename_i cs ty cs' ty'
    split at h
    ·rename_i hb hc
     have := Nat.eq_of_beq_eq_true hb
     subst this
     cases k with
     | zero => cases hk; exact .inl ⟨(I9 _ _).1 hm, cs, ty, cs', rfl, rfl, T01 _ _ hc⟩
     | succ k => have := H02 (i + 1) r r' h k b hk; rwa [show i + 1 + k = i + (k + 1) from by omega] at this
    ·exact h.elim
   ·exact h.elim
  ·rename_i hm
   split at h
   ·rename_i hcl
    obtain ⟨rfl, h⟩ := h
    cases k with
    | zero => cases hk; exact .inr ⟨S01 hm, rfl, hcl⟩
    | succ k => have := H02 (i + 1) r r' h k b hk; rwa [show i + 1 + k = i + (k + 1) from by omega] at this
   ·exact h.elim
theorem I02 {A : Ann} : ∀ (i : Nat) (ow ow' : List Own), b05 A i ow ow' → ∀ k b, nth ow k = some b →
  (i + k ∈ A.owns ∧ ∃ s e sz by_ nn xs0 s' nn' xs, b = ⟨s, .live e sz by_ nn xs0⟩ ∧ nth ow' k = some ⟨s', .live e sz by_ nn' xs⟩ ∧ (nn = true → nn' = true) ∧ (i + k ∈ A.kept → s = s')) ∨ (i + k ∉ A.owns ∧ nth ow' k = some b)
 | i, [], _, _, k, b, hk => by cases k <;> cases hk
 | i, x :: r, [], h, _, _, _ => by cases h
 | i, x :: r, y :: r', h, k, b, hk => by
  simp only [b05] at h
  split at h
  ·rename_i hm
   split at h
   ·rename_i s e sz by_ nn xs0 s' e' sz' by' nn' xs
    split at h
    ·rename_i hb1 hb2 hb3 hb4 hb5
     have := Nat.eq_of_beq_eq_true hb1
     subst this
     have := Nat.eq_of_beq_eq_true hb2
     subst this
     have := Nat.eq_of_beq_eq_true hb3
     subst this
     cases k with
     | zero => cases hk; exact .inl ⟨(I9 _ _).1 hm, _, _, _, _, _, _, _, _, _, rfl, rfl, (fun h => by subst h; exact hb4), fun h => by rw [show i03 i A.kept = true from (I9 _ _).2 h] at hb5; exact Nat.eq_of_beq_eq_true hb5⟩
     | succ k => have := I02 (i + 1) r r' h k b hk; rwa [show i + 1 + k = i + (k + 1) from by omega] at this
    ·exact h.elim
   ·exact h.elim
  ·rename_i hm
   obtain ⟨rfl, h⟩ := h
   cases k with
   | zero => cases hk; exact .inr ⟨S01 hm, rfl⟩
   | succ k => have := I02 (i + 1) r r' h k b hk; rwa [show i + 1 + k = i + (k + 1) from by omega] at this
end Go.H
namespace Go.H
set_option linter.unusedVariables false
set_option linter.unusedSimpArgs false
def E04 (A : Ann) (st : St) : AV → Prop
 | .val _ | .hel _ _ _ _ | .dead => True
 | .agg cs => q0b cs = true
 | .box i _ => i < st.bx.length
 | .own i k => (i ∉ A.owns ∨ i ∈ A.kept) ∧ stamp st i = some k
 | .oel _ _ _ _ _ => False
theorem C0b {st : St} {av : AV} {i off : Nat} (h : rdA st av = .box i off) : i < st.bx.length := by
 cases av with
 | box j o =>
  simp only [rdA] at h
  split at h
  ·rename_i hn; cases h; exact D7 hn
  ·cases h
  ·cases h
 | own j k =>
  simp only [rdA] at h
  split at h
  ·split at h
   ·split at h <;> cases h
   ·cases h
  ·cases h
 | oel j s idx sz k =>
  simp only [rdA] at h
  split at h
  ·split at h <;> cases h
  ·cases h
 | _ => cases h
theorem s05 {st : St} {av : AV} {i k : Nat} (h : rdA st av = .own i k) : stamp st i = some k := by
 obtain ⟨e, sz, by_, nn, xs, hn⟩ := G01 h
 simp [stamp, hn]
theorem P03 (A : Ann) (ds : List Nat) (st : St) : ∀ (l : List (Nat × AV)) {K : List (Nat × AV) → Prop}, p01 A ds st l K → ∃ sta, K sta ∧ ∀ t, t ∉ ds →
  Q0 sta t = .dead ∨ (Q0 sta t = rdA st (Q0 l t) ∧ E04 A st (Q0 sta t))
 | [], K, h => ⟨[], h, fun t _ => .inl rfl⟩
 | (s, av) :: r, K, h => by
  have put : ∀ av', (av' = .dead ∨ (av' = rdA st av ∧ E04 A st av')) → (p01 A ds st r fun l => K ((s, av') :: l)) → ∃ sta, K sta ∧ ∀ t, t ∉ ds →
    Q0 sta t = .dead ∨ (Q0 sta t = rdA st (Q0 ((s, av) :: r) t) ∧ E04 A st (Q0 sta t)) := by
   intro av' hav h
   obtain ⟨sta, h1, h2⟩ := P03 A ds st r h
   refine ⟨_, h1, fun t ht => ?_⟩
   rw [Z0, Z0]
   by_cases e : s = t
   ·rw [if_pos e, if_pos e]; exact hav
   ·rw [if_neg e, if_neg e]; exact h2 t ht
  simp only [p01] at h
  split at h
  ·rename_i hm
   obtain ⟨sta, h1, h2⟩ := P03 A ds st r h
   refine ⟨sta, h1, fun t ht => ?_⟩
   rw [Z0, if_neg (fun e => ht (by rw [← e]; exact (I9 _ _).1 hm))]
   exact h2 t ht
  ·split at h
   ·rename_i i k hr
    split at h
    ·exact put _ (.inl rfl) h
    ·rename_i hm
     refine put _ (.inr ⟨hr.symm, ?_, s05 hr⟩) h
     cases h1 : i03 i A.owns with
     | false => exact .inl (S01 h1)
     | true =>
      cases h2 : i03 i A.kept with
      | true => exact .inr ((I9 _ _).1 h2)
      | false => exact absurd h2 (hm h1)
   ·exact put _ (.inl rfl) h
   ·rename_i cs hr
    split at h
    ·rename_i hno
     exact put _ (.inr ⟨hr.symm, hno⟩) h
    ·exact put _ (.inl rfl) h
   ·rename_i h1 h2 h3
    refine put _ (.inr ⟨rfl, ?_⟩) h
    cases hr : rdA st av with
    | own i k => exact absurd hr (h1 i k)
    | oel i s0 idx sz k => exact absurd hr (h2 i s0 idx sz k)
    | agg cs => exact absurd hr (h3 cs)
    | box i o => exact C0b hr
    | val v => trivial
    | hel s0 idx sz k => trivial
    | dead => trivial
def X09 (st : St) (t : Nat) (av : AV) : Prop :=
 av = .dead ∨ (∃ i k, av = .own i k ∧ stamp st i = some k ∧ rdA st (Q0 st.fr t) = .own i k) ∨ (∃ i o, av = .box i o ∧ i < st.bx.length ∧ rdA st (Q0 st.fr t) = .box i o)
theorem Q03 (A : Ann) (st : St) : ∀ (l : List Nat) (acc : List (Nat × AV)) {K : List (Nat × AV) → Prop}, headD A st l acc K → (∀ p ∈ acc, X09 st p.1 p.2) →
  ∃ dyn, K dyn ∧ (∀ p ∈ dyn, p.1 ∈ l ∨ p ∈ acc) ∧ (∀ p ∈ dyn, X09 st p.1 p.2) ∧ (∀ t ∈ l, t ∉ A.vars → ∃ av, (t, av) ∈ dyn) ∧ (∀ p ∈ acc, p ∈ dyn)
 | [], acc, K, h, ha => ⟨acc, h, fun p hp => .inr hp, ha, by simp, fun _ h => h⟩
 | s :: r, acc, K, h, ha => by
  have put : ∀ av', X09 st s av' → headD A st r ((s, av') :: acc) K → ∃ dyn, K dyn ∧ (∀ p ∈ dyn, p.1 ∈ s :: r ∨ p ∈ acc) ∧ (∀ p ∈ dyn, X09 st p.1 p.2) ∧ (∀ t ∈ s :: r, t ∉ A.vars → ∃ av, (t, av) ∈ dyn) ∧ (∀ p ∈ acc, p ∈ dyn) := by
   intro av' hav h
   obtain ⟨dyn, h1, h2, h3, h4, h5⟩ := Q03 A st r _ h (fun p hp => by
    rcases List.mem_cons.1 hp with rfl | hp
    ·exact hav
    ·exact ha p hp)
   refine ⟨dyn, h1, fun p hp => ?_, h3, fun t ht hv => ?_, fun p hp => h5 p (List.mem_cons_of_mem _ hp)⟩
   ·rcases h2 p hp with h | h
    ·exact .inl (List.mem_cons_of_mem _ h)
    ·rcases List.mem_cons.1 h with rfl | h
     ·exact .inl (List.mem_cons_self ..)
     ·exact .inr h
   ·rcases List.mem_cons.1 ht with rfl | ht
    ·exact ⟨av', h5 _ (List.mem_cons_self ..)⟩
    ·exact h4 t ht hv
  simp only [headD] at h
  split at h
  ·rename_i hm
   obtain ⟨dyn, h1, h2, h3, h4, h5⟩ := Q03 A st r _ h ha
   refine ⟨dyn, h1, fun p hp => (h2 p hp).imp (List.mem_cons_of_mem _) id, h3, fun t ht hv => ?_, h5⟩
   rcases List.mem_cons.1 ht with rfl | ht
   ·exact absurd ((I9 _ _).1 hm) hv
   ·exact h4 t ht hv
  ·split at h
   ·rename_i i k hr
    exact put _ (.inr (.inl ⟨i, k, rfl, s05 hr, hr⟩)) h
   ·rename_i i o hr
    exact put _ (.inr (.inr ⟨i, o, rfl, C0b hr, hr⟩)) h
   ·exact put _ (.inl rfl) h
theorem N06 : ∀ (dyn sta : List (Nat × AV)) (t : Nat), (∃ av, (t, av) ∈ dyn ∧ Q0 (dyn ++ sta) t = av) ∨ ((∀ av, (t, av) ∉ dyn) ∧ Q0 (dyn ++ sta) t = Q0 sta t)
 | [], sta, t => .inr ⟨by simp, rfl⟩
 | (s, av) :: r, sta, t => by
  simp only [List.cons_append]
  rw [Z0]
  by_cases e : s = t
  ·subst e
   exact .inl ⟨av, List.mem_cons_self .., if_pos rfl⟩
  ·rw [if_neg e]
   rcases N06 r sta t with ⟨av', h1, h2⟩ | ⟨h1, h2⟩
   ·exact .inl ⟨av', List.mem_cons_of_mem _ h1, h2⟩
   ·exact .inr ⟨fun av' h => by
     rcases List.mem_cons.1 h with h | h
     ·cases h; exact e rfl
     ·exact h1 av' h, h2⟩
theorem O06 {hd e : St} : ∀ (dyn : List (Nat × AV)), L05 hd e dyn = true → ∀ t av, (t, av) ∈ dyn → (∀ i k, av = .own i k → ∃ k', rdA e (Q0 e.fr t) = .own i k') ∧ (∀ i o, av = .box i o → rdA e (Q0 e.fr t) = .box i o)
 | [], _, t, av, h => by cases h
 | (s, x) :: r, hs, t, av, h => by
  have key : L05 hd e r = true ∧ (∀ i k, x = .own i k → ∃ k', rdA e (Q0 e.fr s) = .own i k') ∧ (∀ i o, x = .box i o → rdA e (Q0 e.fr s) = .box i o) := by
   simp only [L05] at hs
   split at hs
   ·split at hs
    ·rename_i hr
     split at hs
     ·rename_i hb
      refine ⟨hs, fun i k hx => ?_, (fun i o hx => nomatch hx)⟩
      cases hx
      exact ⟨_, by rw [hr, Nat.eq_of_beq_eq_true hb]⟩
     ·cases hs
    ·cases hs
   ·split at hs
    ·rename_i hr
     split at hs
     ·rename_i hb1 hb2
      refine ⟨hs, (fun i k hx => nomatch hx), fun i o hx => ?_⟩
      cases hx
      rw [hr, Nat.eq_of_beq_eq_true hb1, Nat.eq_of_beq_eq_true hb2]
     ·cases hs
    ·cases hs
   ·rename_i h1 h2
    exact ⟨hs, fun i k hx => absurd hx (h1 i k), fun i o hx => absurd hx (h2 i o)⟩
  rcases List.mem_cons.1 h with h | h
  ·cases h; exact key.2
  ·exact O06 r key.1 t av h
theorem R03 {fr : List (Nat × AV)} : ∀ (sta : List (Nat × AV)), L07 fr sta = g0c sta → ∀ t, Q0 sta t = .dead ∨ Q0 fr t = Q0 sta t
 | [], _, t => .inl rfl
 | (s, av) :: r, h, t => by
  rw [Z0]
  simp only [L07, g0c] at h
  cases hd : J0a av with
  | true =>
   rw [hd] at h
   by_cases e : s = t
   ·rw [if_pos e]
    left
    cases av <;> first | rfl | cases hd
   ·rw [if_neg e]
    exact R03 r h t
  | false =>
   rw [hd] at h
   simp only [List.cons.injEq] at h
   by_cases e : s = t
   ·subst e
    rw [if_pos rfl]
    exact .inr h.1
   ·rw [if_neg e]
    exact R03 r h.2 t
theorem t05 {e st2 : St} {be : Nat → Nat} {oe : Nat → Value} : ∀ {cs2 cs' : List N2} {vs : List Value}, EqC e cs2 cs' → t00 (fun j k => ∃ s, stamp st2 j = some s ∧ k ≤ s) cs2 → M0 e oe cs' vs → M0 st2 oe cs2 vs
 | [], [], [], _, _, _ => trivial
 | .val v :: r, .val v' :: r', x :: vs, h, ha, g => ⟨by rw [show x = v' from g.1, h.1]; rfl, t05 (be := be) h.2 ha g.2⟩
 | .own i k :: r, .own j k' :: r', x :: vs, h, ha, g => by
  obtain ⟨hij, ⟨b, hr⟩, h⟩ := h
  subst hij
  obtain ⟨⟨s, s1, s2⟩, ha⟩ := ha
  refine ⟨⟨s, s1, s2, fun _ => ?_⟩, t05 (be := be) h ha g.2⟩
  obtain ⟨_, hb⟩ := D04 hr
  subst hb
  obtain ⟨s', t1, t2, t3⟩ := g.1
  rw [s05 hr] at t1
  cases t1
  exact t3 rfl
 | [], _ :: _, _, h, _, _ => h.elim
 | .val _ :: _, [], _, h, _, _ => h.elim
 | .own _ _ :: _, [], _, h, _, _ => h.elim
 | .val _ :: _, .own _ _ :: _, _, h, _, _ => h.elim
 | .own _ _ :: _, .val _ :: _, _, h, _, _ => h.elim
 | _, _ :: _, [], _, _, g => g.elim
 | _, [], _ :: _, _, _, g => g.elim
theorem U01 {os : List Nat} {e st2 : St} {oe : Nat → Value} (hst : ∀ j, j ∉ os → ∀ s, stamp st2 j = some s → stamp e j = some s) : ∀ {cs : List N2} {vs : List Value}, k04 os cs = true →
  t00 (fun j k => ∃ s, stamp st2 j = some s ∧ k ≤ s) cs → M0 e oe cs vs → M0 st2 oe cs vs
 | [], [], _, _, _ => trivial
 | .val v :: r, x :: vs, h, ha, g => ⟨g.1, U01 hst h ha g.2⟩
 | .own i k :: r, x :: vs, h, ha, g => by
  simp only [k04] at h
  split at h
  ·cases h
  ·rename_i hm
   obtain ⟨⟨s, s1, s2⟩, ha⟩ := ha
   refine ⟨⟨s, s1, s2, fun hk => ?_⟩, U01 hst h ha g.2⟩
   obtain ⟨s', t1, t2, t3⟩ := g.1
   rw [hst i (S01 hm) s s1] at t1
   cases t1
   exact t3 hk
 | [], _ :: _, _, _, g => g.elim
 | _ :: _, [], _, _, g => g.elim
section
variable {P : Program} {h0 : Hp} {w0 : World} {be : Nat → Nat} {oe : Nat → Value} {H : Hp} {h : Hp} {a : Act} {w : World}
theorem w0d {A : Ann} {e st2 : St} (s : Sim P h0 w0 be oe H e h a w) (hn : e.n = st2.n)
  (hb : ∀ i b, nth st2.bx i = some b → (∃ cs2 ty cs', b = .live cs2 ty ∧ nth e.bx i = some (.live cs' ty) ∧ EqC e cs2 cs') ∨ (nth e.bx i = some b ∧ K0a A.owns b = true))
  (ho : ∀ i o, nth st2.ow i = some o → (∃ s t sz by_ nn s' nn' xs, o = ⟨s, .live t sz by_ nn xs⟩ ∧ nth e.ow i = some ⟨s', .live t sz by_ nn' xs⟩ ∧ (nn = true → nn' = true)) ∧ i ∈ A.owns ∨ (nth e.ow i = some o ∧ i ∉ A.owns))
  (bd : ∀ i cs ty, nth st2.bx i = some (.live cs ty) → t00 (fun j k => ∃ s, stamp st2 j = some s ∧ k ≤ s) cs)
  (hf : ∀ t, J0 st2 be oe (Q0 st2.fr t) (a.tmps.getD t undef)) : Sim P h0 w0 be oe H st2 h a w := by
 have hst : ∀ j, j ∉ A.owns → ∀ s, stamp st2 j = some s → stamp e j = some s := fun j hj s0 hs => by
  unfold stamp at hs ⊢
  cases ho' : nth st2.ow j with
  | none => rw [ho'] at hs; cases hs
  | some o =>
   rw [ho'] at hs
   rcases ho j o ho' with ⟨_, h⟩ | ⟨h, _⟩
   ·exact absurd h hj
   ·rw [h]; exact hs
 have hlive : ∀ i cs ty, nth st2.bx i = some (.live cs ty) → ∃ cs', nth e.bx i = some (.live cs' ty) := fun i cs ty hi => by
  rcases hb i _ hi with ⟨cs2, ty2, cs', he, h2, _⟩ | ⟨h2, _⟩
  ·cases he; exact ⟨cs', h2⟩
  ·exact ⟨cs, h2⟩
 have hol : ∀ i s0 t sz by_ nn xs, nth st2.ow i = some ⟨s0, .live t sz by_ nn xs⟩ → ∃ s' nn', nth e.ow i = some ⟨s', .live t sz by_ nn' xs⟩ ∧ (nn = true → nn' = true) := fun i s0 t sz by_ nn xs hi => by
  rcases ho i _ hi with ⟨⟨s1, t1, sz1, by1, nn1, s', nn', xs1, he, h2, h3⟩, _⟩ | ⟨h2, _⟩
  ·cases he; exact ⟨s', nn', h2, h3⟩
  ·exact ⟨s0, nn, h2, id⟩
 refine ⟨s.mv, s.sub, fun i cs ty hi => ?_, fun i b hi => ?_, fun i s0 t sz by_ nn xs hi => ?_, fun i s0 v hi => ?_, fun i j cs ty cs' ty' hi hj => ?_, fun i j s0 t sz by_ nn xs s1 t1 sz1 by1 nn1 xs1 g hi hj => ?_, fun i cs ty j s0 t sz by_ nn xs hi hj => ?_, s.dfr, by rw [s.siz, hn], hf⟩
 ·rcases hb i _ hi with ⟨cs2, ty2, cs', he, h2, h3⟩ | ⟨h2, h3⟩
  ·cases he
   obtain ⟨k1, vs, k2, k3⟩ := s.box i cs' ty h2
   exact ⟨k1, vs, t05 (be := be) h3 (bd i _ _ hi) k2, k3⟩
  ·obtain ⟨k1, vs, k2, k3⟩ := s.box i cs ty h2
   exact ⟨k1, vs, U01 hst h3 (bd i _ _ hi) k2, k3⟩
 ·rcases hb i _ hi with ⟨cs2, ty2, cs', he, h2, h3⟩ | ⟨h2, h3⟩
  ·cases he
  ·exact s.pub i b h2
 ·obtain ⟨s', nn', h2, h3⟩ := hol i _ _ _ _ _ _ hi
  obtain ⟨k1, k2⟩ := s.own i _ _ _ _ _ _ h2
  refine ⟨k1, k2.imp (fun ⟨a1, a2, a3⟩ => ⟨a1, a2, ?_⟩) id⟩
  cases nn with
  | false => rfl
  | true => rw [h3 rfl] at a3; cases a3
 ·rcases ho i _ hi with ⟨⟨s1, t1, sz1, by1, nn1, s', nn', xs1, he, h2, h3⟩, _⟩ | ⟨h2, _⟩
  ·cases he
  ·exact s.frz i s0 v h2
 ·obtain ⟨c1, h1⟩ := hlive i cs ty hi
  obtain ⟨c2, h2⟩ := hlive j cs' ty' hj
  exact s.bb i j _ _ _ _ h1 h2
 ·obtain ⟨_, _, h1, _⟩ := hol i _ _ _ _ _ _ hi
  obtain ⟨_, _, h2, _⟩ := hol j _ _ _ _ _ _ hj
  exact s.oo i j _ _ _ _ _ _ _ _ _ _ _ _ g h1 h2
 ·obtain ⟨c1, h1⟩ := hlive i cs ty hi
  obtain ⟨_, _, h2, _⟩ := hol j _ _ _ _ _ _ hj
  exact s.bo i _ _ j _ _ _ _ _ _ h1 h2
end
end Go.H
namespace Go.H
set_option linter.unusedVariables false
set_option linter.unusedSimpArgs false
section
variable {P : Program} {h0 : Hp} {w0 : World} {be : Nat → Nat} {oe : Nat → Value} {H : Hp} {st : St} {h : Hp} {a : Act} {w : World}
theorem x0d (s : Sim P h0 w0 be oe H st h a w) : ∀ i cs ty, nth st.bx i = some (.live cs ty) → t00 (fun j k => ∃ s, stamp st j = some s ∧ k ≤ s) cs := by
 intro i cs ty hi
 obtain ⟨_, vs, g, _⟩ := s.box i cs ty hi
 have : ∀ (cs : List N2) (vs : List Value), M0 st oe cs vs → t00 (fun j k => ∃ s, stamp st j = some s ∧ k ≤ s) cs := by
  intro cs
  induction cs with
  | nil => intro vs _; trivial
  | cons c r ih =>
   intro vs g
   cases vs with
   | nil => exact g.elim
   | cons v vs =>
    cases c with
    | val x => exact ih vs g.2
    | own j k =>
     obtain ⟨s', h1, h2, _⟩ := g.1
     exact ⟨⟨s', h1, h2⟩, ih vs g.2⟩
 exact this cs vs g
theorem Y09 (p : Nat → Prop) (h : ∃ n, p n) : ∃ n, p n ∧ ∀ m, p m → n ≤ m := by
 obtain ⟨n, hn⟩ := h
 induction n using Nat.strongRecOn with
 | _ n ih =>
  by_cases hx : ∃ m, m < n ∧ p m
  ·obtain ⟨m, hm, hp⟩ := hx
   exact ih m hm hp
  ·exact ⟨n, hn, fun m hm => Nat.le_of_not_lt fun hlt => hx ⟨m, hlt, hm⟩⟩
theorem D0b : ∀ (a b : List Value), q0e a b = true → a.length = b.length
 | [], [], _ => rfl
 | _ :: r, _ :: r', h => by simp [D0b r r' h]
 | [], _ :: _, h => by cases h
 | _ :: _, [], h => by cases h
theorem w0f {A : Ann} {ds : List Nat} {st e st2 : St} {dyn sta : List (Nat × AV)} {v1' : List Value} {av1 : ∀ t, (Q0 (Z04 A.vars v1' (dyn ++ sta)) t = Q0 (dyn ++ sta) t ∧ t ∉ A.vars) ∨ (∃ v, Q0 (Z04 A.vars v1' (dyn ++ sta)) t = .val v ∧ rdA e (Q0 e.fr t) = .val v)}
  (s : Sim P h0 w0 be oe H e h a w) (hfr : st2.fr = Z04 A.vars v1' (dyn ++ sta)) (hlb : st2.bx.length = st.bx.length) (hlow : ∀ i, stamp st2 i = stamp st i)
  (hoa : ∀ i k, (i ∉ A.owns ∨ i ∈ A.kept) → stamp st i = some k → stamp e i = stamp st2 i)
  (d1 : ∀ p ∈ dyn, p.1 ∈ ds) (d2 : ∀ p ∈ dyn, X09 st p.1 p.2) (d3 : ∀ t ∈ ds, t ∉ A.vars → ∃ av, (t, av) ∈ dyn)
  (s1 : ∀ t, t ∉ ds → E04 A st (Q0 sta t)) (hsd : ∀ t av, (t, av) ∈ dyn → (∀ i k, av = .own i k → ∃ k', rdA e (Q0 e.fr t) = .own i k') ∧ (∀ i o, av = .box i o → rdA e (Q0 e.fr t) = .box i o))
  (htail : ∀ t, Q0 sta t = .dead ∨ Q0 e.fr t = Q0 sta t) : ∀ t, J0 st2 be oe (Q0 st2.fr t) (a.tmps.getD t undef) := by
 intro t
 rw [hfr]
 have gt := s.fr t
 have gr := s.rdA gt
 rcases av1 t with ⟨h1, hv⟩ | ⟨v, h1, h2⟩
 ·rw [h1]
  rcases N06 dyn sta t with ⟨av, m1, m2⟩ | ⟨m1, m2⟩
  ·rw [m2]
   obtain ⟨q1, q2⟩ := hsd t av m1
   rcases d2 _ m1 with rfl | ⟨i, k, rfl, hs, _⟩ | ⟨i, o, rfl, hb, _⟩
   ·trivial
   ·obtain ⟨k', hk'⟩ := q1 i k rfl
    rw [hk'] at gr
    refine ⟨k, by rw [hlow, hs], Nat.le_refl _, fun _ => ?_⟩
    obtain ⟨e1, sz1, by1, nn1, xs1, hn1⟩ := G01 hk'
    exact gr.own_cur hn1
   ·rw [q2 i o rfl] at gr
    exact ⟨by rw [hlb]; exact hb, gr.2⟩
  ·rw [m2]
   have htd : t ∉ ds := fun hd => by
    obtain ⟨av, hm⟩ := d3 t hd hv
    exact m1 av hm
   rcases htail t with hdd | e1
   ·rw [hdd]; trivial
   have hs := s1 t htd
   rw [e1] at gt
   cases hl : Q0 sta t with
   | val v => rw [hl] at gt; exact gt
   | hel s0 idx sz k => rw [hl] at gt; exact gt
   | dead => trivial
   | agg cs =>
    rw [hl] at gt hs
    obtain ⟨vs, k1, k2⟩ := gt
    refine ⟨vs, k1, ?_⟩
    have : ∀ (cs : List N2) (vs : List Value), q0b cs = true → M0 e oe cs vs → M0 st2 oe cs vs := by
     intro cs
     induction cs with
     | nil => intro vs _ g; cases vs <;> exact g
     | cons c r ih =>
      intro vs hno g
      cases vs with
      | nil => exact g.elim
      | cons v vs =>
       cases c with
       | val x => exact ⟨g.1, ih vs hno g.2⟩
       | own j k => cases hno
    exact this cs vs hs k2
   | box i o =>
    rw [hl] at gt hs
    exact ⟨by rw [hlb]; exact hs, gt.2⟩
   | own i k =>
    rw [hl] at gt hs
    obtain ⟨hs1, hs2⟩ := hs
    obtain ⟨s', k1, k2, k3⟩ := gt
    refine ⟨k, by rw [hlow, hs2], Nat.le_refl _, fun _ => ?_⟩
    have : stamp e i = stamp st2 i := hoa i k hs1 hs2
    rw [this, hlow, hs2] at k1
    cases k1
    exact k3 rfl
   | oel i s0 idx sz k => rw [hl] at hs; exact hs.elim
 ·rw [h1]
  rw [h2] at gr
  exact gr
theorem S05 : ∀ (l : List (Nat × Nat × Nat × Nat)) (st : St) (oe : Nat → Value) {K : St → Prop}, Sim P h0 w0 be oe H st h a w → u09 l st K → ∃ st' oe', K st' ∧ Sim P h0 w0 be oe' H st' h a w
 | [], st, oe, K, s, he => ⟨st, oe, he, s⟩
 | (t, e, sz, by_) :: r, ⟨n, fr, bx, ow⟩, oe, K, s, he => by
  simp only [u09] at he
  split at he
  ·rename_i hr hlt
   rw [e04] at he
   have gv := s.rdA (s.fr t)
   have hv : a.tmps.getD t undef = .slice none 0 0 := by
    have : rdA ⟨n, fr, bx, ow⟩ (Q0 fr t) = .val (.slice none 0 0) := hr
    rw [show rdA ⟨n, fr, bx, ow⟩ (Q0 (St.mk n fr bx ow).fr t) = .val (.slice none 0 0) from this] at gv
    exact gv
   have hO : r01 h H (.slice none 0 0) e sz false [] := ⟨by simp, .inl ⟨rfl, rfl, rfl⟩⟩
   obtain ⟨s1, gr⟩ := s.newOwn (by_ := by_) (fun b o hb => hb) (T0.refl s.mv.vis) hO (by simp [Value.ownBlock])
   refine S05 r _ _ (s1.refr (fr := (t, .own ow.length 0) :: fr) fun u => ?_) he
   rw [Z0]
   by_cases eu : t = u
   ·subst eu
    rw [if_pos rfl, hv]
    exact ⟨0, by simp [stamp, c8], Nat.le_refl _, fun _ => by simp⟩
   ·rw [if_neg eu]
    exact s1.fr u
  ·exact he.elim
theorem F04 : ∀ (l : List (Nat × Nat × Nat × Nat × Nat)) (st : St) (oe : Nat → Value) {K : St → Prop}, Sim P h0 w0 be oe H st h a w → t06 l st K → ∃ st' oe', K st' ∧ Sim P h0 w0 be oe' H st' h a w
 | [], st, oe, K, s, he => ⟨st, oe, he, s⟩
 | (i, k, e, sz, by_) :: r, ⟨n, fr, bx, ow⟩, oe, K, s, he => by
  simp only [t06] at he
  split at he
  rotate_left
  ·exact he.elim
  rename_i cs ty hn
  split at he
  rotate_left
  ·exact he.elim
  rename_i hk
  rw [e04] at he
  have hO : r01 h H (.slice none 0 0) e sz false [] := ⟨by simp, .inl ⟨rfl, rfl, rfl⟩⟩
  obtain ⟨s1, gr⟩ := s.newOwn (by_ := by_) (fun b o hb => hb) (T0.refl s.mv.vis) hO (by simp [Value.ownBlock])
  have hlt := D7 hn
  refine F04 r _ (fun j => if j = ow.length then .slice none 0 0 else oe j) ?_ he
  have gr2 : K3 ⟨n, fr, bx, ow ++ [⟨0, .live e sz by_ false []⟩]⟩ be (fun j => if j = ow.length then .slice none 0 0 else oe j) ⟨n, fr, M6 bx i (.live (M6 cs k (.own ow.length 0)) ty), ow ++ [⟨0, .live e sz by_ false []⟩]⟩ be (fun j => if j = ow.length then .slice none 0 0 else oe j) :=
   ⟨by simp [G00], fun _ _ => rfl, fun i s h => ⟨s, h, Nat.le_refl _, fun _ => rfl⟩⟩
  have hlive : ∀ j cs' ty', nth (M6 bx i (.live (M6 cs k (.own ow.length 0)) ty)) j = some (.live cs' ty') → ∃ cs0, nth bx j = some (.live cs0 ty') := fun j cs' ty' hj => by
   rw [R3 _ _ _ hlt] at hj
   split at hj
   ·rename_i e'; subst e'; cases hj; exact ⟨cs, hn⟩
   ·exact ⟨cs', hj⟩
  refine ⟨s1.mv, s1.sub, fun j cs' ty' hj => ?_, fun j b hj => ?_, s1.own, s1.frz, fun j j' c1 t1 c2 t2 h1 h2 => ?_, s1.oo, fun j cs' ty' j' s0 e0 sz0 by0 nn xs hj hj' => ?_, s1.dfr, s1.siz, fun t => (s1.fr t).grow gr2⟩
  ·rw [R3 _ _ _ hlt] at hj
   split at hj
   ·rename_i e'
    subst e'
    cases hj
    obtain ⟨k1, vs, k2, k3⟩ := s1.box j cs ty hn
    refine ⟨k1, vs, ?_, k3⟩
    obtain ⟨v, v1, v2⟩ := k2.nth hk
    have hv : v = .slice none 0 0 := v2
    have := (k2.grow gr2).upd (k := k) (c := .own ow.length 0) (v := v) (by rw [hv]; exact ⟨0, by simp [stamp, c8], Nat.le_refl _, fun _ => by simp⟩)
    rwa [show vs.set k v = vs from by
     obtain ⟨hi, hx⟩ := List.getElem?_eq_some_iff.1 v1
     rw [← hx]; exact List.set_getElem_self hi] at this
   ·obtain ⟨k1, vs, k2, k3⟩ := s1.box j cs' ty' hj
    exact ⟨k1, vs, k2.grow gr2, k3⟩
  ·rw [R3 _ _ _ hlt] at hj
   split at hj
   ·cases hj
   ·exact s1.pub j b hj
  ·obtain ⟨c1', h1'⟩ := hlive _ _ _ h1
   obtain ⟨c2', h2'⟩ := hlive _ _ _ h2
   exact s1.bb j j' _ _ _ _ h1' h2'
  ·obtain ⟨c1', h1'⟩ := hlive _ _ _ hj
   exact s1.bo j _ _ j' _ _ _ _ _ _ h1' hj'
theorem S03 : ∀ (l : List Nat) {st : St} {h : Hp} {K : St → Hp → Prop}, Sim P h0 w0 be oe H st h a w → v09 l st h K → ∃ st' h', K st' h' ∧ Sim P h0 w0 be oe H st' h' a w
 | [], st, h, K, s, he => ⟨st, h, he, s⟩
 | t :: r, st, h, K, s, he => by
  simp only [v09] at he
  obtain ⟨⟨n, fr, bx, ow⟩, h', hk, s1, _⟩ := A8 s (s.rdA (s.fr t)) he
  dsimp only at hk
  split at hk
  ·refine S03 r (s1.refr (fr := (t, .val (a.tmps.getD t undef)) :: fr) fun u => ?_) hk
   rw [Z0]
   by_cases eu : t = u
   ·subst eu
    rw [if_pos rfl]
    rfl
   ·rw [if_neg eu]
    exact s1.fr u
  ·exact hk.elim
set_option maxHeartbeats 1000000 in
theorem R0a {body : Code} {ds0 : List Nat} {Q : Ex → St → Hp → Prop}
  (ih : ∀ (Q : Ex → St → Hp → Prop) (st : St) (h : Hp) (a : Act) (w : World) (be : Nat → Nat) (oe : Nat → Value) (H : Hp), Sim P h0 w0 be oe H st h a w → ev P body Q st h → body.wp P (T08 P h0 w0 Q) a w)
  (s : Sim P h0 w0 be oe H st h a w) (he : r0b (fun Q => ev P body Q) ds0 Q st h) : (Code.loop body).wp P (T08 P h0 w0 Q) a w := by
 obtain ⟨A, I, μ, he⟩ := he
 obtain ⟨st, oe, he, s⟩ := S05 _ _ _ s he
 obtain ⟨st, oe, he, s⟩ := F04 _ _ _ s he
 obtain ⟨st, h, he, s⟩ := S03 _ s he
 unfold I0a at he
 obtain ⟨v1, hv1, he, hz⟩ := p05 st _ he
 obtain ⟨v2, he, hbx⟩ := y0b st _ he
 obtain ⟨os0, hos, ⟨hI, he⟩, how⟩ := z0b st _ he
 rw [Y07] at he
 obtain ⟨dyn, he, d1, d2, d3, _⟩ := Q03 A st _ _ he (by simp)
 obtain ⟨sta, hbody, s1⟩ := P03 A ds0 st _ he
 have d1' : ∀ p ∈ dyn, p.1 ∈ ds0 := fun p hp => (d1 p hp).resolve_right (by simp)
 have s1' : ∀ t, t ∉ ds0 → E04 A st (Q0 sta t) := fun t ht => by
  rcases s1 t ht with h | ⟨_, h⟩
  ·rw [h]; trivial
  ·exact h
 have hrun := fun (vs : List Value) (hvs : vs.length = (v1 ++ v2).length) (os : List (List (List Value))) (hosl : os.length = os0.length) => C04 _ (B04 _ hbody vs hvs) os hosl
 let hd : List Value → List BSt → List Own → St := fun v1 bx ow => ⟨st.n, Z04 A.vars v1 (dyn ++ sta), bx, ow⟩
 let Inv : Nat → Act → World → Prop := fun m a w => ∃ (vs : List Value) (os : List (List (List Value))) (u1 u2 : List Value) (bx : List BSt) (ow : List Own) (h' : Hp) (be : Nat → Nat) (oe : Nat → Value) (H : Hp),
  vs.length = (v1 ++ v2).length ∧ os.length = os0.length ∧ vs = u1 ++ u2 ∧ u1.length = A.vars.length ∧ (∀ K2, n01 A.boxes u2 st.bx K2 = K2 bx) ∧ (∀ K2, o01 A.owns os st.ow K2 = K2 ow) ∧
   atI A I μ m vs os h' ∧ Sim P h0 w0 be oe H (hd u1 bx ow) h' a w
 have bd0 := x0d s
 have hbase : ∀ m a w, Inv m a w → body.wp P (Exit.then (fun a w => ∃ m', Inv m' a w ∧ m' < m) (T08 P h0 w0 Q)) a w := by
  rintro m a w ⟨vs, os, u1, u2, bx, ow, h', be, oe, H, hvs, hosl, rfl, hu1, hsb, hso, hI, hS⟩
  have hr := d0d (hrun _ hvs os hosl) hI
  rw [← hu1, O03, hsb, hso] at hr
  refine Code.wp_mono (fun e a' w' hp => ?_) (ih _ _ _ _ _ _ _ _ hS hr)
  cases e with
  | normal =>
   obtain ⟨e, h2, be2, oe2, H2, hend, s2⟩ := hp
   dsimp only at hend
   obtain ⟨e, h2, hend, s2⟩ := S03 _ s2 hend
   unfold e0d at hend
   split at hend
   ·rename_i hbn hsd
    obtain ⟨hpop, hsx, hsw, hg⟩ := hend
    have hn := Nat.eq_of_beq_eq_true hbn
    have hx := H02 0 _ _ hsx
    have hw' := I02 0 _ _ hsw
    simp only [Nat.zero_add] at hx hw'
    unfold I0a at hg
    obtain ⟨x1, hx1, hg, hz2⟩ := p05 e _ hg
    have hin : ∀ (is : List Nat) {K : List Value → Prop}, u06 is e K → (∀ i ∈ is, i ∈ A.boxes) → (∀ i ∈ is, (nth st.bx i).isSome = true) →
      ∀ i ∈ is, ∃ cs ty cs', nth st.bx i = some (.live cs ty) ∧ nth e.bx i = some (.live cs' ty) ∧ ShC e cs cs' := by
     intro is K _ hA hsome i hi
     cases hb : nth st.bx i with
     | none => have := hsome i hi; rw [hb] at this; cases this
     | some b =>
      rcases hx i b hb with ⟨_, cs, ty, cs', rfl, h2, h3⟩ | ⟨h1, _⟩
      ·exact ⟨cs, ty, cs', rfl, h2, h3⟩
      ·exact absurd (hA i hi) h1
    have hsome : ∀ i ∈ A.boxes, (nth st.bx i).isSome = true := by
     have gen : ∀ (is : List Nat) (vs : List Value) (bx : List BSt), (n01 is vs bx fun _ => True) → ∀ i ∈ is, (nth bx i).isSome = true := by
      intro is
      induction is with
      | nil => intro vs bx _ i hi; cases hi
      | cons j r ih =>
       intro vs bx hs i hi
       simp only [n01] at hs
       split at hs
       ·rename_i cs ty hn
        rcases List.mem_cons.1 hi with rfl | hi
        ·rw [hn]; rfl
        ·have hc : ∀ (cs : List N2) (vs : List Value) (K : List N2 → List Value → Prop), w9 cs vs K → ∃ a b, K a b := by
          intro cs
          induction cs with
          | nil => intro vs K h; exact ⟨_, _, h⟩
          | cons c r ih =>
           intro vs K h
           cases c with
           | val v =>
            cases vs with
            | nil => exact h.elim
            | cons v' vs => obtain ⟨a, b, h⟩ := ih _ _ h; exact ⟨_, _, h⟩
           | own i k => obtain ⟨a, b, h⟩ := ih _ _ h; exact ⟨_, _, h⟩
         obtain ⟨a, b, hs⟩ := hc _ _ _ hs
         have := ih _ _ hs i hi
         rw [R3 _ _ _ (D7 hn)] at this
         split at this
         ·rename_i e'; rw [e', hn]; rfl
         ·exact this
       ·exact hs.elim
     exact gen A.boxes v2 st.bx (by rw [hbx]; trivial)
    have hsomeO : ∀ i ∈ A.owns, (nth st.ow i).isSome = true := by
     have gen : ∀ (is : List Nat) (vs : List (List (List Value))) (ow : List Own), (o01 is vs ow fun _ => True) → ∀ i ∈ is, (nth ow i).isSome = true := by
      intro is
      induction is with
      | nil => intro vs bx _ i hi; cases hi
      | cons j r ih =>
       intro vs ow hs i hi
       cases vs with
       | nil => exact hs.elim
       | cons x vs =>
        simp only [o01] at hs
        split at hs
        ·rename_i hn
         rcases List.mem_cons.1 hi with rfl | hi
         ·rw [hn]; rfl
         ·have := ih _ _ hs i hi
          rw [R3 _ _ _ (D7 hn)] at this
          split at this
          ·rename_i e'; rw [e', hn]; rfl
          ·exact this
        ·exact hs.elim
     exact gen A.owns os0 st.ow (by rw [how]; trivial)
    obtain ⟨x2, hg, bx2, t1, t2, t3, t4, t5⟩ := A0b e A.boxes st.bx (hin _ hg (fun _ h => h) hsome) hg
    have hinO : ∀ i ∈ A.owns, ∃ s e1 sz by_ nn xs0 s' nn' xs, nth st.ow i = some ⟨s, .live e1 sz by_ nn xs0⟩ ∧ nth e.ow i = some ⟨s', .live e1 sz by_ nn' xs⟩ ∧ (nn = true → nn' = true) := fun i hi => by
     cases hb : nth st.ow i with
     | none => have := hsomeO i hi; rw [hb] at this; cases this
     | some b =>
      rcases hw' i b hb with ⟨_, s, e1, sz, by_, nn, xs0, s', nn', xs, rfl, h2, h3, _⟩ | ⟨h1, _⟩
      ·exact ⟨s, e1, sz, by_, nn, xs0, s', nn', xs, rfl, h2, h3⟩
      ·exact absurd hi h1
    obtain ⟨os2, o0, hg, ow2, o1, o2, o3, o4⟩ := B0b e A.owns st.ow hinO hg
    split at hg
    rotate_left
    ·exact hg.elim
    rename_i hlen
    rw [← hx1, O03, t1, o1] at hg
    obtain ⟨m2, hI2, hlt⟩ := s0e hg
    have hstamp : ∀ i, stamp (hd x1 bx2 ow2) i = stamp st i := fun i => by
     have := o4 i
     unfold stamp
     simp only [hd]
     cases h1 : nth ow2 i <;> cases h2 : nth st.ow i <;> rw [h1, h2] at this <;> simp at this <;> simp [this]
    refine ⟨m2, ⟨x1 ++ x2, os2, x1, x2, bx2, ow2, h2, be2, oe2, H2, ?_, ?_, rfl, hx1, t1, o1, hI2, ?_⟩, hlt⟩
    ·rw [← hvs]; exact D0b _ _ hlen
    ·rw [o0]
     have : os0.length = A.owns.length := hos
     rw [this]
    ·refine w0d (A := A) s2 hn ?_ ?_ ?_ ?_
     ·intro i b hi
      by_cases hm : i ∈ A.boxes
      ·obtain ⟨cs2, ty, cs', k1, k2, k3⟩ := t4 i hm
       have : nth bx2 i = some b := hi
       rw [k1] at this
       cases this
       exact .inl ⟨cs2, ty, cs', rfl, k2, k3⟩
      ·have : nth bx2 i = some b := hi
       rw [t3 i hm] at this
       rcases hx i b this with ⟨h1, _⟩ | ⟨_, h2, h3⟩
       ·exact absurd h1 hm
       ·exact .inr ⟨h2, h3⟩
     ·intro i o hi
      by_cases hm : i ∈ A.owns
      ·obtain ⟨s0, e1, sz, by_, nn, s', nn', xs, k1, k2, k3⟩ := o3 i hm
       have : nth ow2 i = some o := hi
       rw [k1] at this
       cases this
       exact .inl ⟨⟨s0, e1, sz, by_, nn, s', nn', xs, rfl, k2, k3⟩, hm⟩
      ·have : nth ow2 i = some o := hi
       rw [o2 i hm] at this
       rcases hw' i o this with ⟨h1, _⟩ | ⟨_, h2⟩
       ·exact absurd h1 hm
       ·exact .inr ⟨h2, hm⟩
     ·intro i cs ty hi
      have := t5 _ bd0 i cs ty hi
      have hh : (fun j k => ∃ s, stamp (hd x1 bx2 ow2) j = some s ∧ k ≤ s) = (fun j k => ∃ s, stamp st j = some s ∧ k ≤ s) := by
       funext j k; rw [hstamp]
      rw [hh]
      exact this
     ·refine w0f (A := A) (ds := ds0) (st := st) (av1 := fun t => hz2 (dyn ++ sta) t) s2 rfl t2 hstamp ?_ d1' d2 d3 s1' (O06 dyn hsd) (R03 _ hpop)
      intro i k hi hk
      show stamp e i = stamp (hd x1 bx2 ow2) i
      rw [hstamp i]
      cases hb : nth st.ow i with
      | none => unfold stamp at hk; rw [hb] at hk; cases hk
      | some b =>
       rcases hw' i b hb with ⟨h1, s0, e1, sz, by_, nn, xs0, s', nn', xs, rfl, h2, _, h4⟩ | ⟨_, h2⟩
       ·have := h4 (hi.resolve_left (fun h => h h1))
        simp [stamp, hb, h2, this]
       ·unfold stamp
        rw [hb, h2]
   ·exact hend.elim
  | exit i => exact hp
  | ret => exact hp
  | _ => exact hp
 have hS0 : Sim P h0 w0 be oe H (hd v1 st.bx st.ow) h a w := by
  refine s.refr (fr := Z04 A.vars v1 (dyn ++ sta)) fun t => ?_
  have gt := s.fr t
  have gr := s.rdA gt
  rcases hz (dyn ++ sta) t with ⟨h1, hv⟩ | ⟨v, h1, h2⟩
  ·rw [h1]
   rcases N06 dyn sta t with ⟨av, m1, m2⟩ | ⟨m1, m2⟩
   ·rw [m2]
    rcases d2 _ m1 with rfl | ⟨i, k, rfl, _, hr⟩ | ⟨i, o, rfl, _, hr⟩
    ·trivial
    ·rw [hr] at gr; exact gr
    ·rw [hr] at gr; exact gr
   ·rw [m2]
    have htd : t ∉ ds0 := fun hd => by
     obtain ⟨av, hm⟩ := d3 t hd hv
     exact m1 av hm
    rcases s1 t htd with h | ⟨h, _⟩
    ·rw [h]; trivial
    ·rw [h]; exact gr
  ·rw [h1]
   rw [h2] at gr
   exact gr
 obtain ⟨m0, hI⟩ := c0d (μ := μ) hI
 have hI0 : Inv m0 a w := ⟨v1 ++ v2, os0, v1, v2, st.bx, st.ow, h, be, oe, H, rfl, rfl, rfl, hv1, hbx, how, hI, hS0⟩
 classical
 let M : Act → World → Nat := fun a w => if hx : ∃ m, Inv m a w then Classical.choose (Y09 _ hx) else 0
 refine wp_loop (fun a w => ∃ m, Inv m a w) M ⟨_, hI0⟩ fun a w hx => ?_
 have hM : M a w = Classical.choose (Y09 _ hx) := by simp only [M, dif_pos hx]
 refine Code.wp_mono (fun e a' w' hq => ?_) (hbase _ a w (Classical.choose_spec (Y09 _ hx)).1)
 cases e with
 | normal =>
  obtain ⟨m', hm', hlt⟩ := hq
  refine ⟨⟨m', hm'⟩, ?_⟩
  have hx' : ∃ m, Inv m a' w' := ⟨m', hm'⟩
  have : M a' w' = Classical.choose (Y09 _ hx') := by simp only [M, dif_pos hx']
  rw [hM, this]
  exact Nat.lt_of_le_of_lt ((Classical.choose_spec (Y09 _ hx')).2 m' hm') hlt
 | _ => exact hq
end
end Go.H
namespace Go.H
set_option linter.unusedVariables false
set_option linter.unusedSimpArgs false
section
variable {P : Program} {h0 : Hp} {w0 : World} {be : Nat → Nat} {oe : Nat → Value} {H : Hp} {st : St} {h : Hp} {a : Act} {w : World}
theorem y0d (c : Code) : ∀ (Q : Ex → St → Hp → Prop) (st : St) (h : Hp) (a : Act) (w : World) (be : Nat → Nat) (oe : Nat → Value) (H : Hp), Sim P h0 w0 be oe H st h a w → ev P c Q st h → c.wp P (T08 P h0 w0 Q) a w := by
 induction c with
 | skip => exact fun Q st h a w be oe H s he => wp_skip ⟨st, h, be, oe, H, he, s⟩
 | region id ops d => exact fun Q st h a w be oe H s he => U08 s he
 | seq x y ihx ihy =>
  intro Q st h a w be oe H s he
  refine wp_seq (Code.wp_mono (fun e a w hp => ?_) (ihx _ _ _ _ _ _ _ _ s he))
  cases e with
  | normal => obtain ⟨st, h, be, oe, H, k, s⟩ := hp; exact ihy _ _ _ _ _ _ _ _ s k
  | exit i => exact hp
  | ret => exact hp
  | _ => exact hp
 | cond c x y ihx ihy =>
  intro Q st h a w be oe H s he
  simp only [ev] at he
  split at he
  ·rename_i b hb
   have g := s.rdO c
   rw [hb] at g
   exact wp_cond_split g (fun e => ihx _ _ _ _ _ _ _ _ s (he.1 e)) (fun e => ihy _ _ _ _ _ _ _ _ s (he.2 e))
  ·exact he.elim
 | block id c ih =>
  intro Q st h a w be oe H s he
  refine wp_block (Code.wp_mono (fun e a w hp => ?_) (ih _ _ _ _ _ _ _ _ s he))
  cases e with
  | normal => exact hp
  | exit i =>
   obtain ⟨st, h, be, oe, H, k, s⟩ := hp
   simp only [Exit.inBlock]
   dsimp only at k
   cases hb : Nat.beq i id with
   | true =>
    rw [hb] at k
    rw [if_pos (Nat.eq_of_beq_eq_true hb)]
    exact ⟨st, h, be, oe, H, k, s⟩
   | false =>
    rw [hb] at k
    rw [if_neg (Nat.ne_of_beq_eq_false hb)]
    exact ⟨st, h, be, oe, H, k, s⟩
  | ret => exact hp
  | _ => exact hp
 | loop c ih => exact fun Q st h a w be oe H s he => R0a ih s he
 | exit i => exact fun Q st h a w be oe H s he => wp_exit ⟨st, h, be, oe, H, he, s⟩
 | ret => exact fun Q st h a w be oe H s he => wp_ret ⟨st, h, be, oe, H, he, s⟩
 | _ => exact fun Q st h a w be oe H s he => he.elim
def C0e (tmps : Array Value) : ResultVar → Sem Value
 | .tmp t => pure (tmps.getD t undef)
 | .cell a t => do loadVar t (← asAddr (tmps.getD a undef))
theorem T03 : ∀ (l : List ResultVar) (st : St) (h : Hp) {K : List Value → St → Hp → Prop}, Sim P h0 w0 be oe H st h a w → L0a P l st h K →
  ∃ vs st' h', K vs st' h' ∧ Sim P h0 w0 be oe H st' h' a w ∧ (l.mapM (C0e a.tmps)).run P w = .ok vs w
 | [], st, h, K, s, he => ⟨[], st, h, he, s, rfl⟩
 | .tmp t :: r, st, h, K, s, he => by
  obtain ⟨st1, h1, e1, s1, _⟩ := A8 s (s.rdA (s.fr t)) he
  obtain ⟨vs, st2, h2, e2, s2, hr⟩ := T03 r st1 h1 s1 e1
  refine ⟨_, st2, h2, e2, s2, ?_⟩
  simp only [List.mapM_cons, Sem.run_bind, C0e, Sem.run_pure, Result.andThen_ok, hr]
 | .cell t ty :: r, st, h, K, s, he => by
  simp only [L0a] at he
  split at he
  ·rename_i i off hr
   split at he
   ·rename_i cs ty' hn
    have g := s.rdA (s.fr t)
    rw [hr] at g
    obtain ⟨h1, vs, h2, h3⟩ := s.box i cs ty' hn
    obtain ⟨av, v, k1, k2, k3⟩ := R.load_row (H := H) (b := be i) (o := 0) (be := be) he h2 (fun j v hj => by simp [Hp.cell, h3, hj])
    obtain ⟨st1, h1, e1, s1, _⟩ := A8 s k2 k1
    obtain ⟨vs', st2, h2', e2, s2, hr'⟩ := T03 r st1 h1 s1 e1
    refine ⟨_, st2, h2', e2, s2, ?_⟩
    have hld : (loadVar ty ⟨be i, off, none⟩).run P w = .ok v w := by
     obtain ⟨x, hx, e⟩ := R.wpR_sound _ _ w s.mv.vis (k3 (fun x _ => x = v) rfl)
     rw [Nat.zero_add] at hx
     rw [hx, e]
    have hx : a.tmps.getD t undef = ptr (be i) off := g.2
    simp only [List.mapM_cons, Sem.run_bind, C0e, hx, ptr, asAddr, Sem.run_pure, Result.andThen_ok, hld, hr']
   ·exact he.elim
  ·exact he.elim
theorem a08 : ∀ (args : List Value) (i s : Nat), Q0 (n04 i args) s = .dead ∨ Q0 (n04 i args) s = .val (if i ≤ s then args.getD (s - i) undef else undef)
 | [], i, s => .inl rfl
 | v :: r, i, s => by
  simp only [n04]
  rw [Z0]
  by_cases e : i = s
  ·subst e; right; simp
  ·rw [if_neg e]
   rcases a08 r (i + 1) s with h' | h'
   ·exact .inl h'
   right
   rw [h']
   by_cases h : i ≤ s
   ·rw [if_pos h, if_pos (by omega)]
    have : s - i = (s - (i + 1)) + 1 := by omega
    rw [this, List.getD_cons_succ]
   ·rw [if_neg h, if_neg (by omega)]
theorem T0.less {h h' H : Hp} {w w' : World} (m : T0 h w H w') (hs : ∀ b o, h' b = some o → H b = some o) : T0 h w h' w' := by
 refine ⟨m.os, m.tape, m.output, m.size, m.keep, fun b o hb => m.vis b o (hs b o hb), fun b hb => ?_, m.fz, m.dn⟩
 cases hc : h' b with
 | none => exact absurd hc hb
 | some o => exact m.fresh b (by rw [hs b o hc]; simp)
theorem S0a {f : FuncId} {fn : Func} {args : List Value} {T : Value → Hp → Prop} (hf : P.funcs[f]? = some fn) (he : q0f P fn args h T) : Tr P f args.toArray h T := by
 refine ⟨fun w hv => ?_⟩
 unfold q0f at he
 split at he
 ·rename_i c hb
  split at he
  ·rename_i hle
   have hle := Nat.le_of_ble_eq_true hle
   have s0 : Sim P h w (fun _ => 0) (fun _ => undef) h ⟨fn.ntmps, n04 0 args, [], []⟩ h { tmps := args.toArray ++ Array.replicate (fn.ntmps - args.toArray.size) undef, defers := [] } w := by
    refine ⟨T0.refl hv, fun _ _ h => h, (fun i cs ty hi => nomatch hi), (fun i b hi => nomatch hi), (fun i s e sz by_ nn xs hi => nomatch hi), (fun i s v hi => nomatch hi), (fun i j cs ty cs' ty' hi => nomatch hi),
     (fun i j s e sz by_ nn xs s' e' sz' by' nn' xs' g hi => nomatch hi), (fun i cs ty j s e sz by_ nn xs hi => nomatch hi), rfl, by simp; omega, fun s => ?_⟩
    rcases a08 args 0 s with h' | h'
    ·exact (show J0 _ _ _ (Q0 (n04 0 args) s) _ from by rw [h']; trivial)
    show J0 _ _ _ (Q0 (n04 0 args) s) _
    rw [h']
    simp only [Nat.zero_le, if_true, Nat.sub_zero]
    show _ = _
    simp only [Array.getD_eq_getD_getElem?]
    rw [Array.getElem?_append]
    simp only [List.size_toArray, List.getElem?_toArray]
    split
    ·simp [List.getD_eq_getElem?_getD]
    ·rename_i hn
     rw [List.getD_eq_getElem?_getD, List.getElem?_eq_none (by omega)]
     rw [Array.getElem?_replicate]
     split <;> rfl
   refine calls_of_wp hf hb (Code.wp_mono (fun e a' w' hp => ?_) (y0d c _ _ _ _ _ _ _ _ s0 he))
   have fin : ∀ {st h' be oe H}, L0a P fn.results.toList st h' (fun vs _ h => T (z09 vs) h) → Sim P h w be oe H st h' a' w' → a'.defers = [] ∧ ∃ v, (results fn a'.tmps).run P w' = .ok v w' ∧ ∃ v' h', Ending.returned v = .returned v' ∧ T v' h' ∧ T0 h w h' w' := by
    intro st h' be oe H hk s
    obtain ⟨vs, st2, h2, e2, s2, hr⟩ := T03 _ _ _ s hk
    refine ⟨s.dfr, z09 vs, ?_, z09 vs, h2, rfl, e2, s2.mv.less s2.sub⟩
    have hres : results fn a'.tmps = (fn.results.mapM (C0e a'.tmps) >>= fun vs => pure (if h : vs.size = 1 then vs[0] else .tuple vs)) := by
     unfold results
     congr 1
    rw [hres, Array.mapM_eq_mapM_toList]
    simp only [Sem.run_bind, Sem.run_map, hr, Result.andThen_ok, Sem.run_pure]
    cases vs with
    | nil => rfl
    | cons x r => cases r <;> rfl
   cases e with
   | normal => obtain ⟨st, h', be, oe, H, hk, s⟩ := hp; exact fin hk s
   | ret => obtain ⟨st, h', be, oe, H, hk, s⟩ := hp; exact fin hk s
   | exit i => obtain ⟨st, h', be, oe, H, hk, s⟩ := hp; exact hk.elim
   | _ => exact hp.elim
  ·exact he.elim
 ·exact he.elim
end
end Go.H
namespace Go.H
open Go.RowKit Go.ChangeShapes Go.WideShapes Go.ChangeAt
set_option linter.unusedVariables false
theorem Tr.val {P : Program} {f : FuncId} {args : Array Value} {h : Hp} {x : Value} {T : Value → Hp → Prop} (t : Tr P f args h fun v h' => v = x ∧ h' = h) (hx : T x h) : Tr P f args h T :=
 t.mono fun _ _ ⟨e1, e2⟩ => by rw [e1, e2]; exact hx
theorem Tr.calls {P : Program} {f : FuncId} {args : Array Value} {W : World} {x : Value} (t : Tr P f args (fun b => W.heap[b]?) fun v h' => v = x ∧ ∀ b o, W.heap[b]? = some o → h' b = some o) :
  Calls P f args W fun e W' => e = .returned x ∧ Below W.heap.size W W' ∧ ∀ a : Addr, a.block < W.heap.size → W'.frozen? a = W.frozen? a := by
 refine (t.run W (fun b o h => h)).mono ?_
 rintro e W' ⟨v, h', rfl, ⟨rfl, hh⟩, m⟩
 refine ⟨rfl, ⟨m.os, m.tape, m.output, m.size, fun k hk => ?_⟩, m.fz⟩
 have : W.heap[k]? = some W.heap[k] := by simp [hk]
 rw [this]
 exact m.vis _ _ (hh k _ this)
theorem w64 {x : Int} (h1 : -9223372036854775808 ≤ x) (h2 : x ≤ 9223372036854775807) : IntKind.i64.wrap x = x := by
 simp [IntKind.wrap, IntKind.signed, IntKind.bits]
 omega
theorem d0g {n : Nat} (h : n ≤ maxLen) : n ≤ 9223372036854775807 := by
 simp [maxLen] at h
 omega
def D0 (x : Int) : Prop := -9223372036854775808 ≤ x ∧ x ≤ 9223372036854775807
theorem e0g {x : Int} (h : (Lit.int .i64 x).wf = true) : D0 x := by
 simpa [Lit.wf, IntKind.min, IntKind.max, IntKind.signed, IntKind.bits, D0] using h
section
variable {H : Type} {enc : TypeId × Value → H} {P : Program}
theorem C03 (hl : laidOutB P = true) {W W' : World} (hb : Below W.heap.size W W') {sp : Nat → Bool} : ∀ {ts : List TypeId} {vs : List Value} {ds : List (DataW H)} {ps : List MemPlace},
  (∀ t ∈ ts, P.readableRec t = true ∧ t < P.types.size) → DataW.TrodAll enc P W 0 (fun _ => true) true ts vs ds ps → (∀ p ∈ ps, p.block < W.heap.size) → (∀ p ∈ ps, sp p.block = true) →
  DataW.TrodAll enc P W' 0 sp true ts vs ds ps
 | [], vs, ds, ps, _, h, _, _ => by
  obtain ⟨rfl, rfl, rfl⟩ := trodAll_nil h
  exact rfl
 | t :: ts, vs, ds, ps, ht, h, hlt, hs => by
  obtain ⟨v, vs', d, ds', p, q, rfl, rfl, rfl, h1, h2⟩ := trodAll_cons h
  obtain ⟨r1, r2⟩ := ht t (List.mem_cons_self ..)
  refine ⟨p, q, WideElems.Trod_stays hl r1 r2 h1 (fun x hx => hb.same (hlt x (List.mem_append_left _ hx))) (fun x hx => hs x (List.mem_append_left _ hx)), ?_, rfl⟩
  exact C03 hl hb (fun t ht' => ht t (List.mem_cons_of_mem _ ht')) h2 (fun x hx => hlt x (List.mem_append_right _ hx)) (fun x hx => hs x (List.mem_append_right _ hx))
theorem V05 {f : Func} {s : ChangeSpec} {apart fresh handsOn again : Bool} {W W' : World} {args : Array Value} {v : Value} {ds gs : List (DataW H)} {before pa pv : List MemPlace}
  (hW : DataW.Whole enc P f.params.toList s.vars apart W args.toList ds gs before)
  (hres : ∀ (b : Nat) (sp : Nat → Bool) (hd : Bool), DataW.TrodAll enc P W' b sp hd f.resultTypes.toList (v.resultList f.resultTypes.size) (s.fn H (ds ++ gs)).results [])
  (hargs : ∀ sp : Nat → Bool, (∀ p ∈ before, sp p.block = true) → DataW.TrodAll enc P W' 0 sp true f.params.toList args.toList (s.fn H (ds ++ gs)).args pa)
  (hvars : ∀ sp : Nat → Bool, (∀ p ∈ before, sp p.block = true) → DataW.TrodVars enc P W' sp s.vars (s.fn H (ds ++ gs)).vars pv)
  (hps : before = pa ++ pv) (hk : W.keptBut W' (· ∈ before)) (hfz : ∀ a : Addr, a.block < W.heap.size → W'.frozen? a = W.frozen? a)
  (hok : ∀ (j : Nat) (t : TypeId) (r : Value), f.resultTypes[j]? = some t → (v.resultList f.resultTypes.size)[j]? = some r → Value.okWide P W' .any 0 t r) :
  s.post enc P f apart fresh handsOn again W args v W' := by
 have hlt := fun p hp => hW.lt (p := p) hp
 refine ⟨ds, gs, before, [], pa, pv, hW, hres _ _ _, hargs _ (fun p hp => by simpa using hlt p hp), hvars _ (fun p hp => by simpa using hlt p hp), World.keptBut_mono (fun p hp => ⟨hp, .inr (by rwa [hps, List.mem_append] at hp)⟩) hk, fun _ => ?_⟩
 obtain ⟨_, _, _, _, _, hz, hn⟩ := hW
 have hq : ([] ++ pa) ++ pv = before := by simp [hps]
 refine ⟨hok, _, _, ([] ++ pa) ++ pv, ⟨[] ++ pa, pv, trodAll_append (hargs _ (fun _ _ => rfl)) (hres _ _ _), hvars _ (fun _ _ => rfl), rfl, ?_, ?_⟩, fun p hp _ => by rwa [hq] at hp⟩
 ·intro b off hp
  rw [hq] at hp
  rw [hfz _ (hlt _ hp)]
  exact hz b off hp
 ·intro ha
  rw [hq]
  exact hn ha
theorem z0d {f : Func} {s : ChangeSpec} {apart fresh handsOn again : Bool} {W W' : World} {args : Array Value} {ds gs : List (DataW H)} {before : List MemPlace} {tb : TypeId}
  (hl : laidOutB P = true) (ht : ∀ t ∈ f.params.toList, P.readableRec t = true ∧ t < P.types.size) (hv : s.vars = []) (hfn : s.fn H (ds ++ gs) = { results := [.lit (.bool true)], args := ds })
  (hr : f.resultTypes = #[tb]) (htb : P.underlying tb = some .bool) (hW : DataW.Whole enc P f.params.toList s.vars apart W args.toList ds gs before)
  (hB : Below W.heap.size W W') (hfz : ∀ a : Addr, a.block < W.heap.size → W'.frozen? a = W.frozen? a) : s.post enc P f apart fresh handsOn again W args (.bool true) W' := by
 have hlt := fun p hp => hW.lt (p := p) hp
 have hW' := hW
 obtain ⟨p, q, hA, hV, rfl, _, _⟩ := hW
 rw [hv] at hV
 obtain ⟨rfl, rfl⟩ := trodVars_none hV
 refine V05 (pa := p) (pv := []) hW' (fun _ _ _ => ?_) (fun sp hsp => ?_) (fun sp hsp => ?_) rfl (hB.frame _) hfz (ok_one hr rfl (okWide_bool_mk htb _))
 ·rw [hfn, hr]
  exact trodAll_mk1 (shut_bool htb _)
 ·rw [hfn]
  exact C03 hl hB ht hA (fun x hx => hlt x (List.mem_append_left _ hx)) (fun x hx => hsp x (List.mem_append_left _ hx))
 ·rw [hfn, hv]
  exact rfl
end
end Go.H
