/- The library of the walks, part HD: plain laws over the model. -/
import Derived.Test.YtfdlgbfeceodeaaGreatHC
import Derived.ProofKit
namespace Go.H
set_option linter.unusedVariables false
set_option linter.unusedSimpArgs false
theorem b8 {i : Nat} {o : Oper} (h : F9 i o = true) : ∃ e ∈ o.after, Region.binds .any e = true ∧ e.on = i := by
 unfold F9 at h
 rw [List.any_eq_true] at h
 obtain ⟨e, he, h⟩ := h
 simp only [Bool.and_eq_true] at h
 exact ⟨e, by simpa using he, h.1, Nat.eq_of_beq_eq_true h.2⟩
theorem F02 {o : Oper} {t : Nat} : ∀ {l : List Oper} {i : Nat}, z8 o t l i = true → ∀ k x, l[k]? = some x → x.dst = some t → F9 (i + k) o = true
 | [], i, h, k, x, hk, hd => by simp at hk
 | y :: r, i, h, 0, x, hk, hd => by
  simp at hk
  subst hk
  simp only [z8, hd, Nat.beq_refl, Bool.and_eq_true] at h
  exact h.1
 | y :: r, i, h, k + 1, x, hk, hd => by
  simp only [List.getElem?_cons_succ] at hk
  have hr : z8 o t r (i + 1) = true := by
   simp only [z8] at h
   split at h
   ·split at h
    ·simp only [Bool.and_eq_true] at h; exact h.2
    ·exact h
   ·exact h
  have := F02 hr k x hk hd
  rwa [show i + 1 + k = i + (k + 1) from by omega] at this
theorem p9 {o : Oper} {ops : List Oper} : ∀ {l : List Operand}, U03 o ops l = true → ∀ t, Operand.tmp t ∈ l → z8 o t ops 0 = true
 | [], h, t, ht => by cases ht
 | .tmp u :: r, h, t, ht => by
  simp only [U03, Bool.and_eq_true] at h
  rcases List.mem_cons.1 ht with e | ht
  ·cases e; exact h.1
  ·exact p9 h.2 t ht
 | .const v :: r, h, t, ht => by
  rcases List.mem_cons.1 ht with e | ht
  ·cases e
  ·exact p9 (l := r) h t ht
 | .global v :: r, h, t, ht => by
  rcases List.mem_cons.1 ht with e | ht
  ·cases e
  ·exact p9 (l := r) h t ht
 | .func v :: r, h, t, ht => by
  rcases List.mem_cons.1 ht with e | ht
  ·cases e
  ·exact p9 (l := r) h t ht
theorem O01 {ops : List Oper} : ∀ {l : List Oper}, y0b ops l = true → ∀ o ∈ l, ∀ t, Operand.tmp t ∈ o.op.operands → ∀ k x, ops[k]? = some x → x.dst = some t → ∃ e ∈ o.after, Region.binds .any e = true ∧ e.on = k
 | [], h, o, ho => by cases ho
 | y :: r, h, o, ho => by
  simp only [y0b, Bool.and_eq_true] at h
  rcases List.mem_cons.1 ho with rfl | ho
  ·intro t ht k x hk hd
   have := F02 (p9 h.1 t (by simpa using ht)) k x hk hd
   rw [Nat.zero_add] at this
   exact b8 this
  ·exact O01 h.2 o ho
theorem Y00 {d : Nat} : ∀ {l : List Oper}, u02 d l = true → ∀ o ∈ l, o.dst ≠ some d
 | [], h, o, ho => by cases ho
 | y :: r, h, o, ho => by
  simp only [u02] at h
  split at h
  ·rename_i d' hd
   simp only [Bool.and_eq_true, Bool.not_eq_true'] at h
   rcases List.mem_cons.1 ho with rfl | ho
   ·intro e; rw [hd] at e; cases e; exact Nat.ne_of_beq_eq_false h.1 rfl
   ·exact Y00 h.2 o ho
  ·rename_i hd
   rcases List.mem_cons.1 ho with rfl | ho
   ·intro e; rw [hd] at e; cases e
   ·exact Y00 h o ho
theorem x00 {n : Nat} : ∀ {l : List Oper}, q09 n l = true → (∀ o ∈ l, ∀ d, o.dst = some d → d < n) ∧
  ∀ (i j : Nat) (oi oj : Oper) (d : Nat), l[i]? = some oi → l[j]? = some oj → oi.dst = some d → oj.dst = some d → i = j
 | [], h => ⟨by simp, fun i j oi oj d hi => by simp at hi⟩
 | y :: r, h => by
  simp only [q09] at h
  split at h
  ·rename_i d hd
   simp only [Bool.and_eq_true] at h
   obtain ⟨⟨h1, h2⟩, h3⟩ := h
   obtain ⟨k1, k2⟩ := x00 h3
   have ho := Y00 h2
   refine ⟨fun o hm d' hd' => ?_, fun i j oi oj d' hi hj e1 e2 => ?_⟩
   ·rcases List.mem_cons.1 hm with rfl | hm
    ·rw [hd] at hd'; cases hd'
     have h1' : Nat.ble (d + 1) n = true := h1
     exact Nat.le_of_ble_eq_true h1'
    ·exact k1 o hm d' hd'
   ·cases i with
    | zero =>
     simp at hi
     cases j with
     | zero => rfl
     | succ j =>
      simp at hj
      subst hi
      rw [hd] at e1; cases e1
      exact absurd e2 (ho oj (List.mem_of_getElem? hj))
    | succ i =>
     simp at hi
     cases j with
     | zero =>
      simp at hj
      subst hj
      rw [hd] at e2; cases e2
      exact absurd e1 (ho oi (List.mem_of_getElem? hi))
     | succ j =>
      simp at hj
      rw [k2 i j oi oj d' hi hj e1 e2]
  ·rename_i hd
   obtain ⟨k1, k2⟩ := x00 h
   refine ⟨fun o hm d' hd' => ?_, fun i j oi oj d' hi hj e1 e2 => ?_⟩
   ·rcases List.mem_cons.1 hm with rfl | hm
    ·rw [hd] at hd'; cases hd'
    ·exact k1 o hm d' hd'
   ·cases i with
    | zero => simp at hi; subst hi; rw [hd] at e1; cases e1
    | succ i =>
     simp at hi
     cases j with
     | zero => simp at hj; subst hj; rw [hd] at e2; cases e2
     | succ j => simp at hj; rw [k2 i j oi oj d' hi hj e1 e2]
theorem y00 : ∀ {l : List Oper} {j : Nat}, i06 l j = true → ∀ k o, l[k]? = some o → ∀ e ∈ o.after, Region.binds .any e = true → e.on < j + k
 | [], j, h, k, o, hk => by simp at hk
 | y :: r, j, h, k, o, hk => by
  simp only [i06, Bool.and_eq_true, List.all_eq_true] at h
  cases k with
  | zero =>
   simp at hk
   subst hk
   intro e he hb
   have := h.1 e (by simpa using he)
   simp [hb, Nat.blt] at this
   omega
  | succ k =>
   simp at hk
   intro e he hb
   have := y00 h.2 k o hk e he hb
   omega
def O2 : List Oper → List (Nat × AV) → List (Nat × AV)
 | [], fr => fr
 | o :: r, fr => match o.dst with
  | some d => (d, .dead) :: O2 r fr
  | none => O2 r fr
theorem Q6 {t : Nat} : ∀ {l : List Oper} {fr : List (Nat × AV)}, (∀ o ∈ l, o.dst ≠ some t) → K1 (O2 l fr) t = K1 fr t
 | [], fr, h => rfl
 | o :: r, fr, h => by
  have hr := Q6 (fr := fr) fun o' ho' => h o' (List.mem_cons_of_mem _ ho')
  simp only [O2]
  split
  ·rename_i d hd
   rw [C2, if_neg (fun e => h o (List.mem_cons_self ..) (by rw [hd, e]))]
   exact hr
  ·exact hr
theorem g9 {t : Nat} : ∀ {l : List Oper} {fr : List (Nat × AV)} {o : Oper}, o ∈ l → o.dst = some t → K1 (O2 l fr) t = .dead
 | [], fr, o, h, _ => by cases h
 | y :: r, fr, o, h, hd => by
  simp only [O2]
  split
  ·rename_i d hy
   rw [C2]
   split
   ·rfl
   ·rename_i hne
    rcases List.mem_cons.1 h with rfl | h
    ·rw [hd] at hy; cases hy; exact absurd rfl hne
    ·exact g9 h hd
  ·rename_i hy
   rcases List.mem_cons.1 h with rfl | h
   ·rw [hd] at hy; cases hy
   ·exact g9 h hd
theorem O5 (d : Nat) (f : L4) (r : List (Nat × L4)) (s : Nat) : U0 ((d, f) :: r) s = if d = s then some f else U0 r s := by
 simp only [U0]
 cases h : Nat.beq d s with
 | true => rw [if_pos (Nat.eq_of_beq_eq_true h)]
 | false => rw [if_neg (Nat.ne_of_beq_eq_false h)]
def A03 (L L' : List (Nat × L4)) (l : List Operand) : Prop := ∀ t, Operand.tmp t ∈ l → U0 L t = U0 L' t
theorem V04 {L L' : List (Nat × L4)} {st : St} {x : Operand} (h : A03 L L' [x]) : rdS L st x = rdS L' st x := by
 cases x with
 | tmp t => simp only [rdS, h t (List.mem_cons_self ..)]
 | _ => rfl
theorem G08 {P : Program} {L L' : List (Nat × L4)} {o : Oper} {st : St} (h : A03 L L' o.op.operands.toList) : y03 P L o st = y03 P L' o st := by
 unfold y03
 split
 ·rename_i x hx
  rw [V04 (L' := L') fun t ht => h t (by rw [hx]; simpa [Op.operands] using ht)]
 ·rename_i x hx
  rw [V04 (L' := L') fun t ht => h t (by rw [hx]; simpa [Op.operands] using ht)]
 ·rename_i t x hx
  rw [V04 (L' := L') fun t ht => h t (by rw [hx]; simpa [Op.operands] using ht)]
 ·rfl
theorem c8 {L L' : List (Nat × L4)} {st : St} {h : Hp} {K : List (Nat × AV) → Prop} : ∀ {l : List Operand} {acc : List (Nat × AV)}, A03 L L' l → t02 L st h l acc K → t02 L' st h l acc K
 | [], acc, _, he => he
 | .tmp t :: r, acc, ha, he => by
  have hr : A03 L L' r := fun u hu => ha u (List.mem_cons_of_mem _ hu)
  simp only [t02] at he ⊢
  rw [← ha t (List.mem_cons_self ..)]
  split at he
  ·exact c8 hr he
  ·exact fun v hv => c8 hr (he v hv)
  ·exact c8 hr he
 | .const v :: r, acc, ha, he => c8 (l := r) (fun u hu => ha u (List.mem_cons_of_mem _ hu)) he
 | .global v :: r, acc, ha, he => c8 (l := r) (fun u hu => ha u (List.mem_cons_of_mem _ hu)) he
 | .func v :: r, acc, ha, he => c8 (l := r) (fun u hu => ha u (List.mem_cons_of_mem _ hu)) he
section
variable {P : Program} {h0 : Hp} {w0 : World} {be : Nat → Nat} {oe : Nat → Value} {H : Hp} {h : Hp} {a : Act} {w : World}
theorem Sim.refr {st : St} (s : Sim P h0 w0 be oe H st h a w) {fr : List (Nat × AV)} (hf : ∀ t, Y0 st be oe (K1 fr t) (a.tmps.getD t undef)) : Sim P h0 w0 be oe H { st with fr := fr } h a w := by
 have gr : K4 st be oe { st with fr := fr } be oe := ⟨Nat.le_refl _, fun _ _ => rfl, fun i s h => ⟨s, h, Nat.le_refl _, fun _ => rfl⟩⟩
 refine ⟨s.mv, s.sub, fun i cs ty hi => ?_, s.pub, s.own, s.frz, s.bb, s.oo, s.bo, s.dfr, s.siz, fun t => (hf t).grow gr⟩
 obtain ⟨h1, vs, h2, h3⟩ := s.box i cs ty hi
 exact ⟨h1, vs, h2.grow gr, h3⟩
def Z00 (st : St) (be : Nat → Nat) (oe : Nat → Value) (h : Hp) : L4 → Value → Prop
 | .pu av, v => Y0 st be oe av v
 | .ef F, v => F v h
theorem T8 {L : List (Nat × L4)} {st : St} {h : Hp} {val : Nat → Value} {K : List (Nat × AV) → Prop} : ∀ {l : List Operand} {acc : List (Nat × AV)},
  (∀ t, Y0 st be oe (K1 acc t) (val t)) → (∀ t, Operand.tmp t ∈ l → (∀ f, U0 L t = some f → Z00 st be oe h f (val t)) ∧ (U0 L t = none → Y0 st be oe (K1 st.fr t) (val t))) →
  t02 L st h l acc K → ∃ fr, K fr ∧ ∀ t, Y0 st be oe (K1 fr t) (val t)
 | [], acc, h1, h2, he => ⟨acc, he, h1⟩
 | .tmp t :: r, acc, h1, h2, he => by
  have h2r : ∀ u, Operand.tmp u ∈ r → _ := fun u hu => h2 u (List.mem_cons_of_mem _ hu)
  have hx := h2 t (List.mem_cons_self ..)
  have put : ∀ av, Y0 st be oe av (val t) → ∀ u, Y0 st be oe (K1 ((t, av) :: acc) u) (val u) := fun av g u => by
   rw [C2]
   split
   ·rename_i e; subst e; exact g
   ·exact h1 u
  simp only [t02] at he
  split at he
  ·rename_i av e
   exact T8 (put av (hx.1 _ e)) h2r he
  ·rename_i F e
   exact T8 (put (.val (val t)) rfl) h2r (he _ (hx.1 _ e))
  ·rename_i e
   exact T8 (put _ (hx.2 e)) h2r he
 | .const v :: r, acc, h1, h2, he => T8 (l := r) h1 (fun u hu => h2 u (List.mem_cons_of_mem _ hu)) he
 | .global v :: r, acc, h1, h2, he => T8 (l := r) h1 (fun u hu => h2 u (List.mem_cons_of_mem _ hu)) he
 | .func v :: r, acc, h1, h2, he => T8 (l := r) h1 (fun u hu => h2 u (List.mem_cons_of_mem _ hu)) he
theorem W04 {st : St} {val : Nat → Value} {K : List (Nat × AV) → Prop} : ∀ {L : List (Nat × L4)} {fr : List (Nat × AV)}, (∀ p ∈ L, Z00 st be oe h p.2 (val p.1)) →
  (∀ t, (∀ f, (t, f) ∉ L) → Y0 st be oe (K1 fr t) (val t)) → p09 h L fr K → ∃ fr, K fr ∧ ∀ t, Y0 st be oe (K1 fr t) (val t)
 | [], fr, h1, h2, he => ⟨fr, he, fun t => h2 t (by simp)⟩
 | (d, .pu av) :: r, fr, h1, h2, he => W04 (L := r) (fr := (d, av) :: fr) (fun p hp => h1 p (List.mem_cons_of_mem _ hp)) (fun t ht => by
   rw [C2]
   split
   ·rename_i e; subst e; exact h1 (d, .pu av) (List.mem_cons_self ..)
   ·rename_i hne
    exact h2 t fun f hf => by
     rcases List.mem_cons.1 hf with e | hf
     ·cases e; exact hne rfl
     ·exact ht f hf) he
 | (d, .ef F) :: r, fr, h1, h2, he => W04 (L := r) (fr := (d, .val (val d)) :: fr) (fun p hp => h1 p (List.mem_cons_of_mem _ hp)) (fun t ht => by
   rw [C2]
   split
   ·rename_i e; subst e; exact rfl
   ·rename_i hne
    exact h2 t fun f hf => by
     rcases List.mem_cons.1 hf with e | hf
     ·cases e; exact hne rfl
     ·exact ht f hf) (he _ (h1 (d, .ef F) (List.mem_cons_self ..)))
def P0a (P : Program) (st : St) (h : Hp) (L : List (Nat × L4)) (o : Oper) : Prop :=
 o.guard = none ∧ ∃ f, (∀ d, o.dst = some d → U0 L d = some f) ∧ match f with
  | .pu av => y03 P L o st = some av
  | .ef F => (∀ v h1 h2, Sub h1 h2 → F v h1 → F v h2) ∧ ∀ h', Sub h h' → t02 L st h' o.op.operands.toList [] fun fr => I5 P o { st with fr := fr } h' (K0f { st with fr := fr } h' F)
theorem I9 : ∀ {L : List (Nat × L4)} {t : Nat} {f : L4}, U0 L t = some f → (t, f) ∈ L
 | [], t, f, h => by cases h
 | (d, f') :: r, t, f, h => by
  rw [O5] at h
  split at h
  ·rename_i e; subst e; cases h; exact List.mem_cons_self ..
  ·exact List.mem_cons_of_mem _ (I9 h)
theorem G09 {ops : List Oper} {st : St} {h : Hp} {K : St → Hp → Prop} (hD : ∀ (i j : Nat) (oi oj : Oper) (d : Nat), ops[i]? = some oi → ops[j]? = some oj → oi.dst = some d → oj.dst = some d → i = j)
  (hdep : ∀ (j : Nat) (o : Oper) (t i : Nat) (oi : Oper), ops[j]? = some o → Operand.tmp t ∈ o.op.operands → ops[i]? = some oi → oi.dst = some t → i < j) :
  ∀ (l : List Oper) (k : Nat) (L : List (Nat × L4)), (∀ j, l[j]? = ops[k + j]?) → (∀ t f, (t, f) ∈ L → ∃ (i : Nat) (oi : Oper), i < k ∧ ops[i]? = some oi ∧ oi.dst = some t) →
   (∀ (i : Nat) (oi : Oper) (d : Nat), i < k → ops[i]? = some oi → oi.dst = some d → ∃ f, U0 L d = some f) → (∀ p q, p ∈ L → q ∈ L → p.1 = q.1 → p.2 = q.2) → evS P l L st h K →
   ∃ L', (∀ t f, U0 L t = some f → U0 L' t = some f) ∧ (∀ t f, (t, f) ∈ L' → ∃ (i : Nat) (oi : Oper), ops[i]? = some oi ∧ oi.dst = some t) ∧ (∀ p q, p ∈ L' → q ∈ L' → p.1 = q.1 → p.2 = q.2) ∧
    (∀ (i : Nat) (oi : Oper) (d : Nat), ops[i]? = some oi → oi.dst = some d → ∃ f, U0 L' d = some f) ∧
    (∀ j o, k ≤ j → ops[j]? = some o → P0a P st h L' o) ∧ (∀ h', Sub h h' → p09 h' L' st.fr fun fr => K { st with fr := fr } h')
 | [], k, L, hl, hc, hc2, hu, he => by
  have no : ∀ j o, ops[j]? = some o → j < k := fun j o ho => by
   rcases Nat.lt_or_ge j k with h | h
   ·exact h
   ·have := hl (j - k)
    rw [show k + (j - k) = j from by omega, ho] at this
    simp at this
  refine ⟨L, fun _ _ h => h, fun t f ht => ?_, hu, fun i oi d h1 h2 => hc2 i oi d (no i oi h1) h1 h2, fun j o hj ho => ?_, he⟩
  ·obtain ⟨i, oi, _, h1, h2⟩ := hc t f ht
   exact ⟨i, oi, h1, h2⟩
  ·exact absurd (no j o ho) (by omega)
 | o :: l, k, L, hl, hc, hc2, hu, he => by
  have ho : ops[k]? = some o := by simpa using (hl 0).symm
  have hl' : ∀ j, l[j]? = ops[k + 1 + j]? := fun j => by have := hl (j + 1); simpa [Nat.add_assoc, Nat.add_comm 1 j] using this
  have rest : ∀ f, evS P l (r00 o.dst f L) st h K → ∃ L', (∀ t f, U0 L t = some f → U0 L' t = some f) ∧ (∀ t f, (t, f) ∈ L' → ∃ (i : Nat) (oi : Oper), ops[i]? = some oi ∧ oi.dst = some t) ∧ (∀ p q, p ∈ L' → q ∈ L' → p.1 = q.1 → p.2 = q.2) ∧
    (∀ (i : Nat) (oi : Oper) (d : Nat), ops[i]? = some oi → oi.dst = some d → ∃ f, U0 L' d = some f) ∧
    (∀ j o, k + 1 ≤ j → ops[j]? = some o → P0a P st h L' o) ∧ (∀ h', Sub h h' → p09 h' L' st.fr fun fr => K { st with fr := fr } h') ∧ (∀ d, o.dst = some d → U0 L' d = some f) ∧
    A03 L L' o.op.operands.toList := by
   intro f he
   have no : ∀ d, o.dst = some d → ∀ r : Nat × L4, r ∈ L → r.1 ≠ d := fun d hd r hr er => by
    obtain ⟨i, oi, h1, h2, h3⟩ := hc r.1 r.2 hr
    rw [er] at h3
    have := hD i k oi o d h2 ho h3 hd
    omega
   have hc' : ∀ t g, (t, g) ∈ r00 o.dst f L → ∃ (i : Nat) (oi : Oper), i < k + 1 ∧ ops[i]? = some oi ∧ oi.dst = some t := fun t g ht => by
    cases hd : o.dst with
    | none =>
     rw [hd] at ht
     obtain ⟨i, oi, h1, h2⟩ := hc t g ht
     exact ⟨i, oi, by omega, h2⟩
    | some d =>
     rw [hd] at ht
     rcases List.mem_cons.1 ht with e | ht
     ·cases e; exact ⟨k, o, by omega, ho, hd⟩
     ·obtain ⟨i, oi, h1, h2⟩ := hc t g ht
      exact ⟨i, oi, by omega, h2⟩
   have hu' : ∀ p q, p ∈ r00 o.dst f L → q ∈ r00 o.dst f L → p.1 = q.1 → p.2 = q.2 := fun p q hp hq e => by
    cases hd : o.dst with
    | none => rw [hd] at hp hq; exact hu p q hp hq e
    | some d =>
     rw [hd] at hp hq
     rcases List.mem_cons.1 hp with rfl | hp
     ·rcases List.mem_cons.1 hq with rfl | hq
      ·rfl
      ·exact absurd e.symm (no d hd q hq)
     ·rcases List.mem_cons.1 hq with rfl | hq
      ·exact absurd e (no d hd p hp)
      ·exact hu p q hp hq e
   have up : ∀ t g, U0 L t = some g → U0 (r00 o.dst f L) t = some g := fun t g ht => by
    cases hd : o.dst with
    | none => exact ht
    | some d =>
     show U0 ((d, f) :: L) t = some g
     rw [O5]
     split
     ·rename_i e
      subst e
      exact absurd rfl (no d hd _ (I9 ht))
     ·exact ht
   have top : ∀ d, o.dst = some d → U0 (r00 o.dst f L) d = some f := fun d hd => by
    rw [hd]; show U0 ((d, f) :: L) d = some f; rw [O5, if_pos rfl]
   have hc2' : ∀ i oi d, i < k + 1 → ops[i]? = some oi → oi.dst = some d → ∃ f', U0 (r00 o.dst f L) d = some f' := fun i oi d hi h1 h2 => by
    rcases Nat.lt_or_ge i k with h | h
    ·obtain ⟨g, hg⟩ := hc2 i oi d h h1 h2
     exact ⟨g, up d g hg⟩
    ·have : i = k := by omega
     subst this
     rw [ho] at h1; cases h1
     exact ⟨f, top d h2⟩
   obtain ⟨L', a1, a2, a3, a3', a4, a5⟩ := G09 hD hdep l (k + 1) _ hl' hc' hc2' hu' he
   refine ⟨L', fun t g ht => a1 t g (up t g ht), a2, a3, a3', a4, a5, fun d hd => a1 d f (top d hd), fun t ht => ?_⟩
   cases hL : U0 L t with
   | some g => exact (a1 t g (up t g hL)).symm
   | none =>
    cases hL' : U0 L' t with
    | none => rfl
    | some g =>
     exfalso
     obtain ⟨i, oi, h1, h2⟩ := a2 t g (I9 hL')
     have hlt := hdep k o t i oi ho (by simpa using ht) h1 h2
     obtain ⟨g', hg'⟩ := hc2 i oi t hlt h1 h2
     rw [hL] at hg'; cases hg'
  have fin : ∀ f, (∃ L', (∀ t f, U0 L t = some f → U0 L' t = some f) ∧ (∀ t f, (t, f) ∈ L' → ∃ (i : Nat) (oi : Oper), ops[i]? = some oi ∧ oi.dst = some t) ∧ (∀ p q, p ∈ L' → q ∈ L' → p.1 = q.1 → p.2 = q.2) ∧
    (∀ (i : Nat) (oi : Oper) (d : Nat), ops[i]? = some oi → oi.dst = some d → ∃ f, U0 L' d = some f) ∧
    (∀ j o, k + 1 ≤ j → ops[j]? = some o → P0a P st h L' o) ∧ (∀ h', Sub h h' → p09 h' L' st.fr fun fr => K { st with fr := fr } h') ∧ (∀ d, o.dst = some d → U0 L' d = some f) ∧
    A03 L L' o.op.operands.toList) → (∀ L', A03 L L' o.op.operands.toList → (∀ d, o.dst = some d → U0 L' d = some f) → P0a P st h L' o) →
    ∃ L', (∀ t f, U0 L t = some f → U0 L' t = some f) ∧ (∀ t f, (t, f) ∈ L' → ∃ (i : Nat) (oi : Oper), ops[i]? = some oi ∧ oi.dst = some t) ∧ (∀ p q, p ∈ L' → q ∈ L' → p.1 = q.1 → p.2 = q.2) ∧
    (∀ (i : Nat) (oi : Oper) (d : Nat), ops[i]? = some oi → oi.dst = some d → ∃ f, U0 L' d = some f) ∧
    (∀ j o, k ≤ j → ops[j]? = some o → P0a P st h L' o) ∧ (∀ h', Sub h h' → p09 h' L' st.fr fun fr => K { st with fr := fr } h') := by
   rintro f ⟨L', a1, a2, a3, a3', a4, a5, a6, a7⟩ hok
   refine ⟨L', a1, a2, a3, a3', fun j oj hj hoj => ?_, a5⟩
   rcases Nat.lt_or_ge k j with hk | hk
   ·exact a4 j oj hk hoj
   ·have : j = k := by omega
    subst this
    rw [ho] at hoj; cases hoj
    exact hok L' a7 a6
  obtain ⟨n, fr, bx, ow⟩ := st
  simp only [evS] at he
  split at he
  ·exact he.elim
  ·rename_i hg
   split at he
   ·rename_i av hav
    rw [y8] at he
    exact fin (.pu av) (rest _ he) fun L' ag top => ⟨hg, .pu av, top, by rw [← G08 ag]; exact hav⟩
   ·obtain ⟨F, h1, h2, he⟩ := he
    exact fin (.ef F) (rest _ he) fun L' ag top => ⟨hg, .ef F, top, h1, fun h' hs => c8 ag (h2 h' hs)⟩
theorem d0f {st : St} {L : List (Nat × L4)} {o : Oper} {av : AV} {val : Nat → Value} (hp : y03 P L o st = some av)
  (hv : ∀ t, Operand.tmp t ∈ o.op.operands → (∀ f, U0 L t = some f → Z00 st be oe h f (val t)) ∧ (U0 L t = none → Y0 st be oe (K1 st.fr t) (val t))) :
  ∃ fr, (∀ t, Y0 st be oe (K1 fr t) (val t)) ∧ I5 P o { st with fr := fr } h fun av' st' h' => av' = av ∧ st' = { st with fr := fr } ∧ h' = h := by
 have one : ∀ x : Operand, (∀ t, x = .tmp t → Operand.tmp t ∈ o.op.operands) → rdS L st x ≠ .dead → ∃ fr, (∀ t, Y0 st be oe (K1 fr t) (val t)) ∧ rdO { st with fr := fr } x = rdS L st x := by
  intro x hx hne
  cases x with
  | tmp t =>
   obtain ⟨h1, h2⟩ := hv t (hx t rfl)
   have mk : ∀ A, Y0 st be oe A (val t) → ∀ u, Y0 st be oe (K1 [(t, A)] u) (val u) := fun A g u => by
    rw [C2]
    split
    ·rename_i e; subst e; exact g
    ·trivial
   have rd : ∀ A, rdO { st with fr := [(t, A)] } (.tmp t) = rdA st A := fun A => by
    show Go.H.rdA _ (K1 [(t, A)] t) = _
    rw [C2, if_pos rfl]
    obtain ⟨n, fr, bx, ow⟩ := st
    cases A <;> rfl
   cases hL : U0 L t with
   | none => exact ⟨_, mk _ (h2 hL), by rw [rd]; simp only [rdS, hL]⟩
   | some f =>
    cases f with
    | pu A => exact ⟨_, mk _ (h1 _ hL), by rw [rd]; simp only [rdS, hL]⟩
    | ef F => exact absurd (by simp only [rdS, hL]) hne
  | const v => exact ⟨[], fun t => trivial, rfl⟩
  | global v => exact ⟨[], fun t => trivial, rfl⟩
  | func v => exact ⟨[], fun t => trivial, rfl⟩
 unfold y03 at hp
 split at hp
 ·rename_i x hx
  have hne : rdS L st x ≠ .dead := fun e => by rw [e] at hp; cases hp
  obtain ⟨fr, g, e⟩ := one x (fun t ht => by rw [hx]; simp [Op.operands, ht]) hne
  refine ⟨fr, g, ?_⟩
  simp only [I5, hx, e]
  revert hp
  cases rdS L st x <;> intro hp <;> first | (cases hp; done) | (cases hp; simp; done)
 ·rename_i x hx
  have hne : rdS L st x ≠ .dead := fun e => by rw [e] at hp; cases hp
  obtain ⟨fr, g, e⟩ := one x (fun t ht => by rw [hx]; simp [Op.operands, ht]) hne
  refine ⟨fr, g, ?_⟩
  simp only [I5, hx, e]
  revert hp
  cases rdS L st x <;> intro hp <;> first | (cases hp; done) | (cases hp; simp; done)
 ·rename_i t x hx
  have hne : rdS L st x ≠ .dead := fun e => by rw [e] at hp; cases hp
  obtain ⟨fr, g, e⟩ := one x (fun t ht => by rw [hx]; simp [Op.operands, ht]) hne
  refine ⟨fr, g, ?_⟩
  simp only [I5, hx, e]
  split at hp
  ·rename_i i off hr
   split at hp
   ·rename_i cs ty hn
    simp only [hr, hn]
    unfold h06 at hp
    unfold n00
    cases hA : m08 P t with
    | none => rw [hA] at hp; cases hp
    | some bb =>
     rw [hA] at hp
     cases bb with
     | true =>
      cases hT : c4 P t with
      | none => rw [hT] at hp; cases hp
      | some m =>
       rw [hT] at hp
       simp only at hp ⊢
       split at hp
       ·rename_i hB
        cases hp
        rw [hB]
        simp
       ·cases hp
     | false =>
      simp only at hp ⊢
      split at hp
      ·rename_i c hN
       cases hp
       rw [hN]
       simp
      ·cases hp
   ·cases hp
  ·cases hp
 ·cases hp
def X0d (P : Program) (h0 : Hp) (w0 : World) (ops : Array Oper) (st : St) (h : Hp) (L : List (Nat × L4)) (listed : Array Bool) (a : Act) (w : World) : Prop :=
 ∃ be oe H h', Sub h h' ∧ Sim P h0 w0 be oe H { st with fr := O2 ops.toList st.fr } h' a w ∧
  ∀ j o d f, ops[j]? = some o → o.dst = some d → listed.getD j false = true → U0 L d = some f → Z00 st be oe h' f (a.tmps.getD d undef)
theorem Y0.fr {st : St} {fr : List (Nat × AV)} {av : AV} {v : Value} (g : Y0 st be oe av v) : Y0 { st with fr := fr } be oe av v := by
 obtain ⟨n, fr0, bx, ow⟩ := st
 show Y0 ⟨n, fr, bx, ow⟩ be oe av v
 exact Y0.grow (st := ⟨n, fr0, bx, ow⟩) (st' := ⟨n, fr, bx, ow⟩) (be := be) (oe := oe) (be' := be) (oe' := oe) (av := av) (x := v) ⟨Nat.le_refl _, fun _ _ => rfl, fun i s h => ⟨s, h, Nat.le_refl _, fun _ => rfl⟩⟩ g
theorem L0g {ops : Array Oper} {st : St} {L : List (Nat × L4)} {listed : Array Bool} {j : Nat} {o : Oper} {Q : Exit → Act → World → Prop}
  (hD : ∀ (i j : Nat) (oi oj : Oper) (d : Nat), ops.toList[i]? = some oi → ops.toList[j]? = some oj → oi.dst = some d → oj.dst = some d → i = j)
  (hn : ∀ o ∈ ops.toList, ∀ d, o.dst = some d → d < st.n)
  (hL1 : ∀ t f, (t, f) ∈ L → ∃ (i : Nat) (oi : Oper), ops.toList[i]? = some oi ∧ oi.dst = some t)
  (hL2 : ∀ (i : Nat) (oi : Oper) (d : Nat), ops.toList[i]? = some oi → oi.dst = some d → ∃ f, U0 L d = some f)
  (ho : ops[j]? = some o) (hall : ∀ (j : Nat) (o : Oper), ops.toList[j]? = some o → P0a P st h L o) (hdep : ∀ t, Operand.tmp t ∈ o.op.operands → ∀ (i : Nat) (oi : Oper), ops.toList[i]? = some oi → oi.dst = some t → listed.getD i false = true)
  (hi : X0d P h0 w0 ops st h L listed a w) : o.wp P a w (X0d P h0 w0 ops st h L (listed.setIfInBounds j true)) Q := by
 obtain ⟨be, oe, H, h', hs, s, facts⟩ := hi
 have hoL : ops.toList[j]? = some o := by simpa using ho
 have hmem : o ∈ ops.toList := List.mem_of_getElem? hoL
 obtain ⟨hg, f, hf, hop⟩ := hall j o hoL
 have hst : ∀ d F, U0 L d = some (.ef F) → ∀ v h1 h2, Sub h1 h2 → F v h1 → F v h2 := fun d F hF => by
  obtain ⟨i, oi, h1, h2⟩ := hL1 d _ (I9 hF)
  obtain ⟨_, f', hf', hop'⟩ := hall i oi h1
  rw [hf' d h2] at hF
  cases hF
  exact hop'.1
 have opnd : ∀ t, Operand.tmp t ∈ o.op.operands → (∀ f, U0 L t = some f → Z00 st be oe h' f (a.tmps.getD t undef)) ∧ (U0 L t = none → Y0 st be oe (K1 st.fr t) (a.tmps.getD t undef)) := fun t ht => by
  refine ⟨fun f hf => ?_, fun hno => ?_⟩
  ·obtain ⟨i, oi, h1, h2⟩ := hL1 t f (I9 hf)
   exact facts i oi t f (by simpa using h1) h2 (hdep t ht i oi h1 h2) hf
  ·have g := s.fr t
   have hmiss : K1 (O2 ops.toList st.fr) t = K1 st.fr t := Q6 fun o' ho' hd => by
    obtain ⟨i, hi, e⟩ := List.getElem_of_mem ho'
    obtain ⟨f, hf⟩ := hL2 i o' t (by rw [List.getElem?_eq_getElem hi, e]) hd
    rw [hno] at hf; cases hf
   rw [← hmiss]
   exact Y0.fr (st := { st with fr := O2 ops.toList st.fr }) (fr := st.fr) g
 have fin : ∀ {fr : List (Nat × AV)} {a' : Act} {w' : World} {h'' : Hp} {be' : Nat → Nat} {oe' : Nat → Value} {H' : Hp} {v : Value}, Sub h' h'' → a' = a.put o.dst v → Sim P h0 w0 be' oe' H' { st with fr := fr } h'' a w' →
   K4 { st with fr := fr } be oe { st with fr := fr } be' oe' → Z00 st be' oe' h'' f v → X0d P h0 w0 ops st h L (listed.setIfInBounds j true) a' w' := by
  intro fr a' w' h'' be' oe' H' v hss ha s' gr hv
  subst ha
  have gr' : K4 { st with fr := O2 ops.toList st.fr } be oe { st with fr := O2 ops.toList st.fr } be' oe' := ⟨gr.bl, gr.be, gr.sm⟩
  have gr2 : K4 st be oe st be' oe' := ⟨gr.bl, gr.be, gr.sm⟩
  have s1 : Sim P h0 w0 be' oe' H' { st with fr := O2 ops.toList st.fr } h'' a w' :=
   s'.refr (fr := O2 ops.toList st.fr) fun t => Y0.fr (st := { st with fr := O2 ops.toList st.fr }) ((s.fr t).grow gr')
  have s2 : Sim P h0 w0 be' oe' H' { st with fr := O2 ops.toList st.fr } h'' (a.put o.dst v) w' := by
   cases hd : o.dst with
   | none => exact s1
   | some d =>
    have hp := s1.put (d := d) (av := .dead) (v := v) (hn o hmem d hd) trivial
    refine hp.refr (fr := O2 ops.toList st.fr) fun t => ?_
    have g := hp.fr t
    rw [C2] at g
    split at g
    ·rename_i e
     subst e
     rw [g9 hmem hd]
     trivial
    ·exact g
  refine ⟨be', oe', H', h'', fun b x hb => hss b x (hs b x hb), s2, fun i oi d g h1 h2 h3 h4 => ?_⟩
  by_cases hij : j = i
  ·subst hij
   rw [ho] at h1; cases h1
   rw [hf d h2] at h4; cases h4
   have hlt : d < a.tmps.size := by rw [s.siz]; exact hn o hmem d h2
   have : (a.put o.dst v).tmps.getD d undef = v := by
    rw [h2]
    simp [Act.put, hlt]
   rw [this]
   exact hv
  ·have hl0 : listed.getD i false = true := by rw [getD_set_ne false hij] at h3; exact h3
   have hne : ∀ d', o.dst = some d' → d' ≠ d := fun d' hd' e => by
    subst e
    exact hij (hD j i o oi d' hoL (by simpa using h1) hd' h2)
   have : (a.put o.dst v).tmps.getD d undef = a.tmps.getD d undef := by
    cases hd : o.dst with
    | none => rfl
    | some d' => simp [Act.put, Array.getElem?_setIfInBounds_ne (hne d' hd)]
   rw [this]
   have old := facts i oi d g h1 h2 hl0 h4
   cases g with
   | pu av => exact Y0.grow gr2 old
   | ef F => exact hst d F h4 _ _ _ hss old
 cases f with
 | pu av =>
  obtain ⟨fr, g, he⟩ := d0f (h := h') hop opnd
  have s' : Sim P h0 w0 be oe H { st with fr := fr } h' a w := s.refr (fr := fr) fun t => Y0.fr (g t)
  refine Oper.wp_mono (fun a' w' hx => ?_) (D7 s' he)
  obtain ⟨av', st', h'', v, be', oe', H', ⟨rfl, rfl, rfl⟩, ha, s2, g2, gr⟩ := hx
  exact fin (fun _ _ h => h) ha s2 gr (Y0.fr (st := { st with fr := fr }) (fr := st.fr) g2)
 | ef F =>
  obtain ⟨fr, he, g⟩ := T8 (acc := []) (be := be) (oe := oe) (val := fun t => a.tmps.getD t undef) (fun t => trivial) (fun t ht => opnd t (by simpa using ht)) (hop.2 h' hs)
  have s' : Sim P h0 w0 be oe H { st with fr := fr } h' a w := s.refr (fr := fr) fun t => Y0.fr (g t)
  refine Oper.wp_mono (fun a' w' hx => ?_) (D7 s' he)
  obtain ⟨av', st', h'', v, be', oe', H', hk, ha, s2, g2, gr⟩ := hx
  cases av' with
  | val u =>
   obtain ⟨rfl, k1, k2⟩ := hk
   have hv : v = u := g2
   subst hv
   exact fin k1 ha s2 gr k2
  | _ => exact hk.elim
theorem X04 {ops : Array Oper} (hB : ∀ (k : Nat) (o : Oper), ops.toList[k]? = some o → ∀ e ∈ o.after, Region.binds .any e = true → e.on < k) {listed : Array Bool} (hsz : listed.size = ops.size) (hr : Region.ready .any ops listed = []) :
  ∀ j, j < ops.size → listed.getD j false = true := by
 intro j
 induction j using Nat.strongRecOn with
 | _ j ih =>
  intro hj
  cases hl : listed.getD j false with
  | true => rfl
  | false =>
   have hlt : j < listed.size := by omega
   have : j ∈ Region.ready .any ops listed := by
    refine mem_ready.2 ⟨?_, ops[j], by simp [hj], fun e he hb => ?_⟩
    ·simp [hlt] at hl ⊢; exact hl
    ·have := hB j ops[j] (by simp [hj]) e he hb
     exact ih e.on this (by omega)
   rw [hr] at this
   cases this
theorem count_set {listed : Array Bool} {j : Nat} (hj : listed.getD j true = false) : (listed.setIfInBounds j true).toList.count true = listed.toList.count true + 1 := by
 have hlt : j < listed.size := by
  rcases Nat.lt_or_ge j listed.size with h | h
  ·exact h
  ·simp [Array.getElem?_eq_none h] at hj
 have hv : listed[j] = false := by simpa [hlt] using hj
 rw [Array.toList_setIfInBounds, List.count_set (by simpa using hlt)]
 simp [hv]
theorem M0g {ops : Array Oper} {st : St} {L : List (Nat × L4)} {Q : Exit → Act → World → Prop}
  (hD : ∀ (i j : Nat) (oi oj : Oper) (d : Nat), ops.toList[i]? = some oi → ops.toList[j]? = some oj → oi.dst = some d → oj.dst = some d → i = j)
  (hn : ∀ o ∈ ops.toList, ∀ d, o.dst = some d → d < st.n)
  (hB : ∀ (k : Nat) (o : Oper), ops.toList[k]? = some o → ∀ e ∈ o.after, Region.binds .any e = true → e.on < k)
  (hdep : ∀ o ∈ ops.toList, ∀ t, Operand.tmp t ∈ o.op.operands → ∀ (i : Nat) (oi : Oper), ops.toList[i]? = some oi → oi.dst = some t → ∃ e ∈ o.after, Region.binds .any e = true ∧ e.on = i)
  (hL1 : ∀ t f, (t, f) ∈ L → ∃ (i : Nat) (oi : Oper), ops.toList[i]? = some oi ∧ oi.dst = some t)
  (hL2 : ∀ (i : Nat) (oi : Oper) (d : Nat), ops.toList[i]? = some oi → oi.dst = some d → ∃ f, U0 L d = some f)
  (hall : ∀ (j : Nat) (o : Oper), ops.toList[j]? = some o → P0a P st h L o)
  (hQ : ∀ listed a w, (∀ j, j < ops.size → listed.getD j false = true) → X0d P h0 w0 ops st h L listed a w → Q .normal a w) :
  ∀ (fuel : Nat) (listed : Array Bool) (a : Act) (w : World), listed.size = ops.size → listed.toList.count true + fuel = ops.size → X0d P h0 w0 ops st h L listed a w → wpAny P .any ops Q fuel listed a w
 | 0, listed, a, w, hsz, hc, hi => by
  have hall' : ∀ j, j < ops.size → listed.getD j false = true := fun j hj => by
   have h1 : ∀ b ∈ listed.toList, true = b := List.count_eq_length.1 (by simp only [Array.length_toList]; omega)
   have hlt : j < listed.size := by omega
   have := h1 listed[j] (by simp)
   simp [hlt, ← this]
  refine ⟨?_, hQ listed a w hall' hi⟩
  cases hr : Region.ready .any ops listed with
  | nil => rfl
  | cons j r =>
   have hj : j ∈ Region.ready .any ops listed := by rw [hr]; exact List.mem_cons_self ..
   obtain ⟨h1, o, h2, _⟩ := mem_ready.1 hj
   have hlt : j < ops.size := (Array.getElem?_eq_some_iff.1 h2).1
   have := hall' j hlt
   have hlt' : j < listed.size := by omega
   simp [hlt'] at this h1
   rw [this] at h1; cases h1
 | fuel + 1, listed, a, w, hsz, hc, hi => by
  refine ⟨fun hr => hQ listed a w (X04 hB hsz hr) hi, fun j hj => ?_⟩
  obtain ⟨h1, o, h2, h3⟩ := mem_ready.1 hj
  have hmem : o ∈ ops.toList := List.mem_of_getElem? (i := j) (by simpa using h2)
  unfold wpOp
  simp only [h2]
  have hg : o.guard = none := (hall j o (by simpa using h2)).1
  have hw : Region.wanted o (yielded ops a.tmps) = true := by unfold Region.wanted; rw [hg]
  rw [if_pos hw]
  refine .inl (Oper.wp_mono (fun a' w' hi' => ?_) (L0g (Q := Q) hD hn hL1 hL2 h2 hall (fun t ht i oi hi1 hi2 => ?_) hi))
  ·exact M0g hD hn hB hdep hL1 hL2 hall hQ fuel _ a' w' (by simpa using hsz) (by rw [count_set h1]; omega) hi'
  ·obtain ⟨e, he, hb, rfl⟩ := hdep o hmem t ht i oi hi1 hi2
   exact h3 e he hb
theorem P0c {ops : Array Oper} {st : St} {K : St → Hp → Prop} {Q : Exit → Act → World → Prop} (s : Sim P h0 w0 be oe H st h a w) (hb : W6 st.n ops.toList = true) (he : evS P ops.toList [] st h K)
  (hQ : ∀ a w st h be oe H, K st h → Sim P h0 w0 be oe H st h a w → Q .normal a w) : wpAny P .any ops Q ops.size (Array.replicate ops.size false) a w := by
 simp only [W6, Bool.and_eq_true] at hb
 obtain ⟨⟨b1, b2⟩, b3⟩ := hb
 obtain ⟨hn, hD⟩ := x00 b1
 have hB : ∀ (k : Nat) (o : Oper), ops.toList[k]? = some o → ∀ e ∈ o.after, Region.binds .any e = true → e.on < k := fun k o hk e he' hb => by
  have := y00 b2 k o hk e he' hb
  omega
 have hdep := O01 b3
 obtain ⟨L, a1, hL1, hu, hL2, hall, hfin⟩ := G09 (ops := ops.toList) hD (fun j o t i oi h1 h2 h3 h4 => by
  obtain ⟨e, he', hb, rfl⟩ := hdep o (List.mem_of_getElem? h1) t h2 i oi h3 h4
  exact hB j o h1 e he' hb) ops.toList 0 [] (fun j => by simp) (by simp) (fun i oi d hi => by omega) (by simp) he
 refine M0g (h0 := h0) (w0 := w0) hD hn hB hdep hL1 hL2 (fun j o ho => hall j o (Nat.zero_le _) ho) (fun listed a w hl hi => ?_) ops.size _ a w (by simp) (by simp [List.count_replicate]) ?_
 ·obtain ⟨be, oe, H, h', hs, s, facts⟩ := hi
  obtain ⟨fr, hk, g⟩ := W04 (st := st) (be := be) (oe := oe) (val := fun t => a.tmps.getD t undef) (fun p hp => by
   obtain ⟨t, f⟩ := p
   obtain ⟨i, oi, h1, h2⟩ := hL1 t f hp
   obtain ⟨f', hf'⟩ := hL2 i oi t h1 h2
   have : f' = f := hu (t, f') (t, f) (I9 hf') hp rfl
   subst this
   exact facts i oi t f' (by simpa using h1) h2 (hl i (by simpa using (List.getElem?_eq_some_iff.1 h1).1)) hf') (fun t ht => by
   have hmiss : K1 (O2 ops.toList st.fr) t = K1 st.fr t := Q6 fun o' ho' hd => by
    obtain ⟨i, hi, e⟩ := List.getElem_of_mem ho'
    obtain ⟨f, hf⟩ := hL2 i o' t (by rw [List.getElem?_eq_getElem hi, e]) hd
    exact ht f (I9 hf)
   have := s.fr t
   rw [hmiss] at this
   exact Y0.fr (st := { st with fr := O2 ops.toList st.fr }) (fr := st.fr) this) (hfin h' hs)
  exact hQ a w _ h' be oe H hk (s.refr (fr := fr) fun t => Y0.fr (g t))
 ·refine ⟨be, oe, H, h, fun _ _ h => h, s.refr (fr := O2 ops.toList st.fr) fun t => ?_, fun j o d f h1 h2 h3 => ?_⟩
  ·by_cases hx : ∃ o ∈ ops.toList, o.dst = some t
   ·obtain ⟨o, h1, h2⟩ := hx
    rw [g9 h1 h2]
    trivial
   ·rw [Q6 fun o ho hd => hx ⟨o, ho, hd⟩]
    exact s.fr t
  ·simp [Array.getElem?_replicate] at h3
   split at h3 <;> cases h3
end
end Go.H
namespace Go.H
set_option linter.unusedVariables false
set_option linter.unusedSimpArgs false
theorem e0f {P : Program} {t : TypeId} {cs : List L3} {off : Nat} {av : AV} (h : h06 P t cs off = some av) : n00 P t cs off fun a => a = av := by
 unfold h06 at h
 unfold n00
 cases hA : m08 P t with
 | none => rw [hA] at h; cases h
 | some bb =>
  rw [hA] at h
  cases bb with
  | true =>
   cases hT : c4 P t with
   | none => rw [hT] at h; cases h
   | some m =>
    rw [hT] at h
    simp only at h ⊢
    split at h
    ·rename_i hB
     cases h
     rw [hB]
    ·cases h
  | false =>
   simp only at h ⊢
   split at h
   ·rename_i c hN
    cases h
    rw [hN]
   ·cases h
section
variable {P : Program} {h0 : Hp} {w0 : World} {be : Nat → Nat} {oe : Nat → Value} {H : Hp} {h : Hp} {a : Act} {w : World}
theorem e03 {L : List (Nat × L4)} {st stX : St} {x : Operand}
  (hv : ∀ t, x = .tmp t → (∀ av, U0 L t = some (.pu av) → Y0 stX be oe av (a.tmps.getD t undef)) ∧ (U0 L t = none → Y0 stX be oe (K1 st.fr t) (a.tmps.getD t undef))) : Y0 stX be oe (K05 L st x) (a.eval x) := by
 cases x with
 | tmp t =>
  obtain ⟨h1, h2⟩ := hv t rfl
  show Y0 stX be oe (K05 L st (.tmp t)) (a.tmps.getD t undef)
  simp only [K05]
  split
  ·rename_i av e; exact h1 av e
  ·trivial
  ·rename_i e; exact h2 e
 | const v => exact rfl
 | global g => trivial
 | func f => trivial
theorem Q0c {L : List (Nat × L4)} {st stX : St} {o : Oper} {av : AV} (s : Sim P h0 w0 be oe H stX h a w) (hbx : stX.bx = st.bx) (hp : m03 P L o st = some av)
  (hv : ∀ t, Operand.tmp t ∈ o.op.operands → (∀ av, U0 L t = some (.pu av) → Y0 stX be oe av (a.tmps.getD t undef)) ∧ (U0 L t = none → Y0 stX be oe (K1 st.fr t) (a.tmps.getD t undef))) :
  ∃ v, (execOp a.eval o).run P w = .ok (.value v) w ∧ Y0 stX be oe av v := by
 unfold m03 at hp
 split at hp
 ·rename_i x hx
  split at hp
  ·cases hp
   refine ⟨a.eval x, ?_, e03 fun t ht => hv t (by rw [hx]; simp [Op.operands, ht])⟩
   unfold execOp; rw [hx]; rfl
  ·cases hp
 ·rename_i x hx
  split at hp
  ·cases hp
   refine ⟨a.eval x, ?_, e03 fun t ht => hv t (by rw [hx]; simp [Op.operands, ht])⟩
   unfold execOp; rw [hx]; rfl
  ·cases hp
 ·rename_i t x hx
  have g := e03 (L := L) (st := st) (stX := stX) (be := be) (oe := oe) (a := a) (x := x) fun t ht => hv t (by rw [hx]; simp [Op.operands, ht])
  split at hp
  ·rename_i i off hr
   rw [hr] at g
   split at hp
   ·rename_i cs ty hn
    split at hp
    ·rename_i av' hco
     split at hp
     ·cases hp
      obtain ⟨h1, vs, h2, h3⟩ := s.box i cs ty (by rw [hbx]; exact hn)
      obtain ⟨av2, v, k1, k2, k3⟩ := R.load_row (H := H) (b := be i) (o := 0) (be := be) (e0f hco) h2 (fun j v hj => by simp [Hp.cell, h3, hj])
      subst k1
      exact ⟨v, R.run_of (R.exec_load hx g.2 (by simpa using k3)) w (Q0d s), k2⟩
     ·cases hp
    ·cases hp
   ·cases hp
  ·cases hp
 ·rename_i t x k hx
  have g := e03 (L := L) (st := st) (stX := stX) (be := be) (oe := oe) (a := a) (x := x) fun t ht => hv t (by rw [hx]; simp [Op.operands, ht])
  split at hp
  ·rename_i i off fo hr ht
   rw [hr] at g
   cases hp
   exact ⟨ptr (be i) (off + fo), R.run_of (R.exec_fieldAddr hx ht g.2) w (Q0d s), g.1, rfl⟩
  ·cases hp
 ·cases hp
theorem d8 {L : List (Nat × L4)} {st stX : St} {val : Nat → Value} {K : List (Nat × AV) → Prop} : ∀ {l : List Operand} {acc : List (Nat × AV)},
  (∀ t, Y0 stX be oe (K1 acc t) (val t)) → (∀ t, Operand.tmp t ∈ l → (∀ av, U0 L t = some (.pu av) → Y0 stX be oe av (val t)) ∧ (U0 L t = none → Y0 stX be oe (K1 st.fr t) (val t))) →
  v02 L st.fr l acc K → ∃ fr, K fr ∧ ∀ t, Y0 stX be oe (K1 fr t) (val t)
 | [], acc, h1, h2, he => ⟨acc, he, h1⟩
 | .tmp t :: r, acc, h1, h2, he => by
  have h2r : ∀ u, Operand.tmp u ∈ r → _ := fun u hu => h2 u (List.mem_cons_of_mem _ hu)
  have hx := h2 t (List.mem_cons_self ..)
  have put : ∀ av, Y0 stX be oe av (val t) → ∀ u, Y0 stX be oe (K1 ((t, av) :: acc) u) (val u) := fun av g u => by
   rw [C2]
   split
   ·rename_i e; subst e; exact g
   ·exact h1 u
  simp only [v02] at he
  split at he
  ·rename_i av e
   exact d8 (put av (hx.1 _ e)) h2r he
  ·rename_i F e
   exact d8 (put .dead trivial) h2r he
  ·rename_i e
   exact d8 (put _ (hx.2 e)) h2r he
 | .const v :: r, acc, h1, h2, he => d8 (l := r) h1 (fun u hu => h2 u (List.mem_cons_of_mem _ hu)) he
 | .global v :: r, acc, h1, h2, he => d8 (l := r) h1 (fun u hu => h2 u (List.mem_cons_of_mem _ hu)) he
 | .func v :: r, acc, h1, h2, he => d8 (l := r) h1 (fun u hu => h2 u (List.mem_cons_of_mem _ hu)) he
theorem Y04 : ∀ (L : List (Nat × L4)) (fr : List (Nat × AV)) (t : Nat), K1 (G0a L fr) t = match U0 L t with
  | some (.pu av) => av
  | some (.ef _) => .dead
  | none => K1 fr t
 | [], fr, t => rfl
 | (d, .pu av) :: r, fr, t => by
  simp only [G0a]
  rw [C2, O5]
  split
  ·rfl
  ·exact Y04 r fr t
 | (d, .ef F) :: r, fr, t => by
  simp only [G0a]
  rw [C2, O5]
  split
  ·rfl
  ·exact Y04 r fr t
theorem H09 {L L' : List (Nat × L4)} {o : Oper} {st : St} (h : ∀ t, Operand.tmp t ∈ o.op.operands → U0 L t = U0 L' t) : m03 P L o st = m03 P L' o st := by
 have raw : ∀ x : Operand, (∀ t, x = .tmp t → Operand.tmp t ∈ o.op.operands) → K05 L st x = K05 L' st x := fun x hx => by
  cases x with
  | tmp t => simp only [K05, h t (hx t rfl)]
  | _ => rfl
 unfold m03
 split
 ·rename_i x hx; rw [raw x fun t ht => by rw [hx]; simp [Op.operands, ht]]
 ·rename_i x hx; rw [raw x fun t ht => by rw [hx]; simp [Op.operands, ht]]
 ·rename_i t x hx; rw [raw x fun t ht => by rw [hx]; simp [Op.operands, ht]]
 ·rename_i t x k hx; rw [raw x fun t ht => by rw [hx]; simp [Op.operands, ht]]
 ·rfl
theorem f8 {L L' : List (Nat × L4)} {fr0 : List (Nat × AV)} {K : List (Nat × AV) → Prop} : ∀ {l : List Operand} {acc : List (Nat × AV)}, (∀ t, Operand.tmp t ∈ l → U0 L t = U0 L' t) → v02 L fr0 l acc K → v02 L' fr0 l acc K
 | [], acc, hl, h => h
 | .tmp t :: r, acc, hl, h => by
  have e := hl t (List.mem_cons_self ..)
  have hr : ∀ u, Operand.tmp u ∈ r → U0 L u = U0 L' u := fun u hu => hl u (List.mem_cons_of_mem _ hu)
  simp only [v02] at h ⊢
  rw [← e]
  split at h
  ·exact f8 hr h
  ·exact f8 hr h
  ·exact f8 hr h
 | .const _ :: r, acc, hl, h => f8 (l := r) (fun u hu => hl u (List.mem_cons_of_mem _ hu)) h
 | .func _ :: r, acc, hl, h => f8 (l := r) (fun u hu => hl u (List.mem_cons_of_mem _ hu)) h
 | .global _ :: r, acc, hl, h => f8 (l := r) (fun u hu => hl u (List.mem_cons_of_mem _ hu)) h
structure f03 (P : Program) (st : St) (h : Hp) (ops : List Oper) (k : Nat) (L : List (Nat × L4)) (X E : List (Nat × Oper)) : Prop where
 key : ∀ t f, U0 L t = some f → ∃ (i : Nat) (oi : Oper), i < k ∧ ops[i]? = some oi ∧ oi.dst = some t
 cov : ∀ (i : Nat) (oi : Oper) (d : Nat), i < k → ops[i]? = some oi → oi.dst = some d → ∃ f, U0 L d = some f
 each : ∀ (j : Nat) (o : Oper), j < k → ops[j]? = some o → o.guard = none ∧ ((j, o) ∈ E ∨ ((∀ p ∈ E, p.1 ≠ j) ∧ ∃ av, (m03 P L o st = some av ∨ ((j, o) ∈ X ∧ r09 P st h L o av)) ∧ ∀ d, o.dst = some d → U0 L d = some (.pu av)))
 eff : ∀ p ∈ E, p.1 < k ∧ ops[p.1]? = some p.2 ∧ ∀ d, p.2.dst = some d → ∃ F, U0 L d = some (.ef F)
 nd : (E.map fun p => p.1).Nodup
 xx : ∀ p ∈ X, p.1 < k ∧ ops[p.1]? = some p.2
theorem f03.add {st : St} {h : Hp} {ops : List Oper} {k : Nat} {L : List (Nat × L4)} {X X' E E' : List (Nat × Oper)} {o : Oper} {f : L4}
  (hD : ∀ (i j : Nat) (oi oj : Oper) (d : Nat), ops[i]? = some oi → ops[j]? = some oj → oi.dst = some d → oj.dst = some d → i = j)
  (hdep : ∀ (j : Nat) (o : Oper) (t i : Nat) (oi : Oper), ops[j]? = some o → Operand.tmp t ∈ o.op.operands → ops[i]? = some oi → oi.dst = some t → i < j)
  (s : f03 P st h ops k L X E) (ho : ops[k]? = some o) (hg : o.guard = none) (hX : X' = X ∨ X' = X ++ [(k, o)])
  (hE : (E' = E ∧ ∃ av, f = .pu av ∧ (m03 P L o st = some av ∨ ((k, o) ∈ X' ∧ r09 P st h L o av))) ∨ (E' = E ++ [(k, o)] ∧ ∃ F, f = .ef F)) : f03 P st h ops (k + 1) (r00 o.dst f L) X' E' := by
 have no : ∀ d, o.dst = some d → U0 L d = none := fun d hd => by
  cases h : U0 L d with
  | none => rfl
  | some g =>
   obtain ⟨i, oi, h1, h2, h3⟩ := s.key d g h
   have := hD i k oi o d h2 ho h3 hd
   omega
 have up : ∀ t g, U0 L t = some g → U0 (r00 o.dst f L) t = some g := fun t g ht => by
  cases hd : o.dst with
  | none => exact ht
  | some d =>
   show U0 ((d, f) :: L) t = some g
   rw [O5]
   split
   ·rename_i e; subst e; rw [no d hd] at ht; cases ht
   ·exact ht
 have top : ∀ d, o.dst = some d → U0 (r00 o.dst f L) d = some f := fun d hd => by
  rw [hd]; show U0 ((d, f) :: L) d = some f; rw [O5, if_pos rfl]
 have dn : ∀ t g, U0 (r00 o.dst f L) t = some g → U0 L t = some g ∨ (o.dst = some t ∧ g = f) := fun t g ht => by
  cases hd : o.dst with
  | none => rw [hd] at ht; exact .inl ht
  | some d =>
   rw [hd] at ht
   change U0 ((d, f) :: L) t = some g at ht
   rw [O5] at ht
   split at ht
   ·rename_i e; subst e; cases ht; exact .inr ⟨rfl, rfl⟩
   ·exact .inl ht
 have agree : ∀ (j : Nat) (oj : Oper), j ≤ k → ops[j]? = some oj → m03 P L oj st = m03 P (r00 o.dst f L) oj st := fun j oj hj hoj => H09 fun t ht => by
  cases hd : o.dst with
  | none => rfl
  | some d =>
   show U0 L t = U0 ((d, f) :: L) t
   rw [O5]
   split
   ·rename_i e
    subst e
    have := hdep j oj d k o hoj ht ho hd
    omega
   ·rfl
 have agreeX : ∀ (j : Nat) (oj : Oper) (av : AV), j ≤ k → ops[j]? = some oj → r09 P st h L oj av → r09 P st h (r00 o.dst f L) oj av := fun j oj av hj hoj hx => by
  obtain ⟨n, fr, bx, ow⟩ := st
  intro h' hs
  refine f8 (fun t ht => ?_) (hx h' hs)
  cases hd : o.dst with
  | none => rfl
  | some d =>
   show U0 L t = U0 ((d, f) :: L) t
   rw [O5]
   split
   ·rename_i e
    subst e
    have := hdep j oj d k o hoj (by simpa using ht) ho hd
    omega
   ·rfl
 have inX : ∀ p, p ∈ X → p ∈ X' := fun p hp => by
  rcases hX with rfl | rfl
  ·exact hp
  ·exact List.mem_append_left _ hp
 refine ⟨fun t g ht => ?_, fun i oi d hi h1 h2 => ?_, fun j oj hj hoj => ?_, fun p hp => ?_, ?_, fun p hp => ?_⟩
 rotate_left 5
 ·rcases hX with rfl | rfl
  ·obtain ⟨h1, h2⟩ := s.xx p hp
   exact ⟨by omega, h2⟩
  ·rcases List.mem_append.1 hp with hp | hp
   ·obtain ⟨h1, h2⟩ := s.xx p hp
    exact ⟨by omega, h2⟩
   ·simp at hp
    subst hp
    exact ⟨by simp, ho⟩
 rotate_left 4
 ·rcases hE with ⟨rfl, _⟩ | ⟨rfl, _⟩
  ·exact s.nd
  ·rw [List.map_append, List.nodup_append]
   refine ⟨s.nd, by simp, fun x hx y hy e => ?_⟩
   obtain ⟨p, hp, rfl⟩ := List.mem_map.1 hx
   have := (s.eff p hp).1
   simp at hy
   omega
 ·rcases dn t g ht with h | ⟨h, _⟩
  ·obtain ⟨i, oi, h1, h2⟩ := s.key t g h
   exact ⟨i, oi, by omega, h2⟩
  ·exact ⟨k, o, by omega, ho, h⟩
 ·rcases Nat.lt_or_ge i k with h | h
  ·obtain ⟨g, hg⟩ := s.cov i oi d h h1 h2
   exact ⟨g, up d g hg⟩
  ·have : i = k := by omega
   subst this
   rw [ho] at h1; cases h1
   exact ⟨f, top d h2⟩
 ·rcases Nat.lt_or_ge j k with h | h
  ·obtain ⟨k1, k2⟩ := s.each j oj h hoj
   refine ⟨k1, ?_⟩
   rcases k2 with k2 | ⟨k2, av, k3, k4⟩
   ·left
    rcases hE with ⟨rfl, _⟩ | ⟨rfl, _⟩
    ·exact k2
    ·exact List.mem_append_left _ k2
   ·right
    refine ⟨fun p hp => ?_, av, k3.imp (fun k3 => by rw [← agree j oj (by omega) hoj]; exact k3) (fun k3 => ⟨inX _ k3.1, agreeX j oj av (by omega) hoj k3.2⟩), fun d hd => up d _ (k4 d hd)⟩
    rcases hE with ⟨rfl, _⟩ | ⟨rfl, _⟩
    ·exact k2 p hp
    ·rcases List.mem_append.1 hp with hp | hp
     ·exact k2 p hp
     ·simp at hp; rw [hp]; show k ≠ j; omega
  ·have : j = k := by omega
   subst this
   rw [ho] at hoj; cases hoj
   refine ⟨hg, ?_⟩
   rcases hE with ⟨rfl, av, rfl, hp⟩ | ⟨rfl, F, rfl⟩
   ·right
    exact ⟨fun p hp => by have := (s.eff p hp).1; omega, av, hp.imp (fun hp => by rw [← agree _ o (Nat.le_refl _) ho]; exact hp) (fun hp => ⟨hp.1, agreeX _ o av (Nat.le_refl _) ho hp.2⟩), top⟩
   ·left
    exact List.mem_append_right _ (List.mem_singleton.2 rfl)
 ·have old : p ∈ E → p.1 < k + 1 ∧ ops[p.1]? = some p.2 ∧ ∀ d, p.2.dst = some d → ∃ F, U0 (r00 o.dst f L) d = some (.ef F) := fun hp => by
   obtain ⟨h1, h2, h3⟩ := s.eff p hp
   exact ⟨by omega, h2, fun d hd => by obtain ⟨F, hF⟩ := h3 d hd; exact ⟨F, up d _ hF⟩⟩
  rcases hE with ⟨rfl, _⟩ | ⟨rfl, F, rfl⟩
  ·exact old hp
  ·rcases List.mem_append.1 hp with hp | hp
   ·exact old hp
   ·simp at hp
    subst hp
    exact ⟨by omega, ho, fun d hd => ⟨F, top d hd⟩⟩
theorem N00 {ops : List Oper} {st : St} {h : Hp} {K : List (Nat × L4) → List (Nat × Oper) → List (Nat × Oper) → Prop}
  (hD : ∀ (i j : Nat) (oi oj : Oper) (d : Nat), ops[i]? = some oi → ops[j]? = some oj → oi.dst = some d → oj.dst = some d → i = j)
  (hdep : ∀ (j : Nat) (o : Oper) (t i : Nat) (oi : Oper), ops[j]? = some o → Operand.tmp t ∈ o.op.operands → ops[i]? = some oi → oi.dst = some t → i < j) :
  ∀ (l : List Oper) (k : Nat) (L : List (Nat × L4)) (X E : List (Nat × Oper)), (∀ j, l[j]? = ops[k + j]?) → f03 P st h ops k L X E → G9 P st h l k L X E K → ∃ L0 X0 E0, K L0 X0 E0 ∧ f03 P st h ops ops.length L0 X0 E0
 | [], k, L, X, E, hl, s, he => by
  refine ⟨L, X, E, he, ?_⟩
  have hk : ops.length ≤ k := by
   have := hl 0
   simpa using this
  have lt : ∀ (i : Nat) (oi : Oper), ops[i]? = some oi → i < ops.length := fun i oi h => (List.getElem?_eq_some_iff.1 h).1
  exact ⟨fun t f h => by obtain ⟨i, oi, _, h2, h3⟩ := s.key t f h; exact ⟨i, oi, lt i oi h2, h2, h3⟩, fun i oi d hi => s.cov i oi d (by omega), fun j o hj => s.each j o (by omega),
   fun p hp => by obtain ⟨_, h2, h3⟩ := s.eff p hp; exact ⟨lt _ _ h2, h2, h3⟩, s.nd, fun p hp => by obtain ⟨_, h2⟩ := s.xx p hp; exact ⟨lt _ _ h2, h2⟩⟩
 | o :: l, k, L, X, E, hl, s, he => by
  have ho : ops[k]? = some o := by simpa using (hl 0).symm
  have hl' : ∀ j, l[j]? = ops[k + 1 + j]? := fun j => by have := hl (j + 1); simpa [Nat.add_assoc, Nat.add_comm 1 j] using this
  simp only [G9] at he
  split at he
  ·exact he.elim
  ·rename_i hg
   split at he
   ·rename_i av hav
    rw [y8] at he
    exact N00 hD hdep l (k + 1) _ _ _ hl' (s.add hD hdep ho hg (.inl rfl) (.inl ⟨rfl, av, rfl, .inl hav⟩)) he
   ·rcases he with ⟨av, hx, he⟩ | he
    ·rw [y8] at he
     exact N00 hD hdep l (k + 1) _ _ _ hl' (s.add hD hdep ho hg (.inr rfl) (.inl ⟨rfl, av, rfl, .inr ⟨by simp, hx⟩⟩)) he
    ·exact N00 hD hdep l (k + 1) _ _ _ hl' (s.add hD hdep ho hg (.inl rfl) (.inr ⟨rfl, _, rfl⟩)) he
theorem z06 : ∀ (r : List (Nat × Oper)) (q : Nat × Oper), J8 r = true → q ∈ r.tail → ∃ p ∈ r, F9 p.1 q.2 = true
 | [], q, _, h => by cases h
 | [x], q, _, h => by cases h
 | (i, o) :: (j, o') :: r, q, hc, h => by
  simp only [J8, Bool.and_eq_true] at hc
  rcases List.mem_cons.1 h with rfl | h
  ·exact ⟨(i, o), List.mem_cons_self .., hc.1⟩
  ·obtain ⟨p, hp, he⟩ := z06 ((j, o') :: r) q hc.2 h
   exact ⟨p, List.mem_cons_of_mem _ hp, he⟩
theorem h04 : ∀ (d r : List (Nat × Oper)), J8 (d ++ r) = true → J8 r = true
 | [], r, h => h
 | [x], [], h => rfl
 | [(i, o)], (j, o') :: r, h => by simp only [List.singleton_append, J8, Bool.and_eq_true] at h; exact h.2
 | (i, o) :: (j, o') :: d, r, h => by
  simp only [List.cons_append, J8, Bool.and_eq_true] at h
  exact h04 ((j, o') :: d) r h.2
theorem a01 {i : Nat} {o : Oper} : ∀ {N : Nat}, s00 N i o = true → ∀ k, k < N → k ≠ i → ∃ e ∈ o.after, Region.binds .any e = true ∧ e.on = k
 | 0, _, k, hk, _ => by omega
 | N + 1, h, k, hk, hne => by
  simp only [s00, Bool.and_eq_true, Bool.or_eq_true] at h
  by_cases e : k = N
  ·subst e
   rcases h.1 with g | g
   ·exact absurd (Nat.eq_of_beq_eq_true g) hne
   ·exact b8 g
  ·exact a01 h.2 k (by omega) hne
def k0g (P : Program) (h0 : Hp) (w0 : World) (ops : Array Oper) (n : Nat) (fr : List (Nat × AV)) (bx0 : List BSt) (ow0 : List Own) (hs : Hp) (c : Nat) (E : List (Nat × Oper)) (L0 : List (Nat × L4)) (K : St → Hp → Prop) (listed : Array Bool) (a : Act) (w : World) : Prop :=
 ∃ (dn r : List (Nat × Oper)) (L : List (Nat × L4)) (bx : List BSt) (ow : List Own) (h : Hp) (be : Nat → Nat) (oe : Nat → Value) (H : Hp), E = dn ++ r ∧ (dn.length ≤ c → ow = ow0 ∧ Sub hs h) ∧ (∀ (j : Nat) (o : Oper), ops[j]? = some o → listed.getD j false = true → ∀ e ∈ o.after, Region.binds .any e = true → listed.getD e.on false = true) ∧ (∀ p ∈ r, listed.getD p.1 true = false) ∧ (∀ p ∈ dn, listed.getD p.1 false = true) ∧
  (bx = bx0 ∨ ∀ k, k < ops.size → listed.getD k false = true) ∧ Sim P h0 w0 be oe H ⟨n, O2 ops.toList fr, bx, ow⟩ h a w ∧ evC ops.size P (c - dn.length) r L ⟨n, fr, bx, ow⟩ h K ∧
  (∀ t, (U0 L0 t = none → U0 L t = none) ∧ ∀ av, U0 L0 t = some (.pu av) → U0 L t = some (.pu av)) ∧
  ∀ (j : Nat) (o : Oper) (d : Nat), ops[j]? = some o → o.dst = some d → listed.getD j false = true → ∃ av, U0 L d = some (.pu av) ∧ Y0 ⟨n, fr, bx, ow⟩ be oe av (a.tmps.getD d undef)
theorem l0g {ops : Array Oper} {Q : Exit → Act → World → Prop} {Inv : Array Bool → Act → World → Prop} (hB : ∀ (k : Nat) (o : Oper), ops.toList[k]? = some o → ∀ e ∈ o.after, Region.binds .any e = true → e.on < k)
  (hstep : ∀ listed a w j o, listed.size = ops.size → listed.getD j true = false → ops[j]? = some o → (∀ e ∈ o.after, Region.binds .any e = true → listed.getD e.on false = true) → Inv listed a w → o.guard = none ∧ o.wp P a w (Inv (listed.setIfInBounds j true)) Q)
  (hQ : ∀ listed a w, (∀ j, j < ops.size → listed.getD j false = true) → Inv listed a w → Q .normal a w) :
  ∀ (fuel : Nat) (listed : Array Bool) (a : Act) (w : World), listed.size = ops.size → listed.toList.count true + fuel = ops.size → Inv listed a w → wpAny P .any ops Q fuel listed a w
 | 0, listed, a, w, hsz, hc, hi => by
  have hall' : ∀ j, j < ops.size → listed.getD j false = true := fun j hj => by
   have h1 : ∀ b ∈ listed.toList, true = b := List.count_eq_length.1 (by simp only [Array.length_toList]; omega)
   have hlt : j < listed.size := by omega
   have := h1 listed[j] (by simp)
   simp [hlt, ← this]
  refine ⟨?_, hQ listed a w hall' hi⟩
  cases hr : Region.ready .any ops listed with
  | nil => rfl
  | cons j r =>
   have hj : j ∈ Region.ready .any ops listed := by rw [hr]; exact List.mem_cons_self ..
   obtain ⟨h1, o, h2, _⟩ := mem_ready.1 hj
   have hlt : j < ops.size := (Array.getElem?_eq_some_iff.1 h2).1
   have := hall' j hlt
   have hlt' : j < listed.size := by omega
   simp [hlt'] at this h1
   rw [this] at h1; cases h1
 | fuel + 1, listed, a, w, hsz, hc, hi => by
  refine ⟨fun hr => hQ listed a w (X04 hB hsz hr) hi, fun j hj => ?_⟩
  obtain ⟨h1, o, h2, h3⟩ := mem_ready.1 hj
  unfold wpOp
  simp only [h2]
  obtain ⟨hg, hw'⟩ := hstep listed a w j o hsz h1 h2 h3 hi
  have hw : Region.wanted o (yielded ops a.tmps) = true := by unfold Region.wanted; rw [hg]
  rw [if_pos hw]
  exact .inl (Oper.wp_mono (fun a' w' hi' => l0g hB hstep hQ fuel _ a' w' (by simpa using hsz) (by rw [count_set h1]; omega) hi') hw')
theorem i04 {ops : Array Oper} {listed : Array Bool} {X : List (Nat × Oper)}
  (hcl : ∀ (k : Nat) (o : Oper), ops[k]? = some o → listed.getD k false = true → ∀ e ∈ o.after, Region.binds .any e = true → listed.getD e.on false = true)
  (hX : ∀ y ∈ X, ops[y.1]? = some y.2) : ∀ (n i jq : Nat) (q : Oper), ops[jq]? = some q → listed.getD jq false = true → s08 X n i q = true → listed.getD i false = true
 | 0, i, jq, q, hq, hl, hr => by
  obtain ⟨e, he1, he2, he3⟩ := b8 hr
  have := hcl jq q hq hl e he1 he2
  rwa [he3] at this
 | n + 1, i, jq, q, hq, hl, hr => by
  simp only [s08, Bool.or_eq_true, List.any_eq_true, Bool.and_eq_true] at hr
  rcases hr with h1 | ⟨y, hy, h1, h2⟩
  ·obtain ⟨e, he1, he2, he3⟩ := b8 h1
   have := hcl jq q hq hl e he1 he2
   rwa [he3] at this
  ·obtain ⟨e, he1, he2, he3⟩ := b8 h1
   have h4 := hcl jq q hq hl e he1 he2
   rw [he3] at h4
   exact i04 hcl hX n i y.1 y.2 (hX y hy) h4 h2
theorem N0g {ops : Array Oper} {n : Nat} {fr : List (Nat × AV)} {bx0 : List BSt} {ow0 : List Own} {hs : Hp} {c : Nat} {X E : List (Nat × Oper)} {L0 : List (Nat × L4)} {K : St → Hp → Prop} {Q : Exit → Act → World → Prop} {listed : Array Bool} {j : Nat} {o : Oper}
  (hD : ∀ (i j : Nat) (oi oj : Oper) (d : Nat), ops.toList[i]? = some oi → ops.toList[j]? = some oj → oi.dst = some d → oj.dst = some d → i = j)
  (hn : ∀ o ∈ ops.toList, ∀ d, o.dst = some d → d < n) (sp : f03 P ⟨n, fr, bx0, ow0⟩ hs ops.toList ops.toList.length L0 X E) (hch : J8 E = true) (hea : W00 X (X ++ E) (E.drop c) = true)
  (hj : listed.getD j true = false) (ho : ops[j]? = some o) (hsz : listed.size = ops.size)
  (hdep : ∀ t, Operand.tmp t ∈ o.op.operands → ∀ (i : Nat) (oi : Oper), ops.toList[i]? = some oi → oi.dst = some t → listed.getD i false = true)
  (hedge : ∀ e ∈ o.after, Region.binds .any e = true → listed.getD e.on false = true)
  (hi : k0g P h0 w0 ops n fr bx0 ow0 hs c E L0 K listed a w) : o.guard = none ∧ o.wp P a w (k0g P h0 w0 ops n fr bx0 ow0 hs c E L0 K (listed.setIfInBounds j true)) Q := by
 obtain ⟨dn, r, L, bx, ow, h', be, oe, H, hE, hdn0, hcl, hr, hdn, hbx, s, he, R1, R2⟩ := hi
 have hoL : ops.toList[j]? = some o := by simpa using ho
 have hmem : o ∈ ops.toList := List.mem_of_getElem? hoL
 have hlt : j < ops.toList.length := (List.getElem?_eq_some_iff.1 hoL).1
 have hjs : j < listed.size := by simpa [hsz] using hlt
 have hbx0 : bx = bx0 := by
  rcases hbx with e | e
  ·exact e
  ·have h1 := e j (by simpa using hlt)
   simp [hjs] at h1 hj
   rw [h1] at hj; cases hj
 subst hbx0
 obtain ⟨hg, hkind⟩ := sp.each j o hlt hoL
 refine ⟨hg, ?_⟩
 have L0key : ∀ t, U0 L t ≠ none → ∃ (i : Nat) (oi : Oper), ops.toList[i]? = some oi ∧ oi.dst = some t := fun t ht => by
  cases h0' : U0 L0 t with
  | none => exact absurd ((R1 t).1 h0') ht
  | some f => obtain ⟨i, oi, _, h2, h3⟩ := sp.key t f h0'; exact ⟨i, oi, h2, h3⟩
 have frame : ∀ t, (∀ o' ∈ ops.toList, o'.dst ≠ some t) → Y0 ⟨n, fr, bx, ow⟩ be oe (K1 fr t) (a.tmps.getD t undef) := fun t ht => by
  have g := s.fr t
  change Y0 _ be oe (K1 (O2 ops.toList fr) t) _ at g
  rw [Q6 ht] at g
  exact Y0.fr (st := ⟨n, O2 ops.toList fr, bx, ow⟩) (fr := fr) g
 have opnd : ∀ t, Operand.tmp t ∈ o.op.operands → (∀ av, U0 L t = some (.pu av) → Y0 ⟨n, fr, bx, ow⟩ be oe av (a.tmps.getD t undef)) ∧ (U0 L t = none → Y0 ⟨n, fr, bx, ow⟩ be oe (K1 fr t) (a.tmps.getD t undef)) := fun t ht => by
  refine ⟨fun av hav => ?_, fun hno => frame t fun o' ho' hd => ?_⟩
  ·obtain ⟨i, oi, h1, h2⟩ := L0key t (by rw [hav]; simp)
   obtain ⟨av', e1, e2⟩ := R2 i oi t (by simpa using h1) h2 (hdep t ht i oi h1 h2)
   rw [hav] at e1; cases e1
   exact e2
  ·obtain ⟨i, hi, e⟩ := List.getElem_of_mem ho'
   have h1 : ops.toList[i]? = some o' := by rw [List.getElem?_eq_getElem hi, e]
   obtain ⟨av', e1, _⟩ := R2 i o' t (by simpa using h1) hd (hdep t ht i o' h1 hd)
   rw [hno] at e1; cases e1
 have hset : ∀ i, i ≠ j → ∀ d, (listed.setIfInBounds j true).getD i d = listed.getD i d := fun i hij d => getD_set_ne d (Ne.symm hij)
 have sput : ∀ {bx' : List BSt} {ow' : List Own} {h'' : Hp} {be' : Nat → Nat} {oe' : Nat → Value} {H' : Hp} {v : Value} {w' : World}, Sim P h0 w0 be' oe' H' ⟨n, O2 ops.toList fr, bx', ow'⟩ h'' a w' → Sim P h0 w0 be' oe' H' ⟨n, O2 ops.toList fr, bx', ow'⟩ h'' (a.put o.dst v) w' := by
  intro bx' ow' h'' be' oe' H' v w' s1
  cases hd : o.dst with
  | none => exact s1
  | some d =>
   have hp := s1.put (d := d) (av := .dead) (v := v) (hn o hmem d hd) trivial
   refine hp.refr (fr := O2 ops.toList fr) fun t => ?_
   have g := hp.fr t
   change Y0 _ _ _ (K1 ((d, .dead) :: O2 ops.toList fr) t) _ at g
   rw [C2] at g
   split at g
   ·rename_i e
    subst e
    rw [g9 hmem hd]
    trivial
   ·exact g
 have tput : ∀ (v : Value) (i : Nat) (oi : Oper) (d : Nat), ops[i]? = some oi → oi.dst = some d → i ≠ j → (a.put o.dst v).tmps.getD d undef = a.tmps.getD d undef := fun v i oi d h1 h2 hij => by
  cases hd : o.dst with
  | none => rfl
  | some d' =>
   have hne : d' ≠ d := fun e => by subst e; exact hij (hD i j oi o d' (by simpa using h1) hoL h2 hd)
   simp [Act.put, Array.getElem?_setIfInBounds_ne hne]
 have tself : ∀ (v : Value) (d : Nat), o.dst = some d → (a.put o.dst v).tmps.getD d undef = v := fun v d hd => by
  have hlt : d < a.tmps.size := by rw [s.siz]; exact hn o hmem d hd
  rw [hd]
  simp [Act.put, hlt]
 have hcl' : ∀ (i : Nat) (oi : Oper), ops[i]? = some oi → (listed.setIfInBounds j true).getD i false = true → ∀ e ∈ oi.after, Region.binds .any e = true → (listed.setIfInBounds j true).getD e.on false = true := fun i oi h1 h2 e he1 he2 => by
  by_cases hij : i = j
  ·subst hij
   rw [ho] at h1; cases h1
   exact getD_set_true (hedge e he1 he2)
  ·rw [hset i hij] at h2
   exact getD_set_true (hcl i oi h1 h2 e he1 he2)
 rcases hkind with hin | ⟨hnot, av, hpu | ⟨hinX, hlk⟩, hL⟩
 ·
  have hjr : (j, o) ∈ r := by
   rw [hE] at hin
   rcases List.mem_append.1 hin with hx | hx
   ·have h1 := hdn _ hx
    simp [hjs] at h1 hj
    rw [h1] at hj; cases hj
   ·exact hx
  obtain ⟨q, r', rfl⟩ : ∃ q r', r = q :: r' := by
   cases r with
   | nil => cases hjr
   | cons q r' => exact ⟨q, r', rfl⟩
  have hq : q = (j, o) := by
   rcases List.mem_cons.1 hjr with e | hx
   ·exact e.symm
   ·exfalso
    obtain ⟨p, hp, hed⟩ := z06 (q :: r') (j, o) (h04 dn _ (by rw [← hE]; exact hch)) hx
    obtain ⟨e, he1, he2, he3⟩ := b8 hed
    have h1 := hedge e he1 he2
    have h2 := hr p hp
    rw [he3] at h1
    rcases Nat.lt_or_ge p.1 listed.size with g | g
    ·simp [g] at h1 h2
     rw [h1] at h2; cases h2
    ·simp [Array.getElem?_eq_none g] at h1
  subst hq
  simp only [evC] at he
  obtain ⟨fr1, he, g1⟩ := d8 (acc := []) (st := ⟨n, fr, bx, ow⟩) (stX := ⟨n, fr, bx, ow⟩) (be := be) (oe := oe) (val := fun t => a.tmps.getD t undef) (fun t => trivial) (fun t ht => opnd t (by simpa using ht)) he
  have s' : Sim P h0 w0 be oe H ⟨n, fr1, bx, ow⟩ h' a w := s.refr (fr := fr1) fun t => Y0.fr (st := ⟨n, fr, bx, ow⟩) (fr := O2 ops.toList fr) (g1 t)
  refine Oper.wp_mono (fun a' w' hx => ?_) (D7 s' he)
  obtain ⟨av', ⟨n', fr', bx', ow'⟩, h'', v, be', oe', H', hk, rfl, s2, g2, gr⟩ := hx
  obtain ⟨hclean, hsame, hk⟩ := hk
  rw [y8, w8, w8] at hk
  have hnn : n' = n := by
   have e1 : a.tmps.size = n' := s2.siz
   have e2 : a.tmps.size = n := s.siz
   omega
  subst hnn
  have gr' : K4 ⟨n', fr, bx, ow⟩ be oe ⟨n', fr, bx', ow'⟩ be' oe' := ⟨gr.bl, gr.be, gr.sm⟩
  have grD : K4 ⟨n', O2 ops.toList fr, bx, ow⟩ be oe ⟨n', O2 ops.toList fr, bx', ow'⟩ be' oe' := ⟨gr.bl, gr.be, gr.sm⟩
  have s3 : Sim P h0 w0 be' oe' H' ⟨n', O2 ops.toList fr, bx', ow'⟩ h'' a w' :=
   s2.refr (fr := O2 ops.toList fr) fun t => Y0.fr (st := ⟨n', O2 ops.toList fr, bx', ow'⟩) (fr := fr') ((s.fr t).grow grD)
  have htop : ∀ d, o.dst = some d → U0 (r00 o.dst (.pu av') L) d = some (.pu av') := fun d hd => by
   rw [hd]; show U0 ((d, .pu av') :: L) d = _; rw [O5, if_pos rfl]
  have hold : ∀ t, o.dst ≠ some t → U0 (r00 o.dst (.pu av') L) t = U0 L t := fun t ht => by
   cases hd : o.dst with
   | none => rfl
   | some d =>
    show U0 ((d, .pu av') :: L) t = _
    rw [O5, if_neg fun e => ht (by rw [hd, e])]
  refine ⟨dn ++ [(j, o)], r', r00 o.dst (.pu av') L, bx', ow', h'', be', oe', H', by rw [hE]; simp, fun hle => (by
   have hle' : dn.length < c := by simp only [List.length_append, List.length_singleton] at hle; omega
   obtain ⟨e1, e2⟩ := hdn0 (by omega)
   obtain ⟨c1, hc1⟩ : ∃ c1, c - dn.length = c1 + 1 := ⟨c - dn.length - 1, by omega⟩
   rw [hc1] at hclean
   exact ⟨hclean.1.trans e1, fun b o hb => hclean.2 b o (e2 b o hb)⟩), hcl', fun p hp => ?_, fun p hp => ?_, ?_, sput s3, (by
   have e : c - (dn ++ [(j, o)]).length = c - dn.length - 1 := by simp; omega
   rw [e]; exact hk), fun t => ?_, fun i oi d h1 h2 h3 => ?_⟩
  ·have hne : p.1 ≠ j := fun e => by
    have hnd := sp.nd
    rw [hE, List.map_append, List.nodup_append] at hnd
    have h2 := hnd.2.1
    rw [List.map_cons, List.nodup_cons] at h2
    exact h2.1 (List.mem_map.2 ⟨p, hp, e⟩)
   rw [hset _ hne]
   exact hr p (List.mem_cons_of_mem _ hp)
  ·rcases List.mem_append.1 hp with hp | hp
   ·exact getD_set_true (hdn p hp)
   ·simp at hp
    subst hp
    simp [hjs]
  ·cases hl : L0f ops.size j o r' with
   | false => rw [hl] at hsame; exact .inl hsame
   | true =>
    right
    have hall : s00 ops.size j o = true := by
     cases r' with
     | nil => exact hl
     | cons q r'' => cases hl
    intro k hk
    by_cases hkj : k = j
    ·subst hkj; simp [hjs]
    ·rw [hset k hkj]
     obtain ⟨e, he1, he2, rfl⟩ := a01 hall k hk hkj
     exact hedge e he1 he2
  ·by_cases ht : o.dst = some t
   ·obtain ⟨_, _, hF⟩ := sp.eff (j, o) (by rw [hE]; simp)
    obtain ⟨F, hF⟩ := hF t ht
    exact ⟨fun e => (by rw [hF] at e; cases e), fun av e => (by rw [hF] at e; cases e)⟩
   ·rw [hold t ht]
    exact R1 t
  ·by_cases hij : i = j
   ·subst hij
    rw [ho] at h1; cases h1
    exact ⟨av', htop d h2, by rw [tself v d h2]; exact Y0.fr (st := ⟨n', fr', bx', ow'⟩) (fr := fr) g2⟩
   ·rw [hset _ hij] at h3
    obtain ⟨av2, e1, e2⟩ := R2 i oi d h1 h2 h3
    have hdd : o.dst ≠ some d := fun e => hij (hD i j oi o d (by simpa using h1) hoL h2 e)
    exact ⟨av2, by rw [hold d hdd]; exact e1, by rw [tput v i oi d h1 h2 hij]; exact e2.grow gr'⟩
 ·
  have toD : ∀ {av : AV} {x : Value}, Y0 ⟨n, fr, bx, ow⟩ be oe av x → Y0 ⟨n, O2 ops.toList fr, bx, ow⟩ be oe av x := fun g => Y0.fr (st := ⟨n, fr, bx, ow⟩) (fr := O2 ops.toList fr) g
  obtain ⟨v, hrun, gv⟩ := Q0c (st := ⟨n, fr, bx, ow0⟩) (stX := ⟨n, O2 ops.toList fr, bx, ow⟩) s rfl hpu (fun t ht => ⟨fun av e => toD ((opnd t ht).1 av ((R1 t).2 av e)), fun e => toD ((opnd t ht).2 ((R1 t).1 e))⟩)
  refine J6 hrun ?_
  refine ⟨dn, r, L, bx, ow, h', be, oe, H, hE, hdn0, hcl', fun p hp => ?_, fun p hp => getD_set_true (hdn p hp), .inl rfl, sput s, he, R1, fun i oi d h1 h2 h3 => ?_⟩
  ·have hne : p.1 ≠ j := hnot p (by rw [hE]; exact List.mem_append_right _ hp)
   rw [hset _ hne]
   exact hr p hp
  ·by_cases hij : i = j
   ·subst hij
    rw [ho] at h1; cases h1
    exact ⟨av, (R1 d).2 av (hL d h2), by rw [tself v d h2]; exact Y0.fr (st := ⟨n, O2 ops.toList fr, bx, ow⟩) (fr := fr) gv⟩
   ·rw [hset _ hij] at h3
    obtain ⟨av2, e1, e2⟩ := R2 i oi d h1 h2 h3
    exact ⟨av2, e1, by rw [tput v i oi d h1 h2 hij]; exact e2⟩
 ·
  have hdnil : dn.length ≤ c := by
   rcases Nat.lt_or_ge c dn.length with hlt' | hge
   ·exfalso
    obtain ⟨⟨jq, q⟩, hq0⟩ : ∃ q0, dn[c]? = some q0 := ⟨_, List.getElem?_eq_getElem hlt'⟩
    have hqdn : (jq, q) ∈ dn := List.mem_of_getElem? hq0
    have hdrop : ∃ t, E.drop c = (jq, q) :: t := by
     obtain ⟨hlt2, e2⟩ := List.getElem?_eq_some_iff.1 hq0
     refine ⟨(dn ++ r).drop (c + 1), ?_⟩
     rw [hE, List.drop_eq_getElem_cons (by simp; omega), List.getElem_append_left hlt2, e2]
    have hjf : listed.getD j false = false := by simp [hjs] at hj ⊢; exact hj
    have hql : listed.getD jq false = true := hdn (jq, q) hqdn
    have hqo : ops[jq]? = some q := by
     have := (sp.eff (jq, q) (by rw [hE]; exact List.mem_append_left _ hqdn)).2.1
     simpa using this
    obtain ⟨t, ht⟩ := hdrop
    rw [ht] at hea
    simp only [W00, List.all_eq_true] at hea
    have := i04 (X := X ++ E) hcl (fun y hy => by
     rcases List.mem_append.1 hy with hy | hy
     ·have h5 := (sp.xx y hy).2; simpa using h5
     ·have h5 := (sp.eff y hy).2.1; simpa using h5) 8 j jq q hqo hql (hea (j, o) hinX)
    rw [hjf] at this; cases this
   ·exact hge
  obtain ⟨rfl, hsub⟩ := hdn0 hdnil
  obtain ⟨fr1, hev, g1⟩ := d8 (acc := []) (st := ⟨n, fr, bx, ow⟩) (stX := ⟨n, fr, bx, ow⟩) (be := be) (oe := oe) (val := fun t => a.tmps.getD t undef) (fun t => trivial)
   (fun t ht => ⟨fun av e => (opnd t (by simpa using ht)).1 av ((R1 t).2 av e), fun e => (opnd t (by simpa using ht)).2 ((R1 t).1 e)⟩) (hlk h' hsub)
  have s' : Sim P h0 w0 be oe H ⟨n, fr1, bx, ow⟩ h' a w := s.refr (fr := fr1) fun t => Y0.fr (st := ⟨n, fr, bx, ow⟩) (fr := O2 ops.toList fr) (g1 t)
  refine Oper.wp_mono (fun a' w' hx => ?_) (D7 s' hev)
  obtain ⟨av', st', h'', v, be', oe', H', ⟨rfl, rfl, rfl⟩, rfl, s2, g2, gr⟩ := hx
  have gr' : K4 ⟨n, fr, bx, ow⟩ be oe ⟨n, fr, bx, ow⟩ be' oe' := ⟨gr.bl, gr.be, gr.sm⟩
  have grD : K4 ⟨n, O2 ops.toList fr, bx, ow⟩ be oe ⟨n, O2 ops.toList fr, bx, ow⟩ be' oe' := ⟨gr.bl, gr.be, gr.sm⟩
  have s3 : Sim P h0 w0 be' oe' H' ⟨n, O2 ops.toList fr, bx, ow⟩ h'' a w' :=
   s2.refr (fr := O2 ops.toList fr) fun t => Y0.fr (st := ⟨n, O2 ops.toList fr, bx, ow⟩) (fr := fr1) ((s.fr t).grow grD)
  refine ⟨dn, r, L, bx, ow, h'', be', oe', H', hE, fun _ => ⟨rfl, hsub⟩, hcl', fun p hp => ?_, fun p hp => getD_set_true (hdn p hp), .inl rfl, sput s3, he, R1, fun i oi d h1 h2 h3 => ?_⟩
  ·have hne : p.1 ≠ j := hnot p (by rw [hE]; exact List.mem_append_right _ hp)
   rw [hset _ hne]
   exact hr p hp
  ·by_cases hij : i = j
   ·subst hij
    rw [ho] at h1; cases h1
    exact ⟨av', (R1 d).2 av' (hL d h2), by rw [tself v d h2]; exact Y0.fr (st := ⟨n, fr1, bx, ow⟩) (fr := fr) g2⟩
   ·rw [hset _ hij] at h3
    obtain ⟨av2, e1, e2⟩ := R2 i oi d h1 h2 h3
    exact ⟨av2, e1, by rw [tput v i oi d h1 h2 hij]; exact e2.grow gr'⟩
theorem I09 {ops : Array Oper} {st : St} {K : St → Hp → Prop} {Q : Exit → Act → World → Prop} {R : Act → World → Prop} (s : Sim P h0 w0 be oe H st h a w) (hb : W6 st.n ops.toList = true)
  (he : G9 P st h ops.toList 0 [] [] [] fun L X E => ∃ c, (J8 E = true ∧ W00 X (X ++ E) (E.drop c) = true) ∧ evC ops.size P c E L st h K)
  (hQ : ∀ a w st h be oe H, K st h → Sim P h0 w0 be oe H st h a w → R a w) :
  ∃ Inv : Array Bool → Act → World → Prop, (∀ (k : Nat) (o : Oper), ops.toList[k]? = some o → ∀ e ∈ o.after, Region.binds .any e = true → e.on < k) ∧
   (∀ listed a w j o, listed.size = ops.size → listed.getD j true = false → ops[j]? = some o → (∀ e ∈ o.after, Region.binds .any e = true → listed.getD e.on false = true) → Inv listed a w → o.guard = none ∧ o.wp P a w (Inv (listed.setIfInBounds j true)) Q) ∧
   (∀ listed a w, (∀ j, j < ops.size → listed.getD j false = true) → Inv listed a w → R a w) ∧ Inv (Array.replicate ops.size false) a w := by
 simp only [W6, Bool.and_eq_true] at hb
 obtain ⟨⟨b1, b2⟩, b3⟩ := hb
 obtain ⟨hn, hD⟩ := x00 b1
 have hB : ∀ (k : Nat) (o : Oper), ops.toList[k]? = some o → ∀ e ∈ o.after, Region.binds .any e = true → e.on < k := fun k o hk e he' hb => by
  have := y00 b2 k o hk e he' hb
  omega
 have hdep := O01 b3
 obtain ⟨L0, X, E, ⟨c, ⟨hch, hea⟩, hev⟩, sp⟩ := N00 (ops := ops.toList) hD (fun j o t i oi h1 h2 h3 h4 => by
  obtain ⟨e, he', hb, rfl⟩ := hdep o (List.mem_of_getElem? h1) t h2 i oi h3 h4
  exact hB j o h1 e he' hb) ops.toList 0 [] [] [] (fun j => by simp) ⟨fun t f h => (by cases h), fun i oi d hi => by omega, fun j o hj => by omega, fun p hp => (by cases hp), by simp, fun p hp => (by cases hp)⟩ he
 obtain ⟨n, fr, bx, ow⟩ := st
 refine ⟨k0g P h0 w0 ops n fr bx ow h c E L0 K, hB, (fun listed a w j o hsz h1 h2 h3 hi => ?_), (fun listed a w hl hi => ?_), ?_⟩
 ·refine N0g hD hn sp hch hea h1 h2 hsz (fun t ht i oi hi1 hi2 => ?_) h3 hi
  obtain ⟨e, he1, he2, rfl⟩ := hdep o (List.mem_of_getElem? (i := j) (by simpa using h2)) t ht i oi hi1 hi2
  exact h3 e he1 he2
 ·obtain ⟨dn, r, L, bx, ow', h', be, oe, H, hE, _, _, hr, hdn, _, s, hev, R1, R2⟩ := hi
  have hrn : r = [] := by
   cases r with
   | nil => rfl
   | cons p r' =>
    have h1 := hr p (List.mem_cons_self ..)
    have h2 := (sp.eff p (by rw [hE]; simp)).1
    have h3 := hl p.1 (by simpa using h2)
    rcases Nat.lt_or_ge p.1 listed.size with g | g
    ·simp [g] at h1 h3
     rw [h3] at h1; cases h1
    ·simp [Array.getElem?_eq_none g] at h3
  subst hrn
  simp only [evC, w8] at hev
  refine hQ a w _ h' be oe H hev (s.refr (fr := G0a L fr) fun t => ?_)
  rw [Y04]
  have key : ∀ t, U0 L t ≠ none → ∃ (i : Nat) (oi : Oper), ops[i]? = some oi ∧ oi.dst = some t ∧ i < ops.size := fun t ht => by
   cases h0' : U0 L0 t with
   | none => exact absurd ((R1 t).1 h0') ht
   | some f =>
    obtain ⟨i, oi, h1, h2, h3⟩ := sp.key t f h0'
    exact ⟨i, oi, by simpa using h2, h3, by simpa using h1⟩
  cases hL : U0 L t with
  | none =>
   have hmiss : ∀ o' ∈ ops.toList, o'.dst ≠ some t := fun o' ho' hd => by
    obtain ⟨i, hi, e⟩ := List.getElem_of_mem ho'
    have h1 : ops[i]? = some o' := by rw [← e]; simp at hi ⊢
    obtain ⟨av', e1, _⟩ := R2 i o' t h1 hd (hl i (by simpa using hi))
    rw [hL] at e1; cases e1
   have g := s.fr t
   change Y0 _ be oe (K1 (O2 ops.toList fr) t) _ at g
   rw [Q6 hmiss] at g
   exact g
  | some f =>
   cases f with
   | ef F => trivial
   | pu av =>
    obtain ⟨i, oi, h1, h2, h3⟩ := key t (by rw [hL]; simp)
    obtain ⟨av', e1, e2⟩ := R2 i oi t h1 h2 (hl i h3)
    rw [hL] at e1; cases e1
    exact Y0.fr (st := ⟨n, fr, bx, ow'⟩) (fr := O2 ops.toList fr) e2
 ·refine ⟨[], E, L0, bx, ow, h, be, oe, H, rfl, fun _ => ⟨rfl, fun _ _ h => h⟩, fun j o h1 h2 => by (simp [Array.getElem?_replicate] at h2; split at h2 <;> cases h2), fun p hp => ?_, fun p hp => (by cases hp), .inl rfl, s.refr (fr := O2 ops.toList fr) fun t => ?_, hev, fun t => ⟨id, fun av => id⟩, fun j o d h1 h2 h3 => ?_⟩
  ·have := (sp.eff p hp).1
   have h2 : p.1 < ops.size := by simpa using this
   simp [h2]
  ·by_cases hx : ∃ o ∈ ops.toList, o.dst = some t
   ·obtain ⟨o, h1, h2⟩ := hx
    rw [g9 h1 h2]
    trivial
   ·rw [Q6 fun o ho hd => hx ⟨o, ho, hd⟩]
    exact s.fr t
  ·simp [Array.getElem?_replicate] at h3
   split at h3 <;> cases h3
theorem R0c {ops : Array Oper} {st : St} {K : St → Hp → Prop} {Q : Exit → Act → World → Prop} (s : Sim P h0 w0 be oe H st h a w) (hb : W6 st.n ops.toList = true)
  (he : G9 P st h ops.toList 0 [] [] [] fun L X E => ∃ c, (J8 E = true ∧ W00 X (X ++ E) (E.drop c) = true) ∧ evC ops.size P c E L st h K)
  (hQ : ∀ a w st h be oe H, K st h → Sim P h0 w0 be oe H st h a w → Q .normal a w) : wpAny P .any ops Q ops.size (Array.replicate ops.size false) a w := by
 obtain ⟨Inv, h1, h2, h3, h4⟩ := I09 (Q := Q) (R := fun a w => Q .normal a w) s hb he hQ
 exact l0g (Inv := Inv) h1 h2 h3 ops.size _ a w (by simp) (by simp [List.count_replicate]) h4
theorem j04 {L l : Array Bool} {x : Bool} (h : L.toList = l.toList ++ [x]) {j : Nat} (hj : j < l.size) (b : Bool) : L.getD j b = l.getD j b := by
 rw [Array.getD_eq_getD_getElem?, Array.getD_eq_getD_getElem?, ← Array.getElem?_toList, ← Array.getElem?_toList, h, List.getElem?_append_left (by simpa using hj)]
theorem S0c {L l : Array Bool} {x : Bool} (h : L.toList = l.toList ++ [x]) (b : Bool) : L.getD l.size b = x := by
 rw [Array.getD_eq_getD_getElem?, ← Array.getElem?_toList, h, List.getElem?_append_right (by simp)]; simp
theorem O0g {ops ops0 : Array Oper} {o : Oper} {Q : Exit → Act → World → Prop} {Inv : Array Bool → Act → World → Prop} {a : Act} {w : World} (hops : ops.toList = ops0.toList ++ [o])
  (hBf : ∀ (k : Nat) (o : Oper), ops.toList[k]? = some o → ∀ e ∈ o.after, Region.binds .any e = true → e.on < k)
  (hg : o.guard = none) (hl : ∀ k, k < ops0.size → ∃ e ∈ o.after, Region.binds .any e = true ∧ e.on = k)
  (hstep : ∀ listed a w j o, listed.size = ops0.size → listed.getD j true = false → ops0[j]? = some o → (∀ e ∈ o.after, Region.binds .any e = true → listed.getD e.on false = true) → Inv listed a w → o.guard = none ∧ o.wp P a w (Inv (listed.setIfInBounds j true)) Q)
  (hQ : ∀ listed a w, (∀ j, j < ops0.size → listed.getD j false = true) → Inv listed a w → o.wp P a w (fun a w => Q .normal a w) Q)
  (h0 : Inv (Array.replicate ops0.size false) a w) : wpAny P .any ops Q ops.size (Array.replicate ops.size false) a w := by
 have hsize : ops.size = ops0.size + 1 := by
  have := congrArg List.length hops
  simpa using this
 refine l0g (Inv := fun L a w => (∃ l : Array Bool, l.size = ops0.size ∧ L.toList = l.toList ++ [false] ∧ Inv l a w) ∨ ((∀ j, j < ops.size → L.getD j false = true) ∧ Q .normal a w)) hBf (fun L a w j o' hsz h1 h2 h3 hi => ?_) (fun L a w hall hi => ?_) ops.size _ a w (by simp) (by simp [List.count_replicate]) (.inl ⟨_, by simp, by simp [hsize, List.replicate_succ'], h0⟩)
 ·rcases hi with ⟨l, hls, hL, hi⟩ | ⟨hall, _⟩
  ·have hjlt : j < ops.size := (Array.getElem?_eq_some_iff.1 h2).1
   by_cases hj : j < ops0.size
   ·have h2' : ops0[j]? = some o' := by
     rw [← Array.getElem?_toList] at h2 ⊢
     rw [hops, List.getElem?_append_left (by simpa using hj)] at h2; exact h2
    obtain ⟨g1, g2⟩ := hstep l a w j o' hls (by rw [← j04 hL (by omega)]; exact h1) h2' (fun e he hb => by
     have := hBf j o' (by rw [Array.getElem?_toList]; exact h2) e he hb
     rw [← j04 hL (by omega)]; exact h3 e he hb) hi
    refine ⟨g1, Oper.wp_mono (fun a' w' hi' => .inl ⟨_, by simpa using hls, ?_, hi'⟩) g2⟩
    rw [Array.toList_setIfInBounds, hL, List.set_append_left _ _ (by simpa [hls] using hj), Array.toList_setIfInBounds]
   ·have hje : j = ops0.size := by omega
    have ho : o' = o := by
     rw [← Array.getElem?_toList, hops, List.getElem?_append_right (by simp; omega)] at h2
     rw [hje] at h2; simp at h2; exact h2.symm
    subst ho
    have hall : ∀ k, k < ops0.size → l.getD k false = true := fun k hk => by
     obtain ⟨e, he, hb, rfl⟩ := hl k hk
     rw [← j04 hL (by omega)]; exact h3 e he hb
    refine ⟨hg, Oper.wp_mono (fun a' w' hq => .inr ⟨fun k hk => ?_, hq⟩) (hQ l a w hall hi)⟩
    by_cases hkj : k = j
    ·rw [hkj]; simp [Array.getD_eq_getD_getElem?, hsz, hjlt]
    ·have hk0 : k < ops0.size := by omega
     have := hall k hk0
     rw [← j04 hL (by omega)] at this
     rw [Array.getD_eq_getD_getElem?, Array.getElem?_setIfInBounds_ne (by omega), ← Array.getD_eq_getD_getElem?]; exact this
  ·have hjlt : j < ops.size := (Array.getElem?_eq_some_iff.1 h2).1
   have e1 := hall j hjlt
   rw [Array.getD_eq_getD_getElem?] at e1 h1
   rw [Array.getElem?_eq_getElem (by omega)] at e1 h1
   simp at e1 h1
   rw [e1] at h1; cases h1
 ·rcases hi with ⟨l, hls, hL, hi⟩ | ⟨_, hq⟩
  ·have := hall ops0.size (by omega)
   rw [← hls, S0c hL] at this; cases this
  ·exact hq
theorem E05 {o : Oper} : ∀ (ops : List Oper), j06 ops = some o → ops = a8 ops ++ [o]
 | [], h => by simp [j06] at h
 | [x], h => by simp only [j06, Option.some.injEq] at h; rw [h]; simp [a8]
 | x :: y :: r, h => by
  simp only [j06] at h
  have := E05 (y :: r) (by simp only [j06]; exact h)
  rw [show a8 (x :: y :: r) = x :: a8 (y :: r) by simp only [a8], List.cons_append, ← this]
theorem T0c {ops : List Oper} {o : Oper} (h : J0d ops = some o) : ops = a8 ops ++ [o] ∧ o.guard = none ∧ s00 (a8 ops).length (a8 ops).length o = true := by
 unfold J0d at h
 split at h
 ·rename_i o' ho'
  split at h
  ·rename_i d hg hd
   split at h
   ·rename_i hb
    cases h
    simp only [Bool.and_eq_true] at hb
    exact ⟨E05 _ ho', hg, hb.2⟩
   ·cases h
  ·cases h
 ·cases h
end
end Go.H
namespace Go.H
set_option linter.unusedVariables false
set_option linter.unusedSimpArgs false
theorem r01 : ∀ {L : FL} {t : Nat} {x : List (Nat × Bool) × L4}, D9 L t = some x → (t, x) ∈ L
 | [], t, x, h => by cases h
 | (d, y) :: r, t, x, h => by
  simp only [D9] at h
  split at h
  ·rename_i hb
   cases h
   rw [Nat.eq_of_beq_eq_true hb]
   exact List.mem_cons_self ..
  ·exact List.mem_cons_of_mem _ (r01 h)
theorem B03 : ∀ {L : FL} {t : Nat} {x : List (Nat × Bool) × L4}, (t, x) ∈ L → ∃ y, D9 L t = some y
 | (d, y) :: r, t, x, h => by
  simp only [D9]
  split
  ·exact ⟨_, rfl⟩
  ·rename_i hb
   rcases List.mem_cons.1 h with e | h
   ·cases e; exact absurd rfl (Nat.ne_of_beq_eq_false hb)
   ·exact B03 h
theorem U0c {bs : List BE} {x : BE} (hx : ∀ y ∈ bs, y.j ≠ x.j) {j : Nat} {b : BE} (h : H8 bs j = some b) : H8 (x :: bs) j = some b := by
 simp only [H8]
 split
 ·rename_i hb
  obtain ⟨h1, h2⟩ := H9 h
  exact absurd (h2.trans (Nat.eq_of_beq_eq_true hb).symm) (hx b h1)
 ·exact h
abbrev Asg := Nat → List (Nat × Bool) × Bool × L4
structure Q0a (ops : List Oper) (A : Asg) (L : FL) (bs : List BE) (k : Nat) : Prop where
 p1 : ∀ t x, (t, x) ∈ L → ∃ i oi, i < k ∧ ops[i]? = some oi ∧ oi.dst = some t ∧ (A i).1 = x.1 ∧ (A i).2.2 = x.2
 p2 : ∀ i oi d, i < k → ops[i]? = some oi → oi.dst = some d → ∃ x, D9 L d = some x
 p3 : ∀ i, i < k → i < ops.length → cB bs (A i).1 = some (A i).2.1
 p4 : ∀ x ∈ bs, x.j < k ∧ (∃ o, ops[x.j]? = some o ∧ o.dst = some x.d) ∧ (A x.j).1 = x.ch ∧ (A x.j).2.2 = .pu (.val (.bool x.e))
structure C03 (bs bs' : List BE) : Prop where
 c : ∀ ch c, cB bs ch = some c → cB bs' ch = some c
 e : ∀ j b, H8 bs j = some b → H8 bs' j = some b
theorem C03.refl (bs : List BE) : C03 bs bs := ⟨fun _ _ h => h, fun _ _ h => h⟩
theorem C03.trans {a b c : List BE} (h1 : C03 a b) (h2 : C03 b c) : C03 a c := ⟨fun ch x h => h2.c ch x (h1.c ch x h), fun j b h => h2.e j b (h1.e j b h)⟩
def OpU (P : Program) (st : St) (h : Hp) (L : FL) (bs : List BE) (o : Oper) (ch : List (Nat × Bool)) (c : Bool) : L4 → Prop
 | .pu av => s09 P L bs ch o st = some av ∨ ∀ h', Sub h h' → imp ch c (e02 L st h' ch o.op.operands.toList [] fun fr => I5 P o { st with fr := fr } h' (A0b av { st with fr := fr } h'))
 | .ef F => (∀ v h1 h2, Sub h1 h2 → F v h1 → F v h2) ∧ ∀ h', Sub h h' → imp ch c (e02 L st h' ch o.op.operands.toList [] fun fr => I5 P o { st with fr := fr } h' (L0d { st with fr := fr } h' F))
theorem Y0d {d : Option Tmp} {ch : List (Nat × Bool)} {f : L4} {L : FL} {p : Nat × List (Nat × Bool) × L4} (h : p ∈ u08 d ch f L) : (∃ s, d = some s ∧ p = (s, ch, f)) ∨ p ∈ L := by
 cases d with
 | none => exact .inr h
 | some s =>
  rcases List.mem_cons.1 h with h | h
  ·exact .inl ⟨s, rfl, h⟩
  ·exact .inr h
theorem Z0d {i : Nat} {d : Option Tmp} {ch : List (Nat × Bool)} {av : AV} {bs : List BE} {x : BE} (h : x ∈ v08 i d ch av bs) : (∃ s e, d = some s ∧ av = .val (.bool e) ∧ x = ⟨i, s, e, ch⟩) ∨ x ∈ bs := by
 unfold v08 at h
 split at h
 ·split at h
  ·rcases List.mem_cons.1 h with h | h
   ·exact .inl ⟨_, _, rfl, rfl, h⟩
   ·exact .inr h
  ·exact .inr h
 ·exact .inr h
theorem a0e {i : Nat} {d : Option Tmp} {ch : List (Nat × Bool)} {av : AV} {bs : List BE} (hx : ∀ y ∈ bs, y.j < i) : C03 bs (v08 i d ch av bs) := by
 unfold v08
 split
 ·split
  ·refine ⟨fun ch' c h => O0a (fun y hy => ?_) h, fun j b h => U0c (fun y hy => ?_) h⟩ <;> (have := hx y hy; simp only; omega)
  ·exact C03.refl _
 ·exact C03.refl _
theorem f0f (P : Program) (i : Nat) (L : FL) (bs : List BE) (st : St) (h : Hp) (K : St → Hp → Prop) : evU P [] i L bs st h K = ∀ h', Sub h h' → t08 h' L st.fr fun fr => K { st with fr := fr } h' := by
 obtain ⟨n, fr, bx, ow⟩ := st; rfl
theorem b0e (P : Program) (o : Oper) (l : List Oper) (i : Nat) (L : FL) (bs : List BE) (st : St) (h : Hp) (K : St → Hp → Prop) (he : evU P (o :: l) i L bs st h K) :
    ∃ ch c f, I6 bs o.guard = some ch ∧ cB bs ch = some c ∧ OpU P st h L bs o ch c f ∧ ∃ bs', bs' = (match f with
      | .pu av => v08 i o.dst ch av bs
      | .ef _ => bs) ∧ evU P l (i + 1) (u08 o.dst ch f L) bs' st h K := by
  obtain ⟨n, fr, bx, ow⟩ := st
  change (match I6 bs o.guard with
        | some ch => match cB bs ch with
          | some c => match s09 P L bs ch o ⟨n, fr, bx, ow⟩ with
            | some av => R8 av fun av => evU P l (i + 1) (u08 o.dst ch (.pu av) L) (v08 i o.dst ch av bs) ⟨n, fr, bx, ow⟩ h K
            | none => (∃ av, (∀ h', Sub h h' → imp ch c (e02 L ⟨n, fr, bx, ow⟩ h' ch o.op.operands.toList [] fun fr => I5 P o ⟨n, fr, bx, ow⟩ h' (A0b av ⟨n, fr, bx, ow⟩ h'))) ∧
                  R8 av fun av => evU P l (i + 1) (u08 o.dst ch (.pu av) L) (v08 i o.dst ch av bs) ⟨n, fr, bx, ow⟩ h K) ∨
                (∃ F : Value → Hp → Prop, (∀ v h1 h2, Sub h1 h2 → F v h1 → F v h2) ∧
                  (∀ h', Sub h h' → imp ch c (e02 L ⟨n, fr, bx, ow⟩ h' ch o.op.operands.toList [] fun fr => I5 P o ⟨n, fr, bx, ow⟩ h' (L0d ⟨n, fr, bx, ow⟩ h' F))) ∧
                  evU P l (i + 1) (u08 o.dst ch (.ef F) L) bs ⟨n, fr, bx, ow⟩ h K)
          | none => False
        | none => False) at he
  split at he
  · rename_i ch hch
    split at he
    · rename_i c hc
      split at he
      · rename_i av hav
        rw [y8] at he
        exact ⟨ch, c, .pu av, hch, hc, .inl hav, _, rfl, he⟩
      · rcases he with ⟨av, h1, h2⟩ | ⟨F, h1, h2, h3⟩
        · rw [y8] at h2
          exact ⟨ch, c, .pu av, hch, hc, .inr h1, _, rfl, h2⟩
        · exact ⟨ch, c, .ef F, hch, hc, ⟨h1, h2⟩, _, rfl, h3⟩
    · exact he.elim
  · exact he.elim
theorem J09 {P : Program} {ops : List Oper} {st : St} {h : Hp} {K : St → Hp → Prop} (hD : ∀ (i j : Nat) (oi oj : Oper) (d : Nat), ops[i]? = some oi → ops[j]? = some oj → oi.dst = some d → oj.dst = some d → i = j) :
  ∀ (l : List Oper) (k : Nat) (L : FL) (bs : List BE) (A0 : Asg), (∀ j, l[j]? = ops[k + j]?) → k + l.length = ops.length → Q0a ops A0 L bs k → evU P l k L bs st h K →
   ∃ (A : Asg) (L' : FL) (Bf : List BE), (∀ i, i < k → A i = A0 i) ∧ C03 bs Bf ∧ Q0a ops A L' Bf ops.length ∧
    (∀ j o, k ≤ j → ops[j]? = some o → ∃ Lj bj, I6 Bf o.guard = some (A j).1 ∧ Q0a ops A Lj bj j ∧ C03 bj Bf ∧ cB bj (A j).1 = some (A j).2.1 ∧ OpU P st h Lj bj o (A j).1 (A j).2.1 (A j).2.2) ∧
    (∀ h', Sub h h' → t08 h' L' st.fr fun fr => K { st with fr := fr } h')
 | [], k, L, bs, A0, hl, hk, hp, he => by
  have hk' : k = ops.length := by simpa using hk
  subst hk'
  refine ⟨A0, L, bs, fun _ _ => rfl, C03.refl _, hp, fun j o hj ho => ?_, by rw [f0f] at he; exact he⟩
  have := (List.getElem?_eq_some_iff.1 ho).1
  omega
 | o :: l, k, L, bs, A0, hl, hk, hp, he => by
  have ho : ops[k]? = some o := by simpa using (hl 0).symm
  have hl' : ∀ j, l[j]? = ops[k + 1 + j]? := fun j => by have := hl (j + 1); simpa [Nat.add_assoc, Nat.add_comm 1 j] using this
  have hk' : k + 1 + l.length = ops.length := by simp only [List.length_cons] at hk; omega
  obtain ⟨ch, c, f, hch, hc, hop, bs', hbs, he'⟩ := b0e P o l k L bs st h K he
  let A1 : Asg := fun i => if i = k then (ch, c, f) else A0 i
  have a1k : A1 k = (ch, c, f) := by simp [A1]
  have a1 : ∀ i, i < k → A1 i = A0 i := fun i hi => by simp [A1, Nat.ne_of_lt hi]
  have hbk : ∀ y ∈ bs, y.j < k := fun y hy => (hp.p4 y hy).1
  have hext : C03 bs bs' := by
   subst hbs
   cases f with
   | pu av => exact a0e hbk
   | ef F => exact C03.refl _
  have hp1 : Q0a ops A1 (u08 o.dst ch f L) bs' (k + 1) := by
   refine ⟨fun t x hx => ?_, fun i oi d hi h1 h2 => ?_, fun i hi hlt => ?_, fun x hx => ?_⟩
   ·rcases Y0d hx with ⟨s, hs, e⟩ | hx
    ·cases e
     exact ⟨k, o, Nat.lt_succ_self _, ho, hs, by rw [a1k], by rw [a1k]⟩
    ·obtain ⟨i, oi, g1, g2, g3, g4, g5⟩ := hp.p1 t x hx
     exact ⟨i, oi, Nat.lt_succ_of_lt g1, g2, g3, by rw [a1 i g1]; exact g4, by rw [a1 i g1]; exact g5⟩
   ·rcases Nat.lt_or_ge i k with hik | hik
    ·obtain ⟨x, hx⟩ := hp.p2 i oi d hik h1 h2
     cases hd : o.dst with
     | none => exact ⟨x, hx⟩
     | some s => exact B03 (x := x) (List.mem_cons_of_mem _ (r01 hx))
    ·have : i = k := by omega
     subst this
     rw [ho] at h1; cases h1
     rw [h2]
     exact B03 (List.mem_cons_self ..)
   ·rcases Nat.lt_or_ge i k with hik | hik
    ·rw [a1 i hik]; exact hext.c _ _ (hp.p3 i hik hlt)
    ·have : i = k := by omega
     subst this
     rw [a1k]; exact hext.c _ _ hc
   ·subst hbs
    cases f with
    | ef F =>
     obtain ⟨g1, g2, g3, g4⟩ := hp.p4 x hx
     exact ⟨Nat.lt_succ_of_lt g1, g2, by rw [a1 _ g1]; exact g3, by rw [a1 _ g1]; exact g4⟩
    | pu av =>
     rcases Z0d hx with ⟨s, e, hs, hav, rfl⟩ | hx
     ·refine ⟨Nat.lt_succ_self _, ⟨o, ho, hs⟩, by rw [a1k], ?_⟩
      rw [a1k, hav]
     ·obtain ⟨g1, g2, g3, g4⟩ := hp.p4 x hx
      exact ⟨Nat.lt_succ_of_lt g1, g2, by rw [a1 _ g1]; exact g3, by rw [a1 _ g1]; exact g4⟩
  obtain ⟨A, L', Bf, b1, b2, b3, b4, b5⟩ := J09 hD l (k + 1) _ bs' A1 hl' hk' hp1 he'
  have bk : A k = (ch, c, f) := by rw [b1 k (Nat.lt_succ_self _), a1k]
  have bi : ∀ i, i < k → A i = A0 i := fun i hi => by rw [b1 i (Nat.lt_succ_of_lt hi), a1 i hi]
  refine ⟨A, L', Bf, bi, hext.trans b2, b3, fun j oj hj hoj => ?_, b5⟩
  rcases Nat.lt_or_ge k j with hkj | hkj
  ·exact b4 j oj hkj hoj
  ·have : j = k := by omega
   subst this
   rw [ho] at hoj; cases hoj
   refine ⟨L, bs, ?_, ⟨fun t x hx => ?_, fun i oi d hi h1 h2 => hp.p2 i oi d hi h1 h2, fun i hi hlt => ?_, fun x hx => ?_⟩, hext.trans b2, by rw [bk]; exact hc, by rw [bk]; exact hop⟩
   ·rw [bk]
    cases hg : o.guard with
    | none => rw [hg] at hch; exact hch
    | some p =>
     obtain ⟨jj, w⟩ := p
     rw [hg] at hch
     simp only [I6] at hch ⊢
     split at hch
     ·rename_i b hb
      rw [(hext.trans b2).e _ _ hb]
      exact hch
     ·cases hch
   ·obtain ⟨i, oi, g1, g2, g3, g4, g5⟩ := hp.p1 t x hx
    exact ⟨i, oi, g1, g2, g3, by rw [bi i g1]; exact g4, by rw [bi i g1]; exact g5⟩
   ·rw [bi i hi]; exact hp.p3 i hi hlt
   ·obtain ⟨g1, g2, g3, g4⟩ := hp.p4 x hx
    exact ⟨g1, g2, by rw [bi _ g1]; exact g3, by rw [bi _ g1]; exact g4⟩
section
variable {P : Program} {h0 : Hp} {w0 : World} {be : Nat → Nat} {oe : Nat → Value} {H : Hp} {h : Hp} {a : Act} {w : World}
def H08 (st : St) (be : Nat → Nat) (oe : Nat → Value) (h : Hp) (bs : List BE) (x : List (Nat × Bool) × L4) (v : Value) : Prop := cB bs x.1 = some true → Z00 st be oe h x.2 v
theorem g8 {L : FL} {st : St} {h : Hp} {bs : List BE} {ch : List (Nat × Bool)} {val : Nat → Value} {K : List (Nat × AV) → Prop} (hc : cB bs ch = some true) : ∀ {l : List Operand} {acc : List (Nat × AV)},
  (∀ t, Y0 st be oe (K1 acc t) (val t)) → (∀ t, Operand.tmp t ∈ l → (∀ x, D9 L t = some x → H08 st be oe h bs x (val t)) ∧ (D9 L t = none → Y0 st be oe (K1 st.fr t) (val t))) →
  e02 L st h ch l acc K → ∃ fr, K fr ∧ ∀ t, Y0 st be oe (K1 fr t) (val t)
 | [], acc, h1, h2, he => ⟨acc, he, h1⟩
 | .tmp t :: r, acc, h1, h2, he => by
  have h2r : ∀ u, Operand.tmp u ∈ r → _ := fun u hu => h2 u (List.mem_cons_of_mem _ hu)
  have hx := h2 t (List.mem_cons_self ..)
  have put : ∀ av, Y0 st be oe av (val t) → ∀ u, Y0 st be oe (K1 ((t, av) :: acc) u) (val u) := fun av g u => by
   rw [C2]
   split
   ·rename_i e; subst e; exact g
   ·exact h1 u
  simp only [e02] at he
  split at he
  ·rename_i ch2 f e
   split at he
   ·rename_i hs
    have hf := hx.1 _ e (d03 hs hc)
    cases f with
    | pu av => exact g8 hc (put av hf) h2r he
    | ef F => exact g8 hc (put (.val (val t)) rfl) h2r (he _ hf)
   ·exact he.elim
  ·rename_i e
   exact g8 hc (put _ (hx.2 e)) h2r he
 | .const v :: r, acc, h1, h2, he => g8 (l := r) hc h1 (fun u hu => h2 u (List.mem_cons_of_mem _ hu)) he
 | .global v :: r, acc, h1, h2, he => g8 (l := r) hc h1 (fun u hu => h2 u (List.mem_cons_of_mem _ hu)) he
 | .func v :: r, acc, h1, h2, he => g8 (l := r) hc h1 (fun u hu => h2 u (List.mem_cons_of_mem _ hu)) he
theorem J07 {st : St} {val : Nat → Value} {K : List (Nat × AV) → Prop} : ∀ {L : FL} {fr : List (Nat × AV)}, (∀ p ∈ L, p.2.1 = [] → Z00 st be oe h p.2.2 (val p.1)) →
  (∀ t, (∀ x, (t, x) ∉ L) → Y0 st be oe (K1 fr t) (val t)) → t08 h L fr K → ∃ fr, K fr ∧ ∀ t, Y0 st be oe (K1 fr t) (val t)
 | [], fr, h1, h2, he => ⟨fr, he, fun t => h2 t (by simp)⟩
 | (d, ch, f) :: r, fr, h1, h2, he => by
  have step : ∀ av, Y0 st be oe av (val d) → t08 h r ((d, av) :: fr) K → ∃ fr, K fr ∧ ∀ t, Y0 st be oe (K1 fr t) (val t) := fun av g he =>
   J07 (L := r) (fr := (d, av) :: fr) (fun p hp => h1 p (List.mem_cons_of_mem _ hp)) (fun t ht => by
    rw [C2]
    split
    ·rename_i e; subst e; exact g
    ·rename_i hne
     exact h2 t fun x hx => by
      rcases List.mem_cons.1 hx with e | hx
      ·cases e; exact hne rfl
      ·exact ht x hx) he
  cases ch with
  | nil =>
   have hf := h1 (d, [], f) (List.mem_cons_self ..) rfl
   cases f with
   | pu av => exact step av hf he
   | ef F => exact step (.val (val d)) rfl (he _ hf)
  | cons p q =>
   refine step .dead trivial ?_
   cases f <;> exact he
theorem c0e {st : St} {L : FL} {bs : List BE} {ch : List (Nat × Bool)} {o : Oper} {av : AV} (hp : s09 P L bs ch o st = some av) (hc : cB bs ch = some true)
  (hv : ∀ t, (∀ x, D9 L t = some x → H08 st be oe h bs x (a.tmps.getD t undef)) ∧ (D9 L t = none → Y0 st be oe (K1 st.fr t) (a.tmps.getD t undef)) ∨ Operand.tmp t ∉ o.op.operands)
  (ht : ∀ x ∈ bs, ∀ y, D9 L x.d = some y → y = (x.ch, .pu (.val (.bool x.e)))) (hj : ∀ x ∈ bs, H8 bs x.j = some x) (hbsL : ∀ x ∈ bs, ∃ y, D9 L x.d = some y)
  (hg : ∀ {fr : List (Nat × AV)}, (∀ t, Y0 st be oe (K1 fr t) (a.tmps.getD t undef)) → Sim P h0 w0 be oe H { st with fr := fr } h a w) {Q : Exit → Act → World → Prop} :
  o.wp P a w (fun a' w' => ∃ v be' oe' H', a' = a.put o.dst v ∧ (∃ fr, Sim P h0 w0 be' oe' H' { st with fr := fr } h a w') ∧ K4 st be oe st be' oe' ∧ Y0 st be' oe' av v) Q := by
 have s0 : Sim P h0 w0 be oe H { st with fr := [] } h a w := hg (fun t => trivial)
 have rd : ∀ (x : Operand) (ch2 : List (Nat × Bool)), cB bs ch2 = some true → (∀ t, x = .tmp t → Operand.tmp t ∈ o.op.operands) → Y0 st be oe (rdU L st ch2 x) (a.eval x) := by
  intro x ch2 hc2 hx
  cases x with
  | tmp t =>
   have hvt := (hv t).resolve_right (fun hn => hn (hx t rfl))
   simp only [rdU]
   split
   ·rename_i ch3 A e
    split
    ·rename_i hs
     have := hvt.1 _ e (d03 hs hc2)
     have g : Y0 st be oe A (a.tmps.getD t undef) := this
     have g2 := s0.rdA (Y0.fr (st := st) (fr := []) g)
     have e2 : rdA { st with fr := [] } A = rdA st A := by obtain ⟨n, fr, bx, ow⟩ := st; cases A <;> rfl
     rw [e2] at g2
     exact Y0.fr (st := { st with fr := [] }) (fr := st.fr) g2
    ·trivial
   ·trivial
   ·rename_i e
    have g := hvt.2 e
    have g2 := s0.rdA (Y0.fr (st := st) (fr := []) g)
    have e2 : rdA { st with fr := [] } (K1 st.fr t) = rdA st (K1 st.fr t) := by obtain ⟨n, fr, bx, ow⟩ := st; cases K1 fr t <;> rfl
    rw [e2] at g2
    exact Y0.fr (st := { st with fr := [] }) (fr := st.fr) g2
  | const v => exact rfl
  | global v => trivial
  | func v => exact rfl
 have done : ∀ {v : Value}, (∀ w', (execOp a.eval o).run P w' = .ok (.value v) w' ∨ ¬ Vis H w') → Y0 st be oe av v → o.wp P a w (fun a' w' => ∃ v be' oe' H', a' = a.put o.dst v ∧ (∃ fr, Sim P h0 w0 be' oe' H' { st with fr := fr } h a w') ∧ K4 st be oe st be' oe' ∧ Y0 st be' oe' av v) Q := fun {v} hr g =>
  J6 ((hr w).resolve_right fun hn => hn s0.mv.vis) ⟨v, be, oe, H, rfl, ⟨[], s0⟩, K4.refl _ _ _, g⟩
 unfold s09 at hp
 split at hp
 ·rename_i x hx
  have g := rd x ch hc (fun t e => by rw [hx]; simp [Op.operands, e])
  refine done (v := a.eval x) (fun w' => .inl (by unfold execOp; rw [hx]; rfl)) ?_
  revert hp
  cases hr : rdU L st ch x <;> intro hp <;> first | (cases hp; done) | (cases hp; rw [hr] at g; exact g)
 ·rename_i x hx
  have g := rd x ch hc (fun t e => by rw [hx]; simp [Op.operands, e])
  refine done (v := a.eval x) (fun w' => .inl (by unfold execOp; rw [hx]; rfl)) ?_
  revert hp
  cases hr : rdU L st ch x <;> intro hp <;> first | (cases hp; done) | (cases hp; rw [hr] at g; exact g)
 ·rename_i t x hx
  have g := rd x ch hc (fun t e => by rw [hx]; simp [Op.operands, e])
  split at hp
  ·rename_i i off hr
   rw [hr] at g
   split at hp
   ·rename_i cs ty hn
    have hxt : ∃ u, x = .tmp u := by
     cases x with
     | tmp u => exact ⟨u, rfl⟩
     | const v => simp [rdU, rdO] at hr
     | global v => simp [rdU, rdO] at hr
     | func v => simp [rdU, rdO] at hr
    obtain ⟨u, rfl⟩ := hxt
    have he : I5 P o { st with fr := [(u, .box i off)] } h fun av' st' h' => av' = av ∧ st' = { st with fr := [(u, .box i off)] } ∧ h' = h := by
     have hrd : rdO { st with fr := [(u, .box i off)] } (.tmp u) = .box i off := by
      show rdA _ (K1 [(u, AV.box i off)] u) = _
      rw [C2, if_pos rfl]
      simp only [rdA, hn]
     simp only [I5, hx, hrd, hn]
     unfold h06 at hp
     unfold n00
     cases hA : m08 P t with
     | none => rw [hA] at hp; cases hp
     | some bb =>
      rw [hA] at hp
      cases bb with
      | true =>
       cases hT : c4 P t with
       | none => rw [hT] at hp; cases hp
       | some m =>
        rw [hT] at hp
        simp only at hp ⊢
        split at hp
        ·rename_i hB
         cases hp
         rw [hB]
         simp
        ·cases hp
      | false =>
       simp only at hp ⊢
       split at hp
       ·rename_i cc hN
        cases hp
        rw [hN]
        simp
       ·cases hp
    have s1 := hg (fr := [(u, .box i off)]) (fun u' => by
     rw [C2]
     split
     ·rename_i e; subst e; exact g
     ·trivial)
    refine Oper.wp_mono (fun a' w' hx => ?_) (D7 s1 he)
    obtain ⟨av', st', h'', v, be', oe', H', ⟨e1, e2, e3⟩, ha, s2, g2, gr⟩ := hx
    rw [e2, e3] at s2
    rw [e1, e2] at g2
    rw [e2] at gr
    exact ⟨v, be', oe', H', ha, ⟨_, s2⟩, ⟨gr.bl, gr.be, gr.sm⟩, Y0.fr (st := { st with fr := [(u, .box i off)] }) (fr := st.fr) g2⟩
   ·cases hp
  ·cases hp
 ·rename_i t x k hx
  have g := rd x ch hc (fun t e => by rw [hx]; simp [Op.operands, e])
  split at hp
  ·rename_i i off fo hr htf
   rw [hr] at g
   cases hp
   refine done (v := ptr (be i) (off + fo)) (fun w' => ?_) ⟨g.1, rfl⟩
   by_cases hvis : Vis H w'
   ·exact .inl (R.run_of (R.exec_fieldAddr (H := H) hx htf g.2) w' hvis)
   ·exact .inr hvis
  ·rename_i sl j sz kk fo hr htf
   rw [hr] at g
   cases hp
   obtain ⟨b, o', n, cp, e1, e2⟩ := g
   refine done (v := ptr b (o' + (j.toNat * sz + kk) + fo)) (fun w' => ?_) ⟨b, o', n, cp, e1, by simp [Nat.add_assoc]⟩
   by_cases hvis : Vis H w'
   ·exact .inl (R.run_of (R.exec_fieldAddr (H := H) hx htf e2) w' hvis)
   ·exact .inr hvis
  ·cases hp
 ·rename_i s x y hx
  have g := rd (.tmp s) ch hc (fun t e => by rw [hx]; cases e; simp [Op.operands])
  split at hp
  ·rename_i e q hs hq
   rw [hs] at g
   have ge : a.eval (.tmp s) = .bool e := g
   split at hp
   ·rename_i hsf
    obtain ⟨hm, hqd⟩ := U04 hq
    have hqc := d03 hsf hc
    have hqe : q.e = e := by
     have hrd : rdU L st ch (.tmp s) = .val (.bool e) := hs
     obtain ⟨y0, hl⟩ := hbsL q hm
     have hy := ht q hm y0 hl
     rw [hy] at hl
     rw [hqd] at hl
     simp only [rdU, hl, hsf, Go.H.rdA] at hrd
     cases hrd; rfl
    have hlk := hj q hm
    split at hp
    ·rename_i bx by_ hx1 hy1
     cases hp
     refine done (v := .bool (cond e bx by_)) (fun w' => .inl ?_) rfl
     unfold execOp; rw [hx]
     simp only [ge, Sem.run_bind, asBool, Sem.run_pure, Result.andThen_ok]
     cases e with
     | true =>
      have hch : cB bs ((q.j, true) :: q.ch) = some true := by
       rw [j00, hlk, hqc]; simp [lit, hqe]
      have g4 := rd x _ hch (fun t e => by rw [hx]; simp [Op.operands, e])
      rw [hx1] at g4
      have g5 : a.eval x = .bool bx := g4
      simp [g5]
     | false =>
      have hch : cB bs ((q.j, false) :: q.ch) = some true := by
       rw [j00, hlk, hqc]; simp [lit, hqe]
      have g4 := rd y _ hch (fun t e => by rw [hx]; simp [Op.operands, e])
      rw [hy1] at g4
      have g5 : a.eval y = .bool by_ := g4
      simp [g5]
    ·cases hp
   ·cases hp
  ·cases hp
 ·cases hp
theorem Sim.untail {st : St} {t : List Own} (s : Sim P h0 w0 be oe H { st with ow := st.ow ++ t } h a w) (hf : ∀ u, Y0 st be oe (K1 st.fr u) (a.tmps.getD u undef))
  (hb : ∀ i cs ty, nth st.bx i = some (.live cs ty) → ∃ vs, T0 st oe cs vs ∧ H (be i) = some (.cells vs.toArray ty (0, 0))) : Sim P h0 w0 be oe H st h a w := by
 have up : ∀ i o, nth st.ow i = some o → nth (st.ow ++ t) i = some o := fun i o hi => by
  rw [X00] at hi ⊢
  rw [List.getElem?_append_left (List.getElem?_eq_some_iff.1 hi).1]
  exact hi
 refine ⟨s.mv, s.sub, fun i cs ty hi => ⟨(s.box i cs ty hi).1, hb i cs ty hi⟩, s.pub, fun i s' e sz by_ nn xs hi => s.own i s' e sz by_ nn xs (up i _ hi), fun i s' v hi => s.frz i s' v (up i _ hi), s.bb,
  fun i j s1 e sz by_ nn xs s2 e' sz' by' nn' xs' g hi hj => s.oo i j s1 e sz by_ nn xs s2 e' sz' by' nn' xs' g (up i _ hi) (up j _ hj), fun i cs ty j s1 e sz by_ nn xs hi hj => s.bo i cs ty j s1 e sz by_ nn xs hi (up j _ hj), s.dfr, s.siz, hf⟩
def Z04 (P : Program) (h0 : Hp) (w0 : World) (ops : Array Oper) (st : St) (h : Hp) (A : Asg) (listed : Array Bool) (a : Act) (w : World) : Prop :=
 ∃ be oe H h', Sub h h' ∧ Sim P h0 w0 be oe H { st with fr := O2 ops.toList st.fr } h' a w ∧
  ∀ j o d, ops[j]? = some o → o.dst = some d → listed.getD j false = true → ((A j).2.1 = true → Z00 st be oe h' (A j).2.2 (a.tmps.getD d undef)) ∧ ((A j).2.1 = false → a.tmps.getD d undef = undef)
theorem g0f {st st' : St} (t : I0a st st') : ∃ r, st' = { st with ow := st.ow ++ r } := by
 obtain ⟨n, fr, bx, ow⟩ := st
 obtain ⟨n', fr', bx', ow'⟩ := st'
 obtain ⟨h1, h2, h3, r, h4⟩ := t
 simp only at h1 h2 h3 h4
 subst h1 h2 h3 h4
 exact ⟨r, rfl⟩
theorem h0f {α : Type} {l r : List α} {i : Nat} (hi : i < l.length) : nth (l ++ r) i = nth l i := by
 rw [X00, X00, List.getElem?_append_left hi]
theorem K07 {st : St} {r : List Own} {i s : Nat} (hs : stamp st i = some s) : stamp { st with ow := st.ow ++ r } i = some s := by
 unfold stamp at hs ⊢
 cases hn : nth st.ow i with
 | none => rw [hn] at hs; cases hs
 | some o => rw [hn] at hs; rw [h0f (K8 hn), hn]; exact hs
theorem P0g {ops : Array Oper} {st : St} {A : Asg} {Lf : FL} {Bf : List BE} {listed : Array Bool} {j : Nat} {o : Oper} {Q : Exit → Act → World → Prop}
  (hD : ∀ (i j : Nat) (oi oj : Oper) (d : Nat), ops.toList[i]? = some oi → ops.toList[j]? = some oj → oi.dst = some d → oj.dst = some d → i = j)
  (hn : ∀ o ∈ ops.toList, ∀ d, o.dst = some d → d < st.n)
  (hB : ∀ (k : Nat) (o : Oper), ops.toList[k]? = some o → ∀ e ∈ o.after, Region.binds .any e = true → e.on < k)
  (hdep : ∀ o ∈ ops.toList, ∀ t, Operand.tmp t ∈ o.op.operands → ∀ (i : Nat) (oi : Oper), ops.toList[i]? = some oi → oi.dst = some t → ∃ e ∈ o.after, Region.binds .any e = true ∧ e.on = i)
  (hgd : ∀ o ∈ ops.toList, ∀ i w, o.guard = some (i, w) → F9 i o = true)
  (hP : Q0a ops.toList A Lf Bf ops.toList.length)
  (hall : ∀ j o, ops.toList[j]? = some o → ∃ Lj bj, I6 Bf o.guard = some (A j).1 ∧ Q0a ops.toList A Lj bj j ∧ C03 bj Bf ∧ cB bj (A j).1 = some (A j).2.1 ∧ OpU P st h Lj bj o (A j).1 (A j).2.1 (A j).2.2)
  (ho : ops[j]? = some o) (hrd : ∀ e ∈ o.after, Region.binds .any e = true → listed.getD e.on false = true) (hi : Z04 P h0 w0 ops st h A listed a w) :
  (Region.wanted o (yielded ops a.tmps) = true → o.wp P a w (Z04 P h0 w0 ops st h A (listed.setIfInBounds j true)) Q) ∧
  (Region.wanted o (yielded ops a.tmps) = false → Z04 P h0 w0 ops st h A (listed.setIfInBounds j true) (a.put o.dst undef) w) := by
 obtain ⟨be, oe, H, h', hs, s, facts⟩ := hi
 have hoL : ops.toList[j]? = some o := by simpa using ho
 have hmem : o ∈ ops.toList := List.mem_of_getElem? hoL
 have hjlt : j < ops.toList.length := (List.getElem?_eq_some_iff.1 hoL).1
 obtain ⟨Lj, bj, hch, hpj, hxj, hcj, hop⟩ := hall j o hoL
 have hcf : cB Bf (A j).1 = some (A j).2.1 := hP.p3 j hjlt hjlt
 have hw : Region.wanted o (yielded ops a.tmps) = (A j).2.1 := by
  unfold Region.wanted
  cases hg : o.guard with
  | none =>
   rw [hg] at hch
   cases hch' : (A j).1 with
   | nil => rw [hch'] at hcf; exact Option.some.inj hcf
   | cons p q => rw [hch'] at hch; cases hch
  | some p =>
   obtain ⟨i, wv⟩ := p
   rw [hg] at hch
   simp only [I6] at hch
   split at hch
   ·rename_i b hb
    obtain ⟨hm, rfl⟩ := H9 hb
    obtain ⟨g1, ⟨o', g2, g3⟩, g4, g5⟩ := hP.p4 b hm
    have hl : listed.getD b.j false = true := by
     obtain ⟨e, he, hb', hon⟩ := b8 (hgd o hmem b.j wv hg)
     rw [← hon]; exact hrd e he hb'
    have hf := facts b.j o' b.d (by simpa using g2) g3 hl
    have hc3 := hP.p3 b.j g1 g1
    rw [g4] at hc3
    have hlt : b.d < a.tmps.size := by rw [s.siz]; exact hn o' (List.mem_of_getElem? g2) b.d g3
    have hv : a.tmps[b.d]? = some (if (A b.j).2.1 = true then .bool b.e else undef) := by
     rw [Array.getElem?_eq_getElem hlt]
     have hgd' : a.tmps.getD b.d undef = a.tmps[b.d] := by simp [hlt]
     cases hc : (A b.j).2.1 with
     | true =>
      have := hf.1 hc
      rw [g5, hgd'] at this
      have h2 : a.tmps[b.d] = .bool b.e := this
      rw [h2]; rfl
     | false =>
      have := hf.2 hc
      rw [hgd'] at this
      rw [this]; rfl
    have hy : yielded ops a.tmps b.j = if (A b.j).2.1 = true then some b.e else none := by
     unfold yielded
     have : ops[b.j]? = some o' := by simpa using g2
     simp only [this, g3, Option.bind_some, hv]
     cases (A b.j).2.1 <;> rfl
    have hchj : (A j).1 = (b.j, wv) :: b.ch := by
     have := Option.some.inj hch
     exact this.symm
    rw [hchj, j00, hb, hc3] at hcf
    simp only [Option.some.injEq] at hcf
    simp only [hy, ← hcf]
    cases (A b.j).2.1 <;> cases wv <;> cases b.e <;> rfl
   ·cases hch
 have stab : ∀ i oi, ops.toList[i]? = some oi → ∀ F, (A i).2.2 = .ef F → ∀ v h1 h2, Sub h1 h2 → F v h1 → F v h2 := fun i oi hoi F hF => by
  obtain ⟨Li, bi, _, _, _, _, hopi⟩ := hall i oi hoi
  rw [hF] at hopi
  exact hopi.1
 have fin : ∀ {fr : List (Nat × AV)} {a' : Act} {w' : World} {h'' : Hp} {be' : Nat → Nat} {oe' : Nat → Value} {H' : Hp} {v : Value}, Sub h' h'' → a' = a.put o.dst v → Sim P h0 w0 be' oe' H' { st with fr := fr } h'' a w' →
   K4 st be oe st be' oe' → ((A j).2.1 = true → Z00 st be' oe' h'' (A j).2.2 v) → ((A j).2.1 = false → v = undef) → Z04 P h0 w0 ops st h A (listed.setIfInBounds j true) a' w' := by
  intro fr a' w' h'' be' oe' H' v hss ha s' gr2 hv hv2
  subst ha
  have gr' : K4 { st with fr := O2 ops.toList st.fr } be oe { st with fr := O2 ops.toList st.fr } be' oe' := ⟨gr2.bl, gr2.be, gr2.sm⟩
  have s1 : Sim P h0 w0 be' oe' H' { st with fr := O2 ops.toList st.fr } h'' a w' :=
   s'.refr (fr := O2 ops.toList st.fr) fun t => Y0.fr (st := { st with fr := O2 ops.toList st.fr }) ((s.fr t).grow gr')
  have s2 : Sim P h0 w0 be' oe' H' { st with fr := O2 ops.toList st.fr } h'' (a.put o.dst v) w' := by
   cases hd : o.dst with
   | none => exact s1
   | some d =>
    have hp := s1.put (d := d) (av := .dead) (v := v) (hn o hmem d hd) trivial
    refine hp.refr (fr := O2 ops.toList st.fr) fun t => ?_
    have g := hp.fr t
    rw [C2] at g
    split at g
    ·rename_i e
     subst e
     rw [g9 hmem hd]
     trivial
    ·exact g
  refine ⟨be', oe', H', h'', fun b x hb => hss b x (hs b x hb), s2, fun i oi d h1 h2 h3 => ?_⟩
  by_cases hij : j = i
  ·subst hij
   rw [ho] at h1; cases h1
   have hlt : d < a.tmps.size := by rw [s.siz]; exact hn o hmem d h2
   have : (a.put o.dst v).tmps.getD d undef = v := by
    rw [h2]
    simp [Act.put, hlt]
   rw [this]
   exact ⟨hv, hv2⟩
  ·have hl0 : listed.getD i false = true := by rw [getD_set_ne false hij] at h3; exact h3
   have hne : ∀ d', o.dst = some d' → d' ≠ d := fun d' hd' e => by
    subst e
    exact hij (hD j i o oi d' hoL (by simpa using h1) hd' h2)
   have : (a.put o.dst v).tmps.getD d undef = a.tmps.getD d undef := by
    cases hd : o.dst with
    | none => rfl
    | some d' => simp [Act.put, Array.getElem?_setIfInBounds_ne (hne d' hd)]
   rw [this]
   obtain ⟨old, old2⟩ := facts i oi d h1 h2 hl0
   refine ⟨fun hc => ?_, old2⟩
   have old := old hc
   cases hA : (A i).2.2 with
   | pu av => rw [hA] at old; exact Y0.grow gr2 old
   | ef F => rw [hA] at old; exact stab i oi (by simpa using h1) F hA _ _ _ hss old
 refine ⟨fun hwt => ?_, fun hwf => ?_⟩
 rotate_left
 ·have hc : (A j).2.1 = false := by rw [← hw]; exact hwf
  exact fin (fr := O2 ops.toList st.fr) (fun _ _ h => h) rfl s (K4.refl _ _ _) (fun h => by rw [hc] at h; cases h) (fun _ => rfl)
 have hc : (A j).2.1 = true := by rw [← hw]; exact hwt
 rw [hc] at hcj hop
 have hcf' : cB Bf (A j).1 = some true := by rw [hcf, hc]
 have slot : ∀ t x, D9 Lj t = some x → H08 st be oe h' bj x (a.tmps.getD t undef) ∨ Operand.tmp t ∉ o.op.operands := fun t x hx => by
  by_cases ht : Operand.tmp t ∈ o.op.operands
  ·refine .inl fun hcx => ?_
   obtain ⟨i, oi, g1, g2, g3, g4, g5⟩ := hpj.p1 t x (r01 hx)
   obtain ⟨e, he, hb, hon⟩ := hdep o hmem t ht i oi g2 g3
   have hl : listed.getD i false = true := by rw [← hon]; exact hrd e he hb
   have hci : (A i).2.1 = true := by
    have h1 := hP.p3 i (List.getElem?_eq_some_iff.1 g2).1 (List.getElem?_eq_some_iff.1 g2).1
    rw [g4, hxj.c _ _ hcx] at h1
    exact (Option.some.inj h1).symm
   have := (facts i oi t (by simpa using g2) g3 hl).1 hci
   rwa [g5] at this
  ·exact .inr ht
 have free : ∀ t, Operand.tmp t ∈ o.op.operands → D9 Lj t = none → Y0 st be oe (K1 st.fr t) (a.tmps.getD t undef) := fun t ht hno => by
  have g := s.fr t
  have hmiss : K1 (O2 ops.toList st.fr) t = K1 st.fr t := Q6 fun o' ho' hd => by
   obtain ⟨i, hi, e⟩ := List.getElem_of_mem ho'
   have hoi : ops.toList[i]? = some o' := by rw [List.getElem?_eq_getElem hi, e]
   obtain ⟨ed, he, hb, hon⟩ := hdep o hmem t ht i o' hoi hd
   have hlt := hB j o hoL ed he hb
   rw [hon] at hlt
   obtain ⟨x, hx⟩ := hpj.p2 i o' t hlt hoi hd
   rw [hno] at hx; cases hx
  rw [← hmiss]
  exact Y0.fr (st := { st with fr := O2 ops.toList st.fr }) (fr := st.fr) g
 have opnd : ∀ t, Operand.tmp t ∈ o.op.operands → (∀ x, D9 Lj t = some x → H08 st be oe h' bj x (a.tmps.getD t undef)) ∧ (D9 Lj t = none → Y0 st be oe (K1 st.fr t) (a.tmps.getD t undef)) := fun t ht =>
  ⟨fun x hx => (slot t x hx).resolve_right fun hn => hn ht, free t ht⟩
 have mk : ∀ {fr : List (Nat × AV)}, (∀ t, Y0 st be oe (K1 fr t) (a.tmps.getD t undef)) → Sim P h0 w0 be oe H { st with fr := fr } h' a w := fun {fr} g => s.refr (fr := fr) fun t => Y0.fr (g t)
 cases hA : (A j).2.2 with
 | pu av =>
  rw [hA] at hop
  rcases hop with hop | hop
  ·refine Oper.wp_mono (fun a' w' hx => ?_) (c0e (be := be) (oe := oe) (H := H) (h := h') hop hcj (fun t => ?_) (fun x hx y hy => ?_) (fun x hx => ?_) (fun x hx => ?_) mk)
   ·obtain ⟨v, be', oe', H', ha, ⟨fr, s2⟩, gr, g2⟩ := hx
    exact fin (fun _ _ h => h) ha s2 gr (fun _ => by rw [hA]; exact g2) (fun h => by rw [hc] at h; cases h)
   ·by_cases ht : Operand.tmp t ∈ o.op.operands
    ·exact .inl (opnd t ht)
    ·exact .inr ht
   ·obtain ⟨g1, ⟨o', g2, g3⟩, g4, g5⟩ := hpj.p4 x hx
    obtain ⟨i, oi, k1, k2, k3, k4, k5⟩ := hpj.p1 x.d y (r01 hy)
    have : i = x.j := hD i x.j oi o' x.d k2 g2 k3 g3
    subst this
    exact Prod.ext (k4.symm.trans g4) (k5.symm.trans g5)
   ·have key : ∀ (l : List BE), x ∈ l → ∃ b, H8 l x.j = some b := by
     intro l
     induction l with
     | nil => intro h; cases h
     | cons z l ih =>
      intro h
      simp only [H8]
      split
      ·exact ⟨_, rfl⟩
      ·rename_i hb
       rcases List.mem_cons.1 h with rfl | h
       ·exact absurd rfl (Nat.ne_of_beq_eq_false hb)
       ·exact ih h
    obtain ⟨b, hb⟩ := key bj hx
    obtain ⟨hbm, hbj⟩ := H9 hb
    obtain ⟨_, ⟨o1, a1, a2⟩, a3, a4⟩ := hpj.p4 b hbm
    obtain ⟨_, ⟨o2, b1, b2⟩, b3, b4⟩ := hpj.p4 x hx
    rw [hbj] at a1 a3 a4
    rw [b1] at a1; cases a1
    rw [b2] at a2
    rw [b4] at a4
    have e1 : x.d = b.d := by simpa using a2
    have e2 : x.ch = b.ch := b3.symm.trans a3
    have e3 : x.e = b.e := by simpa using a4
    rw [hb]
    obtain ⟨bj', bd', be', bc'⟩ := b
    obtain ⟨xj', xd', xe', xc'⟩ := x
    simp only at hbj e1 e2 e3
    subst hbj e1 e2 e3
    rfl
   ·obtain ⟨g1, ⟨o', g2, g3⟩, _, _⟩ := hpj.p4 x hx
    exact hpj.p2 x.j o' x.d g1 g2 g3
  ·obtain ⟨fr, he, g⟩ := g8 (acc := []) (be := be) (oe := oe) (val := fun t => a.tmps.getD t undef) hcj (fun t => trivial) (fun t ht => opnd t (by simpa using ht)) (D02 (bs := bj) (hop h' hs) rfl)
   refine Oper.wp_mono (fun a' w' hx => ?_) (D7 (mk g) he)
   obtain ⟨av', st', h'', v, be', oe', H', ⟨rfl, rfl, rfl⟩, ha, s2, g2, gr⟩ := hx
   exact fin (fun _ _ h => h) ha s2 ⟨gr.bl, gr.be, gr.sm⟩ (fun _ => by rw [hA]; exact Y0.fr (st := { st with fr := fr }) (fr := st.fr) g2) (fun h => by rw [hc] at h; cases h)
 | ef F =>
  rw [hA] at hop
  obtain ⟨_, hop⟩ := hop
  obtain ⟨fr, he, g⟩ := g8 (acc := []) (be := be) (oe := oe) (val := fun t => a.tmps.getD t undef) hcj (fun t => trivial) (fun t ht => opnd t (by simpa using ht)) (D02 (bs := bj) (hop h' hs) rfl)
  refine Oper.wp_mono (fun a' w' hx => ?_) (D7 (mk g) he)
  obtain ⟨av', st', h'', v, be', oe', H', hk, ha, s2, g2, gr⟩ := hx
  obtain ⟨st2, h2, ⟨ht, k1, k2⟩, s3, gr3⟩ := d9 s2 g2 hk
  obtain ⟨r, rfl⟩ := g0f ht
  have gr4 : K4 st be oe st be' oe' := by
   have gx := gr.trans gr3
   refine ⟨gx.bl, gx.be, fun i s0 hs0 => ?_⟩
   obtain ⟨s1, q1, q2, q3⟩ := gx.sm i s0 hs0
   have q4 : stamp { n := st.n, fr := fr, bx := st.bx, ow := st.ow ++ r } i = some s0 := K07 (st := { st with fr := fr }) hs0
   rw [q4] at q1
   cases q1
   exact ⟨s0, hs0, Nat.le_refl _, fun _ => q3 rfl⟩
  have hbox : ∀ i cs ty, nth st.bx i = some (.live cs ty) → ∃ vs, T0 { st with fr := fr } oe' cs vs ∧ H' (be' i) = some (.cells vs.toArray ty (0, 0)) := fun i cs ty hi => by
   obtain ⟨_, vs0, q1, _⟩ := s.box i cs ty hi
   obtain ⟨_, vs, q3, q4⟩ := s3.box i cs ty hi
   refine ⟨vs, ?_, q4⟩
   have key : ∀ (cs : List L3) (vs0 vs : List Value), T0 { st with fr := O2 ops.toList st.fr } oe cs vs0 → T0 { n := st.n, fr := fr, bx := st.bx, ow := st.ow ++ r } oe' cs vs → T0 { st with fr := fr } oe' cs vs := by
    intro cs
    induction cs with
    | nil => intro vs0 vs _ g; cases vs with
     | nil => trivial
     | cons v vs => exact g.elim
    | cons c cs ih =>
     intro vs0 vs g0 g1
     cases vs0 with
     | nil => exact g0.elim
     | cons v0 vs0 =>
      cases vs with
      | nil => exact g1.elim
      | cons v1 vs =>
       refine ⟨?_, ih vs0 vs g0.2 g1.2⟩
       cases c with
       | val x => exact g1.1
       | own k s1 =>
        obtain ⟨t0, r1, _, _⟩ := g0.1
        obtain ⟨t1, r2, r3, r4⟩ := g1.1
        have r5 : stamp { n := st.n, fr := fr, bx := st.bx, ow := st.ow ++ r } k = some t0 := K07 (st := { st with fr := fr }) r1
        rw [r5] at r2
        cases r2
        exact ⟨t0, r1, r3, r4⟩
   exact key cs vs0 vs q1 q3
  have s4 : Sim P h0 w0 be' oe' H' { st with fr := fr } h2 a w' := Sim.untail (st := { st with fr := fr }) (t := r) s3 (fun u => Y0.grow (st := { st with fr := fr }) (st' := { st with fr := fr }) ⟨gr4.bl, gr4.be, gr4.sm⟩ (Y0.fr (g u))) hbox
  exact fin (fr := fr) k1 ha s4 gr4 (fun _ => by rw [hA]; exact k2) (fun h => by rw [hc] at h; cases h)
theorem Z04.start {ops : Array Oper} {st : St} {A : Asg} (s : Sim P h0 w0 be oe H st h a w) : Z04 P h0 w0 ops st h A (Array.replicate ops.size false) a w := by
 refine ⟨be, oe, H, h, fun _ _ h => h, s.refr (fr := O2 ops.toList st.fr) fun t => ?_, fun j o d h1 h2 h3 => ?_⟩
 ·by_cases hx : ∃ o ∈ ops.toList, o.dst = some t
  ·obtain ⟨o, h1, h2⟩ := hx
   rw [g9 h1 h2]
   trivial
  ·rw [Q6 fun o ho hd => hx ⟨o, ho, hd⟩]
   exact s.fr t
 ·simp [Array.getElem?_replicate] at h3
  split at h3 <;> cases h3
theorem i0f {ops : Array Oper} {st : St} {A : Asg} {Lf : FL} {Bf : List BE} {K : St → Hp → Prop} {Q : Exit → Act → World → Prop} {listed : Array Bool}
  (hP : Q0a ops.toList A Lf Bf ops.toList.length) (hfin : ∀ h', Sub h h' → t08 h' Lf st.fr fun fr => K { st with fr := fr } h') (hl : ∀ j, j < ops.size → listed.getD j false = true)
  (hQ : ∀ a w st h be oe H, K st h → Sim P h0 w0 be oe H st h a w → Q .normal a w) (hi : Z04 P h0 w0 ops st h A listed a w) : Q .normal a w := by
 obtain ⟨be, oe, H, h', hs, s, facts⟩ := hi
 obtain ⟨fr, hk, g⟩ := J07 (st := st) (be := be) (oe := oe) (val := fun t => a.tmps.getD t undef) (fun p hp hch => by
  obtain ⟨t, x⟩ := p
  obtain ⟨i, oi, h0, h1, h2, h3, h4⟩ := hP.p1 t x hp
  have hc : (A i).2.1 = true := by
   have := hP.p3 i h0 h0
   rw [h3, show x.1 = [] from hch] at this
   exact (Option.some.inj this).symm
  have := (facts i oi t (by simpa using h1) h2 (hl i (by simpa using h0))).1 hc
  rwa [h4] at this) (fun t ht => by
  have hmiss : K1 (O2 ops.toList st.fr) t = K1 st.fr t := Q6 fun o' ho' hd => by
   obtain ⟨i, hi, e⟩ := List.getElem_of_mem ho'
   obtain ⟨x, hx⟩ := hP.p2 i o' t hi (by rw [List.getElem?_eq_getElem hi, e]) hd
   exact ht x (r01 hx)
  have := s.fr t
  rw [hmiss] at this
  exact Y0.fr (st := { st with fr := O2 ops.toList st.fr }) (fr := st.fr) this) (hfin h' hs)
 exact hQ a w _ h' be oe H hk (s.refr (fr := fr) fun t => Y0.fr (g t))
theorem k04 : ∀ {l : List Oper}, U05 l = true → ∀ o ∈ l, ∀ i w, o.guard = some (i, w) → F9 i o = true
 | [], h, o, ho => by cases ho
 | y :: r, h, o, ho => by
  simp only [U05, Bool.and_eq_true] at h
  rcases List.mem_cons.1 ho with rfl | ho
  ·intro i w hg
   have := h.1
   rw [hg] at this
   exact this
  ·exact k04 h.2 o ho
theorem Q0g {ops : Array Oper} {Q : Exit → Act → World → Prop} {Inv : Array Bool → Act → World → Prop} (hB : ∀ (k : Nat) (o : Oper), ops.toList[k]? = some o → ∀ e ∈ o.after, Region.binds .any e = true → e.on < k)
  (hstep : ∀ listed a w j o, ops[j]? = some o → (∀ e ∈ o.after, Region.binds .any e = true → listed.getD e.on false = true) → Inv listed a w →
   (Region.wanted o (yielded ops a.tmps) = true → o.wp P a w (Inv (listed.setIfInBounds j true)) Q) ∧ (Region.wanted o (yielded ops a.tmps) = false → Inv (listed.setIfInBounds j true) (a.put o.dst undef) w))
  (hQ : ∀ listed a w, (∀ j, j < ops.size → listed.getD j false = true) → Inv listed a w → Q .normal a w) :
  ∀ (fuel : Nat) (listed : Array Bool) (a : Act) (w : World), listed.size = ops.size → listed.toList.count true + fuel = ops.size → Inv listed a w → wpAny P .any ops Q fuel listed a w
 | 0, listed, a, w, hsz, hc, hi => by
  have hall' : ∀ j, j < ops.size → listed.getD j false = true := fun j hj => by
   have h1 : ∀ b ∈ listed.toList, true = b := List.count_eq_length.1 (by simp only [Array.length_toList]; omega)
   have hlt : j < listed.size := by omega
   have := h1 listed[j] (by simp)
   simp [hlt, ← this]
  refine ⟨?_, hQ listed a w hall' hi⟩
  cases hr : Region.ready .any ops listed with
  | nil => rfl
  | cons j r =>
   have hj : j ∈ Region.ready .any ops listed := by rw [hr]; exact List.mem_cons_self ..
   obtain ⟨h1, o, h2, _⟩ := mem_ready.1 hj
   have hlt : j < ops.size := (Array.getElem?_eq_some_iff.1 h2).1
   have := hall' j hlt
   have hlt' : j < listed.size := by omega
   simp [hlt'] at this h1
   rw [this] at h1; cases h1
 | fuel + 1, listed, a, w, hsz, hc, hi => by
  refine ⟨fun hr => hQ listed a w (X04 hB hsz hr) hi, fun j hj => ?_⟩
  obtain ⟨h1, o, h2, h3⟩ := mem_ready.1 hj
  unfold wpOp
  simp only [h2]
  obtain ⟨ht, hf⟩ := hstep listed a w j o h2 h3 hi
  have next : ∀ a' w', Inv (listed.setIfInBounds j true) a' w' → wpAny P .any ops Q fuel (listed.setIfInBounds j true) a' w' := fun a' w' hi' => Q0g hB hstep hQ fuel _ a' w' (by simpa using hsz) (by rw [count_set h1]; omega) hi'
  cases hw : Region.wanted o (yielded ops a.tmps) with
  | true =>
   rw [if_pos rfl]
   exact .inl (Oper.wp_mono next (ht hw))
  | false =>
   rw [if_neg (by simp)]
   exact next _ _ (hf hw)
theorem M0f {ops : Array Oper} {Q : Exit → Act → World → Prop} {Inv : Array Bool → Act → World → Prop} (hB : ∀ (k : Nat) (o : Oper), ops.toList[k]? = some o → ∀ e ∈ o.after, Region.binds .any e = true → e.on < k)
  (hstep : ∀ listed a w j o, ops[j]? = some o → (∀ e ∈ o.after, Region.binds .any e = true → listed.getD e.on false = true) → Inv listed a w →
   (Region.wanted o (yielded ops a.tmps) = true → o.wp P a w (Inv (listed.setIfInBounds j true)) Q) ∧ (Region.wanted o (yielded ops a.tmps) = false → Inv (listed.setIfInBounds j true) (a.put o.dst undef) w))
  (hQ : ∀ listed a w, (∀ j, j < ops.size → listed.getD j false = true) → Inv listed a w → Q .normal a w) :
  ∀ (l : List Oper) (k : Nat) (listed : Array Bool) (a : Act) (w : World), (∀ j, l[j]? = ops.toList[k + j]?) → k + l.length = ops.size → listed.size = ops.size → (∀ j, j < k → listed.getD j false = true) → Inv listed a w → wpList P ops Q l a w
 | [], k, listed, a, w, hl, hk, hsz, hp, hi => hQ listed a w (fun j hj => hp j (by simp at hk; omega)) hi
 | o :: l, k, listed, a, w, hl, hk, hsz, hp, hi => by
  have ho : ops.toList[k]? = some o := by simpa using (hl 0).symm
  have hl' : ∀ j, l[j]? = ops.toList[k + 1 + j]? := fun j => by have := hl (j + 1); simpa [Nat.add_assoc, Nat.add_comm 1 j] using this
  obtain ⟨ht, hf⟩ := hstep listed a w k o (by simpa using ho) (fun e he hb => hp _ (hB k o ho e he hb)) hi
  have next : ∀ a' w', Inv (listed.setIfInBounds k true) a' w' → wpList P ops Q l a' w' := fun a' w' hi' =>
   M0f hB hstep hQ l (k + 1) _ a' w' hl' (by simp only [List.length_cons] at hk; omega) (by simpa using hsz) (fun j hj => by
    by_cases e : k = j
    ·subst e
     have : k < listed.size := by simp only [List.length_cons] at hk; omega
     simp [this]
    ·rw [getD_set_ne false e]; exact hp j (by omega)) hi'
  unfold wpList
  cases hw : Region.wanted o (yielded ops a.tmps) with
  | true =>
   rw [if_pos rfl]
   exact .inl (Oper.wp_mono next (ht hw))
  | false =>
   rw [if_neg (by simp)]
   exact next _ _ (hf hw)
theorem K09 {ops : Array Oper} {st : St} {K : St → Hp → Prop} {Q : Exit → Act → World → Prop} (hb : H00 st.n ops.toList = true) (he : evU P ops.toList 0 [] [] st h K)
  (hQ : ∀ a w st h be oe H, K st h → Sim P h0 w0 be oe H st h a w → Q .normal a w) :
  (∀ {be : Nat → Nat} {oe : Nat → Value} {H : Hp} {a : Act} {w : World}, Sim P h0 w0 be oe H st h a w → wpAny P .any ops Q ops.size (Array.replicate ops.size false) a w) ∧
  (∀ {be : Nat → Nat} {oe : Nat → Value} {H : Hp} {a : Act} {w : World}, Sim P h0 w0 be oe H st h a w → wpList P ops Q ops.toList a w) := by
 simp only [H00, W6, Bool.and_eq_true] at hb
 obtain ⟨⟨⟨b1, b2⟩, b3⟩, b4⟩ := hb
 obtain ⟨hn, hD⟩ := x00 b1
 have hB : ∀ (k : Nat) (o : Oper), ops.toList[k]? = some o → ∀ e ∈ o.after, Region.binds .any e = true → e.on < k := fun k o hk e he' hb => by
  have := y00 b2 k o hk e he' hb
  omega
 have hdep := O01 b3
 have hgd := k04 b4
 obtain ⟨A, Lf, Bf, _, _, hP, hall, hfin⟩ := J09 (ops := ops.toList) hD ops.toList 0 [] [] (fun _ => ([], true, .pu .dead)) (fun j => by simp) (by simp)
  ⟨fun t x h => (by cases h), fun i oi d hi => by omega, fun i hi => by omega, fun x hx => (by cases hx)⟩ he
 have step : ∀ listed a w j o, ops[j]? = some o → (∀ e ∈ o.after, Region.binds .any e = true → listed.getD e.on false = true) → Z04 P h0 w0 ops st h A listed a w →
   (Region.wanted o (yielded ops a.tmps) = true → o.wp P a w (Z04 P h0 w0 ops st h A (listed.setIfInBounds j true)) Q) ∧ (Region.wanted o (yielded ops a.tmps) = false → Z04 P h0 w0 ops st h A (listed.setIfInBounds j true) (a.put o.dst undef) w) :=
  fun listed a w j o h1 h2 h3 => P0g hD hn hB hdep hgd hP (fun j o ho => hall j o (Nat.zero_le _) ho) h1 h2 h3
 have done : ∀ listed a w, (∀ j, j < ops.size → listed.getD j false = true) → Z04 P h0 w0 ops st h A listed a w → Q .normal a w := fun listed a w hl hi => i0f hP hfin hl hQ hi
 refine ⟨fun s => ?_, fun s => ?_⟩
 ·exact Q0g hB step done ops.size _ _ _ (by simp) (by simp [List.count_replicate]) (Z04.start s)
 ·exact M0f hB step done ops.toList 0 _ _ _ (fun j => by simp) (by simp) (by simp) (fun j hj => by omega) (Z04.start s)
end
end Go.H
namespace Go.H
set_option linter.unusedVariables false
set_option linter.unusedSimpArgs false
section
variable {P : Program} {h0 : Hp} {w0 : World} {Q : Exit → Act → World → Prop} {ops : Array Oper} {K : RS → Prop}
theorem L09 {be : Nat → Nat} {oe : Nat → Value} {H : Hp} {rs : RS} {a : Act} {w : World} {o : Oper} {i : Nat} {Kr : RS → Prop} (s : Sim P h0 w0 be oe H rs.st rs.h a w) (r : C02 ops be oe rs a i) (ho : ops[i]? = some o)
  {ch : List (Nat × Bool)} {c : Bool} (hch : I6 rs.bs o.guard = some ch) (hc : cB rs.bs ch = some c) (he : evG P o ch c rs fun av => r07 o.dst i ch av rs Kr) :
  ∃ v rs', Kr rs' ∧ C02 ops be oe rs' (a.put o.dst v) (i + 1) ∧ Sim P h0 w0 be oe H rs'.st rs'.h (a.put o.dst v) w ∧ Region.wanted o (yielded ops a.tmps) = c ∧
   (c = true → ∀ w', CW H w w' → o.quietAt P a (CW H w) w' v) ∧ (c = false → v = undef) := by
 obtain ⟨av, hk, hq⟩ := O0c s r hc he
 have hw := N0c r hch hc
 cases c with
 | true =>
  obtain ⟨v, hg, hqv⟩ := hq rfl
  obtain ⟨rs', k1, _, k3, k4⟩ := M01 s r ho hc (fun _ => hg) (fun h => by cases h) hk
  exact ⟨v, rs', k1, k3, k4, hw, fun _ => hqv, fun h => by cases h⟩
 | false =>
  obtain ⟨rs', k1, _, k3, k4⟩ := M01 (v := undef) s r ho hc (fun h => by cases h) (fun _ => rfl) hk
  exact ⟨undef, rs', k1, k3, k4, hw, (fun h => nomatch h), fun _ => rfl⟩
theorem O00 (hQ : ∀ rs a w be oe H, K rs → Sim P h0 w0 be oe H rs.st rs.h a w → Q .normal a w) : ∀ (l : List Oper) (i : Nat) (rs : RS) (a : Act) (w : World) (be : Nat → Nat) (oe : Nat → Value) (H : Hp),
  (∀ j, l[j]? = ops[i + j]?) → Sim P h0 w0 be oe H rs.st rs.h a w → C02 ops be oe rs a i → y05 P l i rs K → wpList P ops Q l a w
 | [], i, rs, a, w, be, oe, H, _, s, _, he => hQ rs a w be oe H he s
 | o :: l, i, rs, a, w, be, oe, H, hl, s, r, he => by
  have ho : ops[i]? = some o := by simpa using (hl 0).symm
  have hl' : ∀ j, l[j]? = ops[i + 1 + j]? := fun j => by have := hl (j + 1); simpa [Nat.add_assoc, Nat.add_comm 1 j] using this
  have gen : ∀ ch c, I6 rs.bs o.guard = some ch → cB rs.bs ch = some c → (evG P o ch c rs fun av => r07 o.dst i ch av rs fun rs => y05 P l (i + 1) rs K) → wpList P ops Q (o :: l) a w := by
   intro ch c hch hc he
   obtain ⟨v, rs', k1, k2, k3, hw, hq, hn⟩ := L09 s r ho hch hc he
   unfold wpList
   rw [hw]
   cases c with
   | false =>
    rw [if_neg (by simp), ← hn rfl]
    exact O00 hQ l (i + 1) rs' _ w be oe H hl' k3 k2 k1
   | true =>
    rw [if_pos rfl]
    refine .inl (Oper.wp_of_quiet (C := CW H w) (K := fun a' => a' = a.put o.dst v) (V1.refl s.mv.vis) (fun a' w' m e => ?_) ⟨v, hq rfl, rfl⟩)
    subst e
    exact O00 hQ l (i + 1) rs' _ w' be oe H hl' (k3.still (hf := H) (fun _ _ h => h) m) k2 k1
  simp only [y05] at he
  split at he
  ·rename_i hg hp
   have hw : Region.wanted o (yielded ops a.tmps) = true := by unfold Region.wanted; rw [hg]
   unfold wpList
   rw [if_pos hw]
   refine .inl (Oper.wp_mono (fun a' w' hn => ?_) (D7 (Q := Q) s he))
   obtain ⟨av, st', h', v, be', oe', H', hk, rfl, s', g, gr⟩ := hn
   obtain ⟨rs', k1, _, k3, k4⟩ := M01 (rs := { rs with st := st', h := h' }) (ch := []) (c := true) (v := v) s' (r.grow gr) ho rfl (fun _ => g) (fun h => by cases h) hk
   exact O00 hQ l (i + 1) rs' _ w' be' oe' H' hl' k4 k3 k1
  ·split at he
   ·rename_i ch hch
    split at he
    ·rename_i c hc
     exact gen ch c hch hc he
    ·exact he.elim
   ·exact he.elim
theorem L07 {be : Nat → Nat} {oe : Nat → Value} {H : Hp} {w : World} (hQ : ∀ rs a w be oe H, K rs → Sim P h0 w0 be oe H rs.st rs.h a w → Q .normal a w) : ∀ (l : List Oper) (i : Nat) (rs : RS) (a : Act),
  (∀ j, l[j]? = ops[i + j]?) → Sim P h0 w0 be oe H rs.st rs.h a w → C02 ops be oe rs a i → evQ P l i rs K → wpQuiet P ops (CW H w) (fun a' => ∀ w', CW H w w' → Q .normal a' w') l a
 | [], i, rs, a, _, s, _, he => fun w' m => hQ rs a w' be oe H he (s.still (hf := H) (fun _ _ h => h) m)
 | o :: l, i, rs, a, hl, s, r, he => by
  have ho : ops[i]? = some o := by simpa using (hl 0).symm
  have hl' : ∀ j, l[j]? = ops[i + 1 + j]? := fun j => by have := hl (j + 1); simpa [Nat.add_assoc, Nat.add_comm 1 j] using this
  simp only [evQ] at he
  split at he
  ·rename_i ch hch
   split at he
   ·rename_i c hc
    obtain ⟨v, rs', k1, k2, k3, hw, hq, hn⟩ := L09 s r ho hch hc he
    have ih := L07 hQ l (i + 1) rs' _ hl' k3 k2 k1
    unfold wpQuiet
    rw [hw]
    cases c with
    | false => rw [if_neg (by simp), ← hn rfl]; exact ih
    | true => rw [if_pos rfl]; exact ⟨v, hq rfl, ih⟩
   ·exact he.elim
  ·exact he.elim
theorem C02.init {be : Nat → Nat} {oe : Nat → Value} {st : St} {h : Hp} {a : Act} : C02 ops be oe ⟨st, h, [], []⟩ a 0 :=
 ⟨(fun x hx => nomatch hx), (fun x hx => nomatch hx), (fun d ch av hl => nomatch hl)⟩
def I08 (P : Program) (h0 : Hp) (w0 : World) (Q : Ex → St → Hp → Prop) : Exit → Act → World → Prop
 | .normal, a, w => ∃ st h be oe H, Q .normal st h ∧ Sim P h0 w0 be oe H st h a w
 | .exit i, a, w => ∃ st h be oe H, Q (.exit i) st h ∧ Sim P h0 w0 be oe H st h a w
 | .ret, a, w => ∃ st h be oe H, Q .ret st h ∧ Sim P h0 w0 be oe H st h a w
 | _, _, _ => False
variable {be : Nat → Nat} {oe : Nat → Value} {H : Hp} {st : St} {h : Hp} {a : Act} {w : World}
theorem J08 {Q : Ex → St → Hp → Prop} {id : Nat} {d : Bool} (s : Sim P h0 w0 be oe H st h a w) (he : ev P (.region id ops d) Q st h) : (Code.region id ops d).wp P (I08 P h0 w0 Q) a w := by
 cases d with
 | false =>
  simp only [ev] at he
  split at he
  ·exact wp_region_list ((K09 (h0 := h0) (w0 := w0) he.1 he.2 fun a w st h be oe H hk s => ⟨st, h, be, oe, H, hk, s⟩).2 s)
  ·exact wp_region_list (O00 (K := fun rs => Q .normal rs.st rs.h) (fun rs a w be oe H hk s => ⟨rs.st, rs.h, be, oe, H, hk, s⟩) _ 0 ⟨st, h, [], []⟩ a w be oe H (fun j => by simp) s C02.init he)
 | true =>
  rcases he with ⟨⟨h1, h2⟩, he⟩ | ⟨⟨h1, h2⟩, he⟩ | he | ⟨⟨h1, h2⟩, he⟩
  ·refine wp_region_quiet (C := CW H w) h1 h2 (V1.drawn s.mv.vis _ (by first | exact Nat.le_succ _ | exact Nat.le_add_right _ _ | exact Nat.le_refl _)) ?_
   exact L07 (K := fun rs => Q .normal rs.st rs.h) (fun rs a w be oe H hk s => ⟨rs.st, rs.h, be, oe, H, hk, s⟩) _ 0 ⟨st, h, [], []⟩ a (fun j => by simp) s C02.init he
  ·exact wp_region_any h1 (P0c (s.still (hf := H) (fun _ _ h => h) (V1.drawn s.mv.vis _ (by first | exact Nat.le_succ _ | exact Nat.le_add_right _ _ | exact Nat.le_refl _))) h2 he fun a w st h be oe H hk s => ⟨st, h, be, oe, H, hk, s⟩)
  ·split at he
   ·obtain ⟨⟨h1, h2⟩, he⟩ := he
    exact wp_region_any h1 (R0c (s.still (hf := H) (fun _ _ h => h) (V1.drawn s.mv.vis _ (by first | exact Nat.le_succ _ | exact Nat.le_add_right _ _ | exact Nat.le_refl _))) h2 he fun a w st h be oe H hk s => ⟨st, h, be, oe, H, hk, s⟩)
   ·rename_i o hp
    obtain ⟨⟨h1, h2⟩, he⟩ := he
    simp only [Bool.and_eq_true] at h2
    obtain ⟨e1, hg, hall⟩ := T0c hp
    have s' := s.still (hf := H) (fun _ _ h => h) (V1.drawn s.mv.vis (w.drawn + 1) (by first | exact Nat.le_succ _ | exact Nat.le_add_right _ _ | exact Nat.le_refl _))
    obtain ⟨Inv, k1, k2, k3, k4⟩ := I09 (ops := (a8 ops.toList).toArray) (Q := I08 P h0 w0 Q) (R := fun a w => o.wp P a w (fun a w => I08 P h0 w0 Q .normal a w) (I08 P h0 w0 Q)) s' (by simpa using h2.1) (by simpa using he) fun a w st h be oe H hk s => by
     refine Oper.wp_mono (fun a' w' hn => ?_) (D7 (Q := I08 P h0 w0 Q) s hk)
     obtain ⟨av, st', h', v, be', oe', H', hk, rfl, s', g, gr⟩ := hn
     obtain ⟨rs', k1, k2, k3, k4⟩ := M01 (ops := #[o]) (i := 0) (rs := ⟨st', h', [], []⟩) (ch := []) (c := true) (v := v) s' C02.init (by rfl) rfl (fun _ => g) (fun h => by cases h) hk
     exact ⟨rs'.st, rs'.h, be', oe', H', k1, k4⟩
    exact wp_region_any h1 (O0g (ops0 := (a8 ops.toList).toArray) (o := o) (Inv := Inv) (by simpa using e1) (fun k o hk e he' hb => by
     have := y00 h2.2 k o hk e he' hb
     omega) hg (fun k hk => a01 hall k (by simpa using hk) (by simp at hk; omega)) k2 k3 k4)
  ·exact wp_region_any h1 ((K09 (h0 := h0) (w0 := w0) h2 he fun a w st h be oe H hk s => ⟨st, h, be, oe, H, hk, s⟩).1 (s.still (hf := H) (fun _ _ h => h) (V1.drawn s.mv.vis _ (by first | exact Nat.le_succ _ | exact Nat.le_add_right _ _ | exact Nat.le_refl _))))
end
end Go.H
namespace Go.H
set_option linter.unusedVariables false
set_option linter.unusedSimpArgs false
theorem Y9 (x : Nat) : ∀ l : List Nat, j03 x l = true ↔ x ∈ l
 | [] => by simp [j03]
 | y :: r => by
  simp only [j03]
  cases h : Nat.beq x y with
  | true => simp [Nat.eq_of_beq_eq_true h]
  | false => simp [Y9 x r, Nat.ne_of_beq_eq_false h]
theorem P01 {x : Nat} {l : List Nat} (h : j03 x l = false) : x ∉ l := fun hm => by rw [(Y9 x l).2 hm] at h; cases h
theorem M07 : ∀ (l : List Nat) (K : List Nat → Prop), O04 l K = K l
 | [], K => rfl
 | x :: r, K => by simp only [O04, M07 r]
theorem l04 : ∀ (n : Nat) {K : List Value → Prop}, W03 n K → ∀ vs : List Value, vs.length = n → K vs
 | 0, K, h, vs, hl => by rw [List.length_eq_zero_iff.1 hl]; exact h
 | n + 1, K, h, [], hl => by cases hl
 | n + 1, K, h, v :: vs, hl => l04 n (h v) vs (by simpa using hl)
theorem m04 : ∀ (n : Nat) {K : List (List (List Value)) → Prop}, X03 n K → ∀ os : List (List (List Value)), os.length = n → K os
 | 0, K, h, vs, hl => by rw [List.length_eq_zero_iff.1 hl]; exact h
 | n + 1, K, h, [], hl => by cases hl
 | n + 1, K, h, v :: vs, hl => m04 n (h v) vs (by simpa using hl)
theorem D03 {α : Type} : ∀ (a b : List α) (K : List α → List α → Prop), w02 a.length (a ++ b) K = K a b
 | [], b, K => rfl
 | x :: a, b, K => by simp only [List.length_cons, List.cons_append, w02, D03 a b]
theorem a05 (e : St) : ∀ (l : List Nat) {K : List Value → Prop}, X0e l e K → ∃ vs, vs.length = l.length ∧ K vs ∧
  ∀ acc t, (K1 (P04 l vs acc) t = K1 acc t ∧ t ∉ l) ∨ (∃ v, K1 (P04 l vs acc) t = .val v ∧ rdA e (K1 e.fr t) = .val v)
 | [], K, h => ⟨[], rfl, h, fun acc t => .inl ⟨rfl, by simp⟩⟩
 | s :: r, K, h => by
  simp only [X0e] at h
  split at h
  ·rename_i v hv
   obtain ⟨vs, h1, h2, h3⟩ := a05 e r h
   refine ⟨v :: vs, by simp [h1], h2, fun acc t => ?_⟩
   rcases h3 ((s, .val v) :: acc) t with ⟨h4, h5⟩ | h4
   ·by_cases e' : s = t
    ·subst e'
     exact .inr ⟨v, by simp only [P04, h4, C2, if_true], hv⟩
    ·exact .inl ⟨by simp only [P04, h4, C2, if_neg e'], by simp [h5, Ne.symm e']⟩
   ·exact .inr h4
  ·exact h.elim
def z00 (B : Nat → Nat → Prop) : List L3 → Prop
 | [] => True
 | .val _ :: r => z00 B r
 | .own i k :: r => B i k ∧ z00 B r
def ShC (e : St) : List L3 → List L3 → Prop
 | [], [] => True
 | .val _ :: r, .val _ :: r' => ShC e r r'
 | .own i _ :: r, .own j k' :: r' => i = j ∧ (∃ b, rdA e (.own j k') = .own j b) ∧ ShC e r r'
 | _, _ => False
def EqC (e : St) : List L3 → List L3 → Prop
 | [], [] => True
 | .val v :: r, .val v' :: r' => v = v' ∧ EqC e r r'
 | .own i _ :: r, .own j k' :: r' => i = j ∧ (∃ b, rdA e (.own j k') = .own j b) ∧ EqC e r r'
 | _, _ => False
theorem EqC.sh {e : St} : ∀ {cs cs' : List L3}, EqC e cs cs' → ShC e cs cs'
 | [], [], _ => trivial
 | .val _ :: r, .val _ :: r', h => EqC.sh (cs := r) (cs' := r') h.2
 | .own i _ :: r, .own j k' :: r', h => ⟨h.1, h.2.1, EqC.sh (cs := r) (cs' := r') h.2.2⟩
 | [], _ :: _, h => h.elim
 | .val _ :: _, [], h => h.elim
 | .own _ _ :: _, [], h => h.elim
 | .val _ :: _, .own _ _ :: _, h => h.elim
 | .own _ _ :: _, .val _ :: _, h => h.elim
theorem n04 {e : St} {i k a b : Nat} (h : rdA e (.own i k) = .own a b) : a = i ∧ b = k := by
 simp only [rdA] at h
 split at h
 ·split at h
  ·split at h
   ·cases h; exact ⟨rfl, rfl⟩
   ·cases h
  ·cases h
 ·cases h
theorem Q01 {hd e : St} : ∀ (cs cs' : List L3), n01 hd e cs cs' = true → ShC e cs cs'
 | [], [], _ => trivial
 | .val _ :: r, .val _ :: r', h => Q01 r r' h
 | .own i _ :: r, .own j k' :: r', h => by
  simp only [n01] at h
  split at h
  ·rename_i a b hb hr
   obtain ⟨rfl, _⟩ := n04 hr
   exact ⟨Nat.eq_of_beq_eq_true hb, ⟨_, hr⟩, Q01 r r' h⟩
  ·cases h
 | [], _ :: _, h => by cases h
 | .val _ :: _, [], h => by cases h
 | .own _ _ :: _, [], h => by cases h
 | .val _ :: _, .own _ _ :: _, h => by cases h
 | .own _ _ :: _, .val _ :: _, h => by cases h
theorem b05 (e : St) : ∀ (cs cs' : List L3), ShC e cs cs' → ∀ {K : List Value → Prop}, v09 cs' e K → ∃ vs, K vs ∧ ∃ cs2, (∀ (rest : List Value) (K2 : List L3 → List Value → Prop), M9 cs (vs ++ rest) K2 = K2 cs2 rest) ∧ EqC e cs2 cs' ∧
  (∀ B, z00 B cs → z00 B cs2)
 | [], [], _, K, h => ⟨[], h, [], fun _ _ => rfl, trivial, fun _ h => h⟩
 | .val _ :: r, .val v :: r', hs, K, h => by
  obtain ⟨vs, h1, cs2, h2, h3, h4⟩ := b05 e r r' hs (K := fun vs => K (v :: vs)) h
  exact ⟨v :: vs, h1, .val v :: cs2, fun rest K2 => by simp only [List.cons_append, M9, h2], ⟨rfl, h3⟩, fun B hB => h4 B hB⟩
 | .own i k :: r, .own j k' :: r', hs, K, h => by
  obtain ⟨vs, h1, cs2, h2, h3, h4⟩ := b05 e r r' hs.2.2 (K := K) h
  exact ⟨vs, h1, .own i k :: cs2, fun rest K2 => by simp only [M9, h2], ⟨hs.1, hs.2.1, h3⟩, fun B hB => ⟨hB.1, h4 B hB.2⟩⟩
 | [], _ :: _, h, _, _ => h.elim
 | .val _ :: _, [], h, _, _ => h.elim
 | .own _ _ :: _, [], h, _, _ => h.elim
 | .val _ :: _, .own _ _ :: _, h, _, _ => h.elim
 | .own _ _ :: _, .val _ :: _, h, _, _ => h.elim
theorem c05 (e : St) : ∀ (cs : List L3) {K : List Value → Prop}, v09 cs e K → ∃ vs, K vs ∧ ∀ (rest : List Value) (K2 : List L3 → List Value → Prop), M9 cs (vs ++ rest) K2 = K2 cs rest
 | [], K, h => ⟨[], h, fun _ _ => rfl⟩
 | .val v :: r, K, h => by
  obtain ⟨vs, h1, h2⟩ := c05 e r (K := fun vs => K (v :: vs)) h
  exact ⟨v :: vs, h1, fun rest K2 => by simp only [List.cons_append, M9, h2]⟩
 | .own i k :: r, K, h => by
  obtain ⟨vs, h1, h2⟩ := c05 e r (K := K) h
  exact ⟨vs, h1, fun rest K2 => by simp only [M9, h2]⟩
theorem N07 {α : Type} (l : List α) (i : Nat) (x : α) (h : nth l i = some x) : N6 l i x = l := by
 rw [X00] at h
 obtain ⟨hi, hx⟩ := List.getElem?_eq_some_iff.1 h
 rw [Z03, ← hx]
 exact List.set_getElem_self hi
theorem G0b (e : St) : ∀ (is : List Nat) {K : List Value → Prop}, l06 is e K → ∃ ws, K ws ∧ ∀ K2, k01 is ws e.bx K2 = K2 e.bx
 | [], K, h => ⟨[], h, fun _ => rfl⟩
 | i :: r, K, h => by
  simp only [l06] at h
  split at h
  ·rename_i cs ty hn
   obtain ⟨vs, h1, h2⟩ := c05 e cs h
   obtain ⟨ws, h3, h4⟩ := G0b e r h1
   refine ⟨vs ++ ws, h3, fun K2 => ?_⟩
   simp only [k01, hn, h2, N07 _ _ _ hn, h4]
  ·exact h.elim
theorem H0b (e : St) : ∀ (is : List Nat) {K : List (List (List Value)) → Prop}, D07 is e K → ∃ os, os.length = is.length ∧ K os ∧ ∀ K2, l01 is os e.ow K2 = K2 e.ow
 | [], K, h => ⟨[], rfl, h, fun _ => rfl⟩
 | i :: r, K, h => by
  simp only [D07] at h
  split at h
  ·rename_i s ty sz by_ nn xs hn
   obtain ⟨ws, h2, h3, h4⟩ := H0b e r h
   refine ⟨xs :: ws, by simp [h2], h3, fun K2 => ?_⟩
   simp only [l01, hn, N07 _ _ _ hn, h4]
  ·exact h.elim
theorem I0b (e : St) : ∀ (is : List Nat) (bx : List BSt), (∀ i ∈ is, ∃ cs ty cs', nth bx i = some (.live cs ty) ∧ nth e.bx i = some (.live cs' ty) ∧ ShC e cs cs') → ∀ {K : List Value → Prop}, l06 is e K →
  ∃ ws, K ws ∧ ∃ bx2, (∀ K2, k01 is ws bx K2 = K2 bx2) ∧ bx2.length = bx.length ∧ (∀ i, i ∉ is → nth bx2 i = nth bx i) ∧
   (∀ i ∈ is, ∃ cs2 ty cs', nth bx2 i = some (.live cs2 ty) ∧ nth e.bx i = some (.live cs' ty) ∧ EqC e cs2 cs') ∧
   (∀ B, (∀ i cs ty, nth bx i = some (.live cs ty) → z00 B cs) → (∀ i cs ty, nth bx2 i = some (.live cs ty) → z00 B cs))
 | [], bx, _, K, h => ⟨[], h, bx, fun _ => rfl, rfl, fun _ _ => rfl, by simp, fun _ h => h⟩
 | i :: r, bx, hs, K, h => by
  obtain ⟨cs, ty, cs', h1, h2, h3⟩ := hs i (List.mem_cons_self ..)
  simp only [l06, h2] at h
  obtain ⟨vs, k1, cs2, k2, k3, k4⟩ := b05 e cs cs' h3 h
  have hlt := K8 h1
  have hs1 : ∀ j ∈ r, ∃ cs1 ty1 cs1', nth (N6 bx i (.live cs2 ty)) j = some (.live cs1 ty1) ∧ nth e.bx j = some (.live cs1' ty1) ∧ ShC e cs1 cs1' := fun j hj => by
   rw [y4 _ _ _ hlt]
   by_cases ej : j = i
   ·subst ej
    rw [if_pos rfl]
    exact ⟨cs2, ty, cs', rfl, h2, k3.sh⟩
   ·rw [if_neg ej]
    exact hs j (List.mem_cons_of_mem _ hj)
  obtain ⟨ws, m1, bx2, m2, m3, m4, m5, m6⟩ := I0b e r _ hs1 k1
  refine ⟨vs ++ ws, m1, bx2, fun K2 => by simp only [k01, h1, k2, m2], by rw [m3, I00], fun j hj => ?_, fun j hj => ?_, fun B hB => m6 B fun j cs3 ty3 hj => ?_⟩
  ·simp only [List.mem_cons, not_or] at hj
   rw [m4 j hj.2, y4 _ _ _ hlt, if_neg hj.1]
  ·by_cases hr : j ∈ r
   ·exact m5 j hr
   ·rcases List.mem_cons.1 hj with rfl | hj
    ·refine ⟨cs2, ty, cs', ?_, h2, k3⟩
     rw [m4 j hr, y4 _ _ _ hlt, if_pos rfl]
    ·exact absurd hj hr
  ·rw [y4 _ _ _ hlt] at hj
   split at hj
   ·cases hj
    exact k4 B (hB i cs ty h1)
   ·exact hB j cs3 ty3 hj
theorem J0b (en : St) : ∀ (is : List Nat) (ow : List Own), (∀ i ∈ is, ∃ s e sz by_ nn xs0 s' nn' xs, nth ow i = some ⟨s, .live e sz by_ nn xs0⟩ ∧ nth en.ow i = some ⟨s', .live e sz by_ nn' xs⟩ ∧ (nn = true → nn' = true)) →
  ∀ {K : List (List (List Value)) → Prop}, D07 is en K → ∃ os, os.length = is.length ∧ K os ∧ ∃ ow2, (∀ K2, l01 is os ow K2 = K2 ow2) ∧ (∀ i, i ∉ is → nth ow2 i = nth ow i) ∧
   (∀ i ∈ is, ∃ s e sz by_ nn s' nn' xs, nth ow2 i = some ⟨s, .live e sz by_ nn xs⟩ ∧ nth en.ow i = some ⟨s', .live e sz by_ nn' xs⟩ ∧ (nn = true → nn' = true)) ∧
   (∀ i, (nth ow2 i).map (·.stamp) = (nth ow i).map (·.stamp))
 | [], ow, _, K, h => ⟨[], rfl, h, ow, fun _ => rfl, fun _ _ => rfl, by simp, fun _ => rfl⟩
 | i :: r, ow, hs, K, h => by
  obtain ⟨s, e, sz, by_, nn, xs0, s', nn', xs, h1, h2, h3⟩ := hs i (List.mem_cons_self ..)
  simp only [D07, h2] at h
  have hlt := K8 h1
  have hs1 : ∀ j ∈ r, ∃ s0 e0 sz0 by0 nn0 xs0 s' nn' xs', nth (N6 ow i ⟨s, .live e sz by_ nn xs⟩) j = some ⟨s0, .live e0 sz0 by0 nn0 xs0⟩ ∧ nth en.ow j = some ⟨s', .live e0 sz0 by0 nn' xs'⟩ ∧ (nn0 = true → nn' = true) := fun j hj => by
   rw [y4 _ _ _ hlt]
   by_cases ej : j = i
   ·subst ej
    rw [if_pos rfl]
    exact ⟨s, e, sz, by_, nn, xs, s', nn', xs, rfl, h2, h3⟩
   ·rw [if_neg ej]
    exact hs j (List.mem_cons_of_mem _ hj)
  obtain ⟨os, m0, m1, ow2, m2, m4, m5, m6⟩ := J0b en r _ hs1 h
  refine ⟨xs :: os, by simp [m0], m1, ow2, fun K2 => by simp only [l01, h1, m2], fun j hj => ?_, fun j hj => ?_, fun j => ?_⟩
  ·simp only [List.mem_cons, not_or] at hj
   rw [m4 j hj.2, y4 _ _ _ hlt, if_neg hj.1]
  ·by_cases hr : j ∈ r
   ·exact m5 j hr
   ·rcases List.mem_cons.1 hj with rfl | hj
    ·refine ⟨s, e, sz, by_, nn, s', nn', xs, ?_, h2, h3⟩
     rw [m4 j hr, y4 _ _ _ hlt, if_pos rfl]
    ·exact absurd hj hr
  ·rw [m6 j, y4 _ _ _ hlt]
   split
   ·rename_i e'; subst e'; rw [h1]; rfl
   ·rfl
theorem G02 {A : Ann} {hd e : St} : ∀ (i : Nat) (bx bx' : List BSt), Q04 A hd e i bx bx' → ∀ k b, nth bx k = some b →
  (i + k ∈ A.boxes ∧ ∃ cs ty cs', b = .live cs ty ∧ nth bx' k = some (.live cs' ty) ∧ ShC e cs cs') ∨ (i + k ∉ A.boxes ∧ nth bx' k = some b ∧ L0a A.owns b = true)
 | i, [], _, _, k, b, hk => by cases k <;> cases hk
 | i, x :: r, [], h, _, _, _ => by cases h
 | i, x :: r, y :: r', h, k, b, hk => by
  simp only [Q04] at h
  split at h
  ·rename_i hm
   split at h
   ·rename_i cs ty cs' ty'
    split at h
    ·rename_i hb hc
     have := Nat.eq_of_beq_eq_true hb
     subst this
     cases k with
     | zero => cases hk; exact .inl ⟨(Y9 _ _).1 hm, cs, ty, cs', rfl, rfl, Q01 _ _ hc⟩
     | succ k => have := G02 (i + 1) r r' h k b hk; rwa [show i + 1 + k = i + (k + 1) from by omega] at this
    ·exact h.elim
   ·exact h.elim
  ·rename_i hm
   split at h
   ·rename_i hcl
    obtain ⟨rfl, h⟩ := h
    cases k with
    | zero => cases hk; exact .inr ⟨P01 hm, rfl, hcl⟩
    | succ k => have := G02 (i + 1) r r' h k b hk; rwa [show i + 1 + k = i + (k + 1) from by omega] at this
   ·exact h.elim
theorem H02 {A : Ann} : ∀ (i : Nat) (ow ow' : List Own), R04 A i ow ow' → ∀ k b, nth ow k = some b →
  (i + k ∈ A.owns ∧ ∃ s e sz by_ nn xs0 s' nn' xs, b = ⟨s, .live e sz by_ nn xs0⟩ ∧ nth ow' k = some ⟨s', .live e sz by_ nn' xs⟩ ∧ (nn = true → nn' = true) ∧ (i + k ∈ A.kept → s = s')) ∨ (i + k ∉ A.owns ∧ nth ow' k = some b)
 | i, [], _, _, k, b, hk => by cases k <;> cases hk
 | i, x :: r, [], h, _, _, _ => by cases h
 | i, x :: r, y :: r', h, k, b, hk => by
  simp only [R04] at h
  split at h
  ·rename_i hm
   split at h
   ·rename_i s e sz by_ nn xs0 s' e' sz' by' nn' xs
    split at h
    ·rename_i hb1 hb2 hb3 hb4 hb5
     have := Nat.eq_of_beq_eq_true hb1
     subst this
     have := Nat.eq_of_beq_eq_true hb2
     subst this
     have := Nat.eq_of_beq_eq_true hb3
     subst this
     cases k with
     | zero => cases hk; exact .inl ⟨(Y9 _ _).1 hm, _, _, _, _, _, _, _, _, _, rfl, rfl, (fun h => by subst h; exact hb4), fun h => by rw [show j03 i A.kept = true from (Y9 _ _).2 h] at hb5; exact Nat.eq_of_beq_eq_true hb5⟩
     | succ k => have := H02 (i + 1) r r' h k b hk; rwa [show i + 1 + k = i + (k + 1) from by omega] at this
    ·exact h.elim
   ·exact h.elim
  ·rename_i hm
   obtain ⟨rfl, h⟩ := h
   cases k with
   | zero => cases hk; exact .inr ⟨P01 hm, rfl⟩
   | succ k => have := H02 (i + 1) r r' h k b hk; rwa [show i + 1 + k = i + (k + 1) from by omega] at this
end Go.H
namespace Go.H
set_option linter.unusedVariables false
set_option linter.unusedSimpArgs false
def o04 (A : Ann) (st : St) : AV → Prop
 | .val _ | .hel _ _ _ _ | .dead => True
 | .agg cs => B0b cs = true
 | .box i _ => i < st.bx.length
 | .own i k => (i ∉ A.owns ∨ i ∈ A.kept) ∧ stamp st i = some k
 | .oel _ _ _ _ _ => False
theorem K0b {st : St} {av : AV} {i off : Nat} (h : rdA st av = .box i off) : i < st.bx.length := by
 cases av with
 | box j o =>
  simp only [rdA] at h
  split at h
  ·rename_i hn; cases h; exact K8 hn
  ·cases h
  ·cases h
 | own j k =>
  simp only [rdA] at h
  split at h
  ·split at h
   ·split at h <;> cases h
   ·cases h
  ·cases h
 | oel j s idx sz k =>
  simp only [rdA] at h
  split at h
  ·split at h <;> cases h
  ·cases h
 | _ => cases h
theorem d05 {st : St} {av : AV} {i k : Nat} (h : rdA st av = .own i k) : stamp st i = some k := by
 obtain ⟨e, sz, by_, nn, xs, hn⟩ := E01 h
 simp [stamp, hn]
theorem E03 (A : Ann) (ds : List Nat) (st : St) : ∀ (l : List (Nat × AV)) {K : List (Nat × AV) → Prop}, m01 A ds st l K → ∃ sta, K sta ∧ ∀ t, t ∉ ds →
  K1 sta t = .dead ∨ (K1 sta t = rdA st (K1 l t) ∧ o04 A st (K1 sta t))
 | [], K, h => ⟨[], h, fun t _ => .inl rfl⟩
 | (s, av) :: r, K, h => by
  have put : ∀ av', (av' = .dead ∨ (av' = rdA st av ∧ o04 A st av')) → (m01 A ds st r fun l => K ((s, av') :: l)) → ∃ sta, K sta ∧ ∀ t, t ∉ ds →
    K1 sta t = .dead ∨ (K1 sta t = rdA st (K1 ((s, av) :: r) t) ∧ o04 A st (K1 sta t)) := by
   intro av' hav h
   obtain ⟨sta, h1, h2⟩ := E03 A ds st r h
   refine ⟨_, h1, fun t ht => ?_⟩
   rw [C2, C2]
   by_cases e : s = t
   ·rw [if_pos e, if_pos e]; exact hav
   ·rw [if_neg e, if_neg e]; exact h2 t ht
  simp only [m01] at h
  split at h
  ·rename_i hm
   obtain ⟨sta, h1, h2⟩ := E03 A ds st r h
   refine ⟨sta, h1, fun t ht => ?_⟩
   rw [C2, if_neg (fun e => ht (by rw [← e]; exact (Y9 _ _).1 hm))]
   exact h2 t ht
  ·split at h
   ·rename_i i k hr
    split at h
    ·exact put _ (.inl rfl) h
    ·rename_i hm
     refine put _ (.inr ⟨hr.symm, ?_, d05 hr⟩) h
     cases h1 : j03 i A.owns with
     | false => exact .inl (P01 h1)
     | true =>
      cases h2 : j03 i A.kept with
      | true => exact .inr ((Y9 _ _).1 h2)
      | false => exact absurd h2 (hm h1)
   ·exact put _ (.inl rfl) h
   ·rename_i cs hr
    split at h
    ·rename_i hno
     exact put _ (.inr ⟨hr.symm, hno⟩) h
    ·exact put _ (.inl rfl) h
   ·rename_i h1 h2 h3
    refine put _ (.inr ⟨rfl, ?_⟩) h
    cases hr : rdA st av with
    | own i k => exact absurd hr (h1 i k)
    | oel i s0 idx sz k => exact absurd hr (h2 i s0 idx sz k)
    | agg cs => exact absurd hr (h3 cs)
    | box i o => exact K0b hr
    | val v => trivial
    | hel s0 idx sz k => trivial
    | dead => trivial
def M09 (st : St) (t : Nat) (av : AV) : Prop :=
 av = .dead ∨ (∃ i k, av = .own i k ∧ stamp st i = some k ∧ rdA st (K1 st.fr t) = .own i k) ∨ (∃ i o, av = .box i o ∧ i < st.bx.length ∧ rdA st (K1 st.fr t) = .box i o)
theorem F03 (A : Ann) (st : St) : ∀ (l : List Nat) (acc : List (Nat × AV)) {K : List (Nat × AV) → Prop}, n03 A st l acc K → (∀ p ∈ acc, M09 st p.1 p.2) →
  ∃ dyn, K dyn ∧ (∀ p ∈ dyn, p.1 ∈ l ∨ p ∈ acc) ∧ (∀ p ∈ dyn, M09 st p.1 p.2) ∧ (∀ t ∈ l, t ∉ A.vars → ∃ av, (t, av) ∈ dyn) ∧ (∀ p ∈ acc, p ∈ dyn)
 | [], acc, K, h, ha => ⟨acc, h, fun p hp => .inr hp, ha, by simp, fun _ h => h⟩
 | s :: r, acc, K, h, ha => by
  have put : ∀ av', M09 st s av' → n03 A st r ((s, av') :: acc) K → ∃ dyn, K dyn ∧ (∀ p ∈ dyn, p.1 ∈ s :: r ∨ p ∈ acc) ∧ (∀ p ∈ dyn, M09 st p.1 p.2) ∧ (∀ t ∈ s :: r, t ∉ A.vars → ∃ av, (t, av) ∈ dyn) ∧ (∀ p ∈ acc, p ∈ dyn) := by
   intro av' hav h
   obtain ⟨dyn, h1, h2, h3, h4, h5⟩ := F03 A st r _ h (fun p hp => by
    rcases List.mem_cons.1 hp with rfl | hp
    ·exact hav
    ·exact ha p hp)
   refine ⟨dyn, h1, fun p hp => ?_, h3, fun t ht hv => ?_, fun p hp => h5 p (List.mem_cons_of_mem _ hp)⟩
   ·rcases h2 p hp with h | h
    ·exact .inl (List.mem_cons_of_mem _ h)
    ·rcases List.mem_cons.1 h with rfl | h
     ·exact .inl (List.mem_cons_self ..)
     ·exact .inr h
   ·rcases List.mem_cons.1 ht with rfl | ht
    ·exact ⟨av', h5 _ (List.mem_cons_self ..)⟩
    ·exact h4 t ht hv
  simp only [n03] at h
  split at h
  ·rename_i hm
   obtain ⟨dyn, h1, h2, h3, h4, h5⟩ := F03 A st r _ h ha
   refine ⟨dyn, h1, fun p hp => (h2 p hp).imp (List.mem_cons_of_mem _) id, h3, fun t ht hv => ?_, h5⟩
   rcases List.mem_cons.1 ht with rfl | ht
   ·exact absurd ((Y9 _ _).1 hm) hv
   ·exact h4 t ht hv
  ·split at h
   ·rename_i i k hr
    exact put _ (.inr (.inl ⟨i, k, rfl, d05 hr, hr⟩)) h
   ·rename_i i o hr
    exact put _ (.inr (.inr ⟨i, o, rfl, K0b hr, hr⟩)) h
   ·exact put _ (.inl rfl) h
theorem A06 : ∀ (dyn sta : List (Nat × AV)) (t : Nat), (∃ av, (t, av) ∈ dyn ∧ K1 (dyn ++ sta) t = av) ∨ ((∀ av, (t, av) ∉ dyn) ∧ K1 (dyn ++ sta) t = K1 sta t)
 | [], sta, t => .inr ⟨by simp, rfl⟩
 | (s, av) :: r, sta, t => by
  simp only [List.cons_append]
  rw [C2]
  by_cases e : s = t
  ·subst e
   exact .inl ⟨av, List.mem_cons_self .., if_pos rfl⟩
  ·rw [if_neg e]
   rcases A06 r sta t with ⟨av', h1, h2⟩ | ⟨h1, h2⟩
   ·exact .inl ⟨av', List.mem_cons_of_mem _ h1, h2⟩
   ·exact .inr ⟨fun av' h => by
     rcases List.mem_cons.1 h with h | h
     ·cases h; exact e rfl
     ·exact h1 av' h, h2⟩
theorem B06 {hd e : St} : ∀ (dyn : List (Nat × AV)), z05 hd e dyn = true → ∀ t av, (t, av) ∈ dyn → (∀ i k, av = .own i k → ∃ k', rdA e (K1 e.fr t) = .own i k') ∧ (∀ i o, av = .box i o → rdA e (K1 e.fr t) = .box i o)
 | [], _, t, av, h => by cases h
 | (s, x) :: r, hs, t, av, h => by
  have key : z05 hd e r = true ∧ (∀ i k, x = .own i k → ∃ k', rdA e (K1 e.fr s) = .own i k') ∧ (∀ i o, x = .box i o → rdA e (K1 e.fr s) = .box i o) := by
   simp only [z05] at hs
   split at hs
   ·split at hs
    ·rename_i hr
     split at hs
     ·rename_i hb
      refine ⟨hs, fun i k hx => ?_, (fun i o hx => nomatch hx)⟩
      cases hx
      exact ⟨_, by rw [hr, Nat.eq_of_beq_eq_true hb]⟩
     ·cases hs
    ·cases hs
   ·split at hs
    ·rename_i hr
     split at hs
     ·rename_i hb1 hb2
      refine ⟨hs, (fun i k hx => nomatch hx), fun i o hx => ?_⟩
      cases hx
      rw [hr, Nat.eq_of_beq_eq_true hb1, Nat.eq_of_beq_eq_true hb2]
     ·cases hs
    ·cases hs
   ·rename_i h1 h2
    exact ⟨hs, fun i k hx => absurd hx (h1 i k), fun i o hx => absurd hx (h2 i o)⟩
  rcases List.mem_cons.1 h with h | h
  ·cases h; exact key.2
  ·exact B06 r key.1 t av h
theorem G03 {fr : List (Nat × AV)} : ∀ (sta : List (Nat × AV)), E07 fr sta = I0c sta → ∀ t, K1 sta t = .dead ∨ K1 fr t = K1 sta t
 | [], _, t => .inl rfl
 | (s, av) :: r, h, t => by
  rw [C2]
  simp only [E07, I0c] at h
  cases hd : K0a av with
  | true =>
   rw [hd] at h
   by_cases e : s = t
   ·rw [if_pos e]
    left
    cases av <;> first | rfl | cases hd
   ·rw [if_neg e]
    exact G03 r h t
  | false =>
   rw [hd] at h
   simp only [List.cons.injEq] at h
   by_cases e : s = t
   ·subst e
    rw [if_pos rfl]
    exact .inr h.1
   ·rw [if_neg e]
    exact G03 r h.2 t
theorem e05 {e st2 : St} {be : Nat → Nat} {oe : Nat → Value} : ∀ {cs2 cs' : List L3} {vs : List Value}, EqC e cs2 cs' → z00 (fun j k => ∃ s, stamp st2 j = some s ∧ k ≤ s) cs2 → T0 e oe cs' vs → T0 st2 oe cs2 vs
 | [], [], [], _, _, _ => trivial
 | .val v :: r, .val v' :: r', x :: vs, h, ha, g => ⟨by rw [show x = v' from g.1, h.1]; rfl, e05 (be := be) h.2 ha g.2⟩
 | .own i k :: r, .own j k' :: r', x :: vs, h, ha, g => by
  obtain ⟨hij, ⟨b, hr⟩, h⟩ := h
  subst hij
  obtain ⟨⟨s, s1, s2⟩, ha⟩ := ha
  refine ⟨⟨s, s1, s2, fun _ => ?_⟩, e05 (be := be) h ha g.2⟩
  obtain ⟨_, hb⟩ := n04 hr
  subst hb
  obtain ⟨s', t1, t2, t3⟩ := g.1
  rw [d05 hr] at t1
  cases t1
  exact t3 rfl
 | [], _ :: _, _, h, _, _ => h.elim
 | .val _ :: _, [], _, h, _, _ => h.elim
 | .own _ _ :: _, [], _, h, _, _ => h.elim
 | .val _ :: _, .own _ _ :: _, _, h, _, _ => h.elim
 | .own _ _ :: _, .val _ :: _, _, h, _, _ => h.elim
 | _, _ :: _, [], _, _, g => g.elim
 | _, [], _ :: _, _, _, g => g.elim
theorem R01 {os : List Nat} {e st2 : St} {oe : Nat → Value} (hst : ∀ j, j ∉ os → ∀ s, stamp st2 j = some s → stamp e j = some s) : ∀ {cs : List L3} {vs : List Value}, V03 os cs = true →
  z00 (fun j k => ∃ s, stamp st2 j = some s ∧ k ≤ s) cs → T0 e oe cs vs → T0 st2 oe cs vs
 | [], [], _, _, _ => trivial
 | .val v :: r, x :: vs, h, ha, g => ⟨g.1, R01 hst h ha g.2⟩
 | .own i k :: r, x :: vs, h, ha, g => by
  simp only [V03] at h
  split at h
  ·cases h
  ·rename_i hm
   obtain ⟨⟨s, s1, s2⟩, ha⟩ := ha
   refine ⟨⟨s, s1, s2, fun hk => ?_⟩, R01 hst h ha g.2⟩
   obtain ⟨s', t1, t2, t3⟩ := g.1
   rw [hst i (P01 hm) s s1] at t1
   cases t1
   exact t3 hk
 | [], _ :: _, _, _, g => g.elim
 | _ :: _, [], _, _, g => g.elim
section
variable {P : Program} {h0 : Hp} {w0 : World} {be : Nat → Nat} {oe : Nat → Value} {H : Hp} {h : Hp} {a : Act} {w : World}
theorem d0e {A : Ann} {e st2 : St} (s : Sim P h0 w0 be oe H e h a w) (hn : e.n = st2.n)
  (hb : ∀ i b, nth st2.bx i = some b → (∃ cs2 ty cs', b = .live cs2 ty ∧ nth e.bx i = some (.live cs' ty) ∧ EqC e cs2 cs') ∨ (nth e.bx i = some b ∧ L0a A.owns b = true))
  (ho : ∀ i o, nth st2.ow i = some o → (∃ s t sz by_ nn s' nn' xs, o = ⟨s, .live t sz by_ nn xs⟩ ∧ nth e.ow i = some ⟨s', .live t sz by_ nn' xs⟩ ∧ (nn = true → nn' = true)) ∧ i ∈ A.owns ∨ (nth e.ow i = some o ∧ i ∉ A.owns))
  (bd : ∀ i cs ty, nth st2.bx i = some (.live cs ty) → z00 (fun j k => ∃ s, stamp st2 j = some s ∧ k ≤ s) cs)
  (hf : ∀ t, Y0 st2 be oe (K1 st2.fr t) (a.tmps.getD t undef)) : Sim P h0 w0 be oe H st2 h a w := by
 have hst : ∀ j, j ∉ A.owns → ∀ s, stamp st2 j = some s → stamp e j = some s := fun j hj s0 hs => by
  unfold stamp at hs ⊢
  cases ho' : nth st2.ow j with
  | none => rw [ho'] at hs; cases hs
  | some o =>
   rw [ho'] at hs
   rcases ho j o ho' with ⟨_, h⟩ | ⟨h, _⟩
   ·exact absurd h hj
   ·rw [h]; exact hs
 have hlive : ∀ i cs ty, nth st2.bx i = some (.live cs ty) → ∃ cs', nth e.bx i = some (.live cs' ty) := fun i cs ty hi => by
  rcases hb i _ hi with ⟨cs2, ty2, cs', he, h2, _⟩ | ⟨h2, _⟩
  ·cases he; exact ⟨cs', h2⟩
  ·exact ⟨cs, h2⟩
 have hol : ∀ i s0 t sz by_ nn xs, nth st2.ow i = some ⟨s0, .live t sz by_ nn xs⟩ → ∃ s' nn', nth e.ow i = some ⟨s', .live t sz by_ nn' xs⟩ ∧ (nn = true → nn' = true) := fun i s0 t sz by_ nn xs hi => by
  rcases ho i _ hi with ⟨⟨s1, t1, sz1, by1, nn1, s', nn', xs1, he, h2, h3⟩, _⟩ | ⟨h2, _⟩
  ·cases he; exact ⟨s', nn', h2, h3⟩
  ·exact ⟨s0, nn, h2, id⟩
 refine ⟨s.mv, s.sub, fun i cs ty hi => ?_, fun i b hi => ?_, fun i s0 t sz by_ nn xs hi => ?_, fun i s0 v hi => ?_, fun i j cs ty cs' ty' hi hj => ?_, fun i j s0 t sz by_ nn xs s1 t1 sz1 by1 nn1 xs1 g hi hj => ?_, fun i cs ty j s0 t sz by_ nn xs hi hj => ?_, s.dfr, by rw [s.siz, hn], hf⟩
 ·rcases hb i _ hi with ⟨cs2, ty2, cs', he, h2, h3⟩ | ⟨h2, h3⟩
  ·cases he
   obtain ⟨k1, vs, k2, k3⟩ := s.box i cs' ty h2
   exact ⟨k1, vs, e05 (be := be) h3 (bd i _ _ hi) k2, k3⟩
  ·obtain ⟨k1, vs, k2, k3⟩ := s.box i cs ty h2
   exact ⟨k1, vs, R01 hst h3 (bd i _ _ hi) k2, k3⟩
 ·rcases hb i _ hi with ⟨cs2, ty2, cs', he, h2, h3⟩ | ⟨h2, h3⟩
  ·cases he
  ·exact s.pub i b h2
 ·obtain ⟨s', nn', h2, h3⟩ := hol i _ _ _ _ _ _ hi
  obtain ⟨k1, k2⟩ := s.own i _ _ _ _ _ _ h2
  refine ⟨k1, k2.imp (fun ⟨a1, a2, a3⟩ => ⟨a1, a2, ?_⟩) id⟩
  cases nn with
  | false => rfl
  | true => rw [h3 rfl] at a3; cases a3
 ·rcases ho i _ hi with ⟨⟨s1, t1, sz1, by1, nn1, s', nn', xs1, he, h2, h3⟩, _⟩ | ⟨h2, _⟩
  ·cases he
  ·exact s.frz i s0 v h2
 ·obtain ⟨c1, h1⟩ := hlive i cs ty hi
  obtain ⟨c2, h2⟩ := hlive j cs' ty' hj
  exact s.bb i j _ _ _ _ h1 h2
 ·obtain ⟨_, _, h1, _⟩ := hol i _ _ _ _ _ _ hi
  obtain ⟨_, _, h2, _⟩ := hol j _ _ _ _ _ _ hj
  exact s.oo i j _ _ _ _ _ _ _ _ _ _ _ _ g h1 h2
 ·obtain ⟨c1, h1⟩ := hlive i cs ty hi
  obtain ⟨_, _, h2, _⟩ := hol j _ _ _ _ _ _ hj
  exact s.bo i _ _ j _ _ _ _ _ _ h1 h2
end
end Go.H
namespace Go.H
set_option linter.unusedVariables false
set_option linter.unusedSimpArgs false
section
variable {P : Program} {h0 : Hp} {w0 : World} {be : Nat → Nat} {oe : Nat → Value} {H : Hp} {st : St} {h : Hp} {a : Act} {w : World}
theorem e0e (s : Sim P h0 w0 be oe H st h a w) : ∀ i cs ty, nth st.bx i = some (.live cs ty) → z00 (fun j k => ∃ s, stamp st j = some s ∧ k ≤ s) cs := by
 intro i cs ty hi
 obtain ⟨_, vs, g, _⟩ := s.box i cs ty hi
 have : ∀ (cs : List L3) (vs : List Value), T0 st oe cs vs → z00 (fun j k => ∃ s, stamp st j = some s ∧ k ≤ s) cs := by
  intro cs
  induction cs with
  | nil => intro vs _; trivial
  | cons c r ih =>
   intro vs g
   cases vs with
   | nil => exact g.elim
   | cons v vs =>
    cases c with
    | val x => exact ih vs g.2
    | own j k =>
     obtain ⟨s', h1, h2, _⟩ := g.1
     exact ⟨⟨s', h1, h2⟩, ih vs g.2⟩
 exact this cs vs g
theorem N09 (p : Nat → Prop) (h : ∃ n, p n) : ∃ n, p n ∧ ∀ m, p m → n ≤ m := by
 obtain ⟨n, hn⟩ := h
 induction n using Nat.strongRecOn with
 | _ n ih =>
  by_cases hx : ∃ m, m < n ∧ p m
  ·obtain ⟨m, hm, hp⟩ := hx
   exact ih m hm hp
  ·exact ⟨n, hn, fun m hm => Nat.le_of_not_lt fun hlt => hx ⟨m, hlt, hm⟩⟩
theorem L0b : ∀ (a b : List Value), Y0e a b = true → a.length = b.length
 | [], [], _ => rfl
 | _ :: r, _ :: r', h => by simp [L0b r r' h]
 | [], _ :: _, h => by cases h
 | _ :: _, [], h => by cases h
theorem m0g {A : Ann} {ds : List Nat} {st e st2 : St} {dyn sta : List (Nat × AV)} {v1' : List Value} {av1 : ∀ t, (K1 (P04 A.vars v1' (dyn ++ sta)) t = K1 (dyn ++ sta) t ∧ t ∉ A.vars) ∨ (∃ v, K1 (P04 A.vars v1' (dyn ++ sta)) t = .val v ∧ rdA e (K1 e.fr t) = .val v)}
  (s : Sim P h0 w0 be oe H e h a w) (hfr : st2.fr = P04 A.vars v1' (dyn ++ sta)) (hlb : st2.bx.length = st.bx.length) (hlow : ∀ i, stamp st2 i = stamp st i)
  (hoa : ∀ i k, (i ∉ A.owns ∨ i ∈ A.kept) → stamp st i = some k → stamp e i = stamp st2 i)
  (d1 : ∀ p ∈ dyn, p.1 ∈ ds) (d2 : ∀ p ∈ dyn, M09 st p.1 p.2) (d3 : ∀ t ∈ ds, t ∉ A.vars → ∃ av, (t, av) ∈ dyn)
  (s1 : ∀ t, t ∉ ds → o04 A st (K1 sta t)) (hsd : ∀ t av, (t, av) ∈ dyn → (∀ i k, av = .own i k → ∃ k', rdA e (K1 e.fr t) = .own i k') ∧ (∀ i o, av = .box i o → rdA e (K1 e.fr t) = .box i o))
  (htail : ∀ t, K1 sta t = .dead ∨ K1 e.fr t = K1 sta t) : ∀ t, Y0 st2 be oe (K1 st2.fr t) (a.tmps.getD t undef) := by
 intro t
 rw [hfr]
 have gt := s.fr t
 have gr := s.rdA gt
 rcases av1 t with ⟨h1, hv⟩ | ⟨v, h1, h2⟩
 ·rw [h1]
  rcases A06 dyn sta t with ⟨av, m1, m2⟩ | ⟨m1, m2⟩
  ·rw [m2]
   obtain ⟨q1, q2⟩ := hsd t av m1
   rcases d2 _ m1 with rfl | ⟨i, k, rfl, hs, _⟩ | ⟨i, o, rfl, hb, _⟩
   ·trivial
   ·obtain ⟨k', hk'⟩ := q1 i k rfl
    rw [hk'] at gr
    refine ⟨k, by rw [hlow, hs], Nat.le_refl _, fun _ => ?_⟩
    obtain ⟨e1, sz1, by1, nn1, xs1, hn1⟩ := E01 hk'
    exact gr.own_cur hn1
   ·rw [q2 i o rfl] at gr
    exact ⟨by rw [hlb]; exact hb, gr.2⟩
  ·rw [m2]
   have htd : t ∉ ds := fun hd => by
    obtain ⟨av, hm⟩ := d3 t hd hv
    exact m1 av hm
   rcases htail t with hdd | e1
   ·rw [hdd]; trivial
   have hs := s1 t htd
   rw [e1] at gt
   cases hl : K1 sta t with
   | val v => rw [hl] at gt; exact gt
   | hel s0 idx sz k => rw [hl] at gt; exact gt
   | dead => trivial
   | agg cs =>
    rw [hl] at gt hs
    obtain ⟨vs, k1, k2⟩ := gt
    refine ⟨vs, k1, ?_⟩
    have : ∀ (cs : List L3) (vs : List Value), B0b cs = true → T0 e oe cs vs → T0 st2 oe cs vs := by
     intro cs
     induction cs with
     | nil => intro vs _ g; cases vs <;> exact g
     | cons c r ih =>
      intro vs hno g
      cases vs with
      | nil => exact g.elim
      | cons v vs =>
       cases c with
       | val x => exact ⟨g.1, ih vs hno g.2⟩
       | own j k => cases hno
    exact this cs vs hs k2
   | box i o =>
    rw [hl] at gt hs
    exact ⟨by rw [hlb]; exact hs, gt.2⟩
   | own i k =>
    rw [hl] at gt hs
    obtain ⟨hs1, hs2⟩ := hs
    obtain ⟨s', k1, k2, k3⟩ := gt
    refine ⟨k, by rw [hlow, hs2], Nat.le_refl _, fun _ => ?_⟩
    have : stamp e i = stamp st2 i := hoa i k hs1 hs2
    rw [this, hlow, hs2] at k1
    cases k1
    exact k3 rfl
   | oel i s0 idx sz k => rw [hl] at hs; exact hs.elim
 ·rw [h1]
  rw [h2] at gr
  exact gr
theorem F05 : ∀ (l : List (Nat × Nat × Nat × Nat)) (st : St) (oe : Nat → Value) {K : St → Prop}, Sim P h0 w0 be oe H st h a w → t09 l st K → ∃ st' oe', K st' ∧ Sim P h0 w0 be oe' H st' h a w
 | [], st, oe, K, s, he => ⟨st, oe, he, s⟩
 | (t, e, sz, by_) :: r, ⟨n, fr, bx, ow⟩, oe, K, s, he => by
  simp only [t09] at he
  split at he
  ·rename_i hr hlt
   rw [R03] at he
   have gv := s.rdA (s.fr t)
   have hv : a.tmps.getD t undef = .slice none 0 0 := by
    have : rdA ⟨n, fr, bx, ow⟩ (K1 fr t) = .val (.slice none 0 0) := hr
    rw [show rdA ⟨n, fr, bx, ow⟩ (K1 (St.mk n fr bx ow).fr t) = .val (.slice none 0 0) from this] at gv
    exact gv
   have hO : o01 h H (.slice none 0 0) e sz false [] := ⟨by simp, .inl ⟨rfl, rfl, rfl⟩⟩
   obtain ⟨s1, gr⟩ := s.newOwn (by_ := by_) (fun b o hb => hb) (V1.refl s.mv.vis) hO (by simp [Value.ownBlock])
   refine F05 r _ _ (s1.refr (fr := (t, .own ow.length 0) :: fr) fun u => ?_) he
   rw [C2]
   by_cases eu : t = u
   ·subst eu
    rw [if_pos rfl, hv]
    exact ⟨0, by simp [stamp, T9], Nat.le_refl _, fun _ => by simp⟩
   ·rw [if_neg eu]
    exact s1.fr u
  ·exact he.elim
theorem p04 : ∀ (l : List (Nat × Nat × Nat × Nat × Nat)) (st : St) (oe : Nat → Value) {K : St → Prop}, Sim P h0 w0 be oe H st h a w → k06 l st K → ∃ st' oe', K st' ∧ Sim P h0 w0 be oe' H st' h a w
 | [], st, oe, K, s, he => ⟨st, oe, he, s⟩
 | (i, k, e, sz, by_) :: r, ⟨n, fr, bx, ow⟩, oe, K, s, he => by
  simp only [k06] at he
  split at he
  rotate_left
  ·exact he.elim
  rename_i cs ty hn
  split at he
  rotate_left
  ·exact he.elim
  rename_i hk
  rw [R03] at he
  have hO : o01 h H (.slice none 0 0) e sz false [] := ⟨by simp, .inl ⟨rfl, rfl, rfl⟩⟩
  obtain ⟨s1, gr⟩ := s.newOwn (by_ := by_) (fun b o hb => hb) (V1.refl s.mv.vis) hO (by simp [Value.ownBlock])
  have hlt := K8 hn
  refine p04 r _ (fun j => if j = ow.length then .slice none 0 0 else oe j) ?_ he
  have gr2 : K4 ⟨n, fr, bx, ow ++ [⟨0, .live e sz by_ false []⟩]⟩ be (fun j => if j = ow.length then .slice none 0 0 else oe j) ⟨n, fr, N6 bx i (.live (N6 cs k (.own ow.length 0)) ty), ow ++ [⟨0, .live e sz by_ false []⟩]⟩ be (fun j => if j = ow.length then .slice none 0 0 else oe j) :=
   ⟨by simp [I00], fun _ _ => rfl, fun i s h => ⟨s, h, Nat.le_refl _, fun _ => rfl⟩⟩
  have hlive : ∀ j cs' ty', nth (N6 bx i (.live (N6 cs k (.own ow.length 0)) ty)) j = some (.live cs' ty') → ∃ cs0, nth bx j = some (.live cs0 ty') := fun j cs' ty' hj => by
   rw [y4 _ _ _ hlt] at hj
   split at hj
   ·rename_i e'; subst e'; cases hj; exact ⟨cs, hn⟩
   ·exact ⟨cs', hj⟩
  refine ⟨s1.mv, s1.sub, fun j cs' ty' hj => ?_, fun j b hj => ?_, s1.own, s1.frz, fun j j' c1 t1 c2 t2 h1 h2 => ?_, s1.oo, fun j cs' ty' j' s0 e0 sz0 by0 nn xs hj hj' => ?_, s1.dfr, s1.siz, fun t => (s1.fr t).grow gr2⟩
  ·rw [y4 _ _ _ hlt] at hj
   split at hj
   ·rename_i e'
    subst e'
    cases hj
    obtain ⟨k1, vs, k2, k3⟩ := s1.box j cs ty hn
    refine ⟨k1, vs, ?_, k3⟩
    obtain ⟨v, v1, v2⟩ := k2.nth hk
    have hv : v = .slice none 0 0 := v2
    have := (k2.grow gr2).upd (k := k) (c := .own ow.length 0) (v := v) (by rw [hv]; exact ⟨0, by simp [stamp, T9], Nat.le_refl _, fun _ => by simp⟩)
    rwa [show vs.set k v = vs from by
     obtain ⟨hi, hx⟩ := List.getElem?_eq_some_iff.1 v1
     rw [← hx]; exact List.set_getElem_self hi] at this
   ·obtain ⟨k1, vs, k2, k3⟩ := s1.box j cs' ty' hj
    exact ⟨k1, vs, k2.grow gr2, k3⟩
  ·rw [y4 _ _ _ hlt] at hj
   split at hj
   ·cases hj
   ·exact s1.pub j b hj
  ·obtain ⟨c1', h1'⟩ := hlive _ _ _ h1
   obtain ⟨c2', h2'⟩ := hlive _ _ _ h2
   exact s1.bb j j' _ _ _ _ h1' h2'
  ·obtain ⟨c1', h1'⟩ := hlive _ _ _ hj
   exact s1.bo j _ _ j' _ _ _ _ _ _ h1' hj'
theorem H03 : ∀ (l : List Nat) {st : St} {h : Hp} {K : St → Hp → Prop}, Sim P h0 w0 be oe H st h a w → u09 l st h K → ∃ st' h', K st' h' ∧ Sim P h0 w0 be oe H st' h' a w
 | [], st, h, K, s, he => ⟨st, h, he, s⟩
 | t :: r, st, h, K, s, he => by
  simp only [u09] at he
  obtain ⟨⟨n, fr, bx, ow⟩, h', hk, s1, _⟩ := d9 s (s.rdA (s.fr t)) he
  dsimp only at hk
  split at hk
  ·refine H03 r (s1.refr (fr := (t, .val (a.tmps.getD t undef)) :: fr) fun u => ?_) hk
   rw [C2]
   by_cases eu : t = u
   ·subst eu
    rw [if_pos rfl]
    rfl
   ·rw [if_neg eu]
    exact s1.fr u
  ·exact hk.elim
set_option maxHeartbeats 1000000 in
theorem R0a {body : Code} {ds0 : List Nat} {Q : Ex → St → Hp → Prop}
  (ih : ∀ (Q : Ex → St → Hp → Prop) (st : St) (h : Hp) (a : Act) (w : World) (be : Nat → Nat) (oe : Nat → Value) (H : Hp), Sim P h0 w0 be oe H st h a w → ev P body Q st h → body.wp P (I08 P h0 w0 Q) a w)
  (s : Sim P h0 w0 be oe H st h a w) (he : C0b (fun Q => ev P body Q) ds0 Q st h) : (Code.loop body).wp P (I08 P h0 w0 Q) a w := by
 obtain ⟨A, I, μ, he⟩ := he
 obtain ⟨st, oe, he, s⟩ := F05 _ _ _ s he
 obtain ⟨st, oe, he, s⟩ := p04 _ _ _ s he
 obtain ⟨st, h, he, s⟩ := H03 _ s he
 unfold J0a at he
 obtain ⟨v1, hv1, he, hz⟩ := a05 st _ he
 obtain ⟨v2, he, hbx⟩ := G0b st _ he
 obtain ⟨os0, hos, ⟨hI, he⟩, how⟩ := H0b st _ he
 rw [M07] at he
 obtain ⟨dyn, he, d1, d2, d3, _⟩ := F03 A st _ _ he (by simp)
 obtain ⟨sta, hbody, s1⟩ := E03 A ds0 st _ he
 have d1' : ∀ p ∈ dyn, p.1 ∈ ds0 := fun p hp => (d1 p hp).resolve_right (by simp)
 have s1' : ∀ t, t ∉ ds0 → o04 A st (K1 sta t) := fun t ht => by
  rcases s1 t ht with h | ⟨_, h⟩
  ·rw [h]; trivial
  ·exact h
 have hrun := fun (vs : List Value) (hvs : vs.length = (v1 ++ v2).length) (os : List (List (List Value))) (hosl : os.length = os0.length) => m04 _ (l04 _ hbody vs hvs) os hosl
 let hd : List Value → List BSt → List Own → St := fun v1 bx ow => ⟨st.n, P04 A.vars v1 (dyn ++ sta), bx, ow⟩
 let Inv : Nat → Act → World → Prop := fun m a w => ∃ (vs : List Value) (os : List (List (List Value))) (u1 u2 : List Value) (bx : List BSt) (ow : List Own) (h' : Hp) (be : Nat → Nat) (oe : Nat → Value) (H : Hp),
  vs.length = (v1 ++ v2).length ∧ os.length = os0.length ∧ vs = u1 ++ u2 ∧ u1.length = A.vars.length ∧ (∀ K2, k01 A.boxes u2 st.bx K2 = K2 bx) ∧ (∀ K2, l01 A.owns os st.ow K2 = K2 ow) ∧
   atI A I μ m vs os h' ∧ Sim P h0 w0 be oe H (hd u1 bx ow) h' a w
 have bd0 := e0e s
 have hbase : ∀ m a w, Inv m a w → body.wp P (Exit.then (fun a w => ∃ m', Inv m' a w ∧ m' < m) (I08 P h0 w0 Q)) a w := by
  rintro m a w ⟨vs, os, u1, u2, bx, ow, h', be, oe, H, hvs, hosl, rfl, hu1, hsb, hso, hI, hS⟩
  have hr := N0d (hrun _ hvs os hosl) hI
  rw [← hu1, D03, hsb, hso] at hr
  refine Code.wp_mono (fun e a' w' hp => ?_) (ih _ _ _ _ _ _ _ _ hS hr)
  cases e with
  | normal =>
   obtain ⟨e, h2, be2, oe2, H2, hend, s2⟩ := hp
   dsimp only at hend
   obtain ⟨e, h2, hend, s2⟩ := H03 _ s2 hend
   unfold O0d at hend
   split at hend
   ·rename_i hbn hsd
    obtain ⟨hpop, hsx, hsw, hg⟩ := hend
    have hn := Nat.eq_of_beq_eq_true hbn
    have hx := G02 0 _ _ hsx
    have hw' := H02 0 _ _ hsw
    simp only [Nat.zero_add] at hx hw'
    unfold J0a at hg
    obtain ⟨x1, hx1, hg, hz2⟩ := a05 e _ hg
    have hin : ∀ (is : List Nat) {K : List Value → Prop}, l06 is e K → (∀ i ∈ is, i ∈ A.boxes) → (∀ i ∈ is, (nth st.bx i).isSome = true) →
      ∀ i ∈ is, ∃ cs ty cs', nth st.bx i = some (.live cs ty) ∧ nth e.bx i = some (.live cs' ty) ∧ ShC e cs cs' := by
     intro is K _ hA hsome i hi
     cases hb : nth st.bx i with
     | none => have := hsome i hi; rw [hb] at this; cases this
     | some b =>
      rcases hx i b hb with ⟨_, cs, ty, cs', rfl, h2, h3⟩ | ⟨h1, _⟩
      ·exact ⟨cs, ty, cs', rfl, h2, h3⟩
      ·exact absurd (hA i hi) h1
    have hsome : ∀ i ∈ A.boxes, (nth st.bx i).isSome = true := by
     have gen : ∀ (is : List Nat) (vs : List Value) (bx : List BSt), (k01 is vs bx fun _ => True) → ∀ i ∈ is, (nth bx i).isSome = true := by
      intro is
      induction is with
      | nil => intro vs bx _ i hi; cases hi
      | cons j r ih =>
       intro vs bx hs i hi
       simp only [k01] at hs
       split at hs
       ·rename_i cs ty hn
        rcases List.mem_cons.1 hi with rfl | hi
        ·rw [hn]; rfl
        ·have hc : ∀ (cs : List L3) (vs : List Value) (K : List L3 → List Value → Prop), M9 cs vs K → ∃ a b, K a b := by
          intro cs
          induction cs with
          | nil => intro vs K h; exact ⟨_, _, h⟩
          | cons c r ih =>
           intro vs K h
           cases c with
           | val v =>
            cases vs with
            | nil => exact h.elim
            | cons v' vs => obtain ⟨a, b, h⟩ := ih _ _ h; exact ⟨_, _, h⟩
           | own i k => obtain ⟨a, b, h⟩ := ih _ _ h; exact ⟨_, _, h⟩
         obtain ⟨a, b, hs⟩ := hc _ _ _ hs
         have := ih _ _ hs i hi
         rw [y4 _ _ _ (K8 hn)] at this
         split at this
         ·rename_i e'; rw [e', hn]; rfl
         ·exact this
       ·exact hs.elim
     exact gen A.boxes v2 st.bx (by rw [hbx]; trivial)
    have hsomeO : ∀ i ∈ A.owns, (nth st.ow i).isSome = true := by
     have gen : ∀ (is : List Nat) (vs : List (List (List Value))) (ow : List Own), (l01 is vs ow fun _ => True) → ∀ i ∈ is, (nth ow i).isSome = true := by
      intro is
      induction is with
      | nil => intro vs bx _ i hi; cases hi
      | cons j r ih =>
       intro vs ow hs i hi
       cases vs with
       | nil => exact hs.elim
       | cons x vs =>
        simp only [l01] at hs
        split at hs
        ·rename_i hn
         rcases List.mem_cons.1 hi with rfl | hi
         ·rw [hn]; rfl
         ·have := ih _ _ hs i hi
          rw [y4 _ _ _ (K8 hn)] at this
          split at this
          ·rename_i e'; rw [e', hn]; rfl
          ·exact this
        ·exact hs.elim
     exact gen A.owns os0 st.ow (by rw [how]; trivial)
    obtain ⟨x2, hg, bx2, t1, t2, t3, t4, t5⟩ := I0b e A.boxes st.bx (hin _ hg (fun _ h => h) hsome) hg
    have hinO : ∀ i ∈ A.owns, ∃ s e1 sz by_ nn xs0 s' nn' xs, nth st.ow i = some ⟨s, .live e1 sz by_ nn xs0⟩ ∧ nth e.ow i = some ⟨s', .live e1 sz by_ nn' xs⟩ ∧ (nn = true → nn' = true) := fun i hi => by
     cases hb : nth st.ow i with
     | none => have := hsomeO i hi; rw [hb] at this; cases this
     | some b =>
      rcases hw' i b hb with ⟨_, s, e1, sz, by_, nn, xs0, s', nn', xs, rfl, h2, h3, _⟩ | ⟨h1, _⟩
      ·exact ⟨s, e1, sz, by_, nn, xs0, s', nn', xs, rfl, h2, h3⟩
      ·exact absurd hi h1
    obtain ⟨os2, o0, hg, ow2, o1, o2, o3, o4⟩ := J0b e A.owns st.ow hinO hg
    split at hg
    rotate_left
    ·exact hg.elim
    rename_i hlen
    rw [← hx1, D03, t1, o1] at hg
    obtain ⟨m2, hI2, hlt⟩ := a0f hg
    have hstamp : ∀ i, stamp (hd x1 bx2 ow2) i = stamp st i := fun i => by
     have := o4 i
     unfold stamp
     simp only [hd]
     cases h1 : nth ow2 i <;> cases h2 : nth st.ow i <;> rw [h1, h2] at this <;> simp at this <;> simp [this]
    refine ⟨m2, ⟨x1 ++ x2, os2, x1, x2, bx2, ow2, h2, be2, oe2, H2, ?_, ?_, rfl, hx1, t1, o1, hI2, ?_⟩, hlt⟩
    ·rw [← hvs]; exact L0b _ _ hlen
    ·rw [o0]
     have : os0.length = A.owns.length := hos
     rw [this]
    ·refine d0e (A := A) s2 hn ?_ ?_ ?_ ?_
     ·intro i b hi
      by_cases hm : i ∈ A.boxes
      ·obtain ⟨cs2, ty, cs', k1, k2, k3⟩ := t4 i hm
       have : nth bx2 i = some b := hi
       rw [k1] at this
       cases this
       exact .inl ⟨cs2, ty, cs', rfl, k2, k3⟩
      ·have : nth bx2 i = some b := hi
       rw [t3 i hm] at this
       rcases hx i b this with ⟨h1, _⟩ | ⟨_, h2, h3⟩
       ·exact absurd h1 hm
       ·exact .inr ⟨h2, h3⟩
     ·intro i o hi
      by_cases hm : i ∈ A.owns
      ·obtain ⟨s0, e1, sz, by_, nn, s', nn', xs, k1, k2, k3⟩ := o3 i hm
       have : nth ow2 i = some o := hi
       rw [k1] at this
       cases this
       exact .inl ⟨⟨s0, e1, sz, by_, nn, s', nn', xs, rfl, k2, k3⟩, hm⟩
      ·have : nth ow2 i = some o := hi
       rw [o2 i hm] at this
       rcases hw' i o this with ⟨h1, _⟩ | ⟨_, h2⟩
       ·exact absurd h1 hm
       ·exact .inr ⟨h2, hm⟩
     ·intro i cs ty hi
      have := t5 _ bd0 i cs ty hi
      have hh : (fun j k => ∃ s, stamp (hd x1 bx2 ow2) j = some s ∧ k ≤ s) = (fun j k => ∃ s, stamp st j = some s ∧ k ≤ s) := by
       funext j k; rw [hstamp]
      rw [hh]
      exact this
     ·refine m0g (A := A) (ds := ds0) (st := st) (av1 := fun t => hz2 (dyn ++ sta) t) s2 rfl t2 hstamp ?_ d1' d2 d3 s1' (B06 dyn hsd) (G03 _ hpop)
      intro i k hi hk
      show stamp e i = stamp (hd x1 bx2 ow2) i
      rw [hstamp i]
      cases hb : nth st.ow i with
      | none => unfold stamp at hk; rw [hb] at hk; cases hk
      | some b =>
       rcases hw' i b hb with ⟨h1, s0, e1, sz, by_, nn, xs0, s', nn', xs, rfl, h2, _, h4⟩ | ⟨_, h2⟩
       ·have := h4 (hi.resolve_left (fun h => h h1))
        simp [stamp, hb, h2, this]
       ·unfold stamp
        rw [hb, h2]
   ·exact hend.elim
  | exit i => exact hp
  | ret => exact hp
  | _ => exact hp
 have hS0 : Sim P h0 w0 be oe H (hd v1 st.bx st.ow) h a w := by
  refine s.refr (fr := P04 A.vars v1 (dyn ++ sta)) fun t => ?_
  have gt := s.fr t
  have gr := s.rdA gt
  rcases hz (dyn ++ sta) t with ⟨h1, hv⟩ | ⟨v, h1, h2⟩
  ·rw [h1]
   rcases A06 dyn sta t with ⟨av, m1, m2⟩ | ⟨m1, m2⟩
   ·rw [m2]
    rcases d2 _ m1 with rfl | ⟨i, k, rfl, _, hr⟩ | ⟨i, o, rfl, _, hr⟩
    ·trivial
    ·rw [hr] at gr; exact gr
    ·rw [hr] at gr; exact gr
   ·rw [m2]
    have htd : t ∉ ds0 := fun hd => by
     obtain ⟨av, hm⟩ := d3 t hd hv
     exact m1 av hm
    rcases s1 t htd with h | ⟨h, _⟩
    ·rw [h]; trivial
    ·rw [h]; exact gr
  ·rw [h1]
   rw [h2] at gr
   exact gr
 obtain ⟨m0, hI⟩ := M0d (μ := μ) hI
 have hI0 : Inv m0 a w := ⟨v1 ++ v2, os0, v1, v2, st.bx, st.ow, h, be, oe, H, rfl, rfl, rfl, hv1, hbx, how, hI, hS0⟩
 classical
 let M : Act → World → Nat := fun a w => if hx : ∃ m, Inv m a w then Classical.choose (N09 _ hx) else 0
 refine wp_loop (fun a w => ∃ m, Inv m a w) M ⟨_, hI0⟩ fun a w hx => ?_
 have hM : M a w = Classical.choose (N09 _ hx) := by simp only [M, dif_pos hx]
 refine Code.wp_mono (fun e a' w' hq => ?_) (hbase _ a w (Classical.choose_spec (N09 _ hx)).1)
 cases e with
 | normal =>
  obtain ⟨m', hm', hlt⟩ := hq
  refine ⟨⟨m', hm'⟩, ?_⟩
  have hx' : ∃ m, Inv m a' w' := ⟨m', hm'⟩
  have : M a' w' = Classical.choose (N09 _ hx') := by simp only [M, dif_pos hx']
  rw [hM, this]
  exact Nat.lt_of_le_of_lt ((Classical.choose_spec (N09 _ hx')).2 m' hm') hlt
 | _ => exact hq
end
end Go.H
namespace Go.H
set_option linter.unusedVariables false
set_option linter.unusedSimpArgs false
section
variable {P : Program} {h0 : Hp} {w0 : World} {be : Nat → Nat} {oe : Nat → Value} {H : Hp} {st : St} {h : Hp} {a : Act} {w : World}
theorem f0e (c : Code) : ∀ (Q : Ex → St → Hp → Prop) (st : St) (h : Hp) (a : Act) (w : World) (be : Nat → Nat) (oe : Nat → Value) (H : Hp), Sim P h0 w0 be oe H st h a w → ev P c Q st h → c.wp P (I08 P h0 w0 Q) a w := by
 induction c with
 | skip => exact fun Q st h a w be oe H s he => wp_skip ⟨st, h, be, oe, H, he, s⟩
 | region id ops d => exact fun Q st h a w be oe H s he => J08 s he
 | seq x y ihx ihy =>
  intro Q st h a w be oe H s he
  refine wp_seq (Code.wp_mono (fun e a w hp => ?_) (ihx _ _ _ _ _ _ _ _ s he))
  cases e with
  | normal => obtain ⟨st, h, be, oe, H, k, s⟩ := hp; exact ihy _ _ _ _ _ _ _ _ s k
  | exit i => exact hp
  | ret => exact hp
  | _ => exact hp
 | cond c x y ihx ihy =>
  intro Q st h a w be oe H s he
  simp only [ev] at he
  split at he
  ·rename_i b hb
   have g := s.rdO c
   rw [hb] at g
   exact wp_cond_split g (fun e => ihx _ _ _ _ _ _ _ _ s (he.1 e)) (fun e => ihy _ _ _ _ _ _ _ _ s (he.2 e))
  ·exact he.elim
 | block id c ih =>
  intro Q st h a w be oe H s he
  refine wp_block (Code.wp_mono (fun e a w hp => ?_) (ih _ _ _ _ _ _ _ _ s he))
  cases e with
  | normal => exact hp
  | exit i =>
   obtain ⟨st, h, be, oe, H, k, s⟩ := hp
   simp only [Exit.inBlock]
   dsimp only at k
   cases hb : Nat.beq i id with
   | true =>
    rw [hb] at k
    rw [if_pos (Nat.eq_of_beq_eq_true hb)]
    exact ⟨st, h, be, oe, H, k, s⟩
   | false =>
    rw [hb] at k
    rw [if_neg (Nat.ne_of_beq_eq_false hb)]
    exact ⟨st, h, be, oe, H, k, s⟩
  | ret => exact hp
  | _ => exact hp
 | loop c ih => exact fun Q st h a w be oe H s he => R0a ih s he
 | exit i => exact fun Q st h a w be oe H s he => wp_exit ⟨st, h, be, oe, H, he, s⟩
 | ret => exact fun Q st h a w be oe H s he => wp_ret ⟨st, h, be, oe, H, he, s⟩
 | _ => exact fun Q st h a w be oe H s he => he.elim
def j0f (tmps : Array Value) : ResultVar → Sem Value
 | .tmp t => pure (tmps.getD t undef)
 | .cell a t => do loadVar t (← asAddr (tmps.getD a undef))
theorem I03 : ∀ (l : List ResultVar) (st : St) (h : Hp) {K : List Value → St → Hp → Prop}, Sim P h0 w0 be oe H st h a w → M0a P l st h K →
  ∃ vs st' h', K vs st' h' ∧ Sim P h0 w0 be oe H st' h' a w ∧ (l.mapM (j0f a.tmps)).run P w = .ok vs w
 | [], st, h, K, s, he => ⟨[], st, h, he, s, rfl⟩
 | .tmp t :: r, st, h, K, s, he => by
  obtain ⟨st1, h1, e1, s1, _⟩ := d9 s (s.rdA (s.fr t)) he
  obtain ⟨vs, st2, h2, e2, s2, hr⟩ := I03 r st1 h1 s1 e1
  refine ⟨_, st2, h2, e2, s2, ?_⟩
  simp only [List.mapM_cons, Sem.run_bind, j0f, Sem.run_pure, Result.andThen_ok, hr]
 | .cell t ty :: r, st, h, K, s, he => by
  simp only [M0a] at he
  split at he
  ·rename_i i off hr
   split at he
   ·rename_i cs ty' hn
    have g := s.rdA (s.fr t)
    rw [hr] at g
    obtain ⟨h1, vs, h2, h3⟩ := s.box i cs ty' hn
    obtain ⟨av, v, k1, k2, k3⟩ := R.load_row (H := H) (b := be i) (o := 0) (be := be) he h2 (fun j v hj => by simp [Hp.cell, h3, hj])
    obtain ⟨st1, h1, e1, s1, _⟩ := d9 s k2 k1
    obtain ⟨vs', st2, h2', e2, s2, hr'⟩ := I03 r st1 h1 s1 e1
    refine ⟨_, st2, h2', e2, s2, ?_⟩
    have hld : (loadVar ty ⟨be i, off, none⟩).run P w = .ok v w := by
     obtain ⟨x, hx, e⟩ := R.wpR_sound _ _ w s.mv.vis (k3 (fun x _ => x = v) rfl)
     rw [Nat.zero_add] at hx
     rw [hx, e]
    have hx : a.tmps.getD t undef = ptr (be i) off := g.2
    simp only [List.mapM_cons, Sem.run_bind, j0f, hx, ptr, asAddr, Sem.run_pure, Result.andThen_ok, hld, hr']
   ·exact he.elim
  ·exact he.elim
theorem O07 : ∀ (args : List Value) (i s : Nat), K1 (Y03 i args) s = .dead ∨ K1 (Y03 i args) s = .val (if i ≤ s then args.getD (s - i) undef else undef)
 | [], i, s => .inl rfl
 | v :: r, i, s => by
  simp only [Y03]
  rw [C2]
  by_cases e : i = s
  ·subst e; right; simp
  ·rw [if_neg e]
   rcases O07 r (i + 1) s with h' | h'
   ·exact .inl h'
   right
   rw [h']
   by_cases h : i ≤ s
   ·rw [if_pos h, if_pos (by omega)]
    have : s - i = (s - (i + 1)) + 1 := by omega
    rw [this, List.getD_cons_succ]
   ·rw [if_neg h, if_neg (by omega)]
theorem V1.less {h h' H : Hp} {w w' : World} (m : V1 h w H w') (hs : ∀ b o, h' b = some o → H b = some o) : V1 h w h' w' := by
 refine ⟨m.os, m.tape, m.output, m.size, m.keep, fun b o hb => m.vis b o (hs b o hb), fun b hb => ?_, m.fz, m.dn⟩
 cases hc : h' b with
 | none => exact absurd hc hb
 | some o => exact m.fresh b (by rw [hs b o hc]; simp)
theorem S0a {f : FuncId} {fn : Func} {args : List Value} {T : Value → Hp → Prop} (hf : P.funcs[f]? = some fn) (he : e0g P fn args h T) : Tr P f args.toArray h T := by
 refine ⟨fun w hv => ?_⟩
 unfold e0g at he
 split at he
 ·rename_i c hb
  split at he
  ·rename_i hle
   have hle := Nat.le_of_ble_eq_true hle
   have s0 : Sim P h w (fun _ => 0) (fun _ => undef) h ⟨fn.ntmps, Y03 0 args, [], []⟩ h { tmps := args.toArray ++ Array.replicate (fn.ntmps - args.toArray.size) undef, defers := [] } w := by
    refine ⟨V1.refl hv, fun _ _ h => h, (fun i cs ty hi => nomatch hi), (fun i b hi => nomatch hi), (fun i s e sz by_ nn xs hi => nomatch hi), (fun i s v hi => nomatch hi), (fun i j cs ty cs' ty' hi => nomatch hi),
     (fun i j s e sz by_ nn xs s' e' sz' by' nn' xs' g hi => nomatch hi), (fun i cs ty j s e sz by_ nn xs hi => nomatch hi), rfl, by simp; omega, fun s => ?_⟩
    rcases O07 args 0 s with h' | h'
    ·exact (show Y0 _ _ _ (K1 (Y03 0 args) s) _ from by rw [h']; trivial)
    show Y0 _ _ _ (K1 (Y03 0 args) s) _
    rw [h']
    simp only [Nat.zero_le, if_true, Nat.sub_zero]
    show _ = _
    simp only [Array.getD_eq_getD_getElem?]
    rw [Array.getElem?_append]
    simp only [List.size_toArray, List.getElem?_toArray]
    split
    ·simp [List.getD_eq_getElem?_getD]
    ·rename_i hn
     rw [List.getD_eq_getElem?_getD, List.getElem?_eq_none (by omega)]
     rw [Array.getElem?_replicate]
     split <;> rfl
   refine calls_of_wp hf hb (Code.wp_mono (fun e a' w' hp => ?_) (f0e c _ _ _ _ _ _ _ _ s0 he))
   have fin : ∀ {st h' be oe H}, M0a P fn.results.toList st h' (fun vs _ h => T (y09 vs) h) → Sim P h w be oe H st h' a' w' → a'.defers = [] ∧ ∃ v, (results fn a'.tmps).run P w' = .ok v w' ∧ ∃ v' h', Ending.returned v = .returned v' ∧ T v' h' ∧ V1 h w h' w' := by
    intro st h' be oe H hk s
    obtain ⟨vs, st2, h2, e2, s2, hr⟩ := I03 _ _ _ s hk
    refine ⟨s.dfr, y09 vs, ?_, y09 vs, h2, rfl, e2, s2.mv.less s2.sub⟩
    have hres : results fn a'.tmps = (fn.results.mapM (j0f a'.tmps) >>= fun vs => pure (if h : vs.size = 1 then vs[0] else .tuple vs)) := by
     unfold results
     congr 1
    rw [hres, Array.mapM_eq_mapM_toList]
    simp only [Sem.run_bind, Sem.run_map, hr, Result.andThen_ok, Sem.run_pure]
    cases vs with
    | nil => rfl
    | cons x r => cases r <;> rfl
   cases e with
   | normal => obtain ⟨st, h', be, oe, H, hk, s⟩ := hp; exact fin hk s
   | ret => obtain ⟨st, h', be, oe, H, hk, s⟩ := hp; exact fin hk s
   | exit i => obtain ⟨st, h', be, oe, H, hk, s⟩ := hp; exact hk.elim
   | _ => exact hp.elim
  ·exact he.elim
 ·exact he.elim
end
end Go.H
namespace Go.H
open Go.RowKit Go.ChangeShapes Go.WideShapes Go.ChangeAt
set_option linter.unusedVariables false
theorem Tr.val {P : Program} {f : FuncId} {args : Array Value} {h : Hp} {x : Value} {T : Value → Hp → Prop} (t : Tr P f args h fun v h' => v = x ∧ h' = h) (hx : T x h) : Tr P f args h T :=
 t.mono fun _ _ ⟨e1, e2⟩ => by rw [e1, e2]; exact hx
theorem Tr.calls {P : Program} {f : FuncId} {args : Array Value} {W : World} {x : Value} (t : Tr P f args (fun b => W.heap[b]?) fun v h' => v = x ∧ ∀ b o, W.heap[b]? = some o → h' b = some o) :
  Calls P f args W fun e W' => e = .returned x ∧ Below W.heap.size W W' ∧ ∀ a : Addr, a.block < W.heap.size → W'.frozen? a = W.frozen? a := by
 refine (t.run W (fun b o h => h)).mono ?_
 rintro e W' ⟨v, h', rfl, ⟨rfl, hh⟩, m⟩
 refine ⟨rfl, ⟨m.os, m.tape, m.output, m.size, fun k hk => ?_⟩, m.fz⟩
 have : W.heap[k]? = some W.heap[k] := by simp [hk]
 rw [this]
 exact m.vis _ _ (hh k _ this)
theorem w64 {x : Int} (h1 : -9223372036854775808 ≤ x) (h2 : x ≤ 9223372036854775807) : IntKind.i64.wrap x = x := by
 simp [IntKind.wrap, IntKind.signed, IntKind.bits]
 omega
theorem T0a {n : Nat} (h : n ≤ maxLen) : n ≤ 9223372036854775807 := by
 simp [maxLen] at h
 omega
def J0 (x : Int) : Prop := -9223372036854775808 ≤ x ∧ x ≤ 9223372036854775807
theorem Z0g {x : Int} (h : (Lit.int .i64 x).wf = true) : J0 x := by
 simpa [Lit.wf, IntKind.min, IntKind.max, IntKind.signed, IntKind.bits, J0] using h
section
variable {H : Type} {enc : TypeId × Value → H} {P : Program}
theorem s03 (hl : laidOutB P = true) {W W' : World} (hb : Below W.heap.size W W') {sp : Nat → Bool} : ∀ {ts : List TypeId} {vs : List Value} {ds : List (DataW H)} {ps : List MemPlace},
  (∀ t ∈ ts, P.readableRec t = true ∧ t < P.types.size) → DataW.TrodAll enc P W 0 (fun _ => true) true ts vs ds ps → (∀ p ∈ ps, p.block < W.heap.size) → (∀ p ∈ ps, sp p.block = true) →
  DataW.TrodAll enc P W' 0 sp true ts vs ds ps
 | [], vs, ds, ps, _, h, _, _ => by
  obtain ⟨rfl, rfl, rfl⟩ := trodAll_nil h
  exact rfl
 | t :: ts, vs, ds, ps, ht, h, hlt, hs => by
  obtain ⟨v, vs', d, ds', p, q, rfl, rfl, rfl, h1, h2⟩ := trodAll_cons h
  obtain ⟨r1, r2⟩ := ht t (List.mem_cons_self ..)
  refine ⟨p, q, WideElems.Trod_stays hl r1 r2 h1 (fun x hx => hb.same (hlt x (List.mem_append_left _ hx))) (fun x hx => hs x (List.mem_append_left _ hx)), ?_, rfl⟩
  exact s03 hl hb (fun t ht' => ht t (List.mem_cons_of_mem _ ht')) h2 (fun x hx => hlt x (List.mem_append_right _ hx)) (fun x hx => hs x (List.mem_append_right _ hx))
theorem L05 {f : Func} {s : ChangeSpec} {apart fresh handsOn again : Bool} {W W' : World} {args : Array Value} {v : Value} {ds gs : List (DataW H)} {before pa pv : List MemPlace}
  (hW : DataW.Whole enc P f.params.toList s.vars apart W args.toList ds gs before)
  (hres : ∀ (b : Nat) (sp : Nat → Bool) (hd : Bool), DataW.TrodAll enc P W' b sp hd f.resultTypes.toList (v.resultList f.resultTypes.size) (s.fn H (ds ++ gs)).results [])
  (hargs : ∀ sp : Nat → Bool, (∀ p ∈ before, sp p.block = true) → DataW.TrodAll enc P W' 0 sp true f.params.toList args.toList (s.fn H (ds ++ gs)).args pa)
  (hvars : ∀ sp : Nat → Bool, (∀ p ∈ before, sp p.block = true) → DataW.TrodVars enc P W' sp s.vars (s.fn H (ds ++ gs)).vars pv)
  (hps : before = pa ++ pv) (hk : W.keptBut W' (· ∈ before)) (hfz : ∀ a : Addr, a.block < W.heap.size → W'.frozen? a = W.frozen? a)
  (hok : ∀ (j : Nat) (t : TypeId) (r : Value), f.resultTypes[j]? = some t → (v.resultList f.resultTypes.size)[j]? = some r → Value.okWide P W' .any 0 t r) :
  s.post enc P f apart fresh handsOn again W args v W' := by
 have hlt := fun p hp => hW.lt (p := p) hp
 refine ⟨ds, gs, before, [], pa, pv, hW, hres _ _ _, hargs _ (fun p hp => by simpa using hlt p hp), hvars _ (fun p hp => by simpa using hlt p hp), World.keptBut_mono (fun p hp => ⟨hp, .inr (by rwa [hps, List.mem_append] at hp)⟩) hk, fun _ => ?_⟩
 obtain ⟨_, _, _, _, _, hz, hn⟩ := hW
 have hq : ([] ++ pa) ++ pv = before := by simp [hps]
 refine ⟨hok, _, _, ([] ++ pa) ++ pv, ⟨[] ++ pa, pv, trodAll_append (hargs _ (fun _ _ => rfl)) (hres _ _ _), hvars _ (fun _ _ => rfl), rfl, ?_, ?_⟩, fun p hp _ => by rwa [hq] at hp⟩
 ·intro b off hp
  rw [hq] at hp
  rw [hfz _ (hlt _ hp)]
  exact hz b off hp
 ·intro ha
  rw [hq]
  exact hn ha
theorem g0e {f : Func} {s : ChangeSpec} {apart fresh handsOn again : Bool} {W W' : World} {args : Array Value} {ds gs : List (DataW H)} {before : List MemPlace} {tb : TypeId}
  (hl : laidOutB P = true) (ht : ∀ t ∈ f.params.toList, P.readableRec t = true ∧ t < P.types.size) (hv : s.vars = []) (hfn : s.fn H (ds ++ gs) = { results := [.lit (.bool true)], args := ds })
  (hr : f.resultTypes = #[tb]) (htb : P.underlying tb = some .bool) (hW : DataW.Whole enc P f.params.toList s.vars apart W args.toList ds gs before)
  (hB : Below W.heap.size W W') (hfz : ∀ a : Addr, a.block < W.heap.size → W'.frozen? a = W.frozen? a) : s.post enc P f apart fresh handsOn again W args (.bool true) W' := by
 have hlt := fun p hp => hW.lt (p := p) hp
 have hW' := hW
 obtain ⟨p, q, hA, hV, rfl, _, _⟩ := hW
 rw [hv] at hV
 obtain ⟨rfl, rfl⟩ := trodVars_none hV
 refine L05 (pa := p) (pv := []) hW' (fun _ _ _ => ?_) (fun sp hsp => ?_) (fun sp hsp => ?_) rfl (hB.frame _) hfz (ok_one hr rfl (okWide_bool_mk htb _))
 ·rw [hfn, hr]
  exact trodAll_mk1 (shut_bool htb _)
 ·rw [hfn]
  exact s03 hl hB ht hA (fun x hx => hlt x (List.mem_append_left _ hx)) (fun x hx => hsp x (List.mem_append_left _ hx))
 ·rw [hfn, hv]
  exact rfl
end
end Go.H
namespace Go.H
set_option linter.unusedVariables false
set_option linter.unusedSimpArgs false
def U0a : Op → Bool
 | .move _ | .assign _ | .load .. | .binOp .. | .unOp .. | .index .. | .field .. | .fieldAddr .. | .indexAddr .. | .pick .. | .build .. | .convert .. => true
 | _ => false
def q04 (b : Bool) (st : St) (K : St → Prop) : Prop := match b with
 | true => K st
 | false => match st with
  | ⟨n, fr, bx, ow⟩ => Q7 bx fun bx => Q7 ow fun ow => K ⟨n, fr, bx, ow⟩
theorem C06 (b : Bool) (st : St) (K : St → Prop) : q04 b st K = K st := by
 cases b
 ·obtain ⟨n, fr, bx, ow⟩ := st
  simp only [q04, w8]
 ·rfl
def K08 (d : Option Tmp) (i : Nat) (ch : List (Nat × Bool)) (av : AV) (rs : RS) (K : RS → Prop) : Prop := match rs with
 | ⟨⟨n, fr, bx, ow⟩, h, gf, bs⟩ => match d with
  | none => K ⟨⟨n, fr, bx, ow⟩, h, gf, bs⟩
  | some d => match Nat.blt d n, T03 ⟨⟨n, fr, bx, ow⟩, h, gf, bs⟩ d with
   | true, false => match ch with
    | [] => R8 av fun av => match av with
     | .val (.bool e) => K ⟨⟨n, (d, .val (.bool e)) :: fr, bx, ow⟩, h, gf, ⟨i, d, e, []⟩ :: bs⟩
     | _ => K ⟨⟨n, (d, av) :: fr, bx, ow⟩, h, gf, bs⟩
    | p :: ch => R8 av fun av => match av with
     | .val (.bool e) => K ⟨⟨n, (d, .dead) :: fr, bx, ow⟩, h, (d, p :: ch, .val (.bool e)) :: gf, ⟨i, d, e, p :: ch⟩ :: bs⟩
     | _ => K ⟨⟨n, (d, .dead) :: fr, bx, ow⟩, h, (d, p :: ch, av) :: gf, bs⟩
   | _, _ => False
theorem L08 (d : Option Tmp) (i : Nat) (ch : List (Nat × Bool)) (av : AV) (rs : RS) (K : RS → Prop) : K08 d i ch av rs K = r07 d i ch av rs K := by
 obtain ⟨⟨n, fr, bx, ow⟩, h, gf, bs⟩ := rs
 cases d with
 | none => rfl
 | some d =>
  simp only [K08, r07]
  generalize T03 _ d = u
  generalize Nat.blt d n = b
  cases b
  ·rfl
  cases u
  ·cases ch with
   | nil =>
    simp only [y8]
    cases av with
    | val v => cases v <;> rfl
    | _ => rfl
   | cons p ch =>
    simp only [y8]
    cases av with
    | val v => cases v <;> rfl
    | _ => rfl
  ·rfl
def f05 (P : Program) (l : List Oper) : Nat → RS → (RS → Prop) → Prop :=
 List.rec (motive := fun _ => Nat → RS → (RS → Prop) → Prop) (fun _ rs K => K rs) (fun o _ ih i rs K => match rs with
  | ⟨⟨n, fr, bx, ow⟩, h, gf, bs⟩ => match o.guard, F0a o.op with
   | none, false => I5 P o ⟨n, fr, bx, ow⟩ h fun av st h => q04 (U0a o.op) st fun st => K08 o.dst i [] av ⟨st, h, gf, bs⟩ fun rs => ih (i + 1) rs K
   | _, _ => match I6 bs o.guard with
    | some ch => match cB bs ch with
     | some c => evG P o ch c ⟨⟨n, fr, bx, ow⟩, h, gf, bs⟩ fun av => K08 o.dst i ch av ⟨⟨n, fr, bx, ow⟩, h, gf, bs⟩ fun rs => ih (i + 1) rs K
     | none => False
    | none => False) l
theorem O09 (P : Program) (o : Oper) (r : List Oper) (i n : Nat) (fr : List (Nat × AV)) (bx : List BSt) (ow : List Own) (h : Hp) (gf : List (Nat × List (Nat × Bool) × AV)) (bs : List BE) (K : RS → Prop) :
  f05 P (o :: r) i ⟨⟨n, fr, bx, ow⟩, h, gf, bs⟩ K = match o.guard, F0a o.op with
   | none, false => I5 P o ⟨n, fr, bx, ow⟩ h fun av st h => q04 (U0a o.op) st fun st => K08 o.dst i [] av ⟨st, h, gf, bs⟩ fun rs => f05 P r (i + 1) rs K
   | _, _ => match I6 bs o.guard with
    | some ch => match cB bs ch with
     | some c => evG P o ch c ⟨⟨n, fr, bx, ow⟩, h, gf, bs⟩ fun av => K08 o.dst i ch av ⟨⟨n, fr, bx, ow⟩, h, gf, bs⟩ fun rs => f05 P r (i + 1) rs K
     | none => False
    | none => False := rfl
theorem P07 (P : Program) : ∀ (l : List Oper) (i : Nat) (rs : RS) (K : RS → Prop), f05 P l i rs K = y05 P l i rs K
 | [], i, rs, K => rfl
 | o :: r, i, ⟨⟨n, fr, bx, ow⟩, h, gf, bs⟩, K => by
  simp only [O09, y05, C06, L08, P07 P r]
  rfl
def h0e (P : Program) (l : List Oper) : Nat → RS → (RS → Prop) → Prop :=
 List.rec (motive := fun _ => Nat → RS → (RS → Prop) → Prop) (fun _ rs K => K rs) (fun o _ ih i rs K => match rs with
  | ⟨⟨n, fr, bx, ow⟩, h, gf, bs⟩ => match I6 bs o.guard with
   | some ch => match cB bs ch with
    | some c => evG P o ch c ⟨⟨n, fr, bx, ow⟩, h, gf, bs⟩ fun av => K08 o.dst i ch av ⟨⟨n, fr, bx, ow⟩, h, gf, bs⟩ fun rs => ih (i + 1) rs K
    | none => False
   | none => False) l
theorem V0c (P : Program) (o : Oper) (r : List Oper) (i n : Nat) (fr : List (Nat × AV)) (bx : List BSt) (ow : List Own) (h : Hp) (gf : List (Nat × List (Nat × Bool) × AV)) (bs : List BE) (K : RS → Prop) :
  h0e P (o :: r) i ⟨⟨n, fr, bx, ow⟩, h, gf, bs⟩ K = match I6 bs o.guard with
   | some ch => match cB bs ch with
    | some c => evG P o ch c ⟨⟨n, fr, bx, ow⟩, h, gf, bs⟩ fun av => K08 o.dst i ch av ⟨⟨n, fr, bx, ow⟩, h, gf, bs⟩ fun rs => h0e P r (i + 1) rs K
    | none => False
   | none => False := rfl
theorem M0b (P : Program) : ∀ (l : List Oper) (i : Nat) (rs : RS) (K : RS → Prop), h0e P l i rs K = evQ P l i rs K
 | [], i, rs, K => rfl
 | o :: r, i, ⟨⟨n, fr, bx, ow⟩, h, gf, bs⟩, K => by
  simp only [V0c, evQ, L08, M0b P r]
  rfl
def V05 : List (Nat × AV) → (List (Nat × AV) → Prop) → Prop
 | [], K => K []
 | (s, av) :: r, K => R8 av fun av => V05 r fun r => K ((s, av) :: r)
theorem D06 : ∀ (l : List (Nat × AV)) (K : List (Nat × AV) → Prop), V05 l K = K l
 | [], K => rfl
 | (s, av) :: r, K => by simp only [V05, y8, D06 r]
def k0f {α : Type} : List α → List α → (List α → Prop) → Prop
 | [], b, K => K b
 | x :: r, b, K => k0f r b fun l => K (x :: l)
theorem N0b {α : Type} : ∀ (a b : List α) (K : List α → Prop), k0f a b K = K (a ++ b)
 | [], b, K => rfl
 | x :: r, b, K => by simp only [k0f, N0b r, List.cons_append]
def n0g (A : Ann) (dyn sta : List (Nat × AV)) (st0 : St) (I : S04) (μ : f02) (vs0 : List Value) (m : Nat) (st : St) (h : Hp) : Prop :=
 match Nat.beq st.n st0.n, z05 st0 st dyn with
 | true, true => E07 st.fr sta = I0c sta ∧ Q04 A st0 st 0 st0.bx st.bx ∧ R04 A 0 st0.ow st.ow ∧
   J0a A st fun vs os => Q7 vs fun vs => match Y0e vs vs0 with
    | true => w02 A.vars.length vs fun _ v2 => k01 A.boxes v2 st0.bx fun _ => l01 A.owns os st0.ow fun _ => Z0e A I μ m vs os h
    | false => False
 | _, _ => False
theorem l0f (A : Ann) (dyn sta : List (Nat × AV)) (st0 : St) (I : S04) (μ : f02) (vs0 : List Value) (m : Nat) (st : St) (h : Hp) :
  n0g A dyn sta st0 I μ vs0 m st h = O0d A dyn sta st0 I μ vs0 m st h := by
 simp only [n0g, O0d, w8]
 rfl
def i0e (body : (Ex → St → Hp → Prop) → St → Hp → Prop) (ds0 : List Nat) (Q : Ex → St → Hp → Prop) (h : Hp) (A : Ann) (I : S04) (μ : f02) (st : St) : Prop := match st with
 | ⟨n, fr, bx, ow⟩ => Q7 fr fun fr => Q7 bx fun bx0 => Q7 ow fun ow0 => J0a A ⟨n, fr, bx0, ow0⟩ fun vs0 os0 => Q7 vs0 fun vs0 => w09 A I vs0 os0 h ∧
  O04 ds0 fun ds => n03 A ⟨n, fr, bx0, ow0⟩ ds [] fun dyn => m01 A ds ⟨n, fr, bx0, ow0⟩ fr fun sta => V05 sta fun sta => k0f dyn sta fun ds2 =>
   W03 vs0.length fun vs => X03 os0.length fun os => x09 A I μ vs os fun m h' =>
    w02 A.vars.length vs fun v1 v2 => k01 A.boxes v2 bx0 fun bx => l01 A.owns os ow0 fun ow => Q7 (P04 A.vars v1 ds2) fun fr1 => Q7 bx fun bx => Q7 ow fun ow =>
     body (fun e st' h'' => match e with
      | .normal => u09 A.pubs st' h'' fun st' h'' => n0g A dyn sta ⟨n, fr, bx0, ow0⟩ I μ vs m st' h''
      | e => Q e st' h'') ⟨n, fr1, bx, ow⟩ h'
def M08 (body : (Ex → St → Hp → Prop) → St → Hp → Prop) (ds0 : List Nat) (Q : Ex → St → Hp → Prop) (st : St) (h : Hp) : Prop :=
 ∃ (A : Ann) (I : S04) (μ : f02), t09 A.nils st fun st => k06 A.nilsB st fun st => u09 A.pubs st h fun st h => i0e body ds0 Q h A I μ st
theorem W0c (body : (Ex → St → Hp → Prop) → St → Hp → Prop) (ds0 : List Nat) (Q : Ex → St → Hp → Prop) (st : St) (h : Hp) : M08 body ds0 Q st h = C0b body ds0 Q st h := by
 have hB : ∀ h A I μ, i0e body ds0 Q h A I μ = fun st => J0a A st fun vs0 os0 => w09 A I vs0 os0 h ∧
  O04 ds0 fun ds => n03 A st ds [] fun dyn => m01 A ds st st.fr fun sta =>
   W03 vs0.length fun vs => X03 os0.length fun os => x09 A I μ vs os fun m h' =>
    w02 A.vars.length vs fun v1 v2 => k01 A.boxes v2 st.bx fun bx => l01 A.owns os st.ow fun ow =>
     body (fun e st' h'' => match e with
      | .normal => u09 A.pubs st' h'' fun st' h'' => O0d A dyn sta st I μ vs m st' h''
      | e => Q e st' h'') ⟨st.n, P04 A.vars v1 (dyn ++ sta), bx, ow⟩ h' := by
  intro h A I μ
  funext st
  obtain ⟨n, fr, bx0, ow0⟩ := st
  simp only [i0e, w8, D06, N0b, l0f]
 simp only [M08, C0b, hB]
 rfl
def O0b (P : Program) (o : Oper) (st : St) (h : Hp) (K : St → Hp → Prop) : Prop := match st with
 | ⟨n, fr, bx, ow⟩ => I5 P o ⟨n, fr, bx, ow⟩ h fun av st h => q04 (U0a o.op) st fun st => K08 o.dst 0 [] av ⟨st, h, [], []⟩ fun rs => match rs with
  | ⟨st, h, _, _⟩ => K st h
theorem j0e (P : Program) (o : Oper) : O0b P o = K0d P o := by
 funext st h K
 obtain ⟨n, fr, bx, ow⟩ := st
 simp only [O0b, K0d, C06, L08]
def evF (P : Program) (c : Code) : (Ex → St → Hp → Prop) → St → Hp → Prop :=
 Code.rec (motive := fun _ => (Ex → St → Hp → Prop) → St → Hp → Prop)
  (fun Q st h => Q .normal st h)
  (fun _ ops d Q st h => match d with
   | false => match W0e P ops.toList with
    | true => H00 st.n ops.toList = true ∧ evU P ops.toList 0 [] [] st h fun st h => Q .normal st h
    | false => f05 P ops.toList 0 ⟨st, h, [], []⟩ fun rs => match rs with
     | ⟨st, h, _, _⟩ => Q .normal st h
   | true => ((P.follows .mixedOrders = true ∧ Region.lexB .any ops = true) ∧
     h0e P ops.toList 0 ⟨st, h, [], []⟩ fun rs => match rs with
      | ⟨st, h, _, _⟩ => Q .normal st h) ∨
     ((P.follows .mixedOrders = true ∧ W6 st.n ops.toList = true) ∧ evS P ops.toList [] st h fun st h => Q .normal st h) ∨
     (match J0d ops.toList with
    | none => (P.follows .mixedOrders = true ∧ W6 st.n ops.toList = true) ∧ G9 P st h ops.toList 0 [] [] [] fun L X E => ∃ c, (J8 E = true ∧ W00 X (X ++ E) (E.drop c) = true) ∧ evC ops.size P c E L st h fun st h => Q .normal st h
    | some o => (P.follows .mixedOrders = true ∧ (W6 st.n (a8 ops.toList) && i06 ops.toList 0) = true) ∧ G9 P st h (a8 ops.toList) 0 [] [] [] fun L X E => ∃ c, (J8 E = true ∧ W00 X (X ++ E) (E.drop c) = true) ∧ evC (a8 ops.toList).length P c E L st h fun st h => O0b P o st h fun st h => Q .normal st h) ∨
     ((P.follows .mixedOrders = true ∧ H00 st.n ops.toList = true) ∧ evU P ops.toList 0 [] [] st h fun st h => Q .normal st h))
  (fun _ _ iha ihb Q st h => iha (fun e st h => match e with
   | .normal => ihb Q st h
   | e => Q e st h) st h)
  (fun c _ _ ihx ihy Q st h => match rdO st c with
   | .val (.bool b) => P0d b (ihx Q st h) (ihy Q st h)
   | _ => False)
  (fun id _ ih Q st h => ih (fun e st h => match e with
   | .exit i => match Nat.beq i id with
    | true => Q .normal st h
    | false => Q (.exit i) st h
   | e => Q e st h) st h)
  (fun body ih Q st h => M08 (fun Q => ih Q) (s07 body []) Q st h)
  (fun _ _ _ _ _ _ _ _ _ => False)
  (fun id Q st h => Q (.exit id) st h)
  (fun _ _ _ _ _ => False)
  (fun _ _ _ _ => False)
  (fun _ _ _ _ => False)
  (fun Q st h => Q .ret st h)
  (fun _ _ _ _ => False) c
theorem o0g (P : Program) (c : Code) : evF P c = ev P c := by
  induction c with
  | region id ops d =>
    funext Q st h
    cases d
    · show (match W0e P ops.toList with
        | true => H00 st.n ops.toList = true ∧ evU P ops.toList 0 [] [] st h fun st h => Q .normal st h
        | false => f05 P ops.toList 0 ⟨st, h, [], []⟩ fun rs => match rs with
          | ⟨st, h, _, _⟩ => Q .normal st h) = _
      simp only [ev, P07]
      rfl
    · show (((P.follows .mixedOrders = true ∧ Region.lexB .any ops = true) ∧
          h0e P ops.toList 0 ⟨st, h, [], []⟩ fun rs => match rs with
            | ⟨st, h, _, _⟩ => Q .normal st h) ∨
          ((P.follows .mixedOrders = true ∧ W6 st.n ops.toList = true) ∧ evS P ops.toList [] st h fun st h => Q .normal st h) ∨
          (match J0d ops.toList with
        | none => (P.follows .mixedOrders = true ∧ W6 st.n ops.toList = true) ∧ G9 P st h ops.toList 0 [] [] [] fun L X E => ∃ c, (J8 E = true ∧ W00 X (X ++ E) (E.drop c) = true) ∧ evC ops.size P c E L st h fun st h => Q .normal st h
        | some o => (P.follows .mixedOrders = true ∧ (W6 st.n (a8 ops.toList) && i06 ops.toList 0) = true) ∧ G9 P st h (a8 ops.toList) 0 [] [] [] fun L X E => ∃ c, (J8 E = true ∧ W00 X (X ++ E) (E.drop c) = true) ∧ evC (a8 ops.toList).length P c E L st h fun st h => O0b P o st h fun st h => Q .normal st h) ∨
          ((P.follows .mixedOrders = true ∧ H00 st.n ops.toList = true) ∧ evU P ops.toList 0 [] [] st h fun st h => Q .normal st h)) = _
      simp only [ev, M0b, j0e]
      rfl
  | seq a b iha ihb =>
    funext Q st h
    show evF P a (fun e st h => match e with
      | .normal => evF P b Q st h
      | e => Q e st h) st h = _
    simp only [ev, iha, ihb]; rfl
  | cond c x y ihx ihy =>
    funext Q st h
    show (match rdO st c with
      | .val (.bool b) => P0d b (evF P x Q st h) (evF P y Q st h)
      | _ => False) = _
    simp only [ev, ihx, ihy]; rfl
  | block id c ih =>
    funext Q st h
    show evF P c (fun e st h => match e with
      | .exit i => match Nat.beq i id with
        | true => Q .normal st h
        | false => Q (.exit i) st h
      | e => Q e st h) st h = _
    simp only [ev, ih]; rfl
  | loop c ih =>
    funext Q st h
    show M08 (fun Q => evF P c Q) (s07 c []) Q st h = _
    simp only [ev, ih, W0c]
  | _ => rfl
def N0f (P : Program) (fn : Func) (args : List Value) (h : Hp) (T : Value → Hp → Prop) : Prop :=
 match fn.body with
 | some c => match Nat.ble args.length fn.ntmps with
  | true => Q7 (Y03 0 args) fun fr => evF P c (fun e st h => match e with
   | .exit _ => False
   | _ => M0a P fn.results.toList st h fun vs _ h => T (y09 vs) h) ⟨fn.ntmps, fr, [], []⟩ h
  | false => False
 | none => False
theorem B3 {P : Program} {f : FuncId} {fn : Func} {args : List Value} {h : Hp} {T : Value → Hp → Prop} (hf : P.funcs[f]? = some fn) (he : N0f P fn args h T) : Tr P f args.toArray h T := by
 refine S0a hf ?_
 unfold N0f at he
 unfold e0g
 simp only [w8, o0g] at he
 exact he
end Go.H
