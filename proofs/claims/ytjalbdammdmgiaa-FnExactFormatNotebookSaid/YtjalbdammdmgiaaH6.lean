/- Plain laws over the model: an operation does what the evaluator says. -/
import Derived.Test.YtjalbdammdmgiaaH5
namespace Go.H
set_option linter.unusedVariables false

theorem wpS_bind {P : Program} {α β : Type} (s : Sem α) (f : α → Sem β) : ∀ (h : Hp) (K : β → Hp → Prop), wpS P (s >>= f) h K = wpS P s h (fun x h' => wpS P (f x) h' K) := by
  change ∀ (h : Hp) (K : β → Hp → Prop), wpS P (s.bind f) h K = wpS P s h (fun x h' => wpS P (f x) h' K)
  induction s with
  | pure a => intro h K; rfl
  | load m a k ih => intro h K; simp only [Sem.bind, wpS, ih]
  | store m a v k ih => intro h K; simp only [Sem.bind, wpS, ih]
  | new o k ih => intro h K; simp only [Sem.bind, wpS, ih]
  | shape r k ih => intro h K; simp only [Sem.bind, wpS, ih]
  | freeze a n k ih => intro h K; rfl
  | frozen a k ih => intro h K; simp only [Sem.bind, wpS, ih]
  | getObj r k ih => intro h K; simp only [Sem.bind, wpS, ih]
  | setObj r o k ih => intro h K; simp only [Sem.bind, wpS, ih]
  | choose q k ih => intro h K; simp only [Sem.bind, wpS, ih]
  | sys c k ih => intro h K; rfl
  | program k ih => intro h K; simp only [Sem.bind, wpS, ih]
  | mark m k ih => intro h K; simp only [Sem.bind, wpS, ih]
  | halt x => intro h K; rfl
theorem wpS_pure {P : Program} {α : Type} (x : α) (h : Hp) (K : α → Hp → Prop) : wpS P (pure x) h K = K x h := rfl

theorem evP_run {P : Program} {α : Type} (s : Sem α) {x : α} (he : evP P s = some x) : ∀ w : World, s.run P w = .ok x w := by
  induction s with
  | pure a => intro w; simp only [evP, Option.some.injEq] at he; subst he; rfl
  | program k ih => intro w; exact ih _ he w
  | mark m k ih => intro w; exact ih he w
  | _ => simp [evP] at he

theorem mapL_eq (ρ : Operand → Value) : ∀ l : List Operand, mapL ρ l = l.map ρ
  | [] => rfl
  | x :: r => by simp only [mapL, List.map_cons, mapL_eq ρ r]
theorem appL_eq : ∀ a b : List Value, appL a b = a ++ b
  | [], b => rfl
  | x :: r, b => by simp only [appL, List.cons_append, appL_eq r b]
theorem constL_eq : ∀ l : List Operand, constL l = l.map fun | .const _ => true | _ => false
  | [] => rfl
  | .const _ :: r => by simp only [constL, List.map_cons, constL_eq r]
  | .tmp _ :: r => by simp only [constL, List.map_cons, constL_eq r]
  | .global _ :: r => by simp only [constL, List.map_cons, constL_eq r]
  | .func _ :: r => by simp only [constL, List.map_cons, constL_eq r]
theorem execL_eq (ρ : Operand → Value) (o : Oper) : execL ρ o = execOp ρ o := by
  unfold execL
  split
  · rename_i c hop
    obtain ⟨cal, as, ts⟩ := c
    split
    · rename_i b hb
      simp only at hb
      subst hb
      unfold execOp
      rw [hop]
      simp only [resolve, mapL_eq, constL_eq]
      rw [show (List.map ρ as.toList).toArray = as.map ρ from by apply Array.ext'; simp]
      have hl : ∀ f : Operand → Bool, (List.map f as.toList).toArray = as.map f := fun f => by apply Array.ext'; simp
      rw [hl]
      rfl
    · rfl
  · rename_i fn first captured hop
    unfold execOp
    rw [hop]
    simp only [mapL_eq]
    rw [show (List.map ρ first.toList).toArray = first.map ρ from by apply Array.ext'; simp, show (List.map ρ captured.toList).toArray = captured.map ρ from by apply Array.ext'; simp]
  · rfl
theorem callF_run {P : Program} {ρ : Operand → Value} {o : Oper} {f : FuncId} {l : List Value} (hc : callF ρ o = some (f, l)) (ho : okF P f = true) (w : World) : (execOp ρ o).run P w = .ok (.enter f l.toArray) w := by
  unfold callF at hc
  split at hc
  · rename_i c hop
    obtain ⟨cal, as, ts⟩ := c
    split at hc
    · rename_i x hx
      simp only at hx
      subst hx
      split at hc
      · rename_i f' first captured hv
        cases hc
        unfold okF at ho
        split at ho
        · rename_i fn hf
          split at ho
          · rename_i bd hb
            split at ho
            · cases ho
            · rename_i hn
              unfold execOp
              rw [hop]
              simp only [resolve, hv, Deferred.ofValue, Sem.run_bind, Sem.run_pure, Result.andThen_ok, invoke, callFunc, program, Sem.run, hf, hn, hb, Bool.false_eq_true, if_false, Option.isNone_some]
              congr 2
              apply Array.ext'
              simp [appL_eq, mapL_eq]
          · cases ho
        · cases ho
      · cases hc
    · cases hc
  · cases hc

section
variable {P : Program} {h0 : Hp} {w0 : World} {be : Nat → Nat} {oe : Nat → Value} {H : Hp} {st : St} {h : Hp} {a : Act} {w : World}

theorem Grow.trans {st st1 st2 : St} {be be1 be2 : Nat → Nat} {oe oe1 oe2 : Nat → Value} (g : Grow st be oe st1 be1 oe1) (k : Grow st1 be1 oe1 st2 be2 oe2) : Grow st be oe st2 be2 oe2 := by
  refine ⟨Nat.le_trans g.bl k.bl, fun i hi => ?_, fun i s hs => ?_⟩
  · rw [k.be i (Nat.lt_of_lt_of_le hi g.bl), g.be i hi]
  · obtain ⟨s1, a1, a2, a3⟩ := g.sm i s hs
    obtain ⟨s2, b1, b2, b3⟩ := k.sm i s1 a1
    exact ⟨s2, b1, Nat.le_trans a2 b2, fun e => by rw [b3 (by omega), a3 (by omega)]⟩

/-! ### from own to looked at -/
theorem rfyOwn_sound (s : Sim P h0 w0 be oe H st h a w) {i k : Nat} {x : Value} (g : ∃ t, stamp st i = some t ∧ k ≤ t ∧ (k = t → x = oe i)) {K : Value → St → Hp → Prop}
    (he : rfyOwn i k st h K) : ∃ st' h', K x st' h' ∧ Sim P h0 w0 be oe H st' h' a w ∧ Grow st be oe st' be oe ∧ st'.bx = st.bx := by
  unfold rfyOwn at he
  obtain ⟨t, g1, _, g3⟩ := g
  split at he
  · rename_i s' e sz by_ nn xs hn
    split at he
    · rename_i hb
      have hk := Nat.eq_of_beq_eq_true hb
      have ht : t = s' := by simp [stamp, hn] at g1; exact g1.symm
      have hx : x = oe i := g3 (by rw [ht, hk])
      obtain ⟨h', f1, f2, f3⟩ := s.freeze hn
      rw [hx]
      exact ⟨_, h', he _ _ f1, f2, f3, rfl⟩
    · exact he.elim
  · rename_i s' v hn
    split at he
    · rename_i hb
      have hk := Nat.eq_of_beq_eq_true hb
      have ht : t = s' := by simp [stamp, hn] at g1; exact g1.symm
      have hx : x = v := by rw [g3 (by rw [ht, hk]), s.frz i _ v hn]
      rw [hx]
      exact ⟨st, h, he, s, Grow.refl _ _ _, rfl⟩
    · exact he.elim
  · exact he.elim

theorem rfyCells_sound : ∀ (cs : List Cell) {st : St} {h : Hp} {vs : List Value} {K : List Value → St → Hp → Prop}, Sim P h0 w0 be oe H st h a w → GoodCs st oe cs vs → rfyCells cs st h K →
    ∃ st' h', K vs st' h' ∧ Sim P h0 w0 be oe H st' h' a w ∧ Grow st be oe st' be oe ∧ st'.bx = st.bx
  | [], st, h, [], K, s, _, he => ⟨st, h, he, s, Grow.refl _ _ _, rfl⟩
  | .val v :: r, st, h, x :: vs, K, s, g, he => by
    have hx : x = v := g.1
    subst hx
    obtain ⟨st', h', k1, k2⟩ := rfyCells_sound r s g.2 he
    exact ⟨st', h', k1, k2⟩
  | .own i k :: r, st, h, x :: vs, K, s, g, he => by
    obtain ⟨st1, h1, e1, s1, g1, hb1⟩ := rfyOwn_sound s g.1 he
    obtain ⟨st2, h2, e2, s2, g2, hb2⟩ := rfyCells_sound r s1 (g.2.grow g1) e1
    exact ⟨st2, h2, e2, s2, g1.trans g2, hb2.trans hb1⟩
  | [], _, _, _ :: _, _, _, g, _ => g.elim
  | _ :: _, _, _, [], _, _, g, _ => g.elim

theorem rfy_sound (s : Sim P h0 w0 be oe H st h a w) {av : AV} {x : Value} (g : Good st be oe av x) {K : Value → St → Hp → Prop} (he : rfy av st h K) :
    ∃ st' h', K x st' h' ∧ Sim P h0 w0 be oe H st' h' a w ∧ Grow st be oe st' be oe := by
  cases av with
  | val v => have hx : x = v := g; subst hx; exact ⟨st, h, he, s, Grow.refl _ _ _⟩
  | own i k => obtain ⟨st', h', k1, k2, k3, _⟩ := rfyOwn_sound s g he; exact ⟨st', h', k1, k2, k3⟩
  | box i off =>
    have hx := g.2
    simp only [rfy, rfyBox] at he
    split at he
    · rename_i cells ty hn
      obtain ⟨hb, vs, gv, hH⟩ := s.box i cells ty hn
      obtain ⟨st1, h1, e1, s1, g1, eb⟩ := rfyCells_sound cells s gv he
      have hn1 : nth st1.bx i = some (.live cells ty) := by rw [eb]; exact hn
      obtain ⟨p1, p2, p3⟩ := s1.publ hn1 hH
      rw [hx]
      exact ⟨_, _, e1 (be i) p1, p2, g1.trans p3⟩
    · rename_i b hn
      rw [hx, s.pub i b hn]
      exact ⟨st, h, he, s, Grow.refl _ _ _⟩
    · exact he.elim
  | agg cs =>
    obtain ⟨vs, rfl, gv⟩ := g
    obtain ⟨st', h', k1, k2, k3, _⟩ := rfyCells_sound cs s gv he
    exact ⟨st', h', k1, k2, k3⟩
  | _ => exact he.elim

theorem rfyOps_sound : ∀ (l : List Operand) {st : St} {h : Hp} {K : List (Nat × Value) → St → Hp → Prop}, Sim P h0 w0 be oe H st h a w → rfyOps l st h K →
    ∃ vs st' h', K vs st' h' ∧ Sim P h0 w0 be oe H st' h' a w ∧ Grow st be oe st' be oe ∧ (∀ p ∈ vs, p.2 = a.eval (.tmp p.1)) ∧ (∀ x ∈ l, (∃ t v, x = .tmp t ∧ (t, v) ∈ vs) ∨ (∀ ws, rho ws x = a.eval x))
  | [], st, h, K, s, he => ⟨[], st, h, he, s, Grow.refl _ _ _, by simp, by simp⟩
  | .tmp t :: r, st, h, K, s, he => by
    obtain ⟨st1, h1, e1, s1, g1⟩ := rfy_sound s (s.rdO (.tmp t)) he
    obtain ⟨vs, st2, h2, e2, s2, g2, k1, k2⟩ := rfyOps_sound r s1 e1
    refine ⟨_, st2, h2, e2, s2, g1.trans g2, ?_, ?_⟩
    · intro p hp
      rcases List.mem_cons.1 hp with rfl | hp
      · rfl
      · exact k1 p hp
    · intro x hx
      rcases List.mem_cons.1 hx with rfl | hx
      · exact .inl ⟨t, _, rfl, List.mem_cons_self ..⟩
      · rcases k2 x hx with ⟨t', v', rfl, hm⟩ | hf
        · exact .inl ⟨t', v', rfl, List.mem_cons_of_mem _ hm⟩
        · exact .inr hf
  | .const v :: r, st, h, K, s, he => by
    obtain ⟨vs, st2, h2, e2, s2, g2, k1, k2⟩ := rfyOps_sound r s he
    refine ⟨vs, st2, h2, e2, s2, g2, k1, fun x hx => ?_⟩
    rcases List.mem_cons.1 hx with rfl | hx
    · exact .inr fun _ => rfl
    · exact k2 x hx
  | .func f :: r, st, h, K, s, he => by
    obtain ⟨vs, st2, h2, e2, s2, g2, k1, k2⟩ := rfyOps_sound r s he
    refine ⟨vs, st2, h2, e2, s2, g2, k1, fun x hx => ?_⟩
    rcases List.mem_cons.1 hx with rfl | hx
    · exact .inr fun _ => rfl
    · exact k2 x hx
  | .global _ :: _, _, _, _, _, he => he.elim

theorem lookV_mem : ∀ (vs : List (Nat × Value)) (t : Nat) (y : Value), (∀ p ∈ vs, p.1 = t → p.2 = y) → (∃ v, (t, v) ∈ vs) → lookV vs t = y
  | [], t, y, _, h => by obtain ⟨v, hv⟩ := h; cases hv
  | (k, v) :: r, t, y, hall, h => by
    simp only [lookV]
    split
    · rename_i hb
      exact hall (k, v) (List.mem_cons_self ..) (Nat.eq_of_beq_eq_true hb)
    · rename_i hb
      refine lookV_mem r t y (fun p hp => hall p (List.mem_cons_of_mem _ hp)) ?_
      obtain ⟨u, hu⟩ := h
      rcases List.mem_cons.1 hu with e | hu
      · cases e; exact absurd rfl (Nat.ne_of_beq_eq_false hb)
      · exact ⟨u, hu⟩

theorem exec_same {o : Oper} {vs : List (Nat × Value)} (hs : isSel o.op = false) (h1 : ∀ p ∈ vs, p.2 = a.eval (.tmp p.1))
    (h2 : ∀ x ∈ o.op.operands.toList, (∃ t v, x = .tmp t ∧ (t, v) ∈ vs) ∨ (∀ ws, rho ws x = a.eval x)) : execOp (rho vs) o = execOp a.eval o := by
  refine execOp_congr o (fun cs b he => by rw [he] at hs; cases hs) fun x hx => ?_
  rcases h2 x (by simpa using hx) with ⟨t, v, rfl, hm⟩ | hf
  · exact lookV_mem vs t _ (fun p hp e => by rw [h1 p hp, e]) ⟨v, hm⟩
  · exact hf vs

/-! ### what stands behind an operation -/
def Nx (P : Program) (h0 : Hp) (w0 : World) (st0 : St) (be0 : Nat → Nat) (oe0 : Nat → Value) (K : AV → St → Hp → Prop) (a : Act) (d : Option Tmp) : Act → World → Prop := fun a' w' =>
  ∃ av st' h' v be oe H, K av st' h' ∧ a' = a.put d v ∧ Sim P h0 w0 be oe H st' h' a w' ∧ Good st' be oe av v ∧ Grow st0 be0 oe0 st' be oe

theorem wp_value {o : Oper} {next : Act → World → Prop} {Q : Exit → Act → World → Prop} {v : Value} {w' : World} (hr : (execOp a.eval o).run P w = .ok (.value v) w')
    (hn : next (a.put o.dst v) w') : o.wp P a w next Q := by
  unfold Oper.wp; rw [hr]; exact hn
theorem wp_unit {o : Oper} {next : Act → World → Prop} {Q : Exit → Act → World → Prop} {w' : World} (hr : (execOp a.eval o).run P w = .ok .skip w')
    (hn : next (a.put o.dst undef) w') : o.wp P a w next Q := by
  unfold Oper.wp; rw [hr]; exact hn

theorem callF_same {o : Oper} {vs : List (Nat × Value)} (h1 : ∀ p ∈ vs, p.2 = a.eval (.tmp p.1))
    (h2 : ∀ x ∈ o.op.operands.toList, (∃ t v, x = .tmp t ∧ (t, v) ∈ vs) ∨ (∀ ws, rho ws x = a.eval x)) : callF (rho vs) o = callF a.eval o := by
  have key : ∀ x ∈ o.op.operands.toList, rho vs x = a.eval x := fun x hx => by
    rcases h2 x hx with ⟨t, v, rfl, hm⟩ | hf
    · exact lookV_mem vs t _ (fun p hp e => by rw [h1 p hp, e]) ⟨v, hm⟩
    · exact hf vs
  unfold callF
  split
  · rename_i c hop
    split
    · rename_i x hx
      have hin : ∀ y, y = x ∨ y ∈ c.args.toList → y ∈ o.op.operands.toList := fun y hy => by
        rw [hop]
        simp only [Op.operands, Call.operands, hx]
        simpa using hy
      rw [key x (hin x (.inl rfl))]
      have : mapL (rho vs) c.args.toList = mapL a.eval c.args.toList := by
        rw [mapL_eq, mapL_eq]
        exact List.map_congr_left fun y hy => key y (hin y (.inr hy))
      rw [this]
    · rfl
  · rfl

theorem semOp_sound (s : Sim P h0 w0 be oe H st h a w) {o : Oper} {K : AV → St → Hp → Prop} {Q : Exit → Act → World → Prop} (he : semOp P o st h K) : o.wp P a w (Nx P h0 w0 st be oe K a o.dst) Q := by
  unfold semOp at he
  split at he
  · exact he.elim
  rename_i hsel
  obtain ⟨vs, st1, h1, e1, s1, gr, k1, k2⟩ := rfyOps_sound _ s he
  rw [execL_eq, exec_same hsel k1 k2, callF_same k1 k2] at e1
  split at e1
  · rename_i f l hcf
    split at e1
    · rename_i hok
      unfold Oper.wp
      rw [callF_run hcf hok, Oper.upon_enter]
      refine (e1.run w (vis_h s1)).mono ?_
      rintro e w'' ⟨v, h3, rfl, hk, hm3⟩
      obtain ⟨H3, s3⟩ := s1.moved hm3
      exact ⟨.val v, st1, h3, v, be, oe, H3, hk, rfl, s3, rfl, gr⟩
    · exact e1.elim
  · obtain ⟨n, h2, w', hr, hn, hm⟩ := wpS_sound _ _ _ (vis_h s1) e1
    obtain ⟨H2, s2⟩ := s1.moved hm
    cases n with
    | value v => exact wp_value hr ⟨.val v, st1, h2, v, be, oe, H2, hn, rfl, s2, rfl, gr⟩
    | skip => exact wp_unit hr ⟨.val undef, st1, h2, undef, be, oe, H2, hn, rfl, s2, rfl, gr⟩
    | _ => exact hn.elim

theorem Sim.still (s : Sim P h0 w0 be oe H st h a w) {hf : Hp} {w' : World} (hsub : ∀ b o, hf b = some o → H b = some o) (m : Moved hf w hf w') : Sim P h0 w0 be oe H st h a w' := by
  refine ⟨s.mv.trans ⟨m.os, m.tape, m.output, m.size, ?_, ?_, fun b hb => .inl hb, m.fz⟩, s.sub, s.box, s.pub, s.own, s.frz, s.bb, s.oo, s.bo, s.dfr, s.siz, s.fr⟩
  · intro b hb hn
    refine m.keep b hb ?_
    cases hc : hf b with
    | none => rfl
    | some o => rw [hsub b o hc] at hn; cases hn
  · intro b o hb
    cases hc : hf b with
    | some o' =>
      have := hsub b o' hc
      rw [this] at hb; cases hb
      exact m.vis b _ hc
    | none => rw [m.keep b (s.mv.vis.lt (by rw [hb]; simp)) hc]; exact s.mv.vis b o hb

theorem borOp_sound (s : Sim P h0 w0 be oe H st h a w) {o : Oper} {K : AV → St → Hp → Prop} {Q : Exit → Act → World → Prop} (he : borOp P o st h K) : o.wp P a w (Nx P h0 w0 st be oe K a o.dst) Q := by
  unfold borOp at he
  split at he
  · exact he.elim
  rename_i hsel
  obtain ⟨vs, st1, h1, e1, s1, _, k1, k2⟩ := rfyOps_sound _ s he
  rw [callF_same k1 k2] at e1
  split at e1
  · rename_i f l hcf
    split at e1
    · rename_i hok
      unfold Oper.wp
      rw [callF_run hcf hok, Oper.upon_enter]
      refine (e1.run w (vis_h s1)).mono ?_
      rintro e w'' ⟨v, h3, rfl, ⟨rfl, hk⟩, hm3⟩
      exact ⟨.val v, st, h, v, be, oe, H, hk, rfl, s.still s1.sub hm3, rfl, Grow.refl _ _ _⟩
    · exact e1.elim
  · exact e1.elim

theorem semB_sound (s : Sim P h0 w0 be oe H st h a w) {o : Oper} {K : AV → St → Hp → Prop} {Q : Exit → Act → World → Prop} (he : semB P o st h K) : o.wp P a w (Nx P h0 w0 st be oe K a o.dst) Q := by
  unfold semB at he
  split at he
  · rcases he with he | he
    · exact semOp_sound s he
    · exact borOp_sound s he
  · exact semOp_sound s he
end
end Go.H
