/- Plain laws over the model: one operation under guards does what the evaluator says. -/
import Derived.Test.YtjalbdammdmgiaaH15
namespace Go.H
set_option linter.unusedVariables false
set_option linter.unusedSimpArgs false
section
variable {P : Program} {h0 : Hp} {w0 : World} {be : Nat → Nat} {oe : Nat → Value} {H : Hp} {rs : RS} {a : Act} {w : World} {o : Oper} {ops : Array Oper} {i : Nat}

theorem imp_spec {bs : List BE} {ch : List (Nat × Bool)} {c : Bool} {X : Prop} (h : imp ch c X) (hc : c = true) : X := by
  unfold imp at h
  split at h
  · exact h
  · exact h hc

def CW (H : Hp) (w : World) : World → Prop := fun w' => Moved H w H w'

theorem q_run {v : Value} (hr : ∀ w', Vis H w' → (execOp a.eval o).run P w' = .ok (.value v) w') : ∀ w', CW H w w' → o.quietAt P a (CW H w) w' v := fun w' m => by
  unfold Oper.quietAt
  rw [hr w' m.vis]
  exact ⟨rfl, rfl⟩
theorem q_runR {v : Value} (hw : ∀ Kn : Next → Hp → Prop, Kn (.value v) H → R.wpR P (execOp a.eval o) H Kn) : ∀ w', CW H w w' → o.quietAt P a (CW H w) w' v :=
  q_run fun w' hv => R.run_of hw w' hv

theorem Moved.widen {hf : Hp} {w w' : World} (hv : Vis H w) (hsub : ∀ b o, hf b = some o → H b = some o) (m : Moved hf w hf w') : Moved H w H w' := by
  refine ⟨m.os, m.tape, m.output, m.size, ?_, ?_, fun b hb => .inl hb, m.fz⟩
  · intro b hb hn
    refine m.keep b hb ?_
    cases hc : hf b with
    | none => rfl
    | some o => rw [hsub b o hc] at hn; cases hn
  · intro b o hb
    cases hc : hf b with
    | some o' =>
      have := hsub b o' hc
      rw [this] at hb; cases hb
      exact m.vis b _ hc
    | none => rw [m.keep b (hv.lt (by rw [hb]; simp)) hc]; exact hv b o hb

theorem valsG_spec {ch : List (Nat × Bool)} (G : ∀ x, Good rs.st be oe (rdG rs ch x) (a.eval x)) : ∀ (l : List Operand) {vs : List (Nat × Value)}, valsG rs ch l = some vs →
    (∀ p ∈ vs, p.2 = a.eval (.tmp p.1)) ∧ (∀ x ∈ l, (∃ t v, x = .tmp t ∧ (t, v) ∈ vs) ∨ (∀ ws, rho ws x = a.eval x))
  | [], vs, h => by cases h; simp
  | .tmp t :: r, vs, h => by
    simp only [valsG] at h
    split at h
    · rename_i v hv
      split at h
      · rename_i vs' hr
        cases h
        obtain ⟨h1, h2⟩ := valsG_spec G r hr
        have g := plainG_good hv (G (.tmp t))
        refine ⟨fun p hp => ?_, fun x hx => ?_⟩
        · rcases List.mem_cons.1 hp with rfl | hp
          · exact g.symm
          · exact h1 p hp
        · rcases List.mem_cons.1 hx with rfl | hx
          · exact .inl ⟨t, v, rfl, List.mem_cons_self ..⟩
          · rcases h2 x hx with ⟨t', v', rfl, hm⟩ | hf
            · exact .inl ⟨t', v', rfl, List.mem_cons_of_mem _ hm⟩
            · exact .inr hf
      · cases h
    · cases h
  | .global _ :: r, vs, h => by cases h
  | .const v :: r, vs, h => by
    obtain ⟨h1, h2⟩ := valsG_spec G r (vs := vs) h
    exact ⟨h1, fun x hx => by
      rcases List.mem_cons.1 hx with rfl | hx
      · exact .inr fun _ => rfl
      · exact h2 x hx⟩
  | .func f :: r, vs, h => by
    obtain ⟨h1, h2⟩ := valsG_spec G r (vs := vs) h
    exact ⟨h1, fun x hx => by
      rcases List.mem_cons.1 hx with rfl | hx
      · exact .inr fun _ => rfl
      · exact h2 x hx⟩

abbrev Goal (P : Program) (be : Nat → Nat) (oe : Nat → Value) (H : Hp) (rs : RS) (a : Act) (w : World) (o : Oper) (c : Bool) (K : AV → Prop) : Prop :=
  ∃ av, K av ∧ (c = true → ∃ v, Good rs.st be oe av v ∧ ∀ w', CW H w w' → o.quietAt P a (CW H w) w' v)

variable {ch : List (Nat × Bool)} {c : Bool} {K : AV → Prop}

theorem semG_sound (s : Sim P h0 w0 be oe H rs.st rs.h a w) (G : c = true → ∀ x, Good rs.st be oe (rdG rs ch x) (a.eval x)) (he : semG P o ch c rs K) : Goal P be oe H rs a w o c K := by
  unfold semG at he
  split at he
  · rename_i vs hsel hvs
    split at he
    · rename_i f l hcf
      split at he
      · rename_i hok
        obtain ⟨v, ht, hk⟩ := he
        refine ⟨_, hk, fun hc => ?_⟩
        obtain ⟨h1, h2⟩ := valsG_spec (G hc) _ hvs
        rw [callF_same h1 h2] at hcf
        refine ⟨v, rfl, fun w' m => ?_⟩
        unfold Oper.quietAt
        rw [callF_run hcf hok]
        refine ⟨rfl, ((imp_spec (bs := rs.bs) ht hc).run w' (fun b o hb => m.vis b o (s.sub b o hb))).mono ?_⟩
        rintro e w'' ⟨v', h', rfl, ⟨rfl, rfl⟩, hm⟩
        exact ⟨rfl, Moved.trans m (Moved.widen m.vis s.sub hm)⟩
      · exact he.elim
    · split at he
      · rename_i v hev
        refine ⟨_, he, fun hc => ?_⟩
        obtain ⟨h1, h2⟩ := valsG_spec (G hc) _ hvs
        rw [execL_eq, exec_same hsel h1 h2] at hev
        exact ⟨v, rfl, q_run fun w' _ => evP_run _ hev w'⟩
      · exact he.elim
  · exact he.elim

theorem bound_specG {d l : Int} {x : Option Operand} (G : ∀ x, Good rs.st be oe (rdG rs ch x) (a.eval x)) (he : bound d (x.map (rdG rs ch)) = some l) : BndOk a d x l := by
  cases x with
  | none => simp only [Option.map_none, bound, Option.some.injEq] at he; exact he.symm
  | some y =>
    have g := G y
    simp only [Option.map_some] at he
    cases hr : rdG rs ch y with
    | val v =>
      rw [hr] at he g
      cases v <;> simp only [bound, Option.some.injEq] at he <;> first | (subst he; exact ⟨_, g⟩) | cases he
    | _ => rw [hr] at he; cases he

theorem avCellsG (s : Sim P h0 w0 be oe H rs.st rs.h a w) {av0 : AV} {x : Value} (g0 : Good rs.st be oe av0 x) {cs : List Cell} (he : avCells (rdA rs.st av0) = some cs) : GoodCs rs.st oe cs x.cells.toList := by
  have g := s.rdA g0
  cases hr : rdA rs.st av0 with
  | val v =>
    rw [hr] at he g
    have hv : x = v := g
    rw [hv]
    cases v <;> simp only [avCells, Option.some.injEq] at he <;> first | (subst he; first | exact GoodCs.vals _ _ _ | exact ⟨rfl, trivial⟩) | cases he
  | own i k =>
    rw [hr] at he g
    obtain ⟨e, sz, by_, nn, xs, hn⟩ := rdA_own hr
    simp only [avCells, Option.some.injEq] at he
    subst he
    have hx : x = oe i := g.own_cur hn
    obtain ⟨y, n, c, hy⟩ := rdA_ownH s hn
    rw [hx, hy]
    rw [hx, hy] at g
    exact ⟨g, trivial⟩
  | agg cs' =>
    rw [hr] at he g
    simp only [avCells, Option.some.injEq] at he
    subst he
    obtain ⟨vs, hv, gv⟩ := g
    rw [hv]
    exact gv
  | _ => rw [hr] at he; cases he

set_option maxHeartbeats 1000000 in
theorem evG_sound (s : Sim P h0 w0 be oe H rs.st rs.h a w) (r : RInv ops be oe rs a i) (hc : cB rs.bs ch = some c) (he : evG P o ch c rs K) : Goal P be oe H rs a w o c K := by
  have G0 : c = true → ∀ x, ∃ av0, Good rs.st be oe av0 (a.eval x) ∧ rdG rs ch x = rdA rs.st av0 := fun h x => by subst h; exact rdG_good s r hc x
  have G : c = true → ∀ x, Good rs.st be oe (rdG rs ch x) (a.eval x) := fun h x => by
    obtain ⟨av0, g, e⟩ := G0 h x
    rw [e]; exact s.rdA g
  have imps : ∀ {X : Prop}, imp ch c X → c = true → X := fun h hc => imp_spec (bs := rs.bs) h hc
  have hH : ∀ w', CW H w w' → Vis H w' := fun w' m => m.vis
  cases ho : o.op with
  | move x =>
    simp only [evG, ho] at he
    have hk : K (rdG rs ch x) := by revert he; cases rdG rs ch x <;> intro he <;> first | exact he | exact he.elim
    refine ⟨_, hk, fun h => ⟨_, G h x, q_run fun w' _ => ?_⟩⟩
    unfold execOp; rw [ho]; rfl
  | assign x =>
    simp only [evG, ho] at he
    have hk : K (rdG rs ch x) := by revert he; cases rdG rs ch x <;> intro he <;> first | exact he | exact he.elim
    refine ⟨_, hk, fun h => ⟨_, G h x, q_run fun w' _ => ?_⟩⟩
    unfold execOp; rw [ho]; rfl
  | pick cc x y =>
    cases cc with
    | tmp t =>
      simp only [evG, ho] at he
      split at he
      · rename_i e q hs hq
        split at he
        · rename_i hsf
          split at he
          · rename_i bx by_ hx hy
            refine ⟨_, he, fun h => ?_⟩
            have gt := G h (.tmp t)
            rw [hs] at gt
            have gt' : a.eval (.tmp t) = .bool e := gt
            subst h
            obtain ⟨hm, hqd⟩ := slotB_mem hq
            have hqc := cB_sufx hsf hc
            obtain ⟨c', h1, h2⟩ := r.val q hm
            rw [hqc] at h1
            cases h1
            have hqe : q.e = e := by
              have : a.eval (.tmp t) = .bool q.e := by
                simp only [Act.eval, ← hqd, Array.getD_eq_getD_getElem?, h2]; rfl
              rw [gt'] at this
              cases this; rfl
            have hj : ∃ b, lookE rs.bs q.j = some b := by
              have : ∀ (l : List BE), q ∈ l → ∃ b, lookE l q.j = some b := by
                intro l
                induction l with
                | nil => intro h; cases h
                | cons z l ih =>
                  intro h
                  simp only [lookE]
                  split
                  · exact ⟨_, rfl⟩
                  · rename_i hb
                    rcases List.mem_cons.1 h with rfl | h
                    · exact absurd rfl (Nat.ne_of_beq_eq_false hb)
                    · exact ih h
              exact this _ hm
            obtain ⟨b, hb⟩ := hj
            obtain ⟨hbm, hbj⟩ := lookE_mem hb
            have hbe : b.e = e ∧ cB rs.bs b.ch = some true := by
              obtain ⟨_, o1, a1, a2⟩ := r.lt b hbm
              obtain ⟨_, o2, b1, b2⟩ := r.lt q hm
              rw [hbj, b1] at a1
              cases a1
              rw [b2] at a2
              have hbd : q.d = b.d := by simpa using a2
              obtain ⟨c', k1, k2⟩ := r.val b hbm
              rw [← hbd, h2] at k2
              cases c' with
              | true =>
                simp at k2
                exact ⟨by rw [← k2, hqe], k1⟩
              | false => simp [undef] at k2
            refine ⟨.bool (cond e bx by_), rfl, q_run fun w' _ => ?_⟩
            unfold execOp; rw [ho]
            simp only [gt', Sem.run_bind, asBool, Sem.run_pure, Result.andThen_ok]
            cases e with
            | true =>
              have hch : cB rs.bs ((q.j, true) :: q.ch) = some true := by
                rw [cB_cons, hb, hqc]; simp [lit, hbe.1]
              obtain ⟨av0, g1, g2⟩ := rdG_good s r hch x
              have g3 := s.rdA g1
              rw [← g2, hx] at g3
              have g4 : a.eval x = .bool bx := g3
              simp [g4]
            | false =>
              have hch : cB rs.bs ((q.j, false) :: q.ch) = some true := by
                rw [cB_cons, hb, hqc]; simp [lit, hbe.1]
              obtain ⟨av0, g1, g2⟩ := rdG_good s r hch y
              have g3 := s.rdA g1
              rw [← g2, hy] at g3
              have g4 : a.eval y = .bool by_ := g3
              simp [g4]
          · exact he.elim
        · exact he.elim
      · exact he.elim
    | _ => simp only [evG, ho] at he; exact semG_sound s G he
  | fieldAddr t x k =>
    simp only [evG, ho] at he
    split at he
    · rename_i j off fo hr ht
      refine ⟨_, he, fun h => ?_⟩
      have g := G h x
      rw [hr] at g
      exact ⟨ptr (be j) (off + fo), ⟨g.1, rfl⟩, q_runR (R.exec_fieldAddr ho ht g.2)⟩
    · rename_i sl j sz kk fo hr ht
      refine ⟨_, he, fun h => ?_⟩
      have g := G h x
      rw [hr] at g
      obtain ⟨b, o', n, cp, e1, e2⟩ := g
      exact ⟨ptr b (o' + (j.toNat * sz + kk) + fo), ⟨b, o', n, cp, e1, by simp [Nat.add_assoc]⟩, q_runR (R.exec_fieldAddr ho ht e2)⟩
    · rename_i ii k0 j sz kk fo hr ht
      refine ⟨_, he, fun h => ?_⟩
      have g := G h x
      obtain ⟨av0, _, g0⟩ := G0 h x
      rw [hr] at g
      obtain ⟨e', sz', by', nn', xs', hn'⟩ := rdA_oel (g0.symm.trans hr)
      obtain ⟨gg, n, cp, e1, e2⟩ := g.oel_cur hn'
      exact ⟨ptr gg (j.toNat * sz + kk + fo), ⟨k0, by simp [stamp, hn'], Nat.le_refl _, fun _ => ⟨gg, n, cp, e1, by simp [Nat.add_assoc]⟩⟩, q_runR (R.exec_fieldAddr ho ht e2)⟩
    · exact he.elim
  | indexAddr t x ix =>
    simp only [evG, ho] at he
    split at he
    · rename_i kd j hi
      split at he
      · rename_i e hte
        split at he
        · rename_i sz hsz
          split at he
          · rename_i ad n cp hx
            refine ⟨_, he.2, fun h => ?_⟩
            obtain ⟨b, off, n', c', e1, b1, b2⟩ := imps he.1 h
            cases e1
            have gx := G h x
            rw [hx] at gx
            have gi := G h ix
            rw [hi] at gi
            exact ⟨ptr b (off + j.toNat * sz), ⟨b, off, n, cp, rfl, by simp⟩, q_runR (R.exec_indexAddr ho hte hsz gx gi b1 b2)⟩
          · rename_i ii kk hx
            split at he
            · rename_i s0 e0 sz' by_ nn xs hn
              split at he
              · rename_i hb
                refine ⟨_, he.2, fun h => ?_⟩
                obtain ⟨b1, b2⟩ := imps he.1 h
                have := Nat.eq_of_beq_eq_true hb
                subst this
                have gx := G h x
                obtain ⟨av0, _, g0⟩ := G0 h x
                rw [hx] at gx
                have gi := G h ix
                rw [hi] at gi
                obtain ⟨e', sz1, by', nn', xs', hn'⟩ := rdA_own (g0.symm.trans hx)
                have hcur := gx.own_cur hn'
                have hown := s.own ii _ _ _ _ _ _ hn
                rcases hown.2 with ⟨hv, hxs, _⟩ | ⟨g, cap, cur, hv, _⟩
                · rw [hxs] at b2; simp at b2; omega
                · rw [hv] at hcur
                  refine ⟨ptr g (0 + j.toNat * sz'), ⟨kk, by simp [stamp, hn'], Nat.le_refl _, fun _ => ⟨g, xs.length, cap, hv, by simp⟩⟩, q_runR (R.exec_indexAddr ho hte hsz hcur gi b1 b2)⟩
              · exact he.elim
            · exact he.elim
          · exact he.elim
        · exact he.elim
      · exact he.elim
    · exact he.elim
  | load t x =>
    simp only [evG, ho] at he
    split at he
    · rename_i j off hr
      split at he
      · rename_i cs ty hn
        obtain ⟨h1, vs, h2, h3⟩ := s.box j cs ty hn
        obtain ⟨av, v, k1, k2, k3⟩ := R.load_row (H := H) (b := be j) (o := 0) (be := be) he h2 (fun j v hj => by simp [Hp.cell, h3, hj])
        refine ⟨av, k1, fun h => ⟨v, k2, q_runR ?_⟩⟩
        have g := G h x
        rw [hr] at g
        exact R.exec_load ho g.2 (by simpa using k3)
      · exact he.elim
    · rename_i sl idx sz k hr
      obtain ⟨e, hel, hk⟩ := he
      cases c with
      | false =>
        -- any value will do
        have hk' : ∃ av, K av := by
          unfold getC at hk
          split at hk
          · split at hk
            · split at hk
              · exact ⟨_, hk⟩
              · exact hk.elim
            · exact hk.elim
          · split at hk
            · exact ⟨_, hk⟩
            · exact hk.elim
          · exact hk.elim
        obtain ⟨av, hk'⟩ := hk'
        exact ⟨av, hk', fun h => by cases h⟩
      | true =>
        have hc' := imps hel rfl
        have g := G rfl x
        rw [hr] at g
        obtain ⟨b, o', n, cp, e1, e2⟩ := g
        obtain ⟨_, _, b', o'', n', cp', e3, hcell⟩ := hc'
        rw [e1] at e3; cases e3
        obtain ⟨av, v, k1, k2, k3⟩ := R.load_row (H := H) (b := b) (o := o' + idx.toNat * sz) (be := be) hk (GoodCs.vals rs.st oe e) (fun j v hj => by
          have := hcell j v hj
          unfold Hp.cell at this ⊢
          split at this
          · rename_i ho'; rw [s.sub _ _ ho']; exact this
          · cases this)
        refine ⟨av, k1, fun h => ⟨v, k2, q_runR (R.exec_load ho e2 ?_)⟩⟩
        simpa [Nat.add_assoc] using k3
    · rename_i j s0 idx sz k hr
      split at he
      · rename_i st1 e0 sz' by_ nn xs hn
        split at he
        · rename_i hb
          have hsz := Nat.eq_of_beq_eq_true hb
          subst hsz
          obtain ⟨e, hel, hk⟩ := he
          cases c with
          | false =>
            have hk' : ∃ av, K av := by
              unfold getC at hk
              split at hk
              · split at hk
                · split at hk
                  · exact ⟨_, hk⟩
                  · exact hk.elim
                · exact hk.elim
              · split at hk
                · exact ⟨_, hk⟩
                · exact hk.elim
              · exact hk.elim
            obtain ⟨av, hk'⟩ := hk'
            exact ⟨av, hk', fun h => by cases h⟩
          | true =>
            have hc' := imps hel rfl
            have g := G rfl x
            obtain ⟨av0, _, g0⟩ := G0 rfl x
            rw [hr] at g
            obtain ⟨e', szz, by', nn', xs', hn'⟩ := rdA_oel (g0.symm.trans hr)
            obtain ⟨gg, n, cp, e1, e2⟩ := g.oel_cur hn'
            have hown := s.own j _ _ _ _ _ _ hn
            obtain ⟨av, v, k1, k2, k3⟩ := R.load_row (H := H) (b := gg) (o := idx.toNat * sz') (be := be) hk (GoodCs.vals rs.st oe e) (fun j v hj =>
              hown.cells e1 _ _ (flat_get xs _ e (fun x hx => (hown.1 x hx).1) hc' j v hj))
            exact ⟨av, k1, fun h => ⟨v, k2, q_runR (R.exec_load ho e2 k3)⟩⟩
        · exact he.elim
      · exact he.elim
    · exact he.elim
  | build t ps =>
    simp only [evG, ho] at he
    split at he
    · rename_i fs z hu hz
      split at he
      · rename_i ha
        cases c with
        | false =>
          have : ∀ (l : List (Nat × Operand)) (cs : List Cell) (K' : List Cell → Prop), fillAV P fs (rdG rs ch) l cs K' → ∃ cs, K' cs := by
            intro l
            induction l with
            | nil => intro cs K' h; exact ⟨_, h⟩
            | cons p l ih =>
              obtain ⟨i, x⟩ := p
              intro cs K' h
              simp only [fillAV] at h
              split at h
              · split at h
                · split at h
                  · exact ih _ _ h
                  · exact h.elim
                · exact h.elim
              · exact h.elim
          obtain ⟨cs, hk⟩ := this _ _ _ he
          exact ⟨_, hk, fun h => by cases h⟩
        | true =>
          obtain ⟨av, v, k1, k2, k3⟩ := op_build (K' := K) s ho hu hz ha (fun x cs hcs => by
            obtain ⟨av0, g1, g2⟩ := G0 rfl x
            rw [g2] at hcs
            exact avCellsG s g1 hcs) he
          exact ⟨av, k1, fun _ => ⟨v, k2, q_run fun w' _ => k3 w'⟩⟩
      · exact he.elim
    · exact he.elim
  | index t x ix =>
    simp only [evG, ho] at he
    split at he
    · rename_i b kd j hx hi hu
      obtain ⟨e, h1, hk⟩ := he
      refine ⟨_, hk, fun h => ?_⟩
      have gx := G h x
      rw [hx] at gx
      have gi := G h ix
      rw [hi] at gi
      obtain ⟨b1, b2⟩ := imps h1 h
      exact ⟨_, rfl, q_runR (R.exec_index ho hu gx gi b1 b2)⟩
    · exact he.elim
  | slice t x lo hi mx =>
    cases mx with
    | some m => simp only [evG, ho] at he; exact semG_sound s G he
    | none =>
      simp only [evG, ho] at he
      split at he
      · rename_i b hx hu
        split at he
        · rename_i l m hl hm
          refine ⟨_, he.2, fun h => ?_⟩
          obtain ⟨h1, h2, h3⟩ := imps he.1 h
          have gx := G h x
          rw [hx] at gx
          exact ⟨_, rfl, q_runR (R.exec_cutStr ho hu gx (bound_specG (G h) hl) (bound_specG (G h) hm) h1 h2 h3)⟩
        · exact he.elim
      · rename_i ad n cp hx
        split at he
        · rename_i e hte
          split at he
          · rename_i sz hs
            split at he
            · rename_i l m hl hm
              obtain ⟨v, h1, hk⟩ := he
              refine ⟨_, hk, fun h => ?_⟩
              obtain ⟨⟨b1, b2, b3, b4⟩, b5⟩ := imps h1 h
              have gx := G h x
              rw [hx] at gx
              refine ⟨v, rfl, ?_⟩
              rw [b5 _ _ _ rfl]
              exact q_runR (R.exec_slice ho hte hs gx (bound_specG (G h) hl) (bound_specG (G h) hm) b1 b2 b3 b4)
            · exact he.elim
          · exact he.elim
        · exact he.elim
      · exact he.elim
  | binOp op t x y t' =>
    cases op with
    | add =>
      simp only [evG, ho] at he
      split at he
      · rename_i b cc hx hy
        refine ⟨_, he.2, fun h => ?_⟩
        have gx := G h x
        rw [hx] at gx
        have gy := G h y
        rw [hy] at gy
        exact ⟨_, rfl, q_runR (R.exec_cat ho gx gy (imps he.1 h))⟩
      · exact semG_sound s G he
    | quo =>
      simp only [evG, ho] at he
      split at he
      · rename_i b cc hx hy
        refine ⟨_, he.2, fun h => ?_⟩
        have gx := G h x
        rw [hx] at gx
        have gy := G h y
        rw [hy] at gy
        exact ⟨_, rfl, q_runR (R.exec_quo ho gx gy (imps he.1 h))⟩
      · exact semG_sound s G he
    | rem =>
      simp only [evG, ho] at he
      split at he
      · rename_i b cc hx hy
        refine ⟨_, he.2, fun h => ?_⟩
        have gx := G h x
        rw [hx] at gx
        have gy := G h y
        rw [hy] at gy
        exact ⟨_, rfl, q_runR (R.exec_rem ho gx gy (imps he.1 h))⟩
      · exact semG_sound s G he
    | eql =>
      simp only [evG, ho] at he
      split at he
      · rename_i xs ys hx hy
        obtain ⟨b, h1, hk⟩ := he
        exact ⟨_, hk, fun h => ⟨.bool b, rfl, q_run fun w' _ => imps h1 h _ (plainG_good hx (G h x)) (plainG_good hy (G h y)) w'⟩⟩
      · exact semG_sound s G he
    | neq =>
      simp only [evG, ho] at he
      split at he
      · rename_i xs ys hx hy
        obtain ⟨b, h1, hk⟩ := he
        exact ⟨_, hk, fun h => ⟨.bool b, rfl, q_run fun w' _ => imps h1 h _ (plainG_good hx (G h x)) (plainG_good hy (G h y)) w'⟩⟩
      · exact semG_sound s G he
    | _ => simp only [evG, ho] at he; exact semG_sound s G he
  | call cc =>
    obtain ⟨cal, as, ts⟩ := cc
    cases cal with
    | builtin b =>
      cases b with
      | len =>
        simp only [evG, ho] at he
        split at he
        · rename_i x t ha ht
          have ha' : as = #[x] := by apply Array.ext'; simpa using ha
          have ht' : ts = #[t] := by apply Array.ext'; simpa using ht
          split at he
          · rename_i j k hr
            split at he
            · rename_i s0 e sz by_ nn xs e' hn hte
              refine ⟨_, he, fun h => ?_⟩
              have g := G h x
              obtain ⟨av0, _, g0⟩ := G0 h x
              rw [hr] at g
              obtain ⟨e1, sz1, by1, nn1, xs1, hn1⟩ := rdA_own (g0.symm.trans hr)
              have hx := g.own_cur hn1
              have hown := s.own j _ _ _ _ _ _ hn
              rcases hown.2 with ⟨hv, hxs, _⟩ | ⟨g', cap, cur, hv, _⟩
              · rw [hv] at hx
                refine ⟨.int .i64 xs.length, rfl, q_run fun w' _ => ?_⟩
                rw [exec_len ho ha' ht' hte hx w', hxs]; rfl
              · rw [hv] at hx
                exact ⟨.int .i64 xs.length, rfl, q_run fun w' _ => exec_len ho ha' ht' hte hx w'⟩
            · exact he.elim
          · exact semG_sound s G he
        · exact he.elim
      | _ => simp only [evG, ho] at he; exact semG_sound s G he
    | value f => simp only [evG, ho] at he; exact semG_sound s G he
    | invoke r m => simp only [evG, ho] at he; exact semG_sound s G he
  | _ => simp only [evG, ho] at he; exact semG_sound s G he
end
end Go.H
