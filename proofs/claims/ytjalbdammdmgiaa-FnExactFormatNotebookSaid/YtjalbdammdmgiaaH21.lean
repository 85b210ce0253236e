/- Plain laws over the model: a function keeps its contract when the evaluator says so. -/
import Derived.Test.YtjalbdammdmgiaaH20
namespace Go.H
set_option linter.unusedVariables false
set_option linter.unusedSimpArgs false
section
variable {P : Program} {h0 : Hp} {w0 : World} {be : Nat → Nat} {oe : Nat → Value} {H : Hp} {st : St} {h : Hp} {a : Act} {w : World}

theorem ev_sound (c : Code) : ∀ (Q : Ex → St → Hp → Prop) (st : St) (h : Hp) (a : Act) (w : World) (be : Nat → Nat) (oe : Nat → Value) (H : Hp), Sim P h0 w0 be oe H st h a w → ev P c Q st h → c.wp P (Post P h0 w0 Q) a w := by
  induction c with
  | skip => exact fun Q st h a w be oe H s he => wp_skip ⟨st, h, be, oe, H, he, s⟩
  | region id ops d => exact fun Q st h a w be oe H s he => region_sound s he
  | seq x y ihx ihy =>
    intro Q st h a w be oe H s he
    refine wp_seq (Code.wp_mono (fun e a w hp => ?_) (ihx _ _ _ _ _ _ _ _ s he))
    cases e with
    | normal => obtain ⟨st, h, be, oe, H, k, s⟩ := hp; exact ihy _ _ _ _ _ _ _ _ s k
    | exit i => exact hp
    | ret => exact hp
    | _ => exact hp
  | cond c x y ihx ihy =>
    intro Q st h a w be oe H s he
    simp only [ev] at he
    split at he
    · rename_i b hb
      have g := s.rdO c
      rw [hb] at g
      exact wp_cond_split g (fun e => ihx _ _ _ _ _ _ _ _ s (he.1 e)) (fun e => ihy _ _ _ _ _ _ _ _ s (he.2 e))
    · exact he.elim
  | block id c ih =>
    intro Q st h a w be oe H s he
    refine wp_block (Code.wp_mono (fun e a w hp => ?_) (ih _ _ _ _ _ _ _ _ s he))
    cases e with
    | normal => exact hp
    | exit i =>
      obtain ⟨st, h, be, oe, H, k, s⟩ := hp
      simp only [Exit.inBlock]
      dsimp only at k
      cases hb : Nat.beq i id with
      | true =>
        rw [hb] at k
        rw [if_pos (Nat.eq_of_beq_eq_true hb)]
        exact ⟨st, h, be, oe, H, k, s⟩
      | false =>
        rw [hb] at k
        rw [if_neg (Nat.ne_of_beq_eq_false hb)]
        exact ⟨st, h, be, oe, H, k, s⟩
    | ret => exact hp
    | _ => exact hp
  | loop c ih => exact fun Q st h a w be oe H s he => loop_sound ih s he
  | exit i => exact fun Q st h a w be oe H s he => wp_exit ⟨st, h, be, oe, H, he, s⟩
  | ret => exact fun Q st h a w be oe H s he => wp_ret ⟨st, h, be, oe, H, he, s⟩
  | _ => exact fun Q st h a w be oe H s he => he.elim

def resF (tmps : Array Value) : ResultVar → Sem Value
  | .tmp t => pure (tmps.getD t undef)
  | .cell a t => do loadVar t (← asAddr (tmps.getD a undef))

theorem resK_sound : ∀ (l : List ResultVar) (st : St) (h : Hp) {K : List Value → St → Hp → Prop}, Sim P h0 w0 be oe H st h a w → resK P l st h K →
    ∃ vs st' h', K vs st' h' ∧ Sim P h0 w0 be oe H st' h' a w ∧ (l.mapM (resF a.tmps)).run P w = .ok vs w
  | [], st, h, K, s, he => ⟨[], st, h, he, s, rfl⟩
  | .tmp t :: r, st, h, K, s, he => by
    obtain ⟨st1, h1, e1, s1, _⟩ := rfy_sound s (s.rdA (s.fr t)) he
    obtain ⟨vs, st2, h2, e2, s2, hr⟩ := resK_sound r st1 h1 s1 e1
    refine ⟨_, st2, h2, e2, s2, ?_⟩
    simp only [List.mapM_cons, Sem.run_bind, resF, Sem.run_pure, Result.andThen_ok, hr]
  | .cell t ty :: r, st, h, K, s, he => by
    simp only [resK] at he
    split at he
    · rename_i i off hr
      split at he
      · rename_i cs ty' hn
        have g := s.rdA (s.fr t)
        rw [hr] at g
        obtain ⟨h1, vs, h2, h3⟩ := s.box i cs ty' hn
        obtain ⟨av, v, k1, k2, k3⟩ := R.load_row (H := H) (b := be i) (o := 0) (be := be) he h2 (fun j v hj => by simp [Hp.cell, h3, hj])
        obtain ⟨st1, h1, e1, s1, _⟩ := rfy_sound s k2 k1
        obtain ⟨vs', st2, h2', e2, s2, hr'⟩ := resK_sound r st1 h1 s1 e1
        refine ⟨_, st2, h2', e2, s2, ?_⟩
        have hld : (loadVar ty ⟨be i, off, none⟩).run P w = .ok v w := by
          obtain ⟨x, hx, e⟩ := R.wpR_sound _ _ w s.mv.vis (k3 (fun x _ => x = v) rfl)
          rw [Nat.zero_add] at hx
          rw [hx, e]
        have hx : a.tmps.getD t undef = ptr (be i) off := g.2
        simp only [List.mapM_cons, Sem.run_bind, resF, hx, ptr, asAddr, Sem.run_pure, Result.andThen_ok, hld, hr']
      · exact he.elim
    · exact he.elim

theorem look_args : ∀ (args : List Value) (i s : Nat), look (args0 i args) s = .dead ∨ look (args0 i args) s = .val (if i ≤ s then args.getD (s - i) undef else undef)
  | [], i, s => .inl rfl
  | v :: r, i, s => by
    simp only [args0]
    rw [look_cons]
    by_cases e : i = s
    · subst e; right; simp
    · rw [if_neg e]
      rcases look_args r (i + 1) s with h' | h'
      · exact .inl h'
      right
      rw [h']
      by_cases h : i ≤ s
      · rw [if_pos h, if_pos (by omega)]
        have : s - i = (s - (i + 1)) + 1 := by omega
        rw [this, List.getD_cons_succ]
      · rw [if_neg h, if_neg (by omega)]

theorem Moved.less {h h' H : Hp} {w w' : World} (m : Moved h w H w') (hs : ∀ b o, h' b = some o → H b = some o) : Moved h w h' w' := by
  refine ⟨m.os, m.tape, m.output, m.size, m.keep, fun b o hb => m.vis b o (hs b o hb), fun b hb => ?_, m.fz⟩
  cases hc : h' b with
  | none => exact absurd hc hb
  | some o => exact m.fresh b (by rw [hs b o hc]; simp)

/-- THE EVALUATOR'S WORD IS ENOUGH. -/
theorem evFn_sound {f : FuncId} {fn : Func} {args : List Value} {T : Value → Hp → Prop} (hf : P.funcs[f]? = some fn) (he : evFn P fn args h T) : Tr P f args.toArray h T := by
  refine ⟨fun w hv => ?_⟩
  unfold evFn at he
  split at he
  · rename_i c hb
    split at he
    · rename_i hle
      have hle := Nat.le_of_ble_eq_true hle
      have s0 : Sim P h w (fun _ => 0) (fun _ => undef) h ⟨fn.ntmps, args0 0 args, [], []⟩ h { tmps := args.toArray ++ Array.replicate (fn.ntmps - args.toArray.size) undef, defers := [] } w := by
        refine ⟨Moved.refl hv, fun _ _ h => h, (fun i cs ty hi => nomatch hi), (fun i b hi => nomatch hi), (fun i s e sz by_ nn xs hi => nomatch hi), (fun i s v hi => nomatch hi), (fun i j cs ty cs' ty' hi => nomatch hi),
          (fun i j s e sz by_ nn xs s' e' sz' by' nn' xs' g hi => nomatch hi), (fun i cs ty j s e sz by_ nn xs hi => nomatch hi), rfl, by simp; omega, fun s => ?_⟩
        rcases look_args args 0 s with h' | h'
        · exact (show Good _ _ _ (look (args0 0 args) s) _ from by rw [h']; trivial)
        show Good _ _ _ (look (args0 0 args) s) _
        rw [h']
        simp only [Nat.zero_le, if_true, Nat.sub_zero]
        show _ = _
        simp only [Array.getD_eq_getD_getElem?]
        rw [Array.getElem?_append]
        simp only [List.size_toArray, List.getElem?_toArray]
        split
        · simp [List.getD_eq_getElem?_getD]
        · rename_i hn
          rw [List.getD_eq_getElem?_getD, List.getElem?_eq_none (by omega)]
          rw [Array.getElem?_replicate]
          split <;> rfl
      refine calls_of_wp hf hb (Code.wp_mono (fun e a' w' hp => ?_) (ev_sound c _ _ _ _ _ _ _ _ s0 he))
      have fin : ∀ {st h' be oe H}, resK P fn.results.toList st h' (fun vs _ h => T (packV vs) h) → Sim P h w be oe H st h' a' w' → a'.defers = [] ∧ ∃ v, (results fn a'.tmps).run P w' = .ok v w' ∧ ∃ v' h', Ending.returned v = .returned v' ∧ T v' h' ∧ Moved h w h' w' := by
        intro st h' be oe H hk s
        obtain ⟨vs, st2, h2, e2, s2, hr⟩ := resK_sound _ _ _ s hk
        refine ⟨s.dfr, packV vs, ?_, packV vs, h2, rfl, e2, s2.mv.less s2.sub⟩
        have hres : results fn a'.tmps = (fn.results.mapM (resF a'.tmps) >>= fun vs => pure (if h : vs.size = 1 then vs[0] else .tuple vs)) := by
          unfold results
          congr 1
        rw [hres, Array.mapM_eq_mapM_toList]
        simp only [Sem.run_bind, Sem.run_map, hr, Result.andThen_ok, Sem.run_pure]
        cases vs with
        | nil => rfl
        | cons x r => cases r <;> rfl
      cases e with
      | normal => obtain ⟨st, h', be, oe, H, hk, s⟩ := hp; exact fin hk s
      | ret => obtain ⟨st, h', be, oe, H, hk, s⟩ := hp; exact fin hk s
      | exit i => obtain ⟨st, h', be, oe, H, hk, s⟩ := hp; exact hk.elim
      | _ => exact hp.elim
    · exact he.elim
  · exact he.elim
end
end Go.H
