/- Plain laws over the model: every operation does what the evaluator says. -/
import Derived.Test.YtjalbdammdmgiaaH12
namespace Go.H
set_option linter.unusedVariables false
set_option linter.unusedSimpArgs false
section
variable {P : Program} {h0 : Hp} {w0 : World} {be : Nat → Nat} {oe : Nat → Value} {H : Hp} {st : St} {h : Hp} {a : Act} {w : World} {o : Oper} {K : AV → St → Hp → Prop} {Q : Exit → Act → World → Prop}

/-- an operation that yields one value in every world -/
theorem wp_any (s : Sim P h0 w0 be oe H st h a w) {av : AV} {v : Value} (hr : ∀ w : World, (execOp a.eval o).run P w = .ok (.value v) w) (g : Good st be oe av v) (hk : K av st h) : o.wp P a w (Nx P h0 w0 st be oe K a o.dst) Q :=
  wp_value (hr w) ⟨av, st, h, v, be, oe, H, hk, rfl, s, g, Grow.refl _ _ _⟩

set_option maxHeartbeats 1000000 in
theorem evOp_sound (s : Sim P h0 w0 be oe H st h a w) (he : evOp P o st h K) : o.wp P a w (Nx P h0 w0 st be oe K a o.dst) Q := by
  cases ho : o.op with
  | move x => simp only [evOp, ho] at he; exact op_move s (.inl ho) he
  | assign x => simp only [evOp, ho] at he; exact op_move s (.inr ho) he
  | box t x =>
    simp only [evOp, ho] at he
    split at he
    · rename_i cs hc; exact op_box s ho hc he
    · exact he.elim
  | alloc t =>
    simp only [evOp, ho] at he
    split at he
    · rename_i z hz; exact op_alloc s ho hz he
    · exact he.elim
  | fieldAddr t x k => simp only [evOp, ho] at he; exact op_fieldAddr s ho he
  | indexAddr t x i => simp only [evOp, ho] at he; exact op_indexAddr s ho he
  | load t x =>
    simp only [evOp, ho] at he
    split at he
    · rename_i i off hr
      split at he
      · rename_i cs ty hn; exact op_load_box s ho hr hn he
      · exact he.elim
    · rename_i sl idx sz k hr
      obtain ⟨c, hc, hk⟩ := he
      exact op_load_hel s ho hr hc hk
    · rename_i i s0 idx sz k hr
      split at he
      · rename_i st1 e sz' by_ nn xs hn
        split at he
        · rename_i hb
          have hsz := Nat.eq_of_beq_eq_true hb
          subst hsz
          obtain ⟨c, hc, hk⟩ := he
          exact op_load_oel s ho hr hn hc hk
        · exact he.elim
      · exact he.elim
    · exact semOp_sound s he
  | store t p x =>
    simp only [evOp, ho] at he
    split at he
    · rename_i i off hr
      split at he
      · rename_i cs ty new n hn hc hs
        split at he
        · rename_i hl h1; exact op_store_box s ho hr hn hc hs hl h1 he
        · exact he.elim
      · exact he.elim
    · rename_i i s0 idx sz k hr
      exact op_store_oel s ho hr he
    · rename_i sl idx sz k hr
      split at he
      · rename_i v hx
        split at he
        · rename_i hs; exact op_store_hel s ho hr hx hs he
        · rename_i n _ hs
          split at he
          · rename_i hl h1
            exact op_store_helN s ho hr (by have := s.rdO x; rw [hx] at this; rw [show a.eval x = v from this]) hs hl h1 he
          · exact he.elim
        · exact he.elim
      · rename_i cs hx
        split at he
        · rename_i n new hs hv
          split at he
          · rename_i hl h1
            refine op_store_helN s ho hr ?_ hs hl h1 he
            have g := s.rdO x
            rw [hx] at g
            obtain ⟨vs, g1, g2⟩ := g
            rw [g1, valsOf_good hv g2]
            rfl
          · exact he.elim
        · exact he.elim
      · exact he.elim
    · exact semOp_sound s he
  | build t ps =>
    simp only [evOp, ho] at he
    split at he
    · rename_i fs z hu hz
      split at he
      · rename_i ha
        obtain ⟨av, v, k1, k2, k3⟩ := op_build (K' := fun av => K av st h) s ho hu hz ha (fun x cs hc => avCells_good s hc) he
        exact wp_any s k3 k2 k1
      · exact he.elim
    · exact he.elim
  | buildSlice t n ps =>
    simp only [evOp, ho] at he
    split at he
    · rename_i e hte
      split at he
      · rename_i sz by_ z hs hb hz
        split at he
        · rename_i hn hm hl; exact op_buildSlice s ho hte hs hz hn hm he
        · exact he.elim
      · exact he.elim
    · exact he.elim
  | makeSlice t l c =>
    simp only [evOp, ho] at he
    split at he
    · rename_i e hte
      split at he
      · rename_i sz by_ z kl nl kc nc hs hb hz hl hc
        split at he
        · rename_i hzl hone; exact op_makeSlice s ho hte hs hb hz hl hc hzl hone he.1 he.2
        · exact he.elim
      · exact he.elim
    · exact he.elim
  | field t x k =>
    simp only [evOp, ho] at he
    split at he
    · rename_i cs fs hc hu
      split at he
      · rename_i f hf; exact op_field s ho hc hu hf he
      · exact he.elim
    · exact he.elim
  | slice t x lo hi mx =>
    cases mx with
    | some m => simp only [evOp, ho] at he; exact semB_sound s he
    | none =>
      simp only [evOp, ho] at he
      split at he
      · rename_i i k hr
        split at he
        · rename_i e hte
          split at he
          · rename_i sz hs; exact op_cutOwn s ho hte hs hr he
          · exact he.elim
        · exact he.elim
      · rename_i ad n c hr
        split at he
        · rename_i e hte
          split at he
          · rename_i sz hs; exact op_cutVal s ho hte hs hr he
          · exact he.elim
        · exact he.elim
      · rename_i b hr
        split at he
        · rename_i hu
          unfold cutStr at he
          split at he
          · rename_i l m hl hm
            have gx : a.eval x = .string b := by have := s.rdO x; rw [hr] at this; exact this
            obtain ⟨⟨h1, h2, h3⟩, hk⟩ := he
            exact wp_still s (av := .val _) (exec_cutStr ho hu gx (bound_spec s hl) (bound_spec s hm) h1 h2 h3) rfl hk
          · exact he.elim
        · exact he.elim
      · exact he.elim
  | index t x i =>
    simp only [evOp, ho] at he
    split at he
    · rename_i b k j hx hi hu
      have gx : a.eval x = .string b := by have := s.rdO x; rw [hx] at this; exact this
      have gi : a.eval i = .int k j := by have := s.rdO i; rw [hi] at this; exact this
      obtain ⟨c, ⟨h1, h2⟩, hk⟩ := he
      exact wp_still s (av := .val _) (exec_index ho hu gx gi h1 h2) rfl hk
    · exact semOp_sound s he
  | binOp op t x y t' =>
    cases op with
    | add =>
      simp only [evOp, ho] at he
      split at he
      · rename_i b c hx hy
        have gx : a.eval x = .string b := by have := s.rdO x; rw [hx] at this; exact this
        have gy : a.eval y = .string c := by have := s.rdO y; rw [hy] at this; exact this
        exact wp_still s (av := .val _) (exec_cat ho gx gy he.1) rfl he.2
      · exact semOp_sound s he
    | quo =>
      simp only [evOp, ho] at he
      split at he
      · rename_i b c hx hy
        have gx : a.eval x = .int .i64 b := by have := s.rdO x; rw [hx] at this; exact this
        have gy : a.eval y = .int .i64 c := by have := s.rdO y; rw [hy] at this; exact this
        exact wp_still s (av := .val _) (exec_quo ho gx gy he.1) rfl he.2
      · exact semOp_sound s he
    | rem =>
      simp only [evOp, ho] at he
      split at he
      · rename_i b c hx hy
        have gx : a.eval x = .int .i64 b := by have := s.rdO x; rw [hx] at this; exact this
        have gy : a.eval y = .int .i64 c := by have := s.rdO y; rw [hy] at this; exact this
        exact wp_still s (av := .val _) (exec_rem ho gx gy he.1) rfl he.2
      · exact semOp_sound s he
    | shl =>
      simp only [evOp, ho] at he
      split at he
      · rename_i b c hx hy
        have gx : a.eval x = .int .i64 b := by have := s.rdO x; rw [hx] at this; exact this
        have gy : a.eval y = .int .i64 c := by have := s.rdO y; rw [hy] at this; exact this
        exact wp_still s (av := .val _) (exec_shl ho gx gy he.1) rfl he.2
      · exact semOp_sound s he
    | shr =>
      simp only [evOp, ho] at he
      split at he
      · rename_i b c hx hy
        have gx : a.eval x = .int .i64 b := by have := s.rdO x; rw [hx] at this; exact this
        have gy : a.eval y = .int .i64 c := by have := s.rdO y; rw [hy] at this; exact this
        exact wp_still s (av := .val _) (exec_shr ho gx gy he.1) rfl he.2
      · exact semOp_sound s he
    | eql =>
      simp only [evOp, ho] at he
      split at he
      · rename_i xs ys hx hy
        obtain ⟨b, h1, hk⟩ := he
        exact wp_any s (av := .val _) (h1 _ (plainG_good hx (s.rdO x)) (plainG_good hy (s.rdO y))) rfl hk
      · exact semB_sound s he
    | neq =>
      simp only [evOp, ho] at he
      split at he
      · rename_i xs ys hx hy
        obtain ⟨b, h1, hk⟩ := he
        exact wp_any s (av := .val _) (h1 _ (plainG_good hx (s.rdO x)) (plainG_good hy (s.rdO y))) rfl hk
      · exact semB_sound s he
    | _ => simp only [evOp, ho] at he; exact semB_sound s he
  | convert tf tt x =>
    simp only [evOp, ho] at he
    split at he
    · rename_i i k hr
      split at he
      · rename_i s0 e0 sz by_ nn xs e hn hu1 hu2
        split at he
        · rename_i hu3
          obtain ⟨ns, hxs, hk⟩ := he
          obtain ⟨e1, sz1, by1, nn1, xs1, hn1⟩ := rdO_own hr
          have g := s.rdO x
          rw [hr] at g
          have hx := g.own_cur hn1
          have hown := s.own i _ _ _ _ _ _ hn
          have run : (execOp a.eval o).run P w = .ok (.value (.string (strOfNums ns))) w := by
            unfold execOp
            rw [ho]
            rcases hown.2 with ⟨hv, hxe, _⟩ | ⟨g', cap, cur, hv, _, hH, hc1, hc2, hc3, hcur⟩
            · rw [hxe] at hxs
              have hns : ns = [] := by cases ns with
                | nil => rfl
                | cons n r => cases hxs
              subst hns
              rw [hv] at hx
              simp only [hx, Sem.run_bind, run_convert_bytes_nil w tf e hu1 hu3 0 0 tt hu2, Result.andThen_ok, Sem.run_pure]
              rfl
            · rw [hv] at hx
              have hl : ns.length = xs.length := by rw [hxs]; simp
              have hcell : ∀ j, j < xs.length → w.cell? ⟨g', 0 + j, none⟩ = some (.int .u8 (ns.getD j 0)) := fun j hj => by
                have hsz : sz = 1 := by
                  have := (hown.1 _ (List.getElem_mem hj)).1
                  rw [← this]
                  simp only [hxs, List.getElem_map]
                  rfl
                subst hsz
                have hf : xs.flatten = ns.map (Value.int .u8) := by
                  rw [hxs]
                  clear hxs hl hj hn hown hcur hk
                  induction ns with
                  | nil => rfl
                  | cons n r ih => simp [ih]
                have hwc := vis_H s _ _ hH
                have h2 := congrArg (fun l : List Value => l[j]?) (hcur.trans hf)
                simp only [List.getElem?_take, Nat.mul_one, if_pos hj, List.getElem?_map, Array.getElem?_toList] at h2
                simp only [World.cell?, hwc, Nat.zero_add]
                rw [if_neg (by simp), h2]
                simp [List.getD_eq_getElem?_getD, List.getElem?_eq_getElem (show j < ns.length by omega)]
              simp only [hx, Sem.run_bind, run_convert_bytes_arg w tf e hu1 hu3 g' 0 xs.length cap ns hl hcell tt hu2, Result.andThen_ok, Sem.run_pure]
          exact wp_value run ⟨_, _, _, _, _, _, _, hk, rfl, s, rfl, Grow.refl _ _ _⟩
        · exact he.elim
      · exact semB_sound s he
    · exact semB_sound s he
  | call c =>
    obtain ⟨cal, as, ts⟩ := c
    cases cal with
    | builtin b =>
      cases b with
      | len =>
        simp only [evOp, ho] at he
        split at he
        · rename_i x t ha ht
          have ha' : as = #[x] := by apply Array.ext'; simpa using ha
          have ht' : ts = #[t] := by apply Array.ext'; simpa using ht
          split at he
          · rename_i i k hr
            split at he
            · rename_i s0 e sz by_ nn xs e' hn hte
              obtain ⟨e1, sz1, by1, nn1, xs1, hn1⟩ := rdO_own hr
              have g := s.rdO x
              rw [hr] at g
              have hx := g.own_cur hn1
              have hown := s.own i _ _ _ _ _ _ hn
              rcases hown.2 with ⟨hv, hxs, _⟩ | ⟨g', cap, cur, hv, _⟩
              · rw [hv] at hx
                refine wp_any s (av := .val _) (exec_len ho ha' ht' hte hx) ?_ he
                rw [hxs]; rfl
              · rw [hv] at hx
                exact wp_any s (av := .val _) (exec_len ho ha' ht' hte hx) rfl he
            · exact he.elim
          · exact semOp_sound s he
        · exact he.elim
      | append =>
        simp only [evOp, ho] at he
        split at he
        · rename_i x y t t' ha ht
          split at he
          · rename_i hb
            have := Nat.eq_of_beq_eq_true hb
            subst this
            exact op_append s ho (by apply Array.ext'; simpa using ha) (by apply Array.ext'; simpa using ht) he
          · exact he.elim
        · exact he.elim
      | _ => simp only [evOp, ho] at he; exact semB_sound s he
    | value f => simp only [evOp, ho] at he; exact semB_sound s he
    | invoke r m => simp only [evOp, ho] at he; exact semB_sound s he
  | _ => simp only [evOp, ho] at he; exact semB_sound s he
end
end Go.H
