/- Plain laws over the model: element stores, structs; every operation. -/
import Derived.Test.YtjalbdammdmgiaaH11
namespace Go.H
set_option linter.unusedVariables false
set_option linter.unusedSimpArgs false
section
variable {P : Program} {h0 : Hp} {w0 : World} {be : Nat → Nat} {oe : Nat → Value} {H : Hp} {st : St} {h : Hp} {a : Act} {w : World} {o : Oper} {K : AV → St → Hp → Prop} {Q : Exit → Act → World → Prop}

theorem splice_left : ∀ (ns c r : List Value) (k : Nat), k + ns.length ≤ c.length → spliceV (c ++ r) k ns = spliceV c k ns ++ r
  | [], c, r, k, _ => rfl
  | n :: ns, c, r, k, hl => by
    simp only [List.length_cons] at hl
    simp only [spliceV]
    rw [List.set_append_left _ _ (by omega), splice_left ns _ r (k + 1) (by simp; omega)]
theorem splice_right : ∀ (ns x l : List Value) (k : Nat), spliceV (x ++ l) (x.length + k) ns = x ++ spliceV l k ns
  | [], x, l, k => rfl
  | n :: ns, x, l, k => by
    simp only [spliceV]
    rw [List.set_append_right _ _ (by omega), Nat.add_sub_cancel_left, Nat.add_assoc, splice_right ns x _ (k + 1)]
theorem splice_flat {sz : Nat} (ns : List Value) (k : Nat) : ∀ (xs : List (List Value)) (i : Nat) (c : List Value), (∀ x ∈ xs, x.length = sz) → xs[i]? = some c → k + ns.length ≤ c.length →
    (xs.set i (spliceV c k ns)).flatten = spliceV xs.flatten (i * sz + k) ns
  | [], i, c, _, h, _ => by simp at h
  | x :: xs, 0, c, hl, h, hk => by
    simp at h; subst h
    simp only [List.set_cons_zero, List.flatten_cons, Nat.zero_mul, Nat.zero_add]
    rw [splice_left ns x _ k hk]
  | x :: xs, i + 1, c, hl, h, hk => by
    simp at h
    have hx := hl x (List.mem_cons_self ..)
    simp only [List.set_cons_succ, List.flatten_cons]
    rw [splice_flat ns k xs i c (fun y hy => hl y (List.mem_cons_of_mem _ hy)) h hk]
    rw [show (i + 1) * sz + k = x.length + (i * sz + k) from by rw [hx, Nat.add_mul]; omega, splice_right]
theorem splice_take : ∀ (ns cs : List Value) (off N : Nat), (spliceV cs off ns).take N = spliceV (cs.take N) off ns
  | [], cs, off, N => rfl
  | n :: ns, cs, off, N => by
    simp only [spliceV]
    rw [splice_take ns _ (off + 1) N, List.take_set]
theorem splice_mem : ∀ (ns cs : List Value) (off : Nat) (v : Value), v ∈ spliceV cs off ns → v ∈ cs ∨ v ∈ ns
  | [], cs, off, v, h => .inl h
  | n :: ns, cs, off, v, h => by
    rcases splice_mem ns _ (off + 1) v h with h | h
    · rcases List.mem_or_eq_of_mem_set h with h | h
      · exact .inl h
      · exact .inr (by rw [h]; exact List.mem_cons_self ..)
    · exact .inr (List.mem_cons_of_mem _ h)

theorem op_store_oel (s : Sim P h0 w0 be oe H st h a w) {t : TypeId} {p x : Operand} {i s0 : Nat} {idx : Int} {sz k : Nat} (ho : o.op = .store t p x) (hr : rdO st p = .oel i s0 idx sz k)
    (he : rfy (rdO st x) st h fun v st h => match nth st.ow i, tSize P t with
      | some ⟨s', .live e sz' by_ nn xs⟩, some n => match lenB v.cells.toList n, allOne v.cells.toList, Nat.beq s' s0, Nat.beq sz' sz with
        | true, true, true, true => ∃ c, xs[idx.toNat]? = some c ∧ putC c k v.cells.toList fun c' =>
            K (.val undef) { st with ow := updN st.ow i ⟨s', .live e sz' by_ nn (xs.set idx.toNat c')⟩ } h
        | _, _, _, _ => False
      | _, _ => False) : o.wp P a w (Nx P h0 w0 st be oe K a o.dst) Q := by
  have gp := s.rdO p
  rw [hr] at gp
  obtain ⟨st1, h1, e1, s1, g1⟩ := rfy_sound s (s.rdO x) he
  have gp1 := gp.grow g1
  split at e1
  rotate_left
  · exact e1.elim
  rename_i s' e sz' by_ nn xs n hn hs
  split at e1
  rotate_left
  · exact e1.elim
  rename_i hl hone hb1 hb2
  have hst := Nat.eq_of_beq_eq_true hb1
  have hsz := Nat.eq_of_beq_eq_true hb2
  subst hst; subst hsz
  obtain ⟨c, hc, e2⟩ := e1
  unfold putC at e2
  split at e2
  rotate_left
  · exact e2.elim
  rename_i hfit
  have hfit := Nat.le_of_ble_eq_true hfit
  have hlen := lenB_eq _ _ hl
  have hone' := allOne_spec _ hone
  obtain ⟨g, n', c', hg, hx⟩ := gp1.oel_cur hn
  have hown := s1.own i _ _ _ _ _ _ hn
  rcases hown.2 with ⟨hv, _⟩ | ⟨g', cap, cur, hv, hg1, hg2, hnc, hcm, hcs, htake⟩
  · rw [hv] at hg; cases hg
  rw [hv] at hg; cases hg
  have hci := (List.getElem?_eq_some_iff.1 hc)
  have hcl : c.length = sz' := (hown.1 c (List.mem_of_getElem? hc)).1
  have hb : idx.toNat * sz' + k + n ≤ cur.toList.length := by
    have : (idx.toNat + 1) * sz' ≤ c' * sz' := Nat.mul_le_mul_right _ (Nat.le_trans hci.1 hnc)
    rw [Nat.add_mul] at this
    simp only [Array.length_toList, hcs]
    omega
  have hw := exec_store (H := H) (P := P) (a := a) (cur := cur.toList) ho hs hx hlen hone' (by simpa using hg2) hb
  obtain ⟨nx, H', w', hr', ⟨rfl, rfl⟩, hm⟩ := wpS_sound _ _ _ s1.mv.vis (hw (fun n H' => n = .skip ∧ H' = _) ⟨rfl, rfl⟩)
  rw [splice_eq] at e2
  have hO : OwnH h1 (H.set g (.cells (spliceV cur.toList (idx.toNat * sz' + k) (a.eval x).cells.toList).toArray e (0, 0))) (oe i) e sz' nn (xs.set idx.toNat (spliceV c k (a.eval x).cells.toList)) := by
    refine ⟨fun y hy => ?_, .inr ⟨g, c', _, by simpa using hv, hg1, Hp.set_same _ _ _, by simpa using hnc, hcm, by simp [length_spliceV, hcs], ?_⟩⟩
    · rcases List.mem_or_eq_of_mem_set hy with hy | rfl
      · exact hown.1 y hy
      · refine ⟨by rw [length_spliceV, hcl], fun v hv' => ?_⟩
        rcases splice_mem _ _ _ _ hv' with h' | h'
        · exact (hown.1 c (List.mem_of_getElem? hc)).2 v h'
        · exact hone' v h'
    · rw [splice_flat (sz := sz') _ _ xs idx.toNat c (fun x hx => (hown.1 x hx).1) hc hfit, ← htake]
      simp only [List.length_set]
      rw [splice_take]
  obtain ⟨s'', gr⟩ := s1.updOwn (s1 := s') (by_ := by_) hn (Nat.le_refl _) (fun _ => rfl) hm (fun b hb' _ => Hp.set_other _ _ (fun e => hb' (by rw [hv, e]; rfl))) hO (fun g' hg' => .inl hg')
  exact wp_unit hr' ⟨_, _, h1, _, _, _, _, e2, rfl, s'', rfl, g1.trans gr⟩

theorem op_store_hel (s : Sim P h0 w0 be oe H st h a w) {t : TypeId} {p x : Operand} {sl : Value} {idx : Int} {sz k : Nat} {v : Value} (ho : o.op = .store t p x) (hr : rdO st p = .hel sl idx sz k)
    (hx : rdO st x = .val v) (hs : tSize P t = some 1)
    (he : ∃ b of n cp cur ty, (sl = .slice (some ⟨b, of, none⟩) n cp ∧ 0 ≤ idx ∧ h b = some (.cells cur ty (0, 0)) ∧ of + (idx.toNat * sz + k) < cur.size ∧ oneCell v) ∧
            K (.val undef) st (h.set b (.cells (cur.setIfInBounds (of + (idx.toNat * sz + k)) v) ty (0, 0)))) : o.wp P a w (Nx P h0 w0 st be oe K a o.dst) Q := by
  have gp := s.rdO p
  rw [hr] at gp
  have gx : a.eval x = v := by have := s.rdO x; rw [hx] at this; exact this
  obtain ⟨b, off, n, cp, cur, ty, ⟨e1, _, hb, hlt, hone⟩, hk⟩ := he
  obtain ⟨b', off', n', cp', e2, e3⟩ := gp
  rw [e1] at e2; cases e2
  have hcells : v.cells = #[v] := by cases v <;> simp_all [oneCell, Value.cells]
  have hone' : v.oneCell' = true := by cases v <;> simp_all [oneCell, Value.oneCell']
  have hw := exec_store (H := h) (P := P) (a := a) (cur := cur.toList) ho hs e3 (by rw [gx, hcells]; rfl) (by rw [gx, hcells]; simpa using hone') (by simpa using hb) (by simp; omega)
  obtain ⟨nx, h', w', hr', ⟨rfl, rfl⟩, hm⟩ := wpS_sound _ _ _ (vis_h s) (hw (fun n h' => n = .skip ∧ h' = _) ⟨rfl, rfl⟩)
  obtain ⟨H', s'⟩ := s.moved hm
  have harr : (spliceV cur.toList (off + (idx.toNat * sz + k)) (a.eval x).cells.toList).toArray = cur.setIfInBounds (off + (idx.toNat * sz + k)) v := by
    rw [gx, hcells]
    apply Array.ext'
    simp [spliceV]
  rw [harr] at s'
  exact wp_unit hr' ⟨_, _, _, _, _, _, _, hk, rfl, s', rfl, Grow.refl _ _ _⟩

theorem op_store_helN (s : Sim P h0 w0 be oe H st h a w) {t : TypeId} {p x : Operand} {sl : Value} {idx : Int} {sz k n : Nat} {new : List Value} (ho : o.op = .store t p x) (hr : rdO st p = .hel sl idx sz k)
    (hx : (a.eval x).cells.toList = new) (hs : tSize P t = some n) (hl : lenB new n = true) (h1 : allOne new = true)
    (he : helStoreN h sl idx (idx.toNat * sz + k) new fun h' => K (.val undef) st h') : o.wp P a w (Nx P h0 w0 st be oe K a o.dst) Q := by
  have gp := s.rdO p
  rw [hr] at gp
  obtain ⟨b, off, n', cp, cur, ty, ⟨e1, _, hb, hlt⟩, hk⟩ := he
  obtain ⟨b', off', n2, cp', e2, e3⟩ := gp
  rw [e1] at e2; cases e2
  have hlen := lenB_eq _ _ hl
  have hw := exec_store (H := h) (P := P) (a := a) (cur := cur.toList) ho hs e3 (by rw [hx]; exact hlen) (by rw [hx]; exact allOne_spec _ h1) (by simpa using hb) (by simp; omega)
  obtain ⟨nx, h', w', hr', ⟨rfl, rfl⟩, hm⟩ := wpS_sound _ _ _ (vis_h s) (hw (fun n h' => n = .skip ∧ h' = _) ⟨rfl, rfl⟩)
  obtain ⟨H', s'⟩ := s.moved hm
  rw [splice_eq] at hk
  rw [hx] at s'
  exact wp_unit hr' ⟨_, _, _, _, _, _, _, hk, rfl, s', rfl, Grow.refl _ _ _⟩

/-! ### structs -/
theorem allSized_spec : ∀ (fs : List Field), allSized P fs = true → ∃ places, fs.mapM (fun f : Field => (P.info? f.type).map fun i => (f.offset, i.size)) = some places ∧
    ∀ (k : Nat) (f : Field) (n : Nat), fs[k]? = some f → tSize P f.type = some n → places[k]? = some (f.offset, n)
  | [], _ => ⟨[], rfl, by simp⟩
  | f :: r, h => by
    simp only [allSized] at h
    split at h
    · rename_i m hm
      obtain ⟨places, h1, h2⟩ := allSized_spec r h
      unfold tSize at hm
      split at hm
      · rename_i i hi
        cases hm
        refine ⟨(f.offset, i.size) :: places, by simp [List.mapM_cons, hi, h1], fun k g n hk hn => ?_⟩
        cases k with
        | zero =>
          simp at hk
          subst hk
          unfold tSize at hn
          rw [hi] at hn
          cases hn
          simp
        | succ k => simpa using h2 k g n (by simpa using hk) hn
      · cases hm
    · cases h

theorem fillAV_sound {fs : Array Field} {places : List (Nat × Nat)} (hp : ∀ (k : Nat) (f : Field) (n : Nat), fs.toList[k]? = some f → tSize P f.type = some n → places[k]? = some (f.offset, n)) {rd : Operand → AV}
    (hrd : ∀ x cs, avCells (rd x) = some cs → GoodCs st oe cs (a.eval x).cells.toList) : ∀ (l : List (Nat × Operand)) {cs : List Cell} {vs : List Value} {K : List Cell → Prop}, GoodCs st oe cs vs → fillAV P fs rd l cs K →
    ∃ cs' vs', K cs' ∧ GoodCs st oe cs' vs' ∧ Instr.fill (places.toArray[·]?) vs.toArray (l.map fun p => (p.1, a.eval p.2)) = some vs'.toArray
  | [], cs, vs, K, g, he => ⟨cs, vs, he, g, rfl⟩
  | (i, x) :: r, cs, vs, K, g, he => by
    simp only [fillAV] at he
    split at he
    rotate_left
    · exact he.elim
    rename_i f new hf hn
    split at he
    rotate_left
    · exact he.elim
    rename_i n hs
    split at he
    rotate_left
    · exact he.elim
    rename_i hl hb
    have hlen := lenB_eq _ _ hl
    have hle := Nat.le_of_ble_eq_true hb
    have gx := hrd x new hn
    have hpl := hp i f n (by simpa using hf) hs
    have hcl := g.length
    have hxl := gx.length
    obtain ⟨cs', vs', k1, k2, k3⟩ := fillAV_sound hp hrd r (g.splice gx) he
    refine ⟨cs', vs', k1, k2, ?_⟩
    have hsz : (a.eval x).cells.size = n := by rw [← hlen, hxl]; simp
    simp only [List.map_cons, Instr.fill, List.getElem?_toArray, hpl, hsz, ne_eq, not_true_eq_false, decide_false, Bool.false_or, decide_eq_true_eq]
    rw [if_neg (by simp; omega)]
    have h2 := fill_one (a.eval x) f.offset vs.toArray
    have h3 : ((a.eval x).cells.zipIdx.foldl (fun cs (p : Value × Nat) => cs.setIfInBounds (f.offset + p.2) p.1) vs.toArray) = (spliceV vs f.offset (a.eval x).cells.toList).toArray := by
      rw [← h2]
    rw [show ((a.eval x).cells.zipIdx.foldl (fun cs (x : Value × Nat) => match x with | (c, j) => cs.setIfInBounds (f.offset + j) c) vs.toArray) = (spliceV vs f.offset (a.eval x).cells.toList).toArray from h3]
    simpa using k3

theorem op_build (s : Sim P h0 w0 be oe H st h a w) {t : TypeId} {ps : Array (Nat × Operand)} {fs : Array Field} {z : Value} {rd : Operand → AV} {K' : AV → Prop} (ho : o.op = .build t ps) (hu : P.underlying t = some (.struct fs))
    (hz : tZero P t = some z) (ha : allSized P fs.toList = true) (hrd : ∀ x cs, avCells (rd x) = some cs → GoodCs st oe cs (a.eval x).cells.toList)
    (he : fillAV P fs rd ps.toList (vals z.cells.toList) fun cs => K' (.agg cs)) :
    ∃ av v, K' av ∧ Good st be oe av v ∧ ∀ w : World, (execOp a.eval o).run P w = .ok (.value v) w := by
  obtain ⟨places, h1, h2⟩ := allSized_spec fs.toList ha
  obtain ⟨cs', vs', k1, k2, k3⟩ := fillAV_sound (st := st) (oe := oe) (a := a) h2 hrd ps.toList (GoodCs.vals st oe z.cells.toList) he
  have hz' := hz
  unfold tZero at hz'
  split at hz'
  rotate_left
  · cases hz'
  rename_i i hi
  have hb : P.built t (ps.map fun x => (x.1, a.eval x.2)).toList = some vs'.toArray := by
    unfold Program.built
    simp only [hi, hu, hz', h1]
    rw [show (Array.map (fun x => (x.1, a.eval x.2)) ps).toList = ps.toList.map fun p => (p.1, a.eval p.2) from by simp]
    simpa using k3
  refine ⟨_, .agg vs'.toArray, k1, ⟨vs', rfl, k2⟩, fun w => ?_⟩
  unfold execOp; rw [ho]
  simp only [Sem.run_bind, run_build w t _ _ hb, Result.andThen_ok, Sem.run_pure]

theorem aggCells_good (s : Sim P h0 w0 be oe H st h a w) {x : Operand} {cs : List Cell} (he : aggCells (rdO st x) = some cs) : ∃ vs : List Value, a.eval x = .agg vs.toArray ∧ GoodCs st oe cs vs := by
  have g := s.rdO x
  cases hr : rdO st x with
  | val v =>
    rw [hr] at he g
    cases v <;> simp only [aggCells, Option.some.injEq] at he <;> first | (subst he; exact ⟨_, by rw [show a.eval x = _ from g], GoodCs.vals _ _ _⟩) | cases he
  | agg cs' =>
    rw [hr] at he g
    simp only [aggCells, Option.some.injEq] at he
    subst he
    exact g
  | _ => rw [hr] at he; cases he

theorem op_field (s : Sim P h0 w0 be oe H st h a w) {t : TypeId} {x : Operand} {k : Nat} {cs : List Cell} {fs : Array Field} {f : Field} (ho : o.op = .field t x k) (hc : aggCells (rdO st x) = some cs)
    (hu : P.underlying t = some (.struct fs)) (hf : fs[k]? = some f) (he : getC P f.type cs f.offset fun av => K av st h) : o.wp P a w (Nx P h0 w0 st be oe K a o.dst) Q := by
  obtain ⟨vs, hx, g⟩ := aggCells_good s hc
  unfold getC at he
  have fin : ∀ (av : AV) (v : Value), K av st h → Good st be oe av v → (∀ Kn : Value → Hp → Prop, Kn v H → wpS P (part f.type vs.toArray f.offset) H Kn) → o.wp P a w (Nx P h0 w0 st be oe K a o.dst) Q := by
    intro av v hk hg hw
    refine wp_still s (fun Kn hk' => ?_) hg hk
    unfold execOp; rw [ho]
    refine exec_v _ _ _ ?_
    simp only [Instr.field, wpS_bind, wpS_underlying hu, hf, hx, asAgg, wpS_pure]
    exact hw _ hk'
  split at he
  · rename_i hag
    split at he
    · rename_i n hn
      split at he
      · refine fin _ (.agg ((vs.drop f.offset).take n).toArray) he ⟨_, rfl, (g.drop _).take _⟩ fun Kn hk => ?_
        simp only [part, wpS_bind, wpS_isAgg hag, if_true, wpS_sizeOf hn, wpS_pure]
        have : vs.toArray.extract f.offset (f.offset + n) = ((vs.drop f.offset).take n).toArray := by
          apply Array.ext'
          simp [List.take_drop]
        rw [this]
        exact hk
      · exact he.elim
    · exact he.elim
  · rename_i hag
    split at he
    · rename_i c hn
      obtain ⟨v, hv, gc⟩ := g.nth hn
      refine fin _ v he (Good.ofCell gc) fun Kn hk => ?_
      simp only [part, wpS_bind, wpS_isAgg hag, Bool.false_eq_true, if_false]
      have : vs.toArray[f.offset]? = some v := by simpa using hv
      simp only [this, wpS_pure]
      exact hk
    · exact he.elim
  · exact he.elim

theorem exec_len {t : TypeId} {e : TypeId} {x : Operand} {as : Array Operand} {ts : Array TypeId} {ad : Option Addr} {n c : Nat} (ho : o.op = .call { callee := .builtin .len, args := as, argTypes := ts }) (ha : as = #[x]) (hts : ts = #[t])
    (hte : tElem P t = some e) (hx : a.eval x = .slice ad n c) (w : World) : (execOp a.eval o).run P w = .ok (.value (.int .i64 n)) w := by
  subst ha; subst hts
  unfold execOp; rw [ho]
  simp only [resolve, invoke, builtin, Builtin.len_, Sem.run_bind, Sem.run_pure, Result.andThen_ok, List.map_toArray, List.map_cons, List.map_nil, hx, List.getElem?_toArray, List.getElem?_cons_zero, run_underlying (tElem_spec hte), goInt]
end
end Go.H
