/- Plain laws over the model: the operations on what the call keeps for itself. -/
import Derived.Test.YtjalbdammdmgiaaH7
namespace Go.H
set_option linter.unusedVariables false
section
variable {P : Program} {h0 : Hp} {w0 : World} {be : Nat → Nat} {oe : Nat → Value} {H : Hp} {st : St} {h : Hp} {a : Act} {w : World} {o : Oper} {K : AV → St → Hp → Prop} {Q : Exit → Act → World → Prop}

theorem add_plain (b o n : Nat) : (⟨b, o, none⟩ : Addr).add n = ⟨b, o + n, none⟩ := by unfold Addr.add; split <;> simp_all

/-- an operation that yields a value and turns nothing -/
theorem wp_still (s : Sim P h0 w0 be oe H st h a w) {av : AV} {v : Value} (hw : ∀ Kn : Next → Hp → Prop, Kn (.value v) H → wpS P (execOp a.eval o) H Kn) (g : Good st be oe av v) (hk : K av st h) :
    o.wp P a w (Nx P h0 w0 st be oe K a o.dst) Q := by
  obtain ⟨n, H', w', hr, ⟨rfl, rfl⟩, hm⟩ := wpS_sound _ _ _ s.mv.vis (hw (fun n H' => n = .value v ∧ H' = H) ⟨rfl, rfl⟩)
  have s' : Sim P h0 w0 be oe H' st h a w' := s.still (hf := H') (fun _ _ hb => hb) hm
  exact wp_value hr ⟨av, st, h, v, be, oe, H', hk, rfl, s', g, Grow.refl _ _ _⟩

theorem exec_v {P : Program} (s : Sem Value) (H : Hp) (Kn : Next → Hp → Prop) (h : wpS P s H (fun v H => Kn (.value v) H)) : wpS P (do pure (Next.value (← s))) H Kn := by
  rw [wpS_bind]; exact h
theorem exec_u {P : Program} (s : Sem Unit) (H : Hp) (Kn : Next → Hp → Prop) (h : wpS P s H (fun _ H => Kn .skip H)) : wpS P (do s; pure Next.skip) H Kn := by
  rw [wpS_bind]; exact h

theorem op_move (s : Sim P h0 w0 be oe H st h a w) {x : Operand} (ho : o.op = .move x ∨ o.op = .assign x) (he : match rdO st x with | .dead => False | a => K a st h) : o.wp P a w (Nx P h0 w0 st be oe K a o.dst) Q := by
  have hk : K (rdO st x) st h := by
    revert he; cases rdO st x <;> intro he <;> first | exact he | exact he.elim
  refine wp_still s (v := a.eval x) (fun Kn hk' => ?_) (s.rdO x) hk
  unfold execOp
  rcases ho with ho | ho <;> rw [ho] <;> exact hk'

theorem fits_box {cs : List Cell} {vs : List Value} (_g : GoodCs st oe cs vs) : True := trivial

theorem op_box (s : Sim P h0 w0 be oe H st h a w) {t : TypeId} {x : Operand} (ho : o.op = .box t x) {cs : List Cell} (hc : avCells (rdO st x) = some cs)
    (he : newBox st cs t fun av st => K av st h) : o.wp P a w (Nx P h0 w0 st be oe K a o.dst) Q := by
  have g := avCells_good s hc
  have hw : wpS P (execOp a.eval o) H (fun n H' => ∃ b, H b = none ∧ n = .value (ptr b 0) ∧ H' = H.set b (.cells (a.eval x).cells t (0, 0))) := by
    unfold execOp; rw [ho]
    refine exec_v _ _ _ ?_
    simp only [Instr.box, newVar, newRow, newObj, wpS_bind, wpS_pure, wpS]
    exact fun b hb => ⟨b, hb, rfl, rfl⟩
  obtain ⟨n, H', w', hr, ⟨b, hb, rfl, rfl⟩, hm⟩ := wpS_sound _ _ _ s.mv.vis hw
  have harr : (a.eval x).cells = (a.eval x).cells.toList.toArray := by simp
  rw [harr] at hm
  rw [newBox_eq] at he
  obtain ⟨s', gr⟩ := s.newBox g hb hm
  exact wp_value hr ⟨_, _, h, _, _, _, _, he, rfl, s', ⟨by simp, by simp⟩, gr⟩

theorem op_alloc (s : Sim P h0 w0 be oe H st h a w) {t : TypeId} (ho : o.op = .alloc t) {z : Value} (hz : tZero P t = some z)
    (he : newBox st (vals z.cells.toList) t fun av st => K av st h) : o.wp P a w (Nx P h0 w0 st be oe K a o.dst) Q := by
  have hw : wpS P (execOp a.eval o) H (fun n H' => ∃ b, H b = none ∧ n = .value (ptr b 0) ∧ H' = H.set b (.cells z.cells t (0, 0))) := by
    unfold execOp; rw [ho]
    refine exec_v _ _ _ ?_
    simp only [Instr.alloc, newVar, newRow, newObj, wpS_bind, wpS_zero hz, wpS_pure, wpS]
    exact fun b hb => ⟨b, hb, rfl, rfl⟩
  obtain ⟨n, H', w', hr, ⟨b, hb, rfl, rfl⟩, hm⟩ := wpS_sound _ _ _ s.mv.vis hw
  have harr : z.cells = z.cells.toList.toArray := by simp
  rw [harr] at hm
  rw [newBox_eq] at he
  obtain ⟨s', gr⟩ := s.newBox (GoodCs.vals st oe _) hb hm
  exact wp_value hr ⟨_, _, h, _, _, _, _, he, rfl, s', ⟨by simp, by simp⟩, gr⟩

theorem tOff_spec {t : TypeId} {k fo : Nat} (ht : tOff P t k = some fo) : ∃ fs f n, P.underlying t = some (.struct fs) ∧ fs[k]? = some f ∧ tSize P f.type = some (n + 1) ∧ f.offset = fo := by
  unfold tOff at ht
  split at ht
  · rename_i fs hu
    split at ht
    · rename_i f hf
      split at ht
      · rename_i n hn
        cases ht
        exact ⟨fs, f, n, hu, hf, hn, rfl⟩
      · cases ht
    · cases ht
  · cases ht

theorem exec_fieldAddr {t : TypeId} {x : Operand} {k fo b off : Nat} (ho : o.op = .fieldAddr t x k) (ht : tOff P t k = some fo) (hx : a.eval x = ptr b off) :
    ∀ Kn : Next → Hp → Prop, Kn (.value (ptr b (off + fo))) H → wpS P (execOp a.eval o) H Kn := by
  intro Kn hk
  obtain ⟨fs, f, n, hu, hf, hn, rfl⟩ := tOff_spec ht
  unfold execOp; rw [ho]
  refine exec_v _ _ _ ?_
  simp only [Instr.fieldAt, wpS_bind, wpS_underlying hu, hf, hx, ptr, Instr.sureAddr, wpS_pure, fieldPlace, wpS_sizeOf hn, Nat.add_one_ne_zero, if_false, add_plain]
  exact hk

theorem op_fieldAddr (s : Sim P h0 w0 be oe H st h a w) {t : TypeId} {x : Operand} {k : Nat} (ho : o.op = .fieldAddr t x k)
    (he : match rdO st x, tOff P t k with
    | .box i off, some fo => K (.box i (off + fo)) st h
    | .hel s i sz k, some fo => K (.hel s i sz (k + fo)) st h
    | .oel i s j sz k, some fo => K (.oel i s j sz (k + fo)) st h
    | .val (.pointer (some ⟨b, off, none⟩)), some fo => K (.val (ptr b (off + fo))) st h
    | _, _ => False) : o.wp P a w (Nx P h0 w0 st be oe K a o.dst) Q := by
  have g := s.rdO x
  split at he
  · rename_i i off fo h1 h2
    rw [h1] at g
    exact wp_still s (av := .box i (off + fo)) (exec_fieldAddr ho h2 g.2) ⟨g.1, rfl⟩ he
  · rename_i sl i sz k' fo h1 h2
    rw [h1] at g
    obtain ⟨b, o', n, c, e1, e2⟩ := g
    refine wp_still s (av := .hel sl i sz (k' + fo)) (exec_fieldAddr ho h2 e2) ⟨b, o', n, c, e1, ?_⟩ he
    simp [Nat.add_assoc]
  · rename_i i s0 j sz k' fo h1 h2
    rw [h1] at g
    obtain ⟨e, sz', by_, nn, xs, hn⟩ := rdO_oel h1
    obtain ⟨gg, n, c, e1, e2⟩ := g.oel_cur hn
    obtain ⟨t0, g1, g2, g3⟩ := g
    refine wp_still s (av := .oel i s0 j sz (k' + fo)) (exec_fieldAddr ho h2 e2) ⟨t0, g1, g2, fun _ => ⟨gg, n, c, e1, by simp [Nat.add_assoc]⟩⟩ he
  · rename_i b off fo h1 h2
    rw [h1] at g
    exact wp_still s (av := .val (ptr b (off + fo))) (exec_fieldAddr (b := b) (off := off) ho h2 g) rfl he
  · exact he.elim

theorem tElem_spec {t e : TypeId} (ht : tElem P t = some e) : P.underlying t = some (.slice e) := by
  unfold tElem at ht
  split at ht
  · rename_i hu; cases ht; exact hu
  · cases ht

theorem exec_indexAddr {t e : TypeId} {x i : Operand} {k : IntKind} {j : Int} {sz b off n c : Nat} (ho : o.op = .indexAddr t x i) (ht : tElem P t = some e) (hs : tSize P e = some sz)
    (hx : a.eval x = .slice (some ⟨b, off, none⟩) n c) (hi : a.eval i = .int k j) (h1 : 0 ≤ j) (h2 : j < (n : Int)) :
    ∀ Kn : Next → Hp → Prop, Kn (.value (ptr b (off + j.toNat * sz))) H → wpS P (execOp a.eval o) H Kn := by
  intro Kn hk
  have hu := tElem_spec ht
  unfold execOp; rw [ho]
  refine exec_v _ _ _ ?_
  simp only [Instr.indexAt, hx, hi, asIntOf, wpS_bind, wpS_pure, wpS_underlying hu, h1, h2, and_self, if_true, wpS_sizeOf hs, add_plain]
  exact hk

theorem op_load_box (s : Sim P h0 w0 be oe H st h a w) {t : TypeId} {x : Operand} {i off : Nat} {cs : List Cell} {ty : TypeId} (ho : o.op = .load t x) (hr : rdO st x = .box i off)
    (hn : nth st.bx i = some (.live cs ty)) (he : getC P t cs off fun av => K av st h) : o.wp P a w (Nx P h0 w0 st be oe K a o.dst) Q := by
  have g := s.rdO x
  rw [hr] at g
  obtain ⟨h1, vs, h2, h3⟩ := s.box i cs ty hn
  obtain ⟨av, v, k1, k2, k3⟩ := load_row (H := H) (b := be i) (o := 0) (be := be) he h2 (fun j v hj => by simp [Hp.cell, h3, hj])
  refine wp_still s (fun Kn hk => ?_) k2 k1
  unfold execOp; rw [ho]
  refine exec_v _ _ _ ?_
  rw [g.2]
  simp only [Instr.loadAt, ptr, Instr.sureAddr, wpS_bind, wpS_pure]
  simpa using k3 _ hk

theorem op_load_hel (s : Sim P h0 w0 be oe H st h a w) {t : TypeId} {x : Operand} {sl : Value} {idx : Int} {sz k : Nat} {c : List Value} (ho : o.op = .load t x) (hr : rdO st x = .hel sl idx sz k)
    (hc : ElemAt h sl sz idx c) (he : getC P t (vals c) k fun av => K av st h) : o.wp P a w (Nx P h0 w0 st be oe K a o.dst) Q := by
  have g := s.rdO x
  rw [hr] at g
  obtain ⟨b, o', n, cp, e1, e2⟩ := g
  obtain ⟨_, _, b', o'', n', cp', e3, hcell⟩ := hc
  rw [e1] at e3; cases e3
  obtain ⟨av, v, k1, k2, k3⟩ := load_row (H := H) (b := b) (o := o' + idx.toNat * sz) (be := be) he (GoodCs.vals st oe c) (fun j v hj => by
    have := hcell j v hj
    unfold Hp.cell at this ⊢
    split at this
    · rename_i ho'; rw [s.sub _ _ ho']; exact this
    · cases this)
  refine wp_still s (fun Kn hk => ?_) k2 k1
  unfold execOp; rw [ho]
  refine exec_v _ _ _ ?_
  rw [e2]
  simp only [Instr.loadAt, ptr, Instr.sureAddr, wpS_bind, wpS_pure]
  simpa [Nat.add_assoc] using k3 _ hk

theorem flat_get {sz : Nat} : ∀ (xs : List (List Value)) (i : Nat) (c : List Value), (∀ x ∈ xs, x.length = sz) → xs[i]? = some c → ∀ j v, c[j]? = some v → xs.flatten[i * sz + j]? = some v
  | [], i, c, _, h, j, v, hv => by simp at h
  | x :: xs, 0, c, hl, h, j, v, hv => by
    simp at h; subst h
    simp only [List.flatten_cons, Nat.zero_mul, Nat.zero_add]
    rw [List.getElem?_append_left (List.getElem?_eq_some_iff.1 hv).1]; exact hv
  | x :: xs, i + 1, c, hl, h, j, v, hv => by
    simp at h
    have hx := hl x (List.mem_cons_self ..)
    have := flat_get xs i c (fun y hy => hl y (List.mem_cons_of_mem _ hy)) h j v hv
    simp only [List.flatten_cons]
    rw [List.getElem?_append_right (by rw [hx, Nat.add_mul]; omega), hx]
    rw [show (i + 1) * sz + j - sz = i * sz + j from by rw [Nat.add_mul]; omega]
    exact this

theorem OwnH.cells {h H : Hp} {v : Value} {e sz : Nat} {nn : Bool} {xs : List (List Value)} (ho : OwnH h H v e sz nn xs) {g n c : Nat} (hv : v = .slice (some ⟨g, 0, none⟩) n c) :
    ∀ j u, xs.flatten[j]? = some u → Hp.cell H g j = some u := by
  intro j u hj
  rcases ho.2 with ⟨h1, _⟩ | ⟨g', cap, cur, h1, _, h2, _, _, _, htake⟩
  · rw [h1] at hv; cases hv
  · rw [h1] at hv; cases hv
    rw [← htake, List.getElem?_take] at hj
    split at hj
    · simpa [Hp.cell, h2] using hj
    · cases hj

theorem op_load_oel (s : Sim P h0 w0 be oe H st h a w) {t : TypeId} {x : Operand} {i st0 : Nat} {idx : Int} {sz k : Nat} {st1 e by_ : Nat} {nn : Bool} {xs : List (List Value)} {c : List Value}
    (ho : o.op = .load t x) (hr : rdO st x = .oel i st0 idx sz k) (hn : nth st.ow i = some ⟨st1, .live e sz by_ nn xs⟩)
    (hc : xs[idx.toNat]? = some c) (he : getC P t (vals c) k fun av => K av st h) : o.wp P a w (Nx P h0 w0 st be oe K a o.dst) Q := by
  have g := s.rdO x
  rw [hr] at g
  obtain ⟨e', sz', by', nn', xs', hn'⟩ := rdO_oel hr
  obtain ⟨gg, n, cp, e1, e2⟩ := g.oel_cur hn'
  have hown := s.own i _ _ _ _ _ _ hn
  obtain ⟨av, v, k1, k2, k3⟩ := load_row (H := H) (b := gg) (o := idx.toNat * sz) (be := be) he (GoodCs.vals st oe c) (fun j v hj =>
    hown.cells e1 _ _ (flat_get xs _ c (fun x hx => (hown.1 x hx).1) hc j v hj))
  refine wp_still s (fun Kn hk => ?_) k2 k1
  unfold execOp; rw [ho]
  refine exec_v _ _ _ ?_
  rw [e2]
  simp only [Instr.loadAt, ptr, Instr.sureAddr, wpS_bind, wpS_pure]
  exact k3 _ hk

theorem exec_store {t : TypeId} {p x : Operand} {b off n : Nat} {cur : List Value} {ty : TypeId} (ho : o.op = .store t p x) (hs : tSize P t = some n) (hp : a.eval p = ptr b off)
    (hl : (a.eval x).cells.toList.length = n) (h1 : ∀ v ∈ (a.eval x).cells.toList, v.oneCell' = true) (hb : H b = some (.cells cur.toArray ty (0, 0))) (hfit : off + n ≤ cur.length) :
    ∀ Kn : Next → Hp → Prop, Kn .skip (H.set b (.cells (spliceV cur off (a.eval x).cells.toList).toArray ty (0, 0))) → wpS P (execOp a.eval o) H Kn := by
  intro Kn hk
  unfold execOp; rw [ho]
  refine exec_u _ _ _ ?_
  rw [hp]
  have hsz : (a.eval x).cells.size = n := by simpa using hl
  simp only [Instr.storeAt, ptr, Instr.sureAddr, wpS_bind, wpS_pure, storeVar, wpS_sizeOf hs, hsz, ne_eq, not_true_eq_false, if_false]
  refine wpS_storeCells _ cur off 0 _ _ hb (by rw [hl]; omega) h1 ?_
  exact hk

theorem op_store_box (s : Sim P h0 w0 be oe H st h a w) {t : TypeId} {p x : Operand} {i off n : Nat} {cs new : List Cell} {ty : TypeId} (ho : o.op = .store t p x) (hr : rdO st p = .box i off)
    (hn : nth st.bx i = some (.live cs ty)) (hc : avCells (rdO st x) = some new) (hs : tSize P t = some n) (hl : lenB new n = true) (h1 : allOneC st new = true)
    (he : putC cs off new fun cs => K (.val undef) { st with bx := updN st.bx i (.live cs ty) } h) : o.wp P a w (Nx P h0 w0 st be oe K a o.dst) Q := by
  have g := s.rdO p
  rw [hr] at g
  have gx := avCells_good s hc
  have h1' := allOneC_spec s _ _ h1 gx
  have hlen := lenB_eq _ _ hl
  obtain ⟨hh, vs, h2, h3⟩ := s.box i cs ty hn
  unfold putC at he
  split at he
  · rename_i hfit
    have hfit := Nat.le_of_ble_eq_true hfit
    have hxl : (a.eval x).cells.toList.length = n := by rw [← gx.length, hlen]
    have hw := exec_store (H := H) (P := P) (a := a) ho hs g.2 hxl h1' h3 (by rw [← h2.length]; omega)
    obtain ⟨nx, H', w', hr', ⟨rfl, rfl⟩, hm⟩ := wpS_sound _ _ _ s.mv.vis (hw (fun n H' => n = .skip ∧ H' = _) ⟨rfl, rfl⟩)
    obtain ⟨s', gr⟩ := s.updBox hn (h2.splice gx) hm
    exact wp_unit hr' ⟨_, _, h, _, _, _, _, he, rfl, s', rfl, gr⟩
  · exact he.elim
end
end Go.H
