/- Plain laws over the model: cuts, element stores, structs, strings. -/
import Derived.Test.YtjalbdammdmgiaaH10
namespace Go.H
set_option linter.unusedVariables false
set_option linter.unusedSimpArgs false
section
variable {P : Program} {h0 : Hp} {w0 : World} {be : Nat → Nat} {oe : Nat → Value} {H : Hp} {st : St} {h : Hp} {a : Act} {w : World} {o : Oper} {K : AV → St → Hp → Prop} {Q : Exit → Act → World → Prop}

theorem op_indexAddr (s : Sim P h0 w0 be oe H st h a w) {t : TypeId} {x i : Operand} (ho : o.op = .indexAddr t x i)
    (he : match rdO st i with
    | .val (.int _ j) => match tElem P t with
      | some e => match tSize P e with
        | some sz => match rdO st x with
          | .val (.slice a n c) => InB (.slice a n c) j ∧ K (.hel (.slice a n c) j sz 0) st h
          | .own i k => match nth st.ow i with
            | some ⟨_, .live _ sz' _ _ xs⟩ => match Nat.beq sz' sz with
              | true => (0 ≤ j ∧ j < (xs.length : Int)) ∧ K (.oel i k j sz 0) st h
              | false => False
            | _ => False
          | _ => False
        | none => False
      | none => False
    | _ => False) : o.wp P a w (Nx P h0 w0 st be oe K a o.dst) Q := by
  have gi := s.rdO i
  have gx := s.rdO x
  split at he
  rotate_left
  · exact he.elim
  rename_i k j hi
  rw [hi] at gi
  split at he
  rotate_left
  · exact he.elim
  rename_i e hte
  split at he
  rotate_left
  · exact he.elim
  rename_i sz hs
  split at he
  · rename_i ad n c hr
    rw [hr] at gx
    obtain ⟨⟨b, off, n', c', e1, b1, b2⟩, hk⟩ := he
    cases e1
    exact wp_still s (av := .hel _ j sz 0) (exec_indexAddr ho hte hs gx gi b1 b2) ⟨b, off, n, c, rfl, by simp⟩ hk
  · rename_i ii kk hr
    obtain ⟨e0, sz0, by0, nn0, xs, hn⟩ := rdO_own hr
    rw [hr] at gx
    simp only [hn] at he
    split at he
    · rename_i hb
      have hsz := Nat.eq_of_beq_eq_true hb
      subst hsz
      obtain ⟨⟨b1, b2⟩, hk⟩ := he
      have hown := s.own ii _ _ _ _ _ _ hn
      rcases hown.2 with ⟨_, hx, _⟩ | ⟨g, cap, cur, hv, _⟩
      · rw [hx] at b2; simp at b2; omega
      · have hx := gx.own_cur hn
        rw [hv] at hx
        refine wp_still s (av := .oel ii kk j sz0 0) (exec_indexAddr ho hte hs hx gi b1 b2) ⟨kk, by simp [stamp, hn], Nat.le_refl _, fun _ => ⟨g, xs.length, cap, hv, by simp⟩⟩ hk
    · exact he.elim
  · exact he.elim

theorem flat_take {sz : Nat} : ∀ (xs : List (List Value)) (k : Nat), (∀ x ∈ xs, x.length = sz) → (xs.take k).flatten = xs.flatten.take (k * sz)
  | [], k, _ => by simp
  | x :: xs, 0, _ => by simp
  | x :: xs, k + 1, hl => by
    have hx := hl x (List.mem_cons_self ..)
    simp only [List.take_succ_cons, List.flatten_cons]
    rw [flat_take xs k (fun y hy => hl y (List.mem_cons_of_mem _ hy)), List.take_append (l₁ := x), List.take_of_length_le (l := x) (by rw [hx, Nat.add_mul]; omega), hx, Nat.add_mul, Nat.one_mul, Nat.add_sub_cancel]
theorem flat_drop {sz : Nat} : ∀ (xs : List (List Value)) (k : Nat), (∀ x ∈ xs, x.length = sz) → (xs.drop k).flatten = xs.flatten.drop (k * sz)
  | [], k, _ => by simp
  | x :: xs, 0, _ => by simp
  | x :: xs, k + 1, hl => by
    have hx := hl x (List.mem_cons_self ..)
    simp only [List.drop_succ_cons, List.flatten_cons]
    rw [flat_drop xs k (fun y hy => hl y (List.mem_cons_of_mem _ hy)), List.drop_append (l₁ := x), List.drop_of_length_le (l := x) (by rw [hx, Nat.add_mul]; omega), hx, Nat.add_mul, Nat.one_mul, Nat.add_sub_cancel, List.nil_append]

/-! ### cuts -/
def BndOk (a : Act) (d : Int) (x : Option Operand) (l : Int) : Prop := match x with
  | none => l = d
  | some y => ∃ k, a.eval y = .int k l

theorem bound_spec (s : Sim P h0 w0 be oe H st h a w) {d l : Int} {x : Option Operand} (he : bound d (x.map (rdO st)) = some l) : BndOk a d x l := by
  cases x with
  | none => simp only [Option.map_none, bound, Option.some.injEq] at he; exact he.symm
  | some y =>
    have g := s.rdO y
    simp only [Option.map_some] at he
    cases hr : rdO st y with
    | val v =>
      rw [hr] at he g
      cases v <;> simp only [bound, Option.some.injEq] at he <;> first | (subst he; exact ⟨_, g⟩) | cases he
    | _ => rw [hr] at he; cases he

theorem wpS_bound {x : Value} {k : IntKind} {i : Int} {y : Nat} {code : BoundsCode} (hx : x = .int k i) (h1 : 0 ≤ i) (h2 : i ≤ (y : Int)) (Kn : Nat → Hp → Prop) : wpS P (Instr.sliceBound x y code) H Kn = Kn i.toNat H := by
  subst hx
  simp only [Instr.sliceBound, asIntOf, wpS_bind, wpS_pure, h1, h2, and_self, if_true]

theorem wpS_bounds {isS : Bool} {n c : Nat} {lo hi : Option Operand} {l m : Int} (hl : BndOk a 0 lo l) (hm : BndOk a n hi m) (h1 : 0 ≤ l) (h2 : l ≤ m) (h3 : m ≤ (n : Int)) (hnc : n ≤ c)
    (Kn : Nat × Nat × Nat → Hp → Prop) : wpS P (Instr.sliceBounds isS n c (lo.map a.eval) (hi.map a.eval) none) H Kn = Kn (l.toNat, m.toNat, c) H := by
  have hml : l ≤ (m.toNat : Int) := by omega
  cases lo with
  | none =>
    have hl0 : l = 0 := hl
    subst hl0
    cases hi with
    | none =>
      have hm0 : m = (n : Int) := hm
      subst hm0
      simp only [Instr.sliceBounds, Option.map_none, wpS_bind, wpS_pure]; rfl
    | some y =>
      obtain ⟨k, hy⟩ := hm
      simp only [Instr.sliceBounds, Option.map_none, Option.map_some, wpS_bind, wpS_pure, wpS_bound hy (by omega) (show m ≤ (c : Int) by omega)]; rfl
  | some x =>
    obtain ⟨k, hx⟩ := hl
    cases hi with
    | none =>
      have hm0 : m = (n : Int) := hm
      subst hm0
      simp only [Instr.sliceBounds, Option.map_none, Option.map_some, wpS_bind, wpS_pure, wpS_bound hx h1 (show l ≤ ((n : Nat) : Int) by omega)]; rfl
    | some y =>
      obtain ⟨k', hy⟩ := hm
      simp only [Instr.sliceBounds, Option.map_some, wpS_bind, wpS_pure, wpS_bound hy (by omega) (show m ≤ (c : Int) by omega), wpS_bound hx h1 hml]

theorem exec_slice {t e sz : Nat} {x : Operand} {lo hi : Option Operand} {ad : Option Addr} {n c : Nat} {l m : Int} (ho : o.op = .slice t x lo hi none) (hte : tElem P t = some e) (hs : tSize P e = some sz)
    (hx : a.eval x = .slice ad n c) (hl : BndOk a 0 lo l) (hm : BndOk a n hi m) (h1 : 0 ≤ l) (h2 : l ≤ m) (h3 : m ≤ (n : Int)) (hnc : n ≤ c) :
    ∀ Kn : Next → Hp → Prop, Kn (.value (.slice (if c = l.toNat then ad else ad.map (·.add (l.toNat * sz))) (m.toNat - l.toNat) (c - l.toNat))) H → wpS P (execOp a.eval o) H Kn := by
  intro Kn hk
  unfold execOp; rw [ho]
  refine exec_v _ _ _ ?_
  simp only [Instr.sliceAt, wpS_bind, wpS_underlying (tElem_spec hte), Instr.slice, hx, Option.map_none]
  rw [wpS_bounds hl hm h1 h2 h3 hnc]
  simp only [wpS_sizeOf hs, wpS_pure]
  exact hk

theorem op_cutVal (s : Sim P h0 w0 be oe H st h a w) {t e sz : Nat} {x : Operand} {lo hi : Option Operand} {ad : Option Addr} {n c : Nat} (ho : o.op = .slice t x lo hi none) (hte : tElem P t = some e) (hs : tSize P e = some sz)
    (hr : rdO st x = .val (.slice ad n c)) (he : cutVal sz (.slice ad n c) n (lo.map (rdO st)) (hi.map (rdO st)) st h K) : o.wp P a w (Nx P h0 w0 st be oe K a o.dst) Q := by
  have gx := s.rdO x
  rw [hr] at gx
  unfold cutVal at he
  split at he
  rotate_left
  · exact he.elim
  rename_i l m hl hm
  obtain ⟨⟨h1, h2, h3⟩, xs, hS, hk⟩ := he
  obtain ⟨hall, ad', n', c', e1, hn, hnc, hc⟩ := hS
  cases e1
  have hlen : ((xs.take m.toNat).drop l.toNat).length = m.toNat - l.toNat := by simp; omega
  have hnew : SlE h sz (.slice (if c = l.toNat then ad else ad.map (·.add (l.toNat * sz))) (m.toNat - l.toNat) (c - l.toNat)) ((xs.take m.toNat).drop l.toNat) := by
    refine ⟨fun y hy => hall y (List.mem_of_mem_take (List.mem_of_mem_drop hy)), _, _, _, rfl, hlen.symm, by omega, ?_⟩
    rcases hc with hc | ⟨b, off, rfl, hcell⟩
    · left
      rw [List.flatten_eq_nil_iff] at hc ⊢
      exact fun y hy => hc y (List.mem_of_mem_take (List.mem_of_mem_drop hy))
    · by_cases hcl : c = l.toNat
      · left
        have : (xs.take m.toNat).drop l.toNat = [] := List.eq_nil_of_length_eq_zero (by rw [hlen]; omega)
        rw [this]; rfl
      · right
        rw [if_neg hcl]
        refine ⟨b, off + l.toNat * sz, by simp [add_plain], fun j v hj => ?_⟩
        have hx := flat_len xs (fun x hx => (hall x hx).1)
        rw [Nat.add_assoc]
        refine hcell _ _ ?_
        have e1 : (xs.take m.toNat).flatten = xs.flatten.take (m.toNat * sz) := flat_take xs _ (fun x hx => (hall x hx).1)
        have e2 : ((xs.take m.toNat).drop l.toNat).flatten = ((xs.take m.toNat).flatten).drop (l.toNat * sz) := flat_drop _ _ (fun y hy => (hall y (List.mem_of_mem_take hy)).1)
        rw [e2, e1, List.getElem?_drop, List.getElem?_take] at hj
        split at hj
        · exact hj
        · cases hj
  exact wp_still s (av := .val _) (exec_slice ho hte hs gx (bound_spec s hl) (bound_spec s hm) h1 h2 h3 hnc) rfl (hk _ hnew fun _ _ _ e => by cases e; rfl)

theorem op_cutOwn (s : Sim P h0 w0 be oe H st h a w) {t e sz : Nat} {x : Operand} {lo hi : Option Operand} {i k : Nat} (ho : o.op = .slice t x lo hi none) (hte : tElem P t = some e) (hs : tSize P e = some sz)
    (hr : rdO st x = .own i k) (he : cutOwn i (lo.map (rdO st)) (hi.map (rdO st)) st h K) : o.wp P a w (Nx P h0 w0 st be oe K a o.dst) Q := by
  have gx := s.rdO x
  rw [hr] at gx
  obtain ⟨e0, sz0, by0, nn0, xs, hn⟩ := rdO_own hr
  unfold cutOwn at he
  split at he
  rotate_left
  · exact he.elim
  rename_i kk m hlo hhi
  simp only [hn] at he
  obtain ⟨⟨b1, b2⟩, hk⟩ := he
  have hlo' : lo = none := by cases lo <;> simp at hlo; rfl
  subst hlo'
  have hm : BndOk a (xs.length : Int) hi m := by
    cases hi with
    | none => simp at hhi
    | some y =>
      have g := s.rdO y
      simp only [Option.map_some, Option.some.injEq] at hhi
      rw [hhi] at g
      exact ⟨kk, g⟩
  have hown := s.own i _ _ _ _ _ _ hn
  have hx := gx.own_cur hn
  have hsame : ∀ v, v = oe i → v.ownBlock = (oe i).ownBlock := fun v hv => by rw [hv]
  -- the header behind the cut, and that it owns the beginning
  have main : ∃ v, (∀ Kn : Next → Hp → Prop, Kn (.value v) H → wpS P (execOp a.eval o) H Kn) ∧ v.ownBlock = (oe i).ownBlock ∧ OwnH h H v e0 sz0 nn0 (xs.take m.toNat) := by
    have hall : ∀ y ∈ xs.take m.toNat, y.length = sz0 ∧ ∀ v ∈ y, v.oneCell' = true := fun y hy => hown.1 y (List.mem_of_mem_take hy)
    rcases hown.2 with ⟨h1, h2, h3⟩ | ⟨g, cap, cur, h1, h2, h3, h4, h5, h6, h7⟩
    · rw [h1] at hx
      subst h2
      have hm0 : m = 0 := by simp at b2; omega
      subst hm0
      refine ⟨_, exec_slice ho hte hs hx (l := 0) rfl hm (by omega) (by omega) (by simp) (Nat.le_refl _), ?_, hall, .inl ⟨by simp, by simp, h3⟩⟩
      rw [h1]; simp [Value.ownBlock]
    · rw [h1] at hx
      refine ⟨.slice (some ⟨g, 0, none⟩) m.toNat cap, fun Kn hk => exec_slice ho hte hs hx (l := 0) rfl hm (by omega) b1 b2 h4 Kn ?_, by rw [h1]; rfl, hall, .inr ⟨g, cap, cur, ?_, h2, h3, ?_, h5, h6, ?_⟩⟩
      · have : (if cap = Int.toNat 0 then some (⟨g, 0, none⟩ : Addr) else (some (⟨g, 0, none⟩ : Addr)).map (·.add (Int.toNat 0 * sz))) = some ⟨g, 0, none⟩ := by
          simp [Addr.add]
        rw [this]
        simpa using hk
      · have : (xs.take m.toNat).length = m.toNat := by simp; omega
        rw [this]
      · simp; omega
      · have hl : (xs.take m.toNat).length = m.toNat := by simp; omega
        rw [hl]
        have e1 : (xs.take m.toNat).flatten = xs.flatten.take (m.toNat * sz0) := flat_take xs _ (fun x hx => (hown.1 x hx).1)
        rw [e1, ← h7, List.take_take]
        congr 1
        rw [Nat.min_eq_left (Nat.mul_le_mul_right _ (by omega))]
  obtain ⟨v, hw, hb, hO⟩ := main
  obtain ⟨nx, H', w', hrun, ⟨rfl, rfl⟩, hmv⟩ := wpS_sound _ _ _ s.mv.vis (hw (fun n H' => n = .value v ∧ H' = H) ⟨rfl, rfl⟩)
  obtain ⟨s', gr⟩ := s.updOwn (s1 := k + 1) (by_ := by0) hn (Nat.le_succ _) (fun e => absurd e (Nat.succ_ne_self k)) hmv (fun _ _ _ => rfl) hO (fun g hg => .inl (by rw [← hb]; exact hg))
  refine wp_value hrun ⟨_, _, h, v, _, _, _, hk, rfl, s', ?_, gr⟩
  refine ⟨k + 1, ?_, Nat.le_refl _, fun _ => by simp⟩
  simp [stamp, nth_updN _ _ _ (nth_lt hn)]

theorem exec_cutStr {t : TypeId} {x : Operand} {lo hi : Option Operand} {b : ByteArray} {l m : Int} (ho : o.op = .slice t x lo hi none) (hu : P.underlying t = some .string)
    (hx : a.eval x = .string b) (hl : BndOk a 0 lo l) (hm : BndOk a b.size hi m) (h1 : 0 ≤ l) (h2 : l ≤ m) (h3 : m ≤ (b.size : Int)) :
    ∀ Kn : Next → Hp → Prop, Kn (.value (.string (b.extract l.toNat m.toNat))) H → wpS P (execOp a.eval o) H Kn := by
  intro Kn hk
  unfold execOp; rw [ho]
  refine exec_v _ _ _ ?_
  simp only [Instr.sliceAt, wpS_bind, wpS_underlying hu, Instr.slice, hx, Option.map_none, Option.isSome_none, Bool.false_eq_true, if_false, wpS_pure]
  rw [wpS_bounds hl hm h1 h2 h3 (Nat.le_refl _)]
  exact hk

theorem exec_index {t : TypeId} {x i : Operand} {b : ByteArray} {k : IntKind} {j : Int} {c : UInt8} (ho : o.op = .index t x i) (hu : P.underlying t = some .string) (hx : a.eval x = .string b) (hi : a.eval i = .int k j)
    (h1 : 0 ≤ j) (hc : b[j.toNat]? = some c) : ∀ Kn : Next → Hp → Prop, Kn (.value (.int .u8 c.toNat)) H → wpS P (execOp a.eval o) H Kn := by
  intro Kn hk
  unfold execOp; rw [ho]
  refine exec_v _ _ _ ?_
  simp only [Instr.index, hx, hi, asIntOf, wpS_bind, wpS_pure, wpS_underlying hu, h1, if_true, hc]
  exact hk

theorem exec_quo {t t' : TypeId} {x y : Operand} {b c : Int} (ho : o.op = .binOp .quo t x y t') (hx : a.eval x = .int .i64 b) (hy : a.eval y = .int .i64 c) (hl : c ≠ 0) :
    ∀ Kn : Next → Hp → Prop, Kn (.value (.int .i64 (IntKind.i64.wrap (b.tdiv c)))) H → wpS P (execOp a.eval o) H Kn := by
  intro Kn hk
  unfold execOp; rw [ho]
  refine exec_v _ _ _ ?_
  simp only [hx, hy, eqGuard, wpS_bind, Bool.not_false, if_true, wpS_pure, binOp, Go.Op.intDiv, if_neg hl, ne_eq, not_true_eq_false, if_false]
  exact hk

theorem exec_rem {t t' : TypeId} {x y : Operand} {b c : Int} (ho : o.op = .binOp .rem t x y t') (hx : a.eval x = .int .i64 b) (hy : a.eval y = .int .i64 c) (hl : c ≠ 0) :
    ∀ Kn : Next → Hp → Prop, Kn (.value (.int .i64 (b.tmod c))) H → wpS P (execOp a.eval o) H Kn := by
  intro Kn hk
  unfold execOp; rw [ho]
  refine exec_v _ _ _ ?_
  simp only [hx, hy, eqGuard, wpS_bind, Bool.not_false, if_true, wpS_pure, binOp, Go.Op.intDiv, if_neg hl, ne_eq, not_true_eq_false, if_false]
  exact hk

theorem exec_shl {t t' : TypeId} {x y : Operand} {b c : Int} (ho : o.op = .binOp .shl t x y t') (hx : a.eval x = .int .i64 b) (hy : a.eval y = .int .i64 c) (hl : 0 ≤ c) :
    ∀ Kn : Next → Hp → Prop, Kn (.value (.int .i64 (IntKind.i64.wrap (b * 2 ^ min c.toNat 64)))) H → wpS P (execOp a.eval o) H Kn := by
  intro Kn hk
  unfold execOp; rw [ho]
  refine exec_v _ _ _ ?_
  have hn : ¬ c < 0 := by omega
  simp only [hx, hy, eqGuard, wpS_bind, Bool.not_false, if_true, wpS_pure, binOp, Go.Op.shift, if_neg hn, IntKind.bits]
  exact hk

theorem exec_shr {t t' : TypeId} {x y : Operand} {b c : Int} (ho : o.op = .binOp .shr t x y t') (hx : a.eval x = .int .i64 b) (hy : a.eval y = .int .i64 c) (hl : 0 ≤ c) :
    ∀ Kn : Next → Hp → Prop, Kn (.value (.int .i64 (b.fdiv (2 ^ min c.toNat 64)))) H → wpS P (execOp a.eval o) H Kn := by
  intro Kn hk
  unfold execOp; rw [ho]
  refine exec_v _ _ _ ?_
  have hn : ¬ c < 0 := by omega
  simp only [hx, hy, eqGuard, wpS_bind, Bool.not_false, if_true, wpS_pure, binOp, Go.Op.shift, if_neg hn, IntKind.bits]
  exact hk

theorem exec_cat {t t' : TypeId} {x y : Operand} {b c : ByteArray} (ho : o.op = .binOp .add t x y t') (hx : a.eval x = .string b) (hy : a.eval y = .string c) (hl : b.size + c.size ≤ 9223372036854775807) :
    ∀ Kn : Next → Hp → Prop, Kn (.value (.string (b ++ c))) H → wpS P (execOp a.eval o) H Kn := by
  intro Kn hk
  unfold execOp; rw [ho]
  refine exec_v _ _ _ ?_
  have hm : ¬ (((b.size + c.size : Nat) : Int) > IntKind.i64.max) := by
    have : IntKind.i64.max = 9223372036854775807 := by decide
    rw [this]; omega
  simp only [hx, hy, eqGuard, wpS_bind, Bool.not_false, if_true, wpS_pure, binOp, Go.Op.stringOp, if_neg hm]
  exact hk
end
end Go.H
