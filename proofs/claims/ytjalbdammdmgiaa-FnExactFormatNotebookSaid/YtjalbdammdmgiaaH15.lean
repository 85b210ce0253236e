/- Plain laws over the model: what stands in a region's guards, and one operation under them. -/
import Derived.Test.YtjalbdammdmgiaaH14
namespace Go.H
set_option linter.unusedVariables false
set_option linter.unusedSimpArgs false
section
variable {P : Program} {h0 : Hp} {w0 : World} {be : Nat → Nat} {oe : Nat → Value} {H : Hp} {rs : RS} {a : Act} {w : World} {o : Oper} {ops : Array Oper} {i : Nat}

theorem eqB_eq {a b : Bool} (h : eqB a b = true) : a = b := by cases a <;> cases b <;> simp_all [eqB]
theorem eqCh_eq : ∀ (a b : List (Nat × Bool)), eqCh a b = true → a = b
  | [], [], _ => rfl
  | (j, w) :: r, (j', w') :: r', h => by
    simp only [eqCh] at h
    split at h
    · rename_i h1 h2
      rw [Nat.eq_of_beq_eq_true h1, eqB_eq h2, eqCh_eq r r' h]
    · cases h
  | [], _ :: _, h => by cases h
  | _ :: _, [], h => by cases h

theorem lookE_mem : ∀ {bs : List BE} {j : Nat} {b : BE}, lookE bs j = some b → b ∈ bs ∧ b.j = j
  | [], _, _, h => by cases h
  | x :: r, j, b, h => by
    simp only [lookE] at h
    split at h
    · rename_i hb
      cases h
      exact ⟨List.mem_cons_self .., Nat.eq_of_beq_eq_true hb⟩
    · obtain ⟨h1, h2⟩ := lookE_mem h
      exact ⟨List.mem_cons_of_mem _ h1, h2⟩
theorem slotB_mem : ∀ {bs : List BE} {s : Nat} {b : BE}, slotB bs s = some b → b ∈ bs ∧ b.d = s
  | [], _, _, h => by cases h
  | x :: r, j, b, h => by
    simp only [slotB] at h
    split at h
    · rename_i hb
      cases h
      exact ⟨List.mem_cons_self .., Nat.eq_of_beq_eq_true hb⟩
    · obtain ⟨h1, h2⟩ := slotB_mem h
      exact ⟨List.mem_cons_of_mem _ h1, h2⟩
theorem slotB_none : ∀ {bs : List BE} {s : Nat}, slotB bs s = none → ∀ b ∈ bs, b.d ≠ s
  | [], _, _, b, hb => by cases hb
  | x :: r, s, h, b, hb => by
    simp only [slotB] at h
    split at h
    · cases h
    · rename_i hx
      rcases List.mem_cons.1 hb with rfl | hb
      · exact Nat.ne_of_beq_eq_false hx
      · exact slotB_none h b hb

theorem cB_cons (bs : List BE) (j : Nat) (w : Bool) (r : List (Nat × Bool)) : cB bs ((j, w) :: r) = match lookE bs j, cB bs r with
    | some b, some c => some (lit w b.e && c)
    | _, _ => none := by
  cases r with
  | nil =>
    simp only [cB]
    cases lookE bs j <;> simp
  | cons x r =>
    have : cB bs ((j, w) :: x :: r) = match lookE bs j with
        | some b => (match cB bs (x :: r) with
          | some c => some (lit w b.e && c)
          | none => none)
        | none => none := rfl
    rw [this]
    generalize cB bs (x :: r) = y
    cases lookE bs j <;> cases y <;> rfl
theorem cB_tail {bs : List BE} {x : Nat × Bool} {r : List (Nat × Bool)} (h : cB bs (x :: r) = some true) : cB bs r = some true := by
  rw [cB_cons] at h
  split at h
  · rename_i b c _ hc
    simp only [Option.some.injEq, Bool.and_eq_true] at h
    rw [hc, h.2]
  · cases h
theorem cB_sufx {bs : List BE} {p : List (Nat × Bool)} : ∀ {q : List (Nat × Bool)}, sufx p q = true → cB bs q = some true → cB bs p = some true
  | [], h, hq => by rw [eqCh_eq _ _ h]; exact hq
  | x :: r, h, hq => by
    simp only [sufx] at h
    split at h
    · rename_i he; rw [eqCh_eq _ _ he]; exact hq
    · exact cB_sufx h (cB_tail hq)
theorem cB_ext {bs : List BE} {x : BE} (hx : ∀ y ∈ bs, y.j ≠ x.j) : ∀ {ch : List (Nat × Bool)} {c : Bool}, cB bs ch = some c → cB (x :: bs) ch = some c
  | [], c, h => h
  | (j, w) :: r, c, h => by
    rw [cB_cons] at h
    split at h
    · rename_i b c' hl hc
      have hne : Nat.beq x.j j = false := by
        obtain ⟨h1, h2⟩ := lookE_mem hl
        cases hb : Nat.beq x.j j with
        | false => rfl
        | true => exact absurd (h2.trans (Nat.eq_of_beq_eq_true hb).symm) (hx b h1)
      have hl' : lookE (x :: bs) j = some b := by simp only [lookE, hne]; exact hl
      rw [cB_cons, hl', cB_ext hx hc]
      exact h
    · cases h

structure RInv (ops : Array Oper) (be : Nat → Nat) (oe : Nat → Value) (rs : RS) (a : Act) (i : Nat) : Prop where
  lt : ∀ x ∈ rs.bs, x.j < i ∧ ∃ o, ops[x.j]? = some o ∧ o.dst = some x.d
  val : ∀ x ∈ rs.bs, ∃ c, cB rs.bs x.ch = some c ∧ a.tmps[x.d]? = some (if c = true then .bool x.e else undef)
  gf : ∀ d ch av, lookG rs.gf d = some (ch, av) → ∃ c, cB rs.bs ch = some c ∧ (c = true → Good rs.st be oe av (a.tmps.getD d undef))

theorem RInv.grow (r : RInv ops be oe rs a i) {st : St} {h : Hp} {be' : Nat → Nat} {oe' : Nat → Value} (g : Grow rs.st be oe st be' oe') : RInv ops be' oe' { rs with st := st, h := h } a i :=
  ⟨r.lt, r.val, fun d ch av hd => let ⟨c, h1, h2⟩ := r.gf d ch av hd; ⟨c, h1, fun hc => (h2 hc).grow g⟩⟩

/-- the guard holds as reckoned -/
theorem wanted_of (r : RInv ops be oe rs a i) {ch : List (Nat × Bool)} {c : Bool} (hch : chainOf rs.bs o.guard = some ch) (hc : cB rs.bs ch = some c) : Region.wanted o (yielded ops a.tmps) = c := by
  unfold Region.wanted
  cases hg : o.guard with
  | none =>
    rw [hg] at hch
    cases hch
    cases hc
    rfl
  | some p =>
    obtain ⟨j, w⟩ := p
    rw [hg] at hch
    simp only [chainOf] at hch
    split at hch
    · rename_i b hb
      cases hch
      obtain ⟨hm, rfl⟩ := lookE_mem hb
      obtain ⟨_, o', ho, hd⟩ := r.lt b hm
      obtain ⟨c', hc', hv⟩ := r.val b hm
      rw [cB_cons, hb, hc'] at hc
      simp only [Option.some.injEq] at hc
      have hy : yielded ops a.tmps b.j = if c' = true then some b.e else none := by
        unfold yielded
        simp only [ho, hd, Option.bind_some, hv]
        cases c' <;> rfl
      simp only [hy, ← hc]
      cases c' <;> cases w <;> cases b.e <;> rfl
    · cases hch

theorem rdG_good (s : Sim P h0 w0 be oe H rs.st rs.h a w) (r : RInv ops be oe rs a i) {ch : List (Nat × Bool)} (hc : cB rs.bs ch = some true) (x : Operand) :
    (∃ av0, Good rs.st be oe av0 (a.eval x) ∧ rdG rs ch x = rdA rs.st av0) := by
  cases x with
  | tmp t =>
    simp only [rdG]
    split
    · rename_i ch2 av hl
      split
      · rename_i hs
        obtain ⟨c, h1, h2⟩ := r.gf t ch2 av hl
        rw [cB_sufx hs hc] at h1
        cases h1
        exact ⟨av, h2 rfl, rfl⟩
      · exact ⟨.dead, trivial, rfl⟩
    · exact ⟨_, s.fr t, rfl⟩
  | const v => exact ⟨.val v, rfl, rfl⟩
  | global g => exact ⟨.dead, trivial, rfl⟩
  | func f => exact ⟨.val _, rfl, rfl⟩

theorem putR_sound (s : Sim P h0 w0 be oe H rs.st rs.h a w) (r : RInv ops be oe rs a i) (ho : ops[i]? = some o) {ch : List (Nat × Bool)} {c : Bool} {av : AV} {v : Value} {K : RS → Prop}
    (hc : cB rs.bs ch = some c) (g : c = true → Good rs.st be oe av v) (gn : c = false → v = undef) (he : putR o.dst i ch av rs K) :
    ∃ rs', K rs' ∧ rs'.h = rs.h ∧ RInv ops be oe rs' (a.put o.dst v) (i + 1) ∧ Sim P h0 w0 be oe H rs'.st rs'.h (a.put o.dst v) w := by
  cases hd : o.dst with
  | none =>
    rw [hd] at he
    exact ⟨rs, he, rfl, ⟨fun x hx => ⟨Nat.lt_succ_of_lt (r.lt x hx).1, (r.lt x hx).2⟩, r.val, r.gf⟩, s⟩
  | some d =>
    rw [hd] at he
    simp only [putR] at he
    split at he
    · rename_i hlt hus
      have hd' : d < rs.st.n := Nat.le_of_ble_eq_true hlt
      have hus' : lookG rs.gf d = none ∧ slotB rs.bs d = none := by
        unfold usedSlot at hus
        split at hus
        · rename_i h1 h2; exact ⟨h1, h2⟩
        · cases hus
      have hget : ∀ t, t ≠ d → (a.put (some d) v).tmps[t]? = a.tmps[t]? := fun t ht => by
        simp [Act.put, Array.getElem?_setIfInBounds_ne (Ne.symm ht)]
      have hgetd : (a.put (some d) v).tmps[d]? = some v := by simp [Act.put, s.siz, hd']
      have hx : ∀ y ∈ rs.bs, y.j ≠ i := fun y hy e => by have := (r.lt y hy).1; omega
      -- the tests
      have hbs : (∀ x ∈ addB i d ch av rs.bs, x.j < i + 1 ∧ ∃ o, ops[x.j]? = some o ∧ o.dst = some x.d) ∧
          (∀ x ∈ addB i d ch av rs.bs, ∃ c, cB (addB i d ch av rs.bs) x.ch = some c ∧ (a.put (some d) v).tmps[x.d]? = some (if c = true then .bool x.e else undef)) ∧
          (∀ ch' c', cB rs.bs ch' = some c' → cB (addB i d ch av rs.bs) ch' = some c') := by
        have hold1 : ∀ x ∈ rs.bs, x.j < i + 1 ∧ ∃ o, ops[x.j]? = some o ∧ o.dst = some x.d := fun x hx => ⟨Nat.lt_succ_of_lt (r.lt x hx).1, (r.lt x hx).2⟩
        have hold2 : ∀ x ∈ rs.bs, ∃ c, cB rs.bs x.ch = some c ∧ (a.put (some d) v).tmps[x.d]? = some (if c = true then .bool x.e else undef) := fun x hx => by
          obtain ⟨c, h1, h2⟩ := r.val x hx
          exact ⟨c, h1, by rw [hget _ (slotB_none hus'.2 x hx)]; exact h2⟩
        unfold addB
        split
        · rename_i e
          have hext : ∀ ch' c', cB rs.bs ch' = some c' → cB (⟨i, d, e, ch⟩ :: rs.bs) ch' = some c' := fun ch' c' h' => cB_ext (x := ⟨i, d, e, ch⟩) hx h'
          refine ⟨fun x hx' => ?_, fun x hx' => ?_, hext⟩
          · rcases List.mem_cons.1 hx' with rfl | hx'
            · exact ⟨Nat.lt_succ_self _, o, ho, hd⟩
            · exact hold1 x hx'
          · rcases List.mem_cons.1 hx' with rfl | hx'
            · refine ⟨c, hext _ _ hc, ?_⟩
              rw [hgetd]
              cases c with
              | true => rw [show v = .bool e from g rfl]; rfl
              | false => rw [gn rfl]; rfl
            · obtain ⟨c, h1, h2⟩ := hold2 x hx'
              exact ⟨c, hext _ _ h1, h2⟩
        · exact ⟨hold1, hold2, fun _ _ h => h⟩
      have gr : ∀ av', Grow rs.st be oe { rs.st with fr := (d, av') :: rs.st.fr } be oe := fun av' => ⟨Nat.le_refl _, fun _ _ => rfl, fun i s h => ⟨s, h, Nat.le_refl _, fun _ => rfl⟩⟩
      have hgf : ∀ d' ch' av', lookG rs.gf d' = some (ch', av') → ∃ c', cB (addB i d ch av rs.bs) ch' = some c' ∧ (c' = true → Good rs.st be oe av' ((a.put (some d) v).tmps.getD d' undef)) := fun d' ch' av' hl => by
        obtain ⟨c', h1, h2⟩ := r.gf d' ch' av' hl
        refine ⟨c', hbs.2.2 _ _ h1, fun hc' => ?_⟩
        have hne : d' ≠ d := fun e => by rw [e, hus'.1] at hl; cases hl
        have : (a.put (some d) v).tmps.getD d' undef = a.tmps.getD d' undef := by
          simp only [Array.getD_eq_getD_getElem?, hget d' hne]
        rw [this]
        exact h2 hc'
      split at he
      · -- no guard
        cases hc
        refine ⟨_, he, rfl, ⟨hbs.1, hbs.2.1, fun d' ch' av' hl => ?_⟩, s.put hd' (g rfl)⟩
        obtain ⟨c', h1, h2⟩ := hgf d' ch' av' hl
        exact ⟨c', h1, fun hc' => (h2 hc').grow (gr av)⟩
      · refine ⟨_, he, rfl, ⟨hbs.1, hbs.2.1, fun d' ch' av' hl => ?_⟩, s.put hd' (show Good rs.st be oe .dead v from trivial)⟩
        simp only [lookG] at hl
        split at hl
        · rename_i hb
          cases hl
          have := Nat.eq_of_beq_eq_true hb
          subst this
          refine ⟨c, hbs.2.2 _ _ hc, fun hc' => (Good.grow (gr .dead) ?_)⟩
          have : (a.put (some d) v).tmps.getD d undef = v := by simp only [Array.getD_eq_getD_getElem?, hgetd]; rfl
          rw [this]
          exact g hc'
        · obtain ⟨c', h1, h2⟩ := hgf d' ch' av' hl
          exact ⟨c', h1, fun hc' => (h2 hc').grow (gr .dead)⟩
    · exact he.elim
end
end Go.H
