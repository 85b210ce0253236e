/- Plain laws over the model: a whole region does what the evaluator says. -/
import Derived.Test.YtjalbdammdmgiaaH32
namespace Go.H
set_option linter.unusedVariables false
set_option linter.unusedSimpArgs false
section
variable {P : Program} {h0 : Hp} {w0 : World} {Q : Exit → Act → World → Prop} {ops : Array Oper} {K : RS → Prop}

theorem evG_step {be : Nat → Nat} {oe : Nat → Value} {H : Hp} {rs : RS} {a : Act} {w : World} {o : Oper} {i : Nat} {Kr : RS → Prop} (s : Sim P h0 w0 be oe H rs.st rs.h a w) (r : RInv ops be oe rs a i) (ho : ops[i]? = some o)
    {ch : List (Nat × Bool)} {c : Bool} (hch : chainOf rs.bs o.guard = some ch) (hc : cB rs.bs ch = some c) (he : evG P o ch c rs fun av => putR o.dst i ch av rs Kr) :
    ∃ v rs', Kr rs' ∧ RInv ops be oe rs' (a.put o.dst v) (i + 1) ∧ Sim P h0 w0 be oe H rs'.st rs'.h (a.put o.dst v) w ∧ Region.wanted o (yielded ops a.tmps) = c ∧
      (c = true → ∀ w', CW H w w' → o.quietAt P a (CW H w) w' v) ∧ (c = false → v = undef) := by
  obtain ⟨av, hk, hq⟩ := evG_sound s r hc he
  have hw := wanted_of r hch hc
  cases c with
  | true =>
    obtain ⟨v, hg, hqv⟩ := hq rfl
    obtain ⟨rs', k1, _, k3, k4⟩ := putR_sound s r ho hc (fun _ => hg) (fun h => by cases h) hk
    exact ⟨v, rs', k1, k3, k4, hw, fun _ => hqv, fun h => by cases h⟩
  | false =>
    obtain ⟨rs', k1, _, k3, k4⟩ := putR_sound (v := undef) s r ho hc (fun h => by cases h) (fun _ => rfl) hk
    exact ⟨undef, rs', k1, k3, k4, hw, (fun h => nomatch h), fun _ => rfl⟩

theorem evReg_sound (hQ : ∀ rs a w be oe H, K rs → Sim P h0 w0 be oe H rs.st rs.h a w → Q .normal a w) : ∀ (l : List Oper) (i : Nat) (rs : RS) (a : Act) (w : World) (be : Nat → Nat) (oe : Nat → Value) (H : Hp),
    (∀ j, l[j]? = ops[i + j]?) → Sim P h0 w0 be oe H rs.st rs.h a w → RInv ops be oe rs a i → evReg P l i rs K → wpList P ops Q l a w
  | [], i, rs, a, w, be, oe, H, _, s, _, he => hQ rs a w be oe H he s
  | o :: l, i, rs, a, w, be, oe, H, hl, s, r, he => by
    have ho : ops[i]? = some o := by simpa using (hl 0).symm
    have hl' : ∀ j, l[j]? = ops[i + 1 + j]? := fun j => by have := hl (j + 1); simpa [Nat.add_assoc, Nat.add_comm 1 j] using this
    have gen : ∀ ch c, chainOf rs.bs o.guard = some ch → cB rs.bs ch = some c → (evG P o ch c rs fun av => putR o.dst i ch av rs fun rs => evReg P l (i + 1) rs K) → wpList P ops Q (o :: l) a w := by
      intro ch c hch hc he
      obtain ⟨v, rs', k1, k2, k3, hw, hq, hn⟩ := evG_step s r ho hch hc he
      unfold wpList
      rw [hw]
      cases c with
      | false =>
        rw [if_neg (by simp), ← hn rfl]
        exact evReg_sound hQ l (i + 1) rs' _ w be oe H hl' k3 k2 k1
      | true =>
        rw [if_pos rfl]
        refine .inl (Oper.wp_of_quiet (C := CW H w) (K := fun a' => a' = a.put o.dst v) (Moved.refl s.mv.vis) (fun a' w' m e => ?_) ⟨v, hq rfl, rfl⟩)
        subst e
        exact evReg_sound hQ l (i + 1) rs' _ w' be oe H hl' (k3.still (hf := H) (fun _ _ h => h) m) k2 k1
    simp only [evReg] at he
    split at he
    · rename_i hg hp
      have hw : Region.wanted o (yielded ops a.tmps) = true := by unfold Region.wanted; rw [hg]
      unfold wpList
      rw [if_pos hw]
      refine .inl (Oper.wp_mono (fun a' w' hn => ?_) (evOp_sound (Q := Q) s he))
      obtain ⟨av, st', h', v, be', oe', H', hk, rfl, s', g, gr⟩ := hn
      obtain ⟨rs', k1, _, k3, k4⟩ := putR_sound (rs := { rs with st := st', h := h' }) (ch := []) (c := true) (v := v) s' (r.grow gr) ho rfl (fun _ => g) (fun h => by cases h) hk
      exact evReg_sound hQ l (i + 1) rs' _ w' be' oe' H' hl' k4 k3 k1
    · split at he
      · rename_i ch hch
        split at he
        · rename_i c hc
          exact gen ch c hch hc he
        · exact he.elim
      · exact he.elim

theorem evQ_sound {be : Nat → Nat} {oe : Nat → Value} {H : Hp} {w : World} (hQ : ∀ rs a w be oe H, K rs → Sim P h0 w0 be oe H rs.st rs.h a w → Q .normal a w) : ∀ (l : List Oper) (i : Nat) (rs : RS) (a : Act),
    (∀ j, l[j]? = ops[i + j]?) → Sim P h0 w0 be oe H rs.st rs.h a w → RInv ops be oe rs a i → evQ P l i rs K → wpQuiet P ops (CW H w) (fun a' => ∀ w', CW H w w' → Q .normal a' w') l a
  | [], i, rs, a, _, s, _, he => fun w' m => hQ rs a w' be oe H he (s.still (hf := H) (fun _ _ h => h) m)
  | o :: l, i, rs, a, hl, s, r, he => by
    have ho : ops[i]? = some o := by simpa using (hl 0).symm
    have hl' : ∀ j, l[j]? = ops[i + 1 + j]? := fun j => by have := hl (j + 1); simpa [Nat.add_assoc, Nat.add_comm 1 j] using this
    simp only [evQ] at he
    split at he
    · rename_i ch hch
      split at he
      · rename_i c hc
        obtain ⟨v, rs', k1, k2, k3, hw, hq, hn⟩ := evG_step s r ho hch hc he
        have ih := evQ_sound hQ l (i + 1) rs' _ hl' k3 k2 k1
        unfold wpQuiet
        rw [hw]
        cases c with
        | false => rw [if_neg (by simp), ← hn rfl]; exact ih
        | true => rw [if_pos rfl]; exact ⟨v, hq rfl, ih⟩
      · exact he.elim
    · exact he.elim

theorem RInv.init {be : Nat → Nat} {oe : Nat → Value} {st : St} {h : Hp} {a : Act} : RInv ops be oe ⟨st, h, [], []⟩ a 0 :=
  ⟨(fun x hx => nomatch hx), (fun x hx => nomatch hx), (fun d ch av hl => nomatch hl)⟩

/-- what stands behind a piece of code -/
def Post (P : Program) (h0 : Hp) (w0 : World) (Q : Ex → St → Hp → Prop) : Exit → Act → World → Prop
  | .normal, a, w => ∃ st h be oe H, Q .normal st h ∧ Sim P h0 w0 be oe H st h a w
  | .exit i, a, w => ∃ st h be oe H, Q (.exit i) st h ∧ Sim P h0 w0 be oe H st h a w
  | .ret, a, w => ∃ st h be oe H, Q .ret st h ∧ Sim P h0 w0 be oe H st h a w
  | _, _, _ => False

variable {be : Nat → Nat} {oe : Nat → Value} {H : Hp} {st : St} {h : Hp} {a : Act} {w : World}

theorem region_sound {Q : Ex → St → Hp → Prop} {id : Nat} {d : Bool} (s : Sim P h0 w0 be oe H st h a w) (he : ev P (.region id ops d) Q st h) : (Code.region id ops d).wp P (Post P h0 w0 Q) a w := by
  cases d with
  | false =>
    simp only [ev] at he
    split at he
    · exact wp_region_list ((evU_both (h0 := h0) (w0 := w0) he.1 he.2 fun a w st h be oe H hk s => ⟨st, h, be, oe, H, hk, s⟩).2 s)
    · exact wp_region_list (evReg_sound (K := fun rs => Q .normal rs.st rs.h) (fun rs a w be oe H hk s => ⟨rs.st, rs.h, be, oe, H, hk, s⟩) _ 0 ⟨st, h, [], []⟩ a w be oe H (fun j => by simp) s RInv.init he)
  | true =>
    rcases he with ⟨⟨h1, h2⟩, he⟩ | ⟨⟨h1, h2⟩, he⟩ | ⟨⟨h1, h2⟩, he⟩ | ⟨⟨h1, h2⟩, he⟩
    · refine wp_region_quiet (C := CW H w) h1 h2 (Moved.drawn s.mv.vis _) ?_
      exact evQ_sound (K := fun rs => Q .normal rs.st rs.h) (fun rs a w be oe H hk s => ⟨rs.st, rs.h, be, oe, H, hk, s⟩) _ 0 ⟨st, h, [], []⟩ a (fun j => by simp) s RInv.init he
    · exact wp_region_any h1 (evS_sound (s.still (hf := H) (fun _ _ h => h) (Moved.drawn s.mv.vis _)) h2 he fun a w st h be oe H hk s => ⟨st, h, be, oe, H, hk, s⟩)
    · exact wp_region_any h1 (evC_sound (s.still (hf := H) (fun _ _ h => h) (Moved.drawn s.mv.vis _)) h2 he fun a w st h be oe H hk s => ⟨st, h, be, oe, H, hk, s⟩)
    · exact wp_region_any h1 ((evU_both (h0 := h0) (w0 := w0) h2 he fun a w st h be oe H hk s => ⟨st, h, be, oe, H, hk, s⟩).1 (s.still (hf := H) (fun _ _ h => h) (Moved.drawn s.mv.vis _)))
end
end Go.H
