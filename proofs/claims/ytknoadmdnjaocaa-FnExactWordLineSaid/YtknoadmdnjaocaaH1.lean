/- Plain laws over the model: the model's own monad run over a part of the heap. No program in sight. -/
import Derived.WalkKit
import Derived.Deep.Quiet
namespace Go.H
set_option linter.unusedVariables false
abbrev Hp := Nat → Option Obj
def Hp.cell (h : Hp) (b o : Nat) : Option Value := match h b with
 | some (.cells c _ _) => c[o]?
 | _ => none
def Hp.set (h : Hp) (b : Nat) (x : Obj) : Hp := fun b' => if b' = b then some x else h b'
theorem Hp.set_same (h : Hp) (b : Nat) (x : Obj) : (h.set b x) b = some x := by simp [Hp.set]
theorem Hp.set_other (h : Hp) {b b' : Nat} (x : Obj) (hne : b' ≠ b) : (h.set b x) b' = h b' := by simp [Hp.set, hne]
def Vis (h : Hp) (w : World) : Prop := ∀ b o, h b = some o → w.heap[b]? = some o
structure T0 (h : Hp) (w : World) (h' : Hp) (w' : World) : Prop where
 os : w'.os = w.os
 tape : w'.tape = w.tape
 output : w'.output = w.output
 size : w.heap.size ≤ w'.heap.size
 keep : ∀ b, b < w.heap.size → h b = none → w'.heap[b]? = w.heap[b]?
 vis : Vis h' w'
 fresh : ∀ b, h' b ≠ none → h b ≠ none ∨ w.heap.size ≤ b
 fz : ∀ a : Addr, a.block < w.heap.size → w'.frozen? a = w.frozen? a
 dn : w.drawn ≤ w'.drawn
theorem Vis.lt {h : Hp} {w : World} (hv : Vis h w) {b : Nat} (hb : h b ≠ none) : b < w.heap.size := by
 cases ho : h b with
 | none => exact absurd ho hb
 | some o => exact (Array.getElem?_eq_some_iff.1 (hv b o ho)).1
theorem F07 {w w' : World} {a : Addr} (h : w'.heap[a.block]? = w.heap[a.block]?) : w'.frozen? a = w.frozen? a := by
 unfold World.frozen?
 rw [h]
def a8 (o : Obj) (off : Nat) : Bool := match o with
 | .cells _ _ (lo, hi) => lo ≤ off && off < hi
 | _ => false
theorem g01 {w : World} {a : Addr} {o : Obj} (h : w.heap[a.block]? = some o) : w.frozen? a = a8 o a.off := by
 unfold World.frozen? a8
 rw [h]
 cases o <;> rfl
theorem b0c {w : World} {a : Addr} (h : w.heap[a.block]? = none) : w.frozen? a = false := by
 unfold World.frozen?
 rw [h]
def i0e : Obj → Bool
 | .cells _ _ (lo, hi) => Nat.ble hi lo
 | _ => true
theorem c0c {o : Obj} (h : i0e o = true) (off : Nat) : a8 o off = false := by
 cases o with
 | cells c t fz =>
  obtain ⟨lo, hi⟩ := fz
  have := Nat.le_of_ble_eq_true h
  simp only [a8, Bool.and_eq_false_imp, decide_eq_true_eq, decide_eq_false_iff_not]
  omega
 | _ => rfl
theorem T0.refl {h : Hp} {w : World} (hv : Vis h w) : T0 h w h w :=
 ⟨rfl, rfl, rfl, Nat.le_refl _, fun _ _ _ => rfl, hv, fun _ hb => .inl hb, fun _ _ => rfl, Nat.le_refl _⟩
theorem T0.trans {h h1 h2 : Hp} {w w1 w2 : World} (a : T0 h w h1 w1) (b : T0 h1 w1 h2 w2) : T0 h w h2 w2 := by
 refine ⟨b.os.trans a.os, b.tape.trans a.tape, b.output.trans a.output, Nat.le_trans a.size b.size, ?_, b.vis, ?_, fun x hx => (b.fz x (Nat.lt_of_lt_of_le hx a.size)).trans (a.fz x hx), Nat.le_trans a.dn b.dn⟩
 ·intro x hx hn
  have h1n : h1 x = none := by
   cases hc : h1 x with
   | none => rfl
   | some o =>
    have := a.fresh x (by simp [hc])
    rcases this with h' | h'
    ·exact absurd hn h'
    ·omega
  rw [b.keep x (Nat.lt_of_lt_of_le hx a.size) h1n, a.keep x hx hn]
 ·intro x hx
  rcases b.fresh x hx with h' | h'
  ·exact a.fresh x h'
  ·exact .inr (Nat.le_trans a.size h')
theorem T0.none_of {h h' : Hp} {w w' : World} (m : T0 h w h' w') {b : Nat} (hb : b < w.heap.size) (hn : h b = none) : h' b = none := by
 cases hc : h' b with
 | none => rfl
 | some o =>
  rcases m.fresh b (by simp [hc]) with h1 | h1
  ·exact absurd hn h1
  ·omega
theorem T0.drawn {h : Hp} {w : World} (hv : Vis h w) (n : Nat) (hn : w.drawn ≤ n) : T0 h w h { w with drawn := n } :=
 ⟨rfl, rfl, rfl, Nat.le_refl _, fun _ _ _ => rfl, hv, fun _ hb => .inl hb, fun _ _ => rfl, hn⟩
theorem T0.new {h : Hp} {w : World} (hv : Vis h w) (o : Obj) (hz : i0e o = true) : T0 h w (h.set w.heap.size o) { w with heap := w.heap.push o } := by
 refine ⟨rfl, rfl, rfl, by simp, ?_, ?_, ?_, fun x _ => ?_, Nat.le_refl _⟩
 rotate_left 3
 ·by_cases e : x.block = w.heap.size
  ·rw [g01 (o := o) (by simp [e]), c0c hz, b0c (by simp [e])]
  ·exact F07 (by simp [Array.getElem?_push, e])
 ·intro b hb _
  simp [Array.getElem?_push, Nat.ne_of_lt hb]
 ·intro b x hx
  by_cases e : b = w.heap.size
  ·subst e; simp [Hp.set] at hx; subst hx; simp
  ·rw [Hp.set_other h o e] at hx
   have := hv b x hx
   simp [Array.getElem?_push, e, this]
 ·intro b hb
  by_cases e : b = w.heap.size
  ·right; omega
  ·left; rwa [Hp.set_other h o e] at hb
theorem T0.upd {h : Hp} {w w' : World} (hv : Vis h w) {b : Nat} {o o' : Obj} (hb : h b = some o) (hz : ∀ off, a8 o' off = a8 o off)
  (hos : w'.os = w.os) (ht : w'.tape = w.tape) (hout : w'.output = w.output) (hsz : w'.heap.size = w.heap.size)
  (hsame : w'.heap[b]? = some o') (hoth : ∀ k, k ≠ b → w'.heap[k]? = w.heap[k]?) (hdn : w.drawn ≤ w'.drawn := by first | exact Nat.le_refl _ | simp) : T0 h w (h.set b o') w' := by
 refine ⟨hos, ht, hout, by omega, ?_, ?_, ?_, fun x _ => ?_, hdn⟩
 rotate_left 3
 ·by_cases e : x.block = b
  ·rw [g01 (o := o') (by rw [e]; exact hsame), hz, g01 (o := o) (by rw [e]; exact hv _ _ hb)]
  ·exact F07 (hoth _ e)
 ·intro k hk hn
  exact hoth k (fun e => by subst e; rw [hb] at hn; cases hn)
 ·intro k x hx
  by_cases e : k = b
  ·subst e; simp [Hp.set] at hx; subst hx; exact hsame
  ·rw [Hp.set_other h o' e] at hx
   rw [hoth k e]; exact hv k x hx
 ·intro k hk
  by_cases e : k = b
  ·subst e; exact .inl (by simp [hb])
  ·rw [Hp.set_other h o' e] at hk; exact .inl hk
def Z9 : Value → Prop
 | .agg _ | .tuple _ => False
 | _ => True
def T02 : Obj → Bool
 | .cells .. => true
 | _ => false
def v08 : Obj → Option (TypeId × Nat)
 | .cells c e _ => some (e, c.size)
 | _ => none
def wpS (P : Program) {α : Type} : Sem α → Hp → (α → Hp → Prop) → Prop
 | .pure a, h, K => K a h
 | .load _ a k, h, K => ∃ v, (a.spot = none ∧ Hp.cell h a.block a.off = some v) ∧ wpS P (k v) h K
 | .store _ a v k, h, K => ∃ c t fz, (h a.block = some (.cells c t fz) ∧ a.spot = none ∧ a.off < c.size ∧ (fz.1 ≤ a.off && a.off < fz.2) = false ∧ Z9 v) ∧
   wpS P k (h.set a.block (.cells (c.setIfInBounds a.off v) t fz)) K
 | .new o k, h, K => match i0e o with
  | true => ∀ b, h b = none → wpS P (k b) (h.set b o) K
  | false => False
 | .shape r k, h, K => ∃ o, h r = some o ∧ wpS P (k (v08 o)) h K
 | .freeze _ _ _, _, _ => False
 | .frozen a k, h, K => ∃ o, h a.block = some o ∧ wpS P (k (a8 o a.off)) h K
 | .getObj r k, h, K => ∃ o, (h r = some o ∧ T02 o = false) ∧ wpS P (k o) h K
 | .setObj r o k, h, K => ∃ o', (h r = some o' ∧ T02 o' = false ∧ T02 o = false) ∧ wpS P k (h.set r o) K
 | .choose q k, h, K => match q.forced with
  | true => wpS P (k 0) h K
  | false => ∀ t, wpS P (k (q.cut t)) h K
 | .sys _ _, _, _ => False
 | .program k, h, K => wpS P (k P) h K
 | .mark _ k, h, K => wpS P k h K
 | .halt _, _, _ => False
theorem h01 {h : Hp} {w : World} (hv : Vis h w) {a : Addr} {v : Value} (hs : a.spot = none) (hc : Hp.cell h a.block a.off = some v) : w.cell? a = some v := by
 unfold Hp.cell at hc
 split at hc
 ·rename_i c t fz ho
  simp [World.cell?, hv _ _ ho, hs, hc]
 ·cases hc
theorem D6 {P : Program} {α : Type} {K : α → Hp → Prop} (s : Sem α) : ∀ (h : Hp) (w : World), Vis h w → wpS P s h K →
  ∃ x h' w', s.run P w = .ok x w' ∧ K x h' ∧ T0 h w h' w' := by
 induction s with
 | pure a => exact fun h w hv hk => ⟨a, h, w, rfl, hk, T0.refl hv⟩
 | load m a k ih =>
  rintro h w hv ⟨v, ⟨hs, hc⟩, hk⟩
  obtain ⟨x, h', w', hr, hx, hm⟩ := ih v h w hv hk
  exact ⟨x, h', w', by simp [Sem.run, h01 hv hs hc, hr], hx, hm⟩
 | store m a v k ih =>
  rintro h w hv ⟨c, t, fz, ⟨hb, hs, hlt, hfz, h1⟩, hk⟩
  have hw := hv _ _ hb
  have hcell : w.cell? a = some (c[a.off]'hlt) := by simp [World.cell?, hw, hs, hlt]
  have hfr : w.frozen? a = false := by
   unfold World.frozen?
   rw [hw]
   exact hfz
  have hheap : (w.setCell a v).heap[a.block]? = some (.cells (c.setIfInBounds a.off v) t fz) := by
   simp [World.setCell, Array.getElem?_modify, hw, hs]
  have hm1 : T0 h w (h.set a.block (.cells (c.setIfInBounds a.off v) t fz)) (w.setCell a v) :=
   T0.upd hv hb (fun _ => rfl) rfl rfl rfl (by simp [World.setCell]) hheap (fun k hk => by
    simp only [World.setCell, Array.getElem?_modify]
    rw [if_neg (fun e => hk e.symm)])
  obtain ⟨x, h', w', hr, hx, hm⟩ := ih _ _ hm1.vis hk
  refine ⟨x, h', w', ?_, hx, hm1.trans hm⟩
  cases v <;> simp only [Z9] at h1 <;> simp [Sem.run, hcell, hfr, hr]
 | new o k ih =>
  intro h w hv hk
  have hn : h w.heap.size = none := by
   cases hc : h w.heap.size with
   | none => rfl
   | some o' => exact absurd (hv.lt (b := w.heap.size) (by simp [hc])) (Nat.lt_irrefl _)
  unfold wpS at hk
  split at hk
  rotate_left
  ·exact hk.elim
  rename_i hz
  have hm1 := T0.new hv o hz
  obtain ⟨x, h', w', hr, hx, hm⟩ := ih _ _ _ hm1.vis (hk _ hn)
  exact ⟨x, h', w', hr, hx, hm1.trans hm⟩
 | shape r k ih =>
  rintro h w hv ⟨o, ho, hk⟩
  obtain ⟨x, h', w', hr, hx, hm⟩ := ih _ _ _ hv hk
  refine ⟨x, h', w', ?_, hx, hm⟩
  have : w.shape? r = v08 o := by simp [World.shape?, hv _ _ ho]; cases o <;> simp [v08]
  simp [Sem.run, this, hr]
 | freeze a n k ih => exact fun h w hv hk => hk.elim
 | frozen a k ih =>
  rintro h w hv ⟨o, ho, hk⟩
  obtain ⟨x, h', w', hr, hx, hm⟩ := ih _ _ _ hv hk
  refine ⟨x, h', w', ?_, hx, hm⟩
  have : w.frozen? a = a8 o a.off := g01 (hv _ _ ho)
  simp [Sem.run, this, hr]
 | getObj r k ih =>
  rintro h w hv ⟨o, ⟨ho, hc⟩, hk⟩
  obtain ⟨x, h', w', hr, hx, hm⟩ := ih _ _ _ hv hk
  refine ⟨x, h', w', ?_, hx, hm⟩
  cases o <;> simp [T02] at hc <;> simp [Sem.run, hv _ _ ho, hr]
 | setObj r o k ih =>
  rintro h w hv ⟨o', ⟨ho, hc, hc2⟩, hk⟩
  have hw := hv _ _ ho
  have hlt := hv.lt (b := r) (by simp [ho])
  have hm1 : T0 h w (h.set r o) { w with heap := w.heap.setIfInBounds r o } :=
   T0.upd hv ho (fun off => by cases o <;> cases o' <;> simp_all [T02, a8]) rfl rfl rfl (by simp) (by simp [hlt]) (fun k hk => by
    simp [Array.getElem?_setIfInBounds_ne (Ne.symm hk)])
  obtain ⟨x, h', w', hr, hx, hm⟩ := ih _ _ hm1.vis hk
  refine ⟨x, h', w', ?_, hx, hm1.trans hm⟩
  cases o' <;> simp [T02] at hc <;> simp [Sem.run, hw, hr]
 | choose q k ih =>
  intro h w hv hk
  unfold wpS at hk
  cases hq : q.forced with
  | true =>
   rw [hq] at hk
   obtain ⟨x, h', w', hr, hx, hm⟩ := ih _ _ _ hv hk
   exact ⟨x, h', w', by simp [Sem.run, hq, hr], hx, hm⟩
  | false =>
   rw [hq] at hk
   have hm1 := T0.drawn hv (w.drawn + 1) (Nat.le_succ _)
   obtain ⟨x, h', w', hr, hx, hm⟩ := ih _ _ _ hm1.vis (hk (w.tape w.drawn q))
   exact ⟨x, h', w', by simp only [Sem.run, hq]; exact hr, hx, hm1.trans hm⟩
 | sys c k ih => exact fun h w hv hk => hk.elim
 | program k ih =>
  intro h w hv hk
  obtain ⟨x, h', w', hr, hx, hm⟩ := ih _ _ _ hv hk
  exact ⟨x, h', w', by simp [Sem.run, hr], hx, hm⟩
 | mark m k ih =>
  intro h w hv hk
  obtain ⟨x, h', w', hr, hx, hm⟩ := ih _ _ hv hk
  exact ⟨x, h', w', by simp [Sem.run, hr], hx, hm⟩
 | halt x => exact fun h w hv hk => hk.elim
structure Tr (P : Program) (f : FuncId) (args : Array Value) (h : Hp) (T : Value → Hp → Prop) : Prop where
 run : ∀ w, Vis h w → Calls P f args w fun e w' => ∃ v h', e = .returned v ∧ T v h' ∧ T0 h w h' w'
theorem Tr.mono {P : Program} {f : FuncId} {args : Array Value} {h : Hp} {T T' : Value → Hp → Prop} (t : Tr P f args h T) (hi : ∀ v h', T v h' → T' v h') : Tr P f args h T' :=
 ⟨fun w hv => (t.run w hv).mono fun _ _ ⟨v, h', he, ht, hm⟩ => ⟨v, h', he, hi _ _ ht, hm⟩⟩
end Go.H
