/- Plain laws over the model: operations that only look. -/
import Derived.Test.YtjalbdammdmgiaaH13
namespace Go.H.R
open Go.H
set_option linter.unusedVariables false
set_option linter.unusedSimpArgs false

/-- as wpS, for what only looks and draws nothing -/
def wpR (P : Program) {α : Type} : Sem α → Hp → (α → Hp → Prop) → Prop
  | .pure a, h, K => K a h
  | .load _ a k, h, K => ∃ v, (a.spot = none ∧ Hp.cell h a.block a.off = some v) ∧ wpR P (k v) h K
  | .program k, h, K => wpR P (k P) h K
  | .mark _ k, h, K => wpR P k h K
  | _, _, _ => False

theorem wpR_sound {P : Program} {α : Type} {K : α → Hp → Prop} (s : Sem α) : ∀ (h : Hp) (w : World), Vis h w → wpR P s h K → ∃ x, s.run P w = .ok x w ∧ K x h := by
  induction s with
  | pure a => exact fun h w hv hk => ⟨a, rfl, hk⟩
  | load m a k ih =>
    rintro h w hv ⟨v, ⟨hs, hc⟩, hk⟩
    obtain ⟨x, hr, hx⟩ := ih v h w hv hk
    exact ⟨x, by simp [Sem.run, cell_vis hv hs hc, hr], hx⟩
  | program k ih => exact fun h w hv hk => ih _ _ _ hv hk
  | mark m k ih => exact fun h w hv hk => ih _ _ hv hk
  | _ => exact fun h w hv hk => hk.elim

theorem wpR_bind {P : Program} {α β : Type} (s : Sem α) (f : α → Sem β) : ∀ (h : Hp) (K : β → Hp → Prop), wpR P (s >>= f) h K = wpR P s h (fun x h' => wpR P (f x) h' K) := by
  change ∀ (h : Hp) (K : β → Hp → Prop), wpR P (s.bind f) h K = wpR P s h (fun x h' => wpR P (f x) h' K)
  induction s with
  | pure a => intro h K; rfl
  | load m a k ih => intro h K; simp only [Sem.bind, wpR, ih]
  | program k ih => intro h K; simp only [Sem.bind, wpR, ih]
  | mark m k ih => intro h K; simp only [Sem.bind, wpR, ih]
  | _ => intro h K; rfl
theorem wpR_pure {P : Program} {α : Type} (x : α) (h : Hp) (K : α → Hp → Prop) : wpR P (pure x) h K = K x h := rfl

section
variable {P : Program} {h0 : Hp} {w0 : World} {be : Nat → Nat} {oe : Nat → Value} {H : Hp} {st : St} {h : Hp} {a : Act} {w : World} {o : Oper}
theorem wpR_underlying {t : TypeId} {d : TypeDesc} (hu : P.underlying t = some d) (h : Hp) (K : TypeDesc → Hp → Prop) : wpR P (underlying t) h K = K d h := by
  simp only [underlying, program, wpR_bind, wpR, wpR_pure, hu]

theorem wpR_typeInfo {t : TypeId} {i : TypeInfo} (hi : P.info? t = some i) (h : Hp) (K : TypeInfo → Hp → Prop) : wpR P (typeInfo t) h K = K i h := by
  simp only [typeInfo, program, wpR_bind, wpR, wpR_pure, hi]

theorem wpR_sizeOf {t : TypeId} {n : Nat} (hs : tSize P t = some n) (h : Hp) (K : Nat → Hp → Prop) : wpR P (sizeOf t) h K = K n h := by
  unfold tSize at hs
  split at hs
  · rename_i i hi
    simp only [sizeOf, wpR_bind, wpR_typeInfo hi, wpR_pure]
    cases hs; rfl
  · cases hs

theorem wpR_isAgg {t : TypeId} {b : Bool} (ha : tAgg P t = some b) (h : Hp) (K : Bool → Hp → Prop) : wpR P (isAgg t) h K = K b h := by
  unfold tAgg at ha
  split at ha
  · rename_i hu; cases ha; simp only [isAgg, wpR_bind, wpR_underlying hu, wpR_pure]
  · rename_i hu; cases ha; simp only [isAgg, wpR_bind, wpR_underlying hu, wpR_pure]
  · rename_i d h1 h2 hu
    cases ha
    simp only [isAgg, wpR_bind, wpR_underlying hu]
    cases d <;> first | rfl | exact absurd hu (h1 _) | exact absurd hu (h2 _ _)
  · cases ha

theorem wpR_loadCellsFrom {H : Hp} {b o : Nat} : ∀ (vs : List Value) (i : Nat) (acc : Array Value) (K : Array Value → Hp → Prop), (∀ j v, vs[j]? = some v → Hp.cell H b (o + i + j) = some v) →
    K (acc ++ vs.toArray) H → wpR P (loadCellsFrom ⟨b, o, none⟩ i vs.length acc) H K
  | [], i, acc, K, _, hk => by simpa [loadCellsFrom, wpR_pure] using hk
  | v :: vs, i, acc, K, hc, hk => by
    have h0 := hc 0 v (by simp)
    simp only [loadCellsFrom, List.length_cons, wpR_bind, load, wpR]
    have hadd : (⟨b, o, none⟩ : Addr).add i = ⟨b, o + i, none⟩ := by unfold Addr.add; split <;> simp_all
    rw [hadd]
    refine ⟨v, ⟨rfl, by simpa using h0⟩, wpR_loadCellsFrom vs (i + 1) (acc.push v) K ?_ ?_⟩
    · intro j u hj
      have := hc (j + 1) u (by simpa using hj)
      rw [show o + (i + 1) + j = o + i + (j + 1) from by omega]
      exact this
    · simpa using hk

theorem load_row {t : TypeId} {cs : List Cell} {vs : List Value} {off : Nat} {K : AV → Prop} {b o : Nat} (he : getC P t cs off K) (g : GoodCs st oe cs vs)
    (hc : ∀ j v, vs[j]? = some v → Hp.cell H b (o + j) = some v) : ∃ av v, K av ∧ Good st be oe av v ∧ ∀ Kn : Value → Hp → Prop, Kn v H → wpR P (loadVar t ⟨b, o + off, none⟩) H Kn := by
  unfold getC at he
  split at he
  · rename_i ha
    split at he
    · rename_i n hn
      split at he
      · rename_i hl
        have hlen := lenB_eq _ _ hl
        have g' := (g.drop off).take n
        refine ⟨_, .agg ((vs.drop off).take n).toArray, he, ⟨_, rfl, g'⟩, fun Kn hk => ?_⟩
        have hlv : ((vs.drop off).take n).length = n := by rw [← g'.length, hlen]
        simp only [loadVar, wpR_bind, wpR_isAgg ha, if_true, wpR_sizeOf hn, loadCells]
        have := wpR_loadCellsFrom (P := P) (H := H) (b := b) (o := o + off) ((vs.drop off).take n) 0 #[] (fun x h' => wpR P (pure (Value.agg x)) h' Kn) (fun j v hj => by
          rw [List.getElem?_take] at hj
          split at hj
          · rw [List.getElem?_drop] at hj
            rw [show o + off + 0 + j = o + (off + j) from by omega]
            exact hc _ _ hj
          · cases hj) (by simpa [wpR_pure] using hk)
        rw [hlv] at this
        exact this
      · exact he.elim
    · exact he.elim
  · rename_i ha
    split at he
    · rename_i c hn
      obtain ⟨v, hv, gc⟩ := g.nth hn
      refine ⟨_, v, he, Good.ofCell gc, fun Kn hk => ?_⟩
      simp only [loadVar, wpR_bind, wpR_isAgg ha, Bool.false_eq_true, if_false, load, wpR]
      exact ⟨v, ⟨trivial, hc _ _ hv⟩, hk⟩
    · exact he.elim
  · exact he.elim

theorem exec_v {P : Program} (s : Sem Value) (H : Hp) (Kn : Next → Hp → Prop) (h : wpR P s H (fun v H => Kn (.value v) H)) : wpR P (do pure (Next.value (← s))) H Kn := by
  rw [wpR_bind]; exact h

theorem exec_fieldAddr {t : TypeId} {x : Operand} {k fo b off : Nat} (ho : o.op = .fieldAddr t x k) (ht : tOff P t k = some fo) (hx : a.eval x = ptr b off) :
    ∀ Kn : Next → Hp → Prop, Kn (.value (ptr b (off + fo))) H → wpR P (execOp a.eval o) H Kn := by
  intro Kn hk
  obtain ⟨fs, f, n, hu, hf, hn, rfl⟩ := tOff_spec ht
  unfold execOp; rw [ho]
  refine exec_v _ _ _ ?_
  simp only [Instr.fieldAt, wpR_bind, wpR_underlying hu, hf, hx, ptr, Instr.sureAddr, wpR_pure, fieldPlace, wpR_sizeOf hn, Nat.add_one_ne_zero, if_false, add_plain]
  exact hk

theorem exec_indexAddr {t e : TypeId} {x i : Operand} {k : IntKind} {j : Int} {sz b off n c : Nat} (ho : o.op = .indexAddr t x i) (ht : tElem P t = some e) (hs : tSize P e = some sz)
    (hx : a.eval x = .slice (some ⟨b, off, none⟩) n c) (hi : a.eval i = .int k j) (h1 : 0 ≤ j) (h2 : j < (n : Int)) :
    ∀ Kn : Next → Hp → Prop, Kn (.value (ptr b (off + j.toNat * sz))) H → wpR P (execOp a.eval o) H Kn := by
  intro Kn hk
  have hu := tElem_spec ht
  unfold execOp; rw [ho]
  refine exec_v _ _ _ ?_
  simp only [Instr.indexAt, hx, hi, asIntOf, wpR_bind, wpR_pure, wpR_underlying hu, h1, h2, and_self, if_true, wpR_sizeOf hs, add_plain]
  exact hk

theorem wpR_bound {x : Value} {k : IntKind} {i : Int} {y : Nat} {code : BoundsCode} (hx : x = .int k i) (h1 : 0 ≤ i) (h2 : i ≤ (y : Int)) (Kn : Nat → Hp → Prop) : wpR P (Instr.sliceBound x y code) H Kn = Kn i.toNat H := by
  subst hx
  simp only [Instr.sliceBound, asIntOf, wpR_bind, wpR_pure, h1, h2, and_self, if_true]

theorem wpR_bounds {isS : Bool} {n c : Nat} {lo hi : Option Operand} {l m : Int} (hl : BndOk a 0 lo l) (hm : BndOk a n hi m) (h1 : 0 ≤ l) (h2 : l ≤ m) (h3 : m ≤ (n : Int)) (hnc : n ≤ c)
    (Kn : Nat × Nat × Nat → Hp → Prop) : wpR P (Instr.sliceBounds isS n c (lo.map a.eval) (hi.map a.eval) none) H Kn = Kn (l.toNat, m.toNat, c) H := by
  have hml : l ≤ (m.toNat : Int) := by omega
  cases lo with
  | none =>
    have hl0 : l = 0 := hl
    subst hl0
    cases hi with
    | none =>
      have hm0 : m = (n : Int) := hm
      subst hm0
      simp only [Instr.sliceBounds, Option.map_none, wpR_bind, wpR_pure]; rfl
    | some y =>
      obtain ⟨k, hy⟩ := hm
      simp only [Instr.sliceBounds, Option.map_none, Option.map_some, wpR_bind, wpR_pure, wpR_bound hy (by omega) (show m ≤ (c : Int) by omega)]; rfl
  | some x =>
    obtain ⟨k, hx⟩ := hl
    cases hi with
    | none =>
      have hm0 : m = (n : Int) := hm
      subst hm0
      simp only [Instr.sliceBounds, Option.map_none, Option.map_some, wpR_bind, wpR_pure, wpR_bound hx h1 (show l ≤ ((n : Nat) : Int) by omega)]; rfl
    | some y =>
      obtain ⟨k', hy⟩ := hm
      simp only [Instr.sliceBounds, Option.map_some, wpR_bind, wpR_pure, wpR_bound hy (by omega) (show m ≤ (c : Int) by omega), wpR_bound hx h1 hml]

theorem exec_cutStr {t : TypeId} {x : Operand} {lo hi : Option Operand} {b : ByteArray} {l m : Int} (ho : o.op = .slice t x lo hi none) (hu : P.underlying t = some .string)
    (hx : a.eval x = .string b) (hl : BndOk a 0 lo l) (hm : BndOk a b.size hi m) (h1 : 0 ≤ l) (h2 : l ≤ m) (h3 : m ≤ (b.size : Int)) :
    ∀ Kn : Next → Hp → Prop, Kn (.value (.string (b.extract l.toNat m.toNat))) H → wpR P (execOp a.eval o) H Kn := by
  intro Kn hk
  unfold execOp; rw [ho]
  refine exec_v _ _ _ ?_
  simp only [Instr.sliceAt, wpR_bind, wpR_underlying hu, Instr.slice, hx, Option.map_none, Option.isSome_none, Bool.false_eq_true, if_false, wpR_pure]
  rw [wpR_bounds hl hm h1 h2 h3 (Nat.le_refl _)]
  exact hk

theorem exec_index {t : TypeId} {x i : Operand} {b : ByteArray} {k : IntKind} {j : Int} {c : UInt8} (ho : o.op = .index t x i) (hu : P.underlying t = some .string) (hx : a.eval x = .string b) (hi : a.eval i = .int k j)
    (h1 : 0 ≤ j) (hc : b[j.toNat]? = some c) : ∀ Kn : Next → Hp → Prop, Kn (.value (.int .u8 c.toNat)) H → wpR P (execOp a.eval o) H Kn := by
  intro Kn hk
  unfold execOp; rw [ho]
  refine exec_v _ _ _ ?_
  simp only [Instr.index, hx, hi, asIntOf, wpR_bind, wpR_pure, wpR_underlying hu, h1, if_true, hc]
  exact hk

theorem exec_cat {t t' : TypeId} {x y : Operand} {b c : ByteArray} (ho : o.op = .binOp .add t x y t') (hx : a.eval x = .string b) (hy : a.eval y = .string c) (hl : b.size + c.size ≤ 9223372036854775807) :
    ∀ Kn : Next → Hp → Prop, Kn (.value (.string (b ++ c))) H → wpR P (execOp a.eval o) H Kn := by
  intro Kn hk
  unfold execOp; rw [ho]
  refine exec_v _ _ _ ?_
  have hm : ¬ (((b.size + c.size : Nat) : Int) > IntKind.i64.max) := by
    have : IntKind.i64.max = 9223372036854775807 := by decide
    rw [this]; omega
  simp only [hx, hy, eqGuard, wpR_bind, Bool.not_false, if_true, wpR_pure, binOp, Go.Op.stringOp, if_neg hm]
  exact hk

theorem exec_quo {t t' : TypeId} {x y : Operand} {b c : Int} (ho : o.op = .binOp .quo t x y t') (hx : a.eval x = .int .i64 b) (hy : a.eval y = .int .i64 c) (hl : c ≠ 0) :
    ∀ Kn : Next → Hp → Prop, Kn (.value (.int .i64 (IntKind.i64.wrap (b.tdiv c)))) H → wpR P (execOp a.eval o) H Kn := by
  intro Kn hk
  unfold execOp; rw [ho]
  refine exec_v _ _ _ ?_
  simp only [hx, hy, eqGuard, wpR_bind, Bool.not_false, if_true, wpR_pure, binOp, Go.Op.intDiv, if_neg hl, ne_eq, not_true_eq_false, if_false]
  exact hk

theorem exec_rem {t t' : TypeId} {x y : Operand} {b c : Int} (ho : o.op = .binOp .rem t x y t') (hx : a.eval x = .int .i64 b) (hy : a.eval y = .int .i64 c) (hl : c ≠ 0) :
    ∀ Kn : Next → Hp → Prop, Kn (.value (.int .i64 (b.tmod c))) H → wpR P (execOp a.eval o) H Kn := by
  intro Kn hk
  unfold execOp; rw [ho]
  refine exec_v _ _ _ ?_
  simp only [hx, hy, eqGuard, wpR_bind, Bool.not_false, if_true, wpR_pure, binOp, Go.Op.intDiv, if_neg hl, ne_eq, not_true_eq_false, if_false]
  exact hk

theorem exec_slice {t e sz : Nat} {x : Operand} {lo hi : Option Operand} {ad : Option Addr} {n c : Nat} {l m : Int} (ho : o.op = .slice t x lo hi none) (hte : tElem P t = some e) (hs : tSize P e = some sz)
    (hx : a.eval x = .slice ad n c) (hl : BndOk a 0 lo l) (hm : BndOk a n hi m) (h1 : 0 ≤ l) (h2 : l ≤ m) (h3 : m ≤ (n : Int)) (hnc : n ≤ c) :
    ∀ Kn : Next → Hp → Prop, Kn (.value (.slice (if c = l.toNat then ad else ad.map (·.add (l.toNat * sz))) (m.toNat - l.toNat) (c - l.toNat))) H → wpR P (execOp a.eval o) H Kn := by
  intro Kn hk
  unfold execOp; rw [ho]
  refine exec_v _ _ _ ?_
  simp only [Instr.sliceAt, wpR_bind, wpR_underlying (tElem_spec hte), Instr.slice, hx, Option.map_none]
  rw [wpR_bounds hl hm h1 h2 h3 hnc]
  simp only [wpR_sizeOf hs, wpR_pure]
  exact hk
theorem exec_load {t : TypeId} {x : Operand} {b off : Nat} {v : Value} (ho : o.op = .load t x) (hx : a.eval x = ptr b off)
    (hl : ∀ Kn : Value → Hp → Prop, Kn v H → wpR P (loadVar t ⟨b, off, none⟩) H Kn) : ∀ Kn : Next → Hp → Prop, Kn (.value v) H → wpR P (execOp a.eval o) H Kn := by
  intro Kn hk
  unfold execOp; rw [ho]
  refine exec_v _ _ _ ?_
  rw [hx]
  simp only [Instr.loadAt, ptr, Instr.sureAddr, wpR_bind, wpR_pure]
  exact hl _ hk

theorem run_of {v : Value} (hw : ∀ Kn : Next → Hp → Prop, Kn (.value v) H → wpR P (execOp a.eval o) H Kn) (w : World) (hv : Vis H w) : (execOp a.eval o).run P w = .ok (.value v) w := by
  obtain ⟨x, hr, hx⟩ := wpR_sound _ _ w hv (hw (fun n _ => n = .value v) rfl)
  rw [hr, hx]
end
end Go.H.R
