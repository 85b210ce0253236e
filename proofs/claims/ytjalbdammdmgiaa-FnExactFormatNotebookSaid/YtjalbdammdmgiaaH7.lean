/- Plain laws over the model: loads, stores, new variables and slices. -/
import Derived.Test.YtjalbdammdmgiaaH6
import Derived.Laws.Tables
namespace Go.H
set_option linter.unusedVariables false
section
variable {P : Program}

theorem wpS_underlying {t : TypeId} {d : TypeDesc} (hu : P.underlying t = some d) (h : Hp) (K : TypeDesc → Hp → Prop) : wpS P (underlying t) h K = K d h := by
  simp only [underlying, program, wpS_bind, wpS, wpS_pure, hu]
theorem wpS_typeInfo {t : TypeId} {i : TypeInfo} (hi : P.info? t = some i) (h : Hp) (K : TypeInfo → Hp → Prop) : wpS P (typeInfo t) h K = K i h := by
  simp only [typeInfo, program, wpS_bind, wpS, wpS_pure, hi]
theorem wpS_sizeOf {t : TypeId} {n : Nat} (hs : tSize P t = some n) (h : Hp) (K : Nat → Hp → Prop) : wpS P (sizeOf t) h K = K n h := by
  unfold tSize at hs
  split at hs
  · rename_i i hi
    simp only [sizeOf, wpS_bind, wpS_typeInfo hi, wpS_pure]
    cases hs; rfl
  · cases hs
theorem wpS_zero {t : TypeId} {z : Value} (hz : tZero P t = some z) (h : Hp) (K : Value → Hp → Prop) : wpS P (zeroValue t) h K = K z h := by
  unfold tZero at hz
  split at hz
  · rename_i i hi
    simp only [zeroValue, wpS_bind, wpS_typeInfo hi, hz, wpS_pure]
  · cases hz
theorem wpS_isAgg {t : TypeId} {b : Bool} (ha : tAgg P t = some b) (h : Hp) (K : Bool → Hp → Prop) : wpS P (isAgg t) h K = K b h := by
  unfold tAgg at ha
  split at ha
  · rename_i hu; cases ha; simp only [isAgg, wpS_bind, wpS_underlying hu, wpS_pure]
  · rename_i hu; cases ha; simp only [isAgg, wpS_bind, wpS_underlying hu, wpS_pure]
  · rename_i d h1 h2 hu
    cases ha
    simp only [isAgg, wpS_bind, wpS_underlying hu]
    cases d <;> first | rfl | exact absurd hu (h1 _) | exact absurd hu (h2 _ _)
  · cases ha

theorem wpS_loadCellsFrom {H : Hp} {b o : Nat} : ∀ (vs : List Value) (i : Nat) (acc : Array Value) (K : Array Value → Hp → Prop), (∀ j v, vs[j]? = some v → Hp.cell H b (o + i + j) = some v) →
    K (acc ++ vs.toArray) H → wpS P (loadCellsFrom ⟨b, o, none⟩ i vs.length acc) H K
  | [], i, acc, K, _, hk => by simpa [loadCellsFrom, wpS_pure] using hk
  | v :: vs, i, acc, K, hc, hk => by
    have h0 := hc 0 v (by simp)
    simp only [loadCellsFrom, List.length_cons, wpS_bind, load, wpS]
    have hadd : (⟨b, o, none⟩ : Addr).add i = ⟨b, o + i, none⟩ := by unfold Addr.add; split <;> simp_all
    rw [hadd]
    refine ⟨v, ⟨rfl, by simpa using h0⟩, wpS_loadCellsFrom vs (i + 1) (acc.push v) K ?_ ?_⟩
    · intro j u hj
      have := hc (j + 1) u (by simpa using hj)
      rw [show o + (i + 1) + j = o + i + (j + 1) from by omega]
      exact this
    · simpa using hk

theorem lenB_eq {α : Type} : ∀ (l : List α) (n : Nat), lenB l n = true → l.length = n
  | [], 0, _ => rfl
  | _ :: r, k + 1, h => by simp [lenB_eq r k h]
  | [], _ + 1, h => by cases h
  | _ :: _, 0, h => by cases h

variable {h0 : Hp} {w0 : World} {be : Nat → Nat} {oe : Nat → Value} {H : Hp} {st : St} {h : Hp} {a : Act} {w : World}

theorem Good.ofCell {st : St} {be : Nat → Nat} {oe : Nat → Value} {c : Cell} {v : Value} (g : GoodC st oe c v) : Good st be oe (ofCell c) v := by
  cases c with
  | val u => exact g
  | own i k => exact g

/-- a variable read out of a row of cells -/
theorem load_row {t : TypeId} {cs : List Cell} {vs : List Value} {off : Nat} {K : AV → Prop} {b o : Nat} (he : getC P t cs off K) (g : GoodCs st oe cs vs)
    (hc : ∀ j v, vs[j]? = some v → Hp.cell H b (o + j) = some v) : ∃ av v, K av ∧ Good st be oe av v ∧ ∀ Kn : Value → Hp → Prop, Kn v H → wpS P (loadVar t ⟨b, o + off, none⟩) H Kn := by
  unfold getC at he
  split at he
  · rename_i ha
    split at he
    · rename_i n hn
      split at he
      · rename_i hl
        have hlen := lenB_eq _ _ hl
        have g' := (g.drop off).take n
        refine ⟨_, .agg ((vs.drop off).take n).toArray, he, ⟨_, rfl, g'⟩, fun Kn hk => ?_⟩
        have hlv : ((vs.drop off).take n).length = n := by rw [← g'.length, hlen]
        simp only [loadVar, wpS_bind, wpS_isAgg ha, if_true, wpS_sizeOf hn, loadCells]
        have := wpS_loadCellsFrom (P := P) (H := H) (b := b) (o := o + off) ((vs.drop off).take n) 0 #[] (fun x h' => wpS P (pure (Value.agg x)) h' Kn) (fun j v hj => by
          rw [List.getElem?_take] at hj
          split at hj
          · rw [List.getElem?_drop] at hj
            rw [show o + off + 0 + j = o + (off + j) from by omega]
            exact hc _ _ hj
          · cases hj) (by simpa [wpS_pure] using hk)
        rw [hlv] at this
        exact this
      · exact he.elim
    · exact he.elim
  · rename_i ha
    split at he
    · rename_i c hn
      obtain ⟨v, hv, gc⟩ := g.nth hn
      refine ⟨_, v, he, Good.ofCell gc, fun Kn hk => ?_⟩
      simp only [loadVar, wpS_bind, wpS_isAgg ha, Bool.false_eq_true, if_false, load, wpS]
      exact ⟨v, ⟨trivial, hc _ _ hv⟩, hk⟩
    · exact he.elim
  · exact he.elim

theorem Hp.set_set (h : Hp) (b : Nat) (x y : Obj) : (h.set b x).set b y = h.set b y := by
  funext k; simp only [Hp.set]; split <;> rfl

theorem one_of {v : Value} (h : v.oneCell' = true) : oneCell v := by cases v <;> simp_all [Value.oneCell', oneCell]

theorem wpS_storeCells {b : Nat} {t : TypeId} : ∀ (ns : List Value) (cur : List Value) (off i : Nat) (K : Unit → Hp → Prop) (H : Hp), H b = some (.cells cur.toArray t (0, 0)) →
    off + i + ns.length ≤ cur.length → (∀ v ∈ ns, v.oneCell' = true) → K () (H.set b (.cells (spliceV cur (off + i) ns).toArray t (0, 0))) → wpS P (storeCells ⟨b, off, none⟩ ns i) H K
  | [], cur, off, i, K, H, hb, _, _, hk => by
    have : H.set b (.cells cur.toArray t (0, 0)) = H := by
      funext k; simp only [Hp.set]; split
      · rename_i e; rw [e, hb]
      · rfl
    simp only [spliceV, this] at hk
    exact hk
  | n :: ns, cur, off, i, K, H, hb, hl, h1, hk => by
    simp only [storeCells, wpS_bind, store, wpS]
    have hadd : (⟨b, off, none⟩ : Addr).add i = ⟨b, off + i, none⟩ := by unfold Addr.add; split <;> simp_all
    rw [hadd]
    simp only [List.length_cons] at hl
    refine ⟨cur.toArray, t, (0, 0), ⟨hb, rfl, by simp; omega, by simp, one_of (h1 n (List.mem_cons_self ..))⟩, ?_⟩
    refine wpS_storeCells (t := t) ns (cur.set (off + i) n) off (i + 1) K _ (by simp [Hp.set]) (by simp; omega) (fun v hv => h1 v (List.mem_cons_of_mem _ hv)) ?_
    rw [Hp.set_set]
    simpa [spliceV, Nat.add_assoc] using hk

theorem splice_eq : ∀ (ns cs : List Value) (off : Nat), splice cs off ns = spliceV cs off ns
  | [], cs, off => rfl
  | n :: ns, cs, off => by simp only [splice, spliceV, updN_eq, splice_eq ns]

/-! ### from an abstract value's cells to the value's -/
theorem rdA_ownH (s : Sim P h0 w0 be oe H st h a w) {i k : Nat} {e sz by_ : Nat} {nn : Bool} {xs : List (List Value)} (hn : nth st.ow i = some ⟨k, .live e sz by_ nn xs⟩) : ∃ x n c, oe i = .slice x n c := by
  rcases (s.own i _ _ _ _ _ _ hn).2 with ⟨h1, _⟩ | ⟨g, cap, cur, h1, _⟩
  · exact ⟨_, _, _, h1⟩
  · exact ⟨_, _, _, h1⟩

theorem avCells_good (s : Sim P h0 w0 be oe H st h a w) {x : Operand} {cs : List Cell} (he : avCells (rdO st x) = some cs) : GoodCs st oe cs (a.eval x).cells.toList := by
  have g := s.rdO x
  cases hr : rdO st x with
  | val v =>
    rw [hr] at he g
    have hv : a.eval x = v := g
    rw [hv]
    cases v <;> simp only [avCells, Option.some.injEq] at he <;> first | (subst he; first | exact GoodCs.vals _ _ _ | exact ⟨rfl, trivial⟩) | cases he
  | own i k =>
    rw [hr] at he g
    obtain ⟨e, sz, by_, nn, xs, hn⟩ := rdO_own hr
    simp only [avCells, Option.some.injEq] at he
    subst he
    have hx : a.eval x = oe i := g.own_cur hn
    obtain ⟨y, n, c, hy⟩ := rdA_ownH s hn
    rw [hx, hy]
    rw [hx, hy] at g
    exact ⟨g, trivial⟩
  | agg cs' =>
    rw [hr] at he g
    simp only [avCells, Option.some.injEq] at he
    subst he
    obtain ⟨vs, hv, gv⟩ := g
    rw [hv]
    exact gv
  | _ => rw [hr] at he; cases he

theorem allOneC_spec (s : Sim P h0 w0 be oe H st h a w) : ∀ (cs : List Cell) (vs : List Value), allOneC st cs = true → GoodCs st oe cs vs → ∀ v ∈ vs, v.oneCell' = true
  | [], [], _, _, v, hv => by cases hv
  | .val u :: r, x :: vs, ha, g, v, hv => by
    simp only [allOneC] at ha
    split at ha
    · rename_i h1
      rcases List.mem_cons.1 hv with rfl | hv
      · have : v = u := g.1
        rw [this]; exact h1
      · exact allOneC_spec s r vs ha g.2 v hv
    · cases ha
  | .own i k :: r, x :: vs, ha, g, v, hv => by
    have gx : Good st be oe (rdA st (.own i k)) x := s.rdA (av := .own i k) g.1
    simp only [allOneC] at ha
    split at ha
    · rename_i j l hj
      rcases List.mem_cons.1 hv with rfl | hv
      · rw [hj] at gx
        obtain ⟨e, sz, by_, nn, xs, hn⟩ := rdA_own hj
        obtain ⟨y, n, c, hy⟩ := rdA_ownH s hn
        rw [gx.own_cur hn, hy]; rfl
      · exact allOneC_spec s r vs ha g.2 v hv
    · rename_i u hu
      split at ha
      · rename_i h1
        rcases List.mem_cons.1 hv with rfl | hv
        · rw [hu] at gx
          have : v = u := gx
          rw [this]; exact h1
        · exact allOneC_spec s r vs ha g.2 v hv
      · cases ha
    · cases ha
  | [], _ :: _, _, g, _, _ => g.elim
  | _ :: _, [], _, g, _, _ => g.elim
theorem allOne_spec : ∀ (vs : List Value), allOne vs = true → ∀ v ∈ vs, v.oneCell' = true
  | [], _, v, hv => by cases hv
  | x :: r, ha, v, hv => by
    simp only [allOne] at ha
    split at ha
    · rename_i h1
      rcases List.mem_cons.1 hv with rfl | hv
      · exact h1
      · exact allOne_spec r ha v hv
    · cases ha
end
end Go.H
