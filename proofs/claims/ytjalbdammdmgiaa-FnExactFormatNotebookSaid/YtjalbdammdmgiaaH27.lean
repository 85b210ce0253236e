/- Plain laws over the model: an argument that reads as a datum is laid out as one. -/
import Derived.Test.YtjalbdammdmgiaaH25
import Derived.Deep.Slices
import Derived.ChangeArms
import Derived.WideShapes
namespace Go.H
open Go.WideShapes Go.Deep
set_option linter.unusedVariables false

/-- what reads at this type is laid out so -/
def Opens (P : Program) (t : TypeId) {α : Type} (r : Rp α) : Prop :=
  ∀ {H : Type} (enc : TypeId × Value → H) (w : World) (base : Nat) (sp : Nat → Bool) (held : Bool) (n : Nat) (cs : List Value) (x : DataW H × List MemPlace),
    DataW.trod enc P w base sp held n t cs = some x → ∃ d, r.R (fun b => w.heap[b]?) cs d

theorem Opens.int {P : Program} {t : TypeId} (ht : P.underlying t = some (.int .i64)) : Opens P t Rp.int := by
  intro H enc w base sp held n cs x hx
  obtain ⟨k, rfl, _, hw⟩ := DataW.trod_int ht hx
  exact ⟨k, rfl, wf64 hw⟩
theorem Opens.bool {P : Program} {t : TypeId} (ht : P.underlying t = some .bool) : Opens P t Rp.bool := by
  intro H enc w base sp held n cs x hx
  obtain ⟨k, rfl, _⟩ := DataW.trod_bool ht hx
  exact ⟨k, rfl⟩
theorem Opens.str {P : Program} {t : TypeId} (ht : P.underlying t = some .string) : Opens P t Rp.str := by
  intro H enc w base sp held n cs x hx
  obtain ⟨k, rfl, _, hw⟩ := DataW.trod_string ht hx
  exact ⟨k, rfl, sz64 hw⟩

/-- fields from a place on -/
def OpenF (P : Program) (fs : List Field) (off : Nat) {α : Type} (r : Rp α) : Prop :=
  ∀ {H : Type} (enc : TypeId × Value → H) (w : World) (base : Nat) (sp : Nat → Bool) (held : Bool) (n : Nat) (cs : List Value),
    (∀ f ∈ fs, ∃ y, DataW.trod enc P w base sp held n f.type ((cs.drop f.offset).take (P.cellsOf f.type)) = some y) → off + r.sz = cs.length → ∃ d, r.R (fun b => w.heap[b]?) (cs.drop off) d
theorem OpenF.one {P : Program} {f : Field} {off : Nat} {α : Type} {r : Rp α} (ho : f.offset = off) (hs : P.cellsOf f.type = r.sz) (h : Opens P f.type r) : OpenF P [f] off r := by
  intro H enc w base sp held n cs hf hl
  obtain ⟨y, hy⟩ := hf f (List.mem_singleton.2 rfl)
  rw [hs, ho, List.take_of_length_le (by simp; omega)] at hy
  exact h enc w base sp held n _ y hy
theorem OpenF.cons {P : Program} {f : Field} {fs : List Field} {off : Nat} {α β : Type} {r : Rp α} {q : Rp β} (ho : f.offset = off) (hs : P.cellsOf f.type = r.sz) (h : Opens P f.type r) (hq : OpenF P fs (off + r.sz) q) :
    OpenF P (f :: fs) off (r.pair q) := by
  intro H enc w base sp held n cs hf hl
  obtain ⟨y, hy⟩ := hf f (List.mem_cons_self ..)
  rw [hs, ho] at hy
  obtain ⟨d1, h1⟩ := h enc w base sp held n _ y hy
  have hl' : off + r.sz + q.sz = cs.length := by rw [← hl]; show _ = off + (r.sz + q.sz); omega
  obtain ⟨d2, h2⟩ := hq enc w base sp held n cs (fun g hg => hf g (List.mem_cons_of_mem _ hg)) hl'
  refine ⟨(d1, d2), _, _, ?_, h1, h2⟩
  rw [← List.drop_drop]
  exact (List.take_append_drop _ _).symm
theorem Opens.struct {P : Program} {t : TypeId} {fs : Array Field} {α : Type} {r : Rp α} (ht : P.underlying t = some (.struct fs)) (hs : P.cellsOf t = r.sz) (h : OpenF P fs.toList 0 r) : Opens P t r := by
  intro H enc w base sp held n cs x hx
  obtain ⟨xs, m, _, _, hl, hlen, hf⟩ := DataW.trod_struct ht hx
  have := h enc w base sp held m cs (fun f hm => by
    obtain ⟨i, hi⟩ := List.getElem?_of_mem hm
    have hi' : fs[i]? = some f := by simpa using hi
    have := hf i f hi'
    have hlt : i < xs.length := by rw [hlen]; exact (Array.getElem?_eq_some_iff.1 hi').1
    rw [this]
    exact ⟨xs[i], by simp [hlt]⟩) (by omega)
  simpa using this

theorem chooseL {α β : Type} [Inhabited β] {p : Nat → List α → β → Prop} : ∀ (n : Nat), (∀ i, i < n → ∃ a b, p i a b) → ∃ (as : List (List α)) (bs : List β), as.length = n ∧ bs.length = n ∧ ∀ i, i < n → p i (as.getD i []) (bs.getD i default)
  | 0, _ => ⟨[], [], rfl, rfl, fun i hi => by omega⟩
  | n + 1, h => by
    obtain ⟨as, bs, h1, h2, h3⟩ := chooseL n fun i hi => h i (by omega)
    obtain ⟨a, b, hp⟩ := h n (by omega)
    refine ⟨as ++ [a], bs ++ [b], by simp [h1], by simp [h2], fun i hi => ?_⟩
    rcases Nat.lt_or_ge i n with hi' | hi'
    · have := h3 i hi'
      simpa [List.getD_eq_getElem?_getD, List.getElem?_append_left, h1, h2, hi'] using this
    · have : i = n := by omega
      subst this
      simpa [List.getD_eq_getElem?_getD, List.getElem?_append_right, h1, h2] using hp
theorem F2.of_get {α β : Type} {p : List α → β → Prop} [Inhabited β] : ∀ (as : List (List α)) (bs : List β), as.length = bs.length → (∀ i, i < as.length → p (as.getD i []) (bs.getD i default)) → F2 p as bs
  | [], [], _, _ => trivial
  | a :: as, b :: bs, hl, h => ⟨h 0 (by simp), F2.of_get as bs (by simpa using hl) fun i hi => h (i + 1) (by simpa using hi)⟩
  | [], _ :: _, hl, _ => by cases hl
  | _ :: _, [], hl, _ => by cases hl

theorem flat_at {sz : Nat} : ∀ (xs : List (List Value)) (j : Nat) (v : Value), (∀ x ∈ xs, x.length = sz) → xs.flatten[j]? = some v → j / sz < xs.length ∧ (xs.getD (j / sz) [])[j % sz]? = some v
  | [], j, v, _, h => by simp at h
  | x :: r, j, v, hall, h => by
    have hx := hall x (List.mem_cons_self ..)
    rw [List.flatten_cons, List.getElem?_append] at h
    by_cases hj : j < x.length
    · rw [if_pos hj] at h
      rw [hx] at hj
      rw [Nat.div_eq_of_lt hj, Nat.mod_eq_of_lt hj]
      exact ⟨by simp, by simpa using h⟩
    · rw [if_neg hj, hx] at h
      rw [hx] at hj
      obtain ⟨h1, h2⟩ := flat_at r (j - sz) v (fun y hy => hall y (List.mem_cons_of_mem _ hy)) h
      have h0 : 0 < sz := by
        rcases Nat.eq_zero_or_pos sz with e | e
        · subst e
          exfalso
          have : ∀ l : List (List Value), (∀ y ∈ l, y.length = 0) → l.flatten = [] := by
            intro l
            induction l with
            | nil => intro _; rfl
            | cons y l ih => intro hl; rw [List.flatten_cons, List.length_eq_zero_iff.1 (hl y (List.mem_cons_self ..)), ih fun z hz => hl z (List.mem_cons_of_mem _ hz)]; rfl
          rw [this r fun y hy => hall y (List.mem_cons_of_mem _ hy)] at h
          simp at h
        · exact e
      have e1 : j / sz = (j - sz) / sz + 1 := by
        conv => lhs; rw [show j = (j - sz) + sz from by omega, Nat.add_div_right _ h0]
      have e2 : j % sz = (j - sz) % sz := by
        conv => lhs; rw [show j = (j - sz) + sz from by omega, Nat.add_mod_right]
      rw [e1, e2]
      exact ⟨by simp; omega, by simpa using h2⟩

theorem Opens.slice {P : Program} {t e : TypeId} {α : Type} {r : Rp α} (ht : P.underlying t = some (.slice e)) (hs : P.cellsOf e = r.sz) (h0 : 0 < r.sz) (he : Opens P e r) : Opens P t r.slice := by
  intro H enc w base sp held n cs x hx
  rcases open_slice ht hx with ⟨rfl, _⟩ | ⟨a, len, cap, m, k, D, Pl, rfl, hb, hl, hm, hmm, _, hel⟩
  · exact ⟨[], none, 0, 0, [], rfl, rfl, Nat.zero_le _, ⟨by simp, none, 0, 0, rfl, rfl, Nat.le_refl _, .inl rfl⟩, trivial⟩
  have hlm : len ≤ m := by rw [hmm]; split <;> omega
  rcases Nat.eq_zero_or_pos len with e0 | hpos
  · subst e0
    exact ⟨[], _, _, _, [], rfl, rfl, Nat.zero_le _, ⟨by simp, _, _, _, rfl, rfl, hl, .inl rfl⟩, trivial⟩
  have inst : Nonempty α := by
    obtain ⟨cs', _, h2⟩ := hel 0 (by omega)
    obtain ⟨d, _⟩ := he enc w base sp held k cs' _ h2
    exact ⟨d⟩
  letI : Inhabited α := Classical.inhabited_of_nonempty inst
  obtain ⟨vs, xs, l1, l2, hp⟩ := chooseL (p := fun i cs' d => w.cells? base (a.add (i * P.cellsOf e)) (P.cellsOf e) = some cs' ∧ r.R (fun b => w.heap[b]?) cs' d) len (fun i hi => by
    obtain ⟨cs', h1, h2⟩ := hel i (by omega)
    obtain ⟨d, hd⟩ := he enc w base sp held k cs' _ h2
    exact ⟨cs', d, h1, hd⟩)
  have hF : F2 (r.R fun b => w.heap[b]?) vs xs := F2.of_get vs xs (by omega) fun i hi => (hp i (by omega)).2
  have hall : ∀ x ∈ vs, x.length = r.sz ∧ ∀ v ∈ x, v.oneCell' = true := fun x hx => by
    obtain ⟨i, hi, e⟩ := List.getElem_of_mem hx
    have := (hp i (by omega)).2
    rw [List.getD_eq_getElem?_getD, List.getElem?_eq_getElem hi, e] at this
    exact ⟨r.len this, r.one this⟩
  -- the place
  have cell : ∀ i j, i < len → j < r.sz → w.cell? ((a.add (i * r.sz)).add j) = (vs.getD i [])[j]? := fun i j hi hj => by
    have := (hp i hi).1
    rw [hs] at this
    obtain ⟨_, _, hc⟩ := World.cells?_some this
    exact hc j hj
  have hspot : a.spot = none := by
    have h1 := cell 0 0 hpos h0
    have h2 := (hp 0 hpos).2
    have h3 := r.len h2
    have h4 : (a.add (0 * r.sz)).add 0 = a := by simp [Addr.add]
    rw [h4] at h1
    have h5 : ((vs.getD 0 [])[0]?).isSome = true := by
      rw [List.getElem?_eq_getElem (by omega)]; rfl
    rw [← h1] at h5
    unfold World.cell? at h5
    split at h5
    · split at h5
      · cases h5
      · rename_i hn; simpa using hn
    · cases h5
  refine ⟨xs, _, _, _, vs, rfl, by omega, Nat.le_trans hl (sz64 hm), ⟨hall, _, _, _, rfl, by omega, hl, .inr ⟨a.block, a.off, ?_, fun j v hj => ?_⟩⟩, hF⟩
  · cases a; simp only at hspot; subst hspot; rfl
  · obtain ⟨g1, g2⟩ := flat_at vs j v (fun x hx => (hall x hx).1) hj
    have hjr : j % r.sz < r.sz := Nat.mod_lt _ h0
    have := cell (j / r.sz) (j % r.sz) (by omega) hjr
    rw [g2, add_add, show j / r.sz * r.sz + j % r.sz = j from by rw [Nat.mul_comm]; exact Nat.div_add_mod ..] at this
    unfold Hp.cell
    unfold World.cell? at this
    have hb' : (a.add j).block = a.block := by unfold Addr.add; split <;> rfl
    have ho' : (a.add j).off = a.off + j := by unfold Addr.add; split <;> simp_all
    rw [hb', ho'] at this
    simp only
    split at this
    · rename_i c t' fz hc
      rw [hc]
      split at this
      · cases this
      · exact this
    · cases this

/-- an argument of a struct's type -/
theorem arg_struct {P : Program} {H : Type} {enc : TypeId × Value → H} {w : World} {base b0 : Nat} {sp : Nat → Bool} {held : Bool} {rr : Reach} {t : TypeId} {fs : Array Field} {v : Value} {d : DataW H} {ps : List MemPlace} {α : Type} {r : Rp α}
    (ho : Opens P t r) (ht : P.underlying t = some (.struct fs)) (hval : Value.okWide P w rr b0 t v) (h : DataW.Trod enc P w base sp held t v d ps) : ∃ cs x, v = .agg cs.toArray ∧ r.R (fun b => w.heap[b]?) cs x := by
  obtain ⟨cs, rfl, _⟩ := okWide_struct ht hval
  obtain ⟨n, hn⟩ := h
  obtain ⟨x, hx⟩ := ho enc w base sp held n _ _ hn
  exact ⟨cs.toList, x, by simp, hx⟩
/-- an argument of a slice's type -/
theorem arg_slice {P : Program} {H : Type} {enc : TypeId × Value → H} {w : World} {base b0 : Nat} {sp : Nat → Bool} {held : Bool} {rr : Reach} {t e : TypeId} {v : Value} {d : DataW H} {ps : List MemPlace} {α : Type} {r : Rp α}
    (ho : Opens P t r) (ht : P.underlying t = some (.slice e)) (hval : Value.okWide P w rr b0 t v) (h : DataW.Trod enc P w base sp held t v d ps) : ∃ x, r.R (fun b => w.heap[b]?) [v] x := by
  obtain ⟨a, l, c, rfl⟩ := okWide_slice ht hval
  obtain ⟨n, hn⟩ := h
  obtain ⟨x, hx⟩ := ho enc w base sp held n _ _ hn
  exact ⟨x, hx⟩
end Go.H
