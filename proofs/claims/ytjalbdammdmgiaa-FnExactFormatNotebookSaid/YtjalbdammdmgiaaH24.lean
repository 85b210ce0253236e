/- Plain laws over the model: how values stand for data: numbers, strings, pairs, slices. -/
import Derived.Test.YtjalbdammdmgiaaH23
namespace Go.H
set_option linter.unusedVariables false

theorem Sub.refl (h : Hp) : Sub h h := fun _ _ e => e
theorem Sub.trans {h h1 h2 : Hp} (a : Sub h h1) (b : Sub h1 h2) : Sub h h2 := fun x o e => b x o (a x o e)
theorem Sub.set {h : Hp} {b : Nat} {o : Obj} (hb : h b = none) : Sub h (h.set b o) := fun x y e => by
  have : x ≠ b := fun he => by rw [he, hb] at e; cases e
  rw [Hp.set_other h o this]; exact e
theorem Sub.cell {h h' : Hp} (s : Sub h h') {b o : Nat} {v : Value} (hc : Hp.cell h b o = some v) : Hp.cell h' b o = some v := by
  unfold Hp.cell at hc ⊢
  split at hc
  · rename_i ho; rw [s _ _ ho]; exact hc
  · cases hc
theorem SlE.mono {h h' : Hp} (s : Sub h h') {sz : Nat} {v : Value} {xs : List (List Value)} (e : SlE h sz v xs) : SlE h' sz v xs := by
  obtain ⟨h1, a, n, c, h2, h3, h4, h5⟩ := e
  refine ⟨h1, a, n, c, h2, h3, h4, h5.imp id ?_⟩
  rintro ⟨b, o, ha, hc⟩
  exact ⟨b, o, ha, fun j v hj => s.cell (hc j v hj)⟩
theorem Froze.sub {h h' : Hp} {v : Value} {e sz : Nat} {nn : Bool} {xs : List (List Value)} (f : Froze h h' v e sz nn xs) : Sub h h' := by
  rcases f.2 with ⟨_, _, _, rfl⟩ | ⟨g, cap, cur, _, hg, rfl, _⟩
  · exact Sub.refl _
  · exact Sub.set hg
theorem Froze.sle {h h' : Hp} {v : Value} {e sz : Nat} {nn : Bool} {xs : List (List Value)} (f : Froze h h' v e sz nn xs) : SlE h' sz v xs := by
  refine ⟨f.1, ?_⟩
  rcases f.2 with ⟨rfl, rfl, _, rfl⟩ | ⟨g, cap, cur, rfl, hg, rfl, h1, h2, h3, h4⟩
  · exact ⟨none, 0, 0, rfl, rfl, Nat.le_refl _, .inl rfl⟩
  · refine ⟨_, _, _, rfl, rfl, h1, .inr ⟨g, 0, rfl, fun j v hj => ?_⟩⟩
    rw [← h4, List.getElem?_take] at hj
    split at hj
    · simpa [Hp.cell, Hp.set_same] using hj
    · cases hj
theorem Froze.slice {h h' : Hp} {v : Value} {e sz : Nat} {nn : Bool} {xs : List (List Value)} (f : Froze h h' v e sz nn xs) : ∃ a c, v = .slice a xs.length c ∧ xs.length ≤ maxLen := by
  rcases f.2 with ⟨rfl, rfl, _, rfl⟩ | ⟨g, cap, cur, rfl, hg, rfl, h1, h2, h3, h4⟩
  · exact ⟨none, 0, rfl, Nat.zero_le _⟩
  · exact ⟨_, _, rfl, Nat.le_trans h1 h2⟩

def F2 {α β : Type} (p : α → β → Prop) : List α → List β → Prop
  | [], [] => True
  | a :: as, b :: bs => p a b ∧ F2 p as bs
  | _, _ => False
theorem F2.length {α β : Type} {p : α → β → Prop} : ∀ {as : List α} {bs : List β}, F2 p as bs → as.length = bs.length
  | [], [], _ => rfl
  | _ :: as, _ :: bs, h => by simp [F2.length h.2]
  | [], _ :: _, h => h.elim
  | _ :: _, [], h => h.elim
theorem F2.get {α β : Type} {p : α → β → Prop} : ∀ {as : List α} {bs : List β} {i : Nat} {b : β}, F2 p as bs → bs[i]? = some b → ∃ a, as[i]? = some a ∧ p a b
  | a :: as, b :: bs, 0, b', h, hb => by cases hb; exact ⟨a, rfl, h.1⟩
  | a :: as, b :: bs, i + 1, b', h, hb => by
    obtain ⟨x, h1, h2⟩ := F2.get (i := i) h.2 (by simpa using hb)
    exact ⟨x, by simpa using h1, h2⟩
  | [], [], i, b', h, hb => by simp at hb
  | [], _ :: _, _, _, h, _ => h.elim
  | _ :: _, [], _, _, h, _ => h.elim
theorem F2.mono {α β : Type} {p q : α → β → Prop} (hpq : ∀ a b, p a b → q a b) : ∀ {as : List α} {bs : List β}, F2 p as bs → F2 q as bs
  | [], [], _ => trivial
  | _ :: as, _ :: bs, h => ⟨hpq _ _ h.1, F2.mono hpq h.2⟩
  | [], _ :: _, h => h.elim
  | _ :: _, [], h => h.elim
theorem F2.snoc {α β : Type} {p : α → β → Prop} {a : α} {b : β} (hab : p a b) : ∀ {as : List α} {bs : List β}, F2 p as bs → F2 p (as ++ [a]) (bs ++ [b])
  | [], [], _ => ⟨hab, trivial⟩
  | _ :: as, _ :: bs, h => ⟨h.1, F2.snoc hab h.2⟩
  | [], _ :: _, h => h.elim
  | _ :: _, [], h => h.elim
theorem F2.set {α β : Type} {p : α → β → Prop} {a : α} {b : β} (hab : p a b) : ∀ {as : List α} {bs : List β} (i : Nat), F2 p as bs → F2 p (as.set i a) (bs.set i b)
  | [], [], _, _ => trivial
  | _ :: as, _ :: bs, 0, h => ⟨hab, h.2⟩
  | _ :: as, _ :: bs, i + 1, h => ⟨h.1, F2.set hab i h.2⟩
  | [], _ :: _, _, h => h.elim
  | _ :: _, [], _, h => h.elim

/-- how a row of cells stands for a datum -/
structure Rp (α : Type) where
  sz : Nat
  R : Hp → List Value → α → Prop
  len : ∀ {h cs x}, R h cs x → cs.length = sz
  one : ∀ {h cs x}, R h cs x → ∀ v ∈ cs, v.oneCell' = true
  mono : ∀ {h h' cs x}, Sub h h' → R h cs x → R h' cs x

def Rp.int : Rp Int := ⟨1, fun _ cs x => cs = [.int .i64 x] ∧ In64 x, fun h => by rw [h.1]; rfl, fun h v hv => by rw [h.1] at hv; simp at hv; rw [hv]; rfl, fun _ h => h⟩
def Rp.bool : Rp Bool := ⟨1, fun _ cs x => cs = [.bool x], fun h => by rw [h]; rfl, fun h v hv => by rw [h] at hv; simp at hv; rw [hv]; rfl, fun _ h => h⟩
def Rp.str : Rp ByteArray := ⟨1, fun _ cs x => cs = [.string x] ∧ x.size ≤ 9223372036854775807, fun h => by rw [h.1]; rfl, fun h v hv => by rw [h.1] at hv; simp at hv; rw [hv]; rfl, fun _ h => h⟩
def Rp.pair {α β : Type} (r : Rp α) (q : Rp β) : Rp (α × β) where
  sz := r.sz + q.sz
  R := fun h cs x => ∃ c1 c2, cs = c1 ++ c2 ∧ r.R h c1 x.1 ∧ q.R h c2 x.2
  len := by rintro h cs x ⟨c1, c2, rfl, h1, h2⟩; rw [List.length_append, r.len h1, q.len h2]
  one := by
    rintro h cs x ⟨c1, c2, rfl, h1, h2⟩ v hv
    rcases List.mem_append.1 hv with hv | hv
    · exact r.one h1 v hv
    · exact q.one h2 v hv
  mono := by rintro h h' cs x s ⟨c1, c2, rfl, h1, h2⟩; exact ⟨c1, c2, rfl, r.mono s h1, q.mono s h2⟩
def Rp.iso {α β : Type} (r : Rp α) (f : β → α) : Rp β := ⟨r.sz, fun h cs y => r.R h cs (f y), fun h => r.len h, fun h => r.one h, fun s h => r.mono s h⟩
def Rp.slice {α : Type} (r : Rp α) : Rp (List α) where
  sz := 1
  R := fun h cs xs => ∃ a n c vs, cs = [.slice a n c] ∧ n = xs.length ∧ n ≤ 9223372036854775807 ∧ SlE h r.sz (.slice a n c) vs ∧ F2 (r.R h) vs xs
  len := by rintro h cs x ⟨a, n, c, vs, rfl, _⟩; rfl
  one := by rintro h cs x ⟨a, n, c, vs, rfl, _⟩ v hv; simp at hv; rw [hv]; rfl
  mono := by rintro h h' cs x s ⟨a, n, c, vs, rfl, h1, h2, h3, h4⟩; exact ⟨a, n, c, vs, rfl, h1, h2, h3.mono s, h4.mono fun _ _ h => r.mono s h⟩

/-- a slice value stands for a list -/
def Sl {α : Type} (r : Rp α) (h : Hp) (v : Value) (xs : List α) : Prop := r.slice.R h [v] xs
abbrev Ints (h : Hp) (v : Value) (xs : List Int) : Prop := Sl .int h v xs
abbrev IntSS (h : Hp) (v : Value) (xs : List (List Int)) : Prop := Sl (.slice .int) h v xs
theorem Sl.mono {α : Type} {r : Rp α} {h h' : Hp} (s : Sub h h') {v : Value} {xs : List α} (e : Sl r h v xs) : Sl r h' v xs := r.slice.mono s e
theorem Sl.slice {α : Type} {r : Rp α} {h : Hp} {v : Value} {xs : List α} (e : Sl r h v xs) : ∃ a c, v = .slice a xs.length c ∧ xs.length ≤ 9223372036854775807 := by
  obtain ⟨a, n, c, vs, e1, rfl, e3, ⟨_, a', n', c', e4, _, e5, _⟩, _⟩ := e
  cases e1
  cases e4
  exact ⟨a, c, rfl, e3⟩
theorem Sl.len {α : Type} {r : Rp α} {h : Hp} {a : Option Addr} {n c : Nat} {xs : List α} (e : Sl r h (.slice a n c) xs) : n = xs.length ∧ n ≤ 9223372036854775807 := by
  obtain ⟨a', c', h1, h2⟩ := e.slice
  cases h1
  exact ⟨rfl, h2⟩
/-- an element, looked at -/
theorem Sl.get {α : Type} {r : Rp α} {h : Hp} {v : Value} {xs : List α} (e : Sl r h v xs) {i : Nat} {x : α} (hx : xs[i]? = some x) (hsz : 0 < r.sz) :
    InB v i ∧ ∃ cs, ElemAt h v r.sz i cs ∧ r.R h cs x := by
  obtain ⟨a, n, c, vs, e1, rfl, e3, ⟨e4, a', n', c', e5, e6, e7, e8⟩, e9⟩ := e
  cases e1
  cases e5
  obtain ⟨cs, h1, h2⟩ := e9.get hx
  have hlen := e9.length
  obtain ⟨hi, hx'⟩ := List.getElem?_eq_some_iff.1 hx
  have hall : ∀ x ∈ vs, x.length = r.sz := fun x hx => (e4 x hx).1
  have hcs : cs.length = r.sz := r.len h2
  rcases e8 with e8 | ⟨b, o, rfl, e8⟩
  · exfalso
    cases cs with
    | nil => simp at hcs; omega
    | cons z cs =>
      have := flat_get vs i (z :: cs) hall h1 0 z rfl
      rw [e8] at this
      simp at this
  · refine ⟨⟨b, o, _, _, rfl, by omega, by omega⟩, cs, ⟨hcs, by omega, b, o, _, _, rfl, fun j v hj => ?_⟩, h2⟩
    have := e8 _ _ (flat_get vs i cs hall h1 j v hj)
    rw [show o + (i : Int).toNat * r.sz + j = o + (i * r.sz + j) from by simp [Nat.add_assoc]]
    exact this
theorem getD_some {α : Type} {xs : List α} {i : Nat} (d : α) (h : i < xs.length) : xs[i]? = some (xs.getD i d) := by
  rw [List.getD_eq_getElem?_getD]
  simp [h]
theorem Ints.get {h : Hp} {v : Value} {xs : List Int} (e : Ints h v xs) {i : Nat} (hi : i < xs.length) : InB v i ∧ ElemAt h v 1 i [.int .i64 (xs.getD i 0)] ∧ In64 (xs.getD i 0) := by
  obtain ⟨h1, cs, h2, h3, h4⟩ := Sl.get e (getD_some 0 hi) Nat.zero_lt_one
  subst h3
  exact ⟨h1, h2, h4⟩
theorem Sl.getS {α : Type} {r : Rp α} {h : Hp} {v : Value} {xs : List (List α)} (e : Sl r.slice h v xs) {i : Nat} (hi : i < xs.length) : InB v i ∧ ∃ a n c, ElemAt h v 1 i [.slice a n c] ∧ Sl r h (.slice a n c) (xs.getD i []) := by
  obtain ⟨h1, cs, h2, h3⟩ := Sl.get e (getD_some [] hi) Nat.zero_lt_one
  have h4 := h3
  obtain ⟨a, n, c, vs, rfl, _⟩ := h3
  exact ⟨h1, a, n, c, h2, h4⟩
/-- the call's own slice, handed on -/
theorem Froze.sl {α : Type} {r : Rp α} {h h' : Hp} {v : Value} {e : Nat} {nn : Bool} {vs : List (List Value)} {xs : List α} (f : Froze h h' v e r.sz nn vs) (hr : F2 (r.R h) vs xs) : Sl r h' v xs := by
  obtain ⟨a, c, rfl, hc⟩ := f.slice
  have hl := hr.length
  refine ⟨a, _, c, vs, rfl, hl, by simpa [maxLen] using hc, f.sle, hr.mono fun _ _ h => r.mono f.sub h⟩

/-- what only the call itself knows of is let go -/
theorem Tr.forget {P : Program} {f : FuncId} {args : Array Value} {h : Hp} {x : Value} (t : Tr P f args h fun v h' => v = x ∧ Sub h h') : Tr P f args h fun v h' => v = x ∧ h' = h :=
  ⟨fun w hv => (t.run w hv).mono fun _ _ ⟨v, h', he, ⟨hx, hs⟩, hm⟩ => ⟨v, h, he, ⟨hx, rfl⟩, hm.less hs⟩⟩
end Go.H
