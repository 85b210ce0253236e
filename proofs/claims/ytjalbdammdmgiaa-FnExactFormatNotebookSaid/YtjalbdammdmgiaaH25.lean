/- Plain laws over the model: data that lie in blocks of their own: fresh copies. -/
import Derived.Test.YtjalbdammdmgiaaH24
namespace Go.H
set_option linter.unusedVariables false

/-- a datum that lies in blocks B, each used once and open to writing -/
structure Wp (α : Type) extends Rp α where
  W : Hp → List Value → α → List Nat → Prop
  toR : ∀ {h cs x B}, W h cs x B → R h cs x
  dom : ∀ {h cs x B}, W h cs x B → ∀ b ∈ B, h b ≠ none
  frame : ∀ {h h' cs x B}, W h cs x B → (∀ b ∈ B, h' b = h b) → W h' cs x B

def Wp.plain {α : Type} (r : Rp α) (hr : ∀ h h' cs x, r.R h cs x → r.R h' cs x) : Wp α :=
  { r with W := fun h cs x B => r.R h cs x ∧ B = [], toR := fun h => h.1, dom := (fun h b hb => by rw [h.2] at hb; cases hb), frame := fun h _ => ⟨hr _ _ _ _ h.1, h.2⟩ }
def Wp.int : Wp Int := .plain .int fun _ _ _ _ h => h
def Wp.bool : Wp Bool := .plain .bool fun _ _ _ _ h => h
def Wp.str : Wp ByteArray := .plain .str fun _ _ _ _ h => h
def Wp.pair {α β : Type} (r : Wp α) (q : Wp β) : Wp (α × β) :=
  { Rp.pair r.toRp q.toRp with
    W := fun h cs x B => ∃ c1 c2 B1 B2, cs = c1 ++ c2 ∧ B = B1 ++ B2 ∧ r.W h c1 x.1 B1 ∧ q.W h c2 x.2 B2
    toR := fun ⟨c1, c2, B1, B2, e1, _, h1, h2⟩ => ⟨c1, c2, e1, r.toR h1, q.toR h2⟩
    dom := fun ⟨c1, c2, B1, B2, _, e2, h1, h2⟩ b hb => by
      subst e2
      rcases List.mem_append.1 hb with hb | hb
      · exact r.dom h1 b hb
      · exact q.dom h2 b hb
    frame := fun ⟨c1, c2, B1, B2, e1, e2, h1, h2⟩ hf => by
      subst e2
      exact ⟨c1, c2, B1, B2, e1, rfl, r.frame h1 fun b hb => hf b (List.mem_append_left _ hb), q.frame h2 fun b hb => hf b (List.mem_append_right _ hb)⟩ }
def Wp.iso {α β : Type} (r : Wp α) (f : β → α) : Wp β :=
  { Rp.iso r.toRp f with W := fun h cs y B => r.W h cs (f y) B, toR := fun h => r.toR h, dom := fun h => r.dom h, frame := fun h => r.frame h }

/-- row by row -/
def F3 {α β γ : Type} (p : α → β → γ → Prop) : List α → List β → List γ → Prop
  | [], [], [] => True
  | a :: as, b :: bs, c :: cs => p a b c ∧ F3 p as bs cs
  | _, _, _ => False
theorem F3.f2 {α β γ : Type} {p : α → β → γ → Prop} {q : α → β → Prop} (hpq : ∀ a b c, p a b c → q a b) : ∀ {as : List α} {bs : List β} {cs : List γ}, F3 p as bs cs → F2 q as bs
  | [], [], [], _ => trivial
  | _ :: as, _ :: bs, _ :: cs, h => ⟨hpq _ _ _ h.1, F3.f2 hpq h.2⟩
  | [], [], _ :: _, h => h.elim
  | [], _ :: _, _, h => h.elim
  | _ :: _, [], _, h => h.elim
  | _ :: _, _ :: _, [], h => h.elim
theorem F3.mono {α β γ : Type} {p q : α → β → γ → Prop} : ∀ {as : List α} {bs : List β} {cs : List γ}, (∀ a b c, c ∈ cs → p a b c → q a b c) → F3 p as bs cs → F3 q as bs cs
  | [], [], [], _, _ => trivial
  | _ :: as, _ :: bs, _ :: cs, hpq, h => ⟨hpq _ _ _ (List.mem_cons_self ..) h.1, F3.mono (fun a b c hc => hpq a b c (List.mem_cons_of_mem _ hc)) h.2⟩
  | [], [], _ :: _, _, h => h.elim
  | [], _ :: _, _, _, h => h.elim
  | _ :: _, [], _, _, h => h.elim
  | _ :: _, _ :: _, [], _, h => h.elim
theorem F3.snoc {α β γ : Type} {p : α → β → γ → Prop} {a : α} {b : β} {c : γ} (hab : p a b c) : ∀ {as : List α} {bs : List β} {cs : List γ}, F3 p as bs cs → F3 p (as ++ [a]) (bs ++ [b]) (cs ++ [c])
  | [], [], [], _ => ⟨hab, trivial⟩
  | _ :: as, _ :: bs, _ :: cs, h => ⟨h.1, F3.snoc hab h.2⟩
  | [], [], _ :: _, h => h.elim
  | [], _ :: _, _, h => h.elim
  | _ :: _, [], _, h => h.elim
  | _ :: _, _ :: _, [], h => h.elim
theorem F3.mem {α β γ : Type} {p : α → β → γ → Prop} : ∀ {as : List α} {bs : List β} {cs : List γ} {c : γ}, F3 p as bs cs → c ∈ cs → ∃ a b, p a b c
  | _ :: as, _ :: bs, _ :: cs, c, h, hc => by
    rcases List.mem_cons.1 hc with rfl | hc
    · exact ⟨_, _, h.1⟩
    · exact F3.mem h.2 hc
  | [], [], [], c, _, hc => by cases hc
  | [], [], _ :: _, _, h, _ => h.elim
  | [], _ :: _, _, _, h, _ => h.elim
  | _ :: _, [], _, _, h, _ => h.elim
  | _ :: _, _ :: _, [], _, h, _ => h.elim

/-- the rows of a slice that lies in a block of its own -/
def WRows (sz : Nat) (h : Hp) (v : Value) (vs : List (List Value)) (B : List Nat) : Prop :=
  (∀ x ∈ vs, x.length = sz ∧ ∀ v ∈ x, v.oneCell' = true) ∧
  ((v = .slice none 0 0 ∧ vs = [] ∧ B = []) ∨ ∃ g o c cur ty, v = .slice (some ⟨g, o, none⟩) vs.length c ∧ vs.length ≤ c ∧ c ≤ 9223372036854775807 ∧ h g = some (.cells cur ty (0, 0)) ∧ B = [g] ∧
    (∀ j u, vs.flatten[j]? = some u → cur[o + j]? = some u) ∧ o + c * sz ≤ cur.size)
theorem WRows.sle {sz : Nat} {h : Hp} {v : Value} {vs : List (List Value)} {B : List Nat} (w : WRows sz h v vs B) : SlE h sz v vs := by
  refine ⟨w.1, ?_⟩
  rcases w.2 with ⟨rfl, rfl, _⟩ | ⟨g, o, c, cur, ty, rfl, h1, h2, h3, _, h4⟩
  · exact ⟨none, 0, 0, rfl, rfl, Nat.le_refl _, .inl rfl⟩
  · exact ⟨_, _, _, rfl, rfl, h1, .inr ⟨g, o, rfl, fun j u hj => by simp [Hp.cell, h3, h4.1 j u hj]⟩⟩

def Wp.slice {α : Type} (r : Wp α) : Wp (List α) :=
  { Rp.slice r.toRp with
    W := fun h cs xs B => ∃ v vs B1 Bs, cs = [v] ∧ WRows r.sz h v vs B1 ∧ F3 (r.W h) vs xs Bs ∧ B = B1 ++ Bs.flatten
    toR := by
      rintro h cs xs B ⟨v, vs, B1, Bs, rfl, h1, h2, rfl⟩
      have h3 := h2.f2 (q := r.R h) fun _ _ _ h => r.toR h
      have hs := h1.sle
      have hl := h3.length
      rcases h1.2 with ⟨rfl, rfl, _⟩ | ⟨g, o, c, cur, ty, rfl, k1, k2, _⟩
      · exact ⟨none, 0, 0, [], rfl, hl, Nat.zero_le _, hs, h3⟩
      · exact ⟨_, _, c, vs, rfl, hl, Nat.le_trans k1 k2, hs, h3⟩
    dom := by
      rintro h cs xs B ⟨v, vs, B1, Bs, rfl, h1, h2, rfl⟩ b hb
      rcases List.mem_append.1 hb with hb | hb
      · rcases h1.2 with ⟨_, _, rfl⟩ | ⟨g, o, c, cur, ty, _, _, _, hg, rfl, _⟩
        · cases hb
        · simp at hb; rw [hb, hg]; simp
      · obtain ⟨B', hB', hb'⟩ := List.mem_flatten.1 hb
        obtain ⟨a, x, hw⟩ := h2.mem hB'
        exact r.dom hw b hb'
    frame := by
      rintro h h' cs xs B ⟨v, vs, B1, Bs, rfl, h1, h2, rfl⟩ hf
      refine ⟨v, vs, B1, Bs, rfl, ⟨h1.1, ?_⟩, h2.mono fun a b c hc hw => r.frame hw fun x hx => hf x (List.mem_append_right _ (List.mem_flatten.2 ⟨c, hc, hx⟩)), rfl⟩
      rcases h1.2 with ⟨rfl, rfl, rfl⟩ | ⟨g, o, c, cur, ty, rfl, k1, k2, hg, rfl, k3⟩
      · exact .inl ⟨rfl, rfl, rfl⟩
      · exact .inr ⟨g, o, c, cur, ty, rfl, k1, k2, by rw [hf g (by simp)]; exact hg, rfl, k3⟩ }

/-- all that is new -/
def Fresh (h : Hp) (B : List Nat) : Prop := B.Nodup ∧ ∀ b ∈ B, h b = none
theorem Froze.rows {h h' : Hp} {v : Value} {e sz : Nat} {nn : Bool} {vs : List (List Value)} (f : Froze h h' v e sz nn vs) : ∃ B, WRows sz h' v vs B ∧ Fresh h B := by
  rcases f.2 with ⟨rfl, rfl, _, rfl⟩ | ⟨g, cap, cur, rfl, hg, rfl, h1, h2, h3, h4⟩
  · exact ⟨[], ⟨by simp, .inl ⟨rfl, rfl, rfl⟩⟩, by simp [Fresh]⟩
  · refine ⟨[g], ⟨f.1, .inr ⟨g, 0, cap, cur, e, rfl, h1, by simpa [maxLen] using h2, Hp.set_same _ _ _, rfl, fun j u hj => ?_, by rw [h3]; omega⟩⟩, by simp, by simpa using hg⟩
    rw [← h4, List.getElem?_take] at hj
    split at hj
    · simpa using hj
    · cases hj
/-- a new slice whose rows are fresh data -/
theorem Froze.fresh {α : Type} {r : Wp α} {h0 h h' : Hp} {v : Value} {e : Nat} {nn : Bool} {vs : List (List Value)} {xs : List α} {Bs : List (List Nat)} (f : Froze h h' v e r.sz nn vs) (hr : F3 (r.W h) vs xs Bs)
    (hs : Sub h0 h) (hB : Fresh h0 Bs.flatten) : ∃ B, r.slice.W h' [v] xs B ∧ Fresh h0 B ∧ Sub h0 h' := by
  obtain ⟨B1, h1, h2⟩ := f.rows
  have hdom : ∀ b ∈ Bs.flatten, h b ≠ none := fun b hb => by
    obtain ⟨B', hB', hb'⟩ := List.mem_flatten.1 hb
    obtain ⟨a, x, hw⟩ := hr.mem hB'
    exact r.dom hw b hb'
  refine ⟨B1 ++ Bs.flatten, ⟨v, vs, B1, Bs, rfl, h1, hr.mono fun a b c hc hw => r.frame hw fun x hx => ?_, rfl⟩, ⟨?_, fun b hb => ?_⟩, hs.trans f.sub⟩
  · have := r.dom hw x hx
    cases ho : h x with
    | none => exact absurd ho this
    | some o => exact f.sub x o ho
  · rw [List.nodup_append]
    refine ⟨h2.1, hB.1, fun a ha b hb e => ?_⟩
    exact hdom b hb (by rw [← e]; exact h2.2 a ha)
  · rcases List.mem_append.1 hb with hb | hb
    · have h3 := h2.2 b hb
      cases ho : h0 b with
      | none => rfl
      | some o => rw [hs b o ho] at h3; cases h3
    · exact hB.2 b hb

/-- a copy under way: the rows laid so far, then zero rows -/
def fillR {α : Type} (L : List α) (n : Nat) (z : α) : List α := L ++ List.replicate (n - L.length) z
theorem fillR_length {α : Type} {L : List α} {n : Nat} {z : α} (h : L.length ≤ n) : (fillR L n z).length = n := by simp [fillR]; omega
theorem fillR_get {α : Type} {L : List α} {n k : Nat} {z : α} (hk : L.length = k) (h : k < n) : (fillR L n z)[k]? = some z := by
  subst hk
  unfold fillR
  rw [List.getElem?_append_right (Nat.le_refl _), Nat.sub_self, List.getElem?_replicate, if_pos (by omega)]
theorem fillR_set {α : Type} {L : List α} {n k : Nat} {z r : α} (hk : L.length = k) (h : k < n) : (fillR L n z).set k r = fillR (L ++ [r]) n z := by
  subst hk
  unfold fillR
  rw [List.set_append_right (h := Nat.le_refl _), Nat.sub_self]
  have : n - L.length = (n - (L ++ [r]).length) + 1 := by simp; omega
  rw [this, List.replicate_succ, List.set_cons_zero]
  simp
theorem fillR_all {α : Type} {L : List α} {n : Nat} {z : α} (h : L.length = n) : fillR L n z = L := by simp [fillR, h]
theorem fillR_nil {α : Type} {n : Nat} {z : α} : fillR [] n z = List.replicate n z := rfl

/-- a new datum: in blocks that were not there -/
def New {α : Type} (r : Wp α) (h h' : Hp) (cs : List Value) (x : α) : Prop := ∃ B, r.W h' cs x B ∧ Fresh h B ∧ Sub h h'
theorem New.sub {α : Type} {r : Wp α} {h h' : Hp} {cs : List Value} {x : α} (w : New r h h' cs x) : Sub h h' := let ⟨_, _, _, s⟩ := w; s
theorem New.r {α : Type} {r : Wp α} {h h' : Hp} {cs : List Value} {x : α} (w : New r h h' cs x) : r.R h' cs x := let ⟨_, hw, _, _⟩ := w; r.toR hw
theorem F3.ints {h : Hp} : ∀ (xs : List Int), (∀ x ∈ xs, In64 x) → F3 (Wp.int.W h) (xs.map fun x => [.int .i64 x]) xs (xs.map fun _ => [])
  | [], _ => trivial
  | x :: r, hx => ⟨⟨⟨rfl, hx x (List.mem_cons_self ..)⟩, rfl⟩, F3.ints r fun y hy => hx y (List.mem_cons_of_mem _ hy)⟩
theorem nil_flat {α : Type} (xs : List α) : (xs.map fun _ => ([] : List Nat)).flatten = [] := by induction xs <;> simp_all
theorem Ints.all {h : Hp} {v : Value} {xs : List Int} (e : Ints h v xs) : ∀ x ∈ xs, In64 x := by
  obtain ⟨a, n, c, vs, _, _, _, _, e2⟩ := e
  intro x hx
  obtain ⟨i, hi⟩ := List.getElem?_of_mem hx
  obtain ⟨cs, _, h2⟩ := e2.get hi
  exact h2.2
/-- the call's own slice of ints, handed on -/
theorem Froze.newInts {h h' : Hp} {v : Value} {e : Nat} {nn : Bool} {xs : List Int} (f : Froze h h' v e 1 nn (xs.map fun x => [.int .i64 x])) (hx : ∀ x ∈ xs, In64 x) : New Wp.int.slice h h' [v] xs :=
  Froze.fresh (r := Wp.int) (h0 := h) f (F3.ints xs hx) (Sub.refl _) (by rw [nil_flat]; simp [Fresh])

theorem Wp.sub {α : Type} {r : Wp α} {h h' : Hp} {cs : List Value} {x : α} {B : List Nat} (w : r.W h cs x B) (s : Sub h h') : r.W h' cs x B :=
  r.frame w fun b hb => by
    have := r.dom w b hb
    cases ho : h b with
    | none => exact absurd ho this
    | some o => exact s b o ho
theorem newer {α : Type} {r : Wp α} {h h' : Hp} {L : List (List Value)} {xs : List α} {Bs : List (List Nat)} (w : F3 (r.W h) L xs Bs) (s : Sub h h') : F3 (r.W h') L xs Bs :=
  w.mono fun _ _ _ _ hw => Wp.sub hw s
theorem fresh_snoc {α : Type} {r : Wp α} {h0 h : Hp} {L : List (List Value)} {xs : List α} {Bs : List (List Nat)} {B : List Nat} (w : F3 (r.W h) L xs Bs) (hs : Sub h0 h) (hf : Fresh h0 Bs.flatten) (hB : Fresh h B) :
    Fresh h0 (Bs ++ [B]).flatten := by
  have hdom : ∀ b ∈ Bs.flatten, h b ≠ none := fun b hb => by
    obtain ⟨B', hB', hb'⟩ := List.mem_flatten.1 hb
    obtain ⟨a, x, hw⟩ := w.mem hB'
    exact r.dom hw b hb'
  have he : (Bs ++ [B]).flatten = Bs.flatten ++ B := by simp
  rw [he]
  refine ⟨?_, fun b hb => ?_⟩
  · rw [List.nodup_append]
    exact ⟨hf.1, hB.1, fun a ha b hb e => hdom a ha (by rw [e]; exact hB.2 b hb)⟩
  · rcases List.mem_append.1 hb with hb | hb
    · exact hf.2 b hb
    · have h3 := hB.2 b hb
      cases ho : h0 b with
      | none => rfl
      | some o => rw [hs b o ho] at h3; cases h3
end Go.H
