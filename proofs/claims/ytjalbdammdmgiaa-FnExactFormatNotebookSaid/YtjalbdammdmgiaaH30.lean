/- Plain laws over the model: fresh data that grow and change in their place; cuts of slices. -/
import Derived.Test.YtjalbdammdmgiaaH28
namespace Go.H
set_option linter.unusedVariables false

theorem F2.take {α β : Type} {p : α → β → Prop} : ∀ {as : List α} {bs : List β} (k : Nat), F2 p as bs → F2 p (as.take k) (bs.take k)
  | [], [], k, _ => by simp [F2]
  | _ :: as, _ :: bs, 0, _ => by simp [F2]
  | _ :: as, _ :: bs, k + 1, h => ⟨h.1, F2.take k h.2⟩
  | [], _ :: _, _, h => h.elim
  | _ :: _, [], _, h => h.elim
theorem F2.drop {α β : Type} {p : α → β → Prop} : ∀ {as : List α} {bs : List β} (k : Nat), F2 p as bs → F2 p (as.drop k) (bs.drop k)
  | [], [], k, _ => by simp [F2]
  | _ :: as, _ :: bs, 0, h => h
  | _ :: as, _ :: bs, k + 1, h => F2.drop k h.2
  | [], _ :: _, _, h => h.elim
  | _ :: _, [], _, h => h.elim
theorem F2.append {α β : Type} {p : α → β → Prop} : ∀ {as : List α} {bs : List β} {as' : List α} {bs' : List β}, F2 p as bs → F2 p as' bs' → F2 p (as ++ as') (bs ++ bs')
  | [], [], _, _, _, h => h
  | _ :: as, _ :: bs, _, _, h, h' => ⟨h.1, F2.append h.2 h'⟩
  | [], _ :: _, _, _, h, _ => h.elim
  | _ :: _, [], _, _, h, _ => h.elim
theorem F3.take {α β γ : Type} {p : α → β → γ → Prop} : ∀ {as : List α} {bs : List β} {cs : List γ} (k : Nat), F3 p as bs cs → F3 p (as.take k) (bs.take k) (cs.take k)
  | [], [], [], k, _ => by simp [F3]
  | _ :: as, _ :: bs, _ :: cs, 0, _ => by simp [F3]
  | _ :: as, _ :: bs, _ :: cs, k + 1, h => ⟨h.1, F3.take k h.2⟩
  | [], [], _ :: _, _, h => h.elim
  | [], _ :: _, _, _, h => h.elim
  | _ :: _, [], _, _, h => h.elim
  | _ :: _, _ :: _, [], _, h => h.elim
theorem F3.append {α β γ : Type} {p : α → β → γ → Prop} : ∀ {as : List α} {bs : List β} {cs : List γ} {as' : List α} {bs' : List β} {cs' : List γ}, F3 p as bs cs → F3 p as' bs' cs' → F3 p (as ++ as') (bs ++ bs') (cs ++ cs')
  | [], [], [], _, _, _, _, h => h
  | _ :: as, _ :: bs, _ :: cs, _, _, _, h, h' => ⟨h.1, F3.append h.2 h'⟩
  | [], [], _ :: _, _, _, _, h, _ => h.elim
  | [], _ :: _, _, _, _, _, h, _ => h.elim
  | _ :: _, [], _, _, _, _, h, _ => h.elim
  | _ :: _, _ :: _, [], _, _, _, h, _ => h.elim
theorem F3.set {α β γ : Type} {p : α → β → γ → Prop} {a : α} {b : β} {c : γ} (hab : p a b c) : ∀ {as : List α} {bs : List β} {cs : List γ} (i : Nat), F3 p as bs cs → F3 p (as.set i a) (bs.set i b) (cs.set i c)
  | [], [], [], _, _ => trivial
  | _ :: as, _ :: bs, _ :: cs, 0, h => ⟨hab, h.2⟩
  | _ :: as, _ :: bs, _ :: cs, i + 1, h => ⟨h.1, F3.set hab i h.2⟩
  | [], [], _ :: _, _, h => h.elim
  | [], _ :: _, _, _, h => h.elim
  | _ :: _, [], _, _, h => h.elim
  | _ :: _, _ :: _, [], _, h => h.elim

/-- a cut of a slice that is looked at -/
theorem Sl.cut {α : Type} {r : Rp α} {h : Hp} {a : Option Addr} {n c : Nat} {xs : List α} (e : Sl r h (.slice a n c) xs) :
    ∃ vs, SlE h r.sz (.slice a n c) vs ∧ ∀ v l m, m ≤ xs.length → SlE h r.sz v ((vs.take m).drop l) → ∃ a' n' c', v = .slice a' n' c' ∧ Sl r h (.slice a' n' c') ((xs.take m).drop l) := by
  obtain ⟨a1, n1, c1, vs, e1, rfl, e3, e4, e5⟩ := e
  cases e1
  refine ⟨vs, e4, fun v l m hm hv => ?_⟩
  obtain ⟨k1, a', n', c', rfl, k2, k3, k4⟩ := hv
  have hl := e5.length
  refine ⟨a', n', c', rfl, a', n', c', _, rfl, ?_, ?_, ⟨k1, a', n', c', rfl, k2, k3, k4⟩, (e5.take m).drop l⟩
  · rw [k2]; simp [hl]
  · rw [k2]; simp; omega
theorem CutV.take {sz m g o n c : Nat} {v : Value} (h : CutV sz (.slice (some ⟨g, o, none⟩) n c) 0 m v) : v = .slice (some ⟨g, o, none⟩) m c := by
  rw [h _ _ _ rfl]
  have : ((some (⟨g, o, none⟩ : Addr)).map (·.add (0 * sz))) = some ⟨g, o, none⟩ := by simp [Addr.add]
  rw [this]
  simp

theorem New.mono {α : Type} {r : Wp α} {h0 h1 h2 : Hp} {cs : List Value} {x : α} (w : New r h0 h1 cs x) (s : Sub h1 h2) : New r h0 h2 cs x := by
  obtain ⟨B, w1, f, s1⟩ := w
  exact ⟨B, Wp.sub w1 s, f, s1.trans s⟩
/-- fresh behind more -/
theorem New.from {α : Type} {r : Wp α} {h0 h1 h2 : Hp} {cs : List Value} {x : α} (w : New r h1 h2 cs x) (s : Sub h0 h1) : New r h0 h2 cs x := by
  obtain ⟨B, w1, f, s1⟩ := w
  refine ⟨B, w1, ⟨f.1, fun b hb => ?_⟩, s.trans s1⟩
  have := f.2 b hb
  cases ho : h0 b with
  | none => rfl
  | some o => rw [s b o ho] at this; cases this

theorem flat_dom {α : Type} {r : Wp α} {h : Hp} {vs : List (List Value)} {xs : List α} {Bs : List (List Nat)} (w : F3 (r.W h) vs xs Bs) : ∀ b ∈ Bs.flatten, h b ≠ none := fun b hb => by
  obtain ⟨B', hB', hb'⟩ := List.mem_flatten.1 hb
  obtain ⟨a, x, hw⟩ := w.mem hB'
  exact r.dom hw b hb'
theorem flat_frame {α : Type} {r : Wp α} {h h' : Hp} {vs : List (List Value)} {xs : List α} {Bs : List (List Nat)} (w : F3 (r.W h) vs xs Bs) (hf : ∀ b ∈ Bs.flatten, h' b = h b) : F3 (r.W h') vs xs Bs :=
  w.mono fun a b c hc hw => r.frame hw fun x hx => hf x (List.mem_flatten.2 ⟨c, hc, hx⟩)
theorem flat_rows {α : Type} {r : Wp α} {h : Hp} {vs : List (List Value)} {xs : List α} {Bs : List (List Nat)} (w : F3 (r.W h) vs xs Bs) : ∀ x ∈ vs, x.length = r.sz ∧ ∀ v ∈ x, v.oneCell' = true := by
  intro v hv
  obtain ⟨i, hi⟩ := List.getElem?_of_mem hv
  have hl := w.lens
  have hlt : i < xs.length := by rw [← hl.1]; exact (List.getElem?_eq_some_iff.1 hi).1
  obtain ⟨a, c, g1, g2, g3⟩ := w.get (List.getElem?_eq_getElem hlt)
  rw [hi] at g1; cases g1
  exact ⟨r.len (r.toR g3), r.one (r.toR g3)⟩

/-- APPEND to a fresh slice that lies in memory -/
theorem New.app {α : Type} {r : Wp α} {h0 h1 h : Hp} {g o n c : Nat} {xs : List α} (w : New r.slice h0 h1 [.slice (some ⟨g, o, none⟩) n c] xs) (s : Sub h1 h) :
    ∃ vs, RowX h r.sz (.slice (some ⟨g, o, none⟩) n c) vs ∧ vs.length = xs.length ∧ ∀ (zs : List (List Value)) (ys : List α) (Bs : List (List Nat)) (h' : Hp) (v' : Value), F3 (r.W h) zs ys Bs → Fresh h1 Bs.flatten →
      AppX h h' r.sz g v' (vs ++ zs) → New r.slice h0 h' [v'] (xs ++ ys) ∧ ∃ g' o' n' c', v' = .slice (some ⟨g', o', none⟩) n' c' := by
  obtain ⟨B, ⟨v, vs, B1, Bs0, e1, ⟨hall, hrow⟩, hF, rfl⟩, hB, hs⟩ := w
  cases e1
  rcases hrow with ⟨e, _⟩ | ⟨g0, o0, c0, cur, ty, e, k1, k2, k3, rfl, k4, k5⟩
  · cases e
  cases e
  have hl := hF.lens
  have hg := s g _ k3
  have hF1 : F3 (r.W h) vs xs Bs0 := newer hF s
  refine ⟨vs, ⟨hall, g, o, c, cur, ty, rfl, k1, by simpa [maxLen] using k2, k5, hg, k4⟩, hl.1, ?_⟩
  rintro zs ys Bs h' v' hz hfz ⟨⟨hall', g1, o1, c1, cur1, ty1, rfl, q1, q2, q3, q4, q5⟩, g', o', n', c', e', hgg, hkeep⟩
  cases e'
  have hB' := hB
  rw [Fresh, List.nodup_append] at hB'
  obtain ⟨⟨_, hnd, hdis⟩, hfr⟩ := hB'
  have hg0 : ∀ b ∈ Bs0.flatten, b ≠ g := fun b hb e => hdis g (List.mem_singleton.2 rfl) b hb e.symm
  have hne0 : ∀ b ∈ Bs0.flatten, b ≠ g1 := fun b hb e => by
    rcases hgg with rfl | hn
    · exact hg0 b hb e
    · exact flat_dom hF1 b hb (by rw [e]; exact hn)
  have hne1 : ∀ b ∈ Bs.flatten, b ≠ g1 := fun b hb e => by
    rcases hgg with rfl | hn
    · have := hfz.2 b hb
      rw [e, k3] at this; cases this
    · exact flat_dom hz b hb (by rw [e]; exact hn)
  have h0g : h0 g1 = none := by
    rcases hgg with rfl | hn
    · exact hfr _ (List.mem_append_left _ (List.mem_singleton.2 rfl))
    · cases ho : h0 g1 with
      | none => rfl
      | some x => rw [s _ _ (hs _ _ ho)] at hn; cases hn
  have hdis2 : ∀ a ∈ Bs0.flatten, ∀ b ∈ Bs.flatten, a ≠ b := fun a ha b hb e => by
    have h2 := hfz.2 b hb
    exact flat_dom hF a ha (by rw [e]; exact h2)
  refine ⟨⟨[g1] ++ (Bs0 ++ Bs).flatten, ⟨_, vs ++ zs, [g1], Bs0 ++ Bs, rfl, ⟨hall', .inr ⟨g1, o1, c1, cur1, ty1, rfl, q1, by simpa [maxLen] using q2, q4, rfl, q5, q3⟩⟩, ?_, rfl⟩, ⟨?_, ?_⟩, ?_⟩, g1, o1, _, c1, rfl⟩
  · exact (flat_frame hF1 fun b hb => hkeep b (hne0 b hb)).append (flat_frame hz fun b hb => hkeep b (hne1 b hb))
  · rw [List.flatten_append, List.nodup_append, List.nodup_append]
    refine ⟨by simp, ⟨hnd, hfz.1, hdis2⟩, fun a ha b hb => ?_⟩
    simp only [List.mem_singleton] at ha
    subst ha
    rcases List.mem_append.1 hb with hb | hb
    · exact fun e => hne0 b hb e.symm
    · exact fun e => hne1 b hb e.symm
  · intro b hb
    rcases List.mem_append.1 hb with hb | hb
    · simp only [List.mem_singleton] at hb; rw [hb]; exact h0g
    · rw [List.flatten_append] at hb
      rcases List.mem_append.1 hb with hb | hb
      · exact hfr b (List.mem_append_right _ hb)
      · have h2 := hfz.2 b hb
        cases ho : h0 b with
        | none => rfl
        | some x => rw [hs _ _ ho] at h2; cases h2
  · intro b x hx
    rw [hkeep b (fun e => by rw [e, h0g] at hx; cases hx)]
    exact s _ _ (hs _ _ hx)

theorem flat_setN {sz : Nat} : ∀ (vs : List (List Value)) (i : Nat) (new : List Value) (j : Nat), (∀ x ∈ vs, x.length = sz) → i < vs.length → new.length = sz →
    (vs.set i new).flatten[j]? = if i * sz ≤ j ∧ j < i * sz + sz then new[j - i * sz]? else vs.flatten[j]?
  | x :: r, 0, new, j, hall, _, hn => by
    have hx := hall x (List.mem_cons_self ..)
    rw [List.set_cons_zero, List.flatten_cons, List.flatten_cons, Nat.zero_mul]
    by_cases hj : j < sz
    · rw [if_pos (by omega), List.getElem?_append_left (by omega)]; simp
    · rw [if_neg (by omega), List.getElem?_append_right (by omega), List.getElem?_append_right (by omega), hn, hx]
  | x :: r, i + 1, new, j, hall, hi, hn => by
    have hx := hall x (List.mem_cons_self ..)
    rw [List.set_cons_succ, List.flatten_cons, List.flatten_cons, Nat.add_mul, Nat.one_mul]
    by_cases hj : j < sz
    · rw [if_neg (by omega), List.getElem?_append_left (by omega), List.getElem?_append_left (by omega)]
    · rw [List.getElem?_append_right (by omega), List.getElem?_append_right (by omega), hx, flat_setN r i new (j - sz) (fun y hy => hall y (List.mem_cons_of_mem _ hy)) (by simpa using hi) hn]
      by_cases hc : i * sz ≤ j - sz ∧ j - sz < i * sz + sz
      · rw [if_pos hc, if_pos (by omega), show j - sz - i * sz = j - (i * sz + sz) by omega]
      · rw [if_neg hc, if_neg (by omega)]
  | [], i, new, j, _, hi, _ => by simp at hi
theorem nodup_set {By : List Nat} (hb : By.Nodup) : ∀ (Bs : List (List Nat)) (i : Nat), Bs.flatten.Nodup → (∀ b ∈ By, b ∉ Bs.flatten) → (Bs.set i By).flatten.Nodup ∧ ∀ b ∈ (Bs.set i By).flatten, b ∈ Bs.flatten ∨ b ∈ By
  | [], i, h, _ => by simp
  | B :: Bs, 0, h, hd => by
    rw [List.flatten_cons, List.nodup_append] at h
    refine ⟨?_, fun b hb' => ?_⟩
    · rw [List.set_cons_zero, List.flatten_cons, List.nodup_append]
      refine ⟨hb, h.2.1, fun a ha b hb' e => hd a ha ?_⟩
      rw [List.flatten_cons, e]; exact List.mem_append_right _ hb'
    · rw [List.set_cons_zero, List.flatten_cons] at hb'
      rcases List.mem_append.1 hb' with h' | h'
      · exact .inr h'
      · exact .inl (by rw [List.flatten_cons]; exact List.mem_append_right _ h')
  | B :: Bs, i + 1, h, hd => by
    rw [List.flatten_cons, List.nodup_append] at h
    obtain ⟨h1, h2⟩ := nodup_set hb Bs i h.2.1 (fun b hb' hm => hd b hb' (by rw [List.flatten_cons]; exact List.mem_append_right _ hm))
    refine ⟨?_, fun b hb' => ?_⟩
    · rw [List.set_cons_succ, List.flatten_cons, List.nodup_append]
      refine ⟨h.1, h1, fun a ha b hb' e => ?_⟩
      rcases h2 b hb' with h' | h'
      · exact h.2.2 a ha b h' e
      · exact hd b h' (by rw [List.flatten_cons, ← e]; exact List.mem_append_left _ ha)
    · rw [List.set_cons_succ, List.flatten_cons] at hb'
      rcases List.mem_append.1 hb' with h' | h'
      · exact .inl (by rw [List.flatten_cons]; exact List.mem_append_left _ h')
      · rcases h2 b h' with h' | h'
        · exact .inl (by rw [List.flatten_cons]; exact List.mem_append_right _ h')
        · exact .inr h'

/-- A WHOLE ELEMENT of a fresh slice is written -/
theorem New.put {α : Type} {r : Wp α} {h0 h1 h : Hp} {g o n c : Nat} {xs : List α} (w : New r.slice h0 h1 [.slice (some ⟨g, o, none⟩) n c] xs) (s : Sub h1 h) {i : Nat} (hi : i < xs.length) {new : List Value} {y : α} {By : List Nat}
    (hy : r.W h new y By) (hf : Fresh h1 By) {K : Hp → Prop} {off : Nat} (he : off = i * r.sz) {idx : Int} (hidx : 0 ≤ idx)
    (hk : ∀ h', New r.slice h0 h' [.slice (some ⟨g, o, none⟩) n c] (xs.set i y) → (∀ b, b ≠ g → h' b = h b) → h1 g ≠ none → K h') : helStoreN h (.slice (some ⟨g, o, none⟩) n c) idx off new K := by
  subst he
  obtain ⟨B, ⟨v, vs, B1, Bs0, e1, ⟨hall, hrow⟩, hF, rfl⟩, hB, hs⟩ := w
  cases e1
  rcases hrow with ⟨e, _⟩ | ⟨g0, o0, c0, cur, ty, e, k1, k2, k3, rfl, k4, k5⟩
  · cases e
  cases e
  have hl := hF.lens
  have hg := s g _ k3
  have hF1 : F3 (r.W h) vs xs Bs0 := newer hF s
  have hnl : new.length = r.sz := r.len (r.toR hy)
  have hB' := hB
  rw [Fresh, List.nodup_append] at hB'
  obtain ⟨⟨_, hnd, hdis⟩, hfr⟩ := hB'
  have hg0 : ∀ b ∈ Bs0.flatten, b ≠ g := fun b hb e => hdis g (List.mem_singleton.2 rfl) b hb e.symm
  have hgy : ∀ b ∈ By, b ≠ g := fun b hb e => by have := hf.2 b hb; rw [e, k3] at this; cases this
  have hfit : o + i * r.sz + new.length ≤ cur.size := by
    have : (i + 1) * r.sz ≤ c * r.sz := Nat.mul_le_mul_right _ (by omega)
    rw [Nat.add_mul, Nat.one_mul] at this
    omega
  have hdy : ∀ b ∈ By, b ∉ Bs0.flatten := fun b hb hm => flat_dom hF b hm (hf.2 b hb)
  obtain ⟨n1, n2⟩ := nodup_set hf.1 Bs0 i hnd hdy
  refine ⟨g, o, _, c, cur, ty, ⟨rfl, hidx, hg, hfit⟩, hk _ ?_ (fun b hb => Hp.set_other _ _ hb) (by rw [k3]; simp)⟩
  rw [splice_eq]
  refine ⟨[g] ++ (Bs0.set i By).flatten, ⟨_, vs.set i new, [g], Bs0.set i By, rfl, ⟨?_, .inr ⟨g, o, c, _, ty, by simp, by simpa using k1, k2, Hp.set_same _ _ _, rfl, fun j u hj => ?_, by simpa [length_spliceV] using k5⟩⟩, ?_, rfl⟩, ⟨?_, ?_⟩, ?_⟩
  · intro x hx
    rcases List.mem_or_eq_of_mem_set hx with hx | rfl
    · exact hall x hx
    · exact ⟨hnl, r.one (r.toR hy)⟩
  · rw [flat_setN vs i new j (fun x hx => (hall x hx).1) (by omega) hnl] at hj
    rw [List.getElem?_toArray, spliceV_get _ _ _ _ (by simpa using hfit)]
    by_cases hc : i * r.sz ≤ j ∧ j < i * r.sz + r.sz
    · rw [if_pos hc] at hj
      rw [if_pos (by omega), show o + j - (o + i * r.sz) = j - i * r.sz by omega]
      exact hj
    · rw [if_neg hc] at hj
      rw [if_neg (by omega), Array.getElem?_toList]
      exact k4 j u hj
  · refine F3.set (r.frame hy fun b hb => Hp.set_other _ _ (hgy b hb)) i (flat_frame hF1 fun b hb => Hp.set_other _ _ (hg0 b hb))
  · rw [List.nodup_append]
    refine ⟨by simp, n1, fun a ha b hb => ?_⟩
    simp only [List.mem_singleton] at ha
    subst ha
    rcases n2 b hb with hb | hb
    · exact fun e => hg0 b hb e.symm
    · exact fun e => hgy b hb e.symm
  · intro b hb
    rcases List.mem_append.1 hb with hb | hb
    · exact hfr b (List.mem_append_left _ hb)
    · rcases n2 b hb with hb | hb
      · exact hfr b (List.mem_append_right _ hb)
      · have h2 := hf.2 b hb
        cases ho : h0 b with
        | none => rfl
        | some x => rw [hs _ _ ho] at h2; cases h2
  · intro b x hx
    have hbg : b ≠ g := fun e => by have := hfr g (List.mem_append_left _ (List.mem_singleton.2 rfl)); rw [e, this] at hx; cases hx
    rw [Hp.set_other _ _ hbg]
    exact s _ _ (hs _ _ hx)

theorem flat_takeSub : ∀ (Bs : List (List Nat)) (k : Nat), Bs.flatten.Nodup → (Bs.take k).flatten.Nodup ∧ ∀ b ∈ (Bs.take k).flatten, b ∈ Bs.flatten := fun Bs k h => by
  have h2 : Bs.flatten = (Bs.take k).flatten ++ (Bs.drop k).flatten := by rw [← List.flatten_append, List.take_append_drop]
  rw [h2, List.nodup_append] at h
  exact ⟨h.1, fun b hb => by rw [h2]; exact List.mem_append_left _ hb⟩
/-- the beginning of a fresh slice -/
theorem New.take {α : Type} {r : Wp α} {h0 h1 : Hp} {g o n c : Nat} {xs : List α} (w : New r.slice h0 h1 [.slice (some ⟨g, o, none⟩) n c] xs) {k : Nat} (hk : k ≤ xs.length) : New r.slice h0 h1 [.slice (some ⟨g, o, none⟩) k c] (xs.take k) := by
  obtain ⟨B, ⟨v, vs, B1, Bs0, e1, ⟨hall, hrow⟩, hF, rfl⟩, hB, hs⟩ := w
  cases e1
  rcases hrow with ⟨e, _⟩ | ⟨g0, o0, c0, cur, ty, e, k1, k2, k3, rfl, k4, k5⟩
  · cases e
  cases e
  have hl := hF.lens
  have hB' := hB
  rw [Fresh, List.nodup_append] at hB'
  obtain ⟨⟨_, hnd, hdis⟩, hfr⟩ := hB'
  obtain ⟨t1, t2⟩ := flat_takeSub Bs0 k hnd
  have hvl : (vs.take k).length = k := by simp; omega
  refine ⟨[g] ++ (Bs0.take k).flatten, ⟨_, vs.take k, [g], Bs0.take k, rfl, ⟨fun x hx => hall x (List.mem_of_mem_take hx), .inr ⟨g, o, c, cur, ty, by rw [hvl], by omega, k2, k3, rfl, fun j u hj => k4 j u ?_, k5⟩⟩, hF.take k, rfl⟩, ⟨?_, fun b hb => ?_⟩, hs⟩
  · have : vs.flatten = (vs.take k).flatten ++ (vs.drop k).flatten := by rw [← List.flatten_append, List.take_append_drop]
    rw [this, List.getElem?_append_left (List.getElem?_eq_some_iff.1 hj).1]
    exact hj
  · rw [List.nodup_append]
    exact ⟨by simp, t1, fun a ha b hb => hdis a ha b (t2 b hb)⟩
  · rcases List.mem_append.1 hb with hb | hb
    · exact hfr b (List.mem_append_left _ hb)
    · exact hfr b (List.mem_append_right _ (t2 b hb))
end Go.H
