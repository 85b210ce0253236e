/- Plain laws over the model: append, make, literals and cuts of the call's own slices. -/
import Derived.Test.YtjalbdammdmgiaaH8
namespace Go.H
set_option linter.unusedVariables false
section
variable {P : Program} {h0 : Hp} {w0 : World} {be : Nat → Nat} {oe : Nat → Value} {H : Hp} {st : St} {h : Hp} {a : Act} {w : World} {o : Oper} {K : AV → St → Hp → Prop} {Q : Exit → Act → World → Prop}

theorem flat_len {sz : Nat} : ∀ (xs : List (List Value)), (∀ x ∈ xs, x.length = sz) → xs.flatten.length = xs.length * sz
  | [], _ => by simp
  | x :: xs, hl => by
    have := flat_len xs (fun y hy => hl y (List.mem_cons_of_mem _ hy))
    simp only [List.flatten_cons, List.length_append, hl x (List.mem_cons_self ..), this, List.length_cons, Nat.add_mul, Nat.one_mul]
    omega

/-- append's second operand, in memory -/
def SrcOk (w : World) (y : Value) (sz : Nat) (ys : List (List Value)) : Prop :=
  (∀ x ∈ ys, x.length = sz ∧ ∀ v ∈ x, v.oneCell' = true) ∧
  ((∃ ad c, y = .slice (some ad) ys.length c ∧ ∀ j u, ys.flatten[j]? = some u → w.cell? (ad.add j) = some u) ∨ (∃ c, y = .slice none 0 c ∧ ys = []))

theorem Moved.newD {H : Hp} {w : World} (hv : Vis H w) (x : Obj) (hz : noFz x = true) : Moved H w (H.set w.heap.size x) (w.drew.alloc x) :=
  (Moved.drawn hv (w.drawn + 1)).trans (Moved.new (w := w.drew) hv x hz)

theorem none_top {H : Hp} {w : World} (hv : Vis H w) : H w.heap.size = none := by
  cases hc : H w.heap.size with
  | none => rfl
  | some x => exact absurd (hv.lt (b := w.heap.size) (by simp [hc])) (Nat.lt_irrefl _)

theorem ownH_new {h H : Hp} (hs : ∀ b o, h b = some o → H b = some o) {g : Nat} (hg : H g = none) {e sz cap : Nat} {nn : Bool} {xs : List (List Value)} {cur : Array Value}
    (h1 : ∀ x ∈ xs, x.length = sz ∧ ∀ v ∈ x, v.oneCell' = true) (h2 : xs.length ≤ cap) (h3 : cap ≤ maxLen) (h4 : cur.size = cap * sz) (h5 : cur.toList.take (xs.length * sz) = xs.flatten) :
    OwnH h (H.set g (.cells cur e (0, 0))) (.slice (some ⟨g, 0, none⟩) xs.length cap) e sz nn xs := by
  refine ⟨h1, .inr ⟨g, cap, cur, rfl, ?_, by simp [Hp.set], h2, h3, h4, h5⟩⟩
  cases hc : h g with
  | none => rfl
  | some o => rw [hs g o hc] at hg; cases hg

theorem append_core {t e ty sz by_ : Nat} {i : TypeInfo} {z : Value} (ht : P.underlying t = some (.slice e)) (hi : P.info? e = some i) (hz : i.zero = some z) (hsz : i.size = sz) (hp : 0 < sz)
    (hby : i.bytes = by_) (hb1 : 0 < by_) (hzs : z.cells.size = sz) {v : Value} {nn : Bool} {xs : List (List Value)} (ho : OwnH h H v e sz nn xs) (hv : Vis H w) (hsub : ∀ b o, h b = some o → H b = some o)
    {y : Value} {ys : List (List Value)} (hy : SrcOk w y sz ys) (hr : roomB (xs.length + ys.length) by_) :
    ∃ v' w' H', (Builtin.append_ #[t, t] ty #[v, y]).run P w = .ok v' w' ∧ Moved H w H' w' ∧ OwnH h H' v' e sz (nn || hasElems ys) (xs ++ ys) ∧
      (∀ b, v.ownBlock ≠ some b → H b ≠ none → H' b = H b) ∧ (∀ g, v'.ownBlock = some g → v.ownBlock = some g ∨ H g = none) ∧ (ys = [] → v' = v) := by
  subst hsz
  subst hby
  have hlen : xs.length + ys.length ≤ 140737488355328 := Nat.le_trans (Nat.le_mul_of_pos_right _ hb1) hr
  have hl63 : ((xs.length + ys.length : Nat) : Int) ≤ 9223372036854775807 := by omega
  have hall : ∀ x ∈ xs ++ ys, x.length = i.size ∧ ∀ v ∈ x, v.oneCell' = true := fun x hx => by
    rcases List.mem_append.1 hx with hx | hx
    · exact ho.1 x hx
    · exact hy.1 x hx
  have hfx := flat_len xs (fun x hx => (ho.1 x hx).1)
  have hfy := flat_len ys (fun x hx => (hy.1 x hx).1)
  have hone : ∀ u ∈ ys.flatten, u.oneCell' = true := fun u hu => by
    obtain ⟨x, hx, hux⟩ := List.mem_flatten.1 hu
    exact (hy.1 x hx).2 u hux
  have hcap : ∀ old, grownCap w (xs.length + ys.length) old e ≤ maxLen := fun old => grownCap_le_maxLen w _ old e (by unfold maxLen; omega)
  have grown : ∀ old, OwnH h (H.set w.heap.size (.cells (xs.flatten.toArray ++ ys.flatten.toArray ++ Builtin.zeroCells z.cells (grownCap w (xs.length + ys.length) old e - (xs.length + ys.length))) e (0, 0)))
      (.slice (some ⟨w.heap.size, 0, none⟩) (xs ++ ys).length (grownCap w (xs.length + ys.length) old e)) e i.size (nn || hasElems ys) (xs ++ ys) := fun old => by
    have hge := grownCap_ge w (xs.length + ys.length) old e
    refine ownH_new hsub (none_top hv) hall (by simpa using hge) (hcap old) ?_ ?_
    · simp only [Array.size_append, List.size_toArray, hfx, hfy, size_zeroCells, hzs, ← Nat.add_mul]
      congr 1; omega
    · simp only [Array.toList_append, List.flatten_append, List.append_assoc, List.length_append]
      rw [← List.append_assoc, List.take_append_of_le_length (by simp [hfx, hfy, Nat.add_mul]), List.take_of_length_le (by simp [hfx, hfy, Nat.add_mul])]
  have hsame : ys = [] → OwnH h H v e i.size (nn || hasElems ys) (xs ++ ys) := fun hn => by subst hn; simpa [hasElems] using ho
  have keepN : ∀ (x : Obj) b, v.ownBlock ≠ some b → H b ≠ none → (H.set w.heap.size x) b = H b := fun x b _ hb => Hp.set_other _ _ (fun e => by subst e; exact hb (none_top hv))
  rcases hy.2 with ⟨ad, c, rfl, hc⟩ | ⟨c, rfl, hys⟩
  · rcases ho.2 with ⟨rfl, rfl, rfl⟩ | ⟨g, cap, cur, rfl, hg1, hg2, hnc, hcm, hcs, htake⟩
    · by_cases hm : ys.length = 0
      · have hys : ys = [] := List.eq_nil_of_length_eq_zero hm
        refine ⟨_, w, H, ?_, Moved.refl hv, hsame hys, fun _ _ _ => rfl, fun g hg => .inl hg, fun _ => rfl⟩
        simp [Builtin.append_, run_underlying ht, sizeOf, typeInfo, hi, Builtin.lenOf, Builtin.firstCells, loadCells, loadCellsFrom, hm]
      · have hrun := run_append_nil (P := P) w t ty e i z ht hi hz ad ys.length c ys.flatten hfy hc (by omega) (by simp at hlen; omega) (by have := hr; unfold roomB at this; simp at this; omega)
        have g0 := grown 0
        simp only [List.length_nil, Nat.zero_add, List.nil_append, List.flatten_nil] at g0
        simp only [Array.empty_append] at g0
        refine ⟨_, _, _, hrun, Moved.newD hv _ rfl, by simpa using g0, keepN _, fun g hg => .inr ?_, fun e => by rw [e] at hm; simp at hm⟩
        simp [Value.ownBlock] at hg
        rw [← hg]; exact none_top hv
    · have hold : ∀ j u, xs.flatten[j]? = some u → w.cell? ((⟨g, 0, none⟩ : Addr).add j) = some u := fun j u hj => by
        rw [add_plain, Nat.zero_add]
        refine cell_vis hv rfl ?_
        exact ho.cells rfl j u hj
      by_cases hroom : xs.length + ys.length ≤ cap
      · have hw := hv _ _ hg2
        have hfit : xs.length * i.size + ys.flatten.length ≤ cur.size := by rw [hfy, hcs, ← Nat.add_mul]; exact Nat.mul_le_mul_right _ hroom
        have hrun := run_append_room (P := P) w t ty e i ht hi g xs.length cap cur hw ad ys.length c ys.flatten hfy hc hone hroom hfit
        refine ⟨_, _, H.set g (.cells (cur.toList.take (xs.length * i.size) ++ ys.flatten ++ cur.toList.drop (xs.length * i.size + ys.flatten.length)).toArray e (0, 0)), hrun,
          Moved.upd hv hg2 (fun _ => rfl) rfl rfl rfl (by simp) (setRow_heap w g cur _ e _ hw) (fun k hk => setRow_other w g k _ hk), ?_, ?_, fun g' hg' => .inl hg', fun hn => by simp [hn]⟩
        · refine ⟨hall, .inr ⟨g, cap, _, by simp, hg1, Hp.set_same _ _ _, by simpa using hroom, hcm, ?_, ?_⟩⟩
          · simp only [List.size_toArray, List.length_append, List.length_take, List.length_drop, Array.length_toList]
            omega
          · rw [htake]
            simp only [List.flatten_append, List.length_append]
            rw [List.take_append_of_le_length (by simp [hfx, hfy, Nat.add_mul]), List.take_of_length_le (by simp [hfx, hfy, Nat.add_mul])]
        · intro b hb _
          exact Hp.set_other _ _ (fun e => hb (by simp [Value.ownBlock, e]))
      · have hrun := run_append_grow (P := P) w t ty e i z ht hi hz ⟨g, 0, none⟩ xs.length cap xs.flatten hfx hold ad ys.length c ys.flatten hfy hc (by omega) hl63 (growslice_fits (by omega) hr)
        have g0 := grown cap
        refine ⟨_, _, _, hrun, Moved.newD hv _ rfl, by simpa using g0, keepN _, fun g' hg' => .inr ?_, fun hn => by subst hn; simp at hroom; omega⟩
        simp [Value.ownBlock] at hg'
        rw [← hg']; exact none_top hv
  · refine ⟨v, w, H, ?_, Moved.refl hv, hsame hys, fun _ _ _ => rfl, fun g hg => .inl hg, fun _ => rfl⟩
    rcases ho.2 with ⟨rfl, _⟩ | ⟨g, cap, cur, rfl, _, _, hnc, _⟩
    · simp [Builtin.append_, run_underlying ht, sizeOf, typeInfo, hi, Builtin.lenOf, Builtin.firstCells]
    · simp [Builtin.append_, run_underlying ht, sizeOf, typeInfo, hi, Builtin.lenOf, Builtin.firstCells, hnc, storeCells]

theorem setCells_heap (b : Nat) : ∀ (vs : List Value) (o : Nat) (w : World) (cur : Array Value) (ty : TypeId) (fz : Nat × Nat), w.heap[b]? = some (.cells cur ty fz) → (w.setCells b o vs).heap[b]? = some (.cells (spliceV cur.toList o vs).toArray ty fz)
  | [], o, w, cur, ty, fz, h => by simpa [World.setCells, spliceV] using h
  | v :: r, o, w, cur, ty, fz, h => by
    have h2 : (w.setCell ⟨b, o, none⟩ v).heap[b]? = some (.cells (cur.setIfInBounds o v) ty fz) := by simp [World.setCell, Array.getElem?_modify, h]
    have := setCells_heap b r (o + 1) _ _ _ _ h2
    simpa [World.setCells, spliceV] using this
theorem setCells_other (b : Nat) : ∀ (vs : List Value) (o : Nat) (w : World) (k : Nat), k ≠ b → (w.setCells b o vs).heap[k]? = w.heap[k]?
  | [], o, w, k, h => rfl
  | v :: r, o, w, k, h => by
    rw [World.setCells, setCells_other b r (o + 1) _ k h]
    simp only [World.setCell, Array.getElem?_modify]
    rw [if_neg (fun e => h e.symm)]
theorem setCells_same (b : Nat) : ∀ (vs : List Value) (o : Nat) (w : World), (w.setCells b o vs).os = w.os ∧ (w.setCells b o vs).tape = w.tape ∧ (w.setCells b o vs).output = w.output ∧ (w.setCells b o vs).heap.size = w.heap.size
  | [], o, w => ⟨rfl, rfl, rfl, rfl⟩
  | v :: r, o, w => by
    obtain ⟨h1, h2, h3, h4⟩ := setCells_same b r (o + 1) (w.setCell ⟨b, o, none⟩ v)
    exact ⟨h1, h2, h3, by rw [World.setCells, h4]; simp [World.setCell]⟩
theorem spliceV_get : ∀ (ns vs : List Value) (off j : Nat), off + ns.length ≤ vs.length → (spliceV vs off ns)[j]? = if off ≤ j ∧ j < off + ns.length then ns[j - off]? else vs[j]?
  | [], vs, off, j, h => by
    simp only [spliceV, List.length_nil, Nat.add_zero]
    rw [if_neg (by omega)]
  | n :: ns, vs, off, j, h => by
    simp only [List.length_cons] at h
    rw [spliceV, spliceV_get ns _ (off + 1) j (by simp; omega)]
    simp only [List.length_cons]
    by_cases e : j = off
    · subst e
      rw [if_neg (by omega), if_pos (by omega)]
      simp [show j < vs.length by omega]
    · by_cases h1 : off + 1 ≤ j ∧ j < off + 1 + ns.length
      · rw [if_pos h1, if_pos (by omega), show j - off = (j - (off + 1)) + 1 by omega, List.getElem?_cons_succ]
      · rw [if_neg h1, if_neg (by omega), List.getElem?_set, if_neg (fun h => e h.symm)]

/-- append to a slice that is looked at and open to writing -/
theorem appendX_core {t e ty sz by_ : Nat} {i : TypeInfo} {z : Value} (ht : P.underlying t = some (.slice e)) (hi : P.info? e = some i) (hz : i.zero = some z) (hsz : i.size = sz) (hp : 0 < sz)
    (hby : i.bytes = by_) (hb1 : 0 < by_) (hzs : z.cells.size = sz) {g o n c : Nat} {xs : List (List Value)} (hX : RowX h sz (.slice (some ⟨g, o, none⟩) n c) xs) (hv : Vis h w)
    {y : Value} {ys : List (List Value)} (hy : SrcOk w y sz ys) (hr : roomB (xs.length + ys.length) by_) :
    ∃ v' w' h', (Builtin.append_ #[t, t] ty #[.slice (some ⟨g, o, none⟩) n c, y]).run P w = .ok v' w' ∧ Moved h w h' w' ∧ AppX h h' sz g v' (xs ++ ys) := by
  subst hsz
  subst hby
  have hlen : xs.length + ys.length ≤ 140737488355328 := Nat.le_trans (Nat.le_mul_of_pos_right _ hb1) hr
  have hl63 : ((xs.length + ys.length : Nat) : Int) ≤ 9223372036854775807 := by omega
  obtain ⟨hall0, g', o', c', cur, bt, e1, hnc, hcm, hcs, hg, hcell⟩ := hX
  cases e1
  have hall : ∀ x ∈ xs ++ ys, x.length = i.size ∧ ∀ v ∈ x, v.oneCell' = true := fun x hx => by
    rcases List.mem_append.1 hx with hx | hx
    · exact hall0 x hx
    · exact hy.1 x hx
  have hfx := flat_len xs (fun x hx => (hall0 x hx).1)
  have hfy := flat_len ys (fun x hx => (hy.1 x hx).1)
  have hone : ∀ u ∈ ys.flatten, u.oneCell' = true := fun u hu => by
    obtain ⟨x, hx, hux⟩ := List.mem_flatten.1 hu
    exact (hy.1 x hx).2 u hux
  have hsame : ys = [] → AppX h h i.size g (.slice (some ⟨g, o, none⟩) xs.length c) (xs ++ ys) := fun hn => by
    subst hn
    rw [List.append_nil]
    exact ⟨⟨hall0, g, o, c, cur, bt, rfl, hnc, hcm, hcs, hg, hcell⟩, g, o, _, c, rfl, .inl rfl, fun _ _ => rfl⟩
  have hw := hv _ _ hg
  rcases hy.2 with ⟨ad, cc, rfl, hc⟩ | ⟨cc, rfl, hys⟩
  · by_cases hroom : xs.length + ys.length ≤ c
    · have hfit : o + xs.length * i.size + ys.flatten.length ≤ cur.size := by
        have : (xs.length + ys.length) * i.size ≤ c * i.size := Nat.mul_le_mul_right _ hroom
        rw [Nat.add_mul] at this
        rw [hfy]
        omega
      have hin : ∀ j, j < ys.flatten.length → (w.cell? ⟨g, o + xs.length * i.size + j, none⟩).isSome = true := fun j hj => by
        simp only [World.cell?, hw]
        simp [show o + xs.length * i.size + j < cur.size by omega]
      have hfz : ∀ j, j < ys.flatten.length → w.frozen? ⟨g, o + xs.length * i.size + j, none⟩ = false := fun j hj => by
        rw [frozen_at (o := .cells cur bt (0, 0)) hw]
        simp [frozenOf]
      have hrun := run_append_room_cells (P := P) w t ty e i ht hi g o xs.length c ad ys.length cc ys.flatten hfy hc hone hroom hin hfz
      have hsp := setCells_heap g ys.flatten (o + xs.length * i.size) w cur bt (0, 0) hw
      obtain ⟨q1, q2, q3, q4⟩ := setCells_same g ys.flatten (o + xs.length * i.size) w
      refine ⟨_, _, h.set g (.cells (spliceV cur.toList (o + xs.length * i.size) ys.flatten).toArray bt (0, 0)), hrun,
        Moved.upd hv hg (fun _ => rfl) q1 q2 q3 q4 hsp (fun k hk => setCells_other _ _ _ _ k hk), ⟨hall, g, o, c, _, bt, by rw [List.length_append], by rw [List.length_append]; exact hroom, hcm, ?_, Hp.set_same _ _ _, fun j u hj => ?_⟩, g, o, _, c, rfl, .inl rfl, fun b hb => Hp.set_other _ _ hb⟩
      · simpa [length_spliceV] using hcs
      · rw [List.flatten_append] at hj
        rw [List.getElem?_toArray, spliceV_get _ _ _ _ (by simpa using hfit)]
        by_cases hlt : j < xs.flatten.length
        · rw [List.getElem?_append_left hlt] at hj
          rw [if_neg (by omega), Array.getElem?_toList]
          exact hcell j u hj
        · rw [List.getElem?_append_right (by omega)] at hj
          have hjl := (List.getElem?_eq_some_iff.1 hj).1
          rw [if_pos (by omega), show o + j - (o + xs.length * i.size) = j - xs.flatten.length by omega]
          exact hj
    · have hold : ∀ j u, xs.flatten[j]? = some u → w.cell? ((⟨g, o, none⟩ : Addr).add j) = some u := fun j u hj => by
        rw [add_plain]
        refine cell_vis hv rfl ?_
        simp only [Hp.cell, hg]
        exact hcell j u hj
      have hrun := run_append_grow (P := P) w t ty e i z ht hi hz ⟨g, o, none⟩ xs.length c xs.flatten hfx hold ad ys.length cc ys.flatten hfy hc (by omega) hl63 (growslice_fits (by omega) hr)
      have hge := grownCap_ge w (xs.length + ys.length) c e
      refine ⟨_, _, _, hrun, Moved.newD hv _ rfl, ⟨hall, w.heap.size, 0, grownCap w (xs.length + ys.length) c e, _, e, by rw [List.length_append], by rw [List.length_append]; exact hge, grownCap_le_maxLen w _ c e (by unfold maxLen; omega), ?_, Hp.set_same _ _ _, fun j u hj => ?_⟩, w.heap.size, 0, _, _, rfl, .inr (none_top hv), fun b hb => Hp.set_other _ _ hb⟩
      · simp only [Array.size_append, List.size_toArray, hfx, hfy, size_zeroCells, hzs, ← Nat.add_mul, Nat.zero_add]
        refine Nat.le_of_eq ?_
        congr 1; omega
      · rw [List.flatten_append] at hj
        rw [Nat.zero_add, ← Array.getElem?_toList]
        simp only [Array.toList_append]
        rw [List.getElem?_append_left (by simpa using (List.getElem?_eq_some_iff.1 hj).1)]
        exact hj
  · refine ⟨_, w, h, ?_, Moved.refl hv, hsame hys⟩
    simp [Builtin.append_, run_underlying ht, sizeOf, typeInfo, hi, Builtin.lenOf, Builtin.firstCells, hnc, storeCells]

theorem tInfo_spec {e sz by_ : Nat} {z : Value} (h1 : tSize P e = some sz) (h2 : tBytes P e = some by_) (h3 : tZero P e = some z) : ∃ i, P.info? e = some i ∧ i.size = sz ∧ i.bytes = by_ ∧ i.zero = some z := by
  unfold tSize at h1
  unfold tBytes at h2
  unfold tZero at h3
  cases hi : P.info? e with
  | none => rw [hi] at h1; cases h1
  | some i => rw [hi] at h1 h2 h3; exact ⟨i, rfl, by simpa using h1, by simpa using h2, h3⟩

/-- the second operand: one of the call's own slices, or one that is looked at -/
theorem srcOf_spec (s : Sim P h0 w0 be oe H st h a w) {sz : Nat} (hp : 0 < sz) {b : Operand} {K : List (List Value) → Prop} (he : srcOf st h sz (rdO st b) K) : ∃ ys, K ys ∧ SrcOk w (a.eval b) sz ys := by
  have g := s.rdO b
  unfold srcOf at he
  split at he
  · rename_i j k hr
    obtain ⟨e1, sz1, by1, nn1, xs1, hn1⟩ := rdO_own hr
    rw [hr] at g
    simp only [hn1] at he
    split at he
    · rename_i hb
      have hs1 := Nat.eq_of_beq_eq_true hb
      subst hs1
      refine ⟨xs1, he, ?_⟩
      have ho := s.own j _ _ _ _ _ _ hn1
      rw [g.own_cur hn1]
      refine ⟨ho.1, ?_⟩
      rcases ho.2 with ⟨h1, h2, _⟩ | ⟨gg, cap, cur, h1, h2, h3, _⟩
      · exact .inr ⟨0, h1, h2⟩
      · refine .inl ⟨⟨gg, 0, none⟩, cap, h1, fun j u hj => ?_⟩
        rw [add_plain, Nat.zero_add]
        exact cell_vis s.mv.vis rfl (ho.cells h1 j u hj)
    · exact he.elim
  · rename_i v hr
    rw [hr] at g
    obtain ⟨ys, hs, hk⟩ := he
    refine ⟨ys, hk, ?_⟩
    have hv : a.eval b = v := g
    rw [hv]
    obtain ⟨h1, x, n, c, rfl, rfl, hc, h2⟩ := hs
    refine ⟨h1, ?_⟩
    rcases h2 with h2 | ⟨bb, oo, rfl, h3⟩
    · cases x with
      | none =>
        have hys : ys = [] := by
          cases ys with
          | nil => rfl
          | cons y r =>
            have hy := (h1 y (List.mem_cons_self ..)).1
            simp only [List.flatten_cons, List.append_eq_nil_iff] at h2
            rw [h2.1] at hy
            simp at hy
            omega
        subst hys; exact .inr ⟨c, rfl, rfl⟩
      | some ad => exact .inl ⟨ad, c, rfl, fun j u hj => by rw [h2] at hj; simp at hj⟩
    · refine .inl ⟨⟨bb, oo, none⟩, c, rfl, fun j u hj => ?_⟩
      rw [add_plain]
      exact cell_vis (vis_h s) rfl (h3 j u hj)
  · exact he.elim

theorem exec_append {t : TypeId} {p q : Operand} {as : Array Operand} {ts : Array TypeId} (ho : o.op = .call { callee := .builtin .append, args := as, argTypes := ts }) (ha : as = #[p, q]) (hts : ts = #[t, t])
    {v' : Value} {w' : World} (hr : (Builtin.append_ #[t, t] o.type #[a.eval p, a.eval q]).run P w = .ok v' w') : (execOp a.eval o).run P w = .ok (.value v') w' := by
  subst ha; subst hts
  unfold execOp; rw [ho]
  simp only [resolve, invoke, builtin, Sem.run_bind, Sem.run_pure, Result.andThen_ok, List.map_toArray, List.map_cons, List.map_nil, hr]

theorem op_append (s : Sim P h0 w0 be oe H st h a w) {t : TypeId} {p q : Operand} {as : Array Operand} {ts : Array TypeId} (ho : o.op = .call { callee := .builtin .append, args := as, argTypes := ts })
    (ha : as = #[p, q]) (hts : ts = #[t, t]) (he : appendOp P t p q st h K) : o.wp P a w (Nx P h0 w0 st be oe K a o.dst) Q := by
  unfold appendOp at he
  split at he
  rotate_left
  · exact he.elim
  rename_i e hte
  split at he
  rotate_left
  · exact he.elim
  rename_i sz by_ z hs hb hz
  split at he
  rotate_left
  · exact he.elim
  rename_i hzl
  obtain ⟨i, hi, i1, i2, i3⟩ := tInfo_spec hs hb hz
  have ht := tElem_spec hte
  have hzs : z.cells.size = sz + 1 := by simpa using lenB_eq _ _ hzl
  have g := s.rdO p
  split at he
  · rename_i j k hr
    obtain ⟨e0, sz0, by0, nn0, xs0, hn⟩ := rdO_own hr
    rw [hr] at g
    simp only [hn] at he
    split at he
    · rename_i hb1 hb2 hb3
      have he0 := Nat.eq_of_beq_eq_true hb1
      have hsz0 := Nat.eq_of_beq_eq_true hb2
      subst he0
      subst hsz0
      obtain ⟨ys, ⟨hroom, hk⟩, hsrc⟩ := srcOf_spec s (Nat.succ_pos sz) he
      have hown := s.own j _ _ _ _ _ _ hn
      obtain ⟨v', w', H', hrun, hm, hO, hkp, hnew, _⟩ := append_core (ty := o.type) ht hi i3 i1 (Nat.succ_pos _) i2 (Nat.succ_pos _) hzs hown s.mv.vis s.sub hsrc hroom
      obtain ⟨s', gr⟩ := s.updOwn (s1 := k + 1) (by_ := by_ + 1) hn (Nat.le_succ _) (fun e => absurd e (Nat.succ_ne_self k)) hm hkp hO hnew
      rw [← g.own_cur hn] at hrun
      refine wp_value (exec_append ho ha hts hrun) ⟨_, _, h, v', _, _, _, hk, rfl, s', ?_, gr⟩
      refine ⟨k + 1, ?_, Nat.le_refl _, fun _ => by simp⟩
      simp [stamp, nth_updN _ _ _ (nth_lt hn)]
    · exact he.elim
  · rename_i hr
    rw [hr] at g
    obtain ⟨ys, ⟨hroom, hk⟩, hsrc⟩ := srcOf_spec s (Nat.succ_pos sz) he
    have hnil : OwnH h H (.slice none 0 0) e (sz + 1) false [] := ⟨by simp, .inl ⟨rfl, rfl, rfl⟩⟩
    obtain ⟨v', w', H', hrun, hm, hO, hkp, hnew, _⟩ := append_core (ty := o.type) ht hi i3 i1 (Nat.succ_pos _) i2 (Nat.succ_pos _) hzs hnil s.mv.vis s.sub hsrc (by simpa using hroom)
    simp only [Bool.false_or, List.nil_append] at hO
    have hnew' : ∀ g, v'.ownBlock = some g → H g = none := fun g hg => (hnew g hg).resolve_left (by simp [Value.ownBlock])
    rw [newOwn_eq] at hk
    obtain ⟨s', gr⟩ := s.newOwn (by_ := by_ + 1) (fun b o hb => by rw [hkp b (by simp [Value.ownBlock]) (by rw [hb]; simp)]; exact hb) hm hO hnew'
    have hg : a.eval p = .slice none 0 0 := g
    rw [← hg] at hrun
    refine wp_value (exec_append ho ha hts hrun) ⟨_, _, h, v', _, _, _, hk, rfl, s', ?_, gr⟩
    refine ⟨0, ?_, Nat.le_refl _, fun _ => by simp⟩
    simp [stamp, nth_snoc]
  · rename_i g0 o0 n0 c0 hr
    rw [hr] at g
    obtain ⟨ys, ⟨xs, hX, hroom, hk⟩, hsrc⟩ := srcOf_spec s (Nat.succ_pos sz) he
    obtain ⟨v', w', h', hrun, hm, hA⟩ := appendX_core (ty := o.type) ht hi i3 i1 (Nat.succ_pos _) i2 (Nat.succ_pos _) hzs hX (vis_h s) hsrc hroom
    have hg : a.eval p = .slice (some ⟨g0, o0, none⟩) n0 c0 := g
    rw [← hg] at hrun
    obtain ⟨H', s'⟩ := s.moved hm
    exact wp_value (exec_append ho ha hts hrun) ⟨_, _, _, v', _, _, _, hk _ _ hA, rfl, s', rfl, Grow.refl _ _ _⟩
  · exact he.elim
end
end Go.H
