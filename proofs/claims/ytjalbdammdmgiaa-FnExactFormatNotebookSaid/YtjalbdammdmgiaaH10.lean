/- Plain laws over the model: literals, makes, cuts, element stores, structs. -/
import Derived.Test.YtjalbdammdmgiaaH9
namespace Go.H
set_option linter.unusedVariables false
set_option linter.unusedSimpArgs false
section
variable {P : Program} {h0 : Hp} {w0 : World} {be : Nat → Nat} {oe : Nat → Value} {H : Hp} {st : St} {h : Hp} {a : Act} {w : World} {o : Oper} {K : AV → St → Hp → Prop} {Q : Exit → Act → World → Prop}

theorem spliceV_eq : ∀ (ns cs : List Value) (off : Nat), off + ns.length ≤ cs.length → spliceV cs off ns = cs.take off ++ ns ++ cs.drop (off + ns.length)
  | [], cs, off, _ => by simp [spliceV]
  | n :: ns, cs, off, hl => by
    simp only [List.length_cons] at hl
    rw [spliceV, spliceV_eq ns (cs.set off n) (off + 1) (by simp; omega)]
    rw [List.take_set, List.drop_set_of_lt (by omega)]
    have h1 : (cs.take (off + 1)).set off n = cs.take off ++ [n] := by
      rw [List.take_succ_eq_append_getElem (by omega), List.set_append_right _ _ (by simp; omega)]
      have : off - (cs.take off).length = 0 := by simp; omega
      rw [this]
      simp
    rw [h1]
    simp only [List.length_cons, List.append_assoc, List.cons_append, List.nil_append]
    rw [show off + 1 + ns.length = off + (ns.length + 1) from by omega]

theorem foldl_splice (off : Nat) : ∀ (l : List Value) (k : Nat) (arr : Array Value), ((l.zipIdx k).foldl (fun cs p => cs.setIfInBounds (off + p.2) p.1) arr).toList = spliceV arr.toList (off + k) l
  | [], k, arr => rfl
  | x :: l, k, arr => by
    simp only [List.zipIdx_cons, List.foldl_cons, spliceV]
    rw [foldl_splice off l (k + 1)]
    simp [Nat.add_assoc]

theorem fill_one (v : Value) (off : Nat) (arr : Array Value) : (v.cells.zipIdx.foldl (fun cs (p : Value × Nat) => cs.setIfInBounds (off + p.2) p.1) arr).toList = spliceV arr.toList off v.cells.toList := by
  rw [← Array.foldl_toList, Array.toList_zipIdx]
  exact foldl_splice off v.cells.toList 0 arr

/-- the parts of a literal, as they stand in the frame -/
def PartsOk (a : Act) (sz : Nat) : Nat → List (Nat × Operand) → List (List Value) → Prop
  | _, [], [] => True
  | i, (j, x) :: r, c :: cs => j = i ∧ c = (a.eval x).cells.toList ∧ c.length = sz ∧ (∀ v ∈ c, v.oneCell' = true) ∧ PartsOk a sz (i + 1) r cs
  | _, _, _ => False

theorem PartsOk.all {sz : Nat} : ∀ {i : Nat} {l : List (Nat × Operand)} {xs : List (List Value)}, PartsOk a sz i l xs → (∀ x ∈ xs, x.length = sz ∧ ∀ v ∈ x, v.oneCell' = true) ∧ l.length = xs.length
  | _, [], [], _ => by simp
  | i, (j, x) :: r, c :: cs, h => by
    have ih := PartsOk.all h.2.2.2.2
    refine ⟨fun y hy => ?_, by simp [ih.2]⟩
    rcases List.mem_cons.1 hy with rfl | hy
    · exact ⟨h.2.2.1, h.2.2.2.1⟩
    · exact ih.1 y hy
  | _, [], _ :: _, h => h.elim
  | _, _ :: _, [], h => h.elim

theorem fill_parts {sz : Nat} : ∀ (l : List (Nat × Operand)) (xs : List (List Value)) (i : Nat) (arr : Array Value), PartsOk a sz i l xs → (i + l.length) * sz ≤ arr.size →
    ∃ arr', Instr.fill (fun i => some (i * sz, sz)) arr (l.map fun p => (p.1, a.eval p.2)) = some arr' ∧ arr'.toList = arr.toList.take (i * sz) ++ xs.flatten ++ arr.toList.drop ((i + l.length) * sz)
  | [], [], i, arr, _, hl => ⟨arr, rfl, by simp⟩
  | (j, x) :: r, c :: cs, i, arr, h, hl => by
    obtain ⟨rfl, hc, hlen, _, hr⟩ := h
    have hsz : (a.eval x).cells.size = sz := by rw [← hlen, hc]; simp
    have hbound : j * sz + sz ≤ arr.size := by
      refine Nat.le_trans ?_ hl
      simp only [List.length_cons]
      rw [← Nat.succ_mul]
      exact Nat.mul_le_mul_right _ (by omega)
    have h2 := fill_one (a.eval x) (j * sz) arr
    rw [← hc] at h2
    have hsp := spliceV_eq c arr.toList (j * sz) (by rw [hlen]; simpa using hbound)
    have hsz2 : ((a.eval x).cells.zipIdx.foldl (fun cs (p : Value × Nat) => cs.setIfInBounds (j * sz + p.2) p.1) arr).size = arr.size := by
      rw [← Array.length_toList, h2, length_spliceV]; simp
    obtain ⟨arr', h3, h4⟩ := fill_parts r cs (j + 1) ((a.eval x).cells.zipIdx.foldl (fun cs (p : Value × Nat) => cs.setIfInBounds (j * sz + p.2) p.1) arr) hr (by
      rw [hsz2]; simp only [List.length_cons] at hl; rw [show j + 1 + r.length = j + (r.length + 1) from by omega]; exact hl)
    refine ⟨arr', ?_, ?_⟩
    · simp only [List.map_cons, Instr.fill, hsz, ne_eq, not_true_eq_false, decide_false, Bool.false_or, decide_eq_true_eq]
      rw [if_neg (by omega)]
      exact h3
    · rw [h4, h2, hsp, hlen]
      have e1 : (arr.toList.take (j * sz) ++ c ++ arr.toList.drop (j * sz + sz)).take ((j + 1) * sz) = arr.toList.take (j * sz) ++ c := by
        rw [List.take_append_of_le_length, List.take_of_length_le]
        · simp only [List.length_append, List.length_take, hlen, Array.length_toList, Nat.add_mul]; omega
        · simp only [List.length_append, List.length_take, hlen, Array.length_toList, Nat.add_mul]; omega
      have e2 : (arr.toList.take (j * sz) ++ c ++ arr.toList.drop (j * sz + sz)).drop ((j + 1 + r.length) * sz) = arr.toList.drop ((j + (r.length + 1)) * sz) := by
        have hAC : (arr.toList.take (j * sz) ++ c).length = j * sz + sz := by simp only [List.length_append, List.length_take, hlen, Array.length_toList]; omega
        rw [List.drop_append, List.drop_eq_nil_of_le (by rw [hAC]; simp only [Nat.add_mul]; omega), hAC, List.nil_append, List.drop_drop]
        congr 1
        simp only [Nat.add_mul]
        omega
      simp only [List.length_cons, List.flatten_cons]
      rw [e1, e2]
      simp
  | [], _ :: _, _, _, h, _ => h.elim
  | _ :: _, [], _, _, h, _ => h.elim

theorem parts_sound {sz : Nat} : ∀ (l : List (Nat × Operand)) (i : Nat) {st : St} {h : Hp} {K : List (List Value) → St → Hp → Prop}, Sim P h0 w0 be oe H st h a w → parts sz i l st h K →
    ∃ xs st' h', K xs st' h' ∧ Sim P h0 w0 be oe H st' h' a w ∧ Grow st be oe st' be oe ∧ PartsOk a sz i l xs
  | [], i, st, h, K, s, he => ⟨[], st, h, he, s, Grow.refl _ _ _, trivial⟩
  | (j, x) :: r, i, st, h, K, s, he => by
    simp only [parts] at he
    split at he
    · rename_i hb
      have hij := Nat.eq_of_beq_eq_true hb
      obtain ⟨st1, h1, e1, s1, g1⟩ := rfy_sound s (s.rdO x) he
      split at e1
      · rename_i hl ho
        obtain ⟨xs, st2, h2, e2, s2, g2, p2⟩ := parts_sound r (i + 1) s1 e1
        exact ⟨_, st2, h2, e2, s2, g1.trans g2, hij.symm, rfl, lenB_eq _ _ hl, allOne_spec _ ho, p2⟩
      · exact e1.elim
    · exact he.elim

theorem op_buildSlice (s : Sim P h0 w0 be oe H st h a w) {t n : Nat} {ps : Array (Nat × Operand)} {e sz by_ : Nat} {z : Value} (ho : o.op = .buildSlice t n ps) (hte : tElem P t = some e) (hs : tSize P e = some (sz + 1))
    (hz : tZero P e = some z) (hn : Nat.beq n ps.size = true) (hm : Nat.ble (n * (sz + 1)) 16777216 = true)
    (he : parts (sz + 1) 0 ps.toList st h fun xs st h => newOwn st e (sz + 1) by_ true xs fun av st => K av st h) : o.wp P a w (Nx P h0 w0 st be oe K a o.dst) Q := by
  obtain ⟨xs, st1, h1, e1, s1, g1, p1⟩ := parts_sound _ _ s he
  obtain ⟨hall, hlen⟩ := p1.all
  have hn' : n = xs.length := by rw [← hlen, Nat.eq_of_beq_eq_true hn]; simp
  have hm' := Nat.le_of_ble_eq_true hm
  have hw : wpS P (execOp a.eval o) H (fun nx H' => ∃ b arr, H b = none ∧ nx = .value (.slice (some ⟨b, 0, none⟩) xs.length xs.length) ∧ H' = H.set b (.cells arr e (0, 0)) ∧ arr.toList = xs.flatten ∧ arr.size = xs.length * (sz + 1)) := by
    unfold execOp; rw [ho]
    refine exec_v _ _ _ ?_
    have main : ∀ arr : Array Value, arr.size = xs.length * (sz + 1) → ∃ arr', Instr.fill (fun i => some (i * (sz + 1), sz + 1)) arr (ps.toList.map fun p => (p.1, a.eval p.2)) = some arr' ∧ arr'.toList = xs.flatten ∧ arr'.size = xs.length * (sz + 1) := by
      intro arr ha
      obtain ⟨arr', f1, f2⟩ := fill_parts ps.toList xs 0 arr p1 (by rw [hlen, ha]; simp)
      refine ⟨arr', f1, ?_, ?_⟩
      · rw [f2, hlen]; simp [ha]
      · rw [← Array.length_toList, f2, hlen]
        simp [ha, flat_len xs (fun x hx => (hall x hx).1)]
    have hgt : ¬ (n * (sz + 1) > 2 ^ 24) := Nat.not_lt.2 hm'
    simp only [Instr.buildSlice, wpS_bind, wpS_underlying (tElem_spec hte), wpS_sizeOf hs, if_neg hgt, wpS_pure]
    have hmap : (ps.map fun x => (x.1, a.eval x.2)).toList = ps.toList.map fun p => (p.1, a.eval p.2) := by simp
    by_cases h00 : n * (sz + 1) = 0
    · simp only [if_pos h00, wpS_pure]
      obtain ⟨arr', f1, f2, f3⟩ := main ((Array.range (n * (sz + 1))).map fun i => (#[] : Array Value)[i % (#[] : Array Value).size]!) (by simp [hn'])
      rw [show (Array.map (fun x => (x.1, a.eval x.2)) ps).toList = ps.toList.map fun p => (p.1, a.eval p.2) from by simp]
      simp only [f1, wpS_bind, newRow, newObj, wpS, wpS_pure]
      exact fun b hb => ⟨b, arr', hb, by rw [hn'], rfl, f2, f3⟩
    · simp only [if_neg h00, wpS_bind, wpS_zero hz, wpS_pure]
      obtain ⟨arr', f1, f2, f3⟩ := main ((Array.range (n * (sz + 1))).map fun i => z.cells[i % z.cells.size]!) (by simp [hn'])
      rw [show (Array.map (fun x => (x.1, a.eval x.2)) ps).toList = ps.toList.map fun p => (p.1, a.eval p.2) from by simp]
      simp only [f1, wpS_bind, newRow, newObj, wpS, wpS_pure]
      exact fun b hb => ⟨b, arr', hb, by rw [hn'], rfl, f2, f3⟩
  obtain ⟨nx, H', w', hr, ⟨b, arr, hb, rfl, rfl, f2, f3⟩, hmv⟩ := wpS_sound _ _ _ s1.mv.vis hw
  have hmax : xs.length ≤ maxLen := by
    have : xs.length ≤ xs.length * (sz + 1) := Nat.le_mul_of_pos_right _ (Nat.succ_pos _)
    rw [hn'] at hm'
    unfold maxLen; omega
  rw [newOwn_eq] at e1
  obtain ⟨s', gr⟩ := s1.newOwn (nn := true) (by_ := by_) (fun x y hx => by rw [Hp.set_other _ _ (fun e => by subst e; rw [hb] at hx; cases hx)]; exact hx) hmv
    (ownH_new s1.sub hb hall (Nat.le_refl _) hmax f3 (by rw [f2, List.take_of_length_le (by rw [flat_len xs (fun x hx => (hall x hx).1)]; exact Nat.le_refl _)])) (fun g hg => by simp [Value.ownBlock] at hg; rw [← hg]; exact hb)
  refine wp_value hr ⟨_, _, h1, _, _, _, _, e1, rfl, s', ?_, g1.trans gr⟩
  refine ⟨0, ?_, Nat.le_refl _, fun _ => by simp⟩
  simp [stamp, nth_snoc]

theorem flat_replicate {sz : Nat} (zl : List Value) (hz : zl.length = sz) (hp : 0 < sz) : ∀ (l j : Nat), j < l * sz → (List.replicate l zl).flatten[j]? = zl[j % sz]?
  | 0, j, h => by simp at h
  | l + 1, j, h => by
    simp only [List.replicate_succ, List.flatten_cons]
    have h' : j < l * sz + sz := by rw [Nat.add_mul, Nat.one_mul] at h; exact h
    by_cases hj : j < sz
    · rw [List.getElem?_append_left (by omega), Nat.mod_eq_of_lt hj]
    · rw [List.getElem?_append_right (by omega), hz, flat_replicate zl hz hp l (j - sz) (by omega), ← Nat.mod_eq_sub_mod (a := j) (by omega)]

theorem made_take {sz : Nat} (z : Value) (hz : z.cells.toList.length = sz) (hp : 0 < sz) (l n : Nat) (hl : l * sz ≤ n) : (madeCells z.cells n).toList.take (l * sz) = (List.replicate l z.cells.toList).flatten := by
  have hz' : z.cells.size = sz := by simpa using hz
  apply List.ext_getElem?
  intro j
  rw [List.getElem?_take]
  by_cases hj : j < l * sz
  · rw [if_pos hj, flat_replicate _ hz hp l j hj]
    have hm : j % sz < z.cells.size := by rw [hz']; exact Nat.mod_lt _ hp
    simp only [madeCells, hz', Array.toList_map, Array.toList_range, List.getElem?_map, List.getElem?_range (show j < n from by omega), Option.map_some, Array.getElem?_toList, Array.getElem?_eq_getElem hm]
    congr 1
    simp [hm]
  · rw [if_neg hj]
    symm
    apply List.getElem?_eq_none
    have : (List.replicate l z.cells.toList).flatten.length = l * sz := by
      rw [flat_len (sz := sz) _ (fun x hx => by rw [List.eq_of_mem_replicate hx]; exact hz)]; simp
    omega

theorem op_makeSlice (s : Sim P h0 w0 be oe H st h a w) {t e sz by_ : Nat} {l c : Operand} {z : Value} {kl kc : IntKind} {nl nc : Int} (ho : o.op = .makeSlice t l c) (hte : tElem P t = some e)
    (hs : tSize P e = some (sz + 1)) (hb : tBytes P e = some by_) (hz : tZero P e = some z) (hl : rdO st l = .val (.int kl nl)) (hc : rdO st c = .val (.int kc nc))
    (hzl : lenB z.cells.toList (sz + 1) = true) (hone : allOne z.cells.toList = true) (hbd : 0 ≤ nl ∧ nl ≤ nc ∧ nc * by_ ≤ 140737488355328 ∧ nc ≤ 9223372036854775807)
    (he : newOwn st e (sz + 1) by_ true (List.replicate nl.toNat z.cells.toList) fun av st => K av st h) : o.wp P a w (Nx P h0 w0 st be oe K a o.dst) Q := by
  obtain ⟨i, hi, i1, i2, i3⟩ := tInfo_spec hs hb hz
  have gl : a.eval l = .int kl nl := by have := s.rdO l; rw [hl] at this; exact this
  have gc : a.eval c = .int kc nc := by have := s.rdO c; rw [hc] at this; exact this
  obtain ⟨b1, b2, b3, b4⟩ := hbd
  have hlen := lenB_eq _ _ hzl
  have hrun := run_make (P := P) w t e i z (tElem_spec hte) hi i3 kl kc nl nc b1 b2 (by rw [i2, Int.mul_comm]; omega) b4
  have hr : (execOp a.eval o).run P w = .ok (.value (.slice (some ⟨w.heap.size, 0, none⟩) nl.toNat nc.toNat)) (w.alloc (.cells (madeCells z.cells (nc.toNat * i.size)) e)) := by
    unfold execOp; rw [ho]
    simp only [gl, gc, Sem.run_bind, hrun, Result.andThen_ok, Sem.run_pure]
  have hmv : Moved H w (H.set w.heap.size (.cells (madeCells z.cells (nc.toNat * i.size)) e (0, 0))) (w.alloc (.cells (madeCells z.cells (nc.toNat * i.size)) e)) := Moved.new s.mv.vis _ rfl
  have hfl : (List.replicate nl.toNat z.cells.toList).length = nl.toNat := by simp
  have hO := ownH_new (h := h) (H := H) (e := e) (sz := sz + 1) (nn := true) (cap := nc.toNat) (xs := List.replicate nl.toNat z.cells.toList) (cur := madeCells z.cells (nc.toNat * i.size)) s.sub (none_top s.mv.vis)
    (fun x hx => by rw [List.eq_of_mem_replicate hx]; exact ⟨hlen, allOne_spec _ hone⟩) (by simp; omega) (by unfold maxLen; omega) (by rw [size_madeCells, i1])
    (by rw [hfl, i1]; exact made_take z hlen (Nat.succ_pos _) _ _ (Nat.mul_le_mul_right _ (by omega)))
  rw [hfl] at hO
  rw [newOwn_eq] at he
  obtain ⟨s', gr⟩ := s.newOwn (by_ := by_) (fun x y hx => by rw [Hp.set_other _ _ (fun e => by subst e; rw [none_top s.mv.vis] at hx; cases hx)]; exact hx) hmv hO
    (fun g hg => by simp [Value.ownBlock] at hg; rw [← hg]; exact none_top s.mv.vis)
  refine wp_value hr ⟨_, _, h, _, _, _, _, he, rfl, s', ?_, gr⟩
  refine ⟨0, ?_, Nat.le_refl _, fun _ => by simp⟩
  simp [stamp, nth_snoc]
end
end Go.H
