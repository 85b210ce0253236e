/- Plain laws over the model: a row of the call's own, published, changes in place. -/
import Derived.Test.YtknoadmdnjaocaaHE
namespace Go.H
set_option linter.unusedVariables false
set_option linter.unusedSimpArgs false
section
variable {h h' : Hp} {v : Value} {e sz : Nat} {vs : List (List Value)}
theorem O0.place (fr : O0 h h' v e sz true vs) : ∃ g cap cur, v = .slice (some ⟨g, 0, none⟩) vs.length cap ∧ h g = none ∧ h' = h.set g (.cells cur e (0, 0)) ∧ vs.length ≤ cap ∧ cap ≤ maxLen ∧ cur.size = cap * sz ∧ cur.toList.take (vs.length * sz) = vs.flatten := by
 rcases fr.2 with ⟨_, _, h0, _⟩ | h1
 ·cases h0
 ·exact h1
theorem O0.cut (fr : O0 h h' v e sz true vs) {k : Nat} (hk : k ≤ vs.length) : ∃ g cap, v = .slice (some ⟨g, 0, none⟩) vs.length cap ∧ O0 h h' (.slice (some ⟨g, 0, none⟩) k cap) e sz true (vs.take k) := by
 obtain ⟨g, cap, cur, rfl, h1, h2, h3, h4, h5, h6⟩ := fr.place
 have hl : (vs.take k).length = k := by simp; omega
 have hfl : ∀ l : List (List Value), (∀ x ∈ l, x.length = sz) → l.flatten.length = l.length * sz := fun l => by
  induction l with
  | nil => simp
  | cons a l ih => intro ha; simp only [List.flatten_cons, List.length_append, List.length_cons, Nat.add_mul, Nat.one_mul, ih fun x hx => ha x (List.mem_cons_of_mem _ hx), ha a (List.mem_cons_self ..)]; omega
 refine ⟨g, cap, rfl, fun x hx => fr.1 x (List.mem_of_mem_take hx), .inr ⟨g, cap, cur, by rw [hl], h1, h2, by omega, h4, h5, ?_⟩⟩
 rw [hl]
 have e1 : vs.flatten = (vs.take k).flatten ++ (vs.drop k).flatten := by rw [← List.flatten_append, List.take_append_drop]
 have e2 := hfl (vs.take k) fun x hx => (fr.1 x (List.mem_of_mem_take hx)).1
 rw [hl] at e2
 have e3 : k * sz ≤ vs.length * sz := Nat.mul_le_mul_right _ hk
 have := congrArg (List.take (k * sz)) h6
 rw [List.take_take, Nat.min_eq_left e3, e1, List.take_left' e2] at this
 exact this
end
section
variable {h h' : Hp} {v : Value} {e sz : Nat} {vs : List (List Value)}
theorem O0.row (fr : O0 h h' v e sz true vs) {i : Nat} {new : List Value} (hi : i < vs.length) (hl : new.length = sz) (h1 : ∀ v ∈ new, v.oneCell' = true) :
  ∃ g cap cur, v = .slice (some ⟨g, 0, none⟩) vs.length cap ∧ h' g = some (.cells cur e (0, 0)) ∧ i * sz + sz ≤ cur.size ∧ O0 h (h'.set g (.cells (W0 cur.toList (i * sz) new).toArray e (0, 0))) v e sz true (vs.set i new) := by
 have hall := fr.1
 obtain ⟨g, cap, cur, rfl, hg, rfl, a1, a2, a3, a4⟩ := fr.place
 have hb : i * sz + sz ≤ cap * sz := by
  have := Nat.mul_le_mul_right sz (show i + 1 ≤ cap by omega)
  rwa [Nat.add_mul, Nat.one_mul] at this
 refine ⟨g, cap, cur, rfl, Hp.set_same _ _ _, by omega, ?_⟩
 rw [Hp.set_set]
 refine ⟨fun x hx => ?_, .inr ⟨g, cap, _, by simp, hg, rfl, by simpa using a1, a2, by simp [l5, a3], ?_⟩⟩
 ·rcases List.mem_or_eq_of_mem_set hx with hx | rfl
  ·exact hall x hx
  ·exact ⟨hl, h1⟩
 ·have hx : vs[i]? = some vs[i] := List.getElem?_eq_getElem hi
  have hlen : vs[i].length = sz := (hall _ (List.getElem_mem hi)).1
  have := A02 new 0 vs i vs[i] (fun x hx => (hall x hx).1) hx (by omega)
  rw [M01 new vs[i] 0 (by omega)] at this
  simp only [List.take_zero, List.nil_append, Nat.zero_add, Nat.add_zero] at this
  rw [List.drop_eq_nil_of_le (by omega), List.append_nil] at this
  rw [List.length_set, this, I00, a4]
theorem O0.fill (fr : O0 h h' v e sz true vs) {z : List Value} (hz : z.length = sz) (h1 : ∀ v ∈ z, v.oneCell' = true) {k : Nat} (hk : k ≤ vs.length) :
  ∃ g cap cur, v = .slice (some ⟨g, 0, none⟩) vs.length cap ∧ h' g = some (.cells cur e (0, 0)) ∧ vs.length * sz ≤ cur.size ∧
   O0 h (h'.set g (.cells (W0 cur.toList (k * sz) (List.replicate (vs.length - k) z).flatten).toArray e (0, 0))) v e sz true (vs.take k ++ List.replicate (vs.length - k) z) := by
 have hall := fr.1
 obtain ⟨g, cap, cur, rfl, hg, rfl, a1, a2, a3, a4⟩ := fr.place
 have hb : vs.length * sz ≤ cap * sz := Nat.mul_le_mul_right sz a1
 have hfl : (List.replicate (vs.length - k) z).flatten.length = (vs.length - k) * sz := by simp [hz]
 have hks : k * sz + (vs.length - k) * sz = vs.length * sz := by rw [← Nat.add_mul]; congr 1; omega
 have hl : (vs.take k ++ List.replicate (vs.length - k) z).length = vs.length := by simp; omega
 refine ⟨g, cap, cur, rfl, Hp.set_same _ _ _, by omega, ?_⟩
 rw [Hp.set_set]
 refine ⟨fun x hx => ?_, .inr ⟨g, cap, _, by rw [hl], hg, rfl, by omega, a2, by simp [l5, a3], ?_⟩⟩
 ·rcases List.mem_append.1 hx with hx | hx
  ·exact hall x (List.mem_of_mem_take hx)
  ·rw [(List.mem_replicate.1 hx).2]; exact ⟨hz, h1⟩
 ·rw [hl, I00, a4, M01 _ _ _ (by rw [hfl, ← a4]; simp; omega)]
  rw [List.flatten_append, a03 vs k (fun x hx => (hall x hx).1), List.drop_eq_nil_of_le (by rw [hfl, ← a4]; simp; omega), List.append_nil]
end
theorem O0.outS {α : Type} {r : Rp α} {h h' : Hp} {v : Value} {e : Nat} {vs : List (List Value)} {xs : List α} (f : O0 h h' v e r.sz true vs) (hr : F2 (r.R h) vs xs) :
  ∃ g c, v = .slice (some ⟨g, 0, none⟩) xs.length c ∧ Sl r h' (.slice (some ⟨g, 0, none⟩) xs.length c) xs ∧ Sub h h' ∧ xs.length ≤ 9223372036854775807 := by
 obtain ⟨a, c, e1, h1, h2, h3⟩ := f.out hr
 obtain ⟨g, cap, cur, e2, _⟩ := f.place
 rw [e1] at e2
 injection e2 with e3 e4 e5
 subst e3
 exact ⟨g, _, e1, h1, h2, h3⟩
theorem F3.ofPlain {α : Type} {r : Wp α} {h : Hp} (hp : ∀ cs x, r.R h cs x → r.W h cs x []) : ∀ {vs : List (List Value)} {xs : List α}, F2 (r.R h) vs xs → F3 (r.W h) vs xs (xs.map fun _ => [])
 | [], [], _ => trivial
 | v :: vs, x :: xs, hf => ⟨hp _ _ hf.1, F3.ofPlain hp hf.2⟩
 | [], _ :: _, hf => hf.elim
 | _ :: _, [], hf => hf.elim
theorem H6.ofPlain {α : Type} {h : Hp} {xs : List α} : H6 h (xs.map fun _ => ([] : List Nat)).flatten := by rw [b0a]; exact H6.nil h
theorem H6.perm {h : Hp} {Bs Bs' : List (List Nat)} (f : H6 h Bs.flatten) (p : Bs'.Perm Bs) : H6 h Bs'.flatten := by
 have q := p.flatten
 exact ⟨q.nodup_iff.2 f.1, fun b hb => f.2 b (q.mem_iff.1 hb)⟩
theorem ifP {α : Type} {c : Bool} [Decidable (c = true)] {a b r : α} (h : (if c = true then a else b) = r) (hc : c = true) : a = r := by rw [if_pos hc] at h; exact h
theorem ifN {α : Type} {c : Bool} [Decidable (c = true)] {a b r : α} (h : (if c = true then a else b) = r) (hc : c = false) : b = r := by rw [if_neg (s0g hc)] at h; exact h
theorem New.zero {α : Type} {r : Wp α} {h0 k : Hp} {g : Nat} {e : TypeId} (hn : h0 g = none) (hk : k g = some (.cells #[] e (0, 0))) (sb : Sub h0 k) : New r.slice h0 k [.slice (some ⟨g, 0, none⟩) 0 0] [] :=
 ⟨[g], ⟨_, [], [g], [], rfl, ⟨by simp, .inr ⟨g, 0, 0, #[], e, rfl, Nat.le_refl _, Nat.zero_le _, hk, rfl, by simp, by simp⟩⟩, trivial, by simp⟩, ⟨by simp, by simpa using hn⟩, sb⟩
end Go.H
