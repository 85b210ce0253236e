/- Plain laws: the product of conjugated relators. -/
import Derived.Test.YtjalbdammdmgiaaP3
namespace Go.Proofs.Ytjalbdammdmgiaa
open Go.H
set_option linter.unusedVariables false
set_option linter.unusedSimpArgs false

theorem pres_word {x : LPresentation} (h : F_IsPres x = true) {i : Nat} {u : List Int} (hu : x.2[i]? = some u) : all64 u ∧ u.length ≤ 24 := by
  simp only [F_IsPres, F_AreWords, Bool.and_eq_true] at h
  have hw : ∀ {ws : List (List Int)}, allW x.1 ws = true → ∀ w ∈ ws, F_IsWord x.1 w = true := by
    intro ws
    induction ws with
    | nil => intro _ w hw; cases hw
    | cons v r ih =>
      intro h w hw
      simp only [allW, Bool.and_eq_true] at h
      rcases List.mem_cons.1 hw with rfl | hw
      · exact h.1
      · exact ih h.2 w hw
  have h1 := hw h.1.1.2 u (List.mem_of_getElem? hu)
  refine ⟨fun y hy => ?_, ?_⟩
  · obtain ⟨j, hj⟩ := List.getElem?_of_mem hy
    obtain ⟨h2, _, _, h3, h4⟩ := word_letter h1 hj
    constructor <;> omega
  · simp only [F_IsWord, Bool.and_eq_true, decide_eq_true_eq] at h1
    exact h1.1.2
theorem pres_len {x : LPresentation} (h : F_IsPres x = true) : x.2.length ≤ 6 := by
  simp only [F_IsPres, F_AreWords, Bool.and_eq_true, decide_eq_true_eq] at h
  exact h.1.1.1.2
/-- the word that a term names -/
def oriented (u : List Int) (s : Int) : List Int := bif decide (s < 0) then inv u else u
theorem oriented_len (u : List Int) (s : Int) : (oriented u s).length = u.length := by
  unfold oriented
  cases decide (s < 0) <;> simp [inv_len]
theorem oriented_64 {u : List Int} (s : Int) (h : all64 u) : all64 (oriented u s) := by
  unfold oriented
  cases decide (s < 0)
  · exact h
  · exact inv_64 u
theorem gi_in {rel : List (List Int)} {i : Int} {u : List Int} (h : inR 0 ((rel.length : Int) - 1) i = true) (hu : rel[i.toNat]? = some u) : gi rel i = some u := by
  simp only [inR, Bool.and_eq_true, decide_eq_true_eq] at h
  unfold gi
  rw [if_pos h.1]
  exact hu
theorem in_some {rel : List (List Int)} {i : Int} (h : inR 0 ((rel.length : Int) - 1) i = true) : ∃ u, rel[i.toNat]? = some u := by
  simp only [inR, Bool.and_eq_true, decide_eq_true_eq] at h
  exact ⟨_, List.getElem?_eq_getElem (by omega)⟩
theorem partsP_in {rel : List (List Int)} {g : List Int} {i sg : Int} {r : List LTerm} {u : List Int} (h : inR 0 ((rel.length : Int) - 1) i = true) (hu : rel[i.toNat]? = some u) : partsP rel ((g, i, sg) :: r) = conj (oriented u sg) g :: partsP rel r := by
  simp only [partsP, h, hu]; rfl
theorem partsP_out {rel : List (List Int)} {g : List Int} {i sg : Int} {r : List LTerm} (h : inR 0 ((rel.length : Int) - 1) i = false) : partsP rel ((g, i, sg) :: r) = partsP rel r := by
  simp only [partsP, h]
theorem wlen1 {n : Nat} (h : n ≤ 6) : IntKind.i64.wrap (((n : Nat) : Int) - 1) = (n : Int) - 1 := w64 (by omega) (by omega)

theorem L_spec_ProductOf_eq (r : Int) (rel : List (List Int)) (hp : F_IsPres (r, rel) = true) (hs : wordsShort rel) (ts : List LTerm) (ht : ∀ t ∈ ts, all64 t.1 ∧ t.1.length ≤ 1048576) (hl : ts.length ≤ 140737488355328) :
    ∀ (d k fuel : Nat) (s : List Int), k + d = (ts.take 20).length → d < fuel → Red s = true → all64 s → s.length ≤ 2097176 * k →
    L_spec_ProductOf_0 ts r rel fuel s.reverse (k : Int) = some (redW s (partsP rel ((ts.take 20).drop k))).reverse
  | d, k, 0, s, hk, hf, h1, h2, h3 => by omega
  | 0, k, fuel + 1, s, hk, hf, h1, h2, h3 => by
    have hkt : (ts.take 20).length = min 20 ts.length := List.length_take
    rw [L_spec_ProductOf_0_succ, drop_done (by omega)]
    have e : (bif decide ((k : Int) < ((ts.length : Nat) : Int)) then decide ((k : Int) < 20) else false) = false := by
      by_cases c : k < ts.length
      · rw [show decide ((k : Int) < ((ts.length : Nat) : Int)) = true by simpa using c]
        simp; omega
      · rw [show decide ((k : Int) < ((ts.length : Nat) : Int)) = false by simp; omega]
        rfl
    simp only [e, chk_false, Option.bind_some, cond_false, Bool.false_eq_true, if_false, partsP, redW]
  | d + 1, k, fuel + 1, s, hk, hf, h1, h2, h3 => by
    have hkt : (ts.take 20).length = min 20 ts.length := List.length_take
    have hkl : k < ts.length := by omega
    have hx := getk hkl
    have hx' : (ts.take 20)[k]? = some ts[k] := by rw [List.getElem?_take]; rw [if_pos (by omega)]; exact hx
    have htk := ht _ (List.mem_of_getElem? hx)
    generalize ts[k] = t at hx hx' htk
    obtain ⟨g, i, sg⟩ := t
    simp only at htk
    have e : (bif decide ((k : Int) < ((ts.length : Nat) : Int)) then decide ((k : Int) < 20) else false) = true := by
      rw [show decide ((k : Int) < ((ts.length : Nat) : Int)) = true by simpa using hkl]
      simp; omega
    have hp6 := pres_len hp
    simp only at hp6
    rw [drop_get hx', L_spec_ProductOf_0_succ]
    simp only [e, chk_true, Option.bind_some, cond_true, if_true, m_specIsPresentation (r, rel) (by simp only; omega) hs, hp, gi_at hx, m_l1In, wlen1 hp6, wsucc hkl (by omega : ts.length ≤ 9223372036854775807)]
    cases hin : inR 0 ((rel.length : Int) - 1) i with
    | false =>
      simp only [Bool.false_eq_true, if_false]
      rw [partsP_out hin]
      exact L_spec_ProductOf_eq r rel hp hs ts ht hl d (k + 1) fuel s (by omega) (by omega) h1 h2 (by omega)
    | true =>
      obtain ⟨u, hu⟩ := in_some hin
      obtain ⟨u1, u2⟩ := pres_word hp (i := i.toNat) hu
      have o1 := oriented_64 sg u1
      have o2 := oriented_len u sg
      have c1 := conj_64 o1 htk.1
      have c2 := conj_len (oriented u sg) g
      have key : M_spec_MultiplyWords s.reverse (conj (oriented u sg) g) = some (redS s (conj (oriented u sg) g)).reverse := by
        rw [m_specMultiplyWords _ _ (all64_rev h2) c1 (by simp only [List.length_reverse]; omega), redS_app, redS_self s h1]
      have hrl := redS_len (conj (oriented u sg) g) s
      have next := L_spec_ProductOf_eq r rel hp hs ts ht hl d (k + 1) fuel (redS s (conj (oriented u sg) g)) (by omega) (by omega) (redS_red _ _ h1) (redS_64 _ _ h2 c1) (by omega)
      rw [partsP_in hin hu]
      simp only [if_true, gi_in hin hu, Option.bind_some, redW]
      rw [← next]
      by_cases hneg : sg < 0
      · have ho : oriented u sg = inv u := by unfold oriented; simp [hneg]
        rw [ho] at key o1 o2 ⊢
        rw [if_pos (by simpa using hneg), m_specInvertWord u (by omega), Option.bind_some, m_specConjugateWord _ _ o1 htk.1 (by omega), Option.bind_some, key, Option.bind_some]
      · have ho : oriented u sg = u := by unfold oriented; simp [hneg]
        rw [ho] at key o1 o2 ⊢
        rw [if_neg (by simpa using hneg), m_specConjugateWord _ _ o1 htk.1 (by omega), Option.bind_some, key, Option.bind_some]
theorem m_specProductOf (x : LPresentation) (ts : LTermS) (hl : x.2.length ≤ 140737488355328) (hs : wordsShort x.2) (ht : ∀ t ∈ ts, all64 t.1 ∧ t.1.length ≤ 1048576) (hl2 : ts.length ≤ 140737488355328) : M_spec_ProductOf x ts = some (F_ProductOf x ts) := by
  obtain ⟨r, rel⟩ := x
  unfold M_spec_ProductOf F_ProductOf
  simp only at hl hs ⊢
  cases hp : F_IsPres (r, rel) with
  | true =>
    have h := L_spec_ProductOf_eq r rel hp hs ts ht hl2 (ts.take 20).length 0 FUEL [] (by omega) (by rw [List.length_take]; unfold FUEL; omega) rfl nil64 (by simp)
    rw [show ((0 : Nat) : Int) = 0 from rfl, List.drop_zero, List.reverse_nil] at h
    rw [h]
    rfl
  | false =>
    rw [show FUEL = (FUEL - 1) + 1 from rfl, L_spec_ProductOf_0_succ]
    simp only [m_specIsPresentation (r, rel) hl hs, hp]
    cases (bif decide ((0 : Int) < ((ts.length : Nat) : Int)) then decide ((0 : Int) < 20) else false) <;> rfl
theorem L_impl_ProductOf_eq (r : Int) (rel : List (List Int)) (hp : F_IsPres (r, rel) = true) (ts : List LTerm) (ht : ∀ t ∈ ts, all64 t.1 ∧ t.1.length ≤ 1048576) (hl : ts.length ≤ 20) :
    ∀ (d k fuel : Nat) (acc : List (List Int)), k + d = ts.length → d < fuel → acc.length ≤ k →
    L_impl_ProductOf_0 ts rel fuel (k : Int) acc = some (acc ++ partsP rel (ts.drop k))
  | d, k, 0, acc, hk, hf, ha => by omega
  | 0, k, fuel + 1, acc, hk, hf, ha => by
    rw [L_impl_ProductOf_0_succ, if_neg (by simp; omega), drop_done (by omega)]
    simp [partsP]
  | d + 1, k, fuel + 1, acc, hk, hf, ha => by
    have hkl : k < ts.length := by omega
    have hx := getk hkl
    have htk := ht _ (List.mem_of_getElem? hx)
    generalize ts[k] = t at hx htk
    obtain ⟨g, i, sg⟩ := t
    simp only at htk
    have hp6 := pres_len hp
    simp only at hp6
    rw [drop_get hx, L_impl_ProductOf_0_succ, if_pos (by simp; omega), gi_at hx, Option.bind_some]
    simp only [m_within, Option.bind_some, wlen1 hp6, wsucc hkl (by omega : ts.length ≤ 9223372036854775807)]
    cases hin : inR 0 ((rel.length : Int) - 1) i with
    | false =>
      simp only [Bool.not_false, if_true]
      rw [partsP_out hin]
      exact L_impl_ProductOf_eq r rel hp ts ht hl d (k + 1) fuel acc (by omega) (by omega) (by omega)
    | true =>
      obtain ⟨u, hu⟩ := in_some hin
      obtain ⟨u1, u2⟩ := pres_word hp (i := i.toNat) hu
      have o2 := oriented_len u sg
      have next := L_impl_ProductOf_eq r rel hp ts ht hl d (k + 1) fuel (acc ++ [conj (oriented u sg) g]) (by omega) (by omega) (by simp only [List.length_append, List.length_singleton]; omega)
      rw [partsP_in hin hu]
      simp only [Bool.not_true, Bool.false_eq_true, if_false, gi_in hin hu, Option.bind_some]
      rw [List.append_cons, ← next]
      have hg : ∀ z : List Int, (grd ((acc.length + [z].length) * 24 ≤ 140737488355328)) = some () := fun z => grd_true (by simp only [List.length_singleton]; omega)
      by_cases hneg : sg < 0
      · have ho : oriented u sg = inv u := by unfold oriented; simp [hneg]
        rw [ho] at o2 ⊢
        rw [if_pos (by simpa using hneg), m_implInvertWord u (by omega), Option.bind_some, m_implConjugateWord _ _ (by omega), Option.bind_some, hg, Option.bind_some]
      · have ho : oriented u sg = u := by unfold oriented; simp [hneg]
        rw [ho] at o2 ⊢
        rw [if_neg (by simpa using hneg), m_implConjugateWord _ _ (by omega), Option.bind_some, hg, Option.bind_some]
theorem partsP_len (rel : List (List Int)) : ∀ ts : List LTerm, (partsP rel ts).length ≤ ts.length
  | [] => by simp [partsP]
  | t :: r => by
    have := partsP_len rel r
    simp only [partsP]
    split <;> simp only [List.length_cons] <;> omega
def gsum : List LTerm → Nat
  | [] => 0
  | t :: r => t.1.length + gsum r
theorem partsP_tot {x : LPresentation} (hp : F_IsPres x = true) : ∀ ts : List LTerm, totL (partsP x.2 ts) ≤ 24 * ts.length + 2 * gsum ts
  | [] => by simp [partsP, totL]
  | t :: r => by
    have := partsP_tot hp r
    obtain ⟨g, i, sg⟩ := t
    cases hin : inR 0 ((x.2.length : Int) - 1) i with
    | true =>
      obtain ⟨u, hu⟩ := in_some hin
      have h1 := pres_word hp hu
      have h2 := conj_len (oriented u sg) g
      have h3 := oriented_len u sg
      rw [partsP_in hin hu]
      simp only [totL, gsum, List.length_cons]
      omega
    | false =>
      rw [partsP_out hin]
      simp only [gsum, List.length_cons]
      omega
theorem gsum_take : ∀ (ts : List LTerm) (k : Nat), gsum (ts.take k) ≤ gsum ts
  | [], k => by simp [gsum]
  | t :: r, 0 => by simp [gsum]
  | t :: r, k + 1 => by have := gsum_take r k; simp only [List.take_succ_cons, gsum]; omega
theorem redW_len : ∀ (ws : List (List Int)) (s : List Int), (redW s ws).length ≤ s.length + totL ws
  | [], s => by simp [redW]
  | w :: r, s => by
    have := redW_len r (redS s w)
    have := redS_len w s
    simp only [redW, totL]; omega
theorem F_ProductOf_len (x : LPresentation) (ts : LTermS) : (F_ProductOf x ts).length ≤ 480 + 2 * gsum ts := by
  unfold F_ProductOf
  cases hp : F_IsPres x with
  | false => simp
  | true =>
    have h1 := redW_len (partsP x.2 (ts.take 20)) []
    have h2 := partsP_tot hp (ts.take 20)
    have h3 := gsum_take ts 20
    have h4 : (ts.take 20).length ≤ 20 := by rw [List.length_take]; omega
    simp only [cond_true, List.length_reverse, List.length_nil] at *
    omega
theorem m_implProductOf (x : LPresentation) (ts : LTermS) (hl : x.2.length ≤ 140737488355328) (hs : wordsShort x.2) (ht : ∀ t ∈ ts, all64 t.1 ∧ t.1.length ≤ 1048576) (hl2 : ts.length ≤ 140737488355328) (hg : gsum ts ≤ 1048576) : M_impl_ProductOf x ts = some (F_ProductOf x ts) := by
  have hm := m_implIsPresentation x hl hs
  obtain ⟨r, rel⟩ := x
  unfold M_impl_ProductOf F_ProductOf
  simp only [hm, Option.bind_some]
  cases hp : F_IsPres (r, rel) with
  | false => rfl
  | true =>
    have hcut : cutL ts 0 (if (20 : Int) < ((ts.length : Nat) : Int) then 20 else ((ts.length : Nat) : Int)) = some (ts.take 20) := by
      unfold cutL
      by_cases c : 20 < ts.length
      · rw [if_pos (by omega : (20 : Int) < ((ts.length : Nat) : Int)), if_pos (by omega)]
        rfl
      · rw [if_neg (by omega : ¬ (20 : Int) < ((ts.length : Nat) : Int)), if_pos (by omega), Int.toNat_natCast, List.take_length, List.take_of_length_le (by omega)]
        rfl
    have hlt : (ts.take 20).length ≤ 20 := by rw [List.length_take]; omega
    have h := L_impl_ProductOf_eq r rel hp (ts.take 20) (fun t h => ht t (List.mem_of_mem_take h)) hlt (ts.take 20).length 0 FUEL [] (by omega) (by unfold FUEL; omega) (by simp)
    rw [show ((0 : Nat) : Int) = 0 from rfl, List.drop_zero, List.nil_append] at h
    have h2 := partsP_tot hp (ts.take 20)
    have h3 := gsum_take ts 20
    have h4 := partsP_len rel (ts.take 20)
    simp only [Bool.not_true, Bool.false_eq_true, if_false, hcut, Option.bind_some, cond_true]
    rw [h, Option.bind_some, m_implproduct _ (by omega) (by simp only at h2; omega)]
    rfl
end Go.Proofs.Ytjalbdammdmgiaa
