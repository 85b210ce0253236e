/- Plain laws: the first defect. -/
import Derived.Test.YthccjgkmmclplaaA9f
import Derived.Test.YthccjgkmmclplaaP9
namespace Go.Proofs.Ythccjgkmmclplaa
open Go.H
set_option linter.unusedVariables false
set_option linter.unusedSimpArgs false

theorem pres_isword {x : LPresentation} (h : F_IsPres x = true) : ∀ w ∈ x.2, F_IsWord x.1 w = true := by
  simp only [F_IsPres, F_AreWords, Bool.and_eq_true] at h
  have hw : ∀ {ws : List (List Int)}, allW x.1 ws = true → ∀ w ∈ ws, F_IsWord x.1 w = true := by
    intro ws
    induction ws with
    | nil => intro _ w hw; cases hw
    | cons v r ih =>
      intro h w hw
      simp only [allW, Bool.and_eq_true] at h
      rcases List.mem_cons.1 hw with rfl | hw
      · exact h.1
      · exact ih h.2 w hw
  exact hw h.1.1.2
theorem pres_letters {x : LPresentation} (h : F_IsPres x = true) : ∀ w ∈ x.2, (∀ y ∈ w, notMin y) ∧ w.length ≤ 24 := fun w hw => by
  have h1 := pres_isword h w hw
  refine ⟨fun y hy => ?_, ?_⟩
  · obtain ⟨i, hi⟩ := List.getElem?_of_mem hy
    have := word_letter h1 hi
    refine ⟨⟨by omega, by omega⟩, by omega⟩
  · simp only [F_IsWord, Bool.and_eq_true, decide_eq_true_eq] at h1
    exact h1.1.2
theorem pres_small {x : LPresentation} (h : F_IsPres x = true) : x.2.length ≤ 6 := by
  simp only [F_IsPres, F_AreWords, Bool.and_eq_true, decide_eq_true_eq] at h
  exact h.1.1.1.2
def badD (g : LGraph) (v : Int) (r : List Int) : Bool := bif decide ((readL g v r).2 < r.length) then true else !decide ((readL g v r).1 = v)
def hitR (g : LGraph) (v : Int) : List (List Int) → Nat → Option Nat
  | [], _ => none
  | r :: l, i => bif badD g v r then some i else hitR g v l (i + 1)
def hitV (g : LGraph) (rels : List (List Int)) : Nat → Nat → Option (Nat × Nat)
  | 0, _ => none
  | d + 1, v => match hitR g (v : Int) rels 0 with
    | some i => some (v, i)
    | none => hitV g rels d (v + 1)
def pairD (q : Option (Nat × Nat)) : Int × Int := match q with
  | some (v, i) => ((v : Int), (i : Int))
  | none => (-1, -1)
def F_FirstDefect (p : LPresentation) (g : LGraph) : Int × Int := bif F_IsPres p && F_IsFolded g && decide (p.1 = g.1) then pairD (hitV g p.2 g.2.1.toNat 0) else (-1, -1)
theorem L_impl_FD0 (rels : List (List Int)) (hrel : ∀ w ∈ rels, (∀ y ∈ w, notMin y) ∧ w.length ≤ 24) (r n : Int) (es : List LEdge) (hg : inG (r, n, es)) (hn : n ≤ 40) (hes : es.length ≤ 120) (hl : rels.length ≤ 6) (v : Int) (hv : In64 v) : ∀ (d k fuel : Nat), k + d = rels.length → d < fuel →
    L_impl_FirstDefect_0 rels r n es v fuel (k : Int) = some (match hitR (r, n, es) v (rels.drop k) k with | some i => .inl (v, (i : Int)) | none => .inr ())
  | d, k, 0, hd, hf => by omega
  | 0, k, fuel + 1, hd, hf => by
    rw [L_impl_FirstDefect_0_succ, if_neg (by simp; omega), drop_done (by omega)]
    rfl
  | d + 1, k, fuel + 1, hd, hf => by
    have hk : k < rels.length := by omega
    have hx := getk hk
    obtain ⟨hxm, hxl⟩ := hrel _ (List.getElem_mem hk)
    generalize rels[k] = w at hx hxm hxl
    have hle := readL_le (r, n, es) w v
    rw [L_impl_FirstDefect_0_succ, if_pos (by simp; omega), gi_at hx, Option.bind_some, m_read (r, n, es) hg hn (by simp only; omega) v w hxm (by omega), Option.bind_some, drop_get hx]
    simp only [grd_true (readL_64 hg hn w v hv), grd_true (show In64 (((readL (r, n, es) v w).2 : Nat) : Int) from ⟨by omega, by omega⟩), Option.bind_some, hitR]
    have e : (bif decide ((((readL (r, n, es) v w).2 : Nat) : Int) < ((w.length : Nat) : Int)) then true else !decide ((readL (r, n, es) v w).1 = v)) = badD (r, n, es) v w := by
      unfold badD
      simp
    rw [e]
    cases badD (r, n, es) v w with
    | true => rfl
    | false =>
      rw [if_neg (by simp), wsucc hk (by omega)]
      exact L_impl_FD0 rels hrel r n es hg hn hes hl v hv d (k + 1) fuel (by omega) (by omega)
theorem L_impl_FD1 (rels : List (List Int)) (hrel : ∀ w ∈ rels, (∀ y ∈ w, notMin y) ∧ w.length ≤ 24) (r : Int) (N : Nat) (es : List LEdge) (hg : inG (r, (N : Int), es)) (hn : N ≤ 40) (hes : es.length ≤ 120) (hl : rels.length ≤ 6) : ∀ (d k fuel : Nat), k + d = N → d < fuel →
    L_impl_FirstDefect_1 (N : Int) rels r es fuel (k : Int) = some (match hitV (r, (N : Int), es) rels d k with | some (v, i) => .inl ((v : Int), (i : Int)) | none => .inr ())
  | d, k, 0, hd, hf => by omega
  | 0, k, fuel + 1, hd, hf => by
    rw [L_impl_FirstDefect_1_succ, if_neg (by simp; omega)]
    rfl
  | d + 1, k, fuel + 1, hd, hf => by
    have h0 := L_impl_FD0 rels hrel r (N : Int) es hg (by omega) hes hl (k : Int) ⟨by omega, by omega⟩ rels.length 0 FUEL (by omega) (FUEL_big (by omega))
    rw [show ((0 : Nat) : Int) = 0 from rfl, List.drop_zero] at h0
    rw [L_impl_FirstDefect_1_succ, if_pos (by simp; omega), h0, Option.bind_some]
    simp only [hitV]
    cases hitR (r, (N : Int), es) (k : Int) rels 0 with
    | some i => rfl
    | none =>
      simp only [outL]
      rw [wsucc (show k < N by omega) (by omega)]
      exact L_impl_FD1 rels hrel r N es hg hn hes hl d (k + 1) fuel (by omega) (by omega)
theorem folded_in {g : LGraph} (h : F_IsFolded g = true) : inG g ∧ (1 ≤ g.1 ∧ g.1 ≤ 3) ∧ (1 ≤ g.2.1 ∧ g.2.1 ≤ 40) ∧ g.2.2.length ≤ 120 := by
  unfold F_IsFolded at h
  simp only [Bool.and_eq_true] at h
  exact graph_in h.1
theorem m_implFirstDefect (p : LPresentation) (g : LGraph) (hl : p.2.length ≤ 140737488355328) (hs : wordsShort p.2) (hl2 : g.2.2.length ≤ 140737488355328) : M_impl_FirstDefect p g = some (F_FirstDefect p g) := by
  have hP := m_implIsPresentation p hl hs
  have hF := m_implIsFolded g hl2
  unfold F_FirstDefect
  obtain ⟨pr, rels⟩ := p
  obtain ⟨r, n, es⟩ := g
  unfold M_impl_FirstDefect
  simp only [hP, Option.bind_some]
  cases hp : F_IsPres (pr, rels) with
  | false => rfl
  | true =>
    simp only [Bool.not_true, Bool.not_false, chk_true, hF, Option.bind_some, cond_false, Bool.true_and]
    cases hf : F_IsFolded (r, n, es) with
    | false => rfl
    | true =>
      by_cases hr : pr = r
      · simp only [Bool.not_true, cond_false, hr, decide_true, Bool.true_and, cond_true, Bool.false_eq_true, if_false]
        obtain ⟨hg, _, hn, hes⟩ := folded_in hf
        simp only at hn hes
        obtain ⟨N, rfl⟩ : ∃ N : Nat, n = (N : Int) := ⟨n.toNat, by omega⟩
        have h := L_impl_FD1 rels (pres_letters hp) r N es hg (by omega) hes (pres_small hp) N 0 FUEL (by omega) (FUEL_big (by omega))
        rw [show ((0 : Nat) : Int) = 0 from rfl] at h
        rw [h, Option.bind_some, Int.toNat_natCast]
        cases hitV (r, (N : Int), es) rels N 0 <;> rfl
      · simp [hr]
theorem L_spec_FD0 (rels : List (List Int)) (hrel : ∀ w ∈ rels, (∀ y ∈ w, notMin y) ∧ w.length ≤ 24) (r n : Int) (es : List LEdge) (hf : F_IsFolded (r, n, es) = true) (hl : rels.length ≤ 6) (v : Int) (hv : 0 ≤ v ∧ v < n) : ∀ (d k fuel : Nat), k + d = rels.length → d < fuel →
    L_spec_FirstDefect_0 rels r n es v fuel (k : Int) = some (match hitR (r, n, es) v (rels.drop k) k with | some i => .inl (v, (i : Int)) | none => .inr ())
  | d, k, 0, hd, hf' => by omega
  | 0, k, fuel + 1, hd, hf' => by
    rw [L_spec_FirstDefect_0_succ, if_neg (by simp; omega), drop_done (by omega)]
    rfl
  | d + 1, k, fuel + 1, hd, hf' => by
    have hk : k < rels.length := by omega
    have hx := getk hk
    obtain ⟨hxm, hxl⟩ := hrel _ (List.getElem_mem hk)
    generalize rels[k] = w at hx hxm hxl
    obtain ⟨hg, _, hn, hes⟩ := folded_in hf
    simp only at hn hes
    have h64 : In64 v := ⟨by omega, by omega⟩
    rw [L_spec_FirstDefect_0_succ, if_pos (by simp; omega), gi_at hx, Option.bind_some, m_walk (r, n, es) hf v hv w hxm (by omega), Option.bind_some, drop_get hx]
    simp only [hitR, badD]
    cases decide ((readL (r, n, es) v w).2 < w.length) with
    | true =>
      simp only [cond_true, grd_true (show In64 (-1) by decide), Option.bind_some, Bool.not_false, if_true]
    | false =>
      simp only [cond_false, grd_true (readL_64 hg hn.2 w v h64), Option.bind_some, Bool.not_true]
      cases decide ((readL (r, n, es) v w).1 = v) with
      | false => rfl
      | true =>
        rw [if_neg (by simp), wsucc hk (by omega)]
        exact L_spec_FD0 rels hrel r n es hf hl v hv d (k + 1) fuel (by omega) (by omega)
theorem L_spec_FD1 (rels : List (List Int)) (r : Int) (N : Nat) (es : List LEdge) (hp : F_IsPres (r, rels) = true) (hf : F_IsFolded (r, (N : Int), es) = true) (hl : rels.length ≤ 140737488355328) (hs : wordsShort rels) : ∀ (d k fuel : Nat), k + d = N → d < fuel →
    L_spec_FirstDefect_1 (N : Int) r rels r es fuel (k : Int) = some (match hitV (r, (N : Int), es) rels d k with | some (v, i) => .inl ((v : Int), (i : Int)) | none => .inr ())
  | d, k, 0, hd, hf' => by omega
  | 0, k, fuel + 1, hd, hf' => by
    have e : decide ((k : Int) < (N : Int)) = false := by simp; omega
    rw [L_spec_FirstDefect_1_succ, e, chk_false, Option.bind_some]
    simp only [cond_false, chk_false, Option.bind_some]
    rw [if_neg (by simp)]
    rfl
  | d + 1, k, fuel + 1, hd, hf' => by
    obtain ⟨hg, _, hn, hes⟩ := folded_in hf
    simp only at hn hes
    have e : decide ((k : Int) < (N : Int)) = true := by simp; omega
    have h0 := L_spec_FD0 rels (pres_letters hp) r (N : Int) es hf (pres_small hp) (k : Int) ⟨by omega, by omega⟩ rels.length 0 FUEL (by omega) (FUEL_big (by omega))
    rw [show ((0 : Nat) : Int) = 0 from rfl, List.drop_zero] at h0
    rw [L_spec_FirstDefect_1_succ, e, chk_true, m_specIsPresentation (r, rels) hl hs, Option.bind_some, hp]
    simp only [cond_true, chk_true, m_specIsFolded (r, (N : Int), es) (show es.length ≤ 140737488355328 by omega), hf, Option.bind_some, decide_true, if_true, h0]
    simp only [hitV]
    cases hitR (r, (N : Int), es) (k : Int) rels 0 with
    | some i => rfl
    | none =>
      simp only [outL]
      rw [wsucc (show k < N by omega) (by omega)]
      exact L_spec_FD1 rels r N es hp hf hl hs d (k + 1) fuel (by omega) (by omega)
theorem m_specFirstDefect (p : LPresentation) (g : LGraph) (hl : p.2.length ≤ 140737488355328) (hs : wordsShort p.2) (hl2 : g.2.2.length ≤ 140737488355328) : M_spec_FirstDefect p g = some (F_FirstDefect p g) := by
  have hP := m_specIsPresentation p hl hs
  have hF := m_specIsFolded g hl2
  unfold F_FirstDefect
  obtain ⟨pr, rels⟩ := p
  obtain ⟨r, n, es⟩ := g
  unfold M_spec_FirstDefect
  have stop : (F_IsPres (pr, rels) && F_IsFolded (r, n, es) && decide (pr = r)) = false → L_spec_FirstDefect_1 n pr rels r es FUEL 0 = some (.inr ()) := fun hno => by
    rw [show FUEL = (FUEL - 1) + 1 from rfl, L_spec_FirstDefect_1_succ]
    cases decide ((0 : Int) < n) with
    | false => simp [chk]
    | true =>
      simp only [chk_true, hP, Option.bind_some, cond_true]
      cases hp : F_IsPres (pr, rels) with
      | false => simp [chk]
      | true =>
        simp only [chk_true, hF, Option.bind_some, cond_true]
        rw [hp] at hno
        cases hf : F_IsFolded (r, n, es) with
        | false => simp
        | true =>
          rw [hf] at hno
          simp only [Bool.true_and] at hno
          simp [hno]
  cases hall : (F_IsPres (pr, rels) && F_IsFolded (r, n, es) && decide (pr = r)) with
  | false =>
    simp only [stop hall, Option.bind_some, hall, cond_false]
    rfl
  | true =>
    simp only [Bool.and_eq_true, decide_eq_true_eq] at hall
    obtain ⟨⟨hp, hf⟩, rfl⟩ := hall
    obtain ⟨hg, _, hn, hes⟩ := folded_in hf
    simp only at hn hes
    obtain ⟨N, rfl⟩ : ∃ N : Nat, n = (N : Int) := ⟨n.toNat, by omega⟩
    have h := L_spec_FD1 rels pr N es hp hf hl hs N 0 FUEL (by omega) (FUEL_big (by omega))
    rw [show ((0 : Nat) : Int) = 0 from rfl] at h
    simp only [h, Option.bind_some, hp, hf, decide_true, Bool.true_and, cond_true, Int.toNat_natCast]
    cases hitV (pr, (N : Int), es) rels N 0 <;> rfl
end Go.Proofs.Ythccjgkmmclplaa
