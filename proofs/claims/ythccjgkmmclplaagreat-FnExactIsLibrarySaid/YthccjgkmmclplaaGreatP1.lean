/- Plain laws: words and presentations, as the spec and the code know them. -/
import Derived.Test.YthccjgkmmclplaaGreatA1
namespace Go.Proofs.YthccjgkmmclplaaGreat
open Go.H
set_option linter.unusedVariables false
set_option linter.unusedSimpArgs false

theorem FUEL_big {n : Nat} (h : n ≤ 140737488355328) : n < FUEL := by unfold FUEL; omega
theorem grd_true {p : Prop} [Decidable p] (h : p) : grd p = some () := by unfold grd; rw [if_pos h]
theorem chk_true {α : Type} (o : Option α) (d : α) : chk true o d = o := rfl
theorem chk_false {α : Type} (o : Option α) (d : α) : chk false o d = some d := rfl
theorem gi_at {α : Type} {xs : List α} {k : Nat} {x : α} (h : xs[k]? = some x) : gi xs (k : Int) = some x := by rw [gi_nat]; exact h
theorem gi_at0 {α : Type} {xs : List α} {x : α} (h : xs[0]? = some x) : gi xs 0 = some x := gi_at (k := 0) h
theorem lt_cast (a b : Nat) : (decide ((a : Int) < ((b : Nat) : Int)) = true) ↔ a < b := by simp
theorem neg64 {x : Int} (h : In64 x) (h2 : x ≠ -9223372036854775808) : IntKind.i64.wrap (0 - x) = -x := by rw [w64 (by have := h.1; have := h.2; omega) (by have := h.1; have := h.2; omega)]; omega
theorem wpred {n : Nat} (h : 0 < n) (hm : n ≤ 9223372036854775807) : IntKind.i64.wrap ((n : Int) - 1) = ((n - 1 : Nat) : Int) := by rw [w64 (by omega) (by omega)]; omega
theorem getk {α : Type} {xs : List α} {k : Nat} (h : k < xs.length) : xs[k]? = some xs[k] := List.getElem?_eq_getElem h

def inR (lo hi x : Int) : Bool := decide (lo ≤ x) && decide (x ≤ hi)
def badAt (lo hi : Int) (w : List Int) (i : Nat) : Bool :=
  match w[i]? with
  | none => true
  | some x => x == 0 || !inR lo hi x || (decide (0 < i) && match w[i - 1]? with
    | none => true
    | some y => x == IntKind.i64.wrap (0 - y))
def okFrom (lo hi : Int) (w : List Int) : Nat → Nat → Bool
  | 0, _ => true
  | d + 1, k => !badAt lo hi w k && okFrom lo hi w d (k + 1)
def F_IsWord (r : Int) (w : List Int) : Bool := inR 1 3 r && decide (w.length ≤ 24) && okFrom (-r) r w w.length 0

theorem m_l1In (a b c : Int) : M_spec_l1In a b c = some (inR b c a) := by
  unfold M_spec_l1In inR
  by_cases h : b ≤ a <;> simp [h]
theorem m_within (a b c : Int) : M_impl_within a b c = some (inR b c a) := m_l1In a b c

theorem L_spec_IsWord_eq (r : Int) (w : List Int) (hl : w.length ≤ 140737488355328) : ∀ (d k fuel : Nat), k + d = w.length → d < fuel →
    L_spec_IsWord_0 w r fuel (k : Int) = some (bif okFrom (IntKind.i64.wrap (0 - r)) r w d k then .inr () else .inl false)
  | d, k, 0, hk, hf => by omega
  | 0, k, fuel + 1, hk, hf => by
    rw [L_spec_IsWord_0_succ, if_neg (by simp; omega)]
    simp [okFrom]
  | d + 1, k, fuel + 1, hk, hf => by
    have hkl : k < w.length := by omega
    have hx := getk hkl
    generalize w[k] = x at hx
    have next := L_spec_IsWord_eq r w hl d (k + 1) fuel (by omega) (by omega)
    rw [L_spec_IsWord_0_succ, if_pos (by simp; omega)]
    generalize IntKind.i64.wrap (0 - r) = lo at next ⊢
    simp only [gi_at hx, Option.bind_some, m_l1In, wsucc hkl (by omega : w.length ≤ 9223372036854775807), next]
    have hbad : badAt lo r w k = (x == 0 || !inR lo r x || (decide (0 < k) && match w[k - 1]? with
      | none => true
      | some y => x == IntKind.i64.wrap (0 - y))) := by unfold badAt; rw [hx]
    simp only [okFrom, hbad]
    by_cases h0 : x = 0
    · simp [h0, chk]
    have e0 : decide (x = 0) = false := by simpa using h0
    have b0 : (x == 0) = false := by simpa using h0
    cases hin : inR lo r x with
    | false => simp [e0, b0, hin, chk]
    | true =>
      by_cases hk0 : k = 0
      · have ek : decide ((k : Int) > 0) = false := by simp; omega
        have bk : decide (0 < k) = false := by simp; omega
        simp only [e0, b0, hin, ek, bk, chk_true, chk_false, Bool.not_true, Bool.not_false, Bool.and_true, Bool.false_and, Bool.or_self, Bool.true_and, cond_true, cond_false, Option.bind_some, Bool.or_false, Bool.and_false, Bool.false_eq_true, if_false, cond_true, cond_false]
      · have hy := getk (show k - 1 < w.length by omega)
        generalize w[k - 1] = y at hy
        have hpr : IntKind.i64.wrap ((k : Int) - 1) = ((k - 1 : Nat) : Int) := wpred (by omega) (by omega)
        have ek : decide ((k : Int) > 0) = true := by simp; omega
        have bk : decide (0 < k) = true := by simp; omega
        simp only [e0, b0, hin, ek, bk, hpr, hy, gi_at hx, gi_at hy, chk_true, chk_false, Bool.not_true, Bool.not_false, Bool.and_true, Bool.false_and, Bool.or_self, Bool.true_and, cond_true, cond_false, Option.bind_some, Bool.or_false, Bool.and_false, Bool.false_or]
        by_cases hxy : x = IntKind.i64.wrap (0 - y)
        · have e1 : decide (x = IntKind.i64.wrap (0 - y)) = true := by simpa using hxy
          have b1 : (x == IntKind.i64.wrap (0 - y)) = true := by simpa using hxy
          simp only [e1, b1, if_true, Bool.not_true, Bool.false_and, Bool.false_eq_true, if_false, cond_true, cond_false]
        · have e1 : decide (x = IntKind.i64.wrap (0 - y)) = false := by simpa using hxy
          have b1 : (x == IntKind.i64.wrap (0 - y)) = false := by simpa using hxy
          simp only [e1, b1, Bool.false_eq_true, if_false, Bool.not_false, Bool.true_and]
theorem m_specIsWord (r : Int) (w : List Int) (hl : w.length ≤ 140737488355328) : M_spec_IsWord r w = some (F_IsWord r w) := by
  unfold M_spec_IsWord
  have h := L_spec_IsWord_eq r w hl w.length 0 FUEL (by omega) (FUEL_big hl)
  rw [show ((0 : Nat) : Int) = 0 from rfl] at h
  rw [h, m_l1In]
  unfold F_IsWord
  by_cases hr : inR 1 3 r = true
  · have : IntKind.i64.wrap (0 - r) = -r := by
      simp only [inR, Bool.and_eq_true, decide_eq_true_eq] at hr
      rw [w64 (by omega) (by omega)]; omega
    rw [this, hr]
    cases okFrom (-r) r w w.length 0 <;> simp [outK] <;> omega
  · simp only [Bool.not_eq_true] at hr
    rw [hr]
    cases okFrom (IntKind.i64.wrap (0 - r)) r w w.length 0 <;> simp [outK]
theorem m_isLetter (r x : Int) (hr : inR 1 3 r = true) : M_impl_isLetter r x = some (!(x == 0) && inR (-r) r x) := by
  have hn : IntKind.i64.wrap (0 - r) = -r := by
    simp only [inR, Bool.and_eq_true, decide_eq_true_eq] at hr
    rw [w64 (by omega) (by omega)]; omega
  unfold M_impl_isLetter
  rw [hn, m_within]
  by_cases h0 : x = 0
  · simp [h0, chk]
  · simp [h0, chk]
theorem m_areInverse (y x : Int) : M_impl_areInverse y x = some (!(y == 0) && !(y == -9223372036854775808) && (x == IntKind.i64.wrap (0 - y))) := by
  unfold M_impl_areInverse
  by_cases h0 : y = 0
  · simp [h0]
  · by_cases h1 : y = -9223372036854775808
    · simp [h1]
    · simp only [h0, h1, decide_false, Bool.not_false, cond_true, Option.some.injEq]
      have b2 : (y == 0) = false := by simpa using h0
      have b3 : (y == -9223372036854775808) = false := by simpa using h1
      rw [b2, b3]
      rfl
theorem L_impl_IsWord_eq (r : Int) (w : List Int) (hr : inR 1 3 r = true) (hl : w.length ≤ 140737488355328) : ∀ (d k fuel : Nat), k + d = w.length → d < fuel →
    (∀ i, i < k → badAt (-r) r w i = false) →
    L_impl_IsWord_0 w r fuel (k : Int) = some (bif okFrom (-r) r w d k then .inr () else .inl false)
  | d, k, 0, hk, hf, hp => by omega
  | 0, k, fuel + 1, hk, hf, hp => by
    rw [L_impl_IsWord_0_succ, if_neg (by simp; omega)]
    simp [okFrom]
  | d + 1, k, fuel + 1, hk, hf, hp => by
    have hkl : k < w.length := by omega
    have hx := getk hkl
    generalize w[k] = x at hx
    have next := fun (hb : badAt (-r) r w k = false) => L_impl_IsWord_eq r w hr hl d (k + 1) fuel (by omega) (by omega) (fun i hi => by
      by_cases e : i = k
      · subst e; exact hb
      · exact hp i (by omega))
    rw [L_impl_IsWord_0_succ, if_pos (by simp; omega)]
    rw [gi_at hx, Option.bind_some, m_isLetter r x hr, wsucc hkl (by omega : w.length ≤ 9223372036854775807)]
    have hbad : badAt (-r) r w k = (x == 0 || !inR (-r) r x || (decide (0 < k) && match w[k - 1]? with
      | none => true
      | some y => x == IntKind.i64.wrap (0 - y))) := by unfold badAt; rw [hx]
    simp only [okFrom]
    by_cases h0 : x = 0
    · simp [h0, chk, hbad]
    have b0 : (x == 0) = false := by simpa using h0
    cases hin : inR (-r) r x with
    | false => simp [b0, hin, chk, hbad]
    | true =>
      by_cases hk0 : k = 0
      · have hb : badAt (-r) r w k = false := by rw [hbad]; simp [h0, hin, hk0]
        rw [next hb, hb]
        have ek : decide ((k : Int) > 0) = false := by simp; omega
        simp only [b0, ek, chk_true, chk_false, Bool.not_true, Bool.not_false, Bool.and_true, Bool.false_and, Bool.or_self, Bool.true_and, cond_true, cond_false, Option.bind_some, Bool.or_false, Bool.and_false, Bool.false_eq_true, if_false, cond_true, cond_false]
      · have hy := getk (show k - 1 < w.length by omega)
        have hpy := hp (k - 1) (by omega)
        generalize w[k - 1] = y at hy
        have hy0 : y ≠ 0 ∧ y ≠ -9223372036854775808 := by
          unfold badAt at hpy
          rw [hy] at hpy
          simp only [Bool.or_eq_false_iff, Bool.not_eq_false'] at hpy
          have h1 := hpy.1.2
          simp only [inR, Bool.and_eq_true, decide_eq_true_eq] at h1 hr
          exact ⟨by simpa using hpy.1.1, by omega⟩
        have b2 : (y == 0) = false := by simpa using hy0.1
        have b3 : (y == -9223372036854775808) = false := by simpa using hy0.2
        have hpr : IntKind.i64.wrap ((k : Int) - 1) = ((k - 1 : Nat) : Int) := wpred (by omega) (by omega)
        have ek : decide ((k : Int) > 0) = true := by simp; omega
        have bk : decide (0 < k) = true := by simp; omega
        simp only [b0, ek, hpr, gi_at hy, m_areInverse, b2, b3, chk_true, chk_false, Bool.not_true, Bool.not_false, Bool.and_true, Bool.false_and, Bool.or_self, Bool.true_and, cond_true, cond_false, Option.bind_some, Bool.or_false, Bool.and_false, Bool.false_or]
        cases b1 : (x == IntKind.i64.wrap (0 - y)) with
        | true =>
          have hb : badAt (-r) r w k = true := by rw [hbad, hy, bk, b0, hin]; exact b1
          simp only [hb, if_true, Bool.not_true, Bool.false_and, Bool.false_eq_true, if_false, cond_true, cond_false]
        | false =>
          have hb : badAt (-r) r w k = false := by rw [hbad, hy, bk, b0, hin]; exact b1
          simp only [hb, next hb, Bool.false_eq_true, if_false, Bool.not_false, Bool.true_and]
theorem m_implIsWord (r : Int) (w : List Int) (hl : w.length ≤ 140737488355328) : M_impl_IsWord r w = some (F_IsWord r w) := by
  unfold M_impl_IsWord
  rw [m_within]
  unfold F_IsWord
  cases hr : inR 1 3 r with
  | false => simp
  | true =>
    by_cases h24 : w.length ≤ 24
    · have h := L_impl_IsWord_eq r w hr hl w.length 0 FUEL (by omega) (FUEL_big hl) (fun i hi => by omega)
      rw [show ((0 : Nat) : Int) = 0 from rfl] at h
      have h24' : ¬ (24 : Int) < (w.length : Int) := by omega
      simp only [Option.bind_some, h, h24']
      cases okFrom (-r) r w w.length 0 <;> simp [outK, h24]
    · have h24' : (24 : Int) < (w.length : Int) := by omega
      simp [h24, h24']
end Go.Proofs.YthccjgkmmclplaaGreat
