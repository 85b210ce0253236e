/- Plain laws: words compared. -/
import Derived.Test.YthccjgkmmclplaaA5
import Derived.Test.YthccjgkmmclplaaP1b
import Derived.Test.YthccjgkmmclplaaH33
namespace Go.Proofs.Ythccjgkmmclplaa
open Go.H
set_option linter.unusedVariables false
set_option linter.unusedSimpArgs false

theorem maxabs {x : Int} (h : In64 x) (h2 : x ≠ -9223372036854775808) : (if IntKind.i64.wrap (0 - x) > x then IntKind.i64.wrap (0 - x) else x) = if x < 0 then -x else x := by
  rw [neg64 h h2]
  split <;> split <;> omega
theorem maxmin : (if IntKind.i64.wrap (0 - (-9223372036854775808)) > -9223372036854775808 then IntKind.i64.wrap (0 - (-9223372036854775808)) else -9223372036854775808) = -9223372036854775808 := by decide
theorem m_specL2Order {x y : Int} (hx : In64 x) (hy : In64 y) : M_spec_l2Order x y = some (cmpK x y) := by
  have bx := hx.1; have by' := hy.1
  have cx := hx.2; have cy := hy.2
  unfold M_spec_l2Order cmpK cmpI keyL
  by_cases e : x = y
  · subst e; simp
  · rw [if_neg (by simpa using e)]
    by_cases ex : x = -9223372036854775808
    · subst ex
      rw [maxmin]
      rw [if_pos (by simp)]
      congr 1
      repeat' split
      all_goals omega
    · rw [maxabs hx ex]
      by_cases ey : y = -9223372036854775808
      · subst ey
        rw [maxmin]
        have h1 : ¬ (if x < 0 then -x else x) < 0 := by split <;> omega
        have h2 : ¬ (if x < 0 then -x else x) = -9223372036854775808 := by split <;> omega
        simp only [h1, h2, decide_false, decide_true, cond_false]
        rw [if_neg (by simp)]
        congr 1
        repeat' split
        all_goals omega
      · rw [maxabs hy ey]
        have h1 : ¬ (if x < 0 then -x else x) < 0 := by split <;> omega
        have h2 : (if y < 0 then -y else y) ≥ 0 := by split <;> omega
        simp only [h1, h2, decide_false, decide_true, cond_false, cond_true]
        generalize hc : (if x < 0 then -x else x) = ax
        generalize hd : (if y < 0 then -y else y) = ay
        by_cases h3 : ax > ay
        · simp only [h3, decide_true, cond_true, if_true]
          congr 1
          split at hc <;> split at hd <;> (repeat' split) <;> omega
        · simp only [h3, decide_false, cond_false]
          by_cases h4 : ax = ay
          · simp only [h4, decide_true, cond_true]
            by_cases h5 : x < y
            · simp only [h5, decide_true, if_true]
              congr 1
              split at hc <;> split at hd <;> (repeat' split) <;> omega
            · simp only [h5, decide_false, Bool.false_eq_true, if_false]
              congr 1
              split at hc <;> split at hd <;> (repeat' split) <;> omega
          · simp only [h4, decide_false, cond_false, Bool.false_eq_true, if_false]
            congr 1
            split at hc <;> split at hd <;> (repeat' split) <;> omega
theorem m_compareInts (x y : Int) : M_impl_compareInts x y = some (cmpI x y) := by
  unfold M_impl_compareInts cmpI
  by_cases h : x < y
  · simp [h]
  · by_cases h2 : x > y
    · simp [h, h2]
    · simp [h, h2]
theorem m_compareLetters {x y : Int} (hx : In64 x) (hy : In64 y) : M_impl_compareLetters x y = some (cmpK x y) := by
  have bx := hx.1; have by' := hy.1
  have cx := hx.2; have cy := hy.2
  unfold M_impl_compareLetters
  by_cases e : x = y
  · subst e; rw [if_pos (by simp), cmpK_lin.refl]
  · rw [if_neg (by simpa using e)]
    by_cases ex : x = -9223372036854775808
    · subst ex
      rw [if_pos (by simp)]
      unfold cmpK cmpI keyL
      congr 1
      repeat' split
      all_goals omega
    · rw [if_neg (by simpa using ex)]
      by_cases ey : y = -9223372036854775808
      · subst ey
        rw [if_pos (by simp)]
        unfold cmpK cmpI keyL
        congr 1
        repeat' split
        all_goals omega
      · rw [if_neg (by simpa using ey), maxabs hx ex, maxabs hy ey, m_compareInts, Option.bind_some, grd_true (cmpI_64 _ _), Option.bind_some]
        by_cases h : cmpI (if x < 0 then -x else x) (if y < 0 then -y else y) = 0
        · rw [if_neg (by simpa using h), m_compareInts, Option.bind_some, grd_true (cmpI_64 _ _), Option.bind_some]
          have h := cmpI_lin.eq _ _ h
          unfold cmpK cmpI keyL
          congr 1
          split at h <;> split at h <;> (repeat' split) <;> omega
        · rw [if_pos (by simpa using h)]
          unfold cmpK cmpI keyL
          unfold cmpI at h
          congr 1
          (repeat' split) <;> omega
def all64' (w : List Int) : Prop := ∀ (k : Nat) (x : Int), w[k]? = some x → In64 x
theorem loopCmp (a b : List Int) (hab : a.length = b.length) (ha : all64' a) (hb : all64' b) (hl : a.length ≤ 9223372036854775807) : ∀ (d k fuel : Nat), k + d = a.length → d < fuel →
    L_spec_CompareWords_0 a b fuel (k : Int) = some (bif decide (cmpL cmpK (a.drop k) (b.drop k) = 0) then .inr () else .inl (cmpL cmpK (a.drop k) (b.drop k)))
  | d, k, 0, hk, hf => by omega
  | 0, k, fuel + 1, hk, hf => by
    rw [L_spec_CompareWords_0_succ, if_neg (by simp; omega), drop_done (by omega), drop_done (by omega)]
    rfl
  | d + 1, k, fuel + 1, hk, hf => by
    have hx := getk (show k < a.length by omega)
    have hy := getk (show k < b.length by omega)
    have next := loopCmp a b hab ha hb hl d (k + 1) fuel (by omega) (by omega)
    generalize a[k] = x at hx
    generalize b[k] = y at hy
    have h64 : In64 (cmpK x y) := cmpK_64 _ _
    rw [L_spec_CompareWords_0_succ, if_pos (by simp; omega), gi_at hx, Option.bind_some, gi_at hy, Option.bind_some, m_specL2Order (ha _ _ hx) (hb _ _ hy), Option.bind_some, grd_true h64, Option.bind_some,
      drop_get hx, drop_get hy]
    simp only [cmpL, thenC]
    by_cases h : cmpK x y = 0
    · rw [if_neg (by simpa using h), wsucc (show k < a.length by omega) hl, next]
      simp [h]
    · rw [if_pos (by simpa using h)]
      simp [h]
theorem FUEL_len {n : Nat} (h : n ≤ 9223372036854775807) : n < FUEL := by unfold FUEL; omega
theorem m_specCompareWords {a b : List Int} (ha : all64' a) (hb : all64' b) (la : a.length ≤ 9223372036854775807) : M_spec_CompareWords a b = some (F_CompareWords a b) := by
  unfold M_spec_CompareWords F_CompareWords
  by_cases h : a.length = b.length
  · rw [if_neg (by simp [h])]
    have := loopCmp a b h ha hb (by omega) a.length 0 FUEL (by omega) (FUEL_len la)
    rw [show ((0 : Nat) : Int) = 0 from rfl] at this
    rw [this]
    simp only [List.drop_zero, Option.bind_some]
    have e : cmpI (a.length : Int) (b.length : Int) = 0 := by rw [h]; exact cmpI_lin.refl _
    rw [e]
    by_cases h2 : cmpL cmpK a b = 0
    · simp [h2, thenC, outK]
    · simp [h2, thenC, outK]
  · rw [if_pos (by simp; omega)]
    by_cases h2 : a.length < b.length
    · rw [if_pos (by simp; omega)]
      have e : cmpI (a.length : Int) (b.length : Int) = -1 := by unfold cmpI; rw [if_pos (by omega)]
      rw [e]; rfl
    · rw [if_neg (by simp; omega)]
      have e : cmpI (a.length : Int) (b.length : Int) = 1 := by unfold cmpI; rw [if_neg (by omega), if_pos (by omega)]
      rw [e]; rfl
theorem loopCmp' (a b : List Int) (hab : a.length = b.length) (ha : all64' a) (hb : all64' b) (hl : a.length ≤ 9223372036854775807) : ∀ (d k fuel : Nat), k + d = a.length →
    L_impl_CompareWords_0 a b fuel (k : Int) = L_spec_CompareWords_0 a b fuel (k : Int)
  | d, k, 0, hk => rfl
  | 0, k, fuel + 1, hk => by
    rw [L_spec_CompareWords_0_succ, L_impl_CompareWords_0_succ, if_neg (by simp; omega), if_neg (by simp; omega)]
  | d + 1, k, fuel + 1, hk => by
    have hx := getk (show k < a.length by omega)
    have hy := getk (show k < b.length by omega)
    have next := loopCmp' a b hab ha hb hl d (k + 1) fuel (by omega)
    generalize a[k] = x at hx
    generalize b[k] = y at hy
    rw [L_spec_CompareWords_0_succ, L_impl_CompareWords_0_succ, gi_at hx, Option.bind_some, gi_at hy, Option.bind_some, Option.bind_some, Option.bind_some, m_specL2Order (ha _ _ hx) (hb _ _ hy), m_compareLetters (ha _ _ hx) (hb _ _ hy), wsucc (show k < a.length by omega) hl, next]
theorem m_implCompareWords {a b : List Int} (ha : all64' a) (hb : all64' b) (la : a.length ≤ 9223372036854775807) : M_impl_CompareWords a b = some (F_CompareWords a b) := by
  have hs := m_specCompareWords ha hb la
  unfold M_impl_CompareWords
  rw [m_compareInts, Option.bind_some, grd_true (cmpI_64 _ _), Option.bind_some]
  unfold F_CompareWords
  by_cases h : cmpI (a.length : Int) (b.length : Int) = 0
  · have h1 : a.length = b.length := by have := cmpI_lin.eq _ _ h; omega
    rw [if_neg (by simpa using h), show L_impl_CompareWords_0 a b FUEL 0 = L_spec_CompareWords_0 a b FUEL 0 from loopCmp' a b h1 ha hb (by omega) a.length 0 FUEL (by omega)]
    unfold M_spec_CompareWords at hs
    rw [if_neg (by simp [h1])] at hs
    exact hs
  · rw [if_pos (by simpa using h)]
    unfold thenC
    rw [if_pos h]
theorem loopEq (a b : List Int) (hab : a.length = b.length) (hl : a.length ≤ 9223372036854775807) : ∀ (d k fuel : Nat), k + d = a.length → d < fuel →
    L_spec_EqualWords_0 a b fuel (k : Int) = some (bif eqW (a.drop k) (b.drop k) then .inr () else .inl false)
  | d, k, 0, hk, hf => by omega
  | 0, k, fuel + 1, hk, hf => by
    rw [L_spec_EqualWords_0_succ, if_neg (by simp; omega), drop_done (by omega), drop_done (by omega)]
    rfl
  | d + 1, k, fuel + 1, hk, hf => by
    have hx := getk (show k < a.length by omega)
    have hy := getk (show k < b.length by omega)
    have next := loopEq a b hab hl d (k + 1) fuel (by omega) (by omega)
    generalize a[k] = x at hx
    generalize b[k] = y at hy
    rw [L_spec_EqualWords_0_succ, if_pos (by simp; omega), gi_at hx, Option.bind_some, gi_at hy, Option.bind_some, drop_get hx, drop_get hy]
    unfold eqW at next ⊢
    by_cases h : x = y
    · rw [if_neg (by simpa using h), wsucc (show k < a.length by omega) hl, next]
      simp [h]
    · rw [if_pos (by simpa using h)]
      simp [h]
theorem m_specEqualWords {a b : List Int} (la : a.length ≤ 9223372036854775807) : M_spec_EqualWords a b = some (eqW a b) := by
  unfold M_spec_EqualWords
  by_cases h : a.length = b.length
  · rw [if_neg (by simp [h])]
    have := loopEq a b h (by omega) a.length 0 FUEL (by omega) (FUEL_len la)
    rw [show ((0 : Nat) : Int) = 0 from rfl] at this
    rw [this]
    simp only [List.drop_zero, Option.bind_some]
    unfold eqW
    by_cases h2 : a = b
    · simp [h2, outK]
    · simp [h2, outK]
  · rw [if_pos (by simp; omega)]
    unfold eqW
    have : ¬ a = b := fun e => h (by rw [e])
    simp [this]
theorem L_impl_EqualWords_same (a b : List Int) : ∀ (fuel : Nat) (k : Int), L_impl_EqualWords_0 a b fuel k = L_spec_EqualWords_0 a b fuel k
  | 0, k => rfl
  | fuel + 1, k => by
    rw [L_impl_EqualWords_0_succ, L_spec_EqualWords_0_succ]
    simp only [L_impl_EqualWords_same a b fuel]
theorem m_implEqualWords {a b : List Int} (la : a.length ≤ 9223372036854775807) : M_impl_EqualWords a b = some (eqW a b) := by
  rw [← m_specEqualWords la]
  unfold M_impl_EqualWords M_spec_EqualWords
  rw [L_impl_EqualWords_same]
theorem m_copyInts {a : List Int} (la : a.length ≤ 1099511627776) : M_impl_copyInts a = some a := by
  unfold M_impl_copyInts
  rw [grd_true (by simp; omega)]
  rfl
end Go.Proofs.Ythccjgkmmclplaa
