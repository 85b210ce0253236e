/- Plain laws: lists of words, and presentations, as the spec and the code know them. -/
import Derived.Test.YthccjgkmmclplaaGreatP1
namespace Go.Proofs.YthccjgkmmclplaaGreat
open Go.H
set_option linter.unusedVariables false
set_option linter.unusedSimpArgs false

def tot : List (List Int) → Nat
  | [] => 0
  | w :: r => w.length + tot r
theorem drop_get {α : Type} {xs : List α} {k : Nat} {x : α} (h : xs[k]? = some x) : xs.drop k = x :: xs.drop (k + 1) := by
  obtain ⟨hk, rfl⟩ := List.getElem?_eq_some_iff.1 h
  exact List.drop_eq_getElem_cons hk
theorem drop_done {α : Type} {xs : List α} {k : Nat} (h : k = xs.length) : xs.drop k = [] := by rw [h]; exact List.drop_length

theorem L_spec_TotalLength_eq (ws : List (List Int)) (hl : ws.length ≤ 140737488355328) : ∀ (d k fuel a : Nat), k + d = ws.length → d < fuel → a + tot (ws.drop k) ≤ 9223372036854775807 →
    L_spec_TotalLength_0 ws fuel (a : Int) (k : Int) = some ((a + tot (ws.drop k) : Nat) : Int)
  | d, k, 0, a, hk, hf, ht => by omega
  | 0, k, fuel + 1, a, hk, hf, ht => by
    rw [L_spec_TotalLength_0_succ, if_neg (by simp; omega), drop_done (by omega)]
    rfl
  | d + 1, k, fuel + 1, a, hk, hf, ht => by
    have hkl : k < ws.length := by omega
    have hx := getk hkl
    generalize ws[k] = x at hx
    rw [drop_get hx] at ht ⊢
    simp only [tot] at ht ⊢
    rw [L_spec_TotalLength_0_succ, if_pos (by simp; omega), gi_at hx, Option.bind_some, wsucc hkl (by omega : ws.length ≤ 9223372036854775807),
      show IntKind.i64.wrap ((a : Int) + ((x.length : Nat) : Int)) = ((a + x.length : Nat) : Int) by rw [w64 (by omega) (by omega)]; omega,
      L_spec_TotalLength_eq ws hl d (k + 1) fuel (a + x.length) (by omega) (by omega) (by omega)]
    rw [Nat.add_assoc]
theorem m_specTotalLength (ws : List (List Int)) (hl : ws.length ≤ 140737488355328) (ht : tot ws ≤ 9223372036854775807) : M_spec_TotalLength ws = some ((tot ws : Nat) : Int) := by
  unfold M_spec_TotalLength
  have h := L_spec_TotalLength_eq ws hl ws.length 0 FUEL 0 (by omega) (FUEL_big hl) (by simpa using ht)
  rw [show ((0 : Nat) : Int) = 0 from rfl] at h
  rw [h]
  simp
theorem L_impl_TotalLength_same (ws : List (List Int)) : ∀ (fuel : Nat) (a k : Int), L_impl_TotalLength_0 ws fuel a k = L_spec_TotalLength_0 ws fuel a k
  | 0, a, k => rfl
  | fuel + 1, a, k => by
    rw [L_impl_TotalLength_0_succ, L_spec_TotalLength_0_succ]
    simp only [L_impl_TotalLength_same ws fuel]
theorem m_implTotalLength (ws : List (List Int)) (hl : ws.length ≤ 140737488355328) (ht : tot ws ≤ 9223372036854775807) : M_impl_TotalLength ws = some ((tot ws : Nat) : Int) := by
  rw [← m_specTotalLength ws hl ht]
  unfold M_impl_TotalLength M_spec_TotalLength
  rw [L_impl_TotalLength_same]

def allW (r : Int) : List (List Int) → Bool
  | [] => true
  | w :: l => F_IsWord r w && allW r l
def F_AreWords (r : Int) (ws : List (List Int)) : Bool := inR 1 3 r && decide (ws.length ≤ 6) && allW r ws && decide (tot ws < 40)
theorem allW_tot {r : Int} : ∀ {ws : List (List Int)}, allW r ws = true → tot ws ≤ 24 * ws.length
  | [], _ => by simp [tot]
  | w :: l, h => by
    simp only [allW, Bool.and_eq_true] at h
    have h1 := h.1
    simp only [F_IsWord, Bool.and_eq_true, decide_eq_true_eq] at h1
    have := allW_tot h.2
    simp only [tot, List.length_cons]
    omega
def wordsShort (ws : List (List Int)) : Prop := ∀ w ∈ ws, w.length ≤ 140737488355328
theorem L_spec_AreWords_eq (r : Int) (ws : List (List Int)) (hl : ws.length ≤ 140737488355328) (hs : wordsShort ws) : ∀ (d k fuel : Nat), k + d = ws.length → d < fuel →
    L_spec_AreWords_0 ws r fuel (k : Int) = some (bif allW r (ws.drop k) then .inr () else .inl false)
  | d, k, 0, hk, hf => by omega
  | 0, k, fuel + 1, hk, hf => by
    rw [L_spec_AreWords_0_succ, if_neg (by simp; omega), drop_done (by omega)]
    rfl
  | d + 1, k, fuel + 1, hk, hf => by
    have hkl : k < ws.length := by omega
    have hx := getk hkl
    have hsx := hs _ (List.mem_of_getElem? hx)
    generalize ws[k] = x at hx hsx
    rw [drop_get hx, L_spec_AreWords_0_succ, if_pos (by simp; omega), gi_at hx, Option.bind_some, m_specIsWord r x hsx, Option.bind_some, wsucc hkl (by omega : ws.length ≤ 9223372036854775807),
      L_spec_AreWords_eq r ws hl hs d (k + 1) fuel (by omega) (by omega)]
    simp only [allW]
    cases F_IsWord r x <;> simp
theorem m_specAreWords (r : Int) (ws : List (List Int)) (hl : ws.length ≤ 140737488355328) (hs : wordsShort ws) : M_spec_AreWords r ws = some (F_AreWords r ws) := by
  unfold M_spec_AreWords
  have h := L_spec_AreWords_eq r ws hl hs ws.length 0 FUEL (by omega) (FUEL_big hl)
  rw [show ((0 : Nat) : Int) = 0 from rfl, List.drop_zero] at h
  rw [h, Option.bind_some]
  unfold F_AreWords
  cases ha : allW r ws with
  | false => simp [outK]
  | true =>
    rw [cond_true, outK_inr, m_l1In, Option.bind_some]
    have := allW_tot ha
    cases hr : inR 1 3 r with
    | false => simp [chk, grd, In64]
    | true =>
      by_cases h6 : ws.length ≤ 6
      · rw [m_specTotalLength ws hl (by omega)]
        have h6' : decide (((ws.length : Nat) : Int) ≤ 6) = true := by simp; omega
        have h6'' : decide (ws.length ≤ 6) = true := by simpa using h6
        rw [h6', h6'', cond_true, chk_true, Option.bind_some, grd_true (by constructor <;> omega)]
        simp
        omega
      · have h6' : decide (((ws.length : Nat) : Int) ≤ 6) = false := by simp; omega
        have h6'' : decide (ws.length ≤ 6) = false := by simpa using h6
        rw [h6', h6'']
        simp [chk, grd, In64]
theorem L_impl_AreWords_eq (r : Int) (ws : List (List Int)) (hl : ws.length ≤ 140737488355328) (hs : wordsShort ws) : ∀ (d k fuel : Nat), k + d = ws.length → d < fuel →
    L_impl_AreWords_0 ws r fuel (k : Int) = some (bif allW r (ws.drop k) then .inr () else .inl false)
  | d, k, 0, hk, hf => by omega
  | 0, k, fuel + 1, hk, hf => by
    rw [L_impl_AreWords_0_succ, if_neg (by simp; omega), drop_done (by omega)]
    rfl
  | d + 1, k, fuel + 1, hk, hf => by
    have hkl : k < ws.length := by omega
    have hx := getk hkl
    have hsx := hs _ (List.mem_of_getElem? hx)
    generalize ws[k] = x at hx hsx
    rw [drop_get hx, L_impl_AreWords_0_succ, if_pos (by simp; omega), gi_at hx, Option.bind_some, m_implIsWord r x hsx, Option.bind_some, wsucc hkl (by omega : ws.length ≤ 9223372036854775807),
      L_impl_AreWords_eq r ws hl hs d (k + 1) fuel (by omega) (by omega)]
    simp only [allW]
    cases F_IsWord r x <;> simp
theorem m_implAreWords (r : Int) (ws : List (List Int)) (hl : ws.length ≤ 140737488355328) (hs : wordsShort ws) : M_impl_AreWords r ws = some (F_AreWords r ws) := by
  unfold M_impl_AreWords
  rw [m_within, Option.bind_some]
  unfold F_AreWords
  cases hr : inR 1 3 r with
  | false => simp
  | true =>
    by_cases h6 : ws.length ≤ 6
    · have h6' : decide (((ws.length : Nat) : Int) > 6) = false := by simp; omega
      have h6'' : decide (ws.length ≤ 6) = true := by simpa using h6
      have h := L_impl_AreWords_eq r ws hl hs ws.length 0 FUEL (by omega) (FUEL_big hl)
      rw [show ((0 : Nat) : Int) = 0 from rfl, List.drop_zero] at h
      rw [h6', h6'', h, Option.bind_some]
      cases ha : allW r ws with
      | false => simp [outK]
      | true =>
        have := allW_tot ha
        simp only [cond_true, outK_inr, m_implTotalLength ws hl (by omega), Option.bind_some, grd_true (show In64 ((tot ws : Nat) : Int) by constructor <;> omega)]
        simp
        omega
    · have h6' : decide (((ws.length : Nat) : Int) > 6) = true := by simp; omega
      have h6'' : decide (ws.length ≤ 6) = false := by simpa using h6
      rw [h6', h6'']
      simp

def cyc (w : List Int) : Bool := match w[0]?, w[w.length - 1]? with
  | some x, some y => !(x == IntKind.i64.wrap (0 - y))
  | _, _ => false
def allC : List (List Int) → Bool
  | [] => true
  | w :: l => cyc w && allC l
def F_IsPres (x : LPresentation) : Bool := F_AreWords x.1 x.2 && allC x.2
theorem L_spec_IsPresentation_eq (ws : List (List Int)) (hl : ws.length ≤ 140737488355328) (hs : wordsShort ws) : ∀ (d k fuel : Nat), k + d = ws.length → d < fuel →
    L_spec_IsPresentation_0 ws fuel (k : Int) = some (bif allC (ws.drop k) then .inr () else .inl false)
  | d, k, 0, hk, hf => by omega
  | 0, k, fuel + 1, hk, hf => by
    rw [L_spec_IsPresentation_0_succ, if_neg (by simp; omega), drop_done (by omega)]
    rfl
  | d + 1, k, fuel + 1, hk, hf => by
    have hkl : k < ws.length := by omega
    have hx := getk hkl
    have hsx := hs _ (List.mem_of_getElem? hx)
    generalize ws[k] = x at hx hsx
    rw [drop_get hx, L_spec_IsPresentation_0_succ, if_pos (by simp; omega), gi_at hx, Option.bind_some, wsucc hkl (by omega : ws.length ≤ 9223372036854775807),
      L_spec_IsPresentation_eq ws hl hs d (k + 1) fuel (by omega) (by omega)]
    simp only [allC]
    by_cases h0 : x.length = 0
    · have : x = [] := List.length_eq_zero_iff.1 h0
      subst this
      simp [chk, cyc]
    · have e0 : decide (((x.length : Nat) : Int) = 0) = false := by simpa using h0
      have h1 := getk (show 0 < x.length by omega)
      have h2 := getk (show x.length - 1 < x.length by omega)
      have hc : cyc x = !(x[0] == IntKind.i64.wrap (0 - x[x.length - 1])) := by unfold cyc; rw [h1, h2]
      generalize x[0] = a at h1 hc
      generalize x[x.length - 1] = b at h2 hc
      rw [e0, wpred (by omega) (by omega), gi_at0 h1, gi_at h2, hc]
      simp only [Bool.not_false, chk_true, Option.bind_some, cond_false]
      cases hab : (a == IntKind.i64.wrap (0 - b)) with
      | true => rw [if_pos (by simpa using hab)]; rfl
      | false => rw [if_neg (by simpa using hab)]; simp
theorem m_specIsPresentation (x : LPresentation) (hl : x.2.length ≤ 140737488355328) (hs : wordsShort x.2) : M_spec_IsPresentation x = some (F_IsPres x) := by
  obtain ⟨r, ws⟩ := x
  unfold M_spec_IsPresentation
  have h := L_spec_IsPresentation_eq ws hl hs ws.length 0 FUEL (by omega) (FUEL_big hl)
  rw [show ((0 : Nat) : Int) = 0 from rfl, List.drop_zero] at h
  simp only [h, Option.bind_some, m_specAreWords r ws hl hs, F_IsPres]
  cases allC ws <;> simp [outK]
theorem okFrom_at {lo hi : Int} {w : List Int} : ∀ {d k : Nat}, okFrom lo hi w d k = true → ∀ i, k ≤ i → i < k + d → badAt lo hi w i = false
  | 0, k, h, i, h1, h2 => by omega
  | d + 1, k, h, i, h1, h2 => by
    simp only [okFrom, Bool.and_eq_true, Bool.not_eq_true'] at h
    by_cases e : i = k
    · subst e; exact h.1
    · exact okFrom_at h.2 i (by omega) (by omega)
theorem word_letter {r : Int} {w : List Int} (h : F_IsWord r w = true) {i : Nat} {x : Int} (hx : w[i]? = some x) : (1 ≤ r ∧ r ≤ 3) ∧ w.length ≤ 24 ∧ x ≠ 0 ∧ -r ≤ x ∧ x ≤ r := by
  simp only [F_IsWord, Bool.and_eq_true, decide_eq_true_eq] at h
  have hr := h.1.1
  simp only [inR, Bool.and_eq_true, decide_eq_true_eq] at hr
  have hb := okFrom_at h.2 i (Nat.zero_le _) (by have := (List.getElem?_eq_some_iff.1 hx).1; omega)
  unfold badAt at hb
  rw [hx] at hb
  simp only [Bool.or_eq_false_iff, Bool.not_eq_false'] at hb
  have h1 := hb.1.2
  simp only [inR, Bool.and_eq_true, decide_eq_true_eq] at h1
  exact ⟨hr, h.1.2, by simpa using hb.1.1, h1⟩
theorem L_impl_IsPresentation_eq (ws : List (List Int)) (hl : ws.length ≤ 140737488355328) (hs : wordsShort ws) (r : Int) (ha : inR 1 3 r = true) : ∀ (d k fuel : Nat), k + d = ws.length → d < fuel → allW r (ws.drop k) = true →
    L_impl_IsPresentation_0 ws fuel (k : Int) = some (bif allC (ws.drop k) then .inr () else .inl false)
  | d, k, 0, hk, hf, hw => by omega
  | 0, k, fuel + 1, hk, hf, hw => by
    rw [L_impl_IsPresentation_0_succ, if_neg (by simp; omega), drop_done (by omega)]
    rfl
  | d + 1, k, fuel + 1, hk, hf, hw => by
    have hkl : k < ws.length := by omega
    have hx := getk hkl
    have hsx := hs _ (List.mem_of_getElem? hx)
    generalize ws[k] = x at hx hsx
    rw [drop_get hx] at hw ⊢
    simp only [allW, Bool.and_eq_true] at hw
    rw [L_impl_IsPresentation_0_succ, if_pos (by simp; omega), gi_at hx, Option.bind_some, wsucc hkl (by omega : ws.length ≤ 9223372036854775807),
      L_impl_IsPresentation_eq ws hl hs r ha d (k + 1) fuel (by omega) (by omega) hw.2]
    simp only [allC]
    by_cases h0 : x.length = 0
    · have : x = [] := List.length_eq_zero_iff.1 h0
      subst this
      simp [chk, cyc]
    · have e0 : decide (((x.length : Nat) : Int) = 0) = false := by simpa using h0
      have h1 := getk (show 0 < x.length by omega)
      have h2 := getk (show x.length - 1 < x.length by omega)
      have hc : cyc x = !(x[0] == IntKind.i64.wrap (0 - x[x.length - 1])) := by unfold cyc; rw [h1, h2]
      generalize x[0] = a at h1 hc
      generalize x[x.length - 1] = b at h2 hc
      obtain ⟨hr1, _, a1, a2, a3⟩ := word_letter hw.1 h1
      obtain ⟨_, _, b1, b2, b3⟩ := word_letter hw.1 h2
      have na : IntKind.i64.wrap (0 - a) = -a := by rw [w64 (by omega) (by omega)]; omega
      have nb : IntKind.i64.wrap (0 - b) = -b := by rw [w64 (by omega) (by omega)]; omega
      rw [e0, wpred (by omega) (by omega), gi_at0 h1, gi_at h2, hc]
      simp only [Bool.not_false, chk_true, Option.bind_some, cond_false, m_areInverse, na, nb]
      have q1 : (a == 0) = false := by simpa using a1
      have q2 : (a == -9223372036854775808) = false := by simp; omega
      rw [q1, q2]
      simp only [Bool.not_false, Bool.true_and]
      by_cases hab : a = -b
      · have e1 : (b == -a) = true := by simp; omega
        have e2 : (a == -b) = true := by simp; omega
        rw [e1, e2]; rfl
      · have e1 : (b == -a) = false := by simp; omega
        have e2 : (a == -b) = false := by simp; omega
        rw [e1, e2]; simp
theorem m_implIsPresentation (x : LPresentation) (hl : x.2.length ≤ 140737488355328) (hs : wordsShort x.2) : M_impl_IsPresentation x = some (F_IsPres x) := by
  obtain ⟨r, ws⟩ := x
  unfold M_impl_IsPresentation
  simp only [m_implAreWords r ws hl hs, F_IsPres, Option.bind_some]
  cases ha : F_AreWords r ws with
  | false => simp
  | true =>
    simp only [F_AreWords, Bool.and_eq_true] at ha
    have h := L_impl_IsPresentation_eq ws hl hs r ha.1.1.1 ws.length 0 FUEL (by omega) (FUEL_big hl) (by rw [List.drop_zero]; exact ha.1.2)
    rw [show ((0 : Nat) : Int) = 0 from rfl, List.drop_zero] at h
    rw [h]
    cases allC ws <;> simp [outK]
end Go.Proofs.YthccjgkmmclplaaGreat
