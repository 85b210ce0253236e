/- Plain laws: words multiplied. -/
import Derived.Test.YthccjgkmmclplaaA3
import Derived.Test.YthccjgkmmclplaaP1b
namespace Go.Proofs.Ythccjgkmmclplaa
open Go.H
set_option linter.unusedVariables false
set_option linter.unusedSimpArgs false

def ng (x : Int) : Int := IntKind.i64.wrap (0 - x)
def inv (w : List Int) : List Int := (w.map ng).reverse
theorem inv_len (w : List Int) : (inv w).length = w.length := by simp [inv]
def all64 (w : List Int) : Prop := ∀ x ∈ w, In64 x
theorem inv_64 (w : List Int) : all64 (inv w) := fun x hx => by
  simp only [inv, List.mem_reverse, List.mem_map] at hx
  obtain ⟨y, _, rfl⟩ := hx
  exact wrap64 _
theorem inv_take {w : List Int} {k : Nat} {x : Int} (hx : w[k]? = some x) : inv (w.drop k) = inv (w.drop (k + 1)) ++ [ng x] := by
  rw [drop_get hx]
  simp [inv]
theorem L_spec_InvertWord_eq (w : List Int) (hl : w.length ≤ 1099511627776) : ∀ (k fuel : Nat), k ≤ w.length → k < fuel →
    L_spec_InvertWord_0 w fuel ((k : Int) - 1) (inv (w.drop k)) = some (inv w)
  | k, 0, hk, hf => by omega
  | 0, fuel + 1, hk, hf => by
    rw [L_spec_InvertWord_0_succ, if_neg (by simp)]
    rfl
  | k + 1, fuel + 1, hk, hf => by
    have hx := getk (show k < w.length by omega)
    have next := L_spec_InvertWord_eq w hl k fuel (by omega) (by omega)
    generalize w[k] = x at hx
    rw [inv_take hx] at next
    have hlen := inv_len (w.drop (k + 1))
    rw [List.length_drop] at hlen
    rw [show (((k + 1 : Nat) : Int) - 1) = (k : Int) by omega, L_spec_InvertWord_0_succ, if_pos (by simp), gi_at hx, Option.bind_some, grd_true (by simp only [List.length_singleton]; omega), Option.bind_some,
      w64 (by omega) (by omega)]
    exact next
theorem m_specInvertWord (w : List Int) (hl : w.length ≤ 1099511627776) : M_spec_InvertWord w = some (inv w) := by
  unfold M_spec_InvertWord
  have h := L_spec_InvertWord_eq w hl w.length FUEL (Nat.le_refl _) (FUEL_big (by omega))
  rw [List.drop_length] at h
  rw [w64 (by omega) (by omega), show ([] : LIntS) = inv [] from rfl, h]
  rfl
theorem L_impl_InvertWord_same (w : List Int) : ∀ (fuel : Nat) (k : Int) (u : List Int), L_impl_InvertWord_0 w fuel k u = L_spec_InvertWord_0 w fuel k u
  | 0, k, u => rfl
  | fuel + 1, k, u => by
    rw [L_impl_InvertWord_0_succ, L_spec_InvertWord_0_succ]
    simp only [L_impl_InvertWord_same w fuel]
theorem m_implInvertWord (w : List Int) (hl : w.length ≤ 1099511627776) : M_impl_InvertWord w = some (inv w) := by
  rw [← m_specInvertWord w hl]
  unfold M_impl_InvertWord M_spec_InvertWord
  rw [grd_true (by omega), Option.bind_some, L_impl_InvertWord_same]
  rfl

/-! ### reduced words, as stacks -/
def canc (l x : Int) : Bool := !(l == 0) && !(l == -9223372036854775808) && (x == ng l)
def stepS (s : List Int) (x : Int) : List Int := match s with
  | [] => [x]
  | l :: t => bif canc l x then t else x :: l :: t
def redS (s w : List Int) : List Int := w.foldl stepS s
def Red : List Int → Bool
  | [] => true
  | [_] => true
  | x :: l :: t => !canc l x && Red (l :: t)
theorem Red_tail {x : Int} {t : List Int} (h : Red (x :: t) = true) : Red t = true := by
  cases t with
  | nil => rfl
  | cons l t => simp only [Red, Bool.and_eq_true] at h; exact h.2
theorem stepS_red {s : List Int} (x : Int) (h : Red s = true) : Red (stepS s x) = true := by
  cases s with
  | nil => rfl
  | cons l t =>
    simp only [stepS]
    cases hc : canc l x with
    | true => exact Red_tail h
    | false => simp only [cond_false, Red, hc, h]; rfl
theorem redS_red : ∀ (w s : List Int), Red s = true → Red (redS s w) = true
  | [], s, h => h
  | x :: w, s, h => redS_red w (stepS s x) (stepS_red x h)
theorem redS_app (s a b : List Int) : redS s (a ++ b) = redS (redS s a) b := List.foldl_append
theorem redS_self : ∀ (s : List Int), Red s = true → redS [] s.reverse = s
  | [], h => rfl
  | x :: t, h => by
    rw [List.reverse_cons, redS_app, redS_self t (Red_tail h)]
    show stepS t x = _
    cases t with
    | nil => rfl
    | cons l t =>
      simp only [Red, Bool.and_eq_true, Bool.not_eq_true'] at h
      simp only [stepS, h.1, cond_false]
theorem stepS_len (s : List Int) (x : Int) : (stepS s x).length ≤ s.length + 1 := by
  cases s with
  | nil => simp [stepS]
  | cons l t =>
    simp only [stepS]
    cases canc l x <;> simp <;> omega
theorem redS_len : ∀ (w s : List Int), (redS s w).length ≤ s.length + w.length
  | [], s => by simp [redS]
  | x :: w, s => by
    have := redS_len w (stepS s x)
    have := stepS_len s x
    simp only [redS, List.foldl_cons, List.length_cons] at *
    omega
theorem stepS_64 {s : List Int} {x : Int} (h : all64 s) (hx : In64 x) : all64 (stepS s x) := by
  cases s with
  | nil => intro y hy; simp [stepS] at hy; subst hy; exact hx
  | cons l t =>
    simp only [stepS]
    cases canc l x with
    | true => exact fun y hy => h y (List.mem_cons_of_mem _ hy)
    | false =>
      intro y hy
      rcases List.mem_cons.1 hy with rfl | hy
      · exact hx
      · exact h y hy
theorem redS_64 : ∀ (w s : List Int), all64 s → all64 w → all64 (redS s w)
  | [], s, hs, hw => hs
  | x :: w, s, hs, hw => redS_64 w (stepS s x) (stepS_64 hs (hw x (List.mem_cons_self ..))) fun y hy => hw y (List.mem_cons_of_mem _ hy)
theorem spec_canc {l x : Int} (hl : In64 l) (hx : In64 x) : (!(x == 0) && (l == ng x) && !(l == x)) = canc l x := by
  unfold canc ng
  have e : ∀ {z : Int}, In64 z → IntKind.i64.wrap (0 - z) = if z = -9223372036854775808 then -9223372036854775808 else -z := fun {z} hz => by
    split
    · rename_i h; subst h; decide
    · rw [w64 (by have := hz.1; have := hz.2; omega) (by have := hz.1; have := hz.2; omega)]; omega
  rw [e hl, e hx]
  have hl1 := hl.1
  have hl2 := hl.2
  have hx1 := hx.1
  have hx2 := hx.2
  rw [Bool.eq_iff_iff]
  simp only [Bool.and_eq_true, Bool.not_eq_true', beq_iff_eq, beq_eq_false_iff_ne, ne_eq]
  split <;> split <;> omega
theorem stack_last {l : Int} {t : List Int} : (l :: t).reverse[t.length]? = some l := by
  rw [List.reverse_cons, List.getElem?_append_right (by simp)]
  simp
theorem stack_pop (l : Int) (t : List Int) : (l :: t).reverse.take t.length = t.reverse := by
  rw [List.reverse_cons, List.take_append_of_le_length (by simp), List.take_of_length_le (by simp)]
theorem L_spec_ReduceLetters_eq (w : List Int) (hw : all64 w) (hl : w.length ≤ 1099511627776) : ∀ (d k fuel : Nat) (s : List Int), k + d = w.length → d < fuel → all64 s → s.length ≤ k →
    L_spec_ReduceLetters_0 w fuel (k : Int) s.reverse = some (redS s (w.drop k)).reverse
  | d, k, 0, s, hk, hf, hs, hsl => by omega
  | 0, k, fuel + 1, s, hk, hf, hs, hsl => by
    rw [L_spec_ReduceLetters_0_succ, if_neg (by simp; omega), drop_done (by omega)]
    rfl
  | d + 1, k, fuel + 1, s, hk, hf, hs, hsl => by
    have hkl : k < w.length := by omega
    have hx := getk hkl
    have hx64 := hw _ (List.mem_of_getElem? hx)
    generalize w[k] = x at hx hx64
    have next := L_spec_ReduceLetters_eq w hw hl d (k + 1) fuel (stepS s x) (by omega) (by omega) (stepS_64 hs hx64) (by have := stepS_len s x; omega)
    rw [drop_get hx]
    show _ = some (redS (stepS s x) (w.drop (k + 1))).reverse
    rw [← next, L_spec_ReduceLetters_0_succ, if_pos (by simp; omega), Option.bind_some, grd_true (by rw [List.length_reverse]; omega), Option.bind_some]
    rw [wsucc hkl (by omega : w.length ≤ 9223372036854775807)]
    have e0 : decide (x = 0) = (x == 0) := by rw [Bool.eq_iff_iff]; simp
    cases s with
    | nil =>
      have hz : decide ((((([] : List Int).reverse).length : Nat) : Int) > 0) = false := rfl
      simp only [hz, chk_false, Option.bind_some, cond_false, Bool.false_eq_true, if_false, gi_at hx]
      rw [grd_true (by simp)]
      rfl
    | cons l t =>
      have hl64 := hs l (List.mem_cons_self ..)
      have hp : decide ((((l :: t).reverse.length : Nat) : Int) > 0) = true := by simp
      have hpr : IntKind.i64.wrap ((((l :: t).reverse.length : Nat) : Int) - 1) = ((t.length : Nat) : Int) := by
        rw [wpred (by simp) (by simp only [List.length_reverse, List.length_cons] at *; omega)]; simp
      have hc := spec_canc hl64 hx64
      have e1 : decide (l = IntKind.i64.wrap (0 - x)) = (l == ng x) := by rw [Bool.eq_iff_iff]; simp [ng]
      have e2 : decide (l = x) = (l == x) := by rw [Bool.eq_iff_iff]; simp
      have hpush : (grd (((l :: t).reverse.length + [x].length) * 8 ≤ 140737488355328)) = some () := grd_true (by simp only [List.length_cons] at hsl; simp only [List.length_reverse, List.length_cons, List.length_nil]; omega)
      simp only [hp, hpr, chk_true, Option.bind_some, cond_true, gi_at hx, gi_at stack_last, e0, stepS]
      cases h0 : (x == 0) with
      | true =>
        rw [h0] at hc
        simp only [Bool.not_true, Bool.false_and] at hc
        simp only [← hc, Bool.not_true, chk_false, cond_false, Option.bind_some, Bool.false_eq_true, if_false, hpush]
        exact congrArg _ (List.reverse_cons ..).symm
      | false =>
        rw [h0] at hc
        simp only [Bool.not_false, Bool.true_and] at hc
        simp only [Bool.not_false, chk_true, cond_true, Option.bind_some, e1]
        cases h1 : (l == ng x) with
        | false =>
          rw [h1] at hc
          simp only [Bool.false_and] at hc
          simp only [← hc, chk_false, cond_false, Option.bind_some, Bool.false_eq_true, if_false, hpush]
          exact congrArg _ (List.reverse_cons ..).symm
        | true =>
          rw [h1] at hc
          simp only [Bool.true_and] at hc
          simp only [chk_true, cond_true, Option.bind_some, e2]
          cases h2 : (l == x) with
          | true =>
            rw [h2] at hc
            simp only [Bool.not_true] at hc
            simp only [← hc, Bool.not_true, Bool.false_eq_true, if_false, cond_false, Option.bind_some, hpush]
            exact congrArg _ (List.reverse_cons ..).symm
          | false =>
            rw [h2] at hc
            simp only [Bool.not_false] at hc
            simp only [← hc, Bool.not_false, if_true, cond_true]
            rw [grd_true (by simp only [List.length_reverse, List.length_cons] at *; omega), Option.bind_some, Int.toNat_natCast, stack_pop]
theorem m_specReduceLetters (w : List Int) (hw : all64 w) (hl : w.length ≤ 1099511627776) : M_spec_ReduceLetters w = some (redS [] w).reverse := by
  unfold M_spec_ReduceLetters
  have h := L_spec_ReduceLetters_eq w hw hl w.length 0 FUEL [] (by omega) (FUEL_big (by omega)) (fun x hx => by cases hx) (by simp)
  rw [show ((0 : Nat) : Int) = 0 from rfl, List.drop_zero, List.reverse_nil] at h
  rw [h, Option.bind_some, grd_true (by have := redS_len w []; simp only [List.length_reverse, List.length_nil] at *; omega), Option.bind_some, List.nil_append]

/-! ### products -/
theorem all64_app {a b : List Int} (ha : all64 a) (hb : all64 b) : all64 (a ++ b) := fun x hx => by
  rcases List.mem_append.1 hx with h | h
  · exact ha x h
  · exact hb x h
theorem all64_rev {a : List Int} (ha : all64 a) : all64 a.reverse := fun x hx => ha x (List.mem_reverse.1 hx)
theorem nil64 : all64 [] := fun x hx => by cases hx
theorem m_specMultiplyWords (a b : List Int) (ha : all64 a) (hb : all64 b) (hl : a.length + b.length ≤ 1099511627776) : M_spec_MultiplyWords a b = some (redS [] (a ++ b)).reverse := by
  unfold M_spec_MultiplyWords
  rw [grd_true (by simp only [List.length_nil]; omega), Option.bind_some, grd_true (by simp only [List.length_append, List.length_nil]; omega), Option.bind_some, List.nil_append,
    m_specReduceLetters _ (all64_app ha hb) (by simp only [List.length_append]; omega)]
  rfl
/-- the conjugate of u by g -/
def conj (u g : List Int) : List Int := (redS [] (inv g ++ u ++ g)).reverse
theorem redS_rered (u v : List Int) : redS [] ((redS [] u).reverse ++ v) = redS [] (u ++ v) := by
  rw [redS_app, redS_self _ (redS_red u [] rfl), redS_app]
theorem redS_rev64 (w : List Int) (hw : all64 w) : all64 (redS [] w).reverse := all64_rev (redS_64 w [] nil64 hw)
theorem conj_len (u g : List Int) : (conj u g).length ≤ u.length + 2 * g.length := by
  unfold conj
  have := redS_len (inv g ++ u ++ g) []
  have := inv_len g
  simp only [List.length_reverse, List.length_append, List.length_nil] at *
  omega
theorem conj_64 {u g : List Int} (hu : all64 u) (hg : all64 g) : all64 (conj u g) := redS_rev64 _ (all64_app (all64_app (inv_64 g) hu) hg)
theorem L_impl_product_0_eq (w : List Int) (hl : w.length ≤ 1099511627776) (n0 : Nat) (hn : n0 ≤ 1099511627776) : ∀ (d k fuel : Nat) (s : List Int), k + d = w.length → d < fuel → s.length ≤ n0 + k →
    L_impl_product_0 w fuel (k : Int) s.reverse = some (redS s (w.drop k)).reverse
  | d, k, 0, s, hk, hf, hsl => by omega
  | 0, k, fuel + 1, s, hk, hf, hsl => by
    rw [L_impl_product_0_succ, if_neg (by simp; omega), drop_done (by omega)]
    rfl
  | d + 1, k, fuel + 1, s, hk, hf, hsl => by
    have hkl : k < w.length := by omega
    have hx := getk hkl
    generalize w[k] = x at hx
    have next := L_impl_product_0_eq w hl n0 hn d (k + 1) fuel (stepS s x) (by omega) (by omega) (by have := stepS_len s x; omega)
    rw [drop_get hx]
    show _ = some (redS (stepS s x) (w.drop (k + 1))).reverse
    rw [← next, L_impl_product_0_succ, if_pos (by simp; omega), gi_at hx, Option.bind_some, Option.bind_some, grd_true (by rw [List.length_reverse]; omega), Option.bind_some, Option.bind_some, Option.bind_some]
    rw [wsucc hkl (by omega : w.length ≤ 9223372036854775807)]
    cases s with
    | nil =>
      have hz : decide ((((([] : List Int).reverse).length : Nat) : Int) > 0) = false := rfl
      simp only [hz, chk_false, Option.bind_some, cond_false, Bool.false_eq_true, if_false]
      rw [grd_true (by simp)]
      rfl
    | cons l t =>
      have hp : decide ((((l :: t).reverse.length : Nat) : Int) > 0) = true := by simp
      have hpr : IntKind.i64.wrap ((((l :: t).reverse.length : Nat) : Int) - 1) = ((t.length : Nat) : Int) := by
        rw [wpred (by simp) (by simp only [List.length_cons] at hsl; simp only [List.length_reverse, List.length_cons]; omega)]; simp
      have hpush : (grd (((l :: t).reverse.length + [x].length) * 8 ≤ 140737488355328)) = some () := grd_true (by simp only [List.length_cons] at hsl; simp only [List.length_reverse, List.length_cons, List.length_nil]; omega)
      have hlen : (grd ((l :: t).reverse.length ≤ 9223372036854775807)) = some () := grd_true (by rw [List.length_reverse]; omega)
      simp only [hp, hpr, chk_true, Option.bind_some, cond_true, gi_at stack_last, m_areInverse, stepS]
      have hcc : (!(l == 0) && !(l == -9223372036854775808) && (x == IntKind.i64.wrap (0 - l))) = canc l x := rfl
      rw [hcc]
      cases hc : canc l x with
      | true =>
        simp only [if_true, cond_true, hlen, Option.bind_some]
        rw [grd_true (by simp only [List.length_reverse, List.length_cons]; omega), Option.bind_some, Int.toNat_natCast, stack_pop]
      | false =>
        simp only [Bool.false_eq_true, if_false, cond_false, hpush, hlen, Option.bind_some]
        exact congrArg _ (List.reverse_cons ..).symm
def totL : List (List Int) → Nat
  | [] => 0
  | w :: r => w.length + totL r
theorem totL_mem {w : List Int} : ∀ {ws : List (List Int)}, w ∈ ws → w.length ≤ totL ws
  | x :: r, h => by
    rcases List.mem_cons.1 h with rfl | h
    · simp only [totL]; omega
    · have := totL_mem h; simp only [totL]; omega
def redW (s : List Int) : List (List Int) → List Int
  | [] => s
  | w :: r => redW (redS s w) r
theorem L_impl_product_1_eq (ws : List (List Int)) (hn : ws.length ≤ 1099511627776) : ∀ (d k fuel : Nat) (s : List Int), k + d = ws.length → d < fuel → s.length + totL (ws.drop k) ≤ 1099511627776 →
    L_impl_product_1 ws fuel (k : Int) s.reverse = some (redW s (ws.drop k)).reverse
  | d, k, 0, s, hk, hf, hsl => by omega
  | 0, k, fuel + 1, s, hk, hf, hsl => by
    rw [L_impl_product_1_succ, if_neg (by simp; omega), drop_done (by omega)]
    rfl
  | d + 1, k, fuel + 1, s, hk, hf, hsl => by
    have hkl : k < ws.length := by omega
    have hx := getk hkl
    generalize ws[k] = w at hx
    rw [drop_get hx] at hsl ⊢
    simp only [totL] at hsl
    have hr := redS_len w s
    have h0 := L_impl_product_0_eq w (by omega) s.length (by omega) w.length 0 FUEL s (by omega) (FUEL_big (by omega)) (by omega)
    rw [show ((0 : Nat) : Int) = 0 from rfl, List.drop_zero] at h0
    rw [L_impl_product_1_succ, if_pos (by simp; omega), gi_at hx, Option.bind_some, h0, Option.bind_some, wsucc hkl (by omega : ws.length ≤ 9223372036854775807)]
    exact L_impl_product_1_eq ws hn d (k + 1) fuel (redS s w) (by omega) (by omega) (by omega)
theorem m_implproduct (ws : List (List Int)) (hn : ws.length ≤ 1099511627776) (hl : totL ws ≤ 1099511627776) : M_impl_product ws = some (redW [] ws).reverse := by
  unfold M_impl_product
  have h := L_impl_product_1_eq ws hn ws.length 0 FUEL [] (by omega) (FUEL_big (by omega)) (by simpa using hl)
  rw [show ((0 : Nat) : Int) = 0 from rfl, List.drop_zero, List.reverse_nil] at h
  rw [h]
  rfl
theorem pres_word {x : LPresentation} (h : F_IsPres x = true) {i : Nat} {u : List Int} (hu : x.2[i]? = some u) : all64 u ∧ u.length ≤ 24 := by
  simp only [F_IsPres, F_AreWords, Bool.and_eq_true] at h
  have hw : ∀ {ws : List (List Int)}, allW x.1 ws = true → ∀ w ∈ ws, F_IsWord x.1 w = true := by
    intro ws
    induction ws with
    | nil => intro _ w hw; cases hw
    | cons v r ih =>
      intro h w hw
      simp only [allW, Bool.and_eq_true] at h
      rcases List.mem_cons.1 hw with rfl | hw
      · exact h.1
      · exact ih h.2 w hw
  have h1 := hw h.1.1.2 u (List.mem_of_getElem? hu)
  refine ⟨fun y hy => ?_, ?_⟩
  · obtain ⟨j, hj⟩ := List.getElem?_of_mem hy
    obtain ⟨h2, _, _, h3, h4⟩ := word_letter h1 hj
    constructor <;> omega
  · simp only [F_IsWord, Bool.and_eq_true, decide_eq_true_eq] at h1
    exact h1.1.2
theorem pres_len {x : LPresentation} (h : F_IsPres x = true) : x.2.length ≤ 6 := by
  simp only [F_IsPres, F_AreWords, Bool.and_eq_true, decide_eq_true_eq] at h
  exact h.1.1.1.2
/-- the word that a term names -/
theorem redW_len : ∀ (ws : List (List Int)) (s : List Int), (redW s ws).length ≤ s.length + totL ws
  | [], s => by simp [redW]
  | w :: r, s => by
    have := redW_len r (redS s w)
    have := redS_len w s
    simp only [redW, totL]; omega
end Go.Proofs.Ythccjgkmmclplaa
