/- Plain laws: numbers in decimal. -/
import Derived.Test.YtjalbdammdmgiaaA2
import Derived.Test.YtjalbdammdmgiaaP1b
namespace Go.Proofs.Ytjalbdammdmgiaa
open Go.H
set_option linter.unusedVariables false
set_option linter.unusedSimpArgs false

def fmtI (n : Int) : ByteArray := if n = 0 then ⟨#[48]⟩ else if n < 0 then ⟨(45 :: digs 20 n.natAbs []).toArray⟩ else ⟨(digs 20 n.natAbs []).toArray⟩
def sgnI (n : Int) (m : Nat) : Int := if n < 0 then -(m : Int) else m
theorem sgn_mod (n : Int) (m : Nat) : (sgnI n m).tmod 10 = sgnI n (m % 10) := by
  unfold sgnI
  split
  · rw [Int.neg_tmod, show (10 : Int) = ((10 : Nat) : Int) from rfl, ← Int.ofNat_tmod]
  · rw [show (10 : Int) = ((10 : Nat) : Int) from rfl, ← Int.ofNat_tmod]
theorem sgn_div (n : Int) (m : Nat) : (sgnI n m).tdiv 10 = sgnI n (m / 10) := by
  unfold sgnI
  split
  · rw [Int.neg_tdiv, show (10 : Int) = ((10 : Nat) : Int) from rfl, ← Int.ofNat_tdiv]
  · rw [show (10 : Int) = ((10 : Nat) : Int) from rfl, ← Int.ofNat_tdiv]
theorem sgn_zero {n : Int} {m : Nat} : sgnI n m = 0 ↔ m = 0 := by
  unfold sgnI
  split <;> omega
theorem digS {X : Int} {m : Nat} (acc : List UInt8) (e : X = ((m % 10 : Nat) : Int)) : strOfNums [IntKind.u8.wrap (IntKind.i64.wrap (48 + X))] ++ ⟨acc.toArray⟩ = ⟨(UInt8.ofNat (48 + m % 10) :: acc).toArray⟩ := by
  have hX : IntKind.u8.wrap (IntKind.i64.wrap (48 + X)) = ((48 + m % 10 : Nat) : Int) := by
    rw [e]
    simp [IntKind.wrap, IntKind.signed, IntKind.bits]
    omega
  rw [hX, show strOfNums [((48 + m % 10 : Nat) : Int)] = ⟨#[UInt8.ofNat (48 + m % 10)]⟩ from by simp only [strOfNums, List.map_cons, List.map_nil, Int.toNat_natCast]]
  generalize UInt8.ofNat (48 + m % 10) = d
  apply ByteArray.ext
  rw [ByteArray.data_append]
  simp
theorem digs_done : ∀ (f : Nat) (acc : List UInt8), digs f 0 acc = acc
  | 0, _ => rfl
  | f + 1, acc => by simp [digs]

theorem bcat (a b : List UInt8) : (⟨a.toArray⟩ : ByteArray) ++ ⟨b.toArray⟩ = ⟨(a ++ b).toArray⟩ := by
  apply ByteArray.ext
  rw [ByteArray.data_append]
  simp
theorem bsize (a : List UInt8) : (⟨a.toArray⟩ : ByteArray).size = a.length := by simp [ByteArray.size]
theorem sgn64 {n : Int} {m : Nat} (h : m ≤ 9223372036854775808) (hn : n < 0 ∨ m ≤ 9223372036854775807) : In64 (sgnI n m) := by
  unfold sgnI
  split <;> constructor <;> omega
theorem L_spec_FormatInt_eq (n : Int) : ∀ (f m fuel : Nat) (acc : List UInt8), m < 10 ^ f → f < fuel → m ≤ 9223372036854775808 → acc.length + f ≤ 100 → (n < 0 ∨ m ≤ 9223372036854775807) →
    L_spec_FormatInt_0 fuel (sgnI n m) ⟨acc.toArray⟩ = some ⟨(digs f m acc).toArray⟩
  | f, m, 0, acc, h1, h2, h3, h4, h5 => by omega
  | 0, m, fuel + 1, acc, h1, h2, h3, h4, h5 => by
    have : m = 0 := by simp at h1; exact h1
    subst this
    rw [L_spec_FormatInt_0_succ, show sgnI n 0 = 0 by unfold sgnI; split <;> simp]
    rfl
  | f + 1, m, fuel + 1, acc, h1, h2, h3, h4, h5 => by
    rw [L_spec_FormatInt_0_succ]
    by_cases h0 : m = 0
    · subst h0
      rw [show sgnI n 0 = 0 by unfold sgnI; split <;> simp]
      simp [digs]
    · have hs : sgnI n m ≠ 0 := fun e => h0 (sgn_zero.1 e)
      have next := L_spec_FormatInt_eq n f (m / 10) fuel (UInt8.ofNat (48 + m % 10) :: acc) (by rw [Nat.pow_succ] at h1; omega) (by omega) (by omega) (by simp only [List.length_cons]; omega) (by omega)
      have hq : IntKind.i64.wrap ((sgnI n m).tdiv 10) = sgnI n (m / 10) := by
        rw [sgn_div]
        have := sgn64 (n := n) (m := m / 10) (by omega) (by omega)
        exact w64 this.1 this.2
      rw [if_pos (by simpa using hs), hq, sgn_mod]
      simp only [show ∀ k : Unit → Option ByteArray, (grd (10 ≠ 0)).bind k = k () from fun k => rfl]
      have key : ∀ X : Int, X = ((m % 10 : Nat) : Int) → ((grd ([IntKind.u8.wrap (IntKind.i64.wrap (48 + X))].length ≤ 9223372036854775807)).bind fun _ => (grd ((strOfNums [IntKind.u8.wrap (IntKind.i64.wrap (48 + X))]).size + (⟨acc.toArray⟩ : ByteArray).size ≤ 9223372036854775807)).bind fun _ =>
          L_spec_FormatInt_0 fuel (sgnI n (m / 10)) (strOfNums [IntKind.u8.wrap (IntKind.i64.wrap (48 + X))] ++ ⟨acc.toArray⟩)) = some ⟨(digs (f + 1) m acc).toArray⟩ := fun X hX => by
        rw [grd_true (by simp), Option.bind_some, grd_true (by rw [strOfNums_size, bsize]; simp only [List.length_singleton]; omega), Option.bind_some, digS acc hX, next]
        simp [digs, h0]
      by_cases hneg : sgnI n (m % 10) < 0
      · rw [if_pos (by simpa using hneg)]
        refine key _ ?_
        unfold sgnI at hneg ⊢
        split at hneg
        · rename_i hn
          rw [if_pos hn, w64 (by omega) (by omega)]; omega
        · omega
      · rw [if_neg (by simpa using hneg)]
        refine key _ ?_
        unfold sgnI at hneg ⊢
        split at hneg
        · rename_i hn
          rw [if_pos hn]; omega
        · rename_i hn
          rw [if_neg hn]
theorem sgn_self (n : Int) : sgnI n n.natAbs = n := by unfold sgnI; split <;> omega
theorem m_specFormatInt (n : Int) (hn : In64 n) : M_spec_FormatInt n = some (fmtI n) := by
  unfold M_spec_FormatInt fmtI
  by_cases h0 : n = 0
  · rw [if_pos (by simpa using h0), if_pos h0]
  · rw [if_neg (by simpa using h0), if_neg h0]
    have h := L_spec_FormatInt_eq n 20 n.natAbs FUEL [] (by have := hn.1; have := hn.2; omega) (by unfold FUEL; omega) (by have := hn.1; have := hn.2; omega) (by simp) (by have := hn.2; omega)
    rw [sgn_self] at h
    rw [h, Option.bind_some]
    have hl := digs_len 20 n.natAbs []
    simp only [List.length_nil] at hl
    by_cases hneg : n < 0
    · rw [if_pos (by simpa using hneg), if_pos hneg, grd_true (by have e := bsize (digs 20 n.natAbs []); have e1 : (⟨#[45]⟩ : ByteArray).size = 1 := rfl; omega), Option.bind_some]
      exact congrArg some (bcat [45] _)
    · rw [if_neg (by simpa using hneg), if_neg hneg]
-- the code gathers the digits the other way round
def rdig : Nat → Nat → List Int
  | 0, _ => []
  | f + 1, m => if m = 0 then [] else ((48 + m % 10 : Nat) : Int) :: rdig f (m / 10)
theorem rdig_len : ∀ (f m : Nat), (rdig f m).length ≤ f
  | 0, m => by simp [rdig]
  | f + 1, m => by
    simp only [rdig]
    split
    · simp
    · have := rdig_len f (m / 10)
      simp only [List.length_cons]; omega
theorem digs_rdig : ∀ (f m : Nat) (acc : List UInt8), digs f m acc = (rdig f m).reverse.map (fun x => UInt8.ofNat x.toNat) ++ acc
  | 0, m, acc => by simp [digs, rdig]
  | f + 1, m, acc => by
    simp only [digs, rdig]
    split
    · simp
    · rw [digs_rdig f (m / 10)]
      simp only [List.reverse_cons, List.map_append, List.map_cons, List.map_nil, Int.toNat_natCast, List.append_assoc, List.singleton_append]
theorem L_impl_FormatInt_eq (n : Int) : ∀ (f m fuel : Nat) (acc : List Int), m < 10 ^ f → f < fuel → m ≤ 9223372036854775808 → acc.length + f ≤ 100 → (n < 0 ∨ m ≤ 9223372036854775807) →
    L_impl_FormatInt_1 fuel (sgnI n m) acc = some (acc ++ rdig f m)
  | f, m, 0, acc, h1, h2, h3, h4, h5 => by omega
  | 0, m, fuel + 1, acc, h1, h2, h3, h4, h5 => by
    have : m = 0 := by simp at h1; exact h1
    subst this
    rw [L_impl_FormatInt_1_succ, show sgnI n 0 = 0 by unfold sgnI; split <;> simp]
    simp [rdig]
  | f + 1, m, fuel + 1, acc, h1, h2, h3, h4, h5 => by
    rw [L_impl_FormatInt_1_succ]
    by_cases h0 : m = 0
    · subst h0
      rw [show sgnI n 0 = 0 by unfold sgnI; split <;> simp]
      simp [rdig]
    · have hs : sgnI n m ≠ 0 := fun e => h0 (sgn_zero.1 e)
      have next := L_impl_FormatInt_eq n f (m / 10) fuel (acc ++ [((48 + m % 10 : Nat) : Int)]) (by rw [Nat.pow_succ] at h1; omega) (by omega) (by omega) (by simp only [List.length_append, List.length_singleton]; omega) (by omega)
      have hq : IntKind.i64.wrap ((sgnI n m).tdiv 10) = sgnI n (m / 10) := by
        rw [sgn_div]
        have := sgn64 (n := n) (m := m / 10) (by omega) (by omega)
        exact w64 this.1 this.2
      rw [if_pos (by simpa using hs), hq, sgn_mod]
      simp only [show ∀ k : Unit → Option (List Int), (grd (10 ≠ 0)).bind k = k () from fun k => rfl]
      have key : ∀ X : Int, X = ((m % 10 : Nat) : Int) → ((grd ((acc.length + [IntKind.u8.wrap (IntKind.i64.wrap (48 + X))].length) * 1 ≤ 140737488355328)).bind fun _ =>
          L_impl_FormatInt_1 fuel (sgnI n (m / 10)) (acc ++ [IntKind.u8.wrap (IntKind.i64.wrap (48 + X))])) = some (acc ++ rdig (f + 1) m) := fun X hX => by
        have hX' : IntKind.u8.wrap (IntKind.i64.wrap (48 + X)) = ((48 + m % 10 : Nat) : Int) := by
          rw [hX]
          simp [IntKind.wrap, IntKind.signed, IntKind.bits]
          omega
        rw [hX', grd_true (by simp only [List.length_singleton]; omega), Option.bind_some, next]
        simp [rdig, h0]
      by_cases hneg : sgnI n (m % 10) < 0
      · rw [if_pos (by simpa using hneg)]
        refine key _ ?_
        unfold sgnI at hneg ⊢
        split at hneg
        · rename_i hn
          rw [if_pos hn, w64 (by omega) (by omega)]; omega
        · omega
      · rw [if_neg (by simpa using hneg)]
        refine key _ ?_
        unfold sgnI at hneg ⊢
        split at hneg
        · rename_i hn
          rw [if_pos hn]; omega
        · rename_i hn
          rw [if_neg hn]
theorem L_rev (xs : List Int) (hn : xs.length ≤ 140737488355328) : ∀ (fuel i j : Nat) (ys : List Int), i + j + 1 = xs.length → j + 1 - i < fuel → ys.length = xs.length → (∀ t, t < xs.length → ys[t]? = if t < i ∨ j < t then xs[xs.length - 1 - t]? else xs[t]?) →
    L_impl_FormatInt_0 fuel (i : Int) (j : Int) ys = some xs.reverse
  | 0, i, j, ys, h1, h2, h3, h4 => by omega
  | fuel + 1, i, j, ys, h1, h2, h3, h4 => by
    rw [L_impl_FormatInt_0_succ]
    by_cases hij : i < j
    · have gi1 := getk (show i < ys.length by omega)
      have gj1 := getk (show j < ys.length by omega)
      generalize hxi : ys[i] = xi at gi1
      generalize hxj : ys[j] = xj at gj1
      rw [if_pos (by simp; omega), gi_at gj1, Option.bind_some, gi_at gi1, Option.bind_some, Option.bind_some]
      rw [gi_at (k := j) (x := xj) (by rw [List.getElem?_set]; simp; rw [if_neg (by omega)]; exact gj1), Option.bind_some, wsucc hij (by omega), wpred (by omega) (by omega)]
      refine L_rev xs hn fuel (i + 1) (j - 1) _ (by omega) (by omega) (by simpa using h3) (fun t ht => ?_)
      have e1 := h4 i (by omega)
      have e2 := h4 j (by omega)
      rw [if_neg (by omega)] at e1 e2
      rw [gi1] at e1
      rw [gj1] at e2
      simp only [Int.toNat_natCast]
      by_cases t1 : j = t
      · subst t1
        rw [List.getElem?_set_self (by simp only [List.length_set]; omega), if_pos (Or.inr (by omega)), show xs.length - 1 - j = i by omega]
        exact e1
      · rw [List.getElem?_set_ne t1]
        by_cases t2 : i = t
        · subst t2
          rw [List.getElem?_set_self (by omega), if_pos (Or.inl (by omega)), show xs.length - 1 - i = j by omega]
          exact e2
        · rw [List.getElem?_set_ne t2, h4 t ht]
          by_cases c : t < i ∨ j < t
          · rw [if_pos c, if_pos (by omega)]
          · rw [if_neg c, if_neg (by omega)]
    · rw [if_neg (by simp; omega)]
      refine congrArg some (List.ext_getElem? fun t => ?_)
      rcases Nat.lt_or_ge t xs.length with ht | ht
      · rw [h4 t ht, List.getElem?_reverse ht]
        by_cases c : t < i ∨ j < t
        · rw [if_pos c]
        · rw [if_neg c, show xs.length - 1 - t = t by omega]
      · rw [List.getElem?_eq_none (by omega), List.getElem?_eq_none (by simpa using ht)]
theorem L_rev0 (xs : List Int) (h0 : 0 < xs.length) (hn : xs.length ≤ 1000) : L_impl_FormatInt_0 FUEL 0 (IntKind.i64.wrap (((xs.length : Nat) : Int) - 1)) xs = some xs.reverse := by
  rw [wpred h0 (by omega)]
  exact L_rev xs (by omega) FUEL 0 (xs.length - 1) xs (by omega) (by unfold FUEL; omega) rfl (fun t ht => by rw [if_neg (by omega)])
theorem m_implFormatInt (n : Int) (hn : In64 n) : M_impl_FormatInt n = some (fmtI n) := by
  unfold M_impl_FormatInt fmtI
  by_cases h0 : n = 0
  · rw [if_pos (by simpa using h0), if_pos h0]
  · rw [if_neg (by simpa using h0), if_neg h0]
    have h := L_impl_FormatInt_eq n 20 n.natAbs FUEL [] (by have := hn.1; have := hn.2; omega) (by unfold FUEL; omega) (by have := hn.1; have := hn.2; omega) (by simp) (by have := hn.2; omega)
    rw [sgn_self, List.nil_append] at h
    have hl := rdig_len 20 n.natAbs
    have hp : 0 < (rdig 20 n.natAbs).length := by simp only [rdig]; rw [if_neg (by omega)]; simp
    rw [h, Option.bind_some]
    simp only [Option.bind_some]
    by_cases hneg : n < 0
    · rw [if_pos (by simpa using hneg), if_pos hneg, grd_true (by simp only [List.length_singleton]; omega), Option.bind_some, grd_true (by simp only [List.length_append, List.length_singleton]; omega), Option.bind_some,
        L_rev0 _ (by simp) (by simp only [List.length_append, List.length_singleton]; omega), Option.bind_some, grd_true (by simp only [List.length_reverse, List.length_append, List.length_singleton]; omega), Option.bind_some, digs_rdig]
      simp [strOfNums]
    · rw [if_neg (by simpa using hneg), if_neg hneg, grd_true (by omega), Option.bind_some,
        L_rev0 _ hp (by omega), Option.bind_some, grd_true (by simp only [List.length_reverse]; omega), Option.bind_some, digs_rdig]
      simp [strOfNums]
end Go.Proofs.Ytjalbdammdmgiaa
