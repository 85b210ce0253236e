/- Plain laws: rotations of words, and the symmetrized set. -/
import Derived.Test.YthccjgkmmclplaaA7
import Derived.Test.YthccjgkmmclplaaP3
import Derived.Test.YthccjgkmmclplaaP5
import Derived.Test.YthccjgkmmclplaaH36
namespace Go.Proofs.Ythccjgkmmclplaa
open Go.H
set_option linter.unusedVariables false
set_option linter.unusedSimpArgs false

def rotW (w : List Int) (k : Nat) : List Int := w.drop k ++ w.take k
theorem rotW_len (w : List Int) {k : Nat} (h : k ≤ w.length) : (rotW w k).length = w.length := by simp [rotW]; omega
theorem rotW_get (w : List Int) {i k : Nat} (hi : i < w.length) (hk : k < w.length) : (rotW w k)[i]? = w[(i + k) % w.length]? := by
  unfold rotW
  by_cases h : i < w.length - k
  · rw [List.getElem?_append_left (by simpa using h), List.getElem?_drop, Nat.mod_eq_of_lt (by omega), Nat.add_comm]
  · rw [List.getElem?_append_right (by simp; omega), List.getElem?_take, List.length_drop, if_pos (by omega), Nat.mod_eq_sub_mod (by omega), Nat.mod_eq_of_lt (by omega)]
    congr 1
    omega
theorem tmN (a b : Nat) : Int.tmod (a : Int) (b : Int) = ((a % b : Nat) : Int) := (Int.ofNat_tmod a b).symm
theorem cutL_from {α : Type} {xs : List α} {k : Nat} (h : k ≤ xs.length) : cutL xs (k : Int) (xs.length : Int) = some (xs.drop k) := by
  unfold cutL
  rw [if_pos ⟨by omega, by omega, by omega⟩]
  simp
theorem cutL_to {α : Type} {xs : List α} {k : Nat} (h : k ≤ xs.length) : cutL xs 0 (k : Int) = some (xs.take k) := by
  unfold cutL
  rw [if_pos ⟨by omega, by omega, by omega⟩]
  simp
theorem m_implRotateWord (w : List Int) {k : Nat} (hk : k < w.length) (hl : w.length ≤ 1048576) : M_impl_RotateWord w (k : Int) = some (rotW w k) := by
  unfold M_impl_RotateWord
  have h1 : Int.tmod (IntKind.i64.wrap (Int.tmod (k : Int) (w.length : Int) + (w.length : Int))) (w.length : Int) = (k : Int) := by
    rw [tmN, Nat.mod_eq_of_lt hk, w64 (by omega) (by omega), show (k : Int) + (w.length : Int) = ((k + w.length : Nat) : Int) by omega, tmN, Nat.add_mod_right, Nat.mod_eq_of_lt hk]
  rw [if_neg (by simp; intro e; subst e; simp at hk), grd_true (by omega), Option.bind_some, Option.bind_some, h1, cutL_to (by omega), Option.bind_some, cutL_from (by omega), Option.bind_some,
    m_copyInts (by simp; omega), Option.bind_some, grd_true (by simp; omega)]
  rfl
theorem L_spec_RotateWord_eq (w : List Int) {k : Nat} (hk : k < w.length) (hl : w.length ≤ 1048576) : ∀ (d i fuel : Nat) (acc : List Int), i + d = w.length → d < fuel → acc.length = i →
    L_spec_RotateWord_0 w (k : Int) fuel (i : Int) acc = some (acc ++ (rotW w k).drop i)
  | d, i, 0, acc, hd, hf, ha => by omega
  | 0, i, fuel + 1, acc, hd, hf, ha => by
    rw [L_spec_RotateWord_0_succ, if_neg (by simp; omega), drop_done (by rw [rotW_len w (by omega)]; omega), List.append_nil]
  | d + 1, i, fuel + 1, acc, hd, hf, ha => by
    have hi : i < w.length := by omega
    have hm : (i + k) % w.length < w.length := Nat.mod_lt _ (by omega)
    have hx : w[(i + k) % w.length]? = some w[(i + k) % w.length] := List.getElem?_eq_getElem hm
    have hr : (rotW w k)[i]? = some w[(i + k) % w.length] := by rw [rotW_get w hi hk, hx]
    generalize w[(i + k) % w.length] = x at hx hr
    have e : Int.tmod (IntKind.i64.wrap (Int.tmod (IntKind.i64.wrap ((i : Int) + Int.tmod (k : Int) (w.length : Int))) (w.length : Int) + (w.length : Int))) (w.length : Int) = (((i + k) % w.length : Nat) : Int) := by
      have e1 : IntKind.i64.wrap ((i : Int) + (k : Int)) = ((i + k : Nat) : Int) := by rw [w64 (by omega) (by omega)]; omega
      have e2 : IntKind.i64.wrap ((((i + k) % w.length : Nat) : Int) + (w.length : Int)) = (((i + k) % w.length + w.length : Nat) : Int) := by rw [w64 (by omega) (by omega)]; omega
      rw [tmN, Nat.mod_eq_of_lt hk, e1, tmN, e2, tmN, Nat.add_mod_right, Nat.mod_mod]
    rw [L_spec_RotateWord_0_succ, if_pos (by simp; omega), grd_true (by omega), Option.bind_some, Option.bind_some, Option.bind_some, e, gi_at hx, Option.bind_some, grd_true (by simp; omega), Option.bind_some, wsucc hi (by omega),
      L_spec_RotateWord_eq w hk hl d (i + 1) fuel _ (by omega) (by omega) (by simp; omega), drop_get hr]
    simp
theorem m_specRotateWord (w : List Int) {k : Nat} (hk : k < w.length) (hl : w.length ≤ 1048576) : M_spec_RotateWord w (k : Int) = some (rotW w k) := by
  unfold M_spec_RotateWord
  have h := L_spec_RotateWord_eq w hk hl w.length 0 FUEL [] (by omega) (FUEL_big (by omega)) rfl
  rw [show ((0 : Nat) : Int) = 0 from rfl] at h
  rw [h]
  rfl

/-! ### all rotations -/
def rots (w : List Int) : List (List Int) := (List.range w.length).map (rotW w)
theorem rots_len (w : List Int) : (rots w).length = w.length := by simp [rots]
theorem rots_get (w : List Int) {k : Nat} (h : k < w.length) : (rots w)[k]? = some (rotW w k) := by simp [rots, h]
def allR : List (List Int) → List (List Int)
  | [] => []
  | r :: l => rots r ++ rots (inv r) ++ allR l
theorem allR_len : ∀ ws : List (List Int), (allR ws).length = 2 * totL ws
  | [] => rfl
  | r :: l => by
    simp only [allR, List.length_append, rots_len, inv_len, allR_len l, totL]
    omega
theorem L_impl_Sym0 (w : List Int) (hl : w.length ≤ 1048576) : ∀ (d k fuel : Nat) (acc : List (List Int)), k + d = w.length → d < fuel → acc.length + d ≤ 1099511627776 →
    L_impl_SymmetrizedSet_0 w fuel (k : Int) acc = some (acc ++ (rots w).drop k)
  | d, k, 0, acc, hd, hf, ha => by omega
  | 0, k, fuel + 1, acc, hd, hf, ha => by
    rw [L_impl_SymmetrizedSet_0_succ, if_neg (by simp; omega), drop_done (by rw [rots_len]; omega), List.append_nil]
  | d + 1, k, fuel + 1, acc, hd, hf, ha => by
    rw [L_impl_SymmetrizedSet_0_succ, if_pos (by simp; omega), m_implRotateWord w (by omega) hl, Option.bind_some, grd_true (by simp; omega), Option.bind_some, wsucc (show k < w.length by omega) (by omega),
      L_impl_Sym0 w hl d (k + 1) fuel _ (by omega) (by omega) (by simp; omega), drop_get (rots_get w (show k < w.length by omega))]
    simp
theorem L_impl_Sym1 (a b : List Int) (ha : a.length ≤ 1048576) (hb : b.length ≤ 1048576) (acc : List (List Int)) (hl : acc.length + a.length + b.length ≤ 1099511627776) :
    L_impl_SymmetrizedSet_1 a b FUEL 0 acc = some (acc ++ (rots a ++ rots b)) := by
  have h0 := L_impl_Sym0 a ha a.length 0 FUEL acc (by omega) (FUEL_big (by omega)) (by omega)
  have h1 := L_impl_Sym0 b hb b.length 0 FUEL (acc ++ rots a) (by omega) (FUEL_big (by omega)) (by simp [rots_len]; omega)
  rw [show ((0 : Nat) : Int) = 0 from rfl, List.drop_zero] at h0 h1
  have w1 : IntKind.i64.wrap (0 + 1) = 1 := by decide
  have w2 : IntKind.i64.wrap (1 + 1) = 2 := by decide
  have g0 : gi [a, b] 0 = some a := rfl
  have g1 : gi [a, b] 1 = some b := rfl
  have d0 : decide ((0 : Int) < ((2 : Nat) : Int)) = true := rfl
  have d1 : decide ((1 : Int) < ((2 : Nat) : Int)) = true := rfl
  have d2 : decide ((2 : Int) < ((2 : Nat) : Int)) = false := rfl
  have hF : FUEL = (FUEL - 3) + 1 + 1 + 1 := rfl
  rw [hF]
  rw [L_impl_SymmetrizedSet_1_succ, d0, if_pos rfl, g0, Option.bind_some, h0, Option.bind_some, w1, L_impl_SymmetrizedSet_1_succ, d1, if_pos rfl, g1, Option.bind_some, h1, Option.bind_some, w2, L_impl_SymmetrizedSet_1_succ, d2, if_neg (by simp)]
  rw [List.append_assoc]
theorem L_impl_Sym2 (ws : List (List Int)) (hs : ∀ w ∈ ws, w.length ≤ 1048576) (hn : ws.length ≤ 140737488355328) : ∀ (d k fuel : Nat) (acc : List (List Int)), k + d = ws.length → d < fuel → acc.length + 2 * totL (ws.drop k) ≤ 1099511627776 →
    L_impl_SymmetrizedSet_2 ws fuel (k : Int) acc = some (acc ++ allR (ws.drop k))
  | d, k, 0, acc, hd, hf, ha => by omega
  | 0, k, fuel + 1, acc, hd, hf, ha => by
    rw [L_impl_SymmetrizedSet_2_succ, if_neg (by simp; omega), drop_done (by omega)]
    simp [allR]
  | d + 1, k, fuel + 1, acc, hd, hf, ha => by
    have hk : k < ws.length := by omega
    have hx := getk hk
    have hxl := hs _ (List.getElem_mem hk)
    generalize ws[k] = x at hx hxl
    rw [drop_get hx] at ha ⊢
    simp only [totL] at ha
    simp only [allR]
    have hil := inv_len x
    rw [L_impl_SymmetrizedSet_2_succ, if_pos (by simp; omega), gi_at hx, Option.bind_some, m_implInvertWord x (by omega), Option.bind_some, L_impl_Sym1 x (inv x) hxl (by omega) acc (by omega), Option.bind_some, wsucc hk (by omega),
      L_impl_Sym2 ws hs hn d (k + 1) fuel _ (by omega) (by omega) (by simp only [List.length_append, rots_len, hil]; omega)]
    simp
def F_SymmetrizedSet (p : LPresentation) : LIntSS := bif F_IsPres p then uniqL F_CompareWords eqW (allR p.2) else []
theorem totL_short : ∀ (ws : List (List Int)) (m : Nat), (∀ w ∈ ws, w.length ≤ m) → totL ws ≤ ws.length * m
  | [], m, _ => by simp [totL]
  | w :: l, m, h => by
    have h1 := h w (List.mem_cons_self ..)
    have h2 := totL_short l m fun x hx => h x (List.mem_cons_of_mem _ hx)
    simp only [totL, List.length_cons, Nat.add_mul, Nat.one_mul]
    omega
theorem pres_all {p : LPresentation} (h : F_IsPres p = true) : (∀ w ∈ p.2, all64 w ∧ w.length ≤ 24) ∧ p.2.length ≤ 6 ∧ totL p.2 ≤ 144 := by
  have h1 : ∀ w ∈ p.2, all64 w ∧ w.length ≤ 24 := fun w hw => by
    obtain ⟨i, hi⟩ := List.getElem?_of_mem hw
    exact pres_word h hi
  have h2 := pres_len h
  have h3 := totL_short p.2 24 fun w hw => (h1 w hw).2
  exact ⟨h1, h2, by omega⟩
theorem m_implSymmetrizedSet (p : LPresentation) (hl : p.2.length ≤ 140737488355328) (hs : wordsShort p.2) : M_impl_SymmetrizedSet p = some (F_SymmetrizedSet p) := by
  obtain ⟨r, ws⟩ := p
  unfold M_impl_SymmetrizedSet F_SymmetrizedSet
  simp only [m_implIsPresentation (r, ws) hl hs, Option.bind_some]
  cases hp : F_IsPres (r, ws) with
  | false => rfl
  | true =>
    obtain ⟨h1, h2, h3⟩ := pres_all hp
    have h := L_impl_Sym2 ws (fun w hw => by have := (h1 w hw).2; omega) hl ws.length 0 FUEL [] (by omega) (FUEL_big (by omega)) (by simp only [List.drop_zero, List.length_nil]; simp only at h3; omega)
    rw [show ((0 : Nat) : Int) = 0 from rfl, List.drop_zero, List.nil_append] at h
    rw [if_neg (by simp), h, Option.bind_some, grd_true (by rw [allR_len]; simp only at h3; omega), Option.bind_some]
    rfl

/-! ### the spec's set: words put in order, one after the other -/
def prs (w : List Int) : List (List (List Int)) := (List.range w.length).map fun k => [rotW w k, inv (rotW w k)]
theorem prs_len (w : List Int) : (prs w).length = w.length := by simp [prs]
theorem prs_get (w : List Int) {k : Nat} (h : k < w.length) : (prs w)[k]? = some [rotW w k, inv (rotW w k)] := by simp [prs, h]
def allS : List (List Int) → List (List Int)
  | [] => []
  | r :: l => (prs r).flatten ++ allS l
def goP (w : List Int) : List (List Int) → Bool × List (List Int)
  | [] => (false, [])
  | y :: l => if F_CompareWords w y < 0 then (true, w :: y :: l) else if F_CompareWords w y = 0 then (true, y :: l) else ((goP w l).1, y :: (goP w l).2)
theorem goP_put (w : List Int) : ∀ l, putL F_CompareWords w l = bif (goP w l).1 then (goP w l).2 else (goP w l).2 ++ [w]
  | [] => rfl
  | y :: l => by
    have ih := goP_put w l
    unfold putL goP
    split
    · rfl
    · split
      · rfl
      · rw [ih]
        cases (goP w l).1 <;> rfl
theorem a64p (w : List Int) (h : all64 w) : all64' w := fun k x hx => h x (List.mem_of_getElem? hx)
def good (w : List Int) : Prop := all64 w ∧ w.length ≤ 1048576
theorem cmpW_64 (a b : List Int) : In64 (F_CompareWords a b) := by
  have h1 := cmpI_64 (a.length : Int) (b.length : Int)
  have h2 : ∀ x y : List Int, In64 (cmpL cmpK x y) := fun x => by
    induction x with
    | nil => intro y; cases y <;> (simp only [cmpL]; decide)
    | cons p x ih =>
      intro y
      cases y with
      | nil => simp only [cmpL]; decide
      | cons q y =>
        simp only [cmpL, thenC]
        split
        · exact cmpK_64 _ _
        · exact ih y
  unfold F_CompareWords thenC
  split
  · exact h1
  · exact h2 _ _
theorem L_spec_Put_on (l : List (List Int)) (w : List Int) (hw : good w) (hg : ∀ x ∈ l, good x) (hl : l.length ≤ 1048576) : ∀ (d k fuel : Nat) (acc : List (List Int)), k + d = l.length → d < fuel → acc.length ≤ k + 1 →
    L_spec_l22Put_0 l w fuel true (k : Int) acc = some (true, acc ++ l.drop k)
  | d, k, 0, acc, hd, hf, ha => by omega
  | 0, k, fuel + 1, acc, hd, hf, ha => by
    rw [L_spec_l22Put_0_succ, if_neg (by simp; omega), drop_done (by omega), List.append_nil]
  | d + 1, k, fuel + 1, acc, hd, hf, ha => by
    have hk : k < l.length := by omega
    have hx := getk hk
    have hxg := hg _ (List.getElem_mem hk)
    generalize l[k] = x at hx hxg
    have ih := L_spec_Put_on l w hw hg hl d (k + 1) fuel (acc ++ [x]) (by omega) (by omega) (by simp; omega)
    rw [L_spec_l22Put_0_succ, if_pos (by simp; omega), gi_at hx, Option.bind_some, m_specCompareWords (a64p w hw.1) (a64p x hxg.1) (by have := hw.2; omega), Option.bind_some, grd_true (cmpW_64 _ _), Option.bind_some]
    have hb : ∀ c : Bool, (bif c then (!true) else false) = false := fun c => by cases c <;> rfl
    simp only [hb, Bool.false_eq_true, if_false, Option.bind_some, wsucc hk (show l.length ≤ 9223372036854775807 by omega), ih, grd_true (show (acc.length + [x].length) * 24 ≤ 140737488355328 by simp; omega)]
    rw [drop_get hx]
    split <;> simp
theorem L_spec_Put_off (l : List (List Int)) (w : List Int) (hw : good w) (hg : ∀ x ∈ l, good x) (hl : l.length ≤ 1048576) : ∀ (d k fuel : Nat) (acc : List (List Int)), k + d = l.length → d < fuel → acc.length = k →
    L_spec_l22Put_0 l w fuel false (k : Int) acc = some ((goP w (l.drop k)).1, acc ++ (goP w (l.drop k)).2)
  | d, k, 0, acc, hd, hf, ha => by omega
  | 0, k, fuel + 1, acc, hd, hf, ha => by
    rw [L_spec_l22Put_0_succ, if_neg (by simp; omega), drop_done (by omega)]
    simp [goP]
  | d + 1, k, fuel + 1, acc, hd, hf, ha => by
    have hk : k < l.length := by omega
    have hx := getk hk
    have hxg := hg _ (List.getElem_mem hk)
    generalize l[k] = x at hx hxg
    have ih := L_spec_Put_off l w hw hg hl d (k + 1) fuel (acc ++ [x]) (by omega) (by omega) (by simp; omega)
    have on1 := L_spec_Put_on l w hw hg hl d (k + 1) fuel (acc ++ [x]) (by omega) (by omega) (by simp; omega)
    have on2 := L_spec_Put_on l w hw hg hl d (k + 1) fuel (acc ++ [w] ++ [x]) (by omega) (by omega) (by simp; omega)
    have hw2 := hw.2
    rw [L_spec_l22Put_0_succ, if_pos (by simp; omega), gi_at hx, Option.bind_some, m_specCompareWords (a64p w hw.1) (a64p x hxg.1) (by omega), Option.bind_some, grd_true (cmpW_64 _ _), Option.bind_some, drop_get hx]
    unfold goP
    have hb : ∀ c : Bool, (bif c then (!true) else false) = false := fun c => by cases c <;> rfl
    have hb2 : ∀ c : Bool, (bif c then (!false) else false) = c := fun c => by cases c <;> rfl
    by_cases h0 : F_CompareWords w x = 0
    · rw [if_pos (by simpa using h0), hb, if_neg (by simp), Option.bind_some, grd_true (by simp; omega), Option.bind_some, wsucc hk (by omega), on1, if_neg (by omega), if_pos h0]
      simp
    · rw [if_neg (by simpa using h0), hb2]
      by_cases h1 : F_CompareWords w x < 0
      · rw [if_pos (by simpa using h1), grd_true (by simp; omega), Option.bind_some, List.nil_append, grd_true (by simp; omega), Option.bind_some, Option.bind_some, grd_true (by simp; omega), Option.bind_some, wsucc hk (by omega), on2, if_pos h1]
        simp
      · rw [if_neg (by simpa using h1), Option.bind_some, grd_true (by simp; omega), Option.bind_some, wsucc hk (by omega), ih, if_neg h1, if_neg h0]
        simp
theorem m_specPut (l : List (List Int)) (w : List Int) (hw : good w) (hg : ∀ x ∈ l, good x) (hl : l.length ≤ 1048576) : M_spec_l22Put l w = some (putL F_CompareWords w l) := by
  unfold M_spec_l22Put
  have h := L_spec_Put_off l w hw hg hl l.length 0 FUEL [] (by omega) (FUEL_big (by omega)) rfl
  rw [show ((0 : Nat) : Int) = 0 from rfl, List.drop_zero, List.nil_append] at h
  rw [h, Option.bind_some, goP_put]
  have hlen : (goP w l).2.length ≤ l.length + 1 := by
    clear h hl hg
    induction l with
    | nil => simp [goP]
    | cons y l ih =>
      unfold goP
      split
      · simp
      · split
        · simp
        · simp only [List.length_cons]; omega
  have := hw.2
  cases (goP w l).1 with
  | true => rfl
  | false =>
    simp only [Bool.not_false, if_true, cond_false, List.nil_append]
    rw [grd_true (by simp; omega), Option.bind_some, grd_true (by simp; omega), Option.bind_some]
end Go.Proofs.Ythccjgkmmclplaa
