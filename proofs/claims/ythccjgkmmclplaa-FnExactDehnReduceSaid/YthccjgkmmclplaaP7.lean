/- Plain laws: pieces. -/
import Derived.Test.YthccjgkmmclplaaP6b
namespace Go.Proofs.Ythccjgkmmclplaa
open Go.H
set_option linter.unusedVariables false
set_option linter.unusedSimpArgs false

/-- how long two words agree -/
def cpl : List Int → List Int → Nat
  | x :: a, y :: b => bif decide (x = y) then cpl a b + 1 else 0
  | _, _ => 0
theorem cpl_le : ∀ a b : List Int, cpl a b ≤ a.length ∧ cpl a b ≤ b.length
  | [], _ => by simp [cpl]
  | _ :: _, [] => by simp [cpl]
  | x :: a, y :: b => by
    have := cpl_le a b
    simp only [cpl]
    cases decide (x = y) <;> simp only [cond_true, cond_false, List.length_cons] <;> omega
theorem cpl_comm : ∀ a b : List Int, cpl a b = cpl b a
  | [], [] => rfl
  | [], _ :: _ => rfl
  | _ :: _, [] => rfl
  | x :: a, y :: b => by
    simp only [cpl, cpl_comm a b]
    by_cases h : x = y
    · subst h; rfl
    · have h' : ¬ y = x := fun e => h e.symm
      simp [h, h']
theorem L_impl_common_eq (a b : List Int) (hl : a.length ≤ 9223372036854775807) : ∀ (d k fuel : Nat), k + d = a.length → d < fuel → k ≤ b.length →
    L_impl_common_0 a b fuel (k : Int) = some ((k + cpl (a.drop k) (b.drop k) : Nat) : Int)
  | d, k, 0, hd, hf, hb => by omega
  | 0, k, fuel + 1, hd, hf, hb => by
    have e : decide ((k : Int) < (a.length : Int)) = false := by simp; omega
    rw [L_impl_common_0_succ, e, drop_done (by omega)]
    simp [chk, cpl]
  | d + 1, k, fuel + 1, hd, hf, hb => by
    have hk : k < a.length := by omega
    have hx := getk hk
    generalize a[k] = x at hx
    have e : decide ((k : Int) < (a.length : Int)) = true := by simp; omega
    rw [L_impl_common_0_succ, e]
    by_cases h2 : k < b.length
    · have hy := getk h2
      generalize b[k] = y at hy
      have e2 : decide ((k : Int) < (b.length : Int)) = true := by simp; omega
      have ih := L_impl_common_eq a b hl d (k + 1) fuel (by omega) (by omega) (by omega)
      rw [e2, drop_get hx, drop_get hy]
      simp only [cond_true, chk_true, gi_at hx, gi_at hy, Option.bind_some, cpl]
      by_cases hxy : x = y
      · rw [if_pos (by simpa using hxy), wsucc hk hl, ih]
        simp only [hxy, decide_true, cond_true]
        congr 2
        omega
      · rw [if_neg (by simpa using hxy)]
        simp [hxy]
    · have e2 : decide ((k : Int) < (b.length : Int)) = false := by simp; omega
      rw [e2, drop_done (xs := b) (by omega)]
      simp only [cond_true, chk_false, Option.bind_some, cond_false]
      rw [if_neg (by simp)]
      cases a.drop k <;> simp [cpl]
theorem m_implCommon (a b : List Int) (hl : a.length ≤ 140737488355328) : M_impl_common a b = some ((cpl a b : Nat) : Int) := by
  unfold M_impl_common
  have h := L_impl_common_eq a b (by omega) a.length 0 FUEL (by omega) (FUEL_big hl) (Nat.zero_le _)
  rw [show ((0 : Nat) : Int) = 0 from rfl] at h
  rw [h]
  simp
theorem L_common_same (a b : List Int) : ∀ (fuel : Nat) (k : Int), L_spec_l30Common_0 a b fuel k = L_impl_common_0 a b fuel k
  | 0, k => rfl
  | fuel + 1, k => by
    rw [L_spec_l30Common_0_succ, L_impl_common_0_succ]
    simp only [L_common_same a b fuel]
theorem m_specCommon (a b : List Int) (hl : a.length ≤ 140737488355328) : M_spec_l30Common a b = some ((cpl a b : Nat) : Int) := by
  rw [← m_implCommon a b hl]
  unfold M_spec_l30Common M_impl_common
  rw [L_common_same]

/-! ### the longest piece -/
def upT (a : List Int) : List (List Int) → Nat → Nat
  | [], m => m
  | b :: l, m => upT a l (max m (cpl a b))
def upI : List (List Int) → Nat → Nat
  | [], m => m
  | a :: l, m => upI l (upT a l m)
theorem upT_le (a : List Int) (B : Nat) : ∀ (l : List (List Int)) (m : Nat), upT a l m ≤ B ↔ m ≤ B ∧ ∀ b ∈ l, cpl a b ≤ B
  | [], m => by simp [upT]
  | b :: l, m => by
    rw [upT, upT_le a B l]
    simp only [List.mem_cons, forall_eq_or_imp, Nat.max_le, and_assoc]
theorem upI_le (B : Nat) : ∀ (l : List (List Int)) (m : Nat), upI l m ≤ B ↔ m ≤ B ∧ l.Pairwise fun a b => cpl a b ≤ B
  | [], m => by simp [upI]
  | a :: l, m => by
    rw [upI, upI_le B l, upT_le, List.pairwise_cons, and_assoc]
def upS : List (List Int) → List (List Int) → Nat → Nat
  | _, [], m => m
  | pre, a :: l, m => upS (pre ++ [a]) l (upT a pre m)
theorem upS_le (B : Nat) : ∀ (l pre : List (List Int)) (m : Nat), upS pre l m ≤ B ↔ m ≤ B ∧ l.Pairwise (fun a b => cpl a b ≤ B) ∧ ∀ a ∈ l, ∀ b ∈ pre, cpl a b ≤ B
  | [], pre, m => by simp [upS]
  | a :: l, pre, m => by
    rw [upS, upS_le B l, upT_le, List.pairwise_cons]
    constructor
    · rintro ⟨⟨h1, h2⟩, h3, h4⟩
      refine ⟨h1, ⟨fun b hb => by rw [cpl_comm]; exact h4 b hb a (by simp), h3⟩, fun x hx b hb => ?_⟩
      rcases List.mem_cons.1 hx with rfl | hx
      · exact h2 b hb
      · exact h4 x hx b (by simp [hb])
    · rintro ⟨h1, ⟨h2, h3⟩, h4⟩
      refine ⟨⟨h1, fun b hb => h4 a (List.mem_cons_self ..) b hb⟩, h3, fun x hx b hb => ?_⟩
      rcases List.mem_append.1 hb with hb | hb
      · exact h4 x (List.mem_cons_of_mem _ hx) b hb
      · rw [List.mem_singleton.1 hb, cpl_comm]; exact h2 x hx
theorem up_same (l : List (List Int)) : upS [] l 0 = upI l 0 := by
  have h1 : upS [] l 0 ≤ upI l 0 := by
    have := (upI_le (upI l 0) l 0).1 (Nat.le_refl _)
    exact (upS_le _ l [] 0).2 ⟨this.1, this.2, by simp⟩
  have h2 : upI l 0 ≤ upS [] l 0 := by
    have := (upS_le (upS [] l 0) l [] 0).1 (Nat.le_refl _)
    exact (upI_le _ l 0).2 ⟨this.1, this.2.1⟩
  omega
def short24 (l : List (List Int)) : Prop := ∀ w ∈ l, w.length ≤ 24
theorem maxN (x u : Nat) : (if ((x : Nat) : Int) > ((u : Nat) : Int) then ((x : Nat) : Int) else ((u : Nat) : Int)) = ((max u x : Nat) : Int) := by split <;> omega
theorem L_impl_Long0 (a : List Int) (l : List (List Int)) (ha : a.length ≤ 24) (hl : l.length ≤ 140737488355328) : ∀ (d k fuel m : Nat), k + d = l.length → d < fuel →
    L_impl_LongestPiece_0 l a fuel (m : Int) (k : Int) = some ((upT a (l.drop k) m : Nat) : Int)
  | d, k, 0, m, hd, hf => by omega
  | 0, k, fuel + 1, m, hd, hf => by
    rw [L_impl_LongestPiece_0_succ, if_neg (by simp; omega), drop_done (by omega)]
    rfl
  | d + 1, k, fuel + 1, m, hd, hf => by
    have hk : k < l.length := by omega
    have hx := getk hk
    generalize l[k] = x at hx
    have hc := (cpl_le a x).1
    rw [L_impl_LongestPiece_0_succ, if_pos (by simp; omega), gi_at hx, Option.bind_some, m_implCommon a x (by omega), Option.bind_some, grd_true ⟨by omega, by omega⟩, Option.bind_some, maxN, wsucc hk (by omega),
      L_impl_Long0 a l ha hl d (k + 1) fuel _ (by omega) (by omega), drop_get hx]
    rfl
theorem cutL_tail {α : Type} {xs : List α} {k : Nat} (h : k < xs.length) (hl : xs.length ≤ 140737488355328) : cutL xs (IntKind.i64.wrap ((k : Int) + 1)) (xs.length : Int) = some (xs.drop (k + 1)) := by
  rw [wsucc h (by omega)]
  exact cutL_from (by omega)
theorem L_impl_Long1 (l : List (List Int)) (hs : short24 l) (hl : l.length ≤ 140737488355328) : ∀ (d k fuel m : Nat), k + d = l.length → d < fuel →
    L_impl_LongestPiece_1 l fuel (m : Int) (k : Int) = some ((upI (l.drop k) m : Nat) : Int)
  | d, k, 0, m, hd, hf => by omega
  | 0, k, fuel + 1, m, hd, hf => by
    rw [L_impl_LongestPiece_1_succ, if_neg (by simp; omega), drop_done (by omega)]
    rfl
  | d + 1, k, fuel + 1, m, hd, hf => by
    have hk : k < l.length := by omega
    have hx := getk hk
    have hxs := hs _ (List.getElem_mem hk)
    generalize l[k] = x at hx hxs
    have h0 := L_impl_Long0 x (l.drop (k + 1)) hxs (by simp; omega) (l.drop (k + 1)).length 0 FUEL m (by omega) (FUEL_big (by simp; omega))
    rw [show ((0 : Nat) : Int) = 0 from rfl, List.drop_zero] at h0
    rw [L_impl_LongestPiece_1_succ, if_pos (by simp; omega), gi_at hx, Option.bind_some, cutL_tail hk hl, Option.bind_some, h0, Option.bind_some, wsucc hk (by omega), L_impl_Long1 l hs hl d (k + 1) fuel _ (by omega) (by omega), drop_get hx]
    rfl
def F_LongestPiece (p : LPresentation) : Int := ((upI (F_SymmetrizedSet p) 0 : Nat) : Int)
theorem m_implLongestPiece (p : LPresentation) (hl : p.2.length ≤ 140737488355328) (hs : wordsShort p.2) : M_impl_LongestPiece p = some (F_LongestPiece p) := by
  have hsy := sym_good p
  have hM := m_implSymmetrizedSet p hl hs
  obtain ⟨r, ws⟩ := p
  unfold M_impl_LongestPiece F_LongestPiece
  simp only [hM, Option.bind_some]
  generalize F_SymmetrizedSet (r, ws) = l at hsy
  have h := L_impl_Long1 l (fun w hw => (hsy.1 w hw).2) (by omega) l.length 0 FUEL 0 (by omega) (FUEL_big (by omega))
  rw [show ((0 : Nat) : Int) = 0 from rfl, List.drop_zero] at h
  rw [h]
  rfl
theorem upT_snoc (a b : List Int) : ∀ (l : List (List Int)) (m : Nat), upT a (l ++ [b]) m = max (upT a l m) (cpl a b)
  | [], m => rfl
  | c :: l, m => by simp only [List.cons_append, upT, upT_snoc a b l]
theorem take_get {α : Type} {xs : List α} {k : Nat} {x : α} (h : xs[k]? = some x) : xs.take (k + 1) = xs.take k ++ [x] := by
  obtain ⟨hk, rfl⟩ := List.getElem?_eq_some_iff.1 h
  exact List.take_succ_eq_append_getElem hk
theorem L_spec_Long0 (l : List (List Int)) (hs : short24 l) (hl : l.length ≤ 140737488355328) {i : Nat} {a : List Int} (ha : l[i]? = some a) (m0 : Nat) : ∀ (d k fuel : Nat), k + d = i → d < fuel →
    L_spec_LongestPiece_0 (i : Int) l fuel ((upT a (l.take k) m0 : Nat) : Int) (k : Int) = some ((upT a (l.take i) m0 : Nat) : Int)
  | d, k, 0, hd, hf => by omega
  | 0, k, fuel + 1, hd, hf => by
    rw [L_spec_LongestPiece_0_succ, if_neg (by simp; omega), show k = i by omega]
  | d + 1, k, fuel + 1, hd, hf => by
    have hi := (List.getElem?_eq_some_iff.1 ha).1
    have has := hs _ (List.mem_of_getElem? ha)
    have hk : k < l.length := by omega
    have hx := getk hk
    generalize l[k] = x at hx
    have hc := (cpl_le a x).1
    have ih := L_spec_Long0 l hs hl ha m0 d (k + 1) fuel (by omega) (by omega)
    rw [take_get hx, upT_snoc] at ih
    rw [L_spec_LongestPiece_0_succ, if_pos (by simp; omega), gi_at ha, Option.bind_some, gi_at hx, Option.bind_some, m_specCommon a x (by omega), Option.bind_some, grd_true ⟨by omega, by omega⟩, Option.bind_some, maxN, wsucc hk (by omega), ih]
theorem L_spec_Long1 (l : List (List Int)) (hs : short24 l) (hl : l.length ≤ 140737488355328) : ∀ (d k fuel m : Nat), k + d = l.length → d < fuel →
    L_spec_LongestPiece_1 l fuel (m : Int) (k : Int) = some ((upS (l.take k) (l.drop k) m : Nat) : Int)
  | d, k, 0, m, hd, hf => by omega
  | 0, k, fuel + 1, m, hd, hf => by
    rw [L_spec_LongestPiece_1_succ, if_neg (by simp; omega), drop_done (by omega)]
    rfl
  | d + 1, k, fuel + 1, m, hd, hf => by
    have hk : k < l.length := by omega
    have hx := getk hk
    generalize l[k] = x at hx
    have h0 := L_spec_Long0 l hs hl hx m k 0 FUEL (by omega) (FUEL_big (by omega))
    rw [show ((0 : Nat) : Int) = 0 from rfl, List.take_zero] at h0
    rw [show upT x [] m = m from rfl] at h0
    rw [L_spec_LongestPiece_1_succ, if_pos (by simp; omega), h0, Option.bind_some, wsucc hk (by omega), L_spec_Long1 l hs hl d (k + 1) fuel _ (by omega) (by omega), drop_get hx, take_get hx]
    rfl
theorem m_specLongestPiece (p : LPresentation) (hl : p.2.length ≤ 140737488355328) (hs : wordsShort p.2) : M_spec_LongestPiece p = some (F_LongestPiece p) := by
  have hsy := sym_good p
  have hM := m_specSymmetrizedSet p hl hs
  obtain ⟨r, ws⟩ := p
  unfold M_spec_LongestPiece F_LongestPiece
  simp only [hM, Option.bind_some]
  generalize F_SymmetrizedSet (r, ws) = l at hsy
  have h := L_spec_Long1 l (fun w hw => (hsy.1 w hw).2) (by omega) l.length 0 FUEL 0 (by omega) (FUEL_big (by omega))
  rw [show ((0 : Nat) : Int) = 0 from rfl, List.drop_zero, List.take_zero, up_same] at h
  rw [h]
  rfl

/-! ### pieces below a sixth -/
def six (a b : List Int) : Prop := 6 * cpl a b < a.length ∧ 6 * cpl a b < b.length
instance (a b : List Int) : Decidable (six a b) := inferInstanceAs (Decidable (6 * cpl a b < a.length ∧ 6 * cpl a b < b.length))
theorem six_comm (a b : List Int) : six a b ↔ six b a := by unfold six; rw [cpl_comm]; exact and_comm
def okT (a : List Int) : List (List Int) → Bool
  | [] => true
  | b :: l => decide (six a b) && okT a l
def okI : List (List Int) → Bool
  | [] => true
  | a :: l => okT a l && okI l
theorem okT_iff (a : List Int) : ∀ l, okT a l = true ↔ ∀ b ∈ l, six a b
  | [] => by simp [okT]
  | b :: l => by simp [okT, okT_iff a l]
theorem okI_iff : ∀ l, okI l = true ↔ l.Pairwise six
  | [] => by simp [okI]
  | a :: l => by simp [okI, okI_iff l, okT_iff, List.pairwise_cons]
theorem min_six (a b : List Int) (ha : a.length ≤ 24) : decide (IntKind.i64.wrap (6 * ((cpl a b : Nat) : Int)) ≥ (if ((b.length : Nat) : Int) < ((a.length : Nat) : Int) then ((b.length : Nat) : Int) else ((a.length : Nat) : Int))) = !decide (six a b) := by
  have hc := (cpl_le a b).1
  rw [w64 (by omega) (by omega), ← decide_not]
  apply decide_eq_decide.2
  unfold six
  split <;> omega
theorem L_impl_Six0 (a : List Int) (l : List (List Int)) (ha : a.length ≤ 24) (hl : l.length ≤ 140737488355328) : ∀ (d k fuel : Nat), k + d = l.length → d < fuel →
    L_impl_IsSixth_0 l a fuel (k : Int) = some (bif okT a (l.drop k) then .inr () else .inl false)
  | d, k, 0, hd, hf => by omega
  | 0, k, fuel + 1, hd, hf => by
    rw [L_impl_IsSixth_0_succ, if_neg (by simp; omega), drop_done (by omega)]
    rfl
  | d + 1, k, fuel + 1, hd, hf => by
    have hk : k < l.length := by omega
    have hx := getk hk
    generalize l[k] = x at hx
    have hc := (cpl_le a x).1
    rw [L_impl_IsSixth_0_succ, if_pos (by simp; omega), gi_at hx, Option.bind_some, m_implCommon a x (by omega), Option.bind_some, grd_true ⟨by omega, by omega⟩, Option.bind_some, min_six a x ha, drop_get hx]
    simp only [okT]
    by_cases h : six a x
    · rw [if_neg (by simp [h]), wsucc hk (by omega), L_impl_Six0 a l ha hl d (k + 1) fuel (by omega) (by omega)]
      simp [h]
    · rw [if_pos (by simp [h])]
      simp [h]
theorem L_impl_Six1 (l : List (List Int)) (hs : short24 l) (hl : l.length ≤ 140737488355328) : ∀ (d k fuel : Nat), k + d = l.length → d < fuel →
    L_impl_IsSixth_1 l fuel (k : Int) = some (bif okI (l.drop k) then .inr () else .inl false)
  | d, k, 0, hd, hf => by omega
  | 0, k, fuel + 1, hd, hf => by
    rw [L_impl_IsSixth_1_succ, if_neg (by simp; omega), drop_done (by omega)]
    rfl
  | d + 1, k, fuel + 1, hd, hf => by
    have hk : k < l.length := by omega
    have hx := getk hk
    have hxs := hs _ (List.getElem_mem hk)
    generalize l[k] = x at hx hxs
    have h0 := L_impl_Six0 x (l.drop (k + 1)) hxs (by simp; omega) (l.drop (k + 1)).length 0 FUEL (by omega) (FUEL_big (by simp; omega))
    rw [show ((0 : Nat) : Int) = 0 from rfl, List.drop_zero] at h0
    rw [L_impl_IsSixth_1_succ, if_pos (by simp; omega), gi_at hx, Option.bind_some, cutL_tail hk hl, Option.bind_some, h0, Option.bind_some, drop_get hx]
    simp only [okI]
    cases okT x (l.drop (k + 1)) with
    | false => rfl
    | true =>
      simp only [cond_true, outL, Bool.true_and]
      rw [wsucc hk (by omega)]
      exact L_impl_Six1 l hs hl d (k + 1) fuel (by omega) (by omega)
def F_IsSixth (p : LPresentation) : Bool := F_IsPres p && okI (F_SymmetrizedSet p)
theorem m_implIsSixth (p : LPresentation) (hl : p.2.length ≤ 140737488355328) (hs : wordsShort p.2) : M_impl_IsSixth p = some (F_IsSixth p) := by
  have hsy := sym_good p
  have hM := m_implSymmetrizedSet p hl hs
  have hP := m_implIsPresentation p hl hs
  obtain ⟨r, ws⟩ := p
  unfold M_impl_IsSixth F_IsSixth
  simp only [hP, Option.bind_some]
  cases F_IsPres (r, ws) with
  | false => rfl
  | true =>
    rw [if_neg (by simp), hM, Option.bind_some]
    generalize F_SymmetrizedSet (r, ws) = l at hsy
    have h := L_impl_Six1 l (fun w hw => (hsy.1 w hw).2) (by omega) l.length 0 FUEL (by omega) (FUEL_big (by omega))
    rw [show ((0 : Nat) : Int) = 0 from rfl, List.drop_zero] at h
    rw [h, Option.bind_some]
    cases okI l <;> rfl
/-- the spec's test: every two places -/
def okS0 (l : List (List Int)) (i : Nat) (a : List Int) : Nat → Nat → Bool
  | 0, _ => true
  | d + 1, k => (bif decide (i = k) then true else match l[k]? with
    | some b => decide (6 * cpl a b < a.length)
    | none => false) && okS0 l i a d (k + 1)
theorem okS0_iff (l : List (List Int)) (i : Nat) (a : List Int) : ∀ (d k : Nat), k + d = l.length → (okS0 l i a d k = true ↔ ∀ j b, k ≤ j → j ≠ i → l[j]? = some b → 6 * cpl a b < a.length)
  | 0, k, h => by
    constructor
    · intro _ j b h1 _ h2
      have := (List.getElem?_eq_some_iff.1 h2).1
      omega
    · intro _; rfl
  | d + 1, k, h => by
    have hk : k < l.length := by omega
    have hx := getk hk
    generalize l[k] = x at hx
    have ih := okS0_iff l i a d (k + 1) (by omega)
    simp only [okS0, hx, Bool.and_eq_true, ih]
    constructor
    · rintro ⟨h1, h2⟩ j b h3 h4 h5
      by_cases e : j = k
      · subst e
        rw [hx] at h5; cases h5
        have : decide (i = j) = false := by simp; exact fun e => h4 e.symm
        rw [this] at h1
        simpa using h1
      · exact h2 j b (by omega) h4 h5
    · intro h1
      refine ⟨?_, fun j b h3 h4 h5 => h1 j b (by omega) h4 h5⟩
      by_cases e : i = k
      · simp [e]
      · have := h1 k x (Nat.le_refl _) (fun e' => e e'.symm) hx
        simp [e, this]
theorem L_spec_Six0 (l : List (List Int)) (hs : short24 l) (hl : l.length ≤ 140737488355328) {i : Nat} {a : List Int} (ha : l[i]? = some a) : ∀ (d k fuel : Nat), k + d = l.length → d < fuel →
    L_spec_IsSixth_0 l (i : Int) fuel (k : Int) = some (bif okS0 l i a d k then .inr () else .inl false)
  | d, k, 0, hd, hf => by omega
  | 0, k, fuel + 1, hd, hf => by
    rw [L_spec_IsSixth_0_succ, if_neg (by simp; omega)]
    rfl
  | d + 1, k, fuel + 1, hd, hf => by
    have has := hs _ (List.mem_of_getElem? ha)
    have hk : k < l.length := by omega
    have hx := getk hk
    generalize l[k] = x at hx
    have hc := (cpl_le a x).1
    have ih := L_spec_Six0 l hs hl ha d (k + 1) fuel (by omega) (by omega)
    rw [L_spec_IsSixth_0_succ, if_pos (by simp; omega)]
    simp only [okS0, hx]
    by_cases e : i = k
    · have e1 : (!decide (((i : Nat) : Int) = ((k : Nat) : Int))) = false := by simp [e]
      simp only [e1, chk_false, Option.bind_some, cond_false, grd_true (show In64 0 by decide), Bool.false_eq_true, if_false]
      rw [wsucc hk (by omega), ih]
      simp [e]
    · have e1 : (!decide (((i : Nat) : Int) = ((k : Nat) : Int))) = true := by simp; omega
      simp only [e1, chk_true, gi_at ha, gi_at hx, Option.bind_some, cond_true, m_specCommon a x (show a.length ≤ 140737488355328 by omega), grd_true (show In64 ((cpl a x : Nat) : Int) from ⟨by omega, by omega⟩)]
      rw [w64 (by omega) (by omega)]
      by_cases h : 6 * cpl a x < a.length
      · rw [if_neg (by simp; omega), wsucc hk (by omega), ih]
        simp [e, h]
      · rw [if_pos (by simp; omega)]
        simp [e, h]
def okS (l : List (List Int)) : Nat → Nat → Bool
  | 0, _ => true
  | d + 1, i => (match l[i]? with
    | some a => okS0 l i a l.length 0
    | none => false) && okS l d (i + 1)
theorem L_spec_Six1 (l : List (List Int)) (hs : short24 l) (hl : l.length ≤ 140737488355328) : ∀ (d k fuel : Nat), k + d = l.length → d < fuel →
    L_spec_IsSixth_1 l fuel (k : Int) = some (bif okS l d k then .inr () else .inl false)
  | d, k, 0, hd, hf => by omega
  | 0, k, fuel + 1, hd, hf => by
    rw [L_spec_IsSixth_1_succ, if_neg (by simp; omega)]
    rfl
  | d + 1, k, fuel + 1, hd, hf => by
    have hk : k < l.length := by omega
    have hx := getk hk
    generalize l[k] = x at hx
    have h0 := L_spec_Six0 l hs hl hx l.length 0 FUEL (by omega) (FUEL_big hl)
    rw [show ((0 : Nat) : Int) = 0 from rfl] at h0
    rw [L_spec_IsSixth_1_succ, if_pos (by simp; omega), h0, Option.bind_some]
    simp only [okS, hx]
    cases okS0 l k x l.length 0 with
    | false => rfl
    | true =>
      simp only [cond_true, outL, Bool.true_and]
      rw [wsucc hk (by omega)]
      exact L_spec_Six1 l hs hl d (k + 1) fuel (by omega) (by omega)
theorem okS_iff (l : List (List Int)) : ∀ (d i : Nat), i + d = l.length → (okS l d i = true ↔ ∀ n a, i ≤ n → l[n]? = some a → ∀ j b, j ≠ n → l[j]? = some b → 6 * cpl a b < a.length)
  | 0, i, h => by
    constructor
    · intro _ n a h1 h2
      have := (List.getElem?_eq_some_iff.1 h2).1
      omega
    · intro _; rfl
  | d + 1, i, h => by
    have hi : i < l.length := by omega
    have hx := getk hi
    generalize l[i] = x at hx
    have ih := okS_iff l d (i + 1) (by omega)
    simp only [okS, hx, Bool.and_eq_true, ih, okS0_iff l i x l.length 0 (by omega)]
    constructor
    · rintro ⟨h1, h2⟩ n a h3 h4 j b h5 h6
      by_cases e : n = i
      · subst e
        rw [hx] at h4; cases h4
        exact h1 j b (Nat.zero_le _) h5 h6
      · exact h2 n a (by omega) h4 j b h5 h6
    · intro h1
      exact ⟨fun j b _ h5 h6 => h1 i x (Nat.le_refl _) hx j b h5 h6, fun n a h3 h4 => h1 n a (by omega) h4⟩
theorem ok_same (l : List (List Int)) : okS l l.length 0 = okI l := by
  rw [Bool.eq_iff_iff, okS_iff l l.length 0 (by omega), okI_iff, List.pairwise_iff_getElem]
  constructor
  · intro h i j hi hj hij
    have h1 := h i l[i] (Nat.zero_le _) (getk hi) j l[j] (by omega) (getk hj)
    have h2 := h j l[j] (Nat.zero_le _) (getk hj) i l[i] (by omega) (getk hi)
    rw [cpl_comm] at h2
    exact ⟨h1, h2⟩
  · intro h n a _ hn j b hjn hj
    obtain ⟨hn', rfl⟩ := List.getElem?_eq_some_iff.1 hn
    obtain ⟨hj', rfl⟩ := List.getElem?_eq_some_iff.1 hj
    rcases Nat.lt_or_gt_of_ne hjn with h1 | h1
    · have := (h j n hj' hn' h1).2
      rw [cpl_comm] at this
      exact this
    · exact (h n j hn' hj' h1).1
theorem m_specIsSixth (p : LPresentation) (hl : p.2.length ≤ 140737488355328) (hs : wordsShort p.2) : M_spec_IsSixth p = some (F_IsSixth p) := by
  have hsy := sym_good p
  have hM := m_specSymmetrizedSet p hl hs
  have hP := m_specIsPresentation p hl hs
  have hE : F_IsPres p = false → F_SymmetrizedSet p = [] := fun h => by unfold F_SymmetrizedSet; rw [h]; rfl
  obtain ⟨r, ws⟩ := p
  unfold M_spec_IsSixth F_IsSixth
  simp only [hM, hP, Option.bind_some]
  generalize F_SymmetrizedSet (r, ws) = l at hsy hE
  have h := L_spec_Six1 l (fun w hw => (hsy.1 w hw).2) (by omega) l.length 0 FUEL (by omega) (FUEL_big (by omega))
  rw [show ((0 : Nat) : Int) = 0 from rfl, ok_same] at h
  rw [h, Option.bind_some]
  cases hp : F_IsPres (r, ws) with
  | false =>
    rw [hE hp]
    rfl
  | true => cases okI l <;> rfl
end Go.Proofs.Ythccjgkmmclplaa
