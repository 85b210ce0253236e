/- Plain laws: the canonical order and the canonical graph, by either road. -/
import Derived.Test.YthccjgkmmclplaaGreatAg3
import Derived.Test.YthccjgkmmclplaaGreatP12
namespace Go.Proofs.YthccjgkmmclplaaGreat
open Go.H
set_option linter.unusedVariables false
set_option linter.unusedSimpArgs false

theorem nod_le : ∀ (n : Nat) (o : List Int), o.Nodup → inV n o → o.length ≤ n
  | 0, [], _, _ => Nat.le_refl _
  | 0, x :: r, _, h => by have := h x (List.mem_cons_self ..); omega
  | n + 1, o, hd, h => by
    have h1 : inV n (o.erase (n : Int)) := fun x hx => by
      obtain ⟨hne, hm⟩ := (List.Nodup.mem_erase_iff hd).1 hx
      have := h x hm; omega
    have h2 := nod_le n _ (hd.erase _) h1
    by_cases hm : (n : Int) ∈ o
    · rw [List.length_erase_of_mem hm] at h2; omega
    · rw [List.erase_of_not_mem hm] at h2; omega

/-! ### letters -/
def ltrs : Nat → Nat → List Int
  | 0, _ => []
  | d + 1, i => (i : Int) :: -(i : Int) :: ltrs d (i + 1)
theorem ltrs_len : ∀ d i, (ltrs d i).length = 2 * d
  | 0, i => rfl
  | d + 1, i => by simp only [ltrs, List.length_cons, ltrs_len d]; omega
theorem ltrs_ok : ∀ (d i : Nat), i + d ≤ 1000 → ∀ x ∈ ltrs d i, notMin x
  | 0, i, h, x, hx => nomatch hx
  | d + 1, i, h, x, hx => by
    simp only [ltrs, List.mem_cons] at hx
    rcases hx with rfl | rfl | hx
    · exact ⟨⟨by omega, by omega⟩, by omega⟩
    · exact ⟨⟨by omega, by omega⟩, by omega⟩
    · exact ltrs_ok d (i + 1) (by omega) x hx
theorem L_iltr (R : Nat) (hR : R ≤ 900) : ∀ (d i fuel : Nat) (acc : List Int), i + d = R + 1 → d < fuel → acc.length + 2 * d ≤ 10000 →
    L_impl_letters_0 (R : Int) fuel (i : Int) acc = some (acc ++ ltrs d i)
  | d, i, 0, acc, hd, hf, ha => by omega
  | 0, i, fuel + 1, acc, hd, hf, ha => by
    rw [L_impl_letters_0_succ, if_neg (by simp; omega)]; simp [ltrs]
  | d + 1, i, fuel + 1, acc, hd, hf, ha => by
    have ih := L_iltr R hR d (i + 1) fuel (acc ++ [(i : Int), -(i : Int)]) (by omega) (by omega) (by simp; omega)
    have w1 : IntKind.i64.wrap (0 - (i : Int)) = -(i : Int) := by rw [w64 (by omega) (by omega)]; omega
    rw [L_impl_letters_0_succ, if_pos (by simp; omega), w1, grd_true (by simp; omega), Option.bind_some, wsucc (show i < 1000 by omega) (by omega), ih]
    simp [ltrs]
theorem L_sltr (R : Nat) (hR : R ≤ 900) : ∀ (d i fuel : Nat) (acc : List Int), i + d = R + 1 → d < fuel → acc.length + 2 * d ≤ 10000 →
    L_spec_l5Letters_0 (R : Int) fuel (i : Int) acc = some (acc ++ ltrs d i)
  | d, i, 0, acc, hd, hf, ha => by omega
  | 0, i, fuel + 1, acc, hd, hf, ha => by
    rw [L_spec_l5Letters_0_succ, if_neg (by simp; omega)]; simp [ltrs]
  | d + 1, i, fuel + 1, acc, hd, hf, ha => by
    have ih := L_sltr R hR d (i + 1) fuel ((acc ++ [(i : Int)]) ++ [-(i : Int)]) (by omega) (by omega) (by simp; omega)
    have w1 : IntKind.i64.wrap (0 - (i : Int)) = -(i : Int) := by rw [w64 (by omega) (by omega)]; omega
    rw [L_spec_l5Letters_0_succ, if_pos (by simp; omega), w1, grd_true (by simp; omega), Option.bind_some, grd_true (by simp; omega), Option.bind_some, wsucc (show i < 1000 by omega) (by omega), ih]
    simp [ltrs]
theorem m_iltr (R : Nat) (hR : R ≤ 900) : M_impl_letters (R : Int) = some (ltrs R 1) := by
  unfold M_impl_letters
  rw [show (1 : Int) = ((1 : Nat) : Int) from rfl, L_iltr R hR R 1 FUEL [] (by omega) (FUEL_big (by omega)) (by simp; omega)]; rfl
theorem m_sltr (R : Nat) (hR : R ≤ 900) : M_spec_l5Letters (R : Int) = some (ltrs R 1) := by
  unfold M_spec_l5Letters
  rw [show (1 : Int) = ((1 : Nat) : Int) from rfl, L_sltr R hR R 1 FUEL [] (by omega) (FUEL_big (by omega)) (by simp; omega)]; rfl

/-! ### the order -/
def ordS (u : List Int) (x : Int) : List Int := if 0 ≤ x ∧ x ∉ u then u ++ [x] else u
def ordIn (g : LGraph) (v : Int) : List Int → List Int → List Int
  | [], u => u
  | x :: r, u => ordIn g v r (ordS u (F_Next g v x))
def ordOut (g : LGraph) (ls : List Int) : Nat → Nat → List Int → List Int
  | 0, i, u => u
  | f + 1, i, u => match u[i]? with
    | some v => ordOut g ls f (i + 1) (ordIn g v ls u)
    | none => u
def gud (n : Nat) (u : List Int) : Prop := u.Nodup ∧ inV n u
theorem gud_S {n : Nat} {u : List Int} {x : Int} (h : gud n u) (hx : x = -1 ∨ (0 ≤ x ∧ x < (n : Int))) : gud n (ordS u x) := by
  unfold ordS
  split
  · rename_i hc
    refine ⟨List.nodup_append.2 ⟨h.1, by simp, fun a ha b hb => ?_⟩, fun y hy => ?_⟩
    · simp at hb; subst hb; exact fun e => hc.2 (e ▸ ha)
    · rcases List.mem_append.1 hy with hy | hy
      · exact h.2 y hy
      · simp at hy; subst hy; omega
  · exact h
theorem ordS_pre (u : List Int) (x : Int) : ∃ t, ordS u x = u ++ t := by
  unfold ordS; split
  · exact ⟨_, rfl⟩
  · exact ⟨[], by simp⟩
theorem ordIn_pre (g : LGraph) (v : Int) : ∀ (ls u : List Int), ∃ t, ordIn g v ls u = u ++ t
  | [], u => ⟨[], by simp [ordIn]⟩
  | x :: r, u => by
    obtain ⟨t1, e1⟩ := ordS_pre u (F_Next g v x)
    obtain ⟨t2, e2⟩ := ordIn_pre g v r (ordS u (F_Next g v x))
    exact ⟨t1 ++ t2, by rw [ordIn, e2, e1, List.append_assoc]⟩
theorem ordIn_gud {r : Int} {n : Nat} {es : List LEdge} (hg : inG (r, (n : Int), es)) (v : Int) : ∀ (ls u : List Int), gud n u → gud n (ordIn (r, (n : Int), es) v ls u)
  | [], u, h => h
  | x :: l, u, h => ordIn_gud hg v l _ (gud_S h (next_in hg v x))
theorem ordOut_gud {r : Int} {n : Nat} {es : List LEdge} (hg : inG (r, (n : Int), es)) (ls : List Int) : ∀ (f i : Nat) (u : List Int), gud n u → gud n (ordOut (r, (n : Int), es) ls f i u)
  | 0, i, u, h => h
  | f + 1, i, u, h => by
    unfold ordOut
    split
    · exact ordOut_gud hg ls f _ _ (ordIn_gud hg _ _ _ h)
    · exact h
theorem ordOut_len (g : LGraph) (ls : List Int) : ∀ (f i : Nat) (u : List Int), u.length ≤ (ordOut g ls f i u).length
  | 0, i, u => Nat.le_refl _
  | f + 1, i, u => by
    unfold ordOut
    split
    · rename_i v _
      obtain ⟨t, e⟩ := ordIn_pre g v ls u
      have := ordOut_len g ls f (i + 1) (ordIn g v ls u)
      rw [e] at this ⊢; simp only [List.length_append] at this; omega
    · exact Nat.le_refl _
theorem L_sOrd0 (r : Int) (n : Nat) (es : List LEdge) (hg : inG (r, (n : Int), es)) (hn : n ≤ 40) (hes : es.length ≤ 1099511627776) (ls : List Int) (hls : ∀ x ∈ ls, notMin x) (hl : ls.length ≤ 1000000) (i : Nat) (v : Int) : ∀ (d k fuel : Nat) (u : List Int), gud n u → u[i]? = some v → k + d = ls.length → d < fuel →
    L_spec_CanonicalOrder_0 ls (i : Int) r (n : Int) es fuel (k : Int) u = some (ordIn (r, (n : Int), es) v (ls.drop k) u)
  | d, k, 0, u, hu, hi, hd, hf => by omega
  | 0, k, fuel + 1, u, hu, hi, hd, hf => by
    rw [L_spec_CanonicalOrder_0_succ, if_neg (by simp; omega), drop_done (by omega)]; rfl
  | d + 1, k, fuel + 1, u, hu, hi, hd, hf => by
    have hk : k < ls.length := by omega
    have hx := getk hk
    have hxm := hls _ (List.mem_of_getElem? hx)
    have hdr := drop_get hx
    generalize ls[k] = x at hx hxm hdr
    have hlen := nod_le n u hu.1 hu.2
    have hnx : F_Next (r, (n : Int), es) v x = -1 ∨ (0 ≤ F_Next (r, (n : Int), es) v x ∧ F_Next (r, (n : Int), es) v x < (n : Int)) := next_in hg v x
    have hg2 := gud_S hu hnx
    have hi2 : (ordS u (F_Next (r, (n : Int), es) v x))[i]? = some v := by
      obtain ⟨t, e⟩ := ordS_pre u (F_Next (r, (n : Int), es) v x)
      rw [e, List.getElem?_append_left (List.getElem?_eq_some_iff.1 hi).1]; exact hi
    have ih := L_sOrd0 r n es hg hn hes ls hls hl i v d (k + 1) fuel _ hg2 hi2 (by omega) (by omega)
    rw [L_spec_CanonicalOrder_0_succ, if_pos (by simp; omega), hdr]
    simp only [gi_at hi, gi_at hx, Option.bind_some, m_specNext (r, (n : Int), es) v x hxm hes, grd_true (next_64 hg (show (n : Int) ≤ 40 by omega) v x), wsucc hk (show ls.length ≤ 9223372036854775807 by omega), ordIn]
    rw [← ih]
    generalize F_Next (r, (n : Int), es) v x = y at *
    unfold ordS
    by_cases c1 : 0 ≤ y
    · simp only [show decide (y ≥ 0) = true by simpa using c1, chk_true, m_l4Has u y (by omega), Option.bind_some, cond_true]
      by_cases c2 : y ∈ u
      · rw [if_neg (by simp [c2]), if_neg (by simp [c2])]
      · rw [if_pos (by simp [c2]), if_pos ⟨c1, c2⟩, grd_true (by simp; omega), Option.bind_some]
    · simp only [show decide (y ≥ 0) = false by simpa using c1, chk_false, Option.bind_some, cond_false]
      rw [if_neg (by simp), if_neg (fun h => c1 h.1)]
theorem L_sOrd1 (r : Int) (n : Nat) (es : List LEdge) (hg : inG (r, (n : Int), es)) (hn : n ≤ 40) (hes : es.length ≤ 1099511627776) (ls : List Int) (hls : ∀ x ∈ ls, notMin x) (hl : ls.length ≤ 1000000) : ∀ (f i fuel : Nat) (u : List Int), gud n u → i ≤ u.length → n + 1 ≤ i + f → f < fuel →
    L_spec_CanonicalOrder_1 ls r (n : Int) es fuel (i : Int) u = some (ordOut (r, (n : Int), es) ls f i u)
  | f, i, 0, u, hu, hi, hd, hf => by omega
  | 0, i, fuel + 1, u, hu, hi, hd, hf => by have := nod_le n u hu.1 hu.2; omega
  | f + 1, i, fuel + 1, u, hu, hi, hd, hf => by
    have hlen := nod_le n u hu.1 hu.2
    rw [L_spec_CanonicalOrder_1_succ, Option.bind_some, grd_true (by omega), Option.bind_some]
    by_cases hk : i < u.length
    · have hx := getk hk
      generalize u[i] = v at hx
      have h0 := L_sOrd0 r n es hg hn hes ls hls hl i v ls.length 0 FUEL u hu hx (by omega) (FUEL_big (by omega))
      rw [show ((0 : Nat) : Int) = 0 from rfl, List.drop_zero] at h0
      obtain ⟨t, e⟩ := ordIn_pre (r, (n : Int), es) v ls u
      have ih := L_sOrd1 r n es hg hn hes ls hls hl f (i + 1) fuel _ (ordIn_gud hg v ls u hu) (by rw [e, List.length_append]; omega) (by omega) (by omega)
      rw [if_pos (by simpa using hk), h0, Option.bind_some, wsucc hk (by omega), ih]
      simp only [ordOut, hx]
    · have hx : u[i]? = none := List.getElem?_eq_none (by omega)
      rw [if_neg (by simpa using hk)]
      simp only [ordOut, hx]
def F_Order (g : LGraph) : List Int := ordOut g (ltrs g.1.toNat 1) (g.2.1.toNat + 1) 0 [0]
theorem order_gud {g : LGraph} (hf : F_IsFolded g = true) : gud g.2.1.toNat (F_Order g) ∧ 1 ≤ (F_Order g).length := by
  obtain ⟨h1, h2, h3, h4⟩ := folded_in hf
  obtain ⟨r, n, es⟩ := g
  simp only at h2 h3 h4
  obtain ⟨N, rfl⟩ : ∃ N : Nat, n = (N : Int) := ⟨n.toNat, by omega⟩
  refine ⟨?_, ?_⟩
  · exact ordOut_gud h1 _ _ _ _ ⟨by simp, fun x hx => by simp at hx; subst hx; show (0 : Int) ≤ 0 ∧ (0 : Int) < (((N : Int).toNat : Nat) : Int); omega⟩
  · exact ordOut_len _ _ _ _ [0]
theorem m_specOrder (g : LGraph) (hf : F_IsFolded g = true) : M_spec_CanonicalOrder g = some (F_Order g) := by
  obtain ⟨h1, h2, h3, h4⟩ := folded_in hf
  have hF := m_specIsFolded g (by omega)
  obtain ⟨r, n, es⟩ := g
  simp only at h2 h3 h4
  obtain ⟨N, rfl⟩ : ∃ N : Nat, n = (N : Int) := ⟨n.toNat, by omega⟩
  obtain ⟨R, rfl⟩ : ∃ R : Nat, r = (R : Int) := ⟨r.toNat, by omega⟩
  unfold M_spec_CanonicalOrder
  have h0 := L_sOrd1 (R : Int) N es h1 (by omega) (by omega) (ltrs R 1) (ltrs_ok R 1 (by omega)) (by rw [ltrs_len]; omega) (N + 1) 0 FUEL [0] ⟨by simp, fun x hx => by simp at hx; subst hx; omega⟩ (by simp) (by omega) (FUEL_big (by omega))
  simp only [hF, hf, Option.bind_some, Bool.not_true, m_sltr R (by omega)]
  rw [show ((0 : Nat) : Int) = 0 from rfl] at h0
  rw [if_neg (by simp), h0]
  rfl

/-! ### impl: with the words -/
theorem m_copyI {a : List Int} (la : a.length ≤ 1099511627776) : M_impl_copyInts a = some a := by
  unfold M_impl_copyInts
  rw [grd_true (by simp; omega)]; rfl
def getO (W : List (Option (List Int))) (x : Int) : Option (List Int) := W.getD x.toNat none
theorem giO {W : List (Option (List Int))} {n : Nat} (hl : W.length = n) {x : Int} (h0 : 0 ≤ x) (h1 : x < n) : gi W x = some (getO W x) := by
  have hk : x.toNat < W.length := by omega
  have e : x = ((x.toNat : Nat) : Int) := by omega
  have h2 : gi W ((x.toNat : Nat) : Int) = some (getO W x) := by
    rw [gi_nat, List.getElem?_eq_getElem hk]
    unfold getO
    rw [List.getD_eq_getElem?_getD, List.getElem?_eq_getElem hk]; rfl
  rw [← e] at h2; exact h2
theorem getO_set {A : List (Option (List Int))} {v x : Int} {y : Option (List Int)} (h0 : 0 ≤ v) (h1 : v.toNat < A.length) (hx : 0 ≤ x) : getO (A.set v.toNat y) x = if x = v then y else getO A x := by
  unfold getO
  rw [List.getD_eq_getElem?_getD, List.getD_eq_getElem?_getD, List.getElem?_set]
  by_cases c : x = v
  · rw [if_pos c, if_pos (by rw [c]), if_pos h1]; rfl
  · rw [if_neg c, if_neg (by omega)]
structure WOk (n : Nat) (W : List (Option (List Int))) (u : List Int) : Prop where
  len : W.length = n
  iff : ∀ x, 0 ≤ x → x < (n : Int) → ((getO W x).isNone = true ↔ x ∉ u)
  short : ∀ x, ((getO W x).getD []).length ≤ u.length
theorem L_iOrd0 (r : Int) (n : Nat) (es : List LEdge) (hg : inG (r, (n : Int), es)) (hn : n ≤ 40) (hes : es.length ≤ 1099511627776) (ls : List Int) (hls : ∀ x ∈ ls, notMin x) (hl : ls.length ≤ 1000000) (v : Int) (hv : 0 ≤ v ∧ v < (n : Int)) : ∀ (d k fuel : Nat) (W : List (Option (List Int))) (u : List Int), gud n u → WOk n W u → k + d = ls.length → d < fuel →
    ∃ W', L_impl_Graph_tree_0 ls r (n : Int) es v fuel (k : Int) W u = some (W', ordIn (r, (n : Int), es) v (ls.drop k) u) ∧ WOk n W' (ordIn (r, (n : Int), es) v (ls.drop k) u)
  | d, k, 0, W, u, hu, hw, hd, hf => by omega
  | 0, k, fuel + 1, W, u, hu, hw, hd, hf => by
    rw [L_impl_Graph_tree_0_succ, if_neg (by simp; omega), drop_done (by omega)]; exact ⟨W, rfl, hw⟩
  | d + 1, k, fuel + 1, W, u, hu, hw, hd, hf => by
    have hk : k < ls.length := by omega
    have hx := getk hk
    have hxm := hls _ (List.mem_of_getElem? hx)
    have hdr := drop_get hx
    generalize ls[k] = x at hx hxm hdr
    have hlen := nod_le n u hu.1 hu.2
    have hnx : F_Next (r, (n : Int), es) v x = -1 ∨ (0 ≤ F_Next (r, (n : Int), es) v x ∧ F_Next (r, (n : Int), es) v x < (n : Int)) := next_in hg v x
    have hg2 := gud_S hu hnx
    have ih := fun W' h => L_iOrd0 r n es hg hn hes ls hls hl v hv d (k + 1) fuel W' _ hg2 h (by omega) (by omega)
    rw [L_impl_Graph_tree_0_succ, if_pos (by simp; omega), hdr]
    simp only [gi_at hx, Option.bind_some, m_implNext (r, (n : Int), es) v x hxm hes, grd_true (next_64 hg (show (n : Int) ≤ 40 by omega) v x), wsucc hk (show ls.length ≤ 9223372036854775807 by omega), ordIn]
    generalize F_Next (r, (n : Int), es) v x = y at *
    by_cases c1 : 0 ≤ y
    · have hy : y < (n : Int) := by omega
      simp only [show decide (y ≥ 0) = true by simpa using c1, chk_true, giO hw.len c1 hy, Option.bind_some, cond_true]
      by_cases c2 : y ∈ u
      · have : ¬ ((getO W y).isNone = true) := fun h => (hw.iff y c1 hy).1 h c2
        have e : ordS u y = u := if_neg fun h => h.2 c2
        rw [if_neg this]
        rw [e] at ih ⊢
        exact ih W hw
      · have : (getO W y).isNone = true := (hw.iff y c1 hy).2 c2
        have e : ordS u y = u ++ [y] := if_pos ⟨c1, c2⟩
        have hs := hw.short v
        rw [if_pos this, giO hw.len hv.1 hv.2, Option.bind_some, m_copyI (by omega), Option.bind_some, grd_true (by simp; omega), Option.bind_some, grd_true (by simp; omega), Option.bind_some]
        rw [e] at ih ⊢
        refine ih _ ⟨by simp [hw.len], fun z h0 h1 => ?_, fun z => ?_⟩
        · rw [getO_set c1 (by have := hw.len; omega) h0]
          by_cases c : z = y
          · rw [if_pos c]; simp [c]
          · rw [if_neg c, hw.iff z h0 h1]; simp [c]
        · by_cases hz : 0 ≤ z
          · rw [getO_set c1 (by have := hw.len; omega) hz]
            by_cases c : z = y
            · rw [if_pos c]; simp; exact hs
            · rw [if_neg c]; have := hw.short z; simp only [List.length_append]; omega
          · have hz0 : getO (W.set y.toNat (some ((getO W v).getD [] ++ [x]))) z = getO (W.set y.toNat (some ((getO W v).getD [] ++ [x]))) 0 := by
              unfold getO; rw [show z.toNat = (0 : Int).toNat by omega]
            rw [hz0, getO_set c1 (by have := hw.len; omega) (Int.le_refl 0)]
            by_cases c : (0 : Int) = y
            · rw [if_pos c]; simp; exact hs
            · rw [if_neg c]; have := hw.short 0; simp only [List.length_append]; omega
    · have e : ordS u y = u := if_neg fun h => c1 h.1
      simp only [show decide (y ≥ 0) = false by simpa using c1, chk_false, Option.bind_some, cond_false]
      rw [if_neg (by simp)]
      rw [e] at ih ⊢
      exact ih W hw
theorem L_iOrd1 (R n : Nat) (hR : R ≤ 900) (es : List LEdge) (hg : inG ((R : Int), (n : Int), es)) (hn : n ≤ 40) (hes : es.length ≤ 1099511627776) : ∀ (f i fuel : Nat) (W : List (Option (List Int))) (u : List Int), gud n u → WOk n W u → i ≤ u.length → n + 1 ≤ i + f → f < fuel →
    ∃ W', L_impl_Graph_tree_1 (R : Int) (n : Int) es fuel (i : Int) W u = some (W', ordOut ((R : Int), (n : Int), es) (ltrs R 1) f i u)
  | f, i, 0, W, u, hu, hw, hi, hd, hf => by omega
  | 0, i, fuel + 1, W, u, hu, hw, hi, hd, hf => by have := nod_le n u hu.1 hu.2; omega
  | f + 1, i, fuel + 1, W, u, hu, hw, hi, hd, hf => by
    have hlen := nod_le n u hu.1 hu.2
    rw [L_impl_Graph_tree_1_succ, Option.bind_some, grd_true (by omega), Option.bind_some]
    by_cases hk : i < u.length
    · have hx := getk hk
      have hv := hu.2 _ (List.mem_of_getElem? hx)
      generalize u[i] = v at hx hv
      obtain ⟨W1, h0, hw1⟩ := L_iOrd0 (R : Int) n es hg hn hes (ltrs R 1) (ltrs_ok R 1 (by omega)) (by rw [ltrs_len]; omega) v hv (ltrs R 1).length 0 FUEL W u hu hw (by omega) (FUEL_big (by rw [ltrs_len]; omega))
      rw [show ((0 : Nat) : Int) = 0 from rfl, List.drop_zero] at h0
      rw [List.drop_zero] at hw1
      obtain ⟨t, e⟩ := ordIn_pre ((R : Int), (n : Int), es) v (ltrs R 1) u
      obtain ⟨W2, ih⟩ := L_iOrd1 R n hR es hg hn hes f (i + 1) fuel W1 _ (ordIn_gud hg v _ u hu) hw1 (by rw [e, List.length_append]; omega) (by omega) (by omega)
      rw [if_pos (by simpa using hk), gi_at hx, Option.bind_some, m_iltr R hR, Option.bind_some, h0, Option.bind_some]
      simp only [wsucc hk (show u.length ≤ 9223372036854775807 by omega), ih, ordOut, hx]
      exact ⟨_, rfl⟩
    · have hx : u[i]? = none := List.getElem?_eq_none (by omega)
      rw [if_neg (by simpa using hk)]
      simp only [ordOut, hx]
      exact ⟨_, rfl⟩
theorem m_implOrder (g : LGraph) (hf : F_IsFolded g = true) : M_impl_CanonicalOrder g = some (F_Order g) := by
  obtain ⟨h1, h2, h3, h4⟩ := folded_in hf
  have hF := m_implIsFolded g (by omega)
  obtain ⟨r, n, es⟩ := g
  simp only at h2 h3 h4
  obtain ⟨N, rfl⟩ : ∃ N : Nat, n = (N : Int) := ⟨n.toNat, by omega⟩
  obtain ⟨R, rfl⟩ : ∃ R : Nat, r = (R : Int) := ⟨r.toNat, by omega⟩
  unfold M_impl_CanonicalOrder
  have hrep : ∀ x, getO (List.replicate N (none : Option (List Int))) x = none := fun x => by
    unfold getO
    rw [List.getD_eq_getElem?_getD, List.getElem?_replicate]; split <;> rfl
  have hW : WOk N ((List.replicate N (none : Option (List Int))).set (0 : Int).toNat (some [])) [0] := by
    refine ⟨by simp, fun x h0 h1 => ?_, fun x => ?_⟩
    · rw [getO_set (Int.le_refl 0) (by simp; omega) h0]
      by_cases c : x = 0
      · rw [if_pos c]; simp [c]
      · rw [if_neg c, hrep]; simp [c]
    · by_cases hz : 0 ≤ x
      · rw [getO_set (Int.le_refl 0) (by simp; omega) hz]
        split
        · simp
        · rw [hrep]; simp
      · have : getO ((List.replicate N (none : Option (List Int))).set (0 : Int).toNat (some [])) x = getO ((List.replicate N (none : Option (List Int))).set (0 : Int).toNat (some [])) 0 := by
          unfold getO; rw [show x.toNat = (0 : Int).toNat by omega]
        rw [this, getO_set (Int.le_refl 0) (by simp; omega) (Int.le_refl 0), if_pos rfl]; simp
  obtain ⟨W', h0⟩ := L_iOrd1 R N (by omega) es h1 (by omega) (by omega) (N + 1) 0 FUEL _ [0] ⟨by simp, fun x hx => by simp at hx; subst hx; omega⟩ hW (by simp) (by omega) (FUEL_big (by omega))
  have hg0 : gi (List.replicate N (none : Option (List Int))) 0 = some none := by
    rw [gi_at0 (x := none)]; rw [List.getElem?_replicate, if_pos (by omega)]
  simp only [hF, hf, Option.bind_some, Bool.not_true, M_impl_Graph_tree, Int.toNat_natCast]
  rw [if_neg (by simp), grd_true (by omega), Option.bind_some, hg0, Option.bind_some]
  rw [show ((0 : Nat) : Int) = 0 from rfl] at h0
  rw [h0]
  rfl
def F_Canon (g : LGraph) : LGraph := F_part g (F_Order g)
theorem m_implCanon (g : LGraph) (hf : F_IsFolded g = true) : M_impl_CanonicalGraph g = some (F_Canon g) := by
  obtain ⟨h1, h2, h3, h4⟩ := folded_in hf
  have hF := m_implIsFolded g (by omega)
  have hO := m_implOrder g hf
  obtain ⟨ho, ho1⟩ := order_gud hf
  have hle := nod_le _ _ ho.1 ho.2
  obtain ⟨r, n, es⟩ := g
  simp only at h2 h3 h4
  obtain ⟨N, rfl⟩ : ∃ N : Nat, n = (N : Int) := ⟨n.toNat, by omega⟩
  simp only [Int.toNat_natCast] at ho hle
  have hp := m_part r N es (F_Order (r, (N : Int), es)) (fun e he => ⟨(h1 e he).1, (h1 e he).2.1⟩) ho.2 (by omega) (by omega) (by omega)
  unfold M_impl_CanonicalGraph
  simp only [hF, hf, Option.bind_some, Bool.not_true, hO, hp]
  rfl
theorem m_specCanon (g : LGraph) (hf : F_IsFolded g = true) : M_spec_CanonicalGraph g = some (F_Canon g) := by
  obtain ⟨h1, h2, h3, h4⟩ := folded_in hf
  have hG : F_IsGraph g = true := by
    unfold F_IsFolded at hf; exact (Bool.and_eq_true _ _ ▸ hf).1
  have hO := m_specOrder g hf
  obtain ⟨ho, ho1⟩ := order_gud hf
  have hle := nod_le _ _ ho.1 ho.2
  obtain ⟨r, n, es⟩ := g
  simp only at h2 h3 h4
  obtain ⟨N, rfl⟩ : ∃ N : Nat, n = (N : Int) := ⟨n.toNat, by omega⟩
  simp only [Int.toNat_natCast] at ho hle
  have hp := m_renumber r N es (F_Order (r, (N : Int), es)) hG ho.2 ho.1 ho1 hle
  unfold M_spec_CanonicalGraph
  simp only [Option.bind_some, hO, hp]
  rw [if_neg (by simp; intro h; rw [h] at ho1; simp at ho1)]
  rfl
end Go.Proofs.YthccjgkmmclplaaGreat
