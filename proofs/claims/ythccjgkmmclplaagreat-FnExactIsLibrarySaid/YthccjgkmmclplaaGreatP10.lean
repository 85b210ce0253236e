/- Plain laws: graphs: degrees, equality, edges put in order, sorted edges, copies. -/
import Derived.Test.YthccjgkmmclplaaGreatAg1
import Derived.Test.YthccjgkmmclplaaGreatAg2
import Derived.Test.YthccjgkmmclplaaGreatP9
import Derived.Test.YthccjgkmmclplaaGreatH36
namespace Go.Proofs.YthccjgkmmclplaaGreat
open Go.H
set_option linter.unusedVariables false
set_option linter.unusedSimpArgs false

/-! ### degrees -/
def degE (v : Int) (e : LEdge) : Nat := (if e.1 = v then 1 else 0) + (if e.2.2 = v then 1 else 0)
def degL (v : Int) : List LEdge → Nat
  | [] => 0
  | e :: r => degE v e + degL v r
theorem degE_le (v : Int) (e : LEdge) : degE v e ≤ 2 := by unfold degE; split <;> split <;> omega
theorem degL_le (v : Int) : ∀ l, degL v l ≤ 2 * l.length
  | [] => by simp [degL]
  | e :: r => by have := degE_le v e; have := degL_le v r; simp only [degL, List.length_cons]; omega
theorem L_spec_Deg (es : List LEdge) (v : Int) (hl : es.length ≤ 1099511627776) : ∀ (d k fuel acc : Nat), k + d = es.length → d < fuel → acc ≤ 2 * k →
    L_spec_DegreeOf_0 es v fuel (acc : Int) (k : Int) = some ((acc + degL v (es.drop k) : Nat) : Int)
  | d, k, 0, acc, hd, hf, ha => by omega
  | 0, k, fuel + 1, acc, hd, hf, ha => by
    rw [L_spec_DegreeOf_0_succ, if_neg (by simp; omega), drop_done (by omega)]; rfl
  | d + 1, k, fuel + 1, acc, hd, hf, ha => by
    have hk : k < es.length := by omega
    have he := getk hk
    generalize es[k] = e at he
    obtain ⟨a, l, b⟩ := e
    have ih := fun acc' h => L_spec_Deg es v hl d (k + 1) fuel acc' (by omega) (by omega) h
    have w1 : IntKind.i64.wrap ((acc : Int) + 1) = ((acc + 1 : Nat) : Int) := by rw [w64 (by omega) (by omega)]; rfl
    have w2 : IntKind.i64.wrap (((acc + 1 : Nat) : Int) + 1) = ((acc + 2 : Nat) : Int) := by rw [w64 (by omega) (by omega)]; rfl
    rw [L_spec_DegreeOf_0_succ, if_pos (by simp; omega), gi_at he, drop_get he]
    simp only [Option.bind_some, degL, degE, wsucc hk (show es.length ≤ 9223372036854775807 by omega)]
    by_cases c1 : a = v
    · rw [if_pos (by simpa using c1), if_pos c1]
      by_cases c2 : b = v
      · rw [if_pos (by simpa using c2), if_pos c2, w1, w2, ih _ (by omega)]; congr 2; omega
      · rw [if_neg (by simpa using c2), if_neg c2, w1, ih _ (by omega)]; congr 2; omega
    · rw [if_neg (by simpa using c1), if_neg c1]
      by_cases c2 : b = v
      · rw [if_pos (by simpa using c2), if_pos c2, w1, ih _ (by omega)]; congr 2; omega
      · rw [if_neg (by simpa using c2), if_neg c2, ih _ (by omega)]; congr 2; omega
theorem L_impl_Deg (es : List LEdge) (v : Int) : ∀ (fuel : Nat) (x y : Int), L_impl_DegreeOf_0 es v fuel x y = L_spec_DegreeOf_0 es v fuel x y
  | 0, x, y => rfl
  | fuel + 1, x, y => by
    rw [L_impl_DegreeOf_0_succ, L_spec_DegreeOf_0_succ]
    simp only [L_impl_Deg es v fuel]
    by_cases c : (decide (y < ((es.length : Nat) : Int))) = true
    · rw [if_pos c, if_pos c]
      cases hg : gi es y with
      | none => rfl
      | some e => simp only [Option.bind_some]
    · rw [if_neg c, if_neg c]
theorem m_specDeg (g : LGraph) (v : Int) (hl : g.2.2.length ≤ 1099511627776) : M_spec_DegreeOf g v = some ((degL v g.2.2 : Nat) : Int) := by
  obtain ⟨r, n, es⟩ := g
  unfold M_spec_DegreeOf
  have h := L_spec_Deg es v hl es.length 0 FUEL 0 (by omega) (FUEL_big (by simp only at hl; omega)) (Nat.zero_le _)
  rw [show ((0 : Nat) : Int) = 0 from rfl, List.drop_zero, Nat.zero_add] at h
  simp only [h, Option.bind_some]
theorem m_implDeg (g : LGraph) (v : Int) (hl : g.2.2.length ≤ 1099511627776) : M_impl_DegreeOf g v = some ((degL v g.2.2 : Nat) : Int) := by
  have h := m_specDeg g v hl
  obtain ⟨r, n, es⟩ := g
  unfold M_impl_DegreeOf
  unfold M_spec_DegreeOf at h
  simp only [L_impl_Deg] at h ⊢
  exact h

/-! ### equality -/
def F_EqG (g h : LGraph) : Bool := decide (g = h)
theorem eqE_iff (x y : LEdge) : eqE x y = true ↔ x = y := by simp [eqE]
theorem L_slices_Eq (a b : List LEdge) (hab : a.length = b.length) (hl : a.length ≤ 9223372036854775807) : ∀ (d k fuel : Nat), k + d = a.length → d < fuel →
    L_slices_Equal___impl_Edge_impl_Edge__0 a b fuel (k : Int) = some (if a.drop k = b.drop k then .inr () else .inl false)
  | d, k, 0, hd, hf => by omega
  | 0, k, fuel + 1, hd, hf => by
    rw [L_slices_Equal___impl_Edge_impl_Edge__0_succ, if_neg (by simp; omega), drop_done (by omega), drop_done (by omega)]; rfl
  | d + 1, k, fuel + 1, hd, hf => by
    have hk : k < a.length := by omega
    have hk2 : k < b.length := by omega
    have ha := getk hk
    have hb := getk hk2
    generalize a[k] = x at ha
    generalize b[k] = y at hb
    have ih := L_slices_Eq a b hab hl d (k + 1) fuel (by omega) (by omega)
    rw [L_slices_Equal___impl_Edge_impl_Edge__0_succ, if_pos (by simp; omega), gi_at ha, gi_at hb, drop_get ha, drop_get hb]
    simp only [Option.bind_some, wsucc hk hl, ih]
    by_cases c : x = y
    · subst c
      rw [if_neg (by simp [eqE])]
      simp
    · have hne : eqE x y = false := Bool.eq_false_iff.2 fun h => c ((eqE_iff x y).1 h)
      rw [if_pos (show (!eqE x y) = true by rw [hne]; rfl), if_neg (by simp [c])]
theorem m_slicesEq (a b : List LEdge) (hl : a.length ≤ 9223372036854775807) : M_slices_Equal___impl_Edge_impl_Edge_ a b = some (decide (a = b)) := by
  unfold M_slices_Equal___impl_Edge_impl_Edge_
  by_cases hab : a.length = b.length
  · have h := L_slices_Eq a b hab hl a.length 0 FUEL (by omega) (by unfold FUEL; omega)
    rw [if_neg (by simp; omega), show (0 : Int) = ((0 : Nat) : Int) from rfl, h, List.drop_zero, List.drop_zero]
    by_cases c : a = b
    · rw [if_pos c]; simp [outK, c]
    · rw [if_neg c]; simp [outK, c]
  · rw [if_pos (by simp; omega)]
    congr 1
    symm
    simp
    intro h; exact hab (by rw [h])
theorem m_implEqG (g h : LGraph) (hl : g.2.2.length ≤ 9223372036854775807) : M_impl_EqualGraphs g h = some (F_EqG g h) := by
  obtain ⟨r, n, es⟩ := g
  obtain ⟨r', n', es'⟩ := h
  unfold M_impl_EqualGraphs F_EqG
  simp only [Prod.mk.injEq]
  by_cases c1 : r = r' <;> by_cases c2 : n = n' <;> simp [c1, c2, chk_true, chk_false, m_slicesEq es es' hl]
theorem L_spec_Eq (a b : List LEdge) : ∀ (fuel : Nat) (k : Int), L_spec_EqualGraphs_0 a b fuel k = L_slices_Equal___impl_Edge_impl_Edge__0 a b fuel k
  | 0, k => rfl
  | fuel + 1, k => by
    rw [L_spec_EqualGraphs_0_succ, L_slices_Equal___impl_Edge_impl_Edge__0_succ]
    simp only [L_spec_Eq a b fuel]
theorem m_specEqG (g h : LGraph) (hl : g.2.2.length ≤ 9223372036854775807) : M_spec_EqualGraphs g h = some (F_EqG g h) := by
  have hS := m_slicesEq g.2.2 h.2.2 hl
  obtain ⟨r, n, es⟩ := g
  obtain ⟨r', n', es'⟩ := h
  unfold M_spec_EqualGraphs F_EqG
  unfold M_slices_Equal___impl_Edge_impl_Edge_ at hS
  simp only [L_spec_Eq, Prod.mk.injEq] at hS ⊢
  by_cases c1 : r = r'
  · by_cases c2 : n = n'
    · simp only [c1, c2, decide_true, Bool.not_true, cond_false, true_and]
      rw [← hS]
    · simp [c1, c2]
  · simp [c1]

/-! ### edges put in order -/
theorem cmpE_cases (e f : LEdge) : In64 (F_CompareEdges e f) := cmpE_64 e f
def goE (x : LEdge) : List LEdge → Bool × List LEdge
  | [] => (false, [])
  | y :: l => if F_CompareEdges x y < 0 then (true, x :: y :: l) else if F_CompareEdges x y = 0 then (true, y :: l) else ((goE x l).1, y :: (goE x l).2)
theorem goE_put (x : LEdge) : ∀ l, putL F_CompareEdges x l = bif (goE x l).1 then (goE x l).2 else (goE x l).2 ++ [x]
  | [] => rfl
  | y :: l => by
    have ih := goE_put x l
    unfold putL goE
    by_cases c1 : F_CompareEdges x y < 0
    · rw [if_pos c1, if_pos c1]; rfl
    · rw [if_neg c1, if_neg c1]
      by_cases c2 : F_CompareEdges x y = 0
      · rw [if_pos c2, if_pos c2]; rfl
      · rw [if_neg c2, if_neg c2, ih]; cases (goE x l).1 <;> rfl
theorem L_PutE_on (l : List LEdge) (w0 w1 w2 : Int) (hl : l.length ≤ 1099511627776) : ∀ (d k fuel : Nat) (acc : List LEdge), k + d = l.length → d < fuel → acc.length ≤ k + 1 →
    L_spec_l4Put_0 l w0 w1 w2 fuel true (k : Int) acc = some (true, acc ++ l.drop k)
  | d, k, 0, acc, hd, hf, ha => by omega
  | 0, k, fuel + 1, acc, hd, hf, ha => by
    rw [L_spec_l4Put_0_succ, if_neg (by simp; omega), drop_done (by omega), List.append_nil]
  | d + 1, k, fuel + 1, acc, hd, hf, ha => by
    have hk : k < l.length := by omega
    have he := getk hk
    generalize l[k] = e at he
    obtain ⟨a, x, b⟩ := e
    have ih := L_PutE_on l w0 w1 w2 hl d (k + 1) fuel (acc ++ [(a, x, b)]) (by omega) (by omega) (by simp; omega)
    rw [L_spec_l4Put_0_succ, if_pos (by simp; omega), drop_get he]
    simp only [gi_at he, Option.bind_some, m_specCompareEdges, grd_true (cmpE_64 _ _), wsucc hk (show l.length ≤ 9223372036854775807 by omega), Bool.not_true]
    have hb : ∀ b : Bool, (bif b then false else false) = false := fun b => by cases b <;> rfl
    simp only [hb, Bool.false_eq_true, if_false]
    rw [grd_true (by simp; omega), Option.bind_some, ih]
    simp
theorem L_PutE_off (l : List LEdge) (w0 w1 w2 : Int) (hl : l.length ≤ 1099511627776) : ∀ (d k fuel : Nat) (acc : List LEdge), k + d = l.length → d < fuel → acc.length = k →
    L_spec_l4Put_0 l w0 w1 w2 fuel false (k : Int) acc = some ((goE (w0, w1, w2) (l.drop k)).1, acc ++ (goE (w0, w1, w2) (l.drop k)).2)
  | d, k, 0, acc, hd, hf, ha => by omega
  | 0, k, fuel + 1, acc, hd, hf, ha => by
    rw [L_spec_l4Put_0_succ, if_neg (by simp; omega), drop_done (by omega)]; simp [goE]
  | d + 1, k, fuel + 1, acc, hd, hf, ha => by
    have hk : k < l.length := by omega
    have he := getk hk
    generalize l[k] = e at he
    obtain ⟨a, x, b⟩ := e
    have ih := L_PutE_off l w0 w1 w2 hl d (k + 1) fuel (acc ++ [(a, x, b)]) (by omega) (by omega) (by simp; omega)
    have on1 := L_PutE_on l w0 w1 w2 hl d (k + 1) fuel (acc ++ [(a, x, b)]) (by omega) (by omega) (by simp; omega)
    have on2 := L_PutE_on l w0 w1 w2 hl d (k + 1) fuel ((acc ++ [(w0, w1, w2)]) ++ [(a, x, b)]) (by omega) (by omega) (by simp; omega)
    rw [L_spec_l4Put_0_succ, if_pos (by simp; omega), drop_get he]
    simp only [gi_at he, Option.bind_some, m_specCompareEdges, grd_true (cmpE_64 _ _), wsucc hk (show l.length ≤ 9223372036854775807 by omega), Bool.not_true, Bool.not_false, goE]
    show _ = _
    unfold cmpE
    by_cases c1 : F_CompareEdges (w0, w1, w2) (a, x, b) = 0
    · rw [if_pos (by simpa using c1), if_neg (by simp [c1]), if_neg (by omega), if_pos c1]
      rw [grd_true (by simp; omega), Option.bind_some, on1]; simp
    · rw [if_neg (by simpa using c1)]
      by_cases c2 : F_CompareEdges (w0, w1, w2) (a, x, b) < 0
      · rw [if_pos (by simp [c2]), if_pos c2, grd_true (by simp; omega), Option.bind_some, grd_true (by simp; omega), Option.bind_some, on2]; simp
      · rw [if_neg (by simp [c2]), if_neg c2, if_neg c1, grd_true (by simp; omega), Option.bind_some, ih]; simp
theorem m_l4Put (l : List LEdge) (e : LEdge) (hl : l.length ≤ 1099511627776) : M_spec_l4Put l e = some (putL F_CompareEdges e l) := by
  obtain ⟨w0, w1, w2⟩ := e
  unfold M_spec_l4Put
  have h := L_PutE_off l w0 w1 w2 hl l.length 0 FUEL [] (by omega) (FUEL_big (by omega)) rfl
  rw [show ((0 : Nat) : Int) = 0 from rfl, List.drop_zero, List.nil_append] at h
  simp only [h, Option.bind_some, goE_put]
  have hlen : ∀ l : List LEdge, (goE (w0, w1, w2) l).2.length ≤ l.length + 1 := fun l => by
    induction l with
    | nil => simp [goE]
    | cons y l ih =>
      unfold goE
      split
      · simp
      · split
        · simp
        · simp only [List.length_cons]; omega
  have := hlen l
  cases (goE (w0, w1, w2) l).1 with
  | true => rfl
  | false =>
    simp only [Bool.not_false, if_true, cond_false]
    rw [grd_true (by simp; omega), Option.bind_some]
theorem putL_lenE (e : LEdge) : ∀ l : List LEdge, (putL F_CompareEdges e l).length ≤ l.length + 1
  | [] => by simp [putL]
  | y :: l => by
    have := putL_lenE e l
    unfold putL
    split
    · simp
    · split
      · simp
      · simp only [List.length_cons]; omega
theorem m_sorted (es : List LEdge) (hl : es.length ≤ 1099511627776) : M_impl_sorted es = some (putAll F_CompareEdges [] es) := by
  unfold M_impl_sorted
  rw [grd_true (by simp; omega), Option.bind_some, grd_true (by simp; omega), Option.bind_some, List.nil_append]
  exact congrArg some (uniqL_eq cmpE_lin eqE_iff es es fun _ => Iff.rfl)
theorem m_specCopy (g : LGraph) (hl : g.2.2.length ≤ 1099511627776) : M_spec_l4Copy g = some g := by
  obtain ⟨r, n, es⟩ := g
  unfold M_spec_l4Copy
  simp only
  rw [grd_true (by simp only [List.length_nil, Nat.zero_add]; simp only at hl; omega)]; rfl
theorem m_implCopy (g : LGraph) (hl : g.2.2.length ≤ 1099511627776) : M_impl_copyGraph g = some g := by
  obtain ⟨r, n, es⟩ := g
  unfold M_impl_copyGraph
  simp only
  rw [grd_true (by simp only [List.length_nil, Nat.zero_add]; simp only at hl; omega)]; rfl
end Go.Proofs.YthccjgkmmclplaaGreat
