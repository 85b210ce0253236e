/- Plain laws: graphs, as the spec and the code know them. -/
import Derived.Test.YthccjgkmmclplaaGreatA4g
import Derived.Test.YthccjgkmmclplaaGreatP1b
import Derived.Test.YthccjgkmmclplaaGreatH33
namespace Go.Proofs.YthccjgkmmclplaaGreat
open Go.H
set_option linter.unusedVariables false
set_option linter.unusedSimpArgs false

def edgeOK (r hi : Int) (e : LEdge) : Bool := inR 0 hi e.1 && inR 0 hi e.2.2 && inR 1 r e.2.1
def cmpE (e f : LEdge) : Int := F_CompareEdges e f
theorem cmpE_def (e f : LEdge) : cmpE e f = if cmpI e.1 f.1 ≠ 0 then cmpI e.1 f.1 else if cmpI e.2.1 f.2.1 ≠ 0 then cmpI e.2.1 f.2.1 else cmpI e.2.2 f.2.2 := rfl
theorem cmpI_cases (a b : Int) : (a < b ∧ cmpI a b = -1) ∨ (a > b ∧ cmpI a b = 1) ∨ (a = b ∧ cmpI a b = 0) := by
  unfold cmpI
  split
  · omega
  · split <;> omega
theorem cmpE_64 (e f : LEdge) : In64 (cmpE e f) := by
  rw [cmpE_def]
  split
  · exact cmpI_64 _ _
  · split <;> exact cmpI_64 _ _
theorem m_l4Edge (g : LGraph) (e : LEdge) : M_spec_l4Edge g e = some (edgeOK g.1 (IntKind.i64.wrap (g.2.1 - 1)) e) := by
  obtain ⟨r, n, es⟩ := g
  obtain ⟨a, l, b⟩ := e
  unfold M_spec_l4Edge edgeOK
  simp only [m_l1In, Option.bind_some]
  cases inR 0 (IntKind.i64.wrap (n - 1)) a with
  | false => rfl
  | true =>
    cases inR 0 (IntKind.i64.wrap (n - 1)) b with
    | false => rfl
    | true => simp [chk]
theorem m_Graph_accepts (g : LGraph) (e : LEdge) : M_impl_Graph_accepts g e = some (edgeOK g.1 (IntKind.i64.wrap (g.2.1 - 1)) e) := by
  obtain ⟨r, n, es⟩ := g
  obtain ⟨a, l, b⟩ := e
  unfold M_impl_Graph_accepts M_impl_Graph_has edgeOK
  simp only [m_within, Option.bind_some]
  cases inR 0 (IntKind.i64.wrap (n - 1)) a with
  | false => rfl
  | true =>
    cases inR 0 (IntKind.i64.wrap (n - 1)) b with
    | false => rfl
    | true => simp [chk]
theorem m_specCompareEdges (e f : LEdge) : M_spec_CompareEdges e f = some (cmpE e f) := by
  obtain ⟨a, l, b⟩ := e
  obtain ⟨a', l', b'⟩ := f
  unfold M_spec_CompareEdges
  rw [show FUEL = (FUEL - 4) + 1 + 1 + 1 + 1 from rfl]
  have w1 : IntKind.i64.wrap (0 + 1) = 1 := by decide
  have w2 : IntKind.i64.wrap (1 + 1) = 2 := by decide
  have w3 : IntKind.i64.wrap (2 + 1) = 3 := by decide
  have g0 : ∀ x y z : Int, gi [x, y, z] 0 = some x := fun _ _ _ => rfl
  have g1 : ∀ x y z : Int, gi [x, y, z] 1 = some y := fun _ _ _ => rfl
  have g2 : ∀ x y z : Int, gi [x, y, z] 2 = some z := fun _ _ _ => rfl
  have d0 : decide ((0 : Int) < 3) = true := rfl
  have d1 : decide ((1 : Int) < 3) = true := rfl
  have d2 : decide ((2 : Int) < 3) = true := rfl
  have d3 : decide ((3 : Int) < 3) = false := rfl
  simp only [L_spec_CompareEdges_0_succ, w1, w2, w3, g0, g1, g2, d0, d1, d2, d3, if_true, Option.bind_some, Bool.false_eq_true, if_false]
  rw [cmpE_def]
  simp only
  rcases cmpI_cases a a' with ⟨h, e⟩ | ⟨h, e⟩ | ⟨h, e⟩
  · simp [e, h, outK]
  · have : ¬ a < a' := by omega
    simp [e, h, this, outK]
  · subst h
    rcases cmpI_cases l l' with ⟨h, e2⟩ | ⟨h, e2⟩ | ⟨h, e2⟩
    · simp [e, e2, h, outK]
    · have : ¬ l < l' := by omega
      simp [e, e2, h, this, outK]
    · subst h
      rcases cmpI_cases b b' with ⟨h, e3⟩ | ⟨h, e3⟩ | ⟨h, e3⟩
      · simp [e, e2, e3, h, outK]
      · have : ¬ b < b' := by omega
        simp [e, e2, e3, h, this, outK]
      · subst h
        simp [e, e2, e3, outK]
theorem m_cmpInts (a b : Int) : M_impl_compareInts a b = some (cmpI a b) := by
  unfold M_impl_compareInts cmpI
  by_cases h : a < b
  · simp [h]
  · by_cases h2 : a > b <;> simp [h, h2]
theorem m_implCompareEdges (e f : LEdge) : M_impl_CompareEdges e f = some (cmpE e f) := by
  obtain ⟨a, l, b⟩ := e
  obtain ⟨a', l', b'⟩ := f
  rw [cmpE_def]
  unfold M_impl_CompareEdges
  simp only [m_cmpInts, Option.bind_some, grd_true (cmpI_64 _ _)]
  by_cases h1 : cmpI a a' = 0
  · by_cases h2 : cmpI l l' = 0
    · simp [h1, h2]
    · simp [h1, h2]
  · simp [h1]
def badE (r hi : Int) (es : List LEdge) (k : Nat) : Bool := match es[k]? with
  | none => true
  | some e => !edgeOK r hi e || (decide (0 < k) && match es[k - 1]? with
    | none => true
    | some f => decide (cmpE f e ≥ 0))
def okE (r hi : Int) (es : List LEdge) : Nat → Nat → Bool
  | 0, _ => true
  | d + 1, k => !badE r hi es k && okE r hi es d (k + 1)
def F_IsGraph (g : LGraph) : Bool := okE g.1 (IntKind.i64.wrap (g.2.1 - 1)) g.2.2 g.2.2.length 0 && inR 1 3 g.1 && inR 1 40 g.2.1 && decide (g.2.2.length ≤ 120)
theorem badE_eq {r hi : Int} {es : List LEdge} {k : Nat} {e : LEdge} (hx : es[k]? = some e) : badE r hi es k = (!edgeOK r hi e || (decide (0 < k) && match es[k - 1]? with
    | none => true
    | some f => decide (cmpE f e ≥ 0))) := by unfold badE; rw [hx]
theorem L_spec_IsGraph_eq (r n : Int) (es : List LEdge) (hl : es.length ≤ 140737488355328) : ∀ (d k fuel : Nat), k + d = es.length → d < fuel →
    L_spec_IsGraph_0 es r n fuel (k : Int) = some (bif okE r (IntKind.i64.wrap (n - 1)) es d k then .inr () else .inl false)
  | d, k, 0, hk, hf => by omega
  | 0, k, fuel + 1, hk, hf => by
    rw [L_spec_IsGraph_0_succ, if_neg (by simp; omega)]
    simp [okE]
  | d + 1, k, fuel + 1, hk, hf => by
    have hkl : k < es.length := by omega
    have hx := getk hkl
    generalize es[k] = e at hx
    obtain ⟨e0, e1, e2⟩ := e
    have next := L_spec_IsGraph_eq r n es hl d (k + 1) fuel (by omega) (by omega)
    rw [L_spec_IsGraph_0_succ, if_pos (by simp; omega), gi_at hx, Option.bind_some]
    simp only [m_l4Edge, Option.bind_some, wsucc hkl (by omega : es.length ≤ 9223372036854775807), next, okE, badE_eq hx]
    generalize IntKind.i64.wrap (n - 1) = hi
    cases hin : edgeOK r hi (e0, e1, e2) with
    | false => simp [chk, grd, In64]
    | true =>
      by_cases hk0 : k = 0
      · have ek : decide ((k : Int) > 0) = false := by simp; omega
        have bk : decide (0 < k) = false := by simp; omega
        simp only [ek, bk, chk_false, Bool.not_true, Bool.not_false, Bool.and_true, Bool.false_and, Bool.or_self, Bool.true_and, cond_true, cond_false, Option.bind_some, Bool.or_false, Bool.false_eq_true, if_false, grd_true (show In64 0 by decide)]
      · have hy := getk (show k - 1 < es.length by omega)
        generalize es[k - 1] = f at hy
        obtain ⟨f0, f1, f2⟩ := f
        have hpr : IntKind.i64.wrap ((k : Int) - 1) = ((k - 1 : Nat) : Int) := wpred (by omega) (by omega)
        have ek : decide ((k : Int) > 0) = true := by simp; omega
        have bk : decide (0 < k) = true := by simp; omega
        simp only [ek, bk, hpr, hy, gi_at hx, gi_at hy, chk_true, Bool.not_true, Bool.not_false, Bool.and_true, Bool.false_and, Bool.or_self, Bool.true_and, cond_true, cond_false, Option.bind_some, Bool.or_false, Bool.false_or, m_specCompareEdges, grd_true (cmpE_64 _ _)]
        cases decide (cmpE (f0, f1, f2) (e0, e1, e2) ≥ 0) <;> rfl
theorem m_specIsGraph (g : LGraph) (hl : g.2.2.length ≤ 140737488355328) : M_spec_IsGraph g = some (F_IsGraph g) := by
  obtain ⟨r, n, es⟩ := g
  unfold M_spec_IsGraph F_IsGraph
  simp only at hl ⊢
  have h := L_spec_IsGraph_eq r n es hl es.length 0 FUEL (by omega) (FUEL_big hl)
  rw [show ((0 : Nat) : Int) = 0 from rfl] at h
  rw [h, Option.bind_some]
  cases okE r (IntKind.i64.wrap (n - 1)) es es.length 0 with
  | false => simp [outK]
  | true =>
    rw [cond_true, outK_inr, m_l1In, m_l1In, Option.bind_some]
    cases inR 1 3 r with
    | false => simp [chk]
    | true =>
      simp only [chk_true, Option.bind_some, cond_true, Bool.true_and]
      cases inR 1 40 n with
      | false => simp
      | true => simp; omega
theorem L_impl_IsGraph_eq (r n : Int) (es : List LEdge) (hl : es.length ≤ 140737488355328) : ∀ (d k fuel : Nat), k + d = es.length → d < fuel →
    L_impl_IsGraph_0 es r n fuel (k : Int) = some (bif okE r (IntKind.i64.wrap (n - 1)) es d k then .inr () else .inl false)
  | d, k, 0, hk, hf => by omega
  | 0, k, fuel + 1, hk, hf => by
    rw [L_impl_IsGraph_0_succ, if_neg (by simp; omega)]
    simp [okE]
  | d + 1, k, fuel + 1, hk, hf => by
    have hkl : k < es.length := by omega
    have hx := getk hkl
    generalize es[k] = e at hx
    obtain ⟨e0, e1, e2⟩ := e
    have next := L_impl_IsGraph_eq r n es hl d (k + 1) fuel (by omega) (by omega)
    rw [L_impl_IsGraph_0_succ, if_pos (by simp; omega), gi_at hx, Option.bind_some]
    simp only [m_Graph_accepts, Option.bind_some, wsucc hkl (by omega : es.length ≤ 9223372036854775807), next, okE, badE_eq hx]
    generalize IntKind.i64.wrap (n - 1) = hi
    cases hin : edgeOK r hi (e0, e1, e2) with
    | false => simp [chk, grd, In64]
    | true =>
      by_cases hk0 : k = 0
      · have ek : decide ((k : Int) > 0) = false := by simp; omega
        have bk : decide (0 < k) = false := by simp; omega
        simp only [ek, bk, chk_false, Bool.not_true, Bool.not_false, Bool.and_true, Bool.false_and, Bool.or_self, Bool.true_and, cond_true, cond_false, Option.bind_some, Bool.or_false, Bool.false_eq_true, if_false, grd_true (show In64 0 by decide)]
      · have hy := getk (show k - 1 < es.length by omega)
        generalize es[k - 1] = f at hy
        obtain ⟨f0, f1, f2⟩ := f
        have hpr : IntKind.i64.wrap ((k : Int) - 1) = ((k - 1 : Nat) : Int) := wpred (by omega) (by omega)
        have ek : decide ((k : Int) > 0) = true := by simp; omega
        have bk : decide (0 < k) = true := by simp; omega
        simp only [ek, bk, hpr, hy, gi_at hx, gi_at hy, chk_true, Bool.not_true, Bool.not_false, Bool.and_true, Bool.false_and, Bool.or_self, Bool.true_and, cond_true, cond_false, Option.bind_some, Bool.or_false, Bool.false_or, m_implCompareEdges, grd_true (cmpE_64 _ _)]
        cases decide (cmpE (f0, f1, f2) (e0, e1, e2) ≥ 0) <;> rfl
theorem m_implIsGraph (g : LGraph) (hl : g.2.2.length ≤ 140737488355328) : M_impl_IsGraph g = some (F_IsGraph g) := by
  obtain ⟨r, n, es⟩ := g
  unfold M_impl_IsGraph F_IsGraph
  simp only at hl ⊢
  rw [m_within, m_within, Option.bind_some]
  cases hr : inR 1 3 r with
  | false => simp [chk]
  | true =>
    simp only [Bool.not_true, Bool.not_false, chk_true, Option.bind_some, cond_false]
    cases hn : inR 1 40 n with
    | false => simp
    | true =>
      by_cases h120 : es.length ≤ 120
      · have h := L_impl_IsGraph_eq r n es hl es.length 0 FUEL (by omega) (FUEL_big hl)
        rw [show ((0 : Nat) : Int) = 0 from rfl] at h
        have e1 : decide (((es.length : Nat) : Int) > 120) = false := by simp; omega
        have e2 : decide (es.length ≤ 120) = true := by simpa using h120
        simp only [e1, e2, Bool.not_true, cond_false, Bool.false_eq_true, if_false, h, Option.bind_some]
        cases okE r (IntKind.i64.wrap (n - 1)) es es.length 0 <;> rfl
      · have e1 : decide (((es.length : Nat) : Int) > 120) = true := by simp; omega
        have e2 : decide (es.length ≤ 120) = false := by simpa using h120
        simp only [e1, e2, Bool.not_true, cond_false, if_true, Bool.and_false]

/-! ### texts -/
theorem okE_at {r hi : Int} {es : List LEdge} : ∀ {d k : Nat}, okE r hi es d k = true → ∀ i, k ≤ i → i < k + d → badE r hi es i = false
  | 0, k, h, i, h1, h2 => by omega
  | d + 1, k, h, i, h1, h2 => by
    simp only [okE, Bool.and_eq_true, Bool.not_eq_true'] at h
    by_cases e : i = k
    · subst e; exact h.1
    · exact okE_at h.2 i (by omega) (by omega)
end Go.Proofs.YthccjgkmmclplaaGreat
