/- Plain laws: vertices that no loop needs, cores, names, libraries, by either road. -/
import Derived.Test.YthccjgkmmclplaaGreatAg4
import Derived.Test.YthccjgkmmclplaaGreatP13
namespace Go.Proofs.YthccjgkmmclplaaGreat
open Go.H
set_option linter.unusedVariables false
set_option linter.unusedSimpArgs false

/-! ### the first vertex that no loop needs -/
def lf (bad : Nat → Bool) : Nat → Nat → Option Nat
  | 0, v => none
  | d + 1, v => bif bad v then some v else lf bad d (v + 1)
theorem lf_range {bad : Nat → Bool} : ∀ (d v k : Nat), lf bad d v = some k → v ≤ k ∧ k < v + d
  | 0, v, k, h => by cases h
  | d + 1, v, k, h => by
    unfold lf at h
    cases hb : bad v
    · rw [hb] at h; have := lf_range d (v + 1) k h; omega
    · rw [hb] at h; cases h; omega
theorem lf_congr {b1 b2 : Nat → Bool} : ∀ (d v : Nat), (∀ k, v ≤ k → k < v + d → b1 k = b2 k) → lf b1 d v = lf b2 d v
  | 0, v, h => rfl
  | d + 1, v, h => by unfold lf; rw [h v (Nat.le_refl _) (by omega), lf_congr d (v + 1) fun k h1 h2 => h k (by omega) (by omega)]
def rchL (es : List LEdge) : List Int := itS es (es.length + 1) [0]
def badV (es : List LEdge) (v : Nat) : Bool := decide (degL (v : Int) es < 2) || !decide ((v : Int) ∈ rchL es)
def F_leaf (g : LGraph) : Option Nat := lf (badV g.2.2) (g.2.1.toNat - 1) 1
theorem m_reachedE (g : LGraph) (hg : F_IsGraph g = true) : M_spec_ReachedFrom g 0 = some (rchL g.2.2) ∧ (rchL g.2.2).length ≤ 100000 := by
  obtain ⟨h1, h2, h3, h4⟩ := graph_in hg
  have hq := m_specIsGraph g (by omega)
  obtain ⟨r, n, es⟩ := g
  simp only at h2 h3 h4
  unfold M_spec_ReachedFrom rchL
  have hl := L_Reached1 es h4 (es.length + 1) 0 FUEL [0] (by omega) (FUEL_big (by omega)) (by simp)
  have hlen := itS_len es (es.length + 1) [0]
  refine ⟨?_, ?_⟩
  · rw [show ((0 : Nat) : Int) = 0 from rfl] at hl
    simp only [hq, hg, Option.bind_some, Bool.not_true, Bool.not_false, chk_true, m_l1In, inR, w64 (show -9223372036854775808 ≤ n - 1 by omega) (show n - 1 ≤ 9223372036854775807 by omega)]
    rw [if_neg (by simp; omega), hl]; rfl
  · have : (es.length + 1) * (2 * es.length) ≤ 121 * 240 := Nat.mul_le_mul (by omega) (by omega)
    simp only [List.length_singleton] at hlen
    simp only
    omega
theorem L_leaf (r : Int) (n : Nat) (es : List LEdge) (hes : es.length ≤ 1000) (u : List Int) (hu : u.length ≤ 100000) (hn : n ≤ 40) : ∀ (d v fuel : Nat), v + d = n ∨ (d = 0 ∧ n ≤ v) → v ≤ 1000 → d < fuel →
    L_spec_l8Leaf_0 (n : Int) r es u fuel (v : Int) = some (match lf (fun v => decide (degL (v : Int) es < 2) || !decide ((v : Int) ∈ u)) d v with | some k => .inl (k : Int) | none => .inr ())
  | d, v, 0, hd, hv, hf => by omega
  | 0, v, fuel + 1, hd, hv, hf => by
    rw [L_spec_l8Leaf_0_succ, if_neg (by simp; omega)]; rfl
  | d + 1, v, fuel + 1, hd, hv, hf => by
    have ih := L_leaf r n es hes u hu hn d (v + 1) fuel (by omega) (by omega) (by omega)
    have hdeg := degL_le (v : Int) es
    rw [L_spec_l8Leaf_0_succ, if_pos (by simp; omega), m_specDeg (r, (n : Int), es) _ (by simp only; omega), Option.bind_some, grd_true (c64 (by simp only; omega) (by simp only; omega)), Option.bind_some, wsucc (show v < 10000 by omega) (by omega)]
    unfold lf
    by_cases c1 : degL (v : Int) es < 2
    · have e1 : decide (((degL (v : Int) es : Nat) : Int) < 2) = true := decide_eq_true (by omega)
      simp only [e1, Bool.not_true, chk_false, Option.bind_some, cond_true, if_true, decide_eq_true c1, Bool.true_or]
    · have e1 : decide (((degL (v : Int) es : Nat) : Int) < 2) = false := decide_eq_false (by omega)
      simp only [e1, Bool.not_false, chk_true, m_l4Has u _ (show u.length ≤ 9223372036854775807 by omega), Option.bind_some, cond_false, decide_eq_false c1, Bool.false_or]
      by_cases c2 : (v : Int) ∈ u
      · simp only [decide_eq_true c2, Bool.not_true, Bool.false_eq_true, if_false, cond_false]; exact ih
      · simp only [decide_eq_false c2, Bool.not_false, if_true, cond_true]
theorem m_leaf (g : LGraph) (hg : F_IsGraph g = true) : M_spec_l8Leaf g = some (match F_leaf g with | some k => (k : Int) | none => -1) := by
  obtain ⟨e1, e2⟩ := m_reachedE g hg
  obtain ⟨h1, h2, h3, h4⟩ := graph_in hg
  obtain ⟨r, n, es⟩ := g
  simp only at h2 h3 h4 e1 e2
  obtain ⟨N, rfl⟩ : ∃ N : Nat, n = (N : Int) := ⟨n.toNat, by omega⟩
  unfold M_spec_l8Leaf F_leaf
  have hl := L_leaf r N es (by omega) (rchL es) e2 (by omega) (N - 1) 1 FUEL (by omega) (by omega) (FUEL_big (by omega))
  simp only [e1, Option.bind_some, Int.toNat_natCast]
  rw [show (1 : Int) = ((1 : Nat) : Int) from rfl, hl]
  rw [show (fun v : Nat => decide (degL (v : Int) es < 2) || !decide ((v : Int) ∈ rchL es)) = badV es from rfl]
  cases lf (badV es) (N - 1) 1 <;> rfl

/-! ### impl: TrimGraph -/
theorem L_trim1 (r : Int) (n : Nat) (es : List LEdge) (hes : es.length ≤ 1000) (S : List Bool) (hS : S.length = n) (hn : n ≤ 40) : ∀ (d v fuel : Nat), 1 ≤ v → v + d = n ∨ (d = 0 ∧ n ≤ v) → v ≤ 1000 → d + 1 < fuel →
    L_impl_TrimGraph_1 (n : Int) r es S fuel 0 (v : Int) = some (match lf (fun v => decide (degL (v : Int) es < 2) || !getB S (v : Int)) d v with | some k => (k : Int) | none => 0)
  | d, v, 0, h1, hd, hv, hf => by omega
  | 0, v, fuel + 1, h1, hd, hv, hf => by
    have e : decide ((v : Int) < (n : Int)) = false := decide_eq_false (by omega)
    rw [L_impl_TrimGraph_1_succ, if_neg (by rw [e]; simp)]; rfl
  | d + 1, v, fuel + 1, h1, hd, hv, hf => by
    have ih := L_trim1 r n es hes S hS hn d (v + 1) fuel (by omega) (by omega) (by omega) (by omega)
    have hdeg := degL_le (v : Int) es
    have e : decide ((v : Int) < (n : Int)) = true := decide_eq_true (by omega)
    have hfin : ∀ w : Int, L_impl_TrimGraph_1 (n : Int) r es S fuel (v : Int) w = some (v : Int) := fun w => by
      obtain _ | fuel := fuel
      · omega
      · have e2 : decide ((v : Int) = 0) = false := decide_eq_false (by omega)
        have e3 : ∀ b : Bool, (bif b then false else false) = false := fun b => by cases b <;> rfl
        rw [L_impl_TrimGraph_1_succ, if_neg (by rw [e2, e3]; simp)]
    rw [L_impl_TrimGraph_1_succ, if_pos (by rw [e]; rfl), m_implDeg (r, (n : Int), es) _ (by simp only; omega), Option.bind_some, grd_true (c64 (by simp only; omega) (by simp only; omega)), Option.bind_some, wsucc (show v < 10000 by omega) (by omega)]
    unfold lf
    by_cases c1 : degL (v : Int) es < 2
    · have e1 : decide (((degL (v : Int) es : Nat) : Int) < 2) = true := decide_eq_true (by omega)
      simp only [e1, Bool.not_true, chk_false, Option.bind_some, cond_true, if_true, decide_eq_true c1, Bool.true_or, hfin]
    · have e1 : decide (((degL (v : Int) es : Nat) : Int) < 2) = false := decide_eq_false (by omega)
      simp only [e1, Bool.not_false, chk_true, giB hS (show (0 : Int) ≤ (v : Int) by omega) (show (v : Int) < (n : Int) by omega), Option.bind_some, cond_false, decide_eq_false c1, Bool.false_or]
      cases hb : getB S (v : Int)
      · simp only [Bool.not_false, if_true, cond_true, hfin]
      · simp only [Bool.not_true, Bool.false_eq_true, if_false, cond_false]; exact ih
def wo (g : Nat) : Nat → Nat → List Int
  | 0, k => []
  | d + 1, k => if k = g then wo g d (k + 1) else (k : Int) :: wo g d (k + 1)
theorem wo_len (g : Nat) : ∀ (d k : Nat), (wo g d k).length = d - (if k ≤ g ∧ g < k + d then 1 else 0)
  | 0, k => by simp [wo]
  | d + 1, k => by
    have ih := wo_len g d (k + 1)
    unfold wo
    by_cases c : k = g
    · rw [if_pos c, ih, if_neg (by omega), if_pos (by omega)]; omega
    · rw [if_neg c, List.length_cons, ih]
      by_cases c2 : k + 1 ≤ g ∧ g < k + 1 + d
      · rw [if_pos c2, if_pos (by omega)]; omega
      · rw [if_neg c2, if_neg (by omega)]; omega
theorem wo_in (g n : Nat) : ∀ (d k : Nat), k + d ≤ n → inV n (wo g d k)
  | 0, k, h => fun x hx => nomatch hx
  | d + 1, k, h => by
    have ih := wo_in g n d (k + 1) (by omega)
    unfold wo
    split
    · exact ih
    · intro x hx
      rcases List.mem_cons.1 hx with rfl | hx
      · omega
      · exact ih x hx
theorem L_trim0 (n g : Nat) (hn : n ≤ 1000) : ∀ (d k fuel : Nat) (acc : List Int), k + d = n → d < fuel → acc.length ≤ k →
    L_impl_TrimGraph_0 (n : Int) (g : Int) fuel (k : Int) acc = some (acc ++ wo g d k)
  | d, k, 0, acc, hd, hf, ha => by omega
  | 0, k, fuel + 1, acc, hd, hf, ha => by
    rw [L_impl_TrimGraph_0_succ, if_neg (by simp; omega)]; simp [wo]
  | d + 1, k, fuel + 1, acc, hd, hf, ha => by
    have ih := fun acc' h => L_trim0 n g hn d (k + 1) fuel acc' (by omega) (by omega) h
    rw [L_impl_TrimGraph_0_succ, if_pos (by simp; omega), wsucc (show k < 10000 by omega) (by omega)]
    unfold wo
    by_cases c : k = g
    · have e : decide ((k : Int) = (g : Int)) = true := decide_eq_true (by omega)
      rw [e, if_neg (by simp), if_pos c, ih _ (by omega)]
    · have e : decide ((k : Int) = (g : Int)) = false := decide_eq_false (by omega)
      rw [e, if_pos (show (!false) = true from rfl), if_neg c, grd_true (by simp; omega), Option.bind_some, ih _ (by simp; omega)]
      simp
theorem L_trim3 (n : Nat) (hn : n ≤ 1000) : ∀ (d k fuel : Nat) (acc : List Int), k + d = n → d < fuel → acc.length = k →
    ∃ u, L_impl_TrimGraph_3 (n : Int) fuel (k : Int) acc = some u ∧ u.length = n
  | d, k, 0, acc, hd, hf, ha => by omega
  | 0, k, fuel + 1, acc, hd, hf, ha => by
    rw [L_impl_TrimGraph_3_succ, if_neg (by simp; omega)]; exact ⟨_, rfl, by omega⟩
  | d + 1, k, fuel + 1, acc, hd, hf, ha => by
    obtain ⟨u, e1, e2⟩ := L_trim3 n hn d (k + 1) fuel (acc ++ [(k : Int)]) (by omega) (by omega) (by simp; omega)
    rw [L_impl_TrimGraph_3_succ, if_pos (by simp; omega), wsucc (show k < 10000 by omega) (by omega), grd_true (by simp; omega), Option.bind_some, e1]
    exact ⟨u, rfl, e2⟩
theorem cutL_toG {α : Type} {xs : List α} {k : Nat} (h : k ≤ xs.length) : cutL xs 0 (k : Int) = some (xs.take k) := by
  unfold cutL
  rw [if_pos (by omega)]; rfl
theorem L_trim2 : ∀ (n fuel : Nat) (left : List Int) (r : Int) (es : List LEdge), 1 ≤ n → n ≤ 40 → inN n es → es.length ≤ 120 → left.length = n → n < fuel →
    ∃ (g' : LGraph) (l' : List Int), L_impl_TrimGraph_2 fuel left r (n : Int) es = some (.inl (g', l')) ∧ g'.2.1 ≤ (n : Int) ∧ (g'.2.1 = (n : Int) ↔ lf (badV es) (n - 1) 1 = none)
  | n, 0, left, r, es, h1, h2, hn, hes, hl, hf => by omega
  | n, fuel + 1, left, r, es, h1, h2, hn, hes, hl, hf => by
    obtain ⟨S, eS, lS, hS⟩ := m_joined r n es hn (by omega) h1 (by omega)
    have ht1 := L_trim1 r n es (by omega) S lS h2 (n - 1) 1 FUEL (Nat.le_refl _) (by omega) (by omega) (FUEL_big (by omega))
    have hcg : lf (fun v => decide (degL (v : Int) es < 2) || !getB S (v : Int)) (n - 1) 1 = lf (badV es) (n - 1) 1 := lf_congr _ _ fun k k1 k2 => by
      unfold badV
      have := hS (k : Int) (by omega) (by omega)
      have h3 := itS_rch es 0 (k : Int)
      congr 2
      cases hb : getB S (k : Int)
      · symm; exact decide_eq_false fun h => by rw [this.2 (h3.1 h)] at hb; cases hb
      · symm; exact decide_eq_true (h3.2 (this.1 hb))
    rw [hcg] at ht1
    rw [L_impl_TrimGraph_2_succ, eS, Option.bind_some, show (1 : Int) = ((1 : Nat) : Int) from rfl, ht1, Option.bind_some]
    cases hlf : lf (badV es) (n - 1) 1 with
    | none =>
      exact ⟨(r, (n : Int), es), left, by rw [if_pos (by rfl)], Int.le_refl _, by simp⟩
    | some k =>
      have hk := lf_range _ _ _ hlf
      have e0 : decide ((k : Int) = 0) = false := decide_eq_false (by omega)
      have ho := wo_in k n n 0 (by omega)
      have hlen := wo_len k n 0
      rw [if_pos (by omega)] at hlen
      have ht0 := L_trim0 n k (by omega) n 0 FUEL [] (by omega) (FUEL_big (by omega)) (Nat.le_refl _)
      rw [show ((0 : Nat) : Int) = 0 from rfl, List.nil_append] at ht0
      have hp := m_part r n es (wo k n 0) hn ho (by omega) (by omega) (by omega)
      have hpl := F_part_len (r, (n : Int), es) (wo k n 0)
      have hpi := F_part_in (r := r) ho hn
      have hw : IntKind.i64.wrap ((k : Int) + ((1 : Nat) : Int)) = ((k + 1 : Nat) : Int) := by rw [w64 (by omega) (by omega)]; rfl
      obtain ⟨g', l', q1, q2, q3⟩ := L_trim2 (n - 1) fuel (left.take k ++ left.drop (k + 1)) r (F_part (r, (n : Int), es) (wo k n 0)).2.2 (by omega) (by omega) (by rw [hlen] at hpi; exact hpi) (by simp only at hpl; omega) (by simp only [List.length_append, List.length_take, List.length_drop]; omega) (by omega)
      refine ⟨g', l', ?_, by omega, ?_⟩
      · simp only [e0, Bool.false_eq_true, if_false, ht0, Option.bind_some, hp]
        rw [show F_part (r, (n : Int), es) (wo k n 0) = (r, ((n - 1 : Nat) : Int), (F_part (r, (n : Int), es) (wo k n 0)).2.2) by rw [← hlen]; rfl]
        simp only [hw]
        rw [cutL_toG (by omega), Option.bind_some, cutL_fromG (by omega), Option.bind_some, grd_true (by simp only [List.length_take, List.length_drop]; omega), Option.bind_some, q1]
      · constructor
        · intro h; omega
        · intro h; cases h
theorem m_implTrim (g : LGraph) (hg : F_IsGraph g = true) : ∃ (g' : LGraph) (l' : List Int), M_impl_TrimGraph g = some (g', l') ∧ (g'.2.1 = g.2.1 ↔ F_leaf g = none) := by
  obtain ⟨h1, h2, h3, h4⟩ := graph_in hg
  have hq := m_implIsGraph g (by omega)
  have hc := m_implCopy g (by omega)
  obtain ⟨r, n, es⟩ := g
  simp only at h2 h3 h4
  obtain ⟨N, rfl⟩ : ∃ N : Nat, n = (N : Int) := ⟨n.toNat, by omega⟩
  have hn : inN N es := fun e he => ⟨(h1 e he).1, (h1 e he).2.1⟩
  obtain ⟨u, e1, e2⟩ := L_trim3 N (by omega) N 0 FUEL [] (by omega) (FUEL_big (by omega)) rfl
  obtain ⟨g', l', q1, q2, q3⟩ := L_trim2 N FUEL u r es (by omega) (by omega) hn h4 e2 (FUEL_big (by omega))
  refine ⟨g', l', ?_, ?_⟩
  · unfold M_impl_TrimGraph
    rw [show ((0 : Nat) : Int) = 0 from rfl] at e1
    simp only [hc, Option.bind_some, hq, hg, Bool.not_true, Bool.false_eq_true, if_false, e1, q1, outK]
  · simp only [F_leaf, Int.toNat_natCast]; exact q3

/-! ### cores -/
def F_IsCore (g : LGraph) : Bool := F_IsFolded g && ((F_leaf g).isNone && F_EqG (F_Canon g) g)
theorem folded_graph {g : LGraph} (h : F_IsFolded g = true) : F_IsGraph g = true := by
  unfold F_IsFolded at h; exact (Bool.and_eq_true _ _ ▸ h).1
theorem canon_len {g : LGraph} (hf : F_IsFolded g = true) : (F_Canon g).2.2.length ≤ 120 := by
  have := F_part_len g (F_Order g)
  have := (folded_in hf).2.2.2
  unfold F_Canon; omega
theorem m_implIsCore (g : LGraph) (hl : g.2.2.length ≤ 140737488355328) : M_impl_IsCore g = some (F_IsCore g) := by
  have hF := m_implIsFolded g hl
  unfold F_IsCore
  by_cases hf : F_IsFolded g = true
  · obtain ⟨g', l', e1, e2⟩ := m_implTrim g (folded_graph hf)
    have hC := m_implCanon g hf
    have hE := m_implEqG (F_Canon g) g (by have := canon_len hf; omega)
    obtain ⟨r, n, es⟩ := g
    obtain ⟨r', n', es'⟩ := g'
    unfold M_impl_IsCore
    simp only at e2
    generalize F_Canon (r, n, es) = C at *
    obtain ⟨c1, c2, c3⟩ := C
    simp only [hF, hf, Option.bind_some, Bool.not_true, Bool.false_eq_true, if_false, e1, hC]
    by_cases c : n' = n
    · have := e2.1 c
      simp only [decide_eq_true c, chk_true, Option.bind_some, hE, cond_true, this, Option.isNone_none, Bool.true_and]
    · have hne : (F_leaf (r, n, es)).isNone = false := by
        cases hq : F_leaf (r, n, es) with
        | none => exact absurd (e2.2 hq) c
        | some k => rfl
      simp only [decide_eq_false c, chk_false, Option.bind_some, cond_false, hne, Bool.false_and, Bool.and_false]
  · have hf' : F_IsFolded g = false := Bool.eq_false_iff.2 hf
    obtain ⟨r, n, es⟩ := g
    unfold M_impl_IsCore
    simp only [hF, hf', Option.bind_some, Bool.not_false, if_true, Bool.false_and]
theorem m_specIsCore (g : LGraph) (hl : g.2.2.length ≤ 140737488355328) : M_spec_IsCore g = some (F_IsCore g) := by
  have hF := m_specIsFolded g hl
  unfold F_IsCore
  by_cases hf : F_IsFolded g = true
  · have hL := m_leaf g (folded_graph hf)
    have hC := m_specCanon g hf
    have hE := m_specEqG (F_Canon g) g (by have := canon_len hf; omega)
    obtain ⟨h1, h2, h3, h4⟩ := folded_in hf
    obtain ⟨r, n, es⟩ := g
    unfold M_spec_IsCore
    generalize F_Canon (r, n, es) = C at *
    obtain ⟨c1, c2, c3⟩ := C
    simp only [hF, hf, Option.bind_some, chk_true, hL, cond_true]
    cases hq : F_leaf (r, n, es) with
    | none =>
      simp only [grd_true (show In64 (-1) by decide), Option.bind_some, show decide ((-1 : Int) < 0) = true from rfl, chk_true, hC, hE, cond_true, Option.isNone_none, Bool.true_and]
    | some k =>
      have hk := lf_range _ _ _ hq
      simp only at h3
      simp only at hk
      have e0 : decide ((k : Int) < 0) = false := decide_eq_false (by omega)
      simp only [grd_true (show In64 (k : Int) from c64 (by omega) (by omega)), Option.bind_some, e0, chk_false, cond_false, Option.isNone_some, Bool.false_and, Bool.and_false]
  · have hf' : F_IsFolded g = false := Bool.eq_false_iff.2 hf
    obtain ⟨r, n, es⟩ := g
    unfold M_spec_IsCore
    simp only [hF, hf', Option.bind_some, chk_false, grd_true (show In64 0 by decide), cond_false, Bool.false_and]
end Go.Proofs.YthccjgkmmclplaaGreat
