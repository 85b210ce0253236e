/- Plain laws: steps in a graph. -/
import Derived.Test.YthccjgkmmclplaaGreatA9
import Derived.Test.YthccjgkmmclplaaGreatP4g
import Derived.Test.YthccjgkmmclplaaGreatH36
namespace Go.Proofs.YthccjgkmmclplaaGreat
open Go.H
set_option linter.unusedVariables false
set_option linter.unusedSimpArgs false

theorem FUEL_len {n : Nat} (h : n ≤ 9223372036854775807) : n < FUEL := by unfold FUEL; omega
/-! ### a number put into an ascending list -/
def goI (x : Int) : List Int → Bool × List Int
  | [] => (false, [])
  | y :: l => if x < y then (true, x :: y :: l) else if y = x then (true, y :: l) else ((goI x l).1, y :: (goI x l).2)
theorem goI_put (x : Int) : ∀ l, putL cmpI x l = bif (goI x l).1 then (goI x l).2 else (goI x l).2 ++ [x]
  | [] => rfl
  | y :: l => by
    have ih := goI_put x l
    unfold putL goI
    rcases cmpI_cases x y with ⟨h, e⟩ | ⟨h, e⟩ | ⟨h, e⟩
    · rw [e, if_pos (by omega), if_pos h]; rfl
    · rw [e, if_neg (by omega), if_neg (by omega), if_neg (by omega), if_neg (by omega), ih]
      cases (goI x l).1 <;> rfl
    · rw [e, if_neg (by omega), if_pos rfl, if_neg (by omega), if_pos h.symm]; rfl
theorem L_Add_on (l : List Int) (w : Int) (hl : l.length ≤ 1099511627776) : ∀ (d k fuel : Nat) (acc : List Int), k + d = l.length → d < fuel → acc.length ≤ k + 1 →
    L_spec_l4Add_0 l w fuel true (k : Int) acc = some (true, acc ++ l.drop k)
  | d, k, 0, acc, hd, hf, ha => by omega
  | 0, k, fuel + 1, acc, hd, hf, ha => by
    rw [L_spec_l4Add_0_succ, if_neg (by simp; omega), drop_done (by omega), List.append_nil]
  | d + 1, k, fuel + 1, acc, hd, hf, ha => by
    have hk : k < l.length := by omega
    have hx := getk hk
    generalize l[k] = x at hx
    have ih := L_Add_on l w hl d (k + 1) fuel (acc ++ [x]) (by omega) (by omega) (by simp; omega)
    rw [L_spec_l4Add_0_succ, if_pos (by simp; omega), gi_at hx, Option.bind_some]
    have hb : ∀ c : Bool, (bif c then (!true) else false) = false := fun c => by cases c <;> rfl
    simp only [hb, Bool.false_eq_true, if_false, Option.bind_some, wsucc hk (show l.length ≤ 9223372036854775807 by omega), ih, grd_true (show (acc.length + [x].length) * 8 ≤ 140737488355328 by simp; omega)]
    rw [drop_get hx]
    split <;> simp
theorem L_Add_off (l : List Int) (w : Int) (hl : l.length ≤ 1099511627776) : ∀ (d k fuel : Nat) (acc : List Int), k + d = l.length → d < fuel → acc.length = k →
    L_spec_l4Add_0 l w fuel false (k : Int) acc = some ((goI w (l.drop k)).1, acc ++ (goI w (l.drop k)).2)
  | d, k, 0, acc, hd, hf, ha => by omega
  | 0, k, fuel + 1, acc, hd, hf, ha => by
    rw [L_spec_l4Add_0_succ, if_neg (by simp; omega), drop_done (by omega)]
    simp [goI]
  | d + 1, k, fuel + 1, acc, hd, hf, ha => by
    have hk : k < l.length := by omega
    have hx := getk hk
    generalize l[k] = x at hx
    have ih := L_Add_off l w hl d (k + 1) fuel (acc ++ [x]) (by omega) (by omega) (by simp; omega)
    have on1 := L_Add_on l w hl d (k + 1) fuel (acc ++ [x]) (by omega) (by omega) (by simp; omega)
    have on2 := L_Add_on l w hl d (k + 1) fuel (acc ++ [w] ++ [x]) (by omega) (by omega) (by simp; omega)
    rw [L_spec_l4Add_0_succ, if_pos (by simp; omega), gi_at hx, Option.bind_some, drop_get hx]
    unfold goI
    have hb : ∀ c : Bool, (bif c then (!true) else false) = false := fun c => by cases c <;> rfl
    have hb2 : ∀ c : Bool, (bif c then (!false) else false) = c := fun c => by cases c <;> rfl
    by_cases h0 : x = w
    · rw [if_pos (by simpa using h0), Option.bind_some, hb, if_neg (by simp), Option.bind_some, grd_true (by simp; omega), Option.bind_some, wsucc hk (by omega), on1, if_neg (by omega), if_pos h0]
      simp
    · rw [if_neg (by simpa using h0), Option.bind_some, hb2]
      by_cases h1 : w < x
      · rw [if_pos (by simpa using h1), grd_true (by simp; omega), Option.bind_some, Option.bind_some, grd_true (by simp; omega), Option.bind_some, wsucc hk (by omega), on2, if_pos h1]
        simp
      · rw [if_neg (by simpa using h1), Option.bind_some, grd_true (by simp; omega), Option.bind_some, wsucc hk (by omega), ih, if_neg h1, if_neg h0]
        simp
theorem m_l4Add (l : List Int) (w : Int) (hl : l.length ≤ 1099511627776) : M_spec_l4Add l w = some (putL cmpI w l) := by
  unfold M_spec_l4Add
  have h := L_Add_off l w hl l.length 0 FUEL [] (by omega) (FUEL_big (by omega)) rfl
  rw [show ((0 : Nat) : Int) = 0 from rfl, List.drop_zero, List.nil_append] at h
  rw [h, Option.bind_some, goI_put]
  have hlen : ∀ l : List Int, (goI w l).2.length ≤ l.length + 1 := fun l => by
    induction l with
    | nil => simp [goI]
    | cons y l ih =>
      unfold goI
      split
      · simp
      · split
        · simp
        · simp only [List.length_cons]; omega
  have := hlen l
  cases (goI w l).1 with
  | true => rfl
  | false =>
    simp only [Bool.not_false, if_true, cond_false]
    rw [grd_true (by simp; omega), Option.bind_some]

/-! ### the steps from a vertex -/
def stepE (v x : Int) (e : LEdge) : List Int :=
  if 0 < x ∧ e.2.1 = x ∧ e.1 = v then [e.2.2] else if x < 0 ∧ e.2.1 = -x ∧ e.2.2 = v then [e.1] else []
def stepsL (v x : Int) : List LEdge → List Int
  | [] => []
  | e :: es => stepE v x e ++ stepsL v x es
theorem stepE_len (v x : Int) (e : LEdge) : (stepE v x e).length ≤ 1 := by unfold stepE; split <;> (try split) <;> simp
theorem stepsL_len (v x : Int) : ∀ es, (stepsL v x es).length ≤ es.length
  | [] => by simp [stepsL]
  | e :: es => by
    have h1 := stepE_len v x e
    have h2 := stepsL_len v x es
    simp only [stepsL, List.length_append, List.length_cons]
    omega
def notMin (x : Int) : Prop := In64 x ∧ x ≠ -9223372036854775808
theorem L_impl_Steps (es : List LEdge) (v x : Int) (hx : notMin x) (hl : es.length ≤ 1099511627776) : ∀ (d k fuel : Nat) (acc : List Int), k + d = es.length → d < fuel → acc.length ≤ k →
    L_impl_StepsFrom_0 es x v fuel (k : Int) acc = some (acc ++ stepsL v x (es.drop k))
  | d, k, 0, acc, hd, hf, ha => by omega
  | 0, k, fuel + 1, acc, hd, hf, ha => by
    rw [L_impl_StepsFrom_0_succ, if_neg (by simp; omega), drop_done (by omega)]
    simp [stepsL]
  | d + 1, k, fuel + 1, acc, hd, hf, ha => by
    have hk : k < es.length := by omega
    have he := getk hk
    generalize es[k] = e at he
    obtain ⟨a, l, b⟩ := e
    have ih := fun acc' h => L_impl_Steps es v x hx hl d (k + 1) fuel acc' (by omega) (by omega) h
    have hn : decide (x = -9223372036854775808) = false := by simp; exact hx.2
    rw [L_impl_StepsFrom_0_succ, if_pos (by simp; omega), gi_at he, Option.bind_some, drop_get he]
    simp only [stepsL, stepE, neg64 hx.1 hx.2, hn, Bool.not_false, wsucc hk (show es.length ≤ 9223372036854775807 by omega)]
    by_cases c1 : 0 < x ∧ l = x ∧ a = v
    · obtain ⟨c1, rfl, rfl⟩ := c1
      rw [if_pos (by simp [c1]), if_pos ⟨c1, rfl, rfl⟩, grd_true (by simp; omega), Option.bind_some, ih _ (by simp; omega)]
      simp
    · rw [if_neg c1, if_neg (by simp only [Bool.cond_eq_ite]; simp; intro h1 h2 h3; exact c1 ⟨h1, h2, h3⟩)]
      by_cases c2 : x < 0 ∧ l = -x ∧ b = v
      · rw [if_pos c2, if_pos (by simp [c2.1, c2.2.1, c2.2.2]), grd_true (by simp; omega), Option.bind_some, ih _ (by simp; omega)]
        simp
      · rw [if_neg c2, if_neg (by simp only [Bool.cond_eq_ite]; simp; intro h1 h2 h3; exact c2 ⟨h1, h2, h3⟩), ih _ (by omega)]
        simp
theorem putL_lenI (w : Int) : ∀ l : List Int, (putL cmpI w l).length ≤ l.length + 1
  | [] => by simp [putL]
  | y :: l => by
    have := putL_lenI w l
    unfold putL
    split
    · simp
    · split
      · simp
      · simp only [List.length_cons]; omega
theorem L_spec_Steps (es : List LEdge) (v x : Int) (hx : notMin x) (hl : es.length ≤ 1099511627776) : ∀ (d k fuel : Nat) (u : List Int), k + d = es.length → d < fuel → u.length ≤ k →
    L_spec_StepsFrom_0 es x v fuel u (k : Int) = some (putAll cmpI u (stepsL v x (es.drop k)))
  | d, k, 0, u, hd, hf, ha => by omega
  | 0, k, fuel + 1, u, hd, hf, ha => by
    rw [L_spec_StepsFrom_0_succ, if_neg (by simp; omega), drop_done (by omega)]
    rfl
  | d + 1, k, fuel + 1, u, hd, hf, ha => by
    have hk : k < es.length := by omega
    have he := getk hk
    generalize es[k] = e at he
    obtain ⟨a, l, b⟩ := e
    have ih := fun u' h => L_spec_Steps es v x hx hl d (k + 1) fuel u' (by omega) (by omega) h
    rw [L_spec_StepsFrom_0_succ, if_pos (by simp; omega), gi_at he, Option.bind_some, drop_get he]
    simp only [stepsL, stepE, neg64 hx.1 hx.2, wsucc hk (show es.length ≤ 9223372036854775807 by omega)]
    by_cases c1 : 0 < x ∧ l = x ∧ a = v
    · obtain ⟨c1, rfl, rfl⟩ := c1
      have hno : decide (l < 0) = false := by simp; omega
      have := putL_lenI b u
      rw [if_pos (by simp [c1]), if_pos ⟨c1, rfl, rfl⟩, m_l4Add u b (by omega), Option.bind_some, hno, if_neg (by simp), ih _ (by omega)]
      rfl
    · rw [if_neg c1, if_neg (by simp only [Bool.cond_eq_ite]; simp; intro h1 h2 h3; exact c1 ⟨h1, h2, h3⟩)]
      by_cases c2 : x < 0 ∧ l = -x ∧ b = v
      · have := putL_lenI a u
        rw [if_pos c2, if_pos (by simp [c2.1, c2.2.1, c2.2.2]), m_l4Add u a (by omega), Option.bind_some, ih _ (by omega)]
        rfl
      · rw [if_neg c2, if_neg (by simp only [Bool.cond_eq_ite]; simp; intro h1 h2 h3; exact c2 ⟨h1, h2, h3⟩), ih _ (by omega)]
        rfl
def F_Steps (g : LGraph) (v x : Int) : List Int := putAll cmpI [] (stepsL v x g.2.2)
theorem eqI_iff (x y : Int) : eqI x y = true ↔ x = y := by simp [eqI]
theorem m_specSteps (g : LGraph) (v x : Int) (hx : notMin x) (hl : g.2.2.length ≤ 1099511627776) : M_spec_StepsFrom g v x = some (F_Steps g v x) := by
  obtain ⟨r, n, es⟩ := g
  unfold M_spec_StepsFrom F_Steps
  have h := L_spec_Steps es v x hx hl es.length 0 FUEL [] (by omega) (FUEL_len (by simp only at hl; omega)) (by simp)
  rw [show ((0 : Nat) : Int) = 0 from rfl, List.drop_zero] at h
  simp only [h, Option.bind_some]
theorem m_implSteps (g : LGraph) (v x : Int) (hx : notMin x) (hl : g.2.2.length ≤ 1099511627776) : M_impl_StepsFrom g v x = some (F_Steps g v x) := by
  obtain ⟨r, n, es⟩ := g
  unfold M_impl_StepsFrom F_Steps
  have h := L_impl_Steps es v x hx hl es.length 0 FUEL [] (by omega) (FUEL_len (by simp only at hl; omega)) (by simp)
  rw [show ((0 : Nat) : Int) = 0 from rfl, List.drop_zero, List.nil_append] at h
  have hlen := stepsL_len v x es
  simp only at hl
  simp only [h, Option.bind_some, grd_true (show (stepsL v x es).length < 4611686018427387904 by omega)]
  rw [← uniqL_eq cmpI_lin eqI_iff (stepsL v x es) (stepsL v x es) fun _ => Iff.rfl]
  rfl
def F_Next (g : LGraph) (v x : Int) : Int := match F_Steps g v x with
  | [] => -1
  | a :: _ => a
theorem m_specNext (g : LGraph) (v x : Int) (hx : notMin x) (hl : g.2.2.length ≤ 1099511627776) : M_spec_NextVertex g v x = some (F_Next g v x) := by
  have h := m_specSteps g v x hx hl
  obtain ⟨r, n, es⟩ := g
  unfold M_spec_NextVertex F_Next
  simp only [h, Option.bind_some]
  cases F_Steps (r, n, es) v x with
  | nil => rfl
  | cons a l => rfl
theorem m_implNext (g : LGraph) (v x : Int) (hx : notMin x) (hl : g.2.2.length ≤ 1099511627776) : M_impl_NextVertex g v x = some (F_Next g v x) := by
  have h := m_implSteps g v x hx hl
  obtain ⟨r, n, es⟩ := g
  unfold M_impl_NextVertex F_Next
  simp only [h, Option.bind_some]
  cases F_Steps (r, n, es) v x with
  | nil => rfl
  | cons a l => rfl
theorem steps_mem {g : LGraph} {v x y : Int} (h : y ∈ F_Steps g v x) : y ∈ stepsL v x g.2.2 := by
  rcases (putAll_mem cmpI_lin y _ []).1 h with h | h
  · cases h
  · exact h
theorem stepsL_mem {v x y : Int} : ∀ {es : List LEdge}, y ∈ stepsL v x es ↔ ∃ e ∈ es, (0 < x ∧ e.2.1 = x ∧ e.1 = v ∧ y = e.2.2) ∨ (x < 0 ∧ e.2.1 = -x ∧ e.2.2 = v ∧ y = e.1)
  | [] => by simp [stepsL]
  | e :: es => by
    simp only [stepsL, List.mem_append, stepsL_mem (es := es), List.mem_cons, exists_eq_or_imp]
    refine or_congr ?_ Iff.rfl
    unfold stepE
    split
    · rename_i h
      simp only [List.mem_singleton]
      constructor
      · rintro rfl; exact .inl ⟨h.1, h.2.1, h.2.2, rfl⟩
      · rintro (⟨_, _, _, h4⟩ | ⟨h1, _⟩)
        · exact h4
        · omega
    · rename_i h
      split
      · rename_i h2
        simp only [List.mem_singleton]
        constructor
        · rintro rfl; exact .inr ⟨h2.1, h2.2.1, h2.2.2, rfl⟩
        · rintro (⟨h1, _⟩ | ⟨_, _, _, h4⟩)
          · omega
          · exact h4
      · rename_i h2
        constructor
        · intro h; cases h
        · rintro (⟨h3, h4, h5, _⟩ | ⟨h3, h4, h5, _⟩)
          · exact absurd ⟨h3, h4, h5⟩ h
          · exact absurd ⟨h3, h4, h5⟩ h2
/-- a graph's edges in range -/
def inG (g : LGraph) : Prop := ∀ e ∈ g.2.2, (0 ≤ e.1 ∧ e.1 < g.2.1) ∧ (0 ≤ e.2.2 ∧ e.2.2 < g.2.1) ∧ 1 ≤ e.2.1 ∧ e.2.1 ≤ g.1
theorem graph_in {g : LGraph} (h : F_IsGraph g = true) : inG g ∧ (1 ≤ g.1 ∧ g.1 ≤ 3) ∧ (1 ≤ g.2.1 ∧ g.2.1 ≤ 40) ∧ g.2.2.length ≤ 120 := by
  obtain ⟨r, n, es⟩ := g
  simp only [F_IsGraph, inR, Bool.and_eq_true, decide_eq_true_eq] at h
  obtain ⟨⟨⟨h1, h2⟩, h3⟩, h4⟩ := h
  refine ⟨fun e he => ?_, h2, h3, h4⟩
  obtain ⟨i, hi⟩ := List.getElem?_of_mem he
  have hb := okE_at h1 i (Nat.zero_le _) (by have := (List.getElem?_eq_some_iff.1 hi).1; simp only at this; omega)
  rw [badE_eq hi] at hb
  simp only [Bool.or_eq_false_iff, Bool.not_eq_false', edgeOK, inR, Bool.and_eq_true, decide_eq_true_eq] at hb
  obtain ⟨⟨⟨⟨b1, b2⟩, b3, b4⟩, b5, b6⟩, _⟩ := hb
  rw [w64 (by omega) (by omega)] at b2 b4
  simp only
  exact ⟨⟨b1, by omega⟩, ⟨b3, by omega⟩, b5, b6⟩
theorem next_in {g : LGraph} (hg : inG g) (v x : Int) : F_Next g v x = -1 ∨ (0 ≤ F_Next g v x ∧ F_Next g v x < g.2.1) := by
  unfold F_Next
  cases hs : F_Steps g v x with
  | nil => exact .inl rfl
  | cons a l =>
    right
    have ha : a ∈ F_Steps g v x := by rw [hs]; exact List.mem_cons_self ..
    obtain ⟨e, he, h⟩ := stepsL_mem.1 (steps_mem ha)
    have := hg e he
    rcases h with ⟨_, _, _, rfl⟩ | ⟨_, _, _, rfl⟩
    · exact this.2.1
    · exact this.1
theorem next_64 {g : LGraph} (hg : inG g) (hn : g.2.1 ≤ 40) (v x : Int) : In64 (F_Next g v x) := by
  rcases next_in hg v x with h | h
  · rw [h]; decide
  · constructor <;> omega

/-! ### folded graphs -/
def conf (a b : LEdge) : Bool := decide (a.2.1 = b.2.1) && (decide (a.1 = b.1) || decide (a.2.2 = b.2.2))
theorem conf_comm (a b : LEdge) : conf a b = conf b a := by
  unfold conf
  have h : ∀ x y : Int, decide (x = y) = decide (y = x) := fun x y => decide_eq_decide.2 ⟨Eq.symm, Eq.symm⟩
  rw [h a.2.1, h a.1, h a.2.2]
def noC (a : LEdge) : List LEdge → Bool
  | [] => true
  | b :: l => !conf a b && noC a l
def foldI : List LEdge → Bool
  | [] => true
  | a :: l => noC a l && foldI l
theorem noC_iff (a : LEdge) : ∀ l, noC a l = true ↔ ∀ b ∈ l, conf a b = false
  | [] => by simp [noC]
  | b :: l => by simp [noC, noC_iff a l]
theorem foldI_iff : ∀ l, foldI l = true ↔ l.Pairwise fun a b => conf a b = false
  | [] => by simp [foldI]
  | a :: l => by simp [foldI, foldI_iff l, noC_iff, List.pairwise_cons]
def foldS : List LEdge → List LEdge → Bool
  | _, [] => true
  | pre, a :: l => noC a pre && foldS (pre ++ [a]) l
theorem foldS_iff : ∀ (l pre : List LEdge), foldS pre l = true ↔ l.Pairwise (fun a b => conf a b = false) ∧ ∀ a ∈ l, ∀ b ∈ pre, conf a b = false
  | [], pre => by simp [foldS]
  | a :: l, pre => by
    simp only [foldS, Bool.and_eq_true, noC_iff, foldS_iff l, List.pairwise_cons]
    constructor
    · rintro ⟨h2, h3, h4⟩
      refine ⟨⟨fun b hb => by rw [conf_comm]; exact h4 b hb a (by simp), h3⟩, fun x hx b hb => ?_⟩
      rcases List.mem_cons.1 hx with rfl | hx
      · exact h2 b hb
      · exact h4 x hx b (by simp [hb])
    · rintro ⟨⟨h2, h3⟩, h4⟩
      refine ⟨fun b hb => h4 a (List.mem_cons_self ..) b hb, h3, fun x hx b hb => ?_⟩
      rcases List.mem_append.1 hb with hb | hb
      · exact h4 x (List.mem_cons_of_mem _ hx) b hb
      · rw [List.mem_singleton.1 hb, conf_comm]; exact h2 x hx
theorem fold_same (l : List LEdge) : foldS [] l = foldI l := by
  rw [Bool.eq_iff_iff, foldS_iff, foldI_iff]
  simp
def F_IsFolded (g : LGraph) : Bool := F_IsGraph g && foldI g.2.2
theorem confB (a0 a1 a2 b0 b1 b2 : Int) : (bif decide (a1 = b1) then (bif decide (a0 = b0) then true else decide (a2 = b2)) else false) = conf (a0, a1, a2) (b0, b1, b2) := by
  unfold conf
  cases decide (a1 = b1) <;> cases decide (a0 = b0) <;> rfl
theorem L_impl_Fold0 (l : List LEdge) (a : LEdge) (hl : l.length ≤ 140737488355328) : ∀ (d k fuel : Nat), k + d = l.length → d < fuel →
    L_impl_IsFolded_0 l a.2.1 a.1 a.2.2 fuel (k : Int) = some (bif noC a (l.drop k) then .inr () else .inl false)
  | d, k, 0, hd, hf => by omega
  | 0, k, fuel + 1, hd, hf => by
    rw [L_impl_IsFolded_0_succ, if_neg (by simp; omega), drop_done (by omega)]
    rfl
  | d + 1, k, fuel + 1, hd, hf => by
    have hk : k < l.length := by omega
    have hx := getk hk
    generalize l[k] = x at hx
    obtain ⟨a0, a1, a2⟩ := a
    obtain ⟨b0, b1, b2⟩ := x
    rw [L_impl_IsFolded_0_succ, if_pos (by simp; omega), gi_at hx, Option.bind_some, drop_get hx]
    simp only [confB, noC]
    cases hc : conf (a0, a1, a2) (b0, b1, b2) with
    | true => rfl
    | false =>
      rw [if_neg (by simp), wsucc hk (by omega), L_impl_Fold0 l (a0, a1, a2) hl d (k + 1) fuel (by omega) (by omega)]
      simp
theorem cutL_fromG {α : Type} {xs : List α} {k : Nat} (h : k ≤ xs.length) : cutL xs (k : Int) (xs.length : Int) = some (xs.drop k) := by
  unfold cutL
  rw [if_pos ⟨by omega, by omega, by omega⟩]
  simp
theorem L_impl_Fold1 (l : List LEdge) (hl : l.length ≤ 140737488355328) : ∀ (d k fuel : Nat), k + d = l.length → d < fuel →
    L_impl_IsFolded_1 l fuel (k : Int) = some (bif foldI (l.drop k) then .inr () else .inl false)
  | d, k, 0, hd, hf => by omega
  | 0, k, fuel + 1, hd, hf => by
    rw [L_impl_IsFolded_1_succ, if_neg (by simp; omega), drop_done (by omega)]
    rfl
  | d + 1, k, fuel + 1, hd, hf => by
    have hk : k < l.length := by omega
    have hx := getk hk
    generalize l[k] = x at hx
    have h0 := L_impl_Fold0 (l.drop (k + 1)) x (by simp; omega) (l.drop (k + 1)).length 0 FUEL (by omega) (FUEL_big (by simp; omega))
    rw [show ((0 : Nat) : Int) = 0 from rfl, List.drop_zero] at h0
    obtain ⟨a0, a1, a2⟩ := x
    rw [L_impl_IsFolded_1_succ, if_pos (by simp; omega), gi_at hx, Option.bind_some, drop_get hx]
    simp only [wsucc hk (show l.length ≤ 9223372036854775807 by omega), cutL_fromG (show k + 1 ≤ l.length by omega), Option.bind_some]
    simp only at h0
    rw [h0, Option.bind_some]
    simp only [foldI]
    cases noC (a0, a1, a2) (l.drop (k + 1)) with
    | false => rfl
    | true =>
      simp only [cond_true, outL, Bool.true_and]
      exact L_impl_Fold1 l hl d (k + 1) fuel (by omega) (by omega)
theorem m_implIsFolded (g : LGraph) (hl : g.2.2.length ≤ 140737488355328) : M_impl_IsFolded g = some (F_IsFolded g) := by
  have hG := m_implIsGraph g hl
  obtain ⟨r, n, es⟩ := g
  unfold M_impl_IsFolded F_IsFolded
  simp only [hG, Option.bind_some]
  cases F_IsGraph (r, n, es) with
  | false => rfl
  | true =>
    have h := L_impl_Fold1 es hl es.length 0 FUEL (by omega) (FUEL_big hl)
    rw [show ((0 : Nat) : Int) = 0 from rfl, List.drop_zero] at h
    rw [if_neg (by simp), h, Option.bind_some]
    cases foldI es <;> rfl
theorem noC_snoc (a b : LEdge) : ∀ l, noC a (l ++ [b]) = (noC a l && !conf a b)
  | [] => by simp [noC]
  | c :: l => by simp only [List.cons_append, noC, noC_snoc a b l, Bool.and_assoc]
theorem L_spec_Fold0 (l : List LEdge) (hl : l.length ≤ 140737488355328) {i : Nat} {a : LEdge} (ha : l[i]? = some a) : ∀ (d k fuel : Nat), k + d = i → d < fuel →
    L_spec_IsFolded_0 (i : Int) l fuel (k : Int) = some (bif noC a ((l.take i).drop k) then .inr () else .inl false)
  | d, k, 0, hd, hf => by omega
  | 0, k, fuel + 1, hd, hf => by
    have := (List.getElem?_eq_some_iff.1 ha).1
    rw [L_spec_IsFolded_0_succ, if_neg (by simp; omega), drop_done (by simp; omega)]
    rfl
  | d + 1, k, fuel + 1, hd, hf => by
    have hi := (List.getElem?_eq_some_iff.1 ha).1
    have hk : k < l.length := by omega
    have hx := getk hk
    have hx2 : (l.take i)[k]? = some l[k] := by rw [List.getElem?_take, if_pos (by omega)]; exact hx
    have ih := L_spec_Fold0 l hl ha d (k + 1) fuel (by omega) (by omega)
    generalize l[k] = x at hx hx2
    obtain ⟨a0, a1, a2⟩ := a
    obtain ⟨b0, b1, b2⟩ := x
    rw [L_spec_IsFolded_0_succ, if_pos (by simp; omega), gi_at ha, Option.bind_some, drop_get hx2]
    simp only [gi_at hx, Option.bind_some, confB, noC]
    cases hc : conf (a0, a1, a2) (b0, b1, b2) with
    | true => rfl
    | false =>
      rw [if_neg (by simp), wsucc hk (by omega), ih]
      simp
theorem takeS {α : Type} {xs : List α} {k : Nat} {x : α} (h : xs[k]? = some x) : xs.take (k + 1) = xs.take k ++ [x] := by
  obtain ⟨hk, rfl⟩ := List.getElem?_eq_some_iff.1 h
  exact List.take_succ_eq_append_getElem hk
theorem L_spec_Fold1 (r n : Int) (l : List LEdge) (hg : F_IsGraph (r, n, l) = true) (hl : l.length ≤ 140737488355328) : ∀ (d k fuel : Nat), k + d = l.length → d < fuel →
    L_spec_IsFolded_1 l r n fuel (k : Int) = some (bif foldS (l.take k) (l.drop k) then .inr () else .inl false)
  | d, k, 0, hd, hf => by omega
  | 0, k, fuel + 1, hd, hf => by
    have e : decide ((k : Int) < (l.length : Int)) = false := by simp; omega
    rw [L_spec_IsFolded_1_succ, e, chk_false, Option.bind_some, if_neg (by simp), drop_done (by omega)]
    rfl
  | d + 1, k, fuel + 1, hd, hf => by
    have hk : k < l.length := by omega
    have hx := getk hk
    generalize l[k] = x at hx
    have h0 := L_spec_Fold0 l hl hx k 0 FUEL (by omega) (FUEL_big (by omega))
    rw [show ((0 : Nat) : Int) = 0 from rfl, List.drop_zero] at h0
    have e : decide ((k : Int) < (l.length : Int)) = true := by simp; omega
    rw [L_spec_IsFolded_1_succ, e, chk_true, m_specIsGraph (r, n, l) hl, Option.bind_some, hg, if_pos (show (bif true then true else false) = true from rfl), h0, Option.bind_some, drop_get hx]
    simp only [foldS]
    cases noC x (l.take k) with
    | false => rfl
    | true =>
      simp only [cond_true, outL, Bool.true_and]
      rw [wsucc hk (by omega), ← takeS hx]
      exact L_spec_Fold1 r n l hg hl d (k + 1) fuel (by omega) (by omega)
theorem m_specIsFolded (g : LGraph) (hl : g.2.2.length ≤ 140737488355328) : M_spec_IsFolded g = some (F_IsFolded g) := by
  have hG := m_specIsGraph g hl
  obtain ⟨r, n, es⟩ := g
  unfold M_spec_IsFolded F_IsFolded
  simp only [hG, Option.bind_some]
  cases hg : F_IsGraph (r, n, es) with
  | false =>
    have h1 : L_spec_IsFolded_1 es r n FUEL 0 = some (.inr ()) := by
      rw [show FUEL = (FUEL - 1) + 1 from rfl, L_spec_IsFolded_1_succ]
      by_cases e : decide ((0 : Int) < (es.length : Int)) = true
      · rw [e, chk_true, hG, Option.bind_some, hg, if_neg (by simp)]
      · rw [Bool.not_eq_true] at e
        rw [e, chk_false, Option.bind_some, if_neg (by simp)]
    rw [h1]
    rfl
  | true =>
    have h := L_spec_Fold1 r n es hg hl es.length 0 FUEL (by omega) (FUEL_big hl)
    rw [show ((0 : Nat) : Int) = 0 from rfl, List.drop_zero, List.take_zero, fold_same] at h
    rw [h, Option.bind_some]
    cases foldI es <;> rfl

/-! ### a word read -/
def readL (g : LGraph) : Int → List Int → Int × Nat
  | v, [] => (v, 0)
  | v, x :: w => if F_Next g v x < 0 then (v, 0) else ((readL g (F_Next g v x) w).1, (readL g (F_Next g v x) w).2 + 1)
theorem readL_le (g : LGraph) : ∀ (w : List Int) (v : Int), (readL g v w).2 ≤ w.length
  | [], v => by simp [readL]
  | x :: w, v => by
    have := readL_le g w (F_Next g v x)
    unfold readL
    split
    · simp
    · simp only [List.length_cons]; omega
theorem readL_64 {g : LGraph} (hg : inG g) (hn : g.2.1 ≤ 40) : ∀ (w : List Int) (v : Int), In64 v → In64 (readL g v w).1
  | [], v, h => h
  | x :: w, v, h => by
    unfold readL
    split
    · exact h
    · exact readL_64 hg hn w _ (next_64 hg hn v x)
def outR (q : Int × Nat) (n : Nat) (k : Nat) : (Int × Int) ⊕ Int := bif decide (q.2 < n) then .inl (q.1, ((k + q.2 : Nat) : Int)) else .inr q.1
theorem L_impl_read (r n : Int) (es : List LEdge) (hg : inG (r, n, es)) (hn : n ≤ 40) (hes : es.length ≤ 1099511627776) (w : List Int) (hw : ∀ x ∈ w, notMin x) (hl : w.length ≤ 140737488355328) : ∀ (d k fuel : Nat) (v : Int), k + d = w.length → d < fuel →
    L_impl_Graph_read_0 w r n es fuel v (k : Int) = some (outR (readL (r, n, es) v (w.drop k)) d k)
  | d, k, 0, v, hd, hf => by omega
  | 0, k, fuel + 1, v, hd, hf => by
    rw [L_impl_Graph_read_0_succ, if_neg (by simp; omega), drop_done (by omega)]
    rfl
  | d + 1, k, fuel + 1, v, hd, hf => by
    have hk : k < w.length := by omega
    have hx := getk hk
    have hxm := hw _ (List.getElem_mem hk)
    generalize w[k] = x at hx hxm
    rw [L_impl_Graph_read_0_succ, if_pos (by simp; omega), gi_at hx, Option.bind_some, m_implNext (r, n, es) v x hxm hes, Option.bind_some, grd_true (next_64 hg hn v x), Option.bind_some, drop_get hx]
    unfold readL
    by_cases h : F_Next (r, n, es) v x < 0
    · rw [if_pos (by simpa using h), if_pos h]
      simp [outR]
    · rw [if_neg (by simpa using h), if_neg h, wsucc hk (by omega), L_impl_read r n es hg hn hes w hw hl d (k + 1) fuel _ (by omega) (by omega)]
      unfold outR
      simp only [Nat.add_lt_add_iff_right]
      congr 2
      simp only [Nat.add_assoc, Nat.add_comm 1]
theorem m_read (g : LGraph) (hg : inG g) (hn : g.2.1 ≤ 40) (hes : g.2.2.length ≤ 1099511627776) (v : Int) (w : List Int) (hw : ∀ x ∈ w, notMin x) (hl : w.length ≤ 140737488355328) : M_impl_Graph_read g v w = some ((readL g v w).1, (((readL g v w).2 : Nat) : Int)) := by
  obtain ⟨r, n, es⟩ := g
  unfold M_impl_Graph_read
  have h := L_impl_read r n es hg hn hes w hw hl w.length 0 FUEL v (by omega) (FUEL_big hl)
  rw [show ((0 : Nat) : Int) = 0 from rfl, List.drop_zero] at h
  have hle := readL_le (r, n, es) w v
  simp only [h, Option.bind_some, outR]
  by_cases hc : (readL (r, n, es) v w).2 < w.length
  · simp [hc, outK]
  · have : (readL (r, n, es) v w).2 = w.length := by omega
    simp [this, outK]
theorem L_spec_walk (r n : Int) (es : List LEdge) (hg : inG (r, n, es)) (hn : n ≤ 40) (hes : es.length ≤ 1099511627776) (w : List Int) (hw : ∀ x ∈ w, notMin x) (hl : w.length ≤ 140737488355328) : ∀ (d k fuel : Nat) (v : Int), k + d = w.length → d < fuel →
    L_spec_WalkWord_0 w r n es fuel v (k : Int) = some (bif decide ((readL (r, n, es) v (w.drop k)).2 < d) then .inl (-1, false) else .inr (readL (r, n, es) v (w.drop k)).1)
  | d, k, 0, v, hd, hf => by omega
  | 0, k, fuel + 1, v, hd, hf => by
    rw [L_spec_WalkWord_0_succ, if_neg (by simp; omega), drop_done (by omega)]
    rfl
  | d + 1, k, fuel + 1, v, hd, hf => by
    have hk : k < w.length := by omega
    have hx := getk hk
    have hxm := hw _ (List.getElem_mem hk)
    generalize w[k] = x at hx hxm
    rw [L_spec_WalkWord_0_succ, if_pos (by simp; omega), gi_at hx, Option.bind_some, m_specNext (r, n, es) v x hxm hes, Option.bind_some, grd_true (next_64 hg hn v x), Option.bind_some, drop_get hx]
    unfold readL
    by_cases h : F_Next (r, n, es) v x < 0
    · rw [if_pos (by simpa using h), if_pos h]
      simp
    · rw [if_neg (by simpa using h), if_neg h, wsucc hk (by omega), L_spec_walk r n es hg hn hes w hw hl d (k + 1) fuel _ (by omega) (by omega)]
      simp only [Nat.add_lt_add_iff_right]
theorem m_walk (g : LGraph) (hf : F_IsFolded g = true) (v : Int) (hv : 0 ≤ v ∧ v < g.2.1) (w : List Int) (hw : ∀ x ∈ w, notMin x) (hl : w.length ≤ 140737488355328) :
    M_spec_WalkWord g v w = some (bif decide ((readL g v w).2 < w.length) then (-1, false) else ((readL g v w).1, true)) := by
  have hgr : F_IsGraph g = true := by unfold F_IsFolded at hf; simp only [Bool.and_eq_true] at hf; exact hf.1
  obtain ⟨hg, _, hn, hes⟩ := graph_in hgr
  have hF := m_specIsFolded g (by omega)
  obtain ⟨r, n, es⟩ := g
  simp only at hv hn hes
  unfold M_spec_WalkWord
  have h := L_spec_walk r n es hg hn.2 (by omega) w hw hl w.length 0 FUEL v (by omega) (FUEL_big hl)
  rw [show ((0 : Nat) : Int) = 0 from rfl, List.drop_zero] at h
  have hr : inR 0 (n - 1) v = true := by simp only [inR, Bool.and_eq_true, decide_eq_true_eq]; omega
  simp only [hF, hf, Option.bind_some, Bool.not_true, Bool.not_false, chk_true, m_l1In, w64 (show -9223372036854775808 ≤ n - 1 by omega) (show n - 1 ≤ 9223372036854775807 by omega), hr, cond_false, Bool.false_eq_true, if_false, h]
  cases decide ((readL (r, n, es) v w).2 < w.length) <;> rfl
theorem folded_in {g : LGraph} (h : F_IsFolded g = true) : inG g ∧ (1 ≤ g.1 ∧ g.1 ≤ 3) ∧ (1 ≤ g.2.1 ∧ g.2.1 ≤ 40) ∧ g.2.2.length ≤ 120 := by
  unfold F_IsFolded at h
  simp only [Bool.and_eq_true] at h
  exact graph_in h.1
end Go.Proofs.YthccjgkmmclplaaGreat
