/- Plain laws: what is joined with a vertex, by either road. -/
import Derived.Test.YthccjgkmmclplaaGreatP10
namespace Go.Proofs.YthccjgkmmclplaaGreat
open Go.H
set_option linter.unusedVariables false
set_option linter.unusedSimpArgs false

/-! ### what can be reached -/
inductive Rch (es : List LEdge) (v : Int) : Int → Prop
  | base : Rch es v v
  | fwd {e : LEdge} : e ∈ es → Rch es v e.1 → Rch es v e.2.2
  | bwd {e : LEdge} : e ∈ es → Rch es v e.2.2 → Rch es v e.1
theorem Rch.closed {es : List LEdge} {v : Int} : ∀ e ∈ es, Rch es v e.1 ↔ Rch es v e.2.2 := fun e he => ⟨.fwd he, .bwd he⟩
theorem Rch.sub {es : List LEdge} {v : Int} {P : Int → Prop} (hv : P v) (hc : ∀ e ∈ es, P e.1 ↔ P e.2.2) : ∀ {x}, Rch es v x → P x
  | _, .base => hv
  | _, .fwd he h => (hc _ he).1 (Rch.sub hv hc h)
  | _, .bwd he h => (hc _ he).2 (Rch.sub hv hc h)

/-! ### impl: passes over the edges -/
def getB (S : List Bool) (i : Int) : Bool := S.getD i.toNat false
def stJ (S : List Bool) (e : LEdge) : List Bool := (S.set e.1.toNat true).set e.2.2.toNat true
def pJ : List LEdge → Bool → List Bool → Bool × List Bool
  | [], c, S => (c, S)
  | e :: r, c, S => bif getB S e.1 == getB S e.2.2 then pJ r c S else pJ r true (stJ S e)
def cF : List Bool → Nat
  | [] => 0
  | b :: r => (bif b then 0 else 1) + cF r
theorem cF_set : ∀ (S : List Bool) (i : Nat), cF (S.set i true) ≤ cF S
  | [], i => by simp [cF]
  | b :: r, 0 => by simp [cF]
  | b :: r, i + 1 => by have := cF_set r i; simp only [List.set_cons_succ, cF]; omega
theorem cF_lt : ∀ (S : List Bool) (i : Nat), S[i]? = some false → cF (S.set i true) < cF S
  | [], i, h => by simp at h
  | b :: r, 0, h => by simp at h; subst h; simp [cF]
  | b :: r, i + 1, h => by have := cF_lt r i (by simpa using h); simp only [List.set_cons_succ, cF]; omega
theorem cF_le : ∀ S : List Bool, cF S ≤ S.length
  | [] => by simp [cF]
  | b :: r => by have := cF_le r; cases b <;> simp only [cF, List.length_cons, cond_true, cond_false] <;> omega
def inN (n : Nat) (es : List LEdge) : Prop := ∀ e ∈ es, (0 ≤ e.1 ∧ e.1 < (n : Int)) ∧ (0 ≤ e.2.2 ∧ e.2.2 < (n : Int))
theorem getB_set {S : List Bool} {i : Nat} (h : i < S.length) (x : Int) : getB (S.set i true) x = (decide (x.toNat = i) || getB S x) := by
  unfold getB
  rw [List.getD_eq_getElem?_getD, List.getD_eq_getElem?_getD, List.getElem?_set]
  by_cases c : i = x.toNat
  · rw [if_pos c, if_pos (by omega)]; simp [c]
  · rw [if_neg c]
    have : decide (x.toNat = i) = false := by simp; exact fun e => c e.symm
    rw [this]; rfl
theorem pJ_len : ∀ (es : List LEdge) (c : Bool) (S : List Bool), (pJ es c S).2.length = S.length
  | [], c, S => rfl
  | e :: r, c, S => by
    unfold pJ
    cases getB S e.1 == getB S e.2.2
    · simp only [cond_false]; rw [pJ_len r]; simp [stJ]
    · simp only [cond_true]; exact pJ_len r c S
theorem pJ_mono {n : Nat} : ∀ (es : List LEdge) (c : Bool) (S : List Bool), S.length = n → inN n es → ∀ x, getB S x = true → getB (pJ es c S).2 x = true
  | [], c, S, hl, hn, x, h => h
  | e :: r, c, S, hl, hn, x, h => by
    have he := hn e (List.mem_cons_self ..)
    have hr : inN n r := fun e he => hn e (List.mem_cons_of_mem _ he)
    unfold pJ
    cases getB S e.1 == getB S e.2.2
    · simp only [cond_false]
      refine pJ_mono r _ _ (by simp [stJ, hl]) hr x ?_
      rw [stJ, getB_set (by rw [List.length_set]; omega), getB_set (by omega), h]; simp
    · simp only [cond_true]; exact pJ_mono r c S hl hr x h
theorem pJ_sound {n : Nat} {P : Int → Prop} : ∀ (es : List LEdge) (c : Bool) (S : List Bool), S.length = n → inN n es → (∀ e ∈ es, P e.1 ↔ P e.2.2) → (∀ x, 0 ≤ x → getB S x = true → P x) → ∀ x, 0 ≤ x → getB (pJ es c S).2 x = true → P x
  | [], c, S, hl, hn, hc, hs, x, h0, h => hs x h0 h
  | e :: r, c, S, hl, hn, hc, hs, x, h0, h => by
    have he := hn e (List.mem_cons_self ..)
    have hr : inN n r := fun e he => hn e (List.mem_cons_of_mem _ he)
    have hc' := fun e he => hc e (List.mem_cons_of_mem _ he)
    have hce := hc e (List.mem_cons_self ..)
    unfold pJ at h
    cases hb : getB S e.1 == getB S e.2.2
    · rw [hb] at h
      refine pJ_sound r true (stJ S e) (by simp [stJ, hl]) hr hc' (fun y hy h => ?_) x h0 h
      rw [stJ, getB_set (by rw [List.length_set]; omega), getB_set (by omega)] at h
      simp only [Bool.or_eq_true, decide_eq_true_eq] at h
      have hor : P e.1 ∨ P e.2.2 := by
        cases h1 : getB S e.1
        · cases h2 : getB S e.2.2
          · rw [h1, h2] at hb; cases hb
          · exact .inr (hs _ he.2.1 h2)
        · exact .inl (hs _ he.1.1 h1)
      rcases h with h | h | h
      · have : y = e.2.2 := by omega
        subst this; exact hor.elim hce.1 id
      · have : y = e.1 := by omega
        subst this; exact hor.elim id hce.2
      · exact hs y hy h
    · rw [hb] at h
      exact pJ_sound r c S hl hr hc' hs x h0 h
theorem pJ_cnt {n : Nat} : ∀ (es : List LEdge) (c : Bool) (S : List Bool), S.length = n → inN n es → cF (pJ es c S).2 ≤ cF S ∧ ((pJ es c S).1 = true → c = true ∨ cF (pJ es c S).2 < cF S) ∧ ((pJ es c S).1 = false → c = false ∧ (pJ es c S).2 = S ∧ ∀ e ∈ es, getB S e.1 = getB S e.2.2)
  | [], c, S, hl, hn => ⟨Nat.le_refl _, fun h => .inl h, fun h => ⟨h, rfl, fun e he => nomatch he⟩⟩
  | e :: r, c, S, hl, hn => by
    have he := hn e (List.mem_cons_self ..)
    have hr : inN n r := fun e he => hn e (List.mem_cons_of_mem _ he)
    unfold pJ
    cases hb : getB S e.1 == getB S e.2.2
    · simp only [cond_false]
      obtain ⟨h1, h2, h3⟩ := pJ_cnt r true (stJ S e) (by simp [stJ, hl]) hr
      have hlt : cF (stJ S e) < cF S := by
        have g : ∀ (x : Int), 0 ≤ x → x < n → getB S x = false → S[x.toNat]? = some false := fun x hx hx2 hg => by
          have hk : x.toNat < S.length := by omega
          unfold getB at hg
          rw [List.getD_eq_getElem?_getD, List.getElem?_eq_getElem hk] at hg
          rw [List.getElem?_eq_getElem hk]; simpa using hg
        cases g1 : getB S e.1
        · have := cF_lt S _ (g _ he.1.1 he.1.2 g1)
          have := cF_set (S.set e.1.toNat true) e.2.2.toNat
          unfold stJ; omega
        · have g2 : getB S e.2.2 = false := by
            cases g2 : getB S e.2.2
            · rfl
            · rw [g1, g2] at hb; cases hb
          have g3 : (S.set e.1.toNat true)[e.2.2.toNat]? = some false := by
            rw [List.getElem?_set]
            by_cases q : e.1.toNat = e.2.2.toNat
            · exfalso
              have : e.1 = e.2.2 := by omega
              rw [this, g2] at g1; cases g1
            · rw [if_neg q]; exact g _ he.2.1 he.2.2 g2
          have := cF_lt _ _ g3
          have := cF_set S e.1.toNat
          unfold stJ; omega
      refine ⟨by omega, fun _ => .inr (by omega), fun h => ?_⟩
      have := (h3 h).1; cases this
    · simp only [cond_true]
      obtain ⟨h1, h2, h3⟩ := pJ_cnt r c S hl hr
      refine ⟨h1, h2, fun h => ⟨(h3 h).1, (h3 h).2.1, fun e' he' => ?_⟩⟩
      rcases List.mem_cons.1 he' with rfl | he'
      · simpa using hb
      · exact (h3 h).2.2 e' he'
theorem giB {S : List Bool} {n : Nat} (hl : S.length = n) {x : Int} (h0 : 0 ≤ x) (h1 : x < n) : gi S x = some (getB S x) := by
  have hk : x.toNat < S.length := by omega
  have e : x = ((x.toNat : Nat) : Int) := by omega
  have h2 : gi S ((x.toNat : Nat) : Int) = some (getB S x) := by
    rw [gi_nat, List.getElem?_eq_getElem hk]
    unfold getB
    rw [List.getD_eq_getElem?_getD, List.getElem?_eq_getElem hk]; rfl
  rw [← e] at h2; exact h2
theorem L_joined0 (es : List LEdge) {n : Nat} (hn : inN n es) (hl : es.length ≤ 9223372036854775807) : ∀ (d k fuel : Nat) (c : Bool) (S : List Bool), S.length = n → k + d = es.length → d < fuel →
    L_impl_Graph_joined_0 es fuel c (k : Int) S = some (pJ (es.drop k) c S)
  | d, k, 0, c, S, hS, hd, hf => by omega
  | 0, k, fuel + 1, c, S, hS, hd, hf => by
    rw [L_impl_Graph_joined_0_succ, if_neg (by simp; omega), drop_done (by omega)]; rfl
  | d + 1, k, fuel + 1, c, S, hS, hd, hf => by
    have hk : k < es.length := by omega
    have he := getk hk
    have hin := hn _ (List.mem_of_getElem? he)
    generalize es[k] = e at he hin
    obtain ⟨a, l, b⟩ := e
    have ih := fun c' S' h => L_joined0 es hn hl d (k + 1) fuel c' S' h (by omega) (by omega)
    rw [L_impl_Graph_joined_0_succ, if_pos (by simp; omega), drop_get he]
    simp only [gi_at he, Option.bind_some, giB hS hin.1.1 hin.1.2, giB hS hin.2.1 hin.2.2, wsucc hk hl, giB (show (S.set a.toNat true).length = n by simp [hS]) hin.2.1 hin.2.2, pJ]
    cases hb : getB S a == getB S b
    · simp only [Bool.not_false, if_true, cond_false]
      exact ih _ _ (by simp [hS])
    · simp only [Bool.not_true, Bool.false_eq_true, if_false, cond_true]
      exact ih _ _ hS
theorem L_joined1 (es : List LEdge) {n : Nat} (hn : inN n es) (hl : es.length ≤ 9223372036854775806) : ∀ (m fuel : Nat) (S : List Bool), S.length = n → cF S ≤ m → m + 1 < fuel →
    ∃ S', L_impl_Graph_joined_1 es fuel true S = some S' ∧ S'.length = n ∧ (∀ x, getB S x = true → getB S' x = true) ∧ (∀ e ∈ es, getB S' e.1 = getB S' e.2.2) ∧
      ∀ P : Int → Prop, (∀ e ∈ es, P e.1 ↔ P e.2.2) → (∀ x, 0 ≤ x → getB S x = true → P x) → ∀ x, 0 ≤ x → getB S' x = true → P x
  | m, 0, S, hS, hm, hf => by omega
  | m, fuel + 1, S, hS, hm, hf => by
    have h0 := L_joined0 es hn (by omega) es.length 0 FUEL false S hS (by omega) (by unfold FUEL; omega)
    rw [show ((0 : Nat) : Int) = 0 from rfl, List.drop_zero] at h0
    obtain ⟨c1, c2, c3⟩ := pJ_cnt es false S hS hn
    have hlen := pJ_len es false S
    rw [L_impl_Graph_joined_1_succ, if_pos rfl, h0, Option.bind_some]
    have hmono := pJ_mono es false S hS hn
    have hsnd := fun P => pJ_sound (P := P) es false S hS hn
    generalize pJ es false S = q at *
    obtain ⟨c, S'⟩ := q
    simp only at c1 c2 c3 hlen hmono hsnd ⊢
    cases c with
    | true =>
      rcases c2 rfl with h | h
      · cases h
      · obtain ⟨S2, e1, e2, e3, e4, e5⟩ := L_joined1 es hn hl (m - 1) fuel S' (by omega) (by omega) (by omega)
        exact ⟨S2, e1, e2, fun x hx => e3 x (hmono x hx), e4, fun P hc hs => e5 P hc (hsnd P hc hs)⟩
    | false =>
      obtain ⟨_, e, hall⟩ := c3 rfl
      subst e
      obtain _ | fuel := fuel
      · omega
      · rw [L_impl_Graph_joined_1_succ, if_neg (by simp)]
        exact ⟨_, rfl, hS, fun x h => h, hall, fun P _ hs => hs⟩
theorem m_joined (r : Int) (n : Nat) (es : List LEdge) (hn : inN n es) (hl : es.length ≤ 9223372036854775806) (hn2 : 1 ≤ n) (hn3 : n ≤ 140737488355328) :
    ∃ S, M_impl_Graph_joined (r, (n : Int), es) 0 = some S ∧ S.length = n ∧ ∀ x, 0 ≤ x → x < (n : Int) → (getB S x = true ↔ Rch es 0 x) := by
  unfold M_impl_Graph_joined
  simp only [Int.toNat_natCast]
  have hg : gi (List.replicate n (false : Bool)) 0 = some false := by
    rw [gi_at0 (x := false)]; rw [List.getElem?_replicate, if_pos (by omega)]
  rw [grd_true (by omega), Option.bind_some, hg, Option.bind_some]
  have hS : ((List.replicate n (false : Bool)).set (0 : Int).toNat true).length = n := by simp
  obtain ⟨S', e1, e2, e3, e4, e5⟩ := L_joined1 es hn hl n FUEL _ hS (by have := cF_le ((List.replicate n (false : Bool)).set (0 : Int).toNat true); omega) (by unfold FUEL; omega)
  rw [e1]
  have hb : ∀ x, getB ((List.replicate n (false : Bool)).set (0 : Int).toNat true) x = decide (x.toNat = 0) := fun x => by
    rw [getB_set (by simp; omega)]
    have : getB (List.replicate n false) x = false := by
      unfold getB
      rw [List.getD_eq_getElem?_getD, List.getElem?_replicate]
      split <;> rfl
    rw [this]; simp
  refine ⟨S', rfl, e2, fun x h0 h1 => ⟨fun h => ?_, fun h => ?_⟩⟩
  · refine e5 (Rch es 0) Rch.closed (fun y hy h => ?_) x h0 h
    rw [hb] at h
    have : y = 0 := by simp at h; omega
    subst this; exact .base
  · exact Rch.sub (P := fun x => getB S' x = true) (e3 0 (by rw [hb]; rfl)) (fun e he => by rw [e4 e he]) h

/-! ### spec: rounds -/
theorem L_Has (l : List Int) (w : Int) (hl : l.length ≤ 9223372036854775807) : ∀ (d k fuel : Nat), k + d = l.length → d < fuel →
    L_spec_l4Has_0 l w fuel (k : Int) = some (if w ∈ l.drop k then .inl true else .inr ())
  | d, k, 0, hd, hf => by omega
  | 0, k, fuel + 1, hd, hf => by
    rw [L_spec_l4Has_0_succ, if_neg (by simp; omega), drop_done (by omega)]; simp
  | d + 1, k, fuel + 1, hd, hf => by
    have hk : k < l.length := by omega
    have hx := getk hk
    generalize l[k] = x at hx
    have ih := L_Has l w hl d (k + 1) fuel (by omega) (by omega)
    rw [L_spec_l4Has_0_succ, if_pos (by simp; omega), drop_get hx]
    simp only [gi_at hx, Option.bind_some, wsucc hk hl, ih, List.mem_cons]
    by_cases c : x = w
    · rw [if_pos (by simpa using c), if_pos (.inl c.symm)]
    · rw [if_neg (by simpa using c)]
      by_cases c2 : w ∈ l.drop (k + 1)
      · rw [if_pos c2, if_pos (.inr c2)]
      · rw [if_neg c2, if_neg (fun h => h.elim (fun e => c e.symm) c2)]
theorem m_l4Has (l : List Int) (w : Int) (hl : l.length ≤ 9223372036854775807) : M_spec_l4Has l w = some (decide (w ∈ l)) := by
  unfold M_spec_l4Has
  have h := L_Has l w hl l.length 0 FUEL (by omega) (by unfold FUEL; omega)
  rw [show ((0 : Nat) : Int) = 0 from rfl, List.drop_zero] at h
  rw [h, Option.bind_some]
  by_cases c : w ∈ l
  · rw [if_pos c]; simp [outK, c]
  · rw [if_neg c]; simp [outK, c]
def s1 (u : List Int) (e : LEdge) : List Int := if e.1 ∈ u then putL cmpI e.2.2 u else u
def s2 (u : List Int) (e : LEdge) : List Int := if e.2.2 ∈ u then putL cmpI e.1 u else u
def pS : List LEdge → List Int → List Int
  | [], u => u
  | e :: r, u => pS r (s2 (s1 u e) e)
theorem s1_mem {u : List Int} {e : LEdge} {x : Int} : x ∈ s1 u e ↔ x ∈ u ∨ (e.1 ∈ u ∧ x = e.2.2) := by
  unfold s1
  split
  · rename_i h; rw [putL_mem cmpI_lin]; constructor
    · rintro (h1 | h1)
      · exact .inr ⟨h, h1⟩
      · exact .inl h1
    · rintro (h1 | ⟨_, h1⟩)
      · exact .inr h1
      · exact .inl h1
  · rename_i h; constructor
    · exact .inl
    · rintro (h1 | ⟨h1, _⟩)
      · exact h1
      · exact absurd h1 h
theorem s2_mem {u : List Int} {e : LEdge} {x : Int} : x ∈ s2 u e ↔ x ∈ u ∨ (e.2.2 ∈ u ∧ x = e.1) := by
  unfold s2
  split
  · rename_i h; rw [putL_mem cmpI_lin]; constructor
    · rintro (h1 | h1)
      · exact .inr ⟨h, h1⟩
      · exact .inl h1
    · rintro (h1 | ⟨_, h1⟩)
      · exact .inr h1
      · exact .inl h1
  · rename_i h; constructor
    · exact .inl
    · rintro (h1 | ⟨h1, _⟩)
      · exact h1
      · exact absurd h1 h
theorem s1_len (u : List Int) (e : LEdge) : (s1 u e).length ≤ u.length + 1 := by
  unfold s1; split
  · exact putL_lenI _ _
  · omega
theorem s2_len (u : List Int) (e : LEdge) : (s2 u e).length ≤ u.length + 1 := by
  unfold s2; split
  · exact putL_lenI _ _
  · omega
theorem pS_len : ∀ (es : List LEdge) (u : List Int), (pS es u).length ≤ u.length + 2 * es.length
  | [], u => by simp [pS]
  | e :: r, u => by
    have := pS_len r (s2 (s1 u e) e)
    have := s2_len (s1 u e) e
    have := s1_len u e
    simp only [pS, List.length_cons]; omega
theorem pS_mono : ∀ (es : List LEdge) (u : List Int) (x : Int), x ∈ u → x ∈ pS es u
  | [], u, x, h => h
  | e :: r, u, x, h => pS_mono r _ x (s2_mem.2 (.inl (s1_mem.2 (.inl h))))
theorem pS_sound {P : Int → Prop} : ∀ (es : List LEdge) (u : List Int), (∀ e ∈ es, P e.1 ↔ P e.2.2) → (∀ x ∈ u, P x) → ∀ x ∈ pS es u, P x
  | [], u, hc, hs => hs
  | e :: r, u, hc, hs => pS_sound r _ (fun e he => hc e (List.mem_cons_of_mem _ he)) fun x hx => by
    have hce := hc e (List.mem_cons_self ..)
    have h1 : ∀ y ∈ s1 u e, P y := fun y hy => by
      rcases s1_mem.1 hy with h | ⟨h, rfl⟩
      · exact hs y h
      · exact hce.1 (hs _ h)
    rcases s2_mem.1 hx with h | ⟨h, rfl⟩
    · exact h1 x h
    · exact hce.2 (h1 _ h)
/-- an edge that touches what there is lies within what comes -/
theorem pS_touch : ∀ (es : List LEdge) (u : List Int) (e : LEdge), e ∈ es → e.1 ∈ u ∨ e.2.2 ∈ u → e.1 ∈ pS es u ∧ e.2.2 ∈ pS es u
  | e' :: r, u, e, he, h => by
    simp only [pS]
    rcases List.mem_cons.1 he with rfl | he
    · have h2 : e.2.2 ∈ s1 u e := by
        rcases h with h | h
        · exact s1_mem.2 (.inr ⟨h, rfl⟩)
        · exact s1_mem.2 (.inl h)
      exact ⟨pS_mono r _ _ (s2_mem.2 (.inr ⟨h2, rfl⟩)), pS_mono r _ _ (s2_mem.2 (.inl h2))⟩
    · exact pS_touch r _ e he (h.imp (fun h => s2_mem.2 (.inl (s1_mem.2 (.inl h)))) fun h => s2_mem.2 (.inl (s1_mem.2 (.inl h))))
def act (es : List LEdge) (u : List Int) : Nat := es.countP fun e => decide (e.1 ∈ u) && decide (e.2.2 ∈ u)
def clo (es : List LEdge) (u : List Int) : Prop := ∀ e ∈ es, e.1 ∈ u ↔ e.2.2 ∈ u
theorem act_le (es : List LEdge) (u : List Int) : act es u ≤ es.length := List.countP_le_length
theorem countP_lt {α : Type} {p q : α → Bool} : ∀ {l : List α}, (∀ x ∈ l, p x = true → q x = true) → (∃ x ∈ l, p x = false ∧ q x = true) → l.countP p < l.countP q
  | [], _, ⟨x, hx, _⟩ => nomatch hx
  | y :: l, h, ⟨x, hx, h1, h2⟩ => by
    have hle : l.countP p ≤ l.countP q := List.countP_mono_left fun z hz => h z (List.mem_cons_of_mem _ hz)
    rcases List.mem_cons.1 hx with rfl | hx
    · rw [List.countP_cons_of_neg (by simp [h1]), List.countP_cons_of_pos h2]; omega
    · have ih := countP_lt (l := l) (fun z hz => h z (List.mem_cons_of_mem _ hz)) ⟨x, hx, h1, h2⟩
      cases hp : p y
      · rw [List.countP_cons_of_neg (by simp [hp])]
        have : l.countP q ≤ (y :: l).countP q := by rw [List.countP_cons]; omega
        omega
      · rw [List.countP_cons_of_pos hp, List.countP_cons_of_pos (h y (List.mem_cons_self ..) hp)]; omega
theorem clo_keep {es : List LEdge} {u : List Int} (h : clo es u) (x : Int) : x ∈ pS es u ↔ x ∈ u :=
  ⟨pS_sound (P := fun x => x ∈ u) es u h (fun _ h => h) x, pS_mono es u x⟩
theorem act_step {es : List LEdge} {u : List Int} : clo es (pS es u) ∨ act es u < act es (pS es u) := by
  by_cases h : clo es u
  · left
    intro e he
    rw [clo_keep h, clo_keep h]; exact h e he
  · right
    have : ∃ e ∈ es, ¬ (e.1 ∈ u ↔ e.2.2 ∈ u) := by
      refine Classical.byContradiction fun hn => h fun e he => ?_
      exact Classical.byContradiction fun h2 => hn ⟨e, he, h2⟩
    obtain ⟨e, he, hne⟩ := this
    refine countP_lt (fun x hx h => ?_) ⟨e, he, ?_, ?_⟩
    · simp only [Bool.and_eq_true, decide_eq_true_eq] at h ⊢
      exact ⟨pS_mono _ _ _ h.1, pS_mono _ _ _ h.2⟩
    · rw [Bool.eq_false_iff]
      intro h
      simp only [Bool.and_eq_true, decide_eq_true_eq] at h
      exact hne ⟨fun _ => h.2, fun _ => h.1⟩
    · have ht : e.1 ∈ u ∨ e.2.2 ∈ u := by
        refine Classical.byContradiction fun hn => hne ⟨fun h => absurd (.inl h) hn, fun h => absurd (.inr h) hn⟩
      have := pS_touch es u e he ht
      simp only [Bool.and_eq_true, decide_eq_true_eq]; exact this
def itS (es : List LEdge) : Nat → List Int → List Int
  | 0, u => u
  | j + 1, u => itS es j (pS es u)
theorem itS_len (es : List LEdge) : ∀ (j : Nat) (u : List Int), (itS es j u).length ≤ u.length + j * (2 * es.length)
  | 0, u => by simp [itS]
  | j + 1, u => by have := itS_len es j (pS es u); have := pS_len es u; simp only [itS, Nat.add_mul, Nat.one_mul]; omega
theorem itS_clo (es : List LEdge) : ∀ (j : Nat) (u : List Int), clo es u → clo es (itS es j u)
  | 0, u, h => h
  | j + 1, u, h => itS_clo es j _ fun e he => by rw [clo_keep h, clo_keep h]; exact h e he
theorem itS_act (es : List LEdge) : ∀ (j : Nat) (u : List Int), clo es (itS es j u) ∨ act es u + j ≤ act es (itS es j u)
  | 0, u => .inr (Nat.le_refl _)
  | j + 1, u => by
    rcases act_step (es := es) (u := u) with h | h
    · exact .inl (itS_clo es j _ h)
    · rcases itS_act es j (pS es u) with h2 | h2
      · exact .inl h2
      · right; simp only [itS]; omega
theorem itS_mono (es : List LEdge) : ∀ (j : Nat) (u : List Int) (x : Int), x ∈ u → x ∈ itS es j u
  | 0, u, x, h => h
  | j + 1, u, x, h => itS_mono es j _ x (pS_mono es u x h)
theorem itS_sound {P : Int → Prop} (es : List LEdge) (hc : ∀ e ∈ es, P e.1 ↔ P e.2.2) : ∀ (j : Nat) (u : List Int), (∀ x ∈ u, P x) → ∀ x ∈ itS es j u, P x
  | 0, u, hs => hs
  | j + 1, u, hs => itS_sound es hc j _ (pS_sound es u hc hs)
theorem itS_rch (es : List LEdge) (v x : Int) : x ∈ itS es (es.length + 1) [v] ↔ Rch es v x := by
  constructor
  · exact itS_sound (P := Rch es v) es Rch.closed _ _ (fun y hy => by simp at hy; subst hy; exact .base) x
  · have hc : clo es (itS es (es.length + 1) [v]) := by
      rcases itS_act es (es.length + 1) [v] with h | h
      · exact h
      · have := act_le es (itS es (es.length + 1) [v]); omega
    exact Rch.sub (P := fun x => x ∈ itS es (es.length + 1) [v]) (itS_mono _ _ _ _ (by simp)) hc
theorem L_Reached0 (es : List LEdge) (hl : es.length ≤ 9223372036854775807) : ∀ (d k fuel : Nat) (u : List Int), k + d = es.length → d < fuel → u.length + 2 * d ≤ 1099511627776 →
    L_spec_ReachedFrom_0 es fuel u (k : Int) = some (pS (es.drop k) u)
  | d, k, 0, u, hd, hf, hu => by omega
  | 0, k, fuel + 1, u, hd, hf, hu => by
    rw [L_spec_ReachedFrom_0_succ, if_neg (by simp; omega), drop_done (by omega)]; rfl
  | d + 1, k, fuel + 1, u, hd, hf, hu => by
    have hk : k < es.length := by omega
    have he := getk hk
    generalize es[k] = e at he
    obtain ⟨a, l, b⟩ := e
    have ih := fun u' h => L_Reached0 es hl d (k + 1) fuel u' (by omega) (by omega) h
    have g1 := s1_len u (a, l, b)
    have g2 := s2_len (s1 u (a, l, b)) (a, l, b)
    rw [L_spec_ReachedFrom_0_succ, if_pos (by simp; omega), drop_get he]
    simp only [gi_at he, Option.bind_some, m_l4Has u _ (by omega), wsucc hk hl, pS]
    by_cases c : a ∈ u
    · rw [if_pos (by simpa using c), m_l4Add _ _ (by omega), Option.bind_some]
      have e1 : s1 u (a, l, b) = putL cmpI b u := if_pos c
      rw [e1] at g1 g2 ⊢
      rw [m_l4Has _ _ (by omega), Option.bind_some]
      by_cases c2 : b ∈ putL cmpI b u
      · rw [if_pos (by simpa using c2), m_l4Add _ _ (by omega), Option.bind_some]
        have e2 : s2 (putL cmpI b u) (a, l, b) = putL cmpI a (putL cmpI b u) := if_pos c2
        rw [e2] at g2 ⊢
        exact ih _ (by omega)
      · rw [if_neg (by simpa using c2)]
        have e2 : s2 (putL cmpI b u) (a, l, b) = putL cmpI b u := if_neg c2
        rw [e2]
        exact ih _ (by omega)
    · rw [if_neg (by simpa using c)]
      have e1 : s1 u (a, l, b) = u := if_neg c
      rw [e1] at g2 ⊢
      by_cases c2 : b ∈ u
      · rw [if_pos (by simpa using c2), m_l4Add _ _ (by omega), Option.bind_some]
        have e2 : s2 u (a, l, b) = putL cmpI a u := if_pos c2
        rw [e2] at g2 ⊢
        exact ih _ (by omega)
      · rw [if_neg (by simpa using c2)]
        have e2 : s2 u (a, l, b) = u := if_neg c2
        rw [e2]
        exact ih _ (by omega)
theorem L_Reached1 (es : List LEdge) (hl : es.length ≤ 120) : ∀ (d k fuel : Nat) (u : List Int), k + d = es.length + 1 → d < fuel → u.length ≤ 1 + k * 240 →
    L_spec_ReachedFrom_1 es fuel u (k : Int) = some (itS es d u)
  | d, k, 0, u, hd, hf, hu => by omega
  | 0, k, fuel + 1, u, hd, hf, hu => by
    rw [L_spec_ReachedFrom_1_succ, if_neg (by rw [w64 (by omega) (by omega)]; simp; omega)]; rfl
  | d + 1, k, fuel + 1, u, hd, hf, hu => by
    have h0 := L_Reached0 es (by omega) es.length 0 FUEL u (by omega) (FUEL_big (by omega)) (by omega)
    rw [show ((0 : Nat) : Int) = 0 from rfl, List.drop_zero] at h0
    have ih := L_Reached1 es hl d (k + 1) fuel (pS es u) (by omega) (by omega) (by have := pS_len es u; omega)
    rw [L_spec_ReachedFrom_1_succ, if_pos (by rw [w64 (by omega) (by omega)]; simp; omega), h0, Option.bind_some, wsucc (show k < 1000 by omega) (by omega), ih]
    rfl
theorem m_reached (g : LGraph) (v : Int) (hg : F_IsGraph g = true) (hv : 0 ≤ v ∧ v < g.2.1) : ∃ u, M_spec_ReachedFrom g v = some u ∧ u.length ≤ 100000 ∧ ∀ x, x ∈ u ↔ Rch g.2.2 v x := by
  obtain ⟨h1, h2, h3, h4⟩ := graph_in hg
  have hq := m_specIsGraph g (by omega)
  obtain ⟨r, n, es⟩ := g
  simp only at h2 h3 h4 hv
  unfold M_spec_ReachedFrom
  have hl := L_Reached1 es h4 (es.length + 1) 0 FUEL [v] (by omega) (FUEL_big (by omega)) (by simp)
  have hlen := itS_len es (es.length + 1) [v]
  refine ⟨itS es (es.length + 1) [v], ?_, ?_, fun x => itS_rch es v x⟩
  · simp only [hq, hg, Option.bind_some, Bool.not_true, Bool.not_false, chk_true, m_l1In, inR, w64 (show -9223372036854775808 ≤ n - 1 by omega) (show n - 1 ≤ 9223372036854775807 by omega)]
    rw [if_neg (by simp; omega), show (0 : Int) = ((0 : Nat) : Int) from rfl, hl]; rfl
  · have : (es.length + 1) * (2 * es.length) ≤ 121 * 240 := Nat.mul_le_mul (by omega) (by omega)
    simp only [List.length_singleton] at hlen
    omega
end Go.Proofs.YthccjgkmmclplaaGreat
