/- Plain laws: the graph of some vertices in their order, by either road. -/
import Derived.Test.YthccjgkmmclplaaGreatP11
namespace Go.Proofs.YthccjgkmmclplaaGreat
open Go.H
set_option linter.unusedVariables false
set_option linter.unusedSimpArgs false

def getI (P : List Int) (v : Int) : Int := P.getD v.toNat (-1)
/-- the places: later ones win -/
def setAll : List Int → Nat → List Int → List Int
  | A, k, [] => A
  | A, k, v :: r => setAll (A.set v.toNat (k : Int)) (k + 1) r
def plc (n : Nat) (o : List Int) : List Int := setAll (List.replicate n (-1)) 0 o
theorem setAll_len : ∀ (o : List Int) (k : Nat) (A : List Int), (setAll A k o).length = A.length
  | [], k, A => rfl
  | v :: r, k, A => by rw [setAll, setAll_len r]; simp
def inV (n : Nat) (o : List Int) : Prop := ∀ v ∈ o, 0 ≤ v ∧ v < (n : Int)
theorem giI {P : List Int} {n : Nat} (hl : P.length = n) {x : Int} (h0 : 0 ≤ x) (h1 : x < n) : gi P x = some (getI P x) := by
  have hk : x.toNat < P.length := by omega
  have e : x = ((x.toNat : Nat) : Int) := by omega
  have h2 : gi P ((x.toNat : Nat) : Int) = some (getI P x) := by
    rw [gi_nat, List.getElem?_eq_getElem hk]
    unfold getI
    rw [List.getD_eq_getElem?_getD, List.getElem?_eq_getElem hk]; rfl
  rw [← e] at h2; exact h2
theorem getI_set {A : List Int} {v x : Int} {y : Int} (h0 : 0 ≤ v) (h1 : v.toNat < A.length) (hx : 0 ≤ x) : getI (A.set v.toNat y) x = if x = v then y else getI A x := by
  unfold getI
  rw [List.getD_eq_getElem?_getD, List.getD_eq_getElem?_getD, List.getElem?_set]
  by_cases c : x = v
  · rw [if_pos c, if_pos (by rw [c]), if_pos h1]; rfl
  · rw [if_neg c, if_neg (by omega)]
/-- places lie within what has been placed -/
theorem setAll_range {n : Nat} : ∀ (o : List Int) (k : Nat) (A : List Int), A.length = n → inV n o → (∀ x, 0 ≤ x → -1 ≤ getI A x ∧ getI A x < (k : Int)) → ∀ x, 0 ≤ x → -1 ≤ getI (setAll A k o) x ∧ getI (setAll A k o) x < ((k + o.length : Nat) : Int)
  | [], k, A, hA, ho, h, x, hx => h x hx
  | v :: r, k, A, hA, ho, h, x, hx => by
    have hv := ho v (List.mem_cons_self ..)
    have := setAll_range r (k + 1) (A.set v.toNat (k : Int)) (by simp [hA]) (fun w hw => ho w (List.mem_cons_of_mem _ hw)) (fun y hy => by
      rw [getI_set hv.1 (by omega) hy]
      have := h y hy
      split <;> omega) x hx
    rw [setAll, List.length_cons, show k + (r.length + 1) = k + 1 + r.length by omega]; exact this
theorem getI_rep (n : Nat) (x : Int) : getI (List.replicate n (-1)) x = -1 := by
  unfold getI
  rw [List.getD_eq_getElem?_getD, List.getElem?_replicate]
  split <;> rfl
theorem plc_range {n : Nat} {o : List Int} (ho : inV n o) {x : Int} (hx : 0 ≤ x) : -1 ≤ getI (plc n o) x ∧ getI (plc n o) x < (o.length : Int) := by
  have := setAll_range o 0 (List.replicate n (-1)) (by simp) ho (fun x hx => by rw [getI_rep]; omega) x hx
  rw [Nat.zero_add] at this; exact this
theorem plc_len (n : Nat) (o : List Int) : (plc n o).length = n := by unfold plc; rw [setAll_len]; simp
/-- the edges between what has been placed -/
def pE (P : List Int) : List LEdge → List LEdge
  | [] => []
  | e :: r => bif decide (0 ≤ getI P e.1) && decide (0 ≤ getI P e.2.2) then (getI P e.1, e.2.1, getI P e.2.2) :: pE P r else pE P r
theorem pE_len (P : List Int) : ∀ es, (pE P es).length ≤ es.length
  | [] => by simp [pE]
  | e :: r => by
    have := pE_len P r
    unfold pE
    cases decide (0 ≤ getI P e.1) && decide (0 ≤ getI P e.2.2) <;> simp only [cond_true, cond_false, List.length_cons] <;> omega
theorem pE_in {n : Nat} {o : List Int} (ho : inV n o) : ∀ (es : List LEdge), inN n es → inN o.length (pE (plc n o) es)
  | [], hn => fun e he => nomatch he
  | e :: r, hn => by
    have hr := pE_in ho r fun e he => hn e (List.mem_cons_of_mem _ he)
    have he := hn e (List.mem_cons_self ..)
    unfold pE
    cases hb : decide (0 ≤ getI (plc n o) e.1) && decide (0 ≤ getI (plc n o) e.2.2)
    · simpa only [cond_false] using hr
    · simp only [cond_true]
      simp only [Bool.and_eq_true, decide_eq_true_eq] at hb
      intro e' he'
      rcases List.mem_cons.1 he' with rfl | he'
      · exact ⟨⟨hb.1, (plc_range ho he.1.1).2⟩, hb.2, (plc_range ho he.2.1).2⟩
      · exact hr e' he'
def F_part (g : LGraph) (o : List Int) : LGraph := (g.1, (o.length : Int), putAll F_CompareEdges [] (pE (plc g.2.1.toNat o) g.2.2))
theorem putAll_lenE : ∀ (r l : List LEdge), (putAll F_CompareEdges l r).length ≤ l.length + r.length
  | [], l => by simp [putAll]
  | e :: r, l => by have := putAll_lenE r (putL F_CompareEdges e l); have := putL_lenE e l; simp only [putAll, List.length_cons]; omega
theorem F_part_len (g : LGraph) (o : List Int) : (F_part g o).2.2.length ≤ g.2.2.length := by
  have := putAll_lenE (pE (plc g.2.1.toNat o) g.2.2) []
  have := pE_len (plc g.2.1.toNat o) g.2.2
  simp only [F_part, List.length_nil] at *; omega
theorem F_part_in {n : Nat} {r : Int} {es : List LEdge} {o : List Int} (ho : inV n o) (hn : inN n es) : inN o.length (F_part (r, (n : Int), es) o).2.2 := by
  intro e he
  simp only [F_part, Int.toNat_natCast] at he
  rcases (putAll_mem cmpE_lin e _ _).1 he with h | h
  · cases h
  · exact pE_in ho es hn e h

/-! ### impl -/
theorem L_part2 (n : Nat) (hn : n ≤ 140737488355328) : ∀ (d k fuel : Nat), k + d = n → d < fuel →
    L_impl_part_2 n fuel (k : Int) (List.replicate k (-1) ++ List.replicate d 0) = some (List.replicate n (-1))
  | d, k, 0, hd, hf => by omega
  | 0, k, fuel + 1, hd, hf => by
    rw [L_impl_part_2_succ, if_neg (by simp; omega), show k = n by omega]; simp
  | d + 1, k, fuel + 1, hd, hf => by
    have hg : gi (List.replicate k (-1) ++ List.replicate (d + 1) (0 : Int)) (k : Int) = some 0 := by
      rw [gi_nat, List.getElem?_append_right (by simp)]; simp
    have ih := L_part2 n hn d (k + 1) fuel (by omega) (by omega)
    rw [L_impl_part_2_succ, if_pos (by simp; omega), hg, Option.bind_some, wsucc (show k < n by omega) (by omega), Int.toNat_natCast]
    have e : (List.replicate k (-1) ++ List.replicate (d + 1) (0 : Int)).set k (-1) = List.replicate (k + 1) (-1) ++ List.replicate d 0 := by
      rw [List.set_append_right _ _ (by simp), List.length_replicate, Nat.sub_self, List.replicate_succ, List.set_cons_zero, List.replicate_succ']
      simp
    rw [e, ih]
theorem L_part1 (o : List Int) {n : Nat} (ho : inV n o) (hl : o.length ≤ 9223372036854775807) : ∀ (d k fuel : Nat) (A : List Int), A.length = n → k + d = o.length → d < fuel →
    L_impl_part_1 o fuel (k : Int) A = some (setAll A k (o.drop k))
  | d, k, 0, A, hA, hd, hf => by omega
  | 0, k, fuel + 1, A, hA, hd, hf => by
    rw [L_impl_part_1_succ, if_neg (by simp; omega), drop_done (by omega)]; rfl
  | d + 1, k, fuel + 1, A, hA, hd, hf => by
    have hk : k < o.length := by omega
    have hx := getk hk
    have hin := ho _ (List.mem_of_getElem? hx)
    generalize o[k] = v at hx hin
    have ih := L_part1 o ho hl d (k + 1) fuel (A.set v.toNat (k : Int)) (by simp [hA]) (by omega) (by omega)
    rw [L_impl_part_1_succ, if_pos (by simp; omega), drop_get hx, gi_at hx, Option.bind_some, giI hA hin.1 hin.2, Option.bind_some, wsucc hk hl, ih]
    rfl
theorem L_part0 (es : List LEdge) {n : Nat} (hn : inN n es) (hl : es.length ≤ 1099511627776) (P : List Int) (hP : P.length = n) (r m : Int) : ∀ (d k fuel : Nat) (acc : List LEdge), k + d = es.length → d < fuel → acc.length ≤ k →
    L_impl_part_0 es P fuel (k : Int) r m acc = some (r, m, acc ++ pE P (es.drop k))
  | d, k, 0, acc, hd, hf, ha => by omega
  | 0, k, fuel + 1, acc, hd, hf, ha => by
    rw [L_impl_part_0_succ, if_neg (by simp; omega), drop_done (by omega)]; simp [pE]
  | d + 1, k, fuel + 1, acc, hd, hf, ha => by
    have hk : k < es.length := by omega
    have he := getk hk
    have hin := hn _ (List.mem_of_getElem? he)
    generalize es[k] = e at he hin
    obtain ⟨a, l, b⟩ := e
    have ih := fun acc' h => L_part0 es hn hl P hP r m d (k + 1) fuel acc' (by omega) (by omega) h
    rw [L_impl_part_0_succ, if_pos (by simp; omega), drop_get he]
    simp only [gi_at he, Option.bind_some, giI hP hin.1.1 hin.1.2, giI hP hin.2.1 hin.2.2, wsucc hk (show es.length ≤ 9223372036854775807 by omega), pE]
    by_cases c1 : 0 ≤ getI P a
    · simp only [show decide (getI P a ≥ 0) = true by simpa using c1, chk_true, Option.bind_some, cond_true, show decide (0 ≤ getI P a) = true by simpa using c1, Bool.true_and]
      by_cases c2 : 0 ≤ getI P b
      · rw [if_pos (by simpa using c2), grd_true (by simp; omega), Option.bind_some, ih _ (by simp; omega)]
        simp [c2]
      · rw [if_neg (by simpa using c2), ih _ (by omega)]
        simp [c2]
    · simp only [show decide (getI P a ≥ 0) = false by simpa using c1, chk_false, Option.bind_some, cond_false, show decide (0 ≤ getI P a) = false by simpa using c1, Bool.false_and]
      rw [if_neg (by simp), ih _ (by omega)]
theorem m_part (r : Int) (n : Nat) (es : List LEdge) (o : List Int) (hn : inN n es) (ho : inV n o) (hn2 : n ≤ 1000000) (hl : es.length ≤ 1099511627776) (hl2 : o.length ≤ 1099511627776) :
    M_impl_part (r, (n : Int), es) o = some (F_part (r, (n : Int), es) o) := by
  unfold M_impl_part
  have h2 := L_part2 n (by omega) n 0 FUEL (by omega) (FUEL_big (by omega))
  have h1 := L_part1 o ho (by omega) o.length 0 FUEL (List.replicate n (-1)) (by simp) (by omega) (FUEL_big (by omega))
  have h0 := L_part0 es hn hl (plc n o) (plc_len n o) r ((o.length : Nat) : Int) es.length 0 FUEL [] (by omega) (FUEL_big (by omega)) (Nat.le_refl _)
  rw [show ((0 : Nat) : Int) = 0 from rfl] at h0 h1 h2
  rw [List.replicate_zero, List.nil_append] at h2
  rw [List.drop_zero] at h1
  rw [List.drop_zero, List.nil_append] at h0
  simp only [Int.toNat_natCast]
  rw [grd_true (by omega), Option.bind_some, Option.bind_some, List.length_replicate, grd_true (by omega), Option.bind_some, h2, Option.bind_some, h1, Option.bind_some]
  rw [show setAll (List.replicate n (-1)) 0 o = plc n o from rfl, h0]
  simp only [Option.bind_some]
  rw [m_sorted _ (by have := pE_len (plc n o) es; omega), Option.bind_some]
  rfl

/-! ### spec -/
theorem map_set1 (A : List Int) (i k : Nat) : (A.map (· + 1)).set i (((k + 1 : Nat) : Int)) = (A.set i (k : Int)).map (· + 1) := by
  rw [List.map_set]; rfl
theorem getI_map {A : List Int} {n : Nat} (hA : A.length = n) {x : Int} (h0 : 0 ≤ x) (h1 : x < n) : gi (A.map (· + 1)) x = some (getI A x + 1) := by
  have hk : x.toNat < A.length := by omega
  have e : x = ((x.toNat : Nat) : Int) := by omega
  have h2 : gi (A.map (· + 1)) ((x.toNat : Nat) : Int) = some (getI A x + 1) := by
    rw [gi_nat, List.getElem?_map, List.getElem?_eq_getElem hk]
    unfold getI
    rw [List.getD_eq_getElem?_getD, List.getElem?_eq_getElem hk]; rfl
  rw [← e] at h2; exact h2
theorem setAll_not {n : Nat} : ∀ (o : List Int) (k : Nat) (A : List Int) (x : Int), A.length = n → inV n o → 0 ≤ x → x ∉ o → getI (setAll A k o) x = getI A x
  | [], k, A, x, hA, ho, hx, h => rfl
  | v :: r, k, A, x, hA, ho, hx, h => by
    have hv := ho v (List.mem_cons_self ..)
    rw [setAll, setAll_not r _ _ x (by simp [hA]) (fun w hw => ho w (List.mem_cons_of_mem _ hw)) hx (fun hm => h (List.mem_cons_of_mem _ hm)), getI_set hv.1 (by omega) hx, if_neg (fun e => h (by rw [e]; exact List.mem_cons_self ..))]
theorem L_ren1 (r : Int) (n : Nat) (es : List LEdge) (o : List Int) (ho : inV n o) (hd' : o.Nodup) (hn2 : 1 ≤ n ∧ n ≤ 1000000) (hl : o.length ≤ 1099511627776) : ∀ (d k fuel : Nat) (A : List Int), A.length = n → (∀ x, 0 ≤ x → -1 ≤ getI A x ∧ getI A x ≤ 1099511627776) → (∀ x ∈ o.drop k, getI A x = -1) → k + d = o.length → d < fuel →
    L_spec_RenumberGraph_1 o (n : Int) r es fuel (k : Int) (A.map (· + 1)) = some (.inr ((setAll A k (o.drop k)).map (· + 1)))
  | d, k, 0, A, hA, hr, hm, hd, hf => by omega
  | 0, k, fuel + 1, A, hA, hr, hm, hd, hf => by
    rw [L_spec_RenumberGraph_1_succ, if_neg (by simp; omega), drop_done (by omega)]; rfl
  | d + 1, k, fuel + 1, A, hA, hr, hm, hd, hf => by
    have hk : k < o.length := by omega
    have hx := getk hk
    have hin := ho _ (List.mem_of_getElem? hx)
    have hdr := drop_get hx
    generalize o[k] = v at hx hin hdr
    have hnd : (o.drop k).Nodup := hd'.sublist (List.drop_sublist _ _)
    rw [hdr] at hnd hm
    have hA0 := hm v (List.mem_cons_self ..)
    have ih := L_ren1 r n es o ho hd' hn2 hl d (k + 1) fuel (A.set v.toNat (k : Int)) (by simp [hA]) (fun x hx => by
      rw [getI_set hin.1 (by omega) hx]; have := hr x hx; split <;> omega) (fun x hx => by
      have hx0 := ho x (List.mem_of_mem_drop hx)
      rw [getI_set hin.1 (by omega) hx0.1, if_neg (fun e => (List.nodup_cons.1 hnd).1 (by rw [← e]; exact hx))]
      exact hm x (List.mem_cons_of_mem _ hx)) (by omega) (by omega)
    rw [L_spec_RenumberGraph_1_succ, if_pos (by simp; omega), hdr, gi_at hx]
    simp only [Option.bind_some, m_l1In, w64 (show -9223372036854775808 ≤ (n : Int) - 1 by omega) (show (n : Int) - 1 ≤ 9223372036854775807 by omega), inR, show decide (0 ≤ v) = true by simpa using hin.1, show decide (v ≤ (n : Int) - 1) = true by simp; omega, Bool.and_self, Bool.not_true, Bool.not_false, chk_true, getI_map hA hin.1 hin.2, hA0, cond_false]
    rw [if_neg (by decide), wsucc hk (by omega), map_set1, ih]
    rfl
theorem L_ren0 (es : List LEdge) {n : Nat} (hn : inN n es) (hl : es.length ≤ 1099511627776) (P : List Int) (hP : P.length = n) (hr : ∀ x, 0 ≤ x → -1 ≤ getI P x ∧ getI P x ≤ 1099511627776) (r m : Int) : ∀ (d k fuel : Nat) (acc : List LEdge), k + d = es.length → d < fuel → acc.length ≤ k →
    L_spec_RenumberGraph_0 es (P.map (· + 1)) fuel (k : Int) r m acc = some (r, m, putAll F_CompareEdges acc (pE P (es.drop k)))
  | d, k, 0, acc, hd, hf, ha => by omega
  | 0, k, fuel + 1, acc, hd, hf, ha => by
    rw [L_spec_RenumberGraph_0_succ, if_neg (by simp; omega), drop_done (by omega)]; rfl
  | d + 1, k, fuel + 1, acc, hd, hf, ha => by
    have hk : k < es.length := by omega
    have he := getk hk
    have hin := hn _ (List.mem_of_getElem? he)
    generalize es[k] = e at he hin
    obtain ⟨a, l, b⟩ := e
    have ih := fun acc' h => L_ren0 es hn hl P hP hr r m d (k + 1) fuel acc' (by omega) (by omega) h
    have ra := hr a hin.1.1
    have rb := hr b hin.2.1
    rw [L_spec_RenumberGraph_0_succ, if_pos (by simp; omega), drop_get he]
    simp only [gi_at he, Option.bind_some, getI_map hP hin.1.1 hin.1.2, getI_map hP hin.2.1 hin.2.2, wsucc hk (show es.length ≤ 9223372036854775807 by omega), pE]
    by_cases c1 : 0 ≤ getI P a
    · simp only [show decide (getI P a + 1 > 0) = true by simp; omega, chk_true, Option.bind_some, cond_true, show decide (0 ≤ getI P a) = true by simpa using c1, Bool.true_and]
      by_cases c2 : 0 ≤ getI P b
      · rw [if_pos (by simp; omega), w64 (by omega) (by omega), w64 (by omega) (by omega), show getI P a + 1 - 1 = getI P a by omega, show getI P b + 1 - 1 = getI P b by omega]
        rw [m_l4Put _ _ (by omega), Option.bind_some, ih _ (by have := putL_lenE (getI P a, l, getI P b) acc; omega)]
        simp [c2, putAll]
      · rw [if_neg (by simp; omega), ih _ (by omega)]
        simp [c2]
    · simp only [show decide (getI P a + 1 > 0) = false by simp; omega, chk_false, Option.bind_some, cond_false, show decide (0 ≤ getI P a) = false by simpa using c1, Bool.false_and]
      rw [if_neg (by simp), ih _ (by omega)]
theorem m_renumber (r : Int) (n : Nat) (es : List LEdge) (o : List Int) (hg : F_IsGraph (r, (n : Int), es) = true) (ho : inV n o) (hd : o.Nodup) (h1 : 1 ≤ o.length) (h2 : o.length ≤ n) :
    M_spec_RenumberGraph (r, (n : Int), es) o = some (F_part (r, (n : Int), es) o, true) := by
  obtain ⟨q1, q2, q3, q4⟩ := graph_in hg
  simp only at q2 q3 q4
  have hn : inN n es := fun e he => ⟨(q1 e he).1, (q1 e he).2.1⟩
  have hG := m_specIsGraph (r, (n : Int), es) (by simp only; omega)
  unfold M_spec_RenumberGraph
  have e1 := L_ren1 r n es o ho hd (by omega) (by omega) o.length 0 FUEL (List.replicate n (-1)) (by simp) (fun x hx => by rw [getI_rep]; omega) (fun x hx => getI_rep n x) (by omega) (FUEL_big (by omega))
  have e0 := L_ren0 es hn (by omega) (plc n o) (plc_len n o) (fun x hx => by have := plc_range ho hx; omega) r ((o.length : Nat) : Int) es.length 0 FUEL [] (by omega) (FUEL_big (by omega)) (Nat.le_refl _)
  rw [show ((0 : Nat) : Int) = 0 from rfl, List.drop_zero] at e0 e1
  rw [show (List.replicate n (-1 : Int)).map (· + 1) = List.replicate n 0 by simp] at e1
  rw [show setAll (List.replicate n (-1)) 0 o = plc n o from rfl] at e1
  have c1 : decide (((o.length : Nat) : Int) = 0) = false := decide_eq_false (by omega)
  have c2 : decide (((o.length : Nat) : Int) > (n : Int)) = false := decide_eq_false (by omega)
  simp only [hG, hg, Option.bind_some, Bool.not_true, cond_false, Int.toNat_natCast, c1, c2]
  rw [if_neg (by simp), grd_true (by omega), Option.bind_some, e1]
  simp only [Option.bind_some, outK, e0]
  rfl
end Go.Proofs.YthccjgkmmclplaaGreat
