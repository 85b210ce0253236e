/- Plain laws: Dehn's algorithm. -/
import Derived.Test.YthccjgkmmclplaaA8
import Derived.Test.YthccjgkmmclplaaP7
namespace Go.Proofs.Ythccjgkmmclplaa
open Go.H
set_option linter.unusedVariables false
set_option linter.unusedSimpArgs false

def rd (w : List Int) : List Int := (redS [] w).reverse
theorem rd_64 {w : List Int} (h : all64 w) : all64 (rd w) := redS_rev64 _ h
theorem rd_len (w : List Int) : (rd w).length ≤ w.length := by have := redS_len w []; simp [rd] at *; omega
theorem rd_rd (a b : List Int) : rd (rd a ++ b) = rd (a ++ b) := by unfold rd; rw [redS_rered]
theorem rd_self (w : List Int) : rd (rd w) = rd w := by have := rd_rd w []; simpa using this
theorem m_implReduce (w : List Int) (hl : w.length ≤ 1099511627776) : M_impl_ReduceLetters w = some (rd w) := by
  unfold M_impl_ReduceLetters
  rw [m_implproduct [w] (by simp) (by simp [totL]; omega)]
  simp only [redW, Option.bind_some]
  rfl
theorem m_specReduce (w : List Int) (h : all64 w) (hl : w.length ≤ 1099511627776) : M_spec_ReduceLetters w = some (rd w) := m_specReduceLetters w h hl
def hitD (x : List Int) (at_ : Nat) : List (List Int) → Option (List Int)
  | [] => none
  | s :: l => bif decide (s.length < 2 * cpl (x.drop at_) s) then some (rd (x.take at_ ++ inv (s.drop (cpl (x.drop at_) s)) ++ x.drop (at_ + cpl (x.drop at_) s))) else hitD x at_ l
def dehnD (set : List (List Int)) (x : List Int) : Nat → Nat → Option (List Int)
  | 0, _ => none
  | d + 1, at_ => match hitD x at_ set with
    | some y => some y
    | none => dehnD set x d (at_ + 1)
theorem L_impl_dehn0 (set : List (List Int)) (hs : short24 set) (hn : set.length ≤ 140737488355328) (x : List Int) (hl : x.length ≤ 1099511627000) {at_ : Nat} (ha : at_ < x.length) : ∀ (d k fuel : Nat), k + d = set.length → d < fuel →
    L_impl_dehn_0 set x (at_ : Int) fuel (k : Int) = some (match hitD x at_ (set.drop k) with | some y => .inl (y, true) | none => .inr ())
  | d, k, 0, hd, hf => by omega
  | 0, k, fuel + 1, hd, hf => by
    rw [L_impl_dehn_0_succ, if_neg (by simp; omega), drop_done (by omega)]
    rfl
  | d + 1, k, fuel + 1, hd, hf => by
    have hk : k < set.length := by omega
    have hx := getk hk
    have hss := hs _ (List.getElem_mem hk)
    generalize set[k] = s at hx hss
    have hc := cpl_le (x.drop at_) s
    have ih := L_impl_dehn0 set hs hn x hl ha d (k + 1) fuel (by omega) (by omega)
    rw [List.length_drop] at hc
    rw [L_impl_dehn_0_succ, if_pos (by simp; omega), gi_at hx, Option.bind_some, cutL_from (by omega), Option.bind_some, m_implCommon _ s (by simp; omega), Option.bind_some, grd_true ⟨by omega, by omega⟩, Option.bind_some, drop_get hx]
    simp only [hitD]
    rw [w64 (by omega) (by omega)]
    by_cases h : s.length < 2 * cpl (x.drop at_) s
    · have hil := inv_len (s.drop (cpl (x.drop at_) s))
      rw [List.length_drop] at hil
      rw [if_pos (by simp; omega), cutL_to (by omega), Option.bind_some, cutL_from hc.2, Option.bind_some, m_implInvertWord _ (by simp; omega), Option.bind_some,
        show IntKind.i64.wrap ((at_ : Int) + ((cpl (x.drop at_) s : Nat) : Int)) = ((at_ + cpl (x.drop at_) s : Nat) : Int) by rw [w64 (by omega) (by omega)]; omega,
        cutL_from (by omega), Option.bind_some, Option.bind_some, m_implproduct _ (by simp) (by simp only [totL, hil, List.length_take, List.length_drop]; omega), Option.bind_some]
      simp only [h, decide_true, cond_true, redW, rd, redS_app]
    · rw [if_neg (by simp; omega), wsucc hk (by omega), ih]
      simp only [h, decide_false, cond_false]
theorem L_impl_dehn1 (set : List (List Int)) (hs : short24 set) (hn : set.length ≤ 140737488355328) (x : List Int) (hl : x.length ≤ 1099511627000) : ∀ (d k fuel : Nat), k + d = x.length → d < fuel →
    L_impl_dehn_1 x set fuel (k : Int) = some (match dehnD set x d k with | some y => .inl (y, true) | none => .inr ())
  | d, k, 0, hd, hf => by omega
  | 0, k, fuel + 1, hd, hf => by
    rw [L_impl_dehn_1_succ, if_neg (by simp; omega)]
    rfl
  | d + 1, k, fuel + 1, hd, hf => by
    have hk : k < x.length := by omega
    have h0 := L_impl_dehn0 set hs hn x hl hk set.length 0 FUEL (by omega) (FUEL_big hn)
    rw [show ((0 : Nat) : Int) = 0 from rfl, List.drop_zero] at h0
    rw [L_impl_dehn_1_succ, if_pos (by simp; omega), h0, Option.bind_some]
    simp only [dehnD]
    cases hitD x k set with
    | some y => rfl
    | none =>
      simp only [outL]
      rw [wsucc hk (by omega)]
      exact L_impl_dehn1 set hs hn x hl d (k + 1) fuel (by omega) (by omega)
theorem m_dehn (set : List (List Int)) (hs : short24 set) (hn : set.length ≤ 140737488355328) (x : List Int) (hl : x.length ≤ 1099511627000) : M_impl_dehn set x = some (match dehnD set x x.length 0 with | some y => (y, true) | none => (x, false)) := by
  unfold M_impl_dehn
  have h := L_impl_dehn1 set hs hn x hl x.length 0 FUEL (by omega) (FUEL_big (by omega))
  rw [show ((0 : Nat) : Int) = 0 from rfl] at h
  rw [h, Option.bind_some]
  cases dehnD set x x.length 0 <;> rfl
def F_DehnStep (p : LPresentation) (w : LIntS) : LIntS × Bool := match dehnD (F_SymmetrizedSet p) (rd w) (rd w).length 0 with
  | some y => (y, true)
  | none => (rd w, false)
theorem m_implDehnStep (p : LPresentation) (hl : p.2.length ≤ 140737488355328) (hs : wordsShort p.2) (w : LIntS) (hw : w.length ≤ 1048576) : M_impl_DehnStep p w = some (F_DehnStep p w) := by
  have hsy := sym_good p
  have hM := m_implSymmetrizedSet p hl hs
  have hr := rd_len w
  obtain ⟨r, ws⟩ := p
  unfold M_impl_DehnStep F_DehnStep
  simp only [hM, Option.bind_some, m_implReduce w (show w.length ≤ 1099511627776 by omega)]
  rw [m_dehn _ (fun w hw => (hsy.1 w hw).2) (by omega) (rd w) (by omega)]
  cases dehnD (F_SymmetrizedSet (r, ws)) (rd w) (rd w).length 0 <;> rfl
theorem L_spec_dehn0 (set : List (List Int)) (hs : short24 set) (hg : ∀ s ∈ set, all64 s) (hn : set.length ≤ 140737488355328) (x : List Int) (hx64 : all64 x) (hl : x.length ≤ 1099511627000) {at_ : Nat} (ha : at_ < x.length) : ∀ (d k fuel : Nat), k + d = set.length → d < fuel →
    L_spec_DehnStep_0 set x (at_ : Int) fuel (k : Int) = some (match hitD x at_ (set.drop k) with | some y => .inl (y, true) | none => .inr ())
  | d, k, 0, hd, hf => by omega
  | 0, k, fuel + 1, hd, hf => by
    rw [L_spec_DehnStep_0_succ, if_neg (by simp; omega), drop_done (by omega)]
    rfl
  | d + 1, k, fuel + 1, hd, hf => by
    have hk : k < set.length := by omega
    have hx := getk hk
    have hss := hs _ (List.getElem_mem hk)
    generalize set[k] = s at hx hss
    have hc := cpl_le (x.drop at_) s
    have ih := L_spec_dehn0 set hs hg hn x hx64 hl ha d (k + 1) fuel (by omega) (by omega)
    rw [List.length_drop] at hc
    rw [L_spec_DehnStep_0_succ, if_pos (by simp; omega), cutL_from (by omega), Option.bind_some, gi_at hx, Option.bind_some, m_specCommon _ s (by simp; omega), Option.bind_some, grd_true ⟨by omega, by omega⟩, Option.bind_some, Option.bind_some, drop_get hx]
    simp only [hitD]
    rw [w64 (by omega) (by omega)]
    by_cases h : s.length < 2 * cpl (x.drop at_) s
    · have hil := inv_len (s.drop (cpl (x.drop at_) s))
      rw [List.length_drop] at hil
      have htk : all64 (x.take at_) := fun y hy => hx64 y (List.mem_of_mem_take hy)
      have hdk : all64 (x.drop (at_ + cpl (x.drop at_) s)) := fun y hy => hx64 y (List.mem_of_mem_drop hy)
      have h1 := m_specMultiplyWords (x.take at_) (inv (s.drop (cpl (x.drop at_) s))) htk (inv_64 _) (by simp only [hil, List.length_take]; omega)
      have hr := rd_len (x.take at_ ++ inv (s.drop (cpl (x.drop at_) s)))
      simp only [List.length_append, List.length_take, hil] at hr
      have h2 := m_specMultiplyWords (rd (x.take at_ ++ inv (s.drop (cpl (x.drop at_) s)))) (x.drop (at_ + cpl (x.drop at_) s)) (rd_64 (all64_app htk (inv_64 _))) hdk (by simp only [List.length_drop]; omega)
      have h3 : (redS [] (rd (x.take at_ ++ inv (s.drop (cpl (x.drop at_) s))) ++ x.drop (at_ + cpl (x.drop at_) s))).reverse = rd (x.take at_ ++ inv (s.drop (cpl (x.drop at_) s)) ++ x.drop (at_ + cpl (x.drop at_) s)) := rd_rd _ _
      rw [h3] at h2
      rw [if_pos (by simp; omega), cutL_to (by omega), Option.bind_some, Option.bind_some, cutL_from hc.2, Option.bind_some, m_specInvertWord _ (by simp; omega), Option.bind_some, h1, Option.bind_some,
        show IntKind.i64.wrap ((at_ : Int) + ((cpl (x.drop at_) s : Nat) : Int)) = ((at_ + cpl (x.drop at_) s : Nat) : Int) by rw [w64 (by omega) (by omega)]; omega,
        cutL_from (by omega), Option.bind_some]
      rw [show (redS [] (x.take at_ ++ inv (s.drop (cpl (x.drop at_) s)))).reverse = rd (x.take at_ ++ inv (s.drop (cpl (x.drop at_) s))) from rfl, h2, Option.bind_some]
      simp only [h, decide_true, cond_true]
    · rw [if_neg (by simp; omega), wsucc hk (by omega), ih]
      simp only [h, decide_false, cond_false]
theorem L_spec_dehn1 (set : List (List Int)) (hs : short24 set) (hg : ∀ s ∈ set, all64 s) (hn : set.length ≤ 140737488355328) (x : List Int) (hx64 : all64 x) (hl : x.length ≤ 1099511627000) : ∀ (d k fuel : Nat), k + d = x.length → d < fuel →
    L_spec_DehnStep_1 x set fuel (k : Int) = some (match dehnD set x d k with | some y => .inl (y, true) | none => .inr ())
  | d, k, 0, hd, hf => by omega
  | 0, k, fuel + 1, hd, hf => by
    rw [L_spec_DehnStep_1_succ, if_neg (by simp; omega)]
    rfl
  | d + 1, k, fuel + 1, hd, hf => by
    have hk : k < x.length := by omega
    have h0 := L_spec_dehn0 set hs hg hn x hx64 hl hk set.length 0 FUEL (by omega) (FUEL_big hn)
    rw [show ((0 : Nat) : Int) = 0 from rfl, List.drop_zero] at h0
    rw [L_spec_DehnStep_1_succ, if_pos (by simp; omega), h0, Option.bind_some]
    simp only [dehnD]
    cases hitD x k set with
    | some y => rfl
    | none =>
      simp only [outL]
      rw [wsucc hk (by omega)]
      exact L_spec_dehn1 set hs hg hn x hx64 hl d (k + 1) fuel (by omega) (by omega)
theorem m_specDehnStep (p : LPresentation) (hl : p.2.length ≤ 140737488355328) (hs : wordsShort p.2) (w : LIntS) (h64 : all64 w) (hw : w.length ≤ 104857600) : M_spec_DehnStep p w = some (F_DehnStep p w) := by
  have hsy := sym_good p
  have hM := m_specSymmetrizedSet p hl hs
  have hr := rd_len w
  obtain ⟨r, ws⟩ := p
  unfold M_spec_DehnStep F_DehnStep
  simp only [hM, Option.bind_some, m_specReduce w h64 (show w.length ≤ 1099511627776 by omega)]
  have h := L_spec_dehn1 (F_SymmetrizedSet (r, ws)) (fun w hw => (hsy.1 w hw).2) (fun w hw => (hsy.1 w hw).1) (by omega) (rd w) (rd_64 h64) (by omega) (rd w).length 0 FUEL (by omega) (FUEL_big (by omega))
  rw [show ((0 : Nat) : Int) = 0 from rfl] at h
  rw [h, Option.bind_some]
  cases dehnD (F_SymmetrizedSet (r, ws)) (rd w) (rd w).length 0 <;> rfl

/-! ### step by step -/
theorem hitD_out (x : List Int) (at_ : Nat) (hx : all64 x) : ∀ (l : List (List Int)) (y : List Int), short24 l → hitD x at_ l = some y → all64 y ∧ rd y = y ∧ y.length ≤ x.length + 24
  | [], y, _, h => by simp [hitD] at h
  | s :: l, y, hs, h => by
    unfold hitD at h
    cases hc : decide (s.length < 2 * cpl (x.drop at_) s) with
    | false => rw [hc] at h; exact hitD_out x at_ hx l y (fun w hw => hs w (List.mem_cons_of_mem _ hw)) h
    | true =>
      rw [hc] at h
      simp only [cond_true, Option.some.injEq] at h
      subst h
      have h1 := rd_len (x.take at_ ++ inv (s.drop (cpl (x.drop at_) s)) ++ x.drop (at_ + cpl (x.drop at_) s))
      have h2 := inv_len (s.drop (cpl (x.drop at_) s))
      have h3 := hs s (List.mem_cons_self ..)
      simp only [List.length_append, List.length_take, List.length_drop] at h1 h2
      refine ⟨rd_64 (all64_app (all64_app (fun y hy => hx y (List.mem_of_mem_take hy)) (inv_64 _)) fun y hy => hx y (List.mem_of_mem_drop hy)), rd_self _, by omega⟩
theorem dehnD_out (set : List (List Int)) (hs : short24 set) (x : List Int) (hx : all64 x) : ∀ (d k : Nat) (y : List Int), dehnD set x d k = some y → all64 y ∧ rd y = y ∧ y.length ≤ x.length + 24
  | 0, k, y, h => by simp [dehnD] at h
  | d + 1, k, y, h => by
    unfold dehnD at h
    cases hh : hitD x k set with
    | some z => rw [hh] at h; cases h; exact hitD_out x k hx set _ hs hh
    | none => rw [hh] at h; exact dehnD_out set hs x hx d (k + 1) y h
def loopD (set : List (List Int)) : Nat → List Int → Int → (LIntS × Int) ⊕ LIntS
  | 0, u, _ => .inr u
  | d + 1, u, n => match dehnD set u u.length 0 with
    | none => .inl (u, n)
    | some y => loopD set d y (n + 1)
theorem L_impl_loopD (set : List (List Int)) (hs : short24 set) (hn : set.length ≤ 140737488355328) : ∀ (d n fuel : Nat) (u : List Int), n + d = 500 → d < fuel → all64 u → u.length + 24 * d ≤ 104857600 →
    L_impl_DehnReduce_0 set fuel u (n : Int) = some (loopD set d u (n : Int))
  | d, n, 0, u, hd, hf, hu, hl => by omega
  | 0, n, fuel + 1, u, hd, hf, hu, hl => by
    rw [L_impl_DehnReduce_0_succ, if_neg (by simp; omega)]
    rfl
  | d + 1, n, fuel + 1, u, hd, hf, hu, hl => by
    rw [L_impl_DehnReduce_0_succ, if_pos (by simp; omega), m_dehn set hs hn u (by omega), Option.bind_some]
    unfold loopD
    cases hh : dehnD set u u.length 0 with
    | none => rfl
    | some y =>
      obtain ⟨h1, _, h3⟩ := dehnD_out set hs u hu _ _ _ hh
      dsimp only
      rw [if_neg (by simp), w64 (by omega) (by omega), show (n : Int) + 1 = ((n + 1 : Nat) : Int) by omega]
      exact L_impl_loopD set hs hn d (n + 1) fuel y (by omega) (by omega) h1 (by omega)
theorem L_spec_loopD (r : Int) (ws : LIntSS) (hl : ws.length ≤ 140737488355328) (hs : wordsShort ws) : ∀ (d n fuel : Nat) (u : List Int), n + d = 500 → d < fuel → all64 u → rd u = u → u.length + 24 * d ≤ 104857600 →
    L_spec_DehnReduce_0 r ws fuel u (n : Int) = some (loopD (F_SymmetrizedSet (r, ws)) d u (n : Int))
  | d, n, 0, u, hd, hf, hu, hr, hl2 => by omega
  | 0, n, fuel + 1, u, hd, hf, hu, hr, hl2 => by
    rw [L_spec_DehnReduce_0_succ, if_neg (by simp; omega)]
    rfl
  | d + 1, n, fuel + 1, u, hd, hf, hu, hr, hl2 => by
    have hsy := sym_good (r, ws)
    rw [L_spec_DehnReduce_0_succ, if_pos (by simp; omega), m_specDehnStep (r, ws) hl hs u hu (by omega), Option.bind_some]
    unfold loopD F_DehnStep
    rw [hr]
    cases hh : dehnD (F_SymmetrizedSet (r, ws)) u u.length 0 with
    | none => rfl
    | some y =>
      obtain ⟨h1, h2, h3⟩ := dehnD_out _ (fun w hw => (hsy.1 w hw).2) u hu _ _ _ hh
      dsimp only
      rw [if_neg (by simp), w64 (by omega) (by omega), show (n : Int) + 1 = ((n + 1 : Nat) : Int) by omega]
      exact L_spec_loopD r ws hl hs d (n + 1) fuel y (by omega) (by omega) h1 h2 (by omega)
def F_DehnReduce (p : LPresentation) (w : LIntS) : LIntS × Int := match loopD (F_SymmetrizedSet p) 500 (rd w) 0 with
  | .inl x => x
  | .inr u => (u, 500)
theorem m_implDehnReduce (p : LPresentation) (hl : p.2.length ≤ 140737488355328) (hs : wordsShort p.2) (w : LIntS) (h64 : all64 w) (hw : w.length ≤ 1048576) : M_impl_DehnReduce p w = some (F_DehnReduce p w) := by
  have hsy := sym_good p
  have hM := m_implSymmetrizedSet p hl hs
  have hr := rd_len w
  obtain ⟨r, ws⟩ := p
  unfold M_impl_DehnReduce F_DehnReduce
  simp only [hM, Option.bind_some, m_implReduce w (show w.length ≤ 1099511627776 by omega)]
  have h := L_impl_loopD (F_SymmetrizedSet (r, ws)) (fun w hw => (hsy.1 w hw).2) (by omega) 500 0 FUEL (rd w) (by omega) (FUEL_big (by omega)) (rd_64 h64) (by omega)
  rw [show ((0 : Nat) : Int) = 0 from rfl] at h
  rw [h, Option.bind_some]
  cases loopD (F_SymmetrizedSet (r, ws)) 500 (rd w) 0 <;> rfl
theorem m_specDehnReduce (p : LPresentation) (hl : p.2.length ≤ 140737488355328) (hs : wordsShort p.2) (w : LIntS) (h64 : all64 w) (hw : w.length ≤ 1048576) : M_spec_DehnReduce p w = some (F_DehnReduce p w) := by
  have hr := rd_len w
  obtain ⟨r, ws⟩ := p
  unfold M_spec_DehnReduce F_DehnReduce
  simp only [Option.bind_some, m_specReduce w h64 (show w.length ≤ 1099511627776 by omega)]
  have h := L_spec_loopD r ws hl hs 500 0 FUEL (rd w) (by omega) (FUEL_big (by omega)) (rd_64 h64) (rd_self w) (by omega)
  rw [show ((0 : Nat) : Int) = 0 from rfl] at h
  rw [h, Option.bind_some]
  cases loopD (F_SymmetrizedSet (r, ws)) 500 (rd w) 0 <;> rfl
end Go.Proofs.Ythccjgkmmclplaa
