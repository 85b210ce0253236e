/- Plain laws: the spec's symmetrized set is the code's. -/
import Derived.Test.YthccjgkmmclplaaP6
namespace Go.Proofs.Ythccjgkmmclplaa
open Go.H
set_option linter.unusedVariables false
set_option linter.unusedSimpArgs false

theorem inv_app (a b : List Int) : inv (a ++ b) = inv b ++ inv a := by simp [inv]
theorem rot_good {w : List Int} (hw : good w) {k : Nat} (hk : k < w.length) : good (rotW w k) := by
  refine ⟨fun x hx => ?_, by rw [rotW_len w (by omega)]; exact hw.2⟩
  rcases List.mem_append.1 hx with hx | hx
  · exact hw.1 x (List.mem_of_mem_drop hx)
  · exact hw.1 x (List.mem_of_mem_take hx)
theorem inv_good {w : List Int} (hw : good w) : good (inv w) := ⟨inv_64 w, by rw [inv_len]; exact hw.2⟩
theorem putL_good {l : List (List Int)} {w : List Int} (hl : ∀ x ∈ l, good x) (hw : good w) : ∀ x ∈ putL F_CompareWords w l, good x := fun x hx => by
  rcases (putL_mem cmpW_lin w x l).1 hx with rfl | hx
  · exact hw
  · exact hl x hx
theorem putL_len (w : List Int) : ∀ l : List (List Int), (putL F_CompareWords w l).length ≤ l.length + 1
  | [] => by simp [putL]
  | y :: l => by
    have := putL_len w l
    unfold putL
    split
    · simp
    · split
      · simp
      · simp only [List.length_cons]; omega
theorem putAll_app {α : Type} (cf : α → α → Int) : ∀ (a b l : List α), putAll cf l (a ++ b) = putAll cf (putAll cf l a) b
  | [], _, _ => rfl
  | x :: a, b, l => by simp only [List.cons_append, putAll, putAll_app cf a b]
theorem putAll_len : ∀ (r l : List (List Int)), (putAll F_CompareWords l r).length ≤ l.length + r.length
  | [], l => by simp [putAll]
  | x :: r, l => by
    have h1 := putAll_len r (putL F_CompareWords x l)
    have h2 := putL_len x l
    simp only [putAll, List.length_cons]
    omega
theorem putAll_good : ∀ (r l : List (List Int)), (∀ x ∈ r, good x) → (∀ x ∈ l, good x) → ∀ x ∈ putAll F_CompareWords l r, good x
  | [], l, _, hl => hl
  | x :: r, l, hr, hl => putAll_good r _ (fun y hy => hr y (List.mem_cons_of_mem _ hy)) (putL_good hl (hr x (List.mem_cons_self ..)))
theorem L_spec_Sym0 (w : List Int) (hw : good w) : ∀ (d k fuel : Nat) (u : List (List Int)), k + d = w.length → d < fuel → (∀ x ∈ u, good x) → u.length + 2 * d ≤ 1048576 →
    L_spec_SymmetrizedSet_0 w fuel u (k : Int) = some (putAll F_CompareWords u ((prs w).drop k).flatten)
  | d, k, 0, u, hd, hf, hu, hl => by omega
  | 0, k, fuel + 1, u, hd, hf, hu, hl => by
    rw [L_spec_SymmetrizedSet_0_succ, if_neg (by simp; omega), drop_done (by rw [prs_len]; omega)]
    rfl
  | d + 1, k, fuel + 1, u, hd, hf, hu, hl => by
    have hk : k < w.length := by omega
    have hw2 := hw.2
    have g1 := rot_good hw hk
    have g2 := inv_good g1
    have l1 := putL_len (rotW w k) u
    have l2 := putL_len (inv (rotW w k)) (putL F_CompareWords (rotW w k) u)
    have u1 := putL_good hu g1
    rw [L_spec_SymmetrizedSet_0_succ, if_pos (by simp; omega), m_specRotateWord w hk hw2, Option.bind_some, m_specPut u _ g1 hu (by omega), Option.bind_some, Option.bind_some, m_specInvertWord _ (by have := g1.2; omega), Option.bind_some,
      m_specPut _ _ g2 u1 (by omega), Option.bind_some, wsucc hk (by omega), L_spec_Sym0 w hw d (k + 1) fuel _ (by omega) (by omega) (putL_good u1 g2) (by omega), drop_get (prs_get w hk)]
    rfl
theorem prs_good {w : List Int} (hw : good w) : ∀ x ∈ (prs w).flatten, good x := fun x hx => by
  obtain ⟨l, hl, hx⟩ := List.mem_flatten.1 hx
  simp only [prs, List.mem_map, List.mem_range] at hl
  obtain ⟨k, hk, rfl⟩ := hl
  simp only [List.mem_cons, List.mem_nil_iff, or_false] at hx
  rcases hx with rfl | rfl
  · exact rot_good hw hk
  · exact inv_good (rot_good hw hk)
theorem prs_flen (w : List Int) : (prs w).flatten.length = 2 * w.length := by
  have : ∀ l : List Nat, (l.map fun k => [rotW w k, inv (rotW w k)]).flatten.length = 2 * l.length := fun l => by
    induction l with
    | nil => rfl
    | cons a l ih => simp only [List.map_cons, List.flatten_cons, List.length_append, ih, List.length_cons, List.length_nil]; omega
  unfold prs
  rw [this, List.length_range]
theorem L_spec_Sym1 (r : Int) (ws : List (List Int)) (hp : F_IsPres (r, ws) = true) (hs : wordsShort ws) (hg : ∀ w ∈ ws, good w) (hn : ws.length ≤ 140737488355328) : ∀ (d k fuel : Nat) (u : List (List Int)), k + d = ws.length → d < fuel → (∀ x ∈ u, good x) → u.length + 2 * totL (ws.drop k) ≤ 1048576 →
    L_spec_SymmetrizedSet_1 ws r fuel u (k : Int) = some (putAll F_CompareWords u (allS (ws.drop k)))
  | d, k, 0, u, hd, hf, hu, hl => by omega
  | 0, k, fuel + 1, u, hd, hf, hu, hl => by
    have e : decide ((k : Int) < (ws.length : Int)) = false := by simp; omega
    rw [L_spec_SymmetrizedSet_1_succ, e, chk_false, Option.bind_some, if_neg (by simp), drop_done (by omega)]
    rfl
  | d + 1, k, fuel + 1, u, hd, hf, hu, hl => by
    have hk : k < ws.length := by omega
    have hx := getk hk
    have hxg := hg _ (List.getElem_mem hk)
    generalize ws[k] = x at hx hxg
    have e : decide ((k : Int) < (ws.length : Int)) = true := by simp; omega
    rw [drop_get hx] at hl ⊢
    simp only [totL] at hl
    have hfl := prs_flen x
    have hl1 := putAll_len (prs x).flatten u
    have h0 := L_spec_Sym0 x hxg x.length 0 FUEL u (by omega) (FUEL_big (by have := hxg.2; omega)) hu (by omega)
    rw [show ((0 : Nat) : Int) = 0 from rfl, List.drop_zero] at h0
    rw [L_spec_SymmetrizedSet_1_succ, e, chk_true, m_specIsPresentation (r, ws) hn hs, Option.bind_some, hp, if_pos (show (bif true then true else false) = true from rfl), gi_at hx, Option.bind_some, h0, Option.bind_some, wsucc hk (by omega),
      L_spec_Sym1 r ws hp hs hg hn d (k + 1) fuel _ (by omega) (by omega) (putAll_good _ _ (prs_good hxg) hu) (by omega)]
    simp only [allS, putAll_app]
theorem rot_inv {w : List Int} {k : Nat} (hk : k < w.length) : ∃ k', k' < w.length ∧ inv (rotW w k) = rotW (inv w) k' := by
  have h : inv w = inv (w.drop k) ++ inv (w.take k) := by rw [← inv_app, List.take_append_drop]
  rcases Nat.eq_zero_or_pos k with rfl | hp
  · refine ⟨0, hk, ?_⟩
    simp [rotW, inv]
  · refine ⟨w.length - k, by omega, ?_⟩
    have hd : (inv (w.drop k)).length = w.length - k := by rw [inv_len, List.length_drop]
    unfold rotW
    rw [inv_app, h, List.drop_left' hd, List.take_left' hd]
theorem inv_inv {w : List Int} (h : all64 w) : inv (inv w) = w.map fun x => ng (ng x) := by simp [inv]
theorem rot_mem (w : List Int) (x : List Int) : x ∈ rots w ↔ ∃ k, k < w.length ∧ x = rotW w k := by
  simp only [rots, List.mem_map, List.mem_range]
  constructor
  · rintro ⟨k, h, rfl⟩; exact ⟨k, h, rfl⟩
  · rintro ⟨k, h, rfl⟩; exact ⟨k, h, rfl⟩
theorem prs_mem (w : List Int) (x : List Int) : x ∈ (prs w).flatten ↔ ∃ k, k < w.length ∧ (x = rotW w k ∨ x = inv (rotW w k)) := by
  simp only [prs, List.mem_flatten, List.mem_map, List.mem_range]
  constructor
  · rintro ⟨l, ⟨k, h, rfl⟩, hx⟩
    simp only [List.mem_cons, List.mem_nil_iff, or_false] at hx
    exact ⟨k, h, hx⟩
  · rintro ⟨k, h, hx⟩
    exact ⟨_, ⟨k, h, rfl⟩, by simpa using hx⟩
theorem inv_rot {w : List Int} {k : Nat} (hk : k < w.length) : ∃ k', k' < w.length ∧ rotW (inv w) k = inv (rotW w k') := by
  rcases Nat.eq_zero_or_pos k with rfl | hp
  · refine ⟨0, hk, ?_⟩
    simp [rotW, inv]
  · refine ⟨w.length - k, by omega, ?_⟩
    have h : inv w = inv (w.drop (w.length - k)) ++ inv (w.take (w.length - k)) := by rw [← inv_app, List.take_append_drop]
    have hd : (inv (w.drop (w.length - k))).length = k := by rw [inv_len, List.length_drop]; omega
    unfold rotW
    rw [inv_app, h, List.drop_left' hd, List.take_left' hd]
theorem same_mem (x : List Int) : ∀ ws : List (List Int), x ∈ allR ws ↔ x ∈ allS ws
  | [] => Iff.rfl
  | w :: l => by
    have ih := same_mem x l
    simp only [allR, allS, List.mem_append, ih, prs_mem, rot_mem, inv_len]
    refine or_congr ⟨?_, ?_⟩ Iff.rfl
    · rintro (⟨k, h, rfl⟩ | ⟨k, h, rfl⟩)
      · exact ⟨k, h, .inl rfl⟩
      · obtain ⟨k', h', e⟩ := inv_rot h
        exact ⟨k', h', .inr e⟩
    · rintro ⟨k, h, rfl | rfl⟩
      · exact .inl ⟨k, h, rfl⟩
      · obtain ⟨k', h', e⟩ := rot_inv h
        exact .inr ⟨k', h', e⟩
theorem eqW_iff (x y : List Int) : eqW x y = true ↔ x = y := by simp [eqW]
theorem m_specSymmetrizedSet (p : LPresentation) (hl : p.2.length ≤ 140737488355328) (hs : wordsShort p.2) : M_spec_SymmetrizedSet p = some (F_SymmetrizedSet p) := by
  obtain ⟨r, ws⟩ := p
  unfold M_spec_SymmetrizedSet F_SymmetrizedSet
  cases hp : F_IsPres (r, ws) with
  | false =>
    have h1 : L_spec_SymmetrizedSet_1 ws r FUEL [] 0 = some [] := by
      rw [show FUEL = (FUEL - 1) + 1 from rfl, L_spec_SymmetrizedSet_1_succ]
      by_cases e : decide ((0 : Int) < (ws.length : Int)) = true
      · rw [e, chk_true, m_specIsPresentation (r, ws) hl hs, Option.bind_some, hp, if_neg (by simp)]
      · rw [Bool.not_eq_true] at e
        rw [e, chk_false, Option.bind_some, if_neg (by simp)]
    simp only [h1, Option.bind_some]
    rfl
  | true =>
    obtain ⟨h1, h2, h3⟩ := pres_all hp
    simp only at h1 h2 h3
    have h := L_spec_Sym1 r ws hp hs (fun w hw => ⟨(h1 w hw).1, by have := (h1 w hw).2; omega⟩) hl ws.length 0 FUEL [] (by omega) (FUEL_big (by omega)) (by simp) (by simp only [List.drop_zero, List.length_nil]; omega)
    rw [show ((0 : Nat) : Int) = 0 from rfl, List.drop_zero] at h
    simp only [h, Option.bind_some, cond_true, uniqL_eq cmpW_lin eqW_iff _ _ fun x => same_mem x ws]
theorem sym_good (p : LPresentation) : (∀ w ∈ F_SymmetrizedSet p, all64 w ∧ w.length ≤ 24) ∧ (F_SymmetrizedSet p).length ≤ 288 := by
  unfold F_SymmetrizedSet
  cases hp : F_IsPres p with
  | false => simp
  | true =>
    obtain ⟨h1, h2, h3⟩ := pres_all hp
    simp only [cond_true]
    constructor
    · intro w hw
      rw [uniqL_mem eqW_iff] at hw
      have : ∀ ws : List (List Int), (∀ u ∈ ws, all64 u ∧ u.length ≤ 24) → w ∈ allR ws → all64 w ∧ w.length ≤ 24 := fun ws => by
        induction ws with
        | nil => intro _ h; cases h
        | cons u l ih =>
          intro hu h
          have hu0 := hu u (List.mem_cons_self ..)
          simp only [allR, List.mem_append, rot_mem] at h
          rcases h with (⟨k, hk, rfl⟩ | ⟨k, hk, rfl⟩) | h
          · exact ⟨(rot_good ⟨hu0.1, by omega⟩ hk).1, by rw [rotW_len _ (by omega)]; exact hu0.2⟩
          · have hil := inv_len u
            exact ⟨(rot_good ⟨inv_64 u, by omega⟩ hk).1, by rw [rotW_len _ (by omega)]; omega⟩
          · exact ih (fun x hx => hu x (List.mem_cons_of_mem _ hx)) h
      exact this _ h1 hw
    · have e := allR_len p.2
      have h4 : (uniqL F_CompareWords eqW (allR p.2)).length ≤ (allR p.2).length := by
        unfold uniqL
        have h5 : (compL eqW (srtL F_CompareWords (allR p.2))).length ≤ (srtL F_CompareWords (allR p.2)).length := by
          cases srtL F_CompareWords (allR p.2) with
          | nil => simp [compL]
          | cons x m => simp only [compL, List.length_cons]; have := (compGo_sub eqW m x).length_le; omega
        have h6 := (srtL_perm F_CompareWords (allR p.2)).length_eq
        omega
      omega
end Go.Proofs.Ythccjgkmmclplaa
