/- Plain laws: claims in text. -/
import Derived.Test.YtjalbdammdmgiaaP4
namespace Go.Proofs.Ytjalbdammdmgiaa
open Go.H
set_option linter.unusedVariables false
set_option linter.unusedSimpArgs false
set_option maxRecDepth 10000

def all64' (w : List Int) : Prop := ∀ x ∈ w, In64 x
def none4 : ByteArray := ⟨#[110, 111, 110, 101]⟩
def F_indices (ks : List Int) : ByteArray := F_glued 32 none4 (ks.map fI)
def indL : List Int → List UInt8
  | [] => [110, 111, 110, 101]
  | k :: r => joinB 32 ((k :: r).map fI)
theorem F_indices_B (ks : List Int) : F_indices ks = B (indL ks) := by cases ks <;> rfl
theorem bsz_fI : ∀ ks : List Int, bsz (ks.map fI) ≤ 22 * ks.length
  | [] => by simp [bsz]
  | k :: r => by
    have := bsz_fI r
    have := fI_len k
    simp only [List.map_cons, bsz, List.length_cons]
    omega
theorem tail_bsz : ∀ xs : List (List UInt8), (tailB 32 xs).length = bsz xs
  | [] => rfl
  | x :: r => by
    have := tail_bsz r
    simp only [tailB, bsz, List.length_cons, List.length_append]
    omega
theorem indL_len (ks : List Int) : (indL ks).length ≤ 4 + 22 * ks.length := by
  cases ks with
  | nil => simp [indL]
  | cons k r =>
    have h1 := tail_bsz (r.map fI)
    have h2 := bsz_fI r
    have h3 := fI_len k
    simp only [indL, List.map_cons, joinB, List.length_append, List.length_cons]
    omega
theorem indL_ne (ks : List Int) : (indL ks).isEmpty = false := by
  cases ks with
  | nil => rfl
  | cons k r =>
    have := fI_ne k
    simp only [indL, List.map_cons, joinB]
    cases h : fI k with
    | nil => rw [h] at this; cases this
    | cons x t => rfl
theorem L_spec_FormatIndices_eq (ks : List Int) (h64 : all64' ks) (hl : ks.length ≤ 1073741824) : ∀ (d k fuel : Nat) (acc : List UInt8), k + d = ks.length → d < fuel → 0 < k → acc.length ≤ 22 * k →
    L_spec_FormatIndices_0 ks fuel (B acc) (k : Int) = some (B (acc ++ tailB 32 ((ks.drop k).map fI)))
  | d, k, 0, acc, hk, hf, h0, ha => by omega
  | 0, k, fuel + 1, acc, hk, hf, h0, ha => by
    rw [L_spec_FormatIndices_0_succ, if_neg (by simp; omega), drop_done (by omega)]
    simp [tailB]
  | d + 1, k, fuel + 1, acc, hk, hf, h0, ha => by
    have hkl : k < ks.length := by omega
    have hx := getk hkl
    have hx64 := h64 _ (List.mem_of_getElem? hx)
    generalize ks[k] = x at hx hx64
    have hfl := fI_len x
    have next := L_spec_FormatIndices_eq ks h64 hl d (k + 1) fuel (acc ++ [32] ++ fI x) (by omega) (by omega) (by omega) (by simp only [List.length_append, List.length_singleton]; omega)
    rw [drop_get hx, L_spec_FormatIndices_0_succ, if_pos (by simp; omega), if_pos (by simp; omega)]
    simp only [m_specFormatInt x hx64, fmtI_B, show (⟨#[32]⟩ : ByteArray) = B [32] from rfl, bcat, Option.bind_some, bsize, gi_at hx]
    rw [grd_true (by simp only [List.length_singleton]; omega), Option.bind_some, grd_true (by omega), Option.bind_some, grd_true (by simp only [List.length_append, List.length_singleton]; omega), Option.bind_some,
      wsucc hkl (by omega : ks.length ≤ 9223372036854775807), next]
    simp [tailB]
theorem m_specFormatIndices (ks : List Int) (h64 : all64' ks) (hl : ks.length ≤ 1073741824) : M_spec_FormatIndices ks = some (F_indices ks) := by
  unfold M_spec_FormatIndices
  cases ks with
  | nil => rw [show FUEL = (FUEL - 1) + 1 from rfl, L_spec_FormatIndices_0_succ, if_neg (by simp), Option.bind_some, if_pos (seqB_true.2 rfl)]; rfl
  | cons x r =>
    have hx64 := h64 x (List.mem_cons_self ..)
    have hfl := fI_len x
    have next := L_spec_FormatIndices_eq (x :: r) h64 hl r.length 1 (FUEL - 1) (fI x) (by simp only [List.length_cons]; omega) (by simp only [List.length_cons] at hl; unfold FUEL; omega) (by omega) (by omega)
    rw [show FUEL = (FUEL - 1) + 1 from rfl, L_spec_FormatIndices_0_succ, if_pos (by simp), if_neg (by simp), gi_at0 (x := x) rfl]
    simp only [m_specFormatInt x hx64, fmtI_B, show (⟨#[]⟩ : ByteArray) = B [] from rfl, bcat, Option.bind_some, bsize, List.nil_append]
    rw [grd_true (by omega), Option.bind_some, grd_true (by simp only [List.length_nil]; omega), Option.bind_some, show IntKind.i64.wrap (0 + 1) = ((1 : Nat) : Int) by decide, next, Option.bind_some, show (B [] : ByteArray) = ⟨#[]⟩ from rfl, seqB_nil]
    have := indL_ne (x :: r)
    simp only [indL, List.map_cons, joinB] at this
    simp only [List.drop_succ_cons, List.drop_zero]
    rw [this]
    rfl
theorem L_impl_FormatIndices_eq (ks : List Int) (h64 : all64' ks) (hl : ks.length ≤ 1073741824) : ∀ (d k fuel : Nat) (acc : List ByteArray), k + d = ks.length → d < fuel → acc.length = k →
    L_impl_FormatIndices_0 ks fuel (k : Int) acc = some (acc ++ (ks.drop k).map fun x => B (fI x))
  | d, k, 0, acc, hk, hf, ha => by omega
  | 0, k, fuel + 1, acc, hk, hf, ha => by
    rw [L_impl_FormatIndices_0_succ, if_neg (by simp; omega), drop_done (by omega)]
    simp
  | d + 1, k, fuel + 1, acc, hk, hf, ha => by
    have hkl : k < ks.length := by omega
    have hx := getk hkl
    have hx64 := h64 _ (List.mem_of_getElem? hx)
    generalize ks[k] = x at hx hx64
    have hfl := fI_len x
    have next := L_impl_FormatIndices_eq ks h64 hl d (k + 1) fuel (acc ++ [B (fI x)]) (by omega) (by omega) (by simp only [List.length_append, List.length_singleton]; omega)
    rw [drop_get hx, L_impl_FormatIndices_0_succ, if_pos (by simp; omega), gi_at hx, Option.bind_some, m_implFormatInt x hx64, Option.bind_some, fmtI_B,
      grd_true (by rw [bsize]; omega), Option.bind_some, grd_true (by simp only [List.length_singleton]; omega), Option.bind_some, wsucc hkl (by omega : ks.length ≤ 9223372036854775807), next]
    simp
theorem m_implFormatIndices (ks : List Int) (h64 : all64' ks) (hl : ks.length ≤ 1073741824) : M_impl_FormatIndices ks = some (F_indices ks) := by
  unfold M_impl_FormatIndices
  have h := L_impl_FormatIndices_eq ks h64 hl ks.length 0 FUEL [] (by omega) (FUEL_big (by omega)) rfl
  have h2 := bsz_fI ks
  rw [show ((0 : Nat) : Int) = 0 from rfl, List.drop_zero, List.nil_append] at h
  rw [h, Option.bind_some, show (ks.map fun w => B (fI w)) = (ks.map fI).map B by simp, show (⟨#[32]⟩ : ByteArray) = B [32] from rfl, m_glued 32 _ _ (by omega), Option.bind_some,
    show F_glued 32 ⟨#[110, 111, 110, 101]⟩ (ks.map fI) = F_indices ks from rfl, F_indices_B, grd_true (by have := indL_len ks; rw [bsize]; omega)]
  rfl

def cwL (k : Int) : List UInt8 := if k = 1 then [105, 110] else if k = 2 then [111, 117, 116] else if k = 3 then [115, 97, 109, 101] else if k = 4 then [99, 111, 110, 106, 117, 103, 97, 116, 101] else if k = 5 then [102, 114, 101, 101] else if k = 6 then [105, 110, 100, 101, 120] else []
theorem m_specClaimWord (k : Int) : M_spec_ClaimWord k = some (B (cwL k)) := by
  unfold M_spec_ClaimWord
  rw [m_l1In, Option.bind_some]
  cases h : inR 1 6 k with
  | false =>
    have : ¬ (1 ≤ k ∧ k ≤ 6) := by intro ⟨a, b⟩; simp [inR, a, b] at h
    have e : cwL k = [] := by
      unfold cwL
      rw [if_neg (by omega), if_neg (by omega), if_neg (by omega), if_neg (by omega), if_neg (by omega), if_neg (by omega)]
    rw [e]
    rfl
  | true =>
    simp only [inR, Bool.and_eq_true, decide_eq_true_eq] at h
    have : k = 1 ∨ k = 2 ∨ k = 3 ∨ k = 4 ∨ k = 5 ∨ k = 6 := by omega
    rcases this with rfl | rfl | rfl | rfl | rfl | rfl <;> rfl
theorem m_implClaimWord (k : Int) : M_impl_ClaimWord k = some (B (cwL k)) := m_specClaimWord k
theorem cwL_len (k : Int) : (cwL k).length ≤ 9 := by
  unfold cwL
  repeat' split
  all_goals simp
theorem edgesT_len : ∀ es : List LEdge, (edgesT es).length ≤ 44 * es.length
  | [] => by simp [edgesT]
  | e :: r => by
    have := edgesT_len r
    have := fI_len e.1
    have := fI_len e.2.2
    simp only [edgesT, List.length_append, List.length_cons, List.length_nil]
    omega
theorem graphT_len {g : LGraph} (h : F_IsGraph g = true) : (graphT g).length ≤ 6000 := by
  simp only [F_IsGraph, Bool.and_eq_true, decide_eq_true_eq] at h
  have := edgesT_len g.2.2
  have := fI_len g.1
  have := fI_len g.2.1
  simp only [graphT, List.length_append, List.length_singleton]
  omega
theorem graphT_ne (g : LGraph) : (graphT g).isEmpty = false := by
  have := fI_ne g.1
  unfold graphT
  cases h : fI g.1 with
  | nil => rw [h] at this; cases this
  | cons x t => rfl
/-- which claims have a text -/
def claimOK (c : LClaim) : Bool := !(cwL c.1).isEmpty && F_AreWords c.2.1 c.2.2.1 && F_IsWord c.2.1 c.2.2.2.1 && F_IsGraph c.2.2.2.2.2.1
def wordsL (ws : List (List Int)) : List UInt8 := match ws with
  | [] => [110, 111, 110, 101]
  | w :: r => joinB 44 ((w :: r).map wl)
def claimT (c : LClaim) : List UInt8 := joinB 32 [cwL c.1, fI c.2.1, wordsL c.2.2.1, wl c.2.2.2.1, [98, 121], indL c.2.2.2.2.1, [97, 110, 100], graphT c.2.2.2.2.2.1, [97, 110, 100], fI c.2.2.2.2.2.2]
def F_claim (c : LClaim) : ByteArray := bif claimOK c then B (claimT c) else B []
structure ClaimFit (c : LClaim) : Prop where
  ws : c.2.2.1.length ≤ 140737488355328 ∧ wordsShort c.2.2.1
  w : c.2.2.2.1.length ≤ 140737488355328
  ks : all64' c.2.2.2.2.1 ∧ c.2.2.2.2.1.length ≤ 1073741824
  g : c.2.2.2.2.2.1.2.2.length ≤ 140737488355328
  r : In64 c.2.1
  n : In64 c.2.2.2.2.2.2
theorem word_allLet {r : Int} {w : List Int} (h : F_IsWord r w = true) : allLet w = true := by
  have : ∀ v : List Int, (∀ x ∈ v, isLet x = true) → allLet v = true := by
    intro v
    induction v with
    | nil => intro _; rfl
    | cons x t ih =>
      intro hv
      simp only [allLet, Bool.and_eq_true]
      exact ⟨hv x (List.mem_cons_self ..), ih fun y hy => hv y (List.mem_cons_of_mem _ hy)⟩
  refine this w fun x hx => ?_
  obtain ⟨i, hi⟩ := List.getElem?_of_mem hx
  obtain ⟨h1, _, h2, h3, h4⟩ := word_letter h hi
  simp only [isLet, inR, Bool.and_eq_true, Bool.not_eq_true', beq_eq_false_iff_ne, decide_eq_true_eq]
  omega
theorem words_allLets {r : Int} : ∀ {ws : List (List Int)}, allW r ws = true → allLets ws = true
  | [], _ => rfl
  | w :: l, h => by
    simp only [allW, Bool.and_eq_true] at h
    simp only [allLets, Bool.and_eq_true]
    exact ⟨word_allLet h.1, words_allLets h.2⟩
theorem F_words_L {r : Int} {ws : List (List Int)} (h : F_AreWords r ws = true) : F_words ws = B (wordsL ws) ∧ wsz ws ≤ 60 := by
  simp only [F_AreWords, Bool.and_eq_true, decide_eq_true_eq] at h
  refine ⟨?_, by rw [wsz_tot]; omega⟩
  unfold F_words
  rw [words_allLets h.1.2]
  cases ws <;> rfl
theorem F_word_L {r : Int} {w : List Int} (h : F_IsWord r w = true) : F_word w = B (wl w) ∧ w.length ≤ 24 := by
  have h1 := h
  simp only [F_IsWord, Bool.and_eq_true, decide_eq_true_eq] at h1
  exact ⟨by unfold F_word; rw [word_allLet h]; rfl, h1.1.2⟩
theorem wordsL_len {ws : List (List Int)} (h : wsz ws ≤ 60) : (wordsL ws).length ≤ 64 := by
  cases ws with
  | nil => simp [wordsL]
  | cons w r =>
    have h1 := tailB_len r
    have h2 := wl_len w
    simp only [wsz] at h
    simp only [wordsL, List.map_cons, joinB, List.length_append]
    omega
end Go.Proofs.Ytjalbdammdmgiaa
