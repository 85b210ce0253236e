/- Plain laws: notebooks in text. -/
import Derived.Test.YtjalbdammdmgiaaP4c
namespace Go.Proofs.Ytjalbdammdmgiaa
open Go.H
set_option linter.unusedVariables false
set_option linter.unusedSimpArgs false
set_option maxRecDepth 10000

def allOK : List LClaim → Bool
  | [] => true
  | c :: r => claimOK c && allOK r
def nbT : List LClaim → List UInt8
  | [] => []
  | c :: r => claimT c ++ [10] ++ nbT r
def F_notebook (x : LNotebook) : ByteArray := bif allOK x.2 then B (nbT x.2) else B []
theorem claimT_len {c : LClaim} (h : claimOK c = true) : (claimT c).length ≤ 7000 + 22 * c.2.2.2.2.1.length := by
  simp only [claimOK, Bool.and_eq_true] at h
  obtain ⟨e1, e2⟩ := F_words_L h.1.1.2
  obtain ⟨e3, e4⟩ := F_word_L h.1.2
  have lg := graphT_len h.2
  have lws := wordsL_len e2
  have lw := wl_len c.2.2.2.1
  have lc := cwL_len c.1
  have lr := fI_len c.2.1
  have ln := fI_len c.2.2.2.2.2.2
  have lk := indL_len c.2.2.2.2.1
  simp only [claimT, joinB, tailB, List.length_append, List.length_cons, List.length_nil]
  omega
theorem claimT_ne (c : LClaim) : (claimT c).isEmpty = false := by
  simp only [claimT, joinB, tailB]
  cases cwL c.1 <;> rfl
theorem L_spec_FormatNotebook_eq (cs : List LClaim) (hf : ∀ c ∈ cs, ClaimFit c) (hl : cs.length ≤ 1048576) (hk : ∀ c ∈ cs, c.2.2.2.2.1.length ≤ 1048576) : ∀ (d k fuel : Nat) (acc : List UInt8), k + d = cs.length → d < fuel → acc.length ≤ 30000000 * k →
    L_spec_FormatNotebook_0 cs fuel (B acc) (k : Int) = some (bif allOK (cs.drop k) then .inr (B (acc ++ nbT (cs.drop k))) else .inl (B []))
  | d, k, 0, acc, h1, h2, h3 => by omega
  | 0, k, fuel + 1, acc, h1, h2, h3 => by
    rw [L_spec_FormatNotebook_0_succ, if_neg (by simp; omega), drop_done (by omega)]
    simp [allOK, nbT]
  | d + 1, k, fuel + 1, acc, h1, h2, h3 => by
    have hkl : k < cs.length := by omega
    have hx := getk hkl
    have hfx := hf _ (List.mem_of_getElem? hx)
    have hkx := hk _ (List.mem_of_getElem? hx)
    generalize cs[k] = c at hx hfx hkx
    have hm := m_specFormatClaim c hfx
    have hF : (F_claim c).size ≤ 29999999 := by
      unfold F_claim
      cases h : claimOK c with
      | false => show 0 ≤ _; omega
      | true => have := claimT_len h; rw [cond_true, bsize]; omega
    have hnil : seqB (F_claim c) ⟨#[]⟩ = !claimOK c := by
      unfold F_claim
      cases claimOK c with
      | false => rw [cond_false, seqB_nil]; rfl
      | true => rw [cond_true, seqB_nil, claimT_ne]; rfl
    rw [drop_get hx, L_spec_FormatNotebook_0_succ, if_pos (by simp; omega), gi_at hx, Option.bind_some]
    obtain ⟨a0, a1, a2, a3, a4, ⟨a5, a6, a7⟩, a8⟩ := c
    simp only [hm, Option.bind_some, allOK]
    rw [grd_true (by omega), Option.bind_some, hnil]
    cases h : claimOK (a0, a1, a2, a3, a4, (a5, a6, a7), a8) with
    | false => rfl
    | true =>
      have hT := claimT_len h
      simp only at hT hkx
      have next := L_spec_FormatNotebook_eq cs hf hl hk d (k + 1) fuel (acc ++ claimT (a0, a1, a2, a3, a4, (a5, a6, a7), a8) ++ [10]) (by omega) (by omega) (by simp only [List.length_append, List.length_singleton]; omega)
      have hFB : F_claim (a0, a1, a2, a3, a4, (a5, a6, a7), a8) = B (claimT (a0, a1, a2, a3, a4, (a5, a6, a7), a8)) := by unfold F_claim; rw [h]; rfl
      rw [hFB] at hF ⊢
      rw [if_neg (by simp), grd_true (by rw [bsize] at hF ⊢; rw [bsize]; omega), Option.bind_some, bcat, show (⟨#[10]⟩ : ByteArray) = B [10] from rfl, grd_true (by rw [bsize, bsize]; rw [bsize] at hF; simp only [List.length_append, List.length_singleton]; omega), Option.bind_some, bcat,
        wsucc hkl (by omega : cs.length ≤ 9223372036854775807), next]
      simp [nbT]
theorem m_specFormatNotebook (x : LNotebook) (hf : ∀ c ∈ x.2, ClaimFit c) (hl : x.2.length ≤ 1048576) (hk : ∀ c ∈ x.2, c.2.2.2.2.1.length ≤ 1048576) : M_spec_FormatNotebook x = some (F_notebook x) := by
  obtain ⟨v, cs⟩ := x
  unfold M_spec_FormatNotebook F_notebook
  have h := L_spec_FormatNotebook_eq cs hf hl hk cs.length 0 FUEL [] (by omega) (FUEL_big (by simp only at hl; omega)) (by simp)
  rw [show ((0 : Nat) : Int) = 0 from rfl, List.drop_zero, List.nil_append] at h
  simp only [show (⟨#[]⟩ : ByteArray) = B [] from rfl, h, Option.bind_some]
  cases allOK cs <;> rfl
theorem L_impl_FormatNotebook_eq (cs : List LClaim) (hf : ∀ c ∈ cs, ClaimFit c) (hl : cs.length ≤ 1048576) (hk : ∀ c ∈ cs, c.2.2.2.2.1.length ≤ 1048576) : ∀ (d k fuel : Nat) (acc : List UInt8), k + d = cs.length → d < fuel → acc.length ≤ 30000000 * k →
    L_impl_FormatNotebook_0 cs fuel (B acc) (k : Int) = some (bif allOK (cs.drop k) then .inr (B (acc ++ nbT (cs.drop k))) else .inl (B []))
  | d, k, 0, acc, h1, h2, h3 => by omega
  | 0, k, fuel + 1, acc, h1, h2, h3 => by
    rw [L_impl_FormatNotebook_0_succ, if_neg (by simp; omega), drop_done (by omega)]
    simp [allOK, nbT]
  | d + 1, k, fuel + 1, acc, h1, h2, h3 => by
    have hkl : k < cs.length := by omega
    have hx := getk hkl
    have hfx := hf _ (List.mem_of_getElem? hx)
    have hkx := hk _ (List.mem_of_getElem? hx)
    generalize cs[k] = c at hx hfx hkx
    have hm := m_implFormatClaim c hfx
    have hF : (F_claim c).size ≤ 29999999 := by
      unfold F_claim
      cases h : claimOK c with
      | false => show 0 ≤ _; omega
      | true => have := claimT_len h; rw [cond_true, bsize]; omega
    have hnil : seqB (F_claim c) ⟨#[]⟩ = !claimOK c := by
      unfold F_claim
      cases claimOK c with
      | false => rw [cond_false, seqB_nil]; rfl
      | true => rw [cond_true, seqB_nil, claimT_ne]; rfl
    rw [drop_get hx, L_impl_FormatNotebook_0_succ, if_pos (by simp; omega), gi_at hx, Option.bind_some]
    obtain ⟨a0, a1, a2, a3, a4, ⟨a5, a6, a7⟩, a8⟩ := c
    simp only [hm, Option.bind_some, allOK]
    rw [grd_true (by omega), Option.bind_some, hnil]
    cases h : claimOK (a0, a1, a2, a3, a4, (a5, a6, a7), a8) with
    | false => rfl
    | true =>
      have hT := claimT_len h
      simp only at hT hkx
      have next := L_impl_FormatNotebook_eq cs hf hl hk d (k + 1) fuel (acc ++ claimT (a0, a1, a2, a3, a4, (a5, a6, a7), a8) ++ [10]) (by omega) (by omega) (by simp only [List.length_append, List.length_singleton]; omega)
      have hFB : F_claim (a0, a1, a2, a3, a4, (a5, a6, a7), a8) = B (claimT (a0, a1, a2, a3, a4, (a5, a6, a7), a8)) := by unfold F_claim; rw [h]; rfl
      rw [hFB] at hF ⊢
      rw [if_neg (by simp), grd_true (by rw [bsize] at hF ⊢; rw [bsize]; omega), Option.bind_some, bcat, show (⟨#[10]⟩ : ByteArray) = B [10] from rfl, grd_true (by rw [bsize, bsize]; rw [bsize] at hF; simp only [List.length_append, List.length_singleton]; omega), Option.bind_some, bcat,
        wsucc hkl (by omega : cs.length ≤ 9223372036854775807), next]
      simp [nbT]
theorem m_implFormatNotebook (x : LNotebook) (hf : ∀ c ∈ x.2, ClaimFit c) (hl : x.2.length ≤ 1048576) (hk : ∀ c ∈ x.2, c.2.2.2.2.1.length ≤ 1048576) : M_impl_FormatNotebook x = some (F_notebook x) := by
  obtain ⟨v, cs⟩ := x
  unfold M_impl_FormatNotebook F_notebook
  have h := L_impl_FormatNotebook_eq cs hf hl hk cs.length 0 FUEL [] (by omega) (FUEL_big (by simp only at hl; omega)) (by simp)
  rw [show ((0 : Nat) : Int) = 0 from rfl, List.drop_zero, List.nil_append] at h
  simp only [show (⟨#[]⟩ : ByteArray) = B [] from rfl, h, Option.bind_some]
  cases allOK cs <;> rfl
end Go.Proofs.Ytjalbdammdmgiaa
