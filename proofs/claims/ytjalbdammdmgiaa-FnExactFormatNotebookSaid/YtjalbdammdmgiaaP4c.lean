/- Plain laws: claims and notebooks in text. -/
import Derived.Test.YtjalbdammdmgiaaP4b
namespace Go.Proofs.Ytjalbdammdmgiaa
open Go.H
set_option linter.unusedVariables false
set_option linter.unusedSimpArgs false
set_option maxRecDepth 10000

theorem m_specFormatClaim (c : LClaim) (hf : ClaimFit c) : M_spec_FormatClaim c = some (F_claim c) := by
  obtain ⟨a, r, ws, w, ks, g, n⟩ := c
  obtain ⟨⟨f1, f2⟩, f3, ⟨f4, f5⟩, f6, f7, f8⟩ := hf
  obtain ⟨gr, gn, es⟩ := g
  simp only at f1 f2 f3 f4 f5 f6 f7 f8
  unfold M_spec_FormatClaim
  have hG := m_specFormatGraph (gr, gn, es) f6
  simp only [hG, m_specClaimWord, Option.bind_some, m_specAreWords r ws f1 f2, m_specIsWord r w f3]
  have lc := cwL_len a
  have lr := fI_len r
  have ln := fI_len n
  have lk := indL_len ks
  rw [grd_true (by rw [bsize]; omega), Option.bind_some]
  unfold F_claim claimOK F_graph
  simp only
  cases hcw : (cwL a).isEmpty with
  | true =>
    have hg : (bif F_IsGraph (gr, gn, es) then B (graphT (gr, gn, es)) else B []).size ≤ 9223372036854775807 := by
      cases h : F_IsGraph (gr, gn, es) with
      | false => show 0 ≤ _; omega
      | true => have := graphT_len h; rw [cond_true, bsize]; omega
    rw [grd_true hg]
    simp only [seqB_nil, hcw, Bool.not_true, chk_false, Option.bind_some, cond_true, Bool.false_and, cond_false, if_true]
  | false =>
  cases hws : F_AreWords r ws with
  | false =>
    have hg : (bif F_IsGraph (gr, gn, es) then B (graphT (gr, gn, es)) else B []).size ≤ 9223372036854775807 := by
      cases h : F_IsGraph (gr, gn, es) with
      | false => show 0 ≤ _; omega
      | true => have := graphT_len h; rw [cond_true, bsize]; omega
    rw [grd_true hg]
    simp only [seqB_nil, hcw, Bool.not_true, Bool.not_false, chk_true, chk_false, Option.bind_some, cond_true, Bool.false_and, Bool.and_false, cond_false, if_true]
  | true =>
  cases hw : F_IsWord r w with
  | false =>
    have hg : (bif F_IsGraph (gr, gn, es) then B (graphT (gr, gn, es)) else B []).size ≤ 9223372036854775807 := by
      cases h : F_IsGraph (gr, gn, es) with
      | false => show 0 ≤ _; omega
      | true => have := graphT_len h; rw [cond_true, bsize]; omega
    rw [grd_true hg]
    simp only [seqB_nil, hcw, Bool.not_true, Bool.not_false, chk_true, chk_false, Option.bind_some, cond_true, Bool.false_and, Bool.and_false, Bool.and_true, cond_false, if_true]
  | true =>
  cases hg : F_IsGraph (gr, gn, es) with
  | false =>
    rw [grd_true (by show 0 ≤ _; omega)]
    simp only [seqB_nil, hcw, Bool.not_true, Bool.not_false, chk_true, chk_false, Option.bind_some, cond_true, Bool.false_and, Bool.and_false, Bool.and_true, cond_false, List.isEmpty_nil, if_true]
  | true =>
  obtain ⟨e1, e2⟩ := F_words_L hws
  obtain ⟨e3, e4⟩ := F_word_L hw
  have lg := graphT_len hg
  have lws := wordsL_len e2
  have lw := wl_len w
  have tg := graphT_ne (gr, gn, es)
  rw [grd_true (by rw [cond_true, bsize]; omega)]
  simp only [seqB_nil, hcw, tg, Bool.not_true, Bool.not_false, chk_true, chk_false, Option.bind_some, cond_true, Bool.false_and, Bool.and_false, Bool.and_true, cond_false, Bool.false_eq_true, if_false]
  simp only [m_specFormatInt r f7, m_specFormatInt n f8, m_specFormatWords ws (by omega), m_specFormatWord w (by omega), m_specFormatIndices ks f4 f5, e1, e3, fmtI_B, F_indices_B, Option.bind_some, show (⟨#[32]⟩ : ByteArray) = B [32] from rfl,
    show (⟨#[32, 98, 121, 32]⟩ : ByteArray) = B [32, 98, 121, 32] from rfl, show (⟨#[32, 97, 110, 100, 32]⟩ : ByteArray) = B [32, 97, 110, 100, 32] from rfl, bcat, bsize]
  iterate 20 (first | rw [grd_true (by (try simp only [List.length_append, List.length_cons, List.length_nil]); omega), Option.bind_some] | skip)
  refine congrArg some (congrArg B ?_)
  simp [claimT, joinB, tailB]
theorem m_implFormatClaim (c : LClaim) (hf : ClaimFit c) : M_impl_FormatClaim c = some (F_claim c) := by
  obtain ⟨a, r, ws, w, ks, g, n⟩ := c
  obtain ⟨⟨f1, f2⟩, f3, ⟨f4, f5⟩, f6, f7, f8⟩ := hf
  obtain ⟨gr, gn, es⟩ := g
  simp only at f1 f2 f3 f4 f5 f6 f7 f8
  unfold M_impl_FormatClaim
  have hG := m_implFormatGraph (gr, gn, es) f6
  have hI := m_implIsGraph (gr, gn, es) f6
  have lc := cwL_len a
  have lr := fI_len r
  have ln := fI_len n
  have lk := indL_len ks
  have hcs : (grd ((B (cwL a)).size ≤ 9223372036854775807)) = some () := grd_true (by rw [bsize]; omega)
  simp only [m_implClaimWord, Option.bind_some, m_implAreWords r ws f1 f2, m_implIsWord r w f3, hI, hcs]
  unfold F_claim claimOK
  simp only
  cases hcw : (cwL a).isEmpty with
  | true => simp only [seqB_nil, hcw, Bool.not_true, chk_false, Option.bind_some, cond_true, Bool.false_and, cond_false, if_true]
  | false =>
  cases hws : F_AreWords r ws with
  | false => simp only [seqB_nil, hcw, Bool.not_true, Bool.not_false, chk_true, chk_false, Option.bind_some, cond_true, Bool.false_and, Bool.and_false, cond_false, if_true]
  | true =>
  cases hw : F_IsWord r w with
  | false => simp only [seqB_nil, hcw, Bool.not_true, Bool.not_false, chk_true, chk_false, Option.bind_some, cond_true, Bool.false_and, Bool.and_false, Bool.and_true, cond_false, if_true]
  | true =>
  cases hg : F_IsGraph (gr, gn, es) with
  | false => simp only [seqB_nil, hcw, Bool.not_true, Bool.not_false, chk_true, chk_false, Option.bind_some, cond_true, Bool.false_and, Bool.and_false, Bool.and_true, cond_false, if_true]
  | true =>
  obtain ⟨e1, e2⟩ := F_words_L hws
  obtain ⟨e3, e4⟩ := F_word_L hw
  have lg := graphT_len hg
  have lws := wordsL_len e2
  have lw := wl_len w
  simp only [seqB_nil, hcw, Bool.not_true, Bool.not_false, chk_true, chk_false, Option.bind_some, cond_true, Bool.false_and, Bool.and_false, Bool.and_true, cond_false, Bool.false_eq_true, if_false]
  simp only [m_implFormatInt r f7, m_implFormatInt n f8, m_implFormatWords ws (by omega), m_implFormatWord w (by omega), m_implFormatIndices ks f4 f5, hG, F_graph, hg, cond_true, e1, e3, fmtI_B, F_indices_B, Option.bind_some, bsize]
  iterate 7 (first | rw [grd_true (by omega), Option.bind_some] | skip)
  have h := m_glued 32 ⟨#[]⟩ [cwL a, fI r, wordsL ws, wl w, [98, 121], indL ks, [97, 110, 100], graphT (gr, gn, es), [97, 110, 100], fI n] (by simp only [bsz, List.length_cons, List.length_nil]; omega)
  simp only [List.map_cons, List.map_nil] at h
  rw [show (⟨#[32]⟩ : ByteArray) = B [32] from rfl, show (⟨#[98, 121]⟩ : ByteArray) = B [98, 121] from rfl, show (⟨#[97, 110, 100]⟩ : ByteArray) = B [97, 110, 100] from rfl, h, Option.bind_some]
  unfold F_glued
  rw [grd_true (by rw [bsize]; simp only [joinB, tailB, List.length_append, List.length_cons, List.length_nil]; omega)]
  rfl
end Go.Proofs.Ytjalbdammdmgiaa
