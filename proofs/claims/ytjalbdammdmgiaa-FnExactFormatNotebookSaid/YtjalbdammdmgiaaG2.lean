/- What the laws' own helpers do: sizes. -/
import Derived.Test.YtjalbdammdmgiaaG1
namespace Go.Proofs.Ytjalbdammdmgiaa
open Go.H
set_option linter.unusedVariables false
set_option linter.unusedSimpArgs false
set_option maxRecDepth 10000

theorem t_szEdgeS (h : Hp) (a : Option Addr) (n c : Nat) (xs : LEdgeS) (left : Int) (hx : wEdgeS.R h [.slice a n c] xs) (hl : 0 ≤ left ∧ left ≤ 1048576) :
    Tr Try.prog 121 #[.slice a n c, .int .i64 left] h fun v h' => v = .int .i64 (szR left (mEdgeS xs)) ∧ h' = h := by
  obtain ⟨rfl, hn⟩ := Sl.len hx
  have hw : IntKind.i64.wrap (left - (xs.length : Int)) = left - xs.length := w64 (by omega) (by omega)
  refine walk (args := [.slice a xs.length c, .int .i64 left]) (fn := Try.f121) rfl ?_
  refine And.intro (fun hc => ?_) (fun hc => ?_)
  · refine And.intro ?_ rfl
    simp [hw] at hc
    rw [mEdgeS, szR_lt (by omega)]
    rfl
  · refine And.intro ?_ rfl
    simp [hw] at hc
    rw [mEdgeS, szR_ge (by omega)]
    exact congrArg (Value.int .i64) hw

theorem t_szGraph (h : Hp) (cs : List Value) (x : LGraph) (left : Int) (hx : wGraph.R h cs x) (hl : 0 ≤ left ∧ left ≤ 1048576) :
    Tr Try.prog 55 #[.agg cs.toArray, .int .i64 left] h fun v h' => v = .int .i64 (szR left (mGraph x)) ∧ h' = h := by
  obtain ⟨x0, x1, a2, n2, c2, x2, rfl, rfl, h0, h1, h2⟩ := openGraph hx
  refine walk (args := [.agg #[.int .i64 x0, .int .i64 x1, .slice a2 n2 c2], .int .i64 left]) (fn := Try.f55) rfl ?_
  refine Tr.val (t_szEdgeS h a2 n2 c2 x2 (left) h2 hl) ?_
  refine And.intro (fun hc => ?_) (fun hc => ?_)
  · refine And.intro ?_ rfl
    rw [mGraph, szR_more (left := left) (a := ((mEdgeS x2 : Nat) : Int)) (by simpa using hc) hl.1 (by simp only []; omega)]
    rfl
  have q0 : 0 ≤ szR left ((mEdgeS x2 : Nat) : Int) := by simpa using hc
  have hl0 : 0 ≤ szR left ((mEdgeS x2 : Nat) : Int) ∧ szR left ((mEdgeS x2 : Nat) : Int) ≤ 1048576 := by
    have := szR_le q0
    omega
  exact And.intro rfl rfl

theorem t_szIntS (h : Hp) (a : Option Addr) (n c : Nat) (xs : LIntS) (left : Int) (hx : wIntS.R h [.slice a n c] xs) (hl : 0 ≤ left ∧ left ≤ 1048576) :
    Tr Try.prog 79 #[.slice a n c, .int .i64 left] h fun v h' => v = .int .i64 (szR left (mIntS xs)) ∧ h' = h := by
  obtain ⟨rfl, hn⟩ := Sl.len hx
  have hw : IntKind.i64.wrap (left - (xs.length : Int)) = left - xs.length := w64 (by omega) (by omega)
  refine walk (args := [.slice a xs.length c, .int .i64 left]) (fn := Try.f79) rfl ?_
  refine And.intro (fun hc => ?_) (fun hc => ?_)
  · refine And.intro ?_ rfl
    simp [hw] at hc
    rw [mIntS, szR_lt (by omega)]
    rfl
  · refine And.intro ?_ rfl
    simp [hw] at hc
    rw [mIntS, szR_ge (by omega)]
    exact congrArg (Value.int .i64) hw

theorem t_szIntSS (h : Hp) (a : Option Addr) (n c : Nat) (xs : LIntSS) (left : Int) (hx : wIntSS.R h [.slice a n c] xs) (hl : 0 ≤ left ∧ left ≤ 1048576) :
    Tr Try.prog 60 #[.slice a n c, .int .i64 left] h fun v h' => v = .int .i64 (szR left (mIntSS xs)) ∧ h' = h := by
  obtain ⟨rfl, hn⟩ := Sl.len hx
  have hw : IntKind.i64.wrap (left - (xs.length : Int)) = left - xs.length := w64 (by omega) (by omega)
  refine walk (args := [.slice a xs.length c, .int .i64 left]) (fn := Try.f60) rfl ?_
  refine And.intro (fun hc => ?_) (fun hc => ?_)
  · refine And.intro ?_ rfl
    simp [hw] at hc
    rw [mIntSS, szR_lt (by omega)]
    rfl
  simp [hw] at hc
  refine Exists.intro { vars := [1, 5], boxes := [], owns := [] } (Exists.intro (fun vs _ h' => ∃ k : Nat, k ≤ xs.length ∧ 0 ≤ szR left ((xs.length + sumM mIntS (xs.take k) : Nat) : Int) ∧ vs = [.int .i64 (szR left ((xs.length + sumM mIntS (xs.take k) : Nat) : Int)), .int .i64 k] ∧ h' = h) (Exists.intro (fun vs _ => match vs with | [_, .int _ j] => ((xs.length : Int) - j).toNat | _ => 0) ?_))
  have h0 : szR left ((xs.length + sumM mIntS (xs.take 0) : Nat) : Int) = left - xs.length := by rw [szR_ge (by simp [sumM]; omega)]; simp [sumM]
  refine And.intro ⟨0, by omega, by omega, by rw [h0]; exact congrArg (fun x => [Value.int .i64 x, Value.int .i64 0]) hw, rfl⟩ ?_
  rintro _ _ h1 ⟨k, hk, hpos, ⟨⟩, rfl⟩
  obtain ⟨q1, q2⟩ := szR_le hpos
  refine And.intro (fun hc2 => ?_) (fun hc2 => ?_)
  · have hlt : k < xs.length := by simpa using hc2
    obtain ⟨x, hgx⟩ := has_get hlt
    obtain ⟨b1, cs1, e1, i1⟩ := Sl.get hx hgx (by decide)
    have hw2 := wsucc hlt hn
    obtain ⟨a1, n1, c1, rfl⟩ := Wp.slice_cell i1
    refine And.intro b1 (Exists.intro _ (And.intro e1 ?_))
    refine Tr.val (t_szIntS _ a1 n1 c1 x _ i1 ⟨by omega, by omega⟩) ?_
    have hstep : szR (szR left ((xs.length + sumM mIntS (xs.take k) : Nat) : Int)) (mIntS x : Nat) = szR left ((xs.length + sumM mIntS (xs.take (k + 1)) : Nat) : Int) := by
      rw [szR_szR hpos (by omega) (by omega), sumM_snoc hgx]
      congr 1
      omega
    refine And.intro (fun hc3 => ?_) (fun hc3 => ?_)
    · refine And.intro ?_ rfl
      rw [hstep] at hc3
      have hneg2 : szR left ((xs.length + sumM mIntS (xs.take (k + 1)) : Nat) : Int) < 0 := by simpa using hc3
      have := sumM_take mIntS xs (k + 1)
      rw [mIntSS, szR_more hneg2 hl.1 (by omega)]
      rfl
    · rw [hstep] at hc3
      have hpos2 : 0 ≤ szR left ((xs.length + sumM mIntS (xs.take (k + 1)) : Nat) : Int) := by simpa using hc3
      refine And.intro rfl (And.intro (by first | exact trivial | exact And.intro rfl trivial | exact And.intro rfl (And.intro rfl trivial) | exact And.intro rfl (And.intro rfl (And.intro rfl trivial)) | exact And.intro rfl (And.intro rfl (And.intro rfl (And.intro rfl trivial)))) (And.intro (by first | exact trivial | exact And.intro rfl trivial | exact And.intro rfl (And.intro rfl trivial) | exact And.intro rfl (And.intro rfl (And.intro rfl trivial)) | exact And.intro rfl (And.intro rfl (And.intro rfl (And.intro rfl trivial)))) (And.intro ?_ ?_)))
      · refine ⟨k + 1, by omega, hpos2, ?_, rfl⟩
        rw [← hw2, ← hstep]
      · show ((xs.length : Int) - IntKind.i64.wrap ((k : Int) + 1)).toNat < ((xs.length : Int) - (k : Int)).toNat
        omega
  · have hk : k = xs.length := by simp at hc2; omega
    subst hk
    refine And.intro ?_ rfl
    rw [List.take_length]
    rfl

theorem t_szPresentation (h : Hp) (cs : List Value) (x : LPresentation) (left : Int) (hx : wPresentation.R h cs x) (hl : 0 ≤ left ∧ left ≤ 1048576) :
    Tr Try.prog 14 #[.agg cs.toArray, .int .i64 left] h fun v h' => v = .int .i64 (szR left (mPresentation x)) ∧ h' = h := by
  obtain ⟨x0, a1, n1, c1, x1, rfl, rfl, h0, h1⟩ := openPresentation hx
  refine walk (args := [.agg #[.int .i64 x0, .slice a1 n1 c1], .int .i64 left]) (fn := Try.f14) rfl ?_
  refine Tr.val (t_szIntSS h a1 n1 c1 x1 (left) h1 hl) ?_
  refine And.intro (fun hc => ?_) (fun hc => ?_)
  · refine And.intro ?_ rfl
    rw [mPresentation, szR_more (left := left) (a := ((mIntSS x1 : Nat) : Int)) (by simpa using hc) hl.1 (by simp only []; omega)]
    rfl
  have q0 : 0 ≤ szR left ((mIntSS x1 : Nat) : Int) := by simpa using hc
  have hl0 : 0 ≤ szR left ((mIntSS x1 : Nat) : Int) ∧ szR left ((mIntSS x1 : Nat) : Int) ≤ 1048576 := by
    have := szR_le q0
    omega
  exact And.intro rfl rfl

theorem t_szTerm (h : Hp) (cs : List Value) (x : LTerm) (left : Int) (hx : wTerm.R h cs x) (hl : 0 ≤ left ∧ left ≤ 1048576) :
    Tr Try.prog 68 #[.agg cs.toArray, .int .i64 left] h fun v h' => v = .int .i64 (szR left (mTerm x)) ∧ h' = h := by
  obtain ⟨a0, n0, c0, x0, x1, x2, rfl, rfl, h0, h1, h2⟩ := openTerm hx
  refine walk (args := [.agg #[.slice a0 n0 c0, .int .i64 x1, .int .i64 x2], .int .i64 left]) (fn := Try.f68) rfl ?_
  refine Tr.val (t_szIntS h a0 n0 c0 x0 (left) h0 hl) ?_
  refine And.intro (fun hc => ?_) (fun hc => ?_)
  · refine And.intro ?_ rfl
    rw [mTerm, szR_more (left := left) (a := ((mIntS x0 : Nat) : Int)) (by simpa using hc) hl.1 (by simp only []; omega)]
    rfl
  have q0 : 0 ≤ szR left ((mIntS x0 : Nat) : Int) := by simpa using hc
  have hl0 : 0 ≤ szR left ((mIntS x0 : Nat) : Int) ∧ szR left ((mIntS x0 : Nat) : Int) ≤ 1048576 := by
    have := szR_le q0
    omega
  exact And.intro rfl rfl

theorem t_szClaim (h : Hp) (cs : List Value) (x : LClaim) (left : Int) (hx : wClaim.R h cs x) (hl : 0 ≤ left ∧ left ≤ 1048576) :
    Tr Try.prog 29 #[.agg cs.toArray, .int .i64 left] h fun v h' => v = .int .i64 (szR left (mClaim x)) ∧ h' = h := by
  obtain ⟨x0, x1, a2, n2, c2, x2, a3, n3, c3, x3, a4, n4, c4, x4, x5_0, x5_1, a5_2, n5_2, c5_2, x5_2, x6, rfl, rfl, h0, h1, h2, h3, h4, h5_0, h5_1, h5_2, h6⟩ := openClaim hx
  refine walk (args := [.agg #[.int .i64 x0, .int .i64 x1, .slice a2 n2 c2, .slice a3 n3 c3, .slice a4 n4 c4, .int .i64 x5_0, .int .i64 x5_1, .slice a5_2 n5_2 c5_2, .int .i64 x6], .int .i64 left]) (fn := Try.f29) rfl ?_
  refine Tr.val (t_szIntSS h a2 n2 c2 x2 (left) h2 hl) ?_
  refine And.intro (fun hc => ?_) (fun hc => ?_)
  · refine And.intro ?_ rfl
    rw [mClaim, szR_more (left := left) (a := ((mIntSS x2 : Nat) : Int)) (by simpa using hc) hl.1 (by simp only []; omega)]
    rfl
  have q0 : 0 ≤ szR left ((mIntSS x2 : Nat) : Int) := by simpa using hc
  have hl0 : 0 ≤ szR left ((mIntSS x2 : Nat) : Int) ∧ szR left ((mIntSS x2 : Nat) : Int) ≤ 1048576 := by
    have := szR_le q0
    omega
  refine Tr.val (t_szIntS h a3 n3 c3 x3 (szR left ((mIntSS x2 : Nat) : Int)) h3 hl0) ?_
  refine And.intro (fun hc => ?_) (fun hc => ?_)
  · refine And.intro ?_ rfl
    have hc' : szR (szR left ((mIntSS x2 : Nat) : Int)) ((mIntS x3 : Nat) : Int) < 0 := by simpa using hc
    rw [ szR_szR q0 (by omega) (by omega)] at hc'
    rw [mClaim, szR_more hc' hl.1 (by simp only []; omega)]
    rfl
  have hc' : 0 ≤ szR (szR left ((mIntSS x2 : Nat) : Int)) ((mIntS x3 : Nat) : Int) := by simpa using hc
  have st1 : szR left ((mIntSS x2 + mIntS x3 : Nat) : Int) = szR (szR left ((mIntSS x2 : Nat) : Int)) ((mIntS x3 : Nat) : Int) := by rw [ szR_szR q0 (by omega) (by omega)]; congr 1
  have q1 : 0 ≤ szR left ((mIntSS x2 + mIntS x3 : Nat) : Int) := by rw [st1]; exact hc'
  clear hc'
  have hl1 : 0 ≤ szR (szR left ((mIntSS x2 : Nat) : Int)) ((mIntS x3 : Nat) : Int) ∧ szR (szR left ((mIntSS x2 : Nat) : Int)) ((mIntS x3 : Nat) : Int) ≤ 1048576 := by
    rw [← st1]
    have := szR_le q1
    omega
  refine Tr.val (t_szIntS h a4 n4 c4 x4 (szR (szR left ((mIntSS x2 : Nat) : Int)) ((mIntS x3 : Nat) : Int)) h4 hl1) ?_
  refine And.intro (fun hc => ?_) (fun hc => ?_)
  · refine And.intro ?_ rfl
    have hc' : szR (szR (szR left ((mIntSS x2 : Nat) : Int)) ((mIntS x3 : Nat) : Int)) ((mIntS x4 : Nat) : Int) < 0 := by simpa using hc
    rw [← st1, szR_szR q1 (by omega) (by omega)] at hc'
    rw [mClaim, szR_more hc' hl.1 (by simp only []; omega)]
    rfl
  have hc' : 0 ≤ szR (szR (szR left ((mIntSS x2 : Nat) : Int)) ((mIntS x3 : Nat) : Int)) ((mIntS x4 : Nat) : Int) := by simpa using hc
  have st2 : szR left ((mIntSS x2 + mIntS x3 + mIntS x4 : Nat) : Int) = szR (szR (szR left ((mIntSS x2 : Nat) : Int)) ((mIntS x3 : Nat) : Int)) ((mIntS x4 : Nat) : Int) := by rw [← st1, szR_szR q1 (by omega) (by omega)]; congr 1
  have q2 : 0 ≤ szR left ((mIntSS x2 + mIntS x3 + mIntS x4 : Nat) : Int) := by rw [st2]; exact hc'
  clear hc'
  have hl2 : 0 ≤ szR (szR (szR left ((mIntSS x2 : Nat) : Int)) ((mIntS x3 : Nat) : Int)) ((mIntS x4 : Nat) : Int) ∧ szR (szR (szR left ((mIntSS x2 : Nat) : Int)) ((mIntS x3 : Nat) : Int)) ((mIntS x4 : Nat) : Int) ≤ 1048576 := by
    rw [← st2]
    have := szR_le q2
    omega
  refine Tr.val (t_szGraph h [.int .i64 x5_0, .int .i64 x5_1, .slice a5_2 n5_2 c5_2] (x5_0, x5_1, x5_2) (szR (szR (szR left ((mIntSS x2 : Nat) : Int)) ((mIntS x3 : Nat) : Int)) ((mIntS x4 : Nat) : Int)) (closeGraph h5_0 h5_1 h5_2) hl2) ?_
  refine And.intro (fun hc => ?_) (fun hc => ?_)
  · refine And.intro ?_ rfl
    have hc' : szR (szR (szR (szR left ((mIntSS x2 : Nat) : Int)) ((mIntS x3 : Nat) : Int)) ((mIntS x4 : Nat) : Int)) ((mGraph (x5_0, x5_1, x5_2) : Nat) : Int) < 0 := by simpa using hc
    rw [← st2, szR_szR q2 (by omega) (by omega)] at hc'
    rw [mClaim, szR_more hc' hl.1 (by simp only []; omega)]
    rfl
  have hc' : 0 ≤ szR (szR (szR (szR left ((mIntSS x2 : Nat) : Int)) ((mIntS x3 : Nat) : Int)) ((mIntS x4 : Nat) : Int)) ((mGraph (x5_0, x5_1, x5_2) : Nat) : Int) := by simpa using hc
  have st3 : szR left ((mIntSS x2 + mIntS x3 + mIntS x4 + mGraph (x5_0, x5_1, x5_2) : Nat) : Int) = szR (szR (szR (szR left ((mIntSS x2 : Nat) : Int)) ((mIntS x3 : Nat) : Int)) ((mIntS x4 : Nat) : Int)) ((mGraph (x5_0, x5_1, x5_2) : Nat) : Int) := by rw [← st2, szR_szR q2 (by omega) (by omega)]; congr 1
  have q3 : 0 ≤ szR left ((mIntSS x2 + mIntS x3 + mIntS x4 + mGraph (x5_0, x5_1, x5_2) : Nat) : Int) := by rw [st3]; exact hc'
  clear hc'
  have hl3 : 0 ≤ szR (szR (szR (szR left ((mIntSS x2 : Nat) : Int)) ((mIntS x3 : Nat) : Int)) ((mIntS x4 : Nat) : Int)) ((mGraph (x5_0, x5_1, x5_2) : Nat) : Int) ∧ szR (szR (szR (szR left ((mIntSS x2 : Nat) : Int)) ((mIntS x3 : Nat) : Int)) ((mIntS x4 : Nat) : Int)) ((mGraph (x5_0, x5_1, x5_2) : Nat) : Int) ≤ 1048576 := by
    rw [← st3]
    have := szR_le q3
    omega
  exact And.intro (congrArg (Value.int .i64) (st3.symm.trans (by rw [mClaim]))) rfl

theorem t_szClaimS (h : Hp) (a : Option Addr) (n c : Nat) (xs : LClaimS) (left : Int) (hx : wClaimS.R h [.slice a n c] xs) (hl : 0 ≤ left ∧ left ≤ 1048576) :
    Tr Try.prog 94 #[.slice a n c, .int .i64 left] h fun v h' => v = .int .i64 (szR left (mClaimS xs)) ∧ h' = h := by
  obtain ⟨rfl, hn⟩ := Sl.len hx
  have hw : IntKind.i64.wrap (left - (xs.length : Int)) = left - xs.length := w64 (by omega) (by omega)
  refine walk (args := [.slice a xs.length c, .int .i64 left]) (fn := Try.f94) rfl ?_
  refine And.intro (fun hc => ?_) (fun hc => ?_)
  · refine And.intro ?_ rfl
    simp [hw] at hc
    rw [mClaimS, szR_lt (by omega)]
    rfl
  simp [hw] at hc
  refine Exists.intro { vars := [1, 5], boxes := [], owns := [] } (Exists.intro (fun vs _ h' => ∃ k : Nat, k ≤ xs.length ∧ 0 ≤ szR left ((xs.length + sumM mClaim (xs.take k) : Nat) : Int) ∧ vs = [.int .i64 (szR left ((xs.length + sumM mClaim (xs.take k) : Nat) : Int)), .int .i64 k] ∧ h' = h) (Exists.intro (fun vs _ => match vs with | [_, .int _ j] => ((xs.length : Int) - j).toNat | _ => 0) ?_))
  have h0 : szR left ((xs.length + sumM mClaim (xs.take 0) : Nat) : Int) = left - xs.length := by rw [szR_ge (by simp [sumM]; omega)]; simp [sumM]
  refine And.intro ⟨0, by omega, by omega, by rw [h0]; exact congrArg (fun x => [Value.int .i64 x, Value.int .i64 0]) hw, rfl⟩ ?_
  rintro _ _ h1 ⟨k, hk, hpos, ⟨⟩, rfl⟩
  obtain ⟨q1, q2⟩ := szR_le hpos
  refine And.intro (fun hc2 => ?_) (fun hc2 => ?_)
  · have hlt : k < xs.length := by simpa using hc2
    obtain ⟨x, hgx⟩ := has_get hlt
    obtain ⟨b1, cs1, e1, i1⟩ := Sl.get hx hgx (by decide)
    have hw2 := wsucc hlt hn
    obtain ⟨x0, x1, a2, n2, c2, x2, a3, n3, c3, x3, a4, n4, c4, x4, x5_0, x5_1, a5_2, n5_2, c5_2, x5_2, x6, rfl, rfl, g0, g1, g2, g3, g4, g5_0, g5_1, g5_2, g6⟩ := openClaim i1
    refine And.intro b1 (Exists.intro _ (And.intro e1 ?_))
    refine Tr.val (t_szClaim _ [.int .i64 x0, .int .i64 x1, .slice a2 n2 c2, .slice a3 n3 c3, .slice a4 n4 c4, .int .i64 x5_0, .int .i64 x5_1, .slice a5_2 n5_2 c5_2, .int .i64 x6] (x0, x1, x2, x3, x4, (x5_0, x5_1, x5_2), x6) _ (closeClaim g0 g1 g2 g3 g4 g5_0 g5_1 g5_2 g6) ⟨by omega, by omega⟩) ?_
    have hstep : szR (szR left ((xs.length + sumM mClaim (xs.take k) : Nat) : Int)) (mClaim (x0, x1, x2, x3, x4, (x5_0, x5_1, x5_2), x6) : Nat) = szR left ((xs.length + sumM mClaim (xs.take (k + 1)) : Nat) : Int) := by
      rw [szR_szR hpos (by omega) (by omega), sumM_snoc hgx]
      congr 1
      omega
    refine And.intro (fun hc3 => ?_) (fun hc3 => ?_)
    · refine And.intro ?_ rfl
      rw [hstep] at hc3
      have hneg2 : szR left ((xs.length + sumM mClaim (xs.take (k + 1)) : Nat) : Int) < 0 := by simpa using hc3
      have := sumM_take mClaim xs (k + 1)
      rw [mClaimS, szR_more hneg2 hl.1 (by omega)]
      rfl
    · rw [hstep] at hc3
      have hpos2 : 0 ≤ szR left ((xs.length + sumM mClaim (xs.take (k + 1)) : Nat) : Int) := by simpa using hc3
      refine And.intro rfl (And.intro (by first | exact trivial | exact And.intro rfl trivial | exact And.intro rfl (And.intro rfl trivial) | exact And.intro rfl (And.intro rfl (And.intro rfl trivial)) | exact And.intro rfl (And.intro rfl (And.intro rfl (And.intro rfl trivial)))) (And.intro (by first | exact trivial | exact And.intro rfl trivial | exact And.intro rfl (And.intro rfl trivial) | exact And.intro rfl (And.intro rfl (And.intro rfl trivial)) | exact And.intro rfl (And.intro rfl (And.intro rfl (And.intro rfl trivial)))) (And.intro ?_ ?_)))
      · refine ⟨k + 1, by omega, hpos2, ?_, rfl⟩
        rw [← hw2, ← hstep]
      · show ((xs.length : Int) - IntKind.i64.wrap ((k : Int) + 1)).toNat < ((xs.length : Int) - (k : Int)).toNat
        omega
  · have hk : k = xs.length := by simp at hc2; omega
    subst hk
    refine And.intro ?_ rfl
    rw [List.take_length]
    rfl

theorem t_szNotebook (h : Hp) (cs : List Value) (x : LNotebook) (left : Int) (hx : wNotebook.R h cs x) (hl : 0 ≤ left ∧ left ≤ 1048576) :
    Tr Try.prog 34 #[.agg cs.toArray, .int .i64 left] h fun v h' => v = .int .i64 (szR left (mNotebook x)) ∧ h' = h := by
  obtain ⟨x0, a1, n1, c1, x1, rfl, rfl, h0, h1⟩ := openNotebook hx
  refine walk (args := [.agg #[.int .i64 x0, .slice a1 n1 c1], .int .i64 left]) (fn := Try.f34) rfl ?_
  refine Tr.val (t_szClaimS h a1 n1 c1 x1 (left) h1 hl) ?_
  refine And.intro (fun hc => ?_) (fun hc => ?_)
  · refine And.intro ?_ rfl
    rw [mNotebook, szR_more (left := left) (a := ((mClaimS x1 : Nat) : Int)) (by simpa using hc) hl.1 (by simp only []; omega)]
    rfl
  have q0 : 0 ≤ szR left ((mClaimS x1 : Nat) : Int) := by simpa using hc
  have hl0 : 0 ≤ szR left ((mClaimS x1 : Nat) : Int) ∧ szR left ((mClaimS x1 : Nat) : Int) ≤ 1048576 := by
    have := szR_le q0
    omega
  exact And.intro rfl rfl

theorem t_szTermS (h : Hp) (a : Option Addr) (n c : Nat) (xs : LTermS) (left : Int) (hx : wTermS.R h [.slice a n c] xs) (hl : 0 ≤ left ∧ left ≤ 1048576) :
    Tr Try.prog 19 #[.slice a n c, .int .i64 left] h fun v h' => v = .int .i64 (szR left (mTermS xs)) ∧ h' = h := by
  obtain ⟨rfl, hn⟩ := Sl.len hx
  have hw : IntKind.i64.wrap (left - (xs.length : Int)) = left - xs.length := w64 (by omega) (by omega)
  refine walk (args := [.slice a xs.length c, .int .i64 left]) (fn := Try.f19) rfl ?_
  refine And.intro (fun hc => ?_) (fun hc => ?_)
  · refine And.intro ?_ rfl
    simp [hw] at hc
    rw [mTermS, szR_lt (by omega)]
    rfl
  simp [hw] at hc
  refine Exists.intro { vars := [1, 5], boxes := [], owns := [] } (Exists.intro (fun vs _ h' => ∃ k : Nat, k ≤ xs.length ∧ 0 ≤ szR left ((xs.length + sumM mTerm (xs.take k) : Nat) : Int) ∧ vs = [.int .i64 (szR left ((xs.length + sumM mTerm (xs.take k) : Nat) : Int)), .int .i64 k] ∧ h' = h) (Exists.intro (fun vs _ => match vs with | [_, .int _ j] => ((xs.length : Int) - j).toNat | _ => 0) ?_))
  have h0 : szR left ((xs.length + sumM mTerm (xs.take 0) : Nat) : Int) = left - xs.length := by rw [szR_ge (by simp [sumM]; omega)]; simp [sumM]
  refine And.intro ⟨0, by omega, by omega, by rw [h0]; exact congrArg (fun x => [Value.int .i64 x, Value.int .i64 0]) hw, rfl⟩ ?_
  rintro _ _ h1 ⟨k, hk, hpos, ⟨⟩, rfl⟩
  obtain ⟨q1, q2⟩ := szR_le hpos
  refine And.intro (fun hc2 => ?_) (fun hc2 => ?_)
  · have hlt : k < xs.length := by simpa using hc2
    obtain ⟨x, hgx⟩ := has_get hlt
    obtain ⟨b1, cs1, e1, i1⟩ := Sl.get hx hgx (by decide)
    have hw2 := wsucc hlt hn
    obtain ⟨a0, n0, c0, x0, x1, x2, rfl, rfl, g0, g1, g2⟩ := openTerm i1
    refine And.intro b1 (Exists.intro _ (And.intro e1 ?_))
    refine Tr.val (t_szTerm _ [.slice a0 n0 c0, .int .i64 x1, .int .i64 x2] (x0, x1, x2) _ (closeTerm g0 g1 g2) ⟨by omega, by omega⟩) ?_
    have hstep : szR (szR left ((xs.length + sumM mTerm (xs.take k) : Nat) : Int)) (mTerm (x0, x1, x2) : Nat) = szR left ((xs.length + sumM mTerm (xs.take (k + 1)) : Nat) : Int) := by
      rw [szR_szR hpos (by omega) (by omega), sumM_snoc hgx]
      congr 1
      omega
    refine And.intro (fun hc3 => ?_) (fun hc3 => ?_)
    · refine And.intro ?_ rfl
      rw [hstep] at hc3
      have hneg2 : szR left ((xs.length + sumM mTerm (xs.take (k + 1)) : Nat) : Int) < 0 := by simpa using hc3
      have := sumM_take mTerm xs (k + 1)
      rw [mTermS, szR_more hneg2 hl.1 (by omega)]
      rfl
    · rw [hstep] at hc3
      have hpos2 : 0 ≤ szR left ((xs.length + sumM mTerm (xs.take (k + 1)) : Nat) : Int) := by simpa using hc3
      refine And.intro rfl (And.intro (by first | exact trivial | exact And.intro rfl trivial | exact And.intro rfl (And.intro rfl trivial) | exact And.intro rfl (And.intro rfl (And.intro rfl trivial)) | exact And.intro rfl (And.intro rfl (And.intro rfl (And.intro rfl trivial)))) (And.intro (by first | exact trivial | exact And.intro rfl trivial | exact And.intro rfl (And.intro rfl trivial) | exact And.intro rfl (And.intro rfl (And.intro rfl trivial)) | exact And.intro rfl (And.intro rfl (And.intro rfl (And.intro rfl trivial)))) (And.intro ?_ ?_)))
      · refine ⟨k + 1, by omega, hpos2, ?_, rfl⟩
        rw [← hw2, ← hstep]
      · show ((xs.length : Int) - IntKind.i64.wrap ((k : Int) + 1)).toNat < ((xs.length : Int) - (k : Int)).toNat
        omega
  · have hk : k = xs.length := by simp at hc2; omega
    subst hk
    refine And.intro ?_ rfl
    rw [List.take_length]
    rfl

end Go.Proofs.Ytjalbdammdmgiaa
