/- What the laws' own helpers do: copies. -/
import Derived.Test.YtjalbdammdmgiaaG1
namespace Go.Proofs.Ytjalbdammdmgiaa
open Go.H
set_option linter.unusedVariables false
set_option linter.unusedSimpArgs false
set_option maxRecDepth 10000

theorem t_toEdge (h : Hp) (cs : List Value) (x : LEdge) (hx : wEdge.R h cs x) (hl : mEdge x ≤ 1048576) :
    Tr Try.prog 151 #[.agg cs.toArray] h fun v h' => ∃ cs', v = .agg cs'.toArray ∧ New wEdge h h' cs' x := by
  obtain ⟨x0, x1, x2, rfl, rfl, h0, h1, h2⟩ := openEdge hx
  refine walk (args := [.agg #[.int .i64 x0, .int .i64 x1, .int .i64 x2]]) (fn := Try.f151) rfl ?_
  exact Exists.intro _ (And.intro rfl (New.pair (New.int h0) (New.pair (New.int h1) (New.int h2))))

theorem t_toEdgeS (h : Hp) (a : Option Addr) (n c : Nat) (xs : LEdgeS) (hx : wEdgeS.R h [.slice a n c] xs) (hl : mEdgeS xs ≤ 1048576) :
    Tr Try.prog 124 #[.slice a n c] h fun v h' => New wEdgeS h h' [v] xs := by
  obtain ⟨rfl, hn⟩ := Sl.len hx
  have hl0 : xs.length ≤ 1048576 := by simp only [mEdgeS] at hl; omega
  refine walk (args := [.slice a xs.length c]) (fn := Try.f124) rfl ?_
  refine And.intro ?_ ?_
  · show 0 ≤ (xs.length : Int) ∧ (xs.length : Int) ≤ xs.length ∧ (xs.length : Int) * 24 ≤ 140737488355328 ∧ (xs.length : Int) ≤ 9223372036854775807
    omega
  refine Exists.intro { vars := [4], boxes := [], owns := [0], kept := [0] } (Exists.intro (fun vs os h' => ∃ (k : Nat) (L : List (List Value)) (Bs : List (List Nat)), k ≤ xs.length ∧ vs = [.int .i64 k] ∧ os = [fillR L xs.length [.int .i64 0, .int .i64 0, .int .i64 0]] ∧ L.length = k ∧
    F3 (wEdge.W h') L (xs.take k) Bs ∧ Sub h h' ∧ Fresh h Bs.flatten) (Exists.intro (fun vs _ => match vs with | [.int _ j] => ((xs.length : Int) - j).toNat | _ => 0) ?_))
  refine And.intro ⟨0, [], [], by omega, rfl, rfl, rfl, trivial, Sub.refl _, by simp [Fresh]⟩ ?_
  rintro _ _ h1 ⟨k, L, Bs, hk, ⟨⟩, ⟨⟩, hlk, hW, hsub, hfr⟩
  refine And.intro (fun hc2 => ?_) (fun hc2 => ?_)
  · have hlt : k < xs.length := by simpa using hc2
    obtain ⟨x, gx⟩ := has_get hlt
    obtain ⟨b1, cs1, e1, i1⟩ := Sl.get (Sl.mono hsub hx) gx (by decide)
    have hw := wsucc hlt hn
    obtain ⟨x0, x1, x2, rfl, rfl, g0, g1, g2⟩ := openEdge i1
    refine And.intro b1 (Exists.intro _ (And.intro e1 ?_))
    refine Tr.mono (t_toEdge h1 [.int .i64 x0, .int .i64 x1, .int .i64 x2] (x0, x1, x2) (closeEdge g0 g1 g2) (by simp only [mEdge]; omega)) ?_
    rintro v h2 ⟨cs2, rfl, B, hB1, hB2, hB3⟩
    obtain ⟨x0z, x1z, x2z, rfl, ez, _, _, _⟩ := openEdge (wEdge.toR hB1)
    refine And.intro ?_ ?_
    · show 0 ≤ (k : Int) ∧ (k : Int) < ((fillR L xs.length [.int .i64 0, .int .i64 0, .int .i64 0]).length : Nat)
      rw [fillR_length (by omega)]; omega
    refine Exists.intro [.int .i64 0, .int .i64 0, .int .i64 0] (And.intro (fillR_get hlk hlt) ?_)
    refine And.intro rfl (And.intro (by first | exact trivial | exact And.intro rfl trivial | exact And.intro rfl (And.intro rfl trivial) | exact And.intro rfl (And.intro rfl (And.intro rfl trivial)) | exact And.intro rfl (And.intro rfl (And.intro rfl (And.intro rfl trivial)))) (And.intro (by first | exact trivial | exact And.intro rfl trivial | exact And.intro rfl (And.intro rfl trivial) | exact And.intro rfl (And.intro rfl (And.intro rfl trivial)) | exact And.intro rfl (And.intro rfl (And.intro rfl (And.intro rfl trivial)))) (And.intro ?_ ?_)))
    · refine ⟨k + 1, L ++ [[.int .i64 x0z, .int .i64 x1z, .int .i64 x2z]], Bs ++ [B], by omega, by rw [← hw], ?_, by simp [hlk], ?_, hsub.trans hB3, ?_⟩
      · show [(fillR L xs.length [.int .i64 0, .int .i64 0, .int .i64 0]).set k [.int .i64 x0z, .int .i64 x1z, .int .i64 x2z]] = _
        rw [fillR_set hlk hlt]
      · rw [take_snoc gx]
        exact F3.snoc hB1 (newer hW hB3)
      · exact fresh_snoc hW hsub hfr hB2
    · show ((xs.length : Int) - IntKind.i64.wrap ((k : Int) + 1)).toNat < ((xs.length : Int) - (k : Int)).toNat
      omega
  · have hk : k = xs.length := by simp at hc2; omega
    intro v h' hf
    rw [fillR_all (by omega)] at hf
    rw [hk, List.take_length] at hW
    exact Froze.fresh (r := wEdge) hf hW hsub hfr

theorem t_toGraph (h : Hp) (cs : List Value) (x : LGraph) (hx : wGraph.R h cs x) (hl : mGraph x ≤ 1048576) :
    Tr Try.prog 57 #[.agg cs.toArray] h fun v h' => ∃ cs', v = .agg cs'.toArray ∧ New wGraph h h' cs' x := by
  obtain ⟨x0, x1, a2, n2, c2, x2, rfl, rfl, h0, h1, h2⟩ := openGraph hx
  simp only [mGraph] at hl
  refine walk (args := [.agg #[.int .i64 x0, .int .i64 x1, .slice a2 n2 c2]]) (fn := Try.f57) rfl ?_
  refine Tr.mono (t_toEdgeS h a2 n2 c2 x2 (Sl.mono (Sub.refl _) h2) (by omega)) ?_
  rintro v2 k2 N2
  obtain ⟨a2z, n2z, c2z, ez2⟩ := Wp.slice_cell N2.r
  cases ez2
  exact Exists.intro _ (And.intro rfl (New.pair (New.int h0) (New.pair (New.int h1) N2)))

theorem t_toIntS (h : Hp) (a : Option Addr) (n c : Nat) (xs : LIntS) (hx : wIntS.R h [.slice a n c] xs) (hl : mIntS xs ≤ 1048576) :
    Tr Try.prog 49 #[.slice a n c] h fun v h' => New wIntS h h' [v] xs := by
  obtain ⟨rfl, hn⟩ := Sl.len hx
  have hl0 : xs.length ≤ 1048576 := by simp only [mIntS] at hl; omega
  refine walk (args := [.slice a xs.length c]) (fn := Try.f49) rfl ?_
  refine And.intro ?_ ?_
  · show 0 ≤ (xs.length : Int) ∧ (xs.length : Int) ≤ xs.length ∧ (xs.length : Int) * 8 ≤ 140737488355328 ∧ (xs.length : Int) ≤ 9223372036854775807
    omega
  refine Exists.intro { vars := [4], boxes := [], owns := [0], kept := [0] } (Exists.intro (fun vs os h' => ∃ (k : Nat) (L : List (List Value)) (Bs : List (List Nat)), k ≤ xs.length ∧ vs = [.int .i64 k] ∧ os = [fillR L xs.length [.int .i64 0]] ∧ L.length = k ∧
    F3 (Wp.int.W h') L (xs.take k) Bs ∧ Sub h h' ∧ Fresh h Bs.flatten) (Exists.intro (fun vs _ => match vs with | [.int _ j] => ((xs.length : Int) - j).toNat | _ => 0) ?_))
  refine And.intro ⟨0, [], [], by omega, rfl, rfl, rfl, trivial, Sub.refl _, by simp [Fresh]⟩ ?_
  rintro _ _ h1 ⟨k, L, Bs, hk, ⟨⟩, ⟨⟩, hlk, hW, hsub, hfr⟩
  refine And.intro (fun hc2 => ?_) (fun hc2 => ?_)
  · have hlt : k < xs.length := by simpa using hc2
    obtain ⟨x, gx⟩ := has_get hlt
    obtain ⟨b1, cs1, e1, i1⟩ := Sl.get (Sl.mono hsub hx) gx (by decide)
    have hw := wsucc hlt hn
    obtain ⟨rfl, g1⟩ := i1
    refine And.intro b1 (Exists.intro _ (And.intro e1 ?_))
    obtain ⟨B, hB1, hB2, hB3⟩ := New.int (h := h1) g1
    refine And.intro ?_ ?_
    · show 0 ≤ (k : Int) ∧ (k : Int) < ((fillR L xs.length [.int .i64 0]).length : Nat)
      rw [fillR_length (by omega)]; omega
    refine Exists.intro [.int .i64 0] (And.intro (fillR_get hlk hlt) ?_)
    refine And.intro rfl (And.intro (by first | exact trivial | exact And.intro rfl trivial | exact And.intro rfl (And.intro rfl trivial) | exact And.intro rfl (And.intro rfl (And.intro rfl trivial)) | exact And.intro rfl (And.intro rfl (And.intro rfl (And.intro rfl trivial)))) (And.intro (by first | exact trivial | exact And.intro rfl trivial | exact And.intro rfl (And.intro rfl trivial) | exact And.intro rfl (And.intro rfl (And.intro rfl trivial)) | exact And.intro rfl (And.intro rfl (And.intro rfl (And.intro rfl trivial)))) (And.intro ?_ ?_)))
    · refine ⟨k + 1, L ++ [[.int .i64 x]], Bs ++ [B], by omega, by rw [← hw], ?_, by simp [hlk], ?_, hsub.trans hB3, ?_⟩
      · show [(fillR L xs.length [.int .i64 0]).set k [.int .i64 x]] = _
        rw [fillR_set hlk hlt]
      · rw [take_snoc gx]
        exact F3.snoc hB1 (newer hW hB3)
      · exact fresh_snoc hW hsub hfr hB2
    · show ((xs.length : Int) - IntKind.i64.wrap ((k : Int) + 1)).toNat < ((xs.length : Int) - (k : Int)).toNat
      omega
  · have hk : k = xs.length := by simp at hc2; omega
    intro v h' hf
    rw [fillR_all (by omega)] at hf
    rw [hk, List.take_length] at hW
    exact Froze.fresh (r := Wp.int) hf hW hsub hfr

theorem t_toIntSS (h : Hp) (a : Option Addr) (n c : Nat) (xs : LIntSS) (hx : wIntSS.R h [.slice a n c] xs) (hl : mIntSS xs ≤ 1048576) :
    Tr Try.prog 64 #[.slice a n c] h fun v h' => New wIntSS h h' [v] xs := by
  obtain ⟨rfl, hn⟩ := Sl.len hx
  have hl0 : xs.length ≤ 1048576 := by simp only [mIntSS] at hl; omega
  refine walk (args := [.slice a xs.length c]) (fn := Try.f64) rfl ?_
  refine And.intro ?_ ?_
  · show 0 ≤ (xs.length : Int) ∧ (xs.length : Int) ≤ xs.length ∧ (xs.length : Int) * 24 ≤ 140737488355328 ∧ (xs.length : Int) ≤ 9223372036854775807
    omega
  refine Exists.intro { vars := [4], boxes := [], owns := [0], kept := [0] } (Exists.intro (fun vs os h' => ∃ (k : Nat) (L : List (List Value)) (Bs : List (List Nat)), k ≤ xs.length ∧ vs = [.int .i64 k] ∧ os = [fillR L xs.length [.slice none 0 0]] ∧ L.length = k ∧
    F3 (wIntS.W h') L (xs.take k) Bs ∧ Sub h h' ∧ Fresh h Bs.flatten) (Exists.intro (fun vs _ => match vs with | [.int _ j] => ((xs.length : Int) - j).toNat | _ => 0) ?_))
  refine And.intro ⟨0, [], [], by omega, rfl, rfl, rfl, trivial, Sub.refl _, by simp [Fresh]⟩ ?_
  rintro _ _ h1 ⟨k, L, Bs, hk, ⟨⟩, ⟨⟩, hlk, hW, hsub, hfr⟩
  refine And.intro (fun hc2 => ?_) (fun hc2 => ?_)
  · have hlt : k < xs.length := by simpa using hc2
    obtain ⟨x, gx⟩ := has_get hlt
    obtain ⟨b1, cs1, e1, i1⟩ := Sl.get (Sl.mono hsub hx) gx (by decide)
    have hw := wsucc hlt hn
    obtain ⟨a1, n1, c1, rfl⟩ := Wp.slice_cell i1
    refine And.intro b1 (Exists.intro _ (And.intro e1 ?_))
    refine Tr.mono (t_toIntS h1 _ _ _ x i1 (by have := sumM_get (m := mIntS) gx; simp only [mIntSS] at hl; omega)) ?_
    rintro v h2 ⟨B, hB1, hB2, hB3⟩
    obtain ⟨a2, n2, c2, e2⟩ := Wp.slice_cell (wIntS.toR hB1)
    cases e2
    refine And.intro ?_ ?_
    · show 0 ≤ (k : Int) ∧ (k : Int) < ((fillR L xs.length [.slice none 0 0]).length : Nat)
      rw [fillR_length (by omega)]; omega
    refine Exists.intro [.slice none 0 0] (And.intro (fillR_get hlk hlt) ?_)
    refine And.intro rfl (And.intro (by first | exact trivial | exact And.intro rfl trivial | exact And.intro rfl (And.intro rfl trivial) | exact And.intro rfl (And.intro rfl (And.intro rfl trivial)) | exact And.intro rfl (And.intro rfl (And.intro rfl (And.intro rfl trivial)))) (And.intro (by first | exact trivial | exact And.intro rfl trivial | exact And.intro rfl (And.intro rfl trivial) | exact And.intro rfl (And.intro rfl (And.intro rfl trivial)) | exact And.intro rfl (And.intro rfl (And.intro rfl (And.intro rfl trivial)))) (And.intro ?_ ?_)))
    · refine ⟨k + 1, L ++ [[.slice a2 n2 c2]], Bs ++ [B], by omega, by rw [← hw], ?_, by simp [hlk], ?_, hsub.trans hB3, ?_⟩
      · show [(fillR L xs.length [.slice none 0 0]).set k [.slice a2 n2 c2]] = _
        rw [fillR_set hlk hlt]
      · rw [take_snoc gx]
        exact F3.snoc hB1 (newer hW hB3)
      · exact fresh_snoc hW hsub hfr hB2
    · show ((xs.length : Int) - IntKind.i64.wrap ((k : Int) + 1)).toNat < ((xs.length : Int) - (k : Int)).toNat
      omega
  · have hk : k = xs.length := by simp at hc2; omega
    intro v h' hf
    rw [fillR_all (by omega)] at hf
    rw [hk, List.take_length] at hW
    exact Froze.fresh (r := wIntS) hf hW hsub hfr

theorem t_toPresentation (h : Hp) (cs : List Value) (x : LPresentation) (hx : wPresentation.R h cs x) (hl : mPresentation x ≤ 1048576) :
    Tr Try.prog 16 #[.agg cs.toArray] h fun v h' => ∃ cs', v = .agg cs'.toArray ∧ New wPresentation h h' cs' x := by
  obtain ⟨x0, a1, n1, c1, x1, rfl, rfl, h0, h1⟩ := openPresentation hx
  simp only [mPresentation] at hl
  refine walk (args := [.agg #[.int .i64 x0, .slice a1 n1 c1]]) (fn := Try.f16) rfl ?_
  refine Tr.mono (t_toIntSS h a1 n1 c1 x1 (Sl.mono (Sub.refl _) h1) (by omega)) ?_
  rintro v1 k1 N1
  obtain ⟨a1z, n1z, c1z, ez1⟩ := Wp.slice_cell N1.r
  cases ez1
  exact Exists.intro _ (And.intro rfl (New.pair (New.int h0) N1))

theorem t_toTerm (h : Hp) (cs : List Value) (x : LTerm) (hx : wTerm.R h cs x) (hl : mTerm x ≤ 1048576) :
    Tr Try.prog 73 #[.agg cs.toArray] h fun v h' => ∃ cs', v = .agg cs'.toArray ∧ New wTerm h h' cs' x := by
  obtain ⟨a0, n0, c0, x0, x1, x2, rfl, rfl, h0, h1, h2⟩ := openTerm hx
  simp only [mTerm] at hl
  refine walk (args := [.agg #[.slice a0 n0 c0, .int .i64 x1, .int .i64 x2]]) (fn := Try.f73) rfl ?_
  refine Tr.mono (t_toIntS h a0 n0 c0 x0 (Sl.mono (Sub.refl _) h0) (by omega)) ?_
  rintro v0 k0 N0
  obtain ⟨a0z, n0z, c0z, ez0⟩ := Wp.slice_cell N0.r
  cases ez0
  exact Exists.intro _ (And.intro rfl (New.pair N0 (New.pair (New.int h1) (New.int h2))))

theorem t_toClaim (h : Hp) (cs : List Value) (x : LClaim) (hx : wClaim.R h cs x) (hl : mClaim x ≤ 1048576) :
    Tr Try.prog 31 #[.agg cs.toArray] h fun v h' => ∃ cs', v = .agg cs'.toArray ∧ New wClaim h h' cs' x := by
  obtain ⟨x0, x1, a2, n2, c2, x2, a3, n3, c3, x3, a4, n4, c4, x4, x5_0, x5_1, a5_2, n5_2, c5_2, x5_2, x6, rfl, rfl, h0, h1, h2, h3, h4, h5_0, h5_1, h5_2, h6⟩ := openClaim hx
  simp only [mClaim] at hl
  refine walk (args := [.agg #[.int .i64 x0, .int .i64 x1, .slice a2 n2 c2, .slice a3 n3 c3, .slice a4 n4 c4, .int .i64 x5_0, .int .i64 x5_1, .slice a5_2 n5_2 c5_2, .int .i64 x6]]) (fn := Try.f31) rfl ?_
  refine Tr.mono (t_toIntSS h a2 n2 c2 x2 (Sl.mono (Sub.refl _) h2) (by omega)) ?_
  rintro v2 k2 N2
  obtain ⟨a2z, n2z, c2z, ez2⟩ := Wp.slice_cell N2.r
  cases ez2
  refine Tr.mono (t_toIntS k2 a3 n3 c3 x3 (Sl.mono N2.sub h3) (by omega)) ?_
  rintro v3 k3 N3
  obtain ⟨a3z, n3z, c3z, ez3⟩ := Wp.slice_cell N3.r
  cases ez3
  refine Tr.mono (t_toIntS k3 a4 n4 c4 x4 (Sl.mono (N2.sub.trans N3.sub) h4) (by omega)) ?_
  rintro v4 k4 N4
  obtain ⟨a4z, n4z, c4z, ez4⟩ := Wp.slice_cell N4.r
  cases ez4
  refine Tr.mono (t_toGraph k4 [.int .i64 x5_0, .int .i64 x5_1, .slice a5_2 n5_2 c5_2] (x5_0, x5_1, x5_2) (wGraph.mono ((N2.sub.trans N3.sub).trans N4.sub) (closeGraph h5_0 h5_1 h5_2)) (by omega)) ?_
  rintro v5 k5 ⟨cs5, rfl, N5⟩
  obtain ⟨x5_0z, x5_1z, a5_2z, n5_2z, c5_2z, x5_2z, rfl, ez5, _, _, _⟩ := openGraph N5.r
  exact Exists.intro _ (And.intro rfl (New.pair (New.int h0) (New.pair (New.int h1) (New.pair N2 (New.pair N3 (New.pair N4 (New.pair N5 (New.int h6))))))))

theorem t_toClaimS (h : Hp) (a : Option Addr) (n c : Nat) (xs : LClaimS) (hx : wClaimS.R h [.slice a n c] xs) (hl : mClaimS xs ≤ 1048576) :
    Tr Try.prog 95 #[.slice a n c] h fun v h' => New wClaimS h h' [v] xs := by
  obtain ⟨rfl, hn⟩ := Sl.len hx
  have hl0 : xs.length ≤ 1048576 := by simp only [mClaimS] at hl; omega
  refine walk (args := [.slice a xs.length c]) (fn := Try.f95) rfl ?_
  refine And.intro ?_ ?_
  · show 0 ≤ (xs.length : Int) ∧ (xs.length : Int) ≤ xs.length ∧ (xs.length : Int) * 136 ≤ 140737488355328 ∧ (xs.length : Int) ≤ 9223372036854775807
    omega
  refine Exists.intro { vars := [4], boxes := [], owns := [0], kept := [0] } (Exists.intro (fun vs os h' => ∃ (k : Nat) (L : List (List Value)) (Bs : List (List Nat)), k ≤ xs.length ∧ vs = [.int .i64 k] ∧ os = [fillR L xs.length [.int .i64 0, .int .i64 0, .slice none 0 0, .slice none 0 0, .slice none 0 0, .int .i64 0, .int .i64 0, .slice none 0 0, .int .i64 0]] ∧ L.length = k ∧
    F3 (wClaim.W h') L (xs.take k) Bs ∧ Sub h h' ∧ Fresh h Bs.flatten) (Exists.intro (fun vs _ => match vs with | [.int _ j] => ((xs.length : Int) - j).toNat | _ => 0) ?_))
  refine And.intro ⟨0, [], [], by omega, rfl, rfl, rfl, trivial, Sub.refl _, by simp [Fresh]⟩ ?_
  rintro _ _ h1 ⟨k, L, Bs, hk, ⟨⟩, ⟨⟩, hlk, hW, hsub, hfr⟩
  refine And.intro (fun hc2 => ?_) (fun hc2 => ?_)
  · have hlt : k < xs.length := by simpa using hc2
    obtain ⟨x, gx⟩ := has_get hlt
    obtain ⟨b1, cs1, e1, i1⟩ := Sl.get (Sl.mono hsub hx) gx (by decide)
    have hw := wsucc hlt hn
    obtain ⟨x0, x1, a2, n2, c2, x2, a3, n3, c3, x3, a4, n4, c4, x4, x5_0, x5_1, a5_2, n5_2, c5_2, x5_2, x6, rfl, rfl, g0, g1, g2, g3, g4, g5_0, g5_1, g5_2, g6⟩ := openClaim i1
    refine And.intro b1 (Exists.intro _ (And.intro e1 ?_))
    refine Tr.mono (t_toClaim h1 [.int .i64 x0, .int .i64 x1, .slice a2 n2 c2, .slice a3 n3 c3, .slice a4 n4 c4, .int .i64 x5_0, .int .i64 x5_1, .slice a5_2 n5_2 c5_2, .int .i64 x6] (x0, x1, x2, x3, x4, (x5_0, x5_1, x5_2), x6) (closeClaim g0 g1 g2 g3 g4 g5_0 g5_1 g5_2 g6) (by first | (have := sumM_get (m := mClaim) gx; simp only [mClaimS] at hl; omega) | (show mClaim _ ≤ _; simp only [mClaim]; omega))) ?_
    rintro v h2 ⟨cs2, rfl, B, hB1, hB2, hB3⟩
    obtain ⟨x0z, x1z, a2z, n2z, c2z, x2z, a3z, n3z, c3z, x3z, a4z, n4z, c4z, x4z, x5_0z, x5_1z, a5_2z, n5_2z, c5_2z, x5_2z, x6z, rfl, ez, _, _, _, _, _, _, _, _, _⟩ := openClaim (wClaim.toR hB1)
    refine And.intro ?_ ?_
    · show 0 ≤ (k : Int) ∧ (k : Int) < ((fillR L xs.length [.int .i64 0, .int .i64 0, .slice none 0 0, .slice none 0 0, .slice none 0 0, .int .i64 0, .int .i64 0, .slice none 0 0, .int .i64 0]).length : Nat)
      rw [fillR_length (by omega)]; omega
    refine Exists.intro [.int .i64 0, .int .i64 0, .slice none 0 0, .slice none 0 0, .slice none 0 0, .int .i64 0, .int .i64 0, .slice none 0 0, .int .i64 0] (And.intro (fillR_get hlk hlt) ?_)
    refine And.intro rfl (And.intro (by first | exact trivial | exact And.intro rfl trivial | exact And.intro rfl (And.intro rfl trivial) | exact And.intro rfl (And.intro rfl (And.intro rfl trivial)) | exact And.intro rfl (And.intro rfl (And.intro rfl (And.intro rfl trivial)))) (And.intro (by first | exact trivial | exact And.intro rfl trivial | exact And.intro rfl (And.intro rfl trivial) | exact And.intro rfl (And.intro rfl (And.intro rfl trivial)) | exact And.intro rfl (And.intro rfl (And.intro rfl (And.intro rfl trivial)))) (And.intro ?_ ?_)))
    · refine ⟨k + 1, L ++ [[.int .i64 x0z, .int .i64 x1z, .slice a2z n2z c2z, .slice a3z n3z c3z, .slice a4z n4z c4z, .int .i64 x5_0z, .int .i64 x5_1z, .slice a5_2z n5_2z c5_2z, .int .i64 x6z]], Bs ++ [B], by omega, by rw [← hw], ?_, by simp [hlk], ?_, hsub.trans hB3, ?_⟩
      · show [(fillR L xs.length [.int .i64 0, .int .i64 0, .slice none 0 0, .slice none 0 0, .slice none 0 0, .int .i64 0, .int .i64 0, .slice none 0 0, .int .i64 0]).set k [.int .i64 x0z, .int .i64 x1z, .slice a2z n2z c2z, .slice a3z n3z c3z, .slice a4z n4z c4z, .int .i64 x5_0z, .int .i64 x5_1z, .slice a5_2z n5_2z c5_2z, .int .i64 x6z]] = _
        rw [fillR_set hlk hlt]
      · rw [take_snoc gx]
        exact F3.snoc hB1 (newer hW hB3)
      · exact fresh_snoc hW hsub hfr hB2
    · show ((xs.length : Int) - IntKind.i64.wrap ((k : Int) + 1)).toNat < ((xs.length : Int) - (k : Int)).toNat
      omega
  · have hk : k = xs.length := by simp at hc2; omega
    intro v h' hf
    rw [fillR_all (by omega)] at hf
    rw [hk, List.take_length] at hW
    exact Froze.fresh (r := wClaim) hf hW hsub hfr

theorem t_toNotebook (h : Hp) (cs : List Value) (x : LNotebook) (hx : wNotebook.R h cs x) (hl : mNotebook x ≤ 1048576) :
    Tr Try.prog 36 #[.agg cs.toArray] h fun v h' => ∃ cs', v = .agg cs'.toArray ∧ New wNotebook h h' cs' x := by
  obtain ⟨x0, a1, n1, c1, x1, rfl, rfl, h0, h1⟩ := openNotebook hx
  simp only [mNotebook] at hl
  refine walk (args := [.agg #[.int .i64 x0, .slice a1 n1 c1]]) (fn := Try.f36) rfl ?_
  refine Tr.mono (t_toClaimS h a1 n1 c1 x1 (Sl.mono (Sub.refl _) h1) (by omega)) ?_
  rintro v1 k1 N1
  obtain ⟨a1z, n1z, c1z, ez1⟩ := Wp.slice_cell N1.r
  cases ez1
  exact Exists.intro _ (And.intro rfl (New.pair (New.int h0) N1))

theorem t_toTermS (h : Hp) (a : Option Addr) (n c : Nat) (xs : LTermS) (hx : wTermS.R h [.slice a n c] xs) (hl : mTermS xs ≤ 1048576) :
    Tr Try.prog 21 #[.slice a n c] h fun v h' => New wTermS h h' [v] xs := by
  obtain ⟨rfl, hn⟩ := Sl.len hx
  have hl0 : xs.length ≤ 1048576 := by simp only [mTermS] at hl; omega
  refine walk (args := [.slice a xs.length c]) (fn := Try.f21) rfl ?_
  refine And.intro ?_ ?_
  · show 0 ≤ (xs.length : Int) ∧ (xs.length : Int) ≤ xs.length ∧ (xs.length : Int) * 40 ≤ 140737488355328 ∧ (xs.length : Int) ≤ 9223372036854775807
    omega
  refine Exists.intro { vars := [4], boxes := [], owns := [0], kept := [0] } (Exists.intro (fun vs os h' => ∃ (k : Nat) (L : List (List Value)) (Bs : List (List Nat)), k ≤ xs.length ∧ vs = [.int .i64 k] ∧ os = [fillR L xs.length [.slice none 0 0, .int .i64 0, .int .i64 0]] ∧ L.length = k ∧
    F3 (wTerm.W h') L (xs.take k) Bs ∧ Sub h h' ∧ Fresh h Bs.flatten) (Exists.intro (fun vs _ => match vs with | [.int _ j] => ((xs.length : Int) - j).toNat | _ => 0) ?_))
  refine And.intro ⟨0, [], [], by omega, rfl, rfl, rfl, trivial, Sub.refl _, by simp [Fresh]⟩ ?_
  rintro _ _ h1 ⟨k, L, Bs, hk, ⟨⟩, ⟨⟩, hlk, hW, hsub, hfr⟩
  refine And.intro (fun hc2 => ?_) (fun hc2 => ?_)
  · have hlt : k < xs.length := by simpa using hc2
    obtain ⟨x, gx⟩ := has_get hlt
    obtain ⟨b1, cs1, e1, i1⟩ := Sl.get (Sl.mono hsub hx) gx (by decide)
    have hw := wsucc hlt hn
    obtain ⟨a0, n0, c0, x0, x1, x2, rfl, rfl, g0, g1, g2⟩ := openTerm i1
    refine And.intro b1 (Exists.intro _ (And.intro e1 ?_))
    refine Tr.mono (t_toTerm h1 [.slice a0 n0 c0, .int .i64 x1, .int .i64 x2] (x0, x1, x2) (closeTerm g0 g1 g2) (by first | (have := sumM_get (m := mTerm) gx; simp only [mTermS] at hl; omega) | (show mTerm _ ≤ _; simp only [mTerm]; omega))) ?_
    rintro v h2 ⟨cs2, rfl, B, hB1, hB2, hB3⟩
    obtain ⟨a0z, n0z, c0z, x0z, x1z, x2z, rfl, ez, _, _, _⟩ := openTerm (wTerm.toR hB1)
    refine And.intro ?_ ?_
    · show 0 ≤ (k : Int) ∧ (k : Int) < ((fillR L xs.length [.slice none 0 0, .int .i64 0, .int .i64 0]).length : Nat)
      rw [fillR_length (by omega)]; omega
    refine Exists.intro [.slice none 0 0, .int .i64 0, .int .i64 0] (And.intro (fillR_get hlk hlt) ?_)
    refine And.intro rfl (And.intro (by first | exact trivial | exact And.intro rfl trivial | exact And.intro rfl (And.intro rfl trivial) | exact And.intro rfl (And.intro rfl (And.intro rfl trivial)) | exact And.intro rfl (And.intro rfl (And.intro rfl (And.intro rfl trivial)))) (And.intro (by first | exact trivial | exact And.intro rfl trivial | exact And.intro rfl (And.intro rfl trivial) | exact And.intro rfl (And.intro rfl (And.intro rfl trivial)) | exact And.intro rfl (And.intro rfl (And.intro rfl (And.intro rfl trivial)))) (And.intro ?_ ?_)))
    · refine ⟨k + 1, L ++ [[.slice a0z n0z c0z, .int .i64 x1z, .int .i64 x2z]], Bs ++ [B], by omega, by rw [← hw], ?_, by simp [hlk], ?_, hsub.trans hB3, ?_⟩
      · show [(fillR L xs.length [.slice none 0 0, .int .i64 0, .int .i64 0]).set k [.slice a0z n0z c0z, .int .i64 x1z, .int .i64 x2z]] = _
        rw [fillR_set hlk hlt]
      · rw [take_snoc gx]
        exact F3.snoc hB1 (newer hW hB3)
      · exact fresh_snoc hW hsub hfr hB2
    · show ((xs.length : Int) - IntKind.i64.wrap ((k : Int) + 1)).toNat < ((xs.length : Int) - (k : Int)).toNat
      omega
  · have hk : k = xs.length := by simp at hc2; omega
    intro v h' hf
    rw [fillR_all (by omega)] at hf
    rw [hk, List.take_length] at hW
    exact Froze.fresh (r := wTerm) hf hW hsub hfr

end Go.Proofs.Ytjalbdammdmgiaa
