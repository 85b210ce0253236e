/- What the law on EqualClaims does. -/
import Derived.Test.YtalidbmconldoaaM5
import Derived.Test.YtalidbmconldoaaG2
import Derived.Test.YtalidbmconldoaaG3
import Derived.Test.YtalidbmconldoaaG4
namespace Go.Proofs.Ytalidbmconldoaa
open Go.H
set_option linter.unusedVariables false
set_option linter.unusedSimpArgs false
set_option maxRecDepth 10000

theorem t_lawEqualClaims (h : Hp) (ds0 : List Value) (y0 : LClaim) (hy0 : wClaim.R h ds0 y0) (ds1 : List Value) (y1 : LClaim) (hy1 : wClaim.R h ds1 y1) :
    Tr Try.prog 9 #[.agg ds0.toArray, .agg ds1.toArray] h fun v h' => v = .bool true ∧ Sub h h' := by
  obtain ⟨x0p0, x1p0, a2p0, n2p0, c2p0, x2p0, a3p0, n3p0, c3p0, x3p0, a4p0, n4p0, c4p0, x4p0, x5_0p0, x5_1p0, a5_2p0, n5_2p0, c5_2p0, x5_2p0, x6p0, rfl, rfl, h0p0, h1p0, h2p0, h3p0, h4p0, h5_0p0, h5_1p0, h5_2p0, h6p0⟩ := openClaim hy0
  obtain ⟨x0p1, x1p1, a2p1, n2p1, c2p1, x2p1, a3p1, n3p1, c3p1, x3p1, a4p1, n4p1, c4p1, x4p1, x5_0p1, x5_1p1, a5_2p1, n5_2p1, c5_2p1, x5_2p1, x6p1, rfl, rfl, h0p1, h1p1, h2p1, h3p1, h4p1, h5_0p1, h5_1p1, h5_2p1, h6p1⟩ := openClaim hy1
  refine walk (args := [.agg #[.int .i64 x0p0, .int .i64 x1p0, .slice a2p0 n2p0 c2p0, .slice a3p0 n3p0 c3p0, .slice a4p0 n4p0 c4p0, .int .i64 x5_0p0, .int .i64 x5_1p0, .slice a5_2p0 n5_2p0 c5_2p0, .int .i64 x6p0], .agg #[.int .i64 x0p1, .int .i64 x1p1, .slice a2p1 n2p1 c2p1, .slice a3p1 n3p1 c3p1, .slice a4p1 n4p1 c4p1, .int .i64 x5_0p1, .int .i64 x5_1p1, .slice a5_2p1 n5_2p1 c5_2p1, .int .i64 x6p1]]) (fn := Try.f9) rfl ?_
  refine Tr.val (t_szClaim _ [.int .i64 x0p0, .int .i64 x1p0, .slice a2p0 n2p0 c2p0, .slice a3p0 n3p0 c3p0, .slice a4p0 n4p0 c4p0, .int .i64 x5_0p0, .int .i64 x5_1p0, .slice a5_2p0 n5_2p0 c5_2p0, .int .i64 x6p0] (x0p0, x1p0, x2p0, x3p0, x4p0, (x5_0p0, x5_1p0, x5_2p0), x6p0) (1048576) (closeClaim h0p0 h1p0 h2p0 h3p0 h4p0 h5_0p0 h5_1p0 h5_2p0 h6p0) ⟨by omega, by omega⟩) ?_
  refine And.intro (fun hc => And.intro rfl (Sub.refl _)) (fun hc => ?_)
  have hz0 : 0 ≤ szR (1048576) (mClaim (x0p0, x1p0, x2p0, x3p0, x4p0, (x5_0p0, x5_1p0, x5_2p0), x6p0) : Nat) := by simpa using hc
  have hq0 := szR_le hz0
  have hm0 : mClaim (x0p0, x1p0, x2p0, x3p0, x4p0, (x5_0p0, x5_1p0, x5_2p0), x6p0) ≤ 1048576 := by omega
  refine Tr.val (t_szClaim _ [.int .i64 x0p1, .int .i64 x1p1, .slice a2p1 n2p1 c2p1, .slice a3p1 n3p1 c3p1, .slice a4p1 n4p1 c4p1, .int .i64 x5_0p1, .int .i64 x5_1p1, .slice a5_2p1 n5_2p1 c5_2p1, .int .i64 x6p1] (x0p1, x1p1, x2p1, x3p1, x4p1, (x5_0p1, x5_1p1, x5_2p1), x6p1) (szR (1048576) (mClaim (x0p0, x1p0, x2p0, x3p0, x4p0, (x5_0p0, x5_1p0, x5_2p0), x6p0) : Nat)) (closeClaim h0p1 h1p1 h2p1 h3p1 h4p1 h5_0p1 h5_1p1 h5_2p1 h6p1) ⟨by omega, by omega⟩) ?_
  refine And.intro (fun hc => And.intro rfl (Sub.refl _)) (fun hc => ?_)
  have hz1 : 0 ≤ szR (szR (1048576) (mClaim (x0p0, x1p0, x2p0, x3p0, x4p0, (x5_0p0, x5_1p0, x5_2p0), x6p0) : Nat)) (mClaim (x0p1, x1p1, x2p1, x3p1, x4p1, (x5_0p1, x5_1p1, x5_2p1), x6p1) : Nat) := by simpa using hc
  have hq1 := szR_le hz1
  have hm1 : mClaim (x0p1, x1p1, x2p1, x3p1, x4p1, (x5_0p1, x5_1p1, x5_2p1), x6p1) ≤ 1048576 := by omega
  refine Or.inr (And.intro (And.intro (by kernel_rfl) (by kernel_rfl)) ?_)
  refine Exists.intro (fun v hh => ∃ cs, v = .agg cs.toArray ∧ wClaim.R hh cs (x0p0, x1p0, x2p0, x3p0, x4p0, (x5_0p0, x5_1p0, x5_2p0), x6p0)) (And.intro (fun v ha hb s hh => by obtain ⟨cs, e, q⟩ := hh; exact ⟨cs, e, wClaim.mono s q⟩) (And.intro ?_ ?_))
  · intro h3 s3
    refine Tr.mono (t_toClaim h3 [.int .i64 x0p0, .int .i64 x1p0, .slice a2p0 n2p0 c2p0, .slice a3p0 n3p0 c3p0, .slice a4p0 n4p0 c4p0, .int .i64 x5_0p0, .int .i64 x5_1p0, .slice a5_2p0 n5_2p0 c5_2p0, .int .i64 x6p0] (x0p0, x1p0, x2p0, x3p0, x4p0, (x5_0p0, x5_1p0, x5_2p0), x6p0) (wClaim.mono s3 (closeClaim h0p0 h1p0 h2p0 h3p0 h4p0 h5_0p0 h5_1p0 h5_2p0 h6p0)) hm0) ?_
    rintro v h4 ⟨cs4, rfl, n4⟩
    exact And.intro rfl (And.intro n4.sub ⟨cs4, rfl, n4.r⟩)
  refine Exists.intro (fun v hh => ∃ cs, v = .agg cs.toArray ∧ wClaim.R hh cs (x0p1, x1p1, x2p1, x3p1, x4p1, (x5_0p1, x5_1p1, x5_2p1), x6p1)) (And.intro (fun v ha hb s hh => by obtain ⟨cs, e, q⟩ := hh; exact ⟨cs, e, wClaim.mono s q⟩) (And.intro ?_ ?_))
  · intro h3 s3
    refine Tr.mono (t_toClaim h3 [.int .i64 x0p1, .int .i64 x1p1, .slice a2p1 n2p1 c2p1, .slice a3p1 n3p1 c3p1, .slice a4p1 n4p1 c4p1, .int .i64 x5_0p1, .int .i64 x5_1p1, .slice a5_2p1 n5_2p1 c5_2p1, .int .i64 x6p1] (x0p1, x1p1, x2p1, x3p1, x4p1, (x5_0p1, x5_1p1, x5_2p1), x6p1) (wClaim.mono s3 (closeClaim h0p1 h1p1 h2p1 h3p1 h4p1 h5_0p1 h5_1p1 h5_2p1 h6p1)) hm1) ?_
    rintro v h4 ⟨cs4, rfl, n4⟩
    exact And.intro rfl (And.intro n4.sub ⟨cs4, rfl, n4.r⟩)
  refine Exists.intro (fun v hh => v = .bool (F_EqualClaims (x0p0, x1p0, x2p0, x3p0, x4p0, (x5_0p0, x5_1p0, x5_2p0), x6p0) (x0p1, x1p1, x2p1, x3p1, x4p1, (x5_0p1, x5_1p1, x5_2p1), x6p1))) (And.intro (fun _ _ _ _ e => e) (And.intro ?_ ?_))
  · intro h3 s3 v0w f0w v1w f1w
    obtain ⟨cs0w, rfl, r0w⟩ := f0w
    obtain ⟨x0w0, x1w0, a2w0, n2w0, c2w0, x2w0, a3w0, n3w0, c3w0, x3w0, a4w0, n4w0, c4w0, x4w0, x5_0w0, x5_1w0, a5_2w0, n5_2w0, c5_2w0, x5_2w0, x6w0, rfl, ezw0, _, _, _, _, _, _, _, _, _⟩ := openClaim r0w
    obtain ⟨cs1w, rfl, r1w⟩ := f1w
    obtain ⟨x0w1, x1w1, a2w1, n2w1, c2w1, x2w1, a3w1, n3w1, c3w1, x3w1, a4w1, n4w1, c4w1, x4w1, x5_0w1, x5_1w1, a5_2w1, n5_2w1, c5_2w1, x5_2w1, x6w1, rfl, ezw1, _, _, _, _, _, _, _, _, _⟩ := openClaim r1w
    refine Tr.mono (t_specEqualClaims _ [.int .i64 x0w0, .int .i64 x1w0, .slice a2w0 n2w0 c2w0, .slice a3w0 n3w0 c3w0, .slice a4w0 n4w0 c4w0, .int .i64 x5_0w0, .int .i64 x5_1w0, .slice a5_2w0 n5_2w0 c5_2w0, .int .i64 x6w0] (x0p0, x1p0, x2p0, x3p0, x4p0, (x5_0p0, x5_1p0, x5_2p0), x6p0) r0w hm0 [.int .i64 x0w1, .int .i64 x1w1, .slice a2w1 n2w1 c2w1, .slice a3w1 n3w1 c3w1, .slice a4w1 n4w1 c4w1, .int .i64 x5_0w1, .int .i64 x5_1w1, .slice a5_2w1 n5_2w1 c5_2w1, .int .i64 x6w1] (x0p1, x1p1, x2p1, x3p1, x4p1, (x5_0p1, x5_1p1, x5_2p1), x6p1) r1w hm1) ?_
    rintro v h4 ⟨rfl, rfl⟩
    exact And.intro rfl (And.intro (Sub.refl _) rfl)
  refine Exists.intro (fun v hh => v = .bool (F_EqualClaims (x0p0, x1p0, x2p0, x3p0, x4p0, (x5_0p0, x5_1p0, x5_2p0), x6p0) (x0p1, x1p1, x2p1, x3p1, x4p1, (x5_0p1, x5_1p1, x5_2p1), x6p1))) (And.intro (fun _ _ _ _ e => e) (And.intro ?_ ?_))
  · rintro h3 s3 v rfl
    exact And.intro rfl (And.intro (Sub.refl _) rfl)
  rintro k1 t1 v9 rfl v8 rfl v1w f1w v0w f0w
  refine Tr.mono (t_toClaim _ [.int .i64 x0p0, .int .i64 x1p0, .slice a2p0 n2p0 c2p0, .slice a3p0 n3p0 c3p0, .slice a4p0 n4p0 c4p0, .int .i64 x5_0p0, .int .i64 x5_1p0, .slice a5_2p0 n5_2p0 c5_2p0, .int .i64 x6p0] (x0p0, x1p0, x2p0, x3p0, x4p0, (x5_0p0, x5_1p0, x5_2p0), x6p0) (wClaim.mono t1 (closeClaim h0p0 h1p0 h2p0 h3p0 h4p0 h5_0p0 h5_1p0 h5_2p0 h6p0)) hm0) ?_
  rintro v2 kx0 ⟨csx0, rfl, nx0⟩
  obtain ⟨x0x0, x1x0, a2x0, n2x0, c2x0, x2x0, a3x0, n3x0, c3x0, x3x0, a4x0, n4x0, c4x0, x4x0, x5_0x0, x5_1x0, a5_2x0, n5_2x0, c5_2x0, x5_2x0, x6x0, rfl, ezx0, _, _, _, _, _, _, _, _, _⟩ := openClaim nx0.r
  refine Tr.mono (t_toClaim _ [.int .i64 x0p1, .int .i64 x1p1, .slice a2p1 n2p1 c2p1, .slice a3p1 n3p1 c3p1, .slice a4p1 n4p1 c4p1, .int .i64 x5_0p1, .int .i64 x5_1p1, .slice a5_2p1 n5_2p1 c5_2p1, .int .i64 x6p1] (x0p1, x1p1, x2p1, x3p1, x4p1, (x5_0p1, x5_1p1, x5_2p1), x6p1) (wClaim.mono (t1.trans nx0.sub) (closeClaim h0p1 h1p1 h2p1 h3p1 h4p1 h5_0p1 h5_1p1 h5_2p1 h6p1)) hm1) ?_
  rintro v2 kx1 ⟨csx1, rfl, nx1⟩
  obtain ⟨x0x1, x1x1, a2x1, n2x1, c2x1, x2x1, a3x1, n3x1, c3x1, x3x1, a4x1, n4x1, c4x1, x4x1, x5_0x1, x5_1x1, a5_2x1, n5_2x1, c5_2x1, x5_2x1, x6x1, rfl, ezx1, _, _, _, _, _, _, _, _, _⟩ := openClaim nx1.r
  refine Tr.val (t_implEqualClaims _ [.int .i64 x0x0, .int .i64 x1x0, .slice a2x0 n2x0 c2x0, .slice a3x0 n3x0 c3x0, .slice a4x0 n4x0 c4x0, .int .i64 x5_0x0, .int .i64 x5_1x0, .slice a5_2x0 n5_2x0 c5_2x0, .int .i64 x6x0] (x0p0, x1p0, x2p0, x3p0, x4p0, (x5_0p0, x5_1p0, x5_2p0), x6p0) (wClaim.mono nx1.sub nx0.r) hm0 [.int .i64 x0x1, .int .i64 x1x1, .slice a2x1 n2x1 c2x1, .slice a3x1 n3x1 c3x1, .slice a4x1 n4x1 c4x1, .int .i64 x5_0x1, .int .i64 x5_1x1, .slice a5_2x1 n5_2x1 c5_2x1, .int .i64 x6x1] (x0p1, x1p1, x2p1, x3p1, x4p1, (x5_0p1, x5_1p1, x5_2p1), x6p1) nx1.r hm1) ?_
  refine And.intro (fun hc => ?_) (fun hc => ?_)
  · exact absurd hc (by simp)
  clear hc
  refine Or.inr (And.intro (And.intro (by kernel_rfl) (by kernel_rfl)) ?_)
  refine Exists.intro (fun v hh => ∃ cs, v = .agg cs.toArray ∧ wClaim.R hh cs (x0p0, x1p0, x2p0, x3p0, x4p0, (x5_0p0, x5_1p0, x5_2p0), x6p0)) (And.intro (fun v ha hb s hh => by obtain ⟨cs, e, q⟩ := hh; exact ⟨cs, e, wClaim.mono s q⟩) (And.intro ?_ ?_))
  · intro h3 s3
    refine Tr.mono (t_toClaim h3 [.int .i64 x0p0, .int .i64 x1p0, .slice a2p0 n2p0 c2p0, .slice a3p0 n3p0 c3p0, .slice a4p0 n4p0 c4p0, .int .i64 x5_0p0, .int .i64 x5_1p0, .slice a5_2p0 n5_2p0 c5_2p0, .int .i64 x6p0] (x0p0, x1p0, x2p0, x3p0, x4p0, (x5_0p0, x5_1p0, x5_2p0), x6p0) (wClaim.mono (((t1.trans nx0.sub).trans nx1.sub).trans s3) (closeClaim h0p0 h1p0 h2p0 h3p0 h4p0 h5_0p0 h5_1p0 h5_2p0 h6p0)) hm0) ?_
    rintro v h4 ⟨cs4, rfl, n4⟩
    exact And.intro rfl (And.intro n4.sub ⟨cs4, rfl, n4.r⟩)
  refine Exists.intro (fun v hh => v = .bool true) (And.intro (fun _ _ _ _ e => e) (And.intro ?_ ?_))
  · rintro h3 s3 v ⟨cs4, rfl, q⟩
    obtain ⟨x0z, x1z, a2z, n2z, c2z, x2z, a3z, n3z, c3z, x3z, a4z, n4z, c4z, x4z, x5_0z, x5_1z, a5_2z, n5_2z, c5_2z, x5_2z, x6z, rfl, ez, _, _, _, _, _, _, _, _, _⟩ := openClaim q
    refine Tr.mono (t_eqClaim h3 [.int .i64 x0x0, .int .i64 x1x0, .slice a2x0 n2x0 c2x0, .slice a3x0 n3x0 c3x0, .slice a4x0 n4x0 c4x0, .int .i64 x5_0x0, .int .i64 x5_1x0, .slice a5_2x0 n5_2x0 c5_2x0, .int .i64 x6x0] [.int .i64 x0z, .int .i64 x1z, .slice a2z n2z c2z, .slice a3z n3z c3z, .slice a4z n4z c4z, .int .i64 x5_0z, .int .i64 x5_1z, .slice a5_2z n5_2z c5_2z, .int .i64 x6z] (x0p0, x1p0, x2p0, x3p0, x4p0, (x5_0p0, x5_1p0, x5_2p0), x6p0) (x0p0, x1p0, x2p0, x3p0, x4p0, (x5_0p0, x5_1p0, x5_2p0), x6p0) (wClaim.mono (nx1.sub.trans s3) nx0.r) q) ?_
    rintro v h4 ⟨rfl, rfl⟩
    exact And.intro rfl (And.intro (Sub.refl _) (by simp))
  refine Exists.intro (fun v hh => v = .bool false) (And.intro (fun _ _ _ _ e => e) (And.intro ?_ ?_))
  · rintro h3 s3 v rfl
    exact And.intro rfl (And.intro (Sub.refl _) rfl)
  rintro ke0 te0 v9 rfl v8 rfl v7 f7
  refine And.intro (fun hc => ?_) (fun hc => ?_)
  · cases hc
  clear hc
  refine Or.inr (And.intro (And.intro (by kernel_rfl) (by kernel_rfl)) ?_)
  refine Exists.intro (fun v hh => ∃ cs, v = .agg cs.toArray ∧ wClaim.R hh cs (x0p1, x1p1, x2p1, x3p1, x4p1, (x5_0p1, x5_1p1, x5_2p1), x6p1)) (And.intro (fun v ha hb s hh => by obtain ⟨cs, e, q⟩ := hh; exact ⟨cs, e, wClaim.mono s q⟩) (And.intro ?_ ?_))
  · intro h3 s3
    refine Tr.mono (t_toClaim h3 [.int .i64 x0p1, .int .i64 x1p1, .slice a2p1 n2p1 c2p1, .slice a3p1 n3p1 c3p1, .slice a4p1 n4p1 c4p1, .int .i64 x5_0p1, .int .i64 x5_1p1, .slice a5_2p1 n5_2p1 c5_2p1, .int .i64 x6p1] (x0p1, x1p1, x2p1, x3p1, x4p1, (x5_0p1, x5_1p1, x5_2p1), x6p1) (wClaim.mono ((((t1.trans nx0.sub).trans nx1.sub).trans te0).trans s3) (closeClaim h0p1 h1p1 h2p1 h3p1 h4p1 h5_0p1 h5_1p1 h5_2p1 h6p1)) hm1) ?_
    rintro v h4 ⟨cs4, rfl, n4⟩
    exact And.intro rfl (And.intro n4.sub ⟨cs4, rfl, n4.r⟩)
  refine Exists.intro (fun v hh => v = .bool true) (And.intro (fun _ _ _ _ e => e) (And.intro ?_ ?_))
  · rintro h3 s3 v ⟨cs4, rfl, q⟩
    obtain ⟨x0z, x1z, a2z, n2z, c2z, x2z, a3z, n3z, c3z, x3z, a4z, n4z, c4z, x4z, x5_0z, x5_1z, a5_2z, n5_2z, c5_2z, x5_2z, x6z, rfl, ez, _, _, _, _, _, _, _, _, _⟩ := openClaim q
    refine Tr.mono (t_eqClaim h3 [.int .i64 x0x1, .int .i64 x1x1, .slice a2x1 n2x1 c2x1, .slice a3x1 n3x1 c3x1, .slice a4x1 n4x1 c4x1, .int .i64 x5_0x1, .int .i64 x5_1x1, .slice a5_2x1 n5_2x1 c5_2x1, .int .i64 x6x1] [.int .i64 x0z, .int .i64 x1z, .slice a2z n2z c2z, .slice a3z n3z c3z, .slice a4z n4z c4z, .int .i64 x5_0z, .int .i64 x5_1z, .slice a5_2z n5_2z c5_2z, .int .i64 x6z] (x0p1, x1p1, x2p1, x3p1, x4p1, (x5_0p1, x5_1p1, x5_2p1), x6p1) (x0p1, x1p1, x2p1, x3p1, x4p1, (x5_0p1, x5_1p1, x5_2p1), x6p1) (wClaim.mono (te0.trans s3) nx1.r) q) ?_
    rintro v h4 ⟨rfl, rfl⟩
    exact And.intro rfl (And.intro (Sub.refl _) (by simp))
  refine Exists.intro (fun v hh => v = .bool false) (And.intro (fun _ _ _ _ e => e) (And.intro ?_ ?_))
  · rintro h3 s3 v rfl
    exact And.intro rfl (And.intro (Sub.refl _) rfl)
  rintro ke1 te1 v9 rfl v8 rfl v7 f7
  refine And.intro (fun hc => ?_) (fun hc => ?_)
  · cases hc
  clear hc
  exact And.intro rfl ((((t1.trans nx0.sub).trans nx1.sub).trans te0).trans te1)
end Go.Proofs.Ytalidbmconldoaa
