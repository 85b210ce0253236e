/- What the law on FirstDefect does. -/
import Derived.Test.YthccjgkmmclplaaKFirstDefect
import Derived.Test.YthccjgkmmclplaaG4
import Derived.Test.YthccjgkmmclplaaG3
import Derived.Test.YthccjgkmmclplaaG2
namespace Go.Proofs.Ythccjgkmmclplaa
open Go.H
set_option linter.unusedVariables false
set_option linter.unusedSimpArgs false
set_option maxRecDepth 10000

theorem t_lawFirstDefect (h : Hp) (ds0 : List Value) (y0 : LPresentation) (hy0 : wPresentation.R h ds0 y0) (ds1 : List Value) (y1 : LGraph) (hy1 : wGraph.R h ds1 y1) :
    Tr Try.prog 9 #[.agg ds0.toArray, .agg ds1.toArray] h fun v h' => v = .bool true ∧ Sub h h' := by
  obtain ⟨x0p0, a1p0, n1p0, c1p0, x1p0, rfl, rfl, h0p0, h1p0⟩ := openPresentation hy0
  obtain ⟨x0p1, x1p1, a2p1, n2p1, c2p1, x2p1, rfl, rfl, h0p1, h1p1, h2p1⟩ := openGraph hy1
  refine walk (args := [.agg #[.int .i64 x0p0, .slice a1p0 n1p0 c1p0], .agg #[.int .i64 x0p1, .int .i64 x1p1, .slice a2p1 n2p1 c2p1]]) (fn := Try.f9) rfl ?_
  refine Tr.val (t_szPresentation _ [.int .i64 x0p0, .slice a1p0 n1p0 c1p0] (x0p0, x1p0) (1048576) (closePresentation h0p0 h1p0) ⟨by omega, by omega⟩) ?_
  refine And.intro (fun hc => And.intro rfl (Sub.refl _)) (fun hc => ?_)
  have hz0 : 0 ≤ szR (1048576) (mPresentation (x0p0, x1p0) : Nat) := by simpa using hc
  have hq0 := szR_le hz0
  have hm0 : mPresentation (x0p0, x1p0) ≤ 1048576 := by omega
  refine Tr.val (t_szGraph _ [.int .i64 x0p1, .int .i64 x1p1, .slice a2p1 n2p1 c2p1] (x0p1, x1p1, x2p1) (szR (1048576) (mPresentation (x0p0, x1p0) : Nat)) (closeGraph h0p1 h1p1 h2p1) ⟨by omega, by omega⟩) ?_
  refine And.intro (fun hc => And.intro rfl (Sub.refl _)) (fun hc => ?_)
  have hz1 : 0 ≤ szR (szR (1048576) (mPresentation (x0p0, x1p0) : Nat)) (mGraph (x0p1, x1p1, x2p1) : Nat) := by simpa using hc
  have hq1 := szR_le hz1
  have hm1 : mGraph (x0p1, x1p1, x2p1) ≤ 1048576 := by omega
  refine Or.inr (Or.inl (And.intro (And.intro (by kernel_rfl) (by kernel_rfl)) ?_))
  refine Exists.intro (fun v hh => ∃ cs, v = .agg cs.toArray ∧ wPresentation.R hh cs (x0p0, x1p0)) (And.intro (fun v ha hb s hh => by obtain ⟨cs, e, q⟩ := hh; exact ⟨cs, e, wPresentation.mono s q⟩) (And.intro ?_ ?_))
  · intro h3 s3
    refine Tr.mono (t_toPresentation h3 [.int .i64 x0p0, .slice a1p0 n1p0 c1p0] (x0p0, x1p0) (wPresentation.mono s3 (closePresentation h0p0 h1p0)) hm0) ?_
    rintro v h4 ⟨cs4, rfl, n4⟩
    exact And.intro rfl (And.intro n4.sub ⟨cs4, rfl, n4.r⟩)
  refine Exists.intro (fun v hh => ∃ cs, v = .agg cs.toArray ∧ wGraph.R hh cs (x0p1, x1p1, x2p1)) (And.intro (fun v ha hb s hh => by obtain ⟨cs, e, q⟩ := hh; exact ⟨cs, e, wGraph.mono s q⟩) (And.intro ?_ ?_))
  · intro h3 s3
    refine Tr.mono (t_toGraph h3 [.int .i64 x0p1, .int .i64 x1p1, .slice a2p1 n2p1 c2p1] (x0p1, x1p1, x2p1) (wGraph.mono s3 (closeGraph h0p1 h1p1 h2p1)) hm1) ?_
    rintro v h4 ⟨cs4, rfl, n4⟩
    exact And.intro rfl (And.intro n4.sub ⟨cs4, rfl, n4.r⟩)
  refine Exists.intro (fun v hh => v = .tuple #[.int .i64 (F_FirstDefect (x0p0, x1p0) (x0p1, x1p1, x2p1)).1, .int .i64 (F_FirstDefect (x0p0, x1p0) (x0p1, x1p1, x2p1)).2]) (And.intro (fun _ _ _ _ e => e) (And.intro ?_ ?_))
  · intro h3 s3 v0w f0w v1w f1w
    obtain ⟨cs0w, rfl, r0w⟩ := f0w
    obtain ⟨x0w0, a1w0, n1w0, c1w0, x1w0, rfl, ezw0, _, _⟩ := openPresentation r0w
    obtain ⟨cs1w, rfl, r1w⟩ := f1w
    obtain ⟨x0w1, x1w1, a2w1, n2w1, c2w1, x2w1, rfl, ezw1, _, _, _⟩ := openGraph r1w
    refine Tr.mono (t_specFirstDefect _ [.int .i64 x0w0, .slice a1w0 n1w0 c1w0] (x0p0, x1p0) r0w hm0 [.int .i64 x0w1, .int .i64 x1w1, .slice a2w1 n2w1 c2w1] (x0p1, x1p1, x2p1) r1w hm1) ?_
    rintro v h4 ⟨rfl, rfl⟩
    exact And.intro rfl (And.intro (Sub.refl _) rfl)
  refine Exists.intro (fun v hh => v = .tuple #[.int .i64 (F_FirstDefect (x0p0, x1p0) (x0p1, x1p1, x2p1)).1, .int .i64 (F_FirstDefect (x0p0, x1p0) (x0p1, x1p1, x2p1)).2]) (And.intro (fun _ _ _ _ e => e) (And.intro ?_ ?_))
  · rintro h3 s3 v rfl
    exact And.intro rfl (And.intro (Sub.refl _) rfl)
  refine Exists.intro (fun v hh => v = .int .i64 (F_FirstDefect (x0p0, x1p0) (x0p1, x1p1, x2p1)).1) (And.intro (fun _ _ _ _ e => e) (And.intro ?_ ?_))
  · rintro h3 s3 v rfl
    exact And.intro rfl (And.intro (Sub.refl _) rfl)
  refine Exists.intro (fun v hh => v = .int .i64 (F_FirstDefect (x0p0, x1p0) (x0p1, x1p1, x2p1)).2) (And.intro (fun _ _ _ _ e => e) (And.intro ?_ ?_))
  · rintro h3 s3 v rfl
    exact And.intro rfl (And.intro (Sub.refl _) rfl)
  refine Exists.intro (fun v hh => v = .int .i64 (F_FirstDefect (x0p0, x1p0) (x0p1, x1p1, x2p1)).1) (And.intro (fun _ _ _ _ e => e) (And.intro ?_ ?_))
  · rintro h3 s3 v rfl
    exact And.intro rfl (And.intro (Sub.refl _) rfl)
  refine Exists.intro (fun v hh => v = .int .i64 (F_FirstDefect (x0p0, x1p0) (x0p1, x1p1, x2p1)).2) (And.intro (fun _ _ _ _ e => e) (And.intro ?_ ?_))
  · rintro h3 s3 v rfl
    exact And.intro rfl (And.intro (Sub.refl _) rfl)
  rintro k1 t1 v90 rfl v91 rfl v92 rfl v93 rfl v94 rfl v95 rfl v1w f1w v0w f0w
  refine Tr.mono (t_toPresentation _ [.int .i64 x0p0, .slice a1p0 n1p0 c1p0] (x0p0, x1p0) (wPresentation.mono t1 (closePresentation h0p0 h1p0)) hm0) ?_
  rintro v2 kx0 ⟨csx0, rfl, NX0⟩
  have sx0 := NX0.sub
  obtain ⟨x0x0, a1x0, n1x0, c1x0, x1x0, rfl, ezx0, _, _⟩ := openPresentation NX0.r
  refine Tr.mono (t_toGraph _ [.int .i64 x0p1, .int .i64 x1p1, .slice a2p1 n2p1 c2p1] (x0p1, x1p1, x2p1) (wGraph.mono (t1.trans sx0) (closeGraph h0p1 h1p1 h2p1)) hm1) ?_
  rintro v2 kx1 ⟨csx1, rfl, NX1⟩
  have sx1 := NX1.sub
  obtain ⟨x0x1, x1x1, a2x1, n2x1, c2x1, x2x1, rfl, ezx1, _, _, _⟩ := openGraph NX1.r
  refine Tr.val (t_implFirstDefect _ [.int .i64 x0x0, .slice a1x0 n1x0 c1x0] (x0p0, x1p0) (wPresentation.mono sx1 NX0.r) hm0 [.int .i64 x0x1, .int .i64 x1x1, .slice a2x1 n2x1 c2x1] (x0p1, x1p1, x2p1) NX1.r hm1) ?_
  refine And.intro (fun hc => ?_) (fun hc => ?_)
  · exact absurd hc (by simp)
  clear hc
  refine Or.inr (Or.inl (And.intro (And.intro (by kernel_rfl) (by kernel_rfl)) ?_))
  refine Exists.intro (fun v hh => ∃ cs, v = .agg cs.toArray ∧ wPresentation.R hh cs (x0p0, x1p0)) (And.intro (fun v ha hb s hh => by obtain ⟨cs, e, q⟩ := hh; exact ⟨cs, e, wPresentation.mono s q⟩) (And.intro ?_ ?_))
  · intro h3 s3
    refine Tr.mono (t_toPresentation h3 [.int .i64 x0p0, .slice a1p0 n1p0 c1p0] (x0p0, x1p0) (wPresentation.mono (((t1.trans sx0).trans sx1).trans s3) (closePresentation h0p0 h1p0)) hm0) ?_
    rintro v h4 ⟨cs4, rfl, n4⟩
    exact And.intro rfl (And.intro n4.sub ⟨cs4, rfl, n4.r⟩)
  refine Exists.intro (fun v hh => v = .bool true) (And.intro (fun _ _ _ _ e => e) (And.intro ?_ ?_))
  · rintro h3 s3 v ⟨cs4, rfl, q⟩
    obtain ⟨x0z, a1z, n1z, c1z, x1z, rfl, ez, _, _⟩ := openPresentation q
    refine Tr.mono (t_eqPresentation h3 [.int .i64 x0x0, .slice a1x0 n1x0 c1x0] [.int .i64 x0z, .slice a1z n1z c1z] (x0p0, x1p0) (x0p0, x1p0) (wPresentation.mono (sx1.trans s3) NX0.r) q) ?_
    rintro v h4 ⟨rfl, rfl⟩
    exact And.intro rfl (And.intro (Sub.refl _) (by simp))
  refine Exists.intro (fun v hh => v = .bool false) (And.intro (fun _ _ _ _ e => e) (And.intro ?_ ?_))
  · rintro h3 s3 v rfl
    exact And.intro rfl (And.intro (Sub.refl _) rfl)
  rintro ke0 te0 v9 rfl v8 rfl v7 f7
  refine And.intro (fun hc => ?_) (fun hc => ?_)
  · cases hc
  clear hc
  refine Or.inr (Or.inl (And.intro (And.intro (by kernel_rfl) (by kernel_rfl)) ?_))
  refine Exists.intro (fun v hh => ∃ cs, v = .agg cs.toArray ∧ wGraph.R hh cs (x0p1, x1p1, x2p1)) (And.intro (fun v ha hb s hh => by obtain ⟨cs, e, q⟩ := hh; exact ⟨cs, e, wGraph.mono s q⟩) (And.intro ?_ ?_))
  · intro h3 s3
    refine Tr.mono (t_toGraph h3 [.int .i64 x0p1, .int .i64 x1p1, .slice a2p1 n2p1 c2p1] (x0p1, x1p1, x2p1) (wGraph.mono ((((t1.trans sx0).trans sx1).trans te0).trans s3) (closeGraph h0p1 h1p1 h2p1)) hm1) ?_
    rintro v h4 ⟨cs4, rfl, n4⟩
    exact And.intro rfl (And.intro n4.sub ⟨cs4, rfl, n4.r⟩)
  refine Exists.intro (fun v hh => v = .bool true) (And.intro (fun _ _ _ _ e => e) (And.intro ?_ ?_))
  · rintro h3 s3 v ⟨cs4, rfl, q⟩
    obtain ⟨x0z, x1z, a2z, n2z, c2z, x2z, rfl, ez, _, _, _⟩ := openGraph q
    refine Tr.mono (t_eqGraph h3 [.int .i64 x0x1, .int .i64 x1x1, .slice a2x1 n2x1 c2x1] [.int .i64 x0z, .int .i64 x1z, .slice a2z n2z c2z] (x0p1, x1p1, x2p1) (x0p1, x1p1, x2p1) (wGraph.mono (te0.trans s3) NX1.r) q) ?_
    rintro v h4 ⟨rfl, rfl⟩
    exact And.intro rfl (And.intro (Sub.refl _) (by simp))
  refine Exists.intro (fun v hh => v = .bool false) (And.intro (fun _ _ _ _ e => e) (And.intro ?_ ?_))
  · rintro h3 s3 v rfl
    exact And.intro rfl (And.intro (Sub.refl _) rfl)
  rintro ke1 te1 v9 rfl v8 rfl v7 f7
  refine And.intro (fun hc => ?_) (fun hc => ?_)
  · cases hc
  clear hc
  exact And.intro rfl ((((t1.trans sx0).trans sx1).trans te0).trans te1)
end Go.Proofs.Ythccjgkmmclplaa
