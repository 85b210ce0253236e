/- What the law on IsTrivialIn does. -/
import Derived.Test.YtfdlgbfeceodeaaGreatKIsTrivialIn
import Derived.Test.YtfdlgbfeceodeaaGreatPart17
namespace Go.Proofs.YtfdlgbfeceodeaaGreat
open Go.H
set_option linter.unusedVariables false
set_option linter.unusedSimpArgs false
set_option maxRecDepth 10000
theorem v09 (h : Hp) (ds0 : List Value) (y0 : F0) (hy0 : F1.R h ds0 y0) (v1 : Value) (y1 : P0) (hy1 : Z0.R h [v1] y1) :
  Tr Tryz.prog 12 #[.agg ds0.toArray, v1] h fun v h' => v = .bool true ∧ Sub h h' := by
 obtain ⟨x0p0, a1p0, n1p0, c1p0, x1p0, rfl, rfl, h0p0, h1p0⟩ := U1 hy0
 obtain ⟨a1, n1, c1, eq1⟩ := Wp.slice_cell hy1
 cases eq1
 refine Q2 (args := [.agg #[.int .i64 x0p0, .slice a1p0 n1p0 c1p0], .slice a1 n1 c1]) (fn := Tryz.f12) rfl ?_
 obtain ⟨en1, _⟩ := Sl.len hy1
 subst en1
 refine And.intro (fun hc => And.intro rfl (Sub.refl _)) (fun hc => ?_)
 have hs1 : y1.length ≤ 1048576 := by simp at hc; omega
 have hm1 : u00 y1 ≤ 1048576 := hs1
 refine Tr.val (t09 _ [.int .i64 x0p0, .slice a1p0 n1p0 c1p0] (x0p0, x1p0) (1048576) (Z1 h0p0 h1p0) ⟨by omega, by omega⟩) ?_
 refine And.intro (fun hc => And.intro rfl (Sub.refl _)) (fun hc => ?_)
 have hz0 : 0 ≤ szR (1048576) (H6 (x0p0, x1p0) : Nat) := by simpa using hc
 have hq0 := I0g hz0
 have hm0 : H6 (x0p0, x1p0) ≤ 1048576 := by omega
 refine Tr.mono (J01 _ [.int .i64 x0p0, .slice a1p0 n1p0 c1p0] (x0p0, x1p0) (Z1 h0p0 h1p0) hm0) ?_
 rintro v1 kw0 ⟨cs1, rfl, NV0⟩
 obtain ⟨x0w0, a1w0, n1w0, c1w0, x1w0, rfl, ezw0, _, _⟩ := U1 NV0.r
 refine Tr.mono (t08 _ a1 y1.length c1 y1 (Z0.mono NV0.sub hy1) hm1) ?_
 rintro v1 kw1 NV1
 obtain ⟨aw1, nw1, cw1, ezw1⟩ := Wp.slice_cell NV1.r
 cases ezw1
 refine Tr.val (r08 _ [.int .i64 x0w0, .slice a1w0 n1w0 c1w0] (x0p0, x1p0) (F1.mono NV1.sub NV0.r) hm0 aw1 nw1 cw1 y1 NV1.r hm1) ?_
 refine Tr.mono (J01 _ [.int .i64 x0p0, .slice a1p0 n1p0 c1p0] (x0p0, x1p0) (F1.mono (NV0.sub.trans NV1.sub) (Z1 h0p0 h1p0)) hm0) ?_
 rintro v2 kx0 ⟨csx0, rfl, NX0⟩
 have sx0 := NX0.sub
 obtain ⟨x0x0, a1x0, n1x0, c1x0, x1x0, rfl, ezx0, _, _⟩ := U1 NX0.r
 refine Tr.mono (t08 _ a1 y1.length c1 y1 (Z0.mono ((NV0.sub.trans NV1.sub).trans sx0) hy1) hm1) ?_
 rintro vx1 kx1 NX1
 have sx1 := NX1.sub
 obtain ⟨ax1, nx1, cx1, ezx1⟩ := Wp.slice_cell NX1.r
 cases ezx1
 refine Tr.val (s08 _ [.int .i64 x0x0, .slice a1x0 n1x0 c1x0] (x0p0, x1p0) (F1.mono sx1 NX0.r) hm0 ax1 nx1 cx1 y1 NX1.r hm1) ?_
 refine And.intro (fun hc => ?_) (fun hc => ?_)
 ·exact absurd hc (by simp)
 clear hc
 refine Or.inr (Or.inl (And.intro (And.intro (by kernel_rfl) (by kernel_rfl)) ?_))
 refine Exists.intro (fun v hh => ∃ cs, v = .agg cs.toArray ∧ F1.R hh cs (x0p0, x1p0)) (And.intro (fun v ha hb s hh => by obtain ⟨cs, e, q⟩ := hh; exact ⟨cs, e, F1.mono s q⟩) (And.intro ?_ ?_))
 ·intro h3 s3
  refine Tr.mono (J01 h3 [.int .i64 x0p0, .slice a1p0 n1p0 c1p0] (x0p0, x1p0) (F1.mono ((((NV0.sub.trans NV1.sub).trans sx0).trans sx1).trans s3) (Z1 h0p0 h1p0)) hm0) ?_
  rintro v h4 ⟨cs4, rfl, n4⟩
  exact And.intro rfl (And.intro n4.sub ⟨cs4, rfl, n4.r⟩)
 refine Exists.intro (fun v hh => v = .bool true) (And.intro (fun _ _ _ _ e => e) (And.intro ?_ ?_))
 ·rintro h3 s3 v ⟨cs4, rfl, q⟩
  obtain ⟨x0z, a1z, n1z, c1z, x1z, rfl, ez, _, _⟩ := U1 q
  refine Tr.mono (u09 h3 [.int .i64 x0x0, .slice a1x0 n1x0 c1x0] [.int .i64 x0z, .slice a1z n1z c1z] (x0p0, x1p0) (x0p0, x1p0) (F1.mono (sx1.trans s3) NX0.r) q) ?_
  rintro v h4 ⟨rfl, rfl⟩
  exact And.intro rfl (And.intro (Sub.refl _) (by simp))
 refine Exists.intro (fun v hh => v = .bool false) (And.intro (fun _ _ _ _ e => e) (And.intro ?_ ?_))
 ·rintro h3 s3 v rfl
  exact And.intro rfl (And.intro (Sub.refl _) rfl)
 rintro ke0 te0 v9 rfl v8 rfl v7 f7
 refine And.intro (fun hc => ?_) (fun hc => ?_)
 ·cases hc
 clear hc
 refine Tr.mono (t08 _ a1 y1.length c1 y1 (Z0.mono ((((NV0.sub.trans NV1.sub).trans sx0).trans sx1).trans te0) hy1) hm1) ?_
 rintro vq1 ke1 NQ1
 obtain ⟨aq1, nq1, cq1, ezq1⟩ := Wp.slice_cell NQ1.r
 cases ezq1
 refine Tr.val (k0g _ ax1 nx1 cx1 aq1 nq1 cq1 y1 y1 (Z0.mono (te0.trans NQ1.sub) NX1.r) NQ1.r) ?_
 refine And.intro (fun hc => ?_) (fun hc => ?_)
 ·exact absurd hc (by simp)
 clear hc
 exact And.intro rfl (((((NV0.sub.trans NV1.sub).trans sx0).trans sx1).trans te0).trans NQ1.sub)
end Go.Proofs.YtfdlgbfeceodeaaGreat
