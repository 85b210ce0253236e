/- What the law on EqualNotebooks does. -/
import Derived.Test.YtalidbmconldoaaM5
import Derived.Test.YtalidbmconldoaaG2
import Derived.Test.YtalidbmconldoaaG3
import Derived.Test.YtalidbmconldoaaG4
namespace Go.Proofs.Ytalidbmconldoaa
open Go.H
set_option linter.unusedVariables false
set_option linter.unusedSimpArgs false
set_option maxRecDepth 10000

theorem t_lawEqualNotebooks (h : Hp) (ds0 : List Value) (y0 : LNotebook) (hy0 : wNotebook.R h ds0 y0) (ds1 : List Value) (y1 : LNotebook) (hy1 : wNotebook.R h ds1 y1) :
    Tr Try.prog 13 #[.agg ds0.toArray, .agg ds1.toArray] h fun v h' => v = .bool true ∧ Sub h h' := by
  obtain ⟨x0p0, a1p0, n1p0, c1p0, x1p0, rfl, rfl, h0p0, h1p0⟩ := openNotebook hy0
  obtain ⟨x0p1, a1p1, n1p1, c1p1, x1p1, rfl, rfl, h0p1, h1p1⟩ := openNotebook hy1
  refine walk (args := [.agg #[.int .i64 x0p0, .slice a1p0 n1p0 c1p0], .agg #[.int .i64 x0p1, .slice a1p1 n1p1 c1p1]]) (fn := Try.f13) rfl ?_
  refine Tr.val (t_szNotebook _ [.int .i64 x0p0, .slice a1p0 n1p0 c1p0] (x0p0, x1p0) (1048576) (closeNotebook h0p0 h1p0) ⟨by omega, by omega⟩) ?_
  refine And.intro (fun hc => And.intro rfl (Sub.refl _)) (fun hc => ?_)
  have hz0 : 0 ≤ szR (1048576) (mNotebook (x0p0, x1p0) : Nat) := by simpa using hc
  have hq0 := szR_le hz0
  have hm0 : mNotebook (x0p0, x1p0) ≤ 1048576 := by omega
  refine Tr.val (t_szNotebook _ [.int .i64 x0p1, .slice a1p1 n1p1 c1p1] (x0p1, x1p1) (szR (1048576) (mNotebook (x0p0, x1p0) : Nat)) (closeNotebook h0p1 h1p1) ⟨by omega, by omega⟩) ?_
  refine And.intro (fun hc => And.intro rfl (Sub.refl _)) (fun hc => ?_)
  have hz1 : 0 ≤ szR (szR (1048576) (mNotebook (x0p0, x1p0) : Nat)) (mNotebook (x0p1, x1p1) : Nat) := by simpa using hc
  have hq1 := szR_le hz1
  have hm1 : mNotebook (x0p1, x1p1) ≤ 1048576 := by omega
  refine Or.inr (And.intro (And.intro (by kernel_rfl) (by kernel_rfl)) ?_)
  refine Exists.intro (fun v hh => ∃ cs, v = .agg cs.toArray ∧ wNotebook.R hh cs (x0p0, x1p0)) (And.intro (fun v ha hb s hh => by obtain ⟨cs, e, q⟩ := hh; exact ⟨cs, e, wNotebook.mono s q⟩) (And.intro ?_ ?_))
  · intro h3 s3
    refine Tr.mono (t_toNotebook h3 [.int .i64 x0p0, .slice a1p0 n1p0 c1p0] (x0p0, x1p0) (wNotebook.mono s3 (closeNotebook h0p0 h1p0)) hm0) ?_
    rintro v h4 ⟨cs4, rfl, n4⟩
    exact And.intro rfl (And.intro n4.sub ⟨cs4, rfl, n4.r⟩)
  refine Exists.intro (fun v hh => ∃ cs, v = .agg cs.toArray ∧ wNotebook.R hh cs (x0p1, x1p1)) (And.intro (fun v ha hb s hh => by obtain ⟨cs, e, q⟩ := hh; exact ⟨cs, e, wNotebook.mono s q⟩) (And.intro ?_ ?_))
  · intro h3 s3
    refine Tr.mono (t_toNotebook h3 [.int .i64 x0p1, .slice a1p1 n1p1 c1p1] (x0p1, x1p1) (wNotebook.mono s3 (closeNotebook h0p1 h1p1)) hm1) ?_
    rintro v h4 ⟨cs4, rfl, n4⟩
    exact And.intro rfl (And.intro n4.sub ⟨cs4, rfl, n4.r⟩)
  refine Exists.intro (fun v hh => v = .bool (F_EqualNotebooks (x0p0, x1p0) (x0p1, x1p1))) (And.intro (fun _ _ _ _ e => e) (And.intro ?_ ?_))
  · intro h3 s3 v0w f0w v1w f1w
    obtain ⟨cs0w, rfl, r0w⟩ := f0w
    obtain ⟨x0w0, a1w0, n1w0, c1w0, x1w0, rfl, ezw0, _, _⟩ := openNotebook r0w
    obtain ⟨cs1w, rfl, r1w⟩ := f1w
    obtain ⟨x0w1, a1w1, n1w1, c1w1, x1w1, rfl, ezw1, _, _⟩ := openNotebook r1w
    refine Tr.mono (t_specEqualNotebooks _ [.int .i64 x0w0, .slice a1w0 n1w0 c1w0] (x0p0, x1p0) r0w hm0 [.int .i64 x0w1, .slice a1w1 n1w1 c1w1] (x0p1, x1p1) r1w hm1) ?_
    rintro v h4 ⟨rfl, rfl⟩
    exact And.intro rfl (And.intro (Sub.refl _) rfl)
  refine Exists.intro (fun v hh => v = .bool (F_EqualNotebooks (x0p0, x1p0) (x0p1, x1p1))) (And.intro (fun _ _ _ _ e => e) (And.intro ?_ ?_))
  · rintro h3 s3 v rfl
    exact And.intro rfl (And.intro (Sub.refl _) rfl)
  rintro k1 t1 v9 rfl v8 rfl v1w f1w v0w f0w
  refine Tr.mono (t_toNotebook _ [.int .i64 x0p0, .slice a1p0 n1p0 c1p0] (x0p0, x1p0) (wNotebook.mono t1 (closeNotebook h0p0 h1p0)) hm0) ?_
  rintro v2 kx0 ⟨csx0, rfl, nx0⟩
  obtain ⟨x0x0, a1x0, n1x0, c1x0, x1x0, rfl, ezx0, _, _⟩ := openNotebook nx0.r
  refine Tr.mono (t_toNotebook _ [.int .i64 x0p1, .slice a1p1 n1p1 c1p1] (x0p1, x1p1) (wNotebook.mono (t1.trans nx0.sub) (closeNotebook h0p1 h1p1)) hm1) ?_
  rintro v2 kx1 ⟨csx1, rfl, nx1⟩
  obtain ⟨x0x1, a1x1, n1x1, c1x1, x1x1, rfl, ezx1, _, _⟩ := openNotebook nx1.r
  refine Tr.val (t_implEqualNotebooks _ [.int .i64 x0x0, .slice a1x0 n1x0 c1x0] (x0p0, x1p0) (wNotebook.mono nx1.sub nx0.r) hm0 [.int .i64 x0x1, .slice a1x1 n1x1 c1x1] (x0p1, x1p1) nx1.r hm1) ?_
  refine And.intro (fun hc => ?_) (fun hc => ?_)
  · exact absurd hc (by simp)
  clear hc
  refine Or.inr (And.intro (And.intro (by kernel_rfl) (by kernel_rfl)) ?_)
  refine Exists.intro (fun v hh => ∃ cs, v = .agg cs.toArray ∧ wNotebook.R hh cs (x0p0, x1p0)) (And.intro (fun v ha hb s hh => by obtain ⟨cs, e, q⟩ := hh; exact ⟨cs, e, wNotebook.mono s q⟩) (And.intro ?_ ?_))
  · intro h3 s3
    refine Tr.mono (t_toNotebook h3 [.int .i64 x0p0, .slice a1p0 n1p0 c1p0] (x0p0, x1p0) (wNotebook.mono (((t1.trans nx0.sub).trans nx1.sub).trans s3) (closeNotebook h0p0 h1p0)) hm0) ?_
    rintro v h4 ⟨cs4, rfl, n4⟩
    exact And.intro rfl (And.intro n4.sub ⟨cs4, rfl, n4.r⟩)
  refine Exists.intro (fun v hh => v = .bool true) (And.intro (fun _ _ _ _ e => e) (And.intro ?_ ?_))
  · rintro h3 s3 v ⟨cs4, rfl, q⟩
    obtain ⟨x0z, a1z, n1z, c1z, x1z, rfl, ez, _, _⟩ := openNotebook q
    refine Tr.mono (t_eqNotebook h3 [.int .i64 x0x0, .slice a1x0 n1x0 c1x0] [.int .i64 x0z, .slice a1z n1z c1z] (x0p0, x1p0) (x0p0, x1p0) (wNotebook.mono (nx1.sub.trans s3) nx0.r) q) ?_
    rintro v h4 ⟨rfl, rfl⟩
    exact And.intro rfl (And.intro (Sub.refl _) (by simp))
  refine Exists.intro (fun v hh => v = .bool false) (And.intro (fun _ _ _ _ e => e) (And.intro ?_ ?_))
  · rintro h3 s3 v rfl
    exact And.intro rfl (And.intro (Sub.refl _) rfl)
  rintro ke0 te0 v9 rfl v8 rfl v7 f7
  refine And.intro (fun hc => ?_) (fun hc => ?_)
  · cases hc
  clear hc
  refine Or.inr (And.intro (And.intro (by kernel_rfl) (by kernel_rfl)) ?_)
  refine Exists.intro (fun v hh => ∃ cs, v = .agg cs.toArray ∧ wNotebook.R hh cs (x0p1, x1p1)) (And.intro (fun v ha hb s hh => by obtain ⟨cs, e, q⟩ := hh; exact ⟨cs, e, wNotebook.mono s q⟩) (And.intro ?_ ?_))
  · intro h3 s3
    refine Tr.mono (t_toNotebook h3 [.int .i64 x0p1, .slice a1p1 n1p1 c1p1] (x0p1, x1p1) (wNotebook.mono ((((t1.trans nx0.sub).trans nx1.sub).trans te0).trans s3) (closeNotebook h0p1 h1p1)) hm1) ?_
    rintro v h4 ⟨cs4, rfl, n4⟩
    exact And.intro rfl (And.intro n4.sub ⟨cs4, rfl, n4.r⟩)
  refine Exists.intro (fun v hh => v = .bool true) (And.intro (fun _ _ _ _ e => e) (And.intro ?_ ?_))
  · rintro h3 s3 v ⟨cs4, rfl, q⟩
    obtain ⟨x0z, a1z, n1z, c1z, x1z, rfl, ez, _, _⟩ := openNotebook q
    refine Tr.mono (t_eqNotebook h3 [.int .i64 x0x1, .slice a1x1 n1x1 c1x1] [.int .i64 x0z, .slice a1z n1z c1z] (x0p1, x1p1) (x0p1, x1p1) (wNotebook.mono (te0.trans s3) nx1.r) q) ?_
    rintro v h4 ⟨rfl, rfl⟩
    exact And.intro rfl (And.intro (Sub.refl _) (by simp))
  refine Exists.intro (fun v hh => v = .bool false) (And.intro (fun _ _ _ _ e => e) (And.intro ?_ ?_))
  · rintro h3 s3 v rfl
    exact And.intro rfl (And.intro (Sub.refl _) rfl)
  rintro ke1 te1 v9 rfl v8 rfl v7 f7
  refine And.intro (fun hc => ?_) (fun hc => ?_)
  · cases hc
  clear hc
  exact And.intro rfl ((((t1.trans nx0.sub).trans nx1.sub).trans te0).trans te1)
end Go.Proofs.Ytalidbmconldoaa
