/- What the law on WordLine does. -/
import Derived.Test.YtknoadmdnjaocaaKWordLine
import Derived.Test.YtknoadmdnjaocaaPart11
namespace Go.Proofs.Ytknoadmdnjaocaa
open Go.H
set_option linter.unusedVariables false
set_option linter.unusedSimpArgs false
set_option maxRecDepth 10000
theorem E07 (h : Hp) (y0 : Int) (hy0 : D0 y0) (v1 : Value) (y1 : i0) (hy1 : j0.R h [v1] y1) :
  Tr Try.prog 3 #[.int .i64 y0, v1] h fun v h' => v = .bool true ∧ Sub h h' := by
 obtain ⟨a1, n1, c1, eq1⟩ := Wp.slice_cell hy1
 cases eq1
 refine S2 (args := [.int .i64 y0, .slice a1 n1 c1]) (fn := Try.f3) rfl ?_
 obtain ⟨en1, _⟩ := Sl.len hy1
 subst en1
 refine And.intro (fun hc => And.intro rfl (Sub.refl _)) (fun hc => ?_)
 have hs1 : y1.length ≤ 1048576 := by simp at hc; omega
 have hm1 : V06 y1 ≤ 1048576 := hs1
 refine Tr.mono (r07 _ a1 y1.length c1 y1 hy1 hm1) ?_
 rintro v1 k1 n1
 obtain ⟨aw, nw, cw, ezw⟩ := Wp.slice_cell n1.r
 cases ezw
 refine Tr.val (p07 _ y0 hy0 aw nw cw y1 n1.r hm1) ?_
 refine Tr.mono (r07 _ a1 y1.length c1 y1 (j0.mono n1.sub hy1) hm1) ?_
 rintro vx1 kx1 NX1
 have sx1 := NX1.sub
 obtain ⟨ax1, nx1, cx1, ezx1⟩ := Wp.slice_cell NX1.r
 cases ezx1
 refine Tr.val (q07 _ y0 hy0 ax1 nx1 cx1 y1 NX1.r hm1) ?_
 refine And.intro (fun hc => ?_) (fun hc => ?_)
 ·exact absurd hc (by simp)
 clear hc
 refine Tr.mono (r07 _ a1 y1.length c1 y1 (j0.mono (n1.sub.trans sx1) hy1) hm1) ?_
 rintro vq1 ke1 NQ1
 obtain ⟨aq1, nq1, cq1, ezq1⟩ := Wp.slice_cell NQ1.r
 cases ezq1
 refine Tr.val (h0e _ ax1 nx1 cx1 aq1 nq1 cq1 y1 y1 (j0.mono NQ1.sub NX1.r) NQ1.r) ?_
 refine And.intro (fun hc => ?_) (fun hc => ?_)
 ·exact absurd hc (by simp)
 clear hc
 exact And.intro rfl ((n1.sub.trans sx1).trans NQ1.sub)
end Go.Proofs.Ytknoadmdnjaocaa
