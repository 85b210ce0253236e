/- What the law on ActionLine does. -/
import Derived.Test.YtknoadmdnjaocaaGreatKActionLine
import Derived.Test.YtknoadmdnjaocaaGreatPart17
namespace Go.Proofs.YtknoadmdnjaocaaGreat
open Go.H
set_option linter.unusedVariables false
set_option linter.unusedSimpArgs false
set_option maxRecDepth 10000
theorem I09 (h : Hp) (ds0 : List Value) (y0 : l0) (hy0 : P0.R h ds0 y0) :
  Tr Tryz.prog 8 #[.agg ds0.toArray] h fun v h' => v = .bool true ∧ Sub h h' := by
 obtain ⟨x0p0, x1p0, a2p0, n2p0, c2p0, x2p0, rfl, rfl, h0p0, h1p0, h2p0⟩ := C0 hy0
 refine T2 (args := [.agg #[.int .i64 x0p0, .int .i64 x1p0, .slice a2p0 n2p0 c2p0]]) (fn := Tryz.f8) rfl ?_
 refine Tr.val (a0j _ [.int .i64 x0p0, .int .i64 x1p0, .slice a2p0 n2p0 c2p0] (x0p0, x1p0, x2p0) (1048576) (z0 h0p0 h1p0 h2p0) ⟨by omega, by omega⟩) ?_
 refine And.intro (fun hc => And.intro rfl (Sub.refl _)) (fun hc => ?_)
 have hz0 : 0 ≤ szR (1048576) (h03 (x0p0, x1p0, x2p0) : Nat) := by simpa using hc
 have hq0 := N0j hz0
 have hm0 : h03 (x0p0, x1p0, x2p0) ≤ 1048576 := by omega
 refine Tr.mono (S08 _ [.int .i64 x0p0, .int .i64 x1p0, .slice a2p0 n2p0 c2p0] (x0p0, x1p0, x2p0) (z0 h0p0 h1p0 h2p0) hm0) ?_
 rintro v1 k1 ⟨cs1, rfl, n1⟩
 obtain ⟨x0w, x1w, a2w, n2w, c2w, x2w, rfl, ezw, _, _, _⟩ := C0 n1.r
 refine Tr.val (Q08 _ [.int .i64 x0w, .int .i64 x1w, .slice a2w n2w c2w] (x0p0, x1p0, x2p0) n1.r hm0) ?_
 refine Tr.mono (S08 _ [.int .i64 x0p0, .int .i64 x1p0, .slice a2p0 n2p0 c2p0] (x0p0, x1p0, x2p0) (P0.mono n1.sub (z0 h0p0 h1p0 h2p0)) hm0) ?_
 rintro v2 kx0 ⟨csx0, rfl, NX0⟩
 have sx0 := NX0.sub
 obtain ⟨x0x0, x1x0, a2x0, n2x0, c2x0, x2x0, rfl, ezx0, _, _, _⟩ := C0 NX0.r
 refine Tr.val (R08 _ [.int .i64 x0x0, .int .i64 x1x0, .slice a2x0 n2x0 c2x0] (x0p0, x1p0, x2p0) NX0.r hm0) ?_
 refine And.intro (fun hc => ?_) (fun hc => ?_)
 ·exact absurd hc (by simp)
 clear hc
 refine Or.inr (Or.inl (And.intro (And.intro (by kernel_rfl) (by kernel_rfl)) ?_))
 refine Exists.intro (fun v hh => ∃ cs, v = .agg cs.toArray ∧ P0.R hh cs (x0p0, x1p0, x2p0)) (And.intro (fun v ha hb s hh => by obtain ⟨cs, e, q⟩ := hh; exact ⟨cs, e, P0.mono s q⟩) (And.intro ?_ ?_))
 ·intro h3 s3
  refine Tr.mono (S08 h3 [.int .i64 x0p0, .int .i64 x1p0, .slice a2p0 n2p0 c2p0] (x0p0, x1p0, x2p0) (P0.mono ((n1.sub.trans sx0).trans s3) (z0 h0p0 h1p0 h2p0)) hm0) ?_
  rintro v h4 ⟨cs4, rfl, n4⟩
  exact And.intro rfl (And.intro n4.sub ⟨cs4, rfl, n4.r⟩)
 refine Exists.intro (fun v hh => v = .bool true) (And.intro (fun _ _ _ _ e => e) (And.intro ?_ ?_))
 ·rintro h3 s3 v ⟨cs4, rfl, q⟩
  obtain ⟨x0z, x1z, a2z, n2z, c2z, x2z, rfl, ez, _, _, _⟩ := C0 q
  refine Tr.mono (c0j h3 [.int .i64 x0x0, .int .i64 x1x0, .slice a2x0 n2x0 c2x0] [.int .i64 x0z, .int .i64 x1z, .slice a2z n2z c2z] (x0p0, x1p0, x2p0) (x0p0, x1p0, x2p0) (P0.mono s3 NX0.r) q) ?_
  rintro v h4 ⟨rfl, rfl⟩
  exact And.intro rfl (And.intro (Sub.refl _) (by simp))
 refine Exists.intro (fun v hh => v = .bool false) (And.intro (fun _ _ _ _ e => e) (And.intro ?_ ?_))
 ·rintro h3 s3 v rfl
  exact And.intro rfl (And.intro (Sub.refl _) rfl)
 rintro ke0 te0 v9 rfl v8 rfl v7 f7
 refine And.intro (fun hc => ?_) (fun hc => ?_)
 ·cases hc
 clear hc
 exact And.intro rfl ((n1.sub.trans sx0).trans te0)
end Go.Proofs.YtknoadmdnjaocaaGreat
