/- What the law on SizeOfGroup does. -/
import Derived.Test.YtfdlgbfeceodeaaGreatKEnum
import Derived.Test.YtfdlgbfeceodeaaGreatPart17
namespace Go.Proofs.YtfdlgbfeceodeaaGreat
open Go.H
set_option linter.unusedVariables false
set_option linter.unusedSimpArgs false
set_option maxRecDepth 10000
theorem Q08 (h : Hp) (ds0 : List Value) (y0 : C0) (hy0 : D1.R h ds0 y0) :
  Tr Tryz.prog 11 #[.agg ds0.toArray] h fun v h' => v = .bool true ∧ Sub h h' := by
 obtain ⟨x0p0, a1p0, n1p0, c1p0, x1p0, rfl, rfl, h0p0, h1p0⟩ := J1 hy0
 refine U2 (args := [.agg #[.int .i64 x0p0, .slice a1p0 n1p0 c1p0]]) (fn := Tryz.f11) rfl ?_
 refine Tr.val (O08 _ [.int .i64 x0p0, .slice a1p0 n1p0 c1p0] (x0p0, x1p0) (1048576) (L1 h0p0 h1p0) ⟨by omega, by omega⟩) ?_
 refine And.intro (fun hc => And.intro rfl (Sub.refl _)) (fun hc => ?_)
 have hz0 : 0 ≤ szR (1048576) (w6 (x0p0, x1p0) : Nat) := by simpa using hc
 have hq0 := F0f hz0
 have hm0 : w6 (x0p0, x1p0) ≤ 1048576 := by omega
 refine Tr.mono (k01 _ [.int .i64 x0p0, .slice a1p0 n1p0 c1p0] (x0p0, x1p0) (L1 h0p0 h1p0) hm0) ?_
 rintro v1 k1 ⟨cs1, rfl, n1⟩
 obtain ⟨x0w, a1w, n1w, c1w, x1w, rfl, ezw, _, _⟩ := J1 n1.r
 refine Tr.val (O07 _ [.int .i64 x0w, .slice a1w n1w c1w] (x0p0, x1p0) n1.r hm0) ?_
 refine Tr.mono (k01 _ [.int .i64 x0p0, .slice a1p0 n1p0 c1p0] (x0p0, x1p0) (D1.mono n1.sub (L1 h0p0 h1p0)) hm0) ?_
 rintro v2 kx0 ⟨csx0, rfl, NX0⟩
 have sx0 := NX0.sub
 obtain ⟨x0x0, a1x0, n1x0, c1x0, x1x0, rfl, ezx0, _, _⟩ := J1 NX0.r
 refine Tr.val (P07 _ [.int .i64 x0x0, .slice a1x0 n1x0 c1x0] (x0p0, x1p0) NX0.r hm0) ?_
 refine And.intro (fun hc => ?_) (fun hc => ?_)
 ·exact absurd hc (by simp)
 clear hc
 refine Or.inr (Or.inl (And.intro (And.intro (by kernel_rfl) (by kernel_rfl)) ?_))
 refine Exists.intro (fun v hh => ∃ cs, v = .agg cs.toArray ∧ D1.R hh cs (x0p0, x1p0)) (And.intro (fun v ha hb s hh => by obtain ⟨cs, e, q⟩ := hh; exact ⟨cs, e, D1.mono s q⟩) (And.intro ?_ ?_))
 ·intro h3 s3
  refine Tr.mono (k01 h3 [.int .i64 x0p0, .slice a1p0 n1p0 c1p0] (x0p0, x1p0) (D1.mono ((n1.sub.trans sx0).trans s3) (L1 h0p0 h1p0)) hm0) ?_
  rintro v h4 ⟨cs4, rfl, n4⟩
  exact And.intro rfl (And.intro n4.sub ⟨cs4, rfl, n4.r⟩)
 refine Exists.intro (fun v hh => v = .bool true) (And.intro (fun _ _ _ _ e => e) (And.intro ?_ ?_))
 ·rintro h3 s3 v ⟨cs4, rfl, q⟩
  obtain ⟨x0z, a1z, n1z, c1z, x1z, rfl, ez, _, _⟩ := J1 q
  refine Tr.mono (P08 h3 [.int .i64 x0x0, .slice a1x0 n1x0 c1x0] [.int .i64 x0z, .slice a1z n1z c1z] (x0p0, x1p0) (x0p0, x1p0) (D1.mono s3 NX0.r) q) ?_
  rintro v h4 ⟨rfl, rfl⟩
  exact And.intro rfl (And.intro (Sub.refl _) (by simp))
 refine Exists.intro (fun v hh => v = .bool false) (And.intro (fun _ _ _ _ e => e) (And.intro ?_ ?_))
 ·rintro h3 s3 v rfl
  exact And.intro rfl (And.intro (Sub.refl _) rfl)
 rintro ke0 te0 v9 rfl v8 rfl v7 f7
 refine And.intro (fun hc => ?_) (fun hc => ?_)
 ·cases hc
 clear hc
 exact And.intro rfl ((n1.sub.trans sx0).trans te0)
end Go.Proofs.YtfdlgbfeceodeaaGreat
