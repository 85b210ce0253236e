/- What the law on EnumerateCosets does. -/
import Derived.Test.YtfdlgbfeceodeaaGreatKEnum
import Derived.Test.YtfdlgbfeceodeaaGreatPart17
namespace Go.Proofs.YtfdlgbfeceodeaaGreat
open Go.H
set_option linter.unusedVariables false
set_option linter.unusedSimpArgs false
set_option maxRecDepth 10000
theorem F05 (h : Hp) (ds0 : List Value) (y0 : D0) (hy0 : j1.R h ds0 y0) (v1 : Value) (y1 : V2) (hy1 : D3.R h [v1] y1) :
  Tr Tryz.prog 13 #[.agg ds0.toArray, v1] h fun v h' => v = .bool true ∧ Sub h h' := by
 obtain ⟨x0p0, a1p0, n1p0, c1p0, x1p0, rfl, rfl, h0p0, h1p0⟩ := A2 hy0
 obtain ⟨a1, n1, c1, eq1⟩ := Wp.slice_cell hy1
 cases eq1
 refine T2 (args := [.agg #[.int .i64 x0p0, .slice a1p0 n1p0 c1p0], .slice a1 n1 c1]) (fn := Tryz.f13) rfl ?_
 refine Tr.val (k09 _ [.int .i64 x0p0, .slice a1p0 n1p0 c1p0] (x0p0, x1p0) (1048576) (J2 h0p0 h1p0) ⟨by omega, by omega⟩) ?_
 refine And.intro (fun hc => And.intro rfl (Sub.refl _)) (fun hc => ?_)
 have hz0 : 0 ≤ szR (1048576) (l4 (x0p0, x1p0) : Nat) := by simpa using hc
 have hq0 := K0d hz0
 have hm0 : l4 (x0p0, x1p0) ≤ 1048576 := by omega
 refine Tr.val (g0d _ a1 n1 c1 y1 (szR (1048576) (l4 (x0p0, x1p0) : Nat)) hy1 ⟨by omega, by omega⟩) ?_
 refine And.intro (fun hc => And.intro rfl (Sub.refl _)) (fun hc => ?_)
 have hz1 : 0 ≤ szR (szR (1048576) (l4 (x0p0, x1p0) : Nat)) (j9 y1 : Nat) := by simpa using hc
 have hq1 := K0d hz1
 have hm1 : j9 y1 ≤ 1048576 := by omega
 refine Tr.mono (z00 _ [.int .i64 x0p0, .slice a1p0 n1p0 c1p0] (x0p0, x1p0) (J2 h0p0 h1p0) hm0) ?_
 rintro v1 kw0 ⟨cs1, rfl, NV0⟩
 obtain ⟨x0w0, a1w0, n1w0, c1w0, x1w0, rfl, ezw0, _, _⟩ := A2 NV0.r
 refine Tr.mono (U03 _ a1 n1 c1 y1 (D3.mono NV0.sub hy1) hm1) ?_
 rintro v1 kw1 NV1
 obtain ⟨aw1, nw1, cw1, ezw1⟩ := Wp.slice_cell NV1.r
 cases ezw1
 refine Tr.mono (K04 _ [.int .i64 x0w0, .slice a1w0 n1w0 c1w0] (x0p0, x1p0) (j1.mono NV1.sub NV0.r) hm0 aw1 nw1 cw1 y1 NV1.r hm1) ?_
 rintro vW kW ⟨csW, rfl, rW, sW⟩
 obtain ⟨x0W, x1W, a2W, n2W, c2W, x2W, rfl, eRW, _, _, _⟩ := B0 rW
 refine Tr.mono (z00 _ [.int .i64 x0p0, .slice a1p0 n1p0 c1p0] (x0p0, x1p0) (j1.mono ((NV0.sub.trans NV1.sub).trans sW) (J2 h0p0 h1p0)) hm0) ?_
 rintro v2 kx0 ⟨csx0, rfl, NX0⟩
 have sx0 := NX0.sub
 obtain ⟨x0x0, a1x0, n1x0, c1x0, x1x0, rfl, ezx0, _, _⟩ := A2 NX0.r
 refine Tr.mono (U03 _ a1 n1 c1 y1 (D3.mono (((NV0.sub.trans NV1.sub).trans sW).trans sx0) hy1) hm1) ?_
 rintro vx1 kx1 NX1
 have sx1 := NX1.sub
 obtain ⟨ax1, nx1, cx1, ezx1⟩ := Wp.slice_cell NX1.r
 cases ezx1
 refine Tr.mono (p01 _ [.int .i64 x0x0, .slice a1x0 n1x0 c1x0] (x0p0, x1p0) (j1.mono sx1 NX0.r) hm0 ax1 nx1 cx1 y1 NX1.r hm1) ?_
 rintro vG kG ⟨csG, rfl, NWG⟩
 have sG := NWG.sub
 obtain ⟨x0G, x1G, a2G, n2G, c2G, x2G, rfl, eRG, _, _, _⟩ := B0 NWG.r
 refine Tr.val (l09 _ [.int .i64 x0G, .int .i64 x1G, .slice a2G n2G c2G] [.int .i64 x0W, .int .i64 x1W, .slice a2W n2W c2W] (P1 (x0p0, x1p0) y1).1 (P1 (x0p0, x1p0) y1).1 NWG.r (Y0.mono ((sx0.trans sx1).trans sG) rW)) ?_
 refine And.intro (fun hc => ?_) (fun hc => ?_)
 ·simp at hc
 clear hc
 refine Or.inr (Or.inl (And.intro (And.intro (by kernel_rfl) (by kernel_rfl)) ?_))
 refine Exists.intro (fun v hh => ∃ cs, v = .agg cs.toArray ∧ j1.R hh cs (x0p0, x1p0)) (And.intro (fun v ha hb s hh => by obtain ⟨cs, e, q⟩ := hh; exact ⟨cs, e, j1.mono s q⟩) (And.intro ?_ ?_))
 ·intro h3 s3
  refine Tr.mono (z00 h3 [.int .i64 x0p0, .slice a1p0 n1p0 c1p0] (x0p0, x1p0) (j1.mono ((((((NV0.sub.trans NV1.sub).trans sW).trans sx0).trans sx1).trans sG).trans s3) (J2 h0p0 h1p0)) hm0) ?_
  rintro v h4 ⟨cs4, rfl, n4⟩
  exact And.intro rfl (And.intro n4.sub ⟨cs4, rfl, n4.r⟩)
 refine Exists.intro (fun v hh => v = .bool true) (And.intro (fun _ _ _ _ e => e) (And.intro ?_ ?_))
 ·rintro h3 s3 v ⟨cs4, rfl, q⟩
  obtain ⟨x0z, a1z, n1z, c1z, x1z, rfl, ez, _, _⟩ := A2 q
  refine Tr.mono (m09 h3 [.int .i64 x0x0, .slice a1x0 n1x0 c1x0] [.int .i64 x0z, .slice a1z n1z c1z] (x0p0, x1p0) (x0p0, x1p0) (j1.mono ((sx1.trans sG).trans s3) NX0.r) q) ?_
  rintro v h4 ⟨rfl, rfl⟩
  exact And.intro rfl (And.intro (Sub.refl _) (by simp))
 refine Exists.intro (fun v hh => v = .bool false) (And.intro (fun _ _ _ _ e => e) (And.intro ?_ ?_))
 ·rintro h3 s3 v rfl
  exact And.intro rfl (And.intro (Sub.refl _) rfl)
 rintro ke0 te0 v9 rfl v8 rfl v7 f7
 refine And.intro (fun hc => ?_) (fun hc => ?_)
 ·cases hc
 clear hc
 refine Tr.mono (U03 _ a1 n1 c1 y1 (D3.mono ((((((NV0.sub.trans NV1.sub).trans sW).trans sx0).trans sx1).trans sG).trans te0) hy1) hm1) ?_
 rintro vq1 ke1 NQ1
 obtain ⟨aq1, nq1, cq1, ezq1⟩ := Wp.slice_cell NQ1.r
 cases ezq1
 refine Tr.val (h0d _ ax1 nx1 cx1 aq1 nq1 cq1 y1 y1 (D3.mono ((sG.trans te0).trans NQ1.sub) NX1.r) NQ1.r) ?_
 refine And.intro (fun hc => ?_) (fun hc => ?_)
 ·exact absurd hc (by simp)
 clear hc
 have SH0 : Sub h ke1 := (((((((NV0.sub.trans NV1.sub).trans sW).trans sx0).trans sx1).trans sG).trans te0).trans NQ1.sub)
 have SW0 : Sub kW ke1 := ((((sx0.trans sx1).trans sG).trans te0).trans NQ1.sub)
 obtain ⟨BG, wG, FG, _⟩ := NWG
 have WG0 := Wp.sub wG (te0.trans NQ1.sub)
 obtain ⟨BX0, wX0, FX0, _⟩ := NX0
 have WX0_0 := Wp.sub wX0 (((sx1.trans sG).trans te0).trans NQ1.sub)
 have DX0 : ∀ b ∈ BX0, kx1 b ≠ none := j1.dom (Wp.sub wX0 sx1)
 obtain ⟨BX1, wX1, FX1, _⟩ := NX1
 have WX1_0 := Wp.sub wX1 ((sG.trans te0).trans NQ1.sub)
 have DX1 : ∀ b ∈ BX1, kx1 b ≠ none := D3.dom (wX1)
 have cb0 := d0b (x0p0, x1p0)
 refine Tr.mono (W06 _ [.int .i64 x0x0, .slice a1x0 n1x0 c1x0] (x0p0, x1p0) BX0 (1) WX0_0 FX0.1 ⟨by omega, by omega⟩) ?_
 rintro vm0 hk0 ⟨rfl, _, fm0⟩
 have SH1 : Sub h hk0 := R05 ((NV0.sub.trans NV1.sub).trans sW) FX0.2 SH0 fm0
 have SW1 : Sub kW hk0 := R05 (Sub.refl _) FX0.2 SW0 fm0
 have WG1 := b0b WG0 FG.2 DX0 fm0
 have WX1_1 := b0b WX1_0 FX1.2 (j1.dom (wX0)) fm0
 have cb1 := u0h y1
 refine Tr.mono (I09 _ ax1 nx1 cx1 y1 BX1 (1 + (G7 (x0p0, x1p0) : Nat)) WX1_1 FX1.1 ⟨by omega, by omega⟩) ?_
 rintro vm1 hk1 ⟨rfl, _, fm1⟩
 have SH2 : Sub h hk1 := R05 (((NV0.sub.trans NV1.sub).trans sW).trans sx0) FX1.2 SH1 fm1
 have SW2 : Sub kW hk1 := R05 sx0 FX1.2 SW1 fm1
 have WG2 := b0b WG1 FG.2 DX1 fm1
 refine Exists.intro (.bool _) (And.intro (fun _ => l09 _ [.int .i64 x0G, .int .i64 x1G, .slice a2G n2G c2G] [.int .i64 x0W, .int .i64 x1W, .slice a2W n2W c2W] (P1 (x0p0, x1p0) y1).1 (P1 (x0p0, x1p0) y1).1 (Y0.toR WG2) (Y0.mono SW2 rW)) ?_)
 refine And.intro (fun hc => ?_) (fun hc => ?_)
 ·simp at hc <;> omega
 clear hc
 have cbR := j08 (x0p0, x1p0) y1 hm0 hm1
 refine Tr.mono (R0f _ [.int .i64 x0G, .int .i64 x1G, .slice a2G n2G c2G] (P1 (x0p0, x1p0) y1).1 BG 1 WG2 FG.1 ⟨by omega, by omega⟩) ?_
 rintro vmG hG ⟨rfl, WM, fG⟩
 have SHG : Sub h hG := R05 ((((NV0.sub.trans NV1.sub).trans sW).trans sx0).trans sx1) FG.2 SH2 fG
 have SWG : Sub kW hG := R05 (sx0.trans sx1) FG.2 SW2 fG
 refine Tr.val (J09 _ [.int .i64 x0G, .int .i64 x1G, .slice a2G n2G c2G] (P1 (x0p0, x1p0) y1).1 1 (Y0.toR WM) ⟨by omega, by omega⟩) ?_
 refine And.intro (fun hc => ?_) (fun hc => ?_)
 ·have : (1 : Int) + (i9 (P1 (x0p0, x1p0) y1).1 : Nat) < 0 := by simpa only [decide_eq_true_eq] using hc
  omega
 clear hc
 refine And.intro (fun hc => ?_) (fun hc => ?_)
 ·simp at hc
 clear hc
 refine Tr.mono (z00 _ [.int .i64 x0p0, .slice a1p0 n1p0 c1p0] (x0p0, x1p0) (j1.mono SHG (J2 h0p0 h1p0)) hm0) ?_
 rintro v5 kA0 ⟨csA, rfl, NA0⟩
 obtain ⟨x0A0, a1A0, n1A0, c1A0, x1A0, rfl, ezA0, _, _⟩ := A2 NA0.r
 refine Tr.mono (U03 _ a1 n1 c1 y1 (D3.mono (SHG.trans NA0.sub) hy1) hm1) ?_
 rintro v5 kA1 NA1
 obtain ⟨aA1, nA1, cA1, ezA1⟩ := Wp.slice_cell NA1.r
 cases ezA1
 refine Tr.mono (p01 _ [.int .i64 x0A0, .slice a1A0 n1A0 c1A0] (x0p0, x1p0) (j1.mono NA1.sub NA0.r) hm0 aA1 nA1 cA1 y1 NA1.r hm1) ?_
 rintro vH kH ⟨csH, rfl, NWH⟩
 obtain ⟨x0H, x1H, a2H, n2H, c2H, x2H, rfl, eRH, _, _, _⟩ := B0 NWH.r
 refine Tr.val (l09 _ [.int .i64 x0H, .int .i64 x1H, .slice a2H n2H c2H] [.int .i64 x0W, .int .i64 x1W, .slice a2W n2W c2W] (P1 (x0p0, x1p0) y1).1 (P1 (x0p0, x1p0) y1).1 NWH.r (Y0.mono (SWG.trans ((NA0.sub.trans NA1.sub).trans NWH.sub)) rW)) ?_
 refine And.intro (fun hc => ?_) (fun hc => ?_)
 ·simp at hc
 clear hc
 refine Tr.val (J09 _ [.int .i64 x0G, .int .i64 x1G, .slice a2G n2G c2G] (P1 (x0p0, x1p0) y1).1 1 (Y0.mono ((NA0.sub.trans NA1.sub).trans NWH.sub) (Y0.toR WM)) ⟨by omega, by omega⟩) ?_
 refine And.intro (fun hc => ?_) (fun hc => ?_)
 ·have : (1 : Int) + (i9 (P1 (x0p0, x1p0) y1).1 : Nat) < 0 := by simpa only [decide_eq_true_eq] using hc
  omega
 clear hc
 refine And.intro (fun hc => ?_) (fun hc => ?_)
 ·simp at hc
 clear hc
 exact And.intro rfl (((SHG.trans NA0.sub).trans NA1.sub).trans NWH.sub)
end Go.Proofs.YtfdlgbfeceodeaaGreat
