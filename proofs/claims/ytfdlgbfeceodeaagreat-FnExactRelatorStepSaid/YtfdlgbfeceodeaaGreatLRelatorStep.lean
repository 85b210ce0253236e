/- What the law on RelatorStep does. -/
import Derived.Test.YtfdlgbfeceodeaaGreatKRelatorStep
import Derived.Test.YtfdlgbfeceodeaaGreatPart16
namespace Go.Proofs.YtfdlgbfeceodeaaGreat
open Go.H
set_option linter.unusedVariables false
set_option linter.unusedSimpArgs false
set_option maxRecDepth 10000
theorem y07 (h : Hp) (ds0 : List Value) (y0 : M0) (hy0 : S0.R h ds0 y0) (ds1 : List Value) (y1 : l0) (hy1 : P0.R h ds1 y1) :
  Tr Tryz.prog 5 #[.agg ds0.toArray, .agg ds1.toArray] h fun v h' => v = .bool true ∧ Sub h h' := by
 obtain ⟨x0p0, a1p0, n1p0, c1p0, x1p0, rfl, rfl, h0p0, h1p0⟩ := D2 hy0
 obtain ⟨x0p1, x1p1, a2p1, n2p1, c2p1, x2p1, rfl, rfl, h0p1, h1p1, h2p1⟩ := B0 hy1
 refine c3 (args := [.agg #[.int .i64 x0p0, .slice a1p0 n1p0 c1p0], .agg #[.int .i64 x0p1, .int .i64 x1p1, .slice a2p1 n2p1 c2p1]]) (fn := Tryz.f5) rfl ?_
 refine Tr.val (w07 _ [.int .i64 x0p0, .slice a1p0 n1p0 c1p0] (x0p0, x1p0) (1048576) (n3 h0p0 h1p0) ⟨by omega, by omega⟩) ?_
 refine And.intro (fun hc => And.intro rfl (Sub.refl _)) (fun hc => ?_)
 have hz0 : 0 ≤ szR (1048576) (D3 (x0p0, x1p0) : Nat) := by simpa using hc
 have hq0 := Y08 hz0
 have hm0 : D3 (x0p0, x1p0) ≤ 1048576 := by omega
 refine Tr.val (m0f _ [.int .i64 x0p1, .int .i64 x1p1, .slice a2p1 n2p1 c2p1] (x0p1, x1p1, x2p1) (szR (1048576) (D3 (x0p0, x1p0) : Nat)) (z0 h0p1 h1p1 h2p1) ⟨by omega, by omega⟩) ?_
 refine And.intro (fun hc => And.intro rfl (Sub.refl _)) (fun hc => ?_)
 have hz1 : 0 ≤ szR (szR (1048576) (D3 (x0p0, x1p0) : Nat)) (j00 (x0p1, x1p1, x2p1) : Nat) := by simpa using hc
 have hq1 := Y08 hz1
 have hm1 : j00 (x0p1, x1p1, x2p1) ≤ 1048576 := by omega
 refine Or.inr (Or.inr (Or.inr (Or.inr (Exists.intro 10 (And.intro (And.intro (by kernel_rfl) (by kernel_rfl)) ?_)))))
 refine Or.inr (Exists.intro (fun v hh => ∃ cs, v = .agg cs.toArray ∧ S0.R hh cs (x0p0, x1p0)) (And.intro (fun v ha hb s hh => by obtain ⟨cs, e, q⟩ := hh; exact ⟨cs, e, S0.mono s q⟩) (And.intro ?_ ?_)))
 ·intro h3 s3
  refine Tr.mono (P9 h3 [.int .i64 x0p0, .slice a1p0 n1p0 c1p0] (x0p0, x1p0) (S0.mono s3 (n3 h0p0 h1p0)) hm0) ?_
  rintro v h4 ⟨cs4, rfl, n4⟩
  exact And.intro o00 (And.intro n4.sub ⟨cs4, rfl, n4.r⟩)
 refine Or.inr (Exists.intro (fun v hh => ∃ cs, v = .agg cs.toArray ∧ P0.R hh cs (x0p1, x1p1, x2p1)) (And.intro (fun v ha hb s hh => by obtain ⟨cs, e, q⟩ := hh; exact ⟨cs, e, P0.mono s q⟩) (And.intro ?_ ?_)))
 ·intro h3 s3
  refine Tr.mono (B04 h3 [.int .i64 x0p1, .int .i64 x1p1, .slice a2p1 n2p1 c2p1] (x0p1, x1p1, x2p1) (P0.mono s3 (z0 h0p1 h1p1 h2p1)) hm1) ?_
  rintro v h4 ⟨cs4, rfl, n4⟩
  exact And.intro o00 (And.intro n4.sub ⟨cs4, rfl, n4.r⟩)
 refine Or.inr (Exists.intro (fun v hh => ∃ cs, v = .tuple #[.agg cs.toArray, .bool (I0 (x0p0, x1p0) (x0p1, x1p1, x2p1)).2.1, .bool (I0 (x0p0, x1p0) (x0p1, x1p1, x2p1)).2.2] ∧ P0.R hh cs (I0 (x0p0, x1p0) (x0p1, x1p1, x2p1)).1) (And.intro (fun v ha hb s hh => by obtain ⟨cs, e, q⟩ := hh; exact ⟨cs, e, P0.mono s q⟩) (And.intro ?_ ?_)))
 ·intro h3 s3
  rintro _ ⟨cs0w, rfl, r0w⟩
  obtain ⟨x0w0, a1w0, n1w0, c1w0, x1w0, rfl, ezw0, _, _⟩ := D2 r0w
  rintro _ ⟨cs1w, rfl, r1w⟩
  obtain ⟨x0w1, x1w1, a2w1, n2w1, c2w1, x2w1, rfl, ezw1, _, _, _⟩ := B0 r1w
  refine Tr.mono (z06 _ [.int .i64 x0w0, .slice a1w0 n1w0 c1w0] (x0p0, x1p0) r0w hm0 [.int .i64 x0w1, .int .i64 x1w1, .slice a2w1 n2w1 c2w1] (x0p1, x1p1, x2p1) r1w hm1) ?_
  rintro v h4 ⟨csR, rfl, rR, sR⟩
  exact And.intro o00 (And.intro sR ⟨csR, rfl, rR⟩)
 refine Or.inr (Exists.intro (fun v hh => ∃ cs, v = .tuple #[.agg cs.toArray, .bool (I0 (x0p0, x1p0) (x0p1, x1p1, x2p1)).2.1, .bool (I0 (x0p0, x1p0) (x0p1, x1p1, x2p1)).2.2] ∧ P0.R hh cs (I0 (x0p0, x1p0) (x0p1, x1p1, x2p1)).1) (And.intro (fun v ha hb s hh => by obtain ⟨cs, e, q⟩ := hh; exact ⟨cs, e, P0.mono s q⟩) (And.intro ?_ ?_)))
 ·intro h3 s3
  rintro _ ⟨csR, rfl, rR⟩
  exact And.intro o00 (And.intro (Sub.refl _) ⟨csR, rfl, rR⟩)
 refine Or.inr (Exists.intro (fun v hh => ∃ cs, v = .agg cs.toArray ∧ P0.R hh cs (I0 (x0p0, x1p0) (x0p1, x1p1, x2p1)).1) (And.intro (fun v ha hb s hh => by obtain ⟨cs, e, q⟩ := hh; exact ⟨cs, e, P0.mono s q⟩) (And.intro ?_ ?_)))
 ·intro h3 s3
  rintro _ ⟨csR, rfl, rR⟩
  exact And.intro o00 (And.intro (Sub.refl _) ⟨csR, rfl, rR⟩)
 refine Or.inl (Exists.intro (.val (.bool (I0 (x0p0, x1p0) (x0p1, x1p1, x2p1)).2.1)) (And.intro ?_ ?_))
 ·intro h3 s3
  rintro _ ⟨csR, rfl, rR⟩
  exact And.intro rfl (And.intro rfl rfl)
 refine Or.inl (Exists.intro (.val (.bool (I0 (x0p0, x1p0) (x0p1, x1p1, x2p1)).2.2)) (And.intro ?_ ?_))
 ·intro h3 s3
  rintro _ ⟨csR, rfl, rR⟩
  exact And.intro rfl (And.intro rfl rfl)
 intro kW sW
 rintro _ ⟨csW, rfl, rW⟩
 rintro _ ⟨_, rfl, _⟩
 rintro _ ⟨_, rfl, _⟩
 rintro _ ⟨_, rfl, _⟩
 rintro _ ⟨_, rfl, _⟩
 obtain ⟨x0W, x1W, a2W, n2W, c2W, x2W, rfl, eRW, _, _, _⟩ := B0 rW
 refine Tr.mono (P9 _ [.int .i64 x0p0, .slice a1p0 n1p0 c1p0] (x0p0, x1p0) (S0.mono sW (n3 h0p0 h1p0)) hm0) ?_
 rintro v2 kx0 ⟨csx0, rfl, NX0⟩
 have sx0 := NX0.sub
 obtain ⟨x0x0, a1x0, n1x0, c1x0, x1x0, rfl, ezx0, _, _⟩ := D2 NX0.r
 refine Tr.mono (B04 _ [.int .i64 x0p1, .int .i64 x1p1, .slice a2p1 n2p1 c2p1] (x0p1, x1p1, x2p1) (P0.mono (sW.trans sx0) (z0 h0p1 h1p1 h2p1)) hm1) ?_
 rintro v2 kx1 ⟨csx1, rfl, NX1⟩
 have sx1 := NX1.sub
 obtain ⟨x0x1, x1x1, a2x1, n2x1, c2x1, x2x1, rfl, ezx1, _, _, _⟩ := B0 NX1.r
 refine Tr.mono (u02 _ [.int .i64 x0x0, .slice a1x0 n1x0 c1x0] (x0p0, x1p0) (S0.mono sx1 NX0.r) hm0 [.int .i64 x0x1, .int .i64 x1x1, .slice a2x1 n2x1 c2x1] (x0p1, x1p1, x2p1) NX1.r hm1) ?_
 rintro vG kG ⟨csG, rfl, NWG⟩
 have sG := NWG.sub
 obtain ⟨x0G, x1G, a2G, n2G, c2G, x2G, rfl, eRG, _, _, _⟩ := B0 NWG.r
 refine Tr.val (A04 _ [.int .i64 x0G, .int .i64 x1G, .slice a2G n2G c2G] [.int .i64 x0W, .int .i64 x1W, .slice a2W n2W c2W] (I0 (x0p0, x1p0) (x0p1, x1p1, x2p1)).1 (I0 (x0p0, x1p0) (x0p1, x1p1, x2p1)).1 NWG.r (P0.mono ((sx0.trans sx1).trans sG) rW)) ?_
 refine And.intro (fun hc => ?_) (fun hc => ?_)
 ·simp at hc
 clear hc
 refine Or.inr (Or.inl (And.intro (And.intro (by kernel_rfl) (by kernel_rfl)) ?_))
 refine Exists.intro (fun v hh => ∃ cs, v = .agg cs.toArray ∧ S0.R hh cs (x0p0, x1p0)) (And.intro (fun v ha hb s hh => by obtain ⟨cs, e, q⟩ := hh; exact ⟨cs, e, S0.mono s q⟩) (And.intro ?_ ?_))
 ·intro h3 s3
  refine Tr.mono (P9 h3 [.int .i64 x0p0, .slice a1p0 n1p0 c1p0] (x0p0, x1p0) (S0.mono ((((sW.trans sx0).trans sx1).trans sG).trans s3) (n3 h0p0 h1p0)) hm0) ?_
  rintro v h4 ⟨cs4, rfl, n4⟩
  exact And.intro rfl (And.intro n4.sub ⟨cs4, rfl, n4.r⟩)
 refine Exists.intro (fun v hh => v = .bool true) (And.intro (fun _ _ _ _ e => e) (And.intro ?_ ?_))
 ·rintro h3 s3 v ⟨cs4, rfl, q⟩
  obtain ⟨x0z, a1z, n1z, c1z, x1z, rfl, ez, _, _⟩ := D2 q
  refine Tr.mono (x07 h3 [.int .i64 x0x0, .slice a1x0 n1x0 c1x0] [.int .i64 x0z, .slice a1z n1z c1z] (x0p0, x1p0) (x0p0, x1p0) (S0.mono ((sx1.trans sG).trans s3) NX0.r) q) ?_
  rintro v h4 ⟨rfl, rfl⟩
  exact And.intro rfl (And.intro (Sub.refl _) (by simp))
 refine Exists.intro (fun v hh => v = .bool false) (And.intro (fun _ _ _ _ e => e) (And.intro ?_ ?_))
 ·rintro h3 s3 v rfl
  exact And.intro rfl (And.intro (Sub.refl _) rfl)
 rintro ke0 te0 v9 rfl v8 rfl v7 f7
 refine And.intro (fun hc => ?_) (fun hc => ?_)
 ·cases hc
 clear hc
 refine Or.inr (Or.inl (And.intro (And.intro (by kernel_rfl) (by kernel_rfl)) ?_))
 refine Exists.intro (fun v hh => ∃ cs, v = .agg cs.toArray ∧ P0.R hh cs (x0p1, x1p1, x2p1)) (And.intro (fun v ha hb s hh => by obtain ⟨cs, e, q⟩ := hh; exact ⟨cs, e, P0.mono s q⟩) (And.intro ?_ ?_))
 ·intro h3 s3
  refine Tr.mono (B04 h3 [.int .i64 x0p1, .int .i64 x1p1, .slice a2p1 n2p1 c2p1] (x0p1, x1p1, x2p1) (P0.mono (((((sW.trans sx0).trans sx1).trans sG).trans te0).trans s3) (z0 h0p1 h1p1 h2p1)) hm1) ?_
  rintro v h4 ⟨cs4, rfl, n4⟩
  exact And.intro rfl (And.intro n4.sub ⟨cs4, rfl, n4.r⟩)
 refine Exists.intro (fun v hh => v = .bool true) (And.intro (fun _ _ _ _ e => e) (And.intro ?_ ?_))
 ·rintro h3 s3 v ⟨cs4, rfl, q⟩
  obtain ⟨x0z, x1z, a2z, n2z, c2z, x2z, rfl, ez, _, _, _⟩ := B0 q
  refine Tr.mono (A04 h3 [.int .i64 x0x1, .int .i64 x1x1, .slice a2x1 n2x1 c2x1] [.int .i64 x0z, .int .i64 x1z, .slice a2z n2z c2z] (x0p1, x1p1, x2p1) (x0p1, x1p1, x2p1) (P0.mono ((sG.trans te0).trans s3) NX1.r) q) ?_
  rintro v h4 ⟨rfl, rfl⟩
  exact And.intro rfl (And.intro (Sub.refl _) (by simp))
 refine Exists.intro (fun v hh => v = .bool false) (And.intro (fun _ _ _ _ e => e) (And.intro ?_ ?_))
 ·rintro h3 s3 v rfl
  exact And.intro rfl (And.intro (Sub.refl _) rfl)
 rintro ke1 te1 v9 rfl v8 rfl v7 f7
 refine And.intro (fun hc => ?_) (fun hc => ?_)
 ·cases hc
 clear hc
 have SH0 : Sub h ke1 := (((((sW.trans sx0).trans sx1).trans sG).trans te0).trans te1)
 have SW0 : Sub kW ke1 := ((((sx0.trans sx1).trans sG).trans te0).trans te1)
 obtain ⟨BG, wG, FG, _⟩ := NWG
 have WG0 := Wp.sub wG (te0.trans te1)
 obtain ⟨BX0, wX0, FX0, _⟩ := NX0
 have WX0_0 := Wp.sub wX0 (((sx1.trans sG).trans te0).trans te1)
 have DX0 : ∀ b ∈ BX0, kx1 b ≠ none := S0.dom (Wp.sub wX0 sx1)
 obtain ⟨BX1, wX1, FX1, _⟩ := NX1
 have WX1_0 := Wp.sub wX1 ((sG.trans te0).trans te1)
 have DX1 : ∀ b ∈ BX1, kx1 b ≠ none := P0.dom (wX1)
 have cb0 := i09 (x0p0, x1p0)
 refine Tr.mono (u05 _ [.int .i64 x0x0, .slice a1x0 n1x0 c1x0] (x0p0, x1p0) BX0 (1) WX0_0 FX0.1 ⟨by omega, by omega⟩) ?_
 rintro vm0 hk0 ⟨rfl, _, fm0⟩
 have SH1 : Sub h hk0 := x04 sW FX0.2 SH0 fm0
 have SW1 : Sub kW hk0 := x04 (Sub.refl _) FX0.2 SW0 fm0
 have WG1 := f09 WG0 FG.2 DX0 fm0
 have WX1_1 := f09 WX1_0 FX1.2 (S0.dom (wX0)) fm0
 have cb1 := r0e (x0p1, x1p1, x2p1)
 refine Tr.mono (R07 _ [.int .i64 x0x1, .int .i64 x1x1, .slice a2x1 n2x1 c2x1] (x0p1, x1p1, x2p1) BX1 (1 + (C6 (x0p0, x1p0) : Nat)) WX1_1 FX1.1 ⟨by omega, by omega⟩) ?_
 rintro vm1 hk1 ⟨rfl, _, fm1⟩
 have SH2 : Sub h hk1 := x04 (sW.trans sx0) FX1.2 SH1 fm1
 have SW2 : Sub kW hk1 := x04 sx0 FX1.2 SW1 fm1
 have WG2 := f09 WG1 FG.2 DX1 fm1
 refine Exists.intro (.bool _) (And.intro (fun _ => A04 _ [.int .i64 x0G, .int .i64 x1G, .slice a2G n2G c2G] [.int .i64 x0W, .int .i64 x1W, .slice a2W n2W c2W] (I0 (x0p0, x1p0) (x0p1, x1p1, x2p1)).1 (I0 (x0p0, x1p0) (x0p1, x1p1, x2p1)).1 (P0.toR WG2) (P0.mono SW2 rW)) ?_)
 refine And.intro (fun hc => ?_) (fun hc => ?_)
 ·simp at hc <;> omega
 clear hc
 have cbR := l0a (x0p0, x1p0) (x0p1, x1p1, x2p1) hm0 hm1
 refine Tr.mono (R07 _ [.int .i64 x0G, .int .i64 x1G, .slice a2G n2G c2G] (I0 (x0p0, x1p0) (x0p1, x1p1, x2p1)).1 BG 1 WG2 FG.1 ⟨by omega, by omega⟩) ?_
 rintro vmG hG ⟨rfl, WM, fG⟩
 have SHG : Sub h hG := x04 ((sW.trans sx0).trans sx1) FG.2 SH2 fG
 have SWG : Sub kW hG := x04 (sx0.trans sx1) FG.2 SW2 fG
 refine Tr.val (S07 _ [.int .i64 x0G, .int .i64 x1G, .slice a2G n2G c2G] (I0 (x0p0, x1p0) (x0p1, x1p1, x2p1)).1 1 (P0.toR WM) ⟨by omega, by omega⟩) ?_
 refine And.intro (fun hc => ?_) (fun hc => ?_)
 ·have : (1 : Int) + (G8 (I0 (x0p0, x1p0) (x0p1, x1p1, x2p1)).1 : Nat) < 0 := by simpa only [decide_eq_true_eq] using hc
  omega
 clear hc
 refine And.intro (fun hc => ?_) (fun hc => ?_)
 ·simp at hc
 clear hc
 refine Or.inr (Or.inr (Or.inr (Or.inr (Exists.intro 10 (And.intro (And.intro (by kernel_rfl) (by kernel_rfl)) ?_)))))
 refine Or.inr (Exists.intro (fun v hh => ∃ cs, v = .agg cs.toArray ∧ S0.R hh cs (x0p0, x1p0)) (And.intro (fun v ha hb s hh => by obtain ⟨cs, e, q⟩ := hh; exact ⟨cs, e, S0.mono s q⟩) (And.intro ?_ ?_)))
 ·intro h3 s3
  refine Tr.mono (P9 h3 [.int .i64 x0p0, .slice a1p0 n1p0 c1p0] (x0p0, x1p0) (S0.mono (SHG.trans s3) (n3 h0p0 h1p0)) hm0) ?_
  rintro v h4 ⟨cs4, rfl, n4⟩
  exact And.intro o00 (And.intro n4.sub ⟨cs4, rfl, n4.r⟩)
 refine Or.inr (Exists.intro (fun v hh => ∃ cs, v = .agg cs.toArray ∧ P0.R hh cs (x0p1, x1p1, x2p1)) (And.intro (fun v ha hb s hh => by obtain ⟨cs, e, q⟩ := hh; exact ⟨cs, e, P0.mono s q⟩) (And.intro ?_ ?_)))
 ·intro h3 s3
  refine Tr.mono (B04 h3 [.int .i64 x0p1, .int .i64 x1p1, .slice a2p1 n2p1 c2p1] (x0p1, x1p1, x2p1) (P0.mono (SHG.trans s3) (z0 h0p1 h1p1 h2p1)) hm1) ?_
  rintro v h4 ⟨cs4, rfl, n4⟩
  exact And.intro o00 (And.intro n4.sub ⟨cs4, rfl, n4.r⟩)
 refine Or.inr (Exists.intro (fun v hh => ∃ cs, v = .tuple #[.agg cs.toArray, .bool (I0 (x0p0, x1p0) (x0p1, x1p1, x2p1)).2.1, .bool (I0 (x0p0, x1p0) (x0p1, x1p1, x2p1)).2.2] ∧ P0.R hh cs (I0 (x0p0, x1p0) (x0p1, x1p1, x2p1)).1) (And.intro (fun v ha hb s hh => by obtain ⟨cs, e, q⟩ := hh; exact ⟨cs, e, P0.mono s q⟩) (And.intro ?_ ?_)))
 ·intro h3 s3
  rintro _ ⟨cs0w, rfl, r0w⟩
  obtain ⟨x0w0, a1w0, n1w0, c1w0, x1w0, rfl, ezw0, _, _⟩ := D2 r0w
  rintro _ ⟨cs1w, rfl, r1w⟩
  obtain ⟨x0w1, x1w1, a2w1, n2w1, c2w1, x2w1, rfl, ezw1, _, _, _⟩ := B0 r1w
  refine Tr.mono (u02 _ [.int .i64 x0w0, .slice a1w0 n1w0 c1w0] (x0p0, x1p0) r0w hm0 [.int .i64 x0w1, .int .i64 x1w1, .slice a2w1 n2w1 c2w1] (x0p1, x1p1, x2p1) r1w hm1) ?_
  rintro v h4 ⟨csR, rfl, nR⟩
  exact And.intro o00 (And.intro nR.sub ⟨csR, rfl, nR.r⟩)
 refine Or.inr (Exists.intro (fun v hh => ∃ cs, v = .tuple #[.agg cs.toArray, .bool (I0 (x0p0, x1p0) (x0p1, x1p1, x2p1)).2.1, .bool (I0 (x0p0, x1p0) (x0p1, x1p1, x2p1)).2.2] ∧ P0.R hh cs (I0 (x0p0, x1p0) (x0p1, x1p1, x2p1)).1) (And.intro (fun v ha hb s hh => by obtain ⟨cs, e, q⟩ := hh; exact ⟨cs, e, P0.mono s q⟩) (And.intro ?_ ?_)))
 ·intro h3 s3
  rintro _ ⟨csR, rfl, rR⟩
  exact And.intro o00 (And.intro (Sub.refl _) ⟨csR, rfl, rR⟩)
 refine Or.inr (Exists.intro (fun v hh => ∃ cs, v = .agg cs.toArray ∧ P0.R hh cs (I0 (x0p0, x1p0) (x0p1, x1p1, x2p1)).1) (And.intro (fun v ha hb s hh => by obtain ⟨cs, e, q⟩ := hh; exact ⟨cs, e, P0.mono s q⟩) (And.intro ?_ ?_)))
 ·intro h3 s3
  rintro _ ⟨csR, rfl, rR⟩
  exact And.intro o00 (And.intro (Sub.refl _) ⟨csR, rfl, rR⟩)
 refine Or.inl (Exists.intro (.val (.bool (I0 (x0p0, x1p0) (x0p1, x1p1, x2p1)).2.1)) (And.intro ?_ ?_))
 ·intro h3 s3
  rintro _ ⟨csR, rfl, rR⟩
  exact And.intro rfl (And.intro rfl rfl)
 refine Or.inl (Exists.intro (.val (.bool (I0 (x0p0, x1p0) (x0p1, x1p1, x2p1)).2.2)) (And.intro ?_ ?_))
 ·intro h3 s3
  rintro _ ⟨csR, rfl, rR⟩
  exact And.intro rfl (And.intro rfl rfl)
 intro kH sH
 rintro _ ⟨csH, rfl, rH⟩
 rintro _ ⟨_, rfl, _⟩
 rintro _ ⟨_, rfl, _⟩
 rintro _ ⟨_, rfl, _⟩
 rintro _ ⟨_, rfl, _⟩
 obtain ⟨x0H, x1H, a2H, n2H, c2H, x2H, rfl, eRH, _, _, _⟩ := B0 rH
 refine Tr.val (A04 _ [.int .i64 x0H, .int .i64 x1H, .slice a2H n2H c2H] [.int .i64 x0W, .int .i64 x1W, .slice a2W n2W c2W] (I0 (x0p0, x1p0) (x0p1, x1p1, x2p1)).1 (I0 (x0p0, x1p0) (x0p1, x1p1, x2p1)).1 rH (P0.mono (SWG.trans sH) rW)) ?_
 refine And.intro (fun hc => ?_) (fun hc => ?_)
 ·simp at hc
 clear hc
 refine Tr.val (S07 _ [.int .i64 x0G, .int .i64 x1G, .slice a2G n2G c2G] (I0 (x0p0, x1p0) (x0p1, x1p1, x2p1)).1 1 (P0.mono sH (P0.toR WM)) ⟨by omega, by omega⟩) ?_
 refine And.intro (fun hc => ?_) (fun hc => ?_)
 ·have : (1 : Int) + (G8 (I0 (x0p0, x1p0) (x0p1, x1p1, x2p1)).1 : Nat) < 0 := by simpa only [decide_eq_true_eq] using hc
  omega
 clear hc
 refine And.intro (fun hc => ?_) (fun hc => ?_)
 ·simp at hc
 clear hc
 exact And.intro rfl (SHG.trans sH)
end Go.Proofs.YtfdlgbfeceodeaaGreat
