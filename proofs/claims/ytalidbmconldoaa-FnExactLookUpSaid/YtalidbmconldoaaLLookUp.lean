/- What the law on LookUp does. -/
import Derived.Test.YtalidbmconldoaaM8
import Derived.Test.YtalidbmconldoaaG2
import Derived.Test.YtalidbmconldoaaG3
import Derived.Test.YtalidbmconldoaaG4
import Derived.Test.YtalidbmconldoaaG5
import Derived.Test.YtalidbmconldoaaG6
namespace Go.Proofs.Ytalidbmconldoaa
open Go.H
set_option linter.unusedVariables false
set_option linter.unusedSimpArgs false
set_option maxRecDepth 10000

theorem t_lawLookUp (h : Hp) (ds0 : List Value) (y0 : LLibrary) (hy0 : wLibrary.R h ds0 y0) (y1 : ByteArray) (hy1 : y1.size ≤ 9223372036854775807) :
    Tr Try.prog 7 #[.agg ds0.toArray, .string y1] h fun v h' => v = .bool true ∧ Sub h h' := by
  obtain ⟨x0p0, a1p0, n1p0, c1p0, x1p0, rfl, rfl, h0p0, h1p0⟩ := openLibrary hy0
  refine walk (args := [.agg #[.int .i64 x0p0, .slice a1p0 n1p0 c1p0], .string y1]) (fn := Try.f7) rfl ?_
  refine And.intro (fun hc => And.intro rfl (Sub.refl _)) (fun hc => ?_)
  have hs1 : y1.size ≤ 1048576 := by simp at hc; omega
  refine Tr.val (t_szLibrary _ [.int .i64 x0p0, .slice a1p0 n1p0 c1p0] (x0p0, x1p0) (1048576) (closeLibrary h0p0 h1p0) ⟨by omega, by omega⟩) ?_
  refine And.intro (fun hc => And.intro rfl (Sub.refl _)) (fun hc => ?_)
  have hz0 : 0 ≤ szR (1048576) (mLibrary (x0p0, x1p0) : Nat) := by simpa using hc
  have hq0 := szR_le hz0
  have hm0 : mLibrary (x0p0, x1p0) ≤ 1048576 := by omega
  refine Tr.mono (t_toLibrary _ [.int .i64 x0p0, .slice a1p0 n1p0 c1p0] (x0p0, x1p0) (closeLibrary h0p0 h1p0) hm0) ?_
  rintro v1 k1 ⟨cs1, rfl, n1⟩
  obtain ⟨x0w, a1w, n1w, c1w, x1w, rfl, ezw, _, _⟩ := openLibrary n1.r
  refine Tr.mono (t_specLookUp _ [.int .i64 x0w, .slice a1w n1w c1w] (x0p0, x1p0) n1.r hm0 y1 hy1 hs1) ?_
  rintro vW kW ⟨csW, rfl, rW, sW⟩
  obtain ⟨x0W, x1W, a2W, n2W, c2W, x2W, rfl, eRW, _, _, _⟩ := openGraph rW
  refine Tr.mono (t_toLibrary _ [.int .i64 x0p0, .slice a1p0 n1p0 c1p0] (x0p0, x1p0) (wLibrary.mono (n1.sub.trans sW) (closeLibrary h0p0 h1p0)) hm0) ?_
  rintro v2 kx0 ⟨csx0, rfl, NX0⟩
  have sx0 := NX0.sub
  obtain ⟨x0x0, a1x0, n1x0, c1x0, x1x0, rfl, ezx0, _, _⟩ := openLibrary NX0.r
  refine Tr.mono (t_implLookUp _ [.int .i64 x0x0, .slice a1x0 n1x0 c1x0] (x0p0, x1p0) NX0.r hm0 y1 hy1 hs1) ?_
  rintro vG kG ⟨csG, rfl, NWG⟩
  have sG := NWG.sub
  obtain ⟨x0G, x1G, a2G, n2G, c2G, x2G, rfl, eRG, _, _, _⟩ := openGraph NWG.r
  refine Tr.val (t_eqGraph _ [.int .i64 x0G, .int .i64 x1G, .slice a2G n2G c2G] [.int .i64 x0W, .int .i64 x1W, .slice a2W n2W c2W] (F_LookUp (x0p0, x1p0) y1).1 (F_LookUp (x0p0, x1p0) y1).1 NWG.r (wGraph.mono (sx0.trans sG) rW)) ?_
  refine And.intro (fun hc => ?_) (fun hc => ?_)
  · simp at hc
  clear hc
  refine Or.inr (Or.inl (And.intro (And.intro (by kernel_rfl) (by kernel_rfl)) ?_))
  refine Exists.intro (fun v hh => ∃ cs, v = .agg cs.toArray ∧ wLibrary.R hh cs (x0p0, x1p0)) (And.intro (fun v ha hb s hh => by obtain ⟨cs, e, q⟩ := hh; exact ⟨cs, e, wLibrary.mono s q⟩) (And.intro ?_ ?_))
  · intro h3 s3
    refine Tr.mono (t_toLibrary h3 [.int .i64 x0p0, .slice a1p0 n1p0 c1p0] (x0p0, x1p0) (wLibrary.mono ((((n1.sub.trans sW).trans sx0).trans sG).trans s3) (closeLibrary h0p0 h1p0)) hm0) ?_
    rintro v h4 ⟨cs4, rfl, n4⟩
    exact And.intro rfl (And.intro n4.sub ⟨cs4, rfl, n4.r⟩)
  refine Exists.intro (fun v hh => v = .bool true) (And.intro (fun _ _ _ _ e => e) (And.intro ?_ ?_))
  · rintro h3 s3 v ⟨cs4, rfl, q⟩
    obtain ⟨x0z, a1z, n1z, c1z, x1z, rfl, ez, _, _⟩ := openLibrary q
    refine Tr.mono (t_eqLibrary h3 [.int .i64 x0x0, .slice a1x0 n1x0 c1x0] [.int .i64 x0z, .slice a1z n1z c1z] (x0p0, x1p0) (x0p0, x1p0) (wLibrary.mono (sG.trans s3) NX0.r) q) ?_
    rintro v h4 ⟨rfl, rfl⟩
    exact And.intro rfl (And.intro (Sub.refl _) (by simp))
  refine Exists.intro (fun v hh => v = .bool false) (And.intro (fun _ _ _ _ e => e) (And.intro ?_ ?_))
  · rintro h3 s3 v rfl
    exact And.intro rfl (And.intro (Sub.refl _) rfl)
  rintro ke0 te0 v9 rfl v8 rfl v7 f7
  refine And.intro (fun hc => ?_) (fun hc => ?_)
  · cases hc
  clear hc
  have SH0 : Sub h ke0 := ((((n1.sub.trans sW).trans sx0).trans sG).trans te0)
  have SW0 : Sub kW ke0 := ((sx0.trans sG).trans te0)
  obtain ⟨BG, wG, FG, _⟩ := NWG
  have WG0 := Wp.sub wG te0
  obtain ⟨BX0, wX0, FX0, _⟩ := NX0
  have WX0_0 := Wp.sub wX0 (sG.trans te0)
  have DX0 : ∀ b ∈ BX0, kx0 b ≠ none := wLibrary.dom (wX0)
  have cb0 := cbLibrary (x0p0, x1p0)
  refine Tr.mono (t_markLibrary _ [.int .i64 x0x0, .slice a1x0 n1x0 c1x0] (x0p0, x1p0) BX0 (1) WX0_0 FX0.1 ⟨by omega, by omega⟩) ?_
  rintro vm0 hk0 ⟨rfl, _, fm0⟩
  have SH1 : Sub h hk0 := subMark (n1.sub.trans sW) FX0.2 SH0 fm0
  have SW1 : Sub kW hk0 := subMark (Sub.refl _) FX0.2 SW0 fm0
  have WG1 := keepMark WG0 FG.2 DX0 fm0
  refine Exists.intro (.bool _) (And.intro (fun _ => t_eqGraph _ [.int .i64 x0G, .int .i64 x1G, .slice a2G n2G c2G] [.int .i64 x0W, .int .i64 x1W, .slice a2W n2W c2W] (F_LookUp (x0p0, x1p0) y1).1 (F_LookUp (x0p0, x1p0) y1).1 (wGraph.toR WG1) (wGraph.mono SW1 rW)) ?_)
  refine And.intro (fun hc => ?_) (fun hc => ?_)
  · simp at hc <;> omega
  clear hc
  have cbR := c_LookUp (x0p0, x1p0) y1 hm0 hs1
  refine Tr.mono (t_markGraph _ [.int .i64 x0G, .int .i64 x1G, .slice a2G n2G c2G] (F_LookUp (x0p0, x1p0) y1).1 BG 1 WG1 FG.1 ⟨by omega, by omega⟩) ?_
  rintro vmG hG ⟨rfl, WM, fG⟩
  have SHG : Sub h hG := subMark ((n1.sub.trans sW).trans sx0) FG.2 SH1 fG
  have SWG : Sub kW hG := subMark sx0 FG.2 SW1 fG
  refine Tr.val (t_heldGraph _ [.int .i64 x0G, .int .i64 x1G, .slice a2G n2G c2G] (F_LookUp (x0p0, x1p0) y1).1 1 (wGraph.toR WM) ⟨by omega, by omega⟩) ?_
  refine And.intro (fun hc => ?_) (fun hc => ?_)
  · have : (1 : Int) + (cvGraph (F_LookUp (x0p0, x1p0) y1).1 : Nat) < 0 := by simpa only [decide_eq_true_eq] using hc
    omega
  clear hc
  refine And.intro (fun hc => ?_) (fun hc => ?_)
  · simp at hc
  clear hc
  refine Tr.mono (t_toLibrary _ [.int .i64 x0p0, .slice a1p0 n1p0 c1p0] (x0p0, x1p0) (wLibrary.mono SHG (closeLibrary h0p0 h1p0)) hm0) ?_
  rintro v5 kA ⟨csA, rfl, NWA⟩
  obtain ⟨x0A, a1A, n1A, c1A, x1A, rfl, ezA, _, _⟩ := openLibrary NWA.r
  refine Tr.mono (t_implLookUp _ [.int .i64 x0A, .slice a1A n1A c1A] (x0p0, x1p0) NWA.r hm0 y1 hy1 hs1) ?_
  rintro vH kH ⟨csH, rfl, NWH⟩
  obtain ⟨x0H, x1H, a2H, n2H, c2H, x2H, rfl, eRH, _, _, _⟩ := openGraph NWH.r
  refine Tr.val (t_eqGraph _ [.int .i64 x0H, .int .i64 x1H, .slice a2H n2H c2H] [.int .i64 x0W, .int .i64 x1W, .slice a2W n2W c2W] (F_LookUp (x0p0, x1p0) y1).1 (F_LookUp (x0p0, x1p0) y1).1 NWH.r (wGraph.mono (SWG.trans (NWA.sub.trans NWH.sub)) rW)) ?_
  refine And.intro (fun hc => ?_) (fun hc => ?_)
  · simp at hc
  clear hc
  refine Tr.val (t_heldGraph _ [.int .i64 x0G, .int .i64 x1G, .slice a2G n2G c2G] (F_LookUp (x0p0, x1p0) y1).1 1 (wGraph.mono (NWA.sub.trans NWH.sub) (wGraph.toR WM)) ⟨by omega, by omega⟩) ?_
  refine And.intro (fun hc => ?_) (fun hc => ?_)
  · have : (1 : Int) + (cvGraph (F_LookUp (x0p0, x1p0) y1).1 : Nat) < 0 := by simpa only [decide_eq_true_eq] using hc
    omega
  clear hc
  refine And.intro (fun hc => ?_) (fun hc => ?_)
  · simp at hc
  clear hc
  exact And.intro rfl ((SHG.trans NWA.sub).trans NWH.sub)
end Go.Proofs.Ytalidbmconldoaa
