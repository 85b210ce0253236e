/- What the law on NormalOnes does. -/
import Derived.Test.YtknoadmdnjaocaaGreatKNormalOnes
import Derived.Test.YtknoadmdnjaocaaGreatPart17
namespace Go.Proofs.YtknoadmdnjaocaaGreat
open Go.H
set_option linter.unusedVariables false
set_option linter.unusedSimpArgs false
set_option maxRecDepth 10000
theorem J08 (h : Hp) (v0 : Value) (y0 : V5) (hy0 : C5.R h [v0] y0) :
  Tr Tryz.prog 6 #[v0] h fun v h' => v = .bool true ∧ Sub h h' := by
 obtain ⟨a0, n0, c0, eq0⟩ := Wp.slice_cell hy0
 cases eq0
 refine j3 (args := [.slice a0 n0 c0]) (fn := Tryz.f6) rfl ?_
 refine Tr.val (Q0f _ a0 n0 c0 y0 (1048576) hy0 ⟨by omega, by omega⟩) ?_
 refine And.intro (fun hc => And.intro rfl (Sub.refl _)) (fun hc => ?_)
 have hz0 : 0 ≤ szR (1048576) (b9 y0 : Nat) := by simpa using hc
 have hq0 := m0f hz0
 have hm0 : b9 y0 ≤ 1048576 := by omega
 refine Tr.mono (z03 _ a0 n0 c0 y0 hy0 hm0) ?_
 rintro v1 k1 n1
 obtain ⟨aw, nw, cw, ezw⟩ := Wp.slice_cell n1.r
 cases ezw
 refine Tr.mono (T07 _ aw nw cw y0 n1.r hm0) ?_
 rintro vW kW ⟨rW, sW⟩
 obtain ⟨aW, nW, cW, eRW⟩ := Wp.slice_cell rW
 cases eRW
 refine Tr.mono (z03 _ a0 n0 c0 y0 (C5.mono (n1.sub.trans sW) hy0) hm0) ?_
 rintro vx0 kx0 NX0
 have sx0 := NX0.sub
 obtain ⟨ax0, nx0, cx0, ezx0⟩ := Wp.slice_cell NX0.r
 cases ezx0
 refine Tr.mono (X02 _ ax0 nx0 cx0 y0 NX0.r hm0) ?_
 rintro vG kG NWG
 have sG := NWG.sub
 obtain ⟨aG, nG, cG, eRG⟩ := Wp.slice_cell NWG.r
 cases eRG
 refine Tr.val (B0a _ aG nG cG aW nW cW (O3 y0) (O3 y0) NWG.r (D1.mono (sx0.trans sG) rW)) ?_
 refine And.intro (fun hc => ?_) (fun hc => ?_)
 ·simp at hc
 clear hc
 refine Tr.mono (z03 _ a0 n0 c0 y0 (C5.mono (((n1.sub.trans sW).trans sx0).trans sG) hy0) hm0) ?_
 rintro vq0 ke0 NQ0
 obtain ⟨aq0, nq0, cq0, ezq0⟩ := Wp.slice_cell NQ0.r
 cases ezq0
 refine Tr.val (R0f _ ax0 nx0 cx0 aq0 nq0 cq0 y0 y0 (C5.mono (sG.trans NQ0.sub) NX0.r) NQ0.r) ?_
 refine And.intro (fun hc => ?_) (fun hc => ?_)
 ·exact absurd hc (by simp)
 clear hc
 have SH0 : Sub h ke0 := ((((n1.sub.trans sW).trans sx0).trans sG).trans NQ0.sub)
 have SW0 : Sub kW ke0 := ((sx0.trans sG).trans NQ0.sub)
 obtain ⟨BG, wG, FG, _⟩ := NWG
 have WG0 := Wp.sub wG NQ0.sub
 obtain ⟨BX0, wX0, FX0, _⟩ := NX0
 have WX0_0 := Wp.sub wX0 (sG.trans NQ0.sub)
 have DX0 : ∀ b ∈ BX0, kx0 b ≠ none := C5.dom (wX0)
 have cb0 := N0i y0
 refine Tr.mono (W0c _ ax0 nx0 cx0 y0 BX0 (1) WX0_0 FX0.1 ⟨by omega, by omega⟩) ?_
 rintro vm0 hk0 ⟨rfl, _, fm0⟩
 have SH1 : Sub h hk0 := N08 (n1.sub.trans sW) FX0.2 SH0 fm0
 have SW1 : Sub kW hk0 := N08 (Sub.refl _) FX0.2 SW0 fm0
 have WG1 := J0i WG0 FG.2 DX0 fm0
 refine Exists.intro (.bool _) (And.intro (fun _ => B0a _ aG nG cG aW nW cW (O3 y0) (O3 y0) (D1.toR WG1) (D1.mono SW1 rW)) ?_)
 refine And.intro (fun hc => ?_) (fun hc => ?_)
 ·simp at hc <;> omega
 clear hc
 have cbR := V0c y0 hm0
 refine Tr.mono (S0f _ aG nG cG (O3 y0) BG 1 WG1 FG.1 ⟨by omega, by omega⟩) ?_
 rintro vmG hG ⟨rfl, WM, fG⟩
 have SHG : Sub h hG := N08 ((n1.sub.trans sW).trans sx0) FG.2 SH1 fG
 have SWG : Sub kW hG := N08 sx0 FG.2 SW1 fG
 refine Tr.val (C0a _ aG nG cG (O3 y0) 1 (D1.toR WM) ⟨by omega, by omega⟩) ?_
 refine And.intro (fun hc => ?_) (fun hc => ?_)
 ·have : (1 : Int) + (j05 (O3 y0) : Nat) < 0 := by simpa only [decide_eq_true_eq] using hc
  omega
 clear hc
 refine And.intro (fun hc => ?_) (fun hc => ?_)
 ·simp at hc
 clear hc
 refine Tr.mono (z03 _ a0 n0 c0 y0 (C5.mono SHG hy0) hm0) ?_
 rintro v5 kA NWA
 obtain ⟨aA, nA, cA, ezA⟩ := Wp.slice_cell NWA.r
 cases ezA
 refine Tr.mono (X02 _ aA nA cA y0 NWA.r hm0) ?_
 rintro vH kH NWH
 obtain ⟨aH, nH, cH, eRH⟩ := Wp.slice_cell NWH.r
 cases eRH
 refine Tr.val (B0a _ aH nH cH aW nW cW (O3 y0) (O3 y0) NWH.r (D1.mono (SWG.trans (NWA.sub.trans NWH.sub)) rW)) ?_
 refine And.intro (fun hc => ?_) (fun hc => ?_)
 ·simp at hc
 clear hc
 refine Tr.val (C0a _ aG nG cG (O3 y0) 1 (D1.mono (NWA.sub.trans NWH.sub) (D1.toR WM)) ⟨by omega, by omega⟩) ?_
 refine And.intro (fun hc => ?_) (fun hc => ?_)
 ·have : (1 : Int) + (j05 (O3 y0) : Nat) < 0 := by simpa only [decide_eq_true_eq] using hc
  omega
 clear hc
 refine And.intro (fun hc => ?_) (fun hc => ?_)
 ·simp at hc
 clear hc
 exact And.intro rfl ((SHG.trans NWA.sub).trans NWH.sub)
end Go.Proofs.YtknoadmdnjaocaaGreat
