/- What the law on SymmetrizedSet does. -/
import Derived.Test.YthccjgkmmclplaaKSymmetrizedSet
import Derived.Test.YthccjgkmmclplaaG6
import Derived.Test.YthccjgkmmclplaaG5
import Derived.Test.YthccjgkmmclplaaG4
import Derived.Test.YthccjgkmmclplaaG3
import Derived.Test.YthccjgkmmclplaaG2
namespace Go.Proofs.Ythccjgkmmclplaa
open Go.H
set_option linter.unusedVariables false
set_option linter.unusedSimpArgs false
set_option maxRecDepth 10000

theorem t_lawSymmetrizedSet (h : Hp) (ds0 : List Value) (y0 : LPresentation) (hy0 : wPresentation.R h ds0 y0) :
    Tr Try.prog 4 #[.agg ds0.toArray] h fun v h' => v = .bool true ∧ Sub h h' := by
  obtain ⟨x0p0, a1p0, n1p0, c1p0, x1p0, rfl, rfl, h0p0, h1p0⟩ := openPresentation hy0
  refine walk (args := [.agg #[.int .i64 x0p0, .slice a1p0 n1p0 c1p0]]) (fn := Try.f4) rfl ?_
  refine Tr.val (t_szPresentation _ [.int .i64 x0p0, .slice a1p0 n1p0 c1p0] (x0p0, x1p0) (1048576) (closePresentation h0p0 h1p0) ⟨by omega, by omega⟩) ?_
  refine And.intro (fun hc => And.intro rfl (Sub.refl _)) (fun hc => ?_)
  have hz0 : 0 ≤ szR (1048576) (mPresentation (x0p0, x1p0) : Nat) := by simpa using hc
  have hq0 := szR_le hz0
  have hm0 : mPresentation (x0p0, x1p0) ≤ 1048576 := by omega
  refine Tr.mono (t_toPresentation _ [.int .i64 x0p0, .slice a1p0 n1p0 c1p0] (x0p0, x1p0) (closePresentation h0p0 h1p0) hm0) ?_
  rintro v1 k1 ⟨cs1, rfl, n1⟩
  obtain ⟨x0w, a1w, n1w, c1w, x1w, rfl, ezw, _, _⟩ := openPresentation n1.r
  refine Tr.mono (t_specSymmetrizedSet _ [.int .i64 x0w, .slice a1w n1w c1w] (x0p0, x1p0) n1.r hm0) ?_
  rintro vW kW ⟨rW, sW⟩
  obtain ⟨aW, nW, cW, eRW⟩ := Wp.slice_cell rW
  cases eRW
  refine Tr.mono (t_toPresentation _ [.int .i64 x0p0, .slice a1p0 n1p0 c1p0] (x0p0, x1p0) (wPresentation.mono (n1.sub.trans sW) (closePresentation h0p0 h1p0)) hm0) ?_
  rintro v2 kx0 ⟨csx0, rfl, NX0⟩
  have sx0 := NX0.sub
  obtain ⟨x0x0, a1x0, n1x0, c1x0, x1x0, rfl, ezx0, _, _⟩ := openPresentation NX0.r
  refine Tr.mono (t_implSymmetrizedSet _ [.int .i64 x0x0, .slice a1x0 n1x0 c1x0] (x0p0, x1p0) NX0.r hm0) ?_
  rintro vG kG NWG
  have sG := NWG.sub
  obtain ⟨aG, nG, cG, eRG⟩ := Wp.slice_cell NWG.r
  cases eRG
  refine Tr.val (t_eqIntSS _ aG nG cG aW nW cW (F_SymmetrizedSet (x0p0, x1p0)) (F_SymmetrizedSet (x0p0, x1p0)) NWG.r (wIntSS.mono (sx0.trans sG) rW)) ?_
  refine And.intro (fun hc => ?_) (fun hc => ?_)
  · simp at hc
  clear hc
  refine Or.inr (Or.inl (And.intro (And.intro (by kernel_rfl) (by kernel_rfl)) ?_))
  refine Exists.intro (fun v hh => ∃ cs, v = .agg cs.toArray ∧ wPresentation.R hh cs (x0p0, x1p0)) (And.intro (fun v ha hb s hh => by obtain ⟨cs, e, q⟩ := hh; exact ⟨cs, e, wPresentation.mono s q⟩) (And.intro ?_ ?_))
  · intro h3 s3
    refine Tr.mono (t_toPresentation h3 [.int .i64 x0p0, .slice a1p0 n1p0 c1p0] (x0p0, x1p0) (wPresentation.mono ((((n1.sub.trans sW).trans sx0).trans sG).trans s3) (closePresentation h0p0 h1p0)) hm0) ?_
    rintro v h4 ⟨cs4, rfl, n4⟩
    exact And.intro rfl (And.intro n4.sub ⟨cs4, rfl, n4.r⟩)
  refine Exists.intro (fun v hh => v = .bool true) (And.intro (fun _ _ _ _ e => e) (And.intro ?_ ?_))
  · rintro h3 s3 v ⟨cs4, rfl, q⟩
    obtain ⟨x0z, a1z, n1z, c1z, x1z, rfl, ez, _, _⟩ := openPresentation q
    refine Tr.mono (t_eqPresentation h3 [.int .i64 x0x0, .slice a1x0 n1x0 c1x0] [.int .i64 x0z, .slice a1z n1z c1z] (x0p0, x1p0) (x0p0, x1p0) (wPresentation.mono (sG.trans s3) NX0.r) q) ?_
    rintro v h4 ⟨rfl, rfl⟩
    exact And.intro rfl (And.intro (Sub.refl _) (by simp))
  refine Exists.intro (fun v hh => v = .bool false) (And.intro (fun _ _ _ _ e => e) (And.intro ?_ ?_))
  · rintro h3 s3 v rfl
    exact And.intro rfl (And.intro (Sub.refl _) rfl)
  rintro ke0 te0 v9 rfl v8 rfl v7 f7
  refine And.intro (fun hc => ?_) (fun hc => ?_)
  · cases hc
  clear hc
  have SH0 : Sub h ke0 := ((((n1.sub.trans sW).trans sx0).trans sG).trans te0)
  have SW0 : Sub kW ke0 := ((sx0.trans sG).trans te0)
  obtain ⟨BG, wG, FG, _⟩ := NWG
  have WG0 := Wp.sub wG te0
  obtain ⟨BX0, wX0, FX0, _⟩ := NX0
  have WX0_0 := Wp.sub wX0 (sG.trans te0)
  have DX0 : ∀ b ∈ BX0, kx0 b ≠ none := wPresentation.dom (wX0)
  have cb0 := cbPresentation (x0p0, x1p0)
  refine Tr.mono (t_markPresentation _ [.int .i64 x0x0, .slice a1x0 n1x0 c1x0] (x0p0, x1p0) BX0 (1) WX0_0 FX0.1 ⟨by omega, by omega⟩) ?_
  rintro vm0 hk0 ⟨rfl, _, fm0⟩
  have SH1 : Sub h hk0 := subMark (n1.sub.trans sW) FX0.2 SH0 fm0
  have SW1 : Sub kW hk0 := subMark (Sub.refl _) FX0.2 SW0 fm0
  have WG1 := keepMark WG0 FG.2 DX0 fm0
  refine Exists.intro (.bool _) (And.intro (fun _ => t_eqIntSS _ aG nG cG aW nW cW (F_SymmetrizedSet (x0p0, x1p0)) (F_SymmetrizedSet (x0p0, x1p0)) (wIntSS.toR WG1) (wIntSS.mono SW1 rW)) ?_)
  refine And.intro (fun hc => ?_) (fun hc => ?_)
  · simp at hc <;> omega
  clear hc
  have cbR := c_SymmetrizedSet (x0p0, x1p0) hm0
  refine Tr.mono (t_markIntSS _ aG nG cG (F_SymmetrizedSet (x0p0, x1p0)) BG 1 WG1 FG.1 ⟨by omega, by omega⟩) ?_
  rintro vmG hG ⟨rfl, WM, fG⟩
  have SHG : Sub h hG := subMark ((n1.sub.trans sW).trans sx0) FG.2 SH1 fG
  have SWG : Sub kW hG := subMark sx0 FG.2 SW1 fG
  refine Tr.val (t_heldIntSS _ aG nG cG (F_SymmetrizedSet (x0p0, x1p0)) 1 (wIntSS.toR WM) ⟨by omega, by omega⟩) ?_
  refine And.intro (fun hc => ?_) (fun hc => ?_)
  · have : (1 : Int) + (cIntSS (F_SymmetrizedSet (x0p0, x1p0)) : Nat) < 0 := by simpa only [decide_eq_true_eq] using hc
    omega
  clear hc
  refine And.intro (fun hc => ?_) (fun hc => ?_)
  · simp at hc
  clear hc
  refine Tr.mono (t_toPresentation _ [.int .i64 x0p0, .slice a1p0 n1p0 c1p0] (x0p0, x1p0) (wPresentation.mono SHG (closePresentation h0p0 h1p0)) hm0) ?_
  rintro v5 kA ⟨csA, rfl, NWA⟩
  obtain ⟨x0A, a1A, n1A, c1A, x1A, rfl, ezA, _, _⟩ := openPresentation NWA.r
  refine Tr.mono (t_implSymmetrizedSet _ [.int .i64 x0A, .slice a1A n1A c1A] (x0p0, x1p0) NWA.r hm0) ?_
  rintro vH kH NWH
  obtain ⟨aH, nH, cH, eRH⟩ := Wp.slice_cell NWH.r
  cases eRH
  refine Tr.val (t_eqIntSS _ aH nH cH aW nW cW (F_SymmetrizedSet (x0p0, x1p0)) (F_SymmetrizedSet (x0p0, x1p0)) NWH.r (wIntSS.mono (SWG.trans (NWA.sub.trans NWH.sub)) rW)) ?_
  refine And.intro (fun hc => ?_) (fun hc => ?_)
  · simp at hc
  clear hc
  refine Tr.val (t_heldIntSS _ aG nG cG (F_SymmetrizedSet (x0p0, x1p0)) 1 (wIntSS.mono (NWA.sub.trans NWH.sub) (wIntSS.toR WM)) ⟨by omega, by omega⟩) ?_
  refine And.intro (fun hc => ?_) (fun hc => ?_)
  · have : (1 : Int) + (cIntSS (F_SymmetrizedSet (x0p0, x1p0)) : Nat) < 0 := by simpa only [decide_eq_true_eq] using hc
    omega
  clear hc
  refine And.intro (fun hc => ?_) (fun hc => ?_)
  · simp at hc
  clear hc
  exact And.intro rfl ((SHG.trans NWA.sub).trans NWH.sub)
end Go.Proofs.Ythccjgkmmclplaa
