/- What the law on ConjugacyClasses does. -/
import Derived.Test.YtkjhghloldgioaaGreatKConjugacyClasses
import Derived.Test.YtkjhghloldgioaaGreatPart17
namespace Go.Proofs.YtkjhghloldgioaaGreat
open Go.H
set_option linter.unusedVariables false
set_option linter.unusedSimpArgs false
set_option maxRecDepth 10000
theorem I04(h:Hp)(v0:Value)(y0:B5)(aC:C5.R h [v0] y0):
  Tr Tryz.prog 12 #[v0] h λv h'=>v = .bool true/\Sub h h':=by
 obtain⟨a0,n0,c0,aR⟩:=Wp.slice_cell aC
 cases aR
 refine G3 (args:=[.slice a0 n0 c0]) (fn:=Tryz.f12) rfl ?_
 refine Tr.val (a0h _ a0 n0 c0 y0 (1048576) aC ⟨by omega,by omega⟩) ?_
 refine aI (λhc=>aI rfl (Sub.refl _)) (λhc=>?_)
 have aS:0<=szR (1048576) (C9 y0:Nat):=by simpa using hc
 have aY:=y0g aS
 have aB:C9 y0<=1048576:=by omega
 refine Tr.mono (u04 _ a0 n0 c0 y0 aC aB) ?_
 rintro v1 k1 n1
 obtain⟨aw,nw,cw,ezw⟩:=Wp.slice_cell n1.r
 cases ezw
 refine Tr.mono (t04 _ aw nw cw y0 n1.r aB) ?_
 rintro vW kW ⟨rW,sW⟩
 obtain⟨aW,nW,cW,eRW⟩:=Wp.slice_cell rW
 cases eRW
 refine Tr.mono (u04 _ a0 n0 c0 y0 (C5.mono (n1.sub.trans sW) aC) aB) ?_
 rintro aZ aT NX0
 have aD:=NX0.sub
 obtain⟨aF,aJ,aK,aL⟩:=Wp.slice_cell NX0.r
 cases aL
 refine Tr.mono (g01 _ aF aJ aK y0 NX0.r aB) ?_
 rintro vG kG NWG
 have sG:=NWG.sub
 obtain⟨aG,nG,cG,eRG⟩:=Wp.slice_cell NWG.r
 cases eRG
 refine Tr.val (Y08 _ aG nG cG aW nW cW (Z1 y0) (Z1 y0) NWG.r (l8.mono (aD.trans sG) rW)) ?_
 refine aI (λhc=>?_) (λhc=>?_)
 ·simp at hc
 clear hc
 refine Tr.mono (u04 _ a0 n0 c0 y0 (C5.mono (((n1.sub.trans sW).trans aD).trans sG) aC) aB) ?_
 rintro bA aO NQ0
 obtain⟨aU,aV,aX,aM⟩:=Wp.slice_cell NQ0.r
 cases aM
 refine Tr.val (b0h _ aF aJ aK aU aV aX y0 y0 (C5.mono (sG.trans NQ0.sub) NX0.r) NQ0.r) ?_
 refine aI (λhc=>?_) (λhc=>?_)
 ·exact absurd hc (by simp)
 clear hc
 have SH0:Sub h aO:=((((n1.sub.trans sW).trans aD).trans sG).trans NQ0.sub)
 have SW0:Sub kW aO:=((aD.trans sG).trans NQ0.sub)
 obtain⟨BG,wG,FG,_⟩:=NWG
 have WG0:=Wp.sub wG NQ0.sub
 obtain⟨BX0,aP,FX0,_⟩:=NX0
 have WX0_0:=Wp.sub aP (sG.trans NQ0.sub)
 have DX0:∀ b∈BX0,aT b≠none:=C5.dom (aP)
 have bB:=g0k y0
 refine Tr.mono (g0e _ aF aJ aK y0 BX0 (1) WX0_0 FX0.1 ⟨by omega,by omega⟩) ?_
 rintro bC aQ ⟨rfl,_,aN⟩
 have SH1:Sub h aQ:=L09 (n1.sub.trans sW) FX0.2 SH0 aN
 have SW1:Sub kW aQ:=L09 (Sub.refl _) FX0.2 SW0 aN
 have WG1:=c0k WG0 FG.2 DX0 aN
 refine eX (.bool _) (aI (λ_=>Y08 _ aG nG cG aW nW cW (Z1 y0) (Z1 y0) (l8.toR WG1) (l8.mono SW1 rW)) ?_)
 refine aI (λhc=>?_) (λhc=>?_)
 ·simp at hc<;>omega
 clear hc
 have cbR:=M06 y0 aB
 refine Tr.mono (Z0f _ aG nG cG (Z1 y0) BG 1 WG1 FG.1 ⟨by omega,by omega⟩) ?_
 rintro vmG hG ⟨rfl,WM,fG⟩
 have SHG:Sub h hG:=L09 ((n1.sub.trans sW).trans aD) FG.2 SH1 fG
 have SWG:Sub kW hG:=L09 aD FG.2 SW1 fG
 refine Tr.val (t09 _ aG nG cG (Z1 y0) 1 (l8.toR WM) ⟨by omega,by omega⟩) ?_
 refine aI (λhc=>?_) (λhc=>?_)
 ·have:(1:Int)+(l03 (Z1 y0):Nat)<0:=by simpa only[decide_eq_true_eq] using hc
  omega
 clear hc
 refine aI (λhc=>?_) (λhc=>?_)
 ·simp at hc
 clear hc
 refine Tr.mono (u04 _ a0 n0 c0 y0 (C5.mono SHG aC) aB) ?_
 rintro v5 kA NWA
 obtain⟨aA,nA,cA,ezA⟩:=Wp.slice_cell NWA.r
 cases ezA
 refine Tr.mono (g01 _ aA nA cA y0 NWA.r aB) ?_
 rintro vH kH NWH
 obtain⟨aH,nH,cH,eRH⟩:=Wp.slice_cell NWH.r
 cases eRH
 refine Tr.val (Y08 _ aH nH cH aW nW cW (Z1 y0) (Z1 y0) NWH.r (l8.mono (SWG.trans (NWA.sub.trans NWH.sub)) rW)) ?_
 refine aI (λhc=>?_) (λhc=>?_)
 ·simp at hc
 clear hc
 refine Tr.val (t09 _ aG nG cG (Z1 y0) 1 (l8.mono (NWA.sub.trans NWH.sub) (l8.toR WM)) ⟨by omega,by omega⟩) ?_
 refine aI (λhc=>?_) (λhc=>?_)
 ·have:(1:Int)+(l03 (Z1 y0):Nat)<0:=by simpa only[decide_eq_true_eq] using hc
  omega
 clear hc
 refine aI (λhc=>?_) (λhc=>?_)
 ·simp at hc
 clear hc
 exact aI rfl ((SHG.trans NWA.sub).trans NWH.sub)
end Go.Proofs.YtkjhghloldgioaaGreat
