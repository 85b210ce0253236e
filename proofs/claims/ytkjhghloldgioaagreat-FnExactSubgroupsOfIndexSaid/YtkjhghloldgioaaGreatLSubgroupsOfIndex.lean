/- What the law on SubgroupsOfIndex does. -/
import Derived.Test.YtkjhghloldgioaaGreatKSubgroupsOfIndex
import Derived.Test.YtkjhghloldgioaaGreatPart17
namespace Go.Proofs.YtkjhghloldgioaaGreat
open Go.H
set_option linter.unusedVariables false
set_option linter.unusedSimpArgs false
set_option maxRecDepth 10000
theorem H01(h:Hp)(y0:Int)(aA:J0 y0)(y1:Int)(aB:J0 y1):
  Tr Tryz.prog 11 #[.int .i64 y0,.int .i64 y1] h λv h'=>v = .bool true/\Sub h h':=by
 refine D2 (args:=[.int .i64 y0,.int .i64 y1]) (fn:=Tryz.f11) rfl ?_
 refine Tr.mono (y01 _ y0 aA y1 aB) ?_
 rintro vW kW ⟨csW,rfl,rW,sW⟩
 obtain⟨aW,nW,cW,eRW⟩:=Wp.slice_cell rW
 cases eRW
 refine Tr.mono (C8 _ y0 aA y1 aB) ?_
 rintro vG kG ⟨csG,rfl,NWG⟩
 have sG:=NWG.sub
 obtain⟨aG,nG,cG,eRG⟩:=Wp.slice_cell NWG.r
 cases eRG
 refine Tr.val (r06 _ aG nG cG aW nW cW (R0 y0 y1).1 (R0 y0 y1).1 NWG.r (f4.mono sG rW)) ?_
 refine aI (λhc=>?_) (λhc=>?_)
 ·simp at hc
 clear hc
 have SH0:Sub h kG:=(sW.trans sG)
 have SW0:Sub kW kG:=sG
 obtain⟨BG,wG,FG,_⟩:=NWG
 have WG0:=wG
 have cbR:=w03 y0 y1 aA aB
 refine Tr.mono (O07 _ aG nG cG (R0 y0 y1).1 BG 1 WG0 FG.1 ⟨by omega,by omega⟩) ?_
 rintro vmG hG ⟨rfl,WM,fG⟩
 have SHG:Sub h hG:=Z09 sW FG.2 SH0 fG
 have SWG:Sub kW hG:=Z09 (Sub.refl _) FG.2 SW0 fG
 refine Tr.val (g04 _ aG nG cG (R0 y0 y1).1 1 (f4.toR WM) ⟨by omega,by omega⟩) ?_
 refine aI (λhc=>?_) (λhc=>?_)
 ·have:(1:Int)+(p8 (R0 y0 y1).1:Nat)<0:=by simpa only[decide_eq_true_eq] using hc
  omega
 clear hc
 refine aI (λhc=>?_) (λhc=>?_)
 ·simp at hc
 clear hc
 refine Tr.mono (C8 _ y0 aA y1 aB) ?_
 rintro vH kH ⟨csH,rfl,NWH⟩
 obtain⟨aH,nH,cH,eRH⟩:=Wp.slice_cell NWH.r
 cases eRH
 refine Tr.val (r06 _ aH nH cH aW nW cW (R0 y0 y1).1 (R0 y0 y1).1 NWH.r (f4.mono (SWG.trans NWH.sub) rW)) ?_
 refine aI (λhc=>?_) (λhc=>?_)
 ·simp at hc
 clear hc
 refine Tr.val (g04 _ aG nG cG (R0 y0 y1).1 1 (f4.mono NWH.sub (f4.toR WM)) ⟨by omega,by omega⟩) ?_
 refine aI (λhc=>?_) (λhc=>?_)
 ·have:(1:Int)+(p8 (R0 y0 y1).1:Nat)<0:=by simpa only[decide_eq_true_eq] using hc
  omega
 clear hc
 refine aI (λhc=>?_) (λhc=>?_)
 ·simp at hc
 clear hc
 exact aI rfl (SHG.trans NWH.sub)
end Go.Proofs.YtkjhghloldgioaaGreat
