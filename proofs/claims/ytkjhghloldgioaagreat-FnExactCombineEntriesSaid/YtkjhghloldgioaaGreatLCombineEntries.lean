/- What the law on CombineEntries does. -/
import Derived.Test.YtkjhghloldgioaaGreatPart29
import Derived.Test.YtkjhghloldgioaaGreatPart18
namespace Go.Proofs.YtkjhghloldgioaaGreat
open Go.H
set_option linter.unusedVariables false
set_option linter.unusedSimpArgs false
set_option maxRecDepth 10000
theorem w06(h:Hp)(aO:List Value)(y0:Q0)(aT:Y1.R h aO y0)(y1:ByteArray)(aJ:y1.size<=9223372036854775807)(y2:ByteArray)(aK:y2.size<=9223372036854775807)(y3:ByteArray)(aL:y3.size<=9223372036854775807)(y4:ByteArray)(aM:y4.size<=9223372036854775807):
  Tr Tryz.prog 10 #[.agg aO.toArray,.string y1,.string y2,.string y3,.string y4] h λv h'=>v = .bool true/\Sub h h':=by
 obtain⟨x0p0,a1p0,n1p0,c1p0,x1p0,rfl,rfl,h0p0,h1p0⟩:=L1 aT
 refine D3 (args:=[.agg #[.int .i64 x0p0,.slice a1p0 n1p0 c1p0],.string y1,.string y2,.string y3,.string y4]) (fn:=Tryz.f10) rfl ?_
 refine aI (λhc=>aI rfl (Sub.refl _)) (λhc=>?_)
 have aC:y1.size<=1048576:=by simp at hc;omega
 refine aI (λhc=>aI rfl (Sub.refl _)) (λhc=>?_)
 have aD:y2.size<=1048576:=by simp at hc;omega
 refine aI (λhc=>aI rfl (Sub.refl _)) (λhc=>?_)
 have aF:y3.size<=1048576:=by simp at hc;omega
 refine aI (λhc=>aI rfl (Sub.refl _)) (λhc=>?_)
 have aG:y4.size<=1048576:=by simp at hc;omega
 refine Tr.val (I0g _ [.int .i64 x0p0,.slice a1p0 n1p0 c1p0] (x0p0,x1p0) (1048576) (T0 h0p0 h1p0) ⟨by omega,by omega⟩) ?_
 refine aI (λhc=>aI rfl (Sub.refl _)) (λhc=>?_)
 have aU:0<=szR (1048576) (n8 (x0p0,x1p0):Nat):=by simpa using hc
 have aY:=a09 aU
 have aA:n8 (x0p0,x1p0)<=1048576:=by omega
 refine Tr.mono (K03 _ [.int .i64 x0p0,.slice a1p0 n1p0 c1p0] (x0p0,x1p0) (T0 h0p0 h1p0) aA) ?_
 rintro v1 k1 ⟨aZ,rfl,n1⟩
 obtain⟨x0w,a1w,n1w,c1w,x1w,rfl,ezw,_,_⟩:=L1 n1.r
 refine Tr.mono (a06 _ [.int .i64 x0w,.slice a1w n1w c1w] (x0p0,x1p0) n1.r aA y1 aJ aC y2 aK aD y3 aL aF y4 aM aG) ?_
 rintro vW kW ⟨csW,rfl,rW,sW⟩
 obtain⟨x0W,a1W,n1W,c1W,x1W,rfl,eRW,_,_⟩:=L1 rW
 refine Tr.mono (K03 _ [.int .i64 x0p0,.slice a1p0 n1p0 c1p0] (x0p0,x1p0) (Y1.mono (n1.sub.trans sW) (T0 h0p0 h1p0)) aA) ?_
 rintro v2 aV ⟨aW,rfl,NX0⟩
 have aB:=NX0.sub
 obtain⟨x0x0,a1x0,n1x0,c1x0,x1x0,rfl,aX,_,_⟩:=L1 NX0.r
 refine Tr.mono (v02 _ [.int .i64 x0x0,.slice a1x0 n1x0 c1x0] (x0p0,x1p0) NX0.r aA y1 aJ aC y2 aK aD y3 aL aF y4 aM aG) ?_
 rintro vG kG ⟨csG,rfl,NWG⟩
 have sG:=NWG.sub
 obtain⟨x0G,a1G,n1G,c1G,x1G,rfl,eRG,_,_⟩:=L1 NWG.r
 refine Tr.val (J03 _ [.int .i64 x0G,.slice a1G n1G c1G] [.int .i64 x0W,.slice a1W n1W c1W] (T2 (x0p0,x1p0) y1 y2 y3 y4).1 (T2 (x0p0,x1p0) y1 y2 y3 y4).1 NWG.r (Y1.mono (aB.trans sG) rW)) ?_
 refine aI (λhc=>?_) (λhc=>?_)
 ·simp at hc
 clear hc
 refine Or.inr (Or.inr (Or.inr (Or.inl (aI (aI (by kernel_rfl) (by kernel_rfl)) ?_))))
 refine Or.inr (eX (λv hh=>∃ cs,v = .agg cs.toArray/\Y1.R hh cs (x0p0,x1p0)) (aI (λv ha hb s hh=>by obtain⟨cs,e,q⟩:=hh;exact⟨cs,e,Y1.mono s q⟩) (aI ?_ ?_)))
 ·intro h3 s3
  refine Tr.mono (K03 h3 [.int .i64 x0p0,.slice a1p0 n1p0 c1p0] (x0p0,x1p0) (Y1.mono ((((n1.sub.trans sW).trans aB).trans sG).trans s3) (T0 h0p0 h1p0)) aA) ?_
  rintro v h4 ⟨aP,rfl,n4⟩
  exact aI g0b (aI n4.sub ⟨aP,rfl,n4.r⟩)
 refine Or.inr (eX (λv hh=>v = .bool true) (aI (λ_ _ _ _ e=>e) (aI ?_ ?_)))
 ·rintro h3 s3 v ⟨aP,rfl,q⟩
  obtain⟨x0z,a1z,n1z,c1z,x1z,rfl,ez,_,_⟩:=L1 q
  refine Tr.mono (J03 h3 [.int .i64 x0x0,.slice a1x0 n1x0 c1x0] [.int .i64 x0z,.slice a1z n1z c1z] (x0p0,x1p0) (x0p0,x1p0) (Y1.mono (sG.trans s3) NX0.r) q) ?_
  rintro v h4 ⟨rfl,rfl⟩
  exact aI g0b (aI (Sub.refl _) (by simp))
 refine Or.inr (eX (λv hh=>v = .bool false) (aI (λ_ _ _ _ e=>e) (aI ?_ ?_)))
 ·rintro h3 s3 v rfl
  exact aI g0b (aI (Sub.refl _) rfl)
 rintro aQ aH v9 rfl v8 rfl v7 f7
 refine aI (λhc=>?_) (λhc=>?_)
 ·cases hc
 clear hc
 have SH0:Sub h aQ:=((((n1.sub.trans sW).trans aB).trans sG).trans aH)
 have SW0:Sub kW aQ:=((aB.trans sG).trans aH)
 obtain⟨BG,wG,FG,_⟩:=NWG
 have WG0:=Wp.sub wG aH
 obtain⟨BX0,aR,FX0,_⟩:=NX0
 have WX0_0:=Wp.sub aR (sG.trans aH)
 have DX0:∀ b∈BX0,aV b≠none:=Y1.dom (aR)
 have bA:=S0j (x0p0,x1p0)
 refine Tr.mono (S06 _ [.int .i64 x0x0,.slice a1x0 n1x0 c1x0] (x0p0,x1p0) BX0 (1) WX0_0 FX0.1 ⟨by omega,by omega⟩) ?_
 rintro bB aS ⟨rfl,_,aN⟩
 have SH1:Sub h aS:=m0a (n1.sub.trans sW) FX0.2 SH0 aN
 have SW1:Sub kW aS:=m0a (Sub.refl _) FX0.2 SW0 aN
 have WG1:=p0l WG0 FG.2 DX0 aN
 refine eX (.bool _) (aI (λ_=>J03 _ [.int .i64 x0G,.slice a1G n1G c1G] [.int .i64 x0W,.slice a1W n1W c1W] (T2 (x0p0,x1p0) y1 y2 y3 y4).1 (T2 (x0p0,x1p0) y1 y2 y3 y4).1 (Y1.toR WG1) (Y1.mono SW1 rW)) ?_)
 refine aI (λhc=>?_) (λhc=>?_)
 ·simp at hc<;>omega
 clear hc
 have cbR:=x09 (x0p0,x1p0) y1 y2 y3 y4 aA aC aD aF aG
 refine Tr.mono (S06 _ [.int .i64 x0G,.slice a1G n1G c1G] (T2 (x0p0,x1p0) y1 y2 y3 y4).1 BG 1 WG1 FG.1 ⟨by omega,by omega⟩) ?_
 rintro vmG hG ⟨rfl,WM,fG⟩
 have SHG:Sub h hG:=m0a ((n1.sub.trans sW).trans aB) FG.2 SH1 fG
 have SWG:Sub kW hG:=m0a aB FG.2 SW1 fG
 refine Tr.val (T06 _ [.int .i64 x0G,.slice a1G n1G c1G] (T2 (x0p0,x1p0) y1 y2 y3 y4).1 1 (Y1.toR WM) ⟨by omega,by omega⟩) ?_
 refine aI (λhc=>?_) (λhc=>?_)
 ·have:(1:Int)+(U5 (T2 (x0p0,x1p0) y1 y2 y3 y4).1:Nat)<0:=by simpa only[decide_eq_true_eq] using hc
  omega
 clear hc
 refine aI (λhc=>?_) (λhc=>?_)
 ·simp at hc
 clear hc
 refine Tr.mono (K03 _ [.int .i64 x0p0,.slice a1p0 n1p0 c1p0] (x0p0,x1p0) (Y1.mono SHG (T0 h0p0 h1p0)) aA) ?_
 rintro v5 kA ⟨csA,rfl,NWA⟩
 obtain⟨x0A,a1A,n1A,c1A,x1A,rfl,ezA,_,_⟩:=L1 NWA.r
 refine Tr.mono (v02 _ [.int .i64 x0A,.slice a1A n1A c1A] (x0p0,x1p0) NWA.r aA y1 aJ aC y2 aK aD y3 aL aF y4 aM aG) ?_
 rintro vH kH ⟨csH,rfl,NWH⟩
 obtain⟨x0H,a1H,n1H,c1H,x1H,rfl,eRH,_,_⟩:=L1 NWH.r
 refine Tr.val (J03 _ [.int .i64 x0H,.slice a1H n1H c1H] [.int .i64 x0W,.slice a1W n1W c1W] (T2 (x0p0,x1p0) y1 y2 y3 y4).1 (T2 (x0p0,x1p0) y1 y2 y3 y4).1 NWH.r (Y1.mono (SWG.trans (NWA.sub.trans NWH.sub)) rW)) ?_
 refine aI (λhc=>?_) (λhc=>?_)
 ·simp at hc
 clear hc
 refine Tr.val (T06 _ [.int .i64 x0G,.slice a1G n1G c1G] (T2 (x0p0,x1p0) y1 y2 y3 y4).1 1 (Y1.mono (NWA.sub.trans NWH.sub) (Y1.toR WM)) ⟨by omega,by omega⟩) ?_
 refine aI (λhc=>?_) (λhc=>?_)
 ·have:(1:Int)+(U5 (T2 (x0p0,x1p0) y1 y2 y3 y4).1:Nat)<0:=by simpa only[decide_eq_true_eq] using hc
  omega
 clear hc
 refine aI (λhc=>?_) (λhc=>?_)
 ·simp at hc
 clear hc
 exact aI rfl ((SHG.trans NWA.sub).trans NWH.sub)
end Go.Proofs.YtkjhghloldgioaaGreat
