/- Texts of the claim, joined: The walks of batch m2 and others. -/
import Derived.Test.YtkjhghloldgioaaGreatPart20
import Derived.Test.YtkjhghloldgioaaGreatChecked
import Derived.Test.YtkjhghloldgioaaGreatH35
import Derived.Test.YtkjhghloldgioaaGreatPart28
import Derived.Test.YtkjhghloldgioaaGreatPart19
import Derived.Test.YtkjhghloldgioaaGreatH36
import Derived.Test.YtkjhghloldgioaaGreatPart30
import Derived.Test.YtkjhghloldgioaaGreatH41
import Derived.Test.YtkjhghloldgioaaGreatH40
import Derived.Test.YtkjhghloldgioaaGreatPart23
import Derived.Test.YtkjhghloldgioaaGreatH44
namespace Go.Proofs.YtkjhghloldgioaaGreat
open Go.H
set_option linter.unusedVariables false
set_option linter.unusedSimpArgs false
set_option maxRecDepth 10000
set_option maxHeartbeats 0
theorem P0b(h:Hp)(aB:List Value)(p0:j0)(aO:Z0.R h aB p0)(r:Bool)(aC:M00 p0=some r):
  Tr Tryz.prog 232 #[.agg aB.toArray] h λv h'=>v = .bool r/\h'=h:=by
 obtain⟨aJ,aK,aD,aM,aF,aL,rfl,rfl,aG,aH,aA⟩:=H0 aO
 obtain⟨rfl,aN⟩:=Sl.len aA
 unfold M00 at aC
 dsimp only at aC
 refine Tr.forget (O2 (args:=[.agg #[.int .i64 aJ,.int .i64 aK,.slice aD aL.length aF]]) (fn:=Tryz.f232) rfl ?_)
 refine trV aC (x00 _ _ _ (B0 aG aH aA)) λx1 aC=>?_
 obtain rfl:=oJ aC
 exact aI rfl (Sub.refl _)
theorem U0h(h:Hp)(bD:List Value)(p0:j0)(eD:Z0.R h bD p0)(p1:Int)(eE:P0 p1)(r:F0×(List (Option F0)))(aO:R02 p0 p1=some r):
  Tr Tryz.prog 236 #[.agg bD.toArray,.int .i64 p1] h λv h'=>∃(a0:Option Addr) (n0 c0:Nat) (a1:Option Addr) (n1 c1:Nat),v = .tuple #[.slice a0 n0 c0,.slice a1 n1 c1]/\W0.R h' [.slice a0 n0 c0] r.1/\(Wp.slice Wp.opt).R h' [.slice a1 n1 c1] r.2/\Sub h h':=by
 obtain⟨aJ,aC,bE,dN,bF,aK,rfl,rfl,aS,bG,aT⟩:=H0 eD
 obtain⟨rfl,dO⟩:=Sl.len aT
 unfold R02 at aO
 dsimp only at aO
 refine O2 (args:=[.agg #[.int .i64 aJ,.int .i64 aC,.slice bE aK.length bF],.int .i64 p1]) (fn:=Tryz.f236) rfl ?_
 obtain⟨q1,eF,aO⟩:=l0 aO
 refine aI (I0 eF) ?_
 obtain⟨x2,eG,aO⟩:=l0 aO
 obtain⟨eH,eI,eJ,eK⟩:=P1 (F2.rep (p:=Wp.opt.R h) (a:=[.slice none 0 0]) (b:=none) (x0m h) (aC.toNat)) eG
 refine aI eH ?_
 obtain⟨fZ,gA,gB,rfl,gC,eM⟩:=eK
 obtain⟨rfl,gD⟩:=Sl.len eM
 intro v3 k4 f5
 obtain⟨dP,dQ,rfl,eN,cA,gE⟩:=U0.outS (r:=Wp.int.toRp) f5 (show F2 (Wp.int.R h) ([]:List (List Value)) ([]:F0) from trivial)
 refine eX _ (aI eJ ?_)
 obtain⟨X7,cC,aO⟩:=l0 aO
 refine eX { vars:=[8],boxes:=[],owns:=[0,2],fuel:=true,kept:=[0] } (eX (λvs os h'=>∃ u8 bX u9 aL bC,vs.tail = [.int .i64 u8]/\os = [bX,aL]/\Sub k4 h'/\P0 u8/\F2 (Wp.opt.R h') bX u9/\F2 (Wp.int.R h') aL bC/\W9 aJ aC aK (I1 vs) u8 u9 bC=some X7) (eX (λ_ _=>0) (aI (eX Q0 ⟨0,((List.replicate aC.toNat ([.slice none 0 0]:List Value)).set p1.toNat [.slice (some ⟨dP,0,none⟩) (([]:F0)).length dQ]),((List.replicate aC.toNat (none:Option F0)).set p1.toNat (some ([]:F0))),([[.int .i64 p1]]:List (List Value)),[p1],rfl,rfl,(Sub.refl _),(by decide),(F2.set (p:=Wp.opt.R k4) (a:=[.slice (some ⟨dP,0,none⟩) (([]:F0)).length dQ]) (b:=some ([]:F0)) (y0m eN) p1.toNat (F2.up (r:=Wp.opt.toRp) cA (F2.rep (p:=Wp.opt.R h) (a:=[.slice none 0 0]) (b:=none) (x0m h) (aC.toNat)))),(show F2 (Wp.int.R k4) ([[.int .i64 p1]]:List (List Value)) [p1] from⟨⟨rfl,eE⟩,trivial⟩),cC⟩) ?_)))
 rintro _ bX aL bY gF ⟨u8,eO,u9,dR,bC,⟨⟩,⟨⟩,cD,gG,dS,aQ,aB⟩
 replace aB:W9 aJ aC aK bY u8 u9 bC=some X7:=aB
 obtain _|bY:=bY
 ·cases aB
 rw[W9.eq_2]at aB
 obtain⟨eP,cE,aB⟩:=l0 aB
 obtain rfl:aL.length=eP:=(F2.length aQ).trans (oJ cE)
 obtain⟨gH,eQ,aB⟩:=l0 aB
 refine ifB aB (λcG aB=>?_) λcG aB=>?_
 ·obtain⟨dT,cH,aB⟩:=l0 aB
  obtain⟨cI,dU,cJ,cK⟩:=P1 aQ cH
  refine aI cI ?_
  obtain⟨rfl,cL⟩:=cK
  refine eX _ (aI cJ ?_)
  refine trM aB (Q04 _ _ aS) ?_
  rintro dV aB gI eR ⟨eT,eU,eV,rfl,bH,aR⟩
  obtain⟨rfl,eW⟩:=Sl.len bH
  obtain⟨X20,bI,aB⟩:=l0 aB
  refine eX { vars:=[36],boxes:=[],owns:=[0,2],fuel:=true,kept:=[0] } (eX (λvs os h'=>∃ aW aF aX aG aY,vs.tail = [.int .i64 aW]/\os = [aF,aG]/\Sub eR h'/\P0 aW/\F2 (Wp.opt.R h') aF aX/\F2 (Wp.int.R h') aG aY/\W8 dV aJ aC aK dT (I1 vs) aW aX aY=some X20) (eX (λ_ _=>0) (aI (eX Q0 ⟨0,bX,u9,aL,bC,rfl,rfl,(Sub.refl _),(by decide),(F2.up (r:=Wp.opt.toRp) aR dS),(F2.up (r:=Wp.int.toRp) aR aQ),bI⟩) ?_)))
  rintro _ aF aG bJ dW ⟨aW,dX,aX,dY,aY,⟨⟩,⟨⟩,aM,eY,aH,aN,aA⟩
  replace aA:W8 dV aJ aC aK dT bJ aW aX aY=some X20:=aA
  obtain _|bJ:=bJ
  ·cases aA
  rw[W8.eq_2]at aA
  refine ifB aA (λcM aA=>?_) λcM aA=>?_
  ·refine ldI aA (W0.mono aM bH) λaU aZ aA=>?_
   refine trV aA (i9 _ _ _ (B0 aS bG (O0.mono (((cA.trans cD).trans aR).trans aM) aT)) _ cL _ aZ) λaP aA=>?_
   obtain⟨gJ,cN,aA⟩:=l0 aA
   have bK:P0 aP:=I0 cN
   obtain⟨eZ,cO,aA⟩:=l0 aA
   obtain⟨dZ,bL,cP⟩:=f01 aH cO (n0r dW)
   refine aI (λq=>(bL q).1) ?_
   obtain⟨fA,fB,fC,rfl,cQ,cR⟩:=cP
   obtain⟨rfl,fD⟩:=Sl.len cR
   refine eX _ (aI (λq=>(bL q).2) ?_)
   refine eX (eZ.isNone) (aI (λ_=>by rw[←cQ];exact T0p _ _ _ rfl _ _ _) ?_)
   refine ifB aA (λcS aA=>?_) λcS aA=>?_
   ·obtain⟨gK,cT,aA⟩:=l0 aA
    obtain⟨cU,eA,cV,cW⟩:=P1 aH cT
    refine aI cU ?_
    obtain⟨fE,fF,fG,rfl,fH,bM⟩:=cW
    obtain⟨rfl,fJ⟩:=Sl.len bM
    refine eX _ (aI cV ?_)
    obtain⟨bZ,bN,aA⟩:=l0 aA
    refine Tr.mono (M06 _ _ _ _ _ bM _  bN) ?_
    rintro gL cX ⟨bN,fK,fL,rfl,bA⟩
    have fM:Sub dW cX:=bA.sub
    have cY:=bA.r
    obtain⟨rfl,fN⟩:=Sl.len cY
    obtain⟨gM,cZ,aA⟩:=l0 aA
    obtain⟨bO,bP,aV,bQ⟩:=New.app bA (Sub.refl _)
    refine eX bO (aI bP (aI (J1 cZ (by first|rw[aV,F2.length (show F2 (Wp.int.R cX) ([[.int .i64 aU]]:List (List Value)) [aU] from⟨⟨rfl,aZ⟩,trivial⟩)]|(rw[aV];rfl))) ?_))
    intro fO bB happz37
    obtain⟨aD,bR,bS,fP,bT,rfl⟩:=bQ _ _ _ _ _ (F3.ofPlain (B04 _) (show F2 (Wp.int.R cX) ([[.int .i64 aU]]:List (List Value)) [aU] from⟨⟨rfl,aZ⟩,trivial⟩)) K6.ofPlain happz37
    have bU:=aD.r
    obtain⟨dA,fQ⟩:=Sl.len bU
    subst dA
    obtain⟨gN,dB,aA⟩:=l0 aA
    obtain⟨dC,eC,dD,dE⟩:=P1 (F2.up (r:=Wp.opt.toRp) aD.sub aH) dB
    refine aI dC ?_
    obtain⟨fR,fS,fT,rfl,fU,dF⟩:=dE
    obtain⟨rfl,fV⟩:=Sl.len dF
    refine eX _ (aI dD ?_)
    obtain⟨gO,dG,aA⟩:=l0 aA
    refine aI (J1 dG (by first|rw[F2.length (F2.up (r:=Wp.int.toRp) aD.sub aN),F2.length (show F2 (Wp.int.R bB) ([[.int .i64 aP]]:List (List Value)) [aP] from⟨⟨rfl,bK⟩,trivial⟩)]|exact congrArg (·+1) (F2.length (F2.up (r:=Wp.int.toRp) aD.sub aN)))) ?_
    exact D2 bJ ⟨(IntKind.i64.wrap (aW+1)),(aF.set aP.toNat [.slice (some ⟨bR,bS,none⟩) (bZ ++ [aU]).length bT]),(aX.set aP.toNat (some (bZ ++ [aU]))),(aG++([[.int .i64 aP]]:List (List Value))),(aY ++ [aP]),rfl,rfl,(aM.trans aD.sub),(J0 _),(F2.set (p:=Wp.opt.R bB) (a:=[.slice (some ⟨bR,bS,none⟩) (bZ ++ [aU]).length bT]) (b:=some (bZ ++ [aU])) (y0m bU) aP.toNat (F2.up (r:=Wp.opt.toRp) aD.sub aH)),(F2.append (F2.up (r:=Wp.int.toRp) aD.sub aN) (show F2 (Wp.int.R bB) ([[.int .i64 aP]]:List (List Value)) [aP] from⟨⟨rfl,bK⟩,trivial⟩)),aA⟩
   ·exact D2 bJ ⟨(IntKind.i64.wrap (aW+1)),aF,aX,aG,aY,rfl,rfl,aM,(J0 _),aH,aN,aA⟩
  ·obtain rfl:=oJ aA
   try dsimp only[S0,T0]at aB
   exact D2 bY ⟨(IntKind.i64.wrap (u8+1)),aF,aX,aG,aY,rfl,rfl,((cD.trans aR).trans aM),(J0 _),aH,aN,aB⟩
 ·obtain rfl:=oJ aB
  try dsimp only[S0,T0]at aO
  intro gP gQ f47
  obtain⟨dH,dI,rfl,dJ,bV,fW⟩:=U0.out (r:=Wp.int.toRp) f47 aQ
  intro gR gS fX
  obtain⟨dK,dL,rfl,dM,bW,fY⟩:=U0.out (r:=Wp.opt.toRp) fX (F2.up (r:=Wp.opt.toRp) bV dS)
  obtain rfl:=oJ aO
  exact⟨dH,bC.length,dI,dK,u9.length,dL,rfl,(W0.mono bW dJ),dM,(((cA.trans cD).trans bV).trans bW)⟩
theorem H0c(h:Hp)(aH:List Value)(p0:j0)(bO:Z0.R h aH p0)(p1:Int)(bA:P0 p1)(p2:Int)(bP:P0 p2)(r:F0×Bool)(aA:c8 p0 p1 p2=some r):
  Tr Tryz.prog 322 #[.agg aH.toArray,.int .i64 p1,.int .i64 p2] h λv h'=>∃(a0:Option Addr) (n0 c0:Nat),v = .tuple #[.slice a0 n0 c0,.bool r.2]/\W0.R h' [.slice a0 n0 c0] r.1/\Sub h h':=by
 obtain⟨aM,aN,aJ,bB,aK,aO,rfl,rfl,aC,aD,aB⟩:=H0 bO
 obtain⟨rfl,bC⟩:=Sl.len aB
 unfold c8 at aA
 dsimp only at aA
 refine O2 (args:=[.agg #[.int .i64 aM,.int .i64 aN,.slice aJ aO.length aK],.int .i64 p1,.int .i64 p2]) (fn:=Tryz.f322) rfl ?_
 refine trV aA (p9 _ _ _ (B0 aC aD aB)) λx1 aA=>?_
 refine trG aA (λq=>Q00 _ _ _ (B0 aC aD aB) _ bA) λx2 aA=>?_
 refine trG aA (λq=>Q00 _ _ _ (B0 aC aD aB) _ bP) λx3 aA=>?_
 refine ifB aA (λbQ aA=>?_) λbQ aA=>?_
 ·intro v5 k6 f7
  obtain⟨bR,bS,rfl,bT,bU,cL⟩:=U0.out (r:=Wp.int.toRp) f7 (show F2 (Wp.int.R h) ([]:List (List Value)) ([]:F0) from trivial)
  obtain rfl:=oJ aA
  exact⟨bR,(([]:F0)).length,bS,rfl,bT,bU⟩
 ·refine trM aA (U0h _ _ _ (B0 aC aD aB) _ bA) ?_
  rintro x9 aA cM bV ⟨bD,bE,bF,bG,bH,bI,rfl,aG,aF,bJ⟩
  obtain⟨bW,bX⟩:=x9
  dsimp only at aA aG aF
  obtain⟨rfl,bK⟩:=Sl.len aG
  obtain⟨rfl,bL⟩:=Sl.len aF
  refine ld aA aF λbY bM aP aA=>?_
  obtain⟨bZ,cA,cC,rfl,aQ,aR⟩:=aP
  obtain⟨rfl,cD⟩:=Sl.len aR
  refine eX (bY.isNone) (aI (by rw[←aQ];exact T0p _ _ _ rfl _ _ _) ?_)
  refine ifB aA (λaS aA=>?_) λaS aA=>?_
  ·intro cN cO cE
   obtain⟨aT,aU,rfl,aV,aW,cG⟩:=U0.out (r:=Wp.int.toRp) cE (show F2 (Wp.int.R bV) ([]:List (List Value)) ([]:F0) from trivial)
   obtain rfl:=oJ aA
   exact⟨aT,(([]:F0)).length,aU,rfl,aV,(bJ.trans aW)⟩
  ·refine ld aA aF λcH bN aX aA=>?_
   obtain⟨aY,cI,aZ,rfl,cJ,aL⟩:=aX
   obtain⟨rfl,cK⟩:=Sl.len aL
   obtain rfl:=oJ aA
   exact⟨aY,(cH.getD []).length,aZ,rfl,aL,bJ⟩
theorem I0c(h:Hp)(aD:List Value)(p0:j0)(aU:Z0.R h aD p0)(p1:Int)(aV:P0 p1)(r:F0)(aC:o01 p0 p1=some r):
  Tr Tryz.prog 257 #[.agg aD.toArray,.int .i64 p1] h λv h'=>∃(a0:Option Addr) (n0 c0:Nat),v = .slice a0 n0 c0/\W0.R h' [.slice a0 n0 c0] r/\Sub h h':=by
 obtain⟨aM,aN,aF,aQ,aG,aO,rfl,rfl,aH,aJ,aB⟩:=H0 aU
 obtain⟨rfl,aR⟩:=Sl.len aB
 unfold o01 at aC
 dsimp only at aC
 refine O2 (args:=[.agg #[.int .i64 aM,.int .i64 aN,.slice aF aO.length aG],.int .i64 p1]) (fn:=Tryz.f257) rfl ?_
 refine trM aC (H0c _ _ _ (B0 aH aJ aB) 0 (by decide) _ aV) ?_
 rintro x1 aC v3 k2 ⟨aK,aS,aL,rfl,aA,aW⟩
 obtain⟨aP,aX⟩:=x1
 dsimp only at aC aA
 obtain⟨rfl,aT⟩:=Sl.len aA
 obtain rfl:=oJ aC
 exact⟨aK,aP.length,aL,rfl,aA,aW⟩
theorem C06(h:Hp)(aW:List Value)(p0:j0)(bY:Z0.R h aW p0)(r:E2)(aJ:H6 p0=some r):
  Tr Tryz.prog 233 #[.agg aW.toArray] h λv h'=>∃(a0:Option Addr) (n0 c0:Nat),v = .slice a0 n0 c0/\l9.R h' [.slice a0 n0 c0] r/\Sub h h':=by
 obtain⟨aN,aO,aX,bS,aY,aP,rfl,rfl,aG,aH,aB⟩:=H0 bY
 obtain⟨rfl,bT⟩:=Sl.len aB
 unfold H6 at aJ
 dsimp only at aJ
 refine O2 (args:=[.agg #[.int .i64 aN,.int .i64 aO,.slice aX aP.length aY]]) (fn:=Tryz.f233) rfl ?_
 refine trV aJ (V01 _ _ _ (B0 aG aH aB)) λx1 aJ=>?_
 refine ifB aJ (λbZ aJ=>?_) λbZ aJ=>?_
 ·intro v3 k4 f5
  obtain⟨cA,cC,rfl,cD,cE,cO⟩:=U0.out (r:=W0.toRp) f5 (show F2 (W0.R h) ([]:List (List Value)) ([]:E2) from trivial)
  obtain rfl:=oJ aJ
  exact⟨cA,(([]:E2)).length,cC,rfl,cD,cE⟩
 ·obtain⟨X7,bK,aJ⟩:=l0 aJ
  refine eX { vars:=[4],boxes:=[],owns:=[0],fuel:=true } (eX (λvs os h'=>∃ u8 aZ u9,vs.tail = [.int .i64 u8]/\os = [aZ]/\Sub h h'/\P0 u8/\F2 (W0.R h') aZ u9/\E3 aO aN aP (I1 vs) u8 u9=some X7) (eX (λ_ _=>0) (aI (eX Q0 ⟨0,[],([]:E2),rfl,rfl,(Sub.refl _),(by decide),(show F2 (W0.R h) ([]:List (List Value)) ([]:E2) from trivial),bK⟩) ?_)))
  rintro _ aZ bA cG ⟨u8,cH,u9,⟨⟩,⟨⟩,aU,bU,bB,aA⟩
  replace aA:E3 aO aN aP bA u8 u9=some X7:=aA
  obtain _|bA:=bA
  ·cases aA
  rw[E3.eq_2]at aA
  refine ifB aA (λbL aA=>?_) λbL aA=>?_
  ·refine trM aA (G0c _ _ _ (B0 aG aH (O0.mono aU aB)) _ bU) ?_
   rintro cI aA cP cJ ⟨bG,rfl,aF⟩
   obtain⟨bV,bW⟩:=cI
   dsimp only at aA aF
   have aC:Sub cG cJ:=aF.sub
   have aQ:=aF.r
   obtain⟨bH,bI,bC,bD,bE,bJ,rfl,rfl,aK,aL,aD⟩:=H0 aQ
   obtain⟨rfl,bF⟩:=Sl.len aD
   try dsimp only at aA
   refine trV aA (P04 _ _ _ (B0 aK aL aD) _ _ (B0 aG aH (O0.mono (aU.trans aC) aB))) λcQ aA=>?_
   refine ifB aA (λbM aA=>?_) λbM aA=>?_
   ·refine trM aA (I0c _ _ _ (B0 aG aH (O0.mono (aU.trans aC) aB)) _ bU) ?_
    rintro aV aA cR bX ⟨aR,cK,aS,rfl,aT,aM⟩
    obtain⟨rfl,cL⟩:=Sl.len aT
    obtain⟨cS,bN,aA⟩:=l0 aA
    refine aI (J1 bN (by first|rw[F2.length (F2.up (r:=W0.toRp) (aC.trans aM) bB),F2.length (show F2 (W0.R bX) ([[.slice aR aV.length aS]]:List (List Value)) [aV] from⟨aT,trivial⟩)]|exact congrArg (·+1) (F2.length (F2.up (r:=W0.toRp) (aC.trans aM) bB)))) ?_
    exact D2 bA ⟨(IntKind.i64.wrap (u8+1)),(aZ++([[.slice aR aV.length aS]]:List (List Value))),(u9 ++ [aV]),rfl,rfl,((aU.trans aC).trans aM),(J0 _),(F2.append (F2.up (r:=W0.toRp) (aC.trans aM) bB) (show F2 (W0.R bX) ([[.slice aR aV.length aS]]:List (List Value)) [aV] from⟨aT,trivial⟩)),aA⟩
   ·exact D2 bA ⟨(IntKind.i64.wrap (u8+1)),aZ,u9,rfl,rfl,(aU.trans aC),(J0 _),(F2.up (r:=W0.toRp) aC bB),aA⟩
  ·obtain rfl:=oJ aA
   try dsimp only[S0,T0]at aJ
   intro cT cU cM
   obtain⟨bO,bP,rfl,bQ,bR,cN⟩:=U0.out (r:=W0.toRp) cM bB
   obtain rfl:=oJ aJ
   exact⟨bO,u9.length,bP,rfl,bQ,(aU.trans bR)⟩
theorem N06(h:Hp)(aF:List Value)(p0:j0)(aP:Z0.R h aF p0)(r:Bool)(aB:j00 p0=some r):
  Tr Tryz.prog 124 #[.agg aF.toArray] h λv h'=>v = .bool r/\h'=h:=by
 obtain⟨aK,aG,aH,aM,aJ,aL,rfl,rfl,aC,aD,aA⟩:=H0 aP
 obtain⟨rfl,aN⟩:=Sl.len aA
 unfold j00 at aB
 dsimp only at aB
 refine Tr.forget (O2 (args:=[.agg #[.int .i64 aK,.int .i64 aG,.slice aH aL.length aJ]]) (fn:=Tryz.f124) rfl ?_)
 refine Or.inr (Or.inr (Or.inr (Or.inl (aI (aI (by kernel_rfl) (by kernel_rfl)) ?_))))
 obtain⟨x1,aQ,aB⟩:=l0 aB
 refine Or.inl (eX (.val (.bool x1)) (aI ?_ ?_))
 ·intro k2 s3
  exact Tr.val (P0b _ _ _ (B0 aC aD (O0.mono s3 aA)) _ aQ) (aI rfl (aI rfl rfl))
 obtain⟨x4,aR,aB⟩:=l0 aB
 refine Or.inl (eX (.val (.bool x4)) (aI ?_ ?_))
 ·intro k5 s6 hq
  exact Tr.val (V01 _ _ _ (B0 aC aD (O0.mono s6 aA)) _ (I7 aR hq)) (aI rfl (aI rfl rfl))
 obtain⟨x7,aS,aB⟩:=l0 aB
 refine Or.inr (eX (λv hh=>∃(a:Option Addr) (c:Nat),v = .slice a x7.length c/\l9.R hh [.slice a x7.length c] x7/\x7.length<=9223372036854775807) (aI (λv h1 h2 sb q=>by obtain⟨a,c,e,r,l⟩:=q;exact⟨a,c,e,l9.mono sb r,l⟩) (aI ?_ ?_)))
 ·intro k8 s9 hq
  refine Tr.mono (C06 _ _ _ (B0 aC aD (O0.mono s9 aA)) _ (I7 aS hq)) ?_
  rintro _ kk ⟨aT,bC,aU,rfl,aO,sb⟩
  obtain⟨rfl,aV⟩:=Sl.len aO
  exact aI Y02 (aI sb ⟨aT,aU,rfl,aO,aV⟩)
 obtain⟨bD,aW,aB⟩:=l0 aB
 refine Or.inl (eX (.val (.int .i64 ((x7.length:Nat):Int))) (aI ?_ ?_))
 ·intro bE bF hq
  rintro _ ⟨aX,aY,rfl,aZ,bA⟩
  exact aI rfl (aI rfl rfl)
 refine Or.inl (eX (.val (.bool (decide (((x7.length:Nat):Int)=aG)))) (aI ?_ ?_))
 ·intro bG bH hq
  exact aI rfl (aI rfl rfl)
 intro bI bB
 obtain rfl:=oJ aB
 exact aI rfl bB
theorem J0c(h:Hp)(p0:Int)(aU:P0 p0)(r:F0)(aB:W4 p0=some r):
  Tr Tryz.prog 309 #[.int .i64 p0] h λv h'=>∃(a0:Option Addr) (n0 c0:Nat),v = .slice a0 n0 c0/\New W0 h h' [.slice a0 n0 c0] r:=by
 unfold W4 at aB
 refine O2 (args:=[.int .i64 p0]) (fn:=Tryz.f309) rfl ?_
 obtain⟨X1,aF,aB⟩:=l0 aB
 refine eX { vars:=[4],boxes:=[],owns:=[0],fuel:=true } (eX (λvs os h'=>∃(u2:Int) (aD:List (List Value)) (u3:List Int),vs.tail = [.int .i64 u2]/\os = [aD]/\Sub h h'/\P0 u2/\F2 (Wp.int.R h') aD u3/\V4 p0 (I1 vs) u2 u3=some X1) (eX (λ_ _=>0) ?_))
 refine aI (eX Q0 ⟨1,[],([]:F0),rfl,rfl,(Sub.refl _),(by decide),(show F2 (Wp.int.R h) ([]:List (List Value)) ([]:F0) from trivial),aF⟩) ?_
 rintro v_0 aD m5 k4 ⟨u2,aP,u3,aG,aH,aM,aN,aC,aA⟩
 cases aG
 cases aH
 replace aA:V4 p0 m5 u2 u3=some X1:=aA
 obtain _|m5:=m5
 ·cases (show(none:Option _)=some X1 from aA)
 rw[V4.eq_2]at aA
 refine aI (λaJ=>?_) (λaJ=>?_)
 ·replace aA:=ifP aA aJ
  obtain⟨q7,aQ,aA⟩:=l0 aA
  refine aI (J1 aQ (by first|rw[F2.length aC,F2.length (show F2 (Wp.int.R k4) ([[.int .i64 u2],[.int .i64 (IntKind.i64.wrap (0-u2))]]:List (List Value)) [u2,(IntKind.i64.wrap (0-u2))] from⟨⟨rfl,aN⟩,⟨⟨rfl,(J0 _)⟩,trivial⟩⟩)]|exact congrArg (·+2) (F2.length aC))) ?_
  refine aI rfl (aI (by trivial) (aI (by trivial) (eX m5 (aI ⟨(IntKind.i64.wrap (u2+1)),(aD++([[.int .i64 u2],[.int .i64 (IntKind.i64.wrap (0-u2))]]:List (List Value))),(u3 ++ [u2,(IntKind.i64.wrap (0-u2))]),rfl,rfl,aM,(J0 _),(F2.append aC (show F2 (Wp.int.R k4) ([[.int .i64 u2],[.int .i64 (IntKind.i64.wrap (0-u2))]]:List (List Value)) [u2,(IntKind.i64.wrap (0-u2))] from⟨⟨rfl,aN⟩,⟨⟨rfl,(J0 _)⟩,trivial⟩⟩)),aA⟩ (nS _)))))
 ·replace aA:=ifN aA aJ
  have hE:=oJ aA;subst hE
  try dsimp only[S0,T0]at aB
  intro v8 k9 aO
  obtain⟨aK,aL,rfl,aR,aS,aT⟩:=U0.out (r:=Wp.int.toRp) aO aC
  have hE:=oJ aB;subst hE
  exact⟨aK,u3.length,aL,rfl,(New.from (U0.newPlain (r:=Wp.int) aO aC (B04 _)) aM)⟩
set_option maxHeartbeats 0 in
theorem r0f(h:Hp)(dX:List Value)(p0:j0)(mY:Z0.R h dX p0)(dY:List Value)(p1:j0)(mZ:Z0.R h dY p1)(r:f05×E2)(aS:u01 p0 p1=some r):
  Tr Tryz.prog 308 #[.agg dX.toArray,.agg dY.toArray] h λv h'=>∃(a0:Option Addr) (n0 c0:Nat) (a1:Option Addr) (n1 c1:Nat),v = .tuple #[.slice a0 n0 c0,.slice a1 n1 c1]/\o0h.R h' [.slice a0 n0 c0] r.1/\l9.R h' [.slice a1 n1 c1] r.2/\Sub h h':=by
 have tq:=H0 mY
 obtain⟨aH,aC,cK,kV,cL,aL,rfl,rfl,cM,dZ,cN⟩:=tq
 have tq:=Sl.len cN
 obtain⟨rfl,kW⟩:=tq
 have tq:=H0 mZ
 obtain⟨aM,aD,cO,kX,cP,aN,rfl,rfl,eA,eC,cQ⟩:=tq
 have tq:=Sl.len cQ
 obtain⟨rfl,kY⟩:=tq
 unfold u01 at aS
 dsimp only at aS
 refine O2 (args:=[.agg #[.int .i64 aH,.int .i64 aC,.slice cK aL.length cL],.agg #[.int .i64 aM,.int .i64 aD,.slice cO aN.length cP]]) (fn:=Tryz.f308) rfl ?_
 have tq:=l0 aS
 obtain⟨q1,nA,aS⟩:=tq
 refine aI (I0 nA) ?_
 have tq:=l0 aS
 obtain⟨m2,nB,aS⟩:=tq
 have tq:(List.replicate aC.toNat ([.slice none 0 0]:List Value)).length=m2:=(F2.length (F2.rep (p:=W0.R h) (a:=[.slice none 0 0]) (b:=[]) (B0o Wp.int h) (aC.toNat))).trans (oJ nB)
 obtain rfl:=tq
 have tq:=l0 aS
 obtain⟨q3,qC,aS⟩:=tq
 have tq:=l0 aS
 obtain⟨X4,iF,aS⟩:=tq
 refine eX { vars:=[24],boxes:=[],owns:=[0],fuel:=true,kept:=[0] } (eX (λvs os h'=>∃(u5:Int) (cC:List (List Value)) (u6:List F0),vs.tail = [.int .i64 u5]/\os = [cC]/\Mat h h' cC u6/\P0 u5/\Y7 ((List.replicate aC.toNat ([.slice none 0 0]:List Value))).length aD (I1 vs) u5 u6=some X4) (eX (λ_ _=>0) ?_))
 refine aI (eX Q0 ⟨0,(List.replicate aC.toNat ([.slice none 0 0]:List Value)),(List.replicate aC.toNat ([]:F0)),rfl,rfl,(Mat.nil h _),(by decide),iF⟩) ?_
 rintro v_0 cC m8 k7 ⟨u5,nC,u6,iG,iH,iI,qD,aF⟩
 have nD:=iI.f2
 cases iG
 cases iH
 replace aF:Y7 ((List.replicate aC.toNat ([.slice none 0 0]:List Value))).length aD m8 u5 u6=some X4:=aF
 obtain _|m8:=m8
 ·have tq:=(show(none:Option _)=some X4 from aF)
  cases tq
 rw[Y7.eq_2]at aF
 refine aI (λiJ=>?_) (λiJ=>?_)
 ·replace aF:=ifP aF iJ
  have tq:=l0 aF
  obtain⟨qE,iK,aF⟩:=tq
  refine aI (I0 iK) ?_
  have tq:=l0 aF
  obtain⟨qF,iL,aF⟩:=tq
  have tq:=P1 nD iL
  obtain⟨iM,kZ,iN,eD⟩:=tq
  refine aI iM ?_
  have tq:=Wp.slice_cell eD
  obtain⟨nE,nF,nG,rfl⟩:=tq
  have tq:=Sl.len eD
  obtain⟨rfl,nH⟩:=tq
  intro qG qH lA
  have iO:=U0.newPlain (r:=Wp.int) lA (F2.rep (p:=Wp.int.R k7) (a:=[.int .i64 0]) (b:=0) ⟨rfl,(by decide)⟩ (aD.toNat)) (λcs x q=>⟨q,rfl⟩)
  have lB:=iI.row iO u5.toNat
  have tq:=U0.out (r:=Wp.int.toRp) lA (F2.rep (p:=Wp.int.R k7) (a:=[.int .i64 0]) (b:=0) ⟨rfl,(by decide)⟩ (aD.toNat))
  obtain⟨eE,eF,rfl,nI,nJ,nK⟩:=tq
  refine eX _ (aI iN ?_)
  have tq:=l0 aF
  obtain⟨lC,iP,aF⟩:=tq
  have tq:=P1 lB.f2 iP
  obtain⟨iQ,lD,iS,eG⟩:=tq
  refine aI iQ ?_
  have tq:=Wp.slice_cell eG
  obtain⟨nL,nM,nN,rfl⟩:=tq
  have tq:=Sl.len eG
  obtain⟨rfl,nO⟩:=tq
  refine eX _ (aI iS ?_)
  have tq:=l0 aF
  obtain⟨X17,eH,aF⟩:=tq
  refine eX { vars:=[38],boxes:=[],owns:=[],fuel:=true } (eX (λvs os h'=>∃(dS:Int) (v6:E2),vs.tail = [.int .i64 dS]/\os = []/\Mat h h' (cC.set u5.toNat [.slice eE ((List.replicate aD.toNat (0:Int))).length eF]) v6/\P0 dS/\V7 u5 lC.length (I1 vs) dS v6=some X17) (eX (λ_ _=>0) ?_))
  refine aI (eX Q0 ⟨0,_,rfl,rfl,lB,(by decide),eH⟩) ?_
  rintro v_0 iB qI ⟨dS,v6,eI,eJ,dD,nP,aB⟩
  cases eI
  cases eJ
  replace aB:V7 u5 lC.length iB dS v6=some X17:=aB
  obtain _|iB:=iB
  ·have tq:=(show(none:Option _)=some X17 from aB)
   cases tq
  rw[V7.eq_2]at aB
  refine aI (λdE=>?_) (λdE=>?_)
  ·replace aB:=ifP aB dE
   have tq:=l0 aB
   obtain⟨qJ,eK,aB⟩:=tq
   have tq:=P1 dD.f2 eK
   obtain⟨iT,lE,eM,dF⟩:=tq
   refine aI iT ?_
   have tq:=Wp.slice_cell dF
   obtain⟨nQ,nR,nT,rfl⟩:=tq
   have tq:=Sl.len dF
   obtain⟨rfl,nU⟩:=tq
   refine eX _ (aI eM ?_)
   have tq:=l0 aB
   obtain⟨qK,eN,aB⟩:=tq
   have tq:=Sl.getI (r:=Wp.int.toRp) dF eN (by decide)
   obtain⟨iU,lF,nV,iV⟩:=tq
   refine aI iU ?_
   obtain⟨rfl,nW⟩:=iV
   refine dD.put eK eM eN (by decide) (by simp) (λqL nX=>?_)
   refine aI rfl (aI (by trivial) (aI (by trivial) (eX iB (aI ⟨(IntKind.i64.wrap (dS+1)),_,rfl,rfl,nX,(J0 _),aB⟩ (nS _)))))
  ·replace aB:=ifN aB dE
   have hE:=oJ aB;subst hE
   try dsimp only[S0,T0]at aF
   refine aI rfl (aI (by trivial) (aI (by trivial) (eX m8 (aI ⟨(IntKind.i64.wrap (u5+1)),(cC.set u5.toNat [.slice eE ((List.replicate aD.toNat (0:Int))).length eF]),v6,rfl,rfl,dD,(J0 _),aF⟩ (nS _)))))
 ·replace aF:=ifN aF iJ
  have hE:=oJ aF;subst hE
  try dsimp only[S0,T0]at aS
  have tq:=l0 aS
  obtain⟨X27,eO,aS⟩:=tq
  refine eX { vars:=[10],boxes:=[],owns:=[1],fuel:=true } (eX (λvs os h'=>∃(aV:Int) (cD:List (List Value)) (dT:List B9) (dU:E2),vs.tail = [.int .i64 aV]/\os = [cD]/\Mat h h' cC dU/\P0 aV/\F2 (q05.R h) cD dT/\W7 aC aD aH aL aM aN (I1 vs) aV dT dU=some X27) (eX (λ_ _=>0) ?_))
  refine aI (eX Q0 ⟨0,[],([]:f05),_,rfl,rfl,iI,(by decide),(show F2 (q05.R h) ([]:List (List Value)) ([]:f05) from trivial),eO⟩) ?_
  rintro v_0 cD iC qM ⟨aV,lG,dT,dU,eP,eQ,cE,eR,eT,aF⟩
  cases eP
  cases eQ
  replace aF:W7 aC aD aH aL aM aN iC aV dT dU=some X27:=aF
  obtain _|iC:=iC
  ·have tq:=(show(none:Option _)=some X27 from aF)
   cases tq
  rw[W7.eq_2]at aF
  refine aI (λdG=>?_) (λdG=>?_)
  ·replace aF:=ifP aF dG
   have tq:=l0 aF
   obtain⟨X33,eU,aF⟩:=tq
   refine eX { vars:=[11],boxes:=[],owns:=[1],fuel:=true } (eX (λvs os h'=>∃(aZ:Int) (aO:List (List Value)) (bE:List B9) (dV:E2),vs.tail = [.int .i64 aZ]/\os = [aO]/\Mat h h' cC dV/\P0 aZ/\F2 (q05.R h) aO bE/\c7 aD aV aH aC aL aM aN (I1 vs) aZ bE dV=some X33) (eX (λ_ _=>0) ?_))
   refine aI (eX Q0 ⟨0,cD,dT,dU,rfl,rfl,cE,(by decide),eT,eU⟩) ?_
   rintro v_0 aO eV qN ⟨aZ,lH,bE,dV,eW,eY,bF,eZ,aR,aB⟩
   cases eW
   cases eY
   replace aB:c7 aD aV aH aC aL aM aN eV aZ bE dV=some X33:=aB
   obtain _|eV:=eV
   ·have tq:=(show(none:Option _)=some X33 from aB)
    cases tq
   rw[c7.eq_2]at aB
   refine aI (λdH=>?_) (λdH=>?_)
   ·replace aB:=ifP aB dH
    have tq:=l0 aB
    obtain⟨qO,iW,aB⟩:=tq
    have tq:=P1 bF.f2 iW
    obtain⟨iX,lI,iY,dI⟩:=tq
    refine aI iX ?_
    have tq:=Wp.slice_cell dI
    obtain⟨nY,nZ,oA,rfl⟩:=tq
    have tq:=Sl.len dI
    obtain⟨rfl,oC⟩:=tq
    refine eX _ (aI iY ?_)
    have tq:=l0 aB
    obtain⟨qP,iZ,aB⟩:=tq
    have tq:=Sl.getI (r:=Wp.int.toRp) dI iZ (by decide)
    obtain⟨jA,lJ,jB,jC⟩:=tq
    refine aI jA ?_
    obtain⟨rfl,oD⟩:=jC
    refine eX _ (aI jB ?_)
    refine aI (λdJ=>?_) (λdJ=>?_)
    ·replace aB:=ifP aB dJ
     refine aI rfl (aI (by trivial) (aI (by trivial) (eX eV (aI ⟨(IntKind.i64.wrap (aZ+1)),aO,bE,dV,rfl,rfl,bF,(J0 _),aR,aB⟩ (nS _)))))
    ·replace aB:=ifN aB dJ
     have tq:=l0 aB
     obtain⟨qQ,fA,aB⟩:=tq
     have tq:=P1 bF.f2 fA
     obtain⟨jD,lK,fB,dK⟩:=tq
     refine aI jD ?_
     have tq:=Wp.slice_cell dK
     obtain⟨oE,oF,oG,rfl⟩:=tq
     have tq:=Sl.len dK
     obtain⟨rfl,oH⟩:=tq
     refine eX _ (aI fB ?_)
     have tq:=l0 aB
     obtain⟨oI,jE,aB⟩:=tq
     have tq:aO.length=oI:=(F2.length aR).trans (oJ jE)
     obtain rfl:=tq
     have tq:=l0 aB
     obtain⟨qR,jF,aB⟩:=tq
     have tq:=l0 aB
     obtain⟨qS,fC,aB⟩:=tq
     have tq:=Sl.getI (r:=Wp.int.toRp) dK fC (by decide)
     obtain⟨jG,lL,oK,jH⟩:=tq
     refine aI jG ?_
     obtain⟨rfl,oL⟩:=jH
     refine bF.put fA fB fC (c64 (by omega) (by have:=I0 jF;omega)) (by simp) (λqT oM=>?_)
     have tq:=l0 aB
     obtain⟨X46,fD,aB⟩:=tq
     refine eX { vars:=[14],boxes:=[2],owns:=[2],fuel:=true } (eX (λvs os h'=>∃(cR:Int) (bA:Int) (bB:Int) (bC:Int) (bD:Int) (bG:Bool) (bH:List (List Value)) (fE:List N4) (dW:E2),vs.tail = [.int .i64 cR,.int .i64 bA,.int .i64 bB,.int .i64 bC,.int .i64 bD,.bool bG]/\os = [bH]/\Mat h h' cC dW/\P0 cR/\P0 bA/\P0 bB/\P0 bC/\P0 bD/\F2 (d4.R h) bH fE/\n9 aH aC aL aM aD aN bE (I1 vs) cR bA bB bC bD bG fE dW=some X46) (eX (λ_ _=>0) ?_))
     refine aI (eX Q0 ⟨0,aV,aZ,0,0,false,([[.int .i64 aV,.int .i64 aZ]]:List (List Value)),([(aV,aZ)]),_,rfl,rfl,oM,(by decide),eR,eZ,(by decide),(by decide),(show F2 (d4.R h) ([[.int .i64 aV,.int .i64 aZ]]:List (List Value)) [(aV,aZ)] from⟨(A2 eR eZ),trivial⟩),fD⟩) ?_
     rintro v_0 v_1 v_2 v_3 v_4 v_5 bH iD qU ⟨cR,bA,bB,bC,bD,bG,lM,fE,dW,fF,fG,fH,oN,dL,dM,fJ,dN,cG,aJ⟩
     cases fF
     cases fG
     replace aJ:n9 aH aC aL aM aD aN bE iD cR bA bB bC bD bG fE dW=some X46:=aJ
     obtain _|iD:=iD
     ·have tq:=(show(none:Option _)=some X46 from aJ)
      cases tq
     rw[n9.eq_2]at aJ
     have tq:=l0 aJ
     obtain⟨oO,jI,aJ⟩:=tq
     have tq:bH.length=oO:=(F2.length cG).trans (oJ jI)
     obtain rfl:=tq
     have tq:=l0 aJ
     obtain⟨qV,oP,aJ⟩:=tq
     refine aI (λdO=>?_) (λdO=>?_)
     ·replace aJ:=ifP aJ dO
      have tq:=l0 aJ
      obtain⟨qW,jJ,aJ⟩:=tq
      have tq:=f01 cG jJ (C0o h)
      obtain⟨lN,fK,jK⟩:=tq
      have tq:=A00 jK
      obtain⟨bI,lO,rfl,rfl,jL,jM⟩:=tq
      try dsimp only at aJ
      have tq:=l0 aJ
      obtain⟨qX,jN,aJ⟩:=tq
      have tq:=f01 cG jN (C0o h)
      obtain⟨lP,fL,jO⟩:=tq
      have tq:=A00 jO
      obtain⟨lQ,bJ,rfl,rfl,jP,jQ⟩:=tq
      try dsimp only at aJ
      refine Or.inr (Or.inr (Or.inr (Or.inr (eX 15 (aI (aI (by kernel_rfl) (by kernel_rfl)) ?_)))))
      refine Or.inl ?_
      apply eX
      refine aI ?_ ?_
      ·intro qY qZ hq
       exact aI (fK hq).1 (aI rfl (aI rfl rfl))
      refine Or.inl ?_
      apply eX
      refine aI ?_ ?_
      ·intro rA rB hq
       exact aI rfl (aI rfl rfl)
      refine Or.inl (eX (.val (.int .i64 bI)) (aI ?_ ?_))
      ·intro rC rD hq
       exact eX _ (aI (fK hq).2 (aI rfl (aI rfl rfl)))
      refine Or.inl ?_
      apply eX
      refine aI ?_ ?_
      ·intro rE rF hq
       exact aI (fL hq).1 (aI rfl (aI rfl rfl))
      refine Or.inl ?_
      apply eX
      refine aI ?_ ?_
      ·intro rG rH hq
       exact aI rfl (aI rfl rfl)
      refine Or.inl (eX (.val (.int .i64 bJ)) (aI ?_ ?_))
      ·intro rI rJ hq
       exact eX _ (aI (fL hq).2 (aI rfl (aI rfl rfl)))
      refine Or.inl (eX (.val (.bool (decide (bI=bJ)))) (aI ?_ ?_))
      ·intro rK rL hq
       exact aI rfl (aI rfl rfl)
      intro rM oQ
      dsimp only[P9,i0d,q0c]
      have tq:=l0 aJ
      obtain⟨lR,jR,aJ⟩:=tq
      refine Tr.mono (J0c _ aH cM _  jR) ?_
      rintro rN rO ⟨oR,oS,oT,rfl,fM⟩
      have jS:=fM.r
      have tq:=Sl.len jS
      obtain⟨rfl,oU⟩:=tq
      have tq:=(fH.up oQ).base fM
      obtain⟨kb,sb,mb,rb⟩:=tq
      have tq:=l0 aJ
      obtain⟨X80,fN,aJ⟩:=tq
      refine eX { vars:=[115],boxes:=[2],owns:=[2],fuel:=true } (eX (λvs os h'=>∃(bY:Int) (bK:Int) (bL:Int) (bM:Int) (bN:Int) (bZ:Bool) (aP:List (List Value)) (cA:List N4) (cS:E2),vs.tail = [.int .i64 bY,.int .i64 bK,.int .i64 bL,.int .i64 bM,.int .i64 bN,.bool bZ]/\os = [aP]/\Mat kb h' cC cS/\P0 bY/\P0 bK/\P0 bL/\P0 bM/\P0 bN/\F2 (d4.R h) aP cA/\U4 lR cR aH aC aL aM aD aN bE (I1 vs) bY bK bL bM bN bZ cA cS=some X80) (eX (λ_ _=>0) ?_))
      refine aI (eX Q0 ⟨0,bA,bB,(IntKind.i64.wrap (bC+1)),bD,(bif bG then true else(decide (bI=bJ))),bH,fE,dW,rfl,rfl,mb,(by decide),dL,dM,(J0 _),dN,cG,fN⟩) ?_
      rintro v_0 v_1 v_2 v_3 v_4 v_5 aP cT rP ⟨bY,bK,bL,bM,bN,bZ,lT,cA,cS,fO,fP,bO,oV,aW,aX,aY,cH,aK,aA⟩
      cases fO
      cases fP
      replace aA:U4 lR cR aH aC aL aM aD aN bE cT bY bK bL bM bN bZ cA cS=some X80:=aA
      obtain _|cT:=cT
      ·have tq:=(show(none:Option _)=some X80 from aA)
       cases tq
      rw[U4.eq_2]at aA
      refine aI (λdP=>?_) (λdP=>?_)
      ·replace aA:=ifP aA dP
       have tq:=l0 aA
       obtain⟨lU,jT,aA⟩:=tq
       have tq:=Sl.getI (r:=Wp.int.toRp) (W0.mono bO.sub rb) jT (by decide)
       obtain⟨jU,lV,jV,jW⟩:=tq
       refine aI jU ?_
       obtain⟨rfl,fQ⟩:=jW
       refine eX _ (aI jV ?_)
       have tq:=l0 aA
       obtain⟨rQ,jX,aA⟩:=tq
       have tq:=P1 aK jX
       obtain⟨jY,lW,jZ,kA⟩:=tq
       have tq:=A00 kA
       obtain⟨cU,lX,rfl,rfl,dQ,kB⟩:=tq
       try dsimp only at aA
       have tq:=l0 aA
       obtain⟨aT,kC,aA⟩:=tq
       have tq:=l0 aA
       obtain⟨oW,fR,aA⟩:=tq
       have cI:P0 aT:=I0 fR
       have tq:=l0 aA
       obtain⟨oX,fS,aA⟩:=tq
       have tq:=P1 aK fS
       obtain⟨fT,kD,fU,fV⟩:=tq
       have tq:=A00 fV
       obtain⟨kE,bP,rfl,rfl,iE,cJ⟩:=tq
       try dsimp only at aA
       have tq:=l0 aA
       obtain⟨aG,fW,aA⟩:=tq
       have tq:=l0 aA
       obtain⟨oY,fX,aA⟩:=tq
       have aU:P0 aG:=I0 fX
       refine Or.inr (Or.inr (Or.inr (Or.inl (aI (aI (by kernel_rfl) (by kernel_rfl)) ?_))))
       refine Or.inl ?_
       apply eX
       refine aI ?_ ?_
       ·intro rR rS
        exact aI jY (aI rfl (aI rfl rfl))
       refine Or.inl ?_
       apply eX
       refine aI ?_ ?_
       ·intro rT rU
        exact aI rfl (aI rfl rfl)
       refine Or.inl (eX (.val (.int .i64 cU)) (aI ?_ ?_))
       ·intro rV rW
        exact eX _ (aI jZ (aI rfl (aI rfl rfl)))
       refine Or.inl (eX (.val (.int .i64 aT)) (aI ?_ ?_))
       ·intro oZ kF
        exact Tr.val (i9 _ [.int .i64 aH,.int .i64 aC,.slice cK aL.length cL] (aH,aC,aL) (B0 cM dZ (O0.mono ((sb.trans bO.sub).trans kF) cN)) cU dQ lU fQ _ kC) (aI rfl (aI rfl rfl))
       refine Or.inl ?_
       apply eX
       refine aI ?_ ?_
       ·intro pA pB
        exact aI fT (aI rfl (aI rfl rfl))
       refine Or.inl ?_
       apply eX
       refine aI ?_ ?_
       ·intro pC pD
        exact aI rfl (aI rfl rfl)
       refine Or.inl (eX (.val (.int .i64 bP)) (aI ?_ ?_))
       ·intro pF pG
        exact eX _ (aI fU (aI rfl (aI rfl rfl)))
       refine Or.inl (eX (.val (.int .i64 aG)) (aI ?_ ?_))
       ·intro pH kG
        exact Tr.val (i9 _ [.int .i64 aM,.int .i64 aD,.slice cO aN.length cP] (aM,aD,aN) (B0 eA eC (O0.mono ((sb.trans bO.sub).trans kG) cQ)) bP cJ lU fQ _ fW) (aI rfl (aI rfl rfl))
       intro pI kH
       have aQ:=bO.up kH
       dsimp only[P9,i0d,q0c]
       refine aI (λbQ=>?_) (λbQ=>?_)
       ·replace aA:=ifP aA bQ
        refine aI rfl (aI (by trivial) (aI (by trivial) (eX cT (aI ⟨(IntKind.i64.wrap (bY+1)),bK,bL,bM,bN,bZ,aP,cA,cS,rfl,rfl,aQ,(J0 _),aW,aX,aY,cH,aK,aA⟩ (nS _)))))
       ·replace aA:=ifN aA bQ
        refine aI (λbR=>?_) (λbR=>?_)
        ·replace aA:=ifP aA bR
         have tq:=l0 aA
         obtain⟨pK,fY,aA⟩:=tq
         have tq:=P1 aQ.f2 fY
         obtain⟨fZ,kI,gA,bS⟩:=tq
         refine aI fZ ?_
         have tq:=Wp.slice_cell bS
         obtain⟨lY,lZ,mA,rfl⟩:=tq
         have tq:=Sl.len bS
         obtain⟨rfl,mB⟩:=tq
         refine eX _ (aI gA ?_)
         have tq:=l0 aA
         obtain⟨pL,gB,aA⟩:=tq
         have tq:=Sl.getI (r:=Wp.int.toRp) bS gB (by decide)
         obtain⟨gC,kJ,gD,gE⟩:=tq
         refine aI gC ?_
         obtain⟨rfl,mD⟩:=gE
         refine eX _ (aI gD ?_)
         refine aI (λbT=>?_) (λbT=>?_)
         ·replace aA:=ifP aA bT
          have tq:=l0 aA
          obtain⟨pM,cV,aA⟩:=tq
          have tq:=P1 aQ.f2 cV
          obtain⟨gF,kK,cW,bU⟩:=tq
          refine aI gF ?_
          have tq:=Wp.slice_cell bU
          obtain⟨mE,mF,mG,rfl⟩:=tq
          have tq:=Sl.len bU
          obtain⟨rfl,mH⟩:=tq
          refine eX _ (aI cW ?_)
          have tq:=l0 aA
          obtain⟨kL,gG,aA⟩:=tq
          have tq:aO.length=kL:=(F2.length aR).trans (oJ gG)
          obtain rfl:=tq
          have tq:=l0 aA
          obtain⟨pN,gH,aA⟩:=tq
          have tq:=l0 aA
          obtain⟨pO,cX,aA⟩:=tq
          have tq:=Sl.getI (r:=Wp.int.toRp) bU cX (by decide)
          obtain⟨gI,kM,mI,gJ⟩:=tq
          refine aI gI ?_
          obtain⟨rfl,mJ⟩:=gJ
          refine aQ.put cV cW cX (c64 (by omega) (by have:=I0 gH;omega)) (by simp) (λkN dR=>?_)
          have tq:=l0 aA
          obtain⟨pP,gK,aA⟩:=tq
          refine aI (J1 gK (by first|rw[F2.length aK,F2.length (show F2 (d4.R h) ([[.int .i64 aT,.int .i64 aG]]:List (List Value)) [(aT,aG)] from⟨(A2 cI aU),trivial⟩)]|exact congrArg (·+1) (F2.length aK))) ?_
          refine aI rfl (aI (by trivial) (aI (by trivial) (eX cT (aI ⟨(IntKind.i64.wrap (bY+1)),bK,bL,bM,(IntKind.i64.wrap (bN+1)),bZ,(aP++([[.int .i64 aT,.int .i64 aG]]:List (List Value))),(cA ++ [(aT,aG)]),_,rfl,rfl,dR,(J0 _),aW,aX,aY,(J0 _),(F2.append aK (show F2 (d4.R h) ([[.int .i64 aT,.int .i64 aG]]:List (List Value)) [(aT,aG)] from⟨(A2 cI aU),trivial⟩)),aA⟩ (nS _)))))
         ·replace aA:=ifN aA bT
          refine aI rfl (aI (by trivial) (aI (by trivial) (eX cT (aI ⟨(IntKind.i64.wrap (bY+1)),bK,bL,bM,(IntKind.i64.wrap (bN+1)),bZ,aP,cA,cS,rfl,rfl,aQ,(J0 _),aW,aX,aY,(J0 _),aK,aA⟩ (nS _)))))
        ·replace aA:=ifN aA bR
         have tq:=l0 aA
         obtain⟨pQ,gL,aA⟩:=tq
         have tq:=P1 aQ.f2 gL
         obtain⟨gM,kO,gN,bV⟩:=tq
         refine aI gM ?_
         have tq:=Wp.slice_cell bV
         obtain⟨mK,mL,mM,rfl⟩:=tq
         have tq:=Sl.len bV
         obtain⟨rfl,mN⟩:=tq
         refine eX _ (aI gN ?_)
         have tq:=l0 aA
         obtain⟨pR,gO,aA⟩:=tq
         have tq:=Sl.getI (r:=Wp.int.toRp) bV gO (by decide)
         obtain⟨gP,kP,gQ,gR⟩:=tq
         refine aI gP ?_
         obtain⟨rfl,mO⟩:=gR
         refine eX _ (aI gQ ?_)
         refine aI (λbW=>?_) (λbW=>?_)
         ·replace aA:=ifP aA bW
          have tq:=l0 aA
          obtain⟨pT,cY,aA⟩:=tq
          have tq:=P1 aQ.f2 cY
          obtain⟨gS,kQ,cZ,bX⟩:=tq
          refine aI gS ?_
          have tq:=Wp.slice_cell bX
          obtain⟨mP,mQ,mR,rfl⟩:=tq
          have tq:=Sl.len bX
          obtain⟨rfl,mT⟩:=tq
          refine eX _ (aI cZ ?_)
          have tq:=l0 aA
          obtain⟨kR,gT,aA⟩:=tq
          have tq:aO.length=kR:=(F2.length aR).trans (oJ gT)
          obtain rfl:=tq
          have tq:=l0 aA
          obtain⟨pU,gU,aA⟩:=tq
          have tq:=l0 aA
          obtain⟨pV,dA,aA⟩:=tq
          have tq:=Sl.getI (r:=Wp.int.toRp) bX dA (by decide)
          obtain⟨gV,kS,mU,gW⟩:=tq
          refine aI gV ?_
          obtain⟨rfl,mV⟩:=gW
          refine aQ.put cY cZ dA (c64 (by omega) (by have:=I0 gU;omega)) (by simp) (λkN dR=>?_)
          have tq:=l0 aA
          obtain⟨pW,gX,aA⟩:=tq
          refine aI (J1 gX (by first|rw[F2.length aK,F2.length (show F2 (d4.R h) ([[.int .i64 aT,.int .i64 aG]]:List (List Value)) [(aT,aG)] from⟨(A2 cI aU),trivial⟩)]|exact congrArg (·+1) (F2.length aK))) ?_
          refine aI rfl (aI (by trivial) (aI (by trivial) (eX cT (aI ⟨(IntKind.i64.wrap (bY+1)),bK,bL,bM,bN,bZ,(aP++([[.int .i64 aT,.int .i64 aG]]:List (List Value))),(cA ++ [(aT,aG)]),_,rfl,rfl,dR,(J0 _),aW,aX,aY,cH,(F2.append aK (show F2 (d4.R h) ([[.int .i64 aT,.int .i64 aG]]:List (List Value)) [(aT,aG)] from⟨(A2 cI aU),trivial⟩)),aA⟩ (nS _)))))
         ·replace aA:=ifN aA bW
          refine aI rfl (aI (by trivial) (aI (by trivial) (eX cT (aI ⟨(IntKind.i64.wrap (bY+1)),bK,bL,bM,bN,bZ,aP,cA,cS,rfl,rfl,aQ,(J0 _),aW,aX,aY,cH,aK,aA⟩ (nS _)))))
      ·replace aA:=ifN aA dP
       have hE:=oJ aA;subst hE
       try dsimp only[S0,T0]at aJ
       refine aI rfl (aI (by trivial) (aI (by trivial) (eX iD (aI ⟨(IntKind.i64.wrap (cR+1)),bK,bL,bM,bN,bZ,aP,cA,cS,rfl,rfl,(bO.weak sb),(J0 _),aW,aX,aY,cH,aK,aJ⟩ (nS _)))))
     ·replace aJ:=ifN aJ dO
      have hE:=oJ aJ;subst hE
      try dsimp only[S0,T0]at aB
      have tq:=l0 aB
      obtain⟨pX,gY,aB⟩:=tq
      refine aI (J1 gY (by first|rw[F2.length aR,F2.length (show F2 (q05.R h) ([[.int .i64 bA,.int .i64 bB,.int .i64 bC,.int .i64 bD,.bool bG]]:List (List Value)) [(bA,bB,bC,bD,bG)] from⟨(Q0d dL dM fJ dN),trivial⟩)]|exact congrArg (·+1) (F2.length aR))) ?_
      refine aI rfl (aI (by trivial) (aI (by trivial) (eX eV (aI ⟨(IntKind.i64.wrap (aZ+1)),(aO++([[.int .i64 bA,.int .i64 bB,.int .i64 bC,.int .i64 bD,.bool bG]]:List (List Value))),(bE ++ [(bA,bB,bC,bD,bG)]),dW,rfl,rfl,fH,(J0 _),(F2.append aR (show F2 (q05.R h) ([[.int .i64 bA,.int .i64 bB,.int .i64 bC,.int .i64 bD,.bool bG]]:List (List Value)) [(bA,bB,bC,bD,bG)] from⟨(Q0d dL dM fJ dN),trivial⟩)),aB⟩ (nS _)))))
   ·replace aB:=ifN aB dH
    have hE:=oJ aB;subst hE
    try dsimp only[S0,T0]at aF
    refine aI rfl (aI (by trivial) (aI (by trivial) (eX iC (aI ⟨(IntKind.i64.wrap (aV+1)),aO,bE,dV,rfl,rfl,bF,(J0 _),aR,aF⟩ (nS _)))))
  ·replace aF:=ifN aF dG
   have hE:=oJ aF;subst hE
   try dsimp only[S0,T0]at aS
   intro pY pZ kT
   have tq:=U0.out (r:=q05.toRp) kT (F2.up (r:=q05.toRp) cE.sub eT)
   obtain⟨gZ,hJ,rfl,hU,dB,mW⟩:=tq
   intro qA qB kU
   have tq:=U0.out (r:=W0.toRp) kU (F2.up (r:=W0.toRp) dB cE.f2)
   obtain⟨hY,hZ,rfl,iA,dC,mX⟩:=tq
   have hE:=oJ aS;subst hE
   exact⟨gZ,dT.length,hJ,hY,dU.length,hZ,rfl,(o0h.mono dC hU),iA,((cE.sub.trans dB).trans dC)⟩
theorem r09(h:Hp)(aV:List Value)(p0:j0)(cD:Z0.R h aV p0)(r:F0)(aD:a00 p0=some r):
  Tr Tryz.prog 234 #[.agg aV.toArray] h λv h'=>∃(a0:Option Addr) (n0 c0:Nat),v = .slice a0 n0 c0/\W0.R h' [.slice a0 n0 c0] r/\Sub h h':=by
 obtain⟨aF,aG,aJ,bL,aK,aH,rfl,rfl,aM,aN,aL⟩:=H0 cD
 obtain⟨rfl,bM⟩:=Sl.len aL
 unfold a00 at aD
 dsimp only at aD
 refine O2 (args:=[.agg #[.int .i64 aF,.int .i64 aG,.slice aJ aH.length aK]]) (fn:=Tryz.f234) rfl ?_
 refine trV aD (x00 _ [.int .i64 aF,.int .i64 aG,.slice aJ aH.length aK] (aF,aG,aH) (B0 aM aN aL)) λx1 aD=>?_
 refine ifB aD (λcE aD=>?_) λcE aD=>?_
 ·intro v3 k4 f5
  obtain⟨cG,cH,rfl,cI,cJ,cO⟩:=U0.out (r:=Wp.int.toRp) f5 (show F2 (Wp.int.R h) ([]:List (List Value)) ([]:F0) from trivial)
  obtain rfl:=oJ aD
  exact⟨cG,(([]:F0)).length,cH,rfl,cI,cJ⟩
 ·refine trM aD (r0f _ [.int .i64 aF,.int .i64 aG,.slice aJ aH.length aK] (aF,aG,aH) (B0 aM aN aL) [.int .i64 aF,.int .i64 aG,.slice aJ aH.length aK] (aF,aG,aH) (B0 aM aN aL)) ?_
  rintro x7 aD v9 k8 ⟨bN,bO,bP,bQ,bR,bS,rfl,aO,aS,bT⟩
  obtain⟨aW,cK⟩:=x7
  dsimp only at aD aO aS
  obtain⟨rfl,bU⟩:=Sl.len aO
  obtain⟨rfl,bV⟩:=Sl.len aS
  obtain⟨X10,aX,aD⟩:=l0 aD
  refine eX { vars:=[21],boxes:=[],owns:=[0],fuel:=true } (eX (λvs os h'=>∃ aT aP aU,vs.tail = [.int .i64 aT]/\os = [aP]/\Sub k8 h'/\P0 aT/\F2 (Wp.int.R h') aP aU/\Y3 aW (I1 vs) aT aU=some X10) (eX (λ_ _=>0) (aI (eX Q0 ⟨0,[],([]:F0),rfl,rfl,(Sub.refl _),(by decide),(F2.up (r:=Wp.int.toRp) bT (show F2 (Wp.int.R h) ([]:List (List Value)) ([]:F0) from trivial)),aX⟩) ?_)))
  rintro _ aP aY bW ⟨aT,bX,aU,⟨⟩,⟨⟩,aR,cL,aQ,aC⟩
  replace aC:Y3 aW aY aT aU=some X10:=aC
  obtain _|aY:=aY
  ·cases aC
  rw[Y3.eq_2]at aC
  refine ifB aC (λaZ aC=>?_) λaZ aC=>?_
  ·refine ld aC (o0h.mono aR aO) λcP bY bA aC=>?_
   obtain⟨bZ,cA,aA,aB,cC,rfl,rfl,bB,bC,bD,bE⟩:=g0n bA
   try dsimp only at aC
   refine ifB aC (λbF aC=>?_) λbF aC=>?_
   ·obtain⟨cQ,bG,aC⟩:=l0 aC
    refine aI (J1 bG (by first|rw[F2.length aQ,F2.length (show F2 (Wp.int.R bW) ([[.int .i64 (IntKind.i64.wrap ((IntKind.i64.wrap (aB-aA))+1))]]:List (List Value)) [(IntKind.i64.wrap ((IntKind.i64.wrap (aB-aA))+1))] from⟨⟨rfl,(J0 _)⟩,trivial⟩)]|exact congrArg (·+1) (F2.length aQ))) ?_
    exact D2 aY ⟨(IntKind.i64.wrap (aT+1)),(aP++([[.int .i64 (IntKind.i64.wrap ((IntKind.i64.wrap (aB-aA))+1))]]:List (List Value))),(aU ++ [(IntKind.i64.wrap ((IntKind.i64.wrap (aB-aA))+1))]),rfl,rfl,aR,(J0 _),(F2.append aQ (show F2 (Wp.int.R bW) ([[.int .i64 (IntKind.i64.wrap ((IntKind.i64.wrap (aB-aA))+1))]]:List (List Value)) [(IntKind.i64.wrap ((IntKind.i64.wrap (aB-aA))+1))] from⟨⟨rfl,(J0 _)⟩,trivial⟩)),aC⟩
   ·exact D2 aY ⟨(IntKind.i64.wrap (aT+1)),aP,aU,rfl,rfl,aR,(J0 _),aQ,aC⟩
  ·obtain rfl:=oJ aC
   try dsimp only[S0,T0]at aD
   intro cR cS cM
   obtain⟨bH,bI,rfl,bJ,bK,cN⟩:=U0.out (r:=Wp.int.toRp) cM aQ
   obtain rfl:=oJ aD
   exact⟨bH,aU.length,bI,rfl,bJ,((bT.trans aR).trans bK)⟩
theorem d01(h:Hp)(aM:List Value)(p0:j0)(aV:Z0.R h aM p0)(r:Bool)(aA:w6 p0=some r):
  Tr Tryz.prog 125 #[.agg aM.toArray] h λv h'=>v = .bool r/\h'=h:=by
 obtain⟨aJ,aK,aD,aR,aF,aL,rfl,rfl,aG,aH,aC⟩:=H0 aV
 obtain⟨rfl,aS⟩:=Sl.len aC
 unfold w6 at aA
 dsimp only at aA
 refine Tr.forget (O2 (args:=[.agg #[.int .i64 aJ,.int .i64 aK,.slice aD aL.length aF]]) (fn:=Tryz.f125) rfl ?_)
 refine trV aA (x00 _ [.int .i64 aJ,.int .i64 aK,.slice aD aL.length aF] (aJ,aK,aL) (B0 aG aH aC)) λx1 aA=>?_
 refine ifB aA (λaW aA=>?_) λaW aA=>?_
 ·obtain rfl:=oJ aA
  exact aI rfl (Sub.refl _)
 ·refine trM aA (r09 _ _ _ (B0 aG aH aC)) ?_
  rintro x3 aA v5 k4 ⟨aY,aZ,bA,rfl,aT,aU⟩
  obtain⟨rfl,bB⟩:=Sl.len aT
  obtain⟨X6,aO,aA⟩:=l0 aA
  refine eX { vars:=[11],boxes:=[],owns:=[],fuel:=true } (eX (λvs os h'=>∃ u7,vs.tail = [.int .i64 u7]/\os = []/\Sub k4 h'/\P0 u7/\A5 x3 (I1 vs) u7=some X6) (eX (λ_ _=>0) (aI (eX Q0 ⟨0,rfl,rfl,(Sub.refl _),(by decide),aO⟩) ?_)))
  rintro _ m9 k8 ⟨u7,⟨⟩,⟨⟩,aN,bC,aB⟩
  replace aB:A5 x3 m9 u7=some X6:=aB
  obtain _|m9:=m9
  ·cases aB
  rw[A5.eq_2]at aB
  refine ifB aB (λaP aB=>?_) λaP aB=>?_
  ·refine ldI aB (W0.mono aN aT) λbD aX aB=>?_
   refine ifB aB (λaQ aB=>?_) λaQ aB=>?_
   ·obtain rfl:=oJ aB
    try dsimp only[n5,G5]at aA
    obtain rfl:=oJ aA
    exact aI rfl (aU.trans aN)
   ·exact D2 m9 ⟨(IntKind.i64.wrap (u7+1)),rfl,rfl,aN,(J0 _),aB⟩
  ·obtain rfl:=oJ aB
   try dsimp only[S0,T0]at aA
   obtain rfl:=oJ aA
   exact aI rfl (aU.trans aN)
theorem r08(h:Hp)(bL:List Value)(p0:j0)(lC:Z0.R h bL p0)(r:ByteArray)(aA:y9 p0=some r):
  Tr Tryz.prog 47 #[.agg bL.toArray] h λv h'=>v = .string r/\h'=h:=by
 obtain⟨aD,aB,aJ,jQ,aK,aF,rfl,rfl,aH,aC,aG⟩:=H0 lC
 obtain⟨rfl,jR⟩:=Sl.len aG
 unfold y9 at aA
 dsimp only at aA
 refine Tr.forget (O2 (args:=[.agg #[.int .i64 aD,.int .i64 aB,.slice aJ aF.length aK]]) (fn:=Tryz.f47) rfl ?_)
 refine trV aA (x00 _ [.int .i64 aD,.int .i64 aB,.slice aJ aF.length aK] (aD,aB,aF) (B0 aH aC aG)) λx1 aA=>?_
 refine ifB aA (λlD aA=>?_) λlD aA=>?_
 ·obtain rfl:=oJ aA
  exact aI rfl (Sub.refl _)
 ·refine trV aA (Z0e _ [.int .i64 aD,.int .i64 aB,.slice aJ aF.length aK] (aD,aB,aF) (B0 aH aC aG)) λx3 aA=>?_
  obtain⟨q4,lE,aA⟩:=l0 aA
  have lF:P0 x3:=I0 lE
  refine ifB aA (λlG aA=>?_) λlG aA=>?_
  ·refine trV aA (P00 _ x3 lF) λx6 aA=>?_
   obtain⟨q7,lH,aA⟩:=l0 aA
   have lI:x6.size<=9223372036854775807:=I0 lH
   refine Or.inr (Or.inr (Or.inr (Or.inl (aI (aI (by kernel_rfl) (by kernel_rfl)) ?_))))
   obtain⟨x8,lJ,aA⟩:=l0 aA
   obtain⟨q9,lK,aA⟩:=l0 aA
   have lL:P0 x8:=I0 lK
   refine Or.inl (eX (.val (.int .i64 x8)) (aI ?_ ?_))
   ·intro pF lM
    exact Tr.val (M08 _ [.int .i64 aD,.int .i64 aB,.slice aJ aF.length aK] (aD,aB,aF) (B0 aH aC (O0.mono lM aG)) _ lJ) (aI rfl (aI rfl rfl))
   obtain⟨bJ,fE,aA⟩:=l0 aA
   obtain⟨pG,fF,aA⟩:=l0 aA
   have fG:bJ.size<=9223372036854775807:=I0 fF
   refine Or.inl (eX (.val (.string bJ)) (aI ?_ ?_))
   ·intro pH pI
    exact Tr.val (P00 _ x8 lL _ fE) (aI rfl (aI rfl rfl))
   obtain⟨bK,fH,aA⟩:=l0 aA
   obtain⟨pK,fJ,aA⟩:=l0 aA
   have fK:bK.size<=9223372036854775807:=I0 fJ
   refine Or.inl (eX (.val (.string bK)) (aI ?_ ?_))
   ·intro pL pM
    exact Tr.val (P00 _ aB aC _ fH) (aI rfl (aI rfl rfl))
   obtain⟨bA,fL,aA⟩:=l0 aA
   refine Or.inr (eX (λv hh=>∃(a:Option Addr) (c:Nat),v = .slice a bA.length c/\(Wp.slice Wp.str).R hh [.slice a bA.length c] bA/\bA.length<=9223372036854775807) (aI (λv h1 h2 sb q=>by obtain⟨a,c,e,r,l⟩:=q;exact⟨a,c,e,(Wp.slice Wp.str).mono sb r,l⟩) (aI ?_ ?_)))
   ·intro jS pN
    have fM:[(⟨#[114,97,110,107]⟩:ByteArray),bJ,(⟨#[118,101,114,116,105,99,101,115]⟩:ByteArray),bK,(⟨#[105,110,100,101,120]⟩:ByteArray),x6]=bA:=oJ fL
    intro v k hf
    obtain⟨a,c,rfl,r,sb,l⟩:=U0.out (r:=Wp.str.toRp) (xs:=bA) hf (show F2 (Wp.str.R jS) [[.string (⟨#[114,97,110,107]⟩:ByteArray)],[.string bJ],[.string (⟨#[118,101,114,116,105,99,101,115]⟩:ByteArray)],[.string bK],[.string (⟨#[105,110,100,101,120]⟩:ByteArray)],[.string x6]] bA from fM▸(show F2 (Wp.str.R jS) [[.string (⟨#[114,97,110,107]⟩:ByteArray)],[.string bJ],[.string (⟨#[118,101,114,116,105,99,101,115]⟩:ByteArray)],[.string bK],[.string (⟨#[105,110,100,101,120]⟩:ByteArray)],[.string x6]] [(⟨#[114,97,110,107]⟩:ByteArray),bJ,(⟨#[118,101,114,116,105,99,101,115]⟩:ByteArray),bK,(⟨#[105,110,100,101,120]⟩:ByteArray),x6] from⟨⟨rfl,(by decide)⟩,⟨⟨rfl,fG⟩,⟨⟨rfl,(by decide)⟩,⟨⟨rfl,fK⟩,⟨⟨rfl,(by decide)⟩,⟨⟨rfl,lI⟩,trivial⟩⟩⟩⟩⟩⟩))
    exact aI ⟨rfl,rfl,rfl,[_],rfl⟩ (aI sb ⟨a,c,rfl,r,l⟩)
   obtain⟨aP,fN,aA⟩:=l0 aA
   obtain⟨pO,fO,aA⟩:=l0 aA
   have bH:aP.size<=9223372036854775807:=I0 fO
   refine Or.inl (eX (.val (.string aP)) (aI ?_ ?_))
   ·intro pP pQ
    rintro _ ⟨fP,fQ,rfl,fR,lN⟩
    exact Tr.val (Q5 _ fP bA.length fQ bA fR _ fN) (aI rfl (aI rfl rfl))
   intro fS aS
   rintro _ ⟨lO,lP,rfl,lQ,lR⟩
   refine trV aA (N06 _ [.int .i64 aD,.int .i64 aB,.slice aJ aF.length aK] (aD,aB,aF) (B0 aH aC (O0.mono aS aG))) λpR aA=>?_
   refine ifB aA (λfT aA=>?_) λfT aA=>?_
   ·refine Or.inr ?_
    intro pT pU lT
    obtain⟨fU,fV,rfl,fW,lU,lV⟩:=U0.out (r:=Wp.str.toRp) lT (show F2 (Wp.str.R fS) ([[.string aP],[.string (⟨#[110,111,114,109,97,108]⟩:ByteArray)]]:List (List Value)) [aP,(⟨#[110,111,114,109,97,108]⟩:ByteArray)] from⟨⟨rfl,bH⟩,⟨⟨rfl,(by decide)⟩,trivial⟩⟩)
    obtain⟨bB,fX,aA⟩:=l0 aA
    refine Tr.val (Q5 _ fU ([aP,(⟨#[110,111,114,109,97,108]⟩:ByteArray)]).length fV [aP,(⟨#[110,111,114,109,97,108]⟩:ByteArray)] fW _  fX) (aI rfl ?_)
    obtain⟨pV,fY,aA⟩:=l0 aA
    have bM:bB.size<=9223372036854775807:=I0 fY
    refine trV aA (d01 _ _ _ (B0 aH aC (O0.mono aS aG))) λpW aA=>?_
    refine ifB aA (λfZ aA=>?_) λfZ aA=>?_
    ·refine Or.inr ?_
     intro pX pY f43
     obtain⟨gA,gB,rfl,gC,lW,lX⟩:=U0.out (r:=Wp.str.toRp) f43 (show F2 (Wp.str.R fS) ([[.string bB],[.string (⟨#[109,97,108,110,111,114,109,97,108]⟩:ByteArray)]]:List (List Value)) [bB,(⟨#[109,97,108,110,111,114,109,97,108]⟩:ByteArray)] from⟨⟨rfl,bM⟩,⟨⟨rfl,(by decide)⟩,trivial⟩⟩)
     obtain⟨bN,gD,aA⟩:=l0 aA
     refine Tr.val (Q5 _ gA ([bB,(⟨#[109,97,108,110,111,114,109,97,108]⟩:ByteArray)]).length gB [bB,(⟨#[109,97,108,110,111,114,109,97,108]⟩:ByteArray)] gC _  gD) (aI rfl ?_)
     obtain⟨pZ,gE,aA⟩:=l0 aA
     have gF:bN.size<=9223372036854775807:=I0 gE
     refine trM aA (b9 _ [.int .i64 aD,.int .i64 aB,.slice aJ aF.length aK] (aD,aB,aF) (B0 aH aC (O0.mono aS aG))) ?_
     rintro jT aA qA lY ⟨gG,lZ,gH,rfl,bO,gI⟩
     obtain⟨rfl,mA⟩:=Sl.len bO
     refine trV aA (A6 _ gG jT.length gH jT bO) λbP aA=>?_
     obtain⟨qB,gJ,aA⟩:=l0 aA
     have gK:bP.size<=9223372036854775807:=I0 gJ
     refine Or.inr ?_
     intro qC qD mB
     obtain⟨gL,gM,rfl,gN,mD,mE⟩:=U0.out (r:=Wp.str.toRp) mB (show F2 (Wp.str.R lY) ([[.string bN],[.string (⟨#[98,97,115,105,115]⟩:ByteArray)],[.string bP]]:List (List Value)) [bN,(⟨#[98,97,115,105,115]⟩:ByteArray),bP] from⟨⟨rfl,gF⟩,⟨⟨rfl,(by decide)⟩,⟨⟨rfl,gK⟩,trivial⟩⟩⟩)
     obtain⟨mF,gO,aA⟩:=l0 aA
     refine Tr.val (Q5 _ gL ([bN,(⟨#[98,97,115,105,115]⟩:ByteArray),bP]).length gM [bN,(⟨#[98,97,115,105,115]⟩:ByteArray),bP] gN _  gO) (aI rfl ?_)
     obtain⟨qE,gP,aA⟩:=l0 aA
     have mG:mF.size<=9223372036854775807:=I0 gP
     obtain rfl:=oJ aA
     exact aI rfl (aS.trans gI)
    ·refine trM aA (b9 _ [.int .i64 aD,.int .i64 aB,.slice aJ aF.length aK] (aD,aB,aF) (B0 aH aC (O0.mono aS aG))) ?_
     rintro jU aA qF mH ⟨gQ,mI,gR,rfl,bQ,gS⟩
     obtain⟨rfl,mJ⟩:=Sl.len bQ
     refine trV aA (A6 _ gQ jU.length gR jU bQ) λbR aA=>?_
     obtain⟨qG,gT,aA⟩:=l0 aA
     have gU:bR.size<=9223372036854775807:=I0 gT
     refine Or.inr ?_
     intro qH qI mK
     obtain⟨gV,gW,rfl,gX,mL,mM⟩:=U0.out (r:=Wp.str.toRp) mK (show F2 (Wp.str.R mH) ([[.string bB],[.string (⟨#[98,97,115,105,115]⟩:ByteArray)],[.string bR]]:List (List Value)) [bB,(⟨#[98,97,115,105,115]⟩:ByteArray),bR] from⟨⟨rfl,bM⟩,⟨⟨rfl,(by decide)⟩,⟨⟨rfl,gU⟩,trivial⟩⟩⟩)
     obtain⟨mN,gY,aA⟩:=l0 aA
     refine Tr.val (Q5 _ gV ([bB,(⟨#[98,97,115,105,115]⟩:ByteArray),bR]).length gW [bB,(⟨#[98,97,115,105,115]⟩:ByteArray),bR] gX _  gY) (aI rfl ?_)
     obtain⟨qJ,gZ,aA⟩:=l0 aA
     have mO:mN.size<=9223372036854775807:=I0 gZ
     obtain rfl:=oJ aA
     exact aI rfl (aS.trans gS)
   ·refine trV aA (d01 _ _ _ (B0 aH aC (O0.mono aS aG))) λqK aA=>?_
    refine ifB aA (λhJ aA=>?_) λhJ aA=>?_
    ·refine Or.inr ?_
     intro qL qM mP
     obtain⟨hU,hY,rfl,hZ,mQ,mR⟩:=U0.out (r:=Wp.str.toRp) mP (show F2 (Wp.str.R fS) ([[.string aP],[.string (⟨#[109,97,108,110,111,114,109,97,108]⟩:ByteArray)]]:List (List Value)) [aP,(⟨#[109,97,108,110,111,114,109,97,108]⟩:ByteArray)] from⟨⟨rfl,bH⟩,⟨⟨rfl,(by decide)⟩,trivial⟩⟩)
     obtain⟨bS,iA,aA⟩:=l0 aA
     refine Tr.val (Q5 _ hU ([aP,(⟨#[109,97,108,110,111,114,109,97,108]⟩:ByteArray)]).length hY [aP,(⟨#[109,97,108,110,111,114,109,97,108]⟩:ByteArray)] hZ _  iA) (aI rfl ?_)
     obtain⟨qN,iB,aA⟩:=l0 aA
     have iC:bS.size<=9223372036854775807:=I0 iB
     refine trM aA (b9 _ [.int .i64 aD,.int .i64 aB,.slice aJ aF.length aK] (aD,aB,aF) (B0 aH aC (O0.mono aS aG))) ?_
     rintro jV aA qO mT ⟨iD,mU,iE,rfl,bT,iF⟩
     obtain⟨rfl,mV⟩:=Sl.len bT
     refine trV aA (A6 _ iD jV.length iE jV bT) λbU aA=>?_
     obtain⟨qP,iG,aA⟩:=l0 aA
     have iH:bU.size<=9223372036854775807:=I0 iG
     refine Or.inr ?_
     intro qQ qR mW
     obtain⟨iI,iJ,rfl,iK,mX,mY⟩:=U0.out (r:=Wp.str.toRp) mW (show F2 (Wp.str.R mT) ([[.string bS],[.string (⟨#[98,97,115,105,115]⟩:ByteArray)],[.string bU]]:List (List Value)) [bS,(⟨#[98,97,115,105,115]⟩:ByteArray),bU] from⟨⟨rfl,iC⟩,⟨⟨rfl,(by decide)⟩,⟨⟨rfl,iH⟩,trivial⟩⟩⟩)
     obtain⟨mZ,iL,aA⟩:=l0 aA
     refine Tr.val (Q5 _ iI ([bS,(⟨#[98,97,115,105,115]⟩:ByteArray),bU]).length iJ [bS,(⟨#[98,97,115,105,115]⟩:ByteArray),bU] iK _  iL) (aI rfl ?_)
     obtain⟨qS,iM,aA⟩:=l0 aA
     have nA:mZ.size<=9223372036854775807:=I0 iM
     obtain rfl:=oJ aA
     exact aI rfl (aS.trans iF)
    ·refine trM aA (b9 _ [.int .i64 aD,.int .i64 aB,.slice aJ aF.length aK] (aD,aB,aF) (B0 aH aC (O0.mono aS aG))) ?_
     rintro jW aA qT nB ⟨iN,nC,iO,rfl,bV,iP⟩
     obtain⟨rfl,nD⟩:=Sl.len bV
     refine trV aA (A6 _ iN jW.length iO jW bV) λbW aA=>?_
     obtain⟨qU,iQ,aA⟩:=l0 aA
     have iS:bW.size<=9223372036854775807:=I0 iQ
     refine Or.inr ?_
     intro qV qW nE
     obtain⟨iT,iU,rfl,iV,nF,nG⟩:=U0.out (r:=Wp.str.toRp) nE (show F2 (Wp.str.R nB) ([[.string aP],[.string (⟨#[98,97,115,105,115]⟩:ByteArray)],[.string bW]]:List (List Value)) [aP,(⟨#[98,97,115,105,115]⟩:ByteArray),bW] from⟨⟨rfl,bH⟩,⟨⟨rfl,(by decide)⟩,⟨⟨rfl,iS⟩,trivial⟩⟩⟩)
     obtain⟨nH,iW,aA⟩:=l0 aA
     refine Tr.val (Q5 _ iT ([aP,(⟨#[98,97,115,105,115]⟩:ByteArray),bW]).length iU [aP,(⟨#[98,97,115,105,115]⟩:ByteArray),bW] iV _  iW) (aI rfl ?_)
     obtain⟨qX,iX,aA⟩:=l0 aA
     have nI:nH.size<=9223372036854775807:=I0 iX
     obtain rfl:=oJ aA
     exact aI rfl (aS.trans iP)
  ·refine Or.inr (Or.inr (Or.inr (Or.inl (aI (aI (by kernel_rfl) (by kernel_rfl)) ?_))))
   obtain⟨iY,iZ,aA⟩:=l0 aA
   obtain⟨nJ,bX,aA⟩:=l0 aA
   have jA:P0 iY:=I0 bX
   refine Or.inl (eX (.val (.int .i64 iY)) (aI ?_ ?_))
   ·intro nK jB
    exact Tr.val (M08 _ [.int .i64 aD,.int .i64 aB,.slice aJ aF.length aK] (aD,aB,aF) (B0 aH aC (O0.mono jB aG)) _ iZ) (aI rfl (aI rfl rfl))
   obtain⟨aQ,bY,aA⟩:=l0 aA
   obtain⟨nL,bZ,aA⟩:=l0 aA
   have cA:aQ.size<=9223372036854775807:=I0 bZ
   refine Or.inl (eX (.val (.string aQ)) (aI ?_ ?_))
   ·intro nM nN
    exact Tr.val (P00 _ iY jA _ bY) (aI rfl (aI rfl rfl))
   obtain⟨aR,cC,aA⟩:=l0 aA
   obtain⟨nO,cD,aA⟩:=l0 aA
   have cE:aR.size<=9223372036854775807:=I0 cD
   refine Or.inl (eX (.val (.string aR)) (aI ?_ ?_))
   ·intro nP nQ
    exact Tr.val (P00 _ aB aC _ cC) (aI rfl (aI rfl rfl))
   obtain⟨aN,cG,aA⟩:=l0 aA
   refine Or.inr (eX (λv hh=>∃(a:Option Addr) (c:Nat),v = .slice a aN.length c/\(Wp.slice Wp.str).R hh [.slice a aN.length c] aN/\aN.length<=9223372036854775807) (aI (λv h1 h2 sb q=>by obtain⟨a,c,e,r,l⟩:=q;exact⟨a,c,e,(Wp.slice Wp.str).mono sb r,l⟩) (aI ?_ ?_)))
   ·intro cH nR
    have cI:[(⟨#[114,97,110,107]⟩:ByteArray),aQ,(⟨#[118,101,114,116,105,99,101,115]⟩:ByteArray),aR,(⟨#[105,110,100,101,120]⟩:ByteArray),(⟨#[105,110,102,105,110,105,116,101]⟩:ByteArray)]=aN:=oJ cG
    intro v k hf
    obtain⟨a,c,rfl,r,sb,l⟩:=U0.out (r:=Wp.str.toRp) (xs:=aN) hf (show F2 (Wp.str.R cH) [[.string (⟨#[114,97,110,107]⟩:ByteArray)],[.string aQ],[.string (⟨#[118,101,114,116,105,99,101,115]⟩:ByteArray)],[.string aR],[.string (⟨#[105,110,100,101,120]⟩:ByteArray)],[.string (⟨#[105,110,102,105,110,105,116,101]⟩:ByteArray)]] aN from cI▸(show F2 (Wp.str.R cH) [[.string (⟨#[114,97,110,107]⟩:ByteArray)],[.string aQ],[.string (⟨#[118,101,114,116,105,99,101,115]⟩:ByteArray)],[.string aR],[.string (⟨#[105,110,100,101,120]⟩:ByteArray)],[.string (⟨#[105,110,102,105,110,105,116,101]⟩:ByteArray)]] [(⟨#[114,97,110,107]⟩:ByteArray),aQ,(⟨#[118,101,114,116,105,99,101,115]⟩:ByteArray),aR,(⟨#[105,110,100,101,120]⟩:ByteArray),(⟨#[105,110,102,105,110,105,116,101]⟩:ByteArray)] from⟨⟨rfl,(by decide)⟩,⟨⟨rfl,cA⟩,⟨⟨rfl,(by decide)⟩,⟨⟨rfl,cE⟩,⟨⟨rfl,(by decide)⟩,⟨⟨rfl,(by decide)⟩,trivial⟩⟩⟩⟩⟩⟩))
    exact aI ⟨rfl,rfl,rfl,[_],rfl⟩ (aI sb ⟨a,c,rfl,r,l⟩)
   obtain⟨aL,cJ,aA⟩:=l0 aA
   obtain⟨nT,cK,aA⟩:=l0 aA
   have aT:aL.size<=9223372036854775807:=I0 cK
   refine Or.inl (eX (.val (.string aL)) (aI ?_ ?_))
   ·intro nU nV
    rintro _ ⟨cL,cM,rfl,cN,jX⟩
    exact Tr.val (Q5 _ cL aN.length cM aN cN _ cJ) (aI rfl (aI rfl rfl))
   intro bI aM
   rintro _ ⟨jY,jZ,rfl,kA,kB⟩
   refine trV aA (N06 _ [.int .i64 aD,.int .i64 aB,.slice aJ aF.length aK] (aD,aB,aF) (B0 aH aC (O0.mono aM aG))) λnW aA=>?_
   refine ifB aA (λcO aA=>?_) λcO aA=>?_
   ·refine Or.inr ?_
    intro nX nY f126
    obtain⟨cP,cQ,rfl,cR,kC,kD⟩:=U0.out (r:=Wp.str.toRp) f126 (show F2 (Wp.str.R bI) ([[.string aL],[.string (⟨#[110,111,114,109,97,108]⟩:ByteArray)]]:List (List Value)) [aL,(⟨#[110,111,114,109,97,108]⟩:ByteArray)] from⟨⟨rfl,aT⟩,⟨⟨rfl,(by decide)⟩,trivial⟩⟩)
    obtain⟨aO,cS,aA⟩:=l0 aA
    refine Tr.val (Q5 _ cP ([aL,(⟨#[110,111,114,109,97,108]⟩:ByteArray)]).length cQ [aL,(⟨#[110,111,114,109,97,108]⟩:ByteArray)] cR _  cS) (aI rfl ?_)
    obtain⟨nZ,cT,aA⟩:=l0 aA
    have bC:aO.size<=9223372036854775807:=I0 cT
    refine trV aA (d01 _ _ _ (B0 aH aC (O0.mono aM aG))) λoA aA=>?_
    refine ifB aA (λcU aA=>?_) λcU aA=>?_
    ·refine Or.inr ?_
     intro oC oD jC
     obtain⟨cV,cW,rfl,cX,kE,kF⟩:=U0.out (r:=Wp.str.toRp) jC (show F2 (Wp.str.R bI) ([[.string aO],[.string (⟨#[109,97,108,110,111,114,109,97,108]⟩:ByteArray)]]:List (List Value)) [aO,(⟨#[109,97,108,110,111,114,109,97,108]⟩:ByteArray)] from⟨⟨rfl,bC⟩,⟨⟨rfl,(by decide)⟩,trivial⟩⟩)
     obtain⟨aU,cY,aA⟩:=l0 aA
     refine Tr.val (Q5 _ cV ([aO,(⟨#[109,97,108,110,111,114,109,97,108]⟩:ByteArray)]).length cW [aO,(⟨#[109,97,108,110,111,114,109,97,108]⟩:ByteArray)] cX _  cY) (aI rfl ?_)
     obtain⟨oE,cZ,aA⟩:=l0 aA
     have dA:aU.size<=9223372036854775807:=I0 cZ
     refine trM aA (b9 _ [.int .i64 aD,.int .i64 aB,.slice aJ aF.length aK] (aD,aB,aF) (B0 aH aC (O0.mono aM aG))) ?_
     rintro dB aA oF jD ⟨dC,kG,dD,rfl,bD,dE⟩
     obtain⟨rfl,kH⟩:=Sl.len bD
     refine trV aA (A6 _ dC dB.length dD dB bD) λaV aA=>?_
     obtain⟨oG,dF,aA⟩:=l0 aA
     have dG:aV.size<=9223372036854775807:=I0 dF
     refine Or.inr ?_
     intro oH oI jE
     obtain⟨dH,dI,rfl,dJ,kI,kJ⟩:=U0.out (r:=Wp.str.toRp) jE (show F2 (Wp.str.R jD) ([[.string aU],[.string (⟨#[98,97,115,105,115]⟩:ByteArray)],[.string aV]]:List (List Value)) [aU,(⟨#[98,97,115,105,115]⟩:ByteArray),aV] from⟨⟨rfl,dA⟩,⟨⟨rfl,(by decide)⟩,⟨⟨rfl,dG⟩,trivial⟩⟩⟩)
     obtain⟨jF,dK,aA⟩:=l0 aA
     refine Tr.val (Q5 _ dH ([aU,(⟨#[98,97,115,105,115]⟩:ByteArray),aV]).length dI [aU,(⟨#[98,97,115,105,115]⟩:ByteArray),aV] dJ _  dK) (aI rfl ?_)
     obtain⟨oK,dL,aA⟩:=l0 aA
     have kK:jF.size<=9223372036854775807:=I0 dL
     obtain rfl:=oJ aA
     exact aI rfl (aM.trans dE)
    ·refine trM aA (b9 _ [.int .i64 aD,.int .i64 aB,.slice aJ aF.length aK] (aD,aB,aF) (B0 aH aC (O0.mono aM aG))) ?_
     rintro dM aA oL jG ⟨dN,kL,dO,rfl,bE,dP⟩
     obtain⟨rfl,kM⟩:=Sl.len bE
     refine trV aA (A6 _ dN dM.length dO dM bE) λaW aA=>?_
     obtain⟨oM,dQ,aA⟩:=l0 aA
     have dR:aW.size<=9223372036854775807:=I0 dQ
     refine Or.inr ?_
     intro oN oO jH
     obtain⟨dS,dT,rfl,dU,kN,kO⟩:=U0.out (r:=Wp.str.toRp) jH (show F2 (Wp.str.R jG) ([[.string aO],[.string (⟨#[98,97,115,105,115]⟩:ByteArray)],[.string aW]]:List (List Value)) [aO,(⟨#[98,97,115,105,115]⟩:ByteArray),aW] from⟨⟨rfl,bC⟩,⟨⟨rfl,(by decide)⟩,⟨⟨rfl,dR⟩,trivial⟩⟩⟩)
     obtain⟨jI,dV,aA⟩:=l0 aA
     refine Tr.val (Q5 _ dS ([aO,(⟨#[98,97,115,105,115]⟩:ByteArray),aW]).length dT [aO,(⟨#[98,97,115,105,115]⟩:ByteArray),aW] dU _  dV) (aI rfl ?_)
     obtain⟨oP,dW,aA⟩:=l0 aA
     have kP:jI.size<=9223372036854775807:=I0 dW
     obtain rfl:=oJ aA
     exact aI rfl (aM.trans dP)
   ·refine trV aA (d01 _ _ _ (B0 aH aC (O0.mono aM aG))) λoQ aA=>?_
    refine ifB aA (λdX aA=>?_) λdX aA=>?_
    ·refine Or.inr ?_
     intro oR oS jJ
     obtain⟨dY,dZ,rfl,eA,kQ,kR⟩:=U0.out (r:=Wp.str.toRp) jJ (show F2 (Wp.str.R bI) ([[.string aL],[.string (⟨#[109,97,108,110,111,114,109,97,108]⟩:ByteArray)]]:List (List Value)) [aL,(⟨#[109,97,108,110,111,114,109,97,108]⟩:ByteArray)] from⟨⟨rfl,aT⟩,⟨⟨rfl,(by decide)⟩,trivial⟩⟩)
     obtain⟨aX,eC,aA⟩:=l0 aA
     refine Tr.val (Q5 _ dY ([aL,(⟨#[109,97,108,110,111,114,109,97,108]⟩:ByteArray)]).length dZ [aL,(⟨#[109,97,108,110,111,114,109,97,108]⟩:ByteArray)] eA _  eC) (aI rfl ?_)
     obtain⟨oT,eD,aA⟩:=l0 aA
     have eE:aX.size<=9223372036854775807:=I0 eD
     refine trM aA (b9 _ [.int .i64 aD,.int .i64 aB,.slice aJ aF.length aK] (aD,aB,aF) (B0 aH aC (O0.mono aM aG))) ?_
     rintro eF aA oU jK ⟨eG,kS,eH,rfl,bF,eI⟩
     obtain⟨rfl,kT⟩:=Sl.len bF
     refine trV aA (A6 _ eG eF.length eH eF bF) λaY aA=>?_
     obtain⟨oV,eJ,aA⟩:=l0 aA
     have eK:aY.size<=9223372036854775807:=I0 eJ
     refine Or.inr ?_
     intro oW oX jL
     obtain⟨eM,eN,rfl,eO,kU,kV⟩:=U0.out (r:=Wp.str.toRp) jL (show F2 (Wp.str.R jK) ([[.string aX],[.string (⟨#[98,97,115,105,115]⟩:ByteArray)],[.string aY]]:List (List Value)) [aX,(⟨#[98,97,115,105,115]⟩:ByteArray),aY] from⟨⟨rfl,eE⟩,⟨⟨rfl,(by decide)⟩,⟨⟨rfl,eK⟩,trivial⟩⟩⟩)
     obtain⟨jM,eP,aA⟩:=l0 aA
     refine Tr.val (Q5 _ eM ([aX,(⟨#[98,97,115,105,115]⟩:ByteArray),aY]).length eN [aX,(⟨#[98,97,115,105,115]⟩:ByteArray),aY] eO _  eP) (aI rfl ?_)
     obtain⟨oY,eQ,aA⟩:=l0 aA
     have kW:jM.size<=9223372036854775807:=I0 eQ
     obtain rfl:=oJ aA
     exact aI rfl (aM.trans eI)
    ·refine trM aA (b9 _ [.int .i64 aD,.int .i64 aB,.slice aJ aF.length aK] (aD,aB,aF) (B0 aH aC (O0.mono aM aG))) ?_
     rintro eR aA oZ jN ⟨eT,kX,eU,rfl,bG,eV⟩
     obtain⟨rfl,kY⟩:=Sl.len bG
     refine trV aA (A6 _ eT eR.length eU eR bG) λaZ aA=>?_
     obtain⟨pA,eW,aA⟩:=l0 aA
     have eY:aZ.size<=9223372036854775807:=I0 eW
     refine Or.inr ?_
     intro pB pC jO
     obtain⟨eZ,fA,rfl,fB,kZ,lA⟩:=U0.out (r:=Wp.str.toRp) jO (show F2 (Wp.str.R jN) ([[.string aL],[.string (⟨#[98,97,115,105,115]⟩:ByteArray)],[.string aZ]]:List (List Value)) [aL,(⟨#[98,97,115,105,115]⟩:ByteArray),aZ] from⟨⟨rfl,aT⟩,⟨⟨rfl,(by decide)⟩,⟨⟨rfl,eY⟩,trivial⟩⟩⟩)
     obtain⟨jP,fC,aA⟩:=l0 aA
     refine Tr.val (Q5 _ eZ ([aL,(⟨#[98,97,115,105,115]⟩:ByteArray),aZ]).length fA [aL,(⟨#[98,97,115,105,115]⟩:ByteArray),aZ] fB _  fC) (aI rfl ?_)
     obtain⟨pD,fD,aA⟩:=l0 aA
     have lB:jP.size<=9223372036854775807:=I0 fD
     obtain rfl:=oJ aA
     exact aI rfl (aM.trans eV)
end Go.Proofs.YtkjhghloldgioaaGreat
