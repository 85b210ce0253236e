/- Texts of the claim, joined: The walks of batch tw and others. -/
import Derived.Test.YtkjhghloldgioaaGreatPart20
import Derived.Test.YtkjhghloldgioaaGreatChecked
import Derived.Test.YtkjhghloldgioaaGreatH35
import Derived.Test.YtkjhghloldgioaaGreatPart28
import Derived.Test.YtkjhghloldgioaaGreatPart19
import Derived.Test.YtkjhghloldgioaaGreatH36
import Derived.Test.YtkjhghloldgioaaGreatPart23
import Derived.Test.YtkjhghloldgioaaGreatSE
import Derived.Test.YtkjhghloldgioaaGreatH40
import Derived.Test.YtkjhghloldgioaaGreatH41
namespace Go.Proofs.YtkjhghloldgioaaGreat
open Go.H
set_option linter.unusedVariables false
set_option linter.unusedSimpArgs false
set_option maxRecDepth 10000
set_option maxHeartbeats 0
theorem C0c(h:Hp)(bJ:List Value)(p0:j0)(fU:Z0.R h bJ p0)(p1:Int)(fV:P0 p1)(r:(List Bool)×E2)(aD:n01 p0 p1=some r):
  Tr Tryz.prog 343 #[.agg bJ.toArray,.int .i64 p1] h λv h'=>∃(a0:Option Addr) (n0 c0:Nat) (a1:Option Addr) (n1 c1:Nat),v = .tuple #[.slice a0 n0 c0,.slice a1 n1 c1]/\(Wp.slice Wp.bool).R h' [.slice a0 n0 c0] r.1/\l9.R h' [.slice a1 n1 c1] r.2/\Sub h h':=by
 obtain⟨aN,aB,bK,eZ,bL,aO,rfl,rfl,aX,bM,aY⟩:=H0 fU
 obtain⟨rfl,fA⟩:=Sl.len aY
 unfold n01 at aD
 dsimp only at aD
 refine O2 (args:=[.agg #[.int .i64 aN,.int .i64 aB,.slice bK aO.length bL],.int .i64 p1]) (fn:=Tryz.f343) rfl ?_
 obtain⟨q1,fW,aD⟩:=l0 aD
 refine aI (I0 fW) ?_
 obtain⟨q2,fX,aD⟩:=l0 aD
 refine aI (I0 fX) ?_
 obtain⟨x3,fY,aD⟩:=l0 aD
 obtain⟨fZ,gA,gB,gC⟩:=P1 (F2.rep (p:=Wp.bool.R h) (a:=[.bool false]) (b:=false) rfl (aB.toNat)) fY
 refine aI fZ ?_
 obtain rfl:=gC
 refine eX _ (aI gB ?_)
 obtain⟨x4,gD,aD⟩:=l0 aD
 obtain⟨gE,gF,gG,fB⟩:=P1 (F2.rep (p:=W0.R h) (a:=[.slice none 0 0]) (b:=[]) (B0o Wp.int h) (aB.toNat)) gD
 refine aI gE ?_
 obtain⟨iL,iM,iN,rfl⟩:=Wp.slice_cell fB
 obtain⟨rfl,iO⟩:=Sl.len fB
 intro v5 k6 f7
 obtain⟨fC,fD,rfl,gH,cO,iP⟩:=U0.out (r:=Wp.int.toRp) f7 (show F2 (Wp.int.R h) ([]:List (List Value)) ([]:F0) from trivial)
 refine eX _ (aI gG ?_)
 refine trM aD (R00 _ _ aX) ?_
 rintro x9 aD iQ gI ⟨gJ,iS,gK,rfl,cR,bN⟩
 obtain⟨rfl,iT⟩:=Sl.len cR
 obtain⟨X12,bO,aD⟩:=l0 aD
 refine eX { vars:=[10],boxes:=[],owns:=[0,1,3],fuel:=true,kept:=[0,1] } (eX (λvs os h'=>∃ aZ aU bH aV bI aP bP,vs.tail = [.int .i64 aZ]/\os = [aU,aV,aP]/\Sub gI h'/\P0 aZ/\F2 (Wp.bool.R h') aU bH/\F2 (W0.R h') aV bI/\F2 (Wp.int.R h') aP bP/\N7 x9 aN aB aO (I1 vs) aZ bH bI bP=some X12) (eX (λ_ _=>0) (aI (eX Q0 ⟨0,((List.replicate aB.toNat ([.bool false]:List Value)).set p1.toNat [.bool true]),((List.replicate aB.toNat (false:Bool)).set p1.toNat true),((List.replicate aB.toNat ([.slice none 0 0]:List Value)).set p1.toNat [.slice fC (([]:F0)).length fD]),((List.replicate aB.toNat ([]:F0)).set p1.toNat ([]:F0)),([[.int .i64 p1]]:List (List Value)),[p1],rfl,rfl,(Sub.refl _),(by decide),(F2.up (r:=Wp.bool.toRp) (cO.trans bN) (F2.set (p:=Wp.bool.R h) (a:=[.bool true]) (b:=true) rfl p1.toNat (F2.rep (p:=Wp.bool.R h) (a:=[.bool false]) (b:=false) rfl (aB.toNat)))),(F2.up (r:=W0.toRp) bN (F2.set (p:=W0.R k6) (a:=[.slice fC (([]:F0)).length fD]) (b:=([]:F0)) gH p1.toNat (F2.up (r:=W0.toRp) cO (F2.rep (p:=W0.R h) (a:=[.slice none 0 0]) (b:=[]) (B0o Wp.int h) (aB.toNat))))),(F2.up (r:=Wp.int.toRp) bN (show F2 (Wp.int.R k6) ([[.int .i64 p1]]:List (List Value)) [p1] from⟨⟨rfl,fV⟩,trivial⟩)),bO⟩) ?_)))
 rintro _ aU aV aP cP gL ⟨aZ,fE,bH,fF,bI,fG,bP,⟨⟩,⟨⟩,aQ,gM,bQ,bR,bS,aF⟩
 replace aF:N7 x9 aN aB aO cP aZ bH bI bP=some X12:=aF
 obtain _|cP:=cP
 ·cases aF
 rw[N7.eq_2]at aF
 obtain⟨gN,cS,aF⟩:=l0 aF
 obtain rfl:aP.length=gN:=(F2.length bS).trans (oJ cS)
 obtain⟨iU,gO,aF⟩:=l0 aF
 refine ifB aF (λcT aF=>?_) λcT aF=>?_
 ·obtain⟨X22,bT,aF⟩:=l0 aF
  refine eX { vars:=[11],boxes:=[],owns:=[0,1,3],fuel:=true,kept:=[0,1] } (eX (λvs os h'=>∃ bA aJ bC aK bD aL bE,vs.tail = [.int .i64 bA]/\os = [aJ,aK,aL]/\Sub gL h'/\P0 bA/\F2 (Wp.bool.R h') aJ bC/\F2 (W0.R h') aK bD/\F2 (Wp.int.R h') aL bE/\W5 x9 aZ aN aB aO (I1 vs) bA bC bD bE=some X22) (eX (λ_ _=>0) (aI (eX Q0 ⟨0,aU,bH,aV,bI,aP,bP,rfl,rfl,(Sub.refl _),(by decide),bQ,bR,bS,bT⟩) ?_)))
  rintro _ aJ aK aL bU cQ ⟨bA,fH,bC,fJ,bD,fK,bE,⟨⟩,⟨⟩,aM,gP,aR,aS,aG,aA⟩
  replace aA:W5 x9 aZ aN aB aO bU bA bC bD bE=some X22:=aA
  obtain _|bU:=bU
  ·cases aA
  rw[W5.eq_2]at aA
  refine ifB aA (λcU aA=>?_) λcU aA=>?_
  ·refine Or.inl (aI (aI (by kernel_rfl) (by kernel_rfl)) ?_)
   obtain⟨iV,cV,aA⟩:=l0 aA
   obtain⟨cW,fL,cX,cY⟩:=P1 aG cV
   refine aI cW ?_
   obtain⟨rfl,cZ⟩:=cY
   refine eX _ (aI cX ?_)
   refine ldI aA (W0.mono (aQ.trans aM) cR) λiW dA aA=>?_
   obtain⟨aH,dB,aA⟩:=l0 aA
   refine eX (.int .i64 aH) (aI (U6 _ _ _ (B0 aX bM (O0.mono (((cO.trans bN).trans aQ).trans aM) aY)) _ cZ _ dA _  dB) ?_)
   obtain⟨iX,dC,aA⟩:=l0 aA
   have bV:P0 aH:=I0 dC
   obtain⟨iY,dD,aA⟩:=l0 aA
   obtain⟨fM,bW,dE⟩:=f01 aR dD (v0k cQ)
   refine aI (λq=>(bW q).1) ?_
   obtain rfl:=dE
   refine eX _ (aI (λq=>(bW q).2) ?_)
   refine ifB aA (λdF aA=>?_) λdF aA=>?_
   ·obtain⟨iZ,dG,aA⟩:=l0 aA
    obtain⟨dH,fN,dI,dJ⟩:=P1 aR dG
    refine aI dH ?_
    obtain rfl:=dJ
    refine eX _ (aI dI ?_)
    refine Or.inr (Or.inr (Or.inr (Or.inr (eX 16 (aI (aI (by kernel_rfl) (by kernel_rfl)) ?_)))))
    refine Or.inr (eX (λv hh=>∃(g:Nat),v = .slice (some ⟨g,0,none⟩) 0 0/\cQ g=none/\∃ e,hh g=some (.cells #[] e (0,0))) (aI (λv h1 h2 sb q=>by obtain⟨g,e,n,t,c⟩:=q;exact⟨g,e,n,t,sb _ _ c⟩) (aI ?_ ?_)))
    ·intro jA gQ
     intro g hg
     exact aI Y02 (aI (Sub.set hg) ⟨g,rfl,Sub.back gQ hg,_,Hp.set_same _ _ _⟩)
    obtain⟨gR,dK,aA⟩:=l0 aA
    obtain⟨dL,fO,dM,dN⟩:=P1 aG dK
    obtain⟨rfl,gS⟩:=dN
    refine Or.inl ?_
    apply eX
    refine aI ?_ ?_
    ·intro jB jC
     exact aI dL (aI rfl (aI rfl rfl))
    refine Or.inl (eX (.val (.int .i64 gR)) (aI ?_ ?_))
    ·intro jD jE
     exact eX _ (aI dM (aI rfl (aI rfl rfl)))
    obtain⟨aW,dO,aA⟩:=l0 aA
    obtain⟨dP,fP,dQ,bF⟩:=P1 aS dO
    obtain⟨dR,gT,dS,rfl⟩:=Wp.slice_cell bF
    obtain⟨rfl,gU⟩:=Sl.len bF
    refine Or.inl ?_
    apply eX
    refine aI ?_ ?_
    ·intro jF jG
     exact aI dP (aI rfl (aI rfl rfl))
    refine Or.inl (eX (.val (.slice dR aW.length dS)) (aI ?_ ?_))
    ·intro jH jI
     exact eX _ (aI dQ (aI rfl (aI rfl rfl)))
    obtain⟨jJ,dT,aA⟩:=l0 aA
    refine Or.inr (eX (λv hh=>∃(g o c:Nat),v = .slice (some ⟨g,o,none⟩) aW.length c/\New W0 cQ hh [.slice (some ⟨g,o,none⟩) aW.length c] aW/\aW.length<=9223372036854775807) (aI (λv h1 h2 sb q=>by obtain⟨g,o,c,e,r,l⟩:=q;exact⟨g,o,c,e,New.mono r sb,l⟩) (aI ?_ ?_)))
    ·intro jK fQ
     rintro _ ⟨gV,rfl,dU,dV⟩
     obtain⟨bX,dW,bY,dX,dY⟩:=New.appZ (r:=Wp.int) dU dV fQ (W0.mono fQ bF) (B04 _)
     exact eX bX (aI dW (aI (J1 dT bY) (aI (λhz=>aI Y02 (aI (Sub.refl _) (dX hz))) (λv h9 hf=>aI Y02 (dY v h9 _ hf)))))
    obtain⟨bZ,dZ,aA⟩:=l0 aA
    obtain⟨eA,fR,eC,eD⟩:=Sl.getI (r:=Wp.int.toRp) (W0.mono (aQ.trans aM) cR) dZ (by decide)
    obtain⟨rfl,eE⟩:=eD
    refine Or.inl (eX (.hel (.slice gJ x9.length gK) bA 1 0) (aI ?_ ?_))
    ·intro jL jM
     exact aI eA (aI rfl (aI rfl rfl))
    refine Or.inl (eX (.val (.int .i64 bZ)) (aI ?_ ?_))
    ·intro jN gW
     exact eX _ (aI (d00.up gW eC) (aI rfl (aI rfl rfl)))
    obtain⟨aT,eF,aA⟩:=l0 aA
    refine Or.inr (eX (λv hh=>∃(a:Option Addr) (c:Nat),v = .slice a aT.length c/\W0.R hh [.slice a aT.length c] aT/\aT.length<=9223372036854775807) (aI (λv h1 h2 sb q=>by obtain⟨a,c,e,r,l⟩:=q;exact⟨a,c,e,W0.mono sb r,l⟩) (aI ?_ ?_)))
    ·intro fS jO
     have eG:[bZ]=aT:=oJ eF
     intro v k hf
     obtain⟨a,c,rfl,r,sb,l⟩:=U0.out (r:=Wp.int.toRp) (xs:=aT) hf (show F2 (Wp.int.R fS) [[.int .i64 bZ]] aT from eG▸(show F2 (Wp.int.R fS) [[.int .i64 bZ]] [bZ] from⟨⟨rfl,eE⟩,trivial⟩))
     exact aI ⟨rfl,rfl,rfl,[_],rfl⟩ (aI sb ⟨a,c,rfl,r,l⟩)
    intro jP jQ
    rintro _ ⟨gX,gY,rfl,eH,gZ⟩
    rintro _ ⟨hJ,hU,hY,rfl,eI,hZ⟩
    rintro _ _
    obtain⟨cA,eJ,cC⟩:=Sl.rows (r:=Wp.int.toRp) eH
    refine eX cA (aI eJ ?_)
    obtain⟨jR,eK,aA⟩:=l0 aA
    obtain⟨cD,cE,bB,cG⟩:=New.app eI (Sub.refl _)
    refine eX cD (aI cE (aI (J1 eK (by first|rw[bB,F2.length cC]|(rw[bB];rfl))) ?_))
    intro iA bG happz69
    obtain⟨aC,cH,cI,iB,cJ,rfl⟩:=cG _ _ _ _ _ (F3.ofPlain (B04 _) cC) K6.ofPlain happz69
    have cK:=aC.r
    obtain⟨eM,iC⟩:=Sl.len cK
    subst eM
    obtain⟨jS,eN,aA⟩:=l0 aA
    obtain⟨eO,fT,eP,cL⟩:=P1 (F2.up (r:=W0.toRp) aC.sub aS) eN
    refine aI eO ?_
    obtain⟨iD,iE,iF,rfl⟩:=Wp.slice_cell cL
    obtain⟨rfl,iG⟩:=Sl.len cL
    refine eX _ (aI eP ?_)
    obtain⟨jT,eQ,aA⟩:=l0 aA
    refine aI (J1 eQ (by first|rw[F2.length (F2.up (r:=Wp.int.toRp) aC.sub aG),F2.length (show F2 (Wp.int.R bG) ([[.int .i64 aH]]:List (List Value)) [aH] from⟨⟨rfl,bV⟩,trivial⟩)]|exact congrArg (·+1) (F2.length (F2.up (r:=Wp.int.toRp) aC.sub aG)))) ?_
    exact D2 bU ⟨(IntKind.i64.wrap (bA+1)),(aJ.set aH.toNat [.bool true]),(bC.set aH.toNat true),(aK.set aH.toNat [.slice (some ⟨cH,cI,none⟩) (aW++aT).length cJ]),(bD.set aH.toNat (aW++aT)),(aL++([[.int .i64 aH]]:List (List Value))),(bE ++ [aH]),rfl,rfl,(aM.trans aC.sub),(J0 _),(F2.up (r:=Wp.bool.toRp) aC.sub (F2.set (p:=Wp.bool.R cQ) (a:=[.bool true]) (b:=true) rfl aH.toNat aR)),(F2.set (p:=W0.R bG) (a:=[.slice (some ⟨cH,cI,none⟩) (aW++aT).length cJ]) (b:=(aW++aT)) cK aH.toNat (F2.up (r:=W0.toRp) aC.sub aS)),(F2.append (F2.up (r:=Wp.int.toRp) aC.sub aG) (show F2 (Wp.int.R bG) ([[.int .i64 aH]]:List (List Value)) [aH] from⟨⟨rfl,bV⟩,trivial⟩)),aA⟩
   ·exact D2 bU ⟨(IntKind.i64.wrap (bA+1)),aJ,bC,aK,bD,aL,bE,rfl,rfl,aM,(J0 _),aR,aS,aG,aA⟩
  ·obtain rfl:=oJ aA
   try dsimp only[S0,T0]at aF
   exact D2 cP ⟨(IntKind.i64.wrap (aZ+1)),aJ,bC,aK,bD,aL,bE,rfl,rfl,(aQ.trans aM),(J0 _),aR,aS,aG,aF⟩
 ·obtain rfl:=oJ aF
  try dsimp only[S0,T0]at aD
  intro jU jV iH
  obtain⟨eR,eT,rfl,eU,cM,iI⟩:=U0.out (r:=Wp.bool.toRp) iH bQ
  intro jW jX iJ
  obtain⟨eV,eW,rfl,eY,cN,iK⟩:=U0.out (r:=W0.toRp) iJ (F2.up (r:=W0.toRp) cM bR)
  obtain rfl:=oJ aD
  exact⟨eR,bH.length,eT,eV,bI.length,eW,rfl,((Wp.slice Wp.bool).mono cN eU),eY,((((cO.trans bN).trans aQ).trans cM).trans cN)⟩
theorem D0c(h:Hp)(aM:List Value)(p0:j0)(bQ:Z0.R h aM p0)(p1:Int)(bA:P0 p1)(p2:Int)(bR:P0 p2)(r:F0×Bool)(aA:a8 p0 p1 p2=some r):
  Tr Tryz.prog 321 #[.agg aM.toArray,.int .i64 p1,.int .i64 p2] h λv h'=>∃(g0:Nat) (n0 c0:Nat),v = .tuple #[.slice (some ⟨g0,0,none⟩) n0 c0,.bool r.2]/\New W0 h h' [.slice (some ⟨g0,0,none⟩) n0 c0] r.1:=by
 obtain⟨aQ,aH,aN,bB,aO,aR,rfl,rfl,aF,aG,aB⟩:=H0 bQ
 obtain⟨rfl,bC⟩:=Sl.len aB
 unfold a8 at aA
 dsimp only at aA
 refine O2 (args:=[.agg #[.int .i64 aQ,.int .i64 aH,.slice aN aR.length aO],.int .i64 p1,.int .i64 p2]) (fn:=Tryz.f321) rfl ?_
 refine trV aA (g8 _ _ _ (B0 aF aG aB)) λx1 aA=>?_
 refine trG aA (λq=>Z8 _ _ bA 0 (by decide) (IntKind.i64.wrap (aH-1)) (J0 _)) λx2 aA=>?_
 refine trG aA (λq=>Z8 _ _ bR 0 (by decide) (IntKind.i64.wrap (aH-1)) (J0 _)) λx3 aA=>?_
 refine ifB aA (λbS aA=>?_) λbS aA=>?_
 ·intro v5 k6 f7
  obtain⟨bT,bU,rfl,cK,cL,cM⟩:=U0.outS (r:=Wp.int.toRp) f7 (show F2 (Wp.int.R h) ([]:List (List Value)) ([]:F0) from trivial)
  obtain rfl:=oJ aA
  exact⟨bT,(([]:F0)).length,bU,rfl,(U0.newPlain (r:=Wp.int) f7 (show F2 (Wp.int.R h) ([]:List (List Value)) ([]:F0) from trivial) (B04 _))⟩
 ·refine trM aA (C0c _ _ _ (B0 aF aG aB) _ bA) ?_
  rintro x9 aA cN aL ⟨bD,bE,bF,bG,bH,bI,rfl,aC,aD,bJ⟩
  obtain⟨bV,bW⟩:=x9
  dsimp only at aA aC aD
  obtain⟨rfl,bK⟩:=Sl.len aC
  obtain⟨rfl,bL⟩:=Sl.len aD
  refine ld aA aC λcO bM aS aA=>?_
  obtain rfl:=aS
  refine ifB aA (λaT aA=>?_) λaT aA=>?_
  ·intro cP cQ bN
   obtain⟨aU,aV,rfl,bX,bY,bZ⟩:=U0.outS (r:=Wp.int.toRp) bN (show F2 (Wp.int.R aL) ([]:List (List Value)) ([]:F0) from trivial)
   obtain rfl:=oJ aA
   exact⟨aU,(([]:F0)).length,aV,rfl,(New.from (U0.newPlain (r:=Wp.int) bN (show F2 (Wp.int.R aL) ([]:List (List Value)) ([]:F0) from trivial) (B04 _)) bJ)⟩
  ·refine ld aA aD λcA bO aJ aA=>?_
   obtain⟨cC,cD,cE,rfl⟩:=Wp.slice_cell aJ
   obtain⟨rfl,cG⟩:=Sl.len aJ
   obtain⟨aP,aW,aK⟩:=Sl.rows (r:=Wp.int.toRp) aJ
   refine eX aP (aI aW ?_)
   obtain⟨cR,aX,aA⟩:=l0 aA
   refine aI (J1 aX (by first|rw[F2.length (show F2 (Wp.int.R aL) ([]:List (List Value)) ([]:F0) from trivial),F2.length aK]|exact congrArg (·+1) (F2.length (show F2 (Wp.int.R aL) ([]:List (List Value)) ([]:F0) from trivial)))) ?_
   intro cS cT bP
   obtain⟨aY,aZ,rfl,cH,cI,cJ⟩:=U0.outS (r:=Wp.int.toRp) bP (F2.append (show F2 (Wp.int.R aL) ([]:List (List Value)) ([]:F0) from trivial) aK)
   obtain rfl:=oJ aA
   exact⟨aY,((([]:F0)++cA)).length,aZ,rfl,(New.from (U0.newPlain (r:=Wp.int) bP (F2.append (show F2 (Wp.int.R aL) ([]:List (List Value)) ([]:F0) from trivial) aK) (B04 _)) bJ)⟩
theorem r01(h:Hp)(aD:List Value)(p0:j0)(aV:Z0.R h aD p0)(p1:Int)(aW:P0 p1)(r:F0)(aC:o9 p0 p1=some r):
  Tr Tryz.prog 255 #[.agg aD.toArray,.int .i64 p1] h λv h'=>∃(g0:Nat) (n0 c0:Nat),v = .slice (some ⟨g0,0,none⟩) n0 c0/\New W0 h h' [.slice (some ⟨g0,0,none⟩) n0 c0] r:=by
 obtain⟨aN,aO,aF,aR,aG,aP,rfl,rfl,aH,aJ,aB⟩:=H0 aV
 obtain⟨rfl,aS⟩:=Sl.len aB
 unfold o9 at aC
 dsimp only at aC
 refine O2 (args:=[.agg #[.int .i64 aN,.int .i64 aO,.slice aF aP.length aG],.int .i64 p1]) (fn:=Tryz.f255) rfl ?_
 refine trM aC (D0c _ _ _ (B0 aH aJ aB) 0 (by decide) _ aW) ?_
 rintro x1 aC v3 k2 ⟨aK,aT,aL,rfl,aA⟩
 obtain⟨aQ,aX⟩:=x1
 dsimp only at aC aA
 have aY:Sub h k2:=aA.sub
 have aM:=aA.r
 obtain⟨rfl,aU⟩:=Sl.len aM
 obtain rfl:=oJ aC
 exact⟨aK,aQ.length,aL,rfl,aA⟩
theorem L0b(h:Hp)(aB:List Value)(p0:j0)(aO:Z0.R h aB p0)(r:Bool)(aC:L00 p0=some r):
  Tr Tryz.prog 227 #[.agg aB.toArray] h λv h'=>v = .bool r/\h'=h:=by
 obtain⟨aJ,aK,aD,aM,aF,aL,rfl,rfl,aG,aH,aA⟩:=H0 aO
 obtain⟨rfl,aN⟩:=Sl.len aA
 unfold L00 at aC
 dsimp only at aC
 refine Tr.forget (O2 (args:=[.agg #[.int .i64 aJ,.int .i64 aK,.slice aD aL.length aF]]) (fn:=Tryz.f227) rfl ?_)
 refine trV aC (O7 _ _ _ (B0 aG aH aA)) λx1 aC=>?_
 obtain rfl:=oJ aC
 exact aI rfl (Sub.refl _)
theorem B06(h:Hp)(aV:List Value)(p0:j0)(bU:Z0.R h aV p0)(r:E2)(aT:G6 p0=some r):
  Tr Tryz.prog 228 #[.agg aV.toArray] h λv h'=>∃(a0:Option Addr) (n0 c0:Nat),v = .slice a0 n0 c0/\l9.R h' [.slice a0 n0 c0] r/\Sub h h':=by
 obtain⟨aN,aO,aW,bR,aX,aP,rfl,rfl,aC,aD,aB⟩:=H0 bU
 obtain⟨rfl,bS⟩:=Sl.len aB
 unfold G6 at aT
 dsimp only at aT
 refine O2 (args:=[.agg #[.int .i64 aN,.int .i64 aO,.slice aW aP.length aX]]) (fn:=Tryz.f228) rfl ?_
 obtain⟨X1,bF,aT⟩:=l0 aT
 refine eX { vars:=[4],boxes:=[],owns:=[0],fuel:=true } (eX (λvs os h'=>∃ u2 aY u3,vs.tail = [.int .i64 u2]/\os = [aY]/\Sub h h'/\P0 u2/\F2 (W0.R h') aY u3/\l3 aO aN aP (I1 vs) u2 u3=some X1) (eX (λ_ _=>0) (aI (eX Q0 ⟨0,[],([]:E2),rfl,rfl,(Sub.refl _),(by decide),(show F2 (W0.R h) ([]:List (List Value)) ([]:E2) from trivial),bF⟩) ?_)))
 rintro _ aY m5 k4 ⟨u2,bV,u3,⟨⟩,⟨⟩,aQ,bT,aZ,aA⟩
 replace aA:l3 aO aN aP m5 u2 u3=some X1:=aA
 obtain _|m5:=m5
 ·cases aA
 rw[l3.eq_2]at aA
 refine trG aA (λq=>U01 _ _ _ (B0 aC aD (O0.mono aQ aB))) λx6 aA=>?_
 refine ifB aA (λbW aA=>?_) λbW aA=>?_
 ·refine trM aA (B0c _ _ _ (B0 aC aD (O0.mono aQ aB)) _ bT) ?_
  rintro x8 aA cE k9 ⟨bG,rfl,aL,aM⟩
  obtain⟨bX,bY⟩:=x8
  dsimp only at aA aL
  obtain⟨bH,bI,bB,bC,bD,bJ,rfl,rfl,aH,aJ,aF⟩:=H0 aL
  obtain⟨rfl,bE⟩:=Sl.len aF
  try dsimp only at aA
  refine trV aA (N04 _ _ _ (B0 aH aJ aF) _ _ (B0 aC aD (O0.mono (aQ.trans aM) aB))) λcG aA=>?_
  refine ifB aA (λbK aA=>?_) λbK aA=>?_
  ·obtain⟨aU,aG,aA⟩:=l0 aA
   refine Tr.mono (r01 _ _ _ (B0 aC aD (O0.mono (aQ.trans aM) aB)) _ bT _  aG) ?_
   rintro cH bL ⟨aG,bZ,aR,rfl,bA⟩
   have aK:Sub k9 bL:=bA.sub
   have aS:=bA.r
   obtain⟨rfl,cA⟩:=Sl.len aS
   obtain⟨cI,bM,aA⟩:=l0 aA
   refine aI (J1 bM (by first|rw[F2.length (F2.up (r:=W0.toRp) (aM.trans aK) aZ),F2.length (show F2 (W0.R bL) ([[.slice (some ⟨aG,0,none⟩) aU.length aR]]:List (List Value)) [aU] from⟨aS,trivial⟩)]|exact congrArg (·+1) (F2.length (F2.up (r:=W0.toRp) (aM.trans aK) aZ)))) ?_
   exact D2 m5 ⟨(IntKind.i64.wrap (u2+1)),(aY++([[.slice (some ⟨aG,0,none⟩) aU.length aR]]:List (List Value))),(u3 ++ [aU]),rfl,rfl,((aQ.trans aM).trans aK),(J0 _),(F2.append (F2.up (r:=W0.toRp) (aM.trans aK) aZ) (show F2 (W0.R bL) ([[.slice (some ⟨aG,0,none⟩) aU.length aR]]:List (List Value)) [aU] from⟨aS,trivial⟩)),aA⟩
  ·exact D2 m5 ⟨(IntKind.i64.wrap (u2+1)),aY,u3,rfl,rfl,(aQ.trans aM),(J0 _),(F2.up (r:=W0.toRp) aM aZ),aA⟩
 ·obtain rfl:=oJ aA
  try dsimp only[S0,T0]at aT
  intro cJ cK cC
  obtain⟨bN,bO,rfl,bP,bQ,cD⟩:=U0.out (r:=W0.toRp) cC aZ
  obtain rfl:=oJ aT
  exact⟨bN,u3.length,bO,rfl,bP,(aQ.trans bQ)⟩
theorem L06(h:Hp)(aF:List Value)(p0:j0)(aP:Z0.R h aF p0)(r:Bool)(aB:i00 p0=some r):
  Tr Tryz.prog 120 #[.agg aF.toArray] h λv h'=>v = .bool r/\h'=h:=by
 obtain⟨aK,aG,aH,aM,aJ,aL,rfl,rfl,aC,aD,aA⟩:=H0 aP
 obtain⟨rfl,aN⟩:=Sl.len aA
 unfold i00 at aB
 dsimp only at aB
 refine Tr.forget (O2 (args:=[.agg #[.int .i64 aK,.int .i64 aG,.slice aH aL.length aJ]]) (fn:=Tryz.f120) rfl ?_)
 refine Or.inr (Or.inr (Or.inr (Or.inl (aI (aI (by kernel_rfl) (by kernel_rfl)) ?_))))
 obtain⟨x1,aQ,aB⟩:=l0 aB
 refine Or.inl (eX (.val (.bool x1)) (aI ?_ ?_))
 ·intro k2 s3
  exact Tr.val (L0b _ _ _ (B0 aC aD (O0.mono s3 aA)) _ aQ) (aI rfl (aI rfl rfl))
 obtain⟨x4,aR,aB⟩:=l0 aB
 refine Or.inl (eX (.val (.bool x4)) (aI ?_ ?_))
 ·intro k5 s6 hq
  exact Tr.val (U01 _ _ _ (B0 aC aD (O0.mono s6 aA)) _ (I7 aR hq)) (aI rfl (aI rfl rfl))
 obtain⟨x7,aS,aB⟩:=l0 aB
 refine Or.inr (eX (λv hh=>∃(a:Option Addr) (c:Nat),v = .slice a x7.length c/\l9.R hh [.slice a x7.length c] x7/\x7.length<=9223372036854775807) (aI (λv h1 h2 sb q=>by obtain⟨a,c,e,r,l⟩:=q;exact⟨a,c,e,l9.mono sb r,l⟩) (aI ?_ ?_)))
 ·intro k8 s9 hq
  refine Tr.mono (B06 _ _ _ (B0 aC aD (O0.mono s9 aA)) _ (I7 aS hq)) ?_
  rintro _ kk ⟨aT,bC,aU,rfl,aO,sb⟩
  obtain⟨rfl,aV⟩:=Sl.len aO
  exact aI Y02 (aI sb ⟨aT,aU,rfl,aO,aV⟩)
 obtain⟨bD,aW,aB⟩:=l0 aB
 refine Or.inl (eX (.val (.int .i64 ((x7.length:Nat):Int))) (aI ?_ ?_))
 ·intro bE bF hq
  rintro _ ⟨aX,aY,rfl,aZ,bA⟩
  exact aI rfl (aI rfl rfl)
 refine Or.inl (eX (.val (.bool (decide (((x7.length:Nat):Int)=aG)))) (aI ?_ ?_))
 ·intro bG bH hq
  exact aI rfl (aI rfl rfl)
 intro bI bB
 obtain rfl:=oJ aB
 exact aI rfl bB
theorem X0e(h:Hp)(bG:List Value)(p0:j0)(eI:Z0.R h bG p0)(r:K0)(aK:Q01 p0=some r):
  Tr Tryz.prog 296 #[.agg bG.toArray] h λv h'=>∃(a0:Option Addr) (n0 c0:Nat),v = .slice a0 n0 c0/\O0.R h' [.slice a0 n0 c0] r/\Sub h h':=by
 obtain⟨aL,aM,bH,dS,bI,aN,rfl,rfl,aO,aX,aP⟩:=H0 eI
 obtain⟨rfl,dT⟩:=Sl.len aP
 unfold Q01 at aK
 dsimp only at aK
 refine O2 (args:=[.agg #[.int .i64 aL,.int .i64 aM,.slice bH aN.length bI]]) (fn:=Tryz.f296) rfl ?_
 refine trV aK (g8 _ _ _ (B0 aO aX aP)) λx1 aK=>?_
 refine ifB aK (λeJ aK=>?_) λeJ aK=>?_
 ·intro v3 k4 f5
  obtain⟨eK,eM,rfl,eN,eO,fP⟩:=U0.out (r:=E1.toRp) f5 (show F2 (E1.R h) ([]:List (List Value)) ([]:K0) from trivial)
  obtain rfl:=oJ aK
  exact⟨eK,(([]:K0)).length,eM,rfl,eN,eO⟩
 ·refine trM aK (R00 _ _ aO) ?_
  rintro x7 aK v9 k8 ⟨dU,fQ,dV,rfl,bJ,bV⟩
  obtain⟨rfl,fR⟩:=Sl.len bJ
  obtain⟨X14,bK,aK⟩:=l0 aK
  refine eX { vars:=[3,6],boxes:=[],owns:=[1],fuel:=true,pubs:=[3,9] } (eX (λvs os h'=>∃(aQ:Option Addr) (bB aR:Nat) (bC:K0) (aY:Int) (aS:List (List Value)) (bL:List Int),vs.tail = [.slice aQ bB aR,.int .i64 aY]/\os = [aS]/\Sub k8 h'/\O0.R h' [.slice aQ bB aR] bC/\P0 aY/\F2 (Wp.int.R h') aS bL/\s8 x7 aL aM aN (I1 vs) bC aY bL=some X14) (eX (λ_ _=>0) ?_))
  intro fS fT eP
  obtain⟨bY,bZ,rfl,cA,bM,eQ⟩:=U0.out (r:=E1.toRp) eP (F2.up (r:=E1.toRp) bV (show F2 (E1.R h) ([]:List (List Value)) ([]:K0) from trivial))
  refine aI (eX Q0 ⟨bY,(([]:K0)).length,bZ,([]:K0),0,([[.int .i64 0]]:List (List Value)),[0],rfl,rfl,bM,cA,(by decide),(F2.up (r:=Wp.int.toRp) (bV.trans bM) (show F2 (Wp.int.R h) ([[.int .i64 0]]:List (List Value)) [0] from⟨⟨rfl,(by decide)⟩,trivial⟩)),bK⟩) ?_
  rintro _ _ aS bW eR ⟨aQ,bB,aR,bC,aY,dW,bL,⟨⟩,⟨⟩,aH,bD,eT,bN,aG⟩
  replace aG:s8 x7 aL aM aN bW bC aY bL=some X14:=aG
  obtain _|bW:=bW
  ·cases aG
  rw[s8.eq_2]at aG
  obtain⟨rfl,eU⟩:=Sl.len bD
  obtain⟨eV,cC,aG⟩:=l0 aG
  obtain rfl:aS.length=eV:=(F2.length bN).trans (oJ cC)
  obtain⟨fU,eW,aG⟩:=l0 aG
  refine ifB aG (λcD aG=>?_) λcD aG=>?_
  ·obtain⟨X23,bO,aG⟩:=l0 aG
   refine eX { vars:=[3,7],boxes:=[],owns:=[1],fuel:=true } (eX (λvs os h'=>∃ aT bE aU aZ aW aJ bA,vs.tail = [.slice aT bE aU,.int .i64 aW]/\os = [aJ]/\Sub eR h'/\O0.R h' [.slice aT bE aU] aZ/\P0 aW/\F2 (Wp.int.R h') aJ bA/\K5 x7 aY aL aM aN (I1 vs) aZ aW bA=some X23) (eX (λ_ _=>0) (aI (eX Q0 ⟨aQ,bC.length,aR,bC,0,aS,bL,rfl,rfl,(Sub.refl _),bD,(by decide),bN,bO⟩) ?_)))
   rintro _ _ aJ bF bP ⟨aT,bE,aU,aZ,aW,dX,bA,⟨⟩,⟨⟩,aD,aV,eY,aB,aA⟩
   replace aA:K5 x7 aY aL aM aN bF aZ aW bA=some X23:=aA
   obtain _|bF:=bF
   ·cases aA
   rw[K5.eq_2]at aA
   obtain⟨rfl,eZ⟩:=Sl.len aV
   refine ifB aA (λcE aA=>?_) λcE aA=>?_
   ·refine Or.inl (aI (aI (by kernel_rfl) (by kernel_rfl)) ?_)
    obtain⟨fV,cG,aA⟩:=l0 aA
    obtain⟨cH,dY,cI,cJ⟩:=P1 aB cG
    refine aI cH ?_
    obtain⟨rfl,cK⟩:=cJ
    refine eX _ (aI cI ?_)
    refine ldI aA (W0.mono (aH.trans aD) bJ) λfW cL aA=>?_
    obtain⟨aC,cM,aA⟩:=l0 aA
    refine eX (.int .i64 aC) (aI (U6 _ _ _ (B0 aO aX (O0.mono ((bV.trans aH).trans aD) aP)) _ cK _ cL _  cM) ?_)
    obtain⟨fX,cN,aA⟩:=l0 aA
    have aF:P0 aC:=I0 cN
    obtain⟨fA,cO,aA⟩:=l0 aA
    refine eX (.bool fA) (aI ?_ ?_)
    ·intro hq
     intro fY fZ fB
     obtain⟨fC,fD,rfl,cP,fE,fF⟩:=U0.out (r:=Wp.int.toRp) fB aB
     exact e02 _ _ _ _ _ cP _ aF _ (I7 cO hq)
    refine ifB aA (λcQ aA=>?_) λcQ aA=>?_
    ·exact D2 bF ⟨aT,aZ.length,aU,aZ,(IntKind.i64.wrap (aW+1)),aJ,bA,rfl,rfl,aD,aV,(J0 _),aB,aA⟩
    ·obtain⟨gA,cR,aA⟩:=l0 aA
     refine aI (J1 cR (by first|rw[F2.length aB,F2.length (show F2 (Wp.int.R bP) ([[.int .i64 aC]]:List (List Value)) [aC] from⟨⟨rfl,aF⟩,trivial⟩)]|exact congrArg (·+1) (F2.length aB))) ?_
     refine ldI aA (W0.mono (aH.trans aD) bJ) λgB fG aA=>?_
     refine ifB aA (λcS aA=>?_) λcS aA=>?_
     ·refine Or.inr (Or.inr (Or.inr (Or.inr (eX 11 (aI (aI (by kernel_rfl) (by kernel_rfl)) ?_)))))
      obtain⟨dZ,cT,aA⟩:=l0 aA
      obtain⟨cU,eA,cV,cW⟩:=P1 (F2.append aB (show F2 (Wp.int.R bP) ([[.int .i64 aC]]:List (List Value)) [aC] from⟨⟨rfl,aF⟩,trivial⟩)) cT
      obtain⟨rfl,cX⟩:=cW
      refine Or.inl ?_
      apply eX
      refine aI ?_ ?_
      ·intro gC gD
       exact aI cU (aI rfl (aI rfl rfl))
      refine Or.inl (eX (.val (.int .i64 dZ)) (aI ?_ ?_))
      ·intro gE gF
       exact eX _ (aI cV (aI rfl (aI rfl rfl)))
      obtain⟨eC,cY,aA⟩:=l0 aA
      obtain⟨cZ,eD,dA,dB⟩:=Sl.getI (r:=Wp.int.toRp) (W0.mono (aH.trans aD) bJ) cY (by decide)
      obtain⟨rfl,dC⟩:=dB
      refine Or.inl (eX (.hel (.slice dU x7.length dV) aW 1 0) (aI ?_ ?_))
      ·intro gG gH
       exact aI cZ (aI rfl (aI rfl rfl))
      refine Or.inl (eX (.val (.int .i64 eC)) (aI ?_ ?_))
      ·intro gI fH
       exact eX _ (aI (d00.up fH dA) (aI rfl (aI rfl rfl)))
      refine Or.inl (eX (.agg [.val (.int .i64 dZ),.val (.int .i64 eC),.val (.int .i64 aC)]) (aI ?_ ?_))
      ·intro gJ gK
       exact aI rfl (aI rfl rfl)
      intro gL dD
      refine trM aA (W03 _ _ _ _ _ (O0.mono dD aV) _ _ (L1 cX dC aF)) ?_
      rintro eE aA gM gN ⟨dE,fJ,dF,rfl,bQ,bR⟩
      obtain⟨rfl,fK⟩:=Sl.len bQ
      exact D2 bF ⟨dE,eE.length,dF,eE,(IntKind.i64.wrap (aW+1)),(aJ++([[.int .i64 aC]]:List (List Value))),(bA ++ [aC]),rfl,rfl,((aD.trans dD).trans bR),bQ,(J0 _),(F2.up (r:=Wp.int.toRp) (dD.trans bR) (F2.append aB (show F2 (Wp.int.R bP) ([[.int .i64 aC]]:List (List Value)) [aC] from⟨⟨rfl,aF⟩,trivial⟩))),aA⟩
     ·refine Or.inr (Or.inr (Or.inr (Or.inr (eX 12 (aI (aI (by kernel_rfl) (by kernel_rfl)) ?_)))))
      obtain⟨bS,dG,aA⟩:=l0 aA
      obtain⟨dH,eF,dI,dJ⟩:=Sl.getI (r:=Wp.int.toRp) (W0.mono (aH.trans aD) bJ) dG (by decide)
      obtain⟨rfl,fL⟩:=dJ
      refine Or.inl (eX (.hel (.slice dU x7.length dV) aW 1 0) (aI ?_ ?_))
      ·intro gO gP
       exact aI dH (aI rfl (aI rfl rfl))
      refine Or.inl (eX (.val (.int .i64 bS)) (aI ?_ ?_))
      ·intro gQ fM
       exact eX _ (aI (d00.up fM dI) (aI rfl (aI rfl rfl)))
      refine Or.inl (eX (.val (.int .i64 (IntKind.i64.wrap (0-bS)))) (aI ?_ ?_))
      ·intro gR gS
       exact aI rfl (aI rfl rfl)
      obtain⟨bX,dK,aA⟩:=l0 aA
      obtain⟨dL,eG,dM,dN⟩:=P1 (F2.append aB (show F2 (Wp.int.R bP) ([[.int .i64 aC]]:List (List Value)) [aC] from⟨⟨rfl,aF⟩,trivial⟩)) dK
      obtain⟨rfl,dO⟩:=dN
      refine Or.inl ?_
      apply eX
      refine aI ?_ ?_
      ·intro gT gU
       exact aI dL (aI rfl (aI rfl rfl))
      refine Or.inl (eX (.val (.int .i64 bX)) (aI ?_ ?_))
      ·intro gV gW
       exact eX _ (aI dM (aI rfl (aI rfl rfl)))
      refine Or.inl (eX (.agg [.val (.int .i64 aC),.val (.int .i64 (IntKind.i64.wrap (0-bS))),.val (.int .i64 bX)]) (aI ?_ ?_))
      ·intro gX gY
       exact aI rfl (aI rfl rfl)
      intro gZ dP
      refine trM aA (W03 _ _ _ _ _ (O0.mono dP aV) [.int .i64 aC,.int .i64 (IntKind.i64.wrap (0-bS)),.int .i64 bX] (aC,(IntKind.i64.wrap (0-bS)),bX) (L1 aF (J0 _) dO)) ?_
      rintro eH aA hJ hU ⟨dQ,fN,dR,rfl,bT,bU⟩
      obtain⟨rfl,fO⟩:=Sl.len bT
      exact D2 bF ⟨dQ,eH.length,dR,eH,(IntKind.i64.wrap (aW+1)),(aJ++([[.int .i64 aC]]:List (List Value))),(bA ++ [aC]),rfl,rfl,((aD.trans dP).trans bU),bT,(J0 _),(F2.up (r:=Wp.int.toRp) (dP.trans bU) (F2.append aB (show F2 (Wp.int.R bP) ([[.int .i64 aC]]:List (List Value)) [aC] from⟨⟨rfl,aF⟩,trivial⟩))),aA⟩
   ·obtain rfl:=oJ aA
    try dsimp only[S0,T0]at aG
    exact D2 bW ⟨aT,aZ.length,aU,aZ,(IntKind.i64.wrap (aY+1)),aJ,bA,rfl,rfl,(aH.trans aD),aV,(J0 _),aB,aG⟩
  ·obtain rfl:=oJ aG
   try dsimp only[S0,T0]at aK
   obtain rfl:=oJ aK
   exact⟨aQ,bC.length,aR,rfl,bD,(bV.trans aH)⟩
theorem A0a(h:Hp)(bA:List Value)(p0:j0)(cO:Z0.R h bA p0)(r:K0)(aN:o00 p0=some r):
  Tr Tryz.prog 213 #[.agg bA.toArray] h λv h'=>∃(a0:Option Addr) (n0 c0:Nat),v = .slice a0 n0 c0/\O0.R h' [.slice a0 n0 c0] r/\Sub h h':=by
 obtain⟨aW,aX,bB,cI,bC,aJ,rfl,rfl,aO,aP,aG⟩:=H0 cO
 obtain⟨rfl,cJ⟩:=Sl.len aG
 unfold o00 at aN
 dsimp only at aN
 refine O2 (args:=[.agg #[.int .i64 aW,.int .i64 aX,.slice bB aJ.length bC]]) (fn:=Tryz.f213) rfl ?_
 refine trM aN (X0e _ _ _ (B0 aO aP aG)) ?_
 rintro x1 aN v3 k2 ⟨cT,cU,cV,rfl,cK,bJ⟩
 obtain⟨rfl,cW⟩:=Sl.len cK
 obtain⟨X4,bM,aN⟩:=l0 aN
 refine eX { vars:=[5],boxes:=[],owns:=[0],fuel:=true } (eX (λvs os h'=>∃ u5 bD u6,vs.tail = [.int .i64 u5]/\os = [bD]/\Sub k2 h'/\P0 u5/\F2 (E1.R h') bD u6/\S4 aJ aW aX x1 (I1 vs) u5 u6=some X4) (eX (λ_ _=>0) (aI (eX Q0 ⟨0,[],([]:K0),rfl,rfl,(Sub.refl _),(by decide),(show F2 (E1.R k2) ([]:List (List Value)) ([]:K0) from trivial),bM⟩) ?_)))
 rintro _ bD m8 k7 ⟨u5,cP,u6,⟨⟩,⟨⟩,aY,cX,bE,aA⟩
 replace aA:S4 aJ aW aX x1 m8 u5 u6=some X4:=aA
 obtain _|m8:=m8
 ·cases aA
 rw[S4.eq_2]at aA
 refine trG aA (λq=>g8 _ _ _ (B0 aO aP (O0.mono (bJ.trans aY) aG))) λx9 aA=>?_
 refine ifB aA (λbN aA=>?_) λbN aA=>?_
 ·obtain⟨X11,bF,aA⟩:=l0 aA
  refine eX { vars:=[6,7],boxes:=[],owns:=[],fuel:=true } (eX (λvs os h'=>∃ bG aZ,vs.tail = [.bool bG,.int .i64 aZ]/\os = []/\Sub k7 h'/\P0 aZ/\N5 x1 aJ u5 (I1 vs) bG aZ=some X11) (eX (λ_ _=>0) (aI (eX Q0 ⟨false,0,rfl,rfl,(Sub.refl _),(by decide),bF⟩) ?_)))
  rintro _ _ bK bL ⟨bG,aZ,⟨⟩,⟨⟩,aB,cQ,aH⟩
  replace aH:N5 x1 aJ u5 bK bG aZ=some X11:=aH
  obtain _|bK:=bK
  ·cases aH
  rw[N5.eq_2]at aH
  refine ifB aH (λbO aH=>?_) λbO aH=>?_
  ·refine Or.inl (aI (aI (by kernel_rfl) (by kernel_rfl)) ?_)
   obtain⟨cY,bP,aH⟩:=l0 aH
   obtain⟨cL,bH,bQ⟩:=Sl.getG (r:=E1.toRp) (O0.mono (aY.trans aB) cK) bP (by decide) (i0b bL)
   refine aI (λq=>(bH q).1) ?_
   obtain⟨aQ,aR,aS,rfl,rfl,bR,bS,bT⟩:=N1 bQ
   try dsimp only at aH
   refine eX _ (aI (λq=>(bH q).2) ?_)
   obtain⟨cZ,bU,aH⟩:=l0 aH
   obtain⟨cM,bI,bV⟩:=Sl.getG (r:=E1.toRp) (O0.mono ((bJ.trans aY).trans aB) aG) bU (by decide) (i0b bL)
   refine aI (λq=>(bI q).1) ?_
   obtain⟨aT,aU,aV,rfl,rfl,bW,bX,bY⟩:=N1 bV
   try dsimp only at aH
   refine eX _ (aI (λq=>(bI q).2) ?_)
   refine eX (eqE (aQ,aR,aS) (aT,aU,aV)) (aI (λ_=>(X0c _ _ _ rfl _ _ _ _ _ _)) ?_)
   exact D2 bK ⟨(bif bG then true else(eqE (aQ,aR,aS) (aT,aU,aV))),(IntKind.i64.wrap (aZ+1)),rfl,rfl,aB,(J0 _),aH⟩
  ·obtain rfl:=oJ aH
   try dsimp only[S0,T0]at aA
   refine ifB aA (λbZ aA=>?_) λbZ aA=>?_
   ·refine ld aA (O0.mono ((bJ.trans aY).trans aB) aG) λdA cN cA aA=>?_
    obtain⟨aC,aD,aF,rfl,rfl,aK,aL,aM⟩:=N1 cA
    try dsimp only at aA
    obtain⟨dB,cC,aA⟩:=l0 aA
    refine aI (J1 cC (by first|rw[F2.length (F2.up (r:=E1.toRp) aB bE),F2.length (show F2 (E1.R bL) ([[.int .i64 aC,.int .i64 aD,.int .i64 aF]]:List (List Value)) [(aC,aD,aF)] from⟨(L1 aK aL aM),trivial⟩)]|exact congrArg (·+1) (F2.length (F2.up (r:=E1.toRp) aB bE)))) ?_
    exact D2 m8 ⟨(IntKind.i64.wrap (u5+1)),(bD++([[.int .i64 aC,.int .i64 aD,.int .i64 aF]]:List (List Value))),(u6 ++ [(aC,aD,aF)]),rfl,rfl,(aY.trans aB),(J0 _),(F2.append (F2.up (r:=E1.toRp) aB bE) (show F2 (E1.R bL) ([[.int .i64 aC,.int .i64 aD,.int .i64 aF]]:List (List Value)) [(aC,aD,aF)] from⟨(L1 aK aL aM),trivial⟩)),aA⟩
   ·exact D2 m8 ⟨(IntKind.i64.wrap (u5+1)),bD,u6,rfl,rfl,(aY.trans aB),(J0 _),(F2.up (r:=E1.toRp) aB bE),aA⟩
 ·obtain rfl:=oJ aA
  try dsimp only[S0,T0]at aN
  intro dC dD cR
  obtain⟨cD,cE,rfl,cG,cH,cS⟩:=U0.out (r:=E1.toRp) cR bE
  obtain rfl:=oJ aN
  exact⟨cD,u6.length,cE,rfl,cG,((bJ.trans aY).trans cH)⟩
theorem p0f(h:Hp)(aV:List Value)(p0:j0)(dF:Z0.R h aV p0)(aW:List Value)(p1:M0)(dG:E1.R h aW p1)(r:F0)(aA:q02 p0 p1=some r):
  Tr Tryz.prog 231 #[.agg aV.toArray,.agg aW.toArray] h λv h'=>∃(a0:Option Addr) (n0 c0:Nat),v = .slice a0 n0 c0/\W0.R h' [.slice a0 n0 c0] r/\Sub h h':=by
 obtain⟨cC,cD,aX,cZ,aY,aQ,rfl,rfl,aD,aF,aC⟩:=H0 dF
 obtain⟨rfl,dA⟩:=Sl.len aC
 obtain⟨aJ,aB,aK,rfl,rfl,aM,aG,aN⟩:=N1 dG
 unfold q02 at aA
 dsimp only at aA
 refine O2 (args:=[.agg #[.int .i64 cC,.int .i64 cD,.slice aX aQ.length aY],.agg #[.int .i64 aJ,.int .i64 aB,.int .i64 aK]]) (fn:=Tryz.f231) rfl ?_
 obtain⟨X1,cE,aA⟩:=l0 aA
 refine eX { vars:=[5,6],boxes:=[],owns:=[],fuel:=true } (eX (λvs os h'=>∃ u2 u3,vs.tail = [.bool u2,.int .i64 u3]/\os = []/\Sub h h'/\P0 u3/\d8 aQ aJ aB aK (I1 vs) u2 u3=some X1) (eX (λ_ _=>0) (aI (eX Q0 ⟨false,0,rfl,rfl,(Sub.refl _),(by decide),cE⟩) ?_)))
 rintro _ _ m5 k4 ⟨u2,u3,⟨⟩,⟨⟩,aL,fJ,aH⟩
 replace aH:d8 aQ aJ aB aK m5 u2 u3=some X1:=aH
 obtain _|m5:=m5
 ·cases aH
 rw[d8.eq_2]at aH
 refine ifB aH (λdH aH=>?_) λdH aH=>?_
 ·refine Or.inl (aI (aI (by kernel_rfl) (by kernel_rfl)) ?_)
  obtain⟨x7,dI,aH⟩:=l0 aH
  obtain⟨dJ,dB,dK⟩:=Sl.getG (r:=E1.toRp) (O0.mono aL aC) dI (by decide) (i0b k4)
  refine aI (λq=>(dB q).1) ?_
  obtain⟨aZ,bA,bB,rfl,rfl,dC,dD,dE⟩:=N1 dK
  try dsimp only at aH
  refine eX _ (aI (λq=>(dB q).2) ?_)
  refine eX (eqE (aZ,bA,bB) (aJ,aB,aK)) (aI (λ_=>(X0c _ _ _ rfl _ _ _ _ _ _)) ?_)
  exact D2 m5 ⟨(bif u2 then true else(eqE (aZ,bA,bB) (aJ,aB,aK))),(IntKind.i64.wrap (u3+1)),rfl,rfl,aL,(J0 _),aH⟩
 ·obtain rfl:=oJ aH
  try dsimp only[S0,T0]at aA
  refine trV aA (g8 _ _ _ (B0 aD aF (O0.mono aL aC))) λx8 aA=>?_
  refine ifB aA (λdL aA=>?_) λdL aA=>?_
  ·intro fK fL dM
   obtain⟨cG,cH,rfl,cI,cJ,dN⟩:=U0.out (r:=Wp.int.toRp) dM (show F2 (Wp.int.R k4) ([]:List (List Value)) ([]:F0) from trivial)
   obtain rfl:=oJ aA
   exact⟨cG,(([]:F0)).length,cH,rfl,cI,(aL.trans cJ)⟩
  ·refine Or.inr (Or.inr (Or.inl (aI (aI (by kernel_rfl) (by kernel_rfl)) ?_)))
   refine Or.inr ?_
   refine Or.inr ?_
   refine Or.inr ?_
   refine Or.inr ?_
   refine Or.inr ?_
   refine Or.inr ?_
   refine Or.inr ?_
   refine Or.inr (eX 0 (eX 1 (aI (aI rfl (aI rfl rfl)) ?_)))
   refine aI ?_ ?_
   ·skip
    obtain⟨fM,bC,aA⟩:=l0 aA
    refine Tr.mono (r01 _ _ _ (B0 aD aF (O0.mono aL aC)) _ aM _  bC) ?_
    rintro fN cK ⟨bC,dO,dP,rfl,aR⟩
    have dQ:Sub k4 cK:=aR.sub
    have cL:=aR.r
    obtain⟨rfl,dR⟩:=Sl.len cL
    refine aI trivial (aI (by first|exact trivial|exact rfl) ?_)
    refine aI trivial (aI (by first|exact trivial|exact rfl) ?_)
    obtain⟨fO,cM,aA⟩:=l0 aA
    obtain⟨bD,bE,aO,bF⟩:=New.app aR (Sub.refl _)
    refine eX bD (aI bE (aI (J1 cM (by first|rw[aO,F2.length (show F2 (Wp.int.R cK) ([[.int .i64 aB]]:List (List Value)) [aB] from⟨⟨rfl,aG⟩,trivial⟩)]|(rw[aO];rfl))) ?_))
    intro dS cN happz18
    obtain⟨aS,dT,dU,dV,dW,rfl⟩:=bF _ _ _ _ _ (F3.ofPlain (B04 _) (show F2 (Wp.int.R cK) ([[.int .i64 aB]]:List (List Value)) [aB] from⟨⟨rfl,aG⟩,trivial⟩)) K6.ofPlain happz18
    have bG:=aS.r
    obtain⟨cO,dX⟩:=Sl.len bG
    subst cO
    refine aI trivial (aI (by first|exact trivial|exact rfl) ?_)
    obtain⟨fP,bH,aA⟩:=l0 aA
    refine Tr.mono (r01 _ _ _ (B0 aD aF (O0.mono (aL.trans aS.sub) aC)) _ aN _  bH) ?_
    rintro fQ dY ⟨bH,dZ,eA,rfl,bI⟩
    have bJ:Sub cN dY:=bI.sub
    have bK:=bI.r
    obtain⟨rfl,eC⟩:=Sl.len bK
    refine aI trivial (aI (by first|exact trivial|exact rfl) ?_)
    refine trM aA (k05 _ _ _ _ _ bK) ?_
    rintro fR aA fS fT ⟨eD,eE,eF,rfl,bL,bM⟩
    obtain⟨rfl,eG⟩:=Sl.len bL
    refine aI trivial (aI (by first|exact trivial|exact rfl) ?_)
    refine trM aA (H03 _ _ _ _ _ (W0.mono (bJ.trans bM) bG) _ _ _ _ bL) ?_
    rintro eH aA fU fV ⟨cP,eI,cQ,rfl,bN,cR⟩
    obtain⟨rfl,eJ⟩:=Sl.len bN
    refine aI trivial (aI (by first|exact trivial|exact rfl) ?_)
    refine aI trivial (aI (by first|exact trivial|exact rfl) ?_)
    obtain rfl:=oJ aA
    exact⟨cP,eH.length,cQ,rfl,bN,((((aL.trans aS.sub).trans bJ).trans bM).trans cR)⟩
   ·skip
    refine aI trivial (aI (by first|exact trivial|exact rfl) ?_)
    obtain⟨fW,bO,aA⟩:=l0 aA
    refine Tr.mono (r01 _ _ _ (B0 aD aF (O0.mono aL aC)) _ aM _  bO) ?_
    rintro fX eK ⟨bO,eM,eN,rfl,aT⟩
    have bP:Sub k4 eK:=aT.sub
    have cS:=aT.r
    obtain⟨rfl,eO⟩:=Sl.len cS
    refine aI trivial (aI (by first|exact trivial|exact rfl) ?_)
    obtain⟨fY,cT,aA⟩:=l0 aA
    obtain⟨bQ,bR,aP,bS⟩:=New.app aT (Sub.refl _)
    refine eX bQ (aI bR (aI (J1 cT (by first|rw[aP,F2.length (F2.up (r:=Wp.int.toRp) bP (show F2 (Wp.int.R k4) ([[.int .i64 aB]]:List (List Value)) [aB] from⟨⟨rfl,aG⟩,trivial⟩))]|(rw[aP];rfl))) ?_))
    intro eP cU happz32
    obtain⟨aU,eQ,eR,eT,eU,rfl⟩:=bS _ _ _ _ _ (F3.ofPlain (B04 _) (F2.up (r:=Wp.int.toRp) bP (show F2 (Wp.int.R k4) ([[.int .i64 aB]]:List (List Value)) [aB] from⟨⟨rfl,aG⟩,trivial⟩))) K6.ofPlain happz32
    have bT:=aU.r
    obtain⟨cV,eV⟩:=Sl.len bT
    subst cV
    refine aI trivial (aI (by first|exact trivial|exact rfl) ?_)
    obtain⟨fZ,bU,aA⟩:=l0 aA
    refine Tr.mono (r01 _ _ _ (B0 aD aF (O0.mono (aL.trans aU.sub) aC)) _ aN _  bU) ?_
    rintro gA eW ⟨bU,eY,eZ,rfl,bV⟩
    have bW:Sub cU eW:=bV.sub
    have bX:=bV.r
    obtain⟨rfl,fA⟩:=Sl.len bX
    refine aI trivial (aI (by first|exact trivial|exact rfl) ?_)
    refine trM aA (k05 _ _ _ _ _ bX) ?_
    rintro gB aA gC gD ⟨fB,fC,fD,rfl,bY,bZ⟩
    obtain⟨rfl,fE⟩:=Sl.len bY
    refine aI trivial (aI (by first|exact trivial|exact rfl) ?_)
    refine trM aA (H03 _ _ _ _ _ (W0.mono (bW.trans bZ) bT) _ _ _ _ bY) ?_
    rintro fF aA gE gF ⟨cW,fG,cX,rfl,cA,cY⟩
    obtain⟨rfl,fH⟩:=Sl.len cA
    refine aI trivial (aI (by first|exact trivial|exact rfl) ?_)
    refine aI trivial (aI (by first|exact trivial|exact rfl) ?_)
    obtain rfl:=oJ aA
    exact⟨cW,fF.length,cX,rfl,cA,((((aL.trans aU.sub).trans bW).trans bZ).trans cY)⟩
theorem H07(h:Hp)(aV:List Value)(p0:j0)(cH:Z0.R h aV p0)(r:E2)(aB:Y9 p0=some r):
  Tr Tryz.prog 123 #[.agg aV.toArray] h λv h'=>∃(a0:Option Addr) (n0 c0:Nat),v = .slice a0 n0 c0/\l9.R h' [.slice a0 n0 c0] r/\Sub h h':=by
 obtain⟨aL,aM,aW,bZ,aX,aN,rfl,rfl,aF,aG,aC⟩:=H0 cH
 obtain⟨rfl,cA⟩:=Sl.len aC
 unfold Y9 at aB
 dsimp only at aB
 refine O2 (args:=[.agg #[.int .i64 aL,.int .i64 aM,.slice aW aN.length aX]]) (fn:=Tryz.f123) rfl ?_
 refine trV aB (O7 _ _ _ (B0 aF aG aC)) λx1 aB=>?_
 refine ifB aB (λcI aB=>?_) λcI aB=>?_
 ·intro v3 k4 f5
  obtain⟨cJ,cK,rfl,cL,cM,dA⟩:=U0.out (r:=W0.toRp) f5 (show F2 (W0.R h) ([]:List (List Value)) ([]:E2) from trivial)
  obtain rfl:=oJ aB
  exact⟨cJ,(([]:E2)).length,cK,rfl,cL,cM⟩
 ·refine trM aB (A0a _ _ _ (B0 aF aG aC)) ?_
  rintro x7 aB v9 k8 ⟨cN,dB,cO,rfl,cC,bG⟩
  obtain⟨rfl,dC⟩:=Sl.len cC
  obtain⟨X10,aY,aB⟩:=l0 aB
  refine eX { vars:=[5],boxes:=[],owns:=[0],fuel:=true } (eX (λvs os h'=>∃ aO aH aU,vs.tail = [.int .i64 aO]/\os = [aH]/\Sub k8 h'/\P0 aO/\F2 (W0.R h') aH aU/\D7 x7 aL aM aN (I1 vs) aO aU=some X10) (eX (λ_ _=>0) (aI (eX Q0 ⟨0,[],([]:E2),rfl,rfl,(Sub.refl _),(by decide),(F2.up (r:=W0.toRp) bG (show F2 (W0.R h) ([]:List (List Value)) ([]:E2) from trivial)),aY⟩) ?_)))
  rintro _ aH bE dD ⟨aO,cD,aU,⟨⟩,⟨⟩,aJ,cP,aK,aA⟩
  replace aA:D7 x7 aL aM aN bE aO aU=some X10:=aA
  obtain _|bE:=bE
  ·cases aA
  rw[D7.eq_2]at aA
  refine ifB aA (λbH aA=>?_) λbH aA=>?_
  ·refine Or.inr (Or.inr (Or.inr (Or.inl (aI (aI (by kernel_rfl) (by kernel_rfl)) ?_))))
   obtain⟨dE,bI,aA⟩:=l0 aA
   obtain⟨bJ,cE,bK,bL⟩:=Sl.getI (r:=E1.toRp) (O0.mono aJ cC) bI (by decide)
   obtain⟨aZ,bA,bB,rfl,rfl,aP,aQ,aR⟩:=N1 bL
   try dsimp only at aA
   refine Or.inl (eX (.hel (.slice cN x7.length cO) aO 3 0) (aI ?_ ?_))
   ·intro dF dG
    exact aI bJ (aI rfl (aI rfl rfl))
   refine Or.inl (eX (.agg [.val (.int .i64 aZ),.val (.int .i64 bA),.val (.int .i64 bB)]) (aI ?_ ?_))
   ·intro dH cQ
    exact eX _ (aI (d00.up cQ bK) (aI rfl (aI rfl rfl)))
   obtain⟨aD,bM,aA⟩:=l0 aA
   refine Or.inr (eX (λv hh=>∃(a:Option Addr) (c:Nat),v = .slice a aD.length c/\W0.R hh [.slice a aD.length c] aD/\aD.length<=9223372036854775807) (aI (λv h1 h2 sb q=>by obtain⟨a,c,e,r,l⟩:=q;exact⟨a,c,e,W0.mono sb r,l⟩) (aI ?_ ?_)))
   ·intro dI cR
    refine Tr.mono (p0f _ _ _ (B0 aF aG (O0.mono ((bG.trans aJ).trans cR) aC)) _ _ (L1 aP aQ aR) _ bM) ?_
    rintro _ kk ⟨bN,cS,bO,rfl,bC,sb⟩
    obtain⟨rfl,bP⟩:=Sl.len bC
    exact aI Y02 (aI sb ⟨bN,bO,rfl,bC,bP⟩)
   refine Or.inr (eX (λv hh=>∃(a:Option Addr) (c:Nat),v = .slice a aD.length c/\W0.R hh [.slice a aD.length c] aD/\aD.length<=9223372036854775807) (aI (λv h1 h2 sb q=>by obtain⟨a,c,e,r,l⟩:=q;exact⟨a,c,e,W0.mono sb r,l⟩) (aI ?_ ?_)))
   ·intro dJ dK
    rintro _ ⟨bQ,bR,rfl,bS,bT⟩
    exact aI Y02 (aI (Sub.refl _) ⟨bQ,bR,rfl,bS,bT⟩)
   intro cG bF
   rintro _ ⟨aS,aT,rfl,bD,cT⟩
   rintro _ ⟨cU,cV,rfl,cW,cX⟩
   obtain⟨dL,bU,aA⟩:=l0 aA
   refine aI (J1 bU (by first|rw[F2.length (F2.up (r:=W0.toRp) bF aK),F2.length (show F2 (W0.R cG) ([[.slice aS aD.length aT]]:List (List Value)) [aD] from⟨bD,trivial⟩)]|exact congrArg (·+1) (F2.length (F2.up (r:=W0.toRp) bF aK)))) ?_
   exact D2 bE ⟨(IntKind.i64.wrap (aO+1)),(aH++([[.slice aS aD.length aT]]:List (List Value))),(aU ++ [aD]),rfl,rfl,(aJ.trans bF),(J0 _),(F2.append (F2.up (r:=W0.toRp) bF aK) (show F2 (W0.R cG) ([[.slice aS aD.length aT]]:List (List Value)) [aD] from⟨bD,trivial⟩)),aA⟩
  ·obtain rfl:=oJ aA
   try dsimp only[S0,T0]at aB
   intro dM dN cY
   obtain⟨bV,bW,rfl,bX,bY,cZ⟩:=U0.out (r:=W0.toRp) cY aK
   obtain rfl:=oJ aB
   exact⟨bV,aU.length,bW,rfl,bX,((bG.trans aJ).trans bY)⟩
theorem q0f(h:Hp)(aC:List Value)(p0:j0)(aO:Z0.R h aC p0)(r:Int)(aA:x01 p0=some r):
  Tr Tryz.prog 117 #[.agg aC.toArray] h λv h'=>v = .int .i64 r/\h'=h:=by
 obtain⟨aJ,aK,aD,aM,aF,aL,rfl,rfl,aG,aH,aB⟩:=H0 aO
 obtain⟨rfl,aN⟩:=Sl.len aB
 unfold x01 at aA
 dsimp only at aA
 refine Tr.forget (O2 (args:=[.agg #[.int .i64 aJ,.int .i64 aK,.slice aD aL.length aF]]) (fn:=Tryz.f117) rfl ?_)
 refine trV aA (O7 _ _ _ (B0 aG aH aB)) λx1 aA=>?_
 refine ifB aA (λaP aA=>?_) λaP aA=>?_
 ·obtain rfl:=oJ aA
  exact aI rfl (Sub.refl _)
 ·obtain rfl:=oJ aA
  exact aI rfl (Sub.refl _)
theorem I07(h:Hp)(aC:List Value)(p0:j0)(aO:Z0.R h aC p0)(r:Int)(aA:N00 p0=some r):
  Tr Tryz.prog 118 #[.agg aC.toArray] h λv h'=>v = .int .i64 r/\h'=h:=by
 obtain⟨aJ,aK,aD,aM,aF,aL,rfl,rfl,aG,aH,aB⟩:=H0 aO
 obtain⟨rfl,aN⟩:=Sl.len aB
 unfold N00 at aA
 dsimp only at aA
 refine Tr.forget (O2 (args:=[.agg #[.int .i64 aJ,.int .i64 aK,.slice aD aL.length aF]]) (fn:=Tryz.f118) rfl ?_)
 refine trV aA (U01 _ _ _ (B0 aG aH aB)) λx1 aA=>?_
 refine ifB aA (λaP aA=>?_) λaP aA=>?_
 ·obtain rfl:=oJ aA
  exact aI rfl (Sub.refl _)
 ·obtain rfl:=oJ aA
  exact aI rfl (Sub.refl _)
theorem q09(h:Hp)(bC:List Value)(p0:j0)(dB:Z0.R h bC p0)(r:F0)(aN:Z9 p0=some r):
  Tr Tryz.prog 229 #[.agg bC.toArray] h λv h'=>∃(a0:Option Addr) (n0 c0:Nat),v = .slice a0 n0 c0/\W0.R h' [.slice a0 n0 c0] r/\Sub h h':=by
 obtain⟨aC,aA,aF,cT,aG,aD,rfl,rfl,aL,aM,aH⟩:=H0 dB
 obtain⟨rfl,cU⟩:=Sl.len aH
 unfold Z9 at aN
 dsimp only at aN
 refine O2 (args:=[.agg #[.int .i64 aC,.int .i64 aA,.slice aF aD.length aG]]) (fn:=Tryz.f229) rfl ?_
 refine trV aN (O7 _ [.int .i64 aC,.int .i64 aA,.slice aF aD.length aG] (aC,aA,aD) (B0 aL aM aH)) λx1 aN=>?_
 refine ifB aN (λdC aN=>?_) λdC aN=>?_
 ·intro v3 k4 f5
  obtain⟨dD,dE,rfl,dF,dG,dX⟩:=U0.out (r:=Wp.int.toRp) f5 (show F2 (Wp.int.R h) ([]:List (List Value)) ([]:F0) from trivial)
  obtain rfl:=oJ aN
  exact⟨dD,(([]:F0)).length,dE,rfl,dF,dG⟩
 ·obtain⟨q7,dH,aN⟩:=l0 aN
  refine aI (I0 dH) ?_
  obtain⟨X8,bI,aN⟩:=l0 aN
  refine eX { vars:=[5],boxes:=[],owns:=[0,1],fuel:=true,kept:=[1] } (eX (λvs os h'=>∃ u9 aQ aU aO aZ,vs.tail = [.int .i64 u9]/\os = [aQ,aO]/\Sub h h'/\P0 u9/\F2 (Wp.int.R h') aQ aU/\F2 (Wp.bool.R h') aO aZ/\W3 aA aC aD (I1 vs) u9 aU aZ=some X8) (eX (λ_ _=>0) (aI (eX Q0 ⟨0,[],([]:F0),(List.replicate (IntKind.i64.wrap (aA*aA)).toNat ([.bool false]:List Value)),(List.replicate (IntKind.i64.wrap (aA*aA)).toNat (false:Bool)),rfl,rfl,(Sub.refl _),(by decide),(show F2 (Wp.int.R h) ([]:List (List Value)) ([]:F0) from trivial),(F2.rep (p:=Wp.bool.R h) (a:=[.bool false]) (b:=false) rfl ((IntKind.i64.wrap (aA*aA)).toNat)),bI⟩) ?_)))
  rintro _ aQ aO bD dY ⟨u9,cV,aU,cW,aZ,⟨⟩,⟨⟩,aV,dI,aR,aT,aB⟩
  replace aB:W3 aA aC aD bD u9 aU aZ=some X8:=aB
  obtain _|bD:=bD
  ·cases aB
  rw[W3.eq_2]at aB
  obtain⟨dJ,bJ,aB⟩:=l0 aB
  obtain rfl:aO.length=dJ:=(F2.length aT).trans (oJ bJ)
  obtain⟨dZ,dK,aB⟩:=l0 aB
  refine ifB aB (λbK aB=>?_) λbK aB=>?_
  ·refine Or.inl (aI (aI (by kernel_rfl) (by kernel_rfl)) ?_)
   obtain⟨eA,bL,aB⟩:=l0 aB
   obtain⟨bM,cX,bN,bO⟩:=P1 aT bL
   refine aI bM ?_
   obtain rfl:=bO
   refine eX _ (aI bN ?_)
   obtain⟨eC,bP,aB⟩:=l0 aB
   refine aI (λq=>I0 (I7 bP q)) ?_
   obtain⟨eD,bQ,aB⟩:=l0 aB
   refine aI (λq=>I0 (I7 bQ q)) ?_
   refine ifB aB (λbR aB=>?_) λbR aB=>?_
   ·exact D2 bD ⟨(IntKind.i64.wrap (u9+1)),aQ,aU,aO,aZ,rfl,rfl,aV,(J0 _),aR,aT,aB⟩
   ·refine Or.inr (Or.inr (Or.inr (Or.inl (aI (aI (by kernel_rfl) (by kernel_rfl)) ?_))))
    obtain⟨eE,bS,aB⟩:=l0 aB
    refine Or.inl (eX (.val (.int .i64 (IntKind.i64.wrap (Int.tdiv u9 aA)))) (aI ?_ ?_))
    ·intro eF eG
     exact aI (I0 bS) (aI rfl (aI rfl rfl))
    obtain⟨eH,bT,aB⟩:=l0 aB
    refine Or.inl (eX (.val (.int .i64 (Int.tmod u9 aA))) (aI ?_ ?_))
    ·intro eI eJ
     exact aI (I0 bT) (aI rfl (aI rfl rfl))
    obtain⟨aK,bU,aB⟩:=l0 aB
    refine Or.inr (eX (λv hh=>∃(a:Option Addr) (c:Nat),v = .slice a aK.length c/\W0.R hh [.slice a aK.length c] aK/\aK.length<=9223372036854775807) (aI (λv h1 h2 sb q=>by obtain⟨a,c,e,r,l⟩:=q;exact⟨a,c,e,W0.mono sb r,l⟩) (aI ?_ ?_)))
    ·intro eK cY
     refine Tr.mono (y0c _ [.int .i64 aC,.int .i64 aA,.slice aF aD.length aG] (aC,aA,aD) (B0 aL aM (O0.mono (aV.trans cY) aH)) [.int .i64 aC,.int .i64 aA,.slice aF aD.length aG] (aC,aA,aD) (B0 aL aM (O0.mono (aV.trans cY) aH)) (IntKind.i64.wrap (Int.tdiv u9 aA)) (J0 _) (Int.tmod u9 aA) (u0k dI) _ bU) ?_
     rintro _ kk ⟨bV,dL,bW,rfl,bE,sb⟩
     obtain⟨rfl,bX⟩:=Sl.len bE
     exact aI Y02 (aI sb ⟨bV,bW,rfl,bE,bX⟩)
    refine Or.inr (eX (λv hh=>∃(a:Option Addr) (c:Nat),v = .slice a aK.length c/\W0.R hh [.slice a aK.length c] aK/\aK.length<=9223372036854775807) (aI (λv h1 h2 sb q=>by obtain⟨a,c,e,r,l⟩:=q;exact⟨a,c,e,W0.mono sb r,l⟩) (aI ?_ ?_)))
    ·intro eM eN
     rintro _ ⟨bY,bZ,rfl,cA,cC⟩
     exact aI Y02 (aI (Sub.refl _) ⟨bY,bZ,rfl,cA,cC⟩)
    intro dM aW
    rintro _ ⟨cD,cE,rfl,bF,dN⟩
    rintro _ ⟨dO,dP,rfl,dQ,dR⟩
    obtain⟨X37,bG,aB⟩:=l0 aB
    refine eX { vars:=[7],boxes:=[],owns:=[1],fuel:=true,kept:=[1] } (eX (λvs os h'=>∃ bA aS bB,vs.tail = [.int .i64 bA]/\os = [aS]/\Sub dM h'/\P0 bA/\F2 (Wp.bool.R h') aS bB/\s5 aK (I1 vs) bA bB=some X37) (eX (λ_ _=>0) (aI (eX Q0 ⟨0,aO,aZ,rfl,rfl,(Sub.refl _),(by decide),(F2.up (r:=Wp.bool.toRp) aW aT),bG⟩) ?_)))
    rintro _ aS bH cG ⟨bA,cZ,bB,⟨⟩,⟨⟩,aJ,dS,aX,aP⟩
    replace aP:s5 aK bH bA bB=some X37:=aP
    obtain _|bH:=bH
    ·cases aP
    rw[s5.eq_2]at aP
    refine ifB aP (λcH aP=>?_) λcH aP=>?_
    ·refine ldI aP (W0.mono aJ bF) λcI dT aP=>?_
     obtain⟨eO,cJ,aP⟩:=l0 aP
     obtain⟨cK,dA,cL,cM⟩:=P1 aX cJ
     refine aI cK ?_
     obtain rfl:=cM
     refine eX _ (aI cL ?_)
     exact D2 bH ⟨(IntKind.i64.wrap (bA+1)),(aS.set cI.toNat [.bool true]),(bB.set cI.toNat true),rfl,rfl,aJ,(J0 _),(F2.set (p:=Wp.bool.R cG) (a:=[.bool true]) (b:=true) rfl cI.toNat aX),aP⟩
    ·obtain rfl:=oJ aP
     try dsimp only[S0,T0]at aB
     refine trV aB (z0c _ [.int .i64 aC,.int .i64 aA,.slice aF aD.length aG] (aC,aA,aD) (B0 aL aM (O0.mono ((aV.trans aW).trans aJ) aH)) [.int .i64 aC,.int .i64 aA,.slice aF aD.length aG] (aC,aA,aD) (B0 aL aM (O0.mono ((aV.trans aW).trans aJ) aH)) cD aK.length cE aK (W0.mono aJ bF)) λaY aB=>?_
     obtain⟨eP,cN,aB⟩:=l0 aB
     have dU:P0 aY:=I0 cN
     obtain⟨eQ,cO,aB⟩:=l0 aB
     refine aI (J1 cO (by first|rw[F2.length (F2.up (r:=Wp.int.toRp) (aW.trans aJ) aR),F2.length (show F2 (Wp.int.R cG) ([[.int .i64 (IntKind.i64.wrap ((IntKind.i64.wrap (aY-((aK.length:Nat):Int)))+1))]]:List (List Value)) [(IntKind.i64.wrap ((IntKind.i64.wrap (aY-((aK.length:Nat):Int)))+1))] from⟨⟨rfl,(J0 _)⟩,trivial⟩)]|exact congrArg (·+1) (F2.length (F2.up (r:=Wp.int.toRp) (aW.trans aJ) aR)))) ?_
     exact D2 bD ⟨(IntKind.i64.wrap (u9+1)),(aQ++([[.int .i64 (IntKind.i64.wrap ((IntKind.i64.wrap (aY-((aK.length:Nat):Int)))+1))]]:List (List Value))),(aU ++ [(IntKind.i64.wrap ((IntKind.i64.wrap (aY-((aK.length:Nat):Int)))+1))]),aS,bB,rfl,rfl,((aV.trans aW).trans aJ),(J0 _),(F2.append (F2.up (r:=Wp.int.toRp) (aW.trans aJ) aR) (show F2 (Wp.int.R cG) ([[.int .i64 (IntKind.i64.wrap ((IntKind.i64.wrap (aY-((aK.length:Nat):Int)))+1))]]:List (List Value)) [(IntKind.i64.wrap ((IntKind.i64.wrap (aY-((aK.length:Nat):Int)))+1))] from⟨⟨rfl,(J0 _)⟩,trivial⟩)),aX,aB⟩
  ·obtain rfl:=oJ aB
   try dsimp only[S0,T0]at aN
   intro eR eT dV
   obtain⟨cP,cQ,rfl,cR,cS,dW⟩:=U0.out (r:=Wp.int.toRp) dV aR
   obtain rfl:=oJ aN
   exact⟨cP,aU.length,cQ,rfl,cR,(aV.trans cS)⟩
theorem O04(h:Hp)(aM:List Value)(p0:j0)(aU:Z0.R h aM p0)(r:Bool)(aB:A8 p0=some r):
  Tr Tryz.prog 121 #[.agg aM.toArray] h λv h'=>v = .bool r/\h'=h:=by
 obtain⟨aJ,aK,aD,aR,aF,aL,rfl,rfl,aG,aH,aC⟩:=H0 aU
 obtain⟨rfl,aS⟩:=Sl.len aC
 unfold A8 at aB
 dsimp only at aB
 refine Tr.forget (O2 (args:=[.agg #[.int .i64 aJ,.int .i64 aK,.slice aD aL.length aF]]) (fn:=Tryz.f121) rfl ?_)
 refine trM aB (q09 _ _ _ (B0 aG aH aC)) ?_
 rintro x1 aB v3 k2 ⟨aW,aX,aY,rfl,aT,aO⟩
 obtain⟨rfl,aZ⟩:=Sl.len aT
 obtain⟨X4,aP,aB⟩:=l0 aB
 refine eX { vars:=[4],boxes:=[],owns:=[],fuel:=true } (eX (λvs os h'=>∃ u5,vs.tail = [.int .i64 u5]/\os = []/\Sub k2 h'/\P0 u5/\w5 x1 (I1 vs) u5=some X4) (eX (λ_ _=>0) (aI (eX Q0 ⟨0,rfl,rfl,(Sub.refl _),(by decide),aP⟩) ?_)))
 rintro _ m7 k6 ⟨u5,⟨⟩,⟨⟩,aN,bA,aA⟩
 replace aA:w5 x1 m7 u5=some X4:=aA
 obtain _|m7:=m7
 ·cases aA
 rw[w5.eq_2]at aA
 refine ifB aA (λaV aA=>?_) λaV aA=>?_
 ·refine ldI aA (W0.mono aN aT) λx9 bB aA=>?_
  refine ifB aA (λaQ aA=>?_) λaQ aA=>?_
  ·obtain rfl:=oJ aA
   try dsimp only[n5,G5]at aB
   obtain rfl:=oJ aB
   exact aI rfl (aO.trans aN)
  ·exact D2 m7 ⟨(IntKind.i64.wrap (u5+1)),rfl,rfl,aN,(J0 _),aA⟩
 ·obtain rfl:=oJ aA
  try dsimp only[S0,T0]at aB
  refine trV aB (O7 _ [.int .i64 aJ,.int .i64 aK,.slice aD aL.length aF] (aJ,aK,aL) (B0 aG aH (O0.mono (aO.trans aN) aC))) λbC aB=>?_
  obtain rfl:=oJ aB
  exact aI rfl (aO.trans aN)
theorem o08(h:Hp)(aL:List Value)(p0:j0)(dB:Z0.R h aL p0)(r:ByteArray)(aA:w9 p0=some r):
  Tr Tryz.prog 46 #[.agg aL.toArray] h λv h'=>v = .string r/\h'=h:=by
 obtain⟨aC,aB,aJ,cO,aK,aD,rfl,rfl,aH,aF,aG⟩:=H0 dB
 obtain⟨rfl,cP⟩:=Sl.len aG
 unfold w9 at aA
 dsimp only at aA
 refine Tr.forget (O2 (args:=[.agg #[.int .i64 aC,.int .i64 aB,.slice aJ aD.length aK]]) (fn:=Tryz.f46) rfl ?_)
 refine trV aA (O7 _ [.int .i64 aC,.int .i64 aB,.slice aJ aD.length aK] (aC,aB,aD) (B0 aH aF aG)) λx1 aA=>?_
 refine ifB aA (λdC aA=>?_) λdC aA=>?_
 ·obtain rfl:=oJ aA
  exact aI rfl (Sub.refl _)
 ·refine Or.inl (aI (aI (by kernel_rfl) (by kernel_rfl)) ?_)
  obtain⟨x3,dD,aA⟩:=l0 aA
  refine eX (.int .i64 x3) (aI (q0f _ [.int .i64 aC,.int .i64 aB,.slice aJ aD.length aK] (aC,aB,aD) (B0 aH aF aG) _  dD) ?_)
  obtain⟨q4,dE,aA⟩:=l0 aA
  have dF:P0 x3:=I0 dE
  obtain⟨x5,dG,aA⟩:=l0 aA
  refine eX (.string x5) (aI (j03 _ x3 dF _  dG) ?_)
  obtain⟨q6,dH,aA⟩:=l0 aA
  have eE:x5.size<=9223372036854775807:=I0 dH
  obtain⟨q7,dI,aA⟩:=l0 aA
  have dJ:=I0 dI
  refine aI dJ ?_
  obtain⟨q8,dK,aA⟩:=l0 aA
  have dL:=I0 dK
  refine aI dL ?_
  obtain⟨x9,dM,aA⟩:=l0 aA
  refine eX (.string x9) (aI (j03 _ aB aF _  dM) ?_)
  obtain⟨eF,aO,aA⟩:=l0 aA
  have eG:x9.size<=9223372036854775807:=I0 aO
  obtain⟨eH,aP,aA⟩:=l0 aA
  have aQ:=I0 aP
  refine aI aQ ?_
  obtain⟨eI,aR,aA⟩:=l0 aA
  have aS:=I0 aR
  refine aI aS ?_
  refine trV aA (I07 _ [.int .i64 aC,.int .i64 aB,.slice aJ aD.length aK] (aC,aB,aD) (B0 aH aF aG)) λdN aA=>?_
  obtain⟨eJ,aT,aA⟩:=l0 aA
  have dO:P0 dN:=I0 aT
  refine ifB aA (λaU aA=>?_) λaU aA=>?_
  ·refine trV aA (I07 _ [.int .i64 aC,.int .i64 aB,.slice aJ aD.length aK] (aC,aB,aD) (B0 aH aF aG)) λcQ aA=>?_
   obtain⟨eK,aV,aA⟩:=l0 aA
   have aW:P0 cQ:=I0 aV
   refine trV aA (j03 _ cQ aW) λdP aA=>?_
   obtain⟨eM,aX,aA⟩:=l0 aA
   have dQ:dP.size<=9223372036854775807:=I0 aX
   obtain⟨eN,aY,aA⟩:=l0 aA
   have aZ:=I0 aY
   refine aI aZ ?_
   refine Or.inl (aI (aI (by kernel_rfl) (by kernel_rfl)) ?_)
   obtain⟨cR,bA,aA⟩:=l0 aA
   refine eX (.bool cR) (aI (L06 _ [.int .i64 aC,.int .i64 aB,.slice aJ aD.length aK] (aC,aB,aD) (B0 aH aF aG) _  bA) ?_)
   obtain⟨cS,bB,aA⟩:=l0 aA
   refine eX (.string cS) (aI (p03 _ cR (⟨#[32,110,111,114,109,97,108]⟩:ByteArray) (by decide) _  bB) ?_)
   obtain⟨eO,bC,aA⟩:=l0 aA
   have dR:cS.size<=9223372036854775807:=I0 bC
   obtain⟨eP,bD,aA⟩:=l0 aA
   have bE:=I0 bD
   refine aI bE ?_
   obtain⟨cT,bF,aA⟩:=l0 aA
   refine eX (.bool cT) (aI (O04 _ _ _ (B0 aH aF aG) _  bF) ?_)
   obtain⟨cU,bG,aA⟩:=l0 aA
   refine eX (.string cU) (aI (p03 _ cT (⟨#[32,109,97,108,110,111,114,109,97,108]⟩:ByteArray) (by decide) _  bG) ?_)
   obtain⟨eQ,bH,aA⟩:=l0 aA
   have dS:cU.size<=9223372036854775807:=I0 bH
   obtain⟨eR,bI,aA⟩:=l0 aA
   have bJ:=I0 bI
   refine aI bJ ?_
   obtain⟨eT,bK,aA⟩:=l0 aA
   have bL:=I0 bK
   refine aI bL ?_
   refine trM aA (H07 _ [.int .i64 aC,.int .i64 aB,.slice aJ aD.length aK] (aC,aB,aD) (B0 aH aF aG)) ?_
   rintro cV aA eU eV ⟨bM,dT,bN,rfl,aM,bO⟩
   obtain⟨rfl,dU⟩:=Sl.len aM
   refine trV aA (M04 _ bM cV.length bN cV aM) λdV aA=>?_
   obtain⟨eW,bP,aA⟩:=l0 aA
   have dW:dV.size<=9223372036854775807:=I0 bP
   obtain⟨eY,bQ,aA⟩:=l0 aA
   have bR:=I0 bQ
   refine aI bR ?_
   obtain rfl:=oJ aA
   exact aI rfl bO
  ·obtain⟨eZ,bS,aA⟩:=l0 aA
   have bT:=I0 bS
   refine aI bT ?_
   refine Or.inl (aI (aI (by kernel_rfl) (by kernel_rfl)) ?_)
   obtain⟨cW,bU,aA⟩:=l0 aA
   refine eX (.bool cW) (aI (L06 _ [.int .i64 aC,.int .i64 aB,.slice aJ aD.length aK] (aC,aB,aD) (B0 aH aF aG) _  bU) ?_)
   obtain⟨cX,bV,aA⟩:=l0 aA
   refine eX (.string cX) (aI (p03 _ cW (⟨#[32,110,111,114,109,97,108]⟩:ByteArray) (by decide) _  bV) ?_)
   obtain⟨fA,bW,aA⟩:=l0 aA
   have dX:cX.size<=9223372036854775807:=I0 bW
   obtain⟨fB,bX,aA⟩:=l0 aA
   have bY:=I0 bX
   refine aI bY ?_
   obtain⟨cY,bZ,aA⟩:=l0 aA
   refine eX (.bool cY) (aI (O04 _ _ _ (B0 aH aF aG) _  bZ) ?_)
   obtain⟨cZ,cA,aA⟩:=l0 aA
   refine eX (.string cZ) (aI (p03 _ cY (⟨#[32,109,97,108,110,111,114,109,97,108]⟩:ByteArray) (by decide) _  cA) ?_)
   obtain⟨fC,cC,aA⟩:=l0 aA
   have dY:cZ.size<=9223372036854775807:=I0 cC
   obtain⟨fD,cD,aA⟩:=l0 aA
   have cE:=I0 cD
   refine aI cE ?_
   obtain⟨fE,cG,aA⟩:=l0 aA
   have cH:=I0 cG
   refine aI cH ?_
   refine trM aA (H07 _ [.int .i64 aC,.int .i64 aB,.slice aJ aD.length aK] (aC,aB,aD) (B0 aH aF aG)) ?_
   rintro dA aA fF fG ⟨cI,dZ,cJ,rfl,aN,cK⟩
   obtain⟨rfl,eA⟩:=Sl.len aN
   refine trV aA (M04 _ cI dA.length cJ dA aN) λeC aA=>?_
   obtain⟨fH,cL,aA⟩:=l0 aA
   have eD:eC.size<=9223372036854775807:=I0 cL
   obtain⟨fJ,cM,aA⟩:=l0 aA
   have cN:=I0 cM
   refine aI cN ?_
   obtain rfl:=oJ aA
   exact aI rfl cK
theorem N9(h:Hp)(aB:List Value)(p0:j0)(aQ:Z0.R h aB p0)(r:j0)(aC:J5 p0=some r):
  Tr Tryz.prog 137 #[.agg aB.toArray] h λv h'=>∃(g0:Nat) (n0 c0:Nat),v = .agg ([.int .i64 r.1,.int .i64 r.2.1,.slice (some ⟨g0,0,none⟩) n0 c0]:List Value).toArray/\New Z0 h h' [.int .i64 r.1,.int .i64 r.2.1,.slice (some ⟨g0,0,none⟩) n0 c0] r:=by
 obtain⟨aK,aL,aD,aO,aF,aG,rfl,rfl,aH,aJ,aA⟩:=H0 aQ
 obtain⟨rfl,aP⟩:=Sl.len aA
 unfold J5 at aC
 dsimp only at aC
 refine O2 (args:=[.agg #[.int .i64 aK,.int .i64 aL,.slice aD aG.length aF]]) (fn:=Tryz.f137) rfl ?_
 refine Or.inr (Or.inr (Or.inl (aI (aI (by kernel_rfl) (by kernel_rfl)) ?_)))
 refine Or.inr ?_
 refine Or.inr ?_
 refine Or.inr ?_
 refine Or.inr ?_
 refine Or.inl (eX 0 (aI (aI rfl rfl) ?_))
 refine aI trivial (aI (by first|exact trivial|exact rfl) ?_)
 obtain⟨aM,aR,aN⟩:=Sl.rows (r:=E1.toRp) aA
 refine eX aM (aI aR ?_)
 obtain⟨q2,aS,aC⟩:=l0 aC
 refine aI (J1 aS (by first|rw[F2.length (show F2 (E1.R h) ([]:List (List Value)) ([]:K0) from trivial),F2.length aN]|exact congrArg (·+1) (F2.length (show F2 (E1.R h) ([]:List (List Value)) ([]:K0) from trivial)))) ?_
 refine aI trivial (aI (by first|exact trivial|exact rfl) ?_)
 refine aI trivial (aI (by first|exact trivial|exact rfl) ?_)
 refine aI trivial (aI (by first|exact trivial|exact rfl) ?_)
 intro v3 k4 f5
 obtain⟨aT,aU,rfl,aV,aW,aX⟩:=U0.outS (r:=E1.toRp) f5 (F2.append (show F2 (E1.R h) ([]:List (List Value)) ([]:K0) from trivial) aN)
 obtain rfl:=oJ aC
 exact⟨aT,((([]:K0)++aG)).length,aU,rfl,(New.pair (New.int aH) (New.pair (New.int aJ) (U0.newPlain (r:=E1) f5 (F2.append (show F2 (E1.R h) ([]:List (List Value)) ([]:K0) from trivial) aN) (H0b _))))⟩
theorem E0c(h:Hp)(aG:List Value)(p0:j0)(aV:Z0.R h aG p0)(p1:Int)(bF:P0 p1)(r:Int)(aD:g01 p0 p1=some r):
  Tr Tryz.prog 302 #[.agg aG.toArray,.int .i64 p1] h λv h'=>v = .int .i64 r/\h'=h:=by
 obtain⟨aK,aL,aH,aO,aJ,aC,rfl,rfl,aP,aQ,aB⟩:=H0 aV
 obtain⟨rfl,aR⟩:=Sl.len aB
 unfold g01 at aD
 dsimp only at aD
 refine Tr.forget (O2 (args:=[.agg #[.int .i64 aK,.int .i64 aL,.slice aH aC.length aJ],.int .i64 p1]) (fn:=Tryz.f302) rfl ?_)
 obtain⟨X1,aM,aD⟩:=l0 aD
 refine eX { vars:=[5,11],boxes:=[],owns:=[],fuel:=true } (eX (λvs os h'=>∃ u2 u3,vs.tail = [.int .i64 u2,.int .i64 u3]/\os = []/\Sub h h'/\P0 u2/\P0 u3/\j5 aC p1 (I1 vs) u2 u3=some X1) (eX (λ_ _=>0) (aI (eX Q0 ⟨0,0,rfl,rfl,(Sub.refl _),(by decide),(by decide),aM⟩) ?_)))
 rintro _ _ m5 k4 ⟨u2,u3,⟨⟩,⟨⟩,aF,aW,bG,aA⟩
 replace aA:j5 aC p1 m5 u2 u3=some X1:=aA
 obtain _|m5:=m5
 ·cases aA
 rw[j5.eq_2]at aA
 refine ifB aA (λaX aA=>?_) λaX aA=>?_
 ·refine ld aA (O0.mono aF aB) λx7 aY aZ aA=>?_
  obtain⟨bA,bB,bC,rfl,rfl,aS,aT,aU⟩:=N1 aZ
  try dsimp only at aA
  refine ifB aA (λbD aA=>?_) λbD aA=>?_
  ·refine ifB aA (λbE aA=>?_) λbE aA=>?_
   ·exact D2 m5 ⟨(IntKind.i64.wrap ((IntKind.i64.wrap (u2+1))+1)),(IntKind.i64.wrap (u3+1)),rfl,rfl,aF,(J0 _),(J0 _),aA⟩
   ·exact D2 m5 ⟨(IntKind.i64.wrap (u2+1)),(IntKind.i64.wrap (u3+1)),rfl,rfl,aF,(J0 _),(J0 _),aA⟩
  ·refine ifB aA (λaN aA=>?_) λaN aA=>?_
   ·exact D2 m5 ⟨(IntKind.i64.wrap (u2+1)),(IntKind.i64.wrap (u3+1)),rfl,rfl,aF,(J0 _),(J0 _),aA⟩
   ·exact D2 m5 ⟨u2,(IntKind.i64.wrap (u3+1)),rfl,rfl,aF,aW,(J0 _),aA⟩
 ·obtain rfl:=oJ aA
  try dsimp only[S0,T0]at aD
  obtain rfl:=oJ aD
  exact aI rfl aF
theorem f02(h:Hp)(aD:Option Addr)(aQ aF:Nat)(p0:K0)(aR:O0.R h [.slice aD aQ aF] p0)(aG:Option Addr)(aS aH:Nat)(p1:K0)(aT:O0.R h [.slice aG aS aH] p1)(r:Bool)(aB:V2 p0 p1=some r):
  Tr Tryz.prog 207 #[.slice aD aQ aF,.slice aG aS aH] h λv h'=>v = .bool r/\h'=h:=by
 obtain⟨rfl,bH⟩:=Sl.len aR
 obtain⟨rfl,bI⟩:=Sl.len aT
 unfold V2 at aB
 refine Tr.forget (O2 (args:=[.slice aD p0.length aF,.slice aG p1.length aH]) (fn:=Tryz.f207) rfl ?_)
 refine ifB aB (λbA aB=>?_) λbA aB=>?_
 ·obtain rfl:=oJ aB
  exact aI rfl (Sub.refl _)
 ·obtain⟨X2,aJ,aB⟩:=l0 aB
  refine eX { vars:=[13],boxes:=[],owns:=[],fuel:=true } (eX (λvs os h'=>∃ u3,vs.tail = [.int .i64 u3]/\os = []/\Sub h h'/\P0 u3/\H1 p0 p1 (I1 vs) u3=some X2) (eX (λ_ _=>0) (aI (eX Q0 ⟨0,rfl,rfl,(Sub.refl _),(by decide),aJ⟩) ?_)))
  rintro _ m5 k4 ⟨u3,⟨⟩,⟨⟩,aC,bJ,aA⟩
  replace aA:H1 p0 p1 m5 u3=some X2:=aA
  obtain _|m5:=m5
  ·cases aA
  rw[H1.eq_2]at aA
  refine ifB aA (λbB aA=>?_) λbB aA=>?_
  ·refine Or.inl (aI (aI (by kernel_rfl) (by kernel_rfl)) ?_)
   refine ld aA (O0.mono aC aR) λx7 bC bD aA=>?_
   obtain⟨aK,aL,aM,rfl,rfl,aU,aV,aW⟩:=N1 bD
   try dsimp only at aA
   refine ld aA (O0.mono aC aT) λx8 bE bF aA=>?_
   obtain⟨aN,aO,aP,rfl,rfl,aX,aY,aZ⟩:=N1 bF
   try dsimp only at aA
   refine eX (!eqE (aK,aL,aM) (aN,aO,aP)) (aI (S0h _ _ _ rfl _ _ _ _ _ _) ?_)
   refine ifB aA (λbG aA=>?_) λbG aA=>?_
   ·obtain rfl:=oJ aA
    try dsimp only[n5,G5]at aB
    obtain rfl:=oJ aB
    exact aI rfl aC
   ·exact D2 m5 ⟨(IntKind.i64.wrap (u3+1)),rfl,rfl,aC,(J0 _),aA⟩
  ·obtain rfl:=oJ aA
   try dsimp only[S0,T0]at aB
   obtain rfl:=oJ aB
   exact aI rfl aC
theorem P04(h:Hp)(aC:List Value)(p0:j0)(aZ:Z0.R h aC p0)(aD:List Value)(p1:j0)(bA:Z0.R h aD p1)(r:Bool)(aF:p8 p0 p1=some r):
  Tr Tryz.prog 97 #[.agg aC.toArray,.agg aD.toArray] h λv h'=>v = .bool r/\h'=h:=by
 obtain⟨aL,aM,aG,aR,aH,aN,rfl,rfl,aS,aT,aA⟩:=H0 aZ
 obtain⟨rfl,aU⟩:=Sl.len aA
 obtain⟨aO,aP,aJ,aV,aK,aQ,rfl,rfl,aW,aX,aB⟩:=H0 bA
 obtain⟨rfl,aY⟩:=Sl.len aB
 unfold p8 at aF
 dsimp only at aF
 refine Tr.forget (O2 (args:=[.agg #[.int .i64 aL,.int .i64 aM,.slice aG aN.length aH],.agg #[.int .i64 aO,.int .i64 aP,.slice aJ aQ.length aK]]) (fn:=Tryz.f97) rfl ?_)
 refine trG aF (λq=>f02 _ _ _ _ _ aA _ _ _ _ aB) λx1 aF=>?_
 obtain rfl:=oJ aF
 exact aI rfl (Sub.refl _)
theorem p08(h:Hp)(aP:List Value)(p0:j0)(cO:Z0.R h aP p0)(p1:Int)(dA:P0 p1)(r:(List Bool))(aK:t9 p0 p1=some r):
  Tr Tryz.prog 301 #[.agg aP.toArray,.int .i64 p1] h λv h'=>∃(a0:Option Addr) (n0 c0:Nat),v = .slice a0 n0 c0/\(Wp.slice Wp.bool).R h' [.slice a0 n0 c0] r/\Sub h h':=by
 obtain⟨aV,aG,aQ,cA,aR,aH,rfl,rfl,cC,cD,aL⟩:=H0 cO
 obtain⟨rfl,cE⟩:=Sl.len aL
 unfold t9 at aK
 dsimp only at aK
 refine O2 (args:=[.agg #[.int .i64 aV,.int .i64 aG,.slice aQ aH.length aR],.int .i64 p1]) (fn:=Tryz.f301) rfl ?_
 obtain⟨q1,cP,aK⟩:=l0 aK
 refine aI (I0 cP) ?_
 obtain⟨x2,cQ,aK⟩:=l0 aK
 obtain⟨cR,cS,cT,cU⟩:=P1 (F2.rep (p:=Wp.bool.R h) (a:=[.bool false]) (b:=false) rfl (aG.toNat)) cQ
 refine aI cR ?_
 obtain rfl:=cU
 refine eX _ (aI cT ?_)
 obtain⟨X3,aW,aK⟩:=l0 aK
 refine eX { vars:=[6],boxes:=[],owns:=[0],fuel:=true,kept:=[0] } (eX (λvs os h'=>∃ u4 aT u5,vs.tail = [.bool u4]/\os = [aT]/\Sub h h'/\F2 (Wp.bool.R h') aT u5/\O4 aH (I1 vs) u4 u5=some X3) (eX (λ_ _=>0) (aI (eX Q0 ⟨true,((List.replicate aG.toNat ([.bool false]:List Value)).set p1.toNat [.bool true]),((List.replicate aG.toNat (false:Bool)).set p1.toNat true),rfl,rfl,(Sub.refl _),(F2.set (p:=Wp.bool.R h) (a:=[.bool true]) (b:=true) rfl p1.toNat (F2.rep (p:=Wp.bool.R h) (a:=[.bool false]) (b:=false) rfl (aG.toNat))),aW⟩) ?_)))
 rintro _ aT m7 k6 ⟨u4,cV,u5,⟨⟩,⟨⟩,aX,cG,aF⟩
 replace aF:O4 aH m7 u4 u5=some X3:=aF
 obtain _|m7:=m7
 ·cases aF
 rw[O4.eq_2]at aF
 refine ifB aF (λcW aF=>?_) λcW aF=>?_
 ·obtain⟨X9,aY,aF⟩:=l0 aF
  refine eX { vars:=[6,19],boxes:=[],owns:=[0],fuel:=true,kept:=[0] } (eX (λvs os h'=>∃ aO aM aD aN,vs.tail = [.bool aO,.int .i64 aM]/\os = [aD]/\Sub k6 h'/\P0 aM/\F2 (Wp.bool.R h') aD aN/\l4 aH (I1 vs) aO aM aN=some X9) (eX (λ_ _=>0) (aI (eX Q0 ⟨false,0,aT,u5,rfl,rfl,(Sub.refl _),(by decide),cG,aY⟩) ?_)))
  rintro _ _ aD aS aZ ⟨aO,aM,cH,aN,⟨⟩,⟨⟩,aU,cX,aB,aA⟩
  replace aA:l4 aH aS aO aM aN=some X9:=aA
  obtain _|aS:=aS
  ·cases aA
  rw[l4.eq_2]at aA
  refine ifB aA (λbA aA=>?_) λbA aA=>?_
  ·refine ld aA (O0.mono (aX.trans aU) aL) λdB cI bB aA=>?_
   obtain⟨aC,cJ,aJ,rfl,rfl,bC,bD,bE⟩:=N1 bB
   try dsimp only at aA
   refine Or.inl (aI (aI (by kernel_rfl) (by kernel_rfl)) ?_)
   obtain⟨dC,bF,aA⟩:=l0 aA
   obtain⟨bG,cK,bH,bI⟩:=P1 aB bF
   refine aI bG ?_
   obtain rfl:=bI
   refine eX _ (aI bH ?_)
   obtain⟨dD,bJ,aA⟩:=l0 aA
   obtain⟨bK,cL,bL,bM⟩:=P1 aB bJ
   refine aI bK ?_
   obtain rfl:=bM
   refine eX _ (aI bL ?_)
   refine ifB aA (λbN aA=>?_) λbN aA=>?_
   ·obtain⟨dE,bO,aA⟩:=l0 aA
    obtain⟨bP,cM,bQ,bR⟩:=P1 aB bO
    refine aI bP ?_
    obtain rfl:=bR
    refine eX _ (aI bQ ?_)
    obtain⟨dF,bS,aA⟩:=l0 aA
    obtain⟨bT,cN,bU,bV⟩:=P1 (F2.set (p:=Wp.bool.R aZ) (a:=[.bool true]) (b:=true) rfl aC.toNat aB) bS
    refine aI bT ?_
    obtain rfl:=bV
    refine eX _ (aI bU ?_)
    exact D2 aS ⟨true,(IntKind.i64.wrap (aM+1)),((aD.set aC.toNat [.bool true]).set aJ.toNat [.bool true]),((aN.set aC.toNat true).set aJ.toNat true),rfl,rfl,aU,(J0 _),(F2.set (p:=Wp.bool.R aZ) (a:=[.bool true]) (b:=true) rfl aJ.toNat (F2.set (p:=Wp.bool.R aZ) (a:=[.bool true]) (b:=true) rfl aC.toNat aB)),aA⟩
   ·exact D2 aS ⟨aO,(IntKind.i64.wrap (aM+1)),aD,aN,rfl,rfl,aU,(J0 _),aB,aA⟩
  ·obtain rfl:=oJ aA
   try dsimp only[S0,T0]at aF
   exact D2 m7 ⟨aO,aD,aN,rfl,rfl,(aX.trans aU),aB,aF⟩
 ·obtain rfl:=oJ aF
  try dsimp only[S0,T0]at aK
  intro dG dH cY
  obtain⟨bW,bX,rfl,bY,bZ,cZ⟩:=U0.out (r:=Wp.bool.toRp) cY cG
  obtain rfl:=oJ aK
  exact⟨bW,u5.length,bX,rfl,bY,(aX.trans bZ)⟩
theorem Q04(h:Hp)(p0:Int)(aS:P0 p0)(r:F0)(aB:W4 p0=some r):
  Tr Tryz.prog 309 #[.int .i64 p0] h λv h'=>∃(a0:Option Addr) (n0 c0:Nat),v = .slice a0 n0 c0/\W0.R h' [.slice a0 n0 c0] r/\Sub h h':=by
 unfold W4 at aB
 refine O2 (args:=[.int .i64 p0]) (fn:=Tryz.f309) rfl ?_
 obtain⟨X1,aF,aB⟩:=l0 aB
 refine eX { vars:=[4],boxes:=[],owns:=[0],fuel:=true } (eX (λvs os h'=>∃ u2 aC u3,vs.tail = [.int .i64 u2]/\os = [aC]/\Sub h h'/\P0 u2/\F2 (Wp.int.R h') aC u3/\V4 p0 (I1 vs) u2 u3=some X1) (eX (λ_ _=>0) (aI (eX Q0 ⟨1,[],([]:F0),rfl,rfl,(Sub.refl _),(by decide),(show F2 (Wp.int.R h) ([]:List (List Value)) ([]:F0) from trivial),aF⟩) ?_)))
 rintro _ aC m5 k4 ⟨u2,aN,u3,⟨⟩,⟨⟩,aL,aM,aD,aA⟩
 replace aA:V4 p0 m5 u2 u3=some X1:=aA
 obtain _|m5:=m5
 ·cases aA
 rw[V4.eq_2]at aA
 refine ifB aA (λaO aA=>?_) λaO aA=>?_
 ·obtain⟨q7,aP,aA⟩:=l0 aA
  refine aI (J1 aP (by first|rw[F2.length aD,F2.length (show F2 (Wp.int.R k4) ([[.int .i64 u2],[.int .i64 (IntKind.i64.wrap (0-u2))]]:List (List Value)) [u2,(IntKind.i64.wrap (0-u2))] from⟨⟨rfl,aM⟩,⟨⟨rfl,(J0 _)⟩,trivial⟩⟩)]|exact congrArg (·+2) (F2.length aD))) ?_
  exact D2 m5 ⟨(IntKind.i64.wrap (u2+1)),(aC++([[.int .i64 u2],[.int .i64 (IntKind.i64.wrap (0-u2))]]:List (List Value))),(u3 ++ [u2,(IntKind.i64.wrap (0-u2))]),rfl,rfl,aL,(J0 _),(F2.append aD (show F2 (Wp.int.R k4) ([[.int .i64 u2],[.int .i64 (IntKind.i64.wrap (0-u2))]]:List (List Value)) [u2,(IntKind.i64.wrap (0-u2))] from⟨⟨rfl,aM⟩,⟨⟨rfl,(J0 _)⟩,trivial⟩⟩)),aA⟩
 ·obtain rfl:=oJ aA
  try dsimp only[S0,T0]at aB
  intro v8 k9 aQ
  obtain⟨aG,aH,rfl,aJ,aK,aR⟩:=U0.out (r:=Wp.int.toRp) aQ aD
  obtain rfl:=oJ aB
  exact⟨aG,u3.length,aH,rfl,aJ,(aL.trans aK)⟩
theorem t05(h:Hp)(aB:Option Addr)(aF aC:Nat)(p0:K0)(aG:O0.R h [.slice aB aF aC] p0)(r:K0)(aA:u00 p0=some r):
  Tr Tryz.prog 251 #[.slice aB aF aC] h λv h'=>∃(a0:Option Addr) (n0 c0:Nat),v = .slice a0 n0 c0/\New O0 h h' [.slice a0 n0 c0] r:=by
 obtain⟨rfl,aU⟩:=Sl.len aG
 unfold u00 at aA
 refine O2 (args:=[.slice aB p0.length aC]) (fn:=Tryz.f251) rfl ?_
 obtain⟨aD,aN,aH⟩:=Sl.rows (r:=E1.toRp) aG
 refine eX aD (aI aN ?_)
 obtain⟨q2,aO,aA⟩:=l0 aA
 refine aI (J1 aO (by first|rw[F2.length (show F2 (E1.R h) ([]:List (List Value)) ([]:K0) from trivial),F2.length aH]|exact congrArg (·+1) (F2.length (show F2 (E1.R h) ([]:List (List Value)) ([]:K0) from trivial)))) ?_
 refine Or.inl ?_
 intro v3 k4 f5
 obtain⟨q6,aP,aA⟩:=l0 aA
 refine Tr.mono (T0j _ f5 (F2.append (show F2 (E1.R h) ([]:List (List Value)) ([]:K0) from trivial) aH) (I0 aP)) ?_
 rintro _ aV ⟨rfl,aQ,aJ,aK⟩
 obtain⟨aW,aX,rfl,aY,aZ,bA⟩:=U0.out (r:=E1.toRp) aJ aK
 refine Tr.mono (U0j _ aJ aK) ?_
 rintro _ bB ⟨aR,aL,aM⟩
 obtain⟨aS,aT,rfl,bC,bD,bE⟩:=U0.out (r:=E1.toRp) aL aM
 obtain rfl:=oJ aA
 exact⟨aS,((Z02 eqE (M05 C1 (([]:K0)++p0)))).length,aT,rfl,(U0.newPlain (r:=E1) aL aM (H0b _))⟩
theorem J07(h:Hp)(bA:List Value)(p0:j0)(dX:Z0.R h bA p0)(bO:Option Addr)(dG bP:Nat)(p1:F0)(dH:W0.R h [.slice bO dG bP] p1)(r:j0)(aC:K01 p0 p1=some r):
  Tr Tryz.prog 291 #[.agg bA.toArray,.slice bO dG bP] h λv h'=>∃(dI:List Value),v = .agg dI.toArray/\New Z0 h h' dI r:=by
 obtain⟨bB,aD,bC,dJ,bD,aT,rfl,rfl,bE,dK,aO⟩:=H0 dX
 obtain⟨rfl,dL⟩:=Sl.len aO
 obtain⟨rfl,dY⟩:=Sl.len dH
 unfold K01 at aC
 dsimp only at aC
 refine O2 (args:=[.agg #[.int .i64 bB,.int .i64 aD,.slice bC aT.length bD],.slice bO p1.length bP]) (fn:=Tryz.f291) rfl ?_
 obtain⟨q1,dZ,aC⟩:=l0 aC
 refine aI (I0 dZ) ?_
 obtain⟨m2,eA,aC⟩:=l0 aC
 obtain rfl:(List.replicate aD.toNat ([.int .i64 0]:List Value)).length=m2:=(F2.length (F2.rep (p:=Wp.int.R h) (a:=[.int .i64 0]) (b:=0) ⟨rfl,(by decide)⟩ (aD.toNat))).trans (oJ eA)
 obtain⟨q3,eV,aC⟩:=l0 aC
 obtain⟨X4,bQ,aC⟩:=l0 aC
 refine eX { vars:=[17],boxes:=[],owns:=[0],fuel:=true,kept:=[0] } (eX (λvs os h'=>∃ u5 bF u6,vs.tail = [.int .i64 u5]/\os = [bF]/\Sub h h'/\P0 u5/\F2 (Wp.int.R h') bF u6/\F9 ((List.replicate aD.toNat ([.int .i64 0]:List Value))).length (I1 vs) u5 u6=some X4) (eX (λ_ _=>0) (aI (eX Q0 ⟨0,(List.replicate aD.toNat ([.int .i64 0]:List Value)),(List.replicate aD.toNat (0:Int)),rfl,rfl,(Sub.refl _),(by decide),(F2.rep (p:=Wp.int.R h) (a:=[.int .i64 0]) (b:=0) ⟨rfl,(by decide)⟩ (aD.toNat)),bQ⟩) ?_)))
 rintro _ bF m8 k7 ⟨u5,eC,u6,⟨⟩,⟨⟩,bM,eW,bR,aA⟩
 replace aA:F9 ((List.replicate aD.toNat ([.int .i64 0]:List Value))).length m8 u5 u6=some X4:=aA
 obtain _|m8:=m8
 ·cases aA
 rw[F9.eq_2]at aA
 refine ifB aA (λeD aA=>?_) λeD aA=>?_
 ·obtain⟨eY,bS,aA⟩:=l0 aA
  obtain⟨bT,dM,bU,bV⟩:=P1 bR bS
  refine aI bT ?_
  obtain⟨rfl,eE⟩:=bV
  refine eX _ (aI bU ?_)
  exact D2 m8 ⟨(IntKind.i64.wrap (u5+1)),(bF.set u5.toNat [.int .i64 (-1)]),(u6.set u5.toNat (-1)),rfl,rfl,bM,(J0 _),(F2.set (p:=Wp.int.R k7) (a:=[.int .i64 (-1)]) (b:=(-1)) ⟨rfl,(by decide)⟩ u5.toNat bR),aA⟩
 ·obtain rfl:=oJ aA
  try dsimp only[S0,T0]at aC
  obtain⟨X11,bG,aC⟩:=l0 aC
  refine eX { vars:=[26],boxes:=[],owns:=[0],fuel:=true,kept:=[0] } (eX (λvs os h'=>∃ aL aM aU,vs.tail = [.int .i64 aL]/\os = [aM]/\Sub k7 h'/\P0 aL/\F2 (Wp.int.R h') aM aU/\E9 p1 (I1 vs) aL aU=some X11) (eX (λ_ _=>0) (aI (eX Q0 ⟨0,bF,u6,rfl,rfl,(Sub.refl _),(by decide),bR,bG⟩) ?_)))
  rintro _ aM bN bW ⟨aL,dN,aU,⟨⟩,⟨⟩,aN,bX,aG,aA⟩
  replace aA:E9 p1 bN aL aU=some X11:=aA
  obtain _|bN:=bN
  ·cases aA
  rw[E9.eq_2]at aA
  refine ifB aA (λbY aA=>?_) λbY aA=>?_
  ·refine ldI aA (W0.mono (bM.trans aN) dH) λbZ eF aA=>?_
   obtain⟨eZ,cA,aA⟩:=l0 aA
   obtain⟨cC,dO,cD,cE⟩:=P1 aG cA
   refine aI cC ?_
   obtain⟨rfl,eG⟩:=cE
   refine eX _ (aI cD ?_)
   exact D2 bN ⟨(IntKind.i64.wrap (aL+1)),(aM.set bZ.toNat [.int .i64 aL]),(aU.set bZ.toNat aL),rfl,rfl,aN,(J0 _),(F2.set (p:=Wp.int.R bW) (a:=[.int .i64 aL]) (b:=aL) ⟨rfl,bX⟩ bZ.toNat aG),aA⟩
  ·obtain rfl:=oJ aA
   try dsimp only[S0,T0]at aC
   obtain⟨X19,bH,aC⟩:=l0 aC
   refine eX { vars:=[44],boxes:=[2],owns:=[1],fuel:=true,nilsB:=[(2,2,166,3,24)] } (eX (λvs os h'=>∃ aV aP aQ aH aZ,vs.tail = [.int .i64 aV,.int .i64 aP,.int .i64 aQ]/\os = [aH]/\Sub bW h'/\P0 aV/\P0 aP/\P0 aQ/\F2 (E1.R h') aH aZ/\F8 aT aU (I1 vs) aV aP aQ aZ=some X19) (eX (λ_ _=>0) (aI (eX Q0 ⟨0,bB,((p1.length:Nat):Int),[],([]:K0),rfl,rfl,(Sub.refl _),(by decide),bE,(T0q dY),(show F2 (E1.R bW) [] [] from trivial),bH⟩) ?_)))
   rintro _ _ _ aH bI cG ⟨aV,aP,aQ,dP,aZ,⟨⟩,⟨⟩,aF,eH,aW,aX,aJ,aA⟩
   replace aA:F8 aT aU bI aV aP aQ aZ=some X19:=aA
   obtain _|bI:=bI
   ·cases aA
   rw[F8.eq_2]at aA
   refine ifB aA (λcH aA=>?_) λcH aA=>?_
   ·refine ld aA (O0.mono ((bM.trans aN).trans aF) aO) λfA dQ cI aA=>?_
    obtain⟨dR,aB,dS,rfl,rfl,cJ,aK,cK⟩:=N1 cI
    try dsimp only at aA
    obtain⟨fB,cL,aA⟩:=l0 aA
    obtain⟨cM,dT,cN,cO⟩:=P1 (F2.up (r:=Wp.int.toRp) aF aG) cL
    refine aI cM ?_
    obtain⟨rfl,eI⟩:=cO
    refine eX _ (aI cN ?_)
    obtain⟨fC,cP,aA⟩:=l0 aA
    obtain⟨dU,bJ,cQ⟩:=f01 (F2.up (r:=Wp.int.toRp) aF aG) cP (K0d cG)
    refine aI (λq=>(bJ q).1) ?_
    obtain⟨rfl,eJ⟩:=cQ
    refine eX _ (aI (λq=>(bJ q).2) ?_)
    refine ifB aA (λcR aA=>?_) λcR aA=>?_
    ·refine Or.inr (Or.inr (Or.inl (aI (aI (by kernel_rfl) (by kernel_rfl)) ?_)))
     obtain⟨aR,cS,aA⟩:=l0 aA
     obtain⟨cT,dV,cU,cV⟩:=P1 (F2.up (r:=Wp.int.toRp) aF aG) cS
     obtain⟨rfl,bK⟩:=cV
     refine Or.inl ?_
     apply eX
     refine aI ?_ ?_
     ·intro fD fE
      exact aI cT (aI rfl (aI rfl rfl))
     refine Or.inl (eX (.val (.int .i64 aR)) (aI ?_ ?_))
     ·intro fF fG
      exact eX _ (aI cU (aI rfl (aI rfl rfl)))
     obtain⟨aS,cW,aA⟩:=l0 aA
     obtain⟨cX,dW,cY,cZ⟩:=P1 (F2.up (r:=Wp.int.toRp) aF aG) cW
     obtain⟨rfl,bL⟩:=cZ
     refine Or.inl ?_
     apply eX
     refine aI ?_ ?_
     ·intro fH fJ
      exact aI cX (aI rfl (aI rfl rfl))
     refine Or.inl (eX (.val (.int .i64 aS)) (aI ?_ ?_))
     ·intro fK fL
      exact eX _ (aI cY (aI rfl (aI rfl rfl)))
     refine Or.inl (eX (.agg [.val (.int .i64 aR),.val (.int .i64 aB),.val (.int .i64 aS)]) (aI ?_ ?_))
     ·intro fM fN
      exact aI rfl (aI rfl rfl)
     refine Or.inr ?_
     refine Or.inr ?_
     refine Or.inr ?_
     refine Or.inl (eX 0 (aI (aI rfl rfl) ?_))
     refine aI trivial (aI (by first|exact trivial|exact rfl) ?_)
     obtain⟨fO,dA,aA⟩:=l0 aA
     refine aI (J1 dA (by first|rw[F2.length aJ,F2.length (show F2 (E1.R cG) ([[.int .i64 aR,.int .i64 aB,.int .i64 aS]]:List (List Value)) [(aR,aB,aS)] from⟨(L1 bK aK bL),trivial⟩)]|exact congrArg (·+1) (F2.length aJ))) ?_
     refine aI trivial (aI (by first|exact trivial|exact rfl) ?_)
     refine aI trivial (aI (by first|exact trivial|exact rfl) ?_)
     exact D2 bI ⟨(IntKind.i64.wrap (aV+1)),aP,aQ,(aH++([[.int .i64 aR,.int .i64 aB,.int .i64 aS]]:List (List Value))),(aZ ++ [(aR,aB,aS)]),rfl,rfl,aF,(J0 _),aW,aX,(F2.append aJ (show F2 (E1.R cG) ([[.int .i64 aR,.int .i64 aB,.int .i64 aS]]:List (List Value)) [(aR,aB,aS)] from⟨(L1 bK aK bL),trivial⟩)),aA⟩
    ·exact D2 bI ⟨(IntKind.i64.wrap (aV+1)),aP,aQ,aH,aZ,rfl,rfl,aF,(J0 _),aW,aX,aJ,aA⟩
   ·obtain rfl:=oJ aA
    try dsimp only[S0,T0]at aC
    refine Or.inl ?_
    intro fP eK f46
    obtain⟨eM,eN,rfl,dB,dC,eO⟩:=U0.out (r:=E1.toRp) f46 aJ
    refine trM aC (t05 _ _ _ _ _ dB) ?_
    rintro eP aC fQ eQ ⟨dD,eR,dE,rfl,aY⟩
    have eT:Sub eK eQ:=aY.sub
    have dF:=aY.r
    obtain⟨rfl,eU⟩:=Sl.len dF
    obtain rfl:=oJ aC
    exact⟨([.int .i64 aP,.int .i64 aQ,.slice dD eP.length dE]),rfl,(New.pair (New.int aW) (New.pair (New.int aX) (New.from aY (((bM.trans aN).trans aF).trans dC))))⟩
theorem V02(h:Hp)(bD:List Value)(p0:j0)(eD:Z0.R h bD p0)(p1:Int)(eE:P0 p1)(r:F0×E2)(aO:S6 p0 p1=some r):
  Tr Tryz.prog 236 #[.agg bD.toArray,.int .i64 p1] h λv h'=>∃(a0:Option Addr) (n0 c0:Nat) (a1:Option Addr) (n1 c1:Nat),v = .tuple #[.slice a0 n0 c0,.slice a1 n1 c1]/\W0.R h' [.slice a0 n0 c0] r.1/\l9.R h' [.slice a1 n1 c1] r.2/\Sub h h':=by
 obtain⟨aJ,aC,bE,dN,bF,aK,rfl,rfl,aS,bG,aT⟩:=H0 eD
 obtain⟨rfl,dO⟩:=Sl.len aT
 unfold S6 at aO
 dsimp only at aO
 refine O2 (args:=[.agg #[.int .i64 aJ,.int .i64 aC,.slice bE aK.length bF],.int .i64 p1]) (fn:=Tryz.f236) rfl ?_
 obtain⟨q1,eF,aO⟩:=l0 aO
 refine aI (I0 eF) ?_
 obtain⟨x2,eG,aO⟩:=l0 aO
 obtain⟨eH,eI,eJ,eK⟩:=P1 (F2.rep (p:=Wp.opt.R h) (a:=[.slice none 0 0]) (b:=none) (x0m h) (aC.toNat)) eG
 refine aI eH ?_
 obtain⟨fZ,gA,gB,rfl,gC,eM⟩:=eK
 obtain⟨rfl,gD⟩:=Sl.len eM
 intro v3 k4 f5
 obtain⟨dP,dQ,rfl,eN,cA,gE⟩:=U0.outS (r:=Wp.int.toRp) f5 (show F2 (Wp.int.R h) ([]:List (List Value)) ([]:F0) from trivial)
 refine eX _ (aI eJ ?_)
 obtain⟨X7,cC,aO⟩:=l0 aO
 refine eX { vars:=[8],boxes:=[],owns:=[0,2],fuel:=true,kept:=[0] } (eX (λvs os h'=>∃ u8 bX u9 aL bC,vs.tail = [.int .i64 u8]/\os = [bX,aL]/\Sub k4 h'/\P0 u8/\F2 (Wp.opt.R h') bX u9/\F2 (Wp.int.R h') aL bC/\S3 aJ aC aK (I1 vs) u8 u9 bC=some X7) (eX (λ_ _=>0) (aI (eX Q0 ⟨0,((List.replicate aC.toNat ([.slice none 0 0]:List Value)).set p1.toNat [.slice (some ⟨dP,0,none⟩) (([]:F0)).length dQ]),((List.replicate aC.toNat (none:Option F0)).set p1.toNat (some ([]:F0))),([[.int .i64 p1]]:List (List Value)),[p1],rfl,rfl,(Sub.refl _),(by decide),(F2.set (p:=Wp.opt.R k4) (a:=[.slice (some ⟨dP,0,none⟩) (([]:F0)).length dQ]) (b:=some ([]:F0)) (y0m eN) p1.toNat (F2.up (r:=Wp.opt.toRp) cA (F2.rep (p:=Wp.opt.R h) (a:=[.slice none 0 0]) (b:=none) (x0m h) (aC.toNat)))),(show F2 (Wp.int.R k4) ([[.int .i64 p1]]:List (List Value)) [p1] from⟨⟨rfl,eE⟩,trivial⟩),cC⟩) ?_)))
 rintro _ bX aL bY gF ⟨u8,eO,u9,dR,bC,⟨⟩,⟨⟩,cD,gG,dS,aQ,aB⟩
 replace aB:S3 aJ aC aK bY u8 u9 bC=some X7:=aB
 obtain _|bY:=bY
 ·cases aB
 rw[S3.eq_2]at aB
 obtain⟨eP,cE,aB⟩:=l0 aB
 obtain rfl:aL.length=eP:=(F2.length aQ).trans (oJ cE)
 obtain⟨gH,eQ,aB⟩:=l0 aB
 refine ifB aB (λcG aB=>?_) λcG aB=>?_
 ·obtain⟨dT,cH,aB⟩:=l0 aB
  obtain⟨cI,dU,cJ,cK⟩:=P1 aQ cH
  refine aI cI ?_
  obtain⟨rfl,cL⟩:=cK
  refine eX _ (aI cJ ?_)
  refine trM aB (Q04 _ _ aS) ?_
  rintro dV aB gI eR ⟨eT,eU,eV,rfl,bH,aR⟩
  obtain⟨rfl,eW⟩:=Sl.len bH
  obtain⟨X20,bI,aB⟩:=l0 aB
  refine eX { vars:=[36],boxes:=[],owns:=[0,2],fuel:=true,kept:=[0] } (eX (λvs os h'=>∃ aW aF aX aG aY,vs.tail = [.int .i64 aW]/\os = [aF,aG]/\Sub eR h'/\P0 aW/\F2 (Wp.opt.R h') aF aX/\F2 (Wp.int.R h') aG aY/\Q2 dV aJ aC aK dT (I1 vs) aW aX aY=some X20) (eX (λ_ _=>0) (aI (eX Q0 ⟨0,bX,u9,aL,bC,rfl,rfl,(Sub.refl _),(by decide),(F2.up (r:=Wp.opt.toRp) aR dS),(F2.up (r:=Wp.int.toRp) aR aQ),bI⟩) ?_)))
  rintro _ aF aG bJ dW ⟨aW,dX,aX,dY,aY,⟨⟩,⟨⟩,aM,eY,aH,aN,aA⟩
  replace aA:Q2 dV aJ aC aK dT bJ aW aX aY=some X20:=aA
  obtain _|bJ:=bJ
  ·cases aA
  rw[Q2.eq_2]at aA
  refine ifB aA (λcM aA=>?_) λcM aA=>?_
  ·refine ldI aA (W0.mono aM bH) λaU aZ aA=>?_
   refine trV aA (i9 _ _ _ (B0 aS bG (O0.mono (((cA.trans cD).trans aR).trans aM) aT)) _ cL _ aZ) λaP aA=>?_
   obtain⟨gJ,cN,aA⟩:=l0 aA
   have bK:P0 aP:=I0 cN
   obtain⟨eZ,cO,aA⟩:=l0 aA
   obtain⟨dZ,bL,cP⟩:=f01 aH cO (n0r dW)
   refine aI (λq=>(bL q).1) ?_
   obtain⟨fA,fB,fC,rfl,cQ,cR⟩:=cP
   obtain⟨rfl,fD⟩:=Sl.len cR
   refine eX _ (aI (λq=>(bL q).2) ?_)
   refine eX (eZ.isNone) (aI (λ_=>by rw[←cQ];exact T0p _ _ _ rfl _ _ _) ?_)
   refine ifB aA (λcS aA=>?_) λcS aA=>?_
   ·obtain⟨gK,cT,aA⟩:=l0 aA
    obtain⟨cU,eA,cV,cW⟩:=P1 aH cT
    refine aI cU ?_
    obtain⟨fE,fF,fG,rfl,fH,bM⟩:=cW
    obtain⟨rfl,fJ⟩:=Sl.len bM
    refine eX _ (aI cV ?_)
    obtain⟨bZ,bN,aA⟩:=l0 aA
    refine Tr.mono (M06 _ _ _ _ _ bM _  bN) ?_
    rintro gL cX ⟨bN,fK,fL,rfl,bA⟩
    have fM:Sub dW cX:=bA.sub
    have cY:=bA.r
    obtain⟨rfl,fN⟩:=Sl.len cY
    obtain⟨gM,cZ,aA⟩:=l0 aA
    obtain⟨bO,bP,aV,bQ⟩:=New.app bA (Sub.refl _)
    refine eX bO (aI bP (aI (J1 cZ (by first|rw[aV,F2.length (show F2 (Wp.int.R cX) ([[.int .i64 aU]]:List (List Value)) [aU] from⟨⟨rfl,aZ⟩,trivial⟩)]|(rw[aV];rfl))) ?_))
    intro fO bB happz37
    obtain⟨aD,bR,bS,fP,bT,rfl⟩:=bQ _ _ _ _ _ (F3.ofPlain (B04 _) (show F2 (Wp.int.R cX) ([[.int .i64 aU]]:List (List Value)) [aU] from⟨⟨rfl,aZ⟩,trivial⟩)) K6.ofPlain happz37
    have bU:=aD.r
    obtain⟨dA,fQ⟩:=Sl.len bU
    subst dA
    obtain⟨gN,dB,aA⟩:=l0 aA
    obtain⟨dC,eC,dD,dE⟩:=P1 (F2.up (r:=Wp.opt.toRp) aD.sub aH) dB
    refine aI dC ?_
    obtain⟨fR,fS,fT,rfl,fU,dF⟩:=dE
    obtain⟨rfl,fV⟩:=Sl.len dF
    refine eX _ (aI dD ?_)
    obtain⟨gO,dG,aA⟩:=l0 aA
    refine aI (J1 dG (by first|rw[F2.length (F2.up (r:=Wp.int.toRp) aD.sub aN),F2.length (show F2 (Wp.int.R bB) ([[.int .i64 aP]]:List (List Value)) [aP] from⟨⟨rfl,bK⟩,trivial⟩)]|exact congrArg (·+1) (F2.length (F2.up (r:=Wp.int.toRp) aD.sub aN)))) ?_
    exact D2 bJ ⟨(IntKind.i64.wrap (aW+1)),(aF.set aP.toNat [.slice (some ⟨bR,bS,none⟩) (bZ ++ [aU]).length bT]),(aX.set aP.toNat (some (bZ ++ [aU]))),(aG++([[.int .i64 aP]]:List (List Value))),(aY ++ [aP]),rfl,rfl,(aM.trans aD.sub),(J0 _),(F2.set (p:=Wp.opt.R bB) (a:=[.slice (some ⟨bR,bS,none⟩) (bZ ++ [aU]).length bT]) (b:=some (bZ ++ [aU])) (y0m bU) aP.toNat (F2.up (r:=Wp.opt.toRp) aD.sub aH)),(F2.append (F2.up (r:=Wp.int.toRp) aD.sub aN) (show F2 (Wp.int.R bB) ([[.int .i64 aP]]:List (List Value)) [aP] from⟨⟨rfl,bK⟩,trivial⟩)),aA⟩
   ·exact D2 bJ ⟨(IntKind.i64.wrap (aW+1)),aF,aX,aG,aY,rfl,rfl,aM,(J0 _),aH,aN,aA⟩
  ·obtain rfl:=oJ aA
   try dsimp only[S0,T0]at aB
   exact D2 bY ⟨(IntKind.i64.wrap (u8+1)),aF,aX,aG,aY,rfl,rfl,((cD.trans aR).trans aM),(J0 _),aH,aN,aB⟩
 ·obtain rfl:=oJ aB
  try dsimp only[S0,T0]at aO
  intro gP gQ f47
  obtain⟨dH,dI,rfl,dJ,bV,fW⟩:=U0.out (r:=Wp.int.toRp) f47 aQ
  intro gR gS fX
  obtain⟨dK,dL,rfl,dM,bW,fY⟩:=U0.out (r:=W0.toRp) fX (F2.ofOpt (F2.up (r:=Wp.opt.toRp) bV dS))
  obtain rfl:=oJ aO
  exact⟨dH,bC.length,dI,dK,(List.map (λo:Option F0=>o.getD ([]:F0)) u9).length,dL,rfl,(W0.mono bW dJ),dM,(((cA.trans cD).trans bV).trans bW)⟩
theorem Q06(h:Hp)(aH:List Value)(p0:j0)(aZ:Z0.R h aH p0)(r:F0)(aA:n8 p0=some r):
  Tr Tryz.prog 303 #[.agg aH.toArray] h λv h'=>∃(a0:Option Addr) (n0 c0:Nat),v = .slice a0 n0 c0/\W0.R h' [.slice a0 n0 c0] r/\Sub h h':=by
 obtain⟨aN,aO,aJ,aR,aK,aP,rfl,rfl,aD,aF,aB⟩:=H0 aZ
 obtain⟨rfl,aS⟩:=Sl.len aB
 unfold n8 at aA
 dsimp only at aA
 refine O2 (args:=[.agg #[.int .i64 aN,.int .i64 aO,.slice aJ aP.length aK]]) (fn:=Tryz.f303) rfl ?_
 refine trV aA (p9 _ _ _ (B0 aD aF aB)) λx1 aA=>?_
 refine ifB aA (λbA aA=>?_) λbA aA=>?_
 ·intro v3 k4 f5
  obtain⟨bB,bC,rfl,bD,bE,bH⟩:=U0.out (r:=Wp.int.toRp) f5 (show F2 (Wp.int.R h) ([]:List (List Value)) ([]:F0) from trivial)
  obtain rfl:=oJ aA
  exact⟨bB,(([]:F0)).length,bC,rfl,bD,bE⟩
 ·refine trM aA (V02 _ _ _ (B0 aD aF aB) 0 (by decide)) ?_
  rintro x7 aA v9 k8 ⟨aL,aT,aM,aU,aV,aW,rfl,aC,aG,bF⟩
  obtain⟨aQ,bG⟩:=x7
  dsimp only at aA aC aG
  obtain⟨rfl,aX⟩:=Sl.len aC
  obtain⟨rfl,aY⟩:=Sl.len aG
  obtain rfl:=oJ aA
  exact⟨aL,aQ.length,aM,rfl,aC,bF⟩
theorem d03(h:Hp)(aM:List Value)(p0:j0)(bU:Z0.R h aM p0)(r:j0)(aA:Y6 p0=some r):
  Tr Tryz.prog 221 #[.agg aM.toArray] h λv h'=>∃(bM:List Value),v = .agg bM.toArray/\New Z0 h h' bM r:=by
 obtain⟨aY,aZ,aN,bN,aO,bA,rfl,rfl,aC,aD,aB⟩:=H0 bU
 obtain⟨rfl,bO⟩:=Sl.len aB
 unfold Y6 at aA
 dsimp only at aA
 refine O2 (args:=[.agg #[.int .i64 aY,.int .i64 aZ,.slice aN bA.length aO]]) (fn:=Tryz.f221) rfl ?_
 refine trV aA (p9 _ _ _ (B0 aC aD aB)) λx1 aA=>?_
 refine ifB aA (λbV aA=>?_) λbV aA=>?_
 ·refine trM aA (N9 _ _ _ (B0 aC aD aB)) ?_
  rintro x3 aA v5 k4 ⟨aP,bP,aQ,rfl,aX⟩
  have bY:Sub h k4:=aX.sub
  have bQ:=aX.r
  obtain⟨bB,bC,bD⟩:=x3
  dsimp only at aA aX bQ
  obtain⟨_,_,_,_,_,_,bE,bF,aR,aS,aT⟩:=H0 bQ
  cases bE
  cases bF
  obtain⟨rfl,bR⟩:=Sl.len aT
  try dsimp only at aA
  have bW:=New.sndI (New.sndI (aX))
  obtain rfl:=oJ aA
  exact⟨([.int .i64 bB,.int .i64 bC,.slice (some ⟨aP,0,none⟩) bD.length aQ]),rfl,(New.pair (New.int aR) (New.pair (New.int aS) bW))⟩
 ·refine Or.inr (Or.inr (Or.inl (aI (aI (by kernel_rfl) (by kernel_rfl)) ?_)))
  refine Or.inr ?_
  refine Or.inr ?_
  refine Or.inr ?_
  refine Or.inl (eX 2 (aI (aI rfl rfl) ?_))
  refine trM aA (Q06 _ _ _ (B0 aC aD aB)) ?_
  rintro x7 aA v9 k8 ⟨bZ,cA,cC,rfl,bS,bG⟩
  obtain⟨rfl,cD⟩:=Sl.len bS
  refine aI (aI rfl bG) (aI (by first|exact trivial|exact rfl) ?_)
  refine trM aA (J07 _ _ _ (B0 aC aD (O0.mono bG aB)) _ _ _ _ bS) ?_
  rintro cE aA cG bX ⟨bT,rfl,aF⟩
  have bH:Sub k8 bX:=aF.sub
  have bI:=aF.r
  obtain⟨aU,aV,aG,bJ,aH,aW,rfl,rfl,aJ,aK,aL⟩:=H0 bI
  obtain⟨rfl,bK⟩:=Sl.len aL
  try dsimp only at aA
  have bL:=New.sndI (New.sndI (aF))
  refine aI (aI rfl bH) (aI (by first|exact trivial|exact rfl) ?_)
  refine aI trivial (aI (by first|exact trivial|exact rfl) ?_)
  obtain rfl:=oJ aA
  exact⟨([.int .i64 aU,.int .i64 aV,.slice aG aW.length aH]),rfl,(New.pair (New.int aJ) (New.pair (New.int aK) (New.from bL bG)))⟩
theorem Y05(h:Hp)(cA:List Value)(p0:j0)(gB:Z0.R h cA p0)(r:j0×F0)(aC:t7 p0=some r):
  Tr Tryz.prog 220 #[.agg cA.toArray] h λv h'=>∃(fK:List Value) (a1:Option Addr) (n1 c1:Nat),v = .tuple #[.agg fK.toArray,.slice a1 n1 c1]/\New Z0 h h' fK r.1/\W0.R h' [.slice a1 n1 c1] r.2:=by
 obtain⟨dQ,bL,cC,fL,cD,dR,rfl,rfl,aY,aZ,aJ⟩:=H0 gB
 obtain⟨rfl,fM⟩:=Sl.len aJ
 unfold t7 at aC
 dsimp only at aC
 refine O2 (args:=[.agg #[.int .i64 dQ,.int .i64 bL,.slice cC dR.length cD]]) (fn:=Tryz.f220) rfl ?_
 refine trM aC (N9 _ _ _ (B0 aY aZ aJ)) ?_
 rintro x1 aC v3 k2 ⟨bA,fN,bB,rfl,dN⟩
 have dS:Sub h k2:=dN.sub
 have fO:=dN.r
 obtain⟨cE,cG,bM⟩:=x1
 dsimp only at aC dN fO
 obtain⟨_,_,_,_,_,_,dT,dU,bC,bD,cH⟩:=H0 fO
 cases dT
 cases dU
 obtain⟨rfl,fP⟩:=Sl.len cH
 try dsimp only at aC
 have fQ:=New.sndI (New.sndI (dN))
 refine trV aC (U02 _ _ _ (B0 aY aZ (O0.mono dS aJ))) λx5 aC=>?_
 refine ifB aC (λgC aC=>?_) λgC aC=>?_
 ·intro v7 k8 f9
  obtain⟨dV,dW,rfl,dX,dY,gD⟩:=U0.out (r:=Wp.int.toRp) f9 (show F2 (Wp.int.R k2) ([]:List (List Value)) ([]:F0) from trivial)
  obtain rfl:=oJ aC
  exact⟨([.int .i64 cE,.int .i64 cG,.slice (some ⟨bA,0,none⟩) bM.length bB]),dV,(([]:F0)).length,dW,rfl,(New.pair (New.int bC) (New.pair (New.int bD) (New.mono fQ dY))),dX⟩
 ·obtain⟨X11,cI,aC⟩:=l0 aC
  refine eX { vars:=[6],boxes:=[],owns:=[0],fuel:=true } (eX (λvs os h'=>∃ aH aQ bN,vs.tail = [.int .i64 aH]/\os = [aQ]/\Sub k2 h'/\P0 aH/\F2 (Wp.int.R h') aQ bN/\i6 bL (I1 vs) aH bN=some X11) (eX (λ_ _=>0) (aI (eX Q0 ⟨0,[],([]:F0),rfl,rfl,(Sub.refl _),(by decide),(show F2 (Wp.int.R k2) ([]:List (List Value)) ([]:F0) from trivial),cI⟩) ?_)))
  rintro _ aQ dO fR ⟨aH,fS,bN,⟨⟩,⟨⟩,aR,cJ,aK,aA⟩
  replace aA:i6 bL dO aH bN=some X11:=aA
  obtain _|dO:=dO
  ·cases aA
  rw[i6.eq_2]at aA
  refine ifB aA (λdZ aA=>?_) λdZ aA=>?_
  ·obtain⟨gZ,eA,aA⟩:=l0 aA
   refine aI (J1 eA (by first|rw[F2.length aK,F2.length (show F2 (Wp.int.R fR) ([[.int .i64 aH]]:List (List Value)) [aH] from⟨⟨rfl,cJ⟩,trivial⟩)]|exact congrArg (·+1) (F2.length aK))) ?_
   exact D2 dO ⟨(IntKind.i64.wrap (aH+1)),(aQ++([[.int .i64 aH]]:List (List Value))),(bN ++ [aH]),rfl,rfl,aR,(J0 _),(F2.append aK (show F2 (Wp.int.R fR) ([[.int .i64 aH]]:List (List Value)) [aH] from⟨⟨rfl,cJ⟩,trivial⟩)),aA⟩
  ·obtain rfl:=oJ aA
   try dsimp only[S0,T0]at aC
   obtain⟨X22,cK,aC⟩:=l0 aC
   refine eX { vars:=[5],boxes:=[2],owns:=[],fuel:=true,pubs:=[5] } (eX (λvs os h'=>∃(aS:Option Addr) (bO aL:Nat) (cL:F0) (bE:Int) (aP:Int) (aT:Option Addr) (bP aU:Nat) (bQ:K0),vs.tail = [.slice aS bO aL,.int .i64 bE,.int .i64 aP,.slice aT bP aU]/\os = []/\Sub h h'/\New W0 h h' [.slice aS bO aL] cL/\P0 bE/\P0 aP/\New O0 h h' [.slice aT bP aU] bQ/\C5 (I1 vs) cL bE aP bQ=some X22) (eX (λ_ _=>0) ?_))
   intro hJ hU fT
   obtain⟨eC,eD,rfl,gE,cM,gF⟩:=U0.out (r:=Wp.int.toRp) fT aK
   refine aI (eX Q0 ⟨eC,bN.length,eD,bN,cE,cG,(some ⟨bA,0,none⟩),bM.length,bB,bM,rfl,rfl,((dS.trans aR).trans cM),(New.from (U0.newPlain (r:=Wp.int) fT aK (B04 _)) (dS.trans aR)),bC,bD,(New.mono fQ (aR.trans cM)),cK⟩) ?_
   rintro _ _ _ _ dP hY ⟨aS,bO,aL,cL,bE,aP,aT,bP,aU,bQ,⟨⟩,⟨⟩,gG,bF,aV,aW,bG,aA⟩
   replace aA:C5 dP cL bE aP bQ=some X22:=aA
   obtain _|dP:=dP
   ·cases aA
   rw[C5.eq_2]at aA
   have cN:=bF.r
   obtain⟨rfl,eE⟩:=Sl.len cN
   have aX:=bG.r
   obtain⟨rfl,gH⟩:=Sl.len aX
   refine trM aA (p08 _ _ _ (B0 aV aW aX) 0 (by decide)) ?_
   rintro fU aA hZ gI ⟨gJ,gK,gL,rfl,cO,aF⟩
   obtain⟨rfl,gM⟩:=Sl.len cO
   obtain⟨X32,cP,aA⟩:=l0 aA
   refine eX { vars:=[8,9],boxes:=[],owns:=[],fuel:=true } (eX (λvs os h'=>∃ bH bI,vs.tail = [.int .i64 bH,.int .i64 bI]/\os = []/\Sub gI h'/\P0 bH/\P0 bI/\j4 aP bE bQ fU (I1 vs) bH bI=some X32) (eX (λ_ _=>0) (aI (eX Q0 ⟨0,1,rfl,rfl,(Sub.refl _),(by decide),(by decide),cP⟩) ?_)))
   rintro _ _ cQ eF ⟨bH,bI,⟨⟩,⟨⟩,aD,eG,cR,aB⟩
   replace aB:j4 aP bE bQ fU cQ bH bI=some X32:=aB
   obtain _|cQ:=cQ
   ·cases aB
   rw[j4.eq_2]at aB
   refine ifB aB (λeH aB=>?_) λeH aB=>?_
   ·refine trV aB (E0c _ _ _ (B0 aV aW (O0.mono (aF.trans aD) aX)) _ cR) λgN aB=>?_
    obtain⟨iA,eI,aB⟩:=l0 aB
    have gO:P0 gN:=I0 eI
    obtain⟨iB,eJ,aB⟩:=l0 aB
    obtain⟨fV,cS,eK⟩:=Sl.getG (r:=Wp.bool.toRp) ((Wp.slice Wp.bool).mono aD cO) eJ (by decide) (v0k eF)
    refine aI (λq=>(cS q).1) ?_
    obtain rfl:=eK
    refine eX _ (aI (λq=>(cS q).2) ?_)
    refine ifB aB (λeM aB=>?_) λeM aB=>?_
    ·exact D2 cQ ⟨bI,(IntKind.i64.wrap (bI+1)),rfl,rfl,aD,cR,(J0 _),aB⟩
    ·exact D2 cQ ⟨bH,(IntKind.i64.wrap (bI+1)),rfl,rfl,aD,eG,(J0 _),aB⟩
   ·obtain rfl:=oJ aB
    try dsimp only[S0,T0]at aA
    refine ifB aA (λeN aA=>?_) λeN aA=>?_
    ·obtain rfl:=oJ aA
     try dsimp only[n5,G5]at aC
     obtain rfl:=oJ aC
     exact⟨([.int .i64 bE,.int .i64 aP,.slice aT bQ.length aU]),aS,cL.length,aL,rfl,(New.pair (New.int aV) (New.pair (New.int aW) (New.mono bG (aF.trans aD)))),(W0.mono (aF.trans aD) cN)⟩
    ·obtain⟨X43,cT,aA⟩:=l0 aA
     refine eX { vars:=[11],boxes:=[],owns:=[1],fuel:=true } (eX (λvs os h'=>∃ aG aM bZ,vs.tail = [.int .i64 aG]/\os = [aM]/\Sub eF h'/\P0 aG/\F2 (Wp.int.R h') aM bZ/\B5 aP bH (I1 vs) aG bZ=some X43) (eX (λ_ _=>0) (aI (eX Q0 ⟨0,[],([]:F0),rfl,rfl,(Sub.refl _),(by decide),(show F2 (Wp.int.R eF) ([]:List (List Value)) ([]:F0) from trivial),cT⟩) ?_)))
     rintro _ aM cU fW ⟨aG,fX,bZ,⟨⟩,⟨⟩,aN,cV,aO,aB⟩
     replace aB:B5 aP bH cU aG bZ=some X43:=aB
     obtain _|cU:=cU
     ·cases aB
     rw[B5.eq_2]at aB
     refine ifB aB (λeO aB=>?_) λeO aB=>?_
     ·refine ifB aB (λeP aB=>?_) λeP aB=>?_
      ·obtain⟨iC,eQ,aB⟩:=l0 aB
       refine aI (J1 eQ (by first|rw[F2.length aO,F2.length (show F2 (Wp.int.R fW) ([[.int .i64 aG]]:List (List Value)) [aG] from⟨⟨rfl,cV⟩,trivial⟩)]|exact congrArg (·+1) (F2.length aO))) ?_
       exact D2 cU ⟨(IntKind.i64.wrap (aG+1)),(aM++([[.int .i64 aG]]:List (List Value))),(bZ ++ [aG]),rfl,rfl,aN,(J0 _),(F2.append aO (show F2 (Wp.int.R fW) ([[.int .i64 aG]]:List (List Value)) [aG] from⟨⟨rfl,cV⟩,trivial⟩)),aB⟩
      ·exact D2 cU ⟨(IntKind.i64.wrap (aG+1)),aM,bZ,rfl,rfl,aN,(J0 _),aO,aB⟩
     ·obtain rfl:=oJ aB
      try dsimp only[S0,T0]at aA
      refine Or.inl ?_
      intro iD gP gQ
      obtain⟨gR,gS,rfl,eR,bR,gT⟩:=U0.out (r:=Wp.int.toRp) gQ aO
      refine trM aA (J07 _ _ _ (B0 aV aW (O0.mono (((aF.trans aD).trans aN).trans bR) aX)) _ _ _ _ eR) ?_
      rintro iE aA iF gU ⟨fY,rfl,bS⟩
      have eT:Sub gP gU:=bS.sub
      have eU:=bS.r
      obtain⟨cW,cX,bT,eV,bU,bJ,rfl,rfl,bV,bW,bX⟩:=H0 eU
      obtain⟨rfl,eW⟩:=Sl.len bX
      try dsimp only at aA
      have eY:=New.sndI (New.sndI (bS))
      obtain⟨eZ,cY,aA⟩:=l0 aA
      obtain⟨fA,cZ,aA⟩:=l0 aA
      obtain⟨iG,fB,aA⟩:=l0 aA
      obtain⟨dA,dB,bK,fC,fD,Az62,Cz62,dC,dD,dE,dF,dG,fZ,gA,dH,dI,dJ,dK,dL⟩:=New.drop bF ((((aF.trans aD).trans aN).trans bR).trans eT) cY cZ (Q0r eE cY cZ)
      subst dE
      refine Or.inr (Or.inr (Or.inl (aI (aI (by kernel_rfl) (by kernel_rfl)) ?_)))
      refine Or.inl (eX (.val (.slice (some ⟨fC,fD,none⟩) eZ.length aL)) (aI ?_ ?_))
      ·intro hh sb
       obtain⟨vs,e⟩:=bK hh sb
       exact aI dB (eX vs (aI e (λv _ hv=>aI (congrArg AV.val (dA v hv)) (aI rfl rfl))))
      refine Or.inl (eX (.val (.slice Az62 fA.length Cz62)) (aI ?_ ?_))
      ·intro hh sb
       obtain⟨vs,e⟩:=bK hh sb
       exact aI dG (eX vs (aI e (λv _ hv=>aI (congrArg AV.val (dF v hv)) (aI rfl rfl))))
      refine Or.inr ?_
      refine Or.inl (eX 0 (aI (aI rfl rfl) ?_))
      refine eX dD (aI dI (eX dC (aI dH (aI (J1 fB (by rw[dJ,dK])) ?_))))
      intro gV gW happz62
      obtain⟨bY,⟨fE,gX,fF,rfl⟩,dM⟩:=dL _ _ happz62
      have fG:=bY.r
      obtain⟨fH,gY⟩:=Sl.len fG
      subst fH
      refine aI trivial (aI (by first|exact trivial|exact rfl) ?_)
      have fJ:=dM E1.slice _ _ _ eY (((aF.trans aD).trans aN).trans bR)
      exact D2 dP ⟨fE,(eZ++fA).length,fF,(eZ++fA),cW,cX,bT,bJ.length,bU,bJ,rfl,rfl,bY.sub,bY,bV,bW,fJ,aA⟩
theorem x00(h:Hp)(aT:List Value)(p0:j0)(cG:Z0.R h aT p0)(r:Bool)(aA:C6 p0=some r):
  Tr Tryz.prog 111 #[.agg aT.toArray] h λv h'=>v = .bool r/\h'=h:=by
 obtain⟨bJ,aU,aV,bR,aW,bK,rfl,rfl,aC,aD,aB⟩:=H0 cG
 obtain⟨rfl,bS⟩:=Sl.len aB
 unfold C6 at aA
 dsimp only at aA
 refine Tr.forget (O2 (args:=[.agg #[.int .i64 bJ,.int .i64 aU,.slice aV bK.length aW]]) (fn:=Tryz.f111) rfl ?_)
 refine trV aA (p9 _ _ _ (B0 aC aD aB)) λx1 aA=>?_
 refine ifB aA (λcH aA=>?_) λcH aA=>?_
 ·obtain rfl:=oJ aA
  exact aI rfl (Sub.refl _)
 ·refine trM aA (Y05 _ _ _ (B0 aC aD aB)) ?_
  rintro x3 aA v5 k4 ⟨bL,bT,bU,bV,rfl,aH,aM⟩
  obtain⟨cI,cJ⟩:=x3
  dsimp only at aA aH aM
  have bM:Sub h k4:=aH.sub
  have aX:=aH.r
  obtain⟨bN,aN,bD,bE,bF,bO,rfl,rfl,bG,bH,aK⟩:=H0 aX
  obtain⟨rfl,bI⟩:=Sl.len aK
  try dsimp only at aA
  obtain⟨rfl,bW⟩:=Sl.len aM
  refine Or.inr (Or.inr (Or.inr (Or.inl (aI (aI (by kernel_rfl) (by kernel_rfl)) ?_))))
  refine Or.inl (eX (.val (.bool (decide (aN=aU)))) (aI ?_ ?_))
  ·intro k6 s7
   exact aI rfl (aI rfl rfl)
  obtain⟨x8,cK,aA⟩:=l0 aA
  obtain⟨aY,aZ,aL⟩:=x8
  try dsimp only at aA
  refine Or.inr (eX (λv hh=>∃(aF:Option Addr) (aG:Nat),v = .agg #[.int .i64 aY,.int .i64 aZ,.slice aF aL.length aG]/\P0 aY/\P0 aZ/\O0.R hh [.slice aF aL.length aG] aL/\aL.length<=9223372036854775807) (aI (λv h1 h2 sb q=>by obtain⟨aF,aG,e,f0,f1,f2,f3⟩:=q;exact⟨aF,aG,e,f0,f1,O0.mono sb f2,f3⟩) (aI ?_ ?_)))
  ·intro k9 cL hq
   refine Tr.mono (d03 _ _ _ (B0 aC aD (O0.mono (bM.trans cL) aB)) _ (I7 cK hq)) ?_
   rintro _ kk ⟨cM,rfl,bX⟩
   have sb:=bX.sub
   have cN:=bX.r
   obtain⟨bY,bZ,aO,bP,aP,cA,rfl,ey,aQ,aR,aJ⟩:=H0 cN
   cases ey
   obtain⟨rfl,aS⟩:=Sl.len aJ
   exact aI Y02 (aI sb ⟨aO,aP,rfl,aQ,aR,aJ,aS⟩)
  obtain⟨cO,bQ,aA⟩:=l0 aA
  refine Or.inl (eX (.val (.bool cO)) (aI ?_ ?_))
  ·intro cR cP hq
   rintro _ ⟨cC,cD,rfl,bA,bB,bC,cE⟩
   exact Tr.val (P04 _ _ _ (B0 bA bB bC) _ _ (B0 aC aD (O0.mono (bM.trans cP) aB)) _ (I7 bQ hq)) (aI rfl (aI rfl rfl))
  intro cS cQ
  obtain rfl:=oJ aA
  exact aI rfl (bM.trans cQ)
theorem V0j(h:Hp)(p0:Int)(aB:P0 p0)(p1:Int)(aF:P0 p1)(p2:Int)(aC:P0 p2)(r:M0)(aA:y03 p0 p1 p2=some r):
  Tr Tryz.prog 203 #[.int .i64 p0,.int .i64 p1,.int .i64 p2] h λv h'=>∃(aD:List Value),v = .agg aD.toArray/\E1.R h' aD r/\Sub h h':=by
 unfold y03 at aA
 refine O2 (args:=[.int .i64 p0,.int .i64 p1,.int .i64 p2]) (fn:=Tryz.f203) rfl ?_
 refine ifB aA (λaG aA=>?_) λaG aA=>?_
 ·obtain rfl:=oJ aA
  exact⟨([.int .i64 p2,.int .i64 (IntKind.i64.wrap (0-p1)),.int .i64 p0]),rfl,(L1 aC (J0 _) aB),(Sub.refl _)⟩
 ·obtain rfl:=oJ aA
  exact⟨([.int .i64 p0,.int .i64 p1,.int .i64 p2]),rfl,(L1 aB aF aC),(Sub.refl _)⟩
theorem g02(h:Hp)(aJ:Option Addr)(aP aK:Nat)(p0:K0)(aQ:O0.R h [.slice aJ aP aK] p0)(aG:List Value)(p1:M0)(aX:E1.R h aG p1)(r:Int)(aF:M4 p0 p1=some r):
  Tr Tryz.prog 202 #[.slice aJ aP aK,.agg aG.toArray] h λv h'=>v = .int .i64 r/\h'=h:=by
 obtain⟨rfl,bC⟩:=Sl.len aQ
 obtain⟨aB,aC,aD,rfl,rfl,aR,aS,aT⟩:=N1 aX
 unfold M4 at aF
 dsimp only at aF
 refine Tr.forget (O2 (args:=[.slice aJ p0.length aK,.agg #[.int .i64 aB,.int .i64 aC,.int .i64 aD]]) (fn:=Tryz.f202) rfl ?_)
 obtain⟨X1,aL,aF⟩:=l0 aF
 refine eX { vars:=[8],boxes:=[],owns:=[],fuel:=true } (eX (λvs os h'=>∃ u2,vs.tail = [.int .i64 u2]/\os = []/\Sub h h'/\P0 u2/\Q1 p0 aB aC aD (I1 vs) u2=some X1) (eX (λ_ _=>0) (aI (eX Q0 ⟨0,rfl,rfl,(Sub.refl _),(by decide),aL⟩) ?_)))
 rintro _ m4 k3 ⟨u2,⟨⟩,⟨⟩,aH,bD,aA⟩
 replace aA:Q1 p0 aB aC aD m4 u2=some X1:=aA
 obtain _|m4:=m4
 ·cases aA
 rw[Q1.eq_2]at aA
 refine ifB aA (λaY aA=>?_) λaY aA=>?_
 ·refine Or.inl (aI (aI (by kernel_rfl) (by kernel_rfl)) ?_)
  refine ld aA (O0.mono aH aQ) λx6 aZ bA aA=>?_
  obtain⟨aM,aN,aO,rfl,rfl,aU,aV,aW⟩:=N1 bA
  try dsimp only at aA
  refine eX (eqE (aB,aC,aD) (aM,aN,aO)) (aI (X0c _ _ _ rfl _ _ _ _ _ _) ?_)
  refine ifB aA (λbB aA=>?_) λbB aA=>?_
  ·obtain rfl:=oJ aA
   try dsimp only[n5,G5]at aF
   obtain rfl:=oJ aF
   exact aI rfl aH
  ·exact D2 m4 ⟨(IntKind.i64.wrap (u2+1)),rfl,rfl,aH,(J0 _),aA⟩
 ·obtain rfl:=oJ aA
  try dsimp only[S0,T0]at aF
  obtain rfl:=oJ aF
  exact aI rfl aH
theorem B01(h:Hp)(aG:Option Addr)(aM aH:Nat)(p0:K0)(aN:O0.R h [.slice aG aM aH] p0)(aB:List Value)(p1:M0)(aO:E1.R h aB p1)(r:Bool)(aA:B3 p0 p1=some r):
  Tr Tryz.prog 285 #[.slice aG aM aH,.agg aB.toArray] h λv h'=>v = .bool r/\h'=h:=by
 obtain⟨rfl,aQ⟩:=Sl.len aN
 obtain⟨aJ,aK,aL,rfl,rfl,aC,aD,aF⟩:=N1 aO
 unfold B3 at aA
 dsimp only at aA
 refine Tr.forget (O2 (args:=[.slice aG p0.length aH,.agg #[.int .i64 aJ,.int .i64 aK,.int .i64 aL]]) (fn:=Tryz.f285) rfl ?_)
 refine trV aA (g02 _ _ _ _ _ aN _ _ (L1 aC aD aF)) λx1 aA=>?_
 obtain⟨q2,aP,aA⟩:=l0 aA
 have aR:P0 x1:=I0 aP
 obtain rfl:=oJ aA
 exact aI rfl (Sub.refl _)
theorem W02(h:Hp)(p0:Int)(aM:P0 p0)(aF:Nat)(aG:TypeId)(aC:Int)(aH:P0 aC)(aA:Int)(aJ:P0 aA)(aD:h aF=some (.cells #[.int .i64 aC,.int .i64 aA] aG (0,0)))(r:Int)(aB:D6 p0 (aC,aA)=some r):
  Tr Tryz.prog 366 #[.int .i64 p0,ptr aF 0] h λv h'=>v = .int .i64 r/\h'=h:=by
 unfold D6 at aB
 dsimp only at aB
 refine Tr.forget (O2 (args:=[.int .i64 p0,ptr aF 0]) (fn:=Tryz.f366) rfl ?_)
 refine eX (.int .i64 aA) (aI ⟨rfl,by simp[Hp.cell,(aD)]⟩ ?_)
 refine ifB aB (λaK aB=>?_) λaK aB=>?_
 ·refine eX (.int .i64 aC) (aI ⟨rfl,by simp[Hp.cell,(aD)]⟩ ?_)
  obtain rfl:=oJ aB
  exact aI rfl (Sub.refl _)
 ·refine eX (.int .i64 aA) (aI ⟨rfl,by simp[Hp.cell,(aD)]⟩ ?_)
  refine ifB aB (λaL aB=>?_) λaL aB=>?_
  ·obtain rfl:=oJ aB
   exact aI rfl (Sub.refl _)
  ·obtain rfl:=oJ aB
   exact aI rfl (Sub.refl _)
theorem T0h(h:Hp)(aW:List Value)(p0:j0)(cI:Z0.R h aW p0)(r:K8)(aV:N02 p0=some r):
  Tr Tryz.prog 365 #[.agg aW.toArray] h λv h'=>∃(a0:Option Addr) (n0 c0:Nat),v = .slice a0 n0 c0/\m0h.R h' [.slice a0 n0 c0] r/\Sub h h':=by
 obtain⟨bC,bD,aX,bW,aY,aT,rfl,rfl,bX,bY,aO⟩:=H0 cI
 obtain⟨rfl,bZ⟩:=Sl.len aO
 unfold N02 at aV
 dsimp only at aV
 refine O2 (args:=[.agg #[.int .i64 bC,.int .i64 bD,.slice aX aT.length aY]]) (fn:=Tryz.f365) rfl ?_
 obtain⟨X1,bE,aV⟩:=l0 aV
 refine eX { vars:=[12],boxes:=[],owns:=[0],fuel:=true } (eX (λvs os h'=>∃ u2 bA u3,vs.tail = [.int .i64 u2]/\os = [bA]/\Sub h h'/\P0 u2/\F2 (d4.R h') bA u3/\O8 aT (I1 vs) u2 u3=some X1) (eX (λ_ _=>0) (aI (eX Q0 ⟨0,[],([]:K8),rfl,rfl,(Sub.refl _),(by decide),(show F2 (d4.R h) ([]:List (List Value)) ([]:K8) from trivial),bE⟩) ?_)))
 rintro _ bA m5 k4 ⟨u2,cJ,u3,⟨⟩,⟨⟩,bB,cV,cA,aN⟩
 replace aN:O8 aT m5 u2 u3=some X1:=aN
 obtain _|m5:=m5
 ·cases aN
 rw[O8.eq_2]at aN
 refine ifB aN (λcK aN=>?_) λcK aN=>?_
 ·refine ld aN (O0.mono bB aO) λx7 cL cM aN=>?_
  obtain⟨aD,aZ,aC,rfl,rfl,aK,cC,aJ⟩:=N1 cM
  try dsimp only at aN
  obtain⟨x8,cN,aN⟩:=l0 aN
  obtain⟨cO,bF,cP,cQ⟩:=Sl.cutI (r:=E1.toRp) (O0.mono bB aO) cN
  refine aI cO (eX bF (aI cP ?_))
  intro cR bG _
  obtain⟨cW,cX,rfl,cD⟩:=cQ cR bG
  have cY:=(Sl.len cD).2
  obtain⟨X9,bH,aN⟩:=l0 aN
  refine eX { vars:=[23],boxes:=[],owns:=[0],fuel:=true } (eX (λvs os h'=>∃ aP aM aQ,vs.tail = [.int .i64 aP]/\os = [aM]/\Sub k4 h'/\P0 aP/\F2 (d4.R h') aM aQ/\a5 x8 aZ aD aC (I1 vs) aP aQ=some X9) (eX (λ_ _=>0) (aI (eX Q0 ⟨0,bA,u3,rfl,rfl,(Sub.refl _),(by decide),cA,bH⟩) ?_)))
  rintro _ aM aS aR ⟨aP,cE,aQ,⟨⟩,⟨⟩,aU,cS,aL,aH⟩
  replace aH:a5 x8 aZ aD aC aS aP aQ=some X9:=aH
  obtain _|aS:=aS
  ·cases aH
  rw[a5.eq_2]at aH
  refine ifB aH (λbI aH=>?_) λbI aH=>?_
  ·refine ld aH (O0.mono aU cD) λcZ cG bJ aH=>?_
   obtain⟨aB,cH,aA,rfl,rfl,aG,bK,aF⟩:=N1 bJ
   try dsimp only at aH
   refine ifB aH (λbL aH=>?_) λbL aH=>?_
   ·exact D2 aS ⟨(IntKind.i64.wrap (aP+1)),aM,aQ,rfl,rfl,aU,(J0 _),aL,aH⟩
   ·refine ifB aH (λbM aH=>?_) λbM aH=>?_
    ·obtain⟨dA,bN,aH⟩:=l0 aH
     refine aI (J1 bN (by first|rw[F2.length aL,F2.length (show F2 (d4.R aR) ([[.int .i64 (if aA<aC then aA else aC),.int .i64 (if aA>aC then aA else aC)]]:List (List Value)) [((if aA<aC then aA else aC),(if aA>aC then aA else aC))] from⟨(A2 (j8 aF aJ) (j8 aF aJ)),trivial⟩)]|exact congrArg (·+1) (F2.length aL))) ?_
     refine ifB aH (λbO aH=>?_) λbO aH=>?_
     ·obtain⟨dB,bP,aH⟩:=l0 aH
      refine aI (J1 bP (by first|rw[F2.length (F2.append aL (show F2 (d4.R aR) ([[.int .i64 (if aA<aC then aA else aC),.int .i64 (if aA>aC then aA else aC)]]:List (List Value)) [((if aA<aC then aA else aC),(if aA>aC then aA else aC))] from⟨(A2 (j8 aF aJ) (j8 aF aJ)),trivial⟩)),F2.length (show F2 (d4.R aR) ([[.int .i64 (if aB<aD then aB else aD),.int .i64 (if aB>aD then aB else aD)]]:List (List Value)) [((if aB<aD then aB else aD),(if aB>aD then aB else aD))] from⟨(A2 (j8 aG aK) (j8 aG aK)),trivial⟩)]|exact congrArg (·+1) (F2.length (F2.append aL (show F2 (d4.R aR) ([[.int .i64 (if aA<aC then aA else aC),.int .i64 (if aA>aC then aA else aC)]]:List (List Value)) [((if aA<aC then aA else aC),(if aA>aC then aA else aC))] from⟨(A2 (j8 aF aJ) (j8 aF aJ)),trivial⟩))))) ?_
      exact D2 aS ⟨(IntKind.i64.wrap (aP+1)),((aM++([[.int .i64 (if aA<aC then aA else aC),.int .i64 (if aA>aC then aA else aC)]]:List (List Value)))++([[.int .i64 (if aB<aD then aB else aD),.int .i64 (if aB>aD then aB else aD)]]:List (List Value))),((aQ ++ [((if aA<aC then aA else aC),(if aA>aC then aA else aC))]) ++ [((if aB<aD then aB else aD),(if aB>aD then aB else aD))]),rfl,rfl,aU,(J0 _),(F2.append (F2.append aL (show F2 (d4.R aR) ([[.int .i64 (if aA<aC then aA else aC),.int .i64 (if aA>aC then aA else aC)]]:List (List Value)) [((if aA<aC then aA else aC),(if aA>aC then aA else aC))] from⟨(A2 (j8 aF aJ) (j8 aF aJ)),trivial⟩)) (show F2 (d4.R aR) ([[.int .i64 (if aB<aD then aB else aD),.int .i64 (if aB>aD then aB else aD)]]:List (List Value)) [((if aB<aD then aB else aD),(if aB>aD then aB else aD))] from⟨(A2 (j8 aG aK) (j8 aG aK)),trivial⟩)),aH⟩
     ·exact D2 aS ⟨(IntKind.i64.wrap (aP+1)),(aM++([[.int .i64 (if aA<aC then aA else aC),.int .i64 (if aA>aC then aA else aC)]]:List (List Value))),(aQ ++ [((if aA<aC then aA else aC),(if aA>aC then aA else aC))]),rfl,rfl,aU,(J0 _),(F2.append aL (show F2 (d4.R aR) ([[.int .i64 (if aA<aC then aA else aC),.int .i64 (if aA>aC then aA else aC)]]:List (List Value)) [((if aA<aC then aA else aC),(if aA>aC then aA else aC))] from⟨(A2 (j8 aF aJ) (j8 aF aJ)),trivial⟩)),aH⟩
    ·refine ifB aH (λbQ aH=>?_) λbQ aH=>?_
     ·obtain⟨dC,bR,aH⟩:=l0 aH
      refine aI (J1 bR (by first|rw[F2.length aL,F2.length (show F2 (d4.R aR) ([[.int .i64 (if aB<aD then aB else aD),.int .i64 (if aB>aD then aB else aD)]]:List (List Value)) [((if aB<aD then aB else aD),(if aB>aD then aB else aD))] from⟨(A2 (j8 aG aK) (j8 aG aK)),trivial⟩)]|exact congrArg (·+1) (F2.length aL))) ?_
      exact D2 aS ⟨(IntKind.i64.wrap (aP+1)),(aM++([[.int .i64 (if aB<aD then aB else aD),.int .i64 (if aB>aD then aB else aD)]]:List (List Value))),(aQ ++ [((if aB<aD then aB else aD),(if aB>aD then aB else aD))]),rfl,rfl,aU,(J0 _),(F2.append aL (show F2 (d4.R aR) ([[.int .i64 (if aB<aD then aB else aD),.int .i64 (if aB>aD then aB else aD)]]:List (List Value)) [((if aB<aD then aB else aD),(if aB>aD then aB else aD))] from⟨(A2 (j8 aG aK) (j8 aG aK)),trivial⟩)),aH⟩
     ·exact D2 aS ⟨(IntKind.i64.wrap (aP+1)),aM,aQ,rfl,rfl,aU,(J0 _),aL,aH⟩
  ·obtain rfl:=oJ aH
   try dsimp only[S0,T0]at aN
   exact D2 m5 ⟨(IntKind.i64.wrap (u2+1)),aM,aQ,rfl,rfl,(bB.trans aU),(J0 _),aL,aN⟩
 ·obtain rfl:=oJ aN
  try dsimp only[S0,T0]at aV
  intro dD dE cT
  obtain⟨bS,bT,rfl,bU,bV,cU⟩:=U0.out (r:=d4.toRp) cT cA
  obtain rfl:=oJ aV
  exact⟨bS,u3.length,bT,rfl,bU,(bB.trans bV)⟩
theorem M0b(h:Hp)(aF:List Value)(p0:j0)(aV:Z0.R h aF p0)(r:N4×Bool)(aA:K9 p0=some r):
  Tr Tryz.prog 346 #[.agg aF.toArray] h λv h'=>∃(aQ:List Value),v = .tuple #[.agg aQ.toArray,.bool r.2]/\d4.R h' aQ r.1/\Sub h h':=by
 obtain⟨aL,aM,aG,aR,aH,aN,rfl,rfl,aC,aD,aB⟩:=H0 aV
 obtain⟨rfl,aS⟩:=Sl.len aB
 unfold K9 at aA
 dsimp only at aA
 refine O2 (args:=[.agg #[.int .i64 aL,.int .i64 aM,.slice aG aN.length aH]]) (fn:=Tryz.f346) rfl ?_
 refine trV aA (U02 _ _ _ (B0 aC aD aB)) λx1 aA=>?_
 refine ifB aA (λaW aA=>?_) λaW aA=>?_
 ·obtain rfl:=oJ aA
  exact⟨([.int .i64 0,.int .i64 0]),rfl,(A2 (by decide) (by decide)),(Sub.refl _)⟩
 ·refine trM aA (T0h _ _ _ (B0 aC aD aB)) ?_
  rintro x3 aA v5 k4 ⟨bA,bB,bC,rfl,aT,aU⟩
  obtain⟨rfl,bD⟩:=Sl.len aT
  refine ifB aA (λaX aA=>?_) λaX aA=>?_
  ·obtain rfl:=oJ aA
   exact⟨([.int .i64 0,.int .i64 0]),rfl,(A2 (by decide) (by decide)),aU⟩
  ·refine ld aA aT λx7 aY aZ aA=>?_
   obtain⟨aO,aP,rfl,rfl,aJ,aK⟩:=A00 aZ
   try dsimp only at aA
   obtain rfl:=oJ aA
   exact⟨([.int .i64 aO,.int .i64 aP]),rfl,(A2 aJ aK),aU⟩
theorem K07(h:Hp)(aY:List Value)(p0:j0)(dA:Z0.R h aY p0)(aZ:List Value)(p1:N4)(dB:d4.R h aZ p1)(r:j0×Bool)(aB:p7 p0 p1=some r):
  Tr Tryz.prog 347 #[.agg aY.toArray,.agg aZ.toArray] h λv h'=>∃(cM:List Value),v = .tuple #[.agg cM.toArray,.bool r.2]/\New Z0 h h' cM r.1:=by
 obtain⟨bM,bN,bA,cN,bB,bO,rfl,rfl,aK,aL,aF⟩:=H0 dA
 obtain⟨rfl,cO⟩:=Sl.len aF
 obtain⟨aC,aD,rfl,rfl,aM,aN⟩:=A00 dB
 unfold p7 at aB
 dsimp only at aB
 refine O2 (args:=[.agg #[.int .i64 bM,.int .i64 bN,.slice bA bO.length bB],.agg #[.int .i64 aC,.int .i64 aD]]) (fn:=Tryz.f347) rfl ?_
 refine trM aB (N9 _ _ _ (B0 aK aL aF)) ?_
 rintro x1 aB v3 k2 ⟨aG,cP,aO,rfl,bK⟩
 have cQ:Sub h k2:=bK.sub
 have cR:=bK.r
 obtain⟨bC,bD,aH⟩:=x1
 dsimp only at aB bK cR
 obtain⟨_,_,_,_,_,_,bP,bQ,aP,bE,bF⟩:=H0 cR
 cases bP
 cases bQ
 obtain⟨rfl,cS⟩:=Sl.len bF
 try dsimp only at aB
 have bR:=New.sndI (New.sndI (bK))
 refine trV aB (U02 _ _ _ (B0 aK aL (O0.mono cQ aF))) λx5 aB=>?_
 refine ifB aB (λdC aB=>?_) λdC aB=>?_
 ·obtain rfl:=oJ aB
  exact⟨([.int .i64 bC,.int .i64 bD,.slice (some ⟨aG,0,none⟩) aH.length aO]),rfl,(New.pair (New.int aP) (New.pair (New.int bE) bR))⟩
 ·intro b7 bS
  have dD:(Hp.set k2 b7 (.cells #[.int .i64 aC,.int .i64 aD] 246 (0,0))) b7=some (.cells #[.int .i64 aC,.int .i64 aD] 246 (0,0)):=Hp.set_same _ _ _
  have neb7gx1_2:b7≠aG:=λe=>New.blk bR (Sub.refl _) (e▸bS)
  obtain⟨X8,bT,aB⟩:=l0 aB
  refine eX { vars:=[39],boxes:=[],owns:=[],fuel:=true } (eX (λvs os h'=>∃ u9 bG,vs.tail = [.int .i64 u9]/\os = []/\Sub h h'/\P0 u9/\New O0 h h' [.slice (some ⟨aG,0,none⟩) aH.length aO] bG/\h' b7=some (.cells #[.int .i64 aC,.int .i64 aD] 246 (0,0))/\G4 aH aC aD (I1 vs) u9 bG=some X8) (eX (λ_ _=>0) (aI (eX Q0 ⟨0,aH,rfl,rfl,(cQ.trans (Sub.set bS)),(by decide),(New.mono bR (Sub.set bS)),dD,bT⟩) ?_)))
  rintro _ bL dE ⟨u9,bG,⟨⟩,⟨⟩,dF,dQ,aQ,aR,aA⟩
  replace aA:G4 aH aC aD bL u9 bG=some X8:=aA
  obtain _|bL:=bL
  ·cases aA
  rw[G4.eq_2]at aA
  have aS:=aQ.r
  refine ifB aA (λbU aA=>?_) λbU aA=>?_
  ·refine ld aA aS λdR cT bV aA=>?_
   obtain⟨cU,aJ,cV,rfl,rfl,aT,aU,aV⟩:=N1 bV
   try dsimp only at aA
   refine Or.inr (Or.inr (Or.inl (aI (aI (by kernel_rfl) (by kernel_rfl)) ?_)))
   obtain⟨bH,bW,aA⟩:=l0 aA
   obtain⟨dS,bX,aA⟩:=l0 aA
   have bY:P0 bH:=I0 bX
   refine Or.inl (eX (.val (.int .i64 bH)) (aI ?_ ?_))
   ·intro dT dG
    exact Tr.val (W02 _ _ aT b7 246 _ aM _ aN (dG _ _ aR) _ bW) (aI rfl (aI rfl rfl))
   obtain⟨bI,bZ,aA⟩:=l0 aA
   obtain⟨dU,cA,aA⟩:=l0 aA
   have cC:P0 bI:=I0 cA
   refine Or.inl (eX (.val (.int .i64 bI)) (aI ?_ ?_))
   ·intro dV dH
    exact Tr.val (W02 _ _ aV b7 246 _ aM _ aN (dH _ _ aR) _ bZ) (aI rfl (aI rfl rfl))
   refine Or.inl (eX (.agg [.val (.int .i64 bH),.val (.int .i64 aJ),.val (.int .i64 bI)]) (aI ?_ ?_))
   ·intro dW dX
    exact aI rfl (aI rfl rfl)
   refine Or.inr ?_
   refine Or.inr ?_
   refine Or.inl (eX 0 (aI (aI rfl rfl) ?_))
   obtain⟨dY,aW,aA⟩:=l0 aA
   obtain⟨cD,cW,dI,cE⟩:=Sl.getI (r:=E1.toRp) aS aW (by decide)
   refine aI cD ?_
   obtain⟨cX,cY,cZ,rfl,rfl,cG,cH,cI⟩:=N1 cE
   try dsimp only at aA
   refine aI trivial (aI (by first|exact trivial|exact rfl) ?_)
   refine New.put (r:=E1) aQ (Sub.refl _) (V0q aW).1 (new:=[.int .i64 bH,.int .i64 aJ,.int .i64 bI]) (By:=[]) (H0b _ _ _ (L1 bY aU cC)) (K6.nil _) rfl (V0q aW).2 ?_
   intro dJ w28 bJ _
   have dK:=w28.r
   have hpw28b7:dJ b7=some (.cells #[.int .i64 aC,.int .i64 aD] 246 (0,0)):=(bJ b7 neb7gx1_2).trans aR
   refine aI trivial (aI (by first|exact trivial|exact rfl) ?_)
   exact D2 bL ⟨(IntKind.i64.wrap (u9+1)),(bG.set u9.toNat (bH,aJ,bI)),rfl,rfl,w28.sub,(J0 _),w28,(hpw28b7),aA⟩
  ·obtain rfl:=oJ aA
   try dsimp only[S0,T0]at aB
   refine trM aB (t05 _ _ _ _ _ aS) ?_
   rintro dL aB dZ dM ⟨cJ,dN,cK,rfl,aX⟩
   have dO:Sub dE dM:=aX.sub
   have cL:=aX.r
   obtain⟨rfl,dP⟩:=Sl.len cL
   obtain rfl:=oJ aB
   exact⟨([.int .i64 bC,.int .i64 (IntKind.i64.wrap (bD-1)),.slice cJ dL.length cK]),rfl,(New.pair (New.int aP) (New.pair (New.int (J0 _)) (New.from aX dF)))⟩
theorem F0c(h:Hp)(aU:List Value)(p0:j0)(bZ:Z0.R h aU p0)(r:j0×N4×Bool)(aA:j01 p0=some r):
  Tr Tryz.prog 331 #[.agg aU.toArray] h λv h'=>∃(bS:List Value) (bT:List Value),v = .tuple #[.agg bS.toArray,.agg bT.toArray,.bool r.2.2]/\New Z0 h h' bS r.1/\d4.R h' bT r.2.1:=by
 obtain⟨bH,bI,aV,bU,aW,bJ,rfl,rfl,aG,aH,aB⟩:=H0 bZ
 obtain⟨rfl,bV⟩:=Sl.len aB
 unfold j01 at aA
 dsimp only at aA
 refine O2 (args:=[.agg #[.int .i64 bH,.int .i64 bI,.slice aV bJ.length aW]]) (fn:=Tryz.f331) rfl ?_
 refine trM aA (M0b _ _ _ (B0 aG aH aB)) ?_
 rintro x1 aA v3 k2 ⟨bK,rfl,aO,bD⟩
 obtain⟨cA,cC⟩:=x1
 dsimp only at aA aO
 obtain⟨aP,aQ,rfl,rfl,aC,aD⟩:=A00 aO
 try dsimp only at aA
 refine ifB aA (λcD aA=>?_) λcD aA=>?_
 ·refine trM aA (N9 _ _ _ (B0 aG aH (O0.mono bD aB))) ?_
  rintro x5 aA v7 k6 ⟨aX,bW,aY,rfl,bE⟩
  have cJ:Sub k2 k6:=bE.sub
  have bX:=bE.r
  obtain⟨bL,bM,bN⟩:=x5
  dsimp only at aA bE bX
  obtain⟨_,_,_,_,_,_,bO,bP,aZ,bA,bB⟩:=H0 bX
  cases bO
  cases bP
  obtain⟨rfl,bY⟩:=Sl.len bB
  try dsimp only at aA
  have cE:=New.sndI (New.sndI (bE))
  obtain rfl:=oJ aA
  exact⟨([.int .i64 bL,.int .i64 bM,.slice (some ⟨aX,0,none⟩) bN.length aY]),([.int .i64 0,.int .i64 0]),rfl,(New.pair (New.int aZ) (New.pair (New.int bA) (New.from cE bD))),(A2 (by decide) (by decide))⟩
 ·refine trM aA (K07 _ _ _ (B0 aG aH (O0.mono bD aB)) _ _ (A2 aC aD)) ?_
  rintro x9 aA cK cG ⟨bQ,rfl,aF⟩
  obtain⟨cH,cI⟩:=x9
  dsimp only at aA aF
  have cL:Sub k2 cG:=aF.sub
  have bC:=aF.r
  obtain⟨aR,aS,aJ,bF,aK,aT,rfl,rfl,aL,aM,aN⟩:=H0 bC
  obtain⟨rfl,bG⟩:=Sl.len aN
  try dsimp only at aA
  have bR:=New.sndI (New.sndI (aF))
  refine Or.inr (Or.inr (Or.inl (aI (aI (by kernel_rfl) (by kernel_rfl)) ?_)))
  refine Or.inr ?_
  refine Or.inr ?_
  refine Or.inl (eX 0 (aI (aI rfl rfl) ?_))
  refine aI trivial (aI (by first|exact trivial|exact rfl) ?_)
  refine aI trivial (aI (by first|exact trivial|exact rfl) ?_)
  obtain rfl:=oJ aA
  exact⟨([.int .i64 aR,.int .i64 aS,.slice aJ aT.length aK]),([.int .i64 aP,.int .i64 aQ]),rfl,(New.pair (New.int aL) (New.pair (New.int aM) (New.from bR bD))),(A2 aC aD)⟩
theorem Y0e(h:Hp)(aV:List Value)(p0:j0)(cX:Z0.R h aV p0)(r:j0×K8)(aQ:L01 p0=some r):
  Tr Tryz.prog 283 #[.agg aV.toArray] h λv h'=>∃(cK:List Value) (a1:Option Addr) (n1 c1:Nat),v = .tuple #[.agg cK.toArray,.slice a1 n1 c1]/\New Z0 h h' cK r.1/\m0h.R h' [.slice a1 n1 c1] r.2:=by
 obtain⟨bR,bS,aW,cL,aX,bT,rfl,rfl,aY,aZ,aT⟩:=H0 cX
 obtain⟨rfl,cM⟩:=Sl.len aT
 unfold L01 at aQ
 dsimp only at aQ
 refine O2 (args:=[.agg #[.int .i64 bR,.int .i64 bS,.slice aW bT.length aX]]) (fn:=Tryz.f283) rfl ?_
 refine trM aQ (N9 _ _ _ (B0 aY aZ aT)) ?_
 rintro x1 aQ v3 k2 ⟨bA,cN,bB,rfl,bJ⟩
 have cY:Sub h k2:=bJ.sub
 have cO:=bJ.r
 obtain⟨bU,bV,bC⟩:=x1
 dsimp only at aQ bJ cO
 obtain⟨_,_,_,_,_,_,bW,bX,bD,bE,bF⟩:=H0 cO
 cases bW
 cases bX
 obtain⟨rfl,cP⟩:=Sl.len bF
 try dsimp only at aQ
 have cZ:=New.sndI (New.sndI (bJ))
 obtain⟨X5,bY,aQ⟩:=l0 aQ
 refine eX { vars:=[],boxes:=[2],owns:=[0],fuel:=true } (eX (λvs os h'=>∃ u6 u7 bK bZ bL u8 bM u9,vs.tail = [.int .i64 u6,.int .i64 u7,.slice bK bZ bL]/\os = [bM]/\Sub k2 h'/\P0 u6/\P0 u7/\New O0 h h' [.slice bK bZ bL] u8/\F2 (d4.R h') bM u9/\r7 (I1 vs) u6 u7 u8 u9=some X5) (eX (λ_ _=>0) (aI (eX Q0 ⟨bU,bV,(some ⟨bA,0,none⟩),bC.length,bB,bC,[],([]:K8),rfl,rfl,(Sub.refl _),bD,bE,cZ,(show F2 (d4.R k2) ([]:List (List Value)) ([]:K8) from trivial),bY⟩) ?_)))
 rintro _ _ _ bM bN dA ⟨u6,u7,bK,bZ,bL,u8,dB,u9,⟨⟩,⟨⟩,cQ,cR,cS,bG,bO,aG⟩
 replace aG:r7 bN u6 u7 u8 u9=some X5:=aG
 obtain _|bN:=bN
 ·cases aG
 rw[r7.eq_2]at aG
 have cT:=bG.r
 obtain⟨rfl,dF⟩:=Sl.len cT
 refine trM aG (F0c _ _ _ (B0 cR cS cT)) ?_
 rintro dC aG dG cA ⟨bP,bQ,rfl,aC,aK⟩
 obtain⟨cU,cV,cW⟩:=dC
 dsimp only at aG aC aK
 have aJ:Sub dA cA:=aC.sub
 have aU:=aC.r
 obtain⟨aR,aS,aL,bH,aM,aH,rfl,rfl,aN,aO,aP⟩:=H0 aU
 obtain⟨rfl,bI⟩:=Sl.len aP
 try dsimp only at aG
 have cC:=New.sndI (New.sndI (aC))
 obtain⟨aA,aB,rfl,rfl,aD,aF⟩:=A00 aK
 try dsimp only at aG
 refine ifB aG (λcD aG=>?_) λcD aG=>?_
 ·intro dH dI dD
  obtain⟨cE,cG,rfl,cH,cI,dE⟩:=U0.out (r:=d4.toRp) dD (F2.up (r:=d4.toRp) aJ bO)
  obtain rfl:=oJ aG
  try dsimp only[n5,G5]at aQ
  obtain rfl:=oJ aQ
  exact⟨([.int .i64 u6,.int .i64 u7,.slice bK u8.length bL]),cE,u9.length,cG,rfl,(New.pair (New.int cR) (New.pair (New.int cS) (New.mono bG (aJ.trans cI)))),cH⟩
 ·obtain⟨dJ,cJ,aG⟩:=l0 aG
  refine aI (J1 cJ (by first|rw[F2.length (F2.up (r:=d4.toRp) aJ bO),F2.length (show F2 (d4.R cA) ([[.int .i64 aA,.int .i64 aB]]:List (List Value)) [(aA,aB)] from⟨(A2 aD aF),trivial⟩)]|exact congrArg (·+1) (F2.length (F2.up (r:=d4.toRp) aJ bO)))) ?_
  exact D2 bN ⟨aR,aS,aL,aH.length,aM,aH,(bM++([[.int .i64 aA,.int .i64 aB]]:List (List Value))),(u9 ++ [(aA,aB)]),rfl,rfl,(cQ.trans aJ),aN,aO,(New.from cC (cY.trans cQ)),(F2.append (F2.up (r:=d4.toRp) aJ bO) (show F2 (d4.R cA) ([[.int .i64 aA,.int .i64 aB]]:List (List Value)) [(aA,aB)] from⟨(A2 aD aF),trivial⟩)),aG⟩
theorem q08(h:Hp)(aT:List Value)(p0:j0)(bT:Z0.R h aT p0)(r:K0)(aD:S7 p0=some r):
  Tr Tryz.prog 292 #[.agg aT.toArray] h λv h'=>∃(a0:Option Addr) (n0 c0:Nat),v = .slice a0 n0 c0/\O0.R h' [.slice a0 n0 c0] r/\Sub h h':=by
 obtain⟨aF,aG,aU,bN,aV,aH,rfl,rfl,aJ,aN,aK⟩:=H0 bT
 obtain⟨rfl,bO⟩:=Sl.len aK
 unfold S7 at aD
 dsimp only at aD
 refine O2 (args:=[.agg #[.int .i64 aF,.int .i64 aG,.slice aU aH.length aV]]) (fn:=Tryz.f292) rfl ?_
 refine trV aD (p9 _ _ _ (B0 aJ aN aK)) λx1 aD=>?_
 refine ifB aD (λbU aD=>?_) λbU aD=>?_
 ·intro v3 k4 f5
  obtain⟨bV,bW,rfl,bX,bY,cM⟩:=U0.out (r:=E1.toRp) f5 (show F2 (E1.R h) ([]:List (List Value)) ([]:K0) from trivial)
  obtain rfl:=oJ aD
  exact⟨bV,(([]:K0)).length,bW,rfl,bX,bY⟩
 ·obtain⟨X7,bB,aD⟩:=l0 aD
  refine eX { vars:=[4],boxes:=[],owns:=[0],fuel:=true } (eX (λvs os h'=>∃ u8 aZ u9,vs.tail = [.int .i64 u8]/\os = [aZ]/\Sub h h'/\P0 u8/\F2 (E1.R h') aZ u9/\P4 aG aF aH (I1 vs) u8 u9=some X7) (eX (λ_ _=>0) (aI (eX Q0 ⟨0,[],([]:K0),rfl,rfl,(Sub.refl _),(by decide),(show F2 (E1.R h) ([]:List (List Value)) ([]:K0) from trivial),bB⟩) ?_)))
  rintro _ aZ bA cN ⟨u8,bZ,u9,⟨⟩,⟨⟩,bC,bD,bP,aB⟩
  replace aB:P4 aG aF aH bA u8 u9=some X7:=aB
  obtain _|bA:=bA
  ·cases aB
  rw[P4.eq_2]at aB
  refine ifB aB (λbE aB=>?_) λbE aB=>?_
  ·refine trM aB (Q04 _ _ aJ) ?_
   rintro bQ aB cO cA ⟨cC,cD,cE,rfl,aW,aO⟩
   obtain⟨rfl,cG⟩:=Sl.len aW
   obtain⟨X16,aX,aB⟩:=l0 aB
   refine eX { vars:=[22],boxes:=[],owns:=[0],fuel:=true } (eX (λvs os h'=>∃ aP aC aQ,vs.tail = [.int .i64 aP]/\os = [aC]/\Sub cA h'/\P0 aP/\F2 (E1.R h') aC aQ/\O3 bQ aF aG aH u8 (I1 vs) aP aQ=some X16) (eX (λ_ _=>0) (aI (eX Q0 ⟨0,aZ,u9,rfl,rfl,(Sub.refl _),(by decide),(F2.up (r:=E1.toRp) aO bP),aX⟩) ?_)))
   rintro _ aC aY bR ⟨aP,bS,aQ,⟨⟩,⟨⟩,aL,cH,aM,aA⟩
   replace aA:O3 bQ aF aG aH u8 aY aP aQ=some X16:=aA
   obtain _|aY:=aY
   ·cases aA
   rw[O3.eq_2]at aA
   refine ifB aA (λbF aA=>?_) λbF aA=>?_
   ·refine ldI aA (W0.mono aL aW) λaS aR aA=>?_
    refine trV aA (i9 _ _ _ (B0 aJ aN (O0.mono ((bC.trans aO).trans aL) aK)) _ bD _ aR) λcI aA=>?_
    obtain⟨cP,bG,aA⟩:=l0 aA
    have cJ:P0 cI:=I0 bG
    refine ifB aA (λbH aA=>?_) λbH aA=>?_
    ·obtain⟨cQ,bI,aA⟩:=l0 aA
     refine aI (J1 bI (by first|rw[F2.length aM,F2.length (show F2 (E1.R bR) ([[.int .i64 u8,.int .i64 aS,.int .i64 (-1)]]:List (List Value)) [(u8,aS,(-1))] from⟨(L1 bD aR (by decide)),trivial⟩)]|exact congrArg (·+1) (F2.length aM))) ?_
     exact D2 aY ⟨(IntKind.i64.wrap (aP+1)),(aC++([[.int .i64 u8,.int .i64 aS,.int .i64 (-1)]]:List (List Value))),(aQ ++ [(u8,aS,(-1))]),rfl,rfl,aL,(J0 _),(F2.append aM (show F2 (E1.R bR) ([[.int .i64 u8,.int .i64 aS,.int .i64 (-1)]]:List (List Value)) [(u8,aS,(-1))] from⟨(L1 bD aR (by decide)),trivial⟩)),aA⟩
    ·exact D2 aY ⟨(IntKind.i64.wrap (aP+1)),aC,aQ,rfl,rfl,aL,(J0 _),aM,aA⟩
   ·obtain rfl:=oJ aA
    try dsimp only[S0,T0]at aB
    exact D2 bA ⟨(IntKind.i64.wrap (u8+1)),aC,aQ,rfl,rfl,((bC.trans aO).trans aL),(J0 _),aM,aB⟩
  ·obtain rfl:=oJ aB
   try dsimp only[S0,T0]at aD
   intro cR cS cK
   obtain⟨bJ,bK,rfl,bL,bM,cL⟩:=U0.out (r:=E1.toRp) cK bP
   obtain rfl:=oJ aD
   exact⟨bJ,u9.length,bK,rfl,bL,(bC.trans bM)⟩
theorem N0b(h:Hp)(aO:List Value)(p0:j0)(cN:Z0.R h aO p0)(r:j0)(aA:I00 p0=some r):
  Tr Tryz.prog 196 #[.agg aO.toArray] h λv h'=>∃(bY:List Value),v = .agg bY.toArray/\New Z0 h h' bY r:=by
 obtain⟨bI,bJ,aP,bZ,aQ,bK,rfl,rfl,aR,aS,aL⟩:=H0 cN
 obtain⟨rfl,cA⟩:=Sl.len aL
 unfold I00 at aA
 dsimp only at aA
 refine O2 (args:=[.agg #[.int .i64 bI,.int .i64 bJ,.slice aP bK.length aQ]]) (fn:=Tryz.f196) rfl ?_
 refine trM aA (Y0e _ _ _ (B0 aR aS aL)) ?_
 rintro x1 aA v3 k2 ⟨bL,cC,cD,cE,rfl,aB,aM⟩
 obtain⟨cO,cP⟩:=x1
 dsimp only at aA aB aM
 have cQ:Sub h k2:=aB.sub
 have aT:=aB.r
 obtain⟨bM,bN,bA,bB,bC,bO,rfl,rfl,aG,aH,aC⟩:=H0 aT
 obtain⟨rfl,bD⟩:=Sl.len aC
 try dsimp only at aA
 have cX:=New.sndI (New.sndI (aB))
 obtain⟨rfl,cG⟩:=Sl.len aM
 refine trM aA (Y05 _ _ _ (B0 aG aH aC)) ?_
 rintro x5 aA v7 k6 ⟨bP,cH,cI,cJ,rfl,aD,aN⟩
 obtain⟨cR,cS⟩:=x5
 dsimp only at aA aD aN
 have cT:Sub k2 k6:=aD.sub
 have aU:=aD.r
 obtain⟨bQ,bR,bE,bF,bG,bS,rfl,rfl,aJ,aK,aF⟩:=H0 aU
 obtain⟨rfl,bH⟩:=Sl.len aF
 try dsimp only at aA
 have cY:=New.sndI (New.sndI (aD))
 obtain⟨rfl,cK⟩:=Sl.len aN
 refine trM aA (d03 _ _ _ (B0 aJ aK aF)) ?_
 rintro x9 aA cZ cU ⟨cV,rfl,bT⟩
 have dA:Sub k6 cU:=bT.sub
 have cW:=bT.r
 obtain⟨bU,bV,aV,cL,aW,bW,rfl,rfl,aX,aY,aZ⟩:=H0 cW
 obtain⟨rfl,cM⟩:=Sl.len aZ
 try dsimp only at aA
 have bX:=New.sndI (New.sndI (bT))
 obtain rfl:=oJ aA
 exact⟨([.int .i64 bU,.int .i64 bV,.slice aV bW.length aW]),rfl,(New.pair (New.int aX) (New.pair (New.int aY) (New.from bX (cQ.trans cT))))⟩
theorem V01(h:Hp)(aF:List Value)(p0:j0)(aP:Z0.R h aF p0)(r:Bool)(aB:t6 p0=some r):
  Tr Tryz.prog 210 #[.agg aF.toArray] h λv h'=>v = .bool r/\h'=h:=by
 obtain⟨aJ,aK,aG,aM,aH,aL,rfl,rfl,aC,aD,aA⟩:=H0 aP
 obtain⟨rfl,aN⟩:=Sl.len aA
 unfold t6 at aB
 dsimp only at aB
 refine Tr.forget (O2 (args:=[.agg #[.int .i64 aJ,.int .i64 aK,.slice aG aL.length aH]]) (fn:=Tryz.f210) rfl ?_)
 refine aI (by kernel_rfl) ?_
 obtain⟨x1,aQ,aB⟩:=l0 aB
 refine Or.inl (eX (.val (.bool x1)) (aI ?_ ?_))
 ·intro k2 s3
  exact Tr.val (x00 _ _ _ (B0 aC aD (O0.mono s3 aA)) _ aQ) (aI rfl (aI rfl rfl))
 obtain⟨x4,aR,aB⟩:=l0 aB
 refine Or.inr (eX (λv hh=>∃(a:Option Addr) (c:Nat),v = .slice a x4.length c/\O0.R hh [.slice a x4.length c] x4/\x4.length<=9223372036854775807) (aI (λv h1 h2 sb q=>by obtain⟨a,c,e,r,l⟩:=q;exact⟨a,c,e,O0.mono sb r,l⟩) (aI ?_ ?_)))
 ·intro k5 s6 hq
  refine Tr.mono (q08 _ _ _ (B0 aC aD (O0.mono s6 aA)) _ (I7 aR hq)) ?_
  rintro _ kk ⟨aS,bA,aT,rfl,aO,sb⟩
  obtain⟨rfl,aU⟩:=Sl.len aO
  exact aI Y02 (aI sb ⟨aS,aT,rfl,aO,aU⟩)
 obtain⟨q7,bB,aB⟩:=l0 aB
 refine Or.inl (eX (.val (.int .i64 ((x4.length:Nat):Int))) (aI ?_ ?_))
 ·intro k8 s9 hq
  rintro _ ⟨aV,aW,rfl,aX,aY⟩
  exact aI rfl (aI rfl rfl)
 refine Or.inl (eX (.val (.bool (decide (((x4.length:Nat):Int)=0)))) (aI ?_ ?_))
 ·intro bC bD hq
  exact aI rfl (aI rfl rfl)
 intro bE aZ
 obtain rfl:=oJ aB
 exact aI rfl aZ
theorem G0c(h:Hp)(aV:List Value)(p0:j0)(cY:Z0.R h aV p0)(p1:Int)(cI:P0 p1)(r:j0×Bool)(aA:m01 p0 p1=some r):
  Tr Tryz.prog 209 #[.agg aV.toArray,.int .i64 p1] h λv h'=>∃(cJ:List Value),v = .tuple #[.agg cJ.toArray,.bool r.2]/\New Z0 h h' cJ r.1:=by
 obtain⟨bK,aK,aW,cK,aX,bL,rfl,rfl,aD,aF,aB⟩:=H0 cY
 obtain⟨rfl,cL⟩:=Sl.len aB
 unfold m01 at aA
 dsimp only at aA
 refine O2 (args:=[.agg #[.int .i64 bK,.int .i64 aK,.slice aW bL.length aX],.int .i64 p1]) (fn:=Tryz.f209) rfl ?_
 refine trV aA (p9 _ _ _ (B0 aD aF aB)) λx1 aA=>?_
 refine trG aA (λq=>Q00 _ _ _ (B0 aD aF aB) _ cI) λx2 aA=>?_
 refine ifB aA (λcZ aA=>?_) λcZ aA=>?_
 ·refine trM aA (N9 _ _ _ (B0 aD aF aB)) ?_
  rintro x4 aA v6 k5 ⟨aY,cM,aZ,rfl,bI⟩
  have dJ:Sub h k5:=bI.sub
  have cN:=bI.r
  obtain⟨bM,bN,bO⟩:=x4
  dsimp only at aA bI cN
  obtain⟨_,_,_,_,_,_,bP,bQ,bA,bB,bC⟩:=H0 cN
  cases bP
  cases bQ
  obtain⟨rfl,cO⟩:=Sl.len bC
  try dsimp only at aA
  have dA:=New.sndI (New.sndI (bI))
  obtain rfl:=oJ aA
  exact⟨([.int .i64 bM,.int .i64 bN,.slice (some ⟨aY,0,none⟩) bO.length aZ]),rfl,(New.pair (New.int bA) (New.pair (New.int bB) dA))⟩
 ·obtain⟨X8,bR,aA⟩:=l0 aA
  refine eX { vars:=[7],boxes:=[],owns:=[0],fuel:=true } (eX (λvs os h'=>∃ u9 aG aU,vs.tail = [.int .i64 u9]/\os = [aG]/\Sub h h'/\P0 u9/\F2 (Wp.int.R h') aG aU/\T6 aK p1 (I1 vs) u9 aU=some X8) (eX (λ_ _=>0) (aI (eX Q0 ⟨0,([[.int .i64 p1]]:List (List Value)),[p1],rfl,rfl,(Sub.refl _),(by decide),(show F2 (Wp.int.R h) ([[.int .i64 p1]]:List (List Value)) [p1] from⟨⟨rfl,cI⟩,trivial⟩),bR⟩) ?_)))
  rintro _ aG bD cP ⟨u9,cQ,aU,⟨⟩,⟨⟩,bJ,cR,aH,aC⟩
  replace aC:T6 aK p1 bD u9 aU=some X8:=aC
  obtain _|bD:=bD
  ·cases aC
  rw[T6.eq_2]at aC
  refine ifB aC (λbS aC=>?_) λbS aC=>?_
  ·refine ifB aC (λbT aC=>?_) λbT aC=>?_
   ·obtain⟨dK,bU,aC⟩:=l0 aC
    refine aI (J1 bU (by first|rw[F2.length aH,F2.length (show F2 (Wp.int.R cP) ([[.int .i64 u9]]:List (List Value)) [u9] from⟨⟨rfl,cR⟩,trivial⟩)]|exact congrArg (·+1) (F2.length aH))) ?_
    exact D2 bD ⟨(IntKind.i64.wrap (u9+1)),(aG++([[.int .i64 u9]]:List (List Value))),(aU ++ [u9]),rfl,rfl,bJ,(J0 _),(F2.append aH (show F2 (Wp.int.R cP) ([[.int .i64 u9]]:List (List Value)) [u9] from⟨⟨rfl,cR⟩,trivial⟩)),aC⟩
   ·exact D2 bD ⟨(IntKind.i64.wrap (u9+1)),aG,aU,rfl,rfl,bJ,(J0 _),aH,aC⟩
  ·obtain rfl:=oJ aC
   try dsimp only[S0,T0]at aA
   refine Or.inl ?_
   intro dL dB dC
   obtain⟨dD,dE,rfl,bV,bE,dF⟩:=U0.out (r:=Wp.int.toRp) dC aH
   refine trM aA (J07 _ _ _ (B0 aD aF (O0.mono (bJ.trans bE) aB)) _ _ _ _ bV) ?_
   rintro dM aA dN cS ⟨cT,rfl,aL⟩
   have bW:Sub dB cS:=aL.sub
   have bX:=aL.r
   obtain⟨cU,cV,bY,bZ,cA,cW,rfl,rfl,aM,aN,aJ⟩:=H0 bX
   obtain⟨rfl,cC⟩:=Sl.len aJ
   try dsimp only at aA
   have dG:=New.sndI (New.sndI (aL))
   refine trM aA (N0b _ _ _ (B0 aM aN aJ)) ?_
   rintro dO aA dP dH ⟨cX,rfl,aO⟩
   have dI:Sub cS dH:=aO.sub
   have cD:=aO.r
   obtain⟨bF,bG,aP,cE,aQ,bH,rfl,rfl,aR,aS,aT⟩:=H0 cD
   obtain⟨rfl,cG⟩:=Sl.len aT
   try dsimp only at aA
   have cH:=New.sndI (New.sndI (aO))
   obtain rfl:=oJ aA
   exact⟨([.int .i64 bF,.int .i64 bG,.slice aP bH.length aQ]),rfl,(New.pair (New.int aR) (New.pair (New.int aS) (New.from cH ((bJ.trans bE).trans bW))))⟩
theorem O0b(h:Hp)(aV:List Value)(p0:j0)(cI:Z0.R h aV p0)(r:K0)(aF:K00 p0=some r):
  Tr Tryz.prog 284 #[.agg aV.toArray] h λv h'=>∃(a0:Option Addr) (n0 c0:Nat),v = .slice a0 n0 c0/\New O0 h h' [.slice a0 n0 c0] r:=by
 obtain⟨aQ,aR,aW,bS,aX,aS,rfl,rfl,aO,aP,aG⟩:=H0 cI
 obtain⟨rfl,bT⟩:=Sl.len aG
 unfold K00 at aF
 dsimp only at aF
 refine O2 (args:=[.agg #[.int .i64 aQ,.int .i64 aR,.slice aW aS.length aX]]) (fn:=Tryz.f284) rfl ?_
 refine trM aF (V02 _ _ _ (B0 aO aP aG) 0 (by decide)) ?_
 rintro x1 aF v3 k2 ⟨bU,bV,bW,bX,bY,bZ,rfl,aH,aJ,bD⟩
 obtain⟨cJ,aY⟩:=x1
 dsimp only at aF aH aJ
 obtain⟨rfl,cA⟩:=Sl.len aH
 obtain⟨rfl,cC⟩:=Sl.len aJ
 obtain⟨x4,cK,aF⟩:=l0 aF
 obtain⟨cL,bE,cM,cN⟩:=Sl.cutI (r:=Wp.int.toRp) aH cK
 refine aI cL (eX bE (aI cM ?_))
 intro cO bF _
 obtain⟨dG,dH,rfl,cD⟩:=cN cO bF
 have dI:=(Sl.len cD).2
 obtain⟨X5,bG,aF⟩:=l0 aF
 refine eX { vars:=[20],boxes:=[],owns:=[0],fuel:=true } (eX (λvs os h'=>∃ u6 bB u7,vs.tail = [.int .i64 u6]/\os = [bB]/\Sub k2 h'/\P0 u6/\F2 (E1.R h') bB u7/\p6 x4 aY aQ aR aS (I1 vs) u6 u7=some X5) (eX (λ_ _=>0) (aI (eX Q0 ⟨0,[],([]:K0),rfl,rfl,(Sub.refl _),(by decide),(F2.up (r:=E1.toRp) bD (show F2 (E1.R h) ([]:List (List Value)) ([]:K0) from trivial)),bG⟩) ?_)))
 rintro _ bB m9 k8 ⟨u6,cP,u7,⟨⟩,⟨⟩,aZ,dJ,bC,aA⟩
 replace aA:p6 x4 aY aQ aR aS m9 u6 u7=some X5:=aA
 obtain _|m9:=m9
 ·cases aA
 rw[p6.eq_2]at aA
 refine ifB aA (λbH aA=>?_) λbH aA=>?_
 ·refine ldI aA (W0.mono aZ cD) λdK bA aA=>?_
  refine ld aA (l9.mono aZ aJ) λdL cE aT aA=>?_
  obtain⟨cQ,cR,cS,rfl⟩:=Wp.slice_cell aT
  obtain⟨rfl,cT⟩:=Sl.len aT
  refine ldI aA aT λcU bI aA=>?_
  refine trV aA (i9 _ _ _ (B0 aO aP (O0.mono (bD.trans aZ) aG)) _ bA (IntKind.i64.wrap (0-cU)) (J0 _)) λcV aA=>?_
  obtain⟨dM,bJ,aA⟩:=l0 aA
  have bK:P0 cV:=I0 bJ
  refine trM aA (V0j _ _ bK _ bI _ bA) ?_
  rintro dN aA dO cG ⟨cH,rfl,bL,aN⟩
  obtain⟨aB,aC,aD,rfl,rfl,aK,aL,aM⟩:=N1 bL
  try dsimp only at aA
  obtain⟨dP,bM,aA⟩:=l0 aA
  refine aI (J1 bM (by first|rw[F2.length (F2.up (r:=E1.toRp) aN bC),F2.length (show F2 (E1.R cG) ([[.int .i64 aB,.int .i64 aC,.int .i64 aD]]:List (List Value)) [(aB,aC,aD)] from⟨(L1 aK aL aM),trivial⟩)]|exact congrArg (·+1) (F2.length (F2.up (r:=E1.toRp) aN bC)))) ?_
  exact D2 m9 ⟨(IntKind.i64.wrap (u6+1)),(bB++([[.int .i64 aB,.int .i64 aC,.int .i64 aD]]:List (List Value))),(u7 ++ [(aB,aC,aD)]),rfl,rfl,(aZ.trans aN),(J0 _),(F2.append (F2.up (r:=E1.toRp) aN bC) (show F2 (E1.R cG) ([[.int .i64 aB,.int .i64 aC,.int .i64 aD]]:List (List Value)) [(aB,aC,aD)] from⟨(L1 aK aL aM),trivial⟩)),aA⟩
 ·obtain rfl:=oJ aA
  try dsimp only[S0,T0]at aF
  refine Or.inl ?_
  intro dQ cW cX
  obtain⟨cY,cZ,rfl,bN,bO,dA⟩:=U0.out (r:=E1.toRp) cX bC
  refine trM aF (t05 _ _ _ _ _ bN) ?_
  rintro dB aF dR dC ⟨bP,dD,bQ,rfl,aU⟩
  have dE:Sub cW dC:=aU.sub
  have bR:=aU.r
  obtain⟨rfl,dF⟩:=Sl.len bR
  obtain rfl:=oJ aF
  exact⟨bP,dB.length,bQ,rfl,(New.from aU ((bD.trans aZ).trans bO))⟩
theorem B0a(h:Hp)(aT:List Value)(p0:j0)(bP:Z0.R h aT p0)(r:K0)(aJ:n00 p0=some r):
  Tr Tryz.prog 199 #[.agg aT.toArray] h λv h'=>∃(a0:Option Addr) (n0 c0:Nat),v = .slice a0 n0 c0/\New O0 h h' [.slice a0 n0 c0] r:=by
 obtain⟨aY,aZ,aU,bH,aV,aQ,rfl,rfl,aO,aP,aK⟩:=H0 bP
 obtain⟨rfl,bI⟩:=Sl.len aK
 unfold n00 at aJ
 dsimp only at aJ
 refine O2 (args:=[.agg #[.int .i64 aY,.int .i64 aZ,.slice aU aQ.length aV]]) (fn:=Tryz.f199) rfl ?_
 refine trV aJ (p9 _ _ _ (B0 aO aP aK)) λx1 aJ=>?_
 refine ifB aJ (λbQ aJ=>?_) λbQ aJ=>?_
 ·intro v3 k4 f5
  obtain⟨bR,bS,rfl,bX,bY,bZ⟩:=U0.out (r:=E1.toRp) f5 (show F2 (E1.R h) ([]:List (List Value)) ([]:K0) from trivial)
  obtain rfl:=oJ aJ
  exact⟨bR,(([]:K0)).length,bS,rfl,(U0.newPlain (r:=E1) f5 (show F2 (E1.R h) ([]:List (List Value)) ([]:K0) from trivial) (H0b _))⟩
 ·refine trM aJ (O0b _ _ _ (B0 aO aP aK)) ?_
  rintro x7 aJ v9 k8 ⟨cA,cC,cD,rfl,bJ⟩
  have bA:Sub h k8:=bJ.sub
  have bK:=bJ.r
  obtain⟨rfl,cE⟩:=Sl.len bK
  obtain⟨X10,aW,aJ⟩:=l0 aJ
  refine eX { vars:=[17],boxes:=[],owns:=[0],fuel:=true } (eX (λvs os h'=>∃ aR aM aS,vs.tail = [.int .i64 aR]/\os = [aM]/\Sub k8 h'/\P0 aR/\F2 (E1.R h') aM aS/\R4 aQ x7 (I1 vs) aR aS=some X10) (eX (λ_ _=>0) (aI (eX Q0 ⟨0,[],([]:K0),rfl,rfl,(Sub.refl _),(by decide),(F2.up (r:=E1.toRp) bA (show F2 (E1.R h) ([]:List (List Value)) ([]:K0) from trivial)),aW⟩) ?_)))
  rintro _ aM aX bL ⟨aR,bM,aS,⟨⟩,⟨⟩,aN,bT,aL,aA⟩
  replace aA:R4 aQ x7 aX aR aS=some X10:=aA
  obtain _|aX:=aX
  ·cases aA
  rw[R4.eq_2]at aA
  refine ifB aA (λbB aA=>?_) λbB aA=>?_
  ·refine ld aA (O0.mono (bA.trans aN) aK) λcG bN bC aA=>?_
   obtain⟨aB,aC,aD,rfl,rfl,aF,aG,aH⟩:=N1 bC
   try dsimp only at aA
   refine trV aA (B01 _ _ _ _ _ (O0.mono aN bK) _ _ (L1 aF aG aH)) λcH aA=>?_
   refine ifB aA (λbD aA=>?_) λbD aA=>?_
   ·obtain⟨cI,bE,aA⟩:=l0 aA
    refine aI (J1 bE (by first|rw[F2.length aL,F2.length (show F2 (E1.R bL) ([[.int .i64 aB,.int .i64 aC,.int .i64 aD]]:List (List Value)) [(aB,aC,aD)] from⟨(L1 aF aG aH),trivial⟩)]|exact congrArg (·+1) (F2.length aL))) ?_
    exact D2 aX ⟨(IntKind.i64.wrap (aR+1)),(aM++([[.int .i64 aB,.int .i64 aC,.int .i64 aD]]:List (List Value))),(aS ++ [(aB,aC,aD)]),rfl,rfl,aN,(J0 _),(F2.append aL (show F2 (E1.R bL) ([[.int .i64 aB,.int .i64 aC,.int .i64 aD]]:List (List Value)) [(aB,aC,aD)] from⟨(L1 aF aG aH),trivial⟩)),aA⟩
   ·exact D2 aX ⟨(IntKind.i64.wrap (aR+1)),aM,aS,rfl,rfl,aN,(J0 _),aL,aA⟩
  ·obtain rfl:=oJ aA
   try dsimp only[S0,T0]at aJ
   intro cJ cK bO
   obtain⟨bF,bG,rfl,bU,bV,bW⟩:=U0.out (r:=E1.toRp) bO aL
   obtain rfl:=oJ aJ
   exact⟨bF,aS.length,bG,rfl,(New.from (U0.newPlain (r:=E1) bO aL (H0b _)) (bA.trans aN))⟩
theorem b9(h:Hp)(bE:List Value)(p0:j0)(eJ:Z0.R h bE p0)(r:E2)(aB:c5 p0=some r):
  Tr Tryz.prog 127 #[.agg bE.toArray] h λv h'=>∃(a0:Option Addr) (n0 c0:Nat),v = .slice a0 n0 c0/\l9.R h' [.slice a0 n0 c0] r/\Sub h h':=by
 obtain⟨cA,cC,bF,dR,bG,cD,rfl,rfl,aG,aH,aC⟩:=H0 eJ
 obtain⟨rfl,dS⟩:=Sl.len aC
 unfold c5 at aB
 dsimp only at aB
 refine O2 (args:=[.agg #[.int .i64 cA,.int .i64 cC,.slice bF cD.length bG]]) (fn:=Tryz.f127) rfl ?_
 refine trV aB (x00 _ _ _ (B0 aG aH aC)) λx1 aB=>?_
 refine ifB aB (λeK aB=>?_) λeK aB=>?_
 ·intro v3 k4 f5
  obtain⟨eM,eN,rfl,eO,eP,fV⟩:=U0.out (r:=W0.toRp) f5 (show F2 (W0.R h) ([]:List (List Value)) ([]:E2) from trivial)
  obtain rfl:=oJ aB
  exact⟨eM,(([]:E2)).length,eN,rfl,eO,eP⟩
 ·refine trM aB (V02 _ _ _ (B0 aG aH aC) 0 (by decide)) ?_
  rintro x7 aB v9 k8 ⟨dT,dU,dV,aP,dW,aQ,rfl,aR,aD,cE⟩
  obtain⟨eQ,aL⟩:=x7
  dsimp only at aB aR aD
  obtain⟨rfl,dX⟩:=Sl.len aR
  obtain⟨rfl,dY⟩:=Sl.len aD
  refine trM aB (B0a _ _ _ (B0 aG aH (O0.mono cE aC))) ?_
  rintro dZ aB fW eA ⟨eR,eT,eU,rfl,bH⟩
  have aM:Sub k8 eA:=bH.sub
  have bI:=bH.r
  obtain⟨rfl,eV⟩:=Sl.len bI
  obtain⟨X13,bJ,aB⟩:=l0 aB
  refine eX { vars:=[21],boxes:=[],owns:=[0],fuel:=true } (eX (λvs os h'=>∃ bC aN bD,vs.tail = [.int .i64 bC]/\os = [aN]/\Sub eA h'/\P0 bC/\F2 (W0.R h') aN bD/\C7 dZ aL (I1 vs) bC bD=some X13) (eX (λ_ _=>0) (aI (eX Q0 ⟨0,[],([]:E2),rfl,rfl,(Sub.refl _),(by decide),(F2.up (r:=W0.toRp) (cE.trans aM) (show F2 (W0.R h) ([]:List (List Value)) ([]:E2) from trivial)),bJ⟩) ?_)))
  rintro _ aN bY fX ⟨bC,eC,bD,⟨⟩,⟨⟩,aJ,eW,aO,aA⟩
  replace aA:C7 dZ aL bY bC bD=some X13:=aA
  obtain _|bY:=bY
  ·cases aA
  rw[C7.eq_2]at aA
  refine ifB aA (λcG aA=>?_) λcG aA=>?_
  ·refine ld aA (O0.mono aJ bI) λfY eD cH aA=>?_
   obtain⟨bK,aF,bL,rfl,rfl,cI,aW,cJ⟩:=N1 cH
   try dsimp only at aA
   refine Or.inr (Or.inr (Or.inr (Or.inr (eX 18 (aI (aI (by kernel_rfl) (by kernel_rfl)) ?_)))))
   obtain⟨bM,cK,aA⟩:=l0 aA
   obtain⟨cL,eE,cM,aX⟩:=Sl.getI (r:=W0.toRp) (l9.mono (aM.trans aJ) aD) cK (by decide)
   obtain⟨aY,eY,aZ,rfl⟩:=Wp.slice_cell aX
   obtain⟨rfl,eZ⟩:=Sl.len aX
   refine Or.inl (eX (.hel (.slice aP aL.length aQ) bK 1 0) (aI ?_ ?_))
   ·intro fZ gA
    exact aI cL (aI rfl (aI rfl rfl))
   refine Or.inl (eX (.val (.slice aY bM.length aZ)) (aI ?_ ?_))
   ·intro gB fA
    exact eX _ (aI (d00.up fA cM) (aI rfl (aI rfl rfl)))
   obtain⟨aK,cN,aA⟩:=l0 aA
   refine Or.inr (eX (λv hh=>∃(a:Option Addr) (c:Nat),v = .slice a aK.length c/\W0.R hh [.slice a aK.length c] aK/\aK.length<=9223372036854775807) (aI (λv h1 h2 sb q=>by obtain⟨a,c,e,r,l⟩:=q;exact⟨a,c,e,W0.mono sb r,l⟩) (aI ?_ ?_)))
   ·intro eF gC
    have cO:[aF]=aK:=oJ cN
    intro v k hf
    obtain⟨a,c,rfl,r,sb,l⟩:=U0.out (r:=Wp.int.toRp) (xs:=aK) hf (show F2 (Wp.int.R eF) [[.int .i64 aF]] aK from cO▸(show F2 (Wp.int.R eF) [[.int .i64 aF]] [aF] from⟨⟨rfl,aW⟩,trivial⟩))
    exact aI ⟨rfl,rfl,rfl,[_],rfl⟩ (aI sb ⟨a,c,rfl,r,l⟩)
   obtain⟨fB,cP,aA⟩:=l0 aA
   obtain⟨cQ,eG,cR,bA⟩:=Sl.getI (r:=W0.toRp) (l9.mono (aM.trans aJ) aD) cP (by decide)
   obtain⟨cS,fC,cT,rfl⟩:=Wp.slice_cell bA
   obtain⟨rfl,fD⟩:=Sl.len bA
   refine Or.inl (eX (.hel (.slice aP aL.length aQ) bL 1 0) (aI ?_ ?_))
   ·intro gD gE
    exact aI cQ (aI rfl (aI rfl rfl))
   refine Or.inl (eX (.val (.slice cS fB.length cT)) (aI ?_ ?_))
   ·intro gF fE
    exact eX _ (aI (d00.up fE cR) (aI rfl (aI rfl rfl)))
   obtain⟨aS,cU,aA⟩:=l0 aA
   refine Or.inr (eX (λv hh=>∃(a:Option Addr) (c:Nat),v = .slice a aS.length c/\W0.R hh [.slice a aS.length c] aS/\aS.length<=9223372036854775807) (aI (λv h1 h2 sb q=>by obtain⟨a,c,e,r,l⟩:=q;exact⟨a,c,e,W0.mono sb r,l⟩) (aI ?_ ?_)))
   ·intro gG fF
    refine Tr.mono (y0a _ _ _ _ _ (W0.mono fF bA) _ cU) ?_
    rintro _ kk ⟨cV,fG,cW,rfl,bN⟩
    have sb:=bN.sub
    have bO:=bN.r
    obtain⟨rfl,cX⟩:=Sl.len bO
    exact aI Y02 (aI sb ⟨cV,cW,rfl,bO,cX⟩)
   obtain⟨bB,cY,aA⟩:=l0 aA
   refine Or.inr (eX (λv hh=>∃(a:Option Addr) (c:Nat),v = .slice a bB.length c/\l9.R hh [.slice a bB.length c] bB/\bB.length<=9223372036854775807) (aI (λv h1 h2 sb q=>by obtain⟨a,c,e,r,l⟩:=q;exact⟨a,c,e,l9.mono sb r,l⟩) (aI ?_ ?_)))
   ·intro eH fH
    rintro _ ⟨bP,bQ,rfl,cZ,fJ⟩
    rintro _ ⟨bR,bS,rfl,dA,fK⟩
    have dB:[bM,aK,aS]=bB:=oJ cY
    intro v k hf
    obtain⟨a,c,rfl,r,sb,l⟩:=U0.out (r:=W0.toRp) (xs:=bB) hf (show F2 (W0.R eH) [[.slice aY bM.length aZ],[.slice bP aK.length bQ],[.slice bR aS.length bS]] bB from dB▸(show F2 (W0.R eH) [[.slice aY bM.length aZ],[.slice bP aK.length bQ],[.slice bR aS.length bS]] [bM,aK,aS] from⟨(W0.mono fH aX),⟨cZ,⟨dA,trivial⟩⟩⟩))
    exact aI ⟨rfl,rfl,rfl,[_],rfl⟩ (aI sb ⟨a,c,rfl,r,l⟩)
   obtain⟨aT,dC,aA⟩:=l0 aA
   refine Or.inr (eX (λv hh=>∃(a:Option Addr) (c:Nat),v = .slice a aT.length c/\W0.R hh [.slice a aT.length c] aT/\aT.length<=9223372036854775807) (aI (λv h1 h2 sb q=>by obtain⟨a,c,e,r,l⟩:=q;exact⟨a,c,e,W0.mono sb r,l⟩) (aI ?_ ?_)))
   ·intro gH gI
    rintro _ ⟨fL,fM,rfl,dD,fN⟩
    refine Tr.mono (U0e _ _ _ _ _ dD _ dC) ?_
    rintro _ kk ⟨dE,fO,dF,rfl,bT⟩
    have sb:=bT.sub
    have bU:=bT.r
    obtain⟨rfl,dG⟩:=Sl.len bU
    exact aI Y02 (aI sb ⟨dE,dF,rfl,bU,dG⟩)
   obtain⟨aU,dH,aA⟩:=l0 aA
   refine Or.inr (eX (λv hh=>∃(a:Option Addr) (c:Nat),v = .slice a aU.length c/\l9.R hh [.slice a aU.length c] aU/\aU.length<=9223372036854775807) (aI (λv h1 h2 sb q=>by obtain⟨a,c,e,r,l⟩:=q;exact⟨a,c,e,l9.mono sb r,l⟩) (aI ?_ ?_)))
   ·intro eI gJ
    rintro _ ⟨bV,bW,rfl,dI,fP⟩
    have dJ:[aT]=aU:=oJ dH
    intro v k hf
    obtain⟨a,c,rfl,r,sb,l⟩:=U0.out (r:=W0.toRp) (xs:=aU) hf (show F2 (W0.R eI) [[.slice bV aT.length bW]] aU from dJ▸(show F2 (W0.R eI) [[.slice bV aT.length bW]] [aT] from⟨dI,trivial⟩))
    exact aI ⟨rfl,rfl,rfl,[_],rfl⟩ (aI sb ⟨a,c,rfl,r,l⟩)
   intro gK bZ
   rintro _ ⟨fQ,fR,rfl,dK,fS⟩
   rintro _ _
   rintro _ _
   rintro _ _
   rintro _ _
   obtain⟨aV,dL,bX⟩:=Sl.rows (r:=W0.toRp) dK
   refine eX aV (aI dL ?_)
   obtain⟨gL,dM,aA⟩:=l0 aA
   refine aI (J1 dM (by first|rw[F2.length (F2.up (r:=W0.toRp) bZ aO),F2.length bX]|exact congrArg (·+1) (F2.length (F2.up (r:=W0.toRp) bZ aO)))) ?_
   exact D2 bY ⟨(IntKind.i64.wrap (bC+1)),(aN++aV),(bD++aU),rfl,rfl,(aJ.trans bZ),(J0 _),(F2.append (F2.up (r:=W0.toRp) bZ aO) bX),aA⟩
  ·obtain rfl:=oJ aA
   try dsimp only[S0,T0]at aB
   intro gM gN fT
   obtain⟨dN,dO,rfl,dP,dQ,fU⟩:=U0.out (r:=W0.toRp) fT aO
   obtain rfl:=oJ aB
   exact⟨dN,bD.length,dO,rfl,dP,(((cE.trans aM).trans aJ).trans dQ)⟩
theorem M08(h:Hp)(aC:List Value)(p0:j0)(aO:Z0.R h aC p0)(r:Int)(aA:w00 p0=some r):
  Tr Tryz.prog 99 #[.agg aC.toArray] h λv h'=>v = .int .i64 r/\h'=h:=by
 obtain⟨aJ,aK,aD,aM,aF,aL,rfl,rfl,aG,aH,aB⟩:=H0 aO
 obtain⟨rfl,aN⟩:=Sl.len aB
 unfold w00 at aA
 dsimp only at aA
 refine Tr.forget (O2 (args:=[.agg #[.int .i64 aJ,.int .i64 aK,.slice aD aL.length aF]]) (fn:=Tryz.f99) rfl ?_)
 refine trV aA (x00 _ _ _ (B0 aG aH aB)) λx1 aA=>?_
 refine ifB aA (λaP aA=>?_) λaP aA=>?_
 ·obtain rfl:=oJ aA
  exact aI rfl (Sub.refl _)
 ·obtain rfl:=oJ aA
  exact aI rfl (Sub.refl _)
theorem Z0e(h:Hp)(aC:List Value)(p0:j0)(aO:Z0.R h aC p0)(r:Int)(aA:R01 p0=some r):
  Tr Tryz.prog 100 #[.agg aC.toArray] h λv h'=>v = .int .i64 r/\h'=h:=by
 obtain⟨aJ,aK,aD,aM,aF,aL,rfl,rfl,aG,aH,aB⟩:=H0 aO
 obtain⟨rfl,aN⟩:=Sl.len aB
 unfold R01 at aA
 dsimp only at aA
 refine Tr.forget (O2 (args:=[.agg #[.int .i64 aJ,.int .i64 aK,.slice aD aL.length aF]]) (fn:=Tryz.f100) rfl ?_)
 refine trV aA (V01 _ _ _ (B0 aG aH aB)) λx1 aA=>?_
 refine ifB aA (λaP aA=>?_) λaP aA=>?_
 ·obtain rfl:=oJ aA
  exact aI rfl (Sub.refl _)
 ·obtain rfl:=oJ aA
  exact aI rfl (Sub.refl _)
end Go.Proofs.YtkjhghloldgioaaGreat
