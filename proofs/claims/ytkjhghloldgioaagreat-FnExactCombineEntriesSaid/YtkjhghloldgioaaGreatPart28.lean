/- Texts of the claim, joined: The walks of batch g2 and others. -/
import Derived.Test.YtkjhghloldgioaaGreatPart19
import Derived.Test.YtkjhghloldgioaaGreatChecked
import Derived.Test.YtkjhghloldgioaaGreatH35
import Derived.Test.YtkjhghloldgioaaGreatPart26
import Derived.Test.YtkjhghloldgioaaGreatSE
import Derived.Test.YtkjhghloldgioaaGreatPart22
import Derived.Test.YtkjhghloldgioaaGreatH40
import Derived.Test.YtkjhghloldgioaaGreatH41
import Derived.Test.YtkjhghloldgioaaGreatPart18
import Derived.Test.YtkjhghloldgioaaGreatH36
import Derived.Test.YtkjhghloldgioaaGreatH43
namespace Go.Proofs.YtkjhghloldgioaaGreat
open Go.H
set_option linter.unusedVariables false
set_option linter.unusedSimpArgs false
set_option maxRecDepth 10000
theorem Y5(h:Hp)(aB:List Value)(p0:j0)(aQ:D1.R h aB p0)(r:j0)(aC:R3 p0=some r):
  Tr Tryz.prog 137 #[.agg aB.toArray] h λv h'=>∃(g0:Nat) (n0 c0:Nat),v = .agg ([.int .i64 r.1,.int .i64 r.2.1,.slice (some ⟨g0,0,none⟩) n0 c0]:List Value).toArray/\New D1 h h' [.int .i64 r.1,.int .i64 r.2.1,.slice (some ⟨g0,0,none⟩) n0 c0] r:=by
 obtain⟨aK,aL,aD,aO,aF,aG,rfl,rfl,aH,aJ,aA⟩:=C0 aQ
 obtain⟨rfl,aP⟩:=Sl.len aA
 unfold R3 at aC
 dsimp only at aC
 refine D3 (args:=[.agg #[.int .i64 aK,.int .i64 aL,.slice aD aG.length aF]]) (fn:=Tryz.f137) rfl ?_
 refine Or.inr (Or.inr (Or.inl (aI (aI (by kernel_rfl) (by kernel_rfl)) ?_)))
 refine Or.inr ?_
 refine Or.inr ?_
 refine Or.inr ?_
 refine Or.inr ?_
 refine Or.inl (eX 0 (aI (aI rfl rfl) ?_))
 refine aI trivial (aI (by first|exact trivial|exact rfl) ?_)
 obtain⟨aM,aR,aN⟩:=Sl.rows (r:=H1.toRp) aA
 refine eX aM (aI aR ?_)
 obtain⟨q2,aS,aC⟩:=B0 aC
 refine aI (J2 aS (by first|rw[F2.length (show F2 (H1.R h) ([]:List (List Value)) ([]:K0) from trivial),F2.length aN]|exact congrArg (·+1) (F2.length (show F2 (H1.R h) ([]:List (List Value)) ([]:K0) from trivial)))) ?_
 refine aI trivial (aI (by first|exact trivial|exact rfl) ?_)
 refine aI trivial (aI (by first|exact trivial|exact rfl) ?_)
 refine aI trivial (aI (by first|exact trivial|exact rfl) ?_)
 intro v3 k4 f5
 obtain⟨aT,aU,rfl,aV,aW,aX⟩:=O1.outS (r:=H1.toRp) f5 (F2.append (show F2 (H1.R h) ([]:List (List Value)) ([]:K0) from trivial) aN)
 obtain rfl:=oJ aC
 exact⟨aT,((([]:K0)++aG)).length,aU,rfl,(New.pair (New.int aH) (New.pair (New.int aJ) (O1.newPlain (r:=H1) f5 (F2.append (show F2 (H1.R h) ([]:List (List Value)) ([]:K0) from trivial) aN) (a0c _))))⟩
theorem d0a(h:Hp)(aG:List Value)(p0:j0)(aV:D1.R h aG p0)(p1:Int)(bF:O0 p1)(r:Int)(aD:W9 p0 p1=some r):
  Tr Tryz.prog 302 #[.agg aG.toArray,.int .i64 p1] h λv h'=>v = .int .i64 r/\h'=h:=by
 obtain⟨aK,aL,aH,aO,aJ,aC,rfl,rfl,aP,aQ,aB⟩:=C0 aV
 obtain⟨rfl,aR⟩:=Sl.len aB
 unfold W9 at aD
 dsimp only at aD
 refine Tr.forget (D3 (args:=[.agg #[.int .i64 aK,.int .i64 aL,.slice aH aC.length aJ],.int .i64 p1]) (fn:=Tryz.f302) rfl ?_)
 obtain⟨X1,aM,aD⟩:=B0 aD
 refine eX { vars:=[5,11],boxes:=[],owns:=[],fuel:=true } (eX (λvs os h'=>∃ u2 u3,vs.tail = [.int .i64 u2,.int .i64 u3]/\os = []/\Sub h h'/\O0 u2/\O0 u3/\Z4 aC p1 (D2 vs) u2 u3=some X1) (eX (λ_ _=>0) (aI (eX U0 ⟨0,0,rfl,rfl,(Sub.refl _),(by decide),(by decide),aM⟩) ?_)))
 rintro _ _ m5 k4 ⟨u2,u3,⟨⟩,⟨⟩,aF,aW,bG,aA⟩
 replace aA:Z4 aC p1 m5 u2 u3=some X1:=aA
 obtain _|m5:=m5
 ·cases aA
 rw[Z4.eq_2]at aA
 refine ifB aA (λaX aA=>?_) λaX aA=>?_
 ·refine ld aA (J0.mono aF aB) λx7 aY aZ aA=>?_
  obtain⟨bA,bB,bC,rfl,rfl,aS,aT,aU⟩:=U1 aZ
  try dsimp only at aA
  refine ifB aA (λbD aA=>?_) λbD aA=>?_
  ·refine ifB aA (λbE aA=>?_) λbE aA=>?_
   ·exact A3 m5 ⟨(IntKind.i64.wrap ((IntKind.i64.wrap (u2+1))+1)),(IntKind.i64.wrap (u3+1)),rfl,rfl,aF,(I0 _),(I0 _),aA⟩
   ·exact A3 m5 ⟨(IntKind.i64.wrap (u2+1)),(IntKind.i64.wrap (u3+1)),rfl,rfl,aF,(I0 _),(I0 _),aA⟩
  ·refine ifB aA (λaN aA=>?_) λaN aA=>?_
   ·exact A3 m5 ⟨(IntKind.i64.wrap (u2+1)),(IntKind.i64.wrap (u3+1)),rfl,rfl,aF,(I0 _),(I0 _),aA⟩
   ·exact A3 m5 ⟨u2,(IntKind.i64.wrap (u3+1)),rfl,rfl,aF,aW,(I0 _),aA⟩
 ·obtain rfl:=oJ aA
  try dsimp only[C1,E1]at aD
  obtain rfl:=oJ aD
  exact aI rfl aF
theorem S00(h:Hp)(aD:Option Addr)(aQ aF:Nat)(p0:K0)(aR:J0.R h [.slice aD aQ aF] p0)(aG:Option Addr)(aS aH:Nat)(p1:K0)(aT:J0.R h [.slice aG aS aH] p1)(r:Bool)(aB:Z2 p0 p1=some r):
  Tr Tryz.prog 207 #[.slice aD aQ aF,.slice aG aS aH] h λv h'=>v = .bool r/\h'=h:=by
 obtain⟨rfl,bH⟩:=Sl.len aR
 obtain⟨rfl,bI⟩:=Sl.len aT
 unfold Z2 at aB
 refine Tr.forget (D3 (args:=[.slice aD p0.length aF,.slice aG p1.length aH]) (fn:=Tryz.f207) rfl ?_)
 refine ifB aB (λbA aB=>?_) λbA aB=>?_
 ·obtain rfl:=oJ aB
  exact aI rfl (Sub.refl _)
 ·obtain⟨X2,aJ,aB⟩:=B0 aB
  refine eX { vars:=[13],boxes:=[],owns:=[],fuel:=true } (eX (λvs os h'=>∃ u3,vs.tail = [.int .i64 u3]/\os = []/\Sub h h'/\O0 u3/\J1 p0 p1 (D2 vs) u3=some X2) (eX (λ_ _=>0) (aI (eX U0 ⟨0,rfl,rfl,(Sub.refl _),(by decide),aJ⟩) ?_)))
  rintro _ m5 k4 ⟨u3,⟨⟩,⟨⟩,aC,bJ,aA⟩
  replace aA:J1 p0 p1 m5 u3=some X2:=aA
  obtain _|m5:=m5
  ·cases aA
  rw[J1.eq_2]at aA
  refine ifB aA (λbB aA=>?_) λbB aA=>?_
  ·refine Or.inl (aI (aI (by kernel_rfl) (by kernel_rfl)) ?_)
   refine ld aA (J0.mono aC aR) λx7 bC bD aA=>?_
   obtain⟨aK,aL,aM,rfl,rfl,aU,aV,aW⟩:=U1 bD
   try dsimp only at aA
   refine ld aA (J0.mono aC aT) λx8 bE bF aA=>?_
   obtain⟨aN,aO,aP,rfl,rfl,aX,aY,aZ⟩:=U1 bF
   try dsimp only at aA
   refine eX (!eqE (aK,aL,aM) (aN,aO,aP)) (aI (H0e _ _ _ rfl _ _ _ _ _ _) ?_)
   refine ifB aA (λbG aA=>?_) λbG aA=>?_
   ·obtain rfl:=oJ aA
    try dsimp only[J5,K5]at aB
    obtain rfl:=oJ aB
    exact aI rfl aC
   ·exact A3 m5 ⟨(IntKind.i64.wrap (u3+1)),rfl,rfl,aC,(I0 _),aA⟩
  ·obtain rfl:=oJ aA
   try dsimp only[C1,E1]at aB
   obtain rfl:=oJ aB
   exact aI rfl aC
theorem r07(h:Hp)(aC:List Value)(p0:j0)(aZ:D1.R h aC p0)(aD:List Value)(p1:j0)(bA:D1.R h aD p1)(r:Bool)(aF:N8 p0 p1=some r):
  Tr Tryz.prog 97 #[.agg aC.toArray,.agg aD.toArray] h λv h'=>v = .bool r/\h'=h:=by
 obtain⟨aL,aM,aG,aR,aH,aN,rfl,rfl,aS,aT,aA⟩:=C0 aZ
 obtain⟨rfl,aU⟩:=Sl.len aA
 obtain⟨aO,aP,aJ,aV,aK,aQ,rfl,rfl,aW,aX,aB⟩:=C0 bA
 obtain⟨rfl,aY⟩:=Sl.len aB
 unfold N8 at aF
 dsimp only at aF
 refine Tr.forget (D3 (args:=[.agg #[.int .i64 aL,.int .i64 aM,.slice aG aN.length aH],.agg #[.int .i64 aO,.int .i64 aP,.slice aJ aQ.length aK]]) (fn:=Tryz.f97) rfl ?_)
 refine trG aF (λq=>S00 _ _ _ _ _ aA _ _ _ _ aB) λx1 aF=>?_
 obtain rfl:=oJ aF
 exact aI rfl (Sub.refl _)
theorem v06(h:Hp)(aP:List Value)(p0:j0)(cO:D1.R h aP p0)(p1:Int)(dA:O0 p1)(r:(List Bool))(aK:p8 p0 p1=some r):
  Tr Tryz.prog 301 #[.agg aP.toArray,.int .i64 p1] h λv h'=>∃(a0:Option Addr) (n0 c0:Nat),v = .slice a0 n0 c0/\(Wp.slice Wp.bool).R h' [.slice a0 n0 c0] r/\Sub h h':=by
 obtain⟨aV,aG,aQ,cA,aR,aH,rfl,rfl,cC,cD,aL⟩:=C0 cO
 obtain⟨rfl,cE⟩:=Sl.len aL
 unfold p8 at aK
 dsimp only at aK
 refine D3 (args:=[.agg #[.int .i64 aV,.int .i64 aG,.slice aQ aH.length aR],.int .i64 p1]) (fn:=Tryz.f301) rfl ?_
 obtain⟨q1,cP,aK⟩:=B0 aK
 refine aI (A2 cP) ?_
 obtain⟨x2,cQ,aK⟩:=B0 aK
 obtain⟨cR,cS,cT,cU⟩:=j5 (F2.rep (p:=Wp.bool.R h) (a:=[.bool false]) (b:=false) rfl (aG.toNat)) cQ
 refine aI cR ?_
 obtain rfl:=cU
 refine eX _ (aI cT ?_)
 obtain⟨X3,aW,aK⟩:=B0 aK
 refine eX { vars:=[6],boxes:=[],owns:=[0],fuel:=true,kept:=[0] } (eX (λvs os h'=>∃ u4 aT u5,vs.tail = [.bool u4]/\os = [aT]/\Sub h h'/\F2 (Wp.bool.R h') aT u5/\N4 aH (D2 vs) u4 u5=some X3) (eX (λ_ _=>0) (aI (eX U0 ⟨true,((List.replicate aG.toNat ([.bool false]:List Value)).set p1.toNat [.bool true]),((List.replicate aG.toNat (false:Bool)).set p1.toNat true),rfl,rfl,(Sub.refl _),(F2.set (p:=Wp.bool.R h) (a:=[.bool true]) (b:=true) rfl p1.toNat (F2.rep (p:=Wp.bool.R h) (a:=[.bool false]) (b:=false) rfl (aG.toNat))),aW⟩) ?_)))
 rintro _ aT m7 k6 ⟨u4,cV,u5,⟨⟩,⟨⟩,aX,cG,aF⟩
 replace aF:N4 aH m7 u4 u5=some X3:=aF
 obtain _|m7:=m7
 ·cases aF
 rw[N4.eq_2]at aF
 refine ifB aF (λcW aF=>?_) λcW aF=>?_
 ·obtain⟨X9,aY,aF⟩:=B0 aF
  refine eX { vars:=[6,19],boxes:=[],owns:=[0],fuel:=true,kept:=[0] } (eX (λvs os h'=>∃ aO aM aD aN,vs.tail = [.bool aO,.int .i64 aM]/\os = [aD]/\Sub k6 h'/\O0 aM/\F2 (Wp.bool.R h') aD aN/\V3 aH (D2 vs) aO aM aN=some X9) (eX (λ_ _=>0) (aI (eX U0 ⟨false,0,aT,u5,rfl,rfl,(Sub.refl _),(by decide),cG,aY⟩) ?_)))
  rintro _ _ aD aS aZ ⟨aO,aM,cH,aN,⟨⟩,⟨⟩,aU,cX,aB,aA⟩
  replace aA:V3 aH aS aO aM aN=some X9:=aA
  obtain _|aS:=aS
  ·cases aA
  rw[V3.eq_2]at aA
  refine ifB aA (λbA aA=>?_) λbA aA=>?_
  ·refine ld aA (J0.mono (aX.trans aU) aL) λdB cI bB aA=>?_
   obtain⟨aC,cJ,aJ,rfl,rfl,bC,bD,bE⟩:=U1 bB
   try dsimp only at aA
   refine Or.inl (aI (aI (by kernel_rfl) (by kernel_rfl)) ?_)
   obtain⟨dC,bF,aA⟩:=B0 aA
   obtain⟨bG,cK,bH,bI⟩:=j5 aB bF
   refine aI bG ?_
   obtain rfl:=bI
   refine eX _ (aI bH ?_)
   obtain⟨dD,bJ,aA⟩:=B0 aA
   obtain⟨bK,cL,bL,bM⟩:=j5 aB bJ
   refine aI bK ?_
   obtain rfl:=bM
   refine eX _ (aI bL ?_)
   refine ifB aA (λbN aA=>?_) λbN aA=>?_
   ·obtain⟨dE,bO,aA⟩:=B0 aA
    obtain⟨bP,cM,bQ,bR⟩:=j5 aB bO
    refine aI bP ?_
    obtain rfl:=bR
    refine eX _ (aI bQ ?_)
    obtain⟨dF,bS,aA⟩:=B0 aA
    obtain⟨bT,cN,bU,bV⟩:=j5 (F2.set (p:=Wp.bool.R aZ) (a:=[.bool true]) (b:=true) rfl aC.toNat aB) bS
    refine aI bT ?_
    obtain rfl:=bV
    refine eX _ (aI bU ?_)
    exact A3 aS ⟨true,(IntKind.i64.wrap (aM+1)),((aD.set aC.toNat [.bool true]).set aJ.toNat [.bool true]),((aN.set aC.toNat true).set aJ.toNat true),rfl,rfl,aU,(I0 _),(F2.set (p:=Wp.bool.R aZ) (a:=[.bool true]) (b:=true) rfl aJ.toNat (F2.set (p:=Wp.bool.R aZ) (a:=[.bool true]) (b:=true) rfl aC.toNat aB)),aA⟩
   ·exact A3 aS ⟨aO,(IntKind.i64.wrap (aM+1)),aD,aN,rfl,rfl,aU,(I0 _),aB,aA⟩
  ·obtain rfl:=oJ aA
   try dsimp only[C1,E1]at aF
   exact A3 m7 ⟨aO,aD,aN,rfl,rfl,(aX.trans aU),aB,aF⟩
 ·obtain rfl:=oJ aF
  try dsimp only[C1,E1]at aK
  intro dG dH cY
  obtain⟨bW,bX,rfl,bY,bZ,cZ⟩:=O1.out (r:=Wp.bool.toRp) cY cG
  obtain rfl:=oJ aK
  exact⟨bW,u5.length,bX,rfl,bY,(aX.trans bZ)⟩
theorem X05(h:Hp)(p0:Int)(aR:O0 p0)(r:Y0)(aB:O8 p0=some r):
  Tr Tryz.prog 309 #[.int .i64 p0] h λv h'=>∃(a0:Option Addr) (n0 c0:Nat),v = .slice a0 n0 c0/\M4.R h' [.slice a0 n0 c0] r/\Sub h h':=by
 unfold O8 at aB
 refine D3 (args:=[.int .i64 p0]) (fn:=Tryz.f309) rfl ?_
 obtain⟨X1,aF,aB⟩:=B0 aB
 refine eX { vars:=[4],boxes:=[],owns:=[0],fuel:=true } (eX (λvs os h'=>∃ u2 aC u3,vs.tail = [.int .i64 u2]/\os = [aC]/\Sub h h'/\O0 u2/\F2 (Wp.int.R h') aC u3/\R6 p0 (D2 vs) u2 u3=some X1) (eX (λ_ _=>0) (aI (eX U0 ⟨1,[],([]:Y0),rfl,rfl,(Sub.refl _),(by decide),(show F2 (Wp.int.R h) ([]:List (List Value)) ([]:Y0) from trivial),aF⟩) ?_)))
 rintro _ aC m5 k4 ⟨u2,aN,u3,⟨⟩,⟨⟩,aL,aM,aD,aA⟩
 replace aA:R6 p0 m5 u2 u3=some X1:=aA
 obtain _|m5:=m5
 ·cases aA
 rw[R6.eq_2]at aA
 refine ifB aA (λaO aA=>?_) λaO aA=>?_
 ·obtain⟨q7,aP,aA⟩:=B0 aA
  refine aI (J2 aP (by first|rw[F2.length aD,F2.length (show F2 (Wp.int.R k4) ([[.int .i64 u2],[.int .i64 (IntKind.i64.wrap (0-u2))]]:List (List Value)) [u2,(IntKind.i64.wrap (0-u2))] from⟨⟨rfl,aM⟩,⟨⟨rfl,(I0 _)⟩,trivial⟩⟩)]|exact congrArg (·+2) (F2.length aD))) ?_
  exact A3 m5 ⟨(IntKind.i64.wrap (u2+1)),(aC++([[.int .i64 u2],[.int .i64 (IntKind.i64.wrap (0-u2))]]:List (List Value))),(u3 ++ [u2,(IntKind.i64.wrap (0-u2))]),rfl,rfl,aL,(I0 _),(F2.append aD (show F2 (Wp.int.R k4) ([[.int .i64 u2],[.int .i64 (IntKind.i64.wrap (0-u2))]]:List (List Value)) [u2,(IntKind.i64.wrap (0-u2))] from⟨⟨rfl,aM⟩,⟨⟨rfl,(I0 _)⟩,trivial⟩⟩)),aA⟩
 ·obtain rfl:=oJ aA
  try dsimp only[C1,E1]at aB
  intro v8 k9 f10
  obtain⟨aG,aH,rfl,aJ,aK,aQ⟩:=O1.out (r:=Wp.int.toRp) f10 aD
  obtain rfl:=oJ aB
  exact⟨aG,u3.length,aH,rfl,aJ,(aL.trans aK)⟩
theorem i02(h:Hp)(aB:Option Addr)(aF aC:Nat)(p0:K0)(aG:J0.R h [.slice aB aF aC] p0)(r:K0)(aA:R7 p0=some r):
  Tr Tryz.prog 251 #[.slice aB aF aC] h λv h'=>∃(a0:Option Addr) (n0 c0:Nat),v = .slice a0 n0 c0/\New J0 h h' [.slice a0 n0 c0] r:=by
 obtain⟨rfl,aU⟩:=Sl.len aG
 unfold R7 at aA
 refine D3 (args:=[.slice aB p0.length aC]) (fn:=Tryz.f251) rfl ?_
 obtain⟨aD,aN,aH⟩:=Sl.rows (r:=H1.toRp) aG
 refine eX aD (aI aN ?_)
 obtain⟨q2,aO,aA⟩:=B0 aA
 refine aI (J2 aO (by first|rw[F2.length (show F2 (H1.R h) ([]:List (List Value)) ([]:K0) from trivial),F2.length aH]|exact congrArg (·+1) (F2.length (show F2 (H1.R h) ([]:List (List Value)) ([]:K0) from trivial)))) ?_
 refine Or.inl ?_
 intro v3 k4 f5
 obtain⟨q6,aP,aA⟩:=B0 aA
 refine Tr.mono (F0g _ f5 (F2.append (show F2 (H1.R h) ([]:List (List Value)) ([]:K0) from trivial) aH) (A2 aP)) ?_
 rintro _ aV ⟨rfl,aQ,aJ,aK⟩
 obtain⟨aW,aX,rfl,aY,aZ,bA⟩:=O1.out (r:=H1.toRp) aJ aK
 refine Tr.mono (G0g _ aJ aK) ?_
 rintro _ bB ⟨aR,aL,aM⟩
 obtain⟨aS,aT,rfl,bC,bD,bE⟩:=O1.out (r:=H1.toRp) aL aM
 obtain rfl:=oJ aA
 exact⟨aS,((O01 eqE (o04 P0 (([]:K0)++p0)))).length,aT,rfl,(O1.newPlain (r:=H1) aL aM (a0c _))⟩
theorem U09(h:Hp)(bA:List Value)(p0:j0)(dX:D1.R h bA p0)(bO:Option Addr)(dG bP:Nat)(p1:Y0)(dH:M4.R h [.slice bO dG bP] p1)(r:j0)(aC:x01 p0 p1=some r):
  Tr Tryz.prog 291 #[.agg bA.toArray,.slice bO dG bP] h λv h'=>∃(dI:List Value),v = .agg dI.toArray/\New D1 h h' dI r:=by
 obtain⟨bB,aD,bC,dJ,bD,aT,rfl,rfl,bE,dK,aO⟩:=C0 dX
 obtain⟨rfl,dL⟩:=Sl.len aO
 obtain⟨rfl,dY⟩:=Sl.len dH
 unfold x01 at aC
 dsimp only at aC
 refine D3 (args:=[.agg #[.int .i64 bB,.int .i64 aD,.slice bC aT.length bD],.slice bO p1.length bP]) (fn:=Tryz.f291) rfl ?_
 obtain⟨q1,dZ,aC⟩:=B0 aC
 refine aI (A2 dZ) ?_
 obtain⟨m2,eA,aC⟩:=B0 aC
 obtain rfl:(List.replicate aD.toNat ([.int .i64 0]:List Value)).length=m2:=(F2.length (F2.rep (p:=Wp.int.R h) (a:=[.int .i64 0]) (b:=0) ⟨rfl,(by decide)⟩ (aD.toNat))).trans (oJ eA)
 obtain⟨q3,eY,aC⟩:=B0 aC
 obtain⟨X4,bQ,aC⟩:=B0 aC
 refine eX { vars:=[17],boxes:=[],owns:=[0],fuel:=true,kept:=[0] } (eX (λvs os h'=>∃ u5 bF u6,vs.tail = [.int .i64 u5]/\os = [bF]/\Sub h h'/\O0 u5/\F2 (Wp.int.R h') bF u6/\w8 ((List.replicate aD.toNat ([.int .i64 0]:List Value))).length (D2 vs) u5 u6=some X4) (eX (λ_ _=>0) (aI (eX U0 ⟨0,(List.replicate aD.toNat ([.int .i64 0]:List Value)),(List.replicate aD.toNat (0:Int)),rfl,rfl,(Sub.refl _),(by decide),(F2.rep (p:=Wp.int.R h) (a:=[.int .i64 0]) (b:=0) ⟨rfl,(by decide)⟩ (aD.toNat)),bQ⟩) ?_)))
 rintro _ bF m8 k7 ⟨u5,eC,u6,⟨⟩,⟨⟩,bM,eZ,bR,aA⟩
 replace aA:w8 ((List.replicate aD.toNat ([.int .i64 0]:List Value))).length m8 u5 u6=some X4:=aA
 obtain _|m8:=m8
 ·cases aA
 rw[w8.eq_2]at aA
 refine ifB aA (λeD aA=>?_) λeD aA=>?_
 ·obtain⟨fA,bS,aA⟩:=B0 aA
  obtain⟨bT,dM,bU,bV⟩:=j5 bR bS
  refine aI bT ?_
  obtain⟨rfl,eE⟩:=bV
  refine eX _ (aI bU ?_)
  exact A3 m8 ⟨(IntKind.i64.wrap (u5+1)),(bF.set u5.toNat [.int .i64 (-1)]),(u6.set u5.toNat (-1)),rfl,rfl,bM,(I0 _),(F2.set (p:=Wp.int.R k7) (a:=[.int .i64 (-1)]) (b:=(-1)) ⟨rfl,(by decide)⟩ u5.toNat bR),aA⟩
 ·obtain rfl:=oJ aA
  try dsimp only[C1,E1]at aC
  obtain⟨X11,bG,aC⟩:=B0 aC
  refine eX { vars:=[26],boxes:=[],owns:=[0],fuel:=true,kept:=[0] } (eX (λvs os h'=>∃ aL aM aU,vs.tail = [.int .i64 aL]/\os = [aM]/\Sub k7 h'/\O0 aL/\F2 (Wp.int.R h') aM aU/\t8 p1 (D2 vs) aL aU=some X11) (eX (λ_ _=>0) (aI (eX U0 ⟨0,bF,u6,rfl,rfl,(Sub.refl _),(by decide),bR,bG⟩) ?_)))
  rintro _ aM bN bW ⟨aL,dN,aU,⟨⟩,⟨⟩,aN,bX,aG,aA⟩
  replace aA:t8 p1 bN aL aU=some X11:=aA
  obtain _|bN:=bN
  ·cases aA
  rw[t8.eq_2]at aA
  refine ifB aA (λbY aA=>?_) λbY aA=>?_
  ·refine ldI aA (M4.mono (bM.trans aN) dH) λbZ eF aA=>?_
   obtain⟨fB,cA,aA⟩:=B0 aA
   obtain⟨cC,dO,cD,cE⟩:=j5 aG cA
   refine aI cC ?_
   obtain⟨rfl,eG⟩:=cE
   refine eX _ (aI cD ?_)
   exact A3 bN ⟨(IntKind.i64.wrap (aL+1)),(aM.set bZ.toNat [.int .i64 aL]),(aU.set bZ.toNat aL),rfl,rfl,aN,(I0 _),(F2.set (p:=Wp.int.R bW) (a:=[.int .i64 aL]) (b:=aL) ⟨rfl,bX⟩ bZ.toNat aG),aA⟩
  ·obtain rfl:=oJ aA
   try dsimp only[C1,E1]at aC
   obtain⟨X19,bH,aC⟩:=B0 aC
   refine eX { vars:=[44],boxes:=[2],owns:=[1],fuel:=true,nilsB:=[(2,2,166,3,24)] } (eX (λvs os h'=>∃ aV aP aQ aH aZ,vs.tail = [.int .i64 aV,.int .i64 aP,.int .i64 aQ]/\os = [aH]/\Sub bW h'/\O0 aV/\O0 aP/\O0 aQ/\F2 (H1.R h') aH aZ/\S7 aT aU (D2 vs) aV aP aQ aZ=some X19) (eX (λ_ _=>0) (aI (eX U0 ⟨0,bB,((p1.length:Nat):Int),[],([]:K0),rfl,rfl,(Sub.refl _),(by decide),bE,(f0b dY),(show F2 (H1.R bW) [] [] from trivial),bH⟩) ?_)))
   rintro _ _ _ aH bI cG ⟨aV,aP,aQ,dP,aZ,⟨⟩,⟨⟩,aF,eH,aW,aX,aJ,aA⟩
   replace aA:S7 aT aU bI aV aP aQ aZ=some X19:=aA
   obtain _|bI:=bI
   ·cases aA
   rw[S7.eq_2]at aA
   refine ifB aA (λcH aA=>?_) λcH aA=>?_
   ·refine ld aA (J0.mono ((bM.trans aN).trans aF) aO) λfC dQ cI aA=>?_
    obtain⟨dR,aB,dS,rfl,rfl,cJ,aK,cK⟩:=U1 cI
    try dsimp only at aA
    obtain⟨fD,cL,aA⟩:=B0 aA
    obtain⟨cM,dT,cN,cO⟩:=j5 (F2.up (r:=Wp.int.toRp) aF aG) cL
    refine aI cM ?_
    obtain⟨rfl,eI⟩:=cO
    refine eX _ (aI cN ?_)
    obtain⟨fE,cP,aA⟩:=B0 aA
    obtain⟨dU,bJ,cQ⟩:=P05 (F2.up (r:=Wp.int.toRp) aF aG) cP (v0i cG)
    refine aI (λq=>(bJ q).1) ?_
    obtain⟨rfl,eJ⟩:=cQ
    refine eX _ (aI (λq=>(bJ q).2) ?_)
    refine ifB aA (λcR aA=>?_) λcR aA=>?_
    ·refine Or.inr (Or.inr (Or.inl (aI (aI (by kernel_rfl) (by kernel_rfl)) ?_)))
     obtain⟨aR,cS,aA⟩:=B0 aA
     obtain⟨cT,dV,cU,cV⟩:=j5 (F2.up (r:=Wp.int.toRp) aF aG) cS
     obtain⟨rfl,bK⟩:=cV
     refine Or.inl ?_
     apply eX
     refine aI ?_ ?_
     ·intro fF fH
      exact aI cT (aI rfl (aI rfl rfl))
     refine Or.inl (eX (.val (.int .i64 aR)) (aI ?_ ?_))
     ·intro fI fJ
      exact eX _ (aI cU (aI rfl (aI rfl rfl)))
     obtain⟨aS,cW,aA⟩:=B0 aA
     obtain⟨cX,dW,cY,cZ⟩:=j5 (F2.up (r:=Wp.int.toRp) aF aG) cW
     obtain⟨rfl,bL⟩:=cZ
     refine Or.inl ?_
     apply eX
     refine aI ?_ ?_
     ·intro fK fL
      exact aI cX (aI rfl (aI rfl rfl))
     refine Or.inl (eX (.val (.int .i64 aS)) (aI ?_ ?_))
     ·intro fM fN
      exact eX _ (aI cY (aI rfl (aI rfl rfl)))
     refine Or.inl (eX (.agg [.val (.int .i64 aR),.val (.int .i64 aB),.val (.int .i64 aS)]) (aI ?_ ?_))
     ·intro fO fP
      exact aI rfl (aI rfl rfl)
     refine Or.inr ?_
     refine Or.inr ?_
     refine Or.inr ?_
     refine Or.inl (eX 0 (aI (aI rfl rfl) ?_))
     refine aI trivial (aI (by first|exact trivial|exact rfl) ?_)
     obtain⟨fQ,dA,aA⟩:=B0 aA
     refine aI (J2 dA (by first|rw[F2.length aJ,F2.length (show F2 (H1.R cG) ([[.int .i64 aR,.int .i64 aB,.int .i64 aS]]:List (List Value)) [(aR,aB,aS)] from⟨(T1 bK aK bL),trivial⟩)]|exact congrArg (·+1) (F2.length aJ))) ?_
     refine aI trivial (aI (by first|exact trivial|exact rfl) ?_)
     refine aI trivial (aI (by first|exact trivial|exact rfl) ?_)
     exact A3 bI ⟨(IntKind.i64.wrap (aV+1)),aP,aQ,(aH++([[.int .i64 aR,.int .i64 aB,.int .i64 aS]]:List (List Value))),(aZ ++ [(aR,aB,aS)]),rfl,rfl,aF,(I0 _),aW,aX,(F2.append aJ (show F2 (H1.R cG) ([[.int .i64 aR,.int .i64 aB,.int .i64 aS]]:List (List Value)) [(aR,aB,aS)] from⟨(T1 bK aK bL),trivial⟩)),aA⟩
    ·exact A3 bI ⟨(IntKind.i64.wrap (aV+1)),aP,aQ,aH,aZ,rfl,rfl,aF,(I0 _),aW,aX,aJ,aA⟩
   ·obtain rfl:=oJ aA
    try dsimp only[C1,E1]at aC
    refine Or.inl ?_
    intro fR eM eN
    obtain⟨eO,eP,rfl,dB,dC,eQ⟩:=O1.out (r:=H1.toRp) eN aJ
    refine trM aC (i02 _ _ _ _ _ dB) ?_
    rintro eR aC fS eT ⟨dD,eU,dE,rfl,aY⟩
    have eV:Sub eM eT:=aY.sub
    have dF:=aY.r
    obtain⟨rfl,eW⟩:=Sl.len dF
    obtain rfl:=oJ aC
    exact⟨([.int .i64 aP,.int .i64 aQ,.slice dD eR.length dE]),rfl,(New.pair (New.int aW) (New.pair (New.int aX) (New.from aY (((bM.trans aN).trans aF).trans dC))))⟩
theorem P06(h:Hp)(p0:ByteArray)(aJ:p0.size<=9223372036854775807)(r:Bool)(aB:i00 p0=some r):
  Tr Tryz.prog 136 #[.string p0] h λv h'=>v = .bool r/\h'=h:=by
 unfold i00 at aB
 refine Tr.forget (D3 (args:=[.string p0]) (fn:=Tryz.f136) rfl ?_)
 refine trV aB (m00 _ _ (f0b aJ) 1 (by decide) 8 (by decide)) λx1 aB=>?_
 refine ifB aB (λaK aB=>?_) λaK aB=>?_
 ·obtain rfl:=oJ aB
  exact aI rfl (Sub.refl _)
 ·obtain⟨X3,aC,aB⟩:=B0 aB
  refine eX { vars:=[3],boxes:=[],owns:=[],fuel:=true } (eX (λvs os h'=>∃ u4,vs.tail = [.int .i64 u4]/\os = []/\Sub h h'/\O0 u4/\D7 p0 (D2 vs) u4=some X3) (eX (λ_ _=>0) (aI (eX U0 ⟨0,rfl,rfl,(Sub.refl _),(by decide),aC⟩) ?_)))
  rintro _ m6 k5 ⟨u4,⟨⟩,⟨⟩,aD,aP,aA⟩
  replace aA:D7 p0 m6 u4=some X3:=aA
  obtain _|m6:=m6
  ·cases aA
  rw[D7.eq_2]at aA
  refine ifB aA (λaL aA=>?_) λaL aA=>?_
  ·obtain⟨x8,aM,aA⟩:=B0 aA
   refine eX _ (aI (t02 aM) ?_)
   obtain⟨x9,aN,aA⟩:=B0 aA
   refine eX x9 (aI (λq=>t02 (F7 aN q)) ?_)
   obtain⟨aQ,aF,aA⟩:=B0 aA
   refine eX _ (aI (t02 aF) ?_)
   obtain⟨aO,aG,aA⟩:=B0 aA
   refine eX aO (aI (λq=>t02 (F7 aG q)) ?_)
   refine ifB aA (λaH aA=>?_) λaH aA=>?_
   ·obtain rfl:=oJ aA
    try dsimp only[J5,K5]at aB
    obtain rfl:=oJ aB
    exact aI rfl aD
   ·exact A3 m6 ⟨(IntKind.i64.wrap (u4+1)),rfl,rfl,aD,(I0 _),aA⟩
  ·obtain rfl:=oJ aA
   try dsimp only[C1,E1]at aB
   obtain rfl:=oJ aB
   exact aI rfl aD
theorem u08(h:Hp)(bD:List Value)(p0:j0)(eD:D1.R h bD p0)(p1:Int)(eE:O0 p1)(r:Y0×e0e)(aO:o00 p0 p1=some r):
  Tr Tryz.prog 236 #[.agg bD.toArray,.int .i64 p1] h λv h'=>∃(a0:Option Addr) (n0 c0:Nat) (a1:Option Addr) (n1 c1:Nat),v = .tuple #[.slice a0 n0 c0,.slice a1 n1 c1]/\M4.R h' [.slice a0 n0 c0] r.1/\r0o.R h' [.slice a1 n1 c1] r.2/\Sub h h':=by
 obtain⟨aJ,aC,bE,dN,bF,aK,rfl,rfl,aS,bG,aT⟩:=C0 eD
 obtain⟨rfl,dO⟩:=Sl.len aT
 unfold o00 at aO
 dsimp only at aO
 refine D3 (args:=[.agg #[.int .i64 aJ,.int .i64 aC,.slice bE aK.length bF],.int .i64 p1]) (fn:=Tryz.f236) rfl ?_
 obtain⟨q1,eF,aO⟩:=B0 aO
 refine aI (A2 eF) ?_
 obtain⟨x2,eG,aO⟩:=B0 aO
 obtain⟨eH,eI,eJ,eM⟩:=j5 (F2.rep (p:=Wp.opt.R h) (a:=[.slice none 0 0]) (b:=none) (Y0n h) (aC.toNat)) eG
 refine aI eH ?_
 obtain⟨gA,gB,gC,rfl,gD,eN⟩:=eM
 obtain⟨rfl,gE⟩:=Sl.len eN
 intro v3 k4 f5
 obtain⟨dP,dQ,rfl,eO,cA,gF⟩:=O1.outS (r:=Wp.int.toRp) f5 (show F2 (Wp.int.R h) ([]:List (List Value)) ([]:Y0) from trivial)
 refine eX _ (aI eJ ?_)
 obtain⟨X7,cC,aO⟩:=B0 aO
 refine eX { vars:=[8],boxes:=[],owns:=[0,2],fuel:=true,kept:=[0] } (eX (λvs os h'=>∃ u8 bX u9 aL bC,vs.tail = [.int .i64 u8]/\os = [bX,aL]/\Sub k4 h'/\O0 u8/\F2 (Wp.opt.R h') bX u9/\F2 (Wp.int.R h') aL bC/\d6 aJ aC aK (D2 vs) u8 u9 bC=some X7) (eX (λ_ _=>0) (aI (eX U0 ⟨0,((List.replicate aC.toNat ([.slice none 0 0]:List Value)).set p1.toNat [.slice (some ⟨dP,0,none⟩) (([]:Y0)).length dQ]),((List.replicate aC.toNat (none:Option Y0)).set p1.toNat (some ([]:Y0))),([[.int .i64 p1]]:List (List Value)),[p1],rfl,rfl,(Sub.refl _),(by decide),(F2.set (p:=Wp.opt.R k4) (a:=[.slice (some ⟨dP,0,none⟩) (([]:Y0)).length dQ]) (b:=some ([]:Y0)) (Z0n eO) p1.toNat (F2.up (r:=Wp.opt.toRp) cA (F2.rep (p:=Wp.opt.R h) (a:=[.slice none 0 0]) (b:=none) (Y0n h) (aC.toNat)))),(show F2 (Wp.int.R k4) ([[.int .i64 p1]]:List (List Value)) [p1] from⟨⟨rfl,eE⟩,trivial⟩),cC⟩) ?_)))
 rintro _ bX aL bY gG ⟨u8,eP,u9,dR,bC,⟨⟩,⟨⟩,cD,gH,dS,aQ,aB⟩
 replace aB:d6 aJ aC aK bY u8 u9 bC=some X7:=aB
 obtain _|bY:=bY
 ·cases aB
 rw[d6.eq_2]at aB
 obtain⟨eQ,cE,aB⟩:=B0 aB
 obtain rfl:aL.length=eQ:=(F2.length aQ).trans (oJ cE)
 obtain⟨gI,eR,aB⟩:=B0 aB
 refine ifB aB (λcG aB=>?_) λcG aB=>?_
 ·obtain⟨dT,cH,aB⟩:=B0 aB
  obtain⟨cI,dU,cJ,cK⟩:=j5 aQ cH
  refine aI cI ?_
  obtain⟨rfl,cL⟩:=cK
  refine eX _ (aI cJ ?_)
  refine trM aB (X05 _ _ aS) ?_
  rintro dV aB gJ eT ⟨eU,eV,eW,rfl,bH,aR⟩
  obtain⟨rfl,eY⟩:=Sl.len bH
  obtain⟨X20,bI,aB⟩:=B0 aB
  refine eX { vars:=[36],boxes:=[],owns:=[0,2],fuel:=true,kept:=[0] } (eX (λvs os h'=>∃ aW aF aX aG aY,vs.tail = [.int .i64 aW]/\os = [aF,aG]/\Sub eT h'/\O0 aW/\F2 (Wp.opt.R h') aF aX/\F2 (Wp.int.R h') aG aY/\R4 dV aJ aC aK dT (D2 vs) aW aX aY=some X20) (eX (λ_ _=>0) (aI (eX U0 ⟨0,bX,u9,aL,bC,rfl,rfl,(Sub.refl _),(by decide),(F2.up (r:=Wp.opt.toRp) aR dS),(F2.up (r:=Wp.int.toRp) aR aQ),bI⟩) ?_)))
  rintro _ aF aG bJ dW ⟨aW,dX,aX,dY,aY,⟨⟩,⟨⟩,aM,eZ,aH,aN,aA⟩
  replace aA:R4 dV aJ aC aK dT bJ aW aX aY=some X20:=aA
  obtain _|bJ:=bJ
  ·cases aA
  rw[R4.eq_2]at aA
  refine ifB aA (λcM aA=>?_) λcM aA=>?_
  ·refine ldI aA (M4.mono aM bH) λaU aZ aA=>?_
   refine trV aA (L01 _ _ _ (l0 aS bG (J0.mono (((cA.trans cD).trans aR).trans aM) aT)) _ cL _ aZ) λaP aA=>?_
   obtain⟨gK,cN,aA⟩:=B0 aA
   have bK:O0 aP:=A2 cN
   obtain⟨fA,cO,aA⟩:=B0 aA
   obtain⟨dZ,bL,cP⟩:=P05 aH cO (Z0o dW)
   refine aI (λq=>(bL q).1) ?_
   obtain⟨fB,fC,fD,rfl,cQ,cR⟩:=cP
   obtain⟨rfl,fE⟩:=Sl.len cR
   refine eX _ (aI (λq=>(bL q).2) ?_)
   refine eX (fA.isNone) (aI (λ_=>by rw[←cQ];exact Y0o _ _ _ rfl _ _ _) ?_)
   refine ifB aA (λcS aA=>?_) λcS aA=>?_
   ·obtain⟨gL,cT,aA⟩:=B0 aA
    obtain⟨cU,eA,cV,cW⟩:=j5 aH cT
    refine aI cU ?_
    obtain⟨fF,fH,fI,rfl,fJ,bM⟩:=cW
    obtain⟨rfl,fK⟩:=Sl.len bM
    refine eX _ (aI cV ?_)
    obtain⟨bZ,bN,aA⟩:=B0 aA
    refine Tr.mono (e0a _ _ _ _ _ bM _  bN) ?_
    rintro gM cX ⟨bN,fL,fM,rfl,bA⟩
    have fN:Sub dW cX:=bA.sub
    have cY:=bA.r
    obtain⟨rfl,fO⟩:=Sl.len cY
    obtain⟨gN,cZ,aA⟩:=B0 aA
    obtain⟨bO,bP,aV,bQ⟩:=New.app bA (Sub.refl _)
    refine eX bO (aI bP (aI (J2 cZ (by first|rw[aV,F2.length (show F2 (Wp.int.R cX) ([[.int .i64 aU]]:List (List Value)) [aU] from⟨⟨rfl,aZ⟩,trivial⟩)]|(rw[aV];rfl))) ?_))
    intro fP bB happz37
    obtain⟨aD,bR,bS,fQ,bT,rfl⟩:=bQ _ _ _ _ _ (F3.ofPlain (u0i _) (show F2 (Wp.int.R cX) ([[.int .i64 aU]]:List (List Value)) [aU] from⟨⟨rfl,aZ⟩,trivial⟩)) c5.ofPlain happz37
    have bU:=aD.r
    obtain⟨dA,fR⟩:=Sl.len bU
    subst dA
    obtain⟨gO,dB,aA⟩:=B0 aA
    obtain⟨dC,eC,dD,dE⟩:=j5 (F2.up (r:=Wp.opt.toRp) aD.sub aH) dB
    refine aI dC ?_
    obtain⟨fS,fT,fU,rfl,fV,dF⟩:=dE
    obtain⟨rfl,fW⟩:=Sl.len dF
    refine eX _ (aI dD ?_)
    obtain⟨gP,dG,aA⟩:=B0 aA
    refine aI (J2 dG (by first|rw[F2.length (F2.up (r:=Wp.int.toRp) aD.sub aN),F2.length (show F2 (Wp.int.R bB) ([[.int .i64 aP]]:List (List Value)) [aP] from⟨⟨rfl,bK⟩,trivial⟩)]|exact congrArg (·+1) (F2.length (F2.up (r:=Wp.int.toRp) aD.sub aN)))) ?_
    exact A3 bJ ⟨(IntKind.i64.wrap (aW+1)),(aF.set aP.toNat [.slice (some ⟨bR,bS,none⟩) (bZ ++ [aU]).length bT]),(aX.set aP.toNat (some (bZ ++ [aU]))),(aG++([[.int .i64 aP]]:List (List Value))),(aY ++ [aP]),rfl,rfl,(aM.trans aD.sub),(I0 _),(F2.set (p:=Wp.opt.R bB) (a:=[.slice (some ⟨bR,bS,none⟩) (bZ ++ [aU]).length bT]) (b:=some (bZ ++ [aU])) (Z0n bU) aP.toNat (F2.up (r:=Wp.opt.toRp) aD.sub aH)),(F2.append (F2.up (r:=Wp.int.toRp) aD.sub aN) (show F2 (Wp.int.R bB) ([[.int .i64 aP]]:List (List Value)) [aP] from⟨⟨rfl,bK⟩,trivial⟩)),aA⟩
   ·exact A3 bJ ⟨(IntKind.i64.wrap (aW+1)),aF,aX,aG,aY,rfl,rfl,aM,(I0 _),aH,aN,aA⟩
  ·obtain rfl:=oJ aA
   try dsimp only[C1,E1]at aB
   exact A3 bY ⟨(IntKind.i64.wrap (u8+1)),aF,aX,aG,aY,rfl,rfl,((cD.trans aR).trans aM),(I0 _),aH,aN,aB⟩
 ·obtain rfl:=oJ aB
  try dsimp only[C1,E1]at aO
  intro gQ gR fX
  obtain⟨dH,dI,rfl,dJ,bV,fY⟩:=O1.out (r:=Wp.int.toRp) fX aQ
  intro gS gT f51
  obtain⟨dK,dL,rfl,dM,bW,fZ⟩:=O1.out (r:=M4.toRp) f51 (F2.ofOpt (F2.up (r:=Wp.opt.toRp) bV dS))
  obtain rfl:=oJ aO
  exact⟨dH,bC.length,dI,dK,(List.map (λo:Option Y0=>o.getD ([]:Y0)) u9).length,dL,rfl,(M4.mono bW dJ),dM,(((cA.trans cD).trans bV).trans bW)⟩
theorem l05(h:Hp)(aH:List Value)(p0:j0)(aZ:D1.R h aH p0)(r:Y0)(aA:I7 p0=some r):
  Tr Tryz.prog 303 #[.agg aH.toArray] h λv h'=>∃(a0:Option Addr) (n0 c0:Nat),v = .slice a0 n0 c0/\M4.R h' [.slice a0 n0 c0] r/\Sub h h':=by
 obtain⟨aN,aO,aJ,aR,aK,aP,rfl,rfl,aD,aF,aB⟩:=C0 aZ
 obtain⟨rfl,aS⟩:=Sl.len aB
 unfold I7 at aA
 dsimp only at aA
 refine D3 (args:=[.agg #[.int .i64 aN,.int .i64 aO,.slice aJ aP.length aK]]) (fn:=Tryz.f303) rfl ?_
 refine trV aA (c00 _ _ _ (l0 aD aF aB)) λx1 aA=>?_
 refine ifB aA (λbA aA=>?_) λbA aA=>?_
 ·intro v3 k4 f5
  obtain⟨bB,bC,rfl,bD,bE,bH⟩:=O1.out (r:=Wp.int.toRp) f5 (show F2 (Wp.int.R h) ([]:List (List Value)) ([]:Y0) from trivial)
  obtain rfl:=oJ aA
  exact⟨bB,(([]:Y0)).length,bC,rfl,bD,bE⟩
 ·refine trM aA (u08 _ _ _ (l0 aD aF aB) 0 (by decide)) ?_
  rintro x7 aA v9 k8 ⟨aL,aT,aM,aU,aV,aW,rfl,aC,aG,bF⟩
  obtain⟨aQ,bG⟩:=x7
  dsimp only at aA aC aG
  obtain⟨rfl,aX⟩:=Sl.len aC
  obtain⟨rfl,aY⟩:=Sl.len aG
  obtain rfl:=oJ aA
  exact⟨aL,aQ.length,aM,rfl,aC,bF⟩
theorem Q01(h:Hp)(aM:List Value)(p0:j0)(bU:D1.R h aM p0)(r:j0)(aA:t6 p0=some r):
  Tr Tryz.prog 221 #[.agg aM.toArray] h λv h'=>∃(bM:List Value),v = .agg bM.toArray/\New D1 h h' bM r:=by
 obtain⟨aY,aZ,aN,bN,aO,bA,rfl,rfl,aC,aD,aB⟩:=C0 bU
 obtain⟨rfl,bO⟩:=Sl.len aB
 unfold t6 at aA
 dsimp only at aA
 refine D3 (args:=[.agg #[.int .i64 aY,.int .i64 aZ,.slice aN bA.length aO]]) (fn:=Tryz.f221) rfl ?_
 refine trV aA (c00 _ _ _ (l0 aC aD aB)) λx1 aA=>?_
 refine ifB aA (λbV aA=>?_) λbV aA=>?_
 ·refine trM aA (Y5 _ _ _ (l0 aC aD aB)) ?_
  rintro x3 aA v5 k4 ⟨aP,bP,aQ,rfl,aX⟩
  have bY:Sub h k4:=aX.sub
  have bQ:=aX.r
  obtain⟨bB,bC,bD⟩:=x3
  dsimp only at aA aX bQ
  obtain⟨_,_,_,_,_,_,bE,bF,aR,aS,aT⟩:=C0 bQ
  cases bE
  cases bF
  obtain⟨rfl,bR⟩:=Sl.len aT
  try dsimp only at aA
  have bW:=New.sndI (New.sndI (aX))
  obtain rfl:=oJ aA
  exact⟨([.int .i64 bB,.int .i64 bC,.slice (some ⟨aP,0,none⟩) bD.length aQ]),rfl,(New.pair (New.int aR) (New.pair (New.int aS) bW))⟩
 ·refine Or.inr (Or.inr (Or.inl (aI (aI (by kernel_rfl) (by kernel_rfl)) ?_)))
  refine Or.inr ?_
  refine Or.inr ?_
  refine Or.inr ?_
  refine Or.inl (eX 2 (aI (aI rfl rfl) ?_))
  refine trM aA (l05 _ _ _ (l0 aC aD aB)) ?_
  rintro x7 aA v9 k8 ⟨bZ,cA,cC,rfl,bS,bG⟩
  obtain⟨rfl,cD⟩:=Sl.len bS
  refine aI (aI rfl bG) (aI (by first|exact trivial|exact rfl) ?_)
  refine trM aA (U09 _ _ _ (l0 aC aD (J0.mono bG aB)) _ _ _ _ bS) ?_
  rintro cE aA cG bX ⟨bT,rfl,aF⟩
  have bH:Sub k8 bX:=aF.sub
  have bI:=aF.r
  obtain⟨aU,aV,aG,bJ,aH,aW,rfl,rfl,aJ,aK,aL⟩:=C0 bI
  obtain⟨rfl,bK⟩:=Sl.len aL
  try dsimp only at aA
  have bL:=New.sndI (New.sndI (aF))
  refine aI (aI rfl bH) (aI (by first|exact trivial|exact rfl) ?_)
  refine aI trivial (aI (by first|exact trivial|exact rfl) ?_)
  obtain rfl:=oJ aA
  exact⟨([.int .i64 aU,.int .i64 aV,.slice aG aW.length aH]),rfl,(New.pair (New.int aJ) (New.pair (New.int aK) (New.from bL bG)))⟩
theorem B04(h:Hp)(cA:List Value)(p0:j0)(gC:D1.R h cA p0)(r:j0×Y0)(aC:U6 p0=some r):
  Tr Tryz.prog 220 #[.agg cA.toArray] h λv h'=>∃(fL:List Value) (a1:Option Addr) (n1 c1:Nat),v = .tuple #[.agg fL.toArray,.slice a1 n1 c1]/\New D1 h h' fL r.1/\M4.R h' [.slice a1 n1 c1] r.2:=by
 obtain⟨dQ,bL,cC,fM,cD,dR,rfl,rfl,aY,aZ,aJ⟩:=C0 gC
 obtain⟨rfl,fN⟩:=Sl.len aJ
 unfold U6 at aC
 dsimp only at aC
 refine D3 (args:=[.agg #[.int .i64 dQ,.int .i64 bL,.slice cC dR.length cD]]) (fn:=Tryz.f220) rfl ?_
 refine trM aC (Y5 _ _ _ (l0 aY aZ aJ)) ?_
 rintro x1 aC v3 k2 ⟨bA,fO,bB,rfl,dN⟩
 have dS:Sub h k2:=dN.sub
 have fP:=dN.r
 obtain⟨cE,cG,bM⟩:=x1
 dsimp only at aC dN fP
 obtain⟨_,_,_,_,_,_,dT,dU,bC,bD,cH⟩:=C0 fP
 cases dT
 cases dU
 obtain⟨rfl,fQ⟩:=Sl.len cH
 try dsimp only at aC
 have fR:=New.sndI (New.sndI (dN))
 refine trV aC (G9 _ _ _ (l0 aY aZ (J0.mono dS aJ))) λx5 aC=>?_
 refine ifB aC (λgD aC=>?_) λgD aC=>?_
 ·intro v7 k8 f9
  obtain⟨dV,dW,rfl,dX,dY,gE⟩:=O1.out (r:=Wp.int.toRp) f9 (show F2 (Wp.int.R k2) ([]:List (List Value)) ([]:Y0) from trivial)
  obtain rfl:=oJ aC
  exact⟨([.int .i64 cE,.int .i64 cG,.slice (some ⟨bA,0,none⟩) bM.length bB]),dV,(([]:Y0)).length,dW,rfl,(New.pair (New.int bC) (New.pair (New.int bD) (New.mono fR dY))),dX⟩
 ·obtain⟨X11,cI,aC⟩:=B0 aC
  refine eX { vars:=[6],boxes:=[],owns:=[0],fuel:=true } (eX (λvs os h'=>∃ aH aQ bN,vs.tail = [.int .i64 aH]/\os = [aQ]/\Sub k2 h'/\O0 aH/\F2 (Wp.int.R h') aQ bN/\P5 bL (D2 vs) aH bN=some X11) (eX (λ_ _=>0) (aI (eX U0 ⟨0,[],([]:Y0),rfl,rfl,(Sub.refl _),(by decide),(show F2 (Wp.int.R k2) ([]:List (List Value)) ([]:Y0) from trivial),cI⟩) ?_)))
  rintro _ aQ dO fS ⟨aH,fT,bN,⟨⟩,⟨⟩,aR,cJ,aK,aA⟩
  replace aA:P5 bL dO aH bN=some X11:=aA
  obtain _|dO:=dO
  ·cases aA
  rw[P5.eq_2]at aA
  refine ifB aA (λdZ aA=>?_) λdZ aA=>?_
  ·obtain⟨gZ,eA,aA⟩:=B0 aA
   refine aI (J2 eA (by first|rw[F2.length aK,F2.length (show F2 (Wp.int.R fS) ([[.int .i64 aH]]:List (List Value)) [aH] from⟨⟨rfl,cJ⟩,trivial⟩)]|exact congrArg (·+1) (F2.length aK))) ?_
   exact A3 dO ⟨(IntKind.i64.wrap (aH+1)),(aQ++([[.int .i64 aH]]:List (List Value))),(bN ++ [aH]),rfl,rfl,aR,(I0 _),(F2.append aK (show F2 (Wp.int.R fS) ([[.int .i64 aH]]:List (List Value)) [aH] from⟨⟨rfl,cJ⟩,trivial⟩)),aA⟩
  ·obtain rfl:=oJ aA
   try dsimp only[C1,E1]at aC
   obtain⟨X22,cK,aC⟩:=B0 aC
   refine eX { vars:=[5],boxes:=[2],owns:=[],fuel:=true,pubs:=[5] } (eX (λvs os h'=>∃(aS:Option Addr) (bO aL:Nat) (cL:Y0) (bE:Int) (aP:Int) (aT:Option Addr) (bP aU:Nat) (bQ:K0),vs.tail = [.slice aS bO aL,.int .i64 bE,.int .i64 aP,.slice aT bP aU]/\os = []/\Sub h h'/\New M4 h h' [.slice aS bO aL] cL/\O0 bE/\O0 aP/\New J0 h h' [.slice aT bP aU] bQ/\n5 (D2 vs) cL bE aP bQ=some X22) (eX (λ_ _=>0) ?_))
   intro hJ hU fU
   obtain⟨eC,eD,rfl,gF,cM,gG⟩:=O1.out (r:=Wp.int.toRp) fU aK
   refine aI (eX U0 ⟨eC,bN.length,eD,bN,cE,cG,(some ⟨bA,0,none⟩),bM.length,bB,bM,rfl,rfl,((dS.trans aR).trans cM),(New.from (O1.newPlain (r:=Wp.int) fU aK (u0i _)) (dS.trans aR)),bC,bD,(New.mono fR (aR.trans cM)),cK⟩) ?_
   rintro _ _ _ _ dP hY ⟨aS,bO,aL,cL,bE,aP,aT,bP,aU,bQ,⟨⟩,⟨⟩,gH,bF,aV,aW,bG,aA⟩
   replace aA:n5 dP cL bE aP bQ=some X22:=aA
   obtain _|dP:=dP
   ·cases aA
   rw[n5.eq_2]at aA
   have cN:=bF.r
   obtain⟨rfl,eE⟩:=Sl.len cN
   have aX:=bG.r
   obtain⟨rfl,gI⟩:=Sl.len aX
   refine trM aA (v06 _ _ _ (l0 aV aW aX) 0 (by decide)) ?_
   rintro fV aA hZ gJ ⟨gK,gL,gM,rfl,cO,aF⟩
   obtain⟨rfl,gN⟩:=Sl.len cO
   obtain⟨X32,cP,aA⟩:=B0 aA
   refine eX { vars:=[8,9],boxes:=[],owns:=[],fuel:=true } (eX (λvs os h'=>∃ bH bI,vs.tail = [.int .i64 bH,.int .i64 bI]/\os = []/\Sub gJ h'/\O0 bH/\O0 bI/\U3 aP bE bQ fV (D2 vs) bH bI=some X32) (eX (λ_ _=>0) (aI (eX U0 ⟨0,1,rfl,rfl,(Sub.refl _),(by decide),(by decide),cP⟩) ?_)))
   rintro _ _ cQ eF ⟨bH,bI,⟨⟩,⟨⟩,aD,eG,cR,aB⟩
   replace aB:U3 aP bE bQ fV cQ bH bI=some X32:=aB
   obtain _|cQ:=cQ
   ·cases aB
   rw[U3.eq_2]at aB
   refine ifB aB (λeH aB=>?_) λeH aB=>?_
   ·refine trV aB (d0a _ _ _ (l0 aV aW (J0.mono (aF.trans aD) aX)) _ cR) λgO aB=>?_
    obtain⟨iA,eI,aB⟩:=B0 aB
    have gP:O0 gO:=A2 eI
    obtain⟨iB,eJ,aB⟩:=B0 aB
    obtain⟨fW,cS,eM⟩:=Sl.getG (r:=Wp.bool.toRp) ((Wp.slice Wp.bool).mono aD cO) eJ (by decide) (q0l eF)
    refine aI (λq=>(cS q).1) ?_
    obtain rfl:=eM
    refine eX _ (aI (λq=>(cS q).2) ?_)
    refine ifB aB (λeN aB=>?_) λeN aB=>?_
    ·exact A3 cQ ⟨bI,(IntKind.i64.wrap (bI+1)),rfl,rfl,aD,cR,(I0 _),aB⟩
    ·exact A3 cQ ⟨bH,(IntKind.i64.wrap (bI+1)),rfl,rfl,aD,eG,(I0 _),aB⟩
   ·obtain rfl:=oJ aB
    try dsimp only[C1,E1]at aA
    refine ifB aA (λeO aA=>?_) λeO aA=>?_
    ·obtain rfl:=oJ aA
     try dsimp only[J5,K5]at aC
     obtain rfl:=oJ aC
     exact⟨([.int .i64 bE,.int .i64 aP,.slice aT bQ.length aU]),aS,cL.length,aL,rfl,(New.pair (New.int aV) (New.pair (New.int aW) (New.mono bG (aF.trans aD)))),(M4.mono (aF.trans aD) cN)⟩
    ·obtain⟨X43,cT,aA⟩:=B0 aA
     refine eX { vars:=[11],boxes:=[],owns:=[1],fuel:=true } (eX (λvs os h'=>∃ aG aM bZ,vs.tail = [.int .i64 aG]/\os = [aM]/\Sub eF h'/\O0 aG/\F2 (Wp.int.R h') aM bZ/\l5 aP bH (D2 vs) aG bZ=some X43) (eX (λ_ _=>0) (aI (eX U0 ⟨0,[],([]:Y0),rfl,rfl,(Sub.refl _),(by decide),(show F2 (Wp.int.R eF) ([]:List (List Value)) ([]:Y0) from trivial),cT⟩) ?_)))
     rintro _ aM cU fX ⟨aG,fY,bZ,⟨⟩,⟨⟩,aN,cV,aO,aB⟩
     replace aB:l5 aP bH cU aG bZ=some X43:=aB
     obtain _|cU:=cU
     ·cases aB
     rw[l5.eq_2]at aB
     refine ifB aB (λeP aB=>?_) λeP aB=>?_
     ·refine ifB aB (λeQ aB=>?_) λeQ aB=>?_
      ·obtain⟨iC,eR,aB⟩:=B0 aB
       refine aI (J2 eR (by first|rw[F2.length aO,F2.length (show F2 (Wp.int.R fX) ([[.int .i64 aG]]:List (List Value)) [aG] from⟨⟨rfl,cV⟩,trivial⟩)]|exact congrArg (·+1) (F2.length aO))) ?_
       exact A3 cU ⟨(IntKind.i64.wrap (aG+1)),(aM++([[.int .i64 aG]]:List (List Value))),(bZ ++ [aG]),rfl,rfl,aN,(I0 _),(F2.append aO (show F2 (Wp.int.R fX) ([[.int .i64 aG]]:List (List Value)) [aG] from⟨⟨rfl,cV⟩,trivial⟩)),aB⟩
      ·exact A3 cU ⟨(IntKind.i64.wrap (aG+1)),aM,bZ,rfl,rfl,aN,(I0 _),aO,aB⟩
     ·obtain rfl:=oJ aB
      try dsimp only[C1,E1]at aA
      refine Or.inl ?_
      intro iD gQ f53
      obtain⟨gR,gS,rfl,eT,bR,gT⟩:=O1.out (r:=Wp.int.toRp) f53 aO
      refine trM aA (U09 _ _ _ (l0 aV aW (J0.mono (((aF.trans aD).trans aN).trans bR) aX)) _ _ _ _ eT) ?_
      rintro iE aA iF gU ⟨fZ,rfl,bS⟩
      have eU:Sub gQ gU:=bS.sub
      have eV:=bS.r
      obtain⟨cW,cX,bT,eW,bU,bJ,rfl,rfl,bV,bW,bX⟩:=C0 eV
      obtain⟨rfl,eY⟩:=Sl.len bX
      try dsimp only at aA
      have eZ:=New.sndI (New.sndI (bS))
      obtain⟨fA,cY,aA⟩:=B0 aA
      obtain⟨fB,cZ,aA⟩:=B0 aA
      obtain⟨iG,fC,aA⟩:=B0 aA
      obtain⟨dA,dB,bK,fD,fE,Az62,Cz62,dC,dD,dE,dF,dG,gA,gB,dH,dI,dJ,dK,dL⟩:=New.drop bF ((((aF.trans aD).trans aN).trans bR).trans eU) cY cZ (E0o eE cY cZ)
      subst dE
      refine Or.inr (Or.inr (Or.inl (aI (aI (by kernel_rfl) (by kernel_rfl)) ?_)))
      refine Or.inl (eX (.val (.slice (some ⟨fD,fE,none⟩) fA.length aL)) (aI ?_ ?_))
      ·intro hh sb
       obtain⟨vs,e⟩:=bK hh sb
       exact aI dB (eX vs (aI e (λv _ hv=>aI (congrArg AV.val (dA v hv)) (aI rfl rfl))))
      refine Or.inl (eX (.val (.slice Az62 fB.length Cz62)) (aI ?_ ?_))
      ·intro hh sb
       obtain⟨vs,e⟩:=bK hh sb
       exact aI dG (eX vs (aI e (λv _ hv=>aI (congrArg AV.val (dF v hv)) (aI rfl rfl))))
      refine Or.inr ?_
      refine Or.inl (eX 0 (aI (aI rfl rfl) ?_))
      refine eX dD (aI dI (eX dC (aI dH (aI (J2 fC (by rw[dJ,dK])) ?_))))
      intro gV gW happz62
      obtain⟨bY,⟨fF,gX,fH,rfl⟩,dM⟩:=dL _ _ happz62
      have fI:=bY.r
      obtain⟨fJ,gY⟩:=Sl.len fI
      subst fJ
      refine aI trivial (aI (by first|exact trivial|exact rfl) ?_)
      have fK:=dM H1.slice _ _ _ eZ (((aF.trans aD).trans aN).trans bR)
      exact A3 dP ⟨fF,(fA++fB).length,fH,(fA++fB),cW,cX,bT,bJ.length,bU,bJ,rfl,rfl,bY.sub,bY,bV,bW,fK,aA⟩
theorem n00(h:Hp)(aT:List Value)(p0:j0)(cG:D1.R h aT p0)(r:Bool)(aA:D6 p0=some r):
  Tr Tryz.prog 111 #[.agg aT.toArray] h λv h'=>v = .bool r/\h'=h:=by
 obtain⟨bJ,aU,aV,bR,aW,bK,rfl,rfl,aC,aD,aB⟩:=C0 cG
 obtain⟨rfl,bS⟩:=Sl.len aB
 unfold D6 at aA
 dsimp only at aA
 refine Tr.forget (D3 (args:=[.agg #[.int .i64 bJ,.int .i64 aU,.slice aV bK.length aW]]) (fn:=Tryz.f111) rfl ?_)
 refine trV aA (c00 _ _ _ (l0 aC aD aB)) λx1 aA=>?_
 refine ifB aA (λcH aA=>?_) λcH aA=>?_
 ·obtain rfl:=oJ aA
  exact aI rfl (Sub.refl _)
 ·refine trM aA (B04 _ _ _ (l0 aC aD aB)) ?_
  rintro x3 aA v5 k4 ⟨bL,bT,bU,bV,rfl,aH,aM⟩
  obtain⟨cI,cJ⟩:=x3
  dsimp only at aA aH aM
  have bM:Sub h k4:=aH.sub
  have aX:=aH.r
  obtain⟨bN,aN,bD,bE,bF,bO,rfl,rfl,bG,bH,aK⟩:=C0 aX
  obtain⟨rfl,bI⟩:=Sl.len aK
  try dsimp only at aA
  obtain⟨rfl,bW⟩:=Sl.len aM
  refine Or.inr (Or.inr (Or.inr (Or.inl (aI (aI (by kernel_rfl) (by kernel_rfl)) ?_))))
  refine Or.inl (eX (.val (.bool (decide (aN=aU)))) (aI ?_ ?_))
  ·intro k6 s7
   exact aI rfl (aI rfl rfl)
  obtain⟨x8,cK,aA⟩:=B0 aA
  obtain⟨aY,aZ,aL⟩:=x8
  try dsimp only at aA
  refine Or.inr (eX (λv hh=>∃(aF:Option Addr) (aG:Nat),v = .agg #[.int .i64 aY,.int .i64 aZ,.slice aF aL.length aG]/\O0 aY/\O0 aZ/\J0.R hh [.slice aF aL.length aG] aL/\aL.length<=9223372036854775807) (aI (λv h1 h2 sb q=>by obtain⟨aF,aG,e,f0,f1,f2,f3⟩:=q;exact⟨aF,aG,e,f0,f1,J0.mono sb f2,f3⟩) (aI ?_ ?_)))
  ·intro k9 cL hq
   refine Tr.mono (Q01 _ _ _ (l0 aC aD (J0.mono (bM.trans cL) aB)) _ (F7 cK hq)) ?_
   rintro _ kk ⟨cM,rfl,bX⟩
   have sb:=bX.sub
   have cN:=bX.r
   obtain⟨bY,bZ,aO,bP,aP,cA,rfl,ey,aQ,aR,aJ⟩:=C0 cN
   cases ey
   obtain⟨rfl,aS⟩:=Sl.len aJ
   exact aI g0b (aI sb ⟨aO,aP,rfl,aQ,aR,aJ,aS⟩)
  obtain⟨cO,bQ,aA⟩:=B0 aA
  refine Or.inl (eX (.val (.bool cO)) (aI ?_ ?_))
  ·intro cR cP hq
   rintro _ ⟨cC,cD,rfl,bA,bB,bC,cE⟩
   exact Tr.val (r07 _ _ _ (l0 bA bB bC) _ _ (l0 aC aD (J0.mono (bM.trans cP) aB)) _ (F7 bQ hq)) (aI rfl (aI rfl rfl))
  intro cS cQ
  obtain rfl:=oJ aA
  exact aI rfl (bM.trans cQ)
theorem C04(h:Hp)(aJ:List Value)(p0:Q0)(bO:Y1.R h aJ p0)(r:Bool)(aB:D8 p0=some r):
  Tr Tryz.prog 135 #[.agg aJ.toArray] h λv h'=>v = .bool r/\h'=h:=by
 obtain⟨aF,aK,bD,aL,aG,rfl,rfl,aM,aC⟩:=L1 bO
 obtain⟨rfl,bE⟩:=Sl.len aC
 unfold D8 at aB
 dsimp only at aB
 refine Tr.forget (D3 (args:=[.agg #[.int .i64 aF,.slice aK aG.length aL]]) (fn:=Tryz.f135) rfl ?_)
 refine trV aB (m00 _ _ aM 1 (by decide) 3 (by decide)) λx1 aB=>?_
 refine ifB aB (λbP aB=>?_) λbP aB=>?_
 ·obtain rfl:=oJ aB
  exact aI rfl (Sub.refl _)
 ·obtain⟨X3,aS,aB⟩:=B0 aB
  refine eX { vars:=[18],boxes:=[],owns:=[],fuel:=true } (eX (λvs os h'=>∃ u4,vs.tail = [.int .i64 u4]/\os = []/\Sub h h'/\O0 u4/\Q5 aG aF (D2 vs) u4=some X3) (eX (λ_ _=>0) (aI (eX U0 ⟨0,rfl,rfl,(Sub.refl _),(by decide),aS⟩) ?_)))
  rintro _ m6 k5 ⟨u4,⟨⟩,⟨⟩,aN,cC,aA⟩
  replace aA:Q5 aG aF m6 u4=some X3:=aA
  obtain _|m6:=m6
  ·cases aA
  rw[Q5.eq_2]at aA
  refine ifB aA (λbQ aA=>?_) λbQ aA=>?_
  ·obtain⟨x8,bR,aA⟩:=B0 aA
   obtain⟨bS,bT,bU,bV⟩:=Sl.getI (r:=Z0.toRp) (Z1.mono aN aC) bR (by decide)
   refine aI bS ?_
   obtain⟨bW,bX,bY,bF,bG,bH,bZ,rfl,rfl,aO,aP,aQ,aD⟩:=j3 bV
   obtain⟨rfl,bI⟩:=Sl.len aD
   try dsimp only at aA
   refine eX _ (aI bU ?_)
   refine Or.inl (aI (aI (by kernel_rfl) (by kernel_rfl)) ?_)
   obtain⟨x9,cA,aA⟩:=B0 aA
   refine eX (.bool x9) (aI (P06 _ _ aO _  cA) ?_)
   obtain⟨cD,aT,aA⟩:=B0 aA
   obtain⟨bJ,aR,aU⟩:=Sl.getG (r:=Z0.toRp) (Z1.mono aN aC) aT (by decide) (h0e k5)
   refine aI (λq=>(aR q).1) ?_
   obtain⟨bK,bL,bM,aV,aW,aX,bN,rfl,rfl,aY,aZ,bA,aH⟩:=j3 aU
   obtain⟨rfl,bB⟩:=Sl.len aH
   try dsimp only at aA
   refine eX _ (aI (λq=>(aR q).2) ?_)
   refine trG aA (λq=>n00 _ _ _ (l0 aP aQ aD)) λcE aA=>?_
   refine ifB aA (λbC aA=>?_) λbC aA=>?_
   ·obtain rfl:=oJ aA
    try dsimp only[J5,K5]at aB
    obtain rfl:=oJ aB
    exact aI rfl aN
   ·exact A3 m6 ⟨(IntKind.i64.wrap (u4+1)),rfl,rfl,aN,(I0 _),aA⟩
  ·obtain rfl:=oJ aA
   try dsimp only[C1,E1]at aB
   obtain rfl:=oJ aB
   exact aI rfl aN
theorem P8(h:Hp)(aY:List Value)(p0:Q0)(cP:Y1.R h aY p0)(r:Q0)(aX:R5 p0=some r):
  Tr Tryz.prog 131 #[.agg aY.toArray] h λv h'=>∃(cA:List Value),v = .agg cA.toArray/\Y1.R h' cA r/\Sub h h':=by
 obtain⟨aZ,aF,cC,aG,aH,rfl,rfl,bA,aN⟩:=L1 cP
 obtain⟨rfl,cD⟩:=Sl.len aN
 unfold R5 at aX
 dsimp only at aX
 refine D3 (args:=[.agg #[.int .i64 aZ,.slice aF aH.length aG]]) (fn:=Tryz.f131) rfl ?_
 obtain⟨X1,bJ,aX⟩:=B0 aX
 refine eX { vars:=[4],boxes:=[2],owns:=[0],fuel:=true,nilsB:=[(2,1,138,4,56)] } (eX (λvs os h'=>∃ u2 u3 bG u4,vs.tail = [.int .i64 u2,.int .i64 u3]/\os = [bG]/\Sub h h'/\O0 u2/\O0 u3/\F2 (Z0.R h') bG u4/\V6 aH (D2 vs) u2 u3 u4=some X1) (eX (λ_ _=>0) (aI (eX U0 ⟨0,aZ,[],([]:K1),rfl,rfl,(Sub.refl _),(by decide),bA,(show F2 (Z0.R h) [] [] from trivial),bJ⟩) ?_)))
 rintro _ _ bG m6 k5 ⟨u2,u3,cQ,u4,⟨⟩,⟨⟩,bH,dE,cE,bI,aA⟩
 replace aA:V6 aH m6 u2 u3 u4=some X1:=aA
 obtain _|m6:=m6
 ·cases aA
 rw[V6.eq_2]at aA
 refine ifB aA (λcR aA=>?_) λcR aA=>?_
 ·refine Or.inr (Or.inr (Or.inl (aI (aI (by kernel_rfl) (by kernel_rfl)) ?_)))
  obtain⟨x8,cS,aA⟩:=B0 aA
  obtain⟨cT,cU,cV,cW⟩:=Sl.getI (r:=Z0.toRp) (Z1.mono bH aN) cS (by decide)
  obtain⟨aJ,cX,cY,cG,cH,cI,cZ,rfl,rfl,aS,cJ,cK,bB⟩:=j3 cW
  obtain⟨rfl,cL⟩:=Sl.len bB
  try dsimp only at aA
  refine Or.inl (eX (.hel (.slice aF aH.length aG) u2 4 0) (aI ?_ ?_))
  ·intro k9 dF
   exact aI cT (aI rfl (aI rfl rfl))
  refine Or.inl (eX (.hel (.slice aF aH.length aG) u2 4 0) (aI ?_ ?_))
  ·intro hh sb
   exact aI rfl (aI rfl rfl)
  refine Or.inl (eX (.val (.string aJ)) (aI ?_ ?_))
  ·intro dG dA
   exact eX _ (aI (I6.up dA cV) (aI rfl (aI rfl rfl)))
  obtain⟨dH,bK,aA⟩:=B0 aA
  obtain⟨bL,cM,bM,bN⟩:=Sl.getI (r:=Z0.toRp) (Z1.mono bH aN) bK (by decide)
  obtain⟨cN,bC,bD,aT,bO,aU,bE,rfl,rfl,bP,aV,aW,aO⟩:=j3 bN
  obtain⟨rfl,bQ⟩:=Sl.len aO
  try dsimp only at aA
  refine Or.inl (eX (.hel (.slice aF aH.length aG) u2 4 0) (aI ?_ ?_))
  ·intro dI dJ
   exact aI bL (aI rfl (aI rfl rfl))
  refine Or.inl (eX (.hel (.slice aF aH.length aG) u2 4 1) (aI ?_ ?_))
  ·intro hh sb
   exact aI rfl (aI rfl rfl)
  refine Or.inl (eX (.agg [.val (.int .i64 bC),.val (.int .i64 bD),.val (.slice aT bE.length aU)]) (aI ?_ ?_))
  ·intro dK dB
   exact eX _ (aI (I6.up dB bM) (aI rfl (aI rfl rfl)))
  refine Or.inr ?_
  refine Or.inr ?_
  refine Or.inr ?_
  refine Or.inr ?_
  refine Or.inr ?_
  refine Or.inl (eX 1 (aI (aI rfl rfl) ?_))
  refine trM aA (B5 _ _ _ (l0 aV aW aO)) ?_
  rintro dL aA dM bR ⟨cO,rfl,bF⟩
  have aP:Sub k5 bR:=bF.sub
  have bS:=bF.r
  obtain⟨aB,aC,aK,bT,aL,aD,rfl,rfl,aQ,aR,aM⟩:=C0 bS
  obtain⟨rfl,bU⟩:=Sl.len aM
  try dsimp only at aA
  refine aI (aI rfl aP) (aI (by first|exact trivial|exact rfl) ?_)
  refine aI trivial (aI (by first|exact trivial|exact rfl) ?_)
  refine aI trivial (aI (by first|exact trivial|exact rfl) ?_)
  obtain⟨dN,bV,aA⟩:=B0 aA
  refine aI (J2 bV (by first|rw[F2.length (F2.up (r:=Z0.toRp) aP bI),F2.length (show F2 (Z0.R bR) ([[.string aJ,.int .i64 aB,.int .i64 aC,.slice aK aD.length aL]]:List (List Value)) [(aJ,(aB,aC,aD))] from⟨(S3 aS aQ aR aM),trivial⟩)]|exact congrArg (·+1) (F2.length (F2.up (r:=Z0.toRp) aP bI)))) ?_
  refine aI trivial (aI (by first|exact trivial|exact rfl) ?_)
  refine aI trivial (aI (by first|exact trivial|exact rfl) ?_)
  exact A3 m6 ⟨(IntKind.i64.wrap (u2+1)),u3,(bG++([[.string aJ,.int .i64 aB,.int .i64 aC,.slice aK aD.length aL]]:List (List Value))),(u4 ++ [(aJ,(aB,aC,aD))]),rfl,rfl,(bH.trans aP),(I0 _),cE,(F2.append (F2.up (r:=Z0.toRp) aP bI) (show F2 (Z0.R bR) ([[.string aJ,.int .i64 aB,.int .i64 aC,.slice aK aD.length aL]]:List (List Value)) [(aJ,(aB,aC,aD))] from⟨(S3 aS aQ aR aM),trivial⟩)),aA⟩
 ·obtain rfl:=oJ aA
  try dsimp only[C1,E1]at aX
  intro dO dP dC
  obtain⟨bW,bX,rfl,bY,bZ,dD⟩:=O1.out (r:=Z0.toRp) dC bI
  obtain rfl:=oJ aX
  exact⟨([.int .i64 u3,.slice bW u4.length bX]),rfl,(T0 cE bY),(bH.trans bZ)⟩
theorem Q8(h:Hp)(aT:List Value)(p0:Q0)(cD:Y1.R h aT p0)(r:Q0)(aR:o5 p0=some r):
  Tr Tryz.prog 134 #[.agg aT.toArray] h λv h'=>∃(bQ:List Value),v = .agg bQ.toArray/\New Y1 h h' bQ r:=by
 obtain⟨aU,aV,bR,aW,aP,rfl,rfl,aX,aN⟩:=L1 cD
 obtain⟨rfl,bS⟩:=Sl.len aN
 unfold o5 at aR
 dsimp only at aR
 refine D3 (args:=[.agg #[.int .i64 aU,.slice aV aP.length aW]]) (fn:=Tryz.f134) rfl ?_
 obtain⟨X1,bF,aR⟩:=B0 aR
 refine eX { vars:=[12],boxes:=[2],owns:=[0],fuel:=true,nilsB:=[(2,1,138,4,56)] } (eX (λvs os h'=>∃ u2 u3 aY u4,vs.tail = [.int .i64 u2,.int .i64 u3]/\os = [aY]/\Sub h h'/\O0 u2/\O0 u3/\F2 (Z0.R h') aY u4/\(∃ Bs,F3 (Z0.W h') aY u4 Bs/\c5 h Bs.flatten)/\i5 aP (D2 vs) u2 u3 u4=some X1) (eX (λ_ _=>0) (aI (eX U0 ⟨0,aU,[],([]:K1),rfl,rfl,(Sub.refl _),(by decide),aX,(show F2 (Z0.R h) [] [] from trivial),⟨_,(show F3 (Z0.W h) [] [] [] from trivial),(c5.nil h)⟩,bF⟩) ?_)))
 rintro _ _ aY m6 k5 ⟨u2,u3,cE,u4,⟨⟩,⟨⟩,bC,cV,bT,bD,⟨cG,aQ,aZ⟩,aA⟩
 replace aA:i5 aP m6 u2 u3 u4=some X1:=aA
 obtain _|m6:=m6
 ·cases aA
 rw[i5.eq_2]at aA
 refine ifB aA (λcH aA=>?_) λcH aA=>?_
 ·obtain⟨x8,cI,aA⟩:=B0 aA
  obtain⟨cJ,cK,cL,cM⟩:=Sl.getI (r:=Z0.toRp) (Z1.mono bC aN) cI (by decide)
  refine aI cJ ?_
  obtain⟨aB,cN,cO,bU,bV,bW,cP,rfl,rfl,aG,bA,bB,aO⟩:=j3 cM
  obtain⟨rfl,bX⟩:=Sl.len aO
  try dsimp only at aA
  refine eX _ (aI cL ?_)
  refine Or.inr (Or.inr (Or.inl (aI (aI (by kernel_rfl) (by kernel_rfl)) ?_)))
  refine Or.inr ?_
  refine Or.inr ?_
  refine Or.inr ?_
  refine Or.inr ?_
  refine Or.inr ?_
  refine Or.inl (eX 1 (aI (aI rfl rfl) ?_))
  refine trM aA (Y5 _ _ _ (l0 bA bB aO)) ?_
  rintro x9 aA cW bG ⟨aH,bY,aJ,rfl,bE⟩
  have aS:Sub k5 bG:=bE.sub
  have bZ:=bE.r
  obtain⟨aC,aD,aF⟩:=x9
  dsimp only at aA bE bZ
  obtain⟨_,_,_,_,_,_,bH,bI,aK,aL,aM⟩:=C0 bZ
  cases bH
  cases bI
  obtain⟨rfl,cA⟩:=Sl.len aM
  try dsimp only at aA
  have bJ:=New.sndI (New.sndI (bE))
  refine aI (aI rfl aS) (aI (by first|exact trivial|exact rfl) ?_)
  refine aI trivial (aI (by first|exact trivial|exact rfl) ?_)
  refine aI trivial (aI (by first|exact trivial|exact rfl) ?_)
  obtain⟨cX,bK,aA⟩:=B0 aA
  refine aI (J2 bK (by first|rw[F2.length (F2.up (r:=Z0.toRp) aS bD),F2.length (show F2 (Z0.R bG) ([[.string aB,.int .i64 aC,.int .i64 aD,.slice (some ⟨aH,0,none⟩) aF.length aJ]]:List (List Value)) [(aB,(aC,aD,aF))] from⟨(S3 aG aK aL aM),trivial⟩)]|exact congrArg (·+1) (F2.length (F2.up (r:=Z0.toRp) aS bD)))) ?_
  obtain⟨Bb14,bL,bM,_⟩:=(New.pair (New.str aG) (New.pair (New.int aK) (New.pair (New.int aL) bJ)))
  refine aI trivial (aI (by first|exact trivial|exact rfl) ?_)
  refine aI trivial (aI (by first|exact trivial|exact rfl) ?_)
  exact A3 m6 ⟨(IntKind.i64.wrap (u2+1)),u3,(aY++([[.string aB,.int .i64 aC,.int .i64 aD,.slice (some ⟨aH,0,none⟩) aF.length aJ]]:List (List Value))),(u4 ++ [(aB,(aC,aD,aF))]),rfl,rfl,(bC.trans aS),(I0 _),bT,(F2.append (F2.up (r:=Z0.toRp) aS bD) (show F2 (Z0.R bG) ([[.string aB,.int .i64 aC,.int .i64 aD,.slice (some ⟨aH,0,none⟩) aF.length aJ]]:List (List Value)) [(aB,(aC,aD,aF))] from⟨(S3 aG aK aL aM),trivial⟩)),⟨_,(F3.snoc bL (c0b aQ aS)),(i07 aQ bC aZ bM)⟩,aA⟩
 ·obtain rfl:=oJ aA
  try dsimp only[C1,E1]at aR
  intro cQ cR cC
  have bN:New (Wp.slice Z0) h cR [cQ] u4:=(O1.fresh (r:=Z0) cC aQ bC aZ)
  obtain⟨bO,bP,rfl,cS,cT,cU⟩:=O1.out (r:=Z0.toRp) cC bD
  obtain rfl:=oJ aR
  exact⟨([.int .i64 u3,.slice bO u4.length bP]),rfl,(New.pair (New.int bT) bN)⟩
theorem C02(h:Hp)(aF:List Value)(p0:Q0)(aX:Y1.R h aF p0)(p1:ByteArray)(bJ:p1.size<=9223372036854775807)(r:Int)(aB:t7 p0 p1=some r):
  Tr Tryz.prog 138 #[.agg aF.toArray,.string p1] h λv h'=>v = .int .i64 r/\h'=h:=by
 obtain⟨aL,aG,aN,aH,aD,rfl,rfl,aO,aC⟩:=L1 aX
 obtain⟨rfl,aP⟩:=Sl.len aC
 unfold t7 at aB
 dsimp only at aB
 refine Tr.forget (D3 (args:=[.agg #[.int .i64 aL,.slice aG aD.length aH],.string p1]) (fn:=Tryz.f138) rfl ?_)
 obtain⟨X1,aM,aB⟩:=B0 aB
 refine eX { vars:=[10],boxes:=[],owns:=[],fuel:=true } (eX (λvs os h'=>∃ u2,vs.tail = [.int .i64 u2]/\os = []/\Sub h h'/\O0 u2/\O4 aD p1 (D2 vs) u2=some X1) (eX (λ_ _=>0) (aI (eX U0 ⟨0,rfl,rfl,(Sub.refl _),(by decide),aM⟩) ?_)))
 rintro _ m4 k3 ⟨u2,⟨⟩,⟨⟩,aK,bK,aA⟩
 replace aA:O4 aD p1 m4 u2=some X1:=aA
 obtain _|m4:=m4
 ·cases aA
 rw[O4.eq_2]at aA
 refine ifB aA (λaY aA=>?_) λaY aA=>?_
 ·obtain⟨x6,aZ,aA⟩:=B0 aA
  obtain⟨bA,bB,bC,bD⟩:=Sl.getI (r:=Z0.toRp) (Z1.mono aK aC) aZ (by decide)
  refine aI bA ?_
  obtain⟨bE,bF,bG,aQ,aR,aS,bH,rfl,rfl,aT,aU,aV,aJ⟩:=j3 bD
  obtain⟨rfl,aW⟩:=Sl.len aJ
  try dsimp only at aA
  refine eX _ (aI bC ?_)
  refine ifB aA (λbI aA=>?_) λbI aA=>?_
  ·obtain rfl:=oJ aA
   try dsimp only[J5,K5]at aB
   obtain rfl:=oJ aB
   exact aI rfl aK
  ·exact A3 m4 ⟨(IntKind.i64.wrap (u2+1)),rfl,rfl,aK,(I0 _),aA⟩
 ·obtain rfl:=oJ aA
  try dsimp only[C1,E1]at aB
  obtain rfl:=oJ aB
  exact aI rfl aK
set_option maxHeartbeats 0
theorem w02(h:Hp)(dE:List Value)(p0:Q0)(iJ:Y1.R h dE p0)(p1:ByteArray)(cG:p1.size<=9223372036854775807)(dF:List Value)(p2:j0)(iK:D1.R h dF p2)(r:Q0×Bool)(aB:j8 p0 p1 p2=some r):
  Tr Tryz.prog 49 #[.agg dE.toArray,.string p1,.agg dF.toArray] h λv h'=>∃(gT:List Value),v = .tuple #[.agg gT.toArray,.bool r.2]/\Y1.R h' gT r.1/\Sub h h':=by
 obtain⟨dG,bT,gU,bU,bV,rfl,rfl,bG,aS⟩:=L1 iJ
 obtain⟨rfl,gV⟩:=Sl.len aS
 obtain⟨cO,cP,dH,gW,dI,cQ,rfl,rfl,bW,bX,bL⟩:=C0 iK
 obtain⟨rfl,gX⟩:=Sl.len bL
 unfold j8 at aB
 dsimp only at aB
 refine D3 (args:=[.agg #[.int .i64 dG,.slice bT bV.length bU],.string p1,.agg #[.int .i64 cO,.int .i64 cP,.slice dH cQ.length dI]]) (fn:=Tryz.f49) rfl ?_
 refine trV aB (A04 _ _ _ (T0 bG aS)) λx1 aB=>?_
 refine trG aB (λq=>O06 _ _ cG) λx2 aB=>?_
 refine trG aB (λq=>h8 _ _ _ (l0 bW bX bL)) λx3 aB=>?_
 refine ifB aB (λiL aB=>?_) λiL aB=>?_
 ·refine trM aB (P8 _ _ _ (T0 bG aS)) ?_
  rintro x5 aB v7 k6 ⟨iM,rfl,iN,iO⟩
  obtain⟨eF,dJ,gY,dK,eG,rfl,rfl,dL,cM⟩:=L1 iN
  obtain⟨rfl,gZ⟩:=Sl.len cM
  try dsimp only at aB
  obtain rfl:=oJ aB
  exact⟨([.int .i64 eF,.slice dJ eG.length dK]),rfl,(T0 dL cM),iO⟩
 ·obtain⟨X8,eH,aB⟩:=B0 aB
  refine eX { vars:=[9,10],boxes:=[3],owns:=[0],fuel:=true,nilsB:=[(3,1,138,4,56)] } (eX (λvs os h'=>∃ u9 bY bZ aY cE,vs.tail = [.bool u9,.int .i64 bY,.int .i64 bZ]/\os = [aY]/\Sub h h'/\O0 bY/\O0 bZ/\F2 (Z0.R h') aY cE/\G4 bV p1 cO cP cQ (D2 vs) u9 bY bZ cE=some X8) (eX (λ_ _=>0) (aI (eX U0 ⟨false,0,dG,[],([]:K1),rfl,rfl,(Sub.refl _),(by decide),bG,(show F2 (Z0.R h) [] [] from trivial),eH⟩) ?_)))
  rintro _ _ _ aY cR iP ⟨u9,bY,bZ,hJ,cE,⟨⟩,⟨⟩,bM,iQ,bS,aL,aK⟩
  replace aK:G4 bV p1 cO cP cQ cR u9 bY bZ cE=some X8:=aK
  obtain _|cR:=cR
  ·cases aK
  rw[G4.eq_2]at aK
  refine ifB aK (λeI aK=>?_) λeI aK=>?_
  ·refine Or.inr (Or.inr (Or.inr (Or.inr (eX 15 (aI (aI (by kernel_rfl) (by kernel_rfl)) ?_)))))
   obtain⟨jE,eJ,aK⟩:=B0 aK
   obtain⟨eM,hU,eN,eO⟩:=Sl.getI (r:=Z0.toRp) (Z1.mono bM aS) eJ (by decide)
   obtain⟨aF,hY,hZ,eP,eQ,eR,iA,rfl,rfl,cS,eT,eU,cT⟩:=j3 eO
   obtain⟨rfl,eV⟩:=Sl.len cT
   try dsimp only at aK
   refine Or.inl (eX (.hel (.slice bT bV.length bU) bY 4 0) (aI ?_ ?_))
   ·intro jF jG
    exact aI eM (aI rfl (aI rfl rfl))
   refine Or.inl (eX (.val (.string aF)) (aI ?_ ?_))
   ·intro jH iS
    exact eX _ (aI (I6.up iS eN) (aI rfl (aI rfl rfl)))
   obtain⟨jI,eW,aK⟩:=B0 aK
   obtain⟨eY,iB,eZ,fA⟩:=Sl.getI (r:=Z0.toRp) (Z1.mono bM aS) eW (by decide)
   obtain⟨iC,dM,dN,cU,fB,cV,dO,rfl,rfl,fC,cW,cX,cA⟩:=j3 fA
   obtain⟨rfl,fD⟩:=Sl.len cA
   try dsimp only at aK
   refine Or.inl (eX (.hel (.slice bT bV.length bU) bY 4 0) (aI ?_ ?_))
   ·intro jJ jK
    exact aI eY (aI rfl (aI rfl rfl))
   refine Or.inl (eX (.agg [.val (.int .i64 dM),.val (.int .i64 dN),.val (.slice cU dO.length cV)]) (aI ?_ ?_))
   ·intro jL iT
    exact eX _ (aI (I6.up iT eZ) (aI rfl (aI rfl rfl)))
   obtain⟨iU,fE,aK⟩:=B0 aK
   obtain⟨aC,aD,aA⟩:=iU
   try dsimp only at aK
   refine Or.inr (eX (λv hh=>∃(aZ:Option Addr) (bA:Nat),v = .agg #[.int .i64 aC,.int .i64 aD,.slice aZ aA.length bA]/\O0 aC/\O0 aD/\J0.R hh [.slice aZ aA.length bA] aA/\aA.length<=9223372036854775807) (aI (λv h1 h2 sb q=>by obtain⟨aZ,bA,e,f0,f1,f2,f3⟩:=q;exact⟨aZ,bA,e,f0,f1,J0.mono sb f2,f3⟩) (aI ?_ ?_)))
   ·intro jM iV
    refine Tr.mono (B5 _ _ _ (l0 cW cX (J0.mono iV cA)) _ fE) ?_
    rintro _ kk ⟨iD,rfl,dP⟩
    have sb:=dP.sub
    have fF:=dP.r
    obtain⟨fH,fI,cH,eD,cI,fJ,rfl,ey,cJ,cK,bN⟩:=C0 fF
    cases ey
    obtain⟨rfl,cL⟩:=Sl.len bN
    exact aI g0b (aI sb ⟨cH,cI,rfl,cJ,cK,bN,cL⟩)
   refine Or.inr (eX (λv hh=>∃(bB:Option Addr) (bC:Nat),v = .agg #[.string aF,.int .i64 aC,.int .i64 aD,.slice bB aA.length bC]/\aF.size<=9223372036854775807/\O0 aC/\O0 aD/\J0.R hh [.slice bB aA.length bC] aA/\aA.length<=9223372036854775807) (aI (λv h1 h2 sb q=>by obtain⟨bB,bC,e,f0,f1,f2,f3,f4⟩:=q;exact⟨bB,bC,e,f0,f1,f2,J0.mono sb f3,f4⟩) (aI ?_ ?_)))
   ·intro jN jO
    rintro _ ⟨dQ,dR,rfl,dS,dT,dU,dV⟩
    exact aI g0b (aI (Sub.refl _) ⟨dQ,dR,rfl,cS,dS,dT,dU,dV⟩)
   intro fK bI
   dsimp only[h0c,B0a]
   rintro _ ⟨aW,aX,rfl,bO,bP,bQ,bR,iE⟩
   rintro _ _
   refine ifB aK (λfL aK=>?_) λfL aK=>?_
   ·refine Or.inr (Or.inr (Or.inl (aI (aI (by kernel_rfl) (by kernel_rfl)) ?_)))
    refine Or.inr ?_
    refine Or.inr ?_
    refine Or.inr ?_
    refine Or.inr ?_
    refine Or.inr ?_
    refine Or.inl (eX 1 (aI (aI rfl rfl) ?_))
    refine trM aK (B5 _ _ _ (l0 bW bX (J0.mono (bM.trans bI) bL))) ?_
    rintro jP aK jQ cN ⟨iF,rfl,dW⟩
    have aT:Sub fK cN:=dW.sub
    have fM:=dW.r
    obtain⟨aG,aH,aM,fN,aN,aJ,rfl,rfl,aU,aV,aO⟩:=C0 fM
    obtain⟨rfl,fO⟩:=Sl.len aO
    try dsimp only at aK
    refine aI (aI rfl aT) (aI (by first|exact trivial|exact rfl) ?_)
    refine aI trivial (aI (by first|exact trivial|exact rfl) ?_)
    refine aI trivial (aI (by first|exact trivial|exact rfl) ?_)
    obtain⟨jR,fP,aK⟩:=B0 aK
    refine aI (J2 fP (by first|rw[F2.length (F2.up (r:=Z0.toRp) (bI.trans aT) aL),F2.length (show F2 (Z0.R cN) ([[.string p1,.int .i64 aG,.int .i64 aH,.slice aM aJ.length aN]]:List (List Value)) [(p1,(aG,aH,aJ))] from⟨(S3 cG aU aV aO),trivial⟩)]|exact congrArg (·+1) (F2.length (F2.up (r:=Z0.toRp) (bI.trans aT) aL)))) ?_
    refine aI trivial (aI (by first|exact trivial|exact rfl) ?_)
    refine aI trivial (aI (by first|exact trivial|exact rfl) ?_)
    refine ifB aK (λfQ aK=>?_) λfQ aK=>?_
    ·obtain⟨jS,fR,aK⟩:=B0 aK
     refine aI (J2 fR (by first|rw[F2.length (F2.append (F2.up (r:=Z0.toRp) (bI.trans aT) aL) (show F2 (Z0.R cN) ([[.string p1,.int .i64 aG,.int .i64 aH,.slice aM aJ.length aN]]:List (List Value)) [(p1,(aG,aH,aJ))] from⟨(S3 cG aU aV aO),trivial⟩)),F2.length (show F2 (Z0.R cN) ([[.string aF,.int .i64 aC,.int .i64 aD,.slice aW aA.length aX]]:List (List Value)) [(aF,(aC,aD,aA))] from⟨(S3 bO bP bQ (J0.mono aT bR)),trivial⟩)]|exact congrArg (·+1) (F2.length (F2.append (F2.up (r:=Z0.toRp) (bI.trans aT) aL) (show F2 (Z0.R cN) ([[.string p1,.int .i64 aG,.int .i64 aH,.slice aM aJ.length aN]]:List (List Value)) [(p1,(aG,aH,aJ))] from⟨(S3 cG aU aV aO),trivial⟩))))) ?_
     exact A3 cR ⟨true,(IntKind.i64.wrap (bY+1)),bZ,((aY++([[.string p1,.int .i64 aG,.int .i64 aH,.slice aM aJ.length aN]]:List (List Value)))++([[.string aF,.int .i64 aC,.int .i64 aD,.slice aW aA.length aX]]:List (List Value))),((cE ++ [(p1,(aG,aH,aJ))]) ++ [(aF,(aC,aD,aA))]),rfl,rfl,((bM.trans bI).trans aT),(I0 _),bS,(F2.append (F2.append (F2.up (r:=Z0.toRp) (bI.trans aT) aL) (show F2 (Z0.R cN) ([[.string p1,.int .i64 aG,.int .i64 aH,.slice aM aJ.length aN]]:List (List Value)) [(p1,(aG,aH,aJ))] from⟨(S3 cG aU aV aO),trivial⟩)) (show F2 (Z0.R cN) ([[.string aF,.int .i64 aC,.int .i64 aD,.slice aW aA.length aX]]:List (List Value)) [(aF,(aC,aD,aA))] from⟨(S3 bO bP bQ (J0.mono aT bR)),trivial⟩)),aK⟩
    ·exact A3 cR ⟨true,(IntKind.i64.wrap (bY+1)),bZ,(aY++([[.string p1,.int .i64 aG,.int .i64 aH,.slice aM aJ.length aN]]:List (List Value))),(cE ++ [(p1,(aG,aH,aJ))]),rfl,rfl,((bM.trans bI).trans aT),(I0 _),bS,(F2.append (F2.up (r:=Z0.toRp) (bI.trans aT) aL) (show F2 (Z0.R cN) ([[.string p1,.int .i64 aG,.int .i64 aH,.slice aM aJ.length aN]]:List (List Value)) [(p1,(aG,aH,aJ))] from⟨(S3 cG aU aV aO),trivial⟩)),aK⟩
   ·refine ifB aK (λfS aK=>?_) λfS aK=>?_
    ·obtain⟨jT,fT,aK⟩:=B0 aK
     refine aI (J2 fT (by first|rw[F2.length (F2.up (r:=Z0.toRp) bI aL),F2.length (show F2 (Z0.R fK) ([[.string aF,.int .i64 aC,.int .i64 aD,.slice aW aA.length aX]]:List (List Value)) [(aF,(aC,aD,aA))] from⟨(S3 bO bP bQ bR),trivial⟩)]|exact congrArg (·+1) (F2.length (F2.up (r:=Z0.toRp) bI aL)))) ?_
     exact A3 cR ⟨u9,(IntKind.i64.wrap (bY+1)),bZ,(aY++([[.string aF,.int .i64 aC,.int .i64 aD,.slice aW aA.length aX]]:List (List Value))),(cE ++ [(aF,(aC,aD,aA))]),rfl,rfl,(bM.trans bI),(I0 _),bS,(F2.append (F2.up (r:=Z0.toRp) bI aL) (show F2 (Z0.R fK) ([[.string aF,.int .i64 aC,.int .i64 aD,.slice aW aA.length aX]]:List (List Value)) [(aF,(aC,aD,aA))] from⟨(S3 bO bP bQ bR),trivial⟩)),aK⟩
    ·exact A3 cR ⟨u9,(IntKind.i64.wrap (bY+1)),bZ,aY,cE,rfl,rfl,(bM.trans bI),(I0 _),bS,(F2.up (r:=Z0.toRp) bI aL),aK⟩
  ·obtain rfl:=oJ aK
   try dsimp only[C1,E1]at aB
   refine ifB aB (λfU aB=>?_) λfU aB=>?_
   ·refine Or.inr (Or.inr (Or.inl (aI (aI (by kernel_rfl) (by kernel_rfl)) ?_)))
    refine Or.inr ?_
    refine Or.inr ?_
    refine Or.inr ?_
    refine Or.inr ?_
    refine Or.inr ?_
    refine Or.inl (eX 1 (aI (aI rfl rfl) ?_))
    refine trM aB (B5 _ _ _ (l0 bW bX (J0.mono bM bL))) ?_
    rintro jU aB jV eE ⟨iG,rfl,dX⟩
    have bH:Sub iP eE:=dX.sub
    have fV:=dX.r
    obtain⟨aP,aQ,bD,fW,bE,aR,rfl,rfl,bJ,bK,bF⟩:=C0 fV
    obtain⟨rfl,fX⟩:=Sl.len bF
    try dsimp only at aB
    refine aI (aI rfl bH) (aI (by first|exact trivial|exact rfl) ?_)
    refine aI trivial (aI (by first|exact trivial|exact rfl) ?_)
    refine aI trivial (aI (by first|exact trivial|exact rfl) ?_)
    obtain⟨jW,fY,aB⟩:=B0 aB
    refine aI (J2 fY (by first|rw[F2.length (F2.up (r:=Z0.toRp) bH aL),F2.length (show F2 (Z0.R eE) ([[.string p1,.int .i64 aP,.int .i64 aQ,.slice bD aR.length bE]]:List (List Value)) [(p1,(aP,aQ,aR))] from⟨(S3 cG bJ bK bF),trivial⟩)]|exact congrArg (·+1) (F2.length (F2.up (r:=Z0.toRp) bH aL)))) ?_
    refine aI trivial (aI (by first|exact trivial|exact rfl) ?_)
    refine aI trivial (aI (by first|exact trivial|exact rfl) ?_)
    obtain⟨iW,fZ,aB⟩:=B0 aB
    obtain rfl:(aY++([[.string p1,.int .i64 aP,.int .i64 aQ,.slice bD aR.length bE]]:List (List Value))).length=iW:=(F2.length (F2.append (F2.up (r:=Z0.toRp) bH aL) (show F2 (Z0.R eE) ([[.string p1,.int .i64 aP,.int .i64 aQ,.slice bD aR.length bE]]:List (List Value)) [(p1,(aP,aQ,aR))] from⟨(S3 cG bJ bK bF),trivial⟩))).trans (oJ fZ)
    obtain⟨jX,iX,aB⟩:=B0 aB
    refine ifB aB (λgA aB=>?_) λgA aB=>?_
    ·refine trM aB (P8 _ _ _ (T0 bG (Z1.mono (bM.trans bH) aS))) ?_
     rintro jY aB jZ kB ⟨iH,rfl,gB,gC⟩
     obtain⟨dY,cY,gD,cZ,dZ,rfl,rfl,dA,cC⟩:=L1 gB
     obtain⟨rfl,gE⟩:=Sl.len cC
     try dsimp only at aB
     obtain rfl:=oJ aB
     exact⟨([.int .i64 dY,.slice cY dZ.length cZ]),rfl,(T0 dA cC),((bM.trans bH).trans gC)⟩
    ·intro kC kD iY
     obtain⟨gF,gG,rfl,gH,gI,iZ⟩:=O1.out (r:=Z0.toRp) iY (F2.append (F2.up (r:=Z0.toRp) bH aL) (show F2 (Z0.R eE) ([[.string p1,.int .i64 aP,.int .i64 aQ,.slice bD aR.length bE]]:List (List Value)) [(p1,(aP,aQ,aR))] from⟨(S3 cG bJ bK bF),trivial⟩))
     obtain rfl:=oJ aB
     exact⟨([.int .i64 bZ,.slice gF ((cE ++ [(p1,(aP,aQ,aR))])).length gG]),rfl,(T0 bS gH),((bM.trans bH).trans gI)⟩
   ·obtain⟨jA,gJ,aB⟩:=B0 aB
    obtain rfl:aY.length=jA:=(F2.length aL).trans (oJ gJ)
    obtain⟨kE,jB,aB⟩:=B0 aB
    refine ifB aB (λgK aB=>?_) λgK aB=>?_
    ·refine trM aB (P8 _ _ _ (T0 bG (Z1.mono bM aS))) ?_
     rintro kF aB kI kJ ⟨iI,rfl,gL,gM⟩
     obtain⟨eA,dB,gN,dC,eC,rfl,rfl,dD,cD⟩:=L1 gL
     obtain⟨rfl,gO⟩:=Sl.len cD
     try dsimp only at aB
     obtain rfl:=oJ aB
     exact⟨([.int .i64 eA,.slice dB eC.length dC]),rfl,(T0 dD cD),(bM.trans gM)⟩
    ·intro kK kL jC
     obtain⟨gP,gQ,rfl,gR,gS,jD⟩:=O1.out (r:=Z0.toRp) jC aL
     obtain rfl:=oJ aB
     exact⟨([.int .i64 bZ,.slice gP cE.length gQ]),rfl,(T0 bS gR),(bM.trans gS)⟩
theorem x02(h:Hp)(dH:List Value)(p0:Q0)(lZ:Y1.R h dH p0)(p1:ByteArray)(cD:p1.size<=9223372036854775807)(dI:List Value)(p2:j0)(mA:D1.R h dI p2)(r:Q0×Bool)(aF:l8 p0 p1 p2=some r):
  Tr Tryz.prog 51 #[.agg dH.toArray,.string p1,.agg dI.toArray] h λv h'=>∃(jX:List Value),v = .tuple #[.agg jX.toArray,.bool r.2]/\New Y1 h h' jX r.1:=by
 obtain⟨eO,dJ,jY,dK,eP,rfl,rfl,aP,aO⟩:=L1 lZ
 obtain⟨rfl,jZ⟩:=Sl.len aO
 obtain⟨eQ,eR,dL,kB,dM,eT,rfl,rfl,bI,bJ,aQ⟩:=C0 mA
 obtain⟨rfl,kC⟩:=Sl.len aQ
 unfold l8 at aF
 dsimp only at aF
 refine D3 (args:=[.agg #[.int .i64 eO,.slice dJ eP.length dK],.string p1,.agg #[.int .i64 eQ,.int .i64 eR,.slice dL eT.length dM]]) (fn:=Tryz.f51) rfl ?_
 refine trM aF (Q8 _ _ _ (T0 aP aO)) ?_
 rintro x1 aF v3 k2 ⟨mB,rfl,eU⟩
 have eH:Sub h k2:=eU.sub
 have mD:=eU.r
 obtain⟨aR,bK,kD,aS,aG,rfl,rfl,aK,aT⟩:=L1 mD
 obtain⟨rfl,kE⟩:=Sl.len aT
 try dsimp only at aF
 have dG:=New.sndI (eU)
 refine trV aF (C04 _ _ _ (T0 aP (Z1.mono eH aO))) λx5 aF=>?_
 refine trG aF (λq=>P06 _ _ cD) λx6 aF=>?_
 refine trG aF (λq=>n00 _ _ _ (l0 bI bJ (J0.mono eH aQ))) λx7 aF=>?_
 refine ifB aF (λmE aF=>?_) λmE aF=>?_
 ·obtain rfl:=oJ aF
  exact⟨([.int .i64 aR,.slice bK aG.length aS]),rfl,(New.pair (New.int aK) dG)⟩
 ·refine trM aF (Y5 _ _ _ (l0 bI bJ (J0.mono eH aQ))) ?_
  rintro x9 aF nK kF ⟨aH,kI,aJ,rfl,eI⟩
  have cE:Sub k2 kF:=eI.sub
  have kJ:=eI.r
  obtain⟨aB,aC,aD⟩:=x9
  dsimp only at aF eI kJ
  obtain⟨_,_,_,_,_,_,eV,eW,aL,aM,aU⟩:=C0 kJ
  cases eV
  cases eW
  obtain⟨rfl,kK⟩:=Sl.len aU
  try dsimp only at aF
  have cG:=New.sndI (New.sndI (eI))
  refine trV aF (C02 _ _ _ (T0 aP (Z1.mono (eH.trans cE) aO)) _ cD) λmF aF=>?_
  obtain⟨nL,eY,aF⟩:=B0 aF
  have mG:O0 mF:=A2 eY
  refine ifB aF (λeZ aF=>?_) λeZ aF=>?_
  ·obtain⟨nM,cH,aF⟩:=B0 aF
   obtain⟨dN,kL,mH,fA⟩:=Sl.getI (r:=Z0.toRp) (Z1.mono cE aT) cH (by decide)
   refine aI dN ?_
   obtain⟨kM,kN,kO,fB,fC,fD,kP,rfl,rfl,fE,fF,fH,cI⟩:=j3 fA
   obtain⟨rfl,fI⟩:=Sl.len cI
   try dsimp only at aF
   obtain⟨mI,fJ,_,_,fK,_⟩:=dN
   cases fK
   obtain⟨Bb20,fL,fM,_⟩:=(New.pair (New.str cD) (New.pair (New.int aL) (New.pair (New.int aM) cG)))
   refine New.put (r:=Z0) dG cE (L09 cH).1 (new:=[.string p1,.int .i64 aB,.int .i64 aC,.slice (some ⟨aH,0,none⟩) aD.length aJ]) (By:=Bb20) fL fM rfl (L09 cH).2 ?_
   intro nN kQ kR _
   have mJ:=kQ.r
   obtain rfl:=oJ aF
   exact⟨([.int .i64 aR,.slice (some ⟨mI,fJ,none⟩) aG.length aS]),rfl,(New.pair (New.int aK) kQ)⟩
  ·refine ifB aF (λfN aF=>?_) λfN aF=>?_
   ·obtain rfl:=oJ aF
    exact⟨([.int .i64 aR,.slice bK aG.length aS]),rfl,(New.pair (New.int aK) (New.mono dG cE))⟩
   ·obtain⟨X22,dO,aF⟩:=B0 aF
    refine eX { vars:=[11],boxes:=[],owns:=[],fuel:=true } (eX (λvs os h'=>∃ bF,vs.tail = [.int .i64 bF]/\os = []/\Sub kF h'/\O0 bF/\p6 aG p1 (D2 vs) bF=some X22) (eX (λ_ _=>0) (aI (eX U0 ⟨0,rfl,rfl,(Sub.refl _),(by decide),dO⟩) ?_)))
    rintro _ eJ dP ⟨bF,⟨⟩,⟨⟩,aN,mK,aA⟩
    replace aA:p6 aG p1 eJ bF=some X22:=aA
    obtain _|eJ:=eJ
    ·cases aA
    rw[p6.eq_2]at aA
    obtain⟨nO,fO,aA⟩:=B0 aA
    obtain⟨kS,dQ,fP⟩:=Sl.getG (r:=Z0.toRp) (Z1.mono (cE.trans aN) aT) fO (by decide) (h0e dP)
    refine aI (λq=>(dQ q).1) ?_
    obtain⟨kT,kU,kV,fQ,fR,fS,kX,rfl,rfl,fT,fU,fV,cJ⟩:=j3 fP
    obtain⟨rfl,fW⟩:=Sl.len cJ
    try dsimp only at aA
    refine eX _ (aI (λq=>(dQ q).2) ?_)
    refine ifB aA (λfX aA=>?_) λfX aA=>?_
    ·exact A3 eJ ⟨(IntKind.i64.wrap (bF+1)),rfl,rfl,aN,(I0 _),aA⟩
    ·obtain rfl:=oJ aA
     try dsimp only[C1,E1]at aF
     rcases New.two dG with⟨rfl,rfl,rfl⟩|⟨mL,mM,rfl⟩
     ·skip
      refine Or.inr ?_
      obtain⟨nP,fY,aF⟩:=B0 aF
      obtain⟨Bz30,dR,dS,_⟩:=(New.pair (New.str cD) (New.pair (New.int aL) (New.pair (New.int aM) (New.mono cG aN))))
      refine aI (aI rfl (E0m fY (F2.length (show F2 (Z0.R dP) ([[.string p1,.int .i64 aB,.int .i64 aC,.slice (some ⟨aH,0,none⟩) aD.length aJ]]:List (List Value)) [(p1,(aB,aC,aD))] from⟨(S3 cD aL aM (J0.mono aN aU)),trivial⟩)))) ?_
      intro mN mO happz30
      obtain⟨cK,aV,aW,mP,aX,rfl⟩:=New.appN (r:=Z0) dG (cE.trans aN) (show F3 (Z0.W dP) ([[.string p1,.int .i64 aB,.int .i64 aC,.slice (some ⟨aH,0,none⟩) aD.length aJ]]:List (List Value)) [(p1,(aB,aC,aD))] [Bz30] from⟨dR,trivial⟩) (c5.older (Sub.refl _) dS) happz30
      have fZ:=cK.r
      obtain⟨gA,mQ⟩:=Sl.len fZ
      subst gA
      obtain⟨X31,dT,aF⟩:=B0 aF
      refine eX { vars:=[12],boxes:=[],owns:=[],fuel:=true } (eX (λvs os h'=>∃ aY dU,vs.tail = [.int .i64 aY]/\os = []/\Sub h h'/\O0 aY/\New Z1 h h' [.slice (some ⟨aV,aW,none⟩) (([]:K1) ++ [(p1,(aB,aC,aD))]).length aX] dU/\H4 bF (D2 vs) aY dU=some X31) (eX (λ_ _=>0) (aI (eX U0 ⟨(IntKind.i64.wrap ((((([]:K1) ++ [(p1,(aB,aC,aD))]).length:Nat):Int)-1)),(([]:K1) ++ [(p1,(aB,aC,aD))]),rfl,rfl,cK.sub,(I0 _),cK,dT⟩) ?_)))
      rintro _ eM nQ ⟨aY,dU,⟨⟩,⟨⟩,mR,mT,aZ,aA⟩
      replace aA:H4 bF eM aY dU=some X31:=aA
      obtain _|eM:=eM
      ·cases aA
      rw[H4.eq_2]at aA
      have bG:=aZ.r
      refine ifB aA (λgB aA=>?_) λgB aA=>?_
      ·refine Or.inr (Or.inr (Or.inl (aI (aI (by kernel_rfl) (by kernel_rfl)) ?_)))
       obtain⟨nR,cL,aA⟩:=B0 aA
       obtain⟨gC,kY,dV,gD⟩:=Sl.getI (r:=Z0.toRp) bG cL (by decide)
       obtain⟨bL,bM,bN,cM,gE,cN,bO,rfl,rfl,gF,gG,gH,cO⟩:=j3 gD
       obtain⟨rfl,gI⟩:=Sl.len cO
       try dsimp only at aA
       refine Or.inl (eX (.hel (.slice (some ⟨aV,aW,none⟩) (([]:K1) ++ [(p1,(aB,aC,aD))]).length aX) (IntKind.i64.wrap (aY-1)) 4 0) (aI ?_ ?_))
       ·intro nT nU
        exact aI gC (aI rfl (aI rfl rfl))
       refine Or.inl (eX (.agg [.val (.string bL),.val (.int .i64 bM),.val (.int .i64 bN),.val (.slice cM bO.length cN)]) (aI ?_ ?_))
       ·intro nV mU
        exact eX _ (aI (I6.up mU dV) (aI rfl (aI rfl rfl)))
       obtain⟨nW,cP,aA⟩:=B0 aA
       obtain⟨gJ,kZ,dW,gK⟩:=Sl.getI (r:=Z0.toRp) bG cP (by decide)
       obtain⟨bP,bQ,bR,cQ,gL,cR,bS,rfl,rfl,gM,gN,gO,cS⟩:=j3 gK
       obtain⟨rfl,gP⟩:=Sl.len cS
       try dsimp only at aA
       refine Or.inl (eX (.hel (.slice (some ⟨aV,aW,none⟩) (([]:K1) ++ [(p1,(aB,aC,aD))]).length aX) aY 4 0) (aI ?_ ?_))
       ·intro nX nY
        exact aI gJ (aI rfl (aI rfl rfl))
       refine Or.inl (eX (.agg [.val (.string bP),.val (.int .i64 bQ),.val (.int .i64 bR),.val (.slice cQ bS.length cR)]) (aI ?_ ?_))
       ·intro nZ mV
        exact eX _ (aI (I6.up mV dW) (aI rfl (aI rfl rfl)))
       obtain⟨oA,gQ,aA⟩:=B0 aA
       obtain⟨gR,lA,mW,gS⟩:=Sl.getI (r:=Z0.toRp) bG gQ (by decide)
       obtain⟨lB,lC,lD,gT,gU,gV,lE,rfl,rfl,gW,gX,gY,cT⟩:=j3 gS
       obtain⟨rfl,gZ⟩:=Sl.len cT
       try dsimp only at aA
       refine Or.inl (eX (.hel (.slice (some ⟨aV,aW,none⟩) (([]:K1) ++ [(p1,(aB,aC,aD))]).length aX) aY 4 0) (aI ?_ ?_))
       ·intro oC oD
        exact aI gR (aI rfl (aI rfl rfl))
       refine Or.inr ?_
       refine Or.inr ?_
       refine Or.inr ?_
       refine Or.inl (eX 0 (aI (aI rfl rfl) ?_))
       refine New.swap1 (r:=Z0) aZ (Sub.refl _) cP cL (I6.up (Sub.refl _) dV) rfl ?_
       intro k52m hJ
       refine aI trivial (aI (by first|exact trivial|exact rfl) ?_)
       obtain⟨oE,hU,aA⟩:=B0 aA
       obtain⟨hY,lF,mX,hZ⟩:=Sl.getI (r:=Z0.toRp) bG hU (by decide)
       refine aI hY ?_
       obtain⟨lG,lH,lI,iA,iB,iC,lJ,rfl,rfl,iD,iE,iF,cU⟩:=j3 hZ
       obtain⟨rfl,iG⟩:=Sl.len cU
       try dsimp only at aA
       refine aI trivial (aI (by first|exact trivial|exact rfl) ?_)
       refine New.swap2 (r:=Z0) hJ cP cL (I6.up (Sub.refl _) dW) rfl ?_
       intro oF iH lK _
       have mY:=iH.r
       refine aI trivial (aI (by first|exact trivial|exact rfl) ?_)
       exact A3 eM ⟨(IntKind.i64.wrap (aY-1)),((dU.set aY.toNat (bL,(bM,bN,bO))).set (IntKind.i64.wrap (aY-1)).toNat (bP,(bQ,bR,bS))),rfl,rfl,iH.sub,(I0 _),iH,aA⟩
      ·obtain rfl:=oJ aA
       try dsimp only[C1,E1]at aF
       obtain rfl:=oJ aF
       exact⟨([.int .i64 aR,.slice (some ⟨aV,aW,none⟩) (([]:K1) ++ [(p1,(aB,aC,aD))]).length aX]),rfl,(New.pair (New.int aK) aZ)⟩
     ·skip
      obtain⟨oG,iI,aF⟩:=B0 aF
      obtain⟨Bz59,dX,dY,_⟩:=(New.pair (New.str cD) (New.pair (New.int aL) (New.pair (New.int aM) (New.mono cG aN))))
      obtain⟨dZ,eA,bT,eC⟩:=New.app dG (cE.trans aN)
      refine eX dZ (aI eA (aI (J2 iI (by first|rw[bT,F2.length (show F2 (Z0.R dP) ([[.string p1,.int .i64 aB,.int .i64 aC,.slice (some ⟨aH,0,none⟩) aD.length aJ]]:List (List Value)) [(p1,(aB,aC,aD))] from⟨(S3 cD aL aM (J0.mono aN aU)),trivial⟩)]|(rw[bT];rfl))) ?_))
      intro mZ nA happz59
      obtain⟨cV,bA,bB,nB,bC,rfl⟩:=eC ([[.string p1,.int .i64 aB,.int .i64 aC,.slice (some ⟨aH,0,none⟩) aD.length aJ]]:List (List Value)) [(p1,(aB,aC,aD))] [Bz59] _ _ (show F3 (Z0.W dP) ([[.string p1,.int .i64 aB,.int .i64 aC,.slice (some ⟨aH,0,none⟩) aD.length aJ]]:List (List Value)) [(p1,(aB,aC,aD))] [Bz59] from⟨dX,trivial⟩) (c5.older (Sub.refl _) dY) happz59
      have iJ:=cV.r
      obtain⟨iK,nC⟩:=Sl.len iJ
      subst iK
      obtain⟨X60,eD,aF⟩:=B0 aF
      refine eX { vars:=[12],boxes:=[],owns:=[],fuel:=true } (eX (λvs os h'=>∃ bD eE,vs.tail = [.int .i64 bD]/\os = []/\Sub h h'/\O0 bD/\New Z1 h h' [.slice (some ⟨bA,bB,none⟩) (aG ++ [(p1,(aB,aC,aD))]).length bC] eE/\H4 bF (D2 vs) bD eE=some X60) (eX (λ_ _=>0) (aI (eX U0 ⟨(IntKind.i64.wrap ((((aG ++ [(p1,(aB,aC,aD))]).length:Nat):Int)-1)),(aG ++ [(p1,(aB,aC,aD))]),rfl,rfl,cV.sub,(I0 _),cV,eD⟩) ?_)))
      rintro _ eN oH ⟨bD,eE,⟨⟩,⟨⟩,nD,nE,bE,aA⟩
      replace aA:H4 bF eN bD eE=some X60:=aA
      obtain _|eN:=eN
      ·cases aA
      rw[H4.eq_2]at aA
      have bH:=bE.r
      refine ifB aA (λiL aA=>?_) λiL aA=>?_
      ·refine Or.inr (Or.inr (Or.inl (aI (aI (by kernel_rfl) (by kernel_rfl)) ?_)))
       obtain⟨oI,cW,aA⟩:=B0 aA
       obtain⟨iM,lL,eF,iN⟩:=Sl.getI (r:=Z0.toRp) bH cW (by decide)
       obtain⟨bU,bV,bW,cX,iO,cY,bX,rfl,rfl,iP,iQ,iS,cZ⟩:=j3 iN
       obtain⟨rfl,iT⟩:=Sl.len cZ
       try dsimp only at aA
       refine Or.inl (eX (.hel (.slice (some ⟨bA,bB,none⟩) (aG ++ [(p1,(aB,aC,aD))]).length bC) (IntKind.i64.wrap (bD-1)) 4 0) (aI ?_ ?_))
       ·intro oK oL
        exact aI iM (aI rfl (aI rfl rfl))
       refine Or.inl (eX (.agg [.val (.string bU),.val (.int .i64 bV),.val (.int .i64 bW),.val (.slice cX bX.length cY)]) (aI ?_ ?_))
       ·intro oM nF
        exact eX _ (aI (I6.up nF eF) (aI rfl (aI rfl rfl)))
       obtain⟨oN,dA,aA⟩:=B0 aA
       obtain⟨iU,lM,eG,iV⟩:=Sl.getI (r:=Z0.toRp) bH dA (by decide)
       obtain⟨bY,bZ,cA,dB,iW,dC,cC,rfl,rfl,iX,iY,iZ,dD⟩:=j3 iV
       obtain⟨rfl,jA⟩:=Sl.len dD
       try dsimp only at aA
       refine Or.inl (eX (.hel (.slice (some ⟨bA,bB,none⟩) (aG ++ [(p1,(aB,aC,aD))]).length bC) bD 4 0) (aI ?_ ?_))
       ·intro oO oP
        exact aI iU (aI rfl (aI rfl rfl))
       refine Or.inl (eX (.agg [.val (.string bY),.val (.int .i64 bZ),.val (.int .i64 cA),.val (.slice dB cC.length dC)]) (aI ?_ ?_))
       ·intro oQ nG
        exact eX _ (aI (I6.up nG eG) (aI rfl (aI rfl rfl)))
       obtain⟨oR,jB,aA⟩:=B0 aA
       obtain⟨jC,lN,nH,jD⟩:=Sl.getI (r:=Z0.toRp) bH jB (by decide)
       obtain⟨lO,lP,lQ,jE,jF,jG,lR,rfl,rfl,jH,jI,jJ,dE⟩:=j3 jD
       obtain⟨rfl,jK⟩:=Sl.len dE
       try dsimp only at aA
       refine Or.inl (eX (.hel (.slice (some ⟨bA,bB,none⟩) (aG ++ [(p1,(aB,aC,aD))]).length bC) bD 4 0) (aI ?_ ?_))
       ·intro oS oT
        exact aI jC (aI rfl (aI rfl rfl))
       refine Or.inr ?_
       refine Or.inr ?_
       refine Or.inr ?_
       refine Or.inl (eX 0 (aI (aI rfl rfl) ?_))
       refine New.swap1 (r:=Z0) bE (Sub.refl _) dA cW (I6.up (Sub.refl _) eF) rfl ?_
       intro k81m jL
       refine aI trivial (aI (by first|exact trivial|exact rfl) ?_)
       obtain⟨oU,jM,aA⟩:=B0 aA
       obtain⟨jN,lT,nI,jO⟩:=Sl.getI (r:=Z0.toRp) bH jM (by decide)
       refine aI jN ?_
       obtain⟨lU,lV,lW,jP,jQ,jR,lX,rfl,rfl,jS,jT,jU,dF⟩:=j3 jO
       obtain⟨rfl,jV⟩:=Sl.len dF
       try dsimp only at aA
       refine aI trivial (aI (by first|exact trivial|exact rfl) ?_)
       refine New.swap2 (r:=Z0) jL dA cW (I6.up (Sub.refl _) eG) rfl ?_
       intro oV jW lY _
       have nJ:=jW.r
       refine aI trivial (aI (by first|exact trivial|exact rfl) ?_)
       exact A3 eN ⟨(IntKind.i64.wrap (bD-1)),((eE.set bD.toNat (bU,(bV,bW,bX))).set (IntKind.i64.wrap (bD-1)).toNat (bY,(bZ,cA,cC))),rfl,rfl,jW.sub,(I0 _),jW,aA⟩
      ·obtain rfl:=oJ aA
       try dsimp only[C1,E1]at aF
       obtain rfl:=oJ aF
       exact⟨([.int .i64 aR,.slice (some ⟨bA,bB,none⟩) (aG ++ [(p1,(aB,aC,aD))]).length bC]),rfl,(New.pair (New.int aK) bE)⟩
theorem Q06(h:Hp)(aH:List Value)(p0:Q0)(bR:Y1.R h aH p0)(p1:ByteArray)(cS:p1.size<=9223372036854775807)(r:j0×Bool)(aC:k00 p0 p1=some r):
  Tr Tryz.prog 143 #[.agg aH.toArray,.string p1] h λv h'=>∃(aY:List Value),v = .tuple #[.agg aY.toArray,.bool r.2]/\D1.R h' aY r.1/\Sub h h':=by
 obtain⟨aT,aJ,aZ,aK,aG,rfl,rfl,bA,aB⟩:=L1 bR
 obtain⟨rfl,bB⟩:=Sl.len aB
 unfold k00 at aC
 dsimp only at aC
 refine D3 (args:=[.agg #[.int .i64 aT,.slice aJ aG.length aK],.string p1]) (fn:=Tryz.f143) rfl ?_
 obtain⟨X1,aU,aC⟩:=B0 aC
 refine eX { vars:=[6],boxes:=[],owns:=[],fuel:=true } (eX (λvs os h'=>∃ u2,vs.tail = [.int .i64 u2]/\os = []/\Sub h h'/\O0 u2/\E7 aG p1 (D2 vs) u2=some X1) (eX (λ_ _=>0) (aI (eX U0 ⟨0,rfl,rfl,(Sub.refl _),(by decide),aU⟩) ?_)))
 rintro _ m4 k3 ⟨u2,⟨⟩,⟨⟩,aL,cT,aA⟩
 replace aA:E7 aG p1 m4 u2=some X1:=aA
 obtain _|m4:=m4
 ·cases aA
 rw[E7.eq_2]at aA
 refine ifB aA (λbS aA=>?_) λbS aA=>?_
 ·obtain⟨x6,bT,aA⟩:=B0 aA
  obtain⟨bU,bV,bW,bX⟩:=Sl.getI (r:=Z0.toRp) (Z1.mono aL aB) bT (by decide)
  refine aI bU ?_
  obtain⟨bY,bZ,cA,bC,bD,bE,cC,rfl,rfl,bF,bG,bH,aM⟩:=j3 bX
  obtain⟨rfl,bI⟩:=Sl.len aM
  try dsimp only at aA
  refine eX _ (aI bW ?_)
  refine ifB aA (λcD aA=>?_) λcD aA=>?_
  ·obtain⟨x8,cE,aA⟩:=B0 aA
   obtain⟨cG,cH,cI,cJ⟩:=Sl.getI (r:=Z0.toRp) (Z1.mono aL aB) cE (by decide)
   refine aI cG ?_
   obtain⟨cK,cL,cM,bJ,bK,bL,cN,rfl,rfl,bM,aN,aO,aD⟩:=j3 cJ
   obtain⟨rfl,bN⟩:=Sl.len aD
   try dsimp only at aA
   refine eX _ (aI cI ?_)
   refine trM aA (B5 _ _ _ (l0 aN aO aD)) ?_
   rintro x9 aA cU cO ⟨cP,rfl,bO⟩
   have cQ:Sub k3 cO:=bO.sub
   have cR:=bO.r
   obtain⟨aV,aW,aP,bP,aQ,aX,rfl,rfl,aR,aS,aF⟩:=C0 cR
   obtain⟨rfl,bQ⟩:=Sl.len aF
   try dsimp only at aA
   obtain rfl:=oJ aA
   try dsimp only[J5,K5]at aC
   obtain rfl:=oJ aC
   exact⟨([.int .i64 aV,.int .i64 aW,.slice aP aX.length aQ]),rfl,(l0 aR aS aF),(aL.trans cQ)⟩
  ·exact A3 m4 ⟨(IntKind.i64.wrap (u2+1)),rfl,rfl,aL,(I0 _),aA⟩
 ·obtain rfl:=oJ aA
  try dsimp only[C1,E1]at aC
  obtain rfl:=oJ aC
  exact⟨([.int .i64 0,.int .i64 0,.slice none 0 0]),rfl,(l0 (by decide) (by decide) (c09 H1 k3)),aL⟩
theorem m05(h:Hp)(bD:List Value)(p0:j0)(bX:D1.R h bD p0)(bE:List Value)(p1:j0)(bY:D1.R h bE p1)(r:j0×Bool)(aA:J7 p0 p1=some r):
  Tr Tryz.prog 144 #[.agg bD.toArray,.agg bE.toArray] h λv h'=>∃(bP:List Value),v = .tuple #[.agg bP.toArray,.bool r.2]/\D1.R h' bP r.1/\Sub h h':=by
 obtain⟨aX,aY,aN,bQ,aO,aZ,rfl,rfl,aP,aQ,aC⟩:=C0 bX
 obtain⟨rfl,bR⟩:=Sl.len aC
 obtain⟨bA,bB,aR,bS,aS,bC,rfl,rfl,aT,aU,aD⟩:=C0 bY
 obtain⟨rfl,bT⟩:=Sl.len aD
 unfold J7 at aA
 dsimp only at aA
 refine D3 (args:=[.agg #[.int .i64 aX,.int .i64 aY,.slice aN aZ.length aO],.agg #[.int .i64 bA,.int .i64 bB,.slice aR bC.length aS]]) (fn:=Tryz.f144) rfl ?_
 refine trV aA (h8 _ [.int .i64 aX,.int .i64 aY,.slice aN aZ.length aO] (aX,aY,aZ) (l0 aP aQ aC)) λx1 aA=>?_
 refine trG aA (λq=>h8 _ [.int .i64 bA,.int .i64 bB,.slice aR bC.length aS] (bA,bB,bC) (l0 aT aU aD)) λx2 aA=>?_
 refine ifB aA (λbZ aA=>?_) λbZ aA=>?_
 ·obtain rfl:=oJ aA
  exact⟨([.int .i64 0,.int .i64 0,.slice none 0 0]),rfl,(l0 (by decide) (by decide) (c09 H1 h)),(Sub.refl _)⟩
 ·refine trM aA (w08 _ _ _ (l0 aP aQ aC) _ _ (l0 aT aU aD) 0 (by decide) 0 (by decide)) ?_
  rintro x4 aA v6 k5 ⟨bL,rfl,aV,bU⟩
  obtain⟨cA,cC⟩:=x4
  dsimp only at aA aV
  obtain⟨aF,aG,aJ,bJ,aK,aH,rfl,rfl,aL,aM,aB⟩:=C0 aV
  obtain⟨rfl,bK⟩:=Sl.len aB
  try dsimp only at aA
  refine ifB aA (λcD aA=>?_) λcD aA=>?_
  ·obtain rfl:=oJ aA
   exact⟨([.int .i64 0,.int .i64 0,.slice none 0 0]),rfl,(l0 (by decide) (by decide) (c09 H1 k5)),bU⟩
  ·refine trM aA (D04 _ [.int .i64 aF,.int .i64 aG,.slice aJ aH.length aK] (aF,aG,aH) (l0 aL aM aB)) ?_
   rintro x8 aA cI k9 ⟨cE,rfl,cG,cH⟩
   obtain⟨bM,bN,bF,bV,bG,bO,rfl,rfl,bH,bI,aW⟩:=C0 cG
   obtain⟨rfl,bW⟩:=Sl.len aW
   try dsimp only at aA
   obtain rfl:=oJ aA
   exact⟨([.int .i64 bM,.int .i64 bN,.slice bF bO.length bG]),rfl,(l0 bH bI aW),(bU.trans cH)⟩
theorem x08(h:Hp)(bI:List Value)(p0:j0)(dF:D1.R h bI p0)(bJ:List Value)(p1:j0)(dG:D1.R h bJ p1)(r:j0×Bool)(aH:j9 p0 p1=some r):
  Tr Tryz.prog 243 #[.agg bI.toArray,.agg bJ.toArray] h λv h'=>∃(cQ:List Value),v = .tuple #[.agg cQ.toArray,.bool r.2]/\D1.R h' cQ r.1/\Sub h h':=by
 obtain⟨aN,aA,aO,cR,aP,aQ,rfl,rfl,aZ,bA,aR⟩:=C0 dF
 obtain⟨rfl,cS⟩:=Sl.len aR
 obtain⟨bE,aY,bB,cT,bC,aS,rfl,rfl,bK,bL,aT⟩:=C0 dG
 obtain⟨rfl,cU⟩:=Sl.len aT
 unfold j9 at aH
 dsimp only at aH
 refine D3 (args:=[.agg #[.int .i64 aN,.int .i64 aA,.slice aO aQ.length aP],.agg #[.int .i64 bE,.int .i64 aY,.slice bB aS.length bC]]) (fn:=Tryz.f243) rfl ?_
 refine trV aH (E6 _ [.int .i64 aN,.int .i64 aA,.slice aO aQ.length aP] (aN,aA,aQ) (l0 aZ bA aR)) λx1 aH=>?_
 refine trG aH (λq=>E6 _ [.int .i64 bE,.int .i64 aY,.slice bB aS.length bC] (bE,aY,aS) (l0 bK bL aT)) λx2 aH=>?_
 refine ifB aH (λdH aH=>?_) λdH aH=>?_
 ·obtain rfl:=oJ aH
  exact⟨([.int .i64 0,.int .i64 0,.slice none 0 0]),rfl,(l0 (by decide) (by decide) (c09 H1 h)),(Sub.refl _)⟩
 ·refine trM aH (B5 _ [.int .i64 aN,.int .i64 aA,.slice aO aQ.length aP] (aN,aA,aQ) (l0 aZ bA aR)) ?_
  rintro x4 aH v6 k5 ⟨dI,rfl,cV⟩
  have cW:Sub h k5:=cV.sub
  have dJ:=cV.r
  obtain⟨bV,dK,bM,cX,bN,bO,rfl,rfl,bP,cY,bD⟩:=C0 dJ
  obtain⟨rfl,cZ⟩:=Sl.len bD
  try dsimp only at aH
  obtain⟨X7,bW,aH⟩:=B0 aH
  refine eX { vars:=[7],boxes:=[3],owns:=[],fuel:=true } (eX (λvs os h'=>∃ u8 u9 aX aJ bF aK aL,vs.tail = [.int .i64 u8,.int .i64 u9,.int .i64 aX,.slice aJ bF aK]/\os = []/\Sub k5 h'/\O0 u8/\O0 u9/\O0 aX/\J0.R h' [.slice aJ bF aK] aL/\J3 aS aA (D2 vs) u8 u9 aX aL=some X7) (eX (λ_ _=>0) (aI (eX U0 ⟨0,bV,(IntKind.i64.wrap ((IntKind.i64.wrap (aA+aY))-1)),bM,bO.length,bN,bO,rfl,rfl,(Sub.refl _),(by decide),bP,(I0 _),bD,bW⟩) ?_)))
  rintro _ _ _ _ bG dU ⟨u8,u9,aX,aJ,bF,aK,aL,⟨⟩,⟨⟩,bH,dV,bQ,aU,aM,aB⟩
  replace aB:J3 aS aA bG u8 u9 aX aL=some X7:=aB
  obtain _|bG:=bG
  ·cases aB
  rw[J3.eq_2]at aB
  obtain⟨rfl,dL⟩:=Sl.len aM
  refine ifB aB (λbX aB=>?_) λbX aB=>?_
  ·refine ld aB (J0.mono (cW.trans bH) aT) λdW dA bY aB=>?_
   obtain⟨aC,aD,aF,rfl,rfl,aV,aG,aW⟩:=U1 bY
   try dsimp only at aB
   refine ifB aB (λbZ aB=>?_) λbZ aB=>?_
   ·refine ifB aB (λcA aB=>?_) λcA aB=>?_
    ·refine trM aB (T9 _ aJ aL.length aK aL aM [.int .i64 (IntKind.i64.wrap ((IntKind.i64.wrap (aC+aA))-1)),.int .i64 aD,.int .i64 (IntKind.i64.wrap ((IntKind.i64.wrap (aF+aA))-1))] ((IntKind.i64.wrap ((IntKind.i64.wrap (aC+aA))-1)),aD,(IntKind.i64.wrap ((IntKind.i64.wrap (aF+aA))-1))) (T1 (I0 _) aG (I0 _))) ?_
     rintro dB aB dX dY ⟨cC,dM,cD,rfl,bR,cE⟩
     obtain⟨rfl,dN⟩:=Sl.len bR
     exact A3 bG ⟨(IntKind.i64.wrap (u8+1)),u9,aX,cC,dB.length,cD,dB,rfl,rfl,(bH.trans cE),(I0 _),bQ,aU,bR,aB⟩
    ·refine trM aB (T9 _ aJ aL.length aK aL aM [.int .i64 (IntKind.i64.wrap ((IntKind.i64.wrap (aC+aA))-1)),.int .i64 aD,.int .i64 aF] ((IntKind.i64.wrap ((IntKind.i64.wrap (aC+aA))-1)),aD,aF) (T1 (I0 _) aG aW)) ?_
     rintro dC aB dZ eA ⟨cG,dO,cH,rfl,bS,cI⟩
     obtain⟨rfl,dP⟩:=Sl.len bS
     exact A3 bG ⟨(IntKind.i64.wrap (u8+1)),u9,aX,cG,dC.length,cH,dC,rfl,rfl,(bH.trans cI),(I0 _),bQ,aU,bS,aB⟩
   ·refine ifB aB (λcJ aB=>?_) λcJ aB=>?_
    ·refine trM aB (T9 _ aJ aL.length aK aL aM [.int .i64 aC,.int .i64 aD,.int .i64 (IntKind.i64.wrap ((IntKind.i64.wrap (aF+aA))-1))] (aC,aD,(IntKind.i64.wrap ((IntKind.i64.wrap (aF+aA))-1))) (T1 aV aG (I0 _))) ?_
     rintro dD aB eC eD ⟨cK,dQ,cL,rfl,bT,cM⟩
     obtain⟨rfl,dR⟩:=Sl.len bT
     exact A3 bG ⟨(IntKind.i64.wrap (u8+1)),u9,aX,cK,dD.length,cL,dD,rfl,rfl,(bH.trans cM),(I0 _),bQ,aU,bT,aB⟩
    ·refine trM aB (T9 _ aJ aL.length aK aL aM [.int .i64 aC,.int .i64 aD,.int .i64 aF] (aC,aD,aF) (T1 aV aG aW)) ?_
     rintro dE aB eE eF ⟨cN,dS,cO,rfl,bU,cP⟩
     obtain⟨rfl,dT⟩:=Sl.len bU
     exact A3 bG ⟨(IntKind.i64.wrap (u8+1)),u9,aX,cN,dE.length,cO,dE,rfl,rfl,(bH.trans cP),(I0 _),bQ,aU,bU,aB⟩
  ·obtain rfl:=oJ aB
   try dsimp only[C1,E1]at aH
   obtain rfl:=oJ aH
   exact⟨([.int .i64 u9,.int .i64 aX,.slice aJ aL.length aK]),rfl,(l0 bQ aU aM),(cW.trans bH)⟩
theorem v0c(h:Hp)(bD:List Value)(p0:j0)(bX:D1.R h bD p0)(bE:List Value)(p1:j0)(bY:D1.R h bE p1)(r:j0×Bool)(aA:c01 p0 p1=some r):
  Tr Tryz.prog 145 #[.agg bD.toArray,.agg bE.toArray] h λv h'=>∃(bQ:List Value),v = .tuple #[.agg bQ.toArray,.bool r.2]/\D1.R h' bQ r.1/\Sub h h':=by
 obtain⟨aX,aY,aN,bR,aO,aZ,rfl,rfl,aP,aQ,aC⟩:=C0 bX
 obtain⟨rfl,bS⟩:=Sl.len aC
 obtain⟨bA,bB,aR,bT,aS,bC,rfl,rfl,aT,aU,aD⟩:=C0 bY
 obtain⟨rfl,bU⟩:=Sl.len aD
 unfold c01 at aA
 dsimp only at aA
 refine D3 (args:=[.agg #[.int .i64 aX,.int .i64 aY,.slice aN aZ.length aO],.agg #[.int .i64 bA,.int .i64 bB,.slice aR bC.length aS]]) (fn:=Tryz.f145) rfl ?_
 refine trM aA (x08 _ _ _ (l0 aP aQ aC) _ _ (l0 aT aU aD)) ?_
 rintro x1 aA v3 k2 ⟨bM,rfl,aV,bJ⟩
 obtain⟨bZ,cA⟩:=x1
 dsimp only at aA aV
 obtain⟨aF,aG,aJ,bK,aK,aH,rfl,rfl,aL,aM,aB⟩:=C0 aV
 obtain⟨rfl,bL⟩:=Sl.len aB
 try dsimp only at aA
 refine trG aA (λq=>h8 _ [.int .i64 aX,.int .i64 aY,.slice aN aZ.length aO] (aX,aY,aZ) (l0 aP aQ (J0.mono bJ aC))) λx4 aA=>?_
 refine trG aA (λq=>h8 _ [.int .i64 bA,.int .i64 bB,.slice aR bC.length aS] (bA,bB,bC) (l0 aT aU (J0.mono bJ aD))) λx5 aA=>?_
 refine ifB aA (λcC aA=>?_) λcC aA=>?_
 ·obtain rfl:=oJ aA
  exact⟨([.int .i64 0,.int .i64 0,.slice none 0 0]),rfl,(l0 (by decide) (by decide) (c09 H1 k2)),bJ⟩
 ·refine trM aA (D04 _ [.int .i64 aF,.int .i64 aG,.slice aJ aH.length aK] (aF,aG,aH) (l0 aL aM aB)) ?_
  rintro x7 aA v9 k8 ⟨cD,rfl,cE,cG⟩
  obtain⟨bN,bO,bF,bV,bG,bP,rfl,rfl,bH,bI,aW⟩:=C0 cE
  obtain⟨rfl,bW⟩:=Sl.len aW
  try dsimp only at aA
  obtain rfl:=oJ aA
  exact⟨([.int .i64 bN,.int .i64 bO,.slice bF bP.length bG]),rfl,(l0 bH bI aW),(bJ.trans cG)⟩
theorem n05(h:Hp)(cX:List Value)(p0:Q0)(gH:Y1.R h cX p0)(p1:ByteArray)(eF:p1.size<=9223372036854775807)(p2:ByteArray)(gX:p2.size<=9223372036854775807)(p3:ByteArray)(gI:p3.size<=9223372036854775807)(p4:ByteArray)(gJ:p4.size<=9223372036854775807)(r:Q0×Bool)(aA:T8 p0 p1 p2 p3 p4=some r):
  Tr Tryz.prog 56 #[.agg cX.toArray,.string p1,.string p2,.string p3,.string p4] h λv h'=>∃(fP:List Value),v = .tuple #[.agg fP.toArray,.bool r.2]/\Y1.R h' fP r.1/\Sub h h':=by
 obtain⟨aB,aD,fQ,aF,aC,rfl,rfl,aH,aG⟩:=L1 gH
 obtain⟨rfl,fR⟩:=Sl.len aG
 unfold T8 at aA
 dsimp only at aA
 refine D3 (args:=[.agg #[.int .i64 aB,.slice aD aC.length aF],.string p1,.string p2,.string p3,.string p4]) (fn:=Tryz.f56) rfl ?_
 refine trM aA (Q06 _ [.int .i64 aB,.slice aD aC.length aF] (aB,aC) (T0 aH aG) p3 gI) ?_
 rintro x1 aA v3 k2 ⟨eG,rfl,cL,aR⟩
 obtain⟨gK,gL⟩:=x1
 dsimp only at aA cL
 obtain⟨eH,eI,dR,dS,dT,eJ,rfl,rfl,aS,aT,aJ⟩:=C0 cL
 obtain⟨rfl,dU⟩:=Sl.len aJ
 try dsimp only at aA
 refine trM aA (Q06 _ [.int .i64 aB,.slice aD aC.length aF] (aB,aC) (T0 aH (Z1.mono aR aG)) p4 gJ) ?_
 rintro x4 aA v6 k5 ⟨eM,rfl,cM,aL⟩
 obtain⟨gM,gN⟩:=x4
 dsimp only at aA cM
 obtain⟨eN,eO,dV,dW,dX,eP,rfl,rfl,aU,aV,aK⟩:=C0 cM
 obtain⟨rfl,dY⟩:=Sl.len aK
 try dsimp only at aA
 refine trV aA (A04 _ [.int .i64 aB,.slice aD aC.length aF] (aB,aC) (T0 aH (Z1.mono (aR.trans aL) aG))) λx7 aA=>?_
 refine ifB aA (λgO aA=>?_) λgO aA=>?_
 ·refine trM aA (P8 _ [.int .i64 aB,.slice aD aC.length aF] (aB,aC) (T0 aH (Z1.mono (aR.trans aL) aG))) ?_
  rintro x9 aA gY gZ ⟨gP,rfl,gQ,gR⟩
  obtain⟨eQ,cY,fS,cZ,eR,rfl,rfl,dA,cN⟩:=L1 gQ
  obtain⟨rfl,fT⟩:=Sl.len cN
  try dsimp only at aA
  obtain rfl:=oJ aA
  exact⟨([.int .i64 eQ,.slice cY eR.length cZ]),rfl,(T0 dA cN),((aR.trans aL).trans gR)⟩
 ·refine ifB aA (λeT aA=>?_) λeT aA=>?_
  ·refine trM aA (m05 _ _ _ (l0 aS aT (J0.mono aL aJ)) _ _ (l0 aU aV aK)) ?_
   rintro gS aA hJ hU ⟨dZ,rfl,bC,cC⟩
   obtain⟨fU,fV⟩:=gS
   dsimp only at aA bC
   obtain⟨aW,aX,bD,dB,bE,aY,rfl,rfl,bF,bG,aM⟩:=C0 bC
   obtain⟨rfl,dC⟩:=Sl.len aM
   try dsimp only at aA
   refine ifB aA (λeU aA=>?_) λeU aA=>?_
   ·refine trM aA (P8 _ [.int .i64 aB,.slice aD aC.length aF] (aB,aC) (T0 aH (Z1.mono ((aR.trans aL).trans cC) aG))) ?_
    rintro hY aA hZ iA ⟨fW,rfl,eV,eW⟩
    obtain⟨dD,cO,eY,cP,dE,rfl,rfl,cQ,bH⟩:=L1 eV
    obtain⟨rfl,eZ⟩:=Sl.len bH
    try dsimp only at aA
    obtain rfl:=oJ aA
    exact⟨([.int .i64 dD,.slice cO dE.length cP]),rfl,(T0 cQ bH),(((aR.trans aL).trans cC).trans eW)⟩
   ·refine trM aA (w02 _ [.int .i64 aB,.slice aD aC.length aF] (aB,aC) (T0 aH (Z1.mono ((aR.trans aL).trans cC) aG)) p1 eF [.int .i64 aW,.int .i64 aX,.slice bD aY.length bE] (aW,aX,aY) (l0 bF bG aM)) ?_
    rintro gT aA iB iC ⟨eA,rfl,bI,fA⟩
    obtain⟨fX,fY⟩:=gT
    dsimp only at aA bI
    obtain⟨cD,bJ,dF,bK,cE,rfl,rfl,bL,aN⟩:=L1 bI
    obtain⟨rfl,dG⟩:=Sl.len aN
    try dsimp only at aA
    obtain rfl:=oJ aA
    exact⟨([.int .i64 cD,.slice bJ cE.length bK]),rfl,(T0 bL aN),(((aR.trans aL).trans cC).trans fA)⟩
  ·refine ifB aA (λfB aA=>?_) λfB aA=>?_
   ·refine trM aA (v0c _ _ _ (l0 aS aT (J0.mono aL aJ)) _ _ (l0 aU aV aK)) ?_
    rintro gU aA iD iE ⟨eC,rfl,bM,cG⟩
    obtain⟨fZ,gA⟩:=gU
    dsimp only at aA bM
    obtain⟨aZ,bA,bN,dH,bO,bB,rfl,rfl,bP,bQ,aO⟩:=C0 bM
    obtain⟨rfl,dI⟩:=Sl.len aO
    try dsimp only at aA
    refine ifB aA (λfC aA=>?_) λfC aA=>?_
    ·refine trM aA (P8 _ [.int .i64 aB,.slice aD aC.length aF] (aB,aC) (T0 aH (Z1.mono ((aR.trans aL).trans cG) aG))) ?_
     rintro iF aA iG iH ⟨gB,rfl,fD,fE⟩
     obtain⟨dJ,cR,fF,cS,dK,rfl,rfl,cT,bR⟩:=L1 fD
     obtain⟨rfl,fH⟩:=Sl.len bR
     try dsimp only at aA
     obtain rfl:=oJ aA
     exact⟨([.int .i64 dJ,.slice cR dK.length cS]),rfl,(T0 cT bR),(((aR.trans aL).trans cG).trans fE)⟩
    ·refine trM aA (w02 _ [.int .i64 aB,.slice aD aC.length aF] (aB,aC) (T0 aH (Z1.mono ((aR.trans aL).trans cG) aG)) p1 eF [.int .i64 aZ,.int .i64 bA,.slice bN bB.length bO] (aZ,bA,bB) (l0 bP bQ aO)) ?_
     rintro gV aA iI iJ ⟨eD,rfl,bS,fI⟩
     obtain⟨gC,gD⟩:=gV
     dsimp only at aA bS
     obtain⟨cH,bT,dL,bU,cI,rfl,rfl,bV,aP⟩:=L1 bS
     obtain⟨rfl,dM⟩:=Sl.len aP
     try dsimp only at aA
     obtain rfl:=oJ aA
     exact⟨([.int .i64 cH,.slice bT cI.length bU]),rfl,(T0 bV aP),(((aR.trans aL).trans cG).trans fI)⟩
   ·refine ifB aA (λfJ aA=>?_) λfJ aA=>?_
    ·refine trM aA (P8 _ [.int .i64 aB,.slice aD aC.length aF] (aB,aC) (T0 aH (Z1.mono (aR.trans aL) aG))) ?_
     rintro iK aA iL iM ⟨gE,rfl,fK,fL⟩
     obtain⟨dN,cU,fM,cV,dO,rfl,rfl,cW,bW⟩:=L1 fK
     obtain⟨rfl,fN⟩:=Sl.len bW
     try dsimp only at aA
     obtain rfl:=oJ aA
     exact⟨([.int .i64 dN,.slice cU dO.length cV]),rfl,(T0 cW bW),((aR.trans aL).trans fL)⟩
    ·refine trM aA (w02 _ [.int .i64 aB,.slice aD aC.length aF] (aB,aC) (T0 aH (Z1.mono (aR.trans aL) aG)) p1 eF [.int .i64 0,.int .i64 0,.slice none 0 0] (0,0,([]:K0)) (l0 (by decide) (by decide) (c09 H1 k5))) ?_
     rintro gW aA iN iO ⟨eE,rfl,bX,fO⟩
     obtain⟨gF,gG⟩:=gW
     dsimp only at aA bX
     obtain⟨cJ,bY,dP,bZ,cK,rfl,rfl,cA,aQ⟩:=L1 bX
     obtain⟨rfl,dQ⟩:=Sl.len aQ
     try dsimp only at aA
     obtain rfl:=oJ aA
     exact⟨([.int .i64 cJ,.slice bY cK.length bZ]),rfl,(T0 cA aQ),((aR.trans aL).trans fO)⟩
theorem V09(h:Hp)(p0:Int)(aB:O0 p0)(p1:Int)(aF:O0 p1)(p2:Int)(aC:O0 p2)(r:H0)(aA:K9 p0 p1 p2=some r):
  Tr Tryz.prog 203 #[.int .i64 p0,.int .i64 p1,.int .i64 p2] h λv h'=>∃(aD:List Value),v = .agg aD.toArray/\H1.R h' aD r/\Sub h h':=by
 unfold K9 at aA
 refine D3 (args:=[.int .i64 p0,.int .i64 p1,.int .i64 p2]) (fn:=Tryz.f203) rfl ?_
 refine ifB aA (λaG aA=>?_) λaG aA=>?_
 ·obtain rfl:=oJ aA
  exact⟨([.int .i64 p2,.int .i64 (IntKind.i64.wrap (0-p1)),.int .i64 p0]),rfl,(T1 aC (I0 _) aB),(Sub.refl _)⟩
 ·obtain rfl:=oJ aA
  exact⟨([.int .i64 p0,.int .i64 p1,.int .i64 p2]),rfl,(T1 aB aF aC),(Sub.refl _)⟩
theorem M01(h:Hp)(p0:Int)(aM:O0 p0)(aF:Nat)(aG:TypeId)(aC:Int)(aH:O0 aC)(aA:Int)(aJ:O0 aA)(aD:h aF=some (.cells #[.int .i64 aC,.int .i64 aA] aG (0,0)))(r:Int)(aB:V5 p0 (aC,aA)=some r):
  Tr Tryz.prog 366 #[.int .i64 p0,ptr aF 0] h λv h'=>v = .int .i64 r/\h'=h:=by
 unfold V5 at aB
 dsimp only at aB
 refine Tr.forget (D3 (args:=[.int .i64 p0,ptr aF 0]) (fn:=Tryz.f366) rfl ?_)
 refine eX (.int .i64 aA) (aI ⟨rfl,by simp[Hp.cell,(aD)]⟩ ?_)
 refine ifB aB (λaK aB=>?_) λaK aB=>?_
 ·refine eX (.int .i64 aC) (aI ⟨rfl,by simp[Hp.cell,(aD)]⟩ ?_)
  obtain rfl:=oJ aB
  exact aI rfl (Sub.refl _)
 ·refine eX (.int .i64 aA) (aI ⟨rfl,by simp[Hp.cell,(aD)]⟩ ?_)
  refine ifB aB (λaL aB=>?_) λaL aB=>?_
  ·obtain rfl:=oJ aB
   exact aI rfl (Sub.refl _)
  ·obtain rfl:=oJ aB
   exact aI rfl (Sub.refl _)
theorem I0e(h:Hp)(aW:List Value)(p0:j0)(cI:D1.R h aW p0)(r:W7)(aV:H01 p0=some r):
  Tr Tryz.prog 365 #[.agg aW.toArray] h λv h'=>∃(a0:Option Addr) (n0 c0:Nat),v = .slice a0 n0 c0/\g0e.R h' [.slice a0 n0 c0] r/\Sub h h':=by
 obtain⟨bC,bD,aX,bW,aY,aT,rfl,rfl,bX,bY,aO⟩:=C0 cI
 obtain⟨rfl,bZ⟩:=Sl.len aO
 unfold H01 at aV
 dsimp only at aV
 refine D3 (args:=[.agg #[.int .i64 bC,.int .i64 bD,.slice aX aT.length aY]]) (fn:=Tryz.f365) rfl ?_
 obtain⟨X1,bE,aV⟩:=B0 aV
 refine eX { vars:=[12],boxes:=[],owns:=[0],fuel:=true } (eX (λvs os h'=>∃ u2 bA u3,vs.tail = [.int .i64 u2]/\os = [bA]/\Sub h h'/\O0 u2/\F2 (O3.R h') bA u3/\a8 aT (D2 vs) u2 u3=some X1) (eX (λ_ _=>0) (aI (eX U0 ⟨0,[],([]:W7),rfl,rfl,(Sub.refl _),(by decide),(show F2 (O3.R h) ([]:List (List Value)) ([]:W7) from trivial),bE⟩) ?_)))
 rintro _ bA m5 k4 ⟨u2,cJ,u3,⟨⟩,⟨⟩,bB,cV,cA,aN⟩
 replace aN:a8 aT m5 u2 u3=some X1:=aN
 obtain _|m5:=m5
 ·cases aN
 rw[a8.eq_2]at aN
 refine ifB aN (λcK aN=>?_) λcK aN=>?_
 ·refine ld aN (J0.mono bB aO) λx7 cL cM aN=>?_
  obtain⟨aD,aZ,aC,rfl,rfl,aK,cC,aJ⟩:=U1 cM
  try dsimp only at aN
  obtain⟨x8,cN,aN⟩:=B0 aN
  obtain⟨cO,bF,cP,cQ⟩:=Sl.cutI (r:=H1.toRp) (J0.mono bB aO) cN
  refine aI cO (eX bF (aI cP ?_))
  intro cR bG _
  obtain⟨cW,cX,rfl,cD⟩:=cQ cR bG
  have cY:=(Sl.len cD).2
  obtain⟨X9,bH,aN⟩:=B0 aN
  refine eX { vars:=[23],boxes:=[],owns:=[0],fuel:=true } (eX (λvs os h'=>∃ aP aM aQ,vs.tail = [.int .i64 aP]/\os = [aM]/\Sub k4 h'/\O0 aP/\F2 (O3.R h') aM aQ/\U4 x8 aZ aD aC (D2 vs) aP aQ=some X9) (eX (λ_ _=>0) (aI (eX U0 ⟨0,bA,u3,rfl,rfl,(Sub.refl _),(by decide),cA,bH⟩) ?_)))
  rintro _ aM aS aR ⟨aP,cE,aQ,⟨⟩,⟨⟩,aU,cS,aL,aH⟩
  replace aH:U4 x8 aZ aD aC aS aP aQ=some X9:=aH
  obtain _|aS:=aS
  ·cases aH
  rw[U4.eq_2]at aH
  refine ifB aH (λbI aH=>?_) λbI aH=>?_
  ·refine ld aH (J0.mono aU cD) λcZ cG bJ aH=>?_
   obtain⟨aB,cH,aA,rfl,rfl,aG,bK,aF⟩:=U1 bJ
   try dsimp only at aH
   refine ifB aH (λbL aH=>?_) λbL aH=>?_
   ·exact A3 aS ⟨(IntKind.i64.wrap (aP+1)),aM,aQ,rfl,rfl,aU,(I0 _),aL,aH⟩
   ·refine ifB aH (λbM aH=>?_) λbM aH=>?_
    ·obtain⟨dA,bN,aH⟩:=B0 aH
     refine aI (J2 bN (by first|rw[F2.length aL,F2.length (show F2 (O3.R aR) ([[.int .i64 (if aA<aC then aA else aC),.int .i64 (if aA>aC then aA else aC)]]:List (List Value)) [((if aA<aC then aA else aC),(if aA>aC then aA else aC))] from⟨(C2 (G7 aF aJ) (G7 aF aJ)),trivial⟩)]|exact congrArg (·+1) (F2.length aL))) ?_
     refine ifB aH (λbO aH=>?_) λbO aH=>?_
     ·obtain⟨dB,bP,aH⟩:=B0 aH
      refine aI (J2 bP (by first|rw[F2.length (F2.append aL (show F2 (O3.R aR) ([[.int .i64 (if aA<aC then aA else aC),.int .i64 (if aA>aC then aA else aC)]]:List (List Value)) [((if aA<aC then aA else aC),(if aA>aC then aA else aC))] from⟨(C2 (G7 aF aJ) (G7 aF aJ)),trivial⟩)),F2.length (show F2 (O3.R aR) ([[.int .i64 (if aB<aD then aB else aD),.int .i64 (if aB>aD then aB else aD)]]:List (List Value)) [((if aB<aD then aB else aD),(if aB>aD then aB else aD))] from⟨(C2 (G7 aG aK) (G7 aG aK)),trivial⟩)]|exact congrArg (·+1) (F2.length (F2.append aL (show F2 (O3.R aR) ([[.int .i64 (if aA<aC then aA else aC),.int .i64 (if aA>aC then aA else aC)]]:List (List Value)) [((if aA<aC then aA else aC),(if aA>aC then aA else aC))] from⟨(C2 (G7 aF aJ) (G7 aF aJ)),trivial⟩))))) ?_
      exact A3 aS ⟨(IntKind.i64.wrap (aP+1)),((aM++([[.int .i64 (if aA<aC then aA else aC),.int .i64 (if aA>aC then aA else aC)]]:List (List Value)))++([[.int .i64 (if aB<aD then aB else aD),.int .i64 (if aB>aD then aB else aD)]]:List (List Value))),((aQ ++ [((if aA<aC then aA else aC),(if aA>aC then aA else aC))]) ++ [((if aB<aD then aB else aD),(if aB>aD then aB else aD))]),rfl,rfl,aU,(I0 _),(F2.append (F2.append aL (show F2 (O3.R aR) ([[.int .i64 (if aA<aC then aA else aC),.int .i64 (if aA>aC then aA else aC)]]:List (List Value)) [((if aA<aC then aA else aC),(if aA>aC then aA else aC))] from⟨(C2 (G7 aF aJ) (G7 aF aJ)),trivial⟩)) (show F2 (O3.R aR) ([[.int .i64 (if aB<aD then aB else aD),.int .i64 (if aB>aD then aB else aD)]]:List (List Value)) [((if aB<aD then aB else aD),(if aB>aD then aB else aD))] from⟨(C2 (G7 aG aK) (G7 aG aK)),trivial⟩)),aH⟩
     ·exact A3 aS ⟨(IntKind.i64.wrap (aP+1)),(aM++([[.int .i64 (if aA<aC then aA else aC),.int .i64 (if aA>aC then aA else aC)]]:List (List Value))),(aQ ++ [((if aA<aC then aA else aC),(if aA>aC then aA else aC))]),rfl,rfl,aU,(I0 _),(F2.append aL (show F2 (O3.R aR) ([[.int .i64 (if aA<aC then aA else aC),.int .i64 (if aA>aC then aA else aC)]]:List (List Value)) [((if aA<aC then aA else aC),(if aA>aC then aA else aC))] from⟨(C2 (G7 aF aJ) (G7 aF aJ)),trivial⟩)),aH⟩
    ·refine ifB aH (λbQ aH=>?_) λbQ aH=>?_
     ·obtain⟨dC,bR,aH⟩:=B0 aH
      refine aI (J2 bR (by first|rw[F2.length aL,F2.length (show F2 (O3.R aR) ([[.int .i64 (if aB<aD then aB else aD),.int .i64 (if aB>aD then aB else aD)]]:List (List Value)) [((if aB<aD then aB else aD),(if aB>aD then aB else aD))] from⟨(C2 (G7 aG aK) (G7 aG aK)),trivial⟩)]|exact congrArg (·+1) (F2.length aL))) ?_
      exact A3 aS ⟨(IntKind.i64.wrap (aP+1)),(aM++([[.int .i64 (if aB<aD then aB else aD),.int .i64 (if aB>aD then aB else aD)]]:List (List Value))),(aQ ++ [((if aB<aD then aB else aD),(if aB>aD then aB else aD))]),rfl,rfl,aU,(I0 _),(F2.append aL (show F2 (O3.R aR) ([[.int .i64 (if aB<aD then aB else aD),.int .i64 (if aB>aD then aB else aD)]]:List (List Value)) [((if aB<aD then aB else aD),(if aB>aD then aB else aD))] from⟨(C2 (G7 aG aK) (G7 aG aK)),trivial⟩)),aH⟩
     ·exact A3 aS ⟨(IntKind.i64.wrap (aP+1)),aM,aQ,rfl,rfl,aU,(I0 _),aL,aH⟩
  ·obtain rfl:=oJ aH
   try dsimp only[C1,E1]at aN
   exact A3 m5 ⟨(IntKind.i64.wrap (u2+1)),aM,aQ,rfl,rfl,(bB.trans aU),(I0 _),aL,aN⟩
 ·obtain rfl:=oJ aN
  try dsimp only[C1,E1]at aV
  intro dD dE cT
  obtain⟨bS,bT,rfl,bU,bV,cU⟩:=O1.out (r:=O3.toRp) cT cA
  obtain rfl:=oJ aV
  exact⟨bS,u3.length,bT,rfl,bU,(bB.trans bV)⟩
theorem w09(h:Hp)(aF:List Value)(p0:j0)(aV:D1.R h aF p0)(r:L4×Bool)(aA:C8 p0=some r):
  Tr Tryz.prog 346 #[.agg aF.toArray] h λv h'=>∃(aQ:List Value),v = .tuple #[.agg aQ.toArray,.bool r.2]/\O3.R h' aQ r.1/\Sub h h':=by
 obtain⟨aL,aM,aG,aR,aH,aN,rfl,rfl,aC,aD,aB⟩:=C0 aV
 obtain⟨rfl,aS⟩:=Sl.len aB
 unfold C8 at aA
 dsimp only at aA
 refine D3 (args:=[.agg #[.int .i64 aL,.int .i64 aM,.slice aG aN.length aH]]) (fn:=Tryz.f346) rfl ?_
 refine trV aA (G9 _ _ _ (l0 aC aD aB)) λx1 aA=>?_
 refine ifB aA (λaW aA=>?_) λaW aA=>?_
 ·obtain rfl:=oJ aA
  exact⟨([.int .i64 0,.int .i64 0]),rfl,(C2 (by decide) (by decide)),(Sub.refl _)⟩
 ·refine trM aA (I0e _ _ _ (l0 aC aD aB)) ?_
  rintro x3 aA v5 k4 ⟨bA,bB,bC,rfl,aT,aU⟩
  obtain⟨rfl,bD⟩:=Sl.len aT
  refine ifB aA (λaX aA=>?_) λaX aA=>?_
  ·obtain rfl:=oJ aA
   exact⟨([.int .i64 0,.int .i64 0]),rfl,(C2 (by decide) (by decide)),aU⟩
  ·refine ld aA aT λx7 aY aZ aA=>?_
   obtain⟨aO,aP,rfl,rfl,aJ,aK⟩:=y00 aZ
   try dsimp only at aA
   obtain rfl:=oJ aA
   exact⟨([.int .i64 aO,.int .i64 aP]),rfl,(C2 aJ aK),aU⟩
theorem Z05(h:Hp)(aY:List Value)(p0:j0)(dA:D1.R h aY p0)(aZ:List Value)(p1:L4)(dB:O3.R h aZ p1)(r:j0×Bool)(aB:S6 p0 p1=some r):
  Tr Tryz.prog 347 #[.agg aY.toArray,.agg aZ.toArray] h λv h'=>∃(cM:List Value),v = .tuple #[.agg cM.toArray,.bool r.2]/\New D1 h h' cM r.1:=by
 obtain⟨bM,bN,bA,cN,bB,bO,rfl,rfl,aK,aL,aF⟩:=C0 dA
 obtain⟨rfl,cO⟩:=Sl.len aF
 obtain⟨aC,aD,rfl,rfl,aM,aN⟩:=y00 dB
 unfold S6 at aB
 dsimp only at aB
 refine D3 (args:=[.agg #[.int .i64 bM,.int .i64 bN,.slice bA bO.length bB],.agg #[.int .i64 aC,.int .i64 aD]]) (fn:=Tryz.f347) rfl ?_
 refine trM aB (Y5 _ _ _ (l0 aK aL aF)) ?_
 rintro x1 aB v3 k2 ⟨aG,cP,aO,rfl,bK⟩
 have cQ:Sub h k2:=bK.sub
 have cR:=bK.r
 obtain⟨bC,bD,aH⟩:=x1
 dsimp only at aB bK cR
 obtain⟨_,_,_,_,_,_,bP,bQ,aP,bE,bF⟩:=C0 cR
 cases bP
 cases bQ
 obtain⟨rfl,cS⟩:=Sl.len bF
 try dsimp only at aB
 have bR:=New.sndI (New.sndI (bK))
 refine trV aB (G9 _ _ _ (l0 aK aL (J0.mono cQ aF))) λx5 aB=>?_
 refine ifB aB (λdC aB=>?_) λdC aB=>?_
 ·obtain rfl:=oJ aB
  exact⟨([.int .i64 bC,.int .i64 bD,.slice (some ⟨aG,0,none⟩) aH.length aO]),rfl,(New.pair (New.int aP) (New.pair (New.int bE) bR))⟩
 ·intro b7 bS
  have dD:(Hp.set k2 b7 (.cells #[.int .i64 aC,.int .i64 aD] 246 (0,0))) b7=some (.cells #[.int .i64 aC,.int .i64 aD] 246 (0,0)):=Hp.set_same _ _ _
  have neb7gx1_2:b7≠aG:=λe=>New.blk bR (Sub.refl _) (e▸bS)
  obtain⟨X8,bT,aB⟩:=B0 aB
  refine eX { vars:=[39],boxes:=[],owns:=[],fuel:=true } (eX (λvs os h'=>∃ u9 bG,vs.tail = [.int .i64 u9]/\os = []/\Sub h h'/\O0 u9/\New J0 h h' [.slice (some ⟨aG,0,none⟩) aH.length aO] bG/\h' b7=some (.cells #[.int .i64 aC,.int .i64 aD] 246 (0,0))/\D4 aH aC aD (D2 vs) u9 bG=some X8) (eX (λ_ _=>0) (aI (eX U0 ⟨0,aH,rfl,rfl,(cQ.trans (Sub.set bS)),(by decide),(New.mono bR (Sub.set bS)),dD,bT⟩) ?_)))
  rintro _ bL dE ⟨u9,bG,⟨⟩,⟨⟩,dF,dQ,aQ,aR,aA⟩
  replace aA:D4 aH aC aD bL u9 bG=some X8:=aA
  obtain _|bL:=bL
  ·cases aA
  rw[D4.eq_2]at aA
  have aS:=aQ.r
  refine ifB aA (λbU aA=>?_) λbU aA=>?_
  ·refine ld aA aS λdR cT bV aA=>?_
   obtain⟨cU,aJ,cV,rfl,rfl,aT,aU,aV⟩:=U1 bV
   try dsimp only at aA
   refine Or.inr (Or.inr (Or.inl (aI (aI (by kernel_rfl) (by kernel_rfl)) ?_)))
   obtain⟨bH,bW,aA⟩:=B0 aA
   obtain⟨dS,bX,aA⟩:=B0 aA
   have bY:O0 bH:=A2 bX
   refine Or.inl (eX (.val (.int .i64 bH)) (aI ?_ ?_))
   ·intro dT dG
    exact Tr.val (M01 _ _ aT b7 246 _ aM _ aN (dG _ _ aR) _ bW) (aI rfl (aI rfl rfl))
   obtain⟨bI,bZ,aA⟩:=B0 aA
   obtain⟨dU,cA,aA⟩:=B0 aA
   have cC:O0 bI:=A2 cA
   refine Or.inl (eX (.val (.int .i64 bI)) (aI ?_ ?_))
   ·intro dV dH
    exact Tr.val (M01 _ _ aV b7 246 _ aM _ aN (dH _ _ aR) _ bZ) (aI rfl (aI rfl rfl))
   refine Or.inl (eX (.agg [.val (.int .i64 bH),.val (.int .i64 aJ),.val (.int .i64 bI)]) (aI ?_ ?_))
   ·intro dW dX
    exact aI rfl (aI rfl rfl)
   refine Or.inr ?_
   refine Or.inr ?_
   refine Or.inl (eX 0 (aI (aI rfl rfl) ?_))
   obtain⟨dY,aW,aA⟩:=B0 aA
   obtain⟨cD,cW,dI,cE⟩:=Sl.getI (r:=H1.toRp) aS aW (by decide)
   refine aI cD ?_
   obtain⟨cX,cY,cZ,rfl,rfl,cG,cH,cI⟩:=U1 cE
   try dsimp only at aA
   refine aI trivial (aI (by first|exact trivial|exact rfl) ?_)
   refine New.put (r:=H1) aQ (Sub.refl _) (L09 aW).1 (new:=[.int .i64 bH,.int .i64 aJ,.int .i64 bI]) (By:=[]) (a0c _ _ _ (T1 bY aU cC)) (c5.nil _) rfl (L09 aW).2 ?_
   intro dJ w28 bJ _
   have dK:=w28.r
   have hpw28b7:dJ b7=some (.cells #[.int .i64 aC,.int .i64 aD] 246 (0,0)):=(bJ b7 neb7gx1_2).trans aR
   refine aI trivial (aI (by first|exact trivial|exact rfl) ?_)
   exact A3 bL ⟨(IntKind.i64.wrap (u9+1)),(bG.set u9.toNat (bH,aJ,bI)),rfl,rfl,w28.sub,(I0 _),w28,(hpw28b7),aA⟩
  ·obtain rfl:=oJ aA
   try dsimp only[C1,E1]at aB
   refine trM aB (i02 _ _ _ _ _ aS) ?_
   rintro dL aB dZ dM ⟨cJ,dN,cK,rfl,aX⟩
   have dO:Sub dE dM:=aX.sub
   have cL:=aX.r
   obtain⟨rfl,dP⟩:=Sl.len cL
   obtain rfl:=oJ aB
   exact⟨([.int .i64 bC,.int .i64 (IntKind.i64.wrap (bD-1)),.slice cJ dL.length cK]),rfl,(New.pair (New.int aP) (New.pair (New.int (I0 _)) (New.from aX dF)))⟩
theorem i0a(h:Hp)(aU:List Value)(p0:j0)(bZ:D1.R h aU p0)(r:j0×L4×Bool)(aA:Y9 p0=some r):
  Tr Tryz.prog 331 #[.agg aU.toArray] h λv h'=>∃(bS:List Value) (bT:List Value),v = .tuple #[.agg bS.toArray,.agg bT.toArray,.bool r.2.2]/\New D1 h h' bS r.1/\O3.R h' bT r.2.1:=by
 obtain⟨bH,bI,aV,bU,aW,bJ,rfl,rfl,aG,aH,aB⟩:=C0 bZ
 obtain⟨rfl,bV⟩:=Sl.len aB
 unfold Y9 at aA
 dsimp only at aA
 refine D3 (args:=[.agg #[.int .i64 bH,.int .i64 bI,.slice aV bJ.length aW]]) (fn:=Tryz.f331) rfl ?_
 refine trM aA (w09 _ _ _ (l0 aG aH aB)) ?_
 rintro x1 aA v3 k2 ⟨bK,rfl,aO,bD⟩
 obtain⟨cA,cC⟩:=x1
 dsimp only at aA aO
 obtain⟨aP,aQ,rfl,rfl,aC,aD⟩:=y00 aO
 try dsimp only at aA
 refine ifB aA (λcD aA=>?_) λcD aA=>?_
 ·refine trM aA (Y5 _ _ _ (l0 aG aH (J0.mono bD aB))) ?_
  rintro x5 aA v7 k6 ⟨aX,bW,aY,rfl,bE⟩
  have cJ:Sub k2 k6:=bE.sub
  have bX:=bE.r
  obtain⟨bL,bM,bN⟩:=x5
  dsimp only at aA bE bX
  obtain⟨_,_,_,_,_,_,bO,bP,aZ,bA,bB⟩:=C0 bX
  cases bO
  cases bP
  obtain⟨rfl,bY⟩:=Sl.len bB
  try dsimp only at aA
  have cE:=New.sndI (New.sndI (bE))
  obtain rfl:=oJ aA
  exact⟨([.int .i64 bL,.int .i64 bM,.slice (some ⟨aX,0,none⟩) bN.length aY]),([.int .i64 0,.int .i64 0]),rfl,(New.pair (New.int aZ) (New.pair (New.int bA) (New.from cE bD))),(C2 (by decide) (by decide))⟩
 ·refine trM aA (Z05 _ _ _ (l0 aG aH (J0.mono bD aB)) _ _ (C2 aC aD)) ?_
  rintro x9 aA cK cG ⟨bQ,rfl,aF⟩
  obtain⟨cH,cI⟩:=x9
  dsimp only at aA aF
  have cL:Sub k2 cG:=aF.sub
  have bC:=aF.r
  obtain⟨aR,aS,aJ,bF,aK,aT,rfl,rfl,aL,aM,aN⟩:=C0 bC
  obtain⟨rfl,bG⟩:=Sl.len aN
  try dsimp only at aA
  have bR:=New.sndI (New.sndI (aF))
  refine Or.inr (Or.inr (Or.inl (aI (aI (by kernel_rfl) (by kernel_rfl)) ?_)))
  refine Or.inr ?_
  refine Or.inr ?_
  refine Or.inl (eX 0 (aI (aI rfl rfl) ?_))
  refine aI trivial (aI (by first|exact trivial|exact rfl) ?_)
  refine aI trivial (aI (by first|exact trivial|exact rfl) ?_)
  obtain rfl:=oJ aA
  exact⟨([.int .i64 aR,.int .i64 aS,.slice aJ aT.length aK]),([.int .i64 aP,.int .i64 aQ]),rfl,(New.pair (New.int aL) (New.pair (New.int aM) (New.from bR bD))),(C2 aC aD)⟩
theorem d0c(h:Hp)(aV:List Value)(p0:j0)(cX:D1.R h aV p0)(r:j0×W7)(aQ:z00 p0=some r):
  Tr Tryz.prog 283 #[.agg aV.toArray] h λv h'=>∃(cK:List Value) (a1:Option Addr) (n1 c1:Nat),v = .tuple #[.agg cK.toArray,.slice a1 n1 c1]/\New D1 h h' cK r.1/\g0e.R h' [.slice a1 n1 c1] r.2:=by
 obtain⟨bR,bS,aW,cL,aX,bT,rfl,rfl,aY,aZ,aT⟩:=C0 cX
 obtain⟨rfl,cM⟩:=Sl.len aT
 unfold z00 at aQ
 dsimp only at aQ
 refine D3 (args:=[.agg #[.int .i64 bR,.int .i64 bS,.slice aW bT.length aX]]) (fn:=Tryz.f283) rfl ?_
 refine trM aQ (Y5 _ _ _ (l0 aY aZ aT)) ?_
 rintro x1 aQ v3 k2 ⟨bA,cN,bB,rfl,bJ⟩
 have cY:Sub h k2:=bJ.sub
 have cO:=bJ.r
 obtain⟨bU,bV,bC⟩:=x1
 dsimp only at aQ bJ cO
 obtain⟨_,_,_,_,_,_,bW,bX,bD,bE,bF⟩:=C0 cO
 cases bW
 cases bX
 obtain⟨rfl,cP⟩:=Sl.len bF
 try dsimp only at aQ
 have cZ:=New.sndI (New.sndI (bJ))
 obtain⟨X5,bY,aQ⟩:=B0 aQ
 refine eX { vars:=[],boxes:=[2],owns:=[0],fuel:=true } (eX (λvs os h'=>∃ u6 u7 bK bZ bL u8 bM u9,vs.tail = [.int .i64 u6,.int .i64 u7,.slice bK bZ bL]/\os = [bM]/\Sub k2 h'/\O0 u6/\O0 u7/\New J0 h h' [.slice bK bZ bL] u8/\F2 (O3.R h') bM u9/\T6 (D2 vs) u6 u7 u8 u9=some X5) (eX (λ_ _=>0) (aI (eX U0 ⟨bU,bV,(some ⟨bA,0,none⟩),bC.length,bB,bC,[],([]:W7),rfl,rfl,(Sub.refl _),bD,bE,cZ,(show F2 (O3.R k2) ([]:List (List Value)) ([]:W7) from trivial),bY⟩) ?_)))
 rintro _ _ _ bM bN dA ⟨u6,u7,bK,bZ,bL,u8,dB,u9,⟨⟩,⟨⟩,cQ,cR,cS,bG,bO,aG⟩
 replace aG:T6 bN u6 u7 u8 u9=some X5:=aG
 obtain _|bN:=bN
 ·cases aG
 rw[T6.eq_2]at aG
 have cT:=bG.r
 obtain⟨rfl,dF⟩:=Sl.len cT
 refine trM aG (i0a _ _ _ (l0 cR cS cT)) ?_
 rintro dC aG dG cA ⟨bP,bQ,rfl,aC,aK⟩
 obtain⟨cU,cV,cW⟩:=dC
 dsimp only at aG aC aK
 have aJ:Sub dA cA:=aC.sub
 have aU:=aC.r
 obtain⟨aR,aS,aL,bH,aM,aH,rfl,rfl,aN,aO,aP⟩:=C0 aU
 obtain⟨rfl,bI⟩:=Sl.len aP
 try dsimp only at aG
 have cC:=New.sndI (New.sndI (aC))
 obtain⟨aA,aB,rfl,rfl,aD,aF⟩:=y00 aK
 try dsimp only at aG
 refine ifB aG (λcD aG=>?_) λcD aG=>?_
 ·intro dH dI dD
  obtain⟨cE,cG,rfl,cH,cI,dE⟩:=O1.out (r:=O3.toRp) dD (F2.up (r:=O3.toRp) aJ bO)
  obtain rfl:=oJ aG
  try dsimp only[J5,K5]at aQ
  obtain rfl:=oJ aQ
  exact⟨([.int .i64 u6,.int .i64 u7,.slice bK u8.length bL]),cE,u9.length,cG,rfl,(New.pair (New.int cR) (New.pair (New.int cS) (New.mono bG (aJ.trans cI)))),cH⟩
 ·obtain⟨dJ,cJ,aG⟩:=B0 aG
  refine aI (J2 cJ (by first|rw[F2.length (F2.up (r:=O3.toRp) aJ bO),F2.length (show F2 (O3.R cA) ([[.int .i64 aA,.int .i64 aB]]:List (List Value)) [(aA,aB)] from⟨(C2 aD aF),trivial⟩)]|exact congrArg (·+1) (F2.length (F2.up (r:=O3.toRp) aJ bO)))) ?_
  exact A3 bN ⟨aR,aS,aL,aH.length,aM,aH,(bM++([[.int .i64 aA,.int .i64 aB]]:List (List Value))),(u9 ++ [(aA,aB)]),rfl,rfl,(cQ.trans aJ),aN,aO,(New.from cC (cY.trans cQ)),(F2.append (F2.up (r:=O3.toRp) aJ bO) (show F2 (O3.R cA) ([[.int .i64 aA,.int .i64 aB]]:List (List Value)) [(aA,aB)] from⟨(C2 aD aF),trivial⟩)),aG⟩
theorem E04(h:Hp)(aO:List Value)(p0:j0)(cN:D1.R h aO p0)(r:j0)(aA:H8 p0=some r):
  Tr Tryz.prog 196 #[.agg aO.toArray] h λv h'=>∃(bY:List Value),v = .agg bY.toArray/\New D1 h h' bY r:=by
 obtain⟨bI,bJ,aP,bZ,aQ,bK,rfl,rfl,aR,aS,aL⟩:=C0 cN
 obtain⟨rfl,cA⟩:=Sl.len aL
 unfold H8 at aA
 dsimp only at aA
 refine D3 (args:=[.agg #[.int .i64 bI,.int .i64 bJ,.slice aP bK.length aQ]]) (fn:=Tryz.f196) rfl ?_
 refine trM aA (d0c _ _ _ (l0 aR aS aL)) ?_
 rintro x1 aA v3 k2 ⟨bL,cC,cD,cE,rfl,aB,aM⟩
 obtain⟨cO,cP⟩:=x1
 dsimp only at aA aB aM
 have cQ:Sub h k2:=aB.sub
 have aT:=aB.r
 obtain⟨bM,bN,bA,bB,bC,bO,rfl,rfl,aG,aH,aC⟩:=C0 aT
 obtain⟨rfl,bD⟩:=Sl.len aC
 try dsimp only at aA
 have cX:=New.sndI (New.sndI (aB))
 obtain⟨rfl,cG⟩:=Sl.len aM
 refine trM aA (B04 _ _ _ (l0 aG aH aC)) ?_
 rintro x5 aA v7 k6 ⟨bP,cH,cI,cJ,rfl,aD,aN⟩
 obtain⟨cR,cS⟩:=x5
 dsimp only at aA aD aN
 have cT:Sub k2 k6:=aD.sub
 have aU:=aD.r
 obtain⟨bQ,bR,bE,bF,bG,bS,rfl,rfl,aJ,aK,aF⟩:=C0 aU
 obtain⟨rfl,bH⟩:=Sl.len aF
 try dsimp only at aA
 have cY:=New.sndI (New.sndI (aD))
 obtain⟨rfl,cK⟩:=Sl.len aN
 refine trM aA (Q01 _ _ _ (l0 aJ aK aF)) ?_
 rintro x9 aA cZ cU ⟨cV,rfl,bT⟩
 have dA:Sub k6 cU:=bT.sub
 have cW:=bT.r
 obtain⟨bU,bV,aV,cL,aW,bW,rfl,rfl,aX,aY,aZ⟩:=C0 cW
 obtain⟨rfl,cM⟩:=Sl.len aZ
 try dsimp only at aA
 have bX:=New.sndI (New.sndI (bT))
 obtain rfl:=oJ aA
 exact⟨([.int .i64 bU,.int .i64 bV,.slice aV bW.length aW]),rfl,(New.pair (New.int aX) (New.pair (New.int aY) (New.from bX (cQ.trans cT))))⟩
theorem R06(h:Hp)(aD:List Value)(p0:Q0)(bJ:Y1.R h aD p0)(p1:ByteArray)(bK:p1.size<=9223372036854775807)(r:j0×Bool)(aA:l00 p0 p1=some r):
  Tr Tryz.prog 146 #[.agg aD.toArray,.string p1] h λv h'=>∃(aY:List Value),v = .tuple #[.agg aY.toArray,.bool r.2]/\New D1 h h' aY r.1:=by
 obtain⟨aR,aF,aZ,aG,aS,rfl,rfl,aH,aB⟩:=L1 bJ
 obtain⟨rfl,bA⟩:=Sl.len aB
 unfold l00 at aA
 dsimp only at aA
 refine D3 (args:=[.agg #[.int .i64 aR,.slice aF aS.length aG],.string p1]) (fn:=Tryz.f146) rfl ?_
 refine trV aA (C02 _ _ _ (T0 aH aB) _ bK) λx1 aA=>?_
 obtain⟨q2,bL,aA⟩:=B0 aA
 have bX:O0 x1:=A2 bL
 refine ifB aA (λbM aA=>?_) λbM aA=>?_
 ·obtain rfl:=oJ aA
  exact⟨([.int .i64 0,.int .i64 0,.slice none 0 0]),rfl,(New.pair (New.int (by decide)) (New.pair (New.int (by decide)) ((New.nilSlice (r:=H1)).mono (Sub.refl _))))⟩
 ·obtain⟨x4,bN,aA⟩:=B0 aA
  obtain⟨bO,bP,bQ,bR⟩:=Sl.getI (r:=Z0.toRp) aB bN (by decide)
  refine aI bO ?_
  obtain⟨bS,bT,bU,bB,bC,bD,bV,rfl,rfl,bE,aJ,aK,aC⟩:=j3 bR
  obtain⟨rfl,bF⟩:=Sl.len aC
  try dsimp only at aA
  refine eX _ (aI bQ ?_)
  refine trM aA (Y5 _ _ _ (l0 aJ aK aC)) ?_
  rintro x5 aA v7 k6 ⟨aL,bG,aM,rfl,aQ⟩
  have bY:Sub h k6:=aQ.sub
  have bH:=aQ.r
  obtain⟨aT,aU,aV⟩:=x5
  dsimp only at aA aQ bH
  obtain⟨_,_,_,_,_,_,aW,aX,aN,aO,aP⟩:=C0 bH
  cases aW
  cases aX
  obtain⟨rfl,bI⟩:=Sl.len aP
  try dsimp only at aA
  have bW:=New.sndI (New.sndI (aQ))
  obtain rfl:=oJ aA
  exact⟨([.int .i64 aT,.int .i64 aU,.slice (some ⟨aL,0,none⟩) aV.length aM]),rfl,(New.pair (New.int aN) (New.pair (New.int aO) bW))⟩
theorem J0m:n0c Tryz.prog 233 232 3:=⟨by kernel_rfl,⟨3,by kernel_rfl,by kernel_rfl,by kernel_rfl,by kernel_rfl⟩,by kernel_rfl⟩
theorem y08(h:Hp)(cZ:List Value)(p0:j0)(gI:D1.R h cZ p0)(dA:List Value)(p1:j0)(gJ:D1.R h dA p1)(p2:Int)(fO:O0 p2)(p3:Int)(fP:O0 p3)(r:j0×Bool)(aB:i9 p0 p1 p2 p3=some r):
  Tr Tryz.prog 244 #[.agg cZ.toArray,.agg dA.toArray,.int .i64 p2,.int .i64 p3] h λv h'=>∃(fQ:List Value),v = .tuple #[.agg fQ.toArray,.bool r.2]/\New D1 h h' fQ r.1:=by
 obtain⟨aC,aF,bC,fR,bD,aG,rfl,rfl,aX,bL,bE⟩:=C0 gI
 obtain⟨rfl,fS⟩:=Sl.len bE
 obtain⟨aH,aJ,bF,fT,bG,aK,rfl,rfl,bM,bN,bH⟩:=C0 gJ
 obtain⟨rfl,fU⟩:=Sl.len bH
 unfold i9 at aB
 dsimp only at aB
 refine D3 (args:=[.agg #[.int .i64 aC,.int .i64 aF,.slice bC aG.length bD],.agg #[.int .i64 aH,.int .i64 aJ,.slice bF aK.length bG],.int .i64 p2,.int .i64 p3]) (fn:=Tryz.f244) rfl ?_
 obtain⟨x1,gK,aB⟩:=B0 aB
 refine Tr.val (c00 _ [.int .i64 aC,.int .i64 aF,.slice bC aG.length bD] (aC,aF,aG) (l0 aX bL bE) _  gK) ?_
 obtain⟨x2,gL,aB⟩:=B0 aB
 refine eX (.bool x2) (aI (λq=>c00 _ [.int .i64 aH,.int .i64 aJ,.slice bF aK.length bG] (aH,aJ,aK) (l0 bM bN bH) _  (F7 gL q)) ?_)
 obtain⟨x3,gM,aB⟩:=B0 aB
 refine eX (.bool x3) (aI (λq=>Q00 _ [.int .i64 aC,.int .i64 aF,.slice bC aG.length bD] (aC,aF,aG) (l0 aX bL bE) p2 fO _  (F7 gM q)) ?_)
 obtain⟨x4,gN,aB⟩:=B0 aB
 refine eX (.bool x4) (aI (λq=>Q00 _ [.int .i64 aH,.int .i64 aJ,.slice bF aK.length bG] (aH,aJ,aK) (l0 bM bN bH) p3 fP _  (F7 gN q)) ?_)
 refine aI (λdL=>?_) (λdL=>?_)
 ·replace aB:=ifP aB dL
  have hE:=oJ aB;subst hE
  exact⟨([.int .i64 0,.int .i64 0,.slice none 0 0]),rfl,(New.pair (New.int (by decide)) (New.pair (New.int (by decide)) ((New.nilSlice (r:=H1)).mono (Sub.refl _))))⟩
 ·replace aB:=ifN aB dL
  intro bm hbm
  refine eX undef (eX _ (aI (y0l J0m (.inr rfl) rfl (p:=(p2,p3)) rfl (ps:=[]) rfl (Hp.set_same _ _ _) rfl) ?_))
  have sH:Sub h ((h.set bm (.map #[] 0)).set bm (q04 [(p2,p3)])):=Sub.setNone hbm (Sub.set hbm)
  have hmH:((h.set bm (.map #[] 0)).set bm (q04 [(p2,p3)])) bm=some (q04 [(p2,p3)]):=Hp.set_same _ _ _
  obtain⟨X6,dM,aB⟩:=B0 aB
  refine eX { vars:=[13],boxes:=[3],owns:=[0,1],fuel:=true,nilsB:=[(3,2,166,3,24)] } (eX (λvs os h'=>∃(u7:Int) (u8:Int) (u9:Int) (bA:List (List Value)) (cX:List L4) (bO:List (List Value)) (cJ:List H0),vs.tail = [.int .i64 u7,.int .i64 u8,.int .i64 u9]/\os = [bA,bO]/\Sub h h'/\h' bm=some (q04 cX)/\O0 u7/\O0 u8/\O0 u9/\F2 (O3.R h') bA cX/\F2 (H1.R h') bO cJ/\c6 aC aF aG aH aJ aK (D2 vs) u7 u8 u9 cX cJ=some X6) (eX (λ_ _=>0) ?_))
  refine aI (eX U0 ⟨0,aC,0,([[.int .i64 p2,.int .i64 p3]]:List (List Value)),([(p2,p3)]),[],([]:K0),rfl,rfl,sH,hmH,(by decide),aX,(by decide),(show F2 (O3.R _) ([[.int .i64 p2,.int .i64 p3]]:List (List Value)) [(p2,p3)] from⟨(C2 fO fP),trivial⟩),(show F2 (H1.R _) [] [] from trivial),dM⟩) ?_
  rintro v_0 v_1 v_2 bA bO dJ iE ⟨u7,u8,u9,fV,cX,fW,cJ,dN,dO,dP,dQ,fX,fY,gO,cK,cL,aU⟩
  cases dN
  cases dO
  replace aU:c6 aC aF aG aH aJ aK dJ u7 u8 u9 cX cJ=some X6:=aU
  obtain _|dJ:=dJ
  ·cases (show(none:Option _)=some X6 from aU)
  rw[c6.eq_2]at aU
  obtain⟨gP,dR,aU⟩:=B0 aU
  obtain rfl:bA.length=gP:=(F2.length cK).trans (oJ dR)
  obtain⟨iF,gQ,aU⟩:=B0 aU
  refine aI (λcM=>?_) (λcM=>?_)
  ·replace aU:=ifP aU cM
   obtain⟨cY,dS,aU⟩:=B0 aU
   refine Tr.mono (X05 _ aC aX _  dS) ?_
   rintro iG iH ⟨dB,gR,dC,rfl,dD,bZ⟩
   obtain⟨rfl,gS⟩:=Sl.len dD
   obtain⟨X20,dE,aU⟩:=B0 aU
   refine eX { vars:=[70],boxes:=[3],owns:=[0,1],fuel:=true } (eX (λvs os h'=>∃(bY:Int) (bP:Int) (bQ:Int) (aD:List (List Value)) (aV:List L4) (aL:List (List Value)) (bR:List H0),vs.tail = [.int .i64 bY,.int .i64 bP,.int .i64 bQ]/\os = [aD,aL]/\Sub h h'/\M4.R h' [.slice dB cY.length dC] cY/\h' bm=some (q04 aV)/\O0 bY/\O0 bP/\O0 bQ/\F2 (O3.R h') aD aV/\F2 (H1.R h') aL bR/\I3 cY u7 aC aF aG aH aJ aK (D2 vs) bY bP bQ aV bR=some X20) (eX (λ_ _=>0) ?_))
   refine aI (eX U0 ⟨0,u8,u9,bA,cX,bO,cJ,rfl,rfl,(dP.trans bZ),dD,bZ _ _ dQ,(by decide),fY,gO,(F2.up (r:=O3.toRp) bZ cK),(F2.up (r:=H1.toRp) bZ cL),dE⟩) ?_
   rintro v_0 v_1 v_2 aD aL cE iI ⟨bY,bP,bQ,fZ,aV,gA,bR,dF,dG,cA,rq,cG,gT,bI,bJ,aW,bB,aA⟩
   cases dF
   cases dG
   replace aA:I3 cY u7 aC aF aG aH aJ aK cE bY bP bQ aV bR=some X20:=aA
   obtain _|cE:=cE
   ·cases (show(none:Option _)=some X20 from aA)
   rw[I3.eq_2]at aA
   refine aI (λcN=>?_) (λcN=>?_)
   ·replace aA:=ifP aA cN
    obtain⟨dK,dT,aA⟩:=B0 aA
    obtain⟨dU,gB,dV,dW⟩:=Sl.getI (r:=Wp.int.toRp) rq dT (by decide)
    refine aI dU ?_
    obtain⟨rfl,cC⟩:=dW
    refine eX _ (aI dV ?_)
    refine Or.inr (Or.inr (Or.inr (Or.inl (aI (aI (by kernel_rfl) (by kernel_rfl)) ?_))))
    obtain⟨iJ,dX,aA⟩:=B0 aA
    obtain⟨dY,gC,dZ,eA⟩:=j5 aW dX
    obtain⟨cH,gD,rfl,rfl,cO,eC⟩:=y00 eA
    try dsimp only at aA
    refine Or.inl ?_
    apply eX
    refine aI ?_ ?_
    ·intro iK iL
     exact aI dY (aI rfl (aI rfl rfl))
    refine Or.inl ?_
    apply eX
    refine aI ?_ ?_
    ·intro iM iN
     exact aI rfl (aI rfl rfl)
    refine Or.inl (eX (.val (.int .i64 cH)) (aI ?_ ?_))
    ·intro iO iP
     exact eX _ (aI dZ (aI rfl (aI rfl rfl)))
    obtain⟨aM,eD,aA⟩:=B0 aA
    obtain⟨iQ,eE,aA⟩:=B0 aA
    have cP:O0 aM:=A2 eE
    refine Or.inl (eX (.val (.int .i64 aM)) (aI ?_ ?_))
    ·intro iS gU
     exact Tr.val (L01 _ [.int .i64 aC,.int .i64 aF,.slice bC aG.length bD] (aC,aF,aG) (l0 aX bL (J0.mono (cA.trans gU) bE)) cH cO dK cC _ eD) (aI rfl (aI rfl rfl))
    obtain⟨iT,eF,aA⟩:=B0 aA
    obtain⟨eG,gE,eH,eI⟩:=j5 aW eF
    obtain⟨gF,cI,rfl,rfl,eJ,cQ⟩:=y00 eI
    try dsimp only at aA
    refine Or.inl ?_
    apply eX
    refine aI ?_ ?_
    ·intro iU iV
     exact aI eG (aI rfl (aI rfl rfl))
    refine Or.inl ?_
    apply eX
    refine aI ?_ ?_
    ·intro iW iX
     exact aI rfl (aI rfl rfl)
    refine Or.inl (eX (.val (.int .i64 cI)) (aI ?_ ?_))
    ·intro iY iZ
     exact eX _ (aI eH (aI rfl (aI rfl rfl)))
    obtain⟨aN,eM,aA⟩:=B0 aA
    obtain⟨jA,eN,aA⟩:=B0 aA
    have cR:O0 aN:=A2 eN
    refine Or.inl (eX (.val (.int .i64 aN)) (aI ?_ ?_))
    ·intro jB gV
     exact Tr.val (L01 _ [.int .i64 aH,.int .i64 aJ,.slice bF aK.length bG] (aH,aJ,aK) (l0 bM bN (J0.mono (cA.trans gV) bH)) cI cQ dK cC _ eM) (aI rfl (aI rfl rfl))
    intro dH bK
    have hmE:=bK _ _ cG
    have sE:=cA.trans bK
    have rE:=M4.mono bK rq
    refine aI (λcS=>?_) (λcS=>?_)
    ·replace aA:=ifP aA cS
     refine aI rfl (aI (by trivial) (aI (by trivial) (eX cE (aI ⟨(IntKind.i64.wrap (bY+1)),bP,bQ,aD,aV,aL,bR,rfl,rfl,sE,rE,hmE,(I0 _),bI,bJ,(F2.up (r:=O3.toRp) bK aW),(F2.up (r:=H1.toRp) bK bB),aA⟩ (nS _)))))
    ·replace aA:=ifN aA cS
     obtain⟨eO,dI,aA⟩:=B0 aA
     refine eX (.tuple #[.int .i64 (lkI eO),.bool (lkB eO)]) (eX _ (aI (o0n J0m rfl rfl (p:=(aM,aN)) rfl hmE dI) ?_))
     obtain⟨eP,eQ⟩:=R0f dI
     refine aI (λcD=>?_) (λcD=>?_)
     ·replace aA:=ifP aA cD
      obtain⟨gW,eR,aA⟩:=B0 aA
      obtain rfl:aD.length=gW:=(F2.length (F2.up (r:=O3.toRp) bK aW)).trans (oJ eR)
      obtain⟨jC,eT,aA⟩:=B0 aA
      refine eX undef (eX _ (aI (y0l J0m (.inl rfl) rfl (p:=(aM,aN)) rfl (ps:=aV) (by exact congrArg (λn:Nat=>Value.int .i64 (n:Int)) (F2.length aW)) hmE (z0l (by rw[←eP];exact cD))) ?_))
      have sU:Sub h (dH.set bm (q04 (aV ++ [(aM,aN)]))):=Sub.setNone hbm sE
      have hmU:(dH.set bm (q04 (aV ++ [(aM,aN)]))) bm=some (q04 (aV ++ [(aM,aN)])):=Hp.set_same _ _ _
      have rU:M4.R (dH.set bm (q04 (aV ++ [(aM,aN)]))) [.slice dB cY.length dC] cY:=p0n hmE rE
      have fu:F2 (O3.R (dH.set bm (q04 (aV ++ [(aM,aN)])))) aD aV:=aW
      have fv:F2 (H1.R (dH.set bm (q04 (aV ++ [(aM,aN)])))) aL bR:=bB
      obtain⟨jD,eU,aA⟩:=B0 aA
      refine aI (J2 eU (by first|rw[F2.length fu,F2.length (show F2 (O3.R _) ([[.int .i64 aM,.int .i64 aN]]:List (List Value)) [(aM,aN)] from⟨(C2 cP cR),trivial⟩)]|exact congrArg (·+1) (F2.length fu))) ?_
      refine aI (λcT=>?_) (λcT=>?_)
      ·replace aA:=ifP aA cT
       refine Or.inr (Or.inr (Or.inl (aI (aI (by kernel_rfl) (by kernel_rfl)) ?_)))
       refine Or.inr ?_
       refine Or.inr ?_
       refine Or.inr ?_
       refine Or.inr ?_
       refine Or.inl (eX 1 (aI (aI rfl rfl) ?_))
       obtain⟨jE,eV,aA⟩:=B0 aA
       refine Tr.mono (V09 _ u7 fX dK cC ((aD.length:Nat):Int) (f0b (A2 eT)) _  eV) ?_
       rintro jF jG ⟨gG,rfl,eW,aY⟩
       obtain⟨aO,aP,aQ,rfl,rfl,bS,bT,bU⟩:=U1 eW
       try dsimp only at aA
       refine aI (aI rfl aY) (aI (by first|exact trivial|exact rfl) ?_)
       refine aI trivial (aI (by first|exact trivial|exact rfl) ?_)
       obtain⟨jH,eY,aA⟩:=B0 aA
       refine aI (J2 eY (by first|rw[F2.length (F2.up (r:=H1.toRp) aY fv),F2.length (show F2 (H1.R _) ([[.int .i64 aO,.int .i64 aP,.int .i64 aQ]]:List (List Value)) [(aO,aP,aQ)] from⟨(T1 bS bT bU),trivial⟩)]|exact congrArg (·+1) (F2.length (F2.up (r:=H1.toRp) aY fv)))) ?_
       refine aI trivial (aI (by first|exact trivial|exact rfl) ?_)
       refine aI trivial (aI (by first|exact trivial|exact rfl) ?_)
       refine aI rfl (aI (by trivial) (aI (by trivial) (eX cE (aI ⟨(IntKind.i64.wrap (bY+1)),bP,bQ,(aD++([[.int .i64 aM,.int .i64 aN]]:List (List Value))),(aV ++ [(aM,aN)]),(aL++([[.int .i64 aO,.int .i64 aP,.int .i64 aQ]]:List (List Value))),(bR ++ [(aO,aP,aQ)]),rfl,rfl,(sU.trans aY),(M4.mono aY rU),aY _ _ hmU,(I0 _),bI,bJ,(F2.up (r:=O3.toRp) aY (F2.append fu (show F2 (O3.R _) ([[.int .i64 aM,.int .i64 aN]]:List (List Value)) [(aM,aN)] from⟨(C2 cP cR),trivial⟩))),(F2.append (F2.up (r:=H1.toRp) aY fv) (show F2 (H1.R _) ([[.int .i64 aO,.int .i64 aP,.int .i64 aQ]]:List (List Value)) [(aO,aP,aQ)] from⟨(T1 bS bT bU),trivial⟩)),aA⟩ (nS _)))))
      ·replace aA:=ifN aA cT
       refine aI rfl (aI (by trivial) (aI (by trivial) (eX cE (aI ⟨(IntKind.i64.wrap (bY+1)),bP,bQ,(aD++([[.int .i64 aM,.int .i64 aN]]:List (List Value))),(aV ++ [(aM,aN)]),aL,bR,rfl,rfl,sU,rU,hmU,(I0 _),bI,bJ,(F2.append fu (show F2 (O3.R _) ([[.int .i64 aM,.int .i64 aN]]:List (List Value)) [(aM,aN)] from⟨(C2 cP cR),trivial⟩)),fv,aA⟩ (nS _)))))
     ·replace aA:=ifN aA cD
      refine aI (λcU=>?_) (λcU=>?_)
      ·replace aA:=ifP aA cU
       refine Or.inr (Or.inr (Or.inl (aI (aI (by kernel_rfl) (by kernel_rfl)) ?_)))
       refine Or.inr ?_
       refine Or.inr ?_
       refine Or.inr ?_
       refine Or.inr ?_
       refine Or.inl (eX 1 (aI (aI rfl rfl) ?_))
       obtain⟨jI,eZ,aA⟩:=B0 aA
       refine Tr.mono (V09 _ u7 fX dK cC (lkI eO) eQ _  eZ) ?_
       rintro jJ jK ⟨gH,rfl,fA,aZ⟩
       obtain⟨aR,aS,aT,rfl,rfl,bV,bW,bX⟩:=U1 fA
       try dsimp only at aA
       refine aI (aI rfl aZ) (aI (by first|exact trivial|exact rfl) ?_)
       refine aI trivial (aI (by first|exact trivial|exact rfl) ?_)
       obtain⟨jL,fB,aA⟩:=B0 aA
       refine aI (J2 fB (by first|rw[F2.length (F2.up (r:=H1.toRp) (bK.trans aZ) bB),F2.length (show F2 (H1.R _) ([[.int .i64 aR,.int .i64 aS,.int .i64 aT]]:List (List Value)) [(aR,aS,aT)] from⟨(T1 bV bW bX),trivial⟩)]|exact congrArg (·+1) (F2.length (F2.up (r:=H1.toRp) (bK.trans aZ) bB)))) ?_
       refine aI trivial (aI (by first|exact trivial|exact rfl) ?_)
       refine aI trivial (aI (by first|exact trivial|exact rfl) ?_)
       refine aI rfl (aI (by trivial) (aI (by trivial) (eX cE (aI ⟨(IntKind.i64.wrap (bY+1)),bP,bQ,aD,aV,(aL++([[.int .i64 aR,.int .i64 aS,.int .i64 aT]]:List (List Value))),(bR ++ [(aR,aS,aT)]),rfl,rfl,(sE.trans aZ),(M4.mono aZ rE),aZ _ _ hmE,(I0 _),bI,bJ,(F2.up (r:=O3.toRp) (bK.trans aZ) aW),(F2.append (F2.up (r:=H1.toRp) (bK.trans aZ) bB) (show F2 (H1.R _) ([[.int .i64 aR,.int .i64 aS,.int .i64 aT]]:List (List Value)) [(aR,aS,aT)] from⟨(T1 bV bW bX),trivial⟩)),aA⟩ (nS _)))))
      ·replace aA:=ifN aA cU
       refine aI rfl (aI (by trivial) (aI (by trivial) (eX cE (aI ⟨(IntKind.i64.wrap (bY+1)),bP,bQ,aD,aV,aL,bR,rfl,rfl,sE,rE,hmE,(I0 _),bI,bJ,(F2.up (r:=O3.toRp) bK aW),(F2.up (r:=H1.toRp) bK bB),aA⟩ (nS _)))))
   ·replace aA:=ifN aA cN
    have hE:=oJ aA;subst hE
    try dsimp only[C1,E1]at aU
    refine aI rfl (aI (by trivial) (aI (by trivial) (eX dJ (aI ⟨(IntKind.i64.wrap (u7+1)),bP,bQ,aD,aV,aL,bR,rfl,rfl,cA,cG,(I0 _),bI,bJ,aW,bB,aU⟩ (nS _)))))
  ·replace aU:=ifN aU cM
   have hE:=oJ aU;subst hE
   try dsimp only[C1,E1]at aB
   obtain⟨gX,fC,aB⟩:=B0 aB
   obtain rfl:bA.length=gX:=(F2.length cK).trans (oJ fC)
   obtain⟨jM,fD,aB⟩:=B0 aB
   obtain⟨gY,fE,aB⟩:=B0 aB
   obtain rfl:bO.length=gY:=(F2.length cL).trans (oJ fE)
   obtain⟨jN,gZ,aB⟩:=B0 aB
   refine aI (λcV=>?_) (λcV=>?_)
   ·replace aB:=ifP aB cV
    have hE:=oJ aB;subst hE
    exact⟨([.int .i64 0,.int .i64 0,.slice none 0 0]),rfl,(New.pair (New.int (by decide)) (New.pair (New.int (by decide)) ((New.nilSlice (r:=H1)).mono dP)))⟩
   ·replace aB:=ifN aB cV
    refine Or.inl ?_
    intro jO hJ hU
    obtain⟨fF,fH,rfl,fI,fJ,hY⟩:=O1.out (r:=H1.toRp) hU cL
    obtain⟨hZ,fK,aB⟩:=B0 aB
    refine Tr.mono (i02 _ fF cJ.length fH cJ fI _  fK) ?_
    rintro jP iA ⟨fL,iB,fM,rfl,cW⟩
    have iC:Sub hJ iA:=cW.sub
    have fN:=cW.r
    obtain⟨rfl,iD⟩:=Sl.len fN
    have hE:=oJ aB;subst hE
    exact⟨([.int .i64 u8,.int .i64 ((bA.length:Nat):Int),.slice fL hZ.length fM]),rfl,(New.pair (New.int fY) (New.pair (New.int (f0b (A2 fD))) (New.from cW (dP.trans fJ))))⟩
theorem o05(h:Hp)(bC:List Value)(p0:j0)(cA:D1.R h bC p0)(bD:List Value)(p1:j0)(cC:D1.R h bD p1)(r:j0×Bool)(aA:K7 p0 p1=some r):
  Tr Tryz.prog 147 #[.agg bC.toArray,.agg bD.toArray] h λv h'=>∃(bS:List Value),v = .tuple #[.agg bS.toArray,.bool r.2]/\New D1 h h' bS r.1:=by
 obtain⟨aD,aF,aG,bT,aH,aJ,rfl,rfl,aY,aZ,aK⟩:=C0 cA
 obtain⟨rfl,bU⟩:=Sl.len aK
 obtain⟨aL,aM,aN,bV,aO,aP,rfl,rfl,bA,bB,aQ⟩:=C0 cC
 obtain⟨rfl,bW⟩:=Sl.len aQ
 unfold K7 at aA
 dsimp only at aA
 refine D3 (args:=[.agg #[.int .i64 aD,.int .i64 aF,.slice aG aJ.length aH],.agg #[.int .i64 aL,.int .i64 aM,.slice aN aP.length aO]]) (fn:=Tryz.f147) rfl ?_
 refine trV aA (n00 _ [.int .i64 aD,.int .i64 aF,.slice aG aJ.length aH] (aD,aF,aJ) (l0 aY aZ aK)) λx1 aA=>?_
 refine trG aA (λq=>n00 _ [.int .i64 aL,.int .i64 aM,.slice aN aP.length aO] (aL,aM,aP) (l0 bA bB aQ)) λx2 aA=>?_
 refine ifB aA (λcD aA=>?_) λcD aA=>?_
 ·obtain rfl:=oJ aA
  exact⟨([.int .i64 0,.int .i64 0,.slice none 0 0]),rfl,(New.pair (New.int (by decide)) (New.pair (New.int (by decide)) ((New.nilSlice (r:=H1)).mono (Sub.refl _))))⟩
 ·refine trM aA (y08 _ [.int .i64 aD,.int .i64 aF,.slice aG aJ.length aH] (aD,aF,aJ) (l0 aY aZ aK) [.int .i64 aL,.int .i64 aM,.slice aN aP.length aO] (aL,aM,aP) (l0 bA bB aQ) 0 (by decide) 0 (by decide)) ?_
  rintro x4 aA v6 k5 ⟨bM,rfl,aB⟩
  obtain⟨cE,cG⟩:=x4
  dsimp only at aA aB
  have bX:Sub h k5:=aB.sub
  have bE:=aB.r
  obtain⟨aR,aS,aU,bK,aV,aT,rfl,rfl,aW,aX,aC⟩:=C0 bE
  obtain⟨rfl,bL⟩:=Sl.len aC
  try dsimp only at aA
  have cL:=New.sndI (New.sndI (aB))
  refine ifB aA (λcH aA=>?_) λcH aA=>?_
  ·obtain rfl:=oJ aA
   exact⟨([.int .i64 0,.int .i64 0,.slice none 0 0]),rfl,(New.pair (New.int (by decide)) (New.pair (New.int (by decide)) ((New.nilSlice (r:=H1)).mono bX)))⟩
  ·refine trM aA (E04 _ [.int .i64 aR,.int .i64 aS,.slice aU aT.length aV] (aR,aS,aT) (l0 aW aX aC)) ?_
   rintro x9 aA cM cI ⟨cJ,rfl,bN⟩
   have cN:Sub k5 cI:=bN.sub
   have cK:=bN.r
   obtain⟨bO,bP,bF,bY,bG,bQ,rfl,rfl,bH,bI,bJ⟩:=C0 cK
   obtain⟨rfl,bZ⟩:=Sl.len bJ
   try dsimp only at aA
   have bR:=New.sndI (New.sndI (bN))
   obtain rfl:=oJ aA
   exact⟨([.int .i64 bO,.int .i64 bP,.slice bF bQ.length bG]),rfl,(New.pair (New.int bH) (New.pair (New.int bI) (New.from bR bX)))⟩
theorem D02(h:Hp)(p0:Int)(aR:O0 p0)(aK:Nat)(aL:TypeId)(aF:Int)(aN:O0 aF)(aA:Int)(aO:O0 aA)(aB:Option Addr)(aC aD:Nat)(aH:K0)(aJ:J0.R h [.slice aB aC aD] aH)(aM:h aK=some (.cells #[.int .i64 aF,.int .i64 aA,.slice aB aC aD] aL (0,0)))(r:Int)(aG:w7 p0 (aF,aA,aH)=some r):
  Tr Tryz.prog 313 #[.int .i64 p0,ptr aK 0] h λv h'=>v = .int .i64 r/\h'=h:=by
 obtain⟨rfl,aP⟩:=Sl.len aJ
 unfold w7 at aG
 dsimp only at aG
 refine Tr.forget (D3 (args:=[.int .i64 p0,ptr aK 0]) (fn:=Tryz.f313) rfl ?_)
 refine ifB aG (λaQ aG=>?_) λaQ aG=>?_
 ·obtain rfl:=oJ aG
  exact aI rfl (Sub.refl _)
 ·refine eX (.int .i64 aA) (aI ⟨rfl,by simp[Hp.cell,(aM)]⟩ ?_)
  obtain rfl:=oJ aG
  exact aI rfl (Sub.refl _)
theorem z08(h:Hp)(bL:List Value)(p0:j0)(dS:D1.R h bL p0)(bM:List Value)(p1:j0)(dT:D1.R h bM p1)(r:j0×Bool)(aJ:l9 p0 p1=some r):
  Tr Tryz.prog 245 #[.agg bL.toArray,.agg bM.toArray] h λv h'=>∃(dE:List Value),v = .tuple #[.agg dE.toArray,.bool r.2]/\New D1 h h' dE r.1:=by
 obtain⟨aD,aA,aB,dF,aC,aF,rfl,rfl,aL,aM,aK⟩:=C0 dS
 obtain⟨rfl,dG⟩:=Sl.len aK
 obtain⟨bC,aS,aX,dH,aY,aP,rfl,rfl,bN,bO,aQ⟩:=C0 dT
 obtain⟨rfl,dI⟩:=Sl.len aQ
 unfold l9 at aJ
 dsimp only at aJ
 refine D3 (args:=[.agg #[.int .i64 aD,.int .i64 aA,.slice aB aF.length aC],.agg #[.int .i64 bC,.int .i64 aS,.slice aX aP.length aY]]) (fn:=Tryz.f245) rfl ?_
 refine trV aJ (G9 _ [.int .i64 aD,.int .i64 aA,.slice aB aF.length aC] (aD,aA,aF) (l0 aL aM aK)) λx1 aJ=>?_
 refine trG aJ (λq=>G9 _ [.int .i64 bC,.int .i64 aS,.slice aX aP.length aY] (bC,aS,aP) (l0 bN bO aQ)) λx2 aJ=>?_
 refine ifB aJ (λdU aJ=>?_) λdU aJ=>?_
 ·obtain rfl:=oJ aJ
  exact⟨([.int .i64 0,.int .i64 0,.slice none 0 0]),rfl,(New.pair (New.int (by decide)) (New.pair (New.int (by decide)) ((New.nilSlice (r:=H1)).mono (Sub.refl _))))⟩
 ·intro b4 cI
  have bJ:(Hp.set h b4 (.cells #[.int .i64 aD,.int .i64 aA,.slice aB aF.length aC] 49 (0,0))) b4=some (.cells #[.int .i64 aD,.int .i64 aA,.slice aB aF.length aC] 49 (0,0)):=Hp.set_same _ _ _
  refine eX (.int .i64 aD) (aI ⟨rfl,p0h (bJ) rfl⟩ ?_)
  refine eX (.int .i64 aA) (aI ⟨rfl,p0h (bJ) rfl⟩ ?_)
  refine eX (.slice aB aF.length aC) (aI ⟨rfl,p0h (bJ) rfl⟩ ?_)
  refine trM aJ (Y5 _ [.int .i64 aD,.int .i64 aA,.slice aB aF.length aC] (aD,aA,aF) (l0 aL aM (J0.mono (Sub.set cI) aK))) ?_
  rintro x5 aJ v7 k6 ⟨bP,dJ,bQ,rfl,cE⟩
  have cJ:Sub (Hp.set h b4 (.cells #[.int .i64 aD,.int .i64 aA,.slice aB aF.length aC] 49 (0,0))) k6:=cE.sub
  have dK:=cE.r
  obtain⟨cK,dV,bR⟩:=x5
  dsimp only at aJ cE dK
  obtain⟨_,_,_,_,_,_,cL,cM,bS,dL,bT⟩:=C0 dK
  cases cL
  cases cM
  obtain⟨rfl,dM⟩:=Sl.len bT
  try dsimp only at aJ
  have dW:=New.sndI (New.sndI (cE))
  refine eX (.int .i64 aA) (aI ⟨rfl,by simp[Hp.cell,((cJ _ _ bJ))]⟩ ?_)
  obtain⟨X9,cN,aJ⟩:=B0 aJ
  refine eX { vars:=[58],boxes:=[3],owns:=[],fuel:=true } (eX (λvs os h'=>∃ bK bD bE aN aO bF aT aZ,vs.tail = [.int .i64 bK,.int .i64 bD,.int .i64 bE,.slice (some ⟨aN,aO,none⟩) bF aT]/\os = []/\Sub h h'/\O0 bK/\O0 bD/\O0 bE/\New J0 (Hp.set h b4 (.cells #[.int .i64 aD,.int .i64 aA,.slice aB aF.length aC] 49 (0,0))) h' [.slice (some ⟨aN,aO,none⟩) bF aT] aZ/\h' b4=some (.cells #[.int .i64 aD,.int .i64 aA,.slice aB aF.length aC] 49 (0,0))/\D5 aP aD aA aF (D2 vs) bK bD bE aZ=some X9) (eX (λ_ _=>0) (aI (eX U0 ⟨0,cK,(IntKind.i64.wrap ((IntKind.i64.wrap (aA+aS))-1)),bP,0,bR.length,bQ,bR,rfl,rfl,((Sub.set cI).trans cJ),(by decide),bS,(I0 _),dW,(cJ _ _ bJ),cN⟩) ?_)))
  rintro _ _ _ _ cG cO ⟨bK,bD,bE,aN,aO,bF,aT,aZ,⟨⟩,⟨⟩,cH,dX,bU,bV,bA,bW,aH⟩
  replace aH:D5 aP aD aA aF cG bK bD bE aZ=some X9:=aH
  obtain _|cG:=cG
  ·cases aH
  rw[D5.eq_2]at aH
  have bX:=bA.r
  obtain⟨rfl,dY⟩:=Sl.len bX
  refine ifB aH (λcP aH=>?_) λcP aH=>?_
  ·refine ld aH (J0.mono cH aQ) λeJ dN cQ aH=>?_
   obtain⟨dO,aG,dP,rfl,rfl,bG,aR,bH⟩:=U1 cQ
   try dsimp only at aH
   refine Or.inr (Or.inr (Or.inl (aI (aI (by kernel_rfl) (by kernel_rfl)) ?_)))
   obtain⟨aU,cR,aH⟩:=B0 aH
   obtain⟨eM,cS,aH⟩:=B0 aH
   have bY:O0 aU:=A2 cS
   refine Or.inl (eX (.val (.int .i64 aU)) (aI ?_ ?_))
   ·intro eN dQ
    exact Tr.val (D02 _ _ bG b4 49 _ aL _ aM _ _ _ _ (J0.mono (cH.trans dQ) aK) (dQ _ _ bW) _ cR) (aI rfl (aI rfl rfl))
   obtain⟨aV,cT,aH⟩:=B0 aH
   obtain⟨eO,cU,aH⟩:=B0 aH
   have bZ:O0 aV:=A2 cU
   refine Or.inl (eX (.val (.int .i64 aV)) (aI ?_ ?_))
   ·intro eP dR
    exact Tr.val (D02 _ _ bH b4 49 _ aL _ aM _ _ _ _ (J0.mono (cH.trans dR) aK) (dR _ _ bW) _ cT) (aI rfl (aI rfl rfl))
   refine Or.inl (eX (.agg [.val (.int .i64 aU),.val (.int .i64 aG),.val (.int .i64 aV)]) (aI ?_ ?_))
   ·intro eQ eR
    exact aI rfl (aI rfl rfl)
   refine Or.inr ?_
   refine Or.inr ?_
   refine Or.inr ?_
   refine Or.inl (eX 0 (aI (aI rfl rfl) ?_))
   refine aI trivial (aI (by first|exact trivial|exact rfl) ?_)
   obtain⟨eT,cV,aH⟩:=B0 aH
   obtain⟨cA,cC,bB,cD⟩:=New.app bA (Sub.refl _)
   refine eX cA (aI cC (aI (J2 cV (by first|rw[bB,F2.length (show F2 (H1.R cO) ([[.int .i64 aU,.int .i64 aG,.int .i64 aV]]:List (List Value)) [(aU,aG,aV)] from⟨(T1 bY aR bZ),trivial⟩)]|(rw[bB];rfl))) ?_))
   intro dZ eA happz30
   obtain⟨aW,cW,cX,eC,cY,rfl⟩:=cD _ _ _ _ _ (F3.ofPlain (a0c _) (show F2 (H1.R cO) ([[.int .i64 aU,.int .i64 aG,.int .i64 aV]]:List (List Value)) [(aU,aG,aV)] from⟨(T1 bY aR bZ),trivial⟩)) c5.ofPlain happz30
   have cZ:=aW.r
   obtain⟨dA,eD⟩:=Sl.len cZ
   subst dA
   refine aI trivial (aI (by first|exact trivial|exact rfl) ?_)
   refine aI trivial (aI (by first|exact trivial|exact rfl) ?_)
   exact A3 cG ⟨(IntKind.i64.wrap (bK+1)),bD,bE,cW,cX,(aZ ++ [(aU,aG,aV)]).length,cY,(aZ ++ [(aU,aG,aV)]),rfl,rfl,((Sub.set cI).trans aW.sub),(I0 _),bU,bV,aW,(aW.sub _ _ bJ),aH⟩
  ·obtain rfl:=oJ aH
   try dsimp only[C1,E1]at aJ
   refine trM aJ (i02 _ (some ⟨aN,aO,none⟩) aZ.length aT aZ bX) ?_
   rintro eE aJ eU eF ⟨dB,eG,dC,rfl,bI⟩
   have eH:Sub cO eF:=bI.sub
   have dD:=bI.r
   obtain⟨rfl,eI⟩:=Sl.len dD
   obtain rfl:=oJ aJ
   exact⟨([.int .i64 bD,.int .i64 bE,.slice dB eE.length dC]),rfl,(New.pair (New.int bU) (New.pair (New.int bV) (New.from bI cH)))⟩
theorem w0c(h:Hp)(bC:List Value)(p0:j0)(cA:D1.R h bC p0)(bD:List Value)(p1:j0)(cC:D1.R h bD p1)(r:j0×Bool)(aA:d01 p0 p1=some r):
  Tr Tryz.prog 148 #[.agg bC.toArray,.agg bD.toArray] h λv h'=>∃(bT:List Value),v = .tuple #[.agg bT.toArray,.bool r.2]/\New D1 h h' bT r.1:=by
 obtain⟨aW,aX,aO,bU,aP,aY,rfl,rfl,aQ,aR,aD⟩:=C0 cA
 obtain⟨rfl,bV⟩:=Sl.len aD
 obtain⟨aZ,bA,aS,bW,aT,bB,rfl,rfl,aU,aV,aF⟩:=C0 cC
 obtain⟨rfl,bX⟩:=Sl.len aF
 unfold d01 at aA
 dsimp only at aA
 refine D3 (args:=[.agg #[.int .i64 aW,.int .i64 aX,.slice aO aY.length aP],.agg #[.int .i64 aZ,.int .i64 bA,.slice aS bB.length aT]]) (fn:=Tryz.f148) rfl ?_
 refine trM aA (z08 _ _ _ (l0 aQ aR aD) _ _ (l0 aU aV aF)) ?_
 rintro x1 aA v3 k2 ⟨bN,rfl,aB⟩
 obtain⟨cD,cE⟩:=x1
 dsimp only at aA aB
 have bK:Sub h k2:=aB.sub
 have bE:=aB.r
 obtain⟨aG,aH,aK,bL,aL,aJ,rfl,rfl,aM,aN,aC⟩:=C0 bE
 obtain⟨rfl,bM⟩:=Sl.len aC
 try dsimp only at aA
 have cJ:=New.sndI (New.sndI (aB))
 refine trG aA (λq=>n00 _ [.int .i64 aW,.int .i64 aX,.slice aO aY.length aP] (aW,aX,aY) (l0 aQ aR (J0.mono bK aD))) λx5 aA=>?_
 refine trG aA (λq=>n00 _ [.int .i64 aZ,.int .i64 bA,.slice aS bB.length aT] (aZ,bA,bB) (l0 aU aV (J0.mono bK aF))) λx6 aA=>?_
 refine ifB aA (λcG aA=>?_) λcG aA=>?_
 ·obtain rfl:=oJ aA
  exact⟨([.int .i64 0,.int .i64 0,.slice none 0 0]),rfl,(New.pair (New.int (by decide)) (New.pair (New.int (by decide)) ((New.nilSlice (r:=H1)).mono bK)))⟩
 ·refine trM aA (E04 _ [.int .i64 aG,.int .i64 aH,.slice aK aJ.length aL] (aG,aH,aJ) (l0 aM aN aC)) ?_
  rintro x8 aA cK k9 ⟨cH,rfl,bO⟩
  have cL:Sub k2 k9:=bO.sub
  have cI:=bO.r
  obtain⟨bP,bQ,bF,bY,bG,bR,rfl,rfl,bH,bI,bJ⟩:=C0 cI
  obtain⟨rfl,bZ⟩:=Sl.len bJ
  try dsimp only at aA
  have bS:=New.sndI (New.sndI (bO))
  obtain rfl:=oJ aA
  exact⟨([.int .i64 bP,.int .i64 bQ,.slice bF bR.length bG]),rfl,(New.pair (New.int bH) (New.pair (New.int bI) (New.from bS bK)))⟩
theorem p05(h:Hp)(dJ:List Value)(p0:Q0)(gY:Y1.R h dJ p0)(p1:ByteArray)(eV:p1.size<=9223372036854775807)(p2:ByteArray)(iX:p2.size<=9223372036854775807)(p3:ByteArray)(gZ:p3.size<=9223372036854775807)(p4:ByteArray)(hJ:p4.size<=9223372036854775807)(r:Q0×Bool)(aA:U8 p0 p1 p2 p3 p4=some r):
  Tr Tryz.prog 57 #[.agg dJ.toArray,.string p1,.string p2,.string p3,.string p4] h λv h'=>∃(gH:List Value),v = .tuple #[.agg gH.toArray,.bool r.2]/\New Y1 h h' gH r.1:=by
 obtain⟨aB,aD,gI,aF,aC,rfl,rfl,aH,aG⟩:=L1 gY
 obtain⟨rfl,gJ⟩:=Sl.len aG
 unfold U8 at aA
 dsimp only at aA
 refine D3 (args:=[.agg #[.int .i64 aB,.slice aD aC.length aF],.string p1,.string p2,.string p3,.string p4]) (fn:=Tryz.f57) rfl ?_
 refine trM aA (R06 _ [.int .i64 aB,.slice aD aC.length aF] (aB,aC) (T0 aH aG) p3 gZ) ?_
 rintro x1 aA v3 k2 ⟨eW,rfl,aU⟩
 obtain⟨hU,hY⟩:=x1
 dsimp only at aA aU
 have aT:Sub h k2:=aU.sub
 have dK:=aU.r
 obtain⟨eY,eZ,eF,eG,eH,fA,rfl,rfl,aV,aW,aJ⟩:=C0 dK
 obtain⟨rfl,eI⟩:=Sl.len aJ
 try dsimp only at aA
 have iY:=New.sndI (New.sndI (aU))
 refine trM aA (R06 _ [.int .i64 aB,.slice aD aC.length aF] (aB,aC) (T0 aH (Z1.mono aT aG)) p4 hJ) ?_
 rintro x5 aA v7 k6 ⟨fB,rfl,aX⟩
 obtain⟨hZ,iA⟩:=x5
 dsimp only at aA aX
 have aQ:Sub k2 k6:=aX.sub
 have dL:=aX.r
 obtain⟨fC,fD,eJ,eM,eN,fE,rfl,rfl,aY,aZ,aK⟩:=C0 dL
 obtain⟨rfl,eO⟩:=Sl.len aK
 try dsimp only at aA
 have iZ:=New.sndI (New.sndI (aX))
 refine trV aA (C04 _ [.int .i64 aB,.slice aD aC.length aF] (aB,aC) (T0 aH (Z1.mono (aT.trans aQ) aG))) λx9 aA=>?_
 refine ifB aA (λfF aA=>?_) λfF aA=>?_
 ·refine trM aA (Q8 _ [.int .i64 aB,.slice aD aC.length aF] (aB,aC) (T0 aH (Z1.mono (aT.trans aQ) aG))) ?_
  rintro jA aA jB iB ⟨gK,rfl,cK⟩
  have iC:Sub k6 iB:=cK.sub
  have fH:=cK.r
  obtain⟨dM,cL,fI,cM,dN,rfl,rfl,cN,cO⟩:=L1 fH
  obtain⟨rfl,fJ⟩:=Sl.len cO
  try dsimp only at aA
  have fK:=New.sndI (cK)
  obtain rfl:=oJ aA
  exact⟨([.int .i64 dM,.slice cL dN.length cM]),rfl,(New.pair (New.int cN) (New.from fK (aT.trans aQ)))⟩
 ·refine ifB aA (λfL aA=>?_) λfL aA=>?_
  ·refine trM aA (o05 _ _ _ (l0 aV aW (J0.mono aQ aJ)) _ _ (l0 aY aZ aK)) ?_
   rintro iD aA jC fM ⟨eP,rfl,aL⟩
   obtain⟨gL,gM⟩:=iD
   dsimp only at aA aL
   have cA:Sub k6 fM:=aL.sub
   have cP:=aL.r
   obtain⟨bA,bB,bG,dO,bH,bC,rfl,rfl,bI,bJ,aR⟩:=C0 cP
   obtain⟨rfl,dP⟩:=Sl.len aR
   try dsimp only at aA
   have iE:=New.sndI (New.sndI (aL))
   refine ifB aA (λfN aA=>?_) λfN aA=>?_
   ·refine trM aA (Q8 _ [.int .i64 aB,.slice aD aC.length aF] (aB,aC) (T0 aH (Z1.mono ((aT.trans aQ).trans cA) aG))) ?_
    rintro jD aA jE iF ⟨gN,rfl,cQ⟩
    have iG:Sub fM iF:=cQ.sub
    have fO:=cQ.r
    obtain⟨dQ,cR,fP,cS,dR,rfl,rfl,cT,cU⟩:=L1 fO
    obtain⟨rfl,fQ⟩:=Sl.len cU
    try dsimp only at aA
    have fR:=New.sndI (cQ)
    obtain rfl:=oJ aA
    exact⟨([.int .i64 dQ,.slice cR dR.length cS]),rfl,(New.pair (New.int cT) (New.from fR ((aT.trans aQ).trans cA)))⟩
   ·refine trM aA (x02 _ [.int .i64 aB,.slice aD aC.length aF] (aB,aC) (T0 aH (Z1.mono ((aT.trans aQ).trans cA) aG)) p1 eV [.int .i64 bA,.int .i64 bB,.slice bG bC.length bH] (bA,bB,bC) (l0 bI bJ aR)) ?_
    rintro iH aA jF iI ⟨eQ,rfl,aM⟩
    obtain⟨gO,gP⟩:=iH
    dsimp only at aA aM
    have iJ:Sub fM iI:=aM.sub
    have cV:=aM.r
    obtain⟨cC,bK,dS,bL,cD,rfl,rfl,bM,bN⟩:=L1 cV
    obtain⟨rfl,dT⟩:=Sl.len bN
    try dsimp only at aA
    have fS:=New.sndI (aM)
    obtain rfl:=oJ aA
    exact⟨([.int .i64 cC,.slice bK cD.length bL]),rfl,(New.pair (New.int bM) (New.from fS ((aT.trans aQ).trans cA)))⟩
  ·refine ifB aA (λfT aA=>?_) λfT aA=>?_
   ·refine trM aA (w0c _ _ _ (l0 aV aW (J0.mono aQ aJ)) _ _ (l0 aY aZ aK)) ?_
    rintro iK aA jG fU ⟨eR,rfl,aN⟩
    obtain⟨gQ,gR⟩:=iK
    dsimp only at aA aN
    have cE:Sub k6 fU:=aN.sub
    have cW:=aN.r
    obtain⟨bD,bE,bO,dU,bP,bF,rfl,rfl,bQ,bR,aS⟩:=C0 cW
    obtain⟨rfl,dV⟩:=Sl.len aS
    try dsimp only at aA
    have iL:=New.sndI (New.sndI (aN))
    refine ifB aA (λfV aA=>?_) λfV aA=>?_
    ·refine trM aA (Q8 _ [.int .i64 aB,.slice aD aC.length aF] (aB,aC) (T0 aH (Z1.mono ((aT.trans aQ).trans cE) aG))) ?_
     rintro jH aA jI iM ⟨gS,rfl,cX⟩
     have iN:Sub fU iM:=cX.sub
     have fW:=cX.r
     obtain⟨dW,cY,fX,cZ,dX,rfl,rfl,dA,dB⟩:=L1 fW
     obtain⟨rfl,fY⟩:=Sl.len dB
     try dsimp only at aA
     have fZ:=New.sndI (cX)
     obtain rfl:=oJ aA
     exact⟨([.int .i64 dW,.slice cY dX.length cZ]),rfl,(New.pair (New.int dA) (New.from fZ ((aT.trans aQ).trans cE)))⟩
    ·refine trM aA (x02 _ [.int .i64 aB,.slice aD aC.length aF] (aB,aC) (T0 aH (Z1.mono ((aT.trans aQ).trans cE) aG)) p1 eV [.int .i64 bD,.int .i64 bE,.slice bO bF.length bP] (bD,bE,bF) (l0 bQ bR aS)) ?_
     rintro iO aA jJ iP ⟨eT,rfl,aO⟩
     obtain⟨gT,gU⟩:=iO
     dsimp only at aA aO
     have iQ:Sub fU iP:=aO.sub
     have dC:=aO.r
     obtain⟨cG,bS,dY,bT,cH,rfl,rfl,bU,bV⟩:=L1 dC
     obtain⟨rfl,dZ⟩:=Sl.len bV
     try dsimp only at aA
     have gA:=New.sndI (aO)
     obtain rfl:=oJ aA
     exact⟨([.int .i64 cG,.slice bS cH.length bT]),rfl,(New.pair (New.int bU) (New.from gA ((aT.trans aQ).trans cE)))⟩
   ·refine ifB aA (λgB aA=>?_) λgB aA=>?_
    ·refine trM aA (Q8 _ [.int .i64 aB,.slice aD aC.length aF] (aB,aC) (T0 aH (Z1.mono (aT.trans aQ) aG))) ?_
     rintro jK aA jL iS ⟨gV,rfl,dD⟩
     have iT:Sub k6 iS:=dD.sub
     have gC:=dD.r
     obtain⟨eA,dE,gD,dF,eC,rfl,rfl,dG,dH⟩:=L1 gC
     obtain⟨rfl,gE⟩:=Sl.len dH
     try dsimp only at aA
     have gF:=New.sndI (dD)
     obtain rfl:=oJ aA
     exact⟨([.int .i64 eA,.slice dE eC.length dF]),rfl,(New.pair (New.int dG) (New.from gF (aT.trans aQ)))⟩
    ·refine trM aA (x02 _ [.int .i64 aB,.slice aD aC.length aF] (aB,aC) (T0 aH (Z1.mono (aT.trans aQ) aG)) p1 eV [.int .i64 0,.int .i64 0,.slice none 0 0] (0,0,([]:K0)) (l0 (by decide) (by decide) (c09 H1 k6))) ?_
     rintro iU aA jM iV ⟨eU,rfl,aP⟩
     obtain⟨gW,gX⟩:=iU
     dsimp only at aA aP
     have iW:Sub k6 iV:=aP.sub
     have dI:=aP.r
     obtain⟨cI,bW,eD,bX,cJ,rfl,rfl,bY,bZ⟩:=L1 dI
     obtain⟨rfl,eE⟩:=Sl.len bZ
     try dsimp only at aA
     have gG:=New.sndI (aP)
     obtain rfl:=oJ aA
     exact⟨([.int .i64 cI,.slice bW cJ.length bX]),rfl,(New.pair (New.int bY) (New.from gG (aT.trans aQ)))⟩
end Go.Proofs.YtkjhghloldgioaaGreat
