/- Texts of the claim, joined: The walks of batch g2 and others. -/
import Derived.Test.YtkjhghloldgioaaGreatPart18
import Derived.Test.YtkjhghloldgioaaGreatChecked
import Derived.Test.YtkjhghloldgioaaGreatH35
import Derived.Test.YtkjhghloldgioaaGreatPart24
import Derived.Test.YtkjhghloldgioaaGreatSE
import Derived.Test.YtkjhghloldgioaaGreatPart21
import Derived.Test.YtkjhghloldgioaaGreatH40
import Derived.Test.YtkjhghloldgioaaGreatH41
import Derived.Test.YtkjhghloldgioaaGreatPart17
import Derived.Test.YtkjhghloldgioaaGreatH36
namespace Go.Proofs.YtkjhghloldgioaaGreat
open Go.H
set_option linter.unusedVariables false
set_option linter.unusedSimpArgs false
set_option maxRecDepth 10000
theorem B6(h:Hp)(aB:List Value)(p0:l0)(aS:I0.R h aB p0)(r:l0)(aC:N4 p0=some r):
  Tr Tryz.prog 137 #[.agg aB.toArray] h λv h'=>∃(g0:Nat) (n0 c0:Nat),v = .agg ([.int .i64 r.1,.int .i64 r.2.1,.slice (some ⟨g0,0,none⟩) n0 c0]:List Value).toArray/\New I0 h h' [.int .i64 r.1,.int .i64 r.2.1,.slice (some ⟨g0,0,none⟩) n0 c0] r:=by
 obtain⟨aM,aN,aD,aQ,aF,aJ,rfl,rfl,aK,aL,aA⟩:=B0 aS
 obtain⟨rfl,aR⟩:=Sl.len aA
 unfold N4 at aC
 dsimp only at aC
 refine D2 (args:=[.agg #[.int .i64 aM,.int .i64 aN,.slice aD aJ.length aF]]) (fn:=Tryz.f137) rfl ?_
 refine Or.inr (Or.inr (Or.inl (aI (aI (by kernel_rfl) (by kernel_rfl)) ?_)))
 refine Or.inr ?_
 refine Or.inr ?_
 refine Or.inr ?_
 refine Or.inr ?_
 refine Or.inl (eX 0 (aI (aI rfl rfl) ?_))
 refine aI trivial (aI (by first|exact trivial|exact rfl) ?_)
 obtain⟨aO,aT,aP⟩:=Sl.rows (r:=Q0.toRp) aA
 refine eX aO (aI aT ?_)
 obtain⟨q2,aU,aC⟩:=j0 aC
 refine aI (H1 aU (by first|rw[F2.length (show F2 (Q0.R h) ([]:List (List Value)) ([]:H0) from trivial),F2.length aP]|exact congrArg (·+1) (F2.length (show F2 (Q0.R h) ([]:List (List Value)) ([]:H0) from trivial)))) ?_
 refine aI trivial (aI (by first|exact trivial|exact rfl) ?_)
 refine aI trivial (aI (by first|exact trivial|exact rfl) ?_)
 refine aI trivial (aI (by first|exact trivial|exact rfl) ?_)
 intro v3 k4 f5
 obtain⟨aV,aX,rfl,aY,aZ,bA⟩:=K0.outS (r:=Q0.toRp) f5 (F2.append (show F2 (Q0.R h) ([]:List (List Value)) ([]:H0) from trivial) aP)
 obtain rfl:=oJ aC
 exact⟨aV,((([]:H0)++aJ)).length,aX,rfl,(New.pair (New.int aK) (New.pair (New.int aL) (K0.newPlain (r:=Q0) f5 (F2.append (show F2 (Q0.R h) ([]:List (List Value)) ([]:H0) from trivial) aP) (M07 _))))⟩
theorem q05(h:Hp)(aJ:List Value)(p0:l0)(aY:I0.R h aJ p0)(p1:Int)(bI:J0 p1)(r:Int)(aD:t9 p0 p1=some r):
  Tr Tryz.prog 302 #[.agg aJ.toArray,.int .i64 p1] h λv h'=>v = .int .i64 r/\h'=h:=by
 obtain⟨aM,aN,aK,aQ,aL,aC,rfl,rfl,aR,aS,aB⟩:=B0 aY
 obtain⟨rfl,aT⟩:=Sl.len aB
 unfold t9 at aD
 dsimp only at aD
 refine Tr.forget (D2 (args:=[.agg #[.int .i64 aM,.int .i64 aN,.slice aK aC.length aL],.int .i64 p1]) (fn:=Tryz.f302) rfl ?_)
 obtain⟨X1,aO,aD⟩:=j0 aD
 refine eX { vars:=[5,11],boxes:=[],owns:=[],fuel:=true } (eX (λvs os h'=>∃ u2 u3,vs.tail = [.int .i64 u2,.int .i64 u3]/\os = []/\Sub h h'/\J0 u2/\J0 u3/\D3 aC p1 (Z0 vs) u2 u3=some X1) (eX (λ_ _=>0) (aI (eX C1 ⟨0,0,rfl,rfl,(Sub.refl _),(by decide),(by decide),aO⟩) ?_)))
 rintro _ _ m5 k4 ⟨u2,u3,⟨⟩,⟨⟩,aF,aZ,bJ,aA⟩
 replace aA:D3 aC p1 m5 u2 u3=some X1:=aA
 obtain _|m5:=m5
 ·cases aA
 rw[D3.eq_2]at aA
 refine ifB aA (λbA aA=>?_) λbA aA=>?_
 ·refine ld aA (M0.mono aF aB) λx7 bB bC aA=>?_
  obtain⟨bD,bE,bF,rfl,rfl,aU,aV,aX⟩:=S0 bC
  try dsimp only at aA
  refine ifB aA (λbG aA=>?_) λbG aA=>?_
  ·refine ifB aA (λbH aA=>?_) λbH aA=>?_
   ·exact L1 m5 ⟨(IntKind.i64.wrap ((IntKind.i64.wrap (u2+1))+1)),(IntKind.i64.wrap (u3+1)),rfl,rfl,aF,(D0 _),(D0 _),aA⟩
   ·exact L1 m5 ⟨(IntKind.i64.wrap (u2+1)),(IntKind.i64.wrap (u3+1)),rfl,rfl,aF,(D0 _),(D0 _),aA⟩
  ·refine ifB aA (λaP aA=>?_) λaP aA=>?_
   ·exact L1 m5 ⟨(IntKind.i64.wrap (u2+1)),(IntKind.i64.wrap (u3+1)),rfl,rfl,aF,(D0 _),(D0 _),aA⟩
   ·exact L1 m5 ⟨u2,(IntKind.i64.wrap (u3+1)),rfl,rfl,aF,aZ,(D0 _),aA⟩
 ·obtain rfl:=oJ aA
  try dsimp only[N0,O0]at aD
  obtain rfl:=oJ aD
  exact aI rfl aF
theorem E7(h:Hp)(aD:Option Addr)(aS aF:Nat)(p0:H0)(aT:M0.R h [.slice aD aS aF] p0)(aJ:Option Addr)(aU aK:Nat)(p1:H0)(aV:M0.R h [.slice aJ aU aK] p1)(r:Bool)(aB:Z2 p0 p1=some r):
  Tr Tryz.prog 207 #[.slice aD aS aF,.slice aJ aU aK] h λv h'=>v = .bool r/\h'=h:=by
 obtain⟨rfl,bK⟩:=Sl.len aT
 obtain⟨rfl,bL⟩:=Sl.len aV
 unfold Z2 at aB
 refine Tr.forget (D2 (args:=[.slice aD p0.length aF,.slice aJ p1.length aK]) (fn:=Tryz.f207) rfl ?_)
 refine ifB aB (λbD aB=>?_) λbD aB=>?_
 ·obtain rfl:=oJ aB
  exact aI rfl (Sub.refl _)
 ·obtain⟨X2,aL,aB⟩:=j0 aB
  refine eX { vars:=[13],boxes:=[],owns:=[],fuel:=true } (eX (λvs os h'=>∃ u3,vs.tail = [.int .i64 u3]/\os = []/\Sub h h'/\J0 u3/\J1 p0 p1 (Z0 vs) u3=some X2) (eX (λ_ _=>0) (aI (eX C1 ⟨0,rfl,rfl,(Sub.refl _),(by decide),aL⟩) ?_)))
  rintro _ m5 k4 ⟨u3,⟨⟩,⟨⟩,aC,bM,aA⟩
  replace aA:J1 p0 p1 m5 u3=some X2:=aA
  obtain _|m5:=m5
  ·cases aA
  rw[J1.eq_2]at aA
  refine ifB aA (λbE aA=>?_) λbE aA=>?_
  ·refine Or.inl (aI (aI (by kernel_rfl) (by kernel_rfl)) ?_)
   refine ld aA (M0.mono aC aT) λx7 bF bG aA=>?_
   obtain⟨aM,aN,aO,rfl,rfl,aX,aY,aZ⟩:=S0 bG
   try dsimp only at aA
   refine ld aA (M0.mono aC aV) λx8 bH bI aA=>?_
   obtain⟨aP,aQ,aR,rfl,rfl,bA,bB,bC⟩:=S0 bI
   try dsimp only at aA
   refine eX (!eqE (aM,aN,aO) (aP,aQ,aR)) (aI (L07 _ _ _ rfl _ _ _ _ _ _) ?_)
   refine ifB aA (λbJ aA=>?_) λbJ aA=>?_
   ·obtain rfl:=oJ aA
    try dsimp only[M2,N2]at aB
    obtain rfl:=oJ aB
    exact aI rfl aC
   ·exact L1 m5 ⟨(IntKind.i64.wrap (u3+1)),rfl,rfl,aC,(D0 _),aA⟩
  ·obtain rfl:=oJ aA
   try dsimp only[N0,O0]at aB
   obtain rfl:=oJ aB
   exact aI rfl aC
theorem v03(h:Hp)(aC:List Value)(p0:l0)(bC:I0.R h aC p0)(aD:List Value)(p1:l0)(bD:I0.R h aD p1)(r:Bool)(aF:V7 p0 p1=some r):
  Tr Tryz.prog 97 #[.agg aC.toArray,.agg aD.toArray] h λv h'=>v = .bool r/\h'=h:=by
 obtain⟨aN,aO,aJ,aT,aK,aP,rfl,rfl,aU,aV,aA⟩:=B0 bC
 obtain⟨rfl,aX⟩:=Sl.len aA
 obtain⟨aQ,aR,aL,aY,aM,aS,rfl,rfl,aZ,bA,aB⟩:=B0 bD
 obtain⟨rfl,bB⟩:=Sl.len aB
 unfold V7 at aF
 dsimp only at aF
 refine Tr.forget (D2 (args:=[.agg #[.int .i64 aN,.int .i64 aO,.slice aJ aP.length aK],.agg #[.int .i64 aQ,.int .i64 aR,.slice aL aS.length aM]]) (fn:=Tryz.f97) rfl ?_)
 refine trG aF (λq=>E7 _ _ _ _ _ aA _ _ _ _ aB) λx1 aF=>?_
 obtain rfl:=oJ aF
 exact aI rfl (Sub.refl _)
theorem M02(h:Hp)(aR:List Value)(p0:l0)(cS:I0.R h aR p0)(p1:Int)(dF:J0 p1)(r:(List Bool))(aM:H7 p0 p1=some r):
  Tr Tryz.prog 301 #[.agg aR.toArray,.int .i64 p1] h λv h'=>∃(a0:Option Addr) (n0 c0:Nat),v = .slice a0 n0 c0/\(Wp.slice Wp.bool).R h' [.slice a0 n0 c0] r/\Sub h h':=by
 obtain⟨aY,aJ,aS,cE,aT,aK,rfl,rfl,cF,cI,aN⟩:=B0 cS
 obtain⟨rfl,cJ⟩:=Sl.len aN
 unfold H7 at aM
 dsimp only at aM
 refine D2 (args:=[.agg #[.int .i64 aY,.int .i64 aJ,.slice aS aK.length aT],.int .i64 p1]) (fn:=Tryz.f301) rfl ?_
 obtain⟨q1,cT,aM⟩:=j0 aM
 refine aI (Q1 cT) ?_
 obtain⟨x2,cU,aM⟩:=j0 aM
 obtain⟨cV,cX,cY,cZ⟩:=N3 (F2.rep (p:=Wp.bool.R h) (a:=[.bool false]) (b:=false) rfl (aJ.toNat)) cU
 refine aI cV ?_
 obtain rfl:=cZ
 refine eX _ (aI cY ?_)
 obtain⟨X3,aZ,aM⟩:=j0 aM
 refine eX { vars:=[6],boxes:=[],owns:=[0],fuel:=true,kept:=[0] } (eX (λvs os h'=>∃ u4 aV u5,vs.tail = [.bool u4]/\os = [aV]/\Sub h h'/\F2 (Wp.bool.R h') aV u5/\K4 aK (Z0 vs) u4 u5=some X3) (eX (λ_ _=>0) (aI (eX C1 ⟨true,((List.replicate aJ.toNat ([.bool false]:List Value)).set p1.toNat [.bool true]),((List.replicate aJ.toNat (false:Bool)).set p1.toNat true),rfl,rfl,(Sub.refl _),(F2.set (p:=Wp.bool.R h) (a:=[.bool true]) (b:=true) rfl p1.toNat (F2.rep (p:=Wp.bool.R h) (a:=[.bool false]) (b:=false) rfl (aJ.toNat))),aZ⟩) ?_)))
 rintro _ aV m7 k6 ⟨u4,dA,u5,⟨⟩,⟨⟩,bA,cK,aF⟩
 replace aF:K4 aK m7 u4 u5=some X3:=aF
 obtain _|m7:=m7
 ·cases aF
 rw[K4.eq_2]at aF
 refine ifB aF (λdB aF=>?_) λdB aF=>?_
 ·obtain⟨X9,bB,aF⟩:=j0 aF
  refine eX { vars:=[6,19],boxes:=[],owns:=[0],fuel:=true,kept:=[0] } (eX (λvs os h'=>∃ aQ aO aD aP,vs.tail = [.bool aQ,.int .i64 aO]/\os = [aD]/\Sub k6 h'/\J0 aO/\F2 (Wp.bool.R h') aD aP/\E3 aK (Z0 vs) aQ aO aP=some X9) (eX (λ_ _=>0) (aI (eX C1 ⟨false,0,aV,u5,rfl,rfl,(Sub.refl _),(by decide),cK,bB⟩) ?_)))
  rintro _ _ aD aU bC ⟨aQ,aO,cL,aP,⟨⟩,⟨⟩,aX,dC,aB,aA⟩
  replace aA:E3 aK aU aQ aO aP=some X9:=aA
  obtain _|aU:=aU
  ·cases aA
  rw[E3.eq_2]at aA
  refine ifB aA (λbD aA=>?_) λbD aA=>?_
  ·refine ld aA (M0.mono (bA.trans aX) aN) λdG cM bE aA=>?_
   obtain⟨aC,cN,aL,rfl,rfl,bF,bG,bH⟩:=S0 bE
   try dsimp only at aA
   refine Or.inl (aI (aI (by kernel_rfl) (by kernel_rfl)) ?_)
   obtain⟨dH,bI,aA⟩:=j0 aA
   obtain⟨bJ,cO,bK,bL⟩:=N3 aB bI
   refine aI bJ ?_
   obtain rfl:=bL
   refine eX _ (aI bK ?_)
   obtain⟨dI,bM,aA⟩:=j0 aA
   obtain⟨bN,cP,bO,bP⟩:=N3 aB bM
   refine aI bN ?_
   obtain rfl:=bP
   refine eX _ (aI bO ?_)
   refine ifB aA (λbQ aA=>?_) λbQ aA=>?_
   ·obtain⟨dJ,bR,aA⟩:=j0 aA
    obtain⟨bS,cQ,bT,bU⟩:=N3 aB bR
    refine aI bS ?_
    obtain rfl:=bU
    refine eX _ (aI bT ?_)
    obtain⟨dK,bV,aA⟩:=j0 aA
    obtain⟨bW,cR,bX,bY⟩:=N3 (F2.set (p:=Wp.bool.R bC) (a:=[.bool true]) (b:=true) rfl aC.toNat aB) bV
    refine aI bW ?_
    obtain rfl:=bY
    refine eX _ (aI bX ?_)
    exact L1 aU ⟨true,(IntKind.i64.wrap (aO+1)),((aD.set aC.toNat [.bool true]).set aL.toNat [.bool true]),((aP.set aC.toNat true).set aL.toNat true),rfl,rfl,aX,(D0 _),(F2.set (p:=Wp.bool.R bC) (a:=[.bool true]) (b:=true) rfl aL.toNat (F2.set (p:=Wp.bool.R bC) (a:=[.bool true]) (b:=true) rfl aC.toNat aB)),aA⟩
   ·exact L1 aU ⟨aQ,(IntKind.i64.wrap (aO+1)),aD,aP,rfl,rfl,aX,(D0 _),aB,aA⟩
  ·obtain rfl:=oJ aA
   try dsimp only[N0,O0]at aF
   exact L1 m7 ⟨aQ,aD,aP,rfl,rfl,(bA.trans aX),aB,aF⟩
 ·obtain rfl:=oJ aF
  try dsimp only[N0,O0]at aM
  intro dL dM dD
  obtain⟨bZ,cA,rfl,cC,cD,dE⟩:=K0.out (r:=Wp.bool.toRp) dD cK
  obtain rfl:=oJ aM
  exact⟨bZ,u5.length,cA,rfl,cC,(bA.trans cD)⟩
theorem o06(h:Hp)(p0:Int)(aU:J0 p0)(r:C0)(aB:f00 p0=some r):
  Tr Tryz.prog 309 #[.int .i64 p0] h λv h'=>∃(a0:Option Addr) (n0 c0:Nat),v = .slice a0 n0 c0/\j1.R h' [.slice a0 n0 c0] r/\Sub h h':=by
 unfold f00 at aB
 refine D2 (args:=[.int .i64 p0]) (fn:=Tryz.f309) rfl ?_
 obtain⟨X1,aF,aB⟩:=j0 aB
 refine eX { vars:=[4],boxes:=[],owns:=[0],fuel:=true } (eX (λvs os h'=>∃ u2 aC u3,vs.tail = [.int .i64 u2]/\os = [aC]/\Sub h h'/\J0 u2/\F2 (Wp.int.R h') aC u3/\w6 p0 (Z0 vs) u2 u3=some X1) (eX (λ_ _=>0) (aI (eX C1 ⟨1,[],([]:C0),rfl,rfl,(Sub.refl _),(by decide),(show F2 (Wp.int.R h) ([]:List (List Value)) ([]:C0) from trivial),aF⟩) ?_)))
 rintro _ aC m5 k4 ⟨u2,aP,u3,⟨⟩,⟨⟩,aN,aO,aD,aA⟩
 replace aA:w6 p0 m5 u2 u3=some X1:=aA
 obtain _|m5:=m5
 ·cases aA
 rw[w6.eq_2]at aA
 refine ifB aA (λaQ aA=>?_) λaQ aA=>?_
 ·obtain⟨q7,aR,aA⟩:=j0 aA
  refine aI (H1 aR (by first|rw[F2.length aD,F2.length (show F2 (Wp.int.R k4) ([[.int .i64 u2],[.int .i64 (IntKind.i64.wrap (0-u2))]]:List (List Value)) [u2,(IntKind.i64.wrap (0-u2))] from⟨⟨rfl,aO⟩,⟨⟨rfl,(D0 _)⟩,trivial⟩⟩)]|exact congrArg (·+2) (F2.length aD))) ?_
  exact L1 m5 ⟨(IntKind.i64.wrap (u2+1)),(aC++([[.int .i64 u2],[.int .i64 (IntKind.i64.wrap (0-u2))]]:List (List Value))),(u3 ++ [u2,(IntKind.i64.wrap (0-u2))]),rfl,rfl,aN,(D0 _),(F2.append aD (show F2 (Wp.int.R k4) ([[.int .i64 u2],[.int .i64 (IntKind.i64.wrap (0-u2))]]:List (List Value)) [u2,(IntKind.i64.wrap (0-u2))] from⟨⟨rfl,aO⟩,⟨⟨rfl,(D0 _)⟩,trivial⟩⟩)),aA⟩
 ·obtain rfl:=oJ aA
  try dsimp only[N0,O0]at aB
  intro v8 k9 aS
  obtain⟨aJ,aK,rfl,aL,aM,aT⟩:=K0.out (r:=Wp.int.toRp) aS aD
  obtain rfl:=oJ aB
  exact⟨aJ,u3.length,aK,rfl,aL,(aN.trans aM)⟩
theorem G00(h:Hp)(aB:Option Addr)(aF aC:Nat)(p0:H0)(aJ:M0.R h [.slice aB aF aC] p0)(r:H0)(aA:M7 p0=some r):
  Tr Tryz.prog 251 #[.slice aB aF aC] h λv h'=>∃(a0:Option Addr) (n0 c0:Nat),v = .slice a0 n0 c0/\New M0 h h' [.slice a0 n0 c0] r:=by
 obtain⟨rfl,aX⟩:=Sl.len aJ
 unfold M7 at aA
 refine D2 (args:=[.slice aB p0.length aC]) (fn:=Tryz.f251) rfl ?_
 obtain⟨aD,aP,aK⟩:=Sl.rows (r:=Q0.toRp) aJ
 refine eX aD (aI aP ?_)
 obtain⟨q2,aQ,aA⟩:=j0 aA
 refine aI (H1 aQ (by first|rw[F2.length (show F2 (Q0.R h) ([]:List (List Value)) ([]:H0) from trivial),F2.length aK]|exact congrArg (·+1) (F2.length (show F2 (Q0.R h) ([]:List (List Value)) ([]:H0) from trivial)))) ?_
 refine Or.inl ?_
 intro v3 k4 f5
 obtain⟨q6,aR,aA⟩:=j0 aA
 refine Tr.mono (R08 _ f5 (F2.append (show F2 (Q0.R h) ([]:List (List Value)) ([]:H0) from trivial) aK) (Q1 aR)) ?_
 rintro _ aY ⟨rfl,aS,aL,aM⟩
 obtain⟨aZ,bA,rfl,bB,bC,bD⟩:=K0.out (r:=Q0.toRp) aL aM
 refine Tr.mono (S08 _ aL aM) ?_
 rintro _ bE ⟨aT,aN,aO⟩
 obtain⟨aU,aV,rfl,bF,bG,bH⟩:=K0.out (r:=Q0.toRp) aN aO
 obtain rfl:=oJ aA
 exact⟨aU,((c00 eqE (l02 c7 (([]:H0)++p0)))).length,aV,rfl,(K0.newPlain (r:=Q0) aN aO (M07 _))⟩
theorem i05(h:Hp)(bD:List Value)(p0:l0)(eC:I0.R h bD p0)(bR:Option Addr)(dL bS:Nat)(p1:C0)(dM:j1.R h [.slice bR dL bS] p1)(r:l0)(aC:y00 p0 p1=some r):
  Tr Tryz.prog 291 #[.agg bD.toArray,.slice bR dL bS] h λv h'=>∃(dN:List Value),v = .agg dN.toArray/\New I0 h h' dN r:=by
 obtain⟨bE,aD,bF,dO,bG,aV,rfl,rfl,bH,dP,aQ⟩:=B0 eC
 obtain⟨rfl,dQ⟩:=Sl.len aQ
 obtain⟨rfl,eD⟩:=Sl.len dM
 unfold y00 at aC
 dsimp only at aC
 refine D2 (args:=[.agg #[.int .i64 bE,.int .i64 aD,.slice bF aV.length bG],.slice bR p1.length bS]) (fn:=Tryz.f291) rfl ?_
 obtain⟨q1,eE,aC⟩:=j0 aC
 refine aI (Q1 eE) ?_
 obtain⟨m2,eF,aC⟩:=j0 aC
 obtain rfl:(List.replicate aD.toNat ([.int .i64 0]:List Value)).length=m2:=(F2.length (F2.rep (p:=Wp.int.R h) (a:=[.int .i64 0]) (b:=0) ⟨rfl,(by decide)⟩ (aD.toNat))).trans (oJ eF)
 obtain⟨q3,fA,aC⟩:=j0 aC
 obtain⟨X4,bT,aC⟩:=j0 aC
 refine eX { vars:=[17],boxes:=[],owns:=[0],fuel:=true,kept:=[0] } (eX (λvs os h'=>∃ u5 bI u6,vs.tail = [.int .i64 u5]/\os = [bI]/\Sub h h'/\J0 u5/\F2 (Wp.int.R h') bI u6/\O7 ((List.replicate aD.toNat ([.int .i64 0]:List Value))).length (Z0 vs) u5 u6=some X4) (eX (λ_ _=>0) (aI (eX C1 ⟨0,(List.replicate aD.toNat ([.int .i64 0]:List Value)),(List.replicate aD.toNat (0:Int)),rfl,rfl,(Sub.refl _),(by decide),(F2.rep (p:=Wp.int.R h) (a:=[.int .i64 0]) (b:=0) ⟨rfl,(by decide)⟩ (aD.toNat)),bT⟩) ?_)))
 rintro _ bI m8 k7 ⟨u5,eG,u6,⟨⟩,⟨⟩,bP,fB,bU,aA⟩
 replace aA:O7 ((List.replicate aD.toNat ([.int .i64 0]:List Value))).length m8 u5 u6=some X4:=aA
 obtain _|m8:=m8
 ·cases aA
 rw[O7.eq_2]at aA
 refine ifB aA (λeH aA=>?_) λeH aA=>?_
 ·obtain⟨fC,bV,aA⟩:=j0 aA
  obtain⟨bW,dR,bX,bY⟩:=N3 bU bV
  refine aI bW ?_
  obtain⟨rfl,eI⟩:=bY
  refine eX _ (aI bX ?_)
  exact L1 m8 ⟨(IntKind.i64.wrap (u5+1)),(bI.set u5.toNat [.int .i64 (-1)]),(u6.set u5.toNat (-1)),rfl,rfl,bP,(D0 _),(F2.set (p:=Wp.int.R k7) (a:=[.int .i64 (-1)]) (b:=(-1)) ⟨rfl,(by decide)⟩ u5.toNat bU),aA⟩
 ·obtain rfl:=oJ aA
  try dsimp only[N0,O0]at aC
  obtain⟨X11,bJ,aC⟩:=j0 aC
  refine eX { vars:=[26],boxes:=[],owns:=[0],fuel:=true,kept:=[0] } (eX (λvs os h'=>∃ aN aO aX,vs.tail = [.int .i64 aN]/\os = [aO]/\Sub k7 h'/\J0 aN/\F2 (Wp.int.R h') aO aX/\N7 p1 (Z0 vs) aN aX=some X11) (eX (λ_ _=>0) (aI (eX C1 ⟨0,bI,u6,rfl,rfl,(Sub.refl _),(by decide),bU,bJ⟩) ?_)))
  rintro _ aO bQ bZ ⟨aN,dS,aX,⟨⟩,⟨⟩,aP,cA,aJ,aA⟩
  replace aA:N7 p1 bQ aN aX=some X11:=aA
  obtain _|bQ:=bQ
  ·cases aA
  rw[N7.eq_2]at aA
  refine ifB aA (λcC aA=>?_) λcC aA=>?_
  ·refine ldI aA (j1.mono (bP.trans aP) dM) λcD eJ aA=>?_
   obtain⟨fD,cE,aA⟩:=j0 aA
   obtain⟨cF,dT,cI,cJ⟩:=N3 aJ cE
   refine aI cF ?_
   obtain⟨rfl,eK⟩:=cJ
   refine eX _ (aI cI ?_)
   exact L1 bQ ⟨(IntKind.i64.wrap (aN+1)),(aO.set cD.toNat [.int .i64 aN]),(aX.set cD.toNat aN),rfl,rfl,aP,(D0 _),(F2.set (p:=Wp.int.R bZ) (a:=[.int .i64 aN]) (b:=aN) ⟨rfl,cA⟩ cD.toNat aJ),aA⟩
  ·obtain rfl:=oJ aA
   try dsimp only[N0,O0]at aC
   obtain⟨X19,bK,aC⟩:=j0 aC
   refine eX { vars:=[44],boxes:=[2],owns:=[1],fuel:=true,nilsB:=[(2,2,166,3,24)] } (eX (λvs os h'=>∃ aY aR aS aK bC,vs.tail = [.int .i64 aY,.int .i64 aR,.int .i64 aS]/\os = [aK]/\Sub bZ h'/\J0 aY/\J0 aR/\J0 aS/\F2 (Q0.R h') aK bC/\M6 aV aX (Z0 vs) aY aR aS bC=some X19) (eX (λ_ _=>0) (aI (eX C1 ⟨0,bE,((p1.length:Nat):Int),[],([]:H0),rfl,rfl,(Sub.refl _),(by decide),bH,(L08 eD),(show F2 (Q0.R bZ) [] [] from trivial),bK⟩) ?_)))
   rintro _ _ _ aK bL cK ⟨aY,aR,aS,dU,bC,⟨⟩,⟨⟩,aF,eM,aZ,bA,aL,aA⟩
   replace aA:M6 aV aX bL aY aR aS bC=some X19:=aA
   obtain _|bL:=bL
   ·cases aA
   rw[M6.eq_2]at aA
   refine ifB aA (λcL aA=>?_) λcL aA=>?_
   ·refine ld aA (M0.mono ((bP.trans aP).trans aF) aQ) λfE dV cM aA=>?_
    obtain⟨dW,aB,dX,rfl,rfl,cN,aM,cO⟩:=S0 cM
    try dsimp only at aA
    obtain⟨fF,cP,aA⟩:=j0 aA
    obtain⟨cQ,dY,cR,cS⟩:=N3 (F2.up (r:=Wp.int.toRp) aF aJ) cP
    refine aI cQ ?_
    obtain⟨rfl,eN⟩:=cS
    refine eX _ (aI cR ?_)
    obtain⟨fH,cT,aA⟩:=j0 aA
    obtain⟨dZ,bM,cU⟩:=j02 (F2.up (r:=Wp.int.toRp) aF aJ) cT (b0a cK)
    refine aI (λq=>(bM q).1) ?_
    obtain⟨rfl,eO⟩:=cU
    refine eX _ (aI (λq=>(bM q).2) ?_)
    refine ifB aA (λcV aA=>?_) λcV aA=>?_
    ·refine Or.inr (Or.inr (Or.inl (aI (aI (by kernel_rfl) (by kernel_rfl)) ?_)))
     obtain⟨aT,cX,aA⟩:=j0 aA
     obtain⟨cY,eA,cZ,dA⟩:=N3 (F2.up (r:=Wp.int.toRp) aF aJ) cX
     obtain⟨rfl,bN⟩:=dA
     refine Or.inl ?_
     apply eX
     refine aI ?_ ?_
     ·intro fI fJ
      exact aI cY (aI rfl (aI rfl rfl))
     refine Or.inl (eX (.val (.int .i64 aT)) (aI ?_ ?_))
     ·intro fK fL
      exact eX _ (aI cZ (aI rfl (aI rfl rfl)))
     obtain⟨aU,dB,aA⟩:=j0 aA
     obtain⟨dC,eB,dD,dE⟩:=N3 (F2.up (r:=Wp.int.toRp) aF aJ) dB
     obtain⟨rfl,bO⟩:=dE
     refine Or.inl ?_
     apply eX
     refine aI ?_ ?_
     ·intro fM fN
      exact aI dC (aI rfl (aI rfl rfl))
     refine Or.inl (eX (.val (.int .i64 aU)) (aI ?_ ?_))
     ·intro fO fP
      exact eX _ (aI dD (aI rfl (aI rfl rfl)))
     refine Or.inl (eX (.agg [.val (.int .i64 aT),.val (.int .i64 aB),.val (.int .i64 aU)]) (aI ?_ ?_))
     ·intro fQ fR
      exact aI rfl (aI rfl rfl)
     refine Or.inr ?_
     refine Or.inr ?_
     refine Or.inr ?_
     refine Or.inl (eX 0 (aI (aI rfl rfl) ?_))
     refine aI trivial (aI (by first|exact trivial|exact rfl) ?_)
     obtain⟨fS,dF,aA⟩:=j0 aA
     refine aI (H1 dF (by first|rw[F2.length aL,F2.length (show F2 (Q0.R cK) ([[.int .i64 aT,.int .i64 aB,.int .i64 aU]]:List (List Value)) [(aT,aB,aU)] from⟨(U0 bN aM bO),trivial⟩)]|exact congrArg (·+1) (F2.length aL))) ?_
     refine aI trivial (aI (by first|exact trivial|exact rfl) ?_)
     refine aI trivial (aI (by first|exact trivial|exact rfl) ?_)
     exact L1 bL ⟨(IntKind.i64.wrap (aY+1)),aR,aS,(aK++([[.int .i64 aT,.int .i64 aB,.int .i64 aU]]:List (List Value))),(bC ++ [(aT,aB,aU)]),rfl,rfl,aF,(D0 _),aZ,bA,(F2.append aL (show F2 (Q0.R cK) ([[.int .i64 aT,.int .i64 aB,.int .i64 aU]]:List (List Value)) [(aT,aB,aU)] from⟨(U0 bN aM bO),trivial⟩)),aA⟩
    ·exact L1 bL ⟨(IntKind.i64.wrap (aY+1)),aR,aS,aK,bC,rfl,rfl,aF,(D0 _),aZ,bA,aL,aA⟩
   ·obtain rfl:=oJ aA
    try dsimp only[N0,O0]at aC
    refine Or.inl ?_
    intro fT eP eQ
    obtain⟨eR,eS,rfl,dG,dH,eT⟩:=K0.out (r:=Q0.toRp) eQ aL
    refine trM aC (G00 _ _ _ _ _ dG) ?_
    rintro eU aC fU eV ⟨dI,eW,dJ,rfl,bB⟩
    have eY:Sub eP eV:=bB.sub
    have dK:=bB.r
    obtain⟨rfl,eZ⟩:=Sl.len dK
    obtain rfl:=oJ aC
    exact⟨([.int .i64 aR,.int .i64 aS,.slice dI eU.length dJ]),rfl,(New.pair (New.int aZ) (New.pair (New.int bA) (New.from bB (((bP.trans aP).trans aF).trans dH))))⟩
theorem f04(h:Hp)(bG:List Value)(p0:l0)(eH:I0.R h bG p0)(p1:Int)(eI:J0 p1)(r:C0×M1)(aQ:w8 p0 p1=some r):
  Tr Tryz.prog 236 #[.agg bG.toArray,.int .i64 p1] h λv h'=>∃(a0:Option Addr) (n0 c0:Nat) (a1:Option Addr) (n1 c1:Nat),v = .tuple #[.slice a0 n0 c0,.slice a1 n1 c1]/\j1.R h' [.slice a0 n0 c0] r.1/\D5.R h' [.slice a1 n1 c1] r.2/\Sub h h':=by
 obtain⟨aL,aC,bH,dS,bI,aM,rfl,rfl,aU,bJ,aV⟩:=B0 eH
 obtain⟨rfl,dT⟩:=Sl.len aV
 unfold w8 at aQ
 dsimp only at aQ
 refine D2 (args:=[.agg #[.int .i64 aL,.int .i64 aC,.slice bH aM.length bI],.int .i64 p1]) (fn:=Tryz.f236) rfl ?_
 obtain⟨q1,eJ,aQ⟩:=j0 aQ
 refine aI (Q1 eJ) ?_
 obtain⟨x2,eK,aQ⟩:=j0 aQ
 obtain⟨eM,eN,eO,eP⟩:=N3 (F2.rep (p:=Wp.opt.R h) (a:=[.slice none 0 0]) (b:=none) (u0c h) (aC.toNat)) eK
 refine aI eM ?_
 obtain⟨gD,gE,gF,rfl,gG,eQ⟩:=eP
 obtain⟨rfl,gH⟩:=Sl.len eQ
 intro v3 k4 f5
 obtain⟨dU,dV,rfl,eR,cE,gI⟩:=K0.outS (r:=Wp.int.toRp) f5 (show F2 (Wp.int.R h) ([]:List (List Value)) ([]:C0) from trivial)
 refine eX _ (aI eO ?_)
 obtain⟨X7,cF,aQ⟩:=j0 aQ
 refine eX { vars:=[8],boxes:=[],owns:=[0,2],fuel:=true,kept:=[0] } (eX (λvs os h'=>∃ u8 cA u9 aN bF,vs.tail = [.int .i64 u8]/\os = [cA,aN]/\Sub k4 h'/\J0 u8/\F2 (Wp.opt.R h') cA u9/\F2 (Wp.int.R h') aN bF/\n5 aL aC aM (Z0 vs) u8 u9 bF=some X7) (eX (λ_ _=>0) (aI (eX C1 ⟨0,((List.replicate aC.toNat ([.slice none 0 0]:List Value)).set p1.toNat [.slice (some ⟨dU,0,none⟩) (([]:C0)).length dV]),((List.replicate aC.toNat (none:Option C0)).set p1.toNat (some ([]:C0))),([[.int .i64 p1]]:List (List Value)),[p1],rfl,rfl,(Sub.refl _),(by decide),(F2.set (p:=Wp.opt.R k4) (a:=[.slice (some ⟨dU,0,none⟩) (([]:C0)).length dV]) (b:=some ([]:C0)) (v0c eR) p1.toNat (F2.up (r:=Wp.opt.toRp) cE (F2.rep (p:=Wp.opt.R h) (a:=[.slice none 0 0]) (b:=none) (u0c h) (aC.toNat)))),(show F2 (Wp.int.R k4) ([[.int .i64 p1]]:List (List Value)) [p1] from⟨⟨rfl,eI⟩,trivial⟩),cF⟩) ?_)))
 rintro _ cA aN cC gJ ⟨u8,eS,u9,dW,bF,⟨⟩,⟨⟩,cI,gK,dX,aS,aB⟩
 replace aB:n5 aL aC aM cC u8 u9 bF=some X7:=aB
 obtain _|cC:=cC
 ·cases aB
 rw[n5.eq_2]at aB
 obtain⟨eT,cJ,aB⟩:=j0 aB
 obtain rfl:aN.length=eT:=(F2.length aS).trans (oJ cJ)
 obtain⟨gL,eU,aB⟩:=j0 aB
 refine ifB aB (λcK aB=>?_) λcK aB=>?_
 ·obtain⟨dY,cL,aB⟩:=j0 aB
  obtain⟨cM,dZ,cN,cO⟩:=N3 aS cL
  refine aI cM ?_
  obtain⟨rfl,cP⟩:=cO
  refine eX _ (aI cN ?_)
  refine trM aB (o06 _ _ aU) ?_
  rintro eA aB gM eV ⟨eW,eY,eZ,rfl,bK,aT⟩
  obtain⟨rfl,fA⟩:=Sl.len bK
  obtain⟨X20,bL,aB⟩:=j0 aB
  refine eX { vars:=[36],boxes:=[],owns:=[0,2],fuel:=true,kept:=[0] } (eX (λvs os h'=>∃ aZ aF bA aJ bB,vs.tail = [.int .i64 aZ]/\os = [aF,aJ]/\Sub eV h'/\J0 aZ/\F2 (Wp.opt.R h') aF bA/\F2 (Wp.int.R h') aJ bB/\I4 eA aL aC aM dY (Z0 vs) aZ bA bB=some X20) (eX (λ_ _=>0) (aI (eX C1 ⟨0,cA,u9,aN,bF,rfl,rfl,(Sub.refl _),(by decide),(F2.up (r:=Wp.opt.toRp) aT dX),(F2.up (r:=Wp.int.toRp) aT aS),bL⟩) ?_)))
  rintro _ aF aJ bM eB ⟨aZ,eC,bA,eD,bB,⟨⟩,⟨⟩,aO,fB,aK,aP,aA⟩
  replace aA:I4 eA aL aC aM dY bM aZ bA bB=some X20:=aA
  obtain _|bM:=bM
  ·cases aA
  rw[I4.eq_2]at aA
  refine ifB aA (λcQ aA=>?_) λcQ aA=>?_
  ·refine ldI aA (j1.mono aO bK) λaX bC aA=>?_
   refine trV aA (d04 _ _ _ (f0 aU bJ (M0.mono (((cE.trans cI).trans aT).trans aO) aV)) _ cP _ bC) λaR aA=>?_
   obtain⟨gN,cR,aA⟩:=j0 aA
   have bN:J0 aR:=Q1 cR
   obtain⟨fC,cS,aA⟩:=j0 aA
   obtain⟨eE,bO,cT⟩:=j02 aK cS (r0d eB)
   refine aI (λq=>(bO q).1) ?_
   obtain⟨fD,fE,fF,rfl,cU,cV⟩:=cT
   obtain⟨rfl,fH⟩:=Sl.len cV
   refine eX _ (aI (λq=>(bO q).2) ?_)
   refine eX (fC.isNone) (aI (λ_=>by rw[←cU];exact q0d _ _ _ rfl _ _ _) ?_)
   refine ifB aA (λcX aA=>?_) λcX aA=>?_
   ·obtain⟨gO,cY,aA⟩:=j0 aA
    obtain⟨cZ,eF,dA,dB⟩:=N3 aK cY
    refine aI cZ ?_
    obtain⟨fI,fJ,fK,rfl,fL,bP⟩:=dB
    obtain⟨rfl,fM⟩:=Sl.len bP
    refine eX _ (aI dA ?_)
    obtain⟨cD,bQ,aA⟩:=j0 aA
    refine Tr.mono (M5 _ _ _ _ _ bP _  bQ) ?_
    rintro gP dC ⟨bQ,fN,fO,rfl,bD⟩
    have fP:Sub eB dC:=bD.sub
    have dD:=bD.r
    obtain⟨rfl,fQ⟩:=Sl.len dD
    obtain⟨gQ,dE,aA⟩:=j0 aA
    obtain⟨bR,bS,aY,bT⟩:=New.app bD (Sub.refl _)
    refine eX bR (aI bS (aI (H1 dE (by first|rw[aY,F2.length (show F2 (Wp.int.R dC) ([[.int .i64 aX]]:List (List Value)) [aX] from⟨⟨rfl,bC⟩,trivial⟩)]|(rw[aY];rfl))) ?_))
    intro fR bE happz37
    obtain⟨aD,bU,bV,fS,bW,rfl⟩:=bT _ _ _ _ _ (F3.ofPlain (B01 _) (show F2 (Wp.int.R dC) ([[.int .i64 aX]]:List (List Value)) [aX] from⟨⟨rfl,bC⟩,trivial⟩)) P2.ofPlain happz37
    have bX:=aD.r
    obtain⟨dF,fT⟩:=Sl.len bX
    subst dF
    obtain⟨gR,dG,aA⟩:=j0 aA
    obtain⟨dH,eG,dI,dJ⟩:=N3 (F2.up (r:=Wp.opt.toRp) aD.sub aK) dG
    refine aI dH ?_
    obtain⟨fU,fV,fW,rfl,fX,dK⟩:=dJ
    obtain⟨rfl,fY⟩:=Sl.len dK
    refine eX _ (aI dI ?_)
    obtain⟨gS,dL,aA⟩:=j0 aA
    refine aI (H1 dL (by first|rw[F2.length (F2.up (r:=Wp.int.toRp) aD.sub aP),F2.length (show F2 (Wp.int.R bE) ([[.int .i64 aR]]:List (List Value)) [aR] from⟨⟨rfl,bN⟩,trivial⟩)]|exact congrArg (·+1) (F2.length (F2.up (r:=Wp.int.toRp) aD.sub aP)))) ?_
    exact L1 bM ⟨(IntKind.i64.wrap (aZ+1)),(aF.set aR.toNat [.slice (some ⟨bU,bV,none⟩) (cD ++ [aX]).length bW]),(bA.set aR.toNat (some (cD ++ [aX]))),(aJ++([[.int .i64 aR]]:List (List Value))),(bB ++ [aR]),rfl,rfl,(aO.trans aD.sub),(D0 _),(F2.set (p:=Wp.opt.R bE) (a:=[.slice (some ⟨bU,bV,none⟩) (cD ++ [aX]).length bW]) (b:=some (cD ++ [aX])) (v0c bX) aR.toNat (F2.up (r:=Wp.opt.toRp) aD.sub aK)),(F2.append (F2.up (r:=Wp.int.toRp) aD.sub aP) (show F2 (Wp.int.R bE) ([[.int .i64 aR]]:List (List Value)) [aR] from⟨⟨rfl,bN⟩,trivial⟩)),aA⟩
   ·exact L1 bM ⟨(IntKind.i64.wrap (aZ+1)),aF,bA,aJ,bB,rfl,rfl,aO,(D0 _),aK,aP,aA⟩
  ·obtain rfl:=oJ aA
   try dsimp only[N0,O0]at aB
   exact L1 cC ⟨(IntKind.i64.wrap (u8+1)),aF,bA,aJ,bB,rfl,rfl,((cI.trans aT).trans aO),(D0 _),aK,aP,aB⟩
 ·obtain rfl:=oJ aB
  try dsimp only[N0,O0]at aQ
  intro gT gU fZ
  obtain⟨dM,dN,rfl,dO,bY,gA⟩:=K0.out (r:=Wp.int.toRp) fZ aS
  intro gV gW gB
  obtain⟨dP,dQ,rfl,dR,bZ,gC⟩:=K0.out (r:=j1.toRp) gB (F2.ofOpt (F2.up (r:=Wp.opt.toRp) bY dX))
  obtain rfl:=oJ aQ
  exact⟨dM,bF.length,dN,dP,(List.map (λo:Option C0=>o.getD ([]:C0)) u9).length,dQ,rfl,(j1.mono bZ dO),dR,(((cE.trans cI).trans bY).trans bZ)⟩
theorem F01(h:Hp)(aK:List Value)(p0:l0)(bC:I0.R h aK p0)(r:C0)(aA:Q6 p0=some r):
  Tr Tryz.prog 303 #[.agg aK.toArray] h λv h'=>∃(a0:Option Addr) (n0 c0:Nat),v = .slice a0 n0 c0/\j1.R h' [.slice a0 n0 c0] r/\Sub h h':=by
 obtain⟨aP,aQ,aL,aT,aM,aR,rfl,rfl,aD,aF,aB⟩:=B0 bC
 obtain⟨rfl,aU⟩:=Sl.len aB
 unfold Q6 at aA
 dsimp only at aA
 refine D2 (args:=[.agg #[.int .i64 aP,.int .i64 aQ,.slice aL aR.length aM]]) (fn:=Tryz.f303) rfl ?_
 refine trV aA (C01 _ _ _ (f0 aD aF aB)) λx1 aA=>?_
 refine ifB aA (λbD aA=>?_) λbD aA=>?_
 ·intro v3 k4 f5
  obtain⟨bE,bF,rfl,bG,bH,bK⟩:=K0.out (r:=Wp.int.toRp) f5 (show F2 (Wp.int.R h) ([]:List (List Value)) ([]:C0) from trivial)
  obtain rfl:=oJ aA
  exact⟨bE,(([]:C0)).length,bF,rfl,bG,bH⟩
 ·refine trM aA (f04 _ _ _ (f0 aD aF aB) 0 (by decide)) ?_
  rintro x7 aA v9 k8 ⟨aN,aV,aO,aX,aY,aZ,rfl,aC,aJ,bI⟩
  obtain⟨aS,bJ⟩:=x7
  dsimp only at aA aC aJ
  obtain⟨rfl,bA⟩:=Sl.len aC
  obtain⟨rfl,bB⟩:=Sl.len aJ
  obtain rfl:=oJ aA
  exact⟨aN,aS.length,aO,rfl,aC,bI⟩
theorem G01(h:Hp)(aO:List Value)(p0:l0)(bX:I0.R h aO p0)(r:l0)(aA:R6 p0=some r):
  Tr Tryz.prog 221 #[.agg aO.toArray] h λv h'=>∃(bP:List Value),v = .agg bP.toArray/\New I0 h h' bP r:=by
 obtain⟨bB,bC,aP,bQ,aQ,bD,rfl,rfl,aC,aD,aB⟩:=B0 bX
 obtain⟨rfl,bR⟩:=Sl.len aB
 unfold R6 at aA
 dsimp only at aA
 refine D2 (args:=[.agg #[.int .i64 bB,.int .i64 bC,.slice aP bD.length aQ]]) (fn:=Tryz.f221) rfl ?_
 refine trV aA (C01 _ _ _ (f0 aC aD aB)) λx1 aA=>?_
 refine ifB aA (λbY aA=>?_) λbY aA=>?_
 ·refine trM aA (B6 _ _ _ (f0 aC aD aB)) ?_
  rintro x3 aA v5 k4 ⟨aR,bS,aS,rfl,bA⟩
  have cC:Sub h k4:=bA.sub
  have bT:=bA.r
  obtain⟨bE,bF,bG⟩:=x3
  dsimp only at aA bA bT
  obtain⟨_,_,_,_,_,_,bH,bI,aT,aU,aV⟩:=B0 bT
  cases bH
  cases bI
  obtain⟨rfl,bU⟩:=Sl.len aV
  try dsimp only at aA
  have bZ:=New.sndI (New.sndI (bA))
  obtain rfl:=oJ aA
  exact⟨([.int .i64 bE,.int .i64 bF,.slice (some ⟨aR,0,none⟩) bG.length aS]),rfl,(New.pair (New.int aT) (New.pair (New.int aU) bZ))⟩
 ·refine Or.inr (Or.inr (Or.inl (aI (aI (by kernel_rfl) (by kernel_rfl)) ?_)))
  refine Or.inr ?_
  refine Or.inr ?_
  refine Or.inr ?_
  refine Or.inl (eX 2 (aI (aI rfl rfl) ?_))
  refine trM aA (F01 _ _ _ (f0 aC aD aB)) ?_
  rintro x7 aA v9 k8 ⟨cD,cE,cF,rfl,bV,bJ⟩
  obtain⟨rfl,cI⟩:=Sl.len bV
  refine aI (aI rfl bJ) (aI (by first|exact trivial|exact rfl) ?_)
  refine trM aA (i05 _ _ _ (f0 aC aD (M0.mono bJ aB)) _ _ _ _ bV) ?_
  rintro cJ aA cK cA ⟨bW,rfl,aF⟩
  have bK:Sub k8 cA:=aF.sub
  have bL:=aF.r
  obtain⟨aX,aY,aJ,bM,aK,aZ,rfl,rfl,aL,aM,aN⟩:=B0 bL
  obtain⟨rfl,bN⟩:=Sl.len aN
  try dsimp only at aA
  have bO:=New.sndI (New.sndI (aF))
  refine aI (aI rfl bK) (aI (by first|exact trivial|exact rfl) ?_)
  refine aI trivial (aI (by first|exact trivial|exact rfl) ?_)
  obtain rfl:=oJ aA
  exact⟨([.int .i64 aX,.int .i64 aY,.slice aJ aZ.length aK]),rfl,(New.pair (New.int aL) (New.pair (New.int aM) (New.from bO bJ)))⟩
theorem P04(h:Hp)(cE:List Value)(p0:l0)(gE:I0.R h cE p0)(r:l0×C0)(aC:S8 p0=some r):
  Tr Tryz.prog 220 #[.agg cE.toArray] h λv h'=>∃(fN:List Value) (a1:Option Addr) (n1 c1:Nat),v = .tuple #[.agg fN.toArray,.slice a1 n1 c1]/\New I0 h h' fN r.1/\j1.R h' [.slice a1 n1 c1] r.2:=by
 obtain⟨dV,bO,cF,fO,cI,dW,rfl,rfl,bB,bC,aL⟩:=B0 gE
 obtain⟨rfl,fP⟩:=Sl.len aL
 unfold S8 at aC
 dsimp only at aC
 refine D2 (args:=[.agg #[.int .i64 dV,.int .i64 bO,.slice cF dW.length cI]]) (fn:=Tryz.f220) rfl ?_
 refine trM aC (B6 _ _ _ (f0 bB bC aL)) ?_
 rintro x1 aC v3 k2 ⟨bD,fQ,bE,rfl,dS⟩
 have dX:Sub h k2:=dS.sub
 have fR:=dS.r
 obtain⟨cJ,cK,bP⟩:=x1
 dsimp only at aC dS fR
 obtain⟨_,_,_,_,_,_,dY,dZ,bF,bG,cL⟩:=B0 fR
 cases dY
 cases dZ
 obtain⟨rfl,fS⟩:=Sl.len cL
 try dsimp only at aC
 have fT:=New.sndI (New.sndI (dS))
 refine trV aC (A8 _ _ _ (f0 bB bC (M0.mono dX aL))) λx5 aC=>?_
 refine ifB aC (λgF aC=>?_) λgF aC=>?_
 ·intro v7 k8 f9
  obtain⟨eA,eB,rfl,eC,eD,gG⟩:=K0.out (r:=Wp.int.toRp) f9 (show F2 (Wp.int.R k2) ([]:List (List Value)) ([]:C0) from trivial)
  obtain rfl:=oJ aC
  exact⟨([.int .i64 cJ,.int .i64 cK,.slice (some ⟨bD,0,none⟩) bP.length bE]),eA,(([]:C0)).length,eB,rfl,(New.pair (New.int bF) (New.pair (New.int bG) (New.mono fT eD))),eC⟩
 ·obtain⟨X11,cM,aC⟩:=j0 aC
  refine eX { vars:=[6],boxes:=[],owns:=[0],fuel:=true } (eX (λvs os h'=>∃ aK aS bQ,vs.tail = [.int .i64 aK]/\os = [aS]/\Sub k2 h'/\J0 aK/\F2 (Wp.int.R h') aS bQ/\I5 bO (Z0 vs) aK bQ=some X11) (eX (λ_ _=>0) (aI (eX C1 ⟨0,[],([]:C0),rfl,rfl,(Sub.refl _),(by decide),(show F2 (Wp.int.R k2) ([]:List (List Value)) ([]:C0) from trivial),cM⟩) ?_)))
  rintro _ aS dT fU ⟨aK,fV,bQ,⟨⟩,⟨⟩,aT,cN,aM,aA⟩
  replace aA:I5 bO dT aK bQ=some X11:=aA
  obtain _|dT:=dT
  ·cases aA
  rw[I5.eq_2]at aA
  refine ifB aA (λeE aA=>?_) λeE aA=>?_
  ·obtain⟨hY,eF,aA⟩:=j0 aA
   refine aI (H1 eF (by first|rw[F2.length aM,F2.length (show F2 (Wp.int.R fU) ([[.int .i64 aK]]:List (List Value)) [aK] from⟨⟨rfl,cN⟩,trivial⟩)]|exact congrArg (·+1) (F2.length aM))) ?_
   exact L1 dT ⟨(IntKind.i64.wrap (aK+1)),(aS++([[.int .i64 aK]]:List (List Value))),(bQ ++ [aK]),rfl,rfl,aT,(D0 _),(F2.append aM (show F2 (Wp.int.R fU) ([[.int .i64 aK]]:List (List Value)) [aK] from⟨⟨rfl,cN⟩,trivial⟩)),aA⟩
  ·obtain rfl:=oJ aA
   try dsimp only[N0,O0]at aC
   obtain⟨X22,cO,aC⟩:=j0 aC
   refine eX { vars:=[5],boxes:=[2],owns:=[],fuel:=true,pubs:=[5] } (eX (λvs os h'=>∃(aU:Option Addr) (bR aN:Nat) (cP:C0) (bH:Int) (aR:Int) (aV:Option Addr) (bS aX:Nat) (bT:H0),vs.tail = [.slice aU bR aN,.int .i64 bH,.int .i64 aR,.slice aV bS aX]/\os = []/\Sub h h'/\New j1 h h' [.slice aU bR aN] cP/\J0 bH/\J0 aR/\New M0 h h' [.slice aV bS aX] bT/\H5 (Z0 vs) cP bH aR bT=some X22) (eX (λ_ _=>0) ?_))
   intro hZ iA fW
   obtain⟨eG,eH,rfl,gH,cQ,gI⟩:=K0.out (r:=Wp.int.toRp) fW aM
   refine aI (eX C1 ⟨eG,bQ.length,eH,bQ,cJ,cK,(some ⟨bD,0,none⟩),bP.length,bE,bP,rfl,rfl,((dX.trans aT).trans cQ),(New.from (K0.newPlain (r:=Wp.int) fW aM (B01 _)) (dX.trans aT)),bF,bG,(New.mono fT (aT.trans cQ)),cO⟩) ?_
   rintro _ _ _ _ dU iB ⟨aU,bR,aN,cP,bH,aR,aV,bS,aX,bT,⟨⟩,⟨⟩,gJ,bI,aY,aZ,bJ,aA⟩
   replace aA:H5 dU cP bH aR bT=some X22:=aA
   obtain _|dU:=dU
   ·cases aA
   rw[H5.eq_2]at aA
   have cR:=bI.r
   obtain⟨rfl,eI⟩:=Sl.len cR
   have bA:=bJ.r
   obtain⟨rfl,gK⟩:=Sl.len bA
   refine trM aA (M02 _ _ _ (f0 aY aZ bA) 0 (by decide)) ?_
   rintro fX aA iC gL ⟨gM,gN,gO,rfl,cS,aF⟩
   obtain⟨rfl,gP⟩:=Sl.len cS
   obtain⟨X32,cT,aA⟩:=j0 aA
   refine eX { vars:=[8,9],boxes:=[],owns:=[],fuel:=true } (eX (λvs os h'=>∃ bK bL,vs.tail = [.int .i64 bK,.int .i64 bL]/\os = []/\Sub gL h'/\J0 bK/\J0 bL/\P4 aR bH bT fX (Z0 vs) bK bL=some X32) (eX (λ_ _=>0) (aI (eX C1 ⟨0,1,rfl,rfl,(Sub.refl _),(by decide),(by decide),cT⟩) ?_)))
   rintro _ _ cU eJ ⟨bK,bL,⟨⟩,⟨⟩,aD,eK,cV,aB⟩
   replace aB:P4 aR bH bT fX cU bK bL=some X32:=aB
   obtain _|cU:=cU
   ·cases aB
   rw[P4.eq_2]at aB
   refine ifB aB (λeM aB=>?_) λeM aB=>?_
   ·refine trV aB (q05 _ _ _ (f0 aY aZ (M0.mono (aF.trans aD) bA)) _ cV) λgQ aB=>?_
    obtain⟨iD,eN,aB⟩:=j0 aB
    have gR:J0 gQ:=Q1 eN
    obtain⟨iE,eO,aB⟩:=j0 aB
    obtain⟨fY,cX,eP⟩:=Sl.getG (r:=Wp.bool.toRp) ((Wp.slice Wp.bool).mono aD cS) eO (by decide) (y0b eJ)
    refine aI (λq=>(cX q).1) ?_
    obtain rfl:=eP
    refine eX _ (aI (λq=>(cX q).2) ?_)
    refine ifB aB (λeQ aB=>?_) λeQ aB=>?_
    ·exact L1 cU ⟨bL,(IntKind.i64.wrap (bL+1)),rfl,rfl,aD,cV,(D0 _),aB⟩
    ·exact L1 cU ⟨bK,(IntKind.i64.wrap (bL+1)),rfl,rfl,aD,eK,(D0 _),aB⟩
   ·obtain rfl:=oJ aB
    try dsimp only[N0,O0]at aA
    refine ifB aA (λeR aA=>?_) λeR aA=>?_
    ·obtain rfl:=oJ aA
     try dsimp only[M2,N2]at aC
     obtain rfl:=oJ aC
     exact⟨([.int .i64 bH,.int .i64 aR,.slice aV bT.length aX]),aU,cP.length,aN,rfl,(New.pair (New.int aY) (New.pair (New.int aZ) (New.mono bJ (aF.trans aD)))),(j1.mono (aF.trans aD) cR)⟩
    ·obtain⟨X43,cY,aA⟩:=j0 aA
     refine eX { vars:=[11],boxes:=[],owns:=[1],fuel:=true } (eX (λvs os h'=>∃ aJ aO cD,vs.tail = [.int .i64 aJ]/\os = [aO]/\Sub eJ h'/\J0 aJ/\F2 (Wp.int.R h') aO cD/\O4 aR bK (Z0 vs) aJ cD=some X43) (eX (λ_ _=>0) (aI (eX C1 ⟨0,[],([]:C0),rfl,rfl,(Sub.refl _),(by decide),(show F2 (Wp.int.R eJ) ([]:List (List Value)) ([]:C0) from trivial),cY⟩) ?_)))
     rintro _ aO cZ fZ ⟨aJ,gA,cD,⟨⟩,⟨⟩,aP,dA,aQ,aB⟩
     replace aB:O4 aR bK cZ aJ cD=some X43:=aB
     obtain _|cZ:=cZ
     ·cases aB
     rw[O4.eq_2]at aB
     refine ifB aB (λeS aB=>?_) λeS aB=>?_
     ·refine ifB aB (λeT aB=>?_) λeT aB=>?_
      ·obtain⟨iF,eU,aB⟩:=j0 aB
       refine aI (H1 eU (by first|rw[F2.length aQ,F2.length (show F2 (Wp.int.R fZ) ([[.int .i64 aJ]]:List (List Value)) [aJ] from⟨⟨rfl,dA⟩,trivial⟩)]|exact congrArg (·+1) (F2.length aQ))) ?_
       exact L1 cZ ⟨(IntKind.i64.wrap (aJ+1)),(aO++([[.int .i64 aJ]]:List (List Value))),(cD ++ [aJ]),rfl,rfl,aP,(D0 _),(F2.append aQ (show F2 (Wp.int.R fZ) ([[.int .i64 aJ]]:List (List Value)) [aJ] from⟨⟨rfl,dA⟩,trivial⟩)),aB⟩
      ·exact L1 cZ ⟨(IntKind.i64.wrap (aJ+1)),aO,cD,rfl,rfl,aP,(D0 _),aQ,aB⟩
     ·obtain rfl:=oJ aB
      try dsimp only[N0,O0]at aA
      refine Or.inl ?_
      intro iG gS gT
      obtain⟨gU,gV,rfl,eV,bU,gW⟩:=K0.out (r:=Wp.int.toRp) gT aQ
      refine trM aA (i05 _ _ _ (f0 aY aZ (M0.mono (((aF.trans aD).trans aP).trans bU) bA)) _ _ _ _ eV) ?_
      rintro iH aA iI gX ⟨gB,rfl,bV⟩
      have eW:Sub gS gX:=bV.sub
      have eY:=bV.r
      obtain⟨dB,dC,bW,eZ,bX,bM,rfl,rfl,bY,bZ,cA⟩:=B0 eY
      obtain⟨rfl,fA⟩:=Sl.len cA
      try dsimp only at aA
      have fB:=New.sndI (New.sndI (bV))
      obtain⟨fC,dD,aA⟩:=j0 aA
      obtain⟨fD,dE,aA⟩:=j0 aA
      obtain⟨iJ,fE,aA⟩:=j0 aA
      obtain⟨dF,dG,bN,fF,fH,Az62,Cz62,dH,dI,dJ,dK,dL,gC,gD,dM,dN,dO,dP,dQ⟩:=New.drop bI ((((aF.trans aD).trans aP).trans bU).trans eW) dD dE (X0c eI dD dE)
      subst dJ
      refine Or.inr (Or.inr (Or.inl (aI (aI (by kernel_rfl) (by kernel_rfl)) ?_)))
      refine Or.inl (eX (.val (.slice (some ⟨fF,fH,none⟩) fC.length aN)) (aI ?_ ?_))
      ·intro hh sb
       obtain⟨vs,e⟩:=bN hh sb
       exact aI dG (eX vs (aI e (λv _ hv=>aI (congrArg AV.val (dF v hv)) (aI rfl rfl))))
      refine Or.inl (eX (.val (.slice Az62 fD.length Cz62)) (aI ?_ ?_))
      ·intro hh sb
       obtain⟨vs,e⟩:=bN hh sb
       exact aI dL (eX vs (aI e (λv _ hv=>aI (congrArg AV.val (dK v hv)) (aI rfl rfl))))
      refine Or.inr ?_
      refine Or.inl (eX 0 (aI (aI rfl rfl) ?_))
      refine eX dI (aI dN (eX dH (aI dM (aI (H1 fE (by rw[dO,dP])) ?_))))
      intro gY gZ happz62
      obtain⟨cC,⟨fI,hJ,fJ,rfl⟩,dR⟩:=dQ _ _ happz62
      have fK:=cC.r
      obtain⟨fL,hU⟩:=Sl.len fK
      subst fL
      refine aI trivial (aI (by first|exact trivial|exact rfl) ?_)
      have fM:=dR Q0.slice _ _ _ fB (((aF.trans aD).trans aP).trans bU)
      exact L1 dU ⟨fI,(fC++fD).length,fJ,(fC++fD),dB,dC,bW,bM.length,bX,bM,rfl,rfl,cC.sub,cC,bY,bZ,fM,aA⟩
theorem B8(h:Hp)(p0:Int)(aO:J0 p0)(aF:Nat)(aJ:TypeId)(aC:Int)(aK:J0 aC)(aA:Int)(aL:J0 aA)(aD:h aF=some (.cells #[.int .i64 aC,.int .i64 aA] aJ (0,0)))(r:Int)(aB:s5 p0 (aC,aA)=some r):
  Tr Tryz.prog 366 #[.int .i64 p0,ptr aF 0] h λv h'=>v = .int .i64 r/\h'=h:=by
 unfold s5 at aB
 dsimp only at aB
 refine Tr.forget (D2 (args:=[.int .i64 p0,ptr aF 0]) (fn:=Tryz.f366) rfl ?_)
 refine eX (.int .i64 aA) (aI ⟨rfl,by simp[Hp.cell,(aD)]⟩ ?_)
 refine ifB aB (λaM aB=>?_) λaM aB=>?_
 ·refine eX (.int .i64 aC) (aI ⟨rfl,by simp[Hp.cell,(aD)]⟩ ?_)
  obtain rfl:=oJ aB
  exact aI rfl (Sub.refl _)
 ·refine eX (.int .i64 aA) (aI ⟨rfl,by simp[Hp.cell,(aD)]⟩ ?_)
  refine ifB aB (λaN aB=>?_) λaN aB=>?_
  ·obtain rfl:=oJ aB
   exact aI rfl (Sub.refl _)
  ·obtain rfl:=oJ aB
   exact aI rfl (Sub.refl _)
theorem N07(h:Hp)(aZ:List Value)(p0:l0)(cM:I0.R h aZ p0)(r:p5)(aY:w01 p0=some r):
  Tr Tryz.prog 365 #[.agg aZ.toArray] h λv h'=>∃(a0:Option Addr) (n0 c0:Nat),v = .slice a0 n0 c0/\K07.R h' [.slice a0 n0 c0] r/\Sub h h':=by
 obtain⟨bF,bG,bA,bZ,bB,aV,rfl,rfl,cA,cC,aQ⟩:=B0 cM
 obtain⟨rfl,cD⟩:=Sl.len aQ
 unfold w01 at aY
 dsimp only at aY
 refine D2 (args:=[.agg #[.int .i64 bF,.int .i64 bG,.slice bA aV.length bB]]) (fn:=Tryz.f365) rfl ?_
 obtain⟨X1,bH,aY⟩:=j0 aY
 refine eX { vars:=[12],boxes:=[],owns:=[0],fuel:=true } (eX (λvs os h'=>∃ u2 bD u3,vs.tail = [.int .i64 u2]/\os = [bD]/\Sub h h'/\J0 u2/\F2 (U1.R h') bD u3/\n7 aV (Z0 vs) u2 u3=some X1) (eX (λ_ _=>0) (aI (eX C1 ⟨0,[],([]:p5),rfl,rfl,(Sub.refl _),(by decide),(show F2 (U1.R h) ([]:List (List Value)) ([]:p5) from trivial),bH⟩) ?_)))
 rintro _ bD m5 k4 ⟨u2,cN,u3,⟨⟩,⟨⟩,bE,dA,cE,aP⟩
 replace aP:n7 aV m5 u2 u3=some X1:=aP
 obtain _|m5:=m5
 ·cases aP
 rw[n7.eq_2]at aP
 refine ifB aP (λcO aP=>?_) λcO aP=>?_
 ·refine ld aP (M0.mono bE aQ) λx7 cP cQ aP=>?_
  obtain⟨aD,bC,aC,rfl,rfl,aM,cF,aL⟩:=S0 cQ
  try dsimp only at aP
  obtain⟨x8,cR,aP⟩:=j0 aP
  obtain⟨cS,bI,cT,cU⟩:=Sl.cutI (r:=Q0.toRp) (M0.mono bE aQ) cR
  refine aI cS (eX bI (aI cT ?_))
  intro cV bJ _
  obtain⟨dB,dC,rfl,cI⟩:=cU cV bJ
  have dD:=(Sl.len cI).2
  obtain⟨X9,bK,aP⟩:=j0 aP
  refine eX { vars:=[23],boxes:=[],owns:=[0],fuel:=true } (eX (λvs os h'=>∃ aR aO aS,vs.tail = [.int .i64 aR]/\os = [aO]/\Sub k4 h'/\J0 aR/\F2 (U1.R h') aO aS/\B4 x8 bC aD aC (Z0 vs) aR aS=some X9) (eX (λ_ _=>0) (aI (eX C1 ⟨0,bD,u3,rfl,rfl,(Sub.refl _),(by decide),cE,bK⟩) ?_)))
  rintro _ aO aU aT ⟨aR,cJ,aS,⟨⟩,⟨⟩,aX,cX,aN,aK⟩
  replace aK:B4 x8 bC aD aC aU aR aS=some X9:=aK
  obtain _|aU:=aU
  ·cases aK
  rw[B4.eq_2]at aK
  refine ifB aK (λbL aK=>?_) λbL aK=>?_
  ·refine ld aK (M0.mono aX cI) λdE cK bM aK=>?_
   obtain⟨aB,cL,aA,rfl,rfl,aJ,bN,aF⟩:=S0 bM
   try dsimp only at aK
   refine ifB aK (λbO aK=>?_) λbO aK=>?_
   ·exact L1 aU ⟨(IntKind.i64.wrap (aR+1)),aO,aS,rfl,rfl,aX,(D0 _),aN,aK⟩
   ·refine ifB aK (λbP aK=>?_) λbP aK=>?_
    ·obtain⟨dF,bQ,aK⟩:=j0 aK
     refine aI (H1 bQ (by first|rw[F2.length aN,F2.length (show F2 (U1.R aT) ([[.int .i64 (if aA<aC then aA else aC),.int .i64 (if aA>aC then aA else aC)]]:List (List Value)) [((if aA<aC then aA else aC),(if aA>aC then aA else aC))] from⟨(D1 (Q4 aF aL) (Q4 aF aL)),trivial⟩)]|exact congrArg (·+1) (F2.length aN))) ?_
     refine ifB aK (λbR aK=>?_) λbR aK=>?_
     ·obtain⟨dG,bS,aK⟩:=j0 aK
      refine aI (H1 bS (by first|rw[F2.length (F2.append aN (show F2 (U1.R aT) ([[.int .i64 (if aA<aC then aA else aC),.int .i64 (if aA>aC then aA else aC)]]:List (List Value)) [((if aA<aC then aA else aC),(if aA>aC then aA else aC))] from⟨(D1 (Q4 aF aL) (Q4 aF aL)),trivial⟩)),F2.length (show F2 (U1.R aT) ([[.int .i64 (if aB<aD then aB else aD),.int .i64 (if aB>aD then aB else aD)]]:List (List Value)) [((if aB<aD then aB else aD),(if aB>aD then aB else aD))] from⟨(D1 (Q4 aJ aM) (Q4 aJ aM)),trivial⟩)]|exact congrArg (·+1) (F2.length (F2.append aN (show F2 (U1.R aT) ([[.int .i64 (if aA<aC then aA else aC),.int .i64 (if aA>aC then aA else aC)]]:List (List Value)) [((if aA<aC then aA else aC),(if aA>aC then aA else aC))] from⟨(D1 (Q4 aF aL) (Q4 aF aL)),trivial⟩))))) ?_
      exact L1 aU ⟨(IntKind.i64.wrap (aR+1)),((aO++([[.int .i64 (if aA<aC then aA else aC),.int .i64 (if aA>aC then aA else aC)]]:List (List Value)))++([[.int .i64 (if aB<aD then aB else aD),.int .i64 (if aB>aD then aB else aD)]]:List (List Value))),((aS ++ [((if aA<aC then aA else aC),(if aA>aC then aA else aC))]) ++ [((if aB<aD then aB else aD),(if aB>aD then aB else aD))]),rfl,rfl,aX,(D0 _),(F2.append (F2.append aN (show F2 (U1.R aT) ([[.int .i64 (if aA<aC then aA else aC),.int .i64 (if aA>aC then aA else aC)]]:List (List Value)) [((if aA<aC then aA else aC),(if aA>aC then aA else aC))] from⟨(D1 (Q4 aF aL) (Q4 aF aL)),trivial⟩)) (show F2 (U1.R aT) ([[.int .i64 (if aB<aD then aB else aD),.int .i64 (if aB>aD then aB else aD)]]:List (List Value)) [((if aB<aD then aB else aD),(if aB>aD then aB else aD))] from⟨(D1 (Q4 aJ aM) (Q4 aJ aM)),trivial⟩)),aK⟩
     ·exact L1 aU ⟨(IntKind.i64.wrap (aR+1)),(aO++([[.int .i64 (if aA<aC then aA else aC),.int .i64 (if aA>aC then aA else aC)]]:List (List Value))),(aS ++ [((if aA<aC then aA else aC),(if aA>aC then aA else aC))]),rfl,rfl,aX,(D0 _),(F2.append aN (show F2 (U1.R aT) ([[.int .i64 (if aA<aC then aA else aC),.int .i64 (if aA>aC then aA else aC)]]:List (List Value)) [((if aA<aC then aA else aC),(if aA>aC then aA else aC))] from⟨(D1 (Q4 aF aL) (Q4 aF aL)),trivial⟩)),aK⟩
    ·refine ifB aK (λbT aK=>?_) λbT aK=>?_
     ·obtain⟨dH,bU,aK⟩:=j0 aK
      refine aI (H1 bU (by first|rw[F2.length aN,F2.length (show F2 (U1.R aT) ([[.int .i64 (if aB<aD then aB else aD),.int .i64 (if aB>aD then aB else aD)]]:List (List Value)) [((if aB<aD then aB else aD),(if aB>aD then aB else aD))] from⟨(D1 (Q4 aJ aM) (Q4 aJ aM)),trivial⟩)]|exact congrArg (·+1) (F2.length aN))) ?_
      exact L1 aU ⟨(IntKind.i64.wrap (aR+1)),(aO++([[.int .i64 (if aB<aD then aB else aD),.int .i64 (if aB>aD then aB else aD)]]:List (List Value))),(aS ++ [((if aB<aD then aB else aD),(if aB>aD then aB else aD))]),rfl,rfl,aX,(D0 _),(F2.append aN (show F2 (U1.R aT) ([[.int .i64 (if aB<aD then aB else aD),.int .i64 (if aB>aD then aB else aD)]]:List (List Value)) [((if aB<aD then aB else aD),(if aB>aD then aB else aD))] from⟨(D1 (Q4 aJ aM) (Q4 aJ aM)),trivial⟩)),aK⟩
     ·exact L1 aU ⟨(IntKind.i64.wrap (aR+1)),aO,aS,rfl,rfl,aX,(D0 _),aN,aK⟩
  ·obtain rfl:=oJ aK
   try dsimp only[N0,O0]at aP
   exact L1 m5 ⟨(IntKind.i64.wrap (u2+1)),aO,aS,rfl,rfl,(bE.trans aX),(D0 _),aN,aP⟩
 ·obtain rfl:=oJ aP
  try dsimp only[N0,O0]at aY
  intro dI dJ cY
  obtain⟨bV,bW,rfl,bX,bY,cZ⟩:=K0.out (r:=U1.toRp) cY cE
  obtain rfl:=oJ aY
  exact⟨bV,u3.length,bW,rfl,bX,(bE.trans bY)⟩
theorem Q04(h:Hp)(aF:List Value)(p0:l0)(aY:I0.R h aF p0)(r:w5×Bool)(aA:T8 p0=some r):
  Tr Tryz.prog 346 #[.agg aF.toArray] h λv h'=>∃(aS:List Value),v = .tuple #[.agg aS.toArray,.bool r.2]/\U1.R h' aS r.1/\Sub h h':=by
 obtain⟨aN,aO,aJ,aT,aK,aP,rfl,rfl,aC,aD,aB⟩:=B0 aY
 obtain⟨rfl,aU⟩:=Sl.len aB
 unfold T8 at aA
 dsimp only at aA
 refine D2 (args:=[.agg #[.int .i64 aN,.int .i64 aO,.slice aJ aP.length aK]]) (fn:=Tryz.f346) rfl ?_
 refine trV aA (A8 _ _ _ (f0 aC aD aB)) λx1 aA=>?_
 refine ifB aA (λaZ aA=>?_) λaZ aA=>?_
 ·obtain rfl:=oJ aA
  exact⟨([.int .i64 0,.int .i64 0]),rfl,(D1 (by decide) (by decide)),(Sub.refl _)⟩
 ·refine trM aA (N07 _ _ _ (f0 aC aD aB)) ?_
  rintro x3 aA v5 k4 ⟨bD,bE,bF,rfl,aV,aX⟩
  obtain⟨rfl,bG⟩:=Sl.len aV
  refine ifB aA (λbA aA=>?_) λbA aA=>?_
  ·obtain rfl:=oJ aA
   exact⟨([.int .i64 0,.int .i64 0]),rfl,(D1 (by decide) (by decide)),aX⟩
  ·refine ld aA aV λx7 bB bC aA=>?_
   obtain⟨aQ,aR,rfl,rfl,aL,aM⟩:=o8 bC
   try dsimp only at aA
   obtain rfl:=oJ aA
   exact⟨([.int .i64 aQ,.int .i64 aR]),rfl,(D1 aL aM),aX⟩
theorem t02(h:Hp)(bB:List Value)(p0:l0)(dF:I0.R h bB p0)(bC:List Value)(p1:w5)(dG:U1.R h bC p1)(r:l0×Bool)(aB:o7 p0 p1=some r):
  Tr Tryz.prog 347 #[.agg bB.toArray,.agg bC.toArray] h λv h'=>∃(cQ:List Value),v = .tuple #[.agg cQ.toArray,.bool r.2]/\New I0 h h' cQ r.1:=by
 obtain⟨bP,bQ,bD,cR,bE,bR,rfl,rfl,aM,aN,aF⟩:=B0 dF
 obtain⟨rfl,cS⟩:=Sl.len aF
 obtain⟨aC,aD,rfl,rfl,aO,aP⟩:=o8 dG
 unfold o7 at aB
 dsimp only at aB
 refine D2 (args:=[.agg #[.int .i64 bP,.int .i64 bQ,.slice bD bR.length bE],.agg #[.int .i64 aC,.int .i64 aD]]) (fn:=Tryz.f347) rfl ?_
 refine trM aB (B6 _ _ _ (f0 aM aN aF)) ?_
 rintro x1 aB v3 k2 ⟨aJ,cT,aQ,rfl,bN⟩
 have cU:Sub h k2:=bN.sub
 have cV:=bN.r
 obtain⟨bF,bG,aK⟩:=x1
 dsimp only at aB bN cV
 obtain⟨_,_,_,_,_,_,bS,bT,aR,bH,bI⟩:=B0 cV
 cases bS
 cases bT
 obtain⟨rfl,cX⟩:=Sl.len bI
 try dsimp only at aB
 have bU:=New.sndI (New.sndI (bN))
 refine trV aB (A8 _ _ _ (f0 aM aN (M0.mono cU aF))) λx5 aB=>?_
 refine ifB aB (λdH aB=>?_) λdH aB=>?_
 ·obtain rfl:=oJ aB
  exact⟨([.int .i64 bF,.int .i64 bG,.slice (some ⟨aJ,0,none⟩) aK.length aQ]),rfl,(New.pair (New.int aR) (New.pair (New.int bH) bU))⟩
 ·intro b7 bV
  have dI:(Hp.set k2 b7 (.cells #[.int .i64 aC,.int .i64 aD] 246 (0,0))) b7=some (.cells #[.int .i64 aC,.int .i64 aD] 246 (0,0)):=Hp.set_same _ _ _
  have neb7gx1_2:b7≠aJ:=λe=>New.blk bU (Sub.refl _) (e▸bV)
  obtain⟨X8,bW,aB⟩:=j0 aB
  refine eX { vars:=[39],boxes:=[],owns:=[],fuel:=true } (eX (λvs os h'=>∃ u9 bJ,vs.tail = [.int .i64 u9]/\os = []/\Sub h h'/\J0 u9/\New M0 h h' [.slice (some ⟨aJ,0,none⟩) aK.length aQ] bJ/\h' b7=some (.cells #[.int .i64 aC,.int .i64 aD] 246 (0,0))/\C4 aK aC aD (Z0 vs) u9 bJ=some X8) (eX (λ_ _=>0) (aI (eX C1 ⟨0,aK,rfl,rfl,(cU.trans (Sub.set bV)),(by decide),(New.mono bU (Sub.set bV)),dI,bW⟩) ?_)))
  rintro _ bO dJ ⟨u9,bJ,⟨⟩,⟨⟩,dK,dV,aS,aT,aA⟩
  replace aA:C4 aK aC aD bO u9 bJ=some X8:=aA
  obtain _|bO:=bO
  ·cases aA
  rw[C4.eq_2]at aA
  have aU:=aS.r
  refine ifB aA (λbX aA=>?_) λbX aA=>?_
  ·refine ld aA aU λdW cY bY aA=>?_
   obtain⟨cZ,aL,dA,rfl,rfl,aV,aX,aY⟩:=S0 bY
   try dsimp only at aA
   refine Or.inr (Or.inr (Or.inl (aI (aI (by kernel_rfl) (by kernel_rfl)) ?_)))
   obtain⟨bK,bZ,aA⟩:=j0 aA
   obtain⟨dX,cA,aA⟩:=j0 aA
   have cC:J0 bK:=Q1 cA
   refine Or.inl (eX (.val (.int .i64 bK)) (aI ?_ ?_))
   ·intro dY dL
    exact Tr.val (B8 _ _ aV b7 246 _ aO _ aP (dL _ _ aT) _ bZ) (aI rfl (aI rfl rfl))
   obtain⟨bL,cD,aA⟩:=j0 aA
   obtain⟨dZ,cE,aA⟩:=j0 aA
   have cF:J0 bL:=Q1 cE
   refine Or.inl (eX (.val (.int .i64 bL)) (aI ?_ ?_))
   ·intro eA dM
    exact Tr.val (B8 _ _ aY b7 246 _ aO _ aP (dM _ _ aT) _ cD) (aI rfl (aI rfl rfl))
   refine Or.inl (eX (.agg [.val (.int .i64 bK),.val (.int .i64 aL),.val (.int .i64 bL)]) (aI ?_ ?_))
   ·intro eB eC
    exact aI rfl (aI rfl rfl)
   refine Or.inr ?_
   refine Or.inr ?_
   refine Or.inl (eX 0 (aI (aI rfl rfl) ?_))
   obtain⟨eD,aZ,aA⟩:=j0 aA
   obtain⟨cI,dB,dN,cJ⟩:=Sl.getI (r:=Q0.toRp) aU aZ (by decide)
   refine aI cI ?_
   obtain⟨dC,dD,dE,rfl,rfl,cK,cL,cM⟩:=S0 cJ
   try dsimp only at aA
   refine aI trivial (aI (by first|exact trivial|exact rfl) ?_)
   refine New.put (r:=Q0) aS (Sub.refl _) (s0c aZ).1 (new:=[.int .i64 bK,.int .i64 aL,.int .i64 bL]) (By:=[]) (M07 _ _ _ (U0 cC aX cF)) (P2.nil _) rfl (s0c aZ).2 ?_
   intro dO w28 bM _
   have dP:=w28.r
   have hpw28b7:dO b7=some (.cells #[.int .i64 aC,.int .i64 aD] 246 (0,0)):=(bM b7 neb7gx1_2).trans aT
   refine aI trivial (aI (by first|exact trivial|exact rfl) ?_)
   exact L1 bO ⟨(IntKind.i64.wrap (u9+1)),(bJ.set u9.toNat (bK,aL,bL)),rfl,rfl,w28.sub,(D0 _),w28,(hpw28b7),aA⟩
  ·obtain rfl:=oJ aA
   try dsimp only[N0,O0]at aB
   refine trM aB (G00 _ _ _ _ _ aU) ?_
   rintro dQ aB eE dR ⟨cN,dS,cO,rfl,bA⟩
   have dT:Sub dJ dR:=bA.sub
   have cP:=bA.r
   obtain⟨rfl,dU⟩:=Sl.len cP
   obtain rfl:=oJ aB
   exact⟨([.int .i64 bF,.int .i64 (IntKind.i64.wrap (bG-1)),.slice cN dQ.length cO]),rfl,(New.pair (New.int aR) (New.pair (New.int (D0 _)) (New.from bA dK)))⟩
theorem r05(h:Hp)(aX:List Value)(p0:l0)(cD:I0.R h aX p0)(r:l0×w5×Bool)(aA:w9 p0=some r):
  Tr Tryz.prog 331 #[.agg aX.toArray] h λv h'=>∃(bV:List Value) (bW:List Value),v = .tuple #[.agg bV.toArray,.agg bW.toArray,.bool r.2.2]/\New I0 h h' bV r.1/\U1.R h' bW r.2.1:=by
 obtain⟨bK,bL,aY,bX,aZ,bM,rfl,rfl,aJ,aK,aB⟩:=B0 cD
 obtain⟨rfl,bY⟩:=Sl.len aB
 unfold w9 at aA
 dsimp only at aA
 refine D2 (args:=[.agg #[.int .i64 bK,.int .i64 bL,.slice aY bM.length aZ]]) (fn:=Tryz.f331) rfl ?_
 refine trM aA (Q04 _ _ _ (f0 aJ aK aB)) ?_
 rintro x1 aA v3 k2 ⟨bN,rfl,aQ,bG⟩
 obtain⟨cE,cF⟩:=x1
 dsimp only at aA aQ
 obtain⟨aR,aS,rfl,rfl,aC,aD⟩:=o8 aQ
 try dsimp only at aA
 refine ifB aA (λcI aA=>?_) λcI aA=>?_
 ·refine trM aA (B6 _ _ _ (f0 aJ aK (M0.mono bG aB))) ?_
  rintro x5 aA v7 k6 ⟨bA,bZ,bB,rfl,bH⟩
  have cN:Sub k2 k6:=bH.sub
  have cA:=bH.r
  obtain⟨bO,bP,bQ⟩:=x5
  dsimp only at aA bH cA
  obtain⟨_,_,_,_,_,_,bR,bS,bC,bD,bE⟩:=B0 cA
  cases bR
  cases bS
  obtain⟨rfl,cC⟩:=Sl.len bE
  try dsimp only at aA
  have cJ:=New.sndI (New.sndI (bH))
  obtain rfl:=oJ aA
  exact⟨([.int .i64 bO,.int .i64 bP,.slice (some ⟨bA,0,none⟩) bQ.length bB]),([.int .i64 0,.int .i64 0]),rfl,(New.pair (New.int bC) (New.pair (New.int bD) (New.from cJ bG))),(D1 (by decide) (by decide))⟩
 ·refine trM aA (t02 _ _ _ (f0 aJ aK (M0.mono bG aB)) _ _ (D1 aC aD)) ?_
  rintro x9 aA cO cK ⟨bT,rfl,aF⟩
  obtain⟨cL,cM⟩:=x9
  dsimp only at aA aF
  have cP:Sub k2 cK:=aF.sub
  have bF:=aF.r
  obtain⟨aT,aU,aL,bI,aM,aV,rfl,rfl,aN,aO,aP⟩:=B0 bF
  obtain⟨rfl,bJ⟩:=Sl.len aP
  try dsimp only at aA
  have bU:=New.sndI (New.sndI (aF))
  refine Or.inr (Or.inr (Or.inl (aI (aI (by kernel_rfl) (by kernel_rfl)) ?_)))
  refine Or.inr ?_
  refine Or.inr ?_
  refine Or.inl (eX 0 (aI (aI rfl rfl) ?_))
  refine aI trivial (aI (by first|exact trivial|exact rfl) ?_)
  refine aI trivial (aI (by first|exact trivial|exact rfl) ?_)
  obtain rfl:=oJ aA
  exact⟨([.int .i64 aT,.int .i64 aU,.slice aL aV.length aM]),([.int .i64 aR,.int .i64 aS]),rfl,(New.pair (New.int aN) (New.pair (New.int aO) (New.from bU bG))),(D1 aC aD)⟩
theorem p06(h:Hp)(aY:List Value)(p0:l0)(dC:I0.R h aY p0)(r:l0×p5)(aS:g00 p0=some r):
  Tr Tryz.prog 283 #[.agg aY.toArray] h λv h'=>∃(cO:List Value) (a1:Option Addr) (n1 c1:Nat),v = .tuple #[.agg cO.toArray,.slice a1 n1 c1]/\New I0 h h' cO r.1/\K07.R h' [.slice a1 n1 c1] r.2:=by
 obtain⟨bU,bV,aZ,cP,bA,bW,rfl,rfl,bB,bC,aV⟩:=B0 dC
 obtain⟨rfl,cQ⟩:=Sl.len aV
 unfold g00 at aS
 dsimp only at aS
 refine D2 (args:=[.agg #[.int .i64 bU,.int .i64 bV,.slice aZ bW.length bA]]) (fn:=Tryz.f283) rfl ?_
 refine trM aS (B6 _ _ _ (f0 bB bC aV)) ?_
 rintro x1 aS v3 k2 ⟨bD,cR,bE,rfl,bM⟩
 have dD:Sub h k2:=bM.sub
 have cS:=bM.r
 obtain⟨bX,bY,bF⟩:=x1
 dsimp only at aS bM cS
 obtain⟨_,_,_,_,_,_,bZ,cA,bG,bH,bI⟩:=B0 cS
 cases bZ
 cases cA
 obtain⟨rfl,cT⟩:=Sl.len bI
 try dsimp only at aS
 have dE:=New.sndI (New.sndI (bM))
 obtain⟨X5,cC,aS⟩:=j0 aS
 refine eX { vars:=[],boxes:=[2],owns:=[0],fuel:=true } (eX (λvs os h'=>∃ u6 u7 bN cD bO u8 bP u9,vs.tail = [.int .i64 u6,.int .i64 u7,.slice bN cD bO]/\os = [bP]/\Sub k2 h'/\J0 u6/\J0 u7/\New M0 h h' [.slice bN cD bO] u8/\F2 (U1.R h') bP u9/\A6 (Z0 vs) u6 u7 u8 u9=some X5) (eX (λ_ _=>0) (aI (eX C1 ⟨bX,bY,(some ⟨bD,0,none⟩),bF.length,bE,bF,[],([]:p5),rfl,rfl,(Sub.refl _),bG,bH,dE,(show F2 (U1.R k2) ([]:List (List Value)) ([]:p5) from trivial),cC⟩) ?_)))
 rintro _ _ _ bP bQ dF ⟨u6,u7,bN,cD,bO,u8,dG,u9,⟨⟩,⟨⟩,cU,cV,cX,bJ,bR,aJ⟩
 replace aJ:A6 bQ u6 u7 u8 u9=some X5:=aJ
 obtain _|bQ:=bQ
 ·cases aJ
 rw[A6.eq_2]at aJ
 have cY:=bJ.r
 obtain⟨rfl,dK⟩:=Sl.len cY
 refine trM aJ (r05 _ _ _ (f0 cV cX cY)) ?_
 rintro dH aJ dL cE ⟨bS,bT,rfl,aC,aM⟩
 obtain⟨cZ,dA,dB⟩:=dH
 dsimp only at aJ aC aM
 have aL:Sub dF cE:=aC.sub
 have aX:=aC.r
 obtain⟨aT,aU,aN,bK,aO,aK,rfl,rfl,aP,aQ,aR⟩:=B0 aX
 obtain⟨rfl,bL⟩:=Sl.len aR
 try dsimp only at aJ
 have cF:=New.sndI (New.sndI (aC))
 obtain⟨aA,aB,rfl,rfl,aD,aF⟩:=o8 aM
 try dsimp only at aJ
 refine ifB aJ (λcI aJ=>?_) λcI aJ=>?_
 ·intro dM dN dI
  obtain⟨cJ,cK,rfl,cL,cM,dJ⟩:=K0.out (r:=U1.toRp) dI (F2.up (r:=U1.toRp) aL bR)
  obtain rfl:=oJ aJ
  try dsimp only[M2,N2]at aS
  obtain rfl:=oJ aS
  exact⟨([.int .i64 u6,.int .i64 u7,.slice bN u8.length bO]),cJ,u9.length,cK,rfl,(New.pair (New.int cV) (New.pair (New.int cX) (New.mono bJ (aL.trans cM)))),cL⟩
 ·obtain⟨dO,cN,aJ⟩:=j0 aJ
  refine aI (H1 cN (by first|rw[F2.length (F2.up (r:=U1.toRp) aL bR),F2.length (show F2 (U1.R cE) ([[.int .i64 aA,.int .i64 aB]]:List (List Value)) [(aA,aB)] from⟨(D1 aD aF),trivial⟩)]|exact congrArg (·+1) (F2.length (F2.up (r:=U1.toRp) aL bR)))) ?_
  exact L1 bQ ⟨aT,aU,aN,aK.length,aO,aK,(bP++([[.int .i64 aA,.int .i64 aB]]:List (List Value))),(u9 ++ [(aA,aB)]),rfl,rfl,(cU.trans aL),aP,aQ,(New.from cF (dD.trans cU)),(F2.append (F2.up (r:=U1.toRp) aL bR) (show F2 (U1.R cE) ([[.int .i64 aA,.int .i64 aB]]:List (List Value)) [(aA,aB)] from⟨(D1 aD aF),trivial⟩)),aJ⟩
theorem R04(h:Hp)(aQ:List Value)(p0:l0)(cR:I0.R h aQ p0)(r:l0)(aA:U8 p0=some r):
  Tr Tryz.prog 196 #[.agg aQ.toArray] h λv h'=>∃(cC:List Value),v = .agg cC.toArray/\New I0 h h' cC r:=by
 obtain⟨bL,bM,aR,cD,aS,bN,rfl,rfl,aT,aU,aN⟩:=B0 cR
 obtain⟨rfl,cE⟩:=Sl.len aN
 unfold U8 at aA
 dsimp only at aA
 refine D2 (args:=[.agg #[.int .i64 bL,.int .i64 bM,.slice aR bN.length aS]]) (fn:=Tryz.f196) rfl ?_
 refine trM aA (p06 _ _ _ (f0 aT aU aN)) ?_
 rintro x1 aA v3 k2 ⟨bO,cF,cI,cJ,rfl,aB,aO⟩
 obtain⟨cS,cT⟩:=x1
 dsimp only at aA aB aO
 have cU:Sub h k2:=aB.sub
 have aV:=aB.r
 obtain⟨bP,bQ,bD,bE,bF,bR,rfl,rfl,aJ,aK,aC⟩:=B0 aV
 obtain⟨rfl,bG⟩:=Sl.len aC
 try dsimp only at aA
 have dC:=New.sndI (New.sndI (aB))
 obtain⟨rfl,cK⟩:=Sl.len aO
 refine trM aA (P04 _ _ _ (f0 aJ aK aC)) ?_
 rintro x5 aA v7 k6 ⟨bS,cL,cM,cN,rfl,aD,aP⟩
 obtain⟨cV,cX⟩:=x5
 dsimp only at aA aD aP
 have cY:Sub k2 k6:=aD.sub
 have aX:=aD.r
 obtain⟨bT,bU,bH,bI,bJ,bV,rfl,rfl,aL,aM,aF⟩:=B0 aX
 obtain⟨rfl,bK⟩:=Sl.len aF
 try dsimp only at aA
 have dD:=New.sndI (New.sndI (aD))
 obtain⟨rfl,cO⟩:=Sl.len aP
 refine trM aA (G01 _ _ _ (f0 aL aM aF)) ?_
 rintro x9 aA dE cZ ⟨dA,rfl,bW⟩
 have dF:Sub k6 cZ:=bW.sub
 have dB:=bW.r
 obtain⟨bX,bY,aY,cP,aZ,bZ,rfl,rfl,bA,bB,bC⟩:=B0 dB
 obtain⟨rfl,cQ⟩:=Sl.len bC
 try dsimp only at aA
 have cA:=New.sndI (New.sndI (bW))
 obtain rfl:=oJ aA
 exact⟨([.int .i64 bX,.int .i64 bY,.slice aY bZ.length aZ]),rfl,(New.pair (New.int bA) (New.pair (New.int bB) (New.from cA (cU.trans cY))))⟩
set_option maxHeartbeats 0
theorem u02(h:Hp)(aJ:Option Addr)(aU aK:Nat)(p0:C0)(aV:j1.R h [.slice aJ aU aK] p0)(r:Bool)(aB:p7 p0=some r):
  Tr Tryz.prog 250 #[.slice aJ aU aK] h λv h'=>v = .bool r/\h'=h:=by
 obtain⟨rfl,bE⟩:=Sl.len aV
 unfold p7 at aB
 refine Tr.forget (D2 (args:=[.slice aJ p0.length aK]) (fn:=Tryz.f250) rfl ?_)
 refine ifB aB (λaZ aB=>?_) λaZ aB=>?_
 ·obtain rfl:=oJ aB
  exact aI rfl (Sub.refl _)
 ·obtain⟨q2,bA,aB⟩:=j0 aB
  refine aI (Q1 bA) ?_
  obtain⟨X3,aL,aB⟩:=j0 aB
  refine eX { vars:=[14],boxes:=[],owns:=[0],fuel:=true,kept:=[0] } (eX (λvs os h'=>∃ u4 aD u5,vs.tail = [.int .i64 u4]/\os = [aD]/\Sub h h'/\J0 u4/\F2 (Wp.bool.R h') aD u5/\D4 p0 (Z0 vs) u4 u5=some X3) (eX (λ_ _=>0) (aI (eX C1 ⟨0,(List.replicate ((p0.length:Nat):Int).toNat ([.bool false]:List Value)),(List.replicate ((p0.length:Nat):Int).toNat (false:Bool)),rfl,rfl,(Sub.refl _),(by decide),(F2.rep (p:=Wp.bool.R h) (a:=[.bool false]) (b:=false) rfl (((p0.length:Nat):Int).toNat)),aL⟩) ?_)))
  rintro _ aD m7 k6 ⟨u4,bB,u5,⟨⟩,⟨⟩,aF,bF,aM,aA⟩
  replace aA:D4 p0 m7 u4 u5=some X3:=aA
  obtain _|m7:=m7
  ·cases aA
  rw[D4.eq_2]at aA
  refine ifB aA (λbC aA=>?_) λbC aA=>?_
  ·refine ldI aA (j1.mono aF aV) λx9 bD aA=>?_
   refine trV aA (A5 _ _ bD 0 (by decide) (IntKind.i64.wrap (((p0.length:Nat):Int)-1)) (D0 _)) λbG aA=>?_
   obtain⟨bH,aN,aA⟩:=j0 aA
   obtain⟨aX,aC,aO⟩:=j02 aM aN (y0b k6)
   refine aI (λq=>(aC q).1) ?_
   obtain rfl:=aO
   refine eX _ (aI (λq=>(aC q).2) ?_)
   refine ifB aA (λaP aA=>?_) λaP aA=>?_
   ·obtain rfl:=oJ aA
    try dsimp only[M2,N2]at aB
    obtain rfl:=oJ aB
    exact aI rfl aF
   ·obtain⟨bI,aQ,aA⟩:=j0 aA
    obtain⟨aR,aY,aS,aT⟩:=N3 aM aQ
    refine aI aR ?_
    obtain rfl:=aT
    refine eX _ (aI aS ?_)
    exact L1 m7 ⟨(IntKind.i64.wrap (u4+1)),(aD.set x9.toNat [.bool true]),(u5.set x9.toNat true),rfl,rfl,aF,(D0 _),(F2.set (p:=Wp.bool.R k6) (a:=[.bool true]) (b:=true) rfl x9.toNat aM),aA⟩
  ·obtain rfl:=oJ aA
   try dsimp only[N0,O0]at aB
   obtain rfl:=oJ aB
   exact aI rfl aF
theorem s05(h:Hp)(aT:Option Addr)(aX aU:Nat)(p0:T1)(aY:f4.R h [.slice aT aX aU] p0)(aL:List Value)(p1:l0)(bF:I0.R h aL p1)(r:Bool)(aB:y9 p0 p1=some r):
  Tr Tryz.prog 155 #[.slice aT aX aU,.agg aL.toArray] h λv h'=>v = .bool r/\h'=h:=by
 obtain⟨rfl,bQ⟩:=Sl.len aY
 obtain⟨aF,aJ,aM,aZ,aN,aK,rfl,rfl,aO,aP,aC⟩:=B0 bF
 obtain⟨rfl,bA⟩:=Sl.len aC
 unfold y9 at aB
 dsimp only at aB
 refine Tr.forget (D2 (args:=[.slice aT p0.length aU,.agg #[.int .i64 aF,.int .i64 aJ,.slice aM aK.length aN]]) (fn:=Tryz.f155) rfl ?_)
 obtain⟨X1,aV,aB⟩:=j0 aB
 refine eX { vars:=[9],boxes:=[],owns:=[],fuel:=true } (eX (λvs os h'=>∃ u2,vs.tail = [.int .i64 u2]/\os = []/\Sub h h'/\J0 u2/\c6 p0 aF aJ aK (Z0 vs) u2=some X1) (eX (λ_ _=>0) (aI (eX C1 ⟨0,rfl,rfl,(Sub.refl _),(by decide),aV⟩) ?_)))
 rintro _ m4 k3 ⟨u2,⟨⟩,⟨⟩,aQ,bR,aA⟩
 replace aA:c6 p0 aF aJ aK m4 u2=some X1:=aA
 obtain _|m4:=m4
 ·cases aA
 rw[c6.eq_2]at aA
 refine ifB aA (λbG aA=>?_) λbG aA=>?_
 ·obtain⟨x6,bH,aA⟩:=j0 aA
  obtain⟨bI,bJ,bK,bL⟩:=Sl.getI (r:=I0.toRp) (f4.mono aQ aY) bH (by decide)
  refine aI bI ?_
  obtain⟨bM,bN,bB,bC,bD,bO,rfl,rfl,aR,aS,aD⟩:=B0 bL
  obtain⟨rfl,bE⟩:=Sl.len aD
  try dsimp only at aA
  refine eX _ (aI bK ?_)
  refine trV aA (v03 _ _ _ (f0 aR aS aD) _ _ (f0 aO aP (M0.mono aQ aC))) λx7 aA=>?_
  refine ifB aA (λbP aA=>?_) λbP aA=>?_
  ·obtain rfl:=oJ aA
   try dsimp only[M2,N2]at aB
   obtain rfl:=oJ aB
   exact aI rfl aQ
  ·exact L1 m4 ⟨(IntKind.i64.wrap (u2+1)),rfl,rfl,aQ,(D0 _),aA⟩
 ·obtain rfl:=oJ aA
  try dsimp only[N0,O0]at aB
  obtain rfl:=oJ aB
  exact aI rfl aQ
theorem v02(h:Hp)(p0:Int)(cM:J0 p0)(bP:Option Addr)(cN bQ:Nat)(p1:M1)(aZ:D5.R h [.slice bP cN bQ] p1)(r:l0×Bool)(aA:r7 p0 p1=some r):
  Tr Tryz.prog 154 #[.int .i64 p0,.slice bP cN bQ] h λv h'=>∃(cO:List Value),v = .tuple #[.agg cO.toArray,.bool r.2]/\New I0 h h' cO r.1:=by
 obtain⟨rfl,dV⟩:=Sl.len aZ
 unfold r7 at aA
 refine D2 (args:=[.int .i64 p0,.slice bP p1.length bQ]) (fn:=Tryz.f154) rfl ?_
 refine trV aA (A5 _ p0 cM 1 (by decide) 3 (by decide)) λx1 aA=>?_
 obtain⟨x2,dE,aA⟩:=j0 aA
 obtain⟨dF,cP,cQ⟩:=Sl.getG (r:=j1.toRp) aZ dE (by decide) (d0c Wp.int h)
 refine aI (λq=>(cP q).1) ?_
 obtain⟨dW,dX,dY,rfl⟩:=Wp.slice_cell cQ
 obtain⟨rfl,dZ⟩:=Sl.len cQ
 refine eX _ (aI (λq=>(cP q).2) ?_)
 obtain⟨x3,dG,aA⟩:=j0 aA
 obtain⟨dH,cR,cS⟩:=Sl.getG (r:=j1.toRp) aZ dG (by decide) (d0c Wp.int h)
 refine aI (λq=>(cR q).1) ?_
 obtain⟨eA,eB,eC,rfl⟩:=Wp.slice_cell cS
 obtain⟨rfl,eD⟩:=Sl.len cS
 refine eX _ (aI (λq=>(cR q).2) ?_)
 refine ifB aA (λdI aA=>?_) λdI aA=>?_
 ·obtain rfl:=oJ aA
  exact⟨([.int .i64 0,.int .i64 0,.slice none 0 0]),rfl,(New.pair (New.int (by decide)) (New.pair (New.int (by decide)) ((New.nilSlice (r:=Q0)).mono (Sub.refl _))))⟩
 ·refine ld aA aZ λx5 dJ cT aA=>?_
  obtain⟨eE,eF,eG,rfl⟩:=Wp.slice_cell cT
  obtain⟨rfl,dK⟩:=Sl.len cT
  obtain⟨X6,bR,aA⟩:=j0 aA
  refine eX { vars:=[45],boxes:=[1],owns:=[0],fuel:=true,nilsB:=[(1,2,166,3,24)] } (eX (λvs os h'=>∃ u7 u8 u9 aJ aM,vs.tail = [.int .i64 u7,.int .i64 u8,.int .i64 u9]/\os = [aJ]/\Sub h h'/\J0 u7/\J0 u8/\J0 u9/\F2 (Q0.R h') aJ aM/\F4 p1 (Z0 vs) u7 u8 u9 aM=some X6) (eX (λ_ _=>0) (aI (eX C1 ⟨0,p0,((x5.length:Nat):Int),[],([]:H0),rfl,rfl,(Sub.refl _),(by decide),cM,(L08 dK),(show F2 (Q0.R h) [] [] from trivial),bR⟩) ?_)))
  rintro _ _ _ aJ bL dL ⟨u7,u8,u9,cU,aM,⟨⟩,⟨⟩,bM,eH,cV,cX,bA,aB⟩
  replace aB:F4 p1 bL u7 u8 u9 aM=some X6:=aB
  obtain _|bL:=bL
  ·cases aB
  rw[F4.eq_2]at aB
  refine ifB aB (λbS aB=>?_) λbS aB=>?_
  ·refine ld aB (D5.mono bM aZ) λbN cY aK aB=>?_
   obtain⟨bT,dM,bU,rfl⟩:=Wp.slice_cell aK
   obtain⟨rfl,dN⟩:=Sl.len aK
   refine trV aB (u02 _ bT bN.length bU bN aK) λeI aB=>?_
   refine ifB aB (λbV aB=>?_) λbV aB=>?_
   ·obtain rfl:=oJ aB
    try dsimp only[M2,N2]at aA
    obtain rfl:=oJ aA
    exact⟨([.int .i64 0,.int .i64 0,.slice none 0 0]),rfl,(New.pair (New.int (by decide)) (New.pair (New.int (by decide)) ((New.nilSlice (r:=Q0)).mono bM)))⟩
   ·obtain⟨X17,bB,aB⟩:=j0 aB
    refine eX { vars:=[63],boxes:=[1],owns:=[0],fuel:=true } (eX (λvs os h'=>∃ aD aN aO aF aX,vs.tail = [.int .i64 aD,.int .i64 aN,.int .i64 aO]/\os = [aF]/\Sub dL h'/\J0 aD/\J0 aN/\J0 aO/\F2 (Q0.R h') aF aX/\E4 bN u7 (Z0 vs) aD aN aO aX=some X17) (eX (λ_ _=>0) (aI (eX C1 ⟨0,u8,u9,aJ,aM,rfl,rfl,(Sub.refl _),(by decide),cV,cX,bA,bB⟩) ?_)))
    rintro _ _ _ aF bO cZ ⟨aD,aN,aO,dA,aX,⟨⟩,⟨⟩,aP,bC,bD,bE,aL,aC⟩
    replace aC:E4 bN u7 bO aD aN aO aX=some X17:=aC
    obtain _|bO:=bO
    ·cases aC
    rw[E4.eq_2]at aC
    refine ifB aC (λbW aC=>?_) λbW aC=>?_
    ·refine ldI aC (j1.mono aP aK) λaY bF aC=>?_
     obtain⟨eJ,bX,aC⟩:=j0 aC
     refine aI (H1 bX (by first|rw[F2.length aL,F2.length (show F2 (Q0.R cZ) ([[.int .i64 aD,.int .i64 (IntKind.i64.wrap (u7+1)),.int .i64 aY]]:List (List Value)) [(aD,(IntKind.i64.wrap (u7+1)),aY)] from⟨(U0 bC (D0 _) bF),trivial⟩)]|exact congrArg (·+1) (F2.length aL))) ?_
     exact L1 bO ⟨(IntKind.i64.wrap (aD+1)),aN,aO,(aF++([[.int .i64 aD,.int .i64 (IntKind.i64.wrap (u7+1)),.int .i64 aY]]:List (List Value))),(aX ++ [(aD,(IntKind.i64.wrap (u7+1)),aY)]),rfl,rfl,aP,(D0 _),bD,bE,(F2.append aL (show F2 (Q0.R cZ) ([[.int .i64 aD,.int .i64 (IntKind.i64.wrap (u7+1)),.int .i64 aY]]:List (List Value)) [(aD,(IntKind.i64.wrap (u7+1)),aY)] from⟨(U0 bC (D0 _) bF),trivial⟩)),aC⟩
    ·obtain rfl:=oJ aC
     try dsimp only[N0,O0]at aB
     exact L1 bL ⟨(IntKind.i64.wrap (u7+1)),aN,aO,aF,aX,rfl,rfl,(bM.trans aP),(D0 _),bD,bE,aL,aB⟩
  ·obtain rfl:=oJ aB
   try dsimp only[N0,O0]at aA
   refine Or.inl ?_
   intro eK dO dP
   obtain⟨bY,bZ,rfl,cA,cC,dQ⟩:=K0.out (r:=Q0.toRp) dP bA
   refine trM aA (G00 _ bY aM.length bZ aM cA) ?_
   rintro dB aA eM dC ⟨cD,dR,cE,rfl,bG⟩
   have cF:Sub dO dC:=bG.sub
   have bH:=bG.r
   obtain⟨rfl,dS⟩:=Sl.len bH
   refine trM aA (R04 _ [.int .i64 u8,.int .i64 u9,.slice cD dB.length cE] (u8,u9,dB) (f0 cV cX bH)) ?_
   rintro eN aA eO dT ⟨dD,rfl,aQ⟩
   have dU:Sub dC dT:=aQ.sub
   have cI:=aQ.r
   obtain⟨bI,bJ,aR,cJ,aS,bK,rfl,rfl,aT,aU,aV⟩:=B0 cI
   obtain⟨rfl,cK⟩:=Sl.len aV
   try dsimp only at aA
   have cL:=New.sndI (New.sndI (aQ))
   obtain rfl:=oJ aA
   exact⟨([.int .i64 bI,.int .i64 bJ,.slice aR bK.length aS]),rfl,(New.pair (New.int aT) (New.pair (New.int aU) (New.from cL ((bM.trans cC).trans cF))))⟩
theorem c01(h:Hp)(p0:Int)(cZ:J0 p0)(p1:Int)(dA:J0 p1)(r:T1×Bool)(aR:T2 p0 p1=some r):
  Tr Tryz.prog 59 #[.int .i64 p0,.int .i64 p1] h λv h'=>∃(a0:Option Addr) (n0 c0:Nat),v = .tuple #[.slice a0 n0 c0,.bool r.2]/\New f4 h h' [.slice a0 n0 c0] r.1:=by
 unfold T2 at aR
 refine D2 (args:=[.int .i64 p0,.int .i64 p1]) (fn:=Tryz.f59) rfl ?_
 refine trV aR (A5 _ p0 cZ 1 (by decide) 3 (by decide)) λx1 aR=>?_
 refine trG aR (λq=>A5 _ p1 dA 1 (by decide) 3 (by decide)) λx2 aR=>?_
 refine ifB aR (λdL aR=>?_) λdL aR=>?_
 ·intro v4 k5 f6
  have dM:New (Wp.slice I0) h k5 [v4] ([]:T1):=(K0.fresh (r:=I0) f6 (show F3 (I0.W h) [] [] [] from trivial) (Sub.refl _) (P2.nil h))
  obtain⟨dN,dO,rfl,eN,eO,eP⟩:=K0.out (r:=I0.toRp) f6 (show F2 (I0.R h) ([]:List (List Value)) ([]:T1) from trivial)
  obtain rfl:=oJ aR
  exact⟨dN,(([]:T1)).length,dO,rfl,dM⟩
 ·refine trM aR (N02 _ p1 dA) ?_
  rintro x8 aR eQ k9 ⟨eR,eS,eT,rfl,dB,bN⟩
  obtain⟨rfl,eU⟩:=Sl.len dB
  obtain⟨X11,bO,aR⟩:=j0 aR
  refine eX { vars:=[8,9],boxes:=[],owns:=[],fuel:=true } (eX (λvs os h'=>∃ bE bJ,vs.tail = [.int .i64 bE,.int .i64 bJ]/\os = []/\Sub k9 h'/\J0 bE/\J0 bJ/\B3 p0 x8 (Z0 vs) bE bJ=some X11) (eX (λ_ _=>0) (aI (eX C1 ⟨1,0,rfl,rfl,(Sub.refl _),(by decide),(by decide),bO⟩) ?_)))
  rintro _ _ bV dP ⟨bE,bJ,⟨⟩,⟨⟩,aU,dQ,dR,aD⟩
  replace aD:B3 p0 x8 bV bE bJ=some X11:=aD
  obtain _|bV:=bV
  ·cases aD
  rw[B3.eq_2]at aD
  refine ifB aD (λbY aD=>?_) λbY aD=>?_
  ·exact L1 bV ⟨(IntKind.i64.wrap (bE*((x8.length:Nat):Int))),(IntKind.i64.wrap (bJ+1)),rfl,rfl,aU,(D0 _),(D0 _),aD⟩
  ·obtain rfl:=oJ aD
   try dsimp only[N0,O0]at aR
   obtain⟨X17,bP,aR⟩:=j0 aR
   refine eX { vars:=[10],boxes:=[],owns:=[0],fuel:=true } (eX (λvs os h'=>∃ bF aX bA,vs.tail = [.int .i64 bF]/\os = [aX]/\Sub dP h'/\J0 bF/\F2 (I0.R h') aX bA/\(∃ Bs,F3 (I0.W h') aX bA Bs/\P2 h Bs.flatten)/\C2 bE p0 x8 p1 (Z0 vs) bF bA=some X17) (eX (λ_ _=>0) (aI (eX C1 ⟨0,[],([]:T1),rfl,rfl,(Sub.refl _),(by decide),(F2.up (r:=I0.toRp) (bN.trans aU) (show F2 (I0.R h) ([]:List (List Value)) ([]:T1) from trivial)),⟨_,(g05 (show F3 (I0.W h) [] [] [] from trivial) (bN.trans aU)),(P2.nil h)⟩,bP⟩) ?_)))
   rintro _ aX bQ dC ⟨bF,dD,bA,⟨⟩,⟨⟩,aY,bZ,aZ,⟨dE,aS,aV⟩,aD⟩
   replace aD:C2 bE p0 x8 p1 bQ bF bA=some X17:=aD
   obtain _|bQ:=bQ
   ·cases aD
   rw[C2.eq_2]at aD
   refine ifB aD (λcA aD=>?_) λcA aD=>?_
   ·obtain⟨X23,bR,aD⟩:=j0 aD
    refine eX { vars:=[12,13],boxes:=[],owns:=[1],fuel:=true } (eX (λvs os h'=>∃ bK bL bB bS,vs.tail = [.int .i64 bK,.int .i64 bL]/\os = [bB]/\Sub dC h'/\J0 bK/\J0 bL/\F2 (j1.R h') bB bS/\A3 p0 x8 (Z0 vs) bK bL bS=some X23) (eX (λ_ _=>0) (aI (eX C1 ⟨0,bF,[],([]:M1),rfl,rfl,(Sub.refl _),(by decide),bZ,(show F2 (j1.R dC) ([]:List (List Value)) ([]:M1) from trivial),bR⟩) ?_)))
    rintro _ _ bB bW dF ⟨bK,bL,dG,bS,⟨⟩,⟨⟩,aF,dS,dT,bC,aT⟩
    replace aT:A3 p0 x8 bW bK bL bS=some X23:=aT
    obtain _|bW:=bW
    ·cases aT
    rw[A3.eq_2]at aT
    refine ifB aT (λcC aT=>?_) λcC aT=>?_
    ·obtain⟨eV,cD,aT⟩:=j0 aT
     refine aI (Q1 cD) ?_
     refine ld aT (D5.mono ((aU.trans aY).trans aF) dB) λbM dH bD aT=>?_
     obtain⟨bG,dU,bH,rfl⟩:=Wp.slice_cell bD
     obtain⟨rfl,dV⟩:=Sl.len bD
     obtain⟨eW,cE,aT⟩:=j0 aT
     refine aI (H1 cE (by first|rw[F2.length bC,F2.length (show F2 (j1.R dF) ([[.slice bG bM.length bH]]:List (List Value)) [bM] from⟨bD,trivial⟩)]|exact congrArg (·+1) (F2.length bC))) ?_
     refine Or.inl (aI (aI (by kernel_rfl) (by kernel_rfl)) ?_)
     obtain⟨eY,cF,aT⟩:=j0 aT
     have cI:=Q1 cF
     refine aI cI ?_
     exact L1 bW ⟨(IntKind.i64.wrap (bK+1)),(IntKind.i64.wrap (Int.tdiv bL ((x8.length:Nat):Int))),(bB++([[.slice bG bM.length bH]]:List (List Value))),(bS ++ [bM]),rfl,rfl,aF,(D0 _),(D0 _),(F2.append bC (show F2 (j1.R dF) ([[.slice bG bM.length bH]]:List (List Value)) [bM] from⟨bD,trivial⟩)),aT⟩
    ·obtain rfl:=oJ aT
     try dsimp only[N0,O0]at aD
     refine Or.inl ?_
     intro eZ dW dX
     obtain⟨dY,dZ,rfl,cJ,aO,eA⟩:=K0.out (r:=j1.toRp) dX bC
     refine trM aD (v02 _ _ cZ _ _ _ _ cJ) ?_
     rintro eB aD fA cK ⟨bX,rfl,aQ⟩
     obtain⟨dI,dJ⟩:=eB
     dsimp only at aD aQ
     have aP:Sub dW cK:=aQ.sub
     have bI:=aQ.r
     obtain⟨aA,aB,aJ,bT,aK,aC,rfl,rfl,aL,aM,aN⟩:=B0 bI
     obtain⟨rfl,bU⟩:=Sl.len aN
     try dsimp only at aD
     have cL:=New.sndI (New.sndI (aQ))
     obtain⟨eC,cM,aD⟩:=j0 aD
     refine eX (.bool eC) (aI ?_ ?_)
     ·intro hq
      intro eD eE f45
      have eF:New (Wp.slice I0) h eE [eD] bA:=(K0.fresh (r:=I0) f45 (g05 aS ((aF.trans aO).trans aP)) (((((bN.trans aU).trans aY).trans aF).trans aO).trans aP) aV)
      obtain⟨cN,cO,rfl,cP,cQ,eG⟩:=K0.out (r:=I0.toRp) f45 (F2.up (r:=I0.toRp) ((aF.trans aO).trans aP) aZ)
      exact s05 _ cN bA.length cO bA cP [.int .i64 aA,.int .i64 aB,.slice aJ aC.length aK] (aA,aB,aC) (f0 aL aM (M0.mono cQ aN)) _ (X00 cM hq)
     refine ifB aD (λcR aD=>?_) λcR aD=>?_
     ·obtain⟨fB,cS,aD⟩:=j0 aD
      refine aI (H1 cS (by first|rw[F2.length (F2.up (r:=I0.toRp) ((aF.trans aO).trans aP) aZ),F2.length (show F2 (I0.R cK) ([[.int .i64 aA,.int .i64 aB,.slice aJ aC.length aK]]:List (List Value)) [(aA,aB,aC)] from⟨(f0 aL aM aN),trivial⟩)]|exact congrArg (·+1) (F2.length (F2.up (r:=I0.toRp) ((aF.trans aO).trans aP) aZ)))) ?_
      obtain⟨Bb49,cT,cU,_⟩:=(New.pair (New.int aL) (New.pair (New.int aM) cL))
      exact L1 bQ ⟨(IntKind.i64.wrap (bF+1)),(aX++([[.int .i64 aA,.int .i64 aB,.slice aJ aC.length aK]]:List (List Value))),(bA ++ [(aA,aB,aC)]),rfl,rfl,(((aY.trans aF).trans aO).trans aP),(D0 _),(F2.append (F2.up (r:=I0.toRp) ((aF.trans aO).trans aP) aZ) (show F2 (I0.R cK) ([[.int .i64 aA,.int .i64 aB,.slice aJ aC.length aK]]:List (List Value)) [(aA,aB,aC)] from⟨(f0 aL aM aN),trivial⟩)),⟨_,(F3.snoc cT (g05 aS ((aF.trans aO).trans aP))),(r09 (g05 aS (aF.trans aO)) ((((bN.trans aU).trans aY).trans aF).trans aO) aV cU)⟩,aD⟩
     ·exact L1 bQ ⟨(IntKind.i64.wrap (bF+1)),aX,bA,rfl,rfl,(((aY.trans aF).trans aO).trans aP),(D0 _),(F2.up (r:=I0.toRp) ((aF.trans aO).trans aP) aZ),⟨_,(g05 aS ((aF.trans aO).trans aP)),aV⟩,aD⟩
   ·obtain rfl:=oJ aD
    try dsimp only[N0,O0]at aR
    intro eH eI dK
    have cV:New (Wp.slice I0) h eI [eH] bA:=(K0.fresh (r:=I0) dK aS ((bN.trans aU).trans aY) aV)
    obtain⟨cX,cY,rfl,eJ,eK,eM⟩:=K0.out (r:=I0.toRp) dK aZ
    obtain rfl:=oJ aR
    exact⟨cX,bA.length,cY,rfl,cV⟩
end Go.Proofs.YtkjhghloldgioaaGreat
