/- Texts of the claim, joined: The walks of batch g2 and others. -/
import Derived.Test.YtkjhghloldgioaaGreatPart18
import Derived.Test.YtkjhghloldgioaaGreatChecked
import Derived.Test.YtkjhghloldgioaaGreatH35
import Derived.Test.YtkjhghloldgioaaGreatPart25
import Derived.Test.YtkjhghloldgioaaGreatSE
import Derived.Test.YtkjhghloldgioaaGreatPart21
import Derived.Test.YtkjhghloldgioaaGreatH40
import Derived.Test.YtkjhghloldgioaaGreatH41
import Derived.Test.YtkjhghloldgioaaGreatPart17
import Derived.Test.YtkjhghloldgioaaGreatH36
namespace Go.Proofs.YtkjhghloldgioaaGreat
open Go.H
set_option linter.unusedVariables false
set_option linter.unusedSimpArgs false
set_option maxRecDepth 10000
theorem W6(h:Hp)(aC:List Value)(p0:j0)(aT:Y0.R h aC p0)(r:j0)(aD:D4 p0=some r):
  Tr Tryz.prog 137 #[.agg aC.toArray] h λv h'=>∃(g0:Nat) (n0 c0:Nat),v = .agg ([.int .i64 r.1,.int .i64 r.2.1,.slice (some ⟨g0,0,none⟩) n0 c0]:List Value).toArray/\New Y0 h h' [.int .i64 r.1,.int .i64 r.2.1,.slice (some ⟨g0,0,none⟩) n0 c0] r:=by
 obtain⟨aN,aO,aF,aR,aJ,aK,rfl,rfl,aL,aM,aB⟩:=D0 aT
 obtain⟨rfl,aS⟩:=Sl.len aB
 unfold D4 at aD
 dsimp only at aD
 refine G3 (args:=[.agg #[.int .i64 aN,.int .i64 aO,.slice aF aK.length aJ]]) (fn:=Tryz.f137) rfl ?_
 refine Or.inr (Or.inr (Or.inl (aI (aI (by kernel_rfl) (by kernel_rfl)) ?_)))
 refine Or.inr ?_
 refine Or.inr ?_
 refine Or.inr ?_
 refine Or.inr ?_
 refine Or.inl (eX 0 (aI (aI rfl rfl) ?_))
 refine aI trivial (aI (by first|exact trivial|exact rfl) ?_)
 obtain⟨aP,aU,aQ⟩:=Sl.rows (r:=K1.toRp) aB
 refine eX aP (aI aU ?_)
 obtain⟨q2,aV,aD⟩:=C0 aD
 refine aI (E1 aV (by first|rw[F2.length (show F2 (K1.R h) ([]:List (List Value)) ([]:O0) from trivial),F2.length aQ]|exact congrArg (·+1) (F2.length (show F2 (K1.R h) ([]:List (List Value)) ([]:O0) from trivial)))) ?_
 refine aI trivial (aI (by first|exact trivial|exact rfl) ?_)
 refine aI trivial (aI (by first|exact trivial|exact rfl) ?_)
 refine aI trivial (aI (by first|exact trivial|exact rfl) ?_)
 intro v3 k4 f5
 obtain⟨aX,aY,rfl,aZ,bA,bB⟩:=Q0.outS (r:=K1.toRp) f5 (F2.append (show F2 (K1.R h) ([]:List (List Value)) ([]:O0) from trivial) aQ)
 obtain rfl:=oJ aD
 exact⟨aX,((([]:O0)++aK)).length,aY,rfl,(New.pair (New.int aL) (New.pair (New.int aM) (Q0.newPlain (r:=K1) f5 (F2.append (show F2 (K1.R h) ([]:List (List Value)) ([]:O0) from trivial) aQ) (d0e _))))⟩
theorem B04(h:Hp)(aK:List Value)(p0:j0)(aZ:Y0.R h aK p0)(p1:Int)(bJ:P0 p1)(r:Int)(aF:B8 p0 p1=some r):
  Tr Tryz.prog 302 #[.agg aK.toArray,.int .i64 p1] h λv h'=>v = .int .i64 r/\h'=h:=by
 obtain⟨aN,aO,aL,aR,aM,aD,rfl,rfl,aS,aT,aC⟩:=D0 aZ
 obtain⟨rfl,aU⟩:=Sl.len aC
 unfold B8 at aF
 dsimp only at aF
 refine Tr.forget (G3 (args:=[.agg #[.int .i64 aN,.int .i64 aO,.slice aL aD.length aM],.int .i64 p1]) (fn:=Tryz.f302) rfl ?_)
 obtain⟨X1,aP,aF⟩:=C0 aF
 refine eX { vars:=[5,11],boxes:=[],owns:=[],fuel:=true } (eX (λvs os h'=>∃ u2 u3,vs.tail = [.int .i64 u2,.int .i64 u3]/\os = []/\Sub h h'/\P0 u2/\P0 u3/\H4 aD p1 (N1 vs) u2 u3=some X1) (eX (λ_ _=>0) (aI (eX T0 ⟨0,0,rfl,rfl,(Sub.refl _),(by decide),(by decide),aP⟩) ?_)))
 rintro _ _ m5 k4 ⟨u2,u3,⟨⟩,⟨⟩,aJ,bA,bK,aB⟩
 replace aB:H4 aD p1 m5 u2 u3=some X1:=aB
 obtain _|m5:=m5
 ·cases aB
 rw[H4.eq_2]at aB
 refine ifB aB (λbB aB=>?_) λbB aB=>?_
 ·refine ld aB (M0.mono aJ aC) λx7 bC bD aB=>?_
  obtain⟨bE,bF,bG,rfl,rfl,aV,aX,aY⟩:=H1 bD
  try dsimp only at aB
  refine ifB aB (λbH aB=>?_) λbH aB=>?_
  ·refine ifB aB (λbI aB=>?_) λbI aB=>?_
   ·exact T2 m5 ⟨(IntKind.i64.wrap ((IntKind.i64.wrap (u2+1))+1)),(IntKind.i64.wrap (u3+1)),rfl,rfl,aJ,(J0 _),(J0 _),aB⟩
   ·exact T2 m5 ⟨(IntKind.i64.wrap (u2+1)),(IntKind.i64.wrap (u3+1)),rfl,rfl,aJ,(J0 _),(J0 _),aB⟩
  ·refine ifB aB (λaQ aB=>?_) λaQ aB=>?_
   ·exact T2 m5 ⟨(IntKind.i64.wrap (u2+1)),(IntKind.i64.wrap (u3+1)),rfl,rfl,aJ,(J0 _),(J0 _),aB⟩
   ·exact T2 m5 ⟨u2,(IntKind.i64.wrap (u3+1)),rfl,rfl,aJ,bA,(J0 _),aB⟩
 ·obtain rfl:=oJ aB
  try dsimp only[U0,V0]at aF
  obtain rfl:=oJ aF
  exact aI rfl aJ
theorem j00(h:Hp)(aF:Option Addr)(aT aJ:Nat)(p0:O0)(aU:M0.R h [.slice aF aT aJ] p0)(aK:Option Addr)(aV aL:Nat)(p1:O0)(aX:M0.R h [.slice aK aV aL] p1)(r:Bool)(aC:L2 p0 p1=some r):
  Tr Tryz.prog 207 #[.slice aF aT aJ,.slice aK aV aL] h λv h'=>v = .bool r/\h'=h:=by
 obtain⟨rfl,bL⟩:=Sl.len aU
 obtain⟨rfl,bM⟩:=Sl.len aX
 unfold L2 at aC
 refine Tr.forget (G3 (args:=[.slice aF p0.length aJ,.slice aK p1.length aL]) (fn:=Tryz.f207) rfl ?_)
 refine ifB aC (λbE aC=>?_) λbE aC=>?_
 ·obtain rfl:=oJ aC
  exact aI rfl (Sub.refl _)
 ·obtain⟨X2,aM,aC⟩:=C0 aC
  refine eX { vars:=[13],boxes:=[],owns:=[],fuel:=true } (eX (λvs os h'=>∃ u3,vs.tail = [.int .i64 u3]/\os = []/\Sub h h'/\P0 u3/\C1 p0 p1 (N1 vs) u3=some X2) (eX (λ_ _=>0) (aI (eX T0 ⟨0,rfl,rfl,(Sub.refl _),(by decide),aM⟩) ?_)))
  rintro _ m5 k4 ⟨u3,⟨⟩,⟨⟩,aD,bN,aB⟩
  replace aB:C1 p0 p1 m5 u3=some X2:=aB
  obtain _|m5:=m5
  ·cases aB
  rw[C1.eq_2]at aB
  refine ifB aB (λbF aB=>?_) λbF aB=>?_
  ·refine Or.inl (aI (aI (by kernel_rfl) (by kernel_rfl)) ?_)
   refine ld aB (M0.mono aD aU) λx7 bG bH aB=>?_
   obtain⟨aN,aO,aP,rfl,rfl,aY,aZ,bA⟩:=H1 bH
   try dsimp only at aB
   refine ld aB (M0.mono aD aX) λx8 bI bJ aB=>?_
   obtain⟨aQ,aR,aS,rfl,rfl,bB,bC,bD⟩:=H1 bJ
   try dsimp only at aB
   refine eX (!eqE (aN,aO,aP) (aQ,aR,aS)) (aI (c0e _ _ _ rfl _ _ _ _ _ _) ?_)
   refine ifB aB (λbK aB=>?_) λbK aB=>?_
   ·obtain rfl:=oJ aB
    try dsimp only[t6,w6]at aC
    obtain rfl:=oJ aC
    exact aI rfl aD
   ·exact T2 m5 ⟨(IntKind.i64.wrap (u3+1)),rfl,rfl,aD,(J0 _),aB⟩
  ·obtain rfl:=oJ aB
   try dsimp only[U0,V0]at aC
   obtain rfl:=oJ aC
   exact aI rfl aD
theorem K02(h:Hp)(aD:List Value)(p0:j0)(bD:Y0.R h aD p0)(aF:List Value)(p1:j0)(bE:Y0.R h aF p1)(r:Bool)(aJ:T6 p0 p1=some r):
  Tr Tryz.prog 97 #[.agg aD.toArray,.agg aF.toArray] h λv h'=>v = .bool r/\h'=h:=by
 obtain⟨aO,aP,aK,aU,aL,aQ,rfl,rfl,aV,aX,aB⟩:=D0 bD
 obtain⟨rfl,aY⟩:=Sl.len aB
 obtain⟨aR,aS,aM,aZ,aN,aT,rfl,rfl,bA,bB,aC⟩:=D0 bE
 obtain⟨rfl,bC⟩:=Sl.len aC
 unfold T6 at aJ
 dsimp only at aJ
 refine Tr.forget (G3 (args:=[.agg #[.int .i64 aO,.int .i64 aP,.slice aK aQ.length aL],.agg #[.int .i64 aR,.int .i64 aS,.slice aM aT.length aN]]) (fn:=Tryz.f97) rfl ?_)
 refine trG aJ (λq=>j00 _ _ _ _ _ aB _ _ _ _ aC) λx1 aJ=>?_
 obtain rfl:=oJ aJ
 exact aI rfl (Sub.refl _)
theorem T05(h:Hp)(aS:List Value)(p0:j0)(cV:Y0.R h aS p0)(p1:Int)(dI:P0 p1)(r:(List Bool))(aN:L7 p0 p1=some r):
  Tr Tryz.prog 301 #[.agg aS.toArray,.int .i64 p1] h λv h'=>∃(a0:Option Addr) (n0 c0:Nat),v = .slice a0 n0 c0/\(Wp.slice Wp.bool).R h' [.slice a0 n0 c0] r/\Sub h h':=by
 obtain⟨aZ,aK,aT,cJ,aU,aL,rfl,rfl,cK,cL,aO⟩:=D0 cV
 obtain⟨rfl,cM⟩:=Sl.len aO
 unfold L7 at aN
 dsimp only at aN
 refine G3 (args:=[.agg #[.int .i64 aZ,.int .i64 aK,.slice aT aL.length aU],.int .i64 p1]) (fn:=Tryz.f301) rfl ?_
 obtain⟨q1,cX,aN⟩:=C0 aN
 refine aI (Y2 cX) ?_
 obtain⟨x2,cY,aN⟩:=C0 aN
 obtain⟨cZ,dA,dB,dC⟩:=E3 (F2.rep (p:=Wp.bool.R h) (a:=[.bool false]) (b:=false) rfl (aK.toNat)) cY
 refine aI cZ ?_
 obtain rfl:=dC
 refine eX _ (aI dB ?_)
 obtain⟨X3,bA,aN⟩:=C0 aN
 refine eX { vars:=[6],boxes:=[],owns:=[0],fuel:=true,kept:=[0] } (eX (λvs os h'=>∃ u4 aX u5,vs.tail = [.bool u4]/\os = [aX]/\Sub h h'/\F2 (Wp.bool.R h') aX u5/\w4 aL (N1 vs) u4 u5=some X3) (eX (λ_ _=>0) (aI (eX T0 ⟨true,((List.replicate aK.toNat ([.bool false]:List Value)).set p1.toNat [.bool true]),((List.replicate aK.toNat (false:Bool)).set p1.toNat true),rfl,rfl,(Sub.refl _),(F2.set (p:=Wp.bool.R h) (a:=[.bool true]) (b:=true) rfl p1.toNat (F2.rep (p:=Wp.bool.R h) (a:=[.bool false]) (b:=false) rfl (aK.toNat))),bA⟩) ?_)))
 rintro _ aX m7 k6 ⟨u4,dD,u5,⟨⟩,⟨⟩,bB,cN,aJ⟩
 replace aJ:w4 aL m7 u4 u5=some X3:=aJ
 obtain _|m7:=m7
 ·cases aJ
 rw[w4.eq_2]at aJ
 refine ifB aJ (λdE aJ=>?_) λdE aJ=>?_
 ·obtain⟨X9,bC,aJ⟩:=C0 aJ
  refine eX { vars:=[6,19],boxes:=[],owns:=[0],fuel:=true,kept:=[0] } (eX (λvs os h'=>∃ aR aP aF aQ,vs.tail = [.bool aR,.int .i64 aP]/\os = [aF]/\Sub k6 h'/\P0 aP/\F2 (Wp.bool.R h') aF aQ/\Q3 aL (N1 vs) aR aP aQ=some X9) (eX (λ_ _=>0) (aI (eX T0 ⟨false,0,aX,u5,rfl,rfl,(Sub.refl _),(by decide),cN,bC⟩) ?_)))
  rintro _ _ aF aV bD ⟨aR,aP,cO,aQ,⟨⟩,⟨⟩,aY,dF,aC,aB⟩
  replace aB:Q3 aL aV aR aP aQ=some X9:=aB
  obtain _|aV:=aV
  ·cases aB
  rw[Q3.eq_2]at aB
  refine ifB aB (λbE aB=>?_) λbE aB=>?_
  ·refine ld aB (M0.mono (bB.trans aY) aO) λdJ cP bF aB=>?_
   obtain⟨aD,cQ,aM,rfl,rfl,bG,bH,bI⟩:=H1 bF
   try dsimp only at aB
   refine Or.inl (aI (aI (by kernel_rfl) (by kernel_rfl)) ?_)
   obtain⟨dK,bJ,aB⟩:=C0 aB
   obtain⟨bK,cR,bL,bM⟩:=E3 aC bJ
   refine aI bK ?_
   obtain rfl:=bM
   refine eX _ (aI bL ?_)
   obtain⟨dL,bN,aB⟩:=C0 aB
   obtain⟨bO,cS,bP,bQ⟩:=E3 aC bN
   refine aI bO ?_
   obtain rfl:=bQ
   refine eX _ (aI bP ?_)
   refine ifB aB (λbR aB=>?_) λbR aB=>?_
   ·obtain⟨dM,bS,aB⟩:=C0 aB
    obtain⟨bT,cT,bU,bV⟩:=E3 aC bS
    refine aI bT ?_
    obtain rfl:=bV
    refine eX _ (aI bU ?_)
    obtain⟨dN,bW,aB⟩:=C0 aB
    obtain⟨bX,cU,bY,bZ⟩:=E3 (F2.set (p:=Wp.bool.R bD) (a:=[.bool true]) (b:=true) rfl aD.toNat aC) bW
    refine aI bX ?_
    obtain rfl:=bZ
    refine eX _ (aI bY ?_)
    exact T2 aV ⟨true,(IntKind.i64.wrap (aP+1)),((aF.set aD.toNat [.bool true]).set aM.toNat [.bool true]),((aQ.set aD.toNat true).set aM.toNat true),rfl,rfl,aY,(J0 _),(F2.set (p:=Wp.bool.R bD) (a:=[.bool true]) (b:=true) rfl aM.toNat (F2.set (p:=Wp.bool.R bD) (a:=[.bool true]) (b:=true) rfl aD.toNat aC)),aB⟩
   ·exact T2 aV ⟨aR,(IntKind.i64.wrap (aP+1)),aF,aQ,rfl,rfl,aY,(J0 _),aC,aB⟩
  ·obtain rfl:=oJ aB
   try dsimp only[U0,V0]at aJ
   exact T2 m7 ⟨aR,aF,aQ,rfl,rfl,(bB.trans aY),aC,aJ⟩
 ·obtain rfl:=oJ aJ
  try dsimp only[U0,V0]at aN
  intro dO dP dG
  obtain⟨cC,cD,rfl,cE,cI,dH⟩:=Q0.out (r:=Wp.bool.toRp) dG cN
  obtain rfl:=oJ aN
  exact⟨cC,u5.length,cD,rfl,cE,(bB.trans cI)⟩
theorem L02(h:Hp)(p0:Int)(aV:P0 p0)(r:B0)(aC:r7 p0=some r):
  Tr Tryz.prog 309 #[.int .i64 p0] h λv h'=>∃(a0:Option Addr) (n0 c0:Nat),v = .slice a0 n0 c0/\N0.R h' [.slice a0 n0 c0] r/\Sub h h':=by
 unfold r7 at aC
 refine G3 (args:=[.int .i64 p0]) (fn:=Tryz.f309) rfl ?_
 obtain⟨X1,aJ,aC⟩:=C0 aC
 refine eX { vars:=[4],boxes:=[],owns:=[0],fuel:=true } (eX (λvs os h'=>∃ u2 aD u3,vs.tail = [.int .i64 u2]/\os = [aD]/\Sub h h'/\P0 u2/\F2 (Wp.int.R h') aD u3/\W5 p0 (N1 vs) u2 u3=some X1) (eX (λ_ _=>0) (aI (eX T0 ⟨1,[],([]:B0),rfl,rfl,(Sub.refl _),(by decide),(show F2 (Wp.int.R h) ([]:List (List Value)) ([]:B0) from trivial),aJ⟩) ?_)))
 rintro _ aD m5 k4 ⟨u2,aQ,u3,⟨⟩,⟨⟩,aO,aP,aF,aB⟩
 replace aB:W5 p0 m5 u2 u3=some X1:=aB
 obtain _|m5:=m5
 ·cases aB
 rw[W5.eq_2]at aB
 refine ifB aB (λaR aB=>?_) λaR aB=>?_
 ·obtain⟨q7,aS,aB⟩:=C0 aB
  refine aI (E1 aS (by first|rw[F2.length aF,F2.length (show F2 (Wp.int.R k4) ([[.int .i64 u2],[.int .i64 (IntKind.i64.wrap (0-u2))]]:List (List Value)) [u2,(IntKind.i64.wrap (0-u2))] from⟨⟨rfl,aP⟩,⟨⟨rfl,(J0 _)⟩,trivial⟩⟩)]|exact congrArg (·+2) (F2.length aF))) ?_
  exact T2 m5 ⟨(IntKind.i64.wrap (u2+1)),(aD++([[.int .i64 u2],[.int .i64 (IntKind.i64.wrap (0-u2))]]:List (List Value))),(u3 ++ [u2,(IntKind.i64.wrap (0-u2))]),rfl,rfl,aO,(J0 _),(F2.append aF (show F2 (Wp.int.R k4) ([[.int .i64 u2],[.int .i64 (IntKind.i64.wrap (0-u2))]]:List (List Value)) [u2,(IntKind.i64.wrap (0-u2))] from⟨⟨rfl,aP⟩,⟨⟨rfl,(J0 _)⟩,trivial⟩⟩)),aB⟩
 ·obtain rfl:=oJ aB
  try dsimp only[U0,V0]at aC
  intro v8 k9 aT
  obtain⟨aK,aL,rfl,aM,aN,aU⟩:=Q0.out (r:=Wp.int.toRp) aT aF
  obtain rfl:=oJ aC
  exact⟨aK,u3.length,aL,rfl,aM,(aO.trans aN)⟩
theorem l06(h:Hp)(aC:Option Addr)(aJ aD:Nat)(p0:O0)(aK:M0.R h [.slice aC aJ aD] p0)(r:O0)(aB:B9 p0=some r):
  Tr Tryz.prog 251 #[.slice aC aJ aD] h λv h'=>∃(a0:Option Addr) (n0 c0:Nat),v = .slice a0 n0 c0/\New M0 h h' [.slice a0 n0 c0] r:=by
 obtain⟨rfl,aY⟩:=Sl.len aK
 unfold B9 at aB
 refine G3 (args:=[.slice aC p0.length aD]) (fn:=Tryz.f251) rfl ?_
 obtain⟨aF,aQ,aL⟩:=Sl.rows (r:=K1.toRp) aK
 refine eX aF (aI aQ ?_)
 obtain⟨q2,aR,aB⟩:=C0 aB
 refine aI (E1 aR (by first|rw[F2.length (show F2 (K1.R h) ([]:List (List Value)) ([]:O0) from trivial),F2.length aL]|exact congrArg (·+1) (F2.length (show F2 (K1.R h) ([]:List (List Value)) ([]:O0) from trivial)))) ?_
 refine Or.inl ?_
 intro v3 k4 f5
 obtain⟨q6,aS,aB⟩:=C0 aB
 refine Tr.mono (V0f _ f5 (F2.append (show F2 (K1.R h) ([]:List (List Value)) ([]:O0) from trivial) aL) (Y2 aS)) ?_
 rintro _ aZ ⟨rfl,aT,aM,aN⟩
 obtain⟨bA,bB,rfl,bC,bD,bE⟩:=Q0.out (r:=K1.toRp) aM aN
 refine Tr.mono (W0f _ aM aN) ?_
 rintro _ bF ⟨aU,aO,aP⟩
 obtain⟨aV,aX,rfl,bG,bH,bI⟩:=Q0.out (r:=K1.toRp) aO aP
 obtain rfl:=oJ aB
 exact⟨aV,((i01 eqE (I03 S0 (([]:O0)++p0)))).length,aX,rfl,(Q0.newPlain (r:=K1) aO aP (d0e _))⟩
theorem z05(h:Hp)(bE:List Value)(p0:j0)(eF:Y0.R h bE p0)(bS:Option Addr)(dO bT:Nat)(p1:B0)(dP:N0.R h [.slice bS dO bT] p1)(r:j0)(aD:Q9 p0 p1=some r):
  Tr Tryz.prog 291 #[.agg bE.toArray,.slice bS dO bT] h λv h'=>∃(dQ:List Value),v = .agg dQ.toArray/\New Y0 h h' dQ r:=by
 obtain⟨bF,aF,bG,dR,bH,aX,rfl,rfl,bI,dS,aR⟩:=D0 eF
 obtain⟨rfl,dT⟩:=Sl.len aR
 obtain⟨rfl,eG⟩:=Sl.len dP
 unfold Q9 at aD
 dsimp only at aD
 refine G3 (args:=[.agg #[.int .i64 bF,.int .i64 aF,.slice bG aX.length bH],.slice bS p1.length bT]) (fn:=Tryz.f291) rfl ?_
 obtain⟨q1,eH,aD⟩:=C0 aD
 refine aI (Y2 eH) ?_
 obtain⟨m2,eI,aD⟩:=C0 aD
 obtain rfl:(List.replicate aF.toNat ([.int .i64 0]:List Value)).length=m2:=(F2.length (F2.rep (p:=Wp.int.R h) (a:=[.int .i64 0]) (b:=0) ⟨rfl,(by decide)⟩ (aF.toNat))).trans (oJ eI)
 obtain⟨q3,fE,aD⟩:=C0 aD
 obtain⟨X4,bU,aD⟩:=C0 aD
 refine eX { vars:=[17],boxes:=[],owns:=[0],fuel:=true,kept:=[0] } (eX (λvs os h'=>∃ u5 bJ u6,vs.tail = [.int .i64 u5]/\os = [bJ]/\Sub h h'/\P0 u5/\F2 (Wp.int.R h') bJ u6/\U7 ((List.replicate aF.toNat ([.int .i64 0]:List Value))).length (N1 vs) u5 u6=some X4) (eX (λ_ _=>0) (aI (eX T0 ⟨0,(List.replicate aF.toNat ([.int .i64 0]:List Value)),(List.replicate aF.toNat (0:Int)),rfl,rfl,(Sub.refl _),(by decide),(F2.rep (p:=Wp.int.R h) (a:=[.int .i64 0]) (b:=0) ⟨rfl,(by decide)⟩ (aF.toNat)),bU⟩) ?_)))
 rintro _ bJ m8 k7 ⟨u5,eJ,u6,⟨⟩,⟨⟩,bQ,fF,bV,aB⟩
 replace aB:U7 ((List.replicate aF.toNat ([.int .i64 0]:List Value))).length m8 u5 u6=some X4:=aB
 obtain _|m8:=m8
 ·cases aB
 rw[U7.eq_2]at aB
 refine ifB aB (λeK aB=>?_) λeK aB=>?_
 ·obtain⟨fH,bW,aB⟩:=C0 aB
  obtain⟨bX,dU,bY,bZ⟩:=E3 bV bW
  refine aI bX ?_
  obtain⟨rfl,eM⟩:=bZ
  refine eX _ (aI bY ?_)
  exact T2 m8 ⟨(IntKind.i64.wrap (u5+1)),(bJ.set u5.toNat [.int .i64 (-1)]),(u6.set u5.toNat (-1)),rfl,rfl,bQ,(J0 _),(F2.set (p:=Wp.int.R k7) (a:=[.int .i64 (-1)]) (b:=(-1)) ⟨rfl,(by decide)⟩ u5.toNat bV),aB⟩
 ·obtain rfl:=oJ aB
  try dsimp only[U0,V0]at aD
  obtain⟨X11,bK,aD⟩:=C0 aD
  refine eX { vars:=[26],boxes:=[],owns:=[0],fuel:=true,kept:=[0] } (eX (λvs os h'=>∃ aO aP aY,vs.tail = [.int .i64 aO]/\os = [aP]/\Sub k7 h'/\P0 aO/\F2 (Wp.int.R h') aP aY/\T7 p1 (N1 vs) aO aY=some X11) (eX (λ_ _=>0) (aI (eX T0 ⟨0,bJ,u6,rfl,rfl,(Sub.refl _),(by decide),bV,bK⟩) ?_)))
  rintro _ aP bR cC ⟨aO,dV,aY,⟨⟩,⟨⟩,aQ,cD,aK,aB⟩
  replace aB:T7 p1 bR aO aY=some X11:=aB
  obtain _|bR:=bR
  ·cases aB
  rw[T7.eq_2]at aB
  refine ifB aB (λcE aB=>?_) λcE aB=>?_
  ·refine ldI aB (N0.mono (bQ.trans aQ) dP) λcI eN aB=>?_
   obtain⟨fI,cJ,aB⟩:=C0 aB
   obtain⟨cK,dW,cL,cM⟩:=E3 aK cJ
   refine aI cK ?_
   obtain⟨rfl,eO⟩:=cM
   refine eX _ (aI cL ?_)
   exact T2 bR ⟨(IntKind.i64.wrap (aO+1)),(aP.set cI.toNat [.int .i64 aO]),(aY.set cI.toNat aO),rfl,rfl,aQ,(J0 _),(F2.set (p:=Wp.int.R cC) (a:=[.int .i64 aO]) (b:=aO) ⟨rfl,cD⟩ cI.toNat aK),aB⟩
  ·obtain rfl:=oJ aB
   try dsimp only[U0,V0]at aD
   obtain⟨X19,bL,aD⟩:=C0 aD
   refine eX { vars:=[44],boxes:=[2],owns:=[1],fuel:=true,nilsB:=[(2,2,166,3,24)] } (eX (λvs os h'=>∃ aZ aS aT aL bD,vs.tail = [.int .i64 aZ,.int .i64 aS,.int .i64 aT]/\os = [aL]/\Sub cC h'/\P0 aZ/\P0 aS/\P0 aT/\F2 (K1.R h') aL bD/\d7 aX aY (N1 vs) aZ aS aT bD=some X19) (eX (λ_ _=>0) (aI (eX T0 ⟨0,bF,((p1.length:Nat):Int),[],([]:O0),rfl,rfl,(Sub.refl _),(by decide),bI,(Z0l eG),(show F2 (K1.R cC) [] [] from trivial),bL⟩) ?_)))
   rintro _ _ _ aL bM cN ⟨aZ,aS,aT,dX,bD,⟨⟩,⟨⟩,aJ,eP,bA,bB,aM,aB⟩
   replace aB:d7 aX aY bM aZ aS aT bD=some X19:=aB
   obtain _|bM:=bM
   ·cases aB
   rw[d7.eq_2]at aB
   refine ifB aB (λcO aB=>?_) λcO aB=>?_
   ·refine ld aB (M0.mono ((bQ.trans aQ).trans aJ) aR) λfJ dY cP aB=>?_
    obtain⟨dZ,aC,eA,rfl,rfl,cQ,aN,cR⟩:=H1 cP
    try dsimp only at aB
    obtain⟨fK,cS,aB⟩:=C0 aB
    obtain⟨cT,eB,cU,cV⟩:=E3 (F2.up (r:=Wp.int.toRp) aJ aK) cS
    refine aI cT ?_
    obtain⟨rfl,eQ⟩:=cV
    refine eX _ (aI cU ?_)
    obtain⟨fL,cX,aB⟩:=C0 aB
    obtain⟨eC,bN,cY⟩:=S00 (F2.up (r:=Wp.int.toRp) aJ aK) cX (J0a cN)
    refine aI (λq=>(bN q).1) ?_
    obtain⟨rfl,eR⟩:=cY
    refine eX _ (aI (λq=>(bN q).2) ?_)
    refine ifB aB (λcZ aB=>?_) λcZ aB=>?_
    ·refine Or.inr (Or.inr (Or.inl (aI (aI (by kernel_rfl) (by kernel_rfl)) ?_)))
     obtain⟨aU,dA,aB⟩:=C0 aB
     obtain⟨dB,eD,dC,dD⟩:=E3 (F2.up (r:=Wp.int.toRp) aJ aK) dA
     obtain⟨rfl,bO⟩:=dD
     refine Or.inl ?_
     apply eX
     refine aI ?_ ?_
     ·intro fM fN
      exact aI dB (aI rfl (aI rfl rfl))
     refine Or.inl (eX (.val (.int .i64 aU)) (aI ?_ ?_))
     ·intro fO fP
      exact eX _ (aI dC (aI rfl (aI rfl rfl)))
     obtain⟨aV,dE,aB⟩:=C0 aB
     obtain⟨dF,eE,dG,dH⟩:=E3 (F2.up (r:=Wp.int.toRp) aJ aK) dE
     obtain⟨rfl,bP⟩:=dH
     refine Or.inl ?_
     apply eX
     refine aI ?_ ?_
     ·intro fQ fR
      exact aI dF (aI rfl (aI rfl rfl))
     refine Or.inl (eX (.val (.int .i64 aV)) (aI ?_ ?_))
     ·intro fS fT
      exact eX _ (aI dG (aI rfl (aI rfl rfl)))
     refine Or.inl (eX (.agg [.val (.int .i64 aU),.val (.int .i64 aC),.val (.int .i64 aV)]) (aI ?_ ?_))
     ·intro fU fV
      exact aI rfl (aI rfl rfl)
     refine Or.inr ?_
     refine Or.inr ?_
     refine Or.inr ?_
     refine Or.inl (eX 0 (aI (aI rfl rfl) ?_))
     refine aI trivial (aI (by first|exact trivial|exact rfl) ?_)
     obtain⟨fW,dI,aB⟩:=C0 aB
     refine aI (E1 dI (by first|rw[F2.length aM,F2.length (show F2 (K1.R cN) ([[.int .i64 aU,.int .i64 aC,.int .i64 aV]]:List (List Value)) [(aU,aC,aV)] from⟨(Q1 bO aN bP),trivial⟩)]|exact congrArg (·+1) (F2.length aM))) ?_
     refine aI trivial (aI (by first|exact trivial|exact rfl) ?_)
     refine aI trivial (aI (by first|exact trivial|exact rfl) ?_)
     exact T2 bM ⟨(IntKind.i64.wrap (aZ+1)),aS,aT,(aL++([[.int .i64 aU,.int .i64 aC,.int .i64 aV]]:List (List Value))),(bD ++ [(aU,aC,aV)]),rfl,rfl,aJ,(J0 _),bA,bB,(F2.append aM (show F2 (K1.R cN) ([[.int .i64 aU,.int .i64 aC,.int .i64 aV]]:List (List Value)) [(aU,aC,aV)] from⟨(Q1 bO aN bP),trivial⟩)),aB⟩
    ·exact T2 bM ⟨(IntKind.i64.wrap (aZ+1)),aS,aT,aL,bD,rfl,rfl,aJ,(J0 _),bA,bB,aM,aB⟩
   ·obtain rfl:=oJ aB
    try dsimp only[U0,V0]at aD
    refine Or.inl ?_
    intro fX eT eU
    obtain⟨eV,eW,rfl,dJ,dK,eY⟩:=Q0.out (r:=K1.toRp) eU aM
    refine trM aD (l06 _ _ _ _ _ dJ) ?_
    rintro eZ aD fY fA ⟨dL,fB,dM,rfl,bC⟩
    have fC:Sub eT fA:=bC.sub
    have dN:=bC.r
    obtain⟨rfl,fD⟩:=Sl.len dN
    obtain rfl:=oJ aD
    exact⟨([.int .i64 aS,.int .i64 aT,.slice dL eZ.length dM]),rfl,(New.pair (New.int bA) (New.pair (New.int bB) (New.from bC (((bQ.trans aQ).trans aJ).trans dK))))⟩
theorem Q07(h:Hp)(bH:List Value)(p0:j0)(eK:Y0.R h bH p0)(p1:Int)(eM:P0 p1)(r:B0×Q6)(aR:D9 p0 p1=some r):
  Tr Tryz.prog 236 #[.agg bH.toArray,.int .i64 p1] h λv h'=>∃(a0:Option Addr) (n0 c0:Nat) (a1:Option Addr) (n1 c1:Nat),v = .tuple #[.slice a0 n0 c0,.slice a1 n1 c1]/\N0.R h' [.slice a0 n0 c0] r.1/\l8.R h' [.slice a1 n1 c1] r.2/\Sub h h':=by
 obtain⟨aM,aD,bI,dV,bJ,aN,rfl,rfl,aV,bK,aX⟩:=D0 eK
 obtain⟨rfl,dW⟩:=Sl.len aX
 unfold D9 at aR
 dsimp only at aR
 refine G3 (args:=[.agg #[.int .i64 aM,.int .i64 aD,.slice bI aN.length bJ],.int .i64 p1]) (fn:=Tryz.f236) rfl ?_
 obtain⟨q1,eN,aR⟩:=C0 aR
 refine aI (Y2 eN) ?_
 obtain⟨x2,eO,aR⟩:=C0 aR
 obtain⟨eP,eQ,eR,eT⟩:=E3 (F2.rep (p:=Wp.opt.R h) (a:=[.slice none 0 0]) (b:=none) (l0i h) (aD.toNat)) eO
 refine aI eP ?_
 obtain⟨gH,gI,gJ,rfl,gK,eU⟩:=eT
 obtain⟨rfl,gL⟩:=Sl.len eU
 intro v3 k4 f5
 obtain⟨dX,dY,rfl,eV,cJ,gM⟩:=Q0.outS (r:=Wp.int.toRp) f5 (show F2 (Wp.int.R h) ([]:List (List Value)) ([]:B0) from trivial)
 refine eX _ (aI eR ?_)
 obtain⟨X7,cK,aR⟩:=C0 aR
 refine eX { vars:=[8],boxes:=[],owns:=[0,2],fuel:=true,kept:=[0] } (eX (λvs os h'=>∃ u8 cD u9 aO bG,vs.tail = [.int .i64 u8]/\os = [cD,aO]/\Sub k4 h'/\P0 u8/\F2 (Wp.opt.R h') cD u9/\F2 (Wp.int.R h') aO bG/\I3 aM aD aN (N1 vs) u8 u9 bG=some X7) (eX (λ_ _=>0) (aI (eX T0 ⟨0,((List.replicate aD.toNat ([.slice none 0 0]:List Value)).set p1.toNat [.slice (some ⟨dX,0,none⟩) (([]:B0)).length dY]),((List.replicate aD.toNat (none:Option B0)).set p1.toNat (some ([]:B0))),([[.int .i64 p1]]:List (List Value)),[p1],rfl,rfl,(Sub.refl _),(by decide),(F2.set (p:=Wp.opt.R k4) (a:=[.slice (some ⟨dX,0,none⟩) (([]:B0)).length dY]) (b:=some ([]:B0)) (m0i eV) p1.toNat (F2.up (r:=Wp.opt.toRp) cJ (F2.rep (p:=Wp.opt.R h) (a:=[.slice none 0 0]) (b:=none) (l0i h) (aD.toNat)))),(show F2 (Wp.int.R k4) ([[.int .i64 p1]]:List (List Value)) [p1] from⟨⟨rfl,eM⟩,trivial⟩),cK⟩) ?_)))
 rintro _ cD aO cE gN ⟨u8,eW,u9,dZ,bG,⟨⟩,⟨⟩,cL,gO,eA,aT,aC⟩
 replace aC:I3 aM aD aN cE u8 u9 bG=some X7:=aC
 obtain _|cE:=cE
 ·cases aC
 rw[I3.eq_2]at aC
 obtain⟨eY,cM,aC⟩:=C0 aC
 obtain rfl:aO.length=eY:=(F2.length aT).trans (oJ cM)
 obtain⟨gP,eZ,aC⟩:=C0 aC
 refine ifB aC (λcN aC=>?_) λcN aC=>?_
 ·obtain⟨eB,cO,aC⟩:=C0 aC
  obtain⟨cP,eC,cQ,cR⟩:=E3 aT cO
  refine aI cP ?_
  obtain⟨rfl,cS⟩:=cR
  refine eX _ (aI cQ ?_)
  refine trM aC (L02 _ _ aV) ?_
  rintro eD aC gQ fA ⟨fB,fC,fD,rfl,bL,aU⟩
  obtain⟨rfl,fE⟩:=Sl.len bL
  obtain⟨X20,bM,aC⟩:=C0 aC
  refine eX { vars:=[36],boxes:=[],owns:=[0,2],fuel:=true,kept:=[0] } (eX (λvs os h'=>∃ bA aJ bB aK bC,vs.tail = [.int .i64 bA]/\os = [aJ,aK]/\Sub fA h'/\P0 bA/\F2 (Wp.opt.R h') aJ bB/\F2 (Wp.int.R h') aK bC/\A2 eD aM aD aN eB (N1 vs) bA bB bC=some X20) (eX (λ_ _=>0) (aI (eX T0 ⟨0,cD,u9,aO,bG,rfl,rfl,(Sub.refl _),(by decide),(F2.up (r:=Wp.opt.toRp) aU eA),(F2.up (r:=Wp.int.toRp) aU aT),bM⟩) ?_)))
  rintro _ aJ aK bN eE ⟨bA,eF,bB,eG,bC,⟨⟩,⟨⟩,aP,fF,aL,aQ,aB⟩
  replace aB:A2 eD aM aD aN eB bN bA bB bC=some X20:=aB
  obtain _|bN:=bN
  ·cases aB
  rw[A2.eq_2]at aB
  refine ifB aB (λcT aB=>?_) λcT aB=>?_
  ·refine ldI aB (N0.mono aP bL) λaY bD aB=>?_
   refine trV aB (d01 _ _ _ (l0 aV bK (M0.mono (((cJ.trans cL).trans aU).trans aP) aX)) _ cS _ bD) λaS aB=>?_
   obtain⟨gR,cU,aB⟩:=C0 aB
   have bO:P0 aS:=Y2 cU
   obtain⟨fH,cV,aB⟩:=C0 aB
   obtain⟨eH,bP,cX⟩:=S00 aL cV (n0m eE)
   refine aI (λq=>(bP q).1) ?_
   obtain⟨fI,fJ,fK,rfl,cY,cZ⟩:=cX
   obtain⟨rfl,fL⟩:=Sl.len cZ
   refine eX _ (aI (λq=>(bP q).2) ?_)
   refine eX (fH.isNone) (aI (λ_=>by rw[←cY];exact a0l _ _ _ rfl _ _ _) ?_)
   refine ifB aB (λdA aB=>?_) λdA aB=>?_
   ·obtain⟨gS,dB,aB⟩:=C0 aB
    obtain⟨dC,eI,dD,dE⟩:=E3 aL dB
    refine aI dC ?_
    obtain⟨fM,fN,fO,rfl,fP,bQ⟩:=dE
    obtain⟨rfl,fQ⟩:=Sl.len bQ
    refine eX _ (aI dD ?_)
    obtain⟨cI,bR,aB⟩:=C0 aB
    refine Tr.mono (C04 _ _ _ _ _ bQ _  bR) ?_
    rintro gT dF ⟨bR,fR,fS,rfl,bE⟩
    have fT:Sub eE dF:=bE.sub
    have dG:=bE.r
    obtain⟨rfl,fU⟩:=Sl.len dG
    obtain⟨gU,dH,aB⟩:=C0 aB
    obtain⟨bS,bT,aZ,bU⟩:=New.app bE (Sub.refl _)
    refine eX bS (aI bT (aI (E1 dH (by first|rw[aZ,F2.length (show F2 (Wp.int.R dF) ([[.int .i64 aY]]:List (List Value)) [aY] from⟨⟨rfl,bD⟩,trivial⟩)]|(rw[aZ];rfl))) ?_))
    intro fV bF happz37
    obtain⟨aF,bV,bW,fW,bX,rfl⟩:=bU _ _ _ _ _ (F3.ofPlain (U01 _) (show F2 (Wp.int.R dF) ([[.int .i64 aY]]:List (List Value)) [aY] from⟨⟨rfl,bD⟩,trivial⟩)) M4.ofPlain happz37
    have bY:=aF.r
    obtain⟨dI,fX⟩:=Sl.len bY
    subst dI
    obtain⟨gV,dJ,aB⟩:=C0 aB
    obtain⟨dK,eJ,dL,dM⟩:=E3 (F2.up (r:=Wp.opt.toRp) aF.sub aL) dJ
    refine aI dK ?_
    obtain⟨fY,fZ,gA,rfl,gB,dN⟩:=dM
    obtain⟨rfl,gC⟩:=Sl.len dN
    refine eX _ (aI dL ?_)
    obtain⟨gW,dO,aB⟩:=C0 aB
    refine aI (E1 dO (by first|rw[F2.length (F2.up (r:=Wp.int.toRp) aF.sub aQ),F2.length (show F2 (Wp.int.R bF) ([[.int .i64 aS]]:List (List Value)) [aS] from⟨⟨rfl,bO⟩,trivial⟩)]|exact congrArg (·+1) (F2.length (F2.up (r:=Wp.int.toRp) aF.sub aQ)))) ?_
    exact T2 bN ⟨(IntKind.i64.wrap (bA+1)),(aJ.set aS.toNat [.slice (some ⟨bV,bW,none⟩) (cI ++ [aY]).length bX]),(bB.set aS.toNat (some (cI ++ [aY]))),(aK++([[.int .i64 aS]]:List (List Value))),(bC ++ [aS]),rfl,rfl,(aP.trans aF.sub),(J0 _),(F2.set (p:=Wp.opt.R bF) (a:=[.slice (some ⟨bV,bW,none⟩) (cI ++ [aY]).length bX]) (b:=some (cI ++ [aY])) (m0i bY) aS.toNat (F2.up (r:=Wp.opt.toRp) aF.sub aL)),(F2.append (F2.up (r:=Wp.int.toRp) aF.sub aQ) (show F2 (Wp.int.R bF) ([[.int .i64 aS]]:List (List Value)) [aS] from⟨⟨rfl,bO⟩,trivial⟩)),aB⟩
   ·exact T2 bN ⟨(IntKind.i64.wrap (bA+1)),aJ,bB,aK,bC,rfl,rfl,aP,(J0 _),aL,aQ,aB⟩
  ·obtain rfl:=oJ aB
   try dsimp only[U0,V0]at aC
   exact T2 cE ⟨(IntKind.i64.wrap (u8+1)),aJ,bB,aK,bC,rfl,rfl,((cL.trans aU).trans aP),(J0 _),aL,aQ,aC⟩
 ·obtain rfl:=oJ aC
  try dsimp only[U0,V0]at aR
  intro gX gY gD
  obtain⟨dP,dQ,rfl,dR,bZ,gE⟩:=Q0.out (r:=Wp.int.toRp) gD aT
  intro gZ hJ gF
  obtain⟨dS,dT,rfl,dU,cC,gG⟩:=Q0.out (r:=N0.toRp) gF (F2.ofOpt (F2.up (r:=Wp.opt.toRp) bZ eA))
  obtain rfl:=oJ aR
  exact⟨dP,bG.length,dQ,dS,(List.map (λo:Option B0=>o.getD ([]:B0)) u9).length,dT,rfl,(N0.mono cC dR),dU,(((cJ.trans cL).trans bZ).trans cC)⟩
theorem H04(h:Hp)(aL:List Value)(p0:j0)(bD:Y0.R h aL p0)(r:B0)(aB:O6 p0=some r):
  Tr Tryz.prog 303 #[.agg aL.toArray] h λv h'=>∃(a0:Option Addr) (n0 c0:Nat),v = .slice a0 n0 c0/\N0.R h' [.slice a0 n0 c0] r/\Sub h h':=by
 obtain⟨aQ,aR,aM,aU,aN,aS,rfl,rfl,aF,aJ,aC⟩:=D0 bD
 obtain⟨rfl,aV⟩:=Sl.len aC
 unfold O6 at aB
 dsimp only at aB
 refine G3 (args:=[.agg #[.int .i64 aQ,.int .i64 aR,.slice aM aS.length aN]]) (fn:=Tryz.f303) rfl ?_
 refine trV aB (y9 _ _ _ (l0 aF aJ aC)) λx1 aB=>?_
 refine ifB aB (λbE aB=>?_) λbE aB=>?_
 ·intro v3 k4 f5
  obtain⟨bF,bG,rfl,bH,bI,bL⟩:=Q0.out (r:=Wp.int.toRp) f5 (show F2 (Wp.int.R h) ([]:List (List Value)) ([]:B0) from trivial)
  obtain rfl:=oJ aB
  exact⟨bF,(([]:B0)).length,bG,rfl,bH,bI⟩
 ·refine trM aB (Q07 _ _ _ (l0 aF aJ aC) 0 (by decide)) ?_
  rintro x7 aB v9 k8 ⟨aO,aX,aP,aY,aZ,bA,rfl,aD,aK,bJ⟩
  obtain⟨aT,bK⟩:=x7
  dsimp only at aB aD aK
  obtain⟨rfl,bB⟩:=Sl.len aD
  obtain⟨rfl,bC⟩:=Sl.len aK
  obtain rfl:=oJ aB
  exact⟨aO,aT.length,aP,rfl,aD,bJ⟩
theorem l01(h:Hp)(aP:List Value)(p0:j0)(bY:Y0.R h aP p0)(r:j0)(aB:L5 p0=some r):
  Tr Tryz.prog 221 #[.agg aP.toArray] h λv h'=>∃(bQ:List Value),v = .agg bQ.toArray/\New Y0 h h' bQ r:=by
 obtain⟨bC,bD,aQ,bR,aR,bE,rfl,rfl,aD,aF,aC⟩:=D0 bY
 obtain⟨rfl,bS⟩:=Sl.len aC
 unfold L5 at aB
 dsimp only at aB
 refine G3 (args:=[.agg #[.int .i64 bC,.int .i64 bD,.slice aQ bE.length aR]]) (fn:=Tryz.f221) rfl ?_
 refine trV aB (y9 _ _ _ (l0 aD aF aC)) λx1 aB=>?_
 refine ifB aB (λbZ aB=>?_) λbZ aB=>?_
 ·refine trM aB (W6 _ _ _ (l0 aD aF aC)) ?_
  rintro x3 aB v5 k4 ⟨aS,bT,aT,rfl,bB⟩
  have cE:Sub h k4:=bB.sub
  have bU:=bB.r
  obtain⟨bF,bG,bH⟩:=x3
  dsimp only at aB bB bU
  obtain⟨_,_,_,_,_,_,bI,bJ,aU,aV,aX⟩:=D0 bU
  cases bI
  cases bJ
  obtain⟨rfl,bV⟩:=Sl.len aX
  try dsimp only at aB
  have cC:=New.sndI (New.sndI (bB))
  obtain rfl:=oJ aB
  exact⟨([.int .i64 bF,.int .i64 bG,.slice (some ⟨aS,0,none⟩) bH.length aT]),rfl,(New.pair (New.int aU) (New.pair (New.int aV) cC))⟩
 ·refine Or.inr (Or.inr (Or.inl (aI (aI (by kernel_rfl) (by kernel_rfl)) ?_)))
  refine Or.inr ?_
  refine Or.inr ?_
  refine Or.inr ?_
  refine Or.inl (eX 2 (aI (aI rfl rfl) ?_))
  refine trM aB (H04 _ _ _ (l0 aD aF aC)) ?_
  rintro x7 aB v9 k8 ⟨cI,cJ,cK,rfl,bW,bK⟩
  obtain⟨rfl,cL⟩:=Sl.len bW
  refine aI (aI rfl bK) (aI (by first|exact trivial|exact rfl) ?_)
  refine trM aB (z05 _ _ _ (l0 aD aF (M0.mono bK aC)) _ _ _ _ bW) ?_
  rintro cM aB cN cD ⟨bX,rfl,aJ⟩
  have bL:Sub k8 cD:=aJ.sub
  have bM:=aJ.r
  obtain⟨aY,aZ,aK,bN,aL,bA,rfl,rfl,aM,aN,aO⟩:=D0 bM
  obtain⟨rfl,bO⟩:=Sl.len aO
  try dsimp only at aB
  have bP:=New.sndI (New.sndI (aJ))
  refine aI (aI rfl bL) (aI (by first|exact trivial|exact rfl) ?_)
  refine aI trivial (aI (by first|exact trivial|exact rfl) ?_)
  obtain rfl:=oJ aB
  exact⟨([.int .i64 aY,.int .i64 aZ,.slice aK bA.length aL]),rfl,(New.pair (New.int aM) (New.pair (New.int aN) (New.from bP bK)))⟩
theorem R03(h:Hp)(cJ:List Value)(p0:j0)(gI:Y0.R h cJ p0)(r:j0×B0)(aD:Y5 p0=some r):
  Tr Tryz.prog 220 #[.agg cJ.toArray] h λv h'=>∃(fR:List Value) (a1:Option Addr) (n1 c1:Nat),v = .tuple #[.agg fR.toArray,.slice a1 n1 c1]/\New Y0 h h' fR r.1/\N0.R h' [.slice a1 n1 c1] r.2:=by
 obtain⟨dY,bP,cK,fS,cL,dZ,rfl,rfl,bC,bD,aM⟩:=D0 gI
 obtain⟨rfl,fT⟩:=Sl.len aM
 unfold Y5 at aD
 dsimp only at aD
 refine G3 (args:=[.agg #[.int .i64 dY,.int .i64 bP,.slice cK dZ.length cL]]) (fn:=Tryz.f220) rfl ?_
 refine trM aD (W6 _ _ _ (l0 bC bD aM)) ?_
 rintro x1 aD v3 k2 ⟨bE,fU,bF,rfl,dV⟩
 have eA:Sub h k2:=dV.sub
 have fV:=dV.r
 obtain⟨cM,cN,bQ⟩:=x1
 dsimp only at aD dV fV
 obtain⟨_,_,_,_,_,_,eB,eC,bG,bH,cO⟩:=D0 fV
 cases eB
 cases eC
 obtain⟨rfl,fW⟩:=Sl.len cO
 try dsimp only at aD
 have fX:=New.sndI (New.sndI (dV))
 refine trV aD (a01 _ _ _ (l0 bC bD (M0.mono eA aM))) λx5 aD=>?_
 refine ifB aD (λgJ aD=>?_) λgJ aD=>?_
 ·intro v7 k8 f9
  obtain⟨eD,eE,rfl,eF,eG,gK⟩:=Q0.out (r:=Wp.int.toRp) f9 (show F2 (Wp.int.R k2) ([]:List (List Value)) ([]:B0) from trivial)
  obtain rfl:=oJ aD
  exact⟨([.int .i64 cM,.int .i64 cN,.slice (some ⟨bE,0,none⟩) bQ.length bF]),eD,(([]:B0)).length,eE,rfl,(New.pair (New.int bG) (New.pair (New.int bH) (New.mono fX eG))),eF⟩
 ·obtain⟨X11,cP,aD⟩:=C0 aD
  refine eX { vars:=[6],boxes:=[],owns:=[0],fuel:=true } (eX (λvs os h'=>∃ aL aT bR,vs.tail = [.int .i64 aL]/\os = [aT]/\Sub k2 h'/\P0 aL/\F2 (Wp.int.R h') aT bR/\Z4 bP (N1 vs) aL bR=some X11) (eX (λ_ _=>0) (aI (eX T0 ⟨0,[],([]:B0),rfl,rfl,(Sub.refl _),(by decide),(show F2 (Wp.int.R k2) ([]:List (List Value)) ([]:B0) from trivial),cP⟩) ?_)))
  rintro _ aT dW fY ⟨aL,fZ,bR,⟨⟩,⟨⟩,aU,cQ,aN,aB⟩
  replace aB:Z4 bP dW aL bR=some X11:=aB
  obtain _|dW:=dW
  ·cases aB
  rw[Z4.eq_2]at aB
  refine ifB aB (λeH aB=>?_) λeH aB=>?_
  ·obtain⟨iC,eI,aB⟩:=C0 aB
   refine aI (E1 eI (by first|rw[F2.length aN,F2.length (show F2 (Wp.int.R fY) ([[.int .i64 aL]]:List (List Value)) [aL] from⟨⟨rfl,cQ⟩,trivial⟩)]|exact congrArg (·+1) (F2.length aN))) ?_
   exact T2 dW ⟨(IntKind.i64.wrap (aL+1)),(aT++([[.int .i64 aL]]:List (List Value))),(bR ++ [aL]),rfl,rfl,aU,(J0 _),(F2.append aN (show F2 (Wp.int.R fY) ([[.int .i64 aL]]:List (List Value)) [aL] from⟨⟨rfl,cQ⟩,trivial⟩)),aB⟩
  ·obtain rfl:=oJ aB
   try dsimp only[U0,V0]at aD
   obtain⟨X22,cR,aD⟩:=C0 aD
   refine eX { vars:=[5],boxes:=[2],owns:=[],fuel:=true,pubs:=[5] } (eX (λvs os h'=>∃(aV:Option Addr) (bS aO:Nat) (cS:B0) (bI:Int) (aS:Int) (aX:Option Addr) (bT aY:Nat) (bU:O0),vs.tail = [.slice aV bS aO,.int .i64 bI,.int .i64 aS,.slice aX bT aY]/\os = []/\Sub h h'/\New N0 h h' [.slice aV bS aO] cS/\P0 bI/\P0 aS/\New M0 h h' [.slice aX bT aY] bU/\K4 (N1 vs) cS bI aS bU=some X22) (eX (λ_ _=>0) ?_))
   intro iD iE gA
   obtain⟨eJ,eK,rfl,gL,cT,gM⟩:=Q0.out (r:=Wp.int.toRp) gA aN
   refine aI (eX T0 ⟨eJ,bR.length,eK,bR,cM,cN,(some ⟨bE,0,none⟩),bQ.length,bF,bQ,rfl,rfl,((eA.trans aU).trans cT),(New.from (Q0.newPlain (r:=Wp.int) gA aN (U01 _)) (eA.trans aU)),bG,bH,(New.mono fX (aU.trans cT)),cR⟩) ?_
   rintro _ _ _ _ dX iF ⟨aV,bS,aO,cS,bI,aS,aX,bT,aY,bU,⟨⟩,⟨⟩,gN,bJ,aZ,bA,bK,aB⟩
   replace aB:K4 dX cS bI aS bU=some X22:=aB
   obtain _|dX:=dX
   ·cases aB
   rw[K4.eq_2]at aB
   have cU:=bJ.r
   obtain⟨rfl,eM⟩:=Sl.len cU
   have bB:=bK.r
   obtain⟨rfl,gO⟩:=Sl.len bB
   refine trM aB (T05 _ _ _ (l0 aZ bA bB) 0 (by decide)) ?_
   rintro gB aB iG gP ⟨gQ,gR,gS,rfl,cV,aJ⟩
   obtain⟨rfl,gT⟩:=Sl.len cV
   obtain⟨X32,cX,aB⟩:=C0 aB
   refine eX { vars:=[8,9],boxes:=[],owns:=[],fuel:=true } (eX (λvs os h'=>∃ bL bM,vs.tail = [.int .i64 bL,.int .i64 bM]/\os = []/\Sub gP h'/\P0 bL/\P0 bM/\P3 aS bI bU gB (N1 vs) bL bM=some X32) (eX (λ_ _=>0) (aI (eX T0 ⟨0,1,rfl,rfl,(Sub.refl _),(by decide),(by decide),cX⟩) ?_)))
   rintro _ _ cY eN ⟨bL,bM,⟨⟩,⟨⟩,aF,eO,cZ,aC⟩
   replace aC:P3 aS bI bU gB cY bL bM=some X32:=aC
   obtain _|cY:=cY
   ·cases aC
   rw[P3.eq_2]at aC
   refine ifB aC (λeP aC=>?_) λeP aC=>?_
   ·refine trV aC (B04 _ _ _ (l0 aZ bA (M0.mono (aJ.trans aF) bB)) _ cZ) λgU aC=>?_
    obtain⟨iH,eQ,aC⟩:=C0 aC
    have gV:P0 gU:=Y2 eQ
    obtain⟨iI,eR,aC⟩:=C0 aC
    obtain⟨gC,dA,eT⟩:=Sl.getG (r:=Wp.bool.toRp) ((Wp.slice Wp.bool).mono aF cV) eR (by decide) (d0k eN)
    refine aI (λq=>(dA q).1) ?_
    obtain rfl:=eT
    refine eX _ (aI (λq=>(dA q).2) ?_)
    refine ifB aC (λeU aC=>?_) λeU aC=>?_
    ·exact T2 cY ⟨bM,(IntKind.i64.wrap (bM+1)),rfl,rfl,aF,cZ,(J0 _),aC⟩
    ·exact T2 cY ⟨bL,(IntKind.i64.wrap (bM+1)),rfl,rfl,aF,eO,(J0 _),aC⟩
   ·obtain rfl:=oJ aC
    try dsimp only[U0,V0]at aB
    refine ifB aB (λeV aB=>?_) λeV aB=>?_
    ·obtain rfl:=oJ aB
     try dsimp only[t6,w6]at aD
     obtain rfl:=oJ aD
     exact⟨([.int .i64 bI,.int .i64 aS,.slice aX bU.length aY]),aV,cS.length,aO,rfl,(New.pair (New.int aZ) (New.pair (New.int bA) (New.mono bK (aJ.trans aF)))),(N0.mono (aJ.trans aF) cU)⟩
    ·obtain⟨X43,dB,aB⟩:=C0 aB
     refine eX { vars:=[11],boxes:=[],owns:=[1],fuel:=true } (eX (λvs os h'=>∃ aK aP cI,vs.tail = [.int .i64 aK]/\os = [aP]/\Sub eN h'/\P0 aK/\F2 (Wp.int.R h') aP cI/\J4 aS bL (N1 vs) aK cI=some X43) (eX (λ_ _=>0) (aI (eX T0 ⟨0,[],([]:B0),rfl,rfl,(Sub.refl _),(by decide),(show F2 (Wp.int.R eN) ([]:List (List Value)) ([]:B0) from trivial),dB⟩) ?_)))
     rintro _ aP dC gD ⟨aK,gE,cI,⟨⟩,⟨⟩,aQ,dD,aR,aC⟩
     replace aC:J4 aS bL dC aK cI=some X43:=aC
     obtain _|dC:=dC
     ·cases aC
     rw[J4.eq_2]at aC
     refine ifB aC (λeW aC=>?_) λeW aC=>?_
     ·refine ifB aC (λeY aC=>?_) λeY aC=>?_
      ·obtain⟨iJ,eZ,aC⟩:=C0 aC
       refine aI (E1 eZ (by first|rw[F2.length aR,F2.length (show F2 (Wp.int.R gD) ([[.int .i64 aK]]:List (List Value)) [aK] from⟨⟨rfl,dD⟩,trivial⟩)]|exact congrArg (·+1) (F2.length aR))) ?_
       exact T2 dC ⟨(IntKind.i64.wrap (aK+1)),(aP++([[.int .i64 aK]]:List (List Value))),(cI ++ [aK]),rfl,rfl,aQ,(J0 _),(F2.append aR (show F2 (Wp.int.R gD) ([[.int .i64 aK]]:List (List Value)) [aK] from⟨⟨rfl,dD⟩,trivial⟩)),aC⟩
      ·exact T2 dC ⟨(IntKind.i64.wrap (aK+1)),aP,cI,rfl,rfl,aQ,(J0 _),aR,aC⟩
     ·obtain rfl:=oJ aC
      try dsimp only[U0,V0]at aB
      refine Or.inl ?_
      intro iK gW gX
      obtain⟨gY,gZ,rfl,fA,bV,hJ⟩:=Q0.out (r:=Wp.int.toRp) gX aR
      refine trM aB (z05 _ _ _ (l0 aZ bA (M0.mono (((aJ.trans aF).trans aQ).trans bV) bB)) _ _ _ _ fA) ?_
      rintro iL aB iM hU ⟨gF,rfl,bW⟩
      have fB:Sub gW hU:=bW.sub
      have fC:=bW.r
      obtain⟨dE,dF,bX,fD,bY,bN,rfl,rfl,bZ,cC,cD⟩:=D0 fC
      obtain⟨rfl,fE⟩:=Sl.len cD
      try dsimp only at aB
      have fF:=New.sndI (New.sndI (bW))
      obtain⟨fH,dG,aB⟩:=C0 aB
      obtain⟨fI,dH,aB⟩:=C0 aB
      obtain⟨iN,fJ,aB⟩:=C0 aB
      obtain⟨dI,dJ,bO,fK,fL,Az62,Cz62,dK,dL,dM,dN,dO,gG,gH,dP,dQ,dR,dS,dT⟩:=New.drop bJ ((((aJ.trans aF).trans aQ).trans bV).trans fB) dG dH (M0m eM dG dH)
      subst dM
      refine Or.inr (Or.inr (Or.inl (aI (aI (by kernel_rfl) (by kernel_rfl)) ?_)))
      refine Or.inl (eX (.val (.slice (some ⟨fK,fL,none⟩) fH.length aO)) (aI ?_ ?_))
      ·intro hh sb
       obtain⟨vs,e⟩:=bO hh sb
       exact aI dJ (eX vs (aI e (λv _ hv=>aI (congrArg AV.val (dI v hv)) (aI rfl rfl))))
      refine Or.inl (eX (.val (.slice Az62 fI.length Cz62)) (aI ?_ ?_))
      ·intro hh sb
       obtain⟨vs,e⟩:=bO hh sb
       exact aI dO (eX vs (aI e (λv _ hv=>aI (congrArg AV.val (dN v hv)) (aI rfl rfl))))
      refine Or.inr ?_
      refine Or.inl (eX 0 (aI (aI rfl rfl) ?_))
      refine eX dL (aI dQ (eX dK (aI dP (aI (E1 fJ (by rw[dR,dS])) ?_))))
      intro hY hZ happz62
      obtain⟨cE,⟨fM,iA,fN,rfl⟩,dU⟩:=dT _ _ happz62
      have fO:=cE.r
      obtain⟨fP,iB⟩:=Sl.len fO
      subst fP
      refine aI trivial (aI (by first|exact trivial|exact rfl) ?_)
      have fQ:=dU K1.slice _ _ _ fF (((aJ.trans aF).trans aQ).trans bV)
      exact T2 dX ⟨fM,(fH++fI).length,fN,(fH++fI),dE,dF,bX,bN.length,bY,bN,rfl,rfl,cE.sub,cE,bZ,cC,fQ,aB⟩
theorem q03(h:Hp)(aX:List Value)(p0:j0)(cN:Y0.R h aX p0)(r:Bool)(aB:W7 p0=some r):
  Tr Tryz.prog 111 #[.agg aX.toArray] h λv h'=>v = .bool r/\h'=h:=by
 obtain⟨bN,aY,aZ,bV,bA,bO,rfl,rfl,aD,aF,aC⟩:=D0 cN
 obtain⟨rfl,bW⟩:=Sl.len aC
 unfold W7 at aB
 dsimp only at aB
 refine Tr.forget (G3 (args:=[.agg #[.int .i64 bN,.int .i64 aY,.slice aZ bO.length bA]]) (fn:=Tryz.f111) rfl ?_)
 refine trV aB (y9 _ _ _ (l0 aD aF aC)) λx1 aB=>?_
 refine ifB aB (λcO aB=>?_) λcO aB=>?_
 ·obtain rfl:=oJ aB
  exact aI rfl (Sub.refl _)
 ·refine trM aB (R03 _ _ _ (l0 aD aF aC)) ?_
  rintro x3 aB v5 k4 ⟨bP,bX,bY,bZ,rfl,aL,aP⟩
  obtain⟨cP,cQ⟩:=x3
  dsimp only at aB aL aP
  have bQ:Sub h k4:=aL.sub
  have bB:=aL.r
  obtain⟨bR,aQ,bH,bI,bJ,bS,rfl,rfl,bK,bL,aN⟩:=D0 bB
  obtain⟨rfl,bM⟩:=Sl.len aN
  try dsimp only at aB
  obtain⟨rfl,cC⟩:=Sl.len aP
  refine Or.inr (Or.inr (Or.inr (Or.inl (aI (aI (by kernel_rfl) (by kernel_rfl)) ?_))))
  refine Or.inl (eX (.val (.bool (decide (aQ=aY)))) (aI ?_ ?_))
  ·intro k6 s7
   exact aI rfl (aI rfl rfl)
  obtain⟨x8,cR,aB⟩:=C0 aB
  obtain⟨bC,bD,aO⟩:=x8
  try dsimp only at aB
  refine Or.inr (eX (λv hh=>∃(aJ:Option Addr) (aK:Nat),v = .agg #[.int .i64 bC,.int .i64 bD,.slice aJ aO.length aK]/\P0 bC/\P0 bD/\M0.R hh [.slice aJ aO.length aK] aO/\aO.length<=9223372036854775807) (aI (λv h1 h2 sb q=>by obtain⟨aJ,aK,e,f0,f1,f2,f3⟩:=q;exact⟨aJ,aK,e,f0,f1,M0.mono sb f2,f3⟩) (aI ?_ ?_)))
  ·intro k9 cS hq
   refine Tr.mono (l01 _ _ _ (l0 aD aF (M0.mono (bQ.trans cS) aC)) _ (R00 cR hq)) ?_
   rintro _ kk ⟨cT,rfl,cD⟩
   have sb:=cD.sub
   have cU:=cD.r
   obtain⟨cE,cI,aR,bT,aS,cJ,rfl,ey,aT,aU,aM⟩:=D0 cU
   cases ey
   obtain⟨rfl,aV⟩:=Sl.len aM
   exact aI H03 (aI sb ⟨aR,aS,rfl,aT,aU,aM,aV⟩)
  obtain⟨cV,bU,aB⟩:=C0 aB
  refine Or.inl (eX (.val (.bool cV)) (aI ?_ ?_))
  ·intro cZ cX hq
   rintro _ ⟨cK,cL,rfl,bE,bF,bG,cM⟩
   exact Tr.val (K02 _ _ _ (l0 bE bF bG) _ _ (l0 aD aF (M0.mono (bQ.trans cX) aC)) _ (R00 bU hq)) (aI rfl (aI rfl rfl))
  intro dA cY
  obtain rfl:=oJ aB
  exact aI rfl (bQ.trans cY)
theorem f01(h:Hp)(p0:Int)(aP:P0 p0)(aJ:Nat)(aK:TypeId)(aD:Int)(aL:P0 aD)(aB:Int)(aM:P0 aB)(aF:h aJ=some (.cells #[.int .i64 aD,.int .i64 aB] aK (0,0)))(r:Int)(aC:p5 p0 (aD,aB)=some r):
  Tr Tryz.prog 366 #[.int .i64 p0,ptr aJ 0] h λv h'=>v = .int .i64 r/\h'=h:=by
 unfold p5 at aC
 dsimp only at aC
 refine Tr.forget (G3 (args:=[.int .i64 p0,ptr aJ 0]) (fn:=Tryz.f366) rfl ?_)
 refine eX (.int .i64 aB) (aI ⟨rfl,by simp[Hp.cell,(aF)]⟩ ?_)
 refine ifB aC (λaN aC=>?_) λaN aC=>?_
 ·refine eX (.int .i64 aD) (aI ⟨rfl,by simp[Hp.cell,(aF)]⟩ ?_)
  obtain rfl:=oJ aC
  exact aI rfl (Sub.refl _)
 ·refine eX (.int .i64 aB) (aI ⟨rfl,by simp[Hp.cell,(aF)]⟩ ?_)
  refine ifB aC (λaO aC=>?_) λaO aC=>?_
  ·obtain rfl:=oJ aC
   exact aI rfl (Sub.refl _)
  ·obtain rfl:=oJ aC
   exact aI rfl (Sub.refl _)
theorem e0e(h:Hp)(bA:List Value)(p0:j0)(cP:Y0.R h bA p0)(r:l7)(aZ:V00 p0=some r):
  Tr Tryz.prog 365 #[.agg bA.toArray] h λv h'=>∃(a0:Option Addr) (n0 c0:Nat),v = .slice a0 n0 c0/\J0d.R h' [.slice a0 n0 c0] r/\Sub h h':=by
 obtain⟨bG,bH,bB,cC,bC,aX,rfl,rfl,cD,cE,aR⟩:=D0 cP
 obtain⟨rfl,cI⟩:=Sl.len aR
 unfold V00 at aZ
 dsimp only at aZ
 refine G3 (args:=[.agg #[.int .i64 bG,.int .i64 bH,.slice bB aX.length bC]]) (fn:=Tryz.f365) rfl ?_
 obtain⟨X1,bI,aZ⟩:=C0 aZ
 refine eX { vars:=[12],boxes:=[],owns:=[0],fuel:=true } (eX (λvs os h'=>∃ u2 bE u3,vs.tail = [.int .i64 u2]/\os = [bE]/\Sub h h'/\P0 u2/\F2 (B4.R h') bE u3/\w7 aX (N1 vs) u2 u3=some X1) (eX (λ_ _=>0) (aI (eX T0 ⟨0,[],([]:l7),rfl,rfl,(Sub.refl _),(by decide),(show F2 (B4.R h) ([]:List (List Value)) ([]:l7) from trivial),bI⟩) ?_)))
 rintro _ bE m5 k4 ⟨u2,cQ,u3,⟨⟩,⟨⟩,bF,dD,cJ,aQ⟩
 replace aQ:w7 aX m5 u2 u3=some X1:=aQ
 obtain _|m5:=m5
 ·cases aQ
 rw[w7.eq_2]at aQ
 refine ifB aQ (λcR aQ=>?_) λcR aQ=>?_
 ·refine ld aQ (M0.mono bF aR) λx7 cS cT aQ=>?_
  obtain⟨aF,bD,aD,rfl,rfl,aN,cK,aM⟩:=H1 cT
  try dsimp only at aQ
  obtain⟨x8,cU,aQ⟩:=C0 aQ
  obtain⟨cV,bJ,cX,cY⟩:=Sl.cutI (r:=K1.toRp) (M0.mono bF aR) cU
  refine aI cV (eX bJ (aI cX ?_))
  intro cZ bK _
  obtain⟨dE,dF,rfl,cL⟩:=cY cZ bK
  have dG:=(Sl.len cL).2
  obtain⟨X9,bL,aQ⟩:=C0 aQ
  refine eX { vars:=[23],boxes:=[],owns:=[0],fuel:=true } (eX (λvs os h'=>∃ aS aP aT,vs.tail = [.int .i64 aS]/\os = [aP]/\Sub k4 h'/\P0 aS/\F2 (B4.R h') aP aT/\E4 x8 bD aF aD (N1 vs) aS aT=some X9) (eX (λ_ _=>0) (aI (eX T0 ⟨0,bE,u3,rfl,rfl,(Sub.refl _),(by decide),cJ,bL⟩) ?_)))
  rintro _ aP aV aU ⟨aS,cM,aT,⟨⟩,⟨⟩,aY,dA,aO,aL⟩
  replace aL:E4 x8 bD aF aD aV aS aT=some X9:=aL
  obtain _|aV:=aV
  ·cases aL
  rw[E4.eq_2]at aL
  refine ifB aL (λbM aL=>?_) λbM aL=>?_
  ·refine ld aL (M0.mono aY cL) λdH cN bN aL=>?_
   obtain⟨aC,cO,aB,rfl,rfl,aK,bO,aJ⟩:=H1 bN
   try dsimp only at aL
   refine ifB aL (λbP aL=>?_) λbP aL=>?_
   ·exact T2 aV ⟨(IntKind.i64.wrap (aS+1)),aP,aT,rfl,rfl,aY,(J0 _),aO,aL⟩
   ·refine ifB aL (λbQ aL=>?_) λbQ aL=>?_
    ·obtain⟨dI,bR,aL⟩:=C0 aL
     refine aI (E1 bR (by first|rw[F2.length aO,F2.length (show F2 (B4.R aU) ([[.int .i64 (if aB<aD then aB else aD),.int .i64 (if aB>aD then aB else aD)]]:List (List Value)) [((if aB<aD then aB else aD),(if aB>aD then aB else aD))] from⟨(U1 (Y6 aJ aM) (Y6 aJ aM)),trivial⟩)]|exact congrArg (·+1) (F2.length aO))) ?_
     refine ifB aL (λbS aL=>?_) λbS aL=>?_
     ·obtain⟨dJ,bT,aL⟩:=C0 aL
      refine aI (E1 bT (by first|rw[F2.length (F2.append aO (show F2 (B4.R aU) ([[.int .i64 (if aB<aD then aB else aD),.int .i64 (if aB>aD then aB else aD)]]:List (List Value)) [((if aB<aD then aB else aD),(if aB>aD then aB else aD))] from⟨(U1 (Y6 aJ aM) (Y6 aJ aM)),trivial⟩)),F2.length (show F2 (B4.R aU) ([[.int .i64 (if aC<aF then aC else aF),.int .i64 (if aC>aF then aC else aF)]]:List (List Value)) [((if aC<aF then aC else aF),(if aC>aF then aC else aF))] from⟨(U1 (Y6 aK aN) (Y6 aK aN)),trivial⟩)]|exact congrArg (·+1) (F2.length (F2.append aO (show F2 (B4.R aU) ([[.int .i64 (if aB<aD then aB else aD),.int .i64 (if aB>aD then aB else aD)]]:List (List Value)) [((if aB<aD then aB else aD),(if aB>aD then aB else aD))] from⟨(U1 (Y6 aJ aM) (Y6 aJ aM)),trivial⟩))))) ?_
      exact T2 aV ⟨(IntKind.i64.wrap (aS+1)),((aP++([[.int .i64 (if aB<aD then aB else aD),.int .i64 (if aB>aD then aB else aD)]]:List (List Value)))++([[.int .i64 (if aC<aF then aC else aF),.int .i64 (if aC>aF then aC else aF)]]:List (List Value))),((aT ++ [((if aB<aD then aB else aD),(if aB>aD then aB else aD))]) ++ [((if aC<aF then aC else aF),(if aC>aF then aC else aF))]),rfl,rfl,aY,(J0 _),(F2.append (F2.append aO (show F2 (B4.R aU) ([[.int .i64 (if aB<aD then aB else aD),.int .i64 (if aB>aD then aB else aD)]]:List (List Value)) [((if aB<aD then aB else aD),(if aB>aD then aB else aD))] from⟨(U1 (Y6 aJ aM) (Y6 aJ aM)),trivial⟩)) (show F2 (B4.R aU) ([[.int .i64 (if aC<aF then aC else aF),.int .i64 (if aC>aF then aC else aF)]]:List (List Value)) [((if aC<aF then aC else aF),(if aC>aF then aC else aF))] from⟨(U1 (Y6 aK aN) (Y6 aK aN)),trivial⟩)),aL⟩
     ·exact T2 aV ⟨(IntKind.i64.wrap (aS+1)),(aP++([[.int .i64 (if aB<aD then aB else aD),.int .i64 (if aB>aD then aB else aD)]]:List (List Value))),(aT ++ [((if aB<aD then aB else aD),(if aB>aD then aB else aD))]),rfl,rfl,aY,(J0 _),(F2.append aO (show F2 (B4.R aU) ([[.int .i64 (if aB<aD then aB else aD),.int .i64 (if aB>aD then aB else aD)]]:List (List Value)) [((if aB<aD then aB else aD),(if aB>aD then aB else aD))] from⟨(U1 (Y6 aJ aM) (Y6 aJ aM)),trivial⟩)),aL⟩
    ·refine ifB aL (λbU aL=>?_) λbU aL=>?_
     ·obtain⟨dK,bV,aL⟩:=C0 aL
      refine aI (E1 bV (by first|rw[F2.length aO,F2.length (show F2 (B4.R aU) ([[.int .i64 (if aC<aF then aC else aF),.int .i64 (if aC>aF then aC else aF)]]:List (List Value)) [((if aC<aF then aC else aF),(if aC>aF then aC else aF))] from⟨(U1 (Y6 aK aN) (Y6 aK aN)),trivial⟩)]|exact congrArg (·+1) (F2.length aO))) ?_
      exact T2 aV ⟨(IntKind.i64.wrap (aS+1)),(aP++([[.int .i64 (if aC<aF then aC else aF),.int .i64 (if aC>aF then aC else aF)]]:List (List Value))),(aT ++ [((if aC<aF then aC else aF),(if aC>aF then aC else aF))]),rfl,rfl,aY,(J0 _),(F2.append aO (show F2 (B4.R aU) ([[.int .i64 (if aC<aF then aC else aF),.int .i64 (if aC>aF then aC else aF)]]:List (List Value)) [((if aC<aF then aC else aF),(if aC>aF then aC else aF))] from⟨(U1 (Y6 aK aN) (Y6 aK aN)),trivial⟩)),aL⟩
     ·exact T2 aV ⟨(IntKind.i64.wrap (aS+1)),aP,aT,rfl,rfl,aY,(J0 _),aO,aL⟩
  ·obtain rfl:=oJ aL
   try dsimp only[U0,V0]at aQ
   exact T2 m5 ⟨(IntKind.i64.wrap (u2+1)),aP,aT,rfl,rfl,(bF.trans aY),(J0 _),aO,aQ⟩
 ·obtain rfl:=oJ aQ
  try dsimp only[U0,V0]at aZ
  intro dL dM dB
  obtain⟨bW,bX,rfl,bY,bZ,dC⟩:=Q0.out (r:=B4.toRp) dB cJ
  obtain rfl:=oJ aZ
  exact⟨bW,u3.length,bX,rfl,bY,(bF.trans bZ)⟩
theorem W08(h:Hp)(aJ:List Value)(p0:j0)(aZ:Y0.R h aJ p0)(r:Q4×Bool)(aB:c8 p0=some r):
  Tr Tryz.prog 346 #[.agg aJ.toArray] h λv h'=>∃(aT:List Value),v = .tuple #[.agg aT.toArray,.bool r.2]/\B4.R h' aT r.1/\Sub h h':=by
 obtain⟨aO,aP,aK,aU,aL,aQ,rfl,rfl,aD,aF,aC⟩:=D0 aZ
 obtain⟨rfl,aV⟩:=Sl.len aC
 unfold c8 at aB
 dsimp only at aB
 refine G3 (args:=[.agg #[.int .i64 aO,.int .i64 aP,.slice aK aQ.length aL]]) (fn:=Tryz.f346) rfl ?_
 refine trV aB (a01 _ _ _ (l0 aD aF aC)) λx1 aB=>?_
 refine ifB aB (λbA aB=>?_) λbA aB=>?_
 ·obtain rfl:=oJ aB
  exact⟨([.int .i64 0,.int .i64 0]),rfl,(U1 (by decide) (by decide)),(Sub.refl _)⟩
 ·refine trM aB (e0e _ _ _ (l0 aD aF aC)) ?_
  rintro x3 aB v5 k4 ⟨bE,bF,bG,rfl,aX,aY⟩
  obtain⟨rfl,bH⟩:=Sl.len aX
  refine ifB aB (λbB aB=>?_) λbB aB=>?_
  ·obtain rfl:=oJ aB
   exact⟨([.int .i64 0,.int .i64 0]),rfl,(U1 (by decide) (by decide)),aY⟩
  ·refine ld aB aX λx7 bC bD aB=>?_
   obtain⟨aR,aS,rfl,rfl,aM,aN⟩:=T00 bD
   try dsimp only at aB
   obtain rfl:=oJ aB
   exact⟨([.int .i64 aR,.int .i64 aS]),rfl,(U1 aM aN),aY⟩
theorem A05(h:Hp)(bC:List Value)(p0:j0)(dI:Y0.R h bC p0)(bD:List Value)(p1:Q4)(dJ:B4.R h bD p1)(r:j0×Bool)(aC:c6 p0 p1=some r):
  Tr Tryz.prog 347 #[.agg bC.toArray,.agg bD.toArray] h λv h'=>∃(cT:List Value),v = .tuple #[.agg cT.toArray,.bool r.2]/\New Y0 h h' cT r.1:=by
 obtain⟨bQ,bR,bE,cU,bF,bS,rfl,rfl,aN,aO,aJ⟩:=D0 dI
 obtain⟨rfl,cV⟩:=Sl.len aJ
 obtain⟨aD,aF,rfl,rfl,aP,aQ⟩:=T00 dJ
 unfold c6 at aC
 dsimp only at aC
 refine G3 (args:=[.agg #[.int .i64 bQ,.int .i64 bR,.slice bE bS.length bF],.agg #[.int .i64 aD,.int .i64 aF]]) (fn:=Tryz.f347) rfl ?_
 refine trM aC (W6 _ _ _ (l0 aN aO aJ)) ?_
 rintro x1 aC v3 k2 ⟨aK,cX,aR,rfl,bO⟩
 have cY:Sub h k2:=bO.sub
 have cZ:=bO.r
 obtain⟨bG,bH,aL⟩:=x1
 dsimp only at aC bO cZ
 obtain⟨_,_,_,_,_,_,bT,bU,aS,bI,bJ⟩:=D0 cZ
 cases bT
 cases bU
 obtain⟨rfl,dA⟩:=Sl.len bJ
 try dsimp only at aC
 have bV:=New.sndI (New.sndI (bO))
 refine trV aC (a01 _ _ _ (l0 aN aO (M0.mono cY aJ))) λx5 aC=>?_
 refine ifB aC (λdK aC=>?_) λdK aC=>?_
 ·obtain rfl:=oJ aC
  exact⟨([.int .i64 bG,.int .i64 bH,.slice (some ⟨aK,0,none⟩) aL.length aR]),rfl,(New.pair (New.int aS) (New.pair (New.int bI) bV))⟩
 ·intro b7 bW
  have dL:(Hp.set k2 b7 (.cells #[.int .i64 aD,.int .i64 aF] 246 (0,0))) b7=some (.cells #[.int .i64 aD,.int .i64 aF] 246 (0,0)):=Hp.set_same _ _ _
  have neb7gx1_2:b7≠aK:=λe=>New.blk bV (Sub.refl _) (e▸bW)
  obtain⟨X8,bX,aC⟩:=C0 aC
  refine eX { vars:=[39],boxes:=[],owns:=[],fuel:=true } (eX (λvs os h'=>∃ u9 bK,vs.tail = [.int .i64 u9]/\os = []/\Sub h h'/\P0 u9/\New M0 h h' [.slice (some ⟨aK,0,none⟩) aL.length aR] bK/\h' b7=some (.cells #[.int .i64 aD,.int .i64 aF] 246 (0,0))/\i4 aL aD aF (N1 vs) u9 bK=some X8) (eX (λ_ _=>0) (aI (eX T0 ⟨0,aL,rfl,rfl,(cY.trans (Sub.set bW)),(by decide),(New.mono bV (Sub.set bW)),dL,bX⟩) ?_)))
  rintro _ bP dM ⟨u9,bK,⟨⟩,⟨⟩,dN,dY,aT,aU,aB⟩
  replace aB:i4 aL aD aF bP u9 bK=some X8:=aB
  obtain _|bP:=bP
  ·cases aB
  rw[i4.eq_2]at aB
  have aV:=aT.r
  refine ifB aB (λbY aB=>?_) λbY aB=>?_
  ·refine ld aB aV λdZ dB bZ aB=>?_
   obtain⟨dC,aM,dD,rfl,rfl,aX,aY,aZ⟩:=H1 bZ
   try dsimp only at aB
   refine Or.inr (Or.inr (Or.inl (aI (aI (by kernel_rfl) (by kernel_rfl)) ?_)))
   obtain⟨bL,cC,aB⟩:=C0 aB
   obtain⟨eA,cD,aB⟩:=C0 aB
   have cE:P0 bL:=Y2 cD
   refine Or.inl (eX (.val (.int .i64 bL)) (aI ?_ ?_))
   ·intro eB dO
    exact Tr.val (f01 _ _ aX b7 246 _ aP _ aQ (dO _ _ aU) _ cC) (aI rfl (aI rfl rfl))
   obtain⟨bM,cI,aB⟩:=C0 aB
   obtain⟨eC,cJ,aB⟩:=C0 aB
   have cK:P0 bM:=Y2 cJ
   refine Or.inl (eX (.val (.int .i64 bM)) (aI ?_ ?_))
   ·intro eD dP
    exact Tr.val (f01 _ _ aZ b7 246 _ aP _ aQ (dP _ _ aU) _ cI) (aI rfl (aI rfl rfl))
   refine Or.inl (eX (.agg [.val (.int .i64 bL),.val (.int .i64 aM),.val (.int .i64 bM)]) (aI ?_ ?_))
   ·intro eE eF
    exact aI rfl (aI rfl rfl)
   refine Or.inr ?_
   refine Or.inr ?_
   refine Or.inl (eX 0 (aI (aI rfl rfl) ?_))
   obtain⟨eG,bA,aB⟩:=C0 aB
   obtain⟨cL,dE,dQ,cM⟩:=Sl.getI (r:=K1.toRp) aV bA (by decide)
   refine aI cL ?_
   obtain⟨dF,dG,dH,rfl,rfl,cN,cO,cP⟩:=H1 cM
   try dsimp only at aB
   refine aI trivial (aI (by first|exact trivial|exact rfl) ?_)
   refine New.put (r:=K1) aT (Sub.refl _) (b0m bA).1 (new:=[.int .i64 bL,.int .i64 aM,.int .i64 bM]) (By:=[]) (d0e _ _ _ (Q1 cE aY cK)) (M4.nil _) rfl (b0m bA).2 ?_
   intro dR w28 bN _
   have dS:=w28.r
   have hpw28b7:dR b7=some (.cells #[.int .i64 aD,.int .i64 aF] 246 (0,0)):=(bN b7 neb7gx1_2).trans aU
   refine aI trivial (aI (by first|exact trivial|exact rfl) ?_)
   exact T2 bP ⟨(IntKind.i64.wrap (u9+1)),(bK.set u9.toNat (bL,aM,bM)),rfl,rfl,w28.sub,(J0 _),w28,(hpw28b7),aB⟩
  ·obtain rfl:=oJ aB
   try dsimp only[U0,V0]at aC
   refine trM aC (l06 _ _ _ _ _ aV) ?_
   rintro dT aC eH dU ⟨cQ,dV,cR,rfl,bB⟩
   have dW:Sub dM dU:=bB.sub
   have cS:=bB.r
   obtain⟨rfl,dX⟩:=Sl.len cS
   obtain rfl:=oJ aC
   exact⟨([.int .i64 bG,.int .i64 (IntKind.i64.wrap (bH-1)),.slice cQ dT.length cR]),rfl,(New.pair (New.int aS) (New.pair (New.int (J0 _)) (New.from bB dN)))⟩
theorem D09(h:Hp)(aY:List Value)(p0:j0)(cI:Y0.R h aY p0)(r:j0×Q4×Bool)(aB:p9 p0=some r):
  Tr Tryz.prog 331 #[.agg aY.toArray] h λv h'=>∃(bW:List Value) (bX:List Value),v = .tuple #[.agg bW.toArray,.agg bX.toArray,.bool r.2.2]/\New Y0 h h' bW r.1/\B4.R h' bX r.2.1:=by
 obtain⟨bL,bM,aZ,bY,bA,bN,rfl,rfl,aK,aL,aC⟩:=D0 cI
 obtain⟨rfl,bZ⟩:=Sl.len aC
 unfold p9 at aB
 dsimp only at aB
 refine G3 (args:=[.agg #[.int .i64 bL,.int .i64 bM,.slice aZ bN.length bA]]) (fn:=Tryz.f331) rfl ?_
 refine trM aB (W08 _ _ _ (l0 aK aL aC)) ?_
 rintro x1 aB v3 k2 ⟨bO,rfl,aR,bH⟩
 obtain⟨cJ,cK⟩:=x1
 dsimp only at aB aR
 obtain⟨aS,aT,rfl,rfl,aD,aF⟩:=T00 aR
 try dsimp only at aB
 refine ifB aB (λcL aB=>?_) λcL aB=>?_
 ·refine trM aB (W6 _ _ _ (l0 aK aL (M0.mono bH aC))) ?_
  rintro x5 aB v7 k6 ⟨bB,cC,bC,rfl,bI⟩
  have cQ:Sub k2 k6:=bI.sub
  have cD:=bI.r
  obtain⟨bP,bQ,bR⟩:=x5
  dsimp only at aB bI cD
  obtain⟨_,_,_,_,_,_,bS,bT,bD,bE,bF⟩:=D0 cD
  cases bS
  cases bT
  obtain⟨rfl,cE⟩:=Sl.len bF
  try dsimp only at aB
  have cM:=New.sndI (New.sndI (bI))
  obtain rfl:=oJ aB
  exact⟨([.int .i64 bP,.int .i64 bQ,.slice (some ⟨bB,0,none⟩) bR.length bC]),([.int .i64 0,.int .i64 0]),rfl,(New.pair (New.int bD) (New.pair (New.int bE) (New.from cM bH))),(U1 (by decide) (by decide))⟩
 ·refine trM aB (A05 _ _ _ (l0 aK aL (M0.mono bH aC)) _ _ (U1 aD aF)) ?_
  rintro x9 aB cR cN ⟨bU,rfl,aJ⟩
  obtain⟨cO,cP⟩:=x9
  dsimp only at aB aJ
  have cS:Sub k2 cN:=aJ.sub
  have bG:=aJ.r
  obtain⟨aU,aV,aM,bJ,aN,aX,rfl,rfl,aO,aP,aQ⟩:=D0 bG
  obtain⟨rfl,bK⟩:=Sl.len aQ
  try dsimp only at aB
  have bV:=New.sndI (New.sndI (aJ))
  refine Or.inr (Or.inr (Or.inl (aI (aI (by kernel_rfl) (by kernel_rfl)) ?_)))
  refine Or.inr ?_
  refine Or.inr ?_
  refine Or.inl (eX 0 (aI (aI rfl rfl) ?_))
  refine aI trivial (aI (by first|exact trivial|exact rfl) ?_)
  refine aI trivial (aI (by first|exact trivial|exact rfl) ?_)
  obtain rfl:=oJ aB
  exact⟨([.int .i64 aU,.int .i64 aV,.slice aM aX.length aN]),([.int .i64 aS,.int .i64 aT]),rfl,(New.pair (New.int aO) (New.pair (New.int aP) (New.from bV bH))),(U1 aD aF)⟩
theorem J0b(h:Hp)(aZ:List Value)(p0:j0)(dF:Y0.R h aZ p0)(r:j0×l7)(aT:U9 p0=some r):
  Tr Tryz.prog 283 #[.agg aZ.toArray] h λv h'=>∃(cR:List Value) (a1:Option Addr) (n1 c1:Nat),v = .tuple #[.agg cR.toArray,.slice a1 n1 c1]/\New Y0 h h' cR r.1/\J0d.R h' [.slice a1 n1 c1] r.2:=by
 obtain⟨bV,bW,bA,cS,bB,bX,rfl,rfl,bC,bD,aX⟩:=D0 dF
 obtain⟨rfl,cT⟩:=Sl.len aX
 unfold U9 at aT
 dsimp only at aT
 refine G3 (args:=[.agg #[.int .i64 bV,.int .i64 bW,.slice bA bX.length bB]]) (fn:=Tryz.f283) rfl ?_
 refine trM aT (W6 _ _ _ (l0 bC bD aX)) ?_
 rintro x1 aT v3 k2 ⟨bE,cU,bF,rfl,bN⟩
 have dG:Sub h k2:=bN.sub
 have cV:=bN.r
 obtain⟨bY,bZ,bG⟩:=x1
 dsimp only at aT bN cV
 obtain⟨_,_,_,_,_,_,cC,cD,bH,bI,bJ⟩:=D0 cV
 cases cC
 cases cD
 obtain⟨rfl,cX⟩:=Sl.len bJ
 try dsimp only at aT
 have dH:=New.sndI (New.sndI (bN))
 obtain⟨X5,cE,aT⟩:=C0 aT
 refine eX { vars:=[],boxes:=[2],owns:=[0],fuel:=true } (eX (λvs os h'=>∃ u6 u7 bO cI bP u8 bQ u9,vs.tail = [.int .i64 u6,.int .i64 u7,.slice bO cI bP]/\os = [bQ]/\Sub k2 h'/\P0 u6/\P0 u7/\New M0 h h' [.slice bO cI bP] u8/\F2 (B4.R h') bQ u9/\d6 (N1 vs) u6 u7 u8 u9=some X5) (eX (λ_ _=>0) (aI (eX T0 ⟨bY,bZ,(some ⟨bE,0,none⟩),bG.length,bF,bG,[],([]:l7),rfl,rfl,(Sub.refl _),bH,bI,dH,(show F2 (B4.R k2) ([]:List (List Value)) ([]:l7) from trivial),cE⟩) ?_)))
 rintro _ _ _ bQ bR dI ⟨u6,u7,bO,cI,bP,u8,dJ,u9,⟨⟩,⟨⟩,cY,cZ,dA,bK,bS,aK⟩
 replace aK:d6 bR u6 u7 u8 u9=some X5:=aK
 obtain _|bR:=bR
 ·cases aK
 rw[d6.eq_2]at aK
 have dB:=bK.r
 obtain⟨rfl,dN⟩:=Sl.len dB
 refine trM aK (D09 _ _ _ (l0 cZ dA dB)) ?_
 rintro dK aK dO cJ ⟨bT,bU,rfl,aD,aN⟩
 obtain⟨dC,dD,dE⟩:=dK
 dsimp only at aK aD aN
 have aM:Sub dI cJ:=aD.sub
 have aY:=aD.r
 obtain⟨aU,aV,aO,bL,aP,aL,rfl,rfl,aQ,aR,aS⟩:=D0 aY
 obtain⟨rfl,bM⟩:=Sl.len aS
 try dsimp only at aK
 have cK:=New.sndI (New.sndI (aD))
 obtain⟨aB,aC,rfl,rfl,aF,aJ⟩:=T00 aN
 try dsimp only at aK
 refine ifB aK (λcL aK=>?_) λcL aK=>?_
 ·intro dP dQ dL
  obtain⟨cM,cN,rfl,cO,cP,dM⟩:=Q0.out (r:=B4.toRp) dL (F2.up (r:=B4.toRp) aM bS)
  obtain rfl:=oJ aK
  try dsimp only[t6,w6]at aT
  obtain rfl:=oJ aT
  exact⟨([.int .i64 u6,.int .i64 u7,.slice bO u8.length bP]),cM,u9.length,cN,rfl,(New.pair (New.int cZ) (New.pair (New.int dA) (New.mono bK (aM.trans cP)))),cO⟩
 ·obtain⟨dR,cQ,aK⟩:=C0 aK
  refine aI (E1 cQ (by first|rw[F2.length (F2.up (r:=B4.toRp) aM bS),F2.length (show F2 (B4.R cJ) ([[.int .i64 aB,.int .i64 aC]]:List (List Value)) [(aB,aC)] from⟨(U1 aF aJ),trivial⟩)]|exact congrArg (·+1) (F2.length (F2.up (r:=B4.toRp) aM bS)))) ?_
  exact T2 bR ⟨aU,aV,aO,aL.length,aP,aL,(bQ++([[.int .i64 aB,.int .i64 aC]]:List (List Value))),(u9 ++ [(aB,aC)]),rfl,rfl,(cY.trans aM),aQ,aR,(New.from cK (dG.trans cY)),(F2.append (F2.up (r:=B4.toRp) aM bS) (show F2 (B4.R cJ) ([[.int .i64 aB,.int .i64 aC]]:List (List Value)) [(aB,aC)] from⟨(U1 aF aJ),trivial⟩)),aK⟩
theorem X08(h:Hp)(aR:List Value)(p0:j0)(cU:Y0.R h aR p0)(r:j0)(aB:U8 p0=some r):
  Tr Tryz.prog 196 #[.agg aR.toArray] h λv h'=>∃(cE:List Value),v = .agg cE.toArray/\New Y0 h h' cE r:=by
 obtain⟨bM,bN,aS,cI,aT,bO,rfl,rfl,aU,aV,aO⟩:=D0 cU
 obtain⟨rfl,cJ⟩:=Sl.len aO
 unfold U8 at aB
 dsimp only at aB
 refine G3 (args:=[.agg #[.int .i64 bM,.int .i64 bN,.slice aS bO.length aT]]) (fn:=Tryz.f196) rfl ?_
 refine trM aB (J0b _ _ _ (l0 aU aV aO)) ?_
 rintro x1 aB v3 k2 ⟨bP,cK,cL,cM,rfl,aC,aP⟩
 obtain⟨cV,cX⟩:=x1
 dsimp only at aB aC aP
 have cY:Sub h k2:=aC.sub
 have aX:=aC.r
 obtain⟨bQ,bR,bE,bF,bG,bS,rfl,rfl,aK,aL,aD⟩:=D0 aX
 obtain⟨rfl,bH⟩:=Sl.len aD
 try dsimp only at aB
 have dF:=New.sndI (New.sndI (aC))
 obtain⟨rfl,cN⟩:=Sl.len aP
 refine trM aB (R03 _ _ _ (l0 aK aL aD)) ?_
 rintro x5 aB v7 k6 ⟨bT,cO,cP,cQ,rfl,aF,aQ⟩
 obtain⟨cZ,dA⟩:=x5
 dsimp only at aB aF aQ
 have dB:Sub k2 k6:=aF.sub
 have aY:=aF.r
 obtain⟨bU,bV,bI,bJ,bK,bW,rfl,rfl,aM,aN,aJ⟩:=D0 aY
 obtain⟨rfl,bL⟩:=Sl.len aJ
 try dsimp only at aB
 have dG:=New.sndI (New.sndI (aF))
 obtain⟨rfl,cR⟩:=Sl.len aQ
 refine trM aB (l01 _ _ _ (l0 aM aN aJ)) ?_
 rintro x9 aB dH dC ⟨dD,rfl,bX⟩
 have dI:Sub k6 dC:=bX.sub
 have dE:=bX.r
 obtain⟨bY,bZ,aZ,cS,bA,cC,rfl,rfl,bB,bC,bD⟩:=D0 dE
 obtain⟨rfl,cT⟩:=Sl.len bD
 try dsimp only at aB
 have cD:=New.sndI (New.sndI (bX))
 obtain rfl:=oJ aB
 exact⟨([.int .i64 bY,.int .i64 bZ,.slice aZ cC.length bA]),rfl,(New.pair (New.int bB) (New.pair (New.int bC) (New.from cD (cY.trans dB))))⟩
theorem D04(h:Hp)(aZ:List Value)(p0:j0)(dG:Y0.R h aZ p0)(p1:Int)(cP:P0 p1)(r:j0×Bool)(aB:E8 p0 p1=some r):
  Tr Tryz.prog 209 #[.agg aZ.toArray,.int .i64 p1] h λv h'=>∃(cQ:List Value),v = .tuple #[.agg cQ.toArray,.bool r.2]/\New Y0 h h' cQ r.1:=by
 obtain⟨bO,aN,bA,cR,bB,bP,rfl,rfl,aF,aJ,aC⟩:=D0 dG
 obtain⟨rfl,cS⟩:=Sl.len aC
 unfold E8 at aB
 dsimp only at aB
 refine G3 (args:=[.agg #[.int .i64 bO,.int .i64 aN,.slice bA bP.length bB],.int .i64 p1]) (fn:=Tryz.f209) rfl ?_
 refine trV aB (y9 _ _ _ (l0 aF aJ aC)) λx1 aB=>?_
 refine trG aB (λq=>V8 _ _ _ (l0 aF aJ aC) _ cP) λx2 aB=>?_
 refine ifB aB (λdH aB=>?_) λdH aB=>?_
 ·refine trM aB (W6 _ _ _ (l0 aF aJ aC)) ?_
  rintro x4 aB v6 k5 ⟨bC,cT,bD,rfl,bM⟩
  have dR:Sub h k5:=bM.sub
  have cU:=bM.r
  obtain⟨bQ,bR,bS⟩:=x4
  dsimp only at aB bM cU
  obtain⟨_,_,_,_,_,_,bT,bU,bE,bF,bG⟩:=D0 cU
  cases bT
  cases bU
  obtain⟨rfl,cV⟩:=Sl.len bG
  try dsimp only at aB
  have dI:=New.sndI (New.sndI (bM))
  obtain rfl:=oJ aB
  exact⟨([.int .i64 bQ,.int .i64 bR,.slice (some ⟨bC,0,none⟩) bS.length bD]),rfl,(New.pair (New.int bE) (New.pair (New.int bF) dI))⟩
 ·obtain⟨X8,bV,aB⟩:=C0 aB
  refine eX { vars:=[7],boxes:=[],owns:=[0],fuel:=true } (eX (λvs os h'=>∃ u9 aK aY,vs.tail = [.int .i64 u9]/\os = [aK]/\Sub h h'/\P0 u9/\F2 (Wp.int.R h') aK aY/\H5 aN p1 (N1 vs) u9 aY=some X8) (eX (λ_ _=>0) (aI (eX T0 ⟨0,([[.int .i64 p1]]:List (List Value)),[p1],rfl,rfl,(Sub.refl _),(by decide),(show F2 (Wp.int.R h) ([[.int .i64 p1]]:List (List Value)) [p1] from⟨⟨rfl,cP⟩,trivial⟩),bV⟩) ?_)))
  rintro _ aK bH cX ⟨u9,cY,aY,⟨⟩,⟨⟩,bN,cZ,aL,aD⟩
  replace aD:H5 aN p1 bH u9 aY=some X8:=aD
  obtain _|bH:=bH
  ·cases aD
  rw[H5.eq_2]at aD
  refine ifB aD (λbW aD=>?_) λbW aD=>?_
  ·refine ifB aD (λbX aD=>?_) λbX aD=>?_
   ·obtain⟨dS,bY,aD⟩:=C0 aD
    refine aI (E1 bY (by first|rw[F2.length aL,F2.length (show F2 (Wp.int.R cX) ([[.int .i64 u9]]:List (List Value)) [u9] from⟨⟨rfl,cZ⟩,trivial⟩)]|exact congrArg (·+1) (F2.length aL))) ?_
    exact T2 bH ⟨(IntKind.i64.wrap (u9+1)),(aK++([[.int .i64 u9]]:List (List Value))),(aY ++ [u9]),rfl,rfl,bN,(J0 _),(F2.append aL (show F2 (Wp.int.R cX) ([[.int .i64 u9]]:List (List Value)) [u9] from⟨⟨rfl,cZ⟩,trivial⟩)),aD⟩
   ·exact T2 bH ⟨(IntKind.i64.wrap (u9+1)),aK,aY,rfl,rfl,bN,(J0 _),aL,aD⟩
  ·obtain rfl:=oJ aD
   try dsimp only[U0,V0]at aB
   refine Or.inl ?_
   intro dT dJ dK
   obtain⟨dL,dM,rfl,bZ,bI,dN⟩:=Q0.out (r:=Wp.int.toRp) dK aL
   refine trM aB (z05 _ _ _ (l0 aF aJ (M0.mono (bN.trans bI) aC)) _ _ _ _ bZ) ?_
   rintro dU aB dV dA ⟨dB,rfl,aO⟩
   have cC:Sub dJ dA:=aO.sub
   have cD:=aO.r
   obtain⟨dC,dD,cE,cI,cJ,dE,rfl,rfl,aP,aQ,aM⟩:=D0 cD
   obtain⟨rfl,cK⟩:=Sl.len aM
   try dsimp only at aB
   have dO:=New.sndI (New.sndI (aO))
   refine trM aB (X08 _ _ _ (l0 aP aQ aM)) ?_
   rintro dW aB dX dP ⟨dF,rfl,aR⟩
   have dQ:Sub dA dP:=aR.sub
   have cL:=aR.r
   obtain⟨bJ,bK,aS,cM,aT,bL,rfl,rfl,aU,aV,aX⟩:=D0 cL
   obtain⟨rfl,cN⟩:=Sl.len aX
   try dsimp only at aB
   have cO:=New.sndI (New.sndI (aR))
   obtain rfl:=oJ aB
   exact⟨([.int .i64 bJ,.int .i64 bK,.slice aS bL.length aT]),rfl,(New.pair (New.int aU) (New.pair (New.int aV) (New.from cO ((bN.trans bI).trans cC))))⟩
set_option maxHeartbeats 0
theorem f0e(h:Hp)(bH:List Value)(p0:j0)(eK:Y0.R h bH p0)(p1:Int)(eM:P0 p1)(r:B0×(List (Option B0)))(aR:Z00 p0 p1=some r):
  Tr Tryz.prog 236 #[.agg bH.toArray,.int .i64 p1] h λv h'=>∃(a0:Option Addr) (n0 c0:Nat) (a1:Option Addr) (n1 c1:Nat),v = .tuple #[.slice a0 n0 c0,.slice a1 n1 c1]/\N0.R h' [.slice a0 n0 c0] r.1/\(Wp.slice Wp.opt).R h' [.slice a1 n1 c1] r.2/\Sub h h':=by
 obtain⟨aM,aD,bI,dV,bJ,aN,rfl,rfl,aV,bK,aX⟩:=D0 eK
 obtain⟨rfl,dW⟩:=Sl.len aX
 unfold Z00 at aR
 dsimp only at aR
 refine G3 (args:=[.agg #[.int .i64 aM,.int .i64 aD,.slice bI aN.length bJ],.int .i64 p1]) (fn:=Tryz.f236) rfl ?_
 obtain⟨q1,eN,aR⟩:=C0 aR
 refine aI (Y2 eN) ?_
 obtain⟨x2,eO,aR⟩:=C0 aR
 obtain⟨eP,eQ,eR,eT⟩:=E3 (F2.rep (p:=Wp.opt.R h) (a:=[.slice none 0 0]) (b:=none) (l0i h) (aD.toNat)) eO
 refine aI eP ?_
 obtain⟨gH,gI,gJ,rfl,gK,eU⟩:=eT
 obtain⟨rfl,gL⟩:=Sl.len eU
 intro v3 k4 f5
 obtain⟨dX,dY,rfl,eV,cJ,gM⟩:=Q0.outS (r:=Wp.int.toRp) f5 (show F2 (Wp.int.R h) ([]:List (List Value)) ([]:B0) from trivial)
 refine eX _ (aI eR ?_)
 obtain⟨X7,cK,aR⟩:=C0 aR
 refine eX { vars:=[8],boxes:=[],owns:=[0,2],fuel:=true,kept:=[0] } (eX (λvs os h'=>∃ u8 cD u9 aO bG,vs.tail = [.int .i64 u8]/\os = [cD,aO]/\Sub k4 h'/\P0 u8/\F2 (Wp.opt.R h') cD u9/\F2 (Wp.int.R h') aO bG/\r8 aM aD aN (N1 vs) u8 u9 bG=some X7) (eX (λ_ _=>0) (aI (eX T0 ⟨0,((List.replicate aD.toNat ([.slice none 0 0]:List Value)).set p1.toNat [.slice (some ⟨dX,0,none⟩) (([]:B0)).length dY]),((List.replicate aD.toNat (none:Option B0)).set p1.toNat (some ([]:B0))),([[.int .i64 p1]]:List (List Value)),[p1],rfl,rfl,(Sub.refl _),(by decide),(F2.set (p:=Wp.opt.R k4) (a:=[.slice (some ⟨dX,0,none⟩) (([]:B0)).length dY]) (b:=some ([]:B0)) (m0i eV) p1.toNat (F2.up (r:=Wp.opt.toRp) cJ (F2.rep (p:=Wp.opt.R h) (a:=[.slice none 0 0]) (b:=none) (l0i h) (aD.toNat)))),(show F2 (Wp.int.R k4) ([[.int .i64 p1]]:List (List Value)) [p1] from⟨⟨rfl,eM⟩,trivial⟩),cK⟩) ?_)))
 rintro _ cD aO cE gN ⟨u8,eW,u9,dZ,bG,⟨⟩,⟨⟩,cL,gO,eA,aT,aC⟩
 replace aC:r8 aM aD aN cE u8 u9 bG=some X7:=aC
 obtain _|cE:=cE
 ·cases aC
 rw[r8.eq_2]at aC
 obtain⟨eY,cM,aC⟩:=C0 aC
 obtain rfl:aO.length=eY:=(F2.length aT).trans (oJ cM)
 obtain⟨gP,eZ,aC⟩:=C0 aC
 refine ifB aC (λcN aC=>?_) λcN aC=>?_
 ·obtain⟨eB,cO,aC⟩:=C0 aC
  obtain⟨cP,eC,cQ,cR⟩:=E3 aT cO
  refine aI cP ?_
  obtain⟨rfl,cS⟩:=cR
  refine eX _ (aI cQ ?_)
  refine trM aC (L02 _ _ aV) ?_
  rintro eD aC gQ fA ⟨fB,fC,fD,rfl,bL,aU⟩
  obtain⟨rfl,fE⟩:=Sl.len bL
  obtain⟨X20,bM,aC⟩:=C0 aC
  refine eX { vars:=[36],boxes:=[],owns:=[0,2],fuel:=true,kept:=[0] } (eX (λvs os h'=>∃ bA aJ bB aK bC,vs.tail = [.int .i64 bA]/\os = [aJ,aK]/\Sub fA h'/\P0 bA/\F2 (Wp.opt.R h') aJ bB/\F2 (Wp.int.R h') aK bC/\A7 eD aM aD aN eB (N1 vs) bA bB bC=some X20) (eX (λ_ _=>0) (aI (eX T0 ⟨0,cD,u9,aO,bG,rfl,rfl,(Sub.refl _),(by decide),(F2.up (r:=Wp.opt.toRp) aU eA),(F2.up (r:=Wp.int.toRp) aU aT),bM⟩) ?_)))
  rintro _ aJ aK bN eE ⟨bA,eF,bB,eG,bC,⟨⟩,⟨⟩,aP,fF,aL,aQ,aB⟩
  replace aB:A7 eD aM aD aN eB bN bA bB bC=some X20:=aB
  obtain _|bN:=bN
  ·cases aB
  rw[A7.eq_2]at aB
  refine ifB aB (λcT aB=>?_) λcT aB=>?_
  ·refine ldI aB (N0.mono aP bL) λaY bD aB=>?_
   refine trV aB (d01 _ _ _ (l0 aV bK (M0.mono (((cJ.trans cL).trans aU).trans aP) aX)) _ cS _ bD) λaS aB=>?_
   obtain⟨gR,cU,aB⟩:=C0 aB
   have bO:P0 aS:=Y2 cU
   obtain⟨fH,cV,aB⟩:=C0 aB
   obtain⟨eH,bP,cX⟩:=S00 aL cV (n0m eE)
   refine aI (λq=>(bP q).1) ?_
   obtain⟨fI,fJ,fK,rfl,cY,cZ⟩:=cX
   obtain⟨rfl,fL⟩:=Sl.len cZ
   refine eX _ (aI (λq=>(bP q).2) ?_)
   refine eX (fH.isNone) (aI (λ_=>by rw[←cY];exact a0l _ _ _ rfl _ _ _) ?_)
   refine ifB aB (λdA aB=>?_) λdA aB=>?_
   ·obtain⟨gS,dB,aB⟩:=C0 aB
    obtain⟨dC,eI,dD,dE⟩:=E3 aL dB
    refine aI dC ?_
    obtain⟨fM,fN,fO,rfl,fP,bQ⟩:=dE
    obtain⟨rfl,fQ⟩:=Sl.len bQ
    refine eX _ (aI dD ?_)
    obtain⟨cI,bR,aB⟩:=C0 aB
    refine Tr.mono (C04 _ _ _ _ _ bQ _  bR) ?_
    rintro gT dF ⟨bR,fR,fS,rfl,bE⟩
    have fT:Sub eE dF:=bE.sub
    have dG:=bE.r
    obtain⟨rfl,fU⟩:=Sl.len dG
    obtain⟨gU,dH,aB⟩:=C0 aB
    obtain⟨bS,bT,aZ,bU⟩:=New.app bE (Sub.refl _)
    refine eX bS (aI bT (aI (E1 dH (by first|rw[aZ,F2.length (show F2 (Wp.int.R dF) ([[.int .i64 aY]]:List (List Value)) [aY] from⟨⟨rfl,bD⟩,trivial⟩)]|(rw[aZ];rfl))) ?_))
    intro fV bF happz37
    obtain⟨aF,bV,bW,fW,bX,rfl⟩:=bU _ _ _ _ _ (F3.ofPlain (U01 _) (show F2 (Wp.int.R dF) ([[.int .i64 aY]]:List (List Value)) [aY] from⟨⟨rfl,bD⟩,trivial⟩)) M4.ofPlain happz37
    have bY:=aF.r
    obtain⟨dI,fX⟩:=Sl.len bY
    subst dI
    obtain⟨gV,dJ,aB⟩:=C0 aB
    obtain⟨dK,eJ,dL,dM⟩:=E3 (F2.up (r:=Wp.opt.toRp) aF.sub aL) dJ
    refine aI dK ?_
    obtain⟨fY,fZ,gA,rfl,gB,dN⟩:=dM
    obtain⟨rfl,gC⟩:=Sl.len dN
    refine eX _ (aI dL ?_)
    obtain⟨gW,dO,aB⟩:=C0 aB
    refine aI (E1 dO (by first|rw[F2.length (F2.up (r:=Wp.int.toRp) aF.sub aQ),F2.length (show F2 (Wp.int.R bF) ([[.int .i64 aS]]:List (List Value)) [aS] from⟨⟨rfl,bO⟩,trivial⟩)]|exact congrArg (·+1) (F2.length (F2.up (r:=Wp.int.toRp) aF.sub aQ)))) ?_
    exact T2 bN ⟨(IntKind.i64.wrap (bA+1)),(aJ.set aS.toNat [.slice (some ⟨bV,bW,none⟩) (cI ++ [aY]).length bX]),(bB.set aS.toNat (some (cI ++ [aY]))),(aK++([[.int .i64 aS]]:List (List Value))),(bC ++ [aS]),rfl,rfl,(aP.trans aF.sub),(J0 _),(F2.set (p:=Wp.opt.R bF) (a:=[.slice (some ⟨bV,bW,none⟩) (cI ++ [aY]).length bX]) (b:=some (cI ++ [aY])) (m0i bY) aS.toNat (F2.up (r:=Wp.opt.toRp) aF.sub aL)),(F2.append (F2.up (r:=Wp.int.toRp) aF.sub aQ) (show F2 (Wp.int.R bF) ([[.int .i64 aS]]:List (List Value)) [aS] from⟨⟨rfl,bO⟩,trivial⟩)),aB⟩
   ·exact T2 bN ⟨(IntKind.i64.wrap (bA+1)),aJ,bB,aK,bC,rfl,rfl,aP,(J0 _),aL,aQ,aB⟩
  ·obtain rfl:=oJ aB
   try dsimp only[U0,V0]at aC
   exact T2 cE ⟨(IntKind.i64.wrap (u8+1)),aJ,bB,aK,bC,rfl,rfl,((cL.trans aU).trans aP),(J0 _),aL,aQ,aC⟩
 ·obtain rfl:=oJ aC
  try dsimp only[U0,V0]at aR
  intro gX gY gD
  obtain⟨dP,dQ,rfl,dR,bZ,gE⟩:=Q0.out (r:=Wp.int.toRp) gD aT
  intro gZ hJ gF
  obtain⟨dS,dT,rfl,dU,cC,gG⟩:=Q0.out (r:=Wp.opt.toRp) gF (F2.up (r:=Wp.opt.toRp) bZ eA)
  obtain rfl:=oJ aR
  exact⟨dP,bG.length,dQ,dS,u9.length,dT,rfl,(N0.mono cC dR),dU,(((cJ.trans cL).trans bZ).trans cC)⟩
theorem E09(h:Hp)(aL:List Value)(p0:j0)(bS:Y0.R h aL p0)(p1:Int)(bE:P0 p1)(p2:Int)(bT:P0 p2)(r:B0×Bool)(aB:M6 p0 p1 p2=some r):
  Tr Tryz.prog 322 #[.agg aL.toArray,.int .i64 p1,.int .i64 p2] h λv h'=>∃(a0:Option Addr) (n0 c0:Nat),v = .tuple #[.slice a0 n0 c0,.bool r.2]/\N0.R h' [.slice a0 n0 c0] r.1/\Sub h h':=by
 obtain⟨aP,aQ,aM,bF,aN,aR,rfl,rfl,aD,aF,aC⟩:=D0 bS
 obtain⟨rfl,bG⟩:=Sl.len aC
 unfold M6 at aB
 dsimp only at aB
 refine G3 (args:=[.agg #[.int .i64 aP,.int .i64 aQ,.slice aM aR.length aN],.int .i64 p1,.int .i64 p2]) (fn:=Tryz.f322) rfl ?_
 refine trV aB (y9 _ _ _ (l0 aD aF aC)) λx1 aB=>?_
 refine trG aB (λq=>V8 _ _ _ (l0 aD aF aC) _ bE) λx2 aB=>?_
 refine trG aB (λq=>V8 _ _ _ (l0 aD aF aC) _ bT) λx3 aB=>?_
 refine ifB aB (λbU aB=>?_) λbU aB=>?_
 ·intro v5 k6 f7
  obtain⟨bV,bW,rfl,bX,bY,cS⟩:=Q0.out (r:=Wp.int.toRp) f7 (show F2 (Wp.int.R h) ([]:List (List Value)) ([]:B0) from trivial)
  obtain rfl:=oJ aB
  exact⟨bV,(([]:B0)).length,bW,rfl,bX,bY⟩
 ·refine trM aB (f0e _ _ _ (l0 aD aF aC) _ bE) ?_
  rintro x9 aB cT bZ ⟨bH,bI,bJ,bK,bL,bM,rfl,aK,aJ,bN⟩
  obtain⟨cC,cD⟩:=x9
  dsimp only at aB aK aJ
  obtain⟨rfl,bO⟩:=Sl.len aK
  obtain⟨rfl,bP⟩:=Sl.len aJ
  refine ld aB aJ λcE bQ aS aB=>?_
  obtain⟨cI,cJ,cK,rfl,aT,aU⟩:=aS
  obtain⟨rfl,cL⟩:=Sl.len aU
  refine eX (cE.isNone) (aI (by rw[←aT];exact a0l _ _ _ rfl _ _ _) ?_)
  refine ifB aB (λaV aB=>?_) λaV aB=>?_
  ·intro cU cV cM
   obtain⟨aX,aY,rfl,aZ,bA,cN⟩:=Q0.out (r:=Wp.int.toRp) cM (show F2 (Wp.int.R bZ) ([]:List (List Value)) ([]:B0) from trivial)
   obtain rfl:=oJ aB
   exact⟨aX,(([]:B0)).length,aY,rfl,aZ,(bN.trans bA)⟩
  ·refine ld aB aJ λcO bR bB aB=>?_
   obtain⟨bC,cP,bD,rfl,cQ,aO⟩:=bB
   obtain⟨rfl,cR⟩:=Sl.len aO
   obtain rfl:=oJ aB
   exact⟨bC,(cO.getD []).length,bD,rfl,aO,bN⟩
theorem F09(h:Hp)(aF:List Value)(p0:j0)(aY:Y0.R h aF p0)(p1:Int)(aZ:P0 p1)(r:B0)(aD:w9 p0 p1=some r):
  Tr Tryz.prog 257 #[.agg aF.toArray,.int .i64 p1] h λv h'=>∃(a0:Option Addr) (n0 c0:Nat),v = .slice a0 n0 c0/\N0.R h' [.slice a0 n0 c0] r/\Sub h h':=by
 obtain⟨aP,aQ,aJ,aT,aK,aR,rfl,rfl,aL,aM,aC⟩:=D0 aY
 obtain⟨rfl,aU⟩:=Sl.len aC
 unfold w9 at aD
 dsimp only at aD
 refine G3 (args:=[.agg #[.int .i64 aP,.int .i64 aQ,.slice aJ aR.length aK],.int .i64 p1]) (fn:=Tryz.f257) rfl ?_
 refine trM aD (E09 _ _ _ (l0 aL aM aC) 0 (by decide) _ aZ) ?_
 rintro x1 aD v3 k2 ⟨aN,aV,aO,rfl,aB,bA⟩
 obtain⟨aS,bB⟩:=x1
 dsimp only at aD aB
 obtain⟨rfl,aX⟩:=Sl.len aB
 obtain rfl:=oJ aD
 exact⟨aN,aS.length,aO,rfl,aB,bA⟩
theorem M02(h:Hp)(cQ:List Value)(p0:j0)(eG:Y0.R h cQ p0)(r:j0×B0)(aF:V6 p0=some r):
  Tr Tryz.prog 256 #[.agg cQ.toArray] h λv h'=>∃(dT:List Value) (a1:Option Addr) (n1 c1:Nat),v = .tuple #[.agg dT.toArray,.slice a1 n1 c1]/\Y0.R h' dT r.1/\N0.R h' [.slice a1 n1 c1] r.2/\Sub h h':=by
 obtain⟨aR,aS,aT,dU,aU,aV,rfl,rfl,bU,bV,aX⟩:=D0 eG
 obtain⟨rfl,dV⟩:=Sl.len aX
 unfold V6 at aF
 dsimp only at aF
 refine G3 (args:=[.agg #[.int .i64 aR,.int .i64 aS,.slice aT aV.length aU]]) (fn:=Tryz.f256) rfl ?_
 refine trM aF (W6 _ [.int .i64 aR,.int .i64 aS,.slice aT aV.length aU] (aR,aS,aV) (l0 bU bV aX)) ?_
 rintro x1 aF v3 k2 ⟨bW,dW,bX,rfl,dE⟩
 have dF:Sub h k2:=dE.sub
 have dX:=dE.r
 obtain⟨cR,cS,cC⟩:=x1
 dsimp only at aF dE dX
 obtain⟨_,_,_,_,_,_,dG,dH,bY,bZ,aY⟩:=D0 dX
 cases dG
 cases dH
 obtain⟨rfl,dY⟩:=Sl.len aY
 try dsimp only at aF
 refine trV aF (q03 _ [.int .i64 aR,.int .i64 aS,.slice aT aV.length aU] (aR,aS,aV) (l0 bU bV (M0.mono dF aX))) λx4 aF=>?_
 refine ifB aF (λeH aF=>?_) λeH aF=>?_
 ·intro v6 k7 f8
  obtain⟨eI,eJ,rfl,eK,dZ,fC⟩:=Q0.out (r:=Wp.int.toRp) f8 (show F2 (Wp.int.R k2) ([]:List (List Value)) ([]:B0) from trivial)
  obtain rfl:=oJ aF
  exact⟨([.int .i64 cR,.int .i64 cS,.slice (some ⟨bW,0,none⟩) cC.length bX]),eI,(([]:B0)).length,eJ,rfl,(l0 bY bZ (M0.mono dZ aY)),eK,(dF.trans dZ)⟩
 ·obtain⟨X10,cT,aF⟩:=C0 aF
  refine eX { vars:=[],boxes:=[2],owns:=[0],fuel:=true } (eX (λvs os h'=>∃ bH bI aN cD aO bJ bK cO,vs.tail = [.int .i64 bH,.int .i64 bI,.slice aN cD aO]/\os = [bK]/\Sub k2 h'/\P0 bH/\P0 bI/\M0.R h' [.slice aN cD aO] bJ/\F2 (Wp.int.R h') bK cO/\l5 (N1 vs) bH bI bJ cO=some X10) (eX (λ_ _=>0) (aI (eX T0 ⟨cR,cS,(some ⟨bW,0,none⟩),cC.length,bX,cC,[],([]:B0),rfl,rfl,(Sub.refl _),bY,bZ,aY,(show F2 (Wp.int.R k2) ([]:List (List Value)) ([]:B0) from trivial),cT⟩) ?_)))
  rintro _ _ _ bK cU fD ⟨bH,bI,aN,cD,aO,bJ,eA,cO,⟨⟩,⟨⟩,cE,bL,cI,bM,cV,aC⟩
  replace aC:l5 cU bH bI bJ cO=some X10:=aC
  obtain _|cU:=cU
  ·cases aC
  rw[l5.eq_2]at aC
  obtain⟨rfl,eM⟩:=Sl.len bM
  refine trG aC (λq=>B04 _ [.int .i64 bH,.int .i64 bI,.slice aN bJ.length aO] (bH,bI,bJ) (l0 bL cI bM) 0 (by decide)) λeN aC=>?_
  obtain⟨fE,dI,aC⟩:=C0 aC
  have eO:P0 eN:=Y2 dI
  refine ifB aC (λdJ aC=>?_) λdJ aC=>?_
  ·refine trM aC (L02 _ bH bL) ?_
   rintro eB aC fF eP ⟨eQ,eR,eT,rfl,cX,bN⟩
   obtain⟨rfl,eU⟩:=Sl.len cX
   obtain⟨X23,cY,aC⟩:=C0 aC
   refine eX { vars:=[29],boxes:=[2],owns:=[0],fuel:=true,kept:=[0] } (eX (λvs os h'=>∃ cP aZ bA aJ cJ aK aQ aP cK,vs.tail = [.int .i64 cP,.int .i64 aZ,.int .i64 bA,.slice aJ cJ aK]/\os = [aP]/\Sub eP h'/\P0 cP/\P0 aZ/\P0 bA/\M0.R h' [.slice aJ cJ aK] aQ/\F2 (Wp.int.R h') aP cK/\j5 eB (N1 vs) cP aZ bA aQ cK=some X23) (eX (λ_ _=>0) (aI (eX T0 ⟨0,bH,bI,aN,bJ.length,aO,bJ,bK,cO,rfl,rfl,(Sub.refl _),(by decide),bL,cI,(M0.mono bN bM),(F2.up (r:=Wp.int.toRp) bN cV),cY⟩) ?_)))
   rintro _ _ _ _ aP dC eV ⟨cP,aZ,bA,aJ,cJ,aK,aQ,eC,cK,⟨⟩,⟨⟩,bO,eW,bP,bQ,bB,bC,aB⟩
   replace aB:j5 eB dC cP aZ bA aQ cK=some X23:=aB
   obtain _|dC:=dC
   ·cases aB
   rw[j5.eq_2]at aB
   obtain⟨rfl,eY⟩:=Sl.len bB
   refine ifB aB (λdK aB=>?_) λdK aB=>?_
   ·refine ldI aB (N0.mono bO cX) λcL cM aB=>?_
    refine trV aB (d01 _ [.int .i64 aZ,.int .i64 bA,.slice aJ aQ.length aK] (aZ,bA,aQ) (l0 bP bQ bB) 0 (by decide) cL cM) λeD aB=>?_
    obtain⟨fH,dL,aB⟩:=C0 aB
    have dM:P0 eD:=Y2 dL
    refine ifB aB (λdN aB=>?_) λdN aB=>?_
    ·refine trM aB (D04 _ [.int .i64 aZ,.int .i64 bA,.slice aJ aQ.length aK] (aZ,bA,aQ) (l0 bP bQ bB) eD dM) ?_
     rintro eZ aB fI dO ⟨dD,rfl,aL⟩
     obtain⟨eE,eF⟩:=eZ
     dsimp only at aB aL
     have bR:Sub eV dO:=aL.sub
     have cN:=aL.r
     obtain⟨bS,bT,bD,cZ,bE,aM,rfl,rfl,bF,bG,aD⟩:=D0 cN
     obtain⟨rfl,dA⟩:=Sl.len aD
     try dsimp only at aB
     obtain⟨fJ,dP,aB⟩:=C0 aB
     refine aI (E1 dP (by first|rw[F2.length (F2.up (r:=Wp.int.toRp) bR bC),F2.length (show F2 (Wp.int.R dO) ([[.int .i64 cL]]:List (List Value)) [cL] from⟨⟨rfl,cM⟩,trivial⟩)]|exact congrArg (·+1) (F2.length (F2.up (r:=Wp.int.toRp) bR bC)))) ?_
     obtain rfl:=oJ aB
     try dsimp only[U0,V0]at aC
     exact T2 cU ⟨bS,bT,bD,aM.length,bE,aM,(aP++([[.int .i64 cL]]:List (List Value))),(cK ++ [cL]),rfl,rfl,(((cE.trans bN).trans bO).trans bR),bF,bG,aD,(F2.append (F2.up (r:=Wp.int.toRp) bR bC) (show F2 (Wp.int.R dO) ([[.int .i64 cL]]:List (List Value)) [cL] from⟨⟨rfl,cM⟩,trivial⟩)),aC⟩
    ·exact T2 dC ⟨(IntKind.i64.wrap (cP+1)),aZ,bA,aJ,aQ.length,aK,aQ,aP,cK,rfl,rfl,bO,(J0 _),bP,bQ,bB,bC,aB⟩
   ·obtain rfl:=oJ aB
    try dsimp only[U0,V0]at aC
    exact T2 cU ⟨aZ,bA,aJ,aQ.length,aK,aQ,aP,cK,rfl,rfl,((cE.trans bN).trans bO),bP,bQ,bB,bC,aC⟩
  ·obtain rfl:=oJ aC
   try dsimp only[U0,V0]at aF
   intro fK fL fA
   obtain⟨dQ,dR,rfl,dS,dB,fB⟩:=Q0.out (r:=Wp.int.toRp) fA cV
   obtain rfl:=oJ aF
   exact⟨([.int .i64 bH,.int .i64 bI,.slice aN bJ.length aO]),dQ,cO.length,dR,rfl,(l0 bL cI (M0.mono dB bM)),dS,((dF.trans cE).trans dB)⟩
theorem S01(h:Hp)(cR:List Value)(p0:j0)(eW:Y0.R h cR p0)(cS:List Value)(p1:j0)(eY:Y0.R h cS p1)(r:B0×Bool)(aJ:T1 p0 p1=some r):
  Tr Tryz.prog 158 #[.agg cR.toArray,.agg cS.toArray] h λv h'=>∃(a0:Option Addr) (n0 c0:Nat),v = .tuple #[.slice a0 n0 c0,.bool r.2]/\N0.R h' [.slice a0 n0 c0] r.1/\Sub h h':=by
 obtain⟨cD,cE,bR,eJ,bS,cI,rfl,rfl,bT,bU,bE⟩:=D0 eW
 obtain⟨rfl,eK⟩:=Sl.len bE
 obtain⟨cJ,cK,bV,eM,bW,cL,rfl,rfl,bX,bY,bF⟩:=D0 eY
 obtain⟨rfl,eN⟩:=Sl.len bF
 unfold T1 at aJ
 dsimp only at aJ
 refine G3 (args:=[.agg #[.int .i64 cD,.int .i64 cE,.slice bR cI.length bS],.agg #[.int .i64 cJ,.int .i64 cK,.slice bV cL.length bW]]) (fn:=Tryz.f158) rfl ?_
 refine trV aJ (q03 _ [.int .i64 cD,.int .i64 cE,.slice bR cI.length bS] (cD,cE,cI) (l0 bT bU bE)) λx1 aJ=>?_
 refine trG aJ (λq=>q03 _ [.int .i64 cJ,.int .i64 cK,.slice bV cL.length bW] (cJ,cK,cL) (l0 bX bY bF)) λx2 aJ=>?_
 refine ifB aJ (λeZ aJ=>?_) λeZ aJ=>?_
 ·intro v4 k5 f6
  obtain⟨fA,fB,rfl,fC,fD,fX⟩:=Q0.out (r:=Wp.int.toRp) f6 (show F2 (Wp.int.R h) ([]:List (List Value)) ([]:B0) from trivial)
  obtain rfl:=oJ aJ
  exact⟨fA,(([]:B0)).length,fB,rfl,fC,fD⟩
 ·refine trM aJ (M02 _ _ _ (l0 bT bU bE)) ?_
  rintro x8 aJ fY k9 ⟨dO,cT,eO,cU,rfl,bZ,bG,dP⟩
  obtain⟨fE,bC⟩:=x8
  dsimp only at aJ bZ bG
  obtain⟨aB,aC,aT,dH,aU,aD,rfl,rfl,aV,aX,aN⟩:=D0 bZ
  obtain⟨rfl,dI⟩:=Sl.len aN
  try dsimp only at aJ
  obtain⟨rfl,eP⟩:=Sl.len bG
  refine trM aJ (M02 _ _ _ (l0 bX bY (M0.mono dP bF))) ?_
  rintro fF aJ fZ fH ⟨dJ,cM,dQ,cN,rfl,bH,aR,bI⟩
  obtain⟨eQ,aY⟩:=fF
  dsimp only at aJ bH aR
  obtain⟨aK,aL,bJ,cV,bK,aM,rfl,rfl,bL,bM,aO⟩:=D0 bH
  obtain⟨rfl,cX⟩:=Sl.len aO
  try dsimp only at aJ
  obtain⟨rfl,dR⟩:=Sl.len aR
  obtain⟨X14,cY,aJ⟩:=C0 aJ
  refine eX { vars:=[10],boxes:=[],owns:=[],fuel:=true } (eX (λvs os h'=>∃ cC,vs.tail = [.int .i64 cC]/\os = []/\Sub fH h'/\P0 cC/\I2 aC aB aD aK aL aM aY bC (N1 vs) cC=some X14) (eX (λ_ _=>0) (aI (eX T0 ⟨0,rfl,rfl,(Sub.refl _),(by decide),cY⟩) ?_)))
  rintro _ dK eR ⟨cC,⟨⟩,⟨⟩,aP,cZ,aF⟩
  replace aF:I2 aC aB aD aK aL aM aY bC dK cC=some X14:=aF
  obtain _|dK:=dK
  ·cases aF
  rw[I2.eq_2]at aF
  refine ifB aF (λdS aF=>?_) λdS aF=>?_
  ·refine trM aF (D04 _ [.int .i64 aB,.int .i64 aC,.slice aT aD.length aU] (aB,aC,aD) (l0 aV aX (M0.mono (bI.trans aP) aN)) cC cZ) ?_
   rintro fI aF gA fJ ⟨dL,rfl,aS⟩
   obtain⟨eT,eU⟩:=fI
   dsimp only at aF aS
   have bD:Sub eR fJ:=aS.sub
   have cO:=aS.r
   obtain⟨aZ,bA,bN,dA,bO,bB,rfl,rfl,bP,bQ,aQ⟩:=D0 cO
   obtain⟨rfl,dB⟩:=Sl.len aQ
   try dsimp only at aF
   refine trV aF (K02 _ [.int .i64 aZ,.int .i64 bA,.slice bN bB.length bO] (aZ,bA,bB) (l0 bP bQ aQ) [.int .i64 aK,.int .i64 aL,.slice bJ aM.length bK] (aK,aL,aM) (l0 bL bM (M0.mono (aP.trans bD) aO))) λgB aF=>?_
   refine ifB aF (λdT aF=>?_) λdT aF=>?_
   ·refine trM aF (F09 _ [.int .i64 aB,.int .i64 aC,.slice aT aD.length aU] (aB,aC,aD) (l0 aV aX (M0.mono ((bI.trans aP).trans bD) aN)) cC cZ) ?_
    rintro dM aF gC fK ⟨dU,fL,dV,rfl,dC,cP⟩
    obtain⟨rfl,fM⟩:=Sl.len dC
    refine trM aF (N07 _ cM aY.length cN aY (N0.mono ((aP.trans bD).trans cP) aR)) ?_
    rintro dN aF gD eV ⟨dW,fN,dX,rfl,dD⟩
    have cQ:Sub fK eV:=dD.sub
    have dE:=dD.r
    obtain⟨rfl,fO⟩:=Sl.len dE
    refine Or.inl ?_
    intro gE fP fQ
    obtain⟨dY,dZ,rfl,eA,eB,fR⟩:=Q0.out (r:=N0.toRp) fQ (show F2 (N0.R eV) ([[.slice cT bC.length cU],[.slice dU dM.length dV],[.slice dW dN.length dX]]:List (List Value)) [bC,dM,dN] from⟨(N0.mono ((((bI.trans aP).trans bD).trans cP).trans cQ) bG),⟨(N0.mono cQ dC),⟨dE,trivial⟩⟩⟩)
    refine trM aF (F0b _ dY ([bC,dM,dN]).length dZ [bC,dM,dN] eA) ?_
    rintro fS aF gF fT ⟨eC,fU,eD,rfl,dF⟩
    have eE:Sub fP fT:=dF.sub
    have dG:=dF.r
    obtain⟨rfl,fV⟩:=Sl.len dG
    obtain rfl:=oJ aF
    try dsimp only[t6,w6]at aJ
    obtain rfl:=oJ aJ
    exact⟨eC,fS.length,eD,rfl,dG,(((((((dP.trans bI).trans aP).trans bD).trans cP).trans cQ).trans eB).trans eE)⟩
   ·exact T2 dK ⟨(IntKind.i64.wrap (cC+1)),rfl,rfl,(aP.trans bD),(J0 _),aF⟩
  ·obtain rfl:=oJ aF
   try dsimp only[U0,V0]at aJ
   intro gG gH f39
   obtain⟨eF,eG,rfl,eH,eI,fW⟩:=Q0.out (r:=Wp.int.toRp) f39 (show F2 (Wp.int.R eR) ([]:List (List Value)) ([]:B0) from trivial)
   obtain rfl:=oJ aJ
   exact⟨eF,(([]:B0)).length,eG,rfl,eH,(((dP.trans bI).trans aP).trans eI)⟩
theorem S03(h:Hp)(cX:Option Addr)(eQ cY:Nat)(p0:B5)(dA:C5.R h [.slice cX eQ cY] p0)(r:Q6)(bS:F7 p0=some r):
  Tr Tryz.prog 66 #[.slice cX eQ cY] h λv h'=>∃(a0:Option Addr) (n0 c0:Nat),v = .slice a0 n0 c0/\New l8 h h' [.slice a0 n0 c0] r:=by
 obtain⟨rfl,gX⟩:=Sl.len dA
 unfold F7 at bS
 refine G3 (args:=[.slice cX p0.length cY]) (fn:=Tryz.f66) rfl ?_
 obtain⟨X1,dB,bS⟩:=C0 bS
 refine eX { vars:=[14],boxes:=[],owns:=[0],fuel:=true } (eX (λvs os h'=>∃ u2 bC u3,vs.tail = [.int .i64 u2]/\os = [bC]/\Sub h h'/\P0 u2/\F2 (N0.R h') bC u3/\(∃ Bs,F3 (N0.W h') bC u3 Bs/\M4 h Bs.flatten)/\V2 p0 (N1 vs) u2 u3=some X1) (eX (λ_ _=>0) (aI (eX T0 ⟨0,[],([]:Q6),rfl,rfl,(Sub.refl _),(by decide),(show F2 (N0.R h) ([]:List (List Value)) ([]:Q6) from trivial),⟨_,(show F3 (N0.W h) [] [] [] from trivial),(M4.nil h)⟩,dB⟩) ?_)))
 rintro _ bC m5 k4 ⟨u2,fM,u3,⟨⟩,⟨⟩,dC,bQ,dD,⟨fN,bT,bU⟩,aD⟩
 replace aD:V2 p0 m5 u2 u3=some X1:=aD
 obtain _|m5:=m5
 ·cases aD
 rw[V2.eq_2]at aD
 refine ifB aD (λfO aD=>?_) λfO aD=>?_
 ·obtain⟨x7,fP,aD⟩:=C0 aD
  obtain⟨fQ,fR,fS,fT⟩:=Sl.getI (r:=Y0.toRp) dA fP (by decide)
  refine aI fQ ?_
  obtain⟨bV,bW,eR,eT,eU,bX,rfl,rfl,bY,bZ,bD⟩:=D0 fT
  obtain⟨rfl,eV⟩:=Sl.len bD
  try dsimp only at aD
  refine eX _ (aI (h8.up dC fS) ?_)
  obtain⟨m8,fU,aD⟩:=C0 aD
  obtain rfl:bC.length=m8:=(F2.length dD).trans (oJ fU)
  obtain⟨q9,gY,aD⟩:=C0 aD
  obtain⟨X10,cC,aD⟩:=C0 aD
  refine eX { vars:=[6,21],boxes:=[],owns:=[0],fuel:=true,kept:=[0] } (eX (λvs os h'=>∃ cD bA aJ bB,vs.tail = [.bool cD,.int .i64 bA]/\os = [aJ]/\Sub h h'/\P0 bA/\F2 (N0.R h') aJ bB/\(∃ Bs,F3 (N0.W h') aJ bB Bs/\M4 h Bs.flatten)/\D3 (bC).length p0 bV bW bX u2 (N1 vs) cD bA bB=some X10) (eX (λ_ _=>0) (aI (eX T0 ⟨false,0,bC,u3,rfl,rfl,dC,(by decide),dD,⟨_,bT,bU⟩,cC⟩) ?_)))
  rintro _ _ aJ cZ eW ⟨cD,bA,eY,bB,⟨⟩,⟨⟩,aM,fV,aN,⟨eZ,aL,aP⟩,aF⟩
  replace aF:D3 (bC).length p0 bV bW bX u2 cZ cD bA bB=some X10:=aF
  obtain _|cZ:=cZ
  ·cases aF
  rw[D3.eq_2]at aF
  refine ifB aF (λdE aF=>?_) λdE aF=>?_
  ·obtain⟨cE,cI,aF⟩:=C0 aF
   obtain⟨dF,fA,bF,bG⟩:=E3 aN cI
   refine aI dF ?_
   obtain⟨dG,fW,dH,rfl⟩:=Wp.slice_cell bG
   obtain⟨rfl,fX⟩:=Sl.len bG
   refine eX _ (aI bF ?_)
   refine Or.inr (Or.inr (Or.inr (Or.inl (aI (aI (by kernel_rfl) (by kernel_rfl)) ?_))))
   obtain⟨fB,dI,aF⟩:=C0 aF
   obtain⟨dJ,fC,dK,dL⟩:=Sl.getI (r:=Wp.int.toRp) bG dI (by decide)
   obtain⟨rfl,fY⟩:=dL
   refine Or.inl (eX (.hel (.slice dG cE.length dH) 0 1 0) (aI ?_ ?_))
   ·intro gZ hJ
    exact aI dJ (aI rfl (aI rfl rfl))
   refine Or.inl (eX (.val (.int .i64 fB)) (aI ?_ ?_))
   ·intro hU fZ
    exact eX _ (aI (h8.up fZ dK) (aI rfl (aI rfl rfl)))
   obtain⟨hY,dM,aF⟩:=C0 aF
   obtain⟨dN,fD,dO,dP⟩:=Sl.getI (r:=Y0.toRp) (C5.mono aM dA) dM (by decide)
   obtain⟨cJ,cK,bH,dQ,bI,cL,rfl,rfl,bJ,bK,aR⟩:=D0 dP
   obtain⟨rfl,dR⟩:=Sl.len aR
   try dsimp only at aF
   refine Or.inl (eX (.hel (.slice cX p0.length cY) fB 3 0) (aI ?_ ?_))
   ·intro hZ iA
    exact aI dN (aI rfl (aI rfl rfl))
   refine Or.inl (eX (.agg [.val (.int .i64 cJ),.val (.int .i64 cK),.val (.slice bH cL.length bI)]) (aI ?_ ?_))
   ·intro iB gA
    exact eX _ (aI (h8.up gA dO) (aI rfl (aI rfl rfl)))
   obtain⟨gB,dS,aF⟩:=C0 aF
   obtain⟨aB,aS⟩:=gB
   try dsimp only at aF
   refine Or.inr (eX (λv hh=>∃(aC:Value),v = .tuple #[aC,.bool aS]/\(λv hh=>∃(a:Option Addr) (c:Nat),v = .slice a aB.length c/\N0.R hh [.slice a aB.length c] aB/\aB.length<=9223372036854775807) aC hh) (aI (λv h1 h2 sb q=>by obtain⟨aC,e,aK⟩:=q;exact⟨aC,e,(by obtain⟨a,c,e,r,l⟩:=aK;exact⟨a,c,e,N0.mono sb r,l⟩)⟩) (aI ?_ ?_)))
   ·intro iC fE
    refine Tr.mono (S01 _ _ _ (l0 bY bZ (M0.mono (aM.trans fE) bD)) _ _ (l0 bJ bK (M0.mono fE aR)) _ dS) ?_
    rintro _ kk ⟨aT,dT,aU,rfl,aV,sb⟩
    obtain⟨rfl,bL⟩:=Sl.len aV
    exact aI H03 (aI sb ⟨(.slice aT aB.length aU),rfl,⟨aT,aU,rfl,aV,bL⟩⟩)
   refine Or.inr (eX (λv hh=>∃(aC:Value),v = .tuple #[aC,.bool aS]/\(λv hh=>∃(a:Option Addr) (c:Nat),v = .slice a aB.length c/\N0.R hh [.slice a aB.length c] aB/\aB.length<=9223372036854775807) aC hh) (aI (λv h1 h2 sb q=>by obtain⟨aC,e,aK⟩:=q;exact⟨aC,e,(by obtain⟨a,c,e,r,l⟩:=aK;exact⟨a,c,e,N0.mono sb r,l⟩)⟩) (aI ?_ ?_)))
   ·intro iD iE
    rintro _ ⟨_,rfl,⟨az33p0,cz33p0,rfl,rz33p0,lz33p0⟩⟩
    exact aI H03 (aI (Sub.refl _) ⟨(.slice az33p0 aB.length cz33p0),rfl,⟨az33p0,cz33p0,rfl,rz33p0,lz33p0⟩⟩)
   refine Or.inr (eX (λv hh=>∃(a:Option Addr) (c:Nat),v = .slice a aB.length c/\N0.R hh [.slice a aB.length c] aB/\aB.length<=9223372036854775807) (aI (λv h1 h2 sb q=>by obtain⟨a,c,e,r,l⟩:=q;exact⟨a,c,e,N0.mono sb r,l⟩) (aI ?_ ?_)))
   ·intro iF iG
    rintro _ ⟨_,rfl,⟨az36p0,cz36p0,rfl,rz36p0,lz36p0⟩⟩
    exact aI H03 (aI (Sub.refl _) ⟨az36p0,cz36p0,rfl,rz36p0,lz36p0⟩)
   refine Or.inl (eX (.val (.bool aS)) (aI ?_ ?_))
   ·intro iH iI
    rintro _ ⟨_,rfl,⟨az39p0,cz39p0,rfl,rz39p0,lz39p0⟩⟩
    exact aI rfl (aI rfl rfl)
   refine Or.inr (eX (λv hh=>∃(a:Option Addr) (c:Nat),v = .slice a aB.length c/\N0.R hh [.slice a aB.length c] aB/\aB.length<=9223372036854775807) (aI (λv h1 h2 sb q=>by obtain⟨a,c,e,r,l⟩:=q;exact⟨a,c,e,N0.mono sb r,l⟩) (aI ?_ ?_)))
   ·intro iJ iK
    rintro _ ⟨dU,dV,rfl,dW,dX⟩
    exact aI H03 (aI (Sub.refl _) ⟨dU,dV,rfl,dW,dX⟩)
   intro fF bR
   rintro _ ⟨gC,gD,rfl,gE,gF⟩
   rintro _ ⟨gG,gH,rfl,gI,gJ⟩
   rintro _ ⟨_,rfl,⟨az47p0,cz47p0,rfl,rz47p0,lz47p0⟩⟩
   rintro _ ⟨_,rfl,⟨az48p0,cz48p0,rfl,rz48p0,lz48p0⟩⟩
   refine ifB aF (λdY aF=>?_) λdY aF=>?_
   ·obtain⟨iL,dZ,aF⟩:=C0 aF
    obtain⟨iM,eA,aF⟩:=C0 aF
    have cM:=F2.length (F2.up (r:=N0.toRp) bR aN)
    obtain⟨gK,gL,eB,cN,cO,bE,cP⟩:=New.appE (x04 aL bR) aP (aM.trans bR) cI bF (Y2 dZ)
    subst eB
    refine eX cN (aI cO (aI (E1 eA (by first|rw[bE,F2.length (show F2 (Wp.int.R fF) ([[.int .i64 u2]]:List (List Value)) [u2] from⟨⟨rfl,bQ⟩,trivial⟩)]|(rw[bE];rfl))) ?_))
    intro gM aQ happz52
    obtain⟨cQ,cR,cS,rfl,aX,⟨Bz52,aO,cT⟩,gN,gO⟩:=cP ([[.int .i64 u2]]:List (List Value)) [u2] _ _ (show F2 (Wp.int.R fF) ([[.int .i64 u2]]:List (List Value)) [u2] from⟨⟨rfl,bQ⟩,trivial⟩) happz52
    obtain⟨iN,eC,aF⟩:=C0 aF
    obtain⟨eD,fH,gP,_⟩:=E3 (F2.ofLen cM) eC
    refine aI eD ?_
    refine eX _ (aI bF ?_)
    obtain rfl:=oJ aF
    try dsimp only[U0,V0]at aD
    refine ifB aD (λeE aD=>?_) λeE aD=>?_
    ·intro iO fI fJ
     obtain⟨bM,bN,rfl,cU,aY,gQ⟩:=Q0.out (r:=Wp.int.toRp) fJ (show F2 (Wp.int.R aQ) ([[.int .i64 u2]]:List (List Value)) [u2] from⟨⟨rfl,bQ⟩,trivial⟩)
     obtain⟨iP,eF,aD⟩:=C0 aD
     refine aI (E1 eF (by first|rw[F2.length (F2.up (r:=N0.toRp) aY (F3.f2 (q:=N0.R aQ) (λ_ _ _ h=>N0.toR h) aO)),F2.length (show F2 (N0.R fI) ([[.slice bM ([u2]).length bN]]:List (List Value)) [[u2]] from⟨cU,trivial⟩)]|exact congrArg (·+1) (F2.length (F2.up (r:=N0.toRp) aY (F3.f2 (q:=N0.R aQ) (λ_ _ _ h=>N0.toR h) aO))))) ?_
     obtain⟨Bb60,eG,eH,_⟩:=(Q0.newPlain (r:=Wp.int) fJ (show F2 (Wp.int.R aQ) ([[.int .i64 u2]]:List (List Value)) [u2] from⟨⟨rfl,bQ⟩,trivial⟩) (U01 _))
     exact T2 m5 ⟨(IntKind.i64.wrap (u2+1)),((aJ.set bA.toNat [.slice (some ⟨cQ,cR,none⟩) (cE ++ [u2]).length cS])++([[.slice bM ([u2]).length bN]]:List (List Value))),((bB.set bA.toNat (cE ++ [u2])) ++ [[u2]]),rfl,rfl,(aX.trans aY),(J0 _),(F2.append (F2.up (r:=N0.toRp) aY (F3.f2 (q:=N0.R aQ) (λ_ _ _ h=>N0.toR h) aO)) (show F2 (N0.R fI) ([[.slice bM ([u2]).length bN]]:List (List Value)) [[u2]] from⟨cU,trivial⟩)),⟨_,(F3.snoc eG (x04 aO aY)),(C02 aO aX cT eH)⟩,aD⟩
    ·exact T2 m5 ⟨(IntKind.i64.wrap (u2+1)),(aJ.set bA.toNat [.slice (some ⟨cQ,cR,none⟩) (cE ++ [u2]).length cS]),(bB.set bA.toNat (cE ++ [u2])),rfl,rfl,aX,(J0 _),(F3.f2 (q:=N0.R aQ) (λ_ _ _ h=>N0.toR h) aO),⟨_,aO,cT⟩,aD⟩
   ·exact T2 cZ ⟨cD,(IntKind.i64.wrap (bA+1)),aJ,bB,rfl,rfl,(aM.trans bR),(J0 _),(F2.up (r:=N0.toRp) bR aN),⟨_,(x04 aL bR),aP⟩,aF⟩
  ·obtain rfl:=oJ aF
   try dsimp only[U0,V0]at aD
   refine ifB aD (λeI aD=>?_) λeI aD=>?_
   ·intro iQ fK f64
    obtain⟨bO,bP,rfl,cV,aZ,gR⟩:=Q0.out (r:=Wp.int.toRp) f64 (show F2 (Wp.int.R eW) ([[.int .i64 u2]]:List (List Value)) [u2] from⟨⟨rfl,bQ⟩,trivial⟩)
    obtain⟨iS,eJ,aD⟩:=C0 aD
    refine aI (E1 eJ (by first|rw[F2.length (F2.up (r:=N0.toRp) aZ aN),F2.length (show F2 (N0.R fK) ([[.slice bO ([u2]).length bP]]:List (List Value)) [[u2]] from⟨cV,trivial⟩)]|exact congrArg (·+1) (F2.length (F2.up (r:=N0.toRp) aZ aN)))) ?_
    obtain⟨Bb67,eK,eM,_⟩:=(Q0.newPlain (r:=Wp.int) f64 (show F2 (Wp.int.R eW) ([[.int .i64 u2]]:List (List Value)) [u2] from⟨⟨rfl,bQ⟩,trivial⟩) (U01 _))
    exact T2 m5 ⟨(IntKind.i64.wrap (u2+1)),(aJ++([[.slice bO ([u2]).length bP]]:List (List Value))),(bB ++ [[u2]]),rfl,rfl,(aM.trans aZ),(J0 _),(F2.append (F2.up (r:=N0.toRp) aZ aN) (show F2 (N0.R fK) ([[.slice bO ([u2]).length bP]]:List (List Value)) [[u2]] from⟨cV,trivial⟩)),⟨_,(F3.snoc eK (x04 aL aZ)),(C02 aL aM aP eM)⟩,aD⟩
   ·exact T2 m5 ⟨(IntKind.i64.wrap (u2+1)),aJ,bB,rfl,rfl,aM,(J0 _),aN,⟨_,aL,aP⟩,aD⟩
 ·obtain rfl:=oJ aD
  try dsimp only[U0,V0]at bS
  intro gS gT fL
  have eN:New (Wp.slice N0) h gT [gS] u3:=(Q0.fresh (r:=N0) fL bT dC bU)
  obtain⟨eO,eP,rfl,gU,gV,gW⟩:=Q0.out (r:=N0.toRp) fL dD
  obtain rfl:=oJ bS
  exact⟨eO,u3.length,eP,rfl,eN⟩
end Go.Proofs.YtkjhghloldgioaaGreat
