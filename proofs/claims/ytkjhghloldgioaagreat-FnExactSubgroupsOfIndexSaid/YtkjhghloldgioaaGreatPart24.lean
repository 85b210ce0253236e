/- Texts of the claim, joined: The walks of batch 1 and others. -/
import Derived.Test.YtkjhghloldgioaaGreatPart18
import Derived.Test.YtkjhghloldgioaaGreatChecked
import Derived.Test.YtkjhghloldgioaaGreatH35
import Derived.Test.YtkjhghloldgioaaGreatSI
import Derived.Test.YtkjhghloldgioaaGreatPart21
import Derived.Test.YtkjhghloldgioaaGreatPart17
import Derived.Test.YtkjhghloldgioaaGreatH36
import Derived.Test.YtkjhghloldgioaaGreatH41
namespace Go.Proofs.YtkjhghloldgioaaGreat
open Go.H
set_option linter.unusedVariables false
set_option linter.unusedSimpArgs false
set_option maxRecDepth 10000
theorem c5(h:Hp)(p0:Int)(aB:J0 p0)(p1:Int)(aC:J0 p1)(p2:Int)(aD:J0 p2)(r:Bool)(aA:U2 p0 p1 p2=some r):
  Tr Tryz.prog 76 #[.int .i64 p0,.int .i64 p1,.int .i64 p2] h λv h'=>v = .bool r/\h'=h:=by
 unfold U2 at aA
 refine Tr.forget (D2 (args:=[.int .i64 p0,.int .i64 p1,.int .i64 p2]) (fn:=Tryz.f76) rfl ?_)
 obtain rfl:=oJ aA
 exact aI rfl (Sub.refl _)
theorem A5(h:Hp)(p0:Int)(aB:J0 p0)(p1:Int)(aC:J0 p1)(p2:Int)(aD:J0 p2)(r:Bool)(aA:J3 p0 p1 p2=some r):
  Tr Tryz.prog 78 #[.int .i64 p0,.int .i64 p1,.int .i64 p2] h λv h'=>v = .bool r/\h'=h:=by
 unfold J3 at aA
 refine Tr.forget (D2 (args:=[.int .i64 p0,.int .i64 p1,.int .i64 p2]) (fn:=Tryz.f78) rfl ?_)
 obtain rfl:=oJ aA
 exact aI rfl (Sub.refl _)
theorem W7(h:Hp)(p0:Int)(aD:J0 p0)(p1:Int)(aF:J0 p1)(r:Int)(aA:P3 p0 p1=some r):
  Tr Tryz.prog 342 #[.int .i64 p0,.int .i64 p1] h λv h'=>v = .int .i64 r/\h'=h:=by
 unfold P3 at aA
 refine Tr.forget (D2 (args:=[.int .i64 p0,.int .i64 p1]) (fn:=Tryz.f342) rfl ?_)
 refine ifB aA (λaB aA=>?_) λaB aA=>?_
 ·obtain rfl:=oJ aA
  exact aI rfl (Sub.refl _)
 ·refine ifB aA (λaC aA=>?_) λaC aA=>?_
  ·obtain rfl:=oJ aA
   exact aI rfl (Sub.refl _)
  ·obtain rfl:=oJ aA
   exact aI rfl (Sub.refl _)
theorem z06(h:Hp)(aC:List Value)(p0:l0)(aY:I0.R h aC p0)(aD:List Value)(p1:U3)(aZ:Q0.R h aD p1)(r:Bool)(aA:E00 p0 p1=some r):
  Tr Tryz.prog 339 #[.agg aC.toArray,.agg aD.toArray] h λv h'=>v = .bool r/\h'=h:=by
 obtain⟨aP,aB,aF,aU,aJ,aQ,rfl,rfl,aK,aV,aL⟩:=B0 aY
 obtain⟨rfl,aX⟩:=Sl.len aL
 obtain⟨aR,aS,aT,rfl,rfl,aM,aN,aO⟩:=S0 aZ
 unfold E00 at aA
 dsimp only at aA
 refine Tr.forget (D2 (args:=[.agg #[.int .i64 aP,.int .i64 aB,.slice aF aQ.length aJ],.agg #[.int .i64 aR,.int .i64 aS,.int .i64 aT]]) (fn:=Tryz.f339) rfl ?_)
 refine trV aA (c5 _ _ aM 0 (by decide) (IntKind.i64.wrap (aB-1)) (D0 _)) λx1 aA=>?_
 refine trG aA (λq=>c5 _ _ aO 0 (by decide) (IntKind.i64.wrap (aB-1)) (D0 _)) λx2 aA=>?_
 refine trG aA (λq=>c5 _ _ aN 1 (by decide) _ aK) λx3 aA=>?_
 obtain rfl:=oJ aA
 exact aI rfl (Sub.refl _)
theorem A9(h:Hp)(aT:List Value)(p0:U3)(bD:Q0.R h aT p0)(aU:List Value)(p1:U3)(bE:Q0.R h aU p1)(r:Int)(aL:j6 p0 p1=some r):
  Tr Tryz.prog 314 #[.agg aT.toArray,.agg aU.toArray] h λv h'=>v = .int .i64 r/\h'=h:=by
 obtain⟨aB,aC,aD,rfl,rfl,aM,aN,aO⟩:=S0 bD
 obtain⟨aF,aJ,aK,rfl,rfl,aP,aQ,aR⟩:=S0 bE
 unfold j6 at aL
 dsimp only at aL
 refine Tr.forget (D2 (args:=[.agg #[.int .i64 aB,.int .i64 aC,.int .i64 aD],.agg #[.int .i64 aF,.int .i64 aJ,.int .i64 aK]]) (fn:=Tryz.f314) rfl ?_)
 obtain⟨X1,aV,aL⟩:=j0 aL
 refine eX { vars:=[7],boxes:=[],owns:=[],fuel:=true } (eX (λvs os h'=>∃ u2,vs.tail = [.int .i64 u2]/\os = []/\Sub h h'/\J0 u2/\J4 aB aC aD aF aJ aK (Z0 vs) u2=some X1) (eX (λ_ _=>0) (aI (eX C1 ⟨0,rfl,rfl,(Sub.refl _),(by decide),aV⟩) ?_)))
 rintro _ m4 k3 ⟨u2,⟨⟩,⟨⟩,aS,bX,aA⟩
 replace aA:J4 aB aC aD aF aJ aK m4 u2=some X1:=aA
 obtain _|m4:=m4
 ·cases aA
 rw[J4.eq_2]at aA
 refine ifB aA (λbF aA=>?_) λbF aA=>?_
 ·refine Or.inl (aI (aI (by kernel_rfl) (by kernel_rfl)) ?_)
  obtain⟨x6,bG,aA⟩:=j0 aA
  obtain⟨bH,bI,bJ,bK⟩:=N3 (F2.up (r:=Wp.int.toRp) aS (show F2 (Wp.int.R h) ([[.int .i64 aB],[.int .i64 aC],[.int .i64 aD]]:List (List Value)) [aB,aC,aD] from⟨⟨rfl,aM⟩,⟨⟨rfl,aN⟩,⟨⟨rfl,aO⟩,trivial⟩⟩⟩)) bG
  refine aI bH ?_
  obtain⟨rfl,bY⟩:=bK
  refine eX _ (aI bJ ?_)
  obtain⟨x7,bL,aA⟩:=j0 aA
  obtain⟨bM,bN,bO,bP⟩:=N3 (F2.up (r:=Wp.int.toRp) aS (show F2 (Wp.int.R h) ([[.int .i64 aF],[.int .i64 aJ],[.int .i64 aK]]:List (List Value)) [aF,aJ,aK] from⟨⟨rfl,aP⟩,⟨⟨rfl,aQ⟩,⟨⟨rfl,aR⟩,trivial⟩⟩⟩)) bL
  refine aI bM ?_
  obtain⟨rfl,bZ⟩:=bP
  refine eX _ (aI bO ?_)
  refine ifB aA (λbQ aA=>?_) λbQ aA=>?_
  ·obtain rfl:=oJ aA
   try dsimp only[M2,N2]at aL
   obtain rfl:=oJ aL
   exact aI rfl aS
  ·refine Or.inl (aI (aI (by kernel_rfl) (by kernel_rfl)) ?_)
   obtain⟨x9,bR,aA⟩:=j0 aA
   obtain⟨bS,bT,bU,bV⟩:=N3 (F2.up (r:=Wp.int.toRp) aS (show F2 (Wp.int.R h) ([[.int .i64 aB],[.int .i64 aC],[.int .i64 aD]]:List (List Value)) [aB,aC,aD] from⟨⟨rfl,aM⟩,⟨⟨rfl,aN⟩,⟨⟨rfl,aO⟩,trivial⟩⟩⟩)) bR
   refine aI bS ?_
   obtain⟨rfl,cA⟩:=bV
   refine eX _ (aI bU ?_)
   obtain⟨cC,aX,aA⟩:=j0 aA
   obtain⟨aY,bC,aZ,bA⟩:=N3 (F2.up (r:=Wp.int.toRp) aS (show F2 (Wp.int.R h) ([[.int .i64 aF],[.int .i64 aJ],[.int .i64 aK]]:List (List Value)) [aF,aJ,aK] from⟨⟨rfl,aP⟩,⟨⟨rfl,aQ⟩,⟨⟨rfl,aR⟩,trivial⟩⟩⟩)) aX
   refine aI aY ?_
   obtain⟨rfl,bW⟩:=bA
   refine eX _ (aI aZ ?_)
   refine ifB aA (λbB aA=>?_) λbB aA=>?_
   ·obtain rfl:=oJ aA
    try dsimp only[M2,N2]at aL
    obtain rfl:=oJ aL
    exact aI rfl aS
   ·exact L1 m4 ⟨(IntKind.i64.wrap (u2+1)),rfl,rfl,aS,(D0 _),aA⟩
 ·obtain rfl:=oJ aA
  try dsimp only[N0,O0]at aL
  obtain rfl:=oJ aL
  exact aI rfl aS
theorem d5(h:Hp)(aN:List Value)(p0:l0)(bH:I0.R h aN p0)(r:Bool)(aC:K3 p0=some r):
  Tr Tryz.prog 312 #[.agg aN.toArray] h λv h'=>v = .bool r/\h'=h:=by
 obtain⟨aJ,aK,aO,bD,aP,aL,rfl,rfl,aD,aF,aB⟩:=B0 bH
 obtain⟨rfl,bE⟩:=Sl.len aB
 unfold K3 at aC
 dsimp only at aC
 refine Tr.forget (D2 (args:=[.agg #[.int .i64 aJ,.int .i64 aK,.slice aO aL.length aP]]) (fn:=Tryz.f312) rfl ?_)
 obtain⟨X1,bA,aC⟩:=j0 aC
 refine eX { vars:=[3],boxes:=[],owns:=[],fuel:=true } (eX (λvs os h'=>∃ u2,vs.tail = [.int .i64 u2]/\os = []/\Sub h h'/\J0 u2/\o6 aL aJ aK (Z0 vs) u2=some X1) (eX (λ_ _=>0) (aI (eX C1 ⟨0,rfl,rfl,(Sub.refl _),(by decide),bA⟩) ?_)))
 rintro _ m4 k3 ⟨u2,⟨⟩,⟨⟩,aM,cE,aA⟩
 replace aA:o6 aL aJ aK m4 u2=some X1:=aA
 obtain _|m4:=m4
 ·cases aA
 rw[o6.eq_2]at aA
 refine ifB aA (λbI aA=>?_) λbI aA=>?_
 ·refine Or.inl (aI (aI (by kernel_rfl) (by kernel_rfl)) ?_)
  refine ld aA (M0.mono aM aB) λx6 bJ bK aA=>?_
  obtain⟨bL,bM,bN,rfl,rfl,aQ,aR,aS⟩:=S0 bK
  try dsimp only at aA
  obtain⟨x7,bO,aA⟩:=j0 aA
  refine eX (.bool x7) (aI (z06 _ _ _ (f0 aD aF (M0.mono aM aB)) _ _ (U0 aQ aR aS) _  bO) ?_)
  obtain⟨x8,bP,aA⟩:=j0 aA
  obtain⟨bQ,bF,bR⟩:=Sl.getG (r:=Q0.toRp) (M0.mono aM aB) bP (by decide) (t09 k3)
  refine aI (λq=>(bF q).1) ?_
  obtain⟨bS,bT,bU,rfl,rfl,aT,aU,aV⟩:=S0 bR
  try dsimp only at aA
  refine eX _ (aI (λq=>(bF q).2) ?_)
  obtain⟨x9,bV,aA⟩:=j0 aA
  obtain⟨bW,bG,bX⟩:=Sl.getG (r:=Q0.toRp) (M0.mono aM aB) bV (by decide) (t09 k3)
  refine aI (λq=>(bG q).1) ?_
  obtain⟨bY,bZ,cA,rfl,rfl,aX,aY,aZ⟩:=S0 bX
  try dsimp only at aA
  refine eX _ (aI (λq=>(bG q).2) ?_)
  refine trG aA (λq=>A9 _ _ _ (U0 aT aU aV) _ _ (U0 aX aY aZ)) λcC aA=>?_
  obtain⟨cF,bB,aA⟩:=j0 aA
  have cD:J0 cC:=Q1 bB
  refine ifB aA (λbC aA=>?_) λbC aA=>?_
  ·obtain rfl:=oJ aA
   try dsimp only[M2,N2]at aC
   obtain rfl:=oJ aC
   exact aI rfl aM
  ·exact L1 m4 ⟨(IntKind.i64.wrap (u2+1)),rfl,rfl,aM,(D0 _),aA⟩
 ·obtain rfl:=oJ aA
  try dsimp only[N0,O0]at aC
  refine trV aC (c5 _ _ aD 1 (by decide) 3 (by decide)) λcI aC=>?_
  refine trG aC (λq=>c5 _ _ aF 1 (by decide) 40 (by decide)) λcJ aC=>?_
  obtain rfl:=oJ aC
  exact aI rfl aM
theorem a01(h:Hp)(aA:List Value)(p0:l0)(aQ:I0.R h aA p0)(p1:Int)(aR:J0 p1)(r:Bool)(aB:B7 p0 p1=some r):
  Tr Tryz.prog 290 #[.agg aA.toArray,.int .i64 p1] h λv h'=>v = .bool r/\h'=h:=by
 obtain⟨aK,aC,aD,aM,aF,aL,rfl,rfl,aN,aO,aJ⟩:=B0 aQ
 obtain⟨rfl,aP⟩:=Sl.len aJ
 unfold B7 at aB
 dsimp only at aB
 refine Tr.forget (D2 (args:=[.agg #[.int .i64 aK,.int .i64 aC,.slice aD aL.length aF],.int .i64 p1]) (fn:=Tryz.f290) rfl ?_)
 refine trV aB (A5 _ _ aR 0 (by decide) (IntKind.i64.wrap (aC-1)) (D0 _)) λx1 aB=>?_
 obtain rfl:=oJ aB
 exact aI rfl (Sub.refl _)
theorem p02(h:Hp)(aF:List Value)(p0:l0)(aY:I0.R h aF p0)(aJ:List Value)(p1:U3)(aZ:Q0.R h aJ p1)(r:Bool)(aC:d7 p0 p1=some r):
  Tr Tryz.prog 337 #[.agg aF.toArray,.agg aJ.toArray] h λv h'=>v = .bool r/\h'=h:=by
 obtain⟨aP,aQ,aK,aV,aL,aR,rfl,rfl,aA,aD,aB⟩:=B0 aY
 obtain⟨rfl,aX⟩:=Sl.len aB
 obtain⟨aS,aT,aU,rfl,rfl,aM,aN,aO⟩:=S0 aZ
 unfold d7 at aC
 dsimp only at aC
 refine Tr.forget (D2 (args:=[.agg #[.int .i64 aP,.int .i64 aQ,.slice aK aR.length aL],.agg #[.int .i64 aS,.int .i64 aT,.int .i64 aU]]) (fn:=Tryz.f337) rfl ?_)
 refine trV aC (a01 _ _ _ (f0 aA aD aB) _ aM) λx1 aC=>?_
 refine trG aC (λq=>a01 _ _ _ (f0 aA aD aB) _ aO) λx2 aC=>?_
 refine trG aC (λq=>A5 _ _ aN 1 (by decide) _ aA) λx3 aC=>?_
 obtain rfl:=oJ aC
 exact aI rfl (Sub.refl _)
theorem B9(h:Hp)(aB:List Value)(p0:U3)(aT:Q0.R h aB p0)(aC:List Value)(p1:U3)(aU:Q0.R h aC p1)(r:Int)(aA:l5 p0 p1=some r):
  Tr Tryz.prog 316 #[.agg aB.toArray,.agg aC.toArray] h λv h'=>v = .int .i64 r/\h'=h:=by
 obtain⟨aN,aO,aP,rfl,rfl,aD,aF,aJ⟩:=S0 aT
 obtain⟨aQ,aR,aS,rfl,rfl,aK,aL,aM⟩:=S0 aU
 unfold l5 at aA
 dsimp only at aA
 refine Tr.forget (D2 (args:=[.agg #[.int .i64 aN,.int .i64 aO,.int .i64 aP],.agg #[.int .i64 aQ,.int .i64 aR,.int .i64 aS]]) (fn:=Tryz.f316) rfl ?_)
 refine trV aA (W7 _ _ aD _ aK) λx1 aA=>?_
 obtain⟨q2,aV,aA⟩:=j0 aA
 have bB:J0 x1:=Q1 aV
 refine ifB aA (λaX aA=>?_) λaX aA=>?_
 ·obtain rfl:=oJ aA
  exact aI rfl (Sub.refl _)
 ·refine trV aA (W7 _ _ aF _ aL) λx4 aA=>?_
  obtain⟨q5,aY,aA⟩:=j0 aA
  have bC:J0 x4:=Q1 aY
  refine ifB aA (λaZ aA=>?_) λaZ aA=>?_
  ·obtain rfl:=oJ aA
   exact aI rfl (Sub.refl _)
  ·refine trV aA (W7 _ _ aJ _ aM) λx7 aA=>?_
   obtain⟨q8,bA,aA⟩:=j0 aA
   have bD:J0 x7:=Q1 bA
   obtain rfl:=oJ aA
   exact aI rfl (Sub.refl _)
theorem A8(h:Hp)(aT:List Value)(p0:l0)(bK:I0.R h aT p0)(r:Bool)(aB:r6 p0=some r):
  Tr Tryz.prog 300 #[.agg aT.toArray] h λv h'=>v = .bool r/\h'=h:=by
 obtain⟨aM,aN,aU,bE,aV,aO,rfl,rfl,aD,aF,aC⟩:=B0 bK
 obtain⟨rfl,bF⟩:=Sl.len aC
 unfold r6 at aB
 dsimp only at aB
 refine Tr.forget (D2 (args:=[.agg #[.int .i64 aM,.int .i64 aN,.slice aU aO.length aV]]) (fn:=Tryz.f300) rfl ?_)
 refine trV aB (A5 _ _ aD 1 (by decide) 3 (by decide)) λx1 aB=>?_
 refine trG aB (λq=>A5 _ _ aF 1 (by decide) 40 (by decide)) λx2 aB=>?_
 refine ifB aB (λbL aB=>?_) λbL aB=>?_
 ·obtain rfl:=oJ aB
  exact aI rfl (Sub.refl _)
 ·obtain⟨X4,aY,aB⟩:=j0 aB
  refine eX { vars:=[24],boxes:=[],owns:=[],fuel:=true } (eX (λvs os h'=>∃ u5,vs.tail = [.int .i64 u5]/\os = []/\Sub h h'/\J0 u5/\p6 aO aM aN (Z0 vs) u5=some X4) (eX (λ_ _=>0) (aI (eX C1 ⟨0,rfl,rfl,(Sub.refl _),(by decide),aY⟩) ?_)))
  rintro _ m7 k6 ⟨u5,⟨⟩,⟨⟩,aS,bV,aA⟩
  replace aA:p6 aO aM aN m7 u5=some X4:=aA
  obtain _|m7:=m7
  ·cases aA
  rw[p6.eq_2]at aA
  refine ifB aA (λbM aA=>?_) λbM aA=>?_
  ·refine ld aA (M0.mono aS aC) λx9 bN bO aA=>?_
   obtain⟨bP,bQ,bR,rfl,rfl,aJ,aK,aL⟩:=S0 bO
   try dsimp only at aA
   refine Or.inl (aI (aI (by kernel_rfl) (by kernel_rfl)) ?_)
   obtain⟨bS,aZ,aA⟩:=j0 aA
   refine eX (.bool bS) (aI (p02 _ _ _ (f0 aD aF (M0.mono aS aC)) _ _ (U0 aJ aK aL) _  aZ) ?_)
   obtain⟨bW,bA,aA⟩:=j0 aA
   obtain⟨bG,aX,bB⟩:=Sl.getG (r:=Q0.toRp) (M0.mono aS aC) bA (by decide) (t09 k6)
   refine aI (λq=>(aX q).1) ?_
   obtain⟨bH,bI,bJ,rfl,rfl,aP,aQ,aR⟩:=S0 bB
   try dsimp only at aA
   refine eX _ (aI (λq=>(aX q).2) ?_)
   refine trG aA (λq=>B9 _ _ _ (U0 aP aQ aR) _ _ (U0 aJ aK aL)) λbT aA=>?_
   obtain⟨bX,bC,aA⟩:=j0 aA
   have bU:J0 bT:=Q1 bC
   refine ifB aA (λbD aA=>?_) λbD aA=>?_
   ·obtain rfl:=oJ aA
    try dsimp only[M2,N2]at aB
    obtain rfl:=oJ aB
    exact aI rfl aS
   ·exact L1 m7 ⟨(IntKind.i64.wrap (u5+1)),rfl,rfl,aS,(D0 _),aA⟩
  ·obtain rfl:=oJ aA
   try dsimp only[N0,O0]at aB
   obtain rfl:=oJ aB
   exact aI rfl aS
theorem C7(h:Hp)(aT:Option Addr)(bP aU:Nat)(p0:C0)(aJ:j1.R h [.slice aT bP aU] p0)(p1:Int)(aF:J0 p1)(r:C0)(aD:P5 p0 p1=some r):
  Tr Tryz.prog 336 #[.slice aT bP aU,.int .i64 p1] h λv h'=>∃(a0:Option Addr) (n0 c0:Nat),v = .slice a0 n0 c0/\j1.R h' [.slice a0 n0 c0] r/\Sub h h':=by
 obtain⟨rfl,bZ⟩:=Sl.len aJ
 unfold P5 at aD
 refine D2 (args:=[.slice aT p0.length aU,.int .i64 p1]) (fn:=Tryz.f336) rfl ?_
 obtain⟨X1,aV,aD⟩:=j0 aD
 refine eX { vars:=[6,7],boxes:=[],owns:=[0],fuel:=true } (eX (λvs os h'=>∃ u2 u3 aK u4,vs.tail = [.bool u2,.int .i64 u3]/\os = [aK]/\Sub h h'/\J0 u3/\F2 (Wp.int.R h') aK u4/\W4 p0 p1 (Z0 vs) u2 u3 u4=some X1) (eX (λ_ _=>0) (aI (eX C1 ⟨false,0,[],([]:C0),rfl,rfl,(Sub.refl _),(by decide),(show F2 (Wp.int.R h) ([]:List (List Value)) ([]:C0) from trivial),aV⟩) ?_)))
 rintro _ _ aK m6 k5 ⟨u2,u3,bQ,u4,⟨⟩,⟨⟩,aC,cA,aB,aA⟩
 replace aA:W4 p0 p1 m6 u2 u3 u4=some X1:=aA
 obtain _|m6:=m6
 ·cases aA
 rw[W4.eq_2]at aA
 refine ifB aA (λbR aA=>?_) λbR aA=>?_
 ·refine ldI aA (j1.mono aC aJ) λx8 cC aA=>?_
  refine ifB aA (λbS aA=>?_) λbS aA=>?_
  ·refine ldI aA (j1.mono aC aJ) λcD bT aA=>?_
   refine ifB aA (λaX aA=>?_) λaX aA=>?_
   ·obtain⟨cE,aY,aA⟩:=j0 aA
    refine aI (H1 aY (by first|rw[F2.length aB,F2.length (show F2 (Wp.int.R k5) ([[.int .i64 p1]]:List (List Value)) [p1] from⟨⟨rfl,aF⟩,trivial⟩)]|exact congrArg (·+1) (F2.length aB))) ?_
    refine ldI aA (j1.mono aC aJ) λaL aP aA=>?_
    obtain⟨cF,aZ,aA⟩:=j0 aA
    refine aI (H1 aZ (by first|rw[F2.length (F2.append aB (show F2 (Wp.int.R k5) ([[.int .i64 p1]]:List (List Value)) [p1] from⟨⟨rfl,aF⟩,trivial⟩)),F2.length (show F2 (Wp.int.R k5) ([[.int .i64 aL]]:List (List Value)) [aL] from⟨⟨rfl,aP⟩,trivial⟩)]|exact congrArg (·+1) (F2.length (F2.append aB (show F2 (Wp.int.R k5) ([[.int .i64 p1]]:List (List Value)) [p1] from⟨⟨rfl,aF⟩,trivial⟩))))) ?_
    exact L1 m6 ⟨true,(IntKind.i64.wrap (u3+1)),((aK++([[.int .i64 p1]]:List (List Value)))++([[.int .i64 aL]]:List (List Value))),((u4 ++ [p1]) ++ [aL]),rfl,rfl,aC,(D0 _),(F2.append (F2.append aB (show F2 (Wp.int.R k5) ([[.int .i64 p1]]:List (List Value)) [p1] from⟨⟨rfl,aF⟩,trivial⟩)) (show F2 (Wp.int.R k5) ([[.int .i64 aL]]:List (List Value)) [aL] from⟨⟨rfl,aP⟩,trivial⟩)),aA⟩
   ·refine ldI aA (j1.mono aC aJ) λaM aQ aA=>?_
    obtain⟨cI,bA,aA⟩:=j0 aA
    refine aI (H1 bA (by first|rw[F2.length aB,F2.length (show F2 (Wp.int.R k5) ([[.int .i64 aM]]:List (List Value)) [aM] from⟨⟨rfl,aQ⟩,trivial⟩)]|exact congrArg (·+1) (F2.length aB))) ?_
    exact L1 m6 ⟨true,(IntKind.i64.wrap (u3+1)),(aK++([[.int .i64 aM]]:List (List Value))),(u4 ++ [aM]),rfl,rfl,aC,(D0 _),(F2.append aB (show F2 (Wp.int.R k5) ([[.int .i64 aM]]:List (List Value)) [aM] from⟨⟨rfl,aQ⟩,trivial⟩)),aA⟩
  ·refine ldI aA (j1.mono aC aJ) λcJ bU aA=>?_
   refine ifB aA (λbB aA=>?_) λbB aA=>?_
   ·obtain⟨cK,bC,aA⟩:=j0 aA
    refine aI (H1 bC (by first|rw[F2.length aB,F2.length (show F2 (Wp.int.R k5) ([[.int .i64 p1]]:List (List Value)) [p1] from⟨⟨rfl,aF⟩,trivial⟩)]|exact congrArg (·+1) (F2.length aB))) ?_
    refine ldI aA (j1.mono aC aJ) λaN aR aA=>?_
    obtain⟨cL,bD,aA⟩:=j0 aA
    refine aI (H1 bD (by first|rw[F2.length (F2.append aB (show F2 (Wp.int.R k5) ([[.int .i64 p1]]:List (List Value)) [p1] from⟨⟨rfl,aF⟩,trivial⟩)),F2.length (show F2 (Wp.int.R k5) ([[.int .i64 aN]]:List (List Value)) [aN] from⟨⟨rfl,aR⟩,trivial⟩)]|exact congrArg (·+1) (F2.length (F2.append aB (show F2 (Wp.int.R k5) ([[.int .i64 p1]]:List (List Value)) [p1] from⟨⟨rfl,aF⟩,trivial⟩))))) ?_
    exact L1 m6 ⟨true,(IntKind.i64.wrap (u3+1)),((aK++([[.int .i64 p1]]:List (List Value)))++([[.int .i64 aN]]:List (List Value))),((u4 ++ [p1]) ++ [aN]),rfl,rfl,aC,(D0 _),(F2.append (F2.append aB (show F2 (Wp.int.R k5) ([[.int .i64 p1]]:List (List Value)) [p1] from⟨⟨rfl,aF⟩,trivial⟩)) (show F2 (Wp.int.R k5) ([[.int .i64 aN]]:List (List Value)) [aN] from⟨⟨rfl,aR⟩,trivial⟩)),aA⟩
   ·refine ldI aA (j1.mono aC aJ) λaO aS aA=>?_
    obtain⟨cM,bE,aA⟩:=j0 aA
    refine aI (H1 bE (by first|rw[F2.length aB,F2.length (show F2 (Wp.int.R k5) ([[.int .i64 aO]]:List (List Value)) [aO] from⟨⟨rfl,aS⟩,trivial⟩)]|exact congrArg (·+1) (F2.length aB))) ?_
    exact L1 m6 ⟨u2,(IntKind.i64.wrap (u3+1)),(aK++([[.int .i64 aO]]:List (List Value))),(u4 ++ [aO]),rfl,rfl,aC,(D0 _),(F2.append aB (show F2 (Wp.int.R k5) ([[.int .i64 aO]]:List (List Value)) [aO] from⟨⟨rfl,aS⟩,trivial⟩)),aA⟩
 ·obtain rfl:=oJ aA
  try dsimp only[N0,O0]at aD
  refine ifB aD (λbF aD=>?_) λbF aD=>?_
  ·obtain⟨cN,bG,aD⟩:=j0 aD
   refine aI (H1 bG (by first|rw[F2.length aB,F2.length (show F2 (Wp.int.R k5) ([[.int .i64 p1]]:List (List Value)) [p1] from⟨⟨rfl,aF⟩,trivial⟩)]|exact congrArg (·+1) (F2.length aB))) ?_
   intro cO cP bV
   obtain⟨bH,bI,rfl,bJ,bK,bW⟩:=K0.out (r:=Wp.int.toRp) bV (F2.append aB (show F2 (Wp.int.R k5) ([[.int .i64 p1]]:List (List Value)) [p1] from⟨⟨rfl,aF⟩,trivial⟩))
   obtain rfl:=oJ aD
   exact⟨bH,((u4 ++ [p1])).length,bI,rfl,bJ,(aC.trans bK)⟩
  ·intro cQ cR bX
   obtain⟨bL,bM,rfl,bN,bO,bY⟩:=K0.out (r:=Wp.int.toRp) bX aB
   obtain rfl:=oJ aD
   exact⟨bL,u4.length,bM,rfl,bN,(aC.trans bO)⟩
theorem D7(h:Hp)(aD:Option Addr)(aK aF:Nat)(p0:C0)(aL:j1.R h [.slice aD aK aF] p0)(p1:Int)(aO:J0 p1)(r:Bool)(aB:Q5 p0 p1=some r):
  Tr Tryz.prog 246 #[.slice aD aK aF,.int .i64 p1] h λv h'=>v = .bool r/\h'=h:=by
 obtain⟨rfl,aP⟩:=Sl.len aL
 unfold Q5 at aB
 refine Tr.forget (D2 (args:=[.slice aD p0.length aF,.int .i64 p1]) (fn:=Tryz.f246) rfl ?_)
 obtain⟨X1,aJ,aB⟩:=j0 aB
 refine eX { vars:=[5],boxes:=[],owns:=[],fuel:=true } (eX (λvs os h'=>∃ u2,vs.tail = [.int .i64 u2]/\os = []/\Sub h h'/\J0 u2/\g7 p0 p1 (Z0 vs) u2=some X1) (eX (λ_ _=>0) (aI (eX C1 ⟨0,rfl,rfl,(Sub.refl _),(by decide),aJ⟩) ?_)))
 rintro _ m4 k3 ⟨u2,⟨⟩,⟨⟩,aC,aQ,aA⟩
 replace aA:g7 p0 p1 m4 u2=some X1:=aA
 obtain _|m4:=m4
 ·cases aA
 rw[g7.eq_2]at aA
 refine ifB aA (λaM aA=>?_) λaM aA=>?_
 ·refine ldI aA (j1.mono aC aL) λx6 aR aA=>?_
  refine ifB aA (λaN aA=>?_) λaN aA=>?_
  ·obtain rfl:=oJ aA
   try dsimp only[M2,N2]at aB
   obtain rfl:=oJ aB
   exact aI rfl aC
  ·exact L1 m4 ⟨(IntKind.i64.wrap (u2+1)),rfl,rfl,aC,(D0 _),aA⟩
 ·obtain rfl:=oJ aA
  try dsimp only[N0,O0]at aB
  obtain rfl:=oJ aB
  exact aI rfl aC
theorem J04(h:Hp)(aM:List Value)(p0:l0)(bZ:I0.R h aM p0)(p1:Int)(cN:J0 p1)(p2:Int)(cO:J0 p2)(r:C0)(aK:M8 p0 p1 p2=some r):
  Tr Tryz.prog 297 #[.agg aM.toArray,.int .i64 p1,.int .i64 p2] h λv h'=>∃(a0:Option Addr) (n0 c0:Nat),v = .slice a0 n0 c0/\j1.R h' [.slice a0 n0 c0] r/\Sub h h':=by
 obtain⟨aV,aX,aN,bO,aO,aD,rfl,rfl,bP,bQ,aC⟩:=B0 bZ
 obtain⟨rfl,bR⟩:=Sl.len aC
 unfold M8 at aK
 dsimp only at aK
 refine D2 (args:=[.agg #[.int .i64 aV,.int .i64 aX,.slice aN aD.length aO],.int .i64 p1,.int .i64 p2]) (fn:=Tryz.f297) rfl ?_
 obtain⟨X5,aY,aK⟩:=j0 aK
 refine eX { vars:=[7,8],boxes:=[],owns:=[],fuel:=true,pubs:=[7,10] } (eX (λvs os h'=>∃(aP:Option Addr) (aZ aQ:Nat) (u6:C0) (u7:Int),vs.tail = [.slice aP aZ aQ,.int .i64 u7]/\os = []/\Sub h h'/\j1.R h' [.slice aP aZ aQ] u6/\J0 u7/\V2 aD p2 p1 (Z0 vs) u6 u7=some X5) (eX (λ_ _=>0) ?_))
 intro v1 k2 f3
 obtain⟨cA,cC,rfl,cD,cE,cP⟩:=K0.out (r:=Wp.int.toRp) f3 (show F2 (Wp.int.R h) ([]:List (List Value)) ([]:C0) from trivial)
 refine aI (eX C1 ⟨cA,(([]:C0)).length,cC,([]:C0),0,rfl,rfl,cE,cD,(by decide),aY⟩) ?_
 rintro _ _ m9 k8 ⟨aP,aZ,aQ,u6,u7,⟨⟩,⟨⟩,aL,aR,cQ,aA⟩
 replace aA:V2 aD p2 p1 m9 u6 u7=some X5:=aA
 obtain _|m9:=m9
 ·cases aA
 rw[V2.eq_2]at aA
 obtain⟨rfl,cR⟩:=Sl.len aR
 refine ifB aA (λbA aA=>?_) λbA aA=>?_
 ·refine ld aA (M0.mono aL aC) λcS bS bB aA=>?_
  obtain⟨bT,bU,bV,rfl,rfl,aB,bC,aF⟩:=S0 bB
  try dsimp only at aA
  refine ifB aA (λbD aA=>?_) λbD aA=>?_
  ·refine trM aA (C7 _ _ _ _ _ aR _ aF) ?_
   rintro bW aA cT cU ⟨bE,cF,bF,rfl,aJ,aS⟩
   obtain⟨rfl,cI⟩:=Sl.len aJ
   refine ifB aA (λbG aA=>?_) λbG aA=>?_
   ·refine trM aA (C7 _ _ _ _ _ aJ _ aB) ?_
    rintro bX aA cV cX ⟨bH,cJ,bI,rfl,aT,bJ⟩
    obtain⟨rfl,cK⟩:=Sl.len aT
    exact L1 m9 ⟨bH,bX.length,bI,bX,(IntKind.i64.wrap (u7+1)),rfl,rfl,((aL.trans aS).trans bJ),aT,(D0 _),aA⟩
   ·exact L1 m9 ⟨bE,bW.length,bF,bW,(IntKind.i64.wrap (u7+1)),rfl,rfl,(aL.trans aS),aJ,(D0 _),aA⟩
  ·refine ifB aA (λbK aA=>?_) λbK aA=>?_
   ·refine trM aA (C7 _ _ _ _ _ aR _ aB) ?_
    rintro bY aA cY cZ ⟨bL,cL,bM,rfl,aU,bN⟩
    obtain⟨rfl,cM⟩:=Sl.len aU
    exact L1 m9 ⟨bL,bY.length,bM,bY,(IntKind.i64.wrap (u7+1)),rfl,rfl,(aL.trans bN),aU,(D0 _),aA⟩
   ·exact L1 m9 ⟨aP,u6.length,aQ,u6,(IntKind.i64.wrap (u7+1)),rfl,rfl,aL,aR,(D0 _),aA⟩
 ·obtain rfl:=oJ aA
  try dsimp only[N0,O0]at aK
  obtain rfl:=oJ aK
  exact⟨aP,u6.length,aQ,rfl,aR,aL⟩
theorem c04(h:Hp)(aC:List Value)(p0:l0)(aS:I0.R h aC p0)(p1:Int)(aT:J0 p1)(p2:Int)(aU:J0 p2)(r:Int)(aA:r8 p0 p1 p2=some r):
  Tr Tryz.prog 214 #[.agg aC.toArray,.int .i64 p1,.int .i64 p2] h λv h'=>v = .int .i64 r/\h'=h:=by
 obtain⟨aL,aM,aD,aO,aF,aN,rfl,rfl,aJ,aK,aB⟩:=B0 aS
 obtain⟨rfl,aP⟩:=Sl.len aB
 unfold r8 at aA
 dsimp only at aA
 refine Tr.forget (D2 (args:=[.agg #[.int .i64 aL,.int .i64 aM,.slice aD aN.length aF],.int .i64 p1,.int .i64 p2]) (fn:=Tryz.f214) rfl ?_)
 refine trM aA (J04 _ _ _ (f0 aJ aK aB) _ aT _ aU) ?_
 rintro x1 aA v3 k2 ⟨aX,aY,aZ,rfl,aQ,aR⟩
 obtain⟨rfl,bA⟩:=Sl.len aQ
 refine ifB aA (λaV aA=>?_) λaV aA=>?_
 ·obtain rfl:=oJ aA
  exact aI rfl aR
 ·refine ldI aA aQ λx5 bB aA=>?_
  obtain rfl:=oJ aA
  exact aI rfl aR
theorem k05(h:Hp)(aO:List Value)(p0:l0)(bQ:I0.R h aO p0)(r:Bool)(aF:l9 p0=some r):
  Tr Tryz.prog 293 #[.agg aO.toArray] h λv h'=>v = .bool r/\h'=h:=by
 obtain⟨aL,aM,aP,bG,aQ,aD,rfl,rfl,aJ,aK,aB⟩:=B0 bQ
 obtain⟨rfl,bH⟩:=Sl.len aB
 unfold l9 at aF
 dsimp only at aF
 refine Tr.forget (D2 (args:=[.agg #[.int .i64 aL,.int .i64 aM,.slice aP aD.length aQ]]) (fn:=Tryz.f293) rfl ?_)
 obtain⟨X1,aT,aF⟩:=j0 aF
 refine eX { vars:=[3],boxes:=[],owns:=[],fuel:=true } (eX (λvs os h'=>∃ u2,vs.tail = [.int .i64 u2]/\os = []/\Sub h h'/\J0 u2/\S5 aD aL aM (Z0 vs) u2=some X1) (eX (λ_ _=>0) (aI (eX C1 ⟨0,rfl,rfl,(Sub.refl _),(by decide),aT⟩) ?_)))
 rintro _ m4 k3 ⟨u2,⟨⟩,⟨⟩,aN,bS,aC⟩
 replace aC:S5 aD aL aM m4 u2=some X1:=aC
 obtain _|m4:=m4
 ·cases aC
 rw[S5.eq_2]at aC
 refine trG aC (λq=>d5 _ _ _ (f0 aJ aK (M0.mono aN aB))) λx5 aC=>?_
 refine ifB aC (λbR aC=>?_) λbR aC=>?_
 ·obtain⟨X7,aU,aC⟩:=j0 aC
  refine eX { vars:=[4],boxes:=[],owns:=[],fuel:=true } (eX (λvs os h'=>∃ u8,vs.tail = [.int .i64 u8]/\os = []/\Sub k3 h'/\J0 u8/\R5 u2 aD (Z0 vs) u8=some X7) (eX (λ_ _=>0) (aI (eX C1 ⟨0,rfl,rfl,(Sub.refl _),(by decide),aU⟩) ?_)))
  rintro _ aS k9 ⟨u8,⟨⟩,⟨⟩,aR,bT,aA⟩
  replace aA:R5 u2 aD aS u8=some X7:=aA
  obtain _|aS:=aS
  ·cases aA
  rw[R5.eq_2]at aA
  refine ifB aA (λaV aA=>?_) λaV aA=>?_
  ·refine ld aA (M0.mono (aN.trans aR) aB) λbU bI aX aA=>?_
   obtain⟨bJ,bK,bL,rfl,rfl,aY,aZ,bA⟩:=S0 aX
   try dsimp only at aA
   refine ld aA (M0.mono (aN.trans aR) aB) λbV bM bB aA=>?_
   obtain⟨bN,bO,bP,rfl,rfl,bC,bD,bE⟩:=S0 bB
   try dsimp only at aA
   refine ifB aA (λbF aA=>?_) λbF aA=>?_
   ·obtain rfl:=oJ aA
    try dsimp only[M2,N2]at aC
    obtain rfl:=oJ aC
    try dsimp only[M2,N2]at aF
    obtain rfl:=oJ aF
    exact aI rfl (aN.trans aR)
   ·exact L1 aS ⟨(IntKind.i64.wrap (u8+1)),rfl,rfl,aR,(D0 _),aA⟩
  ·obtain rfl:=oJ aA
   try dsimp only[N0,O0]at aC
   exact L1 m4 ⟨(IntKind.i64.wrap (u2+1)),rfl,rfl,(aN.trans aR),(D0 _),aC⟩
 ·obtain rfl:=oJ aC
  try dsimp only[N0,O0]at aF
  refine trV aF (d5 _ _ _ (f0 aJ aK (M0.mono aN aB))) λbW aF=>?_
  obtain rfl:=oJ aF
  exact aI rfl aN
theorem K04(h:Hp)(aO:List Value)(p0:l0)(bM:I0.R h aO p0)(p1:Int)(cI:J0 p1)(p2:Int)(cJ:J0 p2)(r:C0)(aD:N8 p0 p1 p2=some r):
  Tr Tryz.prog 286 #[.agg aO.toArray,.int .i64 p1,.int .i64 p2] h λv h'=>∃(a0:Option Addr) (n0 c0:Nat),v = .slice a0 n0 c0/\New j1 h h' [.slice a0 n0 c0] r:=by
 obtain⟨aX,aY,aP,bF,aQ,aM,rfl,rfl,bG,bH,aF⟩:=B0 bM
 obtain⟨rfl,bI⟩:=Sl.len aF
 unfold N8 at aD
 dsimp only at aD
 refine D2 (args:=[.agg #[.int .i64 aX,.int .i64 aY,.slice aP aM.length aQ],.int .i64 p1,.int .i64 p2]) (fn:=Tryz.f286) rfl ?_
 obtain⟨X1,aZ,aD⟩:=j0 aD
 refine eX { vars:=[14],boxes:=[],owns:=[0],fuel:=true } (eX (λvs os h'=>∃ u2 aN u3,vs.tail = [.int .i64 u2]/\os = [aN]/\Sub h h'/\J0 u2/\F2 (Wp.int.R h') aN u3/\Q3 aM p2 p1 (Z0 vs) u2 u3=some X1) (eX (λ_ _=>0) (aI (eX C1 ⟨0,[],([]:C0),rfl,rfl,(Sub.refl _),(by decide),(show F2 (Wp.int.R h) ([]:List (List Value)) ([]:C0) from trivial),aZ⟩) ?_)))
 rintro _ aN m5 k4 ⟨u2,bN,u3,⟨⟩,⟨⟩,aR,cK,aJ,aA⟩
 replace aA:Q3 aM p2 p1 m5 u2 u3=some X1:=aA
 obtain _|m5:=m5
 ·cases aA
 rw[Q3.eq_2]at aA
 refine ifB aA (λbO aA=>?_) λbO aA=>?_
 ·refine ld aA (M0.mono aR aF) λx7 bP bQ aA=>?_
  obtain⟨aB,bR,aC,rfl,rfl,aK,bJ,aL⟩:=S0 bQ
  try dsimp only at aA
  refine ifB aA (λbS aA=>?_) λbS aA=>?_
  ·obtain⟨q9,bT,aA⟩:=j0 aA
   refine aI (H1 bT (by first|rw[F2.length aJ,F2.length (show F2 (Wp.int.R k4) ([[.int .i64 aC]]:List (List Value)) [aC] from⟨⟨rfl,aL⟩,trivial⟩)]|exact congrArg (·+1) (F2.length aJ))) ?_
   exact L1 m5 ⟨(IntKind.i64.wrap (u2+1)),(aN++([[.int .i64 aC]]:List (List Value))),(u3 ++ [aC]),rfl,rfl,aR,(D0 _),(F2.append aJ (show F2 (Wp.int.R k4) ([[.int .i64 aC]]:List (List Value)) [aC] from⟨⟨rfl,aL⟩,trivial⟩)),aA⟩
  ·refine ifB aA (λbA aA=>?_) λbA aA=>?_
   ·obtain⟨cL,bB,aA⟩:=j0 aA
    refine aI (H1 bB (by first|rw[F2.length aJ,F2.length (show F2 (Wp.int.R k4) ([[.int .i64 aB]]:List (List Value)) [aB] from⟨⟨rfl,aK⟩,trivial⟩)]|exact congrArg (·+1) (F2.length aJ))) ?_
    exact L1 m5 ⟨(IntKind.i64.wrap (u2+1)),(aN++([[.int .i64 aB]]:List (List Value))),(u3 ++ [aB]),rfl,rfl,aR,(D0 _),(F2.append aJ (show F2 (Wp.int.R k4) ([[.int .i64 aB]]:List (List Value)) [aB] from⟨⟨rfl,aK⟩,trivial⟩)),aA⟩
   ·exact L1 m5 ⟨(IntKind.i64.wrap (u2+1)),aN,u3,rfl,rfl,aR,(D0 _),aJ,aA⟩
 ·obtain rfl:=oJ aA
  try dsimp only[N0,O0]at aD
  refine Or.inl ?_
  intro cM cN bU
  obtain⟨cO,bC,aD⟩:=j0 aD
  refine Tr.mono (x09 _ bU aJ (Q1 bC)) ?_
  rintro _ bV ⟨rfl,bK,aS,aT⟩
  obtain⟨bW,bX,rfl,bY,bZ,cA⟩:=K0.out (r:=Wp.int.toRp) aS aT
  refine Tr.mono (y09 _ aS aT) ?_
  rintro _ cC ⟨bL,aU,aV⟩
  obtain⟨bD,bE,rfl,cD,cE,cF⟩:=K0.out (r:=Wp.int.toRp) aU aV
  obtain rfl:=oJ aD
  exact⟨bD,((c00 eqI (l02 G7 u3))).length,bE,rfl,(New.from (K0.newPlain (r:=Wp.int) aU aV (B01 _)) aR)⟩
theorem d04(h:Hp)(aC:List Value)(p0:l0)(aT:I0.R h aC p0)(p1:Int)(aU:J0 p1)(p2:Int)(aV:J0 p2)(r:Int)(aA:s8 p0 p1 p2=some r):
  Tr Tryz.prog 201 #[.agg aC.toArray,.int .i64 p1,.int .i64 p2] h λv h'=>v = .int .i64 r/\h'=h:=by
 obtain⟨aL,aM,aD,aO,aF,aN,rfl,rfl,aJ,aK,aB⟩:=B0 aT
 obtain⟨rfl,aP⟩:=Sl.len aB
 unfold s8 at aA
 dsimp only at aA
 refine Tr.forget (D2 (args:=[.agg #[.int .i64 aL,.int .i64 aM,.slice aD aN.length aF],.int .i64 p1,.int .i64 p2]) (fn:=Tryz.f201) rfl ?_)
 refine trM aA (K04 _ _ _ (f0 aJ aK aB) _ aU _ aV) ?_
 rintro x1 aA v3 k2 ⟨aY,aZ,bA,rfl,aQ⟩
 have aR:Sub h k2:=aQ.sub
 have aS:=aQ.r
 obtain⟨rfl,bB⟩:=Sl.len aS
 refine ifB aA (λaX aA=>?_) λaX aA=>?_
 ·obtain rfl:=oJ aA
  exact aI rfl aR
 ·refine ldI aA aS λx5 bC aA=>?_
  obtain rfl:=oJ aA
  exact aI rfl aR
theorem C01(h:Hp)(aL:List Value)(p0:l0)(bS:I0.R h aL p0)(r:Bool)(aC:S7 p0=some r):
  Tr Tryz.prog 219 #[.agg aL.toArray] h λv h'=>v = .bool r/\h'=h:=by
 obtain⟨aX,aY,aM,bI,aN,aJ,rfl,rfl,aO,aP,aD⟩:=B0 bS
 obtain⟨rfl,bJ⟩:=Sl.len aD
 unfold S7 at aC
 dsimp only at aC
 refine Tr.forget (D2 (args:=[.agg #[.int .i64 aX,.int .i64 aY,.slice aM aJ.length aN]]) (fn:=Tryz.f219) rfl ?_)
 refine trV aC (A8 _ _ _ (f0 aO aP aD)) λx1 aC=>?_
 refine ifB aC (λbT aC=>?_) λbT aC=>?_
 ·obtain rfl:=oJ aC
  exact aI rfl (Sub.refl _)
 ·obtain⟨X3,aZ,aC⟩:=j0 aC
  refine eX { vars:=[13],boxes:=[],owns:=[],fuel:=true } (eX (λvs os h'=>∃ u4,vs.tail = [.int .i64 u4]/\os = []/\Sub h h'/\J0 u4/\U5 aJ (Z0 vs) u4=some X3) (eX (λ_ _=>0) (aI (eX C1 ⟨0,rfl,rfl,(Sub.refl _),(by decide),aZ⟩) ?_)))
  rintro _ m6 k5 ⟨u4,⟨⟩,⟨⟩,aQ,cE,aA⟩
  replace aA:U5 aJ m6 u4=some X3:=aA
  obtain _|m6:=m6
  ·cases aA
  rw[U5.eq_2]at aA
  refine ifB aA (λbU aA=>?_) λbU aA=>?_
  ·refine ld aA (M0.mono aQ aD) λx8 bV bW aA=>?_
   obtain⟨aR,aS,aT,rfl,rfl,bK,bL,bM⟩:=S0 bW
   try dsimp only at aA
   obtain⟨x9,bX,aA⟩:=j0 aA
   obtain⟨bY,bA,bZ,cA⟩:=Sl.cutI (r:=Q0.toRp) (M0.mono aQ aD) bX
   refine aI bY (eX bA (aI bZ ?_))
   intro cC bB _
   obtain⟨cF,cI,rfl,bN⟩:=cA cC bB
   have cJ:=(Sl.len bN).2
   obtain⟨X10,aU,aA⟩:=j0 aA
   refine eX { vars:=[24],boxes:=[],owns:=[],fuel:=true } (eX (λvs os h'=>∃ aK,vs.tail = [.int .i64 aK]/\os = []/\Sub k5 h'/\J0 aK/\T5 x9 aS aR aT (Z0 vs) aK=some X10) (eX (λ_ _=>0) (aI (eX C1 ⟨0,rfl,rfl,(Sub.refl _),(by decide),aU⟩) ?_)))
   rintro _ aV cK ⟨aK,⟨⟩,⟨⟩,aF,cD,aB⟩
   replace aB:T5 x9 aS aR aT aV aK=some X10:=aB
   obtain _|aV:=aV
   ·cases aB
   rw[T5.eq_2]at aB
   refine ifB aB (λbC aB=>?_) λbC aB=>?_
   ·refine ld aB (M0.mono aF bN) λcL bO bD aB=>?_
    obtain⟨bP,bQ,bR,rfl,rfl,bE,bF,bG⟩:=S0 bD
    try dsimp only at aB
    refine ifB aB (λbH aB=>?_) λbH aB=>?_
    ·obtain rfl:=oJ aB
     try dsimp only[M2,N2]at aA
     obtain rfl:=oJ aA
     try dsimp only[M2,N2]at aC
     obtain rfl:=oJ aC
     exact aI rfl (aQ.trans aF)
    ·exact L1 aV ⟨(IntKind.i64.wrap (aK+1)),rfl,rfl,aF,(D0 _),aB⟩
   ·obtain rfl:=oJ aB
    try dsimp only[N0,O0]at aA
    exact L1 m6 ⟨(IntKind.i64.wrap (u4+1)),rfl,rfl,(aQ.trans aF),(D0 _),aA⟩
  ·obtain rfl:=oJ aA
   try dsimp only[N0,O0]at aC
   obtain rfl:=oJ aC
   exact aI rfl aQ
theorem i6(h:Hp)(aB:List Value)(p0:l0)(aT:I0.R h aB p0)(r:l0)(aC:S4 p0=some r):
  Tr Tryz.prog 132 #[.agg aB.toArray] h λv h'=>∃(aQ:List Value),v = .agg aQ.toArray/\New I0 h h' aQ r:=by
 obtain⟨aD,aF,aJ,aR,aK,aL,rfl,rfl,aM,aN,aA⟩:=B0 aT
 obtain⟨rfl,aS⟩:=Sl.len aA
 unfold S4 at aC
 dsimp only at aC
 refine D2 (args:=[.agg #[.int .i64 aD,.int .i64 aF,.slice aJ aL.length aK]]) (fn:=Tryz.f132) rfl ?_
 refine Or.inr (Or.inr (Or.inl (aI (aI (by kernel_rfl) (by kernel_rfl)) ?_)))
 refine Or.inr ?_
 refine Or.inr ?_
 refine Or.inr ?_
 refine Or.inr ?_
 refine Or.inl (eX 0 (aI (aI rfl rfl) ?_))
 refine aI trivial (aI (by first|exact trivial|exact rfl) ?_)
 obtain⟨aO,aU,aP⟩:=Sl.rows (r:=Q0.toRp) aA
 refine eX aO (aI aU ?_)
 obtain⟨q2,aV,aC⟩:=j0 aC
 refine aI (H1 aV (by first|rw[F2.length (show F2 (Q0.R h) ([]:List (List Value)) ([]:H0) from trivial),F2.length aP]|exact congrArg (·+1) (F2.length (show F2 (Q0.R h) ([]:List (List Value)) ([]:H0) from trivial)))) ?_
 refine aI trivial (aI (by first|exact trivial|exact rfl) ?_)
 refine aI trivial (aI (by first|exact trivial|exact rfl) ?_)
 refine aI trivial (aI (by first|exact trivial|exact rfl) ?_)
 intro v3 k4 f5
 obtain⟨aX,aY,rfl,aZ,bA,bB⟩:=K0.out (r:=Q0.toRp) f5 (F2.append (show F2 (Q0.R h) ([]:List (List Value)) ([]:H0) from trivial) aP)
 obtain rfl:=oJ aC
 exact⟨([.int .i64 aD,.int .i64 aF,.slice aX ((([]:H0)++aL)).length aY]),rfl,(New.pair (New.int aM) (New.pair (New.int aN) (K0.newPlain (r:=Q0) f5 (F2.append (show F2 (Q0.R h) ([]:List (List Value)) ([]:H0) from trivial) aP) (M07 _))))⟩
theorem x01(h:Hp)(bT:Option Addr)(cY bU:Nat)(p0:H0)(bO:M0.R h [.slice bT cY bU] p0)(bP:List Value)(p1:U3)(dD:Q0.R h bP p1)(r:H0)(aZ:t8 p0 p1=some r):
  Tr Tryz.prog 248 #[.slice bT cY bU,.agg bP.toArray] h λv h'=>∃(a0:Option Addr) (n0 c0:Nat),v = .slice a0 n0 c0/\M0.R h' [.slice a0 n0 c0] r/\Sub h h':=by
 obtain⟨rfl,dQ⟩:=Sl.len bO
 obtain⟨aA,aB,aC,rfl,rfl,aF,aJ,aK⟩:=S0 dD
 unfold t8 at aZ
 dsimp only at aZ
 refine D2 (args:=[.slice bT p0.length bU,.agg #[.int .i64 aA,.int .i64 aB,.int .i64 aC]]) (fn:=Tryz.f248) rfl ?_
 obtain⟨X1,bV,aZ⟩:=j0 aZ
 refine eX { vars:=[6,7],boxes:=[],owns:=[0],fuel:=true } (eX (λvs os h'=>∃ u2 u3 bN u4,vs.tail = [.bool u2,.int .i64 u3]/\os = [bN]/\Sub h h'/\J0 u3/\F2 (Q0.R h') bN u4/\Y4 p0 aA aB aC (Z0 vs) u2 u3 u4=some X1) (eX (λ_ _=>0) (aI (eX C1 ⟨false,0,[],([]:H0),rfl,rfl,(Sub.refl _),(by decide),(show F2 (Q0.R h) ([]:List (List Value)) ([]:H0) from trivial),bV⟩) ?_)))
 rintro _ _ bN m6 k5 ⟨u2,u3,dE,u4,⟨⟩,⟨⟩,bA,dR,aL,aD⟩
 replace aD:Y4 p0 aA aB aC m6 u2 u3 u4=some X1:=aD
 obtain _|m6:=m6
 ·cases aD
 rw[Y4.eq_2]at aD
 refine ifB aD (λdF aD=>?_) λdF aD=>?_
 ·refine Or.inl (aI (aI (by kernel_rfl) (by kernel_rfl)) ?_)
  refine ld aD (M0.mono bA bO) λx8 dG dH aD=>?_
  obtain⟨dI,dJ,dK,rfl,rfl,bQ,bR,bS⟩:=S0 dH
  try dsimp only at aD
  obtain⟨x9,dL,aD⟩:=j0 aD
  refine eX (.int .i64 x9) (aI (A9 _ _ _ (U0 aF aJ aK) _ _ (U0 bQ bR bS) _  dL) ?_)
  obtain⟨dS,bW,aD⟩:=j0 aD
  have dT:J0 x9:=Q1 bW
  refine ifB aD (λbX aD=>?_) λbX aD=>?_
  ·refine ifB aD (λbY aD=>?_) λbY aD=>?_
   ·obtain⟨dU,bZ,aD⟩:=j0 aD
    refine aI (H1 bZ (by first|rw[F2.length aL,F2.length (show F2 (Q0.R k5) ([[.int .i64 aA,.int .i64 aB,.int .i64 aC]]:List (List Value)) [(aA,aB,aC)] from⟨(U0 aF aJ aK),trivial⟩)]|exact congrArg (·+1) (F2.length aL))) ?_
    refine ld aD (M0.mono bA bO) λdV cZ cA aD=>?_
    obtain⟨aM,aN,aO,rfl,rfl,bB,bC,bD⟩:=S0 cA
    try dsimp only at aD
    obtain⟨dW,cC,aD⟩:=j0 aD
    refine aI (H1 cC (by first|rw[F2.length (F2.append aL (show F2 (Q0.R k5) ([[.int .i64 aA,.int .i64 aB,.int .i64 aC]]:List (List Value)) [(aA,aB,aC)] from⟨(U0 aF aJ aK),trivial⟩)),F2.length (show F2 (Q0.R k5) ([[.int .i64 aM,.int .i64 aN,.int .i64 aO]]:List (List Value)) [(aM,aN,aO)] from⟨(U0 bB bC bD),trivial⟩)]|exact congrArg (·+1) (F2.length (F2.append aL (show F2 (Q0.R k5) ([[.int .i64 aA,.int .i64 aB,.int .i64 aC]]:List (List Value)) [(aA,aB,aC)] from⟨(U0 aF aJ aK),trivial⟩))))) ?_
    exact L1 m6 ⟨true,(IntKind.i64.wrap (u3+1)),((bN++([[.int .i64 aA,.int .i64 aB,.int .i64 aC]]:List (List Value)))++([[.int .i64 aM,.int .i64 aN,.int .i64 aO]]:List (List Value))),((u4 ++ [(aA,aB,aC)]) ++ [(aM,aN,aO)]),rfl,rfl,bA,(D0 _),(F2.append (F2.append aL (show F2 (Q0.R k5) ([[.int .i64 aA,.int .i64 aB,.int .i64 aC]]:List (List Value)) [(aA,aB,aC)] from⟨(U0 aF aJ aK),trivial⟩)) (show F2 (Q0.R k5) ([[.int .i64 aM,.int .i64 aN,.int .i64 aO]]:List (List Value)) [(aM,aN,aO)] from⟨(U0 bB bC bD),trivial⟩)),aD⟩
   ·refine ld aD (M0.mono bA bO) λdX dA cD aD=>?_
    obtain⟨aP,aQ,aR,rfl,rfl,bE,bF,bG⟩:=S0 cD
    try dsimp only at aD
    obtain⟨dY,cE,aD⟩:=j0 aD
    refine aI (H1 cE (by first|rw[F2.length aL,F2.length (show F2 (Q0.R k5) ([[.int .i64 aP,.int .i64 aQ,.int .i64 aR]]:List (List Value)) [(aP,aQ,aR)] from⟨(U0 bE bF bG),trivial⟩)]|exact congrArg (·+1) (F2.length aL))) ?_
    exact L1 m6 ⟨true,(IntKind.i64.wrap (u3+1)),(bN++([[.int .i64 aP,.int .i64 aQ,.int .i64 aR]]:List (List Value))),(u4 ++ [(aP,aQ,aR)]),rfl,rfl,bA,(D0 _),(F2.append aL (show F2 (Q0.R k5) ([[.int .i64 aP,.int .i64 aQ,.int .i64 aR]]:List (List Value)) [(aP,aQ,aR)] from⟨(U0 bE bF bG),trivial⟩)),aD⟩
  ·refine ifB aD (λcF aD=>?_) λcF aD=>?_
   ·obtain⟨dZ,cI,aD⟩:=j0 aD
    refine aI (H1 cI (by first|rw[F2.length aL,F2.length (show F2 (Q0.R k5) ([[.int .i64 aA,.int .i64 aB,.int .i64 aC]]:List (List Value)) [(aA,aB,aC)] from⟨(U0 aF aJ aK),trivial⟩)]|exact congrArg (·+1) (F2.length aL))) ?_
    refine ld aD (M0.mono bA bO) λeA dB cJ aD=>?_
    obtain⟨aS,aT,aU,rfl,rfl,bH,bI,bJ⟩:=S0 cJ
    try dsimp only at aD
    obtain⟨eB,cK,aD⟩:=j0 aD
    refine aI (H1 cK (by first|rw[F2.length (F2.append aL (show F2 (Q0.R k5) ([[.int .i64 aA,.int .i64 aB,.int .i64 aC]]:List (List Value)) [(aA,aB,aC)] from⟨(U0 aF aJ aK),trivial⟩)),F2.length (show F2 (Q0.R k5) ([[.int .i64 aS,.int .i64 aT,.int .i64 aU]]:List (List Value)) [(aS,aT,aU)] from⟨(U0 bH bI bJ),trivial⟩)]|exact congrArg (·+1) (F2.length (F2.append aL (show F2 (Q0.R k5) ([[.int .i64 aA,.int .i64 aB,.int .i64 aC]]:List (List Value)) [(aA,aB,aC)] from⟨(U0 aF aJ aK),trivial⟩))))) ?_
    exact L1 m6 ⟨true,(IntKind.i64.wrap (u3+1)),((bN++([[.int .i64 aA,.int .i64 aB,.int .i64 aC]]:List (List Value)))++([[.int .i64 aS,.int .i64 aT,.int .i64 aU]]:List (List Value))),((u4 ++ [(aA,aB,aC)]) ++ [(aS,aT,aU)]),rfl,rfl,bA,(D0 _),(F2.append (F2.append aL (show F2 (Q0.R k5) ([[.int .i64 aA,.int .i64 aB,.int .i64 aC]]:List (List Value)) [(aA,aB,aC)] from⟨(U0 aF aJ aK),trivial⟩)) (show F2 (Q0.R k5) ([[.int .i64 aS,.int .i64 aT,.int .i64 aU]]:List (List Value)) [(aS,aT,aU)] from⟨(U0 bH bI bJ),trivial⟩)),aD⟩
   ·refine ld aD (M0.mono bA bO) λeC dC cL aD=>?_
    obtain⟨aV,aX,aY,rfl,rfl,bK,bL,bM⟩:=S0 cL
    try dsimp only at aD
    obtain⟨eD,cM,aD⟩:=j0 aD
    refine aI (H1 cM (by first|rw[F2.length aL,F2.length (show F2 (Q0.R k5) ([[.int .i64 aV,.int .i64 aX,.int .i64 aY]]:List (List Value)) [(aV,aX,aY)] from⟨(U0 bK bL bM),trivial⟩)]|exact congrArg (·+1) (F2.length aL))) ?_
    exact L1 m6 ⟨u2,(IntKind.i64.wrap (u3+1)),(bN++([[.int .i64 aV,.int .i64 aX,.int .i64 aY]]:List (List Value))),(u4 ++ [(aV,aX,aY)]),rfl,rfl,bA,(D0 _),(F2.append aL (show F2 (Q0.R k5) ([[.int .i64 aV,.int .i64 aX,.int .i64 aY]]:List (List Value)) [(aV,aX,aY)] from⟨(U0 bK bL bM),trivial⟩)),aD⟩
 ·obtain rfl:=oJ aD
  try dsimp only[N0,O0]at aZ
  refine ifB aZ (λcN aZ=>?_) λcN aZ=>?_
  ·obtain⟨eE,cO,aZ⟩:=j0 aZ
   refine aI (H1 cO (by first|rw[F2.length aL,F2.length (show F2 (Q0.R k5) ([[.int .i64 aA,.int .i64 aB,.int .i64 aC]]:List (List Value)) [(aA,aB,aC)] from⟨(U0 aF aJ aK),trivial⟩)]|exact congrArg (·+1) (F2.length aL))) ?_
   intro eF eG dM
   obtain⟨cP,cQ,rfl,cR,cS,dN⟩:=K0.out (r:=Q0.toRp) dM (F2.append aL (show F2 (Q0.R k5) ([[.int .i64 aA,.int .i64 aB,.int .i64 aC]]:List (List Value)) [(aA,aB,aC)] from⟨(U0 aF aJ aK),trivial⟩))
   obtain rfl:=oJ aZ
   exact⟨cP,((u4 ++ [(aA,aB,aC)])).length,cQ,rfl,cR,(bA.trans cS)⟩
  ·intro eH eI dO
   obtain⟨cT,cU,rfl,cV,cX,dP⟩:=K0.out (r:=Q0.toRp) dO aL
   obtain rfl:=oJ aZ
   exact⟨cT,u4.length,cU,rfl,cV,(bA.trans cX)⟩
theorem l05(h:Hp)(aJ:List Value)(p0:l0)(bK:I0.R h aJ p0)(p1:Int)(bY:J0 p1)(r:Int)(aF:n9 p0 p1=some r):
  Tr Tryz.prog 318 #[.agg aJ.toArray,.int .i64 p1] h λv h'=>v = .int .i64 r/\h'=h:=by
 obtain⟨aM,aN,aK,aV,aL,aD,rfl,rfl,aX,aY,aB⟩:=B0 bK
 obtain⟨rfl,aZ⟩:=Sl.len aB
 unfold n9 at aF
 dsimp only at aF
 refine Tr.forget (D2 (args:=[.agg #[.int .i64 aM,.int .i64 aN,.slice aK aD.length aL],.int .i64 p1]) (fn:=Tryz.f318) rfl ?_)
 obtain⟨X1,aO,aF⟩:=j0 aF
 refine eX { vars:=[5,6],boxes:=[],owns:=[],fuel:=true } (eX (λvs os h'=>∃ u2 u3,vs.tail = [.int .i64 u2,.int .i64 u3]/\os = []/\Sub h h'/\J0 u2/\J0 u3/\C3 aD p1 (Z0 vs) u2 u3=some X1) (eX (λ_ _=>0) (aI (eX C1 ⟨0,0,rfl,rfl,(Sub.refl _),(by decide),(by decide),aO⟩) ?_)))
 rintro _ _ m5 k4 ⟨u2,u3,⟨⟩,⟨⟩,aC,bL,bZ,aA⟩
 replace aA:C3 aD p1 m5 u2 u3=some X1:=aA
 obtain _|m5:=m5
 ·cases aA
 rw[C3.eq_2]at aA
 refine ifB aA (λbM aA=>?_) λbM aA=>?_
 ·refine ld aA (M0.mono aC aB) λx7 bN bO aA=>?_
  obtain⟨bP,bQ,bR,rfl,rfl,bA,bB,bC⟩:=S0 bO
  try dsimp only at aA
  refine ifB aA (λbS aA=>?_) λbS aA=>?_
  ·refine ld aA (M0.mono aC aB) λx9 bT bU aA=>?_
   obtain⟨bV,bW,bX,rfl,rfl,bD,bE,bF⟩:=S0 bU
   try dsimp only at aA
   refine ifB aA (λaP aA=>?_) λaP aA=>?_
   ·exact L1 m5 ⟨(IntKind.i64.wrap ((IntKind.i64.wrap (u2+1))+1)),(IntKind.i64.wrap (u3+1)),rfl,rfl,aC,(D0 _),(D0 _),aA⟩
   ·exact L1 m5 ⟨(IntKind.i64.wrap (u2+1)),(IntKind.i64.wrap (u3+1)),rfl,rfl,aC,(D0 _),(D0 _),aA⟩
  ·refine ld aA (M0.mono aC aB) λcA bG aQ aA=>?_
   obtain⟨bH,bI,bJ,rfl,rfl,aR,aS,aT⟩:=S0 aQ
   try dsimp only at aA
   refine ifB aA (λaU aA=>?_) λaU aA=>?_
   ·exact L1 m5 ⟨(IntKind.i64.wrap (u2+1)),(IntKind.i64.wrap (u3+1)),rfl,rfl,aC,(D0 _),(D0 _),aA⟩
   ·exact L1 m5 ⟨u2,(IntKind.i64.wrap (u3+1)),rfl,rfl,aC,bL,(D0 _),aA⟩
 ·obtain rfl:=oJ aA
  try dsimp only[N0,O0]at aF
  obtain rfl:=oJ aF
  exact aI rfl aC
theorem s03(h:Hp)(aK:List Value)(p0:l0)(bR:I0.R h aK p0)(aL:List Value)(p1:l0)(bS:I0.R h aL p1)(r:Bool)(aB:T7 p0 p1=some r):
  Tr Tryz.prog 194 #[.agg aK.toArray,.agg aL.toArray] h λv h'=>v = .bool r/\h'=h:=by
 obtain⟨aR,aS,aM,bD,aN,aF,rfl,rfl,bE,bF,aC⟩:=B0 bR
 obtain⟨rfl,bG⟩:=Sl.len aC
 obtain⟨aT,aU,aO,bH,aP,aJ,rfl,rfl,bI,bJ,aD⟩:=B0 bS
 obtain⟨rfl,bK⟩:=Sl.len aD
 unfold T7 at aB
 dsimp only at aB
 refine Tr.forget (D2 (args:=[.agg #[.int .i64 aR,.int .i64 aS,.slice aM aF.length aN],.agg #[.int .i64 aT,.int .i64 aU,.slice aO aJ.length aP]]) (fn:=Tryz.f194) rfl ?_)
 refine ifB aB (λbT aB=>?_) λbT aB=>?_
 ·obtain rfl:=oJ aB
  exact aI rfl (Sub.refl _)
 ·obtain⟨X2,aV,aB⟩:=j0 aB
  refine eX { vars:=[5],boxes:=[],owns:=[],fuel:=true } (eX (λvs os h'=>∃ u3,vs.tail = [.int .i64 u3]/\os = []/\Sub h h'/\J0 u3/\Z4 aF aJ (Z0 vs) u3=some X2) (eX (λ_ _=>0) (aI (eX C1 ⟨0,rfl,rfl,(Sub.refl _),(by decide),aV⟩) ?_)))
  rintro _ m5 k4 ⟨u3,⟨⟩,⟨⟩,aQ,cA,aA⟩
  replace aA:Z4 aF aJ m5 u3=some X2:=aA
  obtain _|m5:=m5
  ·cases aA
  rw[Z4.eq_2]at aA
  refine ifB aA (λbU aA=>?_) λbU aA=>?_
  ·refine Or.inl (aI (aI (by kernel_rfl) (by kernel_rfl)) ?_)
   refine ld aA (M0.mono aQ aC) λx7 bV bW aA=>?_
   obtain⟨aX,aY,aZ,rfl,rfl,bL,bM,bN⟩:=S0 bW
   try dsimp only at aA
   refine ld aA (M0.mono aQ aD) λx8 bX bY aA=>?_
   obtain⟨bA,bB,bC,rfl,rfl,bO,bP,bQ⟩:=S0 bY
   try dsimp only at aA
   refine eX (!eqE (aX,aY,aZ) (bA,bB,bC)) (aI (L07 _ _ _ rfl _ _ _ _ _ _) ?_)
   refine ifB aA (λbZ aA=>?_) λbZ aA=>?_
   ·obtain rfl:=oJ aA
    try dsimp only[M2,N2]at aB
    obtain rfl:=oJ aB
    exact aI rfl aQ
   ·exact L1 m5 ⟨(IntKind.i64.wrap (u3+1)),rfl,rfl,aQ,(D0 _),aA⟩
  ·obtain rfl:=oJ aA
   try dsimp only[N0,O0]at aB
   obtain rfl:=oJ aB
   exact aI rfl aQ
theorem t03(h:Hp)(bC:List Value)(p0:l0)(cV:I0.R h bC p0)(p1:Int)(cL:J0 p1)(r:C0)(aF:U7 p0 p1=some r):
  Tr Tryz.prog 334 #[.agg bC.toArray,.int .i64 p1] h λv h'=>∃(a0:Option Addr) (n0 c0:Nat),v = .slice a0 n0 c0/\j1.R h' [.slice a0 n0 c0] r/\Sub h h':=by
 obtain⟨bO,bD,bE,cM,bF,aL,rfl,rfl,bG,bH,aM⟩:=B0 cV
 obtain⟨rfl,cN⟩:=Sl.len aM
 unfold U7 at aF
 dsimp only at aF
 refine D2 (args:=[.agg #[.int .i64 bO,.int .i64 bD,.slice bE aL.length bF],.int .i64 p1]) (fn:=Tryz.f334) rfl ?_
 refine trV aF (d5 _ _ _ (f0 bG bH aM)) λx1 aF=>?_
 refine trG aF (λq=>c5 _ _ cL 0 (by decide) (IntKind.i64.wrap (bD-1)) (D0 _)) λx2 aF=>?_
 refine ifB aF (λcX aF=>?_) λcX aF=>?_
 ·intro v4 k5 f6
  obtain⟨cY,cZ,rfl,dA,dB,dP⟩:=K0.out (r:=Wp.int.toRp) f6 (show F2 (Wp.int.R h) ([]:List (List Value)) ([]:C0) from trivial)
  obtain rfl:=oJ aF
  exact⟨cY,(([]:C0)).length,cZ,rfl,dA,dB⟩
 ·obtain⟨X12,bI,aF⟩:=j0 aF
  refine eX { vars:=[5,6],boxes:=[],owns:=[],fuel:=true,pubs:=[5,22] } (eX (λvs os h'=>∃(aN:Option Addr) (aU aO:Nat) (aV:C0) (bB:Int),vs.tail = [.slice aN aU aO,.int .i64 bB]/\os = []/\Sub h h'/\j1.R h' [.slice aN aU aO] aV/\J0 bB/\a5 aL (Z0 vs) aV bB=some X12) (eX (λ_ _=>0) ?_))
  intro v8 k9 dC
  obtain⟨bP,bQ,rfl,bR,bS,dD⟩:=K0.out (r:=Wp.int.toRp) dC (show F2 (Wp.int.R h) ([[.int .i64 p1]]:List (List Value)) [p1] from⟨⟨rfl,cL⟩,trivial⟩)
  refine aI (eX C1 ⟨bP,([p1]).length,bQ,[p1],0,rfl,rfl,bS,bR,(by decide),bI⟩) ?_
  rintro _ _ bN dE ⟨aN,aU,aO,aV,bB,⟨⟩,⟨⟩,aX,aY,dF,aK⟩
  replace aK:a5 aL bN aV bB=some X12:=aK
  obtain _|bN:=bN
  ·cases aK
  rw[a5.eq_2]at aK
  obtain⟨rfl,dG⟩:=Sl.len aY
  refine ifB aK (λbT aK=>?_) λbT aK=>?_
  ·obtain⟨X18,bJ,aK⟩:=j0 aK
   refine eX { vars:=[5,7],boxes:=[],owns:=[],fuel:=true } (eX (λvs os h'=>∃ aP aZ aQ aT aR,vs.tail = [.slice aP aZ aQ,.int .i64 aR]/\os = []/\Sub dE h'/\j1.R h' [.slice aP aZ aQ] aT/\J0 aR/\j2 aL (Z0 vs) aT aR=some X18) (eX (λ_ _=>0) (aI (eX C1 ⟨aN,aV.length,aO,aV,0,rfl,rfl,(Sub.refl _),aY,(by decide),bJ⟩) ?_)))
   rintro _ _ bA dQ ⟨aP,aZ,aQ,aT,aR,⟨⟩,⟨⟩,aJ,aB,dH,aA⟩
   replace aA:j2 aL bA aT aR=some X18:=aA
   obtain _|bA:=bA
   ·cases aA
   rw[j2.eq_2]at aA
   obtain⟨rfl,dI⟩:=Sl.len aB
   refine ifB aA (λbU aA=>?_) λbU aA=>?_
   ·refine ld aA (M0.mono (aX.trans aJ) aM) λdR cO bV aA=>?_
    obtain⟨cP,cQ,cR,rfl,rfl,aC,bW,aD⟩:=S0 bV
    try dsimp only at aA
    refine trV aA (D7 _ _ _ _ _ aB _ aC) λdS aA=>?_
    refine ifB aA (λbX aA=>?_) λbX aA=>?_
    ·refine trM aA (C7 _ _ _ _ _ aB _ aD) ?_
     rintro cS aA dT dU ⟨bY,dJ,bZ,rfl,aS,bK⟩
     obtain⟨rfl,dK⟩:=Sl.len aS
     refine trV aA (D7 _ _ _ _ _ aS _ aD) λdV aA=>?_
     refine ifB aA (λcA aA=>?_) λcA aA=>?_
     ·refine trM aA (C7 _ _ _ _ _ aS _ aC) ?_
      rintro cT aA dW dX ⟨cC,dL,cD,rfl,bL,cE⟩
      obtain⟨rfl,dM⟩:=Sl.len bL
      exact L1 bA ⟨cC,cT.length,cD,cT,(IntKind.i64.wrap (aR+1)),rfl,rfl,((aJ.trans bK).trans cE),bL,(D0 _),aA⟩
     ·exact L1 bA ⟨bY,cS.length,bZ,cS,(IntKind.i64.wrap (aR+1)),rfl,rfl,(aJ.trans bK),aS,(D0 _),aA⟩
    ·refine trV aA (D7 _ _ _ _ _ aB _ aD) λdY aA=>?_
     refine ifB aA (λcF aA=>?_) λcF aA=>?_
     ·refine trM aA (C7 _ _ _ _ _ aB _ aC) ?_
      rintro cU aA dZ eA ⟨cI,dN,cJ,rfl,bM,cK⟩
      obtain⟨rfl,dO⟩:=Sl.len bM
      exact L1 bA ⟨cI,cU.length,cJ,cU,(IntKind.i64.wrap (aR+1)),rfl,rfl,(aJ.trans cK),bM,(D0 _),aA⟩
     ·exact L1 bA ⟨aP,aT.length,aQ,aT,(IntKind.i64.wrap (aR+1)),rfl,rfl,aJ,aB,(D0 _),aA⟩
   ·obtain rfl:=oJ aA
    try dsimp only[N0,O0]at aK
    exact L1 bN ⟨aP,aT.length,aQ,aT,(IntKind.i64.wrap (bB+1)),rfl,rfl,(aX.trans aJ),aB,(D0 _),aK⟩
  ·obtain rfl:=oJ aK
   try dsimp only[N0,O0]at aF
   obtain rfl:=oJ aF
   exact⟨aN,aV.length,aO,rfl,aY,aX⟩
theorem A06(h:Hp)(aM:List Value)(p0:l0)(aZ:I0.R h aM p0)(r:Int)(aC:F00 p0=some r):
  Tr Tryz.prog 294 #[.agg aM.toArray] h λv h'=>v = .int .i64 r/\h'=h:=by
 obtain⟨aJ,aK,aN,aU,aO,aL,rfl,rfl,aD,aF,aB⟩:=B0 aZ
 obtain⟨rfl,aV⟩:=Sl.len aB
 unfold F00 at aC
 dsimp only at aC
 refine Tr.forget (D2 (args:=[.agg #[.int .i64 aJ,.int .i64 aK,.slice aN aL.length aO]]) (fn:=Tryz.f294) rfl ?_)
 refine trM aC (t03 _ _ _ (f0 aD aF aB) 0 (by decide)) ?_
 rintro x1 aC v3 k2 ⟨bB,bC,bD,rfl,aX,aQ⟩
 obtain⟨rfl,bE⟩:=Sl.len aX
 obtain⟨X4,aR,aC⟩:=j0 aC
 refine eX { vars:=[4],boxes:=[],owns:=[],fuel:=true } (eX (λvs os h'=>∃ u5,vs.tail = [.int .i64 u5]/\os = []/\Sub k2 h'/\J0 u5/\J6 aK aJ aL x1 (Z0 vs) u5=some X4) (eX (λ_ _=>0) (aI (eX C1 ⟨1,rfl,rfl,(Sub.refl _),(by decide),aR⟩) ?_)))
 rintro _ m7 k6 ⟨u5,⟨⟩,⟨⟩,aP,aY,aA⟩
 replace aA:J6 aK aJ aL x1 m7 u5=some X4:=aA
 obtain _|m7:=m7
 ·cases aA
 rw[J6.eq_2]at aA
 refine ifB aA (λbA aA=>?_) λbA aA=>?_
 ·refine trV aA (l05 _ _ _ (f0 aD aF (M0.mono (aQ.trans aP) aB)) _ aY) λx9 aA=>?_
  obtain⟨bF,aS,aA⟩:=j0 aA
  have bG:J0 x9:=Q1 aS
  refine trG aA (λq=>D7 _ _ _ _ _ (j1.mono aP aX) _ aY) λbH aA=>?_
  refine ifB aA (λaT aA=>?_) λaT aA=>?_
  ·obtain rfl:=oJ aA
   try dsimp only[M2,N2]at aC
   obtain rfl:=oJ aC
   exact aI rfl (aQ.trans aP)
  ·exact L1 m7 ⟨(IntKind.i64.wrap (u5+1)),rfl,rfl,aP,(D0 _),aA⟩
 ·obtain rfl:=oJ aA
  try dsimp only[N0,O0]at aC
  obtain rfl:=oJ aC
  exact aI rfl (aQ.trans aP)
theorem j9(h:Hp)(bI:List Value)(p0:l0)(eS:I0.R h bI p0)(cI:Option Addr)(dZ cJ:Nat)(p1:C0)(cA:j1.R h [.slice cI dZ cJ] p1)(r:l0×Bool)(aB:V5 p0 p1=some r):
  Tr Tryz.prog 320 #[.agg bI.toArray,.slice cI dZ cJ] h λv h'=>∃(eA:List Value),v = .tuple #[.agg eA.toArray,.bool r.2]/\I0.R h' eA r.1/\Sub h h':=by
 obtain⟨aQ,aF,bJ,eB,bK,aK,rfl,rfl,aJ,aL,aC⟩:=B0 eS
 obtain⟨rfl,eC⟩:=Sl.len aC
 obtain⟨rfl,eT⟩:=Sl.len cA
 unfold V5 at aB
 dsimp only at aB
 refine D2 (args:=[.agg #[.int .i64 aQ,.int .i64 aF,.slice bJ aK.length bK],.slice cI p1.length cJ]) (fn:=Tryz.f320) rfl ?_
 refine trV aB (d5 _ _ _ (f0 aJ aL aC)) λx1 aB=>?_
 refine ifB aB (λeU aB=>?_) λeU aB=>?_
 ·refine trM aB (i6 _ _ _ (f0 aJ aL aC)) ?_
  rintro x3 aB v5 k4 ⟨eV,rfl,eD⟩
  have eW:Sub h k4:=eD.sub
  have eY:=eD.r
  obtain⟨cK,cL,bL,eE,bM,cM,rfl,rfl,bN,bO,aS⟩:=B0 eY
  obtain⟨rfl,eF⟩:=Sl.len aS
  try dsimp only at aB
  obtain rfl:=oJ aB
  exact⟨([.int .i64 cK,.int .i64 cL,.slice bL cM.length bM]),rfl,(f0 bN bO aS),eW⟩
 ·obtain⟨q6,eZ,aB⟩:=j0 aB
  refine aI (Q1 eZ) ?_
  obtain⟨X7,cN,aB⟩:=j0 aB
  refine eX { vars:=[8],boxes:=[],owns:=[0],fuel:=true,kept:=[0] } (eX (λvs os h'=>∃ u8 cC u9,vs.tail = [.int .i64 u8]/\os = [cC]/\Sub h h'/\J0 u8/\F2 (Wp.int.R h') cC u9/\i4 p1 aF aQ aK (Z0 vs) u8 u9=some X7) (eX (λ_ _=>0) (aI (eX C1 ⟨0,(List.replicate aF.toNat ([.int .i64 0]:List Value)),(List.replicate aF.toNat (0:Int)),rfl,rfl,(Sub.refl _),(by decide),(F2.rep (p:=Wp.int.R h) (a:=[.int .i64 0]) (b:=0) ⟨rfl,(by decide)⟩ (aF.toNat)),cN⟩) ?_)))
  rintro _ cC cD bP ⟨u8,fA,u9,⟨⟩,⟨⟩,aT,fR,aX,aA⟩
  replace aA:i4 p1 aF aQ aK cD u8 u9=some X7:=aA
  obtain _|cD:=cD
  ·cases aA
  rw[i4.eq_2]at aA
  refine ifB aA (λcO aA=>?_) λcO aA=>?_
  ·refine Or.inl (aI (aI (by kernel_rfl) (by kernel_rfl)) ?_)
   refine ldI aA (j1.mono aT cA) λfS cP aA=>?_
   obtain⟨fB,cQ,aA⟩:=j0 aA
   refine eX (.bool fB) (aI (c5 _ _ cP 0 (by decide) (IntKind.i64.wrap (aF-1)) (D0 _) _  cQ) ?_)
   refine ldG aA (j1.mono aT cA) λfT fC aA=>?_
   obtain⟨fU,cR,aA⟩:=j0 aA
   obtain⟨eG,bQ,cS⟩:=j02 aX cR (b0a bP)
   refine aI (λq=>(bQ q).1) ?_
   obtain⟨rfl,fD⟩:=cS
   refine eX _ (aI (λq=>(bQ q).2) ?_)
   refine ifB aA (λcT aA=>?_) λcT aA=>?_
   ·refine trM aA (i6 _ _ _ (f0 aJ aL (M0.mono aT aC))) ?_
    rintro fV aA fW fE ⟨eH,rfl,bR⟩
    have cU:Sub bP fE:=bR.sub
    have cV:=bR.r
    obtain⟨bS,bT,aY,cX,aZ,bU,rfl,rfl,bA,bB,aM⟩:=B0 cV
    obtain⟨rfl,cY⟩:=Sl.len aM
    try dsimp only at aA
    obtain rfl:=oJ aA
    try dsimp only[M2,N2]at aB
    obtain rfl:=oJ aB
    exact⟨([.int .i64 bS,.int .i64 bT,.slice aY bU.length aZ]),rfl,(f0 bA bB aM),(aT.trans cU)⟩
   ·refine ldI aA (j1.mono aT cA) λcZ fF aA=>?_
    obtain⟨fX,dA,aA⟩:=j0 aA
    obtain⟨dB,eI,dC,dD⟩:=N3 aX dA
    refine aI dB ?_
    obtain⟨rfl,fH⟩:=dD
    refine eX _ (aI dC ?_)
    exact L1 cD ⟨(IntKind.i64.wrap (u8+1)),(cC.set cZ.toNat [.int .i64 (IntKind.i64.wrap (u8+1))]),(u9.set cZ.toNat (IntKind.i64.wrap (u8+1))),rfl,rfl,aT,(D0 _),(F2.set (p:=Wp.int.R bP) (a:=[.int .i64 (IntKind.i64.wrap (u8+1))]) (b:=(IntKind.i64.wrap (u8+1))) ⟨rfl,(D0 _)⟩ cZ.toNat aX),aA⟩
  ·obtain rfl:=oJ aA
   try dsimp only[N0,O0]at aB
   obtain⟨X23,bV,aB⟩:=j0 aB
   refine eX { vars:=[9],boxes:=[2],owns:=[],fuel:=true } (eX (λvs os h'=>∃ bC aU aV aN bD aO bE,vs.tail = [.int .i64 bC,.int .i64 aU,.int .i64 aV,.slice aN bD aO]/\os = []/\Sub bP h'/\J0 bC/\J0 aU/\J0 aV/\M0.R h' [.slice aN bD aO] bE/\Y2 aK u9 (Z0 vs) bC aU aV bE=some X23) (eX (λ_ _=>0) (aI (eX C1 ⟨0,aQ,((p1.length:Nat):Int),none,0,0,[],rfl,rfl,(Sub.refl _),(by decide),aJ,(L08 eT),(s09 Q0 bP),bV⟩) ?_)))
   rintro _ _ _ _ bW fI ⟨bC,aU,aV,aN,bD,aO,bE,⟨⟩,⟨⟩,aD,fJ,bF,bG,aR,aA⟩
   replace aA:Y2 aK u9 bW bC aU aV bE=some X23:=aA
   obtain _|bW:=bW
   ·cases aA
   rw[Y2.eq_2]at aA
   obtain⟨rfl,fK⟩:=Sl.len aR
   refine ifB aA (λdE aA=>?_) λdE aA=>?_
   ·refine ld aA (M0.mono (aT.trans aD) aC) λfY eJ dF aA=>?_
    obtain⟨eK,aP,eM,rfl,rfl,dG,bH,dH⟩:=S0 dF
    try dsimp only at aA
    obtain⟨fZ,dI,aA⟩:=j0 aA
    obtain⟨dJ,eN,dK,dL⟩:=N3 (F2.up (r:=Wp.int.toRp) aD aX) dI
    refine aI dJ ?_
    obtain⟨rfl,fL⟩:=dL
    refine eX _ (aI dK ?_)
    obtain⟨gA,dM,aA⟩:=j0 aA
    obtain⟨eO,bX,dN⟩:=j02 (F2.up (r:=Wp.int.toRp) aD aX) dM (b0a fI)
    refine aI (λq=>(bX q).1) ?_
    obtain⟨rfl,fM⟩:=dN
    refine eX _ (aI (λq=>(bX q).2) ?_)
    refine ifB aA (λdO aA=>?_) λdO aA=>?_
    ·refine Or.inr (Or.inr (Or.inl (aI (aI (by kernel_rfl) (by kernel_rfl)) ?_)))
     obtain⟨cE,dP,aA⟩:=j0 aA
     obtain⟨dQ,eP,dR,dS⟩:=N3 (F2.up (r:=Wp.int.toRp) aD aX) dP
     obtain⟨rfl,fN⟩:=dS
     refine Or.inl ?_
     apply eX
     refine aI ?_ ?_
     ·intro gB gC
      exact aI dQ (aI rfl (aI rfl rfl))
     refine Or.inl (eX (.val (.int .i64 cE)) (aI ?_ ?_))
     ·intro gD gE
      exact eX _ (aI dR (aI rfl (aI rfl rfl)))
     obtain⟨cF,dT,aA⟩:=j0 aA
     obtain⟨dU,eQ,dV,dW⟩:=N3 (F2.up (r:=Wp.int.toRp) aD aX) dT
     obtain⟨rfl,fO⟩:=dW
     refine Or.inl ?_
     apply eX
     refine aI ?_ ?_
     ·intro gF gG
      exact aI dU (aI rfl (aI rfl rfl))
     refine Or.inl (eX (.val (.int .i64 cF)) (aI ?_ ?_))
     ·intro gH gI
      exact eX _ (aI dV (aI rfl (aI rfl rfl)))
     refine Or.inl (eX (.agg [.val (.int .i64 (IntKind.i64.wrap (cE-1))),.val (.int .i64 aP),.val (.int .i64 (IntKind.i64.wrap (cF-1)))]) (aI ?_ ?_))
     ·intro gJ gK
      exact aI rfl (aI rfl rfl)
     refine Or.inr ?_
     refine Or.inr ?_
     refine Or.inl (eX 1 (aI (aI rfl rfl) ?_))
     refine trM aA (x01 _ _ _ _ _ aR [.int .i64 (IntKind.i64.wrap (cE-1)),.int .i64 aP,.int .i64 (IntKind.i64.wrap (cF-1))] ((IntKind.i64.wrap (cE-1)),aP,(IntKind.i64.wrap (cF-1))) (U0 (D0 _) bH (D0 _))) ?_
     rintro eR aA gL gM ⟨dX,fP,dY,rfl,bY,bZ⟩
     obtain⟨rfl,fQ⟩:=Sl.len bY
     refine aI (aI rfl bZ) (aI (by first|exact trivial|exact rfl) ?_)
     refine aI trivial (aI (by first|exact trivial|exact rfl) ?_)
     exact L1 bW ⟨(IntKind.i64.wrap (bC+1)),aU,aV,dX,eR.length,dY,eR,rfl,rfl,(aD.trans bZ),(D0 _),bF,bG,bY,aA⟩
    ·exact L1 bW ⟨(IntKind.i64.wrap (bC+1)),aU,aV,aN,bE.length,aO,bE,rfl,rfl,aD,(D0 _),bF,bG,aR,aA⟩
   ·obtain rfl:=oJ aA
    try dsimp only[N0,O0]at aB
    obtain rfl:=oJ aB
    exact⟨([.int .i64 aU,.int .i64 aV,.slice aN bE.length aO]),rfl,(f0 bF bG aR),(aT.trans aD)⟩
theorem L04(h:Hp)(p0:Int)(aU:J0 p0)(r:C0)(aC:O8 p0=some r):
  Tr Tryz.prog 319 #[.int .i64 p0] h λv h'=>∃(a0:Option Addr) (n0 c0:Nat),v = .slice a0 n0 c0/\j1.R h' [.slice a0 n0 c0] r/\Sub h h':=by
 unfold O8 at aC
 refine D2 (args:=[.int .i64 p0]) (fn:=Tryz.f319) rfl ?_
 obtain⟨X1,aJ,aC⟩:=j0 aC
 refine eX { vars:=[4],boxes:=[],owns:=[0],fuel:=true } (eX (λvs os h'=>∃ u2 aD u3,vs.tail = [.int .i64 u2]/\os = [aD]/\Sub h h'/\J0 u2/\F2 (Wp.int.R h') aD u3/\E5 p0 (Z0 vs) u2 u3=some X1) (eX (λ_ _=>0) (aI (eX C1 ⟨1,[],([]:C0),rfl,rfl,(Sub.refl _),(by decide),(show F2 (Wp.int.R h) ([]:List (List Value)) ([]:C0) from trivial),aJ⟩) ?_)))
 rintro _ aD m5 k4 ⟨u2,aP,u3,⟨⟩,⟨⟩,aO,aF,aB,aA⟩
 replace aA:E5 p0 m5 u2 u3=some X1:=aA
 obtain _|m5:=m5
 ·cases aA
 rw[E5.eq_2]at aA
 refine ifB aA (λaQ aA=>?_) λaQ aA=>?_
 ·obtain⟨q7,aR,aA⟩:=j0 aA
  refine aI (H1 aR (by first|rw[F2.length aB,F2.length (show F2 (Wp.int.R k4) ([[.int .i64 u2]]:List (List Value)) [u2] from⟨⟨rfl,aF⟩,trivial⟩)]|exact congrArg (·+1) (F2.length aB))) ?_
  obtain⟨q8,aS,aA⟩:=j0 aA
  refine aI (H1 aS (by first|rw[F2.length (F2.append aB (show F2 (Wp.int.R k4) ([[.int .i64 u2]]:List (List Value)) [u2] from⟨⟨rfl,aF⟩,trivial⟩)),F2.length (show F2 (Wp.int.R k4) ([[.int .i64 (IntKind.i64.wrap (0-u2))]]:List (List Value)) [(IntKind.i64.wrap (0-u2))] from⟨⟨rfl,(D0 _)⟩,trivial⟩)]|exact congrArg (·+1) (F2.length (F2.append aB (show F2 (Wp.int.R k4) ([[.int .i64 u2]]:List (List Value)) [u2] from⟨⟨rfl,aF⟩,trivial⟩))))) ?_
  exact L1 m5 ⟨(IntKind.i64.wrap (u2+1)),((aD++([[.int .i64 u2]]:List (List Value)))++([[.int .i64 (IntKind.i64.wrap (0-u2))]]:List (List Value))),((u3 ++ [u2]) ++ [(IntKind.i64.wrap (0-u2))]),rfl,rfl,aO,(D0 _),(F2.append (F2.append aB (show F2 (Wp.int.R k4) ([[.int .i64 u2]]:List (List Value)) [u2] from⟨⟨rfl,aF⟩,trivial⟩)) (show F2 (Wp.int.R k4) ([[.int .i64 (IntKind.i64.wrap (0-u2))]]:List (List Value)) [(IntKind.i64.wrap (0-u2))] from⟨⟨rfl,(D0 _)⟩,trivial⟩)),aA⟩
 ·obtain rfl:=oJ aA
  try dsimp only[N0,O0]at aC
  intro v9 aV f11
  obtain⟨aK,aL,rfl,aM,aN,aT⟩:=K0.out (r:=Wp.int.toRp) f11 aB
  obtain rfl:=oJ aC
  exact⟨aK,u3.length,aL,rfl,aM,(aO.trans aN)⟩
theorem D01(h:Hp)(bA:List Value)(p0:l0)(cL:I0.R h bA p0)(r:C0)(aD:O6 p0=some r):
  Tr Tryz.prog 335 #[.agg bA.toArray] h λv h'=>∃(a0:Option Addr) (n0 c0:Nat),v = .slice a0 n0 c0/\j1.R h' [.slice a0 n0 c0] r/\Sub h h':=by
 obtain⟨aJ,aK,bB,cC,bC,aL,rfl,rfl,aM,aR,aN⟩:=B0 cL
 obtain⟨rfl,cD⟩:=Sl.len aN
 unfold O6 at aD
 dsimp only at aD
 refine D2 (args:=[.agg #[.int .i64 aJ,.int .i64 aK,.slice bB aL.length bC]]) (fn:=Tryz.f335) rfl ?_
 refine trV aD (k05 _ _ _ (f0 aM aR aN)) λx1 aD=>?_
 refine ifB aD (λcM aD=>?_) λcM aD=>?_
 ·intro v3 k4 f5
  obtain⟨cN,cO,rfl,cP,cQ,dF⟩:=K0.out (r:=Wp.int.toRp) f5 (show F2 (Wp.int.R h) ([]:List (List Value)) ([]:C0) from trivial)
  obtain rfl:=oJ aD
  exact⟨cN,(([]:C0)).length,cO,rfl,cP,cQ⟩
 ·refine trM aD (L04 _ _ aM) ?_
  rintro x7 aD v9 k8 ⟨dG,dH,dI,rfl,cE,bH⟩
  obtain⟨rfl,dJ⟩:=Sl.len cE
  obtain⟨X10,bD,aD⟩:=j0 aD
  refine eX { vars:=[5],boxes:=[],owns:=[0],fuel:=true } (eX (λvs os h'=>∃ aS aO aZ,vs.tail = [.int .i64 aS]/\os = [aO]/\Sub k8 h'/\J0 aS/\F2 (Wp.int.R h') aO aZ/\V3 x7 aJ aK aL (Z0 vs) aS aZ=some X10) (eX (λ_ _=>0) (aI (eX C1 ⟨0,([[.int .i64 0]]:List (List Value)),[0],rfl,rfl,(Sub.refl _),(by decide),(F2.up (r:=Wp.int.toRp) bH (show F2 (Wp.int.R h) ([[.int .i64 0]]:List (List Value)) [0] from⟨⟨rfl,(by decide)⟩,trivial⟩)),bD⟩) ?_)))
  rintro _ aO bG cR ⟨aS,cF,aZ,⟨⟩,⟨⟩,aQ,cS,aU,aB⟩
  replace aB:V3 x7 aJ aK aL bG aS aZ=some X10:=aB
  obtain _|bG:=bG
  ·cases aB
  rw[V3.eq_2]at aB
  obtain⟨cT,bI,aB⟩:=j0 aB
  obtain rfl:aO.length=cT:=(F2.length aU).trans (oJ bI)
  obtain⟨dK,cU,aB⟩:=j0 aB
  refine ifB aB (λbJ aB=>?_) λbJ aB=>?_
  ·obtain⟨X18,bE,aB⟩:=j0 aB
   refine eX { vars:=[6],boxes:=[],owns:=[0],fuel:=true } (eX (λvs os h'=>∃ aV aF aX,vs.tail = [.int .i64 aV]/\os = [aF]/\Sub cR h'/\J0 aV/\F2 (Wp.int.R h') aF aX/\Q2 x7 aS aJ aK aL (Z0 vs) aV aX=some X18) (eX (λ_ _=>0) (aI (eX C1 ⟨0,aO,aZ,rfl,rfl,(Sub.refl _),(by decide),aU,bE⟩) ?_)))
   rintro _ aF bF cI ⟨aV,cJ,aX,⟨⟩,⟨⟩,aP,cV,aC,aA⟩
   replace aA:Q2 x7 aS aJ aK aL bF aV aX=some X18:=aA
   obtain _|bF:=bF
   ·cases aA
   rw[Q2.eq_2]at aA
   refine ifB aA (λbK aA=>?_) λbK aA=>?_
   ·refine Or.inl (aI (aI (by kernel_rfl) (by kernel_rfl)) ?_)
    obtain⟨dL,bL,aA⟩:=j0 aA
    obtain⟨bM,cK,bN,bO⟩:=N3 aC bL
    refine aI bM ?_
    obtain⟨rfl,bP⟩:=bO
    refine eX _ (aI bN ?_)
    refine ldI aA (j1.mono (aQ.trans aP) cE) λdM bQ aA=>?_
    obtain⟨aT,bR,aA⟩:=j0 aA
    refine eX (.int .i64 aT) (aI (c04 _ _ _ (f0 aM aR (M0.mono ((bH.trans aQ).trans aP) aN)) _ bP _ bQ _  bR) ?_)
    obtain⟨dN,bS,aA⟩:=j0 aA
    have aY:J0 aT:=Q1 bS
    obtain⟨cX,bT,aA⟩:=j0 aA
    refine eX (.bool cX) (aI ?_ ?_)
    ·intro hq
     intro dO dP cY
     obtain⟨cZ,dA,rfl,bU,dB,dC⟩:=K0.out (r:=Wp.int.toRp) cY aC
     exact D7 _ _ _ _ _ bU _ aY _ (X00 bT hq)
    refine ifB aA (λbV aA=>?_) λbV aA=>?_
    ·obtain⟨dQ,bW,aA⟩:=j0 aA
     refine aI (H1 bW (by first|rw[F2.length aC,F2.length (show F2 (Wp.int.R cI) ([[.int .i64 aT]]:List (List Value)) [aT] from⟨⟨rfl,aY⟩,trivial⟩)]|exact congrArg (·+1) (F2.length aC))) ?_
     exact L1 bF ⟨(IntKind.i64.wrap (aV+1)),(aF++([[.int .i64 aT]]:List (List Value))),(aX ++ [aT]),rfl,rfl,aP,(D0 _),(F2.append aC (show F2 (Wp.int.R cI) ([[.int .i64 aT]]:List (List Value)) [aT] from⟨⟨rfl,aY⟩,trivial⟩)),aA⟩
    ·exact L1 bF ⟨(IntKind.i64.wrap (aV+1)),aF,aX,rfl,rfl,aP,(D0 _),aC,aA⟩
   ·obtain rfl:=oJ aA
    try dsimp only[N0,O0]at aB
    exact L1 bG ⟨(IntKind.i64.wrap (aS+1)),aF,aX,rfl,rfl,(aQ.trans aP),(D0 _),aC,aB⟩
  ·obtain rfl:=oJ aB
   try dsimp only[N0,O0]at aD
   intro dR dS dD
   obtain⟨bX,bY,rfl,bZ,cA,dE⟩:=K0.out (r:=Wp.int.toRp) dD aU
   obtain rfl:=oJ aD
   exact⟨bX,aZ.length,bY,rfl,bZ,((bH.trans aQ).trans cA)⟩
theorem E01(h:Hp)(aS:List Value)(p0:l0)(bR:I0.R h aS p0)(r:l0)(aA:P6 p0=some r):
  Tr Tryz.prog 295 #[.agg aS.toArray] h λv h'=>∃(bK:List Value),v = .agg bK.toArray/\I0.R h' bK r/\Sub h h':=by
 obtain⟨bD,bE,aT,bL,aU,bF,rfl,rfl,aD,aF,aB⟩:=B0 bR
 obtain⟨rfl,bM⟩:=Sl.len aB
 unfold P6 at aA
 dsimp only at aA
 refine D2 (args:=[.agg #[.int .i64 bD,.int .i64 bE,.slice aT bF.length aU]]) (fn:=Tryz.f295) rfl ?_
 refine trM aA (D01 _ _ _ (f0 aD aF aB)) ?_
 rintro x1 aA v3 k2 ⟨bZ,cA,cC,rfl,bN,bA⟩
 obtain⟨rfl,cD⟩:=Sl.len bN
 refine ifB aA (λbS aA=>?_) λbS aA=>?_
 ·refine trM aA (i6 _ _ _ (f0 aD aF (M0.mono bA aB))) ?_
  rintro x5 aA v7 k6 ⟨bT,rfl,bO⟩
  have bU:Sub k2 k6:=bO.sub
  have bV:=bO.r
  obtain⟨bG,bH,aV,bP,aX,bI,rfl,rfl,aY,aZ,aN⟩:=B0 bV
  obtain⟨rfl,bQ⟩:=Sl.len aN
  try dsimp only at aA
  obtain rfl:=oJ aA
  exact⟨([.int .i64 bG,.int .i64 bH,.slice aV bI.length aX]),rfl,(f0 aY aZ aN),(bA.trans bU)⟩
 ·refine trM aA (j9 _ _ _ (f0 aD aF (M0.mono bA aB)) _ _ _ _ bN) ?_
  rintro x8 aA cE k9 ⟨bJ,rfl,aO,bW⟩
  obtain⟨bX,bY⟩:=x8
  dsimp only at aA aO
  obtain⟨aP,aQ,aJ,bB,aK,aR,rfl,rfl,aL,aM,aC⟩:=B0 aO
  obtain⟨rfl,bC⟩:=Sl.len aC
  try dsimp only at aA
  obtain rfl:=oJ aA
  exact⟨([.int .i64 aP,.int .i64 aQ,.slice aJ aR.length aK]),rfl,(f0 aL aM aC),(bA.trans bW)⟩
theorem m06(h:Hp)(aX:List Value)(p0:l0)(cF:I0.R h aX p0)(r:p5)(aV:d00 p0=some r):
  Tr Tryz.prog 376 #[.agg aX.toArray] h λv h'=>∃(a0:Option Addr) (n0 c0:Nat),v = .slice a0 n0 c0/\K07.R h' [.slice a0 n0 c0] r/\Sub h h':=by
 obtain⟨bC,bD,aY,bV,aZ,aO,rfl,rfl,bW,bX,aP⟩:=B0 cF
 obtain⟨rfl,bY⟩:=Sl.len aP
 unfold d00 at aV
 dsimp only at aV
 refine D2 (args:=[.agg #[.int .i64 bC,.int .i64 bD,.slice aY aO.length aZ]]) (fn:=Tryz.f376) rfl ?_
 obtain⟨X1,bE,aV⟩:=j0 aV
 refine eX { vars:=[4],boxes:=[],owns:=[0],fuel:=true } (eX (λvs os h'=>∃ u2 bA u3,vs.tail = [.int .i64 u2]/\os = [bA]/\Sub h h'/\J0 u2/\F2 (U1.R h') bA u3/\s6 aO (Z0 vs) u2 u3=some X1) (eX (λ_ _=>0) (aI (eX C1 ⟨0,[],([]:p5),rfl,rfl,(Sub.refl _),(by decide),(show F2 (U1.R h) ([]:List (List Value)) ([]:p5) from trivial),bE⟩) ?_)))
 rintro _ bA m5 k4 ⟨u2,cI,u3,⟨⟩,⟨⟩,bB,cN,bZ,aN⟩
 replace aN:s6 aO m5 u2 u3=some X1:=aN
 obtain _|m5:=m5
 ·cases aN
 rw[s6.eq_2]at aN
 refine ifB aN (λcJ aN=>?_) λcJ aN=>?_
 ·obtain⟨X7,bF,aN⟩:=j0 aN
  refine eX { vars:=[5],boxes:=[],owns:=[0],fuel:=true } (eX (λvs os h'=>∃ u8 aS u9,vs.tail = [.int .i64 u8]/\os = [aS]/\Sub k4 h'/\J0 u8/\F2 (U1.R h') aS u9/\Y3 aO u2 (Z0 vs) u8 u9=some X7) (eX (λ_ _=>0) (aI (eX C1 ⟨(IntKind.i64.wrap (u2+1)),bA,u3,rfl,rfl,(Sub.refl _),(D0 _),bZ,bF⟩) ?_)))
  rintro _ aS aT aR ⟨u8,cK,u9,⟨⟩,⟨⟩,aU,cO,aQ,aM⟩
  replace aM:Y3 aO u2 aT u8 u9=some X7:=aM
  obtain _|aT:=aT
  ·cases aM
  rw[Y3.eq_2]at aM
  refine ifB aM (λbG aM=>?_) λbG aM=>?_
  ·refine ld aM (M0.mono (bB.trans aU) aP) λcP cA bH aM=>?_
   obtain⟨aC,cC,aA,rfl,rfl,aK,bI,aF⟩:=S0 bH
   try dsimp only at aM
   refine ld aM (M0.mono (bB.trans aU) aP) λcQ cD bJ aM=>?_
   obtain⟨aD,cE,aB,rfl,rfl,aL,bK,aJ⟩:=S0 bJ
   try dsimp only at aM
   refine ifB aM (λbL aM=>?_) λbL aM=>?_
   ·obtain⟨cR,bM,aM⟩:=j0 aM
    refine aI (H1 bM (by first|rw[F2.length aQ,F2.length (show F2 (U1.R aR) ([[.int .i64 (if aB<aA then aB else aA),.int .i64 (if aB>aA then aB else aA)]]:List (List Value)) [((if aB<aA then aB else aA),(if aB>aA then aB else aA))] from⟨(D1 (Q4 aJ aF) (Q4 aJ aF)),trivial⟩)]|exact congrArg (·+1) (F2.length aQ))) ?_
    refine ifB aM (λbN aM=>?_) λbN aM=>?_
    ·obtain⟨cS,bO,aM⟩:=j0 aM
     refine aI (H1 bO (by first|rw[F2.length (F2.append aQ (show F2 (U1.R aR) ([[.int .i64 (if aB<aA then aB else aA),.int .i64 (if aB>aA then aB else aA)]]:List (List Value)) [((if aB<aA then aB else aA),(if aB>aA then aB else aA))] from⟨(D1 (Q4 aJ aF) (Q4 aJ aF)),trivial⟩)),F2.length (show F2 (U1.R aR) ([[.int .i64 (if aD<aC then aD else aC),.int .i64 (if aD>aC then aD else aC)]]:List (List Value)) [((if aD<aC then aD else aC),(if aD>aC then aD else aC))] from⟨(D1 (Q4 aL aK) (Q4 aL aK)),trivial⟩)]|exact congrArg (·+1) (F2.length (F2.append aQ (show F2 (U1.R aR) ([[.int .i64 (if aB<aA then aB else aA),.int .i64 (if aB>aA then aB else aA)]]:List (List Value)) [((if aB<aA then aB else aA),(if aB>aA then aB else aA))] from⟨(D1 (Q4 aJ aF) (Q4 aJ aF)),trivial⟩))))) ?_
     exact L1 aT ⟨(IntKind.i64.wrap (u8+1)),((aS++([[.int .i64 (if aB<aA then aB else aA),.int .i64 (if aB>aA then aB else aA)]]:List (List Value)))++([[.int .i64 (if aD<aC then aD else aC),.int .i64 (if aD>aC then aD else aC)]]:List (List Value))),((u9 ++ [((if aB<aA then aB else aA),(if aB>aA then aB else aA))]) ++ [((if aD<aC then aD else aC),(if aD>aC then aD else aC))]),rfl,rfl,aU,(D0 _),(F2.append (F2.append aQ (show F2 (U1.R aR) ([[.int .i64 (if aB<aA then aB else aA),.int .i64 (if aB>aA then aB else aA)]]:List (List Value)) [((if aB<aA then aB else aA),(if aB>aA then aB else aA))] from⟨(D1 (Q4 aJ aF) (Q4 aJ aF)),trivial⟩)) (show F2 (U1.R aR) ([[.int .i64 (if aD<aC then aD else aC),.int .i64 (if aD>aC then aD else aC)]]:List (List Value)) [((if aD<aC then aD else aC),(if aD>aC then aD else aC))] from⟨(D1 (Q4 aL aK) (Q4 aL aK)),trivial⟩)),aM⟩
    ·exact L1 aT ⟨(IntKind.i64.wrap (u8+1)),(aS++([[.int .i64 (if aB<aA then aB else aA),.int .i64 (if aB>aA then aB else aA)]]:List (List Value))),(u9 ++ [((if aB<aA then aB else aA),(if aB>aA then aB else aA))]),rfl,rfl,aU,(D0 _),(F2.append aQ (show F2 (U1.R aR) ([[.int .i64 (if aB<aA then aB else aA),.int .i64 (if aB>aA then aB else aA)]]:List (List Value)) [((if aB<aA then aB else aA),(if aB>aA then aB else aA))] from⟨(D1 (Q4 aJ aF) (Q4 aJ aF)),trivial⟩)),aM⟩
   ·refine ifB aM (λbP aM=>?_) λbP aM=>?_
    ·obtain⟨cT,bQ,aM⟩:=j0 aM
     refine aI (H1 bQ (by first|rw[F2.length aQ,F2.length (show F2 (U1.R aR) ([[.int .i64 (if aD<aC then aD else aC),.int .i64 (if aD>aC then aD else aC)]]:List (List Value)) [((if aD<aC then aD else aC),(if aD>aC then aD else aC))] from⟨(D1 (Q4 aL aK) (Q4 aL aK)),trivial⟩)]|exact congrArg (·+1) (F2.length aQ))) ?_
     exact L1 aT ⟨(IntKind.i64.wrap (u8+1)),(aS++([[.int .i64 (if aD<aC then aD else aC),.int .i64 (if aD>aC then aD else aC)]]:List (List Value))),(u9 ++ [((if aD<aC then aD else aC),(if aD>aC then aD else aC))]),rfl,rfl,aU,(D0 _),(F2.append aQ (show F2 (U1.R aR) ([[.int .i64 (if aD<aC then aD else aC),.int .i64 (if aD>aC then aD else aC)]]:List (List Value)) [((if aD<aC then aD else aC),(if aD>aC then aD else aC))] from⟨(D1 (Q4 aL aK) (Q4 aL aK)),trivial⟩)),aM⟩
    ·exact L1 aT ⟨(IntKind.i64.wrap (u8+1)),aS,u9,rfl,rfl,aU,(D0 _),aQ,aM⟩
  ·obtain rfl:=oJ aM
   try dsimp only[N0,O0]at aN
   exact L1 m5 ⟨(IntKind.i64.wrap (u2+1)),aS,u9,rfl,rfl,(bB.trans aU),(D0 _),aQ,aN⟩
 ·obtain rfl:=oJ aN
  try dsimp only[N0,O0]at aV
  intro cU cV cL
  obtain⟨bR,bS,rfl,bT,bU,cM⟩:=K0.out (r:=U1.toRp) cL bZ
  obtain rfl:=oJ aV
  exact⟨bR,u3.length,bS,rfl,bT,(bB.trans bU)⟩
theorem M04(h:Hp)(aF:List Value)(p0:l0)(aY:I0.R h aF p0)(r:w5×Bool)(aA:P8 p0=some r):
  Tr Tryz.prog 349 #[.agg aF.toArray] h λv h'=>∃(aS:List Value),v = .tuple #[.agg aS.toArray,.bool r.2]/\U1.R h' aS r.1/\Sub h h':=by
 obtain⟨aN,aO,aJ,aT,aK,aP,rfl,rfl,aC,aD,aB⟩:=B0 aY
 obtain⟨rfl,aU⟩:=Sl.len aB
 unfold P8 at aA
 dsimp only at aA
 refine D2 (args:=[.agg #[.int .i64 aN,.int .i64 aO,.slice aJ aP.length aK]]) (fn:=Tryz.f349) rfl ?_
 refine trV aA (d5 _ _ _ (f0 aC aD aB)) λx1 aA=>?_
 refine ifB aA (λaZ aA=>?_) λaZ aA=>?_
 ·obtain rfl:=oJ aA
  exact⟨([.int .i64 0,.int .i64 0]),rfl,(D1 (by decide) (by decide)),(Sub.refl _)⟩
 ·refine trM aA (m06 _ _ _ (f0 aC aD aB)) ?_
  rintro x3 aA v5 k4 ⟨bD,bE,bF,rfl,aV,aX⟩
  obtain⟨rfl,bG⟩:=Sl.len aV
  refine ifB aA (λbA aA=>?_) λbA aA=>?_
  ·obtain rfl:=oJ aA
   exact⟨([.int .i64 0,.int .i64 0]),rfl,(D1 (by decide) (by decide)),aX⟩
  ·refine ld aA aV λx7 bB bC aA=>?_
   obtain⟨aQ,aR,rfl,rfl,aL,aM⟩:=o8 bC
   try dsimp only at aA
   obtain rfl:=oJ aA
   exact⟨([.int .i64 aQ,.int .i64 aR]),rfl,(D1 aL aM),aX⟩
theorem e04(h:Hp)(p0:Int)(aO:J0 p0)(aB:List Value)(p1:w5)(aK:U1.R h aB p1)(r:Int)(aA:G9 p0 p1=some r):
  Tr Tryz.prog 377 #[.int .i64 p0,.agg aB.toArray] h λv h'=>v = .int .i64 r/\h'=h:=by
 obtain⟨aC,aD,rfl,rfl,aF,aJ⟩:=o8 aK
 unfold G9 at aA
 dsimp only at aA
 refine Tr.forget (D2 (args:=[.int .i64 p0,.agg #[.int .i64 aC,.int .i64 aD]]) (fn:=Tryz.f377) rfl ?_)
 refine ifB aA (λaL aA=>?_) λaL aA=>?_
 ·refine ifB aA (λaM aA=>?_) λaM aA=>?_
  ·obtain rfl:=oJ aA
   exact aI rfl (Sub.refl _)
  ·obtain rfl:=oJ aA
   exact aI rfl (Sub.refl _)
 ·refine ifB aA (λaN aA=>?_) λaN aA=>?_
  ·obtain rfl:=oJ aA
   exact aI rfl (Sub.refl _)
  ·obtain rfl:=oJ aA
   exact aI rfl (Sub.refl _)
theorem q02(h:Hp)(aX:List Value)(p0:l0)(cS:I0.R h aX p0)(aY:List Value)(p1:w5)(cT:U1.R h aY p1)(r:l0×Bool)(aB:i7 p0 p1=some r):
  Tr Tryz.prog 350 #[.agg aX.toArray,.agg aY.toArray] h λv h'=>∃(cE:List Value),v = .tuple #[.agg cE.toArray,.bool r.2]/\I0.R h' cE r.1/\Sub h h':=by
 obtain⟨aZ,bA,bB,cF,bC,aO,rfl,rfl,aD,aK,aC⟩:=B0 cS
 obtain⟨rfl,cI⟩:=Sl.len aC
 obtain⟨aP,aQ,rfl,rfl,aL,aM⟩:=o8 cT
 unfold i7 at aB
 dsimp only at aB
 refine D2 (args:=[.agg #[.int .i64 aZ,.int .i64 bA,.slice bB aO.length bC],.agg #[.int .i64 aP,.int .i64 aQ]]) (fn:=Tryz.f350) rfl ?_
 refine trV aB (d5 _ _ _ (f0 aD aK aC)) λx1 aB=>?_
 refine ifB aB (λcU aB=>?_) λcU aB=>?_
 ·refine trM aB (i6 _ _ _ (f0 aD aK aC)) ?_
  rintro x3 aB v5 k4 ⟨cV,rfl,cJ⟩
  have cX:Sub h k4:=cJ.sub
  have cY:=cJ.r
  obtain⟨bM,bN,bD,cK,bE,bO,rfl,rfl,bF,bG,aN⟩:=B0 cY
  obtain⟨rfl,cL⟩:=Sl.len aN
  try dsimp only at aB
  obtain rfl:=oJ aB
  exact⟨([.int .i64 bM,.int .i64 bN,.slice bD bO.length bE]),rfl,(f0 bF bG aN),cX⟩
 ·obtain⟨X6,bP,aB⟩:=j0 aB
  refine eX { vars:=[7],boxes:=[3],owns:=[],fuel:=true } (eX (λvs os h'=>∃ u7 u8 u9 aF aR aJ bH,vs.tail = [.int .i64 u7,.int .i64 u8,.int .i64 u9,.slice aF aR aJ]/\os = []/\Sub h h'/\J0 u7/\J0 u8/\J0 u9/\M0.R h' [.slice aF aR aJ] bH/\j4 aO aP aQ (Z0 vs) u7 u8 u9 bH=some X6) (eX (λ_ _=>0) (aI (eX C1 ⟨0,aZ,(IntKind.i64.wrap (bA-1)),none,0,0,[],rfl,rfl,(Sub.refl _),(by decide),aD,(D0 _),(s09 Q0 h),bP⟩) ?_)))
  rintro _ _ _ _ bL dC ⟨u7,u8,u9,aF,aR,aJ,bH,⟨⟩,⟨⟩,bQ,dD,cM,cN,aS,aA⟩
  replace aA:j4 aO aP aQ bL u7 u8 u9 bH=some X6:=aA
  obtain _|bL:=bL
  ·cases aA
  rw[j4.eq_2]at aA
  obtain⟨rfl,cZ⟩:=Sl.len aS
  refine ifB aA (λbR aA=>?_) λbR aA=>?_
  ·refine ld aA (M0.mono bQ aC) λdE cO bS aA=>?_
   obtain⟨cP,bI,cQ,rfl,rfl,aT,aU,aV⟩:=S0 bS
   try dsimp only at aA
   refine Or.inr (Or.inr (Or.inl (aI (aI (by kernel_rfl) (by kernel_rfl)) ?_)))
   obtain⟨bT,bU,aA⟩:=j0 aA
   obtain⟨dF,bV,aA⟩:=j0 aA
   have bW:J0 bT:=Q1 bV
   refine Or.inl (eX (.val (.int .i64 bT)) (aI ?_ ?_))
   ·intro dG dH
    exact Tr.val (e04 _ _ aT _ _ (D1 aL aM) _ bU) (aI rfl (aI rfl rfl))
   obtain⟨bX,bY,aA⟩:=j0 aA
   obtain⟨dI,bZ,aA⟩:=j0 aA
   have cA:J0 bX:=Q1 bZ
   refine Or.inl (eX (.val (.int .i64 bX)) (aI ?_ ?_))
   ·intro dJ dK
    exact Tr.val (e04 _ _ aV _ _ (D1 aL aM) _ bY) (aI rfl (aI rfl rfl))
   refine Or.inl (eX (.agg [.val (.int .i64 bT),.val (.int .i64 bI),.val (.int .i64 bX)]) (aI ?_ ?_))
   ·intro dL dM
    exact aI rfl (aI rfl rfl)
   refine Or.inr ?_
   refine Or.inr ?_
   refine Or.inl (eX 1 (aI (aI rfl rfl) ?_))
   refine trM aA (x01 _ _ _ _ _ aS _ _ (U0 bW aU cA)) ?_
   rintro cR aA dN dO ⟨cC,dA,cD,rfl,bJ,bK⟩
   obtain⟨rfl,dB⟩:=Sl.len bJ
   refine aI (aI rfl bK) (aI (by first|exact trivial|exact rfl) ?_)
   refine aI trivial (aI (by first|exact trivial|exact rfl) ?_)
   exact L1 bL ⟨(IntKind.i64.wrap (u7+1)),u8,u9,cC,cR.length,cD,cR,rfl,rfl,(bQ.trans bK),(D0 _),cM,cN,bJ,aA⟩
  ·obtain rfl:=oJ aA
   try dsimp only[N0,O0]at aB
   obtain rfl:=oJ aB
   exact⟨([.int .i64 u8,.int .i64 u9,.slice aF bH.length aJ]),rfl,(f0 cM cN aS),bQ⟩
theorem m05(h:Hp)(aY:List Value)(p0:l0)(bX:I0.R h aY p0)(r:l0×w5×Bool)(aA:o9 p0=some r):
  Tr Tryz.prog 338 #[.agg aY.toArray] h λv h'=>∃(bQ:List Value) (bR:List Value),v = .tuple #[.agg bQ.toArray,.agg bR.toArray,.bool r.2.2]/\I0.R h' bQ r.1/\U1.R h' bR r.2.1/\Sub h h':=by
 obtain⟨bI,bJ,aZ,bS,bA,bK,rfl,rfl,aJ,aK,aB⟩:=B0 bX
 obtain⟨rfl,bT⟩:=Sl.len aB
 unfold o9 at aA
 dsimp only at aA
 refine D2 (args:=[.agg #[.int .i64 bI,.int .i64 bJ,.slice aZ bK.length bA]]) (fn:=Tryz.f338) rfl ?_
 refine trM aA (M04 _ _ _ (f0 aJ aK aB)) ?_
 rintro x1 aA v3 k2 ⟨bL,rfl,aP,bF⟩
 obtain⟨bY,bZ⟩:=x1
 dsimp only at aA aP
 obtain⟨aS,aT,rfl,rfl,aC,aD⟩:=o8 aP
 try dsimp only at aA
 refine ifB aA (λcA aA=>?_) λcA aA=>?_
 ·refine trM aA (i6 _ _ _ (f0 aJ aK (M0.mono bF aB))) ?_
  rintro x5 aA v7 k6 ⟨cC,rfl,bU⟩
  have cD:Sub k2 k6:=bU.sub
  have cE:=bU.r
  obtain⟨bM,bN,bB,bV,bC,bO,rfl,rfl,bD,bE,aQ⟩:=B0 cE
  obtain⟨rfl,bW⟩:=Sl.len aQ
  try dsimp only at aA
  obtain rfl:=oJ aA
  exact⟨([.int .i64 bM,.int .i64 bN,.slice bB bO.length bC]),([.int .i64 0,.int .i64 0]),rfl,(f0 bD bE aQ),(D1 (by decide) (by decide)),(bF.trans cD)⟩
 ·refine trM aA (q02 _ _ _ (f0 aJ aK (M0.mono bF aB)) _ _ (D1 aC aD)) ?_
  rintro x8 aA cK k9 ⟨bP,rfl,aR,cF⟩
  obtain⟨cI,cJ⟩:=x8
  dsimp only at aA aR
  obtain⟨aU,aV,aL,bG,aM,aX,rfl,rfl,aN,aO,aF⟩:=B0 aR
  obtain⟨rfl,bH⟩:=Sl.len aF
  try dsimp only at aA
  refine Or.inr (Or.inr (Or.inl (aI (aI (by kernel_rfl) (by kernel_rfl)) ?_)))
  refine Or.inr ?_
  refine Or.inr ?_
  refine Or.inl (eX 0 (aI (aI rfl rfl) ?_))
  refine aI trivial (aI (by first|exact trivial|exact rfl) ?_)
  refine aI trivial (aI (by first|exact trivial|exact rfl) ?_)
  obtain rfl:=oJ aA
  exact⟨([.int .i64 aU,.int .i64 aV,.slice aL aX.length aM]),([.int .i64 aS,.int .i64 aT]),rfl,(f0 aN aO aF),(D1 aC aD),(bF.trans cF)⟩
theorem n06(h:Hp)(aY:List Value)(p0:l0)(dC:I0.R h aY p0)(r:l0×p5)(aM:e00 p0=some r):
  Tr Tryz.prog 310 #[.agg aY.toArray] h λv h'=>∃(cQ:List Value) (a1:Option Addr) (n1 c1:Nat),v = .tuple #[.agg cQ.toArray,.slice a1 n1 c1]/\I0.R h' cQ r.1/\K07.R h' [.slice a1 n1 c1] r.2/\Sub h h':=by
 obtain⟨bU,bV,aZ,cR,bA,bW,rfl,rfl,bB,bC,aV⟩:=B0 dC
 obtain⟨rfl,cS⟩:=Sl.len aV
 unfold e00 at aM
 dsimp only at aM
 refine D2 (args:=[.agg #[.int .i64 bU,.int .i64 bV,.slice aZ bW.length bA]]) (fn:=Tryz.f310) rfl ?_
 refine trM aM (i6 _ _ _ (f0 bB bC aV)) ?_
 rintro x1 aM v3 k2 ⟨dD,rfl,cT⟩
 have cU:Sub h k2:=cT.sub
 have dE:=cT.r
 obtain⟨bX,bY,bD,cV,bE,bF,rfl,rfl,bG,bH,aX⟩:=B0 dE
 obtain⟨rfl,cX⟩:=Sl.len aX
 try dsimp only at aM
 obtain⟨X4,bZ,aM⟩:=j0 aM
 refine eX { vars:=[6],boxes:=[2],owns:=[0],fuel:=true } (eX (λvs os h'=>∃ u5 u6 u7 bI cA bJ u8 bP u9,vs.tail = [.int .i64 u5,.int .i64 u6,.int .i64 u7,.slice bI cA bJ]/\os = [bP]/\Sub k2 h'/\J0 u5/\J0 u6/\J0 u7/\M0.R h' [.slice bI cA bJ] u8/\F2 (U1.R h') bP u9/\t6 (Z0 vs) u5 u6 u7 u8 u9=some X4) (eX (λ_ _=>0) (aI (eX C1 ⟨0,bX,bY,bD,bF.length,bE,bF,[],([]:p5),rfl,rfl,(Sub.refl _),(by decide),bG,bH,aX,(show F2 (U1.R k2) ([]:List (List Value)) ([]:p5) from trivial),bZ⟩) ?_)))
 rintro _ _ _ _ bP bQ dL ⟨u5,u6,u7,bI,cA,bJ,u8,dF,u9,⟨⟩,⟨⟩,cC,dM,cD,cE,bR,bK,aC⟩
 replace aC:t6 bQ u5 u6 u7 u8 u9=some X4:=aC
 obtain _|bQ:=bQ
 ·cases aC
 rw[t6.eq_2]at aC
 obtain⟨rfl,dN⟩:=Sl.len bR
 refine ifB aC (λcF aC=>?_) λcF aC=>?_
 ·refine trM aC (m05 _ _ _ (f0 cD cE bR)) ?_
  rintro dG aC dO cY ⟨bS,bT,rfl,aN,aO,aK⟩
  obtain⟨cZ,dA,dB⟩:=dG
  dsimp only at aC aN aO
  obtain⟨aT,aU,aP,bL,aQ,aL,rfl,rfl,aR,aS,aD⟩:=B0 aN
  obtain⟨rfl,bM⟩:=Sl.len aD
  try dsimp only at aC
  obtain⟨aA,aB,rfl,rfl,aF,aJ⟩:=o8 aO
  try dsimp only at aC
  refine ifB aC (λcI aC=>?_) λcI aC=>?_
  ·intro dP dQ dH
   obtain⟨cJ,cK,rfl,cL,bN,dI⟩:=K0.out (r:=U1.toRp) dH (F2.up (r:=U1.toRp) aK bK)
   obtain rfl:=oJ aC
   try dsimp only[M2,N2]at aM
   obtain rfl:=oJ aM
   exact⟨([.int .i64 u6,.int .i64 u7,.slice bI u8.length bJ]),cJ,u9.length,cK,rfl,(f0 cD cE (M0.mono (aK.trans bN) bR)),cL,(((cU.trans cC).trans aK).trans bN)⟩
  ·obtain⟨dR,cM,aC⟩:=j0 aC
   refine aI (H1 cM (by first|rw[F2.length (F2.up (r:=U1.toRp) aK bK),F2.length (show F2 (U1.R cY) ([[.int .i64 aA,.int .i64 aB]]:List (List Value)) [(aA,aB)] from⟨(D1 aF aJ),trivial⟩)]|exact congrArg (·+1) (F2.length (F2.up (r:=U1.toRp) aK bK)))) ?_
   exact L1 bQ ⟨(IntKind.i64.wrap (u5+1)),aT,aU,aP,aL.length,aQ,aL,(bP++([[.int .i64 aA,.int .i64 aB]]:List (List Value))),(u9 ++ [(aA,aB)]),rfl,rfl,(cC.trans aK),(D0 _),aR,aS,aD,(F2.append (F2.up (r:=U1.toRp) aK bK) (show F2 (U1.R cY) ([[.int .i64 aA,.int .i64 aB]]:List (List Value)) [(aA,aB)] from⟨(D1 aF aJ),trivial⟩)),aC⟩
 ·obtain rfl:=oJ aC
  try dsimp only[N0,O0]at aM
  intro dS dT dJ
  obtain⟨cN,cO,rfl,cP,bO,dK⟩:=K0.out (r:=U1.toRp) dJ bK
  obtain rfl:=oJ aM
  exact⟨([.int .i64 u6,.int .i64 u7,.slice bI u8.length bJ]),cN,u9.length,cO,rfl,(f0 cD cE (M0.mono bO bR)),cP,((cU.trans cC).trans bO)⟩
theorem N04(h:Hp)(bZ:List Value)(p0:l0)(eH:I0.R h bZ p0)(r:l0×C0)(aD:Q8 p0=some r):
  Tr Tryz.prog 311 #[.agg bZ.toArray] h λv h'=>∃(dW:List Value) (a1:Option Addr) (n1 c1:Nat),v = .tuple #[.agg dW.toArray,.slice a1 n1 c1]/\I0.R h' dW r.1/\j1.R h' [.slice a1 n1 c1] r.2/\Sub h h':=by
 obtain⟨aL,aM,cA,dX,cC,aN,rfl,rfl,aO,aP,aF⟩:=B0 eH
 obtain⟨rfl,dY⟩:=Sl.len aF
 unfold Q8 at aD
 dsimp only at aD
 refine D2 (args:=[.agg #[.int .i64 aL,.int .i64 aM,.slice cA aN.length cC]]) (fn:=Tryz.f311) rfl ?_
 refine trM aD (i6 _ _ _ (f0 aO aP aF)) ?_
 rintro x1 aD v3 k2 ⟨eI,rfl,dZ⟩
 have cU:Sub h k2:=dZ.sub
 have eJ:=dZ.r
 obtain⟨dB,dC,cD,eA,cE,cF,rfl,rfl,cI,cJ,bN⟩:=B0 eJ
 obtain⟨rfl,eB⟩:=Sl.len bN
 try dsimp only at aD
 obtain⟨X4,dD,aD⟩:=j0 aD
 refine eX { vars:=[6],boxes:=[],owns:=[0],fuel:=true } (eX (λvs os h'=>∃ u5 cV u6,vs.tail = [.int .i64 u5]/\os = [cV]/\Sub k2 h'/\J0 u5/\F2 (Wp.int.R h') cV u6/\G5 aM aL aN (Z0 vs) u5 u6=some X4) (eX (λ_ _=>0) (aI (eX C1 ⟨0,[],([]:C0),rfl,rfl,(Sub.refl _),(by decide),(show F2 (Wp.int.R k2) ([]:List (List Value)) ([]:C0) from trivial),dD⟩) ?_)))
 rintro _ cV m8 k7 ⟨u5,eK,u6,⟨⟩,⟨⟩,bU,eC,cX,aA⟩
 replace aA:G5 aM aL aN m8 u5 u6=some X4:=aA
 obtain _|m8:=m8
 ·cases aA
 rw[G5.eq_2]at aA
 refine trG aA (λq=>d5 _ _ _ (f0 aO aP (M0.mono (cU.trans bU) aF))) λx9 aA=>?_
 refine ifB aA (λdE aA=>?_) λdE aA=>?_
 ·obtain⟨fA,dF,aA⟩:=j0 aA
  refine aI (H1 dF (by first|rw[F2.length cX,F2.length (show F2 (Wp.int.R k7) ([[.int .i64 u5]]:List (List Value)) [u5] from⟨⟨rfl,eC⟩,trivial⟩)]|exact congrArg (·+1) (F2.length cX))) ?_
  exact L1 m8 ⟨(IntKind.i64.wrap (u5+1)),(cV++([[.int .i64 u5]]:List (List Value))),(u6 ++ [u5]),rfl,rfl,bU,(D0 _),(F2.append cX (show F2 (Wp.int.R k7) ([[.int .i64 u5]]:List (List Value)) [u5] from⟨⟨rfl,eC⟩,trivial⟩)),aA⟩
 ·obtain rfl:=oJ aA
  try dsimp only[N0,O0]at aD
  obtain⟨X16,cK,aD⟩:=j0 aD
  refine eX { vars:=[5,7],boxes:=[2],owns:=[],fuel:=true,pubs:=[5] } (eX (λvs os h'=>∃(aQ:Option Addr) (bQ aR:Nat) (bO:C0) (bV:Int) (bR:Int) (bG:Int) (aS:Option Addr) (bS aT:Nat) (bW:H0),vs.tail = [.slice aQ bQ aR,.int .i64 bV,.int .i64 bR,.int .i64 bG,.slice aS bS aT]/\os = []/\Sub k7 h'/\j1.R h' [.slice aQ bQ aR] bO/\J0 bV/\J0 bR/\J0 bG/\M0.R h' [.slice aS bS aT] bW/\F5 aL aM aN (Z0 vs) bO bV bR bG bW=some X16) (eX (λ_ _=>0) ?_))
  intro fB fC eM
  obtain⟨dG,dH,rfl,dI,cL,eN⟩:=K0.out (r:=Wp.int.toRp) eM cX
  refine aI (eX C1 ⟨dG,u6.length,dH,u6,0,dB,dC,cD,cF.length,cE,cF,rfl,rfl,cL,dI,(by decide),cI,cJ,(M0.mono (bU.trans cL) bN),cK⟩) ?_
  rintro _ _ _ _ _ cY dJ ⟨aQ,bQ,aR,bO,bV,bR,bG,aS,bS,aT,bW,⟨⟩,⟨⟩,bH,bI,eO,bJ,bK,aU,aA⟩
  replace aA:F5 aL aM aN cY bO bV bR bG bW=some X16:=aA
  obtain _|cY:=cY
  ·cases aA
  rw[F5.eq_2]at aA
  obtain⟨rfl,eP⟩:=Sl.len bI
  obtain⟨rfl,eQ⟩:=Sl.len aU
  refine trG aA (λq=>d5 _ _ _ (f0 aO aP (M0.mono ((cU.trans bU).trans bH) aF))) λfD aA=>?_
  refine ifB aA (λdK aA=>?_) λdK aA=>?_
  ·refine trV aA (A06 _ _ _ (f0 bJ bK aU)) λdL aA=>?_
   obtain⟨fE,dM,aA⟩:=j0 aA
   have eR:J0 dL:=Q1 dM
   refine ifB aA (λdN aA=>?_) λdN aA=>?_
   ·obtain rfl:=oJ aA
    try dsimp only[M2,N2]at aD
    obtain rfl:=oJ aD
    exact⟨([.int .i64 bR,.int .i64 bG,.slice aS bW.length aT]),aQ,bO.length,aR,rfl,(f0 bJ bK aU),bI,((cU.trans bU).trans bH)⟩
   ·obtain⟨X29,cM,aA⟩:=j0 aA
    refine eX { vars:=[11],boxes:=[],owns:=[1,2],fuel:=true } (eX (λvs os h'=>∃ aK aV bX aX bP,vs.tail = [.int .i64 aK]/\os = [aV,aX]/\Sub dJ h'/\J0 aK/\F2 (Wp.int.R h') aV bX/\F2 (Wp.int.R h') aX bP/\M4 bG dL bO (Z0 vs) aK bX bP=some X29) (eX (λ_ _=>0) (aI (eX C1 ⟨0,[],([]:C0),[],([]:C0),rfl,rfl,(Sub.refl _),(by decide),(show F2 (Wp.int.R dJ) ([]:List (List Value)) ([]:C0) from trivial),(show F2 (Wp.int.R dJ) ([]:List (List Value)) ([]:C0) from trivial),cM⟩) ?_)))
    rintro _ aV aX cN cZ ⟨aK,eD,bX,eE,bP,⟨⟩,⟨⟩,aY,cO,aZ,bA,aB⟩
    replace aB:M4 bG dL bO cN aK bX bP=some X29:=aB
    obtain _|cN:=cN
    ·cases aB
    rw[M4.eq_2]at aB
    refine ifB aB (λdO aB=>?_) λdO aB=>?_
    ·refine ifB aB (λdP aB=>?_) λdP aB=>?_
     ·obtain⟨fF,dQ,aB⟩:=j0 aB
      refine aI (H1 dQ (by first|rw[F2.length aZ,F2.length (show F2 (Wp.int.R cZ) ([[.int .i64 aK]]:List (List Value)) [aK] from⟨⟨rfl,cO⟩,trivial⟩)]|exact congrArg (·+1) (F2.length aZ))) ?_
      refine ldI aB (j1.mono aY bI) λbY cP aB=>?_
      obtain⟨fH,dR,aB⟩:=j0 aB
      refine aI (H1 dR (by first|rw[F2.length bA,F2.length (show F2 (Wp.int.R cZ) ([[.int .i64 bY]]:List (List Value)) [bY] from⟨⟨rfl,cP⟩,trivial⟩)]|exact congrArg (·+1) (F2.length bA))) ?_
      exact L1 cN ⟨(IntKind.i64.wrap (aK+1)),(aV++([[.int .i64 aK]]:List (List Value))),(bX ++ [aK]),(aX++([[.int .i64 bY]]:List (List Value))),(bP ++ [bY]),rfl,rfl,aY,(D0 _),(F2.append aZ (show F2 (Wp.int.R cZ) ([[.int .i64 aK]]:List (List Value)) [aK] from⟨⟨rfl,cO⟩,trivial⟩)),(F2.append bA (show F2 (Wp.int.R cZ) ([[.int .i64 bY]]:List (List Value)) [bY] from⟨⟨rfl,cP⟩,trivial⟩)),aB⟩
     ·exact L1 cN ⟨(IntKind.i64.wrap (aK+1)),aV,bX,aX,bP,rfl,rfl,aY,(D0 _),aZ,bA,aB⟩
    ·obtain rfl:=oJ aB
     try dsimp only[N0,O0]at aA
     refine Or.inl ?_
     intro fI fJ eS
     obtain⟨eT,eU,rfl,dS,bT,eV⟩:=K0.out (r:=Wp.int.toRp) eS aZ
     refine trM aA (j9 _ _ _ (f0 bJ bK (M0.mono (aY.trans bT) aU)) _ _ _ _ dS) ?_
     rintro eW aA fK fL ⟨dA,rfl,bB,cQ⟩
     obtain⟨eF,eG⟩:=eW
     dsimp only at aA bB
     obtain⟨bL,bM,bC,cR,bD,aJ,rfl,rfl,bE,bF,aC⟩:=B0 bB
     obtain⟨rfl,cS⟩:=Sl.len aC
     try dsimp only at aA
     intro fM fN eY
     obtain⟨dT,dU,rfl,dV,cT,eZ⟩:=K0.out (r:=Wp.int.toRp) eY (F2.up (r:=Wp.int.toRp) (bT.trans cQ) bA)
     exact L1 cY ⟨dT,bP.length,dU,bP,(IntKind.i64.wrap (bV+1)),bL,bM,bC,aJ.length,bD,aJ,rfl,rfl,((((bH.trans aY).trans bT).trans cQ).trans cT),dV,(D0 _),bE,bF,(M0.mono cT aC),aA⟩
  ·obtain rfl:=oJ aA
   try dsimp only[N0,O0]at aD
   obtain rfl:=oJ aD
   exact⟨([.int .i64 bR,.int .i64 bG,.slice aS bW.length aT]),aQ,bO.length,aR,rfl,(f0 bJ bK aU),bI,((cU.trans bU).trans bH)⟩
theorem O04(h:Hp)(aR:List Value)(p0:l0)(cN:I0.R h aR p0)(r:l0)(aA:R8 p0=some r):
  Tr Tryz.prog 242 #[.agg aR.toArray] h λv h'=>∃(bX:List Value),v = .agg bX.toArray/\I0.R h' bX r/\Sub h h':=by
 obtain⟨bJ,bK,aS,bY,aT,bL,rfl,rfl,aU,aV,aL⟩:=B0 cN
 obtain⟨rfl,bZ⟩:=Sl.len aL
 unfold R8 at aA
 dsimp only at aA
 refine D2 (args:=[.agg #[.int .i64 bJ,.int .i64 bK,.slice aS bL.length aT]]) (fn:=Tryz.f242) rfl ?_
 refine trM aA (n06 _ _ _ (f0 aU aV aL)) ?_
 rintro x1 aA v3 k2 ⟨bM,cA,cC,cD,rfl,aM,aN,cO⟩
 obtain⟨cP,cQ⟩:=x1
 dsimp only at aA aM aN
 obtain⟨bN,bO,bB,bC,bD,bP,rfl,rfl,aD,aF,aB⟩:=B0 aM
 obtain⟨rfl,bE⟩:=Sl.len aB
 try dsimp only at aA
 obtain⟨rfl,cE⟩:=Sl.len aN
 refine trM aA (N04 _ _ _ (f0 aD aF aB)) ?_
 rintro x4 aA v6 k5 ⟨bQ,cF,cI,cJ,rfl,aO,aP,cR⟩
 obtain⟨cS,cT⟩:=x4
 dsimp only at aA aO aP
 obtain⟨bR,bS,bF,bG,bH,bT,rfl,rfl,aJ,aK,aC⟩:=B0 aO
 obtain⟨rfl,bI⟩:=Sl.len aC
 try dsimp only at aA
 obtain⟨rfl,cK⟩:=Sl.len aP
 refine trM aA (E01 _ _ _ (f0 aJ aK aC)) ?_
 rintro x7 aA v9 k8 ⟨cU,rfl,cV,cX⟩
 obtain⟨bU,bV,aX,cL,aY,bW,rfl,rfl,aZ,bA,aQ⟩:=B0 cV
 obtain⟨rfl,cM⟩:=Sl.len aQ
 try dsimp only at aA
 obtain rfl:=oJ aA
 exact⟨([.int .i64 bU,.int .i64 bV,.slice aX bW.length aY]),rfl,(f0 aZ bA aQ),((cO.trans cR).trans cX)⟩
set_option maxHeartbeats 0
theorem r02(h:Hp)(aM:Option Addr)(aS aN:Nat)(p0:C0)(aK:j1.R h [.slice aM aS aN] p0)(r:Bool)(aC:j7 p0=some r):
  Tr Tryz.prog 247 #[.slice aM aS aN] h λv h'=>v = .bool r/\h'=h:=by
 obtain⟨rfl,bA⟩:=Sl.len aK
 unfold j7 at aC
 refine Tr.forget (D2 (args:=[.slice aM p0.length aN]) (fn:=Tryz.f247) rfl ?_)
 obtain⟨X1,aO,aC⟩:=j0 aC
 refine eX { vars:=[3],boxes:=[],owns:=[],fuel:=true } (eX (λvs os h'=>∃ u2,vs.tail = [.int .i64 u2]/\os = []/\Sub h h'/\J0 u2/\n4 p0 (Z0 vs) u2=some X1) (eX (λ_ _=>0) (aI (eX C1 ⟨0,rfl,rfl,(Sub.refl _),(by decide),aO⟩) ?_)))
 rintro _ m4 k3 ⟨u2,⟨⟩,⟨⟩,aD,bB,aA⟩
 replace aA:n4 p0 m4 u2=some X1:=aA
 obtain _|m4:=m4
 ·cases aA
 rw[n4.eq_2]at aA
 refine ifB aA (λaT aA=>?_) λaT aA=>?_
 ·refine ldI aA (j1.mono aD aK) λx6 aU aA=>?_
  refine trV aA (c5 _ _ aU 0 (by decide) (IntKind.i64.wrap (((p0.length:Nat):Int)-1)) (D0 _)) λx7 aA=>?_
  refine ifB aA (λaV aA=>?_) λaV aA=>?_
  ·obtain rfl:=oJ aA
   try dsimp only[M2,N2]at aC
   obtain rfl:=oJ aC
   exact aI rfl aD
  ·obtain⟨X9,aP,aA⟩:=j0 aA
   refine eX { vars:=[4],boxes:=[],owns:=[],fuel:=true } (eX (λvs os h'=>∃ aF,vs.tail = [.int .i64 aF]/\os = []/\Sub k3 h'/\J0 aF/\l4 u2 p0 (Z0 vs) aF=some X9) (eX (λ_ _=>0) (aI (eX C1 ⟨0,rfl,rfl,(Sub.refl _),(by decide),aP⟩) ?_)))
   rintro _ aL bC ⟨aF,⟨⟩,⟨⟩,aJ,aX,aB⟩
   replace aB:l4 u2 p0 aL aF=some X9:=aB
   obtain _|aL:=aL
   ·cases aB
   rw[l4.eq_2]at aB
   refine ifB aB (λaQ aB=>?_) λaQ aB=>?_
   ·refine Or.inl (aI (aI (by kernel_rfl) (by kernel_rfl)) ?_)
    refine ldI aB (j1.mono (aD.trans aJ) aK) λbD aY aB=>?_
    refine ldI aB (j1.mono (aD.trans aJ) aK) λbE aZ aB=>?_
    refine ifB aB (λaR aB=>?_) λaR aB=>?_
    ·obtain rfl:=oJ aB
     try dsimp only[M2,N2]at aA
     obtain rfl:=oJ aA
     try dsimp only[M2,N2]at aC
     obtain rfl:=oJ aC
     exact aI rfl (aD.trans aJ)
    ·exact L1 aL ⟨(IntKind.i64.wrap (aF+1)),rfl,rfl,aJ,(D0 _),aB⟩
   ·obtain rfl:=oJ aB
    try dsimp only[N0,O0]at aA
    exact L1 m4 ⟨(IntKind.i64.wrap (u2+1)),rfl,rfl,(aD.trans aJ),(D0 _),aA⟩
 ·obtain rfl:=oJ aA
  try dsimp only[N0,O0]at aC
  obtain rfl:=oJ aC
  exact aI rfl aD
theorem n05(h:Hp)(aT:Option Addr)(aX aU:Nat)(p0:T1)(aY:f4.R h [.slice aT aX aU] p0)(aL:List Value)(p1:l0)(bF:I0.R h aL p1)(r:Bool)(aB:p9 p0 p1=some r):
  Tr Tryz.prog 152 #[.slice aT aX aU,.agg aL.toArray] h λv h'=>v = .bool r/\h'=h:=by
 obtain⟨rfl,bR⟩:=Sl.len aY
 obtain⟨aF,aJ,aM,aZ,aN,aK,rfl,rfl,aO,aP,aC⟩:=B0 bF
 obtain⟨rfl,bA⟩:=Sl.len aC
 unfold p9 at aB
 dsimp only at aB
 refine Tr.forget (D2 (args:=[.slice aT p0.length aU,.agg #[.int .i64 aF,.int .i64 aJ,.slice aM aK.length aN]]) (fn:=Tryz.f152) rfl ?_)
 obtain⟨X1,aV,aB⟩:=j0 aB
 refine eX { vars:=[5],boxes:=[],owns:=[],fuel:=true } (eX (λvs os h'=>∃ u2,vs.tail = [.int .i64 u2]/\os = []/\Sub h h'/\J0 u2/\W5 p0 aF aJ aK (Z0 vs) u2=some X1) (eX (λ_ _=>0) (aI (eX C1 ⟨0,rfl,rfl,(Sub.refl _),(by decide),aV⟩) ?_)))
 rintro _ m4 k3 ⟨u2,⟨⟩,⟨⟩,aQ,bS,aA⟩
 replace aA:W5 p0 aF aJ aK m4 u2=some X1:=aA
 obtain _|m4:=m4
 ·cases aA
 rw[W5.eq_2]at aA
 refine ifB aA (λbG aA=>?_) λbG aA=>?_
 ·refine Or.inl (aI (aI (by kernel_rfl) (by kernel_rfl)) ?_)
  obtain⟨x6,bH,aA⟩:=j0 aA
  obtain⟨bI,bJ,bK,bL⟩:=Sl.getI (r:=I0.toRp) (f4.mono aQ aY) bH (by decide)
  refine aI bI ?_
  obtain⟨bM,bN,bB,bC,bD,bO,rfl,rfl,aR,aS,aD⟩:=B0 bL
  obtain⟨rfl,bE⟩:=Sl.len aD
  try dsimp only at aA
  refine eX _ (aI bK ?_)
  obtain⟨x7,bP,aA⟩:=j0 aA
  refine eX (.bool x7) (aI (s03 _ _ _ (f0 aR aS aD) _ _ (f0 aO aP (M0.mono aQ aC)) _  bP) ?_)
  refine ifB aA (λbQ aA=>?_) λbQ aA=>?_
  ·obtain rfl:=oJ aA
   try dsimp only[M2,N2]at aB
   obtain rfl:=oJ aB
   exact aI rfl aQ
  ·exact L1 m4 ⟨(IntKind.i64.wrap (u2+1)),rfl,rfl,aQ,(D0 _),aA⟩
 ·obtain rfl:=oJ aA
  try dsimp only[N0,O0]at aB
  obtain rfl:=oJ aB
  exact aI rfl aQ
theorem o05(h:Hp)(p0:Int)(dL:J0 p0)(r:M1)(bG:r9 p0=some r):
  Tr Tryz.prog 149 #[.int .i64 p0] h λv h'=>∃(a0:Option Addr) (n0 c0:Nat),v = .slice a0 n0 c0/\D5.R h' [.slice a0 n0 c0] r/\Sub h h':=by
 unfold r9 at bG
 refine D2 (args:=[.int .i64 p0]) (fn:=Tryz.f149) rfl ?_
 intro v1 k2 f3
 obtain⟨cP,cQ,rfl,cR,cS,dM⟩:=K0.out (r:=Wp.int.toRp) f3 (show F2 (Wp.int.R h) ([]:List (List Value)) ([]:C0) from trivial)
 obtain⟨X9,bP,bG⟩:=j0 bG
 refine eX { vars:=[3,4],boxes:=[],owns:=[],fuel:=true,pubs:=[3] } (eX (λvs os h'=>∃(aL:Option Addr) (aU aM:Nat) (aN:M1) (bE:Int),vs.tail = [.slice aL aU aM,.int .i64 bE]/\os = []/\Sub k2 h'/\D5.R h' [.slice aL aU aM] aN/\J0 bE/\Z5 p0 (Z0 vs) aN bE=some X9) (eX (λ_ _=>0) ?_))
 intro v5 k6 f7
 obtain⟨cT,cU,rfl,cV,cX,dN⟩:=K0.out (r:=j1.toRp) f7 (show F2 (j1.R k2) ([[.slice cP (([]:C0)).length cQ]]:List (List Value)) [([]:C0)] from⟨cR,trivial⟩)
 refine aI (eX C1 ⟨cT,([([]:C0)]).length,cU,([([]:C0)]),0,rfl,rfl,cX,cV,(by decide),bP⟩) ?_
 rintro _ _ bN cF ⟨aL,aU,aM,aN,bE,⟨⟩,⟨⟩,cI,aO,cY,aD⟩
 replace aD:Z5 p0 bN aN bE=some X9:=aD
 obtain _|bN:=bN
 ·cases aD
 rw[Z5.eq_2]at aD
 obtain⟨rfl,cZ⟩:=Sl.len aO
 refine ifB aD (λbQ aD=>?_) λbQ aD=>?_
 ·obtain⟨X15,bH,aD⟩:=j0 aD
  refine eX { vars:=[6],boxes:=[],owns:=[2],fuel:=true } (eX (λvs os h'=>∃ aT aP aV,vs.tail = [.int .i64 aT]/\os = [aP]/\Sub cF h'/\J0 aT/\F2 (j1.R h') aP aV/\Y5 aN p0 (Z0 vs) aT aV=some X15) (eX (λ_ _=>0) (aI (eX C1 ⟨0,[],([]:M1),rfl,rfl,(Sub.refl _),(by decide),(show F2 (j1.R cF) ([]:List (List Value)) ([]:M1) from trivial),bH⟩) ?_)))
  rintro _ aP bO dA ⟨aT,cJ,aV,⟨⟩,⟨⟩,aQ,dB,bI,aF⟩
  replace aF:Y5 aN p0 bO aT aV=some X15:=aF
  obtain _|bO:=bO
  ·cases aF
  rw[Y5.eq_2]at aF
  refine ifB aF (λbR aF=>?_) λbR aF=>?_
  ·obtain⟨X21,bJ,aF⟩:=j0 aF
   refine eX { vars:=[7],boxes:=[],owns:=[2],fuel:=true } (eX (λvs os h'=>∃ aB aC aX,vs.tail = [.int .i64 aB]/\os = [aC]/\Sub dA h'/\J0 aB/\F2 (j1.R h') aC aX/\i5 p0 aN aT (Z0 vs) aB aX=some X21) (eX (λ_ _=>0) (aI (eX C1 ⟨0,aP,aV,rfl,rfl,(Sub.refl _),(by decide),bI,bJ⟩) ?_)))
   rintro _ aC bK aY ⟨aB,cK,aX,⟨⟩,⟨⟩,aJ,aZ,aK,aA⟩
   replace aA:i5 p0 aN aT bK aB aX=some X21:=aA
   obtain _|bK:=bK
   ·cases aA
   rw[i5.eq_2]at aA
   refine ifB aA (λbS aA=>?_) λbS aA=>?_
   ·refine ld aA (D5.mono (aQ.trans aJ) aO) λcL cM bA aA=>?_
    obtain⟨bT,dC,bU,rfl⟩:=Wp.slice_cell bA
    obtain⟨rfl,dD⟩:=Sl.len bA
    refine trV aA (D7 _ bT cL.length bU cL bA aB aZ) λdO aA=>?_
    refine ifB aA (λbV aA=>?_) λbV aA=>?_
    ·refine ld aA (D5.mono (aQ.trans aJ) aO) λbF cN bB aA=>?_
     obtain⟨dE,dF,dG,rfl⟩:=Wp.slice_cell bB
     obtain⟨rfl,dH⟩:=Sl.len bB
     obtain⟨bL,bW,aR⟩:=Sl.rows (r:=Wp.int.toRp) bB
     refine eX bL (aI bW ?_)
     obtain⟨dP,bX,aA⟩:=j0 aA
     refine aI (H1 bX (by first|rw[F2.length (show F2 (Wp.int.R aY) ([]:List (List Value)) ([]:C0) from trivial),F2.length aR]|exact congrArg (·+1) (F2.length (show F2 (Wp.int.R aY) ([]:List (List Value)) ([]:C0) from trivial)))) ?_
     obtain⟨dQ,bY,aA⟩:=j0 aA
     refine aI (H1 bY (by first|rw[F2.length (F2.append (show F2 (Wp.int.R aY) ([]:List (List Value)) ([]:C0) from trivial) aR),F2.length (show F2 (Wp.int.R aY) ([[.int .i64 aB]]:List (List Value)) [aB] from⟨⟨rfl,aZ⟩,trivial⟩)]|exact congrArg (·+1) (F2.length (F2.append (show F2 (Wp.int.R aY) ([]:List (List Value)) ([]:C0) from trivial) aR)))) ?_
     intro dR cO dI
     obtain⟨bC,bD,rfl,bM,aS,dJ⟩:=K0.out (r:=Wp.int.toRp) dI (F2.append (F2.append (show F2 (Wp.int.R aY) ([]:List (List Value)) ([]:C0) from trivial) aR) (show F2 (Wp.int.R aY) ([[.int .i64 aB]]:List (List Value)) [aB] from⟨⟨rfl,aZ⟩,trivial⟩))
     obtain⟨dS,bZ,aA⟩:=j0 aA
     refine aI (H1 bZ (by first|rw[F2.length (F2.up (r:=j1.toRp) aS aK),F2.length (show F2 (j1.R cO) ([[.slice bC (((([]:C0)++bF) ++ [aB])).length bD]]:List (List Value)) [((([]:C0)++bF) ++ [aB])] from⟨bM,trivial⟩)]|exact congrArg (·+1) (F2.length (F2.up (r:=j1.toRp) aS aK)))) ?_
     exact L1 bK ⟨(IntKind.i64.wrap (aB+1)),(aC++([[.slice bC (((([]:C0)++bF) ++ [aB])).length bD]]:List (List Value))),(aX ++ [((([]:C0)++bF) ++ [aB])]),rfl,rfl,(aJ.trans aS),(D0 _),(F2.append (F2.up (r:=j1.toRp) aS aK) (show F2 (j1.R cO) ([[.slice bC (((([]:C0)++bF) ++ [aB])).length bD]]:List (List Value)) [((([]:C0)++bF) ++ [aB])] from⟨bM,trivial⟩)),aA⟩
    ·exact L1 bK ⟨(IntKind.i64.wrap (aB+1)),aC,aX,rfl,rfl,aJ,(D0 _),aK,aA⟩
   ·obtain rfl:=oJ aA
    try dsimp only[N0,O0]at aF
    exact L1 bO ⟨(IntKind.i64.wrap (aT+1)),aC,aX,rfl,rfl,(aQ.trans aJ),(D0 _),aK,aF⟩
  ·obtain rfl:=oJ aF
   try dsimp only[N0,O0]at aD
   intro dT dU f45
   obtain⟨cA,cC,rfl,cD,cE,dK⟩:=K0.out (r:=j1.toRp) f45 bI
   exact L1 bN ⟨cA,aV.length,cC,aV,(IntKind.i64.wrap (bE+1)),rfl,rfl,((cI.trans aQ).trans cE),cD,(D0 _),aD⟩
 ·obtain rfl:=oJ aD
  try dsimp only[N0,O0]at bG
  obtain rfl:=oJ bG
  exact⟨aL,aN.length,aM,rfl,aO,(cS.trans cI)⟩
theorem p05(h:Hp)(p0:Int)(aJ:J0 p0)(p1:Int)(aK:J0 p1)(r:Int)(aB:s9 p0 p1=some r):
  Tr Tryz.prog 150 #[.int .i64 p0,.int .i64 p1] h λv h'=>v = .int .i64 r/\h'=h:=by
 unfold s9 at aB
 refine Tr.forget (D2 (args:=[.int .i64 p0,.int .i64 p1]) (fn:=Tryz.f150) rfl ?_)
 obtain⟨X1,aC,aB⟩:=j0 aB
 refine eX { vars:=[5,6],boxes:=[],owns:=[],fuel:=true } (eX (λvs os h'=>∃ u2 u3,vs.tail = [.int .i64 u2,.int .i64 u3]/\os = []/\Sub h h'/\J0 u2/\J0 u3/\a6 p1 p0 (Z0 vs) u2 u3=some X1) (eX (λ_ _=>0) (aI (eX C1 ⟨1,0,rfl,rfl,(Sub.refl _),(by decide),(by decide),aC⟩) ?_)))
 rintro _ _ m5 k4 ⟨u2,u3,⟨⟩,⟨⟩,aD,aL,aM,aA⟩
 replace aA:a6 p1 p0 m5 u2 u3=some X1:=aA
 obtain _|m5:=m5
 ·cases aA
 rw[a6.eq_2]at aA
 refine ifB aA (λaF aA=>?_) λaF aA=>?_
 ·exact L1 m5 ⟨(IntKind.i64.wrap (u2*p0)),(IntKind.i64.wrap (u3+1)),rfl,rfl,aD,(D0 _),(D0 _),aA⟩
 ·obtain rfl:=oJ aA
  try dsimp only[N0,O0]at aB
  obtain rfl:=oJ aB
  exact aI rfl aD
theorem s02(h:Hp)(p0:Int)(cY:J0 p0)(bO:Option Addr)(cZ bP:Nat)(p1:M1)(aZ:D5.R h [.slice bO cZ bP] p1)(r:l0×Bool)(aA:l7 p0 p1=some r):
  Tr Tryz.prog 151 #[.int .i64 p0,.slice bO cZ bP] h λv h'=>∃(dA:List Value),v = .tuple #[.agg dA.toArray,.bool r.2]/\I0.R h' dA r.1/\Sub h h':=by
 obtain⟨rfl,eH⟩:=Sl.len aZ
 unfold l7 at aA
 refine D2 (args:=[.int .i64 p0,.slice bO p1.length bP]) (fn:=Tryz.f151) rfl ?_
 refine trV aA (c5 _ p0 cY 1 (by decide) 3 (by decide)) λx1 aA=>?_
 obtain⟨x2,dO,aA⟩:=j0 aA
 obtain⟨dP,dB,dC⟩:=Sl.getG (r:=j1.toRp) aZ dO (by decide) (d0c Wp.int h)
 refine aI (λq=>(dB q).1) ?_
 obtain⟨eI,eJ,eK,rfl⟩:=Wp.slice_cell dC
 obtain⟨rfl,eM⟩:=Sl.len dC
 refine eX _ (aI (λq=>(dB q).2) ?_)
 refine ifB aA (λdQ aA=>?_) λdQ aA=>?_
 ·obtain rfl:=oJ aA
  exact⟨([.int .i64 0,.int .i64 0,.slice none 0 0]),rfl,(f0 (by decide) (by decide) (s09 Q0 h)),(Sub.refl _)⟩
 ·refine ld aA aZ λx4 dR dD aA=>?_
  obtain⟨eN,eO,eP,rfl⟩:=Wp.slice_cell dD
  obtain⟨rfl,dS⟩:=Sl.len dD
  obtain⟨X5,bU,aA⟩:=j0 aA
  refine eX { vars:=[7],boxes:=[1],owns:=[],fuel:=true } (eX (λvs os h'=>∃ u6 u7 u8 bA bV bB u9,vs.tail = [.int .i64 u6,.int .i64 u7,.int .i64 u8,.slice bA bV bB]/\os = []/\Sub h h'/\J0 u6/\J0 u7/\J0 u8/\M0.R h' [.slice bA bV bB] u9/\A4 p0 p1 (Z0 vs) u6 u7 u8 u9=some X5) (eX (λ_ _=>0) (aI (eX C1 ⟨0,p0,((x4.length:Nat):Int),none,0,0,[],rfl,rfl,(Sub.refl _),(by decide),cY,(L08 dS),(s09 Q0 h),bU⟩) ?_)))
  rintro _ _ _ _ bQ bR ⟨u6,u7,u8,bA,bV,bB,u9,⟨⟩,⟨⟩,aM,eQ,dE,dF,bW,aB⟩
  replace aB:A4 p0 p1 bQ u6 u7 u8 u9=some X5:=aB
  obtain _|bQ:=bQ
  ·cases aB
  rw[A4.eq_2]at aB
  obtain⟨rfl,eR⟩:=Sl.len bW
  refine ifB aB (λbX aB=>?_) λbX aB=>?_
  ·refine Or.inl (aI (aI (by kernel_rfl) (by kernel_rfl)) ?_)
   refine ld aB (D5.mono aM aZ) λdG dH aN aB=>?_
   obtain⟨bY,dT,bZ,rfl⟩:=Wp.slice_cell aN
   obtain⟨rfl,dU⟩:=Sl.len aN
   obtain⟨dV,cA,aB⟩:=j0 aB
   refine eX (.bool dV) (aI (r02 _ bY dG.length bZ dG aN _  cA) ?_)
   obtain⟨eS,cC,aB⟩:=j0 aB
   obtain⟨dI,bC,bD⟩:=Sl.getG (r:=j1.toRp) (D5.mono aM aZ) cC (by decide) (d0c Wp.int bR)
   refine aI (λq=>(bC q).1) ?_
   obtain⟨dW,dX,dY,rfl⟩:=Wp.slice_cell bD
   obtain⟨rfl,dZ⟩:=Sl.len bD
   refine eX _ (aI (λq=>(bC q).2) ?_)
   refine ifB aB (λcD aB=>?_) λcD aB=>?_
   ·obtain rfl:=oJ aB
    try dsimp only[M2,N2]at aA
    obtain rfl:=oJ aA
    exact⟨([.int .i64 0,.int .i64 0,.slice none 0 0]),rfl,(f0 (by decide) (by decide) (s09 Q0 bR)),aM⟩
   ·obtain⟨X17,bE,aB⟩:=j0 aB
    refine eX { vars:=[8],boxes:=[1],owns:=[],fuel:=true } (eX (λvs os h'=>∃ aK aO aP aD aQ aF aL,vs.tail = [.int .i64 aK,.int .i64 aO,.int .i64 aP,.slice aD aQ aF]/\os = []/\Sub bR h'/\J0 aK/\J0 aO/\J0 aP/\M0.R h' [.slice aD aQ aF] aL/\w4 p1 u6 (Z0 vs) aK aO aP aL=some X17) (eX (λ_ _=>0) (aI (eX C1 ⟨0,u7,u8,bA,u9.length,bB,u9,rfl,rfl,(Sub.refl _),(by decide),dE,dF,bW,bE⟩) ?_)))
    rintro _ _ _ _ bS eT ⟨aK,aO,aP,aD,aQ,aF,aL,⟨⟩,⟨⟩,aR,cE,bF,bG,aS,aC⟩
    replace aC:w4 p1 u6 bS aK aO aP aL=some X17:=aC
    obtain _|bS:=bS
    ·cases aC
    rw[w4.eq_2]at aC
    obtain⟨rfl,eA⟩:=Sl.len aS
    refine ifB aC (λcF aC=>?_) λcF aC=>?_
    ·refine Or.inr (Or.inr (Or.inl (aI (aI (by kernel_rfl) (by kernel_rfl)) ?_)))
     obtain⟨dJ,cI,aC⟩:=j0 aC
     obtain⟨cJ,dK,cK,aT⟩:=Sl.getI (r:=j1.toRp) (D5.mono (aM.trans aR) aZ) cI (by decide)
     obtain⟨bH,eB,bI,rfl⟩:=Wp.slice_cell aT
     obtain⟨rfl,eC⟩:=Sl.len aT
     refine Or.inl (eX (.hel (.slice bO p1.length bP) u6 1 0) (aI ?_ ?_))
     ·intro eU eV
      exact aI cJ (aI rfl (aI rfl rfl))
     refine Or.inl (eX (.val (.slice bH dJ.length bI)) (aI ?_ ?_))
     ·intro eW eD
      exact eX _ (aI (N6.up eD cK) (aI rfl (aI rfl rfl)))
     obtain⟨bT,cL,aC⟩:=j0 aC
     obtain⟨cM,dL,cN,cO⟩:=Sl.getI (r:=Wp.int.toRp) aT cL (by decide)
     obtain⟨rfl,cP⟩:=cO
     refine Or.inl (eX (.hel (.slice bH dJ.length bI) aK 1 0) (aI ?_ ?_))
     ·intro eY eZ
      exact aI cM (aI rfl (aI rfl rfl))
     refine Or.inl (eX (.val (.int .i64 bT)) (aI ?_ ?_))
     ·intro fA eE
      exact eX _ (aI (N6.up eE cN) (aI rfl (aI rfl rfl)))
     refine Or.inl (eX (.agg [.val (.int .i64 aK),.val (.int .i64 (IntKind.i64.wrap (u6+1))),.val (.int .i64 bT)]) (aI ?_ ?_))
     ·intro fB fC
      exact aI rfl (aI rfl rfl)
     refine Or.inr ?_
     refine Or.inr ?_
     refine Or.inl (eX 1 (aI (aI rfl rfl) ?_))
     refine trM aC (x01 _ aD aL.length aF aL aS [.int .i64 aK,.int .i64 (IntKind.i64.wrap (u6+1)),.int .i64 bT] (aK,(IntKind.i64.wrap (u6+1)),bT) (U0 cE (D0 _) cP)) ?_
     rintro dM aC fD fE ⟨cQ,eF,cR,rfl,bJ,bK⟩
     obtain⟨rfl,eG⟩:=Sl.len bJ
     refine aI (aI rfl bK) (aI (by first|exact trivial|exact rfl) ?_)
     refine aI trivial (aI (by first|exact trivial|exact rfl) ?_)
     exact L1 bS ⟨(IntKind.i64.wrap (aK+1)),aO,aP,cQ,dM.length,cR,dM,rfl,rfl,(aR.trans bK),(D0 _),bF,bG,bJ,aC⟩
    ·obtain rfl:=oJ aC
     try dsimp only[N0,O0]at aB
     exact L1 bQ ⟨(IntKind.i64.wrap (u6+1)),aO,aP,aD,aL.length,aF,aL,rfl,rfl,(aM.trans aR),(D0 _),bF,bG,aS,aB⟩
  ·obtain rfl:=oJ aB
   try dsimp only[N0,O0]at aA
   refine ifB aA (λcS aA=>?_) λcS aA=>?_
   ·obtain rfl:=oJ aA
    exact⟨([.int .i64 0,.int .i64 0,.slice none 0 0]),rfl,(f0 (by decide) (by decide) (s09 Q0 bR)),aM⟩
   ·refine trM aA (O04 _ [.int .i64 u7,.int .i64 u8,.slice bA u9.length bB] (u7,u8,u9) (f0 dE dF bW)) ?_
    rintro fF aA fH fI ⟨dN,rfl,cT,cU⟩
    obtain⟨bL,bM,aU,cV,aV,bN,rfl,rfl,aX,aY,aJ⟩:=B0 cT
    obtain⟨rfl,cX⟩:=Sl.len aJ
    try dsimp only at aA
    obtain rfl:=oJ aA
    exact⟨([.int .i64 bL,.int .i64 bM,.slice aU bN.length aV]),rfl,(f0 aX aY aJ),(aM.trans cU)⟩
theorem b01(h:Hp)(p0:Int)(bP:J0 p0)(p1:Int)(cN:J0 p1)(r:T1×Bool)(aN:V1 p0 p1=some r):
  Tr Tryz.prog 58 #[.int .i64 p0,.int .i64 p1] h λv h'=>∃(a0:Option Addr) (n0 c0:Nat),v = .tuple #[.slice a0 n0 c0,.bool r.2]/\f4.R h' [.slice a0 n0 c0] r.1/\Sub h h':=by
 unfold V1 at aN
 refine D2 (args:=[.int .i64 p0,.int .i64 p1]) (fn:=Tryz.f58) rfl ?_
 refine trV aN (c5 _ p0 bP 1 (by decide) 3 (by decide)) λx1 aN=>?_
 refine trG aN (λq=>c5 _ p1 cN 1 (by decide) 3 (by decide)) λx2 aN=>?_
 refine ifB aN (λcZ aN=>?_) λcZ aN=>?_
 ·intro v4 k5 f6
  obtain⟨dA,dB,rfl,dC,dD,dU⟩:=K0.out (r:=I0.toRp) f6 (show F2 (I0.R h) ([]:List (List Value)) ([]:T1) from trivial)
  obtain rfl:=oJ aN
  exact⟨dA,(([]:T1)).length,dB,rfl,dC,dD⟩
 ·refine trM aN (o05 _ _ cN) ?_
  rintro x8 aN dV k9 ⟨dW,dX,dY,rfl,cO,cP⟩
  obtain⟨rfl,dE⟩:=Sl.len cO
  refine trV aN (p05 _ _ (L08 dE) _ bP) λbQ aN=>?_
  obtain⟨dZ,bR,aN⟩:=j0 aN
  have dF:J0 bQ:=Q1 bR
  obtain⟨X13,bH,aN⟩:=j0 aN
  refine eX { vars:=[9],boxes:=[],owns:=[0],fuel:=true } (eX (λvs os h'=>∃ bB aT aV,vs.tail = [.int .i64 bB]/\os = [aT]/\Sub k9 h'/\J0 bB/\F2 (I0.R h') aT aV/\A2 bQ p0 x8 p1 (Z0 vs) bB aV=some X13) (eX (λ_ _=>0) (aI (eX C1 ⟨0,[],([]:T1),rfl,rfl,(Sub.refl _),(by decide),(F2.up (r:=I0.toRp) cP (show F2 (I0.R h) ([]:List (List Value)) ([]:T1) from trivial)),bH⟩) ?_)))
  rintro _ aT bI cQ ⟨bB,cR,aV,⟨⟩,⟨⟩,aX,bS,aS,aK⟩
  replace aK:A2 bQ p0 x8 p1 bI bB aV=some X13:=aK
  obtain _|bI:=bI
  ·cases aK
  rw[A2.eq_2]at aK
  refine ifB aK (λbT aK=>?_) λbT aK=>?_
  ·obtain⟨X19,bJ,aK⟩:=j0 aK
   refine eX { vars:=[11,12],boxes:=[],owns:=[1],fuel:=true } (eX (λvs os h'=>∃ bE bF aY bK,vs.tail = [.int .i64 bE,.int .i64 bF]/\os = [aY]/\Sub cQ h'/\J0 bE/\J0 bF/\F2 (j1.R h') aY bK/\l3 p0 x8 (Z0 vs) bE bF bK=some X19) (eX (λ_ _=>0) (aI (eX C1 ⟨bB,0,[],([]:M1),rfl,rfl,(Sub.refl _),bS,(by decide),(show F2 (j1.R cQ) ([]:List (List Value)) ([]:M1) from trivial),bJ⟩) ?_)))
   rintro _ _ aY bN cS ⟨bE,bF,cT,bK,⟨⟩,⟨⟩,aO,dG,dH,aZ,aP⟩
   replace aP:l3 p0 x8 bN bE bF bK=some X19:=aP
   obtain _|bN:=bN
   ·cases aP
   rw[l3.eq_2]at aP
   refine ifB aP (λbU aP=>?_) λbU aP=>?_
   ·obtain⟨eA,bV,aP⟩:=j0 aP
    refine aI (Q1 bV) ?_
    refine ld aP (D5.mono (aX.trans aO) cO) λbG cU bA aP=>?_
    obtain⟨bC,dI,bD,rfl⟩:=Wp.slice_cell bA
    obtain⟨rfl,dJ⟩:=Sl.len bA
    obtain⟨eB,bW,aP⟩:=j0 aP
    refine aI (H1 bW (by first|rw[F2.length aZ,F2.length (show F2 (j1.R cS) ([[.slice bC bG.length bD]]:List (List Value)) [bG] from⟨bA,trivial⟩)]|exact congrArg (·+1) (F2.length aZ))) ?_
    obtain⟨eC,bX,aP⟩:=j0 aP
    refine aI (Q1 bX) ?_
    exact L1 bN ⟨(IntKind.i64.wrap (Int.tdiv bE ((x8.length:Nat):Int))),(IntKind.i64.wrap (bF+1)),(aY++([[.slice bC bG.length bD]]:List (List Value))),(bK ++ [bG]),rfl,rfl,aO,(D0 _),(D0 _),(F2.append aZ (show F2 (j1.R cS) ([[.slice bC bG.length bD]]:List (List Value)) [bG] from⟨bA,trivial⟩)),aP⟩
   ·obtain rfl:=oJ aP
    try dsimp only[N0,O0]at aK
    refine Or.inl ?_
    intro eD eE dK
    obtain⟨dL,dM,rfl,bY,aQ,dN⟩:=K0.out (r:=j1.toRp) dK aZ
    refine trM aK (s02 _ _ bP _ _ _ _ bY) ?_
    rintro dO aK eF cV ⟨bO,rfl,aU,aR⟩
    obtain⟨cX,cY⟩:=dO
    dsimp only at aK aU
    obtain⟨aA,aB,aD,bL,aF,aC,rfl,rfl,aL,aM,aJ⟩:=B0 aU
    obtain⟨rfl,bM⟩:=Sl.len aJ
    try dsimp only at aK
    obtain⟨dP,bZ,aK⟩:=j0 aK
    refine eX (.bool dP) (aI ?_ ?_)
    ·intro hq
     intro eG eH dQ
     obtain⟨cA,cC,rfl,cD,cE,dR⟩:=K0.out (r:=I0.toRp) dQ (F2.up (r:=I0.toRp) ((aO.trans aQ).trans aR) aS)
     exact n05 _ cA aV.length cC aV cD [.int .i64 aA,.int .i64 aB,.slice aD aC.length aF] (aA,aB,aC) (f0 aL aM (M0.mono cE aJ)) _ (X00 bZ hq)
    refine ifB aK (λcF aK=>?_) λcF aK=>?_
    ·obtain⟨eI,cI,aK⟩:=j0 aK
     refine aI (H1 cI (by first|rw[F2.length (F2.up (r:=I0.toRp) ((aO.trans aQ).trans aR) aS),F2.length (show F2 (I0.R cV) ([[.int .i64 aA,.int .i64 aB,.slice aD aC.length aF]]:List (List Value)) [(aA,aB,aC)] from⟨(f0 aL aM aJ),trivial⟩)]|exact congrArg (·+1) (F2.length (F2.up (r:=I0.toRp) ((aO.trans aQ).trans aR) aS)))) ?_
     exact L1 bI ⟨(IntKind.i64.wrap (bB+1)),(aT++([[.int .i64 aA,.int .i64 aB,.slice aD aC.length aF]]:List (List Value))),(aV ++ [(aA,aB,aC)]),rfl,rfl,(((aX.trans aO).trans aQ).trans aR),(D0 _),(F2.append (F2.up (r:=I0.toRp) ((aO.trans aQ).trans aR) aS) (show F2 (I0.R cV) ([[.int .i64 aA,.int .i64 aB,.slice aD aC.length aF]]:List (List Value)) [(aA,aB,aC)] from⟨(f0 aL aM aJ),trivial⟩)),aK⟩
    ·exact L1 bI ⟨(IntKind.i64.wrap (bB+1)),aT,aV,rfl,rfl,(((aX.trans aO).trans aQ).trans aR),(D0 _),(F2.up (r:=I0.toRp) ((aO.trans aQ).trans aR) aS),aK⟩
  ·obtain rfl:=oJ aK
   try dsimp only[N0,O0]at aN
   intro eJ eK dS
   obtain⟨cJ,cK,rfl,cL,cM,dT⟩:=K0.out (r:=I0.toRp) dS aS
   obtain rfl:=oJ aN
   exact⟨cJ,aV.length,cK,rfl,cL,((cP.trans aX).trans cM)⟩
theorem M5(h:Hp)(aB:Option Addr)(aJ aC:Nat)(p0:C0)(aK:j1.R h [.slice aB aJ aC] p0)(r:C0)(aA:K6 p0=some r):
  Tr Tryz.prog 93 #[.slice aB aJ aC] h λv h'=>∃(g0:Nat) (n0 c0:Nat),v = .slice (some ⟨g0,0,none⟩) n0 c0/\New j1 h h' [.slice (some ⟨g0,0,none⟩) n0 c0] r:=by
 obtain⟨rfl,aP⟩:=Sl.len aK
 unfold K6 at aA
 refine D2 (args:=[.slice aB p0.length aC]) (fn:=Tryz.f93) rfl ?_
 obtain⟨aD,aL,aF⟩:=Sl.rows (r:=Wp.int.toRp) aK
 refine eX aD (aI aL ?_)
 obtain⟨q2,aM,aA⟩:=j0 aA
 refine aI (H1 aM (by first|rw[F2.length (show F2 (Wp.int.R h) ([]:List (List Value)) ([]:C0) from trivial),F2.length aF]|exact congrArg (·+1) (F2.length (show F2 (Wp.int.R h) ([]:List (List Value)) ([]:C0) from trivial)))) ?_
 intro v3 k4 f5
 obtain⟨aN,aO,rfl,aQ,aR,aS⟩:=K0.outS (r:=Wp.int.toRp) f5 (F2.append (show F2 (Wp.int.R h) ([]:List (List Value)) ([]:C0) from trivial) aF)
 obtain rfl:=oJ aA
 exact⟨aN,((([]:C0)++p0)).length,aO,rfl,(K0.newPlain (r:=Wp.int) f5 (F2.append (show F2 (Wp.int.R h) ([]:List (List Value)) ([]:C0) from trivial) aF) (B01 _))⟩
def q06:Obj := .cells #[] 0 (0,0)
def S04:TypeId:=38
def PS(hb:Hp)(bo g:Nat)(h:Hp)(acc:M1):Prop:=∃ o c,h bo=some (.cells #[.slice (some ⟨g,o,none⟩) acc.length c] S04 (0,0)) /\
 New D5 (hb.set bo q06) (h.set bo q06) [.slice (some ⟨g,o,none⟩) acc.length c] acc
def Kp(bo g:Nat)(h h':Hp)(g':Nat):Prop:=(g'=g∨h g'=none)/\(∀ b o,b≠bo->b≠g->h b=some o->h' b=some o)/\∀ b,h b≠none->h' b≠none
theorem Sub.hole{h h':Hp}(s:Sub h h')(b:Nat)(x:Obj):Sub (h.set b x) (h'.set b x):=λa o e=>by
 by_cases e1:a=b
 ·subst e1;rw[Hp.set_same]at e ⊢;exact e
 ·rw[Hp.set_other _ _ e1]at e ⊢;exact s _ _ e
theorem New.base{α:Type}{r:Wp α}{h0 h1:Hp}{g o n c:Nat}{xs:List α}(w:New r.slice h0 h1 [.slice (some ⟨g,o,none⟩) n c] xs):h0 g=none:=by
 obtain⟨B,⟨v,vs,B1,Bs0,e1,⟨hall,hrow⟩,hF,rfl⟩,hB,hs⟩:=w
 cases e1
 rcases hrow with⟨e,_⟩|⟨g0,o0,c0,cur,ty,e,k1,k2,k3,rfl,k4,k5⟩
 ·cases e
 cases e
 exact hB.2 _ (by simp)
theorem PS.up{hb h h':Hp}{bo g:Nat}{acc:M1}(p:PS hb bo g h acc)(s:Sub h h'):PS hb bo g h' acc:=by
 obtain⟨o,c,p1,p2⟩:=p
 exact⟨o,c,s _ _ p1,p2.mono (Sub.hole s _ _)⟩
theorem PS.ne{hb h:Hp}{bo g:Nat}{acc:M1}(p:PS hb bo g h acc):g≠bo:=by
 obtain⟨o,c,p1,p2⟩:=p
 intro e
 have:=New.base p2
 rw[e,Hp.set_same]at this;cases this
theorem PS.old{hb h:Hp}{bo g:Nat}{acc:M1}(p:PS hb bo g h acc){b:Nat}{x:Obj}(hne:b≠bo)(hx:hb b=some x):h b=some x:=by
 obtain⟨o,c,p1,p2⟩:=p
 have:=p2.sub b x (by rw[Hp.set_other _ _ hne];exact hx)
 rwa [Hp.set_other _ _ hne]at this
theorem PS.gne{hb h:Hp}{bo g:Nat}{acc:M1}(p:PS hb bo g h acc):h g≠none:=by
 obtain⟨o,c,p1,p2⟩:=p
 intro e
 have hne:g≠bo:=PS.ne ⟨o,c,p1,p2⟩
 exact New.blk p2 (Sub.refl _) (by rw[Hp.set_other _ _ hne];exact e)
theorem z05.unhole{h:Hp}{bo g o n c sz:Nat}{x:Obj}{vs:List (List Value)}(hne:g≠bo)(r:z05 (h.set bo x) sz (.slice (some ⟨g,o,none⟩) n c) vs):z05 h sz (.slice (some ⟨g,o,none⟩) n c) vs:=by
 obtain⟨a,g1,o1,c1,cur,ty,e,r1,r2,r3,r4,r5⟩:=r
 cases e
 rw[Hp.set_other _ _ hne]at r4
 exact⟨a,_,_,_,cur,ty,rfl,r1,r2,r3,r4,r5⟩
theorem s06.hole{h h':Hp}{bo g sz:Nat}{x y:Obj}{v:Value}{zs:List (List Value)}(hne:g≠bo)(hbo:h bo=some y)(a:s06 h h' sz g v zs):s06 (h.set bo x) (h'.set bo x) sz g v zs/\h' bo=some y /\
  ∃ g' o' n' c',v = .slice (some ⟨g',o',none⟩) n' c'/\(g'=g∨h g'=none)/\g'≠bo:=by
 obtain⟨r,g',o',n',c',rfl,hg,hk⟩:=a
 have hb:g'≠bo:=by
  rcases hg with rfl|hg
  ·exact hne
  ·intro e;rw[e,hbo]at hg;cases hg
 obtain⟨q,g1,o1,c1,cur,ty,e,r1,r2,r3,r4,r5⟩:=r
 cases e
 refine⟨⟨⟨q,_,_,_,cur,ty,rfl,r1,r2,r3,by rw[Hp.set_other _ _ hb];exact r4,r5⟩,_,_,_,_,rfl,?_,λb hbb=>?_⟩,by rw[hk bo hb.symm];exact hbo,_,_,_,_,rfl,hg,hb⟩
 ·rcases hg with rfl|hg
  ·exact .inl rfl
  ·exact .inr (by rw[Hp.set_other _ _ hb];exact hg)
 ·by_cases e1:b=bo
  ·subst e1;rw[Hp.set_same,Hp.set_same]
  ·rw[Hp.set_other _ _ e1,Hp.set_other _ _ e1];exact hk b hbb
theorem G0b{h:Hp}{b:Nat}{x y:Obj}:(h.set b x).set b y=h.set b y:=by
 funext a
 by_cases e:a=b
 ·subst e;rw[Hp.set_same,Hp.set_same]
 ·rw[Hp.set_other _ _ e,Hp.set_other _ _ e,Hp.set_other _ _ e]
theorem PS.push{hb h1 h:Hp}{bo g o c:Nat}{acc:M1}{al:Option Addr}{nl cl:Nat}{l:C0}(p1:h1 bo=some (.cells #[.slice (some ⟨g,o,none⟩) acc.length c] S04 (0,0)))
  (p2:New D5 (hb.set bo q06) (h1.set bo q06) [.slice (some ⟨g,o,none⟩) acc.length c] acc) (s:Sub h1 h) (w:New j1 h1 h [.slice al nl cl] l) :
  ∃ vs,z05 h 1 (.slice (some ⟨g,o,none⟩) acc.length c) vs/\vs.length=acc.length/\∀ k v',s06 h k 1 g v' (vs ++ [[.slice al nl cl]]) ->
   ∃ g2 o2 n2 c2,v' = .slice (some ⟨g2,o2,none⟩) n2 c2/\∃ ty fz,k bo=some (.cells #[.slice (some ⟨g,o,none⟩) acc.length c] ty fz)/\fz=(0,0)/\f8 v'/\∃ g',PS hb bo g' (k.set bo (.cells #[v'] ty fz)) (acc ++ [l])/\Kp bo g h (k.set bo (.cells #[v'] ty fz)) g':=by
 have hne:g≠bo:=PS.ne ⟨o,c,p1,p2⟩
 obtain⟨vs,rx,ln,ap⟩:=New.app p2 (Sub.hole s bo q06)
 refine⟨vs,z05.unhole hne rx,ln,λk v' ax=>?_⟩
 obtain⟨a1,a2,g',o',n',c',rfl,hg,hgb⟩:=s06.hole (x:=q06) hne (s _ _ p1) ax
 obtain⟨B,w1,wf,ws⟩:=w
 have hbB:bo ∉ B:=λe=>by
  have:=wf.2 _ e
  rw[p1]at this;cases this
 obtain⟨n1,n2⟩:=ap [[.slice al nl cl]] [l] [B] _ _ (show F3 (j1.W (h.set bo q06)) [[.slice al nl cl]] [l] [B] from⟨j1.frame w1 λb hb=>Hp.set_other _ _ (λe=>hbB (by rw[←e];exact hb)),trivial⟩)
  ⟨by simpa using wf.1,λb hb=>by
   have hb:b∈B:=by simpa using hb
   rw[Hp.set_other _ _ (λe=>hbB (by rw[←e];exact hb))];exact wf.2 b hb⟩ a1
 have hl:n'=(acc ++ [l]).length:=(Sl.len n1.r).1
 subst hl
 obtain⟨aB,g2,o2,n2,c2,e,aD,hk⟩:=ax
 cases e
 obtain⟨_,g3,o3,c3,cur,ty,e,_,_,_,r4,_⟩:=aB
 injection e with e1 _ _
 cases e1
 refine⟨_,_,_,_,rfl,_,_,a2,rfl,trivial,g',⟨o',c',Hp.set_same _ _ _,by rw[G0b];exact n1⟩,hg,λb x aA aC hx=>?_,λb hx=>?_⟩
 ·rw[Hp.set_other _ _ aA,hk b (by
   rcases hg with e|e
   ·rw[e];exact aC
   ·intro e2;rw[←e2]at e;rw[hx]at e;cases e)]
  exact hx
 ·by_cases aA:b=bo
  ·subst aA;rw[Hp.set_same];simp
  ·rw[Hp.set_other _ _ aA]
   by_cases e2:b=g'
   ·subst e2;rw[r4];simp
   ·rw[hk b e2];exact hx
theorem T04{n k x:Nat}{l:C0}:(List.range (x+1)).flatMap (λx:Nat=>bif l.contains (x:Int)then []else L5 n k (l ++ [(x:Int)])) =
  (List.range x).flatMap (λx:Nat=>bif l.contains (x:Int)then []else L5 n k (l ++ [(x:Int)]))++(bif l.contains (x:Int)then []else L5 n k (l ++ [(x:Int)])):=by
 rw[List.range_succ,List.flatMap_append];simp
theorem z09(n:Nat):∀(k:Nat) (l:C0),(L5 n k l).length<=(n+1) ^ k/\∀ x,((List.range x).flatMap λx:Nat=>bif l.contains (x:Int)then []else L5 n k (l ++ [(x:Int)])).length<=x*(n+1) ^ k
 |k,l=>by
  have hall:∀(k:Nat) (l:C0),(∀ l,(L5 n k l).length<=(n+1) ^ k)->∀ x,((List.range x).flatMap λx:Nat=>bif l.contains (x:Int)then []else L5 n k (l ++ [(x:Int)])).length<=x*(n+1) ^ k:=by
   intro k l ih x
   induction x with
   |zero=>simp
   |succ x ihx =>
    rw[T04,List.length_append,Nat.succ_mul]
    have:(bif l.contains (x:Int)then([]:M1)else L5 n k (l ++ [(x:Int)])).length<=(n+1) ^ k:=by
     cases l.contains (x:Int)
     ·exact ih _
     ·simp
    omega
  have main:∀(k:Nat) (l:C0),(L5 n k l).length<=(n+1) ^ k:=by
   intro k
   induction k with
   |zero=>intro l;simp[L5]
   |succ k ih =>
    intro l
    have:=hall k l ih n
    rw[L5,Nat.pow_succ,Nat.mul_comm]
    refine Nat.le_trans this ?_
    exact Nat.mul_le_mul_right _ (by omega)
  exact⟨main k l,hall k l (main k)⟩
theorem l0c{n k x:Nat}{l:C0}{acc:M1}(h:acc.length+(n+1) ^ (k+1+1)<=1000)(hx:x<n):(acc++(List.range x).flatMap λx:Nat=>bif l.contains (x:Int)then []else L5 n k (l ++ [(x:Int)])).length+(n+1) ^ (k+1)<=1000:=by
 have h1:=(z09 n k l).2 x
 rw[List.length_append]
 have h2:(n+1) ^ (k+1+1)=(n+1) ^ (k+1)*n+(n+1) ^ (k+1):=by rw[Nat.pow_succ (n+1) (k+1),Nat.mul_add,Nat.mul_one]
 have h3:x*(n+1) ^ k<=(n+1) ^ (k+1)*n:=by
  rw[Nat.mul_comm x]
  refine Nat.mul_le_mul ?_ (by omega)
  exact Nat.pow_le_pow_right (by omega) (by omega)
 omega
theorem PS.start{h k1:Hp}{bn bo bm g cap:Nat}{N Fo Z:Obj}(w0:New D5 (h.set bn N) k1 [.slice (some ⟨g,0,none⟩) 0 cap] [])(hbo:k1 bo=none)
  (hbm:(k1.set bo (.cells #[.slice (some ⟨g,0,none⟩) 0 cap] S04 (0,0))) bm=none) :
  PS ((h.set bn N).set bm Fo) bo g (((k1.set bo (.cells #[.slice (some ⟨g,0,none⟩) 0 cap] S04 (0,0))).set bm Z).set bm Fo) []:=by
 have hmo:bm≠bo:=λe=>by rw[e,Hp.set_same]at hbm;cases hbm
 have hk:k1 bm=none:=by rwa [Hp.set_other _ _ hmo]at hbm
 obtain⟨B,w1,wf,ws⟩:=w0
 have hB:∀ b∈B,b≠bo/\b≠bm:=λb hb=>by
  have:=D5.dom w1 b hb
  exact⟨λe=>this (e▸hbo),λe=>this (e▸hk)⟩
 refine⟨0,cap,by rw[Hp.set_other _ _ hmo.symm,Hp.set_other _ _ hmo.symm,Hp.set_same];rfl,B,D5.frame w1 λb hb=>?_,⟨wf.1,λb hb=>?_⟩,λb o e=>?_⟩
 ·rw[Hp.set_other _ _ (hB b hb).1,Hp.set_other _ _ (hB b hb).2,Hp.set_other _ _ (hB b hb).2,Hp.set_other _ _ (hB b hb).1]
 ·rw[Hp.set_other _ _ (hB b hb).1,Hp.set_other _ _ (hB b hb).2];exact wf.2 b hb
 ·by_cases e1:b=bo
  ·subst e1;rw[Hp.set_same]at e ⊢;exact e
  ·rw[Hp.set_other _ _ e1]at e ⊢
   by_cases e2:b=bm
   ·subst e2;rw[Hp.set_same]at e ⊢;exact e
   ·rw[Hp.set_other _ _ e2]at e ⊢
    rw[Hp.set_other _ _ e2,Hp.set_other _ _ e1]
    exact ws _ _ e
theorem PS.rows{hb h:Hp}{bo g:Nat}{acc:M1}(p:PS hb bo g h acc):∃ o c,h bo=some (.cells #[.slice (some ⟨g,o,none⟩) acc.length c] S04 (0,0))/\D5.R h [.slice (some ⟨g,o,none⟩) acc.length c] acc:=by
 obtain⟨o,c,p1,B,w1,wf,ws⟩:=p
 refine⟨o,c,p1,D5.toR (D5.frame w1 λb hb=>?_)⟩
 have:b≠bo:=λe=>by
  have:=wf.2 b hb
  rw[e,Hp.set_same]at this;cases this
 rw[Hp.set_other _ _ this]
theorem T08{l:C0}(hl:l.length<=3):K6 l=some l:=by
 have h2:(([]:C0).length+l.length)*8<=140737488355328:=by simp;omega
 simp only[K6,grd,if_pos h2,oB,List.nil_append]
theorem e0a(hb:Hp)(bn bo bm:Nat)(n:Nat)(aX:n<=3)(tyn tym:TypeId)(hno:bn≠bo)(hmo:bm≠bo)(hbn:hb bn=some (.cells #[.int .i64 n] tyn (0,0)))
    (hbm:hb bm=some (.cells #[.func (.func 249) #[] #[ptr bn 0,ptr bo 0,ptr bm 0]] tym (0,0))) :
    ∀(k:Nat) (l:C0) (acc:M1) (h1 h:Hp) (g:Nat) (al:Option Addr) (nl cl:Nat),k+l.length=n->acc.length+(n+1) ^ (k+1)<=1000->PS hb bo g h1 acc->Sub h1 h->New j1 h1 h [.slice al nl cl] l ->
    Tr Tryz.prog 249 #[.slice al nl cl,ptr bn 0,ptr bo 0,ptr bm 0] h λv h'=>∃ g',v = .tuple #[]/\PS hb bo g' h' (acc++L5 n k l)/\Kp bo g h h' g'
  |k,l,acc,h1,h,g,al,nl,cl,hk,hacc,ps,s1,wl=>by
    have aY:=wl.r
    obtain⟨rfl,bB⟩:=Sl.len aY
    have hn:h bn=some (.cells #[.int .i64 n] tyn (0,0)):=s1 _ _ (ps.old hno hbn)
    refine D2 (args:=[.slice al l.length cl,ptr bn 0,ptr bo 0,ptr bm 0]) (fn:=Tryz.f249) rfl ?_
    refine eX (.int .i64 n) (aI ⟨rfl,by simp[Hp.cell,hn]⟩ ?_)
    refine aI (λhc=>?_) (λhc=>?_)
    · have aZ:k=0:=by simp at hc;omega
      subst aZ
      obtain⟨o,c,p1,p2⟩:=ps
      refine eX _ (aI ⟨rfl,by simp[Hp.cell,(s1 _ _ p1)];rfl⟩ ?_)
      obtain⟨vs,rx,ln,go⟩:=PS.push p1 p2 s1 wl
      refine eX vs (aI rx (aI (by show _ * _ ≤ _; rw [ln]; simp; have : (n + 1) ^ (0 + 1) = n + 1 := (by simp); omega) ?_))
      intro v' k1 ax
      obtain⟨g2,o2,n2,c2,rfl,ty,fz,q1,rfl,q2,g',q3,q4⟩:=go k1 v' ax
      refine eX #[Value.slice (some ⟨g,o,none⟩) acc.length c] ?_
      refine eX ty ?_
      refine eX (0,0) ?_
      refine aI ⟨q1,rfl,Nat.zero_lt_one,rfl,q2⟩ ?_
      exact⟨g',rfl,q3,q4⟩
    · obtain⟨k,rfl⟩:∃ k',k=k'+1:=⟨k-1,by simp at hc;omega⟩
      refine eX { vars:=[5],boxes:=[],owns:=[] } (eX (λvs os h'=>∃(x:Nat) (g':Nat),vs = [.int .i64 x]/\os = []/\x<=n /\
        PS hb bo g' h' (acc++(List.range x).flatMap λx:Nat=>bif l.contains (x:Int)then []else L5 n k (l ++ [(x:Int)]))/\Kp bo g h h' g')
        (eX (λvs _=>match vs with | [.int _ x]=>(n-x).toNat|_=>0) ?_))
      refine aI ⟨0,g,rfl,rfl,Nat.zero_le _,by simpa using ps.up s1,.inl rfl,λb o _ _ hx=>hx,λb hx=>hx⟩ ?_
      rintro v1 hi ⟨x,g1,⟨⟩,_,hxn,aM,aJ⟩
      have hni:hi bn=some (.cells #[.int .i64 n] tyn (0,0)):=aM.old hno hbn
      have hm:hi bm=some (.cells #[.func (.func 249) #[] #[ptr bn 0,ptr bo 0,ptr bm 0]] tym (0,0)):=aM.old hmo hbm
      have rl:j1.R hi [.slice al l.length cl] l:=by
        obtain⟨B,w1,wf,ws⟩:=wl
        refine j1.toR (j1.frame w1 λb hb=>?_)
        have hnb:=wf.2 _ hb
        have hd:=j1.dom w1 b hb
        obtain⟨ob,ho⟩:=Option.ne_none_iff_exists'.1 hd
        obtain⟨o,c,p1,p2⟩:=ps
        rw[ho]
        refine aJ.2.1 b ob (λe=>?_) (λe=>?_) ho
        · rw[e,p1]at hnb;cases hnb
        · exact PS.gne ⟨o,c,p1,p2⟩ (e▸hnb)
      have aN:l.length<=3:=by omega
      refine eX (.int .i64 n) (aI ⟨rfl,by simp[Hp.cell,hni]⟩ ?_)
      refine aI (λaO=>?_) (λaO=>?_)
      · have hxl:x<n:=by simpa using aO
        have ix:J0 (x:Int):=⟨by omega,by omega⟩
        refine eX { vars:=[6,24],boxes:=[],owns:=[] } (eX (λvs os h'=>∃(i:Nat),vs = [.bool ((l.take i).contains (x:Int)),.int .i64 i]/\os = []/\i<=l.length/\hi=h')
          (eX (λvs _=>match vs with | [_,.int _ i]=>(l.length-i).toNat|_=>0) ?_))
        refine aI ⟨0,by simp,rfl,Nat.zero_le _,rfl⟩ ?_
        rintro v1 v2 h2 ⟨i,hv,_,hil,rfl⟩
        cases hv
        refine aI (λaP=>?_) (λaP=>?_)
        · have hlt:i<l.length:=by simpa using aP
          obtain⟨y,hy⟩:∃ y,l[i]?=some y:=⟨_,List.getElem?_eq_getElem hlt⟩
          have hgy:gi l (i:Int)=some y:=by unfold gi;rw[if_pos (by omega)];simpa using hy
          obtain⟨b5,bC,e5,r5⟩:=Sl.getI (r:=Wp.int.toRp) rl hgy (by decide)
          obtain⟨rfl,iy⟩:=r5
          refine aI b5 (eX _ (aI e5 ?_))
          have htk:(l.take (i+1)).contains (x:Int)=((l.take i).contains (x:Int) || ((x:Int) == y)):=by
            rw[Bool.eq_iff_iff]
            simp[List.take_add_one,hy]
          refine aI rfl (aI (by first|exact trivial|exact aI rfl trivial|exact aI rfl (aI rfl trivial)|exact aI rfl (aI rfl (aI rfl trivial))|exact aI rfl (aI rfl (aI rfl (aI rfl trivial)))) (aI (by first|exact trivial|exact aI rfl trivial|exact aI rfl (aI rfl trivial)|exact aI rfl (aI rfl (aI rfl trivial))|exact aI rfl (aI rfl (aI rfl (aI rfl trivial)))) (aI ?_ ?_)))
          · refine⟨i+1,?_,rfl,hlt,rfl⟩
            rw[htk]
            cases (l.take i).contains (x:Int)<;>rw[E8 hlt (by omega)]<;>simp
          · rw[E8 hlt (by omega)]
            simp
            omega
        · have aQ:i=l.length:=by simp at aP;omega
          subst aQ
          rw[List.take_length]
          refine aI (λaR=>?_) (λaR=>?_)
          · have aK:l.contains (x:Int)=false:=by simpa using aR
            have call:∀(k2:Hp) (g3 o3 c3 n3:Nat),New j1 hi k2 [.slice (some ⟨g3,o3,none⟩) n3 c3] (l ++ [(x:Int)])->Tr Tryz.prog 249 #[.slice (some ⟨g3,o3,none⟩) n3 c3,ptr bn 0,ptr bo 0,ptr bm 0] k2 λv h'=>∃ g',v = .tuple #[]/\PS hb bo g' h' ((acc++(List.range x).flatMap λx:Nat=>bif l.contains (x:Int)then []else L5 n k (l ++ [(x:Int)]))++L5 n k (l ++ [(x:Int)]))/\Kp bo g1 k2 h' g' :=
              λk2 g3 o3 c3 n3 w3=>e0a hb bn bo bm n aX tyn tym hno hmo hbn hbm k (l ++ [(x:Int)]) _ hi k2 g1 _ _ _ (by simp;omega) (l0c hacc hxl) aM w3.sub w3
            have fin:∀ k2 h2 g4,Sub hi k2->PS hb bo g4 h2 ((acc++(List.range x).flatMap λx:Nat=>bif l.contains (x:Int)then []else L5 n k (l ++ [(x:Int)]))++L5 n k (l ++ [(x:Int)]))->Kp bo g1 k2 h2 g4 ->
                ∃(x':Nat) (g':Nat),[Value.int .i64 (IntKind.i64.wrap ((x:Int)+1))] = [.int .i64 x']/\([]:List (List (List Value))) = []/\x'<=n /\
                  PS hb bo g' h2 (acc++(List.range x').flatMap λx:Nat=>bif l.contains (x:Int)then []else L5 n k (l ++ [(x:Int)]))/\Kp bo g h h2 g':=λk2 h2 g4 aS q3 q4=>by
              refine⟨x+1,g4,by rw[E8 hxl (by omega)],rfl,hxl,?_,?_,λb ob aU aV hx=>?_,λb hx=>?_⟩
              · rw[T04,aK,←List.append_assoc];exact q3
              · rcases q4.1 with e|e
                · rw[e];exact aJ.1
                · refine .inr ?_
                  cases hh:h g4 with
                  |none=>rfl
                  |some z =>
                    exfalso
                    have hz:hi g4≠none:=aJ.2.2 g4 (by rw[hh];simp)
                    obtain⟨z2,aT⟩:=Option.ne_none_iff_exists'.1 hz
                    rw[aS _ _ aT]at e;cases e
              · refine q4.2.1 b ob aU (λe=>?_) (aS _ _ (aJ.2.1 b ob aU aV hx))
                rcases aJ.1 with e4|e4
                · exact aV (e.trans e4)
                · rw[←e]at e4;rw[hx]at e4;cases e4
              · refine q4.2.2 b ?_
                obtain⟨z2,aT⟩:=Option.ne_none_iff_exists'.1 (aJ.2.2 b hx)
                rw[aS _ _ aT];simp
            have finm:(match [Value.int .i64 (IntKind.i64.wrap ((x:Int)+1))]with | [.int _ x]=>((n:Int)-x).toNat|_=>0)<((n:Int)-(x:Int)).toNat:=by
              rw[E8 hxl (by omega)]
              simp
              omega
            refine Or.inr (Or.inr (Or.inl (aI (aI (by kernel_rfl) (by kernel_rfl)) ?_)))
            refine Or.inr ?_
            refine Or.inr ?_
            refine Or.inr ?_
            refine Or.inr ?_
            refine Or.inr ?_
            refine Or.inr (eX 99 (eX 0 (aI rfl ?_)))
            refine aI ?_ ?_
            · skip
              refine eX (Value.func (.func 249) #[] #[ptr bn 0,ptr bo 0,ptr bm 0]) (aI ⟨rfl,by simp[Hp.cell,(hm)]⟩ ?_)
              refine aI trivial (aI (by first|exact trivial|exact rfl) ?_)
              refine aI ?_ ?_
              · skip
                refine Tr.mono (M5 _ _ _ _ _ rl _ (T08 aN)) ?_
                rintro vc k1 ⟨g2,n2,c2,rfl,w2⟩
                have aL:=w2.sub
                obtain⟨rfl,_⟩:=Sl.len w2.r
                refine aI trivial (aI (by first|exact trivial|exact rfl) ?_)
                refine aI ?_ ?_
                · skip
                  refine aI trivial (aI (by first|exact trivial|exact rfl) ?_)
                  refine aI ?_ ?_
                  · skip
                    obtain⟨aA,aB,aC,aD⟩:=New.app w2 (Sub.refl _)
                    refine eX aA (aI aB (aI (by rw[aC];show _*_<=_;simp;omega) ?_))
                    intro v3 k2 aF
                    obtain⟨w3,g3,o3,n3,c3,rfl⟩:=aD _ [x] _ _ _ (F3.ofPlain (B01 _) (show F2 (Wp.int.R k1) [[.int .i64 x]] [x] from⟨⟨rfl,ix⟩,trivial⟩)) P2.ofPlain aF
                    refine aI trivial (aI (by first|exact trivial|exact rfl) ?_)
                    refine aI ?_ ?_
                    · skip
                      refine Tr.mono (call _ _ _ _ _ w3) ?_
                      intro v h2 hpost
                      obtain⟨g4,rfl,hpost⟩:=hpost
                      refine aI trivial (aI (by first|exact trivial|exact rfl) ?_)
                      refine aI rfl (aI (by first|exact trivial|exact aI rfl trivial|exact aI rfl (aI rfl trivial)|exact aI rfl (aI rfl (aI rfl trivial))|exact aI rfl (aI rfl (aI rfl (aI rfl trivial)))) (aI (by first|exact trivial|exact aI rfl trivial|exact aI rfl (aI rfl trivial)|exact aI rfl (aI rfl (aI rfl trivial))|exact aI rfl (aI rfl (aI rfl (aI rfl trivial)))) (aI ?_ ?_)))
                      · exact fin _ _ _ w3.sub hpost.1 hpost.2
                      · exact finm
                    exact trivial
                  exact trivial
                exact trivial
              refine aI ?_ ?_
              · skip
                refine aI trivial (aI (by first|exact trivial|exact rfl) ?_)
                refine aI ?_ ?_
                · skip
                  refine Tr.mono (M5 _ _ _ _ _ rl _ (T08 aN)) ?_
                  rintro vc k1 ⟨g2,n2,c2,rfl,w2⟩
                  have aL:=w2.sub
                  obtain⟨rfl,_⟩:=Sl.len w2.r
                  refine aI trivial (aI (by first|exact trivial|exact rfl) ?_)
                  refine aI ?_ ?_
                  · skip
                    obtain⟨aA,aB,aC,aD⟩:=New.app w2 (Sub.refl _)
                    refine eX aA (aI aB (aI (by rw[aC];show _*_<=_;simp;omega) ?_))
                    intro v3 k2 aF
                    obtain⟨w3,g3,o3,n3,c3,rfl⟩:=aD _ [x] _ _ _ (F3.ofPlain (B01 _) (show F2 (Wp.int.R k1) [[.int .i64 x]] [x] from⟨⟨rfl,ix⟩,trivial⟩)) P2.ofPlain aF
                    refine aI trivial (aI (by first|exact trivial|exact rfl) ?_)
                    refine aI ?_ ?_
                    · skip
                      refine Tr.mono (call _ _ _ _ _ w3) ?_
                      intro v h2 hpost
                      obtain⟨g4,rfl,hpost⟩:=hpost
                      refine aI trivial (aI (by first|exact trivial|exact rfl) ?_)
                      refine aI rfl (aI (by first|exact trivial|exact aI rfl trivial|exact aI rfl (aI rfl trivial)|exact aI rfl (aI rfl (aI rfl trivial))|exact aI rfl (aI rfl (aI rfl (aI rfl trivial)))) (aI (by first|exact trivial|exact aI rfl trivial|exact aI rfl (aI rfl trivial)|exact aI rfl (aI rfl (aI rfl trivial))|exact aI rfl (aI rfl (aI rfl (aI rfl trivial)))) (aI ?_ ?_)))
                      · exact fin _ _ _ w3.sub hpost.1 hpost.2
                      · exact finm
                    exact trivial
                  exact trivial
                exact trivial
              exact trivial
            refine aI ?_ ?_
            · skip
              refine Tr.mono (M5 _ _ _ _ _ rl _ (T08 aN)) ?_
              rintro vc k1 ⟨g2,n2,c2,rfl,w2⟩
              have aL:=w2.sub
              obtain⟨rfl,_⟩:=Sl.len w2.r
              refine aI trivial (aI (by first|exact trivial|exact rfl) ?_)
              refine aI ?_ ?_
              · skip
                refine eX (Value.func (.func 249) #[] #[ptr bn 0,ptr bo 0,ptr bm 0]) (aI ⟨rfl,by simp[Hp.cell,(aL _ _ hm)]⟩ ?_)
                refine aI trivial (aI (by first|exact trivial|exact rfl) ?_)
                refine aI ?_ ?_
                · skip
                  refine aI trivial (aI (by first|exact trivial|exact rfl) ?_)
                  refine aI ?_ ?_
                  · skip
                    obtain⟨aA,aB,aC,aD⟩:=New.app w2 (Sub.refl _)
                    refine eX aA (aI aB (aI (by rw[aC];show _*_<=_;simp;omega) ?_))
                    intro v3 k2 aF
                    obtain⟨w3,g3,o3,n3,c3,rfl⟩:=aD _ [x] _ _ _ (F3.ofPlain (B01 _) (show F2 (Wp.int.R k1) [[.int .i64 x]] [x] from⟨⟨rfl,ix⟩,trivial⟩)) P2.ofPlain aF
                    refine aI trivial (aI (by first|exact trivial|exact rfl) ?_)
                    refine aI ?_ ?_
                    · skip
                      refine Tr.mono (call _ _ _ _ _ w3) ?_
                      intro v h2 hpost
                      obtain⟨g4,rfl,hpost⟩:=hpost
                      refine aI trivial (aI (by first|exact trivial|exact rfl) ?_)
                      refine aI rfl (aI (by first|exact trivial|exact aI rfl trivial|exact aI rfl (aI rfl trivial)|exact aI rfl (aI rfl (aI rfl trivial))|exact aI rfl (aI rfl (aI rfl (aI rfl trivial)))) (aI (by first|exact trivial|exact aI rfl trivial|exact aI rfl (aI rfl trivial)|exact aI rfl (aI rfl (aI rfl trivial))|exact aI rfl (aI rfl (aI rfl (aI rfl trivial)))) (aI ?_ ?_)))
                      · exact fin _ _ _ w3.sub hpost.1 hpost.2
                      · exact finm
                    exact trivial
                  exact trivial
                exact trivial
              refine aI ?_ ?_
              · skip
                refine aI trivial (aI (by first|exact trivial|exact rfl) ?_)
                refine aI ?_ ?_
                · skip
                  refine eX (Value.func (.func 249) #[] #[ptr bn 0,ptr bo 0,ptr bm 0]) (aI ⟨rfl,by simp[Hp.cell,(aL _ _ hm)]⟩ ?_)
                  refine aI trivial (aI (by first|exact trivial|exact rfl) ?_)
                  refine aI ?_ ?_
                  · skip
                    obtain⟨aA,aB,aC,aD⟩:=New.app w2 (Sub.refl _)
                    refine eX aA (aI aB (aI (by rw[aC];show _*_<=_;simp;omega) ?_))
                    intro v3 k2 aF
                    obtain⟨w3,g3,o3,n3,c3,rfl⟩:=aD _ [x] _ _ _ (F3.ofPlain (B01 _) (show F2 (Wp.int.R k1) [[.int .i64 x]] [x] from⟨⟨rfl,ix⟩,trivial⟩)) P2.ofPlain aF
                    refine aI trivial (aI (by first|exact trivial|exact rfl) ?_)
                    refine aI ?_ ?_
                    · skip
                      refine Tr.mono (call _ _ _ _ _ w3) ?_
                      intro v h2 hpost
                      obtain⟨g4,rfl,hpost⟩:=hpost
                      refine aI trivial (aI (by first|exact trivial|exact rfl) ?_)
                      refine aI rfl (aI (by first|exact trivial|exact aI rfl trivial|exact aI rfl (aI rfl trivial)|exact aI rfl (aI rfl (aI rfl trivial))|exact aI rfl (aI rfl (aI rfl (aI rfl trivial)))) (aI (by first|exact trivial|exact aI rfl trivial|exact aI rfl (aI rfl trivial)|exact aI rfl (aI rfl (aI rfl trivial))|exact aI rfl (aI rfl (aI rfl (aI rfl trivial)))) (aI ?_ ?_)))
                      · exact fin _ _ _ w3.sub hpost.1 hpost.2
                      · exact finm
                    exact trivial
                  exact trivial
                refine aI ?_ ?_
                · skip
                  obtain⟨aA,aB,aC,aD⟩:=New.app w2 (Sub.refl _)
                  refine eX aA (aI aB (aI (by rw[aC];show _*_<=_;simp;omega) ?_))
                  intro v3 k2 aF
                  obtain⟨w3,g3,o3,n3,c3,rfl⟩:=aD _ [x] _ _ _ (F3.ofPlain (B01 _) (show F2 (Wp.int.R k1) [[.int .i64 x]] [x] from⟨⟨rfl,ix⟩,trivial⟩)) P2.ofPlain aF
                  refine aI trivial (aI (by first|exact trivial|exact rfl) ?_)
                  refine aI ?_ ?_
                  · skip
                    refine eX (Value.func (.func 249) #[] #[ptr bn 0,ptr bo 0,ptr bm 0]) (aI ⟨rfl,by simp[Hp.cell,(w3.sub _ _ hm)]⟩ ?_)
                    refine aI trivial (aI (by first|exact trivial|exact rfl) ?_)
                    refine aI ?_ ?_
                    · skip
                      refine Tr.mono (call _ _ _ _ _ w3) ?_
                      intro v h2 hpost
                      obtain⟨g4,rfl,hpost⟩:=hpost
                      refine aI trivial (aI (by first|exact trivial|exact rfl) ?_)
                      refine aI rfl (aI (by first|exact trivial|exact aI rfl trivial|exact aI rfl (aI rfl trivial)|exact aI rfl (aI rfl (aI rfl trivial))|exact aI rfl (aI rfl (aI rfl (aI rfl trivial)))) (aI (by first|exact trivial|exact aI rfl trivial|exact aI rfl (aI rfl trivial)|exact aI rfl (aI rfl (aI rfl trivial))|exact aI rfl (aI rfl (aI rfl (aI rfl trivial)))) (aI ?_ ?_)))
                      · exact fin _ _ _ w3.sub hpost.1 hpost.2
                      · exact finm
                    exact trivial
                  exact trivial
                exact trivial
              exact trivial
            refine aI ?_ ?_
            · skip
              refine aI trivial (aI (by first|exact trivial|exact rfl) ?_)
              refine aI ?_ ?_
              · skip
                refine eX (Value.func (.func 249) #[] #[ptr bn 0,ptr bo 0,ptr bm 0]) (aI ⟨rfl,by simp[Hp.cell,(hm)]⟩ ?_)
                refine aI trivial (aI (by first|exact trivial|exact rfl) ?_)
                refine aI ?_ ?_
                · skip
                  refine Tr.mono (M5 _ _ _ _ _ rl _ (T08 aN)) ?_
                  rintro vc k1 ⟨g2,n2,c2,rfl,w2⟩
                  have aL:=w2.sub
                  obtain⟨rfl,_⟩:=Sl.len w2.r
                  refine aI trivial (aI (by first|exact trivial|exact rfl) ?_)
                  refine aI ?_ ?_
                  · skip
                    obtain⟨aA,aB,aC,aD⟩:=New.app w2 (Sub.refl _)
                    refine eX aA (aI aB (aI (by rw[aC];show _*_<=_;simp;omega) ?_))
                    intro v3 k2 aF
                    obtain⟨w3,g3,o3,n3,c3,rfl⟩:=aD _ [x] _ _ _ (F3.ofPlain (B01 _) (show F2 (Wp.int.R k1) [[.int .i64 x]] [x] from⟨⟨rfl,ix⟩,trivial⟩)) P2.ofPlain aF
                    refine aI trivial (aI (by first|exact trivial|exact rfl) ?_)
                    refine aI ?_ ?_
                    · skip
                      refine Tr.mono (call _ _ _ _ _ w3) ?_
                      intro v h2 hpost
                      obtain⟨g4,rfl,hpost⟩:=hpost
                      refine aI trivial (aI (by first|exact trivial|exact rfl) ?_)
                      refine aI rfl (aI (by first|exact trivial|exact aI rfl trivial|exact aI rfl (aI rfl trivial)|exact aI rfl (aI rfl (aI rfl trivial))|exact aI rfl (aI rfl (aI rfl (aI rfl trivial)))) (aI (by first|exact trivial|exact aI rfl trivial|exact aI rfl (aI rfl trivial)|exact aI rfl (aI rfl (aI rfl trivial))|exact aI rfl (aI rfl (aI rfl (aI rfl trivial)))) (aI ?_ ?_)))
                      · exact fin _ _ _ w3.sub hpost.1 hpost.2
                      · exact finm
                    exact trivial
                  exact trivial
                exact trivial
              refine aI ?_ ?_
              · skip
                refine Tr.mono (M5 _ _ _ _ _ rl _ (T08 aN)) ?_
                rintro vc k1 ⟨g2,n2,c2,rfl,w2⟩
                have aL:=w2.sub
                obtain⟨rfl,_⟩:=Sl.len w2.r
                refine aI trivial (aI (by first|exact trivial|exact rfl) ?_)
                refine aI ?_ ?_
                · skip
                  refine eX (Value.func (.func 249) #[] #[ptr bn 0,ptr bo 0,ptr bm 0]) (aI ⟨rfl,by simp[Hp.cell,(aL _ _ hm)]⟩ ?_)
                  refine aI trivial (aI (by first|exact trivial|exact rfl) ?_)
                  refine aI ?_ ?_
                  · skip
                    obtain⟨aA,aB,aC,aD⟩:=New.app w2 (Sub.refl _)
                    refine eX aA (aI aB (aI (by rw[aC];show _*_<=_;simp;omega) ?_))
                    intro v3 k2 aF
                    obtain⟨w3,g3,o3,n3,c3,rfl⟩:=aD _ [x] _ _ _ (F3.ofPlain (B01 _) (show F2 (Wp.int.R k1) [[.int .i64 x]] [x] from⟨⟨rfl,ix⟩,trivial⟩)) P2.ofPlain aF
                    refine aI trivial (aI (by first|exact trivial|exact rfl) ?_)
                    refine aI ?_ ?_
                    · skip
                      refine Tr.mono (call _ _ _ _ _ w3) ?_
                      intro v h2 hpost
                      obtain⟨g4,rfl,hpost⟩:=hpost
                      refine aI trivial (aI (by first|exact trivial|exact rfl) ?_)
                      refine aI rfl (aI (by first|exact trivial|exact aI rfl trivial|exact aI rfl (aI rfl trivial)|exact aI rfl (aI rfl (aI rfl trivial))|exact aI rfl (aI rfl (aI rfl (aI rfl trivial)))) (aI (by first|exact trivial|exact aI rfl trivial|exact aI rfl (aI rfl trivial)|exact aI rfl (aI rfl (aI rfl trivial))|exact aI rfl (aI rfl (aI rfl (aI rfl trivial)))) (aI ?_ ?_)))
                      · exact fin _ _ _ w3.sub hpost.1 hpost.2
                      · exact finm
                    exact trivial
                  exact trivial
                refine aI ?_ ?_
                · skip
                  obtain⟨aA,aB,aC,aD⟩:=New.app w2 (Sub.refl _)
                  refine eX aA (aI aB (aI (by rw[aC];show _*_<=_;simp;omega) ?_))
                  intro v3 k2 aF
                  obtain⟨w3,g3,o3,n3,c3,rfl⟩:=aD _ [x] _ _ _ (F3.ofPlain (B01 _) (show F2 (Wp.int.R k1) [[.int .i64 x]] [x] from⟨⟨rfl,ix⟩,trivial⟩)) P2.ofPlain aF
                  refine aI trivial (aI (by first|exact trivial|exact rfl) ?_)
                  refine aI ?_ ?_
                  · skip
                    refine eX (Value.func (.func 249) #[] #[ptr bn 0,ptr bo 0,ptr bm 0]) (aI ⟨rfl,by simp[Hp.cell,(w3.sub _ _ hm)]⟩ ?_)
                    refine aI trivial (aI (by first|exact trivial|exact rfl) ?_)
                    refine aI ?_ ?_
                    · skip
                      refine Tr.mono (call _ _ _ _ _ w3) ?_
                      intro v h2 hpost
                      obtain⟨g4,rfl,hpost⟩:=hpost
                      refine aI trivial (aI (by first|exact trivial|exact rfl) ?_)
                      refine aI rfl (aI (by first|exact trivial|exact aI rfl trivial|exact aI rfl (aI rfl trivial)|exact aI rfl (aI rfl (aI rfl trivial))|exact aI rfl (aI rfl (aI rfl (aI rfl trivial)))) (aI (by first|exact trivial|exact aI rfl trivial|exact aI rfl (aI rfl trivial)|exact aI rfl (aI rfl (aI rfl trivial))|exact aI rfl (aI rfl (aI rfl (aI rfl trivial)))) (aI ?_ ?_)))
                      · exact fin _ _ _ w3.sub hpost.1 hpost.2
                      · exact finm
                    exact trivial
                  exact trivial
                exact trivial
              exact trivial
            exact trivial
          · have aK:l.contains (x:Int)=true:=by simpa using aR
            refine aI rfl (aI (by first|exact trivial|exact aI rfl trivial|exact aI rfl (aI rfl trivial)|exact aI rfl (aI rfl (aI rfl trivial))|exact aI rfl (aI rfl (aI rfl (aI rfl trivial)))) (aI (by first|exact trivial|exact aI rfl trivial|exact aI rfl (aI rfl trivial)|exact aI rfl (aI rfl (aI rfl trivial))|exact aI rfl (aI rfl (aI rfl (aI rfl trivial)))) (aI ?_ ?_)))
            · refine⟨x+1,g1,by rw[E8 hxl (by omega)],rfl,hxl,?_,aJ⟩
              rw[T04,aK]
              simpa using aM
            · rw[E8 hxl (by omega)]
              simp
              omega
      · have bA:x=n:=by simp at aO;omega
        subst bA
        exact⟨g1,rfl,aM,aJ⟩
theorem N02(h:Hp)(p0:Int)(aL:J0 p0)(r:M1)(aA:I7 p0=some r):
  Tr Tryz.prog 153 #[.int .i64 p0] h λv h'=>∃(a0:Option Addr) (n0 c0:Nat),v = .slice a0 n0 c0/\D5.R h' [.slice a0 n0 c0] r/\Sub h h':=by
 unfold I7 at aA
 split at aA
 rotate_left
 ·cases aA
 rename_i hp
 obtain rfl:=oJ aA
 obtain⟨n,rfl⟩:=Int.eq_ofNat_of_zero_le (show 0<=p0 by omega)
 simp only[Int.toNat_natCast]at *
 refine D2 (args:=[.int .i64 n]) (fn:=Tryz.f153) rfl ?_
 intro bn hbn
 intro v1 k1 f1
 intro bo hbo
 intro bm hbm
 obtain⟨g0,cap,cur,rfl,aM,aN,_⟩:=f1.place
 have w0:New D5 (h.set bn (.cells #[.int .i64 n] 3 (0,0))) k1 [.slice (some ⟨g0,0,none⟩) 0 cap] [] :=
  K0.fresh (r:=j1) f1 (Bs:=[]) (show F3 (j1.W _) [] [] [] from trivial) (Sub.refl _) (P2.nil _)
 refine eX #[Value.nilFunc] ?_
 refine eX 199 ?_
 refine eX (0,0) ?_
 refine aI ⟨Hp.set_same _ _ _,rfl,Nat.zero_lt_one,rfl,trivial⟩ ?_
 have aC:=PS.start (Fo := .cells #[.func (.func 249) #[] #[ptr bn 0,ptr bo 0,ptr bm 0]] 199 (0,0)) (Z := .cells #[.nilFunc] 199 (0,0)) w0 hbo hbm
 have hmo:bm≠bo:=λe=>by rw[e,Hp.set_same]at hbm;cases hbm
 have hkm:k1 bm=none:=by rwa [Hp.set_other _ _ hmo]at hbm
 have hkn:k1 bn=some (.cells #[.int .i64 n] 3 (0,0)):=w0.sub _ _ (Hp.set_same _ _ _)
 have hno:bn≠bo:=λe=>by rw[e,hbo]at hkn;cases hkn
 have hnm:bn≠bm:=λe=>by rw[e,hkm]at hkn;cases hkn
 have hcm:Hp.cell (((k1.set bo (.cells #[.slice (some ⟨g0,0,none⟩) 0 cap] S04 (0,0))).set bm (.cells #[.nilFunc] 199 (0,0))).set bm (.cells #[.func (.func 249) #[] #[ptr bn 0,ptr bo 0,ptr bm 0]] 199 (0,0))) bm 0=some (.func (.func 249) #[] #[ptr bn 0,ptr bo 0,ptr bm 0]):=by
  unfold Hp.cell
  rw[Hp.set_same]
  rfl
 refine eX (Value.func (.func 249) #[] #[ptr bn 0,ptr bo 0,ptr bm 0]) (aI ⟨rfl,hcm⟩ ?_)
 refine Or.inl ?_
 intro v2 k2 f2
 have w2:New j1 _ k2 [v2] []:=K0.newInts (xs:=[]) f2 (by simp)
 obtain⟨a2,n2,c2,e2⟩:=Wp.slice_cell w2.r
 cases e2
 refine Tr.mono (e0a ((h.set bn (.cells #[.int .i64 n] 3 (0,0))).set bm (.cells #[.func (.func 249) #[] #[ptr bn 0,ptr bo 0,ptr bm 0]] 199 (0,0))) bn bo bm n (by omega) _ _ hno hmo (by rw[Hp.set_other _ _ hnm,Hp.set_same]) (Hp.set_same _ _ _) n [] [] _ k2 g0 a2 n2 c2 (by simp) ?_ aC w2.sub w2) ?_
 ·have aD:n=1∨n=2∨n=3:=by omega
  rcases aD with rfl|rfl|rfl<;>decide
 rintro v3 k3 ⟨g3,rfl,aB,aO⟩
 obtain⟨o3,c3,p3,r3⟩:=aB.rows
 refine eX (Value.slice (some ⟨g3,o3,none⟩) (L5 n n []).length c3) (aI ⟨rfl,by unfold Hp.cell;rw[p3];rfl⟩ ?_)
 refine⟨_,_,_,rfl,r3,λb x hx=>?_⟩
 have hsub:Sub h k1:=(Sub.set hbn).trans w0.sub
 have aF:b≠bo:=λe=>by
  have:=hsub _ _ hx
  rw[e,hbo]at this;cases this
 have aJ:b≠bm:=λe=>by
  have:=hsub _ _ hx
  rw[e,hkm]at this;cases this
 have aK:b≠bn:=λe=>by rw[e,hbn]at hx;cases hx
 exact aB.old aF (by rw[Hp.set_other _ _ aJ,Hp.set_other _ _ aK];exact hx)
end Go.Proofs.YtkjhghloldgioaaGreat
