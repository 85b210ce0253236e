/- Texts of the claim, joined: The walks of batch 1 and others. -/
import Derived.Test.YtkjhghloldgioaaGreatPart19
import Derived.Test.YtkjhghloldgioaaGreatChecked
import Derived.Test.YtkjhghloldgioaaGreatH35
import Derived.Test.YtkjhghloldgioaaGreatSI
import Derived.Test.YtkjhghloldgioaaGreatPart22
namespace Go.Proofs.YtkjhghloldgioaaGreat
open Go.H
set_option linter.unusedVariables false
set_option linter.unusedSimpArgs false
set_option maxRecDepth 10000
theorem c8(h:Hp)(p0:Int)(aB:O0 p0)(p1:Int)(aC:O0 p1)(p2:Int)(aD:O0 p2)(r:Bool)(aA:L5 p0 p1 p2=some r):
  Tr Tryz.prog 76 #[.int .i64 p0,.int .i64 p1,.int .i64 p2] h λv h'=>v = .bool r/\h'=h:=by
 unfold L5 at aA
 refine Tr.forget (D3 (args:=[.int .i64 p0,.int .i64 p1,.int .i64 p2]) (fn:=Tryz.f76) rfl ?_)
 obtain rfl:=oJ aA
 exact aI rfl (Sub.refl _)
theorem m00(h:Hp)(p0:Int)(aB:O0 p0)(p1:Int)(aC:O0 p1)(p2:Int)(aD:O0 p2)(r:Bool)(aA:P7 p0 p1 p2=some r):
  Tr Tryz.prog 78 #[.int .i64 p0,.int .i64 p1,.int .i64 p2] h λv h'=>v = .bool r/\h'=h:=by
 unfold P7 at aA
 refine Tr.forget (D3 (args:=[.int .i64 p0,.int .i64 p1,.int .i64 p2]) (fn:=Tryz.f78) rfl ?_)
 obtain rfl:=oJ aA
 exact aI rfl (Sub.refl _)
theorem p01(h:Hp)(p0:Int)(aD:O0 p0)(p1:Int)(aF:O0 p1)(r:Int)(aA:K6 p0 p1=some r):
  Tr Tryz.prog 342 #[.int .i64 p0,.int .i64 p1] h λv h'=>v = .int .i64 r/\h'=h:=by
 unfold K6 at aA
 refine Tr.forget (D3 (args:=[.int .i64 p0,.int .i64 p1]) (fn:=Tryz.f342) rfl ?_)
 refine ifB aA (λaB aA=>?_) λaB aA=>?_
 ·obtain rfl:=oJ aA
  exact aI rfl (Sub.refl _)
 ·refine ifB aA (λaC aA=>?_) λaC aA=>?_
  ·obtain rfl:=oJ aA
   exact aI rfl (Sub.refl _)
  ·obtain rfl:=oJ aA
   exact aI rfl (Sub.refl _)
theorem t0c(h:Hp)(aC:List Value)(p0:j0)(aV:D1.R h aC p0)(aD:List Value)(p1:H0)(aW:H1.R h aD p1)(r:Bool)(aA:a01 p0 p1=some r):
  Tr Tryz.prog 339 #[.agg aC.toArray,.agg aD.toArray] h λv h'=>v = .bool r/\h'=h:=by
 obtain⟨aN,aB,aF,aS,aG,aO,rfl,rfl,aH,aT,aJ⟩:=C0 aV
 obtain⟨rfl,aU⟩:=Sl.len aJ
 obtain⟨aP,aQ,aR,rfl,rfl,aK,aL,aM⟩:=U1 aW
 unfold a01 at aA
 dsimp only at aA
 refine Tr.forget (D3 (args:=[.agg #[.int .i64 aN,.int .i64 aB,.slice aF aO.length aG],.agg #[.int .i64 aP,.int .i64 aQ,.int .i64 aR]]) (fn:=Tryz.f339) rfl ?_)
 refine trV aA (c8 _ _ aK 0 (by decide) (IntKind.i64.wrap (aB-1)) (I0 _)) λx1 aA=>?_
 refine trG aA (λq=>c8 _ _ aM 0 (by decide) (IntKind.i64.wrap (aB-1)) (I0 _)) λx2 aA=>?_
 refine trG aA (λq=>c8 _ _ aL 1 (by decide) _ aH) λx3 aA=>?_
 obtain rfl:=oJ aA
 exact aI rfl (Sub.refl _)
theorem A02(h:Hp)(aR:List Value)(p0:H0)(bA:H1.R h aR p0)(aS:List Value)(p1:H0)(bB:H1.R h aS p1)(r:Int)(aJ:r7 p0 p1=some r):
  Tr Tryz.prog 314 #[.agg aR.toArray,.agg aS.toArray] h λv h'=>v = .int .i64 r/\h'=h:=by
 obtain⟨aB,aC,aD,rfl,rfl,aK,aL,aM⟩:=U1 bA
 obtain⟨aF,aG,aH,rfl,rfl,aN,aO,aP⟩:=U1 bB
 unfold r7 at aJ
 dsimp only at aJ
 refine Tr.forget (D3 (args:=[.agg #[.int .i64 aB,.int .i64 aC,.int .i64 aD],.agg #[.int .i64 aF,.int .i64 aG,.int .i64 aH]]) (fn:=Tryz.f314) rfl ?_)
 obtain⟨X1,aT,aJ⟩:=B0 aJ
 refine eX { vars:=[7],boxes:=[],owns:=[],fuel:=true } (eX (λvs os h'=>∃ u2,vs.tail = [.int .i64 u2]/\os = []/\Sub h h'/\O0 u2/\r6 aB aC aD aF aG aH (D2 vs) u2=some X1) (eX (λ_ _=>0) (aI (eX U0 ⟨0,rfl,rfl,(Sub.refl _),(by decide),aT⟩) ?_)))
 rintro _ m4 k3 ⟨u2,⟨⟩,⟨⟩,aQ,bU,aA⟩
 replace aA:r6 aB aC aD aF aG aH m4 u2=some X1:=aA
 obtain _|m4:=m4
 ·cases aA
 rw[r6.eq_2]at aA
 refine ifB aA (λbC aA=>?_) λbC aA=>?_
 ·refine Or.inl (aI (aI (by kernel_rfl) (by kernel_rfl)) ?_)
  obtain⟨x6,bD,aA⟩:=B0 aA
  obtain⟨bE,bF,bG,bH⟩:=j5 (F2.up (r:=Wp.int.toRp) aQ (show F2 (Wp.int.R h) ([[.int .i64 aB],[.int .i64 aC],[.int .i64 aD]]:List (List Value)) [aB,aC,aD] from⟨⟨rfl,aK⟩,⟨⟨rfl,aL⟩,⟨⟨rfl,aM⟩,trivial⟩⟩⟩)) bD
  refine aI bE ?_
  obtain⟨rfl,bV⟩:=bH
  refine eX _ (aI bG ?_)
  obtain⟨x7,bI,aA⟩:=B0 aA
  obtain⟨bJ,bK,bL,bM⟩:=j5 (F2.up (r:=Wp.int.toRp) aQ (show F2 (Wp.int.R h) ([[.int .i64 aF],[.int .i64 aG],[.int .i64 aH]]:List (List Value)) [aF,aG,aH] from⟨⟨rfl,aN⟩,⟨⟨rfl,aO⟩,⟨⟨rfl,aP⟩,trivial⟩⟩⟩)) bI
  refine aI bJ ?_
  obtain⟨rfl,bW⟩:=bM
  refine eX _ (aI bL ?_)
  refine ifB aA (λbN aA=>?_) λbN aA=>?_
  ·obtain rfl:=oJ aA
   try dsimp only[J5,K5]at aJ
   obtain rfl:=oJ aJ
   exact aI rfl aQ
  ·refine Or.inl (aI (aI (by kernel_rfl) (by kernel_rfl)) ?_)
   obtain⟨x9,bO,aA⟩:=B0 aA
   obtain⟨bP,bQ,bR,bS⟩:=j5 (F2.up (r:=Wp.int.toRp) aQ (show F2 (Wp.int.R h) ([[.int .i64 aB],[.int .i64 aC],[.int .i64 aD]]:List (List Value)) [aB,aC,aD] from⟨⟨rfl,aK⟩,⟨⟨rfl,aL⟩,⟨⟨rfl,aM⟩,trivial⟩⟩⟩)) bO
   refine aI bP ?_
   obtain⟨rfl,bX⟩:=bS
   refine eX _ (aI bR ?_)
   obtain⟨bY,aU,aA⟩:=B0 aA
   obtain⟨aV,aZ,aW,aX⟩:=j5 (F2.up (r:=Wp.int.toRp) aQ (show F2 (Wp.int.R h) ([[.int .i64 aF],[.int .i64 aG],[.int .i64 aH]]:List (List Value)) [aF,aG,aH] from⟨⟨rfl,aN⟩,⟨⟨rfl,aO⟩,⟨⟨rfl,aP⟩,trivial⟩⟩⟩)) aU
   refine aI aV ?_
   obtain⟨rfl,bT⟩:=aX
   refine eX _ (aI aW ?_)
   refine ifB aA (λaY aA=>?_) λaY aA=>?_
   ·obtain rfl:=oJ aA
    try dsimp only[J5,K5]at aJ
    obtain rfl:=oJ aJ
    exact aI rfl aQ
   ·exact A3 m4 ⟨(IntKind.i64.wrap (u2+1)),rfl,rfl,aQ,(I0 _),aA⟩
 ·obtain rfl:=oJ aA
  try dsimp only[C1,E1]at aJ
  obtain rfl:=oJ aJ
  exact aI rfl aQ
theorem E6(h:Hp)(aL:List Value)(p0:j0)(bE:D1.R h aL p0)(r:Bool)(aC:j4 p0=some r):
  Tr Tryz.prog 312 #[.agg aL.toArray] h λv h'=>v = .bool r/\h'=h:=by
 obtain⟨aG,aH,aM,bA,aN,aJ,rfl,rfl,aD,aF,aB⟩:=C0 bE
 obtain⟨rfl,bB⟩:=Sl.len aB
 unfold j4 at aC
 dsimp only at aC
 refine Tr.forget (D3 (args:=[.agg #[.int .i64 aG,.int .i64 aH,.slice aM aJ.length aN]]) (fn:=Tryz.f312) rfl ?_)
 obtain⟨X1,aX,aC⟩:=B0 aC
 refine eX { vars:=[3],boxes:=[],owns:=[],fuel:=true } (eX (λvs os h'=>∃ u2,vs.tail = [.int .i64 u2]/\os = []/\Sub h h'/\O0 u2/\O6 aJ aG aH (D2 vs) u2=some X1) (eX (λ_ _=>0) (aI (eX U0 ⟨0,rfl,rfl,(Sub.refl _),(by decide),aX⟩) ?_)))
 rintro _ m4 k3 ⟨u2,⟨⟩,⟨⟩,aK,cA,aA⟩
 replace aA:O6 aJ aG aH m4 u2=some X1:=aA
 obtain _|m4:=m4
 ·cases aA
 rw[O6.eq_2]at aA
 refine ifB aA (λbF aA=>?_) λbF aA=>?_
 ·refine Or.inl (aI (aI (by kernel_rfl) (by kernel_rfl)) ?_)
  refine ld aA (J0.mono aK aB) λx6 bG bH aA=>?_
  obtain⟨bI,bJ,bK,rfl,rfl,aO,aP,aQ⟩:=U1 bH
  try dsimp only at aA
  obtain⟨x7,bL,aA⟩:=B0 aA
  refine eX (.bool x7) (aI (t0c _ _ _ (l0 aD aF (J0.mono aK aB)) _ _ (T1 aO aP aQ) _  bL) ?_)
  obtain⟨x8,bM,aA⟩:=B0 aA
  obtain⟨bN,bC,bO⟩:=Sl.getG (r:=H1.toRp) (J0.mono aK aB) bM (by decide) (m0h k3)
  refine aI (λq=>(bC q).1) ?_
  obtain⟨bP,bQ,bR,rfl,rfl,aR,aS,aT⟩:=U1 bO
  try dsimp only at aA
  refine eX _ (aI (λq=>(bC q).2) ?_)
  obtain⟨x9,bS,aA⟩:=B0 aA
  obtain⟨bT,bD,bU⟩:=Sl.getG (r:=H1.toRp) (J0.mono aK aB) bS (by decide) (m0h k3)
  refine aI (λq=>(bD q).1) ?_
  obtain⟨bV,bW,bX,rfl,rfl,aU,aV,aW⟩:=U1 bU
  try dsimp only at aA
  refine eX _ (aI (λq=>(bD q).2) ?_)
  refine trG aA (λq=>A02 _ _ _ (T1 aR aS aT) _ _ (T1 aU aV aW)) λbY aA=>?_
  obtain⟨cC,aY,aA⟩:=B0 aA
  have bZ:O0 bY:=A2 aY
  refine ifB aA (λaZ aA=>?_) λaZ aA=>?_
  ·obtain rfl:=oJ aA
   try dsimp only[J5,K5]at aC
   obtain rfl:=oJ aC
   exact aI rfl aK
  ·exact A3 m4 ⟨(IntKind.i64.wrap (u2+1)),rfl,rfl,aK,(I0 _),aA⟩
 ·obtain rfl:=oJ aA
  try dsimp only[C1,E1]at aC
  refine trV aC (c8 _ _ aD 1 (by decide) 3 (by decide)) λcD aC=>?_
  refine trG aC (λq=>c8 _ _ aF 1 (by decide) 40 (by decide)) λcE aC=>?_
  obtain rfl:=oJ aC
  exact aI rfl aK
theorem Q00(h:Hp)(aA:List Value)(p0:j0)(aO:D1.R h aA p0)(p1:Int)(aP:O0 p1)(r:Bool)(aB:S4 p0 p1=some r):
  Tr Tryz.prog 290 #[.agg aA.toArray,.int .i64 p1] h λv h'=>v = .bool r/\h'=h:=by
 obtain⟨aH,aC,aD,aK,aF,aJ,rfl,rfl,aL,aM,aG⟩:=C0 aO
 obtain⟨rfl,aN⟩:=Sl.len aG
 unfold S4 at aB
 dsimp only at aB
 refine Tr.forget (D3 (args:=[.agg #[.int .i64 aH,.int .i64 aC,.slice aD aJ.length aF],.int .i64 p1]) (fn:=Tryz.f290) rfl ?_)
 refine trV aB (m00 _ _ aP 0 (by decide) (IntKind.i64.wrap (aC-1)) (I0 _)) λx1 aB=>?_
 obtain rfl:=oJ aB
 exact aI rfl (Sub.refl _)
theorem W05(h:Hp)(aF:List Value)(p0:j0)(aV:D1.R h aF p0)(aG:List Value)(p1:H0)(aW:H1.R h aG p1)(r:Bool)(aC:Y7 p0 p1=some r):
  Tr Tryz.prog 337 #[.agg aF.toArray,.agg aG.toArray] h λv h'=>v = .bool r/\h'=h:=by
 obtain⟨aN,aO,aH,aT,aJ,aP,rfl,rfl,aA,aD,aB⟩:=C0 aV
 obtain⟨rfl,aU⟩:=Sl.len aB
 obtain⟨aQ,aR,aS,rfl,rfl,aK,aL,aM⟩:=U1 aW
 unfold Y7 at aC
 dsimp only at aC
 refine Tr.forget (D3 (args:=[.agg #[.int .i64 aN,.int .i64 aO,.slice aH aP.length aJ],.agg #[.int .i64 aQ,.int .i64 aR,.int .i64 aS]]) (fn:=Tryz.f337) rfl ?_)
 refine trV aC (Q00 _ _ _ (l0 aA aD aB) _ aK) λx1 aC=>?_
 refine trG aC (λq=>Q00 _ _ _ (l0 aA aD aB) _ aM) λx2 aC=>?_
 refine trG aC (λq=>m00 _ _ aL 1 (by decide) _ aA) λx3 aC=>?_
 obtain rfl:=oJ aC
 exact aI rfl (Sub.refl _)
theorem B02(h:Hp)(aB:List Value)(p0:H0)(aR:H1.R h aB p0)(aC:List Value)(p1:H0)(aS:H1.R h aC p1)(r:Int)(aA:o8 p0 p1=some r):
  Tr Tryz.prog 316 #[.agg aB.toArray,.agg aC.toArray] h λv h'=>v = .int .i64 r/\h'=h:=by
 obtain⟨aL,aM,aN,rfl,rfl,aD,aF,aG⟩:=U1 aR
 obtain⟨aO,aP,aQ,rfl,rfl,aH,aJ,aK⟩:=U1 aS
 unfold o8 at aA
 dsimp only at aA
 refine Tr.forget (D3 (args:=[.agg #[.int .i64 aL,.int .i64 aM,.int .i64 aN],.agg #[.int .i64 aO,.int .i64 aP,.int .i64 aQ]]) (fn:=Tryz.f316) rfl ?_)
 refine trV aA (p01 _ _ aD _ aH) λx1 aA=>?_
 obtain⟨q2,aT,aA⟩:=B0 aA
 have aY:O0 x1:=A2 aT
 refine ifB aA (λaU aA=>?_) λaU aA=>?_
 ·obtain rfl:=oJ aA
  exact aI rfl (Sub.refl _)
 ·refine trV aA (p01 _ _ aF _ aJ) λx4 aA=>?_
  obtain⟨q5,aV,aA⟩:=B0 aA
  have aZ:O0 x4:=A2 aV
  refine ifB aA (λaW aA=>?_) λaW aA=>?_
  ·obtain rfl:=oJ aA
   exact aI rfl (Sub.refl _)
  ·refine trV aA (p01 _ _ aG _ aK) λx7 aA=>?_
   obtain⟨q8,aX,aA⟩:=B0 aA
   have bA:O0 x7:=A2 aX
   obtain rfl:=oJ aA
   exact aI rfl (Sub.refl _)
theorem G9(h:Hp)(aR:List Value)(p0:j0)(bH:D1.R h aR p0)(r:Bool)(aB:C6 p0=some r):
  Tr Tryz.prog 300 #[.agg aR.toArray] h λv h'=>v = .bool r/\h'=h:=by
 obtain⟨aK,aL,aS,bB,aT,aM,rfl,rfl,aD,aF,aC⟩:=C0 bH
 obtain⟨rfl,bC⟩:=Sl.len aC
 unfold C6 at aB
 dsimp only at aB
 refine Tr.forget (D3 (args:=[.agg #[.int .i64 aK,.int .i64 aL,.slice aS aM.length aT]]) (fn:=Tryz.f300) rfl ?_)
 refine trV aB (m00 _ _ aD 1 (by decide) 3 (by decide)) λx1 aB=>?_
 refine trG aB (λq=>m00 _ _ aF 1 (by decide) 40 (by decide)) λx2 aB=>?_
 refine ifB aB (λbI aB=>?_) λbI aB=>?_
 ·obtain rfl:=oJ aB
  exact aI rfl (Sub.refl _)
 ·obtain⟨X4,aV,aB⟩:=B0 aB
  refine eX { vars:=[24],boxes:=[],owns:=[],fuel:=true } (eX (λvs os h'=>∃ u5,vs.tail = [.int .i64 u5]/\os = []/\Sub h h'/\O0 u5/\P6 aM aK aL (D2 vs) u5=some X4) (eX (λ_ _=>0) (aI (eX U0 ⟨0,rfl,rfl,(Sub.refl _),(by decide),aV⟩) ?_)))
  rintro _ m7 k6 ⟨u5,⟨⟩,⟨⟩,aQ,bS,aA⟩
  replace aA:P6 aM aK aL m7 u5=some X4:=aA
  obtain _|m7:=m7
  ·cases aA
  rw[P6.eq_2]at aA
  refine ifB aA (λbJ aA=>?_) λbJ aA=>?_
  ·refine ld aA (J0.mono aQ aC) λx9 bK bL aA=>?_
   obtain⟨bM,bN,bO,rfl,rfl,aG,aH,aJ⟩:=U1 bL
   try dsimp only at aA
   refine Or.inl (aI (aI (by kernel_rfl) (by kernel_rfl)) ?_)
   obtain⟨bP,aW,aA⟩:=B0 aA
   refine eX (.bool bP) (aI (W05 _ _ _ (l0 aD aF (J0.mono aQ aC)) _ _ (T1 aG aH aJ) _  aW) ?_)
   obtain⟨bT,aX,aA⟩:=B0 aA
   obtain⟨bD,aU,aY⟩:=Sl.getG (r:=H1.toRp) (J0.mono aQ aC) aX (by decide) (m0h k6)
   refine aI (λq=>(aU q).1) ?_
   obtain⟨bE,bF,bG,rfl,rfl,aN,aO,aP⟩:=U1 aY
   try dsimp only at aA
   refine eX _ (aI (λq=>(aU q).2) ?_)
   refine trG aA (λq=>B02 _ _ _ (T1 aN aO aP) _ _ (T1 aG aH aJ)) λbQ aA=>?_
   obtain⟨bU,aZ,aA⟩:=B0 aA
   have bR:O0 bQ:=A2 aZ
   refine ifB aA (λbA aA=>?_) λbA aA=>?_
   ·obtain rfl:=oJ aA
    try dsimp only[J5,K5]at aB
    obtain rfl:=oJ aB
    exact aI rfl aQ
   ·exact A3 m7 ⟨(IntKind.i64.wrap (u5+1)),rfl,rfl,aQ,(I0 _),aA⟩
  ·obtain rfl:=oJ aA
   try dsimp only[C1,E1]at aB
   obtain rfl:=oJ aB
   exact aI rfl aQ
theorem R00(h:Hp)(aR:Option Addr)(bM aS:Nat)(p0:Y0)(aG:M4.R h [.slice aR bM aS] p0)(p1:Int)(aF:O0 p1)(r:Y0)(aD:Q7 p0 p1=some r):
  Tr Tryz.prog 336 #[.slice aR bM aS,.int .i64 p1] h λv h'=>∃(a0:Option Addr) (n0 c0:Nat),v = .slice a0 n0 c0/\M4.R h' [.slice a0 n0 c0] r/\Sub h h':=by
 obtain⟨rfl,bW⟩:=Sl.len aG
 unfold Q7 at aD
 refine D3 (args:=[.slice aR p0.length aS,.int .i64 p1]) (fn:=Tryz.f336) rfl ?_
 obtain⟨X1,aT,aD⟩:=B0 aD
 refine eX { vars:=[6,7],boxes:=[],owns:=[0],fuel:=true } (eX (λvs os h'=>∃ u2 u3 aH u4,vs.tail = [.bool u2,.int .i64 u3]/\os = [aH]/\Sub h h'/\O0 u3/\F2 (Wp.int.R h') aH u4/\l4 p0 p1 (D2 vs) u2 u3 u4=some X1) (eX (λ_ _=>0) (aI (eX U0 ⟨false,0,[],([]:Y0),rfl,rfl,(Sub.refl _),(by decide),(show F2 (Wp.int.R h) ([]:List (List Value)) ([]:Y0) from trivial),aT⟩) ?_)))
 rintro _ _ aH m6 k5 ⟨u2,u3,bN,u4,⟨⟩,⟨⟩,aC,bX,aB,aA⟩
 replace aA:l4 p0 p1 m6 u2 u3 u4=some X1:=aA
 obtain _|m6:=m6
 ·cases aA
 rw[l4.eq_2]at aA
 refine ifB aA (λbO aA=>?_) λbO aA=>?_
 ·refine ldI aA (M4.mono aC aG) λx8 bY aA=>?_
  refine ifB aA (λbP aA=>?_) λbP aA=>?_
  ·refine ldI aA (M4.mono aC aG) λbZ bQ aA=>?_
   refine ifB aA (λaU aA=>?_) λaU aA=>?_
   ·obtain⟨cA,aV,aA⟩:=B0 aA
    refine aI (J2 aV (by first|rw[F2.length aB,F2.length (show F2 (Wp.int.R k5) ([[.int .i64 p1]]:List (List Value)) [p1] from⟨⟨rfl,aF⟩,trivial⟩)]|exact congrArg (·+1) (F2.length aB))) ?_
    refine ldI aA (M4.mono aC aG) λaJ aN aA=>?_
    obtain⟨cC,aW,aA⟩:=B0 aA
    refine aI (J2 aW (by first|rw[F2.length (F2.append aB (show F2 (Wp.int.R k5) ([[.int .i64 p1]]:List (List Value)) [p1] from⟨⟨rfl,aF⟩,trivial⟩)),F2.length (show F2 (Wp.int.R k5) ([[.int .i64 aJ]]:List (List Value)) [aJ] from⟨⟨rfl,aN⟩,trivial⟩)]|exact congrArg (·+1) (F2.length (F2.append aB (show F2 (Wp.int.R k5) ([[.int .i64 p1]]:List (List Value)) [p1] from⟨⟨rfl,aF⟩,trivial⟩))))) ?_
    exact A3 m6 ⟨true,(IntKind.i64.wrap (u3+1)),((aH++([[.int .i64 p1]]:List (List Value)))++([[.int .i64 aJ]]:List (List Value))),((u4 ++ [p1]) ++ [aJ]),rfl,rfl,aC,(I0 _),(F2.append (F2.append aB (show F2 (Wp.int.R k5) ([[.int .i64 p1]]:List (List Value)) [p1] from⟨⟨rfl,aF⟩,trivial⟩)) (show F2 (Wp.int.R k5) ([[.int .i64 aJ]]:List (List Value)) [aJ] from⟨⟨rfl,aN⟩,trivial⟩)),aA⟩
   ·refine ldI aA (M4.mono aC aG) λaK aO aA=>?_
    obtain⟨cD,aX,aA⟩:=B0 aA
    refine aI (J2 aX (by first|rw[F2.length aB,F2.length (show F2 (Wp.int.R k5) ([[.int .i64 aK]]:List (List Value)) [aK] from⟨⟨rfl,aO⟩,trivial⟩)]|exact congrArg (·+1) (F2.length aB))) ?_
    exact A3 m6 ⟨true,(IntKind.i64.wrap (u3+1)),(aH++([[.int .i64 aK]]:List (List Value))),(u4 ++ [aK]),rfl,rfl,aC,(I0 _),(F2.append aB (show F2 (Wp.int.R k5) ([[.int .i64 aK]]:List (List Value)) [aK] from⟨⟨rfl,aO⟩,trivial⟩)),aA⟩
  ·refine ldI aA (M4.mono aC aG) λcE bR aA=>?_
   refine ifB aA (λaY aA=>?_) λaY aA=>?_
   ·obtain⟨cG,aZ,aA⟩:=B0 aA
    refine aI (J2 aZ (by first|rw[F2.length aB,F2.length (show F2 (Wp.int.R k5) ([[.int .i64 p1]]:List (List Value)) [p1] from⟨⟨rfl,aF⟩,trivial⟩)]|exact congrArg (·+1) (F2.length aB))) ?_
    refine ldI aA (M4.mono aC aG) λaL aP aA=>?_
    obtain⟨cH,bA,aA⟩:=B0 aA
    refine aI (J2 bA (by first|rw[F2.length (F2.append aB (show F2 (Wp.int.R k5) ([[.int .i64 p1]]:List (List Value)) [p1] from⟨⟨rfl,aF⟩,trivial⟩)),F2.length (show F2 (Wp.int.R k5) ([[.int .i64 aL]]:List (List Value)) [aL] from⟨⟨rfl,aP⟩,trivial⟩)]|exact congrArg (·+1) (F2.length (F2.append aB (show F2 (Wp.int.R k5) ([[.int .i64 p1]]:List (List Value)) [p1] from⟨⟨rfl,aF⟩,trivial⟩))))) ?_
    exact A3 m6 ⟨true,(IntKind.i64.wrap (u3+1)),((aH++([[.int .i64 p1]]:List (List Value)))++([[.int .i64 aL]]:List (List Value))),((u4 ++ [p1]) ++ [aL]),rfl,rfl,aC,(I0 _),(F2.append (F2.append aB (show F2 (Wp.int.R k5) ([[.int .i64 p1]]:List (List Value)) [p1] from⟨⟨rfl,aF⟩,trivial⟩)) (show F2 (Wp.int.R k5) ([[.int .i64 aL]]:List (List Value)) [aL] from⟨⟨rfl,aP⟩,trivial⟩)),aA⟩
   ·refine ldI aA (M4.mono aC aG) λaM aQ aA=>?_
    obtain⟨cI,bB,aA⟩:=B0 aA
    refine aI (J2 bB (by first|rw[F2.length aB,F2.length (show F2 (Wp.int.R k5) ([[.int .i64 aM]]:List (List Value)) [aM] from⟨⟨rfl,aQ⟩,trivial⟩)]|exact congrArg (·+1) (F2.length aB))) ?_
    exact A3 m6 ⟨u2,(IntKind.i64.wrap (u3+1)),(aH++([[.int .i64 aM]]:List (List Value))),(u4 ++ [aM]),rfl,rfl,aC,(I0 _),(F2.append aB (show F2 (Wp.int.R k5) ([[.int .i64 aM]]:List (List Value)) [aM] from⟨⟨rfl,aQ⟩,trivial⟩)),aA⟩
 ·obtain rfl:=oJ aA
  try dsimp only[C1,E1]at aD
  refine ifB aD (λbC aD=>?_) λbC aD=>?_
  ·obtain⟨cJ,bD,aD⟩:=B0 aD
   refine aI (J2 bD (by first|rw[F2.length aB,F2.length (show F2 (Wp.int.R k5) ([[.int .i64 p1]]:List (List Value)) [p1] from⟨⟨rfl,aF⟩,trivial⟩)]|exact congrArg (·+1) (F2.length aB))) ?_
   intro cK cL bS
   obtain⟨bE,bF,rfl,bG,bH,bT⟩:=O1.out (r:=Wp.int.toRp) bS (F2.append aB (show F2 (Wp.int.R k5) ([[.int .i64 p1]]:List (List Value)) [p1] from⟨⟨rfl,aF⟩,trivial⟩))
   obtain rfl:=oJ aD
   exact⟨bE,((u4 ++ [p1])).length,bF,rfl,bG,(aC.trans bH)⟩
  ·intro cM cN bU
   obtain⟨bI,bJ,rfl,bK,bL,bV⟩:=O1.out (r:=Wp.int.toRp) bU aB
   obtain rfl:=oJ aD
   exact⟨bI,u4.length,bJ,rfl,bK,(aC.trans bL)⟩
theorem K01(h:Hp)(aD:Option Addr)(aH aF:Nat)(p0:Y0)(aJ:M4.R h [.slice aD aH aF] p0)(p1:Int)(aM:O0 p1)(r:Bool)(aB:s8 p0 p1=some r):
  Tr Tryz.prog 246 #[.slice aD aH aF,.int .i64 p1] h λv h'=>v = .bool r/\h'=h:=by
 obtain⟨rfl,aN⟩:=Sl.len aJ
 unfold s8 at aB
 refine Tr.forget (D3 (args:=[.slice aD p0.length aF,.int .i64 p1]) (fn:=Tryz.f246) rfl ?_)
 obtain⟨X1,aG,aB⟩:=B0 aB
 refine eX { vars:=[5],boxes:=[],owns:=[],fuel:=true } (eX (λvs os h'=>∃ u2,vs.tail = [.int .i64 u2]/\os = []/\Sub h h'/\O0 u2/\Z7 p0 p1 (D2 vs) u2=some X1) (eX (λ_ _=>0) (aI (eX U0 ⟨0,rfl,rfl,(Sub.refl _),(by decide),aG⟩) ?_)))
 rintro _ m4 k3 ⟨u2,⟨⟩,⟨⟩,aC,aO,aA⟩
 replace aA:Z7 p0 p1 m4 u2=some X1:=aA
 obtain _|m4:=m4
 ·cases aA
 rw[Z7.eq_2]at aA
 refine ifB aA (λaK aA=>?_) λaK aA=>?_
 ·refine ldI aA (M4.mono aC aJ) λx6 aP aA=>?_
  refine ifB aA (λaL aA=>?_) λaL aA=>?_
  ·obtain rfl:=oJ aA
   try dsimp only[J5,K5]at aB
   obtain rfl:=oJ aB
   exact aI rfl aC
  ·exact A3 m4 ⟨(IntKind.i64.wrap (u2+1)),rfl,rfl,aC,(I0 _),aA⟩
 ·obtain rfl:=oJ aA
  try dsimp only[C1,E1]at aB
  obtain rfl:=oJ aB
  exact aI rfl aC
theorem s09(h:Hp)(aK:List Value)(p0:j0)(bW:D1.R h aK p0)(p1:Int)(cJ:O0 p1)(p2:Int)(cK:O0 p2)(r:Y0)(aH:A9 p0 p1 p2=some r):
  Tr Tryz.prog 297 #[.agg aK.toArray,.int .i64 p1,.int .i64 p2] h λv h'=>∃(a0:Option Addr) (n0 c0:Nat),v = .slice a0 n0 c0/\M4.R h' [.slice a0 n0 c0] r/\Sub h h':=by
 obtain⟨aT,aU,aL,bL,aM,aD,rfl,rfl,bM,bN,aC⟩:=C0 bW
 obtain⟨rfl,bO⟩:=Sl.len aC
 unfold A9 at aH
 dsimp only at aH
 refine D3 (args:=[.agg #[.int .i64 aT,.int .i64 aU,.slice aL aD.length aM],.int .i64 p1,.int .i64 p2]) (fn:=Tryz.f297) rfl ?_
 obtain⟨X5,aV,aH⟩:=B0 aH
 refine eX { vars:=[7,8],boxes:=[],owns:=[],fuel:=true,pubs:=[7,10] } (eX (λvs os h'=>∃(aN:Option Addr) (aW aO:Nat) (u6:Y0) (u7:Int),vs.tail = [.slice aN aW aO,.int .i64 u7]/\os = []/\Sub h h'/\M4.R h' [.slice aN aW aO] u6/\O0 u7/\T3 aD p2 p1 (D2 vs) u6 u7=some X5) (eX (λ_ _=>0) ?_))
 intro v1 k2 f3
 obtain⟨bX,bY,rfl,bZ,cA,cL⟩:=O1.out (r:=Wp.int.toRp) f3 (show F2 (Wp.int.R h) ([]:List (List Value)) ([]:Y0) from trivial)
 refine aI (eX U0 ⟨bX,(([]:Y0)).length,bY,([]:Y0),0,rfl,rfl,cA,bZ,(by decide),aV⟩) ?_
 rintro _ _ m9 k8 ⟨aN,aW,aO,u6,u7,⟨⟩,⟨⟩,aJ,aP,cM,aA⟩
 replace aA:T3 aD p2 p1 m9 u6 u7=some X5:=aA
 obtain _|m9:=m9
 ·cases aA
 rw[T3.eq_2]at aA
 obtain⟨rfl,cN⟩:=Sl.len aP
 refine ifB aA (λaX aA=>?_) λaX aA=>?_
 ·refine ld aA (J0.mono aJ aC) λcO bP aY aA=>?_
  obtain⟨bQ,bR,bS,rfl,rfl,aB,aZ,aF⟩:=U1 aY
  try dsimp only at aA
  refine ifB aA (λbA aA=>?_) λbA aA=>?_
  ·refine trM aA (R00 _ _ _ _ _ aP _ aF) ?_
   rintro bT aA cP cQ ⟨bB,cC,bC,rfl,aG,aQ⟩
   obtain⟨rfl,cD⟩:=Sl.len aG
   refine ifB aA (λbD aA=>?_) λbD aA=>?_
   ·refine trM aA (R00 _ _ _ _ _ aG _ aB) ?_
    rintro bU aA cR cS ⟨bE,cE,bF,rfl,aR,bG⟩
    obtain⟨rfl,cG⟩:=Sl.len aR
    exact A3 m9 ⟨bE,bU.length,bF,bU,(IntKind.i64.wrap (u7+1)),rfl,rfl,((aJ.trans aQ).trans bG),aR,(I0 _),aA⟩
   ·exact A3 m9 ⟨bB,bT.length,bC,bT,(IntKind.i64.wrap (u7+1)),rfl,rfl,(aJ.trans aQ),aG,(I0 _),aA⟩
  ·refine ifB aA (λbH aA=>?_) λbH aA=>?_
   ·refine trM aA (R00 _ _ _ _ _ aP _ aB) ?_
    rintro bV aA cT cU ⟨bI,cH,bJ,rfl,aS,bK⟩
    obtain⟨rfl,cI⟩:=Sl.len aS
    exact A3 m9 ⟨bI,bV.length,bJ,bV,(IntKind.i64.wrap (u7+1)),rfl,rfl,(aJ.trans bK),aS,(I0 _),aA⟩
   ·exact A3 m9 ⟨aN,u6.length,aO,u6,(IntKind.i64.wrap (u7+1)),rfl,rfl,aJ,aP,(I0 _),aA⟩
 ·obtain rfl:=oJ aA
  try dsimp only[C1,E1]at aH
  obtain rfl:=oJ aH
  exact⟨aN,u6.length,aO,rfl,aP,aJ⟩
theorem n7(h:Hp)(aC:List Value)(p0:j0)(aQ:D1.R h aC p0)(p1:Int)(aR:O0 p1)(p2:Int)(aS:O0 p2)(r:Int)(aA:A4 p0 p1 p2=some r):
  Tr Tryz.prog 214 #[.agg aC.toArray,.int .i64 p1,.int .i64 p2] h λv h'=>v = .int .i64 r/\h'=h:=by
 obtain⟨aJ,aK,aD,aM,aF,aL,rfl,rfl,aG,aH,aB⟩:=C0 aQ
 obtain⟨rfl,aN⟩:=Sl.len aB
 unfold A4 at aA
 dsimp only at aA
 refine Tr.forget (D3 (args:=[.agg #[.int .i64 aJ,.int .i64 aK,.slice aD aL.length aF],.int .i64 p1,.int .i64 p2]) (fn:=Tryz.f214) rfl ?_)
 refine trM aA (s09 _ _ _ (l0 aG aH aB) _ aR _ aS) ?_
 rintro x1 aA v3 k2 ⟨aU,aV,aW,rfl,aO,aP⟩
 obtain⟨rfl,aX⟩:=Sl.len aO
 refine ifB aA (λaT aA=>?_) λaT aA=>?_
 ·obtain rfl:=oJ aA
  exact aI rfl aP
 ·refine ldI aA aO λx5 aY aA=>?_
  obtain rfl:=oJ aA
  exact aI rfl aP
theorem j01(h:Hp)(aM:List Value)(p0:j0)(bN:D1.R h aM p0)(r:Bool)(aF:A7 p0=some r):
  Tr Tryz.prog 293 #[.agg aM.toArray] h λv h'=>v = .bool r/\h'=h:=by
 obtain⟨aJ,aK,aN,bD,aO,aD,rfl,rfl,aG,aH,aB⟩:=C0 bN
 obtain⟨rfl,bE⟩:=Sl.len aB
 unfold A7 at aF
 dsimp only at aF
 refine Tr.forget (D3 (args:=[.agg #[.int .i64 aJ,.int .i64 aK,.slice aN aD.length aO]]) (fn:=Tryz.f293) rfl ?_)
 obtain⟨X1,aR,aF⟩:=B0 aF
 refine eX { vars:=[3],boxes:=[],owns:=[],fuel:=true } (eX (λvs os h'=>∃ u2,vs.tail = [.int .i64 u2]/\os = []/\Sub h h'/\O0 u2/\Y4 aD aJ aK (D2 vs) u2=some X1) (eX (λ_ _=>0) (aI (eX U0 ⟨0,rfl,rfl,(Sub.refl _),(by decide),aR⟩) ?_)))
 rintro _ m4 k3 ⟨u2,⟨⟩,⟨⟩,aL,bP,aC⟩
 replace aC:Y4 aD aJ aK m4 u2=some X1:=aC
 obtain _|m4:=m4
 ·cases aC
 rw[Y4.eq_2]at aC
 refine trG aC (λq=>E6 _ _ _ (l0 aG aH (J0.mono aL aB))) λx5 aC=>?_
 refine ifB aC (λbO aC=>?_) λbO aC=>?_
 ·obtain⟨X7,aS,aC⟩:=B0 aC
  refine eX { vars:=[4],boxes:=[],owns:=[],fuel:=true } (eX (λvs os h'=>∃ u8,vs.tail = [.int .i64 u8]/\os = []/\Sub k3 h'/\O0 u8/\i6 u2 aD (D2 vs) u8=some X7) (eX (λ_ _=>0) (aI (eX U0 ⟨0,rfl,rfl,(Sub.refl _),(by decide),aS⟩) ?_)))
  rintro _ aQ k9 ⟨u8,⟨⟩,⟨⟩,aP,bQ,aA⟩
  replace aA:i6 u2 aD aQ u8=some X7:=aA
  obtain _|aQ:=aQ
  ·cases aA
  rw[i6.eq_2]at aA
  refine ifB aA (λaT aA=>?_) λaT aA=>?_
  ·refine ld aA (J0.mono (aL.trans aP) aB) λbR bF aU aA=>?_
   obtain⟨bG,bH,bI,rfl,rfl,aV,aW,aX⟩:=U1 aU
   try dsimp only at aA
   refine ld aA (J0.mono (aL.trans aP) aB) λbS bJ aY aA=>?_
   obtain⟨bK,bL,bM,rfl,rfl,aZ,bA,bB⟩:=U1 aY
   try dsimp only at aA
   refine ifB aA (λbC aA=>?_) λbC aA=>?_
   ·obtain rfl:=oJ aA
    try dsimp only[J5,K5]at aC
    obtain rfl:=oJ aC
    try dsimp only[J5,K5]at aF
    obtain rfl:=oJ aF
    exact aI rfl (aL.trans aP)
   ·exact A3 aQ ⟨(IntKind.i64.wrap (u8+1)),rfl,rfl,aP,(I0 _),aA⟩
  ·obtain rfl:=oJ aA
   try dsimp only[C1,E1]at aC
   exact A3 m4 ⟨(IntKind.i64.wrap (u2+1)),rfl,rfl,(aL.trans aP),(I0 _),aC⟩
 ·obtain rfl:=oJ aC
  try dsimp only[C1,E1]at aF
  refine trV aF (E6 _ _ _ (l0 aG aH (J0.mono aL aB))) λbT aF=>?_
  obtain rfl:=oJ aF
  exact aI rfl aL
theorem t09(h:Hp)(aM:List Value)(p0:j0)(bJ:D1.R h aM p0)(p1:Int)(cD:O0 p1)(p2:Int)(cE:O0 p2)(r:Y0)(aD:B9 p0 p1 p2=some r):
  Tr Tryz.prog 286 #[.agg aM.toArray,.int .i64 p1,.int .i64 p2] h λv h'=>∃(a0:Option Addr) (n0 c0:Nat),v = .slice a0 n0 c0/\New M4 h h' [.slice a0 n0 c0] r:=by
 obtain⟨aU,aV,aN,bC,aO,aK,rfl,rfl,bD,bE,aF⟩:=C0 bJ
 obtain⟨rfl,bF⟩:=Sl.len aF
 unfold B9 at aD
 dsimp only at aD
 refine D3 (args:=[.agg #[.int .i64 aU,.int .i64 aV,.slice aN aK.length aO],.int .i64 p1,.int .i64 p2]) (fn:=Tryz.f286) rfl ?_
 obtain⟨X1,aW,aD⟩:=B0 aD
 refine eX { vars:=[14],boxes:=[],owns:=[0],fuel:=true } (eX (λvs os h'=>∃ u2 aL u3,vs.tail = [.int .i64 u2]/\os = [aL]/\Sub h h'/\O0 u2/\F2 (Wp.int.R h') aL u3/\I4 aK p2 p1 (D2 vs) u2 u3=some X1) (eX (λ_ _=>0) (aI (eX U0 ⟨0,[],([]:Y0),rfl,rfl,(Sub.refl _),(by decide),(show F2 (Wp.int.R h) ([]:List (List Value)) ([]:Y0) from trivial),aW⟩) ?_)))
 rintro _ aL m5 k4 ⟨u2,bK,u3,⟨⟩,⟨⟩,aP,cG,aG,aA⟩
 replace aA:I4 aK p2 p1 m5 u2 u3=some X1:=aA
 obtain _|m5:=m5
 ·cases aA
 rw[I4.eq_2]at aA
 refine ifB aA (λbL aA=>?_) λbL aA=>?_
 ·refine ld aA (J0.mono aP aF) λx7 bM bN aA=>?_
  obtain⟨aB,bO,aC,rfl,rfl,aH,bG,aJ⟩:=U1 bN
  try dsimp only at aA
  refine ifB aA (λbP aA=>?_) λbP aA=>?_
  ·obtain⟨q9,bQ,aA⟩:=B0 aA
   refine aI (J2 bQ (by first|rw[F2.length aG,F2.length (show F2 (Wp.int.R k4) ([[.int .i64 aC]]:List (List Value)) [aC] from⟨⟨rfl,aJ⟩,trivial⟩)]|exact congrArg (·+1) (F2.length aG))) ?_
   exact A3 m5 ⟨(IntKind.i64.wrap (u2+1)),(aL++([[.int .i64 aC]]:List (List Value))),(u3 ++ [aC]),rfl,rfl,aP,(I0 _),(F2.append aG (show F2 (Wp.int.R k4) ([[.int .i64 aC]]:List (List Value)) [aC] from⟨⟨rfl,aJ⟩,trivial⟩)),aA⟩
  ·refine ifB aA (λaX aA=>?_) λaX aA=>?_
   ·obtain⟨cH,aY,aA⟩:=B0 aA
    refine aI (J2 aY (by first|rw[F2.length aG,F2.length (show F2 (Wp.int.R k4) ([[.int .i64 aB]]:List (List Value)) [aB] from⟨⟨rfl,aH⟩,trivial⟩)]|exact congrArg (·+1) (F2.length aG))) ?_
    exact A3 m5 ⟨(IntKind.i64.wrap (u2+1)),(aL++([[.int .i64 aB]]:List (List Value))),(u3 ++ [aB]),rfl,rfl,aP,(I0 _),(F2.append aG (show F2 (Wp.int.R k4) ([[.int .i64 aB]]:List (List Value)) [aB] from⟨⟨rfl,aH⟩,trivial⟩)),aA⟩
   ·exact A3 m5 ⟨(IntKind.i64.wrap (u2+1)),aL,u3,rfl,rfl,aP,(I0 _),aG,aA⟩
 ·obtain rfl:=oJ aA
  try dsimp only[C1,E1]at aD
  refine Or.inl ?_
  intro cI cJ bR
  obtain⟨cK,aZ,aD⟩:=B0 aD
  refine Tr.mono (N0h _ bR aG (A2 aZ)) ?_
  rintro _ bS ⟨rfl,bH,aQ,aR⟩
  obtain⟨bT,bU,rfl,bV,bW,bX⟩:=O1.out (r:=Wp.int.toRp) aQ aR
  refine Tr.mono (O0h _ aQ aR) ?_
  rintro _ bY ⟨bI,aS,aT⟩
  obtain⟨bA,bB,rfl,bZ,cA,cC⟩:=O1.out (r:=Wp.int.toRp) aS aT
  obtain rfl:=oJ aD
  exact⟨bA,((O01 eqI (o04 d8 u3))).length,bB,rfl,(New.from (O1.newPlain (r:=Wp.int) aS aT (u0i _)) aP)⟩
theorem L01(h:Hp)(aC:List Value)(p0:j0)(aR:D1.R h aC p0)(p1:Int)(aS:O0 p1)(p2:Int)(aT:O0 p2)(r:Int)(aA:d7 p0 p1 p2=some r):
  Tr Tryz.prog 201 #[.agg aC.toArray,.int .i64 p1,.int .i64 p2] h λv h'=>v = .int .i64 r/\h'=h:=by
 obtain⟨aJ,aK,aD,aM,aF,aL,rfl,rfl,aG,aH,aB⟩:=C0 aR
 obtain⟨rfl,aN⟩:=Sl.len aB
 unfold d7 at aA
 dsimp only at aA
 refine Tr.forget (D3 (args:=[.agg #[.int .i64 aJ,.int .i64 aK,.slice aD aL.length aF],.int .i64 p1,.int .i64 p2]) (fn:=Tryz.f201) rfl ?_)
 refine trM aA (t09 _ _ _ (l0 aG aH aB) _ aS _ aT) ?_
 rintro x1 aA v3 k2 ⟨aV,aW,aX,rfl,aO⟩
 have aP:Sub h k2:=aO.sub
 have aQ:=aO.r
 obtain⟨rfl,aY⟩:=Sl.len aQ
 refine ifB aA (λaU aA=>?_) λaU aA=>?_
 ·obtain rfl:=oJ aA
  exact aI rfl aP
 ·refine ldI aA aQ λx5 aZ aA=>?_
  obtain rfl:=oJ aA
  exact aI rfl aP
theorem c00(h:Hp)(aJ:List Value)(p0:j0)(bP:D1.R h aJ p0)(r:Bool)(aC:H6 p0=some r):
  Tr Tryz.prog 219 #[.agg aJ.toArray] h λv h'=>v = .bool r/\h'=h:=by
 obtain⟨aU,aV,aK,bF,aL,aG,rfl,rfl,aM,aN,aD⟩:=C0 bP
 obtain⟨rfl,bG⟩:=Sl.len aD
 unfold H6 at aC
 dsimp only at aC
 refine Tr.forget (D3 (args:=[.agg #[.int .i64 aU,.int .i64 aV,.slice aK aG.length aL]]) (fn:=Tryz.f219) rfl ?_)
 refine trV aC (G9 _ _ _ (l0 aM aN aD)) λx1 aC=>?_
 refine ifB aC (λbQ aC=>?_) λbQ aC=>?_
 ·obtain rfl:=oJ aC
  exact aI rfl (Sub.refl _)
 ·obtain⟨X3,aW,aC⟩:=B0 aC
  refine eX { vars:=[13],boxes:=[],owns:=[],fuel:=true } (eX (λvs os h'=>∃ u4,vs.tail = [.int .i64 u4]/\os = []/\Sub h h'/\O0 u4/\l6 aG (D2 vs) u4=some X3) (eX (λ_ _=>0) (aI (eX U0 ⟨0,rfl,rfl,(Sub.refl _),(by decide),aW⟩) ?_)))
  rintro _ m6 k5 ⟨u4,⟨⟩,⟨⟩,aO,cA,aA⟩
  replace aA:l6 aG m6 u4=some X3:=aA
  obtain _|m6:=m6
  ·cases aA
  rw[l6.eq_2]at aA
  refine ifB aA (λbR aA=>?_) λbR aA=>?_
  ·refine ld aA (J0.mono aO aD) λx8 bS bT aA=>?_
   obtain⟨aP,aQ,aR,rfl,rfl,bH,bI,bJ⟩:=U1 bT
   try dsimp only at aA
   obtain⟨x9,bU,aA⟩:=B0 aA
   obtain⟨bV,aX,bW,bX⟩:=Sl.cutI (r:=H1.toRp) (J0.mono aO aD) bU
   refine aI bV (eX aX (aI bW ?_))
   intro bY aY _
   obtain⟨cC,cD,rfl,bK⟩:=bX bY aY
   have cE:=(Sl.len bK).2
   obtain⟨X10,aS,aA⟩:=B0 aA
   refine eX { vars:=[24],boxes:=[],owns:=[],fuel:=true } (eX (λvs os h'=>∃ aH,vs.tail = [.int .i64 aH]/\os = []/\Sub k5 h'/\O0 aH/\j6 x9 aQ aP aR (D2 vs) aH=some X10) (eX (λ_ _=>0) (aI (eX U0 ⟨0,rfl,rfl,(Sub.refl _),(by decide),aS⟩) ?_)))
   rintro _ aT cG ⟨aH,⟨⟩,⟨⟩,aF,bZ,aB⟩
   replace aB:j6 x9 aQ aP aR aT aH=some X10:=aB
   obtain _|aT:=aT
   ·cases aB
   rw[j6.eq_2]at aB
   refine ifB aB (λaZ aB=>?_) λaZ aB=>?_
   ·refine ld aB (J0.mono aF bK) λcH bL bA aB=>?_
    obtain⟨bM,bN,bO,rfl,rfl,bB,bC,bD⟩:=U1 bA
    try dsimp only at aB
    refine ifB aB (λbE aB=>?_) λbE aB=>?_
    ·obtain rfl:=oJ aB
     try dsimp only[J5,K5]at aA
     obtain rfl:=oJ aA
     try dsimp only[J5,K5]at aC
     obtain rfl:=oJ aC
     exact aI rfl (aO.trans aF)
    ·exact A3 aT ⟨(IntKind.i64.wrap (aH+1)),rfl,rfl,aF,(I0 _),aB⟩
   ·obtain rfl:=oJ aB
    try dsimp only[C1,E1]at aA
    exact A3 m6 ⟨(IntKind.i64.wrap (u4+1)),rfl,rfl,(aO.trans aF),(I0 _),aA⟩
  ·obtain rfl:=oJ aA
   try dsimp only[C1,E1]at aC
   obtain rfl:=oJ aC
   exact aI rfl aO
theorem B5(h:Hp)(aB:List Value)(p0:j0)(aR:D1.R h aB p0)(r:j0)(aC:Q3 p0=some r):
  Tr Tryz.prog 132 #[.agg aB.toArray] h λv h'=>∃(aO:List Value),v = .agg aO.toArray/\New D1 h h' aO r:=by
 obtain⟨aD,aF,aG,aP,aH,aJ,rfl,rfl,aK,aL,aA⟩:=C0 aR
 obtain⟨rfl,aQ⟩:=Sl.len aA
 unfold Q3 at aC
 dsimp only at aC
 refine D3 (args:=[.agg #[.int .i64 aD,.int .i64 aF,.slice aG aJ.length aH]]) (fn:=Tryz.f132) rfl ?_
 refine Or.inr (Or.inr (Or.inl (aI (aI (by kernel_rfl) (by kernel_rfl)) ?_)))
 refine Or.inr ?_
 refine Or.inr ?_
 refine Or.inr ?_
 refine Or.inr ?_
 refine Or.inl (eX 0 (aI (aI rfl rfl) ?_))
 refine aI trivial (aI (by first|exact trivial|exact rfl) ?_)
 obtain⟨aM,aS,aN⟩:=Sl.rows (r:=H1.toRp) aA
 refine eX aM (aI aS ?_)
 obtain⟨q2,aT,aC⟩:=B0 aC
 refine aI (J2 aT (by first|rw[F2.length (show F2 (H1.R h) ([]:List (List Value)) ([]:K0) from trivial),F2.length aN]|exact congrArg (·+1) (F2.length (show F2 (H1.R h) ([]:List (List Value)) ([]:K0) from trivial)))) ?_
 refine aI trivial (aI (by first|exact trivial|exact rfl) ?_)
 refine aI trivial (aI (by first|exact trivial|exact rfl) ?_)
 refine aI trivial (aI (by first|exact trivial|exact rfl) ?_)
 intro v3 k4 f5
 obtain⟨aU,aV,rfl,aW,aX,aY⟩:=O1.out (r:=H1.toRp) f5 (F2.append (show F2 (H1.R h) ([]:List (List Value)) ([]:K0) from trivial) aN)
 obtain rfl:=oJ aC
 exact⟨([.int .i64 aD,.int .i64 aF,.slice aU ((([]:K0)++aJ)).length aV]),rfl,(New.pair (New.int aK) (New.pair (New.int aL) (O1.newPlain (r:=H1) f5 (F2.append (show F2 (H1.R h) ([]:List (List Value)) ([]:K0) from trivial) aN) (a0c _))))⟩
theorem T9(h:Hp)(bQ:Option Addr)(cT bR:Nat)(p0:K0)(bL:J0.R h [.slice bQ cT bR] p0)(bM:List Value)(p1:H0)(cY:H1.R h bM p1)(r:K0)(aW:i7 p0 p1=some r):
  Tr Tryz.prog 248 #[.slice bQ cT bR,.agg bM.toArray] h λv h'=>∃(a0:Option Addr) (n0 c0:Nat),v = .slice a0 n0 c0/\J0.R h' [.slice a0 n0 c0] r/\Sub h h':=by
 obtain⟨rfl,dL⟩:=Sl.len bL
 obtain⟨aA,aB,aC,rfl,rfl,aF,aG,aH⟩:=U1 cY
 unfold i7 at aW
 dsimp only at aW
 refine D3 (args:=[.slice bQ p0.length bR,.agg #[.int .i64 aA,.int .i64 aB,.int .i64 aC]]) (fn:=Tryz.f248) rfl ?_
 obtain⟨X1,bS,aW⟩:=B0 aW
 refine eX { vars:=[6,7],boxes:=[],owns:=[0],fuel:=true } (eX (λvs os h'=>∃ u2 u3 bK u4,vs.tail = [.bool u2,.int .i64 u3]/\os = [bK]/\Sub h h'/\O0 u3/\F2 (H1.R h') bK u4/\B4 p0 aA aB aC (D2 vs) u2 u3 u4=some X1) (eX (λ_ _=>0) (aI (eX U0 ⟨false,0,[],([]:K0),rfl,rfl,(Sub.refl _),(by decide),(show F2 (H1.R h) ([]:List (List Value)) ([]:K0) from trivial),bS⟩) ?_)))
 rintro _ _ bK m6 k5 ⟨u2,u3,cZ,u4,⟨⟩,⟨⟩,aX,dM,aJ,aD⟩
 replace aD:B4 p0 aA aB aC m6 u2 u3 u4=some X1:=aD
 obtain _|m6:=m6
 ·cases aD
 rw[B4.eq_2]at aD
 refine ifB aD (λdA aD=>?_) λdA aD=>?_
 ·refine Or.inl (aI (aI (by kernel_rfl) (by kernel_rfl)) ?_)
  refine ld aD (J0.mono aX bL) λx8 dB dC aD=>?_
  obtain⟨dD,dE,dF,rfl,rfl,bN,bO,bP⟩:=U1 dC
  try dsimp only at aD
  obtain⟨x9,dG,aD⟩:=B0 aD
  refine eX (.int .i64 x9) (aI (A02 _ _ _ (T1 aF aG aH) _ _ (T1 bN bO bP) _  dG) ?_)
  obtain⟨dN,bT,aD⟩:=B0 aD
  have dO:O0 x9:=A2 bT
  refine ifB aD (λbU aD=>?_) λbU aD=>?_
  ·refine ifB aD (λbV aD=>?_) λbV aD=>?_
   ·obtain⟨dP,bW,aD⟩:=B0 aD
    refine aI (J2 bW (by first|rw[F2.length aJ,F2.length (show F2 (H1.R k5) ([[.int .i64 aA,.int .i64 aB,.int .i64 aC]]:List (List Value)) [(aA,aB,aC)] from⟨(T1 aF aG aH),trivial⟩)]|exact congrArg (·+1) (F2.length aJ))) ?_
    refine ld aD (J0.mono aX bL) λdQ cU bX aD=>?_
    obtain⟨aK,aL,aM,rfl,rfl,aY,aZ,bA⟩:=U1 bX
    try dsimp only at aD
    obtain⟨dR,bY,aD⟩:=B0 aD
    refine aI (J2 bY (by first|rw[F2.length (F2.append aJ (show F2 (H1.R k5) ([[.int .i64 aA,.int .i64 aB,.int .i64 aC]]:List (List Value)) [(aA,aB,aC)] from⟨(T1 aF aG aH),trivial⟩)),F2.length (show F2 (H1.R k5) ([[.int .i64 aK,.int .i64 aL,.int .i64 aM]]:List (List Value)) [(aK,aL,aM)] from⟨(T1 aY aZ bA),trivial⟩)]|exact congrArg (·+1) (F2.length (F2.append aJ (show F2 (H1.R k5) ([[.int .i64 aA,.int .i64 aB,.int .i64 aC]]:List (List Value)) [(aA,aB,aC)] from⟨(T1 aF aG aH),trivial⟩))))) ?_
    exact A3 m6 ⟨true,(IntKind.i64.wrap (u3+1)),((bK++([[.int .i64 aA,.int .i64 aB,.int .i64 aC]]:List (List Value)))++([[.int .i64 aK,.int .i64 aL,.int .i64 aM]]:List (List Value))),((u4 ++ [(aA,aB,aC)]) ++ [(aK,aL,aM)]),rfl,rfl,aX,(I0 _),(F2.append (F2.append aJ (show F2 (H1.R k5) ([[.int .i64 aA,.int .i64 aB,.int .i64 aC]]:List (List Value)) [(aA,aB,aC)] from⟨(T1 aF aG aH),trivial⟩)) (show F2 (H1.R k5) ([[.int .i64 aK,.int .i64 aL,.int .i64 aM]]:List (List Value)) [(aK,aL,aM)] from⟨(T1 aY aZ bA),trivial⟩)),aD⟩
   ·refine ld aD (J0.mono aX bL) λdS cV bZ aD=>?_
    obtain⟨aN,aO,aP,rfl,rfl,bB,bC,bD⟩:=U1 bZ
    try dsimp only at aD
    obtain⟨dT,cA,aD⟩:=B0 aD
    refine aI (J2 cA (by first|rw[F2.length aJ,F2.length (show F2 (H1.R k5) ([[.int .i64 aN,.int .i64 aO,.int .i64 aP]]:List (List Value)) [(aN,aO,aP)] from⟨(T1 bB bC bD),trivial⟩)]|exact congrArg (·+1) (F2.length aJ))) ?_
    exact A3 m6 ⟨true,(IntKind.i64.wrap (u3+1)),(bK++([[.int .i64 aN,.int .i64 aO,.int .i64 aP]]:List (List Value))),(u4 ++ [(aN,aO,aP)]),rfl,rfl,aX,(I0 _),(F2.append aJ (show F2 (H1.R k5) ([[.int .i64 aN,.int .i64 aO,.int .i64 aP]]:List (List Value)) [(aN,aO,aP)] from⟨(T1 bB bC bD),trivial⟩)),aD⟩
  ·refine ifB aD (λcC aD=>?_) λcC aD=>?_
   ·obtain⟨dU,cD,aD⟩:=B0 aD
    refine aI (J2 cD (by first|rw[F2.length aJ,F2.length (show F2 (H1.R k5) ([[.int .i64 aA,.int .i64 aB,.int .i64 aC]]:List (List Value)) [(aA,aB,aC)] from⟨(T1 aF aG aH),trivial⟩)]|exact congrArg (·+1) (F2.length aJ))) ?_
    refine ld aD (J0.mono aX bL) λdV cW cE aD=>?_
    obtain⟨aQ,aR,aS,rfl,rfl,bE,bF,bG⟩:=U1 cE
    try dsimp only at aD
    obtain⟨dW,cG,aD⟩:=B0 aD
    refine aI (J2 cG (by first|rw[F2.length (F2.append aJ (show F2 (H1.R k5) ([[.int .i64 aA,.int .i64 aB,.int .i64 aC]]:List (List Value)) [(aA,aB,aC)] from⟨(T1 aF aG aH),trivial⟩)),F2.length (show F2 (H1.R k5) ([[.int .i64 aQ,.int .i64 aR,.int .i64 aS]]:List (List Value)) [(aQ,aR,aS)] from⟨(T1 bE bF bG),trivial⟩)]|exact congrArg (·+1) (F2.length (F2.append aJ (show F2 (H1.R k5) ([[.int .i64 aA,.int .i64 aB,.int .i64 aC]]:List (List Value)) [(aA,aB,aC)] from⟨(T1 aF aG aH),trivial⟩))))) ?_
    exact A3 m6 ⟨true,(IntKind.i64.wrap (u3+1)),((bK++([[.int .i64 aA,.int .i64 aB,.int .i64 aC]]:List (List Value)))++([[.int .i64 aQ,.int .i64 aR,.int .i64 aS]]:List (List Value))),((u4 ++ [(aA,aB,aC)]) ++ [(aQ,aR,aS)]),rfl,rfl,aX,(I0 _),(F2.append (F2.append aJ (show F2 (H1.R k5) ([[.int .i64 aA,.int .i64 aB,.int .i64 aC]]:List (List Value)) [(aA,aB,aC)] from⟨(T1 aF aG aH),trivial⟩)) (show F2 (H1.R k5) ([[.int .i64 aQ,.int .i64 aR,.int .i64 aS]]:List (List Value)) [(aQ,aR,aS)] from⟨(T1 bE bF bG),trivial⟩)),aD⟩
   ·refine ld aD (J0.mono aX bL) λdX cX cH aD=>?_
    obtain⟨aT,aU,aV,rfl,rfl,bH,bI,bJ⟩:=U1 cH
    try dsimp only at aD
    obtain⟨dY,cI,aD⟩:=B0 aD
    refine aI (J2 cI (by first|rw[F2.length aJ,F2.length (show F2 (H1.R k5) ([[.int .i64 aT,.int .i64 aU,.int .i64 aV]]:List (List Value)) [(aT,aU,aV)] from⟨(T1 bH bI bJ),trivial⟩)]|exact congrArg (·+1) (F2.length aJ))) ?_
    exact A3 m6 ⟨u2,(IntKind.i64.wrap (u3+1)),(bK++([[.int .i64 aT,.int .i64 aU,.int .i64 aV]]:List (List Value))),(u4 ++ [(aT,aU,aV)]),rfl,rfl,aX,(I0 _),(F2.append aJ (show F2 (H1.R k5) ([[.int .i64 aT,.int .i64 aU,.int .i64 aV]]:List (List Value)) [(aT,aU,aV)] from⟨(T1 bH bI bJ),trivial⟩)),aD⟩
 ·obtain rfl:=oJ aD
  try dsimp only[C1,E1]at aW
  refine ifB aW (λcJ aW=>?_) λcJ aW=>?_
  ·obtain⟨dZ,cK,aW⟩:=B0 aW
   refine aI (J2 cK (by first|rw[F2.length aJ,F2.length (show F2 (H1.R k5) ([[.int .i64 aA,.int .i64 aB,.int .i64 aC]]:List (List Value)) [(aA,aB,aC)] from⟨(T1 aF aG aH),trivial⟩)]|exact congrArg (·+1) (F2.length aJ))) ?_
   intro eA eC dH
   obtain⟨cL,cM,rfl,cN,cO,dI⟩:=O1.out (r:=H1.toRp) dH (F2.append aJ (show F2 (H1.R k5) ([[.int .i64 aA,.int .i64 aB,.int .i64 aC]]:List (List Value)) [(aA,aB,aC)] from⟨(T1 aF aG aH),trivial⟩))
   obtain rfl:=oJ aW
   exact⟨cL,((u4 ++ [(aA,aB,aC)])).length,cM,rfl,cN,(aX.trans cO)⟩
  ·intro eD eE dJ
   obtain⟨cP,cQ,rfl,cR,cS,dK⟩:=O1.out (r:=H1.toRp) dJ aJ
   obtain rfl:=oJ aW
   exact⟨cP,u4.length,cQ,rfl,cR,(aX.trans cS)⟩
theorem c0a(h:Hp)(aG:List Value)(p0:j0)(bH:D1.R h aG p0)(p1:Int)(bV:O0 p1)(r:Int)(aF:b9 p0 p1=some r):
  Tr Tryz.prog 318 #[.agg aG.toArray,.int .i64 p1] h λv h'=>v = .int .i64 r/\h'=h:=by
 obtain⟨aK,aL,aH,aT,aJ,aD,rfl,rfl,aU,aV,aB⟩:=C0 bH
 obtain⟨rfl,aW⟩:=Sl.len aB
 unfold b9 at aF
 dsimp only at aF
 refine Tr.forget (D3 (args:=[.agg #[.int .i64 aK,.int .i64 aL,.slice aH aD.length aJ],.int .i64 p1]) (fn:=Tryz.f318) rfl ?_)
 obtain⟨X1,aM,aF⟩:=B0 aF
 refine eX { vars:=[5,6],boxes:=[],owns:=[],fuel:=true } (eX (λvs os h'=>∃ u2 u3,vs.tail = [.int .i64 u2,.int .i64 u3]/\os = []/\Sub h h'/\O0 u2/\O0 u3/\M3 aD p1 (D2 vs) u2 u3=some X1) (eX (λ_ _=>0) (aI (eX U0 ⟨0,0,rfl,rfl,(Sub.refl _),(by decide),(by decide),aM⟩) ?_)))
 rintro _ _ m5 k4 ⟨u2,u3,⟨⟩,⟨⟩,aC,bI,bW,aA⟩
 replace aA:M3 aD p1 m5 u2 u3=some X1:=aA
 obtain _|m5:=m5
 ·cases aA
 rw[M3.eq_2]at aA
 refine ifB aA (λbJ aA=>?_) λbJ aA=>?_
 ·refine ld aA (J0.mono aC aB) λx7 bK bL aA=>?_
  obtain⟨bM,bN,bO,rfl,rfl,aX,aY,aZ⟩:=U1 bL
  try dsimp only at aA
  refine ifB aA (λbP aA=>?_) λbP aA=>?_
  ·refine ld aA (J0.mono aC aB) λx9 bQ bR aA=>?_
   obtain⟨bS,bT,bU,rfl,rfl,bA,bB,bC⟩:=U1 bR
   try dsimp only at aA
   refine ifB aA (λaN aA=>?_) λaN aA=>?_
   ·exact A3 m5 ⟨(IntKind.i64.wrap ((IntKind.i64.wrap (u2+1))+1)),(IntKind.i64.wrap (u3+1)),rfl,rfl,aC,(I0 _),(I0 _),aA⟩
   ·exact A3 m5 ⟨(IntKind.i64.wrap (u2+1)),(IntKind.i64.wrap (u3+1)),rfl,rfl,aC,(I0 _),(I0 _),aA⟩
  ·refine ld aA (J0.mono aC aB) λbX bD aO aA=>?_
   obtain⟨bE,bF,bG,rfl,rfl,aP,aQ,aR⟩:=U1 aO
   try dsimp only at aA
   refine ifB aA (λaS aA=>?_) λaS aA=>?_
   ·exact A3 m5 ⟨(IntKind.i64.wrap (u2+1)),(IntKind.i64.wrap (u3+1)),rfl,rfl,aC,(I0 _),(I0 _),aA⟩
   ·exact A3 m5 ⟨u2,(IntKind.i64.wrap (u3+1)),rfl,rfl,aC,bI,(I0 _),aA⟩
 ·obtain rfl:=oJ aA
  try dsimp only[C1,E1]at aF
  obtain rfl:=oJ aF
  exact aI rfl aC
theorem p07(h:Hp)(aH:List Value)(p0:j0)(bO:D1.R h aH p0)(aJ:List Value)(p1:j0)(bP:D1.R h aJ p1)(r:Bool)(aB:L8 p0 p1=some r):
  Tr Tryz.prog 194 #[.agg aH.toArray,.agg aJ.toArray] h λv h'=>v = .bool r/\h'=h:=by
 obtain⟨aP,aQ,aK,bA,aL,aF,rfl,rfl,bB,bC,aC⟩:=C0 bO
 obtain⟨rfl,bD⟩:=Sl.len aC
 obtain⟨aR,aS,aM,bE,aN,aG,rfl,rfl,bF,bG,aD⟩:=C0 bP
 obtain⟨rfl,bH⟩:=Sl.len aD
 unfold L8 at aB
 dsimp only at aB
 refine Tr.forget (D3 (args:=[.agg #[.int .i64 aP,.int .i64 aQ,.slice aK aF.length aL],.agg #[.int .i64 aR,.int .i64 aS,.slice aM aG.length aN]]) (fn:=Tryz.f194) rfl ?_)
 refine ifB aB (λbQ aB=>?_) λbQ aB=>?_
 ·obtain rfl:=oJ aB
  exact aI rfl (Sub.refl _)
 ·obtain⟨X2,aT,aB⟩:=B0 aB
  refine eX { vars:=[5],boxes:=[],owns:=[],fuel:=true } (eX (λvs os h'=>∃ u3,vs.tail = [.int .i64 u3]/\os = []/\Sub h h'/\O0 u3/\M5 aF aG (D2 vs) u3=some X2) (eX (λ_ _=>0) (aI (eX U0 ⟨0,rfl,rfl,(Sub.refl _),(by decide),aT⟩) ?_)))
  rintro _ m5 k4 ⟨u3,⟨⟩,⟨⟩,aO,bX,aA⟩
  replace aA:M5 aF aG m5 u3=some X2:=aA
  obtain _|m5:=m5
  ·cases aA
  rw[M5.eq_2]at aA
  refine ifB aA (λbR aA=>?_) λbR aA=>?_
  ·refine Or.inl (aI (aI (by kernel_rfl) (by kernel_rfl)) ?_)
   refine ld aA (J0.mono aO aC) λx7 bS bT aA=>?_
   obtain⟨aU,aV,aW,rfl,rfl,bI,bJ,bK⟩:=U1 bT
   try dsimp only at aA
   refine ld aA (J0.mono aO aD) λx8 bU bV aA=>?_
   obtain⟨aX,aY,aZ,rfl,rfl,bL,bM,bN⟩:=U1 bV
   try dsimp only at aA
   refine eX (!eqE (aU,aV,aW) (aX,aY,aZ)) (aI (H0e _ _ _ rfl _ _ _ _ _ _) ?_)
   refine ifB aA (λbW aA=>?_) λbW aA=>?_
   ·obtain rfl:=oJ aA
    try dsimp only[J5,K5]at aB
    obtain rfl:=oJ aB
    exact aI rfl aO
   ·exact A3 m5 ⟨(IntKind.i64.wrap (u3+1)),rfl,rfl,aO,(I0 _),aA⟩
  ·obtain rfl:=oJ aA
   try dsimp only[C1,E1]at aB
   obtain rfl:=oJ aB
   exact aI rfl aO
theorem q07(h:Hp)(aZ:List Value)(p0:j0)(cR:D1.R h aZ p0)(p1:Int)(cH:O0 p1)(r:Y0)(aF:M8 p0 p1=some r):
  Tr Tryz.prog 334 #[.agg aZ.toArray,.int .i64 p1] h λv h'=>∃(a0:Option Addr) (n0 c0:Nat),v = .slice a0 n0 c0/\M4.R h' [.slice a0 n0 c0] r/\Sub h h':=by
 obtain⟨bL,bA,bB,cI,bC,aJ,rfl,rfl,bD,bE,aK⟩:=C0 cR
 obtain⟨rfl,cJ⟩:=Sl.len aK
 unfold M8 at aF
 dsimp only at aF
 refine D3 (args:=[.agg #[.int .i64 bL,.int .i64 bA,.slice bB aJ.length bC],.int .i64 p1]) (fn:=Tryz.f334) rfl ?_
 refine trV aF (E6 _ _ _ (l0 bD bE aK)) λx1 aF=>?_
 refine trG aF (λq=>c8 _ _ cH 0 (by decide) (IntKind.i64.wrap (bA-1)) (I0 _)) λx2 aF=>?_
 refine ifB aF (λcS aF=>?_) λcS aF=>?_
 ·intro v4 k5 f6
  obtain⟨cT,cU,rfl,cV,cW,dJ⟩:=O1.out (r:=Wp.int.toRp) f6 (show F2 (Wp.int.R h) ([]:List (List Value)) ([]:Y0) from trivial)
  obtain rfl:=oJ aF
  exact⟨cT,(([]:Y0)).length,cU,rfl,cV,cW⟩
 ·obtain⟨X12,bF,aF⟩:=B0 aF
  refine eX { vars:=[5,6],boxes:=[],owns:=[],fuel:=true,pubs:=[5,22] } (eX (λvs os h'=>∃(aL:Option Addr) (aS aM:Nat) (aT:Y0) (aY:Int),vs.tail = [.slice aL aS aM,.int .i64 aY]/\os = []/\Sub h h'/\M4.R h' [.slice aL aS aM] aT/\O0 aY/\d5 aJ (D2 vs) aT aY=some X12) (eX (λ_ _=>0) ?_))
  intro v8 k9 f10
  obtain⟨bM,bN,rfl,bO,bP,cX⟩:=O1.out (r:=Wp.int.toRp) f10 (show F2 (Wp.int.R h) ([[.int .i64 p1]]:List (List Value)) [p1] from⟨⟨rfl,cH⟩,trivial⟩)
  refine aI (eX U0 ⟨bM,([p1]).length,bN,[p1],0,rfl,rfl,bP,bO,(by decide),bF⟩) ?_
  rintro _ _ bK cY ⟨aL,aS,aM,aT,aY,⟨⟩,⟨⟩,aU,aV,cZ,aH⟩
  replace aH:d5 aJ bK aT aY=some X12:=aH
  obtain _|bK:=bK
  ·cases aH
  rw[d5.eq_2]at aH
  obtain⟨rfl,dA⟩:=Sl.len aV
  refine ifB aH (λbQ aH=>?_) λbQ aH=>?_
  ·obtain⟨X18,bG,aH⟩:=B0 aH
   refine eX { vars:=[5,7],boxes:=[],owns:=[],fuel:=true } (eX (λvs os h'=>∃ aN aW aO aR aP,vs.tail = [.slice aN aW aO,.int .i64 aP]/\os = []/\Sub cY h'/\M4.R h' [.slice aN aW aO] aR/\O0 aP/\K3 aJ (D2 vs) aR aP=some X18) (eX (λ_ _=>0) (aI (eX U0 ⟨aL,aT.length,aM,aT,0,rfl,rfl,(Sub.refl _),aV,(by decide),bG⟩) ?_)))
   rintro _ _ aX dK ⟨aN,aW,aO,aR,aP,⟨⟩,⟨⟩,aG,aB,dB,aA⟩
   replace aA:K3 aJ aX aR aP=some X18:=aA
   obtain _|aX:=aX
   ·cases aA
   rw[K3.eq_2]at aA
   obtain⟨rfl,dC⟩:=Sl.len aB
   refine ifB aA (λbR aA=>?_) λbR aA=>?_
   ·refine ld aA (J0.mono (aU.trans aG) aK) λdL cK bS aA=>?_
    obtain⟨cL,cM,cN,rfl,rfl,aC,bT,aD⟩:=U1 bS
    try dsimp only at aA
    refine trV aA (K01 _ _ _ _ _ aB _ aC) λdM aA=>?_
    refine ifB aA (λbU aA=>?_) λbU aA=>?_
    ·refine trM aA (R00 _ _ _ _ _ aB _ aD) ?_
     rintro cO aA dN dO ⟨bV,dD,bW,rfl,aQ,bH⟩
     obtain⟨rfl,dE⟩:=Sl.len aQ
     refine trV aA (K01 _ _ _ _ _ aQ _ aD) λdP aA=>?_
     refine ifB aA (λbX aA=>?_) λbX aA=>?_
     ·refine trM aA (R00 _ _ _ _ _ aQ _ aC) ?_
      rintro cP aA dQ dR ⟨bY,dF,bZ,rfl,bI,cA⟩
      obtain⟨rfl,dG⟩:=Sl.len bI
      exact A3 aX ⟨bY,cP.length,bZ,cP,(IntKind.i64.wrap (aP+1)),rfl,rfl,((aG.trans bH).trans cA),bI,(I0 _),aA⟩
     ·exact A3 aX ⟨bV,cO.length,bW,cO,(IntKind.i64.wrap (aP+1)),rfl,rfl,(aG.trans bH),aQ,(I0 _),aA⟩
    ·refine trV aA (K01 _ _ _ _ _ aB _ aD) λdS aA=>?_
     refine ifB aA (λcC aA=>?_) λcC aA=>?_
     ·refine trM aA (R00 _ _ _ _ _ aB _ aC) ?_
      rintro cQ aA dT dU ⟨cD,dH,cE,rfl,bJ,cG⟩
      obtain⟨rfl,dI⟩:=Sl.len bJ
      exact A3 aX ⟨cD,cQ.length,cE,cQ,(IntKind.i64.wrap (aP+1)),rfl,rfl,(aG.trans cG),bJ,(I0 _),aA⟩
     ·exact A3 aX ⟨aN,aR.length,aO,aR,(IntKind.i64.wrap (aP+1)),rfl,rfl,aG,aB,(I0 _),aA⟩
   ·obtain rfl:=oJ aA
    try dsimp only[C1,E1]at aH
    exact A3 bK ⟨aN,aR.length,aO,aR,(IntKind.i64.wrap (aY+1)),rfl,rfl,(aU.trans aG),aB,(I0 _),aH⟩
  ·obtain rfl:=oJ aH
   try dsimp only[C1,E1]at aF
   obtain rfl:=oJ aF
   exact⟨aL,aT.length,aM,rfl,aV,aU⟩
theorem N06(h:Hp)(aK:List Value)(p0:j0)(aW:D1.R h aK p0)(r:Int)(aC:f00 p0=some r):
  Tr Tryz.prog 294 #[.agg aK.toArray] h λv h'=>v = .int .i64 r/\h'=h:=by
 obtain⟨aG,aH,aL,aS,aM,aJ,rfl,rfl,aD,aF,aB⟩:=C0 aW
 obtain⟨rfl,aT⟩:=Sl.len aB
 unfold f00 at aC
 dsimp only at aC
 refine Tr.forget (D3 (args:=[.agg #[.int .i64 aG,.int .i64 aH,.slice aL aJ.length aM]]) (fn:=Tryz.f294) rfl ?_)
 refine trM aC (q07 _ _ _ (l0 aD aF aB) 0 (by decide)) ?_
 rintro x1 aC v3 k2 ⟨aY,aZ,bA,rfl,aU,aO⟩
 obtain⟨rfl,bB⟩:=Sl.len aU
 obtain⟨X4,aP,aC⟩:=B0 aC
 refine eX { vars:=[4],boxes:=[],owns:=[],fuel:=true } (eX (λvs os h'=>∃ u5,vs.tail = [.int .i64 u5]/\os = []/\Sub k2 h'/\O0 u5/\B7 aH aG aJ x1 (D2 vs) u5=some X4) (eX (λ_ _=>0) (aI (eX U0 ⟨1,rfl,rfl,(Sub.refl _),(by decide),aP⟩) ?_)))
 rintro _ m7 k6 ⟨u5,⟨⟩,⟨⟩,aN,aV,aA⟩
 replace aA:B7 aH aG aJ x1 m7 u5=some X4:=aA
 obtain _|m7:=m7
 ·cases aA
 rw[B7.eq_2]at aA
 refine ifB aA (λaX aA=>?_) λaX aA=>?_
 ·refine trV aA (c0a _ _ _ (l0 aD aF (J0.mono (aO.trans aN) aB)) _ aV) λx9 aA=>?_
  obtain⟨bC,aQ,aA⟩:=B0 aA
  have bD:O0 x9:=A2 aQ
  refine trG aA (λq=>K01 _ _ _ _ _ (M4.mono aN aU) _ aV) λbE aA=>?_
  refine ifB aA (λaR aA=>?_) λaR aA=>?_
  ·obtain rfl:=oJ aA
   try dsimp only[J5,K5]at aC
   obtain rfl:=oJ aC
   exact aI rfl (aO.trans aN)
  ·exact A3 m7 ⟨(IntKind.i64.wrap (u5+1)),rfl,rfl,aN,(I0 _),aA⟩
 ·obtain rfl:=oJ aA
  try dsimp only[C1,E1]at aC
  obtain rfl:=oJ aC
  exact aI rfl (aO.trans aN)
theorem u02(h:Hp)(bF:List Value)(p0:j0)(eP:D1.R h bF p0)(cD:Option Addr)(dU cE:Nat)(p1:Y0)(bX:M4.R h [.slice cD dU cE] p1)(r:j0×Bool)(aB:Q6 p0 p1=some r):
  Tr Tryz.prog 320 #[.agg bF.toArray,.slice cD dU cE] h λv h'=>∃(dV:List Value),v = .tuple #[.agg dV.toArray,.bool r.2]/\D1.R h' dV r.1/\Sub h h':=by
 obtain⟨aO,aF,bG,dW,bH,aH,rfl,rfl,aG,aJ,aC⟩:=C0 eP
 obtain⟨rfl,dX⟩:=Sl.len aC
 obtain⟨rfl,eQ⟩:=Sl.len bX
 unfold Q6 at aB
 dsimp only at aB
 refine D3 (args:=[.agg #[.int .i64 aO,.int .i64 aF,.slice bG aH.length bH],.slice cD p1.length cE]) (fn:=Tryz.f320) rfl ?_
 refine trV aB (E6 _ _ _ (l0 aG aJ aC)) λx1 aB=>?_
 refine ifB aB (λeR aB=>?_) λeR aB=>?_
 ·refine trM aB (B5 _ _ _ (l0 aG aJ aC)) ?_
  rintro x3 aB v5 k4 ⟨eT,rfl,dY⟩
  have eU:Sub h k4:=dY.sub
  have eV:=dY.r
  obtain⟨cG,cH,bI,dZ,bJ,cI,rfl,rfl,bK,bL,aQ⟩:=C0 eV
  obtain⟨rfl,eA⟩:=Sl.len aQ
  try dsimp only at aB
  obtain rfl:=oJ aB
  exact⟨([.int .i64 cG,.int .i64 cH,.slice bI cI.length bJ]),rfl,(l0 bK bL aQ),eU⟩
 ·obtain⟨q6,eW,aB⟩:=B0 aB
  refine aI (A2 eW) ?_
  obtain⟨X7,cJ,aB⟩:=B0 aB
  refine eX { vars:=[8],boxes:=[],owns:=[0],fuel:=true,kept:=[0] } (eX (λvs os h'=>∃ u8 bY u9,vs.tail = [.int .i64 u8]/\os = [bY]/\Sub h h'/\O0 u8/\F2 (Wp.int.R h') bY u9/\C4 p1 aF aO aH (D2 vs) u8 u9=some X7) (eX (λ_ _=>0) (aI (eX U0 ⟨0,(List.replicate aF.toNat ([.int .i64 0]:List Value)),(List.replicate aF.toNat (0:Int)),rfl,rfl,(Sub.refl _),(by decide),(F2.rep (p:=Wp.int.R h) (a:=[.int .i64 0]) (b:=0) ⟨rfl,(by decide)⟩ (aF.toNat)),cJ⟩) ?_)))
  rintro _ bY bZ bM ⟨u8,eY,u9,⟨⟩,⟨⟩,aR,fP,aU,aA⟩
  replace aA:C4 p1 aF aO aH bZ u8 u9=some X7:=aA
  obtain _|bZ:=bZ
  ·cases aA
  rw[C4.eq_2]at aA
  refine ifB aA (λcK aA=>?_) λcK aA=>?_
  ·refine Or.inl (aI (aI (by kernel_rfl) (by kernel_rfl)) ?_)
   refine ldI aA (M4.mono aR bX) λfQ cL aA=>?_
   obtain⟨eZ,cM,aA⟩:=B0 aA
   refine eX (.bool eZ) (aI (c8 _ _ cL 0 (by decide) (IntKind.i64.wrap (aF-1)) (I0 _) _  cM) ?_)
   refine ldG aA (M4.mono aR bX) λfR fA aA=>?_
   obtain⟨fS,cN,aA⟩:=B0 aA
   obtain⟨eC,bN,cO⟩:=P05 aU cN (v0i bM)
   refine aI (λq=>(bN q).1) ?_
   obtain⟨rfl,fB⟩:=cO
   refine eX _ (aI (λq=>(bN q).2) ?_)
   refine ifB aA (λcP aA=>?_) λcP aA=>?_
   ·refine trM aA (B5 _ _ _ (l0 aG aJ (J0.mono aR aC))) ?_
    rintro fT aA fU fC ⟨eD,rfl,bO⟩
    have cQ:Sub bM fC:=bO.sub
    have cR:=bO.r
    obtain⟨bP,bQ,aV,cS,aW,bR,rfl,rfl,aX,aY,aK⟩:=C0 cR
    obtain⟨rfl,cT⟩:=Sl.len aK
    try dsimp only at aA
    obtain rfl:=oJ aA
    try dsimp only[J5,K5]at aB
    obtain rfl:=oJ aB
    exact⟨([.int .i64 bP,.int .i64 bQ,.slice aV bR.length aW]),rfl,(l0 aX aY aK),(aR.trans cQ)⟩
   ·refine ldI aA (M4.mono aR bX) λcU fD aA=>?_
    obtain⟨fV,cV,aA⟩:=B0 aA
    obtain⟨cW,eE,cX,cY⟩:=j5 aU cV
    refine aI cW ?_
    obtain⟨rfl,fE⟩:=cY
    refine eX _ (aI cX ?_)
    exact A3 bZ ⟨(IntKind.i64.wrap (u8+1)),(bY.set cU.toNat [.int .i64 (IntKind.i64.wrap (u8+1))]),(u9.set cU.toNat (IntKind.i64.wrap (u8+1))),rfl,rfl,aR,(I0 _),(F2.set (p:=Wp.int.R bM) (a:=[.int .i64 (IntKind.i64.wrap (u8+1))]) (b:=(IntKind.i64.wrap (u8+1))) ⟨rfl,(I0 _)⟩ cU.toNat aU),aA⟩
  ·obtain rfl:=oJ aA
   try dsimp only[C1,E1]at aB
   obtain⟨X23,bS,aB⟩:=B0 aB
   refine eX { vars:=[9],boxes:=[2],owns:=[],fuel:=true } (eX (λvs os h'=>∃ aZ aS aT aL bA aM bB,vs.tail = [.int .i64 aZ,.int .i64 aS,.int .i64 aT,.slice aL bA aM]/\os = []/\Sub bM h'/\O0 aZ/\O0 aS/\O0 aT/\J0.R h' [.slice aL bA aM] bB/\P3 aH u9 (D2 vs) aZ aS aT bB=some X23) (eX (λ_ _=>0) (aI (eX U0 ⟨0,aO,((p1.length:Nat):Int),none,0,0,[],rfl,rfl,(Sub.refl _),(by decide),aG,(f0b eQ),(c09 H1 bM),bS⟩) ?_)))
   rintro _ _ _ _ bT fF ⟨aZ,aS,aT,aL,bA,aM,bB,⟨⟩,⟨⟩,aD,fH,bC,bD,aP,aA⟩
   replace aA:P3 aH u9 bT aZ aS aT bB=some X23:=aA
   obtain _|bT:=bT
   ·cases aA
   rw[P3.eq_2]at aA
   obtain⟨rfl,fI⟩:=Sl.len aP
   refine ifB aA (λcZ aA=>?_) λcZ aA=>?_
   ·refine ld aA (J0.mono (aR.trans aD) aC) λfW eF dA aA=>?_
    obtain⟨eG,aN,eH,rfl,rfl,dB,bE,dC⟩:=U1 dA
    try dsimp only at aA
    obtain⟨fX,dD,aA⟩:=B0 aA
    obtain⟨dE,eI,dF,dG⟩:=j5 (F2.up (r:=Wp.int.toRp) aD aU) dD
    refine aI dE ?_
    obtain⟨rfl,fJ⟩:=dG
    refine eX _ (aI dF ?_)
    obtain⟨fY,dH,aA⟩:=B0 aA
    obtain⟨eJ,bU,dI⟩:=P05 (F2.up (r:=Wp.int.toRp) aD aU) dH (v0i fF)
    refine aI (λq=>(bU q).1) ?_
    obtain⟨rfl,fK⟩:=dI
    refine eX _ (aI (λq=>(bU q).2) ?_)
    refine ifB aA (λdJ aA=>?_) λdJ aA=>?_
    ·refine Or.inr (Or.inr (Or.inl (aI (aI (by kernel_rfl) (by kernel_rfl)) ?_)))
     obtain⟨cA,dK,aA⟩:=B0 aA
     obtain⟨dL,eM,dM,dN⟩:=j5 (F2.up (r:=Wp.int.toRp) aD aU) dK
     obtain⟨rfl,fL⟩:=dN
     refine Or.inl ?_
     apply eX
     refine aI ?_ ?_
     ·intro fZ gA
      exact aI dL (aI rfl (aI rfl rfl))
     refine Or.inl (eX (.val (.int .i64 cA)) (aI ?_ ?_))
     ·intro gB gC
      exact eX _ (aI dM (aI rfl (aI rfl rfl)))
     obtain⟨cC,dO,aA⟩:=B0 aA
     obtain⟨dP,eN,dQ,dR⟩:=j5 (F2.up (r:=Wp.int.toRp) aD aU) dO
     obtain⟨rfl,fM⟩:=dR
     refine Or.inl ?_
     apply eX
     refine aI ?_ ?_
     ·intro gD gE
      exact aI dP (aI rfl (aI rfl rfl))
     refine Or.inl (eX (.val (.int .i64 cC)) (aI ?_ ?_))
     ·intro gF gG
      exact eX _ (aI dQ (aI rfl (aI rfl rfl)))
     refine Or.inl (eX (.agg [.val (.int .i64 (IntKind.i64.wrap (cA-1))),.val (.int .i64 aN),.val (.int .i64 (IntKind.i64.wrap (cC-1)))]) (aI ?_ ?_))
     ·intro gH gI
      exact aI rfl (aI rfl rfl)
     refine Or.inr ?_
     refine Or.inr ?_
     refine Or.inl (eX 1 (aI (aI rfl rfl) ?_))
     refine trM aA (T9 _ _ _ _ _ aP [.int .i64 (IntKind.i64.wrap (cA-1)),.int .i64 aN,.int .i64 (IntKind.i64.wrap (cC-1))] ((IntKind.i64.wrap (cA-1)),aN,(IntKind.i64.wrap (cC-1))) (T1 (I0 _) bE (I0 _))) ?_
     rintro eO aA gJ gK ⟨dS,fN,dT,rfl,bV,bW⟩
     obtain⟨rfl,fO⟩:=Sl.len bV
     refine aI (aI rfl bW) (aI (by first|exact trivial|exact rfl) ?_)
     refine aI trivial (aI (by first|exact trivial|exact rfl) ?_)
     exact A3 bT ⟨(IntKind.i64.wrap (aZ+1)),aS,aT,dS,eO.length,dT,eO,rfl,rfl,(aD.trans bW),(I0 _),bC,bD,bV,aA⟩
    ·exact A3 bT ⟨(IntKind.i64.wrap (aZ+1)),aS,aT,aL,bB.length,aM,bB,rfl,rfl,aD,(I0 _),bC,bD,aP,aA⟩
   ·obtain rfl:=oJ aA
    try dsimp only[C1,E1]at aB
    obtain rfl:=oJ aB
    exact⟨([.int .i64 aS,.int .i64 aT,.slice aL bB.length aM]),rfl,(l0 bC bD aP),(aR.trans aD)⟩
theorem z04(h:Hp)(p0:Int)(aT:O0 p0)(r:Y0)(aC:M7 p0=some r):
  Tr Tryz.prog 319 #[.int .i64 p0] h λv h'=>∃(a0:Option Addr) (n0 c0:Nat),v = .slice a0 n0 c0/\M4.R h' [.slice a0 n0 c0] r/\Sub h h':=by
 unfold M7 at aC
 refine D3 (args:=[.int .i64 p0]) (fn:=Tryz.f319) rfl ?_
 obtain⟨X1,aG,aC⟩:=B0 aC
 refine eX { vars:=[4],boxes:=[],owns:=[0],fuel:=true } (eX (λvs os h'=>∃ u2 aD u3,vs.tail = [.int .i64 u2]/\os = [aD]/\Sub h h'/\O0 u2/\F2 (Wp.int.R h') aD u3/\N5 p0 (D2 vs) u2 u3=some X1) (eX (λ_ _=>0) (aI (eX U0 ⟨1,[],([]:Y0),rfl,rfl,(Sub.refl _),(by decide),(show F2 (Wp.int.R h) ([]:List (List Value)) ([]:Y0) from trivial),aG⟩) ?_)))
 rintro _ aD m5 k4 ⟨u2,aN,u3,⟨⟩,⟨⟩,aM,aF,aB,aA⟩
 replace aA:N5 p0 m5 u2 u3=some X1:=aA
 obtain _|m5:=m5
 ·cases aA
 rw[N5.eq_2]at aA
 refine ifB aA (λaO aA=>?_) λaO aA=>?_
 ·obtain⟨q7,aP,aA⟩:=B0 aA
  refine aI (J2 aP (by first|rw[F2.length aB,F2.length (show F2 (Wp.int.R k4) ([[.int .i64 u2]]:List (List Value)) [u2] from⟨⟨rfl,aF⟩,trivial⟩)]|exact congrArg (·+1) (F2.length aB))) ?_
  obtain⟨q8,aQ,aA⟩:=B0 aA
  refine aI (J2 aQ (by first|rw[F2.length (F2.append aB (show F2 (Wp.int.R k4) ([[.int .i64 u2]]:List (List Value)) [u2] from⟨⟨rfl,aF⟩,trivial⟩)),F2.length (show F2 (Wp.int.R k4) ([[.int .i64 (IntKind.i64.wrap (0-u2))]]:List (List Value)) [(IntKind.i64.wrap (0-u2))] from⟨⟨rfl,(I0 _)⟩,trivial⟩)]|exact congrArg (·+1) (F2.length (F2.append aB (show F2 (Wp.int.R k4) ([[.int .i64 u2]]:List (List Value)) [u2] from⟨⟨rfl,aF⟩,trivial⟩))))) ?_
  exact A3 m5 ⟨(IntKind.i64.wrap (u2+1)),((aD++([[.int .i64 u2]]:List (List Value)))++([[.int .i64 (IntKind.i64.wrap (0-u2))]]:List (List Value))),((u3 ++ [u2]) ++ [(IntKind.i64.wrap (0-u2))]),rfl,rfl,aM,(I0 _),(F2.append (F2.append aB (show F2 (Wp.int.R k4) ([[.int .i64 u2]]:List (List Value)) [u2] from⟨⟨rfl,aF⟩,trivial⟩)) (show F2 (Wp.int.R k4) ([[.int .i64 (IntKind.i64.wrap (0-u2))]]:List (List Value)) [(IntKind.i64.wrap (0-u2))] from⟨⟨rfl,(I0 _)⟩,trivial⟩)),aA⟩
 ·obtain rfl:=oJ aA
  try dsimp only[C1,E1]at aC
  intro v9 aU aR
  obtain⟨aH,aJ,rfl,aK,aL,aS⟩:=O1.out (r:=Wp.int.toRp) aR aB
  obtain rfl:=oJ aC
  exact⟨aH,u3.length,aJ,rfl,aK,(aM.trans aL)⟩
theorem k05(h:Hp)(aX:List Value)(p0:j0)(cH:D1.R h aX p0)(r:Y0)(aD:H7 p0=some r):
  Tr Tryz.prog 335 #[.agg aX.toArray] h λv h'=>∃(a0:Option Addr) (n0 c0:Nat),v = .slice a0 n0 c0/\M4.R h' [.slice a0 n0 c0] r/\Sub h h':=by
 obtain⟨aG,aH,aY,bY,aZ,aJ,rfl,rfl,aK,aP,aL⟩:=C0 cH
 obtain⟨rfl,bZ⟩:=Sl.len aL
 unfold H7 at aD
 dsimp only at aD
 refine D3 (args:=[.agg #[.int .i64 aG,.int .i64 aH,.slice aY aJ.length aZ]]) (fn:=Tryz.f335) rfl ?_
 refine trV aD (j01 _ _ _ (l0 aK aP aL)) λx1 aD=>?_
 refine ifB aD (λcI aD=>?_) λcI aD=>?_
 ·intro v3 k4 f5
  obtain⟨cJ,cK,rfl,cL,cM,cZ⟩:=O1.out (r:=Wp.int.toRp) f5 (show F2 (Wp.int.R h) ([]:List (List Value)) ([]:Y0) from trivial)
  obtain rfl:=oJ aD
  exact⟨cJ,(([]:Y0)).length,cK,rfl,cL,cM⟩
 ·refine trM aD (z04 _ _ aK) ?_
  rintro x7 aD v9 k8 ⟨dA,dB,dC,rfl,cA,bE⟩
  obtain⟨rfl,dD⟩:=Sl.len cA
  obtain⟨X10,bA,aD⟩:=B0 aD
  refine eX { vars:=[5],boxes:=[],owns:=[0],fuel:=true } (eX (λvs os h'=>∃ aQ aM aW,vs.tail = [.int .i64 aQ]/\os = [aM]/\Sub k8 h'/\O0 aQ/\F2 (Wp.int.R h') aM aW/\T4 x7 aG aH aJ (D2 vs) aQ aW=some X10) (eX (λ_ _=>0) (aI (eX U0 ⟨0,([[.int .i64 0]]:List (List Value)),[0],rfl,rfl,(Sub.refl _),(by decide),(F2.up (r:=Wp.int.toRp) bE (show F2 (Wp.int.R h) ([[.int .i64 0]]:List (List Value)) [0] from⟨⟨rfl,(by decide)⟩,trivial⟩)),bA⟩) ?_)))
  rintro _ aM bD cN ⟨aQ,cC,aW,⟨⟩,⟨⟩,aO,cO,aS,aB⟩
  replace aB:T4 x7 aG aH aJ bD aQ aW=some X10:=aB
  obtain _|bD:=bD
  ·cases aB
  rw[T4.eq_2]at aB
  obtain⟨cP,bF,aB⟩:=B0 aB
  obtain rfl:aM.length=cP:=(F2.length aS).trans (oJ bF)
  obtain⟨dE,cQ,aB⟩:=B0 aB
  refine ifB aB (λbG aB=>?_) λbG aB=>?_
  ·obtain⟨X18,bB,aB⟩:=B0 aB
   refine eX { vars:=[6],boxes:=[],owns:=[0],fuel:=true } (eX (λvs os h'=>∃ aT aF aU,vs.tail = [.int .i64 aT]/\os = [aF]/\Sub cN h'/\O0 aT/\F2 (Wp.int.R h') aF aU/\N3 x7 aQ aG aH aJ (D2 vs) aT aU=some X18) (eX (λ_ _=>0) (aI (eX U0 ⟨0,aM,aW,rfl,rfl,(Sub.refl _),(by decide),aS,bB⟩) ?_)))
   rintro _ aF bC cD ⟨aT,cE,aU,⟨⟩,⟨⟩,aN,cR,aC,aA⟩
   replace aA:N3 x7 aQ aG aH aJ bC aT aU=some X18:=aA
   obtain _|bC:=bC
   ·cases aA
   rw[N3.eq_2]at aA
   refine ifB aA (λbH aA=>?_) λbH aA=>?_
   ·refine Or.inl (aI (aI (by kernel_rfl) (by kernel_rfl)) ?_)
    obtain⟨dF,bI,aA⟩:=B0 aA
    obtain⟨bJ,cG,bK,bL⟩:=j5 aC bI
    refine aI bJ ?_
    obtain⟨rfl,bM⟩:=bL
    refine eX _ (aI bK ?_)
    refine ldI aA (M4.mono (aO.trans aN) cA) λdG bN aA=>?_
    obtain⟨aR,bO,aA⟩:=B0 aA
    refine eX (.int .i64 aR) (aI (n7 _ _ _ (l0 aK aP (J0.mono ((bE.trans aO).trans aN) aL)) _ bM _ bN _  bO) ?_)
    obtain⟨dH,bP,aA⟩:=B0 aA
    have aV:O0 aR:=A2 bP
    obtain⟨cS,bQ,aA⟩:=B0 aA
    refine eX (.bool cS) (aI ?_ ?_)
    ·intro hq
     intro dI dJ cT
     obtain⟨cU,cV,rfl,bR,cW,cX⟩:=O1.out (r:=Wp.int.toRp) cT aC
     exact K01 _ _ _ _ _ bR _ aV _ (F7 bQ hq)
    refine ifB aA (λbS aA=>?_) λbS aA=>?_
    ·obtain⟨dK,bT,aA⟩:=B0 aA
     refine aI (J2 bT (by first|rw[F2.length aC,F2.length (show F2 (Wp.int.R cD) ([[.int .i64 aR]]:List (List Value)) [aR] from⟨⟨rfl,aV⟩,trivial⟩)]|exact congrArg (·+1) (F2.length aC))) ?_
     exact A3 bC ⟨(IntKind.i64.wrap (aT+1)),(aF++([[.int .i64 aR]]:List (List Value))),(aU ++ [aR]),rfl,rfl,aN,(I0 _),(F2.append aC (show F2 (Wp.int.R cD) ([[.int .i64 aR]]:List (List Value)) [aR] from⟨⟨rfl,aV⟩,trivial⟩)),aA⟩
    ·exact A3 bC ⟨(IntKind.i64.wrap (aT+1)),aF,aU,rfl,rfl,aN,(I0 _),aC,aA⟩
   ·obtain rfl:=oJ aA
    try dsimp only[C1,E1]at aB
    exact A3 bD ⟨(IntKind.i64.wrap (aQ+1)),aF,aU,rfl,rfl,(aO.trans aN),(I0 _),aC,aB⟩
  ·obtain rfl:=oJ aB
   try dsimp only[C1,E1]at aD
   intro dL dM f41
   obtain⟨bU,bV,rfl,bW,bX,cY⟩:=O1.out (r:=Wp.int.toRp) f41 aS
   obtain rfl:=oJ aD
   exact⟨bU,aW.length,bV,rfl,bW,((bE.trans aO).trans bX)⟩
theorem P01(h:Hp)(aQ:List Value)(p0:j0)(bO:D1.R h aQ p0)(r:j0)(aA:s6 p0=some r):
  Tr Tryz.prog 295 #[.agg aQ.toArray] h λv h'=>∃(bH:List Value),v = .agg bH.toArray/\D1.R h' bH r/\Sub h h':=by
 obtain⟨bA,bB,aR,bI,aS,bC,rfl,rfl,aD,aF,aB⟩:=C0 bO
 obtain⟨rfl,bJ⟩:=Sl.len aB
 unfold s6 at aA
 dsimp only at aA
 refine D3 (args:=[.agg #[.int .i64 bA,.int .i64 bB,.slice aR bC.length aS]]) (fn:=Tryz.f295) rfl ?_
 refine trM aA (k05 _ _ _ (l0 aD aF aB)) ?_
 rintro x1 aA v3 k2 ⟨bW,bX,bY,rfl,bK,aX⟩
 obtain⟨rfl,bZ⟩:=Sl.len bK
 refine ifB aA (λbP aA=>?_) λbP aA=>?_
 ·refine trM aA (B5 _ _ _ (l0 aD aF (J0.mono aX aB))) ?_
  rintro x5 aA v7 k6 ⟨bQ,rfl,bL⟩
  have bR:Sub k2 k6:=bL.sub
  have bS:=bL.r
  obtain⟨bD,bE,aT,bM,aU,bF,rfl,rfl,aV,aW,aL⟩:=C0 bS
  obtain⟨rfl,bN⟩:=Sl.len aL
  try dsimp only at aA
  obtain rfl:=oJ aA
  exact⟨([.int .i64 bD,.int .i64 bE,.slice aT bF.length aU]),rfl,(l0 aV aW aL),(aX.trans bR)⟩
 ·refine trM aA (u02 _ _ _ (l0 aD aF (J0.mono aX aB)) _ _ _ _ bK) ?_
  rintro x8 aA cA k9 ⟨bG,rfl,aM,bT⟩
  obtain⟨bU,bV⟩:=x8
  dsimp only at aA aM
  obtain⟨aN,aO,aG,aY,aH,aP,rfl,rfl,aJ,aK,aC⟩:=C0 aM
  obtain⟨rfl,aZ⟩:=Sl.len aC
  try dsimp only at aA
  obtain rfl:=oJ aA
  exact⟨([.int .i64 aN,.int .i64 aO,.slice aG aP.length aH]),rfl,(l0 aJ aK aC),(aX.trans bT)⟩
theorem u0c(h:Hp)(aR:List Value)(p0:j0)(bN:D1.R h aR p0)(r:Bool)(aD:p9 p0=some r):
  Tr Tryz.prog 211 #[.agg aR.toArray] h λv h'=>v = .bool r/\h'=h:=by
 obtain⟨aY,aZ,aS,bH,aT,bA,rfl,rfl,aF,aG,aC⟩:=C0 bN
 obtain⟨rfl,bI⟩:=Sl.len aC
 unfold p9 at aD
 dsimp only at aD
 refine Tr.forget (D3 (args:=[.agg #[.int .i64 aY,.int .i64 aZ,.slice aS bA.length aT]]) (fn:=Tryz.f211) rfl ?_)
 refine Or.inr (Or.inr (Or.inr (Or.inl (aI (aI (by kernel_rfl) (by kernel_rfl)) ?_))))
 obtain⟨x1,bO,aD⟩:=B0 aD
 refine Or.inl (eX (.val (.bool x1)) (aI ?_ ?_))
 ·intro k2 s3
  exact Tr.val (j01 _ _ _ (l0 aF aG (J0.mono s3 aC)) _ bO) (aI rfl (aI rfl rfl))
 obtain⟨x4,bP,aD⟩:=B0 aD
 obtain⟨q5,bQ,aD⟩:=B0 aD
 have bW:O0 x4:=A2 bQ
 refine Or.inl (eX (.val (.int .i64 x4)) (aI ?_ ?_))
 ·intro k6 s7 hq
  exact Tr.val (N06 _ _ _ (l0 aF aG (J0.mono s7 aC)) _ (F7 bP hq)) (aI rfl (aI rfl rfl))
 refine Or.inl (eX (.val (.bool (decide (x4<0)))) (aI ?_ ?_))
 ·intro k8 s9 hq
  exact aI rfl (aI rfl rfl)
 obtain⟨bR,bB,aD⟩:=B0 aD
 obtain⟨aP,aQ,aH⟩:=bR
 try dsimp only at aD
 refine Or.inr (eX (λv hh=>∃(aA:Option Addr) (aB:Nat),v = .agg #[.int .i64 aP,.int .i64 aQ,.slice aA aH.length aB]/\O0 aP/\O0 aQ/\J0.R hh [.slice aA aH.length aB] aH/\aH.length<=9223372036854775807) (aI (λv h1 h2 sb q=>by obtain⟨aA,aB,e,f0,f1,f2,f3⟩:=q;exact⟨aA,aB,e,f0,f1,J0.mono sb f2,f3⟩) (aI ?_ ?_)))
 ·intro bX bS hq
  refine Tr.mono (P01 _ _ _ (l0 aF aG (J0.mono bS aC)) _ (F7 bB hq)) ?_
  rintro _ kk ⟨bJ,rfl,bC,sb⟩
  obtain⟨bD,bE,aK,aX,aL,bF,rfl,ey,aM,aN,aJ⟩:=C0 bC
  cases ey
  obtain⟨rfl,aO⟩:=Sl.len aJ
  exact aI g0b (aI sb ⟨aK,aL,rfl,aM,aN,aJ,aO⟩)
 obtain⟨bT,bG,aD⟩:=B0 aD
 refine Or.inl (eX (.val (.bool bT)) (aI ?_ ?_))
 ·intro bY bU hq
  rintro _ ⟨bK,bL,rfl,aU,aV,aW,bM⟩
  exact Tr.val (p07 _ _ _ (l0 aU aV aW) _ _ (l0 aF aG (J0.mono bU aC)) _ (F7 bG hq)) (aI rfl (aI rfl rfl))
 intro bZ bV
 obtain rfl:=oJ aD
 exact aI rfl bV
theorem h8(h:Hp)(aB:List Value)(p0:j0)(aO:D1.R h aB p0)(r:Bool)(aC:C3 p0=some r):
  Tr Tryz.prog 103 #[.agg aB.toArray] h λv h'=>v = .bool r/\h'=h:=by
 obtain⟨aJ,aK,aD,aM,aF,aL,rfl,rfl,aG,aH,aA⟩:=C0 aO
 obtain⟨rfl,aN⟩:=Sl.len aA
 unfold C3 at aC
 dsimp only at aC
 refine Tr.forget (D3 (args:=[.agg #[.int .i64 aJ,.int .i64 aK,.slice aD aL.length aF]]) (fn:=Tryz.f103) rfl ?_)
 refine trV aC (u0c _ _ _ (l0 aG aH aA)) λx1 aC=>?_
 obtain rfl:=oJ aC
 exact aI rfl (Sub.refl _)
theorem O06(h:Hp)(p0:ByteArray)(aG:p0.size<=9223372036854775807)(r:Bool)(aB:g00 p0=some r):
  Tr Tryz.prog 130 #[.string p0] h λv h'=>v = .bool r/\h'=h:=by
 unfold g00 at aB
 refine Tr.forget (D3 (args:=[.string p0]) (fn:=Tryz.f130) rfl ?_)
 obtain⟨X1,aC,aB⟩:=B0 aB
 refine eX { vars:=[3],boxes:=[],owns:=[],fuel:=true } (eX (λvs os h'=>∃ u2,vs.tail = [.int .i64 u2]/\os = []/\Sub h h'/\O0 u2/\C7 p0 (D2 vs) u2=some X1) (eX (λ_ _=>0) (aI (eX U0 ⟨0,rfl,rfl,(Sub.refl _),(by decide),aC⟩) ?_)))
 rintro _ m4 k3 ⟨u2,⟨⟩,⟨⟩,aD,aN,aA⟩
 replace aA:C7 p0 m4 u2=some X1:=aA
 obtain _|m4:=m4
 ·cases aA
 rw[C7.eq_2]at aA
 refine ifB aA (λaH aA=>?_) λaH aA=>?_
 ·obtain⟨x6,aJ,aA⟩:=B0 aA
  refine eX _ (aI (t02 aJ) ?_)
  obtain⟨x7,aK,aA⟩:=B0 aA
  refine eX x7 (aI (λq=>t02 (F7 aK q)) ?_)
  obtain⟨x8,aL,aA⟩:=B0 aA
  refine eX x8 (aI (λq=>t02 (F7 aL q)) ?_)
  obtain⟨x9,aM,aA⟩:=B0 aA
  refine eX x9 (aI (λq=>t02 (F7 aM q)) ?_)
  refine ifB aA (λaF aA=>?_) λaF aA=>?_
  ·obtain rfl:=oJ aA
   try dsimp only[J5,K5]at aB
   obtain rfl:=oJ aB
   exact aI rfl aD
  ·exact A3 m4 ⟨(IntKind.i64.wrap (u2+1)),rfl,rfl,aD,(I0 _),aA⟩
 ·obtain rfl:=oJ aA
  try dsimp only[C1,E1]at aB
  refine trV aB (c8 _ _ (f0b aG) 1 (by decide) 8 (by decide)) λaO aB=>?_
  obtain rfl:=oJ aB
  exact aI rfl aD
theorem A04(h:Hp)(aH:List Value)(p0:Q0)(bH:Y1.R h aH p0)(r:Bool)(aC:B8 p0=some r):
  Tr Tryz.prog 129 #[.agg aH.toArray] h λv h'=>v = .bool r/\h'=h:=by
 obtain⟨aF,aJ,aT,aK,aG,rfl,rfl,aL,aB⟩:=L1 bH
 obtain⟨rfl,aU⟩:=Sl.len aB
 unfold B8 at aC
 dsimp only at aC
 refine Tr.forget (D3 (args:=[.agg #[.int .i64 aF,.slice aJ aG.length aK]]) (fn:=Tryz.f129) rfl ?_)
 obtain⟨X1,aR,aC⟩:=B0 aC
 refine eX { vars:=[3],boxes:=[],owns:=[],fuel:=true } (eX (λvs os h'=>∃ u2,vs.tail = [.int .i64 u2]/\os = []/\Sub h h'/\O0 u2/\O5 aG aF (D2 vs) u2=some X1) (eX (λ_ _=>0) (aI (eX U0 ⟨0,rfl,rfl,(Sub.refl _),(by decide),aR⟩) ?_)))
 rintro _ m4 k3 ⟨u2,⟨⟩,⟨⟩,aM,cA,aA⟩
 replace aA:O5 aG aF m4 u2=some X1:=aA
 obtain _|m4:=m4
 ·cases aA
 rw[O5.eq_2]at aA
 refine ifB aA (λbI aA=>?_) λbI aA=>?_
 ·obtain⟨x6,bJ,aA⟩:=B0 aA
  obtain⟨bK,bL,bM,bN⟩:=Sl.getI (r:=Z0.toRp) (Z1.mono aM aB) bJ (by decide)
  refine aI bK ?_
  obtain⟨bO,bP,bQ,aV,aW,aX,bR,rfl,rfl,aN,aO,aP,aD⟩:=j3 bN
  obtain⟨rfl,aY⟩:=Sl.len aD
  try dsimp only at aA
  refine eX _ (aI bM ?_)
  refine Or.inl (aI (aI (by kernel_rfl) (by kernel_rfl)) ?_)
  obtain⟨x7,bS,aA⟩:=B0 aA
  refine eX (.bool x7) (aI (O06 _ _ aN _  bS) ?_)
  refine trG aA (λq=>h8 _ _ _ (l0 aO aP aD)) λx8 aA=>?_
  obtain⟨x9,bT,aA⟩:=B0 aA
  obtain⟨bU,aZ,bV⟩:=Sl.getG (r:=Z0.toRp) (Z1.mono aM aB) bT (by decide) (h0e k3)
  refine aI (λq=>(aZ q).1) ?_
  obtain⟨bW,bX,bY,bA,bB,bC,bZ,rfl,rfl,bD,bE,bF,aQ⟩:=j3 bV
  obtain⟨rfl,bG⟩:=Sl.len aQ
  try dsimp only at aA
  refine eX _ (aI (λq=>(aZ q).2) ?_)
  refine ifB aA (λaS aA=>?_) λaS aA=>?_
  ·obtain rfl:=oJ aA
   try dsimp only[J5,K5]at aC
   obtain rfl:=oJ aC
   exact aI rfl aM
  ·exact A3 m4 ⟨(IntKind.i64.wrap (u2+1)),rfl,rfl,aM,(I0 _),aA⟩
 ·obtain rfl:=oJ aA
  try dsimp only[C1,E1]at aC
  refine trV aC (c8 _ _ aL 1 (by decide) 3 (by decide)) λcC aC=>?_
  obtain rfl:=oJ aC
  exact aI rfl aM
theorem e0a(h:Hp)(aB:Option Addr)(aG aC:Nat)(p0:Y0)(aH:M4.R h [.slice aB aG aC] p0)(r:Y0)(aA:Z9 p0=some r):
  Tr Tryz.prog 93 #[.slice aB aG aC] h λv h'=>∃(g0:Nat) (n0 c0:Nat),v = .slice (some ⟨g0,0,none⟩) n0 c0/\New M4 h h' [.slice (some ⟨g0,0,none⟩) n0 c0] r:=by
 obtain⟨rfl,aN⟩:=Sl.len aH
 unfold Z9 at aA
 refine D3 (args:=[.slice aB p0.length aC]) (fn:=Tryz.f93) rfl ?_
 obtain⟨aD,aJ,aF⟩:=Sl.rows (r:=Wp.int.toRp) aH
 refine eX aD (aI aJ ?_)
 obtain⟨q2,aK,aA⟩:=B0 aA
 refine aI (J2 aK (by first|rw[F2.length (show F2 (Wp.int.R h) ([]:List (List Value)) ([]:Y0) from trivial),F2.length aF]|exact congrArg (·+1) (F2.length (show F2 (Wp.int.R h) ([]:List (List Value)) ([]:Y0) from trivial)))) ?_
 intro v3 k4 f5
 obtain⟨aL,aM,rfl,aO,aP,aQ⟩:=O1.outS (r:=Wp.int.toRp) f5 (F2.append (show F2 (Wp.int.R h) ([]:List (List Value)) ([]:Y0) from trivial) aF)
 obtain rfl:=oJ aA
 exact⟨aL,((([]:Y0)++p0)).length,aM,rfl,(O1.newPlain (r:=Wp.int) f5 (F2.append (show F2 (Wp.int.R h) ([]:List (List Value)) ([]:Y0) from trivial) aF) (u0i _))⟩
theorem b0c(h:Hp)(aU:List Value)(p0:j0)(cC:D1.R h aU p0)(r:W7)(aT:C00 p0=some r):
  Tr Tryz.prog 376 #[.agg aU.toArray] h λv h'=>∃(a0:Option Addr) (n0 c0:Nat),v = .slice a0 n0 c0/\g0e.R h' [.slice a0 n0 c0] r/\Sub h h':=by
 obtain⟨aZ,bA,aV,bS,aW,aM,rfl,rfl,bT,bU,aN⟩:=C0 cC
 obtain⟨rfl,bV⟩:=Sl.len aN
 unfold C00 at aT
 dsimp only at aT
 refine D3 (args:=[.agg #[.int .i64 aZ,.int .i64 bA,.slice aV aM.length aW]]) (fn:=Tryz.f376) rfl ?_
 obtain⟨X1,bB,aT⟩:=B0 aT
 refine eX { vars:=[4],boxes:=[],owns:=[0],fuel:=true } (eX (λvs os h'=>∃ u2 aX u3,vs.tail = [.int .i64 u2]/\os = [aX]/\Sub h h'/\O0 u2/\F2 (O3.R h') aX u3/\W6 aM (D2 vs) u2 u3=some X1) (eX (λ_ _=>0) (aI (eX U0 ⟨0,[],([]:W7),rfl,rfl,(Sub.refl _),(by decide),(show F2 (O3.R h) ([]:List (List Value)) ([]:W7) from trivial),bB⟩) ?_)))
 rintro _ aX m5 k4 ⟨u2,cD,u3,⟨⟩,⟨⟩,aY,cJ,bW,aL⟩
 replace aL:W6 aM m5 u2 u3=some X1:=aL
 obtain _|m5:=m5
 ·cases aL
 rw[W6.eq_2]at aL
 refine ifB aL (λcE aL=>?_) λcE aL=>?_
 ·obtain⟨X7,bC,aL⟩:=B0 aL
  refine eX { vars:=[5],boxes:=[],owns:=[0],fuel:=true } (eX (λvs os h'=>∃ u8 aQ u9,vs.tail = [.int .i64 u8]/\os = [aQ]/\Sub k4 h'/\O0 u8/\F2 (O3.R h') aQ u9/\c4 aM u2 (D2 vs) u8 u9=some X7) (eX (λ_ _=>0) (aI (eX U0 ⟨(IntKind.i64.wrap (u2+1)),aX,u3,rfl,rfl,(Sub.refl _),(I0 _),bW,bC⟩) ?_)))
  rintro _ aQ aR aP ⟨u8,cG,u9,⟨⟩,⟨⟩,aS,cK,aO,aK⟩
  replace aK:c4 aM u2 aR u8 u9=some X7:=aK
  obtain _|aR:=aR
  ·cases aK
  rw[c4.eq_2]at aK
  refine ifB aK (λbD aK=>?_) λbD aK=>?_
  ·refine ld aK (J0.mono (aY.trans aS) aN) λcL bX bE aK=>?_
   obtain⟨aC,bY,aA,rfl,rfl,aH,bF,aF⟩:=U1 bE
   try dsimp only at aK
   refine ld aK (J0.mono (aY.trans aS) aN) λcM bZ bG aK=>?_
   obtain⟨aD,cA,aB,rfl,rfl,aJ,bH,aG⟩:=U1 bG
   try dsimp only at aK
   refine ifB aK (λbI aK=>?_) λbI aK=>?_
   ·obtain⟨cN,bJ,aK⟩:=B0 aK
    refine aI (J2 bJ (by first|rw[F2.length aO,F2.length (show F2 (O3.R aP) ([[.int .i64 (if aB<aA then aB else aA),.int .i64 (if aB>aA then aB else aA)]]:List (List Value)) [((if aB<aA then aB else aA),(if aB>aA then aB else aA))] from⟨(C2 (G7 aG aF) (G7 aG aF)),trivial⟩)]|exact congrArg (·+1) (F2.length aO))) ?_
    refine ifB aK (λbK aK=>?_) λbK aK=>?_
    ·obtain⟨cO,bL,aK⟩:=B0 aK
     refine aI (J2 bL (by first|rw[F2.length (F2.append aO (show F2 (O3.R aP) ([[.int .i64 (if aB<aA then aB else aA),.int .i64 (if aB>aA then aB else aA)]]:List (List Value)) [((if aB<aA then aB else aA),(if aB>aA then aB else aA))] from⟨(C2 (G7 aG aF) (G7 aG aF)),trivial⟩)),F2.length (show F2 (O3.R aP) ([[.int .i64 (if aD<aC then aD else aC),.int .i64 (if aD>aC then aD else aC)]]:List (List Value)) [((if aD<aC then aD else aC),(if aD>aC then aD else aC))] from⟨(C2 (G7 aJ aH) (G7 aJ aH)),trivial⟩)]|exact congrArg (·+1) (F2.length (F2.append aO (show F2 (O3.R aP) ([[.int .i64 (if aB<aA then aB else aA),.int .i64 (if aB>aA then aB else aA)]]:List (List Value)) [((if aB<aA then aB else aA),(if aB>aA then aB else aA))] from⟨(C2 (G7 aG aF) (G7 aG aF)),trivial⟩))))) ?_
     exact A3 aR ⟨(IntKind.i64.wrap (u8+1)),((aQ++([[.int .i64 (if aB<aA then aB else aA),.int .i64 (if aB>aA then aB else aA)]]:List (List Value)))++([[.int .i64 (if aD<aC then aD else aC),.int .i64 (if aD>aC then aD else aC)]]:List (List Value))),((u9 ++ [((if aB<aA then aB else aA),(if aB>aA then aB else aA))]) ++ [((if aD<aC then aD else aC),(if aD>aC then aD else aC))]),rfl,rfl,aS,(I0 _),(F2.append (F2.append aO (show F2 (O3.R aP) ([[.int .i64 (if aB<aA then aB else aA),.int .i64 (if aB>aA then aB else aA)]]:List (List Value)) [((if aB<aA then aB else aA),(if aB>aA then aB else aA))] from⟨(C2 (G7 aG aF) (G7 aG aF)),trivial⟩)) (show F2 (O3.R aP) ([[.int .i64 (if aD<aC then aD else aC),.int .i64 (if aD>aC then aD else aC)]]:List (List Value)) [((if aD<aC then aD else aC),(if aD>aC then aD else aC))] from⟨(C2 (G7 aJ aH) (G7 aJ aH)),trivial⟩)),aK⟩
    ·exact A3 aR ⟨(IntKind.i64.wrap (u8+1)),(aQ++([[.int .i64 (if aB<aA then aB else aA),.int .i64 (if aB>aA then aB else aA)]]:List (List Value))),(u9 ++ [((if aB<aA then aB else aA),(if aB>aA then aB else aA))]),rfl,rfl,aS,(I0 _),(F2.append aO (show F2 (O3.R aP) ([[.int .i64 (if aB<aA then aB else aA),.int .i64 (if aB>aA then aB else aA)]]:List (List Value)) [((if aB<aA then aB else aA),(if aB>aA then aB else aA))] from⟨(C2 (G7 aG aF) (G7 aG aF)),trivial⟩)),aK⟩
   ·refine ifB aK (λbM aK=>?_) λbM aK=>?_
    ·obtain⟨cP,bN,aK⟩:=B0 aK
     refine aI (J2 bN (by first|rw[F2.length aO,F2.length (show F2 (O3.R aP) ([[.int .i64 (if aD<aC then aD else aC),.int .i64 (if aD>aC then aD else aC)]]:List (List Value)) [((if aD<aC then aD else aC),(if aD>aC then aD else aC))] from⟨(C2 (G7 aJ aH) (G7 aJ aH)),trivial⟩)]|exact congrArg (·+1) (F2.length aO))) ?_
     exact A3 aR ⟨(IntKind.i64.wrap (u8+1)),(aQ++([[.int .i64 (if aD<aC then aD else aC),.int .i64 (if aD>aC then aD else aC)]]:List (List Value))),(u9 ++ [((if aD<aC then aD else aC),(if aD>aC then aD else aC))]),rfl,rfl,aS,(I0 _),(F2.append aO (show F2 (O3.R aP) ([[.int .i64 (if aD<aC then aD else aC),.int .i64 (if aD>aC then aD else aC)]]:List (List Value)) [((if aD<aC then aD else aC),(if aD>aC then aD else aC))] from⟨(C2 (G7 aJ aH) (G7 aJ aH)),trivial⟩)),aK⟩
    ·exact A3 aR ⟨(IntKind.i64.wrap (u8+1)),aQ,u9,rfl,rfl,aS,(I0 _),aO,aK⟩
  ·obtain rfl:=oJ aK
   try dsimp only[C1,E1]at aL
   exact A3 m5 ⟨(IntKind.i64.wrap (u2+1)),aQ,u9,rfl,rfl,(aY.trans aS),(I0 _),aO,aL⟩
 ·obtain rfl:=oJ aL
  try dsimp only[C1,E1]at aT
  intro cQ cR cH
  obtain⟨bO,bP,rfl,bQ,bR,cI⟩:=O1.out (r:=O3.toRp) cH bW
  obtain rfl:=oJ aT
  exact⟨bO,u3.length,bP,rfl,bQ,(aY.trans bR)⟩
theorem u09(h:Hp)(aF:List Value)(p0:j0)(aV:D1.R h aF p0)(r:L4×Bool)(aA:F8 p0=some r):
  Tr Tryz.prog 349 #[.agg aF.toArray] h λv h'=>∃(aQ:List Value),v = .tuple #[.agg aQ.toArray,.bool r.2]/\O3.R h' aQ r.1/\Sub h h':=by
 obtain⟨aL,aM,aG,aR,aH,aN,rfl,rfl,aC,aD,aB⟩:=C0 aV
 obtain⟨rfl,aS⟩:=Sl.len aB
 unfold F8 at aA
 dsimp only at aA
 refine D3 (args:=[.agg #[.int .i64 aL,.int .i64 aM,.slice aG aN.length aH]]) (fn:=Tryz.f349) rfl ?_
 refine trV aA (E6 _ _ _ (l0 aC aD aB)) λx1 aA=>?_
 refine ifB aA (λaW aA=>?_) λaW aA=>?_
 ·obtain rfl:=oJ aA
  exact⟨([.int .i64 0,.int .i64 0]),rfl,(C2 (by decide) (by decide)),(Sub.refl _)⟩
 ·refine trM aA (b0c _ _ _ (l0 aC aD aB)) ?_
  rintro x3 aA v5 k4 ⟨bA,bB,bC,rfl,aT,aU⟩
  obtain⟨rfl,bD⟩:=Sl.len aT
  refine ifB aA (λaX aA=>?_) λaX aA=>?_
  ·obtain rfl:=oJ aA
   exact⟨([.int .i64 0,.int .i64 0]),rfl,(C2 (by decide) (by decide)),aU⟩
  ·refine ld aA aT λx7 aY aZ aA=>?_
   obtain⟨aO,aP,rfl,rfl,aJ,aK⟩:=y00 aZ
   try dsimp only at aA
   obtain rfl:=oJ aA
   exact⟨([.int .i64 aO,.int .i64 aP]),rfl,(C2 aJ aK),aU⟩
theorem v08(h:Hp)(p0:Int)(aM:O0 p0)(aB:List Value)(p1:L4)(aH:O3.R h aB p1)(r:Int)(aA:P00 p0 p1=some r):
  Tr Tryz.prog 377 #[.int .i64 p0,.agg aB.toArray] h λv h'=>v = .int .i64 r/\h'=h:=by
 obtain⟨aC,aD,rfl,rfl,aF,aG⟩:=y00 aH
 unfold P00 at aA
 dsimp only at aA
 refine Tr.forget (D3 (args:=[.int .i64 p0,.agg #[.int .i64 aC,.int .i64 aD]]) (fn:=Tryz.f377) rfl ?_)
 refine ifB aA (λaJ aA=>?_) λaJ aA=>?_
 ·refine ifB aA (λaK aA=>?_) λaK aA=>?_
  ·obtain rfl:=oJ aA
   exact aI rfl (Sub.refl _)
  ·obtain rfl:=oJ aA
   exact aI rfl (Sub.refl _)
 ·refine ifB aA (λaL aA=>?_) λaL aA=>?_
  ·obtain rfl:=oJ aA
   exact aI rfl (Sub.refl _)
  ·obtain rfl:=oJ aA
   exact aI rfl (Sub.refl _)
theorem Y05(h:Hp)(aU:List Value)(p0:j0)(cO:D1.R h aU p0)(aV:List Value)(p1:L4)(cP:O3.R h aV p1)(r:j0×Bool)(aB:Y6 p0 p1=some r):
  Tr Tryz.prog 350 #[.agg aU.toArray,.agg aV.toArray] h λv h'=>∃(cA:List Value),v = .tuple #[.agg cA.toArray,.bool r.2]/\D1.R h' cA r.1/\Sub h h':=by
 obtain⟨aW,aX,aY,cC,aZ,aM,rfl,rfl,aD,aH,aC⟩:=C0 cO
 obtain⟨rfl,cD⟩:=Sl.len aC
 obtain⟨aN,aO,rfl,rfl,aJ,aK⟩:=y00 cP
 unfold Y6 at aB
 dsimp only at aB
 refine D3 (args:=[.agg #[.int .i64 aW,.int .i64 aX,.slice aY aM.length aZ],.agg #[.int .i64 aN,.int .i64 aO]]) (fn:=Tryz.f350) rfl ?_
 refine trV aB (E6 _ _ _ (l0 aD aH aC)) λx1 aB=>?_
 refine ifB aB (λcQ aB=>?_) λcQ aB=>?_
 ·refine trM aB (B5 _ _ _ (l0 aD aH aC)) ?_
  rintro x3 aB v5 k4 ⟨cR,rfl,cE⟩
  have cS:Sub h k4:=cE.sub
  have cT:=cE.r
  obtain⟨bJ,bK,bA,cG,bB,bL,rfl,rfl,bC,bD,aL⟩:=C0 cT
  obtain⟨rfl,cH⟩:=Sl.len aL
  try dsimp only at aB
  obtain rfl:=oJ aB
  exact⟨([.int .i64 bJ,.int .i64 bK,.slice bA bL.length bB]),rfl,(l0 bC bD aL),cS⟩
 ·obtain⟨X6,bM,aB⟩:=B0 aB
  refine eX { vars:=[7],boxes:=[3],owns:=[],fuel:=true } (eX (λvs os h'=>∃ u7 u8 u9 aF aP aG bE,vs.tail = [.int .i64 u7,.int .i64 u8,.int .i64 u9,.slice aF aP aG]/\os = []/\Sub h h'/\O0 u7/\O0 u8/\O0 u9/\J0.R h' [.slice aF aP aG] bE/\E4 aM aN aO (D2 vs) u7 u8 u9 bE=some X6) (eX (λ_ _=>0) (aI (eX U0 ⟨0,aW,(IntKind.i64.wrap (aX-1)),none,0,0,[],rfl,rfl,(Sub.refl _),(by decide),aD,(I0 _),(c09 H1 h),bM⟩) ?_)))
  rintro _ _ _ _ bI cX ⟨u7,u8,u9,aF,aP,aG,bE,⟨⟩,⟨⟩,bN,cY,cI,cJ,aQ,aA⟩
  replace aA:E4 aM aN aO bI u7 u8 u9 bE=some X6:=aA
  obtain _|bI:=bI
  ·cases aA
  rw[E4.eq_2]at aA
  obtain⟨rfl,cU⟩:=Sl.len aQ
  refine ifB aA (λbO aA=>?_) λbO aA=>?_
  ·refine ld aA (J0.mono bN aC) λcZ cK bP aA=>?_
   obtain⟨cL,bF,cM,rfl,rfl,aR,aS,aT⟩:=U1 bP
   try dsimp only at aA
   refine Or.inr (Or.inr (Or.inl (aI (aI (by kernel_rfl) (by kernel_rfl)) ?_)))
   obtain⟨bQ,bR,aA⟩:=B0 aA
   obtain⟨dA,bS,aA⟩:=B0 aA
   have bT:O0 bQ:=A2 bS
   refine Or.inl (eX (.val (.int .i64 bQ)) (aI ?_ ?_))
   ·intro dB dC
    exact Tr.val (v08 _ _ aR _ _ (C2 aJ aK) _ bR) (aI rfl (aI rfl rfl))
   obtain⟨bU,bV,aA⟩:=B0 aA
   obtain⟨dD,bW,aA⟩:=B0 aA
   have bX:O0 bU:=A2 bW
   refine Or.inl (eX (.val (.int .i64 bU)) (aI ?_ ?_))
   ·intro dE dF
    exact Tr.val (v08 _ _ aT _ _ (C2 aJ aK) _ bV) (aI rfl (aI rfl rfl))
   refine Or.inl (eX (.agg [.val (.int .i64 bQ),.val (.int .i64 bF),.val (.int .i64 bU)]) (aI ?_ ?_))
   ·intro dG dH
    exact aI rfl (aI rfl rfl)
   refine Or.inr ?_
   refine Or.inr ?_
   refine Or.inl (eX 1 (aI (aI rfl rfl) ?_))
   refine trM aA (T9 _ _ _ _ _ aQ _ _ (T1 bT aS bX)) ?_
   rintro cN aA dI dJ ⟨bY,cV,bZ,rfl,bG,bH⟩
   obtain⟨rfl,cW⟩:=Sl.len bG
   refine aI (aI rfl bH) (aI (by first|exact trivial|exact rfl) ?_)
   refine aI trivial (aI (by first|exact trivial|exact rfl) ?_)
   exact A3 bI ⟨(IntKind.i64.wrap (u7+1)),u8,u9,bY,cN.length,bZ,cN,rfl,rfl,(bN.trans bH),(I0 _),cI,cJ,bG,aA⟩
  ·obtain rfl:=oJ aA
   try dsimp only[C1,E1]at aB
   obtain rfl:=oJ aB
   exact⟨([.int .i64 u8,.int .i64 u9,.slice aF bE.length aG]),rfl,(l0 cI cJ aQ),bN⟩
theorem f0a(h:Hp)(aV:List Value)(p0:j0)(bU:D1.R h aV p0)(r:j0×L4×Bool)(aA:b00 p0=some r):
  Tr Tryz.prog 338 #[.agg aV.toArray] h λv h'=>∃(bN:List Value) (bO:List Value),v = .tuple #[.agg bN.toArray,.agg bO.toArray,.bool r.2.2]/\D1.R h' bN r.1/\O3.R h' bO r.2.1/\Sub h h':=by
 obtain⟨bF,bG,aW,bP,aX,bH,rfl,rfl,aG,aH,aB⟩:=C0 bU
 obtain⟨rfl,bQ⟩:=Sl.len aB
 unfold b00 at aA
 dsimp only at aA
 refine D3 (args:=[.agg #[.int .i64 bF,.int .i64 bG,.slice aW bH.length aX]]) (fn:=Tryz.f338) rfl ?_
 refine trM aA (u09 _ _ _ (l0 aG aH aB)) ?_
 rintro x1 aA v3 k2 ⟨bI,rfl,aN,bC⟩
 obtain⟨bV,bW⟩:=x1
 dsimp only at aA aN
 obtain⟨aQ,aR,rfl,rfl,aC,aD⟩:=y00 aN
 try dsimp only at aA
 refine ifB aA (λbX aA=>?_) λbX aA=>?_
 ·refine trM aA (B5 _ _ _ (l0 aG aH (J0.mono bC aB))) ?_
  rintro x5 aA v7 k6 ⟨bY,rfl,bR⟩
  have bZ:Sub k2 k6:=bR.sub
  have cA:=bR.r
  obtain⟨bJ,bK,aY,bS,aZ,bL,rfl,rfl,bA,bB,aO⟩:=C0 cA
  obtain⟨rfl,bT⟩:=Sl.len aO
  try dsimp only at aA
  obtain rfl:=oJ aA
  exact⟨([.int .i64 bJ,.int .i64 bK,.slice aY bL.length aZ]),([.int .i64 0,.int .i64 0]),rfl,(l0 bA bB aO),(C2 (by decide) (by decide)),(bC.trans bZ)⟩
 ·refine trM aA (Y05 _ _ _ (l0 aG aH (J0.mono bC aB)) _ _ (C2 aC aD)) ?_
  rintro x8 aA cG k9 ⟨bM,rfl,aP,cC⟩
  obtain⟨cD,cE⟩:=x8
  dsimp only at aA aP
  obtain⟨aS,aT,aJ,bD,aK,aU,rfl,rfl,aL,aM,aF⟩:=C0 aP
  obtain⟨rfl,bE⟩:=Sl.len aF
  try dsimp only at aA
  refine Or.inr (Or.inr (Or.inl (aI (aI (by kernel_rfl) (by kernel_rfl)) ?_)))
  refine Or.inr ?_
  refine Or.inr ?_
  refine Or.inl (eX 0 (aI (aI rfl rfl) ?_))
  refine aI trivial (aI (by first|exact trivial|exact rfl) ?_)
  refine aI trivial (aI (by first|exact trivial|exact rfl) ?_)
  obtain rfl:=oJ aA
  exact⟨([.int .i64 aS,.int .i64 aT,.slice aJ aU.length aK]),([.int .i64 aQ,.int .i64 aR]),rfl,(l0 aL aM aF),(C2 aC aD),(bC.trans cC)⟩
theorem c0c(h:Hp)(aV:List Value)(p0:j0)(cX:D1.R h aV p0)(r:j0×W7)(aK:D00 p0=some r):
  Tr Tryz.prog 310 #[.agg aV.toArray] h λv h'=>∃(cM:List Value) (a1:Option Addr) (n1 c1:Nat),v = .tuple #[.agg cM.toArray,.slice a1 n1 c1]/\D1.R h' cM r.1/\g0e.R h' [.slice a1 n1 c1] r.2/\Sub h h':=by
 obtain⟨bR,bS,aW,cN,aX,bT,rfl,rfl,aY,aZ,aT⟩:=C0 cX
 obtain⟨rfl,cO⟩:=Sl.len aT
 unfold D00 at aK
 dsimp only at aK
 refine D3 (args:=[.agg #[.int .i64 bR,.int .i64 bS,.slice aW bT.length aX]]) (fn:=Tryz.f310) rfl ?_
 refine trM aK (B5 _ _ _ (l0 aY aZ aT)) ?_
 rintro x1 aK v3 k2 ⟨cY,rfl,cP⟩
 have cQ:Sub h k2:=cP.sub
 have cZ:=cP.r
 obtain⟨bU,bV,bA,cR,bB,bC,rfl,rfl,bD,bE,aU⟩:=C0 cZ
 obtain⟨rfl,cS⟩:=Sl.len aU
 try dsimp only at aK
 obtain⟨X4,bW,aK⟩:=B0 aK
 refine eX { vars:=[6],boxes:=[2],owns:=[0],fuel:=true } (eX (λvs os h'=>∃ u5 u6 u7 bF bX bG u8 bM u9,vs.tail = [.int .i64 u5,.int .i64 u6,.int .i64 u7,.slice bF bX bG]/\os = [bM]/\Sub k2 h'/\O0 u5/\O0 u6/\O0 u7/\J0.R h' [.slice bF bX bG] u8/\F2 (O3.R h') bM u9/\W5 (D2 vs) u5 u6 u7 u8 u9=some X4) (eX (λ_ _=>0) (aI (eX U0 ⟨0,bU,bV,bA,bC.length,bB,bC,[],([]:W7),rfl,rfl,(Sub.refl _),(by decide),bD,bE,aU,(show F2 (O3.R k2) ([]:List (List Value)) ([]:W7) from trivial),bW⟩) ?_)))
 rintro _ _ _ _ bM bN dG ⟨u5,u6,u7,bF,bX,bG,u8,dA,u9,⟨⟩,⟨⟩,bY,dH,bZ,cA,bO,bH,aC⟩
 replace aC:W5 bN u5 u6 u7 u8 u9=some X4:=aC
 obtain _|bN:=bN
 ·cases aC
 rw[W5.eq_2]at aC
 obtain⟨rfl,dI⟩:=Sl.len bO
 refine ifB aC (λcC aC=>?_) λcC aC=>?_
 ·refine trM aC (f0a _ _ _ (l0 bZ cA bO)) ?_
  rintro dB aC dJ cT ⟨bP,bQ,rfl,aL,aM,aH⟩
  obtain⟨cU,cV,cW⟩:=dB
  dsimp only at aC aL aM
  obtain⟨aR,aS,aN,bI,aO,aJ,rfl,rfl,aP,aQ,aD⟩:=C0 aL
  obtain⟨rfl,bJ⟩:=Sl.len aD
  try dsimp only at aC
  obtain⟨aA,aB,rfl,rfl,aF,aG⟩:=y00 aM
  try dsimp only at aC
  refine ifB aC (λcD aC=>?_) λcD aC=>?_
  ·intro dK dL dC
   obtain⟨cE,cG,rfl,cH,bK,dD⟩:=O1.out (r:=O3.toRp) dC (F2.up (r:=O3.toRp) aH bH)
   obtain rfl:=oJ aC
   try dsimp only[J5,K5]at aK
   obtain rfl:=oJ aK
   exact⟨([.int .i64 u6,.int .i64 u7,.slice bF u8.length bG]),cE,u9.length,cG,rfl,(l0 bZ cA (J0.mono (aH.trans bK) bO)),cH,(((cQ.trans bY).trans aH).trans bK)⟩
  ·obtain⟨dM,cI,aC⟩:=B0 aC
   refine aI (J2 cI (by first|rw[F2.length (F2.up (r:=O3.toRp) aH bH),F2.length (show F2 (O3.R cT) ([[.int .i64 aA,.int .i64 aB]]:List (List Value)) [(aA,aB)] from⟨(C2 aF aG),trivial⟩)]|exact congrArg (·+1) (F2.length (F2.up (r:=O3.toRp) aH bH)))) ?_
   exact A3 bN ⟨(IntKind.i64.wrap (u5+1)),aR,aS,aN,aJ.length,aO,aJ,(bM++([[.int .i64 aA,.int .i64 aB]]:List (List Value))),(u9 ++ [(aA,aB)]),rfl,rfl,(bY.trans aH),(I0 _),aP,aQ,aD,(F2.append (F2.up (r:=O3.toRp) aH bH) (show F2 (O3.R cT) ([[.int .i64 aA,.int .i64 aB]]:List (List Value)) [(aA,aB)] from⟨(C2 aF aG),trivial⟩)),aC⟩
 ·obtain rfl:=oJ aC
  try dsimp only[C1,E1]at aK
  intro dN dO dE
  obtain⟨cJ,cK,rfl,cL,bL,dF⟩:=O1.out (r:=O3.toRp) dE bH
  obtain rfl:=oJ aK
  exact⟨([.int .i64 u6,.int .i64 u7,.slice bF u8.length bG]),cJ,u9.length,cK,rfl,(l0 bZ cA (J0.mono bL bO)),cL,((cQ.trans bY).trans bL)⟩
theorem v09(h:Hp)(bW:List Value)(p0:j0)(eD:D1.R h bW p0)(r:j0×Y0)(aD:F9 p0=some r):
  Tr Tryz.prog 311 #[.agg bW.toArray] h λv h'=>∃(dR:List Value) (a1:Option Addr) (n1 c1:Nat),v = .tuple #[.agg dR.toArray,.slice a1 n1 c1]/\D1.R h' dR r.1/\M4.R h' [.slice a1 n1 c1] r.2/\Sub h h':=by
 obtain⟨aJ,aK,bX,dS,bY,aL,rfl,rfl,aM,aN,aF⟩:=C0 eD
 obtain⟨rfl,dT⟩:=Sl.len aF
 unfold F9 at aD
 dsimp only at aD
 refine D3 (args:=[.agg #[.int .i64 aJ,.int .i64 aK,.slice bX aL.length bY]]) (fn:=Tryz.f311) rfl ?_
 refine trM aD (B5 _ _ _ (l0 aM aN aF)) ?_
 rintro x1 aD v3 k2 ⟨eE,rfl,dU⟩
 have cQ:Sub h k2:=dU.sub
 have eF:=dU.r
 obtain⟨cW,cX,bZ,dV,cA,cC,rfl,rfl,cD,cE,bK⟩:=C0 eF
 obtain⟨rfl,dW⟩:=Sl.len bK
 try dsimp only at aD
 obtain⟨X4,cY,aD⟩:=B0 aD
 refine eX { vars:=[6],boxes:=[],owns:=[0],fuel:=true } (eX (λvs os h'=>∃ u5 cR u6,vs.tail = [.int .i64 u5]/\os = [cR]/\Sub k2 h'/\O0 u5/\F2 (Wp.int.R h') cR u6/\T5 aK aJ aL (D2 vs) u5 u6=some X4) (eX (λ_ _=>0) (aI (eX U0 ⟨0,[],([]:Y0),rfl,rfl,(Sub.refl _),(by decide),(show F2 (Wp.int.R k2) ([]:List (List Value)) ([]:Y0) from trivial),cY⟩) ?_)))
 rintro _ cR m8 k7 ⟨u5,eG,u6,⟨⟩,⟨⟩,bR,dX,cS,aA⟩
 replace aA:T5 aK aJ aL m8 u5 u6=some X4:=aA
 obtain _|m8:=m8
 ·cases aA
 rw[T5.eq_2]at aA
 refine trG aA (λq=>E6 _ _ _ (l0 aM aN (J0.mono (cQ.trans bR) aF))) λx9 aA=>?_
 refine ifB aA (λcZ aA=>?_) λcZ aA=>?_
 ·obtain⟨eW,dA,aA⟩:=B0 aA
  refine aI (J2 dA (by first|rw[F2.length cS,F2.length (show F2 (Wp.int.R k7) ([[.int .i64 u5]]:List (List Value)) [u5] from⟨⟨rfl,dX⟩,trivial⟩)]|exact congrArg (·+1) (F2.length cS))) ?_
  exact A3 m8 ⟨(IntKind.i64.wrap (u5+1)),(cR++([[.int .i64 u5]]:List (List Value))),(u6 ++ [u5]),rfl,rfl,bR,(I0 _),(F2.append cS (show F2 (Wp.int.R k7) ([[.int .i64 u5]]:List (List Value)) [u5] from⟨⟨rfl,dX⟩,trivial⟩)),aA⟩
 ·obtain rfl:=oJ aA
  try dsimp only[C1,E1]at aD
  obtain⟨X16,cG,aD⟩:=B0 aD
  refine eX { vars:=[5,7],boxes:=[2],owns:=[],fuel:=true,pubs:=[5] } (eX (λvs os h'=>∃(aO:Option Addr) (bN aP:Nat) (bL:Y0) (bS:Int) (bO:Int) (bD:Int) (aQ:Option Addr) (bP aR:Nat) (bT:K0),vs.tail = [.slice aO bN aP,.int .i64 bS,.int .i64 bO,.int .i64 bD,.slice aQ bP aR]/\os = []/\Sub k7 h'/\M4.R h' [.slice aO bN aP] bL/\O0 bS/\O0 bO/\O0 bD/\J0.R h' [.slice aQ bP aR] bT/\S5 aJ aK aL (D2 vs) bL bS bO bD bT=some X16) (eX (λ_ _=>0) ?_))
  intro eY eZ eH
  obtain⟨dB,dC,rfl,dD,cH,eI⟩:=O1.out (r:=Wp.int.toRp) eH cS
  refine aI (eX U0 ⟨dB,u6.length,dC,u6,0,cW,cX,bZ,cC.length,cA,cC,rfl,rfl,cH,dD,(by decide),cD,cE,(J0.mono (bR.trans cH) bK),cG⟩) ?_
  rintro _ _ _ _ _ cT dE ⟨aO,bN,aP,bL,bS,bO,bD,aQ,bP,aR,bT,⟨⟩,⟨⟩,bE,bF,eJ,bG,bH,aS,aA⟩
  replace aA:S5 aJ aK aL cT bL bS bO bD bT=some X16:=aA
  obtain _|cT:=cT
  ·cases aA
  rw[S5.eq_2]at aA
  obtain⟨rfl,eM⟩:=Sl.len bF
  obtain⟨rfl,eN⟩:=Sl.len aS
  refine trG aA (λq=>E6 _ _ _ (l0 aM aN (J0.mono ((cQ.trans bR).trans bE) aF))) λfA aA=>?_
  refine ifB aA (λdF aA=>?_) λdF aA=>?_
  ·refine trV aA (N06 _ _ _ (l0 bG bH aS)) λdG aA=>?_
   obtain⟨fB,dH,aA⟩:=B0 aA
   have eO:O0 dG:=A2 dH
   refine ifB aA (λdI aA=>?_) λdI aA=>?_
   ·obtain rfl:=oJ aA
    try dsimp only[J5,K5]at aD
    obtain rfl:=oJ aD
    exact⟨([.int .i64 bO,.int .i64 bD,.slice aQ bT.length aR]),aO,bL.length,aP,rfl,(l0 bG bH aS),bF,((cQ.trans bR).trans bE)⟩
   ·obtain⟨X29,cI,aA⟩:=B0 aA
    refine eX { vars:=[11],boxes:=[],owns:=[1,2],fuel:=true } (eX (λvs os h'=>∃ aH aT bU aU bM,vs.tail = [.int .i64 aH]/\os = [aT,aU]/\Sub dE h'/\O0 aH/\F2 (Wp.int.R h') aT bU/\F2 (Wp.int.R h') aU bM/\p5 bD dG bL (D2 vs) aH bU bM=some X29) (eX (λ_ _=>0) (aI (eX U0 ⟨0,[],([]:Y0),[],([]:Y0),rfl,rfl,(Sub.refl _),(by decide),(show F2 (Wp.int.R dE) ([]:List (List Value)) ([]:Y0) from trivial),(show F2 (Wp.int.R dE) ([]:List (List Value)) ([]:Y0) from trivial),cI⟩) ?_)))
    rintro _ aT aU cJ cU ⟨aH,dY,bU,dZ,bM,⟨⟩,⟨⟩,aV,cK,aW,aX,aB⟩
    replace aB:p5 bD dG bL cJ aH bU bM=some X29:=aB
    obtain _|cJ:=cJ
    ·cases aB
    rw[p5.eq_2]at aB
    refine ifB aB (λdJ aB=>?_) λdJ aB=>?_
    ·refine ifB aB (λdK aB=>?_) λdK aB=>?_
     ·obtain⟨fC,dL,aB⟩:=B0 aB
      refine aI (J2 dL (by first|rw[F2.length aW,F2.length (show F2 (Wp.int.R cU) ([[.int .i64 aH]]:List (List Value)) [aH] from⟨⟨rfl,cK⟩,trivial⟩)]|exact congrArg (·+1) (F2.length aW))) ?_
      refine ldI aB (M4.mono aV bF) λbV cL aB=>?_
      obtain⟨fD,dM,aB⟩:=B0 aB
      refine aI (J2 dM (by first|rw[F2.length aX,F2.length (show F2 (Wp.int.R cU) ([[.int .i64 bV]]:List (List Value)) [bV] from⟨⟨rfl,cL⟩,trivial⟩)]|exact congrArg (·+1) (F2.length aX))) ?_
      exact A3 cJ ⟨(IntKind.i64.wrap (aH+1)),(aT++([[.int .i64 aH]]:List (List Value))),(bU ++ [aH]),(aU++([[.int .i64 bV]]:List (List Value))),(bM ++ [bV]),rfl,rfl,aV,(I0 _),(F2.append aW (show F2 (Wp.int.R cU) ([[.int .i64 aH]]:List (List Value)) [aH] from⟨⟨rfl,cK⟩,trivial⟩)),(F2.append aX (show F2 (Wp.int.R cU) ([[.int .i64 bV]]:List (List Value)) [bV] from⟨⟨rfl,cL⟩,trivial⟩)),aB⟩
     ·exact A3 cJ ⟨(IntKind.i64.wrap (aH+1)),aT,bU,aU,bM,rfl,rfl,aV,(I0 _),aW,aX,aB⟩
    ·obtain rfl:=oJ aB
     try dsimp only[C1,E1]at aA
     refine Or.inl ?_
     intro fE fF eP
     obtain⟨eQ,eR,rfl,dN,bQ,eT⟩:=O1.out (r:=Wp.int.toRp) eP aW
     refine trM aA (u02 _ _ _ (l0 bG bH (J0.mono (aV.trans bQ) aS)) _ _ _ _ dN) ?_
     rintro eU aA fH fI ⟨cV,rfl,aY,cM⟩
     obtain⟨eA,eC⟩:=eU
     dsimp only at aA aY
     obtain⟨bI,bJ,aZ,cN,bA,aG,rfl,rfl,bB,bC,aC⟩:=C0 aY
     obtain⟨rfl,cO⟩:=Sl.len aC
     try dsimp only at aA
     intro fJ fK f49
     obtain⟨dO,dP,rfl,dQ,cP,eV⟩:=O1.out (r:=Wp.int.toRp) f49 (F2.up (r:=Wp.int.toRp) (bQ.trans cM) aX)
     exact A3 cT ⟨dO,bM.length,dP,bM,(IntKind.i64.wrap (bS+1)),bI,bJ,aZ,aG.length,bA,aG,rfl,rfl,((((bE.trans aV).trans bQ).trans cM).trans cP),dQ,(I0 _),bB,bC,(J0.mono cP aC),aA⟩
  ·obtain rfl:=oJ aA
   try dsimp only[C1,E1]at aD
   obtain rfl:=oJ aD
   exact⟨([.int .i64 bO,.int .i64 bD,.slice aQ bT.length aR]),aO,bL.length,aP,rfl,(l0 bG bH aS),bF,((cQ.trans bR).trans bE)⟩
theorem D04(h:Hp)(aP:List Value)(p0:j0)(cJ:D1.R h aP p0)(r:j0)(aA:G8 p0=some r):
  Tr Tryz.prog 242 #[.agg aP.toArray] h λv h'=>∃(bU:List Value),v = .agg bU.toArray/\D1.R h' bU r/\Sub h h':=by
 obtain⟨bG,bH,aQ,bV,aR,bI,rfl,rfl,aS,aT,aJ⟩:=C0 cJ
 obtain⟨rfl,bW⟩:=Sl.len aJ
 unfold G8 at aA
 dsimp only at aA
 refine D3 (args:=[.agg #[.int .i64 bG,.int .i64 bH,.slice aQ bI.length aR]]) (fn:=Tryz.f242) rfl ?_
 refine trM aA (c0c _ _ _ (l0 aS aT aJ)) ?_
 rintro x1 aA v3 k2 ⟨bJ,bX,bY,bZ,rfl,aK,aL,cK⟩
 obtain⟨cL,cM⟩:=x1
 dsimp only at aA aK aL
 obtain⟨bK,bL,aY,aZ,bA,bM,rfl,rfl,aD,aF,aB⟩:=C0 aK
 obtain⟨rfl,bB⟩:=Sl.len aB
 try dsimp only at aA
 obtain⟨rfl,cA⟩:=Sl.len aL
 refine trM aA (v09 _ _ _ (l0 aD aF aB)) ?_
 rintro x4 aA v6 k5 ⟨bN,cC,cD,cE,rfl,aM,aN,cN⟩
 obtain⟨cO,cP⟩:=x4
 dsimp only at aA aM aN
 obtain⟨bO,bP,bC,bD,bE,bQ,rfl,rfl,aG,aH,aC⟩:=C0 aM
 obtain⟨rfl,bF⟩:=Sl.len aC
 try dsimp only at aA
 obtain⟨rfl,cG⟩:=Sl.len aN
 refine trM aA (P01 _ _ _ (l0 aG aH aC)) ?_
 rintro x7 aA v9 k8 ⟨cQ,rfl,cR,cS⟩
 obtain⟨bR,bS,aU,cH,aV,bT,rfl,rfl,aW,aX,aO⟩:=C0 cR
 obtain⟨rfl,cI⟩:=Sl.len aO
 try dsimp only at aA
 obtain rfl:=oJ aA
 exact⟨([.int .i64 bR,.int .i64 bS,.slice aU bT.length aV]),rfl,(l0 aW aX aO),((cK.trans cN).trans cS)⟩
set_option maxHeartbeats 0
theorem g0a(h:Hp)(bH:List Value)(p0:j0)(dP:D1.R h bH p0)(bI:List Value)(p1:j0)(dQ:D1.R h bI p1)(p2:Int)(eV:O0 p2)(p3:Int)(eW:O0 p3)(r:Y0)(aM:c9 p0 p1 p2 p3=some r):
  Tr Tryz.prog 305 #[.agg bH.toArray,.agg bI.toArray,.int .i64 p2,.int .i64 p3] h λv h'=>∃(a0:Option Addr) (n0 c0:Nat),v = .slice a0 n0 c0/\M4.R h' [.slice a0 n0 c0] r/\Sub h h':=by
 obtain⟨aD,aC,aT,dE,aU,aH,rfl,rfl,aV,bJ,aW⟩:=C0 dP
 obtain⟨rfl,dF⟩:=Sl.len aW
 obtain⟨aF,aA,aX,dG,aY,aJ,rfl,rfl,aZ,bK,bA⟩:=C0 dQ
 obtain⟨rfl,dH⟩:=Sl.len bA
 unfold c9 at aM
 dsimp only at aM
 refine D3 (args:=[.agg #[.int .i64 aD,.int .i64 aC,.slice aT aH.length aU],.agg #[.int .i64 aF,.int .i64 aA,.slice aX aJ.length aY],.int .i64 p2,.int .i64 p3]) (fn:=Tryz.f305) rfl ?_
 obtain⟨q1,dR,aM⟩:=B0 aM
 refine aI (A2 dR) ?_
 obtain⟨x2,dS,aM⟩:=B0 aM
 obtain⟨dT,dU,dV,dW⟩:=j5 (show F2 (Wp.int.R h) ([[.int .i64 (IntKind.i64.wrap ((IntKind.i64.wrap (p2*aA))+p3))]]:List (List Value)) [(IntKind.i64.wrap ((IntKind.i64.wrap (p2*aA))+p3))] from⟨⟨rfl,(I0 _)⟩,trivial⟩) dS
 refine aI dT ?_
 obtain⟨rfl,eY⟩:=dW
 refine eX _ (aI dV ?_)
 obtain⟨x3,dX,aM⟩:=B0 aM
 obtain⟨dY,dZ,eA,eC⟩:=j5 (F2.rep (p:=Wp.bool.R h) (a:=[.bool false]) (b:=false) rfl ((IntKind.i64.wrap (aC*aA)).toNat)) dX
 refine aI dY ?_
 obtain rfl:=eC
 refine eX _ (aI eA ?_)
 refine trM aM (z04 _ (if aF<aD then aF else aD) (G7 aZ aV)) ?_
 rintro x4 aM v6 k5 ⟨eZ,fA,fB,rfl,bS,bL⟩
 obtain⟨rfl,fC⟩:=Sl.len bS
 obtain⟨X7,bT,aM⟩:=B0 aM
 refine eX { vars:=[12],boxes:=[],owns:=[0,1],fuel:=true,kept:=[0] } (eX (λvs os h'=>∃ u8 bP u9 aP bF,vs.tail = [.int .i64 u8]/\os = [bP,aP]/\Sub k5 h'/\O0 u8/\F2 (Wp.bool.R h') bP u9/\F2 (Wp.int.R h') aP bF/\j7 x4 aA aD aC aH aF aJ (D2 vs) u8 u9 bF=some X7) (eX (λ_ _=>0) (aI (eX U0 ⟨0,((List.replicate (IntKind.i64.wrap (aC*aA)).toNat ([.bool false]:List Value)).set x2.toNat [.bool true]),((List.replicate (IntKind.i64.wrap (aC*aA)).toNat (false:Bool)).set x2.toNat true),([[.int .i64 (IntKind.i64.wrap ((IntKind.i64.wrap (p2*aA))+p3))]]:List (List Value)),([(IntKind.i64.wrap ((IntKind.i64.wrap (p2*aA))+p3))]),rfl,rfl,(Sub.refl _),(by decide),(F2.up (r:=Wp.bool.toRp) bL (F2.set (p:=Wp.bool.R h) (a:=[.bool true]) (b:=true) rfl x2.toNat (F2.rep (p:=Wp.bool.R h) (a:=[.bool false]) (b:=false) rfl ((IntKind.i64.wrap (aC*aA)).toNat)))),(F2.up (r:=Wp.int.toRp) bL (show F2 (Wp.int.R h) ([[.int .i64 (IntKind.i64.wrap ((IntKind.i64.wrap (p2*aA))+p3))]]:List (List Value)) [(IntKind.i64.wrap ((IntKind.i64.wrap (p2*aA))+p3))] from⟨⟨rfl,(I0 _)⟩,trivial⟩)),bT⟩) ?_)))
 rintro _ bP aP bQ eD ⟨u8,eE,u9,dI,bF,⟨⟩,⟨⟩,bG,fD,eF,bB,aG⟩
 replace aG:j7 x4 aA aD aC aH aF aJ bQ u8 u9 bF=some X7:=aG
 obtain _|bQ:=bQ
 ·cases aG
 rw[j7.eq_2]at aG
 obtain⟨eG,bU,aG⟩:=B0 aG
 obtain rfl:aP.length=eG:=(F2.length bB).trans (oJ bU)
 obtain⟨fE,eH,aG⟩:=B0 aG
 refine ifB aG (λbV aG=>?_) λbV aG=>?_
 ·obtain⟨X16,bM,aG⟩:=B0 aG
  refine eX { vars:=[13],boxes:=[],owns:=[0,1],fuel:=true,kept:=[0] } (eX (λvs os h'=>∃ bC aN bD aO bE,vs.tail = [.int .i64 bC]/\os = [aN,aO]/\Sub eD h'/\O0 bC/\F2 (Wp.bool.R h') aN bD/\F2 (Wp.int.R h') aO bE/\F5 x4 u8 aA aD aC aH aF aJ (D2 vs) bC bD bE=some X16) (eX (λ_ _=>0) (aI (eX U0 ⟨0,bP,u9,aP,bF,rfl,rfl,(Sub.refl _),(by decide),eF,bB,bM⟩) ?_)))
  rintro _ aN aO bN bR ⟨bC,dJ,bD,dK,bE,⟨⟩,⟨⟩,aK,eI,aQ,aL,aB⟩
  replace aB:F5 x4 u8 aA aD aC aH aF aJ bN bC bD bE=some X16:=aB
  obtain _|bN:=bN
  ·cases aB
  rw[F5.eq_2]at aB
  refine ifB aB (λbW aB=>?_) λbW aB=>?_
  ·refine Or.inl (aI (aI (by kernel_rfl) (by kernel_rfl)) ?_)
   obtain⟨eJ,bX,aB⟩:=B0 aB
   obtain⟨bY,dL,bZ,cA⟩:=j5 aL bX
   refine aI bY ?_
   obtain⟨rfl,eM⟩:=cA
   refine eX _ (aI bZ ?_)
   obtain⟨fF,cC,aB⟩:=B0 aB
   have cD:=A2 cC
   refine aI cD ?_
   refine ldI aB (M4.mono (bG.trans aK) bS) λeN cE aB=>?_
   obtain⟨aR,cG,aB⟩:=B0 aB
   refine eX (.int .i64 aR) (aI (n7 _ [.int .i64 aD,.int .i64 aC,.slice aT aH.length aU] (aD,aC,aH) (l0 aV bJ (J0.mono ((bL.trans bG).trans aK) aW)) (IntKind.i64.wrap (Int.tdiv eJ aA)) (I0 _) eN cE _  cG) ?_)
   obtain⟨fH,cH,aB⟩:=B0 aB
   have eO:O0 aR:=A2 cH
   refine Or.inl (aI (aI (by kernel_rfl) (by kernel_rfl)) ?_)
   obtain⟨eP,cI,aB⟩:=B0 aB
   obtain⟨cJ,dM,cK,cL⟩:=j5 aL cI
   refine aI cJ ?_
   obtain⟨rfl,cM⟩:=cL
   refine eX _ (aI cK ?_)
   obtain⟨fI,cN,aB⟩:=B0 aB
   have cO:=A2 cN
   refine aI cO ?_
   refine ldI aB (M4.mono (bG.trans aK) bS) λeQ cP aB=>?_
   obtain⟨aS,cQ,aB⟩:=B0 aB
   refine eX (.int .i64 aS) (aI (n7 _ [.int .i64 aF,.int .i64 aA,.slice aX aJ.length aY] (aF,aA,aJ) (l0 aZ bK (J0.mono ((bL.trans bG).trans aK) bA)) (Int.tmod eP aA) (k0h cM) eQ cP _  cQ) ?_)
   obtain⟨fJ,cR,aB⟩:=B0 aB
   have eR:O0 aS:=A2 cR
   obtain⟨fK,cS,aB⟩:=B0 aB
   obtain⟨dN,bO,cT⟩:=P05 aQ cS (q0l bR)
   refine aI (λq=>(bO q).1) ?_
   obtain rfl:=cT
   refine eX _ (aI (λq=>(bO q).2) ?_)
   refine ifB aB (λcU aB=>?_) λcU aB=>?_
   ·obtain⟨fL,cV,aB⟩:=B0 aB
    obtain⟨cW,dO,cX,cY⟩:=j5 aQ cV
    refine aI cW ?_
    obtain rfl:=cY
    refine eX _ (aI cX ?_)
    obtain⟨fM,cZ,aB⟩:=B0 aB
    refine aI (J2 cZ (by first|rw[F2.length aL,F2.length (show F2 (Wp.int.R bR) ([[.int .i64 (IntKind.i64.wrap ((IntKind.i64.wrap (aR*aA))+aS))]]:List (List Value)) [(IntKind.i64.wrap ((IntKind.i64.wrap (aR*aA))+aS))] from⟨⟨rfl,(I0 _)⟩,trivial⟩)]|exact congrArg (·+1) (F2.length aL))) ?_
    exact A3 bN ⟨(IntKind.i64.wrap (bC+1)),(aN.set (IntKind.i64.wrap ((IntKind.i64.wrap (aR*aA))+aS)).toNat [.bool true]),(bD.set (IntKind.i64.wrap ((IntKind.i64.wrap (aR*aA))+aS)).toNat true),(aO++([[.int .i64 (IntKind.i64.wrap ((IntKind.i64.wrap (aR*aA))+aS))]]:List (List Value))),(bE ++ [(IntKind.i64.wrap ((IntKind.i64.wrap (aR*aA))+aS))]),rfl,rfl,aK,(I0 _),(F2.set (p:=Wp.bool.R bR) (a:=[.bool true]) (b:=true) rfl (IntKind.i64.wrap ((IntKind.i64.wrap (aR*aA))+aS)).toNat aQ),(F2.append aL (show F2 (Wp.int.R bR) ([[.int .i64 (IntKind.i64.wrap ((IntKind.i64.wrap (aR*aA))+aS))]]:List (List Value)) [(IntKind.i64.wrap ((IntKind.i64.wrap (aR*aA))+aS))] from⟨⟨rfl,(I0 _)⟩,trivial⟩)),aB⟩
   ·exact A3 bN ⟨(IntKind.i64.wrap (bC+1)),aN,bD,aO,bE,rfl,rfl,aK,(I0 _),aQ,aL,aB⟩
  ·obtain rfl:=oJ aB
   try dsimp only[C1,E1]at aG
   exact A3 bQ ⟨(IntKind.i64.wrap (u8+1)),aN,bD,aO,bE,rfl,rfl,(bG.trans aK),(I0 _),aQ,aL,aG⟩
 ·obtain rfl:=oJ aG
  try dsimp only[C1,E1]at aM
  intro fN fO eT
  obtain⟨dA,dB,rfl,dC,dD,eU⟩:=O1.out (r:=Wp.int.toRp) eT bB
  obtain rfl:=oJ aM
  exact⟨dA,bF.length,dB,rfl,dC,((bL.trans bG).trans dD)⟩
theorem h0a(h:Hp)(aT:List Value)(p0:j0)(bW:D1.R h aT p0)(aU:List Value)(p1:j0)(bX:D1.R h aU p1)(bA:Option Addr)(bO bB:Nat)(p2:Y0)(bC:M4.R h [.slice bA bO bB] p2)(r:Int)(aR:V9 p0 p1 p2=some r):
  Tr Tryz.prog 306 #[.agg aT.toArray,.agg aU.toArray,.slice bA bO bB] h λv h'=>v = .int .i64 r/\h'=h:=by
 obtain⟨aC,aD,aK,bP,aL,aF,rfl,rfl,aV,aW,aM⟩:=C0 bW
 obtain⟨rfl,bQ⟩:=Sl.len aM
 obtain⟨aG,aB,aN,bR,aO,aH,rfl,rfl,aX,aY,aP⟩:=C0 bX
 obtain⟨rfl,bS⟩:=Sl.len aP
 obtain⟨rfl,cI⟩:=Sl.len bC
 unfold V9 at aR
 dsimp only at aR
 refine Tr.forget (D3 (args:=[.agg #[.int .i64 aC,.int .i64 aD,.slice aK aF.length aL],.agg #[.int .i64 aG,.int .i64 aB,.slice aN aH.length aO],.slice bA p2.length bB]) (fn:=Tryz.f306) rfl ?_)
 obtain⟨X1,bD,aR⟩:=B0 aR
 refine eX { vars:=[7,8],boxes:=[],owns:=[],fuel:=true } (eX (λvs os h'=>∃ u2 u3,vs.tail = [.int .i64 u2,.int .i64 u3]/\os = []/\Sub h h'/\O0 u2/\O0 u3/\o6 p2 aG aC aB aD aF aH (D2 vs) u2 u3=some X1) (eX (λ_ _=>0) (aI (eX U0 ⟨0,0,rfl,rfl,(Sub.refl _),(by decide),(by decide),bD⟩) ?_)))
 rintro _ _ m5 k4 ⟨u2,u3,⟨⟩,⟨⟩,aS,bY,cJ,aJ⟩
 replace aJ:o6 p2 aG aC aB aD aF aH m5 u2 u3=some X1:=aJ
 obtain _|m5:=m5
 ·cases aJ
 rw[o6.eq_2]at aJ
 refine ifB aJ (λbZ aJ=>?_) λbZ aJ=>?_
 ·obtain⟨X7,bE,aJ⟩:=B0 aJ
  refine eX { vars:=[7,9],boxes:=[],owns:=[],fuel:=true } (eX (λvs os h'=>∃ u8 u9,vs.tail = [.int .i64 u8,.int .i64 u9]/\os = []/\Sub k4 h'/\O0 u8/\O0 u9/\G5 aG aC p2 u3 aB aD aF aH (D2 vs) u8 u9=some X7) (eX (λ_ _=>0) (aI (eX U0 ⟨u2,1,rfl,rfl,(Sub.refl _),bY,(by decide),bE⟩) ?_)))
  rintro _ _ aZ cK ⟨u8,u9,⟨⟩,⟨⟩,aQ,bT,bU,aA⟩
  replace aA:G5 aG aC p2 u3 aB aD aF aH aZ u8 u9=some X7:=aA
  obtain _|aZ:=aZ
  ·cases aA
  rw[G5.eq_2]at aA
  refine ifB aA (λbF aA=>?_) λbF aA=>?_
  ·refine Or.inl (aI (aI (by kernel_rfl) (by kernel_rfl)) ?_)
   refine ldI aA (M4.mono (aS.trans aQ) bC) λcA cC aA=>?_
   obtain⟨cL,bG,aA⟩:=B0 aA
   have bH:=A2 bG
   refine aI bH ?_
   obtain⟨bV,bI,aA⟩:=B0 aA
   refine eX (.int .i64 bV) (aI (n7 _ [.int .i64 aC,.int .i64 aD,.slice aK aF.length aL] (aC,aD,aF) (l0 aV aW (J0.mono (aS.trans aQ) aM)) (IntKind.i64.wrap (Int.tdiv cA aB)) (I0 _) u9 bU _  bI) ?_)
   obtain⟨cM,bJ,aA⟩:=B0 aA
   have cD:O0 bV:=A2 bJ
   refine ldG aA (M4.mono (aS.trans aQ) bC) λcE bK aA=>?_
   obtain⟨cN,bL,aA⟩:=B0 aA
   refine aI (λq=>A2 (F7 bL q)) ?_
   refine trG aA (λq=>n7 _ [.int .i64 aG,.int .i64 aB,.slice aN aH.length aO] (aG,aB,aH) (l0 aX aY (J0.mono (aS.trans aQ) aP)) (Int.tmod cE aB) (k0h bK) u9 bU) λcG aA=>?_
   obtain⟨cO,bM,aA⟩:=B0 aA
   have cH:O0 cG:=A2 bM
   refine ifB aA (λbN aA=>?_) λbN aA=>?_
   ·exact A3 aZ ⟨(IntKind.i64.wrap (u8+1)),(IntKind.i64.wrap (u9+1)),rfl,rfl,aQ,(I0 _),(I0 _),aA⟩
   ·exact A3 aZ ⟨u8,(IntKind.i64.wrap (u9+1)),rfl,rfl,aQ,bT,(I0 _),aA⟩
  ·obtain rfl:=oJ aA
   try dsimp only[C1,E1]at aJ
   exact A3 m5 ⟨u8,(IntKind.i64.wrap (u3+1)),rfl,rfl,(aS.trans aQ),bT,(I0 _),aJ⟩
 ·obtain rfl:=oJ aJ
  try dsimp only[C1,E1]at aR
  obtain rfl:=oJ aR
  exact aI rfl aS
theorem w08(h:Hp)(cC:List Value)(p0:j0)(dV:D1.R h cC p0)(cD:List Value)(p1:j0)(dW:D1.R h cD p1)(p2:Int)(dN:O0 p2)(p3:Int)(dO:O0 p3)(r:j0×Bool)(aB:h9 p0 p1 p2 p3=some r):
  Tr Tryz.prog 241 #[.agg cC.toArray,.agg cD.toArray,.int .i64 p2,.int .i64 p3] h λv h'=>∃(dP:List Value),v = .tuple #[.agg dP.toArray,.bool r.2]/\D1.R h' dP r.1/\Sub h h':=by
 obtain⟨aD,aF,aY,dQ,aZ,aG,rfl,rfl,aK,aQ,aL⟩:=C0 dV
 obtain⟨rfl,dR⟩:=Sl.len aL
 obtain⟨aH,aA,bA,dS,bB,aJ,rfl,rfl,aR,aS,aM⟩:=C0 dW
 obtain⟨rfl,dT⟩:=Sl.len aM
 unfold h9 at aB
 dsimp only at aB
 refine D3 (args:=[.agg #[.int .i64 aD,.int .i64 aF,.slice aY aG.length aZ],.agg #[.int .i64 aH,.int .i64 aA,.slice bA aJ.length bB],.int .i64 p2,.int .i64 p3]) (fn:=Tryz.f241) rfl ?_
 refine trV aB (j01 _ [.int .i64 aD,.int .i64 aF,.slice aY aG.length aZ] (aD,aF,aG) (l0 aK aQ aL)) λx1 aB=>?_
 refine trG aB (λq=>j01 _ [.int .i64 aH,.int .i64 aA,.slice bA aJ.length bB] (aH,aA,aJ) (l0 aR aS aM)) λx2 aB=>?_
 refine trG aB (λq=>c8 _ p2 dN 0 (by decide) (IntKind.i64.wrap (aF-1)) (I0 _)) λx3 aB=>?_
 refine trG aB (λq=>c8 _ p3 dO 0 (by decide) (IntKind.i64.wrap (aA-1)) (I0 _)) λx4 aB=>?_
 refine ifB aB (λdX aB=>?_) λdX aB=>?_
 ·obtain rfl:=oJ aB
  exact⟨([.int .i64 0,.int .i64 0,.slice none 0 0]),rfl,(l0 (by decide) (by decide) (c09 H1 h)),(Sub.refl _)⟩
 ·refine trM aB (g0a _ _ _ (l0 aK aQ aL) _ _ (l0 aR aS aM) _ dN _ dO) ?_
  rintro x6 aB v8 k7 ⟨eP,eQ,eR,rfl,cE,cA⟩
  obtain⟨rfl,dY⟩:=Sl.len cE
  refine trV aB (h0a _ _ _ (l0 aK aQ (J0.mono cA aL)) _ _ (l0 aR aS (J0.mono cA aM)) _ _ _ _ cE) λx9 aB=>?_
  obtain⟨eT,cT,aB⟩:=B0 aB
  have eU:O0 x9:=A2 cT
  refine ifB aB (λcU aB=>?_) λcU aB=>?_
  ·obtain rfl:=oJ aB
   exact⟨([.int .i64 0,.int .i64 0,.slice none 0 0]),rfl,(l0 (by decide) (by decide) (c09 H1 k7)),cA⟩
  ·obtain⟨X12,cG,aB⟩:=B0 aB
   refine eX { vars:=[13],boxes:=[3],owns:=[],fuel:=true } (eX (λvs os h'=>∃ aV bN bO bC bP bD bQ,vs.tail = [.int .i64 aV,.int .i64 bN,.int .i64 bO,.slice bC bP bD]/\os = []/\Sub k7 h'/\O0 aV/\O0 bN/\O0 bO/\J0.R h' [.slice bC bP bD] bQ/\Q4 x6 aD aA aF aG aH aJ (D2 vs) aV bN bO bQ=some X12) (eX (λ_ _=>0) (aI (eX U0 ⟨0,aD,((x6.length:Nat):Int),none,0,0,[],rfl,rfl,(Sub.refl _),(by decide),aK,(f0b dY),(c09 H1 k7),cG⟩) ?_)))
   rintro _ _ _ _ cP dZ ⟨aV,bN,bO,bC,bP,bD,bQ,⟨⟩,⟨⟩,aO,cV,cH,cI,bR,aW⟩
   replace aW:Q4 x6 aD aA aF aG aH aJ cP aV bN bO bQ=some X12:=aW
   obtain _|cP:=cP
   ·cases aW
   rw[Q4.eq_2]at aW
   obtain⟨rfl,eA⟩:=Sl.len bR
   refine ifB aW (λcW aW=>?_) λcW aW=>?_
   ·obtain⟨X20,cJ,aW⟩:=B0 aW
    refine eX { vars:=[14],boxes:=[3],owns:=[],fuel:=true } (eX (λvs os h'=>∃ aX bS bT bE bU bF bK,vs.tail = [.int .i64 aX,.int .i64 bS,.int .i64 bT,.slice bE bU bF]/\os = []/\Sub dZ h'/\O0 aX/\O0 bS/\O0 bT/\J0.R h' [.slice bE bU bF] bK/\C5 aD x6 aV aA aF aG aH aJ (D2 vs) aX bS bT bK=some X20) (eX (λ_ _=>0) (aI (eX U0 ⟨1,bN,bO,bC,bQ.length,bD,bQ,rfl,rfl,(Sub.refl _),(by decide),cH,cI,bR,cJ⟩) ?_)))
    rintro _ _ _ _ cQ eC ⟨aX,bS,bT,bE,bU,bF,bK,⟨⟩,⟨⟩,aP,bV,cK,cL,bW,aC⟩
    replace aC:C5 aD x6 aV aA aF aG aH aJ cQ aX bS bT bK=some X20:=aC
    obtain _|cQ:=cQ
    ·cases aC
    rw[C5.eq_2]at aC
    obtain⟨rfl,eD⟩:=Sl.len bW
    refine ifB aC (λcX aC=>?_) λcX aC=>?_
    ·refine Or.inl (aI (aI (by kernel_rfl) (by kernel_rfl)) ?_)
     refine ldI aC (M4.mono (aO.trans aP) cE) λeE eF aC=>?_
     obtain⟨eV,cY,aC⟩:=B0 aC
     have cZ:=A2 cY
     refine aI cZ ?_
     obtain⟨cR,dA,aC⟩:=B0 aC
     refine eX (.int .i64 cR) (aI (n7 _ [.int .i64 aD,.int .i64 aF,.slice aY aG.length aZ] (aD,aF,aG) (l0 aK aQ (J0.mono ((cA.trans aO).trans aP) aL)) (IntKind.i64.wrap (Int.tdiv eE aA)) (I0 _) aX bV _  dA) ?_)
     obtain⟨eW,dB,aC⟩:=B0 aC
     have eG:O0 cR:=A2 dB
     refine Or.inl (aI (aI (by kernel_rfl) (by kernel_rfl)) ?_)
     refine ldI aC (M4.mono (aO.trans aP) cE) λeH dC aC=>?_
     obtain⟨eY,dD,aC⟩:=B0 aC
     have dE:=A2 dD
     refine aI dE ?_
     obtain⟨cS,dF,aC⟩:=B0 aC
     refine eX (.int .i64 cS) (aI (n7 _ [.int .i64 aH,.int .i64 aA,.slice bA aJ.length bB] (aH,aA,aJ) (l0 aR aS (J0.mono ((cA.trans aO).trans aP) aM)) (Int.tmod eH aA) (k0h dC) aX bV _  dF) ?_)
     obtain⟨eZ,dG,aC⟩:=B0 aC
     have eI:O0 cS:=A2 dG
     obtain⟨X36,cM,aC⟩:=B0 aC
     refine eX { vars:=[17],boxes:=[3],owns:=[],fuel:=true } (eX (λvs os h'=>∃ bH bL bM aT bX aU bG,vs.tail = [.int .i64 bH,.int .i64 bL,.int .i64 bM,.slice aT bX aU]/\os = []/\Sub eC h'/\O0 bH/\O0 bL/\O0 bM/\J0.R h' [.slice aT bX aU] bG/\Y3 x6 cR cS aA aV aX (D2 vs) bH bL bM bG=some X36) (eX (λ_ _=>0) (aI (eX U0 ⟨0,bS,bT,bE,bK.length,bF,bK,rfl,rfl,(Sub.refl _),(by decide),cK,cL,bW,cM⟩) ?_)))
     rintro _ _ _ _ cN fA ⟨bH,bL,bM,aT,bX,aU,bG,⟨⟩,⟨⟩,bI,dH,bY,bZ,bJ,aN⟩
     replace aN:Y3 x6 cR cS aA aV aX cN bH bL bM bG=some X36:=aN
     obtain _|cN:=cN
     ·cases aN
     rw[Y3.eq_2]at aN
     obtain⟨rfl,eJ⟩:=Sl.len bJ
     refine ifB aN (λdI aN=>?_) λdI aN=>?_
     ·refine Or.inl (aI (aI (by kernel_rfl) (by kernel_rfl)) ?_)
      refine ldI aN (M4.mono ((aO.trans aP).trans bI) cE) λfB eM aN=>?_
      refine ifB aN (λdJ aN=>?_) λdJ aN=>?_
      ·refine trM aN (T9 _ aT bG.length aU bG bJ [.int .i64 aV,.int .i64 aX,.int .i64 bH] (aV,aX,bH) (T1 cV bV dH)) ?_
       rintro dU aN fC fD ⟨dK,eN,dL,rfl,cO,dM⟩
       obtain⟨rfl,eO⟩:=Sl.len cO
       exact A3 cN ⟨(IntKind.i64.wrap (bH+1)),bL,bM,dK,dU.length,dL,dU,rfl,rfl,(bI.trans dM),(I0 _),bY,bZ,cO,aN⟩
      ·exact A3 cN ⟨(IntKind.i64.wrap (bH+1)),bL,bM,aT,bG.length,aU,bG,rfl,rfl,bI,(I0 _),bY,bZ,bJ,aN⟩
     ·obtain rfl:=oJ aN
      try dsimp only[C1,E1]at aC
      exact A3 cQ ⟨(IntKind.i64.wrap (aX+1)),bL,bM,aT,bG.length,aU,bG,rfl,rfl,(aP.trans bI),(I0 _),bY,bZ,bJ,aC⟩
    ·obtain rfl:=oJ aC
     try dsimp only[C1,E1]at aW
     exact A3 cP ⟨(IntKind.i64.wrap (aV+1)),bS,bT,bE,bK.length,bF,bK,rfl,rfl,(aO.trans aP),(I0 _),cK,cL,bW,aW⟩
   ·obtain rfl:=oJ aW
    try dsimp only[C1,E1]at aB
    obtain rfl:=oJ aB
    exact⟨([.int .i64 bN,.int .i64 bO,.slice bC bQ.length bD]),rfl,(l0 cH cI bR),(cA.trans aO)⟩
end Go.Proofs.YtkjhghloldgioaaGreat
