/- Texts of the claim, joined: The walks of batch 1 and others. -/
import Derived.Test.YtkjhghloldgioaaGreatPart18
import Derived.Test.YtkjhghloldgioaaGreatChecked
import Derived.Test.YtkjhghloldgioaaGreatH35
import Derived.Test.YtkjhghloldgioaaGreatSI
import Derived.Test.YtkjhghloldgioaaGreatPart21
import Derived.Test.YtkjhghloldgioaaGreatH41
namespace Go.Proofs.YtkjhghloldgioaaGreat
open Go.H
set_option linter.unusedVariables false
set_option linter.unusedSimpArgs false
set_option maxRecDepth 10000
theorem Y7(h:Hp)(p0:Int)(aC:P0 p0)(p1:Int)(aD:P0 p1)(p2:Int)(aF:P0 p2)(r:Bool)(aB:D5 p0 p1 p2=some r):
  Tr Tryz.prog 76 #[.int .i64 p0,.int .i64 p1,.int .i64 p2] h λv h'=>v = .bool r/\h'=h:=by
 unfold D5 at aB
 refine Tr.forget (G3 (args:=[.int .i64 p0,.int .i64 p1,.int .i64 p2]) (fn:=Tryz.f76) rfl ?_)
 obtain rfl:=oJ aB
 exact aI rfl (Sub.refl _)
theorem B01(h:Hp)(p0:Int)(aC:P0 p0)(p1:Int)(aD:P0 p1)(p2:Int)(aF:P0 p2)(r:Bool)(aB:N8 p0 p1 p2=some r):
  Tr Tryz.prog 78 #[.int .i64 p0,.int .i64 p1,.int .i64 p2] h λv h'=>v = .bool r/\h'=h:=by
 unfold N8 at aB
 refine Tr.forget (G3 (args:=[.int .i64 p0,.int .i64 p1,.int .i64 p2]) (fn:=Tryz.f78) rfl ?_)
 obtain rfl:=oJ aB
 exact aI rfl (Sub.refl _)
theorem L07(h:Hp)(p0:Int)(aC:P0 p0)(p1:Int)(aD:P0 p1)(r:Bool)(aB:H8 p0 p1=some r):
  Tr Tryz.prog 198 #[.int .i64 p0,.int .i64 p1] h λv h'=>v = .bool r/\h'=h:=by
 unfold H8 at aB
 refine Tr.forget (G3 (args:=[.int .i64 p0,.int .i64 p1]) (fn:=Tryz.f198) rfl ?_)
 obtain rfl:=oJ aB
 exact aI rfl (Sub.refl _)
theorem A00(h:Hp)(p0:Int)(aF:P0 p0)(p1:Int)(aJ:P0 p1)(r:Int)(aB:R5 p0 p1=some r):
  Tr Tryz.prog 342 #[.int .i64 p0,.int .i64 p1] h λv h'=>v = .int .i64 r/\h'=h:=by
 unfold R5 at aB
 refine Tr.forget (G3 (args:=[.int .i64 p0,.int .i64 p1]) (fn:=Tryz.f342) rfl ?_)
 refine ifB aB (λaC aB=>?_) λaC aB=>?_
 ·obtain rfl:=oJ aB
  exact aI rfl (Sub.refl _)
 ·refine ifB aB (λaD aB=>?_) λaD aB=>?_
  ·obtain rfl:=oJ aB
   exact aI rfl (Sub.refl _)
  ·obtain rfl:=oJ aB
   exact aI rfl (Sub.refl _)
theorem M07(h:Hp)(aJ:Option Addr)(aR aK:Nat)(p0:B0)(aS:N0.R h [.slice aJ aR aK] p0)(r:B0)(aC:D7 p0=some r):
  Tr Tryz.prog 182 #[.slice aJ aR aK] h λv h'=>∃(a0:Option Addr) (n0 c0:Nat),v = .slice a0 n0 c0/\N0.R h' [.slice a0 n0 c0] r/\Sub h h':=by
 obtain⟨rfl,aZ⟩:=Sl.len aS
 unfold D7 at aC
 refine G3 (args:=[.slice aJ p0.length aK]) (fn:=Tryz.f182) rfl ?_
 obtain⟨X1,aL,aC⟩:=C0 aC
 refine eX { vars:=[4],boxes:=[],owns:=[0],fuel:=true } (eX (λvs os h'=>∃ u2 aD u3,vs.tail = [.int .i64 u2]/\os = [aD]/\Sub h h'/\P0 u2/\F2 (Wp.int.R h') aD u3/\S3 p0 (N1 vs) u2 u3=some X1) (eX (λ_ _=>0) (aI (eX T0 ⟨(IntKind.i64.wrap (((p0.length:Nat):Int)-1)),[],([]:B0),rfl,rfl,(Sub.refl _),(J0 _),(show F2 (Wp.int.R h) ([]:List (List Value)) ([]:B0) from trivial),aL⟩) ?_)))
 rintro _ aD m5 k4 ⟨u2,aT,u3,⟨⟩,⟨⟩,aM,bA,aF,aB⟩
 replace aB:S3 p0 m5 u2 u3=some X1:=aB
 obtain _|m5:=m5
 ·cases aB
 rw[S3.eq_2]at aB
 refine ifB aB (λaU aB=>?_) λaU aB=>?_
 ·refine ldI aB (N0.mono aM aS) λx7 bB aB=>?_
  obtain⟨q8,aV,aB⟩:=C0 aB
  refine aI (E1 aV (by first|rw[F2.length aF,F2.length (show F2 (Wp.int.R k4) ([[.int .i64 (IntKind.i64.wrap (0-x7))]]:List (List Value)) [(IntKind.i64.wrap (0-x7))] from⟨⟨rfl,(J0 _)⟩,trivial⟩)]|exact congrArg (·+1) (F2.length aF))) ?_
  exact T2 m5 ⟨(IntKind.i64.wrap (u2-1)),(aD++([[.int .i64 (IntKind.i64.wrap (0-x7))]]:List (List Value))),(u3 ++ [(IntKind.i64.wrap (0-x7))]),rfl,rfl,aM,(J0 _),(F2.append aF (show F2 (Wp.int.R k4) ([[.int .i64 (IntKind.i64.wrap (0-x7))]]:List (List Value)) [(IntKind.i64.wrap (0-x7))] from⟨⟨rfl,(J0 _)⟩,trivial⟩)),aB⟩
 ·obtain rfl:=oJ aB
  try dsimp only[U0,V0]at aC
  intro v9 bC aX
  obtain⟨aN,aO,rfl,aP,aQ,aY⟩:=Q0.out (r:=Wp.int.toRp) aX aF
  obtain rfl:=oJ aC
  exact⟨aN,u3.length,aO,rfl,aP,(aM.trans aQ)⟩
theorem w05(h:Hp)(aP:Option Addr)(bF aQ:Nat)(p0:B0)(aL:N0.R h [.slice aP bF aQ] p0)(r:B0)(aF:z7 p0=some r):
  Tr Tryz.prog 212 #[.slice aP bF aQ] h λv h'=>∃(a0:Option Addr) (n0 c0:Nat),v = .slice a0 n0 c0/\N0.R h' [.slice a0 n0 c0] r/\Sub h h':=by
 obtain⟨rfl,bR⟩:=Sl.len aL
 unfold z7 at aF
 refine G3 (args:=[.slice aP p0.length aQ]) (fn:=Tryz.f212) rfl ?_
 obtain⟨X1,aR,aF⟩:=C0 aF
 refine eX { vars:=[4],boxes:=[],owns:=[0],fuel:=true } (eX (λvs os h'=>∃ u2 aD u3,vs.tail = [.int .i64 u2]/\os = [aD]/\Sub h h'/\P0 u2/\F2 (Wp.int.R h') aD u3/\L3 p0 (N1 vs) u2 u3=some X1) (eX (λ_ _=>0) (aI (eX T0 ⟨0,[],([]:B0),rfl,rfl,(Sub.refl _),(by decide),(show F2 (Wp.int.R h) ([]:List (List Value)) ([]:B0) from trivial),aR⟩) ?_)))
 rintro _ aD m5 k4 ⟨u2,bI,u3,⟨⟩,⟨⟩,aJ,bS,aC,aB⟩
 replace aB:L3 p0 m5 u2 u3=some X1:=aB
 obtain _|m5:=m5
 ·cases aB
 rw[L3.eq_2]at aB
 refine ifB aB (λbJ aB=>?_) λbJ aB=>?_
 ·obtain⟨m7,bK,aB⟩:=C0 aB
  obtain rfl:aD.length=m7:=(F2.length aC).trans (oJ bK)
  obtain⟨q8,bT,aB⟩:=C0 aB
  refine Or.inl (aI (aI (by kernel_rfl) (by kernel_rfl)) ?_)
  refine ldG aB (N0.mono aJ aL) λx9 bU aB=>?_
  obtain⟨bV,aS,aB⟩:=C0 aB
  obtain⟨bG,aM,aT⟩:=S00 aC aS (J0a k4)
  refine aI (λq=>(aM q).1) ?_
  obtain⟨rfl,bL⟩:=aT
  refine eX _ (aI (λq=>(aM q).2) ?_)
  refine ldG aB (N0.mono aJ aL) λbW bM aB=>?_
  obtain⟨bX,aU,aB⟩:=C0 aB
  obtain⟨bH,aN,aV⟩:=S00 aC aU (J0a k4)
  refine aI (λq=>(aN q).1) ?_
  obtain⟨rfl,bN⟩:=aV
  refine eX _ (aI (λq=>(aN q).2) ?_)
  refine ldG aB (N0.mono aJ aL) λbY bO aB=>?_
  refine ifB aB (λaX aB=>?_) λaX aB=>?_
  ·obtain⟨bZ,aY,aB⟩:=C0 aB
   refine aI (by have:=Y2 aY;have:=F2.length aC;omega) ?_
   exact T2 m5 ⟨(IntKind.i64.wrap (u2+1)),(aD.take (IntKind.i64.wrap (((aD.length:Nat):Int)-1)).toNat),(u3.take (IntKind.i64.wrap (((aD.length:Nat):Int)-1)).toNat),rfl,rfl,aJ,(J0 _),(F2.take (IntKind.i64.wrap (((aD.length:Nat):Int)-1)).toNat aC),aB⟩
  ·refine ldI aB (N0.mono aJ aL) λaK aO aB=>?_
   obtain⟨cC,aZ,aB⟩:=C0 aB
   refine aI (E1 aZ (by first|rw[F2.length aC,F2.length (show F2 (Wp.int.R k4) ([[.int .i64 aK]]:List (List Value)) [aK] from⟨⟨rfl,aO⟩,trivial⟩)]|exact congrArg (·+1) (F2.length aC))) ?_
   exact T2 m5 ⟨(IntKind.i64.wrap (u2+1)),(aD++([[.int .i64 aK]]:List (List Value))),(u3 ++ [aK]),rfl,rfl,aJ,(J0 _),(F2.append aC (show F2 (Wp.int.R k4) ([[.int .i64 aK]]:List (List Value)) [aK] from⟨⟨rfl,aO⟩,trivial⟩)),aB⟩
 ·obtain rfl:=oJ aB
  try dsimp only[U0,V0]at aF
  obtain⟨cD,bA,aF⟩:=C0 aF
  refine aI (E1 bA (by first|rw[F2.length (show F2 (Wp.int.R k4) ([]:List (List Value)) ([]:B0) from trivial),F2.length aC]|exact congrArg (·+0) (F2.length (show F2 (Wp.int.R k4) ([]:List (List Value)) ([]:B0) from trivial)))) ?_
  intro cE cI bP
  obtain⟨bB,bC,rfl,bD,bE,bQ⟩:=Q0.out (r:=Wp.int.toRp) bP (F2.append (show F2 (Wp.int.R k4) ([]:List (List Value)) ([]:B0) from trivial) aC)
  obtain rfl:=oJ aF
  exact⟨bB,((([]:B0)++u3)).length,bC,rfl,bD,(aJ.trans bE)⟩
theorem N01(h:Hp)(aD:Option Addr)(aN aF:Nat)(p0:B0)(aO:N0.R h [.slice aD aN aF] p0)(aJ:Option Addr)(aP aK:Nat)(p1:B0)(aQ:N0.R h [.slice aJ aP aK] p1)(r:B0)(aB:g6 p0 p1=some r):
  Tr Tryz.prog 254 #[.slice aD aN aF,.slice aJ aP aK] h λv h'=>∃(a0:Option Addr) (n0 c0:Nat),v = .slice a0 n0 c0/\N0.R h' [.slice a0 n0 c0] r/\Sub h h':=by
 obtain⟨rfl,bD⟩:=Sl.len aO
 obtain⟨rfl,bE⟩:=Sl.len aQ
 unfold g6 at aB
 refine G3 (args:=[.slice aD p0.length aF,.slice aJ p1.length aK]) (fn:=Tryz.f254) rfl ?_
 obtain⟨aL,aT,aC⟩:=Sl.rows (r:=Wp.int.toRp) aO
 refine eX aL (aI aT ?_)
 obtain⟨q2,aU,aB⟩:=C0 aB
 refine aI (E1 aU (by first|rw[F2.length (show F2 (Wp.int.R h) ([]:List (List Value)) ([]:B0) from trivial),F2.length aC]|exact congrArg (·+1) (F2.length (show F2 (Wp.int.R h) ([]:List (List Value)) ([]:B0) from trivial)))) ?_
 obtain⟨aM,aV,aR⟩:=Sl.rows (r:=Wp.int.toRp) aQ
 refine eX aM (aI aV ?_)
 obtain⟨q4,aX,aB⟩:=C0 aB
 refine aI (E1 aX (by first|rw[F2.length (F2.append (show F2 (Wp.int.R h) ([]:List (List Value)) ([]:B0) from trivial) aC),F2.length aR]|exact congrArg (·+1) (F2.length (F2.append (show F2 (Wp.int.R h) ([]:List (List Value)) ([]:B0) from trivial) aC)))) ?_
 refine Or.inl ?_
 intro v5 k6 f7
 obtain⟨bF,bG,rfl,aY,aZ,bH⟩:=Q0.out (r:=Wp.int.toRp) f7 (F2.append (F2.append (show F2 (Wp.int.R h) ([]:List (List Value)) ([]:B0) from trivial) aC) aR)
 refine trM aB (w05 _ _ _ _ _ aY) ?_
 rintro x9 aB bI bJ ⟨bA,bK,bB,rfl,aS,bC⟩
 obtain⟨rfl,bL⟩:=Sl.len aS
 obtain rfl:=oJ aB
 exact⟨bA,x9.length,bB,rfl,aS,(aZ.trans bC)⟩
theorem N07(h:Hp)(aJ:Option Addr)(aP aK:Nat)(p0:B0)(aQ:N0.R h [.slice aJ aP aK] p0)(r:B0)(aC:I8 p0=some r):
  Tr Tryz.prog 189 #[.slice aJ aP aK] h λv h'=>∃(a0:Option Addr) (n0 c0:Nat),v = .slice a0 n0 c0/\New N0 h h' [.slice a0 n0 c0] r:=by
 obtain⟨rfl,aZ⟩:=Sl.len aQ
 unfold I8 at aC
 refine G3 (args:=[.slice aJ p0.length aK]) (fn:=Tryz.f189) rfl ?_
 obtain⟨q1,aR,aC⟩:=C0 aC
 refine aI (Y2 aR) ?_
 obtain⟨X2,aL,aC⟩:=C0 aC
 refine eX { vars:=[4],boxes:=[],owns:=[0],fuel:=true } (eX (λvs os h'=>∃ u3 aF u4,vs.tail = [.int .i64 u3]/\os = [aF]/\Sub h h'/\P0 u3/\F2 (Wp.int.R h') aF u4/\A5 p0 (N1 vs) u3 u4=some X2) (eX (λ_ _=>0) (aI (eX T0 ⟨(IntKind.i64.wrap (((p0.length:Nat):Int)-1)),(List.replicate (0:Int).toNat ([.int .i64 0]:List Value)),(List.replicate (0:Int).toNat (0:Int)),rfl,rfl,(Sub.refl _),(J0 _),(F2.rep (p:=Wp.int.R h) (a:=[.int .i64 0]) (b:=0) ⟨rfl,(by decide)⟩ ((0:Int).toNat)),aL⟩) ?_)))
 rintro _ aF m6 k5 ⟨u3,aS,u4,⟨⟩,⟨⟩,aM,bA,aD,aB⟩
 replace aB:A5 p0 m6 u3 u4=some X2:=aB
 obtain _|m6:=m6
 ·cases aB
 rw[A5.eq_2]at aB
 refine ifB aB (λaT aB=>?_) λaT aB=>?_
 ·refine ldI aB (N0.mono aM aQ) λx8 bB aB=>?_
  obtain⟨q9,aU,aB⟩:=C0 aB
  refine aI (E1 aU (by first|rw[F2.length aD,F2.length (show F2 (Wp.int.R k5) ([[.int .i64 (IntKind.i64.wrap (0-x8))]]:List (List Value)) [(IntKind.i64.wrap (0-x8))] from⟨⟨rfl,(J0 _)⟩,trivial⟩)]|exact congrArg (·+1) (F2.length aD))) ?_
  exact T2 m6 ⟨(IntKind.i64.wrap (u3-1)),(aF++([[.int .i64 (IntKind.i64.wrap (0-x8))]]:List (List Value))),(u4 ++ [(IntKind.i64.wrap (0-x8))]),rfl,rfl,aM,(J0 _),(F2.append aD (show F2 (Wp.int.R k5) ([[.int .i64 (IntKind.i64.wrap (0-x8))]]:List (List Value)) [(IntKind.i64.wrap (0-x8))] from⟨⟨rfl,(J0 _)⟩,trivial⟩)),aB⟩
 ·obtain rfl:=oJ aB
  try dsimp only[U0,V0]at aC
  intro bC bD f12
  obtain⟨aN,aO,rfl,aV,aX,aY⟩:=Q0.out (r:=Wp.int.toRp) f12 aD
  obtain rfl:=oJ aC
  exact⟨aN,u4.length,aO,rfl,(New.from (Q0.newPlain (r:=Wp.int) f12 aD (U01 _)) aM)⟩
theorem F0b(h:Hp)(aR:Option Addr)(bM aS:Nat)(p0:Q6)(bN:l8.R h [.slice aR bM aS] p0)(r:B0)(aM:W9 p0=some r):
  Tr Tryz.prog 204 #[.slice aR bM aS] h λv h'=>∃(a0:Option Addr) (n0 c0:Nat),v = .slice a0 n0 c0/\New N0 h h' [.slice a0 n0 c0] r:=by
 obtain⟨rfl,cI⟩:=Sl.len bN
 unfold W9 at aM
 refine G3 (args:=[.slice aR p0.length aS]) (fn:=Tryz.f204) rfl ?_
 obtain⟨X1,aT,aM⟩:=C0 aM
 refine eX { vars:=[11],boxes:=[],owns:=[0],fuel:=true } (eX (λvs os h'=>∃ u2 aP u3,vs.tail = [.int .i64 u2]/\os = [aP]/\Sub h h'/\P0 u2/\F2 (Wp.int.R h') aP u3/\i6 p0 (N1 vs) u2 u3=some X1) (eX (λ_ _=>0) (aI (eX T0 ⟨0,[],([]:B0),rfl,rfl,(Sub.refl _),(by decide),(show F2 (Wp.int.R h) ([]:List (List Value)) ([]:B0) from trivial),aT⟩) ?_)))
 rintro _ aP m5 k4 ⟨u2,bR,u3,⟨⟩,⟨⟩,aU,cJ,aV,aF⟩
 replace aF:i6 p0 m5 u2 u3=some X1:=aF
 obtain _|m5:=m5
 ·cases aF
 rw[i6.eq_2]at aF
 refine ifB aF (λbS aF=>?_) λbS aF=>?_
 ·refine ld aF (l8.mono aU bN) λx7 bT aX aF=>?_
  obtain⟨cK,cL,cM,rfl⟩:=Wp.slice_cell aX
  obtain⟨rfl,cN⟩:=Sl.len aX
  obtain⟨X8,aY,aF⟩:=C0 aF
  refine eX { vars:=[17],boxes:=[],owns:=[0],fuel:=true } (eX (λvs os h'=>∃ u9 aC aJ,vs.tail = [.int .i64 u9]/\os = [aC]/\Sub k4 h'/\P0 u9/\F2 (Wp.int.R h') aC aJ/\s5 x7 (N1 vs) u9 aJ=some X8) (eX (λ_ _=>0) (aI (eX T0 ⟨0,aP,u3,rfl,rfl,(Sub.refl _),(by decide),aV,aY⟩) ?_)))
  rintro _ aC aN aZ ⟨u9,bO,aJ,⟨⟩,⟨⟩,aQ,cO,aD,aB⟩
  replace aB:s5 x7 aN u9 aJ=some X8:=aB
  obtain _|aN:=aN
  ·cases aB
  rw[s5.eq_2]at aB
  refine ifB aB (λbA aB=>?_) λbA aB=>?_
  ·refine ldI aB (N0.mono aQ aX) λaL aK aB=>?_
   obtain⟨bU,bB,aB⟩:=C0 aB
   obtain rfl:aC.length=bU:=(F2.length aD).trans (oJ bB)
   obtain⟨cP,bV,aB⟩:=C0 aB
   obtain⟨bW,bC,aB⟩:=C0 aB
   obtain rfl:aC.length=bW:=(F2.length aD).trans (oJ bC)
   obtain⟨cQ,bX,aB⟩:=C0 aB
   obtain⟨cR,bD,aB⟩:=C0 aB
   obtain⟨bP,aO,bE⟩:=S00 aD bD (J0a aZ)
   refine aI (λq=>(aO q).1) ?_
   obtain⟨rfl,bF⟩:=bE
   refine eX _ (aI (λq=>(aO q).2) ?_)
   refine trG aB (λq=>L07 _ _ bF _ aK) λcS aB=>?_
   refine ifB aB (λbG aB=>?_) λbG aB=>?_
   ·obtain⟨bY,bH,aB⟩:=C0 aB
    obtain rfl:aC.length=bY:=(F2.length aD).trans (oJ bH)
    obtain⟨cT,bZ,aB⟩:=C0 aB
    obtain⟨cU,bI,aB⟩:=C0 aB
    refine aI (by have:=Y2 bI;have:=F2.length aD;omega) ?_
    exact T2 aN ⟨(IntKind.i64.wrap (u9+1)),(aC.take (IntKind.i64.wrap (((aC.length:Nat):Int)-1)).toNat),(aJ.take (IntKind.i64.wrap (((aC.length:Nat):Int)-1)).toNat),rfl,rfl,aQ,(J0 _),(F2.take (IntKind.i64.wrap (((aC.length:Nat):Int)-1)).toNat aD),aB⟩
   ·obtain⟨cV,bJ,aB⟩:=C0 aB
    refine aI (E1 bJ (by first|rw[F2.length aD,F2.length (show F2 (Wp.int.R aZ) ([[.int .i64 aL]]:List (List Value)) [aL] from⟨⟨rfl,aK⟩,trivial⟩)]|exact congrArg (·+1) (F2.length aD))) ?_
    exact T2 aN ⟨(IntKind.i64.wrap (u9+1)),(aC++([[.int .i64 aL]]:List (List Value))),(aJ ++ [aL]),rfl,rfl,aQ,(J0 _),(F2.append aD (show F2 (Wp.int.R aZ) ([[.int .i64 aL]]:List (List Value)) [aL] from⟨⟨rfl,aK⟩,trivial⟩)),aB⟩
  ·obtain rfl:=oJ aB
   try dsimp only[U0,V0]at aF
   exact T2 m5 ⟨(IntKind.i64.wrap (u2+1)),aC,aJ,rfl,rfl,(aU.trans aQ),(J0 _),aD,aF⟩
 ·obtain rfl:=oJ aF
  try dsimp only[U0,V0]at aM
  intro cX cY bQ
  obtain⟨bK,bL,rfl,cC,cD,cE⟩:=Q0.out (r:=Wp.int.toRp) bQ aV
  obtain rfl:=oJ aM
  exact⟨bK,u3.length,bL,rfl,(New.from (Q0.newPlain (r:=Wp.int) bQ aV (U01 _)) aU)⟩
theorem V0b(h:Hp)(aD:List Value)(p0:j0)(aZ:Y0.R h aD p0)(aF:List Value)(p1:I0)(bA:K1.R h aF p1)(r:Bool)(aB:r00 p0 p1=some r):
  Tr Tryz.prog 339 #[.agg aD.toArray,.agg aF.toArray] h λv h'=>v = .bool r/\h'=h:=by
 obtain⟨aQ,aC,aJ,aV,aK,aR,rfl,rfl,aL,aX,aM⟩:=D0 aZ
 obtain⟨rfl,aY⟩:=Sl.len aM
 obtain⟨aS,aT,aU,rfl,rfl,aN,aO,aP⟩:=H1 bA
 unfold r00 at aB
 dsimp only at aB
 refine Tr.forget (G3 (args:=[.agg #[.int .i64 aQ,.int .i64 aC,.slice aJ aR.length aK],.agg #[.int .i64 aS,.int .i64 aT,.int .i64 aU]]) (fn:=Tryz.f339) rfl ?_)
 refine trV aB (Y7 _ _ aN 0 (by decide) (IntKind.i64.wrap (aC-1)) (J0 _)) λx1 aB=>?_
 refine trG aB (λq=>Y7 _ _ aP 0 (by decide) (IntKind.i64.wrap (aC-1)) (J0 _)) λx2 aB=>?_
 refine trG aB (λq=>Y7 _ _ aO 1 (by decide) _ aL) λx3 aB=>?_
 obtain rfl:=oJ aB
 exact aI rfl (Sub.refl _)
theorem Y01(h:Hp)(aU:List Value)(p0:I0)(bE:K1.R h aU p0)(aV:List Value)(p1:I0)(bF:K1.R h aV p1)(r:Int)(aM:H6 p0 p1=some r):
  Tr Tryz.prog 314 #[.agg aU.toArray,.agg aV.toArray] h λv h'=>v = .int .i64 r/\h'=h:=by
 obtain⟨aC,aD,aF,rfl,rfl,aN,aO,aP⟩:=H1 bE
 obtain⟨aJ,aK,aL,rfl,rfl,aQ,aR,aS⟩:=H1 bF
 unfold H6 at aM
 dsimp only at aM
 refine Tr.forget (G3 (args:=[.agg #[.int .i64 aC,.int .i64 aD,.int .i64 aF],.agg #[.int .i64 aJ,.int .i64 aK,.int .i64 aL]]) (fn:=Tryz.f314) rfl ?_)
 obtain⟨X1,aX,aM⟩:=C0 aM
 refine eX { vars:=[7],boxes:=[],owns:=[],fuel:=true } (eX (λvs os h'=>∃ u2,vs.tail = [.int .i64 u2]/\os = []/\Sub h h'/\P0 u2/\J5 aC aD aF aJ aK aL (N1 vs) u2=some X1) (eX (λ_ _=>0) (aI (eX T0 ⟨0,rfl,rfl,(Sub.refl _),(by decide),aX⟩) ?_)))
 rintro _ m4 k3 ⟨u2,⟨⟩,⟨⟩,aT,bY,aB⟩
 replace aB:J5 aC aD aF aJ aK aL m4 u2=some X1:=aB
 obtain _|m4:=m4
 ·cases aB
 rw[J5.eq_2]at aB
 refine ifB aB (λbG aB=>?_) λbG aB=>?_
 ·refine Or.inl (aI (aI (by kernel_rfl) (by kernel_rfl)) ?_)
  obtain⟨x6,bH,aB⟩:=C0 aB
  obtain⟨bI,bJ,bK,bL⟩:=E3 (F2.up (r:=Wp.int.toRp) aT (show F2 (Wp.int.R h) ([[.int .i64 aC],[.int .i64 aD],[.int .i64 aF]]:List (List Value)) [aC,aD,aF] from⟨⟨rfl,aN⟩,⟨⟨rfl,aO⟩,⟨⟨rfl,aP⟩,trivial⟩⟩⟩)) bH
  refine aI bI ?_
  obtain⟨rfl,bZ⟩:=bL
  refine eX _ (aI bK ?_)
  obtain⟨x7,bM,aB⟩:=C0 aB
  obtain⟨bN,bO,bP,bQ⟩:=E3 (F2.up (r:=Wp.int.toRp) aT (show F2 (Wp.int.R h) ([[.int .i64 aJ],[.int .i64 aK],[.int .i64 aL]]:List (List Value)) [aJ,aK,aL] from⟨⟨rfl,aQ⟩,⟨⟨rfl,aR⟩,⟨⟨rfl,aS⟩,trivial⟩⟩⟩)) bM
  refine aI bN ?_
  obtain⟨rfl,cC⟩:=bQ
  refine eX _ (aI bP ?_)
  refine ifB aB (λbR aB=>?_) λbR aB=>?_
  ·obtain rfl:=oJ aB
   try dsimp only[t6,w6]at aM
   obtain rfl:=oJ aM
   exact aI rfl aT
  ·refine Or.inl (aI (aI (by kernel_rfl) (by kernel_rfl)) ?_)
   obtain⟨x9,bS,aB⟩:=C0 aB
   obtain⟨bT,bU,bV,bW⟩:=E3 (F2.up (r:=Wp.int.toRp) aT (show F2 (Wp.int.R h) ([[.int .i64 aC],[.int .i64 aD],[.int .i64 aF]]:List (List Value)) [aC,aD,aF] from⟨⟨rfl,aN⟩,⟨⟨rfl,aO⟩,⟨⟨rfl,aP⟩,trivial⟩⟩⟩)) bS
   refine aI bT ?_
   obtain⟨rfl,cD⟩:=bW
   refine eX _ (aI bV ?_)
   obtain⟨cE,aY,aB⟩:=C0 aB
   obtain⟨aZ,bD,bA,bB⟩:=E3 (F2.up (r:=Wp.int.toRp) aT (show F2 (Wp.int.R h) ([[.int .i64 aJ],[.int .i64 aK],[.int .i64 aL]]:List (List Value)) [aJ,aK,aL] from⟨⟨rfl,aQ⟩,⟨⟨rfl,aR⟩,⟨⟨rfl,aS⟩,trivial⟩⟩⟩)) aY
   refine aI aZ ?_
   obtain⟨rfl,bX⟩:=bB
   refine eX _ (aI bA ?_)
   refine ifB aB (λbC aB=>?_) λbC aB=>?_
   ·obtain rfl:=oJ aB
    try dsimp only[t6,w6]at aM
    obtain rfl:=oJ aM
    exact aI rfl aT
   ·exact T2 m4 ⟨(IntKind.i64.wrap (u2+1)),rfl,rfl,aT,(J0 _),aB⟩
 ·obtain rfl:=oJ aB
  try dsimp only[U0,V0]at aM
  obtain rfl:=oJ aM
  exact aI rfl aT
theorem B7(h:Hp)(aO:List Value)(p0:j0)(bI:Y0.R h aO p0)(r:Bool)(aD:O4 p0=some r):
  Tr Tryz.prog 312 #[.agg aO.toArray] h λv h'=>v = .bool r/\h'=h:=by
 obtain⟨aK,aL,aP,bE,aQ,aM,rfl,rfl,aF,aJ,aC⟩:=D0 bI
 obtain⟨rfl,bF⟩:=Sl.len aC
 unfold O4 at aD
 dsimp only at aD
 refine Tr.forget (G3 (args:=[.agg #[.int .i64 aK,.int .i64 aL,.slice aP aM.length aQ]]) (fn:=Tryz.f312) rfl ?_)
 obtain⟨X1,bB,aD⟩:=C0 aD
 refine eX { vars:=[3],boxes:=[],owns:=[],fuel:=true } (eX (λvs os h'=>∃ u2,vs.tail = [.int .i64 u2]/\os = []/\Sub h h'/\P0 u2/\U5 aM aK aL (N1 vs) u2=some X1) (eX (λ_ _=>0) (aI (eX T0 ⟨0,rfl,rfl,(Sub.refl _),(by decide),bB⟩) ?_)))
 rintro _ m4 k3 ⟨u2,⟨⟩,⟨⟩,aN,cJ,aB⟩
 replace aB:U5 aM aK aL m4 u2=some X1:=aB
 obtain _|m4:=m4
 ·cases aB
 rw[U5.eq_2]at aB
 refine ifB aB (λbJ aB=>?_) λbJ aB=>?_
 ·refine Or.inl (aI (aI (by kernel_rfl) (by kernel_rfl)) ?_)
  refine ld aB (M0.mono aN aC) λx6 bK bL aB=>?_
  obtain⟨bM,bN,bO,rfl,rfl,aR,aS,aT⟩:=H1 bL
  try dsimp only at aB
  obtain⟨x7,bP,aB⟩:=C0 aB
  refine eX (.bool x7) (aI (V0b _ _ _ (l0 aF aJ (M0.mono aN aC)) _ _ (Q1 aR aS aT) _  bP) ?_)
  obtain⟨x8,bQ,aB⟩:=C0 aB
  obtain⟨bR,bG,bS⟩:=Sl.getG (r:=K1.toRp) (M0.mono aN aC) bQ (by decide) (A0g k3)
  refine aI (λq=>(bG q).1) ?_
  obtain⟨bT,bU,bV,rfl,rfl,aU,aV,aX⟩:=H1 bS
  try dsimp only at aB
  refine eX _ (aI (λq=>(bG q).2) ?_)
  obtain⟨x9,bW,aB⟩:=C0 aB
  obtain⟨bX,bH,bY⟩:=Sl.getG (r:=K1.toRp) (M0.mono aN aC) bW (by decide) (A0g k3)
  refine aI (λq=>(bH q).1) ?_
  obtain⟨bZ,cC,cD,rfl,rfl,aY,aZ,bA⟩:=H1 bY
  try dsimp only at aB
  refine eX _ (aI (λq=>(bH q).2) ?_)
  refine trG aB (λq=>Y01 _ _ _ (Q1 aU aV aX) _ _ (Q1 aY aZ bA)) λcE aB=>?_
  obtain⟨cK,bC,aB⟩:=C0 aB
  have cI:P0 cE:=Y2 bC
  refine ifB aB (λbD aB=>?_) λbD aB=>?_
  ·obtain rfl:=oJ aB
   try dsimp only[t6,w6]at aD
   obtain rfl:=oJ aD
   exact aI rfl aN
  ·exact T2 m4 ⟨(IntKind.i64.wrap (u2+1)),rfl,rfl,aN,(J0 _),aB⟩
 ·obtain rfl:=oJ aB
  try dsimp only[U0,V0]at aD
  refine trV aD (Y7 _ _ aF 1 (by decide) 3 (by decide)) λcL aD=>?_
  refine trG aD (λq=>Y7 _ _ aJ 1 (by decide) 40 (by decide)) λcM aD=>?_
  obtain rfl:=oJ aD
  exact aI rfl aN
theorem V8(h:Hp)(aB:List Value)(p0:j0)(aR:Y0.R h aB p0)(p1:Int)(aS:P0 p1)(r:Bool)(aC:U3 p0 p1=some r):
  Tr Tryz.prog 290 #[.agg aB.toArray,.int .i64 p1] h λv h'=>v = .bool r/\h'=h:=by
 obtain⟨aL,aD,aF,aN,aJ,aM,rfl,rfl,aO,aP,aK⟩:=D0 aR
 obtain⟨rfl,aQ⟩:=Sl.len aK
 unfold U3 at aC
 dsimp only at aC
 refine Tr.forget (G3 (args:=[.agg #[.int .i64 aL,.int .i64 aD,.slice aF aM.length aJ],.int .i64 p1]) (fn:=Tryz.f290) rfl ?_)
 refine trV aC (B01 _ _ aS 0 (by decide) (IntKind.i64.wrap (aD-1)) (J0 _)) λx1 aC=>?_
 obtain rfl:=oJ aC
 exact aI rfl (Sub.refl _)
theorem x05(h:Hp)(aJ:List Value)(p0:j0)(aZ:Y0.R h aJ p0)(aK:List Value)(p1:I0)(bA:K1.R h aK p1)(r:Bool)(aD:n7 p0 p1=some r):
  Tr Tryz.prog 337 #[.agg aJ.toArray,.agg aK.toArray] h λv h'=>v = .bool r/\h'=h:=by
 obtain⟨aQ,aR,aL,aX,aM,aS,rfl,rfl,aB,aF,aC⟩:=D0 aZ
 obtain⟨rfl,aY⟩:=Sl.len aC
 obtain⟨aT,aU,aV,rfl,rfl,aN,aO,aP⟩:=H1 bA
 unfold n7 at aD
 dsimp only at aD
 refine Tr.forget (G3 (args:=[.agg #[.int .i64 aQ,.int .i64 aR,.slice aL aS.length aM],.agg #[.int .i64 aT,.int .i64 aU,.int .i64 aV]]) (fn:=Tryz.f337) rfl ?_)
 refine trV aD (V8 _ _ _ (l0 aB aF aC) _ aN) λx1 aD=>?_
 refine trG aD (λq=>V8 _ _ _ (l0 aB aF aC) _ aP) λx2 aD=>?_
 refine trG aD (λq=>B01 _ _ aO 1 (by decide) _ aB) λx3 aD=>?_
 obtain rfl:=oJ aD
 exact aI rfl (Sub.refl _)
theorem Z01(h:Hp)(aC:List Value)(p0:I0)(aU:K1.R h aC p0)(aD:List Value)(p1:I0)(aV:K1.R h aD p1)(r:Int)(aB:K7 p0 p1=some r):
  Tr Tryz.prog 316 #[.agg aC.toArray,.agg aD.toArray] h λv h'=>v = .int .i64 r/\h'=h:=by
 obtain⟨aO,aP,aQ,rfl,rfl,aF,aJ,aK⟩:=H1 aU
 obtain⟨aR,aS,aT,rfl,rfl,aL,aM,aN⟩:=H1 aV
 unfold K7 at aB
 dsimp only at aB
 refine Tr.forget (G3 (args:=[.agg #[.int .i64 aO,.int .i64 aP,.int .i64 aQ],.agg #[.int .i64 aR,.int .i64 aS,.int .i64 aT]]) (fn:=Tryz.f316) rfl ?_)
 refine trV aB (A00 _ _ aF _ aL) λx1 aB=>?_
 obtain⟨q2,aX,aB⟩:=C0 aB
 have bC:P0 x1:=Y2 aX
 refine ifB aB (λaY aB=>?_) λaY aB=>?_
 ·obtain rfl:=oJ aB
  exact aI rfl (Sub.refl _)
 ·refine trV aB (A00 _ _ aJ _ aM) λx4 aB=>?_
  obtain⟨q5,aZ,aB⟩:=C0 aB
  have bD:P0 x4:=Y2 aZ
  refine ifB aB (λbA aB=>?_) λbA aB=>?_
  ·obtain rfl:=oJ aB
   exact aI rfl (Sub.refl _)
  ·refine trV aB (A00 _ _ aK _ aN) λx7 aB=>?_
   obtain⟨q8,bB,aB⟩:=C0 aB
   have bE:P0 x7:=Y2 bB
   obtain rfl:=oJ aB
   exact aI rfl (Sub.refl _)
theorem a01(h:Hp)(aU:List Value)(p0:j0)(bL:Y0.R h aU p0)(r:Bool)(aC:o7 p0=some r):
  Tr Tryz.prog 300 #[.agg aU.toArray] h λv h'=>v = .bool r/\h'=h:=by
 obtain⟨aN,aO,aV,bF,aX,aP,rfl,rfl,aF,aJ,aD⟩:=D0 bL
 obtain⟨rfl,bG⟩:=Sl.len aD
 unfold o7 at aC
 dsimp only at aC
 refine Tr.forget (G3 (args:=[.agg #[.int .i64 aN,.int .i64 aO,.slice aV aP.length aX]]) (fn:=Tryz.f300) rfl ?_)
 refine trV aC (B01 _ _ aF 1 (by decide) 3 (by decide)) λx1 aC=>?_
 refine trG aC (λq=>B01 _ _ aJ 1 (by decide) 40 (by decide)) λx2 aC=>?_
 refine ifB aC (λbM aC=>?_) λbM aC=>?_
 ·obtain rfl:=oJ aC
  exact aI rfl (Sub.refl _)
 ·obtain⟨X4,aZ,aC⟩:=C0 aC
  refine eX { vars:=[24],boxes:=[],owns:=[],fuel:=true } (eX (λvs os h'=>∃ u5,vs.tail = [.int .i64 u5]/\os = []/\Sub h h'/\P0 u5/\V5 aP aN aO (N1 vs) u5=some X4) (eX (λ_ _=>0) (aI (eX T0 ⟨0,rfl,rfl,(Sub.refl _),(by decide),aZ⟩) ?_)))
  rintro _ m7 k6 ⟨u5,⟨⟩,⟨⟩,aT,bW,aB⟩
  replace aB:V5 aP aN aO m7 u5=some X4:=aB
  obtain _|m7:=m7
  ·cases aB
  rw[V5.eq_2]at aB
  refine ifB aB (λbN aB=>?_) λbN aB=>?_
  ·refine ld aB (M0.mono aT aD) λx9 bO bP aB=>?_
   obtain⟨bQ,bR,bS,rfl,rfl,aK,aL,aM⟩:=H1 bP
   try dsimp only at aB
   refine Or.inl (aI (aI (by kernel_rfl) (by kernel_rfl)) ?_)
   obtain⟨bT,bA,aB⟩:=C0 aB
   refine eX (.bool bT) (aI (x05 _ _ _ (l0 aF aJ (M0.mono aT aD)) _ _ (Q1 aK aL aM) _  bA) ?_)
   obtain⟨bX,bB,aB⟩:=C0 aB
   obtain⟨bH,aY,bC⟩:=Sl.getG (r:=K1.toRp) (M0.mono aT aD) bB (by decide) (A0g k6)
   refine aI (λq=>(aY q).1) ?_
   obtain⟨bI,bJ,bK,rfl,rfl,aQ,aR,aS⟩:=H1 bC
   try dsimp only at aB
   refine eX _ (aI (λq=>(aY q).2) ?_)
   refine trG aB (λq=>Z01 _ _ _ (Q1 aQ aR aS) _ _ (Q1 aK aL aM)) λbU aB=>?_
   obtain⟨bY,bD,aB⟩:=C0 aB
   have bV:P0 bU:=Y2 bD
   refine ifB aB (λbE aB=>?_) λbE aB=>?_
   ·obtain rfl:=oJ aB
    try dsimp only[t6,w6]at aC
    obtain rfl:=oJ aC
    exact aI rfl aT
   ·exact T2 m7 ⟨(IntKind.i64.wrap (u5+1)),rfl,rfl,aT,(J0 _),aB⟩
  ·obtain rfl:=oJ aB
   try dsimp only[U0,V0]at aC
   obtain rfl:=oJ aC
   exact aI rfl aT
theorem i00(h:Hp)(aU:Option Addr)(bQ aV:Nat)(p0:B0)(aK:N0.R h [.slice aU bQ aV] p0)(p1:Int)(aJ:P0 p1)(r:B0)(aF:c7 p0 p1=some r):
  Tr Tryz.prog 336 #[.slice aU bQ aV,.int .i64 p1] h λv h'=>∃(a0:Option Addr) (n0 c0:Nat),v = .slice a0 n0 c0/\N0.R h' [.slice a0 n0 c0] r/\Sub h h':=by
 obtain⟨rfl,cC⟩:=Sl.len aK
 unfold c7 at aF
 refine G3 (args:=[.slice aU p0.length aV,.int .i64 p1]) (fn:=Tryz.f336) rfl ?_
 obtain⟨X1,aX,aF⟩:=C0 aF
 refine eX { vars:=[6,7],boxes:=[],owns:=[0],fuel:=true } (eX (λvs os h'=>∃ u2 u3 aL u4,vs.tail = [.bool u2,.int .i64 u3]/\os = [aL]/\Sub h h'/\P0 u3/\F2 (Wp.int.R h') aL u4/\Y3 p0 p1 (N1 vs) u2 u3 u4=some X1) (eX (λ_ _=>0) (aI (eX T0 ⟨false,0,[],([]:B0),rfl,rfl,(Sub.refl _),(by decide),(show F2 (Wp.int.R h) ([]:List (List Value)) ([]:B0) from trivial),aX⟩) ?_)))
 rintro _ _ aL m6 k5 ⟨u2,u3,bR,u4,⟨⟩,⟨⟩,aD,cD,aC,aB⟩
 replace aB:Y3 p0 p1 m6 u2 u3 u4=some X1:=aB
 obtain _|m6:=m6
 ·cases aB
 rw[Y3.eq_2]at aB
 refine ifB aB (λbS aB=>?_) λbS aB=>?_
 ·refine ldI aB (N0.mono aD aK) λx8 cE aB=>?_
  refine ifB aB (λbT aB=>?_) λbT aB=>?_
  ·refine ldI aB (N0.mono aD aK) λcI bU aB=>?_
   refine ifB aB (λaY aB=>?_) λaY aB=>?_
   ·obtain⟨cJ,aZ,aB⟩:=C0 aB
    refine aI (E1 aZ (by first|rw[F2.length aC,F2.length (show F2 (Wp.int.R k5) ([[.int .i64 p1]]:List (List Value)) [p1] from⟨⟨rfl,aJ⟩,trivial⟩)]|exact congrArg (·+1) (F2.length aC))) ?_
    refine ldI aB (N0.mono aD aK) λaM aQ aB=>?_
    obtain⟨cK,bA,aB⟩:=C0 aB
    refine aI (E1 bA (by first|rw[F2.length (F2.append aC (show F2 (Wp.int.R k5) ([[.int .i64 p1]]:List (List Value)) [p1] from⟨⟨rfl,aJ⟩,trivial⟩)),F2.length (show F2 (Wp.int.R k5) ([[.int .i64 aM]]:List (List Value)) [aM] from⟨⟨rfl,aQ⟩,trivial⟩)]|exact congrArg (·+1) (F2.length (F2.append aC (show F2 (Wp.int.R k5) ([[.int .i64 p1]]:List (List Value)) [p1] from⟨⟨rfl,aJ⟩,trivial⟩))))) ?_
    exact T2 m6 ⟨true,(IntKind.i64.wrap (u3+1)),((aL++([[.int .i64 p1]]:List (List Value)))++([[.int .i64 aM]]:List (List Value))),((u4 ++ [p1]) ++ [aM]),rfl,rfl,aD,(J0 _),(F2.append (F2.append aC (show F2 (Wp.int.R k5) ([[.int .i64 p1]]:List (List Value)) [p1] from⟨⟨rfl,aJ⟩,trivial⟩)) (show F2 (Wp.int.R k5) ([[.int .i64 aM]]:List (List Value)) [aM] from⟨⟨rfl,aQ⟩,trivial⟩)),aB⟩
   ·refine ldI aB (N0.mono aD aK) λaN aR aB=>?_
    obtain⟨cL,bB,aB⟩:=C0 aB
    refine aI (E1 bB (by first|rw[F2.length aC,F2.length (show F2 (Wp.int.R k5) ([[.int .i64 aN]]:List (List Value)) [aN] from⟨⟨rfl,aR⟩,trivial⟩)]|exact congrArg (·+1) (F2.length aC))) ?_
    exact T2 m6 ⟨true,(IntKind.i64.wrap (u3+1)),(aL++([[.int .i64 aN]]:List (List Value))),(u4 ++ [aN]),rfl,rfl,aD,(J0 _),(F2.append aC (show F2 (Wp.int.R k5) ([[.int .i64 aN]]:List (List Value)) [aN] from⟨⟨rfl,aR⟩,trivial⟩)),aB⟩
  ·refine ldI aB (N0.mono aD aK) λcM bV aB=>?_
   refine ifB aB (λbC aB=>?_) λbC aB=>?_
   ·obtain⟨cN,bD,aB⟩:=C0 aB
    refine aI (E1 bD (by first|rw[F2.length aC,F2.length (show F2 (Wp.int.R k5) ([[.int .i64 p1]]:List (List Value)) [p1] from⟨⟨rfl,aJ⟩,trivial⟩)]|exact congrArg (·+1) (F2.length aC))) ?_
    refine ldI aB (N0.mono aD aK) λaO aS aB=>?_
    obtain⟨cO,bE,aB⟩:=C0 aB
    refine aI (E1 bE (by first|rw[F2.length (F2.append aC (show F2 (Wp.int.R k5) ([[.int .i64 p1]]:List (List Value)) [p1] from⟨⟨rfl,aJ⟩,trivial⟩)),F2.length (show F2 (Wp.int.R k5) ([[.int .i64 aO]]:List (List Value)) [aO] from⟨⟨rfl,aS⟩,trivial⟩)]|exact congrArg (·+1) (F2.length (F2.append aC (show F2 (Wp.int.R k5) ([[.int .i64 p1]]:List (List Value)) [p1] from⟨⟨rfl,aJ⟩,trivial⟩))))) ?_
    exact T2 m6 ⟨true,(IntKind.i64.wrap (u3+1)),((aL++([[.int .i64 p1]]:List (List Value)))++([[.int .i64 aO]]:List (List Value))),((u4 ++ [p1]) ++ [aO]),rfl,rfl,aD,(J0 _),(F2.append (F2.append aC (show F2 (Wp.int.R k5) ([[.int .i64 p1]]:List (List Value)) [p1] from⟨⟨rfl,aJ⟩,trivial⟩)) (show F2 (Wp.int.R k5) ([[.int .i64 aO]]:List (List Value)) [aO] from⟨⟨rfl,aS⟩,trivial⟩)),aB⟩
   ·refine ldI aB (N0.mono aD aK) λaP aT aB=>?_
    obtain⟨cP,bF,aB⟩:=C0 aB
    refine aI (E1 bF (by first|rw[F2.length aC,F2.length (show F2 (Wp.int.R k5) ([[.int .i64 aP]]:List (List Value)) [aP] from⟨⟨rfl,aT⟩,trivial⟩)]|exact congrArg (·+1) (F2.length aC))) ?_
    exact T2 m6 ⟨u2,(IntKind.i64.wrap (u3+1)),(aL++([[.int .i64 aP]]:List (List Value))),(u4 ++ [aP]),rfl,rfl,aD,(J0 _),(F2.append aC (show F2 (Wp.int.R k5) ([[.int .i64 aP]]:List (List Value)) [aP] from⟨⟨rfl,aT⟩,trivial⟩)),aB⟩
 ·obtain rfl:=oJ aB
  try dsimp only[U0,V0]at aF
  refine ifB aF (λbG aF=>?_) λbG aF=>?_
  ·obtain⟨cQ,bH,aF⟩:=C0 aF
   refine aI (E1 bH (by first|rw[F2.length aC,F2.length (show F2 (Wp.int.R k5) ([[.int .i64 p1]]:List (List Value)) [p1] from⟨⟨rfl,aJ⟩,trivial⟩)]|exact congrArg (·+1) (F2.length aC))) ?_
   intro cR cS bW
   obtain⟨bI,bJ,rfl,bK,bL,bX⟩:=Q0.out (r:=Wp.int.toRp) bW (F2.append aC (show F2 (Wp.int.R k5) ([[.int .i64 p1]]:List (List Value)) [p1] from⟨⟨rfl,aJ⟩,trivial⟩))
   obtain rfl:=oJ aF
   exact⟨bI,((u4 ++ [p1])).length,bJ,rfl,bK,(aD.trans bL)⟩
  ·intro cT cU bY
   obtain⟨bM,bN,rfl,bO,bP,bZ⟩:=Q0.out (r:=Wp.int.toRp) bY aC
   obtain rfl:=oJ aF
   exact⟨bM,u4.length,bN,rfl,bO,(aD.trans bP)⟩
theorem b01(h:Hp)(aF:Option Addr)(aL aJ:Nat)(p0:B0)(aM:N0.R h [.slice aF aL aJ] p0)(p1:Int)(aP:P0 p1)(r:Bool)(aC:P7 p0 p1=some r):
  Tr Tryz.prog 246 #[.slice aF aL aJ,.int .i64 p1] h λv h'=>v = .bool r/\h'=h:=by
 obtain⟨rfl,aQ⟩:=Sl.len aM
 unfold P7 at aC
 refine Tr.forget (G3 (args:=[.slice aF p0.length aJ,.int .i64 p1]) (fn:=Tryz.f246) rfl ?_)
 obtain⟨X1,aK,aC⟩:=C0 aC
 refine eX { vars:=[5],boxes:=[],owns:=[],fuel:=true } (eX (λvs os h'=>∃ u2,vs.tail = [.int .i64 u2]/\os = []/\Sub h h'/\P0 u2/\p7 p0 p1 (N1 vs) u2=some X1) (eX (λ_ _=>0) (aI (eX T0 ⟨0,rfl,rfl,(Sub.refl _),(by decide),aK⟩) ?_)))
 rintro _ m4 k3 ⟨u2,⟨⟩,⟨⟩,aD,aR,aB⟩
 replace aB:p7 p0 p1 m4 u2=some X1:=aB
 obtain _|m4:=m4
 ·cases aB
 rw[p7.eq_2]at aB
 refine ifB aB (λaN aB=>?_) λaN aB=>?_
 ·refine ldI aB (N0.mono aD aM) λx6 aS aB=>?_
  refine ifB aB (λaO aB=>?_) λaO aB=>?_
  ·obtain rfl:=oJ aB
   try dsimp only[t6,w6]at aC
   obtain rfl:=oJ aC
   exact aI rfl aD
  ·exact T2 m4 ⟨(IntKind.i64.wrap (u2+1)),rfl,rfl,aD,(J0 _),aB⟩
 ·obtain rfl:=oJ aB
  try dsimp only[U0,V0]at aC
  obtain rfl:=oJ aC
  exact aI rfl aD
theorem R08(h:Hp)(aN:List Value)(p0:j0)(cC:Y0.R h aN p0)(p1:Int)(cQ:P0 p1)(p2:Int)(cR:P0 p2)(r:B0)(aL:Q8 p0 p1 p2=some r):
  Tr Tryz.prog 297 #[.agg aN.toArray,.int .i64 p1,.int .i64 p2] h λv h'=>∃(a0:Option Addr) (n0 c0:Nat),v = .slice a0 n0 c0/\N0.R h' [.slice a0 n0 c0] r/\Sub h h':=by
 obtain⟨aX,aY,aO,bP,aP,aF,rfl,rfl,bQ,bR,aD⟩:=D0 cC
 obtain⟨rfl,bS⟩:=Sl.len aD
 unfold Q8 at aL
 dsimp only at aL
 refine G3 (args:=[.agg #[.int .i64 aX,.int .i64 aY,.slice aO aF.length aP],.int .i64 p1,.int .i64 p2]) (fn:=Tryz.f297) rfl ?_
 obtain⟨X5,aZ,aL⟩:=C0 aL
 refine eX { vars:=[7,8],boxes:=[],owns:=[],fuel:=true,pubs:=[7,10] } (eX (λvs os h'=>∃(aQ:Option Addr) (bA aR:Nat) (u6:B0) (u7:Int),vs.tail = [.slice aQ bA aR,.int .i64 u7]/\os = []/\Sub h h'/\N0.R h' [.slice aQ bA aR] u6/\P0 u7/\O3 aF p2 p1 (N1 vs) u6 u7=some X5) (eX (λ_ _=>0) ?_))
 intro v1 k2 f3
 obtain⟨cD,cE,rfl,cI,cJ,cS⟩:=Q0.out (r:=Wp.int.toRp) f3 (show F2 (Wp.int.R h) ([]:List (List Value)) ([]:B0) from trivial)
 refine aI (eX T0 ⟨cD,(([]:B0)).length,cE,([]:B0),0,rfl,rfl,cJ,cI,(by decide),aZ⟩) ?_
 rintro _ _ m9 k8 ⟨aQ,bA,aR,u6,u7,⟨⟩,⟨⟩,aM,aS,cT,aB⟩
 replace aB:O3 aF p2 p1 m9 u6 u7=some X5:=aB
 obtain _|m9:=m9
 ·cases aB
 rw[O3.eq_2]at aB
 obtain⟨rfl,cU⟩:=Sl.len aS
 refine ifB aB (λbB aB=>?_) λbB aB=>?_
 ·refine ld aB (M0.mono aM aD) λcV bT bC aB=>?_
  obtain⟨bU,bV,bW,rfl,rfl,aC,bD,aJ⟩:=H1 bC
  try dsimp only at aB
  refine ifB aB (λbE aB=>?_) λbE aB=>?_
  ·refine trM aB (i00 _ _ _ _ _ aS _ aJ) ?_
   rintro bX aB cX cY ⟨bF,cK,bG,rfl,aK,aT⟩
   obtain⟨rfl,cL⟩:=Sl.len aK
   refine ifB aB (λbH aB=>?_) λbH aB=>?_
   ·refine trM aB (i00 _ _ _ _ _ aK _ aC) ?_
    rintro bY aB cZ dA ⟨bI,cM,bJ,rfl,aU,bK⟩
    obtain⟨rfl,cN⟩:=Sl.len aU
    exact T2 m9 ⟨bI,bY.length,bJ,bY,(IntKind.i64.wrap (u7+1)),rfl,rfl,((aM.trans aT).trans bK),aU,(J0 _),aB⟩
   ·exact T2 m9 ⟨bF,bX.length,bG,bX,(IntKind.i64.wrap (u7+1)),rfl,rfl,(aM.trans aT),aK,(J0 _),aB⟩
  ·refine ifB aB (λbL aB=>?_) λbL aB=>?_
   ·refine trM aB (i00 _ _ _ _ _ aS _ aC) ?_
    rintro bZ aB dB dC ⟨bM,cO,bN,rfl,aV,bO⟩
    obtain⟨rfl,cP⟩:=Sl.len aV
    exact T2 m9 ⟨bM,bZ.length,bN,bZ,(IntKind.i64.wrap (u7+1)),rfl,rfl,(aM.trans bO),aV,(J0 _),aB⟩
   ·exact T2 m9 ⟨aQ,u6.length,aR,u6,(IntKind.i64.wrap (u7+1)),rfl,rfl,aM,aS,(J0 _),aB⟩
 ·obtain rfl:=oJ aB
  try dsimp only[U0,V0]at aL
  obtain rfl:=oJ aL
  exact⟨aQ,u6.length,aR,rfl,aS,aM⟩
theorem c01(h:Hp)(aD:List Value)(p0:j0)(aT:Y0.R h aD p0)(p1:Int)(aU:P0 p1)(p2:Int)(aV:P0 p2)(r:Int)(aB:A6 p0 p1 p2=some r):
  Tr Tryz.prog 214 #[.agg aD.toArray,.int .i64 p1,.int .i64 p2] h λv h'=>v = .int .i64 r/\h'=h:=by
 obtain⟨aM,aN,aF,aP,aJ,aO,rfl,rfl,aK,aL,aC⟩:=D0 aT
 obtain⟨rfl,aQ⟩:=Sl.len aC
 unfold A6 at aB
 dsimp only at aB
 refine Tr.forget (G3 (args:=[.agg #[.int .i64 aM,.int .i64 aN,.slice aF aO.length aJ],.int .i64 p1,.int .i64 p2]) (fn:=Tryz.f214) rfl ?_)
 refine trM aB (R08 _ _ _ (l0 aK aL aC) _ aU _ aV) ?_
 rintro x1 aB v3 k2 ⟨aY,aZ,bA,rfl,aR,aS⟩
 obtain⟨rfl,bB⟩:=Sl.len aR
 refine ifB aB (λaX aB=>?_) λaX aB=>?_
 ·obtain rfl:=oJ aB
  exact aI rfl aS
 ·refine ldI aB aR λx5 bC aB=>?_
  obtain rfl:=oJ aB
  exact aI rfl aS
theorem x00(h:Hp)(aP:List Value)(p0:j0)(bR:Y0.R h aP p0)(r:Bool)(aJ:J6 p0=some r):
  Tr Tryz.prog 293 #[.agg aP.toArray] h λv h'=>v = .bool r/\h'=h:=by
 obtain⟨aM,aN,aQ,bH,aR,aF,rfl,rfl,aK,aL,aC⟩:=D0 bR
 obtain⟨rfl,bI⟩:=Sl.len aC
 unfold J6 at aJ
 dsimp only at aJ
 refine Tr.forget (G3 (args:=[.agg #[.int .i64 aM,.int .i64 aN,.slice aQ aF.length aR]]) (fn:=Tryz.f293) rfl ?_)
 obtain⟨X1,aU,aJ⟩:=C0 aJ
 refine eX { vars:=[3],boxes:=[],owns:=[],fuel:=true } (eX (λvs os h'=>∃ u2,vs.tail = [.int .i64 u2]/\os = []/\Sub h h'/\P0 u2/\F4 aF aM aN (N1 vs) u2=some X1) (eX (λ_ _=>0) (aI (eX T0 ⟨0,rfl,rfl,(Sub.refl _),(by decide),aU⟩) ?_)))
 rintro _ m4 k3 ⟨u2,⟨⟩,⟨⟩,aO,bT,aD⟩
 replace aD:F4 aF aM aN m4 u2=some X1:=aD
 obtain _|m4:=m4
 ·cases aD
 rw[F4.eq_2]at aD
 refine trG aD (λq=>B7 _ _ _ (l0 aK aL (M0.mono aO aC))) λx5 aD=>?_
 refine ifB aD (λbS aD=>?_) λbS aD=>?_
 ·obtain⟨X7,aV,aD⟩:=C0 aD
  refine eX { vars:=[4],boxes:=[],owns:=[],fuel:=true } (eX (λvs os h'=>∃ u8,vs.tail = [.int .i64 u8]/\os = []/\Sub k3 h'/\P0 u8/\E5 u2 aF (N1 vs) u8=some X7) (eX (λ_ _=>0) (aI (eX T0 ⟨0,rfl,rfl,(Sub.refl _),(by decide),aV⟩) ?_)))
  rintro _ aT k9 ⟨u8,⟨⟩,⟨⟩,aS,bU,aB⟩
  replace aB:E5 u2 aF aT u8=some X7:=aB
  obtain _|aT:=aT
  ·cases aB
  rw[E5.eq_2]at aB
  refine ifB aB (λaX aB=>?_) λaX aB=>?_
  ·refine ld aB (M0.mono (aO.trans aS) aC) λbV bJ aY aB=>?_
   obtain⟨bK,bL,bM,rfl,rfl,aZ,bA,bB⟩:=H1 aY
   try dsimp only at aB
   refine ld aB (M0.mono (aO.trans aS) aC) λbW bN bC aB=>?_
   obtain⟨bO,bP,bQ,rfl,rfl,bD,bE,bF⟩:=H1 bC
   try dsimp only at aB
   refine ifB aB (λbG aB=>?_) λbG aB=>?_
   ·obtain rfl:=oJ aB
    try dsimp only[t6,w6]at aD
    obtain rfl:=oJ aD
    try dsimp only[t6,w6]at aJ
    obtain rfl:=oJ aJ
    exact aI rfl (aO.trans aS)
   ·exact T2 aT ⟨(IntKind.i64.wrap (u8+1)),rfl,rfl,aS,(J0 _),aB⟩
  ·obtain rfl:=oJ aB
   try dsimp only[U0,V0]at aD
   exact T2 m4 ⟨(IntKind.i64.wrap (u2+1)),rfl,rfl,(aO.trans aS),(J0 _),aD⟩
 ·obtain rfl:=oJ aD
  try dsimp only[U0,V0]at aJ
  refine trV aJ (B7 _ _ _ (l0 aK aL (M0.mono aO aC))) λbX aJ=>?_
  obtain rfl:=oJ aJ
  exact aI rfl aO
theorem S08(h:Hp)(aP:List Value)(p0:j0)(bN:Y0.R h aP p0)(p1:Int)(cL:P0 p1)(p2:Int)(cM:P0 p2)(r:B0)(aF:R8 p0 p1 p2=some r):
  Tr Tryz.prog 286 #[.agg aP.toArray,.int .i64 p1,.int .i64 p2] h λv h'=>∃(a0:Option Addr) (n0 c0:Nat),v = .slice a0 n0 c0/\New N0 h h' [.slice a0 n0 c0] r:=by
 obtain⟨aY,aZ,aQ,bG,aR,aN,rfl,rfl,bH,bI,aJ⟩:=D0 bN
 obtain⟨rfl,bJ⟩:=Sl.len aJ
 unfold R8 at aF
 dsimp only at aF
 refine G3 (args:=[.agg #[.int .i64 aY,.int .i64 aZ,.slice aQ aN.length aR],.int .i64 p1,.int .i64 p2]) (fn:=Tryz.f286) rfl ?_
 obtain⟨X1,bA,aF⟩:=C0 aF
 refine eX { vars:=[14],boxes:=[],owns:=[0],fuel:=true } (eX (λvs os h'=>∃ u2 aO u3,vs.tail = [.int .i64 u2]/\os = [aO]/\Sub h h'/\P0 u2/\F2 (Wp.int.R h') aO u3/\l4 aN p2 p1 (N1 vs) u2 u3=some X1) (eX (λ_ _=>0) (aI (eX T0 ⟨0,[],([]:B0),rfl,rfl,(Sub.refl _),(by decide),(show F2 (Wp.int.R h) ([]:List (List Value)) ([]:B0) from trivial),bA⟩) ?_)))
 rintro _ aO m5 k4 ⟨u2,bO,u3,⟨⟩,⟨⟩,aS,cN,aK,aB⟩
 replace aB:l4 aN p2 p1 m5 u2 u3=some X1:=aB
 obtain _|m5:=m5
 ·cases aB
 rw[l4.eq_2]at aB
 refine ifB aB (λbP aB=>?_) λbP aB=>?_
 ·refine ld aB (M0.mono aS aJ) λx7 bQ bR aB=>?_
  obtain⟨aC,bS,aD,rfl,rfl,aL,bK,aM⟩:=H1 bR
  try dsimp only at aB
  refine ifB aB (λbT aB=>?_) λbT aB=>?_
  ·obtain⟨q9,bU,aB⟩:=C0 aB
   refine aI (E1 bU (by first|rw[F2.length aK,F2.length (show F2 (Wp.int.R k4) ([[.int .i64 aD]]:List (List Value)) [aD] from⟨⟨rfl,aM⟩,trivial⟩)]|exact congrArg (·+1) (F2.length aK))) ?_
   exact T2 m5 ⟨(IntKind.i64.wrap (u2+1)),(aO++([[.int .i64 aD]]:List (List Value))),(u3 ++ [aD]),rfl,rfl,aS,(J0 _),(F2.append aK (show F2 (Wp.int.R k4) ([[.int .i64 aD]]:List (List Value)) [aD] from⟨⟨rfl,aM⟩,trivial⟩)),aB⟩
  ·refine ifB aB (λbB aB=>?_) λbB aB=>?_
   ·obtain⟨cO,bC,aB⟩:=C0 aB
    refine aI (E1 bC (by first|rw[F2.length aK,F2.length (show F2 (Wp.int.R k4) ([[.int .i64 aC]]:List (List Value)) [aC] from⟨⟨rfl,aL⟩,trivial⟩)]|exact congrArg (·+1) (F2.length aK))) ?_
    exact T2 m5 ⟨(IntKind.i64.wrap (u2+1)),(aO++([[.int .i64 aC]]:List (List Value))),(u3 ++ [aC]),rfl,rfl,aS,(J0 _),(F2.append aK (show F2 (Wp.int.R k4) ([[.int .i64 aC]]:List (List Value)) [aC] from⟨⟨rfl,aL⟩,trivial⟩)),aB⟩
   ·exact T2 m5 ⟨(IntKind.i64.wrap (u2+1)),aO,u3,rfl,rfl,aS,(J0 _),aK,aB⟩
 ·obtain rfl:=oJ aB
  try dsimp only[U0,V0]at aF
  refine Or.inl ?_
  intro cP cQ bV
  obtain⟨cR,bD,aF⟩:=C0 aF
  refine Tr.mono (X0g _ bV aK (Y2 bD)) ?_
  rintro _ bW ⟨rfl,bL,aT,aU⟩
  obtain⟨bX,bY,rfl,bZ,cC,cD⟩:=Q0.out (r:=Wp.int.toRp) aT aU
  refine Tr.mono (Y0g _ aT aU) ?_
  rintro _ cE ⟨bM,aV,aX⟩
  obtain⟨bE,bF,rfl,cI,cJ,cK⟩:=Q0.out (r:=Wp.int.toRp) aV aX
  obtain rfl:=oJ aF
  exact⟨bE,((i01 eqI (I03 C7 u3))).length,bF,rfl,(New.from (Q0.newPlain (r:=Wp.int) aV aX (U01 _)) aS)⟩
theorem d01(h:Hp)(aD:List Value)(p0:j0)(aU:Y0.R h aD p0)(p1:Int)(aV:P0 p1)(p2:Int)(aX:P0 p2)(r:Int)(aB:B6 p0 p1 p2=some r):
  Tr Tryz.prog 201 #[.agg aD.toArray,.int .i64 p1,.int .i64 p2] h λv h'=>v = .int .i64 r/\h'=h:=by
 obtain⟨aM,aN,aF,aP,aJ,aO,rfl,rfl,aK,aL,aC⟩:=D0 aU
 obtain⟨rfl,aQ⟩:=Sl.len aC
 unfold B6 at aB
 dsimp only at aB
 refine Tr.forget (G3 (args:=[.agg #[.int .i64 aM,.int .i64 aN,.slice aF aO.length aJ],.int .i64 p1,.int .i64 p2]) (fn:=Tryz.f201) rfl ?_)
 refine trM aB (S08 _ _ _ (l0 aK aL aC) _ aV _ aX) ?_
 rintro x1 aB v3 k2 ⟨aZ,bA,bB,rfl,aR⟩
 have aS:Sub h k2:=aR.sub
 have aT:=aR.r
 obtain⟨rfl,bC⟩:=Sl.len aT
 refine ifB aB (λaY aB=>?_) λaY aB=>?_
 ·obtain rfl:=oJ aB
  exact aI rfl aS
 ·refine ldI aB aT λx5 bD aB=>?_
  obtain rfl:=oJ aB
  exact aI rfl aS
theorem y9(h:Hp)(aM:List Value)(p0:j0)(bT:Y0.R h aM p0)(r:Bool)(aD:Q5 p0=some r):
  Tr Tryz.prog 219 #[.agg aM.toArray] h λv h'=>v = .bool r/\h'=h:=by
 obtain⟨aY,aZ,aN,bJ,aO,aK,rfl,rfl,aP,aQ,aF⟩:=D0 bT
 obtain⟨rfl,bK⟩:=Sl.len aF
 unfold Q5 at aD
 dsimp only at aD
 refine Tr.forget (G3 (args:=[.agg #[.int .i64 aY,.int .i64 aZ,.slice aN aK.length aO]]) (fn:=Tryz.f219) rfl ?_)
 refine trV aD (a01 _ _ _ (l0 aP aQ aF)) λx1 aD=>?_
 refine ifB aD (λbU aD=>?_) λbU aD=>?_
 ·obtain rfl:=oJ aD
  exact aI rfl (Sub.refl _)
 ·obtain⟨X3,bA,aD⟩:=C0 aD
  refine eX { vars:=[13],boxes:=[],owns:=[],fuel:=true } (eX (λvs os h'=>∃ u4,vs.tail = [.int .i64 u4]/\os = []/\Sub h h'/\P0 u4/\G5 aK (N1 vs) u4=some X3) (eX (λ_ _=>0) (aI (eX T0 ⟨0,rfl,rfl,(Sub.refl _),(by decide),bA⟩) ?_)))
  rintro _ m6 k5 ⟨u4,⟨⟩,⟨⟩,aR,cJ,aB⟩
  replace aB:G5 aK m6 u4=some X3:=aB
  obtain _|m6:=m6
  ·cases aB
  rw[G5.eq_2]at aB
  refine ifB aB (λbV aB=>?_) λbV aB=>?_
  ·refine ld aB (M0.mono aR aF) λx8 bW bX aB=>?_
   obtain⟨aS,aT,aU,rfl,rfl,bL,bM,bN⟩:=H1 bX
   try dsimp only at aB
   obtain⟨x9,bY,aB⟩:=C0 aB
   obtain⟨bZ,bB,cC,cD⟩:=Sl.cutI (r:=K1.toRp) (M0.mono aR aF) bY
   refine aI bZ (eX bB (aI cC ?_))
   intro cE bC _
   obtain⟨cK,cL,rfl,bO⟩:=cD cE bC
   have cM:=(Sl.len bO).2
   obtain⟨X10,aV,aB⟩:=C0 aB
   refine eX { vars:=[24],boxes:=[],owns:=[],fuel:=true } (eX (λvs os h'=>∃ aL,vs.tail = [.int .i64 aL]/\os = []/\Sub k5 h'/\P0 aL/\F5 x9 aT aS aU (N1 vs) aL=some X10) (eX (λ_ _=>0) (aI (eX T0 ⟨0,rfl,rfl,(Sub.refl _),(by decide),aV⟩) ?_)))
   rintro _ aX cN ⟨aL,⟨⟩,⟨⟩,aJ,cI,aC⟩
   replace aC:F5 x9 aT aS aU aX aL=some X10:=aC
   obtain _|aX:=aX
   ·cases aC
   rw[F5.eq_2]at aC
   refine ifB aC (λbD aC=>?_) λbD aC=>?_
   ·refine ld aC (M0.mono aJ bO) λcO bP bE aC=>?_
    obtain⟨bQ,bR,bS,rfl,rfl,bF,bG,bH⟩:=H1 bE
    try dsimp only at aC
    refine ifB aC (λbI aC=>?_) λbI aC=>?_
    ·obtain rfl:=oJ aC
     try dsimp only[t6,w6]at aB
     obtain rfl:=oJ aB
     try dsimp only[t6,w6]at aD
     obtain rfl:=oJ aD
     exact aI rfl (aR.trans aJ)
    ·exact T2 aX ⟨(IntKind.i64.wrap (aL+1)),rfl,rfl,aJ,(J0 _),aC⟩
   ·obtain rfl:=oJ aC
    try dsimp only[U0,V0]at aB
    exact T2 m6 ⟨(IntKind.i64.wrap (u4+1)),rfl,rfl,(aR.trans aJ),(J0 _),aB⟩
  ·obtain rfl:=oJ aB
   try dsimp only[U0,V0]at aD
   obtain rfl:=oJ aD
   exact aI rfl aR
theorem o6(h:Hp)(aC:List Value)(p0:j0)(aU:Y0.R h aC p0)(r:j0)(aD:G4 p0=some r):
  Tr Tryz.prog 132 #[.agg aC.toArray] h λv h'=>∃(aR:List Value),v = .agg aR.toArray/\New Y0 h h' aR r:=by
 obtain⟨aF,aJ,aK,aS,aL,aM,rfl,rfl,aN,aO,aB⟩:=D0 aU
 obtain⟨rfl,aT⟩:=Sl.len aB
 unfold G4 at aD
 dsimp only at aD
 refine G3 (args:=[.agg #[.int .i64 aF,.int .i64 aJ,.slice aK aM.length aL]]) (fn:=Tryz.f132) rfl ?_
 refine Or.inr (Or.inr (Or.inl (aI (aI (by kernel_rfl) (by kernel_rfl)) ?_)))
 refine Or.inr ?_
 refine Or.inr ?_
 refine Or.inr ?_
 refine Or.inr ?_
 refine Or.inl (eX 0 (aI (aI rfl rfl) ?_))
 refine aI trivial (aI (by first|exact trivial|exact rfl) ?_)
 obtain⟨aP,aV,aQ⟩:=Sl.rows (r:=K1.toRp) aB
 refine eX aP (aI aV ?_)
 obtain⟨q2,aX,aD⟩:=C0 aD
 refine aI (E1 aX (by first|rw[F2.length (show F2 (K1.R h) ([]:List (List Value)) ([]:O0) from trivial),F2.length aQ]|exact congrArg (·+1) (F2.length (show F2 (K1.R h) ([]:List (List Value)) ([]:O0) from trivial)))) ?_
 refine aI trivial (aI (by first|exact trivial|exact rfl) ?_)
 refine aI trivial (aI (by first|exact trivial|exact rfl) ?_)
 refine aI trivial (aI (by first|exact trivial|exact rfl) ?_)
 intro v3 k4 f5
 obtain⟨aY,aZ,rfl,bA,bB,bC⟩:=Q0.out (r:=K1.toRp) f5 (F2.append (show F2 (K1.R h) ([]:List (List Value)) ([]:O0) from trivial) aQ)
 obtain rfl:=oJ aD
 exact⟨([.int .i64 aF,.int .i64 aJ,.slice aY ((([]:O0)++aM)).length aZ]),rfl,(New.pair (New.int aN) (New.pair (New.int aO) (Q0.newPlain (r:=K1) f5 (F2.append (show F2 (K1.R h) ([]:List (List Value)) ([]:O0) from trivial) aQ) (d0e _))))⟩
theorem O07(h:Hp)(bU:Option Addr)(dB bV:Nat)(p0:O0)(bP:M0.R h [.slice bU dB bV] p0)(bQ:List Value)(p1:I0)(dG:K1.R h bQ p1)(r:O0)(bA:f00 p0 p1=some r):
  Tr Tryz.prog 248 #[.slice bU dB bV,.agg bQ.toArray] h λv h'=>∃(a0:Option Addr) (n0 c0:Nat),v = .slice a0 n0 c0/\M0.R h' [.slice a0 n0 c0] r/\Sub h h':=by
 obtain⟨rfl,dT⟩:=Sl.len bP
 obtain⟨aB,aC,aD,rfl,rfl,aJ,aK,aL⟩:=H1 dG
 unfold f00 at bA
 dsimp only at bA
 refine G3 (args:=[.slice bU p0.length bV,.agg #[.int .i64 aB,.int .i64 aC,.int .i64 aD]]) (fn:=Tryz.f248) rfl ?_
 obtain⟨X1,bW,bA⟩:=C0 bA
 refine eX { vars:=[6,7],boxes:=[],owns:=[0],fuel:=true } (eX (λvs os h'=>∃ u2 u3 bO u4,vs.tail = [.bool u2,.int .i64 u3]/\os = [bO]/\Sub h h'/\P0 u3/\F2 (K1.R h') bO u4/\Z3 p0 aB aC aD (N1 vs) u2 u3 u4=some X1) (eX (λ_ _=>0) (aI (eX T0 ⟨false,0,[],([]:O0),rfl,rfl,(Sub.refl _),(by decide),(show F2 (K1.R h) ([]:List (List Value)) ([]:O0) from trivial),bW⟩) ?_)))
 rintro _ _ bO m6 k5 ⟨u2,u3,dH,u4,⟨⟩,⟨⟩,bB,dU,aM,aF⟩
 replace aF:Z3 p0 aB aC aD m6 u2 u3 u4=some X1:=aF
 obtain _|m6:=m6
 ·cases aF
 rw[Z3.eq_2]at aF
 refine ifB aF (λdI aF=>?_) λdI aF=>?_
 ·refine Or.inl (aI (aI (by kernel_rfl) (by kernel_rfl)) ?_)
  refine ld aF (M0.mono bB bP) λx8 dJ dK aF=>?_
  obtain⟨dL,dM,dN,rfl,rfl,bR,bS,bT⟩:=H1 dK
  try dsimp only at aF
  obtain⟨x9,dO,aF⟩:=C0 aF
  refine eX (.int .i64 x9) (aI (Y01 _ _ _ (Q1 aJ aK aL) _ _ (Q1 bR bS bT) _  dO) ?_)
  obtain⟨dV,bX,aF⟩:=C0 aF
  have dW:P0 x9:=Y2 bX
  refine ifB aF (λbY aF=>?_) λbY aF=>?_
  ·refine ifB aF (λbZ aF=>?_) λbZ aF=>?_
   ·obtain⟨dX,cC,aF⟩:=C0 aF
    refine aI (E1 cC (by first|rw[F2.length aM,F2.length (show F2 (K1.R k5) ([[.int .i64 aB,.int .i64 aC,.int .i64 aD]]:List (List Value)) [(aB,aC,aD)] from⟨(Q1 aJ aK aL),trivial⟩)]|exact congrArg (·+1) (F2.length aM))) ?_
    refine ld aF (M0.mono bB bP) λdY dC cD aF=>?_
    obtain⟨aN,aO,aP,rfl,rfl,bC,bD,bE⟩:=H1 cD
    try dsimp only at aF
    obtain⟨dZ,cE,aF⟩:=C0 aF
    refine aI (E1 cE (by first|rw[F2.length (F2.append aM (show F2 (K1.R k5) ([[.int .i64 aB,.int .i64 aC,.int .i64 aD]]:List (List Value)) [(aB,aC,aD)] from⟨(Q1 aJ aK aL),trivial⟩)),F2.length (show F2 (K1.R k5) ([[.int .i64 aN,.int .i64 aO,.int .i64 aP]]:List (List Value)) [(aN,aO,aP)] from⟨(Q1 bC bD bE),trivial⟩)]|exact congrArg (·+1) (F2.length (F2.append aM (show F2 (K1.R k5) ([[.int .i64 aB,.int .i64 aC,.int .i64 aD]]:List (List Value)) [(aB,aC,aD)] from⟨(Q1 aJ aK aL),trivial⟩))))) ?_
    exact T2 m6 ⟨true,(IntKind.i64.wrap (u3+1)),((bO++([[.int .i64 aB,.int .i64 aC,.int .i64 aD]]:List (List Value)))++([[.int .i64 aN,.int .i64 aO,.int .i64 aP]]:List (List Value))),((u4 ++ [(aB,aC,aD)]) ++ [(aN,aO,aP)]),rfl,rfl,bB,(J0 _),(F2.append (F2.append aM (show F2 (K1.R k5) ([[.int .i64 aB,.int .i64 aC,.int .i64 aD]]:List (List Value)) [(aB,aC,aD)] from⟨(Q1 aJ aK aL),trivial⟩)) (show F2 (K1.R k5) ([[.int .i64 aN,.int .i64 aO,.int .i64 aP]]:List (List Value)) [(aN,aO,aP)] from⟨(Q1 bC bD bE),trivial⟩)),aF⟩
   ·refine ld aF (M0.mono bB bP) λeA dD cI aF=>?_
    obtain⟨aQ,aR,aS,rfl,rfl,bF,bG,bH⟩:=H1 cI
    try dsimp only at aF
    obtain⟨eB,cJ,aF⟩:=C0 aF
    refine aI (E1 cJ (by first|rw[F2.length aM,F2.length (show F2 (K1.R k5) ([[.int .i64 aQ,.int .i64 aR,.int .i64 aS]]:List (List Value)) [(aQ,aR,aS)] from⟨(Q1 bF bG bH),trivial⟩)]|exact congrArg (·+1) (F2.length aM))) ?_
    exact T2 m6 ⟨true,(IntKind.i64.wrap (u3+1)),(bO++([[.int .i64 aQ,.int .i64 aR,.int .i64 aS]]:List (List Value))),(u4 ++ [(aQ,aR,aS)]),rfl,rfl,bB,(J0 _),(F2.append aM (show F2 (K1.R k5) ([[.int .i64 aQ,.int .i64 aR,.int .i64 aS]]:List (List Value)) [(aQ,aR,aS)] from⟨(Q1 bF bG bH),trivial⟩)),aF⟩
  ·refine ifB aF (λcK aF=>?_) λcK aF=>?_
   ·obtain⟨eC,cL,aF⟩:=C0 aF
    refine aI (E1 cL (by first|rw[F2.length aM,F2.length (show F2 (K1.R k5) ([[.int .i64 aB,.int .i64 aC,.int .i64 aD]]:List (List Value)) [(aB,aC,aD)] from⟨(Q1 aJ aK aL),trivial⟩)]|exact congrArg (·+1) (F2.length aM))) ?_
    refine ld aF (M0.mono bB bP) λeD dE cM aF=>?_
    obtain⟨aT,aU,aV,rfl,rfl,bI,bJ,bK⟩:=H1 cM
    try dsimp only at aF
    obtain⟨eE,cN,aF⟩:=C0 aF
    refine aI (E1 cN (by first|rw[F2.length (F2.append aM (show F2 (K1.R k5) ([[.int .i64 aB,.int .i64 aC,.int .i64 aD]]:List (List Value)) [(aB,aC,aD)] from⟨(Q1 aJ aK aL),trivial⟩)),F2.length (show F2 (K1.R k5) ([[.int .i64 aT,.int .i64 aU,.int .i64 aV]]:List (List Value)) [(aT,aU,aV)] from⟨(Q1 bI bJ bK),trivial⟩)]|exact congrArg (·+1) (F2.length (F2.append aM (show F2 (K1.R k5) ([[.int .i64 aB,.int .i64 aC,.int .i64 aD]]:List (List Value)) [(aB,aC,aD)] from⟨(Q1 aJ aK aL),trivial⟩))))) ?_
    exact T2 m6 ⟨true,(IntKind.i64.wrap (u3+1)),((bO++([[.int .i64 aB,.int .i64 aC,.int .i64 aD]]:List (List Value)))++([[.int .i64 aT,.int .i64 aU,.int .i64 aV]]:List (List Value))),((u4 ++ [(aB,aC,aD)]) ++ [(aT,aU,aV)]),rfl,rfl,bB,(J0 _),(F2.append (F2.append aM (show F2 (K1.R k5) ([[.int .i64 aB,.int .i64 aC,.int .i64 aD]]:List (List Value)) [(aB,aC,aD)] from⟨(Q1 aJ aK aL),trivial⟩)) (show F2 (K1.R k5) ([[.int .i64 aT,.int .i64 aU,.int .i64 aV]]:List (List Value)) [(aT,aU,aV)] from⟨(Q1 bI bJ bK),trivial⟩)),aF⟩
   ·refine ld aF (M0.mono bB bP) λeF dF cO aF=>?_
    obtain⟨aX,aY,aZ,rfl,rfl,bL,bM,bN⟩:=H1 cO
    try dsimp only at aF
    obtain⟨eG,cP,aF⟩:=C0 aF
    refine aI (E1 cP (by first|rw[F2.length aM,F2.length (show F2 (K1.R k5) ([[.int .i64 aX,.int .i64 aY,.int .i64 aZ]]:List (List Value)) [(aX,aY,aZ)] from⟨(Q1 bL bM bN),trivial⟩)]|exact congrArg (·+1) (F2.length aM))) ?_
    exact T2 m6 ⟨u2,(IntKind.i64.wrap (u3+1)),(bO++([[.int .i64 aX,.int .i64 aY,.int .i64 aZ]]:List (List Value))),(u4 ++ [(aX,aY,aZ)]),rfl,rfl,bB,(J0 _),(F2.append aM (show F2 (K1.R k5) ([[.int .i64 aX,.int .i64 aY,.int .i64 aZ]]:List (List Value)) [(aX,aY,aZ)] from⟨(Q1 bL bM bN),trivial⟩)),aF⟩
 ·obtain rfl:=oJ aF
  try dsimp only[U0,V0]at bA
  refine ifB bA (λcQ bA=>?_) λcQ bA=>?_
  ·obtain⟨eH,cR,bA⟩:=C0 bA
   refine aI (E1 cR (by first|rw[F2.length aM,F2.length (show F2 (K1.R k5) ([[.int .i64 aB,.int .i64 aC,.int .i64 aD]]:List (List Value)) [(aB,aC,aD)] from⟨(Q1 aJ aK aL),trivial⟩)]|exact congrArg (·+1) (F2.length aM))) ?_
   intro eI eJ dP
   obtain⟨cS,cT,rfl,cU,cV,dQ⟩:=Q0.out (r:=K1.toRp) dP (F2.append aM (show F2 (K1.R k5) ([[.int .i64 aB,.int .i64 aC,.int .i64 aD]]:List (List Value)) [(aB,aC,aD)] from⟨(Q1 aJ aK aL),trivial⟩))
   obtain rfl:=oJ bA
   exact⟨cS,((u4 ++ [(aB,aC,aD)])).length,cT,rfl,cU,(bB.trans cV)⟩
  ·intro eK eM dR
   obtain⟨cX,cY,rfl,cZ,dA,dS⟩:=Q0.out (r:=K1.toRp) dR aM
   obtain rfl:=oJ bA
   exact⟨cX,u4.length,cY,rfl,cZ,(bB.trans dA)⟩
theorem z04(h:Hp)(aK:List Value)(p0:j0)(bL:Y0.R h aK p0)(p1:Int)(bZ:P0 p1)(r:Int)(aJ:I7 p0 p1=some r):
  Tr Tryz.prog 318 #[.agg aK.toArray,.int .i64 p1] h λv h'=>v = .int .i64 r/\h'=h:=by
 obtain⟨aN,aO,aL,aX,aM,aF,rfl,rfl,aY,aZ,aC⟩:=D0 bL
 obtain⟨rfl,bA⟩:=Sl.len aC
 unfold I7 at aJ
 dsimp only at aJ
 refine Tr.forget (G3 (args:=[.agg #[.int .i64 aN,.int .i64 aO,.slice aL aF.length aM],.int .i64 p1]) (fn:=Tryz.f318) rfl ?_)
 obtain⟨X1,aP,aJ⟩:=C0 aJ
 refine eX { vars:=[5,6],boxes:=[],owns:=[],fuel:=true } (eX (λvs os h'=>∃ u2 u3,vs.tail = [.int .i64 u2,.int .i64 u3]/\os = []/\Sub h h'/\P0 u2/\P0 u3/\A3 aF p1 (N1 vs) u2 u3=some X1) (eX (λ_ _=>0) (aI (eX T0 ⟨0,0,rfl,rfl,(Sub.refl _),(by decide),(by decide),aP⟩) ?_)))
 rintro _ _ m5 k4 ⟨u2,u3,⟨⟩,⟨⟩,aD,bM,cC,aB⟩
 replace aB:A3 aF p1 m5 u2 u3=some X1:=aB
 obtain _|m5:=m5
 ·cases aB
 rw[A3.eq_2]at aB
 refine ifB aB (λbN aB=>?_) λbN aB=>?_
 ·refine ld aB (M0.mono aD aC) λx7 bO bP aB=>?_
  obtain⟨bQ,bR,bS,rfl,rfl,bB,bC,bD⟩:=H1 bP
  try dsimp only at aB
  refine ifB aB (λbT aB=>?_) λbT aB=>?_
  ·refine ld aB (M0.mono aD aC) λx9 bU bV aB=>?_
   obtain⟨bW,bX,bY,rfl,rfl,bE,bF,bG⟩:=H1 bV
   try dsimp only at aB
   refine ifB aB (λaQ aB=>?_) λaQ aB=>?_
   ·exact T2 m5 ⟨(IntKind.i64.wrap ((IntKind.i64.wrap (u2+1))+1)),(IntKind.i64.wrap (u3+1)),rfl,rfl,aD,(J0 _),(J0 _),aB⟩
   ·exact T2 m5 ⟨(IntKind.i64.wrap (u2+1)),(IntKind.i64.wrap (u3+1)),rfl,rfl,aD,(J0 _),(J0 _),aB⟩
  ·refine ld aB (M0.mono aD aC) λcD bH aR aB=>?_
   obtain⟨bI,bJ,bK,rfl,rfl,aS,aT,aU⟩:=H1 aR
   try dsimp only at aB
   refine ifB aB (λaV aB=>?_) λaV aB=>?_
   ·exact T2 m5 ⟨(IntKind.i64.wrap (u2+1)),(IntKind.i64.wrap (u3+1)),rfl,rfl,aD,(J0 _),(J0 _),aB⟩
   ·exact T2 m5 ⟨u2,(IntKind.i64.wrap (u3+1)),rfl,rfl,aD,bM,(J0 _),aB⟩
 ·obtain rfl:=oJ aB
  try dsimp only[U0,V0]at aJ
  obtain rfl:=oJ aJ
  exact aI rfl aD
theorem I02(h:Hp)(aL:List Value)(p0:j0)(bS:Y0.R h aL p0)(aM:List Value)(p1:j0)(bT:Y0.R h aM p1)(r:Bool)(aC:R6 p0 p1=some r):
  Tr Tryz.prog 194 #[.agg aL.toArray,.agg aM.toArray] h λv h'=>v = .bool r/\h'=h:=by
 obtain⟨aS,aT,aN,bE,aO,aJ,rfl,rfl,bF,bG,aD⟩:=D0 bS
 obtain⟨rfl,bH⟩:=Sl.len aD
 obtain⟨aU,aV,aP,bI,aQ,aK,rfl,rfl,bJ,bK,aF⟩:=D0 bT
 obtain⟨rfl,bL⟩:=Sl.len aF
 unfold R6 at aC
 dsimp only at aC
 refine Tr.forget (G3 (args:=[.agg #[.int .i64 aS,.int .i64 aT,.slice aN aJ.length aO],.agg #[.int .i64 aU,.int .i64 aV,.slice aP aK.length aQ]]) (fn:=Tryz.f194) rfl ?_)
 refine ifB aC (λbU aC=>?_) λbU aC=>?_
 ·obtain rfl:=oJ aC
  exact aI rfl (Sub.refl _)
 ·obtain⟨X2,aX,aC⟩:=C0 aC
  refine eX { vars:=[5],boxes:=[],owns:=[],fuel:=true } (eX (λvs os h'=>∃ u3,vs.tail = [.int .i64 u3]/\os = []/\Sub h h'/\P0 u3/\V4 aJ aK (N1 vs) u3=some X2) (eX (λ_ _=>0) (aI (eX T0 ⟨0,rfl,rfl,(Sub.refl _),(by decide),aX⟩) ?_)))
  rintro _ m5 k4 ⟨u3,⟨⟩,⟨⟩,aR,cD,aB⟩
  replace aB:V4 aJ aK m5 u3=some X2:=aB
  obtain _|m5:=m5
  ·cases aB
  rw[V4.eq_2]at aB
  refine ifB aB (λbV aB=>?_) λbV aB=>?_
  ·refine Or.inl (aI (aI (by kernel_rfl) (by kernel_rfl)) ?_)
   refine ld aB (M0.mono aR aD) λx7 bW bX aB=>?_
   obtain⟨aY,aZ,bA,rfl,rfl,bM,bN,bO⟩:=H1 bX
   try dsimp only at aB
   refine ld aB (M0.mono aR aF) λx8 bY bZ aB=>?_
   obtain⟨bB,bC,bD,rfl,rfl,bP,bQ,bR⟩:=H1 bZ
   try dsimp only at aB
   refine eX (!eqE (aY,aZ,bA) (bB,bC,bD)) (aI (c0e _ _ _ rfl _ _ _ _ _ _) ?_)
   refine ifB aB (λcC aB=>?_) λcC aB=>?_
   ·obtain rfl:=oJ aB
    try dsimp only[t6,w6]at aC
    obtain rfl:=oJ aC
    exact aI rfl aR
   ·exact T2 m5 ⟨(IntKind.i64.wrap (u3+1)),rfl,rfl,aR,(J0 _),aB⟩
  ·obtain rfl:=oJ aB
   try dsimp only[U0,V0]at aC
   obtain rfl:=oJ aC
   exact aI rfl aR
theorem L06(h:Hp)(bD:List Value)(p0:j0)(cZ:Y0.R h bD p0)(p1:Int)(cO:P0 p1)(r:B0)(aJ:n8 p0 p1=some r):
  Tr Tryz.prog 334 #[.agg bD.toArray,.int .i64 p1] h λv h'=>∃(a0:Option Addr) (n0 c0:Nat),v = .slice a0 n0 c0/\N0.R h' [.slice a0 n0 c0] r/\Sub h h':=by
 obtain⟨bP,bE,bF,cP,bG,aM,rfl,rfl,bH,bI,aN⟩:=D0 cZ
 obtain⟨rfl,cQ⟩:=Sl.len aN
 unfold n8 at aJ
 dsimp only at aJ
 refine G3 (args:=[.agg #[.int .i64 bP,.int .i64 bE,.slice bF aM.length bG],.int .i64 p1]) (fn:=Tryz.f334) rfl ?_
 refine trV aJ (B7 _ _ _ (l0 bH bI aN)) λx1 aJ=>?_
 refine trG aJ (λq=>Y7 _ _ cO 0 (by decide) (IntKind.i64.wrap (bE-1)) (J0 _)) λx2 aJ=>?_
 refine ifB aJ (λdA aJ=>?_) λdA aJ=>?_
 ·intro v4 k5 f6
  obtain⟨dB,dC,rfl,dD,dE,dS⟩:=Q0.out (r:=Wp.int.toRp) f6 (show F2 (Wp.int.R h) ([]:List (List Value)) ([]:B0) from trivial)
  obtain rfl:=oJ aJ
  exact⟨dB,(([]:B0)).length,dC,rfl,dD,dE⟩
 ·obtain⟨X12,bJ,aJ⟩:=C0 aJ
  refine eX { vars:=[5,6],boxes:=[],owns:=[],fuel:=true,pubs:=[5,22] } (eX (λvs os h'=>∃(aO:Option Addr) (aV aP:Nat) (aX:B0) (bC:Int),vs.tail = [.slice aO aV aP,.int .i64 bC]/\os = []/\Sub h h'/\N0.R h' [.slice aO aV aP] aX/\P0 bC/\I4 aM (N1 vs) aX bC=some X12) (eX (λ_ _=>0) ?_))
  intro v8 k9 dF
  obtain⟨bQ,bR,rfl,bS,bT,dG⟩:=Q0.out (r:=Wp.int.toRp) dF (show F2 (Wp.int.R h) ([[.int .i64 p1]]:List (List Value)) [p1] from⟨⟨rfl,cO⟩,trivial⟩)
  refine aI (eX T0 ⟨bQ,([p1]).length,bR,[p1],0,rfl,rfl,bT,bS,(by decide),bJ⟩) ?_
  rintro _ _ bO dH ⟨aO,aV,aP,aX,bC,⟨⟩,⟨⟩,aY,aZ,dI,aL⟩
  replace aL:I4 aM bO aX bC=some X12:=aL
  obtain _|bO:=bO
  ·cases aL
  rw[I4.eq_2]at aL
  obtain⟨rfl,dJ⟩:=Sl.len aZ
  refine ifB aL (λbU aL=>?_) λbU aL=>?_
  ·obtain⟨X18,bK,aL⟩:=C0 aL
   refine eX { vars:=[5,7],boxes:=[],owns:=[],fuel:=true } (eX (λvs os h'=>∃ aQ bA aR aU aS,vs.tail = [.slice aQ bA aR,.int .i64 aS]/\os = []/\Sub dH h'/\N0.R h' [.slice aQ bA aR] aU/\P0 aS/\l3 aM (N1 vs) aU aS=some X18) (eX (λ_ _=>0) (aI (eX T0 ⟨aO,aX.length,aP,aX,0,rfl,rfl,(Sub.refl _),aZ,(by decide),bK⟩) ?_)))
   rintro _ _ bB dT ⟨aQ,bA,aR,aU,aS,⟨⟩,⟨⟩,aK,aC,dK,aB⟩
   replace aB:l3 aM bB aU aS=some X18:=aB
   obtain _|bB:=bB
   ·cases aB
   rw[l3.eq_2]at aB
   obtain⟨rfl,dL⟩:=Sl.len aC
   refine ifB aB (λbV aB=>?_) λbV aB=>?_
   ·refine ld aB (M0.mono (aY.trans aK) aN) λdU cR bW aB=>?_
    obtain⟨cS,cT,cU,rfl,rfl,aD,bX,aF⟩:=H1 bW
    try dsimp only at aB
    refine trV aB (b01 _ _ _ _ _ aC _ aD) λdV aB=>?_
    refine ifB aB (λbY aB=>?_) λbY aB=>?_
    ·refine trM aB (i00 _ _ _ _ _ aC _ aF) ?_
     rintro cV aB dW dX ⟨bZ,dM,cC,rfl,aT,bL⟩
     obtain⟨rfl,dN⟩:=Sl.len aT
     refine trV aB (b01 _ _ _ _ _ aT _ aF) λdY aB=>?_
     refine ifB aB (λcD aB=>?_) λcD aB=>?_
     ·refine trM aB (i00 _ _ _ _ _ aT _ aD) ?_
      rintro cX aB dZ eA ⟨cE,dO,cI,rfl,bM,cJ⟩
      obtain⟨rfl,dP⟩:=Sl.len bM
      exact T2 bB ⟨cE,cX.length,cI,cX,(IntKind.i64.wrap (aS+1)),rfl,rfl,((aK.trans bL).trans cJ),bM,(J0 _),aB⟩
     ·exact T2 bB ⟨bZ,cV.length,cC,cV,(IntKind.i64.wrap (aS+1)),rfl,rfl,(aK.trans bL),aT,(J0 _),aB⟩
    ·refine trV aB (b01 _ _ _ _ _ aC _ aF) λeB aB=>?_
     refine ifB aB (λcK aB=>?_) λcK aB=>?_
     ·refine trM aB (i00 _ _ _ _ _ aC _ aD) ?_
      rintro cY aB eC eD ⟨cL,dQ,cM,rfl,bN,cN⟩
      obtain⟨rfl,dR⟩:=Sl.len bN
      exact T2 bB ⟨cL,cY.length,cM,cY,(IntKind.i64.wrap (aS+1)),rfl,rfl,(aK.trans cN),bN,(J0 _),aB⟩
     ·exact T2 bB ⟨aQ,aU.length,aR,aU,(IntKind.i64.wrap (aS+1)),rfl,rfl,aK,aC,(J0 _),aB⟩
   ·obtain rfl:=oJ aB
    try dsimp only[U0,V0]at aL
    exact T2 bO ⟨aQ,aU.length,aR,aU,(IntKind.i64.wrap (bC+1)),rfl,rfl,(aY.trans aK),aC,(J0 _),aL⟩
  ·obtain rfl:=oJ aL
   try dsimp only[U0,V0]at aJ
   obtain rfl:=oJ aJ
   exact⟨aO,aX.length,aP,rfl,aZ,aY⟩
theorem j06(h:Hp)(aN:List Value)(p0:j0)(bA:Y0.R h aN p0)(r:Int)(aD:z9 p0=some r):
  Tr Tryz.prog 294 #[.agg aN.toArray] h λv h'=>v = .int .i64 r/\h'=h:=by
 obtain⟨aK,aL,aO,aV,aP,aM,rfl,rfl,aF,aJ,aC⟩:=D0 bA
 obtain⟨rfl,aX⟩:=Sl.len aC
 unfold z9 at aD
 dsimp only at aD
 refine Tr.forget (G3 (args:=[.agg #[.int .i64 aK,.int .i64 aL,.slice aO aM.length aP]]) (fn:=Tryz.f294) rfl ?_)
 refine trM aD (L06 _ _ _ (l0 aF aJ aC) 0 (by decide)) ?_
 rintro x1 aD v3 k2 ⟨bC,bD,bE,rfl,aY,aR⟩
 obtain⟨rfl,bF⟩:=Sl.len aY
 obtain⟨X4,aS,aD⟩:=C0 aD
 refine eX { vars:=[4],boxes:=[],owns:=[],fuel:=true } (eX (λvs os h'=>∃ u5,vs.tail = [.int .i64 u5]/\os = []/\Sub k2 h'/\P0 u5/\K6 aL aK aM x1 (N1 vs) u5=some X4) (eX (λ_ _=>0) (aI (eX T0 ⟨1,rfl,rfl,(Sub.refl _),(by decide),aS⟩) ?_)))
 rintro _ m7 k6 ⟨u5,⟨⟩,⟨⟩,aQ,aZ,aB⟩
 replace aB:K6 aL aK aM x1 m7 u5=some X4:=aB
 obtain _|m7:=m7
 ·cases aB
 rw[K6.eq_2]at aB
 refine ifB aB (λbB aB=>?_) λbB aB=>?_
 ·refine trV aB (z04 _ _ _ (l0 aF aJ (M0.mono (aR.trans aQ) aC)) _ aZ) λx9 aB=>?_
  obtain⟨bG,aT,aB⟩:=C0 aB
  have bH:P0 x9:=Y2 aT
  refine trG aB (λq=>b01 _ _ _ _ _ (N0.mono aQ aY) _ aZ) λbI aB=>?_
  refine ifB aB (λaU aB=>?_) λaU aB=>?_
  ·obtain rfl:=oJ aB
   try dsimp only[t6,w6]at aD
   obtain rfl:=oJ aD
   exact aI rfl (aR.trans aQ)
  ·exact T2 m7 ⟨(IntKind.i64.wrap (u5+1)),rfl,rfl,aQ,(J0 _),aB⟩
 ·obtain rfl:=oJ aB
  try dsimp only[U0,V0]at aD
  obtain rfl:=oJ aD
  exact aI rfl (aR.trans aQ)
theorem Y9(h:Hp)(bJ:List Value)(p0:j0)(eW:Y0.R h bJ p0)(cL:Option Addr)(eC cM:Nat)(p1:B0)(cD:N0.R h [.slice cL eC cM] p1)(r:j0×Bool)(aC:W4 p0 p1=some r):
  Tr Tryz.prog 320 #[.agg bJ.toArray,.slice cL eC cM] h λv h'=>∃(eD:List Value),v = .tuple #[.agg eD.toArray,.bool r.2]/\Y0.R h' eD r.1/\Sub h h':=by
 obtain⟨aR,aJ,bK,eE,bL,aL,rfl,rfl,aK,aM,aD⟩:=D0 eW
 obtain⟨rfl,eF⟩:=Sl.len aD
 obtain⟨rfl,eY⟩:=Sl.len cD
 unfold W4 at aC
 dsimp only at aC
 refine G3 (args:=[.agg #[.int .i64 aR,.int .i64 aJ,.slice bK aL.length bL],.slice cL p1.length cM]) (fn:=Tryz.f320) rfl ?_
 refine trV aC (B7 _ _ _ (l0 aK aM aD)) λx1 aC=>?_
 refine ifB aC (λeZ aC=>?_) λeZ aC=>?_
 ·refine trM aC (o6 _ _ _ (l0 aK aM aD)) ?_
  rintro x3 aC v5 k4 ⟨fA,rfl,eG⟩
  have fB:Sub h k4:=eG.sub
  have fC:=eG.r
  obtain⟨cN,cO,bM,eH,bN,cP,rfl,rfl,bO,bP,aT⟩:=D0 fC
  obtain⟨rfl,eI⟩:=Sl.len aT
  try dsimp only at aC
  obtain rfl:=oJ aC
  exact⟨([.int .i64 cN,.int .i64 cO,.slice bM cP.length bN]),rfl,(l0 bO bP aT),fB⟩
 ·obtain⟨q6,fD,aC⟩:=C0 aC
  refine aI (Y2 fD) ?_
  obtain⟨X7,cQ,aC⟩:=C0 aC
  refine eX { vars:=[8],boxes:=[],owns:=[0],fuel:=true,kept:=[0] } (eX (λvs os h'=>∃ u8 cE u9,vs.tail = [.int .i64 u8]/\os = [cE]/\Sub h h'/\P0 u8/\F2 (Wp.int.R h') cE u9/\c4 p1 aJ aR aL (N1 vs) u8 u9=some X7) (eX (λ_ _=>0) (aI (eX T0 ⟨0,(List.replicate aJ.toNat ([.int .i64 0]:List Value)),(List.replicate aJ.toNat (0:Int)),rfl,rfl,(Sub.refl _),(by decide),(F2.rep (p:=Wp.int.R h) (a:=[.int .i64 0]) (b:=0) ⟨rfl,(by decide)⟩ (aJ.toNat)),cQ⟩) ?_)))
  rintro _ cE cI bQ ⟨u8,fE,u9,⟨⟩,⟨⟩,aU,fV,aY,aB⟩
  replace aB:c4 p1 aJ aR aL cI u8 u9=some X7:=aB
  obtain _|cI:=cI
  ·cases aB
  rw[c4.eq_2]at aB
  refine ifB aB (λcR aB=>?_) λcR aB=>?_
  ·refine Or.inl (aI (aI (by kernel_rfl) (by kernel_rfl)) ?_)
   refine ldI aB (N0.mono aU cD) λfW cS aB=>?_
   obtain⟨fF,cT,aB⟩:=C0 aB
   refine eX (.bool fF) (aI (Y7 _ _ cS 0 (by decide) (IntKind.i64.wrap (aJ-1)) (J0 _) _  cT) ?_)
   refine ldG aB (N0.mono aU cD) λfX fH aB=>?_
   obtain⟨fY,cU,aB⟩:=C0 aB
   obtain⟨eJ,bR,cV⟩:=S00 aY cU (J0a bQ)
   refine aI (λq=>(bR q).1) ?_
   obtain⟨rfl,fI⟩:=cV
   refine eX _ (aI (λq=>(bR q).2) ?_)
   refine ifB aB (λcX aB=>?_) λcX aB=>?_
   ·refine trM aB (o6 _ _ _ (l0 aK aM (M0.mono aU aD))) ?_
    rintro fZ aB gA fJ ⟨eK,rfl,bS⟩
    have cY:Sub bQ fJ:=bS.sub
    have cZ:=bS.r
    obtain⟨bT,bU,aZ,dA,bA,bV,rfl,rfl,bB,bC,aN⟩:=D0 cZ
    obtain⟨rfl,dB⟩:=Sl.len aN
    try dsimp only at aB
    obtain rfl:=oJ aB
    try dsimp only[t6,w6]at aC
    obtain rfl:=oJ aC
    exact⟨([.int .i64 bT,.int .i64 bU,.slice aZ bV.length bA]),rfl,(l0 bB bC aN),(aU.trans cY)⟩
   ·refine ldI aB (N0.mono aU cD) λdC fK aB=>?_
    obtain⟨gB,dD,aB⟩:=C0 aB
    obtain⟨dE,eM,dF,dG⟩:=E3 aY dD
    refine aI dE ?_
    obtain⟨rfl,fL⟩:=dG
    refine eX _ (aI dF ?_)
    exact T2 cI ⟨(IntKind.i64.wrap (u8+1)),(cE.set dC.toNat [.int .i64 (IntKind.i64.wrap (u8+1))]),(u9.set dC.toNat (IntKind.i64.wrap (u8+1))),rfl,rfl,aU,(J0 _),(F2.set (p:=Wp.int.R bQ) (a:=[.int .i64 (IntKind.i64.wrap (u8+1))]) (b:=(IntKind.i64.wrap (u8+1))) ⟨rfl,(J0 _)⟩ dC.toNat aY),aB⟩
  ·obtain rfl:=oJ aB
   try dsimp only[U0,V0]at aC
   obtain⟨X23,bW,aC⟩:=C0 aC
   refine eX { vars:=[9],boxes:=[2],owns:=[],fuel:=true } (eX (λvs os h'=>∃ bD aV aX aO bE aP bF,vs.tail = [.int .i64 bD,.int .i64 aV,.int .i64 aX,.slice aO bE aP]/\os = []/\Sub bQ h'/\P0 bD/\P0 aV/\P0 aX/\M0.R h' [.slice aO bE aP] bF/\K3 aL u9 (N1 vs) bD aV aX bF=some X23) (eX (λ_ _=>0) (aI (eX T0 ⟨0,aR,((p1.length:Nat):Int),none,0,0,[],rfl,rfl,(Sub.refl _),(by decide),aK,(Z0l eY),(C0l K1 bQ),bW⟩) ?_)))
   rintro _ _ _ _ bX fM ⟨bD,aV,aX,aO,bE,aP,bF,⟨⟩,⟨⟩,aF,fN,bG,bH,aS,aB⟩
   replace aB:K3 aL u9 bX bD aV aX bF=some X23:=aB
   obtain _|bX:=bX
   ·cases aB
   rw[K3.eq_2]at aB
   obtain⟨rfl,fO⟩:=Sl.len aS
   refine ifB aB (λdH aB=>?_) λdH aB=>?_
   ·refine ld aB (M0.mono (aU.trans aF) aD) λgC eN dI aB=>?_
    obtain⟨eO,aQ,eP,rfl,rfl,dJ,bI,dK⟩:=H1 dI
    try dsimp only at aB
    obtain⟨gD,dL,aB⟩:=C0 aB
    obtain⟨dM,eQ,dN,dO⟩:=E3 (F2.up (r:=Wp.int.toRp) aF aY) dL
    refine aI dM ?_
    obtain⟨rfl,fP⟩:=dO
    refine eX _ (aI dN ?_)
    obtain⟨gE,dP,aB⟩:=C0 aB
    obtain⟨eR,bY,dQ⟩:=S00 (F2.up (r:=Wp.int.toRp) aF aY) dP (J0a fM)
    refine aI (λq=>(bY q).1) ?_
    obtain⟨rfl,fQ⟩:=dQ
    refine eX _ (aI (λq=>(bY q).2) ?_)
    refine ifB aB (λdR aB=>?_) λdR aB=>?_
    ·refine Or.inr (Or.inr (Or.inl (aI (aI (by kernel_rfl) (by kernel_rfl)) ?_)))
     obtain⟨cJ,dS,aB⟩:=C0 aB
     obtain⟨dT,eT,dU,dV⟩:=E3 (F2.up (r:=Wp.int.toRp) aF aY) dS
     obtain⟨rfl,fR⟩:=dV
     refine Or.inl ?_
     apply eX
     refine aI ?_ ?_
     ·intro gF gG
      exact aI dT (aI rfl (aI rfl rfl))
     refine Or.inl (eX (.val (.int .i64 cJ)) (aI ?_ ?_))
     ·intro gH gI
      exact eX _ (aI dU (aI rfl (aI rfl rfl)))
     obtain⟨cK,dW,aB⟩:=C0 aB
     obtain⟨dX,eU,dY,dZ⟩:=E3 (F2.up (r:=Wp.int.toRp) aF aY) dW
     obtain⟨rfl,fS⟩:=dZ
     refine Or.inl ?_
     apply eX
     refine aI ?_ ?_
     ·intro gJ gK
      exact aI dX (aI rfl (aI rfl rfl))
     refine Or.inl (eX (.val (.int .i64 cK)) (aI ?_ ?_))
     ·intro gL gM
      exact eX _ (aI dY (aI rfl (aI rfl rfl)))
     refine Or.inl (eX (.agg [.val (.int .i64 (IntKind.i64.wrap (cJ-1))),.val (.int .i64 aQ),.val (.int .i64 (IntKind.i64.wrap (cK-1)))]) (aI ?_ ?_))
     ·intro gN gO
      exact aI rfl (aI rfl rfl)
     refine Or.inr ?_
     refine Or.inr ?_
     refine Or.inl (eX 1 (aI (aI rfl rfl) ?_))
     refine trM aB (O07 _ _ _ _ _ aS [.int .i64 (IntKind.i64.wrap (cJ-1)),.int .i64 aQ,.int .i64 (IntKind.i64.wrap (cK-1))] ((IntKind.i64.wrap (cJ-1)),aQ,(IntKind.i64.wrap (cK-1))) (Q1 (J0 _) bI (J0 _))) ?_
     rintro eV aB gP gQ ⟨eA,fT,eB,rfl,bZ,cC⟩
     obtain⟨rfl,fU⟩:=Sl.len bZ
     refine aI (aI rfl cC) (aI (by first|exact trivial|exact rfl) ?_)
     refine aI trivial (aI (by first|exact trivial|exact rfl) ?_)
     exact T2 bX ⟨(IntKind.i64.wrap (bD+1)),aV,aX,eA,eV.length,eB,eV,rfl,rfl,(aF.trans cC),(J0 _),bG,bH,bZ,aB⟩
    ·exact T2 bX ⟨(IntKind.i64.wrap (bD+1)),aV,aX,aO,bF.length,aP,bF,rfl,rfl,aF,(J0 _),bG,bH,aS,aB⟩
   ·obtain rfl:=oJ aB
    try dsimp only[U0,V0]at aC
    obtain rfl:=oJ aC
    exact⟨([.int .i64 aV,.int .i64 aX,.slice aO bF.length aP]),rfl,(l0 bG bH aS),(aU.trans aF)⟩
theorem w01(h:Hp)(p0:Int)(aX:P0 p0)(r:B0)(aD:S6 p0=some r):
  Tr Tryz.prog 319 #[.int .i64 p0] h λv h'=>∃(a0:Option Addr) (n0 c0:Nat),v = .slice a0 n0 c0/\N0.R h' [.slice a0 n0 c0] r/\Sub h h':=by
 unfold S6 at aD
 refine G3 (args:=[.int .i64 p0]) (fn:=Tryz.f319) rfl ?_
 obtain⟨X1,aK,aD⟩:=C0 aD
 refine eX { vars:=[4],boxes:=[],owns:=[0],fuel:=true } (eX (λvs os h'=>∃ u2 aF u3,vs.tail = [.int .i64 u2]/\os = [aF]/\Sub h h'/\P0 u2/\F2 (Wp.int.R h') aF u3/\Y4 p0 (N1 vs) u2 u3=some X1) (eX (λ_ _=>0) (aI (eX T0 ⟨1,[],([]:B0),rfl,rfl,(Sub.refl _),(by decide),(show F2 (Wp.int.R h) ([]:List (List Value)) ([]:B0) from trivial),aK⟩) ?_)))
 rintro _ aF m5 k4 ⟨u2,aQ,u3,⟨⟩,⟨⟩,aP,aJ,aC,aB⟩
 replace aB:Y4 p0 m5 u2 u3=some X1:=aB
 obtain _|m5:=m5
 ·cases aB
 rw[Y4.eq_2]at aB
 refine ifB aB (λaR aB=>?_) λaR aB=>?_
 ·obtain⟨q7,aS,aB⟩:=C0 aB
  refine aI (E1 aS (by first|rw[F2.length aC,F2.length (show F2 (Wp.int.R k4) ([[.int .i64 u2]]:List (List Value)) [u2] from⟨⟨rfl,aJ⟩,trivial⟩)]|exact congrArg (·+1) (F2.length aC))) ?_
  obtain⟨q8,aT,aB⟩:=C0 aB
  refine aI (E1 aT (by first|rw[F2.length (F2.append aC (show F2 (Wp.int.R k4) ([[.int .i64 u2]]:List (List Value)) [u2] from⟨⟨rfl,aJ⟩,trivial⟩)),F2.length (show F2 (Wp.int.R k4) ([[.int .i64 (IntKind.i64.wrap (0-u2))]]:List (List Value)) [(IntKind.i64.wrap (0-u2))] from⟨⟨rfl,(J0 _)⟩,trivial⟩)]|exact congrArg (·+1) (F2.length (F2.append aC (show F2 (Wp.int.R k4) ([[.int .i64 u2]]:List (List Value)) [u2] from⟨⟨rfl,aJ⟩,trivial⟩))))) ?_
  exact T2 m5 ⟨(IntKind.i64.wrap (u2+1)),((aF++([[.int .i64 u2]]:List (List Value)))++([[.int .i64 (IntKind.i64.wrap (0-u2))]]:List (List Value))),((u3 ++ [u2]) ++ [(IntKind.i64.wrap (0-u2))]),rfl,rfl,aP,(J0 _),(F2.append (F2.append aC (show F2 (Wp.int.R k4) ([[.int .i64 u2]]:List (List Value)) [u2] from⟨⟨rfl,aJ⟩,trivial⟩)) (show F2 (Wp.int.R k4) ([[.int .i64 (IntKind.i64.wrap (0-u2))]]:List (List Value)) [(IntKind.i64.wrap (0-u2))] from⟨⟨rfl,(J0 _)⟩,trivial⟩)),aB⟩
 ·obtain rfl:=oJ aB
  try dsimp only[U0,V0]at aD
  intro v9 aY aU
  obtain⟨aL,aM,rfl,aN,aO,aV⟩:=Q0.out (r:=Wp.int.toRp) aU aC
  obtain rfl:=oJ aD
  exact⟨aL,u3.length,aM,rfl,aN,(aP.trans aO)⟩
theorem G04(h:Hp)(bB:List Value)(p0:j0)(cO:Y0.R h bB p0)(r:B0)(aF:N6 p0=some r):
  Tr Tryz.prog 335 #[.agg bB.toArray] h λv h'=>∃(a0:Option Addr) (n0 c0:Nat),v = .slice a0 n0 c0/\N0.R h' [.slice a0 n0 c0] r/\Sub h h':=by
 obtain⟨aK,aL,bC,cE,bD,aM,rfl,rfl,aN,aS,aO⟩:=D0 cO
 obtain⟨rfl,cI⟩:=Sl.len aO
 unfold N6 at aF
 dsimp only at aF
 refine G3 (args:=[.agg #[.int .i64 aK,.int .i64 aL,.slice bC aM.length bD]]) (fn:=Tryz.f335) rfl ?_
 refine trV aF (x00 _ _ _ (l0 aN aS aO)) λx1 aF=>?_
 refine ifB aF (λcP aF=>?_) λcP aF=>?_
 ·intro v3 k4 f5
  obtain⟨cQ,cR,rfl,cS,cT,dH⟩:=Q0.out (r:=Wp.int.toRp) f5 (show F2 (Wp.int.R h) ([]:List (List Value)) ([]:B0) from trivial)
  obtain rfl:=oJ aF
  exact⟨cQ,(([]:B0)).length,cR,rfl,cS,cT⟩
 ·refine trM aF (w01 _ _ aN) ?_
  rintro x7 aF v9 k8 ⟨dI,dJ,dK,rfl,cJ,bI⟩
  obtain⟨rfl,dL⟩:=Sl.len cJ
  obtain⟨X10,bE,aF⟩:=C0 aF
  refine eX { vars:=[5],boxes:=[],owns:=[0],fuel:=true } (eX (λvs os h'=>∃ aT aP bA,vs.tail = [.int .i64 aT]/\os = [aP]/\Sub k8 h'/\P0 aT/\F2 (Wp.int.R h') aP bA/\C4 x7 aK aL aM (N1 vs) aT bA=some X10) (eX (λ_ _=>0) (aI (eX T0 ⟨0,([[.int .i64 0]]:List (List Value)),[0],rfl,rfl,(Sub.refl _),(by decide),(F2.up (r:=Wp.int.toRp) bI (show F2 (Wp.int.R h) ([[.int .i64 0]]:List (List Value)) [0] from⟨⟨rfl,(by decide)⟩,trivial⟩)),bE⟩) ?_)))
  rintro _ aP bH cU ⟨aT,cK,bA,⟨⟩,⟨⟩,aR,cV,aV,aC⟩
  replace aC:C4 x7 aK aL aM bH aT bA=some X10:=aC
  obtain _|bH:=bH
  ·cases aC
  rw[C4.eq_2]at aC
  obtain⟨cX,bJ,aC⟩:=C0 aC
  obtain rfl:aP.length=cX:=(F2.length aV).trans (oJ bJ)
  obtain⟨dM,cY,aC⟩:=C0 aC
  refine ifB aC (λbK aC=>?_) λbK aC=>?_
  ·obtain⟨X18,bF,aC⟩:=C0 aC
   refine eX { vars:=[6],boxes:=[],owns:=[0],fuel:=true } (eX (λvs os h'=>∃ aX aJ aY,vs.tail = [.int .i64 aX]/\os = [aJ]/\Sub cU h'/\P0 aX/\F2 (Wp.int.R h') aJ aY/\B3 x7 aT aK aL aM (N1 vs) aX aY=some X18) (eX (λ_ _=>0) (aI (eX T0 ⟨0,aP,bA,rfl,rfl,(Sub.refl _),(by decide),aV,bF⟩) ?_)))
   rintro _ aJ bG cL ⟨aX,cM,aY,⟨⟩,⟨⟩,aQ,cZ,aD,aB⟩
   replace aB:B3 x7 aT aK aL aM bG aX aY=some X18:=aB
   obtain _|bG:=bG
   ·cases aB
   rw[B3.eq_2]at aB
   refine ifB aB (λbL aB=>?_) λbL aB=>?_
   ·refine Or.inl (aI (aI (by kernel_rfl) (by kernel_rfl)) ?_)
    obtain⟨dN,bM,aB⟩:=C0 aB
    obtain⟨bN,cN,bO,bP⟩:=E3 aD bM
    refine aI bN ?_
    obtain⟨rfl,bQ⟩:=bP
    refine eX _ (aI bO ?_)
    refine ldI aB (N0.mono (aR.trans aQ) cJ) λdO bR aB=>?_
    obtain⟨aU,bS,aB⟩:=C0 aB
    refine eX (.int .i64 aU) (aI (c01 _ _ _ (l0 aN aS (M0.mono ((bI.trans aR).trans aQ) aO)) _ bQ _ bR _  bS) ?_)
    obtain⟨dP,bT,aB⟩:=C0 aB
    have aZ:P0 aU:=Y2 bT
    obtain⟨dA,bU,aB⟩:=C0 aB
    refine eX (.bool dA) (aI ?_ ?_)
    ·intro hq
     intro dQ dR dB
     obtain⟨dC,dD,rfl,bV,dE,dF⟩:=Q0.out (r:=Wp.int.toRp) dB aD
     exact b01 _ _ _ _ _ bV _ aZ _ (R00 bU hq)
    refine ifB aB (λbW aB=>?_) λbW aB=>?_
    ·obtain⟨dS,bX,aB⟩:=C0 aB
     refine aI (E1 bX (by first|rw[F2.length aD,F2.length (show F2 (Wp.int.R cL) ([[.int .i64 aU]]:List (List Value)) [aU] from⟨⟨rfl,aZ⟩,trivial⟩)]|exact congrArg (·+1) (F2.length aD))) ?_
     exact T2 bG ⟨(IntKind.i64.wrap (aX+1)),(aJ++([[.int .i64 aU]]:List (List Value))),(aY ++ [aU]),rfl,rfl,aQ,(J0 _),(F2.append aD (show F2 (Wp.int.R cL) ([[.int .i64 aU]]:List (List Value)) [aU] from⟨⟨rfl,aZ⟩,trivial⟩)),aB⟩
    ·exact T2 bG ⟨(IntKind.i64.wrap (aX+1)),aJ,aY,rfl,rfl,aQ,(J0 _),aD,aB⟩
   ·obtain rfl:=oJ aB
    try dsimp only[U0,V0]at aC
    exact T2 bH ⟨(IntKind.i64.wrap (aT+1)),aJ,aY,rfl,rfl,(aR.trans aQ),(J0 _),aD,aC⟩
  ·obtain rfl:=oJ aC
   try dsimp only[U0,V0]at aF
   intro dT dU f41
   obtain⟨bY,bZ,rfl,cC,cD,dG⟩:=Q0.out (r:=Wp.int.toRp) f41 aV
   obtain rfl:=oJ aF
   exact⟨bY,bA.length,bZ,rfl,cC,((bI.trans aR).trans cD)⟩
theorem k01(h:Hp)(aT:List Value)(p0:j0)(bS:Y0.R h aT p0)(r:j0)(aB:K5 p0=some r):
  Tr Tryz.prog 295 #[.agg aT.toArray] h λv h'=>∃(bL:List Value),v = .agg bL.toArray/\Y0.R h' bL r/\Sub h h':=by
 obtain⟨bE,bF,aU,bM,aV,bG,rfl,rfl,aF,aJ,aC⟩:=D0 bS
 obtain⟨rfl,bN⟩:=Sl.len aC
 unfold K5 at aB
 dsimp only at aB
 refine G3 (args:=[.agg #[.int .i64 bE,.int .i64 bF,.slice aU bG.length aV]]) (fn:=Tryz.f295) rfl ?_
 refine trM aB (G04 _ _ _ (l0 aF aJ aC)) ?_
 rintro x1 aB v3 k2 ⟨cC,cD,cE,rfl,bO,bB⟩
 obtain⟨rfl,cI⟩:=Sl.len bO
 refine ifB aB (λbT aB=>?_) λbT aB=>?_
 ·refine trM aB (o6 _ _ _ (l0 aF aJ (M0.mono bB aC))) ?_
  rintro x5 aB v7 k6 ⟨bU,rfl,bP⟩
  have bV:Sub k2 k6:=bP.sub
  have bW:=bP.r
  obtain⟨bH,bI,aX,bQ,aY,bJ,rfl,rfl,aZ,bA,aO⟩:=D0 bW
  obtain⟨rfl,bR⟩:=Sl.len aO
  try dsimp only at aB
  obtain rfl:=oJ aB
  exact⟨([.int .i64 bH,.int .i64 bI,.slice aX bJ.length aY]),rfl,(l0 aZ bA aO),(bB.trans bV)⟩
 ·refine trM aB (Y9 _ _ _ (l0 aF aJ (M0.mono bB aC)) _ _ _ _ bO) ?_
  rintro x8 aB cJ k9 ⟨bK,rfl,aP,bX⟩
  obtain⟨bY,bZ⟩:=x8
  dsimp only at aB aP
  obtain⟨aQ,aR,aK,bC,aL,aS,rfl,rfl,aM,aN,aD⟩:=D0 aP
  obtain⟨rfl,bD⟩:=Sl.len aD
  try dsimp only at aB
  obtain rfl:=oJ aB
  exact⟨([.int .i64 aQ,.int .i64 aR,.slice aK aS.length aL]),rfl,(l0 aM aN aD),(bB.trans bX)⟩
theorem W0b(h:Hp)(aU:List Value)(p0:j0)(bR:Y0.R h aU p0)(r:Bool)(aF:A9 p0=some r):
  Tr Tryz.prog 211 #[.agg aU.toArray] h λv h'=>v = .bool r/\h'=h:=by
 obtain⟨bC,bD,aV,bL,aX,bE,rfl,rfl,aJ,aK,aD⟩:=D0 bR
 obtain⟨rfl,bM⟩:=Sl.len aD
 unfold A9 at aF
 dsimp only at aF
 refine Tr.forget (G3 (args:=[.agg #[.int .i64 bC,.int .i64 bD,.slice aV bE.length aX]]) (fn:=Tryz.f211) rfl ?_)
 refine Or.inr (Or.inr (Or.inr (Or.inl (aI (aI (by kernel_rfl) (by kernel_rfl)) ?_))))
 obtain⟨x1,bS,aF⟩:=C0 aF
 refine Or.inl (eX (.val (.bool x1)) (aI ?_ ?_))
 ·intro k2 s3
  exact Tr.val (x00 _ _ _ (l0 aJ aK (M0.mono s3 aD)) _ bS) (aI rfl (aI rfl rfl))
 obtain⟨x4,bT,aF⟩:=C0 aF
 obtain⟨q5,bU,aF⟩:=C0 aF
 have cC:P0 x4:=Y2 bU
 refine Or.inl (eX (.val (.int .i64 x4)) (aI ?_ ?_))
 ·intro k6 s7 hq
  exact Tr.val (j06 _ _ _ (l0 aJ aK (M0.mono s7 aD)) _ (R00 bT hq)) (aI rfl (aI rfl rfl))
 refine Or.inl (eX (.val (.bool (decide (x4<0)))) (aI ?_ ?_))
 ·intro k8 s9 hq
  exact aI rfl (aI rfl rfl)
 obtain⟨bV,bF,aF⟩:=C0 aF
 obtain⟨aS,aT,aL⟩:=bV
 try dsimp only at aF
 refine Or.inr (eX (λv hh=>∃(aB:Option Addr) (aC:Nat),v = .agg #[.int .i64 aS,.int .i64 aT,.slice aB aL.length aC]/\P0 aS/\P0 aT/\M0.R hh [.slice aB aL.length aC] aL/\aL.length<=9223372036854775807) (aI (λv h1 h2 sb q=>by obtain⟨aB,aC,e,f0,f1,f2,f3⟩:=q;exact⟨aB,aC,e,f0,f1,M0.mono sb f2,f3⟩) (aI ?_ ?_)))
 ·intro cD bW hq
  refine Tr.mono (k01 _ _ _ (l0 aJ aK (M0.mono bW aD)) _ (R00 bF hq)) ?_
  rintro _ kk ⟨bN,rfl,bG,sb⟩
  obtain⟨bH,bI,aN,bB,aO,bJ,rfl,ey,aP,aQ,aM⟩:=D0 bG
  cases ey
  obtain⟨rfl,aR⟩:=Sl.len aM
  exact aI H03 (aI sb ⟨aN,aO,rfl,aP,aQ,aM,aR⟩)
 obtain⟨bX,bK,aF⟩:=C0 aF
 refine Or.inl (eX (.val (.bool bX)) (aI ?_ ?_))
 ·intro cE bY hq
  rintro _ ⟨bO,bP,rfl,aY,aZ,bA,bQ⟩
  exact Tr.val (I02 _ _ _ (l0 aY aZ bA) _ _ (l0 aJ aK (M0.mono bY aD)) _ (R00 bK hq)) (aI rfl (aI rfl rfl))
 intro cI bZ
 obtain rfl:=oJ aF
 exact aI rfl bZ
theorem e01(h:Hp)(aC:List Value)(p0:j0)(aR:Y0.R h aC p0)(r:Bool)(aD:C6 p0=some r):
  Tr Tryz.prog 103 #[.agg aC.toArray] h λv h'=>v = .bool r/\h'=h:=by
 obtain⟨aM,aN,aF,aP,aJ,aO,rfl,rfl,aK,aL,aB⟩:=D0 aR
 obtain⟨rfl,aQ⟩:=Sl.len aB
 unfold C6 at aD
 dsimp only at aD
 refine Tr.forget (G3 (args:=[.agg #[.int .i64 aM,.int .i64 aN,.slice aF aO.length aJ]]) (fn:=Tryz.f103) rfl ?_)
 refine trV aD (W0b _ _ _ (l0 aK aL aB)) λx1 aD=>?_
 obtain rfl:=oJ aD
 exact aI rfl (Sub.refl _)
theorem H0b(h:Hp)(aY:List Value)(p0:j0)(cK:Y0.R h aY p0)(r:l7)(aX:S9 p0=some r):
  Tr Tryz.prog 376 #[.agg aY.toArray] h λv h'=>∃(a0:Option Addr) (n0 c0:Nat),v = .slice a0 n0 c0/\J0d.R h' [.slice a0 n0 c0] r/\Sub h h':=by
 obtain⟨bD,bE,aZ,bW,bA,aP,rfl,rfl,bX,bY,aQ⟩:=D0 cK
 obtain⟨rfl,bZ⟩:=Sl.len aQ
 unfold S9 at aX
 dsimp only at aX
 refine G3 (args:=[.agg #[.int .i64 bD,.int .i64 bE,.slice aZ aP.length bA]]) (fn:=Tryz.f376) rfl ?_
 obtain⟨X1,bF,aX⟩:=C0 aX
 refine eX { vars:=[4],boxes:=[],owns:=[0],fuel:=true } (eX (λvs os h'=>∃ u2 bB u3,vs.tail = [.int .i64 u2]/\os = [bB]/\Sub h h'/\P0 u2/\F2 (B4.R h') bB u3/\Z5 aP (N1 vs) u2 u3=some X1) (eX (λ_ _=>0) (aI (eX T0 ⟨0,[],([]:l7),rfl,rfl,(Sub.refl _),(by decide),(show F2 (B4.R h) ([]:List (List Value)) ([]:l7) from trivial),bF⟩) ?_)))
 rintro _ bB m5 k4 ⟨u2,cL,u3,⟨⟩,⟨⟩,bC,cQ,cC,aO⟩
 replace aO:Z5 aP m5 u2 u3=some X1:=aO
 obtain _|m5:=m5
 ·cases aO
 rw[Z5.eq_2]at aO
 refine ifB aO (λcM aO=>?_) λcM aO=>?_
 ·obtain⟨X7,bG,aO⟩:=C0 aO
  refine eX { vars:=[5],boxes:=[],owns:=[0],fuel:=true } (eX (λvs os h'=>∃ u8 aT u9,vs.tail = [.int .i64 u8]/\os = [aT]/\Sub k4 h'/\P0 u8/\F2 (B4.R h') aT u9/\V3 aP u2 (N1 vs) u8 u9=some X7) (eX (λ_ _=>0) (aI (eX T0 ⟨(IntKind.i64.wrap (u2+1)),bB,u3,rfl,rfl,(Sub.refl _),(J0 _),cC,bG⟩) ?_)))
  rintro _ aT aU aS ⟨u8,cN,u9,⟨⟩,⟨⟩,aV,cR,aR,aN⟩
  replace aN:V3 aP u2 aU u8 u9=some X7:=aN
  obtain _|aU:=aU
  ·cases aN
  rw[V3.eq_2]at aN
  refine ifB aN (λbH aN=>?_) λbH aN=>?_
  ·refine ld aN (M0.mono (bC.trans aV) aQ) λcS cD bI aN=>?_
   obtain⟨aD,cE,aB,rfl,rfl,aL,bJ,aJ⟩:=H1 bI
   try dsimp only at aN
   refine ld aN (M0.mono (bC.trans aV) aQ) λcT cI bK aN=>?_
   obtain⟨aF,cJ,aC,rfl,rfl,aM,bL,aK⟩:=H1 bK
   try dsimp only at aN
   refine ifB aN (λbM aN=>?_) λbM aN=>?_
   ·obtain⟨cU,bN,aN⟩:=C0 aN
    refine aI (E1 bN (by first|rw[F2.length aR,F2.length (show F2 (B4.R aS) ([[.int .i64 (if aC<aB then aC else aB),.int .i64 (if aC>aB then aC else aB)]]:List (List Value)) [((if aC<aB then aC else aB),(if aC>aB then aC else aB))] from⟨(U1 (Y6 aK aJ) (Y6 aK aJ)),trivial⟩)]|exact congrArg (·+1) (F2.length aR))) ?_
    refine ifB aN (λbO aN=>?_) λbO aN=>?_
    ·obtain⟨cV,bP,aN⟩:=C0 aN
     refine aI (E1 bP (by first|rw[F2.length (F2.append aR (show F2 (B4.R aS) ([[.int .i64 (if aC<aB then aC else aB),.int .i64 (if aC>aB then aC else aB)]]:List (List Value)) [((if aC<aB then aC else aB),(if aC>aB then aC else aB))] from⟨(U1 (Y6 aK aJ) (Y6 aK aJ)),trivial⟩)),F2.length (show F2 (B4.R aS) ([[.int .i64 (if aF<aD then aF else aD),.int .i64 (if aF>aD then aF else aD)]]:List (List Value)) [((if aF<aD then aF else aD),(if aF>aD then aF else aD))] from⟨(U1 (Y6 aM aL) (Y6 aM aL)),trivial⟩)]|exact congrArg (·+1) (F2.length (F2.append aR (show F2 (B4.R aS) ([[.int .i64 (if aC<aB then aC else aB),.int .i64 (if aC>aB then aC else aB)]]:List (List Value)) [((if aC<aB then aC else aB),(if aC>aB then aC else aB))] from⟨(U1 (Y6 aK aJ) (Y6 aK aJ)),trivial⟩))))) ?_
     exact T2 aU ⟨(IntKind.i64.wrap (u8+1)),((aT++([[.int .i64 (if aC<aB then aC else aB),.int .i64 (if aC>aB then aC else aB)]]:List (List Value)))++([[.int .i64 (if aF<aD then aF else aD),.int .i64 (if aF>aD then aF else aD)]]:List (List Value))),((u9 ++ [((if aC<aB then aC else aB),(if aC>aB then aC else aB))]) ++ [((if aF<aD then aF else aD),(if aF>aD then aF else aD))]),rfl,rfl,aV,(J0 _),(F2.append (F2.append aR (show F2 (B4.R aS) ([[.int .i64 (if aC<aB then aC else aB),.int .i64 (if aC>aB then aC else aB)]]:List (List Value)) [((if aC<aB then aC else aB),(if aC>aB then aC else aB))] from⟨(U1 (Y6 aK aJ) (Y6 aK aJ)),trivial⟩)) (show F2 (B4.R aS) ([[.int .i64 (if aF<aD then aF else aD),.int .i64 (if aF>aD then aF else aD)]]:List (List Value)) [((if aF<aD then aF else aD),(if aF>aD then aF else aD))] from⟨(U1 (Y6 aM aL) (Y6 aM aL)),trivial⟩)),aN⟩
    ·exact T2 aU ⟨(IntKind.i64.wrap (u8+1)),(aT++([[.int .i64 (if aC<aB then aC else aB),.int .i64 (if aC>aB then aC else aB)]]:List (List Value))),(u9 ++ [((if aC<aB then aC else aB),(if aC>aB then aC else aB))]),rfl,rfl,aV,(J0 _),(F2.append aR (show F2 (B4.R aS) ([[.int .i64 (if aC<aB then aC else aB),.int .i64 (if aC>aB then aC else aB)]]:List (List Value)) [((if aC<aB then aC else aB),(if aC>aB then aC else aB))] from⟨(U1 (Y6 aK aJ) (Y6 aK aJ)),trivial⟩)),aN⟩
   ·refine ifB aN (λbQ aN=>?_) λbQ aN=>?_
    ·obtain⟨cX,bR,aN⟩:=C0 aN
     refine aI (E1 bR (by first|rw[F2.length aR,F2.length (show F2 (B4.R aS) ([[.int .i64 (if aF<aD then aF else aD),.int .i64 (if aF>aD then aF else aD)]]:List (List Value)) [((if aF<aD then aF else aD),(if aF>aD then aF else aD))] from⟨(U1 (Y6 aM aL) (Y6 aM aL)),trivial⟩)]|exact congrArg (·+1) (F2.length aR))) ?_
     exact T2 aU ⟨(IntKind.i64.wrap (u8+1)),(aT++([[.int .i64 (if aF<aD then aF else aD),.int .i64 (if aF>aD then aF else aD)]]:List (List Value))),(u9 ++ [((if aF<aD then aF else aD),(if aF>aD then aF else aD))]),rfl,rfl,aV,(J0 _),(F2.append aR (show F2 (B4.R aS) ([[.int .i64 (if aF<aD then aF else aD),.int .i64 (if aF>aD then aF else aD)]]:List (List Value)) [((if aF<aD then aF else aD),(if aF>aD then aF else aD))] from⟨(U1 (Y6 aM aL) (Y6 aM aL)),trivial⟩)),aN⟩
    ·exact T2 aU ⟨(IntKind.i64.wrap (u8+1)),aT,u9,rfl,rfl,aV,(J0 _),aR,aN⟩
  ·obtain rfl:=oJ aN
   try dsimp only[U0,V0]at aO
   exact T2 m5 ⟨(IntKind.i64.wrap (u2+1)),aT,u9,rfl,rfl,(bC.trans aV),(J0 _),aR,aO⟩
 ·obtain rfl:=oJ aO
  try dsimp only[U0,V0]at aX
  intro cY cZ cO
  obtain⟨bS,bT,rfl,bU,bV,cP⟩:=Q0.out (r:=B4.toRp) cO cC
  obtain rfl:=oJ aX
  exact⟨bS,u3.length,bT,rfl,bU,(bC.trans bV)⟩
theorem T08(h:Hp)(aJ:List Value)(p0:j0)(aZ:Y0.R h aJ p0)(r:Q4×Bool)(aB:a8 p0=some r):
  Tr Tryz.prog 349 #[.agg aJ.toArray] h λv h'=>∃(aT:List Value),v = .tuple #[.agg aT.toArray,.bool r.2]/\B4.R h' aT r.1/\Sub h h':=by
 obtain⟨aO,aP,aK,aU,aL,aQ,rfl,rfl,aD,aF,aC⟩:=D0 aZ
 obtain⟨rfl,aV⟩:=Sl.len aC
 unfold a8 at aB
 dsimp only at aB
 refine G3 (args:=[.agg #[.int .i64 aO,.int .i64 aP,.slice aK aQ.length aL]]) (fn:=Tryz.f349) rfl ?_
 refine trV aB (B7 _ _ _ (l0 aD aF aC)) λx1 aB=>?_
 refine ifB aB (λbA aB=>?_) λbA aB=>?_
 ·obtain rfl:=oJ aB
  exact⟨([.int .i64 0,.int .i64 0]),rfl,(U1 (by decide) (by decide)),(Sub.refl _)⟩
 ·refine trM aB (H0b _ _ _ (l0 aD aF aC)) ?_
  rintro x3 aB v5 k4 ⟨bE,bF,bG,rfl,aX,aY⟩
  obtain⟨rfl,bH⟩:=Sl.len aX
  refine ifB aB (λbB aB=>?_) λbB aB=>?_
  ·obtain rfl:=oJ aB
   exact⟨([.int .i64 0,.int .i64 0]),rfl,(U1 (by decide) (by decide)),aY⟩
  ·refine ld aB aX λx7 bC bD aB=>?_
   obtain⟨aR,aS,rfl,rfl,aM,aN⟩:=T00 bD
   try dsimp only at aB
   obtain rfl:=oJ aB
   exact⟨([.int .i64 aR,.int .i64 aS]),rfl,(U1 aM aN),aY⟩
theorem P07(h:Hp)(p0:Int)(aP:P0 p0)(aC:List Value)(p1:Q4)(aL:B4.R h aC p1)(r:Int)(aB:g00 p0 p1=some r):
  Tr Tryz.prog 377 #[.int .i64 p0,.agg aC.toArray] h λv h'=>v = .int .i64 r/\h'=h:=by
 obtain⟨aD,aF,rfl,rfl,aJ,aK⟩:=T00 aL
 unfold g00 at aB
 dsimp only at aB
 refine Tr.forget (G3 (args:=[.int .i64 p0,.agg #[.int .i64 aD,.int .i64 aF]]) (fn:=Tryz.f377) rfl ?_)
 refine ifB aB (λaM aB=>?_) λaM aB=>?_
 ·refine ifB aB (λaN aB=>?_) λaN aB=>?_
  ·obtain rfl:=oJ aB
   exact aI rfl (Sub.refl _)
  ·obtain rfl:=oJ aB
   exact aI rfl (Sub.refl _)
 ·refine ifB aB (λaO aB=>?_) λaO aB=>?_
  ·obtain rfl:=oJ aB
   exact aI rfl (Sub.refl _)
  ·obtain rfl:=oJ aB
   exact aI rfl (Sub.refl _)
theorem y05(h:Hp)(aY:List Value)(p0:j0)(cV:Y0.R h aY p0)(aZ:List Value)(p1:Q4)(cX:B4.R h aZ p1)(r:j0×Bool)(aC:a6 p0 p1=some r):
  Tr Tryz.prog 350 #[.agg aY.toArray,.agg aZ.toArray] h λv h'=>∃(cJ:List Value),v = .tuple #[.agg cJ.toArray,.bool r.2]/\Y0.R h' cJ r.1/\Sub h h':=by
 obtain⟨bA,bB,bC,cK,bD,aP,rfl,rfl,aF,aL,aD⟩:=D0 cV
 obtain⟨rfl,cL⟩:=Sl.len aD
 obtain⟨aQ,aR,rfl,rfl,aM,aN⟩:=T00 cX
 unfold a6 at aC
 dsimp only at aC
 refine G3 (args:=[.agg #[.int .i64 bA,.int .i64 bB,.slice bC aP.length bD],.agg #[.int .i64 aQ,.int .i64 aR]]) (fn:=Tryz.f350) rfl ?_
 refine trV aC (B7 _ _ _ (l0 aF aL aD)) λx1 aC=>?_
 refine ifB aC (λcY aC=>?_) λcY aC=>?_
 ·refine trM aC (o6 _ _ _ (l0 aF aL aD)) ?_
  rintro x3 aC v5 k4 ⟨cZ,rfl,cM⟩
  have dA:Sub h k4:=cM.sub
  have dB:=cM.r
  obtain⟨bN,bO,bE,cN,bF,bP,rfl,rfl,bG,bH,aO⟩:=D0 dB
  obtain⟨rfl,cO⟩:=Sl.len aO
  try dsimp only at aC
  obtain rfl:=oJ aC
  exact⟨([.int .i64 bN,.int .i64 bO,.slice bE bP.length bF]),rfl,(l0 bG bH aO),dA⟩
 ·obtain⟨X6,bQ,aC⟩:=C0 aC
  refine eX { vars:=[7],boxes:=[3],owns:=[],fuel:=true } (eX (λvs os h'=>∃ u7 u8 u9 aJ aS aK bI,vs.tail = [.int .i64 u7,.int .i64 u8,.int .i64 u9,.slice aJ aS aK]/\os = []/\Sub h h'/\P0 u7/\P0 u8/\P0 u9/\M0.R h' [.slice aJ aS aK] bI/\f4 aP aQ aR (N1 vs) u7 u8 u9 bI=some X6) (eX (λ_ _=>0) (aI (eX T0 ⟨0,bA,(IntKind.i64.wrap (bB-1)),none,0,0,[],rfl,rfl,(Sub.refl _),(by decide),aF,(J0 _),(C0l K1 h),bQ⟩) ?_)))
  rintro _ _ _ _ bM dF ⟨u7,u8,u9,aJ,aS,aK,bI,⟨⟩,⟨⟩,bR,dG,cP,cQ,aT,aB⟩
  replace aB:f4 aP aQ aR bM u7 u8 u9 bI=some X6:=aB
  obtain _|bM:=bM
  ·cases aB
  rw[f4.eq_2]at aB
  obtain⟨rfl,dC⟩:=Sl.len aT
  refine ifB aB (λbS aB=>?_) λbS aB=>?_
  ·refine ld aB (M0.mono bR aD) λdH cR bT aB=>?_
   obtain⟨cS,bJ,cT,rfl,rfl,aU,aV,aX⟩:=H1 bT
   try dsimp only at aB
   refine Or.inr (Or.inr (Or.inl (aI (aI (by kernel_rfl) (by kernel_rfl)) ?_)))
   obtain⟨bU,bV,aB⟩:=C0 aB
   obtain⟨dI,bW,aB⟩:=C0 aB
   have bX:P0 bU:=Y2 bW
   refine Or.inl (eX (.val (.int .i64 bU)) (aI ?_ ?_))
   ·intro dJ dK
    exact Tr.val (P07 _ _ aU _ _ (U1 aM aN) _ bV) (aI rfl (aI rfl rfl))
   obtain⟨bY,bZ,aB⟩:=C0 aB
   obtain⟨dL,cC,aB⟩:=C0 aB
   have cD:P0 bY:=Y2 cC
   refine Or.inl (eX (.val (.int .i64 bY)) (aI ?_ ?_))
   ·intro dM dN
    exact Tr.val (P07 _ _ aX _ _ (U1 aM aN) _ bZ) (aI rfl (aI rfl rfl))
   refine Or.inl (eX (.agg [.val (.int .i64 bU),.val (.int .i64 bJ),.val (.int .i64 bY)]) (aI ?_ ?_))
   ·intro dO dP
    exact aI rfl (aI rfl rfl)
   refine Or.inr ?_
   refine Or.inr ?_
   refine Or.inl (eX 1 (aI (aI rfl rfl) ?_))
   refine trM aB (O07 _ _ _ _ _ aT _ _ (Q1 bX aV cD)) ?_
   rintro cU aB dQ dR ⟨cE,dD,cI,rfl,bK,bL⟩
   obtain⟨rfl,dE⟩:=Sl.len bK
   refine aI (aI rfl bL) (aI (by first|exact trivial|exact rfl) ?_)
   refine aI trivial (aI (by first|exact trivial|exact rfl) ?_)
   exact T2 bM ⟨(IntKind.i64.wrap (u7+1)),u8,u9,cE,cU.length,cI,cU,rfl,rfl,(bR.trans bL),(J0 _),cP,cQ,bK,aB⟩
  ·obtain rfl:=oJ aB
   try dsimp only[U0,V0]at aC
   obtain rfl:=oJ aC
   exact⟨([.int .i64 u8,.int .i64 u9,.slice aJ bI.length aK]),rfl,(l0 cP cQ aT),bR⟩
theorem z09(h:Hp)(aZ:List Value)(p0:j0)(bY:Y0.R h aZ p0)(r:j0×Q4×Bool)(aB:o9 p0=some r):
  Tr Tryz.prog 338 #[.agg aZ.toArray] h λv h'=>∃(bR:List Value) (bS:List Value),v = .tuple #[.agg bR.toArray,.agg bS.toArray,.bool r.2.2]/\Y0.R h' bR r.1/\B4.R h' bS r.2.1/\Sub h h':=by
 obtain⟨bJ,bK,bA,bT,bB,bL,rfl,rfl,aK,aL,aC⟩:=D0 bY
 obtain⟨rfl,bU⟩:=Sl.len aC
 unfold o9 at aB
 dsimp only at aB
 refine G3 (args:=[.agg #[.int .i64 bJ,.int .i64 bK,.slice bA bL.length bB]]) (fn:=Tryz.f338) rfl ?_
 refine trM aB (T08 _ _ _ (l0 aK aL aC)) ?_
 rintro x1 aB v3 k2 ⟨bM,rfl,aQ,bG⟩
 obtain⟨bZ,cC⟩:=x1
 dsimp only at aB aQ
 obtain⟨aT,aU,rfl,rfl,aD,aF⟩:=T00 aQ
 try dsimp only at aB
 refine ifB aB (λcD aB=>?_) λcD aB=>?_
 ·refine trM aB (o6 _ _ _ (l0 aK aL (M0.mono bG aC))) ?_
  rintro x5 aB v7 k6 ⟨cE,rfl,bV⟩
  have cI:Sub k2 k6:=bV.sub
  have cJ:=bV.r
  obtain⟨bN,bO,bC,bW,bD,bP,rfl,rfl,bE,bF,aR⟩:=D0 cJ
  obtain⟨rfl,bX⟩:=Sl.len aR
  try dsimp only at aB
  obtain rfl:=oJ aB
  exact⟨([.int .i64 bN,.int .i64 bO,.slice bC bP.length bD]),([.int .i64 0,.int .i64 0]),rfl,(l0 bE bF aR),(U1 (by decide) (by decide)),(bG.trans cI)⟩
 ·refine trM aB (y05 _ _ _ (l0 aK aL (M0.mono bG aC)) _ _ (U1 aD aF)) ?_
  rintro x8 aB cN k9 ⟨bQ,rfl,aS,cK⟩
  obtain⟨cL,cM⟩:=x8
  dsimp only at aB aS
  obtain⟨aV,aX,aM,bH,aN,aY,rfl,rfl,aO,aP,aJ⟩:=D0 aS
  obtain⟨rfl,bI⟩:=Sl.len aJ
  try dsimp only at aB
  refine Or.inr (Or.inr (Or.inl (aI (aI (by kernel_rfl) (by kernel_rfl)) ?_)))
  refine Or.inr ?_
  refine Or.inr ?_
  refine Or.inl (eX 0 (aI (aI rfl rfl) ?_))
  refine aI trivial (aI (by first|exact trivial|exact rfl) ?_)
  refine aI trivial (aI (by first|exact trivial|exact rfl) ?_)
  obtain rfl:=oJ aB
  exact⟨([.int .i64 aV,.int .i64 aX,.slice aM aY.length aN]),([.int .i64 aT,.int .i64 aU]),rfl,(l0 aO aP aJ),(U1 aD aF),(bG.trans cK)⟩
theorem I0b(h:Hp)(aZ:List Value)(p0:j0)(dF:Y0.R h aZ p0)(r:j0×l7)(aN:T9 p0=some r):
  Tr Tryz.prog 310 #[.agg aZ.toArray] h λv h'=>∃(cT:List Value) (a1:Option Addr) (n1 c1:Nat),v = .tuple #[.agg cT.toArray,.slice a1 n1 c1]/\Y0.R h' cT r.1/\J0d.R h' [.slice a1 n1 c1] r.2/\Sub h h':=by
 obtain⟨bV,bW,bA,cU,bB,bX,rfl,rfl,bC,bD,aX⟩:=D0 dF
 obtain⟨rfl,cV⟩:=Sl.len aX
 unfold T9 at aN
 dsimp only at aN
 refine G3 (args:=[.agg #[.int .i64 bV,.int .i64 bW,.slice bA bX.length bB]]) (fn:=Tryz.f310) rfl ?_
 refine trM aN (o6 _ _ _ (l0 bC bD aX)) ?_
 rintro x1 aN v3 k2 ⟨dG,rfl,cX⟩
 have cY:Sub h k2:=cX.sub
 have dH:=cX.r
 obtain⟨bY,bZ,bE,cZ,bF,bG,rfl,rfl,bH,bI,aY⟩:=D0 dH
 obtain⟨rfl,dA⟩:=Sl.len aY
 try dsimp only at aN
 obtain⟨X4,cC,aN⟩:=C0 aN
 refine eX { vars:=[6],boxes:=[2],owns:=[0],fuel:=true } (eX (λvs os h'=>∃ u5 u6 u7 bJ cD bK u8 bQ u9,vs.tail = [.int .i64 u5,.int .i64 u6,.int .i64 u7,.slice bJ cD bK]/\os = [bQ]/\Sub k2 h'/\P0 u5/\P0 u6/\P0 u7/\M0.R h' [.slice bJ cD bK] u8/\F2 (B4.R h') bQ u9/\o5 (N1 vs) u5 u6 u7 u8 u9=some X4) (eX (λ_ _=>0) (aI (eX T0 ⟨0,bY,bZ,bE,bG.length,bF,bG,[],([]:l7),rfl,rfl,(Sub.refl _),(by decide),bH,bI,aY,(show F2 (B4.R k2) ([]:List (List Value)) ([]:l7) from trivial),cC⟩) ?_)))
 rintro _ _ _ _ bQ bR dN ⟨u5,u6,u7,bJ,cD,bK,u8,dI,u9,⟨⟩,⟨⟩,cE,dO,cI,cJ,bS,bL,aD⟩
 replace aD:o5 bR u5 u6 u7 u8 u9=some X4:=aD
 obtain _|bR:=bR
 ·cases aD
 rw[o5.eq_2]at aD
 obtain⟨rfl,dP⟩:=Sl.len bS
 refine ifB aD (λcK aD=>?_) λcK aD=>?_
 ·refine trM aD (z09 _ _ _ (l0 cI cJ bS)) ?_
  rintro dJ aD dQ dB ⟨bT,bU,rfl,aO,aP,aL⟩
  obtain⟨dC,dD,dE⟩:=dJ
  dsimp only at aD aO aP
  obtain⟨aU,aV,aQ,bM,aR,aM,rfl,rfl,aS,aT,aF⟩:=D0 aO
  obtain⟨rfl,bN⟩:=Sl.len aF
  try dsimp only at aD
  obtain⟨aB,aC,rfl,rfl,aJ,aK⟩:=T00 aP
  try dsimp only at aD
  refine ifB aD (λcL aD=>?_) λcL aD=>?_
  ·intro dR dS dK
   obtain⟨cM,cN,rfl,cO,bO,dL⟩:=Q0.out (r:=B4.toRp) dK (F2.up (r:=B4.toRp) aL bL)
   obtain rfl:=oJ aD
   try dsimp only[t6,w6]at aN
   obtain rfl:=oJ aN
   exact⟨([.int .i64 u6,.int .i64 u7,.slice bJ u8.length bK]),cM,u9.length,cN,rfl,(l0 cI cJ (M0.mono (aL.trans bO) bS)),cO,(((cY.trans cE).trans aL).trans bO)⟩
  ·obtain⟨dT,cP,aD⟩:=C0 aD
   refine aI (E1 cP (by first|rw[F2.length (F2.up (r:=B4.toRp) aL bL),F2.length (show F2 (B4.R dB) ([[.int .i64 aB,.int .i64 aC]]:List (List Value)) [(aB,aC)] from⟨(U1 aJ aK),trivial⟩)]|exact congrArg (·+1) (F2.length (F2.up (r:=B4.toRp) aL bL)))) ?_
   exact T2 bR ⟨(IntKind.i64.wrap (u5+1)),aU,aV,aQ,aM.length,aR,aM,(bQ++([[.int .i64 aB,.int .i64 aC]]:List (List Value))),(u9 ++ [(aB,aC)]),rfl,rfl,(cE.trans aL),(J0 _),aS,aT,aF,(F2.append (F2.up (r:=B4.toRp) aL bL) (show F2 (B4.R dB) ([[.int .i64 aB,.int .i64 aC]]:List (List Value)) [(aB,aC)] from⟨(U1 aJ aK),trivial⟩)),aD⟩
 ·obtain rfl:=oJ aD
  try dsimp only[U0,V0]at aN
  intro dU dV f24
  obtain⟨cQ,cR,rfl,cS,bP,dM⟩:=Q0.out (r:=B4.toRp) f24 bL
  obtain rfl:=oJ aN
  exact⟨([.int .i64 u6,.int .i64 u7,.slice bJ u8.length bK]),cQ,u9.length,cR,rfl,(l0 cI cJ (M0.mono bP bS)),cS,((cY.trans cE).trans bP)⟩
theorem U08(h:Hp)(cC:List Value)(p0:j0)(eK:Y0.R h cC p0)(r:j0×B0)(aF:S8 p0=some r):
  Tr Tryz.prog 311 #[.agg cC.toArray] h λv h'=>∃(dZ:List Value) (a1:Option Addr) (n1 c1:Nat),v = .tuple #[.agg dZ.toArray,.slice a1 n1 c1]/\Y0.R h' dZ r.1/\N0.R h' [.slice a1 n1 c1] r.2/\Sub h h':=by
 obtain⟨aM,aN,cD,eA,cE,aO,rfl,rfl,aP,aQ,aJ⟩:=D0 eK
 obtain⟨rfl,eB⟩:=Sl.len aJ
 unfold S8 at aF
 dsimp only at aF
 refine G3 (args:=[.agg #[.int .i64 aM,.int .i64 aN,.slice cD aO.length cE]]) (fn:=Tryz.f311) rfl ?_
 refine trM aF (o6 _ _ _ (l0 aP aQ aJ)) ?_
 rintro x1 aF v3 k2 ⟨eM,rfl,eC⟩
 have cY:Sub h k2:=eC.sub
 have eN:=eC.r
 obtain⟨dE,dF,cI,eD,cJ,cK,rfl,rfl,cL,cM,bO⟩:=D0 eN
 obtain⟨rfl,eE⟩:=Sl.len bO
 try dsimp only at aF
 obtain⟨X4,dG,aF⟩:=C0 aF
 refine eX { vars:=[6],boxes:=[],owns:=[0],fuel:=true } (eX (λvs os h'=>∃ u5 cZ u6,vs.tail = [.int .i64 u5]/\os = [cZ]/\Sub k2 h'/\P0 u5/\F2 (Wp.int.R h') cZ u6/\c5 aN aM aO (N1 vs) u5 u6=some X4) (eX (λ_ _=>0) (aI (eX T0 ⟨0,[],([]:B0),rfl,rfl,(Sub.refl _),(by decide),(show F2 (Wp.int.R k2) ([]:List (List Value)) ([]:B0) from trivial),dG⟩) ?_)))
 rintro _ cZ m8 k7 ⟨u5,eO,u6,⟨⟩,⟨⟩,bV,eF,dA,aB⟩
 replace aB:c5 aN aM aO m8 u5 u6=some X4:=aB
 obtain _|m8:=m8
 ·cases aB
 rw[c5.eq_2]at aB
 refine trG aB (λq=>B7 _ _ _ (l0 aP aQ (M0.mono (cY.trans bV) aJ))) λx9 aB=>?_
 refine ifB aB (λdH aB=>?_) λdH aB=>?_
 ·obtain⟨fE,dI,aB⟩:=C0 aB
  refine aI (E1 dI (by first|rw[F2.length dA,F2.length (show F2 (Wp.int.R k7) ([[.int .i64 u5]]:List (List Value)) [u5] from⟨⟨rfl,eF⟩,trivial⟩)]|exact congrArg (·+1) (F2.length dA))) ?_
  exact T2 m8 ⟨(IntKind.i64.wrap (u5+1)),(cZ++([[.int .i64 u5]]:List (List Value))),(u6 ++ [u5]),rfl,rfl,bV,(J0 _),(F2.append dA (show F2 (Wp.int.R k7) ([[.int .i64 u5]]:List (List Value)) [u5] from⟨⟨rfl,eF⟩,trivial⟩)),aB⟩
 ·obtain rfl:=oJ aB
  try dsimp only[U0,V0]at aF
  obtain⟨X16,cN,aF⟩:=C0 aF
  refine eX { vars:=[5,7],boxes:=[2],owns:=[],fuel:=true,pubs:=[5] } (eX (λvs os h'=>∃(aR:Option Addr) (bR aS:Nat) (bP:B0) (bW:Int) (bS:Int) (bH:Int) (aT:Option Addr) (bT aU:Nat) (bX:O0),vs.tail = [.slice aR bR aS,.int .i64 bW,.int .i64 bS,.int .i64 bH,.slice aT bT aU]/\os = []/\Sub k7 h'/\N0.R h' [.slice aR bR aS] bP/\P0 bW/\P0 bS/\P0 bH/\M0.R h' [.slice aT bT aU] bX/\a5 aM aN aO (N1 vs) bP bW bS bH bX=some X16) (eX (λ_ _=>0) ?_))
  intro fF fH eP
  obtain⟨dJ,dK,rfl,dL,cO,eQ⟩:=Q0.out (r:=Wp.int.toRp) eP dA
  refine aI (eX T0 ⟨dJ,u6.length,dK,u6,0,dE,dF,cI,cK.length,cJ,cK,rfl,rfl,cO,dL,(by decide),cL,cM,(M0.mono (bV.trans cO) bO),cN⟩) ?_
  rintro _ _ _ _ _ dB dM ⟨aR,bR,aS,bP,bW,bS,bH,aT,bT,aU,bX,⟨⟩,⟨⟩,bI,bJ,eR,bK,bL,aV,aB⟩
  replace aB:a5 aM aN aO dB bP bW bS bH bX=some X16:=aB
  obtain _|dB:=dB
  ·cases aB
  rw[a5.eq_2]at aB
  obtain⟨rfl,eT⟩:=Sl.len bJ
  obtain⟨rfl,eU⟩:=Sl.len aV
  refine trG aB (λq=>B7 _ _ _ (l0 aP aQ (M0.mono ((cY.trans bV).trans bI) aJ))) λfI aB=>?_
  refine ifB aB (λdN aB=>?_) λdN aB=>?_
  ·refine trV aB (j06 _ _ _ (l0 bK bL aV)) λdO aB=>?_
   obtain⟨fJ,dP,aB⟩:=C0 aB
   have eV:P0 dO:=Y2 dP
   refine ifB aB (λdQ aB=>?_) λdQ aB=>?_
   ·obtain rfl:=oJ aB
    try dsimp only[t6,w6]at aF
    obtain rfl:=oJ aF
    exact⟨([.int .i64 bS,.int .i64 bH,.slice aT bX.length aU]),aR,bP.length,aS,rfl,(l0 bK bL aV),bJ,((cY.trans bV).trans bI)⟩
   ·obtain⟨X29,cP,aB⟩:=C0 aB
    refine eX { vars:=[11],boxes:=[],owns:=[1,2],fuel:=true } (eX (λvs os h'=>∃ aL aX bY aY bQ,vs.tail = [.int .i64 aL]/\os = [aX,aY]/\Sub dM h'/\P0 aL/\F2 (Wp.int.R h') aX bY/\F2 (Wp.int.R h') aY bQ/\L4 bH dO bP (N1 vs) aL bY bQ=some X29) (eX (λ_ _=>0) (aI (eX T0 ⟨0,[],([]:B0),[],([]:B0),rfl,rfl,(Sub.refl _),(by decide),(show F2 (Wp.int.R dM) ([]:List (List Value)) ([]:B0) from trivial),(show F2 (Wp.int.R dM) ([]:List (List Value)) ([]:B0) from trivial),cP⟩) ?_)))
    rintro _ aX aY cQ dC ⟨aL,eG,bY,eH,bQ,⟨⟩,⟨⟩,aZ,cR,bA,bB,aC⟩
    replace aC:L4 bH dO bP cQ aL bY bQ=some X29:=aC
    obtain _|cQ:=cQ
    ·cases aC
    rw[L4.eq_2]at aC
    refine ifB aC (λdR aC=>?_) λdR aC=>?_
    ·refine ifB aC (λdS aC=>?_) λdS aC=>?_
     ·obtain⟨fK,dT,aC⟩:=C0 aC
      refine aI (E1 dT (by first|rw[F2.length bA,F2.length (show F2 (Wp.int.R dC) ([[.int .i64 aL]]:List (List Value)) [aL] from⟨⟨rfl,cR⟩,trivial⟩)]|exact congrArg (·+1) (F2.length bA))) ?_
      refine ldI aC (N0.mono aZ bJ) λbZ cS aC=>?_
      obtain⟨fL,dU,aC⟩:=C0 aC
      refine aI (E1 dU (by first|rw[F2.length bB,F2.length (show F2 (Wp.int.R dC) ([[.int .i64 bZ]]:List (List Value)) [bZ] from⟨⟨rfl,cS⟩,trivial⟩)]|exact congrArg (·+1) (F2.length bB))) ?_
      exact T2 cQ ⟨(IntKind.i64.wrap (aL+1)),(aX++([[.int .i64 aL]]:List (List Value))),(bY ++ [aL]),(aY++([[.int .i64 bZ]]:List (List Value))),(bQ ++ [bZ]),rfl,rfl,aZ,(J0 _),(F2.append bA (show F2 (Wp.int.R dC) ([[.int .i64 aL]]:List (List Value)) [aL] from⟨⟨rfl,cR⟩,trivial⟩)),(F2.append bB (show F2 (Wp.int.R dC) ([[.int .i64 bZ]]:List (List Value)) [bZ] from⟨⟨rfl,cS⟩,trivial⟩)),aC⟩
     ·exact T2 cQ ⟨(IntKind.i64.wrap (aL+1)),aX,bY,aY,bQ,rfl,rfl,aZ,(J0 _),bA,bB,aC⟩
    ·obtain rfl:=oJ aC
     try dsimp only[U0,V0]at aB
     refine Or.inl ?_
     intro fM fN eW
     obtain⟨eY,eZ,rfl,dV,bU,fA⟩:=Q0.out (r:=Wp.int.toRp) eW bA
     refine trM aB (Y9 _ _ _ (l0 bK bL (M0.mono (aZ.trans bU) aV)) _ _ _ _ dV) ?_
     rintro fB aB fO fP ⟨dD,rfl,bC,cT⟩
     obtain⟨eI,eJ⟩:=fB
     dsimp only at aB bC
     obtain⟨bM,bN,bD,cU,bE,aK,rfl,rfl,bF,bG,aD⟩:=D0 bC
     obtain⟨rfl,cV⟩:=Sl.len aD
     try dsimp only at aB
     intro fQ fR fC
     obtain⟨dW,dX,rfl,dY,cX,fD⟩:=Q0.out (r:=Wp.int.toRp) fC (F2.up (r:=Wp.int.toRp) (bU.trans cT) bB)
     exact T2 dB ⟨dW,bQ.length,dX,bQ,(IntKind.i64.wrap (bW+1)),bM,bN,bD,aK.length,bE,aK,rfl,rfl,((((bI.trans aZ).trans bU).trans cT).trans cX),dY,(J0 _),bF,bG,(M0.mono cX aD),aB⟩
  ·obtain rfl:=oJ aB
   try dsimp only[U0,V0]at aF
   obtain rfl:=oJ aF
   exact⟨([.int .i64 bS,.int .i64 bH,.slice aT bX.length aU]),aR,bP.length,aS,rfl,(l0 bK bL aV),bJ,((cY.trans bV).trans bI)⟩
theorem V08(h:Hp)(aS:List Value)(p0:j0)(cQ:Y0.R h aS p0)(r:j0)(aB:T8 p0=some r):
  Tr Tryz.prog 242 #[.agg aS.toArray] h λv h'=>∃(bY:List Value),v = .agg bY.toArray/\Y0.R h' bY r/\Sub h h':=by
 obtain⟨bK,bL,aT,bZ,aU,bM,rfl,rfl,aV,aX,aM⟩:=D0 cQ
 obtain⟨rfl,cC⟩:=Sl.len aM
 unfold T8 at aB
 dsimp only at aB
 refine G3 (args:=[.agg #[.int .i64 bK,.int .i64 bL,.slice aT bM.length aU]]) (fn:=Tryz.f242) rfl ?_
 refine trM aB (I0b _ _ _ (l0 aV aX aM)) ?_
 rintro x1 aB v3 k2 ⟨bN,cD,cE,cI,rfl,aN,aO,cR⟩
 obtain⟨cS,cT⟩:=x1
 dsimp only at aB aN aO
 obtain⟨bO,bP,bC,bD,bE,bQ,rfl,rfl,aF,aJ,aC⟩:=D0 aN
 obtain⟨rfl,bF⟩:=Sl.len aC
 try dsimp only at aB
 obtain⟨rfl,cJ⟩:=Sl.len aO
 refine trM aB (U08 _ _ _ (l0 aF aJ aC)) ?_
 rintro x4 aB v6 k5 ⟨bR,cK,cL,cM,rfl,aP,aQ,cU⟩
 obtain⟨cV,cX⟩:=x4
 dsimp only at aB aP aQ
 obtain⟨bS,bT,bG,bH,bI,bU,rfl,rfl,aK,aL,aD⟩:=D0 aP
 obtain⟨rfl,bJ⟩:=Sl.len aD
 try dsimp only at aB
 obtain⟨rfl,cN⟩:=Sl.len aQ
 refine trM aB (k01 _ _ _ (l0 aK aL aD)) ?_
 rintro x7 aB v9 k8 ⟨cY,rfl,cZ,dA⟩
 obtain⟨bV,bW,aY,cO,aZ,bX,rfl,rfl,bA,bB,aR⟩:=D0 cZ
 obtain⟨rfl,cP⟩:=Sl.len aR
 try dsimp only at aB
 obtain rfl:=oJ aB
 exact⟨([.int .i64 bV,.int .i64 bW,.slice aY bX.length aZ]),rfl,(l0 bA bB aR),((cR.trans cU).trans dA)⟩
theorem A04(h:Hp)(aV:List Value)(p0:j0)(dA:Y0.R h aV p0)(p1:Int)(cN:P0 p1)(r:j0×Bool)(aB:D8 p0 p1=some r):
  Tr Tryz.prog 253 #[.agg aV.toArray,.int .i64 p1] h λv h'=>∃(cO:List Value),v = .tuple #[.agg cO.toArray,.bool r.2]/\Y0.R h' cO r.1/\Sub h h':=by
 obtain⟨bT,aP,aX,cP,aY,bU,rfl,rfl,aJ,aK,aF⟩:=D0 dA
 obtain⟨rfl,cQ⟩:=Sl.len aF
 unfold D8 at aB
 dsimp only at aB
 refine G3 (args:=[.agg #[.int .i64 bT,.int .i64 aP,.slice aX bU.length aY],.int .i64 p1]) (fn:=Tryz.f253) rfl ?_
 refine trV aB (x00 _ _ _ (l0 aJ aK aF)) λx1 aB=>?_
 refine trG aB (λq=>Y7 _ _ cN 0 (by decide) (IntKind.i64.wrap (aP-1)) (J0 _)) λx2 aB=>?_
 refine ifB aB (λdB aB=>?_) λdB aB=>?_
 ·refine trM aB (o6 _ _ _ (l0 aJ aK aF)) ?_
  rintro x4 aB v6 k5 ⟨dC,rfl,cR⟩
  have dD:Sub h k5:=cR.sub
  have dE:=cR.r
  obtain⟨bV,bW,aZ,cS,bA,bX,rfl,rfl,bB,bC,aQ⟩:=D0 dE
  obtain⟨rfl,cT⟩:=Sl.len aQ
  try dsimp only at aB
  obtain rfl:=oJ aB
  exact⟨([.int .i64 bV,.int .i64 bW,.slice aZ bX.length bA]),rfl,(l0 bB bC aQ),dD⟩
 ·obtain⟨X7,bY,aB⟩:=C0 aB
  refine eX { vars:=[7],boxes:=[],owns:=[0],fuel:=true } (eX (λvs os h'=>∃ u8 bD u9,vs.tail = [.int .i64 u8]/\os = [bD]/\Sub h h'/\P0 u8/\F2 (Wp.int.R h') bD u9/\j4 aP p1 (N1 vs) u8 u9=some X7) (eX (λ_ _=>0) (aI (eX T0 ⟨0,([[.int .i64 p1]]:List (List Value)),[p1],rfl,rfl,(Sub.refl _),(by decide),(show F2 (Wp.int.R h) ([[.int .i64 p1]]:List (List Value)) [p1] from⟨⟨rfl,cN⟩,trivial⟩),bY⟩) ?_)))
  rintro _ bD bE cU ⟨u8,dF,u9,⟨⟩,⟨⟩,bO,cV,bF,aD⟩
  replace aD:j4 aP p1 bE u8 u9=some X7:=aD
  obtain _|bE:=bE
  ·cases aD
  rw[j4.eq_2]at aD
  refine ifB aD (λbZ aD=>?_) λbZ aD=>?_
  ·refine ifB aD (λcC aD=>?_) λcC aD=>?_
   ·obtain⟨dL,cD,aD⟩:=C0 aD
    refine aI (E1 cD (by first|rw[F2.length bF,F2.length (show F2 (Wp.int.R cU) ([[.int .i64 u8]]:List (List Value)) [u8] from⟨⟨rfl,cV⟩,trivial⟩)]|exact congrArg (·+1) (F2.length bF))) ?_
    exact T2 bE ⟨(IntKind.i64.wrap (u8+1)),(bD++([[.int .i64 u8]]:List (List Value))),(u9 ++ [u8]),rfl,rfl,bO,(J0 _),(F2.append bF (show F2 (Wp.int.R cU) ([[.int .i64 u8]]:List (List Value)) [u8] from⟨⟨rfl,cV⟩,trivial⟩)),aD⟩
   ·exact T2 bE ⟨(IntKind.i64.wrap (u8+1)),bD,u9,rfl,rfl,bO,(J0 _),bF,aD⟩
  ·obtain rfl:=oJ aD
   try dsimp only[U0,V0]at aB
   refine Or.inl ?_
   intro dM dN dG
   obtain⟨dH,dI,rfl,cE,bG,dJ⟩:=Q0.out (r:=Wp.int.toRp) dG bF
   refine trM aB (Y9 _ _ _ (l0 aJ aK (M0.mono (bO.trans bG) aF)) _ _ _ _ cE) ?_
   rintro dK aB dO dP ⟨bP,rfl,aL,cI⟩
   obtain⟨cX,cY⟩:=dK
   dsimp only at aB aL
   obtain⟨bQ,bR,bH,bI,bJ,bS,rfl,rfl,aM,aN,aC⟩:=D0 aL
   obtain⟨rfl,bK⟩:=Sl.len aC
   try dsimp only at aB
   refine trM aB (V08 _ _ _ (l0 aM aN aC)) ?_
   rintro dQ aB dR dS ⟨cZ,rfl,cJ,cK⟩
   obtain⟨bL,bM,aR,cL,aS,bN,rfl,rfl,aT,aU,aO⟩:=D0 cJ
   obtain⟨rfl,cM⟩:=Sl.len aO
   try dsimp only at aB
   obtain rfl:=oJ aB
   exact⟨([.int .i64 bL,.int .i64 bM,.slice aR bN.length aS]),rfl,(l0 aT aU aO),(((bO.trans bG).trans cI).trans cK)⟩
set_option maxHeartbeats 0
theorem A09(h:Hp)(bN:List Value)(p0:j0)(gB:Y0.R h bN p0)(p1:Int)(gC:P0 p1)(r:(List Bool)×Q6)(aF:r9 p0 p1=some r):
  Tr Tryz.prog 343 #[.agg bN.toArray,.int .i64 p1] h λv h'=>∃(a0:Option Addr) (n0 c0:Nat) (a1:Option Addr) (n1 c1:Nat),v = .tuple #[.slice a0 n0 c0,.slice a1 n1 c1]/\(Wp.slice Wp.bool).R h' [.slice a0 n0 c0] r.1/\l8.R h' [.slice a1 n1 c1] r.2/\Sub h h':=by
 obtain⟨aQ,aC,bO,fH,bP,aR,rfl,rfl,bB,bQ,bC⟩:=D0 gB
 obtain⟨rfl,fI⟩:=Sl.len bC
 unfold r9 at aF
 dsimp only at aF
 refine G3 (args:=[.agg #[.int .i64 aQ,.int .i64 aC,.slice bO aR.length bP],.int .i64 p1]) (fn:=Tryz.f343) rfl ?_
 obtain⟨q1,gD,aF⟩:=C0 aF
 refine aI (Y2 gD) ?_
 obtain⟨q2,gE,aF⟩:=C0 aF
 refine aI (Y2 gE) ?_
 obtain⟨x3,gF,aF⟩:=C0 aF
 obtain⟨gG,gH,gI,gJ⟩:=E3 (F2.rep (p:=Wp.bool.R h) (a:=[.bool false]) (b:=false) rfl (aC.toNat)) gF
 refine aI gG ?_
 obtain rfl:=gJ
 refine eX _ (aI gI ?_)
 obtain⟨x4,gK,aF⟩:=C0 aF
 obtain⟨gL,gM,gN,fJ⟩:=E3 (F2.rep (p:=N0.R h) (a:=[.slice none 0 0]) (b:=[]) (C0l Wp.int h) (aC.toNat)) gK
 refine aI gL ?_
 obtain⟨iT,iU,iV,rfl⟩:=Wp.slice_cell fJ
 obtain⟨rfl,iW⟩:=Sl.len fJ
 intro v5 k6 f7
 obtain⟨fK,fL,rfl,gO,cV,iX⟩:=Q0.out (r:=Wp.int.toRp) f7 (show F2 (Wp.int.R h) ([]:List (List Value)) ([]:B0) from trivial)
 refine eX _ (aI gN ?_)
 refine trM aF (w01 _ _ bB) ?_
 rintro x9 aF iY gP ⟨gQ,iZ,gR,rfl,cZ,bR⟩
 obtain⟨rfl,jA⟩:=Sl.len cZ
 obtain⟨X12,bS,aF⟩:=C0 aF
 refine eX { vars:=[10],boxes:=[],owns:=[0,1,3],fuel:=true,kept:=[0,1] } (eX (λvs os h'=>∃ bD aY bL aZ bM aS bT,vs.tail = [.int .i64 bD]/\os = [aY,aZ,aS]/\Sub gP h'/\P0 bD/\F2 (Wp.bool.R h') aY bL/\F2 (N0.R h') aZ bM/\F2 (Wp.int.R h') aS bT/\E6 x9 aQ aC aR (N1 vs) bD bL bM bT=some X12) (eX (λ_ _=>0) (aI (eX T0 ⟨0,((List.replicate aC.toNat ([.bool false]:List Value)).set p1.toNat [.bool true]),((List.replicate aC.toNat (false:Bool)).set p1.toNat true),((List.replicate aC.toNat ([.slice none 0 0]:List Value)).set p1.toNat [.slice fK (([]:B0)).length fL]),((List.replicate aC.toNat ([]:B0)).set p1.toNat ([]:B0)),([[.int .i64 p1]]:List (List Value)),[p1],rfl,rfl,(Sub.refl _),(by decide),(F2.up (r:=Wp.bool.toRp) (cV.trans bR) (F2.set (p:=Wp.bool.R h) (a:=[.bool true]) (b:=true) rfl p1.toNat (F2.rep (p:=Wp.bool.R h) (a:=[.bool false]) (b:=false) rfl (aC.toNat)))),(F2.up (r:=N0.toRp) bR (F2.set (p:=N0.R k6) (a:=[.slice fK (([]:B0)).length fL]) (b:=([]:B0)) gO p1.toNat (F2.up (r:=N0.toRp) cV (F2.rep (p:=N0.R h) (a:=[.slice none 0 0]) (b:=[]) (C0l Wp.int h) (aC.toNat))))),(F2.up (r:=Wp.int.toRp) bR (show F2 (Wp.int.R k6) ([[.int .i64 p1]]:List (List Value)) [p1] from⟨⟨rfl,gC⟩,trivial⟩)),bS⟩) ?_)))
 rintro _ aY aZ aS cX gS ⟨bD,fM,bL,fN,bM,fO,bT,⟨⟩,⟨⟩,aT,gT,bU,bV,bW,aJ⟩
 replace aJ:E6 x9 aQ aC aR cX bD bL bM bT=some X12:=aJ
 obtain _|cX:=cX
 ·cases aJ
 rw[E6.eq_2]at aJ
 obtain⟨gU,dA,aJ⟩:=C0 aJ
 obtain rfl:aS.length=gU:=(F2.length bW).trans (oJ dA)
 obtain⟨jB,gV,aJ⟩:=C0 aJ
 refine ifB aJ (λdB aJ=>?_) λdB aJ=>?_
 ·obtain⟨X22,bX,aJ⟩:=C0 aJ
  refine eX { vars:=[11],boxes:=[],owns:=[0,1,3],fuel:=true,kept:=[0,1] } (eX (λvs os h'=>∃ bE aM bG aN bH aO bI,vs.tail = [.int .i64 bE]/\os = [aM,aN,aO]/\Sub gS h'/\P0 bE/\F2 (Wp.bool.R h') aM bG/\F2 (N0.R h') aN bH/\F2 (Wp.int.R h') aO bI/\S4 x9 bD aQ aC aR (N1 vs) bE bG bH bI=some X22) (eX (λ_ _=>0) (aI (eX T0 ⟨0,aY,bL,aZ,bM,aS,bT,rfl,rfl,(Sub.refl _),(by decide),bU,bV,bW,bX⟩) ?_)))
  rintro _ aM aN aO bY cY ⟨bE,fP,bG,fQ,bH,fR,bI,⟨⟩,⟨⟩,aP,gW,aU,aV,aK,aB⟩
  replace aB:S4 x9 bD aQ aC aR bY bE bG bH bI=some X22:=aB
  obtain _|bY:=bY
  ·cases aB
  rw[S4.eq_2]at aB
  refine ifB aB (λdC aB=>?_) λdC aB=>?_
  ·refine Or.inl (aI (aI (by kernel_rfl) (by kernel_rfl)) ?_)
   obtain⟨jC,dD,aB⟩:=C0 aB
   obtain⟨dE,fS,dF,dG⟩:=E3 aK dD
   refine aI dE ?_
   obtain⟨rfl,dH⟩:=dG
   refine eX _ (aI dF ?_)
   refine ldI aB (N0.mono (aT.trans aP) cZ) λjD dI aB=>?_
   obtain⟨aL,dJ,aB⟩:=C0 aB
   refine eX (.int .i64 aL) (aI (c01 _ _ _ (l0 bB bQ (M0.mono (((cV.trans bR).trans aT).trans aP) bC)) _ dH _ dI _  dJ) ?_)
   obtain⟨jE,dK,aB⟩:=C0 aB
   have bZ:P0 aL:=Y2 dK
   obtain⟨jF,dL,aB⟩:=C0 aB
   obtain⟨fT,cC,dM⟩:=S00 aU dL (d0k cY)
   refine aI (λq=>(cC q).1) ?_
   obtain rfl:=dM
   refine eX _ (aI (λq=>(cC q).2) ?_)
   refine ifB aB (λdN aB=>?_) λdN aB=>?_
   ·obtain⟨jG,dO,aB⟩:=C0 aB
    obtain⟨dP,fU,dQ,dR⟩:=E3 aU dO
    refine aI dP ?_
    obtain rfl:=dR
    refine eX _ (aI dQ ?_)
    refine Or.inr (Or.inr (Or.inr (Or.inr (eX 16 (aI (aI (by kernel_rfl) (by kernel_rfl)) ?_)))))
    refine Or.inr (eX (λv hh=>∃(g:Nat),v = .slice (some ⟨g,0,none⟩) 0 0/\cY g=none/\∃ e,hh g=some (.cells #[] e (0,0))) (aI (λv h1 h2 sb q=>by obtain⟨g,e,n,t,c⟩:=q;exact⟨g,e,n,t,sb _ _ c⟩) (aI ?_ ?_)))
    ·intro jH gX
     intro g hg
     exact aI H03 (aI (Sub.set hg) ⟨g,rfl,Sub.back gX hg,_,Hp.set_same _ _ _⟩)
    obtain⟨gY,dS,aB⟩:=C0 aB
    obtain⟨dT,fV,dU,dV⟩:=E3 aK dS
    obtain⟨rfl,gZ⟩:=dV
    refine Or.inl ?_
    apply eX
    refine aI ?_ ?_
    ·intro jI jJ
     exact aI dT (aI rfl (aI rfl rfl))
    refine Or.inl (eX (.val (.int .i64 gY)) (aI ?_ ?_))
    ·intro jK jL
     exact eX _ (aI dU (aI rfl (aI rfl rfl)))
    obtain⟨bA,dW,aB⟩:=C0 aB
    obtain⟨dX,fW,dY,bJ⟩:=E3 aV dW
    obtain⟨dZ,hJ,eA,rfl⟩:=Wp.slice_cell bJ
    obtain⟨rfl,hU⟩:=Sl.len bJ
    refine Or.inl ?_
    apply eX
    refine aI ?_ ?_
    ·intro jM jN
     exact aI dX (aI rfl (aI rfl rfl))
    refine Or.inl (eX (.val (.slice dZ bA.length eA)) (aI ?_ ?_))
    ·intro jO jP
     exact eX _ (aI dY (aI rfl (aI rfl rfl)))
    obtain⟨jQ,eB,aB⟩:=C0 aB
    refine Or.inr (eX (λv hh=>∃(g o c:Nat),v = .slice (some ⟨g,o,none⟩) bA.length c/\New N0 cY hh [.slice (some ⟨g,o,none⟩) bA.length c] bA/\bA.length<=9223372036854775807) (aI (λv h1 h2 sb q=>by obtain⟨g,o,c,e,r,l⟩:=q;exact⟨g,o,c,e,New.mono r sb,l⟩) (aI ?_ ?_)))
    ·intro jR fX
     rintro _ ⟨hY,rfl,eC,eD⟩
     obtain⟨cD,eE,cE,eF,eG⟩:=New.appZ (r:=Wp.int) eC eD fX (N0.mono fX bJ) (U01 _)
     exact eX cD (aI eE (aI (E1 eB cE) (aI (λhz=>aI H03 (aI (Sub.refl _) (eF hz))) (λv h9 hf=>aI H03 (eG v h9 _ hf)))))
    obtain⟨cI,eH,aB⟩:=C0 aB
    obtain⟨eI,fY,eJ,eK⟩:=Sl.getI (r:=Wp.int.toRp) (N0.mono (aT.trans aP) cZ) eH (by decide)
    obtain⟨rfl,eM⟩:=eK
    refine Or.inl (eX (.hel (.slice gQ x9.length gR) bE 1 0) (aI ?_ ?_))
    ·intro jS jT
     exact aI eI (aI rfl (aI rfl rfl))
    refine Or.inl (eX (.val (.int .i64 cI)) (aI ?_ ?_))
    ·intro jU hZ
     exact eX _ (aI (h8.up hZ eJ) (aI rfl (aI rfl rfl)))
    obtain⟨aX,eN,aB⟩:=C0 aB
    refine Or.inr (eX (λv hh=>∃(a:Option Addr) (c:Nat),v = .slice a aX.length c/\N0.R hh [.slice a aX.length c] aX/\aX.length<=9223372036854775807) (aI (λv h1 h2 sb q=>by obtain⟨a,c,e,r,l⟩:=q;exact⟨a,c,e,N0.mono sb r,l⟩) (aI ?_ ?_)))
    ·intro fZ jV
     have eO:[cI]=aX:=oJ eN
     intro v k hf
     obtain⟨a,c,rfl,r,sb,l⟩:=Q0.out (r:=Wp.int.toRp) (xs:=aX) hf (show F2 (Wp.int.R fZ) [[.int .i64 cI]] aX from eO▸(show F2 (Wp.int.R fZ) [[.int .i64 cI]] [cI] from⟨⟨rfl,eM⟩,trivial⟩))
     exact aI ⟨rfl,rfl,rfl,[_],rfl⟩ (aI sb ⟨a,c,rfl,r,l⟩)
    intro jW jX
    rintro _ ⟨iA,iB,rfl,eP,iC⟩
    rintro _ ⟨iD,iE,iF,rfl,eQ,iG⟩
    rintro _ _
    obtain⟨cJ,eR,cK⟩:=Sl.rows (r:=Wp.int.toRp) eP
    refine eX cJ (aI eR ?_)
    obtain⟨jY,eT,aB⟩:=C0 aB
    obtain⟨cL,cM,bF,cN⟩:=New.app eQ (Sub.refl _)
    refine eX cL (aI cM (aI (E1 eT (by first|rw[bF,F2.length cK]|(rw[bF];rfl))) ?_))
    intro iH bK happz69
    obtain⟨aD,cO,cP,iI,cQ,rfl⟩:=cN _ _ _ _ _ (F3.ofPlain (U01 _) cK) M4.ofPlain happz69
    have cR:=aD.r
    obtain⟨eU,iJ⟩:=Sl.len cR
    subst eU
    obtain⟨jZ,eV,aB⟩:=C0 aB
    obtain⟨eW,gA,eY,cS⟩:=E3 (F2.up (r:=N0.toRp) aD.sub aV) eV
    refine aI eW ?_
    obtain⟨iK,iL,iM,rfl⟩:=Wp.slice_cell cS
    obtain⟨rfl,iN⟩:=Sl.len cS
    refine eX _ (aI eY ?_)
    obtain⟨kB,eZ,aB⟩:=C0 aB
    refine aI (E1 eZ (by first|rw[F2.length (F2.up (r:=Wp.int.toRp) aD.sub aK),F2.length (show F2 (Wp.int.R bK) ([[.int .i64 aL]]:List (List Value)) [aL] from⟨⟨rfl,bZ⟩,trivial⟩)]|exact congrArg (·+1) (F2.length (F2.up (r:=Wp.int.toRp) aD.sub aK)))) ?_
    exact T2 bY ⟨(IntKind.i64.wrap (bE+1)),(aM.set aL.toNat [.bool true]),(bG.set aL.toNat true),(aN.set aL.toNat [.slice (some ⟨cO,cP,none⟩) (bA++aX).length cQ]),(bH.set aL.toNat (bA++aX)),(aO++([[.int .i64 aL]]:List (List Value))),(bI ++ [aL]),rfl,rfl,(aP.trans aD.sub),(J0 _),(F2.up (r:=Wp.bool.toRp) aD.sub (F2.set (p:=Wp.bool.R cY) (a:=[.bool true]) (b:=true) rfl aL.toNat aU)),(F2.set (p:=N0.R bK) (a:=[.slice (some ⟨cO,cP,none⟩) (bA++aX).length cQ]) (b:=(bA++aX)) cR aL.toNat (F2.up (r:=N0.toRp) aD.sub aV)),(F2.append (F2.up (r:=Wp.int.toRp) aD.sub aK) (show F2 (Wp.int.R bK) ([[.int .i64 aL]]:List (List Value)) [aL] from⟨⟨rfl,bZ⟩,trivial⟩)),aB⟩
   ·exact T2 bY ⟨(IntKind.i64.wrap (bE+1)),aM,bG,aN,bH,aO,bI,rfl,rfl,aP,(J0 _),aU,aV,aK,aB⟩
  ·obtain rfl:=oJ aB
   try dsimp only[U0,V0]at aJ
   exact T2 cX ⟨(IntKind.i64.wrap (bD+1)),aM,bG,aN,bH,aO,bI,rfl,rfl,(aT.trans aP),(J0 _),aU,aV,aK,aJ⟩
 ·obtain rfl:=oJ aJ
  try dsimp only[U0,V0]at aF
  intro kC kD iO
  obtain⟨fA,fB,rfl,fC,cT,iP⟩:=Q0.out (r:=Wp.bool.toRp) iO bU
  intro kE kF iQ
  obtain⟨fD,fE,rfl,fF,cU,iS⟩:=Q0.out (r:=N0.toRp) iQ (F2.up (r:=N0.toRp) cT bV)
  obtain rfl:=oJ aF
  exact⟨fA,bL.length,fB,fD,bM.length,fE,rfl,((Wp.slice Wp.bool).mono cU fC),fF,((((cV.trans bR).trans aT).trans cT).trans cU)⟩
theorem B09(h:Hp)(aP:List Value)(p0:j0)(bU:Y0.R h aP p0)(p1:Int)(bE:P0 p1)(p2:Int)(bV:P0 p2)(r:B0×Bool)(aB:L6 p0 p1 p2=some r):
  Tr Tryz.prog 321 #[.agg aP.toArray,.int .i64 p1,.int .i64 p2] h λv h'=>∃(g0:Nat) (n0 c0:Nat),v = .tuple #[.slice (some ⟨g0,0,none⟩) n0 c0,.bool r.2]/\New N0 h h' [.slice (some ⟨g0,0,none⟩) n0 c0] r.1:=by
 obtain⟨aT,aL,aQ,bF,aR,aU,rfl,rfl,aJ,aK,aC⟩:=D0 bU
 obtain⟨rfl,bG⟩:=Sl.len aC
 unfold L6 at aB
 dsimp only at aB
 refine G3 (args:=[.agg #[.int .i64 aT,.int .i64 aL,.slice aQ aU.length aR],.int .i64 p1,.int .i64 p2]) (fn:=Tryz.f321) rfl ?_
 refine trV aB (x00 _ _ _ (l0 aJ aK aC)) λx1 aB=>?_
 refine trG aB (λq=>Y7 _ _ bE 0 (by decide) (IntKind.i64.wrap (aL-1)) (J0 _)) λx2 aB=>?_
 refine trG aB (λq=>Y7 _ _ bV 0 (by decide) (IntKind.i64.wrap (aL-1)) (J0 _)) λx3 aB=>?_
 refine ifB aB (λbW aB=>?_) λbW aB=>?_
 ·intro v5 k6 f7
  obtain⟨bX,bY,rfl,cR,cS,cT⟩:=Q0.outS (r:=Wp.int.toRp) f7 (show F2 (Wp.int.R h) ([]:List (List Value)) ([]:B0) from trivial)
  obtain rfl:=oJ aB
  exact⟨bX,(([]:B0)).length,bY,rfl,(Q0.newPlain (r:=Wp.int) f7 (show F2 (Wp.int.R h) ([]:List (List Value)) ([]:B0) from trivial) (U01 _))⟩
 ·refine trM aB (A09 _ _ _ (l0 aJ aK aC) _ bE) ?_
  rintro x9 aB cU aO ⟨bH,bI,bJ,bK,bL,bM,rfl,aD,aF,bN⟩
  obtain⟨bZ,cC⟩:=x9
  dsimp only at aB aD aF
  obtain⟨rfl,bO⟩:=Sl.len aD
  obtain⟨rfl,bP⟩:=Sl.len aF
  refine ld aB aD λcV bQ aV aB=>?_
  obtain rfl:=aV
  refine ifB aB (λaX aB=>?_) λaX aB=>?_
  ·intro cX cY bR
   obtain⟨aY,aZ,rfl,cD,cE,cI⟩:=Q0.outS (r:=Wp.int.toRp) bR (show F2 (Wp.int.R aO) ([]:List (List Value)) ([]:B0) from trivial)
   obtain rfl:=oJ aB
   exact⟨aY,(([]:B0)).length,aZ,rfl,(New.from (Q0.newPlain (r:=Wp.int) bR (show F2 (Wp.int.R aO) ([]:List (List Value)) ([]:B0) from trivial) (U01 _)) bN)⟩
  ·refine ld aB aF λcJ bS aM aB=>?_
   obtain⟨cK,cL,cM,rfl⟩:=Wp.slice_cell aM
   obtain⟨rfl,cN⟩:=Sl.len aM
   obtain⟨aS,bA,aN⟩:=Sl.rows (r:=Wp.int.toRp) aM
   refine eX aS (aI bA ?_)
   obtain⟨cZ,bB,aB⟩:=C0 aB
   refine aI (E1 bB (by first|rw[F2.length (show F2 (Wp.int.R aO) ([]:List (List Value)) ([]:B0) from trivial),F2.length aN]|exact congrArg (·+1) (F2.length (show F2 (Wp.int.R aO) ([]:List (List Value)) ([]:B0) from trivial)))) ?_
   intro dA dB bT
   obtain⟨bC,bD,rfl,cO,cP,cQ⟩:=Q0.outS (r:=Wp.int.toRp) bT (F2.append (show F2 (Wp.int.R aO) ([]:List (List Value)) ([]:B0) from trivial) aN)
   obtain rfl:=oJ aB
   exact⟨bC,((([]:B0)++cJ)).length,bD,rfl,(New.from (Q0.newPlain (r:=Wp.int) bT (F2.append (show F2 (Wp.int.R aO) ([]:List (List Value)) ([]:B0) from trivial) aN) (U01 _)) bN)⟩
theorem C09(h:Hp)(aF:List Value)(p0:j0)(aZ:Y0.R h aF p0)(p1:Int)(bA:P0 p1)(r:B0)(aD:t9 p0 p1=some r):
  Tr Tryz.prog 255 #[.agg aF.toArray,.int .i64 p1] h λv h'=>∃(g0:Nat) (n0 c0:Nat),v = .slice (some ⟨g0,0,none⟩) n0 c0/\New N0 h h' [.slice (some ⟨g0,0,none⟩) n0 c0] r:=by
 obtain⟨aQ,aR,aJ,aU,aK,aS,rfl,rfl,aL,aM,aC⟩:=D0 aZ
 obtain⟨rfl,aV⟩:=Sl.len aC
 unfold t9 at aD
 dsimp only at aD
 refine G3 (args:=[.agg #[.int .i64 aQ,.int .i64 aR,.slice aJ aS.length aK],.int .i64 p1]) (fn:=Tryz.f255) rfl ?_
 refine trM aD (B09 _ _ _ (l0 aL aM aC) 0 (by decide) _ bA) ?_
 rintro x1 aD v3 k2 ⟨aN,aX,aO,rfl,aB⟩
 obtain⟨aT,bB⟩:=x1
 dsimp only at aD aB
 have bC:Sub h k2:=aB.sub
 have aP:=aB.r
 obtain⟨rfl,aY⟩:=Sl.len aP
 obtain rfl:=oJ aD
 exact⟨aN,aT.length,aO,rfl,aB⟩
theorem J02(h:Hp)(cQ:List Value)(p0:j0)(eW:Y0.R h cQ p0)(r:j0×B0)(aD:U6 p0=some r):
  Tr Tryz.prog 252 #[.agg cQ.toArray] h λv h'=>∃(eE:List Value) (a1:Option Addr) (n1 c1:Nat),v = .tuple #[.agg eE.toArray,.slice a1 n1 c1]/\Y0.R h' eE r.1/\N0.R h' [.slice a1 n1 c1] r.2/\Sub h h':=by
 obtain⟨aJ,aK,aO,eF,aP,aL,rfl,rfl,aX,aY,aQ⟩:=D0 eW
 obtain⟨rfl,eG⟩:=Sl.len aQ
 unfold U6 at aD
 dsimp only at aD
 refine G3 (args:=[.agg #[.int .i64 aJ,.int .i64 aK,.slice aO aL.length aP]]) (fn:=Tryz.f252) rfl ?_
 refine trV aD (e01 _ [.int .i64 aJ,.int .i64 aK,.slice aO aL.length aP] (aJ,aK,aL) (l0 aX aY aQ)) λx1 aD=>?_
 refine ifB aD (λeY aD=>?_) λeY aD=>?_
 ·refine trM aD (o6 _ [.int .i64 aJ,.int .i64 aK,.slice aO aL.length aP] (aJ,aK,aL) (l0 aX aY aQ)) ?_
  rintro x3 aD v5 k4 ⟨eZ,rfl,eH⟩
  have eI:Sub h k4:=eH.sub
  have fA:=eH.r
  obtain⟨dL,dM,cR,eJ,cS,dN,rfl,rfl,cT,cU,bV⟩:=D0 fA
  obtain⟨rfl,eK⟩:=Sl.len bV
  try dsimp only at aD
  intro v6 k7 f8
  obtain⟨fB,fC,rfl,fD,eM,fU⟩:=Q0.out (r:=Wp.int.toRp) f8 (F2.up (r:=Wp.int.toRp) eI (show F2 (Wp.int.R h) ([]:List (List Value)) ([]:B0) from trivial))
  obtain rfl:=oJ aD
  exact⟨([.int .i64 dL,.int .i64 dM,.slice cR dN.length cS]),fB,(([]:B0)).length,fC,rfl,(l0 cT cU (M0.mono eM bV)),fD,(eI.trans eM)⟩
 ·refine trM aD (o6 _ [.int .i64 aJ,.int .i64 aK,.slice aO aL.length aP] (aJ,aK,aL) (l0 aX aY aQ)) ?_
  rintro fV aD fW eN ⟨eO,rfl,cV⟩
  have cX:Sub h eN:=cV.sub
  have dO:=cV.r
  obtain⟨cY,cZ,bX,dP,bY,bW,rfl,rfl,bZ,cC,aZ⟩:=D0 dO
  obtain⟨rfl,dQ⟩:=Sl.len aZ
  try dsimp only at aD
  obtain⟨X13,dA,aD⟩:=C0 aD
  refine eX { vars:=[6],boxes:=[2],owns:=[0],fuel:=true } (eX (λvs os h'=>∃ cD bK bL aS cE aT bM bN cN,vs.tail = [.int .i64 cD,.int .i64 bK,.int .i64 bL,.slice aS cE aT]/\os = [bN]/\Sub eN h'/\P0 cD/\P0 bK/\P0 bL/\M0.R h' [.slice aS cE aT] bM/\F2 (Wp.int.R h') bN cN/\i5 (N1 vs) cD bK bL bM cN=some X13) (eX (λ_ _=>0) (aI (eX T0 ⟨0,cY,cZ,bX,bW.length,bY,bW,[],([]:B0),rfl,rfl,(Sub.refl _),(by decide),bZ,cC,aZ,(F2.up (r:=Wp.int.toRp) cX (show F2 (Wp.int.R h) ([]:List (List Value)) ([]:B0) from trivial)),dA⟩) ?_)))
  rintro _ _ _ _ bN dB fX ⟨cD,bK,bL,aS,cE,aT,bM,eP,cN,⟨⟩,⟨⟩,cI,fE,bO,cJ,bP,dC,aC⟩
  replace aC:i5 dB cD bK bL bM cN=some X13:=aC
  obtain _|dB:=dB
  ·cases aC
  rw[i5.eq_2]at aC
  obtain⟨rfl,fF⟩:=Sl.len bP
  refine trG aC (λq=>z04 _ [.int .i64 bK,.int .i64 bL,.slice aS bM.length aT] (bK,bL,bM) (l0 bO cJ bP) 0 (by decide)) λfH aC=>?_
  obtain⟨fY,dR,aC⟩:=C0 aC
  have fI:P0 fH:=Y2 dR
  refine ifB aC (λdS aC=>?_) λdS aC=>?_
  ·refine trM aC (w01 _ bK bO) ?_
   rintro eQ aC fZ fJ ⟨fK,fL,fM,rfl,cK,bQ⟩
   obtain⟨rfl,fN⟩:=Sl.len cK
   obtain⟨X27,dD,aC⟩:=C0 aC
   refine eX { vars:=[8],boxes:=[2],owns:=[0],fuel:=true,kept:=[0] } (eX (λvs os h'=>∃ cO bA bB aM cL aN aV aU cM,vs.tail = [.int .i64 cO,.int .i64 bA,.int .i64 bB,.slice aM cL aN]/\os = [aU]/\Sub fJ h'/\P0 cO/\P0 bA/\P0 bB/\M0.R h' [.slice aM cL aN] aV/\F2 (Wp.int.R h') aU cM/\d5 eQ (N1 vs) cO bA bB aV cM=some X27) (eX (λ_ _=>0) (aI (eX T0 ⟨0,bK,bL,aS,bM.length,aT,bM,bN,cN,rfl,rfl,(Sub.refl _),(by decide),bO,cJ,(M0.mono bQ bP),(F2.up (r:=Wp.int.toRp) bQ dC),dD⟩) ?_)))
   rintro _ _ _ _ aU dJ eR ⟨cO,bA,bB,aM,cL,aN,aV,eT,cM,⟨⟩,⟨⟩,bC,fO,bR,bS,bD,bE,aB⟩
   replace aB:d5 eQ dJ cO bA bB aV cM=some X27:=aB
   obtain _|dJ:=dJ
   ·cases aB
   rw[d5.eq_2]at aB
   obtain⟨rfl,fP⟩:=Sl.len bD
   refine ifB aB (λdT aB=>?_) λdT aB=>?_
   ·refine Or.inl (aI (aI (by kernel_rfl) (by kernel_rfl)) ?_)
    refine ldI aB (N0.mono bC cK) λfQ dU aB=>?_
    obtain⟨dV,dW,aB⟩:=C0 aB
    refine eX (.int .i64 dV) (aI (c01 _ [.int .i64 bA,.int .i64 bB,.slice aM aV.length aN] (bA,bB,aV) (l0 bR bS bD) 0 (by decide) fQ dU _  dW) ?_)
    obtain⟨gA,dX,aB⟩:=C0 aB
    have dY:P0 dV:=Y2 dX
    refine ifB aB (λdZ aB=>?_) λdZ aB=>?_
    ·refine ldI aB (N0.mono bC cK) λcP dE aB=>?_
     obtain⟨gB,eA,aB⟩:=C0 aB
     refine aI (E1 eA (by first|rw[F2.length bE,F2.length (show F2 (Wp.int.R eR) ([[.int .i64 cP]]:List (List Value)) [cP] from⟨⟨rfl,dE⟩,trivial⟩)]|exact congrArg (·+1) (F2.length bE))) ?_
     refine trM aB (A04 _ [.int .i64 bA,.int .i64 bB,.slice aM aV.length aN] (bA,bB,aV) (l0 bR bS bD) dV dY) ?_
     rintro fR aB gC gD ⟨dK,rfl,bF,dF⟩
     obtain⟨eU,eV⟩:=fR
     dsimp only at aB bF
     obtain⟨bT,bU,bG,dG,bH,aR,rfl,rfl,bI,bJ,aF⟩:=D0 bF
     obtain⟨rfl,dH⟩:=Sl.len aF
     try dsimp only at aB
     obtain rfl:=oJ aB
     try dsimp only[U0,V0]at aC
     exact T2 dB ⟨(IntKind.i64.wrap (cD+1)),bT,bU,bG,aR.length,bH,aR,(aU++([[.int .i64 cP]]:List (List Value))),(cM ++ [cP]),rfl,rfl,(((cI.trans bQ).trans bC).trans dF),(J0 _),bI,bJ,aF,(F2.up (r:=Wp.int.toRp) dF (F2.append bE (show F2 (Wp.int.R eR) ([[.int .i64 cP]]:List (List Value)) [cP] from⟨⟨rfl,dE⟩,trivial⟩))),aC⟩
    ·exact T2 dJ ⟨(IntKind.i64.wrap (cO+1)),bA,bB,aM,aV.length,aN,aV,aU,cM,rfl,rfl,bC,(J0 _),bR,bS,bD,bE,aB⟩
   ·obtain rfl:=oJ aB
    try dsimp only[U0,V0]at aC
    exact T2 dB ⟨(IntKind.i64.wrap (cD+1)),bA,bB,aM,aV.length,aN,aV,aU,cM,rfl,rfl,((cI.trans bQ).trans bC),(J0 _),bR,bS,bD,bE,aC⟩
  ·obtain rfl:=oJ aC
   try dsimp only[U0,V0]at aD
   intro gE gF fS
   obtain⟨eB,eC,rfl,eD,dI,fT⟩:=Q0.out (r:=Wp.int.toRp) fS dC
   obtain rfl:=oJ aD
   exact⟨([.int .i64 bK,.int .i64 bL,.slice aS bM.length aT]),eB,cN.length,eC,rfl,(l0 bO cJ (M0.mono dI bP)),eD,((cX.trans cI).trans dI)⟩
theorem R01(h:Hp)(cQ:List Value)(p0:j0)(fA:Y0.R h cQ p0)(cR:List Value)(p1:j0)(fB:Y0.R h cR p1)(r:B0×Bool)(aB:M1 p0 p1=some r):
  Tr Tryz.prog 157 #[.agg cQ.toArray,.agg cR.toArray] h λv h'=>∃(a0:Option Addr) (n0 c0:Nat),v = .tuple #[.slice a0 n0 c0,.bool r.2]/\N0.R h' [.slice a0 n0 c0] r.1/\Sub h h':=by
 obtain⟨cD,cE,bR,eK,bS,cI,rfl,rfl,bT,bU,bD⟩:=D0 fA
 obtain⟨rfl,eM⟩:=Sl.len bD
 obtain⟨cJ,cK,bV,eN,bW,cL,rfl,rfl,bX,bY,bE⟩:=D0 fB
 obtain⟨rfl,eO⟩:=Sl.len bE
 unfold M1 at aB
 dsimp only at aB
 refine G3 (args:=[.agg #[.int .i64 cD,.int .i64 cE,.slice bR cI.length bS],.agg #[.int .i64 cJ,.int .i64 cK,.slice bV cL.length bW]]) (fn:=Tryz.f157) rfl ?_
 refine trV aB (e01 _ [.int .i64 cD,.int .i64 cE,.slice bR cI.length bS] (cD,cE,cI) (l0 bT bU bD)) λx1 aB=>?_
 refine trG aB (λq=>e01 _ [.int .i64 cJ,.int .i64 cK,.slice bV cL.length bW] (cJ,cK,cL) (l0 bX bY bE)) λx2 aB=>?_
 refine ifB aB (λfC aB=>?_) λfC aB=>?_
 ·intro v4 k5 f6
  obtain⟨fD,fE,rfl,fF,fH,gA⟩:=Q0.out (r:=Wp.int.toRp) f6 (show F2 (Wp.int.R h) ([]:List (List Value)) ([]:B0) from trivial)
  obtain rfl:=oJ aB
  exact⟨fD,(([]:B0)).length,fE,rfl,fF,fH⟩
 ·refine trM aB (J02 _ _ _ (l0 bT bU bD)) ?_
  rintro x8 aB gB k9 ⟨dO,cS,eP,cT,rfl,bZ,bF,dI⟩
  obtain⟨fI,bQ⟩:=x8
  dsimp only at aB bZ bF
  obtain⟨aC,aD,aS,dJ,aT,aF,rfl,rfl,aU,aV,aN⟩:=D0 bZ
  obtain⟨rfl,dK⟩:=Sl.len aN
  try dsimp only at aB
  obtain⟨rfl,eQ⟩:=Sl.len bF
  refine trM aB (J02 _ _ _ (l0 bX bY (M0.mono dI bE))) ?_
  rintro fJ aB gC eR ⟨dL,cM,dP,cN,rfl,bG,aR,bB⟩
  obtain⟨eT,aX⟩:=fJ
  dsimp only at aB bG aR
  obtain⟨aK,aL,bH,cU,bI,aM,rfl,rfl,bJ,bK,aO⟩:=D0 bG
  obtain⟨rfl,cV⟩:=Sl.len aO
  try dsimp only at aB
  obtain⟨rfl,dQ⟩:=Sl.len aR
  refine ifB aB (λdR aB=>?_) λdR aB=>?_
  ·intro gD gE fK
   obtain⟨dS,dT,rfl,dU,dV,fL⟩:=Q0.out (r:=Wp.int.toRp) fK (show F2 (Wp.int.R eR) ([]:List (List Value)) ([]:B0) from trivial)
   obtain rfl:=oJ aB
   exact⟨dS,(([]:B0)).length,dT,rfl,dU,((dI.trans bB).trans dV)⟩
  ·obtain⟨X19,cX,aB⟩:=C0 aB
   refine eX { vars:=[10],boxes:=[],owns:=[],fuel:=true } (eX (λvs os h'=>∃ cC,vs.tail = [.int .i64 cC]/\os = []/\Sub eR h'/\P0 cC/\E2 aD aC aF aK aL aM bQ aX (N1 vs) cC=some X19) (eX (λ_ _=>0) (aI (eX T0 ⟨0,rfl,rfl,(Sub.refl _),(by decide),cX⟩) ?_)))
   rintro _ dM fM ⟨cC,⟨⟩,⟨⟩,aP,cY,aJ⟩
   replace aJ:E2 aD aC aF aK aL aM bQ aX dM cC=some X19:=aJ
   obtain _|dM:=dM
   ·cases aJ
   rw[E2.eq_2]at aJ
   refine ifB aJ (λdW aJ=>?_) λdW aJ=>?_
   ·refine trM aJ (A04 _ [.int .i64 aC,.int .i64 aD,.slice aS aF.length aT] (aC,aD,aF) (l0 aU aV (M0.mono (bB.trans aP) aN)) cC cY) ?_
    rintro fN aJ gF fO ⟨dN,rfl,bL,bC⟩
    obtain⟨eU,eV⟩:=fN
    dsimp only at aJ bL
    obtain⟨aY,aZ,bM,cZ,bN,bA,rfl,rfl,bO,bP,aQ⟩:=D0 bL
    obtain⟨rfl,dA⟩:=Sl.len aQ
    try dsimp only at aJ
    refine trV aJ (I02 _ [.int .i64 aY,.int .i64 aZ,.slice bM bA.length bN] (aY,aZ,bA) (l0 bO bP aQ) [.int .i64 aK,.int .i64 aL,.slice bH aM.length bI] (aK,aL,aM) (l0 bJ bK (M0.mono (aP.trans bC) aO))) λgG aJ=>?_
    refine ifB aJ (λdX aJ=>?_) λdX aJ=>?_
    ·obtain⟨eW,cO,aJ⟩:=C0 aJ
     refine Tr.mono (C09 _ [.int .i64 aC,.int .i64 aD,.slice aS aF.length aT] (aC,aD,aF) (l0 aU aV (M0.mono ((bB.trans aP).trans bC) aN)) cC cY _  cO) ?_
     rintro gH fP ⟨cO,fQ,dY,rfl,dB⟩
     have cP:Sub fO fP:=dB.sub
     have dC:=dB.r
     obtain⟨rfl,fR⟩:=Sl.len dC
     refine trM aJ (N01 _ cS bQ.length cT bQ (N0.mono (((bB.trans aP).trans bC).trans cP) bF) (some ⟨cO,0,none⟩) eW.length dY eW dC) ?_
     rintro eY aJ gI gJ ⟨dZ,fS,eA,rfl,dD,dE⟩
     obtain⟨rfl,fT⟩:=Sl.len dD
     refine trM aJ (M07 _ cM aX.length cN aX (N0.mono (((aP.trans bC).trans cP).trans dE) aR)) ?_
     rintro eZ aJ gK gL ⟨eB,fU,eC,rfl,dF,dG⟩
     obtain⟨rfl,fV⟩:=Sl.len dF
     refine trM aJ (N01 _ dZ eY.length eA eY (N0.mono dG dD) eB eZ.length eC eZ dF) ?_
     rintro fW aJ gM gN ⟨eD,fX,eE,rfl,dH,eF⟩
     obtain⟨rfl,fY⟩:=Sl.len dH
     obtain rfl:=oJ aJ
     try dsimp only[t6,w6]at aB
     obtain rfl:=oJ aB
     exact⟨eD,fW.length,eE,rfl,dH,(((((((dI.trans bB).trans aP).trans bC).trans cP).trans dE).trans dG).trans eF)⟩
    ·exact T2 dM ⟨(IntKind.i64.wrap (cC+1)),rfl,rfl,(aP.trans bC),(J0 _),aJ⟩
   ·obtain rfl:=oJ aJ
    try dsimp only[U0,V0]at aB
    intro gO gP f43
    obtain⟨eG,eH,rfl,eI,eJ,fZ⟩:=Q0.out (r:=Wp.int.toRp) f43 (show F2 (Wp.int.R fM) ([]:List (List Value)) ([]:B0) from trivial)
    obtain rfl:=oJ aB
    exact⟨eG,(([]:B0)).length,eH,rfl,eI,(((dI.trans bB).trans aP).trans eJ)⟩
theorem Q03(h:Hp)(bN:Option Addr)(eQ bO:Nat)(p0:B5)(cR:C5.R h [.slice bN eQ bO] p0)(r:Q6)(bP:E7 p0=some r):
  Tr Tryz.prog 64 #[.slice bN eQ bO] h λv h'=>∃(a0:Option Addr) (n0 c0:Nat),v = .slice a0 n0 c0/\New l8 h h' [.slice a0 n0 c0] r:=by
 obtain⟨rfl,gW⟩:=Sl.len cR
 unfold E7 at bP
 refine G3 (args:=[.slice bN p0.length bO]) (fn:=Tryz.f64) rfl ?_
 obtain⟨X1,cS,bP⟩:=C0 bP
 refine eX { vars:=[4],boxes:=[],owns:=[0],fuel:=true } (eX (λvs os h'=>∃ u2 bQ u3,vs.tail = [.int .i64 u2]/\os = [bQ]/\Sub h h'/\P0 u2/\F2 (N0.R h') bQ u3/\(∃ Bs,F3 (N0.W h') bQ u3 Bs/\M4 h Bs.flatten)/\U2 p0 (N1 vs) u2 u3=some X1) (eX (λ_ _=>0) (aI (eX T0 ⟨0,[],([]:Q6),rfl,rfl,(Sub.refl _),(by decide),(show F2 (N0.R h) ([]:List (List Value)) ([]:Q6) from trivial),⟨_,(show F3 (N0.W h) [] [] [] from trivial),(M4.nil h)⟩,cS⟩) ?_)))
 rintro _ bQ m5 k4 ⟨u2,fM,u3,⟨⟩,⟨⟩,eR,cQ,eT,⟨fN,bR,bS⟩,aL⟩
 replace aL:U2 p0 m5 u2 u3=some X1:=aL
 obtain _|m5:=m5
 ·cases aL
 rw[U2.eq_2]at aL
 refine ifB aL (λfO aL=>?_) λfO aL=>?_
 ·obtain⟨X7,cT,aL⟩:=C0 aL
  refine eX { vars:=[5,6],boxes:=[],owns:=[0],fuel:=true,kept:=[0] } (eX (λvs os h'=>∃ u8 u9 aF aV,vs.tail = [.bool u8,.int .i64 u9]/\os = [aF]/\Sub h h'/\P0 u9/\F2 (N0.R h') aF aV/\(∃ Bs,F3 (N0.W h') aF aV Bs/\M4 h Bs.flatten)/\C2 p0 u2 (N1 vs) u8 u9 aV=some X7) (eX (λ_ _=>0) (aI (eX T0 ⟨false,0,bQ,u3,rfl,rfl,eR,(by decide),eT,⟨_,bR,bS⟩,cT⟩) ?_)))
  rintro _ _ aF bT eU ⟨u8,u9,eV,aV,⟨⟩,⟨⟩,aY,gX,aJ,⟨eW,aM,aN⟩,aD⟩
  replace aD:C2 p0 u2 bT u8 u9 aV=some X7:=aD
  obtain _|bT:=bT
  ·cases aD
  rw[C2.eq_2]at aD
  obtain⟨fP,cU,aD⟩:=C0 aD
  obtain rfl:aF.length=fP:=(F2.length aJ).trans (oJ cU)
  obtain⟨gY,fQ,aD⟩:=C0 aD
  refine ifB aD (λcV aD=>?_) λcV aD=>?_
  ·refine Or.inr (Or.inr (Or.inr (Or.inl (aI (aI (by kernel_rfl) (by kernel_rfl)) ?_))))
   obtain⟨eY,cX,aD⟩:=C0 aD
   obtain⟨cY,eZ,cZ,aZ⟩:=E3 aJ cX
   obtain⟨bU,fR,bV,rfl⟩:=Wp.slice_cell aZ
   obtain⟨rfl,fS⟩:=Sl.len aZ
   refine Or.inl ?_
   apply eX
   refine aI ?_ ?_
   ·intro gZ hJ
    exact aI cY (aI rfl (aI rfl rfl))
   refine Or.inl (eX (.val (.slice bU eY.length bV)) (aI ?_ ?_))
   ·intro hU hY
    exact eX _ (aI cZ (aI rfl (aI rfl rfl)))
   obtain⟨fA,dA,aD⟩:=C0 aD
   obtain⟨dB,fB,dC,dD⟩:=Sl.getI (r:=Wp.int.toRp) aZ dA (by decide)
   obtain⟨rfl,fT⟩:=dD
   refine Or.inl (eX (.hel (.slice bU eY.length bV) 0 1 0) (aI ?_ ?_))
   ·intro hZ iA
    exact aI dB (aI rfl (aI rfl rfl))
   refine Or.inl (eX (.val (.int .i64 fA)) (aI ?_ ?_))
   ·intro iB fU
    exact eX _ (aI (h8.up fU dC) (aI rfl (aI rfl rfl)))
   obtain⟨iC,dE,aD⟩:=C0 aD
   obtain⟨dF,fC,dG,dH⟩:=Sl.getI (r:=Y0.toRp) (C5.mono aY cR) dE (by decide)
   obtain⟨bW,bX,bA,dI,bB,bY,rfl,rfl,bC,bD,aO⟩:=D0 dH
   obtain⟨rfl,dJ⟩:=Sl.len aO
   try dsimp only at aD
   refine Or.inl (eX (.hel (.slice bN p0.length bO) fA 3 0) (aI ?_ ?_))
   ·intro iD iE
    exact aI dF (aI rfl (aI rfl rfl))
   refine Or.inl (eX (.agg [.val (.int .i64 bW),.val (.int .i64 bX),.val (.slice bA bY.length bB)]) (aI ?_ ?_))
   ·intro iF fV
    exact eX _ (aI (h8.up fV dG) (aI rfl (aI rfl rfl)))
   obtain⟨iG,dK,aD⟩:=C0 aD
   obtain⟨dL,fD,dM,dN⟩:=Sl.getI (r:=Y0.toRp) (C5.mono aY cR) dK (by decide)
   obtain⟨bZ,cC,bE,dO,bF,cD,rfl,rfl,bG,bH,aP⟩:=D0 dN
   obtain⟨rfl,dP⟩:=Sl.len aP
   try dsimp only at aD
   refine Or.inl (eX (.hel (.slice bN p0.length bO) u2 3 0) (aI ?_ ?_))
   ·intro iH iI
    exact aI dL (aI rfl (aI rfl rfl))
   refine Or.inl (eX (.agg [.val (.int .i64 bZ),.val (.int .i64 cC),.val (.slice bE cD.length bF)]) (aI ?_ ?_))
   ·intro iJ fW
    exact eX _ (aI (h8.up fW dM) (aI rfl (aI rfl rfl)))
   obtain⟨fX,dQ,aD⟩:=C0 aD
   obtain⟨aB,aQ⟩:=fX
   try dsimp only at aD
   refine Or.inr (eX (λv hh=>∃(aC:Value),v = .tuple #[aC,.bool aQ]/\(λv hh=>∃(a:Option Addr) (c:Nat),v = .slice a aB.length c/\N0.R hh [.slice a aB.length c] aB/\aB.length<=9223372036854775807) aC hh) (aI (λv h1 h2 sb q=>by obtain⟨aC,e,aK⟩:=q;exact⟨aC,e,(by obtain⟨a,c,e,r,l⟩:=aK;exact⟨a,c,e,N0.mono sb r,l⟩)⟩) (aI ?_ ?_)))
   ·intro iK fE
    refine Tr.mono (R01 _ _ _ (l0 bC bD (M0.mono fE aO)) _ _ (l0 bG bH (M0.mono fE aP)) _ dQ) ?_
    rintro _ kk ⟨aR,dR,aS,rfl,aT,sb⟩
    obtain⟨rfl,bI⟩:=Sl.len aT
    exact aI H03 (aI sb ⟨(.slice aR aB.length aS),rfl,⟨aR,aS,rfl,aT,bI⟩⟩)
   refine Or.inr (eX (λv hh=>∃(aC:Value),v = .tuple #[aC,.bool aQ]/\(λv hh=>∃(a:Option Addr) (c:Nat),v = .slice a aB.length c/\N0.R hh [.slice a aB.length c] aB/\aB.length<=9223372036854775807) aC hh) (aI (λv h1 h2 sb q=>by obtain⟨aC,e,aK⟩:=q;exact⟨aC,e,(by obtain⟨a,c,e,r,l⟩:=aK;exact⟨a,c,e,N0.mono sb r,l⟩)⟩) (aI ?_ ?_)))
   ·intro iL iM
    rintro _ ⟨_,rfl,⟨az41p0,cz41p0,rfl,rz41p0,lz41p0⟩⟩
    exact aI H03 (aI (Sub.refl _) ⟨(.slice az41p0 aB.length cz41p0),rfl,⟨az41p0,cz41p0,rfl,rz41p0,lz41p0⟩⟩)
   refine Or.inr (eX (λv hh=>∃(a:Option Addr) (c:Nat),v = .slice a aB.length c/\N0.R hh [.slice a aB.length c] aB/\aB.length<=9223372036854775807) (aI (λv h1 h2 sb q=>by obtain⟨a,c,e,r,l⟩:=q;exact⟨a,c,e,N0.mono sb r,l⟩) (aI ?_ ?_)))
   ·intro iN iO
    rintro _ ⟨_,rfl,⟨az44p0,cz44p0,rfl,rz44p0,lz44p0⟩⟩
    exact aI H03 (aI (Sub.refl _) ⟨az44p0,cz44p0,rfl,rz44p0,lz44p0⟩)
   refine Or.inl (eX (.val (.bool aQ)) (aI ?_ ?_))
   ·intro iP iQ
    rintro _ ⟨_,rfl,⟨az47p0,cz47p0,rfl,rz47p0,lz47p0⟩⟩
    exact aI rfl (aI rfl rfl)
   refine Or.inr (eX (λv hh=>∃(a:Option Addr) (c:Nat),v = .slice a aB.length c/\N0.R hh [.slice a aB.length c] aB/\aB.length<=9223372036854775807) (aI (λv h1 h2 sb q=>by obtain⟨a,c,e,r,l⟩:=q;exact⟨a,c,e,N0.mono sb r,l⟩) (aI ?_ ?_)))
   ·intro iS iT
    rintro _ ⟨dS,dT,rfl,dU,dV⟩
    exact aI H03 (aI (Sub.refl _) ⟨dS,dT,rfl,dU,dV⟩)
   intro fF bJ
   rintro _ ⟨fY,fZ,rfl,gA,gB⟩
   rintro _ ⟨gC,gD,rfl,gE,gF⟩
   rintro _ ⟨_,rfl,⟨az55p0,cz55p0,rfl,rz55p0,lz55p0⟩⟩
   rintro _ ⟨_,rfl,⟨az56p0,cz56p0,rfl,rz56p0,lz56p0⟩⟩
   refine ifB aD (λdW aD=>?_) λdW aD=>?_
   ·obtain⟨fH,cE,aD⟩:=C0 aD
    obtain⟨dX,fI,bK,cI⟩:=E3 (F2.up (r:=N0.toRp) bJ aJ) cE
    refine aI dX ?_
    obtain⟨gG,gH,gI,rfl⟩:=Wp.slice_cell cI
    obtain⟨rfl,gJ⟩:=Sl.len cI
    refine eX _ (aI bK ?_)
    obtain⟨iU,dY,aD⟩:=C0 aD
    obtain⟨iV,dZ,aD⟩:=C0 aD
    have cJ:=F2.length (F2.up (r:=N0.toRp) bJ aJ)
    obtain⟨gK,gL,eA,cK,cL,aX,cM⟩:=New.appE (x04 aM bJ) aN (aY.trans bJ) cE bK (Y2 dY)
    subst eA
    refine eX cK (aI cL (aI (E1 dZ (by first|rw[aX,F2.length (show F2 (Wp.int.R fF) ([[.int .i64 u2]]:List (List Value)) [u2] from⟨⟨rfl,cQ⟩,trivial⟩)]|(rw[aX];rfl))) ?_))
    intro gM eB happz61
    obtain⟨eC,eD,eE,rfl,cN,⟨Bz61,cO,eF⟩,gN,gO⟩:=cM ([[.int .i64 u2]]:List (List Value)) [u2] _ _ (show F2 (Wp.int.R fF) ([[.int .i64 u2]]:List (List Value)) [u2] from⟨⟨rfl,cQ⟩,trivial⟩) happz61
    obtain⟨iW,eG,aD⟩:=C0 aD
    obtain⟨eH,fJ,gP,_⟩:=E3 (F2.ofLen cJ) eG
    refine aI eH ?_
    refine eX _ (aI bK ?_)
    exact T2 bT ⟨true,(IntKind.i64.wrap (u9+1)),(aF.set u9.toNat [.slice (some ⟨eC,eD,none⟩) (fH ++ [u2]).length eE]),(aV.set u9.toNat (fH ++ [u2])),rfl,rfl,cN,(J0 _),(F3.f2 (q:=N0.R eB) (λ_ _ _ h=>N0.toR h) cO),⟨_,cO,eF⟩,aD⟩
   ·exact T2 bT ⟨u8,(IntKind.i64.wrap (u9+1)),aF,aV,rfl,rfl,(aY.trans bJ),(J0 _),(F2.up (r:=N0.toRp) bJ aJ),⟨_,(x04 aM bJ),aN⟩,aD⟩
  ·obtain rfl:=oJ aD
   try dsimp only[U0,V0]at aL
   refine ifB aL (λeI aL=>?_) λeI aL=>?_
   ·intro iX fK f66
    obtain⟨bL,bM,rfl,cP,aU,gQ⟩:=Q0.out (r:=Wp.int.toRp) f66 (show F2 (Wp.int.R eU) ([[.int .i64 u2]]:List (List Value)) [u2] from⟨⟨rfl,cQ⟩,trivial⟩)
    obtain⟨iY,eJ,aL⟩:=C0 aL
    refine aI (E1 eJ (by first|rw[F2.length (F2.up (r:=N0.toRp) aU aJ),F2.length (show F2 (N0.R fK) ([[.slice bL ([u2]).length bM]]:List (List Value)) [[u2]] from⟨cP,trivial⟩)]|exact congrArg (·+1) (F2.length (F2.up (r:=N0.toRp) aU aJ)))) ?_
    obtain⟨Bb69,eK,eM,_⟩:=(Q0.newPlain (r:=Wp.int) f66 (show F2 (Wp.int.R eU) ([[.int .i64 u2]]:List (List Value)) [u2] from⟨⟨rfl,cQ⟩,trivial⟩) (U01 _))
    exact T2 m5 ⟨(IntKind.i64.wrap (u2+1)),(aF++([[.slice bL ([u2]).length bM]]:List (List Value))),(aV ++ [[u2]]),rfl,rfl,(aY.trans aU),(J0 _),(F2.append (F2.up (r:=N0.toRp) aU aJ) (show F2 (N0.R fK) ([[.slice bL ([u2]).length bM]]:List (List Value)) [[u2]] from⟨cP,trivial⟩)),⟨_,(F3.snoc eK (x04 aM aU)),(C02 aM aY aN eM)⟩,aL⟩
   ·exact T2 m5 ⟨(IntKind.i64.wrap (u2+1)),aF,aV,rfl,rfl,aY,(J0 _),aJ,⟨_,aM,aN⟩,aL⟩
 ·obtain rfl:=oJ aL
  try dsimp only[U0,V0]at bP
  intro gR gS fL
  have eN:New (Wp.slice N0) h gS [gR] u3:=(Q0.fresh (r:=N0) fL bR eR bS)
  obtain⟨eO,eP,rfl,gT,gU,gV⟩:=Q0.out (r:=N0.toRp) fL eT
  obtain rfl:=oJ bP
  exact⟨eO,u3.length,eP,rfl,eN⟩
theorem C04(h:Hp)(aC:Option Addr)(aK aD:Nat)(p0:B0)(aL:N0.R h [.slice aC aK aD] p0)(r:B0)(aB:C8 p0=some r):
  Tr Tryz.prog 93 #[.slice aC aK aD] h λv h'=>∃(g0:Nat) (n0 c0:Nat),v = .slice (some ⟨g0,0,none⟩) n0 c0/\New N0 h h' [.slice (some ⟨g0,0,none⟩) n0 c0] r:=by
 obtain⟨rfl,aQ⟩:=Sl.len aL
 unfold C8 at aB
 refine G3 (args:=[.slice aC p0.length aD]) (fn:=Tryz.f93) rfl ?_
 obtain⟨aF,aM,aJ⟩:=Sl.rows (r:=Wp.int.toRp) aL
 refine eX aF (aI aM ?_)
 obtain⟨q2,aN,aB⟩:=C0 aB
 refine aI (E1 aN (by first|rw[F2.length (show F2 (Wp.int.R h) ([]:List (List Value)) ([]:B0) from trivial),F2.length aJ]|exact congrArg (·+1) (F2.length (show F2 (Wp.int.R h) ([]:List (List Value)) ([]:B0) from trivial)))) ?_
 intro v3 k4 f5
 obtain⟨aO,aP,rfl,aR,aS,aT⟩:=Q0.outS (r:=Wp.int.toRp) f5 (F2.append (show F2 (Wp.int.R h) ([]:List (List Value)) ([]:B0) from trivial) aJ)
 obtain rfl:=oJ aB
 exact⟨aO,((([]:B0)++p0)).length,aP,rfl,(Q0.newPlain (r:=Wp.int) f5 (F2.append (show F2 (Wp.int.R h) ([]:List (List Value)) ([]:B0) from trivial) aJ) (U01 _))⟩
end Go.Proofs.YtkjhghloldgioaaGreat
