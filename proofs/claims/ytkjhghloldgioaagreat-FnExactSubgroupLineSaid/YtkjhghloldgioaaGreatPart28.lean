/- Texts of the claim, joined: The walks of batch 1 and others. -/
import Derived.Test.YtkjhghloldgioaaGreatPart20
import Derived.Test.YtkjhghloldgioaaGreatChecked
import Derived.Test.YtkjhghloldgioaaGreatH35
import Derived.Test.YtkjhghloldgioaaGreatSI
import Derived.Test.YtkjhghloldgioaaGreatPart23
namespace Go.Proofs.YtkjhghloldgioaaGreat
open Go.H
set_option linter.unusedVariables false
set_option linter.unusedSimpArgs false
set_option maxRecDepth 10000
theorem Z8(h:Hp)(p0:Int)(aB:P0 p0)(p1:Int)(aC:P0 p1)(p2:Int)(aD:P0 p2)(r:Bool)(aA:Z5 p0 p1 p2=some r):
  Tr Tryz.prog 76 #[.int .i64 p0,.int .i64 p1,.int .i64 p2] h λv h'=>v = .bool r/\h'=h:=by
 unfold Z5 at aA
 refine Tr.forget (O2 (args:=[.int .i64 p0,.int .i64 p1,.int .i64 p2]) (fn:=Tryz.f76) rfl ?_)
 obtain rfl:=oJ aA
 exact aI rfl (Sub.refl _)
theorem y01(h:Hp)(p0:Int)(aB:P0 p0)(p1:Int)(aC:P0 p1)(p2:Int)(aD:P0 p2)(r:Bool)(aA:C8 p0 p1 p2=some r):
  Tr Tryz.prog 78 #[.int .i64 p0,.int .i64 p1,.int .i64 p2] h λv h'=>v = .bool r/\h'=h:=by
 unfold C8 at aA
 refine Tr.forget (O2 (args:=[.int .i64 p0,.int .i64 p1,.int .i64 p2]) (fn:=Tryz.f78) rfl ?_)
 obtain rfl:=oJ aA
 exact aI rfl (Sub.refl _)
theorem u0a(h:Hp)(p0:Int)(aB:P0 p0)(p1:Int)(aC:P0 p1)(r:Bool)(aA:k00 p0 p1=some r):
  Tr Tryz.prog 198 #[.int .i64 p0,.int .i64 p1] h λv h'=>v = .bool r/\h'=h:=by
 unfold k00 at aA
 refine Tr.forget (O2 (args:=[.int .i64 p0,.int .i64 p1]) (fn:=Tryz.f198) rfl ?_)
 obtain rfl:=oJ aA
 exact aI rfl (Sub.refl _)
theorem z02(h:Hp)(p0:Int)(aD:P0 p0)(p1:Int)(aF:P0 p1)(r:Int)(aA:d7 p0 p1=some r):
  Tr Tryz.prog 342 #[.int .i64 p0,.int .i64 p1] h λv h'=>v = .int .i64 r/\h'=h:=by
 unfold d7 at aA
 refine Tr.forget (O2 (args:=[.int .i64 p0,.int .i64 p1]) (fn:=Tryz.f342) rfl ?_)
 refine ifB aA (λaB aA=>?_) λaB aA=>?_
 ·obtain rfl:=oJ aA
  exact aI rfl (Sub.refl _)
 ·refine ifB aA (λaC aA=>?_) λaC aA=>?_
  ·obtain rfl:=oJ aA
   exact aI rfl (Sub.refl _)
  ·obtain rfl:=oJ aA
   exact aI rfl (Sub.refl _)
theorem j03(h:Hp)(p0:Int)(aP:P0 p0)(r:ByteArray)(aB:t8 p0=some r):
  Tr Tryz.prog 108 #[.int .i64 p0] h λv h'=>v = .string r/\h'=h:=by
 unfold t8 at aB
 refine Tr.forget (O2 (args:=[.int .i64 p0]) (fn:=Tryz.f108) rfl ?_)
 refine ifB aB (λaQ aB=>?_) λaQ aB=>?_
 ·obtain rfl:=oJ aB
  exact aI rfl (Sub.refl _)
 ·obtain⟨X2,aG,aB⟩:=l0 aB
  refine eX { vars:=[0,3],boxes:=[],owns:=[],fuel:=true } (eX (λvs os h'=>∃ u3 u4,vs.tail = [.int .i64 u3,.string u4]/\os = []/\Sub h h'/\P0 u3/\u4.size<=9223372036854775807/\K4 (I1 vs) u3 u4=some X2) (eX (λ_ _=>0) (aI (eX Q0 ⟨p0,(⟨#[]⟩:ByteArray),rfl,rfl,(Sub.refl _),aP,(by decide),aG⟩) ?_)))
  rintro _ _ m6 k5 ⟨u3,u4,⟨⟩,⟨⟩,aF,aW,aX,aA⟩
  replace aA:K4 m6 u3 u4=some X2:=aA
  obtain _|m6:=m6
  ·cases aA
  rw[K4.eq_2]at aA
  refine ifB aA (λaR aA=>?_) λaR aA=>?_
  ·obtain⟨q8,aS,aA⟩:=l0 aA
   refine aI (I0 aS) ?_
   refine ifB aA (λaT aA=>?_) λaT aA=>?_
   ·refine eX [(IntKind.u8.wrap (IntKind.i64.wrap (48+(IntKind.i64.wrap (0-(Int.tmod u3 10))))))] (aI (F2.u8 (show F2 (Rp.u8.R k5) ([[.int .u8 (IntKind.u8.wrap (IntKind.i64.wrap (48+(IntKind.i64.wrap (0-(Int.tmod u3 10))))))]]:List (List Value)) [(IntKind.u8.wrap (IntKind.i64.wrap (48+(IntKind.i64.wrap (0-(Int.tmod u3 10))))))] from⟨rfl,trivial⟩)) ?_)
    obtain⟨aY,aU,aA⟩:=l0 aA
    obtain⟨aZ,aH,aA⟩:=l0 aA
    have aC:=I0 aH
    refine aI aC ?_
    obtain⟨bA,aJ,aA⟩:=l0 aA
    refine aI (I0 aJ) ?_
    exact D2 m6 ⟨(IntKind.i64.wrap (Int.tdiv u3 10)),((strOfNums [(IntKind.u8.wrap (IntKind.i64.wrap (48+(IntKind.i64.wrap (0-(Int.tmod u3 10))))))])++u4),rfl,rfl,aF,(J0 _),(A04 aC),aA⟩
   ·refine eX [(IntKind.u8.wrap (IntKind.i64.wrap (48+(Int.tmod u3 10))))] (aI (F2.u8 (show F2 (Rp.u8.R k5) ([[.int .u8 (IntKind.u8.wrap (IntKind.i64.wrap (48+(Int.tmod u3 10))))]]:List (List Value)) [(IntKind.u8.wrap (IntKind.i64.wrap (48+(Int.tmod u3 10))))] from⟨rfl,trivial⟩)) ?_)
    obtain⟨bB,aV,aA⟩:=l0 aA
    obtain⟨bC,aK,aA⟩:=l0 aA
    have aD:=I0 aK
    refine aI aD ?_
    obtain⟨bD,aL,aA⟩:=l0 aA
    refine aI (I0 aL) ?_
    exact D2 m6 ⟨(IntKind.i64.wrap (Int.tdiv u3 10)),((strOfNums [(IntKind.u8.wrap (IntKind.i64.wrap (48+(Int.tmod u3 10))))])++u4),rfl,rfl,aF,(J0 _),(A04 aD),aA⟩
  ·obtain rfl:=oJ aA
   try dsimp only[S0,T0]at aB
   refine ifB aB (λaM aB=>?_) λaM aB=>?_
   ·obtain⟨bE,aN,aB⟩:=l0 aB
    have aO:=I0 aN
    refine aI aO ?_
    obtain rfl:=oJ aB
    exact aI rfl aF
   ·obtain rfl:=oJ aB
    exact aI rfl aF
theorem w0c(h:Hp)(p0:Int)(aB:P0 p0)(r:Bool)(aA:q01 p0=some r):
  Tr Tryz.prog 307 #[.int .i64 p0] h λv h'=>v = .bool r/\h'=h:=by
 unfold q01 at aA
 refine Tr.forget (O2 (args:=[.int .i64 p0]) (fn:=Tryz.f307) rfl ?_)
 refine trG aA (λq=>Z8 _ _ aB (-3) (by decide) 3 (by decide)) λx1 aA=>?_
 obtain rfl:=oJ aA
 exact aI rfl (Sub.refl _)
theorem m0f(h:Hp)(p0:Int)(aO:P0 p0)(r:ByteArray)(aA:o03 p0=some r):
  Tr Tryz.prog 262 #[.int .i64 p0] h λv h'=>v = .string r/\h'=h:=by
 unfold o03 at aA
 refine Tr.forget (O2 (args:=[.int .i64 p0]) (fn:=Tryz.f262) rfl ?_)
 refine ifB aA (λaB aA=>?_) λaB aA=>?_
 ·obtain⟨x2,aC,aA⟩:=l0 aA
  obtain⟨aD,aF,aG,aH⟩:=P1 (show F2 (Wp.str.R h) ([[.string (⟨#[65]⟩:ByteArray)],[.string (⟨#[66]⟩:ByteArray)],[.string (⟨#[67]⟩:ByteArray)]]:List (List Value)) [(⟨#[65]⟩:ByteArray),(⟨#[66]⟩:ByteArray),(⟨#[67]⟩:ByteArray)] from⟨⟨rfl,(by decide)⟩,⟨⟨rfl,(by decide)⟩,⟨⟨rfl,(by decide)⟩,trivial⟩⟩⟩) aC
  refine aI aD ?_
  obtain⟨rfl,aP⟩:=aH
  refine eX _ (aI aG ?_)
  obtain rfl:=oJ aA
  exact aI rfl (Sub.refl _)
 ·obtain⟨x3,aJ,aA⟩:=l0 aA
  obtain⟨aK,aL,aM,aN⟩:=P1 (show F2 (Wp.str.R h) ([[.string (⟨#[97]⟩:ByteArray)],[.string (⟨#[98]⟩:ByteArray)],[.string (⟨#[99]⟩:ByteArray)]]:List (List Value)) [(⟨#[97]⟩:ByteArray),(⟨#[98]⟩:ByteArray),(⟨#[99]⟩:ByteArray)] from⟨⟨rfl,(by decide)⟩,⟨⟨rfl,(by decide)⟩,⟨⟨rfl,(by decide)⟩,trivial⟩⟩⟩) aJ
  refine aI aK ?_
  obtain⟨rfl,aQ⟩:=aN
  refine eX _ (aI aM ?_)
  obtain rfl:=oJ aA
  exact aI rfl (Sub.refl _)
theorem j05(h:Hp)(aF:Option Addr)(aO aG:Nat)(p0:F0)(aH:W0.R h [.slice aF aO aG] p0)(r:ByteArray)(aB:g9 p0=some r):
  Tr Tryz.prog 230 #[.slice aF aO aG] h λv h'=>v = .string r/\h'=h:=by
 obtain⟨rfl,aU⟩:=Sl.len aH
 unfold g9 at aB
 refine Tr.forget (O2 (args:=[.slice aF p0.length aG]) (fn:=Tryz.f230) rfl ?_)
 obtain⟨X1,aJ,aB⟩:=l0 aB
 refine eX { vars:=[3,4],boxes:=[],owns:=[],fuel:=true } (eX (λvs os h'=>∃ u2 u3,vs.tail = [.string u2,.int .i64 u3]/\os = []/\Sub h h'/\u2.size<=9223372036854775807/\P0 u3/\O5 p0 (I1 vs) u2 u3=some X1) (eX (λ_ _=>0) (aI (eX Q0 ⟨(⟨#[]⟩:ByteArray),0,rfl,rfl,(Sub.refl _),(by decide),(by decide),aJ⟩) ?_)))
 rintro _ _ m5 k4 ⟨u2,u3,⟨⟩,⟨⟩,aC,aV,aW,aA⟩
 replace aA:O5 p0 m5 u2 u3=some X1:=aA
 obtain _|m5:=m5
 ·cases aA
 rw[O5.eq_2]at aA
 refine ifB aA (λaQ aA=>?_) λaQ aA=>?_
 ·refine ldI aA (W0.mono aC aH) λx7 aR aA=>?_
  refine trV aA (w0c _ _ aR) λx8 aA=>?_
  refine ifB aA (λaS aA=>?_) λaS aA=>?_
  ·obtain rfl:=oJ aA
   try dsimp only[n5,G5]at aB
   obtain rfl:=oJ aB
   exact aI rfl aC
  ·refine ldI aA (W0.mono aC aH) λaX aK aA=>?_
   refine trV aA (m0f _ _ aK) λaP aA=>?_
   obtain⟨aY,aL,aA⟩:=l0 aA
   have aT:aP.size<=9223372036854775807:=I0 aL
   obtain⟨aZ,aM,aA⟩:=l0 aA
   have aD:=I0 aM
   refine aI aD ?_
   exact D2 m5 ⟨(u2++aP),(IntKind.i64.wrap (u3+1)),rfl,rfl,aC,(A04 aD),(J0 _),aA⟩
 ·obtain rfl:=oJ aA
  try dsimp only[S0,T0]at aB
  refine ifB aB (λaN aB=>?_) λaN aB=>?_
  ·obtain rfl:=oJ aB
   exact aI rfl aC
  ·obtain rfl:=oJ aB
   exact aI rfl aC
theorem M04(h:Hp)(aH:Option Addr)(aU aJ:Nat)(p0:E2)(aK:l9.R h [.slice aH aU aJ] p0)(r:ByteArray)(aB:w8 p0=some r):
  Tr Tryz.prog 122 #[.slice aH aU aJ] h λv h'=>v = .string r/\h'=h:=by
 obtain⟨rfl,bJ⟩:=Sl.len aK
 unfold w8 at aB
 refine Tr.forget (O2 (args:=[.slice aH p0.length aJ]) (fn:=Tryz.f122) rfl ?_)
 obtain⟨X1,aL,aB⟩:=l0 aB
 refine eX { vars:=[3,4],boxes:=[],owns:=[],fuel:=true } (eX (λvs os h'=>∃ u2 u3,vs.tail = [.string u2,.int .i64 u3]/\os = []/\Sub h h'/\u2.size<=9223372036854775807/\P0 u3/\I3 p0 (I1 vs) u2 u3=some X1) (eX (λ_ _=>0) (aI (eX Q0 ⟨(⟨#[]⟩:ByteArray),0,rfl,rfl,(Sub.refl _),(by decide),(by decide),aL⟩) ?_)))
 rintro _ _ m5 k4 ⟨u2,u3,⟨⟩,⟨⟩,aC,bK,bL,aA⟩
 replace aA:I3 p0 m5 u2 u3=some X1:=aA
 obtain _|m5:=m5
 ·cases aA
 rw[I3.eq_2]at aA
 refine ifB aA (λaY aA=>?_) λaY aA=>?_
 ·refine ifB aA (λaZ aA=>?_) λaZ aA=>?_
  ·obtain⟨q8,bA,aA⟩:=l0 aA
   have bB:=I0 bA
   refine aI bB ?_
   refine ld aA (l9.mono aC aK) λx9 bC aM aA=>?_
   obtain⟨bM,bN,bO,rfl⟩:=Wp.slice_cell aM
   obtain⟨rfl,bP⟩:=Sl.len aM
   refine trV aA (j05 _ _ _ _ _ aM) λaV aA=>?_
   obtain⟨bQ,aN,aA⟩:=l0 aA
   have bD:aV.size<=9223372036854775807:=I0 aN
   refine ifB aA (λaO aA=>?_) λaO aA=>?_
   ·obtain rfl:=oJ aA
    try dsimp only[n5,G5]at aB
    obtain rfl:=oJ aB
    exact aI rfl aC
   ·obtain⟨bR,aP,aA⟩:=l0 aA
    have aF:=I0 aP
    refine aI aF ?_
    exact D2 m5 ⟨((u2++(⟨#[44]⟩:ByteArray))++aV),(IntKind.i64.wrap (u3+1)),rfl,rfl,aC,(A04 aF),(J0 _),aA⟩
  ·refine ld aA (l9.mono aC aK) λbS aW aD aA=>?_
   obtain⟨bE,bF,bG,rfl⟩:=Wp.slice_cell aD
   obtain⟨rfl,bH⟩:=Sl.len aD
   refine trV aA (j05 _ _ _ _ _ aD) λaX aA=>?_
   obtain⟨bT,aQ,aA⟩:=l0 aA
   have bI:aX.size<=9223372036854775807:=I0 aQ
   refine ifB aA (λaR aA=>?_) λaR aA=>?_
   ·obtain rfl:=oJ aA
    try dsimp only[n5,G5]at aB
    obtain rfl:=oJ aB
    exact aI rfl aC
   ·obtain⟨bU,aS,aA⟩:=l0 aA
    have aG:=I0 aS
    refine aI aG ?_
    exact D2 m5 ⟨(u2++aX),(IntKind.i64.wrap (u3+1)),rfl,rfl,aC,(A04 aG),(J0 _),aA⟩
 ·obtain rfl:=oJ aA
  try dsimp only[S0,T0]at aB
  refine ifB aB (λaT aB=>?_) λaT aB=>?_
  ·obtain rfl:=oJ aB
   exact aI rfl aC
  ·obtain rfl:=oJ aB
   exact aI rfl aC
theorem P00(h:Hp)(p0:Int)(dG:P0 p0)(r:ByteArray)(aB:I6 p0=some r):
  Tr Tryz.prog 114 #[.int .i64 p0] h λv h'=>v = .string r/\h'=h:=by
 unfold I6 at aB
 refine Tr.forget (O2 (args:=[.int .i64 p0]) (fn:=Tryz.f114) rfl ?_)
 refine ifB aB (λdH aB=>?_) λdH aB=>?_
 ·obtain rfl:=oJ aB
  exact aI rfl (Sub.refl _)
 ·obtain⟨X2,bB,aB⟩:=l0 aB
  refine eX { vars:=[4],boxes:=[],owns:=[0],fuel:=true } (eX (λvs os h'=>∃ u3 aG u4,vs.tail = [.int .i64 u3]/\os = [aG]/\Sub h h'/\P0 u3/\F2 (Rp.u8.R h') aG u4/\L4 (I1 vs) u3 u4=some X2) (eX (λ_ _=>0) (aI (eX Q0 ⟨p0,[],([]:(List Int)),rfl,rfl,(Sub.refl _),dG,(show F2 (Rp.u8.R h) ([]:List (List Value)) ([]:(List Int)) from trivial),bB⟩) ?_)))
  rintro _ aG m6 k5 ⟨u3,dI,u4,⟨⟩,⟨⟩,aY,dW,aF,aA⟩
  replace aA:L4 m6 u3 u4=some X2:=aA
  obtain _|m6:=m6
  ·cases aA
  rw[L4.eq_2]at aA
  refine ifB aA (λdJ aA=>?_) λdJ aA=>?_
  ·obtain⟨q8,dK,aA⟩:=l0 aA
   refine aI (I0 dK) ?_
   refine ifB aA (λdL aA=>?_) λdL aA=>?_
   ·obtain⟨dX,bC,aA⟩:=l0 aA
    refine aI (J1 bC (by first|rw[F2.length aF,F2.length (show F2 (Rp.u8.R k5) ([[.int .u8 (IntKind.u8.wrap (IntKind.i64.wrap (48+(IntKind.i64.wrap (0-(Int.tmod u3 10))))))]]:List (List Value)) [(IntKind.u8.wrap (IntKind.i64.wrap (48+(IntKind.i64.wrap (0-(Int.tmod u3 10))))))] from⟨rfl,trivial⟩)]|exact congrArg (·+1) (F2.length aF))) ?_
    obtain⟨dY,bD,aA⟩:=l0 aA
    refine aI (I0 bD) ?_
    exact D2 m6 ⟨(IntKind.i64.wrap (Int.tdiv u3 10)),(aG++([[.int .u8 (IntKind.u8.wrap (IntKind.i64.wrap (48+(IntKind.i64.wrap (0-(Int.tmod u3 10))))))]]:List (List Value))),(u4 ++ [(IntKind.u8.wrap (IntKind.i64.wrap (48+(IntKind.i64.wrap (0-(Int.tmod u3 10))))))]),rfl,rfl,aY,(J0 _),(F2.append aF (show F2 (Rp.u8.R k5) ([[.int .u8 (IntKind.u8.wrap (IntKind.i64.wrap (48+(IntKind.i64.wrap (0-(Int.tmod u3 10))))))]]:List (List Value)) [(IntKind.u8.wrap (IntKind.i64.wrap (48+(IntKind.i64.wrap (0-(Int.tmod u3 10))))))] from⟨rfl,trivial⟩)),aA⟩
   ·obtain⟨dZ,bE,aA⟩:=l0 aA
    refine aI (J1 bE (by first|rw[F2.length aF,F2.length (show F2 (Rp.u8.R k5) ([[.int .u8 (IntKind.u8.wrap (IntKind.i64.wrap (48+(Int.tmod u3 10))))]]:List (List Value)) [(IntKind.u8.wrap (IntKind.i64.wrap (48+(Int.tmod u3 10))))] from⟨rfl,trivial⟩)]|exact congrArg (·+1) (F2.length aF))) ?_
    obtain⟨eA,bF,aA⟩:=l0 aA
    refine aI (I0 bF) ?_
    exact D2 m6 ⟨(IntKind.i64.wrap (Int.tdiv u3 10)),(aG++([[.int .u8 (IntKind.u8.wrap (IntKind.i64.wrap (48+(Int.tmod u3 10))))]]:List (List Value))),(u4 ++ [(IntKind.u8.wrap (IntKind.i64.wrap (48+(Int.tmod u3 10))))]),rfl,rfl,aY,(J0 _),(F2.append aF (show F2 (Rp.u8.R k5) ([[.int .u8 (IntKind.u8.wrap (IntKind.i64.wrap (48+(Int.tmod u3 10))))]]:List (List Value)) [(IntKind.u8.wrap (IntKind.i64.wrap (48+(Int.tmod u3 10))))] from⟨rfl,trivial⟩)),aA⟩
  ·obtain rfl:=oJ aA
   try dsimp only[S0,T0]at aB
   refine ifB aB (λbG aB=>?_) λbG aB=>?_
   ·obtain⟨eC,bH,aB⟩:=l0 aB
    refine aI (J1 bH (by first|rw[F2.length aF,F2.length (show F2 (Rp.u8.R k5) ([[.int .u8 45]]:List (List Value)) [45] from⟨rfl,trivial⟩)]|exact congrArg (·+1) (F2.length aF))) ?_
    obtain⟨dM,bI,aB⟩:=l0 aB
    obtain rfl:(aG++([[.int .u8 45]]:List (List Value))).length=dM:=(F2.length (F2.append aF (show F2 (Rp.u8.R k5) ([[.int .u8 45]]:List (List Value)) [45] from⟨rfl,trivial⟩))).trans (oJ bI)
    obtain⟨eD,dN,aB⟩:=l0 aB
    obtain⟨X18,aS,aB⟩:=l0 aB
    refine eX { vars:=[6,7],boxes:=[],owns:=[0],fuel:=true,kept:=[0] } (eX (λvs os h'=>∃ aH aK aL aQ,vs.tail = [.int .i64 aH,.int .i64 aK]/\os = [aL]/\Sub k5 h'/\P0 aH/\P0 aK/\F2 (Rp.u8.R h') aL aQ/\Q3 (I1 vs) aH aK aQ=some X18) (eX (λ_ _=>0) (aI (eX Q0 ⟨0,(IntKind.i64.wrap ((((aG++([[.int .u8 45]]:List (List Value))).length:Nat):Int)-1)),(aG++([[.int .u8 45]]:List (List Value))),(u4 ++ [45]),rfl,rfl,(Sub.refl _),(by decide),(J0 _),(F2.append aF (show F2 (Rp.u8.R k5) ([[.int .u8 45]]:List (List Value)) [45] from⟨rfl,trivial⟩)),aS⟩) ?_)))
    rintro _ _ aL aZ bJ ⟨aH,aK,cW,aQ,⟨⟩,⟨⟩,aT,dO,dP,aC,aA⟩
    replace aA:Q3 aZ aH aK aQ=some X18:=aA
    obtain _|aZ:=aZ
    ·cases aA
    rw[Q3.eq_2]at aA
    refine ifB aA (λbK aA=>?_) λbK aA=>?_
    ·refine Or.inr (Or.inr (Or.inl (aI (aI (by kernel_rfl) (by kernel_rfl)) ?_)))
     obtain⟨aO,bL,aA⟩:=l0 aA
     obtain⟨bM,cX,bN,bO⟩:=P1 aC bL
     obtain rfl:=bO
     refine Or.inl ?_
     apply eX
     refine aI ?_ ?_
     ·intro eE eF
      exact aI bM (aI rfl (aI rfl rfl))
     refine Or.inl (eX (.val (.int .u8 aO)) (aI ?_ ?_))
     ·intro eG eH
      exact eX _ (aI bN (aI rfl (aI rfl rfl)))
     obtain⟨aU,bP,aA⟩:=l0 aA
     obtain⟨bQ,cY,bR,bS⟩:=P1 aC bP
     obtain rfl:=bS
     refine Or.inl ?_
     apply eX
     refine aI ?_ ?_
     ·intro eI eJ
      exact aI bQ (aI rfl (aI rfl rfl))
     refine Or.inl (eX (.val (.int .u8 aU)) (aI ?_ ?_))
     ·intro eK eM
      exact eX _ (aI bR (aI rfl (aI rfl rfl)))
     refine Or.inr ?_
     refine Or.inr ?_
     refine Or.inr ?_
     refine Or.inr ?_
     refine Or.inl (eX 0 (aI (aI rfl rfl) ?_))
     obtain⟨eN,bT,aA⟩:=l0 aA
     obtain⟨bU,cZ,bV,bW⟩:=P1 aC bT
     refine aI bU ?_
     obtain rfl:=bW
     refine aI trivial (aI (by first|exact trivial|exact rfl) ?_)
     refine eX _ (aI bV ?_)
     refine aI trivial (aI (by first|exact trivial|exact rfl) ?_)
     obtain⟨eO,bX,aA⟩:=l0 aA
     obtain⟨bY,dA,bZ,cA⟩:=P1 (F2.set (p:=Rp.u8.R bJ) (a:=[.int .u8 aO]) (b:=aO) rfl aH.toNat aC) bX
     refine aI bY ?_
     obtain rfl:=cA
     refine aI trivial (aI (by first|exact trivial|exact rfl) ?_)
     refine eX _ (aI bZ ?_)
     refine aI trivial (aI (by first|exact trivial|exact rfl) ?_)
     exact D2 aZ ⟨(IntKind.i64.wrap (aH+1)),(IntKind.i64.wrap (aK-1)),((aL.set aH.toNat [.int .u8 aO]).set aK.toNat [.int .u8 aU]),((aQ.set aH.toNat aO).set aK.toNat aU),rfl,rfl,aT,(J0 _),(J0 _),(F2.set (p:=Rp.u8.R bJ) (a:=[.int .u8 aU]) (b:=aU) rfl aK.toNat (F2.set (p:=Rp.u8.R bJ) (a:=[.int .u8 aO]) (b:=aO) rfl aH.toNat aC)),aA⟩
    ·obtain rfl:=oJ aA
     try dsimp only[S0,T0]at aB
     refine eX aQ (aI (F2.u8 aC) ?_)
     obtain⟨eP,dQ,aB⟩:=l0 aB
     obtain rfl:=oJ aB
     exact aI rfl (aY.trans aT)
   ·obtain⟨dR,cC,aB⟩:=l0 aB
    obtain rfl:aG.length=dR:=(F2.length aF).trans (oJ cC)
    obtain⟨eQ,dS,aB⟩:=l0 aB
    obtain⟨X45,aV,aB⟩:=l0 aB
    refine eX { vars:=[6,7],boxes:=[],owns:=[0],fuel:=true,kept:=[0] } (eX (λvs os h'=>∃ aJ aM aN aR,vs.tail = [.int .i64 aJ,.int .i64 aM]/\os = [aN]/\Sub k5 h'/\P0 aJ/\P0 aM/\F2 (Rp.u8.R h') aN aR/\Q3 (I1 vs) aJ aM aR=some X45) (eX (λ_ _=>0) (aI (eX Q0 ⟨0,(IntKind.i64.wrap (((aG.length:Nat):Int)-1)),aG,u4,rfl,rfl,(Sub.refl _),(by decide),(J0 _),aF,aV⟩) ?_)))
    rintro _ _ aN bA cD ⟨aJ,aM,dB,aR,⟨⟩,⟨⟩,aW,dT,dU,aD,aA⟩
    replace aA:Q3 bA aJ aM aR=some X45:=aA
    obtain _|bA:=bA
    ·cases aA
    rw[Q3.eq_2]at aA
    refine ifB aA (λcE aA=>?_) λcE aA=>?_
    ·refine Or.inr (Or.inr (Or.inl (aI (aI (by kernel_rfl) (by kernel_rfl)) ?_)))
     obtain⟨aP,cG,aA⟩:=l0 aA
     obtain⟨cH,dC,cI,cJ⟩:=P1 aD cG
     obtain rfl:=cJ
     refine Or.inl ?_
     apply eX
     refine aI ?_ ?_
     ·intro eR eT
      exact aI cH (aI rfl (aI rfl rfl))
     refine Or.inl (eX (.val (.int .u8 aP)) (aI ?_ ?_))
     ·intro eU eV
      exact eX _ (aI cI (aI rfl (aI rfl rfl)))
     obtain⟨aX,cK,aA⟩:=l0 aA
     obtain⟨cL,dD,cM,cN⟩:=P1 aD cK
     obtain rfl:=cN
     refine Or.inl ?_
     apply eX
     refine aI ?_ ?_
     ·intro eW eY
      exact aI cL (aI rfl (aI rfl rfl))
     refine Or.inl (eX (.val (.int .u8 aX)) (aI ?_ ?_))
     ·intro eZ fA
      exact eX _ (aI cM (aI rfl (aI rfl rfl)))
     refine Or.inr ?_
     refine Or.inr ?_
     refine Or.inr ?_
     refine Or.inr ?_
     refine Or.inl (eX 0 (aI (aI rfl rfl) ?_))
     obtain⟨fB,cO,aA⟩:=l0 aA
     obtain⟨cP,dE,cQ,cR⟩:=P1 aD cO
     refine aI cP ?_
     obtain rfl:=cR
     refine aI trivial (aI (by first|exact trivial|exact rfl) ?_)
     refine eX _ (aI cQ ?_)
     refine aI trivial (aI (by first|exact trivial|exact rfl) ?_)
     obtain⟨fC,cS,aA⟩:=l0 aA
     obtain⟨cT,dF,cU,cV⟩:=P1 (F2.set (p:=Rp.u8.R cD) (a:=[.int .u8 aP]) (b:=aP) rfl aJ.toNat aD) cS
     refine aI cT ?_
     obtain rfl:=cV
     refine aI trivial (aI (by first|exact trivial|exact rfl) ?_)
     refine eX _ (aI cU ?_)
     refine aI trivial (aI (by first|exact trivial|exact rfl) ?_)
     exact D2 bA ⟨(IntKind.i64.wrap (aJ+1)),(IntKind.i64.wrap (aM-1)),((aN.set aJ.toNat [.int .u8 aP]).set aM.toNat [.int .u8 aX]),((aR.set aJ.toNat aP).set aM.toNat aX),rfl,rfl,aW,(J0 _),(J0 _),(F2.set (p:=Rp.u8.R cD) (a:=[.int .u8 aX]) (b:=aX) rfl aM.toNat (F2.set (p:=Rp.u8.R cD) (a:=[.int .u8 aP]) (b:=aP) rfl aJ.toNat aD)),aA⟩
    ·obtain rfl:=oJ aA
     try dsimp only[S0,T0]at aB
     refine eX aR (aI (F2.u8 aD) ?_)
     obtain⟨fD,dV,aB⟩:=l0 aB
     obtain rfl:=oJ aB
     exact aI rfl (aY.trans aW)
theorem v0a(h:Hp)(p0:Int)(aB:P0 p0)(r:ByteArray)(aA:p00 p0=some r):
  Tr Tryz.prog 268 #[.int .i64 p0] h λv h'=>v = .string r/\h'=h:=by
 unfold p00 at aA
 refine Tr.forget (O2 (args:=[.int .i64 p0]) (fn:=Tryz.f268) rfl ?_)
 refine trV aA (y01 _ _ aB 1 (by decide) 3 (by decide)) λx1 aA=>?_
 refine ifB aA (λaC aA=>?_) λaC aA=>?_
 ·obtain⟨q3,aD,aA⟩:=l0 aA
  refine aI (I0 aD) ?_
  obtain rfl:=oJ aA
  exact aI rfl (Sub.refl _)
 ·refine trV aA (y01 _ _ aB (-3) (by decide) (-1) (by decide)) λx4 aA=>?_
  refine ifB aA (λaF aA=>?_) λaF aA=>?_
  ·obtain⟨q6,aG,aA⟩:=l0 aA
   refine aI (I0 aG) ?_
   obtain rfl:=oJ aA
   exact aI rfl (Sub.refl _)
  ·obtain rfl:=oJ aA
   exact aI rfl (Sub.refl _)
theorem w0a(h:Hp)(aF:Option Addr)(aM aG:Nat)(p0:F0)(aN:W0.R h [.slice aF aM aG] p0)(r:ByteArray)(aB:q00 p0=some r):
  Tr Tryz.prog 235 #[.slice aF aM aG] h λv h'=>v = .string r/\h'=h:=by
 obtain⟨rfl,aR⟩:=Sl.len aN
 unfold q00 at aB
 refine Tr.forget (O2 (args:=[.slice aF p0.length aG]) (fn:=Tryz.f235) rfl ?_)
 refine ifB aB (λaO aB=>?_) λaO aB=>?_
 ·obtain rfl:=oJ aB
  exact aI rfl (Sub.refl _)
 ·obtain⟨X2,aH,aB⟩:=l0 aB
  refine eX { vars:=[3,12],boxes:=[],owns:=[],fuel:=true } (eX (λvs os h'=>∃ u3 u4,vs.tail = [.string u3,.int .i64 u4]/\os = []/\Sub h h'/\u3.size<=9223372036854775807/\P0 u4/\P5 p0 (I1 vs) u3 u4=some X2) (eX (λ_ _=>0) (aI (eX Q0 ⟨(⟨#[]⟩:ByteArray),0,rfl,rfl,(Sub.refl _),(by decide),(by decide),aH⟩) ?_)))
  rintro _ _ m6 k5 ⟨u3,u4,⟨⟩,⟨⟩,aD,aS,aT,aA⟩
  replace aA:P5 p0 m6 u3 u4=some X2:=aA
  obtain _|m6:=m6
  ·cases aA
  rw[P5.eq_2]at aA
  refine ifB aA (λaP aA=>?_) λaP aA=>?_
  ·refine ldI aA (W0.mono aD aN) λx8 aQ aA=>?_
   refine trV aA (v0a _ _ aQ) λx9 aA=>?_
   obtain⟨aU,aJ,aA⟩:=l0 aA
   have aV:x9.size<=9223372036854775807:=I0 aJ
   refine ifB aA (λaK aA=>?_) λaK aA=>?_
   ·obtain rfl:=oJ aA
    try dsimp only[n5,G5]at aB
    obtain rfl:=oJ aB
    exact aI rfl aD
   ·obtain⟨aW,aL,aA⟩:=l0 aA
    have aC:=I0 aL
    refine aI aC ?_
    exact D2 m6 ⟨(u3++x9),(IntKind.i64.wrap (u4+1)),rfl,rfl,aD,(A04 aC),(J0 _),aA⟩
  ·obtain rfl:=oJ aA
   try dsimp only[S0,T0]at aB
   obtain rfl:=oJ aB
   exact aI rfl aD
theorem x0a(h:Hp)(aD:Option Addr)(aQ aF:Nat)(p0:(List ByteArray))(aG:(Wp.slice Wp.str).R h [.slice aD aQ aF] p0)(p1:ByteArray)(bF:p1.size<=9223372036854775807)(p2:ByteArray)(bG:p2.size<=9223372036854775807)(r:ByteArray)(aB:c02 p0 p1 p2=some r):
  Tr Tryz.prog 222 #[.slice aD aQ aF,.string p1,.string p2] h λv h'=>v = .string r/\h'=h:=by
 obtain⟨rfl,bH⟩:=Sl.len aG
 unfold c02 at aB
 refine Tr.forget (O2 (args:=[.slice aD p0.length aF,.string p1,.string p2]) (fn:=Tryz.f222) rfl ?_)
 refine ifB aB (λaT aB=>?_) λaT aB=>?_
 ·obtain rfl:=oJ aB
  exact aI rfl (Sub.refl _)
 ·refine ld aB aG λx2 aU aV aB=>?_
  obtain⟨rfl,aW⟩:=aV
  obtain⟨x3,aX,aB⟩:=l0 aB
  obtain⟨aY,aH,aZ,bA⟩:=Sl.cutI (r:=Wp.str.toRp) aG aX
  refine aI aY (eX aH (aI aZ ?_))
  intro bB aJ _
  obtain⟨bI,bJ,rfl,aR⟩:=bA bB aJ
  have bK:=(Sl.len aR).2
  obtain⟨X4,aK,aB⟩:=l0 aB
  refine eX { vars:=[7,20],boxes:=[],owns:=[],fuel:=true } (eX (λvs os h'=>∃ u5 u6,vs.tail = [.string u5,.int .i64 u6]/\os = []/\Sub h h'/\u5.size<=9223372036854775807/\P0 u6/\Y8 x3 p1 (I1 vs) u5 u6=some X4) (eX (λ_ _=>0) (aI (eX Q0 ⟨x2,0,rfl,rfl,(Sub.refl _),aW,(by decide),aK⟩) ?_)))
  rintro _ _ m8 k7 ⟨u5,u6,⟨⟩,⟨⟩,aL,bL,bM,aA⟩
  replace aA:Y8 x3 p1 m8 u5 u6=some X4:=aA
  obtain _|m8:=m8
  ·cases aA
  rw[Y8.eq_2]at aA
  refine ifB aA (λbC aA=>?_) λbC aA=>?_
  ·refine ld aA ((Wp.slice Wp.str).mono aL aR) λbD aS aM aA=>?_
   obtain⟨rfl,bE⟩:=aM
   obtain⟨bN,aN,aA⟩:=l0 aA
   have aO:=I0 aN
   refine aI aO ?_
   obtain⟨bO,aP,aA⟩:=l0 aA
   have aC:=I0 aP
   refine aI aC ?_
   exact D2 m8 ⟨((u5++p1)++bD),(IntKind.i64.wrap (u6+1)),rfl,rfl,aL,(A04 aC),(J0 _),aA⟩
  ·obtain rfl:=oJ aA
   try dsimp only[S0,T0]at aB
   obtain rfl:=oJ aB
   exact aI rfl aL
theorem A6(h:Hp)(aG:Option Addr)(aQ aH:Nat)(p0:E2)(aR:l9.R h [.slice aG aQ aH] p0)(r:ByteArray)(aB:R3 p0=some r):
  Tr Tryz.prog 126 #[.slice aG aQ aH] h λv h'=>v = .string r/\h'=h:=by
 obtain⟨rfl,bE⟩:=Sl.len aR
 unfold R3 at aB
 refine Tr.forget (O2 (args:=[.slice aG p0.length aH]) (fn:=Tryz.f126) rfl ?_)
 obtain⟨X1,aJ,aB⟩:=l0 aB
 refine eX { vars:=[10],boxes:=[],owns:=[0],fuel:=true } (eX (λvs os h'=>∃ u2 aC u3,vs.tail = [.int .i64 u2]/\os = [aC]/\Sub h h'/\P0 u2/\F2 (Wp.str.R h') aC u3/\p5 p0 (I1 vs) u2 u3=some X1) (eX (λ_ _=>0) (aI (eX Q0 ⟨0,[],([]:(List ByteArray)),rfl,rfl,(Sub.refl _),(by decide),(show F2 (Wp.str.R h) ([]:List (List Value)) ([]:(List ByteArray)) from trivial),aJ⟩) ?_)))
 rintro _ aC m5 k4 ⟨u2,aT,u3,⟨⟩,⟨⟩,aD,bF,aF,aA⟩
 replace aA:p5 p0 m5 u2 u3=some X1:=aA
 obtain _|m5:=m5
 ·cases aA
 rw[p5.eq_2]at aA
 refine ifB aA (λaU aA=>?_) λaU aA=>?_
 ·refine ld aA (l9.mono aD aR) λx7 aV aK aA=>?_
  obtain⟨bG,bH,bI,rfl⟩:=Wp.slice_cell aK
  obtain⟨rfl,bJ⟩:=Sl.len aK
  refine trV aA (w0a _ _ _ _ _ aK) λx8 aA=>?_
  obtain⟨q9,aW,aA⟩:=l0 aA
  have aS:x8.size<=9223372036854775807:=I0 aW
  refine ifB aA (λaL aA=>?_) λaL aA=>?_
  ·obtain rfl:=oJ aA
   try dsimp only[n5,G5]at aB
   obtain rfl:=oJ aB
   exact aI rfl aD
  ·obtain⟨bK,aM,aA⟩:=l0 aA
   refine aI (J1 aM (by first|rw[F2.length aF,F2.length (show F2 (Wp.str.R k4) ([[.string x8]]:List (List Value)) [x8] from⟨⟨rfl,aS⟩,trivial⟩)]|exact congrArg (·+1) (F2.length aF))) ?_
   exact D2 m5 ⟨(IntKind.i64.wrap (u2+1)),(aC++([[.string x8]]:List (List Value))),(u3 ++ [x8]),rfl,rfl,aD,(J0 _),(F2.append aF (show F2 (Wp.str.R k4) ([[.string x8]]:List (List Value)) [x8] from⟨⟨rfl,aS⟩,trivial⟩)),aA⟩
 ·obtain rfl:=oJ aA
  try dsimp only[S0,T0]at aB
  refine Or.inr ?_
  intro bL bM aX
  obtain⟨aY,aZ,rfl,aN,bA,bB⟩:=U0.out (r:=Wp.str.toRp) aX aF
  obtain⟨bC,aO,aB⟩:=l0 aB
  refine Tr.val (x0a _ _ _ _ _ aN (⟨#[44]⟩:ByteArray) (by decide) (⟨#[110,111,110,101]⟩:ByteArray) (by decide) _  aO) (aI rfl ?_)
  obtain⟨bN,aP,aB⟩:=l0 aB
  have bD:bC.size<=9223372036854775807:=I0 aP
  obtain rfl:=oJ aB
  exact aI rfl aD
theorem n0f(h:Hp)(aC:List Value)(p0:j0)(aV:Z0.R h aC p0)(aD:List Value)(p1:M0)(aW:E1.R h aD p1)(r:Bool)(aA:n02 p0 p1=some r):
  Tr Tryz.prog 339 #[.agg aC.toArray,.agg aD.toArray] h λv h'=>v = .bool r/\h'=h:=by
 obtain⟨aN,aB,aF,aS,aG,aO,rfl,rfl,aH,aT,aJ⟩:=H0 aV
 obtain⟨rfl,aU⟩:=Sl.len aJ
 obtain⟨aP,aQ,aR,rfl,rfl,aK,aL,aM⟩:=N1 aW
 unfold n02 at aA
 dsimp only at aA
 refine Tr.forget (O2 (args:=[.agg #[.int .i64 aN,.int .i64 aB,.slice aF aO.length aG],.agg #[.int .i64 aP,.int .i64 aQ,.int .i64 aR]]) (fn:=Tryz.f339) rfl ?_)
 refine trV aA (Z8 _ _ aK 0 (by decide) (IntKind.i64.wrap (aB-1)) (J0 _)) λx1 aA=>?_
 refine trG aA (λq=>Z8 _ _ aM 0 (by decide) (IntKind.i64.wrap (aB-1)) (J0 _)) λx2 aA=>?_
 refine trG aA (λq=>Z8 _ _ aL 1 (by decide) _ aH) λx3 aA=>?_
 obtain rfl:=oJ aA
 exact aI rfl (Sub.refl _)
theorem P03(h:Hp)(aR:List Value)(p0:M0)(bA:E1.R h aR p0)(aS:List Value)(p1:M0)(bB:E1.R h aS p1)(r:Int)(aJ:R7 p0 p1=some r):
  Tr Tryz.prog 314 #[.agg aR.toArray,.agg aS.toArray] h λv h'=>v = .int .i64 r/\h'=h:=by
 obtain⟨aB,aC,aD,rfl,rfl,aK,aL,aM⟩:=N1 bA
 obtain⟨aF,aG,aH,rfl,rfl,aN,aO,aP⟩:=N1 bB
 unfold R7 at aJ
 dsimp only at aJ
 refine Tr.forget (O2 (args:=[.agg #[.int .i64 aB,.int .i64 aC,.int .i64 aD],.agg #[.int .i64 aF,.int .i64 aG,.int .i64 aH]]) (fn:=Tryz.f314) rfl ?_)
 obtain⟨X1,aT,aJ⟩:=l0 aJ
 refine eX { vars:=[7],boxes:=[],owns:=[],fuel:=true } (eX (λvs os h'=>∃ u2,vs.tail = [.int .i64 u2]/\os = []/\Sub h h'/\P0 u2/\V6 aB aC aD aF aG aH (I1 vs) u2=some X1) (eX (λ_ _=>0) (aI (eX Q0 ⟨0,rfl,rfl,(Sub.refl _),(by decide),aT⟩) ?_)))
 rintro _ m4 k3 ⟨u2,⟨⟩,⟨⟩,aQ,bU,aA⟩
 replace aA:V6 aB aC aD aF aG aH m4 u2=some X1:=aA
 obtain _|m4:=m4
 ·cases aA
 rw[V6.eq_2]at aA
 refine ifB aA (λbC aA=>?_) λbC aA=>?_
 ·refine Or.inl (aI (aI (by kernel_rfl) (by kernel_rfl)) ?_)
  obtain⟨x6,bD,aA⟩:=l0 aA
  obtain⟨bE,bF,bG,bH⟩:=P1 (F2.up (r:=Wp.int.toRp) aQ (show F2 (Wp.int.R h) ([[.int .i64 aB],[.int .i64 aC],[.int .i64 aD]]:List (List Value)) [aB,aC,aD] from⟨⟨rfl,aK⟩,⟨⟨rfl,aL⟩,⟨⟨rfl,aM⟩,trivial⟩⟩⟩)) bD
  refine aI bE ?_
  obtain⟨rfl,bV⟩:=bH
  refine eX _ (aI bG ?_)
  obtain⟨x7,bI,aA⟩:=l0 aA
  obtain⟨bJ,bK,bL,bM⟩:=P1 (F2.up (r:=Wp.int.toRp) aQ (show F2 (Wp.int.R h) ([[.int .i64 aF],[.int .i64 aG],[.int .i64 aH]]:List (List Value)) [aF,aG,aH] from⟨⟨rfl,aN⟩,⟨⟨rfl,aO⟩,⟨⟨rfl,aP⟩,trivial⟩⟩⟩)) bI
  refine aI bJ ?_
  obtain⟨rfl,bW⟩:=bM
  refine eX _ (aI bL ?_)
  refine ifB aA (λbN aA=>?_) λbN aA=>?_
  ·obtain rfl:=oJ aA
   try dsimp only[n5,G5]at aJ
   obtain rfl:=oJ aJ
   exact aI rfl aQ
  ·refine Or.inl (aI (aI (by kernel_rfl) (by kernel_rfl)) ?_)
   obtain⟨x9,bO,aA⟩:=l0 aA
   obtain⟨bP,bQ,bR,bS⟩:=P1 (F2.up (r:=Wp.int.toRp) aQ (show F2 (Wp.int.R h) ([[.int .i64 aB],[.int .i64 aC],[.int .i64 aD]]:List (List Value)) [aB,aC,aD] from⟨⟨rfl,aK⟩,⟨⟨rfl,aL⟩,⟨⟨rfl,aM⟩,trivial⟩⟩⟩)) bO
   refine aI bP ?_
   obtain⟨rfl,bX⟩:=bS
   refine eX _ (aI bR ?_)
   obtain⟨bY,aU,aA⟩:=l0 aA
   obtain⟨aV,aZ,aW,aX⟩:=P1 (F2.up (r:=Wp.int.toRp) aQ (show F2 (Wp.int.R h) ([[.int .i64 aF],[.int .i64 aG],[.int .i64 aH]]:List (List Value)) [aF,aG,aH] from⟨⟨rfl,aN⟩,⟨⟨rfl,aO⟩,⟨⟨rfl,aP⟩,trivial⟩⟩⟩)) aU
   refine aI aV ?_
   obtain⟨rfl,bT⟩:=aX
   refine eX _ (aI aW ?_)
   refine ifB aA (λaY aA=>?_) λaY aA=>?_
   ·obtain rfl:=oJ aA
    try dsimp only[n5,G5]at aJ
    obtain rfl:=oJ aJ
    exact aI rfl aQ
   ·exact D2 m4 ⟨(IntKind.i64.wrap (u2+1)),rfl,rfl,aQ,(J0 _),aA⟩
 ·obtain rfl:=oJ aA
  try dsimp only[S0,T0]at aJ
  obtain rfl:=oJ aJ
  exact aI rfl aQ
theorem a9(h:Hp)(aL:List Value)(p0:j0)(bE:Z0.R h aL p0)(r:Bool)(aC:H5 p0=some r):
  Tr Tryz.prog 312 #[.agg aL.toArray] h λv h'=>v = .bool r/\h'=h:=by
 obtain⟨aG,aH,aM,bA,aN,aJ,rfl,rfl,aD,aF,aB⟩:=H0 bE
 obtain⟨rfl,bB⟩:=Sl.len aB
 unfold H5 at aC
 dsimp only at aC
 refine Tr.forget (O2 (args:=[.agg #[.int .i64 aG,.int .i64 aH,.slice aM aJ.length aN]]) (fn:=Tryz.f312) rfl ?_)
 obtain⟨X1,aX,aC⟩:=l0 aC
 refine eX { vars:=[3],boxes:=[],owns:=[],fuel:=true } (eX (λvs os h'=>∃ u2,vs.tail = [.int .i64 u2]/\os = []/\Sub h h'/\P0 u2/\n7 aJ aG aH (I1 vs) u2=some X1) (eX (λ_ _=>0) (aI (eX Q0 ⟨0,rfl,rfl,(Sub.refl _),(by decide),aX⟩) ?_)))
 rintro _ m4 k3 ⟨u2,⟨⟩,⟨⟩,aK,cA,aA⟩
 replace aA:n7 aJ aG aH m4 u2=some X1:=aA
 obtain _|m4:=m4
 ·cases aA
 rw[n7.eq_2]at aA
 refine ifB aA (λbF aA=>?_) λbF aA=>?_
 ·refine Or.inl (aI (aI (by kernel_rfl) (by kernel_rfl)) ?_)
  refine ld aA (O0.mono aK aB) λx6 bG bH aA=>?_
  obtain⟨bI,bJ,bK,rfl,rfl,aO,aP,aQ⟩:=N1 bH
  try dsimp only at aA
  obtain⟨x7,bL,aA⟩:=l0 aA
  refine eX (.bool x7) (aI (n0f _ _ _ (B0 aD aF (O0.mono aK aB)) _ _ (L1 aO aP aQ) _  bL) ?_)
  obtain⟨x8,bM,aA⟩:=l0 aA
  obtain⟨bN,bC,bO⟩:=Sl.getG (r:=E1.toRp) (O0.mono aK aB) bM (by decide) (i0b k3)
  refine aI (λq=>(bC q).1) ?_
  obtain⟨bP,bQ,bR,rfl,rfl,aR,aS,aT⟩:=N1 bO
  try dsimp only at aA
  refine eX _ (aI (λq=>(bC q).2) ?_)
  obtain⟨x9,bS,aA⟩:=l0 aA
  obtain⟨bT,bD,bU⟩:=Sl.getG (r:=E1.toRp) (O0.mono aK aB) bS (by decide) (i0b k3)
  refine aI (λq=>(bD q).1) ?_
  obtain⟨bV,bW,bX,rfl,rfl,aU,aV,aW⟩:=N1 bU
  try dsimp only at aA
  refine eX _ (aI (λq=>(bD q).2) ?_)
  refine trG aA (λq=>P03 _ _ _ (L1 aR aS aT) _ _ (L1 aU aV aW)) λbY aA=>?_
  obtain⟨cC,aY,aA⟩:=l0 aA
  have bZ:P0 bY:=I0 aY
  refine ifB aA (λaZ aA=>?_) λaZ aA=>?_
  ·obtain rfl:=oJ aA
   try dsimp only[n5,G5]at aC
   obtain rfl:=oJ aC
   exact aI rfl aK
  ·exact D2 m4 ⟨(IntKind.i64.wrap (u2+1)),rfl,rfl,aK,(J0 _),aA⟩
 ·obtain rfl:=oJ aA
  try dsimp only[S0,T0]at aC
  refine trV aC (Z8 _ _ aD 1 (by decide) 3 (by decide)) λcD aC=>?_
  refine trG aC (λq=>Z8 _ _ aF 1 (by decide) 40 (by decide)) λcE aC=>?_
  obtain rfl:=oJ aC
  exact aI rfl aK
theorem Q00(h:Hp)(aA:List Value)(p0:j0)(aO:Z0.R h aA p0)(p1:Int)(aP:P0 p1)(r:Bool)(aB:A4 p0 p1=some r):
  Tr Tryz.prog 290 #[.agg aA.toArray,.int .i64 p1] h λv h'=>v = .bool r/\h'=h:=by
 obtain⟨aH,aC,aD,aK,aF,aJ,rfl,rfl,aL,aM,aG⟩:=H0 aO
 obtain⟨rfl,aN⟩:=Sl.len aG
 unfold A4 at aB
 dsimp only at aB
 refine Tr.forget (O2 (args:=[.agg #[.int .i64 aH,.int .i64 aC,.slice aD aJ.length aF],.int .i64 p1]) (fn:=Tryz.f290) rfl ?_)
 refine trV aB (y01 _ _ aP 0 (by decide) (IntKind.i64.wrap (aC-1)) (J0 _)) λx1 aB=>?_
 obtain rfl:=oJ aB
 exact aI rfl (Sub.refl _)
theorem E07(h:Hp)(aF:List Value)(p0:j0)(aV:Z0.R h aF p0)(aG:List Value)(p1:M0)(aW:E1.R h aG p1)(r:Bool)(aC:L8 p0 p1=some r):
  Tr Tryz.prog 337 #[.agg aF.toArray,.agg aG.toArray] h λv h'=>v = .bool r/\h'=h:=by
 obtain⟨aN,aO,aH,aT,aJ,aP,rfl,rfl,aA,aD,aB⟩:=H0 aV
 obtain⟨rfl,aU⟩:=Sl.len aB
 obtain⟨aQ,aR,aS,rfl,rfl,aK,aL,aM⟩:=N1 aW
 unfold L8 at aC
 dsimp only at aC
 refine Tr.forget (O2 (args:=[.agg #[.int .i64 aN,.int .i64 aO,.slice aH aP.length aJ],.agg #[.int .i64 aQ,.int .i64 aR,.int .i64 aS]]) (fn:=Tryz.f337) rfl ?_)
 refine trV aC (Q00 _ _ _ (B0 aA aD aB) _ aK) λx1 aC=>?_
 refine trG aC (λq=>Q00 _ _ _ (B0 aA aD aB) _ aM) λx2 aC=>?_
 refine trG aC (λq=>y01 _ _ aL 1 (by decide) _ aA) λx3 aC=>?_
 obtain rfl:=oJ aC
 exact aI rfl (Sub.refl _)
theorem Q03(h:Hp)(aB:List Value)(p0:M0)(aR:E1.R h aB p0)(aC:List Value)(p1:M0)(aS:E1.R h aC p1)(r:Int)(aA:r9 p0 p1=some r):
  Tr Tryz.prog 316 #[.agg aB.toArray,.agg aC.toArray] h λv h'=>v = .int .i64 r/\h'=h:=by
 obtain⟨aL,aM,aN,rfl,rfl,aD,aF,aG⟩:=N1 aR
 obtain⟨aO,aP,aQ,rfl,rfl,aH,aJ,aK⟩:=N1 aS
 unfold r9 at aA
 dsimp only at aA
 refine Tr.forget (O2 (args:=[.agg #[.int .i64 aL,.int .i64 aM,.int .i64 aN],.agg #[.int .i64 aO,.int .i64 aP,.int .i64 aQ]]) (fn:=Tryz.f316) rfl ?_)
 refine trV aA (z02 _ _ aD _ aH) λx1 aA=>?_
 obtain⟨q2,aT,aA⟩:=l0 aA
 have aY:P0 x1:=I0 aT
 refine ifB aA (λaU aA=>?_) λaU aA=>?_
 ·obtain rfl:=oJ aA
  exact aI rfl (Sub.refl _)
 ·refine trV aA (z02 _ _ aF _ aJ) λx4 aA=>?_
  obtain⟨q5,aV,aA⟩:=l0 aA
  have aZ:P0 x4:=I0 aV
  refine ifB aA (λaW aA=>?_) λaW aA=>?_
  ·obtain rfl:=oJ aA
   exact aI rfl (Sub.refl _)
  ·refine trV aA (z02 _ _ aG _ aK) λx7 aA=>?_
   obtain⟨q8,aX,aA⟩:=l0 aA
   have bA:P0 x7:=I0 aX
   obtain rfl:=oJ aA
   exact aI rfl (Sub.refl _)
theorem U02(h:Hp)(aR:List Value)(p0:j0)(bH:Z0.R h aR p0)(r:Bool)(aB:M8 p0=some r):
  Tr Tryz.prog 300 #[.agg aR.toArray] h λv h'=>v = .bool r/\h'=h:=by
 obtain⟨aK,aL,aS,bB,aT,aM,rfl,rfl,aD,aF,aC⟩:=H0 bH
 obtain⟨rfl,bC⟩:=Sl.len aC
 unfold M8 at aB
 dsimp only at aB
 refine Tr.forget (O2 (args:=[.agg #[.int .i64 aK,.int .i64 aL,.slice aS aM.length aT]]) (fn:=Tryz.f300) rfl ?_)
 refine trV aB (y01 _ _ aD 1 (by decide) 3 (by decide)) λx1 aB=>?_
 refine trG aB (λq=>y01 _ _ aF 1 (by decide) 40 (by decide)) λx2 aB=>?_
 refine ifB aB (λbI aB=>?_) λbI aB=>?_
 ·obtain rfl:=oJ aB
  exact aI rfl (Sub.refl _)
 ·obtain⟨X4,aV,aB⟩:=l0 aB
  refine eX { vars:=[24],boxes:=[],owns:=[],fuel:=true } (eX (λvs os h'=>∃ u5,vs.tail = [.int .i64 u5]/\os = []/\Sub h h'/\P0 u5/\o7 aM aK aL (I1 vs) u5=some X4) (eX (λ_ _=>0) (aI (eX Q0 ⟨0,rfl,rfl,(Sub.refl _),(by decide),aV⟩) ?_)))
  rintro _ m7 k6 ⟨u5,⟨⟩,⟨⟩,aQ,bS,aA⟩
  replace aA:o7 aM aK aL m7 u5=some X4:=aA
  obtain _|m7:=m7
  ·cases aA
  rw[o7.eq_2]at aA
  refine ifB aA (λbJ aA=>?_) λbJ aA=>?_
  ·refine ld aA (O0.mono aQ aC) λx9 bK bL aA=>?_
   obtain⟨bM,bN,bO,rfl,rfl,aG,aH,aJ⟩:=N1 bL
   try dsimp only at aA
   refine Or.inl (aI (aI (by kernel_rfl) (by kernel_rfl)) ?_)
   obtain⟨bP,aW,aA⟩:=l0 aA
   refine eX (.bool bP) (aI (E07 _ _ _ (B0 aD aF (O0.mono aQ aC)) _ _ (L1 aG aH aJ) _  aW) ?_)
   obtain⟨bT,aX,aA⟩:=l0 aA
   obtain⟨bD,aU,aY⟩:=Sl.getG (r:=E1.toRp) (O0.mono aQ aC) aX (by decide) (i0b k6)
   refine aI (λq=>(aU q).1) ?_
   obtain⟨bE,bF,bG,rfl,rfl,aN,aO,aP⟩:=N1 aY
   try dsimp only at aA
   refine eX _ (aI (λq=>(aU q).2) ?_)
   refine trG aA (λq=>Q03 _ _ _ (L1 aN aO aP) _ _ (L1 aG aH aJ)) λbQ aA=>?_
   obtain⟨bU,aZ,aA⟩:=l0 aA
   have bR:P0 bQ:=I0 aZ
   refine ifB aA (λbA aA=>?_) λbA aA=>?_
   ·obtain rfl:=oJ aA
    try dsimp only[n5,G5]at aB
    obtain rfl:=oJ aB
    exact aI rfl aQ
   ·exact D2 m7 ⟨(IntKind.i64.wrap (u5+1)),rfl,rfl,aQ,(J0 _),aA⟩
  ·obtain rfl:=oJ aA
   try dsimp only[S0,T0]at aB
   obtain rfl:=oJ aB
   exact aI rfl aQ
theorem d02(h:Hp)(aR:Option Addr)(bM aS:Nat)(p0:F0)(aG:W0.R h [.slice aR bM aS] p0)(p1:Int)(aF:P0 p1)(r:F0)(aD:D8 p0 p1=some r):
  Tr Tryz.prog 336 #[.slice aR bM aS,.int .i64 p1] h λv h'=>∃(a0:Option Addr) (n0 c0:Nat),v = .slice a0 n0 c0/\W0.R h' [.slice a0 n0 c0] r/\Sub h h':=by
 obtain⟨rfl,bW⟩:=Sl.len aG
 unfold D8 at aD
 refine O2 (args:=[.slice aR p0.length aS,.int .i64 p1]) (fn:=Tryz.f336) rfl ?_
 obtain⟨X1,aT,aD⟩:=l0 aD
 refine eX { vars:=[6,7],boxes:=[],owns:=[0],fuel:=true } (eX (λvs os h'=>∃ u2 u3 aH u4,vs.tail = [.bool u2,.int .i64 u3]/\os = [aH]/\Sub h h'/\P0 u3/\F2 (Wp.int.R h') aH u4/\D4 p0 p1 (I1 vs) u2 u3 u4=some X1) (eX (λ_ _=>0) (aI (eX Q0 ⟨false,0,[],([]:F0),rfl,rfl,(Sub.refl _),(by decide),(show F2 (Wp.int.R h) ([]:List (List Value)) ([]:F0) from trivial),aT⟩) ?_)))
 rintro _ _ aH m6 k5 ⟨u2,u3,bN,u4,⟨⟩,⟨⟩,aC,bX,aB,aA⟩
 replace aA:D4 p0 p1 m6 u2 u3 u4=some X1:=aA
 obtain _|m6:=m6
 ·cases aA
 rw[D4.eq_2]at aA
 refine ifB aA (λbO aA=>?_) λbO aA=>?_
 ·refine ldI aA (W0.mono aC aG) λx8 bY aA=>?_
  refine ifB aA (λbP aA=>?_) λbP aA=>?_
  ·refine ldI aA (W0.mono aC aG) λbZ bQ aA=>?_
   refine ifB aA (λaU aA=>?_) λaU aA=>?_
   ·obtain⟨cA,aV,aA⟩:=l0 aA
    refine aI (J1 aV (by first|rw[F2.length aB,F2.length (show F2 (Wp.int.R k5) ([[.int .i64 p1]]:List (List Value)) [p1] from⟨⟨rfl,aF⟩,trivial⟩)]|exact congrArg (·+1) (F2.length aB))) ?_
    refine ldI aA (W0.mono aC aG) λaJ aN aA=>?_
    obtain⟨cC,aW,aA⟩:=l0 aA
    refine aI (J1 aW (by first|rw[F2.length (F2.append aB (show F2 (Wp.int.R k5) ([[.int .i64 p1]]:List (List Value)) [p1] from⟨⟨rfl,aF⟩,trivial⟩)),F2.length (show F2 (Wp.int.R k5) ([[.int .i64 aJ]]:List (List Value)) [aJ] from⟨⟨rfl,aN⟩,trivial⟩)]|exact congrArg (·+1) (F2.length (F2.append aB (show F2 (Wp.int.R k5) ([[.int .i64 p1]]:List (List Value)) [p1] from⟨⟨rfl,aF⟩,trivial⟩))))) ?_
    exact D2 m6 ⟨true,(IntKind.i64.wrap (u3+1)),((aH++([[.int .i64 p1]]:List (List Value)))++([[.int .i64 aJ]]:List (List Value))),((u4 ++ [p1]) ++ [aJ]),rfl,rfl,aC,(J0 _),(F2.append (F2.append aB (show F2 (Wp.int.R k5) ([[.int .i64 p1]]:List (List Value)) [p1] from⟨⟨rfl,aF⟩,trivial⟩)) (show F2 (Wp.int.R k5) ([[.int .i64 aJ]]:List (List Value)) [aJ] from⟨⟨rfl,aN⟩,trivial⟩)),aA⟩
   ·refine ldI aA (W0.mono aC aG) λaK aO aA=>?_
    obtain⟨cD,aX,aA⟩:=l0 aA
    refine aI (J1 aX (by first|rw[F2.length aB,F2.length (show F2 (Wp.int.R k5) ([[.int .i64 aK]]:List (List Value)) [aK] from⟨⟨rfl,aO⟩,trivial⟩)]|exact congrArg (·+1) (F2.length aB))) ?_
    exact D2 m6 ⟨true,(IntKind.i64.wrap (u3+1)),(aH++([[.int .i64 aK]]:List (List Value))),(u4 ++ [aK]),rfl,rfl,aC,(J0 _),(F2.append aB (show F2 (Wp.int.R k5) ([[.int .i64 aK]]:List (List Value)) [aK] from⟨⟨rfl,aO⟩,trivial⟩)),aA⟩
  ·refine ldI aA (W0.mono aC aG) λcE bR aA=>?_
   refine ifB aA (λaY aA=>?_) λaY aA=>?_
   ·obtain⟨cG,aZ,aA⟩:=l0 aA
    refine aI (J1 aZ (by first|rw[F2.length aB,F2.length (show F2 (Wp.int.R k5) ([[.int .i64 p1]]:List (List Value)) [p1] from⟨⟨rfl,aF⟩,trivial⟩)]|exact congrArg (·+1) (F2.length aB))) ?_
    refine ldI aA (W0.mono aC aG) λaL aP aA=>?_
    obtain⟨cH,bA,aA⟩:=l0 aA
    refine aI (J1 bA (by first|rw[F2.length (F2.append aB (show F2 (Wp.int.R k5) ([[.int .i64 p1]]:List (List Value)) [p1] from⟨⟨rfl,aF⟩,trivial⟩)),F2.length (show F2 (Wp.int.R k5) ([[.int .i64 aL]]:List (List Value)) [aL] from⟨⟨rfl,aP⟩,trivial⟩)]|exact congrArg (·+1) (F2.length (F2.append aB (show F2 (Wp.int.R k5) ([[.int .i64 p1]]:List (List Value)) [p1] from⟨⟨rfl,aF⟩,trivial⟩))))) ?_
    exact D2 m6 ⟨true,(IntKind.i64.wrap (u3+1)),((aH++([[.int .i64 p1]]:List (List Value)))++([[.int .i64 aL]]:List (List Value))),((u4 ++ [p1]) ++ [aL]),rfl,rfl,aC,(J0 _),(F2.append (F2.append aB (show F2 (Wp.int.R k5) ([[.int .i64 p1]]:List (List Value)) [p1] from⟨⟨rfl,aF⟩,trivial⟩)) (show F2 (Wp.int.R k5) ([[.int .i64 aL]]:List (List Value)) [aL] from⟨⟨rfl,aP⟩,trivial⟩)),aA⟩
   ·refine ldI aA (W0.mono aC aG) λaM aQ aA=>?_
    obtain⟨cI,bB,aA⟩:=l0 aA
    refine aI (J1 bB (by first|rw[F2.length aB,F2.length (show F2 (Wp.int.R k5) ([[.int .i64 aM]]:List (List Value)) [aM] from⟨⟨rfl,aQ⟩,trivial⟩)]|exact congrArg (·+1) (F2.length aB))) ?_
    exact D2 m6 ⟨u2,(IntKind.i64.wrap (u3+1)),(aH++([[.int .i64 aM]]:List (List Value))),(u4 ++ [aM]),rfl,rfl,aC,(J0 _),(F2.append aB (show F2 (Wp.int.R k5) ([[.int .i64 aM]]:List (List Value)) [aM] from⟨⟨rfl,aQ⟩,trivial⟩)),aA⟩
 ·obtain rfl:=oJ aA
  try dsimp only[S0,T0]at aD
  refine ifB aD (λbC aD=>?_) λbC aD=>?_
  ·obtain⟨cJ,bD,aD⟩:=l0 aD
   refine aI (J1 bD (by first|rw[F2.length aB,F2.length (show F2 (Wp.int.R k5) ([[.int .i64 p1]]:List (List Value)) [p1] from⟨⟨rfl,aF⟩,trivial⟩)]|exact congrArg (·+1) (F2.length aB))) ?_
   intro cK cL bS
   obtain⟨bE,bF,rfl,bG,bH,bT⟩:=U0.out (r:=Wp.int.toRp) bS (F2.append aB (show F2 (Wp.int.R k5) ([[.int .i64 p1]]:List (List Value)) [p1] from⟨⟨rfl,aF⟩,trivial⟩))
   obtain rfl:=oJ aD
   exact⟨bE,((u4 ++ [p1])).length,bF,rfl,bG,(aC.trans bH)⟩
  ·intro cM cN bU
   obtain⟨bI,bJ,rfl,bK,bL,bV⟩:=U0.out (r:=Wp.int.toRp) bU aB
   obtain rfl:=oJ aD
   exact⟨bI,u4.length,bJ,rfl,bK,(aC.trans bL)⟩
theorem e02(h:Hp)(aD:Option Addr)(aH aF:Nat)(p0:F0)(aJ:W0.R h [.slice aD aH aF] p0)(p1:Int)(aM:P0 p1)(r:Bool)(aB:E8 p0 p1=some r):
  Tr Tryz.prog 246 #[.slice aD aH aF,.int .i64 p1] h λv h'=>v = .bool r/\h'=h:=by
 obtain⟨rfl,aN⟩:=Sl.len aJ
 unfold E8 at aB
 refine Tr.forget (O2 (args:=[.slice aD p0.length aF,.int .i64 p1]) (fn:=Tryz.f246) rfl ?_)
 obtain⟨X1,aG,aB⟩:=l0 aB
 refine eX { vars:=[5],boxes:=[],owns:=[],fuel:=true } (eX (λvs os h'=>∃ u2,vs.tail = [.int .i64 u2]/\os = []/\Sub h h'/\P0 u2/\N8 p0 p1 (I1 vs) u2=some X1) (eX (λ_ _=>0) (aI (eX Q0 ⟨0,rfl,rfl,(Sub.refl _),(by decide),aG⟩) ?_)))
 rintro _ m4 k3 ⟨u2,⟨⟩,⟨⟩,aC,aO,aA⟩
 replace aA:N8 p0 p1 m4 u2=some X1:=aA
 obtain _|m4:=m4
 ·cases aA
 rw[N8.eq_2]at aA
 refine ifB aA (λaK aA=>?_) λaK aA=>?_
 ·refine ldI aA (W0.mono aC aJ) λx6 aP aA=>?_
  refine ifB aA (λaL aA=>?_) λaL aA=>?_
  ·obtain rfl:=oJ aA
   try dsimp only[n5,G5]at aB
   obtain rfl:=oJ aB
   exact aI rfl aC
  ·exact D2 m4 ⟨(IntKind.i64.wrap (u2+1)),rfl,rfl,aC,(J0 _),aA⟩
 ·obtain rfl:=oJ aA
  try dsimp only[S0,T0]at aB
  obtain rfl:=oJ aB
  exact aI rfl aC
theorem F0b(h:Hp)(aK:List Value)(p0:j0)(bW:Z0.R h aK p0)(p1:Int)(cJ:P0 p1)(p2:Int)(cK:P0 p2)(r:F0)(aH:C00 p0 p1 p2=some r):
  Tr Tryz.prog 297 #[.agg aK.toArray,.int .i64 p1,.int .i64 p2] h λv h'=>∃(a0:Option Addr) (n0 c0:Nat),v = .slice a0 n0 c0/\W0.R h' [.slice a0 n0 c0] r/\Sub h h':=by
 obtain⟨aT,aU,aL,bL,aM,aD,rfl,rfl,bM,bN,aC⟩:=H0 bW
 obtain⟨rfl,bO⟩:=Sl.len aC
 unfold C00 at aH
 dsimp only at aH
 refine O2 (args:=[.agg #[.int .i64 aT,.int .i64 aU,.slice aL aD.length aM],.int .i64 p1,.int .i64 p2]) (fn:=Tryz.f297) rfl ?_
 obtain⟨X5,aV,aH⟩:=l0 aH
 refine eX { vars:=[7,8],boxes:=[],owns:=[],fuel:=true,pubs:=[7,10] } (eX (λvs os h'=>∃(aN:Option Addr) (aW aO:Nat) (u6:F0) (u7:Int),vs.tail = [.slice aN aW aO,.int .i64 u7]/\os = []/\Sub h h'/\W0.R h' [.slice aN aW aO] u6/\P0 u7/\i4 aD p2 p1 (I1 vs) u6 u7=some X5) (eX (λ_ _=>0) ?_))
 intro v1 k2 f3
 obtain⟨bX,bY,rfl,bZ,cA,cL⟩:=U0.out (r:=Wp.int.toRp) f3 (show F2 (Wp.int.R h) ([]:List (List Value)) ([]:F0) from trivial)
 refine aI (eX Q0 ⟨bX,(([]:F0)).length,bY,([]:F0),0,rfl,rfl,cA,bZ,(by decide),aV⟩) ?_
 rintro _ _ m9 k8 ⟨aN,aW,aO,u6,u7,⟨⟩,⟨⟩,aJ,aP,cM,aA⟩
 replace aA:i4 aD p2 p1 m9 u6 u7=some X5:=aA
 obtain _|m9:=m9
 ·cases aA
 rw[i4.eq_2]at aA
 obtain⟨rfl,cN⟩:=Sl.len aP
 refine ifB aA (λaX aA=>?_) λaX aA=>?_
 ·refine ld aA (O0.mono aJ aC) λcO bP aY aA=>?_
  obtain⟨bQ,bR,bS,rfl,rfl,aB,aZ,aF⟩:=N1 aY
  try dsimp only at aA
  refine ifB aA (λbA aA=>?_) λbA aA=>?_
  ·refine trM aA (d02 _ _ _ _ _ aP _ aF) ?_
   rintro bT aA cP cQ ⟨bB,cC,bC,rfl,aG,aQ⟩
   obtain⟨rfl,cD⟩:=Sl.len aG
   refine ifB aA (λbD aA=>?_) λbD aA=>?_
   ·refine trM aA (d02 _ _ _ _ _ aG _ aB) ?_
    rintro bU aA cR cS ⟨bE,cE,bF,rfl,aR,bG⟩
    obtain⟨rfl,cG⟩:=Sl.len aR
    exact D2 m9 ⟨bE,bU.length,bF,bU,(IntKind.i64.wrap (u7+1)),rfl,rfl,((aJ.trans aQ).trans bG),aR,(J0 _),aA⟩
   ·exact D2 m9 ⟨bB,bT.length,bC,bT,(IntKind.i64.wrap (u7+1)),rfl,rfl,(aJ.trans aQ),aG,(J0 _),aA⟩
  ·refine ifB aA (λbH aA=>?_) λbH aA=>?_
   ·refine trM aA (d02 _ _ _ _ _ aP _ aB) ?_
    rintro bV aA cT cU ⟨bI,cH,bJ,rfl,aS,bK⟩
    obtain⟨rfl,cI⟩:=Sl.len aS
    exact D2 m9 ⟨bI,bV.length,bJ,bV,(IntKind.i64.wrap (u7+1)),rfl,rfl,(aJ.trans bK),aS,(J0 _),aA⟩
   ·exact D2 m9 ⟨aN,u6.length,aO,u6,(IntKind.i64.wrap (u7+1)),rfl,rfl,aJ,aP,(J0 _),aA⟩
 ·obtain rfl:=oJ aA
  try dsimp only[S0,T0]at aH
  obtain rfl:=oJ aH
  exact⟨aN,u6.length,aO,rfl,aP,aJ⟩
theorem U6(h:Hp)(aC:List Value)(p0:j0)(aQ:Z0.R h aC p0)(p1:Int)(aR:P0 p1)(p2:Int)(aS:P0 p2)(r:Int)(aA:c4 p0 p1 p2=some r):
  Tr Tryz.prog 214 #[.agg aC.toArray,.int .i64 p1,.int .i64 p2] h λv h'=>v = .int .i64 r/\h'=h:=by
 obtain⟨aJ,aK,aD,aM,aF,aL,rfl,rfl,aG,aH,aB⟩:=H0 aQ
 obtain⟨rfl,aN⟩:=Sl.len aB
 unfold c4 at aA
 dsimp only at aA
 refine Tr.forget (O2 (args:=[.agg #[.int .i64 aJ,.int .i64 aK,.slice aD aL.length aF],.int .i64 p1,.int .i64 p2]) (fn:=Tryz.f214) rfl ?_)
 refine trM aA (F0b _ _ _ (B0 aG aH aB) _ aR _ aS) ?_
 rintro x1 aA v3 k2 ⟨aU,aV,aW,rfl,aO,aP⟩
 obtain⟨rfl,aX⟩:=Sl.len aO
 refine ifB aA (λaT aA=>?_) λaT aA=>?_
 ·obtain rfl:=oJ aA
  exact aI rfl aP
 ·refine ldI aA aO λx5 aY aA=>?_
  obtain rfl:=oJ aA
  exact aI rfl aP
theorem g8(h:Hp)(aM:List Value)(p0:j0)(bN:Z0.R h aM p0)(r:Bool)(aF:T4 p0=some r):
  Tr Tryz.prog 293 #[.agg aM.toArray] h λv h'=>v = .bool r/\h'=h:=by
 obtain⟨aJ,aK,aN,bD,aO,aD,rfl,rfl,aG,aH,aB⟩:=H0 bN
 obtain⟨rfl,bE⟩:=Sl.len aB
 unfold T4 at aF
 dsimp only at aF
 refine Tr.forget (O2 (args:=[.agg #[.int .i64 aJ,.int .i64 aK,.slice aN aD.length aO]]) (fn:=Tryz.f293) rfl ?_)
 obtain⟨X1,aR,aF⟩:=l0 aF
 refine eX { vars:=[3],boxes:=[],owns:=[],fuel:=true } (eX (λvs os h'=>∃ u2,vs.tail = [.int .i64 u2]/\os = []/\Sub h h'/\P0 u2/\d5 aD aJ aK (I1 vs) u2=some X1) (eX (λ_ _=>0) (aI (eX Q0 ⟨0,rfl,rfl,(Sub.refl _),(by decide),aR⟩) ?_)))
 rintro _ m4 k3 ⟨u2,⟨⟩,⟨⟩,aL,bP,aC⟩
 replace aC:d5 aD aJ aK m4 u2=some X1:=aC
 obtain _|m4:=m4
 ·cases aC
 rw[d5.eq_2]at aC
 refine trG aC (λq=>a9 _ _ _ (B0 aG aH (O0.mono aL aB))) λx5 aC=>?_
 refine ifB aC (λbO aC=>?_) λbO aC=>?_
 ·obtain⟨X7,aS,aC⟩:=l0 aC
  refine eX { vars:=[4],boxes:=[],owns:=[],fuel:=true } (eX (λvs os h'=>∃ u8,vs.tail = [.int .i64 u8]/\os = []/\Sub k3 h'/\P0 u8/\O6 u2 aD (I1 vs) u8=some X7) (eX (λ_ _=>0) (aI (eX Q0 ⟨0,rfl,rfl,(Sub.refl _),(by decide),aS⟩) ?_)))
  rintro _ aQ k9 ⟨u8,⟨⟩,⟨⟩,aP,bQ,aA⟩
  replace aA:O6 u2 aD aQ u8=some X7:=aA
  obtain _|aQ:=aQ
  ·cases aA
  rw[O6.eq_2]at aA
  refine ifB aA (λaT aA=>?_) λaT aA=>?_
  ·refine ld aA (O0.mono (aL.trans aP) aB) λbR bF aU aA=>?_
   obtain⟨bG,bH,bI,rfl,rfl,aV,aW,aX⟩:=N1 aU
   try dsimp only at aA
   refine ld aA (O0.mono (aL.trans aP) aB) λbS bJ aY aA=>?_
   obtain⟨bK,bL,bM,rfl,rfl,aZ,bA,bB⟩:=N1 aY
   try dsimp only at aA
   refine ifB aA (λbC aA=>?_) λbC aA=>?_
   ·obtain rfl:=oJ aA
    try dsimp only[n5,G5]at aC
    obtain rfl:=oJ aC
    try dsimp only[n5,G5]at aF
    obtain rfl:=oJ aF
    exact aI rfl (aL.trans aP)
   ·exact D2 aQ ⟨(IntKind.i64.wrap (u8+1)),rfl,rfl,aP,(J0 _),aA⟩
  ·obtain rfl:=oJ aA
   try dsimp only[S0,T0]at aC
   exact D2 m4 ⟨(IntKind.i64.wrap (u2+1)),rfl,rfl,(aL.trans aP),(J0 _),aC⟩
 ·obtain rfl:=oJ aC
  try dsimp only[S0,T0]at aF
  refine trV aF (a9 _ _ _ (B0 aG aH (O0.mono aL aB))) λbT aF=>?_
  obtain rfl:=oJ aF
  exact aI rfl aL
theorem G0b(h:Hp)(aM:List Value)(p0:j0)(bJ:Z0.R h aM p0)(p1:Int)(cD:P0 p1)(p2:Int)(cE:P0 p2)(r:F0)(aD:D00 p0 p1 p2=some r):
  Tr Tryz.prog 286 #[.agg aM.toArray,.int .i64 p1,.int .i64 p2] h λv h'=>∃(a0:Option Addr) (n0 c0:Nat),v = .slice a0 n0 c0/\New W0 h h' [.slice a0 n0 c0] r:=by
 obtain⟨aU,aV,aN,bC,aO,aK,rfl,rfl,bD,bE,aF⟩:=H0 bJ
 obtain⟨rfl,bF⟩:=Sl.len aF
 unfold D00 at aD
 dsimp only at aD
 refine O2 (args:=[.agg #[.int .i64 aU,.int .i64 aV,.slice aN aK.length aO],.int .i64 p1,.int .i64 p2]) (fn:=Tryz.f286) rfl ?_
 obtain⟨X1,aW,aD⟩:=l0 aD
 refine eX { vars:=[14],boxes:=[],owns:=[0],fuel:=true } (eX (λvs os h'=>∃ u2 aL u3,vs.tail = [.int .i64 u2]/\os = [aL]/\Sub h h'/\P0 u2/\F2 (Wp.int.R h') aL u3/\J4 aK p2 p1 (I1 vs) u2 u3=some X1) (eX (λ_ _=>0) (aI (eX Q0 ⟨0,[],([]:F0),rfl,rfl,(Sub.refl _),(by decide),(show F2 (Wp.int.R h) ([]:List (List Value)) ([]:F0) from trivial),aW⟩) ?_)))
 rintro _ aL m5 k4 ⟨u2,bK,u3,⟨⟩,⟨⟩,aP,cG,aG,aA⟩
 replace aA:J4 aK p2 p1 m5 u2 u3=some X1:=aA
 obtain _|m5:=m5
 ·cases aA
 rw[J4.eq_2]at aA
 refine ifB aA (λbL aA=>?_) λbL aA=>?_
 ·refine ld aA (O0.mono aP aF) λx7 bM bN aA=>?_
  obtain⟨aB,bO,aC,rfl,rfl,aH,bG,aJ⟩:=N1 bN
  try dsimp only at aA
  refine ifB aA (λbP aA=>?_) λbP aA=>?_
  ·obtain⟨q9,bQ,aA⟩:=l0 aA
   refine aI (J1 bQ (by first|rw[F2.length aG,F2.length (show F2 (Wp.int.R k4) ([[.int .i64 aC]]:List (List Value)) [aC] from⟨⟨rfl,aJ⟩,trivial⟩)]|exact congrArg (·+1) (F2.length aG))) ?_
   exact D2 m5 ⟨(IntKind.i64.wrap (u2+1)),(aL++([[.int .i64 aC]]:List (List Value))),(u3 ++ [aC]),rfl,rfl,aP,(J0 _),(F2.append aG (show F2 (Wp.int.R k4) ([[.int .i64 aC]]:List (List Value)) [aC] from⟨⟨rfl,aJ⟩,trivial⟩)),aA⟩
  ·refine ifB aA (λaX aA=>?_) λaX aA=>?_
   ·obtain⟨cH,aY,aA⟩:=l0 aA
    refine aI (J1 aY (by first|rw[F2.length aG,F2.length (show F2 (Wp.int.R k4) ([[.int .i64 aB]]:List (List Value)) [aB] from⟨⟨rfl,aH⟩,trivial⟩)]|exact congrArg (·+1) (F2.length aG))) ?_
    exact D2 m5 ⟨(IntKind.i64.wrap (u2+1)),(aL++([[.int .i64 aB]]:List (List Value))),(u3 ++ [aB]),rfl,rfl,aP,(J0 _),(F2.append aG (show F2 (Wp.int.R k4) ([[.int .i64 aB]]:List (List Value)) [aB] from⟨⟨rfl,aH⟩,trivial⟩)),aA⟩
   ·exact D2 m5 ⟨(IntKind.i64.wrap (u2+1)),aL,u3,rfl,rfl,aP,(J0 _),aG,aA⟩
 ·obtain rfl:=oJ aA
  try dsimp only[S0,T0]at aD
  refine Or.inl ?_
  intro cI cJ bR
  obtain⟨cK,aZ,aD⟩:=l0 aD
  refine Tr.mono (d0l _ bR aG (I0 aZ)) ?_
  rintro _ bS ⟨rfl,bH,aQ,aR⟩
  obtain⟨bT,bU,rfl,bV,bW,bX⟩:=U0.out (r:=Wp.int.toRp) aQ aR
  refine Tr.mono (e0l _ aQ aR) ?_
  rintro _ bY ⟨bI,aS,aT⟩
  obtain⟨bA,bB,rfl,bZ,cA,cC⟩:=U0.out (r:=Wp.int.toRp) aS aT
  obtain rfl:=oJ aD
  exact⟨bA,((Z02 eqI (M05 c9 u3))).length,bB,rfl,(New.from (U0.newPlain (r:=Wp.int) aS aT (B04 _)) aP)⟩
theorem i9(h:Hp)(aC:List Value)(p0:j0)(aR:Z0.R h aC p0)(p1:Int)(aS:P0 p1)(p2:Int)(aT:P0 p2)(r:Int)(aA:i5 p0 p1 p2=some r):
  Tr Tryz.prog 201 #[.agg aC.toArray,.int .i64 p1,.int .i64 p2] h λv h'=>v = .int .i64 r/\h'=h:=by
 obtain⟨aJ,aK,aD,aM,aF,aL,rfl,rfl,aG,aH,aB⟩:=H0 aR
 obtain⟨rfl,aN⟩:=Sl.len aB
 unfold i5 at aA
 dsimp only at aA
 refine Tr.forget (O2 (args:=[.agg #[.int .i64 aJ,.int .i64 aK,.slice aD aL.length aF],.int .i64 p1,.int .i64 p2]) (fn:=Tryz.f201) rfl ?_)
 refine trM aA (G0b _ _ _ (B0 aG aH aB) _ aS _ aT) ?_
 rintro x1 aA v3 k2 ⟨aV,aW,aX,rfl,aO⟩
 have aP:Sub h k2:=aO.sub
 have aQ:=aO.r
 obtain⟨rfl,aY⟩:=Sl.len aQ
 refine ifB aA (λaU aA=>?_) λaU aA=>?_
 ·obtain rfl:=oJ aA
  exact aI rfl aP
 ·refine ldI aA aQ λx5 aZ aA=>?_
  obtain rfl:=oJ aA
  exact aI rfl aP
theorem p9(h:Hp)(aJ:List Value)(p0:j0)(bP:Z0.R h aJ p0)(r:Bool)(aC:I5 p0=some r):
  Tr Tryz.prog 219 #[.agg aJ.toArray] h λv h'=>v = .bool r/\h'=h:=by
 obtain⟨aU,aV,aK,bF,aL,aG,rfl,rfl,aM,aN,aD⟩:=H0 bP
 obtain⟨rfl,bG⟩:=Sl.len aD
 unfold I5 at aC
 dsimp only at aC
 refine Tr.forget (O2 (args:=[.agg #[.int .i64 aU,.int .i64 aV,.slice aK aG.length aL]]) (fn:=Tryz.f219) rfl ?_)
 refine trV aC (U02 _ _ _ (B0 aM aN aD)) λx1 aC=>?_
 refine ifB aC (λbQ aC=>?_) λbQ aC=>?_
 ·obtain rfl:=oJ aC
  exact aI rfl (Sub.refl _)
 ·obtain⟨X3,aW,aC⟩:=l0 aC
  refine eX { vars:=[13],boxes:=[],owns:=[],fuel:=true } (eX (λvs os h'=>∃ u4,vs.tail = [.int .i64 u4]/\os = []/\Sub h h'/\P0 u4/\Q6 aG (I1 vs) u4=some X3) (eX (λ_ _=>0) (aI (eX Q0 ⟨0,rfl,rfl,(Sub.refl _),(by decide),aW⟩) ?_)))
  rintro _ m6 k5 ⟨u4,⟨⟩,⟨⟩,aO,cA,aA⟩
  replace aA:Q6 aG m6 u4=some X3:=aA
  obtain _|m6:=m6
  ·cases aA
  rw[Q6.eq_2]at aA
  refine ifB aA (λbR aA=>?_) λbR aA=>?_
  ·refine ld aA (O0.mono aO aD) λx8 bS bT aA=>?_
   obtain⟨aP,aQ,aR,rfl,rfl,bH,bI,bJ⟩:=N1 bT
   try dsimp only at aA
   obtain⟨x9,bU,aA⟩:=l0 aA
   obtain⟨bV,aX,bW,bX⟩:=Sl.cutI (r:=E1.toRp) (O0.mono aO aD) bU
   refine aI bV (eX aX (aI bW ?_))
   intro bY aY _
   obtain⟨cC,cD,rfl,bK⟩:=bX bY aY
   have cE:=(Sl.len bK).2
   obtain⟨X10,aS,aA⟩:=l0 aA
   refine eX { vars:=[24],boxes:=[],owns:=[],fuel:=true } (eX (λvs os h'=>∃ aH,vs.tail = [.int .i64 aH]/\os = []/\Sub k5 h'/\P0 aH/\P6 x9 aQ aP aR (I1 vs) aH=some X10) (eX (λ_ _=>0) (aI (eX Q0 ⟨0,rfl,rfl,(Sub.refl _),(by decide),aS⟩) ?_)))
   rintro _ aT cG ⟨aH,⟨⟩,⟨⟩,aF,bZ,aB⟩
   replace aB:P6 x9 aQ aP aR aT aH=some X10:=aB
   obtain _|aT:=aT
   ·cases aB
   rw[P6.eq_2]at aB
   refine ifB aB (λaZ aB=>?_) λaZ aB=>?_
   ·refine ld aB (O0.mono aF bK) λcH bL bA aB=>?_
    obtain⟨bM,bN,bO,rfl,rfl,bB,bC,bD⟩:=N1 bA
    try dsimp only at aB
    refine ifB aB (λbE aB=>?_) λbE aB=>?_
    ·obtain rfl:=oJ aB
     try dsimp only[n5,G5]at aA
     obtain rfl:=oJ aA
     try dsimp only[n5,G5]at aC
     obtain rfl:=oJ aC
     exact aI rfl (aO.trans aF)
    ·exact D2 aT ⟨(IntKind.i64.wrap (aH+1)),rfl,rfl,aF,(J0 _),aB⟩
   ·obtain rfl:=oJ aB
    try dsimp only[S0,T0]at aA
    exact D2 m6 ⟨(IntKind.i64.wrap (u4+1)),rfl,rfl,(aO.trans aF),(J0 _),aA⟩
  ·obtain rfl:=oJ aA
   try dsimp only[S0,T0]at aC
   obtain rfl:=oJ aC
   exact aI rfl aO
theorem I9(h:Hp)(aB:List Value)(p0:j0)(aR:Z0.R h aB p0)(r:j0)(aC:B6 p0=some r):
  Tr Tryz.prog 132 #[.agg aB.toArray] h λv h'=>∃(aO:List Value),v = .agg aO.toArray/\New Z0 h h' aO r:=by
 obtain⟨aD,aF,aG,aP,aH,aJ,rfl,rfl,aK,aL,aA⟩:=H0 aR
 obtain⟨rfl,aQ⟩:=Sl.len aA
 unfold B6 at aC
 dsimp only at aC
 refine O2 (args:=[.agg #[.int .i64 aD,.int .i64 aF,.slice aG aJ.length aH]]) (fn:=Tryz.f132) rfl ?_
 refine Or.inr (Or.inr (Or.inl (aI (aI (by kernel_rfl) (by kernel_rfl)) ?_)))
 refine Or.inr ?_
 refine Or.inr ?_
 refine Or.inr ?_
 refine Or.inr ?_
 refine Or.inl (eX 0 (aI (aI rfl rfl) ?_))
 refine aI trivial (aI (by first|exact trivial|exact rfl) ?_)
 obtain⟨aM,aS,aN⟩:=Sl.rows (r:=E1.toRp) aA
 refine eX aM (aI aS ?_)
 obtain⟨q2,aT,aC⟩:=l0 aC
 refine aI (J1 aT (by first|rw[F2.length (show F2 (E1.R h) ([]:List (List Value)) ([]:K0) from trivial),F2.length aN]|exact congrArg (·+1) (F2.length (show F2 (E1.R h) ([]:List (List Value)) ([]:K0) from trivial)))) ?_
 refine aI trivial (aI (by first|exact trivial|exact rfl) ?_)
 refine aI trivial (aI (by first|exact trivial|exact rfl) ?_)
 refine aI trivial (aI (by first|exact trivial|exact rfl) ?_)
 intro v3 k4 f5
 obtain⟨aU,aV,rfl,aW,aX,aY⟩:=U0.out (r:=E1.toRp) f5 (F2.append (show F2 (E1.R h) ([]:List (List Value)) ([]:K0) from trivial) aN)
 obtain rfl:=oJ aC
 exact⟨([.int .i64 aD,.int .i64 aF,.slice aU ((([]:K0)++aJ)).length aV]),rfl,(New.pair (New.int aK) (New.pair (New.int aL) (U0.newPlain (r:=E1) f5 (F2.append (show F2 (E1.R h) ([]:List (List Value)) ([]:K0) from trivial) aN) (H0b _))))⟩
theorem W03(h:Hp)(bQ:Option Addr)(cT bR:Nat)(p0:K0)(bL:O0.R h [.slice bQ cT bR] p0)(bM:List Value)(p1:M0)(cY:E1.R h bM p1)(r:K0)(aW:l00 p0 p1=some r):
  Tr Tryz.prog 248 #[.slice bQ cT bR,.agg bM.toArray] h λv h'=>∃(a0:Option Addr) (n0 c0:Nat),v = .slice a0 n0 c0/\O0.R h' [.slice a0 n0 c0] r/\Sub h h':=by
 obtain⟨rfl,dL⟩:=Sl.len bL
 obtain⟨aA,aB,aC,rfl,rfl,aF,aG,aH⟩:=N1 cY
 unfold l00 at aW
 dsimp only at aW
 refine O2 (args:=[.slice bQ p0.length bR,.agg #[.int .i64 aA,.int .i64 aB,.int .i64 aC]]) (fn:=Tryz.f248) rfl ?_
 obtain⟨X1,bS,aW⟩:=l0 aW
 refine eX { vars:=[6,7],boxes:=[],owns:=[0],fuel:=true } (eX (λvs os h'=>∃ u2 u3 bK u4,vs.tail = [.bool u2,.int .i64 u3]/\os = [bK]/\Sub h h'/\P0 u3/\F2 (E1.R h') bK u4/\E4 p0 aA aB aC (I1 vs) u2 u3 u4=some X1) (eX (λ_ _=>0) (aI (eX Q0 ⟨false,0,[],([]:K0),rfl,rfl,(Sub.refl _),(by decide),(show F2 (E1.R h) ([]:List (List Value)) ([]:K0) from trivial),bS⟩) ?_)))
 rintro _ _ bK m6 k5 ⟨u2,u3,cZ,u4,⟨⟩,⟨⟩,aX,dM,aJ,aD⟩
 replace aD:E4 p0 aA aB aC m6 u2 u3 u4=some X1:=aD
 obtain _|m6:=m6
 ·cases aD
 rw[E4.eq_2]at aD
 refine ifB aD (λdA aD=>?_) λdA aD=>?_
 ·refine Or.inl (aI (aI (by kernel_rfl) (by kernel_rfl)) ?_)
  refine ld aD (O0.mono aX bL) λx8 dB dC aD=>?_
  obtain⟨dD,dE,dF,rfl,rfl,bN,bO,bP⟩:=N1 dC
  try dsimp only at aD
  obtain⟨x9,dG,aD⟩:=l0 aD
  refine eX (.int .i64 x9) (aI (P03 _ _ _ (L1 aF aG aH) _ _ (L1 bN bO bP) _  dG) ?_)
  obtain⟨dN,bT,aD⟩:=l0 aD
  have dO:P0 x9:=I0 bT
  refine ifB aD (λbU aD=>?_) λbU aD=>?_
  ·refine ifB aD (λbV aD=>?_) λbV aD=>?_
   ·obtain⟨dP,bW,aD⟩:=l0 aD
    refine aI (J1 bW (by first|rw[F2.length aJ,F2.length (show F2 (E1.R k5) ([[.int .i64 aA,.int .i64 aB,.int .i64 aC]]:List (List Value)) [(aA,aB,aC)] from⟨(L1 aF aG aH),trivial⟩)]|exact congrArg (·+1) (F2.length aJ))) ?_
    refine ld aD (O0.mono aX bL) λdQ cU bX aD=>?_
    obtain⟨aK,aL,aM,rfl,rfl,aY,aZ,bA⟩:=N1 bX
    try dsimp only at aD
    obtain⟨dR,bY,aD⟩:=l0 aD
    refine aI (J1 bY (by first|rw[F2.length (F2.append aJ (show F2 (E1.R k5) ([[.int .i64 aA,.int .i64 aB,.int .i64 aC]]:List (List Value)) [(aA,aB,aC)] from⟨(L1 aF aG aH),trivial⟩)),F2.length (show F2 (E1.R k5) ([[.int .i64 aK,.int .i64 aL,.int .i64 aM]]:List (List Value)) [(aK,aL,aM)] from⟨(L1 aY aZ bA),trivial⟩)]|exact congrArg (·+1) (F2.length (F2.append aJ (show F2 (E1.R k5) ([[.int .i64 aA,.int .i64 aB,.int .i64 aC]]:List (List Value)) [(aA,aB,aC)] from⟨(L1 aF aG aH),trivial⟩))))) ?_
    exact D2 m6 ⟨true,(IntKind.i64.wrap (u3+1)),((bK++([[.int .i64 aA,.int .i64 aB,.int .i64 aC]]:List (List Value)))++([[.int .i64 aK,.int .i64 aL,.int .i64 aM]]:List (List Value))),((u4 ++ [(aA,aB,aC)]) ++ [(aK,aL,aM)]),rfl,rfl,aX,(J0 _),(F2.append (F2.append aJ (show F2 (E1.R k5) ([[.int .i64 aA,.int .i64 aB,.int .i64 aC]]:List (List Value)) [(aA,aB,aC)] from⟨(L1 aF aG aH),trivial⟩)) (show F2 (E1.R k5) ([[.int .i64 aK,.int .i64 aL,.int .i64 aM]]:List (List Value)) [(aK,aL,aM)] from⟨(L1 aY aZ bA),trivial⟩)),aD⟩
   ·refine ld aD (O0.mono aX bL) λdS cV bZ aD=>?_
    obtain⟨aN,aO,aP,rfl,rfl,bB,bC,bD⟩:=N1 bZ
    try dsimp only at aD
    obtain⟨dT,cA,aD⟩:=l0 aD
    refine aI (J1 cA (by first|rw[F2.length aJ,F2.length (show F2 (E1.R k5) ([[.int .i64 aN,.int .i64 aO,.int .i64 aP]]:List (List Value)) [(aN,aO,aP)] from⟨(L1 bB bC bD),trivial⟩)]|exact congrArg (·+1) (F2.length aJ))) ?_
    exact D2 m6 ⟨true,(IntKind.i64.wrap (u3+1)),(bK++([[.int .i64 aN,.int .i64 aO,.int .i64 aP]]:List (List Value))),(u4 ++ [(aN,aO,aP)]),rfl,rfl,aX,(J0 _),(F2.append aJ (show F2 (E1.R k5) ([[.int .i64 aN,.int .i64 aO,.int .i64 aP]]:List (List Value)) [(aN,aO,aP)] from⟨(L1 bB bC bD),trivial⟩)),aD⟩
  ·refine ifB aD (λcC aD=>?_) λcC aD=>?_
   ·obtain⟨dU,cD,aD⟩:=l0 aD
    refine aI (J1 cD (by first|rw[F2.length aJ,F2.length (show F2 (E1.R k5) ([[.int .i64 aA,.int .i64 aB,.int .i64 aC]]:List (List Value)) [(aA,aB,aC)] from⟨(L1 aF aG aH),trivial⟩)]|exact congrArg (·+1) (F2.length aJ))) ?_
    refine ld aD (O0.mono aX bL) λdV cW cE aD=>?_
    obtain⟨aQ,aR,aS,rfl,rfl,bE,bF,bG⟩:=N1 cE
    try dsimp only at aD
    obtain⟨dW,cG,aD⟩:=l0 aD
    refine aI (J1 cG (by first|rw[F2.length (F2.append aJ (show F2 (E1.R k5) ([[.int .i64 aA,.int .i64 aB,.int .i64 aC]]:List (List Value)) [(aA,aB,aC)] from⟨(L1 aF aG aH),trivial⟩)),F2.length (show F2 (E1.R k5) ([[.int .i64 aQ,.int .i64 aR,.int .i64 aS]]:List (List Value)) [(aQ,aR,aS)] from⟨(L1 bE bF bG),trivial⟩)]|exact congrArg (·+1) (F2.length (F2.append aJ (show F2 (E1.R k5) ([[.int .i64 aA,.int .i64 aB,.int .i64 aC]]:List (List Value)) [(aA,aB,aC)] from⟨(L1 aF aG aH),trivial⟩))))) ?_
    exact D2 m6 ⟨true,(IntKind.i64.wrap (u3+1)),((bK++([[.int .i64 aA,.int .i64 aB,.int .i64 aC]]:List (List Value)))++([[.int .i64 aQ,.int .i64 aR,.int .i64 aS]]:List (List Value))),((u4 ++ [(aA,aB,aC)]) ++ [(aQ,aR,aS)]),rfl,rfl,aX,(J0 _),(F2.append (F2.append aJ (show F2 (E1.R k5) ([[.int .i64 aA,.int .i64 aB,.int .i64 aC]]:List (List Value)) [(aA,aB,aC)] from⟨(L1 aF aG aH),trivial⟩)) (show F2 (E1.R k5) ([[.int .i64 aQ,.int .i64 aR,.int .i64 aS]]:List (List Value)) [(aQ,aR,aS)] from⟨(L1 bE bF bG),trivial⟩)),aD⟩
   ·refine ld aD (O0.mono aX bL) λdX cX cH aD=>?_
    obtain⟨aT,aU,aV,rfl,rfl,bH,bI,bJ⟩:=N1 cH
    try dsimp only at aD
    obtain⟨dY,cI,aD⟩:=l0 aD
    refine aI (J1 cI (by first|rw[F2.length aJ,F2.length (show F2 (E1.R k5) ([[.int .i64 aT,.int .i64 aU,.int .i64 aV]]:List (List Value)) [(aT,aU,aV)] from⟨(L1 bH bI bJ),trivial⟩)]|exact congrArg (·+1) (F2.length aJ))) ?_
    exact D2 m6 ⟨u2,(IntKind.i64.wrap (u3+1)),(bK++([[.int .i64 aT,.int .i64 aU,.int .i64 aV]]:List (List Value))),(u4 ++ [(aT,aU,aV)]),rfl,rfl,aX,(J0 _),(F2.append aJ (show F2 (E1.R k5) ([[.int .i64 aT,.int .i64 aU,.int .i64 aV]]:List (List Value)) [(aT,aU,aV)] from⟨(L1 bH bI bJ),trivial⟩)),aD⟩
 ·obtain rfl:=oJ aD
  try dsimp only[S0,T0]at aW
  refine ifB aW (λcJ aW=>?_) λcJ aW=>?_
  ·obtain⟨dZ,cK,aW⟩:=l0 aW
   refine aI (J1 cK (by first|rw[F2.length aJ,F2.length (show F2 (E1.R k5) ([[.int .i64 aA,.int .i64 aB,.int .i64 aC]]:List (List Value)) [(aA,aB,aC)] from⟨(L1 aF aG aH),trivial⟩)]|exact congrArg (·+1) (F2.length aJ))) ?_
   intro eA eC dH
   obtain⟨cL,cM,rfl,cN,cO,dI⟩:=U0.out (r:=E1.toRp) dH (F2.append aJ (show F2 (E1.R k5) ([[.int .i64 aA,.int .i64 aB,.int .i64 aC]]:List (List Value)) [(aA,aB,aC)] from⟨(L1 aF aG aH),trivial⟩))
   obtain rfl:=oJ aW
   exact⟨cL,((u4 ++ [(aA,aB,aC)])).length,cM,rfl,cN,(aX.trans cO)⟩
  ·intro eD eE dJ
   obtain⟨cP,cQ,rfl,cR,cS,dK⟩:=U0.out (r:=E1.toRp) dJ aJ
   obtain rfl:=oJ aW
   exact⟨cP,u4.length,cQ,rfl,cR,(aX.trans cS)⟩
theorem x0c(h:Hp)(aG:List Value)(p0:j0)(bH:Z0.R h aG p0)(p1:Int)(bV:P0 p1)(r:Int)(aF:f00 p0 p1=some r):
  Tr Tryz.prog 318 #[.agg aG.toArray,.int .i64 p1] h λv h'=>v = .int .i64 r/\h'=h:=by
 obtain⟨aK,aL,aH,aT,aJ,aD,rfl,rfl,aU,aV,aB⟩:=H0 bH
 obtain⟨rfl,aW⟩:=Sl.len aB
 unfold f00 at aF
 dsimp only at aF
 refine Tr.forget (O2 (args:=[.agg #[.int .i64 aK,.int .i64 aL,.slice aH aD.length aJ],.int .i64 p1]) (fn:=Tryz.f318) rfl ?_)
 obtain⟨X1,aM,aF⟩:=l0 aF
 refine eX { vars:=[5,6],boxes:=[],owns:=[],fuel:=true } (eX (λvs os h'=>∃ u2 u3,vs.tail = [.int .i64 u2,.int .i64 u3]/\os = []/\Sub h h'/\P0 u2/\P0 u3/\L3 aD p1 (I1 vs) u2 u3=some X1) (eX (λ_ _=>0) (aI (eX Q0 ⟨0,0,rfl,rfl,(Sub.refl _),(by decide),(by decide),aM⟩) ?_)))
 rintro _ _ m5 k4 ⟨u2,u3,⟨⟩,⟨⟩,aC,bI,bW,aA⟩
 replace aA:L3 aD p1 m5 u2 u3=some X1:=aA
 obtain _|m5:=m5
 ·cases aA
 rw[L3.eq_2]at aA
 refine ifB aA (λbJ aA=>?_) λbJ aA=>?_
 ·refine ld aA (O0.mono aC aB) λx7 bK bL aA=>?_
  obtain⟨bM,bN,bO,rfl,rfl,aX,aY,aZ⟩:=N1 bL
  try dsimp only at aA
  refine ifB aA (λbP aA=>?_) λbP aA=>?_
  ·refine ld aA (O0.mono aC aB) λx9 bQ bR aA=>?_
   obtain⟨bS,bT,bU,rfl,rfl,bA,bB,bC⟩:=N1 bR
   try dsimp only at aA
   refine ifB aA (λaN aA=>?_) λaN aA=>?_
   ·exact D2 m5 ⟨(IntKind.i64.wrap ((IntKind.i64.wrap (u2+1))+1)),(IntKind.i64.wrap (u3+1)),rfl,rfl,aC,(J0 _),(J0 _),aA⟩
   ·exact D2 m5 ⟨(IntKind.i64.wrap (u2+1)),(IntKind.i64.wrap (u3+1)),rfl,rfl,aC,(J0 _),(J0 _),aA⟩
  ·refine ld aA (O0.mono aC aB) λbX bD aO aA=>?_
   obtain⟨bE,bF,bG,rfl,rfl,aP,aQ,aR⟩:=N1 aO
   try dsimp only at aA
   refine ifB aA (λaS aA=>?_) λaS aA=>?_
   ·exact D2 m5 ⟨(IntKind.i64.wrap (u2+1)),(IntKind.i64.wrap (u3+1)),rfl,rfl,aC,(J0 _),(J0 _),aA⟩
   ·exact D2 m5 ⟨u2,(IntKind.i64.wrap (u3+1)),rfl,rfl,aC,bI,(J0 _),aA⟩
 ·obtain rfl:=oJ aA
  try dsimp only[S0,T0]at aF
  obtain rfl:=oJ aF
  exact aI rfl aC
theorem N04(h:Hp)(aH:List Value)(p0:j0)(bO:Z0.R h aH p0)(aJ:List Value)(p1:j0)(bP:Z0.R h aJ p1)(r:Bool)(aB:r8 p0 p1=some r):
  Tr Tryz.prog 194 #[.agg aH.toArray,.agg aJ.toArray] h λv h'=>v = .bool r/\h'=h:=by
 obtain⟨aP,aQ,aK,bA,aL,aF,rfl,rfl,bB,bC,aC⟩:=H0 bO
 obtain⟨rfl,bD⟩:=Sl.len aC
 obtain⟨aR,aS,aM,bE,aN,aG,rfl,rfl,bF,bG,aD⟩:=H0 bP
 obtain⟨rfl,bH⟩:=Sl.len aD
 unfold r8 at aB
 dsimp only at aB
 refine Tr.forget (O2 (args:=[.agg #[.int .i64 aP,.int .i64 aQ,.slice aK aF.length aL],.agg #[.int .i64 aR,.int .i64 aS,.slice aM aG.length aN]]) (fn:=Tryz.f194) rfl ?_)
 refine ifB aB (λbQ aB=>?_) λbQ aB=>?_
 ·obtain rfl:=oJ aB
  exact aI rfl (Sub.refl _)
 ·obtain⟨X2,aT,aB⟩:=l0 aB
  refine eX { vars:=[5],boxes:=[],owns:=[],fuel:=true } (eX (λvs os h'=>∃ u3,vs.tail = [.int .i64 u3]/\os = []/\Sub h h'/\P0 u3/\a6 aF aG (I1 vs) u3=some X2) (eX (λ_ _=>0) (aI (eX Q0 ⟨0,rfl,rfl,(Sub.refl _),(by decide),aT⟩) ?_)))
  rintro _ m5 k4 ⟨u3,⟨⟩,⟨⟩,aO,bX,aA⟩
  replace aA:a6 aF aG m5 u3=some X2:=aA
  obtain _|m5:=m5
  ·cases aA
  rw[a6.eq_2]at aA
  refine ifB aA (λbR aA=>?_) λbR aA=>?_
  ·refine Or.inl (aI (aI (by kernel_rfl) (by kernel_rfl)) ?_)
   refine ld aA (O0.mono aO aC) λx7 bS bT aA=>?_
   obtain⟨aU,aV,aW,rfl,rfl,bI,bJ,bK⟩:=N1 bT
   try dsimp only at aA
   refine ld aA (O0.mono aO aD) λx8 bU bV aA=>?_
   obtain⟨aX,aY,aZ,rfl,rfl,bL,bM,bN⟩:=N1 bV
   try dsimp only at aA
   refine eX (!eqE (aU,aV,aW) (aX,aY,aZ)) (aI (S0h _ _ _ rfl _ _ _ _ _ _) ?_)
   refine ifB aA (λbW aA=>?_) λbW aA=>?_
   ·obtain rfl:=oJ aA
    try dsimp only[n5,G5]at aB
    obtain rfl:=oJ aB
    exact aI rfl aO
   ·exact D2 m5 ⟨(IntKind.i64.wrap (u3+1)),rfl,rfl,aO,(J0 _),aA⟩
  ·obtain rfl:=oJ aA
   try dsimp only[S0,T0]at aB
   obtain rfl:=oJ aB
   exact aI rfl aO
theorem p09(h:Hp)(aZ:List Value)(p0:j0)(cR:Z0.R h aZ p0)(p1:Int)(cH:P0 p1)(r:F0)(aF:T9 p0 p1=some r):
  Tr Tryz.prog 334 #[.agg aZ.toArray,.int .i64 p1] h λv h'=>∃(a0:Option Addr) (n0 c0:Nat),v = .slice a0 n0 c0/\W0.R h' [.slice a0 n0 c0] r/\Sub h h':=by
 obtain⟨bL,bA,bB,cI,bC,aJ,rfl,rfl,bD,bE,aK⟩:=H0 cR
 obtain⟨rfl,cJ⟩:=Sl.len aK
 unfold T9 at aF
 dsimp only at aF
 refine O2 (args:=[.agg #[.int .i64 bL,.int .i64 bA,.slice bB aJ.length bC],.int .i64 p1]) (fn:=Tryz.f334) rfl ?_
 refine trV aF (a9 _ _ _ (B0 bD bE aK)) λx1 aF=>?_
 refine trG aF (λq=>Z8 _ _ cH 0 (by decide) (IntKind.i64.wrap (bA-1)) (J0 _)) λx2 aF=>?_
 refine ifB aF (λcS aF=>?_) λcS aF=>?_
 ·intro v4 k5 f6
  obtain⟨cT,cU,rfl,cV,cW,dK⟩:=U0.out (r:=Wp.int.toRp) f6 (show F2 (Wp.int.R h) ([]:List (List Value)) ([]:F0) from trivial)
  obtain rfl:=oJ aF
  exact⟨cT,(([]:F0)).length,cU,rfl,cV,cW⟩
 ·obtain⟨X12,bF,aF⟩:=l0 aF
  refine eX { vars:=[5,6],boxes:=[],owns:=[],fuel:=true,pubs:=[5,22] } (eX (λvs os h'=>∃(aL:Option Addr) (aS aM:Nat) (aT:F0) (aY:Int),vs.tail = [.slice aL aS aM,.int .i64 aY]/\os = []/\Sub h h'/\W0.R h' [.slice aL aS aM] aT/\P0 aY/\o5 aJ (I1 vs) aT aY=some X12) (eX (λ_ _=>0) ?_))
  intro v8 k9 cX
  obtain⟨bM,bN,rfl,bO,bP,cY⟩:=U0.out (r:=Wp.int.toRp) cX (show F2 (Wp.int.R h) ([[.int .i64 p1]]:List (List Value)) [p1] from⟨⟨rfl,cH⟩,trivial⟩)
  refine aI (eX Q0 ⟨bM,([p1]).length,bN,[p1],0,rfl,rfl,bP,bO,(by decide),bF⟩) ?_
  rintro _ _ bK cZ ⟨aL,aS,aM,aT,aY,⟨⟩,⟨⟩,aU,aV,dA,aH⟩
  replace aH:o5 aJ bK aT aY=some X12:=aH
  obtain _|bK:=bK
  ·cases aH
  rw[o5.eq_2]at aH
  obtain⟨rfl,dB⟩:=Sl.len aV
  refine ifB aH (λbQ aH=>?_) λbQ aH=>?_
  ·obtain⟨X18,bG,aH⟩:=l0 aH
   refine eX { vars:=[5,7],boxes:=[],owns:=[],fuel:=true } (eX (λvs os h'=>∃ aN aW aO aR aP,vs.tail = [.slice aN aW aO,.int .i64 aP]/\os = []/\Sub cZ h'/\W0.R h' [.slice aN aW aO] aR/\P0 aP/\G3 aJ (I1 vs) aR aP=some X18) (eX (λ_ _=>0) (aI (eX Q0 ⟨aL,aT.length,aM,aT,0,rfl,rfl,(Sub.refl _),aV,(by decide),bG⟩) ?_)))
   rintro _ _ aX dL ⟨aN,aW,aO,aR,aP,⟨⟩,⟨⟩,aG,aB,dC,aA⟩
   replace aA:G3 aJ aX aR aP=some X18:=aA
   obtain _|aX:=aX
   ·cases aA
   rw[G3.eq_2]at aA
   obtain⟨rfl,dD⟩:=Sl.len aB
   refine ifB aA (λbR aA=>?_) λbR aA=>?_
   ·refine ld aA (O0.mono (aU.trans aG) aK) λdM cK bS aA=>?_
    obtain⟨cL,cM,cN,rfl,rfl,aC,bT,aD⟩:=N1 bS
    try dsimp only at aA
    refine trV aA (e02 _ _ _ _ _ aB _ aC) λdN aA=>?_
    refine ifB aA (λbU aA=>?_) λbU aA=>?_
    ·refine trM aA (d02 _ _ _ _ _ aB _ aD) ?_
     rintro cO aA dO dP ⟨bV,dE,bW,rfl,aQ,bH⟩
     obtain⟨rfl,dF⟩:=Sl.len aQ
     refine trV aA (e02 _ _ _ _ _ aQ _ aD) λdQ aA=>?_
     refine ifB aA (λbX aA=>?_) λbX aA=>?_
     ·refine trM aA (d02 _ _ _ _ _ aQ _ aC) ?_
      rintro cP aA dR dS ⟨bY,dG,bZ,rfl,bI,cA⟩
      obtain⟨rfl,dH⟩:=Sl.len bI
      exact D2 aX ⟨bY,cP.length,bZ,cP,(IntKind.i64.wrap (aP+1)),rfl,rfl,((aG.trans bH).trans cA),bI,(J0 _),aA⟩
     ·exact D2 aX ⟨bV,cO.length,bW,cO,(IntKind.i64.wrap (aP+1)),rfl,rfl,(aG.trans bH),aQ,(J0 _),aA⟩
    ·refine trV aA (e02 _ _ _ _ _ aB _ aD) λdT aA=>?_
     refine ifB aA (λcC aA=>?_) λcC aA=>?_
     ·refine trM aA (d02 _ _ _ _ _ aB _ aC) ?_
      rintro cQ aA dU dV ⟨cD,dI,cE,rfl,bJ,cG⟩
      obtain⟨rfl,dJ⟩:=Sl.len bJ
      exact D2 aX ⟨cD,cQ.length,cE,cQ,(IntKind.i64.wrap (aP+1)),rfl,rfl,(aG.trans cG),bJ,(J0 _),aA⟩
     ·exact D2 aX ⟨aN,aR.length,aO,aR,(IntKind.i64.wrap (aP+1)),rfl,rfl,aG,aB,(J0 _),aA⟩
   ·obtain rfl:=oJ aA
    try dsimp only[S0,T0]at aH
    exact D2 bK ⟨aN,aR.length,aO,aR,(IntKind.i64.wrap (aY+1)),rfl,rfl,(aU.trans aG),aB,(J0 _),aH⟩
  ·obtain rfl:=oJ aH
   try dsimp only[S0,T0]at aF
   obtain rfl:=oJ aF
   exact⟨aL,aT.length,aM,rfl,aV,aU⟩
theorem L08(h:Hp)(aK:List Value)(p0:j0)(aW:Z0.R h aK p0)(r:Int)(aC:v01 p0=some r):
  Tr Tryz.prog 294 #[.agg aK.toArray] h λv h'=>v = .int .i64 r/\h'=h:=by
 obtain⟨aG,aH,aL,aS,aM,aJ,rfl,rfl,aD,aF,aB⟩:=H0 aW
 obtain⟨rfl,aT⟩:=Sl.len aB
 unfold v01 at aC
 dsimp only at aC
 refine Tr.forget (O2 (args:=[.agg #[.int .i64 aG,.int .i64 aH,.slice aL aJ.length aM]]) (fn:=Tryz.f294) rfl ?_)
 refine trM aC (p09 _ _ _ (B0 aD aF aB) 0 (by decide)) ?_
 rintro x1 aC v3 k2 ⟨aY,aZ,bA,rfl,aU,aO⟩
 obtain⟨rfl,bB⟩:=Sl.len aU
 obtain⟨X4,aP,aC⟩:=l0 aC
 refine eX { vars:=[4],boxes:=[],owns:=[],fuel:=true } (eX (λvs os h'=>∃ u5,vs.tail = [.int .i64 u5]/\os = []/\Sub k2 h'/\P0 u5/\Z7 aH aG aJ x1 (I1 vs) u5=some X4) (eX (λ_ _=>0) (aI (eX Q0 ⟨1,rfl,rfl,(Sub.refl _),(by decide),aP⟩) ?_)))
 rintro _ m7 k6 ⟨u5,⟨⟩,⟨⟩,aN,aV,aA⟩
 replace aA:Z7 aH aG aJ x1 m7 u5=some X4:=aA
 obtain _|m7:=m7
 ·cases aA
 rw[Z7.eq_2]at aA
 refine ifB aA (λaX aA=>?_) λaX aA=>?_
 ·refine trV aA (x0c _ _ _ (B0 aD aF (O0.mono (aO.trans aN) aB)) _ aV) λx9 aA=>?_
  obtain⟨bC,aQ,aA⟩:=l0 aA
  have bD:P0 x9:=I0 aQ
  refine trG aA (λq=>e02 _ _ _ _ _ (W0.mono aN aU) _ aV) λbE aA=>?_
  refine ifB aA (λaR aA=>?_) λaR aA=>?_
  ·obtain rfl:=oJ aA
   try dsimp only[n5,G5]at aC
   obtain rfl:=oJ aC
   exact aI rfl (aO.trans aN)
  ·exact D2 m7 ⟨(IntKind.i64.wrap (u5+1)),rfl,rfl,aN,(J0 _),aA⟩
 ·obtain rfl:=oJ aA
  try dsimp only[S0,T0]at aC
  obtain rfl:=oJ aC
  exact aI rfl (aO.trans aN)
theorem T01(h:Hp)(bF:List Value)(p0:j0)(eO:Z0.R h bF p0)(cD:Option Addr)(dU cE:Nat)(p1:F0)(bX:W0.R h [.slice cD dU cE] p1)(r:j0×Bool)(aB:c6 p0 p1=some r):
  Tr Tryz.prog 320 #[.agg bF.toArray,.slice cD dU cE] h λv h'=>∃(dV:List Value),v = .tuple #[.agg dV.toArray,.bool r.2]/\Z0.R h' dV r.1/\Sub h h':=by
 obtain⟨aO,aF,bG,dW,bH,aH,rfl,rfl,aG,aJ,aC⟩:=H0 eO
 obtain⟨rfl,dX⟩:=Sl.len aC
 obtain⟨rfl,eP⟩:=Sl.len bX
 unfold c6 at aB
 dsimp only at aB
 refine O2 (args:=[.agg #[.int .i64 aO,.int .i64 aF,.slice bG aH.length bH],.slice cD p1.length cE]) (fn:=Tryz.f320) rfl ?_
 refine trV aB (a9 _ _ _ (B0 aG aJ aC)) λx1 aB=>?_
 refine ifB aB (λeQ aB=>?_) λeQ aB=>?_
 ·refine trM aB (I9 _ _ _ (B0 aG aJ aC)) ?_
  rintro x3 aB v5 k4 ⟨eR,rfl,dY⟩
  have eT:Sub h k4:=dY.sub
  have eU:=dY.r
  obtain⟨cG,cH,bI,dZ,bJ,cI,rfl,rfl,bK,bL,aQ⟩:=H0 eU
  obtain⟨rfl,eA⟩:=Sl.len aQ
  try dsimp only at aB
  obtain rfl:=oJ aB
  exact⟨([.int .i64 cG,.int .i64 cH,.slice bI cI.length bJ]),rfl,(B0 bK bL aQ),eT⟩
 ·obtain⟨q6,eV,aB⟩:=l0 aB
  refine aI (I0 eV) ?_
  obtain⟨X7,cJ,aB⟩:=l0 aB
  refine eX { vars:=[8],boxes:=[],owns:=[0],fuel:=true,kept:=[0] } (eX (λvs os h'=>∃ u8 bY u9,vs.tail = [.int .i64 u8]/\os = [bY]/\Sub h h'/\P0 u8/\F2 (Wp.int.R h') bY u9/\F4 p1 aF aO aH (I1 vs) u8 u9=some X7) (eX (λ_ _=>0) (aI (eX Q0 ⟨0,(List.replicate aF.toNat ([.int .i64 0]:List Value)),(List.replicate aF.toNat (0:Int)),rfl,rfl,(Sub.refl _),(by decide),(F2.rep (p:=Wp.int.R h) (a:=[.int .i64 0]) (b:=0) ⟨rfl,(by decide)⟩ (aF.toNat)),cJ⟩) ?_)))
  rintro _ bY bZ bM ⟨u8,eW,u9,⟨⟩,⟨⟩,aR,fO,aU,aA⟩
  replace aA:F4 p1 aF aO aH bZ u8 u9=some X7:=aA
  obtain _|bZ:=bZ
  ·cases aA
  rw[F4.eq_2]at aA
  refine ifB aA (λcK aA=>?_) λcK aA=>?_
  ·refine Or.inl (aI (aI (by kernel_rfl) (by kernel_rfl)) ?_)
   refine ldI aA (W0.mono aR bX) λfP cL aA=>?_
   obtain⟨eY,cM,aA⟩:=l0 aA
   refine eX (.bool eY) (aI (Z8 _ _ cL 0 (by decide) (IntKind.i64.wrap (aF-1)) (J0 _) _  cM) ?_)
   refine ldG aA (W0.mono aR bX) λfQ eZ aA=>?_
   obtain⟨fR,cN,aA⟩:=l0 aA
   obtain⟨eC,bN,cO⟩:=f01 aU cN (K0d bM)
   refine aI (λq=>(bN q).1) ?_
   obtain⟨rfl,fA⟩:=cO
   refine eX _ (aI (λq=>(bN q).2) ?_)
   refine ifB aA (λcP aA=>?_) λcP aA=>?_
   ·refine trM aA (I9 _ _ _ (B0 aG aJ (O0.mono aR aC))) ?_
    rintro fS aA fT fB ⟨eD,rfl,bO⟩
    have cQ:Sub bM fB:=bO.sub
    have cR:=bO.r
    obtain⟨bP,bQ,aV,cS,aW,bR,rfl,rfl,aX,aY,aK⟩:=H0 cR
    obtain⟨rfl,cT⟩:=Sl.len aK
    try dsimp only at aA
    obtain rfl:=oJ aA
    try dsimp only[n5,G5]at aB
    obtain rfl:=oJ aB
    exact⟨([.int .i64 bP,.int .i64 bQ,.slice aV bR.length aW]),rfl,(B0 aX aY aK),(aR.trans cQ)⟩
   ·refine ldI aA (W0.mono aR bX) λcU fC aA=>?_
    obtain⟨fU,cV,aA⟩:=l0 aA
    obtain⟨cW,eE,cX,cY⟩:=P1 aU cV
    refine aI cW ?_
    obtain⟨rfl,fD⟩:=cY
    refine eX _ (aI cX ?_)
    exact D2 bZ ⟨(IntKind.i64.wrap (u8+1)),(bY.set cU.toNat [.int .i64 (IntKind.i64.wrap (u8+1))]),(u9.set cU.toNat (IntKind.i64.wrap (u8+1))),rfl,rfl,aR,(J0 _),(F2.set (p:=Wp.int.R bM) (a:=[.int .i64 (IntKind.i64.wrap (u8+1))]) (b:=(IntKind.i64.wrap (u8+1))) ⟨rfl,(J0 _)⟩ cU.toNat aU),aA⟩
  ·obtain rfl:=oJ aA
   try dsimp only[S0,T0]at aB
   obtain⟨X23,bS,aB⟩:=l0 aB
   refine eX { vars:=[9],boxes:=[2],owns:=[],fuel:=true } (eX (λvs os h'=>∃ aZ aS aT aL bA aM bB,vs.tail = [.int .i64 aZ,.int .i64 aS,.int .i64 aT,.slice aL bA aM]/\os = []/\Sub bM h'/\P0 aZ/\P0 aS/\P0 aT/\O0.R h' [.slice aL bA aM] bB/\U3 aH u9 (I1 vs) aZ aS aT bB=some X23) (eX (λ_ _=>0) (aI (eX Q0 ⟨0,aO,((p1.length:Nat):Int),none,0,0,[],rfl,rfl,(Sub.refl _),(by decide),aG,(T0q eP),(B0o E1 bM),bS⟩) ?_)))
   rintro _ _ _ _ bT fE ⟨aZ,aS,aT,aL,bA,aM,bB,⟨⟩,⟨⟩,aD,fF,bC,bD,aP,aA⟩
   replace aA:U3 aH u9 bT aZ aS aT bB=some X23:=aA
   obtain _|bT:=bT
   ·cases aA
   rw[U3.eq_2]at aA
   obtain⟨rfl,fG⟩:=Sl.len aP
   refine ifB aA (λcZ aA=>?_) λcZ aA=>?_
   ·refine ld aA (O0.mono (aR.trans aD) aC) λfV eF dA aA=>?_
    obtain⟨eG,aN,eH,rfl,rfl,dB,bE,dC⟩:=N1 dA
    try dsimp only at aA
    obtain⟨fW,dD,aA⟩:=l0 aA
    obtain⟨dE,eI,dF,dG⟩:=P1 (F2.up (r:=Wp.int.toRp) aD aU) dD
    refine aI dE ?_
    obtain⟨rfl,fH⟩:=dG
    refine eX _ (aI dF ?_)
    obtain⟨fX,dH,aA⟩:=l0 aA
    obtain⟨eJ,bU,dI⟩:=f01 (F2.up (r:=Wp.int.toRp) aD aU) dH (K0d fE)
    refine aI (λq=>(bU q).1) ?_
    obtain⟨rfl,fJ⟩:=dI
    refine eX _ (aI (λq=>(bU q).2) ?_)
    refine ifB aA (λdJ aA=>?_) λdJ aA=>?_
    ·refine Or.inr (Or.inr (Or.inl (aI (aI (by kernel_rfl) (by kernel_rfl)) ?_)))
     obtain⟨cA,dK,aA⟩:=l0 aA
     obtain⟨dL,eK,dM,dN⟩:=P1 (F2.up (r:=Wp.int.toRp) aD aU) dK
     obtain⟨rfl,fK⟩:=dN
     refine Or.inl ?_
     apply eX
     refine aI ?_ ?_
     ·intro fY fZ
      exact aI dL (aI rfl (aI rfl rfl))
     refine Or.inl (eX (.val (.int .i64 cA)) (aI ?_ ?_))
     ·intro gA gB
      exact eX _ (aI dM (aI rfl (aI rfl rfl)))
     obtain⟨cC,dO,aA⟩:=l0 aA
     obtain⟨dP,eM,dQ,dR⟩:=P1 (F2.up (r:=Wp.int.toRp) aD aU) dO
     obtain⟨rfl,fL⟩:=dR
     refine Or.inl ?_
     apply eX
     refine aI ?_ ?_
     ·intro gC gD
      exact aI dP (aI rfl (aI rfl rfl))
     refine Or.inl (eX (.val (.int .i64 cC)) (aI ?_ ?_))
     ·intro gE gF
      exact eX _ (aI dQ (aI rfl (aI rfl rfl)))
     refine Or.inl (eX (.agg [.val (.int .i64 (IntKind.i64.wrap (cA-1))),.val (.int .i64 aN),.val (.int .i64 (IntKind.i64.wrap (cC-1)))]) (aI ?_ ?_))
     ·intro gG gH
      exact aI rfl (aI rfl rfl)
     refine Or.inr ?_
     refine Or.inr ?_
     refine Or.inl (eX 1 (aI (aI rfl rfl) ?_))
     refine trM aA (W03 _ _ _ _ _ aP [.int .i64 (IntKind.i64.wrap (cA-1)),.int .i64 aN,.int .i64 (IntKind.i64.wrap (cC-1))] ((IntKind.i64.wrap (cA-1)),aN,(IntKind.i64.wrap (cC-1))) (L1 (J0 _) bE (J0 _))) ?_
     rintro eN aA gI gJ ⟨dS,fM,dT,rfl,bV,bW⟩
     obtain⟨rfl,fN⟩:=Sl.len bV
     refine aI (aI rfl bW) (aI (by first|exact trivial|exact rfl) ?_)
     refine aI trivial (aI (by first|exact trivial|exact rfl) ?_)
     exact D2 bT ⟨(IntKind.i64.wrap (aZ+1)),aS,aT,dS,eN.length,dT,eN,rfl,rfl,(aD.trans bW),(J0 _),bC,bD,bV,aA⟩
    ·exact D2 bT ⟨(IntKind.i64.wrap (aZ+1)),aS,aT,aL,bB.length,aM,bB,rfl,rfl,aD,(J0 _),bC,bD,aP,aA⟩
   ·obtain rfl:=oJ aA
    try dsimp only[S0,T0]at aB
    obtain rfl:=oJ aB
    exact⟨([.int .i64 aS,.int .i64 aT,.slice aL bB.length aM]),rfl,(B0 bC bD aP),(aR.trans aD)⟩
theorem R00(h:Hp)(p0:Int)(aT:P0 p0)(r:F0)(aC:Y4 p0=some r):
  Tr Tryz.prog 319 #[.int .i64 p0] h λv h'=>∃(a0:Option Addr) (n0 c0:Nat),v = .slice a0 n0 c0/\W0.R h' [.slice a0 n0 c0] r/\Sub h h':=by
 unfold Y4 at aC
 refine O2 (args:=[.int .i64 p0]) (fn:=Tryz.f319) rfl ?_
 obtain⟨X1,aG,aC⟩:=l0 aC
 refine eX { vars:=[4],boxes:=[],owns:=[0],fuel:=true } (eX (λvs os h'=>∃ u2 aD u3,vs.tail = [.int .i64 u2]/\os = [aD]/\Sub h h'/\P0 u2/\F2 (Wp.int.R h') aD u3/\d6 p0 (I1 vs) u2 u3=some X1) (eX (λ_ _=>0) (aI (eX Q0 ⟨1,[],([]:F0),rfl,rfl,(Sub.refl _),(by decide),(show F2 (Wp.int.R h) ([]:List (List Value)) ([]:F0) from trivial),aG⟩) ?_)))
 rintro _ aD m5 k4 ⟨u2,aN,u3,⟨⟩,⟨⟩,aM,aF,aB,aA⟩
 replace aA:d6 p0 m5 u2 u3=some X1:=aA
 obtain _|m5:=m5
 ·cases aA
 rw[d6.eq_2]at aA
 refine ifB aA (λaO aA=>?_) λaO aA=>?_
 ·obtain⟨q7,aP,aA⟩:=l0 aA
  refine aI (J1 aP (by first|rw[F2.length aB,F2.length (show F2 (Wp.int.R k4) ([[.int .i64 u2]]:List (List Value)) [u2] from⟨⟨rfl,aF⟩,trivial⟩)]|exact congrArg (·+1) (F2.length aB))) ?_
  obtain⟨q8,aQ,aA⟩:=l0 aA
  refine aI (J1 aQ (by first|rw[F2.length (F2.append aB (show F2 (Wp.int.R k4) ([[.int .i64 u2]]:List (List Value)) [u2] from⟨⟨rfl,aF⟩,trivial⟩)),F2.length (show F2 (Wp.int.R k4) ([[.int .i64 (IntKind.i64.wrap (0-u2))]]:List (List Value)) [(IntKind.i64.wrap (0-u2))] from⟨⟨rfl,(J0 _)⟩,trivial⟩)]|exact congrArg (·+1) (F2.length (F2.append aB (show F2 (Wp.int.R k4) ([[.int .i64 u2]]:List (List Value)) [u2] from⟨⟨rfl,aF⟩,trivial⟩))))) ?_
  exact D2 m5 ⟨(IntKind.i64.wrap (u2+1)),((aD++([[.int .i64 u2]]:List (List Value)))++([[.int .i64 (IntKind.i64.wrap (0-u2))]]:List (List Value))),((u3 ++ [u2]) ++ [(IntKind.i64.wrap (0-u2))]),rfl,rfl,aM,(J0 _),(F2.append (F2.append aB (show F2 (Wp.int.R k4) ([[.int .i64 u2]]:List (List Value)) [u2] from⟨⟨rfl,aF⟩,trivial⟩)) (show F2 (Wp.int.R k4) ([[.int .i64 (IntKind.i64.wrap (0-u2))]]:List (List Value)) [(IntKind.i64.wrap (0-u2))] from⟨⟨rfl,(J0 _)⟩,trivial⟩)),aA⟩
 ·obtain rfl:=oJ aA
  try dsimp only[S0,T0]at aC
  intro v9 aU aR
  obtain⟨aH,aJ,rfl,aK,aL,aS⟩:=U0.out (r:=Wp.int.toRp) aR aB
  obtain rfl:=oJ aC
  exact⟨aH,u3.length,aJ,rfl,aK,(aM.trans aL)⟩
theorem P06(h:Hp)(aX:List Value)(p0:j0)(cH:Z0.R h aX p0)(r:F0)(aD:l8 p0=some r):
  Tr Tryz.prog 335 #[.agg aX.toArray] h λv h'=>∃(a0:Option Addr) (n0 c0:Nat),v = .slice a0 n0 c0/\W0.R h' [.slice a0 n0 c0] r/\Sub h h':=by
 obtain⟨aG,aH,aY,bY,aZ,aJ,rfl,rfl,aK,aP,aL⟩:=H0 cH
 obtain⟨rfl,bZ⟩:=Sl.len aL
 unfold l8 at aD
 dsimp only at aD
 refine O2 (args:=[.agg #[.int .i64 aG,.int .i64 aH,.slice aY aJ.length aZ]]) (fn:=Tryz.f335) rfl ?_
 refine trV aD (g8 _ _ _ (B0 aK aP aL)) λx1 aD=>?_
 refine ifB aD (λcI aD=>?_) λcI aD=>?_
 ·intro v3 k4 f5
  obtain⟨cJ,cK,rfl,cL,cM,cZ⟩:=U0.out (r:=Wp.int.toRp) f5 (show F2 (Wp.int.R h) ([]:List (List Value)) ([]:F0) from trivial)
  obtain rfl:=oJ aD
  exact⟨cJ,(([]:F0)).length,cK,rfl,cL,cM⟩
 ·refine trM aD (R00 _ _ aK) ?_
  rintro x7 aD v9 k8 ⟨dA,dB,dC,rfl,cA,bE⟩
  obtain⟨rfl,dD⟩:=Sl.len cA
  obtain⟨X10,bA,aD⟩:=l0 aD
  refine eX { vars:=[5],boxes:=[],owns:=[0],fuel:=true } (eX (λvs os h'=>∃ aQ aM aW,vs.tail = [.int .i64 aQ]/\os = [aM]/\Sub k8 h'/\P0 aQ/\F2 (Wp.int.R h') aM aW/\Z4 x7 aG aH aJ (I1 vs) aQ aW=some X10) (eX (λ_ _=>0) (aI (eX Q0 ⟨0,([[.int .i64 0]]:List (List Value)),[0],rfl,rfl,(Sub.refl _),(by decide),(F2.up (r:=Wp.int.toRp) bE (show F2 (Wp.int.R h) ([[.int .i64 0]]:List (List Value)) [0] from⟨⟨rfl,(by decide)⟩,trivial⟩)),bA⟩) ?_)))
  rintro _ aM bD cN ⟨aQ,cC,aW,⟨⟩,⟨⟩,aO,cO,aS,aB⟩
  replace aB:Z4 x7 aG aH aJ bD aQ aW=some X10:=aB
  obtain _|bD:=bD
  ·cases aB
  rw[Z4.eq_2]at aB
  obtain⟨cP,bF,aB⟩:=l0 aB
  obtain rfl:aM.length=cP:=(F2.length aS).trans (oJ bF)
  obtain⟨dE,cQ,aB⟩:=l0 aB
  refine ifB aB (λbG aB=>?_) λbG aB=>?_
  ·obtain⟨X18,bB,aB⟩:=l0 aB
   refine eX { vars:=[6],boxes:=[],owns:=[0],fuel:=true } (eX (λvs os h'=>∃ aT aF aU,vs.tail = [.int .i64 aT]/\os = [aF]/\Sub cN h'/\P0 aT/\F2 (Wp.int.R h') aF aU/\M3 x7 aQ aG aH aJ (I1 vs) aT aU=some X18) (eX (λ_ _=>0) (aI (eX Q0 ⟨0,aM,aW,rfl,rfl,(Sub.refl _),(by decide),aS,bB⟩) ?_)))
   rintro _ aF bC cD ⟨aT,cE,aU,⟨⟩,⟨⟩,aN,cR,aC,aA⟩
   replace aA:M3 x7 aQ aG aH aJ bC aT aU=some X18:=aA
   obtain _|bC:=bC
   ·cases aA
   rw[M3.eq_2]at aA
   refine ifB aA (λbH aA=>?_) λbH aA=>?_
   ·refine Or.inl (aI (aI (by kernel_rfl) (by kernel_rfl)) ?_)
    obtain⟨dF,bI,aA⟩:=l0 aA
    obtain⟨bJ,cG,bK,bL⟩:=P1 aC bI
    refine aI bJ ?_
    obtain⟨rfl,bM⟩:=bL
    refine eX _ (aI bK ?_)
    refine ldI aA (W0.mono (aO.trans aN) cA) λdG bN aA=>?_
    obtain⟨aR,bO,aA⟩:=l0 aA
    refine eX (.int .i64 aR) (aI (U6 _ _ _ (B0 aK aP (O0.mono ((bE.trans aO).trans aN) aL)) _ bM _ bN _  bO) ?_)
    obtain⟨dH,bP,aA⟩:=l0 aA
    have aV:P0 aR:=I0 bP
    obtain⟨cS,bQ,aA⟩:=l0 aA
    refine eX (.bool cS) (aI ?_ ?_)
    ·intro hq
     intro dI dJ cT
     obtain⟨cU,cV,rfl,bR,cW,cX⟩:=U0.out (r:=Wp.int.toRp) cT aC
     exact e02 _ _ _ _ _ bR _ aV _ (I7 bQ hq)
    refine ifB aA (λbS aA=>?_) λbS aA=>?_
    ·obtain⟨dK,bT,aA⟩:=l0 aA
     refine aI (J1 bT (by first|rw[F2.length aC,F2.length (show F2 (Wp.int.R cD) ([[.int .i64 aR]]:List (List Value)) [aR] from⟨⟨rfl,aV⟩,trivial⟩)]|exact congrArg (·+1) (F2.length aC))) ?_
     exact D2 bC ⟨(IntKind.i64.wrap (aT+1)),(aF++([[.int .i64 aR]]:List (List Value))),(aU ++ [aR]),rfl,rfl,aN,(J0 _),(F2.append aC (show F2 (Wp.int.R cD) ([[.int .i64 aR]]:List (List Value)) [aR] from⟨⟨rfl,aV⟩,trivial⟩)),aA⟩
    ·exact D2 bC ⟨(IntKind.i64.wrap (aT+1)),aF,aU,rfl,rfl,aN,(J0 _),aC,aA⟩
   ·obtain rfl:=oJ aA
    try dsimp only[S0,T0]at aB
    exact D2 bD ⟨(IntKind.i64.wrap (aQ+1)),aF,aU,rfl,rfl,(aO.trans aN),(J0 _),aC,aB⟩
  ·obtain rfl:=oJ aB
   try dsimp only[S0,T0]at aD
   intro dL dM f41
   obtain⟨bU,bV,rfl,bW,bX,cY⟩:=U0.out (r:=Wp.int.toRp) f41 aS
   obtain rfl:=oJ aD
   exact⟨bU,aW.length,bV,rfl,bW,((bE.trans aO).trans bX)⟩
theorem c03(h:Hp)(aQ:List Value)(p0:j0)(bO:Z0.R h aQ p0)(r:j0)(aA:W6 p0=some r):
  Tr Tryz.prog 295 #[.agg aQ.toArray] h λv h'=>∃(bH:List Value),v = .agg bH.toArray/\Z0.R h' bH r/\Sub h h':=by
 obtain⟨bA,bB,aR,bI,aS,bC,rfl,rfl,aD,aF,aB⟩:=H0 bO
 obtain⟨rfl,bJ⟩:=Sl.len aB
 unfold W6 at aA
 dsimp only at aA
 refine O2 (args:=[.agg #[.int .i64 bA,.int .i64 bB,.slice aR bC.length aS]]) (fn:=Tryz.f295) rfl ?_
 refine trM aA (P06 _ _ _ (B0 aD aF aB)) ?_
 rintro x1 aA v3 k2 ⟨bW,bX,bY,rfl,bK,aX⟩
 obtain⟨rfl,bZ⟩:=Sl.len bK
 refine ifB aA (λbP aA=>?_) λbP aA=>?_
 ·refine trM aA (I9 _ _ _ (B0 aD aF (O0.mono aX aB))) ?_
  rintro x5 aA v7 k6 ⟨bQ,rfl,bL⟩
  have bR:Sub k2 k6:=bL.sub
  have bS:=bL.r
  obtain⟨bD,bE,aT,bM,aU,bF,rfl,rfl,aV,aW,aL⟩:=H0 bS
  obtain⟨rfl,bN⟩:=Sl.len aL
  try dsimp only at aA
  obtain rfl:=oJ aA
  exact⟨([.int .i64 bD,.int .i64 bE,.slice aT bF.length aU]),rfl,(B0 aV aW aL),(aX.trans bR)⟩
 ·refine trM aA (T01 _ _ _ (B0 aD aF (O0.mono aX aB)) _ _ _ _ bK) ?_
  rintro x8 aA cA k9 ⟨bG,rfl,aM,bT⟩
  obtain⟨bU,bV⟩:=x8
  dsimp only at aA aM
  obtain⟨aN,aO,aG,aY,aH,aP,rfl,rfl,aJ,aK,aC⟩:=H0 aM
  obtain⟨rfl,aZ⟩:=Sl.len aC
  try dsimp only at aA
  obtain rfl:=oJ aA
  exact⟨([.int .i64 aN,.int .i64 aO,.slice aG aP.length aH]),rfl,(B0 aJ aK aC),(aX.trans bT)⟩
theorem o0f(h:Hp)(aR:List Value)(p0:j0)(bN:Z0.R h aR p0)(r:Bool)(aD:v00 p0=some r):
  Tr Tryz.prog 211 #[.agg aR.toArray] h λv h'=>v = .bool r/\h'=h:=by
 obtain⟨aY,aZ,aS,bH,aT,bA,rfl,rfl,aF,aG,aC⟩:=H0 bN
 obtain⟨rfl,bI⟩:=Sl.len aC
 unfold v00 at aD
 dsimp only at aD
 refine Tr.forget (O2 (args:=[.agg #[.int .i64 aY,.int .i64 aZ,.slice aS bA.length aT]]) (fn:=Tryz.f211) rfl ?_)
 refine Or.inr (Or.inr (Or.inr (Or.inl (aI (aI (by kernel_rfl) (by kernel_rfl)) ?_))))
 obtain⟨x1,bO,aD⟩:=l0 aD
 refine Or.inl (eX (.val (.bool x1)) (aI ?_ ?_))
 ·intro k2 s3
  exact Tr.val (g8 _ _ _ (B0 aF aG (O0.mono s3 aC)) _ bO) (aI rfl (aI rfl rfl))
 obtain⟨x4,bP,aD⟩:=l0 aD
 obtain⟨q5,bQ,aD⟩:=l0 aD
 have bW:P0 x4:=I0 bQ
 refine Or.inl (eX (.val (.int .i64 x4)) (aI ?_ ?_))
 ·intro k6 s7 hq
  exact Tr.val (L08 _ _ _ (B0 aF aG (O0.mono s7 aC)) _ (I7 bP hq)) (aI rfl (aI rfl rfl))
 refine Or.inl (eX (.val (.bool (decide (x4<0)))) (aI ?_ ?_))
 ·intro k8 s9 hq
  exact aI rfl (aI rfl rfl)
 obtain⟨bR,bB,aD⟩:=l0 aD
 obtain⟨aP,aQ,aH⟩:=bR
 try dsimp only at aD
 refine Or.inr (eX (λv hh=>∃(aA:Option Addr) (aB:Nat),v = .agg #[.int .i64 aP,.int .i64 aQ,.slice aA aH.length aB]/\P0 aP/\P0 aQ/\O0.R hh [.slice aA aH.length aB] aH/\aH.length<=9223372036854775807) (aI (λv h1 h2 sb q=>by obtain⟨aA,aB,e,f0,f1,f2,f3⟩:=q;exact⟨aA,aB,e,f0,f1,O0.mono sb f2,f3⟩) (aI ?_ ?_)))
 ·intro bX bS hq
  refine Tr.mono (c03 _ _ _ (B0 aF aG (O0.mono bS aC)) _ (I7 bB hq)) ?_
  rintro _ kk ⟨bJ,rfl,bC,sb⟩
  obtain⟨bD,bE,aK,aX,aL,bF,rfl,ey,aM,aN,aJ⟩:=H0 bC
  cases ey
  obtain⟨rfl,aO⟩:=Sl.len aJ
  exact aI Y02 (aI sb ⟨aK,aL,rfl,aM,aN,aJ,aO⟩)
 obtain⟨bT,bG,aD⟩:=l0 aD
 refine Or.inl (eX (.val (.bool bT)) (aI ?_ ?_))
 ·intro bY bU hq
  rintro _ ⟨bK,bL,rfl,aU,aV,aW,bM⟩
  exact Tr.val (N04 _ _ _ (B0 aU aV aW) _ _ (B0 aF aG (O0.mono bU aC)) _ (I7 bG hq)) (aI rfl (aI rfl rfl))
 intro bZ bV
 obtain rfl:=oJ aD
 exact aI rfl bV
theorem O7(h:Hp)(aB:List Value)(p0:j0)(aO:Z0.R h aB p0)(r:Bool)(aC:N3 p0=some r):
  Tr Tryz.prog 103 #[.agg aB.toArray] h λv h'=>v = .bool r/\h'=h:=by
 obtain⟨aJ,aK,aD,aM,aF,aL,rfl,rfl,aG,aH,aA⟩:=H0 aO
 obtain⟨rfl,aN⟩:=Sl.len aA
 unfold N3 at aC
 dsimp only at aC
 refine Tr.forget (O2 (args:=[.agg #[.int .i64 aJ,.int .i64 aK,.slice aD aL.length aF]]) (fn:=Tryz.f103) rfl ?_)
 refine trV aC (o0f _ _ _ (B0 aG aH aA)) λx1 aC=>?_
 obtain rfl:=oJ aC
 exact aI rfl (Sub.refl _)
set_option maxHeartbeats 0
theorem y0c(h:Hp)(bH:List Value)(p0:j0)(dP:Z0.R h bH p0)(bI:List Value)(p1:j0)(dQ:Z0.R h bI p1)(p2:Int)(eU:P0 p2)(p3:Int)(eV:P0 p3)(r:F0)(aM:h01 p0 p1 p2 p3=some r):
  Tr Tryz.prog 305 #[.agg bH.toArray,.agg bI.toArray,.int .i64 p2,.int .i64 p3] h λv h'=>∃(a0:Option Addr) (n0 c0:Nat),v = .slice a0 n0 c0/\W0.R h' [.slice a0 n0 c0] r/\Sub h h':=by
 obtain⟨aD,aC,aT,dE,aU,aH,rfl,rfl,aV,bJ,aW⟩:=H0 dP
 obtain⟨rfl,dF⟩:=Sl.len aW
 obtain⟨aF,aA,aX,dG,aY,aJ,rfl,rfl,aZ,bK,bA⟩:=H0 dQ
 obtain⟨rfl,dH⟩:=Sl.len bA
 unfold h01 at aM
 dsimp only at aM
 refine O2 (args:=[.agg #[.int .i64 aD,.int .i64 aC,.slice aT aH.length aU],.agg #[.int .i64 aF,.int .i64 aA,.slice aX aJ.length aY],.int .i64 p2,.int .i64 p3]) (fn:=Tryz.f305) rfl ?_
 obtain⟨q1,dR,aM⟩:=l0 aM
 refine aI (I0 dR) ?_
 obtain⟨x2,dS,aM⟩:=l0 aM
 obtain⟨dT,dU,dV,dW⟩:=P1 (show F2 (Wp.int.R h) ([[.int .i64 (IntKind.i64.wrap ((IntKind.i64.wrap (p2*aA))+p3))]]:List (List Value)) [(IntKind.i64.wrap ((IntKind.i64.wrap (p2*aA))+p3))] from⟨⟨rfl,(J0 _)⟩,trivial⟩) dS
 refine aI dT ?_
 obtain⟨rfl,eW⟩:=dW
 refine eX _ (aI dV ?_)
 obtain⟨x3,dX,aM⟩:=l0 aM
 obtain⟨dY,dZ,eA,eC⟩:=P1 (F2.rep (p:=Wp.bool.R h) (a:=[.bool false]) (b:=false) rfl ((IntKind.i64.wrap (aC*aA)).toNat)) dX
 refine aI dY ?_
 obtain rfl:=eC
 refine eX _ (aI eA ?_)
 refine trM aM (R00 _ (if aF<aD then aF else aD) (j8 aZ aV)) ?_
 rintro x4 aM v6 k5 ⟨eY,eZ,fA,rfl,bS,bL⟩
 obtain⟨rfl,fB⟩:=Sl.len bS
 obtain⟨X7,bT,aM⟩:=l0 aM
 refine eX { vars:=[12],boxes:=[],owns:=[0,1],fuel:=true,kept:=[0] } (eX (λvs os h'=>∃ u8 bP u9 aP bF,vs.tail = [.int .i64 u8]/\os = [bP,aP]/\Sub k5 h'/\P0 u8/\F2 (Wp.bool.R h') bP u9/\F2 (Wp.int.R h') aP bF/\K7 x4 aA aD aC aH aF aJ (I1 vs) u8 u9 bF=some X7) (eX (λ_ _=>0) (aI (eX Q0 ⟨0,((List.replicate (IntKind.i64.wrap (aC*aA)).toNat ([.bool false]:List Value)).set x2.toNat [.bool true]),((List.replicate (IntKind.i64.wrap (aC*aA)).toNat (false:Bool)).set x2.toNat true),([[.int .i64 (IntKind.i64.wrap ((IntKind.i64.wrap (p2*aA))+p3))]]:List (List Value)),([(IntKind.i64.wrap ((IntKind.i64.wrap (p2*aA))+p3))]),rfl,rfl,(Sub.refl _),(by decide),(F2.up (r:=Wp.bool.toRp) bL (F2.set (p:=Wp.bool.R h) (a:=[.bool true]) (b:=true) rfl x2.toNat (F2.rep (p:=Wp.bool.R h) (a:=[.bool false]) (b:=false) rfl ((IntKind.i64.wrap (aC*aA)).toNat)))),(F2.up (r:=Wp.int.toRp) bL (show F2 (Wp.int.R h) ([[.int .i64 (IntKind.i64.wrap ((IntKind.i64.wrap (p2*aA))+p3))]]:List (List Value)) [(IntKind.i64.wrap ((IntKind.i64.wrap (p2*aA))+p3))] from⟨⟨rfl,(J0 _)⟩,trivial⟩)),bT⟩) ?_)))
 rintro _ bP aP bQ eD ⟨u8,eE,u9,dI,bF,⟨⟩,⟨⟩,bG,fC,eF,bB,aG⟩
 replace aG:K7 x4 aA aD aC aH aF aJ bQ u8 u9 bF=some X7:=aG
 obtain _|bQ:=bQ
 ·cases aG
 rw[K7.eq_2]at aG
 obtain⟨eG,bU,aG⟩:=l0 aG
 obtain rfl:aP.length=eG:=(F2.length bB).trans (oJ bU)
 obtain⟨fD,eH,aG⟩:=l0 aG
 refine ifB aG (λbV aG=>?_) λbV aG=>?_
 ·obtain⟨X16,bM,aG⟩:=l0 aG
  refine eX { vars:=[13],boxes:=[],owns:=[0,1],fuel:=true,kept:=[0] } (eX (λvs os h'=>∃ bC aN bD aO bE,vs.tail = [.int .i64 bC]/\os = [aN,aO]/\Sub eD h'/\P0 bC/\F2 (Wp.bool.R h') aN bD/\F2 (Wp.int.R h') aO bE/\T5 x4 u8 aA aD aC aH aF aJ (I1 vs) bC bD bE=some X16) (eX (λ_ _=>0) (aI (eX Q0 ⟨0,bP,u9,aP,bF,rfl,rfl,(Sub.refl _),(by decide),eF,bB,bM⟩) ?_)))
  rintro _ aN aO bN bR ⟨bC,dJ,bD,dK,bE,⟨⟩,⟨⟩,aK,eI,aQ,aL,aB⟩
  replace aB:T5 x4 u8 aA aD aC aH aF aJ bN bC bD bE=some X16:=aB
  obtain _|bN:=bN
  ·cases aB
  rw[T5.eq_2]at aB
  refine ifB aB (λbW aB=>?_) λbW aB=>?_
  ·refine Or.inl (aI (aI (by kernel_rfl) (by kernel_rfl)) ?_)
   obtain⟨eJ,bX,aB⟩:=l0 aB
   obtain⟨bY,dL,bZ,cA⟩:=P1 aL bX
   refine aI bY ?_
   obtain⟨rfl,eK⟩:=cA
   refine eX _ (aI bZ ?_)
   obtain⟨fE,cC,aB⟩:=l0 aB
   have cD:=I0 cC
   refine aI cD ?_
   refine ldI aB (W0.mono (bG.trans aK) bS) λeM cE aB=>?_
   obtain⟨aR,cG,aB⟩:=l0 aB
   refine eX (.int .i64 aR) (aI (U6 _ [.int .i64 aD,.int .i64 aC,.slice aT aH.length aU] (aD,aC,aH) (B0 aV bJ (O0.mono ((bL.trans bG).trans aK) aW)) (IntKind.i64.wrap (Int.tdiv eJ aA)) (J0 _) eM cE _  cG) ?_)
   obtain⟨fF,cH,aB⟩:=l0 aB
   have eN:P0 aR:=I0 cH
   refine Or.inl (aI (aI (by kernel_rfl) (by kernel_rfl)) ?_)
   obtain⟨eO,cI,aB⟩:=l0 aB
   obtain⟨cJ,dM,cK,cL⟩:=P1 aL cI
   refine aI cJ ?_
   obtain⟨rfl,cM⟩:=cL
   refine eX _ (aI cK ?_)
   obtain⟨fG,cN,aB⟩:=l0 aB
   have cO:=I0 cN
   refine aI cO ?_
   refine ldI aB (W0.mono (bG.trans aK) bS) λeP cP aB=>?_
   obtain⟨aS,cQ,aB⟩:=l0 aB
   refine eX (.int .i64 aS) (aI (U6 _ [.int .i64 aF,.int .i64 aA,.slice aX aJ.length aY] (aF,aA,aJ) (B0 aZ bK (O0.mono ((bL.trans bG).trans aK) bA)) (Int.tmod eO aA) (u0k cM) eP cP _  cQ) ?_)
   obtain⟨fH,cR,aB⟩:=l0 aB
   have eQ:P0 aS:=I0 cR
   obtain⟨fJ,cS,aB⟩:=l0 aB
   obtain⟨dN,bO,cT⟩:=f01 aQ cS (v0k bR)
   refine aI (λq=>(bO q).1) ?_
   obtain rfl:=cT
   refine eX _ (aI (λq=>(bO q).2) ?_)
   refine ifB aB (λcU aB=>?_) λcU aB=>?_
   ·obtain⟨fK,cV,aB⟩:=l0 aB
    obtain⟨cW,dO,cX,cY⟩:=P1 aQ cV
    refine aI cW ?_
    obtain rfl:=cY
    refine eX _ (aI cX ?_)
    obtain⟨fL,cZ,aB⟩:=l0 aB
    refine aI (J1 cZ (by first|rw[F2.length aL,F2.length (show F2 (Wp.int.R bR) ([[.int .i64 (IntKind.i64.wrap ((IntKind.i64.wrap (aR*aA))+aS))]]:List (List Value)) [(IntKind.i64.wrap ((IntKind.i64.wrap (aR*aA))+aS))] from⟨⟨rfl,(J0 _)⟩,trivial⟩)]|exact congrArg (·+1) (F2.length aL))) ?_
    exact D2 bN ⟨(IntKind.i64.wrap (bC+1)),(aN.set (IntKind.i64.wrap ((IntKind.i64.wrap (aR*aA))+aS)).toNat [.bool true]),(bD.set (IntKind.i64.wrap ((IntKind.i64.wrap (aR*aA))+aS)).toNat true),(aO++([[.int .i64 (IntKind.i64.wrap ((IntKind.i64.wrap (aR*aA))+aS))]]:List (List Value))),(bE ++ [(IntKind.i64.wrap ((IntKind.i64.wrap (aR*aA))+aS))]),rfl,rfl,aK,(J0 _),(F2.set (p:=Wp.bool.R bR) (a:=[.bool true]) (b:=true) rfl (IntKind.i64.wrap ((IntKind.i64.wrap (aR*aA))+aS)).toNat aQ),(F2.append aL (show F2 (Wp.int.R bR) ([[.int .i64 (IntKind.i64.wrap ((IntKind.i64.wrap (aR*aA))+aS))]]:List (List Value)) [(IntKind.i64.wrap ((IntKind.i64.wrap (aR*aA))+aS))] from⟨⟨rfl,(J0 _)⟩,trivial⟩)),aB⟩
   ·exact D2 bN ⟨(IntKind.i64.wrap (bC+1)),aN,bD,aO,bE,rfl,rfl,aK,(J0 _),aQ,aL,aB⟩
  ·obtain rfl:=oJ aB
   try dsimp only[S0,T0]at aG
   exact D2 bQ ⟨(IntKind.i64.wrap (u8+1)),aN,bD,aO,bE,rfl,rfl,(bG.trans aK),(J0 _),aQ,aL,aG⟩
 ·obtain rfl:=oJ aG
  try dsimp only[S0,T0]at aM
  intro fM fN eR
  obtain⟨dA,dB,rfl,dC,dD,eT⟩:=U0.out (r:=Wp.int.toRp) eR bB
  obtain rfl:=oJ aM
  exact⟨dA,bF.length,dB,rfl,dC,((bL.trans bG).trans dD)⟩
theorem z0c(h:Hp)(aT:List Value)(p0:j0)(bW:Z0.R h aT p0)(aU:List Value)(p1:j0)(bX:Z0.R h aU p1)(bA:Option Addr)(bO bB:Nat)(p2:F0)(bC:W0.R h [.slice bA bO bB] p2)(r:Int)(aR:i01 p0 p1 p2=some r):
  Tr Tryz.prog 306 #[.agg aT.toArray,.agg aU.toArray,.slice bA bO bB] h λv h'=>v = .int .i64 r/\h'=h:=by
 obtain⟨aC,aD,aK,bP,aL,aF,rfl,rfl,aV,aW,aM⟩:=H0 bW
 obtain⟨rfl,bQ⟩:=Sl.len aM
 obtain⟨aG,aB,aN,bR,aO,aH,rfl,rfl,aX,aY,aP⟩:=H0 bX
 obtain⟨rfl,bS⟩:=Sl.len aP
 obtain⟨rfl,cI⟩:=Sl.len bC
 unfold i01 at aR
 dsimp only at aR
 refine Tr.forget (O2 (args:=[.agg #[.int .i64 aC,.int .i64 aD,.slice aK aF.length aL],.agg #[.int .i64 aG,.int .i64 aB,.slice aN aH.length aO],.slice bA p2.length bB]) (fn:=Tryz.f306) rfl ?_)
 obtain⟨X1,bD,aR⟩:=l0 aR
 refine eX { vars:=[7,8],boxes:=[],owns:=[],fuel:=true } (eX (λvs os h'=>∃ u2 u3,vs.tail = [.int .i64 u2,.int .i64 u3]/\os = []/\Sub h h'/\P0 u2/\P0 u3/\R6 p2 aG aC aB aD aF aH (I1 vs) u2 u3=some X1) (eX (λ_ _=>0) (aI (eX Q0 ⟨0,0,rfl,rfl,(Sub.refl _),(by decide),(by decide),bD⟩) ?_)))
 rintro _ _ m5 k4 ⟨u2,u3,⟨⟩,⟨⟩,aS,bY,cJ,aJ⟩
 replace aJ:R6 p2 aG aC aB aD aF aH m5 u2 u3=some X1:=aJ
 obtain _|m5:=m5
 ·cases aJ
 rw[R6.eq_2]at aJ
 refine ifB aJ (λbZ aJ=>?_) λbZ aJ=>?_
 ·obtain⟨X7,bE,aJ⟩:=l0 aJ
  refine eX { vars:=[7,9],boxes:=[],owns:=[],fuel:=true } (eX (λvs os h'=>∃ u8 u9,vs.tail = [.int .i64 u8,.int .i64 u9]/\os = []/\Sub k4 h'/\P0 u8/\P0 u9/\U5 aG aC p2 u3 aB aD aF aH (I1 vs) u8 u9=some X7) (eX (λ_ _=>0) (aI (eX Q0 ⟨u2,1,rfl,rfl,(Sub.refl _),bY,(by decide),bE⟩) ?_)))
  rintro _ _ aZ cK ⟨u8,u9,⟨⟩,⟨⟩,aQ,bT,bU,aA⟩
  replace aA:U5 aG aC p2 u3 aB aD aF aH aZ u8 u9=some X7:=aA
  obtain _|aZ:=aZ
  ·cases aA
  rw[U5.eq_2]at aA
  refine ifB aA (λbF aA=>?_) λbF aA=>?_
  ·refine Or.inl (aI (aI (by kernel_rfl) (by kernel_rfl)) ?_)
   refine ldI aA (W0.mono (aS.trans aQ) bC) λcA cC aA=>?_
   obtain⟨cL,bG,aA⟩:=l0 aA
   have bH:=I0 bG
   refine aI bH ?_
   obtain⟨bV,bI,aA⟩:=l0 aA
   refine eX (.int .i64 bV) (aI (U6 _ [.int .i64 aC,.int .i64 aD,.slice aK aF.length aL] (aC,aD,aF) (B0 aV aW (O0.mono (aS.trans aQ) aM)) (IntKind.i64.wrap (Int.tdiv cA aB)) (J0 _) u9 bU _  bI) ?_)
   obtain⟨cM,bJ,aA⟩:=l0 aA
   have cD:P0 bV:=I0 bJ
   refine ldG aA (W0.mono (aS.trans aQ) bC) λcE bK aA=>?_
   obtain⟨cN,bL,aA⟩:=l0 aA
   refine aI (λq=>I0 (I7 bL q)) ?_
   refine trG aA (λq=>U6 _ [.int .i64 aG,.int .i64 aB,.slice aN aH.length aO] (aG,aB,aH) (B0 aX aY (O0.mono (aS.trans aQ) aP)) (Int.tmod cE aB) (u0k bK) u9 bU) λcG aA=>?_
   obtain⟨cO,bM,aA⟩:=l0 aA
   have cH:P0 cG:=I0 bM
   refine ifB aA (λbN aA=>?_) λbN aA=>?_
   ·exact D2 aZ ⟨(IntKind.i64.wrap (u8+1)),(IntKind.i64.wrap (u9+1)),rfl,rfl,aQ,(J0 _),(J0 _),aA⟩
   ·exact D2 aZ ⟨u8,(IntKind.i64.wrap (u9+1)),rfl,rfl,aQ,bT,(J0 _),aA⟩
  ·obtain rfl:=oJ aA
   try dsimp only[S0,T0]at aJ
   exact D2 m5 ⟨u8,(IntKind.i64.wrap (u3+1)),rfl,rfl,(aS.trans aQ),bT,(J0 _),aJ⟩
 ·obtain rfl:=oJ aJ
  try dsimp only[S0,T0]at aR
  obtain rfl:=oJ aR
  exact aI rfl aS
theorem k05(h:Hp)(aF:Option Addr)(aO aG:Nat)(p0:F0)(aP:W0.R h [.slice aF aO aG] p0)(r:F0)(aB:d9 p0=some r):
  Tr Tryz.prog 182 #[.slice aF aO aG] h λv h'=>∃(a0:Option Addr) (n0 c0:Nat),v = .slice a0 n0 c0/\W0.R h' [.slice a0 n0 c0] r/\Sub h h':=by
 obtain⟨rfl,aV⟩:=Sl.len aP
 unfold d9 at aB
 refine O2 (args:=[.slice aF p0.length aG]) (fn:=Tryz.f182) rfl ?_
 obtain⟨X1,aH,aB⟩:=l0 aB
 refine eX { vars:=[4],boxes:=[],owns:=[0],fuel:=true } (eX (λvs os h'=>∃ u2 aC u3,vs.tail = [.int .i64 u2]/\os = [aC]/\Sub h h'/\P0 u2/\F2 (Wp.int.R h') aC u3/\w4 p0 (I1 vs) u2 u3=some X1) (eX (λ_ _=>0) (aI (eX Q0 ⟨(IntKind.i64.wrap (((p0.length:Nat):Int)-1)),[],([]:F0),rfl,rfl,(Sub.refl _),(J0 _),(show F2 (Wp.int.R h) ([]:List (List Value)) ([]:F0) from trivial),aH⟩) ?_)))
 rintro _ aC m5 k4 ⟨u2,aQ,u3,⟨⟩,⟨⟩,aJ,aW,aD,aA⟩
 replace aA:w4 p0 m5 u2 u3=some X1:=aA
 obtain _|m5:=m5
 ·cases aA
 rw[w4.eq_2]at aA
 refine ifB aA (λaR aA=>?_) λaR aA=>?_
 ·refine ldI aA (W0.mono aJ aP) λx7 aX aA=>?_
  obtain⟨q8,aS,aA⟩:=l0 aA
  refine aI (J1 aS (by first|rw[F2.length aD,F2.length (show F2 (Wp.int.R k4) ([[.int .i64 (IntKind.i64.wrap (0-x7))]]:List (List Value)) [(IntKind.i64.wrap (0-x7))] from⟨⟨rfl,(J0 _)⟩,trivial⟩)]|exact congrArg (·+1) (F2.length aD))) ?_
  exact D2 m5 ⟨(IntKind.i64.wrap (u2-1)),(aC++([[.int .i64 (IntKind.i64.wrap (0-x7))]]:List (List Value))),(u3 ++ [(IntKind.i64.wrap (0-x7))]),rfl,rfl,aJ,(J0 _),(F2.append aD (show F2 (Wp.int.R k4) ([[.int .i64 (IntKind.i64.wrap (0-x7))]]:List (List Value)) [(IntKind.i64.wrap (0-x7))] from⟨⟨rfl,(J0 _)⟩,trivial⟩)),aA⟩
 ·obtain rfl:=oJ aA
  try dsimp only[S0,T0]at aB
  intro v9 aY aT
  obtain⟨aK,aL,rfl,aM,aN,aU⟩:=U0.out (r:=Wp.int.toRp) aT aD
  obtain rfl:=oJ aB
  exact⟨aK,u3.length,aL,rfl,aM,(aJ.trans aN)⟩
theorem F07(h:Hp)(aM:Option Addr)(bB aN:Nat)(p0:F0)(aH:W0.R h [.slice aM bB aN] p0)(r:F0)(aD:U8 p0=some r):
  Tr Tryz.prog 212 #[.slice aM bB aN] h λv h'=>∃(a0:Option Addr) (n0 c0:Nat),v = .slice a0 n0 c0/\W0.R h' [.slice a0 n0 c0] r/\Sub h h':=by
 obtain⟨rfl,bN⟩:=Sl.len aH
 unfold U8 at aD
 refine O2 (args:=[.slice aM p0.length aN]) (fn:=Tryz.f212) rfl ?_
 obtain⟨X1,aO,aD⟩:=l0 aD
 refine eX { vars:=[4],boxes:=[],owns:=[0],fuel:=true } (eX (λvs os h'=>∃ u2 aC u3,vs.tail = [.int .i64 u2]/\os = [aC]/\Sub h h'/\P0 u2/\F2 (Wp.int.R h') aC u3/\V3 p0 (I1 vs) u2 u3=some X1) (eX (λ_ _=>0) (aI (eX Q0 ⟨0,[],([]:F0),rfl,rfl,(Sub.refl _),(by decide),(show F2 (Wp.int.R h) ([]:List (List Value)) ([]:F0) from trivial),aO⟩) ?_)))
 rintro _ aC m5 k4 ⟨u2,bE,u3,⟨⟩,⟨⟩,aF,bO,aB,aA⟩
 replace aA:V3 p0 m5 u2 u3=some X1:=aA
 obtain _|m5:=m5
 ·cases aA
 rw[V3.eq_2]at aA
 refine ifB aA (λbF aA=>?_) λbF aA=>?_
 ·obtain⟨m7,bG,aA⟩:=l0 aA
  obtain rfl:aC.length=m7:=(F2.length aB).trans (oJ bG)
  obtain⟨q8,bP,aA⟩:=l0 aA
  refine Or.inl (aI (aI (by kernel_rfl) (by kernel_rfl)) ?_)
  refine ldG aA (W0.mono aF aH) λx9 bQ aA=>?_
  obtain⟨bR,aP,aA⟩:=l0 aA
  obtain⟨bC,aJ,aQ⟩:=f01 aB aP (K0d k4)
  refine aI (λq=>(aJ q).1) ?_
  obtain⟨rfl,bH⟩:=aQ
  refine eX _ (aI (λq=>(aJ q).2) ?_)
  refine ldG aA (W0.mono aF aH) λbS bI aA=>?_
  obtain⟨bT,aR,aA⟩:=l0 aA
  obtain⟨bD,aK,aS⟩:=f01 aB aR (K0d k4)
  refine aI (λq=>(aK q).1) ?_
  obtain⟨rfl,bJ⟩:=aS
  refine eX _ (aI (λq=>(aK q).2) ?_)
  refine ldG aA (W0.mono aF aH) λbU bK aA=>?_
  refine ifB aA (λaT aA=>?_) λaT aA=>?_
  ·obtain⟨bV,aU,aA⟩:=l0 aA
   refine aI (by have:=I0 aU;have:=F2.length aB;omega) ?_
   exact D2 m5 ⟨(IntKind.i64.wrap (u2+1)),(aC.take (IntKind.i64.wrap (((aC.length:Nat):Int)-1)).toNat),(u3.take (IntKind.i64.wrap (((aC.length:Nat):Int)-1)).toNat),rfl,rfl,aF,(J0 _),(F2.take (IntKind.i64.wrap (((aC.length:Nat):Int)-1)).toNat aB),aA⟩
  ·refine ldI aA (W0.mono aF aH) λaG aL aA=>?_
   obtain⟨bW,aV,aA⟩:=l0 aA
   refine aI (J1 aV (by first|rw[F2.length aB,F2.length (show F2 (Wp.int.R k4) ([[.int .i64 aG]]:List (List Value)) [aG] from⟨⟨rfl,aL⟩,trivial⟩)]|exact congrArg (·+1) (F2.length aB))) ?_
   exact D2 m5 ⟨(IntKind.i64.wrap (u2+1)),(aC++([[.int .i64 aG]]:List (List Value))),(u3 ++ [aG]),rfl,rfl,aF,(J0 _),(F2.append aB (show F2 (Wp.int.R k4) ([[.int .i64 aG]]:List (List Value)) [aG] from⟨⟨rfl,aL⟩,trivial⟩)),aA⟩
 ·obtain rfl:=oJ aA
  try dsimp only[S0,T0]at aD
  obtain⟨bX,aW,aD⟩:=l0 aD
  refine aI (J1 aW (by first|rw[F2.length (show F2 (Wp.int.R k4) ([]:List (List Value)) ([]:F0) from trivial),F2.length aB]|exact congrArg (·+0) (F2.length (show F2 (Wp.int.R k4) ([]:List (List Value)) ([]:F0) from trivial)))) ?_
  intro bY bZ bL
  obtain⟨aX,aY,rfl,aZ,bA,bM⟩:=U0.out (r:=Wp.int.toRp) bL (F2.append (show F2 (Wp.int.R k4) ([]:List (List Value)) ([]:F0) from trivial) aB)
  obtain rfl:=oJ aD
  exact⟨aX,((([]:F0)++u3)).length,aY,rfl,aZ,(aF.trans bA)⟩
theorem H03(h:Hp)(aC:Option Addr)(aK aD:Nat)(p0:F0)(aL:W0.R h [.slice aC aK aD] p0)(aF:Option Addr)(aM aG:Nat)(p1:F0)(aN:W0.R h [.slice aF aM aG] p1)(r:F0)(aA:V8 p0 p1=some r):
  Tr Tryz.prog 254 #[.slice aC aK aD,.slice aF aM aG] h λv h'=>∃(a0:Option Addr) (n0 c0:Nat),v = .slice a0 n0 c0/\W0.R h' [.slice a0 n0 c0] r/\Sub h h':=by
 obtain⟨rfl,aZ⟩:=Sl.len aL
 obtain⟨rfl,bA⟩:=Sl.len aN
 unfold V8 at aA
 refine O2 (args:=[.slice aC p0.length aD,.slice aF p1.length aG]) (fn:=Tryz.f254) rfl ?_
 obtain⟨aH,aQ,aB⟩:=Sl.rows (r:=Wp.int.toRp) aL
 refine eX aH (aI aQ ?_)
 obtain⟨q2,aR,aA⟩:=l0 aA
 refine aI (J1 aR (by first|rw[F2.length (show F2 (Wp.int.R h) ([]:List (List Value)) ([]:F0) from trivial),F2.length aB]|exact congrArg (·+1) (F2.length (show F2 (Wp.int.R h) ([]:List (List Value)) ([]:F0) from trivial)))) ?_
 obtain⟨aJ,aS,aO⟩:=Sl.rows (r:=Wp.int.toRp) aN
 refine eX aJ (aI aS ?_)
 obtain⟨q4,aT,aA⟩:=l0 aA
 refine aI (J1 aT (by first|rw[F2.length (F2.append (show F2 (Wp.int.R h) ([]:List (List Value)) ([]:F0) from trivial) aB),F2.length aO]|exact congrArg (·+1) (F2.length (F2.append (show F2 (Wp.int.R h) ([]:List (List Value)) ([]:F0) from trivial) aB)))) ?_
 refine Or.inl ?_
 intro v5 k6 f7
 obtain⟨bB,bC,rfl,aU,aV,bD⟩:=U0.out (r:=Wp.int.toRp) f7 (F2.append (F2.append (show F2 (Wp.int.R h) ([]:List (List Value)) ([]:F0) from trivial) aB) aO)
 refine trM aA (F07 _ _ _ _ _ aU) ?_
 rintro x9 aA bE bF ⟨aW,bG,aX,rfl,aP,aY⟩
 obtain⟨rfl,bH⟩:=Sl.len aP
 obtain rfl:=oJ aA
 exact⟨aW,x9.length,aX,rfl,aP,(aV.trans aY)⟩
theorem y0a(h:Hp)(aF:Option Addr)(aM aG:Nat)(p0:F0)(aN:W0.R h [.slice aF aM aG] p0)(r:F0)(aB:m00 p0=some r):
  Tr Tryz.prog 189 #[.slice aF aM aG] h λv h'=>∃(a0:Option Addr) (n0 c0:Nat),v = .slice a0 n0 c0/\New W0 h h' [.slice a0 n0 c0] r:=by
 obtain⟨rfl,aW⟩:=Sl.len aN
 unfold m00 at aB
 refine O2 (args:=[.slice aF p0.length aG]) (fn:=Tryz.f189) rfl ?_
 obtain⟨q1,aP,aB⟩:=l0 aB
 refine aI (I0 aP) ?_
 obtain⟨X2,aH,aB⟩:=l0 aB
 refine eX { vars:=[4],boxes:=[],owns:=[0],fuel:=true } (eX (λvs os h'=>∃ u3 aD u4,vs.tail = [.int .i64 u3]/\os = [aD]/\Sub h h'/\P0 u3/\F2 (Wp.int.R h') aD u4/\N6 p0 (I1 vs) u3 u4=some X2) (eX (λ_ _=>0) (aI (eX Q0 ⟨(IntKind.i64.wrap (((p0.length:Nat):Int)-1)),(List.replicate (0:Int).toNat ([.int .i64 0]:List Value)),(List.replicate (0:Int).toNat (0:Int)),rfl,rfl,(Sub.refl _),(J0 _),(F2.rep (p:=Wp.int.R h) (a:=[.int .i64 0]) (b:=0) ⟨rfl,(by decide)⟩ ((0:Int).toNat)),aH⟩) ?_)))
 rintro _ aD m6 k5 ⟨u3,aQ,u4,⟨⟩,⟨⟩,aJ,aX,aC,aA⟩
 replace aA:N6 p0 m6 u3 u4=some X2:=aA
 obtain _|m6:=m6
 ·cases aA
 rw[N6.eq_2]at aA
 refine ifB aA (λaR aA=>?_) λaR aA=>?_
 ·refine ldI aA (W0.mono aJ aN) λx8 aY aA=>?_
  obtain⟨q9,aS,aA⟩:=l0 aA
  refine aI (J1 aS (by first|rw[F2.length aC,F2.length (show F2 (Wp.int.R k5) ([[.int .i64 (IntKind.i64.wrap (0-x8))]]:List (List Value)) [(IntKind.i64.wrap (0-x8))] from⟨⟨rfl,(J0 _)⟩,trivial⟩)]|exact congrArg (·+1) (F2.length aC))) ?_
  exact D2 m6 ⟨(IntKind.i64.wrap (u3-1)),(aD++([[.int .i64 (IntKind.i64.wrap (0-x8))]]:List (List Value))),(u4 ++ [(IntKind.i64.wrap (0-x8))]),rfl,rfl,aJ,(J0 _),(F2.append aC (show F2 (Wp.int.R k5) ([[.int .i64 (IntKind.i64.wrap (0-x8))]]:List (List Value)) [(IntKind.i64.wrap (0-x8))] from⟨⟨rfl,(J0 _)⟩,trivial⟩)),aA⟩
 ·obtain rfl:=oJ aA
  try dsimp only[S0,T0]at aB
  intro aZ bA aO
  obtain⟨aK,aL,rfl,aT,aU,aV⟩:=U0.out (r:=Wp.int.toRp) aO aC
  obtain rfl:=oJ aB
  exact⟨aK,u4.length,aL,rfl,(New.from (U0.newPlain (r:=Wp.int) aO aC (B04 _)) aJ)⟩
theorem U0e(h:Hp)(aO:Option Addr)(bI aP:Nat)(p0:E2)(bJ:l9.R h [.slice aO bI aP] p0)(r:F0)(aJ:J00 p0=some r):
  Tr Tryz.prog 204 #[.slice aO bI aP] h λv h'=>∃(a0:Option Addr) (n0 c0:Nat),v = .slice a0 n0 c0/\New W0 h h' [.slice a0 n0 c0] r:=by
 obtain⟨rfl,bZ⟩:=Sl.len bJ
 unfold J00 at aJ
 refine O2 (args:=[.slice aO p0.length aP]) (fn:=Tryz.f204) rfl ?_
 obtain⟨X1,aQ,aJ⟩:=l0 aJ
 refine eX { vars:=[11],boxes:=[],owns:=[0],fuel:=true } (eX (λvs os h'=>∃ u2 aM u3,vs.tail = [.int .i64 u2]/\os = [aM]/\Sub h h'/\P0 u2/\F2 (Wp.int.R h') aM u3/\B7 p0 (I1 vs) u2 u3=some X1) (eX (λ_ _=>0) (aI (eX Q0 ⟨0,[],([]:F0),rfl,rfl,(Sub.refl _),(by decide),(show F2 (Wp.int.R h) ([]:List (List Value)) ([]:F0) from trivial),aQ⟩) ?_)))
 rintro _ aM m5 k4 ⟨u2,bN,u3,⟨⟩,⟨⟩,aR,cA,aS,aD⟩
 replace aD:B7 p0 m5 u2 u3=some X1:=aD
 obtain _|m5:=m5
 ·cases aD
 rw[B7.eq_2]at aD
 refine ifB aD (λbO aD=>?_) λbO aD=>?_
 ·refine ld aD (l9.mono aR bJ) λx7 bP aT aD=>?_
  obtain⟨cC,cD,cE,rfl⟩:=Wp.slice_cell aT
  obtain⟨rfl,cG⟩:=Sl.len aT
  obtain⟨X8,aU,aD⟩:=l0 aD
  refine eX { vars:=[17],boxes:=[],owns:=[0],fuel:=true } (eX (λvs os h'=>∃ u9 aB aF,vs.tail = [.int .i64 u9]/\os = [aB]/\Sub k4 h'/\P0 u9/\F2 (Wp.int.R h') aB aF/\F6 x7 (I1 vs) u9 aF=some X8) (eX (λ_ _=>0) (aI (eX Q0 ⟨0,aM,u3,rfl,rfl,(Sub.refl _),(by decide),aS,aU⟩) ?_)))
  rintro _ aB aK aV ⟨u9,bK,aF,⟨⟩,⟨⟩,aN,cH,aC,aA⟩
  replace aA:F6 x7 aK u9 aF=some X8:=aA
  obtain _|aK:=aK
  ·cases aA
  rw[F6.eq_2]at aA
  refine ifB aA (λaW aA=>?_) λaW aA=>?_
  ·refine ldI aA (W0.mono aN aT) λaH aG aA=>?_
   obtain⟨bQ,aX,aA⟩:=l0 aA
   obtain rfl:aB.length=bQ:=(F2.length aC).trans (oJ aX)
   obtain⟨cI,bR,aA⟩:=l0 aA
   obtain⟨bS,aY,aA⟩:=l0 aA
   obtain rfl:aB.length=bS:=(F2.length aC).trans (oJ aY)
   obtain⟨cJ,bT,aA⟩:=l0 aA
   obtain⟨cK,aZ,aA⟩:=l0 aA
   obtain⟨bL,aL,bA⟩:=f01 aC aZ (K0d aV)
   refine aI (λq=>(aL q).1) ?_
   obtain⟨rfl,bB⟩:=bA
   refine eX _ (aI (λq=>(aL q).2) ?_)
   refine trG aA (λq=>u0a _ _ bB _ aG) λcL aA=>?_
   refine ifB aA (λbC aA=>?_) λbC aA=>?_
   ·obtain⟨bU,bD,aA⟩:=l0 aA
    obtain rfl:aB.length=bU:=(F2.length aC).trans (oJ bD)
    obtain⟨cM,bV,aA⟩:=l0 aA
    obtain⟨cN,bE,aA⟩:=l0 aA
    refine aI (by have:=I0 bE;have:=F2.length aC;omega) ?_
    exact D2 aK ⟨(IntKind.i64.wrap (u9+1)),(aB.take (IntKind.i64.wrap (((aB.length:Nat):Int)-1)).toNat),(aF.take (IntKind.i64.wrap (((aB.length:Nat):Int)-1)).toNat),rfl,rfl,aN,(J0 _),(F2.take (IntKind.i64.wrap (((aB.length:Nat):Int)-1)).toNat aC),aA⟩
   ·obtain⟨cO,bF,aA⟩:=l0 aA
    refine aI (J1 bF (by first|rw[F2.length aC,F2.length (show F2 (Wp.int.R aV) ([[.int .i64 aH]]:List (List Value)) [aH] from⟨⟨rfl,aG⟩,trivial⟩)]|exact congrArg (·+1) (F2.length aC))) ?_
    exact D2 aK ⟨(IntKind.i64.wrap (u9+1)),(aB++([[.int .i64 aH]]:List (List Value))),(aF ++ [aH]),rfl,rfl,aN,(J0 _),(F2.append aC (show F2 (Wp.int.R aV) ([[.int .i64 aH]]:List (List Value)) [aH] from⟨⟨rfl,aG⟩,trivial⟩)),aA⟩
  ·obtain rfl:=oJ aA
   try dsimp only[S0,T0]at aD
   exact D2 m5 ⟨(IntKind.i64.wrap (u2+1)),aB,aF,rfl,rfl,(aR.trans aN),(J0 _),aC,aD⟩
 ·obtain rfl:=oJ aD
  try dsimp only[S0,T0]at aJ
  intro cP cQ bM
  obtain⟨bG,bH,rfl,bW,bX,bY⟩:=U0.out (r:=Wp.int.toRp) bM aS
  obtain rfl:=oJ aJ
  exact⟨bG,u3.length,bH,rfl,(New.from (U0.newPlain (r:=Wp.int) bM aS (B04 _)) aR)⟩
theorem V0e(h:Hp)(aU:List Value)(p0:j0)(cC:Z0.R h aU p0)(r:K8)(aT:N01 p0=some r):
  Tr Tryz.prog 376 #[.agg aU.toArray] h λv h'=>∃(a0:Option Addr) (n0 c0:Nat),v = .slice a0 n0 c0/\m0h.R h' [.slice a0 n0 c0] r/\Sub h h':=by
 obtain⟨aZ,bA,aV,bS,aW,aM,rfl,rfl,bT,bU,aN⟩:=H0 cC
 obtain⟨rfl,bV⟩:=Sl.len aN
 unfold N01 at aT
 dsimp only at aT
 refine O2 (args:=[.agg #[.int .i64 aZ,.int .i64 bA,.slice aV aM.length aW]]) (fn:=Tryz.f376) rfl ?_
 obtain⟨X1,bB,aT⟩:=l0 aT
 refine eX { vars:=[4],boxes:=[],owns:=[0],fuel:=true } (eX (λvs os h'=>∃ u2 aX u3,vs.tail = [.int .i64 u2]/\os = [aX]/\Sub h h'/\P0 u2/\F2 (d4.R h') aX u3/\w7 aM (I1 vs) u2 u3=some X1) (eX (λ_ _=>0) (aI (eX Q0 ⟨0,[],([]:K8),rfl,rfl,(Sub.refl _),(by decide),(show F2 (d4.R h) ([]:List (List Value)) ([]:K8) from trivial),bB⟩) ?_)))
 rintro _ aX m5 k4 ⟨u2,cD,u3,⟨⟩,⟨⟩,aY,cJ,bW,aL⟩
 replace aL:w7 aM m5 u2 u3=some X1:=aL
 obtain _|m5:=m5
 ·cases aL
 rw[w7.eq_2]at aL
 refine ifB aL (λcE aL=>?_) λcE aL=>?_
 ·obtain⟨X7,bC,aL⟩:=l0 aL
  refine eX { vars:=[5],boxes:=[],owns:=[0],fuel:=true } (eX (λvs os h'=>∃ u8 aQ u9,vs.tail = [.int .i64 u8]/\os = [aQ]/\Sub k4 h'/\P0 u8/\F2 (d4.R h') aQ u9/\B4 aM u2 (I1 vs) u8 u9=some X7) (eX (λ_ _=>0) (aI (eX Q0 ⟨(IntKind.i64.wrap (u2+1)),aX,u3,rfl,rfl,(Sub.refl _),(J0 _),bW,bC⟩) ?_)))
  rintro _ aQ aR aP ⟨u8,cG,u9,⟨⟩,⟨⟩,aS,cK,aO,aK⟩
  replace aK:B4 aM u2 aR u8 u9=some X7:=aK
  obtain _|aR:=aR
  ·cases aK
  rw[B4.eq_2]at aK
  refine ifB aK (λbD aK=>?_) λbD aK=>?_
  ·refine ld aK (O0.mono (aY.trans aS) aN) λcL bX bE aK=>?_
   obtain⟨aC,bY,aA,rfl,rfl,aH,bF,aF⟩:=N1 bE
   try dsimp only at aK
   refine ld aK (O0.mono (aY.trans aS) aN) λcM bZ bG aK=>?_
   obtain⟨aD,cA,aB,rfl,rfl,aJ,bH,aG⟩:=N1 bG
   try dsimp only at aK
   refine ifB aK (λbI aK=>?_) λbI aK=>?_
   ·obtain⟨cN,bJ,aK⟩:=l0 aK
    refine aI (J1 bJ (by first|rw[F2.length aO,F2.length (show F2 (d4.R aP) ([[.int .i64 (if aB<aA then aB else aA),.int .i64 (if aB>aA then aB else aA)]]:List (List Value)) [((if aB<aA then aB else aA),(if aB>aA then aB else aA))] from⟨(A2 (j8 aG aF) (j8 aG aF)),trivial⟩)]|exact congrArg (·+1) (F2.length aO))) ?_
    refine ifB aK (λbK aK=>?_) λbK aK=>?_
    ·obtain⟨cO,bL,aK⟩:=l0 aK
     refine aI (J1 bL (by first|rw[F2.length (F2.append aO (show F2 (d4.R aP) ([[.int .i64 (if aB<aA then aB else aA),.int .i64 (if aB>aA then aB else aA)]]:List (List Value)) [((if aB<aA then aB else aA),(if aB>aA then aB else aA))] from⟨(A2 (j8 aG aF) (j8 aG aF)),trivial⟩)),F2.length (show F2 (d4.R aP) ([[.int .i64 (if aD<aC then aD else aC),.int .i64 (if aD>aC then aD else aC)]]:List (List Value)) [((if aD<aC then aD else aC),(if aD>aC then aD else aC))] from⟨(A2 (j8 aJ aH) (j8 aJ aH)),trivial⟩)]|exact congrArg (·+1) (F2.length (F2.append aO (show F2 (d4.R aP) ([[.int .i64 (if aB<aA then aB else aA),.int .i64 (if aB>aA then aB else aA)]]:List (List Value)) [((if aB<aA then aB else aA),(if aB>aA then aB else aA))] from⟨(A2 (j8 aG aF) (j8 aG aF)),trivial⟩))))) ?_
     exact D2 aR ⟨(IntKind.i64.wrap (u8+1)),((aQ++([[.int .i64 (if aB<aA then aB else aA),.int .i64 (if aB>aA then aB else aA)]]:List (List Value)))++([[.int .i64 (if aD<aC then aD else aC),.int .i64 (if aD>aC then aD else aC)]]:List (List Value))),((u9 ++ [((if aB<aA then aB else aA),(if aB>aA then aB else aA))]) ++ [((if aD<aC then aD else aC),(if aD>aC then aD else aC))]),rfl,rfl,aS,(J0 _),(F2.append (F2.append aO (show F2 (d4.R aP) ([[.int .i64 (if aB<aA then aB else aA),.int .i64 (if aB>aA then aB else aA)]]:List (List Value)) [((if aB<aA then aB else aA),(if aB>aA then aB else aA))] from⟨(A2 (j8 aG aF) (j8 aG aF)),trivial⟩)) (show F2 (d4.R aP) ([[.int .i64 (if aD<aC then aD else aC),.int .i64 (if aD>aC then aD else aC)]]:List (List Value)) [((if aD<aC then aD else aC),(if aD>aC then aD else aC))] from⟨(A2 (j8 aJ aH) (j8 aJ aH)),trivial⟩)),aK⟩
    ·exact D2 aR ⟨(IntKind.i64.wrap (u8+1)),(aQ++([[.int .i64 (if aB<aA then aB else aA),.int .i64 (if aB>aA then aB else aA)]]:List (List Value))),(u9 ++ [((if aB<aA then aB else aA),(if aB>aA then aB else aA))]),rfl,rfl,aS,(J0 _),(F2.append aO (show F2 (d4.R aP) ([[.int .i64 (if aB<aA then aB else aA),.int .i64 (if aB>aA then aB else aA)]]:List (List Value)) [((if aB<aA then aB else aA),(if aB>aA then aB else aA))] from⟨(A2 (j8 aG aF) (j8 aG aF)),trivial⟩)),aK⟩
   ·refine ifB aK (λbM aK=>?_) λbM aK=>?_
    ·obtain⟨cP,bN,aK⟩:=l0 aK
     refine aI (J1 bN (by first|rw[F2.length aO,F2.length (show F2 (d4.R aP) ([[.int .i64 (if aD<aC then aD else aC),.int .i64 (if aD>aC then aD else aC)]]:List (List Value)) [((if aD<aC then aD else aC),(if aD>aC then aD else aC))] from⟨(A2 (j8 aJ aH) (j8 aJ aH)),trivial⟩)]|exact congrArg (·+1) (F2.length aO))) ?_
     exact D2 aR ⟨(IntKind.i64.wrap (u8+1)),(aQ++([[.int .i64 (if aD<aC then aD else aC),.int .i64 (if aD>aC then aD else aC)]]:List (List Value))),(u9 ++ [((if aD<aC then aD else aC),(if aD>aC then aD else aC))]),rfl,rfl,aS,(J0 _),(F2.append aO (show F2 (d4.R aP) ([[.int .i64 (if aD<aC then aD else aC),.int .i64 (if aD>aC then aD else aC)]]:List (List Value)) [((if aD<aC then aD else aC),(if aD>aC then aD else aC))] from⟨(A2 (j8 aJ aH) (j8 aJ aH)),trivial⟩)),aK⟩
    ·exact D2 aR ⟨(IntKind.i64.wrap (u8+1)),aQ,u9,rfl,rfl,aS,(J0 _),aO,aK⟩
  ·obtain rfl:=oJ aK
   try dsimp only[S0,T0]at aL
   exact D2 m5 ⟨(IntKind.i64.wrap (u2+1)),aQ,u9,rfl,rfl,(aY.trans aS),(J0 _),aO,aL⟩
 ·obtain rfl:=oJ aL
  try dsimp only[S0,T0]at aT
  intro cQ cR cH
  obtain⟨bO,bP,rfl,bQ,bR,cI⟩:=U0.out (r:=d4.toRp) cH bW
  obtain rfl:=oJ aT
  exact⟨bO,u3.length,bP,rfl,bQ,(aY.trans bR)⟩
theorem I0b(h:Hp)(aF:List Value)(p0:j0)(aV:Z0.R h aF p0)(r:N4×Bool)(aA:M9 p0=some r):
  Tr Tryz.prog 349 #[.agg aF.toArray] h λv h'=>∃(aQ:List Value),v = .tuple #[.agg aQ.toArray,.bool r.2]/\d4.R h' aQ r.1/\Sub h h':=by
 obtain⟨aL,aM,aG,aR,aH,aN,rfl,rfl,aC,aD,aB⟩:=H0 aV
 obtain⟨rfl,aS⟩:=Sl.len aB
 unfold M9 at aA
 dsimp only at aA
 refine O2 (args:=[.agg #[.int .i64 aL,.int .i64 aM,.slice aG aN.length aH]]) (fn:=Tryz.f349) rfl ?_
 refine trV aA (a9 _ _ _ (B0 aC aD aB)) λx1 aA=>?_
 refine ifB aA (λaW aA=>?_) λaW aA=>?_
 ·obtain rfl:=oJ aA
  exact⟨([.int .i64 0,.int .i64 0]),rfl,(A2 (by decide) (by decide)),(Sub.refl _)⟩
 ·refine trM aA (V0e _ _ _ (B0 aC aD aB)) ?_
  rintro x3 aA v5 k4 ⟨bA,bB,bC,rfl,aT,aU⟩
  obtain⟨rfl,bD⟩:=Sl.len aT
  refine ifB aA (λaX aA=>?_) λaX aA=>?_
  ·obtain rfl:=oJ aA
   exact⟨([.int .i64 0,.int .i64 0]),rfl,(A2 (by decide) (by decide)),aU⟩
  ·refine ld aA aT λx7 aY aZ aA=>?_
   obtain⟨aO,aP,rfl,rfl,aJ,aK⟩:=A00 aZ
   try dsimp only at aA
   obtain rfl:=oJ aA
   exact⟨([.int .i64 aO,.int .i64 aP]),rfl,(A2 aJ aK),aU⟩
theorem z0a(h:Hp)(p0:Int)(aM:P0 p0)(aB:List Value)(p1:N4)(aH:d4.R h aB p1)(r:Int)(aA:b02 p0 p1=some r):
  Tr Tryz.prog 377 #[.int .i64 p0,.agg aB.toArray] h λv h'=>v = .int .i64 r/\h'=h:=by
 obtain⟨aC,aD,rfl,rfl,aF,aG⟩:=A00 aH
 unfold b02 at aA
 dsimp only at aA
 refine Tr.forget (O2 (args:=[.int .i64 p0,.agg #[.int .i64 aC,.int .i64 aD]]) (fn:=Tryz.f377) rfl ?_)
 refine ifB aA (λaJ aA=>?_) λaJ aA=>?_
 ·refine ifB aA (λaK aA=>?_) λaK aA=>?_
  ·obtain rfl:=oJ aA
   exact aI rfl (Sub.refl _)
  ·obtain rfl:=oJ aA
   exact aI rfl (Sub.refl _)
 ·refine ifB aA (λaL aA=>?_) λaL aA=>?_
  ·obtain rfl:=oJ aA
   exact aI rfl (Sub.refl _)
  ·obtain rfl:=oJ aA
   exact aI rfl (Sub.refl _)
theorem G07(h:Hp)(aU:List Value)(p0:j0)(cO:Z0.R h aU p0)(aV:List Value)(p1:N4)(cP:d4.R h aV p1)(r:j0×Bool)(aB:A7 p0 p1=some r):
  Tr Tryz.prog 350 #[.agg aU.toArray,.agg aV.toArray] h λv h'=>∃(cA:List Value),v = .tuple #[.agg cA.toArray,.bool r.2]/\Z0.R h' cA r.1/\Sub h h':=by
 obtain⟨aW,aX,aY,cC,aZ,aM,rfl,rfl,aD,aH,aC⟩:=H0 cO
 obtain⟨rfl,cD⟩:=Sl.len aC
 obtain⟨aN,aO,rfl,rfl,aJ,aK⟩:=A00 cP
 unfold A7 at aB
 dsimp only at aB
 refine O2 (args:=[.agg #[.int .i64 aW,.int .i64 aX,.slice aY aM.length aZ],.agg #[.int .i64 aN,.int .i64 aO]]) (fn:=Tryz.f350) rfl ?_
 refine trV aB (a9 _ _ _ (B0 aD aH aC)) λx1 aB=>?_
 refine ifB aB (λcQ aB=>?_) λcQ aB=>?_
 ·refine trM aB (I9 _ _ _ (B0 aD aH aC)) ?_
  rintro x3 aB v5 k4 ⟨cR,rfl,cE⟩
  have cS:Sub h k4:=cE.sub
  have cT:=cE.r
  obtain⟨bJ,bK,bA,cG,bB,bL,rfl,rfl,bC,bD,aL⟩:=H0 cT
  obtain⟨rfl,cH⟩:=Sl.len aL
  try dsimp only at aB
  obtain rfl:=oJ aB
  exact⟨([.int .i64 bJ,.int .i64 bK,.slice bA bL.length bB]),rfl,(B0 bC bD aL),cS⟩
 ·obtain⟨X6,bM,aB⟩:=l0 aB
  refine eX { vars:=[7],boxes:=[3],owns:=[],fuel:=true } (eX (λvs os h'=>∃ u7 u8 u9 aF aP aG bE,vs.tail = [.int .i64 u7,.int .i64 u8,.int .i64 u9,.slice aF aP aG]/\os = []/\Sub h h'/\P0 u7/\P0 u8/\P0 u9/\O0.R h' [.slice aF aP aG] bE/\H4 aM aN aO (I1 vs) u7 u8 u9 bE=some X6) (eX (λ_ _=>0) (aI (eX Q0 ⟨0,aW,(IntKind.i64.wrap (aX-1)),none,0,0,[],rfl,rfl,(Sub.refl _),(by decide),aD,(J0 _),(B0o E1 h),bM⟩) ?_)))
  rintro _ _ _ _ bI cX ⟨u7,u8,u9,aF,aP,aG,bE,⟨⟩,⟨⟩,bN,cY,cI,cJ,aQ,aA⟩
  replace aA:H4 aM aN aO bI u7 u8 u9 bE=some X6:=aA
  obtain _|bI:=bI
  ·cases aA
  rw[H4.eq_2]at aA
  obtain⟨rfl,cU⟩:=Sl.len aQ
  refine ifB aA (λbO aA=>?_) λbO aA=>?_
  ·refine ld aA (O0.mono bN aC) λcZ cK bP aA=>?_
   obtain⟨cL,bF,cM,rfl,rfl,aR,aS,aT⟩:=N1 bP
   try dsimp only at aA
   refine Or.inr (Or.inr (Or.inl (aI (aI (by kernel_rfl) (by kernel_rfl)) ?_)))
   obtain⟨bQ,bR,aA⟩:=l0 aA
   obtain⟨dA,bS,aA⟩:=l0 aA
   have bT:P0 bQ:=I0 bS
   refine Or.inl (eX (.val (.int .i64 bQ)) (aI ?_ ?_))
   ·intro dB dC
    exact Tr.val (z0a _ _ aR _ _ (A2 aJ aK) _ bR) (aI rfl (aI rfl rfl))
   obtain⟨bU,bV,aA⟩:=l0 aA
   obtain⟨dD,bW,aA⟩:=l0 aA
   have bX:P0 bU:=I0 bW
   refine Or.inl (eX (.val (.int .i64 bU)) (aI ?_ ?_))
   ·intro dE dF
    exact Tr.val (z0a _ _ aT _ _ (A2 aJ aK) _ bV) (aI rfl (aI rfl rfl))
   refine Or.inl (eX (.agg [.val (.int .i64 bQ),.val (.int .i64 bF),.val (.int .i64 bU)]) (aI ?_ ?_))
   ·intro dG dH
    exact aI rfl (aI rfl rfl)
   refine Or.inr ?_
   refine Or.inr ?_
   refine Or.inl (eX 1 (aI (aI rfl rfl) ?_))
   refine trM aA (W03 _ _ _ _ _ aQ _ _ (L1 bT aS bX)) ?_
   rintro cN aA dI dJ ⟨bY,cV,bZ,rfl,bG,bH⟩
   obtain⟨rfl,cW⟩:=Sl.len bG
   refine aI (aI rfl bH) (aI (by first|exact trivial|exact rfl) ?_)
   refine aI trivial (aI (by first|exact trivial|exact rfl) ?_)
   exact D2 bI ⟨(IntKind.i64.wrap (u7+1)),u8,u9,bY,cN.length,bZ,cN,rfl,rfl,(bN.trans bH),(J0 _),cI,cJ,bG,aA⟩
  ·obtain rfl:=oJ aA
   try dsimp only[S0,T0]at aB
   obtain rfl:=oJ aB
   exact⟨([.int .i64 u8,.int .i64 u9,.slice aF bE.length aG]),rfl,(B0 cI cJ aQ),bN⟩
theorem A0c(h:Hp)(aV:List Value)(p0:j0)(bU:Z0.R h aV p0)(r:j0×N4×Bool)(aA:k01 p0=some r):
  Tr Tryz.prog 338 #[.agg aV.toArray] h λv h'=>∃(bN:List Value) (bO:List Value),v = .tuple #[.agg bN.toArray,.agg bO.toArray,.bool r.2.2]/\Z0.R h' bN r.1/\d4.R h' bO r.2.1/\Sub h h':=by
 obtain⟨bF,bG,aW,bP,aX,bH,rfl,rfl,aG,aH,aB⟩:=H0 bU
 obtain⟨rfl,bQ⟩:=Sl.len aB
 unfold k01 at aA
 dsimp only at aA
 refine O2 (args:=[.agg #[.int .i64 bF,.int .i64 bG,.slice aW bH.length aX]]) (fn:=Tryz.f338) rfl ?_
 refine trM aA (I0b _ _ _ (B0 aG aH aB)) ?_
 rintro x1 aA v3 k2 ⟨bI,rfl,aN,bC⟩
 obtain⟨bV,bW⟩:=x1
 dsimp only at aA aN
 obtain⟨aQ,aR,rfl,rfl,aC,aD⟩:=A00 aN
 try dsimp only at aA
 refine ifB aA (λbX aA=>?_) λbX aA=>?_
 ·refine trM aA (I9 _ _ _ (B0 aG aH (O0.mono bC aB))) ?_
  rintro x5 aA v7 k6 ⟨bY,rfl,bR⟩
  have bZ:Sub k2 k6:=bR.sub
  have cA:=bR.r
  obtain⟨bJ,bK,aY,bS,aZ,bL,rfl,rfl,bA,bB,aO⟩:=H0 cA
  obtain⟨rfl,bT⟩:=Sl.len aO
  try dsimp only at aA
  obtain rfl:=oJ aA
  exact⟨([.int .i64 bJ,.int .i64 bK,.slice aY bL.length aZ]),([.int .i64 0,.int .i64 0]),rfl,(B0 bA bB aO),(A2 (by decide) (by decide)),(bC.trans bZ)⟩
 ·refine trM aA (G07 _ _ _ (B0 aG aH (O0.mono bC aB)) _ _ (A2 aC aD)) ?_
  rintro x8 aA cG k9 ⟨bM,rfl,aP,cC⟩
  obtain⟨cD,cE⟩:=x8
  dsimp only at aA aP
  obtain⟨aS,aT,aJ,bD,aK,aU,rfl,rfl,aL,aM,aF⟩:=H0 aP
  obtain⟨rfl,bE⟩:=Sl.len aF
  try dsimp only at aA
  refine Or.inr (Or.inr (Or.inl (aI (aI (by kernel_rfl) (by kernel_rfl)) ?_)))
  refine Or.inr ?_
  refine Or.inr ?_
  refine Or.inl (eX 0 (aI (aI rfl rfl) ?_))
  refine aI trivial (aI (by first|exact trivial|exact rfl) ?_)
  refine aI trivial (aI (by first|exact trivial|exact rfl) ?_)
  obtain rfl:=oJ aA
  exact⟨([.int .i64 aS,.int .i64 aT,.slice aJ aU.length aK]),([.int .i64 aQ,.int .i64 aR]),rfl,(B0 aL aM aF),(A2 aC aD),(bC.trans cC)⟩
theorem W0e(h:Hp)(aV:List Value)(p0:j0)(cX:Z0.R h aV p0)(r:j0×K8)(aK:O01 p0=some r):
  Tr Tryz.prog 310 #[.agg aV.toArray] h λv h'=>∃(cM:List Value) (a1:Option Addr) (n1 c1:Nat),v = .tuple #[.agg cM.toArray,.slice a1 n1 c1]/\Z0.R h' cM r.1/\m0h.R h' [.slice a1 n1 c1] r.2/\Sub h h':=by
 obtain⟨bR,bS,aW,cN,aX,bT,rfl,rfl,aY,aZ,aT⟩:=H0 cX
 obtain⟨rfl,cO⟩:=Sl.len aT
 unfold O01 at aK
 dsimp only at aK
 refine O2 (args:=[.agg #[.int .i64 bR,.int .i64 bS,.slice aW bT.length aX]]) (fn:=Tryz.f310) rfl ?_
 refine trM aK (I9 _ _ _ (B0 aY aZ aT)) ?_
 rintro x1 aK v3 k2 ⟨cY,rfl,cP⟩
 have cQ:Sub h k2:=cP.sub
 have cZ:=cP.r
 obtain⟨bU,bV,bA,cR,bB,bC,rfl,rfl,bD,bE,aU⟩:=H0 cZ
 obtain⟨rfl,cS⟩:=Sl.len aU
 try dsimp only at aK
 obtain⟨X4,bW,aK⟩:=l0 aK
 refine eX { vars:=[6],boxes:=[2],owns:=[0],fuel:=true } (eX (λvs os h'=>∃ u5 u6 u7 bF bX bG u8 bM u9,vs.tail = [.int .i64 u5,.int .i64 u6,.int .i64 u7,.slice bF bX bG]/\os = [bM]/\Sub k2 h'/\P0 u5/\P0 u6/\P0 u7/\O0.R h' [.slice bF bX bG] u8/\F2 (d4.R h') bM u9/\E6 (I1 vs) u5 u6 u7 u8 u9=some X4) (eX (λ_ _=>0) (aI (eX Q0 ⟨0,bU,bV,bA,bC.length,bB,bC,[],([]:K8),rfl,rfl,(Sub.refl _),(by decide),bD,bE,aU,(show F2 (d4.R k2) ([]:List (List Value)) ([]:K8) from trivial),bW⟩) ?_)))
 rintro _ _ _ _ bM bN dG ⟨u5,u6,u7,bF,bX,bG,u8,dA,u9,⟨⟩,⟨⟩,bY,dH,bZ,cA,bO,bH,aC⟩
 replace aC:E6 bN u5 u6 u7 u8 u9=some X4:=aC
 obtain _|bN:=bN
 ·cases aC
 rw[E6.eq_2]at aC
 obtain⟨rfl,dI⟩:=Sl.len bO
 refine ifB aC (λcC aC=>?_) λcC aC=>?_
 ·refine trM aC (A0c _ _ _ (B0 bZ cA bO)) ?_
  rintro dB aC dJ cT ⟨bP,bQ,rfl,aL,aM,aH⟩
  obtain⟨cU,cV,cW⟩:=dB
  dsimp only at aC aL aM
  obtain⟨aR,aS,aN,bI,aO,aJ,rfl,rfl,aP,aQ,aD⟩:=H0 aL
  obtain⟨rfl,bJ⟩:=Sl.len aD
  try dsimp only at aC
  obtain⟨aA,aB,rfl,rfl,aF,aG⟩:=A00 aM
  try dsimp only at aC
  refine ifB aC (λcD aC=>?_) λcD aC=>?_
  ·intro dK dL dC
   obtain⟨cE,cG,rfl,cH,bK,dD⟩:=U0.out (r:=d4.toRp) dC (F2.up (r:=d4.toRp) aH bH)
   obtain rfl:=oJ aC
   try dsimp only[n5,G5]at aK
   obtain rfl:=oJ aK
   exact⟨([.int .i64 u6,.int .i64 u7,.slice bF u8.length bG]),cE,u9.length,cG,rfl,(B0 bZ cA (O0.mono (aH.trans bK) bO)),cH,(((cQ.trans bY).trans aH).trans bK)⟩
  ·obtain⟨dM,cI,aC⟩:=l0 aC
   refine aI (J1 cI (by first|rw[F2.length (F2.up (r:=d4.toRp) aH bH),F2.length (show F2 (d4.R cT) ([[.int .i64 aA,.int .i64 aB]]:List (List Value)) [(aA,aB)] from⟨(A2 aF aG),trivial⟩)]|exact congrArg (·+1) (F2.length (F2.up (r:=d4.toRp) aH bH)))) ?_
   exact D2 bN ⟨(IntKind.i64.wrap (u5+1)),aR,aS,aN,aJ.length,aO,aJ,(bM++([[.int .i64 aA,.int .i64 aB]]:List (List Value))),(u9 ++ [(aA,aB)]),rfl,rfl,(bY.trans aH),(J0 _),aP,aQ,aD,(F2.append (F2.up (r:=d4.toRp) aH bH) (show F2 (d4.R cT) ([[.int .i64 aA,.int .i64 aB]]:List (List Value)) [(aA,aB)] from⟨(A2 aF aG),trivial⟩)),aC⟩
 ·obtain rfl:=oJ aC
  try dsimp only[S0,T0]at aK
  intro dN dO dE
  obtain⟨cJ,cK,rfl,cL,bL,dF⟩:=U0.out (r:=d4.toRp) dE bH
  obtain rfl:=oJ aK
  exact⟨([.int .i64 u6,.int .i64 u7,.slice bF u8.length bG]),cJ,u9.length,cK,rfl,(B0 bZ cA (O0.mono bL bO)),cL,((cQ.trans bY).trans bL)⟩
theorem n08(h:Hp)(aR:List Value)(p0:j0)(bT:Z0.R h aR p0)(r:K0)(aP:T7 p0=some r):
  Tr Tryz.prog 304 #[.agg aR.toArray] h λv h'=>∃(a0:Option Addr) (n0 c0:Nat),v = .slice a0 n0 c0/\O0.R h' [.slice a0 n0 c0] r/\Sub h h':=by
 obtain⟨aF,aG,aS,bN,aT,aH,rfl,rfl,aJ,aM,aK⟩:=H0 bT
 obtain⟨rfl,bO⟩:=Sl.len aK
 unfold T7 at aP
 dsimp only at aP
 refine O2 (args:=[.agg #[.int .i64 aF,.int .i64 aG,.slice aS aH.length aT]]) (fn:=Tryz.f304) rfl ?_
 obtain⟨X1,aZ,aP⟩:=l0 aP
 refine eX { vars:=[4],boxes:=[],owns:=[0],fuel:=true } (eX (λvs os h'=>∃ u2 aX u3,vs.tail = [.int .i64 u2]/\os = [aX]/\Sub h h'/\P0 u2/\F2 (E1.R h') aX u3/\Q4 aG aF aH (I1 vs) u2 u3=some X1) (eX (λ_ _=>0) (aI (eX Q0 ⟨0,[],([]:K0),rfl,rfl,(Sub.refl _),(by decide),(show F2 (E1.R h) ([]:List (List Value)) ([]:K0) from trivial),aZ⟩) ?_)))
 rintro _ aX m5 k4 ⟨u2,bU,u3,⟨⟩,⟨⟩,aY,bA,bP,aB⟩
 replace aB:Q4 aG aF aH m5 u2 u3=some X1:=aB
 obtain _|m5:=m5
 ·cases aB
 rw[Q4.eq_2]at aB
 refine trG aB (λq=>g8 _ _ _ (B0 aJ aM (O0.mono aY aK))) λx6 aB=>?_
 refine ifB aB (λbV aB=>?_) λbV aB=>?_
 ·refine trM aB (R00 _ _ aJ) ?_
  rintro x8 aB cA k9 ⟨cC,cD,cE,rfl,bB,bC⟩
  obtain⟨rfl,cG⟩:=Sl.len bB
  obtain⟨X11,aU,aB⟩:=l0 aB
  refine eX { vars:=[6],boxes:=[],owns:=[0],fuel:=true } (eX (λvs os h'=>∃ aN aC aO,vs.tail = [.int .i64 aN]/\os = [aC]/\Sub k9 h'/\P0 aN/\F2 (E1.R h') aC aO/\P3 x8 aF aG aH u2 (I1 vs) aN aO=some X11) (eX (λ_ _=>0) (aI (eX Q0 ⟨0,aX,u3,rfl,rfl,(Sub.refl _),(by decide),(F2.up (r:=E1.toRp) bC bP),aU⟩) ?_)))
  rintro _ aC aV bQ ⟨aN,bR,aO,⟨⟩,⟨⟩,aD,bW,aL,aA⟩
  replace aA:P3 x8 aF aG aH u2 aV aN aO=some X11:=aA
  obtain _|aV:=aV
  ·cases aA
  rw[P3.eq_2]at aA
  refine ifB aA (λbD aA=>?_) λbD aA=>?_
  ·refine Or.inl (aI (aI (by kernel_rfl) (by kernel_rfl)) ?_)
   refine ldI aA (W0.mono aD bB) λcH bE aA=>?_
   obtain⟨bS,bF,aA⟩:=l0 aA
   refine eX (.int .i64 bS) (aI (U6 _ _ _ (B0 aJ aM (O0.mono ((aY.trans bC).trans aD) aK)) _ bA _ bE _  bF) ?_)
   obtain⟨cI,bG,aA⟩:=l0 aA
   have bX:P0 bS:=I0 bG
   refine ifB aA (λbH aA=>?_) λbH aA=>?_
   ·refine ldI aA (W0.mono aD bB) λaQ aW aA=>?_
    obtain⟨cJ,bI,aA⟩:=l0 aA
    refine aI (J1 bI (by first|rw[F2.length aL,F2.length (show F2 (E1.R bQ) ([[.int .i64 u2,.int .i64 aQ,.int .i64 (-1)]]:List (List Value)) [(u2,aQ,(-1))] from⟨(L1 bA aW (by decide)),trivial⟩)]|exact congrArg (·+1) (F2.length aL))) ?_
    exact D2 aV ⟨(IntKind.i64.wrap (aN+1)),(aC++([[.int .i64 u2,.int .i64 aQ,.int .i64 (-1)]]:List (List Value))),(aO ++ [(u2,aQ,(-1))]),rfl,rfl,aD,(J0 _),(F2.append aL (show F2 (E1.R bQ) ([[.int .i64 u2,.int .i64 aQ,.int .i64 (-1)]]:List (List Value)) [(u2,aQ,(-1))] from⟨(L1 bA aW (by decide)),trivial⟩)),aA⟩
   ·exact D2 aV ⟨(IntKind.i64.wrap (aN+1)),aC,aO,rfl,rfl,aD,(J0 _),aL,aA⟩
  ·obtain rfl:=oJ aA
   try dsimp only[S0,T0]at aB
   exact D2 m5 ⟨(IntKind.i64.wrap (u2+1)),aC,aO,rfl,rfl,((aY.trans bC).trans aD),(J0 _),aL,aB⟩
 ·obtain rfl:=oJ aB
  try dsimp only[S0,T0]at aP
  intro cK cL bY
  obtain⟨bJ,bK,rfl,bL,bM,bZ⟩:=U0.out (r:=E1.toRp) bY bP
  obtain rfl:=oJ aP
  exact⟨bJ,u3.length,bK,rfl,bL,(aY.trans bM)⟩
theorem J0b(h:Hp)(bW:List Value)(p0:j0)(eD:Z0.R h bW p0)(r:j0×F0)(aD:G00 p0=some r):
  Tr Tryz.prog 311 #[.agg bW.toArray] h λv h'=>∃(dR:List Value) (a1:Option Addr) (n1 c1:Nat),v = .tuple #[.agg dR.toArray,.slice a1 n1 c1]/\Z0.R h' dR r.1/\W0.R h' [.slice a1 n1 c1] r.2/\Sub h h':=by
 obtain⟨aJ,aK,bX,dS,bY,aL,rfl,rfl,aM,aN,aF⟩:=H0 eD
 obtain⟨rfl,dT⟩:=Sl.len aF
 unfold G00 at aD
 dsimp only at aD
 refine O2 (args:=[.agg #[.int .i64 aJ,.int .i64 aK,.slice bX aL.length bY]]) (fn:=Tryz.f311) rfl ?_
 refine trM aD (I9 _ _ _ (B0 aM aN aF)) ?_
 rintro x1 aD v3 k2 ⟨eE,rfl,dU⟩
 have cQ:Sub h k2:=dU.sub
 have eF:=dU.r
 obtain⟨cW,cX,bZ,dV,cA,cC,rfl,rfl,cD,cE,bK⟩:=H0 eF
 obtain⟨rfl,dW⟩:=Sl.len bK
 try dsimp only at aD
 obtain⟨X4,cY,aD⟩:=l0 aD
 refine eX { vars:=[6],boxes:=[],owns:=[0],fuel:=true } (eX (λvs os h'=>∃ u5 cR u6,vs.tail = [.int .i64 u5]/\os = [cR]/\Sub k2 h'/\P0 u5/\F2 (Wp.int.R h') cR u6/\l6 aK aJ aL (I1 vs) u5 u6=some X4) (eX (λ_ _=>0) (aI (eX Q0 ⟨0,[],([]:F0),rfl,rfl,(Sub.refl _),(by decide),(show F2 (Wp.int.R k2) ([]:List (List Value)) ([]:F0) from trivial),cY⟩) ?_)))
 rintro _ cR m8 k7 ⟨u5,eG,u6,⟨⟩,⟨⟩,bR,dX,cS,aA⟩
 replace aA:l6 aK aJ aL m8 u5 u6=some X4:=aA
 obtain _|m8:=m8
 ·cases aA
 rw[l6.eq_2]at aA
 refine trG aA (λq=>a9 _ _ _ (B0 aM aN (O0.mono (cQ.trans bR) aF))) λx9 aA=>?_
 refine ifB aA (λcZ aA=>?_) λcZ aA=>?_
 ·obtain⟨eW,dA,aA⟩:=l0 aA
  refine aI (J1 dA (by first|rw[F2.length cS,F2.length (show F2 (Wp.int.R k7) ([[.int .i64 u5]]:List (List Value)) [u5] from⟨⟨rfl,dX⟩,trivial⟩)]|exact congrArg (·+1) (F2.length cS))) ?_
  exact D2 m8 ⟨(IntKind.i64.wrap (u5+1)),(cR++([[.int .i64 u5]]:List (List Value))),(u6 ++ [u5]),rfl,rfl,bR,(J0 _),(F2.append cS (show F2 (Wp.int.R k7) ([[.int .i64 u5]]:List (List Value)) [u5] from⟨⟨rfl,dX⟩,trivial⟩)),aA⟩
 ·obtain rfl:=oJ aA
  try dsimp only[S0,T0]at aD
  obtain⟨X16,cG,aD⟩:=l0 aD
  refine eX { vars:=[5,7],boxes:=[2],owns:=[],fuel:=true,pubs:=[5] } (eX (λvs os h'=>∃(aO:Option Addr) (bN aP:Nat) (bL:F0) (bS:Int) (bO:Int) (bD:Int) (aQ:Option Addr) (bP aR:Nat) (bT:K0),vs.tail = [.slice aO bN aP,.int .i64 bS,.int .i64 bO,.int .i64 bD,.slice aQ bP aR]/\os = []/\Sub k7 h'/\W0.R h' [.slice aO bN aP] bL/\P0 bS/\P0 bO/\P0 bD/\O0.R h' [.slice aQ bP aR] bT/\j6 aJ aK aL (I1 vs) bL bS bO bD bT=some X16) (eX (λ_ _=>0) ?_))
  intro eY eZ eH
  obtain⟨dB,dC,rfl,dD,cH,eI⟩:=U0.out (r:=Wp.int.toRp) eH cS
  refine aI (eX Q0 ⟨dB,u6.length,dC,u6,0,cW,cX,bZ,cC.length,cA,cC,rfl,rfl,cH,dD,(by decide),cD,cE,(O0.mono (bR.trans cH) bK),cG⟩) ?_
  rintro _ _ _ _ _ cT dE ⟨aO,bN,aP,bL,bS,bO,bD,aQ,bP,aR,bT,⟨⟩,⟨⟩,bE,bF,eJ,bG,bH,aS,aA⟩
  replace aA:j6 aJ aK aL cT bL bS bO bD bT=some X16:=aA
  obtain _|cT:=cT
  ·cases aA
  rw[j6.eq_2]at aA
  obtain⟨rfl,eK⟩:=Sl.len bF
  obtain⟨rfl,eM⟩:=Sl.len aS
  refine trG aA (λq=>a9 _ _ _ (B0 aM aN (O0.mono ((cQ.trans bR).trans bE) aF))) λfA aA=>?_
  refine ifB aA (λdF aA=>?_) λdF aA=>?_
  ·refine trV aA (L08 _ _ _ (B0 bG bH aS)) λdG aA=>?_
   obtain⟨fB,dH,aA⟩:=l0 aA
   have eN:P0 dG:=I0 dH
   refine ifB aA (λdI aA=>?_) λdI aA=>?_
   ·obtain rfl:=oJ aA
    try dsimp only[n5,G5]at aD
    obtain rfl:=oJ aD
    exact⟨([.int .i64 bO,.int .i64 bD,.slice aQ bT.length aR]),aO,bL.length,aP,rfl,(B0 bG bH aS),bF,((cQ.trans bR).trans bE)⟩
   ·obtain⟨X29,cI,aA⟩:=l0 aA
    refine eX { vars:=[11],boxes:=[],owns:=[1,2],fuel:=true } (eX (λvs os h'=>∃ aH aT bU aU bM,vs.tail = [.int .i64 aH]/\os = [aT,aU]/\Sub dE h'/\P0 aH/\F2 (Wp.int.R h') aT bU/\F2 (Wp.int.R h') aU bM/\D5 bD dG bL (I1 vs) aH bU bM=some X29) (eX (λ_ _=>0) (aI (eX Q0 ⟨0,[],([]:F0),[],([]:F0),rfl,rfl,(Sub.refl _),(by decide),(show F2 (Wp.int.R dE) ([]:List (List Value)) ([]:F0) from trivial),(show F2 (Wp.int.R dE) ([]:List (List Value)) ([]:F0) from trivial),cI⟩) ?_)))
    rintro _ aT aU cJ cU ⟨aH,dY,bU,dZ,bM,⟨⟩,⟨⟩,aV,cK,aW,aX,aB⟩
    replace aB:D5 bD dG bL cJ aH bU bM=some X29:=aB
    obtain _|cJ:=cJ
    ·cases aB
    rw[D5.eq_2]at aB
    refine ifB aB (λdJ aB=>?_) λdJ aB=>?_
    ·refine ifB aB (λdK aB=>?_) λdK aB=>?_
     ·obtain⟨fC,dL,aB⟩:=l0 aB
      refine aI (J1 dL (by first|rw[F2.length aW,F2.length (show F2 (Wp.int.R cU) ([[.int .i64 aH]]:List (List Value)) [aH] from⟨⟨rfl,cK⟩,trivial⟩)]|exact congrArg (·+1) (F2.length aW))) ?_
      refine ldI aB (W0.mono aV bF) λbV cL aB=>?_
      obtain⟨fD,dM,aB⟩:=l0 aB
      refine aI (J1 dM (by first|rw[F2.length aX,F2.length (show F2 (Wp.int.R cU) ([[.int .i64 bV]]:List (List Value)) [bV] from⟨⟨rfl,cL⟩,trivial⟩)]|exact congrArg (·+1) (F2.length aX))) ?_
      exact D2 cJ ⟨(IntKind.i64.wrap (aH+1)),(aT++([[.int .i64 aH]]:List (List Value))),(bU ++ [aH]),(aU++([[.int .i64 bV]]:List (List Value))),(bM ++ [bV]),rfl,rfl,aV,(J0 _),(F2.append aW (show F2 (Wp.int.R cU) ([[.int .i64 aH]]:List (List Value)) [aH] from⟨⟨rfl,cK⟩,trivial⟩)),(F2.append aX (show F2 (Wp.int.R cU) ([[.int .i64 bV]]:List (List Value)) [bV] from⟨⟨rfl,cL⟩,trivial⟩)),aB⟩
     ·exact D2 cJ ⟨(IntKind.i64.wrap (aH+1)),aT,bU,aU,bM,rfl,rfl,aV,(J0 _),aW,aX,aB⟩
    ·obtain rfl:=oJ aB
     try dsimp only[S0,T0]at aA
     refine Or.inl ?_
     intro fE fF eO
     obtain⟨eP,eQ,rfl,dN,bQ,eR⟩:=U0.out (r:=Wp.int.toRp) eO aW
     refine trM aA (T01 _ _ _ (B0 bG bH (O0.mono (aV.trans bQ) aS)) _ _ _ _ dN) ?_
     rintro eT aA fG fH ⟨cV,rfl,aY,cM⟩
     obtain⟨eA,eC⟩:=eT
     dsimp only at aA aY
     obtain⟨bI,bJ,aZ,cN,bA,aG,rfl,rfl,bB,bC,aC⟩:=H0 aY
     obtain⟨rfl,cO⟩:=Sl.len aC
     try dsimp only at aA
     intro fJ fK eU
     obtain⟨dO,dP,rfl,dQ,cP,eV⟩:=U0.out (r:=Wp.int.toRp) eU (F2.up (r:=Wp.int.toRp) (bQ.trans cM) aX)
     exact D2 cT ⟨dO,bM.length,dP,bM,(IntKind.i64.wrap (bS+1)),bI,bJ,aZ,aG.length,bA,aG,rfl,rfl,((((bE.trans aV).trans bQ).trans cM).trans cP),dQ,(J0 _),bB,bC,(O0.mono cP aC),aA⟩
  ·obtain rfl:=oJ aA
   try dsimp only[S0,T0]at aD
   obtain rfl:=oJ aD
   exact⟨([.int .i64 bO,.int .i64 bD,.slice aQ bT.length aR]),aO,bL.length,aP,rfl,(B0 bG bH aS),bF,((cQ.trans bR).trans bE)⟩
theorem K0b(h:Hp)(aP:List Value)(p0:j0)(cJ:Z0.R h aP p0)(r:j0)(aA:H00 p0=some r):
  Tr Tryz.prog 242 #[.agg aP.toArray] h λv h'=>∃(bU:List Value),v = .agg bU.toArray/\Z0.R h' bU r/\Sub h h':=by
 obtain⟨bG,bH,aQ,bV,aR,bI,rfl,rfl,aS,aT,aJ⟩:=H0 cJ
 obtain⟨rfl,bW⟩:=Sl.len aJ
 unfold H00 at aA
 dsimp only at aA
 refine O2 (args:=[.agg #[.int .i64 bG,.int .i64 bH,.slice aQ bI.length aR]]) (fn:=Tryz.f242) rfl ?_
 refine trM aA (W0e _ _ _ (B0 aS aT aJ)) ?_
 rintro x1 aA v3 k2 ⟨bJ,bX,bY,bZ,rfl,aK,aL,cK⟩
 obtain⟨cL,cM⟩:=x1
 dsimp only at aA aK aL
 obtain⟨bK,bL,aY,aZ,bA,bM,rfl,rfl,aD,aF,aB⟩:=H0 aK
 obtain⟨rfl,bB⟩:=Sl.len aB
 try dsimp only at aA
 obtain⟨rfl,cA⟩:=Sl.len aL
 refine trM aA (J0b _ _ _ (B0 aD aF aB)) ?_
 rintro x4 aA v6 k5 ⟨bN,cC,cD,cE,rfl,aM,aN,cN⟩
 obtain⟨cO,cP⟩:=x4
 dsimp only at aA aM aN
 obtain⟨bO,bP,bC,bD,bE,bQ,rfl,rfl,aG,aH,aC⟩:=H0 aM
 obtain⟨rfl,bF⟩:=Sl.len aC
 try dsimp only at aA
 obtain⟨rfl,cG⟩:=Sl.len aN
 refine trM aA (c03 _ _ _ (B0 aG aH aC)) ?_
 rintro x7 aA v9 k8 ⟨cQ,rfl,cR,cS⟩
 obtain⟨bR,bS,aU,cH,aV,bT,rfl,rfl,aW,aX,aO⟩:=H0 cR
 obtain⟨rfl,cI⟩:=Sl.len aO
 try dsimp only at aA
 obtain rfl:=oJ aA
 exact⟨([.int .i64 bR,.int .i64 bS,.slice aU bT.length aV]),rfl,(B0 aW aX aO),((cK.trans cN).trans cS)⟩
theorem U01(h:Hp)(aF:List Value)(p0:j0)(aP:Z0.R h aF p0)(r:Bool)(aB:r6 p0=some r):
  Tr Tryz.prog 226 #[.agg aF.toArray] h λv h'=>v = .bool r/\h'=h:=by
 obtain⟨aJ,aK,aG,aM,aH,aL,rfl,rfl,aC,aD,aA⟩:=H0 aP
 obtain⟨rfl,aN⟩:=Sl.len aA
 unfold r6 at aB
 dsimp only at aB
 refine Tr.forget (O2 (args:=[.agg #[.int .i64 aJ,.int .i64 aK,.slice aG aL.length aH]]) (fn:=Tryz.f226) rfl ?_)
 refine aI (by kernel_rfl) ?_
 obtain⟨x1,aQ,aB⟩:=l0 aB
 refine Or.inl (eX (.val (.bool x1)) (aI ?_ ?_))
 ·intro k2 s3
  exact Tr.val (O7 _ _ _ (B0 aC aD (O0.mono s3 aA)) _ aQ) (aI rfl (aI rfl rfl))
 obtain⟨x4,aR,aB⟩:=l0 aB
 refine Or.inr (eX (λv hh=>∃(a:Option Addr) (c:Nat),v = .slice a x4.length c/\O0.R hh [.slice a x4.length c] x4/\x4.length<=9223372036854775807) (aI (λv h1 h2 sb q=>by obtain⟨a,c,e,r,l⟩:=q;exact⟨a,c,e,O0.mono sb r,l⟩) (aI ?_ ?_)))
 ·intro k5 s6 hq
  refine Tr.mono (n08 _ _ _ (B0 aC aD (O0.mono s6 aA)) _ (I7 aR hq)) ?_
  rintro _ kk ⟨aS,bA,aT,rfl,aO,sb⟩
  obtain⟨rfl,aU⟩:=Sl.len aO
  exact aI Y02 (aI sb ⟨aS,aT,rfl,aO,aU⟩)
 obtain⟨q7,bB,aB⟩:=l0 aB
 refine Or.inl (eX (.val (.int .i64 ((x4.length:Nat):Int))) (aI ?_ ?_))
 ·intro k8 s9 hq
  rintro _ ⟨aV,aW,rfl,aX,aY⟩
  exact aI rfl (aI rfl rfl)
 refine Or.inl (eX (.val (.bool (decide (((x4.length:Nat):Int)=0)))) (aI ?_ ?_))
 ·intro bC bD hq
  exact aI rfl (aI rfl rfl)
 intro bE aZ
 obtain rfl:=oJ aB
 exact aI rfl aZ
theorem B0c(h:Hp)(aS:List Value)(p0:j0)(cS:Z0.R h aS p0)(p1:Int)(cG:P0 p1)(r:j0×Bool)(aA:l01 p0 p1=some r):
  Tr Tryz.prog 253 #[.agg aS.toArray,.int .i64 p1] h λv h'=>∃(cH:List Value),v = .tuple #[.agg cH.toArray,.bool r.2]/\Z0.R h' cH r.1/\Sub h h':=by
 obtain⟨bP,aM,aT,cI,aU,bQ,rfl,rfl,aF,aG,aD⟩:=H0 cS
 obtain⟨rfl,cJ⟩:=Sl.len aD
 unfold l01 at aA
 dsimp only at aA
 refine O2 (args:=[.agg #[.int .i64 bP,.int .i64 aM,.slice aT bQ.length aU],.int .i64 p1]) (fn:=Tryz.f253) rfl ?_
 refine trV aA (g8 _ _ _ (B0 aF aG aD)) λx1 aA=>?_
 refine trG aA (λq=>Z8 _ _ cG 0 (by decide) (IntKind.i64.wrap (aM-1)) (J0 _)) λx2 aA=>?_
 refine ifB aA (λcT aA=>?_) λcT aA=>?_
 ·refine trM aA (I9 _ _ _ (B0 aF aG aD)) ?_
  rintro x4 aA v6 k5 ⟨cU,rfl,cK⟩
  have cV:Sub h k5:=cK.sub
  have cW:=cK.r
  obtain⟨bR,bS,aV,cL,aW,bT,rfl,rfl,aX,aY,aN⟩:=H0 cW
  obtain⟨rfl,cM⟩:=Sl.len aN
  try dsimp only at aA
  obtain rfl:=oJ aA
  exact⟨([.int .i64 bR,.int .i64 bS,.slice aV bT.length aW]),rfl,(B0 aX aY aN),cV⟩
 ·obtain⟨X7,bU,aA⟩:=l0 aA
  refine eX { vars:=[7],boxes:=[],owns:=[0],fuel:=true } (eX (λvs os h'=>∃ u8 aZ u9,vs.tail = [.int .i64 u8]/\os = [aZ]/\Sub h h'/\P0 u8/\F2 (Wp.int.R h') aZ u9/\I4 aM p1 (I1 vs) u8 u9=some X7) (eX (λ_ _=>0) (aI (eX Q0 ⟨0,([[.int .i64 p1]]:List (List Value)),[p1],rfl,rfl,(Sub.refl _),(by decide),(show F2 (Wp.int.R h) ([[.int .i64 p1]]:List (List Value)) [p1] from⟨⟨rfl,cG⟩,trivial⟩),bU⟩) ?_)))
  rintro _ aZ bA cN ⟨u8,cX,u9,⟨⟩,⟨⟩,bK,cO,bB,aC⟩
  replace aC:I4 aM p1 bA u8 u9=some X7:=aC
  obtain _|bA:=bA
  ·cases aC
  rw[I4.eq_2]at aC
  refine ifB aC (λbV aC=>?_) λbV aC=>?_
  ·refine ifB aC (λbW aC=>?_) λbW aC=>?_
   ·obtain⟨dD,bX,aC⟩:=l0 aC
    refine aI (J1 bX (by first|rw[F2.length bB,F2.length (show F2 (Wp.int.R cN) ([[.int .i64 u8]]:List (List Value)) [u8] from⟨⟨rfl,cO⟩,trivial⟩)]|exact congrArg (·+1) (F2.length bB))) ?_
    exact D2 bA ⟨(IntKind.i64.wrap (u8+1)),(aZ++([[.int .i64 u8]]:List (List Value))),(u9 ++ [u8]),rfl,rfl,bK,(J0 _),(F2.append bB (show F2 (Wp.int.R cN) ([[.int .i64 u8]]:List (List Value)) [u8] from⟨⟨rfl,cO⟩,trivial⟩)),aC⟩
   ·exact D2 bA ⟨(IntKind.i64.wrap (u8+1)),aZ,u9,rfl,rfl,bK,(J0 _),bB,aC⟩
  ·obtain rfl:=oJ aC
   try dsimp only[S0,T0]at aA
   refine Or.inl ?_
   intro dE dF cY
   obtain⟨cZ,dA,rfl,bY,bC,dB⟩:=U0.out (r:=Wp.int.toRp) cY bB
   refine trM aA (T01 _ _ _ (B0 aF aG (O0.mono (bK.trans bC) aD)) _ _ _ _ bY) ?_
   rintro dC aA dG dH ⟨bL,rfl,aH,bZ⟩
   obtain⟨cP,cQ⟩:=dC
   dsimp only at aA aH
   obtain⟨bM,bN,bD,bE,bF,bO,rfl,rfl,aJ,aK,aB⟩:=H0 aH
   obtain⟨rfl,bG⟩:=Sl.len aB
   try dsimp only at aA
   refine trM aA (K0b _ _ _ (B0 aJ aK aB)) ?_
   rintro dI aA dJ dK ⟨cR,rfl,cA,cC⟩
   obtain⟨bH,bI,aO,cD,aP,bJ,rfl,rfl,aQ,aR,aL⟩:=H0 cA
   obtain⟨rfl,cE⟩:=Sl.len aL
   try dsimp only at aA
   obtain rfl:=oJ aA
   exact⟨([.int .i64 bH,.int .i64 bI,.slice aO bJ.length aP]),rfl,(B0 aQ aR aL),(((bK.trans bC).trans bZ).trans cC)⟩
theorem p03(h:Hp)(p0:Bool)(p1:ByteArray)(aC:p1.size<=9223372036854775807)(r:ByteArray)(aA:H9 p0 p1=some r):
  Tr Tryz.prog 119 #[.bool p0,.string p1] h λv h'=>v = .string r/\h'=h:=by
 unfold H9 at aA
 refine Tr.forget (O2 (args:=[.bool p0,.string p1]) (fn:=Tryz.f119) rfl ?_)
 refine ifB aA (λaB aA=>?_) λaB aA=>?_
 ·obtain rfl:=oJ aA
  exact aI rfl (Sub.refl _)
 ·obtain rfl:=oJ aA
  exact aI rfl (Sub.refl _)
theorem M06(h:Hp)(aB:Option Addr)(aG aC:Nat)(p0:F0)(aH:W0.R h [.slice aB aG aC] p0)(r:F0)(aA:g00 p0=some r):
  Tr Tryz.prog 93 #[.slice aB aG aC] h λv h'=>∃(g0:Nat) (n0 c0:Nat),v = .slice (some ⟨g0,0,none⟩) n0 c0/\New W0 h h' [.slice (some ⟨g0,0,none⟩) n0 c0] r:=by
 obtain⟨rfl,aN⟩:=Sl.len aH
 unfold g00 at aA
 refine O2 (args:=[.slice aB p0.length aC]) (fn:=Tryz.f93) rfl ?_
 obtain⟨aD,aJ,aF⟩:=Sl.rows (r:=Wp.int.toRp) aH
 refine eX aD (aI aJ ?_)
 obtain⟨q2,aK,aA⟩:=l0 aA
 refine aI (J1 aK (by first|rw[F2.length (show F2 (Wp.int.R h) ([]:List (List Value)) ([]:F0) from trivial),F2.length aF]|exact congrArg (·+1) (F2.length (show F2 (Wp.int.R h) ([]:List (List Value)) ([]:F0) from trivial)))) ?_
 intro v3 k4 f5
 obtain⟨aL,aM,rfl,aO,aP,aQ⟩:=U0.outS (r:=Wp.int.toRp) f5 (F2.append (show F2 (Wp.int.R h) ([]:List (List Value)) ([]:F0) from trivial) aF)
 obtain rfl:=oJ aA
 exact⟨aL,((([]:F0)++p0)).length,aM,rfl,(U0.newPlain (r:=Wp.int) f5 (F2.append (show F2 (Wp.int.R h) ([]:List (List Value)) ([]:F0) from trivial) aF) (B04 _))⟩
theorem Q5(h:Hp)(aB:Option Addr)(aD aC:Nat)(p0:(List ByteArray))(aF:(Wp.slice Wp.str).R h [.slice aB aD aC] p0)(r:ByteArray)(aA:J3 p0=some r):
  Tr Tryz.prog 112 #[.slice aB aD aC] h λv h'=>v = .string r/\h'=h:=by
 obtain⟨rfl,aH⟩:=Sl.len aF
 unfold J3 at aA
 refine Tr.forget (O2 (args:=[.slice aB p0.length aC]) (fn:=Tryz.f112) rfl ?_)
 refine trV aA (x0a _ _ _ _ _ aF (⟨#[32]⟩:ByteArray) (by decide) (⟨#[]⟩:ByteArray) (by decide)) λx1 aA=>?_
 obtain⟨q2,aG,aA⟩:=l0 aA
 have aJ:x1.size<=9223372036854775807:=I0 aG
 obtain rfl:=oJ aA
 exact aI rfl (Sub.refl _)
end Go.Proofs.YtkjhghloldgioaaGreat
