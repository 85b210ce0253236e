/- Texts of the claim, joined: The walks of batch 1 and others. -/
import Derived.Test.YtkjhghloldgioaaGreatPart20
import Derived.Test.YtkjhghloldgioaaGreatChecked
import Derived.Test.YtkjhghloldgioaaGreatH35
import Derived.Test.YtkjhghloldgioaaGreatSI
import Derived.Test.YtkjhghloldgioaaGreatPart23
import Derived.Test.YtkjhghloldgioaaGreatPart19
import Derived.Test.YtkjhghloldgioaaGreatH36
import Derived.Test.YtkjhghloldgioaaGreatH41
namespace Go.Proofs.YtkjhghloldgioaaGreat
open Go.H
set_option linter.unusedVariables false
set_option linter.unusedSimpArgs false
set_option maxRecDepth 10000
theorem p9(h:Hp)(a:Int)(f:I0 a)(b:Int)(g:I0 b)(c:Int)(i:I0 c)(r:Bool)(d:a6 a b c=some r):
  Tr Tryz.prog 76 #[.int .i64 a,.int .i64 b,.int .i64 c] h λv e=>v = .bool r/\e=h:=by
 unfold a6 at d
 refine Tr.forget (I3 (args:=[.int .i64 a,.int .i64 b,.int .i64 c]) (fn:=Tryz.f76) rfl ?_)
 obtain rfl:=oJ d
 exact aI rfl (Sub.refl _)
theorem x03(h:Hp)(a:Int)(f:I0 a)(b:Int)(g:I0 b)(c:Int)(i:I0 c)(r:Bool)(d:J00 a b c=some r):
  Tr Tryz.prog 78 #[.int .i64 a,.int .i64 b,.int .i64 c] h λv e=>v = .bool r/\e=h:=by
 unfold J00 at d
 refine Tr.forget (I3 (args:=[.int .i64 a,.int .i64 b,.int .i64 c]) (fn:=Tryz.f78) rfl ?_)
 obtain rfl:=oJ d
 exact aI rfl (Sub.refl _)
theorem X0a(h:Hp)(a:Int)(e:I0 a)(b:Int)(f:I0 b)(r:Bool)(c:x00 a b=some r):
  Tr Tryz.prog 198 #[.int .i64 a,.int .i64 b] h λv d=>v = .bool r/\d=h:=by
 unfold x00 at c
 refine Tr.forget (I3 (args:=[.int .i64 a,.int .i64 b]) (fn:=Tryz.f198) rfl ?_)
 obtain rfl:=oJ c
 exact aI rfl (Sub.refl _)
theorem A02(h:Hp)(b:Int)(g:I0 b)(c:Int)(i:I0 c)(r:Int)(a:F7 b c=some r):
  Tr Tryz.prog 342 #[.int .i64 b,.int .i64 c] h λv d=>v = .int .i64 r/\d=h:=by
 unfold F7 at a
 refine Tr.forget (I3 (args:=[.int .i64 b,.int .i64 c]) (fn:=Tryz.f342) rfl ?_)
 refine ifB a (λe a=>?_) λe a=>?_
 ·obtain rfl:=oJ a
  exact aI rfl (Sub.refl _)
 ·refine ifB a (λf a=>?_) λf a=>?_
  ·obtain rfl:=oJ a
   exact aI rfl (Sub.refl _)
  ·obtain rfl:=oJ a
   exact aI rfl (Sub.refl _)
theorem X00(h:Hp)(f:Int)(A:I0 f)(r:ByteArray)(b:J6 f=some r):
  Tr Tryz.prog 108 #[.int .i64 f] h λv i=>v = .string r/\i=h:=by
 unfold J6 at b
 refine Tr.forget (I3 (args:=[.int .i64 f]) (fn:=Tryz.f108) rfl ?_)
 refine ifB b (λw b=>?_) λw b=>?_
 ·obtain rfl:=oJ b
  exact aI rfl (Sub.refl _)
 ·obtain⟨j,u,b⟩:=B0 b
  refine eX { vars:=[0,3],boxes:=[],owns:=[],fuel:=true } (eX (λvs os i=>∃ c d,vs.tail = [.int .i64 c,.string d]/\os = []/\Sub h i/\I0 c/\d.size<=9223372036854775807/\T4 (J1 vs) c d=some j) (eX (λ_ _=>0) (aI (eX U0 ⟨f,(⟨#[]⟩:ByteArray),rfl,rfl,(Sub.refl _),A,(by decide),u⟩) ?_)))
  rintro _ _ e m ⟨c,d,⟨⟩,⟨⟩,g,F,G,a⟩
  replace a:T4 e c d=some j:=a
  obtain _|e:=e
  ·cases a
  rw[T4.eq_2]at a
  refine ifB a (λy a=>?_) λy a=>?_
  ·obtain⟨O,t,a⟩:=B0 a
   refine aI (N0 t) ?_
   refine ifB a (λz a=>?_) λz a=>?_
   ·refine eX [(IntKind.u8.wrap (IntKind.i64.wrap (48+(IntKind.i64.wrap (0-(Int.tmod c 10))))))] (aI (F2.u8 (show F2 (Rp.u8.R m) ([[.int .u8 (IntKind.u8.wrap (IntKind.i64.wrap (48+(IntKind.i64.wrap (0-(Int.tmod c 10))))))]]:List (List Value)) [(IntKind.u8.wrap (IntKind.i64.wrap (48+(IntKind.i64.wrap (0-(Int.tmod c 10))))))] from⟨rfl,trivial⟩)) ?_)
    obtain⟨H,D,a⟩:=B0 a
    obtain⟨I,n,a⟩:=B0 a
    have k:=N0 n
    refine aI k ?_
    obtain⟨J,o,a⟩:=B0 a
    refine aI (N0 o) ?_
    exact O2 e ⟨(IntKind.i64.wrap (Int.tdiv c 10)),((strOfNums [(IntKind.u8.wrap (IntKind.i64.wrap (48+(IntKind.i64.wrap (0-(Int.tmod c 10))))))])++d),rfl,rfl,g,(J0 _),(a0e k),a⟩
   ·refine eX [(IntKind.u8.wrap (IntKind.i64.wrap (48+(Int.tmod c 10))))] (aI (F2.u8 (show F2 (Rp.u8.R m) ([[.int .u8 (IntKind.u8.wrap (IntKind.i64.wrap (48+(Int.tmod c 10))))]]:List (List Value)) [(IntKind.u8.wrap (IntKind.i64.wrap (48+(Int.tmod c 10))))] from⟨rfl,trivial⟩)) ?_)
    obtain⟨K,E,a⟩:=B0 a
    obtain⟨L,p,a⟩:=B0 a
    have l:=N0 p
    refine aI l ?_
    obtain⟨M,q,a⟩:=B0 a
    refine aI (N0 q) ?_
    exact O2 e ⟨(IntKind.i64.wrap (Int.tdiv c 10)),((strOfNums [(IntKind.u8.wrap (IntKind.i64.wrap (48+(Int.tmod c 10))))])++d),rfl,rfl,g,(J0 _),(a0e l),a⟩
  ·obtain rfl:=oJ a
   try dsimp only[W0,Y0]at b
   refine ifB b (λx b=>?_) λx b=>?_
   ·obtain⟨N,s,b⟩:=B0 b
    have C:=N0 s
    refine aI C ?_
    obtain rfl:=oJ b
    exact aI rfl g
   ·obtain rfl:=oJ b
    exact aI rfl g
theorem Y00(h:Hp)(z:Int)(aH:I0 z)(r:ByteArray)(d:K6 z=some r):
  Tr Tryz.prog 114 #[.int .i64 z] h λv i=>v = .string r/\i=h:=by
 unfold K6 at d
 refine Tr.forget (I3 (args:=[.int .i64 z]) (fn:=Tryz.f114) rfl ?_)
 refine ifB d (λaB d=>?_) λaB d=>?_
 ·obtain rfl:=oJ d
  exact aI rfl (Sub.refl _)
 ·obtain⟨L,az,d⟩:=B0 d
  refine eX { vars:=[4],boxes:=[],owns:=[0],fuel:=true } (eX (λvs os i=>∃ e g o,vs.tail = [.int .i64 e]/\os = [g]/\Sub h i/\I0 e/\F2 (Rp.u8.R i) g o/\U4 (J1 vs) e o=some L) (eX (λ_ _=>0) (aI (eX U0 ⟨z,[],([]:(List Int)),rfl,rfl,(Sub.refl _),aH,(show F2 (Rp.u8.R h) ([]:List (List Value)) ([]:(List Int)) from trivial),az⟩) ?_)))
  rintro _ g y l ⟨e,bM,o,⟨⟩,⟨⟩,F,bc,f,c⟩
  replace c:U4 y e o=some L:=c
  obtain _|y:=y
  ·cases c
  rw[U4.eq_2]at c
  refine ifB c (λaF c=>?_) λaF c=>?_
  ·obtain⟨bx,an,c⟩:=B0 c
   refine aI (N0 an) ?_
   refine ifB c (λaG c=>?_) λaG c=>?_
   ·obtain⟨bn,ai,c⟩:=B0 c
    refine aI (Y1 ai (by first|rw[F2.length f,F2.length (show F2 (Rp.u8.R l) ([[.int .u8 (IntKind.u8.wrap (IntKind.i64.wrap (48+(IntKind.i64.wrap (0-(Int.tmod e 10))))))]]:List (List Value)) [(IntKind.u8.wrap (IntKind.i64.wrap (48+(IntKind.i64.wrap (0-(Int.tmod e 10))))))] from⟨rfl,trivial⟩)]|exact congrArg (·+1) (F2.length f))) ?_
    obtain⟨bo,aj,c⟩:=B0 c
    refine aI (N0 aj) ?_
    exact O2 y ⟨(IntKind.i64.wrap (Int.tdiv e 10)),(g++([[.int .u8 (IntKind.u8.wrap (IntKind.i64.wrap (48+(IntKind.i64.wrap (0-(Int.tmod e 10))))))]]:List (List Value))),(o ++ [(IntKind.u8.wrap (IntKind.i64.wrap (48+(IntKind.i64.wrap (0-(Int.tmod e 10))))))]),rfl,rfl,F,(J0 _),(F2.append f (show F2 (Rp.u8.R l) ([[.int .u8 (IntKind.u8.wrap (IntKind.i64.wrap (48+(IntKind.i64.wrap (0-(Int.tmod e 10))))))]]:List (List Value)) [(IntKind.u8.wrap (IntKind.i64.wrap (48+(IntKind.i64.wrap (0-(Int.tmod e 10))))))] from⟨rfl,trivial⟩)),c⟩
   ·obtain⟨bp,ak,c⟩:=B0 c
    refine aI (Y1 ak (by first|rw[F2.length f,F2.length (show F2 (Rp.u8.R l) ([[.int .u8 (IntKind.u8.wrap (IntKind.i64.wrap (48+(Int.tmod e 10))))]]:List (List Value)) [(IntKind.u8.wrap (IntKind.i64.wrap (48+(Int.tmod e 10))))] from⟨rfl,trivial⟩)]|exact congrArg (·+1) (F2.length f))) ?_
    obtain⟨bq,al,c⟩:=B0 c
    refine aI (N0 al) ?_
    exact O2 y ⟨(IntKind.i64.wrap (Int.tdiv e 10)),(g++([[.int .u8 (IntKind.u8.wrap (IntKind.i64.wrap (48+(Int.tmod e 10))))]]:List (List Value))),(o ++ [(IntKind.u8.wrap (IntKind.i64.wrap (48+(Int.tmod e 10))))]),rfl,rfl,F,(J0 _),(F2.append f (show F2 (Rp.u8.R l) ([[.int .u8 (IntKind.u8.wrap (IntKind.i64.wrap (48+(Int.tmod e 10))))]]:List (List Value)) [(IntKind.u8.wrap (IntKind.i64.wrap (48+(Int.tmod e 10))))] from⟨rfl,trivial⟩)),c⟩
  ·obtain rfl:=oJ c
   try dsimp only[W0,Y0]at d
   refine ifB d (λaC d=>?_) λaC d=>?_
   ·obtain⟨br,am,d⟩:=B0 d
    refine aI (Y1 am (by first|rw[F2.length f,F2.length (show F2 (Rp.u8.R l) ([[.int .u8 45]]:List (List Value)) [45] from⟨rfl,trivial⟩)]|exact congrArg (·+1) (F2.length f))) ?_
    obtain⟨aJ,ag,d⟩:=B0 d
    obtain rfl:(g++([[.int .u8 45]]:List (List Value))).length=aJ:=(F2.length (F2.append f (show F2 (Rp.u8.R l) ([[.int .u8 45]]:List (List Value)) [45] from⟨rfl,trivial⟩))).trans (oJ ag)
    obtain⟨bs,a1,d⟩:=B0 d
    obtain⟨K,ay,d⟩:=B0 d
    refine eX { vars:=[6,7],boxes:=[],owns:=[0],fuel:=true,kept:=[0] } (eX (λvs os i=>∃ j m G w,vs.tail = [.int .i64 j,.int .i64 m]/\os = [G]/\Sub l i/\I0 j/\I0 m/\F2 (Rp.u8.R i) G w/\Z3 (J1 vs) j m w=some K) (eX (λ_ _=>0) (aI (eX U0 ⟨0,(IntKind.i64.wrap ((((g++([[.int .u8 45]]:List (List Value))).length:Nat):Int)-1)),(g++([[.int .u8 45]]:List (List Value))),(o ++ [45]),rfl,rfl,(Sub.refl _),(by decide),(J0 _),(F2.append f (show F2 (Rp.u8.R l) ([[.int .u8 45]]:List (List Value)) [45] from⟨rfl,trivial⟩)),ay⟩) ?_)))
    rintro _ _ G D I ⟨j,m,bL,w,⟨⟩,⟨⟩,N,ba,bb,t,c⟩
    replace c:Z3 D j m w=some K:=c
    obtain _|D:=D
    ·cases c
    rw[Z3.eq_2]at c
    refine ifB c (λaD c=>?_) λaD c=>?_
    ·refine Or.inr (Or.inr (Or.inl (aI (aI (by kernel_rfl) (by kernel_rfl)) ?_)))
     obtain⟨q,ao,c⟩:=B0 c
     obtain⟨P,aT,Y,aL⟩:=V1 t ao
     obtain rfl:=aL
     refine Or.inl ?_
     apply eX
     refine aI ?_ ?_
     ·intro bf bz
      exact aI P (aI rfl (aI rfl rfl))
     refine Or.inl (eX (.val (.int .u8 q)) (aI ?_ ?_))
     ·intro bg bA
      exact eX _ (aI Y (aI rfl (aI rfl rfl)))
     obtain⟨A,ap,c⟩:=B0 c
     obtain⟨Q,aU,Z,aM⟩:=V1 t ap
     obtain rfl:=aM
     refine Or.inl ?_
     apply eX
     refine aI ?_ ?_
     ·intro bh bB
      exact aI Q (aI rfl (aI rfl rfl))
     refine Or.inl (eX (.val (.int .u8 A)) (aI ?_ ?_))
     ·intro bi bC
      exact eX _ (aI Z (aI rfl (aI rfl rfl)))
     refine Or.inr ?_
     refine Or.inr ?_
     refine Or.inr ?_
     refine Or.inr ?_
     refine Or.inl (eX 0 (aI (aI rfl rfl) ?_))
     obtain⟨bH,aq,c⟩:=B0 c
     obtain⟨S,aV,aa,aN⟩:=V1 t aq
     refine aI S ?_
     obtain rfl:=aN
     refine aI trivial (aI (by first|exact trivial|exact rfl) ?_)
     refine eX _ (aI aa ?_)
     refine aI trivial (aI (by first|exact trivial|exact rfl) ?_)
     obtain⟨bI,ar,c⟩:=B0 c
     obtain⟨T,aW,ab,aO⟩:=V1 (F2.set (p:=Rp.u8.R I) (a:=[.int .u8 q]) (b:=q) rfl j.toNat t) ar
     refine aI T ?_
     obtain rfl:=aO
     refine aI trivial (aI (by first|exact trivial|exact rfl) ?_)
     refine eX _ (aI ab ?_)
     refine aI trivial (aI (by first|exact trivial|exact rfl) ?_)
     exact O2 D ⟨(IntKind.i64.wrap (j+1)),(IntKind.i64.wrap (m-1)),((G.set j.toNat [.int .u8 q]).set m.toNat [.int .u8 A]),((w.set j.toNat q).set m.toNat A),rfl,rfl,N,(J0 _),(J0 _),(F2.set (p:=Rp.u8.R I) (a:=[.int .u8 A]) (b:=A) rfl m.toNat (F2.set (p:=Rp.u8.R I) (a:=[.int .u8 q]) (b:=q) rfl j.toNat t)),c⟩
    ·obtain rfl:=oJ c
     try dsimp only[W0,Y0]at d
     refine eX w (aI (F2.u8 t) ?_)
     obtain⟨bt,a2,d⟩:=B0 d
     obtain rfl:=oJ d
     exact aI rfl (F.trans N)
   ·obtain⟨aK,ah,d⟩:=B0 d
    obtain rfl:g.length=aK:=(F2.length f).trans (oJ ah)
    obtain⟨bu,a3,d⟩:=B0 d
    obtain⟨M,aA,d⟩:=B0 d
    refine eX { vars:=[6,7],boxes:=[],owns:=[0],fuel:=true,kept:=[0] } (eX (λvs os i=>∃ k n H x,vs.tail = [.int .i64 k,.int .i64 n]/\os = [H]/\Sub l i/\I0 k/\I0 n/\F2 (Rp.u8.R i) H x/\Z3 (J1 vs) k n x=some M) (eX (λ_ _=>0) (aI (eX U0 ⟨0,(IntKind.i64.wrap (((g.length:Nat):Int)-1)),g,o,rfl,rfl,(Sub.refl _),(by decide),(J0 _),f,aA⟩) ?_)))
    rintro _ _ H E J ⟨k,n,bN,x,⟨⟩,⟨⟩,O,bd,be,u,c⟩
    replace c:Z3 E k n x=some M:=c
    obtain _|E:=E
    ·cases c
    rw[Z3.eq_2]at c
    refine ifB c (λaE c=>?_) λaE c=>?_
    ·refine Or.inr (Or.inr (Or.inl (aI (aI (by kernel_rfl) (by kernel_rfl)) ?_)))
     obtain⟨s,au,c⟩:=B0 c
     obtain⟨U,aX,ac,aP⟩:=V1 u au
     obtain rfl:=aP
     refine Or.inl ?_
     apply eX
     refine aI ?_ ?_
     ·intro bj bD
      exact aI U (aI rfl (aI rfl rfl))
     refine Or.inl (eX (.val (.int .u8 s)) (aI ?_ ?_))
     ·intro bk bE
      exact eX _ (aI ac (aI rfl (aI rfl rfl)))
     obtain⟨C,av,c⟩:=B0 c
     obtain⟨V,aY,ad,aQ⟩:=V1 u av
     obtain rfl:=aQ
     refine Or.inl ?_
     apply eX
     refine aI ?_ ?_
     ·intro bl bF
      exact aI V (aI rfl (aI rfl rfl))
     refine Or.inl (eX (.val (.int .u8 C)) (aI ?_ ?_))
     ·intro bm bG
      exact eX _ (aI ad (aI rfl (aI rfl rfl)))
     refine Or.inr ?_
     refine Or.inr ?_
     refine Or.inr ?_
     refine Or.inr ?_
     refine Or.inl (eX 0 (aI (aI rfl rfl) ?_))
     obtain⟨bJ,aw,c⟩:=B0 c
     obtain⟨W,aZ,ae,aR⟩:=V1 u aw
     refine aI W ?_
     obtain rfl:=aR
     refine aI trivial (aI (by first|exact trivial|exact rfl) ?_)
     refine eX _ (aI ae ?_)
     refine aI trivial (aI (by first|exact trivial|exact rfl) ?_)
     obtain⟨bK,ax,c⟩:=B0 c
     obtain⟨X,a0,af,aS⟩:=V1 (F2.set (p:=Rp.u8.R J) (a:=[.int .u8 s]) (b:=s) rfl k.toNat u) ax
     refine aI X ?_
     obtain rfl:=aS
     refine aI trivial (aI (by first|exact trivial|exact rfl) ?_)
     refine eX _ (aI af ?_)
     refine aI trivial (aI (by first|exact trivial|exact rfl) ?_)
     exact O2 E ⟨(IntKind.i64.wrap (k+1)),(IntKind.i64.wrap (n-1)),((H.set k.toNat [.int .u8 s]).set n.toNat [.int .u8 C]),((x.set k.toNat s).set n.toNat C),rfl,rfl,O,(J0 _),(J0 _),(F2.set (p:=Rp.u8.R J) (a:=[.int .u8 C]) (b:=C) rfl n.toNat (F2.set (p:=Rp.u8.R J) (a:=[.int .u8 s]) (b:=s) rfl k.toNat u)),c⟩
    ·obtain rfl:=oJ c
     try dsimp only[W0,Y0]at d
     refine eX x (aI (F2.u8 u) ?_)
     obtain⟨bv,a4,d⟩:=B0 d
     obtain rfl:=oJ d
     exact aI rfl (F.trans O)
theorem H0i(h:Hp)(i:Option Addr)(q j:Nat)(l:(List ByteArray))(m:(Wp.slice Wp.str).R h [.slice i q j] l)(c:ByteArray)(T:c.size<=9223372036854775807)(g:ByteArray)(U:g.size<=9223372036854775807)(r:ByteArray)(b:a03 l c g=some r):
  Tr Tryz.prog 222 #[.slice i q j,.string c,.string g] h λv k=>v = .string r/\k=h:=by
 obtain⟨rfl,Z⟩:=Sl.len m
 unfold a03 at b
 refine Tr.forget (I3 (args:=[.slice i l.length j,.string c,.string g]) (fn:=Tryz.f222) rfl ?_)
 refine ifB b (λC b=>?_) λC b=>?_
 ·obtain rfl:=oJ b
  exact aI rfl (Sub.refl _)
 ·refine ld b m λN Q J b=>?_
  obtain⟨rfl,F⟩:=J
  obtain⟨t,z,b⟩:=B0 b
  obtain⟨H,K,u,w⟩:=Sl.cutI (r:=Wp.str.toRp) m z
  refine aI H (eX K (aI u ?_))
  intro L E _
  obtain⟨O,S,rfl,s⟩:=w L E
  have aa:=(Sl.len s).2
  obtain⟨o,A,b⟩:=B0 b
  refine eX { vars:=[7,20],boxes:=[],owns:=[],fuel:=true } (eX (λvs os k=>∃ d e,vs.tail = [.string d,.int .i64 e]/\os = []/\Sub h k/\d.size<=9223372036854775807/\I0 e/\o9 t c (J1 vs) d e=some o) (eX (λ_ _=>0) (aI (eX U0 ⟨N,0,rfl,rfl,(Sub.refl _),F,(by decide),A⟩) ?_)))
  rintro _ _ f Y ⟨d,e,⟨⟩,⟨⟩,n,V,W,a⟩
  replace a:o9 t c f d e=some o:=a
  obtain _|f:=f
  ·cases a
  rw[o9.eq_2]at a
  refine ifB a (λD a=>?_) λD a=>?_
  ·refine ld a ((Wp.slice Wp.str).mono n s) λM P I a=>?_
   obtain⟨rfl,X⟩:=I
   obtain⟨ab,x,a⟩:=B0 a
   have G:=N0 x
   refine aI G ?_
   obtain⟨ac,y,a⟩:=B0 a
   have p:=N0 y
   refine aI p ?_
   exact O2 f ⟨((d++c)++M),(IntKind.i64.wrap (e+1)),rfl,rfl,n,(a0e p),(J0 _),a⟩
  ·obtain rfl:=oJ a
   try dsimp only[W0,Y0]at b
   obtain rfl:=oJ b
   exact aI rfl n
theorem Y0a(h:Hp)(n:Option Addr)(z o:Nat)(e:P0)(A:K1.R h [.slice n z o] e)(r:P0)(d:z00 e=some r):
  Tr Tryz.prog 189 #[.slice n z o] h λv k=>∃(t:Option Addr) (y u:Nat),v = .slice t y u/\New K1 h k [.slice t y u] r:=by
 obtain⟨rfl,L⟩:=Sl.len A
 unfold z00 at d
 refine I3 (args:=[.slice n e.length o]) (fn:=Tryz.f189) rfl ?_
 obtain⟨N,E,d⟩:=B0 d
 refine aI (N0 E) ?_
 obtain⟨s,G,d⟩:=B0 d
 refine eX { vars:=[4],boxes:=[],owns:=[0],fuel:=true } (eX (λvs os k=>∃ f m g,vs.tail = [.int .i64 f]/\os = [m]/\Sub h k/\I0 f/\F2 (Wp.int.R k) m g/\T6 e (J1 vs) f g=some s) (eX (λ_ _=>0) (aI (eX U0 ⟨(IntKind.i64.wrap (((e.length:Nat):Int)-1)),(List.replicate (0:Int).toNat ([.int .i64 0]:List Value)),(List.replicate (0:Int).toNat (0:Int)),rfl,rfl,(Sub.refl _),(J0 _),(F2.rep (p:=Wp.int.R h) (a:=[.int .i64 0]) (b:=0) ⟨rfl,(by decide)⟩ ((0:Int).toNat)),G⟩) ?_)))
 rintro _ m l x ⟨f,T,g,⟨⟩,⟨⟩,q,I,j,c⟩
 replace c:T6 e l f g=some s:=c
 obtain _|l:=l
 ·cases c
 rw[T6.eq_2]at c
 refine ifB c (λH c=>?_) λH c=>?_
 ·refine ldI c (K1.mono q A) λi J c=>?_
  obtain⟨O,F,c⟩:=B0 c
  refine aI (Y1 F (by first|rw[F2.length j,F2.length (show F2 (Wp.int.R x) ([[.int .i64 (IntKind.i64.wrap (0-i))]]:List (List Value)) [(IntKind.i64.wrap (0-i))] from⟨⟨rfl,(J0 _)⟩,trivial⟩)]|exact congrArg (·+1) (F2.length j))) ?_
  exact O2 l ⟨(IntKind.i64.wrap (f-1)),(m++([[.int .i64 (IntKind.i64.wrap (0-i))]]:List (List Value))),(g ++ [(IntKind.i64.wrap (0-i))]),rfl,rfl,q,(J0 _),(F2.append j (show F2 (Wp.int.R x) ([[.int .i64 (IntKind.i64.wrap (0-i))]]:List (List Value)) [(IntKind.i64.wrap (0-i))] from⟨⟨rfl,(J0 _)⟩,trivial⟩)),c⟩
 ·obtain rfl:=oJ c
  try dsimp only[W0,Y0]at d
  intro S K w
  obtain⟨C,D,rfl,P,Q,M⟩:=G1.out (r:=Wp.int.toRp) w j
  obtain rfl:=oJ d
  exact⟨C,g.length,D,rfl,(New.from (G1.newPlain (r:=Wp.int) w j (b0e _)) q)⟩
theorem Y07(h:Hp)(t:Option Addr)(J u:Nat)(n:D4)(K:k02.R h [.slice t J u] n)(r:P0)(l:i00 n=some r):
  Tr Tryz.prog 204 #[.slice t J u] h λv e=>∃(E:Option Addr) (I F:Nat),v = .slice E I F/\New K1 h e [.slice E I F] r:=by
 obtain⟨rfl,aq⟩:=Sl.len K
 unfold i00 at l
 refine I3 (args:=[.slice t n.length u]) (fn:=Tryz.f204) rfl ?_
 obtain⟨C,V,l⟩:=B0 l
 refine eX { vars:=[11],boxes:=[],owns:=[0],fuel:=true } (eX (λvs os e=>∃ i s j,vs.tail = [.int .i64 i]/\os = [s]/\Sub h e/\I0 i/\F2 (Wp.int.R e) s j/\U7 n (J1 vs) i j=some C) (eX (λ_ _=>0) (aI (eX U0 ⟨0,[],([]:P0),rfl,rfl,(Sub.refl _),(by decide),(show F2 (Wp.int.R h) ([]:List (List Value)) ([]:P0) from trivial),V⟩) ?_)))
 rintro _ s o ab ⟨i,aH,j,⟨⟩,⟨⟩,A,an,w,b⟩
 replace b:U7 n o i j=some C:=b
 obtain _|o:=o
 ·cases b
 rw[U7.eq_2]at b
 refine ifB b (λZ b=>?_) λZ b=>?_
 ·refine ld b (k02.mono A K) λL ai z b=>?_
  obtain⟨ag,av,aj,rfl⟩:=Wp.slice_cell z
  obtain⟨rfl,ar⟩:=Sl.len z
  obtain⟨D,W,b⟩:=B0 b
  refine eX { vars:=[17],boxes:=[],owns:=[0],fuel:=true } (eX (λvs os e=>∃ g c f,vs.tail = [.int .i64 g]/\os = [c]/\Sub ab e/\I0 g/\F2 (Wp.int.R e) c f/\I6 L (J1 vs) g f=some D) (eX (λ_ _=>0) (aI (eX U0 ⟨0,s,j,rfl,rfl,(Sub.refl _),(by decide),w,W⟩) ?_)))
  rintro _ c m y ⟨g,aG,f,⟨⟩,⟨⟩,p,ao,d,a⟩
  replace a:I6 L m g f=some D:=a
  obtain _|m:=m
  ·cases a
  rw[I6.eq_2]at a
  refine ifB a (λX a=>?_) λX a=>?_
  ·refine ldI a (K1.mono p z) λk x a=>?_
   obtain⟨ac,O,a⟩:=B0 a
   obtain rfl:c.length=ac:=(F2.length d).trans (oJ O)
   obtain⟨aw,ak,a⟩:=B0 a
   obtain⟨ad,P,a⟩:=B0 a
   obtain rfl:c.length=ad:=(F2.length d).trans (oJ P)
   obtain⟨ax,al,a⟩:=B0 a
   obtain⟨aE,U,a⟩:=B0 a
   obtain⟨ah,G,af⟩:=n02 d U (c0e y)
   refine aI (λq=>(G q).1) ?_
   obtain⟨rfl,aa⟩:=af
   refine eX _ (aI (λq=>(G q).2) ?_)
   refine trG a (λq=>X0a _ _ aa _ x) λaF a=>?_
   refine ifB a (λY a=>?_) λY a=>?_
   ·obtain⟨ae,Q,a⟩:=B0 a
    obtain rfl:c.length=ae:=(F2.length d).trans (oJ Q)
    obtain⟨ay,am,a⟩:=B0 a
    obtain⟨az,S,a⟩:=B0 a
    refine aI (by have:=N0 S;have:=F2.length d;omega) ?_
    exact O2 m ⟨(IntKind.i64.wrap (g+1)),(c.take (IntKind.i64.wrap (((c.length:Nat):Int)-1)).toNat),(f.take (IntKind.i64.wrap (((c.length:Nat):Int)-1)).toNat),rfl,rfl,p,(J0 _),(F2.take (IntKind.i64.wrap (((c.length:Nat):Int)-1)).toNat d),a⟩
   ·obtain⟨aA,T,a⟩:=B0 a
    refine aI (Y1 T (by first|rw[F2.length d,F2.length (show F2 (Wp.int.R y) ([[.int .i64 k]]:List (List Value)) [k] from⟨⟨rfl,x⟩,trivial⟩)]|exact congrArg (·+1) (F2.length d))) ?_
    exact O2 m ⟨(IntKind.i64.wrap (g+1)),(c++([[.int .i64 k]]:List (List Value))),(f ++ [k]),rfl,rfl,p,(J0 _),(F2.append d (show F2 (Wp.int.R y) ([[.int .i64 k]]:List (List Value)) [k] from⟨⟨rfl,x⟩,trivial⟩)),a⟩
  ·obtain rfl:=oJ a
   try dsimp only[W0,Y0]at b
   exact O2 o ⟨(IntKind.i64.wrap (i+1)),c,f,rfl,rfl,(A.trans p),(J0 _),d,b⟩
 ·obtain rfl:=oJ b
  try dsimp only[W0,Y0]at l
  intro aD ap H
  obtain⟨M,N,rfl,aB,aC,au⟩:=G1.out (r:=Wp.int.toRp) H w
  obtain rfl:=oJ l
  exact⟨M,j.length,N,rfl,(New.from (G1.newPlain (r:=Wp.int) H w (b0e _)) A)⟩
theorem Z0f(h:Hp)(c:List Value)(e:j0)(w:V0.R h c e)(d:List Value)(f:M0)(y:H1.R h d f)(r:Bool)(a:p02 e f=some r):
  Tr Tryz.prog 339 #[.agg c.toArray,.agg d.toArray] h λv j=>v = .bool r/\j=h:=by
 obtain⟨o,b,g,C,i,p,rfl,rfl,k,z,x⟩:=H0 w
 obtain⟨rfl,A⟩:=Sl.len x
 obtain⟨s,t,u,rfl,rfl,l,m,n⟩:=Q1 y
 unfold p02 at a
 dsimp only at a
 refine Tr.forget (I3 (args:=[.agg #[.int .i64 o,.int .i64 b,.slice g p.length i],.agg #[.int .i64 s,.int .i64 t,.int .i64 u]]) (fn:=Tryz.f339) rfl ?_)
 refine trV a (p9 _ _ l 0 (by decide) (IntKind.i64.wrap (b-1)) (J0 _)) λD a=>?_
 refine trG a (λq=>p9 _ _ n 0 (by decide) (IntKind.i64.wrap (b-1)) (J0 _)) λE a=>?_
 refine trG a (λq=>p9 _ _ m 1 (by decide) _ k) λF a=>?_
 obtain rfl:=oJ a
 exact aI rfl (Sub.refl _)
theorem W03(h:Hp)(o:List Value)(y:M0)(S:H1.R h o y)(p:List Value)(z:M0)(T:H1.R h p z)(r:Int)(b:A8 y z=some r):
  Tr Tryz.prog 314 #[.agg o.toArray,.agg p.toArray] h λv m=>v = .int .i64 r/\m=h:=by
 obtain⟨d,e,f,rfl,rfl,q,s,t⟩:=Q1 S
 obtain⟨g,i,j,rfl,rfl,u,w,x⟩:=Q1 T
 unfold A8 at b
 dsimp only at b
 refine Tr.forget (I3 (args:=[.agg #[.int .i64 d,.int .i64 e,.int .i64 f],.agg #[.int .i64 g,.int .i64 i,.int .i64 j]]) (fn:=Tryz.f314) rfl ?_)
 obtain⟨n,N,b⟩:=B0 b
 refine eX { vars:=[7],boxes:=[],owns:=[],fuel:=true } (eX (λvs os m=>∃ k,vs.tail = [.int .i64 k]/\os = []/\Sub h m/\I0 k/\l7 d e f g i j (J1 vs) k=some n) (eX (λ_ _=>0) (aI (eX U0 ⟨0,rfl,rfl,(Sub.refl _),(by decide),N⟩) ?_)))
 rintro _ l ah ⟨k,⟨⟩,⟨⟩,c,ac,a⟩
 replace a:l7 d e f g i j l k=some n:=a
 obtain _|l:=l
 ·cases a
 rw[l7.eq_2]at a
 refine ifB a (λP a=>?_) λP a=>?_
 ·refine Or.inl (aI (aI (by kernel_rfl) (by kernel_rfl)) ?_)
  obtain⟨aj,K,a⟩:=B0 a
  obtain⟨C,Z,G,V⟩:=V1 (F2.up (r:=Wp.int.toRp) c (show F2 (Wp.int.R h) ([[.int .i64 d],[.int .i64 e],[.int .i64 f]]:List (List Value)) [d,e,f] from⟨⟨rfl,q⟩,⟨⟨rfl,s⟩,⟨⟨rfl,t⟩,trivial⟩⟩⟩)) K
  refine aI C ?_
  obtain⟨rfl,ae⟩:=V
  refine eX _ (aI G ?_)
  obtain⟨ak,L,a⟩:=B0 a
  obtain⟨D,aa,H,W⟩:=V1 (F2.up (r:=Wp.int.toRp) c (show F2 (Wp.int.R h) ([[.int .i64 g],[.int .i64 i],[.int .i64 j]]:List (List Value)) [g,i,j] from⟨⟨rfl,u⟩,⟨⟨rfl,w⟩,⟨⟨rfl,x⟩,trivial⟩⟩⟩)) L
  refine aI D ?_
  obtain⟨rfl,af⟩:=W
  refine eX _ (aI H ?_)
  refine ifB a (λQ a=>?_) λQ a=>?_
  ·obtain rfl:=oJ a
   try dsimp only[l4,C4]at b
   obtain rfl:=oJ b
   exact aI rfl c
  ·refine Or.inl (aI (aI (by kernel_rfl) (by kernel_rfl)) ?_)
   obtain⟨al,M,a⟩:=B0 a
   obtain⟨E,ab,I,X⟩:=V1 (F2.up (r:=Wp.int.toRp) c (show F2 (Wp.int.R h) ([[.int .i64 d],[.int .i64 e],[.int .i64 f]]:List (List Value)) [d,e,f] from⟨⟨rfl,q⟩,⟨⟨rfl,s⟩,⟨⟨rfl,t⟩,trivial⟩⟩⟩)) M
   refine aI E ?_
   obtain⟨rfl,ag⟩:=X
   refine eX _ (aI I ?_)
   obtain⟨ai,J,a⟩:=B0 a
   obtain⟨A,Y,F,U⟩:=V1 (F2.up (r:=Wp.int.toRp) c (show F2 (Wp.int.R h) ([[.int .i64 g],[.int .i64 i],[.int .i64 j]]:List (List Value)) [g,i,j] from⟨⟨rfl,u⟩,⟨⟨rfl,w⟩,⟨⟨rfl,x⟩,trivial⟩⟩⟩)) J
   refine aI A ?_
   obtain⟨rfl,ad⟩:=U
   refine eX _ (aI F ?_)
   refine ifB a (λO a=>?_) λO a=>?_
   ·obtain rfl:=oJ a
    try dsimp only[l4,C4]at b
    obtain rfl:=oJ b
    exact aI rfl c
   ·exact O2 l ⟨(IntKind.i64.wrap (k+1)),rfl,rfl,c,(J0 _),a⟩
 ·obtain rfl:=oJ a
  try dsimp only[W0,Y0]at b
  obtain rfl:=oJ b
  exact aI rfl c
theorem r9(h:Hp)(m:List Value)(u:j0)(P:V0.R h m u)(r:Bool)(b:O5 u=some r):
  Tr Tryz.prog 312 #[.agg m.toArray] h λv g=>v = .bool r/\g=h:=by
 obtain⟨i,j,w,ac,x,k,rfl,rfl,p,s,e⟩:=H0 P
 obtain⟨rfl,ab⟩:=Sl.len e
 unfold O5 at b
 dsimp only at b
 refine Tr.forget (I3 (args:=[.agg #[.int .i64 i,.int .i64 j,.slice w k.length x]]) (fn:=Tryz.f312) rfl ?_)
 obtain⟨l,D,b⟩:=B0 b
 refine eX { vars:=[3],boxes:=[],owns:=[],fuel:=true } (eX (λvs os g=>∃ d,vs.tail = [.int .i64 d]/\os = []/\Sub h g/\I0 d/\L7 k i j (J1 vs) d=some l) (eX (λ_ _=>0) (aI (eX U0 ⟨0,rfl,rfl,(Sub.refl _),(by decide),D⟩) ?_)))
 rintro _ f t ⟨d,⟨⟩,⟨⟩,c,Z,a⟩
 replace a:L7 k i j f d=some l:=a
 obtain _|f:=f
 ·cases a
 rw[L7.eq_2]at a
 refine ifB a (λF a=>?_) λF a=>?_
 ·refine Or.inl (aI (aI (by kernel_rfl) (by kernel_rfl)) ?_)
  refine ld a (S0.mono c e) λag W Q a=>?_
  obtain⟨ah,ai,aj,rfl,rfl,G,H,I⟩:=Q1 Q
  try dsimp only at a
  obtain⟨V,z,a⟩:=B0 a
  refine eX (.bool V) (aI (Z0f _ _ _ (l0 p s (S0.mono c e)) _ _ (T1 G H I) _  z) ?_)
  obtain⟨ak,A,a⟩:=B0 a
  obtain⟨X,n,S⟩:=Sl.getG (r:=H1.toRp) (S0.mono c e) A (by decide) (D0l t)
  refine aI (λq=>(n q).1) ?_
  obtain⟨al,am,an,rfl,rfl,J,K,L⟩:=Q1 S
  try dsimp only at a
  refine eX _ (aI (λq=>(n q).2) ?_)
  obtain⟨ao,C,a⟩:=B0 a
  obtain⟨Y,o,T⟩:=Sl.getG (r:=H1.toRp) (S0.mono c e) C (by decide) (D0l t)
  refine aI (λq=>(o q).1) ?_
  obtain⟨ap,aq,ar,rfl,rfl,M,N,O⟩:=Q1 T
  try dsimp only at a
  refine eX _ (aI (λq=>(o q).2) ?_)
  refine trG a (λq=>W03 _ _ _ (T1 J K L) _ _ (T1 M N O)) λU a=>?_
  obtain⟨ad,y,a⟩:=B0 a
  have aa:I0 U:=N0 y
  refine ifB a (λE a=>?_) λE a=>?_
  ·obtain rfl:=oJ a
   try dsimp only[l4,C4]at b
   obtain rfl:=oJ b
   exact aI rfl c
  ·exact O2 f ⟨(IntKind.i64.wrap (d+1)),rfl,rfl,c,(J0 _),a⟩
 ·obtain rfl:=oJ a
  try dsimp only[W0,Y0]at b
  refine trV b (p9 _ _ p 1 (by decide) 3 (by decide)) λae b=>?_
  refine trG b (λq=>p9 _ _ s 1 (by decide) 40 (by decide)) λaf b=>?_
  obtain rfl:=oJ b
  exact aI rfl c
theorem Z00(h:Hp)(c:List Value)(d:j0)(m:V0.R h c d)(b:Int)(j:I0 b)(r:Bool)(a:T3 d b=some r):
  Tr Tryz.prog 290 #[.agg c.toArray,.int .i64 b] h λv i=>v = .bool r/\i=h:=by
 obtain⟨k,e,f,s,g,l,rfl,rfl,o,p,n⟩:=H0 m
 obtain⟨rfl,q⟩:=Sl.len n
 unfold T3 at a
 dsimp only at a
 refine Tr.forget (I3 (args:=[.agg #[.int .i64 k,.int .i64 e,.slice f l.length g],.int .i64 b]) (fn:=Tryz.f290) rfl ?_)
 refine trV a (x03 _ _ j 0 (by decide) (IntKind.i64.wrap (e-1)) (J0 _)) λt a=>?_
 obtain rfl:=oJ a
 exact aI rfl (Sub.refl _)
theorem Z07(h:Hp)(d:List Value)(g:j0)(y:V0.R h d g)(e:List Value)(i:M0)(z:H1.R h e i)(r:Bool)(a:c9 g i=some r):
  Tr Tryz.prog 337 #[.agg d.toArray,.agg e.toArray] h λv l=>v = .bool r/\l=h:=by
 obtain⟨p,s,j,C,k,t,rfl,rfl,b,f,c⟩:=H0 y
 obtain⟨rfl,A⟩:=Sl.len c
 obtain⟨u,w,x,rfl,rfl,m,n,o⟩:=Q1 z
 unfold c9 at a
 dsimp only at a
 refine Tr.forget (I3 (args:=[.agg #[.int .i64 p,.int .i64 s,.slice j t.length k],.agg #[.int .i64 u,.int .i64 w,.int .i64 x]]) (fn:=Tryz.f337) rfl ?_)
 refine trV a (Z00 _ _ _ (l0 b f c) _ m) λD a=>?_
 refine trG a (λq=>Z00 _ _ _ (l0 b f c) _ o) λE a=>?_
 refine trG a (λq=>x03 _ _ n 1 (by decide) _ b) λF a=>?_
 obtain rfl:=oJ a
 exact aI rfl (Sub.refl _)
theorem X03(h:Hp)(b:List Value)(d:M0)(A:H1.R h b d)(c:List Value)(e:M0)(C:H1.R h c e)(r:Int)(a:E9 d e=some r):
  Tr Tryz.prog 316 #[.agg b.toArray,.agg c.toArray] h λv j=>v = .int .i64 r/\j=h:=by
 obtain⟨t,u,w,rfl,rfl,m,n,o⟩:=Q1 A
 obtain⟨x,y,z,rfl,rfl,p,q,s⟩:=Q1 C
 unfold E9 at a
 dsimp only at a
 refine Tr.forget (I3 (args:=[.agg #[.int .i64 t,.int .i64 u,.int .i64 w],.agg #[.int .i64 x,.int .i64 y,.int .i64 z]]) (fn:=Tryz.f316) rfl ?_)
 refine trV a (A02 _ _ m _ p) λD a=>?_
 obtain⟨J,f,a⟩:=B0 a
 have G:I0 D:=N0 f
 refine ifB a (λk a=>?_) λk a=>?_
 ·obtain rfl:=oJ a
  exact aI rfl (Sub.refl _)
 ·refine trV a (A02 _ _ n _ q) λE a=>?_
  obtain⟨K,g,a⟩:=B0 a
  have H:I0 E:=N0 g
  refine ifB a (λl a=>?_) λl a=>?_
  ·obtain rfl:=oJ a
   exact aI rfl (Sub.refl _)
  ·refine trV a (A02 _ _ o _ s) λF a=>?_
   obtain⟨L,i,a⟩:=B0 a
   have I:I0 F:=N0 i
   obtain rfl:=oJ a
   exact aI rfl (Sub.refl _)
theorem c03(h:Hp)(m:List Value)(w:j0)(L:V0.R h m w)(r:Bool)(b:d9 w=some r):
  Tr Tryz.prog 300 #[.agg m.toArray] h λv g=>v = .bool r/\g=h:=by
 obtain⟨i,j,x,W,y,k,rfl,rfl,o,p,f⟩:=H0 L
 obtain⟨rfl,V⟩:=Sl.len f
 unfold d9 at b
 dsimp only at b
 refine Tr.forget (I3 (args:=[.agg #[.int .i64 i,.int .i64 j,.slice x k.length y]]) (fn:=Tryz.f300) rfl ?_)
 refine trV b (x03 _ _ o 1 (by decide) 3 (by decide)) λY b=>?_
 refine trG b (λq=>x03 _ _ p 1 (by decide) 40 (by decide)) λad b=>?_
 refine ifB b (λF b=>?_) λF b=>?_
 ·obtain rfl:=oJ b
  exact aI rfl (Sub.refl _)
 ·obtain⟨l,D,b⟩:=B0 b
  refine eX { vars:=[24],boxes:=[],owns:=[],fuel:=true } (eX (λvs os g=>∃ d,vs.tail = [.int .i64 d]/\os = []/\Sub h g/\I0 d/\M7 k i j (J1 vs) d=some l) (eX (λ_ _=>0) (aI (eX U0 ⟨0,rfl,rfl,(Sub.refl _),(by decide),D⟩) ?_)))
  rintro _ e K ⟨d,⟨⟩,⟨⟩,c,T,a⟩
  replace a:M7 k i j e d=some l:=a
  obtain _|e:=e
  ·cases a
  rw[M7.eq_2]at a
  refine ifB a (λG a=>?_) λG a=>?_
  ·refine ld a (S0.mono c f) λae S N a=>?_
   obtain⟨af,ag,ah,rfl,rfl,s,t,u⟩:=Q1 N
   try dsimp only at a
   refine Or.inl (aI (aI (by kernel_rfl) (by kernel_rfl)) ?_)
   obtain⟨O,A,a⟩:=B0 a
   refine eX (.bool O) (aI (Z07 _ _ _ (l0 o p (S0.mono c f)) _ _ (T1 s t u) _  A) ?_)
   obtain⟨Z,C,a⟩:=B0 a
   obtain⟨Q,n,M⟩:=Sl.getG (r:=H1.toRp) (S0.mono c f) C (by decide) (D0l K)
   refine aI (λq=>(n q).1) ?_
   obtain⟨aa,ab,ac,rfl,rfl,H,I,J⟩:=Q1 M
   try dsimp only at a
   refine eX _ (aI (λq=>(n q).2) ?_)
   refine trG a (λq=>X03 _ _ _ (T1 H I J) _ _ (T1 s t u)) λP a=>?_
   obtain⟨X,z,a⟩:=B0 a
   have U:I0 P:=N0 z
   refine ifB a (λE a=>?_) λE a=>?_
   ·obtain rfl:=oJ a
    try dsimp only[l4,C4]at b
    obtain rfl:=oJ b
    exact aI rfl c
   ·exact O2 e ⟨(IntKind.i64.wrap (d+1)),rfl,rfl,c,(J0 _),a⟩
  ·obtain rfl:=oJ a
   try dsimp only[W0,Y0]at b
   obtain rfl:=oJ b
   exact aI rfl c
theorem f02(h:Hp)(w:Option Addr)(H x:Nat)(t:P0)(k:K1.R h [.slice w H x] t)(b:Int)(g:I0 b)(r:P0)(f:V8 t b=some r):
  Tr Tryz.prog 336 #[.slice w H x,.int .i64 b] h λv s=>∃(z:Option Addr) (G A:Nat),v = .slice z G A/\K1.R s [.slice z G A] r/\Sub h s:=by
 obtain⟨rfl,am⟩:=Sl.len k
 unfold V8 at f
 refine I3 (args:=[.slice w t.length x,.int .i64 b]) (fn:=Tryz.f336) rfl ?_
 obtain⟨y,W,f⟩:=B0 f
 refine eX { vars:=[6,7],boxes:=[],owns:=[0],fuel:=true } (eX (λvs os s=>∃ u j m i,vs.tail = [.bool u,.int .i64 j]/\os = [m]/\Sub h s/\I0 j/\F2 (Wp.int.R s) m i/\M4 t b (J1 vs) u j i=some y) (eX (λ_ _=>0) (aI (eX U0 ⟨false,0,[],([]:P0),rfl,rfl,(Sub.refl _),(by decide),(show F2 (Wp.int.R h) ([]:List (List Value)) ([]:P0) from trivial),W⟩) ?_)))
 rintro _ _ m l d ⟨u,j,aD,i,⟨⟩,⟨⟩,e,ag,c,a⟩
 replace a:M4 t b l u j i=some y:=a
 obtain _|l:=l
 ·cases a
 rw[M4.eq_2]at a
 refine ifB a (λaa a=>?_) λaa a=>?_
 ·refine ldI a (K1.mono e k) λaC aj a=>?_
  refine ifB a (λab a=>?_) λab a=>?_
  ·refine ldI a (K1.mono e k) λaA ah a=>?_
   refine ifB a (λX a=>?_) λX a=>?_
   ·obtain⟨ap,O,a⟩:=B0 a
    refine aI (Y1 O (by first|rw[F2.length c,F2.length (show F2 (Wp.int.R d) ([[.int .i64 b]]:List (List Value)) [b] from⟨⟨rfl,g⟩,trivial⟩)]|exact congrArg (·+1) (F2.length c))) ?_
    refine ldI a (K1.mono e k) λn C a=>?_
    obtain⟨aq,P,a⟩:=B0 a
    refine aI (Y1 P (by first|rw[F2.length (F2.append c (show F2 (Wp.int.R d) ([[.int .i64 b]]:List (List Value)) [b] from⟨⟨rfl,g⟩,trivial⟩)),F2.length (show F2 (Wp.int.R d) ([[.int .i64 n]]:List (List Value)) [n] from⟨⟨rfl,C⟩,trivial⟩)]|exact congrArg (·+1) (F2.length (F2.append c (show F2 (Wp.int.R d) ([[.int .i64 b]]:List (List Value)) [b] from⟨⟨rfl,g⟩,trivial⟩))))) ?_
    exact O2 l ⟨true,(IntKind.i64.wrap (j+1)),((m++([[.int .i64 b]]:List (List Value)))++([[.int .i64 n]]:List (List Value))),((i ++ [b]) ++ [n]),rfl,rfl,e,(J0 _),(F2.append (F2.append c (show F2 (Wp.int.R d) ([[.int .i64 b]]:List (List Value)) [b] from⟨⟨rfl,g⟩,trivial⟩)) (show F2 (Wp.int.R d) ([[.int .i64 n]]:List (List Value)) [n] from⟨⟨rfl,C⟩,trivial⟩)),a⟩
   ·refine ldI a (K1.mono e k) λo D a=>?_
    obtain⟨ar,Q,a⟩:=B0 a
    refine aI (Y1 Q (by first|rw[F2.length c,F2.length (show F2 (Wp.int.R d) ([[.int .i64 o]]:List (List Value)) [o] from⟨⟨rfl,D⟩,trivial⟩)]|exact congrArg (·+1) (F2.length c))) ?_
    exact O2 l ⟨true,(IntKind.i64.wrap (j+1)),(m++([[.int .i64 o]]:List (List Value))),(i ++ [o]),rfl,rfl,e,(J0 _),(F2.append c (show F2 (Wp.int.R d) ([[.int .i64 o]]:List (List Value)) [o] from⟨⟨rfl,D⟩,trivial⟩)),a⟩
  ·refine ldI a (K1.mono e k) λaB ai a=>?_
   refine ifB a (λY a=>?_) λY a=>?_
   ·obtain⟨au,S,a⟩:=B0 a
    refine aI (Y1 S (by first|rw[F2.length c,F2.length (show F2 (Wp.int.R d) ([[.int .i64 b]]:List (List Value)) [b] from⟨⟨rfl,g⟩,trivial⟩)]|exact congrArg (·+1) (F2.length c))) ?_
    refine ldI a (K1.mono e k) λp E a=>?_
    obtain⟨av,T,a⟩:=B0 a
    refine aI (Y1 T (by first|rw[F2.length (F2.append c (show F2 (Wp.int.R d) ([[.int .i64 b]]:List (List Value)) [b] from⟨⟨rfl,g⟩,trivial⟩)),F2.length (show F2 (Wp.int.R d) ([[.int .i64 p]]:List (List Value)) [p] from⟨⟨rfl,E⟩,trivial⟩)]|exact congrArg (·+1) (F2.length (F2.append c (show F2 (Wp.int.R d) ([[.int .i64 b]]:List (List Value)) [b] from⟨⟨rfl,g⟩,trivial⟩))))) ?_
    exact O2 l ⟨true,(IntKind.i64.wrap (j+1)),((m++([[.int .i64 b]]:List (List Value)))++([[.int .i64 p]]:List (List Value))),((i ++ [b]) ++ [p]),rfl,rfl,e,(J0 _),(F2.append (F2.append c (show F2 (Wp.int.R d) ([[.int .i64 b]]:List (List Value)) [b] from⟨⟨rfl,g⟩,trivial⟩)) (show F2 (Wp.int.R d) ([[.int .i64 p]]:List (List Value)) [p] from⟨⟨rfl,E⟩,trivial⟩)),a⟩
   ·refine ldI a (K1.mono e k) λq F a=>?_
    obtain⟨aw,U,a⟩:=B0 a
    refine aI (Y1 U (by first|rw[F2.length c,F2.length (show F2 (Wp.int.R d) ([[.int .i64 q]]:List (List Value)) [q] from⟨⟨rfl,F⟩,trivial⟩)]|exact congrArg (·+1) (F2.length c))) ?_
    exact O2 l ⟨u,(IntKind.i64.wrap (j+1)),(m++([[.int .i64 q]]:List (List Value))),(i ++ [q]),rfl,rfl,e,(J0 _),(F2.append c (show F2 (Wp.int.R d) ([[.int .i64 q]]:List (List Value)) [q] from⟨⟨rfl,F⟩,trivial⟩)),a⟩
 ·obtain rfl:=oJ a
  try dsimp only[W0,Y0]at f
  refine ifB f (λZ f=>?_) λZ f=>?_
  ·obtain⟨ax,V,f⟩:=B0 f
   refine aI (Y1 V (by first|rw[F2.length c,F2.length (show F2 (Wp.int.R d) ([[.int .i64 b]]:List (List Value)) [b] from⟨⟨rfl,g⟩,trivial⟩)]|exact congrArg (·+1) (F2.length c))) ?_
   intro ay ak M
   obtain⟨I,K,rfl,ac,ae,an⟩:=G1.out (r:=Wp.int.toRp) M (F2.append c (show F2 (Wp.int.R d) ([[.int .i64 b]]:List (List Value)) [b] from⟨⟨rfl,g⟩,trivial⟩))
   obtain rfl:=oJ f
   exact⟨I,((i ++ [b])).length,K,rfl,ac,(e.trans ae)⟩
  ·intro az al N
   obtain⟨J,L,rfl,ad,af,ao⟩:=G1.out (r:=Wp.int.toRp) N c
   obtain rfl:=oJ f
   exact⟨J,i.length,L,rfl,ad,(e.trans af)⟩
theorem i01(h:Hp)(i:Option Addr)(m j:Nat)(e:P0)(n:K1.R h [.slice i m j] e)(c:Int)(s:I0 c)(r:Bool)(b:j8 e c=some r):
  Tr Tryz.prog 246 #[.slice i m j,.int .i64 c] h λv k=>v = .bool r/\k=h:=by
 obtain⟨rfl,x⟩:=Sl.len n
 unfold j8 at b
 refine Tr.forget (I3 (args:=[.slice i e.length j,.int .i64 c]) (fn:=Tryz.f246) rfl ?_)
 obtain⟨l,o,b⟩:=B0 b
 refine eX { vars:=[5],boxes:=[],owns:=[],fuel:=true } (eX (λvs os k=>∃ d,vs.tail = [.int .i64 d]/\os = []/\Sub h k/\I0 d/\g9 e c (J1 vs) d=some l) (eX (λ_ _=>0) (aI (eX U0 ⟨0,rfl,rfl,(Sub.refl _),(by decide),o⟩) ?_)))
 rintro _ f w ⟨d,⟨⟩,⟨⟩,g,t,a⟩
 replace a:g9 e c f d=some l:=a
 obtain _|f:=f
 ·cases a
 rw[g9.eq_2]at a
 refine ifB a (λp a=>?_) λp a=>?_
 ·refine ldI a (K1.mono g n) λy u a=>?_
  refine ifB a (λq a=>?_) λq a=>?_
  ·obtain rfl:=oJ a
   try dsimp only[l4,C4]at b
   obtain rfl:=oJ b
   exact aI rfl g
  ·exact O2 f ⟨(IntKind.i64.wrap (d+1)),rfl,rfl,g,(J0 _),a⟩
 ·obtain rfl:=oJ a
  try dsimp only[W0,Y0]at b
  obtain rfl:=oJ b
  exact aI rfl g
theorem k0c(h:Hp)(u:List Value)(y:j0)(aa:V0.R h u y)(f:Int)(aj:I0 f)(g:Int)(ak:I0 g)(r:P0)(e:R00 y f g=some r):
  Tr Tryz.prog 297 #[.agg u.toArray,.int .i64 f,.int .i64 g] h λv l=>∃(s:Option Addr) (x t:Nat),v = .slice s x t/\K1.R l [.slice s x t] r/\Sub h l:=by
 obtain⟨Y,Z,H,aA,M,o,rfl,rfl,ah,ai,z⟩:=H0 aa
 obtain⟨rfl,au⟩:=Sl.len z
 unfold R00 at e
 dsimp only at e
 refine I3 (args:=[.agg #[.int .i64 Y,.int .i64 Z,.slice H o.length M],.int .i64 f,.int .i64 g]) (fn:=Tryz.f297) rfl ?_
 obtain⟨q,S,e⟩:=B0 e
 refine eX { vars:=[7,8],boxes:=[],owns:=[],fuel:=true,pubs:=[7,10] } (eX (λvs os l=>∃(j:Option Addr) (n k:Nat) (d:P0) (b:Int),vs.tail = [.slice j n k,.int .i64 b]/\os = []/\Sub h l/\K1.R l [.slice j n k] d/\I0 b/\E4 o g f (J1 vs) d b=some q) (eX (λ_ _=>0) ?_))
 intro aE ap f3
 obtain⟨L,Q,rfl,ac,af,az⟩:=G1.out (r:=Wp.int.toRp) f3 (show F2 (Wp.int.R h) ([]:List (List Value)) ([]:P0) from trivial)
 refine aI (eX U0 ⟨L,(([]:P0)).length,Q,([]:P0),0,rfl,rfl,af,ac,(by decide),S⟩) ?_
 rintro _ _ c ar ⟨j,n,k,d,b,⟨⟩,⟨⟩,i,m,al,a⟩
 replace a:E4 o g f c d b=some q:=a
 obtain _|c:=c
 ·cases a
 rw[E4.eq_2]at a
 obtain⟨rfl,av⟩:=Sl.len m
 refine ifB a (λT a=>?_) λT a=>?_
 ·refine ld a (S0.mono i z) λaJ ag ab a=>?_
  obtain⟨aK,aL,aM,rfl,rfl,w,am,X⟩:=Q1 ab
  try dsimp only at a
  refine ifB a (λU a=>?_) λU a=>?_
  ·refine trM a (f02 _ _ _ _ _ m _ X) ?_
   rintro E a aF an ⟨I,aB,N,rfl,p,D⟩
   obtain⟨rfl,aw⟩:=Sl.len p
   refine ifB a (λV a=>?_) λV a=>?_
   ·refine trM a (f02 _ _ _ _ _ p _ w) ?_
    rintro F a aG ao ⟨J,aC,O,rfl,A,ad⟩
    obtain⟨rfl,ax⟩:=Sl.len A
    exact O2 c ⟨J,F.length,O,F,(IntKind.i64.wrap (b+1)),rfl,rfl,((i.trans D).trans ad),A,(J0 _),a⟩
   ·exact O2 c ⟨I,E.length,N,E,(IntKind.i64.wrap (b+1)),rfl,rfl,(i.trans D),p,(J0 _),a⟩
  ·refine ifB a (λW a=>?_) λW a=>?_
   ·refine trM a (f02 _ _ _ _ _ m _ w) ?_
    rintro G a aH aq ⟨K,aD,P,rfl,C,ae⟩
    obtain⟨rfl,ay⟩:=Sl.len C
    exact O2 c ⟨K,G.length,P,G,(IntKind.i64.wrap (b+1)),rfl,rfl,(i.trans ae),C,(J0 _),a⟩
   ·exact O2 c ⟨j,d.length,k,d,(IntKind.i64.wrap (b+1)),rfl,rfl,i,m,(J0 _),a⟩
 ·obtain rfl:=oJ a
  try dsimp only[W0,Y0]at e
  obtain rfl:=oJ e
  exact⟨j,d.length,k,rfl,m,i⟩
theorem Y3(h:Hp)(d:List Value)(e:j0)(w:V0.R h d e)(b:Int)(p:I0 b)(c:Int)(q:I0 c)(r:Int)(a:P2 e b c=some r):
  Tr Tryz.prog 214 #[.agg d.toArray,.int .i64 b,.int .i64 c] h λv l=>v = .int .i64 r/\l=h:=by
 obtain⟨s,t,j,E,k,u,rfl,rfl,n,o,f⟩:=H0 w
 obtain⟨rfl,C⟩:=Sl.len f
 unfold P2 at a
 dsimp only at a
 refine Tr.forget (I3 (args:=[.agg #[.int .i64 s,.int .i64 t,.slice j u.length k],.int .i64 b,.int .i64 c]) (fn:=Tryz.f214) rfl ?_)
 refine trM a (k0c _ _ _ (l0 n o f) _ p _ q) ?_
 rintro H a G A ⟨x,F,y,rfl,g,i⟩
 obtain⟨rfl,D⟩:=Sl.len g
 refine ifB a (λm a=>?_) λm a=>?_
 ·obtain rfl:=oJ a
  exact aI rfl i
 ·refine ldI a g λI z a=>?_
  obtain rfl:=oJ a
  exact aI rfl i
theorem w00(h:Hp)(s:List Value)(w:j0)(G:V0.R h s w)(r:Bool)(c:E6 w=some r):
  Tr Tryz.prog 293 #[.agg s.toArray] h λv f=>v = .bool r/\f=h:=by
 obtain⟨m,n,x,W,y,g,rfl,rfl,t,u,i⟩:=H0 G
 obtain⟨rfl,V⟩:=Sl.len i
 unfold E6 at c
 dsimp only at c
 refine Tr.forget (I3 (args:=[.agg #[.int .i64 m,.int .i64 n,.slice x g.length y]]) (fn:=Tryz.f293) rfl ?_)
 obtain⟨o,z,c⟩:=B0 c
 refine eX { vars:=[3],boxes:=[],owns:=[],fuel:=true } (eX (λvs os f=>∃ d,vs.tail = [.int .i64 d]/\os = []/\Sub h f/\I0 d/\A5 g m n (J1 vs) d=some o) (eX (λ_ _=>0) (aI (eX U0 ⟨0,rfl,rfl,(Sub.refl _),(by decide),z⟩) ?_)))
 rintro _ l F ⟨d,⟨⟩,⟨⟩,e,L,b⟩
 replace b:A5 g m n l d=some o:=b
 obtain _|l:=l
 ·cases b
 rw[A5.eq_2]at b
 refine trG b (λq=>r9 _ _ _ (l0 t u (S0.mono e i))) λag b=>?_
 refine ifB b (λE b=>?_) λE b=>?_
 ·obtain⟨p,A,b⟩:=B0 b
  refine eX { vars:=[4],boxes:=[],owns:=[],fuel:=true } (eX (λvs os f=>∃ u8,vs.tail = [.int .i64 u8]/\os = []/\Sub F f/\I0 u8/\V6 d g (J1 vs) u8=some p) (eX (λ_ _=>0) (aI (eX U0 ⟨0,rfl,rfl,(Sub.refl _),(by decide),A⟩) ?_)))
  rintro _ k U ⟨u8,⟨⟩,⟨⟩,j,M,a⟩
  replace a:V6 d g k u8=some p:=a
  obtain _|k:=k
  ·cases a
  rw[V6.eq_2]at a
  refine ifB a (λC a=>?_) λC a=>?_
  ·refine ld a (S0.mono (e.trans j) i) λX J H a=>?_
   obtain⟨Y,Z,aa,rfl,rfl,N,O,P⟩:=Q1 H
   try dsimp only at a
   refine ld a (S0.mono (e.trans j) i) λab K I a=>?_
   obtain⟨ac,ad,ae,rfl,rfl,Q,S,T⟩:=Q1 I
   try dsimp only at a
   refine ifB a (λD a=>?_) λD a=>?_
   ·obtain rfl:=oJ a
    try dsimp only[l4,C4]at b
    obtain rfl:=oJ b
    try dsimp only[l4,C4]at c
    obtain rfl:=oJ c
    exact aI rfl (e.trans j)
   ·exact O2 k ⟨(IntKind.i64.wrap (u8+1)),rfl,rfl,j,(J0 _),a⟩
  ·obtain rfl:=oJ a
   try dsimp only[W0,Y0]at b
   exact O2 l ⟨(IntKind.i64.wrap (d+1)),rfl,rfl,(e.trans j),(J0 _),b⟩
 ·obtain rfl:=oJ b
  try dsimp only[W0,Y0]at c
  refine trV c (r9 _ _ _ (l0 t u (S0.mono e i))) λaf c=>?_
  obtain rfl:=oJ c
  exact aI rfl e
theorem S0c(h:Hp)(u:List Value)(A:j0)(O:V0.R h u A)(d:Int)(y:I0 d)(k:Option Addr)(z l:Nat)(e:P0)(C:K1.R h [.slice k z l] e)(r:Int×Bool)(b:k01 A d e=some r):
  Tr Tryz.prog 217 #[.agg u.toArray,.int .i64 d,.slice k z l] h λv m=>v = .tuple #[.int .i64 r.1,.bool r.2]/\m=h:=by
 obtain⟨n,j,D,U,E,o,rfl,rfl,w,x,p⟩:=H0 O
 obtain⟨rfl,S⟩:=Sl.len p
 obtain⟨rfl,T⟩:=Sl.len C
 unfold k01 at b
 dsimp only at b
 refine Tr.forget (I3 (args:=[.agg #[.int .i64 n,.int .i64 j,.slice D o.length E],.int .i64 d,.slice k e.length l]) (fn:=Tryz.f217) rfl ?_)
 refine trV b (w00 _ _ _ (l0 w x p)) λW b=>?_
 refine trG b (λq=>p9 _ _ y 0 (by decide) (IntKind.i64.wrap (j-1)) (J0 _)) λY b=>?_
 refine ifB b (λJ b=>?_) λJ b=>?_
 ·obtain rfl:=oJ b
  exact aI rfl (Sub.refl _)
 ·obtain⟨t,H,b⟩:=B0 b
  refine eX { vars:=[1,8],boxes:=[],owns:=[],fuel:=true } (eX (λvs os m=>∃ g c,vs.tail = [.int .i64 g,.int .i64 c]/\os = []/\Sub h m/\I0 g/\I0 c/\W6 e n j o (J1 vs) g c=some t) (eX (λ_ _=>0) (aI (eX U0 ⟨d,0,rfl,rfl,(Sub.refl _),y,(by decide),H⟩) ?_)))
  rintro _ _ i Q ⟨g,c,⟨⟩,⟨⟩,f,L,P,a⟩
  replace a:W6 e n j o i g c=some t:=a
  obtain _|i:=i
  ·cases a
  rw[W6.eq_2]at a
  refine ifB a (λK a=>?_) λK a=>?_
  ·refine Or.inl (aI (aI (by kernel_rfl) (by kernel_rfl)) ?_)
   refine ldI a (K1.mono f C) λX M a=>?_
   obtain⟨s,G,a⟩:=B0 a
   refine eX (.int .i64 s) (aI (Y3 _ _ _ (l0 w x (S0.mono f p)) _ L _ M _  G) ?_)
   obtain⟨V,F,a⟩:=B0 a
   have N:I0 s:=N0 F
   refine ifB a (λI a=>?_) λI a=>?_
   ·obtain rfl:=oJ a
    try dsimp only[l4,C4]at b
    obtain rfl:=oJ b
    exact aI rfl f
   ·exact O2 i ⟨s,(IntKind.i64.wrap (c+1)),rfl,rfl,f,N,(J0 _),a⟩
  ·obtain rfl:=oJ a
   try dsimp only[W0,Y0]at b
   obtain rfl:=oJ b
   exact aI rfl f
theorem l0c(h:Hp)(u:List Value)(C:j0)(V:V0.R h u C)(g:Int)(ac:I0 g)(i:Int)(ad:I0 i)(r:P0)(c:S00 C g i=some r):
  Tr Tryz.prog 286 #[.agg u.toArray,.int .i64 g,.int .i64 i] h λv n=>∃(s:Option Addr) (A t:Nat),v = .slice s A t/\New K1 h n [.slice s A t] r:=by
 obtain⟨T,U,G,am,I,p,rfl,rfl,aa,ab,F⟩:=H0 V
 obtain⟨rfl,aj⟩:=Sl.len F
 unfold S00 at c
 dsimp only at c
 refine I3 (args:=[.agg #[.int .i64 T,.int .i64 U,.slice G p.length I],.int .i64 g,.int .i64 i]) (fn:=Tryz.f286) rfl ?_
 obtain⟨q,O,c⟩:=B0 c
 refine eX { vars:=[14],boxes:=[],owns:=[0],fuel:=true } (eX (λvs os n=>∃ d j e,vs.tail = [.int .i64 d]/\os = [j]/\Sub h n/\I0 d/\F2 (Wp.int.R n) j e/\S4 p i g (J1 vs) d e=some q) (eX (λ_ _=>0) (aI (eX U0 ⟨0,[],([]:P0),rfl,rfl,(Sub.refl _),(by decide),(show F2 (Wp.int.R h) ([]:List (List Value)) ([]:P0) from trivial),O⟩) ?_)))
 rintro _ j f o ⟨d,aB,e,⟨⟩,⟨⟩,m,ae,b,a⟩
 replace a:S4 p i g f d e=some q:=a
 obtain _|f:=f
 ·cases a
 rw[S4.eq_2]at a
 refine ifB a (λQ a=>?_) λQ a=>?_
 ·refine ld a (S0.mono m F) λaz Y W a=>?_
  obtain⟨k,aA,l,rfl,rfl,y,af,z⟩:=Q1 W
  try dsimp only at a
  refine ifB a (λS a=>?_) λS a=>?_
  ·obtain⟨ap,N,a⟩:=B0 a
   refine aI (Y1 N (by first|rw[F2.length b,F2.length (show F2 (Wp.int.R o) ([[.int .i64 l]]:List (List Value)) [l] from⟨⟨rfl,z⟩,trivial⟩)]|exact congrArg (·+1) (F2.length b))) ?_
   exact O2 f ⟨(IntKind.i64.wrap (d+1)),(j++([[.int .i64 l]]:List (List Value))),(e ++ [l]),rfl,rfl,m,(J0 _),(F2.append b (show F2 (Wp.int.R o) ([[.int .i64 l]]:List (List Value)) [l] from⟨⟨rfl,z⟩,trivial⟩)),a⟩
  ·refine ifB a (λP a=>?_) λP a=>?_
   ·obtain⟨an,L,a⟩:=B0 a
    refine aI (Y1 L (by first|rw[F2.length b,F2.length (show F2 (Wp.int.R o) ([[.int .i64 k]]:List (List Value)) [k] from⟨⟨rfl,y⟩,trivial⟩)]|exact congrArg (·+1) (F2.length b))) ?_
    exact O2 f ⟨(IntKind.i64.wrap (d+1)),(j++([[.int .i64 k]]:List (List Value))),(e ++ [k]),rfl,rfl,m,(J0 _),(F2.append b (show F2 (Wp.int.R o) ([[.int .i64 k]]:List (List Value)) [k] from⟨⟨rfl,y⟩,trivial⟩)),a⟩
   ·exact O2 f ⟨(IntKind.i64.wrap (d+1)),j,e,rfl,rfl,m,(J0 _),b,a⟩
 ·obtain rfl:=oJ a
  try dsimp only[W0,Y0]at c
  refine Or.inl ?_
  intro aw ag K
  obtain⟨ao,M,c⟩:=B0 c
  refine Tr.mono (g0m _ K b (N0 M)) ?_
  rintro _ ah ⟨rfl,ax,w,D⟩
  obtain⟨X,Z,rfl,aq,au,ak⟩:=G1.out (r:=Wp.int.toRp) w D
  refine Tr.mono (h0m _ w D) ?_
  rintro _ ai ⟨ay,x,E⟩
  obtain⟨H,J,rfl,ar,av,al⟩:=G1.out (r:=Wp.int.toRp) x E
  obtain rfl:=oJ c
  exact⟨H,((h03 eqI (Y05 t9 e))).length,J,rfl,(New.from (G1.newPlain (r:=Wp.int) x E (b0e _)) m)⟩
theorem B4(h:Hp)(d:List Value)(e:j0)(y:V0.R h d e)(b:Int)(q:I0 b)(c:Int)(s:I0 c)(r:Int)(a:N3 e b c=some r):
  Tr Tryz.prog 201 #[.agg d.toArray,.int .i64 b,.int .i64 c] h λv m=>v = .int .i64 r/\m=h:=by
 obtain⟨u,w,k,F,l,x,rfl,rfl,o,p,f⟩:=H0 y
 obtain⟨rfl,D⟩:=Sl.len f
 unfold N3 at a
 dsimp only at a
 refine Tr.forget (I3 (args:=[.agg #[.int .i64 u,.int .i64 w,.slice k x.length l],.int .i64 b,.int .i64 c]) (fn:=Tryz.f201) rfl ?_)
 refine trM a (l0c _ _ _ (l0 o p f) _ q _ s) ?_
 rintro I a H t ⟨z,G,A,rfl,j⟩
 have i:Sub h t:=j.sub
 have g:=j.r
 obtain⟨rfl,E⟩:=Sl.len g
 refine ifB a (λn a=>?_) λn a=>?_
 ·obtain rfl:=oJ a
  exact aI rfl i
 ·refine ldI a g λJ C a=>?_
  obtain rfl:=oJ a
  exact aI rfl i
theorem D9(h:Hp)(p:List Value)(q:j0)(S:V0.R h p q)(r:Bool)(c:P5 q=some r):
  Tr Tryz.prog 219 #[.agg p.toArray] h λv f=>v = .bool r/\f=h:=by
 obtain⟨O,P,y,am,z,m,rfl,rfl,L,M,k⟩:=H0 S
 obtain⟨rfl,ak⟩:=Sl.len k
 unfold P5 at c
 dsimp only at c
 refine Tr.forget (I3 (args:=[.agg #[.int .i64 O,.int .i64 P,.slice y m.length z]]) (fn:=Tryz.f219) rfl ?_)
 refine trV c (c03 _ _ _ (l0 L M k)) λan c=>?_
 refine ifB c (λI c=>?_) λI c=>?_
 ·obtain rfl:=oJ c
  exact aI rfl (Sub.refl _)
 ·obtain⟨o,F,c⟩:=B0 c
  refine eX { vars:=[13],boxes:=[],owns:=[],fuel:=true } (eX (λvs os f=>∃ e,vs.tail = [.int .i64 e]/\os = []/\Sub h f/\I0 e/\Z6 m (J1 vs) e=some o) (eX (λ_ _=>0) (aI (eX U0 ⟨0,rfl,rfl,(Sub.refl _),(by decide),F⟩) ?_)))
  rintro _ j N ⟨e,⟨⟩,⟨⟩,g,ac,a⟩
  replace a:Z6 m j e=some o:=a
  obtain _|j:=j
  ·cases a
  rw[Z6.eq_2]at a
  refine ifB a (λJ a=>?_) λJ a=>?_
  ·refine ld a (S0.mono g k) λau Z U a=>?_
   obtain⟨t,u,w,rfl,rfl,ag,ah,ai⟩:=Q1 U
   try dsimp only at a
   obtain⟨x,D,a⟩:=B0 a
   obtain⟨Q,V,A,C⟩:=Sl.cutI (r:=H1.toRp) (S0.mono g k) D
   refine aI Q (eX V (aI A ?_))
   intro W K _
   obtain⟨X,aa,rfl,s⟩:=C W K
   have al:=(Sl.len s).2
   obtain⟨n,E,a⟩:=B0 a
   refine eX { vars:=[24],boxes:=[],owns:=[],fuel:=true } (eX (λvs os f=>∃ d,vs.tail = [.int .i64 d]/\os = []/\Sub N f/\I0 d/\Y6 x u t w (J1 vs) d=some n) (eX (λ_ _=>0) (aI (eX U0 ⟨0,rfl,rfl,(Sub.refl _),(by decide),E⟩) ?_)))
   rintro _ i aj ⟨d,⟨⟩,⟨⟩,l,ab,b⟩
   replace b:Y6 x u t w i d=some n:=b
   obtain _|i:=i
   ·cases b
   rw[Y6.eq_2]at b
   refine ifB b (λG b=>?_) λG b=>?_
   ·refine ld b (S0.mono l s) λao Y T b=>?_
    obtain⟨ap,aq,ar,rfl,rfl,ad,ae,af⟩:=Q1 T
    try dsimp only at b
    refine ifB b (λH b=>?_) λH b=>?_
    ·obtain rfl:=oJ b
     try dsimp only[l4,C4]at a
     obtain rfl:=oJ a
     try dsimp only[l4,C4]at c
     obtain rfl:=oJ c
     exact aI rfl (g.trans l)
    ·exact O2 i ⟨(IntKind.i64.wrap (d+1)),rfl,rfl,l,(J0 _),b⟩
   ·obtain rfl:=oJ b
    try dsimp only[W0,Y0]at a
    exact O2 j ⟨(IntKind.i64.wrap (e+1)),rfl,rfl,(g.trans l),(J0 _),a⟩
  ·obtain rfl:=oJ a
   try dsimp only[W0,Y0]at c
   obtain rfl:=oJ c
   exact aI rfl g
theorem v05(h:Hp)(q:List Value)(t:j0)(L:V0.R h q t)(d:Int)(H:I0 d)(j:Option Addr)(s k:Nat)(e:P0)(w:K1.R h [.slice j s k] e)(r:Int×Int)(b:w9 t d e=some r):
  Tr Tryz.prog 224 #[.agg q.toArray,.int .i64 d,.slice j s k] h λv l=>v = .tuple #[.int .i64 r.1,.int .i64 r.2]/\l=h:=by
 obtain⟨m,n,y,Q,z,o,rfl,rfl,F,G,u⟩:=H0 L
 obtain⟨rfl,O⟩:=Sl.len u
 obtain⟨rfl,P⟩:=Sl.len w
 unfold w9 at b
 dsimp only at b
 refine Tr.forget (I3 (args:=[.agg #[.int .i64 m,.int .i64 n,.slice y o.length z],.int .i64 d,.slice j e.length k]) (fn:=Tryz.f224) rfl ?_)
 obtain⟨p,C,b⟩:=B0 b
 refine eX { vars:=[1,13],boxes:=[],owns:=[],fuel:=true } (eX (λvs os l=>∃ g c,vs.tail = [.int .i64 g,.int .i64 c]/\os = []/\Sub h l/\I0 g/\I0 c/\R5 e m n o (J1 vs) g c=some p) (eX (λ_ _=>0) (aI (eX U0 ⟨d,0,rfl,rfl,(Sub.refl _),H,(by decide),C⟩) ?_)))
 rintro _ _ i N ⟨g,c,⟨⟩,⟨⟩,f,I,M,a⟩
 replace a:R5 e m n o i g c=some p:=a
 obtain _|i:=i
 ·cases a
 rw[R5.eq_2]at a
 refine ifB a (λE a=>?_) λE a=>?_
 ·refine ldI a (K1.mono f w) λT J a=>?_
  refine trV a (B4 _ _ _ (l0 F G (S0.mono f u)) _ I _ J) λx a=>?_
  obtain⟨S,A,a⟩:=B0 a
  have K:I0 x:=N0 A
  refine ifB a (λD a=>?_) λD a=>?_
  ·obtain rfl:=oJ a
   try dsimp only[l4,C4]at b
   obtain rfl:=oJ b
   exact aI rfl f
  ·exact O2 i ⟨x,(IntKind.i64.wrap (c+1)),rfl,rfl,f,K,(J0 _),a⟩
 ·obtain rfl:=oJ a
  try dsimp only[W0,Y0]at b
  obtain rfl:=oJ b
  exact aI rfl f
theorem a8(h:Hp)(d:List Value)(f:j0)(w:V0.R h d f)(r:j0)(a:B5 f=some r):
  Tr Tryz.prog 132 #[.agg d.toArray] h λv s=>∃(c:List Value),v = .agg c.toArray/\New V0 h s c r:=by
 obtain⟨g,i,l,C,n,j,rfl,rfl,t,u,k⟩:=H0 w
 obtain⟨rfl,z⟩:=Sl.len k
 unfold B5 at a
 dsimp only at a
 refine I3 (args:=[.agg #[.int .i64 g,.int .i64 i,.slice l j.length n]]) (fn:=Tryz.f132) rfl ?_
 refine Or.inr (Or.inr (Or.inl (aI (aI (by kernel_rfl) (by kernel_rfl)) ?_)))
 refine Or.inr ?_
 refine Or.inr ?_
 refine Or.inr ?_
 refine Or.inr ?_
 refine Or.inl (eX 0 (aI (aI rfl rfl) ?_))
 refine aI trivial (aI (by first|exact trivial|exact rfl) ?_)
 obtain⟨x,p,b⟩:=Sl.rows (r:=H1.toRp) k
 refine eX x (aI p ?_)
 obtain⟨D,q,a⟩:=B0 a
 refine aI (Y1 q (by first|rw[F2.length (show F2 (H1.R h) ([]:List (List Value)) ([]:O0) from trivial),F2.length b]|exact congrArg (·+1) (F2.length (show F2 (H1.R h) ([]:List (List Value)) ([]:O0) from trivial)))) ?_
 refine aI trivial (aI (by first|exact trivial|exact rfl) ?_)
 refine aI trivial (aI (by first|exact trivial|exact rfl) ?_)
 refine aI trivial (aI (by first|exact trivial|exact rfl) ?_)
 intro G y e
 obtain⟨m,o,rfl,E,F,A⟩:=G1.out (r:=H1.toRp) e (F2.append (show F2 (H1.R h) ([]:List (List Value)) ([]:O0) from trivial) b)
 obtain rfl:=oJ a
 exact⟨([.int .i64 g,.int .i64 i,.slice m ((([]:O0)++j)).length o]),rfl,(New.pair (New.int t) (New.pair (New.int u) (G1.newPlain (r:=H1) e (F2.append (show F2 (H1.R h) ([]:List (List Value)) ([]:O0) from trivial) b) (m0c _))))⟩
theorem U06(h:Hp)(J:Option Addr)(ad K:Nat)(H:O0)(q:S0.R h [.slice J ad K] H)(O:List Value)(ae:M0)(aG:H1.R h O ae)(r:O0)(g:f01 H ae=some r):
  Tr Tryz.prog 248 #[.slice J ad K,.agg O.toArray] h λv G=>∃(M:Option Addr) (ac N:Nat),v = .slice M ac N/\S0.R G [.slice M ac N] r/\Sub h G:=by
 obtain⟨rfl,a0⟩:=Sl.len q
 obtain⟨b,c,d,rfl,rfl,i,j,k⟩:=Q1 aG
 unfold f01 at g
 dsimp only at g
 refine I3 (args:=[.slice J H.length K,.agg #[.int .i64 b,.int .i64 c,.int .i64 d]]) (fn:=Tryz.f248) rfl ?_
 obtain⟨L,ax,g⟩:=B0 g
 refine eX { vars:=[6,7],boxes:=[],owns:=[0],fuel:=true } (eX (λvs os G=>∃ I n p m,vs.tail = [.bool I,.int .i64 n]/\os = [p]/\Sub h G/\I0 n/\F2 (H1.R G) p m/\N4 H b c d (J1 vs) I n m=some L) (eX (λ_ _=>0) (aI (eX U0 ⟨false,0,[],([]:O0),rfl,rfl,(Sub.refl _),(by decide),(show F2 (H1.R h) ([]:List (List Value)) ([]:O0) from trivial),ax⟩) ?_)))
 rintro _ _ p o f ⟨I,n,bq,m,⟨⟩,⟨⟩,l,aW,e,a⟩
 replace a:N4 H b c d o I n m=some L:=a
 obtain _|o:=o
 ·cases a
 rw[N4.eq_2]at a
 refine ifB a (λaC a=>?_) λaC a=>?_
 ·refine Or.inl (aI (aI (by kernel_rfl) (by kernel_rfl)) ?_)
  refine ld a (S0.mono l q) λbm aV aM a=>?_
  obtain⟨bn,bo,bp,rfl,rfl,aD,aE,aF⟩:=Q1 aM
  try dsimp only at a
  obtain⟨af,aw,a⟩:=B0 a
  refine eX (.int .i64 af) (aI (W03 _ _ _ (T1 i j k) _ _ (T1 aD aE aF) _  aw) ?_)
  obtain⟨a3,am,a⟩:=B0 a
  have aX:I0 af:=N0 am
  refine ifB a (λay a=>?_) λay a=>?_
  ·refine ifB a (λaz a=>?_) λaz a=>?_
   ·obtain⟨a4,an,a⟩:=B0 a
    refine aI (Y1 an (by first|rw[F2.length e,F2.length (show F2 (H1.R f) ([[.int .i64 b,.int .i64 c,.int .i64 d]]:List (List Value)) [(b,c,d)] from⟨(T1 i j k),trivial⟩)]|exact congrArg (·+1) (F2.length e))) ?_
    refine ld a (S0.mono l q) λbi aR aH a=>?_
    obtain⟨s,t,u,rfl,rfl,P,Q,S⟩:=Q1 aH
    try dsimp only at a
    obtain⟨ba,ao,a⟩:=B0 a
    refine aI (Y1 ao (by first|rw[F2.length (F2.append e (show F2 (H1.R f) ([[.int .i64 b,.int .i64 c,.int .i64 d]]:List (List Value)) [(b,c,d)] from⟨(T1 i j k),trivial⟩)),F2.length (show F2 (H1.R f) ([[.int .i64 s,.int .i64 t,.int .i64 u]]:List (List Value)) [(s,t,u)] from⟨(T1 P Q S),trivial⟩)]|exact congrArg (·+1) (F2.length (F2.append e (show F2 (H1.R f) ([[.int .i64 b,.int .i64 c,.int .i64 d]]:List (List Value)) [(b,c,d)] from⟨(T1 i j k),trivial⟩))))) ?_
    exact O2 o ⟨true,(IntKind.i64.wrap (n+1)),((p++([[.int .i64 b,.int .i64 c,.int .i64 d]]:List (List Value)))++([[.int .i64 s,.int .i64 t,.int .i64 u]]:List (List Value))),((m ++ [(b,c,d)]) ++ [(s,t,u)]),rfl,rfl,l,(J0 _),(F2.append (F2.append e (show F2 (H1.R f) ([[.int .i64 b,.int .i64 c,.int .i64 d]]:List (List Value)) [(b,c,d)] from⟨(T1 i j k),trivial⟩)) (show F2 (H1.R f) ([[.int .i64 s,.int .i64 t,.int .i64 u]]:List (List Value)) [(s,t,u)] from⟨(T1 P Q S),trivial⟩)),a⟩
   ·refine ld a (S0.mono l q) λbj aS aJ a=>?_
    obtain⟨w,x,y,rfl,rfl,T,U,V⟩:=Q1 aJ
    try dsimp only at a
    obtain⟨bb,ap,a⟩:=B0 a
    refine aI (Y1 ap (by first|rw[F2.length e,F2.length (show F2 (H1.R f) ([[.int .i64 w,.int .i64 x,.int .i64 y]]:List (List Value)) [(w,x,y)] from⟨(T1 T U V),trivial⟩)]|exact congrArg (·+1) (F2.length e))) ?_
    exact O2 o ⟨true,(IntKind.i64.wrap (n+1)),(p++([[.int .i64 w,.int .i64 x,.int .i64 y]]:List (List Value))),(m ++ [(w,x,y)]),rfl,rfl,l,(J0 _),(F2.append e (show F2 (H1.R f) ([[.int .i64 w,.int .i64 x,.int .i64 y]]:List (List Value)) [(w,x,y)] from⟨(T1 T U V),trivial⟩)),a⟩
  ·refine ifB a (λaA a=>?_) λaA a=>?_
   ·obtain⟨bc,aq,a⟩:=B0 a
    refine aI (Y1 aq (by first|rw[F2.length e,F2.length (show F2 (H1.R f) ([[.int .i64 b,.int .i64 c,.int .i64 d]]:List (List Value)) [(b,c,d)] from⟨(T1 i j k),trivial⟩)]|exact congrArg (·+1) (F2.length e))) ?_
    refine ld a (S0.mono l q) λbk aT aK a=>?_
    obtain⟨z,A,C,rfl,rfl,W,X,Y⟩:=Q1 aK
    try dsimp only at a
    obtain⟨bd,ar,a⟩:=B0 a
    refine aI (Y1 ar (by first|rw[F2.length (F2.append e (show F2 (H1.R f) ([[.int .i64 b,.int .i64 c,.int .i64 d]]:List (List Value)) [(b,c,d)] from⟨(T1 i j k),trivial⟩)),F2.length (show F2 (H1.R f) ([[.int .i64 z,.int .i64 A,.int .i64 C]]:List (List Value)) [(z,A,C)] from⟨(T1 W X Y),trivial⟩)]|exact congrArg (·+1) (F2.length (F2.append e (show F2 (H1.R f) ([[.int .i64 b,.int .i64 c,.int .i64 d]]:List (List Value)) [(b,c,d)] from⟨(T1 i j k),trivial⟩))))) ?_
    exact O2 o ⟨true,(IntKind.i64.wrap (n+1)),((p++([[.int .i64 b,.int .i64 c,.int .i64 d]]:List (List Value)))++([[.int .i64 z,.int .i64 A,.int .i64 C]]:List (List Value))),((m ++ [(b,c,d)]) ++ [(z,A,C)]),rfl,rfl,l,(J0 _),(F2.append (F2.append e (show F2 (H1.R f) ([[.int .i64 b,.int .i64 c,.int .i64 d]]:List (List Value)) [(b,c,d)] from⟨(T1 i j k),trivial⟩)) (show F2 (H1.R f) ([[.int .i64 z,.int .i64 A,.int .i64 C]]:List (List Value)) [(z,A,C)] from⟨(T1 W X Y),trivial⟩)),a⟩
   ·refine ld a (S0.mono l q) λbl aU aL a=>?_
    obtain⟨D,E,F,rfl,rfl,Z,aa,ab⟩:=Q1 aL
    try dsimp only at a
    obtain⟨be,au,a⟩:=B0 a
    refine aI (Y1 au (by first|rw[F2.length e,F2.length (show F2 (H1.R f) ([[.int .i64 D,.int .i64 E,.int .i64 F]]:List (List Value)) [(D,E,F)] from⟨(T1 Z aa ab),trivial⟩)]|exact congrArg (·+1) (F2.length e))) ?_
    exact O2 o ⟨I,(IntKind.i64.wrap (n+1)),(p++([[.int .i64 D,.int .i64 E,.int .i64 F]]:List (List Value))),(m ++ [(D,E,F)]),rfl,rfl,l,(J0 _),(F2.append e (show F2 (H1.R f) ([[.int .i64 D,.int .i64 E,.int .i64 F]]:List (List Value)) [(D,E,F)] from⟨(T1 Z aa ab),trivial⟩)),a⟩
 ·obtain rfl:=oJ a
  try dsimp only[W0,Y0]at g
  refine ifB g (λaB g=>?_) λaB g=>?_
  ·obtain⟨bf,av,g⟩:=B0 g
   refine aI (Y1 av (by first|rw[F2.length e,F2.length (show F2 (H1.R f) ([[.int .i64 b,.int .i64 c,.int .i64 d]]:List (List Value)) [(b,c,d)] from⟨(T1 i j k),trivial⟩)]|exact congrArg (·+1) (F2.length e))) ?_
   intro bg aY ak
   obtain⟨ag,ai,rfl,aN,aP,a1⟩:=G1.out (r:=H1.toRp) ak (F2.append e (show F2 (H1.R f) ([[.int .i64 b,.int .i64 c,.int .i64 d]]:List (List Value)) [(b,c,d)] from⟨(T1 i j k),trivial⟩))
   obtain rfl:=oJ g
   exact⟨ag,((m ++ [(b,c,d)])).length,ai,rfl,aN,(l.trans aP)⟩
  ·intro bh aZ al
   obtain⟨ah,aj,rfl,aO,aQ,a2⟩:=G1.out (r:=H1.toRp) al e
   obtain rfl:=oJ g
   exact⟨ah,m.length,aj,rfl,aO,(l.trans aQ)⟩
theorem a07(h:Hp)(m:List Value)(n:j0)(A:V0.R h m n)(g:Int)(K:I0 g)(r:Int)(f:A9 n g=some r):
  Tr Tryz.prog 318 #[.agg m.toArray,.int .i64 g] h λv j=>v = .int .i64 r/\j=h:=by
 obtain⟨y,z,o,Y,p,k,rfl,rfl,I,J,i⟩:=H0 A
 obtain⟨rfl,X⟩:=Sl.len i
 unfold A9 at f
 dsimp only at f
 refine Tr.forget (I3 (args:=[.agg #[.int .i64 y,.int .i64 z,.slice o k.length p],.int .i64 g]) (fn:=Tryz.f318) rfl ?_)
 obtain⟨l,q,f⟩:=B0 f
 refine eX { vars:=[5,6],boxes:=[],owns:=[],fuel:=true } (eX (λvs os j=>∃ b c,vs.tail = [.int .i64 b,.int .i64 c]/\os = []/\Sub h j/\I0 b/\I0 c/\U3 k g (J1 vs) b c=some l) (eX (λ_ _=>0) (aI (eX U0 ⟨0,0,rfl,rfl,(Sub.refl _),(by decide),(by decide),q⟩) ?_)))
 rintro _ _ e W ⟨b,c,⟨⟩,⟨⟩,d,x,L,a⟩
 replace a:U3 k g e b c=some l:=a
 obtain _|e:=e
 ·cases a
 rw[U3.eq_2]at a
 refine ifB a (λu a=>?_) λu a=>?_
 ·refine ld a (S0.mono d i) λad G D a=>?_
  obtain⟨ae,af,ag,rfl,rfl,P,Q,S⟩:=Q1 D
  try dsimp only at a
  refine ifB a (λw a=>?_) λw a=>?_
  ·refine ld a (S0.mono d i) λah H E a=>?_
   obtain⟨ai,aj,ak,rfl,rfl,T,U,V⟩:=Q1 E
   try dsimp only at a
   refine ifB a (λs a=>?_) λs a=>?_
   ·exact O2 e ⟨(IntKind.i64.wrap ((IntKind.i64.wrap (b+1))+1)),(IntKind.i64.wrap (c+1)),rfl,rfl,d,(J0 _),(J0 _),a⟩
   ·exact O2 e ⟨(IntKind.i64.wrap (b+1)),(IntKind.i64.wrap (c+1)),rfl,rfl,d,(J0 _),(J0 _),a⟩
  ·refine ld a (S0.mono d i) λZ F C a=>?_
   obtain⟨aa,ab,ac,rfl,rfl,M,N,O⟩:=Q1 C
   try dsimp only at a
   refine ifB a (λt a=>?_) λt a=>?_
   ·exact O2 e ⟨(IntKind.i64.wrap (b+1)),(IntKind.i64.wrap (c+1)),rfl,rfl,d,(J0 _),(J0 _),a⟩
   ·exact O2 e ⟨b,(IntKind.i64.wrap (c+1)),rfl,rfl,d,x,(J0 _),a⟩
 ·obtain rfl:=oJ a
  try dsimp only[W0,Y0]at f
  obtain rfl:=oJ f
  exact aI rfl d
theorem H09(h:Hp)(k:List Value)(m:j0)(F:V0.R h k m)(l:List Value)(n:j0)(G:V0.R h l n)(r:Bool)(b:d00 m n=some r):
  Tr Tryz.prog 194 #[.agg k.toArray,.agg l.toArray] h λv f=>v = .bool r/\f=h:=by
 obtain⟨A,C,q,ag,t,g,rfl,rfl,S,T,o⟩:=H0 F
 obtain⟨rfl,ae⟩:=Sl.len o
 obtain⟨D,E,s,ah,u,i,rfl,rfl,U,V,p⟩:=H0 G
 obtain⟨rfl,af⟩:=Sl.len p
 unfold d00 at b
 dsimp only at b
 refine Tr.forget (I3 (args:=[.agg #[.int .i64 A,.int .i64 C,.slice q g.length t],.agg #[.int .i64 D,.int .i64 E,.slice s i.length u]]) (fn:=Tryz.f194) rfl ?_)
 refine ifB b (λx b=>?_) λx b=>?_
 ·obtain rfl:=oJ b
  exact aI rfl (Sub.refl _)
 ·obtain⟨j,w,b⟩:=B0 b
  refine eX { vars:=[5],boxes:=[],owns:=[],fuel:=true } (eX (λvs os f=>∃ c,vs.tail = [.int .i64 c]/\os = []/\Sub h f/\I0 c/\c6 g i (J1 vs) c=some j) (eX (λ_ _=>0) (aI (eX U0 ⟨0,rfl,rfl,(Sub.refl _),(by decide),w⟩) ?_)))
  rintro _ e ad ⟨c,⟨⟩,⟨⟩,d,W,a⟩
  replace a:c6 g i e c=some j:=a
  obtain _|e:=e
  ·cases a
  rw[c6.eq_2]at a
  refine ifB a (λy a=>?_) λy a=>?_
  ·refine Or.inl (aI (aI (by kernel_rfl) (by kernel_rfl)) ?_)
   refine ld a (S0.mono d o) λai P H a=>?_
   obtain⟨J,K,L,rfl,rfl,X,Y,Z⟩:=Q1 H
   try dsimp only at a
   refine ld a (S0.mono d p) λaj Q I a=>?_
   obtain⟨M,N,O,rfl,rfl,aa,ab,ac⟩:=Q1 I
   try dsimp only at a
   refine eX (!eqE (J,K,L) (M,N,O)) (aI (I0i _ _ _ rfl _ _ _ _ _ _) ?_)
   refine ifB a (λz a=>?_) λz a=>?_
   ·obtain rfl:=oJ a
    try dsimp only[l4,C4]at b
    obtain rfl:=oJ b
    exact aI rfl d
   ·exact O2 e ⟨(IntKind.i64.wrap (c+1)),rfl,rfl,d,(J0 _),a⟩
  ·obtain rfl:=oJ a
   try dsimp only[W0,Y0]at b
   obtain rfl:=oJ b
   exact aI rfl d
theorem I09(h:Hp)(J:List Value)(M:j0)(ax:V0.R h J M)(f:Int)(K:I0 f)(r:P0)(b:e00 M f=some r):
  Tr Tryz.prog 334 #[.agg J.toArray,.int .i64 f] h λv e=>∃(H:Option Addr) (L I:Nat),v = .slice H L I/\K1.R e [.slice H L I] r/\Sub h e:=by
 obtain⟨aw,N,V,aY,ab,t,rfl,rfl,ar,au,C⟩:=H0 ax
 obtain⟨rfl,aQ⟩:=Sl.len C
 unfold e00 at b
 dsimp only at b
 refine I3 (args:=[.agg #[.int .i64 aw,.int .i64 N,.slice V t.length ab],.int .i64 f]) (fn:=Tryz.f334) rfl ?_
 refine trV b (r9 _ _ _ (l0 ar au C)) λbc b=>?_
 refine trG b (λq=>p9 _ _ K 0 (by decide) (IntKind.i64.wrap (N-1)) (J0 _)) λbd b=>?_
 refine ifB b (λao b=>?_) λao b=>?_
 ·intro ba aO ai
  obtain⟨aa,ag,rfl,aA,aE,aX⟩:=G1.out (r:=Wp.int.toRp) ai (show F2 (Wp.int.R h) ([]:List (List Value)) ([]:P0) from trivial)
  obtain rfl:=oJ b
  exact⟨aa,(([]:P0)).length,ag,rfl,aA,aE⟩
 ·obtain⟨F,aj,b⟩:=B0 b
  refine eX { vars:=[5,6],boxes:=[],owns:=[],fuel:=true,pubs:=[5,22] } (eX (λvs os e=>∃(n:Option Addr) (z p:Nat) (k:P0) (m:Int),vs.tail = [.slice n z p,.int .i64 m]/\os = []/\Sub h e/\K1.R e [.slice n z p] k/\I0 m/\G5 t (J1 vs) k m=some F) (eX (λ_ _=>0) ?_))
  intro bb aP ah
  obtain⟨Z,af,rfl,az,aD,aW⟩:=G1.out (r:=Wp.int.toRp) ah (show F2 (Wp.int.R h) ([[.int .i64 f]]:List (List Value)) [f] from⟨⟨rfl,K⟩,trivial⟩)
  refine aI (eX U0 ⟨Z,([f]).length,af,[f],0,rfl,rfl,aD,az,(by decide),aj⟩) ?_
  rintro _ _ u av ⟨n,z,p,k,m,⟨⟩,⟨⟩,E,D,aG,c⟩
  replace c:G5 t u k m=some F:=c
  obtain _|u:=u
  ·cases c
  rw[G5.eq_2]at c
  obtain⟨rfl,aR⟩:=Sl.len D
  refine ifB c (λal c=>?_) λal c=>?_
  ·obtain⟨G,ak,c⟩:=B0 c
   refine eX { vars:=[5,7],boxes:=[],owns:=[],fuel:=true } (eX (λvs os e=>∃ o A s g d,vs.tail = [.slice o A s,.int .i64 d]/\os = []/\Sub av e/\K1.R e [.slice o A s] g/\I0 d/\S3 t (J1 vs) g d=some G) (eX (λ_ _=>0) (aI (eX U0 ⟨n,k.length,p,k,0,rfl,rfl,(Sub.refl _),D,(by decide),ak⟩) ?_)))
   rintro _ _ i aK ⟨o,A,s,g,d,⟨⟩,⟨⟩,l,j,aH,a⟩
   replace a:S3 t i g d=some G:=a
   obtain _|i:=i
   ·cases a
   rw[S3.eq_2]at a
   obtain⟨rfl,aS⟩:=Sl.len j
   refine ifB a (λam a=>?_) λam a=>?_
   ·refine ld a (S0.mono (E.trans l) C) λbe aF ay a=>?_
    obtain⟨bf,bg,bh,rfl,rfl,x,aJ,y⟩:=Q1 ay
    try dsimp only at a
    refine trV a (i01 _ _ _ _ _ j _ x) λbi a=>?_
    refine ifB a (λan a=>?_) λan a=>?_
    ·refine trM a (f02 _ _ _ _ _ j _ y) ?_
     rintro S a a2 aL ⟨W,aZ,ac,rfl,w,Q⟩
     obtain⟨rfl,aT⟩:=Sl.len w
     refine trV a (i01 _ _ _ _ _ w _ y) λbj a=>?_
     refine ifB a (λap a=>?_) λap a=>?_
     ·refine trM a (f02 _ _ _ _ _ w _ x) ?_
      rintro T a a3 aM ⟨X,a0,ad,rfl,O,aB⟩
      obtain⟨rfl,aU⟩:=Sl.len O
      exact O2 i ⟨X,T.length,ad,T,(IntKind.i64.wrap (d+1)),rfl,rfl,((l.trans Q).trans aB),O,(J0 _),a⟩
     ·exact O2 i ⟨W,S.length,ac,S,(IntKind.i64.wrap (d+1)),rfl,rfl,(l.trans Q),w,(J0 _),a⟩
    ·refine trV a (i01 _ _ _ _ _ j _ y) λbk a=>?_
     refine ifB a (λaq a=>?_) λaq a=>?_
     ·refine trM a (f02 _ _ _ _ _ j _ x) ?_
      rintro U a a4 aN ⟨Y,a1,ae,rfl,P,aC⟩
      obtain⟨rfl,aV⟩:=Sl.len P
      exact O2 i ⟨Y,U.length,ae,U,(IntKind.i64.wrap (d+1)),rfl,rfl,(l.trans aC),P,(J0 _),a⟩
     ·exact O2 i ⟨o,g.length,s,g,(IntKind.i64.wrap (d+1)),rfl,rfl,l,j,(J0 _),a⟩
   ·obtain rfl:=oJ a
    try dsimp only[W0,Y0]at c
    exact O2 u ⟨o,g.length,s,g,(IntKind.i64.wrap (m+1)),rfl,rfl,(E.trans l),j,(J0 _),c⟩
  ·obtain rfl:=oJ c
   try dsimp only[W0,Y0]at b
   obtain rfl:=oJ b
   exact⟨n,k.length,p,rfl,D,E⟩
theorem f09(h:Hp)(n:List Value)(t:j0)(F:V0.R h n t)(r:Int)(b:y01 t=some r):
  Tr Tryz.prog 294 #[.agg n.toArray] h λv f=>v = .int .i64 r/\f=h:=by
 obtain⟨g,i,x,N,y,j,rfl,rfl,o,p,k⟩:=H0 F
 obtain⟨rfl,L⟩:=Sl.len k
 unfold y01 at b
 dsimp only at b
 refine Tr.forget (I3 (args:=[.agg #[.int .i64 g,.int .i64 i,.slice x j.length y]]) (fn:=Tryz.f294) rfl ?_)
 refine trM b (I09 _ _ _ (l0 o p k) 0 (by decide)) ?_
 rintro w b Q E ⟨H,O,I,rfl,u,l⟩
 obtain⟨rfl,M⟩:=Sl.len u
 obtain⟨m,A,b⟩:=B0 b
 refine eX { vars:=[4],boxes:=[],owns:=[],fuel:=true } (eX (λvs os f=>∃ c,vs.tail = [.int .i64 c]/\os = []/\Sub E f/\I0 c/\B8 i g j w (J1 vs) c=some m) (eX (λ_ _=>0) (aI (eX U0 ⟨1,rfl,rfl,(Sub.refl _),(by decide),A⟩) ?_)))
 rintro _ e K ⟨c,⟨⟩,⟨⟩,d,s,a⟩
 replace a:B8 i g j w e c=some m:=a
 obtain _|e:=e
 ·cases a
 rw[B8.eq_2]at a
 refine ifB a (λD a=>?_) λD a=>?_
 ·refine trV a (a07 _ _ _ (l0 o p (S0.mono (l.trans d) k)) _ s) λG a=>?_
  obtain⟨P,z,a⟩:=B0 a
  have J:I0 G:=N0 z
  refine trG a (λq=>i01 _ _ _ _ _ (K1.mono d u) _ s) λS a=>?_
  refine ifB a (λC a=>?_) λC a=>?_
  ·obtain rfl:=oJ a
   try dsimp only[l4,C4]at b
   obtain rfl:=oJ b
   exact aI rfl (l.trans d)
  ·exact O2 e ⟨(IntKind.i64.wrap (c+1)),rfl,rfl,d,(J0 _),a⟩
 ·obtain rfl:=oJ a
  try dsimp only[W0,Y0]at b
  obtain rfl:=oJ b
  exact aI rfl (l.trans d)
theorem V01(h:Hp)(V:List Value)(Z:j0)(aZ:V0.R h V Z)(J:Option Addr)(Y K:Nat)(s:P0)(E:K1.R h [.slice J Y K] s)(r:j0×Bool)(d:d6 Z s=some r):
  Tr Tryz.prog 320 #[.agg V.toArray,.slice J Y K] h λv e=>∃(U:List Value),v = .tuple #[.agg U.toArray,.bool r.2]/\V0.R e U r.1/\Sub h e:=by
 obtain⟨D,l,ah,bV,ap,y,rfl,rfl,A,L,z⟩:=H0 aZ
 obtain⟨rfl,bQ⟩:=Sl.len z
 obtain⟨rfl,aY⟩:=Sl.len E
 unfold d6 at d
 dsimp only at d
 refine I3 (args:=[.agg #[.int .i64 D,.int .i64 l,.slice ah y.length ap],.slice J s.length K]) (fn:=Tryz.f320) rfl ?_
 refine trV d (r9 _ _ _ (l0 A L z)) λb8 d=>?_
 refine ifB d (λaM d=>?_) λaM d=>?_
 ·refine trM d (a8 _ _ _ (l0 A L z)) ?_
  rintro cf d b7 aX ⟨bq,rfl,af⟩
  have bf:Sub h aX:=af.sub
  have a3:=af.r
  obtain⟨bk,bl,aj,bX,ar,bm,rfl,rfl,aT,aU,ab⟩:=H0 a3
  obtain⟨rfl,bT⟩:=Sl.len ab
  try dsimp only at d
  obtain rfl:=oJ d
  exact⟨([.int .i64 bk,.int .i64 bl,.slice aj bm.length ar]),rfl,(l0 aT aU ab),bf⟩
 ·obtain⟨bZ,az,d⟩:=B0 d
  refine aI (N0 az) ?_
  obtain⟨T,aJ,d⟩:=B0 d
  refine eX { vars:=[8],boxes:=[],owns:=[0],fuel:=true,kept:=[0] } (eX (λvs os e=>∃ u8 G o,vs.tail = [.int .i64 u8]/\os = [G]/\Sub h e/\I0 u8/\F2 (Wp.int.R e) G o/\O4 s l D y (J1 vs) u8 o=some T) (eX (λ_ _=>0) (aI (eX U0 ⟨0,(List.replicate l.toNat ([.int .i64 0]:List Value)),(List.replicate l.toNat (0:Int)),rfl,rfl,(Sub.refl _),(by decide),(F2.rep (p:=Wp.int.R h) (a:=[.int .i64 0]) (b:=0) ⟨rfl,(by decide)⟩ (l.toNat)),aJ⟩) ?_)))
  rintro _ G C w ⟨u8,cl,o,⟨⟩,⟨⟩,g,bz,k,c⟩
  replace c:O4 s l D y C u8 o=some T:=c
  obtain _|C:=C
  ·cases c
  rw[O4.eq_2]at c
  refine ifB c (λaK c=>?_) λaK c=>?_
  ·refine Or.inl (aI (aI (by kernel_rfl) (by kernel_rfl)) ?_)
   refine ldI c (K1.mono g E) λca aP c=>?_
   obtain⟨bg,aA,c⟩:=B0 c
   refine eX (.bool bg) (aI (p9 _ _ aP 0 (by decide) (IntKind.i64.wrap (l-1)) (J0 _) _  aA) ?_)
   refine ldG c (K1.mono g E) λcb bA c=>?_
   obtain⟨cc,aB,c⟩:=B0 c
   obtain⟨bn,W,a0⟩:=n02 k aB (c0e w)
   refine aI (λq=>(W q).1) ?_
   obtain⟨rfl,bB⟩:=a0
   refine eX _ (aI (λq=>(W q).2) ?_)
   refine ifB c (λaL c=>?_) λaL c=>?_
   ·refine trM c (a8 _ _ _ (l0 A L (S0.mono g z))) ?_
    rintro cd c b5 aV ⟨bo,rfl,ae⟩
    have be:Sub w aV:=ae.sub
    have a1:=ae.r
    obtain⟨bh,bi,ai,bW,aq,bj,rfl,rfl,aQ,aR,aa⟩:=H0 a1
    obtain⟨rfl,bS⟩:=Sl.len aa
    try dsimp only at c
    obtain rfl:=oJ c
    try dsimp only[l4,C4]at d
    obtain rfl:=oJ d
    exact⟨([.int .i64 bh,.int .i64 bi,.slice ai bj.length aq]),rfl,(l0 aQ aR aa),(g.trans be)⟩
   ·refine ldI c (K1.mono g E) λP bC c=>?_
    obtain⟨ce,aC,c⟩:=B0 c
    obtain⟨al,bp,av,a2⟩:=V1 k aC
    refine aI al ?_
    obtain⟨rfl,bD⟩:=a2
    refine eX _ (aI av ?_)
    exact O2 C ⟨(IntKind.i64.wrap (u8+1)),(G.set P.toNat [.int .i64 (IntKind.i64.wrap (u8+1))]),(o.set P.toNat (IntKind.i64.wrap (u8+1))),rfl,rfl,g,(J0 _),(F2.set (p:=Wp.int.R w) (a:=[.int .i64 (IntKind.i64.wrap (u8+1))]) (b:=(IntKind.i64.wrap (u8+1))) ⟨rfl,(J0 _)⟩ P.toNat k),c⟩
  ·obtain rfl:=oJ c
   try dsimp only[W0,Y0]at d
   obtain⟨S,aH,d⟩:=B0 d
   refine eX { vars:=[9],boxes:=[2],owns:=[],fuel:=true } (eX (λvs os e=>∃ m i j t O u n,vs.tail = [.int .i64 m,.int .i64 i,.int .i64 j,.slice t O u]/\os = []/\Sub w e/\I0 m/\I0 i/\I0 j/\S0.R e [.slice t O u] n/\j4 y o (J1 vs) m i j n=some S) (eX (λ_ _=>0) (aI (eX U0 ⟨0,D,((s.length:Nat):Int),none,0,0,[],rfl,rfl,(Sub.refl _),(by decide),A,(E0j aY),(F0j H1 w),aH⟩) ?_)))
   rintro _ _ _ _ x aW ⟨m,i,j,t,O,u,n,⟨⟩,⟨⟩,f,bx,M,N,F,c⟩
   replace c:j4 y o x m i j n=some S:=c
   obtain _|x:=x
   ·cases c
   rw[j4.eq_2]at c
   obtain⟨rfl,bR⟩:=Sl.len F
   refine ifB c (λaN c=>?_) λaN c=>?_
   ·refine ld c (S0.mono (g.trans f) z) λcg br a4 c=>?_
    obtain⟨ch,Q,ci,rfl,rfl,bE,aS,bF⟩:=Q1 a4
    try dsimp only at c
    obtain⟨cj,aD,c⟩:=B0 c
    obtain⟨am,bs,aw,ba⟩:=V1 (F2.up (r:=Wp.int.toRp) f k) aD
    refine aI am ?_
    obtain⟨rfl,bG⟩:=ba
    refine eX _ (aI aw ?_)
    obtain⟨ck,aE,c⟩:=B0 c
    obtain⟨bt,X,bb⟩:=n02 (F2.up (r:=Wp.int.toRp) f k) aE (c0e aW)
    refine aI (λq=>(X q).1) ?_
    obtain⟨rfl,bH⟩:=bb
    refine eX _ (aI (λq=>(X q).2) ?_)
    refine ifB c (λaO c=>?_) λaO c=>?_
    ·refine Or.inr (Or.inr (Or.inl (aI (aI (by kernel_rfl) (by kernel_rfl)) ?_)))
     obtain⟨H,aF,c⟩:=B0 c
     obtain⟨an,bu,ax,bc⟩:=V1 (F2.up (r:=Wp.int.toRp) f k) aF
     obtain⟨rfl,bI⟩:=bc
     refine Or.inl ?_
     apply eX
     refine aI ?_ ?_
     ·intro bK b0
      exact aI an (aI rfl (aI rfl rfl))
     refine Or.inl (eX (.val (.int .i64 H)) (aI ?_ ?_))
     ·intro bL b1
      exact eX _ (aI ax (aI rfl (aI rfl rfl)))
     obtain⟨I,aG,c⟩:=B0 c
     obtain⟨ao,bv,ay,bd⟩:=V1 (F2.up (r:=Wp.int.toRp) f k) aG
     obtain⟨rfl,bJ⟩:=bd
     refine Or.inl ?_
     apply eX
     refine aI ?_ ?_
     ·intro bM b2
      exact aI ao (aI rfl (aI rfl rfl))
     refine Or.inl (eX (.val (.int .i64 I)) (aI ?_ ?_))
     ·intro bN b3
      exact eX _ (aI ay (aI rfl (aI rfl rfl)))
     refine Or.inl (eX (.agg [.val (.int .i64 (IntKind.i64.wrap (H-1))),.val (.int .i64 Q),.val (.int .i64 (IntKind.i64.wrap (I-1)))]) (aI ?_ ?_))
     ·intro bO b4
      exact aI rfl (aI rfl rfl)
     refine Or.inr ?_
     refine Or.inr ?_
     refine Or.inl (eX 1 (aI (aI rfl rfl) ?_))
     refine trM c (U06 _ _ _ _ _ F [.int .i64 (IntKind.i64.wrap (H-1)),.int .i64 Q,.int .i64 (IntKind.i64.wrap (I-1))] ((IntKind.i64.wrap (H-1)),Q,(IntKind.i64.wrap (I-1))) (T1 (J0 _) aS (J0 _))) ?_
     rintro ag c b6 bP ⟨ak,bY,au,rfl,ac,ad⟩
     obtain⟨rfl,bU⟩:=Sl.len ac
     refine aI (aI rfl ad) (aI (by first|exact trivial|exact rfl) ?_)
     refine aI trivial (aI (by first|exact trivial|exact rfl) ?_)
     exact O2 x ⟨(IntKind.i64.wrap (m+1)),i,j,ak,ag.length,au,ag,rfl,rfl,(f.trans ad),(J0 _),M,N,ac,c⟩
    ·exact O2 x ⟨(IntKind.i64.wrap (m+1)),i,j,t,n.length,u,n,rfl,rfl,f,(J0 _),M,N,F,c⟩
   ·obtain rfl:=oJ c
    try dsimp only[W0,Y0]at d
    obtain rfl:=oJ d
    exact⟨([.int .i64 i,.int .i64 j,.slice t n.length u]),rfl,(l0 M N F),(g.trans f)⟩
theorem a01(h:Hp)(e:Int)(D:I0 e)(r:P0)(i:d5 e=some r):
  Tr Tryz.prog 319 #[.int .i64 e] h λv g=>∃(n:Option Addr) (p o:Nat),v = .slice n p o/\K1.R g [.slice n p o] r/\Sub h g:=by
 unfold d5 at i
 refine I3 (args:=[.int .i64 e]) (fn:=Tryz.f319) rfl ?_
 obtain⟨m,y,i⟩:=B0 i
 refine eX { vars:=[4],boxes:=[],owns:=[0],fuel:=true } (eX (λvs os g=>∃ a l f,vs.tail = [.int .i64 a]/\os = [l]/\Sub h g/\I0 a/\F2 (Wp.int.R g) l f/\i6 e (J1 vs) a f=some m) (eX (λ_ _=>0) (aI (eX U0 ⟨1,[],([]:P0),rfl,rfl,(Sub.refl _),(by decide),(show F2 (Wp.int.R h) ([]:List (List Value)) ([]:P0) from trivial),y⟩) ?_)))
 rintro _ l k d ⟨a,J,f,⟨⟩,⟨⟩,q,j,c,b⟩
 replace b:i6 e k a f=some m:=b
 obtain _|k:=k
 ·cases b
 rw[i6.eq_2]at b
 refine ifB b (λz b=>?_) λz b=>?_
 ·obtain⟨G,w,b⟩:=B0 b
  refine aI (Y1 w (by first|rw[F2.length c,F2.length (show F2 (Wp.int.R d) ([[.int .i64 a]]:List (List Value)) [a] from⟨⟨rfl,j⟩,trivial⟩)]|exact congrArg (·+1) (F2.length c))) ?_
  obtain⟨H,x,b⟩:=B0 b
  refine aI (Y1 x (by first|rw[F2.length (F2.append c (show F2 (Wp.int.R d) ([[.int .i64 a]]:List (List Value)) [a] from⟨⟨rfl,j⟩,trivial⟩)),F2.length (show F2 (Wp.int.R d) ([[.int .i64 (IntKind.i64.wrap (0-a))]]:List (List Value)) [(IntKind.i64.wrap (0-a))] from⟨⟨rfl,(J0 _)⟩,trivial⟩)]|exact congrArg (·+1) (F2.length (F2.append c (show F2 (Wp.int.R d) ([[.int .i64 a]]:List (List Value)) [a] from⟨⟨rfl,j⟩,trivial⟩))))) ?_
  exact O2 k ⟨(IntKind.i64.wrap (a+1)),((l++([[.int .i64 a]]:List (List Value)))++([[.int .i64 (IntKind.i64.wrap (0-a))]]:List (List Value))),((f ++ [a]) ++ [(IntKind.i64.wrap (0-a))]),rfl,rfl,q,(J0 _),(F2.append (F2.append c (show F2 (Wp.int.R d) ([[.int .i64 a]]:List (List Value)) [a] from⟨⟨rfl,j⟩,trivial⟩)) (show F2 (Wp.int.R d) ([[.int .i64 (IntKind.i64.wrap (0-a))]]:List (List Value)) [(IntKind.i64.wrap (0-a))] from⟨⟨rfl,(J0 _)⟩,trivial⟩)),b⟩
 ·obtain rfl:=oJ b
  try dsimp only[W0,Y0]at i
  intro I E u
  obtain⟨s,t,rfl,A,C,F⟩:=G1.out (r:=Wp.int.toRp) u c
  obtain rfl:=oJ i
  exact⟨s,f.length,t,rfl,A,(q.trans C)⟩
theorem g07(h:Hp)(H:List Value)(L:j0)(ar:V0.R h H L)(r:P0)(c:I8 L=some r):
  Tr Tryz.prog 335 #[.agg H.toArray] h λv d=>∃(F:Option Addr) (K G:Nat),v = .slice F K G/\K1.R d [.slice F K G] r/\Sub h d:=by
 obtain⟨n,o,N,aS,S,p,rfl,rfl,y,I,A⟩:=H0 ar
 obtain⟨rfl,aN⟩:=Sl.len A
 unfold I8 at c
 dsimp only at c
 refine I3 (args:=[.agg #[.int .i64 n,.int .i64 o,.slice N p.length S]]) (fn:=Tryz.f335) rfl ?_
 refine trV c (w00 _ _ _ (l0 y I A)) λa2 c=>?_
 refine ifB c (λai c=>?_) λai c=>?_
 ·intro aZ aL Y
  obtain⟨P,U,rfl,ax,az,aR⟩:=G1.out (r:=Wp.int.toRp) Y (show F2 (Wp.int.R h) ([]:List (List Value)) ([]:P0) from trivial)
  obtain rfl:=oJ c
  exact⟨P,(([]:P0)).length,U,rfl,ax,az⟩
 ·refine trM c (a01 _ _ y) ?_
  rintro w c a1 ap ⟨aB,aT,aE,rfl,M,C⟩
  obtain⟨rfl,aO⟩:=Sl.len M
  obtain⟨D,af,c⟩:=B0 c
  refine eX { vars:=[5],boxes:=[],owns:=[0],fuel:=true } (eX (λvs os d=>∃ e s k,vs.tail = [.int .i64 e]/\os = [s]/\Sub ap d/\I0 e/\F2 (Wp.int.R d) s k/\i5 w n o p (J1 vs) e k=some D) (eX (λ_ _=>0) (aI (eX U0 ⟨0,([[.int .i64 0]]:List (List Value)),[0],rfl,rfl,(Sub.refl _),(by decide),(F2.up (r:=Wp.int.toRp) C (show F2 (Wp.int.R h) ([[.int .i64 0]]:List (List Value)) [0] from⟨⟨rfl,(by decide)⟩,trivial⟩)),af⟩) ?_)))
  rintro _ s t ao ⟨e,ba,k,⟨⟩,⟨⟩,u,aH,x,b⟩
  replace b:i5 w n o p t e k=some D:=b
  obtain _|t:=t
  ·cases b
  rw[i5.eq_2]at b
  obtain⟨aq,Z,b⟩:=B0 b
  obtain rfl:s.length=aq:=(F2.length x).trans (oJ Z)
  obtain⟨aU,aG,b⟩:=B0 b
  refine ifB b (λah b=>?_) λah b=>?_
  ·obtain⟨E,ag,b⟩:=B0 b
   refine eX { vars:=[6],boxes:=[],owns:=[0],fuel:=true } (eX (λvs os d=>∃ i l j,vs.tail = [.int .i64 i]/\os = [l]/\Sub ao d/\I0 i/\F2 (Wp.int.R d) l j/\V3 w e n o p (J1 vs) i j=some E) (eX (λ_ _=>0) (aI (eX U0 ⟨0,s,k,rfl,rfl,(Sub.refl _),(by decide),x,ag⟩) ?_)))
   rintro _ l m J ⟨i,bb,j,⟨⟩,⟨⟩,q,aJ,g,a⟩
   replace a:V3 w e n o p m i j=some E:=a
   obtain _|m:=m
   ·cases a
   rw[V3.eq_2]at a
   refine ifB a (λaj a=>?_) λaj a=>?_
   ·refine Or.inl (aI (aI (by kernel_rfl) (by kernel_rfl)) ?_)
    obtain⟨a3,ac,a⟩:=B0 a
    obtain⟨Q,aD,V,au⟩:=V1 g ac
    refine aI Q ?_
    obtain⟨rfl,am⟩:=au
    refine eX _ (aI V ?_)
    refine ldI a (K1.mono (u.trans q) M) λa4 an a=>?_
    obtain⟨f,ad,a⟩:=B0 a
    refine eX (.int .i64 f) (aI (Y3 _ _ _ (l0 y I (S0.mono ((C.trans u).trans q) A)) _ am _ an _  ad) ?_)
    obtain⟨aV,aa,a⟩:=B0 a
    have z:I0 f:=N0 aa
    obtain⟨aA,ae,a⟩:=B0 a
    refine eX (.bool aA) (aI ?_ ?_)
    ·intro al
     intro aY aK W
     obtain⟨aC,aF,rfl,av,aX,aP⟩:=G1.out (r:=Wp.int.toRp) W g
     exact i01 _ _ _ _ _ av _ z _ (a9 ae al)
    refine ifB a (λak a=>?_) λak a=>?_
    ·obtain⟨aW,ab,a⟩:=B0 a
     refine aI (Y1 ab (by first|rw[F2.length g,F2.length (show F2 (Wp.int.R J) ([[.int .i64 f]]:List (List Value)) [f] from⟨⟨rfl,z⟩,trivial⟩)]|exact congrArg (·+1) (F2.length g))) ?_
     exact O2 m ⟨(IntKind.i64.wrap (i+1)),(l++([[.int .i64 f]]:List (List Value))),(j ++ [f]),rfl,rfl,q,(J0 _),(F2.append g (show F2 (Wp.int.R J) ([[.int .i64 f]]:List (List Value)) [f] from⟨⟨rfl,z⟩,trivial⟩)),a⟩
    ·exact O2 m ⟨(IntKind.i64.wrap (i+1)),l,j,rfl,rfl,q,(J0 _),g,a⟩
   ·obtain rfl:=oJ a
    try dsimp only[W0,Y0]at b
    exact O2 t ⟨(IntKind.i64.wrap (e+1)),l,j,rfl,rfl,(u.trans q),(J0 _),g,b⟩
  ·obtain rfl:=oJ b
   try dsimp only[W0,Y0]at c
   intro a0 aM X
   obtain⟨O,T,rfl,aw,ay,aQ⟩:=G1.out (r:=Wp.int.toRp) X x
   obtain rfl:=oJ c
   exact⟨O,k.length,T,rfl,aw,((C.trans u).trans ay)⟩
theorem i03(h:Hp)(g:List Value)(j:j0)(I:V0.R h g j)(r:j0)(a:n7 j=some r):
  Tr Tryz.prog 295 #[.agg g.toArray] h λv i=>∃(f:List Value),v = .agg f.toArray/\V0.R i f r/\Sub h i:=by
 obtain⟨F,G,p,ad,t,H,rfl,rfl,d,e,b⟩:=H0 I
 obtain⟨rfl,Z⟩:=Sl.len b
 unfold n7 at a
 dsimp only at a
 refine I3 (args:=[.agg #[.int .i64 F,.int .i64 G,.slice p H.length t]]) (fn:=Tryz.f295) rfl ?_
 refine trM a (g07 _ _ _ (l0 d e b)) ?_
 rintro ak a ai D ⟨U,ae,X,rfl,k,c⟩
 obtain⟨rfl,aa⟩:=Sl.len k
 refine ifB a (λx a=>?_) λx a=>?_
 ·refine trM a (a8 _ _ _ (l0 d e (S0.mono c b))) ?_
  rintro al a aj E ⟨V,rfl,o⟩
  have K:Sub D E:=o.sub
  have J:=o.r
  obtain⟨M,N,q,af,u,O,rfl,rfl,y,z,l⟩:=H0 J
  obtain⟨rfl,ab⟩:=Sl.len l
  try dsimp only at a
  obtain rfl:=oJ a
  exact⟨([.int .i64 M,.int .i64 N,.slice q O.length u]),rfl,(l0 y z l),(c.trans K)⟩
 ·refine trM a (V01 _ _ _ (l0 d e (S0.mono c b)) _ _ _ _ k) ?_
  rintro P a ah Y ⟨W,rfl,m,L⟩
  obtain⟨am,an⟩:=P
  dsimp only at a m
  obtain⟨Q,S,s,ag,w,T,rfl,rfl,A,C,n⟩:=H0 m
  obtain⟨rfl,ac⟩:=Sl.len n
  try dsimp only at a
  obtain rfl:=oJ a
  exact⟨([.int .i64 Q,.int .i64 S,.slice s T.length w]),rfl,(l0 A C n),(c.trans L)⟩
theorem a0g(h:Hp)(m:List Value)(n:j0)(S:V0.R h m n)(r:Bool)(a:K00 n=some r):
  Tr Tryz.prog 211 #[.agg m.toArray] h λv H=>v = .bool r/\H=h:=by
 obtain⟨O,P,t,au,w,Q,rfl,rfl,g,i,c⟩:=H0 S
 obtain⟨rfl,aq⟩:=Sl.len c
 unfold K00 at a
 dsimp only at a
 refine Tr.forget (I3 (args:=[.agg #[.int .i64 O,.int .i64 P,.slice t Q.length w]]) (fn:=Tryz.f211) rfl ?_)
 refine Or.inr (Or.inr (Or.inr (Or.inl (aI (aI (by kernel_rfl) (by kernel_rfl)) ?_))))
 obtain⟨aa,D,a⟩:=B0 a
 refine Or.inl (eX (.val (.bool aa)) (aI ?_ ?_))
 ·intro am Y
  exact Tr.val (w00 _ _ _ (l0 g i (S0.mono Y c)) _ D) (aI rfl (aI rfl rfl))
 obtain⟨l,G,a⟩:=B0 a
 obtain⟨aw,C,a⟩:=B0 a
 have ai:I0 l:=N0 C
 refine Or.inl (eX (.val (.int .i64 l)) (aI ?_ ?_))
 ·intro an Z b
  exact Tr.val (f09 _ _ _ (l0 g i (S0.mono Z c)) _ (a9 G b)) (aI rfl (aI rfl rfl))
 refine Or.inl (eX (.val (.bool (decide (l<0)))) (aI ?_ ?_))
 ·intro ao ax b
  exact aI rfl (aI rfl rfl)
 obtain⟨ab,E,a⟩:=B0 a
 obtain⟨p,s,j⟩:=ab
 try dsimp only at a
 refine Or.inr (eX (λv I=>∃(d:Option Addr) (f:Nat),v = .agg #[.int .i64 p,.int .i64 s,.slice d j.length f]/\I0 p/\I0 s/\S0.R I [.slice d j.length f] j/\j.length<=9223372036854775807) (aI (λv ag ah k q=>by obtain⟨d,f,e,z,A,f2,f3⟩:=q;exact⟨d,f,e,z,A,S0.mono k f2,f3⟩) (aI ?_ ?_)))
 ·intro aj V b
  refine Tr.mono (i03 _ _ _ (l0 g i (S0.mono V c)) _ (a9 E b)) ?_
  rintro _ ap ⟨ae,rfl,T,k⟩
  obtain⟨ay,az,u,av,x,aA,rfl,y,J,K,o⟩:=H0 T
  cases y
  obtain⟨rfl,N⟩:=Sl.len o
  exact aI g03 (aI k ⟨u,x,rfl,J,K,o,N⟩)
 obtain⟨ac,F,a⟩:=B0 a
 refine Or.inl (eX (.val (.bool ac)) (aI ?_ ?_))
 ·intro ak W b
  rintro _ ⟨ad,af,rfl,L,M,U,ar⟩
  exact Tr.val (H09 _ _ _ (l0 L M U) _ _ (l0 g i (S0.mono W c)) _ (a9 F b)) (aI rfl (aI rfl rfl))
 intro al X
 obtain rfl:=oJ a
 exact aI rfl X
theorem j7(h:Hp)(b:List Value)(c:j0)(n:V0.R h b c)(r:Bool)(a:J2 c=some r):
  Tr Tryz.prog 103 #[.agg b.toArray] h λv g=>v = .bool r/\g=h:=by
 obtain⟨k,l,e,p,f,m,rfl,rfl,i,j,d⟩:=H0 n
 obtain⟨rfl,o⟩:=Sl.len d
 unfold J2 at a
 dsimp only at a
 refine Tr.forget (I3 (args:=[.agg #[.int .i64 k,.int .i64 l,.slice e m.length f]]) (fn:=Tryz.f103) rfl ?_)
 refine trV a (a0g _ _ _ (l0 i j d)) λq a=>?_
 obtain rfl:=oJ a
 exact aI rfl (Sub.refl _)
theorem K0f(h:Hp)(H:List Value)(K:j0)(ae:V0.R h H K)(r:b9)(u:P01 K=some r):
  Tr Tryz.prog 376 #[.agg H.toArray] h λv n=>∃(F:Option Addr) (J G:Nat),v = .slice F J G/\b0i.R n [.slice F J G] r/\Sub h n:=by
 obtain⟨ac,ad,L,aw,N,x,rfl,rfl,al,am,C⟩:=H0 ae
 obtain⟨rfl,au⟩:=Sl.len C
 unfold P01 at u
 dsimp only at u
 refine I3 (args:=[.agg #[.int .i64 ac,.int .i64 ad,.slice L x.length N]]) (fn:=Tryz.f376) rfl ?_
 obtain⟨D,U,u⟩:=B0 u
 refine eX { vars:=[4],boxes:=[],owns:=[0],fuel:=true } (eX (λvs os n=>∃ l A w,vs.tail = [.int .i64 l]/\os = [A]/\Sub h n/\I0 l/\F2 (J3.R n) A w/\O7 x (J1 vs) l w=some D) (eX (λ_ _=>0) (aI (eX U0 ⟨0,[],([]:b9),rfl,rfl,(Sub.refl _),(by decide),(show F2 (J3.R h) ([]:List (List Value)) ([]:b9) from trivial),U⟩) ?_)))
 rintro _ A y ab ⟨l,aF,w,⟨⟩,⟨⟩,z,an,I,f⟩
 replace f:O7 x y l w=some D:=f
 obtain _|y:=y
 ·cases f
 rw[O7.eq_2]at f
 refine ifB f (λaa f=>?_) λaa f=>?_
 ·obtain⟨E,V,f⟩:=B0 f
  refine eX { vars:=[5],boxes:=[],owns:=[0],fuel:=true } (eX (λvs os n=>∃ u8 q m,vs.tail = [.int .i64 u8]/\os = [q]/\Sub ab n/\I0 u8/\F2 (J3.R n) q m/\L4 x l (J1 vs) u8 m=some E) (eX (λ_ _=>0) (aI (eX U0 ⟨(IntKind.i64.wrap (l+1)),A,w,rfl,rfl,(Sub.refl _),(J0 _),I,V⟩) ?_)))
  rintro _ q s k ⟨u8,aG,m,⟨⟩,⟨⟩,t,ao,g,e⟩
  replace e:L4 x l s u8 m=some E:=e
  obtain _|s:=s
  ·cases e
  rw[L4.eq_2]at e
  refine ifB e (λW e=>?_) λW e=>?_
  ·refine ld e (S0.mono (z.trans t) C) λaB aj af e=>?_
   obtain⟨c,aC,a,rfl,rfl,o,ap,i⟩:=Q1 af
   try dsimp only at e
   refine ld e (S0.mono (z.trans t) C) λaD ak ag e=>?_
   obtain⟨d,aE,b,rfl,rfl,p,aq,j⟩:=Q1 ag
   try dsimp only at e
   refine ifB e (λX e=>?_) λX e=>?_
   ·obtain⟨ax,Q,e⟩:=B0 e
    refine aI (Y1 Q (by first|rw[F2.length g,F2.length (show F2 (J3.R k) ([[.int .i64 (if b<a then b else a),.int .i64 (if b>a then b else a)]]:List (List Value)) [((if b<a then b else a),(if b>a then b else a))] from⟨(C2 (G8 j i) (G8 j i)),trivial⟩)]|exact congrArg (·+1) (F2.length g))) ?_
    refine ifB e (λY e=>?_) λY e=>?_
    ·obtain⟨ay,S,e⟩:=B0 e
     refine aI (Y1 S (by first|rw[F2.length (F2.append g (show F2 (J3.R k) ([[.int .i64 (if b<a then b else a),.int .i64 (if b>a then b else a)]]:List (List Value)) [((if b<a then b else a),(if b>a then b else a))] from⟨(C2 (G8 j i) (G8 j i)),trivial⟩)),F2.length (show F2 (J3.R k) ([[.int .i64 (if d<c then d else c),.int .i64 (if d>c then d else c)]]:List (List Value)) [((if d<c then d else c),(if d>c then d else c))] from⟨(C2 (G8 p o) (G8 p o)),trivial⟩)]|exact congrArg (·+1) (F2.length (F2.append g (show F2 (J3.R k) ([[.int .i64 (if b<a then b else a),.int .i64 (if b>a then b else a)]]:List (List Value)) [((if b<a then b else a),(if b>a then b else a))] from⟨(C2 (G8 j i) (G8 j i)),trivial⟩))))) ?_
     exact O2 s ⟨(IntKind.i64.wrap (u8+1)),((q++([[.int .i64 (if b<a then b else a),.int .i64 (if b>a then b else a)]]:List (List Value)))++([[.int .i64 (if d<c then d else c),.int .i64 (if d>c then d else c)]]:List (List Value))),((m ++ [((if b<a then b else a),(if b>a then b else a))]) ++ [((if d<c then d else c),(if d>c then d else c))]),rfl,rfl,t,(J0 _),(F2.append (F2.append g (show F2 (J3.R k) ([[.int .i64 (if b<a then b else a),.int .i64 (if b>a then b else a)]]:List (List Value)) [((if b<a then b else a),(if b>a then b else a))] from⟨(C2 (G8 j i) (G8 j i)),trivial⟩)) (show F2 (J3.R k) ([[.int .i64 (if d<c then d else c),.int .i64 (if d>c then d else c)]]:List (List Value)) [((if d<c then d else c),(if d>c then d else c))] from⟨(C2 (G8 p o) (G8 p o)),trivial⟩)),e⟩
    ·exact O2 s ⟨(IntKind.i64.wrap (u8+1)),(q++([[.int .i64 (if b<a then b else a),.int .i64 (if b>a then b else a)]]:List (List Value))),(m ++ [((if b<a then b else a),(if b>a then b else a))]),rfl,rfl,t,(J0 _),(F2.append g (show F2 (J3.R k) ([[.int .i64 (if b<a then b else a),.int .i64 (if b>a then b else a)]]:List (List Value)) [((if b<a then b else a),(if b>a then b else a))] from⟨(C2 (G8 j i) (G8 j i)),trivial⟩)),e⟩
   ·refine ifB e (λZ e=>?_) λZ e=>?_
    ·obtain⟨az,T,e⟩:=B0 e
     refine aI (Y1 T (by first|rw[F2.length g,F2.length (show F2 (J3.R k) ([[.int .i64 (if d<c then d else c),.int .i64 (if d>c then d else c)]]:List (List Value)) [((if d<c then d else c),(if d>c then d else c))] from⟨(C2 (G8 p o) (G8 p o)),trivial⟩)]|exact congrArg (·+1) (F2.length g))) ?_
     exact O2 s ⟨(IntKind.i64.wrap (u8+1)),(q++([[.int .i64 (if d<c then d else c),.int .i64 (if d>c then d else c)]]:List (List Value))),(m ++ [((if d<c then d else c),(if d>c then d else c))]),rfl,rfl,t,(J0 _),(F2.append g (show F2 (J3.R k) ([[.int .i64 (if d<c then d else c),.int .i64 (if d>c then d else c)]]:List (List Value)) [((if d<c then d else c),(if d>c then d else c))] from⟨(C2 (G8 p o) (G8 p o)),trivial⟩)),e⟩
    ·exact O2 s ⟨(IntKind.i64.wrap (u8+1)),q,m,rfl,rfl,t,(J0 _),g,e⟩
  ·obtain rfl:=oJ e
   try dsimp only[W0,Y0]at f
   exact O2 y ⟨(IntKind.i64.wrap (l+1)),q,m,rfl,rfl,(z.trans t),(J0 _),g,f⟩
 ·obtain rfl:=oJ f
  try dsimp only[W0,Y0]at u
  intro aA ar P
  obtain⟨M,O,rfl,ah,ai,av⟩:=G1.out (r:=J3.toRp) P I
  obtain rfl:=oJ u
  exact⟨M,w.length,O,rfl,ah,(z.trans ai)⟩
theorem n0c(h:Hp)(d:List Value)(i:j0)(w:V0.R h d i)(r:H4×Bool)(a:U9 i=some r):
  Tr Tryz.prog 349 #[.agg d.toArray] h λv e=>∃(c:List Value),v = .tuple #[.agg c.toArray,.bool r.2]/\J3.R e c r.1/\Sub h e:=by
 obtain⟨s,t,l,H,m,u,rfl,rfl,f,g,b⟩:=H0 w
 obtain⟨rfl,F⟩:=Sl.len b
 unfold U9 at a
 dsimp only at a
 refine I3 (args:=[.agg #[.int .i64 s,.int .i64 t,.slice l u.length m]]) (fn:=Tryz.f349) rfl ?_
 refine trV a (r9 _ _ _ (l0 f g b)) λK a=>?_
 refine ifB a (λn a=>?_) λn a=>?_
 ·obtain rfl:=oJ a
  exact⟨([.int .i64 0,.int .i64 0]),rfl,(C2 (by decide) (by decide)),(Sub.refl _)⟩
 ·refine trM a (K0f _ _ _ (l0 f g b)) ?_
  rintro L a J E ⟨A,I,D,rfl,j,k⟩
  obtain⟨rfl,G⟩:=Sl.len j
  refine ifB a (λo a=>?_) λo a=>?_
  ·obtain rfl:=oJ a
   exact⟨([.int .i64 0,.int .i64 0]),rfl,(C2 (by decide) (by decide)),k⟩
  ·refine ld a j λM C x a=>?_
   obtain⟨y,z,rfl,rfl,p,q⟩:=c00 x
   try dsimp only at a
   obtain rfl:=oJ a
   exact⟨([.int .i64 y,.int .i64 z]),rfl,(C2 p q),k⟩
theorem Z0a(h:Hp)(b:Int)(m:I0 b)(c:List Value)(d:H4)(l:J3.R h c d)(r:Int)(a:c02 b d=some r):
  Tr Tryz.prog 377 #[.int .i64 b,.agg c.toArray] h λv e=>v = .int .i64 r/\e=h:=by
 obtain⟨j,k,rfl,rfl,n,o⟩:=c00 l
 unfold c02 at a
 dsimp only at a
 refine Tr.forget (I3 (args:=[.int .i64 b,.agg #[.int .i64 j,.int .i64 k]]) (fn:=Tryz.f377) rfl ?_)
 refine ifB a (λf a=>?_) λf a=>?_
 ·refine ifB a (λg a=>?_) λg a=>?_
  ·obtain rfl:=oJ a
   exact aI rfl (Sub.refl _)
  ·obtain rfl:=oJ a
   exact aI rfl (Sub.refl _)
 ·refine ifB a (λi a=>?_) λi a=>?_
  ·obtain rfl:=oJ a
   exact aI rfl (Sub.refl _)
  ·obtain rfl:=oJ a
   exact aI rfl (Sub.refl _)
theorem a08(h:Hp)(y:List Value)(G:j0)(al:V0.R h y G)(z:List Value)(J:H4)(am:J3.R h z J)(r:j0×Bool)(b:P7 G J=some r):
  Tr Tryz.prog 350 #[.agg y.toArray,.agg z.toArray] h λv e=>∃(x:List Value),v = .tuple #[.agg x.toArray,.bool r.2]/\V0.R e x r.1/\Sub h e:=by
 obtain⟨H,I,P,aJ,T,n,rfl,rfl,l,A,k⟩:=H0 al
 obtain⟨rfl,aE⟩:=Sl.len k
 obtain⟨o,p,rfl,rfl,C,D⟩:=c00 am
 unfold P7 at b
 dsimp only at b
 refine I3 (args:=[.agg #[.int .i64 H,.int .i64 I,.slice P n.length T],.agg #[.int .i64 o,.int .i64 p]]) (fn:=Tryz.f350) rfl ?_
 refine trV b (r9 _ _ _ (l0 l A k)) λaT b=>?_
 refine ifB b (λac b=>?_) λac b=>?_
 ·refine trM b (a8 _ _ _ (l0 l A k)) ?_
  rintro aX b aS ak ⟨ax,rfl,N⟩
  have ap:Sub h ak:=N.sub
  have ao:=N.r
  obtain⟨ar,au,S,aL,V,av,rfl,rfl,ai,aj,L⟩:=H0 ao
  obtain⟨rfl,aH⟩:=Sl.len L
  try dsimp only at b
  obtain rfl:=oJ b
  exact⟨([.int .i64 ar,.int .i64 au,.slice S av.length V]),rfl,(l0 ai aj L),ap⟩
 ·obtain⟨w,aa,b⟩:=B0 b
  refine eX { vars:=[7],boxes:=[3],owns:=[],fuel:=true } (eX (λvs os e=>∃ d u8 c g m i f,vs.tail = [.int .i64 d,.int .i64 u8,.int .i64 c,.slice g m i]/\os = []/\Sub h e/\I0 d/\I0 u8/\I0 c/\S0.R e [.slice g m i] f/\P4 n o p (J1 vs) d u8 c f=some w) (eX (λ_ _=>0) (aI (eX U0 ⟨0,H,(IntKind.i64.wrap (I-1)),none,0,0,[],rfl,rfl,(Sub.refl _),(by decide),l,(J0 _),(F0j H1 h),aa⟩) ?_)))
  rintro _ _ _ _ j az ⟨d,u8,c,g,m,i,f,⟨⟩,⟨⟩,s,ay,E,F,q,a⟩
  replace a:P4 n o p j d u8 c f=some w:=a
  obtain _|j:=j
  ·cases a
  rw[P4.eq_2]at a
  obtain⟨rfl,aF⟩:=Sl.len q
  refine ifB a (λab a=>?_) λab a=>?_
  ·refine ld a (S0.mono s k) λaU aw an a=>?_
   obtain⟨aV,aq,aW,rfl,rfl,ad,ae,af⟩:=Q1 an
   try dsimp only at a
   refine Or.inr (Or.inr (Or.inl (aI (aI (by kernel_rfl) (by kernel_rfl)) ?_)))
   obtain⟨t,Y,a⟩:=B0 a
   obtain⟨aM,W,a⟩:=B0 a
   have ag:I0 t:=N0 W
   refine Or.inl (eX (.val (.int .i64 t)) (aI ?_ ?_))
   ·intro aA aO
    exact Tr.val (Z0a _ _ ad _ _ (C2 C D) _ Y) (aI rfl (aI rfl rfl))
   obtain⟨u,Z,a⟩:=B0 a
   obtain⟨aN,X,a⟩:=B0 a
   have ah:I0 u:=N0 X
   refine Or.inl (eX (.val (.int .i64 u)) (aI ?_ ?_))
   ·intro aB aP
    exact Tr.val (Z0a _ _ af _ _ (C2 C D) _ Z) (aI rfl (aI rfl rfl))
   refine Or.inl (eX (.agg [.val (.int .i64 t),.val (.int .i64 aq),.val (.int .i64 u)]) (aI ?_ ?_))
   ·intro aC aQ
    exact aI rfl (aI rfl rfl)
   refine Or.inr ?_
   refine Or.inr ?_
   refine Or.inl (eX 1 (aI (aI rfl rfl) ?_))
   refine trM a (U06 _ _ _ _ _ q _ _ (T1 ag ae ah)) ?_
   rintro O a aR aD ⟨Q,aK,U,rfl,K,M⟩
   obtain⟨rfl,aG⟩:=Sl.len K
   refine aI (aI rfl M) (aI (by first|exact trivial|exact rfl) ?_)
   refine aI trivial (aI (by first|exact trivial|exact rfl) ?_)
   exact O2 j ⟨(IntKind.i64.wrap (d+1)),u8,c,Q,O.length,U,O,rfl,rfl,(s.trans M),(J0 _),E,F,K,a⟩
  ·obtain rfl:=oJ a
   try dsimp only[W0,Y0]at b
   obtain rfl:=oJ b
   exact⟨([.int .i64 u8,.int .i64 c,.slice g f.length i]),rfl,(l0 E F q),s⟩
theorem T0c(h:Hp)(j:List Value)(m:j0)(L:V0.R h j m)(r:j0×H4×Bool)(a:o01 m=some r):
  Tr Tryz.prog 338 #[.agg j.toArray] h λv d=>∃(g:List Value) (i:List Value),v = .tuple #[.agg g.toArray,.agg i.toArray,.bool r.2.2]/\V0.R d g r.1/\J3.R d i r.2.1/\Sub h d:=by
 obtain⟨I,J,t,ah,x,K,rfl,rfl,e,f,b⟩:=H0 L
 obtain⟨rfl,ae⟩:=Sl.len b
 unfold o01 at a
 dsimp only at a
 refine I3 (args:=[.agg #[.int .i64 I,.int .i64 J,.slice t K.length x]]) (fn:=Tryz.f338) rfl ?_
 refine trM a (n0c _ _ _ (l0 e f b)) ?_
 rintro P a al G ⟨aa,rfl,n,c⟩
 obtain⟨an,ao⟩:=P
 dsimp only at a n
 obtain⟨Q,S,rfl,rfl,k,l⟩:=c00 n
 try dsimp only at a
 refine ifB a (λA a=>?_) λA a=>?_
 ·refine trM a (a8 _ _ _ (l0 e f (S0.mono c b))) ?_
  rintro ap a am H ⟨ab,rfl,s⟩
  have N:Sub G H:=s.sub
  have M:=s.r
  obtain⟨T,U,u,ai,y,V,rfl,rfl,C,D,o⟩:=H0 M
  obtain⟨rfl,af⟩:=Sl.len o
  try dsimp only at a
  obtain rfl:=oJ a
  exact⟨([.int .i64 T,.int .i64 U,.slice u V.length y]),([.int .i64 0,.int .i64 0]),rfl,(l0 C D o),(C2 (by decide) (by decide)),(c.trans N)⟩
 ·refine trM a (a08 _ _ _ (l0 e f (S0.mono c b)) _ _ (C2 k l)) ?_
  rintro W a ak ad ⟨ac,rfl,p,O⟩
  obtain⟨aq,ar⟩:=W
  dsimp only at a p
  obtain⟨X,Y,w,aj,z,Z,rfl,rfl,E,F,q⟩:=H0 p
  obtain⟨rfl,ag⟩:=Sl.len q
  try dsimp only at a
  refine Or.inr (Or.inr (Or.inl (aI (aI (by kernel_rfl) (by kernel_rfl)) ?_)))
  refine Or.inr ?_
  refine Or.inr ?_
  refine Or.inl (eX 0 (aI (aI rfl rfl) ?_))
  refine aI trivial (aI (by first|exact trivial|exact rfl) ?_)
  refine aI trivial (aI (by first|exact trivial|exact rfl) ?_)
  obtain rfl:=oJ a
  exact⟨([.int .i64 X,.int .i64 Y,.slice w Z.length z]),([.int .i64 Q,.int .i64 S]),rfl,(l0 E F q),(C2 k l),(c.trans O)⟩
theorem L0f(h:Hp)(D:List Value)(I:j0)(aw:V0.R h D I)(r:j0×b9)(b:Q01 I=some r):
  Tr Tryz.prog 310 #[.agg D.toArray] h λv c=>∃(C:List Value) (z:Option Addr) (H A:Nat),v = .tuple #[.agg C.toArray,.slice z H A]/\V0.R c C r.1/\b0i.R c [.slice z H A] r.2/\Sub h c:=by
 obtain⟨ar,au,V,aT,aa,av,rfl,rfl,al,am,J⟩:=H0 aw
 obtain⟨rfl,aN⟩:=Sl.len J
 unfold Q01 at b
 dsimp only at b
 refine I3 (args:=[.agg #[.int .i64 ar,.int .i64 au,.slice V av.length aa]]) (fn:=Tryz.f310) rfl ?_
 refine trM b (a8 _ _ _ (l0 al am J)) ?_
 rintro a1 b a0 u ⟨aF,rfl,S⟩
 have O:Sub h u:=S.sub
 have ax:=S.r
 obtain⟨aD,aE,X,aV,ac,U,rfl,rfl,ap,aq,N⟩:=H0 ax
 obtain⟨rfl,aQ⟩:=Sl.len N
 try dsimp only at b
 obtain⟨y,ai,b⟩:=B0 b
 refine eX { vars:=[6],boxes:=[2],owns:=[0],fuel:=true } (eX (λvs os c=>∃ i e f l w m u8 q g,vs.tail = [.int .i64 i,.int .i64 e,.int .i64 f,.slice l w m]/\os = [q]/\Sub u c/\I0 i/\I0 e/\I0 f/\S0.R c [.slice l w m] u8/\F2 (J3.R c) q g/\G6 (J1 vs) i e f u8 g=some y) (eX (λ_ _=>0) (aI (eX U0 ⟨0,aD,aE,X,U.length,ac,U,[],([]:b9),rfl,rfl,(Sub.refl _),(by decide),ap,aq,N,(show F2 (J3.R u) ([]:List (List Value)) ([]:b9) from trivial),ai⟩) ?_)))
 rintro _ _ _ _ q o aK ⟨i,e,f,l,w,m,u8,ba,g,⟨⟩,⟨⟩,x,aJ,s,t,p,n,a⟩
 replace a:G6 o i e f u8 g=some y:=a
 obtain _|o:=o
 ·cases a
 rw[G6.eq_2]at a
 obtain⟨rfl,aO⟩:=Sl.len p
 refine ifB a (λaj a=>?_) λaj a=>?_
 ·refine trM a (T0c _ _ _ (l0 s t p)) ?_
  rintro aA a aX G ⟨aG,aH,rfl,K,M,d⟩
  obtain⟨a2,a3,a4⟩:=aA
  dsimp only at a K M
  obtain⟨aB,aC,W,aU,ab,T,rfl,rfl,an,ao,L⟩:=H0 K
  obtain⟨rfl,aP⟩:=Sl.len L
  try dsimp only at a
  obtain⟨j,k,rfl,rfl,E,F⟩:=c00 M
  try dsimp only at a
  refine ifB a (λak a=>?_) λak a=>?_
  ·intro aY aL af
   obtain⟨Y,ad,rfl,ay,P,aR⟩:=G1.out (r:=J3.toRp) af (F2.up (r:=J3.toRp) d n)
   obtain rfl:=oJ a
   try dsimp only[l4,C4]at b
   obtain rfl:=oJ b
   exact⟨([.int .i64 e,.int .i64 f,.slice l u8.length m]),Y,g.length,ad,rfl,(l0 s t (S0.mono (d.trans P) p)),ay,(((O.trans x).trans d).trans P)⟩
  ·obtain⟨aW,ah,a⟩:=B0 a
   refine aI (Y1 ah (by first|rw[F2.length (F2.up (r:=J3.toRp) d n),F2.length (show F2 (J3.R G) ([[.int .i64 j,.int .i64 k]]:List (List Value)) [(j,k)] from⟨(C2 E F),trivial⟩)]|exact congrArg (·+1) (F2.length (F2.up (r:=J3.toRp) d n)))) ?_
   exact O2 o ⟨(IntKind.i64.wrap (i+1)),aB,aC,W,T.length,ab,T,(q++([[.int .i64 j,.int .i64 k]]:List (List Value))),(g ++ [(j,k)]),rfl,rfl,(x.trans d),(J0 _),an,ao,L,(F2.append (F2.up (r:=J3.toRp) d n) (show F2 (J3.R G) ([[.int .i64 j,.int .i64 k]]:List (List Value)) [(j,k)] from⟨(C2 E F),trivial⟩)),a⟩
 ·obtain rfl:=oJ a
  try dsimp only[W0,Y0]at b
  intro aZ aM ag
  obtain⟨Z,ae,rfl,az,Q,aS⟩:=G1.out (r:=J3.toRp) ag n
  obtain rfl:=oJ b
  exact⟨([.int .i64 e,.int .i64 f,.slice l u8.length m]),Z,g.length,ae,rfl,(l0 s t (S0.mono Q p)),az,((O.trans x).trans Q)⟩
theorem o0c(h:Hp)(ak:List Value)(ap:j0)(ba:V0.R h ak ap)(r:j0×P0)(d:U00 ap=some r):
  Tr Tryz.prog 311 #[.agg ak.toArray] h λv c=>∃(aj:List Value) (ah:Option Addr) (ao ai:Nat),v = .tuple #[.agg aj.toArray,.slice ah ao ai]/\V0.R c aj r.1/\K1.R c [.slice ah ao ai] r.2/\Sub h c:=by
 obtain⟨C,D,aB,bE,aG,E,rfl,rfl,V,W,P⟩:=H0 ba
 obtain⟨rfl,bu⟩:=Sl.len P
 unfold U00 at d
 dsimp only at d
 refine I3 (args:=[.agg #[.int .i64 C,.int .i64 D,.slice aB E.length aG]]) (fn:=Tryz.f311) rfl ?_
 refine trM d (a8 _ _ _ (l0 V W P)) ?_
 rintro bQ d bM X ⟨bl,rfl,ay⟩
 have T:Sub h X:=ay.sub
 have bb:=ay.r
 obtain⟨bf,bg,aC,bF,aH,az,rfl,rfl,a1,a2,aq⟩:=H0 bb
 obtain⟨rfl,bz⟩:=Sl.len aq
 try dsimp only at d
 obtain⟨ag,aV,d⟩:=B0 d
 refine eX { vars:=[6],boxes:=[],owns:=[0],fuel:=true } (eX (λvs os c=>∃ f U l,vs.tail = [.int .i64 f]/\os = [U]/\Sub X c/\I0 f/\F2 (Wp.int.R c) U l/\o6 D C E (J1 vs) f l=some ag) (eX (λ_ _=>0) (aI (eX U0 ⟨0,[],([]:P0),rfl,rfl,(Sub.refl _),(by decide),(show F2 (Wp.int.R X) ([]:List (List Value)) ([]:P0) from trivial),aV⟩) ?_)))
 rintro _ U O Z ⟨f,bX,l,⟨⟩,⟨⟩,m,am,J,a⟩
 replace a:o6 D C E O f l=some ag:=a
 obtain _|O:=O
 ·cases a
 rw[o6.eq_2]at a
 refine trG a (λq=>r9 _ _ _ (l0 V W (S0.mono (T.trans m) P))) λbU a=>?_
 refine ifB a (λaW a=>?_) λaW a=>?_
 ·obtain⟨bH,aP,a⟩:=B0 a
  refine aI (Y1 aP (by first|rw[F2.length J,F2.length (show F2 (Wp.int.R Z) ([[.int .i64 f]]:List (List Value)) [f] from⟨⟨rfl,am⟩,trivial⟩)]|exact congrArg (·+1) (F2.length J))) ?_
  exact O2 O ⟨(IntKind.i64.wrap (f+1)),(U++([[.int .i64 f]]:List (List Value))),(l ++ [f]),rfl,rfl,m,(J0 _),(F2.append J (show F2 (Wp.int.R Z) ([[.int .i64 f]]:List (List Value)) [f] from⟨⟨rfl,am⟩,trivial⟩)),a⟩
 ·obtain rfl:=oJ a
  try dsimp only[W0,Y0]at d
  obtain⟨ae,aT,d⟩:=B0 d
  refine eX { vars:=[5,7],boxes:=[2],owns:=[],fuel:=true,pubs:=[5] } (eX (λvs os c=>∃(t:Option Addr) (aa w:Nat) (i:P0) (n:Int) (k:Int) (g:Int) (u:Option Addr) (ab x:Nat) (o:O0),vs.tail = [.slice t aa w,.int .i64 n,.int .i64 k,.int .i64 g,.slice u ab x]/\os = []/\Sub Z c/\K1.R c [.slice t aa w] i/\I0 n/\I0 k/\I0 g/\S0.R c [.slice u ab x] o/\l6 C D E (J1 vs) i n k g o=some ae) (eX (λ_ _=>0) ?_))
  intro bL bq aM
  obtain⟨aE,aK,rfl,bc,aw,bB⟩:=G1.out (r:=Wp.int.toRp) aM J
  refine aI (eX U0 ⟨aE,l.length,aK,l,0,bf,bg,aC,az.length,aH,az,rfl,rfl,aw,bc,(by decide),a1,a2,(S0.mono (m.trans aw) aq),aT⟩) ?_
  rintro _ _ _ _ _ N Y ⟨t,aa,w,i,n,k,g,u,ab,x,o,⟨⟩,⟨⟩,S,Q,bo,K,L,F,a⟩
  replace a:l6 C D E N i n k g o=some ae:=a
  obtain _|N:=N
  ·cases a
  rw[l6.eq_2]at a
  obtain⟨rfl,bv⟩:=Sl.len Q
  obtain⟨rfl,bx⟩:=Sl.len F
  refine trG a (λq=>r9 _ _ _ (l0 V W (S0.mono ((T.trans m).trans S) P))) λbR a=>?_
  refine ifB a (λaX a=>?_) λaX a=>?_
  ·refine trV a (f09 _ _ _ (l0 K L F)) λad a=>?_
   obtain⟨bI,aQ,a⟩:=B0 a
   have bp:I0 ad:=N0 aQ
   refine ifB a (λaY a=>?_) λaY a=>?_
   ·obtain rfl:=oJ a
    try dsimp only[l4,C4]at d
    obtain rfl:=oJ d
    exact⟨([.int .i64 k,.int .i64 g,.slice u o.length x]),t,i.length,w,rfl,(l0 K L F),Q,((T.trans m).trans S)⟩
   ·obtain⟨af,aU,a⟩:=B0 a
    refine eX { vars:=[11],boxes:=[],owns:=[1,2],fuel:=true } (eX (λvs os c=>∃ e H p I j,vs.tail = [.int .i64 e]/\os = [H,I]/\Sub Y c/\I0 e/\F2 (Wp.int.R c) H p/\F2 (Wp.int.R c) I j/\M5 g ad i (J1 vs) e p j=some af) (eX (λ_ _=>0) (aI (eX U0 ⟨0,[],([]:P0),[],([]:P0),rfl,rfl,(Sub.refl _),(by decide),(show F2 (Wp.int.R Y) ([]:List (List Value)) ([]:P0) from trivial),(show F2 (Wp.int.R Y) ([]:List (List Value)) ([]:P0) from trivial),aU⟩) ?_)))
    rintro _ H I A M ⟨e,bV,p,bW,j,⟨⟩,⟨⟩,G,al,y,z,b⟩
    replace b:M5 g ad i A e p j=some af:=b
    obtain _|A:=A
    ·cases b
    rw[M5.eq_2]at b
    refine ifB b (λaZ b=>?_) λaZ b=>?_
    ·refine ifB b (λa0 b=>?_) λa0 b=>?_
     ·obtain⟨bJ,aR,b⟩:=B0 b
      refine aI (Y1 aR (by first|rw[F2.length y,F2.length (show F2 (Wp.int.R M) ([[.int .i64 e]]:List (List Value)) [e] from⟨⟨rfl,al⟩,trivial⟩)]|exact congrArg (·+1) (F2.length y))) ?_
      refine ldI b (K1.mono G Q) λs an b=>?_
      obtain⟨bK,aS,b⟩:=B0 b
      refine aI (Y1 aS (by first|rw[F2.length z,F2.length (show F2 (Wp.int.R M) ([[.int .i64 s]]:List (List Value)) [s] from⟨⟨rfl,an⟩,trivial⟩)]|exact congrArg (·+1) (F2.length z))) ?_
      exact O2 A ⟨(IntKind.i64.wrap (e+1)),(H++([[.int .i64 e]]:List (List Value))),(p ++ [e]),(I++([[.int .i64 s]]:List (List Value))),(j ++ [s]),rfl,rfl,G,(J0 _),(F2.append y (show F2 (Wp.int.R M) ([[.int .i64 e]]:List (List Value)) [e] from⟨⟨rfl,al⟩,trivial⟩)),(F2.append z (show F2 (Wp.int.R M) ([[.int .i64 s]]:List (List Value)) [s] from⟨⟨rfl,an⟩,trivial⟩)),b⟩
     ·exact O2 A ⟨(IntKind.i64.wrap (e+1)),H,p,I,j,rfl,rfl,G,(J0 _),y,z,b⟩
    ·obtain rfl:=oJ b
     try dsimp only[W0,Y0]at a
     refine Or.inl ?_
     intro bN br aN
     obtain⟨bk,bn,rfl,bd,ac,bC⟩:=G1.out (r:=Wp.int.toRp) aN y
     refine trM a (V01 _ _ _ (l0 K L (S0.mono (G.trans ac) F)) _ _ _ _ bd) ?_
     rintro bh a bO bs ⟨bm,rfl,ar,av⟩
     obtain⟨bS,bT⟩:=bh
     dsimp only at a ar
     obtain⟨bi,bj,aD,bG,aJ,aA,rfl,rfl,a3,a4,au⟩:=H0 ar
     obtain⟨rfl,bA⟩:=Sl.len au
     try dsimp only at a
     intro bP bt aO
     obtain⟨aF,aL,rfl,be,ax,bD⟩:=G1.out (r:=Wp.int.toRp) aO (F2.up (r:=Wp.int.toRp) (ac.trans av) z)
     exact O2 N ⟨aF,j.length,aL,j,(IntKind.i64.wrap (n+1)),bi,bj,aD,aA.length,aJ,aA,rfl,rfl,((((S.trans G).trans ac).trans av).trans ax),be,(J0 _),a3,a4,(S0.mono ax au),a⟩
  ·obtain rfl:=oJ a
   try dsimp only[W0,Y0]at d
   obtain rfl:=oJ d
   exact⟨([.int .i64 k,.int .i64 g,.slice u o.length x]),t,i.length,w,rfl,(l0 K L F),Q,((T.trans m).trans S)⟩
theorem j06(h:Hp)(c:List Value)(e:j0)(G:V0.R h c e)(r:j0)(a:S7 e=some r):
  Tr Tryz.prog 242 #[.agg c.toArray] h λv d=>∃(b:List Value),v = .agg b.toArray/\V0.R d b r/\Sub h d:=by
 obtain⟨D,E,o,al,q,F,rfl,rfl,t,u,f⟩:=H0 G
 obtain⟨rfl,af⟩:=Sl.len f
 unfold S7 at a
 dsimp only at a
 refine I3 (args:=[.agg #[.int .i64 D,.int .i64 E,.slice o F.length q]]) (fn:=Tryz.f242) rfl ?_
 refine trM a (L0f _ _ _ (l0 t u f)) ?_
 rintro L a ar ac ⟨V,S,an,Z,rfl,g,j,I⟩
 obtain⟨aw,aA⟩:=L
 dsimp only at a g j
 obtain⟨ax,ay,Q,am,Y,az,rfl,rfl,w,x,i⟩:=H0 g
 obtain⟨rfl,ag⟩:=Sl.len i
 try dsimp only at a
 obtain⟨rfl,ah⟩:=Sl.len j
 refine trM a (o0c _ _ _ (l0 w x i)) ?_
 rintro M a au ad ⟨W,U,ap,ab,rfl,k,m,J⟩
 obtain⟨aB,aF⟩:=M
 dsimp only at a k m
 obtain⟨aC,aD,T,ao,aa,aE,rfl,rfl,y,z,l⟩:=H0 k
 obtain⟨rfl,ai⟩:=Sl.len l
 try dsimp only at a
 obtain⟨rfl,aj⟩:=Sl.len m
 refine trM a (i03 _ _ _ (l0 y z l)) ?_
 rintro aG a av ae ⟨X,rfl,H,K⟩
 obtain⟨N,O,p,aq,s,P,rfl,rfl,A,C,n⟩:=H0 H
 obtain⟨rfl,ak⟩:=Sl.len n
 try dsimp only at a
 obtain rfl:=oJ a
 exact⟨([.int .i64 N,.int .i64 O,.slice p P.length s]),rfl,(l0 A C n),((I.trans J).trans K)⟩
theorem b07(h:Hp)(s:List Value)(x:j0)(ab:V0.R h s x)(c:Int)(t:I0 c)(r:j0×Bool)(a:B7 x c=some r):
  Tr Tryz.prog 253 #[.agg s.toArray,.int .i64 c] h λv f=>∃(p:List Value),v = .tuple #[.agg p.toArray,.bool r.2]/\V0.R f p r.1/\Sub h f:=by
 obtain⟨Z,j,F,aG,I,aa,rfl,rfl,m,n,k⟩:=H0 ab
 obtain⟨rfl,aB⟩:=Sl.len k
 unfold B7 at a
 dsimp only at a
 refine I3 (args:=[.agg #[.int .i64 Z,.int .i64 j,.slice F aa.length I],.int .i64 c]) (fn:=Tryz.f253) rfl ?_
 refine trV a (w00 _ _ _ (l0 m n k)) λaQ a=>?_
 refine trG a (λq=>p9 _ _ t 0 (by decide) (IntKind.i64.wrap (j-1)) (J0 _)) λaW a=>?_
 refine ifB a (λQ a=>?_) λQ a=>?_
 ·refine trM a (a8 _ _ _ (l0 m n k)) ?_
  rintro aY a aP Y ⟨av,rfl,E⟩
  have ah:Sub h Y:=E.sub
  have ad:=E.r
  obtain⟨am,an,H,aK,K,ao,rfl,rfl,W,X,C⟩:=H0 ad
  obtain⟨rfl,aE⟩:=Sl.len C
  try dsimp only at a
  obtain rfl:=oJ a
  exact⟨([.int .i64 am,.int .i64 an,.slice H ao.length K]),rfl,(l0 W X C),ah⟩
 ·obtain⟨o,N,a⟩:=B0 a
  refine eX { vars:=[7],boxes:=[],owns:=[0],fuel:=true } (eX (λvs os f=>∃ u8 i d,vs.tail = [.int .i64 u8]/\os = [i]/\Sub h f/\I0 u8/\F2 (Wp.int.R f) i d/\R4 j c (J1 vs) u8 d=some o) (eX (λ_ _=>0) (aI (eX U0 ⟨0,([[.int .i64 c]]:List (List Value)),[c],rfl,rfl,(Sub.refl _),(by decide),(show F2 (Wp.int.R h) ([[.int .i64 c]]:List (List Value)) [c] from⟨⟨rfl,t⟩,trivial⟩),N⟩) ?_)))
  rintro _ i g w ⟨u8,aZ,d,⟨⟩,⟨⟩,l,u,e,b⟩
  replace b:R4 j c g u8 d=some o:=b
  obtain _|g:=g
  ·cases b
  rw[R4.eq_2]at b
  refine ifB b (λO b=>?_) λO b=>?_
  ·refine ifB b (λP b=>?_) λP b=>?_
   ·obtain⟨aL,M,b⟩:=B0 b
    refine aI (Y1 M (by first|rw[F2.length e,F2.length (show F2 (Wp.int.R w) ([[.int .i64 u8]]:List (List Value)) [u8] from⟨⟨rfl,u⟩,trivial⟩)]|exact congrArg (·+1) (F2.length e))) ?_
    exact O2 g ⟨(IntKind.i64.wrap (u8+1)),(i++([[.int .i64 u8]]:List (List Value))),(d ++ [u8]),rfl,rfl,l,(J0 _),(F2.append e (show F2 (Wp.int.R w) ([[.int .i64 u8]]:List (List Value)) [u8] from⟨⟨rfl,u⟩,trivial⟩)),b⟩
   ·exact O2 g ⟨(IntKind.i64.wrap (u8+1)),i,d,rfl,rfl,l,(J0 _),e,b⟩
  ·obtain rfl:=oJ b
   try dsimp only[W0,Y0]at a
   refine Or.inl ?_
   intro aM ay L
   obtain⟨aq,ax,rfl,ae,D,aF⟩:=G1.out (r:=Wp.int.toRp) L e
   refine trM a (V01 _ _ _ (l0 m n (S0.mono (l.trans D) k)) _ _ _ _ ae) ?_
   rintro ai a aN az ⟨ar,rfl,y,af⟩
   obtain⟨aR,aV⟩:=ai
   dsimp only at a y
   obtain⟨aS,aT,ap,aH,aw,aU,rfl,rfl,S,T,z⟩:=H0 y
   obtain⟨rfl,aC⟩:=Sl.len z
   try dsimp only at a
   refine trM a (j06 _ _ _ (l0 S T z)) ?_
   rintro aX a aO aA ⟨au,rfl,ac,ag⟩
   obtain⟨aj,ak,G,aJ,J,al,rfl,rfl,U,V,A⟩:=H0 ac
   obtain⟨rfl,aD⟩:=Sl.len A
   try dsimp only at a
   obtain rfl:=oJ a
   exact⟨([.int .i64 aj,.int .i64 ak,.slice G al.length J]),rfl,(l0 U V A),(((l.trans D).trans af).trans ag)⟩
set_option maxHeartbeats 0
theorem g09(h:Hp)(b:List Value)(c:j0)(o:V0.R h b c)(r:Int)(a:L00 c=some r):
  Tr Tryz.prog 117 #[.agg b.toArray] h λv g=>v = .int .i64 r/\g=h:=by
 obtain⟨l,m,e,q,f,n,rfl,rfl,j,k,d⟩:=H0 o
 obtain⟨rfl,p⟩:=Sl.len d
 unfold L00 at a
 dsimp only at a
 refine Tr.forget (I3 (args:=[.agg #[.int .i64 l,.int .i64 m,.slice e n.length f]]) (fn:=Tryz.f117) rfl ?_)
 refine trV a (j7 _ _ _ (l0 j k d)) λs a=>?_
 refine ifB a (λi a=>?_) λi a=>?_
 ·obtain rfl:=oJ a
  exact aI rfl (Sub.refl _)
 ·obtain rfl:=oJ a
  exact aI rfl (Sub.refl _)
theorem U0c(h:Hp)(c:Option Addr)(k d:Nat)(b:P0)(l:K1.R h [.slice c k d] b)(r:P0)(a:l01 b=some r):
  Tr Tryz.prog 93 #[.slice c k d] h λv q=>∃(i:Nat) (j f:Nat),v = .slice (some ⟨i,0,none⟩) j f/\New K1 h q [.slice (some ⟨i,0,none⟩) j f] r:=by
 obtain⟨rfl,u⟩:=Sl.len l
 unfold l01 at a
 refine I3 (args:=[.slice c b.length d]) (fn:=Tryz.f93) rfl ?_
 obtain⟨s,n,e⟩:=Sl.rows (r:=Wp.int.toRp) l
 refine eX s (aI n ?_)
 obtain⟨x,o,a⟩:=B0 a
 refine aI (Y1 o (by first|rw[F2.length (show F2 (Wp.int.R h) ([]:List (List Value)) ([]:P0) from trivial),F2.length e]|exact congrArg (·+1) (F2.length (show F2 (Wp.int.R h) ([]:List (List Value)) ([]:P0) from trivial)))) ?_
 intro A t g
 obtain⟨p,m,rfl,y,z,w⟩:=G1.outS (r:=Wp.int.toRp) g (F2.append (show F2 (Wp.int.R h) ([]:List (List Value)) ([]:P0) from trivial) e)
 obtain rfl:=oJ a
 exact⟨p,((([]:P0)++b)).length,m,rfl,(G1.newPlain (r:=Wp.int) g (F2.append (show F2 (Wp.int.R h) ([]:List (List Value)) ([]:P0) from trivial) e) (b0e _))⟩
theorem K09(h:Hp)(Y:List Value)(ae:j0)(bd:V0.R h Y ae)(r:j0×P0)(c:m00 ae=some r):
  Tr Tryz.prog 252 #[.agg Y.toArray] h λv d=>∃(X:List Value) (V:Option Addr) (ad W:Nat),v = .tuple #[.agg X.toArray,.slice V ad W]/\V0.R d X r.1/\K1.R d [.slice V ad W] r.2/\Sub h d:=by
 obtain⟨ba,bb,aw,bO,aC,bc,rfl,rfl,L,M,H⟩:=H0 bd
 obtain⟨rfl,bF⟩:=Sl.len H
 unfold m00 at c
 dsimp only at c
 refine I3 (args:=[.agg #[.int .i64 ba,.int .i64 bb,.slice aw bc.length aC]]) (fn:=Tryz.f252) rfl ?_
 refine trV c (j7 _ _ _ (l0 L M H)) λb2 c=>?_
 refine ifB c (λaR c=>?_) λaR c=>?_
 ·refine trM c (a8 _ _ _ (l0 L M H)) ?_
  rintro b4 c bZ a4 ⟨bt,rfl,ap⟩
  have ak:Sub h a4:=ap.sub
  have bf:=ap.r
  obtain⟨bl,bm,ay,bR,aE,bn,rfl,rfl,aZ,a0,ag⟩:=H0 bf
  obtain⟨rfl,bK⟩:=Sl.len ag
  try dsimp only at c
  intro b1 bE aK
  obtain⟨aB,aH,rfl,bh,an,bN⟩:=G1.out (r:=Wp.int.toRp) aK (F2.up (r:=Wp.int.toRp) ak (show F2 (Wp.int.R h) ([]:List (List Value)) ([]:P0) from trivial))
  obtain rfl:=oJ c
  exact⟨([.int .i64 bl,.int .i64 bm,.slice ay bn.length aE]),aB,(([]:P0)).length,aH,rfl,(l0 aZ a0 (S0.mono an ag)),bh,(ak.trans an)⟩
 ·refine trM c (a8 _ _ _ (l0 L M H)) ?_
  rintro b3 c bW ab ⟨bs,rfl,ao⟩
  have aj:Sub h ab:=ao.sub
  have be:=ao.r
  obtain⟨bi,bj,ax,bP,aD,aq,rfl,rfl,aV,aW,af⟩:=H0 be
  obtain⟨rfl,bI⟩:=Sl.len af
  try dsimp only at c
  obtain⟨T,aP,c⟩:=B0 c
  refine eX { vars:=[6],boxes:=[2],owns:=[0],fuel:=true } (eX (λvs os d=>∃ f g i t O w j K n,vs.tail = [.int .i64 f,.int .i64 g,.int .i64 i,.slice t O w]/\os = [K]/\Sub ab d/\I0 f/\I0 g/\I0 i/\S0.R d [.slice t O w] j/\F2 (Wp.int.R d) K n/\t6 (J1 vs) f g i j n=some T) (eX (λ_ _=>0) (aI (eX U0 ⟨0,bi,bj,ax,aq.length,aD,aq,[],([]:P0),rfl,rfl,(Sub.refl _),(by decide),aV,aW,af,(F2.up (r:=Wp.int.toRp) aj (show F2 (Wp.int.R h) ([]:List (List Value)) ([]:P0) from trivial)),aP⟩) ?_)))
  rintro _ _ _ _ K z bB ⟨f,g,i,t,O,w,j,b8,n,⟨⟩,⟨⟩,S,bx,D,N,I,Z,b⟩
  replace b:t6 z f g i j n=some T:=b
  obtain _|z:=z
  ·cases b
  rw[t6.eq_2]at b
  obtain⟨rfl,bG⟩:=Sl.len I
  refine trG b (λq=>a07 _ _ _ (l0 D N I) 0 (by decide)) λbk b=>?_
  obtain⟨bT,aL,b⟩:=B0 b
  have bA:I0 bk:=N0 aL
  refine ifB b (λaS b=>?_) λaS b=>?_
  ·refine trM b (a01 _ _ D) ?_
   rintro ar b bX a3 ⟨br,bQ,bv,rfl,Q,J⟩
   obtain⟨rfl,bJ⟩:=Sl.len Q
   obtain⟨U,aQ,b⟩:=B0 b
   refine eX { vars:=[8],boxes:=[2],owns:=[0],fuel:=true,kept:=[0] } (eX (λvs os d=>∃ o k l u P x e p m,vs.tail = [.int .i64 o,.int .i64 k,.int .i64 l,.slice u P x]/\os = [p]/\Sub a3 d/\I0 o/\I0 k/\I0 l/\S0.R d [.slice u P x] e/\F2 (Wp.int.R d) p m/\r6 ar (J1 vs) o k l e m=some U) (eX (λ_ _=>0) (aI (eX U0 ⟨0,g,i,t,j.length,w,j,K,n,rfl,rfl,(Sub.refl _),(by decide),D,N,(S0.mono J I),(F2.up (r:=Wp.int.toRp) J Z),aQ⟩) ?_)))
   rintro _ _ _ _ p G ac ⟨o,k,l,u,P,x,e,ca,m,⟨⟩,⟨⟩,C,bz,E,F,A,y,a⟩
   replace a:r6 ar G o k l e m=some U:=a
   obtain _|G:=G
   ·cases a
   rw[r6.eq_2]at a
   obtain⟨rfl,bH⟩:=Sl.len A
   refine ifB a (λaT a=>?_) λaT a=>?_
   ·refine Or.inl (aI (aI (by kernel_rfl) (by kernel_rfl)) ?_)
    refine ldI a (K1.mono C Q) λb5 aX a=>?_
    obtain⟨au,aO,a⟩:=B0 a
    refine eX (.int .i64 au) (aI (Y3 _ _ _ (l0 E F A) 0 (by decide) _ aX _  aO) ?_)
    obtain⟨bU,aM,a⟩:=B0 a
    have aY:I0 au:=N0 aM
    refine ifB a (λaU a=>?_) λaU a=>?_
    ·refine ldI a (K1.mono C Q) λs aa a=>?_
     obtain⟨bV,aN,a⟩:=B0 a
     refine aI (Y1 aN (by first|rw[F2.length y,F2.length (show F2 (Wp.int.R ac) ([[.int .i64 s]]:List (List Value)) [s] from⟨⟨rfl,aa⟩,trivial⟩)]|exact congrArg (·+1) (F2.length y))) ?_
     refine trM a (b07 _ _ _ (l0 E F A) _ aY) ?_
     rintro bo a bY bC ⟨bu,rfl,ah,al⟩
     obtain⟨b6,b7⟩:=bo
     dsimp only at a ah
     obtain⟨bp,bq,az,bS,aF,av,rfl,rfl,a1,a2,ai⟩:=H0 ah
     obtain⟨rfl,bL⟩:=Sl.len ai
     try dsimp only at a
     obtain rfl:=oJ a
     try dsimp only[W0,Y0]at b
     exact O2 z ⟨(IntKind.i64.wrap (f+1)),bp,bq,az,av.length,aF,av,(p++([[.int .i64 s]]:List (List Value))),(m ++ [s]),rfl,rfl,(((S.trans J).trans C).trans al),(J0 _),a1,a2,ai,(F2.up (r:=Wp.int.toRp) al (F2.append y (show F2 (Wp.int.R ac) ([[.int .i64 s]]:List (List Value)) [s] from⟨⟨rfl,aa⟩,trivial⟩))),b⟩
    ·exact O2 G ⟨(IntKind.i64.wrap (o+1)),k,l,u,e.length,x,e,p,m,rfl,rfl,C,(J0 _),E,F,A,y,a⟩
   ·obtain rfl:=oJ a
    try dsimp only[W0,Y0]at b
    exact O2 z ⟨(IntKind.i64.wrap (f+1)),k,l,u,e.length,x,e,p,m,rfl,rfl,((S.trans J).trans C),(J0 _),E,F,A,y,b⟩
  ·obtain rfl:=oJ b
   try dsimp only[W0,Y0]at c
   intro b0 bD aJ
   obtain⟨aA,aG,rfl,bg,am,bM⟩:=G1.out (r:=Wp.int.toRp) aJ Z
   obtain rfl:=oJ c
   exact⟨([.int .i64 g,.int .i64 i,.slice t j.length w]),aA,n.length,aG,rfl,(l0 D N (S0.mono am I)),bg,((aj.trans S).trans am)⟩
theorem d07(h:Hp)(W:List Value)(ac:j0)(ba:V0.R h W ac)(X:List Value)(ad:j0)(bb:V0.R h X ad)(k:Int)(bu:I0 k)(l:Int)(bv:I0 l)(r:P0)(f:B9 ac ad k l=some r):
  Tr Tryz.prog 305 #[.agg W.toArray,.agg X.toArray,.int .i64 k,.int .i64 l] h λv j=>∃(U:Option Addr) (ab V:Nat),v = .slice U ab V/\K1.R j [.slice U ab V] r/\Sub h j:=by
 obtain⟨D,m,ag,bJ,ao,E,rfl,rfl,Z,aV,ae⟩:=H0 ba
 obtain⟨rfl,bF⟩:=Sl.len ae
 obtain⟨F,d,ah,bK,ap,G,rfl,rfl,aa,aW,af⟩:=H0 bb
 obtain⟨rfl,bG⟩:=Sl.len af
 unfold B9 at f
 dsimp only at f
 refine I3 (args:=[.agg #[.int .i64 D,.int .i64 m,.slice ag E.length ao],.agg #[.int .i64 F,.int .i64 d,.slice ah G.length ap],.int .i64 k,.int .i64 l]) (fn:=Tryz.f305) rfl ?_
 obtain⟨bM,aB,f⟩:=B0 f
 refine aI (N0 aB) ?_
 obtain⟨Q,aH,f⟩:=B0 f
 obtain⟨aj,bm,ar,bc⟩:=V1 (show F2 (Wp.int.R h) ([[.int .i64 (IntKind.i64.wrap ((IntKind.i64.wrap (k*d))+l))]]:List (List Value)) [(IntKind.i64.wrap ((IntKind.i64.wrap (k*d))+l))] from⟨⟨rfl,(J0 _)⟩,trivial⟩) aH
 refine aI aj ?_
 obtain⟨rfl,bA⟩:=bc
 refine eX _ (aI ar ?_)
 obtain⟨bX,aM,f⟩:=B0 f
 obtain⟨am,bp,aw,bf⟩:=V1 (F2.rep (p:=Wp.bool.R h) (a:=[.bool false]) (b:=false) rfl ((IntKind.i64.wrap (m*d)).toNat)) aM
 refine aI am ?_
 obtain rfl:=bf
 refine eX _ (aI aw ?_)
 refine trM f (a01 _ _ (G8 aa Z)) ?_
 rintro N f bU a3 ⟨bl,bL,bs,rfl,P,H⟩
 obtain⟨rfl,bH⟩:=Sl.len P
 obtain⟨T,aR,f⟩:=B0 f
 refine eX { vars:=[12],boxes:=[],owns:=[0,1],fuel:=true,kept:=[0] } (eX (λvs os j=>∃ u8 M I J x,vs.tail = [.int .i64 u8]/\os = [M,J]/\Sub a3 j/\I0 u8/\F2 (Wp.bool.R j) M I/\F2 (Wp.int.R j) J x/\r8 N d D m E F G (J1 vs) u8 I x=some T) (eX (λ_ _=>0) (aI (eX U0 ⟨0,((List.replicate (IntKind.i64.wrap (m*d)).toNat ([.bool false]:List Value)).set Q.toNat [.bool true]),((List.replicate (IntKind.i64.wrap (m*d)).toNat (false:Bool)).set Q.toNat true),([[.int .i64 (IntKind.i64.wrap ((IntKind.i64.wrap (k*d))+l))]]:List (List Value)),([(IntKind.i64.wrap ((IntKind.i64.wrap (k*d))+l))]),rfl,rfl,(Sub.refl _),(by decide),(F2.up (r:=Wp.bool.toRp) H (F2.set (p:=Wp.bool.R h) (a:=[.bool true]) (b:=true) rfl Q.toNat (F2.rep (p:=Wp.bool.R h) (a:=[.bool false]) (b:=false) rfl ((IntKind.i64.wrap (m*d)).toNat)))),(F2.up (r:=Wp.int.toRp) H (show F2 (Wp.int.R h) ([[.int .i64 (IntKind.i64.wrap ((IntKind.i64.wrap (k*d))+l))]]:List (List Value)) [(IntKind.i64.wrap ((IntKind.i64.wrap (k*d))+l))] from⟨⟨rfl,(J0 _)⟩,trivial⟩)),aR⟩) ?_)))
 rintro _ M J L a2 ⟨u8,b4,I,b1,x,⟨⟩,⟨⟩,w,bz,az,O,e⟩
 replace e:r8 N d D m E F G L u8 I x=some T:=e
 obtain _|L:=L
 ·cases e
 rw[r8.eq_2]at e
 obtain⟨a4,aA,e⟩:=B0 e
 obtain rfl:J.length=a4:=(F2.length O).trans (oJ aA)
 obtain⟨bN,bt,e⟩:=B0 e
 refine ifB e (λaS e=>?_) λaS e=>?_
 ·obtain⟨S,aQ,e⟩:=B0 e
  refine eX { vars:=[13],boxes:=[],owns:=[0,1],fuel:=true,kept:=[0] } (eX (λvs os j=>∃ s y t z u,vs.tail = [.int .i64 s]/\os = [y,z]/\Sub a2 j/\I0 s/\F2 (Wp.bool.R j) y t/\F2 (Wp.int.R j) z u/\Y5 N u8 d D m E F G (J1 vs) s t u=some S) (eX (λ_ _=>0) (aI (eX U0 ⟨0,M,I,J,x,rfl,rfl,(Sub.refl _),(by decide),az,O,aQ⟩) ?_)))
  rintro _ y z C K ⟨s,b2,t,b3,u,⟨⟩,⟨⟩,o,bx,A,n,c⟩
  replace c:Y5 N u8 d D m E F G C s t u=some S:=c
  obtain _|C:=C
  ·cases c
  rw[Y5.eq_2]at c
  refine ifB c (λaT c=>?_) λaT c=>?_
  ·refine Or.inl (aI (aI (by kernel_rfl) (by kernel_rfl)) ?_)
   obtain⟨bk,aJ,c⟩:=B0 c
   obtain⟨ak,bn,au,bd⟩:=V1 n aJ
   refine aI ak ?_
   obtain⟨rfl,bB⟩:=bd
   refine eX _ (aI au ?_)
   obtain⟨bO,aC,c⟩:=B0 c
   have a0:=N0 aC
   refine aI a0 ?_
   refine ldI c (K1.mono (w.trans o) P) λbV aX c=>?_
   obtain⟨g,aK,c⟩:=B0 c
   refine eX (.int .i64 g) (aI (Y3 _ _ _ (l0 Z aV (S0.mono ((H.trans w).trans o) ae)) (IntKind.i64.wrap (Int.tdiv bk d)) (J0 _) _ aX _  aK) ?_)
   obtain⟨bP,aD,c⟩:=B0 c
   have bC:I0 g:=N0 aD
   refine Or.inl (aI (aI (by kernel_rfl) (by kernel_rfl)) ?_)
   obtain⟨bW,aL,c⟩:=B0 c
   obtain⟨al,bo,av,be⟩:=V1 n aL
   refine aI al ?_
   obtain⟨rfl,aY⟩:=be
   refine eX _ (aI av ?_)
   obtain⟨bQ,aE,c⟩:=B0 c
   have a1:=N0 aE
   refine aI a1 ?_
   refine ldI c (K1.mono (w.trans o) P) λbY aZ c=>?_
   obtain⟨i,aN,c⟩:=B0 c
   refine eX (.int .i64 i) (aI (Y3 _ _ _ (l0 aa aW (S0.mono ((H.trans w).trans o) af)) _ (a0i aY) _ aZ _  aN) ?_)
   obtain⟨bR,aF,c⟩:=B0 c
   have bD:I0 i:=N0 aF
   obtain⟨bZ,aO,c⟩:=B0 c
   obtain⟨bq,Y,bg⟩:=n02 A aO (I0p K)
   refine aI (λq=>(Y q).1) ?_
   obtain rfl:=bg
   refine eX _ (aI (λq=>(Y q).2) ?_)
   refine ifB c (λaU c=>?_) λaU c=>?_
   ·obtain⟨b0,aP,c⟩:=B0 c
    obtain⟨an,br,ax,bh⟩:=V1 A aP
    refine aI an ?_
    obtain rfl:=bh
    refine eX _ (aI ax ?_)
    obtain⟨bS,aG,c⟩:=B0 c
    refine aI (Y1 aG (by first|rw[F2.length n,F2.length (show F2 (Wp.int.R K) ([[.int .i64 (IntKind.i64.wrap ((IntKind.i64.wrap (g*d))+i))]]:List (List Value)) [(IntKind.i64.wrap ((IntKind.i64.wrap (g*d))+i))] from⟨⟨rfl,(J0 _)⟩,trivial⟩)]|exact congrArg (·+1) (F2.length n))) ?_
    exact O2 C ⟨(IntKind.i64.wrap (s+1)),(y.set (IntKind.i64.wrap ((IntKind.i64.wrap (g*d))+i)).toNat [.bool true]),(t.set (IntKind.i64.wrap ((IntKind.i64.wrap (g*d))+i)).toNat true),(z++([[.int .i64 (IntKind.i64.wrap ((IntKind.i64.wrap (g*d))+i))]]:List (List Value))),(u ++ [(IntKind.i64.wrap ((IntKind.i64.wrap (g*d))+i))]),rfl,rfl,o,(J0 _),(F2.set (p:=Wp.bool.R K) (a:=[.bool true]) (b:=true) rfl (IntKind.i64.wrap ((IntKind.i64.wrap (g*d))+i)).toNat A),(F2.append n (show F2 (Wp.int.R K) ([[.int .i64 (IntKind.i64.wrap ((IntKind.i64.wrap (g*d))+i))]]:List (List Value)) [(IntKind.i64.wrap ((IntKind.i64.wrap (g*d))+i))] from⟨⟨rfl,(J0 _)⟩,trivial⟩)),c⟩
   ·exact O2 C ⟨(IntKind.i64.wrap (s+1)),y,t,z,u,rfl,rfl,o,(J0 _),A,n,c⟩
  ·obtain rfl:=oJ c
   try dsimp only[W0,Y0]at e
   exact O2 L ⟨(IntKind.i64.wrap (u8+1)),y,t,z,u,rfl,rfl,(w.trans o),(J0 _),A,n,e⟩
 ·obtain rfl:=oJ e
  try dsimp only[W0,Y0]at f
  intro bT bE ay
  obtain⟨ai,aq,rfl,bi,bj,bI⟩:=G1.out (r:=Wp.int.toRp) ay O
  obtain rfl:=oJ f
  exact⟨ai,x.length,aq,rfl,bi,((H.trans w).trans bj)⟩
theorem e07(h:Hp)(C:List Value)(H:j0)(aj:V0.R h C H)(D:List Value)(I:j0)(ak:V0.R h D I)(w:Option Addr)(G x:Nat)(d:P0)(y:K1.R h [.slice w G x] d)(r:Int)(g:C8 H I d=some r):
  Tr Tryz.prog 306 #[.agg C.toArray,.agg D.toArray,.slice w G x] h λv l=>v = .int .i64 r/\l=h:=by
 obtain⟨n,o,M,ax,O,p,rfl,rfl,ab,ac,J⟩:=H0 aj
 obtain⟨rfl,au⟩:=Sl.len J
 obtain⟨s,i,N,ay,P,t,rfl,rfl,ad,ae,K⟩:=H0 ak
 obtain⟨rfl,av⟩:=Sl.len K
 obtain⟨rfl,aw⟩:=Sl.len y
 unfold C8 at g
 dsimp only at g
 refine Tr.forget (I3 (args:=[.agg #[.int .i64 n,.int .i64 o,.slice M p.length O],.agg #[.int .i64 s,.int .i64 i,.slice N t.length P],.slice w d.length x]) (fn:=Tryz.f306) rfl ?_)
 obtain⟨z,W,g⟩:=B0 g
 refine eX { vars:=[7,8],boxes:=[],owns:=[],fuel:=true } (eX (λvs os l=>∃ k c,vs.tail = [.int .i64 k,.int .i64 c]/\os = []/\Sub h l/\I0 k/\I0 c/\i7 d s n i o p t (J1 vs) k c=some z) (eX (λ_ _=>0) (aI (eX U0 ⟨0,0,rfl,rfl,(Sub.refl _),(by decide),(by decide),W⟩) ?_)))
 rintro _ _ u ai ⟨k,c,⟨⟩,⟨⟩,j,af,an,b⟩
 replace b:i7 d s n i o p t u k c=some z:=b
 obtain _|u:=u
 ·cases b
 rw[i7.eq_2]at b
 refine ifB b (λaa b=>?_) λaa b=>?_
 ·obtain⟨A,X,b⟩:=B0 b
  refine eX { vars:=[7,9],boxes:=[],owns:=[],fuel:=true } (eX (λvs os l=>∃ u8 f,vs.tail = [.int .i64 u8,.int .i64 f]/\os = []/\Sub ai l/\I0 u8/\I0 f/\Z5 s n d c i o p t (J1 vs) u8 f=some A) (eX (λ_ _=>0) (aI (eX U0 ⟨k,1,rfl,rfl,(Sub.refl _),af,(by decide),X⟩) ?_)))
  rintro _ _ m ar ⟨u8,f,⟨⟩,⟨⟩,e,E,F,a⟩
  replace a:Z5 s n d c i o p t m u8 f=some A:=a
  obtain _|m:=m
  ·cases a
  rw[Z5.eq_2]at a
  refine ifB a (λY a=>?_) λY a=>?_
  ·refine Or.inl (aI (aI (by kernel_rfl) (by kernel_rfl)) ?_)
   refine ldI a (K1.mono (j.trans e) y) λal ao a=>?_
   obtain⟨az,Q,a⟩:=B0 a
   have ah:=N0 Q
   refine aI ah ?_
   obtain⟨L,V,a⟩:=B0 a
   refine eX (.int .i64 L) (aI (Y3 _ _ _ (l0 ab ac (S0.mono (j.trans e) J)) (IntKind.i64.wrap (Int.tdiv al i)) (J0 _) _ F _  V) ?_)
   obtain⟨aA,S,a⟩:=B0 a
   have ap:I0 L:=N0 S
   refine ldG a (K1.mono (j.trans e) y) λaD ag a=>?_
   obtain⟨aB,T,a⟩:=B0 a
   refine aI (λq=>N0 (a9 T q)) ?_
   refine trG a (λq=>Y3 _ _ _ (l0 ad ae (S0.mono (j.trans e) K)) _ (a0i ag) _ F) λam a=>?_
   obtain⟨aC,U,a⟩:=B0 a
   have aq:I0 am:=N0 U
   refine ifB a (λZ a=>?_) λZ a=>?_
   ·exact O2 m ⟨(IntKind.i64.wrap (u8+1)),(IntKind.i64.wrap (f+1)),rfl,rfl,e,(J0 _),(J0 _),a⟩
   ·exact O2 m ⟨u8,(IntKind.i64.wrap (f+1)),rfl,rfl,e,E,(J0 _),a⟩
  ·obtain rfl:=oJ a
   try dsimp only[W0,Y0]at b
   exact O2 u ⟨u8,(IntKind.i64.wrap (c+1)),rfl,rfl,(j.trans e),E,(J0 _),b⟩
 ·obtain rfl:=oJ b
  try dsimp only[W0,Y0]at g
  obtain rfl:=oJ g
  exact aI rfl j
theorem a0b(h:Hp)(aq:List Value)(aA:j0)(be:V0.R h aq aA)(ar:List Value)(aB:j0)(bf:V0.R h ar aB)(X:Int)(au:I0 X)(Y:Int)(av:I0 Y)(r:j0×Bool)(a:C00 aA aB X Y=some r):
  Tr Tryz.prog 241 #[.agg aq.toArray,.agg ar.toArray,.int .i64 X,.int .i64 Y] h λv e=>∃(ap:List Value),v = .tuple #[.agg ap.toArray,.bool r.2]/\V0.R e ap r.1/\Sub h e:=by
 obtain⟨z,A,aE,bA,aH,L,rfl,rfl,J,S,O⟩:=H0 be
 obtain⟨rfl,bs⟩:=Sl.len O
 obtain⟨M,g,aF,bB,aJ,N,rfl,rfl,T,U,P⟩:=H0 bf
 obtain⟨rfl,bt⟩:=Sl.len P
 unfold C00 at a
 dsimp only at a
 refine I3 (args:=[.agg #[.int .i64 z,.int .i64 A,.slice aE L.length aH],.agg #[.int .i64 M,.int .i64 g,.slice aF N.length aJ],.int .i64 X,.int .i64 Y]) (fn:=Tryz.f241) rfl ?_
 refine trV a (w00 _ _ _ (l0 J S O)) λbL a=>?_
 refine trG a (λq=>w00 _ _ _ (l0 T U P)) λbM a=>?_
 refine trG a (λq=>p9 _ _ au 0 (by decide) (IntKind.i64.wrap (A-1)) (J0 _)) λbN a=>?_
 refine trG a (λq=>p9 _ _ av 0 (by decide) (IntKind.i64.wrap (g-1)) (J0 _)) λbP a=>?_
 refine ifB a (λa0 a=>?_) λa0 a=>?_
 ·obtain rfl:=oJ a
  exact⟨([.int .i64 0,.int .i64 0,.slice none 0 0]),rfl,(l0 (by decide) (by decide) (F0j H1 h)),(Sub.refl _)⟩
 ·refine trM a (d07 _ _ _ (l0 J S O) _ _ (l0 T U P) _ au _ av) ?_
  rintro y a bK ag ⟨bj,bD,bk,rfl,Q,C⟩
  obtain⟨rfl,bd⟩:=Sl.len Q
  refine trV a (e07 _ _ _ (l0 J S (S0.mono C O)) _ _ (l0 T U (S0.mono C P)) _ _ _ _ Q) λbi a=>?_
  obtain⟨bE,aL,a⟩:=B0 a
  have bp:I0 bi:=N0 aL
  refine ifB a (λaV a=>?_) λaV a=>?_
  ·obtain rfl:=oJ a
   exact⟨([.int .i64 0,.int .i64 0,.slice none 0 0]),rfl,(l0 (by decide) (by decide) (F0j H1 ag)),C⟩
  ·obtain⟨am,aS,a⟩:=B0 a
   refine eX { vars:=[13],boxes:=[3],owns:=[],fuel:=true } (eX (λvs os e=>∃ f p s D ah G t,vs.tail = [.int .i64 f,.int .i64 p,.int .i64 s,.slice D ah G]/\os = []/\Sub ag e/\I0 f/\I0 p/\I0 s/\S0.R e [.slice D ah G] t/\a5 y z g A L M N (J1 vs) f p s t=some am) (eX (λ_ _=>0) (aI (eX U0 ⟨0,z,((y.length:Nat):Int),none,0,0,[],rfl,rfl,(Sub.refl _),(by decide),J,(E0j bd),(F0j H1 ag),aS⟩) ?_)))
   rintro _ _ _ _ V bb ⟨f,p,s,D,ah,G,t,⟨⟩,⟨⟩,n,a1,aw,ax,ak,d⟩
   replace d:a5 y z g A L M N V f p s t=some am:=d
   obtain _|V:=V
   ·cases d
   rw[a5.eq_2]at d
   obtain⟨rfl,bu⟩:=Sl.len ak
   refine ifB d (λaW d=>?_) λaW d=>?_
   ·obtain⟨an,aT,d⟩:=B0 d
    refine eX { vars:=[14],boxes:=[3],owns:=[],fuel:=true } (eX (λvs os e=>∃ i u w E ai H j,vs.tail = [.int .i64 i,.int .i64 u,.int .i64 w,.slice E ai H]/\os = []/\Sub bb e/\I0 i/\I0 u/\I0 w/\S0.R e [.slice E ai H] j/\S5 z y f g A L M N (J1 vs) i u w j=some an) (eX (λ_ _=>0) (aI (eX U0 ⟨1,p,s,D,t.length,G,t,rfl,rfl,(Sub.refl _),(by decide),aw,ax,ak,aT⟩) ?_)))
    rintro _ _ _ _ W bc ⟨i,u,w,E,ai,H,j,⟨⟩,⟨⟩,o,ad,ay,az,al,b⟩
    replace b:S5 z y f g A L M N W i u w j=some an:=b
    obtain _|W:=W
    ·cases b
    rw[S5.eq_2]at b
    obtain⟨rfl,bv⟩:=Sl.len al
    refine ifB b (λaX b=>?_) λaX b=>?_
    ·refine Or.inl (aI (aI (by kernel_rfl) (by kernel_rfl)) ?_)
     refine ldI b (K1.mono (n.trans o) Q) λbh bl b=>?_
     obtain⟨bF,aM,b⟩:=B0 b
     have a4:=N0 aM
     refine aI a4 ?_
     obtain⟨ab,aQ,b⟩:=B0 b
     refine eX (.int .i64 ab) (aI (Y3 _ _ _ (l0 J S (S0.mono ((C.trans n).trans o) O)) (IntKind.i64.wrap (Int.tdiv bh g)) (J0 _) _ ad _  aQ) ?_)
     obtain⟨bG,aN,b⟩:=B0 b
     have bm:I0 ab:=N0 aN
     refine Or.inl (aI (aI (by kernel_rfl) (by kernel_rfl)) ?_)
     refine ldI b (K1.mono (n.trans o) Q) λbO a3 b=>?_
     obtain⟨bH,aO,b⟩:=B0 b
     have ba:=N0 aO
     refine aI ba ?_
     obtain⟨ac,aR,b⟩:=B0 b
     refine eX (.int .i64 ac) (aI (Y3 _ _ _ (l0 T U (S0.mono ((C.trans n).trans o) P)) _ (a0i a3) _ ad _  aR) ?_)
     obtain⟨bI,aP,b⟩:=B0 b
     have bn:I0 ac:=N0 aP
     obtain⟨ao,aU,b⟩:=B0 b
     refine eX { vars:=[17],boxes:=[3],owns:=[],fuel:=true } (eX (λvs os e=>∃ x k l F aj I m,vs.tail = [.int .i64 x,.int .i64 k,.int .i64 l,.slice F aj I]/\os = []/\Sub bc e/\I0 x/\I0 k/\I0 l/\S0.R e [.slice F aj I] m/\K4 y ab ac g f i (J1 vs) x k l m=some ao) (eX (λ_ _=>0) (aI (eX U0 ⟨0,u,w,E,j.length,H,j,rfl,rfl,(Sub.refl _),(by decide),ay,az,al,aU⟩) ?_)))
     rintro _ _ _ _ K bq ⟨x,k,l,F,aj,I,m,⟨⟩,⟨⟩,aa,a2,ae,af,Z,c⟩
     replace c:K4 y ab ac g f i K x k l m=some ao:=c
     obtain _|K:=K
     ·cases c
     rw[K4.eq_2]at c
     obtain⟨rfl,bx⟩:=Sl.len Z
     refine ifB c (λaY c=>?_) λaY c=>?_
     ·refine Or.inl (aI (aI (by kernel_rfl) (by kernel_rfl)) ?_)
      refine ldI c (K1.mono ((n.trans o).trans aa) Q) λbQ bo c=>?_
      refine ifB c (λaZ c=>?_) λaZ c=>?_
      ·refine trM c (U06 _ _ _ _ _ Z _ _ (T1 a1 ad a2)) ?_
       rintro aD c bJ br ⟨aG,bC,aK,rfl,aC,bg⟩
       obtain⟨rfl,bz⟩:=Sl.len aC
       exact O2 K ⟨(IntKind.i64.wrap (x+1)),k,l,aG,aD.length,aK,aD,rfl,rfl,(aa.trans bg),(J0 _),ae,af,aC,c⟩
      ·exact O2 K ⟨(IntKind.i64.wrap (x+1)),k,l,F,m.length,I,m,rfl,rfl,aa,(J0 _),ae,af,Z,c⟩
     ·obtain rfl:=oJ c
      try dsimp only[W0,Y0]at b
      exact O2 W ⟨(IntKind.i64.wrap (i+1)),k,l,F,m.length,I,m,rfl,rfl,(o.trans aa),(J0 _),ae,af,Z,b⟩
    ·obtain rfl:=oJ b
     try dsimp only[W0,Y0]at d
     exact O2 V ⟨(IntKind.i64.wrap (f+1)),u,w,E,j.length,H,j,rfl,rfl,(n.trans o),(J0 _),ay,az,al,d⟩
   ·obtain rfl:=oJ d
    try dsimp only[W0,Y0]at a
    obtain rfl:=oJ a
    exact⟨([.int .i64 p,.int .i64 s,.slice D t.length G]),rfl,(l0 aw ax ak),(C.trans n)⟩
theorem i07(h:Hp)(ac:List Value)(af:j0)(a1:V0.R h ac af)(ad:List Value)(ag:j0)(a2:V0.R h ad ag)(r:P0)(f:K8 af ag=some r):
  Tr Tryz.prog 259 #[.agg ac.toArray,.agg ad.toArray] h λv k=>∃(aa:Option Addr) (ae ab:Nat),v = .slice aa ae ab/\K1.R k [.slice aa ae ab] r/\Sub h k:=by
 obtain⟨T,w,ak,bF,au,U,rfl,rfl,N,O,J⟩:=H0 a1
 obtain⟨rfl,bz⟩:=Sl.len J
 obtain⟨V,m,al,bG,av,W,rfl,rfl,P,Q,K⟩:=H0 a2
 obtain⟨rfl,bA⟩:=Sl.len K
 unfold K8 at f
 dsimp only at f
 refine I3 (args:=[.agg #[.int .i64 T,.int .i64 w,.slice ak U.length au],.agg #[.int .i64 V,.int .i64 m,.slice al W.length av]]) (fn:=Tryz.f259) rfl ?_
 refine trV f (j7 _ _ _ (l0 N O J)) λbU f=>?_
 refine trG f (λq=>j7 _ _ _ (l0 P Q K)) λbW f=>?_
 refine ifB f (λaU f=>?_) λaU f=>?_
 ·intro bS bu aD
  obtain⟨ap,az,rfl,bc,be,bE⟩:=G1.out (r:=Wp.int.toRp) aD (show F2 (Wp.int.R h) ([]:List (List Value)) ([]:P0) from trivial)
  obtain rfl:=oJ f
  exact⟨ap,(([]:P0)).length,az,rfl,bc,be⟩
 ·obtain⟨bN,aK,f⟩:=B0 f
  refine aI (N0 aK) ?_
  obtain⟨Z,aR,f⟩:=B0 f
  refine eX { vars:=[7],boxes:=[],owns:=[0,1],fuel:=true,kept:=[1] } (eX (λvs os k=>∃ j F t A x,vs.tail = [.int .i64 j]/\os = [F,A]/\Sub h k/\I0 j/\F2 (Wp.int.R k) F t/\F2 (Wp.bool.R k) A x/\K3 m T w U V W (J1 vs) j t x=some Z) (eX (λ_ _=>0) (aI (eX U0 ⟨0,[],([]:P0),(List.replicate (IntKind.i64.wrap (w*m)).toNat ([.bool false]:List Value)),(List.replicate (IntKind.i64.wrap (w*m)).toNat (false:Bool)),rfl,rfl,(Sub.refl _),(by decide),(show F2 (Wp.int.R h) ([]:List (List Value)) ([]:P0) from trivial),(F2.rep (p:=Wp.bool.R h) (a:=[.bool false]) (b:=false) rfl ((IntKind.i64.wrap (w*m)).toNat)),aR⟩) ?_)))
  rintro _ F A D bp ⟨j,bY,t,bZ,x,⟨⟩,⟨⟩,s,aW,C,H,d⟩
  replace d:K3 m T w U V W D j t x=some Z:=d
  obtain _|D:=D
  ·cases d
  rw[K3.eq_2]at d
  obtain⟨a0,aE,d⟩:=B0 d
  obtain rfl:A.length=a0:=(F2.length H).trans (oJ aE)
  obtain⟨bI,bl,d⟩:=B0 d
  refine ifB d (λaS d=>?_) λaS d=>?_
  ·obtain⟨bV,aL,d⟩:=B0 d
   obtain⟨aq,bh,aA,a3⟩:=V1 H aL
   refine aI aq ?_
   obtain rfl:=a3
   refine eX _ (aI aA ?_)
   refine ifB d (λaT d=>?_) λaT d=>?_
   ·exact O2 D ⟨(IntKind.i64.wrap (j+1)),F,t,A,x,rfl,rfl,s,(J0 _),C,H,d⟩
   ·refine Or.inr (Or.inr (Or.inr (Or.inl (aI (aI (by kernel_rfl) (by kernel_rfl)) ?_))))
    obtain⟨bJ,aF,d⟩:=B0 d
    refine Or.inl (eX (.val (.int .i64 (IntKind.i64.wrap (Int.tdiv j m)))) (aI ?_ ?_))
    ·intro bq bP
     exact aI (N0 aF) (aI rfl (aI rfl rfl))
    obtain⟨bK,aG,d⟩:=B0 d
    refine Or.inl (eX (.val (.int .i64 (Int.tmod j m))) (aI ?_ ?_))
    ·intro br bQ
     exact aI (N0 aG) (aI rfl (aI rfl rfl))
    obtain⟨g,aM,d⟩:=B0 d
    refine Or.inr (eX (λv M=>∃(a:Option Addr) (c:Nat),v = .slice a g.length c/\K1.R M [.slice a g.length c] g/\g.length<=9223372036854775807) (aI (λv aO aP E q=>by obtain⟨a,c,e,r,l⟩:=q;exact⟨a,c,e,K1.mono E r,l⟩) (aI ?_ ?_)))
    ·intro bs aj
     refine Tr.mono (d07 _ _ _ (l0 N O (S0.mono (s.trans aj) J)) _ _ (l0 P Q (S0.mono (s.trans aj) K)) (IntKind.i64.wrap (Int.tdiv j m)) (J0 _) _ (a0i aW) _ aM) ?_
     rintro _ bx ⟨am,bH,aw,rfl,ah,E⟩
     obtain⟨rfl,aY⟩:=Sl.len ah
     exact aI g03 (aI E ⟨am,aw,rfl,ah,aY⟩)
    refine Or.inr (eX (λv M=>∃(a:Option Addr) (c:Nat),v = .slice a g.length c/\K1.R M [.slice a g.length c] g/\g.length<=9223372036854775807) (aI (λv aO aP E q=>by obtain⟨a,c,e,r,l⟩:=q;exact⟨a,c,e,K1.mono E r,l⟩) (aI ?_ ?_)))
    ·intro bt bR
     rintro _ ⟨an,ax,rfl,ba,aZ⟩
     exact aI g03 (aI (Sub.refl _) ⟨an,ax,rfl,ba,aZ⟩)
    intro aX o
    rintro _ ⟨bf,bj,rfl,ai,bB⟩
    rintro _ ⟨bg,bk,rfl,bO,bC⟩
    obtain⟨Y,aQ,d⟩:=B0 d
    refine eX { vars:=[9],boxes:=[],owns:=[1],fuel:=true,kept:=[1] } (eX (λvs os k=>∃ y G z,vs.tail = [.int .i64 y]/\os = [G]/\Sub aX k/\I0 y/\F2 (Wp.bool.R k) G z/\I4 g (J1 vs) y z=some Y) (eX (λ_ _=>0) (aI (eX U0 ⟨0,A,x,rfl,rfl,(Sub.refl _),(by decide),(F2.up (r:=Wp.bool.toRp) o H),aQ⟩) ?_)))
    rintro _ G I S ⟨y,b0,z,⟨⟩,⟨⟩,n,bm,L,i⟩
    replace i:I4 g I y z=some Y:=i
    obtain _|I:=I
    ·cases i
    rw[I4.eq_2]at i
    refine ifB i (λaV i=>?_) λaV i=>?_
    ·refine ldI i (K1.mono n ai) λX bn i=>?_
     obtain⟨bX,aN,i⟩:=B0 i
     obtain⟨ar,bi,aB,a4⟩:=V1 L aN
     refine aI ar ?_
     obtain rfl:=a4
     refine eX _ (aI aB ?_)
     exact O2 I ⟨(IntKind.i64.wrap (y+1)),(G.set X.toNat [.bool true]),(z.set X.toNat true),rfl,rfl,n,(J0 _),(F2.set (p:=Wp.bool.R S) (a:=[.bool true]) (b:=true) rfl X.toNat L),i⟩
    ·obtain rfl:=oJ i
     try dsimp only[W0,Y0]at d
     refine trV d (e07 _ _ _ (l0 N O (S0.mono ((s.trans o).trans n) J)) _ _ (l0 P Q (S0.mono ((s.trans o).trans n) K)) _ _ _ _ (K1.mono n ai)) λu d=>?_
     obtain⟨bL,aH,d⟩:=B0 d
     have bo:I0 u:=N0 aH
     obtain⟨bM,aJ,d⟩:=B0 d
     refine aI (Y1 aJ (by first|rw[F2.length (F2.up (r:=Wp.int.toRp) (o.trans n) C),F2.length (show F2 (Wp.int.R S) ([[.int .i64 (IntKind.i64.wrap ((IntKind.i64.wrap (u-((g.length:Nat):Int)))+1))]]:List (List Value)) [(IntKind.i64.wrap ((IntKind.i64.wrap (u-((g.length:Nat):Int)))+1))] from⟨⟨rfl,(J0 _)⟩,trivial⟩)]|exact congrArg (·+1) (F2.length (F2.up (r:=Wp.int.toRp) (o.trans n) C)))) ?_
     exact O2 D ⟨(IntKind.i64.wrap (j+1)),(F++([[.int .i64 (IntKind.i64.wrap ((IntKind.i64.wrap (u-((g.length:Nat):Int)))+1))]]:List (List Value))),(t ++ [(IntKind.i64.wrap ((IntKind.i64.wrap (u-((g.length:Nat):Int)))+1))]),G,z,rfl,rfl,((s.trans o).trans n),(J0 _),(F2.append (F2.up (r:=Wp.int.toRp) (o.trans n) C) (show F2 (Wp.int.R S) ([[.int .i64 (IntKind.i64.wrap ((IntKind.i64.wrap (u-((g.length:Nat):Int)))+1))]]:List (List Value)) [(IntKind.i64.wrap ((IntKind.i64.wrap (u-((g.length:Nat):Int)))+1))] from⟨⟨rfl,(J0 _)⟩,trivial⟩)),L,d⟩
  ·obtain rfl:=oJ d
   try dsimp only[W0,Y0]at f
   intro bT bv aC
   obtain⟨ao,ay,rfl,bb,bd,bD⟩:=G1.out (r:=Wp.int.toRp) aC C
   obtain rfl:=oJ f
   exact⟨ao,t.length,ay,rfl,bb,(s.trans bd)⟩
theorem b0b(h:Hp)(j:List Value)(l:j0)(M:V0.R h j l)(k:List Value)(m:j0)(N:V0.R h k m)(r:Int)(b:D00 l m=some r):
  Tr Tryz.prog 160 #[.agg j.toArray,.agg k.toArray] h λv f=>v = .int .i64 r/\f=h:=by
 obtain⟨G,H,t,Z,w,I,rfl,rfl,A,C,n⟩:=H0 M
 obtain⟨rfl,W⟩:=Sl.len n
 obtain⟨J,K,u,aa,x,L,rfl,rfl,D,E,o⟩:=H0 N
 obtain⟨rfl,X⟩:=Sl.len o
 unfold D00 at b
 dsimp only at b
 refine Tr.forget (I3 (args:=[.agg #[.int .i64 G,.int .i64 H,.slice t I.length w],.agg #[.int .i64 J,.int .i64 K,.slice u L.length x]]) (fn:=Tryz.f160) rfl ?_)
 refine trM b (i07 _ _ _ (l0 A C n) _ _ (l0 D E o)) ?_
 rintro q b ac F ⟨P,ab,Q,rfl,p,O⟩
 obtain⟨rfl,Y⟩:=Sl.len p
 obtain⟨i,y,b⟩:=B0 b
 refine eX { vars:=[6,7],boxes:=[],owns:=[],fuel:=true } (eX (λvs os f=>∃ c d,vs.tail = [.int .i64 c,.int .i64 d]/\os = []/\Sub F f/\I0 c/\I0 d/\T5 q (J1 vs) c d=some i) (eX (λ_ _=>0) (aI (eX U0 ⟨0,0,rfl,rfl,(Sub.refl _),(by decide),(by decide),y⟩) ?_)))
 rintro _ _ e V ⟨c,d,⟨⟩,⟨⟩,g,S,T,a⟩
 replace a:T5 q e c d=some i:=a
 obtain _|e:=e
 ·cases a
 rw[T5.eq_2]at a
 refine ifB a (λz a=>?_) λz a=>?_
 ·refine ldI a (K1.mono g p) λs U a=>?_
  exact O2 e ⟨(IntKind.i64.wrap (c+(if(IntKind.i64.wrap (s-1))>0 then(IntKind.i64.wrap (s-1))else 0))),(IntKind.i64.wrap (d+1)),rfl,rfl,g,(J0 _),(J0 _),a⟩
 ·obtain rfl:=oJ a
  try dsimp only[W0,Y0]at b
  obtain rfl:=oJ b
  exact aI rfl (O.trans g)
theorem f08(h:Hp)(b:Option Addr)(j c:Nat)(a:P0)(k:K1.R h [.slice b j c] a)(r:P0)(d:n9 a=some r):
  Tr Tryz.prog 200 #[.slice b j c] h λv n=>∃(f:Option Addr) (i g:Nat),v = .slice f i g/\New K1 h n [.slice f i g] r:=by
 obtain⟨rfl,y⟩:=Sl.len k
 unfold n9 at d
 refine I3 (args:=[.slice b a.length c]) (fn:=Tryz.f200) rfl ?_
 refine Or.inl ?_
 intro E o f3
 obtain⟨w,x,rfl,s,t,A⟩:=G1.out (r:=K1.toRp) f3 (show F2 (K1.R h) ([[.slice b a.length c]]:List (List Value)) [a] from⟨k,trivial⟩)
 refine trM d (Y07 _ _ _ _ _ s) ?_
 rintro u d F p ⟨l,C,m,rfl,e⟩
 have D:Sub o p:=e.sub
 have q:=e.r
 obtain⟨rfl,z⟩:=Sl.len q
 obtain rfl:=oJ d
 exact⟨l,u.length,m,rfl,(New.from e t)⟩
theorem c0l(h:Hp)(b:Option Addr)(e c:Nat)(d:(List ByteArray))(f:(Wp.slice Wp.str).R h [.slice b e c] d)(r:ByteArray)(a:K02 d=some r):
  Tr Tryz.prog 112 #[.slice b e c] h λv i=>v = .string r/\i=h:=by
 obtain⟨rfl,l⟩:=Sl.len f
 unfold K02 at a
 refine Tr.forget (I3 (args:=[.slice b d.length c]) (fn:=Tryz.f112) rfl ?_)
 refine trV a (H0i _ _ _ _ _ f (⟨#[32]⟩:ByteArray) (by decide) (⟨#[]⟩:ByteArray) (by decide)) λj a=>?_
 obtain⟨m,g,a⟩:=B0 a
 have k:j.size<=9223372036854775807:=N0 g
 obtain rfl:=oJ a
 exact aI rfl (Sub.refl _)
end Go.Proofs.YtkjhghloldgioaaGreat
