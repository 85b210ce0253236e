/- Texts of the claim, joined: The walks of batch h1 and others. -/
import Derived.Test.YtcpjomkcdlggaaaGreatH53
import Derived.Test.YtcpjomkcdlggaaaGreatPart24
import Derived.Test.YtcpjomkcdlggaaaGreatPart21
import Derived.Test.YtcpjomkcdlggaaaGreatChecked
import Derived.Test.YtcpjomkcdlggaaaGreatH35
import Derived.Test.YtcpjomkcdlggaaaGreatPart36
import Derived.Test.YtcpjomkcdlggaaaGreatPart38
import Derived.Test.YtcpjomkcdlggaaaGreatH41
import Derived.Test.YtcpjomkcdlggaaaGreatPart20
import Derived.Test.YtcpjomkcdlggaaaGreatH36
import Derived.Test.YtcpjomkcdlggaaaGreatPart27
import Derived.Test.YtcpjomkcdlggaaaGreatPart22
namespace Go.Proofs.YtcpjomkcdlggaaaGreat
set_option linter.all false
open Go.H
open IntKind (i64)
set_option maxRecDepth 10000
def E0i(h:Hp)(b:Int)(d:F0 b)(r:z0×Bool)(a:K05 b=some r):
  Tr Tryz.prog 147 #[iV b] h λv h'=>∃(c:List Value),v = .tuple #[.agg c.toArray,.bool r.2]/\L1.R h' c r.1/\Sub h h':=by
 unfold K05 at a
 refine wk Tryz.f147 ?_
 refine trV a (Q4 _ _ d 1 (by decide) 3 (by decide)) λf a=>?_
 refine ifB a (λe a=>?_) λe a=>?_
 ·cases a
  exact⟨_,rfl,(C0 (by decide) (by decide) (E0d J1 h)),sr⟩
 ·cases a
  exact⟨_,rfl,(C0 d (by decide) (E0d J1 h)),sr⟩
def U08(h:Hp)(J:List Value)(Q:z0)(aQ:L1.R h J Q)(G:Int)(L:F0 G)(o:Option Addr)(P p:Nat)(j:H0)(k:I0.R h [.slice o P p] j)(f:Int)(t:F0 f)(r:z0×Bool)(b:t02 Q G j f=some r):
  Tr Tryz.prog 87 #[.agg J.toArray,iV G,.slice o P p,iV f] h λv h'=>∃(I:List Value),v = .tuple #[.agg I.toArray,.bool r.2]/\L1.R h' I r.1/\Sub h h':=by
 obtain⟨bX,S,a5,bc,bY,rfl,rfl,E,K,T,bK⟩:=opG aQ
 obtain⟨rfl,bL⟩:=sL k
 unfold t02 at b
 dsimp only at b
 refine wk Tryz.f87 ?_
 refine trM b (G5 _ _ _ (C0 E K T)) ?_
 rintro cg b cb O ⟨bd,rfl,ad⟩
 have e:Sub h O:=ad.sub
 have aR:=ad.r
 obtain⟨ci,cj,a6,bi,ck,rfl,rfl,M,N,U,bN⟩:=opG aR
 try dsimp only at b
 refine trV b (t8 _ _ _ (C0 E K (M0.mono e T))) λcm b=>?_
 refine trG b (λq=>Q4 _ _ L 0 (by decide) (i64.wrap (S-1)) (J0 _)) λcq b=>?_
 refine trG b (λq=>Q4 _ _ t 0 (by decide) (i64.wrap (S-1)) (J0 _)) λcs b=>?_
 refine trG b (λq=>f02 _ _ E _ _ _ _ (I0.mono e k)) λct b=>?_
 refine ifB b (λaD b=>?_) λaD b=>?_
 ·cases b
  exact⟨_,rfl,(C0 M N U),e⟩
 ·obtain⟨H,ay,b⟩:=B0 b
  refine eX { vars:=[11,12],boxes:=[2] } (eX (λvs os h'=>∃ c g w i C F D A,vs.tail = [iV c,iV g,iV w,iV i,.slice C F D]/\os = []/\Sub O h'/\F0 c/\F0 g/\F0 w/\F0 i/\M0.R h' [.slice C F D] A/\L6 j f (N1 vs) c g w i A=some H) (eX (λ_ _=>0) (aI (eX P0 ⟨_,_,_,_,_,_,_,_,rfl,rfl,sr,L,(by decide),M,N,U,ay⟩) ?_)))
  rintro _ _ _ _ _ m bs ⟨c,g,w,i,C,F,D,A,⟨⟩,⟨⟩,d,z,bn,u,l,s,a⟩
  replace a:L6 j f m c g w i A=some H:=a
  obtain _|m:=m
  ·cases a
  rw[L6.eq_2]at a
  obtain⟨rfl,bM⟩:=sL s
  refine ifB a (λaz a=>?_) λaz a=>?_
  ·refine ifB a (λaA a=>?_) λaA a=>?_
   ·refine ldI a (I0.mono (e.trans d) k) λch bo a=>?_
    refine ifB a (λaB a=>?_) λaB a=>?_
    ·refine w5 9 ?_
     obtain⟨ai,au,a⟩:=B0 a
     obtain⟨ak,be,ao,aS⟩:=Sl.getI (r:=Wp.int.toRp) (I0.mono (e.trans d) k) au (by decide)
     obtain⟨rfl,aF⟩:=aS
     refine pm (.hel (.slice o j.length p) g 1 0) ?_ ?_
     ·intro bt bZ
      exact aI ak r3
     refine pm (.val (iV ai)) ?_ ?_
     ·intro bu aX
      exact eX _ (aI (O8.up aX ao) r3)
     refine pm (.agg [.val (iV c),.val (iV ai),.val (iV i)]) ?_ ?_
     ·intro bv b0
      exact r3
     intro aH Z
     refine trM a (a02 _ _ _ _ _ (M0.mono Z s) _ _ (U1 z aF l)) ?_
     rintro cl a cc aJ ⟨a7,bS,bj,rfl,ae⟩
     have a1:Sub aH aJ:=ae.sub
     have V:=ae.r
     obtain⟨rfl,bO⟩:=sL V
     exact V1 m ⟨_,_,_,_,_,_,_,_,rfl,rfl,((d.trans Z).trans a1),l,(J0 _),u,(J0 _),V,a⟩
    ·refine w5 10 ?_
     obtain⟨x,av,a⟩:=B0 a
     obtain⟨al,bf,ap,aU⟩:=Sl.getI (r:=Wp.int.toRp) (I0.mono (e.trans d) k) av (by decide)
     obtain⟨rfl,bp⟩:=aU
     refine pm (.hel (.slice o j.length p) g 1 0) ?_ ?_
     ·intro bx b1
      exact aI al r3
     refine pm (.val (iV x)) ?_ ?_
     ·intro bz aY
      exact eX _ (aI (O8.up aY ap) r3)
     refine pm (.val (iV (i64.wrap (0-x)))) ?_ ?_
     ·intro bA b2
      exact r3
     refine pm (.agg [.val (iV i),.val (iV (i64.wrap (0-x))),.val (iV c)]) ?_ ?_
     ·intro bB b3
      exact r3
     intro aK aa
     refine trM a (a02 _ _ _ _ _ (M0.mono aa s) [iV i,iV (i64.wrap (0-x)),iV c] (i,(i64.wrap (0-x)),c) (U1 l (J0 _) z)) ?_
     rintro cn a cd aL ⟨a8,bU,bk,rfl,af⟩
     have a2:Sub aK aL:=af.sub
     have W:=af.r
     obtain⟨rfl,bP⟩:=sL W
     exact V1 m ⟨_,_,_,_,_,_,_,_,rfl,rfl,((d.trans aa).trans a2),l,(J0 _),u,(J0 _),W,a⟩
   ·refine ldI a (I0.mono (e.trans d) k) λco bq a=>?_
    refine ifB a (λaC a=>?_) λaC a=>?_
    ·refine w5 9 ?_
     obtain⟨aj,aw,a⟩:=B0 a
     obtain⟨am,bg,aq,aV⟩:=Sl.getI (r:=Wp.int.toRp) (I0.mono (e.trans d) k) aw (by decide)
     obtain⟨rfl,aG⟩:=aV
     refine pm (.hel (.slice o j.length p) g 1 0) ?_ ?_
     ·intro bC b5
      exact aI am r3
     refine pm (.val (iV aj)) ?_ ?_
     ·intro bD aZ
      exact eX _ (aI (O8.up aZ aq) r3)
     refine pm (.agg [.val (iV c),.val (iV aj),.val (iV f)]) ?_ ?_
     ·intro bE b6
      exact r3
     intro aM ab
     refine trM a (a02 _ _ _ _ _ (M0.mono ab s) _ _ (U1 z aG t)) ?_
     rintro cr a ce aN ⟨ba,bV,bl,rfl,ag⟩
     have a3:Sub aM aN:=ag.sub
     have X:=ag.r
     obtain⟨rfl,bQ⟩:=sL X
     exact V1 m ⟨_,_,_,_,_,_,_,_,rfl,rfl,((d.trans ab).trans a3),t,(J0 _),u,l,X,a⟩
    ·refine w5 10 ?_
     obtain⟨y,ax,a⟩:=B0 a
     obtain⟨an,bh,ar,aW⟩:=Sl.getI (r:=Wp.int.toRp) (I0.mono (e.trans d) k) ax (by decide)
     obtain⟨rfl,br⟩:=aW
     refine pm (.hel (.slice o j.length p) g 1 0) ?_ ?_
     ·intro bG b7
      exact aI an r3
     refine pm (.val (iV y)) ?_ ?_
     ·intro bH a0
      exact eX _ (aI (O8.up a0 ar) r3)
     refine pm (.val (iV (i64.wrap (0-y)))) ?_ ?_
     ·intro bI b8
      exact r3
     refine pm (.agg [.val (iV f),.val (iV (i64.wrap (0-y))),.val (iV c)]) ?_ ?_
     ·intro bJ ca
      exact r3
     intro aO ac
     refine trM a (a02 _ _ _ _ _ (M0.mono ac s) [iV f,iV (i64.wrap (0-y)),iV c] (f,(i64.wrap (0-y)),c) (U1 t (J0 _) z)) ?_
     rintro cu a cf aP ⟨bb,bW,bm,rfl,ah⟩
     have a4:Sub aO aP:=ah.sub
     have Y:=ah.r
     obtain⟨rfl,bR⟩:=sL Y
     exact V1 m ⟨_,_,_,_,_,_,_,_,rfl,rfl,((d.trans ac).trans a4),t,(J0 _),u,l,Y,a⟩
  ·cases a
   try dsimp only[Q0,T0]at b
   cases b
   exact⟨_,rfl,(C0 u l s),(e.trans d)⟩
def w0b(h:Hp)(e:List Value)(g:z0)(q:L1.R h e g)(b:Option Addr)(f c:Nat)(i:H0)(j:I0.R h [.slice b f c] i)(r:z0×Bool)(a:L02 g i=some r):
  Tr Tryz.prog 148 #[.agg e.toArray,.slice b f c] h λv h'=>∃(d:List Value),v = .tuple #[.agg d.toArray,.bool r.2]/\L1.R h' d r.1/\Sub h h':=by
 obtain⟨H,I,x,z,J,rfl,rfl,l,m,s,E⟩:=opG q
 obtain⟨rfl,F⟩:=sL j
 unfold L02 at a
 dsimp only at a
 refine wk Tryz.f148 ?_
 refine trM a (U08 _ _ _ (C0 l m s) 0 (by decide) _ _ _ _ j 0 (by decide)) ?_
 rintro w a K D ⟨A,rfl,k,u⟩
 obtain⟨L,P⟩:=w
 dsimp only at a k
 obtain⟨M,N,y,C,O,rfl,rfl,o,p,t,G⟩:=opG k
 try dsimp only at a
 cases a
 exact⟨_,rfl,(C0 o p t),u⟩
def F0i(h:Hp)(E:Int)(S:F0 E)(x:Option Addr)(V z:Nat)(s:O1)(F:T1.R h [.slice x V z] s)(r:z0×Bool)(a:e04 E s=some r):
  Tr Tryz.prog 79 #[iV E,.slice x V z] h λv h'=>∃(M:List Value),v = .tuple #[.agg M.toArray,.bool r.2]/\L1.R h' M r.1/\Sub h h':=by
 obtain⟨rfl,bd⟩:=sL F
 unfold e04 at a
 refine wk Tryz.f79 ?_
 refine trV a (M07 _ _ S _ _ _ _ F) λbp a=>?_
 refine ifB a (λal a=>?_) λal a=>?_
 ·cases a
  exact⟨_,rfl,(C0 (by decide) (by decide) (E0d J1 h)),sr⟩
 ·refine trM a (E0i _ _ S) ?_
  rintro aP a bo ay ⟨aW,rfl,X,Z⟩
  obtain⟨bq,bu⟩:=aP
  dsimp only at a X
  obtain⟨br,bs,aQ,aX,bt,rfl,rfl,am,an,aD,bg⟩:=opG X
  try dsimp only at a
  obtain⟨J,aj,a⟩:=B0 a
  refine eX { vars:=[8],boxes:=[1] } (eX (λvs os h'=>∃ m u8 t y D A w,vs.tail = [iV m,iV u8,iV t,.slice y D A]/\os = []/\Sub ay h'/\F0 m/\F0 u8/\F0 t/\M0.R h' [.slice y D A] w/\g9 s (N1 vs) m u8 t w=some J) (eX (λ_ _=>0) (aI (eX P0 ⟨_,_,_,_,_,_,_,rfl,rfl,sr,(by decide),am,an,aD,aj⟩) ?_)))
  rintro _ _ _ _ u a3 ⟨m,u8,t,y,D,A,w,⟨⟩,⟨⟩,H,a0,T,U,G,b⟩
  replace b:g9 s u m u8 t w=some J:=b
  obtain _|u:=u
  ·cases b
  rw[g9.eq_2]at b
  obtain⟨rfl,be⟩:=sL G
  refine ifB b (λak b=>?_) λak b=>?_
  ·refine w5 10 ?_
   obtain⟨aM,ah,b⟩:=B0 b
   obtain⟨ac,aU,af,W⟩:=Sl.getI (r:=I0.toRp) (T1.mono (Z.trans H) F) ah (by decide)
   obtain⟨aa,ad,rfl,bf⟩:=slL W
   refine pm (.hel (.slice x s.length z) m 1 0) ?_ ?_
   ·intro a4 bk
    exact aI ac r3
   refine pm (.val (.slice aa aM.length ad)) ?_ ?_
   ·intro a5 aK
    exact eX _ (aI (O8.up aK af) r3)
   obtain⟨aN,ai,b⟩:=B0 b
   obtain⟨aO,I⟩:=aN
   try dsimp only at b
   obtain⟨j,k,f⟩:=aO
   try dsimp only at b
   refine Or.inr (eX (λv g=>∃(i:Value),v = .tuple #[i,.bool I]/\(λv g=>∃(c:Option Addr) (d:Nat),v = .agg #[iV j,iV k,.slice c f.length d]/\F0 j/\F0 k/\M0.R g [.slice c f.length d] f/\f.length<=9223372036854775807) i g) (aI (λv P Q l q=>by obtain⟨i,e,C⟩:=q;exact⟨i,e,(by obtain⟨c,d,e,o,p,f2,f3⟩:=C;exact⟨c,d,e,o,p,M0.mono l f2,f3⟩)⟩) (aI ?_ ?_)))
   ·intro a6 Y
    refine Tr.mono (w0b _ _ _ (C0 T U (M0.mono Y G)) _ _ _ _ (I0.mono Y W) _ ai) ?_
    rintro _ bc ⟨aV,rfl,aC,l⟩
    obtain⟨bv,bx,K,N,bz,rfl,ag,ao,ap,aF,az⟩:=opG aC
    cases ag
    exact aI t6 (aI l ⟨(.agg #[iV j,iV k,.slice K f.length N]),rfl,⟨K,N,rfl,ao,ap,aF,az⟩⟩)
   refine Or.inr (eX (λv g=>∃(i:Value),v = .tuple #[i,.bool I]/\(λv g=>∃(c:Option Addr) (d:Nat),v = .agg #[iV j,iV k,.slice c f.length d]/\F0 j/\F0 k/\M0.R g [.slice c f.length d] f/\f.length<=9223372036854775807) i g) (aI (λv P Q l q=>by obtain⟨i,e,C⟩:=q;exact⟨i,e,(by obtain⟨c,d,e,o,p,f2,f3⟩:=C;exact⟨c,d,e,o,p,M0.mono l f2,f3⟩)⟩) (aI ?_ ?_)))
   ·intro a7 bl
    rintro _ ⟨_,rfl,⟨L,O,rfl,aq,ar,aG,aA⟩⟩
    exact aI t6 (aI sr ⟨(.agg #[iV j,iV k,.slice L f.length O]),rfl,⟨L,O,rfl,aq,ar,aG,aA⟩⟩)
   refine Or.inr (eX (λv g=>∃(c:Option Addr) (d:Nat),v = .agg #[iV j,iV k,.slice c f.length d]/\F0 j/\F0 k/\M0.R g [.slice c f.length d] f/\f.length<=9223372036854775807) (aI (λv P Q l q=>by obtain⟨c,d,e,o,p,f2,f3⟩:=q;exact⟨c,d,e,o,p,M0.mono l f2,f3⟩) (aI ?_ ?_)))
   ·intro a8 bm
    rintro _ ⟨_,rfl,⟨ab,ae,rfl,au,av,aH,aB⟩⟩
    exact aI t6 (aI sr ⟨ab,ae,rfl,au,av,aH,aB⟩)
   refine pm (.val (.bool I)) ?_ ?_
   ·intro ba bn
    rintro _ ⟨_,rfl,⟨aR,aY,rfl,a1,a2,bj,bh⟩⟩
    exact r3
   intro bb aL
   rintro _ ⟨aS,aZ,rfl,aw,ax,aJ,bi⟩
   rintro _ _
   rintro _ _
   exact V1 u ⟨_,_,_,_,_,_,_,rfl,rfl,(H.trans aL),(J0 _),aw,ax,aJ,b⟩
  ·cases b
   try dsimp only[Q0,T0]at a
   cases a
   exact⟨_,rfl,(C0 T U G),(Z.trans H)⟩
def T0k(h:Hp)(G:List Value)(J:z0)(Y:L1.R h G J)(r:Y01)(s:L04 J=some r):
  Tr Tryz.prog 212 #[.agg G.toArray] h λv h'=>∃(E:Option Addr) (I F:Nat),v = .slice E I F/\u0n.R h' [.slice E I F] r/\Sub h h':=by
 obtain⟨au,av,ad,af,u,rfl,rfl,aj,ak,K,aq⟩:=opG Y
 unfold L04 at s
 dsimp only at s
 refine wk Tryz.f212 ?_
 obtain⟨C,P,s⟩:=B0 s
 refine eX { vars:=[4],owns:=[0] } (eX (λvs os h'=>∃ q z x,vs.tail = [iV q]/\os = [z]/\Sub h h'/\F0 q/\F2 (I6.R h') z x/\Q9 u (N1 vs) q x=some C) (eX (λ_ _=>0) (aI (eX P0 ⟨_,_,_,rfl,rfl,sr,(by decide),(show F2 (I6.R h) ([]:LV) ([]:Y01) from trivial),P⟩) ?_)))
 rintro _ z t X ⟨q,aF,x,⟨⟩,⟨⟩,w,al,H,f⟩
 replace f:Q9 u t q x=some C:=f
 obtain _|t:=t
 ·cases f
 rw[Q9.eq_2]at f
 refine ifB f (λW f=>?_) λW f=>?_
 ·obtain⟨D,Q,f⟩:=B0 f
  refine eX { vars:=[5],owns:=[0] } (eX (λvs os h'=>∃ u8 A y,vs.tail = [iV u8]/\os = [A]/\Sub X h'/\F0 u8/\F2 (I6.R h') A y/\I5 u q (N1 vs) u8 y=some D) (eX (λ_ _=>0) (aI (eX P0 ⟨_,_,_,rfl,rfl,sr,(J0 _),H,Q⟩) ?_)))
  rintro _ A o k ⟨u8,aG,y,⟨⟩,⟨⟩,p,am,g,c⟩
  replace c:I5 u q o u8 y=some D:=c
  obtain _|o:=o
  ·cases c
  rw[I5.eq_2]at c
  refine ifB c (λS c=>?_) λS c=>?_
  ·refine ld c (M0.mono (w.trans p) K) λaA ag Z c=>?_
   obtain⟨d,aB,a,rfl,rfl,l,an,i⟩:=C2 Z
   try dsimp only at c
   refine ld c (M0.mono (w.trans p) K) λaC ah aa c=>?_
   obtain⟨e,aD,b,rfl,rfl,m,ao,j⟩:=C2 aa
   try dsimp only at c
   refine ifB c (λT c=>?_) λT c=>?_
   ·obtain⟨aw,M,c⟩:=B0 c
    refine aI (M1 M (by first|rw[fL g,fL (show F2 (I6.R k) ([[iV (if b<a then b else a),iV (if b>a then b else a)]]:LV) [((if b<a then b else a),(if b>a then b else a))] from⟨(D3 (Z00 j i) (Z00 j i)),trivial⟩)]|exact congrArg (·+1) (fL g))) ?_
    refine ifB c (λU c=>?_) λU c=>?_
    ·obtain⟨ax,N,c⟩:=B0 c
     refine aI (M1 N (by first|rw[fL (fA g (show F2 (I6.R k) ([[iV (if b<a then b else a),iV (if b>a then b else a)]]:LV) [((if b<a then b else a),(if b>a then b else a))] from⟨(D3 (Z00 j i) (Z00 j i)),trivial⟩)),fL (show F2 (I6.R k) ([[iV (if e<d then e else d),iV (if e>d then e else d)]]:LV) [((if e<d then e else d),(if e>d then e else d))] from⟨(D3 (Z00 m l) (Z00 m l)),trivial⟩)]|exact congrArg (·+1) (fL (fA g (show F2 (I6.R k) ([[iV (if b<a then b else a),iV (if b>a then b else a)]]:LV) [((if b<a then b else a),(if b>a then b else a))] from⟨(D3 (Z00 j i) (Z00 j i)),trivial⟩))))) ?_
     exact V1 o ⟨_,_,_,rfl,rfl,p,(J0 _),(fA (fA g (show F2 (I6.R k) ([[iV (if b<a then b else a),iV (if b>a then b else a)]]:LV) [((if b<a then b else a),(if b>a then b else a))] from⟨(D3 (Z00 j i) (Z00 j i)),trivial⟩)) (show F2 (I6.R k) ([[iV (if e<d then e else d),iV (if e>d then e else d)]]:LV) [((if e<d then e else d),(if e>d then e else d))] from⟨(D3 (Z00 m l) (Z00 m l)),trivial⟩)),c⟩
    ·exact V1 o ⟨_,_,_,rfl,rfl,p,(J0 _),(fA g (show F2 (I6.R k) ([[iV (if b<a then b else a),iV (if b>a then b else a)]]:LV) [((if b<a then b else a),(if b>a then b else a))] from⟨(D3 (Z00 j i) (Z00 j i)),trivial⟩)),c⟩
   ·refine ifB c (λV c=>?_) λV c=>?_
    ·obtain⟨ay,O,c⟩:=B0 c
     refine aI (M1 O (by first|rw[fL g,fL (show F2 (I6.R k) ([[iV (if e<d then e else d),iV (if e>d then e else d)]]:LV) [((if e<d then e else d),(if e>d then e else d))] from⟨(D3 (Z00 m l) (Z00 m l)),trivial⟩)]|exact congrArg (·+1) (fL g))) ?_
     exact V1 o ⟨_,_,_,rfl,rfl,p,(J0 _),(fA g (show F2 (I6.R k) ([[iV (if e<d then e else d),iV (if e>d then e else d)]]:LV) [((if e<d then e else d),(if e>d then e else d))] from⟨(D3 (Z00 m l) (Z00 m l)),trivial⟩)),c⟩
    ·exact V1 o ⟨_,_,_,rfl,rfl,p,(J0 _),g,c⟩
  ·cases c
   try dsimp only[Q0,T0]at f
   exact V1 t ⟨_,_,_,rfl,rfl,(w.trans p),(J0 _),g,f⟩
 ·cases f
  try dsimp only[Q0,T0]at s
  intro az ap L
  obtain⟨ae,ai,rfl,ab,ac,ar⟩:=Y0.out (r:=I6.toRp) L H
  cases s
  exact⟨_,_,_,rfl,ab,(w.trans ac)⟩
def F0h(h:Hp)(c:List Value)(f:z0)(p:L1.R h c f)(r:K7×Bool)(a:j02 f=some r):
  Tr Tryz.prog 202 #[.agg c.toArray] h λv h'=>∃(b:List Value),v = .tuple #[.agg b.toArray,.bool r.2]/\I6.R h' b r.1/\Sub h h':=by
 obtain⟨D,E,s,u,F,rfl,rfl,d,e,g,z⟩:=opG p
 unfold j02 at a
 dsimp only at a
 refine wk Tryz.f202 ?_
 refine trV a (t8 _ _ _ (C0 d e g)) λH a=>?_
 refine ifB a (λk a=>?_) λk a=>?_
 ·cases a
  exact⟨_,rfl,(D3 (by decide) (by decide)),sr⟩
 ·refine trM a (T0k _ _ _ (C0 d e g)) ?_
  rintro I a G y ⟨t,C,x,rfl,i,j⟩
  obtain⟨rfl,A⟩:=sL i
  refine ifB a (λl a=>?_) λl a=>?_
  ·cases a
   exact⟨_,rfl,(D3 (by decide) (by decide)),j⟩
  ·refine ld a i λJ w q a=>?_
   obtain⟨K,L,rfl,rfl,m,o⟩:=u06 q
   try dsimp only at a
   cases a
   exact⟨_,rfl,(D3 m o),j⟩
def z0g(h:Hp)(b:Int)(j:F0 b)(c:List Value)(d:K7)(i:I6.R h c d)(r:Int)(a:f05 b d=some r):
  Tr Tryz.prog 213 #[iV b,.agg c.toArray] h λv h'=>v=iV r/\h'=h:=by
 obtain⟨m,o,rfl,rfl,k,l⟩:=u06 i
 unfold f05 at a
 dsimp only at a
 refine wkF Tryz.f213 ?_
 refine ifB a (λe a=>?_) λe a=>?_
 ·refine ifB a (λf a=>?_) λf a=>?_
  ·cases a
   exact aI rfl sr
  ·cases a
   exact aI rfl sr
 ·refine ifB a (λg a=>?_) λg a=>?_
  ·cases a
   exact aI rfl sr
  ·cases a
   exact aI rfl sr
def O0c(h:Hp)(u:List Value)(D:z0)(ae:L1.R h u D)(w:List Value)(F:K7)(af:I6.R h w F)(r:z0×Bool)(b:R9 D F=some r):
  Tr Tryz.prog 203 #[.agg u.toArray,.agg w.toArray] h λv h'=>∃(t:List Value),v = .tuple #[.agg t.toArray,.bool r.2]/\L1.R h' t r.1/\Sub h h':=by
 obtain⟨aH,aJ,am,ap,E,rfl,rfl,j,x,l,aB⟩:=opG ae
 obtain⟨G,H,rfl,rfl,y,z⟩:=u06 af
 unfold R9 at b
 dsimp only at b
 refine wk Tryz.f203 ?_
 refine trV b (t8 _ _ _ (C0 j x l)) λaR b=>?_
 refine ifB b (λT b=>?_) λT b=>?_
 ·refine trM b (G5 _ _ _ (C0 j x l)) ?_
  rintro aX b aQ ad ⟨ar,rfl,L⟩
  have ak:Sub h ad:=L.sub
  have ah:=L.r
  obtain⟨aY,aZ,ao,av,a0,rfl,rfl,Z,aa,ai,aF⟩:=opG ah
  try dsimp only at b
  cases b
  exact⟨_,rfl,(C0 Z aa ai),ak⟩
 ·obtain⟨s,Q,b⟩:=B0 b
  refine eX { vars:=[7],boxes:=[3] } (eX (λvs os h'=>∃ c u8 d g k i f,vs.tail = [iV c,iV u8,iV d,.slice g k i]/\os = []/\Sub h h'/\F0 c/\F0 u8/\F0 d/\M0.R h' [.slice g k i] f/\N5 E G H (N1 vs) c u8 d f=some s) (eX (λ_ _=>0) (aI (eX P0 ⟨_,_,_,_,_,_,_,rfl,rfl,sr,(by decide),j,(J0 _),(E0d J1 h),Q⟩) ?_)))
  rintro _ _ _ _ e ax ⟨c,u8,d,g,k,i,f,⟨⟩,⟨⟩,o,aw,A,C,m,a⟩
  replace a:N5 E G H e c u8 d f=some s:=a
  obtain _|e:=e
  ·cases a
  rw[N5.eq_2]at a
  obtain⟨rfl,aC⟩:=sL m
  refine ifB a (λS a=>?_) λS a=>?_
  ·refine ld a (M0.mono o l) λaS aq ag a=>?_
   obtain⟨aU,al,aV,rfl,rfl,U,V,W⟩:=C2 ag
   try dsimp only at a
   refine w5 13 ?_
   obtain⟨p,O,a⟩:=B0 a
   obtain⟨aK,M,a⟩:=B0 a
   have X:F0 p:=K0 M
   refine pm (.val (iV p)) ?_ ?_
   ·intro ay aM
    exact Tr.val (z0g _ _ U _ _ (D3 y z) _ O) r3
   obtain⟨q,P,a⟩:=B0 a
   obtain⟨aL,N,a⟩:=B0 a
   have Y:F0 q:=K0 N
   refine pm (.val (iV q)) ?_ ?_
   ·intro az aN
    exact Tr.val (z0g _ _ W _ _ (D3 y z) _ P) r3
   refine pm (.agg [.val (iV p),.val (iV al),.val (iV q)]) ?_ ?_
   ·intro aA aO
    exact r3
   intro ab J
   refine trM a (a02 _ _ _ _ _ (M0.mono J m) _ _ (U1 X V Y)) ?_
   rintro aW a aP ac ⟨an,aG,au,rfl,K⟩
   have aj:Sub ab ac:=K.sub
   have I:=K.r
   obtain⟨rfl,aD⟩:=sL I
   exact V1 e ⟨_,_,_,_,_,_,_,rfl,rfl,((o.trans J).trans aj),(J0 _),A,C,I,a⟩
  ·cases a
   try dsimp only[Q0,T0]at b
   cases b
   exact⟨_,rfl,(C0 A C m),o⟩
def G0i(h:Hp)(i:List Value)(l:z0)(z:L1.R h i l)(r:z0×K7×Bool)(a:f04 l=some r):
  Tr Tryz.prog 185 #[.agg i.toArray] h λv h'=>∃(f:List Value) (g:List Value),v = .tuple #[.agg f.toArray,.agg g.toArray,.bool r.2.2]/\L1.R h' f r.1/\I6.R h' g r.2.1/\Sub h h':=by
 obtain⟨W,X,I,L,Y,rfl,rfl,c,d,e,T⟩:=opG z
 unfold f04 at a
 dsimp only at a
 refine wk Tryz.f185 ?_
 refine trM a (F0h _ _ _ (C0 c d e)) ?_
 rintro G a aa x ⟨M,rfl,m,b⟩
 obtain⟨ac,af⟩:=G
 dsimp only at a m
 obtain⟨ad,ae,rfl,rfl,j,k⟩:=u06 m
 try dsimp only at a
 refine ifB a (λq a=>?_) λq a=>?_
 ·refine trM a (G5 _ _ _ (C0 c d (M0.mono b e))) ?_
  rintro ag a ab y ⟨N,rfl,p⟩
  have E:Sub x y:=p.sub
  have A:=p.r
  obtain⟨ah,ai,J,P,aj,rfl,rfl,s,t,C,U⟩:=opG A
  try dsimp only at a
  cases a
  exact⟨_,_,rfl,(C0 s t C),(D3 (by decide) (by decide)),(b.trans E)⟩
 ·refine trM a (O0c _ _ _ (C0 c d (M0.mono b e)) _ _ (D3 j k)) ?_
  rintro H a Z S ⟨O,rfl,o,F⟩
  obtain⟨ak,ao⟩:=H
  dsimp only at a o
  obtain⟨al,am,K,Q,an,rfl,rfl,u,w,D,V⟩:=opG o
  try dsimp only at a
  refine w3 ?_
  refine aI ?_ trivial
  refine aI (by first|exact trivial|exact rfl) ?_
  refine aI ?_ trivial
  refine aI (by first|exact trivial|exact rfl) ?_
  cases a
  exact⟨_,_,rfl,(C0 u w D),(D3 j k),(b.trans F)⟩
def U0k(h:Hp)(D:List Value)(I:z0)(ac:L1.R h D I)(r:z0×Y01)(b:M04 I=some r):
  Tr Tryz.prog 149 #[.agg D.toArray] h λv h'=>∃(C:List Value) (z:Option Addr) (H A:Nat),v = .tuple #[.agg C.toArray,.slice z H A]/\L1.R h' C r.1/\u0n.R h' [.slice z H A] r.2/\Sub h h':=by
 obtain⟨aL,aM,ak,ap,aN,rfl,rfl,W,X,ad,aD⟩:=opG ac
 unfold M04 at b
 dsimp only at b
 refine wk Tryz.f149 ?_
 refine trM b (G5 _ _ _ (C0 W X ad)) ?_
 rintro aU b aS t ⟨aq,rfl,O⟩
 have L:Sub h t:=O.sub
 have ae:=O.r
 obtain⟨a1,a2,am,aw,a3,rfl,rfl,aa,ab,ag,aH⟩:=opG ae
 try dsimp only at b
 obtain⟨y,T,b⟩:=B0 b
 refine eX { vars:=[6],boxes:=[2],owns:=[0] } (eX (λvs os h'=>∃ e f g o u p u8 x k,vs.tail = [iV e,iV f,iV g,.slice o u p]/\os = [x]/\Sub t h'/\F0 e/\F0 f/\F0 g/\M0.R h' [.slice o u p] u8/\F2 (I6.R h') x k/\G8 (N1 vs) e f g u8 k=some y) (eX (λ_ _=>0) (aI (eX P0 ⟨_,_,_,_,_,_,_,_,_,rfl,rfl,sr,(by decide),aa,ab,ag,(show F2 (I6.R t) ([]:LV) ([]:Y01) from trivial),T⟩) ?_)))
 rintro _ _ _ _ x i aA ⟨e,f,g,o,u,p,u8,a4,k,⟨⟩,⟨⟩,w,az,q,s,j,d,a⟩
 replace a:G8 i e f g u8 k=some y:=a
 obtain _|i:=i
 ·cases a
 rw[G8.eq_2]at a
 obtain⟨rfl,aF⟩:=sL j
 refine ifB a (λU a=>?_) λU a=>?_
 ·refine trM a (G0i _ _ _ (C0 q s j)) ?_
  rintro aj a aP G ⟨ar,au,rfl,J,K,c⟩
  obtain⟨aV,aZ,a0⟩:=aj
  dsimp only at a J K
  obtain⟨aW,aX,al,av,aY,rfl,rfl,Y,Z,af,aG⟩:=opG J
  try dsimp only at a
  obtain⟨l,m,rfl,rfl,E,F⟩:=u06 K
  try dsimp only at a
  refine ifB a (λV a=>?_) λV a=>?_
  ·intro aQ aB P
   obtain⟨an,ax,rfl,ah,M,aJ⟩:=Y0.out (r:=I6.toRp) P (F2.up (r:=I6.toRp) c d)
   cases a
   try dsimp only[P2,l3]at b
   cases b
   exact⟨_,_,_,_,rfl,(C0 q s (M0.mono (c.trans M) j)),ah,(((L.trans w).trans c).trans M)⟩
  ·obtain⟨aO,S,a⟩:=B0 a
   refine aI (M1 S (by first|rw[fL (F2.up (r:=I6.toRp) c d),fL (show F2 (I6.R G) ([[iV l,iV m]]:LV) [(l,m)] from⟨(D3 E F),trivial⟩)]|exact congrArg (·+1) (fL (F2.up (r:=I6.toRp) c d)))) ?_
   exact V1 i ⟨_,_,_,_,_,_,_,_,_,rfl,rfl,(w.trans c),(J0 _),Y,Z,af,(fA (F2.up (r:=I6.toRp) c d) (show F2 (I6.R G) ([[iV l,iV m]]:LV) [(l,m)] from⟨(D3 E F),trivial⟩)),a⟩
 ·cases a
  try dsimp only[Q0,T0]at b
  intro aR aC Q
  obtain⟨ao,ay,rfl,ai,N,aK⟩:=Y0.out (r:=I6.toRp) Q d
  cases b
  exact⟨_,_,_,_,rfl,(C0 q s (M0.mono N j)),ai,((L.trans w).trans N)⟩
def E0a(h:Hp)(d:List Value)(i:z0)(q:L1.R h d i)(r:z0×Bool)(a:k02 i=some r):
  Tr Tryz.prog 86 #[.agg d.toArray] h λv h'=>∃(c:List Value),v = .tuple #[.agg c.toArray,.bool r.2]/\L1.R h' c r.1/\Sub h h':=by
 obtain⟨C,D,t,w,E,rfl,rfl,e,f,j,z⟩:=opG q
 unfold k02 at a
 dsimp only at a
 refine wk Tryz.f86 ?_
 refine trM a (G5 _ _ _ (C0 e f j)) ?_
 rintro G a F p ⟨x,rfl,l⟩
 have b:Sub h p:=l.sub
 have s:=l.r
 obtain⟨H,I,u,y,J,rfl,rfl,g,o,k,A⟩:=opG s
 try dsimp only at a
 refine trV a (t8 _ _ _ (C0 e f (M0.mono b j))) λK a=>?_
 refine ifB a (λm a=>?_) λm a=>?_
 ·cases a
  exact⟨_,rfl,(C0 g o k),b⟩
 ·cases a
  exact⟨_,rfl,(C0 g (J0 _) k),b⟩
def I0d(h:Hp)(G:List Value)(M:z0)(ac:L1.R h G M)(r:S0)(d:u00 M=some r):
  Tr Tryz.prog 154 #[.agg G.toArray] h λv h'=>∃(E:Option Addr) (L F:Nat),v = .slice E L F/\M0.R h' [.slice E L F] r/\Sub h h':=by
 obtain⟨k,l,af,ai,m,rfl,rfl,u,I,N,ap⟩:=opG ac
 unfold u00 at d
 dsimp only at d
 refine wk Tryz.f154 ?_
 obtain⟨C,V,d⟩:=B0 d
 refine eX { vars:=[4],owns:=[0] } (eX (λvs os h'=>∃ c A s,vs.tail = [iV c]/\os = [A]/\Sub h h'/\F0 c/\F2 (J1.R h') A s/\A6 l k m (N1 vs) c s=some C) (eX (λ_ _=>0) (aI (eX P0 ⟨_,_,_,rfl,rfl,sr,(by decide),(show F2 (J1.R h) ([]:LV) ([]:S0) from trivial),V⟩) ?_)))
 rintro _ A j ao ⟨c,aC,s,⟨⟩,⟨⟩,o,w,H,b⟩
 replace b:A6 l k m j c s=some C:=b
 obtain _|j:=j
 ·cases b
 rw[A6.eq_2]at b
 refine trG b (λq=>F7 _ _ _ (C0 u I (M0.mono o N))) λaA b=>?_
 refine ifB b (λZ b=>?_) λZ b=>?_
 ·refine trM b (j05 _ _ u) ?_
  rintro P b ax ab ⟨ag,au,aj,rfl,x,y⟩
  obtain⟨rfl,aq⟩:=sL x
  obtain⟨D,W,b⟩:=B0 b
  refine eX { vars:=[6],owns:=[0] } (eX (λvs os h'=>∃ i z p,vs.tail = [iV i]/\os = [z]/\Sub ab h'/\F0 i/\F2 (J1.R h') z p/\L4 P k l m c (N1 vs) i p=some D) (eX (λ_ _=>0) (aI (eX P0 ⟨_,_,_,rfl,rfl,sr,(by decide),(F2.up (r:=J1.toRp) y H),W⟩) ?_)))
  rintro _ z g K ⟨i,aB,p,⟨⟩,⟨⟩,e,al,f,a⟩
  replace a:L4 P k l m c g i p=some D:=a
  obtain _|g:=g
  ·cases a
  rw[L4.eq_2]at a
  refine ifB a (λX a=>?_) λX a=>?_
  ·refine w1 ?_
   refine ldI a (I0.mono e x) λaz aa a=>?_
   obtain⟨O,U,a⟩:=B0 a
   refine eX (iV O) (aI (W6 _ _ _ (C0 u I (M0.mono ((o.trans y).trans e) N)) _ w _ aa _  U) ?_)
   obtain⟨av,S,a⟩:=B0 a
   have am:F0 O:=K0 S
   refine ifB a (λY a=>?_) λY a=>?_
   ·refine ldI a (I0.mono e x) λt J a=>?_
    obtain⟨aw,T,a⟩:=B0 a
    refine aI (M1 T (by first|rw[fL f,fL (show F2 (J1.R K) ([[iV c,iV t,iV (-1)]]:LV) [(c,t,(-1))] from⟨(U1 w J (by decide)),trivial⟩)]|exact congrArg (·+1) (fL f))) ?_
    exact V1 g ⟨_,_,_,rfl,rfl,e,(J0 _),(fA f (show F2 (J1.R K) ([[iV c,iV t,iV (-1)]]:LV) [(c,t,(-1))] from⟨(U1 w J (by decide)),trivial⟩)),a⟩
   ·exact V1 g ⟨_,_,_,rfl,rfl,e,(J0 _),f,a⟩
  ·cases a
   try dsimp only[Q0,T0]at b
   exact V1 j ⟨_,_,_,rfl,rfl,((o.trans y).trans e),(J0 _),f,b⟩
 ·cases b
  try dsimp only[Q0,T0]at d
  intro ay an Q
  obtain⟨ah,ak,rfl,ad,ae,ar⟩:=Y0.out (r:=J1.toRp) Q H
  cases d
  exact⟨_,_,_,rfl,ad,(o.trans ae)⟩
theorem G0h(h:Hp)(csp0:List Value)(p0:z0)(rp0:L1.R h csp0 p0)(r:z0×H0)(hM0:B03 p0=some r):
  Tr Tryz.prog 150 #[.agg csp0.toArray] h λv h'=>∃(cs0:List Value) (a1:Option Addr) (n1 c1:Nat),v = .tuple #[.agg cs0.toArray,.slice a1 n1 c1]/\L1.R h' cs0 r.1/\I0.R h' [.slice a1 n1 c1] r.2/\Sub h h':=by
 obtain⟨p0_0,p0_1,ap0_2,np0_2,cp0_2,p0_2,rfl,rfl,ip0_0,ip0_1,rp0_2⟩:=W0 rp0
 obtain⟨rfl,lp0_2⟩:=Sl.len rp0_2
 unfold B03 at hM0
 dsimp only at hM0
 refine E4 (args:=[.agg #[.int .i64 p0_0,.int .i64 p0_1,.slice ap0_2 p0_2.length cp0_2]]) (fn:=Tryz.f150) rfl ?_
 refine trM hM0 (G5 _ _ _ (C0 ip0_0 ip0_1 rp0_2)) ?_
 rintro x1 hM0 v3 k2 ⟨csx1,rfl,wx1⟩
 have sx1:Sub h k2:=wx1.sub
 have rx1:=wx1.r
 obtain⟨x1_0,x1_1,ax1_2,nx1_2,cx1_2,x1_2,rfl,rfl,ix1_0,ix1_1,rx1_2⟩:=W0 rx1
 obtain⟨rfl,lx1_2⟩:=Sl.len rx1_2
 try dsimp only at hM0
 obtain⟨X4,hLX4,hM0⟩:=B0 hM0
 refine eX { vars:=[6],boxes:=[],owns:=[0],fuel:=true } (eX (λvs os h'=>∃ u5 wu6 u6,vs.tail = [.int .i64 u5]/\os = [wu6]/\Sub k2 h'/\F0 u5/\F2 (Wp.int.R h') wu6 u6/\n8 p0_1 p0_0 p0_2 (N1 vs) u5 u6=some X4) (eX (λ_ _=>0) (aI (eX P0 ⟨0,[],([]:H0),rfl,rfl,(Sub.refl _),(by decide),(show F2 (Wp.int.R k2) ([]:List (List Value)) ([]:H0) from trivial),hLX4⟩) ?_)))
 rintro _ wu6 m8 k7 ⟨u5,zzu6,u6,⟨⟩,⟨⟩,sX4,iu5,fu6,hM1⟩
 replace hM1:n8 p0_1 p0_0 p0_2 m8 u5 u6=some X4:=hM1
 obtain _|m8:=m8
 ·cases hM1
 rw[n8.eq_2]at hM1
 refine trG hM1 (λq=>t8 _ _ _ (C0 ip0_0 ip0_1 (M0.mono (sx1.trans sX4) rp0_2))) λx9 hM1=>?_
 refine ifB hM1 (λhc10 hM1=>?_) λhc10 hM1=>?_
 ·obtain⟨q11,gq11,hM1⟩:=B0 hM1
  refine aI (M1 gq11 (by first|rw[F2.length fu6,F2.length (show F2 (Wp.int.R k7) ([[.int .i64 u5]]:List (List Value)) [u5] from⟨⟨rfl,iu5⟩,trivial⟩)]|exact congrArg (·+1) (F2.length fu6))) ?_
  exact V1 m8 ⟨(IntKind.i64.wrap (u5+1)),(wu6++([[.int .i64 u5]]:List (List Value))),(u6 ++ [u5]),rfl,rfl,sX4,(J0 _),(F2.append fu6 (show F2 (Wp.int.R k7) ([[.int .i64 u5]]:List (List Value)) [u5] from⟨⟨rfl,iu5⟩,trivial⟩)),hM1⟩
 ·obtain rfl:=oJ hM1
  try dsimp only[Q0,T0]at hM0
  obtain⟨X16,hLX16,hM0⟩:=B0 hM0
  refine eX { vars:=[5,7],boxes:=[2],owns:=[],fuel:=true,pubs:=[5] } (eX (λvs os h'=>∃(au17:Option Addr) (nu17 cu17:Nat) (u17:H0) (u18:Int) (u19:Int) (u20:Int) (au21:Option Addr) (nu21 cu21:Nat) (u21:S0),vs.tail = [.slice au17 nu17 cu17,.int .i64 u18,.int .i64 u19,.int .i64 u20,.slice au21 nu21 cu21]/\os = []/\Sub k7 h'/\I0.R h' [.slice au17 nu17 cu17] u17/\F0 u18/\F0 u19/\F0 u20/\M0.R h' [.slice au21 nu21 cu21] u21/\l8 p0_0 p0_1 p0_2 (N1 vs) u17 u18 u19 u20 u21=some X16) (eX (λ_ _=>0) ?_))
  intro v12 k13 f14
  obtain⟨az15,cz15,rfl,rz15,sz15,lz15⟩:=Y0.out (r:=Wp.int.toRp) f14 fu6
  refine aI (eX P0 ⟨az15,u6.length,cz15,u6,0,x1_0,x1_1,ax1_2,x1_2.length,cx1_2,x1_2,rfl,rfl,sz15,rz15,(by decide),ix1_0,ix1_1,(M0.mono (sX4.trans sz15) rx1_2),hLX16⟩) ?_
  rintro _ _ _ _ _ m23 k22 ⟨au17,nu17,cu17,u17,u18,u19,u20,au21,nu21,cu21,u21,⟨⟩,⟨⟩,sX16,ru17,iu18,iu19,iu20,ru21,hM1⟩
  replace hM1:l8 p0_0 p0_1 p0_2 m23 u17 u18 u19 u20 u21=some X16:=hM1
  obtain _|m23:=m23
  ·cases hM1
  rw[l8.eq_2]at hM1
  obtain⟨rfl,lu17⟩:=Sl.len ru17
  obtain⟨rfl,lu21⟩:=Sl.len ru21
  refine trG hM1 (λq=>t8 _ _ _ (C0 ip0_0 ip0_1 (M0.mono ((sx1.trans sX4).trans sX16) rp0_2))) λx24 hM1=>?_
  refine ifB hM1 (λhc25 hM1=>?_) λhc25 hM1=>?_
  ·refine trV hM1 (o0e _ _ _ (C0 iu19 iu20 ru21)) λx26 hM1=>?_
   obtain⟨q27,gq27,hM1⟩:=B0 hM1
   have ix26:F0 x26:=K0 gq27
   refine ifB hM1 (λhc28 hM1=>?_) λhc28 hM1=>?_
   ·obtain rfl:=oJ hM1
    try dsimp only[P2,l3]at hM0
    obtain rfl:=oJ hM0
    exact⟨([.int .i64 u19,.int .i64 u20,.slice au21 u21.length cu21]),au17,u17.length,cu17,rfl,(C0 iu19 iu20 ru21),ru17,((sx1.trans sX4).trans sX16)⟩
   ·obtain⟨X29,hLX29,hM1⟩:=B0 hM1
    refine eX { vars:=[11],boxes:=[],owns:=[1,2],fuel:=true } (eX (λvs os h'=>∃ u30 wu31 u31 wu32 u32,vs.tail = [.int .i64 u30]/\os = [wu31,wu32]/\Sub k22 h'/\F0 u30/\F2 (Wp.int.R h') wu31 u31/\F2 (Wp.int.R h') wu32 u32/\z7 u20 x26 u17 (N1 vs) u30 u31 u32=some X29) (eX (λ_ _=>0) (aI (eX P0 ⟨0,[],([]:H0),[],([]:H0),rfl,rfl,(Sub.refl _),(by decide),(show F2 (Wp.int.R k22) ([]:List (List Value)) ([]:H0) from trivial),(show F2 (Wp.int.R k22) ([]:List (List Value)) ([]:H0) from trivial),hLX29⟩) ?_)))
    rintro _ wu31 wu32 m34 k33 ⟨u30,zzu31,u31,zzu32,u32,⟨⟩,⟨⟩,sX29,iu30,fu31,fu32,hM2⟩
    replace hM2:z7 u20 x26 u17 m34 u30 u31 u32=some X29:=hM2
    obtain _|m34:=m34
    ·cases hM2
    rw[z7.eq_2]at hM2
    refine ifB hM2 (λhc35 hM2=>?_) λhc35 hM2=>?_
    ·refine ifB hM2 (λhc36 hM2=>?_) λhc36 hM2=>?_
     ·obtain⟨q37,gq37,hM2⟩:=B0 hM2
      refine aI (M1 gq37 (by first|rw[F2.length fu31,F2.length (show F2 (Wp.int.R k33) ([[.int .i64 u30]]:List (List Value)) [u30] from⟨⟨rfl,iu30⟩,trivial⟩)]|exact congrArg (·+1) (F2.length fu31))) ?_
      refine ldI hM2 (I0.mono sX29 ru17) λx38 ix38 hM2=>?_
      obtain⟨q39,gq39,hM2⟩:=B0 hM2
      refine aI (M1 gq39 (by first|rw[F2.length fu32,F2.length (show F2 (Wp.int.R k33) ([[.int .i64 x38]]:List (List Value)) [x38] from⟨⟨rfl,ix38⟩,trivial⟩)]|exact congrArg (·+1) (F2.length fu32))) ?_
      exact V1 m34 ⟨(IntKind.i64.wrap (u30+1)),(wu31++([[.int .i64 u30]]:List (List Value))),(u31 ++ [u30]),(wu32++([[.int .i64 x38]]:List (List Value))),(u32 ++ [x38]),rfl,rfl,sX29,(J0 _),(F2.append fu31 (show F2 (Wp.int.R k33) ([[.int .i64 u30]]:List (List Value)) [u30] from⟨⟨rfl,iu30⟩,trivial⟩)),(F2.append fu32 (show F2 (Wp.int.R k33) ([[.int .i64 x38]]:List (List Value)) [x38] from⟨⟨rfl,ix38⟩,trivial⟩)),hM2⟩
     ·exact V1 m34 ⟨(IntKind.i64.wrap (u30+1)),wu31,u31,wu32,u32,rfl,rfl,sX29,(J0 _),fu31,fu32,hM2⟩
    ·obtain rfl:=oJ hM2
     try dsimp only[Q0,T0]at hM1
     refine Or.inl ?_
     intro v40 k41 f42
     obtain⟨az43,cz43,rfl,rz43,sz43,lz43⟩:=Y0.out (r:=Wp.int.toRp) f42 fu31
     refine trM hM1 (Y04 _ _ _ (C0 iu19 iu20 (M0.mono (sX29.trans sz43) ru21)) _ _ _ _ rz43) ?_
     rintro x44 hM1 v46 k45 ⟨csx44_0,rfl,wx44_0⟩
     obtain⟨x44_0,x44_1⟩:=x44
     dsimp only at hM1 wx44_0
     have sx44:Sub k41 k45:=wx44_0.sub
     have rx44_0:=wx44_0.r
     obtain⟨x44_0_0,x44_0_1,ax44_0_2,nx44_0_2,cx44_0_2,x44_0_2,rfl,rfl,ix44_0_0,ix44_0_1,rx44_0_2⟩:=W0 rx44_0
     obtain⟨rfl,lx44_0_2⟩:=Sl.len rx44_0_2
     try dsimp only at hM1
     intro v47 k48 f49
     obtain⟨az50,cz50,rfl,rz50,sz50,lz50⟩:=Y0.out (r:=Wp.int.toRp) f49 (F2.up (r:=Wp.int.toRp) (sz43.trans sx44) fu32)
     exact V1 m23 ⟨az50,u32.length,cz50,u32,(IntKind.i64.wrap (u18+1)),x44_0_0,x44_0_1,ax44_0_2,x44_0_2.length,cx44_0_2,x44_0_2,rfl,rfl,((((sX16.trans sX29).trans sz43).trans sx44).trans sz50),rz50,(J0 _),ix44_0_0,ix44_0_1,(M0.mono sz50 rx44_0_2),hM1⟩
  ·obtain rfl:=oJ hM1
   try dsimp only[Q0,T0]at hM0
   obtain rfl:=oJ hM0
   exact⟨([.int .i64 u19,.int .i64 u20,.slice au21 u21.length cu21]),au17,u17.length,cu17,rfl,(C0 iu19 iu20 ru21),ru17,((sx1.trans sX4).trans sX16)⟩
def k05(h:Hp)(d:List Value)(e:z0)(x:L1.R h d e)(r:z0)(a:H7 e=some r):
  Tr Tryz.prog 80 #[.agg d.toArray] h λv h'=>∃(c:List Value),v = .agg c.toArray/\New L1 h h' c r:=by
 obtain⟨ah,ai,I,O,aj,rfl,rfl,k,l,y,Z⟩:=opG x
 unfold H7 at a
 dsimp only at a
 refine wk Tryz.f80 ?_
 refine trM a (U0k _ _ _ (C0 k l y)) ?_
 rintro G a am Y ⟨P,K,af,U,rfl,f,g,D⟩
 obtain⟨ap,av⟩:=G
 dsimp only at a f g
 obtain⟨aq,ar,J,T,au,rfl,rfl,m,o,z,aa⟩:=opG f
 try dsimp only at a
 obtain⟨rfl,ab⟩:=sL g
 refine trM a (G0h _ _ _ (C0 m o z)) ?_
 rintro H a an u ⟨Q,M,ag,W,rfl,i,j,E⟩
 obtain⟨aw,aA⟩:=H
 dsimp only at a i j
 obtain⟨ax,ay,L,V,az,rfl,rfl,p,q,A,ac⟩:=opG i
 try dsimp only at a
 obtain⟨rfl,ad⟩:=sL j
 refine trM a (X06 _ _ _ (C0 p q A)) ?_
 rintro aB a ao w ⟨S,rfl,b⟩
 have al:Sub u w:=b.sub
 have C:=b.r
 obtain⟨aC,aD,N,X,aF,rfl,rfl,s,t,ak,ae⟩:=opG C
 try dsimp only at a
 have F:=nD (nD (b))
 cases a
 exact⟨_,rfl,(nP (nI s) (nP (nI t) (New.from F (D.trans E))))⟩
def q04(h:Hp)(e:List Value)(j:z0)(z:L1.R h e j)(c:Option Addr)(i d:Nat)(k:H0)(m:I0.R h [.slice c i d] k)(r:Bool)(a:B9 j k=some r):
  Tr Tryz.prog 14 #[.agg e.toArray,.slice c i d] h λv h'=>v = .bool r/\h'=h:=by
 obtain⟨aa,ab,H,K,ac,rfl,rfl,f,g,l,V⟩:=opG z
 obtain⟨rfl,W⟩:=sL m
 unfold B9 at a
 dsimp only at a
 refine wkF Tryz.f14 ?_
 refine w4 ?_
 obtain⟨F,w,a⟩:=B0 a
 refine fS I0 F ?_ ?_
 ·intro Q C
  refine Tr.mono (X04 _ _ _ _ _ (I0.mono C m) _ w) ?_
  rintro _ U ⟨s,Z,t,rfl,o,E⟩
  obtain⟨rfl,y⟩:=sL o
  exact aI t6 (aI E ⟨s,t,rfl,o,y⟩)
 obtain⟨G,x,a⟩:=B0 a
 obtain⟨b,q⟩:=G
 try dsimp only at a
 obtain⟨ad,u,a⟩:=B0 a
 have N:F0 b:=K0 u
 refine pm (.val (.tuple #[iV b,.bool q])) ?_ ?_
 ·intro S D
  rintro _ ⟨J,M,rfl,A,Y⟩
  exact Tr.val (O07 _ _ _ (C0 f g (M0.mono D l)) 0 (by decide) _ _ _ _ A _ x) r3
 refine pm (.val (iV b)) ?_ ?_
 ·intro T af
  exact r3
 refine pm (.val (.bool q)) ?_ ?_
 ·intro O ag
  exact r3
 intro P p
 rintro _ ⟨I,L,rfl,ae,X⟩
 refine trV a (Y6 _ _ _ (C0 f g (M0.mono p l))) λah a=>?_
 cases a
 exact aI rfl p
def P0c(h:Hp)(d:List Value)(g:z0)(q:L1.R h d g)(r:Bool)(a:t01 g=some r):
  Tr Tryz.prog 83 #[.agg d.toArray] h λv h'=>v = .bool r/\h'=h:=by
 obtain⟨N,O,y,A,P,rfl,rfl,e,f,i,K⟩:=opG q
 unfold t01 at a
 dsimp only at a
 refine wkF Tryz.f83 ?_
 refine aI (by kernel_rfl) ?_
 obtain⟨x,m,a⟩:=B0 a
 refine pm (.val (.bool x)) ?_ ?_
 ·intro G t
  exact Tr.val (Y6 _ _ _ (C0 e f (M0.mono t i)) _ m) r3
 obtain⟨c,o,a⟩:=B0 a
 refine fS M0 c ?_ ?_
 ·intro H u b
  refine Tr.mono (I0d _ _ _ (C0 e f (M0.mono u i)) _ (Z3 o b)) ?_
  rintro _ J ⟨k,M,l,rfl,j,w⟩
  obtain⟨rfl,p⟩:=sL j
  exact aI t6 (aI w ⟨k,l,rfl,j,p⟩)
 obtain⟨Q,D,a⟩:=B0 a
 refine pm (.val (iV ((c.length:Nat):Int))) ?_ ?_
 ·intro I U b
  rintro _ ⟨z,C,rfl,S,L⟩
  exact r3
 refine pm (.val (.bool (decide (((c.length:Nat):Int)=0)))) ?_ ?_
 ·intro E T b
  exact r3
 intro F s
 cases a
 exact aI rfl s
def x0b(h:Hp)(x:List Value)(D:z0)(V:L1.R h x D)(d:Int)(y:F0 d)(r:z0×Bool)(a:D9 D d=some r):
  Tr Tryz.prog 88 #[.agg x.toArray,iV d] h λv h'=>∃(w:List Value),v = .tuple #[.agg w.toArray,.bool r.2]/\New L1 h h' w r.1:=by
 obtain⟨az,m,af,ak,aA,rfl,rfl,k,l,o,au⟩:=opG V
 unfold D9 at a
 dsimp only at a
 refine wk Tryz.f88 ?_
 refine trV a (F7 _ _ _ (C0 k l o)) λaN a=>?_
 refine trG a (λq=>Q4 _ _ y 0 (by decide) (i64.wrap (m-1)) (J0 _)) λaO a=>?_
 refine ifB a (λK a=>?_) λK a=>?_
 ·refine trM a (G5 _ _ _ (C0 k l o)) ?_
  rintro aZ a aL U ⟨an,rfl,t⟩
  have aG:Sub h U:=t.sub
  have Z:=t.r
  obtain⟨a0,a1,ai,aq,a2,rfl,rfl,P,Q,aD,ax⟩:=opG Z
  try dsimp only at a
  have ad:=nD (nD (t))
  cases a
  exact⟨_,rfl,(nP (nI P) (nP (nI Q) ad))⟩
 ·obtain⟨u,H,a⟩:=B0 a
  refine eX { vars:=[7],owns:=[0] } (eX (λvs os h'=>∃ c p i,vs.tail = [iV c]/\os = [p]/\Sub h h'/\F0 c/\F2 (Wp.int.R h') p i/\P5 m d (N1 vs) c i=some u) (eX (λ_ _=>0) (aI (eX P0 ⟨_,_,_,rfl,rfl,sr,(by decide),(show F2 (Wp.int.R h) ([[iV d]]:LV) [d] from⟨⟨rfl,y⟩,trivial⟩),H⟩) ?_)))
  rintro _ p f A ⟨c,a3,i,⟨⟩,⟨⟩,g,z,e,b⟩
  replace b:P5 m d f c i=some u:=b
  obtain _|f:=f
  ·cases b
  rw[P5.eq_2]at b
  refine ifB b (λI b=>?_) λI b=>?_
  ·refine ifB b (λJ b=>?_) λJ b=>?_
   ·obtain⟨aB,G,b⟩:=B0 b
    refine aI (M1 G (by first|rw[fL e,fL (show F2 (Wp.int.R A) ([[iV c]]:LV) [c] from⟨⟨rfl,z⟩,trivial⟩)]|exact congrArg (·+1) (fL e))) ?_
    exact V1 f ⟨_,_,_,rfl,rfl,g,(J0 _),(fA e (show F2 (Wp.int.R A) ([[iV c]]:LV) [c] from⟨⟨rfl,z⟩,trivial⟩)),b⟩
   ·exact V1 f ⟨_,_,_,rfl,rfl,g,(J0 _),e,b⟩
  ·cases b
   try dsimp only[Q0,T0]at a
   refine Or.inl ?_
   intro aH S F
   obtain⟨aj,ar,rfl,aa,E,ay⟩:=Y0.out (r:=Wp.int.toRp) F e
   refine trM a (Y04 _ _ _ (C0 k l (M0.mono (g.trans E) o)) _ _ _ _ aa) ?_
   rintro ae a aJ C ⟨al,rfl,j⟩
   obtain⟨aP,aU⟩:=ae
   dsimp only at a j
   have ab:Sub S C:=j.sub
   have W:=j.r
   obtain⟨aQ,aR,ag,ao,aS,rfl,rfl,L,M,X,av⟩:=opG W
   try dsimp only at a
   have aM:=nD (nD (j))
   refine trM a (k05 _ _ _ (C0 L M X)) ?_
   rintro aV a aK T ⟨am,rfl,s⟩
   have aF:Sub C T:=s.sub
   have Y:=s.r
   obtain⟨aW,aX,ah,ap,aY,rfl,rfl,N,O,aC,aw⟩:=opG Y
   try dsimp only at a
   have ac:=nD (nD (s))
   cases a
   exact⟨_,rfl,(nP (nI N) (nP (nI O) (New.from ac ((g.trans E).trans ab))))⟩
set_option maxHeartbeats 0
def H0i(h:Hp)(am:List Value)(aC:z0)(b1:L1.R h am aC)(w:Int)(bQ:F0 w)(r:(List Bool)×O1)(f:k04 aC w=some r):
  Tr Tryz.prog 211 #[.agg am.toArray,iV w] h λv h'=>∃(ai:Option Addr) (aA ak:Nat) (aj:Option Addr) (aB al:Nat),v = .tuple #[.slice ai aA ak,.slice aj aB al]/\(Wp.slice Wp.bool).R h' [.slice ai aA ak] r.1/\T1.R h' [.slice aj aB al] r.2/\Sub h h':=by
 obtain⟨N,j,cr,cx,O,rfl,rfl,av,bP,b2,c7⟩:=opG b1
 unfold k04 at f
 dsimp only at f
 refine wk Tryz.f211 ?_
 obtain⟨ds,bk,f⟩:=B0 f
 refine aI (K0 bk) ?_
 obtain⟨dt,bl,f⟩:=B0 f
 refine aI (K0 bl) ?_
 obtain⟨dN,bq,f⟩:=B0 f
 obtain⟨aO,cy,a2,b3⟩:=L3 (F2.rep (p:=Wp.bool.R h) (a:=[.bool false]) (b:=false) rfl (j.toNat)) bq
 refine aI aO ?_
 obtain rfl:=b3
 refine eX _ (aI a2 ?_)
 obtain⟨dS,bv,f⟩:=B0 f
 obtain⟨aR,cD,a5,b8⟩:=L3 (F2.rep (p:=I0.R h) (a:=[.slice none 0 0]) (b:=[]) (E0d Wp.int h) (j.toNat)) bv
 refine aI aR ?_
 obtain⟨cs,cJ,rfl,c8⟩:=slL b8
 intro dJ ax bf
 obtain⟨aN,a1,rfl,cg,P,di⟩:=Y0.out (r:=Wp.int.toRp) bf (show F2 (Wp.int.R h) ([]:LV) ([]:H0) from trivial)
 refine eX _ (aI a5 ?_)
 refine trM f (j05 _ _ av) ?_
 rintro K f dI bV ⟨aM,dm,aY,rfl,aa,I⟩
 obtain⟨rfl,dd⟩:=sL aa
 obtain⟨ag,bI,f⟩:=B0 f
 refine eX { vars:=[10],owns:=[0,1,3],kept:=[0,1] } (eX (λvs os h'=>∃ x ab Q ac S X T,vs.tail = [iV x]/\os = [ab,ac,X]/\Sub bV h'/\F0 x/\F2 (Wp.bool.R h') ab Q/\F2 (I0.R h') ac S/\F2 (Wp.int.R h') X T/\i00 K N j O (N1 vs) x Q S T=some ag) (eX (λ_ _=>0) (aI (eX P0 ⟨_,_,_,_,_,_,_,rfl,rfl,sr,(by decide),(F2.up (r:=Wp.bool.toRp) (P.trans I) (F2.set (p:=Wp.bool.R h) (a:=[.bool true]) (b:=true) rfl w.toNat (F2.rep (p:=Wp.bool.R h) (a:=[.bool false]) (b:=false) rfl (j.toNat)))),(F2.up (r:=I0.toRp) I (F2.set (p:=I0.R ax) (a:=[.slice aN (([]:H0)).length a1]) (b:=([]:H0)) cg w.toNat (F2.up (r:=I0.toRp) P (F2.rep (p:=I0.R h) (a:=[.slice none 0 0]) (b:=[]) (E0d Wp.int h) (j.toNat))))),(F2.up (r:=Wp.int.toRp) I (show F2 (Wp.int.R ax) ([[iV w]]:LV) [w] from⟨⟨rfl,bQ⟩,trivial⟩)),bI⟩) ?_)))
 rintro _ ab ac X M bW ⟨x,dV,Q,dW,S,dX,T,⟨⟩,⟨⟩,G,cS,ao,ap,aq,i⟩
 replace i:i00 K N j O M x Q S T=some ag:=i
 obtain _|M:=M
 ·cases i
 rw[i00.eq_2]at i
 obtain⟨bY,bj,i⟩:=B0 i
 obtain rfl:X.length=bY:=(fL aq).trans (oJ bj)
 obtain⟨du,cP,i⟩:=B0 i
 refine ifB i (λbL i=>?_) λbL i=>?_
 ·obtain⟨ah,bJ,i⟩:=B0 i
  refine eX { vars:=[11],owns:=[0,1,3],kept:=[0,1] } (eX (λvs os h'=>∃ A ad U ae V af W,vs.tail = [iV A]/\os = [ad,ae,af]/\Sub bW h'/\F0 A/\F2 (Wp.bool.R h') ad U/\F2 (I0.R h') ae V/\F2 (Wp.int.R h') af W/\U7 K x N j O (N1 vs) A U V W=some ah) (eX (λ_ _=>0) (aI (eX P0 ⟨_,_,_,_,_,_,_,rfl,rfl,sr,(by decide),ao,ap,aq,bJ⟩) ?_)))
  rintro _ ad ae af F L ⟨A,dY,U,d1,V,d2,W,⟨⟩,⟨⟩,z,cU,D,E,u,d⟩
  replace d:U7 K x N j O F A U V W=some ah:=d
  obtain _|F:=F
  ·cases d
  rw[U7.eq_2]at d
  refine ifB d (λbM d=>?_) λbM d=>?_
  ·refine w1 ?_
   obtain⟨dO,br,d⟩:=B0 d
   obtain⟨aP,cz,a3,b5⟩:=L3 u br
   refine aI aP ?_
   obtain⟨rfl,bR⟩:=b5
   refine eX _ (aI a3 ?_)
   refine ldI d (I0.mono (G.trans z) aa) λdP bS d=>?_
   obtain⟨s,bs,d⟩:=B0 d
   refine eX (iV s) (aI (W6 _ _ _ (C0 av bP (M0.mono (((P.trans I).trans G).trans z) b2)) _ bR _ bS _  bs) ?_)
   obtain⟨dv,bm,d⟩:=B0 d
   have aw:F0 s:=K0 bm
   obtain⟨dQ,bt,d⟩:=B0 d
   obtain⟨cA,an,b6⟩:=s05 D bt (Y0u L)
   refine aI (λq=>(an q).1) ?_
   obtain rfl:=b6
   refine eX _ (aI (λq=>(an q).2) ?_)
   refine ifB d (λbN d=>?_) λbN d=>?_
   ·obtain⟨dR,bu,d⟩:=B0 d
    obtain⟨aQ,cC,a4,b7⟩:=L3 D bu
    refine aI aQ ?_
    obtain rfl:=b7
    refine eX _ (aI a4 ?_)
    refine w5 16 ?_
    refine Or.inr (eX (λv Y=>∃(g:Nat),v = .slice (some ⟨g,0,none⟩) 0 0/\L g=none/\∃ e,Y g=some (.cells #[] e (0,0))) (aI (λv bE bG H q=>by obtain⟨g,e,n,t,c⟩:=q;exact⟨g,e,n,t,H _ _ c⟩) (aI ?_ ?_)))
    ·intro cW cj
     intro g au
     exact aI t6 (aI (Sub.set au) ⟨g,rfl,Sub.back cj au,_,Hp.set_same _ _ _⟩)
    obtain⟨co,bx,d⟩:=B0 d
    obtain⟨aS,cE,a6,ca⟩:=L3 u bx
    obtain⟨rfl,cV⟩:=ca
    refine Or.inl ?_
    apply eX
    refine aI ?_ ?_
    ·intro cX dz
     exact aI aS r3
    refine pm (.val (iV co)) ?_ ?_
    ·intro cY dA
     exact eX _ (aI a6 r3)
    obtain⟨y,bz,d⟩:=B0 d
    obtain⟨aU,cG,a7,aD⟩:=L3 E bz
    obtain⟨aL,aX,rfl,db⟩:=slL aD
    refine Or.inl ?_
    apply eX
    refine aI ?_ ?_
    ·intro cZ dB
     exact aI aU r3
    refine pm (.val (.slice aL y.length aX)) ?_ ?_
    ·intro c0 dC
     exact eX _ (aI a7 r3)
    obtain⟨dw,bn,d⟩:=B0 d
    refine Or.inr (eX (λv Y=>∃(g o c:Nat),v = .slice (some ⟨g,o,none⟩) y.length c/\New I0 L Y [.slice (some ⟨g,o,none⟩) y.length c] y/\y.length<=9223372036854775807) (aI (λv bE bG H q=>by obtain⟨g,o,c,e,r,l⟩:=q;exact⟨g,o,c,e,New.mono r H,l⟩) (aI ?_ ?_)))
    ·intro c1 aG
     rintro _ ⟨cQ,rfl,bZ,aZ⟩
     obtain⟨cm,bd,bX,cq,bi⟩:=New.appZ (r:=Wp.int) bZ aZ aG (I0.mono aG aD) (n05 _)
     exact eX cm (aI bd (aI (M1 bn bX) (aI (λbO=>aI t6 (aI sr (cq bO))) (λv bH hf=>aI t6 (bi v bH _ hf)))))
    obtain⟨J,bA,d⟩:=B0 d
    obtain⟨aV,cH,a8,cb⟩:=Sl.getI (r:=Wp.int.toRp) (I0.mono (G.trans z) aa) bA (by decide)
    obtain⟨rfl,bU⟩:=cb
    refine pm (.hel (.slice aM K.length aY) A 1 0) ?_ ?_
    ·intro c2 dD
     exact aI aV r3
    refine pm (.val (iV J)) ?_ ?_
    ·intro c3 ck
     exact eX _ (aI (O8.up ck a8) r3)
    obtain⟨C,bB,d⟩:=B0 d
    refine fS I0 C ?_ ?_
    ·intro ay dG
     have ba:[J]=C:=oJ bB
     intro v k hf
     obtain⟨a,c,rfl,r,H,l⟩:=Y0.out (r:=Wp.int.toRp) (xs:=C) hf (show F2 (Wp.int.R ay) [[iV J]] C from ba▸(show F2 (Wp.int.R ay) [[iV J]] [J] from⟨⟨rfl,bU⟩,trivial⟩))
     exact aI ⟨rfl,rfl,rfl,[_],rfl⟩ (aI H ⟨a,c,rfl,r,l⟩)
    intro c4 dH
    rintro _ ⟨cu,cL,rfl,ce,df⟩
    rintro _ ⟨cR,dq,cM,rfl,cf,dg⟩
    rintro _ _
    obtain⟨cl,bc,ar⟩:=Sl.rows (r:=Wp.int.toRp) ce
    refine eX cl (aI bc ?_)
    obtain⟨dx,bo,d⟩:=B0 d
    obtain⟨cn,cd,az,aK⟩:=New.app cf sr
    refine eX cn (aI cd (aI (M1 bo (by first|rw[az,fL ar]|(rw[az];rfl))) ?_))
    intro dM Z bK
    obtain⟨m,bD,b0,dn,a0,rfl⟩:=aK _ _ _ _ _ (F3.ofPlain (n05 _) ar) R4.ofPlain bK
    have aF:=m.r
    obtain⟨be,dh⟩:=sL aF
    subst be
    obtain⟨dU,bC,d⟩:=B0 d
    obtain⟨aW,cI,bb,cc⟩:=L3 (F2.up (r:=I0.toRp) m.sub E) bC
    refine aI aW ?_
    obtain⟨ct,cK,rfl,dc⟩:=slL cc
    refine eX _ (aI bb ?_)
    obtain⟨dy,bp,d⟩:=B0 d
    refine aI (M1 bp (by first|rw[fL (F2.up (r:=Wp.int.toRp) m.sub u),fL (show F2 (Wp.int.R Z) ([[iV s]]:LV) [s] from⟨⟨rfl,aw⟩,trivial⟩)]|exact congrArg (·+1) (fL (F2.up (r:=Wp.int.toRp) m.sub u)))) ?_
    exact V1 F ⟨_,_,_,_,_,_,_,rfl,rfl,(z.trans m.sub),(J0 _),(F2.up (r:=Wp.bool.toRp) m.sub (F2.set (p:=Wp.bool.R L) (a:=[.bool true]) (b:=true) rfl s.toNat D)),(F2.set (p:=I0.R Z) (a:=[.slice (some ⟨bD,b0,none⟩) (y++C).length a0]) (b:=(y++C)) aF s.toNat (F2.up (r:=I0.toRp) m.sub E)),(fA (F2.up (r:=Wp.int.toRp) m.sub u) (show F2 (Wp.int.R Z) ([[iV s]]:LV) [s] from⟨⟨rfl,aw⟩,trivial⟩)),d⟩
   ·exact V1 F ⟨_,_,_,_,_,_,_,rfl,rfl,z,(J0 _),D,E,u,d⟩
  ·cases d
   try dsimp only[Q0,T0]at i
   exact V1 M ⟨_,_,_,_,_,_,_,rfl,rfl,(G.trans z),(J0 _),D,E,u,i⟩
 ·cases i
  try dsimp only[Q0,T0]at f
  intro dK c5 bg
  obtain⟨cv,cN,rfl,ch,aH,dj⟩:=Y0.out (r:=Wp.bool.toRp) bg ao
  intro dL c6 bh
  obtain⟨cw,cO,rfl,ci,aJ,dk⟩:=Y0.out (r:=I0.toRp) bh (F2.up (r:=I0.toRp) aH ap)
  cases f
  exact⟨_,_,_,_,_,_,rfl,((Wp.slice Wp.bool).mono aJ ch),ci,((((P.trans I).trans G).trans aH).trans aJ)⟩
def I0i(h:Hp)(j:List Value)(w:z0)(H:L1.R h j w)(d:Int)(t:F0 d)(e:Int)(G:F0 e)(r:H0×Bool)(a:C00 w d e=some r):
  Tr Tryz.prog 201 #[.agg j.toArray,iV d,iV e] h λv h'=>∃(o:Nat) (u i:Nat),v = .tuple #[.slice (some ⟨o,0,none⟩) u i,.bool r.2]/\New I0 h h' [.slice (some ⟨o,0,none⟩) u i] r.1:=by
 obtain⟨ao,x,L,P,ap,rfl,rfl,p,s,y,af⟩:=opG H
 unfold C00 at a
 dsimp only at a
 refine wk Tryz.f201 ?_
 refine trV a (F7 _ _ _ (C0 p s y)) λaD a=>?_
 refine trG a (λq=>Q4 _ _ t 0 (by decide) (i64.wrap (x-1)) (J0 _)) λaH a=>?_
 refine trG a (λq=>Q4 _ _ G 0 (by decide) (i64.wrap (x-1)) (J0 _)) λaJ a=>?_
 refine ifB a (λF a=>?_) λF a=>?_
 ·intro aC ae m
  obtain⟨ab,Y,rfl,av,ay,al⟩:=Y0.outS (r:=Wp.int.toRp) m (show F2 (Wp.int.R h) ([]:LV) ([]:H0) from trivial)
  cases a
  exact⟨_,_,_,rfl,(Y0.newPlain (r:=Wp.int) m (show F2 (Wp.int.R h) ([]:LV) ([]:H0) from trivial) (n05 _))⟩
 ·refine trM a (H0i _ _ _ (C0 p s y) _ t) ?_
  rintro K a az b ⟨N,am,U,O,an,V,rfl,f,g,A⟩
  obtain⟨aK,aL⟩:=K
  dsimp only at a f g
  obtain⟨rfl,ah⟩:=sL f
  obtain⟨rfl,ai⟩:=sL g
  refine ld a f λaF Q I a=>?_
  obtain rfl:=I
  refine ifB a (λE a=>?_) λE a=>?_
  ·intro aA ac k
   obtain⟨Z,W,rfl,ar,aw,aj⟩:=Y0.outS (r:=Wp.int.toRp) k (show F2 (Wp.int.R b) ([]:LV) ([]:H0) from trivial)
   cases a
   exact⟨_,_,_,rfl,(New.from (Y0.newPlain (r:=Wp.int) k (show F2 (Wp.int.R b) ([]:LV) ([]:H0) from trivial) (n05 _)) A)⟩
  ·refine ld a g λaG S z a=>?_
   obtain⟨M,T,rfl,ag⟩:=slL z
   obtain⟨J,C,c⟩:=Sl.rows (r:=Wp.int.toRp) z
   refine eX J (aI C ?_)
   obtain⟨aq,D,a⟩:=B0 a
   refine aI (M1 D (by first|rw[fL (show F2 (Wp.int.R b) ([]:LV) ([]:H0) from trivial),fL c]|exact congrArg (·+1) (fL (show F2 (Wp.int.R b) ([]:LV) ([]:H0) from trivial)))) ?_
   intro aB ad l
   obtain⟨aa,X,rfl,au,ax,ak⟩:=Y0.outS (r:=Wp.int.toRp) l (fA (show F2 (Wp.int.R b) ([]:LV) ([]:H0) from trivial) c)
   cases a
   exact⟨_,_,_,rfl,(New.from (Y0.newPlain (r:=Wp.int) l (fA (show F2 (Wp.int.R b) ([]:LV) ([]:H0) from trivial) c) (n05 _)) A)⟩
def Q05(h:Hp)(e:List Value)(i:z0)(o:L1.R h e i)(c:Int)(l:F0 c)(r:H0)(a:M02 i c=some r):
  Tr Tryz.prog 184 #[.agg e.toArray,iV c] h λv h'=>∃(f:Nat) (g d:Nat),v = .slice (some ⟨f,0,none⟩) g d/\New I0 h h' [.slice (some ⟨f,0,none⟩) g d] r:=by
 obtain⟨C,D,t,u,E,rfl,rfl,j,k,p,y⟩:=opG o
 unfold M02 at a
 dsimp only at a
 refine wk Tryz.f184 ?_
 refine trM a (I0i _ _ _ (C0 j k p) 0 (by decide) _ l) ?_
 rintro s a G m ⟨x,A,w,rfl,b⟩
 obtain⟨H,I⟩:=s
 dsimp only at a b
 have F:Sub h m:=b.sub
 have q:=b.r
 obtain⟨rfl,z⟩:=sL q
 cases a
 exact⟨_,_,_,rfl,b⟩
def A09(h:Hp)(o:List Value)(w:z0)(M:L1.R h o w)(j:Int)(t:F0 j)(l:Option Addr)(u m:Nat)(g:H0)(A:I0.R h [.slice l u m] g)(r:Int)(b:F01 w j g=some r):
  Tr Tryz.prog 84 #[.agg o.toArray,iV j,.slice l u m] h λv h'=>v=iV r/\h'=h:=by
 obtain⟨x,i,N,O,y,rfl,rfl,p,s,z,S⟩:=opG M
 obtain⟨rfl,T⟩:=sL A
 unfold F01 at b
 dsimp only at b
 refine wkF Tryz.f84 ?_
 refine trV b (F7 _ _ _ (C0 p s z)) λV b=>?_
 refine trG b (λq=>Q4 _ _ t 0 (by decide) (i64.wrap (i-1)) (J0 _)) λX b=>?_
 refine ifB b (λH b=>?_) λH b=>?_
 ·cases b
  exact aI rfl sr
 ·obtain⟨k,F,b⟩:=B0 b
  refine eX { vars:=[1,7] } (eX (λvs os h'=>∃ d e,vs.tail = [iV d,iV e]/\os = []/\Sub h h'/\F0 d/\F0 e/\N7 g x i y (N1 vs) d e=some k) (eX (λ_ _=>0) (aI (eX P0 ⟨_,_,rfl,rfl,sr,t,(by decide),F⟩) ?_)))
  rintro _ _ f Q ⟨d,e,⟨⟩,⟨⟩,c,J,P,a⟩
  replace a:N7 g x i y f d e=some k:=a
  obtain _|f:=f
  ·cases a
  rw[N7.eq_2]at a
  refine ifB a (λI a=>?_) λI a=>?_
  ·refine w1 ?_
   refine ldI a (I0.mono c A) λW K a=>?_
   obtain⟨C,E,a⟩:=B0 a
   refine eX (iV C) (aI (W6 _ _ _ (C0 p s (M0.mono c z)) _ J _ K _  E) ?_)
   obtain⟨U,D,a⟩:=B0 a
   have L:F0 C:=K0 D
   refine ifB a (λG a=>?_) λG a=>?_
   ·cases a
    try dsimp only[P2,l3]at b
    cases b
    exact aI rfl c
   ·exact V1 f ⟨_,_,rfl,rfl,c,L,(J0 _),a⟩
  ·cases a
   try dsimp only[Q0,T0]at b
   cases b
   exact aI rfl c
def E05(h:Hp)(N:List Value)(W:z0)(aW:L1.R h N W)(I:Option Addr)(V L:Nat)(X:H0)(y:I0.R h [.slice I V L] X)(r:z0×Bool)(b:U4 W X=some r):
  Tr Tryz.prog 17 #[.agg N.toArray,.slice I V L] h λv h'=>∃(M:List Value),v = .tuple #[.agg M.toArray,.bool r.2]/\New L1 h h' M r.1:=by
 obtain⟨cl,cm,br,bD,cn,rfl,rfl,s,m,x,ca⟩:=opG aW
 obtain⟨rfl,cb⟩:=sL y
 unfold U4 at b
 dsimp only at b
 refine wk Tryz.f17 ?_
 refine trV b (Y6 _ _ _ (C0 s m x)) λcJ b=>?_
 refine trG b (λq=>f02 _ _ s _ _ _ _ y) λcK b=>?_
 refine ifB b (λaq b=>?_) λaq b=>?_
 ·cases b
  exact⟨_,rfl,(nP (nI (show F0 (0) from(by decide))) (nP (nI (show F0 (0) from(by decide))) ((New.nilSlice (r:=J1)).mono sr)))⟩
 ·refine trV b (A09 _ _ _ (C0 s m x) 0 (by decide) _ _ _ _ y) λbm b=>?_
  obtain⟨cq,aj,b⟩:=B0 b
  have bU:F0 bm:=K0 aj
  refine w4 ?_
  obtain⟨bp,am,b⟩:=B0 b
  refine fS I0 bp ?_ ?_
  ·intro b7 bd
   obtain⟨aV,bf,ae,ah⟩:=Sl.cutI (r:=Wp.int.toRp) (I0.mono bd y) am
   refine aI aV (eX bf (aI ae ?_))
   intro v E _
   obtain⟨a,c,rfl,r⟩:=ah v E
   exact aI t6 (aI sr ⟨a,c,rfl,r,(sL r).2⟩)
  obtain⟨bq,an,b⟩:=B0 b
  obtain⟨H,aa⟩:=bq
  try dsimp only at b
  obtain⟨co,ai,b⟩:=B0 b
  have T:F0 H:=K0 ai
  refine pm (.val (.tuple #[iV H,.bool aa])) ?_ ?_
  ·intro bX ba
   rintro _ ⟨bx,bO,rfl,a4,cg⟩
   exact Tr.val (O07 _ _ _ (C0 s m (M0.mono ba x)) 0 (by decide) _ _ _ _ a4 _ an) r3
  refine pm (.val (iV H)) ?_ ?_
  ·intro bY cv
   exact r3
  refine pm (.val (.bool aa)) ?_ ?_
  ·intro bZ cw
   exact r3
  intro aM o
  rintro _ ⟨bz,bP,rfl,ct,ch⟩
  refine trM b (G5 _ _ _ (C0 s m (M0.mono o x))) ?_
  rintro cL b cD U ⟨bE,rfl,F⟩
  have t:Sub aM U:=F.sub
  have aX:=F.r
  obtain⟨cM,cN,bs,bK,cO,rfl,rfl,au,av,aY,cc⟩:=opG aX
  try dsimp only at b
  have cI:=nD (nD (F))
  refine ifB b (λao b=>?_) λao b=>?_
  ·refine trM b (E0a _ _ _ (C0 s m (M0.mono (o.trans t) x))) ?_
   rintro bi b cE b0 ⟨bG,rfl,Y,z⟩
   obtain⟨cP,cU⟩:=bi
   dsimp only at b Y
   obtain⟨cQ,cR,bt,bL,cS,rfl,rfl,aw,ax,aZ,cd⟩:=opG Y
   try dsimp only at b
   refine ifB b (λap b=>?_) λap b=>?_
   ·cases b
    exact⟨_,rfl,(nP (nI (show F0 (0) from(by decide))) (nP (nI (show F0 (0) from(by decide))) ((New.nilSlice (r:=J1)).mono ((o.trans t).trans z))))⟩
   ·refine w5 12 ?_
    obtain⟨bj,ak,b⟩:=B0 b
    refine fS I0 bj ?_ ?_
    ·intro b1 bb
     obtain⟨aU,be,ad,ag⟩:=Sl.cutI (r:=Wp.int.toRp) (I0.mono (((o.trans t).trans z).trans bb) y) ak
     refine aI aU (eX be (aI ad ?_))
     intro v E _
     obtain⟨a,c,rfl,r⟩:=ag v E
     exact aI t6 (aI sr ⟨a,c,rfl,r,(sL r).2⟩)
    obtain⟨bk,al,b⟩:=B0 b
    obtain⟨bl,G⟩:=bk
    try dsimp only at b
    obtain⟨k,l,g⟩:=bl
    try dsimp only at b
    refine Or.inr (eX (λv i=>∃(j:Value),v = .tuple #[j,.bool G]/\(λv i=>∃(d:Option Addr) (f:Nat),v = .agg #[iV k,iV l,.slice d g.length f]/\F0 k/\F0 l/\M0.R i [.slice d g.length f] g/\g.length<=9223372036854775807) j i) (aI (λv Q S p q=>by obtain⟨j,e,D⟩:=q;exact⟨j,e,(by obtain⟨d,f,e,u,w,f2,f3⟩:=D;exact⟨d,f,e,u,w,M0.mono p f2,f3⟩)⟩) (aI ?_ ?_)))
    ·intro b2 bc
     rintro _ ⟨bA,bQ,rfl,a5,ci⟩
     refine Tr.mono (U08 _ _ _ (C0 aw ax (M0.mono bc aZ)) _ T _ _ _ _ a5 _ m _ al) ?_
     rintro _ b8 ⟨bH,rfl,a0,p⟩
     obtain⟨c5,c6,J,O,c7,rfl,af,aC,aD,a3,aQ⟩:=opG a0
     cases af
     exact aI t6 (aI p ⟨(.agg #[iV k,iV l,.slice J g.length O]),rfl,⟨J,O,rfl,aC,aD,a3,aQ⟩⟩)
    refine Or.inr (eX (λv i=>∃(j:Value),v = .tuple #[j,.bool G]/\(λv i=>∃(d:Option Addr) (f:Nat),v = .agg #[iV k,iV l,.slice d g.length f]/\F0 k/\F0 l/\M0.R i [.slice d g.length f] g/\g.length<=9223372036854775807) j i) (aI (λv Q S p q=>by obtain⟨j,e,D⟩:=q;exact⟨j,e,(by obtain⟨d,f,e,u,w,f2,f3⟩:=D;exact⟨d,f,e,u,w,M0.mono p f2,f3⟩)⟩) (aI ?_ ?_)))
    ·intro b3 cx
     rintro _ ⟨_,rfl,⟨K,P,rfl,aF,aG,a6,aR⟩⟩
     exact aI t6 (aI sr ⟨(.agg #[iV k,iV l,.slice K g.length P]),rfl,⟨K,P,rfl,aF,aG,a6,aR⟩⟩)
    refine Or.inr (eX (λv i=>∃(d:Option Addr) (f:Nat),v = .agg #[iV k,iV l,.slice d g.length f]/\F0 k/\F0 l/\M0.R i [.slice d g.length f] g/\g.length<=9223372036854775807) (aI (λv Q S p q=>by obtain⟨d,f,e,u,w,f2,f3⟩:=q;exact⟨d,f,e,u,w,M0.mono p f2,f3⟩) (aI ?_ ?_)))
    ·intro b5 cy
     rintro _ ⟨_,rfl,⟨ab,ac,rfl,aH,aJ,a7,aS⟩⟩
     exact aI t6 (aI sr ⟨ab,ac,rfl,aH,aJ,a7,aS⟩)
    refine pm (.val (.bool G)) ?_ ?_
    ·intro b6 cz
     rintro _ ⟨_,rfl,⟨bB,bR,rfl,bV,bW,cu,cj⟩⟩
     exact r3
    intro aN Z
    rintro _ ⟨bC,bS,rfl,aK,aL,a8,ck⟩
    rintro _ _
    rintro _ _
    rintro _ _
    refine ifB b (λar b=>?_) λar b=>?_
    ·cases b
     exact⟨_,rfl,(nP (nI (show F0 (0) from(by decide))) (nP (nI (show F0 (0) from(by decide))) ((New.nilSlice (r:=J1)).mono (((o.trans t).trans z).trans Z))))⟩
    ·refine trM b (x0b _ _ _ (C0 aK aL a8) _ m) ?_
     rintro bn b cG aO ⟨bI,rfl,A⟩
     obtain⟨cV,cZ⟩:=bn
     dsimp only at b A
     have cA:Sub aN aO:=A.sub
     have a1:=A.r
     obtain⟨cW,cX,bu,bM,cY,rfl,rfl,ay,az,cr,ce⟩:=opG a1
     try dsimp only at b
     have bg:=nD (nD (A))
     cases b
     exact⟨_,rfl,(nP (nI ay) (nP (nI az) (New.from bg (((o.trans t).trans z).trans Z))))⟩
  ·refine trM b (x0b _ _ _ (C0 au av aY) _ T) ?_
   rintro bo b cH aP ⟨bJ,rfl,C⟩
   obtain⟨c0,c4⟩:=bo
   dsimp only at b C
   have cC:Sub U aP:=C.sub
   have a2:=C.r
   obtain⟨c1,c2,bv,bN,c3,rfl,rfl,aA,aB,cs,cf⟩:=opG a2
   try dsimp only at b
   have bh:=nD (nD (C))
   cases b
   exact⟨_,rfl,(nP (nI aA) (nP (nI aB) (New.from bh (o.trans t))))⟩
def v04(h:Hp)(s:Option Addr)(C u:Nat)(k:H0)(g:I0.R h [.slice s C u] k)(r:H0)(d:I3 k=some r):
  Tr Tryz.prog 82 #[.slice s C u] h λv h'=>∃(p:Option Addr) (A t:Nat),v = .slice p A t/\New I0 h h' [.slice p A t] r:=by
 obtain⟨rfl,ac⟩:=sL g
 unfold I3 at d
 refine wk Tryz.f82 ?_
 obtain⟨o,J,d⟩:=B0 d
 refine eX { vars:=[4],owns:=[0] } (eX (λvs os h'=>∃ i j l,vs.tail = [iV i]/\os = [j]/\Sub h h'/\F0 i/\F2 (Wp.int.R h') j l/\A3 k (N1 vs) i l=some o) (eX (λ_ _=>0) (aI (eX P0 ⟨_,_,_,rfl,rfl,sr,(by decide),(show F2 (Wp.int.R h) ([]:LV) ([]:H0) from trivial),J⟩) ?_)))
 rintro _ j f c ⟨i,aq,l,⟨⟩,⟨⟩,e,V,b,a⟩
 replace a:A3 k f i l=some o:=a
 obtain _|f:=f
 ·cases a
 rw[A3.eq_2]at a
 refine ifB a (λL a=>?_) λL a=>?_
 ·obtain⟨M,D,a⟩:=B0 a
  obtain rfl:j.length=M:=(fL b).trans (oJ D)
  obtain⟨ah,U,a⟩:=B0 a
  refine w1 ?_
  refine ldG a (I0.mono e g) λap aa a=>?_
  obtain⟨al,H,a⟩:=B0 a
  obtain⟨Q,w,N⟩:=s05 b H (J0f c)
  refine aI (λq=>(w q).1) ?_
  obtain⟨rfl,W⟩:=N
  refine eX _ (aI (λq=>(w q).2) ?_)
  refine ldG a (I0.mono e g) λam X a=>?_
  obtain⟨an,I,a⟩:=B0 a
  obtain⟨S,x,O⟩:=s05 b I (J0f c)
  refine aI (λq=>(x q).1) ?_
  obtain⟨rfl,Y⟩:=O
  refine eX _ (aI (λq=>(x q).2) ?_)
  refine ldG a (I0.mono e g) λao Z a=>?_
  refine ifB a (λK a=>?_) λK a=>?_
  ·obtain⟨ae,E,a⟩:=B0 a
   refine aI (by have:=K0 E;have:=fL b;omega) ?_
   exact V1 f ⟨_,_,_,rfl,rfl,e,(J0 _),(F2.take (i64.wrap (((j.length:Nat):Int)-1)).toNat b),a⟩
  ·refine ldI a (I0.mono e g) λm z a=>?_
   obtain⟨af,F,a⟩:=B0 a
   refine aI (M1 F (by first|rw[fL b,fL (show F2 (Wp.int.R c) ([[iV m]]:LV) [m] from⟨⟨rfl,z⟩,trivial⟩)]|exact congrArg (·+1) (fL b))) ?_
   exact V1 f ⟨_,_,_,rfl,rfl,e,(J0 _),(fA b (show F2 (Wp.int.R c) ([[iV m]]:LV) [m] from⟨⟨rfl,z⟩,trivial⟩)),a⟩
 ·cases a
  try dsimp only[Q0,T0]at d
  obtain⟨ag,G,d⟩:=B0 d
  refine aI (M1 G (by first|rw[fL (show F2 (Wp.int.R c) ([]:LV) ([]:H0) from trivial),fL b]|exact congrArg (·+0) (fL (show F2 (Wp.int.R c) ([]:LV) ([]:H0) from trivial)))) ?_
  intro ak ab y
  obtain⟨P,T,rfl,ai,aj,ad⟩:=Y0.out (r:=Wp.int.toRp) y (fA (show F2 (Wp.int.R c) ([]:LV) ([]:H0) from trivial) b)
  cases d
  exact⟨_,_,_,rfl,(New.from (Y0.newPlain (r:=Wp.int) y (fA (show F2 (Wp.int.R c) ([]:LV) ([]:H0) from trivial) b) (n05 _)) e)⟩
end Go.Proofs.YtcpjomkcdlggaaaGreat
