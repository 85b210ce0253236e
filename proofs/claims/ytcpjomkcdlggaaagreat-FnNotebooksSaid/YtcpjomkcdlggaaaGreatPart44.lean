/- Texts of the claim, joined: The walks of batch dn and others. -/
import Derived.Test.YtcpjomkcdlggaaaGreatH53
import Derived.Test.YtcpjomkcdlggaaaGreatPart24
import Derived.Test.YtcpjomkcdlggaaaGreatPart22
import Derived.Test.YtcpjomkcdlggaaaGreatChecked
import Derived.Test.YtcpjomkcdlggaaaGreatH35
import Derived.Test.YtcpjomkcdlggaaaGreatPart42
import Derived.Test.YtcpjomkcdlggaaaGreatPart40
import Derived.Test.YtcpjomkcdlggaaaGreatPart41
import Derived.Test.YtcpjomkcdlggaaaGreatPart43
import Derived.Test.YtcpjomkcdlggaaaGreatH45
import Derived.Test.YtcpjomkcdlggaaaGreatH41
import Derived.Test.YtcpjomkcdlggaaaGreatAfn
import Derived.Test.YtcpjomkcdlggaaaGreatPart36
import Derived.Test.YtcpjomkcdlggaaaGreatHE
import Derived.Test.YtcpjomkcdlggaaaGreatPart27
namespace Go.Proofs.YtcpjomkcdlggaaaGreat
set_option linter.all false
open Go.H
open IntKind (i64)
set_option maxRecDepth 10000
set_option maxHeartbeats 0
def P06(h:Hp)(c:Nat)(o:Value)(E:TypeId)(p:List Int)(Q:Int×Int)(M:x00 h c o p Q)(r:C1×(Int×Int))(b:z01 p Q=some r):
  Tr Tryz.prog 107 #[ptr c 0] (h.set c (o06 o Q E)) λv h'=>∃(am:List Value) (O:Hp),v = .agg am.toArray/\New G3 h O am r.1/\Sub h O/\x00 O c o p r.2/\h'=O.set c (o06 o r.2 E):=by
 unfold z01 at b
 refine wk Tryz.f107 ?_
 obtain⟨bu,aW,b⟩:=B0 b
 refine Tr.beside M.no (Y08 _ 2 (by decide) _  aW) ?_
 rintro cj an ⟨bH,rfl,X⟩ a8
 obtain⟨cs,ct⟩:=bu
 dsimp only at b X
 have ar:Sub h an:=X.sub
 have bj:=X.r
 have aG:=M.mono ar a8
 obtain⟨bz,aA,b8,aJ,av,rfl,rfl,bc,bk⟩:=I2 bj
 obtain⟨rfl,bZ⟩:=sL bk
 try dsimp only at b
 have bt:=nD (X)
 obtain⟨bC,a0,b⟩:=B0 b
 obtain⟨ax,bD⟩:=bC
 try dsimp only at b
 refine Tr.mono (Y5 _ c o E p Q aG 4 (by decide) _ a0) ?_
 rintro _ _ ⟨rfl,aH,rfl⟩
 obtain⟨cg,aS,b⟩:=B0 b
 have be:F0 ax:=K0 aS
 obtain⟨ak,a1,b⟩:=B0 b
 refine eX { vars:=[5],boxes:=[1] } (eX (λvs os bb=>∃(J:Int) (s:Int) (L:Option Addr) (ag N:Nat) (F:R7) (G:Int×Int) (h':Hp),vs.tail = [iV J,iV s,.slice L ag N]/\os = []/\bb=h'.set c (o06 o G E)/\Sub h h'/\F0 J/\F0 s/\New M3 h h' [.slice L ag N] F/\x00 h' c o p G/\J8 p (N1 vs) J s F G=some ak) (eX (λ_ _=>0) ?_))
 refine aI (eX P0 ⟨ax,bz,aA,av.length,aJ,av,bD,an,rfl,rfl,rfl,ar,be,bc,bt,aH,a1⟩) ?_
 rintro cl cm cn D _ ⟨J,s,L,ag,N,F,G,bQ,aL,aK,rfl,ah,bP,P,K,al,a⟩
 cases aL
 cases aK
 replace a:J8 p D J s F G=some ak:=a
 obtain _|D:=D
 ·cases a
 rw[J8.eq_2]at a
 have ap:=K.r
 obtain⟨rfl,bU⟩:=sL ap
 refine ifB a (λa4 a=>?_) λa4 a=>?_
 ·obtain⟨bv,aX,a⟩:=B0 a
  obtain⟨cr,bx⟩:=bv
  try dsimp only at a
  refine Tr.mono (A0b _ c o E p G al _ aX) ?_
  rintro _ _ ⟨bG,H,rfl,ai,I,aB,rfl⟩
  have bi:=ai.r
  obtain⟨d,e,t,b3,y,f,u,b5,z,g,w,b6,A,i,j,k,x,b7,C,l,m,rfl,rfl,ab,ac,S,T,U,ad,ae,V,af⟩:=Y2 bi
  obtain⟨rfl,bV⟩:=sL S
  obtain⟨rfl,bW⟩:=sL T
  obtain⟨rfl,bX⟩:=sL U
  obtain⟨rfl,bY⟩:=sL V
  try dsimp only at a
  obtain⟨bA,aY,a⟩:=B0 a
  obtain⟨cu,aw⟩:=bA
  try dsimp only at a
  refine Tr.mono (h02 _ c o E p bx aB 8 (by decide) _ aY) ?_
  rintro _ _ ⟨rfl,q,rfl⟩
  refine ifB a (λa5 a=>?_) λa5 a=>?_
  ·rcases New.two K with⟨rfl,rfl,rfl⟩|⟨bM,cd,rfl⟩
   ·skip
    refine Or.inr ?_
    obtain⟨ch,aU,a⟩:=B0 a
    obtain⟨ay,bq,aQ,_⟩:=ai
    refine aI (aI rfl (n0q aU (fL (show F2 (Y1.R H) ([[iV d,iV e,.slice t f.length y,.slice u g.length z,.slice w i.length A,iV j,iV k,.slice x l.length C,iV m]]:LV) [(d,e,f,g,i,(j,k,l),m)] from⟨(Q2 ab ac S T U ad ae V af),trivial⟩)))) ?_
    intro co bR a2
    obtain⟨bf,aO,a6,rfl⟩:=h0o.beside q.no a2
    obtain⟨Z,bN,ce,cb,bK,rfl⟩:=New.appN (r:=Y1) K I (show F3 (Y1.W H) ([[iV d,iV e,.slice t f.length y,.slice u g.length z,.slice w i.length A,iV j,iV k,.slice x l.length C,iV m]]:LV) [(d,e,f,g,i,(j,k,l),m)] [ay] from⟨bq,trivial⟩) (R4.older sr aQ) aO
    have bn:=Z.r
    obtain⟨aM,b1⟩:=sL bn
    subst aM
    have aC:x00 bf c o p aw:=⟨a6,Sl.mono (r:=Rp.u8) Z.sub (M.rd),q.pl,q.nm⟩
    exact V1 D ⟨_,_,_,_,_,_,_,_,rfl,rfl,rfl,Z.sub,(J0 _),P,Z,aC,a⟩
   ·skip
    obtain⟨ci,aV,a⟩:=B0 a
    obtain⟨aj,br,aR,_⟩:=ai
    obtain⟨bp,aq,ao,az⟩:=New.app K I
    refine eX bp (aI (t0i.setB q.no aq) (aI (M1 aV (by first|rw[ao,fL (show F2 (Y1.R H) ([[iV d,iV e,.slice t f.length y,.slice u g.length z,.slice w i.length A,iV j,iV k,.slice x l.length C,iV m]]:LV) [(d,e,f,g,i,(j,k,l),m)] from⟨(Q2 ab ac S T U ad ae V af),trivial⟩)]|(rw[ao];rfl))) ?_))
    intro cq bS a3
    obtain⟨bg,aP,a7,rfl⟩:=d0l.beside q.no aq a3
    obtain⟨aa,bO,cf,cc,bL,rfl⟩:=az ([[iV d,iV e,.slice t f.length y,.slice u g.length z,.slice w i.length A,iV j,iV k,.slice x l.length C,iV m]]:LV) [(d,e,f,g,i,(j,k,l),m)] [aj] _ _ (show F3 (Y1.W H) ([[iV d,iV e,.slice t f.length y,.slice u g.length z,.slice w i.length A,iV j,iV k,.slice x l.length C,iV m]]:LV) [(d,e,f,g,i,(j,k,l),m)] [aj] from⟨br,trivial⟩) (R4.older sr aR) aP
    have bo:=aa.r
    obtain⟨aN,b2⟩:=sL bo
    subst aN
    have aD:x00 bg c o p aw:=⟨a7,Sl.mono (r:=Rp.u8) aa.sub (M.rd),q.pl,q.nm⟩
    exact V1 D ⟨_,_,_,_,_,_,_,_,rfl,rfl,rfl,aa.sub,(J0 _),P,aa,aD,a⟩
  ·obtain⟨bB,aZ,a⟩:=B0 a
   refine Tr.beside q.no (z0b _ [iV s,.slice L F.length N] (s,F) (Q1 P (M3.mono I ap)) [iV d,iV e,.slice t f.length y,.slice u g.length z,.slice w i.length A,iV j,iV k,.slice x l.length C,iV m] (d,e,f,g,i,(j,k,l),m) (Q2 ab ac S T U ad ae V af) _  aZ) ?_
   rintro ck bh ⟨bI,rfl,Y⟩ ba
   obtain⟨cv,cy⟩:=bB
   dsimp only at a Y
   have au:Sub H bh:=Y.sub
   have bl:=Y.r
   have aF:=q.mono au ba
   obtain⟨cw,bE,ca,bJ,cx,rfl,rfl,bd,bm⟩:=I2 bl
   obtain⟨rfl,b0⟩:=sL bm
   try dsimp only at a
   have bs:=nD (Y)
   exact V1 D ⟨_,_,_,_,_,_,_,_,rfl,rfl,rfl,((ah.trans I).trans au),(J0 _),bd,(New.from bs (ah.trans I)),aF,a⟩
 ·cases a
  try dsimp only[Q0,T0]at b
  cases b
  exact⟨_,_,rfl,(nP (nI P) K),ah,al,rfl⟩
def N0d(h:Hp)(c:Option Addr)(j d:Nat)(b:(List Int))(k:(Wp.slice Wp.u8).R h [.slice c j d] b)(r:C1×P1)(a:S01 b=some r):
  Tr Tryz.prog 26 #[.slice c j d] h λv h'=>∃(f:List Value) (g:List Value),v = .tuple #[.agg f.toArray,.agg g.toArray]/\G3.R h' f r.1/\Y1.R h' g r.2/\Sub h h':=by
 obtain⟨rfl,ae⟩:=sL k
 unfold S01 at a
 refine wk Tryz.f26 ?_
 refine trM a (g08 _ c b.length d b k) ?_
 rintro L a _ _ ⟨i,t,rfl,rfl,u⟩
 obtain⟨M,x,a⟩:=B0 a
 obtain⟨ap,N⟩:=M
 try dsimp only at a
 refine Tr.mono (P06 _ i (.slice c b.length d) t b L u _ x) ?_
 rintro _ _ ⟨V,ac,rfl,J,I,w,rfl⟩
 have G:=J.r
 obtain⟨aq,P,ak,X,ar,rfl,rfl,z,l⟩:=I2 G
 obtain⟨rfl,af⟩:=sL l
 try dsimp only at a
 refine w3 ?_
 refine aI ?_ trivial
 obtain⟨O,y,a⟩:=B0 a
 obtain⟨au,aF⟩:=O
 try dsimp only at a
 refine Tr.mono (A0b _ i (.slice c b.length d) t b N w _ y) ?_
 rintro _ _ ⟨W,ad,rfl,K,s,e,rfl⟩
 have H:=K.r
 obtain⟨av,aw,Q,al,Y,ax,S,am,Z,ay,T,an,aa,az,aA,aB,U,ao,ab,aC,aD,rfl,rfl,A,C,m,o,p,D,E,q,F⟩:=Y2 H
 obtain⟨rfl,ag⟩:=sL m
 obtain⟨rfl,ah⟩:=sL o
 obtain⟨rfl,ai⟩:=sL p
 obtain⟨rfl,aj⟩:=sL q
 try dsimp only at a
 refine aI (by first|exact trivial|exact rfl) ?_
 refine aI ?_ trivial
 refine aI (by first|exact trivial|exact rfl) ?_
 refine aI ?_ trivial
 refine aI (by first|exact trivial|exact rfl) ?_
 cases a
 exact⟨_,_,rfl,(G3.mono (Sub.set e.no) (Q1 z (M3.mono s l))),(Y1.mono (Sub.set e.no) (Q2 A C m o p D E q F)),((I.trans s).trans (Sub.set e.no))⟩
def O0d(h:Hp)(c:Option Addr)(i d:Nat)(b:(List Int))(j:(Wp.slice Wp.u8).R h [.slice c i d] b)(r:C1×Int)(a:T01 b=some r):
  Tr Tryz.prog 32 #[.slice c i d] h λv h'=>∃(f:List Value),v = .tuple #[.agg f.toArray,iV r.2]/\G3.R h' f r.1/\Sub h h':=by
 obtain⟨rfl,J⟩:=sL j
 unfold T01 at a
 refine wk Tryz.f32 ?_
 refine trM a (g08 _ c b.length d b j) ?_
 rintro y a _ _ ⟨g,l,rfl,rfl,m⟩
 obtain⟨z,q,a⟩:=B0 a
 obtain⟨N,A⟩:=z
 try dsimp only at a
 refine Tr.mono (P06 _ g (.slice c b.length d) l b y m _ q) ?_
 rintro _ _ ⟨F,I,rfl,x,w,o,rfl⟩
 have u:=x.r
 obtain⟨O,E,L,G,P,rfl,rfl,t,k⟩:=I2 u
 obtain⟨rfl,K⟩:=sL k
 try dsimp only at a
 refine w3 ?_
 refine aI ?_ trivial
 obtain⟨C,s,a⟩:=B0 a
 obtain⟨D,Q⟩:=C
 try dsimp only at a
 refine Tr.mono (Y5 _ g (.slice c b.length d) l b A o 8 (by decide) _ s) ?_
 rintro _ _ ⟨rfl,e,rfl⟩
 obtain⟨M,p,a⟩:=B0 a
 have H:F0 D:=K0 p
 refine aI (by first|exact trivial|exact rfl) ?_
 refine aI ?_ trivial
 refine aI (by first|exact trivial|exact rfl) ?_
 refine aI ?_ trivial
 refine aI (by first|exact trivial|exact rfl) ?_
 cases a
 exact⟨_,rfl,(G3.mono (Sub.set e.no) (Q1 t k)),(w.trans (Sub.set e.no))⟩
def Z08(h:Hp)(c:Option Addr)(q d:Nat)(b:(List Int))(s:(Wp.slice Wp.u8).R h [.slice c q d] b)(r:C1×C1)(a:N8 b=some r):
  Tr Tryz.prog 36 #[.slice c q d] h λv h'=>∃(o:List Value) (p:List Value),v = .tuple #[.agg o.toArray,.agg p.toArray]/\G3.R h' o r.1/\G3.R h' p r.2/\Sub h h':=by
 obtain⟨rfl,ak⟩:=sL s
 unfold N8 at a
 refine wk Tryz.f36 ?_
 refine trM a (g08 _ c b.length d b s) ?_
 rintro W a _ _ ⟨k,m,rfl,rfl,D⟩
 obtain⟨Y,I,a⟩:=B0 a
 obtain⟨aB,Z⟩:=Y
 try dsimp only at a
 refine Tr.mono (P06 _ k (.slice c b.length d) m b W D _ I) ?_
 rintro _ _ ⟨ag,P,rfl,V,x,E,rfl⟩
 have T:=V.r
 obtain⟨z,C,aq,F,A,rfl,rfl,j,e⟩:=I2 T
 obtain⟨rfl,an⟩:=sL e
 try dsimp only at a
 obtain⟨aa,J,a⟩:=B0 a
 obtain⟨aC,ab⟩:=aa
 try dsimp only at a
 refine Tr.mono (h02 _ k (.slice c b.length d) m b Z E 2 (by decide) _ J) ?_
 rintro _ _ ⟨rfl,f,rfl⟩
 refine ifB a (λK a=>?_) λK a=>?_
 ·refine w3 ?_
  refine aI ?_ trivial
  obtain⟨au,G,a⟩:=B0 a
  refine Tr.beside f.no (Y0c _ [iV z,.slice C A.length F] (z,A) (Q1 j e) _  G) ?_
  rintro ar O ⟨ae,rfl,y⟩ L
  have l:Sub P O:=y.sub
  have Q:=y.r
  have g:=f.mono l L
  obtain⟨av,ac,ao,ah,aw,rfl,rfl,M,t⟩:=I2 Q
  obtain⟨rfl,al⟩:=sL t
  try dsimp only at a
  refine aI (by first|exact trivial|exact rfl) ?_
  refine aI ?_ trivial
  refine aI (by first|exact trivial|exact rfl) ?_
  refine aI ?_ trivial
  refine aI (by first|exact trivial|exact rfl) ?_
  cases a
  exact⟨_,_,rfl,(G3.mono (Sub.set g.no) (Q1 j (M3.mono l e))),(G3.mono (Sub.set g.no) (Q1 M t)),((x.trans l).trans (Sub.set g.no))⟩
 ·refine w3 ?_
  refine aI ?_ trivial
  obtain⟨X,H,a⟩:=B0 a
  obtain⟨ax,aA⟩:=X
  try dsimp only at a
  refine Tr.mono (P06 _ k (.slice c b.length d) m b ab f _ H) ?_
  rintro _ _ ⟨af,aj,rfl,U,w,i,rfl⟩
  have S:=U.r
  obtain⟨ay,ad,ap,ai,az,rfl,rfl,N,u⟩:=I2 S
  obtain⟨rfl,am⟩:=sL u
  try dsimp only at a
  refine aI (by first|exact trivial|exact rfl) ?_
  refine aI ?_ trivial
  refine aI (by first|exact trivial|exact rfl) ?_
  refine aI ?_ trivial
  refine aI (by first|exact trivial|exact rfl) ?_
  cases a
  exact⟨_,_,rfl,(G3.mono (Sub.set i.no) (Q1 j (M3.mono w e))),(G3.mono (Sub.set i.no) (Q1 N u)),((x.trans w).trans (Sub.set i.no))⟩
def l0b(h:Hp)(c:Option Addr)(e d:Nat)(b:(List Int))(f:(Wp.slice Wp.u8).R h [.slice c e d] b)(r:Int)(a:p00 b=some r):
  Tr Tryz.prog 33 #[.slice c e d] h λv h'=>v=iV r/\h'=h:=by
 obtain⟨rfl,t⟩:=sL f
 unfold p00 at a
 refine wkF Tryz.f33 ?_
 refine trM a (g08 _ c b.length d b f) ?_
 rintro o a _ _ ⟨l,m,rfl,rfl,g⟩
 obtain⟨p,k,a⟩:=B0 a
 obtain⟨q,w⟩:=p
 try dsimp only at a
 refine Tr.mono (Y5 _ l (.slice c b.length d) m b o g 6 (by decide) _ k) ?_
 rintro _ _ ⟨rfl,i,rfl⟩
 obtain⟨u,j,a⟩:=B0 a
 have s:F0 q:=K0 j
 cases a
 exact aI rfl (sr.trans (Sub.set i.no))
def G0r(h:Hp)(a:Option Addr)(d b:Nat)(e:(List Int))(f:(Wp.slice Wp.u8).R h [.slice a d b] e)(r:Bool)(c:j07 e=some r):
  Tr Tryz.prog 5 #[.slice a d b] h λv h'=>v = .bool r/\h'=h:=by
 obtain⟨rfl,g⟩:=sL f
 unfold j07 at c
 refine wkF Tryz.f5 ?_
 cases c
 exact aI rfl sr
def B0b(h:Hp)(j:Option Addr)(o l:Nat)(f:H0)(q:I0.R h [.slice j o l] f)(k:Option Addr)(p m:Nat)(g:H0)(s:I0.R h [.slice k p m] g)(r:Bool)(b:S02 f g=some r):
  Tr Tryz.prog 37 #[.slice j o l,.slice k p m] h λv h'=>v = .bool r/\h'=h:=by
 obtain⟨rfl,D⟩:=sL q
 obtain⟨rfl,E⟩:=sL s
 unfold S02 at b
 refine wkF Tryz.f37 ?_
 refine ifB b (λu b=>?_) λu b=>?_
 ·cases b
  exact aI rfl sr
 ·obtain⟨i,t,b⟩:=B0 b
  refine eX { vars:=[5] } (eX (λvs os h'=>∃ d,vs.tail = [iV d]/\os = []/\Sub h h'/\F0 d/\l9 f g (N1 vs) d=some i) (eX (λ_ _=>0) (aI (eX P0 ⟨_,rfl,rfl,sr,(by decide),t⟩) ?_)))
  rintro _ e C ⟨d,⟨⟩,⟨⟩,c,y,a⟩
  replace a:l9 f g e d=some i:=a
  obtain _|e:=e
  ·cases a
  rw[l9.eq_2]at a
  refine ifB a (λw a=>?_) λw a=>?_
  ·refine w1 ?_
   refine ldI a (I0.mono c q) λF z a=>?_
   refine ldI a (I0.mono c s) λG A a=>?_
   refine ifB a (λx a=>?_) λx a=>?_
   ·cases a
    try dsimp only[P2,l3]at b
    cases b
    exact aI rfl c
   ·exact V1 e ⟨_,rfl,rfl,c,(J0 _),a⟩
  ·cases a
   try dsimp only[Q0,T0]at b
   cases b
   exact aI rfl c
def f0f(h:Hp)(an:Option Addr)(aQ aw:Nat)(aR:(List Int))(u:(Wp.slice Wp.u8).R h [.slice an aQ aw] aR)(r:Bool)(a:E02 aR=some r):
  Tr Tryz.prog 4 #[.slice an aQ aw] h λv h'=>v = .bool r/\h'=h:=by
 obtain⟨rfl,eh⟩:=sL u
 unfold E02 at a
 refine wkF Tryz.f4 ?_
 refine trV a (G0r _ _ _ _ _ u) λfs a=>?_
 refine ifB a (λb8 a=>?_) λb8 a=>?_
 ·cases a
  exact aI rfl sr
 ·refine trM a (N0d _ _ _ _ _ u) ?_
  rintro cJ a fl cf ⟨c8,db,rfl,aU,aV,z⟩
  obtain⟨ft,fu⟩:=cJ
  dsimp only at a aU aV
  obtain⟨w,U,eE,V,m,rfl,rfl,W,F⟩:=I2 aU
  obtain⟨rfl,ei⟩:=sL F
  try dsimp only at a
  obtain⟨G,H,ao,eF,ax,I,ap,eG,ay,J,aq,eH,az,K,L,M,ar,eI,aA,N,O,rfl,rfl,aD,aF,X,Y,Z,aG,aH,aa,aJ⟩:=Y2 aV
  obtain⟨rfl,ej⟩:=sL X
  obtain⟨rfl,ek⟩:=sL Y
  obtain⟨rfl,el⟩:=sL Z
  obtain⟨rfl,em⟩:=sL aa
  try dsimp only at a
  refine trM a (R0i _ [iV w,.slice U m.length V] (w,m) (Q1 W F) [iV G,iV H,.slice ao I.length ax,.slice ap J.length ay,.slice aq K.length az,iV L,iV M,.slice ar N.length aA,iV O] (G,H,I,J,K,(L,M,N),O) (Q2 aD aF X Y Z aG aH aa aJ)) ?_
  rintro cN a fq aP ⟨di,rfl,ag⟩
  obtain⟨fB,bp⟩:=cN
  dsimp only at a ag
  have e:Sub cf aP:=ag.sub
  have cq:=ag.r
  obtain⟨bn,bz,eQ,bI,bo,rfl,rfl,cd,a3⟩:=I2 cq
  obtain⟨rfl,es⟩:=sL a3
  try dsimp only at a
  refine trM a (z0b _ [iV w,.slice U m.length V] (w,m) (Q1 W (M3.mono e F)) [iV G,iV H,.slice ao I.length ax,.slice ap J.length ay,.slice aq K.length az,iV L,iV M,.slice ar N.length aA,iV O] (G,H,I,J,K,(L,M,N),O) (Q2 aD aF (T1.mono e X) (I0.mono e Y) (I0.mono e Z) aG aH (M0.mono e aa) aJ)) ?_
  rintro cY a fk ce ⟨dj,rfl,ah⟩
  obtain⟨fC,c0⟩:=cY
  dsimp only at a ah
  have t:Sub aP ce:=ah.sub
  have cr:=ah.r
  obtain⟨s,A,eT,C,j,rfl,rfl,D,x⟩:=I2 cr
  obtain⟨rfl,et⟩:=sL x
  try dsimp only at a
  refine aI (by kernel_rfl) ?_
  refine pm (.val (.bool (!(bp == c0)))) ?_ ?_
  ·intro dH e5
   exact r3
  obtain⟨bg,bU,a⟩:=B0 a
  refine pm (.val (.bool bg)) ?_ ?_
  ·intro dI ba b
   exact Tr.val (G02 _ [iV bn,.slice bz bo.length bI] (bn,bo) (Q1 cd (M3.mono (t.trans ba) a3)) [iV s,.slice A j.length C] (s,j) (Q1 D (M3.mono ba x)) _ (Z3 bU b)) r3
  refine pm (.val (.bool (!bg))) ?_ ?_
  ·intro dJ e6 b
   exact r3
  obtain⟨bh,bV,a⟩:=B0 a
  refine pm (.val (.bool bh)) ?_ ?_
  ·intro dK cz b
   exact Tr.val (D04 _ [iV s,.slice A j.length C] (s,j) (Q1 D (M3.mono cz x)) _ (Z3 bV b)) r3
  refine pm (.val (.bool (!bh))) ?_ ?_
  ·intro dL e7 b
   exact r3
  refine pm (.val (iV ((j.length:Nat):Int))) ?_ ?_
  ·intro dM e8 b
   exact r3
  refine pm (.val (iV ((m.length:Nat):Int))) ?_ ?_
  ·intro dN e9 b
   exact r3
  refine pm (.val (iV (i64.wrap (((m.length:Nat):Int)+1)))) ?_ ?_
  ·intro dO fa b
   exact r3
  refine pm (.val (.bool (!decide (((j.length:Nat):Int)=(i64.wrap (((m.length:Nat):Int)+1)))))) ?_ ?_
  ·intro dP fb b
   exact r3
  obtain⟨ak,bW,a⟩:=B0 a
  refine fS I0 ak ?_ ?_
  ·intro dQ cA b
   refine Tr.mono (a06 _ [iV s,.slice A j.length C] (s,j) (Q1 D (M3.mono cA x)) _ (Z3 bW b)) ?_
   rintro _ E ⟨bs,eD,bC,rfl,bc⟩
   have l:=bc.sub
   have aS:=bc.r
   obtain⟨rfl,ci⟩:=sL aS
   exact aI t6 (aI l ⟨bs,bC,rfl,aS,ci⟩)
  obtain⟨eW,dv,a⟩:=B0 a
  refine pm (.val (iV ((ak.length:Nat):Int))) ?_ ?_
  ·intro dR fc b
   rintro _ ⟨c3,dn,rfl,e2,ey⟩
   exact r3
  refine pm (.val (.bool (!decide (((ak.length:Nat):Int)=0)))) ?_ ?_
  ·intro dS fd b
   exact r3
  refine pm (.val (.bool (!bp))) ?_ ?_
  ·intro dU fe b
   exact r3
  obtain⟨bi,bX,a⟩:=B0 a
  refine pm (.val (.bool bi)) ?_ ?_
  ·intro dV bb b
   exact Tr.val (G02 _ [iV s,.slice A j.length C] (s,j) (Q1 D (M3.mono bb x)) [iV w,.slice U m.length V] (w,m) (Q1 W (M3.mono ((e.trans t).trans bb) F)) _ (Z3 bX b)) r3
  refine pm (.val (.bool (!bi))) ?_ ?_
  ·intro dW ff b
   exact r3
  intro dX y
  refine ifB a (λca a=>?_) λca a=>?_
  ·cases a
   exact aI rfl (((z.trans e).trans t).trans y)
  ·refine trM a (O0d _ _ _ _ _ ((Wp.slice Wp.u8).mono (((z.trans e).trans t).trans y) u)) ?_
   rintro cK a fm cg ⟨dc,rfl,aW,ad⟩
   obtain⟨fv,al⟩:=cK
   dsimp only at a aW
   obtain⟨c,o,eJ,p,d,rfl,rfl,q,k⟩:=I2 aW
   obtain⟨rfl,en⟩:=sL k
   try dsimp only at a
   obtain⟨eY,bN,a⟩:=B0 a
   have aK:F0 al:=K0 bN
   refine trV a (l0b _ _ _ _ _ ((Wp.slice Wp.u8).mono ((((z.trans e).trans t).trans y).trans ad) u)) λam a=>?_
   obtain⟨eZ,bO,a⟩:=B0 a
   have aL:F0 am:=K0 bO
   refine trM a (e0f _ am aL) ?_
   rintro cL a fn aO ⟨dd,rfl,ae⟩
   obtain⟨fw,cM⟩:=cL
   dsimp only at a ae
   have i:Sub cg aO:=ae.sub
   have cn:=ae.r
   obtain⟨bj,bt,eK,bD,bk,rfl,rfl,cb,aX⟩:=I2 cn
   obtain⟨rfl,eo⟩:=sL aX
   try dsimp only at a
   refine trM a (Y08 _ am aL) ?_
   rintro cO a fo ch ⟨df,rfl,af⟩
   obtain⟨fx,cP⟩:=cO
   dsimp only at a af
   have f:Sub aO ch:=af.sub
   have co:=af.r
   obtain⟨bl,bu,eL,bE,bm,rfl,rfl,cc,aY⟩:=I2 co
   obtain⟨rfl,ep⟩:=sL aY
   try dsimp only at a
   refine trM a (Z08 _ _ _ _ _ ((Wp.slice Wp.u8).mono ((((((z.trans e).trans t).trans y).trans ad).trans i).trans f) u)) ?_
   rintro cQ a fp dY ⟨dg,dh,rfl,aZ,a0,g⟩
   obtain⟨fy,fz⟩:=cQ
   dsimp only at a aZ a0
   obtain⟨P,au,eM,aB,Q,rfl,rfl,aM,ab⟩:=I2 aZ
   obtain⟨rfl,eq⟩:=sL ab
   try dsimp only at a
   obtain⟨S,av,eN,aC,T,rfl,rfl,aN,ac⟩:=I2 a0
   obtain⟨rfl,er⟩:=sL ac
   try dsimp only at a
   refine w4 ?_
   obtain⟨cR,bY,a⟩:=B0 a
   refine fS I0 cR ?_ ?_
   ·intro d1 cC
    refine Tr.mono (T0i _ [iV c,.slice o d.length p] (c,d) (Q1 q (M3.mono (((i.trans f).trans g).trans cC) k)) al aK _ bY) ?_
    rintro _ E ⟨bv,eO,bG,rfl,a1,l⟩
    obtain⟨rfl,cj⟩:=sL a1
    exact aI t6 (aI l ⟨bv,bG,rfl,a1,cj⟩)
   obtain⟨cS,bZ,a⟩:=B0 a
   refine fS I0 cS ?_ ?_
   ·intro d2 cD
    refine Tr.mono (S0i _ [iV c,.slice o d.length p] (c,d) (Q1 q (M3.mono (((i.trans f).trans g).trans cD) k)) al aK _ bZ) ?_
    rintro _ E ⟨bx,eP,bH,rfl,a2,l⟩
    obtain⟨rfl,ck⟩:=sL a2
    exact aI t6 (aI l ⟨bx,bH,rfl,a2,ck⟩)
   obtain⟨cU,b0,a⟩:=B0 a
   refine pm (.val (.bool cU)) ?_ ?_
   ·intro d3 fg
    rintro _ ⟨c4,dq,rfl,cs,ez⟩
    rintro _ ⟨c5,ds,rfl,ct,eA⟩
    exact Tr.val (B0b _ _ _ _ _ cs _ _ _ _ ct _ b0) r3
   obtain⟨cV,b1,a⟩:=B0 a
   refine fS I0 cV ?_ ?_
   ·intro d4 cE b
    refine Tr.mono (a06 _ [iV c,.slice o d.length p] (c,d) (Q1 q (M3.mono (((i.trans f).trans g).trans cE) k)) _ (Z3 b1 b)) ?_
    rintro _ E ⟨bA,eR,bJ,rfl,bd⟩
    have l:=bd.sub
    have a4:=bd.r
    obtain⟨rfl,cl⟩:=sL a4
    exact aI t6 (aI l ⟨bA,bJ,rfl,a4,cl⟩)
   obtain⟨cW,b2,a⟩:=B0 a
   refine fS I0 cW ?_ ?_
   ·intro ea cG b
    refine Tr.mono (V08 _ [iV c,.slice o d.length p] (c,d) (Q1 q (M3.mono (((i.trans f).trans g).trans cG) k)) _ (Z3 b2 b)) ?_
    rintro _ E ⟨bB,eS,bK,rfl,a5,l⟩
    obtain⟨rfl,cm⟩:=sL a5
    exact aI t6 (aI l ⟨bB,bK,rfl,a5,cm⟩)
   obtain⟨cX,b3,a⟩:=B0 a
   refine pm (.val (.bool cX)) ?_ ?_
   ·intro eb fh b
    rintro _ ⟨c6,dt,rfl,cu,eB⟩
    rintro _ ⟨c7,du,rfl,cv,eC⟩
    exact Tr.val (B0b _ _ _ _ _ cu _ _ _ _ cv _ (Z3 b3 b)) r3
   obtain⟨bq,b5,a⟩:=B0 a
   refine pm (.val (.bool bq)) ?_ ?_
   ·intro ec cH b
    exact Tr.val (D04 _ [iV c,.slice o d.length p] (c,d) (Q1 q (M3.mono (((i.trans f).trans g).trans cH) k)) _ (Z3 b5 b)) r3
   obtain⟨br,b6,a⟩:=B0 a
   refine pm (.val (.bool br)) ?_ ?_
   ·intro ed cI b
    exact Tr.val (L06 _ [iV c,.slice o d.length p] (c,d) (Q1 q (M3.mono (((i.trans f).trans g).trans cI) k)) _ (Z3 b6 b)) r3
   refine pm (.val (.bool (bq == br))) ?_ ?_
   ·intro ee fi b
    exact r3
   refine pm (.val (.bool (cM == cP))) ?_ ?_
   ·intro ef fj b
    exact r3
   obtain⟨cZ,b7,a⟩:=B0 a
   refine pm (.val (.bool cZ)) ?_ ?_
   ·intro eg a6 b
    exact Tr.val (G02 _ [iV bj,.slice bt bk.length bD] (bj,bk) (Q1 cb (M3.mono ((f.trans g).trans a6) aX)) [iV bl,.slice bu bm.length bE] (bl,bm) (Q1 cc (M3.mono (g.trans a6) aY)) _ (Z3 b7 b)) r3
   obtain⟨ai,bP,a⟩:=B0 a
   obtain⟨eU,bL,a⟩:=B0 a
   have dw:ai.size<=9223372036854775807:=K0 bL
   refine pm (.val (.string ai)) ?_ ?_
   ·intro dy cw b
    exact Tr.val (E0b _ [iV c,.slice o d.length p] (c,d) (Q1 q (M3.mono (((i.trans f).trans g).trans cw) k)) _ (Z3 bP b)) r3
   obtain⟨aj,bQ,a⟩:=B0 a
   obtain⟨eV,bM,a⟩:=B0 a
   have dx:aj.size<=9223372036854775807:=K0 bM
   refine pm (.val (.string aj)) ?_ ?_
   ·intro dz cx b
    exact Tr.val (D0b _ [iV c,.slice o d.length p] (c,d) (Q1 q (M3.mono (((i.trans f).trans g).trans cx) k)) _ (Z3 bQ b)) r3
   refine pm (.val (.bool (V05 ai aj))) ?_ ?_
   ·intro dA e3 b
    exact r3
   obtain⟨be,bR,a⟩:=B0 a
   refine pm (.val (.bool be)) ?_ ?_
   ·intro dB a7 b
    exact Tr.val (J0b _ [iV P,.slice au Q.length aB] (P,Q) (Q1 aM (M3.mono a7 ab)) [iV S,.slice av T.length aC] (S,T) (Q1 aN (M3.mono a7 ac)) _ (Z3 bR b)) r3
   obtain⟨bf,bS,a⟩:=B0 a
   refine pm (.val (.bool bf)) ?_ ?_
   ·intro dC a8 b
    exact Tr.val (G02 _ [iV P,.slice au Q.length aB] (P,Q) (Q1 aM (M3.mono a8 ab)) [iV S,.slice av T.length aC] (S,T) (Q1 aN (M3.mono a8 ac)) _ (Z3 bS b)) r3
   refine pm (.val (.bool (be == bf))) ?_ ?_
   ·intro dD e4 b
    exact r3
   intro dG cy
   rintro _ ⟨c1,dk,rfl,e0,eu⟩
   rintro _ ⟨c2,dm,rfl,e1,ew⟩
   cases a
   exact aI rfl ((((((((z.trans e).trans t).trans y).trans ad).trans i).trans f).trans g).trans cy)
end Go.Proofs.YtcpjomkcdlggaaaGreat
