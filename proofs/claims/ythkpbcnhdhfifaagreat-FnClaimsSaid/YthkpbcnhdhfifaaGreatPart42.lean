/- Texts of the claim, joined: The walks of batch h3 and others. -/
import Derived.Test.YthkpbcnhdhfifaaGreatH53
import Derived.Test.YthkpbcnhdhfifaaGreatPart24
import Derived.Test.YthkpbcnhdhfifaaGreatPart22
import Derived.Test.YthkpbcnhdhfifaaGreatChecked
import Derived.Test.YthkpbcnhdhfifaaGreatH35
import Derived.Test.YthkpbcnhdhfifaaGreatPart37
import Derived.Test.YthkpbcnhdhfifaaGreatPart39
import Derived.Test.YthkpbcnhdhfifaaGreatPart41
import Derived.Test.YthkpbcnhdhfifaaGreatSE
import Derived.Test.YthkpbcnhdhfifaaGreatPart27
import Derived.Test.YthkpbcnhdhfifaaGreatH41
import Derived.Test.YthkpbcnhdhfifaaGreatPart21
import Derived.Test.YthkpbcnhdhfifaaGreatH36
import Derived.Test.YthkpbcnhdhfifaaGreatPart23
import Derived.Test.YthkpbcnhdhfifaaGreatH45
namespace Go.Proofs.YthkpbcnhdhfifaaGreat
set_option linter.all false
open Go.H
open IntKind (i64)
set_option maxRecDepth 10000
def X09(h:Hp)(b:Int)(f:I0 b)(c:Int)(j:I0 c)(d:Int)(g:I0 d)(r:Q0)(a:i04 b c d=some r): Tr Tryz.prog 123 #[iV b,iV c,iV d] h λv h'=>∃(e:List Value),v = .agg e.toArray/\E1.R h' e r/\Sub h h':=by
 unfold i04 at a;refine wk Tryz.f123 ?_;refine ifB a (λi a=>?_) λi a=>?_;·cases a;exact⟨_,rfl,(Z1 g (O0 _) f),sr⟩
 cases a;exact⟨_,rfl,(Z1 f j g),sr⟩
def T01(h:Hp)(l:Option Addr)(o m:Nat)(e:T0)(q:M0.R h [.slice l o m] e)(n:List Value)(p:Q0)(w:E1.R h n p)(r:Int)(b:T2 e p=some r): Tr Tryz.prog 122 #[.slice l o m,.agg n.toArray] h λv h'=>v=iV r/\h'=h:=by
 obtain⟨rfl,L⟩:=sL q;obtain⟨g,i,j,rfl,rfl,D,E,F⟩:=D2 w;unfold T2 at b;dsimp only at b;refine wkF Tryz.f122 ?_;obtain⟨k,s,b⟩:=D0 b;refine eX { vars:=[8] } (eX (λvs os h'=>∃ c,vs.tail = [iV c]/\os = []/\Sub h h'/\I0 c/\U1 e g i j (P1 vs) c=some k) (eX (λ_ _=>0) (aI (eX U0 ⟨_,rfl,rfl,sr,oD,s⟩) ?_)));rintro _ d K ⟨c,⟨⟩,⟨⟩,f,G,a⟩;replace a:U1 e g i j d c=some k:=a;obtain _|d:=d;·cases a
 rw[U1.eq_2]at a;refine ifB a (λt a=>?_) λt a=>?_
 ·refine w1 ?_;refine ld a (M0.mono f q) λM C x a=>?_;obtain⟨y,z,A,rfl,rfl,H,I,J⟩:=D2 x;try dsimp only at a
  refine eX (eqE (g,i,j) (y,z,A)) (aI (R0b _ _ _ rfl _ _ _ _ _ _) ?_);refine ifB a (λu a=>?_) λu a=>?_
  ·cases a;try dsimp only[Y2,N3]at b
   cases b;exact aI rfl f
  exact C2 d ⟨_,rfl,rfl,f,(O0 _),a⟩
 cases a;try dsimp only[V0,Y0]at b
 cases b;exact aI rfl f
def O04(h:Hp)(b:Option Addr)(e c:Nat)(f:T0)(i:M0.R h [.slice b e c] f)(d:List Value)(g:Q0)(n:E1.R h d g)(r:Bool)(a:Z3 f g=some r): Tr Tryz.prog 168 #[.slice b e c,.agg d.toArray] h λv h'=>v = .bool r/\h'=h:=by obtain⟨rfl,q⟩:=sL i;obtain⟨s,t,u,rfl,rfl,k,l,m⟩:=D2 n;unfold Z3 at a;dsimp only at a;refine wkF Tryz.f168 ?_;refine trV a (T01 _ _ _ _ _ i _ _ (Z1 k l m)) λo a=>?_;obtain⟨w,j,a⟩:=D0 a;have p:I0 o:=N0 j;cases a;exact aI rfl sr
def f07(h:Hp)(e:Int)(k:I0 e)(f:Nat)(j:TypeId)(c:Int)(l:I0 c)(b:Int)(m:I0 b)(d:h f=some (.cells #[iV c,iV b] j (0,0)))(r:Int)(a:P8 e (c,b)=some r): Tr Tryz.prog 215 #[iV e,ptr f 0] h λv h'=>v=iV r/\h'=h:=by
 unfold P8 at a;dsimp only at a;refine wkF Tryz.f215 ?_;refine eX (iV b) (aI ⟨rfl,by simp[Hp.cell,(d)]⟩ ?_);refine ifB a (λg a=>?_) λg a=>?_;·refine eX (iV c) (aI ⟨rfl,by simp[Hp.cell,(d)]⟩ ?_);cases a;exact aI rfl sr
 refine eX (iV b) (aI ⟨rfl,by simp[Hp.cell,(d)]⟩ ?_);refine ifB a (λi a=>?_) λi a=>?_;·cases a;exact aI rfl sr
 cases a;exact aI rfl sr
def w0d(h:Hp)(ae:List Value)(ar:B0)(bh:I1.R h ae ar)(U:Int)(ah:I0 U)(ab:Option Addr)(aq ac:Nat)(E:J0)(V:K0.R h [.slice ab aq ac] E)(t:Int)(P:I0 t)(r:B0×Bool)(d:P03 ar U E t=some r): Tr Tryz.prog 171 #[.agg ae.toArray,iV U,.slice ab aq ac,iV t] h λv h'=>∃(ad:List Value),v = .tuple #[.agg ad.toArray,.bool r.2]/\New I1 h h' ad r.1:=by
 obtain⟨cj,ck,bD,bI,cl,rfl,rfl,p,C,F,b2⟩:=opG bh;obtain⟨rfl,b3⟩:=sL V;unfold P03 at d;dsimp only at d;refine wk Tryz.f171 ?_;refine trM d (V7 _ _ _ (C0 p C F)) ?_;rintro bA d cu be ⟨bR,cd,bL,rfl,H⟩;have w:Sub h be:=H.sub;have av:=H.r;obtain⟨cz,cA,cC⟩:=bA;dsimp only at d H av;obtain⟨_,_,_,_,_,_,aA,aD,ak,al,bi⟩:=Z0 av;cases aA;cases aD;obtain⟨rfl,b6⟩:=sL bi;try dsimp only at d
 have ax:=nD (nD (H));refine trV d (I01 _ _ _ (C0 p C (M0.mono w F))) λcE d=>?_;refine trG d (λq=>e04 _ _ _ (C0 p C (M0.mono w F)) _ ah) λcG d=>?_;refine trG d (λq=>e04 _ _ _ (C0 p C (M0.mono w F)) _ P) λcH d=>?_;refine trG d (λq=>t02 _ _ p _ _ _ _ (K0.mono w V)) λcI d=>?_;refine ifB d (λaY d=>?_) λaY d=>?_;·cases d;exact⟨_,rfl,(nP (nI ak) (nP (nI al) ax))⟩
 obtain⟨aa,aS,d⟩:=D0 d;refine eX { vars:=[11,66],boxes:=[2] } (eX (λvs os h'=>∃ x y z A O T S K G,vs.tail = [iV x,iV y,iV z,iV A,.slice (some ⟨O,T,none⟩) S K]/\os = []/\Sub h h'/\I0 x/\I0 y/\I0 z/\I0 A/\New M0 h h' [.slice (some ⟨O,T,none⟩) S K] G/\Q8 E t (P1 vs) x y z A G=some aa) (eX (λ_ _=>0) (aI (eX U0 ⟨_,_,_,_,_,_,_,_,_,rfl,rfl,w,ah,oD,ak,al,ax,aS⟩) ?_)));rintro _ _ _ _ _ s bd ⟨x,y,z,A,O,T,S,K,G,⟨⟩,⟨⟩,aw,ai,bV,Q,D,W,b⟩;replace b:Q8 E t s x y z A G=some aa:=b;obtain _|s:=s;·cases b
 rw[Q8.eq_2]at b;have au:=W.r;obtain⟨rfl,b5⟩:=sL au;refine ifB b (λaW b=>?_) λaW b=>?_
 ·refine ldI b (K0.mono aw V) λcy aj b=>?_;refine ifB b (λaX b=>?_) λaX b=>?_
  ·refine w5 7 ?_;obtain⟨bB,aM,b⟩:=D0 b;obtain⟨g,i,j⟩:=bB;try dsimp only at b
   refine Or.inr (eX (λv aZ=>∃(_:Unit),v = .agg #[iV g,iV i,iV j]/\I0 g/\I0 i/\I0 j) (aI (λv aQ aR f q=>by obtain⟨u,e,M,N,f2⟩:=q;exact⟨u,e,M,N,f2⟩) (aI ?_ ?_)));·intro bW co;refine Tr.mono (X09 _ _ ai _ aj _ D _ aM) ?_;rintro _ bg ⟨bJ,rfl,bj,f⟩;obtain⟨cJ,cK,cL,rfl,L,a0,a1,a2⟩:=D2 bj;cases L;exact aI K7 (aI f ⟨(),rfl,a0,a1,a2⟩)
   obtain⟨I,aN,b⟩:=D0 b;refine fS M0 I ?_ ?_;·intro am cq;rintro _ ⟨_,rfl,a6,a7,a8⟩;have aB:[(g,i,j)]=I:=oJ aN;intro v k hf;obtain⟨a,c,rfl,r,f,l⟩:=C1.out (r:=E1.toRp) (xs:=I) hf (show F2 (E1.R am) [[iV g,iV i,iV j]] I from aB▸(show F2 (E1.R am) [[iV g,iV i,iV j]] [(g,i,j)] from⟨(Z1 a6 a7 a8),trivial⟩));exact aI ⟨rfl,rfl,rfl,[_],rfl⟩ (aI f ⟨a,c,rfl,r,l⟩)
   intro bX bs;rintro _ ⟨bG,bN,rfl,bo,b8⟩;rintro _ _;obtain⟨bu,aF,af⟩:=Sl.rows (r:=E1.toRp) bo;refine eX bu (aI aF ?_);obtain⟨cm,aK,b⟩:=D0 b;obtain⟨bx,bm,ao,ay⟩:=New.app W bs;refine eX bx (aI bm (aI (N1 aK (by first|rw[ao,fL af]|(rw[ao];rfl))) ?_));intro cw b0 aU;obtain⟨Y,bS,ch,cf,bO,rfl⟩:=ay _ _ _ _ _ (F3.ofPlain (u09 _) af) g6.ofPlain aU;have bp:=Y.r;obtain⟨aH,ca⟩:=sL bp;subst aH;exact C2 s ⟨_,_,_,_,_,_,_,_,_,rfl,rfl,Y.sub,D,(O0 _),Q,(O0 _),Y,b⟩
  refine w5 7 ?_;obtain⟨bC,aO,b⟩:=D0 b;obtain⟨m,n,o⟩:=bC;try dsimp only at b
  refine Or.inr (eX (λv aZ=>∃(_:Unit),v = .agg #[iV m,iV n,iV o]/\I0 m/\I0 n/\I0 o) (aI (λv aQ aR f q=>by obtain⟨u,e,M,N,f2⟩:=q;exact⟨u,e,M,N,f2⟩) (aI ?_ ?_)));·intro bY cr;refine Tr.mono (X09 _ _ ai _ aj _ P _ aO) ?_;rintro _ bg ⟨bK,rfl,bk,f⟩;obtain⟨cM,cN,cO,rfl,L,a3,a4,a5⟩:=D2 bk;cases L;exact aI K7 (aI f ⟨(),rfl,a3,a4,a5⟩)
  obtain⟨J,aP,b⟩:=D0 b;refine fS M0 J ?_ ?_;·intro an cs;rintro _ ⟨_,rfl,ba,bb,bc⟩;have aC:[(m,n,o)]=J:=oJ aP;intro v k hf;obtain⟨a,c,rfl,r,f,l⟩:=C1.out (r:=E1.toRp) (xs:=J) hf (show F2 (E1.R an) [[iV m,iV n,iV o]] J from aC▸(show F2 (E1.R an) [[iV m,iV n,iV o]] [(m,n,o)] from⟨(Z1 ba bb bc),trivial⟩));exact aI ⟨rfl,rfl,rfl,[_],rfl⟩ (aI f ⟨a,c,rfl,r,l⟩)
  intro bZ bt;rintro _ ⟨bH,bP,rfl,bq,cb⟩;rintro _ _;obtain⟨bv,aG,ag⟩:=Sl.rows (r:=E1.toRp) bq;refine eX bv (aI aG ?_);obtain⟨cn,aL,b⟩:=D0 b;obtain⟨bz,bn,ap,az⟩:=New.app W bt;refine eX bz (aI bn (aI (N1 aL (by first|rw[ap,fL ag]|(rw[ap];rfl))) ?_));intro cx b1 aV;obtain⟨Z,bU,ci,cg,bQ,rfl⟩:=az _ _ _ _ _ (F3.ofPlain (u09 _) ag) g6.ofPlain aV;have br:=Z.r;obtain⟨aJ,cc⟩:=sL br;subst aJ;exact C2 s ⟨_,_,_,_,_,_,_,_,_,rfl,rfl,Z.sub,P,(O0 _),Q,D,Z,b⟩
 cases b;try dsimp only[V0,Y0]at d
 refine trM d (Z05 _ _ _ _ _ au) ?_;rintro cD d cv bf ⟨bE,ce,bM,rfl,X⟩;have ct:Sub bd bf:=X.sub;have bl:=X.r;obtain⟨rfl,b7⟩:=sL bl;cases d;exact⟨_,rfl,(nP (nI Q) (nP (nI D) (New.from X aw)))⟩
def r0j(h:Hp)(b:Int)(d:I0 b)(r:B0×Bool)(a:g06 b=some r): Tr Tryz.prog 165 #[iV b] h λv h'=>∃(c:List Value),v = .tuple #[.agg c.toArray,.bool r.2]/\New I1 h h' c r.1:=by
 unfold g06 at a;refine wk Tryz.f165 ?_;refine trV a (U7 _ _ d 1 oD 3 oD) λf a=>?_;refine ifB a (λe a=>?_) λe a=>?_;·cases a;exact⟨_,rfl,(nP (nI (show I0 (0) from(oD))) (nP (nI (show I0 (0) from(oD))) ((New.nilSlice (r:=E1)).mono sr)))⟩
 cases a;exact⟨_,rfl,(nP (nI d) (nP (nI (show I0 (1) from(oD))) ((New.nilSlice (r:=E1)).mono sr)))⟩
def e0c(h:Hp)(f:List Value)(i:B0)(q:I1.R h f i)(c:Option Addr)(g d:Nat)(j:J0)(k:K0.R h [.slice c g d] j)(r:B0×Bool)(a:c03 i j=some r): Tr Tryz.prog 127 #[.agg f.toArray,.slice c g d] h λv h'=>∃(e:List Value),v = .tuple #[.agg e.toArray,.bool r.2]/\New I1 h h' e r.1:=by
 obtain⟨G,H,x,z,I,rfl,rfl,l,m,s,D⟩:=opG q;obtain⟨rfl,E⟩:=sL k;unfold c03 at a;dsimp only at a;refine wk Tryz.f127 ?_;refine trM a (w0d _ _ _ (C0 l m s) 0 oD _ _ _ _ k 0 oD) ?_;rintro w a L p ⟨A,rfl,b⟩;obtain⟨M,Q⟩:=w;dsimp only at a b;have K:Sub h p:=b.sub;have t:=b.r;obtain⟨N,O,y,C,P,rfl,rfl,n,o,J,F⟩:=opG t;try dsimp only at a
 have u:=nD (nD (b));cases a;exact⟨_,rfl,(nP (nI n) (nP (nI o) u))⟩
def s0j(h:Hp)(q:Int)(z:I0 q)(w:Option Addr)(C x:Nat)(f:K1)(s:Q1.R h [.slice w C x] f)(r:B0×Bool)(b:C04 q f=some r): Tr Tryz.prog 115 #[iV q,.slice w C x] h λv h'=>∃(y:List Value),v = .tuple #[.agg y.toArray,.bool r.2]/\New I1 h h' y r.1:=by
 obtain⟨rfl,ai⟩:=sL s;unfold C04 at b;refine wk Tryz.f115 ?_;refine trV b (j08 _ _ z _ _ _ _ s) λar b=>?_;refine ifB b (λJ b=>?_) λJ b=>?_;·cases b;exact⟨_,rfl,(nP (nI (show I0 (0) from(oD))) (nP (nI (show I0 (0) from(oD))) ((New.nilSlice (r:=E1)).mono sr)))⟩
 refine trM b (r0j _ _ z) ?_;rintro X b aq A ⟨ad,rfl,k⟩;obtain⟨aA,aF⟩:=X;dsimp only at b k;have F:Sub h A:=k.sub;have S:=k.r;obtain⟨aB,aC,aa,ag,aD,rfl,rfl,M,N,ao,am⟩:=opG S;try dsimp only at b
 have V:=nD (nD (k));obtain⟨u,G,b⟩:=D0 b;refine eX { vars:=[22],boxes:=[1] } (eX (λvs os h'=>∃ u8 e d l p m i,vs.tail = [iV u8,iV e,iV d,.slice l p m]/\os = []/\Sub A h'/\I0 u8/\I0 e/\I0 d/\New M0 h h' [.slice l p m] i/\l8 f (P1 vs) u8 e d i=some u) (eX (λ_ _=>0) (aI (eX U0 ⟨_,_,_,_,_,_,_,rfl,rfl,sr,oD,M,N,V,G⟩) ?_)));rintro _ _ _ _ c O ⟨u8,e,d,l,p,m,i,⟨⟩,⟨⟩,g,ah,o,n,t,a⟩;replace a:l8 f c u8 e d i=some u:=a;obtain _|c:=c;·cases a
 rw[l8.eq_2]at a;have D:=t.r;obtain⟨rfl,aj⟩:=sL D;refine ifB a (λH a=>?_) λH a=>?_
 ·refine ld a (Q1.mono (F.trans g) s) λau ab E a=>?_;obtain⟨Y,ae,rfl,ak⟩:=slL E;refine ifB a (λI a=>?_) λI a=>?_
  ·refine trM a (e0c _ _ _ (C0 o n D) _ _ _ _ E) ?_;rintro W a ap P ⟨ac,rfl,j⟩;obtain⟨av,az⟩:=W;dsimp only at a j;have T:Sub O P:=j.sub;have Q:=j.r;obtain⟨aw,ax,Z,af,ay,rfl,rfl,K,L,an,al⟩:=opG Q;try dsimp only at a
   have U:=nD (nD (j));exact C2 c ⟨_,_,_,_,_,_,_,rfl,rfl,(g.trans T),(O0 _),K,L,(New.from U (F.trans g)),a⟩
  exact C2 c ⟨_,_,_,_,_,_,_,rfl,rfl,g,(O0 _),o,n,t,a⟩
 cases a;try dsimp only[V0,Y0]at b
 cases b;exact⟨_,rfl,(nP (nI o) (nP (nI n) t))⟩
def A0p(h:Hp)(F:List Value)(I:B0)(ah:I1.R h F I)(r:n02)(p:S06 I=some r): Tr Tryz.prog 214 #[.agg F.toArray] h λv h'=>∃(D:Option Addr) (H E:Nat),v = .slice D H E/\G0o.R h' [.slice D H E] r/\Sub h h':=by
 obtain⟨aK,aL,ao,ar,J,rfl,rfl,ay,az,K,aG⟩:=opG ah;unfold S06 at p;dsimp only at p;refine wk Tryz.f214 ?_;obtain⟨A,W,p⟩:=D0 p;refine eX { vars:=[12],owns:=[0] } (eX (λvs os h'=>∃ s z x,vs.tail = [iV s]/\os = [z]/\Sub h h'/\I0 s/\F2 (L6.R h') z x/\x01 J (P1 vs) s x=some A) (eX (λ_ _=>0) (aI (eX U0 ⟨_,_,_,rfl,rfl,sr,oD,(show F2 (L6.R h) ([]:LV) ([]:n02) from trivial),W⟩) ?_)));rintro _ z t af ⟨s,aV,x,⟨⟩,⟨⟩,u,aB,G,f⟩;replace f:x01 J t s x=some A:=f;obtain _|t:=t;·cases f
 rw[x01.eq_2]at f;refine ifB f (λad f=>?_) λad f=>?_
 ·refine ld f (M0.mono u K) λaS av aj f=>?_;obtain⟨d,M,a,rfl,rfl,m,aD,j⟩:=D2 aj;try dsimp only at f
  obtain⟨N,V,f⟩:=D0 f;obtain⟨ag,am,O,Q⟩:=Sl.cutI (r:=E1.toRp) (M0.mono u K) V;refine aI ag (eX am (aI O ?_));intro an ae _;obtain⟨ap,aw,rfl,L⟩:=Q an ae;have aH:=(sL L).2;obtain⟨C,X,f⟩:=D0 f;refine eX { vars:=[23],owns:=[0] } (eX (λvs os h'=>∃ q y w,vs.tail = [iV q]/\os = [y]/\Sub af h'/\I0 q/\F2 (L6.R h') y w/\P6 N M d a (P1 vs) q w=some C) (eX (λ_ _=>0) (aI (eX U0 ⟨_,_,_,rfl,rfl,sr,oD,G,X⟩) ?_)));rintro _ y n k ⟨q,aU,w,⟨⟩,⟨⟩,o,aA,g,c⟩;replace c:P6 N M d a n q w=some C:=c;obtain _|n:=n;·cases c
  rw[P6.eq_2]at c;refine ifB c (λY c=>?_) λY c=>?_
  ·refine ld c (M0.mono o L) λaQ au ai c=>?_;obtain⟨e,aR,b,rfl,rfl,l,aC,i⟩:=D2 ai;try dsimp only at c
   refine ifB c (λZ c=>?_) λZ c=>?_;·exact C2 n ⟨_,_,_,rfl,rfl,o,(O0 _),g,c⟩
   refine ifB c (λaa c=>?_) λaa c=>?_
   ·obtain⟨aM,S,c⟩:=D0 c;refine aI (N1 S (by first|rw[fL g,fL (show F2 (L6.R k) ([[iV (if b<a then b else a),iV (if b>a then b else a)]]:LV) [((if b<a then b else a),(if b>a then b else a))] from⟨(E3 (e01 i j) (e01 i j)),trivial⟩)]|exact congrArg (·+1) (fL g))) ?_;refine ifB c (λab c=>?_) λab c=>?_;·obtain⟨aN,T,c⟩:=D0 c;refine aI (N1 T (by first|rw[fL (fA g (show F2 (L6.R k) ([[iV (if b<a then b else a),iV (if b>a then b else a)]]:LV) [((if b<a then b else a),(if b>a then b else a))] from⟨(E3 (e01 i j) (e01 i j)),trivial⟩)),fL (show F2 (L6.R k) ([[iV (if e<d then e else d),iV (if e>d then e else d)]]:LV) [((if e<d then e else d),(if e>d then e else d))] from⟨(E3 (e01 l m) (e01 l m)),trivial⟩)]|exact congrArg (·+1) (fL (fA g (show F2 (L6.R k) ([[iV (if b<a then b else a),iV (if b>a then b else a)]]:LV) [((if b<a then b else a),(if b>a then b else a))] from⟨(E3 (e01 i j) (e01 i j)),trivial⟩))))) ?_;exact C2 n ⟨_,_,_,rfl,rfl,o,(O0 _),(fA (fA g (show F2 (L6.R k) ([[iV (if b<a then b else a),iV (if b>a then b else a)]]:LV) [((if b<a then b else a),(if b>a then b else a))] from⟨(E3 (e01 i j) (e01 i j)),trivial⟩)) (show F2 (L6.R k) ([[iV (if e<d then e else d),iV (if e>d then e else d)]]:LV) [((if e<d then e else d),(if e>d then e else d))] from⟨(E3 (e01 l m) (e01 l m)),trivial⟩)),c⟩
    exact C2 n ⟨_,_,_,rfl,rfl,o,(O0 _),(fA g (show F2 (L6.R k) ([[iV (if b<a then b else a),iV (if b>a then b else a)]]:LV) [((if b<a then b else a),(if b>a then b else a))] from⟨(E3 (e01 i j) (e01 i j)),trivial⟩)),c⟩
   refine ifB c (λac c=>?_) λac c=>?_;·obtain⟨aO,U,c⟩:=D0 c;refine aI (N1 U (by first|rw[fL g,fL (show F2 (L6.R k) ([[iV (if e<d then e else d),iV (if e>d then e else d)]]:LV) [((if e<d then e else d),(if e>d then e else d))] from⟨(E3 (e01 l m) (e01 l m)),trivial⟩)]|exact congrArg (·+1) (fL g))) ?_;exact C2 n ⟨_,_,_,rfl,rfl,o,(O0 _),(fA g (show F2 (L6.R k) ([[iV (if e<d then e else d),iV (if e>d then e else d)]]:LV) [((if e<d then e else d),(if e>d then e else d))] from⟨(E3 (e01 l m) (e01 l m)),trivial⟩)),c⟩
   exact C2 n ⟨_,_,_,rfl,rfl,o,(O0 _),g,c⟩
  cases c;try dsimp only[V0,Y0]at f
  exact C2 t ⟨_,_,_,rfl,rfl,(u.trans o),(O0 _),g,f⟩
 cases f;try dsimp only[V0,Y0]at p
 intro aP aF P;obtain⟨aq,ax,rfl,ak,al,aJ⟩:=C1.out (r:=L6.toRp) P G;cases p;exact⟨_,_,_,rfl,ak,(u.trans al)⟩
def q0i(h:Hp)(c:List Value)(f:B0)(o:I1.R h c f)(r:K6×Bool)(a:x02 f=some r): Tr Tryz.prog 205 #[.agg c.toArray] h λv h'=>∃(b:List Value),v = .tuple #[.agg b.toArray,.bool r.2]/\L6.R h' b r.1/\Sub h h':=by
 obtain⟨C,D,q,t,E,rfl,rfl,d,e,g,y⟩:=opG o;unfold x02 at a;dsimp only at a;refine wk Tryz.f205 ?_;refine trV a (I01 _ _ _ (C0 d e g)) λG a=>?_;refine ifB a (λk a=>?_) λk a=>?_;·cases a;exact⟨_,rfl,(E3 oD oD),sr⟩
 refine trM a (A0p _ _ _ (C0 d e g)) ?_;rintro H a F x ⟨s,A,w,rfl,i,j⟩;obtain⟨rfl,z⟩:=sL i;refine ifB a (λl a=>?_) λl a=>?_;·cases a;exact⟨_,rfl,(E3 oD oD),j⟩
 refine ld a i λI u p a=>?_;obtain⟨J,K,rfl,rfl,m,n⟩:=L06 p;try dsimp only at a
 cases a;exact⟨_,rfl,(E3 m n),j⟩
def x0d(h:Hp)(A:List Value)(K:B0)(aq:I1.R h A K)(C:List Value)(L:K6)(ar:L6.R h C L)(r:B0×Bool)(b:d00 K L=some r): Tr Tryz.prog 206 #[.agg A.toArray,.agg C.toArray] h λv h'=>∃(z:List Value),v = .tuple #[.agg z.toArray,.bool r.2]/\New I1 h h' z r.1:=by
 obtain⟨aZ,a0,aC,aF,a1,rfl,rfl,E,F,M,aU⟩:=opG aq;obtain⟨d,f,rfl,rfl,G,H⟩:=L06 ar;unfold d00 at b;dsimp only at b;refine wk Tryz.f206 ?_;refine trM b (V7 _ _ _ (C0 E F M)) ?_;rintro aB b a7 J ⟨D,aX,T,rfl,k⟩;have O:Sub h J:=k.sub;have N:=k.r;obtain⟨bd,be,x⟩:=aB;dsimp only at b k N;obtain⟨_,_,_,_,_,_,U,V,I,aj,av⟩:=Z0 N;cases U;cases V;obtain⟨rfl,aV⟩:=sL av;try dsimp only at b
 have u:=nD (nD (k));refine trV b (I01 _ _ _ (C0 E F (M0.mono O M))) λbk b=>?_;refine ifB b (λad b=>?_) λad b=>?_;·cases b;exact⟨_,rfl,(nP (nI I) (nP (nI aj) u))⟩
 intro c o;have W:(Hp.set J c (.cells #[iV d,iV f] 148 (0,0))) c=some (.cells #[iV d,iV f] 148 (0,0)):=Hp.set_same _ _ _;have ap:c≠D:=λe=>New.blk u sr (e▸o);obtain⟨y,ab,b⟩:=D0 b;refine eX { vars:=[39] } (eX (λvs os h'=>∃ g j,vs.tail = [iV g]/\os = []/\Sub h h'/\I0 g/\New M0 h h' [.slice (some ⟨D,0,none⟩) x.length T] j/\h' c=some (.cells #[iV d,iV f] 148 (0,0))/\O5 x d f (P1 vs) g j=some y) (eX (λ_ _=>0) (aI (eX U0 ⟨_,_,rfl,rfl,(O.trans (Sub.set o)),oD,(New.mono u (Sub.set o)),W,ab⟩) ?_)));rintro _ i al ⟨g,j,⟨⟩,⟨⟩,aA,aL,P,p,a⟩;replace a:O5 x d f i g j=some y:=a;obtain _|i:=i;·cases a
 rw[O5.eq_2]at a;have q:=P.r;refine ifB a (λac a=>?_) λac a=>?_
 ·refine ld a q λba aG au a=>?_;obtain⟨bb,Q,bc,rfl,rfl,af,ag,ah⟩:=D2 au;try dsimp only at a
  refine w5 14 ?_;obtain⟨l,Z,a⟩:=D0 a;obtain⟨a2,X,a⟩:=D0 a;have ai:I0 l:=N0 X;refine pm (.val (iV l)) ?_ ?_;·intro aP ay;exact Tr.val (f07 _ _ af c 148 _ G _ H (ay _ _ p) _ Z) r3
  obtain⟨m,aa,a⟩:=D0 a;obtain⟨a3,Y,a⟩:=D0 a;have ak:I0 m:=N0 Y;refine pm (.val (iV m)) ?_ ?_;·intro aQ az;exact Tr.val (f07 _ _ ah c 148 _ G _ H (az _ _ p) _ aa) r3
  refine pm (.agg [.val (iV l),.val (iV Q),.val (iV m)]) ?_ ?_;·intro aR a5;exact r3
  intro aS s;obtain⟨bf,n,a⟩:=D0 a;obtain⟨S,aH,aK,aw⟩:=Sl.getI (r:=E1.toRp) (M0.mono s q) n oD;refine aI S ?_;obtain⟨bg,bh,bi,rfl,rfl,aM,aN,aO⟩:=D2 aw;try dsimp only at a
  refine New.put (r:=E1) P s (F0z n).1 (new:=[iV l,iV Q,iV m]) (By:=[]) (u09 _ _ _ (Z1 ai ag ak)) (g6.nil _) rfl (F0z n).2 ?_;intro am t ao _;have a4:=t.r;have ae:am c=some (.cells #[iV d,iV f] 148 (0,0)):=(ao c ap).trans (s _ _ p);exact C2 i ⟨_,_,rfl,rfl,t.sub,(O0 _),t,(ae),a⟩
 cases a;try dsimp only[V0,Y0]at b
 refine trM b (Z05 _ _ _ _ _ q) ?_;rintro bj b a8 an ⟨aD,aY,aJ,rfl,w⟩;have a6:Sub al an:=w.sub;have ax:=w.r;obtain⟨rfl,aW⟩:=sL ax;cases b;exact⟨_,rfl,(nP (nI I) (nP (nI (O0 _)) (New.from w aA)))⟩
def t0j(h:Hp)(k:List Value)(o:B0)(D:I1.R h k o)(r:B0×K6×Bool)(a:D04 o=some r): Tr Tryz.prog 192 #[.agg k.toArray] h λv h'=>∃(i:List Value) (j:List Value),v = .tuple #[.agg i.toArray,.agg j.toArray,.bool r.2.2]/\New I1 h h' i r.1/\L6.R h' j r.2.1:=by
 obtain⟨Y,Z,L,N,aa,rfl,rfl,e,f,g,U⟩:=opG D;unfold D04 at a;dsimp only at a;refine wk Tryz.f192 ?_;refine trM a (q0i _ _ _ (C0 e f g)) ?_;rintro I a af n ⟨O,rfl,p,b⟩;obtain⟨ah,ak⟩:=I;dsimp only at a p;obtain⟨ai,aj,rfl,rfl,l,m⟩:=L06 p;try dsimp only at a
 refine ifB a (λu a=>?_) λu a=>?_
 ·refine trM a (V7 _ _ _ (C0 e f (M0.mono b g))) ?_;rintro J a ag C ⟨T,X,Q,rfl,c⟩;have ac:Sub n C:=c.sub;have q:=c.r;obtain⟨al,am,an⟩:=J;dsimp only at a c q;obtain⟨_,_,_,_,_,_,s,t,w,x,E⟩:=Z0 q;cases s;cases t;obtain⟨rfl,V⟩:=sL E;try dsimp only at a
  have H:=nD (nD (c));cases a;exact⟨_,_,rfl,(nP (nI w) (nP (nI x) (New.from H b))),(E3 oD oD)⟩
 refine trM a (x0d _ _ _ (C0 e f (M0.mono b g)) _ _ (E3 l m)) ?_;rintro K a ae A ⟨P,rfl,d⟩;obtain⟨ao,au⟩:=K;dsimp only at a d;have ad:Sub n A:=d.sub;have F:=d.r;obtain⟨ap,aq,M,S,ar,rfl,rfl,y,z,ab,W⟩:=opG F;try dsimp only at a
 have G:=nD (nD (d));refine w3 ?_;refine aI ?_ trivial;refine aI (by first|exact trivial|exact rfl) ?_;refine aI ?_ trivial;refine aI (by first|exact trivial|exact rfl) ?_;cases a;exact⟨_,_,rfl,(nP (nI y) (nP (nI z) (New.from G b))),(E3 l m)⟩
def X0l(h:Hp)(z:List Value)(G:B0)(aa:I1.R h z G)(r:B0×n02)(b:d05 G=some r): Tr Tryz.prog 166 #[.agg z.toArray] h λv h'=>∃(y:List Value) (w:Option Addr) (F x:Nat),v = .tuple #[.agg y.toArray,.slice w F x]/\New I1 h h' y r.1/\G0o.R h' [.slice w F x] r.2:=by
 obtain⟨aF,aG,al,ao,aH,rfl,rfl,T,U,ab,ay⟩:=opG aa;unfold d05 at b;dsimp only at b;refine wk Tryz.f166 ?_;refine trM b (V7 _ _ _ (C0 T U ab)) ?_;rintro aj b aN q ⟨aw,aD,au,rfl,j⟩;have af:Sub h q:=j.sub;have I:=j.r;obtain⟨aV,aW,aX⟩:=aj;dsimp only at b j I;obtain⟨_,_,_,_,_,_,M,N,X,Y,ad⟩:=Z0 I;cases M;cases N;obtain⟨rfl,aB⟩:=sL ad;try dsimp only at b
 have ai:=nD (nD (j));obtain⟨u,Q,b⟩:=D0 b;refine eX { vars:=[],boxes:=[2],owns:=[0] } (eX (λvs os h'=>∃ d e n s o u8 t i,vs.tail = [iV d,iV e,.slice n s o]/\os = [t]/\Sub q h'/\I0 d/\I0 e/\New M0 h h' [.slice n s o] u8/\F2 (L6.R h') t i/\e00 (P1 vs) d e u8 i=some u) (eX (λ_ _=>0) (aI (eX U0 ⟨_,_,_,_,_,_,_,_,rfl,rfl,sr,X,Y,ai,(show F2 (L6.R q) ([]:LV) ([]:n02) from trivial),Q⟩) ?_)));rintro _ _ _ t g Z ⟨d,e,n,s,o,u8,aY,i,⟨⟩,⟨⟩,K,A,C,L,f,a⟩;replace a:e00 g d e u8 i=some u:=a;obtain _|g:=g;·cases a
 rw[e00.eq_2]at a;have H:=L.r;obtain⟨rfl,az⟩:=sL H;refine trM a (t0j _ _ _ (C0 A C H)) ?_;rintro ak a aL p ⟨ap,aq,rfl,k,J⟩;obtain⟨aO,aS,aU⟩:=ak;dsimp only at a k J;have c:Sub Z p:=k.sub;have ac:=k.r;obtain⟨aP,aQ,am,ar,aR,rfl,rfl,V,W,aK,aA⟩:=opG ac;try dsimp only at a
 have ah:=nD (nD (k));obtain⟨l,m,rfl,rfl,D,E⟩:=L06 J;try dsimp only at a
 refine ifB a (λS a=>?_) λS a=>?_
 ·intro aM ax O;obtain⟨an,av,rfl,ae,ag,aC⟩:=C1.out (r:=L6.toRp) O (F2.up (r:=L6.toRp) c f);cases a;try dsimp only[Y2,N3]at b
  cases b;exact⟨_,_,_,_,rfl,(nP (nI A) (nP (nI C) (New.mono L (c.trans ag)))),ae⟩
 obtain⟨aJ,P,a⟩:=D0 a;refine aI (N1 P (by first|rw[fL (F2.up (r:=L6.toRp) c f),fL (show F2 (L6.R p) ([[iV l,iV m]]:LV) [(l,m)] from⟨(E3 D E),trivial⟩)]|exact congrArg (·+1) (fL (F2.up (r:=L6.toRp) c f)))) ?_;exact C2 g ⟨_,_,_,_,_,_,_,_,rfl,rfl,(K.trans c),V,W,(New.from ah (af.trans K)),(fA (F2.up (r:=L6.toRp) c f) (show F2 (L6.R p) ([[iV l,iV m]]:LV) [(l,m)] from⟨(E3 D E),trivial⟩)),a⟩
def r0i(h:Hp)(d:List Value)(i:B0)(s:I1.R h d i)(r:B0×Bool)(a:Q03 i=some r): Tr Tryz.prog 173 #[.agg d.toArray] h λv h'=>∃(c:List Value),v = .tuple #[.agg c.toArray,.bool r.2]/\New I1 h h' c r.1:=by
 obtain⟨F,G,x,y,H,rfl,rfl,e,f,j,C⟩:=opG s;unfold Q03 at a;dsimp only at a;refine wk Tryz.f173 ?_;refine trM a (V7 _ _ _ (C0 e f j)) ?_;rintro w a I q ⟨A,E,z,rfl,b⟩;have u:Sub h q:=b.sub;have k:=b.r;obtain⟨J,K,L⟩:=w;dsimp only at a b k;obtain⟨_,_,_,_,_,_,m,n,g,p,t⟩:=Z0 k;cases m;cases n;obtain⟨rfl,D⟩:=sL t;try dsimp only at a
 have l:=nD (nD (b));refine trV a (I01 _ _ _ (C0 e f (M0.mono u j))) λM a=>?_;refine ifB a (λo a=>?_) λo a=>?_;·cases a;exact⟨_,rfl,(nP (nI g) (nP (nI p) l))⟩
 cases a;exact⟨_,rfl,(nP (nI g) (nP (nI (O0 _)) l))⟩
def B0e(h:Hp)(D:List Value)(I:B0)(Y:I1.R h D I)(r:T0)(c:H00 I=some r): Tr Tryz.prog 176 #[.agg D.toArray] h λv h'=>∃(A:Option Addr) (H C:Nat),v = .slice A H C/\M0.R h' [.slice A H C] r/\Sub h h':=by
 obtain⟨j,k,ae,ai,l,rfl,rfl,p,F,J,ar⟩:=opG Y;unfold H00 at c;dsimp only at c;refine wk Tryz.f176 ?_;refine trV c (c02 _ _ _ (C0 p F J)) λaD c=>?_;refine ifB c (λU c=>?_) λU c=>?_;·intro aB aq N;obtain⟨ah,al,rfl,aa,ac,aw⟩:=C1.out (r:=E1.toRp) N (show F2 (E1.R h) ([]:LV) ([]:T0) from trivial);cases c;exact⟨_,_,_,rfl,aa,ac⟩
 obtain⟨z,S,c⟩:=D0 c;refine eX { vars:=[4],owns:=[0] } (eX (λvs os h'=>∃ u8 x n,vs.tail = [iV u8]/\os = [x]/\Sub h h'/\I0 u8/\F2 (E1.R h') x n/\D6 k j l (P1 vs) u8 n=some z) (eX (λ_ _=>0) (aI (eX U0 ⟨_,_,_,rfl,rfl,sr,oD,(show F2 (E1.R h) ([]:LV) ([]:T0) from trivial),S⟩) ?_)));rintro _ x i ao ⟨u8,aG,n,⟨⟩,⟨⟩,t,q,E,b⟩;replace b:D6 k j l i u8 n=some z:=b;obtain _|i:=i;·cases b
 rw[D6.eq_2]at b;refine ifB b (λT b=>?_) λT b=>?_
 ·refine trM b (u0d _ _ p) ?_;rintro L b aA X ⟨af,ax,aj,rfl,K,u⟩;obtain⟨rfl,au⟩:=sL K;obtain⟨y,Q,b⟩:=D0 b;refine eX { vars:=[22],owns:=[0] } (eX (λvs os h'=>∃ g w m,vs.tail = [iV g]/\os = [w]/\Sub X h'/\I0 g/\F2 (E1.R h') w m/\N4 L j k l u8 (P1 vs) g m=some y) (eX (λ_ _=>0) (aI (eX U0 ⟨_,_,_,rfl,rfl,sr,oD,(F2.up (r:=E1.toRp) u E),Q⟩) ?_)));rintro _ w e G ⟨g,aF,m,⟨⟩,⟨⟩,f,am,d,a⟩;replace a:N4 L j k l u8 e g m=some y:=a;obtain _|e:=e;·cases a
  rw[N4.eq_2]at a;refine ifB a (λV a=>?_) λV a=>?_
  ·refine ldI a (K0.mono f K) λo s a=>?_;refine trV a (z9 _ _ _ (C0 p F (M0.mono ((t.trans u).trans f) J)) _ q _ s) λad a=>?_;obtain⟨ay,O,a⟩:=D0 a;have an:I0 ad:=N0 O;refine ifB a (λW a=>?_) λW a=>?_;·obtain⟨az,P,a⟩:=D0 a;refine aI (N1 P (by first|rw[fL d,fL (show F2 (E1.R G) ([[iV u8,iV o,iV (-1)]]:LV) [(u8,o,(-1))] from⟨(Z1 q s oD),trivial⟩)]|exact congrArg (·+1) (fL d))) ?_;exact C2 e ⟨_,_,_,rfl,rfl,f,(O0 _),(fA d (show F2 (E1.R G) ([[iV u8,iV o,iV (-1)]]:LV) [(u8,o,(-1))] from⟨(Z1 q s oD),trivial⟩)),a⟩
   exact C2 e ⟨_,_,_,rfl,rfl,f,(O0 _),d,a⟩
  cases a;try dsimp only[V0,Y0]at b
  exact C2 i ⟨_,_,_,rfl,rfl,((t.trans u).trans f),(O0 _),d,b⟩
 cases b;try dsimp only[V0,Y0]at c
 intro aC ap M;obtain⟨ag,ak,rfl,Z,ab,av⟩:=C1.out (r:=E1.toRp) M E;cases c;exact⟨_,_,_,rfl,Z,(t.trans ab)⟩
def L05(h:Hp)(f:List Value)(j:B0)(x:I1.R h f j)(r:B0)(a:S7 j=some r): Tr Tryz.prog 116 #[.agg f.toArray] h λv h'=>∃(e:List Value),v = .agg e.toArray/\New I1 h h' e r:=by
 obtain⟨ai,aj,K,Q,ak,rfl,rfl,m,n,y,aa⟩:=opG x;unfold S7 at a;dsimp only at a;refine wk Tryz.f116 ?_;refine trM a (X0l _ _ _ (C0 m n y)) ?_;rintro I a ao g ⟨S,M,ag,W,rfl,b,k⟩;obtain⟨au,ay⟩:=I;dsimp only at a b k;have F:Sub h g:=b.sub;have z:=b.r;obtain⟨av,aw,L,V,ax,rfl,rfl,o,p,A,ab⟩:=opG z;try dsimp only at a
 have aq:=nD (nD (b));obtain⟨rfl,ac⟩:=sL k;refine trM a (f0b _ _ _ (C0 o p A)) ?_;rintro J a ap i ⟨T,O,ah,Y,rfl,c,l⟩;obtain⟨az,aD⟩:=J;dsimp only at a c l;have G:Sub g i:=c.sub;have C:=c.r;obtain⟨aA,aB,N,X,aC,rfl,rfl,q,s,D,ad⟩:=opG C;try dsimp only at a
 have ar:=nD (nD (c));obtain⟨rfl,ae⟩:=sL l;refine trM a (o07 _ _ _ (C0 q s D)) ?_;rintro aF a an w ⟨U,rfl,d⟩;have am:Sub i w:=d.sub;have E:=d.r;obtain⟨aG,aH,P,Z,aJ,rfl,rfl,t,u,al,af⟩:=opG E;try dsimp only at a
 have H:=nD (nD (d));cases a;exact⟨_,rfl,(nP (nI t) (nP (nI u) (New.from H (F.trans G))))⟩
def q06(h:Hp)(d:List Value)(f:B0)(o:I1.R h d f)(b:Option Addr)(e c:Nat)(g:J0)(i:K0.R h [.slice b e c] g)(r:Bool)(a:H7 f g=some r): Tr Tryz.prog 141 #[.agg d.toArray,.slice b e c] h λv h'=>v = .bool r/\h'=h:=by
 obtain⟨C,D,u,w,E,rfl,rfl,m,n,p,z⟩:=opG o;obtain⟨rfl,A⟩:=sL i;unfold H7 at a;dsimp only at a;refine wkF Tryz.f141 ?_;obtain⟨q,l,a⟩:=D0 a;obtain⟨s,t⟩:=q;try dsimp only at a
 refine Tr.val (U09 _ _ _ (C0 m n p) 0 oD _ _ _ _ i _  l) ?_;obtain⟨F,j,a⟩:=D0 a;have x:I0 s:=N0 j;obtain⟨G,k,a⟩:=D0 a;have y:I0 t:=N0 k;cases a;exact aI rfl sr
def y0d(h:Hp)(d:List Value)(g:B0)(p:I1.R h d g)(r:Bool)(a:z01 g=some r): Tr Tryz.prog 131 #[.agg d.toArray] h λv h'=>v = .bool r/\h'=h:=by
 obtain⟨M,N,x,z,O,rfl,rfl,e,f,i,J⟩:=opG p;unfold z01 at a;dsimp only at a;refine wkF Tryz.f131 ?_;refine aI kR ?_;obtain⟨w,m,a⟩:=D0 a;refine pm (.val (.bool w)) ?_ ?_;·intro F s;exact Tr.val (s00 _ _ _ (C0 e f (M0.mono s i)) _ m) r3
 obtain⟨c,n,a⟩:=D0 a;refine fS M0 c ?_ ?_;·intro G t b;refine Tr.mono (B0e _ _ _ (C0 e f (M0.mono t i)) _ (F9 n b)) ?_;rintro _ I ⟨k,L,l,rfl,j,u⟩;obtain⟨rfl,o⟩:=sL j;exact aI K7 (aI u ⟨k,l,rfl,j,o⟩)
 obtain⟨P,C,a⟩:=D0 a;refine pm (.val (iV ((c.length:Nat):Int))) ?_ ?_;·intro H T b;rintro _ ⟨y,A,rfl,Q,K⟩;exact r3
 refine pm (.val (.bool (decide (((c.length:Nat):Int)=0)))) ?_ ?_;·intro D S b;exact r3
 intro E q;cases a;exact aI rfl q
def u0j(h:Hp)(u:List Value)(A:B0)(X:I1.R h u A)(d:Int)(w:I0 d)(r:B0×Bool)(a:N00 A d=some r): Tr Tryz.prog 130 #[.agg u.toArray,iV d] h λv h'=>∃(t:List Value),v = .tuple #[.agg t.toArray,.bool r.2]/\New I1 h h' t r.1:=by
 obtain⟨aB,C,ah,al,aC,rfl,rfl,g,i,j,av⟩:=opG X;unfold N00 at a;dsimp only at a;refine wk Tryz.f130 ?_;refine trV a (c02 _ _ _ (C0 g i j)) λaO a=>?_;refine trG a (λq=>e04 _ _ _ (C0 g i j) _ w) λaP a=>?_;refine ifB a (λM a=>?_) λM a=>?_
 ·refine trM a (V7 _ _ _ (C0 g i j)) ?_;rintro ag a aM W ⟨au,aA,aq,rfl,m⟩;have aH:Sub h W:=m.sub;have D:=m.r;obtain⟨aZ,a0,a1⟩:=ag;dsimp only at a m D;obtain⟨_,_,_,_,_,_,F,G,S,T,ab⟩:=Z0 D;cases F;cases G;obtain⟨rfl,ay⟩:=sL ab;try dsimp only at a
  have af:=nD (nD (m));cases a;exact⟨_,rfl,(nP (nI S) (nP (nI T) af))⟩
 obtain⟨s,J,a⟩:=D0 a;refine eX { vars:=[7],owns:=[0] } (eX (λvs os h'=>∃ c n l,vs.tail = [iV c]/\os = [n]/\Sub h h'/\I0 c/\F2 (Wp.int.R h') n l/\r9 C d (P1 vs) c l=some s) (eX (λ_ _=>0) (aI (eX U0 ⟨_,_,_,rfl,rfl,sr,oD,(show F2 (Wp.int.R h) ([[iV d]]:LV) [d] from⟨⟨rfl,w⟩,trivial⟩),J⟩) ?_)));rintro _ n f y ⟨c,a2,l,⟨⟩,⟨⟩,k,x,e,b⟩;replace b:r9 C d f c l=some s:=b;obtain _|f:=f;·cases b
 rw[r9.eq_2]at b;refine ifB b (λK b=>?_) λK b=>?_
 ·refine ifB b (λL b=>?_) λL b=>?_;·obtain⟨aD,I,b⟩:=D0 b;refine aI (N1 I (by first|rw[fL e,fL (show F2 (Wp.int.R y) ([[iV c]]:LV) [c] from⟨⟨rfl,x⟩,trivial⟩)]|exact congrArg (·+1) (fL e))) ?_;exact C2 f ⟨_,_,_,rfl,rfl,k,(O0 _),(fA e (show F2 (Wp.int.R y) ([[iV c]]:LV) [c] from⟨⟨rfl,x⟩,trivial⟩)),b⟩
  exact C2 f ⟨_,_,_,rfl,rfl,k,(O0 _),e,b⟩
 cases b;try dsimp only[V0,Y0]at a
 refine Or.inl ?_;intro aJ U H;obtain⟨ak,ar,rfl,ac,E,az⟩:=C1.out (r:=Wp.int.toRp) H e;refine trM a (v0d _ _ _ (C0 g i (M0.mono (k.trans E) j)) _ _ _ _ ac) ?_;rintro aQ a aK z ⟨am,rfl,o⟩;have ad:Sub U z:=o.sub;have Y:=o.r;obtain⟨aR,aS,ai,ao,aU,rfl,rfl,N,O,Z,aw⟩:=opG Y;try dsimp only at a
 have aN:=nD (nD (o));refine trM a (L05 _ _ _ (C0 N O Z)) ?_;rintro aV a aL V ⟨an,rfl,p⟩;have aG:Sub z V:=p.sub;have aa:=p.r;obtain⟨aW,aX,aj,ap,aY,rfl,rfl,P,Q,aF,ax⟩:=opG aa;try dsimp only at a
 have ae:=nD (nD (p));cases a;exact⟨_,rfl,(nP (nI P) (nP (nI Q) (New.from ae ((k.trans E).trans ad))))⟩
set_option maxHeartbeats 0
def s0i(h:Hp)(w:List Value)(G:B0)(af:I1.R h w G)(r:T0)(b:T03 G=some r): Tr Tryz.prog 167 #[.agg w.toArray] h λv h'=>∃(t:Option Addr) (F u:Nat),v = .slice t F u/\New M0 h h' [.slice t F u] r:=by
 obtain⟨H,I,ap,ay,J,rfl,rfl,x,y,K,aL⟩:=opG af;unfold T03 at b;dsimp only at b;refine wk Tryz.f167 ?_;refine trM b (e07 _ _ _ (C0 x y K) 0 oD) ?_;rintro am b a2 ab ⟨ar,aS,aC,au,aU,aD,rfl,m,n,o⟩;obtain⟨a6,N⟩:=am;dsimp only at b m n;obtain⟨rfl,aN⟩:=sL m;obtain⟨rfl,aO⟩:=sL n;obtain⟨O,V,b⟩:=D0 b;obtain⟨ae,ak,P,S⟩:=Sl.cutI (r:=Wp.int.toRp) m V;refine aI ae (eX ak (aI P ?_));intro al Y _;obtain⟨aw,aG,rfl,M⟩:=S al Y;have aQ:=(sL M).2;obtain⟨s,W,b⟩:=D0 b;refine eX { vars:=[20],owns:=[0] } (eX (λvs os h'=>∃ d p i,vs.tail = [iV d]/\os = [p]/\Sub ab h'/\I0 d/\F2 (E1.R h') p i/\D8 O N H I J (P1 vs) d i=some s) (eX (λ_ _=>0) (aI (eX U0 ⟨_,_,_,rfl,rfl,sr,oD,(F2.up (r:=E1.toRp) o (show F2 (E1.R h) ([]:LV) ([]:T0) from trivial)),W⟩) ?_)));rintro _ p f aK ⟨d,a8,i,⟨⟩,⟨⟩,c,aJ,e,a⟩;replace a:D8 O N H I J f d i=some s:=a;obtain _|f:=f;·cases a
 rw[D8.eq_2]at a;refine ifB a (λX a=>?_) λX a=>?_
 ·refine ldI a (K0.mono c M) λa3 z a=>?_;refine ld a (Q1.mono c n) λa4 az L a=>?_;obtain⟨aq,aB,rfl,aM⟩:=slL L;refine ldI a L λan Z a=>?_;refine trV a (z9 _ _ _ (C0 x y (M0.mono (o.trans c) K)) _ z (i64.wrap (0-an)) (O0 _)) λao a=>?_;obtain⟨aW,T,a⟩:=D0 a;have aa:I0 ao:=N0 T;refine trM a (X09 _ _ aa _ Z _ z) ?_;rintro a5 a aZ E ⟨aA,rfl,ag,g⟩;obtain⟨j,k,l,rfl,rfl,A,C,D⟩:=D2 ag;try dsimp only at a
  obtain⟨aX,U,a⟩:=D0 a;refine aI (N1 U (by first|rw[fL (F2.up (r:=E1.toRp) g e),fL (show F2 (E1.R E) ([[iV j,iV k,iV l]]:LV) [(j,k,l)] from⟨(Z1 A C D),trivial⟩)]|exact congrArg (·+1) (fL (F2.up (r:=E1.toRp) g e)))) ?_;exact C2 f ⟨_,_,_,rfl,rfl,(c.trans g),(O0 _),(fA (F2.up (r:=E1.toRp) g e) (show F2 (E1.R E) ([[iV j,iV k,iV l]]:LV) [(j,k,l)] from⟨(Z1 A C D),trivial⟩)),a⟩
 cases a;try dsimp only[V0,Y0]at b
 refine Or.inl ?_;intro a0 ac Q;obtain⟨ax,aH,rfl,ai,aj,aR⟩:=C1.out (r:=E1.toRp) Q e;refine trM b (Z05 _ _ _ _ _ ai) ?_;rintro a7 b a1 ad ⟨av,aV,aF,rfl,q⟩;have aY:Sub ac ad:=q.sub;have ah:=q.r;obtain⟨rfl,aP⟩:=sL ah;cases b;exact⟨_,_,_,rfl,(New.from q ((o.trans c).trans aj))⟩
def Y09(h:Hp)(w:List Value)(F:B0)(P:I1.R h w F)(r:T0)(b:M01 F=some r): Tr Tryz.prog 119 #[.agg w.toArray] h λv h'=>∃(t:Option Addr) (E u:Nat),v = .slice t E u/\New M0 h h' [.slice t E u] r:=by
 obtain⟨aj,ak,S,W,G,rfl,rfl,z,A,o,ae⟩:=opG P;unfold M01 at b;dsimp only at b;refine wk Tryz.f119 ?_;refine trV b (c02 _ _ _ (C0 z A o)) λav b=>?_;refine ifB b (λO b=>?_) λO b=>?_;·intro ar ad y;obtain⟨V,aa,rfl,an,ap,ah⟩:=C1.out (r:=E1.toRp) y (show F2 (E1.R h) ([]:LV) ([]:T0) from trivial);cases b;exact⟨_,_,_,rfl,(C1.newPlain (r:=E1) y (show F2 (E1.R h) ([]:LV) ([]:T0) from trivial) (u09 _))⟩
 refine trM b (s0i _ _ _ (C0 z A o)) ?_;rintro J b au D ⟨T,ai,Y,rfl,I⟩;have p:Sub h D:=I.sub;have H:=I.r;obtain⟨rfl,af⟩:=sL H;obtain⟨s,L,b⟩:=D0 b;refine eX { vars:=[17],owns:=[0] } (eX (λvs os h'=>∃ f q g,vs.tail = [iV f]/\os = [q]/\Sub D h'/\I0 f/\F2 (E1.R h') q g/\F6 G J (P1 vs) f g=some s) (eX (λ_ _=>0) (aI (eX U0 ⟨_,_,_,rfl,rfl,sr,oD,(F2.up (r:=E1.toRp) p (show F2 (E1.R h) ([]:LV) ([]:T0) from trivial)),L⟩) ?_)));rintro _ q d C ⟨f,ay,g,⟨⟩,⟨⟩,e,ab,c,a⟩;replace a:F6 G J d f g=some s:=a;obtain _|d:=d;·cases a
 rw[F6.eq_2]at a;refine ifB a (λM a=>?_) λM a=>?_
 ·refine ld a (M0.mono (p.trans e) o) λaw X Q a=>?_;obtain⟨i,j,k,rfl,rfl,l,m,n⟩:=D2 Q;try dsimp only at a
  refine trV a (O04 _ _ _ _ _ (M0.mono e H) _ _ (Z1 l m n)) λax a=>?_;refine ifB a (λN a=>?_) λN a=>?_;·obtain⟨al,K,a⟩:=D0 a;refine aI (N1 K (by first|rw[fL c,fL (show F2 (E1.R C) ([[iV i,iV j,iV k]]:LV) [(i,j,k)] from⟨(Z1 l m n),trivial⟩)]|exact congrArg (·+1) (fL c))) ?_;exact C2 d ⟨_,_,_,rfl,rfl,e,(O0 _),(fA c (show F2 (E1.R C) ([[iV i,iV j,iV k]]:LV) [(i,j,k)] from⟨(Z1 l m n),trivial⟩)),a⟩
  exact C2 d ⟨_,_,_,rfl,rfl,e,(O0 _),c,a⟩
 cases a;try dsimp only[V0,Y0]at b
 intro aq ac x;obtain⟨U,Z,rfl,am,ao,ag⟩:=C1.out (r:=E1.toRp) x c;cases b;exact⟨_,_,_,rfl,(New.from (C1.newPlain (r:=E1) x c (u09 _)) (p.trans e))⟩
def Y0l(h:Hp)(P:List Value)(ab:B0)(aX:I1.R h P ab)(r:K1)(d:h05 ab=some r): Tr Tryz.prog 66 #[.agg P.toArray] h λv h'=>∃(J:Option Addr) (aa O:Nat),v = .slice J aa O/\Q1.R h' [.slice J aa O] r/\Sub h h':=by
 obtain⟨ca,cb,bi,bp,cc,rfl,rfl,D,E,F,bP⟩:=opG aX;unfold h05 at d;dsimp only at d;refine wk Tryz.f66 ?_;refine trV d (s00 _ _ _ (C0 D E F)) λcn d=>?_;refine ifB d (λaQ d=>?_) λaQ d=>?_;·intro ck bL aC;obtain⟨bo,bA,rfl,a5,bc,b2⟩:=C1.out (r:=K0.toRp) aC (show F2 (K0.R h) ([]:LV) ([]:K1) from trivial);cases d;exact⟨_,_,_,rfl,a5,bc⟩
 refine trM d (e07 _ _ _ (C0 D E F) 0 oD) ?_;rintro bh d cm aS ⟨bk,b7,bu,K,b8,Q,rfl,ah,q,G⟩;obtain⟨cq,z⟩:=bh;dsimp only at d ah q;obtain⟨rfl,bU⟩:=sL ah;obtain⟨rfl,bV⟩:=sL q;refine trM d (Y09 _ _ _ (C0 D E (M0.mono G F))) ?_;rintro al d cj W ⟨bj,b3,bt,rfl,ai⟩;have t:Sub aS W:=ai.sub;have ac:=ai.r;obtain⟨rfl,bQ⟩:=sL ac;obtain⟨I,aO,d⟩:=D0 d;refine eX { vars:=[21],owns:=[0] } (eX (λvs os h'=>∃ i H u,vs.tail = [iV i]/\os = [H]/\Sub W h'/\I0 i/\F2 (K0.R h') H u/\g00 al z (P1 vs) i u=some I) (eX (λ_ _=>0) (aI (eX U0 ⟨_,_,_,rfl,rfl,sr,oD,(F2.up (r:=K0.toRp) (G.trans t) (show F2 (K0.R h) ([]:LV) ([]:K1) from trivial)),aO⟩) ?_)));rintro _ H p bE ⟨i,cr,u,⟨⟩,⟨⟩,g,bB,o,b⟩;replace b:g00 al z p i u=some I:=b;obtain _|p:=p;·cases b
 rw[g00.eq_2]at b;refine ifB b (λaP b=>?_) λaP b=>?_
 ·refine ld b (M0.mono g ac) λco bq aY b=>?_;obtain⟨be,w,bf,rfl,rfl,bC,aR,bD⟩:=D2 aY;try dsimp only at b
  refine w5 18 ?_;obtain⟨j,aG,b⟩:=D0 b;obtain⟨ap,br,aw,ad⟩:=Sl.getI (r:=K0.toRp) (Q1.mono (t.trans g) q) aG oD;obtain⟨A,C,rfl,bR⟩:=slL ad;refine pm (.hel (.slice K z.length Q) be 1 0) ?_ ?_;·intro bG ce;exact aI ap r3
  refine pm (.val (.slice A j.length C)) ?_ ?_;·intro bH a6;exact eX _ (aI (U8.up a6 aw) r3)
  obtain⟨f,aH,b⟩:=D0 b;refine fS K0 f ?_ ?_;·intro X cf;have ax:[w]=f:=oJ aH;intro v k hf;obtain⟨a,c,rfl,r,e,l⟩:=C1.out (r:=Wp.int.toRp) (xs:=f) hf (show F2 (Wp.int.R X) [[iV w]] f from ax▸(show F2 (Wp.int.R X) [[iV w]] [w] from⟨⟨rfl,aR⟩,trivial⟩));exact aI ⟨rfl,rfl,rfl,[_],rfl⟩ (aI e ⟨a,c,rfl,r,l⟩)
  obtain⟨bg,aJ,b⟩:=D0 b;obtain⟨aq,bs,ay,ae⟩:=Sl.getI (r:=K0.toRp) (Q1.mono (t.trans g) q) aJ oD;obtain⟨am,ar,rfl,bS⟩:=slL ae;refine pm (.hel (.slice K z.length Q) bf 1 0) ?_ ?_;·intro bI cg;exact aI aq r3
  refine pm (.val (.slice am bg.length ar)) ?_ ?_;·intro bJ a7;exact eX _ (aI (U8.up a7 ay) r3)
  obtain⟨m,aK,b⟩:=D0 b;refine fS K0 m ?_ ?_;·intro bK a8;refine Tr.mono (c07 _ _ _ _ _ (K0.mono a8 ae) _ aK) ?_;rintro _ aU ⟨an,b5,au,rfl,aj⟩;have e:=aj.sub;have af:=aj.r;obtain⟨rfl,aV⟩:=sL af;exact aI K7 (aI e ⟨an,au,rfl,af,aV⟩)
  obtain⟨x,aL,b⟩:=D0 b;refine fS Q1 x ?_ ?_;·intro Y ba;rintro _ ⟨L,S,rfl,aZ,bW⟩;rintro _ ⟨M,T,rfl,a0,bX⟩;have az:[j,f,m]=x:=oJ aL;intro v k hf;obtain⟨a,c,rfl,r,e,l⟩:=C1.out (r:=K0.toRp) (xs:=x) hf (show F2 (K0.R Y) [[.slice A j.length C],[.slice L f.length S],[.slice M m.length T]] x from az▸(show F2 (K0.R Y) [[.slice A j.length C],[.slice L f.length S],[.slice M m.length T]] [j,f,m] from⟨(K0.mono ba ad),⟨aZ,⟨a0,trivial⟩⟩⟩));exact aI ⟨rfl,rfl,rfl,[_],rfl⟩ (aI e ⟨a,c,rfl,r,l⟩)
  obtain⟨n,aM,b⟩:=D0 b;refine fS K0 n ?_ ?_;·intro bM ch;rintro _ ⟨bl,bv,rfl,a1,bY⟩;refine Tr.mono (d07 _ _ _ _ _ a1 _ aM) ?_;rintro _ aU ⟨ao,b6,av,rfl,ak⟩;have e:=ak.sub;have ag:=ak.r;obtain⟨rfl,aW⟩:=sL ag;exact aI K7 (aI e ⟨ao,av,rfl,ag,aW⟩)
  obtain⟨y,aN,b⟩:=D0 b;refine fS Q1 y ?_ ?_;·intro Z ci;rintro _ ⟨N,U,rfl,a2,bZ⟩;have aA:[n]=y:=oJ aN;intro v k hf;obtain⟨a,c,rfl,r,e,l⟩:=C1.out (r:=K0.toRp) (xs:=y) hf (show F2 (K0.R Z) [[.slice N n.length U]] y from aA▸(show F2 (K0.R Z) [[.slice N n.length U]] [n] from⟨a2,trivial⟩));exact aI ⟨rfl,rfl,rfl,[_],rfl⟩ (aI e ⟨a,c,rfl,r,l⟩)
  intro bN s;rintro _ ⟨bm,bx,rfl,a3,b0⟩;rintro _ _;rintro _ _;rintro _ _;rintro _ _;obtain⟨bd,aB,V⟩:=Sl.rows (r:=K0.toRp) a3;refine eX bd (aI aB ?_);obtain⟨cd,aF,b⟩:=D0 b;refine aI (N1 aF (by first|rw[fL (F2.up (r:=K0.toRp) s o),fL V]|exact congrArg (·+1) (fL (F2.up (r:=K0.toRp) s o)))) ?_;exact C2 p ⟨_,_,_,rfl,rfl,(g.trans s),(O0 _),(fA (F2.up (r:=K0.toRp) s o) V),b⟩
 cases b;try dsimp only[V0,Y0]at d
 intro cl bO aD;obtain⟨bn,bz,rfl,a4,bb,b1⟩:=C1.out (r:=K0.toRp) aD o;cases d;exact⟨_,_,_,rfl,a4,(((G.trans t).trans g).trans bb)⟩
def U0f(h:Hp)(k:List Value)(o:B0)(L:I1.R h k o)(i:Option Addr)(n j:Nat)(f:K1)(u:Q1.R h [.slice i n j] f)(r:Bool)(b:a01 o f=some r): Tr Tryz.prog 67 #[.agg k.toArray,.slice i n j] h λv h'=>v = .bool r/\h'=h:=by
 obtain⟨p,q,S,W,s,rfl,rfl,l,m,t,ai⟩:=opG L;obtain⟨rfl,aj⟩:=sL u;unfold a01 at b;dsimp only at b;refine wkF Tryz.f67 ?_;refine trV b (s00 _ _ _ (C0 l m t)) λaq b=>?_;refine ifB b (λH b=>?_) λH b=>?_;·cases b;exact aI rfl sr
 obtain⟨g,G,b⟩:=D0 b;refine eX { vars:=[12] } (eX (λvs os h'=>∃ d,vs.tail = [iV d]/\os = []/\Sub h h'/\I0 d/\p7 f p q s (P1 vs) d=some g) (eX (λ_ _=>0) (aI (eX U0 ⟨_,rfl,rfl,sr,oD,G⟩) ?_)));rintro _ e ag ⟨d,⟨⟩,⟨⟩,c,ab,a⟩;replace a:p7 f p q s e d=some g:=a;obtain _|e:=e;·cases a
 rw[p7.eq_2]at a;refine ifB a (λJ a=>?_) λJ a=>?_
 ·refine ld a (Q1.mono c u) λar X w a=>?_;obtain⟨T,Y,rfl,ak⟩:=slL w;refine w4 ?_;obtain⟨Q,F,a⟩:=D0 a;refine fS K0 Q ?_ ?_;·intro ac N;refine Tr.mono (s05 _ _ _ _ _ (K0.mono N w) _ F) ?_;rintro _ ah ⟨C,an,D,rfl,z⟩;have P:=z.sub;have x:=z.r;obtain⟨rfl,K⟩:=sL x;exact aI K7 (aI P ⟨C,D,rfl,x,K⟩)
  obtain⟨A,E,a⟩:=D0 a;refine pm (.val (.bool A)) ?_ ?_;·intro ad O;rintro _ ⟨U,Z,rfl,M,al⟩;exact Tr.val (q06 _ _ _ (C0 l m (M0.mono (c.trans O) t)) _ _ _ _ M _ E) r3
  refine pm (.val (.bool (!A))) ?_ ?_;·intro ae ap;exact r3
  intro af y;rintro _ ⟨V,aa,rfl,ao,am⟩;refine ifB a (λI a=>?_) λI a=>?_
  ·cases a;try dsimp only[Y2,N3]at b
   cases b;exact aI rfl (c.trans y)
  exact C2 e ⟨_,rfl,rfl,(c.trans y),(O0 _),a⟩
 cases a;try dsimp only[V0,Y0]at b
 cases b;exact aI rfl c
def Z09(h:Hp)(c:Int)(o:I0 c)(e:Option Addr)(j f:Nat)(k:K1)(l:Q1.R h [.slice e j f] k)(r:B0×Bool)(a:R01 c k=some r): Tr Tryz.prog 47 #[iV c,.slice e j f] h λv h'=>∃(g:List Value),v = .tuple #[.agg g.toArray,.bool r.2]/\New I1 h h' g r.1:=by
 obtain⟨rfl,I⟩:=sL l;unfold R01 at a;refine wk Tryz.f47 ?_;refine trM a (s0j _ _ o _ _ _ _ l) ?_;rintro A a N i ⟨E,rfl,b⟩;obtain⟨Q,V⟩:=A;dsimp only at a b;have m:Sub h i:=b.sub;have w:=b.r;obtain⟨S,T,C,G,U,rfl,rfl,p,q,x,J⟩:=opG w;try dsimp only at a
 have P:=nD (nD (b));refine ifB a (λn a=>?_) λn a=>?_;·cases a;exact⟨_,rfl,(nP (nI (show I0 (0) from(oD))) (nP (nI (show I0 (0) from(oD))) ((New.nilSlice (r:=E1)).mono m)))⟩
 refine trM a (L05 _ _ _ (C0 p q x)) ?_;rintro W a O u ⟨F,rfl,d⟩;have M:Sub i u:=d.sub;have y:=d.r;obtain⟨X,Y,D,H,Z,rfl,rfl,s,t,L,K⟩:=opG y;try dsimp only at a
 have z:=nD (nD (d));cases a;exact⟨_,rfl,(nP (nI s) (nP (nI t) (New.from z m)))⟩
def k02(h:Hp)(f:List Value)(j:B0)(u:I1.R h f j)(d:Option Addr)(i e:Nat)(k:K1)(m:Q1.R h [.slice d i e] k)(r:Bool)(a:I6 j k=some r): Tr Tryz.prog 63 #[.agg f.toArray,.slice d i e] h λv h'=>v = .bool r/\h'=h:=by
 obtain⟨I,J,z,C,K,rfl,rfl,b,g,l,F⟩:=opG u;obtain⟨rfl,G⟩:=sL m;unfold I6 at a;dsimp only at a;refine wkF Tryz.f63 ?_;refine trV a (s00 _ _ _ (C0 b g l)) λM a=>?_;refine ifB a (λo a=>?_) λo a=>?_;·cases a;exact aI rfl sr
 refine trM a (Z09 _ _ b _ _ _ _ m) ?_;rintro y a L t ⟨D,rfl,c⟩;obtain⟨N,S⟩:=y;dsimp only at a c;have n:Sub h t:=c.sub;have w:=c.r;obtain⟨O,P,A,E,Q,rfl,rfl,p,s,x,H⟩:=opG w;try dsimp only at a
 refine trG a (λq=>v04 _ _ _ (C0 b g (M0.mono n l)) _ _ (C0 p s x)) λT a=>?_;cases a;exact aI rfl n
def m08(h:Hp)(e:List Value)(j:B0)(x:I1.R h e j)(c:Option Addr)(i d:Nat)(k:J0)(m:K0.R h [.slice c i d] k)(r:Bool)(a:Z01 j k=some r): Tr Tryz.prog 68 #[.agg e.toArray,.slice c i d] h λv h'=>v = .bool r/\h'=h:=by
 obtain⟨W,X,I,K,Y,rfl,rfl,f,g,l,S⟩:=opG x;obtain⟨rfl,T⟩:=sL m;unfold Z01 at a;dsimp only at a;refine wkF Tryz.f68 ?_;refine w4 ?_;obtain⟨F,s,a⟩:=D0 a;refine pm (.val (.bool F)) ?_ ?_;·intro N A;exact Tr.val (s00 _ _ _ (C0 f g (M0.mono A l)) _ s) r3
 obtain⟨G,t,a⟩:=D0 a;refine fS K0 G ?_ ?_;·intro O C b;refine Tr.mono (s05 _ _ _ _ _ (K0.mono C m) _ (F9 t b)) ?_;rintro _ Q ⟨p,V,q,rfl,o⟩;have E:=o.sub;have n:=o.r;obtain⟨rfl,w⟩:=sL n;exact aI K7 (aI E ⟨p,q,rfl,n,w⟩)
 obtain⟨H,u,a⟩:=D0 a;refine pm (.val (.bool H)) ?_ ?_;·intro P D b;rintro _ ⟨J,L,rfl,y,U⟩;exact Tr.val (q06 _ _ _ (C0 f g (M0.mono D l)) _ _ _ _ y _ (F9 u b)) r3
 intro M z;cases a;exact aI rfl z
def c0f(h:Hp)(G:List Value)(N:B0)(ay:I1.R h G N)(A:Option Addr)(M E:Nat)(O:J0)(x:K0.R h [.slice A M E] O)(r:B0×Int×Bool)(b:u03 N O=some r): Tr Tryz.prog 129 #[.agg G.toArray,.slice A M E] h λv h'=>∃(F:List Value),v = .tuple #[.agg F.toArray,iV r.2.1,.bool r.2.2]/\I1.R h' F r.1/\Sub h h':=by
 obtain⟨bm,bn,aU,aZ,bo,rfl,rfl,u,p,w,bg⟩:=opG ay;obtain⟨rfl,bh⟩:=sL x;unfold u03 at b;dsimp only at b;refine wk Tryz.f129 ?_;obtain⟨aM,Z,b⟩:=D0 b;obtain⟨aP,aQ⟩:=aM;try dsimp only at b
 refine Tr.val (U09 _ _ _ (C0 u p w) 0 oD _ _ _ _ x _  Z) ?_;obtain⟨bp,X,b⟩:=D0 b;have ag:I0 aP:=N0 X;obtain⟨bq,Y,b⟩:=D0 b;have a6:I0 aQ:=N0 Y;refine ifB b (λad b=>?_) λad b=>?_;·cases b;exact⟨_,rfl,(C0 u p w),sr⟩
 refine trM b (r0i _ _ _ (C0 u p w)) ?_;rintro aR b bv L ⟨a1,rfl,y⟩;obtain⟨bx,bC⟩:=aR;dsimp only at b y;have s:Sub h L:=y.sub;have aA:=y.r;obtain⟨bz,bA,aV,a2,bB,rfl,rfl,ah,ai,aB,bi⟩:=opG aA;try dsimp only at b
 refine ifB b (λae b=>?_) λae b=>?_;·cases b;exact⟨_,rfl,(C0 oD oD (d02 E1 L)),s⟩
 refine w5 10 ?_;obtain⟨aS,ab,b⟩:=D0 b;refine fS K0 aS ?_ ?_;·intro ba aJ;obtain⟨ax,aL,U,W⟩:=Sl.cutI (r:=Wp.int.toRp) (K0.mono (s.trans aJ) x) ab;refine aI ax (eX aL (aI U ?_));intro v af _;obtain⟨a,c,rfl,r⟩:=W v af;exact aI K7 (aI sr ⟨a,c,rfl,r,(sL r).2⟩)
 obtain⟨aN,aa,b⟩:=D0 b;obtain⟨aO,z⟩:=aN;try dsimp only at b
 obtain⟨k,l,g⟩:=aO;try dsimp only at b
 refine Or.inr (eX (λv i=>∃(j:Value),v = .tuple #[j,.bool z]/\(λv i=>∃(d:Option Addr) (f:Nat),v = .agg #[iV k,iV l,.slice d g.length f]/\I0 k/\I0 l/\M0.R i [.slice d g.length f] g/\g.length<=9223372036854775807) j i) (aI (λv J K m q=>by obtain⟨j,e,t⟩:=q;exact⟨j,e,(by obtain⟨d,f,e,n,o,f2,f3⟩:=t;exact⟨d,f,e,n,o,M0.mono m f2,f3⟩)⟩) (aI ?_ ?_)));·intro bb aK;rintro _ ⟨aW,a3,rfl,aD,bj⟩;refine Tr.mono (w0d _ _ _ (C0 ah ai (M0.mono aK aB)) _ ag _ _ _ _ aD _ p _ aa) ?_;rintro _ bf ⟨a0,rfl,Q⟩;have m:=Q.sub;have az:=Q.r;obtain⟨bD,bE,C,H,bG,rfl,V,aj,ak,aC,au⟩:=opG az;cases V;exact aI K7 (aI m ⟨(.agg #[iV k,iV l,.slice C g.length H]),rfl,⟨C,H,rfl,aj,ak,aC,au⟩⟩)
 refine Or.inr (eX (λv i=>∃(j:Value),v = .tuple #[j,.bool z]/\(λv i=>∃(d:Option Addr) (f:Nat),v = .agg #[iV k,iV l,.slice d g.length f]/\I0 k/\I0 l/\M0.R i [.slice d g.length f] g/\g.length<=9223372036854775807) j i) (aI (λv J K m q=>by obtain⟨j,e,t⟩:=q;exact⟨j,e,(by obtain⟨d,f,e,n,o,f2,f3⟩:=t;exact⟨d,f,e,n,o,M0.mono m f2,f3⟩)⟩) (aI ?_ ?_)));·intro bc bs;rintro _ ⟨_,rfl,⟨D,I,rfl,al,am,aF,av⟩⟩;exact aI K7 (aI sr ⟨(.agg #[iV k,iV l,.slice D g.length I]),rfl,⟨D,I,rfl,al,am,aF,av⟩⟩)
 refine Or.inr (eX (λv i=>∃(d:Option Addr) (f:Nat),v = .agg #[iV k,iV l,.slice d g.length f]/\I0 k/\I0 l/\M0.R i [.slice d g.length f] g/\g.length<=9223372036854775807) (aI (λv J K m q=>by obtain⟨d,f,e,n,o,f2,f3⟩:=q;exact⟨d,f,e,n,o,M0.mono m f2,f3⟩) (aI ?_ ?_)));·intro bd bt;rintro _ ⟨_,rfl,⟨S,T,rfl,an,ao,aG,aw⟩⟩;exact aI K7 (aI sr ⟨S,T,rfl,an,ao,aG,aw⟩)
 refine pm (.val (.bool z)) ?_ ?_;·intro be bu;rintro _ ⟨_,rfl,⟨aX,a4,rfl,a7,a8,br,bk⟩⟩;exact r3
 intro ar P;rintro _ ⟨aY,a5,rfl,ap,aq,aH,bl⟩;rintro _ _;rintro _ _;rintro _ _;refine ifB b (λac b=>?_) λac b=>?_;·cases b;exact⟨_,rfl,(C0 oD oD (d02 E1 ar)),(s.trans P)⟩
 cases b;exact⟨_,rfl,(C0 ap aq aH),(s.trans P)⟩
def a06(h:Hp)(i:List Value)(l:B0)(E:I1.R h i l)(e:Option Addr)(k f:Nat)(m:J0)(d:K0.R h [.slice e k f] m)(r:B0×Bool)(a:U4 l m=some r): Tr Tryz.prog 55 #[.agg i.toArray,.slice e k f] h λv h'=>∃(g:List Value),v = .tuple #[.agg g.toArray,.bool r.2]/\New I1 h h' g r.1:=by
 obtain⟨Y,Z,L,O,aa,rfl,rfl,c,j,n,U⟩:=opG E;obtain⟨rfl,V⟩:=sL d;unfold U4 at a;dsimp only at a;refine wk Tryz.f55 ?_;refine trV a (s00 _ _ _ (C0 c j n)) λag a=>?_;refine trG a (λq=>t02 _ _ c _ _ _ _ d) λah a=>?_;refine ifB a (λt a=>?_) λt a=>?_;·cases a;exact⟨_,rfl,(nP (nI (show I0 (0) from(oD))) (nP (nI (show I0 (0) from(oD))) ((New.nilSlice (r:=E1)).mono sr)))⟩
 refine trM a (c0f _ _ _ (C0 c j n) _ _ _ _ d) ?_;rintro I a af D ⟨P,rfl,o,p⟩;obtain⟨ai,J,am⟩:=I;dsimp only at a o;obtain⟨aj,ak,M,S,al,rfl,rfl,w,x,F,W⟩:=opG o;try dsimp only at a
 obtain⟨ab,s,a⟩:=D0 a;have y:I0 J:=N0 s;refine ifB a (λu a=>?_) λu a=>?_;·cases a;exact⟨_,rfl,(nP (nI (show I0 (0) from(oD))) (nP (nI (show I0 (0) from(oD))) ((New.nilSlice (r:=E1)).mono p)))⟩
 refine trM a (u0j _ _ _ (C0 w x F) _ y) ?_;rintro K a ae C ⟨Q,rfl,b⟩;obtain⟨an,ar⟩:=K;dsimp only at a b;have ad:Sub D C:=b.sub;have G:=b.r;obtain⟨ao,ap,N,T,aq,rfl,rfl,z,A,ac,X⟩:=opG G;try dsimp only at a
 have H:=nD (nD (b));cases a;exact⟨_,rfl,(nP (nI z) (nP (nI A) (New.from H p)))⟩
def d0f(h:Hp)(b:List Value)(c:B0)(g:I1.R h b c)(r:Int)(a:v03 c=some r): Tr Tryz.prog 56 #[.agg b.toArray] h λv h'=>v=iV r/\h'=h:=by
 obtain⟨m,n,j,k,o,rfl,rfl,e,f,i,l⟩:=opG g;unfold v03 at a;dsimp only at a;refine wkF Tryz.f56 ?_;refine trV a (s00 _ _ _ (C0 e f i)) λp a=>?_;refine ifB a (λd a=>?_) λd a=>?_;·cases a;exact aI rfl sr
 cases a;exact aI rfl sr
def z0d(h:Hp)(b:List Value)(c:B0)(g:I1.R h b c)(r:Int)(a:V03 c=some r): Tr Tryz.prog 57 #[.agg b.toArray] h λv h'=>v=iV r/\h'=h:=by
 obtain⟨m,n,j,k,o,rfl,rfl,e,f,i,l⟩:=opG g;unfold V03 at a;dsimp only at a;refine wkF Tryz.f57 ?_;refine trV a (y0d _ _ _ (C0 e f i)) λp a=>?_;refine ifB a (λd a=>?_) λd a=>?_;·cases a;exact aI rfl sr
 cases a;exact aI rfl sr
def a0a(h:Hp)(C:List Value)(I:L2)(aK:J5.R h C I)(r:Bool)(a:w9 I=some r): Tr Tryz.prog 10 #[.agg C.toArray] h λv h'=>v = .bool r/\h'=h:=by
 obtain⟨b7,b8,bc,bZ,bl,ca,bd,b0,bm,cb,be,b1,bn,cc,cd,ce,bf,b2,bo,cf,cg,rfl,rfl,bv,H,m,p,J,i,j,f,bx⟩:=B7 aK;obtain⟨rfl,bP⟩:=sL m;obtain⟨rfl,bQ⟩:=sL p;obtain⟨rfl,bR⟩:=sL J;obtain⟨rfl,bS⟩:=sL f;unfold w9 at a;dsimp only at a;refine wkF Tryz.f10 ?_;refine trV a (j08 _ _ H _ _ _ _ m) λcn a=>?_;refine trG a (λq=>t02 _ _ H _ _ _ _ p) λco a=>?_;refine trG a (λq=>s00 _ _ _ (C0 i j f)) λcu a=>?_;refine ifB a (λao a=>?_) λao a=>?_;·cases a;exact aI rfl sr
 refine ifB a (λaq a=>?_) λaq a=>?_
 ·refine w4 ?_;obtain⟨ba,aj,a⟩:=D0 a;refine pm (.val (.bool ba)) ?_ ?_;·intro bO O;exact Tr.val (k02 _ _ _ (C0 i j (M0.mono O f)) _ _ _ _ (Q1.mono O m) _ aj) r3
  obtain⟨bb,ak,a⟩:=D0 a;refine fS Q1 bb ?_ ?_;·intro bD aU u;refine Tr.mono (Y0l _ _ _ (C0 i j (M0.mono aU f)) _ (F9 ak u)) ?_;rintro _ x ⟨U,b6,Y,rfl,M,g⟩;obtain⟨rfl,aF⟩:=sL M;exact aI K7 (aI g ⟨U,Y,rfl,M,aF⟩)
  obtain⟨a0,ad,a⟩:=D0 a;refine fS K0 a0 ?_ ?_;·intro bE aV u;rintro _ ⟨bg,bq,rfl,aN,bU⟩;refine Tr.mono (v0j _ _ _ _ _ aN _ _ _ _ (K0.mono aV J) _ (F9 ad u)) ?_;rintro _ x ⟨S,b3,W,rfl,K,g⟩;obtain⟨rfl,aC⟩:=sL K;exact aI K7 (aI g ⟨S,W,rfl,K,aC⟩)
  obtain⟨a1,ae,a⟩:=D0 a;refine pm (.val (.bool a1)) ?_ ?_;·intro bG aW u;rintro _ ⟨bh,br,rfl,aO,bV⟩;exact Tr.val (T04 _ _ _ _ _ aO _ _ _ _ (K0.mono aW p) _ (F9 ae u)) r3
  intro bH aX;cases a;exact aI rfl aX
 refine ifB a (λal a=>?_) λal a=>?_;·refine trV a (U0f _ _ _ (C0 i j f) _ _ _ _ m) λcq a=>?_;refine trG a (λq=>m08 _ _ _ (C0 i j f) _ _ _ _ p) λcr a=>?_;cases a;exact aI rfl sr
 refine ifB a (λam a=>?_) λam a=>?_;·refine trV a (k02 _ _ _ (C0 i j f) _ _ _ _ m) λcs a=>?_;refine trG a (λq=>m08 _ _ _ (C0 i j f) _ _ _ _ p) λct a=>?_;cases a;exact aI rfl sr
 refine ifB a (λan a=>?_) λan a=>?_
 ·refine w5 10 ?_;obtain⟨a2,af,a⟩:=D0 a;refine fS K0 a2 ?_ ?_;·intro bI aY;refine Tr.mono (c07 _ _ _ _ _ (K0.mono aY p) _ af) ?_;rintro _ x ⟨T,b5,X,rfl,P⟩;have g:=P.sub;have L:=P.r;obtain⟨rfl,aD⟩:=sL L;exact aI K7 (aI g ⟨T,X,rfl,L,aD⟩)
  obtain⟨a3,ag,a⟩:=D0 a;obtain⟨a4,y⟩:=a3;try dsimp only at a
  obtain⟨n,o,d⟩:=a4;try dsimp only at a
  refine Or.inr (eX (λv k=>∃(l:Value),v = .tuple #[l,.bool y]/\(λv k=>∃(b:Option Addr) (c:Nat),v = .agg #[iV n,iV o,.slice b d.length c]/\I0 n/\I0 o/\M0.R k [.slice b d.length c] d/\d.length<=9223372036854775807) l k) (aI (λv F G g q=>by obtain⟨l,e,w⟩:=q;exact⟨l,e,(by obtain⟨b,c,e,s,t,f2,f3⟩:=w;exact⟨b,c,e,s,t,M0.mono g f2,f3⟩)⟩) (aI ?_ ?_)));·intro bJ aZ;rintro _ ⟨bi,bs,rfl,aP,bW⟩;refine Tr.mono (a06 _ _ _ (C0 i j (M0.mono aZ f)) _ _ _ _ aP _ ag) ?_;rintro _ x ⟨bp,rfl,Q⟩;have g:=Q.sub;have aL:=Q.r;obtain⟨cw,cx,z,D,cy,rfl,aa,au,av,aM,aG⟩:=opG aL;cases aa;exact aI K7 (aI g ⟨(.agg #[iV n,iV o,.slice z d.length D]),rfl,⟨z,D,rfl,au,av,aM,aG⟩⟩)
  refine Or.inr (eX (λv k=>∃(l:Value),v = .tuple #[l,.bool y]/\(λv k=>∃(b:Option Addr) (c:Nat),v = .agg #[iV n,iV o,.slice b d.length c]/\I0 n/\I0 o/\M0.R k [.slice b d.length c] d/\d.length<=9223372036854775807) l k) (aI (λv F G g q=>by obtain⟨l,e,w⟩:=q;exact⟨l,e,(by obtain⟨b,c,e,s,t,f2,f3⟩:=w;exact⟨b,c,e,s,t,M0.mono g f2,f3⟩)⟩) (aI ?_ ?_)));·intro bK ck;rintro _ ⟨_,rfl,⟨A,E,rfl,aw,ax,aQ,aH⟩⟩;exact aI K7 (aI sr ⟨(.agg #[iV n,iV o,.slice A d.length E]),rfl,⟨A,E,rfl,aw,ax,aQ,aH⟩⟩)
  refine Or.inr (eX (λv k=>∃(b:Option Addr) (c:Nat),v = .agg #[iV n,iV o,.slice b d.length c]/\I0 n/\I0 o/\M0.R k [.slice b d.length c] d/\d.length<=9223372036854775807) (aI (λv F G g q=>by obtain⟨b,c,e,s,t,f2,f3⟩:=q;exact⟨b,c,e,s,t,M0.mono g f2,f3⟩) (aI ?_ ?_)));·intro bL cl;rintro _ ⟨_,rfl,⟨V,Z,rfl,ay,az,aR,aJ⟩⟩;exact aI K7 (aI sr ⟨V,Z,rfl,ay,az,aR,aJ⟩)
  refine pm (.val (.bool y)) ?_ ?_;·intro bM cm;rintro _ ⟨_,rfl,⟨bj,bt,rfl,bB,bC,cj,bX⟩⟩;exact r3
  intro bN N;rintro _ ⟨bk,bu,rfl,aA,aB,aS,bY⟩;rintro _ _;rintro _ _;rintro _ _;refine trG a (λq=>k02 _ _ _ (C0 aA aB aS) _ _ _ _ (Q1.mono N m)) λcv a=>?_;cases a;exact aI rfl N
 refine ifB a (λap a=>?_) λap a=>?_;·refine w1 ?_;obtain⟨a5,ah,a⟩:=D0 a;refine eX (.bool a5) (aI (k02 _ _ _ (C0 i j f) _ _ _ _ m _  ah) ?_);refine trG a (λq=>d0f _ _ _ (C0 i j f)) λa6 a=>?_;obtain⟨ch,ab,a⟩:=D0 a;have bz:I0 a6:=N0 ab;cases a;exact aI rfl sr
 refine ifB a (λar a=>?_) λar a=>?_;·refine w1 ?_;obtain⟨a7,ai,a⟩:=D0 a;refine eX (.bool a7) (aI (k02 _ _ _ (C0 i j f) _ _ _ _ m _  ai) ?_);refine trG a (λq=>z0d _ _ _ (C0 i j f)) λa8 a=>?_;obtain⟨ci,ac,a⟩:=D0 a;have bA:I0 a8:=N0 ac;cases a;exact aI rfl sr
 cases a;exact aI rfl sr
theorem v0i(h:Hp)(q:Option Addr)(H s:Nat)(j:K1)(I:Q1.R h [.slice q H s] j)(r:K1)(e:X03 j=some r): Tr Tryz.prog 49 #[.slice q H s] h λv h'=>∃(C:Option Addr) (G D:Nat),v = .slice C G D/\New Q1 h h' [.slice C G D] r:=by
 obtain⟨rfl,ad⟩:=Sl.len I;unfold X03 at e;refine V4 (args:=[.slice q j.length s]) (fn:=Tryz.f49) rfl ?_;obtain⟨aj,M,e⟩:=D0 e;refine aI (N0 M) ?_;obtain⟨A,O,e⟩:=D0 e;refine eX { vars:=[11],boxes:=[],owns:=[0],fuel:=true } (eX (λvs os h'=>∃ f l d,vs.tail = [.int .i64 f]/\os = [l]/\Sub h h'/\I0 f/\F2 (K0.R h') l d/\(∃ Bs,F3 (K0.W h') l d Bs/\g6 h Bs.flatten)/\E8 j (P1 vs) f d=some A) (eX (λ_ _=>0) (aI (eX U0 ⟨0,(List.replicate (0:Int).toNat ([.slice none 0 0]:List Value)),(List.replicate (0:Int).toNat ([]:J0)),rfl,rfl,(Sub.refl _),(by decide),(F2.rep (p:=K0.R h) (a:=[.slice none 0 0]) (b:=[]) (d02 Wp.int h) ((0:Int).toNat)),⟨_,(show F3 (K0.W h) (List.replicate (0:Int).toNat ([.slice none 0 0]:List Value)) (List.replicate (0:Int).toNat ([]:J0)) [] from trivial),(g6.nil h)⟩,O⟩) ?_)));rintro _ l n S ⟨f,ap,d,⟨⟩,⟨⟩,o,ac,m,⟨Z,y,F⟩,c⟩;replace c:E8 j n f d=some A:=c;obtain _|n:=n;·cases c
 rw[E8.eq_2]at c;refine ifB c (λP c=>?_) λP c=>?_;·refine ld c (Q1.mono o I) λao aa w c=>?_;obtain⟨Y,ah,ab,rfl⟩:=Wp.slice_cell w;obtain⟨rfl,ae⟩:=Sl.len w;obtain⟨g,i,c⟩:=D0 c;refine Tr.mono (l08 _ _ _ _ _ w _  i) ?_;rintro an u ⟨i,ai,t,rfl,z⟩;have k:Sub S u:=z.sub;have x:=z.r;obtain⟨rfl,af⟩:=Sl.len x;obtain⟨ak,N,c⟩:=D0 c;refine aI (N1 N (by first|rw[F2.length (F2.up (r:=K0.toRp) k m),F2.length (show F2 (K0.R u) ([[.slice (some ⟨i,0,none⟩) g.length t]]:List (List Value)) [g] from⟨x,trivial⟩)]|exact congrArg (·+1) (F2.length (F2.up (r:=K0.toRp) k m)))) ?_;obtain⟨X,V,L,_⟩:=z;exact C2 n ⟨(IntKind.i64.wrap (f+1)),(l++([[.slice (some ⟨i,0,none⟩) g.length t]]:List (List Value))),(d ++ [g]),rfl,rfl,(o.trans k),(O0 _),(F2.append (F2.up (r:=K0.toRp) k m) (show F2 (K0.R u) ([[.slice (some ⟨i,0,none⟩) g.length t]]:List (List Value)) [g] from⟨x,trivial⟩)),⟨_,(F3.snoc V (R0m y k)),(r0f y o F L)⟩,c⟩
 obtain rfl:=oJ c;try dsimp only[V0,Y0]at e
 intro U Q E;have T:New (Wp.slice K0) h Q [U] d:=(C1.fresh (r:=K0) E y o F);obtain⟨J,K,rfl,al,am,ag⟩:=C1.out (r:=K0.toRp) E m;obtain rfl:=oJ e;exact⟨J,d.length,K,rfl,T⟩
def Q7(h:Hp)(b:Nat)(c:Value)(f:TypeId)(e:List Int)(g:Int×Int)(d:e02 h b c e g)(i:Int)(S:I0 i)(r:Int×(Int×Int))(a:E4 e g i=some r): Tr Tryz.prog 91 #[ptr b 0,iV i] (h.set b (t07 c g f)) λv h'=>v=iV r.1/\e02 h b c e r.2/\h'=h.set b (t07 c r.2 f):=by
 unfold E4 at a;refine Tr.forgetC (V4 (args:=[ptr b 0,iV i]) (fn:=Tryz.f91) rfl ?_);refine ifB a (λD a=>?_) λD a=>?_;·cases a;exact⟨rfl,d.back d,Sub.setB d.no sr⟩
 refine ifB a (λE a=>?_) λE a=>?_
 ·obtain⟨N,A,a⟩:=D0 a;obtain⟨O,ag⟩:=N;try dsimp only at a
  refine Tr.mono (b06 _ b c f e g d _ A) ?_;rintro _ _ ⟨rfl,n,rfl⟩;obtain⟨ad,u,a⟩:=D0 a;have W:I0 O:=N0 u;obtain⟨ae,w,a⟩:=D0 a;refine aI (N0 w) ?_;cases a;exact⟨rfl,d.back n,Sub.setB d.no sr⟩
 obtain⟨P,C,a⟩:=D0 a;obtain⟨Q,R⟩:=P;try dsimp only at a
 refine Tr.mono (b06 _ b c f e g d _ C) ?_;rintro _ _ ⟨rfl,j,rfl⟩;obtain⟨Y,o,a⟩:=D0 a;have X:I0 Q:=N0 o;obtain⟨F,x,a⟩:=D0 a;obtain⟨G,H⟩:=F;try dsimp only at a
 refine Tr.mono (b06 _ b c f e R j _ x) ?_;rintro _ _ ⟨rfl,k,rfl⟩;obtain⟨Z,p,a⟩:=D0 a;have T:I0 G:=N0 p;obtain⟨I,y,a⟩:=D0 a;obtain⟨J,K⟩:=I;try dsimp only at a
 refine Tr.mono (b06 _ b c f e H k _ y) ?_;rintro _ _ ⟨rfl,l,rfl⟩;obtain⟨aa,q,a⟩:=D0 a;have U:I0 J:=N0 q;obtain⟨L,z,a⟩:=D0 a;obtain⟨M,af⟩:=L;try dsimp only at a
 refine Tr.mono (b06 _ b c f e K l _ z) ?_;rintro _ _ ⟨rfl,m,rfl⟩;obtain⟨ab,s,a⟩:=D0 a;have V:I0 M:=N0 s;obtain⟨ac,t,a⟩:=D0 a;refine aI (N0 t) ?_;cases a;exact⟨rfl,d.back m,Sub.setB d.no sr⟩
def y03(h:Hp)(b:Nat)(c:Value)(i:TypeId)(d:List Int)(e:Int×Int)(g:e02 h b c d e)(f:Int)(m:I0 f)(r:Bool×(Int×Int))(a:G9 d e f=some r): Tr Tryz.prog 89 #[ptr b 0,iV f] (h.set b (t07 c e i)) λv h'=>v = .bool r.1/\e02 h b c d r.2/\h'=h.set b (t07 c r.2 i):=by
 unfold G9 at a;refine Tr.forgetC (V4 (args:=[ptr b 0,iV f]) (fn:=Tryz.f89) rfl ?_);obtain⟨n,l,a⟩:=D0 a;obtain⟨o,s⟩:=n;try dsimp only at a
 refine Tr.mono (Q7 _ b c i d e g _ m _ l) ?_;rintro _ _ ⟨rfl,j,rfl⟩;obtain⟨q,k,a⟩:=D0 a;have p:I0 o:=N0 k;cases a;exact⟨rfl,g.back j,Sub.setB g.no sr⟩
def h0b(h:Hp)(b:Nat)(c:Value)(k:TypeId)(d:List Int)(e:Int×Int)(g:e02 h b c d e)(f:Option Addr)(m i:Nat)(j:J0)(n:K0.R h [.slice f m i] j)(r:Int×(Int×Int))(a:I03 d e j=some r): Tr Tryz.prog 111 #[ptr b 0,.slice f m i] (h.set b (t07 c e k)) λv h'=>v=iV r.1/\e02 h b c d r.2/\h'=h.set b (t07 c r.2 k):=by
 obtain⟨rfl,u⟩:=sL n;unfold I03 at a;refine Tr.forgetC (V4 (args:=[ptr b 0,.slice f j.length i]) (fn:=Tryz.f111) rfl ?_);obtain⟨x,s,a⟩:=D0 a;obtain⟨y,E⟩:=x;try dsimp only at a
 refine Tr.mono (Q7 _ b c k d e g _ (Y0t u) _ s) ?_;rintro _ _ ⟨rfl,l,rfl⟩;obtain⟨D,q,a⟩:=D0 a;have A:I0 y:=N0 q;obtain⟨F,t,a⟩:=D0 a;obtain⟨o,z,p,w⟩:=Sl.getI (r:=Wp.int.toRp) n t oD;refine aI o ?_;obtain⟨rfl,C⟩:=w;refine eX _ (aI (U8.up (Sub.set l.no) p) ?_);cases a;exact⟨rfl,g.back l,Sub.setB g.no sr⟩
end Go.Proofs.YthkpbcnhdhfifaaGreat
