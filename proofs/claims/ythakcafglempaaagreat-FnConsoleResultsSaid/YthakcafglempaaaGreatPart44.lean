/- Texts of the claim, joined: The walks of batch h3 and others. -/
import Derived.Test.YthakcafglempaaaGreatH53
import Derived.Test.YthakcafglempaaaGreatPart27
import Derived.Test.YthakcafglempaaaGreatPart25
import Derived.Test.YthakcafglempaaaGreatChecked
import Derived.Test.YthakcafglempaaaGreatH35
import Derived.Test.YthakcafglempaaaGreatPart39
import Derived.Test.YthakcafglempaaaGreatPart41
import Derived.Test.YthakcafglempaaaGreatPart42
import Derived.Test.YthakcafglempaaaGreatSE
import Derived.Test.YthakcafglempaaaGreatPart30
import Derived.Test.YthakcafglempaaaGreatH41
import Derived.Test.YthakcafglempaaaGreatPart43
import Derived.Test.YthakcafglempaaaGreatPart23
import Derived.Test.YthakcafglempaaaGreatH36
import Derived.Test.YthakcafglempaaaGreatPart24
namespace Go.Proofs.YthakcafglempaaaGreat
set_option linter.all false
open Go.H
open IntKind (i64)
set_option maxRecDepth 10000
def q09(h:Hp)(b:Int)(e:H0 b)(c:Int)(i:H0 c)(p2:Int)(f:H0 p2)(r:O0)(a:u03 b c p2=some r): Tr Tryz.prog 179 #[iV b,iV c,iV p2] h λv h'=>∃(d:List Value),v = .agg d.toArray/\C1.R h' d r/\Sub h h':=by
 unfold u03 at a;refine wk Tryz.f179 ?_;refine ifB a (λg a=>?_) λg a=>?_;·cases a;exact⟨_,rfl,(N1 f (M0 _) e),sr⟩
 cases a;exact⟨_,rfl,(N1 e i f),sr⟩
def y01(h:Hp)(l:Option Addr)(o m:Nat)(e:T0)(q:N0.R h [.slice l o m] e)(n:List Value)(p:O0)(w:C1.R h n p)(r:Int)(b:O2 e p=some r): Tr Tryz.prog 178 #[.slice l o m,.agg n.toArray] h λv h'=>v=iV r/\h'=h:=by
 obtain⟨rfl,L⟩:=sL q;obtain⟨g,i,j,rfl,rfl,D,E,F⟩:=Q1 w;unfold O2 at b;dsimp only at b;refine wkF Tryz.f178 ?_;obtain⟨k,s,b⟩:=B0 b;refine eX { vars:=[8] } (eX (λvs os h'=>∃ c,vs.tail = [iV c]/\os = []/\Sub h h'/\H0 c/\L1 e g i j (E1 vs) c=some k) (eX (λ_ _=>0) (aI (eX P0 ⟨_,rfl,rfl,sr,oD,s⟩) ?_)));rintro _ d K ⟨c,⟨⟩,⟨⟩,f,G,a⟩;replace a:L1 e g i j d c=some k:=a;obtain _|d:=d;·cases a
 rw[L1.eq_2]at a;refine ifB a (λt a=>?_) λt a=>?_
 ·refine w1 ?_;refine ld a (N0.mono f q) λM C x a=>?_;obtain⟨y,z,A,rfl,rfl,H,I,J⟩:=Q1 x;try dsimp only at a
  refine eX (eqE (g,i,j) (y,z,A)) (aI (j0d _ _ _ rfl _ _ _ _ _ _) ?_);refine ifB a (λu a=>?_) λu a=>?_
  ·cases a;try dsimp only[M2,P2]at b
   cases b;exact aI rfl f
  exact P1 d ⟨_,rfl,rfl,f,(M0 _),a⟩
 cases a;try dsimp only[S0,U0]at b
 cases b;exact aI rfl f
def f04(h:Hp)(b:Option Addr)(e c:Nat)(f:T0)(i:N0.R h [.slice b e c] f)(d:List Value)(g:O0)(n:C1.R h d g)(r:Bool)(a:W3 f g=some r): Tr Tryz.prog 231 #[.slice b e c,.agg d.toArray] h λv h'=>v = .bool r/\h'=h:=by obtain⟨rfl,q⟩:=sL i;obtain⟨s,t,u,rfl,rfl,k,l,m⟩:=Q1 n;unfold W3 at a;dsimp only at a;refine wkF Tryz.f231 ?_;refine trV a (y01 _ _ _ _ _ i _ _ (N1 k l m)) λo a=>?_;obtain⟨w,j,a⟩:=B0 a;have p:H0 o:=F0 j;cases a;exact aI rfl sr
def v06(h:Hp)(e:Int)(k:H0 e)(f:Nat)(j:TypeId)(c:Int)(l:H0 c)(b:Int)(m:H0 b)(d:h f=some (.cells #[iV c,iV b] j (0,0)))(r:Int)(a:E8 e (c,b)=some r): Tr Tryz.prog 298 #[iV e,ptr f 0] h λv h'=>v=iV r/\h'=h:=by
 unfold E8 at a;dsimp only at a;refine wkF Tryz.f298 ?_;refine eX (iV b) (aI ⟨rfl,by simp[Hp.cell,(d)]⟩ ?_);refine ifB a (λg a=>?_) λg a=>?_;·refine eX (iV c) (aI ⟨rfl,by simp[Hp.cell,(d)]⟩ ?_);cases a;exact aI rfl sr
 refine eX (iV b) (aI ⟨rfl,by simp[Hp.cell,(d)]⟩ ?_);refine ifB a (λi a=>?_) λi a=>?_;·cases a;exact aI rfl sr
 cases a;exact aI rfl sr
def v0c(h:Hp)(ad:List Value)(aq:j0)(bi:F1.R h ad aq)(T:Int)(ag:H0 T)(aa:Option Addr)(ap ab:Nat)(p2:I0)(U:J0.R h [.slice aa ap ab] p2)(t:Int)(O:H0 t)(r:j0×Bool)(d:e03 aq T p2 t=some r): Tr Tryz.prog 252 #[.agg ad.toArray,iV T,.slice aa ap ab,iV t] h λv h'=>∃(ac:List Value),v = .tuple #[.agg ac.toArray,.bool r.2]/\New F1 h h' ac r.1:=by
 obtain⟨cj,ck,bE,bJ,cl,rfl,rfl,p,C,E,b3⟩:=opG bi;obtain⟨rfl,b4⟩:=sL U;unfold e03 at d;dsimp only at d;refine wk Tryz.f252 ?_;refine trM d (F5 _ _ _ (D0 p C E)) ?_;rintro bB d ct bf ⟨bS,cd,bM,rfl,G⟩;have w:Sub h bf:=G.sub;have au:=G.r;obtain⟨cy,cz,cA⟩:=bB;dsimp only at d G au;obtain⟨_,_,_,_,_,_,az,aC,aj,ak,bj⟩:=Z0 au;cases az;cases aC;obtain⟨rfl,b6⟩:=sL bj;try dsimp only at d
 have aw:=nD (nD (G));refine trV d (n01 _ _ _ (D0 p C (N0.mono w E))) λcD d=>?_;refine trG d (λq=>T04 _ _ _ (D0 p C (N0.mono w E)) _ ag) λcE d=>?_;refine trG d (λq=>T04 _ _ _ (D0 p C (N0.mono w E)) _ O) λcG d=>?_;refine trG d (λq=>l00 _ _ p _ _ _ _ (J0.mono w U)) λcH d=>?_;refine ifB d (λaX d=>?_) λaX d=>?_;·cases d;exact⟨_,rfl,(nP (nI aj) (nP (nI ak) aw))⟩
 obtain⟨Z,aR,d⟩:=B0 d;refine eX { vars:=[11,66],boxes:=[2] } (eX (λvs os h'=>∃ x y z A N S Q J F,vs.tail = [iV x,iV y,iV z,iV A,.slice (some ⟨N,S,none⟩) Q J]/\os = []/\Sub h h'/\H0 x/\H0 y/\H0 z/\H0 A/\New N0 h h' [.slice (some ⟨N,S,none⟩) Q J] F/\F8 p2 t (E1 vs) x y z A F=some Z) (eX (λ_ _=>0) (aI (eX P0 ⟨_,_,_,_,_,_,_,_,_,rfl,rfl,w,ag,oD,aj,ak,aw,aR⟩) ?_)));rintro _ _ _ _ _ s be ⟨x,y,z,A,N,S,Q,J,F,⟨⟩,⟨⟩,av,ah,bW,P,D,V,b⟩;replace b:F8 p2 t s x y z A F=some Z:=b;obtain _|s:=s;·cases b
 rw[F8.eq_2]at b;have ar:=V.r;obtain⟨rfl,b5⟩:=sL ar;refine ifB b (λaV b=>?_) λaV b=>?_
 ·refine ldI b (J0.mono av U) λcx ai b=>?_;refine ifB b (λaW b=>?_) λaW b=>?_
  ·refine w5 7 ?_;obtain⟨bC,aL,b⟩:=B0 b;obtain⟨g,i,j⟩:=bC;try dsimp only at b
   refine Or.inr (eX (λv aY=>∃(_:Unit),v = .agg #[iV g,iV i,iV j]/\H0 g/\H0 i/\H0 j) (aI (λv aP aQ f q=>by obtain⟨u,e,L,M,f2⟩:=q;exact⟨u,e,L,M,f2⟩) (aI ?_ ?_)));·intro bX co;refine Tr.mono (q09 _ _ ah _ ai _ D _ aL) ?_;rintro _ bh ⟨bK,rfl,bk,f⟩;obtain⟨cI,cJ,cK,rfl,K,aZ,a0,a1⟩:=Q1 bk;cases K;exact aI E6 (aI f ⟨(),rfl,aZ,a0,a1⟩)
   obtain⟨H,aM,b⟩:=B0 b;refine fS N0 H ?_ ?_;·intro al cp;rintro _ ⟨_,rfl,a5,a6,ba⟩;have aA:[(g,i,j)]=H:=oJ aM;intro v k hf;obtain⟨a,c,rfl,r,f,l⟩:=Y0.out (r:=C1.toRp) (xs:=H) hf (show F2 (C1.R al) [[iV g,iV i,iV j]] H from aA▸(show F2 (C1.R al) [[iV g,iV i,iV j]] [(g,i,j)] from⟨(N1 a5 a6 ba),trivial⟩));exact aI ⟨rfl,rfl,rfl,[_],rfl⟩ (aI f ⟨a,c,rfl,r,l⟩)
   intro bY bt;rintro _ ⟨bH,bO,rfl,bp,b8⟩;rintro _ _;obtain⟨bv,aD,ae⟩:=Sl.rows (r:=C1.toRp) bp;refine eX bv (aI aD ?_);obtain⟨cm,aJ,b⟩:=B0 b;obtain⟨bz,bn,an,ax⟩:=New.app V bt;refine eX bz (aI bn (aI (G1 aJ (by first|rw[an,fL ae]|(rw[an];rfl))) ?_));intro cv b1 aS;obtain⟨X,bU,ch,cf,bP,rfl⟩:=ax _ _ _ _ _ (F3.ofPlain (U08 _) ae) G4.ofPlain aS;have bq:=X.r;obtain⟨aG,ca⟩:=sL bq;subst aG;exact P1 s ⟨_,_,_,_,_,_,_,_,_,rfl,rfl,X.sub,D,(M0 _),P,(M0 _),X,b⟩
  refine w5 7 ?_;obtain⟨bD,aN,b⟩:=B0 b;obtain⟨m,n,o⟩:=bD;try dsimp only at b
  refine Or.inr (eX (λv aY=>∃(_:Unit),v = .agg #[iV m,iV n,iV o]/\H0 m/\H0 n/\H0 o) (aI (λv aP aQ f q=>by obtain⟨u,e,L,M,f2⟩:=q;exact⟨u,e,L,M,f2⟩) (aI ?_ ?_)));·intro bZ cq;refine Tr.mono (q09 _ _ ah _ ai _ O _ aN) ?_;rintro _ bh ⟨bL,rfl,bl,f⟩;obtain⟨cL,cM,cN,rfl,K,a2,a3,a4⟩:=Q1 bl;cases K;exact aI E6 (aI f ⟨(),rfl,a2,a3,a4⟩)
  obtain⟨I,aO,b⟩:=B0 b;refine fS N0 I ?_ ?_;·intro am cr;rintro _ ⟨_,rfl,bb,bc,bd⟩;have aB:[(m,n,o)]=I:=oJ aO;intro v k hf;obtain⟨a,c,rfl,r,f,l⟩:=Y0.out (r:=C1.toRp) (xs:=I) hf (show F2 (C1.R am) [[iV m,iV n,iV o]] I from aB▸(show F2 (C1.R am) [[iV m,iV n,iV o]] [(m,n,o)] from⟨(N1 bb bc bd),trivial⟩));exact aI ⟨rfl,rfl,rfl,[_],rfl⟩ (aI f ⟨a,c,rfl,r,l⟩)
  intro b0 bu;rintro _ ⟨bI,bQ,rfl,br,cb⟩;rintro _ _;obtain⟨bx,aF,af⟩:=Sl.rows (r:=C1.toRp) br;refine eX bx (aI aF ?_);obtain⟨cn,aK,b⟩:=B0 b;obtain⟨bA,bo,ao,ay⟩:=New.app V bu;refine eX bA (aI bo (aI (G1 aK (by first|rw[ao,fL af]|(rw[ao];rfl))) ?_));intro cw b2 aU;obtain⟨Y,bV,ci,cg,bR,rfl⟩:=ay _ _ _ _ _ (F3.ofPlain (U08 _) af) G4.ofPlain aU;have bs:=Y.r;obtain⟨aH,cc⟩:=sL bs;subst aH;exact P1 s ⟨_,_,_,_,_,_,_,_,_,rfl,rfl,Y.sub,O,(M0 _),P,D,Y,b⟩
 cases b;try dsimp only[S0,U0]at d
 refine trM d (n05 _ _ _ _ _ ar) ?_;rintro cC d cu bg ⟨bG,ce,bN,rfl,W⟩;have cs:Sub be bg:=W.sub;have bm:=W.r;obtain⟨rfl,b7⟩:=sL bm;cases d;exact⟨_,rfl,(nP (nI P) (nP (nI D) (New.from W av)))⟩
def l0i(h:Hp)(b:Int)(d:H0 b)(r:j0×Bool)(a:s05 b=some r): Tr Tryz.prog 208 #[iV b] h λv h'=>∃(c:List Value),v = .tuple #[.agg c.toArray,.bool r.2]/\New F1 h h' c r.1:=by
 unfold s05 at a;refine wk Tryz.f208 ?_;refine trV a (U3 _ _ d 1 oD 3 oD) λf a=>?_;refine ifB a (λe a=>?_) λe a=>?_;·cases a;exact⟨_,rfl,(nP (nI (show H0 (0) from(oD))) (nP (nI (show H0 (0) from(oD))) ((New.nilSlice (r:=C1)).mono sr)))⟩
 cases a;exact⟨_,rfl,(nP (nI d) (nP (nI (show H0 (1) from(oD))) ((New.nilSlice (r:=C1)).mono sr)))⟩
def m0i(h:Hp)(f:List Value)(i:j0)(q:F1.R h f i)(c:Option Addr)(g d:Nat)(j:I0)(k:J0.R h [.slice c g d] j)(r:j0×Bool)(a:Q03 i j=some r): Tr Tryz.prog 209 #[.agg f.toArray,.slice c g d] h λv h'=>∃(e:List Value),v = .tuple #[.agg e.toArray,.bool r.2]/\New F1 h h' e r.1:=by
 obtain⟨G,H,x,z,I,rfl,rfl,l,m,s,D⟩:=opG q;obtain⟨rfl,E⟩:=sL k;unfold Q03 at a;dsimp only at a;refine wk Tryz.f209 ?_;refine trM a (v0c _ _ _ (D0 l m s) 0 oD _ _ _ _ k 0 oD) ?_;rintro w a L p ⟨A,rfl,b⟩;obtain⟨M,Q⟩:=w;dsimp only at a b;have K:Sub h p:=b.sub;have t:=b.r;obtain⟨N,O,y,C,P,rfl,rfl,n,o,J,F⟩:=opG t;try dsimp only at a
 have u:=nD (nD (b));cases a;exact⟨_,rfl,(nP (nI n) (nP (nI o) u))⟩
def n0i(h:Hp)(q:Int)(z:H0 q)(w:Option Addr)(C x:Nat)(f:M1)(s:T1.R h [.slice w C x] f)(r:j0×Bool)(b:R03 q f=some r): Tr Tryz.prog 150 #[iV q,.slice w C x] h λv h'=>∃(y:List Value),v = .tuple #[.agg y.toArray,.bool r.2]/\New F1 h h' y r.1:=by
 obtain⟨rfl,ai⟩:=sL s;unfold R03 at b;refine wk Tryz.f150 ?_;refine trV b (Y03 _ _ z _ _ _ _ s) λar b=>?_;refine ifB b (λJ b=>?_) λJ b=>?_;·cases b;exact⟨_,rfl,(nP (nI (show H0 (0) from(oD))) (nP (nI (show H0 (0) from(oD))) ((New.nilSlice (r:=C1)).mono sr)))⟩
 refine trM b (l0i _ _ z) ?_;rintro X b aq A ⟨ad,rfl,k⟩;obtain⟨aA,aF⟩:=X;dsimp only at b k;have F:Sub h A:=k.sub;have S:=k.r;obtain⟨aB,aC,aa,ag,aD,rfl,rfl,M,N,ao,am⟩:=opG S;try dsimp only at b
 have V:=nD (nD (k));obtain⟨u,G,b⟩:=B0 b;refine eX { vars:=[22],boxes:=[1] } (eX (λvs os h'=>∃ u8 e d l p m i,vs.tail = [iV u8,iV e,iV d,.slice l p m]/\os = []/\Sub A h'/\H0 u8/\H0 e/\H0 d/\New N0 h h' [.slice l p m] i/\Q7 f (E1 vs) u8 e d i=some u) (eX (λ_ _=>0) (aI (eX P0 ⟨_,_,_,_,_,_,_,rfl,rfl,sr,oD,M,N,V,G⟩) ?_)));rintro _ _ _ _ c O ⟨u8,e,d,l,p,m,i,⟨⟩,⟨⟩,g,ah,o,n,t,a⟩;replace a:Q7 f c u8 e d i=some u:=a;obtain _|c:=c;·cases a
 rw[Q7.eq_2]at a;have D:=t.r;obtain⟨rfl,aj⟩:=sL D;refine ifB a (λH a=>?_) λH a=>?_
 ·refine ld a (T1.mono (F.trans g) s) λau ab E a=>?_;obtain⟨Y,ae,rfl,ak⟩:=slL E;refine ifB a (λI a=>?_) λI a=>?_
  ·refine trM a (m0i _ _ _ (D0 o n D) _ _ _ _ E) ?_;rintro W a ap P ⟨ac,rfl,j⟩;obtain⟨av,az⟩:=W;dsimp only at a j;have T:Sub O P:=j.sub;have Q:=j.r;obtain⟨aw,ax,Z,af,ay,rfl,rfl,K,L,an,al⟩:=opG Q;try dsimp only at a
   have U:=nD (nD (j));exact P1 c ⟨_,_,_,_,_,_,_,rfl,rfl,(g.trans T),(M0 _),K,L,(New.from U (F.trans g)),a⟩
  exact P1 c ⟨_,_,_,_,_,_,_,rfl,rfl,g,(M0 _),o,n,t,a⟩
 cases a;try dsimp only[S0,U0]at b
 cases b;exact⟨_,rfl,(nP (nI o) (nP (nI n) t))⟩
def d0o(h:Hp)(F:List Value)(I:j0)(ah:F1.R h F I)(r:J01)(p:m06 I=some r): Tr Tryz.prog 297 #[.agg F.toArray] h λv h'=>∃(D:Option Addr) (H E:Nat),v = .slice D H E/\o0n.R h' [.slice D H E] r/\Sub h h':=by
 obtain⟨aK,aL,ao,ar,J,rfl,rfl,ay,az,K,aG⟩:=opG ah;unfold m06 at p;dsimp only at p;refine wk Tryz.f297 ?_;obtain⟨A,W,p⟩:=B0 p;refine eX { vars:=[12],owns:=[0] } (eX (λvs os h'=>∃ s z x,vs.tail = [iV s]/\os = [z]/\Sub h h'/\H0 s/\F2 (G6.R h') z x/\k01 J (E1 vs) s x=some A) (eX (λ_ _=>0) (aI (eX P0 ⟨_,_,_,rfl,rfl,sr,oD,(show F2 (G6.R h) ([]:LV) ([]:J01) from trivial),W⟩) ?_)));rintro _ z t af ⟨s,aV,x,⟨⟩,⟨⟩,u,aB,G,f⟩;replace f:k01 J t s x=some A:=f;obtain _|t:=t;·cases f
 rw[k01.eq_2]at f;refine ifB f (λad f=>?_) λad f=>?_
 ·refine ld f (N0.mono u K) λaS av aj f=>?_;obtain⟨d,M,a,rfl,rfl,m,aD,j⟩:=Q1 aj;try dsimp only at f
  obtain⟨N,V,f⟩:=B0 f;obtain⟨ag,am,O,Q⟩:=Sl.cutI (r:=C1.toRp) (N0.mono u K) V;refine aI ag (eX am (aI O ?_));intro an ae _;obtain⟨ap,aw,rfl,L⟩:=Q an ae;have aH:=(sL L).2;obtain⟨C,X,f⟩:=B0 f;refine eX { vars:=[23],owns:=[0] } (eX (λvs os h'=>∃ q y w,vs.tail = [iV q]/\os = [y]/\Sub af h'/\H0 q/\F2 (G6.R h') y w/\J6 N M d a (E1 vs) q w=some C) (eX (λ_ _=>0) (aI (eX P0 ⟨_,_,_,rfl,rfl,sr,oD,G,X⟩) ?_)));rintro _ y n k ⟨q,aU,w,⟨⟩,⟨⟩,o,aA,g,c⟩;replace c:J6 N M d a n q w=some C:=c;obtain _|n:=n;·cases c
  rw[J6.eq_2]at c;refine ifB c (λY c=>?_) λY c=>?_
  ·refine ld c (N0.mono o L) λaQ au ai c=>?_;obtain⟨e,aR,b,rfl,rfl,l,aC,i⟩:=Q1 ai;try dsimp only at c
   refine ifB c (λZ c=>?_) λZ c=>?_;·exact P1 n ⟨_,_,_,rfl,rfl,o,(M0 _),g,c⟩
   refine ifB c (λaa c=>?_) λaa c=>?_
   ·obtain⟨aM,S,c⟩:=B0 c;refine aI (G1 S (by first|rw[fL g,fL (show F2 (G6.R k) ([[iV (if b<a then b else a),iV (if b>a then b else a)]]:LV) [((if b<a then b else a),(if b>a then b else a))] from⟨(C3 (S00 i j) (S00 i j)),trivial⟩)]|exact congrArg (·+1) (fL g))) ?_;refine ifB c (λab c=>?_) λab c=>?_;·obtain⟨aN,T,c⟩:=B0 c;refine aI (G1 T (by first|rw[fL (fA g (show F2 (G6.R k) ([[iV (if b<a then b else a),iV (if b>a then b else a)]]:LV) [((if b<a then b else a),(if b>a then b else a))] from⟨(C3 (S00 i j) (S00 i j)),trivial⟩)),fL (show F2 (G6.R k) ([[iV (if e<d then e else d),iV (if e>d then e else d)]]:LV) [((if e<d then e else d),(if e>d then e else d))] from⟨(C3 (S00 l m) (S00 l m)),trivial⟩)]|exact congrArg (·+1) (fL (fA g (show F2 (G6.R k) ([[iV (if b<a then b else a),iV (if b>a then b else a)]]:LV) [((if b<a then b else a),(if b>a then b else a))] from⟨(C3 (S00 i j) (S00 i j)),trivial⟩))))) ?_;exact P1 n ⟨_,_,_,rfl,rfl,o,(M0 _),(fA (fA g (show F2 (G6.R k) ([[iV (if b<a then b else a),iV (if b>a then b else a)]]:LV) [((if b<a then b else a),(if b>a then b else a))] from⟨(C3 (S00 i j) (S00 i j)),trivial⟩)) (show F2 (G6.R k) ([[iV (if e<d then e else d),iV (if e>d then e else d)]]:LV) [((if e<d then e else d),(if e>d then e else d))] from⟨(C3 (S00 l m) (S00 l m)),trivial⟩)),c⟩
    exact P1 n ⟨_,_,_,rfl,rfl,o,(M0 _),(fA g (show F2 (G6.R k) ([[iV (if b<a then b else a),iV (if b>a then b else a)]]:LV) [((if b<a then b else a),(if b>a then b else a))] from⟨(C3 (S00 i j) (S00 i j)),trivial⟩)),c⟩
   refine ifB c (λac c=>?_) λac c=>?_;·obtain⟨aO,U,c⟩:=B0 c;refine aI (G1 U (by first|rw[fL g,fL (show F2 (G6.R k) ([[iV (if e<d then e else d),iV (if e>d then e else d)]]:LV) [((if e<d then e else d),(if e>d then e else d))] from⟨(C3 (S00 l m) (S00 l m)),trivial⟩)]|exact congrArg (·+1) (fL g))) ?_;exact P1 n ⟨_,_,_,rfl,rfl,o,(M0 _),(fA g (show F2 (G6.R k) ([[iV (if e<d then e else d),iV (if e>d then e else d)]]:LV) [((if e<d then e else d),(if e>d then e else d))] from⟨(C3 (S00 l m) (S00 l m)),trivial⟩)),c⟩
   exact P1 n ⟨_,_,_,rfl,rfl,o,(M0 _),g,c⟩
  cases c;try dsimp only[S0,U0]at f
  exact P1 t ⟨_,_,_,rfl,rfl,(u.trans o),(M0 _),g,f⟩
 cases f;try dsimp only[S0,U0]at p
 intro aP aF P;obtain⟨aq,ax,rfl,ak,al,aJ⟩:=Y0.out (r:=G6.toRp) P G;cases p;exact⟨_,_,_,rfl,ak,(u.trans al)⟩
def m0h(h:Hp)(c:List Value)(f:j0)(o:F1.R h c f)(r:F6×Bool)(a:S01 f=some r): Tr Tryz.prog 284 #[.agg c.toArray] h λv h'=>∃(b:List Value),v = .tuple #[.agg b.toArray,.bool r.2]/\G6.R h' b r.1/\Sub h h':=by
 obtain⟨C,D,q,t,E,rfl,rfl,d,e,g,y⟩:=opG o;unfold S01 at a;dsimp only at a;refine wk Tryz.f284 ?_;refine trV a (n01 _ _ _ (D0 d e g)) λG a=>?_;refine ifB a (λk a=>?_) λk a=>?_;·cases a;exact⟨_,rfl,(C3 oD oD),sr⟩
 refine trM a (d0o _ _ _ (D0 d e g)) ?_;rintro H a F x ⟨s,A,w,rfl,i,j⟩;obtain⟨rfl,z⟩:=sL i;refine ifB a (λl a=>?_) λl a=>?_;·cases a;exact⟨_,rfl,(C3 oD oD),j⟩
 refine ld a i λI u p a=>?_;obtain⟨J,K,rfl,rfl,m,n⟩:=f06 p;try dsimp only at a
 cases a;exact⟨_,rfl,(C3 m n),j⟩
def w0c(h:Hp)(A:List Value)(K:j0)(aq:F1.R h A K)(C:List Value)(L:F6)(ar:G6.R h C L)(r:j0×Bool)(b:S9 K L=some r): Tr Tryz.prog 285 #[.agg A.toArray,.agg C.toArray] h λv h'=>∃(z:List Value),v = .tuple #[.agg z.toArray,.bool r.2]/\New F1 h h' z r.1:=by
 obtain⟨aZ,a0,aC,aF,a1,rfl,rfl,E,F,M,aU⟩:=opG aq;obtain⟨d,f,rfl,rfl,G,H⟩:=f06 ar;unfold S9 at b;dsimp only at b;refine wk Tryz.f285 ?_;refine trM b (F5 _ _ _ (D0 E F M)) ?_;rintro aB b ba J ⟨D,aX,T,rfl,k⟩;have O:Sub h J:=k.sub;have N:=k.r;obtain⟨bf,bg,x⟩:=aB;dsimp only at b k N;obtain⟨_,_,_,_,_,_,U,V,I,aj,av⟩:=Z0 N;cases U;cases V;obtain⟨rfl,aV⟩:=sL av;try dsimp only at b
 have u:=nD (nD (k));refine trV b (n01 _ _ _ (D0 E F (N0.mono O M))) λbm b=>?_;refine ifB b (λad b=>?_) λad b=>?_;·cases b;exact⟨_,rfl,(nP (nI I) (nP (nI aj) u))⟩
 intro c o;have W:(Hp.set J c (.cells #[iV d,iV f] 110 (0,0))) c=some (.cells #[iV d,iV f] 110 (0,0)):=Hp.set_same _ _ _;have ap:c≠D:=λe=>New.blk u sr (e▸o);obtain⟨y,ab,b⟩:=B0 b;refine eX { vars:=[39] } (eX (λvs os h'=>∃ g j,vs.tail = [iV g]/\os = []/\Sub h h'/\H0 g/\New N0 h h' [.slice (some ⟨D,0,none⟩) x.length T] j/\h' c=some (.cells #[iV d,iV f] 110 (0,0))/\K5 x d f (E1 vs) g j=some y) (eX (λ_ _=>0) (aI (eX P0 ⟨_,_,rfl,rfl,(O.trans (Sub.set o)),oD,(New.mono u (Sub.set o)),W,ab⟩) ?_)));rintro _ i al ⟨g,j,⟨⟩,⟨⟩,aA,aL,P,p,a⟩;replace a:K5 x d f i g j=some y:=a;obtain _|i:=i;·cases a
 rw[K5.eq_2]at a;have q:=P.r;refine ifB a (λac a=>?_) λac a=>?_
 ·refine ld a q λbc aG au a=>?_;obtain⟨bd,Q,be,rfl,rfl,af,ag,ah⟩:=Q1 au;try dsimp only at a
  refine w5 14 ?_;obtain⟨l,Z,a⟩:=B0 a;obtain⟨a2,X,a⟩:=B0 a;have ai:H0 l:=F0 X;refine pm (.val (iV l)) ?_ ?_;·intro aP ay;exact Tr.val (v06 _ _ af c 110 _ G _ H (ay _ _ p) _ Z) r3
  obtain⟨m,aa,a⟩:=B0 a;obtain⟨a3,Y,a⟩:=B0 a;have ak:H0 m:=F0 Y;refine pm (.val (iV m)) ?_ ?_;·intro aQ az;exact Tr.val (v06 _ _ ah c 110 _ G _ H (az _ _ p) _ aa) r3
  refine pm (.agg [.val (iV l),.val (iV Q),.val (iV m)]) ?_ ?_;·intro aR a5;exact r3
  intro aS s;obtain⟨bh,n,a⟩:=B0 a;obtain⟨S,aH,aK,aw⟩:=Sl.getI (r:=C1.toRp) (N0.mono s q) n oD;refine aI S ?_;obtain⟨bi,bj,bk,rfl,rfl,aM,aN,aO⟩:=Q1 aw;try dsimp only at a
  refine New.put (r:=C1) P s (m0y n).1 (new:=[iV l,iV Q,iV m]) (By:=[]) (U08 _ _ _ (N1 ai ag ak)) (G4.nil _) rfl (m0y n).2 ?_;intro am t ao _;have a4:=t.r;have ae:am c=some (.cells #[iV d,iV f] 110 (0,0)):=(ao c ap).trans (s _ _ p);exact P1 i ⟨_,_,rfl,rfl,t.sub,(M0 _),t,(ae),a⟩
 cases a;try dsimp only[S0,U0]at b
 refine trM b (n05 _ _ _ _ _ q) ?_;rintro bl b bb an ⟨aD,aY,aJ,rfl,w⟩;have a6:Sub al an:=w.sub;have ax:=w.r;obtain⟨rfl,aW⟩:=sL ax;cases b;exact⟨_,rfl,(nP (nI I) (nP (nI (M0 _)) (New.from w aA)))⟩
def o0i(h:Hp)(k:List Value)(o:j0)(D:F1.R h k o)(r:j0×F6×Bool)(a:S03 o=some r): Tr Tryz.prog 253 #[.agg k.toArray] h λv h'=>∃(i:List Value) (j:List Value),v = .tuple #[.agg i.toArray,.agg j.toArray,.bool r.2.2]/\New F1 h h' i r.1/\G6.R h' j r.2.1:=by
 obtain⟨Y,Z,L,N,aa,rfl,rfl,e,f,g,U⟩:=opG D;unfold S03 at a;dsimp only at a;refine wk Tryz.f253 ?_;refine trM a (m0h _ _ _ (D0 e f g)) ?_;rintro I a af n ⟨O,rfl,p,b⟩;obtain⟨ah,ak⟩:=I;dsimp only at a p;obtain⟨ai,aj,rfl,rfl,l,m⟩:=f06 p;try dsimp only at a
 refine ifB a (λu a=>?_) λu a=>?_
 ·refine trM a (F5 _ _ _ (D0 e f (N0.mono b g))) ?_;rintro J a ag C ⟨T,X,Q,rfl,c⟩;have ac:Sub n C:=c.sub;have q:=c.r;obtain⟨al,am,an⟩:=J;dsimp only at a c q;obtain⟨_,_,_,_,_,_,s,t,w,x,E⟩:=Z0 q;cases s;cases t;obtain⟨rfl,V⟩:=sL E;try dsimp only at a
  have H:=nD (nD (c));cases a;exact⟨_,_,rfl,(nP (nI w) (nP (nI x) (New.from H b))),(C3 oD oD)⟩
 refine trM a (w0c _ _ _ (D0 e f (N0.mono b g)) _ _ (C3 l m)) ?_;rintro K a ae A ⟨P,rfl,d⟩;obtain⟨ao,au⟩:=K;dsimp only at a d;have ad:Sub n A:=d.sub;have F:=d.r;obtain⟨ap,aq,M,S,ar,rfl,rfl,y,z,ab,W⟩:=opG F;try dsimp only at a
 have G:=nD (nD (d));refine w3 ?_;refine aI ?_ trivial;refine aI (by first|exact trivial|exact rfl) ?_;refine aI ?_ trivial;refine aI (by first|exact trivial|exact rfl) ?_;cases a;exact⟨_,_,rfl,(nP (nI y) (nP (nI z) (New.from G b))),(C3 l m)⟩
def P0k(h:Hp)(z:List Value)(G:j0)(aa:F1.R h z G)(r:j0×J01)(b:w04 G=some r): Tr Tryz.prog 210 #[.agg z.toArray] h λv h'=>∃(y:List Value) (w:Option Addr) (F x:Nat),v = .tuple #[.agg y.toArray,.slice w F x]/\New F1 h h' y r.1/\o0n.R h' [.slice w F x] r.2:=by
 obtain⟨aF,aG,al,ao,aH,rfl,rfl,T,U,ab,ay⟩:=opG aa;unfold w04 at b;dsimp only at b;refine wk Tryz.f210 ?_;refine trM b (F5 _ _ _ (D0 T U ab)) ?_;rintro aj b aN q ⟨aw,aD,au,rfl,j⟩;have af:Sub h q:=j.sub;have I:=j.r;obtain⟨aV,aW,aX⟩:=aj;dsimp only at b j I;obtain⟨_,_,_,_,_,_,M,N,X,Y,ad⟩:=Z0 I;cases M;cases N;obtain⟨rfl,aB⟩:=sL ad;try dsimp only at b
 have ai:=nD (nD (j));obtain⟨u,Q,b⟩:=B0 b;refine eX { vars:=[],boxes:=[2],owns:=[0] } (eX (λvs os h'=>∃ d e n s o u8 t i,vs.tail = [iV d,iV e,.slice n s o]/\os = [t]/\Sub q h'/\H0 d/\H0 e/\New N0 h h' [.slice n s o] u8/\F2 (G6.R h') t i/\T9 (E1 vs) d e u8 i=some u) (eX (λ_ _=>0) (aI (eX P0 ⟨_,_,_,_,_,_,_,_,rfl,rfl,sr,X,Y,ai,(show F2 (G6.R q) ([]:LV) ([]:J01) from trivial),Q⟩) ?_)));rintro _ _ _ t g Z ⟨d,e,n,s,o,u8,aY,i,⟨⟩,⟨⟩,K,A,C,L,f,a⟩;replace a:T9 g d e u8 i=some u:=a;obtain _|g:=g;·cases a
 rw[T9.eq_2]at a;have H:=L.r;obtain⟨rfl,az⟩:=sL H;refine trM a (o0i _ _ _ (D0 A C H)) ?_;rintro ak a aL p ⟨ap,aq,rfl,k,J⟩;obtain⟨aO,aS,aU⟩:=ak;dsimp only at a k J;have c:Sub Z p:=k.sub;have ac:=k.r;obtain⟨aP,aQ,am,ar,aR,rfl,rfl,V,W,aK,aA⟩:=opG ac;try dsimp only at a
 have ah:=nD (nD (k));obtain⟨l,m,rfl,rfl,D,E⟩:=f06 J;try dsimp only at a
 refine ifB a (λS a=>?_) λS a=>?_
 ·intro aM ax O;obtain⟨an,av,rfl,ae,ag,aC⟩:=Y0.out (r:=G6.toRp) O (F2.up (r:=G6.toRp) c f);cases a;try dsimp only[M2,P2]at b
  cases b;exact⟨_,_,_,_,rfl,(nP (nI A) (nP (nI C) (New.mono L (c.trans ag)))),ae⟩
 obtain⟨aJ,P,a⟩:=B0 a;refine aI (G1 P (by first|rw[fL (F2.up (r:=G6.toRp) c f),fL (show F2 (G6.R p) ([[iV l,iV m]]:LV) [(l,m)] from⟨(C3 D E),trivial⟩)]|exact congrArg (·+1) (fL (F2.up (r:=G6.toRp) c f)))) ?_;exact P1 g ⟨_,_,_,_,_,_,_,_,rfl,rfl,(K.trans c),V,W,(New.from ah (af.trans K)),(fA (F2.up (r:=G6.toRp) c f) (show F2 (G6.R p) ([[iV l,iV m]]:LV) [(l,m)] from⟨(C3 D E),trivial⟩)),a⟩
def n0h(h:Hp)(d:List Value)(i:j0)(s:F1.R h d i)(r:j0×Bool)(a:f03 i=some r): Tr Tryz.prog 266 #[.agg d.toArray] h λv h'=>∃(c:List Value),v = .tuple #[.agg c.toArray,.bool r.2]/\New F1 h h' c r.1:=by
 obtain⟨F,G,x,y,H,rfl,rfl,e,f,j,C⟩:=opG s;unfold f03 at a;dsimp only at a;refine wk Tryz.f266 ?_;refine trM a (F5 _ _ _ (D0 e f j)) ?_;rintro w a I q ⟨A,E,z,rfl,b⟩;have u:Sub h q:=b.sub;have k:=b.r;obtain⟨J,K,L⟩:=w;dsimp only at a b k;obtain⟨_,_,_,_,_,_,m,n,g,p,t⟩:=Z0 k;cases m;cases n;obtain⟨rfl,D⟩:=sL t;try dsimp only at a
 have l:=nD (nD (b));refine trV a (n01 _ _ _ (D0 e f (N0.mono u j))) λM a=>?_;refine ifB a (λo a=>?_) λo a=>?_;·cases a;exact⟨_,rfl,(nP (nI g) (nP (nI p) l))⟩
 cases a;exact⟨_,rfl,(nP (nI g) (nP (nI (M0 _)) l))⟩
def q0d(h:Hp)(D:List Value)(I:j0)(Y:F1.R h D I)(r:T0)(c:x00 I=some r): Tr Tryz.prog 219 #[.agg D.toArray] h λv h'=>∃(A:Option Addr) (H C:Nat),v = .slice A H C/\N0.R h' [.slice A H C] r/\Sub h h':=by
 obtain⟨j,k,ae,ai,l,rfl,rfl,p,F,J,ar⟩:=opG Y;unfold x00 at c;dsimp only at c;refine wk Tryz.f219 ?_;refine trV c (s02 _ _ _ (D0 p F J)) λaD c=>?_;refine ifB c (λU c=>?_) λU c=>?_;·intro aB aq N;obtain⟨ah,al,rfl,aa,ac,aw⟩:=Y0.out (r:=C1.toRp) N (show F2 (C1.R h) ([]:LV) ([]:T0) from trivial);cases c;exact⟨_,_,_,rfl,aa,ac⟩
 obtain⟨z,S,c⟩:=B0 c;refine eX { vars:=[4],owns:=[0] } (eX (λvs os h'=>∃ u8 x n,vs.tail = [iV u8]/\os = [x]/\Sub h h'/\H0 u8/\F2 (C1.R h') x n/\r6 k j l (E1 vs) u8 n=some z) (eX (λ_ _=>0) (aI (eX P0 ⟨_,_,_,rfl,rfl,sr,oD,(show F2 (C1.R h) ([]:LV) ([]:T0) from trivial),S⟩) ?_)));rintro _ x i ao ⟨u8,aG,n,⟨⟩,⟨⟩,t,q,E,b⟩;replace b:r6 k j l i u8 n=some z:=b;obtain _|i:=i;·cases b
 rw[r6.eq_2]at b;refine ifB b (λT b=>?_) λT b=>?_
 ·refine trM b (u0c _ _ p) ?_;rintro L b aA X ⟨af,ax,aj,rfl,K,u⟩;obtain⟨rfl,au⟩:=sL K;obtain⟨y,Q,b⟩:=B0 b;refine eX { vars:=[22],owns:=[0] } (eX (λvs os h'=>∃ g w m,vs.tail = [iV g]/\os = [w]/\Sub X h'/\H0 g/\F2 (C1.R h') w m/\K4 L j k l u8 (E1 vs) g m=some y) (eX (λ_ _=>0) (aI (eX P0 ⟨_,_,_,rfl,rfl,sr,oD,(F2.up (r:=C1.toRp) u E),Q⟩) ?_)));rintro _ w e G ⟨g,aF,m,⟨⟩,⟨⟩,f,am,d,a⟩;replace a:K4 L j k l u8 e g m=some y:=a;obtain _|e:=e;·cases a
  rw[K4.eq_2]at a;refine ifB a (λV a=>?_) λV a=>?_
  ·refine ldI a (J0.mono f K) λo s a=>?_;refine trV a (c9 _ _ _ (D0 p F (N0.mono ((t.trans u).trans f) J)) _ q _ s) λad a=>?_;obtain⟨ay,O,a⟩:=B0 a;have an:H0 ad:=F0 O;refine ifB a (λW a=>?_) λW a=>?_;·obtain⟨az,P,a⟩:=B0 a;refine aI (G1 P (by first|rw[fL d,fL (show F2 (C1.R G) ([[iV u8,iV o,iV (-1)]]:LV) [(u8,o,(-1))] from⟨(N1 q s oD),trivial⟩)]|exact congrArg (·+1) (fL d))) ?_;exact P1 e ⟨_,_,_,rfl,rfl,f,(M0 _),(fA d (show F2 (C1.R G) ([[iV u8,iV o,iV (-1)]]:LV) [(u8,o,(-1))] from⟨(N1 q s oD),trivial⟩)),a⟩
   exact P1 e ⟨_,_,_,rfl,rfl,f,(M0 _),d,a⟩
  cases a;try dsimp only[S0,U0]at b
  exact P1 i ⟨_,_,_,rfl,rfl,((t.trans u).trans f),(M0 _),d,b⟩
 cases b;try dsimp only[S0,U0]at c
 intro aC ap M;obtain⟨ag,ak,rfl,Z,ab,av⟩:=Y0.out (r:=C1.toRp) M E;cases c;exact⟨_,_,_,rfl,Z,(t.trans ab)⟩
def q0a(h:Hp)(f:List Value)(j:j0)(x:F1.R h f j)(r:j0)(a:U01 j=some r): Tr Tryz.prog 151 #[.agg f.toArray] h λv h'=>∃(e:List Value),v = .agg e.toArray/\New F1 h h' e r:=by
 obtain⟨ai,aj,K,Q,ak,rfl,rfl,m,n,y,aa⟩:=opG x;unfold U01 at a;dsimp only at a;refine wk Tryz.f151 ?_;refine trM a (P0k _ _ _ (D0 m n y)) ?_;rintro I a ao g ⟨S,M,ag,W,rfl,b,k⟩;obtain⟨au,ay⟩:=I;dsimp only at a b k;have F:Sub h g:=b.sub;have z:=b.r;obtain⟨av,aw,L,V,ax,rfl,rfl,o,p,A,ab⟩:=opG z;try dsimp only at a
 have aq:=nD (nD (b));obtain⟨rfl,ac⟩:=sL k;refine trM a (p0a _ _ _ (D0 o p A)) ?_;rintro J a ap i ⟨T,O,ah,Y,rfl,c,l⟩;obtain⟨az,aD⟩:=J;dsimp only at a c l;have G:Sub g i:=c.sub;have C:=c.r;obtain⟨aA,aB,N,X,aC,rfl,rfl,q,s,D,ad⟩:=opG C;try dsimp only at a
 have ar:=nD (nD (c));obtain⟨rfl,ae⟩:=sL l;refine trM a (H06 _ _ _ (D0 q s D)) ?_;rintro aF a an w ⟨U,rfl,d⟩;have am:Sub i w:=d.sub;have E:=d.r;obtain⟨aG,aH,P,Z,aJ,rfl,rfl,t,u,al,af⟩:=opG E;try dsimp only at a
 have H:=nD (nD (d));cases a;exact⟨_,rfl,(nP (nI t) (nP (nI u) (New.from H (F.trans G))))⟩
def V08(h:Hp)(d:List Value)(f:j0)(o:F1.R h d f)(b:Option Addr)(e c:Nat)(g:I0)(i:J0.R h [.slice b e c] g)(r:Bool)(a:n8 f g=some r): Tr Tryz.prog 229 #[.agg d.toArray,.slice b e c] h λv h'=>v = .bool r/\h'=h:=by
 obtain⟨C,D,u,w,E,rfl,rfl,m,n,p,z⟩:=opG o;obtain⟨rfl,A⟩:=sL i;unfold n8 at a;dsimp only at a;refine wkF Tryz.f229 ?_;obtain⟨q,l,a⟩:=B0 a;obtain⟨s,t⟩:=q;try dsimp only at a
 refine Tr.val (l04 _ _ _ (D0 m n p) 0 oD _ _ _ _ i _  l) ?_;obtain⟨F,j,a⟩:=B0 a;have x:H0 s:=F0 j;obtain⟨G,k,a⟩:=B0 a;have y:H0 t:=F0 k;cases a;exact aI rfl sr
set_option maxHeartbeats 0
def D09(h:Hp)(f:List Value)(g:E3)(A:c05.R h f g)(c:BA)(t:c.size<=9223372036854775807)(r:j0×Bool)(a:j00 g c=some r): Tr Tryz.prog 63 #[.agg f.toArray,.string c] h λv h'=>∃(e:List Value),v = .tuple #[.agg e.toArray,.bool r.2]/\New F1 h h' e r.1:=by
 obtain⟨X,H,U,J,Y,rfl,rfl,s,d⟩:=s03 A;obtain⟨rfl,Q⟩:=sL d;unfold j00 at a;dsimp only at a;refine wk Tryz.f63 ?_;refine trV a (M07 _ _ _ (u02 s d) _ t) λF a=>?_;obtain⟨Z,o,a⟩:=B0 a;have O:H0 F:=F0 o;refine ifB a (λq a=>?_) λq a=>?_;·cases a;exact⟨_,rfl,(nP (nI (show H0 (0) from(oD))) (nP (nI (show H0 (0) from(oD))) ((New.nilSlice (r:=C1)).mono sr)))⟩
 obtain⟨ac,p,a⟩:=B0 a;obtain⟨k,K,m,C⟩:=Sl.getI (r:=g00.toRp) d p oD;refine aI k ?_;obtain⟨ad,ae,af,I,V,L,ag,rfl,rfl,P,u,w,i⟩:=a08 C;obtain⟨rfl,S⟩:=sL i;try dsimp only at a
 refine eX _ (aI m ?_);refine trM a (F5 _ _ _ (D0 u w i)) ?_;rintro G a ab z ⟨N,W,M,rfl,b⟩;have aa:Sub h z:=b.sub;have j:=b.r;obtain⟨ah,ai,aj⟩:=G;dsimp only at a b j;obtain⟨_,_,_,_,_,_,l,n,x,y,D⟩:=Z0 j;cases l;cases n;obtain⟨rfl,T⟩:=sL D;try dsimp only at a
 have E:=nD (nD (b));cases a;exact⟨_,rfl,(nP (nI x) (nP (nI y) E))⟩
def o0h(h:Hp)(w:List Value)(G:j0)(af:F1.R h w G)(r:T0)(b:j03 G=some r): Tr Tryz.prog 230 #[.agg w.toArray] h λv h'=>∃(t:Option Addr) (F u:Nat),v = .slice t F u/\New N0 h h' [.slice t F u] r:=by
 obtain⟨H,I,ap,ay,J,rfl,rfl,x,y,K,aL⟩:=opG af;unfold j03 at b;dsimp only at b;refine wk Tryz.f230 ?_;refine trM b (u06 _ _ _ (D0 x y K) 0 oD) ?_;rintro am b a2 ab ⟨ar,aS,aC,au,aU,aD,rfl,m,n,o⟩;obtain⟨a6,N⟩:=am;dsimp only at b m n;obtain⟨rfl,aN⟩:=sL m;obtain⟨rfl,aO⟩:=sL n;obtain⟨O,V,b⟩:=B0 b;obtain⟨ae,ak,P,S⟩:=Sl.cutI (r:=Wp.int.toRp) m V;refine aI ae (eX ak (aI P ?_));intro al Y _;obtain⟨aw,aG,rfl,M⟩:=S al Y;have aQ:=(sL M).2;obtain⟨s,W,b⟩:=B0 b;refine eX { vars:=[20],owns:=[0] } (eX (λvs os h'=>∃ d p i,vs.tail = [iV d]/\os = [p]/\Sub ab h'/\H0 d/\F2 (C1.R h') p i/\o8 O N H I J (E1 vs) d i=some s) (eX (λ_ _=>0) (aI (eX P0 ⟨_,_,_,rfl,rfl,sr,oD,(F2.up (r:=C1.toRp) o (show F2 (C1.R h) ([]:LV) ([]:T0) from trivial)),W⟩) ?_)));rintro _ p f aK ⟨d,bb,i,⟨⟩,⟨⟩,c,aJ,e,a⟩;replace a:o8 O N H I J f d i=some s:=a;obtain _|f:=f;·cases a
 rw[o8.eq_2]at a;refine ifB a (λX a=>?_) λX a=>?_
 ·refine ldI a (J0.mono c M) λa3 z a=>?_;refine ld a (T1.mono c n) λa4 az L a=>?_;obtain⟨aq,aB,rfl,aM⟩:=slL L;refine ldI a L λan Z a=>?_;refine trV a (c9 _ _ _ (D0 x y (N0.mono (o.trans c) K)) _ z (i64.wrap (0-an)) (M0 _)) λao a=>?_;obtain⟨aW,T,a⟩:=B0 a;have aa:H0 ao:=F0 T;refine trM a (q09 _ _ aa _ Z _ z) ?_;rintro a5 a aZ E ⟨aA,rfl,ag,g⟩;obtain⟨j,k,l,rfl,rfl,A,C,D⟩:=Q1 ag;try dsimp only at a
  obtain⟨aX,U,a⟩:=B0 a;refine aI (G1 U (by first|rw[fL (F2.up (r:=C1.toRp) g e),fL (show F2 (C1.R E) ([[iV j,iV k,iV l]]:LV) [(j,k,l)] from⟨(N1 A C D),trivial⟩)]|exact congrArg (·+1) (fL (F2.up (r:=C1.toRp) g e)))) ?_;exact P1 f ⟨_,_,_,rfl,rfl,(c.trans g),(M0 _),(fA (F2.up (r:=C1.toRp) g e) (show F2 (C1.R E) ([[iV j,iV k,iV l]]:LV) [(j,k,l)] from⟨(N1 A C D),trivial⟩)),a⟩
 cases a;try dsimp only[S0,U0]at b
 refine Or.inl ?_;intro a0 ac Q;obtain⟨ax,aH,rfl,ai,aj,aR⟩:=Y0.out (r:=C1.toRp) Q e;refine trM b (n05 _ _ _ _ _ ai) ?_;rintro ba b a1 ad ⟨av,aV,aF,rfl,q⟩;have aY:Sub ac ad:=q.sub;have ah:=q.r;obtain⟨rfl,aP⟩:=sL ah;cases b;exact⟨_,_,_,rfl,(New.from q ((o.trans c).trans aj))⟩
def r09(h:Hp)(w:List Value)(F:j0)(P:F1.R h w F)(r:T0)(b:u01 F=some r): Tr Tryz.prog 175 #[.agg w.toArray] h λv h'=>∃(t:Option Addr) (E u:Nat),v = .slice t E u/\New N0 h h' [.slice t E u] r:=by
 obtain⟨aj,ak,S,W,G,rfl,rfl,z,A,o,ae⟩:=opG P;unfold u01 at b;dsimp only at b;refine wk Tryz.f175 ?_;refine trV b (s02 _ _ _ (D0 z A o)) λav b=>?_;refine ifB b (λO b=>?_) λO b=>?_;·intro ar ad y;obtain⟨V,aa,rfl,an,ap,ah⟩:=Y0.out (r:=C1.toRp) y (show F2 (C1.R h) ([]:LV) ([]:T0) from trivial);cases b;exact⟨_,_,_,rfl,(Y0.newPlain (r:=C1) y (show F2 (C1.R h) ([]:LV) ([]:T0) from trivial) (U08 _))⟩
 refine trM b (o0h _ _ _ (D0 z A o)) ?_;rintro J b au D ⟨T,ai,Y,rfl,I⟩;have p:Sub h D:=I.sub;have H:=I.r;obtain⟨rfl,af⟩:=sL H;obtain⟨s,L,b⟩:=B0 b;refine eX { vars:=[17],owns:=[0] } (eX (λvs os h'=>∃ f q g,vs.tail = [iV f]/\os = [q]/\Sub D h'/\H0 f/\F2 (C1.R h') q g/\B6 G J (E1 vs) f g=some s) (eX (λ_ _=>0) (aI (eX P0 ⟨_,_,_,rfl,rfl,sr,oD,(F2.up (r:=C1.toRp) p (show F2 (C1.R h) ([]:LV) ([]:T0) from trivial)),L⟩) ?_)));rintro _ q d C ⟨f,ay,g,⟨⟩,⟨⟩,e,ab,c,a⟩;replace a:B6 G J d f g=some s:=a;obtain _|d:=d;·cases a
 rw[B6.eq_2]at a;refine ifB a (λM a=>?_) λM a=>?_
 ·refine ld a (N0.mono (p.trans e) o) λaw X Q a=>?_;obtain⟨i,j,k,rfl,rfl,l,m,n⟩:=Q1 Q;try dsimp only at a
  refine trV a (f04 _ _ _ _ _ (N0.mono e H) _ _ (N1 l m n)) λax a=>?_;refine ifB a (λN a=>?_) λN a=>?_;·obtain⟨al,K,a⟩:=B0 a;refine aI (G1 K (by first|rw[fL c,fL (show F2 (C1.R C) ([[iV i,iV j,iV k]]:LV) [(i,j,k)] from⟨(N1 l m n),trivial⟩)]|exact congrArg (·+1) (fL c))) ?_;exact P1 d ⟨_,_,_,rfl,rfl,e,(M0 _),(fA c (show F2 (C1.R C) ([[iV i,iV j,iV k]]:LV) [(i,j,k)] from⟨(N1 l m n),trivial⟩)),a⟩
  exact P1 d ⟨_,_,_,rfl,rfl,e,(M0 _),c,a⟩
 cases a;try dsimp only[S0,U0]at b
 intro aq ac x;obtain⟨U,Z,rfl,am,ao,ag⟩:=Y0.out (r:=C1.toRp) x c;cases b;exact⟨_,_,_,rfl,(New.from (Y0.newPlain (r:=C1) x c (U08 _)) (p.trans e))⟩
def Q0k(h:Hp)(P:List Value)(ab:j0)(aX:F1.R h P ab)(r:M1)(d:A04 ab=some r): Tr Tryz.prog 160 #[.agg P.toArray] h λv h'=>∃(J:Option Addr) (aa O:Nat),v = .slice J aa O/\T1.R h' [.slice J aa O] r/\Sub h h':=by
 obtain⟨cb,cc,bk,br,cd,rfl,rfl,D,E,F,bR⟩:=opG aX;unfold A04 at d;dsimp only at d;refine wk Tryz.f160 ?_;refine trV d (m00 _ _ _ (D0 D E F)) λco d=>?_;refine ifB d (λaQ d=>?_) λaQ d=>?_;·intro cl bN aC;obtain⟨bq,bC,rfl,a5,be,b4⟩:=Y0.out (r:=J0.toRp) aC (show F2 (J0.R h) ([]:LV) ([]:M1) from trivial);cases d;exact⟨_,_,_,rfl,a5,be⟩
 refine trM d (u06 _ _ _ (D0 D E F) 0 oD) ?_;rintro bj d cn aS ⟨bm,b8,bx,K,ca,Q,rfl,ah,q,G⟩;obtain⟨cq,z⟩:=bj;dsimp only at d ah q;obtain⟨rfl,bW⟩:=sL ah;obtain⟨rfl,bX⟩:=sL q;refine trM d (r09 _ _ _ (D0 D E (N0.mono G F))) ?_;rintro al d ck W ⟨bl,b5,bv,rfl,ai⟩;have t:Sub aS W:=ai.sub;have ac:=ai.r;obtain⟨rfl,bS⟩:=sL ac;obtain⟨I,aO,d⟩:=B0 d;refine eX { vars:=[21],owns:=[0] } (eX (λvs os h'=>∃ i H u,vs.tail = [iV i]/\os = [H]/\Sub W h'/\H0 i/\F2 (J0.R h') H u/\W9 al z (E1 vs) i u=some I) (eX (λ_ _=>0) (aI (eX P0 ⟨_,_,_,rfl,rfl,sr,oD,(F2.up (r:=J0.toRp) (G.trans t) (show F2 (J0.R h) ([]:LV) ([]:M1) from trivial)),aO⟩) ?_)));rintro _ H p bH ⟨i,cr,u,⟨⟩,⟨⟩,g,bD,o,b⟩;replace b:W9 al z p i u=some I:=b;obtain _|p:=p;·cases b
 rw[W9.eq_2]at b;refine ifB b (λaP b=>?_) λaP b=>?_
 ·refine ld b (N0.mono g ac) λcp bs aY b=>?_;obtain⟨bg,w,bh,rfl,rfl,bE,aR,bG⟩:=Q1 aY;try dsimp only at b
  refine w5 18 ?_;obtain⟨j,aG,b⟩:=B0 b;obtain⟨ap,bt,aw,ad⟩:=Sl.getI (r:=J0.toRp) (T1.mono (t.trans g) q) aG oD;obtain⟨A,C,rfl,bU⟩:=slL ad;refine pm (.hel (.slice K z.length Q) bg 1 0) ?_ ?_;·intro bI cf;exact aI ap r3
  refine pm (.val (.slice A j.length C)) ?_ ?_;·intro bJ a6;exact eX _ (aI (T7.up a6 aw) r3)
  obtain⟨f,aH,b⟩:=B0 b;refine fS J0 f ?_ ?_;·intro X cg;have ax:[w]=f:=oJ aH;intro v k hf;obtain⟨a,c,rfl,r,e,l⟩:=Y0.out (r:=Wp.int.toRp) (xs:=f) hf (show F2 (Wp.int.R X) [[iV w]] f from ax▸(show F2 (Wp.int.R X) [[iV w]] [w] from⟨⟨rfl,aR⟩,trivial⟩));exact aI ⟨rfl,rfl,rfl,[_],rfl⟩ (aI e ⟨a,c,rfl,r,l⟩)
  obtain⟨bi,aJ,b⟩:=B0 b;obtain⟨aq,bu,ay,ae⟩:=Sl.getI (r:=J0.toRp) (T1.mono (t.trans g) q) aJ oD;obtain⟨am,ar,rfl,bV⟩:=slL ae;refine pm (.hel (.slice K z.length Q) bh 1 0) ?_ ?_;·intro bK ch;exact aI aq r3
  refine pm (.val (.slice am bi.length ar)) ?_ ?_;·intro bL ba;exact eX _ (aI (T7.up ba ay) r3)
  obtain⟨m,aK,b⟩:=B0 b;refine fS J0 m ?_ ?_;·intro bM bb;refine Tr.mono (o09 _ _ _ _ _ (J0.mono bb ae) _ aK) ?_;rintro _ aU ⟨an,b6,au,rfl,aj⟩;have e:=aj.sub;have af:=aj.r;obtain⟨rfl,aV⟩:=sL af;exact aI E6 (aI e ⟨an,au,rfl,af,aV⟩)
  obtain⟨x,aL,b⟩:=B0 b;refine fS T1 x ?_ ?_;·intro Y bc;rintro _ ⟨L,S,rfl,aZ,bY⟩;rintro _ ⟨M,T,rfl,a0,bZ⟩;have az:[j,f,m]=x:=oJ aL;intro v k hf;obtain⟨a,c,rfl,r,e,l⟩:=Y0.out (r:=J0.toRp) (xs:=x) hf (show F2 (J0.R Y) [[.slice A j.length C],[.slice L f.length S],[.slice M m.length T]] x from az▸(show F2 (J0.R Y) [[.slice A j.length C],[.slice L f.length S],[.slice M m.length T]] [j,f,m] from⟨(J0.mono bc ad),⟨aZ,⟨a0,trivial⟩⟩⟩));exact aI ⟨rfl,rfl,rfl,[_],rfl⟩ (aI e ⟨a,c,rfl,r,l⟩)
  obtain⟨n,aM,b⟩:=B0 b;refine fS J0 n ?_ ?_;·intro bO ci;rintro _ ⟨bn,bz,rfl,a1,b0⟩;refine Tr.mono (t06 _ _ _ _ _ a1 _ aM) ?_;rintro _ aU ⟨ao,b7,av,rfl,ak⟩;have e:=ak.sub;have ag:=ak.r;obtain⟨rfl,aW⟩:=sL ag;exact aI E6 (aI e ⟨ao,av,rfl,ag,aW⟩)
  obtain⟨y,aN,b⟩:=B0 b;refine fS T1 y ?_ ?_;·intro Z cj;rintro _ ⟨N,U,rfl,a2,b1⟩;have aA:[n]=y:=oJ aN;intro v k hf;obtain⟨a,c,rfl,r,e,l⟩:=Y0.out (r:=J0.toRp) (xs:=y) hf (show F2 (J0.R Z) [[.slice N n.length U]] y from aA▸(show F2 (J0.R Z) [[.slice N n.length U]] [n] from⟨a2,trivial⟩));exact aI ⟨rfl,rfl,rfl,[_],rfl⟩ (aI e ⟨a,c,rfl,r,l⟩)
  intro bP s;rintro _ ⟨bo,bA,rfl,a3,b2⟩;rintro _ _;rintro _ _;rintro _ _;rintro _ _;obtain⟨bf,aB,V⟩:=Sl.rows (r:=J0.toRp) a3;refine eX bf (aI aB ?_);obtain⟨ce,aF,b⟩:=B0 b;refine aI (G1 aF (by first|rw[fL (F2.up (r:=J0.toRp) s o),fL V]|exact congrArg (·+1) (fL (F2.up (r:=J0.toRp) s o)))) ?_;exact P1 p ⟨_,_,_,rfl,rfl,(g.trans s),(M0 _),(fA (F2.up (r:=J0.toRp) s o) V),b⟩
 cases b;try dsimp only[S0,U0]at d
 intro cm bQ aD;obtain⟨bp,bB,rfl,a4,bd,b3⟩:=Y0.out (r:=J0.toRp) aD o;cases d;exact⟨_,_,_,rfl,a4,(((G.trans t).trans g).trans bd)⟩
def x0c(h:Hp)(d:List Value)(g:j0)(p:F1.R h d g)(r:Bool)(a:l01 g=some r): Tr Tryz.prog 163 #[.agg d.toArray] h λv h'=>v = .bool r/\h'=h:=by
 obtain⟨M,N,x,z,O,rfl,rfl,e,f,i,J⟩:=opG p;unfold l01 at a;dsimp only at a;refine wkF Tryz.f163 ?_;refine aI kR ?_;obtain⟨w,m,a⟩:=B0 a;refine pm (.val (.bool w)) ?_ ?_;·intro F s;exact Tr.val (m00 _ _ _ (D0 e f (N0.mono s i)) _ m) r3
 obtain⟨c,n,a⟩:=B0 a;refine fS N0 c ?_ ?_;·intro G t b;refine Tr.mono (q0d _ _ _ (D0 e f (N0.mono t i)) _ (N7 n b)) ?_;rintro _ I ⟨k,L,l,rfl,j,u⟩;obtain⟨rfl,o⟩:=sL j;exact aI E6 (aI u ⟨k,l,rfl,j,o⟩)
 obtain⟨P,C,a⟩:=B0 a;refine pm (.val (iV ((c.length:Nat):Int))) ?_ ?_;·intro H T b;rintro _ ⟨y,A,rfl,Q,K⟩;exact r3
 refine pm (.val (.bool (decide (((c.length:Nat):Int)=0)))) ?_ ?_;·intro D S b;exact r3
 intro E q;cases a;exact aI rfl q
def w06(h:Hp)(c:Int)(o:H0 c)(e:Option Addr)(j f:Nat)(k:M1)(l:T1.R h [.slice e j f] k)(r:j0×Bool)(a:r00 c k=some r): Tr Tryz.prog 99 #[iV c,.slice e j f] h λv h'=>∃(g:List Value),v = .tuple #[.agg g.toArray,.bool r.2]/\New F1 h h' g r.1:=by
 obtain⟨rfl,I⟩:=sL l;unfold r00 at a;refine wk Tryz.f99 ?_;refine trM a (n0i _ _ o _ _ _ _ l) ?_;rintro A a N i ⟨E,rfl,b⟩;obtain⟨Q,V⟩:=A;dsimp only at a b;have m:Sub h i:=b.sub;have w:=b.r;obtain⟨S,T,C,G,U,rfl,rfl,p,q,x,J⟩:=opG w;try dsimp only at a
 have P:=nD (nD (b));refine ifB a (λn a=>?_) λn a=>?_;·cases a;exact⟨_,rfl,(nP (nI (show H0 (0) from(oD))) (nP (nI (show H0 (0) from(oD))) ((New.nilSlice (r:=C1)).mono m)))⟩
 refine trM a (q0a _ _ _ (D0 p q x)) ?_;rintro W a O u ⟨F,rfl,d⟩;have M:Sub i u:=d.sub;have y:=d.r;obtain⟨X,Y,D,H,Z,rfl,rfl,s,t,L,K⟩:=opG y;try dsimp only at a
 have z:=nD (nD (d));cases a;exact⟨_,rfl,(nP (nI s) (nP (nI t) (New.from z m)))⟩
def r0d(h:Hp)(f:List Value)(j:j0)(u:F1.R h f j)(d:Option Addr)(i e:Nat)(k:M1)(m:T1.R h [.slice d i e] k)(r:Bool)(a:G01 j k=some r): Tr Tryz.prog 246 #[.agg f.toArray,.slice d i e] h λv h'=>v = .bool r/\h'=h:=by
 obtain⟨I,J,z,C,K,rfl,rfl,b,g,l,F⟩:=opG u;obtain⟨rfl,G⟩:=sL m;unfold G01 at a;dsimp only at a;refine wkF Tryz.f246 ?_;refine trV a (m00 _ _ _ (D0 b g l)) λM a=>?_;refine ifB a (λo a=>?_) λo a=>?_;·cases a;exact aI rfl sr
 refine trM a (w06 _ _ b _ _ _ _ m) ?_;rintro y a L t ⟨D,rfl,c⟩;obtain⟨N,S⟩:=y;dsimp only at a c;have n:Sub h t:=c.sub;have w:=c.r;obtain⟨O,P,A,E,Q,rfl,rfl,p,s,x,H⟩:=opG w;try dsimp only at a
 refine trG a (λq=>G05 _ _ _ (D0 b g (N0.mono n l)) _ _ (D0 p s x)) λT a=>?_;cases a;exact aI rfl n
def q0i(h:Hp)(e:List Value)(j:j0)(x:F1.R h e j)(c:Option Addr)(i d:Nat)(k:I0)(m:J0.R h [.slice c i d] k)(r:Bool)(a:V03 j k=some r): Tr Tryz.prog 174 #[.agg e.toArray,.slice c i d] h λv h'=>v = .bool r/\h'=h:=by
 obtain⟨W,X,I,K,Y,rfl,rfl,f,g,l,S⟩:=opG x;obtain⟨rfl,T⟩:=sL m;unfold V03 at a;dsimp only at a;refine wkF Tryz.f174 ?_;refine w4 ?_;obtain⟨F,s,a⟩:=B0 a;refine pm (.val (.bool F)) ?_ ?_;·intro N A;exact Tr.val (m00 _ _ _ (D0 f g (N0.mono A l)) _ s) r3
 obtain⟨G,t,a⟩:=B0 a;refine fS J0 G ?_ ?_;·intro O C b;refine Tr.mono (E02 _ _ _ _ _ (J0.mono C m) _ (N7 t b)) ?_;rintro _ Q ⟨p,V,q,rfl,o⟩;have E:=o.sub;have n:=o.r;obtain⟨rfl,w⟩:=sL n;exact aI E6 (aI E ⟨p,q,rfl,n,w⟩)
 obtain⟨H,u,a⟩:=B0 a;refine pm (.val (.bool H)) ?_ ?_;·intro P D b;rintro _ ⟨J,L,rfl,y,U⟩;exact Tr.val (V08 _ _ _ (D0 f g (N0.mono D l)) _ _ _ _ y _ (N7 u b)) r3
 intro M z;cases a;exact aI rfl z
def m0l(h:Hp)(G:List Value)(N:j0)(ay:F1.R h G N)(A:Option Addr)(M E:Nat)(O:I0)(x:J0.R h [.slice A M E] O)(r:j0×Int×Bool)(b:l05 N O=some r): Tr Tryz.prog 233 #[.agg G.toArray,.slice A M E] h λv h'=>∃(F:List Value),v = .tuple #[.agg F.toArray,iV r.2.1,.bool r.2.2]/\F1.R h' F r.1/\Sub h h':=by
 obtain⟨bo,bp,aU,aZ,bq,rfl,rfl,u,p,w,bi⟩:=opG ay;obtain⟨rfl,bj⟩:=sL x;unfold l05 at b;dsimp only at b;refine wk Tryz.f233 ?_;obtain⟨aM,Z,b⟩:=B0 b;obtain⟨aP,aQ⟩:=aM;try dsimp only at b
 refine Tr.val (l04 _ _ _ (D0 u p w) 0 oD _ _ _ _ x _  Z) ?_;obtain⟨br,X,b⟩:=B0 b;have ag:H0 aP:=F0 X;obtain⟨bs,Y,b⟩:=B0 b;have a6:H0 aQ:=F0 Y;refine ifB b (λad b=>?_) λad b=>?_;·cases b;exact⟨_,rfl,(D0 u p w),sr⟩
 refine trM b (n0h _ _ _ (D0 u p w)) ?_;rintro aR b bz L ⟨a1,rfl,y⟩;obtain⟨bA,bE⟩:=aR;dsimp only at b y;have s:Sub h L:=y.sub;have aA:=y.r;obtain⟨bB,bC,aV,a2,bD,rfl,rfl,ah,ai,aB,bk⟩:=opG aA;try dsimp only at b
 refine ifB b (λae b=>?_) λae b=>?_;·cases b;exact⟨_,rfl,(D0 oD oD (z09 C1 L)),s⟩
 refine w5 10 ?_;obtain⟨aS,ab,b⟩:=B0 b;refine fS J0 aS ?_ ?_;·intro bc aJ;obtain⟨ax,aL,U,W⟩:=Sl.cutI (r:=Wp.int.toRp) (J0.mono (s.trans aJ) x) ab;refine aI ax (eX aL (aI U ?_));intro v af _;obtain⟨a,c,rfl,r⟩:=W v af;exact aI E6 (aI sr ⟨a,c,rfl,r,(sL r).2⟩)
 obtain⟨aN,aa,b⟩:=B0 b;obtain⟨aO,z⟩:=aN;try dsimp only at b
 obtain⟨k,l,g⟩:=aO;try dsimp only at b
 refine Or.inr (eX (λv i=>∃(j:Value),v = .tuple #[j,.bool z]/\(λv i=>∃(d:Option Addr) (f:Nat),v = .agg #[iV k,iV l,.slice d g.length f]/\H0 k/\H0 l/\N0.R i [.slice d g.length f] g/\g.length<=9223372036854775807) j i) (aI (λv J K m q=>by obtain⟨j,e,t⟩:=q;exact⟨j,e,(by obtain⟨d,f,e,n,o,f2,f3⟩:=t;exact⟨d,f,e,n,o,N0.mono m f2,f3⟩)⟩) (aI ?_ ?_)));·intro bd aK;rintro _ ⟨aW,a3,rfl,aD,bl⟩;refine Tr.mono (v0c _ _ _ (D0 ah ai (N0.mono aK aB)) _ ag _ _ _ _ aD _ p _ aa) ?_;rintro _ bh ⟨a0,rfl,Q⟩;have m:=Q.sub;have az:=Q.r;obtain⟨bG,bH,C,H,bI,rfl,V,aj,ak,aC,au⟩:=opG az;cases V;exact aI E6 (aI m ⟨(.agg #[iV k,iV l,.slice C g.length H]),rfl,⟨C,H,rfl,aj,ak,aC,au⟩⟩)
 refine Or.inr (eX (λv i=>∃(j:Value),v = .tuple #[j,.bool z]/\(λv i=>∃(d:Option Addr) (f:Nat),v = .agg #[iV k,iV l,.slice d g.length f]/\H0 k/\H0 l/\N0.R i [.slice d g.length f] g/\g.length<=9223372036854775807) j i) (aI (λv J K m q=>by obtain⟨j,e,t⟩:=q;exact⟨j,e,(by obtain⟨d,f,e,n,o,f2,f3⟩:=t;exact⟨d,f,e,n,o,N0.mono m f2,f3⟩)⟩) (aI ?_ ?_)));·intro be bu;rintro _ ⟨_,rfl,⟨D,I,rfl,al,am,aF,av⟩⟩;exact aI E6 (aI sr ⟨(.agg #[iV k,iV l,.slice D g.length I]),rfl,⟨D,I,rfl,al,am,aF,av⟩⟩)
 refine Or.inr (eX (λv i=>∃(d:Option Addr) (f:Nat),v = .agg #[iV k,iV l,.slice d g.length f]/\H0 k/\H0 l/\N0.R i [.slice d g.length f] g/\g.length<=9223372036854775807) (aI (λv J K m q=>by obtain⟨d,f,e,n,o,f2,f3⟩:=q;exact⟨d,f,e,n,o,N0.mono m f2,f3⟩) (aI ?_ ?_)));·intro bf bv;rintro _ ⟨_,rfl,⟨S,T,rfl,an,ao,aG,aw⟩⟩;exact aI E6 (aI sr ⟨S,T,rfl,an,ao,aG,aw⟩)
 refine pm (.val (.bool z)) ?_ ?_;·intro bg bx;rintro _ ⟨_,rfl,⟨aX,a4,rfl,ba,bb,bt,bm⟩⟩;exact r3
 intro ar P;rintro _ ⟨aY,a5,rfl,ap,aq,aH,bn⟩;rintro _ _;rintro _ _;rintro _ _;refine ifB b (λac b=>?_) λac b=>?_;·cases b;exact⟨_,rfl,(D0 oD oD (z09 C1 ar)),(s.trans P)⟩
 cases b;exact⟨_,rfl,(D0 ap aq aH),(s.trans P)⟩
def R0k(h:Hp)(b:List Value)(c:j0)(g:F1.R h b c)(r:Int)(a:k03 c=some r): Tr Tryz.prog 117 #[.agg b.toArray] h λv h'=>v=iV r/\h'=h:=by
 obtain⟨m,n,j,k,o,rfl,rfl,e,f,i,l⟩:=opG g;unfold k03 at a;dsimp only at a;refine wkF Tryz.f117 ?_;refine trV a (x0c _ _ _ (D0 e f i)) λp a=>?_;refine ifB a (λd a=>?_) λd a=>?_;·cases a;exact aI rfl sr
 cases a;exact aI rfl sr
def x06(h:Hp)(j:List Value)(l:j6)(H:S4.R h j l)(r:Bool)(a:R6 l=some r): Tr Tryz.prog 200 #[.agg j.toArray] h λv h'=>v = .bool r/\h'=h:=by
 obtain⟨aA,aB,T,au,Z,aC,U,av,aa,aD,V,aw,ab,aF,aG,aH,W,ax,ac,aJ,aK,rfl,rfl,af,k,f,g,m,d,e,c,ag⟩:=p01 H;obtain⟨rfl,am⟩:=sL f;obtain⟨rfl,an⟩:=sL g;obtain⟨rfl,ao⟩:=sL m;obtain⟨rfl,ap⟩:=sL c;unfold R6 at a;dsimp only at a;refine wkF Tryz.f200 ?_;refine trV a (Y03 _ _ k _ _ _ _ f) λaL a=>?_;refine trG a (λq=>l00 _ _ k _ _ _ _ g) λaM a=>?_;refine trG a (λq=>m00 _ _ _ (D0 d e c)) λaN a=>?_;refine ifB a (λC a=>?_) λC a=>?_;·cases a;exact aI rfl sr
 refine ifB a (λD a=>?_) λD a=>?_
 ·refine w4 ?_;obtain⟨Q,z,a⟩:=B0 a;refine pm (.val (.bool Q)) ?_ ?_;·intro al p;exact Tr.val (r0d _ _ _ (D0 d e (N0.mono p c)) _ _ _ _ (T1.mono p f) _ z) r3
  obtain⟨S,A,a⟩:=B0 a;refine fS T1 S ?_ ?_;·intro ah K b;refine Tr.mono (Q0k _ _ _ (D0 d e (N0.mono K c)) _ (N7 A b)) ?_;rintro _ E ⟨t,az,w,rfl,o,i⟩;obtain⟨rfl,G⟩:=sL o;exact aI E6 (aI i ⟨t,w,rfl,o,G⟩)
  obtain⟨O,x,a⟩:=B0 a;refine fS J0 O ?_ ?_;·intro ai L b;rintro _ ⟨X,ad,rfl,I,aq⟩;refine Tr.mono (p0i _ _ _ _ _ I _ _ _ _ (J0.mono L m) _ (N7 x b)) ?_;rintro _ E ⟨s,ay,u,rfl,n,i⟩;obtain⟨rfl,F⟩:=sL n;exact aI E6 (aI i ⟨s,u,rfl,n,F⟩)
  obtain⟨P,y,a⟩:=B0 a;refine pm (.val (.bool P)) ?_ ?_;·intro aj M b;rintro _ ⟨Y,ae,rfl,J,ar⟩;exact Tr.val (a0g _ _ _ _ _ J _ _ _ _ (J0.mono M g) _ (N7 y b)) r3
  intro ak N;cases a;exact aI rfl N
 cases a
def F0e(h:Hp)(m:List Value)(t:T3)(P:L04.R h m t)(r:I0)(d:l02 t=some r): Tr Tryz.prog 134 #[.agg m.toArray] h λv h'=>∃(k:Option Addr) (s l:Nat),v = .slice k s l/\New J0 h h' [.slice k s l] r:=by
 obtain⟨u,S,an,Y,w,rfl,rfl,af,x⟩:=x03 P;obtain⟨rfl,ah⟩:=sL x;unfold l02 at d;dsimp only at d;refine wk Tryz.f134 ?_;obtain⟨j,H,d⟩:=B0 d;refine eX { vars:=[10],owns:=[0] } (eX (λvs os h'=>∃ b i g,vs.tail = [iV b]/\os = [i]/\Sub h h'/\H0 b/\F2 (Wp.int.R h') i g/\S5 w u (E1 vs) b g=some j) (eX (λ_ _=>0) (aI (eX P0 ⟨_,_,_,rfl,rfl,sr,oD,(show F2 (Wp.int.R h) ([]:LV) ([]:I0) from trivial),H⟩) ?_)));rintro _ i e p ⟨b,aL,g,⟨⟩,⟨⟩,f,o,c,a⟩;replace a:S5 w u e b g=some j:=a;obtain _|e:=e;·cases a
 rw[S5.eq_2]at a;refine ifB a (λI a=>?_) λI a=>?_
 ·obtain⟨ay,G,a⟩:=B0 a;obtain⟨D,Z,E,Q⟩:=Sl.getI (r:=S4.toRp) (J3.mono f x) G oD;refine aI D ?_;obtain⟨az,aA,T,ao,aa,aB,U,ap,ab,aC,V,aq,ac,aD,aF,aG,W,ar,ad,aH,aJ,rfl,rfl,K,L,y,z,A,M,N,C,O⟩:=p01 Q;obtain⟨rfl,ai⟩:=sL y;obtain⟨rfl,aj⟩:=sL z;obtain⟨rfl,ak⟩:=sL A;obtain⟨rfl,al⟩:=sL C;try dsimp only at a
  refine eX _ (aI E ?_);refine trG a (λq=>x06 _ _ _ (W7 K L y z A M N C O)) λaK a=>?_;refine ifB a (λJ a=>?_) λJ a=>?_;·obtain⟨au,F,a⟩:=B0 a;refine aI (G1 F (by first|rw[fL c,fL (show F2 (Wp.int.R p) ([[iV b]]:LV) [b] from⟨⟨rfl,o⟩,trivial⟩)]|exact congrArg (·+1) (fL c))) ?_;exact P1 e ⟨_,_,_,rfl,rfl,f,(M0 _),(fA c (show F2 (Wp.int.R p) ([[iV b]]:LV) [b] from⟨⟨rfl,o⟩,trivial⟩)),a⟩
  exact P1 e ⟨_,_,_,rfl,rfl,f,(M0 _),c,a⟩
 cases a;try dsimp only[S0,U0]at d
 intro ax ag n;obtain⟨X,ae,rfl,av,aw,am⟩:=Y0.out (r:=Wp.int.toRp) n c;cases d;exact⟨_,_,_,rfl,(New.from (Y0.newPlain (r:=Wp.int) n c (B07 _)) f)⟩
def y06(h:Hp)(d:List Value)(f:T3)(q:L04.R h d f)(r:Bool)(a:R7 f=some r): Tr Tryz.prog 73 #[.agg d.toArray] h λv h'=>v = .bool r/\h'=h:=by
 obtain⟨P,x,N,z,g,rfl,rfl,e,i⟩:=x03 q;obtain⟨rfl,L⟩:=sL i;unfold R7 at a;dsimp only at a;refine wkF Tryz.f73 ?_;refine aI kR ?_;obtain⟨w,n,a⟩:=B0 a;refine pm (.val (.bool w)) ?_ ?_;·intro G V;exact Tr.val (U3 _ _ e 1 oD 3 oD _ n) r3
 refine pm (.val (iV ((g.length:Nat):Int))) ?_ ?_;·intro H W b;exact r3
 refine pm (.val (.bool (decide (((g.length:Nat):Int)<=12)))) ?_ ?_;·intro I X b;exact r3
 obtain⟨c,o,a⟩:=B0 a;refine fS J0 c ?_ ?_;·intro J s b;refine Tr.mono (F0e _ _ _ (a04 e (J3.mono s i)) _ (N7 o b)) ?_;rintro _ K ⟨l,O,m,rfl,k⟩;have u:=k.sub;have j:=k.r;obtain⟨rfl,p⟩:=sL j;exact aI E6 (aI u ⟨l,m,rfl,j,p⟩)
 obtain⟨Q,C,a⟩:=B0 a;refine pm (.val (iV ((c.length:Nat):Int))) ?_ ?_;·intro D T b;rintro _ ⟨y,A,rfl,S,M⟩;exact r3
 refine pm (.val (.bool (decide (((c.length:Nat):Int)=0)))) ?_ ?_;·intro E U b;exact r3
 intro F t;cases a;exact aI rfl t
end Go.Proofs.YthakcafglempaaaGreat
