/- Texts of the claim, joined: The walks of batch h1 and others. -/
import Derived.Test.YthkpbcnhdhfifaaGreatH53
import Derived.Test.YthkpbcnhdhfifaaGreatPart24
import Derived.Test.YthkpbcnhdhfifaaGreatPart22
import Derived.Test.YthkpbcnhdhfifaaGreatChecked
import Derived.Test.YthkpbcnhdhfifaaGreatH35
import Derived.Test.YthkpbcnhdhfifaaGreatPart37
import Derived.Test.YthkpbcnhdhfifaaGreatPart39
import Derived.Test.YthkpbcnhdhfifaaGreatH41
import Derived.Test.YthkpbcnhdhfifaaGreatPart21
import Derived.Test.YthkpbcnhdhfifaaGreatH36
import Derived.Test.YthkpbcnhdhfifaaGreatPart27
import Derived.Test.YthkpbcnhdhfifaaGreatPart23
namespace Go.Proofs.YthkpbcnhdhfifaaGreat
set_option linter.all false
open Go.H
open IntKind (i64)
set_option maxRecDepth 10000
def k0j(h:Hp)(b:Int)(d:I0 b)(r:B0×Bool)(a:f06 b=some r): Tr Tryz.prog 147 #[iV b] h λv h'=>∃(c:List Value),v = .tuple #[.agg c.toArray,.bool r.2]/\I1.R h' c r.1/\Sub h h':=by
 unfold f06 at a;refine wk Tryz.f147 ?_;refine trV a (p5 _ _ d 1 oD 3 oD) λf a=>?_;refine ifB a (λe a=>?_) λe a=>?_;·cases a;exact⟨_,rfl,(C0 oD oD (d02 E1 h)),sr⟩
 cases a;exact⟨_,rfl,(C0 d oD (d02 E1 h)),sr⟩
def v09(h:Hp)(I:List Value)(P:B0)(aP:I1.R h I P)(F:Int)(K:I0 F)(n:Option Addr)(O o:Nat)(j:J0)(k:K0.R h [.slice n O o] j)(f:Int)(s:I0 f)(r:B0×Bool)(b:I02 P F j f=some r): Tr Tryz.prog 87 #[.agg I.toArray,iV F,.slice n O o,iV f] h λv h'=>∃(H:List Value),v = .tuple #[.agg H.toArray,.bool r.2]/\I1.R h' H r.1/\Sub h h':=by
 obtain⟨bW,Q,a4,bb,bX,rfl,rfl,D,J,S,bJ⟩:=opG aP;obtain⟨rfl,bK⟩:=sL k;unfold I02 at b;dsimp only at b;refine wk Tryz.f87 ?_;refine trM b (F5 _ _ _ (C0 D J S)) ?_;rintro cf b ca N ⟨bc,rfl,ac⟩;have e:Sub h N:=ac.sub;have aQ:=ac.r;obtain⟨ch,ci,a5,bh,cj,rfl,rfl,L,M,T,bM⟩:=opG aQ;try dsimp only at b
 refine trV b (H8 _ _ _ (C0 D J (M0.mono e S))) λcl b=>?_;refine trG b (λq=>p5 _ _ K 0 oD (i64.wrap (Q-1)) (O0 _)) λco b=>?_;refine trG b (λq=>p5 _ _ s 0 oD (i64.wrap (Q-1)) (O0 _)) λcr b=>?_;refine trG b (λq=>s02 _ _ D _ _ _ _ (K0.mono e k)) λcs b=>?_;refine ifB b (λaC b=>?_) λaC b=>?_;·cases b;exact⟨_,rfl,(C0 L M T),e⟩
 obtain⟨G,ax,b⟩:=D0 b;refine eX { vars:=[11,12],boxes:=[2] } (eX (λvs os h'=>∃ c g u i A E C z,vs.tail = [iV c,iV g,iV u,iV i,.slice A E C]/\os = []/\Sub N h'/\I0 c/\I0 g/\I0 u/\I0 i/\M0.R h' [.slice A E C] z/\O6 j f (P1 vs) c g u i z=some G) (eX (λ_ _=>0) (aI (eX U0 ⟨_,_,_,_,_,_,_,_,rfl,rfl,sr,K,oD,L,M,T,ax⟩) ?_)));rintro _ _ _ _ _ m br ⟨c,g,u,i,A,E,C,z,⟨⟩,⟨⟩,d,y,bm,t,l,p,a⟩;replace a:O6 j f m c g u i z=some G:=a;obtain _|m:=m;·cases a
 rw[O6.eq_2]at a;obtain⟨rfl,bL⟩:=sL p;refine ifB a (λay a=>?_) λay a=>?_
 ·refine ifB a (λaz a=>?_) λaz a=>?_
  ·refine ldI a (K0.mono (e.trans d) k) λcg bn a=>?_;refine ifB a (λaA a=>?_) λaA a=>?_
   ·refine w5 9 ?_;obtain⟨ah,ar,a⟩:=D0 a;obtain⟨aj,bd,an,aR⟩:=Sl.getI (r:=Wp.int.toRp) (K0.mono (e.trans d) k) ar oD;obtain⟨rfl,aD⟩:=aR;refine pm (.hel (.slice n j.length o) g 1 0) ?_ ?_;·intro bs bY;exact aI aj r3
    refine pm (.val (iV ah)) ?_ ?_;·intro bt aW;exact eX _ (aI (U8.up aW an) r3)
    refine pm (.agg [.val (iV c),.val (iV ah),.val (iV i)]) ?_ ?_;·intro bu bZ;exact r3
    intro aG Y;refine trM a (o02 _ _ _ _ _ (M0.mono Y p) _ _ (Z1 y aD l)) ?_;rintro ck a cb aH ⟨a6,bR,bi,rfl,ad⟩;have a0:Sub aG aH:=ad.sub;have U:=ad.r;obtain⟨rfl,bN⟩:=sL U;exact C2 m ⟨_,_,_,_,_,_,_,_,rfl,rfl,((d.trans Y).trans a0),l,(O0 _),t,(O0 _),U,a⟩
   refine w5 10 ?_;obtain⟨w,au,a⟩:=D0 a;obtain⟨ak,be,ao,aS⟩:=Sl.getI (r:=Wp.int.toRp) (K0.mono (e.trans d) k) au oD;obtain⟨rfl,bo⟩:=aS;refine pm (.hel (.slice n j.length o) g 1 0) ?_ ?_;·intro bv b0;exact aI ak r3
   refine pm (.val (iV w)) ?_ ?_;·intro bx aX;exact eX _ (aI (U8.up aX ao) r3)
   refine pm (.val (iV (i64.wrap (0-w)))) ?_ ?_;·intro bz b1;exact r3
   refine pm (.agg [.val (iV i),.val (iV (i64.wrap (0-w))),.val (iV c)]) ?_ ?_;·intro bA b2;exact r3
   intro aJ Z;refine trM a (o02 _ _ _ _ _ (M0.mono Z p) [iV i,iV (i64.wrap (0-w)),iV c] (i,(i64.wrap (0-w)),c) (Z1 l (O0 _) y)) ?_;rintro cm a cc aK ⟨a7,bS,bj,rfl,ae⟩;have a1:Sub aJ aK:=ae.sub;have V:=ae.r;obtain⟨rfl,bO⟩:=sL V;exact C2 m ⟨_,_,_,_,_,_,_,_,rfl,rfl,((d.trans Z).trans a1),l,(O0 _),t,(O0 _),V,a⟩
  refine ldI a (K0.mono (e.trans d) k) λcn bp a=>?_;refine ifB a (λaB a=>?_) λaB a=>?_
  ·refine w5 9 ?_;obtain⟨ai,av,a⟩:=D0 a;obtain⟨al,bf,ap,aU⟩:=Sl.getI (r:=Wp.int.toRp) (K0.mono (e.trans d) k) av oD;obtain⟨rfl,aF⟩:=aU;refine pm (.hel (.slice n j.length o) g 1 0) ?_ ?_;·intro bB b3;exact aI al r3
   refine pm (.val (iV ai)) ?_ ?_;·intro bC aY;exact eX _ (aI (U8.up aY ap) r3)
   refine pm (.agg [.val (iV c),.val (iV ai),.val (iV f)]) ?_ ?_;·intro bD b5;exact r3
   intro aL aa;refine trM a (o02 _ _ _ _ _ (M0.mono aa p) _ _ (Z1 y aF s)) ?_;rintro cq a cd aM ⟨a8,bU,bk,rfl,af⟩;have a2:Sub aL aM:=af.sub;have W:=af.r;obtain⟨rfl,bP⟩:=sL W;exact C2 m ⟨_,_,_,_,_,_,_,_,rfl,rfl,((d.trans aa).trans a2),s,(O0 _),t,l,W,a⟩
  refine w5 10 ?_;obtain⟨x,aw,a⟩:=D0 a;obtain⟨am,bg,aq,aV⟩:=Sl.getI (r:=Wp.int.toRp) (K0.mono (e.trans d) k) aw oD;obtain⟨rfl,bq⟩:=aV;refine pm (.hel (.slice n j.length o) g 1 0) ?_ ?_;·intro bE b6;exact aI am r3
  refine pm (.val (iV x)) ?_ ?_;·intro bG aZ;exact eX _ (aI (U8.up aZ aq) r3)
  refine pm (.val (iV (i64.wrap (0-x)))) ?_ ?_;·intro bH b7;exact r3
  refine pm (.agg [.val (iV f),.val (iV (i64.wrap (0-x))),.val (iV c)]) ?_ ?_;·intro bI b8;exact r3
  intro aN ab;refine trM a (o02 _ _ _ _ _ (M0.mono ab p) [iV f,iV (i64.wrap (0-x)),iV c] (f,(i64.wrap (0-x)),c) (Z1 s (O0 _) y)) ?_;rintro ct a ce aO ⟨ba,bV,bl,rfl,ag⟩;have a3:Sub aN aO:=ag.sub;have X:=ag.r;obtain⟨rfl,bQ⟩:=sL X;exact C2 m ⟨_,_,_,_,_,_,_,_,rfl,rfl,((d.trans ab).trans a3),s,(O0 _),t,l,X,a⟩
 cases a;try dsimp only[V0,Y0]at b
 cases b;exact⟨_,rfl,(C0 t l p),(e.trans d)⟩
def c0c(h:Hp)(e:List Value)(g:B0)(p:I1.R h e g)(b:Option Addr)(f c:Nat)(i:J0)(j:K0.R h [.slice b f c] i)(r:B0×Bool)(a:b03 g i=some r): Tr Tryz.prog 148 #[.agg e.toArray,.slice b f c] h λv h'=>∃(d:List Value),v = .tuple #[.agg d.toArray,.bool r.2]/\I1.R h' d r.1/\Sub h h':=by
 obtain⟨G,H,w,y,I,rfl,rfl,l,m,q,D⟩:=opG p;obtain⟨rfl,E⟩:=sL j;unfold b03 at a;dsimp only at a;refine wk Tryz.f148 ?_;refine trM a (v09 _ _ _ (C0 l m q) 0 oD _ _ _ _ j 0 oD) ?_;rintro u a J C ⟨z,rfl,k,t⟩;obtain⟨K,O⟩:=u;dsimp only at a k;obtain⟨L,M,x,A,N,rfl,rfl,n,o,s,F⟩:=opG k;try dsimp only at a
 cases a;exact⟨_,rfl,(C0 n o s),t⟩
def l0j(h:Hp)(D:Int)(Q:I0 D)(w:Option Addr)(U y:Nat)(p:K1)(E:Q1.R h [.slice w U y] p)(r:B0×Bool)(a:A04 D p=some r): Tr Tryz.prog 79 #[iV D,.slice w U y] h λv h'=>∃(L:List Value),v = .tuple #[.agg L.toArray,.bool r.2]/\I1.R h' L r.1/\Sub h h':=by
 obtain⟨rfl,bc⟩:=sL E;unfold A04 at a;refine wk Tryz.f79 ?_;refine trV a (i08 _ _ Q _ _ _ _ E) λbo a=>?_;refine ifB a (λak a=>?_) λak a=>?_;·cases a;exact⟨_,rfl,(C0 oD oD (d02 E1 h)),sr⟩
 refine trM a (k0j _ _ Q) ?_;rintro aO a bn ax ⟨aV,rfl,W,Y⟩;obtain⟨bp,bt⟩:=aO;dsimp only at a W;obtain⟨bq,br,aP,aW,bs,rfl,rfl,al,am,aC,bf⟩:=opG W;try dsimp only at a
 obtain⟨I,ai,a⟩:=D0 a;refine eX { vars:=[8],boxes:=[1] } (eX (λvs os h'=>∃ m u8 s x C z u,vs.tail = [iV m,iV u8,iV s,.slice x C z]/\os = []/\Sub ax h'/\I0 m/\I0 u8/\I0 s/\M0.R h' [.slice x C z] u/\p9 p (P1 vs) m u8 s u=some I) (eX (λ_ _=>0) (aI (eX U0 ⟨_,_,_,_,_,_,_,rfl,rfl,sr,oD,al,am,aC,ai⟩) ?_)));rintro _ _ _ _ t a2 ⟨m,u8,s,x,C,z,u,⟨⟩,⟨⟩,G,aZ,S,T,F,b⟩;replace b:p9 p t m u8 s u=some I:=b;obtain _|t:=t;·cases b
 rw[p9.eq_2]at b;obtain⟨rfl,bd⟩:=sL F;refine ifB b (λaj b=>?_) λaj b=>?_
 ·refine w5 10 ?_;obtain⟨aL,ag,b⟩:=D0 b;obtain⟨ab,aS,ae,V⟩:=Sl.getI (r:=K0.toRp) (Q1.mono (Y.trans G) E) ag oD;obtain⟨Z,ac,rfl,be⟩:=slL V;refine pm (.hel (.slice w p.length y) m 1 0) ?_ ?_;·intro a3 bj;exact aI ab r3
  refine pm (.val (.slice Z aL.length ac)) ?_ ?_;·intro a4 aJ;exact eX _ (aI (U8.up aJ ae) r3)
  obtain⟨aM,ah,b⟩:=D0 b;obtain⟨aN,H⟩:=aM;try dsimp only at b
  obtain⟨j,k,f⟩:=aN;try dsimp only at b
  refine Or.inr (eX (λv g=>∃(i:Value),v = .tuple #[i,.bool H]/\(λv g=>∃(c:Option Addr) (d:Nat),v = .agg #[iV j,iV k,.slice c f.length d]/\I0 j/\I0 k/\M0.R g [.slice c f.length d] f/\f.length<=9223372036854775807) i g) (aI (λv O P l q=>by obtain⟨i,e,A⟩:=q;exact⟨i,e,(by obtain⟨c,d,e,n,o,f2,f3⟩:=A;exact⟨c,d,e,n,o,M0.mono l f2,f3⟩)⟩) (aI ?_ ?_)));·intro a5 X;refine Tr.mono (c0c _ _ _ (C0 S T (M0.mono X F)) _ _ _ _ (K0.mono X V) _ ah) ?_;rintro _ bb ⟨aU,rfl,aB,l⟩;obtain⟨bu,bv,J,M,bx,rfl,af,an,ao,aD,ay⟩:=opG aB;cases af;exact aI K7 (aI l ⟨(.agg #[iV j,iV k,.slice J f.length M]),rfl,⟨J,M,rfl,an,ao,aD,ay⟩⟩)
  refine Or.inr (eX (λv g=>∃(i:Value),v = .tuple #[i,.bool H]/\(λv g=>∃(c:Option Addr) (d:Nat),v = .agg #[iV j,iV k,.slice c f.length d]/\I0 j/\I0 k/\M0.R g [.slice c f.length d] f/\f.length<=9223372036854775807) i g) (aI (λv O P l q=>by obtain⟨i,e,A⟩:=q;exact⟨i,e,(by obtain⟨c,d,e,n,o,f2,f3⟩:=A;exact⟨c,d,e,n,o,M0.mono l f2,f3⟩)⟩) (aI ?_ ?_)));·intro a6 bk;rintro _ ⟨_,rfl,⟨K,N,rfl,ap,aq,aF,az⟩⟩;exact aI K7 (aI sr ⟨(.agg #[iV j,iV k,.slice K f.length N]),rfl,⟨K,N,rfl,ap,aq,aF,az⟩⟩)
  refine Or.inr (eX (λv g=>∃(c:Option Addr) (d:Nat),v = .agg #[iV j,iV k,.slice c f.length d]/\I0 j/\I0 k/\M0.R g [.slice c f.length d] f/\f.length<=9223372036854775807) (aI (λv O P l q=>by obtain⟨c,d,e,n,o,f2,f3⟩:=q;exact⟨c,d,e,n,o,M0.mono l f2,f3⟩) (aI ?_ ?_)));·intro a7 bl;rintro _ ⟨_,rfl,⟨aa,ad,rfl,ar,au,aG,aA⟩⟩;exact aI K7 (aI sr ⟨aa,ad,rfl,ar,au,aG,aA⟩)
  refine pm (.val (.bool H)) ?_ ?_;·intro a8 bm;rintro _ ⟨_,rfl,⟨aQ,aX,rfl,a0,a1,bi,bg⟩⟩;exact r3
  intro ba aK;rintro _ ⟨aR,aY,rfl,av,aw,aH,bh⟩;rintro _ _;rintro _ _;exact C2 t ⟨_,_,_,_,_,_,_,rfl,rfl,(G.trans aK),(O0 _),av,aw,aH,b⟩
 cases b;try dsimp only[V0,Y0]at a
 cases a;exact⟨_,rfl,(C0 S T F),(Y.trans G)⟩
def T0l(h:Hp)(F:List Value)(I:B0)(X:I1.R h F I)(r:n02)(q:b05 I=some r): Tr Tryz.prog 212 #[.agg F.toArray] h λv h'=>∃(D:Option Addr) (H E:Nat),v = .slice D H E/\G0o.R h' [.slice D H E] r/\Sub h h':=by
 obtain⟨ar,au,ac,ae,t,rfl,rfl,ai,aj,J,ap⟩:=opG X;unfold b05 at q;dsimp only at q;refine wk Tryz.f212 ?_;obtain⟨A,O,q⟩:=D0 q;refine eX { vars:=[4],owns:=[0] } (eX (λvs os h'=>∃ p y w,vs.tail = [iV p]/\os = [y]/\Sub h h'/\I0 p/\F2 (L6.R h') y w/\b00 t (P1 vs) p w=some A) (eX (λ_ _=>0) (aI (eX U0 ⟨_,_,_,rfl,rfl,sr,oD,(show F2 (L6.R h) ([]:LV) ([]:n02) from trivial),O⟩) ?_)));rintro _ y s W ⟨p,aD,w,⟨⟩,⟨⟩,u,ak,G,f⟩;replace f:b00 t s p w=some A:=f;obtain _|s:=s;·cases f
 rw[b00.eq_2]at f;refine ifB f (λV f=>?_) λV f=>?_
 ·obtain⟨C,P,f⟩:=D0 f;refine eX { vars:=[5],owns:=[0] } (eX (λvs os h'=>∃ u8 z x,vs.tail = [iV u8]/\os = [z]/\Sub W h'/\I0 u8/\F2 (L6.R h') z x/\H5 t p (P1 vs) u8 x=some C) (eX (λ_ _=>0) (aI (eX U0 ⟨_,_,_,rfl,rfl,sr,(O0 _),G,P⟩) ?_)));rintro _ z n k ⟨u8,aF,x,⟨⟩,⟨⟩,o,al,g,c⟩;replace c:H5 t p n u8 x=some C:=c;obtain _|n:=n;·cases c
  rw[H5.eq_2]at c;refine ifB c (λQ c=>?_) λQ c=>?_
  ·refine ld c (M0.mono (u.trans o) J) λaz af Y c=>?_;obtain⟨d,aA,a,rfl,rfl,l,am,i⟩:=D2 Y;try dsimp only at c
   refine ld c (M0.mono (u.trans o) J) λaB ag Z c=>?_;obtain⟨e,aC,b,rfl,rfl,m,an,j⟩:=D2 Z;try dsimp only at c
   refine ifB c (λS c=>?_) λS c=>?_
   ·obtain⟨av,L,c⟩:=D0 c;refine aI (N1 L (by first|rw[fL g,fL (show F2 (L6.R k) ([[iV (if b<a then b else a),iV (if b>a then b else a)]]:LV) [((if b<a then b else a),(if b>a then b else a))] from⟨(E3 (e01 j i) (e01 j i)),trivial⟩)]|exact congrArg (·+1) (fL g))) ?_;refine ifB c (λT c=>?_) λT c=>?_;·obtain⟨aw,M,c⟩:=D0 c;refine aI (N1 M (by first|rw[fL (fA g (show F2 (L6.R k) ([[iV (if b<a then b else a),iV (if b>a then b else a)]]:LV) [((if b<a then b else a),(if b>a then b else a))] from⟨(E3 (e01 j i) (e01 j i)),trivial⟩)),fL (show F2 (L6.R k) ([[iV (if e<d then e else d),iV (if e>d then e else d)]]:LV) [((if e<d then e else d),(if e>d then e else d))] from⟨(E3 (e01 m l) (e01 m l)),trivial⟩)]|exact congrArg (·+1) (fL (fA g (show F2 (L6.R k) ([[iV (if b<a then b else a),iV (if b>a then b else a)]]:LV) [((if b<a then b else a),(if b>a then b else a))] from⟨(E3 (e01 j i) (e01 j i)),trivial⟩))))) ?_;exact C2 n ⟨_,_,_,rfl,rfl,o,(O0 _),(fA (fA g (show F2 (L6.R k) ([[iV (if b<a then b else a),iV (if b>a then b else a)]]:LV) [((if b<a then b else a),(if b>a then b else a))] from⟨(E3 (e01 j i) (e01 j i)),trivial⟩)) (show F2 (L6.R k) ([[iV (if e<d then e else d),iV (if e>d then e else d)]]:LV) [((if e<d then e else d),(if e>d then e else d))] from⟨(E3 (e01 m l) (e01 m l)),trivial⟩)),c⟩
    exact C2 n ⟨_,_,_,rfl,rfl,o,(O0 _),(fA g (show F2 (L6.R k) ([[iV (if b<a then b else a),iV (if b>a then b else a)]]:LV) [((if b<a then b else a),(if b>a then b else a))] from⟨(E3 (e01 j i) (e01 j i)),trivial⟩)),c⟩
   refine ifB c (λU c=>?_) λU c=>?_;·obtain⟨ax,N,c⟩:=D0 c;refine aI (N1 N (by first|rw[fL g,fL (show F2 (L6.R k) ([[iV (if e<d then e else d),iV (if e>d then e else d)]]:LV) [((if e<d then e else d),(if e>d then e else d))] from⟨(E3 (e01 m l) (e01 m l)),trivial⟩)]|exact congrArg (·+1) (fL g))) ?_;exact C2 n ⟨_,_,_,rfl,rfl,o,(O0 _),(fA g (show F2 (L6.R k) ([[iV (if e<d then e else d),iV (if e>d then e else d)]]:LV) [((if e<d then e else d),(if e>d then e else d))] from⟨(E3 (e01 m l) (e01 m l)),trivial⟩)),c⟩
   exact C2 n ⟨_,_,_,rfl,rfl,o,(O0 _),g,c⟩
  cases c;try dsimp only[V0,Y0]at f
  exact C2 s ⟨_,_,_,rfl,rfl,(u.trans o),(O0 _),g,f⟩
 cases f;try dsimp only[V0,Y0]at q
 intro ay ao K;obtain⟨ad,ah,rfl,aa,ab,aq⟩:=C1.out (r:=L6.toRp) K G;cases q;exact⟨_,_,_,rfl,aa,(u.trans ab)⟩
def o0i(h:Hp)(c:List Value)(f:B0)(o:I1.R h c f)(r:K6×Bool)(a:v02 f=some r): Tr Tryz.prog 202 #[.agg c.toArray] h λv h'=>∃(b:List Value),v = .tuple #[.agg b.toArray,.bool r.2]/\L6.R h' b r.1/\Sub h h':=by
 obtain⟨C,D,q,t,E,rfl,rfl,d,e,g,y⟩:=opG o;unfold v02 at a;dsimp only at a;refine wk Tryz.f202 ?_;refine trV a (H8 _ _ _ (C0 d e g)) λG a=>?_;refine ifB a (λk a=>?_) λk a=>?_;·cases a;exact⟨_,rfl,(E3 oD oD),sr⟩
 refine trM a (T0l _ _ _ (C0 d e g)) ?_;rintro H a F x ⟨s,A,w,rfl,i,j⟩;obtain⟨rfl,z⟩:=sL i;refine ifB a (λl a=>?_) λl a=>?_;·cases a;exact⟨_,rfl,(E3 oD oD),j⟩
 refine ld a i λI u p a=>?_;obtain⟨J,K,rfl,rfl,m,n⟩:=L06 p;try dsimp only at a
 cases a;exact⟨_,rfl,(E3 m n),j⟩
def n0h(h:Hp)(b:Int)(j:I0 b)(c:List Value)(d:K6)(i:L6.R h c d)(r:Int)(a:A05 b d=some r): Tr Tryz.prog 213 #[iV b,.agg c.toArray] h λv h'=>v=iV r/\h'=h:=by
 obtain⟨m,n,rfl,rfl,k,l⟩:=L06 i;unfold A05 at a;dsimp only at a;refine wkF Tryz.f213 ?_;refine ifB a (λe a=>?_) λe a=>?_
 ·refine ifB a (λf a=>?_) λf a=>?_;·cases a;exact aI rfl sr
  cases a;exact aI rfl sr
 refine ifB a (λg a=>?_) λg a=>?_;·cases a;exact aI rfl sr
 cases a;exact aI rfl sr
def s0d(h:Hp)(t:List Value)(C:B0)(ad:I1.R h t C)(u:List Value)(E:K6)(ae:L6.R h u E)(r:B0×Bool)(b:c00 C E=some r): Tr Tryz.prog 203 #[.agg t.toArray,.agg u.toArray] h λv h'=>∃(s:List Value),v = .tuple #[.agg s.toArray,.bool r.2]/\I1.R h' s r.1/\Sub h h':=by
 obtain⟨aG,aH,al,ao,D,rfl,rfl,j,w,l,aA⟩:=opG ad;obtain⟨F,G,rfl,rfl,x,y⟩:=L06 ae;unfold c00 at b;dsimp only at b;refine wk Tryz.f203 ?_;refine trV b (H8 _ _ _ (C0 j w l)) λaQ b=>?_;refine ifB b (λS b=>?_) λS b=>?_
 ·refine trM b (F5 _ _ _ (C0 j w l)) ?_;rintro aW b aP ac ⟨aq,rfl,K⟩;have aj:Sub h ac:=K.sub;have ag:=K.r;obtain⟨aX,aY,an,au,aZ,rfl,rfl,Y,Z,ah,aD⟩:=opG ag;try dsimp only at b
  cases b;exact⟨_,rfl,(C0 Y Z ah),aj⟩
 obtain⟨q,P,b⟩:=D0 b;refine eX { vars:=[7],boxes:=[3] } (eX (λvs os h'=>∃ c u8 d g k i f,vs.tail = [iV c,iV u8,iV d,.slice g k i]/\os = []/\Sub h h'/\I0 c/\I0 u8/\I0 d/\M0.R h' [.slice g k i] f/\N5 D F G (P1 vs) c u8 d f=some q) (eX (λ_ _=>0) (aI (eX U0 ⟨_,_,_,_,_,_,_,rfl,rfl,sr,oD,j,(O0 _),(d02 E1 h),P⟩) ?_)));rintro _ _ _ _ e aw ⟨c,u8,d,g,k,i,f,⟨⟩,⟨⟩,n,av,z,A,m,a⟩;replace a:N5 D F G e c u8 d f=some q:=a;obtain _|e:=e;·cases a
 rw[N5.eq_2]at a;obtain⟨rfl,aB⟩:=sL m;refine ifB a (λQ a=>?_) λQ a=>?_
 ·refine ld a (M0.mono n l) λaR ap af a=>?_;obtain⟨aS,ak,aU,rfl,rfl,T,U,V⟩:=D2 af;try dsimp only at a
  refine w5 13 ?_;obtain⟨o,N,a⟩:=D0 a;obtain⟨aJ,L,a⟩:=D0 a;have W:I0 o:=N0 L;refine pm (.val (iV o)) ?_ ?_;·intro ax aL;exact Tr.val (n0h _ _ T _ _ (E3 x y) _ N) r3
  obtain⟨p,O,a⟩:=D0 a;obtain⟨aK,M,a⟩:=D0 a;have X:I0 p:=N0 M;refine pm (.val (iV p)) ?_ ?_;·intro ay aM;exact Tr.val (n0h _ _ V _ _ (E3 x y) _ O) r3
  refine pm (.agg [.val (iV o),.val (iV ak),.val (iV p)]) ?_ ?_;·intro az aN;exact r3
  intro aa I;refine trM a (o02 _ _ _ _ _ (M0.mono I m) _ _ (Z1 W U X)) ?_;rintro aV a aO ab ⟨am,aF,ar,rfl,J⟩;have ai:Sub aa ab:=J.sub;have H:=J.r;obtain⟨rfl,aC⟩:=sL H;exact C2 e ⟨_,_,_,_,_,_,_,rfl,rfl,((n.trans I).trans ai),(O0 _),z,A,H,a⟩
 cases a;try dsimp only[V0,Y0]at b
 cases b;exact⟨_,rfl,(C0 z A m),n⟩
def m0j(h:Hp)(i:List Value)(l:B0)(y:I1.R h i l)(r:B0×K6×Bool)(a:B04 l=some r): Tr Tryz.prog 185 #[.agg i.toArray] h λv h'=>∃(f:List Value) (g:List Value),v = .tuple #[.agg f.toArray,.agg g.toArray,.bool r.2.2]/\I1.R h' f r.1/\L6.R h' g r.2.1/\Sub h h':=by
 obtain⟨V,W,H,K,X,rfl,rfl,c,d,e,S⟩:=opG y;unfold B04 at a;dsimp only at a;refine wk Tryz.f185 ?_;refine trM a (o0i _ _ _ (C0 c d e)) ?_;rintro F a Z w ⟨L,rfl,m,b⟩;obtain⟨ab,ae⟩:=F;dsimp only at a m;obtain⟨ac,ad,rfl,rfl,j,k⟩:=L06 m;try dsimp only at a
 refine ifB a (λp a=>?_) λp a=>?_
 ·refine trM a (F5 _ _ _ (C0 c d (M0.mono b e))) ?_;rintro af a aa x ⟨M,rfl,o⟩;have D:Sub w x:=o.sub;have z:=o.r;obtain⟨ag,ah,I,O,ai,rfl,rfl,q,s,A,T⟩:=opG z;try dsimp only at a
  cases a;exact⟨_,_,rfl,(C0 q s A),(E3 oD oD),(b.trans D)⟩
 refine trM a (s0d _ _ _ (C0 c d (M0.mono b e)) _ _ (E3 j k)) ?_;rintro G a Y Q ⟨N,rfl,n,E⟩;obtain⟨aj,an⟩:=G;dsimp only at a n;obtain⟨ak,al,J,P,am,rfl,rfl,t,u,C,U⟩:=opG n;try dsimp only at a
 refine w3 ?_;refine aI ?_ trivial;refine aI (by first|exact trivial|exact rfl) ?_;refine aI ?_ trivial;refine aI (by first|exact trivial|exact rfl) ?_;cases a;exact⟨_,_,rfl,(C0 t u C),(E3 j k),(b.trans E)⟩
def U0l(h:Hp)(C:List Value)(H:B0)(ab:I1.R h C H)(r:B0×n02)(b:c05 H=some r): Tr Tryz.prog 149 #[.agg C.toArray] h λv h'=>∃(A:List Value) (y:Option Addr) (G z:Nat),v = .tuple #[.agg A.toArray,.slice y G z]/\I1.R h' A r.1/\G0o.R h' [.slice y G z] r.2/\Sub h h':=by
 obtain⟨aK,aL,aj,ao,aM,rfl,rfl,V,W,ac,aC⟩:=opG ab;unfold c05 at b;dsimp only at b;refine wk Tryz.f149 ?_;refine trM b (F5 _ _ _ (C0 V W ac)) ?_;rintro aS b aR s ⟨ap,rfl,N⟩;have K:Sub h s:=N.sub;have ad:=N.r;obtain⟨a0,a1,al,av,a2,rfl,rfl,Z,aa,af,aG⟩:=opG ad;try dsimp only at b
 obtain⟨x,S,b⟩:=D0 b;refine eX { vars:=[6],boxes:=[2],owns:=[0] } (eX (λvs os h'=>∃ e f g n t o u8 w k,vs.tail = [iV e,iV f,iV g,.slice n t o]/\os = [w]/\Sub s h'/\I0 e/\I0 f/\I0 g/\M0.R h' [.slice n t o] u8/\F2 (L6.R h') w k/\O8 (P1 vs) e f g u8 k=some x) (eX (λ_ _=>0) (aI (eX U0 ⟨_,_,_,_,_,_,_,_,_,rfl,rfl,sr,oD,Z,aa,af,(show F2 (L6.R s) ([]:LV) ([]:n02) from trivial),S⟩) ?_)));rintro _ _ _ _ w i az ⟨e,f,g,n,t,o,u8,a3,k,⟨⟩,⟨⟩,u,ay,p,q,j,d,a⟩;replace a:O8 i e f g u8 k=some x:=a;obtain _|i:=i;·cases a
 rw[O8.eq_2]at a;obtain⟨rfl,aD⟩:=sL j;refine ifB a (λT a=>?_) λT a=>?_
 ·refine trM a (m0j _ _ _ (C0 p q j)) ?_;rintro ai a aO F ⟨aq,ar,rfl,I,J,c⟩;obtain⟨aU,aY,aZ⟩:=ai;dsimp only at a I J;obtain⟨aV,aW,ak,au,aX,rfl,rfl,X,Y,ae,aF⟩:=opG I;try dsimp only at a
  obtain⟨l,m,rfl,rfl,D,E⟩:=L06 J;try dsimp only at a
  refine ifB a (λU a=>?_) λU a=>?_
  ·intro aP aA O;obtain⟨am,aw,rfl,ag,L,aH⟩:=C1.out (r:=L6.toRp) O (F2.up (r:=L6.toRp) c d);cases a;try dsimp only[Y2,N3]at b
   cases b;exact⟨_,_,_,_,rfl,(C0 p q (M0.mono (c.trans L) j)),ag,(((K.trans u).trans c).trans L)⟩
  obtain⟨aN,Q,a⟩:=D0 a;refine aI (N1 Q (by first|rw[fL (F2.up (r:=L6.toRp) c d),fL (show F2 (L6.R F) ([[iV l,iV m]]:LV) [(l,m)] from⟨(E3 D E),trivial⟩)]|exact congrArg (·+1) (fL (F2.up (r:=L6.toRp) c d)))) ?_;exact C2 i ⟨_,_,_,_,_,_,_,_,_,rfl,rfl,(u.trans c),(O0 _),X,Y,ae,(fA (F2.up (r:=L6.toRp) c d) (show F2 (L6.R F) ([[iV l,iV m]]:LV) [(l,m)] from⟨(E3 D E),trivial⟩)),a⟩
 cases a;try dsimp only[V0,Y0]at b
 intro aQ aB P;obtain⟨an,ax,rfl,ah,M,aJ⟩:=C1.out (r:=L6.toRp) P d;cases b;exact⟨_,_,_,_,rfl,(C0 p q (M0.mono M j)),ah,((K.trans u).trans M)⟩
def e0b(h:Hp)(d:List Value)(i:B0)(p:I1.R h d i)(r:B0×Bool)(a:w02 i=some r): Tr Tryz.prog 86 #[.agg d.toArray] h λv h'=>∃(c:List Value),v = .tuple #[.agg c.toArray,.bool r.2]/\I1.R h' c r.1/\Sub h h':=by
 obtain⟨A,C,s,u,D,rfl,rfl,e,f,j,y⟩:=opG p;unfold w02 at a;dsimp only at a;refine wk Tryz.f86 ?_;refine trM a (F5 _ _ _ (C0 e f j)) ?_;rintro F a E o ⟨w,rfl,l⟩;have b:Sub h o:=l.sub;have q:=l.r;obtain⟨G,H,t,x,I,rfl,rfl,g,n,k,z⟩:=opG q;try dsimp only at a
 refine trV a (H8 _ _ _ (C0 e f (M0.mono b j))) λJ a=>?_;refine ifB a (λm a=>?_) λm a=>?_;·cases a;exact⟨_,rfl,(C0 g n k),b⟩
 cases a;exact⟨_,rfl,(C0 g (O0 _) k),b⟩
def z0e(h:Hp)(F:List Value)(L:B0)(ab:I1.R h F L)(r:T0)(d:G00 L=some r): Tr Tryz.prog 154 #[.agg F.toArray] h λv h'=>∃(D:Option Addr) (K E:Nat),v = .slice D K E/\M0.R h' [.slice D K E] r/\Sub h h':=by
 obtain⟨k,l,ae,ah,m,rfl,rfl,t,H,M,ao⟩:=opG ab;unfold G00 at d;dsimp only at d;refine wk Tryz.f154 ?_;obtain⟨A,U,d⟩:=D0 d;refine eX { vars:=[4],owns:=[0] } (eX (λvs os h'=>∃ c z p,vs.tail = [iV c]/\os = [z]/\Sub h h'/\I0 c/\F2 (E1.R h') z p/\C6 l k m (P1 vs) c p=some A) (eX (λ_ _=>0) (aI (eX U0 ⟨_,_,_,rfl,rfl,sr,oD,(show F2 (E1.R h) ([]:LV) ([]:T0) from trivial),U⟩) ?_)));rintro _ z j an ⟨c,aB,p,⟨⟩,⟨⟩,n,u,G,b⟩;replace b:C6 l k m j c p=some A:=b;obtain _|j:=j;·cases b
 rw[C6.eq_2]at b;refine trG b (λq=>P7 _ _ _ (C0 t H (M0.mono n M))) λaz b=>?_;refine ifB b (λY b=>?_) λY b=>?_
 ·refine trM b (I05 _ _ t) ?_;rintro O b aw aa ⟨af,ar,ai,rfl,w,x⟩;obtain⟨rfl,ap⟩:=sL w;obtain⟨C,V,b⟩:=D0 b;refine eX { vars:=[6],owns:=[0] } (eX (λvs os h'=>∃ i y o,vs.tail = [iV i]/\os = [y]/\Sub aa h'/\I0 i/\F2 (E1.R h') y o/\M4 O k l m c (P1 vs) i o=some C) (eX (λ_ _=>0) (aI (eX U0 ⟨_,_,_,rfl,rfl,sr,oD,(F2.up (r:=E1.toRp) x G),V⟩) ?_)));rintro _ y g J ⟨i,aA,o,⟨⟩,⟨⟩,e,ak,f,a⟩;replace a:M4 O k l m c g i o=some C:=a;obtain _|g:=g;·cases a
  rw[M4.eq_2]at a;refine ifB a (λW a=>?_) λW a=>?_
  ·refine w1 ?_;refine ldI a (K0.mono e w) λay Z a=>?_;obtain⟨N,T,a⟩:=D0 a;refine eX (iV N) (aI (d7 _ _ _ (C0 t H (M0.mono ((n.trans x).trans e) M)) _ u _ Z _  T) ?_);obtain⟨au,Q,a⟩:=D0 a;have al:I0 N:=N0 Q;refine ifB a (λX a=>?_) λX a=>?_;·refine ldI a (K0.mono e w) λs I a=>?_;obtain⟨av,S,a⟩:=D0 a;refine aI (N1 S (by first|rw[fL f,fL (show F2 (E1.R J) ([[iV c,iV s,iV (-1)]]:LV) [(c,s,(-1))] from⟨(Z1 u I oD),trivial⟩)]|exact congrArg (·+1) (fL f))) ?_;exact C2 g ⟨_,_,_,rfl,rfl,e,(O0 _),(fA f (show F2 (E1.R J) ([[iV c,iV s,iV (-1)]]:LV) [(c,s,(-1))] from⟨(Z1 u I oD),trivial⟩)),a⟩
   exact C2 g ⟨_,_,_,rfl,rfl,e,(O0 _),f,a⟩
  cases a;try dsimp only[V0,Y0]at b
  exact C2 j ⟨_,_,_,rfl,rfl,((n.trans x).trans e),(O0 _),f,b⟩
 cases b;try dsimp only[V0,Y0]at d
 intro ax am P;obtain⟨ag,aj,rfl,ac,ad,aq⟩:=C1.out (r:=E1.toRp) P G;cases d;exact⟨_,_,_,rfl,ac,(n.trans ad)⟩
theorem p0i(h:Hp)(csp0:List Value)(p0:B0)(rp0:I1.R h csp0 p0)(r:B0×J0)(hM0:R03 p0=some r): Tr Tryz.prog 150 #[.agg csp0.toArray] h λv h'=>∃(cs0:List Value) (a1:Option Addr) (n1 c1:Nat),v = .tuple #[.agg cs0.toArray,.slice a1 n1 c1]/\I1.R h' cs0 r.1/\K0.R h' [.slice a1 n1 c1] r.2/\Sub h h':=by
 obtain⟨p0_0,p0_1,ap0_2,np0_2,cp0_2,p0_2,rfl,rfl,ip0_0,ip0_1,rp0_2⟩:=Z0 rp0;obtain⟨rfl,lp0_2⟩:=Sl.len rp0_2;unfold R03 at hM0;dsimp only at hM0;refine V4 (args:=[.agg #[.int .i64 p0_0,.int .i64 p0_1,.slice ap0_2 p0_2.length cp0_2]]) (fn:=Tryz.f150) rfl ?_;refine trM hM0 (F5 _ _ _ (C0 ip0_0 ip0_1 rp0_2)) ?_;rintro x1 hM0 v3 k2 ⟨csx1,rfl,wx1⟩;have sx1:Sub h k2:=wx1.sub;have rx1:=wx1.r;obtain⟨x1_0,x1_1,ax1_2,nx1_2,cx1_2,x1_2,rfl,rfl,ix1_0,ix1_1,rx1_2⟩:=Z0 rx1;obtain⟨rfl,lx1_2⟩:=Sl.len rx1_2;try dsimp only at hM0
 obtain⟨X4,hLX4,hM0⟩:=D0 hM0;refine eX { vars:=[6],boxes:=[],owns:=[0],fuel:=true } (eX (λvs os h'=>∃ u5 wu6 u6,vs.tail = [.int .i64 u5]/\os = [wu6]/\Sub k2 h'/\I0 u5/\F2 (Wp.int.R h') wu6 u6/\B8 p0_1 p0_0 p0_2 (P1 vs) u5 u6=some X4) (eX (λ_ _=>0) (aI (eX U0 ⟨0,[],([]:J0),rfl,rfl,(Sub.refl _),(by decide),(show F2 (Wp.int.R k2) ([]:List (List Value)) ([]:J0) from trivial),hLX4⟩) ?_)));rintro _ wu6 m8 k7 ⟨u5,zzu6,u6,⟨⟩,⟨⟩,sX4,iu5,fu6,hM1⟩;replace hM1:B8 p0_1 p0_0 p0_2 m8 u5 u6=some X4:=hM1;obtain _|m8:=m8;·cases hM1
 rw[B8.eq_2]at hM1;refine trG hM1 (λq=>H8 _ _ _ (C0 ip0_0 ip0_1 (M0.mono (sx1.trans sX4) rp0_2))) λx9 hM1=>?_;refine ifB hM1 (λhc10 hM1=>?_) λhc10 hM1=>?_;·obtain⟨q11,gq11,hM1⟩:=D0 hM1;refine aI (N1 gq11 (by first|rw[F2.length fu6,F2.length (show F2 (Wp.int.R k7) ([[.int .i64 u5]]:List (List Value)) [u5] from⟨⟨rfl,iu5⟩,trivial⟩)]|exact congrArg (·+1) (F2.length fu6))) ?_;exact C2 m8 ⟨(IntKind.i64.wrap (u5+1)),(wu6++([[.int .i64 u5]]:List (List Value))),(u6 ++ [u5]),rfl,rfl,sX4,(O0 _),(F2.append fu6 (show F2 (Wp.int.R k7) ([[.int .i64 u5]]:List (List Value)) [u5] from⟨⟨rfl,iu5⟩,trivial⟩)),hM1⟩
 obtain rfl:=oJ hM1;try dsimp only[V0,Y0]at hM0
 obtain⟨X16,hLX16,hM0⟩:=D0 hM0;refine eX { vars:=[5,7],boxes:=[2],owns:=[],fuel:=true,pubs:=[5] } (eX (λvs os h'=>∃(au17:Option Addr) (nu17 cu17:Nat) (u17:J0) (u18:Int) (u19:Int) (u20:Int) (au21:Option Addr) (nu21 cu21:Nat) (u21:T0),vs.tail = [.slice au17 nu17 cu17,.int .i64 u18,.int .i64 u19,.int .i64 u20,.slice au21 nu21 cu21]/\os = []/\Sub k7 h'/\K0.R h' [.slice au17 nu17 cu17] u17/\I0 u18/\I0 u19/\I0 u20/\M0.R h' [.slice au21 nu21 cu21] u21/\A8 p0_0 p0_1 p0_2 (P1 vs) u17 u18 u19 u20 u21=some X16) (eX (λ_ _=>0) ?_));intro v12 k13 f14;obtain⟨az15,cz15,rfl,rz15,sz15,lz15⟩:=C1.out (r:=Wp.int.toRp) f14 fu6;refine aI (eX U0 ⟨az15,u6.length,cz15,u6,0,x1_0,x1_1,ax1_2,x1_2.length,cx1_2,x1_2,rfl,rfl,sz15,rz15,(by decide),ix1_0,ix1_1,(M0.mono (sX4.trans sz15) rx1_2),hLX16⟩) ?_;rintro _ _ _ _ _ m23 k22 ⟨au17,nu17,cu17,u17,u18,u19,u20,au21,nu21,cu21,u21,⟨⟩,⟨⟩,sX16,ru17,iu18,iu19,iu20,ru21,hM1⟩;replace hM1:A8 p0_0 p0_1 p0_2 m23 u17 u18 u19 u20 u21=some X16:=hM1;obtain _|m23:=m23;·cases hM1
 rw[A8.eq_2]at hM1;obtain⟨rfl,lu17⟩:=Sl.len ru17;obtain⟨rfl,lu21⟩:=Sl.len ru21;refine trG hM1 (λq=>H8 _ _ _ (C0 ip0_0 ip0_1 (M0.mono ((sx1.trans sX4).trans sX16) rp0_2))) λx24 hM1=>?_;refine ifB hM1 (λhc25 hM1=>?_) λhc25 hM1=>?_
 ·refine trV hM1 (b0f _ _ _ (C0 iu19 iu20 ru21)) λx26 hM1=>?_;obtain⟨q27,gq27,hM1⟩:=D0 hM1;have ix26:I0 x26:=N0 gq27;refine ifB hM1 (λhc28 hM1=>?_) λhc28 hM1=>?_
  ·obtain rfl:=oJ hM1;try dsimp only[Y2,N3]at hM0
   obtain rfl:=oJ hM0;exact⟨([.int .i64 u19,.int .i64 u20,.slice au21 u21.length cu21]),au17,u17.length,cu17,rfl,(C0 iu19 iu20 ru21),ru17,((sx1.trans sX4).trans sX16)⟩
  obtain⟨X29,hLX29,hM1⟩:=D0 hM1;refine eX { vars:=[11],boxes:=[],owns:=[1,2],fuel:=true } (eX (λvs os h'=>∃ u30 wu31 u31 wu32 u32,vs.tail = [.int .i64 u30]/\os = [wu31,wu32]/\Sub k22 h'/\I0 u30/\F2 (Wp.int.R h') wu31 u31/\F2 (Wp.int.R h') wu32 u32/\G7 u20 x26 u17 (P1 vs) u30 u31 u32=some X29) (eX (λ_ _=>0) (aI (eX U0 ⟨0,[],([]:J0),[],([]:J0),rfl,rfl,(Sub.refl _),(by decide),(show F2 (Wp.int.R k22) ([]:List (List Value)) ([]:J0) from trivial),(show F2 (Wp.int.R k22) ([]:List (List Value)) ([]:J0) from trivial),hLX29⟩) ?_)));rintro _ wu31 wu32 m34 k33 ⟨u30,zzu31,u31,zzu32,u32,⟨⟩,⟨⟩,sX29,iu30,fu31,fu32,hM2⟩;replace hM2:G7 u20 x26 u17 m34 u30 u31 u32=some X29:=hM2;obtain _|m34:=m34;·cases hM2
  rw[G7.eq_2]at hM2;refine ifB hM2 (λhc35 hM2=>?_) λhc35 hM2=>?_
  ·refine ifB hM2 (λhc36 hM2=>?_) λhc36 hM2=>?_;·obtain⟨q37,gq37,hM2⟩:=D0 hM2;refine aI (N1 gq37 (by first|rw[F2.length fu31,F2.length (show F2 (Wp.int.R k33) ([[.int .i64 u30]]:List (List Value)) [u30] from⟨⟨rfl,iu30⟩,trivial⟩)]|exact congrArg (·+1) (F2.length fu31))) ?_;refine ldI hM2 (K0.mono sX29 ru17) λx38 ix38 hM2=>?_;obtain⟨q39,gq39,hM2⟩:=D0 hM2;refine aI (N1 gq39 (by first|rw[F2.length fu32,F2.length (show F2 (Wp.int.R k33) ([[.int .i64 x38]]:List (List Value)) [x38] from⟨⟨rfl,ix38⟩,trivial⟩)]|exact congrArg (·+1) (F2.length fu32))) ?_;exact C2 m34 ⟨(IntKind.i64.wrap (u30+1)),(wu31++([[.int .i64 u30]]:List (List Value))),(u31 ++ [u30]),(wu32++([[.int .i64 x38]]:List (List Value))),(u32 ++ [x38]),rfl,rfl,sX29,(O0 _),(F2.append fu31 (show F2 (Wp.int.R k33) ([[.int .i64 u30]]:List (List Value)) [u30] from⟨⟨rfl,iu30⟩,trivial⟩)),(F2.append fu32 (show F2 (Wp.int.R k33) ([[.int .i64 x38]]:List (List Value)) [x38] from⟨⟨rfl,ix38⟩,trivial⟩)),hM2⟩
   exact C2 m34 ⟨(IntKind.i64.wrap (u30+1)),wu31,u31,wu32,u32,rfl,rfl,sX29,(O0 _),fu31,fu32,hM2⟩
  obtain rfl:=oJ hM2;try dsimp only[V0,Y0]at hM1
  refine Or.inl ?_;intro v40 k41 f42;obtain⟨az43,cz43,rfl,rz43,sz43,lz43⟩:=C1.out (r:=Wp.int.toRp) f42 fu31;refine trM hM1 (q05 _ _ _ (C0 iu19 iu20 (M0.mono (sX29.trans sz43) ru21)) _ _ _ _ rz43) ?_;rintro x44 hM1 v46 k45 ⟨csx44_0,rfl,wx44_0⟩;obtain⟨x44_0,x44_1⟩:=x44;dsimp only at hM1 wx44_0;have sx44:Sub k41 k45:=wx44_0.sub;have rx44_0:=wx44_0.r;obtain⟨x44_0_0,x44_0_1,ax44_0_2,nx44_0_2,cx44_0_2,x44_0_2,rfl,rfl,ix44_0_0,ix44_0_1,rx44_0_2⟩:=Z0 rx44_0;obtain⟨rfl,lx44_0_2⟩:=Sl.len rx44_0_2;try dsimp only at hM1
  intro v47 k48 f49;obtain⟨az50,cz50,rfl,rz50,sz50,lz50⟩:=C1.out (r:=Wp.int.toRp) f49 (F2.up (r:=Wp.int.toRp) (sz43.trans sx44) fu32);exact C2 m23 ⟨az50,u32.length,cz50,u32,(IntKind.i64.wrap (u18+1)),x44_0_0,x44_0_1,ax44_0_2,x44_0_2.length,cx44_0_2,x44_0_2,rfl,rfl,((((sX16.trans sX29).trans sz43).trans sx44).trans sz50),rz50,(O0 _),ix44_0_0,ix44_0_1,(M0.mono sz50 rx44_0_2),hM1⟩
 obtain rfl:=oJ hM1;try dsimp only[V0,Y0]at hM0
 obtain rfl:=oJ hM0;exact⟨([.int .i64 u19,.int .i64 u20,.slice au21 u21.length cu21]),au17,u17.length,cu17,rfl,(C0 iu19 iu20 ru21),ru17,((sx1.trans sX4).trans sX16)⟩
def J05(h:Hp)(d:List Value)(e:B0)(w:I1.R h d e)(r:B0)(a:R7 e=some r): Tr Tryz.prog 80 #[.agg d.toArray] h λv h'=>∃(c:List Value),v = .agg c.toArray/\New I1 h h' c r:=by
 obtain⟨ag,ah,H,N,ai,rfl,rfl,k,l,x,Y⟩:=opG w;unfold R7 at a;dsimp only at a;refine wk Tryz.f80 ?_;refine trM a (U0l _ _ _ (C0 k l x)) ?_;rintro F a al X ⟨O,J,ae,T,rfl,f,g,C⟩;obtain⟨ao,au⟩:=F;dsimp only at a f g;obtain⟨ap,aq,I,S,ar,rfl,rfl,m,n,y,Z⟩:=opG f;try dsimp only at a
 obtain⟨rfl,aa⟩:=sL g;refine trM a (p0i _ _ _ (C0 m n y)) ?_;rintro G a am t ⟨P,L,af,V,rfl,i,j,D⟩;obtain⟨av,az⟩:=G;dsimp only at a i j;obtain⟨aw,ax,K,U,ay,rfl,rfl,o,p,z,ab⟩:=opG i;try dsimp only at a
 obtain⟨rfl,ac⟩:=sL j;refine trM a (n07 _ _ _ (C0 o p z)) ?_;rintro aA a an u ⟨Q,rfl,b⟩;have ak:Sub t u:=b.sub;have A:=b.r;obtain⟨aB,aC,M,W,aD,rfl,rfl,q,s,aj,ad⟩:=opG A;try dsimp only at a
 have E:=nD (nD (b));cases a;exact⟨_,rfl,(nP (nI q) (nP (nI s) (New.from E (C.trans D))))⟩
def R00(h:Hp)(e:List Value)(j:B0)(y:I1.R h e j)(c:Option Addr)(i d:Nat)(k:J0)(m:K0.R h [.slice c i d] k)(r:Bool)(a:J6 j k=some r): Tr Tryz.prog 14 #[.agg e.toArray,.slice c i d] h λv h'=>v = .bool r/\h'=h:=by
 obtain⟨Z,aa,G,J,ab,rfl,rfl,f,g,l,U⟩:=opG y;obtain⟨rfl,V⟩:=sL m;unfold J6 at a;dsimp only at a;refine wkF Tryz.f14 ?_;refine w4 ?_;obtain⟨E,u,a⟩:=D0 a;refine fS K0 E ?_ ?_;·intro P A;refine Tr.mono (r05 _ _ _ _ _ (K0.mono A m) _ u) ?_;rintro _ T ⟨q,Y,s,rfl,n,D⟩;obtain⟨rfl,x⟩:=sL n;exact aI K7 (aI D ⟨q,s,rfl,n,x⟩)
 obtain⟨F,w,a⟩:=D0 a;obtain⟨b,p⟩:=F;try dsimp only at a
 obtain⟨ac,t,a⟩:=D0 a;have M:I0 b:=N0 t;refine pm (.val (.tuple #[iV b,.bool p])) ?_ ?_;·intro Q C;rintro _ ⟨I,L,rfl,z,X⟩;exact Tr.val (k08 _ _ _ (C0 f g (M0.mono C l)) 0 oD _ _ _ _ z _ w) r3
 refine pm (.val (iV b)) ?_ ?_;·intro S ae;exact r3
 refine pm (.val (.bool p)) ?_ ?_;·intro N af;exact r3
 intro O o;rintro _ ⟨H,K,rfl,ad,W⟩;refine trV a (g7 _ _ _ (C0 f g (M0.mono o l))) λag a=>?_;cases a;exact aI rfl o
def t0d(h:Hp)(d:List Value)(g:B0)(p:I1.R h d g)(r:Bool)(a:y01 g=some r): Tr Tryz.prog 83 #[.agg d.toArray] h λv h'=>v = .bool r/\h'=h:=by
 obtain⟨M,N,x,z,O,rfl,rfl,e,f,i,J⟩:=opG p;unfold y01 at a;dsimp only at a;refine wkF Tryz.f83 ?_;refine aI kR ?_;obtain⟨w,m,a⟩:=D0 a;refine pm (.val (.bool w)) ?_ ?_;·intro F s;exact Tr.val (g7 _ _ _ (C0 e f (M0.mono s i)) _ m) r3
 obtain⟨c,n,a⟩:=D0 a;refine fS M0 c ?_ ?_;·intro G t b;refine Tr.mono (z0e _ _ _ (C0 e f (M0.mono t i)) _ (F9 n b)) ?_;rintro _ I ⟨k,L,l,rfl,j,u⟩;obtain⟨rfl,o⟩:=sL j;exact aI K7 (aI u ⟨k,l,rfl,j,o⟩)
 obtain⟨P,C,a⟩:=D0 a;refine pm (.val (iV ((c.length:Nat):Int))) ?_ ?_;·intro H T b;rintro _ ⟨y,A,rfl,Q,K⟩;exact r3
 refine pm (.val (.bool (decide (((c.length:Nat):Int)=0)))) ?_ ?_;·intro D S b;exact r3
 intro E q;cases a;exact aI rfl q
def d0c(h:Hp)(w:List Value)(C:B0)(U:I1.R h w C)(d:Int)(x:I0 d)(r:B0×Bool)(a:M9 C d=some r): Tr Tryz.prog 88 #[.agg w.toArray,iV d] h λv h'=>∃(u:List Value),v = .tuple #[.agg u.toArray,.bool r.2]/\New I1 h h' u r.1:=by
 obtain⟨ay,m,ae,aj,az,rfl,rfl,k,l,n,ar⟩:=opG U;unfold M9 at a;dsimp only at a;refine wk Tryz.f88 ?_;refine trV a (P7 _ _ _ (C0 k l n)) λaM a=>?_;refine trG a (λq=>p5 _ _ x 0 oD (i64.wrap (m-1)) (O0 _)) λaN a=>?_;refine ifB a (λJ a=>?_) λJ a=>?_
 ·refine trM a (F5 _ _ _ (C0 k l n)) ?_;rintro aY a aK T ⟨am,rfl,s⟩;have aF:Sub h T:=s.sub;have Y:=s.r;obtain⟨aZ,a0,ah,ap,a1,rfl,rfl,O,P,aC,aw⟩:=opG Y;try dsimp only at a
  have ac:=nD (nD (s));cases a;exact⟨_,rfl,(nP (nI O) (nP (nI P) ac))⟩
 obtain⟨t,G,a⟩:=D0 a;refine eX { vars:=[7],owns:=[0] } (eX (λvs os h'=>∃ c o i,vs.tail = [iV c]/\os = [o]/\Sub h h'/\I0 c/\F2 (Wp.int.R h') o i/\P5 m d (P1 vs) c i=some t) (eX (λ_ _=>0) (aI (eX U0 ⟨_,_,_,rfl,rfl,sr,oD,(show F2 (Wp.int.R h) ([[iV d]]:LV) [d] from⟨⟨rfl,x⟩,trivial⟩),G⟩) ?_)));rintro _ o f z ⟨c,a2,i,⟨⟩,⟨⟩,g,y,e,b⟩;replace b:P5 m d f c i=some t:=b;obtain _|f:=f;·cases b
 rw[P5.eq_2]at b;refine ifB b (λH b=>?_) λH b=>?_
 ·refine ifB b (λI b=>?_) λI b=>?_;·obtain⟨aA,F,b⟩:=D0 b;refine aI (N1 F (by first|rw[fL e,fL (show F2 (Wp.int.R z) ([[iV c]]:LV) [c] from⟨⟨rfl,y⟩,trivial⟩)]|exact congrArg (·+1) (fL e))) ?_;exact C2 f ⟨_,_,_,rfl,rfl,g,(O0 _),(fA e (show F2 (Wp.int.R z) ([[iV c]]:LV) [c] from⟨⟨rfl,y⟩,trivial⟩)),b⟩
  exact C2 f ⟨_,_,_,rfl,rfl,g,(O0 _),e,b⟩
 cases b;try dsimp only[V0,Y0]at a
 refine Or.inl ?_;intro aG Q E;obtain⟨ai,aq,rfl,Z,D,ax⟩:=C1.out (r:=Wp.int.toRp) E e;refine trM a (q05 _ _ _ (C0 k l (M0.mono (g.trans D) n)) _ _ _ _ Z) ?_;rintro ad a aH A ⟨ak,rfl,j⟩;obtain⟨aO,aS⟩:=ad;dsimp only at a j;have aa:Sub Q A:=j.sub;have V:=j.r;obtain⟨aP,aQ,af,an,aR,rfl,rfl,K,L,W,au⟩:=opG V;try dsimp only at a
 have aL:=nD (nD (j));refine trM a (J05 _ _ _ (C0 K L W)) ?_;rintro aU a aJ S ⟨al,rfl,p⟩;have aD:Sub A S:=p.sub;have X:=p.r;obtain⟨aV,aW,ag,ao,aX,rfl,rfl,M,N,aB,av⟩:=opG X;try dsimp only at a
 have ab:=nD (nD (p));cases a;exact⟨_,rfl,(nP (nI M) (nP (nI N) (New.from ab ((g.trans D).trans aa))))⟩
set_option maxHeartbeats 0
def V0l(h:Hp)(W:List Value)(ab:B0)(bb:I1.R h W ab)(r:T0)(d:k05 ab=some r): Tr Tryz.prog 183 #[.agg W.toArray] h λv h'=>∃(T:Option Addr) (aa V:Nat),v = .slice T aa V/\M0.R h' [.slice T aa V] r/\Sub h h':=by
 obtain⟨t,u,bo,bt,w,rfl,rfl,J,Z,ac,b0⟩:=opG bb;unfold k05 at d;dsimp only at d;refine wk Tryz.f183 ?_;refine trV d (P7 _ _ _ (C0 J Z ac)) λcy d=>?_;refine ifB d (λaR d=>?_) λaR d=>?_;·intro ct bN aC;obtain⟨bs,bE,rfl,bj,bm,ca⟩:=C1.out (r:=E1.toRp) aC (show F2 (E1.R h) ([]:LV) ([]:T0) from trivial);cases d;exact⟨_,_,_,rfl,bj,bm⟩
 refine trM d (I05 _ _ J) ?_;rintro m d cx a8 ⟨U,cc,X,rfl,p,x⟩;obtain⟨rfl,b5⟩:=sL p;obtain⟨Q,aP,d⟩:=D0 d;refine eX { vars:=[3,6],owns:=[1],pubs:=[3,9] } (eX (λvs os h'=>∃(F:Option Addr) (K H:Nat) (y:T0) (j:Int) (D:LV) (z:List Int),vs.tail = [.slice F K H,iV j]/\os = [D]/\Sub a8 h'/\M0.R h' [.slice F K H] y/\I0 j/\F2 (Wp.int.R h') D z/\b01 m t u w (P1 vs) y j z=some Q) (eX (λ_ _=>0) ?_));intro cs bL aA;obtain⟨am,au,rfl,bh,ah,b7⟩:=C1.out (r:=E1.toRp) aA (F2.up (r:=E1.toRp) x (show F2 (E1.R h) ([]:LV) ([]:T0) from trivial));refine aI (eX U0 ⟨am,(([]:T0)).length,au,([]:T0),0,([[iV 0]]:LV),[0],rfl,rfl,ah,bh,oD,(F2.up (r:=Wp.int.toRp) (x.trans ah) (show F2 (Wp.int.R h) ([[iV 0]]:LV) [0] from⟨⟨rfl,oD⟩,trivial⟩)),aP⟩) ?_;rintro _ _ D s a3 ⟨F,K,H,y,j,cG,z,⟨⟩,⟨⟩,i,M,bH,Y,b⟩;replace b:b01 m t u w s y j z=some Q:=b;obtain _|s:=s;·cases b
 rw[b01.eq_2]at b;obtain⟨rfl,b1⟩:=sL M;obtain⟨ba,aD,b⟩:=D0 b;obtain rfl:D.length=ba:=(fL Y).trans (oJ aD);obtain⟨ce,bG,b⟩:=D0 b;refine ifB b (λaS b=>?_) λaS b=>?_
 ·obtain⟨S,aQ,b⟩:=D0 b;refine eX { vars:=[3,7],owns:=[1] } (eX (λvs os h'=>∃ G L I A k P C,vs.tail = [.slice G L I,iV k]/\os = [P]/\Sub a3 h'/\M0.R h' [.slice G L I] A/\I0 k/\F2 (Wp.int.R h') P C/\T7 m j t u w (P1 vs) A k C=some S) (eX (λ_ _=>0) (aI (eX U0 ⟨_,_,_,_,_,_,_,rfl,rfl,sr,M,oD,Y,aQ⟩) ?_)));rintro _ _ P l n ⟨G,L,I,A,k,cH,C,⟨⟩,⟨⟩,f,o,bI,e,a⟩;replace a:T7 m j t u w l A k C=some S:=a;obtain _|l:=l;·cases a
  rw[T7.eq_2]at a;obtain⟨rfl,b2⟩:=sL o;refine ifB a (λaU a=>?_) λaU a=>?_
  ·refine w1 ?_;obtain⟨cz,aH,a⟩:=D0 a;obtain⟨an,bu,av,bc⟩:=J3 e aH;refine aI an ?_;obtain⟨rfl,aY⟩:=bc;refine eX _ (aI av ?_);refine ldI a (K0.mono (i.trans f) p) λcA aZ a=>?_;obtain⟨c,aJ,a⟩:=D0 a;refine eX (iV c) (aI (d7 _ _ _ (C0 J Z (M0.mono ((x.trans i).trans f) ac)) _ aY _ aZ _  aJ) ?_);obtain⟨cf,aF,a⟩:=D0 a;have g:I0 c:=N0 aF;obtain⟨bn,aK,a⟩:=D0 a;refine eX (.bool bn) (aI ?_ ?_);·intro aX;intro cu bM aB;obtain⟨br,bD,rfl,bi,cr,b8⟩:=C1.out (r:=Wp.int.toRp) aB e;exact H05 _ _ _ _ _ bi _ g _ (F9 aK aX)
   refine ifB a (λaV a=>?_) λaV a=>?_;·exact C2 l ⟨_,_,_,_,_,_,_,rfl,rfl,f,o,(O0 _),e,a⟩
   obtain⟨cg,aG,a⟩:=D0 a;refine aI (N1 aG (by first|rw[fL e,fL (show F2 (Wp.int.R n) ([[iV c]]:LV) [c] from⟨⟨rfl,g⟩,trivial⟩)]|exact congrArg (·+1) (fL e))) ?_;refine ldI a (K0.mono (i.trans f) p) λcC bJ a=>?_;refine ifB a (λaW a=>?_) λaW a=>?_
   ·refine w5 11 ?_;obtain⟨ak,aL,a⟩:=D0 a;obtain⟨ao,bv,aw,bd⟩:=J3 (fA e (show F2 (Wp.int.R n) ([[iV c]]:LV) [c] from⟨⟨rfl,g⟩,trivial⟩)) aL;obtain⟨rfl,a0⟩:=bd;refine Or.inl ?_;apply eX;refine aI ?_ ?_;·intro bO ch;exact aI ao r3
    refine pm (.val (iV ak)) ?_ ?_;·intro bP ci;exact eX _ (aI aw r3)
    obtain⟨al,aM,a⟩:=D0 a;obtain⟨ap,bx,ax,be⟩:=Sl.getI (r:=Wp.int.toRp) (K0.mono (i.trans f) p) aM oD;obtain⟨rfl,a1⟩:=be;refine pm (.hel (.slice U m.length X) k 1 0) ?_ ?_;·intro bQ cj;exact aI ap r3
    refine pm (.val (iV al)) ?_ ?_;·intro bR bk;exact eX _ (aI (U8.up bk ax) r3)
    refine pm (.agg [.val (iV ak),.val (iV al),.val (iV c)]) ?_ ?_;·intro bS ck;exact r3
    intro a4 N;refine trM a (o02 _ _ _ _ _ (M0.mono N o) _ _ (Z1 a0 a1 g)) ?_;rintro cD a cv a5 ⟨bp,cb,bB,rfl,ai⟩;have af:Sub a4 a5:=ai.sub;have ad:=ai.r;obtain⟨rfl,b3⟩:=sL ad;exact C2 l ⟨_,_,_,_,_,_,_,rfl,rfl,((f.trans N).trans af),ad,(O0 _),(F2.up (r:=Wp.int.toRp) (N.trans af) (fA e (show F2 (Wp.int.R n) ([[iV c]]:LV) [c] from⟨⟨rfl,g⟩,trivial⟩))),a⟩
   refine w5 12 ?_;obtain⟨q,aN,a⟩:=D0 a;obtain⟨aq,bz,ay,bf⟩:=Sl.getI (r:=Wp.int.toRp) (K0.mono (i.trans f) p) aN oD;obtain⟨rfl,bK⟩:=bf;refine pm (.hel (.slice U m.length X) k 1 0) ?_ ?_;·intro bU cl;exact aI aq r3
   refine pm (.val (iV q)) ?_ ?_;·intro bV bl;exact eX _ (aI (U8.up bl ay) r3)
   refine pm (.val (iV (i64.wrap (0-q)))) ?_ ?_;·intro bW cm;exact r3
   obtain⟨E,aO,a⟩:=D0 a;obtain⟨ar,bA,az,bg⟩:=J3 (fA e (show F2 (Wp.int.R n) ([[iV c]]:LV) [c] from⟨⟨rfl,g⟩,trivial⟩)) aO;obtain⟨rfl,a2⟩:=bg;refine Or.inl ?_;apply eX;refine aI ?_ ?_;·intro bX cn;exact aI ar r3
   refine pm (.val (iV E)) ?_ ?_;·intro bY co;exact eX _ (aI az r3)
   refine pm (.agg [.val (iV c),.val (iV (i64.wrap (0-q))),.val (iV E)]) ?_ ?_;·intro bZ cq;exact r3
   intro a6 O;refine trM a (o02 _ _ _ _ _ (M0.mono O o) [iV c,iV (i64.wrap (0-q)),iV E] (c,(i64.wrap (0-q)),E) (Z1 g (O0 _) a2)) ?_;rintro cE a cw a7 ⟨bq,cd,bC,rfl,aj⟩;have ag:Sub a6 a7:=aj.sub;have ae:=aj.r;obtain⟨rfl,b6⟩:=sL ae;exact C2 l ⟨_,_,_,_,_,_,_,rfl,rfl,((f.trans O).trans ag),ae,(O0 _),(F2.up (r:=Wp.int.toRp) (O.trans ag) (fA e (show F2 (Wp.int.R n) ([[iV c]]:LV) [c] from⟨⟨rfl,g⟩,trivial⟩))),a⟩
  cases a;try dsimp only[V0,Y0]at b
  exact C2 s ⟨_,_,_,_,_,_,_,rfl,rfl,(i.trans f),o,(O0 _),e,b⟩
 cases b;try dsimp only[V0,Y0]at d
 cases d;exact⟨_,_,_,rfl,M,(x.trans i)⟩
def V09(h:Hp)(E:List Value)(O:B0)(ad:I1.R h E O)(r:T0)(d:O01 O=some r): Tr Tryz.prog 145 #[.agg E.toArray] h λv h'=>∃(C:Option Addr) (N D:Nat),v = .slice C N D/\M0.R h' [.slice C N D] r/\Sub h h':=by
 obtain⟨P,Q,ap,au,m,rfl,rfl,H,I,n,aL⟩:=opG ad;unfold O01 at d;dsimp only at d;refine wk Tryz.f145 ?_;refine trM d (V0l _ _ _ (C0 H I n)) ?_;rintro t d aR M ⟨aq,aO,ay,rfl,S,o⟩;obtain⟨rfl,aM⟩:=sL S;obtain⟨A,Y,d⟩:=D0 d;refine eX { vars:=[5],owns:=[0] } (eX (λvs os h'=>∃ f y s,vs.tail = [iV f]/\os = [y]/\Sub M h'/\I0 f/\F2 (E1.R h') y s/\G6 m P Q t (P1 vs) f s=some A) (eX (λ_ _=>0) (aI (eX U0 ⟨_,_,_,rfl,rfl,sr,oD,(show F2 (E1.R M) ([]:LV) ([]:T0) from trivial),Y⟩) ?_)));rintro _ y i ac ⟨f,aX,s,⟨⟩,⟨⟩,e,aB,g,a⟩;replace a:G6 m P Q t i f s=some A:=a;obtain _|i:=i;·cases a
 rw[G6.eq_2]at a;refine trG a (λq=>P7 _ _ _ (C0 H I (M0.mono (o.trans e) n))) λaW a=>?_;refine ifB a (λZ a=>?_) λZ a=>?_
 ·obtain⟨z,X,a⟩:=D0 a;refine eX { vars:=[6,7] } (eX (λvs os h'=>∃ p j,vs.tail = [.bool p,iV j]/\os = []/\Sub ac h'/\I0 j/\Y7 t m f (P1 vs) p j=some z) (eX (λ_ _=>0) (aI (eX U0 ⟨_,_,rfl,rfl,sr,oD,X⟩) ?_)));rintro _ _ l k ⟨p,j,⟨⟩,⟨⟩,c,aA,b⟩;replace b:Y7 t m f l p j=some z:=b;obtain _|l:=l;·cases b
  rw[Y7.eq_2]at b;refine ifB b (λaa b=>?_) λaa b=>?_
  ·refine w1 ?_;obtain⟨aS,V,b⟩:=D0 b;obtain⟨av,F,ae⟩:=Sl.getG (r:=E1.toRp) (M0.mono (e.trans c) S) V oD (A0b k);refine aI (λq=>(F q).1) ?_;obtain⟨aj,ak,al,rfl,rfl,aC,aD,aF⟩:=D2 ae;try dsimp only at b
   refine eX _ (aI (λq=>(F q).2) ?_);obtain⟨aU,W,b⟩:=D0 b;obtain⟨aw,G,af⟩:=Sl.getG (r:=E1.toRp) (M0.mono ((o.trans e).trans c) n) W oD (A0b k);refine aI (λq=>(G q).1) ?_;obtain⟨am,an,ao,rfl,rfl,aG,aH,aJ⟩:=D2 af;try dsimp only at b
   refine eX _ (aI (λq=>(G q).2) ?_);refine eX (eqE (aj,ak,al) (am,an,ao)) (aI (λ_=>(R0b _ _ _ rfl _ _ _ _ _ _)) ?_);exact C2 l ⟨_,_,rfl,rfl,c,(O0 _),b⟩
  cases b;try dsimp only[V0,Y0]at a
  refine ifB a (λab a=>?_) λab a=>?_
  ·refine ld a (M0.mono ((o.trans e).trans c) n) λaV ax ag a=>?_;obtain⟨u,w,x,rfl,rfl,J,K,L⟩:=D2 ag;try dsimp only at a
   obtain⟨aP,U,a⟩:=D0 a;refine aI (N1 U (by first|rw[fL (F2.up (r:=E1.toRp) c g),fL (show F2 (E1.R k) ([[iV u,iV w,iV x]]:LV) [(u,w,x)] from⟨(Z1 J K L),trivial⟩)]|exact congrArg (·+1) (fL (F2.up (r:=E1.toRp) c g)))) ?_;exact C2 i ⟨_,_,_,rfl,rfl,(e.trans c),(O0 _),(fA (F2.up (r:=E1.toRp) c g) (show F2 (E1.R k) ([[iV u,iV w,iV x]]:LV) [(u,w,x)] from⟨(Z1 J K L),trivial⟩)),a⟩
  exact C2 i ⟨_,_,_,rfl,rfl,(e.trans c),(O0 _),(F2.up (r:=E1.toRp) c g),a⟩
 cases a;try dsimp only[V0,Y0]at d
 intro aQ aK T;obtain⟨ar,az,rfl,ah,ai,aN⟩:=C1.out (r:=E1.toRp) T g;cases d;exact⟨_,_,_,rfl,ah,((o.trans e).trans ai)⟩
def v0m(h:Hp)(U:List Value)(ad:B0)(aK:I1.R h U ad)(V:List Value)(af:Q0)(aL:E1.R h V af)(r:J0)(a:W05 ad af=some r): Tr Tryz.prog 146 #[.agg U.toArray,.agg V.toArray] h λv h'=>∃(S:Option Addr) (ac T:Nat),v = .slice S ac T/\K0.R h' [.slice S ac T] r/\Sub h h':=by
 obtain⟨bb,bc,aY,a0,ae,rfl,rfl,j,k,i,a8⟩:=opG aK;obtain⟨J,c,K,rfl,rfl,aa,A,ab⟩:=D2 aL;unfold W05 at a;dsimp only at a;refine wk Tryz.f146 ?_;obtain⟨Q,aq,a⟩:=D0 a;refine eX { vars:=[5,6] } (eX (λvs os h'=>∃ D w,vs.tail = [.bool D,iV w]/\os = []/\Sub h h'/\I0 w/\P00 ae J c K (P1 vs) D w=some Q) (eX (λ_ _=>0) (aI (eX U0 ⟨_,_,rfl,rfl,sr,oD,aq⟩) ?_)));rintro _ _ C g ⟨D,w,⟨⟩,⟨⟩,d,a3,b⟩;replace b:P00 ae J c K C D w=some Q:=b;obtain _|C:=C;·cases b
 rw[P00.eq_2]at b;refine ifB b (λar b=>?_) λar b=>?_
 ·refine w1 ?_;obtain⟨bj,ao,b⟩:=D0 b;obtain⟨a1,W,aM⟩:=Sl.getG (r:=E1.toRp) (M0.mono d i) ao oD (A0b g);refine aI (λq=>(W q).1) ?_;obtain⟨aV,aW,aX,rfl,rfl,a4,a5,a6⟩:=D2 aM;try dsimp only at b
  refine eX _ (aI (λq=>(W q).2) ?_);refine eX (eqE (aV,aW,aX) (J,c,K)) (aI (λ_=>(R0b _ _ _ rfl _ _ _ _ _ _)) ?_);exact C2 C ⟨_,_,rfl,rfl,d,(O0 _),b⟩
 cases b;try dsimp only[V0,Y0]at a
 refine trV a (P7 _ _ _ (C0 j k (M0.mono d i))) λbk a=>?_;refine ifB a (λau a=>?_) λau a=>?_;·intro be a7 an;obtain⟨aZ,a2,rfl,aN,aO,ba⟩:=C1.out (r:=Wp.int.toRp) an (show F2 (Wp.int.R g) ([]:LV) ([]:J0) from trivial);cases a;exact⟨_,_,_,rfl,aN,(d.trans aO)⟩
 refine w3 ?_;obtain⟨bf,y,a⟩:=D0 a;obtain⟨bd,X,a⟩:=D0 a;obtain⟨bg,z,a⟩:=D0 a;obtain⟨bh,Y,a⟩:=D0 a;obtain⟨bi,Z,a⟩:=D0 a;refine aI ?_ ?_;·skip;refine Tr.mono (i06 _ _ _ (C0 j k (M0.mono d i)) _ aa _  y) ?_;rintro aP l ⟨y,aC,ai,rfl,e⟩;have N:Sub g l:=e.sub;have L:=e.r;obtain⟨rfl,ax⟩:=sL L;refine aI (by first|exact trivial|exact rfl) ?_;refine aI ?_ trivial;refine aI (by first|exact trivial|exact rfl) ?_;refine aI ?_ trivial;obtain⟨P,M,m,E⟩:=New.app e sr;refine eX P (aI M (aI (N1 X (by first|rw[m,fL (show F2 (Wp.int.R l) ([[iV c]]:LV) [c] from⟨⟨rfl,A⟩,trivial⟩)]|(rw[m];rfl))) ?_));intro aU I G;obtain⟨f,ap,aJ,aH,am,rfl⟩:=E _ _ _ _ _ (F3.ofPlain (M05 _) (show F2 (Wp.int.R l) ([[iV c]]:LV) [c] from⟨⟨rfl,A⟩,trivial⟩)) g6.ofPlain G;have s:=f.r;obtain⟨F,aB⟩:=sL s;subst F;refine aI (by first|exact trivial|exact rfl) ?_;refine aI ?_ trivial;refine Tr.mono (i06 _ _ _ (C0 j k (M0.mono (d.trans f.sub) i)) _ ab _  z) ?_;rintro aQ H ⟨z,aD,aj,rfl,x⟩;have t:Sub I H:=x.sub;have n:=x.r;obtain⟨rfl,ay⟩:=sL n;refine aI (by first|exact trivial|exact rfl) ?_;refine aI ?_ trivial;refine Tr.mono (U04 _ _ _ _ _ n _  Y) ?_;rintro aR av ⟨ag,aF,ak,rfl,o,u⟩;obtain⟨rfl,az⟩:=sL o;refine aI (by first|exact trivial|exact rfl) ?_;refine aI ?_ trivial;refine Tr.mono (o03 _ _ _ _ _ (K0.mono (t.trans u) s) _ _ _ _ o _  Z) ?_;rintro aS aw ⟨ah,aG,al,rfl,p,O⟩;obtain⟨rfl,aA⟩:=sL p;refine aI (by first|exact trivial|exact rfl) ?_;refine aI ?_ trivial;refine aI (by first|exact trivial|exact rfl) ?_;cases a;exact⟨_,_,_,rfl,p,((((d.trans f.sub).trans t).trans u).trans O)⟩
 refine aI ?_ ?_;·skip;refine aI (by first|exact trivial|exact rfl) ?_;refine aI ?_ trivial;refine Tr.mono (i06 _ _ _ (C0 j k (M0.mono d i)) _ aa _  y) ?_;rintro aP l ⟨y,aC,ai,rfl,e⟩;have N:Sub g l:=e.sub;have L:=e.r;obtain⟨rfl,ax⟩:=sL L;refine aI (by first|exact trivial|exact rfl) ?_;refine aI ?_ trivial;obtain⟨P,M,m,E⟩:=New.app e sr;refine eX P (aI M (aI (N1 X (by first|rw[m,fL (F2.up (r:=Wp.int.toRp) N (show F2 (Wp.int.R g) ([[iV c]]:LV) [c] from⟨⟨rfl,A⟩,trivial⟩))]|(rw[m];rfl))) ?_));intro aU I G;obtain⟨f,ap,aJ,aH,am,rfl⟩:=E _ _ _ _ _ (F3.ofPlain (M05 _) (F2.up (r:=Wp.int.toRp) N (show F2 (Wp.int.R g) ([[iV c]]:LV) [c] from⟨⟨rfl,A⟩,trivial⟩))) g6.ofPlain G;have s:=f.r;obtain⟨F,aB⟩:=sL s;subst F;refine aI (by first|exact trivial|exact rfl) ?_;refine aI ?_ trivial;refine Tr.mono (i06 _ _ _ (C0 j k (M0.mono (d.trans f.sub) i)) _ ab _  z) ?_;rintro aQ H ⟨z,aD,aj,rfl,x⟩;have t:Sub I H:=x.sub;have n:=x.r;obtain⟨rfl,ay⟩:=sL n;refine aI (by first|exact trivial|exact rfl) ?_;refine aI ?_ trivial;refine Tr.mono (U04 _ _ _ _ _ n _  Y) ?_;rintro aR av ⟨ag,aF,ak,rfl,o,u⟩;obtain⟨rfl,az⟩:=sL o;refine aI (by first|exact trivial|exact rfl) ?_;refine aI ?_ trivial;refine Tr.mono (o03 _ _ _ _ _ (K0.mono (t.trans u) s) _ _ _ _ o _  Z) ?_;rintro aS aw ⟨ah,aG,al,rfl,p,O⟩;obtain⟨rfl,aA⟩:=sL p;refine aI (by first|exact trivial|exact rfl) ?_;refine aI ?_ trivial;refine aI (by first|exact trivial|exact rfl) ?_;cases a;exact⟨_,_,_,rfl,p,((((d.trans f.sub).trans t).trans u).trans O)⟩
 exact trivial
def W0l(h:Hp)(w:List Value)(A:B0)(af:I1.R h w A)(r:K1)(b:l05 A=some r): Tr Tryz.prog 76 #[.agg w.toArray] h λv h'=>∃(s:Option Addr) (z u:Nat),v = .slice s z u/\Q1.R h' [.slice s z u] r/\Sub h h':=by
 obtain⟨C,D,au,ay,E,rfl,rfl,k,l,m,aO⟩:=opG af;unfold l05 at b;dsimp only at b;refine wk Tryz.f76 ?_;refine trV b (g7 _ _ _ (C0 k l m)) λa4 b=>?_;refine ifB b (λY b=>?_) λY b=>?_;·intro a1 aM S;obtain⟨ax,aC,rfl,aj,ao,aU⟩:=C1.out (r:=K0.toRp) S (show F2 (K0.R h) ([]:LV) ([]:K1) from trivial);cases b;exact⟨_,_,_,rfl,aj,ao⟩
 refine trM b (V09 _ _ _ (C0 k l m)) ?_;rintro p b a3 ac ⟨J,aW,N,rfl,G,n⟩;obtain⟨rfl,aP⟩:=sL G;obtain⟨q,W,b⟩:=D0 b;refine eX { vars:=[5],owns:=[0] } (eX (λvs os h'=>∃ c o j,vs.tail = [iV c]/\os = [o]/\Sub ac h'/\I0 c/\F2 (K0.R h') o j/\i00 p C D E (P1 vs) c j=some q) (eX (λ_ _=>0) (aI (eX U0 ⟨_,_,_,rfl,rfl,sr,oD,(F2.up (r:=K0.toRp) n (show F2 (K0.R h) ([]:LV) ([]:K1) from trivial)),W⟩) ?_)));rintro _ o f aF ⟨c,a6,j,⟨⟩,⟨⟩,i,aD,e,a⟩;replace a:i00 p C D E f c j=some q:=a;obtain _|f:=f;·cases a
 rw[i00.eq_2]at a;refine ifB a (λX a=>?_) λX a=>?_
 ·refine w4 ?_;obtain⟨a5,U,a⟩:=D0 a;obtain⟨L,az,P,ag⟩:=Sl.getI (r:=E1.toRp) (M0.mono i G) U oD;obtain⟨ap,aq,ar,rfl,rfl,Z,aa,ab⟩:=D2 ag;try dsimp only at a
  refine pm (.hel (.slice J p.length N) c 3 0) ?_ ?_;·intro aG aZ;exact aI L r3
  refine pm (.agg [.val (iV ap),.val (iV aq),.val (iV ar)]) ?_ ?_;·intro aH ak;exact eX _ (aI (U8.up ak P) r3)
  obtain⟨d,V,a⟩:=D0 a;refine fS K0 d ?_ ?_;·intro aJ al;refine Tr.mono (v0m _ _ _ (C0 k l (M0.mono ((n.trans i).trans al) m)) _ _ (Z1 Z aa ab) _ V) ?_;rintro _ aN ⟨I,aV,M,rfl,F,am⟩;obtain⟨rfl,ad⟩:=sL F;exact aI K7 (aI am ⟨I,M,rfl,F,ad⟩)
  refine fS K0 d ?_ ?_;·intro aK a0;rintro _ ⟨K,O,rfl,ah,ae⟩;exact aI K7 (aI sr ⟨K,O,rfl,ah,ae⟩)
  intro y g;rintro _ ⟨t,x,rfl,H,aQ⟩;rintro _ ⟨av,aA,rfl,aY,aR⟩;obtain⟨aX,T,a⟩:=D0 a;refine aI (N1 T (by first|rw[fL (F2.up (r:=K0.toRp) g e),fL (show F2 (K0.R y) ([[.slice t d.length x]]:LV) [d] from⟨H,trivial⟩)]|exact congrArg (·+1) (fL (F2.up (r:=K0.toRp) g e)))) ?_;exact C2 f ⟨_,_,_,rfl,rfl,(i.trans g),(O0 _),(fA (F2.up (r:=K0.toRp) g e) (show F2 (K0.R y) ([[.slice t d.length x]]:LV) [d] from⟨H,trivial⟩)),a⟩
 cases a;try dsimp only[V0,Y0]at b
 intro a2 aL Q;obtain⟨aw,aB,rfl,ai,an,aS⟩:=C1.out (r:=K0.toRp) Q e;cases b;exact⟨_,_,_,rfl,ai,((n.trans i).trans an)⟩
def W09(h:Hp)(n:List Value)(u:B0)(L:I1.R h n u)(j:Int)(s:I0 j)(l:Option Addr)(t m:Nat)(g:J0)(z:K0.R h [.slice l t m] g)(r:Int)(b:P01 u j g=some r): Tr Tryz.prog 84 #[.agg n.toArray,iV j,.slice l t m] h λv h'=>v=iV r/\h'=h:=by
 obtain⟨w,i,M,N,x,rfl,rfl,o,p,y,Q⟩:=opG L;obtain⟨rfl,S⟩:=sL z;unfold P01 at b;dsimp only at b;refine wkF Tryz.f84 ?_;refine trV b (P7 _ _ _ (C0 o p y)) λU b=>?_;refine trG b (λq=>p5 _ _ s 0 oD (i64.wrap (i-1)) (O0 _)) λW b=>?_;refine ifB b (λG b=>?_) λG b=>?_;·cases b;exact aI rfl sr
 obtain⟨k,E,b⟩:=D0 b;refine eX { vars:=[1,7] } (eX (λvs os h'=>∃ d e,vs.tail = [iV d,iV e]/\os = []/\Sub h h'/\I0 d/\I0 e/\Z7 g w i x (P1 vs) d e=some k) (eX (λ_ _=>0) (aI (eX U0 ⟨_,_,rfl,rfl,sr,s,oD,E⟩) ?_)));rintro _ _ f P ⟨d,e,⟨⟩,⟨⟩,c,I,O,a⟩;replace a:Z7 g w i x f d e=some k:=a;obtain _|f:=f;·cases a
 rw[Z7.eq_2]at a;refine ifB a (λH a=>?_) λH a=>?_
 ·refine w1 ?_;refine ldI a (K0.mono c z) λV J a=>?_;obtain⟨A,D,a⟩:=D0 a;refine eX (iV A) (aI (d7 _ _ _ (C0 o p (M0.mono c y)) _ I _ J _  D) ?_);obtain⟨T,C,a⟩:=D0 a;have K:I0 A:=N0 C;refine ifB a (λF a=>?_) λF a=>?_
  ·cases a;try dsimp only[Y2,N3]at b
   cases b;exact aI rfl c
  exact C2 f ⟨_,_,rfl,rfl,c,K,(O0 _),a⟩
 cases a;try dsimp only[V0,Y0]at b
 cases b;exact aI rfl c
def x03(h:Hp)(M:List Value)(V:B0)(aV:I1.R h M V)(H:Option Addr)(U K:Nat)(W:J0)(x:K0.R h [.slice H U K] W)(r:B0×Bool)(b:D4 V W=some r): Tr Tryz.prog 17 #[.agg M.toArray,.slice H U K] h λv h'=>∃(L:List Value),v = .tuple #[.agg L.toArray,.bool r.2]/\New I1 h h' L r.1:=by
 obtain⟨ck,cl,bq,bC,cm,rfl,rfl,p,m,w,b8⟩:=opG aV;obtain⟨rfl,ca⟩:=sL x;unfold D4 at b;dsimp only at b;refine wk Tryz.f17 ?_;refine trV b (g7 _ _ _ (C0 p m w)) λcI b=>?_;refine trG b (λq=>s02 _ _ p _ _ _ _ x) λcJ b=>?_;refine ifB b (λap b=>?_) λap b=>?_;·cases b;exact⟨_,rfl,(nP (nI (show I0 (0) from(oD))) (nP (nI (show I0 (0) from(oD))) ((New.nilSlice (r:=E1)).mono sr)))⟩
 refine trV b (W09 _ _ _ (C0 p m w) 0 oD _ _ _ _ x) λbl b=>?_;obtain⟨co,ai,b⟩:=D0 b;have bS:I0 bl:=N0 ai;refine w4 ?_;obtain⟨bo,al,b⟩:=D0 b;refine fS K0 bo ?_ ?_;·intro b6 bc;obtain⟨aU,be,ad,ag⟩:=Sl.cutI (r:=Wp.int.toRp) (K0.mono bc x) al;refine aI aU (eX be (aI ad ?_));intro v D _;obtain⟨a,c,rfl,r⟩:=ag v D;exact aI K7 (aI sr ⟨a,c,rfl,r,(sL r).2⟩)
 obtain⟨bp,am,b⟩:=D0 b;obtain⟨G,Z⟩:=bp;try dsimp only at b
 obtain⟨cn,ah,b⟩:=D0 b;have S:I0 G:=N0 ah;refine pm (.val (.tuple #[iV G,.bool Z])) ?_ ?_;·intro bW a8;rintro _ ⟨bv,bN,rfl,a3,cf⟩;exact Tr.val (k08 _ _ _ (C0 p m (M0.mono a8 w)) 0 oD _ _ _ _ a3 _ am) r3
 refine pm (.val (iV G)) ?_ ?_;·intro bX cu;exact r3
 refine pm (.val (.bool Z)) ?_ ?_;·intro bY cv;exact r3
 intro aL n;rintro _ ⟨bx,bO,rfl,cs,cg⟩;refine trM b (F5 _ _ _ (C0 p m (M0.mono n w))) ?_;rintro cK b cC T ⟨bD,rfl,E⟩;have s:Sub aL T:=E.sub;have aW:=E.r;obtain⟨cL,cM,br,bJ,cN,rfl,rfl,ar,au,aX,cb⟩:=opG aW;try dsimp only at b
 have cH:=nD (nD (E));refine ifB b (λan b=>?_) λan b=>?_
 ·refine trM b (e0b _ _ _ (C0 p m (M0.mono (n.trans s) w))) ?_;rintro bh b cD bZ ⟨bE,rfl,X,y⟩;obtain⟨cO,cS⟩:=bh;dsimp only at b X;obtain⟨cP,cQ,bs,bK,cR,rfl,rfl,av,aw,aY,cc⟩:=opG X;try dsimp only at b
  refine ifB b (λao b=>?_) λao b=>?_;·cases b;exact⟨_,rfl,(nP (nI (show I0 (0) from(oD))) (nP (nI (show I0 (0) from(oD))) ((New.nilSlice (r:=E1)).mono ((n.trans s).trans y))))⟩
  refine w5 12 ?_;obtain⟨bi,aj,b⟩:=D0 b;refine fS K0 bi ?_ ?_;·intro b0 ba;obtain⟨aS,bd,ac,af⟩:=Sl.cutI (r:=Wp.int.toRp) (K0.mono (((n.trans s).trans y).trans ba) x) aj;refine aI aS (eX bd (aI ac ?_));intro v D _;obtain⟨a,c,rfl,r⟩:=af v D;exact aI K7 (aI sr ⟨a,c,rfl,r,(sL r).2⟩)
  obtain⟨bj,ak,b⟩:=D0 b;obtain⟨bk,F⟩:=bj;try dsimp only at b
  obtain⟨k,l,g⟩:=bk;try dsimp only at b
  refine Or.inr (eX (λv i=>∃(j:Value),v = .tuple #[j,.bool F]/\(λv i=>∃(d:Option Addr) (f:Nat),v = .agg #[iV k,iV l,.slice d g.length f]/\I0 k/\I0 l/\M0.R i [.slice d g.length f] g/\g.length<=9223372036854775807) j i) (aI (λv P Q o q=>by obtain⟨j,e,C⟩:=q;exact⟨j,e,(by obtain⟨d,f,e,t,u,f2,f3⟩:=C;exact⟨d,f,e,t,u,M0.mono o f2,f3⟩)⟩) (aI ?_ ?_)));·intro b1 bb;rintro _ ⟨bz,bP,rfl,a4,ch⟩;refine Tr.mono (v09 _ _ _ (C0 av aw (M0.mono bb aY)) _ S _ _ _ _ a4 _ m _ ak) ?_;rintro _ b7 ⟨bG,rfl,aZ,o⟩;obtain⟨c4,c5,I,N,c6,rfl,ae,aB,aC,a2,aP⟩:=opG aZ;cases ae;exact aI K7 (aI o ⟨(.agg #[iV k,iV l,.slice I g.length N]),rfl,⟨I,N,rfl,aB,aC,a2,aP⟩⟩)
  refine Or.inr (eX (λv i=>∃(j:Value),v = .tuple #[j,.bool F]/\(λv i=>∃(d:Option Addr) (f:Nat),v = .agg #[iV k,iV l,.slice d g.length f]/\I0 k/\I0 l/\M0.R i [.slice d g.length f] g/\g.length<=9223372036854775807) j i) (aI (λv P Q o q=>by obtain⟨j,e,C⟩:=q;exact⟨j,e,(by obtain⟨d,f,e,t,u,f2,f3⟩:=C;exact⟨d,f,e,t,u,M0.mono o f2,f3⟩)⟩) (aI ?_ ?_)));·intro b2 cw;rintro _ ⟨_,rfl,⟨J,O,rfl,aD,aF,a5,aQ⟩⟩;exact aI K7 (aI sr ⟨(.agg #[iV k,iV l,.slice J g.length O]),rfl,⟨J,O,rfl,aD,aF,a5,aQ⟩⟩)
  refine Or.inr (eX (λv i=>∃(d:Option Addr) (f:Nat),v = .agg #[iV k,iV l,.slice d g.length f]/\I0 k/\I0 l/\M0.R i [.slice d g.length f] g/\g.length<=9223372036854775807) (aI (λv P Q o q=>by obtain⟨d,f,e,t,u,f2,f3⟩:=q;exact⟨d,f,e,t,u,M0.mono o f2,f3⟩) (aI ?_ ?_)));·intro b3 cx;rintro _ ⟨_,rfl,⟨aa,ab,rfl,aG,aH,a6,aR⟩⟩;exact aI K7 (aI sr ⟨aa,ab,rfl,aG,aH,a6,aR⟩)
  refine pm (.val (.bool F)) ?_ ?_;·intro b5 cy;rintro _ ⟨_,rfl,⟨bA,bQ,rfl,bU,bV,ct,ci⟩⟩;exact r3
  intro aM Y;rintro _ ⟨bB,bR,rfl,aJ,aK,a7,cj⟩;rintro _ _;rintro _ _;rintro _ _;refine ifB b (λaq b=>?_) λaq b=>?_;·cases b;exact⟨_,rfl,(nP (nI (show I0 (0) from(oD))) (nP (nI (show I0 (0) from(oD))) ((New.nilSlice (r:=E1)).mono (((n.trans s).trans y).trans Y))))⟩
  refine trM b (d0c _ _ _ (C0 aJ aK a7) _ m) ?_;rintro bm b cE aN ⟨bH,rfl,z⟩;obtain⟨cU,cY⟩:=bm;dsimp only at b z;have cz:Sub aM aN:=z.sub;have a0:=z.r;obtain⟨cV,cW,bt,bL,cX,rfl,rfl,ax,ay,cq,cd⟩:=opG a0;try dsimp only at b
  have bf:=nD (nD (z));cases b;exact⟨_,rfl,(nP (nI ax) (nP (nI ay) (New.from bf (((n.trans s).trans y).trans Y))))⟩
 refine trM b (d0c _ _ _ (C0 ar au aX) _ S) ?_;rintro bn b cG aO ⟨bI,rfl,A⟩;obtain⟨cZ,c3⟩:=bn;dsimp only at b A;have cA:Sub T aO:=A.sub;have a1:=A.r;obtain⟨c0,c1,bu,bM,c2,rfl,rfl,az,aA,cr,ce⟩:=opG a1;try dsimp only at b
 have bg:=nD (nD (A));cases b;exact⟨_,rfl,(nP (nI az) (nP (nI aA) (New.from bg (n.trans s))))⟩
end Go.Proofs.YthkpbcnhdhfifaaGreat
