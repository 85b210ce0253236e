/- Texts of the claim, joined: The walks of batch cn and others. -/
import Derived.Test.YthakcafglempaaaGreatH53
import Derived.Test.YthakcafglempaaaGreatPart27
import Derived.Test.YthakcafglempaaaGreatPart25
import Derived.Test.YthakcafglempaaaGreatChecked
import Derived.Test.YthakcafglempaaaGreatH35
import Derived.Test.YthakcafglempaaaGreatPart39
import Derived.Test.YthakcafglempaaaGreatPart41
import Derived.Test.YthakcafglempaaaGreatPart42
import Derived.Test.YthakcafglempaaaGreatPart43
import Derived.Test.YthakcafglempaaaGreatPart44
import Derived.Test.YthakcafglempaaaGreatPart45
import Derived.Test.YthakcafglempaaaGreatH41
import Derived.Test.YthakcafglempaaaGreatH43
import Derived.Test.YthakcafglempaaaGreatH55
import Derived.Test.YthakcafglempaaaGreatPart30
import Derived.Test.YthakcafglempaaaGreatAfcr
namespace Go.Proofs.YthakcafglempaaaGreat
set_option linter.all false
open Go.H
open IntKind (i64)
set_option maxRecDepth 10000
def u0d(h:Hp)(u:Nat)(ab:TypeId)(y:Bool)(b:Int)(s:H0 b)(d:Option Addr)(w e:Nat)(c:T5)(l:Z2.R h [.slice d w e] c)(k:Int)(aj:H0 k)(p:Option Addr)(x q:Nat)(z:o01)(W:J3.R h [.slice p x q] z)(g:h u=some (.cells #[.bool y,iV b,.slice d w e,iV k,.slice p x q] ab (0,0)))(j:BA)(ai:j.size<=9223372036854775807)(p2:BA)(O:p2.size<=9223372036854775807)(i:BA)(P:i.size<=9223372036854775807)(r:BA)(a:y00 (y,(b,c),k,z) j p2 i=some r): Tr Tryz.prog 66 #[ptr u 0,.string j,.string p2,.string i] h λv h'=>v = .string r/\h'=h:=by
 obtain⟨rfl,al⟩:=sL l;obtain⟨rfl,am⟩:=sL W;unfold y00 at a;dsimp only at a;refine wkF Tryz.f66 ?_;refine eX (iV b) (aI ⟨rfl,p03 g rfl⟩ ?_);refine eX (.slice d c.length e) (aI ⟨rfl,p03 g rfl⟩ ?_);refine trM a (D09 _ [iV b,.slice d c.length e] (b,c) (u02 s l) p2 O) ?_;rintro ac a aq t ⟨ag,rfl,n⟩;obtain⟨au,av⟩:=ac;dsimp only at a n;have f:Sub h t:=n.sub;have X:=n.r;obtain⟨A,C,H,J,D,rfl,rfl,Q,S,Y,an⟩:=opG X;try dsimp only at a
 refine eX (iV b) (aI ⟨rfl,p03 (f _ _ g) rfl⟩ ?_);refine eX (.slice d c.length e) (aI ⟨rfl,p03 (f _ _ g) rfl⟩ ?_);refine trM a (D09 _ [iV b,.slice d c.length e] (b,c) (u02 s (Z2.mono f l)) i P) ?_;rintro ae a ar V ⟨ah,rfl,o⟩;obtain⟨aw,ax⟩:=ae;dsimp only at a o;have m:Sub t V:=o.sub;have Z:=o.r;obtain⟨E,F,I,K,G,rfl,rfl,T,U,aa,ao⟩:=opG Z;try dsimp only at a
 refine ifB a (λM a=>?_) λM a=>?_;·cases a;exact aI rfl (f.trans m)
 refine ifB a (λN a=>?_) λN a=>?_;·refine trV a (G05 _ [iV A,iV C,.slice H D.length J] (A,C,D) (D0 Q S (N0.mono m Y)) [iV E,iV F,.slice I G.length K] (E,F,G) (D0 T U aa)) λaf a=>?_;refine trV a (i0g _ af) λad a=>?_;obtain⟨ap,L,a⟩:=B0 a;have ak:ad.size<=9223372036854775807:=F0 L;cases a;exact aI rfl (f.trans m)
 cases a
def j0b(h:Hp)(d:Nat)(aa:TypeId)(X:Bool)(p:Int)(z:H0 p)(C:Option Addr)(av D:Nat)(A:T5)(G:Z2.R (h.drop d) [.slice C av D] A)(Q:Int)(N:H0 Q)(T:Option Addr)(aw U:Nat)(Y:o01)(H:J3.R (h.drop d) [.slice T aw U] Y)(s:h d=some (.cells #[.bool X,iV p,.slice C av D,iV Q,.slice T aw U] aa (0,0)))(J:Option Addr)(au K:Nat)(P:(List BA))(y:(Wp.slice Wp.str).R h [.slice J au K] P)(r:BA×Bool×E3×T3)(b:l9 (X,(p,A),Q,Y) P=some r): Tr Tryz.prog 61 #[ptr d 0,.slice J au K] h λv h'=>∃(ad:Option Addr) (aq aj:Nat) (ae:Option Addr) (ar ak:Nat),v = .string r.1/\H0 r.2.2.1.1/\Z2.R (h'.drop d) [.slice ad aq aj] r.2.2.1.2/\H0 r.2.2.2.1/\J3.R (h'.drop d) [.slice ae ar ak] r.2.2.2.2/\h' d=some (.cells #[.bool r.2.1,iV r.2.2.1.1,.slice ad aq aj,iV r.2.2.2.1,.slice ae ar ak] aa (0,0))/\Sub (h.drop d) (h'.drop d):=by
 obtain⟨rfl,cE⟩:=sL G;obtain⟨rfl,cG⟩:=sL H;obtain⟨rfl,cD⟩:=sL y;unfold l9 at b;dsimp only at b;refine wk Tryz.f61 ?_;refine ld b y λdc b0 bu b=>?_;obtain⟨rfl,cc⟩:=bu;refine ifB b (λa5 b=>?_) λa5 b=>?_
 ·refine w5 12 ?_;refine pm (.val (ptr d 0)) ?_ ?_;·intro cp c0;exact r3
  refine pm (.val (ptr d 1)) ?_ ?_;·intro cw c5;exact r3
  refine pm (.val (ptr d 1)) ?_ ?_;·intro cA c6;exact r3
  refine pm (.val (iV p)) ?_ ?_;·intro cC bN;exact eX (iV p) (aI (aI rfl (p03 (bN _ _ s) rfl)) r3)
  obtain⟨aA,a0,b⟩:=B0 b;obtain⟨aM,b1,aV,bv⟩:=Sl.getI (r:=Wp.str.toRp) y a0 oD;obtain⟨rfl,bd⟩:=bv;refine pm (.hel (.slice J P.length K) 2 1 0) ?_ ?_;·intro cj cS;exact aI aM r3
  refine pm (.val (.string aA)) ?_ ?_;·intro ck bO;exact eX _ (aI (T7.up bO aV) r3)
  obtain⟨bR,a1,b⟩:=B0 b;obtain⟨o,ac⟩:=bR;try dsimp only at b
  refine Or.inr (eX (λv g=>∃(t:Value),v = .tuple #[t,.bool ac]/\(λv g=>∃(a:Option Addr) (c:Nat),v = .slice a o.length c/\T1.R g [.slice a o.length c] o/\o.length<=9223372036854775807) t g) (aI (λv L M n q=>by obtain⟨t,e,V⟩:=q;exact⟨t,e,(by obtain⟨a,c,e,r,l⟩:=V;exact⟨a,c,e,T1.mono n r,l⟩)⟩) (aI ?_ ?_)));·intro cl cU;refine Tr.mono (s09 _ p z aA bd _ a1) ?_;rintro _ bn ⟨af,cM,al,rfl,az⟩;have n:=az.sub;have ax:=az.r;obtain⟨rfl,bo⟩:=sL ax;exact aI E6 (aI n ⟨(.slice af o.length al),rfl,⟨af,al,rfl,ax,bo⟩⟩)
  refine Or.inr (eX (λv g=>∃(t:Value),v = .tuple #[t,.bool ac]/\(λv g=>∃(a:Option Addr) (c:Nat),v = .slice a o.length c/\T1.R g [.slice a o.length c] o/\o.length<=9223372036854775807) t g) (aI (λv L M n q=>by obtain⟨t,e,V⟩:=q;exact⟨t,e,(by obtain⟨a,c,e,r,l⟩:=V;exact⟨a,c,e,T1.mono n r,l⟩)⟩) (aI ?_ ?_)));·intro cm cV;rintro _ ⟨_,rfl,⟨ah,an,rfl,bH,bq⟩⟩;exact aI E6 (aI sr ⟨(.slice ah o.length an),rfl,⟨ah,an,rfl,bH,bq⟩⟩)
  refine fS T1 o ?_ ?_;·intro cn cW;rintro _ ⟨_,rfl,⟨aH,aP,rfl,bI,br⟩⟩;exact aI E6 (aI sr ⟨aH,aP,rfl,bI,br⟩)
  refine pm (.val (.bool ac)) ?_ ?_;·intro co cX;rintro _ ⟨_,rfl,⟨bY,b8,rfl,cQ,cI⟩⟩;exact r3
  intro bl f;rintro _ ⟨aJ,aQ,rfl,bJ,cJ⟩;rintro _ _;rintro _ _;refine eX (iV p) (aI ⟨rfl,p03 (f _ _ s) rfl⟩ ?_);refine trM b (w06 _ p z aJ o.length aQ o bJ) ?_;rintro bS b db O ⟨b2,rfl,S⟩;obtain⟨dd,df⟩:=bS;dsimp only at b S;have i:Sub bl O:=S.sub;have bx:=S.r;obtain⟨aB,aC,aG,aO,aD,rfl,rfl,be,bf,bz,cH⟩:=opG bx;try dsimp only at b
  have bQ:=nD (nD (S));refine ifB b (λa6 b=>?_) λa6 b=>?_;·cases b;exact⟨_,_,_,_,_,_,rfl,z,(Z2.mono (Sub.drop d (f.trans i)) G),N,(J3.mono (Sub.drop d (f.trans i)) H),((f.trans i) _ _ s),(Sub.drop d (f.trans i))⟩
  refine w5 12 ?_;refine pm (.val (ptr d 0)) ?_ ?_;·intro cq cY;exact r3
  refine pm (.val (ptr d 1)) ?_ ?_;·intro cr cZ;exact r3
  refine pm (.val (.agg #[iV p,.slice C A.length D])) ?_ ?_;·intro cs ay;exact eX (iV p) (aI (aI rfl (p03 (ay _ _ ((f.trans i) _ _ s)) rfl)) (eX (.slice C A.length D) (aI (aI rfl (p03 (ay _ _ ((f.trans i) _ _ s)) rfl)) r3)))
  obtain⟨aF,a2,b⟩:=B0 b;obtain⟨aN,b3,aW,bA⟩:=Sl.getI (r:=Wp.str.toRp) ((Wp.slice Wp.str).mono (f.trans i) y) a2 oD;obtain⟨rfl,bg⟩:=bA;refine pm (.hel (.slice J P.length K) 1 1 0) ?_ ?_;·intro ct c1;exact aI aN r3
  refine pm (.val (.string aF)) ?_ ?_;·intro cu bP;exact eX _ (aI (T7.up bP aW) r3)
  obtain⟨bU,a3,b⟩:=B0 b;obtain⟨bV,I⟩:=bU;try dsimp only at b
  obtain⟨w,j⟩:=bV;try dsimp only at b
  refine Or.inr (eX (λv g=>∃(u:Value),v = .tuple #[u,.bool I]/\(λv g=>∃(k:Option Addr) (m:Nat),v = .agg #[iV w,.slice k j.length m]/\H0 w/\New Z2 O g [.slice k j.length m] j/\j.length<=9223372036854775807) u g) (aI (λv L M n q=>by obtain⟨u,e,W⟩:=q;exact⟨u,e,(by obtain⟨k,m,e,E,F,f2⟩:=W;exact⟨k,m,e,E,New.mono F n,f2⟩)⟩) (aI ?_ ?_)));·intro cv Z;refine Tr.mono (k0i _ [iV p,.slice C A.length D] (p,A) (u02 z (Z2.mono ((((Hp.dropS h d).trans f).trans i).trans Z) G)) aF bg [iV aB,iV aC,.slice aG aD.length aO] (aB,aC,aD) (D0 be bf (N0.mono Z bz)) _ a3) ?_;rintro _ bn ⟨b4,rfl,ab⟩;have n:=ab.sub;have bB:=ab.r;obtain⟨dj,ag,cN,am,dk,rfl,aX,bh,bG⟩:=s03 bB;cases aX;obtain⟨rfl,bp⟩:=sL bG;exact aI E6 (aI n ⟨(.agg #[iV w,.slice ag j.length am]),rfl,⟨ag,am,rfl,bh,(New.from (nD (ab)) Z),bp⟩⟩)
  refine Or.inr (eX (λv g=>∃(u:Value),v = .tuple #[u,.bool I]/\(λv g=>∃(k:Option Addr) (m:Nat),v = .agg #[iV w,.slice k j.length m]/\H0 w/\New Z2 O g [.slice k j.length m] j/\j.length<=9223372036854775807) u g) (aI (λv L M n q=>by obtain⟨u,e,W⟩:=q;exact⟨u,e,(by obtain⟨k,m,e,E,F,f2⟩:=W;exact⟨k,m,e,E,New.mono F n,f2⟩)⟩) (aI ?_ ?_)));·intro cx c2;rintro _ ⟨_,rfl,⟨ai,ao,rfl,bi,bK,bs⟩⟩;exact aI E6 (aI sr ⟨(.agg #[iV w,.slice ai j.length ao]),rfl,⟨ai,ao,rfl,bi,bK,bs⟩⟩)
  refine Or.inr (eX (λv g=>∃(k:Option Addr) (m:Nat),v = .agg #[iV w,.slice k j.length m]/\H0 w/\New Z2 O g [.slice k j.length m] j/\j.length<=9223372036854775807) (aI (λv L M n q=>by obtain⟨k,m,e,E,F,f2⟩:=q;exact⟨k,m,e,E,New.mono F n,f2⟩) (aI ?_ ?_)));·intro cy c3;rintro _ ⟨_,rfl,⟨aK,aR,rfl,bj,bL,bt⟩⟩;exact aI E6 (aI sr ⟨aK,aR,rfl,bj,bL,bt⟩)
  refine pm (.val (.bool I)) ?_ ?_;·intro cz c4;rintro _ ⟨_,rfl,⟨bZ,ca,rfl,ci,cR,cK⟩⟩;exact r3
  intro bm x;rintro _ ⟨aL,aS,rfl,bk,bM,cL⟩;rintro _ _;rintro _ _;refine ifB b (λba b=>?_) λba b=>?_;·refine eX _ (eX _ (eX _ (aI (aI (((f.trans i).trans x) _ _ s) (aI rfl (aI (show(1:Nat)<5 from oD) (aI rfl trivial)))) ?_)));refine eX _ (eX _ (eX _ (aI (aI (Hp.set_same _ _ _) (aI rfl (aI (show(2:Nat)<5 from oD) (aI rfl trivial)))) ?_)));refine E0q (h':=(bm.set d (.cells #[.bool X,iV w,.slice aL j.length aS,iV Q,.slice T Y.length U] aa (0,0)))) (by first|rfl|exact Hp.set2 _ _) ?_;have aU:=New.dropB bM ((f.trans i) _ _ s);have cb:=New.dropB (New.mono bQ x) (f _ _ s);refine trV b (t09 _ I) λbW b=>?_;obtain⟨cO,aY,b⟩:=B0 b;have cd:bW.size<=9223372036854775807:=F0 aY;cases b;exact⟨_,_,_,_,_,_,rfl,bk,(Z2.mono (Sub.dropSet sr) aU),N,(J3.mono ((Sub.drop d ((f.trans i).trans x)).trans (Sub.dropSet sr)) H),(Hp.set_same _ _ _),((Sub.drop d ((f.trans i).trans x)).trans (Sub.dropSet sr))⟩
  refine trV b (t09 _ I) λbX b=>?_;obtain⟨cP,aZ,b⟩:=B0 b;have ce:bX.size<=9223372036854775807:=F0 aZ;cases b;exact⟨_,_,_,_,_,_,rfl,z,(Z2.mono (Sub.drop d ((f.trans i).trans x)) G),N,(J3.mono (Sub.drop d ((f.trans i).trans x)) H),(((f.trans i).trans x) _ _ s),(Sub.drop d ((f.trans i).trans x))⟩
 refine ld b y λdg b5 bC b=>?_;obtain⟨rfl,cf⟩:=bC;refine ifB b (λbb b=>?_) λbb b=>?_;·cases b
 refine ld b y λdh b6 bD b=>?_;obtain⟨rfl,cg⟩:=bD;obtain⟨di,a4,b⟩:=B0 b;obtain⟨b7,ap,bE⟩:=Sl.getG (r:=Wp.str.toRp) y a4 oD (S0z h);refine aI (λq=>(ap q).1) ?_;obtain⟨rfl,ch⟩:=bE;refine eX _ (aI (λq=>(ap q).2) ?_);refine ifB b (λbc b=>?_) λbc b=>?_;·cases b
 cases b;exact⟨_,_,_,_,_,_,rfl,z,(Z2.mono (Sub.drop d sr) G),N,(J3.mono (Sub.drop d sr) H),s,(Sub.drop d sr)⟩
theorem B0c(h:Hp)(b:Nat)(L:TypeId)(J:Bool)(m:Int)(F:H0 m)(t:Option Addr)(aZ u:Nat)(w:T5)(S:Z2.R (h.drop b) [.slice t aZ u] w)(x:Int)(U:H0 x)(o:Option Addr)(a0 p:Nat)(n:o01)(T:J3.R (h.drop b) [.slice o a0 p] n)(E:h b=some (.cells #[.bool J,.int .i64 m,.slice t aZ u,.int .i64 x,.slice o a0 p] L (0,0)))(I:ByteArray)(bX:I.size<=9223372036854775807)(p2:ByteArray)(bs:p2.size<=9223372036854775807)(Q:ByteArray)(bt:Q.size<=9223372036854775807)(r:ByteArray×Bool×E3×T3)(a:e00 (J,(m,w),x,n) I p2 Q=some r):
  Tr Tryz.prog 70 #[ptr b 0,.string I,.string p2,.string Q] h λv h'=>∃(ap:Option Addr) (aX aA:Nat) (aq:Option Addr) (aY aB:Nat),v = .string r.1/\H0 r.2.2.1.1/\Z2.R (h'.drop b) [.slice ap aX aA] r.2.2.1.2/\H0 r.2.2.2.1/\J3.R (h'.drop b) [.slice aq aY aB] r.2.2.2.2/\h' b=some (.cells #[.bool r.2.1,.int .i64 r.2.2.1.1,.slice ap aX aA,.int .i64 r.2.2.2.1,.slice aq aY aB] L (0,0))/\Sub (h.drop b) (h'.drop b):=by
 obtain⟨rfl,cb⟩:=Sl.len S
 obtain⟨rfl,cc⟩:=Sl.len T
 unfold e00 at a
 dsimp only at a
 refine j5 (args:=[ptr b 0,.string I,.string p2,.string Q]) (fn:=Tryz.f70) rfl ?_
 refine eX (.int .i64 m) (aI ⟨rfl,p03 E rfl⟩ ?_)
 refine trM a (s09 _ m F p2 bs) ?_
 rintro bL a cC aV ⟨a5,cp,bb,rfl,V⟩
 obtain⟨a3,cH⟩:=bL
 dsimp only at a V
 have f:Sub h aV:=V.sub
 have bD:=V.r
 obtain⟨rfl,ch⟩:=Sl.len bD
 refine eX (.int .i64 m) (aI ⟨rfl,p03 (f _ _ E) rfl⟩ ?_)
 refine trM a (S06 _ m F Q bt) ?_
 rintro bQ a cD aW ⟨a6,cq,bc,rfl,W⟩
 obtain⟨a4,cI⟩:=bQ
 dsimp only at a W
 have g:Sub aV aW:=W.sub
 have bG:=W.r
 obtain⟨rfl,ci⟩:=Sl.len bG
 refine ifB a (λbr a=>?_) λbr a=>?_
 ·obtain rfl:=oJ a
  exact⟨t,w.length,u,o,n.length,p,rfl,F,(Z2.mono (Sub.drop b (f.trans g)) S),U,(J3.mono (Sub.drop b (f.trans g)) T),((f.trans g) _ _ E),(Sub.drop b (f.trans g))⟩
 ·obtain⟨ao,bm,a⟩:=B0 a
  refine eX { vars:=[13,14],boxes:=[],owns:=[],fuel:=true } (eX (λvs os h'=>∃ H A,vs.tail = [.int .i64 H,.int .i64 A]/\os = []/\Sub aW h'/\H0 H/\H0 A/\I2 I (E1 vs) H A=some ao) (eX (λ_ _=>0) (aI (eX P0 ⟨0,1,rfl,rfl,(Sub.refl _),(by decide),(by decide),bm⟩) ?_)))
  rintro _ _ P b1 ⟨H,A,⟨⟩,⟨⟩,j,aO,aN,c⟩
  replace c:I2 I P H A=some ao:=c
  obtain _|P:=P
  ·cases c
  rw[I2.eq_2]at c
  refine ifB c (λbn c=>?_) λbn c=>?_
  ·refine trV c (Q06 _ A aN) λbM c=>?_
   obtain⟨cs,bi,c⟩:=B0 c
   have bY:bM.size<=9223372036854775807:=F0 bi
   refine ifB c (λbo c=>?_) λbo c=>?_
   ·exact P1 P ⟨A,(IntKind.i64.wrap (A+1)),rfl,rfl,j,aN,(M0 _),c⟩
   ·exact P1 P ⟨H,(IntKind.i64.wrap (A+1)),rfl,rfl,j,aO,(M0 _),c⟩
  ·obtain rfl:=oJ c
   try dsimp only[S0,U0]at a
   refine eX (.int .i64 m) (aI ⟨rfl,p03 (((f.trans g).trans j) _ _ E) rfl⟩ ?_)
   have be:=New.dropB (New.mono V (g.trans j)) E
   have bf:=New.dropB (New.mono W j) (f _ _ E)
   obtain⟨bN,bk,a⟩:=B0 a
   refine Tr.besideD (((f.trans g).trans j) _ _ E) (p0h _ H aO m F a5 a3.length bb a3 be a6 a4.length bc a4 bf _  bk) ?_
   rintro cA ah ⟨bU,rfl,a1,z⟩ d
   obtain⟨cE,cG⟩:=bN
   dsimp only at a a1
   obtain⟨X,Y,ar,cl,aC,Z,au,cm,aD,aa,av,cn,aF,ab,ac,ad,aw,co,aG,ae,af,rfl,rfl,aP,aQ,ai,aj,ak,aR,aS,al,aU⟩:=p01 a1
   obtain⟨rfl,cd⟩:=Sl.len ai
   obtain⟨rfl,ce⟩:=Sl.len aj
   obtain⟨rfl,cf⟩:=Sl.len ak
   obtain⟨rfl,cg⟩:=Sl.len al
   try dsimp only at a
   refine ifB a (λbp a=>?_) λbp a=>?_
   ·obtain rfl:=oJ a
    exact⟨t,w.length,u,o,n.length,p,rfl,F,(Z2.mono (((Sub.drop b ((f.trans g).trans j)).trans z).trans (Sub.setD d (Sub.refl _))) S),U,(J3.mono (((Sub.drop b ((f.trans g).trans j)).trans z).trans (Sub.setD d (Sub.refl _))) T),(Hp.set_same _ _ _),(((Sub.drop b ((f.trans g).trans j)).trans z).trans (Sub.setD d (Sub.refl _)))⟩
   ·refine Or.inr (Or.inr (Or.inr (Or.inr (eX 10 (aI (aI (by kernel_rfl) (by kernel_rfl)) ?_)))))
    refine Or.inl (eX (.val (ptr b 0)) (aI ?_ ?_))
    ·intro b2 cv
     exact aI rfl (aI rfl rfl)
    refine Or.inl (eX (.val (ptr b 3)) (aI ?_ ?_))
    ·intro b3 cw
     exact aI rfl (aI rfl rfl)
    refine Or.inl (eX (.val (.agg #[.int .i64 x,.slice o n.length p])) (aI ?_ ?_))
    ·intro b4 a2
     exact eX (.int .i64 x) (aI (aI rfl (p03 (a2 _ _ (Hp.set_same _ _ _)) rfl)) (eX (.slice o n.length p) (aI (aI rfl (p03 (a2 _ _ (Hp.set_same _ _ _)) rfl)) (aI rfl (aI rfl rfl)))))
    obtain⟨bO,bl,a⟩:=B0 a
    obtain⟨bP,an⟩:=bO
    try dsimp only at a
    obtain⟨D,i⟩:=bP
    try dsimp only at a
    refine Or.inr (eX (λv y=>∃(C:Value),v = .tuple #[C,.bool an]/\(λv y=>∃(k:Option Addr) (l:Nat),v = .agg #[.int .i64 D,.slice k i.length l]/\H0 D/\New J3 (ah.set b (.cells #[.bool J,.int .i64 m,.slice t w.length u,.int .i64 x,.slice o n.length p] L (0,0))) y [.slice k i.length l] i/\i.length<=9223372036854775807) C y) (aI (λv aL aM G q=>by obtain⟨C,e,ag⟩:=q;exact⟨C,e,(by obtain⟨k,l,e,M,N,f2⟩:=ag;exact⟨k,l,e,M,New.mono N G,f2⟩)⟩) (aI ?_ ?_)))
    ·intro b5 K
     refine Tr.mono (r0i _ [.int .i64 x,.slice o n.length p] (x,n) (a04 U (J3.mono ((((Sub.drop b ((f.trans g).trans j)).trans z).trans (Sub.set d)).trans K) T)) [.int .i64 X,.int .i64 Y,.slice ar Z.length aC,.slice au aa.length aD,.slice av ab.length aF,.int .i64 ac,.int .i64 ad,.slice aw ae.length aG,.int .i64 af] (X,Y,Z,aa,ab,(ac,ad,ae),af) (W7 aP aQ (T1.mono ((Sub.set d).trans K) ai) (J0.mono ((Sub.set d).trans K) aj) (J0.mono ((Sub.set d).trans K) ak) aR aS (N0.mono ((Sub.set d).trans K) al) aU) _ bl) ?_
     rintro _ ca ⟨bV,rfl,am⟩
     have G:=am.sub
     have bE:=am.r
     obtain⟨cJ,ax,cr,aH,cK,rfl,bh,bu,bH⟩:=x03 bE
     cases bh
     obtain⟨rfl,bA⟩:=Sl.len bH
     exact aI E6 (aI G ⟨(.agg #[.int .i64 D,.slice ax i.length aH]),rfl,⟨ax,aH,rfl,bu,(New.from (New.sndI (am)) K),bA⟩⟩)
    refine Or.inr (eX (λv y=>∃(C:Value),v = .tuple #[C,.bool an]/\(λv y=>∃(k:Option Addr) (l:Nat),v = .agg #[.int .i64 D,.slice k i.length l]/\H0 D/\New J3 (ah.set b (.cells #[.bool J,.int .i64 m,.slice t w.length u,.int .i64 x,.slice o n.length p] L (0,0))) y [.slice k i.length l] i/\i.length<=9223372036854775807) C y) (aI (λv aL aM G q=>by obtain⟨C,e,ag⟩:=q;exact⟨C,e,(by obtain⟨k,l,e,M,N,f2⟩:=ag;exact⟨k,l,e,M,New.mono N G,f2⟩)⟩) (aI ?_ ?_)))
    ·intro b6 cx
     rintro _ ⟨_,rfl,⟨ay,aJ,rfl,bv,bI,bB⟩⟩
     exact aI E6 (aI (Sub.refl _) ⟨(.agg #[.int .i64 D,.slice ay i.length aJ]),rfl,⟨ay,aJ,rfl,bv,bI,bB⟩⟩)
    refine Or.inr (eX (λv y=>∃(k:Option Addr) (l:Nat),v = .agg #[.int .i64 D,.slice k i.length l]/\H0 D/\New J3 (ah.set b (.cells #[.bool J,.int .i64 m,.slice t w.length u,.int .i64 x,.slice o n.length p] L (0,0))) y [.slice k i.length l] i/\i.length<=9223372036854775807) (aI (λv aL aM G q=>by obtain⟨k,l,e,M,N,f2⟩:=q;exact⟨k,l,e,M,New.mono N G,f2⟩) (aI ?_ ?_)))
    ·intro b7 cy
     rintro _ ⟨_,rfl,⟨ba,bd,rfl,bx,bJ,bC⟩⟩
     exact aI E6 (aI (Sub.refl _) ⟨ba,bd,rfl,bx,bJ,bC⟩)
    refine Or.inl (eX (.val (.bool an)) (aI ?_ ?_))
    ·intro b8 cz
     rintro _ ⟨_,rfl,⟨bS,bW,rfl,b0,cu,cj⟩⟩
     exact aI rfl (aI rfl rfl)
    intro O s
    rintro _ ⟨az,aK,rfl,bz,bK,ck⟩
    rintro _ _
    rintro _ _
    refine ifB a (λbq a=>?_) λbq a=>?_
    ·obtain rfl:=oJ a
     exact⟨t,w.length,u,o,n.length,p,rfl,F,(Z2.mono (((Sub.drop b ((f.trans g).trans j)).trans z).trans (Sub.setD d s)) S),U,(J3.mono (((Sub.drop b ((f.trans g).trans j)).trans z).trans (Sub.setD d s)) T),(s _ _ (Hp.set_same _ _ _)),(((Sub.drop b ((f.trans g).trans j)).trans z).trans (Sub.setD d s))⟩
    ·refine eX _ (eX _ (eX _ (aI (aI (s _ _ (Hp.set_same _ _ _)) (aI rfl (aI (show(3:Nat)<5 from by decide) (aI rfl trivial)))) ?_)))
     refine eX _ (eX _ (eX _ (aI (aI (Hp.set_same _ _ _) (aI rfl (aI (show(4:Nat)<5 from by decide) (aI rfl trivial)))) ?_)))
     refine E0q (h':=(O.set b (.cells #[.bool J,.int .i64 m,.slice t w.length u,.int .i64 D,.slice az i.length aK] L (0,0)))) (by first|rfl|exact Hp.set2 _ _) ?_
     have bg:=New.dropB bK (Hp.set_same _ _ _)
     refine trV a (B0e _ [.int .i64 X,.int .i64 Y,.slice ar Z.length aC,.slice au aa.length aD,.slice av ab.length aF,.int .i64 ac,.int .i64 ad,.slice aw ae.length aG,.int .i64 af] (X,Y,Z,aa,ab,(ac,ad,ae),af) (W7 aP aQ (T1.mono ((Sub.setD d s).trans (Hp.setS O b _)) ai) (J0.mono ((Sub.setD d s).trans (Hp.setS O b _)) aj) (J0.mono ((Sub.setD d s).trans (Hp.setS O b _)) ak) aR aS (N0.mono ((Sub.setD d s).trans (Hp.setS O b _)) al) aU)) λbR a=>?_
     obtain⟨ct,bj,a⟩:=B0 a
     have bZ:bR.size<=9223372036854775807:=F0 bj
     obtain rfl:=oJ a
     exact⟨t,w.length,u,az,i.length,aK,rfl,F,(Z2.mono ((((Sub.drop b ((f.trans g).trans j)).trans z).trans (Sub.setD d s)).trans (Sub.dropSet (Sub.refl _))) S),bz,(J3.mono (Sub.dropSet (Sub.refl _)) bg),(Hp.set_same _ _ _),((((Sub.drop b ((f.trans g).trans j)).trans z).trans (Sub.setD d s)).trans (Sub.dropSet (Sub.refl _)))⟩
def k0b(h:Hp)(d:Nat)(F:TypeId)(Q:Bool)(k:Int)(j:H0 k)(D:Option Addr)(aX E:Nat)(u:T5)(m:Z2.R (h.drop d) [.slice D aX E] u)(w:Int)(t:H0 w)(p:Option Addr)(aY s:Nat)(g:o01)(n:J3.R (h.drop d) [.slice p aY s] g)(f:h d=some (.cells #[.bool Q,iV k,.slice D aX E,iV w,.slice p aY s] F (0,0)))(G:Option Addr)(aW H:Nat)(I:(List BA))(z:(Wp.slice Wp.str).R h [.slice G aW H] I)(r:BA×Bool×E3×T3)(b:Y1 (Q,(k,u),w,g) I=some r): Tr Tryz.prog 34 #[ptr d 0,.slice G aW H] h λv h'=>∃(av:Option Addr) (aU aB:Nat) (aw:Option Addr) (aV aC:Nat),v = .string r.1/\H0 r.2.2.1.1/\Z2.R (h'.drop d) [.slice av aU aB] r.2.2.1.2/\H0 r.2.2.2.1/\J3.R (h'.drop d) [.slice aw aV aC] r.2.2.2.2/\h' d=some (.cells #[.bool r.2.1,iV r.2.2.1.1,.slice av aU aB,iV r.2.2.2.1,.slice aw aV aC] F (0,0))/\Sub (h.drop d) (h'.drop d):=by
 obtain⟨rfl,fZ⟩:=sL m;obtain⟨rfl,c0⟩:=sL n;obtain⟨rfl,fY⟩:=sL z;unfold Y1 at b;dsimp only at b;refine wk Tryz.f34 ?_;refine ld b z λg5 ez db b=>?_;obtain⟨rfl,eU⟩:=db;refine ifB b (λcj b=>?_) λcj b=>?_
 ·refine ld b z λek eJ dq b=>?_;obtain⟨rfl,cL⟩:=dq;obtain⟨el,b4,b⟩:=B0 b;obtain⟨ao,ho⟩:=el;try dsimp only at b
  refine Tr.val (t0i _ ek cL _  b4) ?_;obtain⟨gt,bR,b⟩:=B0 b;have aR:H0 ao:=F0 bR;refine trM b (j0g _ ao aR) ?_;rintro eo b g4 aa ⟨eM,rfl,ad⟩;obtain⟨hp,a5⟩:=eo;dsimp only at b ad;have S:Sub h aa:=ad.sub;have du:=ad.r;obtain⟨aq,ae,gj,af,ar,rfl,rfl,cN,dv⟩:=s03 du;obtain⟨rfl,f7⟩:=sL dv;try dsimp only at b
  have dU:=nD (ad);refine ifB b (λca b=>?_) λca b=>?_
  ·refine eX _ (eX _ (eX _ (aI (aI (S _ _ f) (aI rfl (aI (show(0:Nat)<5 from oD) (aI rfl trivial)))) ?_)));refine E0q (h':=(aa.set d (.cells #[.bool true,iV k,.slice D u.length E,iV w,.slice p g.length s] F (0,0)))) (by first|rfl|exact Hp.set2 _ _) ?_;have bu:=New.dropB dU f;refine eX _ (eX _ (eX _ (aI (aI (Hp.set_same _ _ _) (aI rfl (aI (show(1:Nat)<5 from oD) (aI rfl trivial)))) ?_)));refine eX _ (eX _ (eX _ (aI (aI (Hp.set_same _ _ _) (aI rfl (aI (show(2:Nat)<5 from oD) (aI rfl trivial)))) ?_)));refine E0q (h':=((aa.set d (.cells #[.bool true,iV k,.slice D u.length E,iV w,.slice p g.length s] F (0,0))).set d (.cells #[.bool true,iV aq,.slice ae ar.length af,iV w,.slice p g.length s] F (0,0)))) (by first|rfl|exact Hp.set2 _ _) ?_;refine trM b (G0e _ ao aR) ?_;rintro d1 b g2 aS ⟨eE,rfl,ac⟩;obtain⟨ha,hb⟩:=d1;dsimp only at b ac;have am:Sub ((aa.set d (.cells #[.bool true,iV k,.slice D u.length E,iV w,.slice p g.length s] F (0,0))).set d (.cells #[.bool true,iV aq,.slice ae ar.length af,iV w,.slice p g.length s] F (0,0))) aS:=ac.sub;have dh:=ac.r;obtain⟨d3,ba,gd,bo,d4,rfl,rfl,cG,di⟩:=x03 dh;obtain⟨rfl,f0⟩:=sL di;try dsimp only at b
   have dS:=nD (ac);refine eX _ (eX _ (eX _ (aI (aI (am _ _ (Hp.set_same _ _ _)) (aI rfl (aI (show(3:Nat)<5 from oD) (aI rfl trivial)))) ?_)));refine eX _ (eX _ (eX _ (aI (aI (Hp.set_same _ _ _) (aI rfl (aI (show(4:Nat)<5 from oD) (aI rfl trivial)))) ?_)));refine E0q (h':=(aS.set d (.cells #[.bool true,iV aq,.slice ae ar.length af,iV d3,.slice ba d4.length bo] F (0,0)))) (by first|rfl|exact Hp.set2 _ _) ?_;have bv:=New.dropB dS (Hp.set_same _ _ _);refine trV b (t09 _ a5) λef b=>?_;obtain⟨gq,bO,b⟩:=B0 b;have eY:ef.size<=9223372036854775807:=F0 bO;cases b;exact⟨_,_,_,_,_,_,rfl,cN,(Z2.mono (((Sub.dropSet sr).trans (Sub.dropSet am)).trans (Sub.dropSet sr)) bu),cG,(J3.mono (Sub.dropSet sr) bv),(Hp.set_same _ _ _),((((Sub.drop d S).trans (Sub.dropSet sr)).trans (Sub.dropSet am)).trans (Sub.dropSet sr))⟩
  refine trV b (t09 _ a5) λeh b=>?_;obtain⟨gr,bP,b⟩:=B0 b;have e0:eh.size<=9223372036854775807:=F0 bP;cases b;exact⟨_,_,_,_,_,_,rfl,j,(Z2.mono (Sub.drop d S) m),t,(J3.mono (Sub.drop d S) n),(S _ _ f),(Sub.drop d S)⟩
 refine ld b z λhh eH dm b=>?_;obtain⟨rfl,e1⟩:=dm;refine ifB b (λck b=>?_) λck b=>?_;·cases b
 refine eX (.bool Q) (aI ⟨rfl,p03 f rfl⟩ ?_);refine ifB b (λcl b=>?_) λcl b=>?_;·cases b;exact⟨_,_,_,_,_,_,rfl,j,(Z2.mono (Sub.drop d sr) m),t,(J3.mono (Sub.drop d sr) n),f,(Sub.drop d sr)⟩
 refine ld b z λhi eI dn b=>?_;obtain⟨rfl,e2⟩:=dn;refine ifB b (λaL b=>?_) λaL b=>?_
 ·refine aI (λ_=>?_) (λcm=>absurd (aL.symm.trans cm) oD);obtain⟨ei,b3,b⟩:=B0 b;obtain⟨ej,hj,⟨hk,hl⟩,hm,hn⟩:=ei;try dsimp only at b
  refine Tr.mono (j0b _ d F Q k j D u.length E u (Z2.mono (Sub.drop d sr) m) w t p g.length s g (J3.mono (Sub.drop d sr) n) f _ _ _ _ z _ b3) ?_;rintro _ fx ⟨et,gg,eQ,eu,gh,eR,rfl,aP,ak,aQ,al,aK,dR⟩;try dsimp only at aP ak aQ al aK
  obtain⟨rfl,f5⟩:=sL ak;obtain⟨rfl,f6⟩:=sL al;obtain⟨gs,bQ,b⟩:=B0 b;have e3:ej.size<=9223372036854775807:=F0 bQ;cases b;exact⟨_,_,_,_,_,_,rfl,aP,(Z2.mono (Sub.drop d sr) ak),aQ,(J3.mono (Sub.drop d sr) al),aK,(((Sub.drop d sr).trans dR).trans (Sub.drop d sr))⟩
 refine ifB b (λcn b=>?_) λcn b=>?_;·cases b
 refine ifB b (λco b=>?_) λco b=>?_;·cases b
 refine ifB b (λcp b=>?_) λcp b=>?_;·cases b
 refine ifB b (λcq b=>?_) λcq b=>?_;·cases b
 refine ifB b (λcr b=>?_) λcr b=>?_;·cases b
 refine ifB b (λcs b=>?_) λcs b=>?_;·cases b
 refine ifB b (λct b=>?_) λct b=>?_;·cases b
 refine ifB b (λcu b=>?_) λcu b=>?_;·cases b
 refine ifB b (λcv b=>?_) λcv b=>?_
 ·refine ifB b (λcw b=>?_) λcw b=>?_
  ·refine w5 12 ?_;refine pm (.val (ptr d 0)) ?_ ?_;·intro fy gN;exact r3
   refine pm (.val (ptr d 1)) ?_ ?_;·intro fz gO;exact r3
   refine pm (.val (.agg #[iV k,.slice D u.length E])) ?_ ?_;·intro fB a1;exact eX (iV k) (aI (aI rfl (p03 (a1 _ _ f) rfl)) (eX (.slice D u.length E) (aI (aI rfl (p03 (a1 _ _ f) rfl)) r3)))
   obtain⟨a4,b5,b⟩:=B0 b;obtain⟨bm,eK,bE,ds⟩:=Sl.getI (r:=Wp.str.toRp) z b5 oD;obtain⟨rfl,cM⟩:=ds;refine pm (.hel (.slice G I.length H) 1 1 0) ?_ ?_;·intro fC gP;exact aI bm r3
   refine pm (.val (.string a4)) ?_ ?_;·intro fD dN;exact eX _ (aI (T7.up dN bE) r3)
   obtain⟨em,b6,b⟩:=B0 b;obtain⟨en,ap⟩:=em;try dsimp only at b
   obtain⟨K,L,o⟩:=en;try dsimp only at b
   refine Or.inr (eX (λv i=>∃(N:Value),v = .tuple #[N,.bool ap]/\(λv i=>∃(x:Option Addr) (y:Nat),v = .agg #[iV K,iV L,.slice x o.length y]/\H0 K/\H0 L/\New N0 h i [.slice x o.length y] o/\o.length<=9223372036854775807) N i) (aI (λv Y Z A q=>by obtain⟨N,e,ag⟩:=q;exact⟨N,e,(by obtain⟨x,y,e,U,V,f2,f3⟩:=ag;exact⟨x,y,e,U,V,New.mono f2 A,f3⟩)⟩) (aI ?_ ?_)));·intro fE a2;refine Tr.mono (D09 _ [iV k,.slice D u.length E] (k,u) (u02 j (Z2.mono ((Hp.dropS h d).trans a2) m)) a4 cM _ b6) ?_;rintro _ cZ ⟨eL,rfl,an⟩;have A:=an.sub;have dt:=an.r;obtain⟨hq,hr,ay,aF,hs,rfl,bH,cP,cQ,gv,c2⟩:=opG dt;cases bH;exact aI E6 (aI A ⟨(.agg #[iV K,iV L,.slice ay o.length aF]),rfl,⟨ay,aF,rfl,cP,cQ,(New.from (nD (nD (an))) a2),c2⟩⟩)
   refine Or.inr (eX (λv i=>∃(N:Value),v = .tuple #[N,.bool ap]/\(λv i=>∃(x:Option Addr) (y:Nat),v = .agg #[iV K,iV L,.slice x o.length y]/\H0 K/\H0 L/\New N0 h i [.slice x o.length y] o/\o.length<=9223372036854775807) N i) (aI (λv Y Z A q=>by obtain⟨N,e,ag⟩:=q;exact⟨N,e,(by obtain⟨x,y,e,U,V,f2,f3⟩:=ag;exact⟨x,y,e,U,V,New.mono f2 A,f3⟩)⟩) (aI ?_ ?_)));·intro fF gQ;rintro _ ⟨_,rfl,⟨az,aG,rfl,cR,cS,dy,c3⟩⟩;exact aI E6 (aI sr ⟨(.agg #[iV K,iV L,.slice az o.length aG]),rfl,⟨az,aG,rfl,cR,cS,dy,c3⟩⟩)
   refine Or.inr (eX (λv i=>∃(x:Option Addr) (y:Nat),v = .agg #[iV K,iV L,.slice x o.length y]/\H0 K/\H0 L/\New N0 h i [.slice x o.length y] o/\o.length<=9223372036854775807) (aI (λv Y Z A q=>by obtain⟨x,y,e,U,V,f2,f3⟩:=q;exact⟨x,y,e,U,V,New.mono f2 A,f3⟩) (aI ?_ ?_)));·intro fG gR;rintro _ ⟨_,rfl,⟨bc,bq,rfl,cU,cV,dz,c4⟩⟩;exact aI E6 (aI sr ⟨bc,bq,rfl,cU,cV,dz,c4⟩)
   refine pm (.val (.bool ap)) ?_ ?_;·intro fH gS;rintro _ ⟨_,rfl,⟨ew,eS,rfl,e5,e6,gw,f9⟩⟩;exact r3
   intro fJ J;rintro _ ⟨bd,br,rfl,cW,cX,dA,ga⟩;rintro _ _;rintro _ _;refine w5 12 ?_;refine pm (.val (ptr d 0)) ?_ ?_;·intro fK gT;exact r3
   refine pm (.val (ptr d 1)) ?_ ?_;·intro fM gU;exact r3
   refine pm (.val (ptr d 1)) ?_ ?_;·intro fN gV;exact r3
   refine pm (.val (iV k)) ?_ ?_;·intro fO dO;exact eX (iV k) (aI (aI rfl (p03 (dO _ _ (J _ _ f)) rfl)) r3)
   obtain⟨a6,b7,b⟩:=B0 b;obtain⟨bn,eN,bG,dw⟩:=Sl.getI (r:=Wp.str.toRp) ((Wp.slice Wp.str).mono J z) b7 oD;obtain⟨rfl,cO⟩:=dw;refine pm (.hel (.slice G I.length H) 2 1 0) ?_ ?_;·intro fP gW;exact aI bn r3
   refine pm (.val (.string a6)) ?_ ?_;·intro fQ dP;exact eX _ (aI (T7.up dP bG) r3)
   obtain⟨ep,b8,b⟩:=B0 b;obtain⟨C,au⟩:=ep;try dsimp only at b
   refine Or.inr (eX (λv i=>∃(O:Value),v = .tuple #[O,.bool au]/\(λv i=>∃(a:Option Addr) (c:Nat),v = .slice a C.length c/\J0.R i [.slice a C.length c] C/\C.length<=9223372036854775807) O i) (aI (λv Y Z A q=>by obtain⟨O,e,ah⟩:=q;exact⟨O,e,(by obtain⟨a,c,e,r,l⟩:=ah;exact⟨a,c,e,J0.mono A r,l⟩)⟩) (aI ?_ ?_)));·intro fR gX;refine Tr.mono (S06 _ k j a6 cO _ b8) ?_;rintro _ cZ ⟨ax,gk,aD,rfl,a3⟩;have A:=a3.sub;have aZ:=a3.r;obtain⟨rfl,c1⟩:=sL aZ;exact aI E6 (aI A ⟨(.slice ax C.length aD),rfl,⟨ax,aD,rfl,aZ,c1⟩⟩)
   refine Or.inr (eX (λv i=>∃(O:Value),v = .tuple #[O,.bool au]/\(λv i=>∃(a:Option Addr) (c:Nat),v = .slice a C.length c/\J0.R i [.slice a C.length c] C/\C.length<=9223372036854775807) O i) (aI (λv Y Z A q=>by obtain⟨O,e,ah⟩:=q;exact⟨O,e,(by obtain⟨a,c,e,r,l⟩:=ah;exact⟨a,c,e,J0.mono A r,l⟩)⟩) (aI ?_ ?_)));·intro fU gY;rintro _ ⟨_,rfl,⟨aA,aH,rfl,dB,c5⟩⟩;exact aI E6 (aI sr ⟨(.slice aA C.length aH),rfl,⟨aA,aH,rfl,dB,c5⟩⟩)
   refine fS J0 C ?_ ?_;·intro fV gZ;rintro _ ⟨_,rfl,⟨be,bs,rfl,dC,c6⟩⟩;exact aI E6 (aI sr ⟨be,bs,rfl,dC,c6⟩)
   refine pm (.val (.bool au)) ?_ ?_;·intro fW g0;rintro _ ⟨_,rfl,⟨ey,eT,rfl,gx,gb⟩⟩;exact r3
   intro fX M;rintro _ ⟨bf,bt,rfl,dD,gc⟩;rintro _ _;rintro _ _;refine ifB b (λcx b=>?_) λcx b=>?_;·refine trV b (g0g _ [iV K,iV L,.slice bd o.length br] (K,L,o) (D0 cW cX (N0.mono M dA.r)) bf C.length bt C dD) λeq b=>?_;obtain⟨gu,bS,b⟩:=B0 b;have e4:eq.size<=9223372036854775807:=F0 bS;cases b;exact⟨_,_,_,_,_,_,rfl,j,(Z2.mono (Sub.drop d (J.trans M)) m),t,(J3.mono (Sub.drop d (J.trans M)) n),((J.trans M) _ _ f),(Sub.drop d (J.trans M))⟩
   cases b;exact⟨_,_,_,_,_,_,rfl,j,(Z2.mono (Sub.drop d (J.trans M)) m),t,(J3.mono (Sub.drop d (J.trans M)) n),((J.trans M) _ _ f),(Sub.drop d (J.trans M))⟩
  cases b;exact⟨_,_,_,_,_,_,rfl,j,(Z2.mono (Sub.drop d sr) m),t,(J3.mono (Sub.drop d sr) n),f,(Sub.drop d sr)⟩
 refine ifB b (λaM b=>?_) λaM b=>?_
 ·refine aI (λ_=>?_) (λcy=>absurd (aM.symm.trans cy) oD);refine ifB b (λcz b=>?_) λcz b=>?_
  ·refine w5 10 ?_;obtain⟨dV,bU,b⟩:=B0 b;obtain⟨bg,eA,bx,dc⟩:=Sl.getI (r:=Wp.str.toRp) z bU oD;obtain⟨rfl,cA⟩:=dc;refine pm (.hel (.slice G I.length H) 0 1 0) ?_ ?_;·intro e7 gy;exact aI bg r3
   refine pm (.val (.string dV)) ?_ ?_;·intro e8 dG;exact eX _ (aI (T7.up dG bx) r3)
   obtain⟨dW,bV,b⟩:=B0 b;obtain⟨bh,eB,bz,dd⟩:=Sl.getI (r:=Wp.str.toRp) z bV oD;obtain⟨rfl,cC⟩:=dd;refine pm (.hel (.slice G I.length H) 1 1 0) ?_ ?_;·intro e9 gz;exact aI bh r3
   refine pm (.val (.string dW)) ?_ ?_;·intro fa dH;exact eX _ (aI (T7.up dH bz) r3)
   obtain⟨dX,bW,b⟩:=B0 b;obtain⟨bi,eC,bA,df⟩:=Sl.getI (r:=Wp.str.toRp) z bW oD;obtain⟨rfl,cD⟩:=df;refine pm (.hel (.slice G I.length H) 2 1 0) ?_ ?_;·intro fb gA;exact aI bi r3
   refine pm (.val (.string dX)) ?_ ?_;·intro fc dI;exact eX _ (aI (T7.up dI bA) r3)
   intro fd P;refine trV b (u0d _ d F Q k j D u.length E u (Z2.mono ((Hp.dropS h d).trans P) m) w t p g.length s g (J3.mono ((Hp.dropS h d).trans P) n) (P _ _ f) _ cA _ cC _ cD) λdY b=>?_;obtain⟨gl,bJ,b⟩:=B0 b;have eV:dY.size<=9223372036854775807:=F0 bJ;cases b;exact⟨_,_,_,_,_,_,rfl,j,(Z2.mono (Sub.drop d P) m),t,(J3.mono (Sub.drop d P) n),(P _ _ f),(Sub.drop d P)⟩
  cases b;exact⟨_,_,_,_,_,_,rfl,j,(Z2.mono (Sub.drop d sr) m),t,(J3.mono (Sub.drop d sr) n),f,(Sub.drop d sr)⟩
 refine ifB b (λcb b=>?_) λcb b=>?_;·cases b
 refine ifB b (λcc b=>?_) λcc b=>?_;·cases b
 refine ifB b (λcd b=>?_) λcd b=>?_;·cases b
 refine ifB b (λce b=>?_) λce b=>?_;·cases b
 refine ifB b (λcf b=>?_) λcf b=>?_
 ·refine ifB b (λcg b=>?_) λcg b=>?_
  ·refine w5 10 ?_;obtain⟨d2,bX,b⟩:=B0 b;obtain⟨bj,eD,bB,dg⟩:=Sl.getI (r:=Wp.str.toRp) z bX oD;obtain⟨rfl,cE⟩:=dg;refine pm (.hel (.slice G I.length H) 1 1 0) ?_ ?_;·intro fe gB;exact aI bj r3
   refine pm (.val (.string d2)) ?_ ?_;·intro ff dJ;exact eX _ (aI (T7.up dJ bB) r3)
   obtain⟨ea,bY,b⟩:=B0 b;obtain⟨bk,eF,bC,dj⟩:=Sl.getI (r:=Wp.str.toRp) z bY oD;obtain⟨rfl,cH⟩:=dj;refine pm (.hel (.slice G I.length H) 2 1 0) ?_ ?_;·intro fg gC;exact aI bk r3
   refine pm (.val (.string ea)) ?_ ?_;·intro fh dK;exact eX _ (aI (T7.up dK bC) r3)
   obtain⟨eb,bZ,b⟩:=B0 b;obtain⟨bl,eG,bD,dk⟩:=Sl.getI (r:=Wp.str.toRp) z bZ oD;obtain⟨rfl,cI⟩:=dk;refine pm (.hel (.slice G I.length H) 3 1 0) ?_ ?_;·intro fi gD;exact aI bl r3
   refine pm (.val (.string eb)) ?_ ?_;·intro fj dL;exact eX _ (aI (T7.up dL bD) r3)
   intro fk ab;obtain⟨ec,b0,b⟩:=B0 b;obtain⟨ed,hc,⟨hd,he⟩,hf,hg⟩:=ec;try dsimp only at b
   refine Tr.mono (B0c _ d F Q k j D u.length E u (Z2.mono (Sub.drop d ab) m) w t p g.length s g (J3.mono (Sub.drop d ab) n) (ab _ _ f) _ cE _ cH _ cI _ b0) ?_;rintro _ fl ⟨er,ge,eO,es,gf,eP,rfl,aN,ai,aO,aj,aJ,dQ⟩;try dsimp only at aN ai aO aj aJ
   obtain⟨rfl,f1⟩:=sL ai;obtain⟨rfl,f4⟩:=sL aj;obtain⟨gm,bK,b⟩:=B0 b;have eW:ed.size<=9223372036854775807:=F0 bK;cases b;exact⟨_,_,_,_,_,_,rfl,aN,(Z2.mono (Sub.drop d sr) ai),aO,(J3.mono (Sub.drop d sr) aj),aJ,(((Sub.drop d ab).trans dQ).trans (Sub.drop d sr))⟩
  cases b;exact⟨_,_,_,_,_,_,rfl,j,(Z2.mono (Sub.drop d sr) m),t,(J3.mono (Sub.drop d sr) n),f,(Sub.drop d sr)⟩
 refine ifB b (λch b=>?_) λch b=>?_
 ·refine ifB b (λci b=>?_) λci b=>?_
  ·refine w5 11 ?_;refine pm (.val (ptr d 0)) ?_ ?_;·intro fm gE;exact r3
   refine pm (.val (ptr d 3)) ?_ ?_;·intro fn gF;exact r3
   refine pm (.val (ptr d 4)) ?_ ?_;·intro fo gH;exact r3
   refine pm (.val (.slice p g.length s)) ?_ ?_;·intro fp dM;exact eX (.slice p g.length s) (aI (aI rfl (p03 (dM _ _ f) rfl)) r3)
   refine pm (.val (iV ((g.length:Nat):Int))) ?_ ?_;·intro fq gJ;exact r3
   obtain⟨T,b1,b⟩:=B0 b;obtain⟨gn,bL,b⟩:=B0 b;have cJ:T.size<=9223372036854775807:=F0 bL;refine pm (.val (.string T)) ?_ ?_;·intro fs gK;exact Tr.val (i4 _ ((g.length:Nat):Int) (L0l c0) _ b1) r3
   refine pm (.val (ptr d 0)) ?_ ?_;·intro ft gL;exact r3
   refine pm (.val (ptr d 3)) ?_ ?_;·intro fu gM;exact r3
   refine pm (.val (.agg #[iV w,.slice p g.length s])) ?_ ?_;·intro fv a0;exact eX (iV w) (aI (aI rfl (p03 (a0 _ _ f) rfl)) (eX (.slice p g.length s) (aI (aI rfl (p03 (a0 _ _ f) rfl)) r3)))
   intro cY W;refine trV b (y06 _ [iV w,.slice p g.length s] (w,g) (a04 t (J3.mono ((Hp.dropS h d).trans W) n))) λee b=>?_;refine trV b (i0g _ ee) λX b=>?_;obtain⟨go,bM,b⟩:=B0 b;have cK:X.size<=9223372036854775807:=F0 bM;refine Or.inr ?_;intro g3 fw bI;obtain⟨bb,bp,rfl,dx,g1,f8⟩:=Y0.out (r:=Wp.str.toRp) bI (show F2 (Wp.str.R cY) ([[.string T],[.string X]]:LV) [T,X] from⟨⟨rfl,cJ⟩,⟨⟨rfl,cK⟩,trivial⟩⟩);obtain⟨eg,b2,b⟩:=B0 b;refine Tr.val (w07 _ bb ([T,X]).length bp [T,X] dx _  b2) (aI rfl ?_);obtain⟨gp,bN,b⟩:=B0 b;have eZ:eg.size<=9223372036854775807:=F0 bN;cases b;exact⟨_,_,_,_,_,_,rfl,j,(Z2.mono (Sub.drop d W) m),t,(J3.mono (Sub.drop d W) n),(W _ _ f),(Sub.drop d W)⟩
  cases b;exact⟨_,_,_,_,_,_,rfl,j,(Z2.mono (Sub.drop d sr) m),t,(J3.mono (Sub.drop d sr) n),f,(Sub.drop d sr)⟩
 cases b;exact⟨_,_,_,_,_,_,rfl,j,(Z2.mono (Sub.drop d sr) m),t,(J3.mono (Sub.drop d sr) n),f,(Sub.drop d sr)⟩
def u09(h:Hp)(n:BA)(ap:n.size<=9223372036854775807)(r:BA)(c:a9 n=some r): Tr Tryz.prog 14 #[.string n] h λv h'=>v = .string r/\h'=h:=by
 unfold a9 at c;refine wkF Tryz.f14 ?_;refine ifB c (λaj c=>?_) λaj c=>?_;·cases c;exact aI rfl sr
 refine trM c (H0e _ n ap 10) ?_;rintro bu c bk G ⟨aL,bf,aS,rfl,P⟩;have N:Sub h G:=P.sub;have t:=P.r;obtain⟨rfl,a5⟩:=sL t;refine ld c t λbv aO az c=>?_;obtain⟨rfl,aY⟩:=az;refine ifB c (λam c=>?_) λam c=>?_
 ·obtain⟨Q,ag,c⟩:=B0 c;obtain⟨ax,aB,Z,aa⟩:=Sl.cutI (r:=Wp.str.toRp) t ag;refine aI ax (eX aB (aI Z ?_));intro aC ao _;obtain⟨aM,aU,rfl,M⟩:=aa aC ao;have a6:=(sL M).2;refine ifB c (λan c=>?_) λan c=>?_;·cases c;exact aI rfl N
  obtain⟨w,ab,c⟩:=B0 c;refine eX { vars:=[36,5,4],pubs:=[4] } (eX (λvs os h'=>∃(k:Int) (l:BA) (b:Nat) (ty:TypeId) (j:Bool) (e:Int) (x:Option Addr) (H z:Nat) (f:T5) (g:Int) (y:Option Addr) (I A:Nat) (i:o01),vs.tail = [iV k,.string l,ptr b 0]/\os = []/\H0 k/\l.size<=9223372036854775807/\H0 e/\Z2.R (h'.drop b) [.slice x H z] f/\H0 g/\J3.R (h'.drop b) [.slice y I A] i/\h' b=some (.cells #[.bool j,iV e,.slice x H z,iV g,.slice y I A] ty (0,0))/\Sub G (h'.drop b)/\A5 Q (E1 vs) k l (j,(e,f),g,i)=some w) (eX (λ_ _=>0) ?_));intro U ai;refine aI (eX P0 ⟨0,⟨#[]⟩,U,_,false,0,none,0,0,[],0,none,0,0,[],rfl,rfl,oD,oD,oD,(z09 g00 _),oD,(z09 S4 _),(Hp.set_same _ _ _),(Hp.setN ai),ab⟩) ?_;rintro bl bm bn m p ⟨k,l,d,ty,j,e,S,ba,V,f,g,T,bb,W,i,Y,X,aV,aW,aq,J,ar,K,ah,u,a⟩;cases Y;cases X;obtain⟨rfl,a0⟩:=sL J;obtain⟨rfl,a1⟩:=sL K;replace a:A5 Q m k l (j,(e,f),g,i)=some w:=a;obtain _|m:=m;·cases a
  rw[A5.eq_2]at a;refine ifB a (λak a=>?_) λak a=>?_
  ·refine ld a ((Wp.slice Wp.str).mono (u.trans (Hp.dropS p d)) M) λaD aN ay a=>?_;obtain⟨rfl,au⟩:=ay;refine ifB a (λal a=>?_) λal a=>?_
   ·refine trM a (H0e _ aD au 32) ?_;rintro bo a bj aw ⟨aH,bc,aP,rfl,O⟩;have o:Sub p aw:=O.sub;have L:=O.r;obtain⟨rfl,a2⟩:=sL L;obtain⟨aF,af,a⟩:=B0 a;obtain⟨aG,bp,⟨bq,br⟩,bs,bt⟩:=aF;try dsimp only at a
    refine Tr.mono (k0b _ d ty j e aq S f.length V f (Z2.mono (Sub.drop d o) J) g ar T i.length W i (J3.mono (Sub.drop d o) K) (o _ _ ah) _ _ _ _ L _ af) ?_;rintro _ aZ ⟨aJ,bd,aQ,aK,be,aR,rfl,D,q,E,s,C,aA⟩;try dsimp only at D q E s C
    obtain⟨rfl,a3⟩:=sL q;obtain⟨rfl,a4⟩:=sL s;obtain⟨bg,ac,a⟩:=B0 a;have aX:aG.size<=9223372036854775807:=F0 ac;obtain⟨bh,ad,a⟩:=B0 a;have av:=F0 ad;refine aI av ?_;obtain⟨bi,ae,a⟩:=B0 a;have F:=F0 ae;refine aI F ?_;exact P1 m ⟨_,_,_,_,_,_,_,_,_,_,_,_,_,_,_,rfl,rfl,(M0 _),(D01 F),D,(Z2.mono (Sub.drop d sr) q),E,(J3.mono (Sub.drop d sr) s),C,((u.trans ((Sub.drop d o).trans aA)).trans (Sub.drop d sr)),a⟩
   cases a
  cases a;try dsimp only[S0,U0]at c
  cases c;exact aI rfl ((N.trans u).trans (Hp.dropS p d))
 cases c
def R0r(h:Hp)(a:Option Addr)(d b:Nat)(e:(List Int))(f:(Wp.slice Wp.u8).R h [.slice a d b] e)(r:Bool)(c:T08 e=some r): Tr Tryz.prog 4 #[.slice a d b] h λv h'=>v = .bool r/\h'=h:=by obtain⟨rfl,g⟩:=sL f;unfold T08 at c;refine wkF Tryz.f4 ?_;cases c;exact aI rfl sr
def I0m(h:Hp)(c:Option Addr)(e d:Nat)(f:(List Int))(g:(Wp.slice Wp.u8).R h [.slice c e d] f)(b:Int)(m:H0 b)(r:Int)(a:g08 f b=some r): Tr Tryz.prog 16 #[.slice c e d,iV b] h λv h'=>v=iV r/\h'=h:=by
 obtain⟨rfl,n⟩:=sL g;unfold g08 at a;refine wkF Tryz.f16 ?_;refine ifB a (λj a=>?_) λj a=>?_;·refine ld a g λp l k a=>?_;obtain rfl:=k;cases a;exact aI rfl sr
 obtain⟨o,i,a⟩:=B0 a;refine aI (F0 i) ?_;cases a;exact aI rfl sr
def C0c(h:Hp)(s:Option Addr)(x u:Nat)(l:(List Int))(n:(Wp.slice Wp.u8).R h [.slice s x u] l)(e:Int)(M:H0 e)(p2:Int)(W:H0 p2)(i:Int)(X:H0 i)(r:I0)(d:F04 l e p2 i=some r): Tr Tryz.prog 5 #[.slice s x u,iV e,iV p2,iV i] h λv h'=>∃(q:Option Addr) (w t:Nat),v = .slice q w t/\J0.R h' [.slice q w t] r/\Sub h h':=by
 obtain⟨rfl,ad⟩:=sL n;unfold F04 at d;refine wk Tryz.f5 ?_;obtain⟨p,J,d⟩:=B0 d;refine eX { vars:=[10],owns:=[0] } (eX (λvs os h'=>∃ f o m,vs.tail = [iV f]/\os = [o]/\Sub h h'/\H0 f/\F2 (Wp.int.R h') o m/\k00 l e i p2 (E1 vs) f m=some p) (eX (λ_ _=>0) (aI (eX P0 ⟨_,_,_,rfl,rfl,sr,oD,(show F2 (Wp.int.R h) ([]:LV) ([]:I0) from trivial),J⟩) ?_)));rintro _ o g k ⟨f,au,m,⟨⟩,⟨⟩,j,Y,c,a⟩;replace a:k00 l e i p2 g f m=some p:=a;obtain _|g:=g;·cases a
 rw[k00.eq_2]at a;refine trV a (I0m _ _ _ _ _ ((Wp.slice Wp.u8).mono j n) _ M) λQ a=>?_;obtain⟨an,H,a⟩:=B0 a;have aa:H0 Q:=F0 H;obtain⟨ao,I,a⟩:=B0 a;refine aI (F0 I) ?_;refine ifB a (λL a=>?_) λL a=>?_
 ·refine trV a (I0m _ _ _ _ _ ((Wp.slice Wp.u8).mono j n) (i64.wrap ((i64.wrap (e+1))+f)) (M0 _)) λb a=>?_;obtain⟨ah,A,a⟩:=B0 a;have Z:H0 b:=F0 A;obtain⟨ai,C,a⟩:=B0 a;refine aI (F0 C) ?_;obtain⟨aj,D,a⟩:=B0 a;refine aI (F0 D) ?_;obtain⟨ak,E,a⟩:=B0 a;refine aI (F0 E) ?_;refine ifB a (λK a=>?_) λK a=>?_;·obtain⟨al,F,a⟩:=B0 a;refine aI (G1 F (by first|rw[fL c,fL (show F2 (Wp.int.R k) ([[iV (i64.wrap (0-(i64.wrap (1+(Int.tmod b p2)))))]]:LV) [(i64.wrap (0-(i64.wrap (1+(Int.tmod b p2)))))] from⟨⟨rfl,(M0 _)⟩,trivial⟩)]|exact congrArg (·+1) (fL c))) ?_;exact P1 g ⟨_,_,_,rfl,rfl,j,(M0 _),(fA c (show F2 (Wp.int.R k) ([[iV (i64.wrap (0-(i64.wrap (1+(Int.tmod b p2)))))]]:LV) [(i64.wrap (0-(i64.wrap (1+(Int.tmod b p2)))))] from⟨⟨rfl,(M0 _)⟩,trivial⟩)),a⟩
  obtain⟨am,G,a⟩:=B0 a;refine aI (G1 G (by first|rw[fL c,fL (show F2 (Wp.int.R k) ([[iV (i64.wrap (1+(Int.tmod b p2)))]]:LV) [(i64.wrap (1+(Int.tmod b p2)))] from⟨⟨rfl,(M0 _)⟩,trivial⟩)]|exact congrArg (·+1) (fL c))) ?_;exact P1 g ⟨_,_,_,rfl,rfl,j,(M0 _),(fA c (show F2 (Wp.int.R k) ([[iV (i64.wrap (1+(Int.tmod b p2)))]]:LV) [(i64.wrap (1+(Int.tmod b p2)))] from⟨⟨rfl,(M0 _)⟩,trivial⟩)),a⟩
 cases a;try dsimp only[S0,U0]at d
 refine Or.inl ?_;intro ap ab z;obtain⟨T,V,rfl,N,P,af⟩:=Y0.out (r:=Wp.int.toRp) z c;refine trM d (m01 _ _ _ _ _ N) ?_;rintro ar d aq ac ⟨S,ag,U,rfl,y,O⟩;obtain⟨rfl,ae⟩:=sL y;cases d;exact⟨_,_,_,rfl,y,((j.trans P).trans O)⟩
def t0a(h:Hp)(N:Option Addr)(W Q:Nat)(X:(List Int))(p:(Wp.slice Wp.u8).R h [.slice N W Q] X)(r:Bool)(b:x01 X=some r): Tr Tryz.prog 3 #[.slice N W Q] h λv h'=>v = .bool r/\h'=h:=by
 obtain⟨rfl,cU⟩:=sL p;unfold x01 at b;refine wkF Tryz.f3 ?_;refine trV b (R0r _ _ _ _ _ p) λek b=>?_;refine ifB b (λbe b=>?_) λbe b=>?_;·cases b;exact aI rfl sr
 refine trM b (C0c _ _ _ _ _ p 0 oD 2 oD 4 oD) ?_;rintro i b eg cR ⟨z,dj,C,rfl,s,G⟩;obtain⟨rfl,cY⟩:=sL s;refine trM b (C0c _ _ _ _ _ ((Wp.slice Wp.u8).mono G p) 10 oD 2 oD 4 oD) ?_;rintro j b ej E ⟨A,dm,D,rfl,t,n⟩;obtain⟨rfl,c0⟩:=sL t;refine trM b (C0c _ _ _ _ _ ((Wp.slice Wp.u8).mono (G.trans n) p) 20 oD 2 oD 4 oD) ?_;rintro eE b ee cH ⟨ca,du,cq,rfl,m,o⟩;obtain⟨rfl,c5⟩:=sL m;refine w4 ?_;obtain⟨bP,a5,b⟩:=B0 b;obtain⟨ao,cg,az,Y⟩:=S3 (F2.up (r:=J0.toRp) o (show F2 (J0.R E) ([[.slice z i.length C],[.slice A j.length D]]:LV) [i,j] from⟨(J0.mono n s),⟨t,trivial⟩⟩)) a5;obtain⟨ai,ar,rfl,cV⟩:=slL Y;refine Or.inl ?_;apply eX;refine aI ?_ ?_;·intro cI d1;exact aI ao r3
 refine pm (.val (.slice ai bP.length ar)) ?_ ?_;·intro cJ d2;exact eX _ (aI az r3)
 obtain⟨bQ,a6,b⟩:=B0 b;obtain⟨ap,ch,aA,Z⟩:=S3 (F2.up (r:=J0.toRp) o (show F2 (J0.R E) ([[.slice z i.length C],[.slice A j.length D]]:LV) [i,j] from⟨(J0.mono n s),⟨t,trivial⟩⟩)) a6;obtain⟨aj,au,rfl,cW⟩:=slL Z;refine Or.inl ?_;apply eX;refine aI ?_ ?_;·intro cK d3;exact aI ap r3
 refine pm (.val (.slice aj bQ.length au)) ?_ ?_;·intro cL d4;exact eX _ (aI aA r3)
 obtain⟨w,ba,b⟩:=B0 b;refine fS J0 w ?_ ?_;·intro cM ah;refine Tr.mono (n0c _ _ _ _ _ (J0.mono ah Y) _ _ _ _ (J0.mono ah Z) _ ba) ?_;rintro _ bD ⟨ak,di,av,rfl,aa,u⟩;obtain⟨rfl,bE⟩:=sL aa;exact aI E6 (aI u ⟨ak,av,rfl,aa,bE⟩)
 obtain⟨bR,bb,b⟩:=B0 b;obtain⟨aq,ci,aB,ab⟩:=S3 (F2.up (r:=J0.toRp) o (show F2 (J0.R E) ([[.slice z i.length C],[.slice A j.length D]]:LV) [i,j] from⟨(J0.mono n s),⟨t,trivial⟩⟩)) bb;obtain⟨al,aw,rfl,cX⟩:=slL ab;refine Or.inl ?_;apply eX;refine aI ?_ ?_;·intro cN ea;exact aI aq r3
 refine pm (.val (.slice al bR.length aw)) ?_ ?_;·intro cO eb;exact eX _ (aI aB r3)
 obtain⟨x,bc,b⟩:=B0 b;refine fS J0 x ?_ ?_;·intro cP bO;refine Tr.mono (Y0f _ _ _ _ _ (J0.mono bO ab) _ bc) ?_;rintro _ bD ⟨am,dk,ax,rfl,ac,u⟩;obtain⟨rfl,bG⟩:=sL ac;exact aI E6 (aI u ⟨am,ax,rfl,ac,bG⟩)
 obtain⟨y,bd,b⟩:=B0 b;refine fS T1 y ?_ ?_;·intro U ec;rintro _ ⟨O,S,rfl,bK,c6⟩;rintro _ ⟨P,T,rfl,bL,db⟩;have aC:[w,x]=y:=oJ bd;intro v k hf;obtain⟨a,c,rfl,r,u,l⟩:=Y0.out (r:=J0.toRp) (xs:=y) hf (show F2 (J0.R U) [[.slice O w.length S],[.slice P x.length T]] y from aC▸(show F2 (J0.R U) [[.slice O w.length S],[.slice P x.length T]] [w,x] from⟨bK,⟨bL,trivial⟩⟩));exact aI ⟨rfl,rfl,rfl,[_],rfl⟩ (aI u ⟨a,c,rfl,r,l⟩)
 refine fS T1 y ?_ ?_;·intro cQ ed;rintro _ ⟨an,ay,rfl,bM,bH⟩;exact aI E6 (aI sr ⟨an,ay,rfl,bM,bH⟩)
 intro cS e;rintro _ ⟨cb,cr,rfl,bN,dc⟩;rintro _ ⟨cc,cs,rfl,dW,dd⟩;rintro _ ⟨cd,ct,rfl,dX,df⟩;rintro _ ⟨ce,cu,rfl,dY,dg⟩;refine Or.inl ?_;intro ef bB aD;obtain⟨cf,cv,rfl,F,f,dh⟩:=Y0.out (r:=J0.toRp) aD (F2.up (r:=J0.toRp) (o.trans e) (show F2 (J0.R E) ([[.slice z i.length C],[.slice A j.length D]]:LV) [i,j] from⟨(J0.mono n s),⟨t,trivial⟩⟩));refine trM b (p09 _ 2 oD _ _ _ _ F) ?_;rintro bS b eh V ⟨cj,rfl,L⟩;obtain⟨el,ep⟩:=bS;dsimp only at b L;have d:Sub bB V:=L.sub;have bI:=L.r;obtain⟨em,en,b4,cl,eo,rfl,rfl,H,I,K,cZ⟩:=opG bI;try dsimp only at b
 refine trV b (G03 _ _ _ _ _ (T1.mono d F)) λbU b=>?_;obtain⟨dv,aF,b⟩:=B0 b;have cw:bU.size<=9223372036854775807:=F0 aF;obtain⟨dw,aG,b⟩:=B0 b;have bl:=F0 aG;refine aI bl ?_;obtain⟨dx,aH,b⟩:=B0 b;have bm:=F0 aH;refine aI bm ?_;refine trV b (G03 _ _ _ _ _ (T1.mono (f.trans d) bN)) λbV b=>?_;obtain⟨dy,aJ,b⟩:=B0 b;have cx:bV.size<=9223372036854775807:=F0 aJ;obtain⟨dz,aK,b⟩:=B0 b;have bn:=F0 aK;refine aI bn ?_;obtain⟨dA,aL,b⟩:=B0 b;have bo:=F0 aL;refine aI bo ?_;refine trV b (D02 _ _ _ _ _ (J0.mono ((e.trans f).trans d) m)) λbW b=>?_;obtain⟨dB,aM,b⟩:=B0 b;have cy:bW.size<=9223372036854775807:=F0 aM;obtain⟨dC,aN,b⟩:=B0 b;have bp:=F0 aN;refine aI bp ?_;obtain⟨dD,aO,b⟩:=B0 b;have bq:=F0 aO;refine aI bq ?_;refine trV b (G03 _ _ _ _ _ (T1.mono d F)) λbX b=>?_;obtain⟨dG,aP,b⟩:=B0 b;have cz:bX.size<=9223372036854775807:=F0 aP;obtain⟨dH,aQ,b⟩:=B0 b;have br:=F0 aQ;refine aI br ?_;obtain⟨dI,aR,b⟩:=B0 b;have bs:=F0 aR;refine aI bs ?_;refine trV b (D02 _ _ _ _ _ (J0.mono ((e.trans f).trans d) m)) λbY b=>?_;obtain⟨dJ,aS,b⟩:=B0 b;have cA:bY.size<=9223372036854775807:=F0 aS;obtain⟨dK,aU,b⟩:=B0 b;have bt:=F0 aU;refine aI bt ?_;obtain⟨dL,aV,b⟩:=B0 b;have J:=F0 aV;refine aI J ?_;refine trM b (k0h _ 1 oD 2 oD _ _ _ _ (T1.mono d F) _ _ _ _ (J0.mono ((e.trans f).trans d) m)) ?_;rintro bZ b ei bC ⟨ck,rfl,M⟩;obtain⟨eq,eC⟩:=bZ;dsimp only at b M;have g:Sub V bC:=M.sub;have bJ:=M.r;obtain⟨er,es,b5,dn,cm,et,b6,dq,cn,eu,b7,ds,co,ew,ey,ez,b8,dt,cp,eA,eB,rfl,rfl,bg,bh,ad,ae,af,bi,bj,ag,bk⟩:=p01 bJ;obtain⟨rfl,c1⟩:=sL ad;obtain⟨rfl,c2⟩:=sL ae;obtain⟨rfl,c3⟩:=sL af;obtain⟨rfl,c4⟩:=sL ag;try dsimp only at b
 refine trV b (e0g _ _ _ (D0 H I (N0.mono g K)) _ _ _ _ (J0.mono (((e.trans f).trans d).trans g) m)) λb0 b=>?_;obtain⟨dM,aW,b⟩:=B0 b;have cC:b0.size<=9223372036854775807:=F0 aW;obtain⟨dN,aX,b⟩:=B0 b;have bu:=F0 aX;refine aI bu ?_;obtain⟨dO,aY,b⟩:=B0 b;have bv:=F0 aY;refine aI bv ?_;refine ifB b (λbf b=>?_) λbf b=>?_;·refine trV b (z0e _ _ _ (W7 bg bh ad ae af bi bj ag bk)) λb1 b=>?_;obtain⟨dP,aZ,b⟩:=B0 b;have cD:b1.size<=9223372036854775807:=F0 aZ;obtain⟨dQ,a0,b⟩:=B0 b;have bx:=F0 a0;refine aI bx ?_;obtain⟨dR,a1,b⟩:=B0 b;have bz:=F0 a1;refine aI bz ?_;refine trV b (u09 _ _ (D01 J)) λb2 b=>?_;obtain⟨dS,a2,b⟩:=B0 b;have cE:b2.size<=9223372036854775807:=F0 a2;refine trG b (λq=>v05 _ _ _ (D0 H I (N0.mono g K)) _ _ _ _ (J0.mono (((e.trans f).trans d).trans g) m)) λeD b=>?_;cases b;exact aI rfl ((((((G.trans n).trans o).trans e).trans f).trans d).trans g)
 obtain⟨dU,a3,b⟩:=B0 b;have bA:=F0 a3;refine aI bA ?_;refine trV b (u09 _ _ (D01 J)) λb3 b=>?_;obtain⟨dV,a4,b⟩:=B0 b;have cG:b3.size<=9223372036854775807:=F0 a4;refine trG b (λq=>v05 _ _ _ (D0 H I (N0.mono g K)) _ _ _ _ (J0.mono (((e.trans f).trans d).trans g) m)) λeF b=>?_;cases b;exact aI rfl ((((((G.trans n).trans o).trans e).trans f).trans d).trans g)
end Go.Proofs.YthakcafglempaaaGreat
