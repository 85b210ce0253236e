/- Texts of the claim, joined: The walks of batch ac2 and others. -/
import Derived.Test.YthakcafglempaaaGreatH53
import Derived.Test.YthakcafglempaaaGreatPart27
import Derived.Test.YthakcafglempaaaGreatPart25
import Derived.Test.YthakcafglempaaaGreatChecked
import Derived.Test.YthakcafglempaaaGreatH35
import Derived.Test.YthakcafglempaaaGreatPart39
import Derived.Test.YthakcafglempaaaGreatPart41
import Derived.Test.YthakcafglempaaaGreatPart42
import Derived.Test.YthakcafglempaaaGreatPart43
import Derived.Test.YthakcafglempaaaGreatPart44
import Derived.Test.YthakcafglempaaaGreatH41
import Derived.Test.YthakcafglempaaaGreatPart30
import Derived.Test.YthakcafglempaaaGreatPart24
namespace Go.Proofs.YthakcafglempaaaGreat
set_option linter.all false
open Go.H
open IntKind (i64)
set_option maxRecDepth 10000
set_option maxHeartbeats 0
theorem r0a(h:Hp)(q:Option Addr)(H s:Nat)(j:M1)(I:T1.R h [.slice q H s] j)(r:M1)(e:X01 j=some r): Tr Tryz.prog 196 #[.slice q H s] h λv h'=>∃(C:Option Addr) (G D:Nat),v = .slice C G D/\New T1 h h' [.slice C G D] r:=by
 obtain⟨rfl,ad⟩:=Sl.len I;unfold X01 at e;refine j5 (args:=[.slice q j.length s]) (fn:=Tryz.f196) rfl ?_;obtain⟨aj,M,e⟩:=B0 e;refine aI (F0 M) ?_;obtain⟨A,O,e⟩:=B0 e;refine eX { vars:=[11],boxes:=[],owns:=[0],fuel:=true } (eX (λvs os h'=>∃ f l d,vs.tail = [.int .i64 f]/\os = [l]/\Sub h h'/\H0 f/\F2 (J0.R h') l d/\(∃ Bs,F3 (J0.W h') l d Bs/\G4 h Bs.flatten)/\r8 j (E1 vs) f d=some A) (eX (λ_ _=>0) (aI (eX P0 ⟨0,(List.replicate (0:Int).toNat ([.slice none 0 0]:List Value)),(List.replicate (0:Int).toNat ([]:I0)),rfl,rfl,(Sub.refl _),(by decide),(F2.rep (p:=J0.R h) (a:=[.slice none 0 0]) (b:=[]) (z09 Wp.int h) ((0:Int).toNat)),⟨_,(show F3 (J0.W h) (List.replicate (0:Int).toNat ([.slice none 0 0]:List Value)) (List.replicate (0:Int).toNat ([]:I0)) [] from trivial),(G4.nil h)⟩,O⟩) ?_)));rintro _ l n S ⟨f,ap,d,⟨⟩,⟨⟩,o,ac,m,⟨Z,y,F⟩,c⟩;replace c:r8 j n f d=some A:=c;obtain _|n:=n;·cases c
 rw[r8.eq_2]at c;refine ifB c (λP c=>?_) λP c=>?_;·refine ld c (T1.mono o I) λao aa w c=>?_;obtain⟨Y,ah,ab,rfl⟩:=Wp.slice_cell w;obtain⟨rfl,ae⟩:=Sl.len w;obtain⟨g,i,c⟩:=B0 c;refine Tr.mono (C01 _ _ _ _ _ w _  i) ?_;rintro an u ⟨i,ai,t,rfl,z⟩;have k:Sub S u:=z.sub;have x:=z.r;obtain⟨rfl,af⟩:=Sl.len x;obtain⟨ak,N,c⟩:=B0 c;refine aI (G1 N (by first|rw[F2.length (F2.up (r:=J0.toRp) k m),F2.length (show F2 (J0.R u) ([[.slice (some ⟨i,0,none⟩) g.length t]]:List (List Value)) [g] from⟨x,trivial⟩)]|exact congrArg (·+1) (F2.length (F2.up (r:=J0.toRp) k m)))) ?_;obtain⟨X,V,L,_⟩:=z;exact P1 n ⟨(IntKind.i64.wrap (f+1)),(l++([[.slice (some ⟨i,0,none⟩) g.length t]]:List (List Value))),(d ++ [g]),rfl,rfl,(o.trans k),(M0 _),(F2.append (F2.up (r:=J0.toRp) k m) (show F2 (J0.R u) ([[.slice (some ⟨i,0,none⟩) g.length t]]:List (List Value)) [g] from⟨x,trivial⟩)),⟨_,(F3.snoc V (k0f y k)),(z08 y o F L)⟩,c⟩
 obtain rfl:=oJ c;try dsimp only[S0,U0]at e
 intro U Q E;have T:New (Wp.slice J0) h Q [U] d:=(Y0.fresh (r:=J0) E y o F);obtain⟨J,K,rfl,al,am,ag⟩:=Y0.out (r:=J0.toRp) E m;obtain rfl:=oJ e;exact⟨J,d.length,K,rfl,T⟩
def R06(h:Hp)(p:List Value)(y:j6)(S:S4.R h p y)(r:j6)(a:Y01 y=some r): Tr Tryz.prog 201 #[.agg p.toArray] h λv h'=>∃(o:List Value),v = .agg o.toArray/\New S4 h h' o r:=by
 obtain⟨aM,aN,ae,aC,aj,aO,af,aD,ak,aP,ag,aF,al,aQ,aR,aS,ah,aG,am,aU,aV,rfl,rfl,J,K,z,A,C,L,M,D,N⟩:=p01 S;obtain⟨rfl,au⟩:=sL z;obtain⟨rfl,av⟩:=sL A;obtain⟨rfl,aw⟩:=sL C;obtain⟨rfl,ax⟩:=sL D;unfold Y01 at a;dsimp only at a;refine wk Tryz.f201 ?_;refine trM a (r0a _ _ _ _ _ z) ?_;rintro a0 a aX u ⟨ai,aH,an,rfl,l⟩;have c:Sub h u:=l.sub;have T:=l.r;obtain⟨rfl,ay⟩:=sL T;obtain⟨a4,s,a⟩:=B0 a;refine Tr.mono (C01 _ _ _ _ _ (J0.mono c A) _  s) ?_;rintro aY w ⟨s,aK,ap,rfl,m⟩;have b:Sub u w:=m.sub;have V:=m.r;obtain⟨rfl,aA⟩:=sL V;obtain⟨a5,t,a⟩:=B0 a;refine Tr.mono (C01 _ _ _ _ _ (J0.mono (c.trans b) C) _  t) ?_;rintro aZ x ⟨t,aL,aq,rfl,n⟩;have d:Sub w x:=n.sub;have W:=n.r;obtain⟨rfl,aB⟩:=sL W;refine trM a (F5 _ _ _ (D0 L M (N0.mono ((c.trans b).trans d) D))) ?_;rintro Z a aW Q ⟨ar,aJ,ao,rfl,i⟩;have f:Sub x Q:=i.sub;have E:=i.r;obtain⟨a1,a2,a3⟩:=Z;dsimp only at a i E;obtain⟨_,_,_,_,_,_,G,H,O,P,U⟩:=Z0 E;cases G;cases H;obtain⟨rfl,az⟩:=sL U;try dsimp only at a
 have X:=nD (nD (i));cases a;obtain⟨aa,g,I,_⟩:=l;obtain⟨ab,k,q,_⟩:=m;obtain⟨ac,F,j,_⟩:=n;obtain⟨ad,Y,e,_⟩:=X;exact⟨_,rfl,(NB.fin (NB.pair (NB.int J) (NB.pair (NB.int K) (NB.pair (NB.mk g ((b.trans d).trans f) I sr) (NB.pair (NB.mk k (d.trans f) q c) (NB.pair (NB.mk F f j (c.trans b)) (NB.pair (NB.pair (NB.int O) (NB.pair (NB.int P) (NB.mk Y sr e ((c.trans b).trans d)) NB.d0) NB.d0) (NB.int N) NB.de) (NB.da (NB.da NB.de (NB.da NB.de (NB.dl F sr e))) NB.de)) (NB.da (NB.dl k sr j) (NB.da (NB.da NB.de (NB.da NB.de (NB.dl k d e))) NB.de))) (NB.da (NB.dl g sr q) (NB.da (NB.dl g b j) (NB.da (NB.da NB.de (NB.da NB.de (NB.dl g (b.trans d) e))) NB.de)))) NB.d0) NB.d0) (((c.trans b).trans d).trans f))⟩
def s0d(h:Hp)(K:List Value)(Z:T3)(ay:L04.R h K Z)(r:T3)(b:P02 Z=some r): Tr Tryz.prog 199 #[.agg K.toArray] h λv h'=>∃(J:List Value),v = .agg J.toArray/\New L04 h h' J r:=by
 obtain⟨bj,aF,ba,aN,aa,rfl,rfl,an,ab⟩:=x03 ay;obtain⟨rfl,aX⟩:=sL ab;unfold P02 at b;dsimp only at b;refine wk Tryz.f199 ?_;obtain⟨E,al,b⟩:=B0 b;refine eX { vars:=[12],boxes:=[2],owns:=[0],nilsB:=[(2,1,37,9,136)] } (eX (λvs os h'=>∃ e f k c,vs.tail = [iV e,iV f]/\os = [k]/\Sub h h'/\H0 e/\H0 f/\F2 (S4.R h') k c/\(∃ Bs,F3 (S4.W h') k c Bs/\G4 h Bs.flatten)/\j9 aa (E1 vs) e f c=some E) (eX (λ_ _=>0) (aI (eX P0 ⟨_,_,_,_,rfl,rfl,sr,oD,an,(show F2 (S4.R h) [] [] from trivial),⟨_,(show F3 (S4.W h) [] [] [] from trivial),(G4.nil h)⟩,al⟩) ?_)));rintro _ _ k i aw ⟨e,f,bB,c,⟨⟩,⟨⟩,j,aW,S,g,⟨aM,C,Q⟩,a⟩;replace a:j9 aa i e f c=some E:=a;obtain _|i:=i;·cases a
 rw[j9.eq_2]at a;refine ifB a (λam a=>?_) λam a=>?_
 ·obtain⟨bo,ak,a⟩:=B0 a;obtain⟨ag,aO,ah,az⟩:=Sl.getI (r:=S4.toRp) (J3.mono j ab) ak oD;refine aI ag ?_;obtain⟨bp,bq,aG,bb,aQ,br,aH,bc,aR,bs,aJ,bd,aS,bt,bu,bv,aK,be,aU,bx,bz,rfl,rfl,ao,ap,ac,ad,ae,aq,ar,af,au⟩:=p01 az;obtain⟨rfl,aY⟩:=sL ac;obtain⟨rfl,aZ⟩:=sL ad;obtain⟨rfl,a0⟩:=sL ae;obtain⟨rfl,a1⟩:=sL af;try dsimp only at a
  refine eX _ (aI ah ?_);refine w3 ?_;refine aI ?_ trivial;refine trM a (R06 _ _ _ (W7 ao ap ac ad ae aq ar af au)) ?_;rintro bA a bn w ⟨aP,rfl,D⟩;have d:Sub aw w:=D.sub;have aA:=D.r;obtain⟨l,m,F,bf,L,n,G,bg,M,o,H,bh,N,p,q,s,I,bi,O,t,u,rfl,rfl,T,U,x,y,z,V,X,A,Y⟩:=p01 aA;obtain⟨rfl,a2⟩:=sL x;obtain⟨rfl,a3⟩:=sL y;obtain⟨rfl,a4⟩:=sL z;obtain⟨rfl,a5⟩:=sL A;try dsimp only at a
  refine aI (by first|exact trivial|exact rfl) ?_;refine aI ?_ trivial;refine aI (by first|exact trivial|exact rfl) ?_;refine aI ?_ trivial;obtain⟨bk,aj,a⟩:=B0 a;refine aI (G1 aj (by first|rw[fL (F2.up (r:=S4.toRp) d g),fL (show F2 (S4.R w) ([[iV l,iV m,.slice F n.length L,.slice G o.length M,.slice H p.length N,iV q,iV s,.slice I t.length O,iV u]]:LV) [(l,m,n,o,p,(q,s,t),u)] from⟨(W7 T U x y z V X A Y),trivial⟩)]|exact congrArg (·+1) (fL (F2.up (r:=S4.toRp) d g)))) ?_;obtain⟨aD,aC,ai,_⟩:=D;refine aI (by first|exact trivial|exact rfl) ?_;refine aI ?_ trivial;refine aI (by first|exact trivial|exact rfl) ?_;exact P1 i ⟨_,_,_,_,rfl,rfl,(j.trans d),(M0 _),S,(fA (F2.up (r:=S4.toRp) d g) (show F2 (S4.R w) ([[iV l,iV m,.slice F n.length L,.slice G o.length M,.slice H p.length N,iV q,iV s,.slice I t.length O,iV u]]:LV) [(l,m,n,o,p,(q,s,t),u)] from⟨(W7 T U x y z V X A Y),trivial⟩)),⟨_,(F3.snoc aC (k0f C d)),(z08 C j Q ai)⟩,a⟩
 cases a;try dsimp only[S0,U0]at b
 intro aB av P;have ax:New (Wp.slice S4) h av [aB] c:=(Y0.fresh (r:=S4) P C j Q);obtain⟨aL,aV,rfl,bl,bm,a6⟩:=Y0.out (r:=S4.toRp) P g;cases b;exact⟨_,rfl,(nP (nI S) ax)⟩
def r0i(h:Hp)(aq:List Value)(aB:T3)(a2:L04.R h aq aB)(ar:List Value)(aC:j6)(a3:S4.R h ar aC)(r:T3×Bool)(a:X03 aB aC=some r): Tr Tryz.prog 131 #[.agg aq.toArray,.agg ar.toArray] h λv h'=>∃(ap:List Value),v = .tuple #[.agg ap.toArray,.bool r.2]/\New L04 h h' ap r.1:=by
 obtain⟨cg,bj,bY,bq,ch,rfl,rfl,ad,K⟩:=x03 a2;obtain⟨rfl,bH⟩:=sL K;obtain⟨ci,cj,bk,bZ,br,ck,bl,b0,bs,cl,bm,b1,bt,cm,cn,co,bn,b2,bu,cp,cq,rfl,rfl,D,E,y,z,A,F,G,C,H⟩:=p01 a3;obtain⟨rfl,bI⟩:=sL y;obtain⟨rfl,bJ⟩:=sL z;obtain⟨rfl,bK⟩:=sL A;obtain⟨rfl,bL⟩:=sL C;unfold X03 at a;dsimp only at a;refine wk Tryz.f131 ?_;refine trM a (s0d _ _ _ (a04 ad K)) ?_;rintro cz a cx ae ⟨bv,rfl,al⟩;have b:Sub h ae:=al.sub;have a4:=al.r;obtain⟨cD,bo,b3,bA,cE,rfl,rfl,I,a5⟩:=x03 a4;obtain⟨rfl,bM⟩:=sL a5;try dsimp only at a
 have ak:=nD (al);rcases New.two ak with⟨rfl,rfl,rfl⟩|⟨bE,cf,rfl⟩
 ·skip;refine trV a (y06 _ _ _ (a04 ad (J3.mono b K))) λcH a=>?_;refine trG a (λq=>x06 _ _ _ (W7 D E (T1.mono b y) (J0.mono b z) (J0.mono b A) F G (N0.mono b C) H)) λcI a=>?_;refine ifB a (λaU a=>?_) λaU a=>?_;·cases a;exact⟨_,rfl,(nP (nI I) ((New.nilSlice (r:=S4)).mono b))⟩
  refine w3 ?_;refine aI ?_ trivial;refine trM a (R06 _ _ _ (W7 D E (T1.mono b y) (J0.mono b z) (J0.mono b A) F G (N0.mono b C) H)) ?_;rintro cJ a cv J ⟨bz,rfl,an⟩;have be:Sub ae J:=an.sub;have ba:=an.r;obtain⟨c,d,P,b8,Z,e,Q,ca,aa,f,S,cb,ab,g,i,j,T,cc,ac,k,l,rfl,rfl,av,aw,ag,ah,ai,ax,ay,aj,az⟩:=p01 ba;obtain⟨rfl,bR⟩:=sL ag;obtain⟨rfl,bS⟩:=sL ah;obtain⟨rfl,bU⟩:=sL ai;obtain⟨rfl,bV⟩:=sL aj;try dsimp only at a
  refine aI (by first|exact trivial|exact rfl) ?_;refine aI ?_ trivial;refine aI (by first|exact trivial|exact rfl) ?_;refine aI ?_ trivial;refine Or.inl ?_;obtain⟨cr,aP,a⟩:=B0 a;refine aI (G1 aP (fL (show F2 (S4.R J) ([[iV c,iV d,.slice P e.length Z,.slice Q f.length aa,.slice S g.length ab,iV i,iV j,.slice T k.length ac,iV l]]:LV) [(c,d,e,f,g,(i,j,k),l)] from⟨(W7 av aw ag ah ai ax ay aj az),trivial⟩))) ?_;obtain⟨aK,bh,aN,_⟩:=an;refine aI (by first|exact trivial|exact rfl) ?_;refine aI ?_ trivial;refine aI (by first|exact trivial|exact rfl) ?_;intro bf a0 au;have a1:New (Wp.slice S4) h a0 [bf] [(c,d,e,f,g,(i,j,k),l)]:=(Y0.fresh (r:=S4) au (show F3 (S4.W J) ([[iV c,iV d,.slice P e.length Z,.slice Q f.length aa,.slice S g.length ab,iV i,iV j,.slice T k.length ac,iV l]]:LV) [(c,d,e,f,g,(i,j,k),l)] [aK] from⟨bh,trivial⟩) (b.trans be) (G4.older b aN));obtain⟨bp,bB,rfl,ct,cu,bW⟩:=Y0.out (r:=S4.toRp) au (show F2 (S4.R J) ([[iV c,iV d,.slice P e.length Z,.slice Q f.length aa,.slice S g.length ab,iV i,iV j,.slice T k.length ac,iV l]]:LV) [(c,d,e,f,g,(i,j,k),l)] from⟨(W7 av aw ag ah ai ax ay aj az),trivial⟩);cases a;exact⟨_,rfl,(nP (nI I) a1)⟩
 skip;refine trV a (y06 _ _ _ (a04 ad (J3.mono b K))) λcA a=>?_;refine trG a (λq=>x06 _ _ _ (W7 D E (T1.mono b y) (J0.mono b z) (J0.mono b A) F G (N0.mono b C) H)) λcC a=>?_;refine ifB a (λaS a=>?_) λaS a=>?_;·cases a;exact⟨_,rfl,(nP (nI I) ak)⟩
 refine w3 ?_;refine aI ?_ trivial;refine trM a (R06 _ _ _ (W7 D E (T1.mono b y) (J0.mono b z) (J0.mono b A) F G (N0.mono b C) H)) ?_;rintro cG a cw af ⟨bx,rfl,am⟩;have bd:Sub ae af:=am.sub;have a6:=am.r;obtain⟨m,n,L,b4,U,o,M,b5,V,p,N,b6,X,s,t,u,O,b7,Y,w,x,rfl,rfl,aV,aW,aD,aF,aG,aX,aY,aH,aZ⟩:=p01 a6;obtain⟨rfl,bN⟩:=sL aD;obtain⟨rfl,bO⟩:=sL aF;obtain⟨rfl,bP⟩:=sL aG;obtain⟨rfl,bQ⟩:=sL aH;try dsimp only at a
 refine aI (by first|exact trivial|exact rfl) ?_;refine aI ?_ trivial;refine aI (by first|exact trivial|exact rfl) ?_;refine aI ?_ trivial;obtain⟨cs,aQ,a⟩:=B0 a;obtain⟨ao,bi,aO,_⟩:=am;obtain⟨bg,bb,aA,aL⟩:=New.app ak bd;refine eX bg (aI bb (aI (G1 aQ (by first|rw[aA,fL (show F2 (S4.R af) ([[iV m,iV n,.slice L o.length U,.slice M p.length V,.slice N s.length X,iV t,iV u,.slice O w.length Y,iV x]]:LV) [(m,n,o,p,s,(t,u,w),x)] from⟨(W7 aV aW aD aF aG aX aY aH aZ),trivial⟩)]|(rw[aA];rfl))) ?_));intro cy bG aR;obtain⟨aJ,bD,ce,cd,bC,rfl⟩:=aL ([[iV m,iV n,.slice L o.length U,.slice M p.length V,.slice N s.length X,iV t,iV u,.slice O w.length Y,iV x]]:LV) [(m,n,o,p,s,(t,u,w),x)] [ao] _ _ (show F3 (S4.W af) ([[iV m,iV n,.slice L o.length U,.slice M p.length V,.slice N s.length X,iV t,iV u,.slice O w.length Y,iV x]]:LV) [(m,n,o,p,s,(t,u,w),x)] [ao] from⟨bi,trivial⟩) (G4.older sr aO) aR;have bc:=aJ.r;obtain⟨aM,bX⟩:=sL bc;subst aM;refine aI (by first|exact trivial|exact rfl) ?_;refine aI ?_ trivial;refine aI (by first|exact trivial|exact rfl) ?_;cases a;exact⟨_,rfl,(nP (nI I) aJ)⟩
theorem s0a(h:Hp)(csp0:List Value)(p0:j0)(rp0:F1.R h csp0 p0)(ap1:Option Addr)(np1 cp1:Nat)(p1:I0)(rp1:J0.R h [.slice ap1 np1 cp1] p1)(r:I0×Bool)(hM0:W01 p0 p1=some r):
  Tr Tryz.prog 114 #[.agg csp0.toArray,.slice ap1 np1 cp1] h λv h'=>∃(a0:Option Addr) (n0 c0:Nat),v = .tuple #[.slice a0 n0 c0,.bool r.2]/\New J0 h h' [.slice a0 n0 c0] r.1:=by
 obtain⟨p0_0,p0_1,ap0_2,np0_2,cp0_2,p0_2,rfl,rfl,ip0_0,ip0_1,rp0_2⟩:=Z0 rp0
 obtain⟨rfl,lp0_2⟩:=Sl.len rp0_2
 obtain⟨rfl,lp1⟩:=Sl.len rp1
 unfold W01 at hM0
 dsimp only at hM0
 refine j5 (args:=[.agg #[.int .i64 p0_0,.int .i64 p0_1,.slice ap0_2 p0_2.length cp0_2],.slice ap1 p1.length cp1]) (fn:=Tryz.f114) rfl ?_
 refine trV hM0 (q0i _ _ _ (D0 ip0_0 ip0_1 rp0_2) _ _ _ _ rp1) λx1 hM0=>?_
 refine ifB hM0 (λhc2 hM0=>?_) λhc2 hM0=>?_
 ·intro v3 k4 f5
  obtain⟨az6,cz6,rfl,rz6,sz6,lz6⟩:=Y0.out (r:=Wp.int.toRp) f5 (show F2 (Wp.int.R h) ([]:List (List Value)) ([]:I0) from trivial)
  obtain rfl:=oJ hM0
  exact⟨az6,(([]:I0)).length,cz6,rfl,(Y0.newPlain (r:=Wp.int) f5 (show F2 (Wp.int.R h) ([]:List (List Value)) ([]:I0) from trivial) (B07 _))⟩
 ·refine trM hM0 (r09 _ _ _ (D0 ip0_0 ip0_1 rp0_2)) ?_
  rintro x7 hM0 v9 k8 ⟨ax7,nx7,cx7,rfl,wx7⟩
  have sx7:Sub h k8:=wx7.sub
  have rx7:=wx7.r
  obtain⟨rfl,lx7⟩:=Sl.len rx7
  refine trM hM0 (E02 _ _ _ _ _ (J0.mono sx7 rp1)) ?_
  rintro x10 hM0 v12 k11 ⟨ax10,nx10,cx10,rfl,wx10⟩
  have sx10:Sub k8 k11:=wx10.sub
  have rx10:=wx10.r
  obtain⟨rfl,lx10⟩:=Sl.len rx10
  obtain⟨X13,hLX13,hM0⟩:=B0 hM0
  refine eX { vars:=[8,24],boxes:=[],owns:=[0],fuel:=true } (eX (λvs os h'=>∃ u14 u15 wu16 u16,vs.tail = [.int .i64 u14,.int .i64 u15]/\os = [wu16]/\Sub k11 h'/\H0 u14/\H0 u15/\F2 (Wp.int.R h') wu16 u16/\g6 x10 p0_0 p0_1 p0_2 x7 (E1 vs) u14 u15 u16=some X13) (eX (λ_ _=>0) (aI (eX P0 ⟨0,0,[],([]:I0),rfl,rfl,(Sub.refl _),(by decide),(by decide),(F2.up (r:=Wp.int.toRp) sx10 (show F2 (Wp.int.R k8) ([]:List (List Value)) ([]:I0) from trivial)),hLX13⟩) ?_)))
  rintro _ _ wu16 m18 k17 ⟨u14,u15,zzu16,u16,⟨⟩,⟨⟩,sX13,iu14,iu15,fu16,hM1⟩
  replace hM1:g6 x10 p0_0 p0_1 p0_2 x7 m18 u14 u15 u16=some X13:=hM1
  obtain _|m18:=m18
  ·cases hM1
  rw[g6.eq_2]at hM1
  refine ifB hM1 (λhc19 hM1=>?_) λhc19 hM1=>?_
  ·refine ldI hM1 (J0.mono sX13 rx10) λx20 ix20 hM1=>?_
   refine trV hM1 (c9 _ _ _ (D0 ip0_0 ip0_1 (N0.mono ((sx7.trans sx10).trans sX13) rp0_2)) _ iu14 _ ix20) λx21 hM1=>?_
   obtain⟨q22,gq22,hM1⟩:=B0 hM1
   have ix21:H0 x21:=F0 gq22
   refine trM hM1 (q09 _ _ iu14 _ ix20 _ ix21) ?_
   rintro x23 hM1 v25 k24 ⟨csx23,rfl,rx23,sx23⟩
   obtain⟨x23_0,x23_1,x23_2,rfl,rfl,ix23_0,ix23_1,ix23_2⟩:=Q1 rx23
   try dsimp only at hM1
   refine trV hM1 (y01 _ _ _ _ _ (N0.mono ((sx10.trans sX13).trans sx23) rx7) _ _ (N1 ix23_0 ix23_1 ix23_2)) λx26 hM1=>?_
   obtain⟨q27,gq27,hM1⟩:=B0 hM1
   have ix26:H0 x26:=F0 gq27
   refine ifB hM1 (λhc28 hM1=>?_) λhc28 hM1=>?_
   ·refine ifB hM1 (λhc29 hM1=>?_) λhc29 hM1=>?_
    ·obtain⟨q30,gq30,hM1⟩:=B0 hM1
     refine aI (G1 gq30 (by first|rw[F2.length (F2.up (r:=Wp.int.toRp) sx23 fu16),F2.length (show F2 (Wp.int.R k24) ([[.int .i64 (IntKind.i64.wrap (x26+1))]]:List (List Value)) [(IntKind.i64.wrap (x26+1))] from⟨⟨rfl,(M0 _)⟩,trivial⟩)]|exact congrArg (·+1) (F2.length (F2.up (r:=Wp.int.toRp) sx23 fu16)))) ?_
     exact P1 m18 ⟨x21,(IntKind.i64.wrap (u15+1)),(wu16++([[.int .i64 (IntKind.i64.wrap (x26+1))]]:List (List Value))),(u16 ++ [(IntKind.i64.wrap (x26+1))]),rfl,rfl,(sX13.trans sx23),ix21,(M0 _),(F2.append (F2.up (r:=Wp.int.toRp) sx23 fu16) (show F2 (Wp.int.R k24) ([[.int .i64 (IntKind.i64.wrap (x26+1))]]:List (List Value)) [(IntKind.i64.wrap (x26+1))] from⟨⟨rfl,(M0 _)⟩,trivial⟩)),hM1⟩
    ·obtain⟨q31,gq31,hM1⟩:=B0 hM1
     refine aI (G1 gq31 (by first|rw[F2.length (F2.up (r:=Wp.int.toRp) sx23 fu16),F2.length (show F2 (Wp.int.R k24) ([[.int .i64 (IntKind.i64.wrap ((IntKind.i64.wrap (0-x26))-1))]]:List (List Value)) [(IntKind.i64.wrap ((IntKind.i64.wrap (0-x26))-1))] from⟨⟨rfl,(M0 _)⟩,trivial⟩)]|exact congrArg (·+1) (F2.length (F2.up (r:=Wp.int.toRp) sx23 fu16)))) ?_
     exact P1 m18 ⟨x21,(IntKind.i64.wrap (u15+1)),(wu16++([[.int .i64 (IntKind.i64.wrap ((IntKind.i64.wrap (0-x26))-1))]]:List (List Value))),(u16 ++ [(IntKind.i64.wrap ((IntKind.i64.wrap (0-x26))-1))]),rfl,rfl,(sX13.trans sx23),ix21,(M0 _),(F2.append (F2.up (r:=Wp.int.toRp) sx23 fu16) (show F2 (Wp.int.R k24) ([[.int .i64 (IntKind.i64.wrap ((IntKind.i64.wrap (0-x26))-1))]]:List (List Value)) [(IntKind.i64.wrap ((IntKind.i64.wrap (0-x26))-1))] from⟨⟨rfl,(M0 _)⟩,trivial⟩)),hM1⟩
   ·exact P1 m18 ⟨x21,(IntKind.i64.wrap (u15+1)),wu16,u16,rfl,rfl,(sX13.trans sx23),ix21,(M0 _),(F2.up (r:=Wp.int.toRp) sx23 fu16),hM1⟩
  ·obtain rfl:=oJ hM1
   try dsimp only[S0,U0]at hM0
   intro v32 k33 f34
   obtain⟨az35,cz35,rfl,rz35,sz35,lz35⟩:=Y0.out (r:=Wp.int.toRp) f34 fu16
   refine Or.inl ?_
   intro v36 k37 f38
   obtain⟨az39,cz39,rfl,rz39,sz39,lz39⟩:=Y0.out (r:=J0.toRp) f38 (show F2 (J0.R k33) ([[.slice az35 u16.length cz35]]:List (List Value)) [u16] from⟨rz35,trivial⟩)
   refine trM hM0 (t06 _ _ _ _ _ rz39) ?_
   rintro x40 hM0 v42 k41 ⟨ax40,nx40,cx40,rfl,wx40⟩
   have sx40:Sub k37 k41:=wx40.sub
   have rx40:=wx40.r
   obtain⟨rfl,lx40⟩:=Sl.len rx40
   obtain rfl:=oJ hM0
   exact⟨ax40,x40.length,cx40,rfl,(New.from wx40 ((((sx7.trans sx10).trans sX13).trans sz35).trans sz39))⟩
def y0c(h:Hp)(ah:List Value)(ar:j0)(bg:F1.R h ah ar)(r:j0×Bool)(f:a00 ar=some r): Tr Tryz.prog 234 #[.agg ah.toArray] h λv h'=>∃(ag:List Value),v = .tuple #[.agg ag.toArray,.bool r.2]/\New F1 h h' ag r.1:=by
 obtain⟨J,K,bC,bG,L,rfl,rfl,w,x,y,b2⟩:=opG bg;unfold a00 at f;dsimp only at f;refine wk Tryz.f234 ?_;refine trV f (s02 _ _ _ (D0 w x y)) λcw f=>?_;refine ifB f (λa0 f=>?_) λa0 f=>?_;·cases f;exact⟨_,rfl,(nP (nI (show H0 (0) from(oD))) (nP (nI (show H0 (0) from(oD))) ((New.nilSlice (r:=C1)).mono sr)))⟩
 refine trM f (F5 _ _ _ (D0 w x y)) ?_;rintro bA f cu be ⟨bO,cb,bK,rfl,P⟩;have bs:Sub h be:=P.sub;have av:=P.r;obtain⟨cy,cz,cA⟩:=bA;dsimp only at f P av;obtain⟨_,_,_,_,_,_,aA,aF,a6,ba,bj⟩:=Z0 av;cases aA;cases aF;obtain⟨rfl,b6⟩:=sL bj;try dsimp only at f
 have bv:=nD (nD (P));obtain⟨af,aX,f⟩:=B0 f;refine eX { vars:=[5],boxes:=[2] } (eX (λvs os h'=>∃ u8 F A U Y W S M,vs.tail = [iV u8,iV F,iV A,.slice (some ⟨U,Y,none⟩) W S]/\os = []/\Sub h h'/\H0 u8/\H0 F/\H0 A/\New N0 h h' [.slice (some ⟨U,Y,none⟩) W S] M/\Q5 J K L (E1 vs) u8 F A M=some af) (eX (λ_ _=>0) (aI (eX P0 ⟨_,_,_,_,_,_,_,_,rfl,rfl,bs,oD,a6,ba,bv,aX⟩) ?_)));rintro _ _ _ _ H G ⟨u8,F,A,U,Y,W,S,M,⟨⟩,⟨⟩,z,am,an,aj,aw,d⟩;replace d:Q5 J K L H u8 F A M=some af:=d;obtain _|H:=H;·cases d
 rw[Q5.eq_2]at d;have au:=aw.r;obtain⟨rfl,b3⟩:=sL au;refine ifB d (λaZ d=>?_) λaZ d=>?_
 ·obtain⟨ad,aV,d⟩:=B0 d;refine eX { vars:=[8],owns:=[0,1] } (eX (λvs os h'=>∃ e s p O q,vs.tail = [iV e]/\os = [s,O]/\Sub G h'/\H0 e/\F2 (Wp.int.R h') s p/\F2 (Wp.int.R h') O q/\Q3 K J L u8 (E1 vs) e p q=some ad) (eX (λ_ _=>0) (aI (eX P0 ⟨_,_,_,_,_,rfl,rfl,sr,oD,(show F2 (Wp.int.R G) ([]:LV) ([]:I0) from trivial),(show F2 (Wp.int.R G) ([]:LV) ([]:I0) from trivial),aV⟩) ?_)));rintro _ s O o n ⟨e,cC,p,cD,q,⟨⟩,⟨⟩,j,g,m,i,b⟩;replace b:Q3 K J L u8 o e p q=some ad:=b;obtain _|o:=o;·cases b
  rw[Q3.eq_2]at b;refine ifB b (λa1 b=>?_) λa1 b=>?_
  ·refine trV b (c9 _ _ _ (D0 w x (N0.mono (z.trans j) y)) _ g _ am) λbx b=>?_;obtain⟨ce,aK,b⟩:=B0 b;have bR:H0 bx:=F0 aK;refine ifB b (λa2 b=>?_) λa2 b=>?_
   ·obtain⟨cf,aL,b⟩:=B0 b;refine aI (G1 aL (by first|rw[fL m,fL (show F2 (Wp.int.R n) ([[iV e]]:LV) [e] from⟨⟨rfl,g⟩,trivial⟩)]|exact congrArg (·+1) (fL m))) ?_;refine trV b (c9 _ _ _ (D0 w x (N0.mono (z.trans j) y)) _ g (i64.wrap (0-u8)) (M0 _)) λbz b=>?_;obtain⟨cg,aM,b⟩:=B0 b;have bS:H0 bz:=F0 aM;refine ifB b (λa3 b=>?_) λa3 b=>?_;·obtain⟨ch,aN,b⟩:=B0 b;refine aI (G1 aN (by first|rw[fL i,fL (show F2 (Wp.int.R n) ([[iV e]]:LV) [e] from⟨⟨rfl,g⟩,trivial⟩)]|exact congrArg (·+1) (fL i))) ?_;exact P1 o ⟨_,_,_,_,_,rfl,rfl,j,(M0 _),(fA m (show F2 (Wp.int.R n) ([[iV e]]:LV) [e] from⟨⟨rfl,g⟩,trivial⟩)),(fA i (show F2 (Wp.int.R n) ([[iV e]]:LV) [e] from⟨⟨rfl,g⟩,trivial⟩)),b⟩
    exact P1 o ⟨_,_,_,_,_,rfl,rfl,j,(M0 _),(fA m (show F2 (Wp.int.R n) ([[iV e]]:LV) [e] from⟨⟨rfl,g⟩,trivial⟩)),i,b⟩
   refine trV b (c9 _ _ _ (D0 w x (N0.mono (z.trans j) y)) _ g (i64.wrap (0-u8)) (M0 _)) λbB b=>?_;obtain⟨ci,aO,b⟩:=B0 b;have bU:H0 bB:=F0 aO;refine ifB b (λa4 b=>?_) λa4 b=>?_;·obtain⟨cj,aP,b⟩:=B0 b;refine aI (G1 aP (by first|rw[fL i,fL (show F2 (Wp.int.R n) ([[iV e]]:LV) [e] from⟨⟨rfl,g⟩,trivial⟩)]|exact congrArg (·+1) (fL i))) ?_;exact P1 o ⟨_,_,_,_,_,rfl,rfl,j,(M0 _),m,(fA i (show F2 (Wp.int.R n) ([[iV e]]:LV) [e] from⟨⟨rfl,g⟩,trivial⟩)),b⟩
   exact P1 o ⟨_,_,_,_,_,rfl,rfl,j,(M0 _),m,i,b⟩
  cases b;try dsimp only[S0,U0]at d
  obtain⟨bf,aJ,d⟩:=B0 d;obtain rfl:s.length=bf:=(fL m).trans (oJ aJ);obtain⟨ck,bN,d⟩:=B0 d;obtain⟨ae,aW,d⟩:=B0 d;refine eX { vars:=[59],boxes:=[2] } (eX (λvs os h'=>∃ C D E V Z X T N,vs.tail = [iV C,iV D,iV E,.slice (some ⟨V,Z,none⟩) X T]/\os = []/\Sub h h'/\H0 C/\H0 D/\H0 E/\New N0 h h' [.slice (some ⟨V,Z,none⟩) X T] N/\P5 (s).length p q u8 (E1 vs) C D E N=some ae) (eX (λ_ _=>0) (aI (eX P0 ⟨_,_,_,_,_,_,_,_,rfl,rfl,(z.trans j),oD,an,aj,(New.mono aw j),aW⟩) ?_)));rintro _ _ _ _ I ao ⟨C,D,E,V,Z,X,T,N,⟨⟩,⟨⟩,bq,bQ,ak,al,aa,b⟩;replace b:P5 (s).length p q u8 I C D E N=some ae:=b;obtain _|I:=I;·cases b
  rw[P5.eq_2]at b;have bh:=aa.r;obtain⟨rfl,b4⟩:=sL bh;refine ifB b (λa5 b=>?_) λa5 b=>?_
  ·refine w5 13 ?_;obtain⟨t,aR,b⟩:=B0 b;obtain⟨ay,bH,aB,bk⟩:=S3 (show F2 (Wp.int.R ao) s p from m) aR;obtain⟨rfl,bb⟩:=bk;refine Or.inl ?_;apply eX;refine aI ?_ ?_;·intro bV cm;exact aI ay r3
   refine pm (.val (iV t)) ?_ ?_;·intro bW cn;exact eX _ (aI aB r3)
   obtain⟨u,aS,b⟩:=B0 b;obtain⟨az,bI,aC,bl⟩:=S3 (show F2 (Wp.int.R ao) O q from i) aS;obtain⟨rfl,bc⟩:=bl;refine Or.inl ?_;apply eX;refine aI ?_ ?_;·intro bX co;exact aI az r3
   refine pm (.val (iV u)) ?_ ?_;·intro bY cp;exact eX _ (aI aC r3)
   refine pm (.agg [.val (iV t),.val (iV u8),.val (iV u)]) ?_ ?_;·intro bZ cq;exact r3
   obtain⟨Q,aU,b⟩:=B0 b;refine fS N0 Q ?_ ?_;·intro ap cr;have aD:[(t,u8,u)]=Q:=oJ aU;intro v k hf;obtain⟨a,c,rfl,r,br,l⟩:=Y0.out (r:=C1.toRp) (xs:=Q) hf (show F2 (C1.R ap) [[iV t,iV u8,iV u]] Q from aD▸(show F2 (C1.R ap) [[iV t,iV u8,iV u]] [(t,u8,u)] from⟨(N1 bb am bc),trivial⟩));exact aI ⟨rfl,rfl,rfl,[_],rfl⟩ (aI br ⟨a,c,rfl,r,l⟩)
   intro b0 bp;rintro _ ⟨bE,bL,rfl,bn,b7⟩;obtain⟨bt,aG,ai⟩:=Sl.rows (r:=C1.toRp) bn;refine eX bt (aI aG ?_);obtain⟨cl,aQ,b⟩:=B0 b;obtain⟨bu,bm,aq,ax⟩:=New.app aa bp;refine eX bu (aI bm (aI (G1 aQ (by first|rw[aq,fL ai]|(rw[aq];rfl))) ?_));intro cv b1 aY;obtain⟨ac,bP,cd,cc,bM,rfl⟩:=ax _ _ _ _ _ (F3.ofPlain (U08 _) ai) G4.ofPlain aY;have bo:=ac.r;obtain⟨aH,b8⟩:=sL bo;subst aH;exact P1 I ⟨_,_,_,_,_,_,_,_,rfl,rfl,ac.sub,(M0 _),ak,al,ac,b⟩
  cases b;try dsimp only[S0,U0]at d
  exact P1 H ⟨_,_,_,_,_,_,_,_,rfl,rfl,bq,(M0 _),ak,al,aa,d⟩
 cases d;try dsimp only[S0,U0]at f
 refine trM f (n05 _ _ _ _ _ au) ?_;rintro cx f ct bd ⟨bD,ca,bJ,rfl,ab⟩;have cs:Sub G bd:=ab.sub;have bi:=ab.r;obtain⟨rfl,b5⟩:=sL bi;cases f;exact⟨_,rfl,(nP (nI an) (nP (nI aj) (New.from ab z)))⟩
def z0c(h:Hp)(H:List Value)(M:j0)(an:F1.R h H M)(E:Option Addr)(L F:Nat)(d:M1)(x:T1.R h [.slice E L F] d)(r:j0×Bool)(b:b00 M d=some r): Tr Tryz.prog 181 #[.agg H.toArray,.slice E L F] h λv h'=>∃(G:List Value),v = .tuple #[.agg G.toArray,.bool r.2]/\New F1 h h' G r.1:=by
 obtain⟨N,O,ay,aF,P,rfl,rfl,k,t,w,aW⟩:=opG an;obtain⟨rfl,aX⟩:=sL x;unfold b00 at b;dsimp only at b;refine wk Tryz.f181 ?_;refine trV b (m00 _ _ _ (D0 k t w)) λbe b=>?_;refine ifB b (λaa b=>?_) λaa b=>?_;·cases b;exact⟨_,rfl,(nP (nI (show H0 (0) from(oD))) (nP (nI (show H0 (0) from(oD))) ((New.nilSlice (r:=C1)).mono sr)))⟩
 obtain⟨D,X,b⟩:=B0 b;refine eX { vars:=[26] } (eX (λvs os h'=>∃ j,vs.tail = [iV j]/\os = []/\Sub h h'/\H0 j/\R5 d N O P (E1 vs) j=some D) (eX (λ_ _=>0) (aI (eX P0 ⟨_,rfl,rfl,sr,oD,X⟩) ?_)));rintro _ m am ⟨j,⟨⟩,⟨⟩,c,aS,a⟩;replace a:R5 d N O P m j=some D:=a;obtain _|m:=m;·cases a
 rw[R5.eq_2]at a;refine ifB a (λad a=>?_) λad a=>?_
 ·refine ld a (T1.mono c x) λbv aL z a=>?_;obtain⟨aD,aQ,rfl,a3⟩:=slL z;refine trV a (l00 _ _ k _ _ _ _ z) λbx a=>?_;refine trG a (λq=>V08 _ _ _ (D0 k t (N0.mono c w)) _ _ _ _ z) λbf a=>?_;refine ifB a (λY a=>?_) λY a=>?_
  ·cases a;try dsimp only[M2,P2]at b
   cases b;exact⟨_,rfl,(nP (nI (show H0 (0) from(oD))) (nP (nI (show H0 (0) from(oD))) ((New.nilSlice (r:=C1)).mono c)))⟩
  exact P1 m ⟨_,rfl,rfl,c,(M0 _),a⟩
 cases a;try dsimp only[S0,U0]at b
 obtain⟨C,W,b⟩:=B0 b;refine eX { vars:=[45],boxes:=[2] } (eX (λvs os h'=>∃ f g i p u s n,vs.tail = [iV f,iV g,iV i,.slice p u s]/\os = []/\Sub am h'/\H0 f/\H0 g/\H0 i/\N0.R h' [.slice p u s] n/\n7 d (E1 vs) f g i n=some C) (eX (λ_ _=>0) (aI (eX P0 ⟨_,_,_,_,_,_,_,rfl,rfl,sr,oD,k,t,(N0.mono c w),W⟩) ?_)));rintro _ _ _ _ l ak ⟨f,g,i,p,u,s,n,⟨⟩,⟨⟩,e,aR,I,J,y,a⟩;replace a:n7 d l f g i n=some C:=a;obtain _|l:=l;·cases a
 rw[n7.eq_2]at a;obtain⟨rfl,aY⟩:=sL y;refine ifB a (λZ a=>?_) λZ a=>?_
 ·refine ld a (T1.mono (c.trans e) x) λbg aG Q a=>?_;obtain⟨az,aM,rfl,aZ⟩:=slL Q;refine trM a (m0l _ _ _ (D0 I J y) _ _ _ _ Q) ?_;rintro av a ba aV ⟨aH,rfl,S,T⟩;obtain⟨bh,aw,bl⟩:=av;dsimp only at a S;obtain⟨bi,bj,aA,aN,bk,rfl,rfl,ae,af,ao,a0⟩:=opG S;try dsimp only at a
  obtain⟨a4,V,a⟩:=B0 a;have aU:H0 aw:=F0 V;refine ifB a (λab a=>?_) λab a=>?_
  ·cases a;try dsimp only[M2,P2]at b
   cases b;exact⟨_,rfl,(nP (nI (show H0 (0) from(oD))) (nP (nI (show H0 (0) from(oD))) ((New.nilSlice (r:=C1)).mono ((c.trans e).trans T))))⟩
  exact P1 l ⟨_,_,_,_,_,_,_,rfl,rfl,(e.trans T),(M0 _),ae,af,ao,a⟩
 cases a;try dsimp only[S0,U0]at b
 refine trM b (y0c _ _ _ (D0 I J y)) ?_;rintro ax b bb K ⟨aJ,rfl,o⟩;obtain⟨bm,bq⟩:=ax;dsimp only at b o;have U:Sub ak K:=o.sub;have ap:=o.r;obtain⟨bn,bo,aB,aO,bp,rfl,rfl,ag,ah,aq,a1⟩:=opG ap;try dsimp only at b
 have bd:=nD (nD (o));refine ifB b (λac b=>?_) λac b=>?_;·cases b;exact⟨_,rfl,(nP (nI (show H0 (0) from(oD))) (nP (nI (show H0 (0) from(oD))) ((New.nilSlice (r:=C1)).mono ((c.trans e).trans U))))⟩
 refine trM b (q0a _ _ _ (D0 ag ah aq)) ?_;rintro br b bc al ⟨aK,rfl,A⟩;have a6:Sub K al:=A.sub;have ar:=A.r;obtain⟨bs,bt,aC,aP,bu,rfl,rfl,ai,aj,a5,a2⟩:=opG ar;try dsimp only at b
 have au:=nD (nD (A));cases b;exact⟨_,rfl,(nP (nI ai) (nP (nI aj) (New.from au ((c.trans e).trans U))))⟩
def t0d(h:Hp)(g:List Value)(j:j0)(t:F1.R h g j)(d:Option Addr)(i e:Nat)(b:I0)(k:J0.R h [.slice d i e] b)(r:j0×Bool)(a:M8 j b=some r): Tr Tryz.prog 116 #[.agg g.toArray,.slice d i e] h λv h'=>∃(f:List Value),v = .tuple #[.agg f.toArray,.bool r.2]/\New F1 h h' f r.1:=by
 obtain⟨M,N,A,E,O,rfl,rfl,m,n,u,I⟩:=opG t;obtain⟨rfl,J⟩:=sL k;unfold M8 at a;dsimp only at a;refine wk Tryz.f116 ?_;refine Or.inl ?_;intro S q f3;obtain⟨D,H,rfl,x,l,L⟩:=Y0.out (r:=J0.toRp) f3 (show F2 (J0.R h) ([[.slice d b.length e]]:LV) [b] from⟨k,trivial⟩);refine trM a (z0c _ _ _ (D0 m n (N0.mono l u)) _ _ _ _ x) ?_;rintro z a T s ⟨F,rfl,c⟩;obtain⟨U,Y⟩:=z;dsimp only at a c;have Q:Sub q s:=c.sub;have w:=c.r;obtain⟨V,W,C,G,X,rfl,rfl,o,p,P,K⟩:=opG w;try dsimp only at a
 have y:=nD (nD (c));cases a;exact⟨_,rfl,(nP (nI o) (nP (nI p) (New.from y l)))⟩
def p0h(h:Hp)(g:Int)(ax:H0 g)(i:Int)(z:H0 i)(E:Option Addr)(L G:Nat)(p2:M1)(A:T1.R h [.slice E L G] p2)(F:Option Addr)(M H:Nat)(N:I0)(u:J0.R h [.slice F M H] N)(r:j6×Bool)(a:m03 g i p2 N=some r): Tr Tryz.prog 130 #[iV g,iV i,.slice E L G,.slice F M H] h λv h'=>∃(I:List Value),v = .tuple #[.agg I.toArray,.bool r.2]/\S4.R h' I r.1/\Sub h h':=by
 obtain⟨rfl,bf⟩:=sL A;obtain⟨rfl,bg⟩:=sL u;unfold m03 at a;refine wk Tryz.f130 ?_;refine trM a (w06 _ _ z _ _ _ _ A) ?_;rintro aW a bp d ⟨a2,rfl,C⟩;obtain⟨bq,br⟩:=aW;dsimp only at a C;have c:Sub h d:=C.sub;have aM:=C.r;obtain⟨V,W,X,ac,x,rfl,rfl,J,K,O,aG⟩:=opG aM;try dsimp only at a
 refine trG a (λq=>l00 _ _ z _ _ _ _ (J0.mono c u)) λbu a=>?_;refine ifB a (λaw a=>?_) λaw a=>?_;·cases a;exact⟨_,rfl,(W7 oD oD (z09 J0 d) (z09 Wp.int d) (z09 Wp.int d) oD oD (z09 C1 d) oD),c⟩
 refine w5 9 ?_;obtain⟨k,aq,a⟩:=B0 a;refine fS T1 k ?_ ?_;·intro be aV;refine Tr.mono (r0a _ _ _ _ _ (T1.mono (c.trans aV) A) _ aq) ?_;rintro _ aF ⟨Y,bm,ad,rfl,T⟩;have b:=T.sub;have Q:=T.r;obtain⟨rfl,aH⟩:=sL Q;exact aI E6 (aI b ⟨Y,ad,rfl,Q,aH⟩)
 obtain⟨l,ar,a⟩:=B0 a;refine fS J0 l ?_ ?_;·intro bc aS;refine Tr.mono (C01 _ _ _ _ _ (J0.mono (c.trans aS) u) _ ar) ?_;rintro _ aF ⟨Z,bn,ae,rfl,U⟩;have b:=U.sub;have S:=U.r;obtain⟨rfl,aJ⟩:=sL S;exact aI E6 (aI b ⟨(some ⟨Z,0,none⟩),ae,rfl,S,aJ⟩)
 refine Or.inr (eX (λv y=>∃(m:Option Addr) (p:Nat) (n:Option Addr) (s:Nat) (o:Option Addr) (t:Nat),v = .agg #[iV g,iV i,.slice m k.length p,.slice n l.length s,.slice none 0 0,iV V,iV W,.slice o x.length t,iV 0]/\H0 g/\H0 i/\T1.R y [.slice m k.length p] k/\k.length<=9223372036854775807/\J0.R y [.slice n l.length s] l/\l.length<=9223372036854775807/\H0 V/\H0 W/\N0.R y [.slice o x.length t] x/\x.length<=9223372036854775807/\H0 0) (aI (λv ba bb b q=>by obtain⟨m,p,n,s,o,t,e,ah,ai,f2,f3,ak,al,am,an,ao,ap,aj⟩:=q;exact⟨m,p,n,s,o,t,e,ah,ai,T1.mono b f2,f3,J0.mono b ak,al,am,an,N0.mono b ao,ap,aj⟩) (aI ?_ ?_)));·intro bd aU;rintro _ ⟨aa,af,rfl,aN,aK⟩;rintro _ ⟨ab,ag,rfl,aO,aL⟩;exact aI E6 (aI sr ⟨aa,af,ab,ag,X,ac,rfl,ax,z,aN,aK,aO,aL,J,K,(N0.mono aU O),aG,oD⟩)
 intro aD w;rintro _ ⟨aZ,a4,a0,a5,a1,a6,rfl,ay,az,aP,bi,aQ,bj,aA,aB,aR,bk,aC⟩;rintro _ _;rintro _ _;refine ifB a (λau a=>?_) λau a=>?_
 ·refine trM a (s0a _ _ _ (D0 J K (N0.mono w O)) _ _ _ _ (J0.mono (c.trans w) u)) ?_;rintro aX a bo f ⟨aY,bl,a3,rfl,D⟩;obtain⟨bs,bt⟩:=aX;dsimp only at a D;have j:Sub aD f:=D.sub;have P:=D.r;obtain⟨rfl,bh⟩:=sL P;refine ifB a (λav a=>?_) λav a=>?_;·cases a;exact⟨_,rfl,(W7 oD oD (z09 J0 f) (z09 Wp.int f) (z09 Wp.int f) oD oD (z09 C1 f) oD),((c.trans w).trans j)⟩
  cases a;exact⟨_,rfl,(W7 ay az (T1.mono j aP) (J0.mono j aQ) P aA aB (N0.mono j aR) aC),((c.trans w).trans j)⟩
 cases a
def A0c(h:Hp)(w:List Value)(y:j0)(aa:F1.R h w y)(t:Option Addr)(x u:Nat)(D:I0)(E:J0.R h [.slice t x u] D)(r:Int)(a:o03 y D=some r): Tr Tryz.prog 118 #[.agg w.toArray,.slice t x u] h λv h'=>v=iV r/\h'=h:=by
 obtain⟨z,A,ah,al,C,rfl,rfl,i,k,l,av⟩:=opG aa;obtain⟨rfl,aw⟩:=sL E;unfold o03 at a;dsimp only at a;refine wkF Tryz.f118 ?_;refine trM a (E02 _ _ _ _ _ E) ?_;rintro aL a aK Y ⟨ai,aA,am,rfl,F⟩;have c:Sub h Y:=F.sub;have m:=F.r;obtain⟨rfl,ax⟩:=sL m;refine trV a (m00 _ _ _ (D0 i k (N0.mono c l))) λaM a=>?_;refine trG a (λq=>l00 _ _ i _ _ _ _ m) λaN a=>?_;refine ifB a (λT a=>?_) λT a=>?_;·cases a;exact aI rfl c
 refine ifB a (λU a=>?_) λU a=>?_;·cases a;exact aI rfl c
 refine trM a (f0g _ _ _ _ _ m) ?_;rintro ag a aJ Z ⟨aj,aB,an,ak,aC,ao,rfl,n,o,e⟩;obtain⟨G,aO⟩:=ag;dsimp only at a n o;obtain⟨rfl,ay⟩:=sL n;obtain⟨rfl,az⟩:=sL o;obtain⟨ab,L,a⟩:=B0 a;obtain⟨p,ac⟩:=ab;try dsimp only at a
 refine Tr.val (l04 _ _ _ (D0 i k (N0.mono (c.trans e) l)) 0 oD _ _ _ _ o _  L) ?_;obtain⟨aD,H,a⟩:=B0 a;have W:H0 p:=F0 H;obtain⟨aF,I,a⟩:=B0 a;have aq:H0 ac:=F0 I;refine ifB a (λO a=>?_) λO a=>?_;·cases a;exact aI rfl (c.trans e)
 obtain⟨s,N,a⟩:=B0 a;refine eX { vars:=[10,11] } (eX (λvs os h'=>∃ f g,vs.tail = [iV f,iV g]/\os = []/\Sub Z h'/\H0 f/\H0 g/\d00 A z C G p (E1 vs) f g=some s) (eX (λ_ _=>0) (aI (eX P0 ⟨_,_,rfl,rfl,sr,W,oD,N⟩) ?_)));rintro _ _ j au ⟨f,g,⟨⟩,⟨⟩,d,V,ap,b⟩;replace b:d00 A z C G p j f g=some s:=b;obtain _|j:=j;·cases b
 rw[d00.eq_2]at b;refine ifB b (λP b=>?_) λP b=>?_
 ·obtain⟨ad,M,b⟩:=B0 b;obtain⟨ae,af⟩:=ad;try dsimp only at b
  refine Tr.val (l04 _ _ _ (D0 i k (N0.mono ((c.trans e).trans d) l)) _ V _ _ _ _ (J0.mono d n) _  M) ?_;obtain⟨aG,J,b⟩:=B0 b;have X:H0 ae:=F0 J;obtain⟨aH,K,b⟩:=B0 b;have ar:H0 af:=F0 K;refine ifB b (λQ b=>?_) λQ b=>?_
  ·cases b;try dsimp only[M2,P2]at a
   cases a;exact aI rfl ((c.trans e).trans d)
  refine ifB b (λS b=>?_) λS b=>?_
  ·cases b;try dsimp only[M2,P2]at a
   cases a;exact aI rfl ((c.trans e).trans d)
  exact P1 j ⟨_,_,rfl,rfl,d,X,(M0 _),b⟩
 cases b;try dsimp only[S0,U0]at a
 cases a;exact aI rfl ((c.trans e).trans d)
def g0g(h:Hp)(w:List Value)(y:j0)(al:F1.R h w y)(t:Option Addr)(x u:Nat)(z:I0)(e:J0.R h [.slice t x u] z)(r:BA)(a:Y8 y z=some r): Tr Tryz.prog 65 #[.agg w.toArray,.slice t x u] h λv h'=>v = .string r/\h'=h:=by
 obtain⟨bd,be,aC,aL,bf,rfl,rfl,d,f,g,a1⟩:=opG al;obtain⟨rfl,a2⟩:=sL e;unfold Y8 at a;dsimp only at a;refine wkF Tryz.f65 ?_;refine trV a (m00 _ _ _ (D0 d f g)) λbD a=>?_;refine trG a (λq=>l00 _ _ d _ _ _ _ e) λbK a=>?_;refine ifB a (λX a=>?_) λX a=>?_;·cases a;exact aI rfl sr
 refine trM a (s0a _ _ _ (D0 d f g) _ _ _ _ e) ?_;rintro az a bC j ⟨aF,bc,aO,rfl,l⟩;obtain⟨bL,bM⟩:=az;dsimp only at a l;have b:Sub h j:=l.sub;have A:=l.r;obtain⟨rfl,a4⟩:=sL A;refine ifB a (λaa a=>?_) λaa a=>?_;·refine trV a (u07 _ _ _ _ _ A) λs a=>?_;obtain⟨bq,Q,a⟩:=B0 a;have ak:s.size<=9223372036854775807:=F0 Q;refine Or.inr ?_;intro bv aX C;obtain⟨aG,aP,rfl,ao,br,a5⟩:=Y0.out (r:=Wp.str.toRp) C (show F2 (Wp.str.R j) ([[.string (⟨#[105,110,32,97,115]⟩:BA)],[.string s]]:LV) [(⟨#[105,110,32,97,115]⟩:BA),s] from⟨⟨rfl,oD⟩,⟨⟨rfl,ak⟩,trivial⟩⟩);obtain⟨au,S,a⟩:=B0 a;refine Tr.val (w07 _ _ _ _ _ ao _  S) (aI rfl ?_);obtain⟨bg,G,a⟩:=B0 a;have aU:au.size<=9223372036854775807:=F0 G;cases a;exact aI rfl b
 refine trM a (t0d _ _ _ (D0 d f (N0.mono b g)) _ _ _ _ (J0.mono b e)) ?_;rintro av a bx i ⟨aM,rfl,k⟩;obtain⟨bE,bJ⟩:=av;dsimp only at a k;have c:Sub j i:=k.sub;have am:=k.r;obtain⟨bG,bH,aD,aN,bI,rfl,rfl,ab,ac,an,a3⟩:=opG am;try dsimp only at a
 refine ifB a (λW a=>?_) λW a=>?_
 ·refine trV a (R0k _ _ _ (D0 ab ac an)) λaw a=>?_;obtain⟨bh,H,a⟩:=B0 a;have ad:H0 aw:=F0 H;refine trV a (i4 _ _ ad) λm a=>?_;obtain⟨bi,I,a⟩:=B0 a;have ae:m.size<=9223372036854775807:=F0 I;refine Or.inr ?_;intro bz aY D;obtain⟨aH,aQ,rfl,ap,bs,a6⟩:=Y0.out (r:=Wp.str.toRp) D (show F2 (Wp.str.R i) ([[.string (⟨#[111,117,116]⟩:BA)],[.string (⟨#[98,121,32,105,110,100,101,120]⟩:BA)],[.string m]]:LV) [(⟨#[111,117,116]⟩:BA),(⟨#[98,121,32,105,110,100,101,120]⟩:BA),m] from⟨⟨rfl,oD⟩,⟨⟨rfl,oD⟩,⟨⟨rfl,ae⟩,trivial⟩⟩⟩);obtain⟨n,T,a⟩:=B0 a;refine Tr.val (w07 _ _ _ _ _ ap _  T) (aI rfl ?_);obtain⟨bj,J,a⟩:=B0 a;have af:n.size<=9223372036854775807:=F0 J;refine trV a (A0c _ _ _ (D0 d f (N0.mono (b.trans c) g)) _ _ _ _ (J0.mono (b.trans c) e)) λax a=>?_;obtain⟨bk,K,a⟩:=B0 a;have ag:H0 ax:=F0 K;refine ifB a (λY a=>?_) λY a=>?_;·refine trV a (i4 _ _ ag) λo a=>?_;obtain⟨bl,L,a⟩:=B0 a;have ah:o.size<=9223372036854775807:=F0 L;refine Or.inr ?_;intro bA aZ E;obtain⟨aJ,aR,rfl,aq,bt,ba⟩:=Y0.out (r:=Wp.str.toRp) E (show F2 (Wp.str.R i) ([[.string n],[.string (⟨#[112,111,119,101,114]⟩:BA)],[.string o]]:LV) [n,(⟨#[112,111,119,101,114]⟩:BA),o] from⟨⟨rfl,af⟩,⟨⟨rfl,oD⟩,⟨⟨rfl,ah⟩,trivial⟩⟩⟩);obtain⟨ay,U,a⟩:=B0 a;refine Tr.val (w07 _ _ _ _ _ aq _  U) (aI rfl ?_);obtain⟨bm,M,a⟩:=B0 a;have aV:ay.size<=9223372036854775807:=F0 M;cases a;exact aI rfl (b.trans c)
  cases a;exact aI rfl (b.trans c)
 refine trV a (A0c _ _ _ (D0 d f (N0.mono (b.trans c) g)) _ _ _ _ (J0.mono (b.trans c) e)) λaA a=>?_;obtain⟨bn,N,a⟩:=B0 a;have ai:H0 aA:=F0 N;refine ifB a (λZ a=>?_) λZ a=>?_;·refine trV a (i4 _ _ ai) λp a=>?_;obtain⟨bo,O,a⟩:=B0 a;have aj:p.size<=9223372036854775807:=F0 O;refine Or.inr ?_;intro bB a0 F;obtain⟨aK,aS,rfl,ar,bu,bb⟩:=Y0.out (r:=Wp.str.toRp) F (show F2 (Wp.str.R i) ([[.string (⟨#[111,117,116]⟩:BA)],[.string (⟨#[112,111,119,101,114]⟩:BA)],[.string p]]:LV) [(⟨#[111,117,116]⟩:BA),(⟨#[112,111,119,101,114]⟩:BA),p] from⟨⟨rfl,oD⟩,⟨⟨rfl,oD⟩,⟨⟨rfl,aj⟩,trivial⟩⟩⟩);obtain⟨aB,V,a⟩:=B0 a;refine Tr.val (w07 _ _ _ _ _ ar _  V) (aI rfl ?_);obtain⟨bp,P,a⟩:=B0 a;have aW:aB.size<=9223372036854775807:=F0 P;cases a;exact aI rfl (b.trans c)
 cases a;exact aI rfl (b.trans c)
def s0i(h:Hp)(b:Int)(r:Int)(a:p05 b=some r): Tr Tryz.prog 110 #[.int .u8 b] h λv h'=>v=iV r/\h'=h:=by
 unfold p05 at a;refine wkF Tryz.f110 ?_;refine ifB a (λc a=>?_) λc a=>?_;·cases a;exact aI rfl sr
 refine ifB a (λd a=>?_) λd a=>?_;·cases a;exact aI rfl sr
 cases a;exact aI rfl sr
def t0i(h:Hp)(c:BA)(ab:c.size<=9223372036854775807)(r:Int×Bool)(a:L03 c=some r): Tr Tryz.prog 55 #[.string c] h λv h'=>v = .tuple #[iV r.1,.bool r.2]/\h'=h:=by
 unfold L03 at a;refine wkF Tryz.f55 ?_;obtain⟨U,u,a⟩:=B0 a;refine eX U (aI (λq=>U02 (N7 u q)) ?_);refine ifB a (λJ a=>?_) λJ a=>?_
 ·refine trV a (U3 _ (i64.wrap (((c.size:Nat):Int)-1)) (M0 _) 1 oD 9 oD) λaq a=>?_;refine ifB a (λM a=>?_) λM a=>?_;·cases a;exact aI rfl sr
  obtain⟨n,E,a⟩:=B0 a;refine eX { vars:=[5,6] } (eX (λvs os h'=>∃ g j,vs.tail = [iV g,iV j]/\os = []/\Sub h h'/\H0 g/\H0 j/\P7 c (E1 vs) g j=some n) (eX (λ_ _=>0) (aI (eX P0 ⟨_,_,rfl,rfl,sr,oD,oD,E⟩) ?_)));rintro _ _ l aj ⟨g,j,⟨⟩,⟨⟩,e,T,ad,b⟩;replace b:P7 c l g j=some n:=b;obtain _|l:=l;·cases b
  rw[P7.eq_2]at b;refine ifB b (λF b=>?_) λF b=>?_
  ·obtain⟨ao,w,b⟩:=B0 b;refine eX _ (aI (U02 w) ?_);obtain⟨V,x,b⟩:=B0 b;refine eX V (aI (λq=>U02 (N7 x q)) ?_);refine ifB b (λG b=>?_) λG b=>?_
   ·cases b;try dsimp only[M2,P2]at a
    cases a;exact aI rfl e
   obtain⟨ap,y,b⟩:=B0 b;refine eX _ (aI (U02 y) ?_);exact P1 l ⟨_,_,rfl,rfl,e,(M0 _),(M0 _),b⟩
  cases b;try dsimp only[S0,U0]at a
  refine ifB a (λH a=>?_) λH a=>?_
  ·refine trV a (i4 _ (i64.wrap (0-g)) (M0 _)) λW a=>?_;obtain⟨ak,o,a⟩:=B0 a;have ae:W.size<=9223372036854775807:=F0 o;refine ifB a (λI a=>?_) λI a=>?_;·cases a;exact aI rfl e
   cases a;exact aI rfl e
  refine trV a (i4 _ _ T) λX a=>?_;obtain⟨al,p,a⟩:=B0 a;have af:X.size<=9223372036854775807:=F0 p;refine ifB a (λK a=>?_) λK a=>?_;·cases a;exact aI rfl e
  cases a;exact aI rfl e
 refine trV a (U3 _ (i64.wrap (((c.size:Nat):Int)-0)) (M0 _) 1 oD 9 oD) λar a=>?_;refine ifB a (λL a=>?_) λL a=>?_;·cases a;exact aI rfl sr
 obtain⟨m,D,a⟩:=B0 a;refine eX { vars:=[5,6] } (eX (λvs os h'=>∃ f i,vs.tail = [iV f,iV i]/\os = []/\Sub h h'/\H0 f/\H0 i/\P7 c (E1 vs) f i=some m) (eX (λ_ _=>0) (aI (eX P0 ⟨_,_,rfl,rfl,sr,oD,oD,D⟩) ?_)));rintro _ _ k ai ⟨f,i,⟨⟩,⟨⟩,d,S,ac,b⟩;replace b:P7 c k f i=some m:=b;obtain _|k:=k;·cases b
 rw[P7.eq_2]at b;refine ifB b (λN b=>?_) λN b=>?_
 ·obtain⟨au,z,b⟩:=B0 b;refine eX _ (aI (U02 z) ?_);obtain⟨Y,A,b⟩:=B0 b;refine eX Y (aI (λq=>U02 (N7 A q)) ?_);refine ifB b (λO b=>?_) λO b=>?_
  ·cases b;try dsimp only[M2,P2]at a
   cases a;exact aI rfl d
  obtain⟨av,C,b⟩:=B0 b;refine eX _ (aI (U02 C) ?_);exact P1 k ⟨_,_,rfl,rfl,d,(M0 _),(M0 _),b⟩
 cases b;try dsimp only[S0,U0]at a
 refine ifB a (λP a=>?_) λP a=>?_
 ·refine trV a (i4 _ (i64.wrap (0-f)) (M0 _)) λZ a=>?_;obtain⟨am,s,a⟩:=B0 a;have ag:Z.size<=9223372036854775807:=F0 s;refine ifB a (λQ a=>?_) λQ a=>?_;·cases a;exact aI rfl d
  cases a;exact aI rfl d
 refine trV a (i4 _ _ S) λaa a=>?_;obtain⟨an,t,a⟩:=B0 a;have ah:aa.size<=9223372036854775807:=F0 t;refine ifB a (λR a=>?_) λR a=>?_;·cases a;exact aI rfl d
 cases a;exact aI rfl d
def H0e(h:Hp)(a:BA)(g:a.size<=9223372036854775807)(k:Int)(r:(List BA))(d:B05 a k=some r): Tr Tryz.prog 33 #[.string a,.int .u8 k] h λv h'=>∃(p:Option Addr) (t q:Nat),v = .slice p t q/\New (Wp.slice Wp.str) h h' [.slice p t q] r:=by
 unfold B05 at d;refine wk Tryz.f33 ?_;obtain⟨o,A,d⟩:=B0 d;refine eX { vars:=[6,7],owns:=[0] } (eX (λvs os h'=>∃ c e n l,vs.tail = [iV c,iV e]/\os = [n]/\Sub h h'/\H0 c/\H0 e/\F2 (Wp.str.R h') n l/\K01 a k (E1 vs) c e l=some o) (eX (λ_ _=>0) (aI (eX P0 ⟨_,_,_,_,rfl,rfl,sr,oD,oD,(show F2 (Wp.str.R h) ([]:LV) ([]:(List BA)) from trivial),A⟩) ?_)));rintro _ _ n j i ⟨c,e,T,l,⟨⟩,⟨⟩,m,E,H,f,b⟩;replace b:K01 a k j c e l=some o:=b;obtain _|j:=j;·cases b
 rw[K01.eq_2]at b;refine ifB b (λC b=>?_) λC b=>?_
 ·obtain⟨S,z,b⟩:=B0 b;refine eX _ (aI (U02 z) ?_);refine ifB b (λD b=>?_) λD b=>?_;·obtain⟨K,u,b⟩:=B0 b;refine aI (F0 u) ?_;obtain⟨L,w,b⟩:=B0 b;refine aI (G1 w (by first|rw[fL f,fL (show F2 (Wp.str.R i) ([[.string (a.extract (c:Int).toNat (e:Int).toNat)]]:LV) [(a.extract (c:Int).toNat (e:Int).toNat)] from⟨⟨rfl,(P0b g)⟩,trivial⟩)]|exact congrArg (·+1) (fL f))) ?_;exact P1 j ⟨_,_,_,_,rfl,rfl,m,(M0 _),(M0 _),(fA f (show F2 (Wp.str.R i) ([[.string (a.extract (c:Int).toNat (e:Int).toNat)]]:LV) [(a.extract (c:Int).toNat (e:Int).toNat)] from⟨⟨rfl,(P0b g)⟩,trivial⟩)),b⟩
  exact P1 j ⟨_,_,_,_,rfl,rfl,m,E,(M0 _),f,b⟩
 cases b;try dsimp only[S0,U0]at d
 obtain⟨M,x,d⟩:=B0 d;refine aI (F0 x) ?_;obtain⟨N,y,d⟩:=B0 d;refine aI (G1 y (by first|rw[fL f,fL (show F2 (Wp.str.R i) ([[.string (a.extract (c:Int).toNat ((a.size:Int):Int).toNat)]]:LV) [(a.extract (c:Int).toNat ((a.size:Int):Int).toNat)] from⟨⟨rfl,(P0b g)⟩,trivial⟩)]|exact congrArg (·+1) (fL f))) ?_;intro Q I s;obtain⟨F,G,rfl,O,P,J⟩:=Y0.out (r:=Wp.str.toRp) s (fA f (show F2 (Wp.str.R i) ([[.string (a.extract (c:Int).toNat ((a.size:Int):Int).toNat)]]:LV) [(a.extract (c:Int).toNat ((a.size:Int):Int).toNat)] from⟨⟨rfl,(P0b g)⟩,trivial⟩));cases d;exact⟨_,_,_,rfl,(New.from (Y0.newPlain (r:=Wp.str) s (fA f (show F2 (Wp.str.R i) ([[.string (a.extract (c:Int).toNat ((a.size:Int):Int).toNat)]]:LV) [(a.extract (c:Int).toNat ((a.size:Int):Int).toNat)] from⟨⟨rfl,(P0b g)⟩,trivial⟩)) (R0z _)) m)⟩
def S06(h:Hp)(l:Int)(x:H0 l)(d:BA)(ar:d.size<=9223372036854775807)(r:I0×Bool)(a:J9 l d=some r): Tr Tryz.prog 64 #[iV l,.string d] h λv h'=>∃(p:Option Addr) (z q:Nat),v = .tuple #[.slice p z q,.bool r.2]/\New J0 h h' [.slice p z q] r.1:=by
 unfold J9 at a;refine wk Tryz.f64 ?_;refine ifB a (λS a=>?_) λS a=>?_
 ·obtain⟨o,Q,a⟩:=B0 a;refine eX { vars:=[7],owns:=[0] } (eX (λvs os h'=>∃ e n j,vs.tail = [iV e]/\os = [n]/\Sub h h'/\H0 e/\F2 (Wp.int.R h') n j/\a8 d (E1 vs) e j=some o) (eX (λ_ _=>0) (aI (eX P0 ⟨_,_,_,rfl,rfl,sr,oD,(show F2 (Wp.int.R h) ([]:LV) ([]:I0) from trivial),Q⟩) ?_)));rintro _ n i g ⟨e,bj,j,⟨⟩,⟨⟩,m,au,c,b⟩;replace b:a8 d i e j=some o:=b;obtain _|i:=i;·cases b
  rw[a8.eq_2]at b;refine ifB b (λV b=>?_) λV b=>?_;·obtain⟨aa,P,b⟩:=B0 b;refine eX _ (aI (U02 P) ?_);refine trV b (s0i _ ((aa.toNat:Nat):Int)) λf b=>?_;obtain⟨aP,H,b⟩:=B0 b;have y:H0 f:=F0 H;obtain⟨aQ,I,b⟩:=B0 b;refine aI (G1 I (by first|rw[fL c,fL (show F2 (Wp.int.R g) ([[iV f]]:LV) [f] from⟨⟨rfl,y⟩,trivial⟩)]|exact congrArg (·+1) (fL c))) ?_;exact P1 i ⟨_,_,_,rfl,rfl,m,(M0 _),(fA c (show F2 (Wp.int.R g) ([[iV f]]:LV) [f] from⟨⟨rfl,y⟩,trivial⟩)),b⟩
  cases b;try dsimp only[S0,U0]at a
  refine Or.inr ?_;intro a6 ax D;obtain⟨ab,aj,rfl,W,aY,aG⟩:=Y0.out (r:=Wp.int.toRp) D c;obtain⟨bh,L,a⟩:=B0 a;refine Tr.val (l00 _ _ x _ _ _ _ W _  L) (aI rfl ?_);obtain⟨A,M,a⟩:=B0 a;refine eX (.string A) (aI ?_ ?_);·intro k;intro ba ay E;obtain⟨ac,ak,rfl,X,aZ,aH⟩:=Y0.out (r:=Wp.int.toRp) E c;exact k04 _ _ _ _ _ X _ (N7 M k)
  obtain⟨aR,J,a⟩:=B0 a;have av:A.size<=9223372036854775807:=F0 J;refine ifB a (λT a=>?_) λT a=>?_;·intro bb az s;obtain⟨ad,al,rfl,aU,a0,aJ⟩:=Y0.out (r:=Wp.int.toRp) s (show F2 (Wp.int.R g) ([]:LV) ([]:I0) from trivial);cases a;exact⟨_,_,_,rfl,(New.from (Y0.newPlain (r:=Wp.int) s (show F2 (Wp.int.R g) ([]:LV) ([]:I0) from trivial) (B07 _)) m)⟩
  intro bc aA t;obtain⟨ae,am,rfl,aV,a1,aK⟩:=Y0.out (r:=Wp.int.toRp) t c;cases a;exact⟨_,_,_,rfl,(New.from (Y0.newPlain (r:=Wp.int) t c (B07 _)) m)⟩
 refine Or.inr ?_;intro bd aB F;obtain⟨af,an,rfl,Y,a2,aL⟩:=Y0.out (r:=Wp.int.toRp) F (show F2 (Wp.int.R h) ([]:LV) ([]:I0) from trivial);obtain⟨bi,N,a⟩:=B0 a;refine Tr.val (l00 _ _ x _ _ _ _ Y _  N) (aI rfl ?_);obtain⟨C,O,a⟩:=B0 a;refine eX (.string C) (aI ?_ ?_);·intro k;intro be aC G;obtain⟨ag,ao,rfl,Z,a3,aM⟩:=Y0.out (r:=Wp.int.toRp) G (show F2 (Wp.int.R h) ([]:LV) ([]:I0) from trivial);exact k04 _ _ _ _ _ Z _ (N7 O k)
 obtain⟨aS,K,a⟩:=B0 a;have aw:C.size<=9223372036854775807:=F0 K;refine ifB a (λU a=>?_) λU a=>?_;·intro bf aD u;obtain⟨ah,ap,rfl,aW,a4,aN⟩:=Y0.out (r:=Wp.int.toRp) u (show F2 (Wp.int.R h) ([]:LV) ([]:I0) from trivial);cases a;exact⟨_,_,_,rfl,(Y0.newPlain (r:=Wp.int) u (show F2 (Wp.int.R h) ([]:LV) ([]:I0) from trivial) (B07 _))⟩
 intro bg aF w;obtain⟨ai,aq,rfl,aX,a5,aO⟩:=Y0.out (r:=Wp.int.toRp) w (show F2 (Wp.int.R h) ([]:LV) ([]:I0) from trivial);cases a;exact⟨_,_,_,rfl,(Y0.newPlain (r:=Wp.int) w (show F2 (Wp.int.R h) ([]:LV) ([]:I0) from trivial) (B07 _))⟩
def s09(h:Hp)(j:Int)(s:H0 j)(u:BA)(ab:u.size<=9223372036854775807)(r:M1×Bool)(a:t01 j u=some r): Tr Tryz.prog 59 #[iV j,.string u] h λv h'=>∃(y:Option Addr) (L A:Nat),v = .tuple #[.slice y L A,.bool r.2]/\New T1 h h' [.slice y L A] r.1:=by
 unfold t01 at a;refine wk Tryz.f59 ?_;refine ifB a (λV a=>?_) λV a=>?_
 ·refine trM a (H0e _ _ ab 44) ?_;rintro O a bu K ⟨aF,bd,aQ,rfl,N⟩;have d:Sub h K:=N.sub;have M:=N.r;obtain⟨rfl,a1⟩:=sL M;obtain⟨x,U,a⟩:=B0 a;refine eX { vars:=[17],owns:=[0] } (eX (λvs os h'=>∃ k n e,vs.tail = [iV k]/\os = [n]/\Sub K h'/\H0 k/\F2 (J0.R h') n e/\(∃ Bs,F3 (J0.W h') n e Bs/\G4 h Bs.flatten)/\D7 O j (E1 vs) k e=some x) (eX (λ_ _=>0) (aI (eX P0 ⟨_,_,_,rfl,rfl,sr,oD,(F2.up (r:=J0.toRp) d (show F2 (J0.R h) ([]:LV) ([]:M1) from trivial)),⟨_,(k0f (show F3 (J0.W h) [] [] [] from trivial) d),(G4.nil h)⟩,U⟩) ?_)));rintro _ n l t ⟨k,bB,e,⟨⟩,⟨⟩,c,aZ,g,⟨aO,m,q⟩,b⟩;replace b:D7 O j l k e=some x:=b;obtain _|l:=l;·cases b
  rw[D7.eq_2]at b;refine ifB b (λX b=>?_) λX b=>?_
  ·refine ld b ((Wp.slice Wp.str).mono c M) λbv aP ap b=>?_;obtain⟨rfl,ac⟩:=ap;refine trM b (S06 _ _ s _ ac) ?_;rintro aC b bt i ⟨z,bc,C,rfl,o⟩;obtain⟨p,bx⟩:=aC;dsimp only at b o;have f:Sub t i:=o.sub;have w:=o.r;obtain⟨rfl,a0⟩:=sL w;refine ifB b (λY b=>?_) λY b=>?_
   ·intro au ad D;have ak:New (Wp.slice J0) h ad [au] ([]:M1):=(Y0.fresh (r:=J0) D (show F3 (J0.W i) [] [] [] from trivial) ((d.trans c).trans f) (G4.nil h));obtain⟨aG,aR,rfl,bh,bm,a2⟩:=Y0.out (r:=J0.toRp) D (show F2 (J0.R i) ([]:LV) ([]:M1) from trivial);cases b;try dsimp only[M2,P2]at a
    cases a;exact⟨_,_,_,rfl,ak⟩
   obtain⟨bg,Q,b⟩:=B0 b;refine aI (G1 Q (by first|rw[fL (F2.up (r:=J0.toRp) f g),fL (show F2 (J0.R i) ([[.slice z p.length C]]:LV) [p] from⟨w,trivial⟩)]|exact congrArg (·+1) (fL (F2.up (r:=J0.toRp) f g)))) ?_;obtain⟨aD,aB,P,_⟩:=o;exact P1 l ⟨_,_,_,rfl,rfl,(c.trans f),(M0 _),(fA (F2.up (r:=J0.toRp) f g) (show F2 (J0.R i) ([[.slice z p.length C]]:LV) [p] from⟨w,trivial⟩)),⟨_,(F3.snoc aB (k0f m f)),(z08 m (d.trans c) q P)⟩,b⟩
  cases b;try dsimp only[S0,U0]at a
  refine Or.inr ?_;intro av ae E;have be:New (Wp.slice J0) h ae [av] e:=(Y0.fresh (r:=J0) E m (d.trans c) q);obtain⟨aH,aS,rfl,aq,bn,a3⟩:=Y0.out (r:=J0.toRp) E g;obtain⟨bz,S,a⟩:=B0 a;refine Tr.val (Y03 _ _ s _ _ _ _ aq _  S) (aI rfl ?_);refine ifB a (λZ a=>?_) λZ a=>?_;·intro aw af F;have al:New (Wp.slice J0) h af [aw] ([]:M1):=(Y0.fresh (r:=J0) F (show F3 (J0.W t) [] [] [] from trivial) (d.trans c) (G4.nil h));obtain⟨aJ,aU,rfl,bi,bo,a4⟩:=Y0.out (r:=J0.toRp) F (show F2 (J0.R t) ([]:LV) ([]:M1) from trivial);cases a;exact⟨_,_,_,rfl,al⟩
  intro ax ag G;have am:New (Wp.slice J0) h ag [ax] e:=(Y0.fresh (r:=J0) G m (d.trans c) q);obtain⟨aK,aV,rfl,bj,bp,a5⟩:=Y0.out (r:=J0.toRp) G g;cases a;exact⟨_,_,_,rfl,am⟩
 refine Or.inr ?_;intro ay ah H;have bf:New (Wp.slice J0) h ah [ay] ([]:M1):=(Y0.fresh (r:=J0) H (show F3 (J0.W h) [] [] [] from trivial) sr (G4.nil h));obtain⟨aL,aW,rfl,ar,bq,a6⟩:=Y0.out (r:=J0.toRp) H (show F2 (J0.R h) ([]:LV) ([]:M1) from trivial);obtain⟨bA,T,a⟩:=B0 a;refine Tr.val (Y03 _ _ s _ _ _ _ ar _  T) (aI rfl ?_);refine ifB a (λaa a=>?_) λaa a=>?_;·intro az ai I;have an:New (Wp.slice J0) h ai [az] ([]:M1):=(Y0.fresh (r:=J0) I (show F3 (J0.W h) [] [] [] from trivial) sr (G4.nil h));obtain⟨aM,aX,rfl,bk,br,ba⟩:=Y0.out (r:=J0.toRp) I (show F2 (J0.R h) ([]:LV) ([]:M1) from trivial);cases a;exact⟨_,_,_,rfl,an⟩
 intro aA aj J;have ao:New (Wp.slice J0) h aj [aA] ([]:M1):=(Y0.fresh (r:=J0) J (show F3 (J0.W h) [] [] [] from trivial) sr (G4.nil h));obtain⟨aN,aY,rfl,bl,bs,bb⟩:=Y0.out (r:=J0.toRp) J (show F2 (J0.R h) ([]:LV) ([]:M1) from trivial);cases a;exact⟨_,_,_,rfl,ao⟩
def i0g(h:Hp)(b:Bool)(r:BA)(a:i06 b=some r): Tr Tryz.prog 69 #[.bool b] h λv h'=>v = .string r/\h'=h:=by
 unfold i06 at a;refine wkF Tryz.f69 ?_;refine ifB a (λc a=>?_) λc a=>?_;·cases a;exact aI rfl sr
 cases a;exact aI rfl sr
def t09(h:Hp)(b:Bool)(r:BA)(a:P05 b=some r): Tr Tryz.prog 58 #[.bool b] h λv h'=>v = .string r/\h'=h:=by
 unfold P05 at a;refine wkF Tryz.f58 ?_;refine ifB a (λc a=>?_) λc a=>?_;·cases a;exact aI rfl sr
 cases a;exact aI rfl sr
def j0g(h:Hp)(b:Int)(d:H0 b)(r:E3×Bool)(a:h04 b=some r): Tr Tryz.prog 56 #[iV b] h λv h'=>∃(c:List Value),v = .tuple #[.agg c.toArray,.bool r.2]/\New c05 h h' c r.1:=by
 unfold h04 at a;refine wk Tryz.f56 ?_;refine trV a (U3 _ _ d 1 oD 3 oD) λf a=>?_;refine ifB a (λe a=>?_) λe a=>?_;·cases a;exact⟨_,rfl,(nP (nI (show H0 (0) from(oD))) ((New.nilSlice (r:=g00)).mono sr))⟩
 cases a;exact⟨_,rfl,(nP (nI d) ((New.nilSlice (r:=g00)).mono sr))⟩
end Go.Proofs.YthakcafglempaaaGreat
