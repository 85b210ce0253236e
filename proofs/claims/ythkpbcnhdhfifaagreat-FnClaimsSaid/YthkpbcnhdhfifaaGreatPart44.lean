/- Texts of the claim, joined: The walks of batch d2 and others. -/
import Derived.Test.YthkpbcnhdhfifaaGreatH53
import Derived.Test.YthkpbcnhdhfifaaGreatPart24
import Derived.Test.YthkpbcnhdhfifaaGreatPart22
import Derived.Test.YthkpbcnhdhfifaaGreatChecked
import Derived.Test.YthkpbcnhdhfifaaGreatH35
import Derived.Test.YthkpbcnhdhfifaaGreatPart37
import Derived.Test.YthkpbcnhdhfifaaGreatPart39
import Derived.Test.YthkpbcnhdhfifaaGreatPart41
import Derived.Test.YthkpbcnhdhfifaaGreatPart42
import Derived.Test.YthkpbcnhdhfifaaGreatH41
import Derived.Test.YthkpbcnhdhfifaaGreatH45
import Derived.Test.YthkpbcnhdhfifaaGreatPart23
import Derived.Test.YthkpbcnhdhfifaaGreatPart40
import Derived.Test.YthkpbcnhdhfifaaGreatPart21
import Derived.Test.YthkpbcnhdhfifaaGreatH36
import Derived.Test.YthkpbcnhdhfifaaGreatPart43
import Derived.Test.YthkpbcnhdhfifaaGreatH54
import Derived.Test.YthkpbcnhdhfifaaGreatPart27
namespace Go.Proofs.YthkpbcnhdhfifaaGreat
set_option linter.all false
open Go.H
open IntKind (i64)
set_option maxRecDepth 10000
def b0j(h:Hp)(c:Nat)(d:Value)(i:TypeId)(e:List Int)(p:Int×Int)(I:e02 h c d e p)(l:Int)(ag:I0 l)(q:Int)(av:I0 q)(r:J0×(Int×Int))(b:Y04 e p l q=some r): Tr Tryz.prog 113 #[ptr c 0,iV l,iV q] (h.set c (t07 d p i)) λv h'=>∃(z:Option Addr) (E A:Nat) (n:Hp),v = .slice z E A/\New K0 h n [.slice z E A] r.1/\Sub h n/\e02 n c d e r.2/\h'=n.set c (t07 d r.2 i):=by
 unfold Y04 at b;refine wk Tryz.f113 ?_;obtain⟨am,W,b⟩:=D0 b;obtain⟨G,aq⟩:=am;try dsimp only at b
 refine Tr.mono (Q7 _ c d i e p I (i64.wrap (q+1)) (O0 _) _ W) ?_;rintro _ _ ⟨rfl,K,rfl⟩;obtain⟨aG,V,b⟩:=D0 b;have ah:I0 G:=N0 V;obtain⟨y,aa,b⟩:=D0 b;refine eX { vars:=[8],owns:=[0] } (eX (λvs os af=>∃(m:Int) (w:LV) (j:List Int) (u8:Int×Int) (h':Hp),vs.tail = [iV m]/\os = [w]/\af=h'.set c (t07 d u8 i)/\Sub h h'/\I0 m/\F2 (Wp.int.R h') w j/\e02 h' c d e u8/\q00 e l (P1 vs) m j u8=some y) (eX (λ_ _=>0) ?_));refine aI (eX U0 ⟨G,[],([]:J0),aq,h,rfl,rfl,rfl,sr,ah,(show F2 (Wp.int.R h) ([]:LV) ([]:J0) from trivial),K,aa⟩) ?_;rintro aK w k _ ⟨m,aO,j,u8,o,O,N,rfl,s,aw,g,t,a⟩;cases O;cases N;replace a:q00 e l k m j u8=some y:=a;obtain _|k:=k;·cases a
 rw[q00.eq_2]at a;refine ifB a (λab a=>?_) λab a=>?_
 ·obtain⟨an,X,a⟩:=D0 a;obtain⟨f,ao⟩:=an;try dsimp only at a
  refine Tr.mono (Q7 _ c d i e u8 t _ ag _ X) ?_;rintro _ _ ⟨rfl,J,rfl⟩;obtain⟨aC,S,a⟩:=D0 a;have ax:I0 f:=N0 S;obtain⟨ap,Y,a⟩:=D0 a;obtain⟨aL,aM⟩:=ap;try dsimp only at a
  refine Tr.mono (y03 _ c d i e ao J 2 oD _ Y) ?_;rintro _ _ ⟨rfl,C,rfl⟩;refine ifB a (λac a=>?_) λac a=>?_;·obtain⟨aD,T,a⟩:=D0 a;refine aI (N1 T (by first|rw[fL g,fL (show F2 (Wp.int.R o) ([[iV (i64.wrap (0-(i64.wrap (1+f))))]]:LV) [(i64.wrap (0-(i64.wrap (1+f))))] from⟨⟨rfl,(O0 _)⟩,trivial⟩)]|exact congrArg (·+1) (fL g))) ?_;exact C2 k ⟨_,_,_,_,_,rfl,rfl,rfl,s,(O0 _),(fA g (show F2 (Wp.int.R o) ([[iV (i64.wrap (0-(i64.wrap (1+f))))]]:LV) [(i64.wrap (0-(i64.wrap (1+f))))] from⟨⟨rfl,(O0 _)⟩,trivial⟩)),C,a⟩
  obtain⟨aF,U,a⟩:=D0 a;refine aI (N1 U (by first|rw[fL g,fL (show F2 (Wp.int.R o) ([[iV (i64.wrap (1+f))]]:LV) [(i64.wrap (1+f))] from⟨⟨rfl,(O0 _)⟩,trivial⟩)]|exact congrArg (·+1) (fL g))) ?_;exact C2 k ⟨_,_,_,_,_,rfl,rfl,rfl,s,(O0 _),(fA g (show F2 (Wp.int.R o) ([[iV (i64.wrap (1+f))]]:LV) [(i64.wrap (1+f))] from⟨⟨rfl,(O0 _)⟩,trivial⟩)),C,a⟩
 cases a;try dsimp only[V0,Y0]at b
 refine Or.inl ?_;intro aH ay P;obtain⟨ai,Q,ad,rfl⟩:=C1.beside t.no P;obtain⟨H,M,rfl,al,u,aA⟩:=C1.out (r:=Wp.int.toRp) Q g;have D:=t.mono u ad;obtain⟨aN,Z,b⟩:=D0 b;refine Tr.beside D.no (P04 _ H j.length M j al _  Z) ?_;rintro aJ aj ⟨ar,aB,au,rfl,x⟩ ae;have F:Sub ai aj:=x.sub;have ak:=x.r;have L:=D.mono F ae;obtain⟨rfl,az⟩:=sL ak;cases b;exact⟨_,_,_,_,rfl,(New.from x (s.trans u)),((s.trans u).trans F),L,rfl⟩
def F0d(h:Hp)(c:Nat)(d:Value)(j:TypeId)(e:List Int)(o:Int×Int)(K:e02 h c d e o)(g:Int)(ac:I0 g)(r:K1×(Int×Int))(b:J03 e o g=some r): Tr Tryz.prog 112 #[ptr c 0,iV g] (h.set c (t07 d o j)) λv h'=>∃(y:Option Addr) (G A:Nat) (m:Hp),v = .slice y G A/\New Q1 h m [.slice y G A] r.1/\Sub h m/\e02 m c d e r.2/\h'=m.set c (t07 d r.2 j):=by
 unfold J03 at b;refine wk Tryz.f112 ?_;obtain⟨ai,V,b⟩:=D0 b;obtain⟨J,ak⟩:=ai;try dsimp only at b
 refine Tr.mono (Q7 _ c d j e o K 4 oD _ V) ?_;rintro _ _ ⟨rfl,N,rfl⟩;obtain⟨ay,U,b⟩:=D0 b;have ad:I0 J:=N0 U;obtain⟨x,Y,b⟩:=D0 b;refine eX { vars:=[6],owns:=[0] } (eX (λvs os ab=>∃(k:Int) (q:LV) (f:List J0) (u8:Int×Int) (h':Hp),vs.tail = [iV k]/\os = [q]/\ab=h'.set c (t07 d u8 j)/\Sub h h'/\I0 k/\F2 (K0.R h') q f/\(∃ Bs,F3 (K0.W h') q f Bs/\g6 h Bs.flatten)/\e02 h' c d e u8/\V9 e g (P1 vs) k f u8=some x) (eX (λ_ _=>0) ?_));refine aI (eX U0 ⟨J,[],([]:K1),ak,h,rfl,rfl,rfl,sr,ad,(show F2 (K0.R h) ([]:LV) ([]:K1) from trivial),⟨_,(show F3 (K0.W h) [] [] [] from trivial),(g6.nil h)⟩,N,Y⟩) ?_;rintro aA q n _ ⟨k,aC,f,u8,ar,P,O,rfl,p,ap,l,⟨an,w,E⟩,t,a⟩;cases P;cases O;replace a:V9 e g n k f u8=some x:=a;obtain _|n:=n;·cases a
 rw[V9.eq_2]at a;refine ifB a (λZ a=>?_) λZ a=>?_
 ·obtain⟨aj,X,a⟩:=D0 a;obtain⟨s,aB⟩:=aj;try dsimp only at a
  refine Tr.mono (b0j _ c d j e u8 t _ ac 5 oD _ X) ?_;rintro _ _ ⟨z,aw,C,F,rfl,I,i,L,rfl⟩;have u:=I.r;obtain⟨rfl,au⟩:=sL u;obtain⟨ax,T,a⟩:=D0 a;refine aI (N1 T (by first|rw[fL (F2.up (r:=K0.toRp) i l),fL (show F2 (K0.R F) ([[.slice z s.length C]]:LV) [s] from⟨u,trivial⟩)]|exact congrArg (·+1) (fL (F2.up (r:=K0.toRp) i l)))) ?_;obtain⟨al,ah,S,_⟩:=I;exact C2 n ⟨_,_,_,_,_,rfl,rfl,rfl,(p.trans i),(O0 _),(fA (F2.up (r:=K0.toRp) i l) (show F2 (K0.R F) ([[.slice z s.length C]]:LV) [s] from⟨u,trivial⟩)),⟨_,(F3.snoc ah (R0m w i)),(r0f w p E S)⟩,L,a⟩
 cases a;try dsimp only[V0,Y0]at b
 intro ag aq Q;obtain⟨ae,D,aa,rfl⟩:=C1.beside t.no Q;have af:New (Wp.slice K0) h ae [ag] f:=(C1.fresh (r:=K0) D w p E);obtain⟨am,ao,rfl,az,H,av⟩:=C1.out (r:=K0.toRp) D l;have M:=t.mono H aa;cases b;exact⟨_,_,_,_,rfl,af,(p.trans H),M,rfl⟩
def C0p(h:Hp)(b:Nat)(c:Value)(g:TypeId)(d:List Int)(f:Int×Int)(k:e02 h b c d f)(r:B0×(Int×Int))(a:a07 d f=some r): Tr Tryz.prog 142 #[ptr b 0] (h.set b (t07 c f g)) λv h'=>∃(m:List Value) (e:Hp),v = .agg m.toArray/\New I1 h e m r.1/\Sub h e/\e02 e b c d r.2/\h'=e.set b (t07 c r.2 g):=by
 unfold a07 at a;refine wk Tryz.f142 ?_;refine Or.inl ?_;intro ah Z f3;obtain⟨aa,w,D,rfl⟩:=C1.beside k.no f3;obtain⟨U,Y,rfl,J,j,ad⟩:=C1.out (r:=Wp.int.toRp) w (show F2 (Wp.int.R h) ([[iV 1],[iV 2],[iV 2],[iV 2],[iV 2],[iV 3]]:LV) [1,2,2,2,2,3] from⟨⟨rfl,oD⟩,⟨⟨rfl,oD⟩,⟨⟨rfl,oD⟩,⟨⟨rfl,oD⟩,⟨⟨rfl,oD⟩,⟨⟨rfl,oD⟩,trivial⟩⟩⟩⟩⟩⟩);have u:=k.mono j D;obtain⟨O,A,a⟩:=D0 a;obtain⟨P,Q⟩:=O;try dsimp only at a
 refine Tr.mono (h0b _ b c g d f u _ _ _ _ J _ A) ?_;rintro _ _ ⟨rfl,s,rfl⟩;obtain⟨af,x,a⟩:=D0 a;have n:I0 P:=N0 x;obtain⟨M,y,a⟩:=D0 a;obtain⟨aj,ak⟩:=M;try dsimp only at a
 refine Tr.mono (F0d _ b c g d Q s _ n _ y) ?_;rintro _ _ ⟨S,ae,W,G,rfl,L,p,l,rfl⟩;have o:=L.r;obtain⟨rfl,ab⟩:=sL o;obtain⟨N,z,a⟩:=D0 a;refine Tr.beside l.no (V04 _ _ n _ _ _ _ o _  z) ?_;rintro ai H ⟨V,rfl,i⟩ C;obtain⟨al,ap⟩:=N;dsimp only at a i;have q:Sub G H:=i.sub;have I:=i.r;have t:=l.mono q C;obtain⟨am,an,T,X,ao,rfl,rfl,E,F,ag,ac⟩:=opG I;try dsimp only at a
 have K:=nD (nD (i));cases a;exact⟨_,_,rfl,(nP (nI E) (nP (nI F) (New.from K (j.trans p)))),((j.trans p).trans q),t,rfl⟩
set_option maxHeartbeats 0
def G0d(h:Hp)(c:Nat)(d:Value)(f:TypeId)(e:List Int)(x:Int×Int)(ae:e02 h c d e x)(r:Int×Int×K1×J0×(Int×Int))(a:d04 e x=some r): Tr Tryz.prog 45 #[ptr c 0] (h.set c (t07 d x f)) λv h'=>∃(C:Option Addr) (O E:Nat) (D:Option Addr) (P F:Nat) (o:Hp),v = .tuple #[iV r.1,iV r.2.1,.slice C O E,.slice D P F]/\Q1.R o [.slice C O E] r.2.2.1/\K0.R o [.slice D P F] r.2.2.2.1/\Sub h o/\e02 o c d e r.2.2.2.2/\h'=o.set c (t07 d r.2.2.2.2 f):=by
 unfold d04 at a;refine wk Tryz.f45 ?_;obtain⟨bm,aH,a⟩:=D0 a;obtain⟨bx,bz⟩:=bm;try dsimp only at a
 refine Tr.mono (Q7 _ c d f e x ae 6 oD _ aH) ?_;rintro _ _ ⟨rfl,H,rfl⟩;obtain⟨cS,aD,a⟩:=D0 a;have b8:I0 bx:=N0 aD;refine Or.inl ?_;intro c5 co ay;obtain⟨cv,az,ba,rfl⟩:=C1.beside H.no ay;obtain⟨bX,b6,rfl,bd,j,cK⟩:=C1.out (r:=Wp.int.toRp) az (show F2 (Wp.int.R h) ([[iV 1],[iV 2],[iV 2],[iV 2],[iV 3]]:LV) [1,2,2,2,3] from⟨⟨rfl,oD⟩,⟨⟨rfl,oD⟩,⟨⟨rfl,oD⟩,⟨⟨rfl,oD⟩,⟨⟨rfl,oD⟩,trivial⟩⟩⟩⟩⟩);have ag:=H.mono j ba;obtain⟨br,aL,a⟩:=D0 a;obtain⟨bs,bt⟩:=br;try dsimp only at a
 refine Tr.mono (h0b _ c d f e bz ag _ _ _ _ bd _ aL) ?_;rintro _ _ ⟨rfl,ah,rfl⟩;obtain⟨cR,aC,a⟩:=D0 a;have N:I0 bs:=N0 aC;obtain⟨bu,aM,a⟩:=D0 a;obtain⟨i,bv⟩:=bu;try dsimp only at a
 refine Tr.mono (F0d _ c d f e bt ah _ N _ aM) ?_;rintro _ _ ⟨t,cL,w,cd,rfl,bk,k,ai,rfl⟩;have g:=bk.r;obtain⟨rfl,cA⟩:=sL g;obtain⟨bA,aN,a⟩:=D0 a;obtain⟨db,A⟩:=bA;try dsimp only at a
 refine Tr.mono (b0j _ c d f e bv ai _ N 4 oD _ aN) ?_;rintro _ _ ⟨bU,cM,b2,ce,rfl,bl,b,n,rfl⟩;have p:=bl.r;obtain⟨rfl,cC⟩:=sL p;refine ifB a (λa3 a=>?_) λa3 a=>?_
 ·obtain⟨bB,aO,a⟩:=D0 a;obtain⟨dc,V⟩:=bB;try dsimp only at a
  refine Tr.mono (y03 _ c d f e A n 2 oD _ aO) ?_;rintro _ _ ⟨rfl,u,rfl⟩;refine ifB a (λa4 a=>?_) λa4 a=>?_
  ·refine w5 9 ?_;obtain⟨bC,aP,a⟩:=D0 a;obtain⟨aa,bY,au,Q⟩:=Sl.getI (r:=K0.toRp) (Q1.mono b g) aP oD;obtain⟨W,ao,rfl,cD⟩:=slL Q;refine pm (.hel (.slice t i.length w) 0 1 0) ?_ ?_;·intro cf cW;exact aI aa r3
   refine pm (.val (.slice W bC.length ao)) ?_ ?_;·intro cg be;exact eX _ (aI (U8.up ((Sub.set u.no).trans be) au) r3)
   refine pm (.val (iV ((i.length:Nat):Int))) ?_ ?_;·intro ch cX;exact r3
   refine pm (.val (iV (i64.wrap (((i.length:Nat):Int)-1)))) ?_ ?_;·intro ci cY;exact r3
   obtain⟨bD,aQ,a⟩:=D0 a;obtain⟨ab,bZ,av,S⟩:=Sl.getI (r:=K0.toRp) (Q1.mono b g) aQ oD;obtain⟨X,ap,rfl,cE⟩:=slL S;refine pm (.hel (.slice t i.length w) (i64.wrap (((i.length:Nat):Int)-1)) 1 0) ?_ ?_;·intro cj cZ;exact aI ab r3
   refine pm (.val (.slice X bD.length ap)) ?_ ?_;·intro ck bf;exact eX _ (aI (U8.up ((Sub.set u.no).trans bf) av) r3)
   intro cl bg;obtain⟨cm,rfl,l,I⟩:=u.grow bg;obtain⟨dd,aR,a⟩:=D0 a;refine Tr.beside I.no (o03 _ _ _ _ _ (K0.mono l Q) _ _ _ _ (K0.mono l S) _  aR) ?_;rintro c4 cn ⟨bV,cN,b3,rfl,y,q⟩ bb;have aj:=I.mono q bb;obtain⟨rfl,cG⟩:=sL y;obtain⟨bE,aS,a⟩:=D0 a;obtain⟨df,bG⟩:=bE;try dsimp only at a
   refine Tr.mono (y03 _ c d f e V aj 16 oD _ aS) ?_;rintro _ _ ⟨rfl,J,rfl⟩;refine ifB a (λa5 a=>?_) λa5 a=>?_
   ·obtain⟨bH,aU,a⟩:=D0 a;obtain⟨bI,dg⟩:=bH;try dsimp only at a
    refine Tr.mono (Q7 _ c d f e bG J 9 oD _ aU) ?_;rintro _ _ ⟨rfl,ak,rfl⟩;obtain⟨cU,aF,a⟩:=D0 a;have ca:I0 bI:=N0 aF;cases a;exact⟨_,_,_,_,_,_,_,rfl,(Q1.mono ((b.trans l).trans q) g),y,((((j.trans k).trans b).trans l).trans q),ak,rfl⟩
   cases a;exact⟨_,_,_,_,_,_,_,rfl,(Q1.mono ((b.trans l).trans q) g),y,((((j.trans k).trans b).trans l).trans q),J,rfl⟩
  obtain⟨bJ,aV,a⟩:=D0 a;obtain⟨dh,bK⟩:=bJ;try dsimp only at a
  refine Tr.mono (y03 _ c d f e V u 16 oD _ aV) ?_;rintro _ _ ⟨rfl,K,rfl⟩;refine ifB a (λa6 a=>?_) λa6 a=>?_
  ·obtain⟨bL,aW,a⟩:=D0 a;obtain⟨bM,di⟩:=bL;try dsimp only at a
   refine Tr.mono (Q7 _ c d f e bK K 9 oD _ aW) ?_;rintro _ _ ⟨rfl,al,rfl⟩;obtain⟨cV,aG,a⟩:=D0 a;have cb:I0 bM:=N0 aG;cases a;exact⟨_,_,_,_,_,_,_,rfl,(Q1.mono b g),p,((j.trans k).trans b),al,rfl⟩
  cases a;exact⟨_,_,_,_,_,_,_,rfl,(Q1.mono b g),p,((j.trans k).trans b),K,rfl⟩
 refine ifB a (λa7 a=>?_) λa7 a=>?_
 ·refine w5 9 ?_;obtain⟨bN,aX,a⟩:=D0 a;obtain⟨ac,b0,aw,T⟩:=Sl.getI (r:=K0.toRp) (Q1.mono b g) aX oD;obtain⟨Y,aq,rfl,cH⟩:=slL T;refine pm (.hel (.slice t i.length w) 0 1 0) ?_ ?_;·intro cq c0;exact aI ac r3
  refine pm (.val (.slice Y bN.length aq)) ?_ ?_;·intro cr bh;exact eX _ (aI (U8.up ((Sub.set n.no).trans bh) aw) r3)
  refine pm (.val (iV ((i.length:Nat):Int))) ?_ ?_;·intro cs c1;exact r3
  refine pm (.val (iV (i64.wrap (((i.length:Nat):Int)-1)))) ?_ ?_;·intro ct c2;exact r3
  obtain⟨bO,aY,a⟩:=D0 a;obtain⟨ad,b1,ax,U⟩:=Sl.getI (r:=K0.toRp) (Q1.mono b g) aY oD;obtain⟨Z,ar,rfl,cI⟩:=slL U;refine pm (.hel (.slice t i.length w) (i64.wrap (((i.length:Nat):Int)-1)) 1 0) ?_ ?_;·intro cu c3;exact aI ad r3
  refine pm (.val (.slice Z bO.length ar)) ?_ ?_;·intro cw bi;exact eX _ (aI (U8.up ((Sub.set n.no).trans bi) ax) r3)
  intro cx bj;obtain⟨cy,rfl,m,L⟩:=n.grow bj;obtain⟨dj,aZ,a⟩:=D0 a;refine Tr.beside L.no (o03 _ _ _ _ _ (K0.mono m T) _ _ _ _ (K0.mono m U) _  aZ) ?_;rintro c6 cz ⟨bW,cO,b5,rfl,z,s⟩ bc;have am:=L.mono s bc;obtain⟨rfl,cJ⟩:=sL z;obtain⟨bP,a0,a⟩:=D0 a;obtain⟨dk,bQ⟩:=bP;try dsimp only at a
  refine Tr.mono (y03 _ c d f e A am 16 oD _ a0) ?_;rintro _ _ ⟨rfl,M,rfl⟩;refine ifB a (λa8 a=>?_) λa8 a=>?_
  ·obtain⟨bR,a1,a⟩:=D0 a;obtain⟨bS,dm⟩:=bR;try dsimp only at a
   refine Tr.mono (Q7 _ c d f e bQ M 9 oD _ a1) ?_;rintro _ _ ⟨rfl,an,rfl⟩;obtain⟨cP,aA,a⟩:=D0 a;have cc:I0 bS:=N0 aA;cases a;exact⟨_,_,_,_,_,_,_,rfl,(Q1.mono ((b.trans m).trans s) g),z,((((j.trans k).trans b).trans m).trans s),an,rfl⟩
  cases a;exact⟨_,_,_,_,_,_,_,rfl,(Q1.mono ((b.trans m).trans s) g),z,((((j.trans k).trans b).trans m).trans s),M,rfl⟩
 obtain⟨bn,aJ,a⟩:=D0 a;obtain⟨c7,bo⟩:=bn;try dsimp only at a
 refine Tr.mono (y03 _ c d f e A n 16 oD _ aJ) ?_;rintro _ _ ⟨rfl,G,rfl⟩;refine ifB a (λa2 a=>?_) λa2 a=>?_
 ·obtain⟨bp,aK,a⟩:=D0 a;obtain⟨bq,c8⟩:=bp;try dsimp only at a
  refine Tr.mono (Q7 _ c d f e bo G 9 oD _ aK) ?_;rintro _ _ ⟨rfl,af,rfl⟩;obtain⟨cQ,aB,a⟩:=D0 a;have b7:I0 bq:=N0 aB;cases a;exact⟨_,_,_,_,_,_,_,rfl,(Q1.mono b g),p,((j.trans k).trans b),af,rfl⟩
 cases a;exact⟨_,_,_,_,_,_,_,rfl,(Q1.mono b g),p,((j.trans k).trans b),G,rfl⟩
def n08(h:Hp)(d:Nat)(e:Value)(j:TypeId)(f:List Int)(l:Int×Int)(q:e02 h d e f l)(r:L2×(Int×Int))(a:b02 f l=some r): Tr Tryz.prog 70 #[ptr d 0] (h.set d (t07 e l j)) λv h'=>∃(x:List Value) (k:Hp),v = .agg x.toArray/\New J5 h k x r.1/\Sub h k/\e02 k d e f r.2/\h'=k.set d (t07 e r.2 j):=by
 unfold b02 at a;refine wk Tryz.f70 ?_;obtain⟨az,T,a⟩:=D0 a;obtain⟨aC,aD,bN,bO,aF⟩:=az;try dsimp only at a
 refine Tr.mono (G0d _ d e j f l q _ T) ?_;rintro _ _ ⟨aJ,bp,aS,aK,bq,aU,aj,rfl,z,A,b,w,rfl⟩;obtain⟨bG,Q,a⟩:=D0 a;have af:I0 aC:=N0 Q;obtain⟨bH,S,a⟩:=D0 a;have ag:I0 aD:=N0 S;obtain⟨rfl,bg⟩:=sL z;obtain⟨rfl,bh⟩:=sL A;obtain⟨aH,W,a⟩:=D0 a;refine Tr.beside w.no (g0b _ _ af _ ag _ _ _ _ z _ _ _ _ A _  W) ?_;rintro bK i ⟨aR,rfl,g⟩ ae;obtain⟨bV,b6⟩:=aH;dsimp only at a g;have n:Sub aj i:=g.sub;have an:=g.r;have F:=w.mono n ae;obtain⟨bW,bX,aM,br,aW,bY,aN,bs,aX,bZ,aO,bt,aY,b0,b1,b2,aP,bu,aZ,b3,b5,rfl,rfl,a7,a8,ao,ap,aq,ba,bb,ar,bc⟩:=B7 an;obtain⟨rfl,bj⟩:=sL ao;obtain⟨rfl,bk⟩:=sL ap;obtain⟨rfl,bl⟩:=sL aq;obtain⟨rfl,bm⟩:=sL ar;try dsimp only at a
 obtain⟨aA,U,a⟩:=D0 a;obtain⟨aB,t⟩:=aA;try dsimp only at a
 refine Tr.mono (Q7 _ d e j f aF F 6 oD _ U) ?_;rintro _ _ ⟨rfl,c,rfl⟩;obtain⟨bC,N,a⟩:=D0 a;have a6:I0 aB:=N0 N;refine ifB a (λZ a=>?_) λZ a=>?_;·cases a;exact⟨_,_,rfl,(New.from (clN g (O0 _)) b),(b.trans n),c,rfl⟩
 refine ifB a (λaa a=>?_) λaa a=>?_
 ·obtain⟨a5,m,bJ,s,u⟩:=c0v g;rcases New.two s with⟨rfl,rfl,rfl⟩|⟨a2,bz,rfl⟩;·skip;refine Or.inr ?_;obtain⟨bD,O,a⟩:=D0 a;refine aI (aI rfl (A0y O (fL (show F2 (Wp.int.R i) ([[iV 1]]:LV) [1] from⟨⟨rfl,oD⟩,trivial⟩)))) ?_;intro bL be X;obtain⟨ak,L,ac,rfl⟩:=Z0r.beside c.no X;obtain⟨o,a3,bA,bv,a0,rfl⟩:=New.appN (r:=Wp.int) s sr (F3.ofPlain (M05 _) (show F2 (Wp.int.R i) ([[iV 1]]:LV) [1] from⟨⟨rfl,oD⟩,trivial⟩)) g6.ofPlain L;have au:=o.r;obtain⟨J,bn⟩:=sL au;subst J;have G:e02 ak d e f t:=⟨ac,Sl.mono (r:=Rp.u8) ((b.trans m).trans o.sub) (q.rd),c.pl,c.nm⟩;cases a;exact⟨_,_,rfl,(New.from (u _ _ _ o) b),((b.trans m).trans o.sub),G,rfl⟩
  skip;obtain⟨bE,P,a⟩:=D0 a;obtain⟨ax,C,y,E⟩:=New.app s sr;refine eX ax (aI (R0j.setB c.no C) (aI (N1 P (by first|rw[y,fL (show F2 (Wp.int.R i) ([[iV 1]]:LV) [1] from⟨⟨rfl,oD⟩,trivial⟩)]|(rw[y];rfl))) ?_));intro bM bf Y;obtain⟨al,M,ad,rfl⟩:=e0o.beside c.no C Y;obtain⟨p,a4,bB,bx,a1,rfl⟩:=E _ _ _ _ _ (F3.ofPlain (M05 _) (show F2 (Wp.int.R i) ([[iV 1]]:LV) [1] from⟨⟨rfl,oD⟩,trivial⟩)) g6.ofPlain M;have av:=p.r;obtain⟨K,bo⟩:=sL av;subst K;have H:e02 al d e f t:=⟨ad,Sl.mono (r:=Rp.u8) ((b.trans m).trans p.sub) (q.rd),c.pl,c.nm⟩;cases a;exact⟨_,_,rfl,(New.from (u _ _ _ p) b),((b.trans m).trans p.sub),H,rfl⟩
 refine ifB a (λab a=>?_) λab a=>?_
 ·obtain⟨aG,V,a⟩:=D0 a;obtain⟨bP,bU⟩:=aG;try dsimp only at a
  refine Tr.mono (C0p _ d e j f t c _ V) ?_;rintro _ _ ⟨aQ,bd,rfl,D,aw,I,rfl⟩;have am:=D.r;obtain⟨bQ,bR,aL,aV,bS,rfl,rfl,ah,ai,bI,bi⟩:=opG am;try dsimp only at a
  have ay:=nD (nD (D));cases a;exact⟨_,_,rfl,(New.from (clG g sr ah ai ay) b),((b.trans n).trans aw),I,rfl⟩
 cases a;exact⟨_,_,rfl,(New.from g b),(b.trans n),c,rfl⟩
def H0d(h:Hp)(c:Option Addr)(m d:Nat)(b:(List Int))(n:(Wp.slice Wp.u8).R h [.slice c m d] b)(r:Int×Int×K1×J0)(a:G01 b=some r): Tr Tryz.prog 6 #[.slice c m d] h λv h'=>∃(f:Option Addr) (k i:Nat) (g:Option Addr) (l j:Nat),v = .tuple #[iV r.1,iV r.2.1,.slice f k i,.slice g l j]/\Q1.R h' [.slice f k i] r.2.2.1/\K0.R h' [.slice g l j] r.2.2.2/\Sub h h':=by
 obtain⟨rfl,L⟩:=sL n;unfold G01 at a;refine wk Tryz.f6 ?_;refine trM a (G08 _ c b.length d b n) ?_;rintro z a _ _ ⟨w,y,rfl,rfl,q⟩;obtain⟨A,u,a⟩:=D0 a;obtain⟨C,D,T,U,V⟩:=A;try dsimp only at a
 refine Tr.mono (G0d _ w (.slice c b.length d) y b z q _ u) ?_;rintro _ _ ⟨E,O,G,F,P,H,K,rfl,o,p,x,e,rfl⟩;obtain⟨Q,s,a⟩:=D0 a;have I:I0 C:=N0 s;obtain⟨S,t,a⟩:=D0 a;have J:I0 D:=N0 t;obtain⟨rfl,M⟩:=sL o;obtain⟨rfl,N⟩:=sL p;cases a;exact⟨_,_,_,_,_,_,rfl,(Q1.mono (Sub.set e.no) o),(K0.mono (Sub.set e.no) p),(x.trans (Sub.set e.no))⟩
def j0c(h:Hp)(c:Option Addr)(g d:Nat)(b:(List Int))(i:(Wp.slice Wp.u8).R h [.slice c g d] b)(r:L2)(a:V00 b=some r): Tr Tryz.prog 11 #[.slice c g d] h λv h'=>∃(f:List Value),v = .agg f.toArray/\J5.R h' f r/\Sub h h':=by
 obtain⟨rfl,O⟩:=sL i;unfold V00 at a;refine wk Tryz.f11 ?_;refine trM a (G08 _ c b.length d b i) ?_;rintro C a _ _ ⟨w,z,rfl,rfl,n⟩;obtain⟨D,o,a⟩:=D0 a;obtain⟨Y,ai⟩:=D;try dsimp only at a
 refine Tr.mono (n08 _ w (.slice c b.length d) z b C n _ o) ?_;rintro _ _ ⟨I,N,rfl,A,y,e,rfl⟩;have x:=A.r;obtain⟨Z,aa,E,U,J,ab,F,V,K,ac,G,W,L,ad,ae,af,H,X,M,ag,ah,rfl,rfl,p,q,j,k,l,s,t,m,u⟩:=B7 x;obtain⟨rfl,P⟩:=sL j;obtain⟨rfl,Q⟩:=sL k;obtain⟨rfl,S⟩:=sL l;obtain⟨rfl,T⟩:=sL m;try dsimp only at a
 cases a;exact⟨_,rfl,(J5.mono (Sub.set e.no) (A3 p q j k l s t m u)),(y.trans (Sub.set e.no))⟩
def S0b(h:Hp)(c:Option Addr)(z d:Nat)(b:(List Int))(A:(Wp.slice Wp.u8).R h [.slice c z d] b)(r:L2×L2)(a:B00 b=some r): Tr Tryz.prog 19 #[.slice c z d] h λv h'=>∃(x:List Value) (y:List Value),v = .tuple #[.agg x.toArray,.agg y.toArray]/\J5.R h' x r.1/\J5.R h' y r.2/\Sub h h':=by
 obtain⟨rfl,aZ⟩:=sL A;unfold B00 at a;refine wk Tryz.f19 ?_;refine trM a (G08 _ c b.length d b A) ?_;rintro am a _ _ ⟨u,w,rfl,rfl,M⟩;obtain⟨ao,Q,a⟩:=D0 a;obtain⟨bO,ap⟩:=ao;try dsimp only at a
 refine Tr.mono (n08 _ u (.slice c b.length d) w b am M _ Q) ?_;rintro _ _ ⟨aK,ag,rfl,al,K,N,rfl⟩;have aj:=al.r;obtain⟨bP,bQ,aC,bl,aU,bR,aD,bm,aV,bS,aF,bn,aW,bU,bV,bW,aG,bo,aX,bX,bY,rfl,rfl,o,p,g,i,j,q,s,k,t⟩:=B7 aj;obtain⟨rfl,a8⟩:=sL g;obtain⟨rfl,ba⟩:=sL i;obtain⟨rfl,bb⟩:=sL j;obtain⟨rfl,bc⟩:=sL k;try dsimp only at a
 obtain⟨aq,S,a⟩:=D0 a;obtain⟨bZ,ar⟩:=aq;try dsimp only at a
 refine Tr.mono (y03 _ u (.slice c b.length d) w b ap N 2 oD _ S) ?_;rintro _ _ ⟨rfl,l,rfl⟩;refine ifB a (λT a=>?_) λT a=>?_
 ·refine w3 ?_;refine aI ?_ trivial;obtain⟨bq,O,a⟩:=D0 a;refine Tr.beside l.no (a0m _ _ _ (A3 o p g i j q s k t) _  O) ?_;rintro bp af ⟨aH,rfl,L⟩ U;have e:Sub ag af:=L.sub;have ah:=L.r;have m:=l.mono e U;obtain⟨br,bs,au,bd,aL,bt,av,be,aM,bu,aw,bf,aN,bv,bx,bz,ax,bg,aO,bA,bB,rfl,rfl,V,W,C,D,E,X,Y,F,Z⟩:=B7 ah;obtain⟨rfl,a0⟩:=sL C;obtain⟨rfl,a1⟩:=sL D;obtain⟨rfl,a2⟩:=sL E;obtain⟨rfl,a3⟩:=sL F;try dsimp only at a
  refine aI (by first|exact trivial|exact rfl) ?_;refine aI ?_ trivial;refine aI (by first|exact trivial|exact rfl) ?_;refine aI ?_ trivial;refine aI (by first|exact trivial|exact rfl) ?_;cases a;exact⟨_,_,rfl,(J5.mono (Sub.set m.no) (A3 o p (Q1.mono e g) (K0.mono e i) (K0.mono e j) q s (M0.mono e k) t)),(J5.mono (Sub.set m.no) (A3 V W C D E X Y F Z)),((K.trans e).trans (Sub.set m.no))⟩
 refine w3 ?_;refine aI ?_ trivial;obtain⟨an,P,a⟩:=D0 a;obtain⟨bC,bN⟩:=an;try dsimp only at a
 refine Tr.mono (n08 _ u (.slice c b.length d) w b ar l _ P) ?_;rintro _ _ ⟨aJ,aY,rfl,ak,f,n,rfl⟩;have ai:=ak.r;obtain⟨bD,bE,ay,bh,aP,bG,az,bi,aQ,bH,aA,bj,aR,bI,bJ,bK,aB,bk,aS,bL,bM,rfl,rfl,aa,ab,G,H,I,ac,ad,J,ae⟩:=B7 ai;obtain⟨rfl,a4⟩:=sL G;obtain⟨rfl,a5⟩:=sL H;obtain⟨rfl,a6⟩:=sL I;obtain⟨rfl,a7⟩:=sL J;try dsimp only at a
 refine aI (by first|exact trivial|exact rfl) ?_;refine aI ?_ trivial;refine aI (by first|exact trivial|exact rfl) ?_;refine aI ?_ trivial;refine aI (by first|exact trivial|exact rfl) ?_;cases a;exact⟨_,_,rfl,(J5.mono (Sub.set n.no) (A3 o p (Q1.mono f g) (K0.mono f i) (K0.mono f j) q s (M0.mono f k) t)),(J5.mono (Sub.set n.no) (A3 aa ab G H I ac ad J ae)),((K.trans f).trans (Sub.set n.no))⟩
def I0d(h:Hp)(c:Option Addr)(e d:Nat)(b:(List Int))(f:(Wp.slice Wp.u8).R h [.slice c e d] b)(r:Int)(a:H01 b=some r): Tr Tryz.prog 20 #[.slice c e d] h λv h'=>v=iV r/\h'=h:=by
 obtain⟨rfl,s⟩:=sL f;unfold H01 at a;refine wkF Tryz.f20 ?_;refine trM a (G08 _ c b.length d b f) ?_;rintro n a _ _ ⟨l,m,rfl,rfl,g⟩;obtain⟨o,k,a⟩:=D0 a;obtain⟨p,u⟩:=o;try dsimp only at a
 refine Tr.mono (Q7 _ l (.slice c b.length d) m b n g 9 oD _ k) ?_;rintro _ _ ⟨rfl,i,rfl⟩;obtain⟨t,j,a⟩:=D0 a;have q:I0 p:=N0 j;cases a;exact aI rfl (sr.trans (Sub.set i.no))
def y0t(h:Hp)(a:Option Addr)(d b:Nat)(e:(List Int))(f:(Wp.slice Wp.u8).R h [.slice a d b] e)(r:Bool)(c:o06 e=some r): Tr Tryz.prog 5 #[.slice a d b] h λv h'=>v = .bool r/\h'=h:=by obtain⟨rfl,g⟩:=sL f;unfold o06 at c;refine wkF Tryz.f5 ?_;cases c;exact aI rfl sr
def z0j(h:Hp)(F:Option Addr)(aA G:Nat)(H:(List Int))(A:(Wp.slice Wp.u8).R h [.slice F aA G] H)(r:Bool)(d:L04 H=some r): Tr Tryz.prog 3 #[.slice F aA G] h λv h'=>v = .bool r/\h'=h:=by
 obtain⟨rfl,dj⟩:=sL A;unfold L04 at d;refine Tr.forget (F0B 10 [(0,.val (.slice F H.length G)),(11,.box 2 0)] (v := .slice F H.length G) (fn:=Tryz.f3) rfl ?_);obtain⟨aO,c,d⟩:=D0 d;refine eX (λbx k=>∃ a b cs x ty,aO = .inr x/\bx = [a,b,.live (vals cs) ty]/\J5.R k cs x/\Sub h k) (aI ?_ ?_)
 ·unfold S02 at c;refine trV c (y0t _ _ _ _ _ A) λep c=>?_;refine ifB c (λbl c=>?_) λbl c=>?_;·cases c;cases d;exact aI rfl sr
  refine trM c (H0d _ _ _ _ _ A) ?_;rintro cc c eo di ⟨cw,dX,c2,cx,dY,c3,rfl,J,K,j⟩;obtain⟨cd,ce,fi,fj⟩:=cc;dsimp only at c J K;obtain⟨eg,a5,c⟩:=D0 c;have aw:I0 cd:=N0 a5;obtain⟨eh,a6,c⟩:=D0 c;have ax:I0 ce:=N0 a6;obtain⟨rfl,dC⟩:=sL J;obtain⟨rfl,dD⟩:=sL K;refine trM c (w0i _ _ aw _ ax _ _ _ _ J _ _ _ _ K) ?_;rintro cf c ei bE ⟨cM,rfl,aD,i⟩;obtain⟨fk,fw⟩:=cf;dsimp only at c aD;obtain⟨fl,fm,cy,d1,c4,fo,cz,d2,c5,fp,cA,d3,c6,fq,fs,ft,cC,d4,c7,fu,fv,rfl,rfl,bu,bv,aF,aG,aH,bz,bA,aJ,bB⟩:=B7 aD;obtain⟨rfl,dG⟩:=sL aF;obtain⟨rfl,dH⟩:=sL aG;obtain⟨rfl,dI⟩:=sL aH;obtain⟨rfl,dJ⟩:=sL aJ;try dsimp only at c
  refine trM c (g0b _ _ aw _ ax _ _ _ _ (Q1.mono i J) _ _ _ _ (K0.mono i K)) ?_;rintro bS c ej bC ⟨cG,rfl,Z⟩;obtain⟨eq,eC⟩:=bS;dsimp only at c Z;have f:Sub bE bC:=Z.sub;have bO:=Z.r;obtain⟨er,es,cg,dK,cN,et,ch,dL,cO,eu,ci,dM,cP,ew,ey,ez,cj,dN,cQ,eA,eB,rfl,rfl,ae,af,M,N,O,ag,ah,P,ai⟩:=B7 bO;obtain⟨rfl,dk⟩:=sL M;obtain⟨rfl,dm⟩:=sL N;obtain⟨rfl,dn⟩:=sL O;obtain⟨rfl,dq⟩:=sL P;try dsimp only at c
  refine trG c (λq=>x09 _ _ _ (A3 bu bv (Q1.mono f aF) (K0.mono f aG) (K0.mono f aH) bz bA (M0.mono f aJ) bB) _ _ (A3 ae af M N O ag ah P ai)) λeD c=>?_;refine trG c (λq=>a0a _ _ _ (A3 ae af M N O ag ah P ai)) λeF c=>?_;refine ifB c (λbg c=>?_) λbg c=>?_;·cases c;cases d;exact aI rfl ((j.trans i).trans f)
  refine trM c (j0c _ _ _ _ _ ((Wp.slice Wp.u8).mono ((j.trans i).trans f) A)) ?_;rintro bU c ek ay ⟨cH,rfl,I,g⟩;have n:=I;obtain⟨bV,bW,aP,bK,aU,bX,aQ,bL,aV,bY,aR,bM,aW,bZ,b0,b1,aS,bN,aX,b2,b3,rfl,rfl,D,t,o,l,s,u,w,p,E⟩:=B7 I;obtain⟨rfl,bG⟩:=sL o;obtain⟨rfl,bH⟩:=sL l;obtain⟨rfl,bI⟩:=sL s;obtain⟨rfl,bJ⟩:=sL p;try dsimp only at c
  refine trV c (a0a _ _ _ (A3 D t o l s u w p E)) λeH c=>?_;refine trV c (o0h _ _ _ (A3 D t o l s u w p E)) λeI c=>?_;refine ifB c (λbo c=>?_) λbo c=>?_;·cases c;cases d;exact aI rfl (((j.trans i).trans f).trans g)
  refine ifB c (λbp c=>?_) λbp c=>?_
  ·refine trM c (V04 _ _ t _ _ _ _ o) ?_;rintro b6 c en az ⟨cJ,rfl,ab⟩;obtain⟨eP,eT⟩:=b6;dsimp only at c ab;have e:Sub ay az:=ab.sub;have bR:=ab.r;obtain⟨eQ,eR,cl,cS,eS,rfl,rfl,y,z,C,dt⟩:=opG bR;try dsimp only at c
   refine ifB c (λac c=>?_) λac c=>?_
   ·refine aI (λad=>?_) λad=>nomatch ac.symm.trans ad;refine trV c (R00 _ _ _ (C0 y z C) _ _ _ _ (K0.mono e l)) λfh c=>?_;refine ifB c (λbr c=>?_) λbr c=>?_;·cases c;cases d;exact aI rfl ((((j.trans i).trans f).trans g).trans e)
    cases c;exact aI (aI rfl rfl) (eX [_,_,_] (aI ⟨⟨rfl,trivial⟩,⟨rfl,Nat.lt.base 2⟩,trivial⟩ (aI ⟨rfl,rfl,rfl,trivial⟩ ⟨_,_,_,_,_,rfl,rfl,(J5.mono e n),((((j.trans i).trans f).trans g).trans e)⟩)))
   refine ifB c (λbc c=>?_) λbc c=>?_
   ·refine trV c (R00 _ _ _ (C0 y z C) _ _ _ _ (K0.mono e l)) λeE c=>?_;refine ifB c (λbd c=>?_) λbd c=>?_;·cases c;cases d;exact aI rfl ((((j.trans i).trans f).trans g).trans e)
    cases c;exact aI (aI rfl rfl) (eX [_,_,_] (aI ⟨⟨rfl,trivial⟩,⟨rfl,Nat.lt.base 2⟩,trivial⟩ (aI ⟨rfl,rfl,rfl,trivial⟩ ⟨_,_,_,_,_,rfl,rfl,(J5.mono e n),((((j.trans i).trans f).trans g).trans e)⟩)))
   refine ifB c (λbe c=>?_) λbe c=>?_
   ·refine trV c (R00 _ _ _ (C0 y z C) _ _ _ _ (K0.mono e l)) λeG c=>?_;refine ifB c (λbf c=>?_) λbf c=>?_;·cases c;cases d;exact aI rfl ((((j.trans i).trans f).trans g).trans e)
    cases c;exact aI (aI rfl rfl) (eX [_,_,_] (aI ⟨⟨rfl,trivial⟩,⟨rfl,Nat.lt.base 2⟩,trivial⟩ (aI ⟨rfl,rfl,rfl,trivial⟩ ⟨_,_,_,_,_,rfl,rfl,(J5.mono e n),((((j.trans i).trans f).trans g).trans e)⟩)))
   refine ifB c (λbh c=>?_) λbh c=>?_
   ·refine w1 ?_;obtain⟨aK,a7,c⟩:=D0 c;refine eX (iV aK) (aI (M07 _ _ _ (C0 y z C) _  a7) ?_);obtain⟨d5,aY,c⟩:=D0 c;have c8:I0 aK:=N0 aY;refine ifB c (λbi c=>?_) λbi c=>?_;·cases c;cases d;exact aI rfl ((((j.trans i).trans f).trans g).trans e)
    cases c;exact aI (aI rfl rfl) (eX [_,_,_] (aI ⟨⟨rfl,trivial⟩,⟨rfl,Nat.lt.base 2⟩,trivial⟩ (aI ⟨rfl,rfl,rfl,trivial⟩ ⟨_,_,_,_,_,rfl,rfl,(J5.mono e n),((((j.trans i).trans f).trans g).trans e)⟩)))
   refine ifB c (λbj c=>?_) λbj c=>?_
   ·refine w1 ?_;obtain⟨aL,a8,c⟩:=D0 c;refine eX (iV aL) (aI (w09 _ _ _ (C0 y z C) _  a8) ?_);obtain⟨ea,aZ,c⟩:=D0 c;have db:I0 aL:=N0 aZ;refine ifB c (λbk c=>?_) λbk c=>?_;·cases c;cases d;exact aI rfl ((((j.trans i).trans f).trans g).trans e)
    cases c;exact aI (aI rfl rfl) (eX [_,_,_] (aI ⟨⟨rfl,trivial⟩,⟨rfl,Nat.lt.base 2⟩,trivial⟩ (aI ⟨rfl,rfl,rfl,trivial⟩ ⟨_,_,_,_,_,rfl,rfl,(J5.mono e n),((((j.trans i).trans f).trans g).trans e)⟩)))
   refine ifB c (λbm c=>?_) λbm c=>?_
   ·refine trM c (x03 _ _ _ (C0 y z C) _ _ _ _ (K0.mono e l)) ?_;rintro b5 c el bD ⟨cI,rfl,aa⟩;obtain⟨eJ,eN⟩:=b5;dsimp only at c aa;have L:Sub az bD:=aa.sub;have bP:=aa.r;obtain⟨eK,eL,ck,cR,eM,rfl,rfl,bs,bt,bQ,ds⟩:=opG bP;try dsimp only at c
    refine trG c (λq=>T02 _ _ _ (C0 bs bt bQ) _ _ (C0 u w (M0.mono (e.trans L) p))) λeO c=>?_;refine ifB c (λbn c=>?_) λbn c=>?_;·cases c;cases d;exact aI rfl (((((j.trans i).trans f).trans g).trans e).trans L)
    cases c;exact aI (aI rfl rfl) (eX [_,_,_] (aI ⟨⟨rfl,trivial⟩,⟨rfl,Nat.lt.base 2⟩,trivial⟩ (aI ⟨rfl,rfl,rfl,trivial⟩ ⟨_,_,_,_,_,rfl,rfl,(J5.mono (e.trans L) n),(((((j.trans i).trans f).trans g).trans e).trans L)⟩)))
   refine ifB c (λbq c=>?_) λbq c=>?_;·cases c;cases d;exact aI rfl ((((j.trans i).trans f).trans g).trans e)
   cases c;exact aI (aI rfl rfl) (eX [_,_,_] (aI ⟨⟨rfl,trivial⟩,⟨rfl,Nat.lt.base 2⟩,trivial⟩ (aI ⟨rfl,rfl,rfl,trivial⟩ ⟨_,_,_,_,_,rfl,rfl,(J5.mono e n),((((j.trans i).trans f).trans g).trans e)⟩)))
  cases c;exact aI (aI rfl rfl) (eX [_,_,_] (aI ⟨⟨rfl,trivial⟩,⟨rfl,Nat.lt.base 2⟩,trivial⟩ (aI ⟨rfl,rfl,rfl,trivial⟩ ⟨_,_,_,_,_,rfl,rfl,n,(((j.trans i).trans f).trans g)⟩)))
 rintro bx ay ⟨cD,cE,cs,bU,ty,rfl,rfl,I,g⟩;obtain⟨bV,bW,aP,bK,aU,bX,aQ,bL,aV,bY,aR,bM,aW,bZ,b0,b1,aS,bN,aX,b2,b3,rfl,rfl,D,t,o,l,s,u,w,p,E⟩:=B7 I;obtain⟨rfl,bG⟩:=sL o;obtain⟨rfl,bH⟩:=sL l;obtain⟨rfl,bI⟩:=sL s;obtain⟨rfl,bJ⟩:=sL p;try dsimp only at d
 refine trM d (S0b _ _ _ _ _ ((Wp.slice Wp.u8).mono g A)) ?_;rintro b7 d em dh ⟨cK,cL,rfl,aB,aC,m⟩;obtain⟨eU,e5⟩:=b7;dsimp only at d aB aC;obtain⟨eV,eW,cm,dO,cU,eY,cn,dP,cV,eZ,co,dQ,cW,e0,e1,e2,cq,dR,cX,e3,e4,rfl,rfl,aj,ak,Q,S,T,al,am,U,an⟩:=B7 aB;obtain⟨rfl,du⟩:=sL Q;obtain⟨rfl,dv⟩:=sL S;obtain⟨rfl,dw⟩:=sL T;obtain⟨rfl,dx⟩:=sL U;try dsimp only at d
 obtain⟨e6,e7,cr,dS,cY,e8,ct,dU,cZ,e9,cu,dV,c0,fa,fb,fc,cv,dW,c1,fd,fe,rfl,rfl,ao,ap,V,W,X,aq,ar,Y,au⟩:=B7 aC;obtain⟨rfl,dy⟩:=sL V;obtain⟨rfl,dz⟩:=sL W;obtain⟨rfl,dA⟩:=sL X;obtain⟨rfl,dB⟩:=sL Y;try dsimp only at d
 refine trV d (I0d _ _ _ _ _ ((Wp.slice Wp.u8).mono (g.trans m) A)) λb8 d=>?_;obtain⟨eb,a0,d⟩:=D0 d;have av:I0 b8:=N0 a0;refine w1 ?_;obtain⟨aM,ba,d⟩:=D0 d;refine eX (.string aM) (aI (R0f _ _ _ (A3 D t (Q1.mono m o) (K0.mono m l) (K0.mono m s) u w (M0.mono m p) E) _  ba) ?_);obtain⟨ec,a1,d⟩:=D0 d;have dc:aM.size<=9223372036854775807:=N0 a1;obtain⟨aN,bb,d⟩:=D0 d;refine eX (.string aN) (aI (P0f _ _ _ (A3 D t (Q1.mono m o) (K0.mono m l) (K0.mono m s) u w (M0.mono m p) E) _  bb) ?_);obtain⟨ed,a2,d⟩:=D0 d;have dd:aN.size<=9223372036854775807:=N0 a2;refine trG d (λq=>V0f _ _ _ (A3 aj ak Q S T al am U an) _ _ (A3 ao ap V W X aq ar Y au)) λff d=>?_;refine trG d (λq=>x09 _ _ _ (A3 aj ak Q S T al am U an) _ _ (A3 ao ap V W X aq ar Y au)) λfg d=>?_;refine trG d (λq=>F07 _ _ av) λca d=>?_;obtain⟨ee,a3,d⟩:=D0 d;have df:ca.size<=9223372036854775807:=N0 a3;refine trG d (λq=>d0b _ _ av) λcb d=>?_;obtain⟨ef,a4,d⟩:=D0 d;have dg:cb.size<=9223372036854775807:=N0 a4;cases d;exact aI rfl (g.trans m)
end Go.Proofs.YthkpbcnhdhfifaaGreat
