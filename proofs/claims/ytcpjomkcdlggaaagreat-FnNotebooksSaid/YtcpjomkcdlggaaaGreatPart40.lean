/- Texts of the claim, joined: The walks of batch bs1 and others. -/
import Derived.Test.YtcpjomkcdlggaaaGreatH53
import Derived.Test.YtcpjomkcdlggaaaGreatPart24
import Derived.Test.YtcpjomkcdlggaaaGreatPart22
import Derived.Test.YtcpjomkcdlggaaaGreatChecked
import Derived.Test.YtcpjomkcdlggaaaGreatH35
import Derived.Test.YtcpjomkcdlggaaaGreatPart36
import Derived.Test.YtcpjomkcdlggaaaGreatPart38
import Derived.Test.YtcpjomkcdlggaaaGreatPart39
import Derived.Test.YtcpjomkcdlggaaaGreatPart27
import Derived.Test.YtcpjomkcdlggaaaGreatPart21
import Derived.Test.YtcpjomkcdlggaaaGreatSE
import Derived.Test.YtcpjomkcdlggaaaGreatH40
import Derived.Test.YtcpjomkcdlggaaaGreatH41
import Derived.Test.YtcpjomkcdlggaaaGreatH45
namespace Go.Proofs.YtcpjomkcdlggaaaGreat
set_option linter.all false
open Go.H
open IntKind (i64)
set_option maxRecDepth 10000
set_option maxHeartbeats 0
def V0k(h:Hp)(X:List Value)(ac:z0)(bc:L1.R h X ac)(r:S0)(d:R04 ac=some r):
  Tr Tryz.prog 183 #[.agg X.toArray] h λv h'=>∃(U:Option Addr) (ab W:Nat),v = .slice U ab W/\M0.R h' [.slice U ab W] r/\Sub h h':=by
 obtain⟨u,w,bp,bu,x,rfl,rfl,K,aa,ad,b1⟩:=opG bc
 unfold R04 at d
 dsimp only at d
 refine wk Tryz.f183 ?_
 refine trV d (F7 _ _ _ (C0 K aa ad)) λcz d=>?_
 refine ifB d (λaS d=>?_) λaS d=>?_
 ·intro cu bO aD
  obtain⟨bt,bG,rfl,bk,bn,cb⟩:=Y0.out (r:=J1.toRp) aD (show F2 (J1.R h) ([]:LV) ([]:S0) from trivial)
  cases d
  exact⟨_,_,_,rfl,bk,bn⟩
 ·refine trM d (j05 _ _ K) ?_
  rintro m d cy ba ⟨V,cd,Y,rfl,q,y⟩
  obtain⟨rfl,b6⟩:=sL q
  obtain⟨S,aQ,d⟩:=B0 d
  refine eX { vars:=[3,6],owns:=[1],pubs:=[3,9] } (eX (λvs os h'=>∃(G:Option Addr) (L I:Nat) (z:S0) (j:Int) (E:LV) (A:List Int),vs.tail = [.slice G L I,iV j]/\os = [E]/\Sub ba h'/\M0.R h' [.slice G L I] z/\F0 j/\F2 (Wp.int.R h') E A/\T00 m u w x (N1 vs) z j A=some S) (eX (λ_ _=>0) ?_))
  intro ct bM aB
  obtain⟨an,av,rfl,bi,ai,b8⟩:=Y0.out (r:=J1.toRp) aB (F2.up (r:=J1.toRp) y (show F2 (J1.R h) ([]:LV) ([]:S0) from trivial))
  refine aI (eX P0 ⟨an,(([]:S0)).length,av,([]:S0),0,([[iV 0]]:LV),[0],rfl,rfl,ai,bi,(by decide),(F2.up (r:=Wp.int.toRp) (y.trans ai) (show F2 (Wp.int.R h) ([[iV 0]]:LV) [0] from⟨⟨rfl,(by decide)⟩,trivial⟩)),aQ⟩) ?_
  rintro _ _ E t a4 ⟨G,L,I,z,j,cH,A,⟨⟩,⟨⟩,i,N,bI,Z,b⟩
  replace b:T00 m u w x t z j A=some S:=b
  obtain _|t:=t
  ·cases b
  rw[T00.eq_2]at b
  obtain⟨rfl,b2⟩:=sL N
  obtain⟨bb,aF,b⟩:=B0 b
  obtain rfl:E.length=bb:=(fL Z).trans (oJ aF)
  obtain⟨cf,bH,b⟩:=B0 b
  refine ifB b (λaU b=>?_) λaU b=>?_
  ·obtain⟨T,aR,b⟩:=B0 b
   refine eX { vars:=[3,7],owns:=[1] } (eX (λvs os h'=>∃ H M J C k Q D,vs.tail = [.slice H M J,iV k]/\os = [Q]/\Sub a4 h'/\M0.R h' [.slice H M J] C/\F0 k/\F2 (Wp.int.R h') Q D/\I7 m j u w x (N1 vs) C k D=some T) (eX (λ_ _=>0) (aI (eX P0 ⟨_,_,_,_,_,_,_,rfl,rfl,sr,N,(by decide),Z,aR⟩) ?_)))
   rintro _ _ Q l o ⟨H,M,J,C,k,cI,D,⟨⟩,⟨⟩,f,p,bJ,e,a⟩
   replace a:I7 m j u w x l C k D=some T:=a
   obtain _|l:=l
   ·cases a
   rw[I7.eq_2]at a
   obtain⟨rfl,b3⟩:=sL p
   refine ifB a (λaV a=>?_) λaV a=>?_
   ·refine w1 ?_
    obtain⟨cA,aJ,a⟩:=B0 a
    obtain⟨ao,bv,aw,bd⟩:=L3 e aJ
    refine aI ao ?_
    obtain⟨rfl,aZ⟩:=bd
    refine eX _ (aI aw ?_)
    refine ldI a (I0.mono (i.trans f) q) λcC a0 a=>?_
    obtain⟨c,aK,a⟩:=B0 a
    refine eX (iV c) (aI (W6 _ _ _ (C0 K aa (M0.mono ((y.trans i).trans f) ad)) _ aZ _ a0 _  aK) ?_)
    obtain⟨cg,aG,a⟩:=B0 a
    have g:F0 c:=K0 aG
    obtain⟨bo,aL,a⟩:=B0 a
    refine eX (.bool bo) (aI ?_ ?_)
    ·intro aY
     intro cv bN aC
     obtain⟨bs,bE,rfl,bj,cs,ca⟩:=Y0.out (r:=Wp.int.toRp) aC e
     exact i05 _ _ _ _ _ bj _ g _ (Z3 aL aY)
    refine ifB a (λaW a=>?_) λaW a=>?_
    ·exact V1 l ⟨_,_,_,_,_,_,_,rfl,rfl,f,p,(J0 _),e,a⟩
    ·obtain⟨ch,aH,a⟩:=B0 a
     refine aI (M1 aH (by first|rw[fL e,fL (show F2 (Wp.int.R o) ([[iV c]]:LV) [c] from⟨⟨rfl,g⟩,trivial⟩)]|exact congrArg (·+1) (fL e))) ?_
     refine ldI a (I0.mono (i.trans f) q) λcD bK a=>?_
     refine ifB a (λaX a=>?_) λaX a=>?_
     ·refine w5 11 ?_
      obtain⟨al,aM,a⟩:=B0 a
      obtain⟨ap,bx,ax,be⟩:=L3 (fA e (show F2 (Wp.int.R o) ([[iV c]]:LV) [c] from⟨⟨rfl,g⟩,trivial⟩)) aM
      obtain⟨rfl,a1⟩:=be
      refine Or.inl ?_
      apply eX
      refine aI ?_ ?_
      ·intro bP ci
       exact aI ap r3
      refine pm (.val (iV al)) ?_ ?_
      ·intro bQ cj
       exact eX _ (aI ax r3)
      obtain⟨am,aN,a⟩:=B0 a
      obtain⟨aq,bz,ay,bf⟩:=Sl.getI (r:=Wp.int.toRp) (I0.mono (i.trans f) q) aN (by decide)
      obtain⟨rfl,a2⟩:=bf
      refine pm (.hel (.slice V m.length Y) k 1 0) ?_ ?_
      ·intro bR ck
       exact aI aq r3
      refine pm (.val (iV am)) ?_ ?_
      ·intro bS bl
       exact eX _ (aI (O8.up bl ay) r3)
      refine pm (.agg [.val (iV al),.val (iV am),.val (iV c)]) ?_ ?_
      ·intro bU cl
       exact r3
      intro a5 O
      refine trM a (a02 _ _ _ _ _ (M0.mono O p) _ _ (U1 a1 a2 g)) ?_
      rintro cE a cw a6 ⟨bq,cc,bC,rfl,aj⟩
      have ag:Sub a5 a6:=aj.sub
      have ae:=aj.r
      obtain⟨rfl,b5⟩:=sL ae
      exact V1 l ⟨_,_,_,_,_,_,_,rfl,rfl,((f.trans O).trans ag),ae,(J0 _),(F2.up (r:=Wp.int.toRp) (O.trans ag) (fA e (show F2 (Wp.int.R o) ([[iV c]]:LV) [c] from⟨⟨rfl,g⟩,trivial⟩))),a⟩
     ·refine w5 12 ?_
      obtain⟨s,aO,a⟩:=B0 a
      obtain⟨ar,bA,az,bg⟩:=Sl.getI (r:=Wp.int.toRp) (I0.mono (i.trans f) q) aO (by decide)
      obtain⟨rfl,bL⟩:=bg
      refine pm (.hel (.slice V m.length Y) k 1 0) ?_ ?_
      ·intro bV cm
       exact aI ar r3
      refine pm (.val (iV s)) ?_ ?_
      ·intro bW bm
       exact eX _ (aI (O8.up bm az) r3)
      refine pm (.val (iV (i64.wrap (0-s)))) ?_ ?_
      ·intro bX cn
       exact r3
      obtain⟨F,aP,a⟩:=B0 a
      obtain⟨au,bB,aA,bh⟩:=L3 (fA e (show F2 (Wp.int.R o) ([[iV c]]:LV) [c] from⟨⟨rfl,g⟩,trivial⟩)) aP
      obtain⟨rfl,a3⟩:=bh
      refine Or.inl ?_
      apply eX
      refine aI ?_ ?_
      ·intro bY co
       exact aI au r3
      refine pm (.val (iV F)) ?_ ?_
      ·intro bZ cq
       exact eX _ (aI aA r3)
      refine pm (.agg [.val (iV c),.val (iV (i64.wrap (0-s))),.val (iV F)]) ?_ ?_
      ·intro b0 cr
       exact r3
      intro a7 P
      refine trM a (a02 _ _ _ _ _ (M0.mono P p) [iV c,iV (i64.wrap (0-s)),iV F] (c,(i64.wrap (0-s)),F) (U1 g (J0 _) a3)) ?_
      rintro cG a cx a8 ⟨br,ce,bD,rfl,ak⟩
      have ah:Sub a7 a8:=ak.sub
      have af:=ak.r
      obtain⟨rfl,b7⟩:=sL af
      exact V1 l ⟨_,_,_,_,_,_,_,rfl,rfl,((f.trans P).trans ah),af,(J0 _),(F2.up (r:=Wp.int.toRp) (P.trans ah) (fA e (show F2 (Wp.int.R o) ([[iV c]]:LV) [c] from⟨⟨rfl,g⟩,trivial⟩))),a⟩
   ·cases a
    try dsimp only[Q0,T0]at b
    exact V1 t ⟨_,_,_,_,_,_,_,rfl,rfl,(i.trans f),p,(J0 _),e,b⟩
  ·cases b
   try dsimp only[Q0,T0]at d
   cases d
   exact⟨_,_,_,rfl,N,(y.trans i)⟩
def z09(h:Hp)(F:List Value)(P:z0)(ae:L1.R h F P)(r:S0)(d:E01 P=some r):
  Tr Tryz.prog 145 #[.agg F.toArray] h λv h'=>∃(D:Option Addr) (O E:Nat),v = .slice D O E/\M0.R h' [.slice D O E] r/\Sub h h':=by
 obtain⟨Q,S,aq,av,m,rfl,rfl,I,J,o,aM⟩:=opG ae
 unfold E01 at d
 dsimp only at d
 refine wk Tryz.f145 ?_
 refine trM d (V0k _ _ _ (C0 I J o)) ?_
 rintro u d aS N ⟨ar,aP,az,rfl,T,p⟩
 obtain⟨rfl,aN⟩:=sL T
 obtain⟨C,Z,d⟩:=B0 d
 refine eX { vars:=[5],owns:=[0] } (eX (λvs os h'=>∃ f z t,vs.tail = [iV f]/\os = [z]/\Sub N h'/\F0 f/\F2 (J1.R h') z t/\F6 m Q S u (N1 vs) f t=some C) (eX (λ_ _=>0) (aI (eX P0 ⟨_,_,_,rfl,rfl,sr,(by decide),(show F2 (J1.R N) ([]:LV) ([]:S0) from trivial),Z⟩) ?_)))
 rintro _ z i ad ⟨f,aY,t,⟨⟩,⟨⟩,e,aC,g,a⟩
 replace a:F6 m Q S u i f t=some C:=a
 obtain _|i:=i
 ·cases a
 rw[F6.eq_2]at a
 refine trG a (λq=>F7 _ _ _ (C0 I J (M0.mono (p.trans e) o))) λaX a=>?_
 refine ifB a (λaa a=>?_) λaa a=>?_
 ·obtain⟨A,Y,a⟩:=B0 a
  refine eX { vars:=[6,7] } (eX (λvs os h'=>∃ s j,vs.tail = [.bool s,iV j]/\os = []/\Sub ad h'/\F0 j/\M7 u m f (N1 vs) s j=some A) (eX (λ_ _=>0) (aI (eX P0 ⟨_,_,rfl,rfl,sr,(by decide),Y⟩) ?_)))
  rintro _ _ l k ⟨s,j,⟨⟩,⟨⟩,c,aB,b⟩
  replace b:M7 u m f l s j=some A:=b
  obtain _|l:=l
  ·cases b
  rw[M7.eq_2]at b
  refine ifB b (λab b=>?_) λab b=>?_
  ·refine w1 ?_
   obtain⟨aU,W,b⟩:=B0 b
   obtain⟨aw,G,af⟩:=Sl.getG (r:=J1.toRp) (M0.mono (e.trans c) T) W (by decide) (Y0a k)
   refine aI (λq=>(G q).1) ?_
   obtain⟨ak,al,am,rfl,rfl,aD,aF,aG⟩:=C2 af
   try dsimp only at b
   refine eX _ (aI (λq=>(G q).2) ?_)
   obtain⟨aV,X,b⟩:=B0 b
   obtain⟨ax,H,ag⟩:=Sl.getG (r:=J1.toRp) (M0.mono ((p.trans e).trans c) o) X (by decide) (Y0a k)
   refine aI (λq=>(H q).1) ?_
   obtain⟨an,ao,ap,rfl,rfl,aH,aJ,aK⟩:=C2 ag
   try dsimp only at b
   refine eX _ (aI (λq=>(H q).2) ?_)
   refine eX (eqE (ak,al,am) (an,ao,ap)) (aI (λ_=>(k0b _ _ _ rfl _ _ _ _ _ _)) ?_)
   exact V1 l ⟨_,_,rfl,rfl,c,(J0 _),b⟩
  ·cases b
   try dsimp only[Q0,T0]at a
   refine ifB a (λac a=>?_) λac a=>?_
   ·refine ld a (M0.mono ((p.trans e).trans c) o) λaW ay ah a=>?_
    obtain⟨w,x,y,rfl,rfl,K,L,M⟩:=C2 ah
    try dsimp only at a
    obtain⟨aQ,V,a⟩:=B0 a
    refine aI (M1 V (by first|rw[fL (F2.up (r:=J1.toRp) c g),fL (show F2 (J1.R k) ([[iV w,iV x,iV y]]:LV) [(w,x,y)] from⟨(U1 K L M),trivial⟩)]|exact congrArg (·+1) (fL (F2.up (r:=J1.toRp) c g)))) ?_
    exact V1 i ⟨_,_,_,rfl,rfl,(e.trans c),(J0 _),(fA (F2.up (r:=J1.toRp) c g) (show F2 (J1.R k) ([[iV w,iV x,iV y]]:LV) [(w,x,y)] from⟨(U1 K L M),trivial⟩)),a⟩
   ·exact V1 i ⟨_,_,_,rfl,rfl,(e.trans c),(J0 _),(F2.up (r:=J1.toRp) c g),a⟩
 ·cases a
  try dsimp only[Q0,T0]at d
  intro aR aL U
  obtain⟨au,aA,rfl,ai,aj,aO⟩:=Y0.out (r:=J1.toRp) U g
  cases d
  exact⟨_,_,_,rfl,ai,((p.trans e).trans aj)⟩
def v0l(h:Hp)(V:List Value)(ae:z0)(aL:L1.R h V ae)(W:List Value)(ag:O0)(aM:J1.R h W ag)(r:H0)(a:y05 ae ag=some r):
  Tr Tryz.prog 146 #[.agg V.toArray,.agg W.toArray] h λv h'=>∃(T:Option Addr) (ad U:Nat),v = .slice T ad U/\I0.R h' [.slice T ad U] r/\Sub h h':=by
 obtain⟨bc,bd,aZ,a1,af,rfl,rfl,j,k,i,ba⟩:=opG aL
 obtain⟨K,c,L,rfl,rfl,ab,C,ac⟩:=C2 aM
 unfold y05 at a
 dsimp only at a
 refine wk Tryz.f146 ?_
 obtain⟨S,ar,a⟩:=B0 a
 refine eX { vars:=[5,6] } (eX (λvs os h'=>∃ E x,vs.tail = [.bool E,iV x]/\os = []/\Sub h h'/\F0 x/\D00 af K c L (N1 vs) E x=some S) (eX (λ_ _=>0) (aI (eX P0 ⟨_,_,rfl,rfl,sr,(by decide),ar⟩) ?_)))
 rintro _ _ D g ⟨E,x,⟨⟩,⟨⟩,d,a4,b⟩
 replace b:D00 af K c L D E x=some S:=b
 obtain _|D:=D
 ·cases b
 rw[D00.eq_2]at b
 refine ifB b (λau b=>?_) λau b=>?_
 ·refine w1 ?_
  obtain⟨bk,ap,b⟩:=B0 b
  obtain⟨a2,X,aN⟩:=Sl.getG (r:=J1.toRp) (M0.mono d i) ap (by decide) (Y0a g)
  refine aI (λq=>(X q).1) ?_
  obtain⟨aW,aX,aY,rfl,rfl,a5,a6,a7⟩:=C2 aN
  try dsimp only at b
  refine eX _ (aI (λq=>(X q).2) ?_)
  refine eX (eqE (aW,aX,aY) (K,c,L)) (aI (λ_=>(k0b _ _ _ rfl _ _ _ _ _ _)) ?_)
  exact V1 D ⟨_,_,rfl,rfl,d,(J0 _),b⟩
 ·cases b
  try dsimp only[Q0,T0]at a
  refine trV a (F7 _ _ _ (C0 j k (M0.mono d i))) λbl a=>?_
  refine ifB a (λav a=>?_) λav a=>?_
  ·intro bf a8 ao
   obtain⟨a0,a3,rfl,aO,aP,bb⟩:=Y0.out (r:=Wp.int.toRp) ao (show F2 (Wp.int.R g) ([]:LV) ([]:H0) from trivial)
   cases a
   exact⟨_,_,_,rfl,aO,(d.trans aP)⟩
  ·refine w3 ?_
   obtain⟨bg,z,a⟩:=B0 a
   obtain⟨be,Y,a⟩:=B0 a
   obtain⟨bh,A,a⟩:=B0 a
   obtain⟨bi,Z,a⟩:=B0 a
   obtain⟨bj,aa,a⟩:=B0 a
   refine aI ?_ ?_
   ·skip
    refine Tr.mono (Q05 _ _ _ (C0 j k (M0.mono d i)) _ ab _  z) ?_
    rintro aQ l ⟨z,aD,aj,rfl,e⟩
    have O:Sub g l:=e.sub
    have M:=e.r
    obtain⟨rfl,ay⟩:=sL M
    refine aI (by first|exact trivial|exact rfl) ?_
    refine aI ?_ trivial
    refine aI (by first|exact trivial|exact rfl) ?_
    refine aI ?_ trivial
    obtain⟨Q,N,m,F⟩:=New.app e sr
    refine eX Q (aI N (aI (M1 Y (by first|rw[m,fL (show F2 (Wp.int.R l) ([[iV c]]:LV) [c] from⟨⟨rfl,C⟩,trivial⟩)]|(rw[m];rfl))) ?_))
    intro aV J H
    obtain⟨f,aq,aK,aJ,an,rfl⟩:=F _ _ _ _ _ (F3.ofPlain (n05 _) (show F2 (Wp.int.R l) ([[iV c]]:LV) [c] from⟨⟨rfl,C⟩,trivial⟩)) R4.ofPlain H
    have t:=f.r
    obtain⟨G,aC⟩:=sL t
    subst G
    refine aI (by first|exact trivial|exact rfl) ?_
    refine aI ?_ trivial
    refine Tr.mono (Q05 _ _ _ (C0 j k (M0.mono (d.trans f.sub) i)) _ ac _  A) ?_
    rintro aR I ⟨A,aF,ak,rfl,y⟩
    have u:Sub J I:=y.sub
    have o:=y.r
    obtain⟨rfl,az⟩:=sL o
    refine aI (by first|exact trivial|exact rfl) ?_
    refine aI ?_ trivial
    refine Tr.mono (B04 _ _ _ _ _ o _  Z) ?_
    rintro aS aw ⟨ah,aG,al,rfl,p,w⟩
    obtain⟨rfl,aA⟩:=sL p
    refine aI (by first|exact trivial|exact rfl) ?_
    refine aI ?_ trivial
    refine Tr.mono (d03 _ _ _ _ _ (I0.mono (u.trans w) t) _ _ _ _ p _  aa) ?_
    rintro aU ax ⟨ai,aH,am,rfl,s,P⟩
    obtain⟨rfl,aB⟩:=sL s
    refine aI (by first|exact trivial|exact rfl) ?_
    refine aI ?_ trivial
    refine aI (by first|exact trivial|exact rfl) ?_
    cases a
    exact⟨_,_,_,rfl,s,((((d.trans f.sub).trans u).trans w).trans P)⟩
   refine aI ?_ ?_
   ·skip
    refine aI (by first|exact trivial|exact rfl) ?_
    refine aI ?_ trivial
    refine Tr.mono (Q05 _ _ _ (C0 j k (M0.mono d i)) _ ab _  z) ?_
    rintro aQ l ⟨z,aD,aj,rfl,e⟩
    have O:Sub g l:=e.sub
    have M:=e.r
    obtain⟨rfl,ay⟩:=sL M
    refine aI (by first|exact trivial|exact rfl) ?_
    refine aI ?_ trivial
    obtain⟨Q,N,m,F⟩:=New.app e sr
    refine eX Q (aI N (aI (M1 Y (by first|rw[m,fL (F2.up (r:=Wp.int.toRp) O (show F2 (Wp.int.R g) ([[iV c]]:LV) [c] from⟨⟨rfl,C⟩,trivial⟩))]|(rw[m];rfl))) ?_))
    intro aV J H
    obtain⟨f,aq,aK,aJ,an,rfl⟩:=F _ _ _ _ _ (F3.ofPlain (n05 _) (F2.up (r:=Wp.int.toRp) O (show F2 (Wp.int.R g) ([[iV c]]:LV) [c] from⟨⟨rfl,C⟩,trivial⟩))) R4.ofPlain H
    have t:=f.r
    obtain⟨G,aC⟩:=sL t
    subst G
    refine aI (by first|exact trivial|exact rfl) ?_
    refine aI ?_ trivial
    refine Tr.mono (Q05 _ _ _ (C0 j k (M0.mono (d.trans f.sub) i)) _ ac _  A) ?_
    rintro aR I ⟨A,aF,ak,rfl,y⟩
    have u:Sub J I:=y.sub
    have o:=y.r
    obtain⟨rfl,az⟩:=sL o
    refine aI (by first|exact trivial|exact rfl) ?_
    refine aI ?_ trivial
    refine Tr.mono (B04 _ _ _ _ _ o _  Z) ?_
    rintro aS aw ⟨ah,aG,al,rfl,p,w⟩
    obtain⟨rfl,aA⟩:=sL p
    refine aI (by first|exact trivial|exact rfl) ?_
    refine aI ?_ trivial
    refine Tr.mono (d03 _ _ _ _ _ (I0.mono (u.trans w) t) _ _ _ _ p _  aa) ?_
    rintro aU ax ⟨ai,aH,am,rfl,s,P⟩
    obtain⟨rfl,aB⟩:=sL s
    refine aI (by first|exact trivial|exact rfl) ?_
    refine aI ?_ trivial
    refine aI (by first|exact trivial|exact rfl) ?_
    cases a
    exact⟨_,_,_,rfl,s,((((d.trans f.sub).trans u).trans w).trans P)⟩
   exact trivial
def W0k(h:Hp)(x:List Value)(C:z0)(ag:L1.R h x C)(r:O1)(b:S04 C=some r):
  Tr Tryz.prog 76 #[.agg x.toArray] h λv h'=>∃(t:Option Addr) (A w:Nat),v = .slice t A w/\T1.R h' [.slice t A w] r/\Sub h h':=by
 obtain⟨D,E,av,az,F,rfl,rfl,k,l,m,aP⟩:=opG ag
 unfold S04 at b
 dsimp only at b
 refine wk Tryz.f76 ?_
 refine trV b (Y6 _ _ _ (C0 k l m)) λa5 b=>?_
 refine ifB b (λZ b=>?_) λZ b=>?_
 ·intro a2 aN T
  obtain⟨ay,aD,rfl,ak,ap,aV⟩:=Y0.out (r:=I0.toRp) T (show F2 (I0.R h) ([]:LV) ([]:O1) from trivial)
  cases b
  exact⟨_,_,_,rfl,ak,ap⟩
 ·refine trM b (z09 _ _ _ (C0 k l m)) ?_
  rintro q b a4 ad ⟨K,aX,O,rfl,H,o⟩
  obtain⟨rfl,aQ⟩:=sL H
  obtain⟨s,X,b⟩:=B0 b
  refine eX { vars:=[5],owns:=[0] } (eX (λvs os h'=>∃ c p j,vs.tail = [iV c]/\os = [p]/\Sub ad h'/\F0 c/\F2 (I0.R h') p j/\Y9 q D E F (N1 vs) c j=some s) (eX (λ_ _=>0) (aI (eX P0 ⟨_,_,_,rfl,rfl,sr,(by decide),(F2.up (r:=I0.toRp) o (show F2 (I0.R h) ([]:LV) ([]:O1) from trivial)),X⟩) ?_)))
  rintro _ p f aG ⟨c,a7,j,⟨⟩,⟨⟩,i,aF,e,a⟩
  replace a:Y9 q D E F f c j=some s:=a
  obtain _|f:=f
  ·cases a
  rw[Y9.eq_2]at a
  refine ifB a (λY a=>?_) λY a=>?_
  ·refine w4 ?_
   obtain⟨a6,V,a⟩:=B0 a
   obtain⟨M,aA,Q,ah⟩:=Sl.getI (r:=J1.toRp) (M0.mono i H) V (by decide)
   obtain⟨aq,ar,au,rfl,rfl,aa,ab,ac⟩:=C2 ah
   try dsimp only at a
   refine pm (.hel (.slice K q.length O) c 3 0) ?_ ?_
   ·intro aH a0
    exact aI M r3
   refine pm (.agg [.val (iV aq),.val (iV ar),.val (iV au)]) ?_ ?_
   ·intro aJ al
    exact eX _ (aI (O8.up al Q) r3)
   obtain⟨d,W,a⟩:=B0 a
   refine fS I0 d ?_ ?_
   ·intro aK am
    refine Tr.mono (v0l _ _ _ (C0 k l (M0.mono ((o.trans i).trans am) m)) _ _ (U1 aa ab ac) _ W) ?_
    rintro _ aO ⟨J,aW,N,rfl,G,an⟩
    obtain⟨rfl,ae⟩:=sL G
    exact aI t6 (aI an ⟨J,N,rfl,G,ae⟩)
   refine fS I0 d ?_ ?_
   ·intro aL a1
    rintro _ ⟨L,P,rfl,ai,af⟩
    exact aI t6 (aI sr ⟨L,P,rfl,ai,af⟩)
   intro z g
   rintro _ ⟨u,y,rfl,I,aR⟩
   rintro _ ⟨aw,aB,rfl,aZ,aS⟩
   obtain⟨aY,U,a⟩:=B0 a
   refine aI (M1 U (by first|rw[fL (F2.up (r:=I0.toRp) g e),fL (show F2 (I0.R z) ([[.slice u d.length y]]:LV) [d] from⟨I,trivial⟩)]|exact congrArg (·+1) (fL (F2.up (r:=I0.toRp) g e)))) ?_
   exact V1 f ⟨_,_,_,rfl,rfl,(i.trans g),(J0 _),(fA (F2.up (r:=I0.toRp) g e) (show F2 (I0.R z) ([[.slice u d.length y]]:LV) [d] from⟨I,trivial⟩)),a⟩
  ·cases a
   try dsimp only[Q0,T0]at b
   intro a3 aM S
   obtain⟨ax,aC,rfl,aj,ao,aU⟩:=Y0.out (r:=I0.toRp) S e
   cases b
   exact⟨_,_,_,rfl,aj,((o.trans i).trans ao)⟩
def J06(h:Hp)(b:Int)(o:F0 b)(d:Option Addr)(g e:Nat)(i:O1)(j:T1.R h [.slice d g e] i)(r:z0×Bool)(a:j00 b i=some r):
  Tr Tryz.prog 13 #[iV b,.slice d g e] h λv h'=>∃(f:List Value),v = .tuple #[.agg f.toArray,.bool r.2]/\New L1 h h' f r.1:=by
 obtain⟨rfl,I⟩:=sL j
 unfold j00 at a
 refine wk Tryz.f13 ?_
 refine trM a (F0i _ _ o _ _ _ _ j) ?_
 rintro A a N u ⟨E,rfl,k,l⟩
 obtain⟨P,U⟩:=A
 dsimp only at a k
 obtain⟨Q,S,C,G,T,rfl,rfl,p,q,x,J⟩:=opG k
 try dsimp only at a
 refine ifB a (λm a=>?_) λm a=>?_
 ·cases a
  exact⟨_,rfl,(nP (nI (show F0 (0) from(by decide))) (nP (nI (show F0 (0) from(by decide))) ((New.nilSlice (r:=J1)).mono l)))⟩
 ·refine trM a (k05 _ _ _ (C0 p q x)) ?_
  rintro V a O w ⟨F,rfl,c⟩
  have M:Sub u w:=c.sub
  have y:=c.r
  obtain⟨W,X,D,H,Y,rfl,rfl,s,t,L,K⟩:=opG y
  try dsimp only at a
  have z:=nD (nD (c))
  cases a
  exact⟨_,rfl,(nP (nI s) (nP (nI t) (New.from z l)))⟩
def U01(h:Hp)(g:List Value)(k:z0)(u:L1.R h g k)(e:Option Addr)(j f:Nat)(l:O1)(o:T1.R h [.slice e j f] l)(r:Bool)(a:G6 k l=some r):
  Tr Tryz.prog 74 #[.agg g.toArray,.slice e j f] h λv h'=>v = .bool r/\h'=h:=by
 obtain⟨I,J,z,C,K,rfl,rfl,b,i,m,F⟩:=opG u
 obtain⟨rfl,G⟩:=sL o
 unfold G6 at a
 dsimp only at a
 refine wkF Tryz.f74 ?_
 refine trM a (J06 _ _ b _ _ _ _ o) ?_
 rintro y a L t ⟨D,rfl,d⟩
 obtain⟨M,Q⟩:=y
 dsimp only at a d
 have c:Sub h t:=d.sub
 have w:=d.r
 obtain⟨N,O,A,E,P,rfl,rfl,p,s,x,H⟩:=opG w
 try dsimp only at a
 refine trG a (λq=>Y6 _ _ _ (C0 b i (M0.mono c m))) λS a=>?_
 refine trG a (λq=>Z03 _ _ _ (C0 b i (M0.mono c m)) _ _ (C0 p s x)) λT a=>?_
 cases a
 exact aI rfl c
def a0f(h:Hp)(k:List Value)(p:z0)(D:L1.R h k p)(i:Option Addr)(o j:Nat)(f:O1)(w:T1.R h [.slice i o j] f)(r:Bool)(b:u02 p f=some r):
  Tr Tryz.prog 77 #[.agg k.toArray,.slice i o j] h λv h'=>v = .bool r/\h'=h:=by
 obtain⟨q,s,F,H,t,rfl,rfl,l,m,u,M⟩:=opG D
 obtain⟨rfl,N⟩:=sL w
 unfold u02 at b
 dsimp only at b
 refine wkF Tryz.f77 ?_
 obtain⟨g,z,b⟩:=B0 b
 refine eX { vars:=[5] } (eX (λvs os h'=>∃ d,vs.tail = [iV d]/\os = []/\Sub h h'/\F0 d/\n7 f q s t (N1 vs) d=some g) (eX (λ_ _=>0) (aI (eX P0 ⟨_,rfl,rfl,sr,(by decide),z⟩) ?_)))
 rintro _ e L ⟨d,⟨⟩,⟨⟩,c,K,a⟩
 replace a:n7 f q s t e d=some g:=a
 obtain _|e:=e
 ·cases a
 rw[n7.eq_2]at a
 refine ifB a (λA a=>?_) λA a=>?_
 ·refine w1 ?_
  refine ld a (T1.mono c w) λP I x a=>?_
  obtain⟨G,J,rfl,O⟩:=slL x
  obtain⟨E,y,a⟩:=B0 a
  refine eX (.bool E) (aI (q04 _ _ _ (C0 l m (M0.mono c u)) _ _ _ _ x _  y) ?_)
  refine ifB a (λC a=>?_) λC a=>?_
  ·cases a
   try dsimp only[P2,l3]at b
   cases b
   exact aI rfl c
  ·exact V1 e ⟨_,rfl,rfl,c,(J0 _),a⟩
 ·cases a
  try dsimp only[Q0,T0]at b
  refine trV b (Y6 _ _ _ (C0 l m (M0.mono c u))) λQ b=>?_
  cases b
  exact aI rfl c
def P09(h:Hp)(b:List Value)(c:z0)(g:L1.R h b c)(r:Int)(a:e02 c=some r):
  Tr Tryz.prog 15 #[.agg b.toArray] h λv h'=>v=iV r/\h'=h:=by
 obtain⟨m,o,j,k,p,rfl,rfl,e,f,i,l⟩:=opG g
 unfold e02 at a
 dsimp only at a
 refine wkF Tryz.f15 ?_
 refine trV a (Y6 _ _ _ (C0 e f i)) λq a=>?_
 refine ifB a (λd a=>?_) λd a=>?_
 ·cases a
  exact aI rfl sr
 ·cases a
  exact aI rfl sr
def Q0c(h:Hp)(b:List Value)(c:z0)(g:L1.R h b c)(r:Int)(a:D03 c=some r):
  Tr Tryz.prog 16 #[.agg b.toArray] h λv h'=>v=iV r/\h'=h:=by
 obtain⟨m,o,j,k,p,rfl,rfl,e,f,i,l⟩:=opG g
 unfold D03 at a
 dsimp only at a
 refine wkF Tryz.f16 ?_
 refine trV a (P0c _ _ _ (C0 e f i)) λq a=>?_
 refine ifB a (λd a=>?_) λd a=>?_
 ·cases a
  exact aI rfl sr
 ·cases a
  exact aI rfl sr
def K06(h:Hp)(D:List Value)(J:P1)(aK:Y1.R h D J)(r:Bool)(a:k00 J=some r):
  Tr Tryz.prog 12 #[.agg D.toArray] h λv h'=>v = .bool r/\h'=h:=by
 obtain⟨b7,b8,bc,bZ,bl,ca,bd,b0,bm,cb,be,b1,bn,cc,cd,ce,bf,b2,bo,cf,cg,rfl,rfl,bv,I,m,s,K,i,j,f,bx⟩:=Y2 aK
 obtain⟨rfl,bP⟩:=sL m
 obtain⟨rfl,bQ⟩:=sL s
 obtain⟨rfl,bR⟩:=sL K
 obtain⟨rfl,bS⟩:=sL f
 unfold k00 at a
 dsimp only at a
 refine wkF Tryz.f12 ?_
 refine trV a (M07 _ _ I _ _ _ _ m) λcn a=>?_
 refine trG a (λq=>f02 _ _ I _ _ _ _ s) λco a=>?_
 refine trG a (λq=>Y6 _ _ _ (C0 i j f)) λcu a=>?_
 refine ifB a (λao a=>?_) λao a=>?_
 ·cases a
  exact aI rfl sr
 ·refine ifB a (λaq a=>?_) λaq a=>?_
  ·refine w4 ?_
   obtain⟨ba,aj,a⟩:=B0 a
   refine pm (.val (.bool ba)) ?_ ?_
   ·intro bO P
    exact Tr.val (U01 _ _ _ (C0 i j (M0.mono P f)) _ _ _ _ (T1.mono P m) _ aj) r3
   obtain⟨bb,ak,a⟩:=B0 a
   refine fS T1 bb ?_ ?_
   ·intro bD aU w
    refine Tr.mono (W0k _ _ _ (C0 i j (M0.mono aU f)) _ (Z3 ak w)) ?_
    rintro _ y ⟨U,b6,Y,rfl,N,g⟩
    obtain⟨rfl,aF⟩:=sL N
    exact aI t6 (aI g ⟨U,Y,rfl,N,aF⟩)
   obtain⟨a0,ad,a⟩:=B0 a
   refine fS I0 a0 ?_ ?_
   ·intro bE aV w
    rintro _ ⟨bg,bq,rfl,aN,bU⟩
    refine Tr.mono (J0i _ _ _ _ _ aN _ _ _ _ (I0.mono aV K) _ (Z3 ad w)) ?_
    rintro _ y ⟨S,b3,W,rfl,L,g⟩
    obtain⟨rfl,aC⟩:=sL L
    exact aI t6 (aI g ⟨S,W,rfl,L,aC⟩)
   obtain⟨a1,ae,a⟩:=B0 a
   refine pm (.val (.bool a1)) ?_ ?_
   ·intro bG aW w
    rintro _ ⟨bh,br,rfl,aO,bV⟩
    exact Tr.val (z04 _ _ _ _ _ aO _ _ _ _ (I0.mono aW s) _ (Z3 ae w)) r3
   intro bH aX
   cases a
   exact aI rfl aX
  ·refine ifB a (λal a=>?_) λal a=>?_
   ·refine trV a (a0f _ _ _ (C0 i j f) _ _ _ _ m) λcq a=>?_
    refine trG a (λq=>q04 _ _ _ (C0 i j f) _ _ _ _ s) λcr a=>?_
    cases a
    exact aI rfl sr
   ·refine ifB a (λam a=>?_) λam a=>?_
    ·refine trV a (U01 _ _ _ (C0 i j f) _ _ _ _ m) λcs a=>?_
     refine trG a (λq=>q04 _ _ _ (C0 i j f) _ _ _ _ s) λct a=>?_
     cases a
     exact aI rfl sr
    ·refine ifB a (λan a=>?_) λan a=>?_
     ·refine w5 10 ?_
      obtain⟨a2,af,a⟩:=B0 a
      refine fS I0 a2 ?_ ?_
      ·intro bI aY
       refine Tr.mono (B04 _ _ _ _ _ (I0.mono aY s) _ af) ?_
       rintro _ y ⟨T,b5,X,rfl,M,g⟩
       obtain⟨rfl,aD⟩:=sL M
       exact aI t6 (aI g ⟨T,X,rfl,M,aD⟩)
      obtain⟨a3,ag,a⟩:=B0 a
      obtain⟨a4,z⟩:=a3
      try dsimp only at a
      obtain⟨o,p,d⟩:=a4
      try dsimp only at a
      refine Or.inr (eX (λv k=>∃(l:Value),v = .tuple #[l,.bool z]/\(λv k=>∃(b:Option Addr) (c:Nat),v = .agg #[iV o,iV p,.slice b d.length c]/\F0 o/\F0 p/\M0.R k [.slice b d.length c] d/\d.length<=9223372036854775807) l k) (aI (λv G H g q=>by obtain⟨l,e,x⟩:=q;exact⟨l,e,(by obtain⟨b,c,e,t,u,f2,f3⟩:=x;exact⟨b,c,e,t,u,M0.mono g f2,f3⟩)⟩) (aI ?_ ?_)))
      ·intro bJ aZ
       rintro _ ⟨bi,bs,rfl,aP,bW⟩
       refine Tr.mono (E05 _ _ _ (C0 i j (M0.mono aZ f)) _ _ _ _ aP _ ag) ?_
       rintro _ y ⟨bp,rfl,Q⟩
       have g:=Q.sub
       have aL:=Q.r
       obtain⟨cw,cx,A,E,cy,rfl,aa,au,av,aM,aG⟩:=opG aL
       cases aa
       exact aI t6 (aI g ⟨(.agg #[iV o,iV p,.slice A d.length E]),rfl,⟨A,E,rfl,au,av,aM,aG⟩⟩)
      refine Or.inr (eX (λv k=>∃(l:Value),v = .tuple #[l,.bool z]/\(λv k=>∃(b:Option Addr) (c:Nat),v = .agg #[iV o,iV p,.slice b d.length c]/\F0 o/\F0 p/\M0.R k [.slice b d.length c] d/\d.length<=9223372036854775807) l k) (aI (λv G H g q=>by obtain⟨l,e,x⟩:=q;exact⟨l,e,(by obtain⟨b,c,e,t,u,f2,f3⟩:=x;exact⟨b,c,e,t,u,M0.mono g f2,f3⟩)⟩) (aI ?_ ?_)))
      ·intro bK ck
       rintro _ ⟨_,rfl,⟨C,F,rfl,aw,ax,aQ,aH⟩⟩
       exact aI t6 (aI sr ⟨(.agg #[iV o,iV p,.slice C d.length F]),rfl,⟨C,F,rfl,aw,ax,aQ,aH⟩⟩)
      refine Or.inr (eX (λv k=>∃(b:Option Addr) (c:Nat),v = .agg #[iV o,iV p,.slice b d.length c]/\F0 o/\F0 p/\M0.R k [.slice b d.length c] d/\d.length<=9223372036854775807) (aI (λv G H g q=>by obtain⟨b,c,e,t,u,f2,f3⟩:=q;exact⟨b,c,e,t,u,M0.mono g f2,f3⟩) (aI ?_ ?_)))
      ·intro bL cl
       rintro _ ⟨_,rfl,⟨V,Z,rfl,ay,az,aR,aJ⟩⟩
       exact aI t6 (aI sr ⟨V,Z,rfl,ay,az,aR,aJ⟩)
      refine pm (.val (.bool z)) ?_ ?_
      ·intro bM cm
       rintro _ ⟨_,rfl,⟨bj,bt,rfl,bB,bC,cj,bX⟩⟩
       exact r3
      intro bN O
      rintro _ ⟨bk,bu,rfl,aA,aB,aS,bY⟩
      rintro _ _
      rintro _ _
      rintro _ _
      refine trG a (λq=>U01 _ _ _ (C0 aA aB aS) _ _ _ _ (T1.mono O m)) λcv a=>?_
      cases a
      exact aI rfl O
     ·refine ifB a (λap a=>?_) λap a=>?_
      ·refine w1 ?_
       obtain⟨a5,ah,a⟩:=B0 a
       refine eX (.bool a5) (aI (U01 _ _ _ (C0 i j f) _ _ _ _ m _  ah) ?_)
       refine trG a (λq=>P09 _ _ _ (C0 i j f)) λa6 a=>?_
       obtain⟨ch,ab,a⟩:=B0 a
       have bz:F0 a6:=K0 ab
       cases a
       exact aI rfl sr
      ·refine ifB a (λar a=>?_) λar a=>?_
       ·refine w1 ?_
        obtain⟨a7,ai,a⟩:=B0 a
        refine eX (.bool a7) (aI (U01 _ _ _ (C0 i j f) _ _ _ _ m _  ai) ?_)
        refine trG a (λq=>Q0c _ _ _ (C0 i j f)) λa8 a=>?_
        obtain⟨ci,ac,a⟩:=B0 a
        have bA:F0 a8:=K0 ac
        cases a
        exact aI rfl sr
       ·cases a
        exact aI rfl sr
def V08(h:Hp)(p:List Value)(w:C1)(T:G3.R h p w)(r:H0)(c:V00 w=some r):
  Tr Tryz.prog 40 #[.agg p.toArray] h λv h'=>∃(m:Option Addr) (u o:Nat),v = .slice m u o/\I0.R h' [.slice m u o] r/\Sub h h':=by
 obtain⟨x,ac,aU,am,y,rfl,rfl,aA,j⟩:=I2 T
 obtain⟨rfl,aJ⟩:=sL j
 unfold V00 at c
 dsimp only at c
 refine wk Tryz.f40 ?_
 obtain⟨l,K,c⟩:=B0 c
 refine eX { vars:=[4],owns:=[0] } (eX (λvs os h'=>∃ b k g,vs.tail = [iV b]/\os = [k]/\Sub h h'/\F0 b/\F2 (Wp.int.R h') k g/\Q5 y x (N1 vs) b g=some l) (eX (λ_ _=>0) (aI (eX P0 ⟨_,_,_,rfl,rfl,sr,(by decide),(show F2 (Wp.int.R h) ([]:LV) ([]:H0) from trivial),K⟩) ?_)))
 rintro _ k e i ⟨b,br,g,⟨⟩,⟨⟩,f,t,d,a⟩
 replace a:Q5 y x e b g=some l:=a
 obtain _|e:=e
 ·cases a
 rw[Q5.eq_2]at a
 refine ifB a (λM a=>?_) λM a=>?_
 ·refine w1 ?_
  obtain⟨a5,I,a⟩:=B0 a
  obtain⟨E,an,F,U⟩:=Sl.getI (r:=Y1.toRp) (M3.mono f j) I (by decide)
  refine aI E ?_
  obtain⟨a6,a7,ad,aV,ap,a8,ae,aW,aq,ba,af,aX,ar,bb,bc,bd,ag,aY,au,be,bf,rfl,rfl,aB,aC,V,W,X,aD,aF,Y,aG⟩:=Y2 U
  obtain⟨rfl,aK⟩:=sL V
  obtain⟨rfl,aL⟩:=sL W
  obtain⟨rfl,aM⟩:=sL X
  obtain⟨rfl,aN⟩:=sL Y
  try dsimp only at a
  refine eX _ (aI F ?_)
  obtain⟨bg,J,a⟩:=B0 a
  obtain⟨ao,s,Z⟩:=Sl.getG (r:=Y1.toRp) (M3.mono f j) J (by decide) (M0w i)
  refine aI (λq=>(s q).1) ?_
  obtain⟨bh,bi,ah,aZ,av,bj,ai,a0,aw,bk,aj,a1,ax,bl,bm,bn,ak,a2,ay,bo,bp,rfl,rfl,N,O,z,A,C,P,Q,D,S⟩:=Y2 Z
  obtain⟨rfl,aO⟩:=sL z
  obtain⟨rfl,aP⟩:=sL A
  obtain⟨rfl,aQ⟩:=sL C
  obtain⟨rfl,aR⟩:=sL D
  try dsimp only at a
  refine eX _ (aI (λq=>(s q).2) ?_)
  refine trG a (λq=>K06 _ _ _ (Q2 N O z A C P Q D S)) λbq a=>?_
  refine ifB a (λL a=>?_) λL a=>?_
  ·obtain⟨a3,H,a⟩:=B0 a
   refine aI (M1 H (by first|rw[fL d,fL (show F2 (Wp.int.R i) ([[iV b]]:LV) [b] from⟨⟨rfl,t⟩,trivial⟩)]|exact congrArg (·+1) (fL d))) ?_
   exact V1 e ⟨_,_,_,rfl,rfl,f,(J0 _),(fA d (show F2 (Wp.int.R i) ([[iV b]]:LV) [b] from⟨⟨rfl,t⟩,trivial⟩)),a⟩
  ·exact V1 e ⟨_,_,_,rfl,rfl,f,(J0 _),d,a⟩
 ·cases a
  try dsimp only[Q0,T0]at c
  intro a4 aH G
  obtain⟨al,az,rfl,aa,ab,aS⟩:=Y0.out (r:=Wp.int.toRp) G d
  cases c
  exact⟨_,_,_,rfl,aa,(f.trans ab)⟩
def L06(h:Hp)(d:List Value)(f:C1)(q:G3.R h d f)(r:Bool)(a:G01 f=some r):
  Tr Tryz.prog 41 #[.agg d.toArray] h λv h'=>v = .bool r/\h'=h:=by
 obtain⟨P,x,N,z,g,rfl,rfl,e,i⟩:=I2 q
 obtain⟨rfl,L⟩:=sL i
 unfold G01 at a
 dsimp only at a
 refine wkF Tryz.f41 ?_
 refine aI (by kernel_rfl) ?_
 obtain⟨w,m,a⟩:=B0 a
 refine pm (.val (.bool w)) ?_ ?_
 ·intro G V
  exact Tr.val (Q4 _ _ e 1 (by decide) 3 (by decide) _ m) r3
 refine pm (.val (iV ((g.length:Nat):Int))) ?_ ?_
 ·intro H W b
  exact r3
 refine pm (.val (.bool (decide (((g.length:Nat):Int)<=12)))) ?_ ?_
 ·intro I X b
  exact r3
 obtain⟨c,o,a⟩:=B0 a
 refine fS I0 c ?_ ?_
 ·intro J s b
  refine Tr.mono (V08 _ _ _ (Q1 e (M3.mono s i)) _ (Z3 o b)) ?_
  rintro _ K ⟨k,O,l,rfl,j,u⟩
  obtain⟨rfl,p⟩:=sL j
  exact aI t6 (aI u ⟨k,l,rfl,j,p⟩)
 obtain⟨Q,C,a⟩:=B0 a
 refine pm (.val (iV ((c.length:Nat):Int))) ?_ ?_
 ·intro D T b
  rintro _ ⟨y,A,rfl,S,M⟩
  exact r3
 refine pm (.val (.bool (decide (((c.length:Nat):Int)=0)))) ?_ ?_
 ·intro E U b
  exact r3
 intro F t
 cases a
 exact aI rfl t
def K8(h:Hp)(d:List Value)(i:z0)(o:L1.R h d i)(r:z0)(a:W4 i=some r):
  Tr Tryz.prog 126 #[.agg d.toArray] h λv h'=>∃(f:Nat) (g c:Nat),v = .agg ([iV r.1,iV r.2.1,.slice (some ⟨f,0,none⟩) g c]:List Value).toArray/\New L1 h h' [iV r.1,iV r.2.1,.slice (some ⟨f,0,none⟩) g c] r:=by
 obtain⟨A,C,s,t,D,rfl,rfl,l,m,p,y⟩:=opG o
 unfold W4 at a
 dsimp only at a
 refine wk Tryz.f126 ?_
 refine w3 ?_
 refine aI ?_ trivial
 refine aI (by first|exact trivial|exact rfl) ?_
 refine aI ?_ trivial
 obtain⟨q,j,b⟩:=Sl.rows (r:=J1.toRp) p
 refine eX q (aI j ?_)
 obtain⟨E,k,a⟩:=B0 a
 refine aI (M1 k (by first|rw[fL (show F2 (J1.R h) ([]:LV) ([]:S0) from trivial),fL b]|exact congrArg (·+1) (fL (show F2 (J1.R h) ([]:LV) ([]:S0) from trivial)))) ?_
 refine aI (by first|exact trivial|exact rfl) ?_
 refine aI ?_ trivial
 refine aI (by first|exact trivial|exact rfl) ?_
 refine aI ?_ trivial
 refine aI (by first|exact trivial|exact rfl) ?_
 intro H x e
 obtain⟨w,u,rfl,F,G,z⟩:=Y0.outS (r:=J1.toRp) e (fA (show F2 (J1.R h) ([]:LV) ([]:S0) from trivial) b)
 cases a
 exact⟨_,_,_,rfl,(nP (nI l) (nP (nI m) (Y0.newPlain (r:=J1) e (fA (show F2 (J1.R h) ([]:LV) ([]:S0) from trivial) b) (O09 _))))⟩
def K0i(h:Hp)(j:List Value)(k:z0)(u:L1.R h j k)(e:Int)(E:F0 e)(r:Int)(c:d04 k e=some r):
  Tr Tryz.prog 179 #[.agg j.toArray,iV e] h λv h'=>v=iV r/\h'=h:=by
 obtain⟨L,M,y,z,l,rfl,rfl,C,D,w,K⟩:=opG u
 unfold d04 at c
 dsimp only at c
 refine wkF Tryz.f179 ?_
 obtain⟨i,m,c⟩:=B0 c
 refine eX { vars:=[5,11] } (eX (λvs os h'=>∃ f g,vs.tail = [iV f,iV g]/\os = []/\Sub h h'/\F0 f/\F0 g/\R6 l e (N1 vs) f g=some i) (eX (λ_ _=>0) (aI (eX P0 ⟨_,_,rfl,rfl,sr,(by decide),(by decide),m⟩) ?_)))
 rintro _ _ b J ⟨f,g,⟨⟩,⟨⟩,d,t,F,a⟩
 replace a:R6 l e b f g=some i:=a
 obtain _|b:=b
 ·cases a
 rw[R6.eq_2]at a
 refine ifB a (λp a=>?_) λp a=>?_
 ·refine ld a (M0.mono d w) λN A x a=>?_
  obtain⟨O,P,Q,rfl,rfl,G,H,I⟩:=C2 x
  try dsimp only at a
  refine ifB a (λq a=>?_) λq a=>?_
  ·refine ifB a (λs a=>?_) λs a=>?_
   ·exact V1 b ⟨_,_,rfl,rfl,d,(J0 _),(J0 _),a⟩
   ·exact V1 b ⟨_,_,rfl,rfl,d,(J0 _),(J0 _),a⟩
  ·refine ifB a (λo a=>?_) λo a=>?_
   ·exact V1 b ⟨_,_,rfl,rfl,d,(J0 _),(J0 _),a⟩
   ·exact V1 b ⟨_,_,rfl,rfl,d,t,(J0 _),a⟩
 ·cases a
  try dsimp only[Q0,T0]at c
  cases c
  exact aI rfl d
def l05(h:Hp)(j:Option Addr)(o l:Nat)(f:S0)(q:M0.R h [.slice j o l] f)(k:Option Addr)(p m:Nat)(g:S0)(s:M0.R h [.slice k p m] g)(r:Bool)(b:I4 f g=some r):
  Tr Tryz.prog 128 #[.slice j o l,.slice k p m] h λv h'=>v = .bool r/\h'=h:=by
 obtain⟨rfl,S⟩:=sL q
 obtain⟨rfl,T⟩:=sL s
 unfold I4 at b
 refine wkF Tryz.f128 ?_
 refine ifB b (λu b=>?_) λu b=>?_
 ·cases b
  exact aI rfl sr
 ·obtain⟨i,t,b⟩:=B0 b
  refine eX { vars:=[13] } (eX (λvs os h'=>∃ d,vs.tail = [iV d]/\os = []/\Sub h h'/\F0 d/\J2 f g (N1 vs) d=some i) (eX (λ_ _=>0) (aI (eX P0 ⟨_,rfl,rfl,sr,(by decide),t⟩) ?_)))
  rintro _ e Q ⟨d,⟨⟩,⟨⟩,c,J,a⟩
  replace a:J2 f g e d=some i:=a
  obtain _|e:=e
  ·cases a
  rw[J2.eq_2]at a
  refine ifB a (λw a=>?_) λw a=>?_
  ·refine w1 ?_
   refine ld a (M0.mono c q) λU H y a=>?_
   obtain⟨A,C,D,rfl,rfl,K,L,M⟩:=C2 y
   try dsimp only at a
   refine ld a (M0.mono c s) λV I z a=>?_
   obtain⟨E,F,G,rfl,rfl,N,O,P⟩:=C2 z
   try dsimp only at a
   refine eX (!eqE (A,C,D) (E,F,G)) (aI (c0o _ _ _ rfl _ _ _ _ _ _) ?_)
   refine ifB a (λx a=>?_) λx a=>?_
   ·cases a
    try dsimp only[P2,l3]at b
    cases b
    exact aI rfl c
   ·exact V1 e ⟨_,rfl,rfl,c,(J0 _),a⟩
  ·cases a
   try dsimp only[Q0,T0]at b
   cases b
   exact aI rfl c
def Z05(h:Hp)(b:List Value)(d:z0)(f:L1.R h b d)(c:List Value)(e:z0)(i:L1.R h c e)(r:Bool)(a:G9 d e=some r):
  Tr Tryz.prog 54 #[.agg b.toArray,.agg c.toArray] h λv h'=>v = .bool r/\h'=h:=by
 obtain⟨y,z,k,m,A,rfl,rfl,p,s,g,w⟩:=opG f
 obtain⟨C,D,l,o,E,rfl,rfl,t,u,j,x⟩:=opG i
 unfold G9 at a
 dsimp only at a
 refine wkF Tryz.f54 ?_
 refine trG a (λq=>l05 _ _ _ _ _ g _ _ _ _ j) λF a=>?_
 cases a
 exact aI rfl sr
def J0d(h:Hp)(E:List Value)(H:z0)(ai:L1.R h E H)(l:Int)(aJ:F0 l)(r:(List Bool))(e:R01 H l=some r):
  Tr Tryz.prog 178 #[.agg E.toArray,iV l] h λv h'=>∃(C:Option Addr) (G D:Nat),v = .slice C G D/\(Wp.slice Wp.bool).R h' [.slice C G D] r/\Sub h h':=by
 obtain⟨aR,I,av,ax,k,rfl,rfl,aG,aH,aj,aP⟩:=opG ai
 unfold R01 at e
 dsimp only at e
 refine wk Tryz.f178 ?_
 obtain⟨aS,W,e⟩:=B0 e
 refine aI (K0 W) ?_
 obtain⟨aZ,Z,e⟩:=B0 e
 obtain⟨M,aB,S,an⟩:=L3 (F2.rep (p:=Wp.bool.R h) (a:=[.bool false]) (b:=false) rfl (I.toNat)) Z
 refine aI M ?_
 obtain rfl:=an
 refine eX _ (aI S ?_)
 obtain⟨z,ac,e⟩:=B0 e
 refine eX { vars:=[6],owns:=[0],kept:=[0] } (eX (λvs os h'=>∃ s y t,vs.tail = [.bool s]/\os = [y]/\Sub h h'/\F2 (Wp.bool.R h') y t/\w6 k (N1 vs) s t=some z) (eX (λ_ _=>0) (aI (eX P0 ⟨_,_,_,rfl,rfl,sr,(F2.set (p:=Wp.bool.R h) (a:=[.bool true]) (b:=true) rfl l.toNat (F2.rep (p:=Wp.bool.R h) (a:=[.bool false]) (b:=false) rfl (I.toNat))),ac⟩) ?_)))
 rintro _ y j ah ⟨s,a3,t,⟨⟩,⟨⟩,w,F,d⟩
 replace d:w6 k j s t=some z:=d
 obtain _|j:=j
 ·cases d
 rw[w6.eq_2]at d
 refine ifB d (λag d=>?_) λag d=>?_
 ·obtain⟨A,ad,d⟩:=B0 d
  refine eX { vars:=[6,19],owns:=[0],kept:=[0] } (eX (λvs os h'=>∃ o i x q,vs.tail = [.bool o,iV i]/\os = [x]/\Sub ah h'/\F0 i/\F2 (Wp.bool.R h') x q/\p5 k (N1 vs) o i q=some A) (eX (λ_ _=>0) (aI (eX P0 ⟨_,_,_,_,rfl,rfl,sr,(by decide),F,ad⟩) ?_)))
  rintro _ _ x g u ⟨o,i,a2,q,⟨⟩,⟨⟩,m,aK,f,c⟩
  replace c:p5 k g o i q=some A:=c
  obtain _|g:=g
  ·cases c
  rw[p5.eq_2]at c
  refine ifB c (λae c=>?_) λae c=>?_
  ·refine ld c (M0.mono (w.trans m) aj) λaV ay ak c=>?_
   obtain⟨J,aW,au,rfl,rfl,aL,aM,aN⟩:=C2 ak
   try dsimp only at c
   refine w1 ?_
   obtain⟨aX,X,c⟩:=B0 c
   obtain⟨K,az,P,al⟩:=L3 f X
   refine aI K ?_
   obtain rfl:=al
   refine eX _ (aI P ?_)
   obtain⟨aY,Y,c⟩:=B0 c
   obtain⟨L,aA,Q,am⟩:=L3 f Y
   refine aI L ?_
   obtain rfl:=am
   refine eX _ (aI Q ?_)
   refine ifB c (λaf c=>?_) λaf c=>?_
   ·obtain⟨a0,aa,c⟩:=B0 c
    obtain⟨N,aC,T,ao⟩:=L3 f aa
    refine aI N ?_
    obtain rfl:=ao
    refine eX _ (aI T ?_)
    obtain⟨a1,ab,c⟩:=B0 c
    obtain⟨O,aD,U,ap⟩:=L3 (F2.set (p:=Wp.bool.R u) (a:=[.bool true]) (b:=true) rfl J.toNat f) ab
    refine aI O ?_
    obtain rfl:=ap
    refine eX _ (aI U ?_)
    exact V1 g ⟨_,_,_,_,rfl,rfl,m,(J0 _),(F2.set (p:=Wp.bool.R u) (a:=[.bool true]) (b:=true) rfl au.toNat (F2.set (p:=Wp.bool.R u) (a:=[.bool true]) (b:=true) rfl J.toNat f)),c⟩
   ·exact V1 g ⟨_,_,_,_,rfl,rfl,m,(J0 _),f,c⟩
  ·cases c
   try dsimp only[Q0,T0]at d
   exact V1 j ⟨_,_,_,rfl,rfl,(w.trans m),f,d⟩
 ·cases d
  try dsimp only[Q0,T0]at e
  intro aU aO V
  obtain⟨aw,aF,rfl,aq,ar,aQ⟩:=Y0.out (r:=Wp.bool.toRp) V F
  cases e
  exact⟨_,_,_,rfl,aq,(w.trans ar)⟩
def R0c(h:Hp)(d:Int)(C:F0 d)(r:H0)(c:m01 d=some r):
  Tr Tryz.prog 181 #[iV d] h λv h'=>∃(k:Option Addr) (p l:Nat),v = .slice k p l/\I0.R h' [.slice k p l] r/\Sub h h':=by
 unfold m01 at c
 refine wk Tryz.f181 ?_
 obtain⟨j,u,c⟩:=B0 c
 refine eX { vars:=[4],owns:=[0] } (eX (λvs os h'=>∃ a i g,vs.tail = [iV a]/\os = [i]/\Sub h h'/\F0 a/\F2 (Wp.int.R h') i g/\O9 d (N1 vs) a g=some j) (eX (λ_ _=>0) (aI (eX P0 ⟨_,_,_,rfl,rfl,sr,(by decide),(show F2 (Wp.int.R h) ([]:LV) ([]:H0) from trivial),u⟩) ?_)))
 rintro _ i f o ⟨a,H,g,⟨⟩,⟨⟩,q,m,e,b⟩
 replace b:O9 d f a g=some j:=b
 obtain _|f:=f
 ·cases b
 rw[O9.eq_2]at b
 refine ifB b (λw b=>?_) λw b=>?_
 ·obtain⟨F,t,b⟩:=B0 b
  refine aI (M1 t (by first|rw[fL e,fL (show F2 (Wp.int.R o) ([[iV a],[iV (i64.wrap (0-a))]]:LV) [a,(i64.wrap (0-a))] from⟨⟨rfl,m⟩,⟨⟨rfl,(J0 _)⟩,trivial⟩⟩)]|exact congrArg (·+2) (fL e))) ?_
  exact V1 f ⟨_,_,_,rfl,rfl,q,(J0 _),(fA e (show F2 (Wp.int.R o) ([[iV a],[iV (i64.wrap (0-a))]]:LV) [a,(i64.wrap (0-a))] from⟨⟨rfl,m⟩,⟨⟨rfl,(J0 _)⟩,trivial⟩⟩)),b⟩
 ·cases b
  try dsimp only[Q0,T0]at c
  intro G D s
  obtain⟨z,A,rfl,x,y,E⟩:=Y0.out (r:=Wp.int.toRp) s e
  cases c
  exact⟨_,_,_,rfl,x,(q.trans y)⟩
def q07(h:Hp)(c:Option Addr)(k e:Nat)(l:S0)(p:M0.R h [.slice c k e] l)(r:S0)(a:b02 l=some r):
  Tr Tryz.prog 193 #[.slice c k e] h λv h'=>∃(b:Option Addr) (j d:Nat),v = .slice b j d/\New M0 h h' [.slice b j d] r:=by
 obtain⟨rfl,F⟩:=sL p
 unfold b02 at a
 refine wk Tryz.f193 ?_
 obtain⟨w,q,f⟩:=Sl.rows (r:=J1.toRp) p
 refine eX w (aI q ?_)
 obtain⟨I,t,a⟩:=B0 a
 refine aI (M1 t (by first|rw[fL (show F2 (J1.R h) ([]:LV) ([]:S0) from trivial),fL f]|exact congrArg (·+1) (fL (show F2 (J1.R h) ([]:LV) ([]:S0) from trivial)))) ?_
 refine Or.inl ?_
 intro O C s
 obtain⟨J,u,a⟩:=B0 a
 refine Tr.mono (p0q _ s (fA (show F2 (J1.R h) ([]:LV) ([]:S0) from trivial) f) (K0 u)) ?_
 rintro _ D ⟨rfl,P,g,m⟩
 obtain⟨x,z,rfl,K,M,G⟩:=Y0.out (r:=J1.toRp) g m
 refine Tr.mono (q0q _ g m) ?_
 rintro _ E ⟨Q,i,o⟩
 obtain⟨y,A,rfl,L,N,H⟩:=Y0.out (r:=J1.toRp) i o
 cases a
 exact⟨_,_,_,rfl,(Y0.newPlain (r:=J1) i o (O09 _))⟩
theorem S0c(h:Hp)(csp0:List Value)(p0:z0)(rp0:L1.R h csp0 p0)(ap1:Option Addr)(np1 cp1:Nat)(p1:H0)(rp1:I0.R h [.slice ap1 np1 cp1] p1)(r:z0)(hM0:J04 p0 p1=some r):
  Tr Tryz.prog 175 #[.agg csp0.toArray,.slice ap1 np1 cp1] h λv h'=>∃(cs0:List Value),v = .agg cs0.toArray/\New L1 h h' cs0 r:=by
 obtain⟨p0_0,p0_1,ap0_2,np0_2,cp0_2,p0_2,rfl,rfl,ip0_0,ip0_1,rp0_2⟩:=W0 rp0
 obtain⟨rfl,lp0_2⟩:=Sl.len rp0_2
 obtain⟨rfl,lp1⟩:=Sl.len rp1
 unfold J04 at hM0
 dsimp only at hM0
 refine E4 (args:=[.agg #[.int .i64 p0_0,.int .i64 p0_1,.slice ap0_2 p0_2.length cp0_2],.slice ap1 p1.length cp1]) (fn:=Tryz.f175) rfl ?_
 obtain⟨q1,gq1,hM0⟩:=B0 hM0
 refine aI (K0 gq1) ?_
 obtain⟨m2,gm2,hM0⟩:=B0 hM0
 obtain rfl:(List.replicate p0_1.toNat ([.int .i64 0]:List Value)).length=m2:=(F2.length (F2.rep (p:=Wp.int.R h) (a:=[.int .i64 0]) (b:=0) ⟨rfl,(by decide)⟩ (p0_1.toNat))).trans (oJ gm2)
 obtain⟨q3,gq3,hM0⟩:=B0 hM0
 obtain⟨X4,hLX4,hM0⟩:=B0 hM0
 refine eX { vars:=[17],boxes:=[],owns:=[0],fuel:=true,kept:=[0] } (eX (λvs os h'=>∃ u5 wu6 u6,vs.tail = [.int .i64 u5]/\os = [wu6]/\Sub h h'/\F0 u5/\F2 (Wp.int.R h') wu6 u6/\d02 ((List.replicate p0_1.toNat ([.int .i64 0]:List Value))).length (N1 vs) u5 u6=some X4) (eX (λ_ _=>0) (aI (eX P0 ⟨0,(List.replicate p0_1.toNat ([.int .i64 0]:List Value)),(List.replicate p0_1.toNat (0:Int)),rfl,rfl,(Sub.refl _),(by decide),(F2.rep (p:=Wp.int.R h) (a:=[.int .i64 0]) (b:=0) ⟨rfl,(by decide)⟩ (p0_1.toNat)),hLX4⟩) ?_)))
 rintro _ wu6 m8 k7 ⟨u5,zzu6,u6,⟨⟩,⟨⟩,sX4,iu5,fu6,hM1⟩
 replace hM1:d02 ((List.replicate p0_1.toNat ([.int .i64 0]:List Value))).length m8 u5 u6=some X4:=hM1
 obtain _|m8:=m8
 ·cases hM1
 rw[d02.eq_2]at hM1
 refine ifB hM1 (λhc9 hM1=>?_) λhc9 hM1=>?_
 ·obtain⟨x10,gx10,hM1⟩:=B0 hM1
  obtain⟨bx10,csx10,ex10,rx10⟩:=L3 fu6 gx10
  refine aI bx10 ?_
  obtain⟨rfl,ix10⟩:=rx10
  refine eX _ (aI ex10 ?_)
  exact V1 m8 ⟨(IntKind.i64.wrap (u5+1)),(wu6.set u5.toNat [.int .i64 (-1)]),(u6.set u5.toNat (-1)),rfl,rfl,sX4,(J0 _),(F2.set (p:=Wp.int.R k7) (a:=[.int .i64 (-1)]) (b:=(-1)) ⟨rfl,(by decide)⟩ u5.toNat fu6),hM1⟩
 ·obtain rfl:=oJ hM1
  try dsimp only[Q0,T0]at hM0
  obtain⟨X11,hLX11,hM0⟩:=B0 hM0
  refine eX { vars:=[26],boxes:=[],owns:=[0],fuel:=true,kept:=[0] } (eX (λvs os h'=>∃ u12 wu13 u13,vs.tail = [.int .i64 u12]/\os = [wu13]/\Sub k7 h'/\F0 u12/\F2 (Wp.int.R h') wu13 u13/\c02 p1 (N1 vs) u12 u13=some X11) (eX (λ_ _=>0) (aI (eX P0 ⟨0,wu6,u6,rfl,rfl,(Sub.refl _),(by decide),fu6,hLX11⟩) ?_)))
  rintro _ wu13 m15 k14 ⟨u12,zzu13,u13,⟨⟩,⟨⟩,sX11,iu12,fu13,hM1⟩
  replace hM1:c02 p1 m15 u12 u13=some X11:=hM1
  obtain _|m15:=m15
  ·cases hM1
  rw[c02.eq_2]at hM1
  refine ifB hM1 (λhc16 hM1=>?_) λhc16 hM1=>?_
  ·refine ldI hM1 (I0.mono (sX4.trans sX11) rp1) λx17 ix17 hM1=>?_
   obtain⟨x18,gx18,hM1⟩:=B0 hM1
   obtain⟨bx18,csx18,ex18,rx18⟩:=L3 fu13 gx18
   refine aI bx18 ?_
   obtain⟨rfl,ix18⟩:=rx18
   refine eX _ (aI ex18 ?_)
   exact V1 m15 ⟨(IntKind.i64.wrap (u12+1)),(wu13.set x17.toNat [.int .i64 u12]),(u13.set x17.toNat u12),rfl,rfl,sX11,(J0 _),(F2.set (p:=Wp.int.R k14) (a:=[.int .i64 u12]) (b:=u12) ⟨rfl,iu12⟩ x17.toNat fu13),hM1⟩
  ·obtain rfl:=oJ hM1
   try dsimp only[Q0,T0]at hM0
   obtain⟨X19,hLX19,hM0⟩:=B0 hM0
   refine eX { vars:=[44],boxes:=[2],owns:=[1],fuel:=true,nilsB:=[(2,2,90,3,24)] } (eX (λvs os h'=>∃ u20 u21 u22 wu23 u23,vs.tail = [.int .i64 u20,.int .i64 u21,.int .i64 u22]/\os = [wu23]/\Sub k14 h'/\F0 u20/\F0 u21/\F0 u22/\F2 (J1.R h') wu23 u23/\e01 p0_2 u13 (N1 vs) u20 u21 u22 u23=some X19) (eX (λ_ _=>0) (aI (eX P0 ⟨0,p0_0,((p1.length:Nat):Int),[],([]:S0),rfl,rfl,(Sub.refl _),(by decide),ip0_0,(g0s lp1),(show F2 (J1.R k14) [] [] from trivial),hLX19⟩) ?_)))
   rintro _ _ _ wu23 m25 k24 ⟨u20,u21,u22,zzu23,u23,⟨⟩,⟨⟩,sX19,iu20,iu21,iu22,fu23,hM1⟩
   replace hM1:e01 p0_2 u13 m25 u20 u21 u22 u23=some X19:=hM1
   obtain _|m25:=m25
   ·cases hM1
   rw[e01.eq_2]at hM1
   refine ifB hM1 (λhc26 hM1=>?_) λhc26 hM1=>?_
   ·refine ld hM1 (M0.mono ((sX4.trans sX11).trans sX19) rp0_2) λx27 csx27 rx27 hM1=>?_
    obtain⟨x27_0,x27_1,x27_2,rfl,rfl,ix27_0,ix27_1,ix27_2⟩:=C2 rx27
    try dsimp only at hM1
    obtain⟨x28,gx28,hM1⟩:=B0 hM1
    obtain⟨bx28,csx28,ex28,rx28⟩:=L3 (F2.up (r:=Wp.int.toRp) sX19 fu13) gx28
    refine aI bx28 ?_
    obtain⟨rfl,ix28⟩:=rx28
    refine eX _ (aI ex28 ?_)
    obtain⟨x29,gx29,hM1⟩:=B0 hM1
    obtain⟨csx29,ex29,rx29⟩:=s05 (F2.up (r:=Wp.int.toRp) sX19 fu13) gx29 (J0f k24)
    refine aI (λq=>(ex29 q).1) ?_
    obtain⟨rfl,ix29⟩:=rx29
    refine eX _ (aI (λq=>(ex29 q).2) ?_)
    refine ifB hM1 (λhc30 hM1=>?_) λhc30 hM1=>?_
    ·refine Or.inr (Or.inr (Or.inr (Or.inr (eX 16 (aI (aI (by kernel_rfl) (by kernel_rfl)) ?_)))))
     obtain⟨x31,gx31,hM1⟩:=B0 hM1
     obtain⟨bx31,csx31,ex31,rx31⟩:=L3 (F2.up (r:=Wp.int.toRp) sX19 fu13) gx31
     obtain⟨rfl,ix31⟩:=rx31
     refine Or.inl ?_
     apply eX
     refine aI ?_ ?_
     ·intro k32 s33
      exact aI bx31 (aI rfl (aI rfl rfl))
     refine Or.inl (eX (.val (.int .i64 x31)) (aI ?_ ?_))
     ·intro k34 s35
      exact eX _ (aI ex31 (aI rfl (aI rfl rfl)))
     obtain⟨x36,gx36,hM1⟩:=B0 hM1
     obtain⟨bx36,csx36,ex36,rx36⟩:=L3 (F2.up (r:=Wp.int.toRp) sX19 fu13) gx36
     obtain⟨rfl,ix36⟩:=rx36
     refine Or.inl ?_
     apply eX
     refine aI ?_ ?_
     ·intro k37 s38
      exact aI bx36 (aI rfl (aI rfl rfl))
     refine Or.inl (eX (.val (.int .i64 x36)) (aI ?_ ?_))
     ·intro k39 s40
      exact eX _ (aI ex36 (aI rfl (aI rfl rfl)))
     refine Or.inl (eX (.agg [.val (.int .i64 x31),.val (.int .i64 x27_1),.val (.int .i64 x36)]) (aI ?_ ?_))
     ·intro k41 s42
      exact aI rfl (aI rfl rfl)
     obtain⟨x43,gx43,hM1⟩:=B0 hM1
     refine Or.inr (eX (λv hh=>∃(a:Option Addr) (c:Nat),v = .slice a x43.length c/\M0.R hh [.slice a x43.length c] x43/\x43.length<=9223372036854775807) (aI (λv h1 h2 sb q=>by obtain⟨a,c,e,r,l⟩:=q;exact⟨a,c,e,M0.mono sb r,l⟩) (aI ?_ ?_)))
     ·intro k44 s45
      have ex43:[(x31,x27_1,x36)]=x43:=oJ gx43
      intro v k hf
      obtain⟨a,c,rfl,r,sb,l⟩:=Y0.out (r:=J1.toRp) (xs:=x43) hf (show F2 (J1.R k44) [[.int .i64 x31,.int .i64 x27_1,.int .i64 x36]] x43 from ex43▸(show F2 (J1.R k44) [[.int .i64 x31,.int .i64 x27_1,.int .i64 x36]] [(x31,x27_1,x36)] from⟨(U1 ix31 ix27_1 ix36),trivial⟩))
      exact aI ⟨rfl,rfl,rfl,[_],rfl⟩ (aI sb ⟨a,c,rfl,r,l⟩)
     intro k46 s47
     rintro _ ⟨az48,cz48,rfl,rz48,lz48⟩
     obtain⟨vsy49,ey49,fy49⟩:=Sl.rows (r:=J1.toRp) rz48
     refine eX vsy49 (aI ey49 ?_)
     obtain⟨q50,gq50,hM1⟩:=B0 hM1
     refine aI (M1 gq50 (by first|rw[F2.length (F2.up (r:=J1.toRp) s47 fu23),F2.length fy49]|exact congrArg (·+1) (F2.length (F2.up (r:=J1.toRp) s47 fu23)))) ?_
     exact V1 m25 ⟨(IntKind.i64.wrap (u20+1)),u21,u22,(wu23++vsy49),(u23++x43),rfl,rfl,(sX19.trans s47),(J0 _),iu21,iu22,(F2.append (F2.up (r:=J1.toRp) s47 fu23) fy49),hM1⟩
    ·exact V1 m25 ⟨(IntKind.i64.wrap (u20+1)),u21,u22,wu23,u23,rfl,rfl,sX19,(J0 _),iu21,iu22,fu23,hM1⟩
   ·obtain rfl:=oJ hM1
    try dsimp only[Q0,T0]at hM0
    refine Or.inl ?_
    intro v51 k52 f53
    obtain⟨az54,cz54,rfl,rz54,sz54,lz54⟩:=Y0.out (r:=J1.toRp) f53 fu23
    refine trM hM0 (q07 _ _ _ _ _ rz54) ?_
    rintro x55 hM0 v57 k56 ⟨ax55,nx55,cx55,rfl,wx55⟩
    have sx55:Sub k52 k56:=wx55.sub
    have rx55:=wx55.r
    obtain⟨rfl,lx55⟩:=Sl.len rx55
    obtain rfl:=oJ hM0
    exact⟨([.int .i64 u21,.int .i64 u22,.slice ax55 x55.length cx55]),rfl,(New.pair (New.int iu21) (New.pair (New.int iu22) (New.from wx55 (((sX4.trans sX11).trans sX19).trans sz54))))⟩
def M06(h:Hp)(X:List Value)(ah:z0)(bd:L1.R h X ah)(j:Int)(a3:F0 j)(r:H0×O1)(e:d9 ah j=some r):
  Tr Tryz.prog 140 #[.agg X.toArray,iV j] h λv h'=>∃(T:Option Addr) (af V:Nat) (U:Option Addr) (ag W:Nat),v = .tuple #[.slice T af V,.slice U ag W]/\I0.R h' [.slice T af V] r.1/\T1.R h' [.slice U ag W] r.2/\Sub h h':=by
 obtain⟨x,i,br,bB,y,rfl,rfl,ab,a2,be,bX⟩:=opG bd
 unfold d9 at e
 dsimp only at e
 refine wk Tryz.f140 ?_
 obtain⟨ck,aK,e⟩:=B0 e
 refine aI (K0 aK) ?_
 obtain⟨cx,aP,e⟩:=B0 e
 obtain⟨au,bD,aA,bg⟩:=L3 (F2.rep (p:=Wp.opt.R h) (a:=[.slice none 0 0]) (b:=none) (F0x h) (i.toNat)) aP
 refine aI au ?_
 obtain⟨bt,cb,bJ,rfl,ch,ba⟩:=bg
 obtain⟨rfl,bZ⟩:=sL ba
 intro cs I aG
 obtain⟨aV,ay,rfl,bo,L,b8⟩:=Y0.outS (r:=Wp.int.toRp) aG (show F2 (Wp.int.R h) ([]:LV) ([]:H0) from trivial)
 refine eX _ (aI aA ?_)
 obtain⟨S,aX,e⟩:=B0 e
 refine eX { vars:=[8],owns:=[0,2],kept:=[0] } (eX (λvs os h'=>∃ u8 O E F A,vs.tail = [iV u8]/\os = [O,F]/\Sub I h'/\F0 u8/\F2 (Wp.opt.R h') O E/\F2 (Wp.int.R h') F A/\D6 x i y (N1 vs) u8 E A=some S) (eX (λ_ _=>0) (aI (eX P0 ⟨_,_,_,_,_,rfl,rfl,sr,(by decide),(F2.set (p:=Wp.opt.R I) (a:=[.slice (some ⟨aV,0,none⟩) (([]:H0)).length ay]) (b:=some ([]:H0)) (G0x bo) j.toNat (F2.up (r:=Wp.opt.toRp) L (F2.rep (p:=Wp.opt.R h) (a:=[.slice none 0 0]) (b:=none) (F0x h) (i.toNat)))),(show F2 (Wp.int.R I) ([[iV j]]:LV) [j] from⟨⟨rfl,a3⟩,trivial⟩),aX⟩) ?_)))
 rintro _ O F w bU ⟨u8,cE,E,cA,A,⟨⟩,⟨⟩,K,bS,Z,u,d⟩
 replace d:D6 x i y w u8 E A=some S:=d
 obtain _|w:=w
 ·cases d
 rw[D6.eq_2]at d
 obtain⟨a6,aJ,d⟩:=B0 d
 obtain rfl:F.length=a6:=(fL u).trans (oJ aJ)
 obtain⟨cl,bQ,d⟩:=B0 d
 refine ifB d (λaZ d=>?_) λaZ d=>?_
 ·obtain⟨an,aO,d⟩:=B0 d
  obtain⟨ar,bC,az,bf⟩:=L3 u aO
  refine aI ar ?_
  obtain⟨rfl,a4⟩:=bf
  refine eX _ (aI az ?_)
  refine trM d (R0c _ _ ab) ?_
  rintro ao d cr a5 ⟨bs,ca,bI,rfl,aj,z⟩
  obtain⟨rfl,bY⟩:=sL aj
  obtain⟨Q,aW,d⟩:=B0 d
  refine eX { vars:=[36],owns:=[0,2],kept:=[0] } (eX (λvs os h'=>∃ t M C N D,vs.tail = [iV t]/\os = [M,N]/\Sub a5 h'/\F0 t/\F2 (Wp.opt.R h') M C/\F2 (Wp.int.R h') N D/\l4 ao x i y an (N1 vs) t C D=some Q) (eX (λ_ _=>0) (aI (eX P0 ⟨_,_,_,_,_,rfl,rfl,sr,(by decide),(F2.up (r:=Wp.opt.toRp) z Z),(F2.up (r:=Wp.int.toRp) z u),aW⟩) ?_)))
  rintro _ M N o ad ⟨t,cC,C,cD,D,⟨⟩,⟨⟩,s,bR,g,m,c⟩
  replace c:l4 ao x i y an o t C D=some Q:=c
  obtain _|o:=o
  ·cases c
  rw[l4.eq_2]at c
  refine ifB c (λa0 c=>?_) λa0 c=>?_
  ·refine ldI c (I0.mono s aj) λk G c=>?_
   refine trV c (C04 _ _ _ (C0 ab a2 (M0.mono (((L.trans K).trans z).trans s) be)) _ a4 _ G) λl c=>?_
   obtain⟨cm,aL,c⟩:=B0 c
   have ac:F0 l:=K0 aL
   obtain⟨bq,aQ,c⟩:=B0 c
   obtain⟨bE,Y,bh⟩:=s05 g aQ (b0z ad)
   refine aI (λq=>(Y q).1) ?_
   obtain⟨bu,cc,bK,rfl,a7,bb⟩:=bh
   obtain⟨rfl,b0⟩:=sL bb
   refine eX _ (aI (λq=>(Y q).2) ?_)
   refine eX (bq.isNone) (aI (λ_=>by rw[←a7];exact c0z _ _ _ rfl _ _ _) ?_)
   refine ifB c (λa1 c=>?_) λa1 c=>?_
   ·obtain⟨cy,aR,c⟩:=B0 c
    obtain⟨av,bG,aB,bi⟩:=L3 g aR
    refine aI av ?_
    obtain⟨bv,cd,bL,rfl,ci,ai⟩:=bi
    obtain⟨rfl,b1⟩:=sL ai
    refine eX _ (aI aB ?_)
    obtain⟨ap,aa,c⟩:=B0 c
    refine Tr.mono (R05 _ _ _ _ _ ai _  aa) ?_
    rintro ct H ⟨aa,ce,bM,rfl,P⟩
    have cq:Sub ad H:=P.sub
    have bj:=P.r
    obtain⟨rfl,b2⟩:=sL bj
    obtain⟨cn,aM,c⟩:=B0 c
    obtain⟨bp,bl,ae,aq⟩:=New.app P sr
    refine eX bp (aI bl (aI (M1 aM (by first|rw[ae,fL (show F2 (Wp.int.R H) ([[iV k]]:LV) [k] from⟨⟨rfl,G⟩,trivial⟩)]|(rw[ae];rfl))) ?_))
    intro cw J aY
    obtain⟨f,aU,a8,cg,ax,rfl⟩:=aq _ _ _ _ _ (F3.ofPlain (n05 _) (show F2 (Wp.int.R H) ([[iV k]]:LV) [k] from⟨⟨rfl,G⟩,trivial⟩)) R4.ofPlain aY
    have ak:=f.r
    obtain⟨aD,b5⟩:=sL ak
    subst aD
    obtain⟨cz,aS,c⟩:=B0 c
    obtain⟨aw,bH,aC,bk⟩:=L3 (F2.up (r:=Wp.opt.toRp) f.sub g) aS
    refine aI aw ?_
    obtain⟨bx,cf,bN,rfl,cj,bc⟩:=bk
    obtain⟨rfl,b3⟩:=sL bc
    refine eX _ (aI aC ?_)
    obtain⟨co,aN,c⟩:=B0 c
    refine aI (M1 aN (by first|rw[fL (F2.up (r:=Wp.int.toRp) f.sub m),fL (show F2 (Wp.int.R J) ([[iV l]]:LV) [l] from⟨⟨rfl,ac⟩,trivial⟩)]|exact congrArg (·+1) (fL (F2.up (r:=Wp.int.toRp) f.sub m)))) ?_
    exact V1 o ⟨_,_,_,_,_,rfl,rfl,(s.trans f.sub),(J0 _),(F2.set (p:=Wp.opt.R J) (a:=[.slice (some ⟨aU,a8,none⟩) (ap ++ [k]).length ax]) (b:=some (ap ++ [k])) (G0x ak) l.toNat (F2.up (r:=Wp.opt.toRp) f.sub g)),(fA (F2.up (r:=Wp.int.toRp) f.sub m) (show F2 (Wp.int.R J) ([[iV l]]:LV) [l] from⟨⟨rfl,ac⟩,trivial⟩)),c⟩
   ·exact V1 o ⟨_,_,_,_,_,rfl,rfl,s,(J0 _),g,m,c⟩
  ·cases c
   try dsimp only[Q0,T0]at d
   exact V1 w ⟨_,_,_,_,_,rfl,rfl,((K.trans z).trans s),(J0 _),g,m,d⟩
 ·cases d
  try dsimp only[Q0,T0]at e
  intro cu bV aF
  obtain⟨bz,bO,rfl,bm,al,b6⟩:=Y0.out (r:=Wp.int.toRp) aF u
  intro cv bW aH
  obtain⟨bA,bP,rfl,bn,am,b7⟩:=Y0.out (r:=I0.toRp) aH (F2.ofOpt (F2.up (r:=Wp.opt.toRp) al Z))
  cases e
  exact⟨_,_,_,_,_,_,rfl,(I0.mono am bm),bn,(((L.trans K).trans al).trans am)⟩
def G0b(h:Hp)(e:List Value)(j:z0)(p:L1.R h e j)(r:H0)(a:I00 j=some r):
  Tr Tryz.prog 180 #[.agg e.toArray] h λv h'=>∃(c:Option Addr) (i d:Nat),v = .slice c i d/\I0.R h' [.slice c i d] r/\Sub h h':=by
 obtain⟨N,O,w,A,P,rfl,rfl,f,g,k,H⟩:=opG p
 unfold I00 at a
 dsimp only at a
 refine wk Tryz.f180 ?_
 refine trV a (T02 _ _ _ (C0 f g k)) λT a=>?_
 refine ifB a (λo a=>?_) λo a=>?_
 ·intro Q F m
  obtain⟨z,E,rfl,q,t,K⟩:=Y0.out (r:=Wp.int.toRp) m (show F2 (Wp.int.R h) ([]:LV) ([]:H0) from trivial)
  cases a
  exact⟨_,_,_,rfl,q,t⟩
 ·refine trM a (M06 _ _ _ (C0 f g k) 0 (by decide)) ?_
  rintro u a S G ⟨x,L,C,y,M,D,rfl,b,l,s⟩
  obtain⟨U,V⟩:=u
  dsimp only at a b l
  obtain⟨rfl,I⟩:=sL b
  obtain⟨rfl,J⟩:=sL l
  cases a
  exact⟨_,_,_,rfl,b,s⟩
def Y06(h:Hp)(i:List Value)(j:z0)(F:L1.R h i j)(r:z0)(a:p9 j=some r):
  Tr Tryz.prog 139 #[.agg i.toArray] h λv h'=>∃(g:List Value),v = .agg g.toArray/\New L1 h h' g r:=by
 obtain⟨ah,ai,P,T,aj,rfl,rfl,b,c,d,ab⟩:=opG F
 unfold p9 at a
 dsimp only at a
 refine wk Tryz.f139 ?_
 refine trV a (T02 _ _ _ (C0 b c d)) λap a=>?_
 refine ifB a (λu a=>?_) λu a=>?_
 ·refine trM a (K8 _ _ _ (C0 b c d)) ?_
  rintro N a ao D ⟨Y,af,W,rfl,e⟩
  have am:Sub h D:=e.sub
  have k:=e.r
  obtain⟨aw,ax,ay⟩:=N
  dsimp only at a e k
  obtain⟨_,_,_,_,_,_,q,s,y,z,H⟩:=W0 k
  cases q
  cases s
  obtain⟨rfl,ad⟩:=sL H
  try dsimp only at a
  have M:=nD (nD (e))
  cases a
  exact⟨_,rfl,(nP (nI y) (nP (nI z) M))⟩
 ·refine w5 3 ?_
  obtain⟨O,t,a⟩:=B0 a
  refine fS I0 O ?_ ?_
  ·intro Z J
   refine Tr.mono (G0b _ _ _ (C0 b c (M0.mono J d)) _ t) ?_
   rintro _ aa ⟨o,ag,p,rfl,l,K⟩
   obtain⟨rfl,E⟩:=sL l
   exact aI t6 (aI K ⟨o,p,rfl,l,E⟩)
  intro A m
  rintro _ ⟨S,X,rfl,I,ae⟩
  refine trM a (S0c _ _ _ (C0 b c (M0.mono m d)) _ _ _ _ I) ?_
  rintro aq a an C ⟨U,rfl,f⟩
  have al:Sub A C:=f.sub
  have G:=f.r
  obtain⟨ar,au,Q,V,av,rfl,rfl,w,x,ak,ac⟩:=opG G
  try dsimp only at a
  have L:=nD (nD (f))
  cases a
  exact⟨_,rfl,(nP (nI w) (nP (nI x) (New.from L m)))⟩
def g08(h:Hp)(g:Option Addr)(l i:Nat)(d:List Int)(m:Sl Rp.u8 h (.slice g l i) d)(r:Int×Int)(c:Y02 d=some r):
  Tr Tryz.prog 46 #[.slice g l i] h λv h'=>∃ k ty,v=ptr k 0/\h'=h.set k (o06 (.slice g l i) r ty)/\x00 h k (.slice g l i) d r:=by
 obtain⟨rfl,C⟩:=sL m
 unfold Y02 at c
 refine wk Tryz.f46 ?_
 obtain⟨o,t,c⟩:=B0 c
 refine eX { vars:=[3,4] } (eX (λvs os h'=>∃ e f,vs.tail = [iV e,iV f]/\os = []/\h'=h/\F0 e/\F0 f/\j01 d (N1 vs) e f=some o) (eX (λ_ _=>0) (aI (eX P0 ⟨_,_,rfl,rfl,rfl,(J0 _),(by decide),t⟩) ?_)))
 rintro _ _ j A ⟨e,f,⟨⟩,⟨⟩,rfl,y,z,a⟩
 replace a:j01 d j e f=some o:=a
 obtain _|j:=j
 ·cases a
 rw[j01.eq_2]at a
 refine ifB a (λw a=>?_) λw a=>?_
 ·obtain⟨x,s,a⟩:=B0 a
  obtain⟨p,cs,q,rfl⟩:=Sl.getI (r:=Rp.u8) m s (by decide)
  refine aI p (eX _ (aI q ?_))
  exact V1 j ⟨_,_,rfl,rfl,rfl,(J0 _),(J0 _),a⟩
 ·cases a
  try dsimp only[Q0,T0]at c
  cases c
  intro b u
  exact⟨_,_,rfl,rfl,u,m,⟨iR _,Int.natCast_nonneg _⟩,y⟩
def s0y{P:Program}{a:Type}{m:Sem a}{h h':Hp}{K:a->Hp->Prop}(e:h=h')(w:wpS P m h' K):wpS P m h K:=e▸w
def d0z{h:Hp}{k:Nat}{b:Value}{q:Int×Int}{ty:TypeId}:(h.set k (o06 b q ty)).cell k 0=some b:=by unfold Hp.cell;rw[Hp.set_same];rfl
def e0o{h:Hp}{k:Nat}{b:Value}{q:Int×Int}{ty:TypeId}:(h.set k (o06 b q ty)).cell k 1=some (iV q.1):=by unfold Hp.cell;rw[Hp.set_same];rfl
def t0y{h:Hp}{k:Nat}{b:Value}{q:Int×Int}{ty:TypeId}:(h.set k (o06 b q ty)).cell k 2=some (iV q.2):=by unfold Hp.cell;rw[Hp.set_same];rfl
def u0z{h:Hp}{k:Nat}(x y:Obj):(h.set k x).set k y=h.set k y:=by
 funext b
 unfold Hp.set
 by_cases c:b=k
 ·rw[if_pos c,if_pos c]
 ·rw[if_neg c,if_neg c,if_neg c]
def Sub.setS{h a:Hp}{k:Nat}{o d:Obj}(f:Sub (h.set k o) a):Sub (h.set k d) (a.set k d):=λb x e=>by
 by_cases c:b=k
 ·subst c;rw[Hp.set_same]at e ⊢;exact e
 ·rw[Hp.set_other _ _ c]at e ⊢
  exact f b x (by rw[Hp.set_other _ _ c];exact e)
def F05(h:Hp)(d:Nat)(l:Value)(p:TypeId)(f:List Int)(b:Int×Int)(e:x00 h d l f b)(r:Int×(Int×Int))(g:b01 f b=some r):
  Tr Tryz.prog 159 #[ptr d 0] (h.set d (o06 l b p)) λv h'=>v=iV r.1/\x00 h d l f r.2/\h'=h.set d (o06 l r.2 p):=by
 unfold b01 at g
 obtain⟨j,I,m,J,y,F⟩:=e.rd
 cases y
 obtain⟨rfl,H⟩:=sL e.rd
 refine Tr.forgetC (E4 (args:=[ptr d 0]) (fn:=Tryz.f159) rfl ?_)
 refine eX _ (aI (aI rfl t0y) ?_)
 refine eX _ (eX _ (eX _ (aI (aI (Hp.set_same _ _ _) (aI rfl (aI (show(2:Nat)<3 from by decide) (aI rfl (by first|trivial|decide|simp[G05]))))) ?_)))
 refine s0y (h':=h.set d (o06 (.slice j f.length m) (b.1,nxt b.2) p)) (u0z _ _) ?_
 refine w4 ?_
 refine Or.inl (eX (.val (ptr d 0)) (aI (λk a=>r3) ?_))
 refine Or.inl (eX (.val (ptr d 2)) (aI (λk a=>r3) ?_))
 refine Or.inl (eX (.val (iV (nxt b.2))) (aI (λk a=>eX _ (aI (aI rfl (a.cell t0y)) r3)) ?_))
 refine Or.inl (eX (.val (iV ((nxt b.2).fdiv (2 ^ min (33:Int).toNat 64)))) (aI (λk a=>r3) ?_))
 refine Or.inl (eX (.val (ptr d 0)) (aI (λk a=>r3) ?_))
 refine Or.inl (eX (.val (ptr d 2)) (aI (λk a=>r3) ?_))
 refine Or.inl (eX (.val (iV (nxt b.2))) (aI (λk a=>eX _ (aI (aI rfl (a.cell t0y)) r3)) ?_))
 refine Or.inl (eX (.val (iV ((nxt b.2).fdiv (2 ^ min (45:Int).toNat 64)))) (aI (λk a=>r3) ?_))
 refine Or.inl (eX (.val (iV (J0y ((nxt b.2).fdiv (2 ^ min (33:Int).toNat 64)) ((nxt b.2).fdiv (2 ^ min (45:Int).toNat 64))))) (aI (λk a=>r3) ?_))
 refine Or.inl (eX (.val (iV (drw (nxt b.2)))) (aI (λk a=>r3) ?_))
 intro C s1
 refine w4 ?_
 refine Or.inl (eX (.val (ptr d 0)) (aI (λk a=>r3) ?_))
 refine Or.inl (eX (.val (ptr d 1)) (aI (λk a=>r3) ?_))
 refine Or.inl (eX (.val (iV b.1)) (aI (λk a=>eX _ (aI (aI rfl (a.cell (s1.cell e0o))) r3)) ?_))
 refine Or.inl (eX (.val (ptr d 0)) (aI (λk a=>r3) ?_))
 refine Or.inl (eX (.val (ptr d 0)) (aI (λk a=>r3) ?_))
 refine Or.inl (eX (.val (.slice j f.length m)) (aI (λk a=>eX _ (aI (aI rfl (a.cell (s1.cell d0z))) r3)) ?_))
 refine Or.inl (eX (.val (iV ((f.length:Nat):Int))) (aI (λk a=>r3) ?_))
 refine Or.inl (eX (.val (.bool (decide (b.1<((f.length:Nat):Int))))) (aI (λk a=>r3) ?_))
 intro D s2
 have i:=s1.trans s2
 refine ifB g (λw g=>?_) λw g=>?_
 ·obtain⟨c,q,g⟩:=B0 g
  cases g
  obtain⟨s,cs,t,rfl⟩:=Sl.getI (r:=Rp.u8) e.rd q (by decide)
  have u:=t.up ((Sub.set e.no).trans i)
  refine w5 14 ?_
  refine Or.inl (eX (.val (ptr d 0)) (aI (λk a=>r3) ?_))
  refine Or.inl (eX (.val (ptr d 0)) (aI (λk a=>r3) ?_))
  refine Or.inl (eX (.val (.slice j f.length m)) (aI (λk a=>eX _ (aI (aI rfl (a.cell (i.cell d0z))) r3)) ?_))
  refine Or.inl (eX (.val (ptr d 0)) (aI (λk a=>r3) ?_))
  refine Or.inl (eX (.val (ptr d 1)) (aI (λk a=>r3) ?_))
  refine Or.inl (eX (.val (iV b.1)) (aI (λk a=>eX _ (aI (aI rfl (a.cell (i.cell e0o))) r3)) ?_))
  refine Or.inl (eX (.hel (.slice j f.length m) b.1 1 0) (aI (λk a=>aI s r3) ?_))
  refine Or.inl (eX (.val (.int .u8 c)) (aI (λk a=>eX _ (aI (u.up a) r3)) ?_))
  refine Or.inl (eX (.val (iV (i64.wrap c))) (aI (λk a=>r3) ?_))
  refine Or.inl (eX (.val (iV (i64.wrap (drw (nxt b.2)+i64.wrap c)))) (aI (λk a=>r3) ?_))
  refine Or.inl (eX (.val (iV (R0q (i64.wrap (drw (nxt b.2)+i64.wrap c)) 255))) (aI (λk a=>r3) ?_))
  intro E A
  have o:=i.trans A
  refine eX _ (aI (aI rfl (o.cell e0o)) ?_)
  refine eX _ (eX _ (eX _ (aI (aI (o _ _ (Hp.set_same _ _ _)) (aI rfl (aI (show(1:Nat)<3 from by decide) (aI rfl (by first|trivial|decide|simp[G05]))))) ?_)))
  have x:=I0f q
  have G:=(gI.1 x.2).1
  have z:i64.wrap (b.1+1)=b.1+1:=w64 (by omega) (by omega)
  exact aI rfl (aI ⟨e.no,e.rd,by show 0<=i64.wrap (b.1+1)/\i64.wrap (b.1+1)<=_;rw[z];exact⟨by omega,by omega⟩,J0 _⟩ (Sub.setS o))
 ·cases g
  exact aI rfl (aI ⟨e.no,e.rd,e.pl,J0 _⟩ i)
end Go.Proofs.YtcpjomkcdlggaaaGreat
