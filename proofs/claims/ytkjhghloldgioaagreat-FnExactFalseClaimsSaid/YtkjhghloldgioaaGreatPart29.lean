/- Texts of the claim, joined: The walks of batch cc2 and others. -/
import Derived.Test.YtkjhghloldgioaaGreatPart18
import Derived.Test.YtkjhghloldgioaaGreatChecked
import Derived.Test.YtkjhghloldgioaaGreatH35
import Derived.Test.YtkjhghloldgioaaGreatPart26
import Derived.Test.YtkjhghloldgioaaGreatPart28
import Derived.Test.YtkjhghloldgioaaGreatH41
import Derived.Test.YtkjhghloldgioaaGreatPart21
namespace Go.Proofs.YtkjhghloldgioaaGreat
open Go.H
set_option linter.unusedVariables false
set_option linter.unusedSimpArgs false
set_option maxRecDepth 10000
set_option maxHeartbeats 0
theorem r0c(h:Hp)(b:Int)(t:J0 b)(d:Option Addr)(k e:Nat)(f:U1)(l:D2.R h [.slice d k e] f)(r:j0×Bool)(a:w01 b f=some r):
  Tr Tryz.prog 90 #[.int .i64 b,.slice d k e] h λv q=>∃(i:List Value),v = .tuple #[.agg i.toArray,.bool r.2]/\New j1 h q i r.1:=by
 obtain⟨rfl,M⟩:=Sl.len l
 unfold w01 at a
 refine Z1 (args:=[.int .i64 b,.slice d f.length e]) (fn:=Tryz.f90) rfl ?_
 refine trM a (x0e _ _ t _ _ _ _ l) ?_
 rintro E a T j ⟨J,rfl,c⟩
 obtain⟨W,aa⟩:=E
 dsimp only at a c
 have n:Sub h j:=c.sub
 have A:=c.r
 obtain⟨X,Y,I,P,L,Z,rfl,rfl,u,w,m⟩:=B0 A
 obtain⟨rfl,N⟩:=Sl.len m
 try dsimp only at a
 have V:=New.sndI (New.sndI (c))
 refine ifB a (λs a=>?_) λs a=>?_
 ·obtain rfl:=oJ a
  exact⟨([.int .i64 0,.int .i64 0,.slice none 0 0]),rfl,(New.pair (New.int (by decide)) (New.pair (New.int (by decide)) ((New.nilSlice (r:=Z0)).mono n)))⟩
 ·refine trM a (C07 _ _ _ (l0 u w m)) ?_
  rintro ab a U z ⟨K,rfl,g⟩
  have S:Sub j z:=g.sub
  have B:=g.r
  obtain⟨F,G,o,Q,p,H,rfl,rfl,x,y,C⟩:=B0 B
  obtain⟨rfl,O⟩:=Sl.len C
  try dsimp only at a
  have D:=New.sndI (New.sndI (g))
  obtain rfl:=oJ a
  exact⟨([.int .i64 F,.int .i64 G,.slice o H.length p]),rfl,(New.pair (New.int x) (New.pair (New.int y) (New.from D n)))⟩
theorem x00(h:Hp)(i:List Value)(l:j0)(C:j1.R h i l)(b:Option Addr)(k c:Nat)(e:U1)(m:D2.R h [.slice b k c] e)(r:Bool)(a:K5 l e=some r):
  Tr Tryz.prog 184 #[.agg i.toArray,.slice b k c] h λv t=>v = .bool r/\t=h:=by
 obtain⟨z,A,p,L,s,B,rfl,rfl,d,j,f⟩:=B0 C
 obtain⟨rfl,I⟩:=Sl.len f
 obtain⟨rfl,J⟩:=Sl.len m
 unfold K5 at a
 dsimp only at a
 refine Tr.forget (Z1 (args:=[.agg #[.int .i64 z,.int .i64 A,.slice p B.length s],.slice b e.length c]) (fn:=Tryz.f184) rfl ?_)
 refine trV a (J00 _ _ _ (l0 d j f)) λO a=>?_
 refine ifB a (λu a=>?_) λu a=>?_
 ·obtain rfl:=oJ a
  exact aI rfl (Sub.refl _)
 ·refine trM a (r0c _ _ d _ _ _ _ m) ?_
  rintro E a N y ⟨G,rfl,g⟩
  obtain⟨P,U⟩:=E
  dsimp only at a g
  have o:Sub h y:=g.sub
  have D:=g.r
  obtain⟨Q,S,F,M,H,T,rfl,rfl,w,x,n⟩:=B0 D
  obtain⟨rfl,K⟩:=Sl.len n
  try dsimp only at a
  refine trG a (λq=>h06 _ _ _ (l0 d j (H0.mono o f)) _ _ (l0 w x n)) λV a=>?_
  obtain rfl:=oJ a
  exact aI rfl o
theorem p08(h:Hp)(n:List Value)(t:j0)(L:j1.R h n t)(f:Option Addr)(s g:Nat)(j:C0)(u:I0.R h [.slice f s g] j)(r:Bool)(b:h01 t j=some r):
  Tr Tryz.prog 188 #[.agg n.toArray,.slice f s g] h λv F=>v = .bool r/\F=h:=by
 obtain⟨I,J,y,ag,A,K,rfl,rfl,o,p,k⟩:=B0 L
 obtain⟨rfl,ad⟩:=Sl.len k
 obtain⟨rfl,ae⟩:=Sl.len u
 unfold h01 at b
 dsimp only at b
 refine Tr.forget (Z1 (args:=[.agg #[.int .i64 I,.int .i64 J,.slice y K.length A],.slice f j.length g]) (fn:=Tryz.f188) rfl ?_)
 refine Or.inr (Or.inr (Or.inr (Or.inl (aI (aI (by kernel_rfl) (by kernel_rfl)) ?_))))
 obtain⟨S,C,b⟩:=z0 b
 refine Or.inl (eX (.val (.bool S)) (aI ?_ ?_))
 ·intro Z O
  exact Tr.val (J00 _ _ _ (l0 o p (H0.mono O k)) _ C) (aI rfl (aI rfl rfl))
 obtain⟨d,D,b⟩:=z0 b
 refine Or.inr (eX (λv G=>∃(a:Option Addr) (c:Nat),v = .slice a d.length c/\I0.R G [.slice a d.length c] d/\d.length<=9223372036854775807) (aI (λv W X m q=>by obtain⟨a,c,e,r,l⟩:=q;exact⟨a,c,e,I0.mono m r,l⟩) (aI ?_ ?_)))
 ·intro aa P i
  refine Tr.mono (j05 _ _ _ _ _ (I0.mono P u) _ (n8 D i)) ?_
  rintro _ ac ⟨z,ah,B,rfl,x⟩
  have m:=x.sub
  have w:=x.r
  obtain⟨rfl,H⟩:=Sl.len w
  exact aI o8 (aI m ⟨z,B,rfl,w,H⟩)
 obtain⟨T,E,b⟩:=z0 b
 refine Or.inl (eX (.val (.bool T)) (aI ?_ ?_))
 ·intro ab Q i
  rintro _ ⟨U,V,rfl,M,af⟩
  exact Tr.val (i06 _ _ _ (l0 o p (H0.mono Q k)) _ _ _ _ M _ (n8 E i)) (aI rfl (aI rfl rfl))
 intro Y N
 obtain rfl:=oJ b
 exact aI rfl N
theorem d0h(h:Hp)(M:List Value)(T:j0)(aK:j1.R h M T)(x:Option Addr)(S y:Nat)(D:C0)(E:I0.R h [.slice x S y] D)(r:j0×Int×Bool)(b:Q04 T D=some r):
  Tr Tryz.prog 208 #[.agg M.toArray,.slice x S y] h λv P=>∃(L:List Value),v = .tuple #[.agg L.toArray,.int .i64 r.2.1,.bool r.2.2]/\j1.R P L r.1/\Sub h P:=by
 obtain⟨U,V,H,bs,K,W,rfl,rfl,C,s,t⟩:=B0 aK
 obtain⟨rfl,bm⟩:=Sl.len t
 obtain⟨rfl,bn⟩:=Sl.len E
 unfold Q04 at b
 dsimp only at b
 refine Z1 (args:=[.agg #[.int .i64 U,.int .i64 V,.slice H W.length K],.slice x D.length y]) (fn:=Tryz.f208) rfl ?_
 obtain⟨aU,ak,b⟩:=z0 b
 obtain⟨aX,aY⟩:=aU
 try dsimp only at b
 refine Tr.val (I06 _ _ _ (l0 C s t) 0 (by decide) _ _ _ _ E _  ak) ?_
 obtain⟨bv,ai,b⟩:=z0 b
 have ar:J0 aX:=A2 ai
 obtain⟨bx,aj,b⟩:=z0 b
 have bd:J0 aY:=A2 aj
 refine ifB b (λao b=>?_) λao b=>?_
 ·obtain rfl:=oJ b
  exact⟨([.int .i64 U,.int .i64 V,.slice H W.length K]),rfl,(l0 C s t),(Sub.refl _)⟩
 ·refine trM b (z0d _ _ _ (l0 C s t)) ?_
  rintro aZ b bD Q ⟨a4,rfl,F⟩
  obtain⟨bE,bI⟩:=aZ
  dsimp only at b F
  have u:Sub h Q:=F.sub
  have aM:=F.r
  obtain⟨bF,bG,a0,bt,ba,bH,rfl,rfl,au,av,X⟩:=B0 aM
  obtain⟨rfl,bo⟩:=Sl.len X
  try dsimp only at b
  refine ifB b (λap b=>?_) λap b=>?_
  ·obtain rfl:=oJ b
   exact⟨([.int .i64 0,.int .i64 0,.slice none 0 0]),rfl,(l0 (by decide) (by decide) (S08 Z0 Q)),u⟩
  ·refine Or.inr (Or.inr (Or.inr (Or.inr (eX 10 (aI (aI (by kernel_rfl) (by kernel_rfl)) ?_)))))
   obtain⟨w,am,b⟩:=z0 b
   refine Or.inr (eX (λv i=>∃(a:Option Addr) (c:Nat),v = .slice a w.length c/\I0.R i [.slice a w.length c] w/\w.length<=9223372036854775807) (aI (λv A B j q=>by obtain⟨a,c,e,r,l⟩:=q;exact⟨a,c,e,I0.mono j r,l⟩) (aI ?_ ?_)))
   ·intro bg aR
    obtain⟨aJ,aT,af,ah⟩:=Sl.cutI (r:=Wp.int.toRp) (I0.mono (u.trans aR) E) am
    refine aI aJ (eX aT (aI af ?_))
    intro v aq _
    obtain⟨a,c,rfl,r⟩:=ah v aq
    exact aI o8 (aI (Sub.refl _) ⟨a,c,rfl,r,(Sl.len r).2⟩)
   obtain⟨aV,al,b⟩:=z0 b
   obtain⟨aW,G⟩:=aV
   try dsimp only at b
   obtain⟨m,n,d⟩:=aW
   try dsimp only at b
   refine Or.inr (eX (λv i=>∃(k:Value),v = .tuple #[k,.bool G]/\(λv i=>∃(f:Option Addr) (g:Nat),v = .agg #[.int .i64 m,.int .i64 n,.slice f d.length g]/\J0 m/\J0 n/\H0.R i [.slice f d.length g] d/\d.length<=9223372036854775807) k i) (aI (λv A B j q=>by obtain⟨k,e,z⟩:=q;exact⟨k,e,(by obtain⟨f,g,e,o,p,f2,f3⟩:=z;exact⟨f,g,e,o,p,H0.mono j f2,f3⟩)⟩) (aI ?_ ?_)))
   ·intro bh aS
    rintro _ ⟨a1,bb,rfl,aN,bp⟩
    refine Tr.mono (v09 _ _ _ (l0 au av (H0.mono aS X)) _ ar _ _ _ _ aN _ s _ al) ?_
    rintro _ bl ⟨a3,rfl,aa⟩
    have j:=aa.sub
    have aL:=aa.r
    obtain⟨bJ,bK,I,bu,N,bL,rfl,ag,aw,ax,Y⟩:=B0 aL
    cases ag
    obtain⟨rfl,aF⟩:=Sl.len Y
    exact aI o8 (aI j ⟨(.agg #[.int .i64 m,.int .i64 n,.slice I d.length N]),rfl,⟨I,N,rfl,aw,ax,Y,aF⟩⟩)
   refine Or.inr (eX (λv i=>∃(k:Value),v = .tuple #[k,.bool G]/\(λv i=>∃(f:Option Addr) (g:Nat),v = .agg #[.int .i64 m,.int .i64 n,.slice f d.length g]/\J0 m/\J0 n/\H0.R i [.slice f d.length g] d/\d.length<=9223372036854775807) k i) (aI (λv A B j q=>by obtain⟨k,e,z⟩:=q;exact⟨k,e,(by obtain⟨f,g,e,o,p,f2,f3⟩:=z;exact⟨f,g,e,o,p,H0.mono j f2,f3⟩)⟩) (aI ?_ ?_)))
   ·intro bi bA
    rintro _ ⟨_,rfl,⟨J,O,rfl,ay,az,aO,aG⟩⟩
    exact aI o8 (aI (Sub.refl _) ⟨(.agg #[.int .i64 m,.int .i64 n,.slice J d.length O]),rfl,⟨J,O,rfl,ay,az,aO,aG⟩⟩)
   refine Or.inr (eX (λv i=>∃(f:Option Addr) (g:Nat),v = .agg #[.int .i64 m,.int .i64 n,.slice f d.length g]/\J0 m/\J0 n/\H0.R i [.slice f d.length g] d/\d.length<=9223372036854775807) (aI (λv A B j q=>by obtain⟨f,g,e,o,p,f2,f3⟩:=q;exact⟨f,g,e,o,p,H0.mono j f2,f3⟩) (aI ?_ ?_)))
   ·intro bj bB
    rintro _ ⟨_,rfl,⟨ab,ad,rfl,aA,aB,aP,aH⟩⟩
    exact aI o8 (aI (Sub.refl _) ⟨ab,ad,rfl,aA,aB,aP,aH⟩)
   refine Or.inl (eX (.val (.bool G)) (aI ?_ ?_))
   ·intro bk bC
    rintro _ ⟨_,rfl,⟨a2,bc,rfl,be,bf,bz,bq⟩⟩
    exact aI rfl (aI rfl rfl)
   intro aE Z
   rintro _ ⟨ac,ae,rfl,aC,aD,aQ,br⟩
   rintro _ _
   rintro _ _
   rintro _ _
   refine ifB b (λan b=>?_) λan b=>?_
   ·obtain rfl:=oJ b
    exact⟨([.int .i64 0,.int .i64 0,.slice none 0 0]),rfl,(l0 (by decide) (by decide) (S08 Z0 aE)),(u.trans Z)⟩
   ·obtain rfl:=oJ b
    exact⟨([.int .i64 m,.int .i64 n,.slice ac d.length ae]),rfl,(l0 aC aD aQ),(u.trans Z)⟩
theorem V06(h:Hp)(k:List Value)(n:j0)(M:j1.R h k n)(c:Option Addr)(m d:Nat)(f:C0)(i:I0.R h [.slice c m d] f)(r:j0×Bool)(a:i5 n f=some r):
  Tr Tryz.prog 98 #[.agg k.toArray,.slice c m d] h λv z=>∃(j:List Value),v = .tuple #[.agg j.toArray,.bool r.2]/\New j1 h z j r.1:=by
 obtain⟨J,K,t,af,w,L,rfl,rfl,e,l,g⟩:=B0 M
 obtain⟨rfl,ab⟩:=Sl.len g
 obtain⟨rfl,ac⟩:=Sl.len i
 unfold i5 at a
 dsimp only at a
 refine Z1 (args:=[.agg #[.int .i64 J,.int .i64 K,.slice t L.length w],.slice c f.length d]) (fn:=Tryz.f98) rfl ?_
 refine trV a (J00 _ _ _ (l0 e l g)) λam a=>?_
 refine trG a (λq=>S04 _ _ e _ _ _ _ i) λan a=>?_
 refine ifB a (λA a=>?_) λA a=>?_
 ·obtain rfl:=oJ a
  exact⟨([.int .i64 0,.int .i64 0,.slice none 0 0]),rfl,(New.pair (New.int (by decide)) (New.pair (New.int (by decide)) ((New.nilSlice (r:=Z0)).mono (Sub.refl _))))⟩
 ·refine trM a (d0h _ _ _ (l0 e l g) _ _ _ _ i) ?_
  rintro Q a al I ⟨Y,rfl,o,s⟩
  obtain⟨ao,S,au⟩:=Q
  dsimp only at a o
  obtain⟨ap,aq,X,ag,aa,ar,rfl,rfl,C,D,p⟩:=B0 o
  obtain⟨rfl,ad⟩:=Sl.len p
  try dsimp only at a
  obtain⟨ai,y,a⟩:=z0 a
  have E:J0 S:=A2 y
  refine ifB a (λB a=>?_) λB a=>?_
  ·obtain rfl:=oJ a
   exact⟨([.int .i64 0,.int .i64 0,.slice none 0 0]),rfl,(New.pair (New.int (by decide)) (New.pair (New.int (by decide)) ((New.nilSlice (r:=Z0)).mono s)))⟩
  ·refine trM a (z0e _ _ _ (l0 C D p) _ E) ?_
   rintro T a ak H ⟨Z,rfl,b⟩
   obtain⟨av,aw⟩:=T
   dsimp only at a b
   have aj:Sub I H:=b.sub
   have N:=b.r
   obtain⟨U,V,u,ah,x,W,rfl,rfl,F,G,O⟩:=B0 N
   obtain⟨rfl,ae⟩:=Sl.len O
   try dsimp only at a
   have P:=New.sndI (New.sndI (b))
   obtain rfl:=oJ a
   exact⟨([.int .i64 U,.int .i64 V,.slice u W.length x]),rfl,(New.pair (New.int F) (New.pair (New.int G) (New.from P s)))⟩
theorem e0h(h:Hp)(b:List Value)(c:j0)(o:j1.R h b c)(r:Int)(a:w02 c=some r):
  Tr Tryz.prog 99 #[.agg b.toArray] h λv g=>v = .int .i64 r/\g=h:=by
 obtain⟨l,m,e,q,f,n,rfl,rfl,j,k,d⟩:=B0 o
 obtain⟨rfl,p⟩:=Sl.len d
 unfold w02 at a
 dsimp only at a
 refine Tr.forget (Z1 (args:=[.agg #[.int .i64 l,.int .i64 m,.slice e n.length f]]) (fn:=Tryz.f99) rfl ?_)
 refine trV a (J00 _ _ _ (l0 j k d)) λs a=>?_
 refine ifB a (λi a=>?_) λi a=>?_
 ·obtain rfl:=oJ a
  exact aI rfl (Sub.refl _)
 ·obtain rfl:=oJ a
  exact aI rfl (Sub.refl _)
theorem I0g(h:Hp)(b:List Value)(c:j0)(o:j1.R h b c)(r:Int)(a:X02 c=some r):
  Tr Tryz.prog 100 #[.agg b.toArray] h λv g=>v = .int .i64 r/\g=h:=by
 obtain⟨l,m,e,q,f,n,rfl,rfl,j,k,d⟩:=B0 o
 obtain⟨rfl,p⟩:=Sl.len d
 unfold X02 at a
 dsimp only at a
 refine Tr.forget (Z1 (args:=[.agg #[.int .i64 l,.int .i64 m,.slice e n.length f]]) (fn:=Tryz.f100) rfl ?_)
 refine trV a (x09 _ _ _ (l0 j k d)) λs a=>?_
 refine ifB a (λi a=>?_) λi a=>?_
 ·obtain rfl:=oJ a
  exact aI rfl (Sub.refl _)
 ·obtain rfl:=oJ a
  exact aI rfl (Sub.refl _)
theorem s0c(h:Hp)(J:List Value)(N:t9)(bc:S6.R h J N)(r:Bool)(b:o00 N=some r):
  Tr Tryz.prog 81 #[.agg J.toArray] h λv aB=>v = .bool r/\aB=h:=by
 obtain⟨aY,aZ,Y,cc,ag,a0,Z,cd,ah,a1,aa,ce,ai,a2,a3,a4,ab,cf,aj,ba,bb,rfl,rfl,bL,M,p,u,O,m,n,k,bM⟩:=j00 bc
 obtain⟨rfl,b2⟩:=Sl.len p
 obtain⟨rfl,b3⟩:=Sl.len u
 obtain⟨rfl,b4⟩:=Sl.len O
 obtain⟨rfl,b5⟩:=Sl.len k
 unfold o00 at b
 dsimp only at b
 refine Tr.forget (Z1 (args:=[.agg #[.int .i64 aY,.int .i64 aZ,.slice Y a0.length ag,.slice Z a1.length ah,.slice aa a2.length ai,.int .i64 a3,.int .i64 a4,.slice ab ba.length aj,.int .i64 bb]]) (fn:=Tryz.f81) rfl ?_)
 refine trV b (m08 _ _ M _ _ _ _ p) λcq b=>?_
 refine trG b (λq=>S04 _ _ M _ _ _ _ u) λcr b=>?_
 refine trG b (λq=>J00 _ _ _ (l0 m n k)) λcw b=>?_
 refine ifB b (λaF b=>?_) λaF b=>?_
 ·obtain rfl:=oJ b
  exact aI rfl (Sub.refl _)
 ·refine ifB b (λaH b=>?_) λaH b=>?_
  ·refine Or.inr (Or.inr (Or.inr (Or.inl (aI (aI (by kernel_rfl) (by kernel_rfl)) ?_))))
   obtain⟨bz,az,b⟩:=z0 b
   refine Or.inl (eX (.val (.bool bz)) (aI ?_ ?_))
   ·intro b1 V
    exact Tr.val (x00 _ _ _ (l0 m n (H0.mono V k)) _ _ _ _ (D2.mono V p) _ az) (aI rfl (aI rfl rfl))
   obtain⟨D,aA,b⟩:=z0 b
   refine Or.inr (eX (λv f=>∃(a:Option Addr) (c:Nat),v = .slice a D.length c/\D2.R f [.slice a D.length c] D/\D.length<=9223372036854775807) (aI (λv y z d q=>by obtain⟨a,c,e,r,l⟩:=q;exact⟨a,c,e,D2.mono d r,l⟩) (aI ?_ ?_)))
   ·intro bR bk A
    refine Tr.mono (H0g _ _ _ (l0 m n (H0.mono bk k)) _ (n8 aA A)) ?_
    rintro _ F ⟨ae,ci,am,rfl,S,d⟩
    obtain⟨rfl,aU⟩:=Sl.len S
    exact aI o8 (aI d ⟨ae,am,rfl,S,aU⟩)
   obtain⟨B,ar,b⟩:=z0 b
   refine Or.inr (eX (λv f=>∃(a:Option Addr) (c:Nat),v = .slice a B.length c/\I0.R f [.slice a B.length c] B/\B.length<=9223372036854775807) (aI (λv y z d q=>by obtain⟨a,c,e,r,l⟩:=q;exact⟨a,c,e,I0.mono d r,l⟩) (aI ?_ ?_)))
   ·intro bS bl A
    rintro _ ⟨bA,bG,rfl,be,b6⟩
    refine Tr.mono (A0e _ _ _ _ _ be _ _ _ _ (I0.mono bl O) _ (n8 ar A)) ?_
    rintro _ F ⟨ac,cg,ak,rfl,P,d⟩
    obtain⟨rfl,aS⟩:=Sl.len P
    exact aI o8 (aI d ⟨ac,ak,rfl,P,aS⟩)
   obtain⟨bq,au,b⟩:=z0 b
   refine Or.inl (eX (.val (.bool bq)) (aI ?_ ?_))
   ·intro bT bm A
    rintro _ ⟨bB,bH,rfl,bf,b7⟩
    exact Tr.val (k0c _ _ _ _ _ bf _ _ _ _ (I0.mono bm u) _ (n8 au A)) (aI rfl (aI rfl rfl))
   intro bU bn
   obtain rfl:=oJ b
   exact aI rfl bn
  ·refine ifB b (λaC b=>?_) λaC b=>?_
   ·refine trV b (W0a _ _ _ (l0 m n k) _ _ _ _ p) λcs b=>?_
    refine trG b (λq=>p08 _ _ _ (l0 m n k) _ _ _ _ u) λct b=>?_
    obtain rfl:=oJ b
    exact aI rfl (Sub.refl _)
   ·refine ifB b (λaD b=>?_) λaD b=>?_
    ·refine trV b (x00 _ _ _ (l0 m n k) _ _ _ _ p) λcu b=>?_
     refine trG b (λq=>p08 _ _ _ (l0 m n k) _ _ _ _ u) λcv b=>?_
     obtain rfl:=oJ b
     exact aI rfl (Sub.refl _)
    ·refine ifB b (λaE b=>?_) λaE b=>?_
     ·refine Or.inr (Or.inr (Or.inr (Or.inr (eX 10 (aI (aI (by kernel_rfl) (by kernel_rfl)) ?_)))))
      obtain⟨C,av,b⟩:=z0 b
      refine Or.inr (eX (λv f=>∃(a:Option Addr) (c:Nat),v = .slice a C.length c/\I0.R f [.slice a C.length c] C/\C.length<=9223372036854775807) (aI (λv y z d q=>by obtain⟨a,c,e,r,l⟩:=q;exact⟨a,c,e,I0.mono d r,l⟩) (aI ?_ ?_)))
      ·intro bV bo
       refine Tr.mono (r04 _ _ _ _ _ (I0.mono bo u) _ av) ?_
       rintro _ F ⟨ad,ch,al,rfl,W⟩
       have d:=W.sub
       have Q:=W.r
       obtain⟨rfl,aT⟩:=Sl.len Q
       exact aI o8 (aI d ⟨ad,al,rfl,Q,aT⟩)
      obtain⟨br,aw,b⟩:=z0 b
      obtain⟨bs,G⟩:=br
      try dsimp only at b
      obtain⟨s,t,j⟩:=bs
      try dsimp only at b
      refine Or.inr (eX (λv f=>∃(o:Value),v = .tuple #[o,.bool G]/\(λv f=>∃(g:Option Addr) (i:Nat),v = .agg #[.int .i64 s,.int .i64 t,.slice g j.length i]/\J0 s/\J0 t/\H0.R f [.slice g j.length i] j/\j.length<=9223372036854775807) o f) (aI (λv y z d q=>by obtain⟨o,e,E⟩:=q;exact⟨o,e,(by obtain⟨g,i,e,w,x,f2,f3⟩:=E;exact⟨g,i,e,w,x,H0.mono d f2,f3⟩)⟩) (aI ?_ ?_)))
      ·intro bW bp
       rintro _ ⟨bC,bI,rfl,bg,b8⟩
       refine Tr.mono (V06 _ _ _ (l0 m n (H0.mono bp k)) _ _ _ _ bg _ aw) ?_
       rintro _ F ⟨bF,rfl,X⟩
       have d:=X.sub
       have bd:=X.r
       obtain⟨cy,cz,H,cj,K,cA,rfl,ao,aK,aL,T⟩:=B0 bd
       cases ao
       obtain⟨rfl,aV⟩:=Sl.len T
       exact aI o8 (aI d ⟨(.agg #[.int .i64 s,.int .i64 t,.slice H j.length K]),rfl,⟨H,K,rfl,aK,aL,T,aV⟩⟩)
      refine Or.inr (eX (λv f=>∃(o:Value),v = .tuple #[o,.bool G]/\(λv f=>∃(g:Option Addr) (i:Nat),v = .agg #[.int .i64 s,.int .i64 t,.slice g j.length i]/\J0 s/\J0 t/\H0.R f [.slice g j.length i] j/\j.length<=9223372036854775807) o f) (aI (λv y z d q=>by obtain⟨o,e,E⟩:=q;exact⟨o,e,(by obtain⟨g,i,e,w,x,f2,f3⟩:=E;exact⟨g,i,e,w,x,H0.mono d f2,f3⟩)⟩) (aI ?_ ?_)))
      ·intro bX cn
       rintro _ ⟨_,rfl,⟨I,L,rfl,aM,aN,bh,aW⟩⟩
       exact aI o8 (aI (Sub.refl _) ⟨(.agg #[.int .i64 s,.int .i64 t,.slice I j.length L]),rfl,⟨I,L,rfl,aM,aN,bh,aW⟩⟩)
      refine Or.inr (eX (λv f=>∃(g:Option Addr) (i:Nat),v = .agg #[.int .i64 s,.int .i64 t,.slice g j.length i]/\J0 s/\J0 t/\H0.R f [.slice g j.length i] j/\j.length<=9223372036854775807) (aI (λv y z d q=>by obtain⟨g,i,e,w,x,f2,f3⟩:=q;exact⟨g,i,e,w,x,H0.mono d f2,f3⟩) (aI ?_ ?_)))
      ·intro bY co
       rintro _ ⟨_,rfl,⟨af,an,rfl,aO,aP,bi,aX⟩⟩
       exact aI o8 (aI (Sub.refl _) ⟨af,an,rfl,aO,aP,bi,aX⟩)
      refine Or.inl (eX (.val (.bool G)) (aI ?_ ?_))
      ·intro bZ cp
       rintro _ ⟨_,rfl,⟨bD,bJ,rfl,bP,bQ,cm,ca⟩⟩
       exact aI rfl (aI rfl rfl)
      intro b0 U
      rintro _ ⟨bE,bK,rfl,aQ,aR,bj,cb⟩
      rintro _ _
      rintro _ _
      rintro _ _
      refine trG b (λq=>x00 _ _ _ (l0 aQ aR bj) _ _ _ _ (D2.mono U p)) λcx b=>?_
      obtain rfl:=oJ b
      exact aI rfl U
     ·refine ifB b (λaG b=>?_) λaG b=>?_
      ·refine Or.inl (aI (aI (by kernel_rfl) (by kernel_rfl)) ?_)
       obtain⟨bt,ax,b⟩:=z0 b
       refine eX (.bool bt) (aI (x00 _ _ _ (l0 m n k) _ _ _ _ p _  ax) ?_)
       refine trG b (λq=>e0h _ _ _ (l0 m n k)) λbu b=>?_
       obtain⟨ck,ap,b⟩:=z0 b
       have bN:J0 bu:=A2 ap
       obtain rfl:=oJ b
       exact aI rfl (Sub.refl _)
      ·refine ifB b (λaJ b=>?_) λaJ b=>?_
       ·refine Or.inl (aI (aI (by kernel_rfl) (by kernel_rfl)) ?_)
        obtain⟨bv,ay,b⟩:=z0 b
        refine eX (.bool bv) (aI (x00 _ _ _ (l0 m n k) _ _ _ _ p _  ay) ?_)
        refine trG b (λq=>I0g _ _ _ (l0 m n k)) λbx b=>?_
        obtain⟨cl,aq,b⟩:=z0 b
        have bO:J0 bx:=A2 aq
        obtain rfl:=oJ b
        exact aI rfl (Sub.refl _)
       ·obtain rfl:=oJ b
        exact aI rfl (Sub.refl _)
theorem Y0a(h:Hp)(p:List Value)(x:A4)(U:l5.R h p x)(r:C0)(e:c02 x=some r):
  Tr Tryz.prog 21 #[.agg p.toArray] h λv i=>∃(n:Option Addr) (w o:Nat),v = .slice n w o/\New I0 h i [.slice n w o] r:=by
 obtain⟨k,D,an,G,l,rfl,rfl,af,y⟩:=S8 U
 obtain⟨rfl,ah⟩:=Sl.len y
 unfold c02 at e
 dsimp only at e
 refine Z1 (args:=[.agg #[.int .i64 k,.slice D l.length G]]) (fn:=Tryz.f21) rfl ?_
 obtain⟨m,L,e⟩:=z0 e
 refine eX { vars:=[10],boxes:=[],owns:=[0],fuel:=true } (eX (λvs os i=>∃ b g c,vs.tail = [.int .i64 b]/\os = [g]/\Sub h i/\J0 b/\F2 (Wp.int.R i) g c/\Z4 l k (Q1 vs) b c=some m) (eX (λ_ _=>0) (aI (eX Q0 ⟨0,[],([]:C0),rfl,rfl,(Sub.refl _),(by decide),(show F2 (Wp.int.R h) ([]:List (List Value)) ([]:C0) from trivial),L⟩) ?_)))
 rintro _ g f u ⟨b,aK,c,⟨⟩,⟨⟩,j,t,d,a⟩
 replace a:Z4 l k f b c=some m:=a
 obtain _|f:=f
 ·cases a
 rw[Z4.eq_2]at a
 refine ifB a (λM a=>?_) λM a=>?_
 ·obtain⟨ay,K,a⟩:=z0 a
  obtain⟨F,aa,I,V⟩:=Sl.getI (r:=S6.toRp) (n7.mono j y) K (by decide)
  refine aI F ?_
  obtain⟨az,aA,W,ao,ab,aB,X,ap,ac,aC,Y,aq,ad,aD,aE,aF,Z,ar,ae,aG,aH,rfl,rfl,O,P,z,A,B,Q,S,C,T⟩:=j00 V
  obtain⟨rfl,ai⟩:=Sl.len z
  obtain⟨rfl,aj⟩:=Sl.len A
  obtain⟨rfl,ak⟩:=Sl.len B
  obtain⟨rfl,al⟩:=Sl.len C
  try dsimp only at a
  refine eX _ (aI I ?_)
  refine trG a (λq=>s0c _ _ _ (G03 O P z A B Q S C T)) λaJ a=>?_
  refine ifB a (λN a=>?_) λN a=>?_
  ·obtain⟨au,J,a⟩:=z0 a
   refine aI (T1 J (by first|rw[F2.length d,F2.length (show F2 (Wp.int.R u) ([[.int .i64 b]]:List (List Value)) [b] from⟨⟨rfl,t⟩,trivial⟩)]|exact congrArg (·+1) (F2.length d))) ?_
   exact I2 f ⟨(IntKind.i64.wrap (b+1)),(g++([[.int .i64 b]]:List (List Value))),(c ++ [b]),rfl,rfl,j,(N0 _),(F2.append d (show F2 (Wp.int.R u) ([[.int .i64 b]]:List (List Value)) [b] from⟨⟨rfl,t⟩,trivial⟩)),a⟩
  ·exact I2 f ⟨(IntKind.i64.wrap (b+1)),g,c,rfl,rfl,j,(N0 _),d,a⟩
 ·obtain rfl:=oJ a
  try dsimp only[T0,V0]at e
  intro ax ag s
  obtain⟨E,H,rfl,av,aw,am⟩:=D1.out (r:=Wp.int.toRp) s d
  obtain rfl:=oJ e
  exact⟨E,c.length,H,rfl,(New.from (D1.newPlain (r:=Wp.int) s d (z06 _)) j)⟩
end Go.Proofs.YtkjhghloldgioaaGreat
