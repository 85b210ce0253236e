/- Texts of the claim, joined: The walks of batch cc2 and others. -/
import Derived.Test.YtkjhghloldgioaaGreatPart18
import Derived.Test.YtkjhghloldgioaaGreatChecked
import Derived.Test.YtkjhghloldgioaaGreatH35
import Derived.Test.YtkjhghloldgioaaGreatPart26
import Derived.Test.YtkjhghloldgioaaGreatPart28
import Derived.Test.YtkjhghloldgioaaGreatH41
import Derived.Test.YtkjhghloldgioaaGreatPart21
namespace Go.Proofs.YtkjhghloldgioaaGreat
open Go.H
set_option linter.unusedVariables false
set_option linter.unusedSimpArgs false
set_option maxRecDepth 10000
set_option maxHeartbeats 0
theorem e0d(h:Hp)(b:Int)(t:J0 b)(d:Option Addr)(k e:Nat)(f:Y1)(l:j2.R h [.slice d k e] f)(r:j0×Bool)(a:O01 b f=some r):
  Tr Tryz.prog 90 #[.int .i64 b,.slice d k e] h λv q=>∃(i:List Value),v = .tuple #[.agg i.toArray,.bool r.2]/\New C1 h q i r.1:=by
 obtain⟨rfl,M⟩:=Sl.len l
 unfold O01 at a
 refine A2 (args:=[.int .i64 b,.slice d f.length e]) (fn:=Tryz.f90) rfl ?_
 refine trM a (i0f _ _ t _ _ _ _ l) ?_
 rintro E a T j ⟨J,rfl,c⟩
 obtain⟨W,aa⟩:=E
 dsimp only at a c
 have n:Sub h j:=c.sub
 have A:=c.r
 obtain⟨X,Y,I,P,L,Z,rfl,rfl,u,w,m⟩:=C0 A
 obtain⟨rfl,N⟩:=Sl.len m
 try dsimp only at a
 have V:=New.sndI (New.sndI (c))
 refine ifB a (λs a=>?_) λs a=>?_
 ·obtain rfl:=oJ a
  exact⟨([.int .i64 0,.int .i64 0,.slice none 0 0]),rfl,(New.pair (New.int (by decide)) (New.pair (New.int (by decide)) ((New.nilSlice (r:=E1)).mono n)))⟩
 ·refine trM a (o08 _ _ _ (l0 u w m)) ?_
  rintro ab a U z ⟨K,rfl,g⟩
  have S:Sub j z:=g.sub
  have B:=g.r
  obtain⟨F,G,o,Q,p,H,rfl,rfl,x,y,C⟩:=C0 B
  obtain⟨rfl,O⟩:=Sl.len C
  try dsimp only at a
  have D:=New.sndI (New.sndI (g))
  obtain rfl:=oJ a
  exact⟨([.int .i64 F,.int .i64 G,.slice o H.length p]),rfl,(New.pair (New.int x) (New.pair (New.int y) (New.from D n)))⟩
theorem O00(h:Hp)(i:List Value)(l:j0)(C:C1.R h i l)(b:Option Addr)(k c:Nat)(e:Y1)(m:j2.R h [.slice b k c] e)(r:Bool)(a:Z5 l e=some r):
  Tr Tryz.prog 184 #[.agg i.toArray,.slice b k c] h λv t=>v = .bool r/\t=h:=by
 obtain⟨z,A,p,L,s,B,rfl,rfl,d,j,f⟩:=C0 C
 obtain⟨rfl,I⟩:=Sl.len f
 obtain⟨rfl,J⟩:=Sl.len m
 unfold Z5 at a
 dsimp only at a
 refine Tr.forget (A2 (args:=[.agg #[.int .i64 z,.int .i64 A,.slice p B.length s],.slice b e.length c]) (fn:=Tryz.f184) rfl ?_)
 refine trV a (a01 _ _ _ (l0 d j f)) λO a=>?_
 refine ifB a (λu a=>?_) λu a=>?_
 ·obtain rfl:=oJ a
  exact aI rfl (Sub.refl _)
 ·refine trM a (e0d _ _ d _ _ _ _ m) ?_
  rintro E a N y ⟨G,rfl,g⟩
  obtain⟨P,U⟩:=E
  dsimp only at a g
  have o:Sub h y:=g.sub
  have D:=g.r
  obtain⟨Q,S,F,M,H,T,rfl,rfl,w,x,n⟩:=C0 D
  obtain⟨rfl,K⟩:=Sl.len n
  try dsimp only at a
  refine trG a (λq=>O06 _ _ _ (l0 d j (I0.mono o f)) _ _ (l0 w x n)) λV a=>?_
  obtain rfl:=oJ a
  exact aI rfl o
theorem Z08(h:Hp)(n:List Value)(t:j0)(L:C1.R h n t)(f:Option Addr)(s g:Nat)(j:B0)(u:D0.R h [.slice f s g] j)(r:Bool)(b:A01 t j=some r):
  Tr Tryz.prog 188 #[.agg n.toArray,.slice f s g] h λv F=>v = .bool r/\F=h:=by
 obtain⟨I,J,y,ag,A,K,rfl,rfl,o,p,k⟩:=C0 L
 obtain⟨rfl,ad⟩:=Sl.len k
 obtain⟨rfl,ae⟩:=Sl.len u
 unfold A01 at b
 dsimp only at b
 refine Tr.forget (A2 (args:=[.agg #[.int .i64 I,.int .i64 J,.slice y K.length A],.slice f j.length g]) (fn:=Tryz.f188) rfl ?_)
 refine Or.inr (Or.inr (Or.inr (Or.inl (aI (aI (by kernel_rfl) (by kernel_rfl)) ?_))))
 obtain⟨S,C,b⟩:=z0 b
 refine Or.inl (eX (.val (.bool S)) (aI ?_ ?_))
 ·intro Z O
  exact Tr.val (a01 _ _ _ (l0 o p (I0.mono O k)) _ C) (aI rfl (aI rfl rfl))
 obtain⟨d,D,b⟩:=z0 b
 refine Or.inr (eX (λv G=>∃(a:Option Addr) (c:Nat),v = .slice a d.length c/\D0.R G [.slice a d.length c] d/\d.length<=9223372036854775807) (aI (λv W X m q=>by obtain⟨a,c,e,r,l⟩:=q;exact⟨a,c,e,D0.mono m r,l⟩) (aI ?_ ?_)))
 ·intro aa P i
  refine Tr.mono (O05 _ _ _ _ _ (D0.mono P u) _ (T7 D i)) ?_
  rintro _ ac ⟨z,ah,B,rfl,x⟩
  have m:=x.sub
  have w:=x.r
  obtain⟨rfl,H⟩:=Sl.len w
  exact aI M5 (aI m ⟨z,B,rfl,w,H⟩)
 obtain⟨T,E,b⟩:=z0 b
 refine Or.inl (eX (.val (.bool T)) (aI ?_ ?_))
 ·intro ab Q i
  rintro _ ⟨U,V,rfl,M,af⟩
  exact Tr.val (P06 _ _ _ (l0 o p (I0.mono Q k)) _ _ _ _ M _ (T7 E i)) (aI rfl (aI rfl rfl))
 intro Y N
 obtain rfl:=oJ b
 exact aI rfl N
theorem W0h(h:Hp)(M:List Value)(T:j0)(aK:C1.R h M T)(x:Option Addr)(S y:Nat)(D:B0)(E:D0.R h [.slice x S y] D)(r:j0×Int×Bool)(b:t05 T D=some r):
  Tr Tryz.prog 208 #[.agg M.toArray,.slice x S y] h λv P=>∃(L:List Value),v = .tuple #[.agg L.toArray,.int .i64 r.2.1,.bool r.2.2]/\C1.R P L r.1/\Sub h P:=by
 obtain⟨U,V,H,bs,K,W,rfl,rfl,C,s,t⟩:=C0 aK
 obtain⟨rfl,bm⟩:=Sl.len t
 obtain⟨rfl,bn⟩:=Sl.len E
 unfold t05 at b
 dsimp only at b
 refine A2 (args:=[.agg #[.int .i64 U,.int .i64 V,.slice H W.length K],.slice x D.length y]) (fn:=Tryz.f208) rfl ?_
 obtain⟨aU,ak,b⟩:=z0 b
 obtain⟨aX,aY⟩:=aU
 try dsimp only at b
 refine Tr.val (q07 _ _ _ (l0 C s t) 0 (by decide) _ _ _ _ E _  ak) ?_
 obtain⟨bv,ai,b⟩:=z0 b
 have ar:J0 aX:=E2 ai
 obtain⟨bx,aj,b⟩:=z0 b
 have bd:J0 aY:=E2 aj
 refine ifB b (λao b=>?_) λao b=>?_
 ·obtain rfl:=oJ b
  exact⟨([.int .i64 U,.int .i64 V,.slice H W.length K]),rfl,(l0 C s t),(Sub.refl _)⟩
 ·refine trM b (i0e _ _ _ (l0 C s t)) ?_
  rintro aZ b bD Q ⟨a4,rfl,F⟩
  obtain⟨bE,bI⟩:=aZ
  dsimp only at b F
  have u:Sub h Q:=F.sub
  have aM:=F.r
  obtain⟨bF,bG,a0,bt,ba,bH,rfl,rfl,au,av,X⟩:=C0 aM
  obtain⟨rfl,bo⟩:=Sl.len X
  try dsimp only at b
  refine ifB b (λap b=>?_) λap b=>?_
  ·obtain rfl:=oJ b
   exact⟨([.int .i64 0,.int .i64 0,.slice none 0 0]),rfl,(l0 (by decide) (by decide) (b09 E1 Q)),u⟩
  ·refine Or.inr (Or.inr (Or.inr (Or.inr (eX 10 (aI (aI (by kernel_rfl) (by kernel_rfl)) ?_)))))
   obtain⟨w,am,b⟩:=z0 b
   refine Or.inr (eX (λv i=>∃(a:Option Addr) (c:Nat),v = .slice a w.length c/\D0.R i [.slice a w.length c] w/\w.length<=9223372036854775807) (aI (λv A B j q=>by obtain⟨a,c,e,r,l⟩:=q;exact⟨a,c,e,D0.mono j r,l⟩) (aI ?_ ?_)))
   ·intro bg aR
    obtain⟨aJ,aT,af,ah⟩:=Sl.cutI (r:=Wp.int.toRp) (D0.mono (u.trans aR) E) am
    refine aI aJ (eX aT (aI af ?_))
    intro v aq _
    obtain⟨a,c,rfl,r⟩:=ah v aq
    exact aI M5 (aI (Sub.refl _) ⟨a,c,rfl,r,(Sl.len r).2⟩)
   obtain⟨aV,al,b⟩:=z0 b
   obtain⟨aW,G⟩:=aV
   try dsimp only at b
   obtain⟨m,n,d⟩:=aW
   try dsimp only at b
   refine Or.inr (eX (λv i=>∃(k:Value),v = .tuple #[k,.bool G]/\(λv i=>∃(f:Option Addr) (g:Nat),v = .agg #[.int .i64 m,.int .i64 n,.slice f d.length g]/\J0 m/\J0 n/\I0.R i [.slice f d.length g] d/\d.length<=9223372036854775807) k i) (aI (λv A B j q=>by obtain⟨k,e,z⟩:=q;exact⟨k,e,(by obtain⟨f,g,e,o,p,f2,f3⟩:=z;exact⟨f,g,e,o,p,I0.mono j f2,f3⟩)⟩) (aI ?_ ?_)))
   ·intro bh aS
    rintro _ ⟨a1,bb,rfl,aN,bp⟩
    refine Tr.mono (g0a _ _ _ (l0 au av (I0.mono aS X)) _ ar _ _ _ _ aN _ s _ al) ?_
    rintro _ bl ⟨a3,rfl,aa⟩
    have j:=aa.sub
    have aL:=aa.r
    obtain⟨bJ,bK,I,bu,N,bL,rfl,ag,aw,ax,Y⟩:=C0 aL
    cases ag
    obtain⟨rfl,aF⟩:=Sl.len Y
    exact aI M5 (aI j ⟨(.agg #[.int .i64 m,.int .i64 n,.slice I d.length N]),rfl,⟨I,N,rfl,aw,ax,Y,aF⟩⟩)
   refine Or.inr (eX (λv i=>∃(k:Value),v = .tuple #[k,.bool G]/\(λv i=>∃(f:Option Addr) (g:Nat),v = .agg #[.int .i64 m,.int .i64 n,.slice f d.length g]/\J0 m/\J0 n/\I0.R i [.slice f d.length g] d/\d.length<=9223372036854775807) k i) (aI (λv A B j q=>by obtain⟨k,e,z⟩:=q;exact⟨k,e,(by obtain⟨f,g,e,o,p,f2,f3⟩:=z;exact⟨f,g,e,o,p,I0.mono j f2,f3⟩)⟩) (aI ?_ ?_)))
   ·intro bi bA
    rintro _ ⟨_,rfl,⟨J,O,rfl,ay,az,aO,aG⟩⟩
    exact aI M5 (aI (Sub.refl _) ⟨(.agg #[.int .i64 m,.int .i64 n,.slice J d.length O]),rfl,⟨J,O,rfl,ay,az,aO,aG⟩⟩)
   refine Or.inr (eX (λv i=>∃(f:Option Addr) (g:Nat),v = .agg #[.int .i64 m,.int .i64 n,.slice f d.length g]/\J0 m/\J0 n/\I0.R i [.slice f d.length g] d/\d.length<=9223372036854775807) (aI (λv A B j q=>by obtain⟨f,g,e,o,p,f2,f3⟩:=q;exact⟨f,g,e,o,p,I0.mono j f2,f3⟩) (aI ?_ ?_)))
   ·intro bj bB
    rintro _ ⟨_,rfl,⟨ab,ad,rfl,aA,aB,aP,aH⟩⟩
    exact aI M5 (aI (Sub.refl _) ⟨ab,ad,rfl,aA,aB,aP,aH⟩)
   refine Or.inl (eX (.val (.bool G)) (aI ?_ ?_))
   ·intro bk bC
    rintro _ ⟨_,rfl,⟨a2,bc,rfl,be,bf,bz,bq⟩⟩
    exact aI rfl (aI rfl rfl)
   intro aE Z
   rintro _ ⟨ac,ae,rfl,aC,aD,aQ,br⟩
   rintro _ _
   rintro _ _
   rintro _ _
   refine ifB b (λan b=>?_) λan b=>?_
   ·obtain rfl:=oJ b
    exact⟨([.int .i64 0,.int .i64 0,.slice none 0 0]),rfl,(l0 (by decide) (by decide) (b09 E1 aE)),(u.trans Z)⟩
   ·obtain rfl:=oJ b
    exact⟨([.int .i64 m,.int .i64 n,.slice ac d.length ae]),rfl,(l0 aC aD aQ),(u.trans Z)⟩
theorem F07(h:Hp)(k:List Value)(n:j0)(M:C1.R h k n)(c:Option Addr)(m d:Nat)(f:B0)(i:D0.R h [.slice c m d] f)(r:j0×Bool)(a:I5 n f=some r):
  Tr Tryz.prog 98 #[.agg k.toArray,.slice c m d] h λv z=>∃(j:List Value),v = .tuple #[.agg j.toArray,.bool r.2]/\New C1 h z j r.1:=by
 obtain⟨J,K,t,af,w,L,rfl,rfl,e,l,g⟩:=C0 M
 obtain⟨rfl,ab⟩:=Sl.len g
 obtain⟨rfl,ac⟩:=Sl.len i
 unfold I5 at a
 dsimp only at a
 refine A2 (args:=[.agg #[.int .i64 J,.int .i64 K,.slice t L.length w],.slice c f.length d]) (fn:=Tryz.f98) rfl ?_
 refine trV a (a01 _ _ _ (l0 e l g)) λam a=>?_
 refine trG a (λq=>v05 _ _ e _ _ _ _ i) λan a=>?_
 refine ifB a (λA a=>?_) λA a=>?_
 ·obtain rfl:=oJ a
  exact⟨([.int .i64 0,.int .i64 0,.slice none 0 0]),rfl,(New.pair (New.int (by decide)) (New.pair (New.int (by decide)) ((New.nilSlice (r:=E1)).mono (Sub.refl _))))⟩
 ·refine trM a (W0h _ _ _ (l0 e l g) _ _ _ _ i) ?_
  rintro Q a al I ⟨Y,rfl,o,s⟩
  obtain⟨ao,S,au⟩:=Q
  dsimp only at a o
  obtain⟨ap,aq,X,ag,aa,ar,rfl,rfl,C,D,p⟩:=C0 o
  obtain⟨rfl,ad⟩:=Sl.len p
  try dsimp only at a
  obtain⟨ai,y,a⟩:=z0 a
  have E:J0 S:=E2 y
  refine ifB a (λB a=>?_) λB a=>?_
  ·obtain rfl:=oJ a
   exact⟨([.int .i64 0,.int .i64 0,.slice none 0 0]),rfl,(New.pair (New.int (by decide)) (New.pair (New.int (by decide)) ((New.nilSlice (r:=E1)).mono s)))⟩
  ·refine trM a (k0f _ _ _ (l0 C D p) _ E) ?_
   rintro T a ak H ⟨Z,rfl,b⟩
   obtain⟨av,aw⟩:=T
   dsimp only at a b
   have aj:Sub I H:=b.sub
   have N:=b.r
   obtain⟨U,V,u,ah,x,W,rfl,rfl,F,G,O⟩:=C0 N
   obtain⟨rfl,ae⟩:=Sl.len O
   try dsimp only at a
   have P:=New.sndI (New.sndI (b))
   obtain rfl:=oJ a
   exact⟨([.int .i64 U,.int .i64 V,.slice u W.length x]),rfl,(New.pair (New.int F) (New.pair (New.int G) (New.from P s)))⟩
theorem X0h(h:Hp)(b:List Value)(c:j0)(o:C1.R h b c)(r:Int)(a:X02 c=some r):
  Tr Tryz.prog 99 #[.agg b.toArray] h λv g=>v = .int .i64 r/\g=h:=by
 obtain⟨l,m,e,q,f,n,rfl,rfl,j,k,d⟩:=C0 o
 obtain⟨rfl,p⟩:=Sl.len d
 unfold X02 at a
 dsimp only at a
 refine Tr.forget (A2 (args:=[.agg #[.int .i64 l,.int .i64 m,.slice e n.length f]]) (fn:=Tryz.f99) rfl ?_)
 refine trV a (a01 _ _ _ (l0 j k d)) λs a=>?_
 refine ifB a (λi a=>?_) λi a=>?_
 ·obtain rfl:=oJ a
  exact aI rfl (Sub.refl _)
 ·obtain rfl:=oJ a
  exact aI rfl (Sub.refl _)
theorem y0h(h:Hp)(b:List Value)(c:j0)(o:C1.R h b c)(r:Int)(a:x03 c=some r):
  Tr Tryz.prog 100 #[.agg b.toArray] h λv g=>v = .int .i64 r/\g=h:=by
 obtain⟨l,m,e,q,f,n,rfl,rfl,j,k,d⟩:=C0 o
 obtain⟨rfl,p⟩:=Sl.len d
 unfold x03 at a
 dsimp only at a
 refine Tr.forget (A2 (args:=[.agg #[.int .i64 l,.int .i64 m,.slice e n.length f]]) (fn:=Tryz.f100) rfl ?_)
 refine trV a (i0a _ _ _ (l0 j k d)) λs a=>?_
 refine ifB a (λi a=>?_) λi a=>?_
 ·obtain rfl:=oJ a
  exact aI rfl (Sub.refl _)
 ·obtain rfl:=oJ a
  exact aI rfl (Sub.refl _)
theorem V04(h:Hp)(J:List Value)(N:Z2)(bc:Q1.R h J N)(r:Bool)(b:D9 N=some r):
  Tr Tryz.prog 81 #[.agg J.toArray] h λv aB=>v = .bool r/\aB=h:=by
 obtain⟨aY,aZ,Y,cc,ag,a0,Z,cd,ah,a1,aa,ce,ai,a2,a3,a4,ab,cf,aj,ba,bb,rfl,rfl,bL,M,p,u,O,m,n,k,bM⟩:=O3 bc
 obtain⟨rfl,b2⟩:=Sl.len p
 obtain⟨rfl,b3⟩:=Sl.len u
 obtain⟨rfl,b4⟩:=Sl.len O
 obtain⟨rfl,b5⟩:=Sl.len k
 unfold D9 at b
 dsimp only at b
 refine Tr.forget (A2 (args:=[.agg #[.int .i64 aY,.int .i64 aZ,.slice Y a0.length ag,.slice Z a1.length ah,.slice aa a2.length ai,.int .i64 a3,.int .i64 a4,.slice ab ba.length aj,.int .i64 bb]]) (fn:=Tryz.f81) rfl ?_)
 refine trV b (W08 _ _ M _ _ _ _ p) λcq b=>?_
 refine trG b (λq=>v05 _ _ M _ _ _ _ u) λcr b=>?_
 refine trG b (λq=>a01 _ _ _ (l0 m n k)) λcw b=>?_
 refine ifB b (λaF b=>?_) λaF b=>?_
 ·obtain rfl:=oJ b
  exact aI rfl (Sub.refl _)
 ·refine ifB b (λaH b=>?_) λaH b=>?_
  ·refine Or.inr (Or.inr (Or.inr (Or.inl (aI (aI (by kernel_rfl) (by kernel_rfl)) ?_))))
   obtain⟨bz,az,b⟩:=z0 b
   refine Or.inl (eX (.val (.bool bz)) (aI ?_ ?_))
   ·intro b1 V
    exact Tr.val (O00 _ _ _ (l0 m n (I0.mono V k)) _ _ _ _ (j2.mono V p) _ az) (aI rfl (aI rfl rfl))
   obtain⟨D,aA,b⟩:=z0 b
   refine Or.inr (eX (λv f=>∃(a:Option Addr) (c:Nat),v = .slice a D.length c/\j2.R f [.slice a D.length c] D/\D.length<=9223372036854775807) (aI (λv y z d q=>by obtain⟨a,c,e,r,l⟩:=q;exact⟨a,c,e,j2.mono d r,l⟩) (aI ?_ ?_)))
   ·intro bR bk A
    refine Tr.mono (x0h _ _ _ (l0 m n (I0.mono bk k)) _ (T7 aA A)) ?_
    rintro _ F ⟨ae,ci,am,rfl,S,d⟩
    obtain⟨rfl,aU⟩:=Sl.len S
    exact aI M5 (aI d ⟨ae,am,rfl,S,aU⟩)
   obtain⟨B,ar,b⟩:=z0 b
   refine Or.inr (eX (λv f=>∃(a:Option Addr) (c:Nat),v = .slice a B.length c/\D0.R f [.slice a B.length c] B/\B.length<=9223372036854775807) (aI (λv y z d q=>by obtain⟨a,c,e,r,l⟩:=q;exact⟨a,c,e,D0.mono d r,l⟩) (aI ?_ ?_)))
   ·intro bS bl A
    rintro _ ⟨bA,bG,rfl,be,b6⟩
    refine Tr.mono (l0f _ _ _ _ _ be _ _ _ _ (D0.mono bl O) _ (T7 ar A)) ?_
    rintro _ F ⟨ac,cg,ak,rfl,P,d⟩
    obtain⟨rfl,aS⟩:=Sl.len P
    exact aI M5 (aI d ⟨ac,ak,rfl,P,aS⟩)
   obtain⟨bq,au,b⟩:=z0 b
   refine Or.inl (eX (.val (.bool bq)) (aI ?_ ?_))
   ·intro bT bm A
    rintro _ ⟨bB,bH,rfl,bf,b7⟩
    exact Tr.val (Y0c _ _ _ _ _ bf _ _ _ _ (D0.mono bm u) _ (T7 au A)) (aI rfl (aI rfl rfl))
   intro bU bn
   obtain rfl:=oJ b
   exact aI rfl bn
  ·refine ifB b (λaC b=>?_) λaC b=>?_
   ·refine trV b (K0b _ _ _ (l0 m n k) _ _ _ _ p) λcs b=>?_
    refine trG b (λq=>Z08 _ _ _ (l0 m n k) _ _ _ _ u) λct b=>?_
    obtain rfl:=oJ b
    exact aI rfl (Sub.refl _)
   ·refine ifB b (λaD b=>?_) λaD b=>?_
    ·refine trV b (O00 _ _ _ (l0 m n k) _ _ _ _ p) λcu b=>?_
     refine trG b (λq=>Z08 _ _ _ (l0 m n k) _ _ _ _ u) λcv b=>?_
     obtain rfl:=oJ b
     exact aI rfl (Sub.refl _)
    ·refine ifB b (λaE b=>?_) λaE b=>?_
     ·refine Or.inr (Or.inr (Or.inr (Or.inr (eX 10 (aI (aI (by kernel_rfl) (by kernel_rfl)) ?_)))))
      obtain⟨C,av,b⟩:=z0 b
      refine Or.inr (eX (λv f=>∃(a:Option Addr) (c:Nat),v = .slice a C.length c/\D0.R f [.slice a C.length c] C/\C.length<=9223372036854775807) (aI (λv y z d q=>by obtain⟨a,c,e,r,l⟩:=q;exact⟨a,c,e,D0.mono d r,l⟩) (aI ?_ ?_)))
      ·intro bV bo
       refine Tr.mono (R04 _ _ _ _ _ (D0.mono bo u) _ av) ?_
       rintro _ F ⟨ad,ch,al,rfl,W⟩
       have d:=W.sub
       have Q:=W.r
       obtain⟨rfl,aT⟩:=Sl.len Q
       exact aI M5 (aI d ⟨ad,al,rfl,Q,aT⟩)
      obtain⟨br,aw,b⟩:=z0 b
      obtain⟨bs,G⟩:=br
      try dsimp only at b
      obtain⟨s,t,j⟩:=bs
      try dsimp only at b
      refine Or.inr (eX (λv f=>∃(o:Value),v = .tuple #[o,.bool G]/\(λv f=>∃(g:Option Addr) (i:Nat),v = .agg #[.int .i64 s,.int .i64 t,.slice g j.length i]/\J0 s/\J0 t/\I0.R f [.slice g j.length i] j/\j.length<=9223372036854775807) o f) (aI (λv y z d q=>by obtain⟨o,e,E⟩:=q;exact⟨o,e,(by obtain⟨g,i,e,w,x,f2,f3⟩:=E;exact⟨g,i,e,w,x,I0.mono d f2,f3⟩)⟩) (aI ?_ ?_)))
      ·intro bW bp
       rintro _ ⟨bC,bI,rfl,bg,b8⟩
       refine Tr.mono (F07 _ _ _ (l0 m n (I0.mono bp k)) _ _ _ _ bg _ aw) ?_
       rintro _ F ⟨bF,rfl,X⟩
       have d:=X.sub
       have bd:=X.r
       obtain⟨cy,cz,H,cj,K,cA,rfl,ao,aK,aL,T⟩:=C0 bd
       cases ao
       obtain⟨rfl,aV⟩:=Sl.len T
       exact aI M5 (aI d ⟨(.agg #[.int .i64 s,.int .i64 t,.slice H j.length K]),rfl,⟨H,K,rfl,aK,aL,T,aV⟩⟩)
      refine Or.inr (eX (λv f=>∃(o:Value),v = .tuple #[o,.bool G]/\(λv f=>∃(g:Option Addr) (i:Nat),v = .agg #[.int .i64 s,.int .i64 t,.slice g j.length i]/\J0 s/\J0 t/\I0.R f [.slice g j.length i] j/\j.length<=9223372036854775807) o f) (aI (λv y z d q=>by obtain⟨o,e,E⟩:=q;exact⟨o,e,(by obtain⟨g,i,e,w,x,f2,f3⟩:=E;exact⟨g,i,e,w,x,I0.mono d f2,f3⟩)⟩) (aI ?_ ?_)))
      ·intro bX cn
       rintro _ ⟨_,rfl,⟨I,L,rfl,aM,aN,bh,aW⟩⟩
       exact aI M5 (aI (Sub.refl _) ⟨(.agg #[.int .i64 s,.int .i64 t,.slice I j.length L]),rfl,⟨I,L,rfl,aM,aN,bh,aW⟩⟩)
      refine Or.inr (eX (λv f=>∃(g:Option Addr) (i:Nat),v = .agg #[.int .i64 s,.int .i64 t,.slice g j.length i]/\J0 s/\J0 t/\I0.R f [.slice g j.length i] j/\j.length<=9223372036854775807) (aI (λv y z d q=>by obtain⟨g,i,e,w,x,f2,f3⟩:=q;exact⟨g,i,e,w,x,I0.mono d f2,f3⟩) (aI ?_ ?_)))
      ·intro bY co
       rintro _ ⟨_,rfl,⟨af,an,rfl,aO,aP,bi,aX⟩⟩
       exact aI M5 (aI (Sub.refl _) ⟨af,an,rfl,aO,aP,bi,aX⟩)
      refine Or.inl (eX (.val (.bool G)) (aI ?_ ?_))
      ·intro bZ cp
       rintro _ ⟨_,rfl,⟨bD,bJ,rfl,bP,bQ,cm,ca⟩⟩
       exact aI rfl (aI rfl rfl)
      intro b0 U
      rintro _ ⟨bE,bK,rfl,aQ,aR,bj,cb⟩
      rintro _ _
      rintro _ _
      rintro _ _
      refine trG b (λq=>O00 _ _ _ (l0 aQ aR bj) _ _ _ _ (j2.mono U p)) λcx b=>?_
      obtain rfl:=oJ b
      exact aI rfl U
     ·refine ifB b (λaG b=>?_) λaG b=>?_
      ·refine Or.inl (aI (aI (by kernel_rfl) (by kernel_rfl)) ?_)
       obtain⟨bt,ax,b⟩:=z0 b
       refine eX (.bool bt) (aI (O00 _ _ _ (l0 m n k) _ _ _ _ p _  ax) ?_)
       refine trG b (λq=>X0h _ _ _ (l0 m n k)) λbu b=>?_
       obtain⟨ck,ap,b⟩:=z0 b
       have bN:J0 bu:=E2 ap
       obtain rfl:=oJ b
       exact aI rfl (Sub.refl _)
      ·refine ifB b (λaJ b=>?_) λaJ b=>?_
       ·refine Or.inl (aI (aI (by kernel_rfl) (by kernel_rfl)) ?_)
        obtain⟨bv,ay,b⟩:=z0 b
        refine eX (.bool bv) (aI (O00 _ _ _ (l0 m n k) _ _ _ _ p _  ay) ?_)
        refine trG b (λq=>y0h _ _ _ (l0 m n k)) λbx b=>?_
        obtain⟨cl,aq,b⟩:=z0 b
        have bO:J0 bx:=E2 aq
        obtain rfl:=oJ b
        exact aI rfl (Sub.refl _)
       ·obtain rfl:=oJ b
        exact aI rfl (Sub.refl _)
theorem M0b(h:Hp)(p:List Value)(x:V1)(U:L1.R h p x)(r:B0)(e:p01 x=some r):
  Tr Tryz.prog 21 #[.agg p.toArray] h λv i=>∃(n:Option Addr) (w o:Nat),v = .slice n w o/\New D0 h i [.slice n w o] r:=by
 obtain⟨k,D,an,G,l,rfl,rfl,af,y⟩:=K3 U
 obtain⟨rfl,ah⟩:=Sl.len y
 unfold p01 at e
 dsimp only at e
 refine A2 (args:=[.agg #[.int .i64 k,.slice D l.length G]]) (fn:=Tryz.f21) rfl ?_
 obtain⟨m,L,e⟩:=z0 e
 refine eX { vars:=[10],boxes:=[],owns:=[0],fuel:=true } (eX (λvs os i=>∃ b g c,vs.tail = [.int .i64 b]/\os = [g]/\Sub h i/\J0 b/\F2 (Wp.int.R i) g c/\B5 l k (Z1 vs) b c=some m) (eX (λ_ _=>0) (aI (eX T0 ⟨0,[],([]:B0),rfl,rfl,(Sub.refl _),(by decide),(show F2 (Wp.int.R h) ([]:List (List Value)) ([]:B0) from trivial),L⟩) ?_)))
 rintro _ g f u ⟨b,aK,c,⟨⟩,⟨⟩,j,t,d,a⟩
 replace a:B5 l k f b c=some m:=a
 obtain _|f:=f
 ·cases a
 rw[B5.eq_2]at a
 refine ifB a (λM a=>?_) λM a=>?_
 ·obtain⟨ay,K,a⟩:=z0 a
  obtain⟨F,aa,I,V⟩:=Sl.getI (r:=Q1.toRp) (U4.mono j y) K (by decide)
  refine aI F ?_
  obtain⟨az,aA,W,ao,ab,aB,X,ap,ac,aC,Y,aq,ad,aD,aE,aF,Z,ar,ae,aG,aH,rfl,rfl,O,P,z,A,B,Q,S,C,T⟩:=O3 V
  obtain⟨rfl,ai⟩:=Sl.len z
  obtain⟨rfl,aj⟩:=Sl.len A
  obtain⟨rfl,ak⟩:=Sl.len B
  obtain⟨rfl,al⟩:=Sl.len C
  try dsimp only at a
  refine eX _ (aI I ?_)
  refine trG a (λq=>V04 _ _ _ (V2 O P z A B Q S C T)) λaJ a=>?_
  refine ifB a (λN a=>?_) λN a=>?_
  ·obtain⟨au,J,a⟩:=z0 a
   refine aI (P1 J (by first|rw[F2.length d,F2.length (show F2 (Wp.int.R u) ([[.int .i64 b]]:List (List Value)) [b] from⟨⟨rfl,t⟩,trivial⟩)]|exact congrArg (·+1) (F2.length d))) ?_
   exact L2 f ⟨(IntKind.i64.wrap (b+1)),(g++([[.int .i64 b]]:List (List Value))),(c ++ [b]),rfl,rfl,j,(M0 _),(F2.append d (show F2 (Wp.int.R u) ([[.int .i64 b]]:List (List Value)) [b] from⟨⟨rfl,t⟩,trivial⟩)),a⟩
  ·exact L2 f ⟨(IntKind.i64.wrap (b+1)),g,c,rfl,rfl,j,(M0 _),d,a⟩
 ·obtain rfl:=oJ a
  try dsimp only[U0,Y0]at e
  intro ax ag s
  obtain⟨E,H,rfl,av,aw,am⟩:=Z0.out (r:=Wp.int.toRp) s d
  obtain rfl:=oJ e
  exact⟨E,c.length,H,rfl,(New.from (Z0.newPlain (r:=Wp.int) s d (G05 _)) j)⟩
theorem s07(h:Hp)(j:List Value)(m:V1)(D:L1.R h j m)(r:Bool)(b:Q01 m=some r):
  Tr Tryz.prog 18 #[.agg j.toArray] h λv z=>v = .bool r/\z=h:=by
 obtain⟨C,s,X,u,g,rfl,rfl,k,n⟩:=K3 D
 obtain⟨rfl,V⟩:=Sl.len n
 unfold Q01 at b
 dsimp only at b
 refine Tr.forget (A2 (args:=[.agg #[.int .i64 C,.slice s g.length u]]) (fn:=Tryz.f18) rfl ?_)
 refine aI (by kernel_rfl) ?_
 obtain⟨G,x,b⟩:=z0 b
 refine Or.inl (eX (.val (.bool G)) (aI ?_ ?_))
 ·intro P ad
  exact Tr.val (I8 _ _ k 1 (by decide) 3 (by decide) _ x) (aI rfl (aI rfl rfl))
 refine Or.inl (eX (.val (.int .i64 ((g.length:Nat):Int))) (aI ?_ ?_))
 ·intro Q ae f
  exact aI rfl (aI rfl rfl)
 refine Or.inl (eX (.val (.bool (decide (((g.length:Nat):Int)<=12)))) (aI ?_ ?_))
 ·intro S af f
  exact aI rfl (aI rfl rfl)
 obtain⟨d,y,b⟩:=z0 b
 refine Or.inr (eX (λv A=>∃(a:Option Addr) (c:Nat),v = .slice a d.length c/\D0.R A [.slice a d.length c] d/\d.length<=9223372036854775807) (aI (λv K L i q=>by obtain⟨a,c,e,r,l⟩:=q;exact⟨a,c,e,D0.mono i r,l⟩) (aI ?_ ?_)))
 ·intro T E f
  refine Tr.mono (M0b _ _ _ (Q6 k (U4.mono E n)) _ (T7 y f)) ?_
  rintro _ U ⟨t,Y,w,rfl,p⟩
  have i:=p.sub
  have o:=p.r
  obtain⟨rfl,B⟩:=Sl.len o
  exact aI M5 (aI i ⟨t,w,rfl,o,B⟩)
 obtain⟨Z,J,b⟩:=z0 b
 refine Or.inl (eX (.val (.int .i64 ((d.length:Nat):Int))) (aI ?_ ?_))
 ·intro M ab f
  rintro _ ⟨H,I,rfl,aa,W⟩
  exact aI rfl (aI rfl rfl)
 refine Or.inl (eX (.val (.bool (decide (((d.length:Nat):Int)=0)))) (aI ?_ ?_))
 ·intro N ac f
  exact aI rfl (aI rfl rfl)
 intro O F
 obtain rfl:=oJ b
 exact aI rfl F
theorem z0h(h:Hp)(o:Option Addr)(F q:Nat)(g:Y1)(G:j2.R h [.slice o F q] g)(r:Y1)(f:y03 g=some r):
  Tr Tryz.prog 190 #[.slice o F q] h λv e=>∃(y:Option Addr) (E z:Nat),v = .slice y E z/\New j2 h e [.slice y E z] r:=by
 obtain⟨rfl,ad⟩:=Sl.len G
 unfold y03 at f
 refine A2 (args:=[.slice o g.length q]) (fn:=Tryz.f190) rfl ?_
 obtain⟨x,O,f⟩:=z0 f
 refine eX { vars:=[4],boxes:=[],owns:=[0],fuel:=true } (eX (λvs os e=>∃ c j b,vs.tail = [.int .i64 c]/\os = [j]/\Sub h e/\J0 c/\F2 (D0.R e) j b/\(∃ Bs,F3 (D0.W e) j b Bs/\l4 h Bs.flatten)/\l9 g (Z1 vs) c b=some x) (eX (λ_ _=>0) (aI (eX T0 ⟨0,[],([]:Y1),rfl,rfl,(Sub.refl _),(by decide),(show F2 (D0.R h) ([]:List (List Value)) ([]:Y1) from trivial),⟨_,(show F3 (D0.W h) [] [] [] from trivial),(l4.nil h)⟩,O⟩) ?_)))
 rintro _ j m l ⟨c,an,b,⟨⟩,⟨⟩,n,ac,k,⟨Z,w,C⟩,a⟩
 replace a:l9 g m c b=some x:=a
 obtain _|m:=m
 ·cases a
 rw[l9.eq_2]at a
 refine ifB a (λP a=>?_) λP a=>?_
 ·refine ld a (j2.mono n G) λd aa u a=>?_
  obtain⟨Y,ah,ab,rfl⟩:=Wp.slice_cell u
  obtain⟨rfl,ae⟩:=Sl.len u
  obtain⟨U,K,t⟩:=Sl.rows (r:=Wp.int.toRp) u
  refine eX U (aI K ?_)
  obtain⟨aj,N,a⟩:=z0 a
  refine aI (P1 N (by first|rw[F2.length (show F2 (Wp.int.R l) ([]:List (List Value)) ([]:B0) from trivial),F2.length t]|exact congrArg (·+1) (F2.length (show F2 (Wp.int.R l) ([]:List (List Value)) ([]:B0) from trivial)))) ?_
  intro am D A
  obtain⟨p,s,rfl,H,i,af⟩:=Z0.out (r:=Wp.int.toRp) A (F2.append (show F2 (Wp.int.R l) ([]:List (List Value)) ([]:B0) from trivial) t)
  obtain⟨ai,M,a⟩:=z0 a
  refine aI (P1 M (by first|rw[F2.length (F2.up (r:=D0.toRp) i k),F2.length (show F2 (D0.R D) ([[.slice p ((([]:B0)++d)).length s]]:List (List Value)) [(([]:B0)++d)] from⟨H,trivial⟩)]|exact congrArg (·+1) (F2.length (F2.up (r:=D0.toRp) i k)))) ?_
  obtain⟨X,V,L,_⟩:=(Z0.newPlain (r:=Wp.int) A (F2.append (show F2 (Wp.int.R l) ([]:List (List Value)) ([]:B0) from trivial) t) (G05 _))
  exact L2 m ⟨(IntKind.i64.wrap (c+1)),(j++([[.slice p ((([]:B0)++d)).length s]]:List (List Value))),(b ++ [(([]:B0)++d)]),rfl,rfl,(n.trans i),(M0 _),(F2.append (F2.up (r:=D0.toRp) i k) (show F2 (D0.R D) ([[.slice p ((([]:B0)++d)).length s]]:List (List Value)) [(([]:B0)++d)] from⟨H,trivial⟩)),⟨_,(F3.snoc V (B09 w i)),(k03 w n C L)⟩,a⟩
 ·obtain rfl:=oJ a
  try dsimp only[U0,Y0]at f
  intro T Q B
  have S:New (Wp.slice D0) h Q [T] b:=(Z0.fresh (r:=D0) B w n C)
  obtain⟨I,J,rfl,ak,al,ag⟩:=Z0.out (r:=D0.toRp) B k
  obtain rfl:=oJ f
  exact⟨I,b.length,J,rfl,S⟩
theorem Q06(h:Hp)(q:List Value)(w:Z2)(av:Q1.R h q w)(r:Z2)(a:q02 w=some r):
  Tr Tryz.prog 85 #[.agg q.toArray] h λv ag=>∃(p:List Value),v = .agg p.toArray/\New Q1 h ag p r:=by
 obtain⟨x,y,I,aW,P,ap,J,aX,Q,z,K,aY,S,A,aq,ar,L,aZ,T,au,B,rfl,rfl,ah,ai,C,D,E,aj,ak,F,al⟩:=O3 av
 obtain⟨rfl,aO⟩:=Sl.len C
 obtain⟨rfl,aP⟩:=Sl.len D
 obtain⟨rfl,aQ⟩:=Sl.len E
 obtain⟨rfl,aR⟩:=Sl.len F
 unfold q02 at a
 dsimp only at a
 refine A2 (args:=[.agg #[.int .i64 x,.int .i64 y,.slice I ap.length P,.slice J z.length Q,.slice K A.length S,.int .i64 aq,.int .i64 ar,.slice L au.length T,.int .i64 B]]) (fn:=Tryz.f85) rfl ?_
 refine trM a (z0h _ _ _ _ _ C) ?_
 rintro aC a be b ⟨M,a0,U,rfl,o⟩
 have e:Sub h b:=o.sub
 have aw:=o.r
 obtain⟨rfl,aS⟩:=Sl.len aw
 obtain⟨ay,aa,l⟩:=Sl.rows (r:=Wp.int.toRp) (D0.mono e D)
 refine eX ay (aI aa ?_)
 obtain⟨a2,ad,a⟩:=z0 a
 refine aI (P1 ad (by first|rw[F2.length (show F2 (Wp.int.R b) ([]:List (List Value)) ([]:B0) from trivial),F2.length l]|exact congrArg (·+1) (F2.length (show F2 (Wp.int.R b) ([]:List (List Value)) ([]:B0) from trivial)))) ?_
 obtain⟨az,ab,m⟩:=Sl.rows (r:=Wp.int.toRp) (D0.mono e E)
 refine eX az (aI ab ?_)
 obtain⟨a3,ae,a⟩:=z0 a
 refine aI (P1 ae (by first|rw[F2.length (show F2 (Wp.int.R b) ([]:List (List Value)) ([]:B0) from trivial),F2.length m]|exact congrArg (·+1) (F2.length (show F2 (Wp.int.R b) ([]:List (List Value)) ([]:B0) from trivial)))) ?_
 refine trM a (J7 _ _ _ (l0 aj ak (I0.mono e F))) ?_
 rintro aD a bb ao ⟨af,a1,V,rfl,j⟩
 have c:Sub b ao:=j.sub
 have G:=j.r
 obtain⟨aE,aF,aG⟩:=aD
 dsimp only at a j G
 obtain⟨_,_,_,_,_,_,Y,Z,am,an,ax⟩:=C0 G
 cases Y
 cases Z
 obtain⟨rfl,aT⟩:=Sl.len ax
 try dsimp only at a
 have aA:=New.sndI (New.sndI (j))
 intro bc aM s
 obtain⟨N,W,rfl,a4,d,aU⟩:=Z0.out (r:=Wp.int.toRp) s (F2.up (r:=Wp.int.toRp) c (F2.append (show F2 (Wp.int.R b) ([]:List (List Value)) ([]:B0) from trivial) l))
 intro bd aN t
 obtain⟨O,X,rfl,ba,g,aV⟩:=Z0.out (r:=Wp.int.toRp) t (F2.up (r:=Wp.int.toRp) (c.trans d) (F2.append (show F2 (Wp.int.R b) ([]:List (List Value)) ([]:B0) from trivial) m))
 obtain rfl:=oJ a
 obtain⟨aH,i,ac,_⟩:=o
 obtain⟨aJ,H,k,_⟩:=(Z0.newPlain (r:=Wp.int) s (F2.up (r:=Wp.int.toRp) c (F2.append (show F2 (Wp.int.R b) ([]:List (List Value)) ([]:B0) from trivial) l)) (G05 _))
 obtain⟨aK,aB,f,_⟩:=(Z0.newPlain (r:=Wp.int) t (F2.up (r:=Wp.int.toRp) (c.trans d) (F2.append (show F2 (Wp.int.R b) ([]:List (List Value)) ([]:B0) from trivial) m)) (G05 _))
 obtain⟨aL,n,u,_⟩:=aA
 exact⟨([.int .i64 x,.int .i64 y,.slice M aC.length U,.slice N ((([]:B0)++z)).length W,.slice O ((([]:B0)++A)).length X,.int .i64 aE,.int .i64 aF,.slice (some ⟨af,0,none⟩) aG.length V,.int .i64 B]),rfl,(NB.fin (NB.pair (NB.int ah) (NB.pair (NB.int ai) (NB.pair (NB.mk i ((c.trans d).trans g) ac (Sub.refl _)) (NB.pair (NB.mk H g k (e.trans c)) (NB.pair (NB.mk aB (Sub.refl _) f ((e.trans c).trans d)) (NB.pair (NB.pair (NB.int am) (NB.pair (NB.int an) (NB.mk n (d.trans g) u e) NB.d0) NB.d0) (NB.int al) NB.de) (NB.da (NB.da NB.de (NB.da NB.de (NB.dr n d f))) NB.de)) (NB.da (NB.dl H (Sub.refl _) f) (NB.da (NB.da NB.de (NB.da NB.de (NB.dr n (Sub.refl _) k))) NB.de))) (NB.da (NB.dl i c k) (NB.da (NB.dl i (c.trans d) f) (NB.da (NB.da NB.de (NB.da NB.de (NB.dl i (Sub.refl _) u))) NB.de)))) NB.d0) NB.d0) (((e.trans c).trans d).trans g))⟩
theorem A0h(h:Hp)(P:List Value)(aa:V1)(aD:L1.R h P aa)(r:V1)(d:Q04 aa=some r):
  Tr Tryz.prog 84 #[.agg P.toArray] h λv p=>∃(O:List Value),v = .agg O.toArray/\New L1 h p O r:=by
 obtain⟨ab,ah,bb,ak,G,rfl,rfl,au,ac⟩:=K3 aD
 obtain⟨rfl,aW⟩:=Sl.len ac
 unfold Q04 at d
 dsimp only at d
 refine A2 (args:=[.agg #[.int .i64 ab,.slice ah G.length ak]]) (fn:=Tryz.f84) rfl ?_
 obtain⟨N,aq,d⟩:=z0 d
 refine eX { vars:=[4],boxes:=[2],owns:=[0],fuel:=true,nilsB:=[(2,1,51,9,136)] } (eX (λvs os p=>∃ e c s b,vs.tail = [.int .i64 e,.int .i64 c]/\os = [s]/\Sub h p/\J0 e/\J0 c/\F2 (Q1.R p) s b/\(∃ Bs,F3 (Q1.W p) s b Bs/\l4 h Bs.flatten)/\n9 G (Z1 vs) e c b=some N) (eX (λ_ _=>0) (aI (eX T0 ⟨0,ab,[],([]:K8),rfl,rfl,(Sub.refl _),(by decide),au,(show F2 (Q1.R h) [] [] from trivial),⟨_,(show F3 (Q1.W h) [] [] [] from trivial),(l4.nil h)⟩,aq⟩) ?_)))
 rintro _ _ s u aB ⟨e,c,bB,b,⟨⟩,⟨⟩,w,aV,T,t,⟨aO,L,S⟩,a⟩
 replace a:n9 G u e c b=some N:=a
 obtain _|u:=u
 ·cases a
 rw[n9.eq_2]at a
 refine ifB a (λar a=>?_) λar a=>?_
 ·obtain⟨bo,ap,a⟩:=z0 a
  obtain⟨aj,aP,am,aE⟩:=Sl.getI (r:=Q1.toRp) (U4.mono w ac) ap (by decide)
  refine aI aj ?_
  obtain⟨bp,bq,aK,bc,aR,br,aL,bd,aS,bs,aM,be,aT,bt,bu,bv,aN,bf,aU,bx,bz,rfl,rfl,av,aw,ad,ae,af,ax,ay,ag,az⟩:=O3 aE
  obtain⟨rfl,aX⟩:=Sl.len ad
  obtain⟨rfl,aY⟩:=Sl.len ae
  obtain⟨rfl,aZ⟩:=Sl.len af
  obtain⟨rfl,a0⟩:=Sl.len ag
  try dsimp only at a
  refine eX _ (aI am ?_)
  refine trM a (Q06 _ _ _ (V2 av aw ad ae af ax ay ag az)) ?_
  rintro bA a bn F ⟨aQ,rfl,M⟩
  have q:Sub aB F:=M.sub
  have aF:=M.r
  obtain⟨f,g,x,bg,B,i,y,bh,C,j,z,bi,D,k,l,m,A,bj,E,n,o,rfl,rfl,U,V,H,I,J,X,Y,K,Z⟩:=O3 aF
  obtain⟨rfl,a1⟩:=Sl.len H
  obtain⟨rfl,a2⟩:=Sl.len I
  obtain⟨rfl,a3⟩:=Sl.len J
  obtain⟨rfl,a4⟩:=Sl.len K
  try dsimp only at a
  obtain⟨bk,ao,a⟩:=z0 a
  refine aI (P1 ao (by first|rw[F2.length (F2.up (r:=Q1.toRp) q t),F2.length (show F2 (Q1.R F) ([[.int .i64 f,.int .i64 g,.slice x i.length B,.slice y j.length C,.slice z k.length D,.int .i64 l,.int .i64 m,.slice A n.length E,.int .i64 o]]:List (List Value)) [(f,g,i,j,k,(l,m,n),o)] from⟨(V2 U V H I J X Y K Z),trivial⟩)]|exact congrArg (·+1) (F2.length (F2.up (r:=Q1.toRp) q t)))) ?_
  obtain⟨aJ,aH,an,_⟩:=M
  exact L2 u ⟨(IntKind.i64.wrap (e+1)),c,(s++([[.int .i64 f,.int .i64 g,.slice x i.length B,.slice y j.length C,.slice z k.length D,.int .i64 l,.int .i64 m,.slice A n.length E,.int .i64 o]]:List (List Value))),(b ++ [(f,g,i,j,k,(l,m,n),o)]),rfl,rfl,(w.trans q),(M0 _),T,(F2.append (F2.up (r:=Q1.toRp) q t) (show F2 (Q1.R F) ([[.int .i64 f,.int .i64 g,.slice x i.length B,.slice y j.length C,.slice z k.length D,.int .i64 l,.int .i64 m,.slice A n.length E,.int .i64 o]]:List (List Value)) [(f,g,i,j,k,(l,m,n),o)] from⟨(V2 U V H I J X Y K Z),trivial⟩)),⟨_,(F3.snoc aH (B09 L q)),(k03 L w S an)⟩,a⟩
 ·obtain rfl:=oJ a
  try dsimp only[U0,Y0]at d
  intro aG aA Q
  have aC:New (Wp.slice Q1) h aA [aG] b:=(Z0.fresh (r:=Q1) Q L w S)
  obtain⟨ai,al,rfl,bl,bm,ba⟩:=Z0.out (r:=Q1.toRp) Q t
  obtain rfl:=oJ d
  exact⟨([.int .i64 c,.slice ai b.length al]),rfl,(New.pair (New.int T) aC)⟩
theorem m0f(h:Hp)(aq:List Value)(aB:V1)(bE:L1.R h aq aB)(ar:List Value)(aC:Z2)(bF:Q1.R h ar aC)(r:V1×Bool)(a:e04 aB aC=some r):
  Tr Tryz.prog 27 #[.agg aq.toArray,.agg ar.toArray] h λv be=>∃(ap:List Value),v = .tuple #[.agg ap.toArray,.bool r.2]/\New L1 h be ap r.1:=by
 obtain⟨br,aN,cc,aU,bs,rfl,rfl,ad,J⟩:=K3 bE
 obtain⟨rfl,bV⟩:=Sl.len J
 obtain⟨bt,bu,aO,cd,aV,bv,aP,ce,aW,bx,aQ,cf,aX,bz,bA,bB,aR,cg,aY,bC,bD,rfl,rfl,C,D,y,z,A,E,F,B,G⟩:=O3 bF
 obtain⟨rfl,bW⟩:=Sl.len y
 obtain⟨rfl,bX⟩:=Sl.len z
 obtain⟨rfl,bY⟩:=Sl.len A
 obtain⟨rfl,bZ⟩:=Sl.len B
 unfold e04 at a
 dsimp only at a
 refine A2 (args:=[.agg #[.int .i64 br,.slice aN bs.length aU],.agg #[.int .i64 bt,.int .i64 bu,.slice aO bv.length aV,.slice aP bx.length aW,.slice aQ bz.length aX,.int .i64 bA,.int .i64 bB,.slice aR bC.length aY,.int .i64 bD]]) (fn:=Tryz.f27) rfl ?_
 refine trM a (A0h _ _ _ (Q6 ad J)) ?_
 rintro cz a cx ae ⟨bR,rfl,al⟩
 have b:Sub h ae:=al.sub
 have bG:=al.r
 obtain⟨K,bQ,ch,aZ,aL,rfl,rfl,H,bH⟩:=K3 bG
 obtain⟨rfl,b0⟩:=Sl.len bH
 try dsimp only at a
 have ak:=New.sndI (al)
 rcases New.two ak with⟨rfl,rfl,rfl⟩|⟨bd,bq,rfl⟩
 ·skip
  refine trV a (r07 _ _ _ (Q6 ad (U4.mono b J))) λcE a=>?_
  refine trG a (λq=>S04 _ _ _ (V2 C D (j2.mono b y) (D0.mono b z) (D0.mono b A) E F (I0.mono b B) G)) λcG a=>?_
  refine ifB a (λbh a=>?_) λbh a=>?_
  ·obtain rfl:=oJ a
   exact⟨([.int .i64 K,.slice none 0 0]),rfl,(New.pair (New.int H) ((New.nilSlice (r:=Q1)).mono b))⟩
  ·refine Or.inr (Or.inr (Or.inl (aI (aI (by kernel_rfl) (by kernel_rfl)) ?_)))
   refine Or.inr ?_
   refine Or.inr ?_
   refine Or.inr ?_
   refine Or.inr ?_
   refine Or.inl (eX 1 (aI (aI rfl rfl) ?_))
   refine trM a (Q06 _ _ _ (V2 C D (j2.mono b y) (D0.mono b z) (D0.mono b A) E F (I0.mono b B) G)) ?_
   rintro cH a cv I ⟨bT,rfl,an⟩
   have aJ:Sub ae I:=an.sub
   have bJ:=an.r
   obtain⟨c,d,P,cm,Z,e,Q,cn,aa,f,S,co,ab,g,i,j,T,cp,ac,k,l,rfl,rfl,av,aw,ag,ah,ai,ax,ay,aj,az⟩:=O3 bJ
   obtain⟨rfl,b5⟩:=Sl.len ag
   obtain⟨rfl,b6⟩:=Sl.len ah
   obtain⟨rfl,b7⟩:=Sl.len ai
   obtain⟨rfl,b8⟩:=Sl.len aj
   try dsimp only at a
   refine aI (aI rfl aJ) (aI (by first|exact trivial|exact rfl) ?_)
   refine aI trivial (aI (by first|exact trivial|exact rfl) ?_)
   obtain⟨cr,ba,a⟩:=z0 a
   refine aI (P1 ba (F2.length (show F2 (Q1.R I) ([[.int .i64 c,.int .i64 d,.slice P e.length Z,.slice Q f.length aa,.slice S g.length ab,.int .i64 i,.int .i64 j,.slice T k.length ac,.int .i64 l]]:List (List Value)) [(c,d,e,f,g,(i,j,k),l)] from⟨(V2 av aw ag ah ai ax ay aj az),trivial⟩))) ?_
   obtain⟨aM,bO,a3,_⟩:=an
   refine aI trivial (aI (by first|exact trivial|exact rfl) ?_)
   refine aI trivial (aI (by first|exact trivial|exact rfl) ?_)
   intro bM bn au
   have bo:New (Wp.slice Q1) h bn [bM] [(c,d,e,f,g,(i,j,k),l)]:=(Z0.fresh (r:=Q1) au (show F3 (Q1.W I) ([[.int .i64 c,.int .i64 d,.slice P e.length Z,.slice Q f.length aa,.slice S g.length ab,.int .i64 i,.int .i64 j,.slice T k.length ac,.int .i64 l]]:List (List Value)) [(c,d,e,f,g,(i,j,k),l)] [aM] from⟨bO,trivial⟩) (b.trans aJ) (l4.older b a3))
   obtain⟨aT,a0,rfl,ct,cu,ca⟩:=Z0.out (r:=Q1.toRp) au (show F2 (Q1.R I) ([[.int .i64 c,.int .i64 d,.slice P e.length Z,.slice Q f.length aa,.slice S g.length ab,.int .i64 i,.int .i64 j,.slice T k.length ac,.int .i64 l]]:List (List Value)) [(c,d,e,f,g,(i,j,k),l)] from⟨(V2 av aw ag ah ai ax ay aj az),trivial⟩)
   obtain rfl:=oJ a
   exact⟨([.int .i64 K,.slice aT ([(c,d,e,f,g,(i,j,k),l)]).length a0]),rfl,(New.pair (New.int H) bo)⟩
 ·skip
  refine trV a (r07 _ _ _ (Q6 ad (U4.mono b J))) λcA a=>?_
  refine trG a (λq=>S04 _ _ _ (V2 C D (j2.mono b y) (D0.mono b z) (D0.mono b A) E F (I0.mono b B) G)) λcC a=>?_
  refine ifB a (λbg a=>?_) λbg a=>?_
  ·obtain rfl:=oJ a
   exact⟨([.int .i64 K,.slice (some ⟨bd,bq,none⟩) aL.length aZ]),rfl,(New.pair (New.int H) ak)⟩
  ·refine Or.inr (Or.inr (Or.inl (aI (aI (by kernel_rfl) (by kernel_rfl)) ?_)))
   refine Or.inr ?_
   refine Or.inr ?_
   refine Or.inr ?_
   refine Or.inr ?_
   refine Or.inl (eX 1 (aI (aI rfl rfl) ?_))
   refine trM a (Q06 _ _ _ (V2 C D (j2.mono b y) (D0.mono b z) (D0.mono b A) E F (I0.mono b B) G)) ?_
   rintro cD a cw af ⟨bS,rfl,am⟩
   have aH:Sub ae af:=am.sub
   have bI:=am.r
   obtain⟨m,n,L,ci,U,o,M,cj,V,p,N,ck,X,s,t,u,O,cl,Y,w,x,rfl,rfl,bi,bj,aD,aE,aF,bk,bl,aG,bm⟩:=O3 bI
   obtain⟨rfl,b1⟩:=Sl.len aD
   obtain⟨rfl,b2⟩:=Sl.len aE
   obtain⟨rfl,b3⟩:=Sl.len aF
   obtain⟨rfl,b4⟩:=Sl.len aG
   try dsimp only at a
   refine aI (aI rfl aH) (aI (by first|exact trivial|exact rfl) ?_)
   refine aI trivial (aI (by first|exact trivial|exact rfl) ?_)
   obtain⟨cs,bb,a⟩:=z0 a
   obtain⟨ao,bP,a4,_⟩:=am
   obtain⟨bN,bK,aA,aS⟩:=New.app ak aH
   refine eX bN (aI bK (aI (P1 bb (by first|rw[aA,F2.length (show F2 (Q1.R af) ([[.int .i64 m,.int .i64 n,.slice L o.length U,.slice M p.length V,.slice N s.length X,.int .i64 t,.int .i64 u,.slice O w.length Y,.int .i64 x]]:List (List Value)) [(m,n,o,p,s,(t,u,w),x)] from⟨(V2 bi bj aD aE aF bk bl aG bm),trivial⟩)]|(rw[aA];rfl))) ?_))
   intro cy bU bf
   obtain⟨aK,bc,bp,cq,a1,rfl⟩:=aS ([[.int .i64 m,.int .i64 n,.slice L o.length U,.slice M p.length V,.slice N s.length X,.int .i64 t,.int .i64 u,.slice O w.length Y,.int .i64 x]]:List (List Value)) [(m,n,o,p,s,(t,u,w),x)] [ao] _ _ (show F3 (Q1.W af) ([[.int .i64 m,.int .i64 n,.slice L o.length U,.slice M p.length V,.slice N s.length X,.int .i64 t,.int .i64 u,.slice O w.length Y,.int .i64 x]]:List (List Value)) [(m,n,o,p,s,(t,u,w),x)] [ao] from⟨bP,trivial⟩) (l4.older (Sub.refl _) a4) bf
   have bL:=aK.r
   obtain⟨a2,cb⟩:=Sl.len bL
   subst a2
   refine aI trivial (aI (by first|exact trivial|exact rfl) ?_)
   refine aI trivial (aI (by first|exact trivial|exact rfl) ?_)
   obtain rfl:=oJ a
   exact⟨([.int .i64 K,.slice (some ⟨bc,bp,none⟩) (aL ++ [(m,n,o,p,s,(t,u,w),x)]).length a1]),rfl,(New.pair (New.int H) aK)⟩
theorem l0e(h:Hp)(s:Option Addr)(H t:Nat)(k:Y1)(I:j2.R h [.slice s H t] k)(r:Y1)(e:r02 k=some r):
  Tr Tryz.prog 92 #[.slice s H t] h λv j=>∃(C:Option Addr) (G D:Nat),v = .slice C G D/\New j2 h j [.slice C G D] r:=by
 obtain⟨rfl,ad⟩:=Sl.len I
 unfold r02 at e
 refine A2 (args:=[.slice s k.length t]) (fn:=Tryz.f92) rfl ?_
 obtain⟨aj,M,e⟩:=z0 e
 refine aI (E2 M) ?_
 obtain⟨B,O,e⟩:=z0 e
 refine eX { vars:=[11],boxes:=[],owns:=[0],fuel:=true } (eX (λvs os j=>∃ f m d,vs.tail = [.int .i64 f]/\os = [m]/\Sub h j/\J0 f/\F2 (D0.R j) m d/\(∃ Bs,F3 (D0.W j) m d Bs/\l4 h Bs.flatten)/\D7 k (Z1 vs) f d=some B) (eX (λ_ _=>0) (aI (eX T0 ⟨0,(List.replicate (0:Int).toNat ([.slice none 0 0]:List Value)),(List.replicate (0:Int).toNat ([]:B0)),rfl,rfl,(Sub.refl _),(by decide),(F2.rep (p:=D0.R h) (a:=[.slice none 0 0]) (b:=[]) (b09 Wp.int h) ((0:Int).toNat)),⟨_,(show F3 (D0.W h) (List.replicate (0:Int).toNat ([.slice none 0 0]:List Value)) (List.replicate (0:Int).toNat ([]:B0)) [] from trivial),(l4.nil h)⟩,O⟩) ?_)))
 rintro _ m o S ⟨f,ap,d,⟨⟩,⟨⟩,q,ac,n,⟨Z,z,F⟩,c⟩
 replace c:D7 k o f d=some B:=c
 obtain _|o:=o
 ·cases c
 rw[D7.eq_2]at c
 refine ifB c (λP c=>?_) λP c=>?_
 ·refine ld c (j2.mono q I) λao aa x c=>?_
  obtain⟨Y,ah,ab,rfl⟩:=Wp.slice_cell x
  obtain⟨rfl,ae⟩:=Sl.len x
  obtain⟨g,i,c⟩:=z0 c
  refine Tr.mono (h04 _ _ _ _ _ x _  i) ?_
  rintro an w ⟨i,ai,u,rfl,A⟩
  have l:Sub S w:=A.sub
  have y:=A.r
  obtain⟨rfl,af⟩:=Sl.len y
  obtain⟨ak,N,c⟩:=z0 c
  refine aI (P1 N (by first|rw[F2.length (F2.up (r:=D0.toRp) l n),F2.length (show F2 (D0.R w) ([[.slice (some ⟨i,0,none⟩) g.length u]]:List (List Value)) [g] from⟨y,trivial⟩)]|exact congrArg (·+1) (F2.length (F2.up (r:=D0.toRp) l n)))) ?_
  obtain⟨X,V,L,_⟩:=A
  exact L2 o ⟨(IntKind.i64.wrap (f+1)),(m++([[.slice (some ⟨i,0,none⟩) g.length u]]:List (List Value))),(d ++ [g]),rfl,rfl,(q.trans l),(M0 _),(F2.append (F2.up (r:=D0.toRp) l n) (show F2 (D0.R w) ([[.slice (some ⟨i,0,none⟩) g.length u]]:List (List Value)) [g] from⟨y,trivial⟩)),⟨_,(F3.snoc V (B09 z l)),(k03 z q F L)⟩,c⟩
 ·obtain rfl:=oJ c
  try dsimp only[U0,Y0]at e
  intro U Q E
  have T:New (Wp.slice D0) h Q [U] d:=(Z0.fresh (r:=D0) E z q F)
  obtain⟨J,K,rfl,al,am,ag⟩:=Z0.out (r:=D0.toRp) E n
  obtain rfl:=oJ e
  exact⟨J,d.length,K,rfl,T⟩
theorem j05(h:Hp)(s:List Value)(y:Z2)(ap:Q1.R h s y)(r:Z2)(a:f01 y=some r):
  Tr Tryz.prog 87 #[.agg s.toArray] h λv aa=>∃(q:List Value),v = .agg q.toArray/\New Q1 h aa q r:=by
 obtain⟨z,A,I,aS,N,aj,J,aT,O,ak,K,aU,P,al,am,an,L,aV,Q,ao,B,rfl,rfl,ab,ac,C,D,E,ad,ae,F,af⟩:=O3 ap
 obtain⟨rfl,aK⟩:=Sl.len C
 obtain⟨rfl,aL⟩:=Sl.len D
 obtain⟨rfl,aM⟩:=Sl.len E
 obtain⟨rfl,aN⟩:=Sl.len F
 unfold f01 at a
 dsimp only at a
 refine A2 (args:=[.agg #[.int .i64 z,.int .i64 A,.slice I aj.length N,.slice J ak.length O,.slice K al.length P,.int .i64 am,.int .i64 an,.slice L ao.length Q,.int .i64 B]]) (fn:=Tryz.f87) rfl ?_
 refine trM a (l0e _ _ _ _ _ C) ?_
 rintro ay a a1 u ⟨M,aW,S,rfl,n⟩
 have c:Sub h u:=n.sub
 have aq:=n.r
 obtain⟨rfl,aO⟩:=Sl.len aq
 obtain⟨aD,k,a⟩:=z0 a
 refine Tr.mono (h04 _ _ _ _ _ (D0.mono c D) _  k) ?_
 rintro a2 w ⟨k,aY,U,rfl,o⟩
 have b:Sub u w:=o.sub
 have au:=o.r
 obtain⟨rfl,aQ⟩:=Sl.len au
 obtain⟨aE,l,a⟩:=z0 a
 refine Tr.mono (h04 _ _ _ _ _ (D0.mono (c.trans b) E) _  l) ?_
 rintro a3 x ⟨l,aZ,V,rfl,p⟩
 have d:Sub w x:=p.sub
 have av:=p.r
 obtain⟨rfl,aR⟩:=Sl.len av
 refine trM a (R7 _ _ _ (l0 ad ae (I0.mono ((c.trans b).trans d) F))) ?_
 rintro az a a0 ai ⟨Z,aX,T,rfl,i⟩
 have f:Sub x ai:=i.sub
 have G:=i.r
 obtain⟨aA,aB,aC⟩:=az
 dsimp only at a i G
 obtain⟨_,_,_,_,_,_,W,X,ag,ah,ar⟩:=C0 G
 cases W
 cases X
 obtain⟨rfl,aP⟩:=Sl.len ar
 try dsimp only at a
 have aw:=New.sndI (New.sndI (i))
 obtain rfl:=oJ a
 obtain⟨aF,g,Y,_⟩:=n
 obtain⟨aG,m,t,_⟩:=o
 obtain⟨aH,H,j,_⟩:=p
 obtain⟨aJ,ax,e,_⟩:=aw
 exact⟨([.int .i64 z,.int .i64 A,.slice M ay.length S,.slice (some ⟨k,0,none⟩) aD.length U,.slice (some ⟨l,0,none⟩) aE.length V,.int .i64 aA,.int .i64 aB,.slice (some ⟨Z,0,none⟩) aC.length T,.int .i64 B]),rfl,(NB.fin (NB.pair (NB.int ab) (NB.pair (NB.int ac) (NB.pair (NB.mk g ((b.trans d).trans f) Y (Sub.refl _)) (NB.pair (NB.mk m (d.trans f) t c) (NB.pair (NB.mk H f j (c.trans b)) (NB.pair (NB.pair (NB.int ag) (NB.pair (NB.int ah) (NB.mk ax (Sub.refl _) e ((c.trans b).trans d)) NB.d0) NB.d0) (NB.int af) NB.de) (NB.da (NB.da NB.de (NB.da NB.de (NB.dl H (Sub.refl _) e))) NB.de)) (NB.da (NB.dl m (Sub.refl _) j) (NB.da (NB.da NB.de (NB.da NB.de (NB.dl m d e))) NB.de))) (NB.da (NB.dl g (Sub.refl _) t) (NB.da (NB.dl g b j) (NB.da (NB.da NB.de (NB.da NB.de (NB.dl g (b.trans d) e))) NB.de)))) NB.d0) NB.d0) (((c.trans b).trans d).trans f))⟩
theorem N0a(h:Hp)(P:List Value)(aa:V1)(aD:L1.R h P aa)(r:V1)(d:b02 aa=some r):
  Tr Tryz.prog 86 #[.agg P.toArray] h λv q=>∃(O:List Value),v = .agg O.toArray/\New L1 h q O r:=by
 obtain⟨ab,ah,bb,ak,G,rfl,rfl,au,ac⟩:=K3 aD
 obtain⟨rfl,aW⟩:=Sl.len ac
 unfold b02 at d
 dsimp only at d
 refine A2 (args:=[.agg #[.int .i64 ab,.slice ah G.length ak]]) (fn:=Tryz.f86) rfl ?_
 obtain⟨N,aq,d⟩:=z0 d
 refine eX { vars:=[12],boxes:=[2],owns:=[0],fuel:=true,nilsB:=[(2,1,51,9,136)] } (eX (λvs os q=>∃ f c s b,vs.tail = [.int .i64 f,.int .i64 c]/\os = [s]/\Sub h q/\J0 f/\J0 c/\F2 (Q1.R q) s b/\(∃ Bs,F3 (Q1.W q) s b Bs/\l4 h Bs.flatten)/\S5 G (Z1 vs) f c b=some N) (eX (λ_ _=>0) (aI (eX T0 ⟨0,ab,[],([]:K8),rfl,rfl,(Sub.refl _),(by decide),au,(show F2 (Q1.R h) [] [] from trivial),⟨_,(show F3 (Q1.W h) [] [] [] from trivial),(l4.nil h)⟩,aq⟩) ?_)))
 rintro _ _ s u aB ⟨f,c,bB,b,⟨⟩,⟨⟩,w,aV,T,t,⟨aO,L,S⟩,a⟩
 replace a:S5 G u f c b=some N:=a
 obtain _|u:=u
 ·cases a
 rw[S5.eq_2]at a
 refine ifB a (λar a=>?_) λar a=>?_
 ·obtain⟨bo,ap,a⟩:=z0 a
  obtain⟨aj,aP,am,aE⟩:=Sl.getI (r:=Q1.toRp) (U4.mono w ac) ap (by decide)
  refine aI aj ?_
  obtain⟨bp,bq,aK,bc,aR,br,aL,bd,aS,bs,aM,be,aT,bt,bu,bv,aN,bf,aU,bx,bz,rfl,rfl,av,aw,ad,ae,af,ax,ay,ag,az⟩:=O3 aE
  obtain⟨rfl,aX⟩:=Sl.len ad
  obtain⟨rfl,aY⟩:=Sl.len ae
  obtain⟨rfl,aZ⟩:=Sl.len af
  obtain⟨rfl,a0⟩:=Sl.len ag
  try dsimp only at a
  refine eX _ (aI am ?_)
  refine Or.inr (Or.inr (Or.inl (aI (aI (by kernel_rfl) (by kernel_rfl)) ?_)))
  refine Or.inr ?_
  refine Or.inr ?_
  refine Or.inr ?_
  refine Or.inr ?_
  refine Or.inl (eX 1 (aI (aI rfl rfl) ?_))
  refine trM a (j05 _ _ _ (V2 av aw ad ae af ax ay ag az)) ?_
  rintro bA a bn F ⟨aQ,rfl,M⟩
  have e:Sub aB F:=M.sub
  have aF:=M.r
  obtain⟨g,i,x,bg,B,j,y,bh,C,k,z,bi,D,l,m,n,A,bj,E,o,p,rfl,rfl,U,V,H,I,J,X,Y,K,Z⟩:=O3 aF
  obtain⟨rfl,a1⟩:=Sl.len H
  obtain⟨rfl,a2⟩:=Sl.len I
  obtain⟨rfl,a3⟩:=Sl.len J
  obtain⟨rfl,a4⟩:=Sl.len K
  try dsimp only at a
  refine aI (aI rfl e) (aI (by first|exact trivial|exact rfl) ?_)
  refine aI trivial (aI (by first|exact trivial|exact rfl) ?_)
  obtain⟨bk,ao,a⟩:=z0 a
  refine aI (P1 ao (by first|rw[F2.length (F2.up (r:=Q1.toRp) e t),F2.length (show F2 (Q1.R F) ([[.int .i64 g,.int .i64 i,.slice x j.length B,.slice y k.length C,.slice z l.length D,.int .i64 m,.int .i64 n,.slice A o.length E,.int .i64 p]]:List (List Value)) [(g,i,j,k,l,(m,n,o),p)] from⟨(V2 U V H I J X Y K Z),trivial⟩)]|exact congrArg (·+1) (F2.length (F2.up (r:=Q1.toRp) e t)))) ?_
  obtain⟨aJ,aH,an,_⟩:=M
  refine aI trivial (aI (by first|exact trivial|exact rfl) ?_)
  refine aI trivial (aI (by first|exact trivial|exact rfl) ?_)
  exact L2 u ⟨(IntKind.i64.wrap (f+1)),c,(s++([[.int .i64 g,.int .i64 i,.slice x j.length B,.slice y k.length C,.slice z l.length D,.int .i64 m,.int .i64 n,.slice A o.length E,.int .i64 p]]:List (List Value))),(b ++ [(g,i,j,k,l,(m,n,o),p)]),rfl,rfl,(w.trans e),(M0 _),T,(F2.append (F2.up (r:=Q1.toRp) e t) (show F2 (Q1.R F) ([[.int .i64 g,.int .i64 i,.slice x j.length B,.slice y k.length C,.slice z l.length D,.int .i64 m,.int .i64 n,.slice A o.length E,.int .i64 p]]:List (List Value)) [(g,i,j,k,l,(m,n,o),p)] from⟨(V2 U V H I J X Y K Z),trivial⟩)),⟨_,(F3.snoc aH (B09 L e)),(k03 L w S an)⟩,a⟩
 ·obtain rfl:=oJ a
  try dsimp only[U0,Y0]at d
  intro aG aA Q
  have aC:New (Wp.slice Q1) h aA [aG] b:=(Z0.fresh (r:=Q1) Q L w S)
  obtain⟨ai,al,rfl,bl,bm,ba⟩:=Z0.out (r:=Q1.toRp) Q t
  obtain rfl:=oJ d
  exact⟨([.int .i64 c,.slice ai b.length al]),rfl,(New.pair (New.int T) aC)⟩
theorem n0f(h:Hp)(aq:List Value)(aB:V1)(bE:L1.R h aq aB)(ar:List Value)(aC:Z2)(bF:Q1.R h ar aC)(r:V1×Bool)(a:f04 aB aC=some r):
  Tr Tryz.prog 29 #[.agg aq.toArray,.agg ar.toArray] h λv be=>∃(ap:List Value),v = .tuple #[.agg ap.toArray,.bool r.2]/\New L1 h be ap r.1:=by
 obtain⟨br,aN,cc,aU,bs,rfl,rfl,ad,J⟩:=K3 bE
 obtain⟨rfl,bV⟩:=Sl.len J
 obtain⟨bt,bu,aO,cd,aV,bv,aP,ce,aW,bx,aQ,cf,aX,bz,bA,bB,aR,cg,aY,bC,bD,rfl,rfl,C,D,y,z,A,E,F,B,G⟩:=O3 bF
 obtain⟨rfl,bW⟩:=Sl.len y
 obtain⟨rfl,bX⟩:=Sl.len z
 obtain⟨rfl,bY⟩:=Sl.len A
 obtain⟨rfl,bZ⟩:=Sl.len B
 unfold f04 at a
 dsimp only at a
 refine A2 (args:=[.agg #[.int .i64 br,.slice aN bs.length aU],.agg #[.int .i64 bt,.int .i64 bu,.slice aO bv.length aV,.slice aP bx.length aW,.slice aQ bz.length aX,.int .i64 bA,.int .i64 bB,.slice aR bC.length aY,.int .i64 bD]]) (fn:=Tryz.f29) rfl ?_
 refine trM a (N0a _ _ _ (Q6 ad J)) ?_
 rintro cz a cx ae ⟨bR,rfl,al⟩
 have b:Sub h ae:=al.sub
 have bG:=al.r
 obtain⟨K,bQ,ch,aZ,aL,rfl,rfl,H,bH⟩:=K3 bG
 obtain⟨rfl,b0⟩:=Sl.len bH
 try dsimp only at a
 have ak:=New.sndI (al)
 rcases New.two ak with⟨rfl,rfl,rfl⟩|⟨bd,bq,rfl⟩
 ·skip
  refine trV a (s07 _ _ _ (Q6 ad (U4.mono b J))) λcE a=>?_
  refine trG a (λq=>V04 _ _ _ (V2 C D (j2.mono b y) (D0.mono b z) (D0.mono b A) E F (I0.mono b B) G)) λcG a=>?_
  refine ifB a (λbh a=>?_) λbh a=>?_
  ·obtain rfl:=oJ a
   exact⟨([.int .i64 K,.slice none 0 0]),rfl,(New.pair (New.int H) ((New.nilSlice (r:=Q1)).mono b))⟩
  ·refine Or.inr (Or.inr (Or.inl (aI (aI (by kernel_rfl) (by kernel_rfl)) ?_)))
   refine Or.inr ?_
   refine Or.inr ?_
   refine Or.inr ?_
   refine Or.inr ?_
   refine Or.inl (eX 1 (aI (aI rfl rfl) ?_))
   refine trM a (j05 _ _ _ (V2 C D (j2.mono b y) (D0.mono b z) (D0.mono b A) E F (I0.mono b B) G)) ?_
   rintro cH a cv I ⟨bT,rfl,an⟩
   have aJ:Sub ae I:=an.sub
   have bJ:=an.r
   obtain⟨c,d,P,cm,Z,e,Q,cn,aa,f,S,co,ab,g,i,j,T,cp,ac,k,l,rfl,rfl,av,aw,ag,ah,ai,ax,ay,aj,az⟩:=O3 bJ
   obtain⟨rfl,b5⟩:=Sl.len ag
   obtain⟨rfl,b6⟩:=Sl.len ah
   obtain⟨rfl,b7⟩:=Sl.len ai
   obtain⟨rfl,b8⟩:=Sl.len aj
   try dsimp only at a
   refine aI (aI rfl aJ) (aI (by first|exact trivial|exact rfl) ?_)
   refine aI trivial (aI (by first|exact trivial|exact rfl) ?_)
   obtain⟨cr,ba,a⟩:=z0 a
   refine aI (P1 ba (F2.length (show F2 (Q1.R I) ([[.int .i64 c,.int .i64 d,.slice P e.length Z,.slice Q f.length aa,.slice S g.length ab,.int .i64 i,.int .i64 j,.slice T k.length ac,.int .i64 l]]:List (List Value)) [(c,d,e,f,g,(i,j,k),l)] from⟨(V2 av aw ag ah ai ax ay aj az),trivial⟩))) ?_
   obtain⟨aM,bO,a3,_⟩:=an
   refine aI trivial (aI (by first|exact trivial|exact rfl) ?_)
   refine aI trivial (aI (by first|exact trivial|exact rfl) ?_)
   intro bM bn au
   have bo:New (Wp.slice Q1) h bn [bM] [(c,d,e,f,g,(i,j,k),l)]:=(Z0.fresh (r:=Q1) au (show F3 (Q1.W I) ([[.int .i64 c,.int .i64 d,.slice P e.length Z,.slice Q f.length aa,.slice S g.length ab,.int .i64 i,.int .i64 j,.slice T k.length ac,.int .i64 l]]:List (List Value)) [(c,d,e,f,g,(i,j,k),l)] [aM] from⟨bO,trivial⟩) (b.trans aJ) (l4.older b a3))
   obtain⟨aT,a0,rfl,ct,cu,ca⟩:=Z0.out (r:=Q1.toRp) au (show F2 (Q1.R I) ([[.int .i64 c,.int .i64 d,.slice P e.length Z,.slice Q f.length aa,.slice S g.length ab,.int .i64 i,.int .i64 j,.slice T k.length ac,.int .i64 l]]:List (List Value)) [(c,d,e,f,g,(i,j,k),l)] from⟨(V2 av aw ag ah ai ax ay aj az),trivial⟩)
   obtain rfl:=oJ a
   exact⟨([.int .i64 K,.slice aT ([(c,d,e,f,g,(i,j,k),l)]).length a0]),rfl,(New.pair (New.int H) bo)⟩
 ·skip
  refine trV a (s07 _ _ _ (Q6 ad (U4.mono b J))) λcA a=>?_
  refine trG a (λq=>V04 _ _ _ (V2 C D (j2.mono b y) (D0.mono b z) (D0.mono b A) E F (I0.mono b B) G)) λcC a=>?_
  refine ifB a (λbg a=>?_) λbg a=>?_
  ·obtain rfl:=oJ a
   exact⟨([.int .i64 K,.slice (some ⟨bd,bq,none⟩) aL.length aZ]),rfl,(New.pair (New.int H) ak)⟩
  ·refine Or.inr (Or.inr (Or.inl (aI (aI (by kernel_rfl) (by kernel_rfl)) ?_)))
   refine Or.inr ?_
   refine Or.inr ?_
   refine Or.inr ?_
   refine Or.inr ?_
   refine Or.inl (eX 1 (aI (aI rfl rfl) ?_))
   refine trM a (j05 _ _ _ (V2 C D (j2.mono b y) (D0.mono b z) (D0.mono b A) E F (I0.mono b B) G)) ?_
   rintro cD a cw af ⟨bS,rfl,am⟩
   have aH:Sub ae af:=am.sub
   have bI:=am.r
   obtain⟨m,n,L,ci,U,o,M,cj,V,p,N,ck,X,s,t,u,O,cl,Y,w,x,rfl,rfl,bi,bj,aD,aE,aF,bk,bl,aG,bm⟩:=O3 bI
   obtain⟨rfl,b1⟩:=Sl.len aD
   obtain⟨rfl,b2⟩:=Sl.len aE
   obtain⟨rfl,b3⟩:=Sl.len aF
   obtain⟨rfl,b4⟩:=Sl.len aG
   try dsimp only at a
   refine aI (aI rfl aH) (aI (by first|exact trivial|exact rfl) ?_)
   refine aI trivial (aI (by first|exact trivial|exact rfl) ?_)
   obtain⟨cs,bb,a⟩:=z0 a
   obtain⟨ao,bP,a4,_⟩:=am
   obtain⟨bN,bK,aA,aS⟩:=New.app ak aH
   refine eX bN (aI bK (aI (P1 bb (by first|rw[aA,F2.length (show F2 (Q1.R af) ([[.int .i64 m,.int .i64 n,.slice L o.length U,.slice M p.length V,.slice N s.length X,.int .i64 t,.int .i64 u,.slice O w.length Y,.int .i64 x]]:List (List Value)) [(m,n,o,p,s,(t,u,w),x)] from⟨(V2 bi bj aD aE aF bk bl aG bm),trivial⟩)]|(rw[aA];rfl))) ?_))
   intro cy bU bf
   obtain⟨aK,bc,bp,cq,a1,rfl⟩:=aS ([[.int .i64 m,.int .i64 n,.slice L o.length U,.slice M p.length V,.slice N s.length X,.int .i64 t,.int .i64 u,.slice O w.length Y,.int .i64 x]]:List (List Value)) [(m,n,o,p,s,(t,u,w),x)] [ao] _ _ (show F3 (Q1.W af) ([[.int .i64 m,.int .i64 n,.slice L o.length U,.slice M p.length V,.slice N s.length X,.int .i64 t,.int .i64 u,.slice O w.length Y,.int .i64 x]]:List (List Value)) [(m,n,o,p,s,(t,u,w),x)] [ao] from⟨bP,trivial⟩) (l4.older (Sub.refl _) a4) bf
   have bL:=aK.r
   obtain⟨a2,cb⟩:=Sl.len bL
   subst a2
   refine aI trivial (aI (by first|exact trivial|exact rfl) ?_)
   refine aI trivial (aI (by first|exact trivial|exact rfl) ?_)
   obtain rfl:=oJ a
   exact⟨([.int .i64 K,.slice (some ⟨bc,bp,none⟩) (aL ++ [(m,n,o,p,s,(t,u,w),x)]).length a1]),rfl,(New.pair (New.int H) aK)⟩
end Go.Proofs.YtkjhghloldgioaaGreat
