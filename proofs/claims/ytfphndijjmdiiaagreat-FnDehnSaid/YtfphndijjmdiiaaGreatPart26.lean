/- Texts of the claim, joined: The walks of batch 7 and others. -/
import Derived.Test.YtfphndijjmdiiaaGreatPart18
import Derived.Test.YtfphndijjmdiiaaGreatChecked
import Derived.Test.YtfphndijjmdiiaaGreatH35
import Derived.Test.YtfphndijjmdiiaaGreatPart23
import Derived.Test.YtfphndijjmdiiaaGreatSO
import Derived.Test.YtfphndijjmdiiaaGreatH41
import Derived.Test.YtfphndijjmdiiaaGreatPart17
import Derived.Test.YtfphndijjmdiiaaGreatH36
import Derived.Test.YtfphndijjmdiiaaGreatH45
namespace Go.Proofs.YtfphndijjmdiiaaGreat
open Go.H
set_option linter.unusedVariables false
set_option linter.unusedSimpArgs false
set_option maxRecDepth 10000
set_option maxHeartbeats 0
theorem L8(h:Hp)(Y:List Value)(af:l0)(a3:Q1.R h Y af)(r:L1)(b:P4 af=some r):
  Tr Tryz.prog 22 #[.agg Y.toArray] h λv h'=>∃(V:Option Addr) (ae X:Nat),v = .slice V ae X/\New K1 h h' [.slice V ae X] r:=by
 obtain⟨aZ,an,bt,av,K,rfl,rfl,aP,L⟩:=I1 a3
 obtain⟨rfl,bl⟩:=Sl.len L
 unfold P4 at b
 dsimp only at b
 refine T3 (args:=[.agg #[.int .i64 aZ,.slice an K.length av]]) (fn:=Tryz.f22) rfl ?_
 refine trV b (e00 _ _ _ (M0 aP L)) λbO b=>?_
 refine ifB b (λaM b=>?_) λaM b=>?_
 ·intro a4 aU Z
  have aY:New (Wp.slice C0) h aU [a4] ([]:L1):=(U0.fresh (r:=C0) Z (show F3 (C0.W h) [] [] [] from trivial) (Sub.refl _) (R4.nil h))
  obtain⟨ar,az,rfl,bF,bI,bs⟩:=U0.out (r:=C0.toRp) Z (show F2 (C0.R h) ([]:List (List Value)) ([]:L1) from trivial)
  obtain rfl:=oJ b
  exact⟨ar,(([]:L1)).length,az,rfl,aY⟩
 ·obtain⟨U,aK,b⟩:=B0 b
  refine eX { vars:=[17],boxes:=[],owns:=[0],fuel:=true } (eX (λvs os h'=>∃ u8 s e,vs.tail = [.int .i64 u8]/\os = [s]/\Sub h h'/\H0 u8/\F2 (C0.R h') s e/\(∃ Bs,F3 (C0.W h') s e Bs/\R4 h Bs.flatten)/\Y4 K (W1 vs) u8 e=some U) (eX (λ_ _=>0) (aI (eX W0 ⟨0,[],([]:L1),rfl,rfl,(Sub.refl _),(by decide),(show F2 (C0.R h) ([]:List (List Value)) ([]:L1) from trivial),⟨_,(show F3 (C0.W h) [] [] [] from trivial),(R4.nil h)⟩,aK⟩) ?_)))
  rintro _ s u H ⟨u8,bR,e,⟨⟩,⟨⟩,n,bj,aD,⟨bd,aj,F⟩,a⟩
  replace a:Y4 K u u8 e=some U:=a
  obtain _|u:=u
  ·cases a
  rw[Y4.eq_2]at a
  refine ifB a (λaL a=>?_) λaL a=>?_
  ·refine ld a (K1.mono n L) λB be y a=>?_
   obtain⟨ao,bu,aw,rfl⟩:=Wp.slice_cell y
   obtain⟨rfl,bm⟩:=Sl.len y
   refine trM a (H01 _ _ _ _ _ y) ?_
   rintro C a bJ I ⟨ap,bv,ax,rfl,al⟩
   have o:Sub H I:=al.sub
   have ah:=al.r
   obtain⟨rfl,bn⟩:=Sl.len ah
   obtain⟨S,aH,a⟩:=B0 a
   refine eX { vars:=[26],boxes:=[],owns:=[0],fuel:=true } (eX (λvs os h'=>∃ i k f,vs.tail = [.int .i64 i]/\os = [k]/\Sub I h'/\H0 i/\F2 (C0.R h') k f/\(∃ Bs,F3 (C0.W h') k f Bs/\R4 h Bs.flatten)/\l4 B C (W1 vs) i f=some S) (eX (λ_ _=>0) (aI (eX W0 ⟨0,s,e,rfl,rfl,(Sub.refl _),(by decide),(F2.up (r:=C0.toRp) o aD),⟨_,(M2 aj o),F⟩,aH⟩) ?_)))
   rintro _ k w aR ⟨i,bP,f,⟨⟩,⟨⟩,z,bi,ac,⟨bb,ai,aa⟩,c⟩
   replace c:l4 B C w i f=some S:=c
   obtain _|w:=w
   ·cases c
   rw[l4.eq_2]at c
   refine ifB c (λaN c=>?_) λaN c=>?_
   ·obtain⟨am,aG,c⟩:=B0 c
    obtain⟨au,bf,aA,M⟩:=f03 (F2.up (r:=C0.toRp) z (show F2 (C0.R I) ([[.slice ao B.length aw],[.slice ap C.length ax]]:List (List Value)) [B,C] from⟨(C0.mono o y),⟨ah,trivial⟩⟩)) aG
    refine aI au ?_
    obtain⟨a9,bx,bg,rfl⟩:=Wp.slice_cell M
    obtain⟨rfl,bo⟩:=Sl.len M
    refine eX _ (aI aA ?_)
    obtain⟨T,aJ,c⟩:=B0 c
    refine eX { vars:=[32],boxes:=[],owns:=[0],fuel:=true } (eX (λvs os h'=>∃ j l g,vs.tail = [.int .i64 j]/\os = [l]/\Sub aR h'/\H0 j/\F2 (C0.R h') l g/\(∃ Bs,F3 (C0.W h') l g Bs/\R4 h Bs.flatten)/\V4 am (W1 vs) j g=some T) (eX (λ_ _=>0) (aI (eX W0 ⟨0,k,f,rfl,rfl,(Sub.refl _),(by decide),ac,⟨_,ai,aa⟩,aJ⟩) ?_)))
    rintro _ l x aS ⟨j,bQ,g,⟨⟩,⟨⟩,A,aQ,t,⟨bc,O,ab⟩,d⟩
    replace d:V4 am x j g=some T:=d
    obtain _|x:=x
    ·cases d
    rw[V4.eq_2]at d
    refine ifB d (λaO d=>?_) λaO d=>?_
    ·refine trM d (J0b _ _ _ _ _ (C0.mono A M) _ aQ) ?_
     rintro m d bK J ⟨D,bz,E,rfl,Q⟩
     have p:Sub aS J:=Q.sub
     have N:=Q.r
     obtain⟨rfl,bp⟩:=Sl.len N
     obtain⟨bB,aE,d⟩:=B0 d
     refine aI (T0 aE (by first|rw[F2.length (F2.up (r:=C0.toRp) p t),F2.length (show F2 (C0.R J) ([[.slice D m.length E]]:List (List Value)) [m] from⟨N,trivial⟩)]|exact congrArg (·+1) (F2.length (F2.up (r:=C0.toRp) p t)))) ?_
     obtain⟨a6,a5,aC,_⟩:=Q
     exact U1 x ⟨(IntKind.i64.wrap (j+1)),(l++([[.slice D m.length E]]:List (List Value))),(g ++ [m]),rfl,rfl,(A.trans p),(F0 _),(F2.append (F2.up (r:=C0.toRp) p t) (show F2 (C0.R J) ([[.slice D m.length E]]:List (List Value)) [m] from⟨N,trivial⟩)),⟨_,(F3.snoc a5 (M2 O p)),(V0 O (((n.trans o).trans z).trans A) ab aC)⟩,d⟩
    ·obtain rfl:=oJ d
     try dsimp only[Z0,D1]at c
     exact U1 w ⟨(IntKind.i64.wrap (i+1)),l,g,rfl,rfl,(z.trans A),(F0 _),t,⟨_,O,ab⟩,c⟩
   ·obtain rfl:=oJ c
    try dsimp only[Z0,D1]at a
    exact U1 u ⟨(IntKind.i64.wrap (u8+1)),k,f,rfl,rfl,((n.trans o).trans z),(F0 _),ac,⟨_,ai,aa⟩,a⟩
  ·obtain rfl:=oJ a
   try dsimp only[Z0,D1]at b
   refine Or.inl ?_
   intro bL bk aB
   obtain⟨bC,aF,b⟩:=B0 b
   refine Tr.mono (O0j _ aB aj (C1 aF)) ?_
   rintro _ aV ⟨rfl,bM,a7,G,P,ag⟩
   have a1:=F3.f2 (q:=C0.R H) (λ_ _ _ h=>C0.toR h) P
   obtain⟨ba,bh,rfl,bD,bG,bq⟩:=U0.out (r:=C0.toRp) G a1
   have bA:New (Wp.slice C0) h aV _ (Z08 J1 e):=U0.fresh (r:=C0) G P n (R4.perm F ag)
   refine Tr.mono (P0j _ G P) ?_
   rintro _ aW ⟨bN,a8,ad,ak,a0⟩
   have a2:=F3.f2 (q:=C0.R H) (λ_ _ _ h=>C0.toR h) ak
   obtain⟨aq,ay,rfl,bE,bH,br⟩:=U0.out (r:=C0.toRp) ad a2
   have aX:New (Wp.slice C0) h aW _ (N02 eqW (Z08 J1 e)):=U0.fresh (r:=C0) ad ak n (R4.sublist (R4.perm F ag) a0)
   obtain rfl:=oJ b
   exact⟨aq,((N02 eqW (Z08 J1 e))).length,ay,rfl,aX⟩
theorem f09(h:Hp)(t:List Value)(x:l0)(X:Q1.R h t x)(r:Int)(c:z9 x=some r):
  Tr Tryz.prog 24 #[.agg t.toArray] h λv h'=>v = .int .i64 r/\h'=h:=by
 obtain⟨U,E,av,F,V,rfl,rfl,P,y⟩:=I1 X
 obtain⟨rfl,ao⟩:=Sl.len y
 unfold z9 at c
 dsimp only at c
 refine Tr.forget (T3 (args:=[.agg #[.int .i64 U,.slice E V.length F]]) (fn:=Tryz.f24) rfl ?_)
 refine trM c (L8 _ _ _ (M0 P y)) ?_
 rintro B c aA w ⟨ab,aw,ah,rfl,A⟩
 have Y:Sub h w:=A.sub
 have m:=A.r
 obtain⟨rfl,ap⟩:=Sl.len m
 obtain⟨s,L,c⟩:=B0 c
 refine eX { vars:=[3,13],boxes:=[],owns:=[],fuel:=true } (eX (λvs os h'=>∃ f g,vs.tail = [.int .i64 f,.int .i64 g]/\os = []/\Sub w h'/\H0 f/\H0 g/\H5 B (W1 vs) f g=some s) (eX (λ_ _=>0) (aI (eX W0 ⟨0,0,rfl,rfl,(Sub.refl _),(by decide),(by decide),L⟩) ?_)))
 rintro _ _ j T ⟨f,g,⟨⟩,⟨⟩,l,Q,am,a⟩
 replace a:H5 B j f g=some s:=a
 obtain _|j:=j
 ·cases a
 rw[H5.eq_2]at a
 refine ifB a (λN a=>?_) λN a=>?_
 ·refine ld a (K1.mono l m) λC af n a=>?_
  obtain⟨ac,ax,ai,rfl⟩:=Wp.slice_cell n
  obtain⟨rfl,aq⟩:=Sl.len n
  obtain⟨D,J,a⟩:=B0 a
  obtain⟨W,Z,G,H⟩:=Sl.cutI (r:=C0.toRp) (K1.mono l m) J
  refine aI W (eX Z (aI G ?_))
  intro aa O _
  obtain⟨ad,aj,rfl,z⟩:=H aa O
  have ar:=(Sl.len z).2
  obtain⟨q,K,a⟩:=B0 a
  refine eX { vars:=[3,23],boxes:=[],owns:=[],fuel:=true } (eX (λvs os h'=>∃ d e,vs.tail = [.int .i64 d,.int .i64 e]/\os = []/\Sub T h'/\H0 d/\H0 e/\G5 D C (W1 vs) d e=some q) (eX (λ_ _=>0) (aI (eX W0 ⟨f,0,rfl,rfl,(Sub.refl _),Q,(by decide),K⟩) ?_)))
  rintro _ _ i an ⟨d,e,⟨⟩,⟨⟩,k,u,al,b⟩
  replace b:G5 D C i d e=some q:=b
  obtain _|i:=i
  ·cases b
  rw[G5.eq_2]at b
  refine ifB b (λM b=>?_) λM b=>?_
  ·refine ld b (K1.mono k z) λaB ag o b=>?_
   obtain⟨ae,ay,ak,rfl⟩:=Wp.slice_cell o
   obtain⟨rfl,au⟩:=Sl.len o
   refine trV b (R05 _ _ _ _ _ (C0.mono k n) _ _ _ _ o) λp b=>?_
   obtain⟨az,I,b⟩:=B0 b
   have S:H0 p:=C1 I
   exact U1 i ⟨(if p>d then p else d),(IntKind.i64.wrap (e+1)),rfl,rfl,k,(l3 S u),(F0 _),b⟩
  ·obtain rfl:=oJ b
   try dsimp only[Z0,D1]at a
   exact U1 j ⟨d,(IntKind.i64.wrap (g+1)),rfl,rfl,(l.trans k),u,(F0 _),a⟩
 ·obtain rfl:=oJ a
  try dsimp only[Z0,D1]at c
  obtain rfl:=oJ c
  exact aI rfl (Y.trans l)
theorem F0g(h:Hp)(q:List Value)(u:l0)(U:Q1.R h q u)(r:Bool)(c:V01 u=some r):
  Tr Tryz.prog 11 #[.agg q.toArray] h λv h'=>v = .bool r/\h'=h:=by
 obtain⟨Q,C,ar,D,S,rfl,rfl,s,k⟩:=I1 U
 obtain⟨rfl,am⟩:=Sl.len k
 unfold V01 at c
 dsimp only at c
 refine Tr.forget (T3 (args:=[.agg #[.int .i64 Q,.slice C S.length D]]) (fn:=Tryz.f11) rfl ?_)
 refine trV c (e00 _ _ _ (M0 s k)) λaz c=>?_
 refine ifB c (λM c=>?_) λM c=>?_
 ·obtain rfl:=oJ c
  exact aI rfl (Sub.refl _)
 ·refine trM c (L8 _ _ _ (M0 s k)) ?_
  rintro B c ay t ⟨ab,aw,ah,rfl,y⟩
  have x:Sub h t:=y.sub
  have n:=y.r
  obtain⟨rfl,aq⟩:=Sl.len n
  obtain⟨p,J,c⟩:=B0 c
  refine eX { vars:=[15],boxes:=[],owns:=[],fuel:=true } (eX (λvs os h'=>∃ e,vs.tail = [.int .i64 e]/\os = []/\Sub t h'/\H0 e/\S7 B (W1 vs) e=some p) (eX (λ_ _=>0) (aI (eX W0 ⟨0,rfl,rfl,(Sub.refl _),(by decide),J⟩) ?_)))
  rintro _ j P ⟨e,⟨⟩,⟨⟩,g,aj,b⟩
  replace b:S7 B j e=some p:=b
  obtain _|j:=j
  ·cases b
  rw[S7.eq_2]at b
  refine ifB b (λK b=>?_) λK b=>?_
  ·refine ld b (K1.mono g n) λz ac l b=>?_
   obtain⟨Y,au,ae,rfl⟩:=Wp.slice_cell l
   obtain⟨rfl,an⟩:=Sl.len l
   obtain⟨A,H,b⟩:=B0 b
   obtain⟨T,V,E,F⟩:=Sl.cutI (r:=C0.toRp) (K1.mono g n) H
   refine aI T (eX V (aI E ?_))
   intro W O _
   obtain⟨Z,af,rfl,w⟩:=F W O
   have ao:=(Sl.len w).2
   obtain⟨o,I,b⟩:=B0 b
   refine eX { vars:=[25],boxes:=[],owns:=[],fuel:=true } (eX (λvs os h'=>∃ d,vs.tail = [.int .i64 d]/\os = []/\Sub P h'/\H0 d/\R7 A z (W1 vs) d=some o) (eX (λ_ _=>0) (aI (eX W0 ⟨0,rfl,rfl,(Sub.refl _),(by decide),I⟩) ?_)))
   rintro _ i al ⟨d,⟨⟩,⟨⟩,f,ai,a⟩
   replace a:R7 A z i d=some o:=a
   obtain _|i:=i
   ·cases a
   rw[R7.eq_2]at a
   refine ifB a (λL a=>?_) λL a=>?_
   ·refine ld a (K1.mono f w) λaA ad m a=>?_
    obtain⟨aa,av,ag,rfl⟩:=Wp.slice_cell m
    obtain⟨rfl,ap⟩:=Sl.len m
    refine trV a (R05 _ _ _ _ _ (C0.mono f l) _ _ _ _ m) λX a=>?_
    obtain⟨ax,G,a⟩:=B0 a
    have ak:H0 X:=C1 G
    refine ifB a (λN a=>?_) λN a=>?_
    ·obtain rfl:=oJ a
     try dsimp only[P2,Q2]at b
     obtain rfl:=oJ b
     try dsimp only[P2,Q2]at c
     obtain rfl:=oJ c
     exact aI rfl ((x.trans g).trans f)
    ·exact U1 i ⟨(IntKind.i64.wrap (d+1)),rfl,rfl,f,(F0 _),a⟩
   ·obtain rfl:=oJ a
    try dsimp only[Z0,D1]at b
    exact U1 j ⟨(IntKind.i64.wrap (e+1)),rfl,rfl,(g.trans f),(F0 _),b⟩
  ·obtain rfl:=oJ b
   try dsimp only[Z0,D1]at c
   obtain rfl:=oJ c
   exact aI rfl (x.trans g)
theorem Z0d(h:Hp)(k:List Value)(o:l0)(F:Q1.R h k o)(b:Option Addr)(n c:Nat)(e:D0)(q:C0.R h [.slice b n c] e)(r:D0×Bool)(a:r01 o e=some r):
  Tr Tryz.prog 16 #[.agg k.toArray,.slice b n c] h λv h'=>∃(i:Option Addr) (m j:Nat),v = .tuple #[.slice i m j,.bool r.2]/\New C0 h h' [.slice i m j] r.1:=by
 obtain⟨D,x,V,z,E,rfl,rfl,B,p⟩:=I1 F
 obtain⟨rfl,P⟩:=Sl.len p
 obtain⟨rfl,Q⟩:=Sl.len q
 unfold r01 at a
 dsimp only at a
 refine T3 (args:=[.agg #[.int .i64 D,.slice x E.length z],.slice b e.length c]) (fn:=Tryz.f16) rfl ?_
 refine trM a (L8 _ _ _ (M0 B p)) ?_
 rintro ad a aa d ⟨L,W,N,rfl,w⟩
 have u:Sub h d:=w.sub
 have s:=w.r
 obtain⟨rfl,S⟩:=Sl.len s
 refine trM a (a04 _ _ _ _ _ (C0.mono u q)) ?_
 rintro ae a ab l ⟨M,X,O,rfl,f⟩
 have H:Sub d l:=f.sub
 have t:=f.r
 obtain⟨rfl,T⟩:=Sl.len t
 refine trM a (N0d d _ _ _ _ _ (K1.mono H s) _ _ _ _ t f) ?_
 rintro J a ac C ⟨y,Y,A,rfl,g,I⟩
 obtain⟨K,af⟩:=J
 dsimp only at a g
 have Z:Sub l C:=I
 have G:=g.r
 obtain⟨rfl,U⟩:=Sl.len G
 obtain rfl:=oJ a
 exact⟨y,K.length,A,rfl,(New.from g u)⟩
theorem K0b(h:Hp)(s:List Value)(y:l0)(Z:Q1.R h s y)(i:Option Addr)(x j:Nat)(l:D0)(A:C0.R h [.slice i x j] l)(r:D0×Int)(b:x00 y l=some r):
  Tr Tryz.prog 9 #[.agg s.toArray,.slice i x j] h λv h'=>∃(p:Option Addr) (w q:Nat),v = .tuple #[.slice p w q,.int .i64 r.2]/\New C0 h h' [.slice p w q] r.1:=by
 obtain⟨X,K,ao,N,Y,rfl,rfl,U,z⟩:=I1 Z
 obtain⟨rfl,ai⟩:=Sl.len z
 obtain⟨rfl,aj⟩:=Sl.len A
 unfold x00 at b
 dsimp only at b
 refine T3 (args:=[.agg #[.int .i64 X,.slice K Y.length N],.slice i l.length j]) (fn:=Tryz.f9) rfl ?_
 refine trM b (L8 _ _ _ (M0 U z)) ?_
 rintro H b av t ⟨af,ap,ag,rfl,G⟩
 have E:Sub h t:=G.sub
 have C:=G.r
 obtain⟨rfl,al⟩:=Sl.len C
 refine trM b (a04 _ _ _ _ _ (C0.mono E A)) ?_
 rintro J b aw u ⟨M,ar,P,rfl,n⟩
 have ac:Sub t u:=n.sub
 have ab:=n.r
 obtain⟨rfl,an⟩:=Sl.len ab
 obtain⟨o,Q,b⟩:=B0 b
 refine eX { vars:=[7,8],boxes:=[],owns:=[],fuel:=true } (eX (λvs os h'=>∃ d k e u8 c,vs.tail = [.slice d k e,.int .i64 c]/\os = []/\Sub u h'/\New C0 h h' [.slice d k e] u8/\H0 c/\l6 H (W1 vs) u8 c=some o) (eX (λ_ _=>0) (aI (eX W0 ⟨M,J.length,P,J,0,rfl,rfl,(Sub.refl _),(New.from n E),(by decide),Q⟩) ?_)))
 rintro _ _ f V ⟨d,k,e,u8,c,⟨⟩,⟨⟩,D,g,ah,a⟩
 replace a:l6 H f u8 c=some o:=a
 obtain _|f:=f
 ·cases a
 rw[l6.eq_2]at a
 have B:=g.r
 obtain⟨rfl,ak⟩:=Sl.len B
 refine ifB a (λS a=>?_) λS a=>?_
 ·refine trM a (N0d h _ _ _ _ _ (K1.mono (ac.trans D) C) _ _ _ _ B g) ?_
  rintro ae a au W ⟨L,aq,O,rfl,m,ad⟩
  obtain⟨I,ax⟩:=ae
  dsimp only at a m
  have F:Sub V W:=ad
  have aa:=m.r
  obtain⟨rfl,am⟩:=Sl.len aa
  refine ifB a (λT a=>?_) λT a=>?_
  ·obtain rfl:=oJ a
   try dsimp only[P2,Q2]at b
   obtain rfl:=oJ b
   exact⟨d,u8.length,e,rfl,(New.mono g F)⟩
  ·exact U1 f ⟨L,I.length,O,I,(IntKind.i64.wrap (c+1)),rfl,rfl,(D.trans F),m,(F0 _),a⟩
 ·obtain rfl:=oJ a
  try dsimp only[Z0,D1]at b
  obtain rfl:=oJ b
  exact⟨d,u8.length,e,rfl,g⟩
theorem b0e(h:Hp)(b:Int)(d:H0 b)(r:j0×Bool)(a:m01 b=some r):
  Tr Tryz.prog 79 #[.int .i64 b] h λv h'=>∃(c:List Value),v = .tuple #[.agg c.toArray,.bool r.2]/\w4.R h' c r.1/\Sub h h':=by
 unfold m01 at a
 refine T3 (args:=[.int .i64 b]) (fn:=Tryz.f79) rfl ?_
 refine trV a (B6 _ _ d 1 (by decide) 3 (by decide)) λf a=>?_
 refine ifB a (λe a=>?_) λe a=>?_
 ·obtain rfl:=oJ a
  exact⟨([.int .i64 0,.int .i64 0,.slice none 0 0]),rfl,(J0 (by decide) (by decide) (d0j D4 h)),(Sub.refl _)⟩
 ·obtain rfl:=oJ a
  exact⟨([.int .i64 b,.int .i64 1,.slice none 0 0]),rfl,(J0 d (by decide) (d0j D4 h)),(Sub.refl _)⟩
theorem s08(h:Hp)(N:List Value)(W:j0)(a6:w4.R h N W)(w:Int)(Q:H0 w)(m:Option Addr)(V n:Nat)(k:D0)(l:C0.R h [.slice m V n] k)(f:Int)(t:H0 f)(r:j0×Bool)(b:Y9 W w k f=some r):
  Tr Tryz.prog 85 #[.agg N.toArray,.int .i64 w,.slice m V n,.int .i64 f] h λv h'=>∃(M:List Value),v = .tuple #[.agg M.toArray,.bool r.2]/\w4.R h' M r.1/\Sub h h':=by
 obtain⟨a4,G,au,bO,aD,a5,rfl,rfl,E,P,H⟩:=E1 a6
 obtain⟨rfl,bG⟩:=Sl.len H
 obtain⟨rfl,bH⟩:=Sl.len l
 unfold Y9 at b
 dsimp only at b
 refine T3 (args:=[.agg #[.int .i64 a4,.int .i64 G,.slice au a5.length aD],.int .i64 w,.slice m k.length n,.int .i64 f]) (fn:=Tryz.f85) rfl ?_
 refine trM b (Z4 _ _ _ (J0 E P H)) ?_
 rintro ca b b4 U ⟨bg,rfl,af⟩
 have i:Sub h U:=af.sub
 have a7:=af.r
 obtain⟨ak,al,L,bP,O,J,rfl,rfl,S,T,I⟩:=E1 a7
 obtain⟨rfl,bJ⟩:=Sl.len I
 try dsimp only at b
 refine trV b (E6 _ _ _ (J0 E P (P1.mono i H))) λcd b=>?_
 refine trG b (λq=>B6 _ _ Q 0 (by decide) (IntKind.i64.wrap (G-1)) (F0 _)) λcf b=>?_
 refine trG b (λq=>B6 _ _ t 0 (by decide) (IntKind.i64.wrap (G-1)) (F0 _)) λcg b=>?_
 refine trG b (λq=>t02 _ _ E _ _ _ _ (C0.mono i l)) λch b=>?_
 refine ifB b (λaX b=>?_) λaX b=>?_
 ·obtain rfl:=oJ b
  exact⟨([.int .i64 ak,.int .i64 al,.slice L J.length O]),rfl,(J0 S T I),i⟩
 ·obtain⟨K,aR,b⟩:=B0 b
  refine eX { vars:=[11,12],boxes:=[2],owns:=[],fuel:=true } (eX (λvs os h'=>∃ d e j c A F B x,vs.tail = [.int .i64 d,.int .i64 e,.int .i64 j,.int .i64 c,.slice A F B]/\os = []/\Sub U h'/\H0 d/\H0 e/\H0 j/\H0 c/\P1.R h' [.slice A F B] x/\K5 k f (W1 vs) d e j c x=some K) (eX (λ_ _=>0) (aI (eX W0 ⟨w,0,ak,al,L,J.length,O,J,rfl,rfl,(Sub.refl _),Q,(by decide),S,T,I,aR⟩) ?_)))
  rintro _ _ _ _ _ p D ⟨d,e,j,c,A,F,B,x,⟨⟩,⟨⟩,g,C,bl,u,o,s,a⟩
  replace a:K5 k f p d e j c x=some K:=a
  obtain _|p:=p
  ·cases a
  rw[K5.eq_2]at a
  obtain⟨rfl,bI⟩:=Sl.len s
  refine ifB a (λaS a=>?_) λaS a=>?_
  ·refine ifB a (λaU a=>?_) λaU a=>?_
   ·refine ldI a (C0.mono (i.trans g) l) λcb bm a=>?_
    refine ifB a (λaV a=>?_) λaV a=>?_
    ·refine Or.inr (Or.inr (Or.inl (aI (aI (by kernel_rfl) (by kernel_rfl)) ?_)))
     obtain⟨am,aN,a⟩:=B0 a
     obtain⟨az,bh,aJ,a8⟩:=Sl.getI (r:=Wp.int.toRp) (C0.mono (i.trans g) l) aN (by decide)
     obtain⟨rfl,aY⟩:=a8
     refine Or.inl (eX (.hel (.slice m k.length n) e 1 0) (aI ?_ ?_))
     ·intro bq bU
      exact aI az (aI rfl (aI rfl rfl))
     refine Or.inl (eX (.val (.int .i64 am)) (aI ?_ ?_))
     ·intro br bc
      exact eX _ (aI (Z7.up bc aJ) (aI rfl (aI rfl rfl)))
     refine Or.inl (eX (.agg [.val (.int .i64 d),.val (.int .i64 am),.val (.int .i64 c)]) (aI ?_ ?_))
     ·intro bs bV
      exact aI rfl (aI rfl rfl)
     refine Or.inr ?_
     refine Or.inr ?_
     refine Or.inl (eX 1 (aI (aI rfl rfl) ?_))
     refine trM a (f01 _ _ _ _ _ s _ _ (V2 C aY o)) ?_
     rintro an a b5 a0 ⟨av,bQ,aE,rfl,ag⟩
     have ab:Sub D a0:=ag.sub
     have X:=ag.r
     obtain⟨rfl,bK⟩:=Sl.len X
     refine aI (aI rfl ab) (aI (by first|exact trivial|exact rfl) ?_)
     refine aT ?_
     exact U1 p ⟨c,(IntKind.i64.wrap (e+1)),j,(IntKind.i64.wrap (c+1)),av,an.length,aE,an,rfl,rfl,(g.trans ab),o,(F0 _),u,(F0 _),X,a⟩
    ·refine Or.inr (Or.inr (Or.inl (aI (aI (by kernel_rfl) (by kernel_rfl)) ?_)))
     obtain⟨y,aO,a⟩:=B0 a
     obtain⟨aA,bi,aK,a9⟩:=Sl.getI (r:=Wp.int.toRp) (C0.mono (i.trans g) l) aO (by decide)
     obtain⟨rfl,bn⟩:=a9
     refine Or.inl (eX (.hel (.slice m k.length n) e 1 0) (aI ?_ ?_))
     ·intro bt bW
      exact aI aA (aI rfl (aI rfl rfl))
     refine Or.inl (eX (.val (.int .i64 y)) (aI ?_ ?_))
     ·intro bu bd
      exact eX _ (aI (Z7.up bd aK) (aI rfl (aI rfl rfl)))
     refine Or.inl (eX (.val (.int .i64 (IntKind.i64.wrap (0-y)))) (aI ?_ ?_))
     ·intro bv bX
      exact aI rfl (aI rfl rfl)
     refine Or.inl (eX (.agg [.val (.int .i64 c),.val (.int .i64 (IntKind.i64.wrap (0-y))),.val (.int .i64 d)]) (aI ?_ ?_))
     ·intro bx bY
      exact aI rfl (aI rfl rfl)
     refine Or.inr ?_
     refine Or.inr ?_
     refine Or.inl (eX 1 (aI (aI rfl rfl) ?_))
     refine trM a (f01 _ _ _ _ _ s [.int .i64 c,.int .i64 (IntKind.i64.wrap (0-y)),.int .i64 d] (c,(IntKind.i64.wrap (0-y)),d) (V2 o (F0 _) C)) ?_
     rintro ao a b6 a1 ⟨aw,bR,aF,rfl,ah⟩
     have ac:Sub D a1:=ah.sub
     have Y:=ah.r
     obtain⟨rfl,bL⟩:=Sl.len Y
     refine aI (aI rfl ac) (aI (by first|exact trivial|exact rfl) ?_)
     refine aT ?_
     exact U1 p ⟨c,(IntKind.i64.wrap (e+1)),j,(IntKind.i64.wrap (c+1)),aw,ao.length,aF,ao,rfl,rfl,(g.trans ac),o,(F0 _),u,(F0 _),Y,a⟩
   ·refine ldI a (C0.mono (i.trans g) l) λce bo a=>?_
    refine ifB a (λaW a=>?_) λaW a=>?_
    ·refine Or.inr (Or.inr (Or.inl (aI (aI (by kernel_rfl) (by kernel_rfl)) ?_)))
     obtain⟨ap,aP,a⟩:=B0 a
     obtain⟨aB,bj,aL,ba⟩:=Sl.getI (r:=Wp.int.toRp) (C0.mono (i.trans g) l) aP (by decide)
     obtain⟨rfl,aZ⟩:=ba
     refine Or.inl (eX (.hel (.slice m k.length n) e 1 0) (aI ?_ ?_))
     ·intro bz bZ
      exact aI aB (aI rfl (aI rfl rfl))
     refine Or.inl (eX (.val (.int .i64 ap)) (aI ?_ ?_))
     ·intro bA be
      exact eX _ (aI (Z7.up be aL) (aI rfl (aI rfl rfl)))
     refine Or.inl (eX (.agg [.val (.int .i64 d),.val (.int .i64 ap),.val (.int .i64 f)]) (aI ?_ ?_))
     ·intro bB b0
      exact aI rfl (aI rfl rfl)
     refine Or.inr ?_
     refine Or.inr ?_
     refine Or.inl (eX 1 (aI (aI rfl rfl) ?_))
     refine trM a (f01 _ _ _ _ _ s _ _ (V2 C aZ t)) ?_
     rintro aq a b7 a2 ⟨ax,bS,aG,rfl,ai⟩
     have ad:Sub D a2:=ai.sub
     have Z:=ai.r
     obtain⟨rfl,bM⟩:=Sl.len Z
     refine aI (aI rfl ad) (aI (by first|exact trivial|exact rfl) ?_)
     refine aT ?_
     exact U1 p ⟨f,(IntKind.i64.wrap (e+1)),j,c,ax,aq.length,aG,aq,rfl,rfl,(g.trans ad),t,(F0 _),u,o,Z,a⟩
    ·refine Or.inr (Or.inr (Or.inl (aI (aI (by kernel_rfl) (by kernel_rfl)) ?_)))
     obtain⟨z,aQ,a⟩:=B0 a
     obtain⟨aC,bk,aM,bb⟩:=Sl.getI (r:=Wp.int.toRp) (C0.mono (i.trans g) l) aQ (by decide)
     obtain⟨rfl,bp⟩:=bb
     refine Or.inl (eX (.hel (.slice m k.length n) e 1 0) (aI ?_ ?_))
     ·intro bC b1
      exact aI aC (aI rfl (aI rfl rfl))
     refine Or.inl (eX (.val (.int .i64 z)) (aI ?_ ?_))
     ·intro bD bf
      exact eX _ (aI (Z7.up bf aM) (aI rfl (aI rfl rfl)))
     refine Or.inl (eX (.val (.int .i64 (IntKind.i64.wrap (0-z)))) (aI ?_ ?_))
     ·intro bE b2
      exact aI rfl (aI rfl rfl)
     refine Or.inl (eX (.agg [.val (.int .i64 f),.val (.int .i64 (IntKind.i64.wrap (0-z))),.val (.int .i64 d)]) (aI ?_ ?_))
     ·intro bF b3
      exact aI rfl (aI rfl rfl)
     refine Or.inr ?_
     refine Or.inr ?_
     refine Or.inl (eX 1 (aI (aI rfl rfl) ?_))
     refine trM a (f01 _ _ _ _ _ s [.int .i64 f,.int .i64 (IntKind.i64.wrap (0-z)),.int .i64 d] (f,(IntKind.i64.wrap (0-z)),d) (V2 t (F0 _) C)) ?_
     rintro ar a b8 a3 ⟨ay,bT,aH,rfl,aj⟩
     have ae:Sub D a3:=aj.sub
     have aa:=aj.r
     obtain⟨rfl,bN⟩:=Sl.len aa
     refine aI (aI rfl ae) (aI (by first|exact trivial|exact rfl) ?_)
     refine aT ?_
     exact U1 p ⟨f,(IntKind.i64.wrap (e+1)),j,c,ay,ar.length,aH,ar,rfl,rfl,(g.trans ae),t,(F0 _),u,o,aa,a⟩
  ·obtain rfl:=oJ a
   try dsimp only[Z0,D1]at b
   obtain rfl:=oJ b
   exact⟨([.int .i64 j,.int .i64 c,.slice A x.length B]),rfl,(J0 u o s),(i.trans g)⟩
theorem c0e(h:Hp)(f:List Value)(i:j0)(A:w4.R h f i)(b:Option Addr)(g c:Nat)(d:D0)(k:C0.R h [.slice b g c] d)(r:j0×Bool)(a:n01 i d=some r):
  Tr Tryz.prog 80 #[.agg f.toArray,.slice b g c] h λv h'=>∃(e:List Value),v = .tuple #[.agg e.toArray,.bool r.2]/\w4.R h' e r.1/\Sub h h':=by
 obtain⟨x,y,n,L,p,z,rfl,rfl,s,t,j⟩:=E1 A
 obtain⟨rfl,I⟩:=Sl.len j
 obtain⟨rfl,J⟩:=Sl.len k
 unfold n01 at a
 dsimp only at a
 refine T3 (args:=[.agg #[.int .i64 x,.int .i64 y,.slice n z.length p],.slice b d.length c]) (fn:=Tryz.f80) rfl ?_
 refine trM a (s08 _ _ _ (J0 s t j) 0 (by decide) _ _ _ _ k 0 (by decide)) ?_
 rintro C a N H ⟨G,rfl,l,B⟩
 obtain⟨O,P⟩:=C
 dsimp only at a l
 obtain⟨D,E,o,M,q,F,rfl,rfl,u,w,m⟩:=E1 l
 obtain⟨rfl,K⟩:=Sl.len m
 try dsimp only at a
 obtain rfl:=oJ a
 exact⟨([.int .i64 D,.int .i64 E,.slice o F.length q]),rfl,(J0 u w m),B⟩
theorem d0e(h:Hp)(A:Int)(Q:H0 A)(u:Option Addr)(U x:Nat)(n:L1)(D:K1.R h [.slice u U x] n)(r:j0×Bool)(b:o01 A n=some r):
  Tr Tryz.prog 63 #[.int .i64 A,.slice u U x] h λv h'=>∃(L:List Value),v = .tuple #[.agg L.toArray,.bool r.2]/\w4.R h' L r.1/\Sub h h':=by
 obtain⟨rfl,bc⟩:=Sl.len D
 unfold o01 at b
 refine T3 (args:=[.int .i64 A,.slice u n.length x]) (fn:=Tryz.f63) rfl ?_
 refine trV b (s07 _ _ Q _ _ _ _ D) λbr b=>?_
 refine ifB b (λaq b=>?_) λaq b=>?_
 ·obtain rfl:=oJ b
  exact⟨([.int .i64 0,.int .i64 0,.slice none 0 0]),rfl,(J0 (by decide) (by decide) (d0j D4 h)),(Sub.refl _)⟩
 ·refine trM b (b0e _ _ Q) ?_
  rintro aR b bq aD ⟨aY,rfl,V,Z⟩
  obtain⟨bs,bt⟩:=aR
  dsimp only at b V
  obtain⟨aS,aU,ac,bj,ah,aa,rfl,rfl,ar,au,W⟩:=E1 V
  obtain⟨rfl,bf⟩:=Sl.len W
  try dsimp only at b
  obtain⟨I,ao,b⟩:=B0 b
  refine eX { vars:=[8],boxes:=[1],owns:=[],fuel:=true } (eX (λvs os h'=>∃ m u8 o w C y t,vs.tail = [.int .i64 m,.int .i64 u8,.int .i64 o,.slice w C y]/\os = []/\Sub aD h'/\H0 m/\H0 u8/\H0 o/\P1.R h' [.slice w C y] t/\c7 n (W1 vs) m u8 o t=some I) (eX (λ_ _=>0) (aI (eX W0 ⟨0,aS,aU,ac,aa.length,ah,aa,rfl,rfl,(Sub.refl _),(by decide),ar,au,W,ao⟩) ?_)))
  rintro _ _ _ _ z a3 ⟨m,u8,o,w,C,y,t,⟨⟩,⟨⟩,G,a0,S,T,E,c⟩
  replace c:c7 n z m u8 o t=some I:=c
  obtain _|z:=z
  ·cases c
  rw[c7.eq_2]at c
  obtain⟨rfl,bd⟩:=Sl.len E
  refine ifB c (λap c=>?_) λap c=>?_
  ·refine Or.inr (Or.inr (Or.inr (Or.inr (eX 10 (aI (aI (by kernel_rfl) (by kernel_rfl)) ?_)))))
   obtain⟨aO,am,c⟩:=B0 c
   obtain⟨af,aW,ak,F⟩:=Sl.getI (r:=C0.toRp) (K1.mono (Z.trans G) D) am (by decide)
   obtain⟨ab,bi,ag,rfl⟩:=Wp.slice_cell F
   obtain⟨rfl,be⟩:=Sl.len F
   refine Or.inl (eX (.hel (.slice u n.length x) m 1 0) (aI ?_ ?_))
   ·intro a4 bm
    exact aI af (aI rfl (aI rfl rfl))
   refine Or.inl (eX (.val (.slice ab aO.length ag)) (aI ?_ ?_))
   ·intro a5 aM
    exact eX _ (aI (Z7.up aM ak) (aI rfl (aI rfl rfl)))
   obtain⟨aP,an,c⟩:=B0 c
   obtain⟨aQ,H⟩:=aP
   try dsimp only at c
   obtain⟨j,k,a⟩:=aQ
   try dsimp only at c
   refine Or.inr (eX (λv g=>∃(i:Value),v = .tuple #[i,.bool H]/\(λv g=>∃(d:Option Addr) (f:Nat),v = .agg #[.int .i64 j,.int .i64 k,.slice d a.length f]/\H0 j/\H0 k/\P1.R g [.slice d a.length f] a/\a.length<=9223372036854775807) i g) (aI (λv O P l q=>by obtain⟨i,e,B⟩:=q;exact⟨i,e,(by obtain⟨d,f,e,p,s,f2,f3⟩:=B;exact⟨d,f,e,p,s,P1.mono l f2,f3⟩)⟩) (aI ?_ ?_)))
   ·intro a6 Y
    refine Tr.mono (c0e _ _ _ (J0 S T (P1.mono Y E)) _ _ _ _ (C0.mono Y F) _ an) ?_
    rintro _ bb ⟨aX,rfl,aH,l⟩
    obtain⟨bu,bv,J,bk,M,bx,rfl,al,av,aw,X⟩:=E1 aH
    cases al
    obtain⟨rfl,aE⟩:=Sl.len X
    exact aI g01 (aI l ⟨(.agg #[.int .i64 j,.int .i64 k,.slice J a.length M]),rfl,⟨J,M,rfl,av,aw,X,aE⟩⟩)
   refine Or.inr (eX (λv g=>∃(i:Value),v = .tuple #[i,.bool H]/\(λv g=>∃(d:Option Addr) (f:Nat),v = .agg #[.int .i64 j,.int .i64 k,.slice d a.length f]/\H0 j/\H0 k/\P1.R g [.slice d a.length f] a/\a.length<=9223372036854775807) i g) (aI (λv O P l q=>by obtain⟨i,e,B⟩:=q;exact⟨i,e,(by obtain⟨d,f,e,p,s,f2,f3⟩:=B;exact⟨d,f,e,p,s,P1.mono l f2,f3⟩)⟩) (aI ?_ ?_)))
   ·intro a7 bn
    rintro _ ⟨_,rfl,⟨K,N,rfl,ax,ay,aJ,aF⟩⟩
    exact aI g01 (aI (Sub.refl _) ⟨(.agg #[.int .i64 j,.int .i64 k,.slice K a.length N]),rfl,⟨K,N,rfl,ax,ay,aJ,aF⟩⟩)
   refine Or.inr (eX (λv g=>∃(d:Option Addr) (f:Nat),v = .agg #[.int .i64 j,.int .i64 k,.slice d a.length f]/\H0 j/\H0 k/\P1.R g [.slice d a.length f] a/\a.length<=9223372036854775807) (aI (λv O P l q=>by obtain⟨d,f,e,p,s,f2,f3⟩:=q;exact⟨d,f,e,p,s,P1.mono l f2,f3⟩) (aI ?_ ?_)))
   ·intro a8 bo
    rintro _ ⟨_,rfl,⟨ad,ai,rfl,az,aA,aK,aG⟩⟩
    exact aI g01 (aI (Sub.refl _) ⟨ad,ai,rfl,az,aA,aK,aG⟩)
   refine Or.inl (eX (.val (.bool H)) (aI ?_ ?_))
   ·intro a9 bp
    rintro _ ⟨_,rfl,⟨aV,aZ,rfl,a1,a2,bl,bg⟩⟩
    exact aI rfl (aI rfl rfl)
   intro ba aN
   rintro _ ⟨ae,aj,rfl,aB,aC,aL,bh⟩
   rintro _ _
   rintro _ _
   exact U1 z ⟨(IntKind.i64.wrap (m+1)),j,k,ae,a.length,aj,a,rfl,rfl,(G.trans aN),(F0 _),aB,aC,aL,c⟩
  ·obtain rfl:=oJ c
   try dsimp only[Z0,D1]at b
   obtain rfl:=oJ b
   exact⟨([.int .i64 u8,.int .i64 o,.slice w t.length y]),rfl,(J0 S T E),(Z.trans G)⟩
theorem G0g(h:Hp)(F:List Value)(I:j0)(ac:w4.R h F I)(r:A02)(t:R01 I=some r):
  Tr Tryz.prog 123 #[.agg F.toArray] h λv h'=>∃(D:Option Addr) (H E:Nat),v = .slice D H E/\u0q.R h' [.slice D H E] r/\Sub h h':=by
 obtain⟨aa,ab,J,au,L,w,rfl,rfl,aj,ak,A⟩:=E1 ac
 obtain⟨rfl,aq⟩:=Sl.len A
 unfold R01 at t
 dsimp only at t
 refine T3 (args:=[.agg #[.int .i64 aa,.int .i64 ab,.slice J w.length L]]) (fn:=Tryz.f123) rfl ?_
 obtain⟨B,S,t⟩:=B0 t
 refine eX { vars:=[4],boxes:=[],owns:=[0],fuel:=true } (eX (λvs os h'=>∃ l z u,vs.tail = [.int .i64 l]/\os = [z]/\Sub h h'/\H0 l/\F2 (g00.R h') z u/\I7 w (W1 vs) l u=some B) (eX (λ_ _=>0) (aI (eX W0 ⟨0,[],([]:A02),rfl,rfl,(Sub.refl _),(by decide),(show F2 (g00.R h) ([]:List (List Value)) ([]:A02) from trivial),S⟩) ?_)))
 rintro _ z x Z ⟨l,aD,u,⟨⟩,⟨⟩,y,al,G,f⟩
 replace f:I7 w x l u=some B:=f
 obtain _|x:=x
 ·cases f
 rw[I7.eq_2]at f
 refine ifB f (λY f=>?_) λY f=>?_
 ·obtain⟨C,T,f⟩:=B0 f
  refine eX { vars:=[5],boxes:=[],owns:=[0],fuel:=true } (eX (λvs os h'=>∃ u8 p m,vs.tail = [.int .i64 u8]/\os = [p]/\Sub Z h'/\H0 u8/\F2 (g00.R h') p m/\d5 w l (W1 vs) u8 m=some C) (eX (λ_ _=>0) (aI (eX W0 ⟨(IntKind.i64.wrap (l+1)),z,u,rfl,rfl,(Sub.refl _),(F0 _),G,T⟩) ?_)))
  rintro _ p q k ⟨u8,aE,m,⟨⟩,⟨⟩,s,am,g,e⟩
  replace e:d5 w l q u8 m=some C:=e
  obtain _|q:=q
  ·cases e
  rw[d5.eq_2]at e
  refine ifB e (λU e=>?_) λU e=>?_
  ·refine ld e (P1.mono (y.trans s) A) λaz ah ad e=>?_
   obtain⟨c,aA,a,rfl,rfl,n,an,i⟩:=E4 ad
   try dsimp only at e
   refine ld e (P1.mono (y.trans s) A) λaB ai ae e=>?_
   obtain⟨d,aC,b,rfl,rfl,o,ao,j⟩:=E4 ae
   try dsimp only at e
   refine ifB e (λV e=>?_) λV e=>?_
   ·obtain⟨av,O,e⟩:=B0 e
    refine aI (T0 O (by first|rw[F2.length g,F2.length (show F2 (g00.R k) ([[.int .i64 (if b<a then b else a),.int .i64 (if b>a then b else a)]]:List (List Value)) [((if b<a then b else a),(if b>a then b else a))] from⟨(H6 (l3 j i) (l3 j i)),trivial⟩)]|exact congrArg (·+1) (F2.length g))) ?_
    refine ifB e (λW e=>?_) λW e=>?_
    ·obtain⟨aw,P,e⟩:=B0 e
     refine aI (T0 P (by first|rw[F2.length (F2.append g (show F2 (g00.R k) ([[.int .i64 (if b<a then b else a),.int .i64 (if b>a then b else a)]]:List (List Value)) [((if b<a then b else a),(if b>a then b else a))] from⟨(H6 (l3 j i) (l3 j i)),trivial⟩)),F2.length (show F2 (g00.R k) ([[.int .i64 (if d<c then d else c),.int .i64 (if d>c then d else c)]]:List (List Value)) [((if d<c then d else c),(if d>c then d else c))] from⟨(H6 (l3 o n) (l3 o n)),trivial⟩)]|exact congrArg (·+1) (F2.length (F2.append g (show F2 (g00.R k) ([[.int .i64 (if b<a then b else a),.int .i64 (if b>a then b else a)]]:List (List Value)) [((if b<a then b else a),(if b>a then b else a))] from⟨(H6 (l3 j i) (l3 j i)),trivial⟩))))) ?_
     exact U1 q ⟨(IntKind.i64.wrap (u8+1)),((p++([[.int .i64 (if b<a then b else a),.int .i64 (if b>a then b else a)]]:List (List Value)))++([[.int .i64 (if d<c then d else c),.int .i64 (if d>c then d else c)]]:List (List Value))),((m ++ [((if b<a then b else a),(if b>a then b else a))]) ++ [((if d<c then d else c),(if d>c then d else c))]),rfl,rfl,s,(F0 _),(F2.append (F2.append g (show F2 (g00.R k) ([[.int .i64 (if b<a then b else a),.int .i64 (if b>a then b else a)]]:List (List Value)) [((if b<a then b else a),(if b>a then b else a))] from⟨(H6 (l3 j i) (l3 j i)),trivial⟩)) (show F2 (g00.R k) ([[.int .i64 (if d<c then d else c),.int .i64 (if d>c then d else c)]]:List (List Value)) [((if d<c then d else c),(if d>c then d else c))] from⟨(H6 (l3 o n) (l3 o n)),trivial⟩)),e⟩
    ·exact U1 q ⟨(IntKind.i64.wrap (u8+1)),(p++([[.int .i64 (if b<a then b else a),.int .i64 (if b>a then b else a)]]:List (List Value))),(m ++ [((if b<a then b else a),(if b>a then b else a))]),rfl,rfl,s,(F0 _),(F2.append g (show F2 (g00.R k) ([[.int .i64 (if b<a then b else a),.int .i64 (if b>a then b else a)]]:List (List Value)) [((if b<a then b else a),(if b>a then b else a))] from⟨(H6 (l3 j i) (l3 j i)),trivial⟩)),e⟩
   ·refine ifB e (λX e=>?_) λX e=>?_
    ·obtain⟨ax,Q,e⟩:=B0 e
     refine aI (T0 Q (by first|rw[F2.length g,F2.length (show F2 (g00.R k) ([[.int .i64 (if d<c then d else c),.int .i64 (if d>c then d else c)]]:List (List Value)) [((if d<c then d else c),(if d>c then d else c))] from⟨(H6 (l3 o n) (l3 o n)),trivial⟩)]|exact congrArg (·+1) (F2.length g))) ?_
     exact U1 q ⟨(IntKind.i64.wrap (u8+1)),(p++([[.int .i64 (if d<c then d else c),.int .i64 (if d>c then d else c)]]:List (List Value))),(m ++ [((if d<c then d else c),(if d>c then d else c))]),rfl,rfl,s,(F0 _),(F2.append g (show F2 (g00.R k) ([[.int .i64 (if d<c then d else c),.int .i64 (if d>c then d else c)]]:List (List Value)) [((if d<c then d else c),(if d>c then d else c))] from⟨(H6 (l3 o n) (l3 o n)),trivial⟩)),e⟩
    ·exact U1 q ⟨(IntKind.i64.wrap (u8+1)),p,m,rfl,rfl,s,(F0 _),g,e⟩
  ·obtain rfl:=oJ e
   try dsimp only[Z0,D1]at f
   exact U1 x ⟨(IntKind.i64.wrap (l+1)),p,m,rfl,rfl,(y.trans s),(F0 _),g,f⟩
 ·obtain rfl:=oJ f
  try dsimp only[Z0,D1]at t
  intro ay ap N
  obtain⟨K,M,rfl,af,ag,ar⟩:=U0.out (r:=g00.toRp) N G
  obtain rfl:=oJ t
  exact⟨K,u.length,M,rfl,af,(y.trans ag)⟩
theorem c0d(h:Hp)(d:List Value)(g:j0)(u:w4.R h d g)(r:Z8×Bool)(a:H9 g=some r):
  Tr Tryz.prog 107 #[.agg d.toArray] h λv h'=>∃(c:List Value),v = .tuple #[.agg c.toArray,.bool r.2]/\g00.R h' c r.1/\Sub h h':=by
 obtain⟨q,s,k,F,l,t,rfl,rfl,e,f,b⟩:=E1 u
 obtain⟨rfl,D⟩:=Sl.len b
 unfold H9 at a
 dsimp only at a
 refine T3 (args:=[.agg #[.int .i64 q,.int .i64 s,.slice k t.length l]]) (fn:=Tryz.f107) rfl ?_
 refine trV a (E6 _ _ _ (J0 e f b)) λI a=>?_
 refine ifB a (λm a=>?_) λm a=>?_
 ·obtain rfl:=oJ a
  exact⟨([.int .i64 0,.int .i64 0]),rfl,(H6 (by decide) (by decide)),(Sub.refl _)⟩
 ·refine trM a (G0g _ _ _ (J0 e f b)) ?_
  rintro J a H C ⟨z,G,B,rfl,i,j⟩
  obtain⟨rfl,E⟩:=Sl.len i
  refine ifB a (λn a=>?_) λn a=>?_
  ·obtain rfl:=oJ a
   exact⟨([.int .i64 0,.int .i64 0]),rfl,(H6 (by decide) (by decide)),j⟩
  ·refine ld a i λK A w a=>?_
   obtain⟨x,y,rfl,rfl,o,p⟩:=a08 w
   try dsimp only at a
   obtain rfl:=oJ a
   exact⟨([.int .i64 x,.int .i64 y]),rfl,(H6 o p),j⟩
theorem N0b(h:Hp)(b:Int)(l:H0 b)(c:List Value)(d:Z8)(k:g00.R h c d)(r:Int)(a:c02 b d=some r):
  Tr Tryz.prog 124 #[.int .i64 b,.agg c.toArray] h λv h'=>v = .int .i64 r/\h'=h:=by
 obtain⟨i,j,rfl,rfl,m,n⟩:=a08 k
 unfold c02 at a
 dsimp only at a
 refine Tr.forget (T3 (args:=[.int .i64 b,.agg #[.int .i64 i,.int .i64 j]]) (fn:=Tryz.f124) rfl ?_)
 refine ifB a (λe a=>?_) λe a=>?_
 ·refine ifB a (λf a=>?_) λf a=>?_
  ·obtain rfl:=oJ a
   exact aI rfl (Sub.refl _)
  ·obtain rfl:=oJ a
   exact aI rfl (Sub.refl _)
 ·refine ifB a (λg a=>?_) λg a=>?_
  ·obtain rfl:=oJ a
   exact aI rfl (Sub.refl _)
  ·obtain rfl:=oJ a
   exact aI rfl (Sub.refl _)
theorem t08(h:Hp)(x:List Value)(E:j0)(am:w4.R h x E)(y:List Value)(H:Z8)(an:g00.R h y H)(r:j0×Bool)(b:J7 E H=some r):
  Tr Tryz.prog 108 #[.agg x.toArray,.agg y.toArray] h λv h'=>∃(w:List Value),v = .tuple #[.agg w.toArray,.bool r.2]/\w4.R h' w r.1/\Sub h h':=by
 obtain⟨F,G,O,aH,S,m,rfl,rfl,k,z,j⟩:=E1 am
 obtain⟨rfl,aD⟩:=Sl.len j
 obtain⟨n,o,rfl,rfl,A,B⟩:=a08 an
 unfold J7 at b
 dsimp only at b
 refine T3 (args:=[.agg #[.int .i64 F,.int .i64 G,.slice O m.length S],.agg #[.int .i64 n,.int .i64 o]]) (fn:=Tryz.f108) rfl ?_
 refine trV b (E6 _ _ _ (J0 k z j)) λaS b=>?_
 refine ifB b (λab b=>?_) λab b=>?_
 ·refine trM b (Z4 _ _ _ (J0 k z j)) ?_
  rintro aX b aR al ⟨ay,rfl,M⟩
  have aq:Sub h al:=M.sub
  have ap:=M.r
  obtain⟨au,av,Q,aK,U,aw,rfl,rfl,ah,ai,J⟩:=E1 ap
  obtain⟨rfl,aG⟩:=Sl.len J
  try dsimp only at b
  obtain rfl:=oJ b
  exact⟨([.int .i64 au,.int .i64 av,.slice Q aw.length U]),rfl,(J0 ah ai J),aq⟩
 ·obtain⟨u,Z,b⟩:=B0 b
  refine eX { vars:=[7],boxes:=[3],owns:=[],fuel:=true } (eX (λvs os h'=>∃ d u8 c f l g e,vs.tail = [.int .i64 d,.int .i64 u8,.int .i64 c,.slice f l g]/\os = []/\Sub h h'/\H0 d/\H0 u8/\H0 c/\P1.R h' [.slice f l g] e/\s5 m n o (W1 vs) d u8 c e=some u) (eX (λ_ _=>0) (aI (eX W0 ⟨0,F,(IntKind.i64.wrap (G-1)),none,0,0,[],rfl,rfl,(Sub.refl _),(by decide),k,(F0 _),(d0j D4 h),Z⟩) ?_)))
  rintro _ _ _ _ i aj ⟨d,u8,c,f,l,g,e,⟨⟩,⟨⟩,q,az,C,D,p,a⟩
  replace a:s5 m n o i d u8 c e=some u:=a
  obtain _|i:=i
  ·cases a
  rw[s5.eq_2]at a
  obtain⟨rfl,aE⟩:=Sl.len p
  refine ifB a (λaa a=>?_) λaa a=>?_
  ·refine ld a (P1.mono q j) λaU ax ao a=>?_
   obtain⟨aV,ar,aW,rfl,rfl,ac,ad,ae⟩:=E4 ao
   try dsimp only at a
   refine Or.inr (Or.inr (Or.inl (aI (aI (by kernel_rfl) (by kernel_rfl)) ?_)))
   obtain⟨s,X,a⟩:=B0 a
   obtain⟨aL,V,a⟩:=B0 a
   have af:H0 s:=C1 V
   refine Or.inl (eX (.val (.int .i64 s)) (aI ?_ ?_))
   ·intro aA aN
    exact Tr.val (N0b _ _ ac _ _ (H6 A B) _ X) (aI rfl (aI rfl rfl))
   obtain⟨t,Y,a⟩:=B0 a
   obtain⟨aM,W,a⟩:=B0 a
   have ag:H0 t:=C1 W
   refine Or.inl (eX (.val (.int .i64 t)) (aI ?_ ?_))
   ·intro aB aO
    exact Tr.val (N0b _ _ ae _ _ (H6 A B) _ Y) (aI rfl (aI rfl rfl))
   refine Or.inl (eX (.agg [.val (.int .i64 s),.val (.int .i64 ar),.val (.int .i64 t)]) (aI ?_ ?_))
   ·intro aC aP
    exact aI rfl (aI rfl rfl)
   refine Or.inr ?_
   refine Or.inr ?_
   refine Or.inl (eX 1 (aI (aI rfl rfl) ?_))
   refine trM a (f01 _ _ _ _ _ p _ _ (V2 af ad ag)) ?_
   rintro N a aQ ak ⟨P,aJ,T,rfl,L⟩
   have K:Sub aj ak:=L.sub
   have I:=L.r
   obtain⟨rfl,aF⟩:=Sl.len I
   refine aI (aI rfl K) (aI (by first|exact trivial|exact rfl) ?_)
   refine aT ?_
   exact U1 i ⟨(IntKind.i64.wrap (d+1)),u8,c,P,N.length,T,N,rfl,rfl,(q.trans K),(F0 _),C,D,I,a⟩
  ·obtain rfl:=oJ a
   try dsimp only[Z0,D1]at b
   obtain rfl:=oJ b
   exact⟨([.int .i64 u8,.int .i64 c,.slice f e.length g]),rfl,(J0 C D p),q⟩
theorem e0e(h:Hp)(i:List Value)(l:j0)(J:w4.R h i l)(r:j0×Z8×Bool)(a:p01 l=some r):
  Tr Tryz.prog 82 #[.agg i.toArray] h λv h'=>∃(f:List Value) (g:List Value),v = .tuple #[.agg f.toArray,.agg g.toArray,.bool r.2.2]/\w4.R h' f r.1/\g00.R h' g r.2.1/\Sub h h':=by
 obtain⟨G,H,s,af,w,I,rfl,rfl,d,e,b⟩:=E1 J
 obtain⟨rfl,ac⟩:=Sl.len b
 unfold p01 at a
 dsimp only at a
 refine T3 (args:=[.agg #[.int .i64 G,.int .i64 H,.slice s I.length w]]) (fn:=Tryz.f82) rfl ?_
 refine trM a (c0d _ _ _ (J0 d e b)) ?_
 rintro N a aj E ⟨Y,rfl,m,c⟩
 obtain⟨al,am⟩:=N
 dsimp only at a m
 obtain⟨O,P,rfl,rfl,j,k⟩:=a08 m
 try dsimp only at a
 refine ifB a (λz a=>?_) λz a=>?_
 ·refine trM a (Z4 _ _ _ (J0 d e (P1.mono c b))) ?_
  rintro an a ak F ⟨Z,rfl,q⟩
  have L:Sub E F:=q.sub
  have K:=q.r
  obtain⟨Q,S,t,ag,x,T,rfl,rfl,A,B,n⟩:=E1 K
  obtain⟨rfl,ad⟩:=Sl.len n
  try dsimp only at a
  obtain rfl:=oJ a
  exact⟨([.int .i64 Q,.int .i64 S,.slice t T.length x]),([.int .i64 0,.int .i64 0]),rfl,(J0 A B n),(H6 (by decide) (by decide)),(c.trans L)⟩
 ·refine trM a (t08 _ _ _ (J0 d e (P1.mono c b)) _ _ (H6 j k)) ?_
  rintro U a ai ab ⟨aa,rfl,o,M⟩
  obtain⟨ao,ap⟩:=U
  dsimp only at a o
  obtain⟨V,W,u,ah,y,X,rfl,rfl,C,D,p⟩:=E1 o
  obtain⟨rfl,ae⟩:=Sl.len p
  try dsimp only at a
  refine Or.inr (Or.inr (Or.inl (aI (aI (by kernel_rfl) (by kernel_rfl)) ?_)))
  refine Or.inr ?_
  refine Or.inr ?_
  refine Or.inl (eX 0 (aI (aI rfl rfl) ?_))
  refine aT ?_
  refine aT ?_
  obtain rfl:=oJ a
  exact⟨([.int .i64 V,.int .i64 W,.slice u X.length y]),([.int .i64 O,.int .i64 P]),rfl,(J0 C D p),(H6 j k),(c.trans M)⟩
theorem g05(h:Hp)(B:List Value)(G:j0)(au:w4.R h B G)(r:j0×A02)(b:n8 G=some r):
  Tr Tryz.prog 64 #[.agg B.toArray] h λv h'=>∃(A:List Value) (y:Option Addr) (F z:Nat),v = .tuple #[.agg A.toArray,.slice y F z]/\w4.R h' A r.1/\u0q.R h' [.slice y F z] r.2/\Sub h h':=by
 obtain⟨ap,aq,T,aR,Y,ar,rfl,rfl,aj,ak,H⟩:=E1 au
 obtain⟨rfl,aL⟩:=Sl.len H
 unfold n8 at b
 dsimp only at b
 refine T3 (args:=[.agg #[.int .i64 ap,.int .i64 aq,.slice T ar.length Y]]) (fn:=Tryz.f64) rfl ?_
 refine trM b (Z4 _ _ _ (J0 aj ak H)) ?_
 rintro a0 b aZ t ⟨aD,rfl,P⟩
 have M:Sub h t:=P.sub
 have av:=P.r
 obtain⟨aB,aC,V,aU,aa,S,rfl,rfl,an,ao,L⟩:=E1 av
 obtain⟨rfl,aO⟩:=Sl.len L
 try dsimp only at b
 obtain⟨x,ag,b⟩:=B0 b
 refine eX { vars:=[6],boxes:=[2],owns:=[0],fuel:=true } (eX (λvs os h'=>∃ g d e k u l u8 p f,vs.tail = [.int .i64 g,.int .i64 d,.int .i64 e,.slice k u l]/\os = [p]/\Sub t h'/\H0 g/\H0 d/\H0 e/\P1.R h' [.slice k u l] u8/\F2 (g00.R h') p f/\J6 (W1 vs) g d e u8 f=some x) (eX (λ_ _=>0) (aI (eX W0 ⟨0,aB,aC,V,S.length,aa,S,[],([]:A02),rfl,rfl,(Sub.refl _),(by decide),an,ao,L,(show F2 (g00.R t) ([]:List (List Value)) ([]:A02) from trivial),ag⟩) ?_)))
 rintro _ _ _ _ p n aH ⟨g,d,e,k,u,l,u8,a4,f,⟨⟩,⟨⟩,w,aG,q,s,o,m,a⟩
 replace a:J6 n g d e u8 f=some x:=a
 obtain _|n:=n
 ·cases a
 rw[J6.eq_2]at a
 obtain⟨rfl,aM⟩:=Sl.len o
 refine ifB a (λah a=>?_) λah a=>?_
 ·refine trM a (e0e _ _ _ (J0 q s o)) ?_
  rintro ay a aW E ⟨aE,aF,rfl,I,K,c⟩
  obtain⟨a1,a2,a3⟩:=ay
  dsimp only at a I K
  obtain⟨az,aA,U,aS,Z,Q,rfl,rfl,al,am,J⟩:=E1 I
  obtain⟨rfl,aN⟩:=Sl.len J
  try dsimp only at a
  obtain⟨i,j,rfl,rfl,C,D⟩:=a08 K
  try dsimp only at a
  refine ifB a (λai a=>?_) λai a=>?_
  ·intro aX aJ ad
   obtain⟨W,ab,rfl,aw,N,aP⟩:=U0.out (r:=g00.toRp) ad (F2.up (r:=g00.toRp) c m)
   obtain rfl:=oJ a
   try dsimp only[P2,Q2]at b
   obtain rfl:=oJ b
   exact⟨([.int .i64 d,.int .i64 e,.slice k u8.length l]),W,f.length,ab,rfl,(J0 q s (P1.mono (c.trans N) o)),aw,(((M.trans w).trans c).trans N)⟩
  ·obtain⟨aV,af,a⟩:=B0 a
   refine aI (T0 af (by first|rw[F2.length (F2.up (r:=g00.toRp) c m),F2.length (show F2 (g00.R E) ([[.int .i64 i,.int .i64 j]]:List (List Value)) [(i,j)] from⟨(H6 C D),trivial⟩)]|exact congrArg (·+1) (F2.length (F2.up (r:=g00.toRp) c m)))) ?_
   exact U1 n ⟨(IntKind.i64.wrap (g+1)),az,aA,U,Q.length,Z,Q,(p++([[.int .i64 i,.int .i64 j]]:List (List Value))),(f ++ [(i,j)]),rfl,rfl,(w.trans c),(F0 _),al,am,J,(F2.append (F2.up (r:=g00.toRp) c m) (show F2 (g00.R E) ([[.int .i64 i,.int .i64 j]]:List (List Value)) [(i,j)] from⟨(H6 C D),trivial⟩)),a⟩
 ·obtain rfl:=oJ a
  try dsimp only[Z0,D1]at b
  intro aY aK ae
  obtain⟨X,ac,rfl,ax,O,aQ⟩:=U0.out (r:=g00.toRp) ae m
  obtain rfl:=oJ b
  exact⟨([.int .i64 d,.int .i64 e,.slice k u8.length l]),X,f.length,ac,rfl,(J0 q s (P1.mono O o)),ax,((M.trans w).trans O)⟩
theorem d0d(h:Hp)(g:List Value)(m:j0)(A:w4.R h g m)(r:j0×Bool)(a:I9 m=some r):
  Tr Tryz.prog 87 #[.agg g.toArray] h λv h'=>∃(f:List Value),v = .tuple #[.agg f.toArray,.bool r.2]/\w4.R h' f r.1/\Sub h h':=by
 obtain⟨y,n,s,G,t,z,rfl,rfl,j,k,b⟩:=E1 A
 obtain⟨rfl,E⟩:=Sl.len b
 unfold I9 at a
 dsimp only at a
 refine T3 (args:=[.agg #[.int .i64 y,.int .i64 n,.slice s z.length t]]) (fn:=Tryz.f87) rfl ?_
 refine trM a (Z4 _ _ _ (J0 j k b)) ?_
 rintro J a I x ⟨D,rfl,o⟩
 have d:Sub h x:=o.sub
 have B:=o.r
 obtain⟨p,C,e,H,i,q,rfl,rfl,l,w,c⟩:=E1 B
 obtain⟨rfl,F⟩:=Sl.len c
 try dsimp only at a
 refine trV a (E6 _ _ _ (J0 j k (P1.mono d b))) λK a=>?_
 refine ifB a (λu a=>?_) λu a=>?_
 ·obtain rfl:=oJ a
  exact⟨([.int .i64 p,.int .i64 C,.slice e q.length i]),rfl,(J0 l w c),d⟩
 ·obtain rfl:=oJ a
  exact⟨([.int .i64 p,.int .i64 (IntKind.i64.wrap (n+1)),.slice e q.length i]),rfl,(J0 l (F0 _) c),d⟩
theorem u08(h:Hp)(j:List Value)(t:j0)(M:w4.R h j t)(k:List Value)(u:Q0)(N:D4.R h k u)(r:j0×Bool)(a:Z9 t u=some r):
  Tr Tryz.prog 88 #[.agg j.toArray,.agg k.toArray] h λv h'=>∃(i:List Value),v = .tuple #[.agg i.toArray,.bool r.2]/\New w4 h h' i r.1:=by
 obtain⟨G,H,y,Z,B,I,rfl,rfl,d,e,b⟩:=E1 M
 obtain⟨rfl,W⟩:=Sl.len b
 obtain⟨J,K,L,rfl,rfl,l,m,n⟩:=E4 N
 unfold Z9 at a
 dsimp only at a
 refine T3 (args:=[.agg #[.int .i64 G,.int .i64 H,.slice y I.length B],.agg #[.int .i64 J,.int .i64 K,.int .i64 L]]) (fn:=Tryz.f88) rfl ?_
 refine trM a (Z4 _ _ _ (J0 d e b)) ?_
 rintro af a ae s ⟨V,rfl,f⟩
 have c:Sub h s:=f.sub
 have O:=f.r
 obtain⟨w,x,z,aa,C,T,rfl,rfl,o,p,P⟩:=E1 O
 obtain⟨rfl,X⟩:=Sl.len P
 try dsimp only at a
 have S:=New.sndI (New.sndI (f))
 refine trV a (E6 _ _ _ (J0 d e (P1.mono c b))) λag a=>?_
 refine trG a (λq=>D09 _ _ _ (J0 d e (P1.mono c b)) _ _ (V2 l m n)) λah a=>?_
 refine ifB a (λE a=>?_) λE a=>?_
 ·obtain rfl:=oJ a
  exact⟨([.int .i64 w,.int .i64 x,.slice z T.length C]),rfl,(New.pair (New.int o) (New.pair (New.int p) S))⟩
 ·refine trM a (f01 _ _ _ _ _ (P1.mono c b) _ _ (V2 l m n)) ?_
  rintro U a ad F ⟨A,ab,D,rfl,g⟩
  have ac:Sub s F:=g.sub
  have Q:=g.r
  obtain⟨rfl,Y⟩:=Sl.len Q
  refine Or.inr (Or.inr (Or.inl (aI (aI (by kernel_rfl) (by kernel_rfl)) ?_)))
  refine Or.inr ?_
  refine Or.inl (eX 0 (aI (aI rfl rfl) ?_))
  refine aT ?_
  obtain rfl:=oJ a
  exact⟨([.int .i64 w,.int .i64 x,.slice A U.length D]),rfl,(New.pair (New.int o) (New.pair (New.int p) (New.from g c)))⟩
theorem g09(h:Hp)(F:List Value)(L:j0)(ae:w4.R h F L)(r:T2)(f:A8 L=some r):
  Tr Tryz.prog 86 #[.agg F.toArray] h λv h'=>∃(D:Option Addr) (K E:Nat),v = .slice D K E/\P1.R h' [.slice D K E] r/\Sub h h':=by
 obtain⟨n,o,O,aq,Q,p,rfl,rfl,w,H,y⟩:=E1 ae
 obtain⟨rfl,an⟩:=Sl.len y
 unfold A8 at f
 dsimp only at f
 refine T3 (args:=[.agg #[.int .i64 n,.int .i64 o,.slice O p.length Q]]) (fn:=Tryz.f86) rfl ?_
 obtain⟨B,X,f⟩:=B0 f
 refine eX { vars:=[4],boxes:=[],owns:=[0],fuel:=true } (eX (λvs os h'=>∃ c u i,vs.tail = [.int .i64 c]/\os = [u]/\Sub h h'/\H0 c/\F2 (D4.R h') u i/\C5 o n p (W1 vs) c i=some B) (eX (λ_ _=>0) (aI (eX W0 ⟨0,[],([]:T2),rfl,rfl,(Sub.refl _),(by decide),(show F2 (D4.R h) ([]:List (List Value)) ([]:T2) from trivial),X⟩) ?_)))
 rintro _ u s am ⟨c,aB,i,⟨⟩,⟨⟩,t,x,G,b⟩
 replace b:C5 o n p s c i=some B:=b
 obtain _|s:=s
 ·cases b
 rw[C5.eq_2]at b
 refine trG b (λq=>o00 _ _ _ (J0 w H (P1.mono t y))) λaz b=>?_
 refine ifB b (λab b=>?_) λab b=>?_
 ·refine trM b (B06 _ _ w) ?_
  rintro N b aw ad ⟨ah,ar,ai,rfl,z,A⟩
  obtain⟨rfl,ao⟩:=Sl.len z
  obtain⟨C,Y,b⟩:=B0 b
  refine eX { vars:=[6],boxes:=[],owns:=[0],fuel:=true } (eX (λvs os h'=>∃ d j e,vs.tail = [.int .i64 d]/\os = [j]/\Sub ad h'/\H0 d/\F2 (D4.R h') j e/\n4 N n o p c (W1 vs) d e=some C) (eX (λ_ _=>0) (aI (eX W0 ⟨0,u,i,rfl,rfl,(Sub.refl _),(by decide),(F2.up (r:=D4.toRp) A G),Y⟩) ?_)))
  rintro _ j m J ⟨d,aA,e,⟨⟩,⟨⟩,g,aj,l,a⟩
  replace a:n4 N n o p c m d e=some C:=a
  obtain _|m:=m
  ·cases a
  rw[n4.eq_2]at a
  refine ifB a (λZ a=>?_) λZ a=>?_
  ·refine Or.inl (aI (aI (by kernel_rfl) (by kernel_rfl)) ?_)
   refine ldI a (C0.mono g z) λay ac a=>?_
   obtain⟨M,W,a⟩:=B0 a
   refine eX (.int .i64 M) (aI (o03 _ _ _ (J0 w H (P1.mono ((t.trans A).trans g) y)) _ x _ ac _  W) ?_)
   obtain⟨au,U,a⟩:=B0 a
   have ak:H0 M:=C1 U
   refine ifB a (λaa a=>?_) λaa a=>?_
   ·refine ldI a (C0.mono g z) λk I a=>?_
    obtain⟨av,V,a⟩:=B0 a
    refine aI (T0 V (by first|rw[F2.length l,F2.length (show F2 (D4.R J) ([[.int .i64 c,.int .i64 k,.int .i64 (-1)]]:List (List Value)) [(c,k,(-1))] from⟨(V2 x I (by decide)),trivial⟩)]|exact congrArg (·+1) (F2.length l))) ?_
    exact U1 m ⟨(IntKind.i64.wrap (d+1)),(j++([[.int .i64 c,.int .i64 k,.int .i64 (-1)]]:List (List Value))),(e ++ [(c,k,(-1))]),rfl,rfl,g,(F0 _),(F2.append l (show F2 (D4.R J) ([[.int .i64 c,.int .i64 k,.int .i64 (-1)]]:List (List Value)) [(c,k,(-1))] from⟨(V2 x I (by decide)),trivial⟩)),a⟩
   ·exact U1 m ⟨(IntKind.i64.wrap (d+1)),j,e,rfl,rfl,g,(F0 _),l,a⟩
  ·obtain rfl:=oJ a
   try dsimp only[Z0,D1]at b
   exact U1 s ⟨(IntKind.i64.wrap (c+1)),j,e,rfl,rfl,((t.trans A).trans g),(F0 _),l,b⟩
 ·obtain rfl:=oJ b
  try dsimp only[Z0,D1]at f
  intro ax al T
  obtain⟨P,S,rfl,af,ag,ap⟩:=U0.out (r:=D4.toRp) T G
  obtain rfl:=oJ f
  exact⟨P,i.length,S,rfl,af,(t.trans ag)⟩
theorem l0a(h:Hp)(T:List Value)(ag:l0)(cm:Q1.R h T ag)(U:List Value)(ai:j0)(cn:w4.R h U ai)(r:j0×Bool×Bool)(a:a00 ag ai=some r):
  Tr Tryz.prog 65 #[.agg T.toArray,.agg U.toArray] h λv h'=>∃(S:List Value),v = .tuple #[.agg S.toArray,.bool r.2.1,.bool r.2.2]/\w4.R h' S r.1/\Sub h h':=by
 obtain⟨cj,N,e2,Q,ah,rfl,rfl,Z,C⟩:=I1 cm
 obtain⟨rfl,eK⟩:=Sl.len C
 obtain⟨ck,A,aJ,e3,a1,cl,rfl,rfl,k,f,i⟩:=E1 cn
 obtain⟨rfl,eL⟩:=Sl.len i
 unfold a00 at a
 dsimp only at a
 refine T3 (args:=[.agg #[.int .i64 cj,.slice N ah.length Q],.agg #[.int .i64 ck,.int .i64 A,.slice aJ cl.length a1]]) (fn:=Tryz.f65) rfl ?_
 refine trV a (I5 _ _ _ (M0 Z C)) λfJ a=>?_
 refine trG a (λq=>o00 _ _ _ (J0 k f i)) λfK a=>?_
 refine ifB a (λbt a=>?_) λbt a=>?_
 ·refine trM a (Z4 _ _ _ (J0 k f i)) ?_
  rintro fO a fE cb ⟨dN,rfl,aA⟩
  have cO:Sub h cb:=aA.sub
  have cq:=aA.r
  obtain⟨di,dj,aP,fc,a7,dk,rfl,rfl,bK,bL,aq⟩:=E1 cq
  obtain⟨rfl,eU⟩:=Sl.len aq
  try dsimp only at a
  obtain rfl:=oJ a
  exact⟨([.int .i64 di,.int .i64 dj,.slice aP dk.length a7]),rfl,(J0 bK bL aq),cO⟩
 ·obtain⟨dm,bq,a⟩:=B0 a
  obtain⟨dn,aH⟩:=dm
  try dsimp only at a
  refine Tr.val (i0a _ _ _ (M0 Z C) _ _ (J0 k f i) _  bq) ?_
  obtain⟨fi,bj,a⟩:=B0 a
  have ac:H0 dn:=C1 bj
  obtain⟨fj,bk,a⟩:=B0 a
  have en:H0 aH:=C1 bk
  refine ifB a (λbs a=>?_) λbs a=>?_
  ·refine Or.inr (Or.inr (Or.inr (Or.inr (eX 13 (aI (aI (by kernel_rfl) (by kernel_rfl)) ?_)))))
   obtain⟨cT,bl,a⟩:=B0 a
   obtain⟨aW,dJ,bd,F⟩:=Sl.getI (r:=C0.toRp) C bl (by decide)
   obtain⟨aK,e4,a2,rfl⟩:=Wp.slice_cell F
   obtain⟨rfl,eM⟩:=Sl.len F
   refine Or.inl (eX (.hel (.slice N ah.length Q) aH 1 0) (aI ?_ ?_))
   ·intro eq fl
    exact aI aW (aI rfl (aI rfl rfl))
   refine Or.inl (eX (.val (.slice aK cT.length a2)) (aI ?_ ?_))
   ·intro er cH
    exact eX _ (aI (Z7.up cH bd) (aI rfl (aI rfl rfl)))
   obtain⟨cU,bm,a⟩:=B0 a
   obtain⟨cV,M⟩:=cU
   try dsimp only at a
   obtain⟨p,s,d⟩:=cV
   try dsimp only at a
   refine Or.inr (eX (λv j=>∃(o:Value),v = .tuple #[o,.bool M]/\(λv j=>∃(b:Option Addr) (c:Nat),v = .agg #[.int .i64 p,.int .i64 s,.slice b d.length c]/\H0 p/\H0 s/\P1.R j [.slice b d.length c] d/\d.length<=9223372036854775807) o j) (aI (λv X Y n q=>by obtain⟨o,e,E⟩:=q;exact⟨o,e,(by obtain⟨b,c,e,y,z,f2,f3⟩:=E;exact⟨b,c,e,y,z,P1.mono n f2,f3⟩)⟩) (aI ?_ ?_)))
   ·intro es ay
    refine Tr.mono (s08 _ _ _ (J0 k f (P1.mono ay i)) _ ac _ _ _ _ (C0.mono ay F) _ ac _ bm) ?_
    rintro _ eJ ⟨dK,rfl,co,n⟩
    obtain⟨gl,gm,O,fh,V,gn,rfl,bi,bX,bY,ax⟩:=E1 co
    cases bi
    obtain⟨rfl,cg⟩:=Sl.len ax
    exact aI g01 (aI n ⟨(.agg #[.int .i64 p,.int .i64 s,.slice O d.length V]),rfl,⟨O,V,rfl,bX,bY,ax,cg⟩⟩)
   refine Or.inr (eX (λv j=>∃(o:Value),v = .tuple #[o,.bool M]/\(λv j=>∃(b:Option Addr) (c:Nat),v = .agg #[.int .i64 p,.int .i64 s,.slice b d.length c]/\H0 p/\H0 s/\P1.R j [.slice b d.length c] d/\d.length<=9223372036854775807) o j) (aI (λv X Y n q=>by obtain⟨o,e,E⟩:=q;exact⟨o,e,(by obtain⟨b,c,e,y,z,f2,f3⟩:=E;exact⟨b,c,e,y,z,P1.mono n f2,f3⟩)⟩) (aI ?_ ?_)))
   ·intro et fm
    rintro _ ⟨_,rfl,⟨P,W,rfl,bZ,b0,cD,ch⟩⟩
    exact aI g01 (aI (Sub.refl _) ⟨(.agg #[.int .i64 p,.int .i64 s,.slice P d.length W]),rfl,⟨P,W,rfl,bZ,b0,cD,ch⟩⟩)
   refine Or.inr (eX (λv j=>∃(b:Option Addr) (c:Nat),v = .agg #[.int .i64 p,.int .i64 s,.slice b d.length c]/\H0 p/\H0 s/\P1.R j [.slice b d.length c] d/\d.length<=9223372036854775807) (aI (λv X Y n q=>by obtain⟨b,c,e,y,z,f2,f3⟩:=q;exact⟨b,c,e,y,z,P1.mono n f2,f3⟩) (aI ?_ ?_)))
   ·intro eu fo
    rintro _ ⟨_,rfl,⟨aV,bc,rfl,b1,b2,cE,ci⟩⟩
    exact aI g01 (aI (Sub.refl _) ⟨aV,bc,rfl,b1,b2,cE,ci⟩)
   refine Or.inl (eX (.val (.bool M)) (aI ?_ ?_))
   ·intro ew fp
    rintro _ ⟨_,rfl,⟨dH,d3,rfl,eo,ep,fk,e0⟩⟩
    exact aI rfl (aI rfl rfl)
   intro b5 H
   rintro _ ⟨dI,ea,rfl,b3,b4,cG,e1⟩
   rintro _ _
   rintro _ _
   refine ifB a (λbu a=>?_) λbu a=>?_
   ·refine trM a (Z4 _ _ _ (J0 k f (P1.mono H i))) ?_
    rintro fL a fy b6 ⟨dL,rfl,az⟩
    have cM:Sub b5 b6:=az.sub
    have cp:=az.r
    obtain⟨cW,cX,aL,e5,a3,cY,rfl,rfl,bC,bD,aj⟩:=E1 cp
    obtain⟨rfl,eN⟩:=Sl.len aj
    try dsimp only at a
    obtain rfl:=oJ a
    exact⟨([.int .i64 cW,.int .i64 cX,.slice aL cY.length a3]),rfl,(J0 bC bD aj),(H.trans cM)⟩
   ·refine trM a (g05 _ _ _ (J0 b3 b4 cG)) ?_
    rintro cZ a fz ex ⟨dM,dF,e7,d1,rfl,ak,am,cN⟩
    obtain⟨fM,fN⟩:=cZ
    dsimp only at a ak am
    obtain⟨c0,c1,aM,e6,a4,c2,rfl,rfl,bE,bF,al⟩:=E1 ak
    obtain⟨rfl,eO⟩:=Sl.len al
    try dsimp only at a
    obtain⟨rfl,eP⟩:=Sl.len am
    obtain rfl:=oJ a
    exact⟨([.int .i64 c0,.int .i64 c1,.slice aM c2.length a4]),rfl,(J0 bE bF al),(H.trans cN)⟩
  ·refine trM a (g09 _ _ _ (J0 k f i)) ?_
   rintro x a fA b7 ⟨t,e8,u,rfl,w,m⟩
   obtain⟨rfl,eQ⟩:=Sl.len w
   refine ifB a (λbv a=>?_) λbv a=>?_
   ·refine trM a (Z4 _ _ _ (J0 k f (P1.mono m i))) ?_
    rintro fP a fB b8 ⟨dO,rfl,aB⟩
    have cP:Sub b7 b8:=aB.sub
    have cr:=aB.r
    obtain⟨c3,db,aN,e9,a5,dc,rfl,rfl,bG,bH,an⟩:=E1 cr
    obtain⟨rfl,eR⟩:=Sl.len an
    try dsimp only at a
    obtain rfl:=oJ a
    exact⟨([.int .i64 c3,.int .i64 db,.slice aN dc.length a5]),rfl,(J0 bG bH an),(m.trans cP)⟩
   ·refine trM a (d0d _ _ _ (J0 k f (P1.mono m i))) ?_
    rintro dd a fC ca ⟨dP,rfl,ao,g⟩
    obtain⟨fQ,fU⟩:=dd
    dsimp only at a ao
    obtain⟨fR,fS,dG,fa,d2,fT,rfl,rfl,aa,ab,G⟩:=E1 ao
    obtain⟨rfl,eS⟩:=Sl.len G
    try dsimp only at a
    refine ifB a (λbx a=>?_) λbx a=>?_
    ·refine trM a (Z4 _ _ _ (J0 k f (P1.mono (m.trans g) i))) ?_
     rintro fV a fD cd ⟨dQ,rfl,aC⟩
     have cQ:Sub ca cd:=aC.sub
     have cs:=aC.r
     obtain⟨df,dg,aO,fb,a6,dh,rfl,rfl,bI,bJ,ap⟩:=E1 cs
     obtain⟨rfl,eT⟩:=Sl.len ap
     try dsimp only at a
     obtain rfl:=oJ a
     exact⟨([.int .i64 df,.int .i64 dg,.slice aO dh.length a6]),rfl,(J0 bI bJ ap),((m.trans g).trans cQ)⟩
    ·refine Or.inr (Or.inr (Or.inr (Or.inr (eX 12 (aI (aI (by kernel_rfl) (by kernel_rfl)) ?_)))))
     obtain⟨fW,bn,a⟩:=B0 a
     obtain⟨aX,dR,be,ct⟩:=Sl.getI (r:=D4.toRp) (P1.mono g w) bn (by decide)
     obtain⟨aF,fX,fY,rfl,rfl,bM,eb,ec⟩:=E4 ct
     try dsimp only at a
     refine Or.inl (eX (.hel (.slice t x.length u) 0 3 0) (aI ?_ ?_))
     ·intro ey fq
      exact aI aX (aI rfl (aI rfl rfl))
     refine Or.inl (eX (.val (.int .i64 aF)) (aI ?_ ?_))
     ·intro ez cI
      exact eX _ (aI (Z7.up cI be) (aI rfl (aI rfl rfl)))
     obtain⟨fZ,bo,a⟩:=B0 a
     obtain⟨aY,dS,bf,cu⟩:=Sl.getI (r:=D4.toRp) (P1.mono g w) bo (by decide)
     obtain⟨f0,aG,f1,rfl,rfl,ed,bN,ee⟩:=E4 cu
     try dsimp only at a
     refine Or.inl (eX (.hel (.slice t x.length u) 0 3 0) (aI ?_ ?_))
     ·intro eA fs
      exact aI aY (aI rfl (aI rfl rfl))
     refine Or.inl (eX (.val (.int .i64 aG)) (aI ?_ ?_))
     ·intro eB cJ
      exact eX _ (aI (Z7.up cJ bf) (aI rfl (aI rfl rfl)))
     refine Or.inl (eX (.agg [.val (.int .i64 aF),.val (.int .i64 aG),.val (.int .i64 A)]) (aI ?_ ?_))
     ·intro eC ft
      exact aI rfl (aI rfl rfl)
     intro ad l
     refine ld a (P1.mono (g.trans l) w) λf4 dT cv a=>?_
     obtain⟨f5,f6,f7,rfl,rfl,ef,eg,eh⟩:=E4 cv
     try dsimp only at a
     refine ifB a (λbz a=>?_) λbz a=>?_
     ·refine Or.inr (Or.inr (Or.inl (aI (aI (by kernel_rfl) (by kernel_rfl)) ?_)))
      obtain⟨f8,bp,a⟩:=B0 a
      obtain⟨aZ,dU,bg,cw⟩:=Sl.getI (r:=D4.toRp) (P1.mono (g.trans l) w) bp (by decide)
      obtain⟨f9,B,ga,rfl,rfl,ei,ej,ek⟩:=E4 cw
      try dsimp only at a
      refine Or.inl (eX (.hel (.slice t x.length u) 0 3 0) (aI ?_ ?_))
      ·intro eD fu
       exact aI aZ (aI rfl (aI rfl rfl))
      refine Or.inl (eX (.hel (.slice t x.length u) 0 3 1) (aI ?_ ?_))
      ·intro j n
       exact aI rfl (aI rfl rfl)
      refine Or.inl (eX (.val (.int .i64 B)) (aI ?_ ?_))
      ·intro eE cK
       exact eX _ (aI (Z7.up cK bg) (aI rfl (aI rfl rfl)))
      refine Or.inl (eX (.val (.int .i64 (IntKind.i64.wrap (0-B)))) (aI ?_ ?_))
      ·intro eF fv
       exact aI rfl (aI rfl rfl)
      obtain⟨gb,br,a⟩:=B0 a
      obtain⟨a0,dV,bh,cx⟩:=Sl.getI (r:=D4.toRp) (P1.mono (g.trans l) w) br (by decide)
      obtain⟨D,gc,gd,rfl,rfl,bO,el,em⟩:=E4 cx
      try dsimp only at a
      refine Or.inl (eX (.hel (.slice t x.length u) 0 3 0) (aI ?_ ?_))
      ·intro eG fw
       exact aI a0 (aI rfl (aI rfl rfl))
      refine Or.inl (eX (.hel (.slice t x.length u) 0 3 0) (aI ?_ ?_))
      ·intro j n
       exact aI rfl (aI rfl rfl)
      refine Or.inl (eX (.val (.int .i64 D)) (aI ?_ ?_))
      ·intro eH cL
       exact eX _ (aI (Z7.up cL bh) (aI rfl (aI rfl rfl)))
      refine Or.inl (eX (.agg [.val (.int .i64 A),.val (.int .i64 (IntKind.i64.wrap (0-B))),.val (.int .i64 D)]) (aI ?_ ?_))
      ·intro eI fx
       exact aI rfl (aI rfl rfl)
      refine Or.inr ?_
      refine Or.inl (eX 0 (aI (aI rfl rfl) ?_))
      refine aT ?_
      refine trM a (u08 _ _ _ (J0 aa ab (P1.mono l G)) [.int .i64 A,.int .i64 (IntKind.i64.wrap (0-B)),.int .i64 D] (A,(IntKind.i64.wrap (0-B)),D) (V2 f (F0 _) bO)) ?_
      rintro dq a fF ae ⟨dW,rfl,K⟩
      obtain⟨ge,gf⟩:=dq
      dsimp only at a K
      have I:Sub ad ae:=K.sub
      have cy:=K.r
      obtain⟨ds,dt,aQ,fd,a8,du,rfl,rfl,bP,bQ,ar⟩:=E1 cy
      obtain⟨rfl,eV⟩:=Sl.len ar
      try dsimp only at a
      refine ifB a (λbA a=>?_) λbA a=>?_
      ·refine trM a (Z4 _ _ _ (J0 k f (P1.mono (((m.trans g).trans l).trans I) i))) ?_
       rintro gg a fG ce ⟨dX,rfl,aD⟩
       have cR:Sub ae ce:=aD.sub
       have cz:=aD.r
       obtain⟨dv,dw,aR,fe,a9,dx,rfl,rfl,bR,bS,au⟩:=E1 cz
       obtain⟨rfl,eW⟩:=Sl.len au
       try dsimp only at a
       obtain rfl:=oJ a
       exact⟨([.int .i64 dv,.int .i64 dw,.slice aR dx.length a9]),rfl,(J0 bR bS au),((((m.trans g).trans l).trans I).trans cR)⟩
      ·obtain rfl:=oJ a
       exact⟨([.int .i64 ds,.int .i64 dt,.slice aQ du.length a8]),rfl,(J0 bP bQ ar),(((m.trans g).trans l).trans I)⟩
     ·refine trM a (u08 _ _ _ (J0 aa ab (P1.mono l G)) _ _ (V2 bM bN f)) ?_
      rintro dy a fH af ⟨dY,rfl,L⟩
      obtain⟨gh,gj⟩:=dy
      dsimp only at a L
      have J:Sub ad af:=L.sub
      have cA:=L.r
      obtain⟨dz,dA,aS,ff,ba,dB,rfl,rfl,bT,bU,av⟩:=E1 cA
      obtain⟨rfl,eY⟩:=Sl.len av
      try dsimp only at a
      refine ifB a (λbB a=>?_) λbB a=>?_
      ·refine trM a (Z4 _ _ _ (J0 k f (P1.mono (((m.trans g).trans l).trans J) i))) ?_
       rintro gk a fI cf ⟨dZ,rfl,aE⟩
       have cS:Sub af cf:=aE.sub
       have cC:=aE.r
       obtain⟨dC,dD,aU,fg,bb,dE,rfl,rfl,bV,bW,aw⟩:=E1 cC
       obtain⟨rfl,eZ⟩:=Sl.len aw
       try dsimp only at a
       obtain rfl:=oJ a
       exact⟨([.int .i64 dC,.int .i64 dD,.slice aU dE.length bb]),rfl,(J0 bV bW aw),((((m.trans g).trans l).trans J).trans cS)⟩
      ·obtain rfl:=oJ a
       exact⟨([.int .i64 dz,.int .i64 dA,.slice aS dB.length ba]),rfl,(J0 bT bU av),(((m.trans g).trans l).trans J)⟩
theorem e0d(h:Hp)(ai:List Value)(an:j0)(a4:w4.R h ai an)(r:j0×D0)(c:O00 an=some r):
  Tr Tryz.prog 89 #[.agg ai.toArray] h λv h'=>∃(ah:List Value) (af:Option Addr) (am ag:Nat),v = .tuple #[.agg ah.toArray,.slice af am ag]/\w4.R h' ah r.1/\C0.R h' [.slice af am ag] r.2/\Sub h h':=by
 obtain⟨A,B,az,bx,aE,C,rfl,rfl,T,U,N⟩:=E1 a4
 obtain⟨rfl,bo⟩:=Sl.len N
 unfold O00 at c
 dsimp only at c
 refine T3 (args:=[.agg #[.int .i64 A,.int .i64 B,.slice az C.length aE]]) (fn:=Tryz.f89) rfl ?_
 refine trM c (Z4 _ _ _ (J0 T U N)) ?_
 rintro bK c bG V ⟨bf,rfl,aw⟩
 have Q:Sub h V:=aw.sub
 have a5:=aw.r
 obtain⟨a9,ba,aA,bz,aF,ax,rfl,rfl,a0,a1,ao⟩:=E1 a5
 obtain⟨rfl,br⟩:=Sl.len ao
 try dsimp only at c
 obtain⟨ae,aU,c⟩:=B0 c
 refine eX { vars:=[6],boxes:=[],owns:=[0],fuel:=true } (eX (λvs os h'=>∃ e S k,vs.tail = [.int .i64 e]/\os = [S]/\Sub V h'/\H0 e/\F2 (Wp.int.R h') S k/\w6 B A C (W1 vs) e k=some ae) (eX (λ_ _=>0) (aI (eX W0 ⟨0,[],([]:D0),rfl,rfl,(Sub.refl _),(by decide),(show F2 (Wp.int.R V) ([]:List (List Value)) ([]:D0) from trivial),aU⟩) ?_)))
 rintro _ S M X ⟨e,bR,k,⟨⟩,⟨⟩,l,ak,H,a⟩
 replace a:w6 B A C M e k=some ae:=a
 obtain _|M:=M
 ·cases a
 rw[w6.eq_2]at a
 refine trG a (λq=>E6 _ _ _ (J0 T U (P1.mono (Q.trans l) N))) λbO a=>?_
 refine ifB a (λaV a=>?_) λaV a=>?_
 ·obtain⟨bB,aN,a⟩:=B0 a
  refine aI (T0 aN (by first|rw[F2.length H,F2.length (show F2 (Wp.int.R X) ([[.int .i64 e]]:List (List Value)) [e] from⟨⟨rfl,ak⟩,trivial⟩)]|exact congrArg (·+1) (F2.length H))) ?_
  exact U1 M ⟨(IntKind.i64.wrap (e+1)),(S++([[.int .i64 e]]:List (List Value))),(k ++ [e]),rfl,rfl,l,(F0 _),(F2.append H (show F2 (Wp.int.R X) ([[.int .i64 e]]:List (List Value)) [e] from⟨⟨rfl,ak⟩,trivial⟩)),a⟩
 ·obtain rfl:=oJ a
  try dsimp only[Z0,D1]at c
  obtain⟨ac,aR,c⟩:=B0 c
  refine eX { vars:=[5,7],boxes:=[2],owns:=[],fuel:=true,pubs:=[5] } (eX (λvs os h'=>∃(s:Option Addr) (Y u:Nat) (g:D0) (m:Int) (j:Int) (f:Int) (t:Option Addr) (Z w:Nat) (n:T2),vs.tail = [.slice s Y u,.int .i64 m,.int .i64 j,.int .i64 f,.slice t Z w]/\os = []/\Sub X h'/\C0.R h' [.slice s Y u] g/\H0 m/\H0 j/\H0 f/\P1.R h' [.slice t Z w] n/\t6 A B C (W1 vs) g m j f n=some ac) (eX (λ_ _=>0) ?_))
  intro bF bk aK
  obtain⟨aC,aH,rfl,a6,au,bt⟩:=U0.out (r:=Wp.int.toRp) aK H
  refine aI (eX W0 ⟨aC,k.length,aH,k,0,a9,ba,aA,ax.length,aF,ax,rfl,rfl,au,a6,(by decide),a0,a1,(P1.mono (l.trans au) ao),aR⟩) ?_
  rintro _ _ _ _ _ L W ⟨s,Y,u,g,m,j,f,t,Z,w,n,⟨⟩,⟨⟩,P,O,bi,I,J,D,a⟩
  replace a:t6 A B C L g m j f n=some ac:=a
  obtain _|L:=L
  ·cases a
  rw[t6.eq_2]at a
  obtain⟨rfl,bp⟩:=Sl.len O
  obtain⟨rfl,bq⟩:=Sl.len D
  refine trG a (λq=>E6 _ _ _ (J0 T U (P1.mono ((Q.trans l).trans P) N))) λbL a=>?_
  refine ifB a (λaW a=>?_) λaW a=>?_
  ·refine trV a (E09 _ _ _ (J0 I J D)) λab a=>?_
   obtain⟨bC,aO,a⟩:=B0 a
   have bj:H0 ab:=C1 aO
   refine ifB a (λaX a=>?_) λaX a=>?_
   ·obtain rfl:=oJ a
    try dsimp only[P2,Q2]at c
    obtain rfl:=oJ c
    exact⟨([.int .i64 j,.int .i64 f,.slice t n.length w]),s,g.length,u,rfl,(J0 I J D),O,((Q.trans l).trans P)⟩
   ·obtain⟨ad,aS,a⟩:=B0 a
    refine eX { vars:=[11],boxes:=[],owns:=[1,2],fuel:=true } (eX (λvs os h'=>∃ d F o G i,vs.tail = [.int .i64 d]/\os = [F,G]/\Sub W h'/\H0 d/\F2 (Wp.int.R h') F o/\F2 (Wp.int.R h') G i/\U5 f ab g (W1 vs) d o i=some ad) (eX (λ_ _=>0) (aI (eX W0 ⟨0,[],([]:D0),[],([]:D0),rfl,rfl,(Sub.refl _),(by decide),(show F2 (Wp.int.R W) ([]:List (List Value)) ([]:D0) from trivial),(show F2 (Wp.int.R W) ([]:List (List Value)) ([]:D0) from trivial),aS⟩) ?_)))
    rintro _ F G z K ⟨d,bP,o,bQ,i,⟨⟩,⟨⟩,E,aj,x,y,b⟩
    replace b:U5 f ab g z d o i=some ad:=b
    obtain _|z:=z
    ·cases b
    rw[U5.eq_2]at b
    refine ifB b (λaY b=>?_) λaY b=>?_
    ·refine ifB b (λaZ b=>?_) λaZ b=>?_
     ·obtain⟨bD,aP,b⟩:=B0 b
      refine aI (T0 aP (by first|rw[F2.length x,F2.length (show F2 (Wp.int.R K) ([[.int .i64 d]]:List (List Value)) [d] from⟨⟨rfl,aj⟩,trivial⟩)]|exact congrArg (·+1) (F2.length x))) ?_
      refine ldI b (C0.mono E O) λp al b=>?_
      obtain⟨bE,aQ,b⟩:=B0 b
      refine aI (T0 aQ (by first|rw[F2.length y,F2.length (show F2 (Wp.int.R K) ([[.int .i64 p]]:List (List Value)) [p] from⟨⟨rfl,al⟩,trivial⟩)]|exact congrArg (·+1) (F2.length y))) ?_
      exact U1 z ⟨(IntKind.i64.wrap (d+1)),(F++([[.int .i64 d]]:List (List Value))),(o ++ [d]),(G++([[.int .i64 p]]:List (List Value))),(i ++ [p]),rfl,rfl,E,(F0 _),(F2.append x (show F2 (Wp.int.R K) ([[.int .i64 d]]:List (List Value)) [d] from⟨⟨rfl,aj⟩,trivial⟩)),(F2.append y (show F2 (Wp.int.R K) ([[.int .i64 p]]:List (List Value)) [p] from⟨⟨rfl,al⟩,trivial⟩)),b⟩
     ·exact U1 z ⟨(IntKind.i64.wrap (d+1)),F,o,G,i,rfl,rfl,E,(F0 _),x,y,b⟩
    ·obtain rfl:=oJ b
     try dsimp only[Z0,D1]at a
     refine Or.inl ?_
     intro bH bl aL
     obtain⟨be,bh,rfl,a7,aa,bu⟩:=U0.out (r:=Wp.int.toRp) aL x
     refine trM a (b04 _ _ _ (J0 I J (P1.mono (E.trans aa) D)) _ _ _ _ a7) ?_
     rintro bb a bI bm ⟨bg,rfl,ap,ar⟩
     obtain⟨bM,bN⟩:=bb
     dsimp only at a ap
     obtain⟨bc,bd,aB,bA,aG,ay,rfl,rfl,a2,a3,aq⟩:=E1 ap
     obtain⟨rfl,bs⟩:=Sl.len aq
     try dsimp only at a
     intro bJ bn aM
     obtain⟨aD,aJ,rfl,a8,av,bv⟩:=U0.out (r:=Wp.int.toRp) aM (F2.up (r:=Wp.int.toRp) (aa.trans ar) y)
     exact U1 L ⟨aD,i.length,aJ,i,(IntKind.i64.wrap (m+1)),bc,bd,aB,ay.length,aG,ay,rfl,rfl,((((P.trans E).trans aa).trans ar).trans av),a8,(F0 _),a2,a3,(P1.mono av aq),a⟩
  ·obtain rfl:=oJ a
   try dsimp only[Z0,D1]at c
   obtain rfl:=oJ c
   exact⟨([.int .i64 j,.int .i64 f,.slice t n.length w]),s,g.length,u,rfl,(J0 I J D),O,((Q.trans l).trans P)⟩
theorem f0d(h:Hp)(c:List Value)(d:j0)(E:w4.R h c d)(r:j0)(a:J9 d=some r):
  Tr Tryz.prog 66 #[.agg c.toArray] h λv h'=>∃(b:List Value),v = .agg b.toArray/\w4.R h' b r/\Sub h h':=by
 obtain⟨B,C,n,aj,p,D,rfl,rfl,s,t,e⟩:=E1 E
 obtain⟨rfl,ad⟩:=Sl.len e
 unfold J9 at a
 dsimp only at a
 refine T3 (args:=[.agg #[.int .i64 B,.int .i64 C,.slice n D.length p]]) (fn:=Tryz.f66) rfl ?_
 refine trM a (g05 _ _ _ (J0 s t e)) ?_
 rintro J a ap aa ⟨T,P,al,X,rfl,f,i,G⟩
 obtain⟨au,ay⟩:=J
 dsimp only at a f i
 obtain⟨av,aw,O,ak,W,ax,rfl,rfl,u,w,g⟩:=E1 f
 obtain⟨rfl,ae⟩:=Sl.len g
 try dsimp only at a
 obtain⟨rfl,af⟩:=Sl.len i
 refine trM a (e0d _ _ _ (J0 u w g)) ?_
 rintro K a aq ab ⟨U,S,an,Z,rfl,j,l,H⟩
 obtain⟨az,aD⟩:=K
 dsimp only at a j l
 obtain⟨aA,aB,Q,am,Y,aC,rfl,rfl,x,y,k⟩:=E1 j
 obtain⟨rfl,ag⟩:=Sl.len k
 try dsimp only at a
 obtain⟨rfl,ah⟩:=Sl.len l
 refine trM a (u03 _ _ _ (J0 x y k)) ?_
 rintro aE a ar ac ⟨V,rfl,F,I⟩
 obtain⟨L,M,o,ao,q,N,rfl,rfl,z,A,m⟩:=E1 F
 obtain⟨rfl,ai⟩:=Sl.len m
 try dsimp only at a
 obtain rfl:=oJ a
 exact⟨([.int .i64 L,.int .i64 M,.slice o N.length q]),rfl,(J0 z A m),((G.trans H).trans I)⟩
theorem l07(h:Hp)(C:List Value)(G:l0)(au:Q1.R h C G)(l:Option Addr)(F n:Nat)(w:L1)(H:K1.R h [.slice l F n] w)(r:j0×Bool)(a:o8 G w=some r):
  Tr Tryz.prog 45 #[.agg C.toArray,.slice l F n] h λv h'=>∃(B:List Value),v = .tuple #[.agg B.toArray,.bool r.2]/\w4.R h' B r.1/\Sub h h':=by
 obtain⟨t,T,a1,X,u,rfl,rfl,p,x⟩:=I1 au
 obtain⟨rfl,aS⟩:=Sl.len x
 obtain⟨rfl,aU⟩:=Sl.len H
 unfold o8 at a
 dsimp only at a
 refine T3 (args:=[.agg #[.int .i64 t,.slice T u.length X],.slice l w.length n]) (fn:=Tryz.f45) rfl ?_
 refine trM a (d0e _ _ p _ _ _ _ H) ?_
 rintro ax a a9 aq ⟨aL,rfl,K,c⟩
 obtain⟨be,bi⟩:=ax
 dsimp only at a K
 obtain⟨bf,bg,aH,a3,aO,bh,rfl,rfl,ai,aj,L⟩:=E1 K
 obtain⟨rfl,aX⟩:=Sl.len L
 try dsimp only at a
 refine trG a (λq=>I5 _ _ _ (M0 p (K1.mono c x))) λbk a=>?_
 refine ifB a (λaf a=>?_) λaf a=>?_
 ·obtain rfl:=oJ a
  exact⟨([.int .i64 0,.int .i64 0,.slice none 0 0]),rfl,(J0 (by decide) (by decide) (d0j D4 aq)),c⟩
 ·refine trM a (g05 _ _ _ (J0 ai aj L)) ?_
  rintro aE a ba ar ⟨aN,aJ,a6,aP,rfl,N,P,j⟩
  obtain⟨bl,bm⟩:=aE
  dsimp only at a N P
  obtain⟨aF,aG,W,a5,aa,S,rfl,rfl,am,an,O⟩:=E1 N
  obtain⟨rfl,aZ⟩:=Sl.len O
  try dsimp only at a
  obtain⟨rfl,a0⟩:=Sl.len P
  obtain⟨A,ab,a⟩:=B0 a
  refine eX { vars:=[10],boxes:=[3],owns:=[],fuel:=true } (eX (λvs os h'=>∃ d f g m s o k,vs.tail = [.int .i64 d,.int .i64 f,.int .i64 g,.slice m s o]/\os = []/\Sub ar h'/\H0 d/\H0 f/\H0 g/\P1.R h' [.slice m s o] k/\W3 t u (W1 vs) d f g k=some A) (eX (λ_ _=>0) (aI (eX W0 ⟨0,aF,aG,W,S.length,aa,S,rfl,rfl,(Sub.refl _),(by decide),am,an,O,ab⟩) ?_)))
  rintro _ _ _ _ i ao ⟨d,f,g,m,s,o,k,⟨⟩,⟨⟩,e,aQ,ag,ah,I,b⟩
  replace b:W3 t u i d f g k=some A:=b
  obtain _|i:=i
  ·cases b
  rw[W3.eq_2]at b
  obtain⟨rfl,aV⟩:=Sl.len I
  refine ifB b (λac b=>?_) λac b=>?_
  ·refine trM b (l0a _ _ _ (M0 p (K1.mono ((c.trans j).trans e) x)) _ _ (J0 ag ah I)) ?_
   rintro ay b a7 ap ⟨aK,rfl,J,z⟩
   obtain⟨bb,bc,bd⟩:=ay
   dsimp only at b J
   obtain⟨az,aA,U,a2,Y,Q,rfl,rfl,D,E,y⟩:=E1 J
   obtain⟨rfl,aW⟩:=Sl.len y
   try dsimp only at b
   refine ifB b (λad b=>?_) λad b=>?_
   ·obtain rfl:=oJ b
    try dsimp only[P2,Q2]at a
    obtain rfl:=oJ a
    exact⟨([.int .i64 0,.int .i64 0,.slice none 0 0]),rfl,(J0 (by decide) (by decide) (d0j D4 ap)),(((c.trans j).trans e).trans z)⟩
   ·refine ifB b (λae b=>?_) λae b=>?_
    ·refine trM b (f0d _ _ _ (J0 D E y)) ?_
     rintro bj b a8 aR ⟨aM,rfl,av,aw⟩
     obtain⟨aB,aC,V,a4,Z,aD,rfl,rfl,ak,al,M⟩:=E1 av
     obtain⟨rfl,aY⟩:=Sl.len M
     try dsimp only at b
     obtain rfl:=oJ b
     try dsimp only[P2,Q2]at a
     obtain rfl:=oJ a
     exact⟨([.int .i64 aB,.int .i64 aC,.slice V aD.length Z]),rfl,(J0 ak al M),((((c.trans j).trans e).trans z).trans aw)⟩
    ·exact U1 i ⟨(IntKind.i64.wrap (d+1)),az,aA,U,Q.length,Y,Q,rfl,rfl,(e.trans z),(F0 _),D,E,y,b⟩
  ·obtain rfl:=oJ b
   try dsimp only[Z0,D1]at a
   obtain rfl:=oJ a
   exact⟨([.int .i64 0,.int .i64 0,.slice none 0 0]),rfl,(J0 (by decide) (by decide) (d0j D4 ao)),((c.trans j).trans e)⟩
theorem f0e(h:Hp)(n:List Value)(t:j0)(L:w4.R h n t)(f:Option Addr)(s g:Nat)(i:D0)(u:C0.R h [.slice f s g] i)(r:Bool)(b:l00 t i=some r):
  Tr Tryz.prog 46 #[.agg n.toArray,.slice f s g] h λv h'=>v = .bool r/\h'=h:=by
 obtain⟨I,J,z,ai,B,K,rfl,rfl,o,p,j⟩:=E1 L
 obtain⟨rfl,ae⟩:=Sl.len j
 obtain⟨rfl,af⟩:=Sl.len u
 unfold l00 at b
 dsimp only at b
 refine Tr.forget (T3 (args:=[.agg #[.int .i64 I,.int .i64 J,.slice z K.length B],.slice f i.length g]) (fn:=Tryz.f46) rfl ?_)
 refine Or.inr (Or.inr (Or.inr (Or.inl (aI (aI (by kernel_rfl) (by kernel_rfl)) ?_))))
 obtain⟨d,E,b⟩:=B0 b
 refine Or.inr (eX (λv G=>∃(a:Option Addr) (c:Nat),v = .slice a d.length c/\C0.R G [.slice a d.length c] d/\d.length<=9223372036854775807) (aI (λv V W k q=>by obtain⟨a,c,e,r,l⟩:=q;exact⟨a,c,e,C0.mono k r,l⟩) (aI ?_ ?_)))
 ·intro aa N
  refine Tr.mono (C6 _ _ _ _ _ (C0.mono N u) _ E) ?_
  rintro _ ad ⟨A,aj,C,rfl,w,k⟩
  obtain⟨rfl,H⟩:=Sl.len w
  exact aI g01 (aI k ⟨A,C,rfl,w,H⟩)
 obtain⟨P,F,b⟩:=B0 b
 obtain⟨m,y⟩:=P
 try dsimp only at b
 obtain⟨ak,D,b⟩:=B0 b
 have X:H0 m:=C1 D
 refine Or.inl (eX (.val (.tuple #[.int .i64 m,.bool y])) (aI ?_ ?_))
 ·intro ab O
  rintro _ ⟨S,U,rfl,M,ah⟩
  exact Tr.val (u07 _ _ _ (J0 o p (P1.mono O j)) 0 (by decide) _ _ _ _ M _ F) (aI rfl (aI rfl rfl))
 refine Or.inl (eX (.val (.int .i64 m)) (aI ?_ ?_))
 ·intro ac am
  exact aI rfl (aI rfl rfl)
 refine Or.inl (eX (.val (.bool y)) (aI ?_ ?_))
 ·intro Y an
  exact aI rfl (aI rfl rfl)
 intro Z x
 rintro _ ⟨Q,T,rfl,al,ag⟩
 refine trV b (M0b _ _ _ (J0 o p (P1.mono x j))) λao b=>?_
 obtain rfl:=oJ b
 exact aI rfl x
theorem F02(h:Hp)(i:List Value)(l:l0)(z:Q1.R h i l)(d:Option Addr)(k e:Nat)(f:D0)(g:C0.R h [.slice d k e] f)(r:Bool×Bool)(a:A7 l f=some r):
  Tr Tryz.prog 14 #[.agg i.toArray,.slice d k e] h λv h'=>v = .tuple #[.bool r.1,.bool r.2]/\h'=h:=by
 obtain⟨x,p,N,s,y,rfl,rfl,j,m⟩:=I1 z
 obtain⟨rfl,J⟩:=Sl.len m
 obtain⟨rfl,K⟩:=Sl.len g
 unfold A7 at a
 dsimp only at a
 refine Tr.forget (T3 (args:=[.agg #[.int .i64 x,.slice p y.length s],.slice d f.length e]) (fn:=Tryz.f14) rfl ?_)
 refine Or.inl ?_
 intro P H f3
 obtain⟨D,G,rfl,A,b,M⟩:=U0.out (r:=C0.toRp) f3 (show F2 (C0.R h) ([]:List (List Value)) ([]:L1) from trivial)
 refine trM a (l07 _ _ _ (M0 j (K1.mono b m)) _ _ _ _ A) ?_
 rintro B a Q I ⟨E,rfl,n,c⟩
 obtain⟨T,X⟩:=B
 dsimp only at a n
 obtain⟨U,V,C,O,F,W,rfl,rfl,u,w,o⟩:=E1 n
 obtain⟨rfl,L⟩:=Sl.len o
 try dsimp only at a
 refine trG a (λq=>t02 _ _ j _ _ _ _ (C0.mono (b.trans c) g)) λY a=>?_
 refine ifB a (λt a=>?_) λt a=>?_
 ·obtain rfl:=oJ a
  exact aI rfl (b.trans c)
 ·refine trV a (f0e _ _ _ (J0 u w o) _ _ _ _ (C0.mono (b.trans c) g)) λS a=>?_
  obtain rfl:=oJ a
  exact aI rfl (b.trans c)
theorem G02(h:Hp)(k:Option Addr)(u l:Nat)(b:D0)(w:C0.R h [.slice k u l] b)(r:D0)(g:S3 b=some r):
  Tr Tryz.prog 37 #[.slice k u l] h λv h'=>∃(o:Option Addr) (t p:Nat),v = .slice o t p/\New C0 h h' [.slice o t p] r:=by
 obtain⟨rfl,F⟩:=Sl.len w
 unfold S3 at g
 refine T3 (args:=[.slice k b.length l]) (fn:=Tryz.f37) rfl ?_
 obtain⟨n,A,g⟩:=B0 g
 refine eX { vars:=[4],boxes:=[],owns:=[0],fuel:=true } (eX (λvs os h'=>∃ c j d,vs.tail = [.int .i64 c]/\os = [j]/\Sub h h'/\H0 c/\F2 (Wp.int.R h') j d/\O3 b (W1 vs) c d=some n) (eX (λ_ _=>0) (aI (eX W0 ⟨(IntKind.i64.wrap (((b.length:Nat):Int)-1)),[],([]:D0),rfl,rfl,(Sub.refl _),(F0 _),(show F2 (Wp.int.R h) ([]:List (List Value)) ([]:D0) from trivial),A⟩) ?_)))
 rintro _ j i s ⟨c,L,d,⟨⟩,⟨⟩,m,C,f,a⟩
 replace a:O3 b i c d=some n:=a
 obtain _|i:=i
 ·cases a
 rw[O3.eq_2]at a
 refine ifB a (λB a=>?_) λB a=>?_
 ·refine ldI a (C0.mono m w) λe D a=>?_
  obtain⟨H,z,a⟩:=B0 a
  refine aI (T0 z (by first|rw[F2.length f,F2.length (show F2 (Wp.int.R s) ([[.int .i64 (IntKind.i64.wrap (0-e))]]:List (List Value)) [(IntKind.i64.wrap (0-e))] from⟨⟨rfl,(F0 _)⟩,trivial⟩)]|exact congrArg (·+1) (F2.length f))) ?_
  exact U1 i ⟨(IntKind.i64.wrap (c-1)),(j++([[.int .i64 (IntKind.i64.wrap (0-e))]]:List (List Value))),(d ++ [(IntKind.i64.wrap (0-e))]),rfl,rfl,m,(F0 _),(F2.append f (show F2 (Wp.int.R s) ([[.int .i64 (IntKind.i64.wrap (0-e))]]:List (List Value)) [(IntKind.i64.wrap (0-e))] from⟨⟨rfl,(F0 _)⟩,trivial⟩)),a⟩
 ·obtain rfl:=oJ a
  try dsimp only[Z0,D1]at g
  intro K E q
  obtain⟨x,y,rfl,I,J,G⟩:=U0.out (r:=Wp.int.toRp) q f
  obtain rfl:=oJ g
  exact⟨x,d.length,y,rfl,(New.from (U0.newPlain (r:=Wp.int) q f (U04 _)) m)⟩
theorem M8(h:Hp)(n:Option Addr)(A o:Nat)(l:D0)(m:C0.R h [.slice n A o] l)(r:D0)(e:T1 l=some r):
  Tr Tryz.prog 18 #[.slice n A o] h λv h'=>∃(s:Option Addr) (z t:Nat),v = .slice s z t/\New C0 h h' [.slice s z t] r:=by
 obtain⟨rfl,aa⟩:=Sl.len m
 unfold T1 at e
 refine T3 (args:=[.slice n l.length o]) (fn:=Tryz.f18) rfl ?_
 obtain⟨p,J,e⟩:=B0 e
 refine eX { vars:=[4],boxes:=[],owns:=[0],fuel:=true } (eX (λvs os h'=>∃ g c i,vs.tail = [.int .i64 g]/\os = [c]/\Sub h h'/\H0 g/\F2 (Wp.int.R h') c i/\C3 l (W1 vs) g i=some p) (eX (λ_ _=>0) (aI (eX W0 ⟨0,[],([]:D0),rfl,rfl,(Sub.refl _),(by decide),(show F2 (Wp.int.R h) ([]:List (List Value)) ([]:D0) from trivial),J⟩) ?_)))
 rintro _ c k d ⟨g,ao,i,⟨⟩,⟨⟩,f,T,b,a⟩
 replace a:C3 l k g i=some p:=a
 obtain _|k:=k
 ·cases a
 rw[C3.eq_2]at a
 refine ifB a (λL a=>?_) λL a=>?_
 ·obtain⟨M,D,a⟩:=B0 a
  obtain rfl:c.length=M:=(F2.length b).trans (oJ D)
  obtain⟨af,S,a⟩:=B0 a
  refine Or.inl (aI (aI (by kernel_rfl) (by kernel_rfl)) ?_)
  refine ldG a (C0.mono f m) λan Y a=>?_
  obtain⟨aj,H,a⟩:=B0 a
  obtain⟨P,u,N⟩:=T04 b H (t0d d)
  refine aI (λq=>(u q).1) ?_
  obtain⟨rfl,U⟩:=N
  refine eX _ (aI (λq=>(u q).2) ?_)
  refine ldG a (C0.mono f m) λak V a=>?_
  obtain⟨al,I,a⟩:=B0 a
  obtain⟨Q,w,O⟩:=T04 b I (t0d d)
  refine aI (λq=>(w q).1) ?_
  obtain⟨rfl,W⟩:=O
  refine eX _ (aI (λq=>(w q).2) ?_)
  refine ldG a (C0.mono f m) λam X a=>?_
  refine ifB a (λK a=>?_) λK a=>?_
  ·obtain⟨ac,E,a⟩:=B0 a
   refine aI (by have:=C1 E;have:=F2.length b;omega) ?_
   exact U1 k ⟨(IntKind.i64.wrap (g+1)),(c.take (IntKind.i64.wrap (((c.length:Nat):Int)-1)).toNat),(i.take (IntKind.i64.wrap (((c.length:Nat):Int)-1)).toNat),rfl,rfl,f,(F0 _),(F2.take (IntKind.i64.wrap (((c.length:Nat):Int)-1)).toNat b),a⟩
  ·refine ldI a (C0.mono f m) λj y a=>?_
   obtain⟨ad,F,a⟩:=B0 a
   refine aI (T0 F (by first|rw[F2.length b,F2.length (show F2 (Wp.int.R d) ([[.int .i64 j]]:List (List Value)) [j] from⟨⟨rfl,y⟩,trivial⟩)]|exact congrArg (·+1) (F2.length b))) ?_
   exact U1 k ⟨(IntKind.i64.wrap (g+1)),(c++([[.int .i64 j]]:List (List Value))),(i ++ [j]),rfl,rfl,f,(F0 _),(F2.append b (show F2 (Wp.int.R d) ([[.int .i64 j]]:List (List Value)) [j] from⟨⟨rfl,y⟩,trivial⟩)),a⟩
 ·obtain rfl:=oJ a
  try dsimp only[Z0,D1]at e
  obtain⟨ae,G,e⟩:=B0 e
  refine aI (T0 G (by first|rw[F2.length (show F2 (Wp.int.R d) ([]:List (List Value)) ([]:D0) from trivial),F2.length b]|exact congrArg (·+0) (F2.length (show F2 (Wp.int.R d) ([]:List (List Value)) ([]:D0) from trivial)))) ?_
  intro ai Z x
  obtain⟨B,C,rfl,ag,ah,ab⟩:=U0.out (r:=Wp.int.toRp) x (F2.append (show F2 (Wp.int.R d) ([]:List (List Value)) ([]:D0) from trivial) b)
  obtain rfl:=oJ e
  exact⟨B,((([]:D0)++i)).length,C,rfl,(New.from (U0.newPlain (r:=Wp.int) x (F2.append (show F2 (Wp.int.R d) ([]:List (List Value)) ([]:D0) from trivial) b) (U04 _)) f)⟩
theorem D01(h:Hp)(e:Option Addr)(o g:Nat)(b:D0)(q:C0.R h [.slice e o g] b)(f:Option Addr)(p i:Nat)(c:D0)(s:C0.R h [.slice f p i] c)(r:D0)(a:C2 b c=some r):
  Tr Tryz.prog 38 #[.slice e o g,.slice f p i] h λv h'=>∃(k:Option Addr) (n l:Nat),v = .slice k n l/\New C0 h h' [.slice k n l] r:=by
 obtain⟨rfl,L⟩:=Sl.len q
 obtain⟨rfl,M⟩:=Sl.len s
 unfold C2 at a
 refine T3 (args:=[.slice e b.length g,.slice f c.length i]) (fn:=Tryz.f38) rfl ?_
 obtain⟨I,y,d⟩:=Sl.rows (r:=Wp.int.toRp) q
 refine eX I (aI y ?_)
 obtain⟨Q,B,a⟩:=B0 a
 refine aI (T0 B (by first|rw[F2.length (show F2 (Wp.int.R h) ([]:List (List Value)) ([]:D0) from trivial),F2.length d]|exact congrArg (·+1) (F2.length (show F2 (Wp.int.R h) ([]:List (List Value)) ([]:D0) from trivial)))) ?_
 obtain⟨J,z,m⟩:=Sl.rows (r:=Wp.int.toRp) s
 refine eX J (aI z ?_)
 obtain⟨S,C,a⟩:=B0 a
 refine aI (T0 C (by first|rw[F2.length (F2.append (show F2 (Wp.int.R h) ([]:List (List Value)) ([]:D0) from trivial) d),F2.length m]|exact congrArg (·+1) (F2.length (F2.append (show F2 (Wp.int.R h) ([]:List (List Value)) ([]:D0) from trivial) d)))) ?_
 refine Or.inl ?_
 intro V E A
 obtain⟨u,x,rfl,G,H,O⟩:=U0.out (r:=Wp.int.toRp) A (F2.append (F2.append (show F2 (Wp.int.R h) ([]:List (List Value)) ([]:D0) from trivial) d) m)
 refine trM a (M8 _ u (((([]:D0)++b)++c)).length x ((([]:D0)++b)++c) G) ?_
 rintro K a U D ⟨t,P,w,rfl,j⟩
 have T:Sub E D:=j.sub
 have F:=j.r
 obtain⟨rfl,N⟩:=Sl.len F
 obtain rfl:=oJ a
 exact⟨t,K.length,w,rfl,(New.from j H)⟩
theorem H4(h:Hp)(d:Nat)(e:Value)(m:TypeId)(f:List Int)(s:Int×Int)(cc:r00 h d e f s)(l:Int)(ai:H0 l)(o:Int)(av:H0 o)(r:D0×(Int×Int))(c:X00 f s l o=some r):
  Tr Tryz.prog 58 #[ptr d 0,.int .i64 l,.int .i64 o] (h.set d (p04 e s m)) λv h'=>∃(z:Option Addr) (E A:Nat) (q:Hp),v = .slice z E A/\New C0 h q [.slice z E A] r.1/\Sub h q/\r00 q d e f r.2/\h'=q.set d (p04 e r.2 m):=by
 unfold X00 at c
 refine T3 (args:=[ptr d 0,.int .i64 l,.int .i64 o]) (fn:=Tryz.f58) rfl ?_
 obtain⟨an,Y,c⟩:=B0 c
 obtain⟨H,ar⟩:=an
 try dsimp only at c
 refine Tr.mono (G1 _ d e m f s cc (IntKind.i64.wrap (o+1)) (F0 _) _ Y) ?_
 rintro _ _ ⟨rfl,L,rfl⟩
 obtain⟨aF,X,c⟩:=B0 c
 have aj:H0 H:=C1 X
 obtain⟨y,ac,c⟩:=B0 c
 refine eX { vars:=[8],boxes:=[],owns:=[0],fuel:=true } (eX (λvs os ah=>∃(j:Int) (p:List (List Value)) (g:List Int) (u8:Int×Int) (h':Hp),vs.tail = [.int .i64 j]/\os = [p]/\ah=h'.set d (p04 e u8 m)/\Sub h h'/\H0 j/\F2 (Wp.int.R h') p g/\r00 h' d e f u8/\Y7 f l (W1 vs) j g u8=some y) (eX (λ_ _=>0) ?_))
 refine aI (eX W0 ⟨H,[],([]:D0),ar,h,rfl,rfl,rfl,(Sub.refl _),aj,(show F2 (Wp.int.R h) ([]:List (List Value)) ([]:D0) from trivial),L,ac⟩) ?_
 rintro aJ p n _ ⟨j,aL,g,u8,k,Q,P,rfl,t,aw,i,u,a⟩
 cases Q
 cases P
 replace a:Y7 f l n j g u8=some y:=a
 obtain _|n:=n
 ·cases a
 rw[Y7.eq_2]at a
 refine ifB a (λad a=>?_) λad a=>?_
 ·obtain⟨ao,Z,a⟩:=B0 a
  obtain⟨b,ap⟩:=ao
  try dsimp only at a
  refine Tr.mono (G1 _ d e m f u8 u _ ai _ Z) ?_
  rintro _ _ ⟨rfl,K,rfl⟩
  obtain⟨aC,U,a⟩:=B0 a
  have ax:H0 b:=C1 U
  obtain⟨aq,aa,a⟩:=B0 a
  obtain⟨aK,G⟩:=aq
  try dsimp only at a
  refine Tr.mono (Y1 _ d e m f ap K 2 (by decide) _ aa) ?_
  rintro _ _ ⟨rfl,B,rfl⟩
  refine ifB a (λae a=>?_) λae a=>?_
  ·obtain⟨aD,V,a⟩:=B0 a
   refine aI (T0 V (by first|rw[F2.length i,F2.length (show F2 (Wp.int.R k) ([[.int .i64 (IntKind.i64.wrap (0-(IntKind.i64.wrap (1+b))))]]:List (List Value)) [(IntKind.i64.wrap (0-(IntKind.i64.wrap (1+b))))] from⟨⟨rfl,(F0 _)⟩,trivial⟩)]|exact congrArg (·+1) (F2.length i))) ?_
   exact U1 n ⟨(IntKind.i64.wrap (j-1)),(p++([[.int .i64 (IntKind.i64.wrap (0-(IntKind.i64.wrap (1+b))))]]:List (List Value))),(g ++ [(IntKind.i64.wrap (0-(IntKind.i64.wrap (1+b))))]),G,k,rfl,rfl,rfl,t,(F0 _),(F2.append i (show F2 (Wp.int.R k) ([[.int .i64 (IntKind.i64.wrap (0-(IntKind.i64.wrap (1+b))))]]:List (List Value)) [(IntKind.i64.wrap (0-(IntKind.i64.wrap (1+b))))] from⟨⟨rfl,(F0 _)⟩,trivial⟩)),B,a⟩
  ·obtain⟨aE,W,a⟩:=B0 a
   refine aI (T0 W (by first|rw[F2.length i,F2.length (show F2 (Wp.int.R k) ([[.int .i64 (IntKind.i64.wrap (1+b))]]:List (List Value)) [(IntKind.i64.wrap (1+b))] from⟨⟨rfl,(F0 _)⟩,trivial⟩)]|exact congrArg (·+1) (F2.length i))) ?_
   exact U1 n ⟨(IntKind.i64.wrap (j-1)),(p++([[.int .i64 (IntKind.i64.wrap (1+b))]]:List (List Value))),(g ++ [(IntKind.i64.wrap (1+b))]),G,k,rfl,rfl,rfl,t,(F0 _),(F2.append i (show F2 (Wp.int.R k) ([[.int .i64 (IntKind.i64.wrap (1+b))]]:List (List Value)) [(IntKind.i64.wrap (1+b))] from⟨⟨rfl,(F0 _)⟩,trivial⟩)),B,a⟩
 ·obtain rfl:=oJ a
  try dsimp only[Z0,D1]at c
  refine Or.inl ?_
  intro aG ay S
  obtain⟨ak,T,af,rfl⟩:=U0.beside u.no S
  obtain⟨J,O,rfl,am,w,aA⟩:=U0.out (r:=Wp.int.toRp) T i
  have C:=u.mono w af
  obtain⟨au,ab,c⟩:=B0 c
  refine Tr.beside C.no (M8 _ J g.length O g am _  ab) ?_
  rintro aH D ⟨I,aB,N,rfl,x⟩ ag
  have F:Sub ak D:=x.sub
  have al:=x.r
  have M:=C.mono F ag
  obtain⟨rfl,az⟩:=Sl.len al
  obtain rfl:=oJ c
  exact⟨I,au.length,N,D,rfl,(New.from x (t.trans w)),((t.trans w).trans F),M,rfl⟩
theorem m0a(h:Hp)(j:Option Addr)(E k:Nat)(g:D0)(F:C0.R h [.slice j E k] g)(r:D0×D0)(b:A00 g=some r):
  Tr Tryz.prog 105 #[.slice j E k] h λv h'=>∃(w:Option Addr) (C y:Nat) (x:Option Addr) (D z:Nat),v = .tuple #[.slice w C y,.slice x D z]/\New C0 h h' [.slice w C y] r.1/\C0.R h' [.slice x D z] r.2:=by
 obtain⟨rfl,av⟩:=Sl.len F
 unfold A00 at b
 refine T3 (args:=[.slice j g.length k]) (fn:=Tryz.f105) rfl ?_
 refine trM b (M8 _ j g.length k g F) ?_
 rintro K b aH s ⟨M,aB,Q,rfl,J⟩
 have ah:Sub h s:=J.sub
 have G:=J.r
 obtain⟨rfl,ax⟩:=Sl.len G
 obtain⟨u,ac,b⟩:=B0 b
 refine eX { vars:=[4],boxes:=[],owns:=[0],fuel:=true } (eX (λvs os h'=>∃ o t p i n e,vs.tail = [.slice o t p]/\os = [n]/\Sub s h'/\C0.R h' [.slice o t p] i/\F2 (Wp.int.R h') n e/\T6 (W1 vs) i e=some u) (eX (λ_ _=>0) (aI (eX W0 ⟨M,K.length,Q,K,[],([]:D0),rfl,rfl,(Sub.refl _),G,(show F2 (Wp.int.R s) ([]:List (List Value)) ([]:D0) from trivial),ac⟩) ?_)))
 rintro _ n m d ⟨o,t,p,i,aN,e,⟨⟩,⟨⟩,I,c,l,a⟩
 replace a:T6 m i e=some u:=a
 obtain _|m:=m
 ·cases a
 rw[T6.eq_2]at a
 obtain⟨rfl,aw⟩:=Sl.len c
 refine Or.inl (aI (aI (by kernel_rfl) (by kernel_rfl)) ?_)
 refine ldG a c λaM aq a=>?_
 refine ldG a c λaJ an a=>?_
 refine ldG a c λaK ao a=>?_
 refine ldG a c λaL ap a=>?_
 refine ifB a (λad a=>?_) λad a=>?_
 ·refine ldI a c λf B a=>?_
  obtain⟨aC,Z,a⟩:=B0 a
  refine aI (T0 Z (by first|rw[F2.length l,F2.length (show F2 (Wp.int.R d) ([[.int .i64 f]]:List (List Value)) [f] from⟨⟨rfl,B⟩,trivial⟩)]|exact congrArg (·+1) (F2.length l))) ?_
  obtain⟨L,ab,a⟩:=B0 a
  obtain⟨af,ak,V,Y⟩:=Sl.cutI (r:=Wp.int.toRp) c ab
  refine aI af (eX ak (aI V ?_))
  intro am ae _
  obtain⟨N,S,rfl,H⟩:=Y am ae
  have ay:=(Sl.len H).2
  exact U1 m ⟨N,L.length,S,L,(n++([[.int .i64 f]]:List (List Value))),(e ++ [f]),rfl,rfl,I,H,(F2.append l (show F2 (Wp.int.R d) ([[.int .i64 f]]:List (List Value)) [f] from⟨⟨rfl,B⟩,trivial⟩)),a⟩
 ·obtain rfl:=oJ a
  try dsimp only[Z0,D1]at b
  obtain⟨al,W,q⟩:=Sl.rows (r:=Wp.int.toRp) c
  refine eX al (aI W ?_)
  obtain⟨aD,aa,b⟩:=B0 b
  refine aI (T0 aa (by first|rw[F2.length (show F2 (Wp.int.R d) ([]:List (List Value)) ([]:D0) from trivial),F2.length q]|exact congrArg (·+1) (F2.length (show F2 (Wp.int.R d) ([]:List (List Value)) ([]:D0) from trivial)))) ?_
  intro aF ar A
  obtain⟨O,T,rfl,aE,ai,az⟩:=U0.out (r:=Wp.int.toRp) A (F2.append (show F2 (Wp.int.R d) ([]:List (List Value)) ([]:D0) from trivial) q)
  intro aG au X
  obtain⟨P,U,rfl,ag,aj,aA⟩:=U0.out (r:=Wp.int.toRp) X (F2.up (r:=Wp.int.toRp) ai l)
  obtain rfl:=oJ b
  exact⟨O,((([]:D0)++i)).length,T,P,e.length,U,rfl,(New.mono (New.from (U0.newPlain (r:=Wp.int) A (F2.append (show F2 (Wp.int.R d) ([]:List (List Value)) ([]:D0) from trivial) q) (U04 _)) (ah.trans I)) aj),ag⟩
theorem d6(h:Hp)(j:Option Addr)(M k:Nat)(c:D0)(u:C0.R h [.slice j M k] c)(d:Int)(aH:H0 d)(r:D0)(b:E2 c d=some r):
  Tr Tryz.prog 56 #[.slice j M k,.int .i64 d] h λv h'=>∃(C:Option Addr) (L D:Nat),v = .slice C L D/\New C0 h h' [.slice C L D] r:=by
 obtain⟨rfl,aN⟩:=Sl.len u
 unfold E2 at b
 refine T3 (args:=[.slice j c.length k,.int .i64 d]) (fn:=Tryz.f56) rfl ?_
 refine ifB b (λam b=>?_) λam b=>?_
 ·refine trM b (G02 _ j c.length k c u) ?_
  rintro z b ba I ⟨aF,aW,aG,rfl,Q⟩
  have w:Sub h I:=Q.sub
  have N:=Q.r
  obtain⟨rfl,aO⟩:=Sl.len N
  obtain⟨B,al,b⟩:=B0 b
  refine eX { vars:=[6],boxes:=[],owns:=[0],fuel:=true } (eX (λvs os h'=>∃ i t f,vs.tail = [.int .i64 i]/\os = [t]/\Sub I h'/\H0 i/\F2 (Wp.int.R h') t f/\V5 d z (W1 vs) i f=some B) (eX (λ_ _=>0) (aI (eX W0 ⟨0,[],([]:D0),rfl,rfl,(Sub.refl _),(by decide),(F2.up (r:=Wp.int.toRp) w (show F2 (Wp.int.R h) ([]:List (List Value)) ([]:D0) from trivial)),al⟩) ?_)))
  rintro _ t o K ⟨i,bf,f,⟨⟩,⟨⟩,q,aK,m,a⟩
  replace a:V5 d z o i f=some B:=a
  obtain _|o:=o
  ·cases a
  rw[V5.eq_2]at a
  refine ifB a (λan a=>?_) λan a=>?_
  ·refine ifB a (λao a=>?_) λao a=>?_
   ·intro a7 aL E
    obtain⟨U,aa,rfl,a1,a5,aR⟩:=U0.out (r:=Wp.int.toRp) E (show F2 (Wp.int.R K) ([]:List (List Value)) ([]:D0) from trivial)
    obtain rfl:=oJ a
    try dsimp only[P2,Q2]at b
    obtain rfl:=oJ b
    exact⟨U,(([]:D0)).length,aa,rfl,(New.from (U0.newPlain (r:=Wp.int) E (show F2 (Wp.int.R K) ([]:List (List Value)) ([]:D0) from trivial) (U04 _)) (w.trans q))⟩
   ·obtain⟨O,ae,G⟩:=Sl.rows (r:=Wp.int.toRp) (C0.mono q N)
    refine eX O (aI ae ?_)
    obtain⟨aZ,ai,a⟩:=B0 a
    refine aI (T0 ai (by first|rw[F2.length m,F2.length G]|exact congrArg (·+1) (F2.length m))) ?_
    exact U1 o ⟨(IntKind.i64.wrap (i+1)),(t++O),(f++z),rfl,rfl,q,(F0 _),(F2.append m G),a⟩
  ·obtain rfl:=oJ a
   try dsimp only[Z0,D1]at b
   refine Or.inl ?_
   intro a8 ar ag
   obtain⟨V,ab,rfl,az,aB,aS⟩:=U0.out (r:=Wp.int.toRp) ag m
   refine trM b (M8 _ V f.length ab f az) ?_
   rintro aD b a9 au ⟨S,aX,Y,rfl,x⟩
   have a3:Sub ar au:=x.sub
   have ax:=x.r
   obtain⟨rfl,aP⟩:=Sl.len ax
   obtain rfl:=oJ b
   exact⟨S,aD.length,Y,rfl,(New.from x ((w.trans q).trans aB))⟩
 ·obtain⟨A,ak,b⟩:=B0 b
  refine eX { vars:=[6],boxes:=[],owns:=[0],fuel:=true } (eX (λvs os h'=>∃ g s e,vs.tail = [.int .i64 g]/\os = [s]/\Sub h h'/\H0 g/\F2 (Wp.int.R h') s e/\V5 d c (W1 vs) g e=some A) (eX (λ_ _=>0) (aI (eX W0 ⟨0,[],([]:D0),rfl,rfl,(Sub.refl _),(by decide),(show F2 (Wp.int.R h) ([]:List (List Value)) ([]:D0) from trivial),ak⟩) ?_)))
  rintro _ s n J ⟨g,be,e,⟨⟩,⟨⟩,p,aJ,l,a⟩
  replace a:V5 d c n g e=some A:=a
  obtain _|n:=n
  ·cases a
  rw[V5.eq_2]at a
  refine ifB a (λap a=>?_) λap a=>?_
  ·refine ifB a (λaq a=>?_) λaq a=>?_
   ·intro bb aM F
    obtain⟨W,ac,rfl,a2,a6,aU⟩:=U0.out (r:=Wp.int.toRp) F (show F2 (Wp.int.R J) ([]:List (List Value)) ([]:D0) from trivial)
    obtain rfl:=oJ a
    try dsimp only[P2,Q2]at b
    obtain rfl:=oJ b
    exact⟨W,(([]:D0)).length,ac,rfl,(New.from (U0.newPlain (r:=Wp.int) F (show F2 (Wp.int.R J) ([]:List (List Value)) ([]:D0) from trivial) (U04 _)) p)⟩
   ·obtain⟨P,af,H⟩:=Sl.rows (r:=Wp.int.toRp) (C0.mono p u)
    refine eX P (aI af ?_)
    obtain⟨a0,aj,a⟩:=B0 a
    refine aI (T0 aj (by first|rw[F2.length l,F2.length H]|exact congrArg (·+1) (F2.length l))) ?_
    exact U1 n ⟨(IntKind.i64.wrap (g+1)),(s++P),(e++c),rfl,rfl,p,(F0 _),(F2.append l H),a⟩
  ·obtain rfl:=oJ a
   try dsimp only[Z0,D1]at b
   refine Or.inl ?_
   intro bc av ah
   obtain⟨X,ad,rfl,aA,aC,aV⟩:=U0.out (r:=Wp.int.toRp) ah l
   refine trM b (M8 _ X e.length ad e aA) ?_
   rintro aE b bd aw ⟨T,aY,Z,rfl,y⟩
   have a4:Sub av aw:=y.sub
   have ay:=y.r
   obtain⟨rfl,aQ⟩:=Sl.len ay
   obtain rfl:=oJ b
   exact⟨T,aE.length,Z,rfl,(New.from y (p.trans aC))⟩
theorem h09(h:Hp)(d:Option Addr)(x f:Nat)(b:D0)(i:C0.R h [.slice d x f] b)(e:Option Addr)(y g:Nat)(c:D0)(j:C0.R h [.slice e y g] c)(r:D0)(a:J00 b c=some r):
  Tr Tryz.prog 104 #[.slice d x f,.slice e y g] h λv h'=>∃(o:Option Addr) (w p:Nat),v = .slice o w p/\New C0 h h' [.slice o w p] r:=by
 obtain⟨rfl,aa⟩:=Sl.len i
 obtain⟨rfl,ab⟩:=Sl.len j
 unfold J00 at a
 refine T3 (args:=[.slice d b.length f,.slice e c.length g]) (fn:=Tryz.f104) rfl ?_
 refine trM a (D01 _ d b.length f b i e c.length g c j) ?_
 rintro I a ap s ⟨M,ah,S,rfl,E⟩
 have k:Sub h s:=E.sub
 have z:=E.r
 obtain⟨rfl,ac⟩:=Sl.len z
 refine trM a (G02 _ d b.length f b (C0.mono k i)) ?_
 rintro K a aq t ⟨P,ak,V,rfl,G⟩
 have l:Sub s t:=G.sub
 have B:=G.r
 obtain⟨rfl,af⟩:=Sl.len B
 refine trM a (G02 _ e c.length g c (C0.mono (k.trans l) j)) ?_
 rintro L a ar u ⟨Q,al,W,rfl,H⟩
 have m:Sub t u:=H.sub
 have C:=H.r
 obtain⟨rfl,ag⟩:=Sl.len C
 refine trM a (D01 _ P K.length V K (C0.mono m B) Q L.length W L C) ?_
 rintro J a an q ⟨N,ai,T,rfl,F⟩
 have D:Sub u q:=F.sub
 have A:=F.r
 obtain⟨rfl,ad⟩:=Sl.len A
 refine trM a (D01 _ M I.length S I (C0.mono ((l.trans m).trans D) z) N J.length T J A) ?_
 rintro Z a ao X ⟨O,aj,U,rfl,n⟩
 have am:Sub q X:=n.sub
 have Y:=n.r
 obtain⟨rfl,ae⟩:=Sl.len Y
 obtain rfl:=oJ a
 exact⟨O,Z.length,U,rfl,(New.from n (((k.trans l).trans m).trans D))⟩
theorem g0e(h:Hp)(c:Nat)(d:Value)(k:TypeId)(e:List Int)(T:Int×Int)(cc:r00 h c d e T)(r:l0×(Int×Int))(a:t01 e T=some r):
  Tr Tryz.prog 76 #[ptr c 0] (h.set c (p04 d T k)) λv h'=>∃(a2:List Value) (S:Hp),v = .agg a2.toArray/\New Q1 h S a2 r.1/\Sub h S/\r00 S c d e r.2/\h'=S.set c (p04 d r.2 k):=by
 unfold t01 at a
 refine T3 (args:=[ptr c 0]) (fn:=Tryz.f76) rfl ?_
 obtain⟨fw,dL,a⟩:=B0 a
 obtain⟨fB,Q⟩:=fw
 try dsimp only at a
 refine Tr.mono (G1 _ c d k e T cc 6 (by decide) _ dL) ?_
 rintro _ _ ⟨rfl,l,rfl⟩
 obtain⟨hD,dI,a⟩:=B0 a
 have gp:H0 fB:=C1 dI
 refine ifB a (λeh a=>?_) λeh a=>?_
 ·obtain⟨fH,d2,a⟩:=B0 a
  obtain⟨bU,ig⟩:=fH
  try dsimp only at a
  refine Tr.mono (G1 _ c d k e Q l 6 (by decide) _ d2) ?_
  rintro _ _ ⟨rfl,a0,rfl⟩
  obtain⟨hF,dK,a⟩:=B0 a
  have gs:H0 bU:=C1 dK
  refine Or.inl ?_
  intro hM gu cQ
  obtain⟨eQ,cU,ep,rfl⟩:=U0.beside a0.no cQ
  obtain⟨f1,ge,rfl,fa,G,g5⟩:=U0.out (r:=Wp.int.toRp) cU (show F2 (Wp.int.R h) ([[.int .i64 1]]:List (List Value)) [1] from⟨⟨rfl,(by decide)⟩,trivial⟩)
  have aL:=a0.mono G ep
  obtain⟨ac,dU,a⟩:=B0 a
  refine Tr.beside aL.no (d6 _ _ _ _ _ fa (IntKind.i64.wrap (1+bU)) (F0 _) _  dU) ?_
  rintro hX bh ⟨b0,hq,cw,rfl,aw⟩ ey
  have U:Sub eQ bh:=aw.sub
  have bs:=aw.r
  have aQ:=aL.mono U ey
  obtain⟨rfl,gS⟩:=Sl.len bs
  obtain⟨fQ,fs,dy,_⟩:=(id aw)
  intro fk gH db
  obtain⟨bk,a9,eC,rfl⟩:=U0.beside aQ.no db
  have e6:New (Wp.slice C0) h bk [fk] [ac]:=(U0.fresh (r:=C0) a9 (F3.snoc fs (M2 (show F3 (C0.W h) [] [] [] from trivial) (G.trans U))) (G.trans U) (V0 (M2 (show F3 (C0.W h) [] [] [] from trivial) G) G (R4.nil h) dy))
  obtain⟨ce,cK,rfl,hK,bH,hf⟩:=U0.out (r:=C0.toRp) a9 (show F2 (C0.R bh) ([[.slice b0 ac.length cw]]:List (List Value)) [ac] from⟨bs,trivial⟩)
  have co:=aQ.mono bH eC
  obtain rfl:=oJ a
  exact⟨([.int .i64 1,.slice ce ([ac]).length cK]),bk,rfl,(New.pair (New.int (by decide)) e6),((G.trans U).trans bH),co,rfl⟩
 ·refine ifB a (λeg a=>?_) λeg a=>?_
  ·refine Or.inl ?_
   intro h0 gI dc
   obtain⟨eU,dd,eD,rfl⟩:=U0.beside l.no dc
   obtain⟨f4,gf,rfl,fd,g,hg⟩:=U0.out (r:=Wp.int.toRp) dd (show F2 (Wp.int.R h) ([[.int .i64 1]]:List (List Value)) [1] from⟨⟨rfl,(by decide)⟩,trivial⟩)
   have aU:=l.mono g eD
   obtain⟨ad,dY,a⟩:=B0 a
   refine Tr.beside aU.no (d6 _ _ _ _ _ fd 2 (by decide) _  dY) ?_
   rintro h1 eV ⟨b2,hu,cy,rfl,ax⟩ eE
   have o:Sub eU eV:=ax.sub
   have bv:=ax.r
   have aV:=aU.mono o eE
   obtain⟨rfl,gW⟩:=Sl.len bv
   refine Or.inl ?_
   intro h2 gJ df
   obtain⟨eW,dg,eF,rfl⟩:=U0.beside aV.no df
   obtain⟨f5,gg,rfl,fe,s,hh⟩:=U0.out (r:=Wp.int.toRp) dg (F2.up (r:=Wp.int.toRp) (g.trans o) (show F2 (Wp.int.R h) ([[.int .i64 2]]:List (List Value)) [2] from⟨⟨rfl,(by decide)⟩,trivial⟩))
   have aW:=aV.mono s eF
   obtain⟨ae,dZ,a⟩:=B0 a
   refine Tr.beside aW.no (d6 _ _ _ _ _ fe 2 (by decide) _  dZ) ?_
   rintro h3 eY ⟨b3,hv,cz,rfl,ay⟩ eG
   have y:Sub eW eY:=ay.sub
   have bx:=ay.r
   have cp:=aW.mono y eG
   obtain⟨rfl,gX⟩:=Sl.len bx
   obtain⟨fG,d1,a⟩:=B0 a
   obtain⟨bT,ie⟩:=fG
   try dsimp only at a
   refine Tr.mono (G1 _ c d k e Q cp 4 (by decide) _ d1) ?_
   rintro _ _ ⟨rfl,aX,rfl⟩
   obtain⟨hE,dJ,a⟩:=B0 a
   have gr:H0 bT:=C1 dJ
   refine Or.inl ?_
   intro h4 gK dh
   obtain⟨eZ,di,eH,rfl⟩:=U0.beside aX.no dh
   obtain⟨f6,gh,rfl,ff,B,hi⟩:=U0.out (r:=Wp.int.toRp) di (F2.up (r:=Wp.int.toRp) (((g.trans o).trans s).trans y) (show F2 (Wp.int.R h) ([[.int .i64 1],[.int .i64 2]]:List (List Value)) [1,2] from⟨⟨rfl,(by decide)⟩,⟨⟨rfl,(by decide)⟩,trivial⟩⟩))
   have aY:=aX.mono B eH
   obtain⟨af,d3,a⟩:=B0 a
   refine Tr.beside aY.no (d6 _ _ _ _ _ ff (IntKind.i64.wrap (1+bT)) (F0 _) _  d3) ?_
   rintro h5 bl ⟨b4,hw,cA,rfl,az⟩ eI
   have F:Sub eZ bl:=az.sub
   have bz:=az.r
   have aZ:=aY.mono F eI
   obtain⟨rfl,gY⟩:=Sl.len bz
   obtain⟨fT,ao,dA,_⟩:=(id ax)
   obtain⟨fU,bM,dB,_⟩:=(id ay)
   obtain⟨fV,fu,dC,_⟩:=(id az)
   intro fm gL dj
   obtain⟨bm,ba,eJ,rfl⟩:=U0.beside aZ.no dj
   have e7:New (Wp.slice C0) h bm [fm] [ad,ae,af]:=(U0.fresh (r:=C0) ba (F3.snoc fu (M2 (F3.snoc bM (M2 (F3.snoc ao (M2 (show F3 (C0.W h) [] [] [] from trivial) (g.trans o))) (s.trans y))) (B.trans F))) (((((g.trans o).trans s).trans y).trans B).trans F) (V0 (M2 (F3.snoc bM (M2 (F3.snoc ao (M2 (show F3 (C0.W h) [] [] [] from trivial) (g.trans o))) (s.trans y))) B) ((((g.trans o).trans s).trans y).trans B) (V0 (M2 (F3.snoc ao (M2 (show F3 (C0.W h) [] [] [] from trivial) (g.trans o))) s) ((g.trans o).trans s) (V0 (M2 (show F3 (C0.W h) [] [] [] from trivial) g) g (R4.nil h) dA) dB) dC))
   obtain⟨cf,cL,rfl,hL,bI,hj⟩:=U0.out (r:=C0.toRp) ba (show F2 (C0.R bl) ([[.slice b2 ad.length cy],[.slice b3 ae.length cz],[.slice b4 af.length cA]]:List (List Value)) [ad,ae,af] from⟨(C0.mono (((s.trans y).trans B).trans F) bv),⟨(C0.mono (B.trans F) bx),⟨bz,trivial⟩⟩⟩)
   have cq:=aZ.mono bI eJ
   obtain rfl:=oJ a
   exact⟨([.int .i64 2,.slice cf ([ad,ae,af]).length cL]),bm,rfl,(New.pair (New.int (by decide)) e7),((((((g.trans o).trans s).trans y).trans B).trans F).trans bI),cq,rfl⟩
  ·refine ifB a (λei a=>?_) λei a=>?_
   ·refine Or.inl ?_
    intro h6 gM dk
    obtain⟨e0,dm,eK,rfl⟩:=U0.beside l.no dk
    obtain⟨f7,gj,rfl,fg,i,hk⟩:=U0.out (r:=Wp.int.toRp) dm (show F2 (Wp.int.R h) ([[.int .i64 1]]:List (List Value)) [1] from⟨⟨rfl,(by decide)⟩,trivial⟩)
    have a1:=l.mono i eK
    obtain⟨ag,ea,a⟩:=B0 a
    refine Tr.beside a1.no (d6 _ _ _ _ _ fg 2 (by decide) _  ea) ?_
    rintro h7 e1 ⟨b5,hx,cC,rfl,aA⟩ eL
    have p:Sub e0 e1:=aA.sub
    have bA:=aA.r
    have aC:=a1.mono p eL
    obtain⟨rfl,gZ⟩:=Sl.len bA
    refine Or.inl ?_
    intro hN gt cO
    obtain⟨eN,cP,ej,rfl⟩:=U0.beside aC.no cO
    obtain⟨fX,ga,rfl,e8,q,g0⟩:=U0.out (r:=Wp.int.toRp) cP (F2.up (r:=Wp.int.toRp) (i.trans p) (show F2 (Wp.int.R h) ([[.int .i64 2]]:List (List Value)) [2] from⟨⟨rfl,(by decide)⟩,trivial⟩))
    have aD:=aC.mono q ej
    obtain⟨X,dM,a⟩:=B0 a
    refine Tr.beside aD.no (d6 _ _ _ _ _ e8 3 (by decide) _  dM) ?_
    rintro hO eO ⟨bV,hl,cr,rfl,ap⟩ ek
    have w:Sub eN eO:=ap.sub
    have bn:=ap.r
    have cg:=aD.mono w ek
    obtain⟨rfl,gN⟩:=Sl.len bn
    obtain⟨fx,dN,a⟩:=B0 a
    obtain⟨bN,ia⟩:=fx
    try dsimp only at a
    refine Tr.mono (G1 _ c d k e Q cg 2 (by decide) _ dN) ?_
    rintro _ _ ⟨rfl,aE,rfl⟩
    obtain⟨hy,dD,a⟩:=B0 a
    have gm:H0 bN:=C1 dD
    refine Or.inl ?_
    intro hP gv cR
    obtain⟨eP,cS,el,rfl⟩:=U0.beside aE.no cR
    obtain⟨fY,gb,rfl,e9,z,g1⟩:=U0.out (r:=Wp.int.toRp) cS (F2.up (r:=Wp.int.toRp) (((i.trans p).trans q).trans w) (show F2 (Wp.int.R h) ([[.int .i64 1],[.int .i64 2]]:List (List Value)) [1,2] from⟨⟨rfl,(by decide)⟩,⟨⟨rfl,(by decide)⟩,trivial⟩⟩))
    have aF:=aE.mono z el
    obtain⟨Y,dO,a⟩:=B0 a
    refine Tr.beside aF.no (d6 _ _ _ _ _ e9 (IntKind.i64.wrap (2+bN)) (F0 _) _  dO) ?_
    rintro hQ bb ⟨bW,hm,cs,rfl,aq⟩ em
    have D:Sub eP bb:=aq.sub
    have bo:=aq.r
    have aG:=aF.mono D em
    obtain⟨rfl,gO⟩:=Sl.len bo
    obtain⟨fI,am,dn,_⟩:=(id aA)
    obtain⟨fJ,bJ,dq,_⟩:=(id ap)
    obtain⟨fK,fo,ds,_⟩:=(id aq)
    intro fh gw cT
    obtain⟨bc,a3,en,rfl⟩:=U0.beside aG.no cT
    have e2:New (Wp.slice C0) h bc [fh] [ag,X,Y]:=(U0.fresh (r:=C0) a3 (F3.snoc fo (M2 (F3.snoc bJ (M2 (F3.snoc am (M2 (show F3 (C0.W h) [] [] [] from trivial) (i.trans p))) (q.trans w))) (z.trans D))) (((((i.trans p).trans q).trans w).trans z).trans D) (V0 (M2 (F3.snoc bJ (M2 (F3.snoc am (M2 (show F3 (C0.W h) [] [] [] from trivial) (i.trans p))) (q.trans w))) z) ((((i.trans p).trans q).trans w).trans z) (V0 (M2 (F3.snoc am (M2 (show F3 (C0.W h) [] [] [] from trivial) (i.trans p))) q) ((i.trans p).trans q) (V0 (M2 (show F3 (C0.W h) [] [] [] from trivial) i) i (R4.nil h) dn) dq) ds))
    obtain⟨b6,cD,rfl,hG,bD,g2⟩:=U0.out (r:=C0.toRp) a3 (show F2 (C0.R bb) ([[.slice b5 ag.length cC],[.slice bV X.length cr],[.slice bW Y.length cs]]:List (List Value)) [ag,X,Y] from⟨(C0.mono (((q.trans w).trans z).trans D) bA),⟨(C0.mono (z.trans D) bn),⟨bo,trivial⟩⟩⟩)
    have ch:=aG.mono bD en
    obtain rfl:=oJ a
    exact⟨([.int .i64 2,.slice b6 ([ag,X,Y]).length cD]),bc,rfl,(New.pair (New.int (by decide)) e2),((((((i.trans p).trans q).trans w).trans z).trans D).trans bD),ch,rfl⟩
   ·refine ifB a (λec a=>?_) λec a=>?_
    ·refine Or.inl ?_
     intro hR gx cV
     obtain⟨gy,cW,eo,rfl⟩:=U0.beside l.no cV
     obtain⟨fZ,gc,rfl,bB,j,g3⟩:=U0.out (r:=Wp.int.toRp) cW (show F2 (Wp.int.R h) ([[.int .i64 1]]:List (List Value)) [1] from⟨⟨rfl,(by decide)⟩,trivial⟩)
     have aH:=l.mono j eo
     intro hS gz cX
     obtain⟨eR,cY,eq,rfl⟩:=U0.beside aH.no cX
     obtain⟨f0,gd,rfl,bC,f,g4⟩:=U0.out (r:=Wp.int.toRp) cY (F2.up (r:=Wp.int.toRp) j (show F2 (Wp.int.R h) ([[.int .i64 2]]:List (List Value)) [2] from⟨⟨rfl,(by decide)⟩,trivial⟩))
     have aJ:=aH.mono f eq
     obtain⟨Z,dP,a⟩:=B0 a
     refine Tr.beside aJ.no (h09 _ _ _ _ _ (C0.mono f bB) _ _ _ _ bC _  dP) ?_
     rintro hT bd ⟨bX,hn,ct,rfl,ar⟩ er
     have m:Sub eR bd:=ar.sub
     have bp:=ar.r
     have ci:=aJ.mono m er
     obtain⟨rfl,gP⟩:=Sl.len bp
     obtain⟨fy,dQ,a⟩:=B0 a
     obtain⟨bO,fz⟩:=fy
     try dsimp only at a
     refine Tr.mono (G1 _ c d k e Q ci 3 (by decide) _ dQ) ?_
     rintro _ _ ⟨rfl,aK,rfl⟩
     obtain⟨hz,dE,a⟩:=B0 a
     have gn:H0 bO:=C1 dE
     obtain⟨aa,dR,a⟩:=B0 a
     refine Tr.beside aK.no (d6 _ _ _ _ _ (C0.mono (f.trans m) bB) (IntKind.i64.wrap (1+bO)) (F0 _) _  dR) ?_
     rintro hU be ⟨bY,ho,cu,rfl,au⟩ es
     have x:Sub bd be:=au.sub
     have bq:=au.r
     have cj:=aK.mono x es
     obtain⟨rfl,gQ⟩:=Sl.len bq
     obtain⟨fA,dS,a⟩:=B0 a
     obtain⟨bP,ib⟩:=fA
     try dsimp only at a
     refine Tr.mono (G1 _ c d k e fz cj 3 (by decide) _ dS) ?_
     rintro _ _ ⟨rfl,aM,rfl⟩
     obtain⟨hA,dF,a⟩:=B0 a
     have go:H0 bP:=C1 dF
     obtain⟨ab,dT,a⟩:=B0 a
     refine Tr.beside aM.no (d6 _ _ _ _ _ (C0.mono (m.trans x) bC) (IntKind.i64.wrap (1+bP)) (F0 _) _  dT) ?_
     rintro hV bf ⟨bZ,hp,cv,rfl,av⟩ et
     have E:Sub be bf:=av.sub
     have br:=av.r
     have aN:=aM.mono E et
     obtain⟨rfl,gR⟩:=Sl.len br
     obtain⟨fL,an,dt,_⟩:=(id ar)
     obtain⟨fM,bK,du,_⟩:=(id au)
     obtain⟨fN,fp,dv,_⟩:=(id av)
     intro fi gA cZ
     obtain⟨bg,a4,eu,rfl⟩:=U0.beside aN.no cZ
     have e3:New (Wp.slice C0) h bg [fi] [Z,aa,ab]:=(U0.fresh (r:=C0) a4 (F3.snoc fp (M2 (F3.snoc bK (M2 (F3.snoc an (M2 (show F3 (C0.W h) [] [] [] from trivial) ((j.trans f).trans m))) x)) E)) ((((j.trans f).trans m).trans x).trans E) (V0 (F3.snoc bK (M2 (F3.snoc an (M2 (show F3 (C0.W h) [] [] [] from trivial) ((j.trans f).trans m))) x)) (((j.trans f).trans m).trans x) (V0 (F3.snoc an (M2 (show F3 (C0.W h) [] [] [] from trivial) ((j.trans f).trans m))) ((j.trans f).trans m) (V0 (M2 (show F3 (C0.W h) [] [] [] from trivial) (j.trans f)) (j.trans f) (R4.nil h) dt) du) dv))
     obtain⟨b7,cE,rfl,hH,bE,ha⟩:=U0.out (r:=C0.toRp) a4 (show F2 (C0.R bf) ([[.slice bX Z.length ct],[.slice bY aa.length cu],[.slice bZ ab.length cv]]:List (List Value)) [Z,aa,ab] from⟨(C0.mono (x.trans E) bp),⟨(C0.mono E bq),⟨br,trivial⟩⟩⟩)
     have ck:=aN.mono bE eu
     obtain rfl:=oJ a
     exact⟨([.int .i64 2,.slice b7 ([Z,aa,ab]).length cE]),bg,rfl,(New.pair (New.int (by decide)) e3),(((((j.trans f).trans m).trans x).trans E).trans bE),ck,rfl⟩
    ·refine ifB a (λed a=>?_) λed a=>?_
     ·intro hW gB c0
      obtain⟨gC,a5,ew,rfl⟩:=U0.beside l.no c0
      obtain⟨b8,cG,rfl,fb,A,hb⟩:=U0.out (r:=Wp.int.toRp) a5 (show F2 (Wp.int.R h) ([[.int .i64 1],[.int .i64 1],[.int .i64 2],[.int .i64 2]]:List (List Value)) [1,1,2,2] from⟨⟨rfl,(by decide)⟩,⟨⟨rfl,(by decide)⟩,⟨⟨rfl,(by decide)⟩,⟨⟨rfl,(by decide)⟩,trivial⟩⟩⟩⟩)
      have aO:=l.mono A ew
      intro hY gD c1
      obtain⟨eS,a6,ex,rfl⟩:=U0.beside aO.no c1
      obtain⟨ca,cH,rfl,fc,O,hc⟩:=U0.out (r:=Wp.int.toRp) a6 (F2.up (r:=Wp.int.toRp) A (show F2 (Wp.int.R h) ([[.int .i64 1],[.int .i64 2],[.int .i64 1],[.int .i64 (-2)]]:List (List Value)) [1,2,1,(-2)] from⟨⟨rfl,(by decide)⟩,⟨⟨rfl,(by decide)⟩,⟨⟨rfl,(by decide)⟩,⟨⟨rfl,(by decide)⟩,trivial⟩⟩⟩⟩))
      have aP:=aO.mono O ex
      obtain⟨fO,bL,dw,_⟩:=(id (U0.newPlain (r:=Wp.int) a5 (show F2 (Wp.int.R h) ([[.int .i64 1],[.int .i64 1],[.int .i64 2],[.int .i64 2]]:List (List Value)) [1,1,2,2] from⟨⟨rfl,(by decide)⟩,⟨⟨rfl,(by decide)⟩,⟨⟨rfl,(by decide)⟩,⟨⟨rfl,(by decide)⟩,trivial⟩⟩⟩⟩) (U04 _)))
      obtain⟨fP,fq,dx,_⟩:=(id (U0.newPlain (r:=Wp.int) a6 (F2.up (r:=Wp.int.toRp) A (show F2 (Wp.int.R h) ([[.int .i64 1],[.int .i64 2],[.int .i64 1],[.int .i64 (-2)]]:List (List Value)) [1,2,1,(-2)] from⟨⟨rfl,(by decide)⟩,⟨⟨rfl,(by decide)⟩,⟨⟨rfl,(by decide)⟩,⟨⟨rfl,(by decide)⟩,trivial⟩⟩⟩⟩)) (U04 _)))
      intro fj gE c2
      obtain⟨bi,a7,ez,rfl⟩:=U0.beside aP.no c2
      have e4:New (Wp.slice C0) h bi [fj] [[1,1,2,2],[1,2,1,(-2)]]:=(U0.fresh (r:=C0) a7 (F3.snoc fq (M2 (F3.snoc bL (M2 (show F3 (C0.W h) [] [] [] from trivial) A)) O)) (A.trans O) (V0 (F3.snoc bL (M2 (show F3 (C0.W h) [] [] [] from trivial) A)) A (V0 (show F3 (C0.W h) [] [] [] from trivial) (Sub.refl _) (R4.nil h) dw) dx))
      obtain⟨cb,cI,rfl,hI,bF,hd⟩:=U0.out (r:=C0.toRp) a7 (show F2 (C0.R eS) ([[.slice b8 ([1,1,2,2]).length cG],[.slice ca ([1,2,1,(-2)]).length cH]]:List (List Value)) [[1,1,2,2],[1,2,1,(-2)]] from⟨(C0.mono O fb),⟨fc,trivial⟩⟩)
      have cl:=aP.mono bF ez
      obtain rfl:=oJ a
      exact⟨([.int .i64 2,.slice cb ([[1,1,2,2],[1,2,1,(-2)]]).length cI]),bi,rfl,(New.pair (New.int (by decide)) e4),((A.trans O).trans bF),cl,rfl⟩
     ·obtain⟨fC,dV,a⟩:=B0 a
      obtain⟨bQ,fD⟩:=fC
      try dsimp only at a
      refine Tr.mono (G1 _ c d k e Q l 3 (by decide) _ dV) ?_
      rintro _ _ ⟨rfl,cm,rfl⟩
      obtain⟨hB,dG,a⟩:=B0 a
      have gq:H0 bQ:=C1 dG
      obtain⟨aB,eb,a⟩:=B0 a
      refine eX { vars:=[7],boxes:=[],owns:=[3],fuel:=true } (eX (λvs os eM=>∃(C:Int) (I:List (List Value)) (u:List D0) (H:Int×Int) (h':Hp),vs.tail = [.int .i64 C]/\os = [I]/\eM=h'.set c (p04 d H k)/\Sub h h'/\H0 C/\F2 (C0.R h') I u/\(∃ Bs,F3 (C0.W h') I u Bs/\R4 h Bs.flatten)/\r00 h' c d e H/\p6 e (W1 vs) C u H=some aB) (eX (λ_ _=>0) ?_))
      refine aI (eX W0 ⟨(IntKind.i64.wrap (1+bQ)),[],([]:L1),fD,h,rfl,rfl,rfl,(Sub.refl _),(F0 _),(show F2 (C0.R h) ([]:List (List Value)) ([]:L1) from trivial),⟨_,(show F3 (C0.W h) [] [] [] from trivial),(R4.nil h)⟩,cm,eb⟩) ?_
      rintro h8 I M _ ⟨C,ih,u,H,gF,cN,cM,rfl,N,gl,K,⟨f8,V,ak⟩,ai,b⟩
      cases cN
      cases cM
      replace b:p6 e M C u H=some aB:=b
      obtain _|M:=M
      ·cases b
      rw[p6.eq_2]at b
      refine ifB b (λee b=>?_) λee b=>?_
      ·obtain⟨fE,dW,b⟩:=B0 b
       obtain⟨bR,bS⟩:=fE
       try dsimp only at b
       refine Tr.mono (H4 _ c d k e H ai 2 (by decide) 4 (by decide) _ dW) ?_
       rintro _ _ ⟨b1,hr,cx,eT,rfl,fv,n,aR,rfl⟩
       have bt:=fv.r
       obtain⟨rfl,gT⟩:=Sl.len bt
       obtain⟨fF,dX,b⟩:=B0 b
       refine Tr.beside aR.no (m0a _ b1 bR.length cx bR bt _  dX) ?_
       rintro hZ L ⟨ah,hs,aj,fW,ht,f9,rfl,P,bu⟩ eA
       obtain⟨J,ic⟩:=fF
       dsimp only at b P bu
       have t:Sub eT L:=P.sub
       have al:=P.r
       have aS:=aR.mono t eA
       obtain⟨rfl,gU⟩:=Sl.len al
       obtain⟨rfl,gV⟩:=Sl.len bu
       refine ifB b (λef b=>?_) λef b=>?_
       ·obtain⟨fR,h9,gk,_⟩:=(id P)
        obtain⟨hC,dH,b⟩:=B0 b
        refine aI (T0 dH (by first|rw[F2.length (F2.up (r:=C0.toRp) (n.trans t) K),F2.length (show F2 (C0.R L) ([[.slice ah J.length aj]]:List (List Value)) [J] from⟨al,trivial⟩)]|exact congrArg (·+1) (F2.length (F2.up (r:=C0.toRp) (n.trans t) K)))) ?_
        obtain⟨fS,ft,dz,_⟩:=P
        exact U1 M ⟨(IntKind.i64.wrap (C-1)),(I++([[.slice ah J.length aj]]:List (List Value))),(u ++ [J]),bS,L,rfl,rfl,rfl,((N.trans n).trans t),(F0 _),(F2.append (F2.up (r:=C0.toRp) (n.trans t) K) (show F2 (C0.R L) ([[.slice ah J.length aj]]:List (List Value)) [J] from⟨al,trivial⟩)),⟨_,(F3.snoc ft (M2 V (n.trans t))),(V0 (M2 V n) (N.trans n) ak dz)⟩,aS,b⟩
       ·exact U1 M ⟨(IntKind.i64.wrap (C-1)),I,u,bS,L,rfl,rfl,rfl,((N.trans n).trans t),(F0 _),(F2.up (r:=C0.toRp) (n.trans t) K),⟨_,(M2 V (n.trans t)),ak⟩,aS,b⟩
      ·obtain rfl:=oJ b
       try dsimp only[Z0,D1]at a
       intro fl gG c3
       obtain⟨bj,a8,eB,rfl⟩:=U0.beside ai.no c3
       have e5:New (Wp.slice C0) h bj [fl] u:=(U0.fresh (r:=C0) a8 V N ak)
       obtain⟨cd,cJ,rfl,hJ,bG,he⟩:=U0.out (r:=C0.toRp) a8 K
       have cn:=ai.mono bG eB
       obtain rfl:=oJ a
       exact⟨([.int .i64 2,.slice cd u.length cJ]),bj,rfl,(New.pair (New.int (by decide)) e5),(N.trans bG),cn,rfl⟩
theorem U0g(h:Hp)(b:Nat)(c:Value)(j:TypeId)(d:List Int)(o:Int×Int)(cc:r00 h b c d o)(r:l0×(Int×Int))(a:r02 d o=some r):
  Tr Tryz.prog 57 #[ptr b 0] (h.set b (p04 c o j)) λv h'=>∃(B:List Value) (m:Hp),v = .agg B.toArray/\New Q1 h m B r.1/\Sub h m/\r00 m b c d r.2/\h'=m.set b (p04 c r.2 j):=by
 unfold r02 at a
 refine T3 (args:=[ptr b 0]) (fn:=Tryz.f57) rfl ?_
 obtain⟨aD,ag,a⟩:=B0 a
 obtain⟨a7,aF⟩:=aD
 try dsimp only at a
 refine Tr.mono (g0e _ b c j d o cc _ ag) ?_
 rintro _ _ ⟨aJ,i,rfl,J,I,P,rfl⟩
 have aw:=J.r
 obtain⟨w,A,aV,C,x,rfl,rfl,t,ax⟩:=I1 aw
 obtain⟨rfl,aQ⟩:=Sl.len ax
 try dsimp only at a
 have k:=New.sndI (J)
 obtain⟨aG,ai,a⟩:=B0 a
 obtain⟨aH,y⟩:=aG
 try dsimp only at a
 refine Tr.mono (G1 _ b c j d aF P 16 (by decide) _ ai) ?_
 rintro _ _ ⟨rfl,l,rfl⟩
 obtain⟨a2,af,a⟩:=B0 a
 have aM:H0 aH:=C1 af
 refine ifB a (λao a=>?_) λao a=>?_
 ·obtain⟨aE,ah,a⟩:=B0 a
  obtain⟨K,a6⟩:=aE
  try dsimp only at a
  refine Tr.mono (G1 _ b c j d y l 6 (by decide) _ ah) ?_
  rintro _ _ ⟨rfl,N,rfl⟩
  obtain⟨aZ,ac,a⟩:=B0 a
  have aL:H0 K:=C1 ac
  obtain rfl:=oJ a
  exact⟨([.int .i64 (IntKind.i64.wrap (K-1)),.slice A x.length C]),i,rfl,(New.pair (New.int (F0 _)) k),I,N,rfl⟩
 ·refine ifB a (λan a=>?_) λan a=>?_
  ·intro a3 aN X
   obtain⟨n,s,ap,rfl⟩:=U0.beside l.no X
   obtain⟨f,g,rfl,H,u,aR⟩:=U0.out (r:=Wp.int.toRp) s (show F2 (Wp.int.R i) ([]:List (List Value)) ([]:D0) from trivial)
   have e:=l.mono u ap
   rcases New.two k with⟨rfl,rfl,rfl⟩|⟨aK,aY,rfl⟩
   ·skip
    refine Or.inr ?_
    obtain⟨a0,ad,a⟩:=B0 a
    obtain⟨L,aB,aa,_⟩:=(U0.newPlain (r:=Wp.int) s (show F2 (Wp.int.R i) ([]:List (List Value)) ([]:D0) from trivial) (U04 _))
    refine aI (aI rfl (Y0r ad (F2.length (show F2 (C0.R n) ([[.slice f (([]:D0)).length g]]:List (List Value)) [([]:D0)] from⟨H,trivial⟩)))) ?_
    intro a4 aO al
    obtain⟨D,Y,aq,rfl⟩:=g0m.beside e.no al
    obtain⟨p,aj,au,aW,S,rfl⟩:=New.appN (r:=C0) k u (show F3 (C0.W n) ([[.slice f (([]:D0)).length g]]:List (List Value)) [([]:D0)] [L] from⟨aB,trivial⟩) (R4.older (Sub.refl _) aa) Y
    have ay:=p.r
    obtain⟨U,aS⟩:=Sl.len ay
    subst U
    have O:r00 D b c d y:=⟨aq,Sl.mono (r:=Rp.u8) p.sub (cc.rd),e.pl,e.nm⟩
    obtain rfl:=oJ a
    exact⟨([.int .i64 w,.slice (some ⟨aj,au,none⟩) (([]:L1) ++ [([]:D0)]).length S]),D,rfl,(New.pair (New.int t) p),p.sub,O,rfl⟩
   ·skip
    obtain⟨a1,ae,a⟩:=B0 a
    obtain⟨z,aC,ab,_⟩:=(U0.newPlain (r:=Wp.int) s (show F2 (Wp.int.R i) ([]:List (List Value)) ([]:D0) from trivial) (U04 _))
    obtain⟨aA,G,F,M⟩:=New.app k u
    refine eX aA (aI (w0e.setB e.no G) (aI (T0 ae (by first|rw[F,F2.length (show F2 (C0.R n) ([[.slice f (([]:D0)).length g]]:List (List Value)) [([]:D0)] from⟨H,trivial⟩)]|(rw[F];rfl))) ?_))
    intro a5 aP am
    obtain⟨E,Z,ar,rfl⟩:=B0i.beside e.no G am
    obtain⟨q,ak,av,aX,T,rfl⟩:=M ([[.slice f (([]:D0)).length g]]:List (List Value)) [([]:D0)] [z] _ _ (show F3 (C0.W n) ([[.slice f (([]:D0)).length g]]:List (List Value)) [([]:D0)] [z] from⟨aC,trivial⟩) (R4.older (Sub.refl _) ab) Z
    have az:=q.r
    obtain⟨V,aU⟩:=Sl.len az
    subst V
    have Q:r00 E b c d y:=⟨ar,Sl.mono (r:=Rp.u8) q.sub (cc.rd),e.pl,e.nm⟩
    obtain rfl:=oJ a
    exact⟨([.int .i64 w,.slice (some ⟨ak,av,none⟩) (x ++ [([]:D0)]).length T]),E,rfl,(New.pair (New.int t) q),q.sub,Q,rfl⟩
  ·obtain rfl:=oJ a
   exact⟨([.int .i64 w,.slice A x.length C]),i,rfl,(New.pair (New.int t) k),I,l,rfl⟩
end Go.Proofs.YtfphndijjmdiiaaGreat
