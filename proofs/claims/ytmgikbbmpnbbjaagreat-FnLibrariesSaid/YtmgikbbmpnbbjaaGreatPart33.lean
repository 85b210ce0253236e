/- Texts of the claim, joined: The walks of batch g2 and others. -/
import Derived.Test.YtmgikbbmpnbbjaaGreatPart23
import Derived.Test.YtmgikbbmpnbbjaaGreatChecked
import Derived.Test.YtmgikbbmpnbbjaaGreatH35
import Derived.Test.YtmgikbbmpnbbjaaGreatPart31
import Derived.Test.YtmgikbbmpnbbjaaGreatSE
import Derived.Test.YtmgikbbmpnbbjaaGreatPart26
import Derived.Test.YtmgikbbmpnbbjaaGreatH40
import Derived.Test.YtmgikbbmpnbbjaaGreatH41
import Derived.Test.YtmgikbbmpnbbjaaGreatH48
import Derived.Test.YtmgikbbmpnbbjaaGreatPart22
import Derived.Test.YtmgikbbmpnbbjaaGreatH36
namespace Go.Proofs.YtmgikbbmpnbbjaaGreat
open Go.H
set_option linter.unusedVariables false
set_option linter.unusedSimpArgs false
set_option maxRecDepth 10000
theorem A7(h:Hp)(d:List Value)(i:j0)(x:O1.R h d i)(r:j0)(a:J4 i=some r):
  Tr Tryz.prog 116 #[.agg d.toArray] h λv h'=>∃(f:Nat) (g c:Nat),v = .agg ([.int .i64 r.1,.int .i64 r.2.1,.slice (some ⟨f,0,none⟩) g c]:List Value).toArray/\New O1 h h' [.int .i64 r.1,.int .i64 r.2.1,.slice (some ⟨f,0,none⟩) g c] r:=by
 obtain⟨u,w,l,C,m,j,rfl,rfl,s,t,k⟩:=F0 x
 obtain⟨rfl,A⟩:=Sl.len k
 unfold J4 at a
 dsimp only at a
 refine E3 (args:=[.agg #[.int .i64 u,.int .i64 w,.slice l j.length m]]) (fn:=Tryz.f116) rfl ?_
 refine Or.inr (Or.inr (Or.inl (aI (aI (by kernel_rfl) (by kernel_rfl)) ?_)))
 refine Or.inr ?_
 refine Or.inr ?_
 refine Or.inr ?_
 refine Or.inr ?_
 refine Or.inl (eX 0 (aI (aI rfl rfl) ?_))
 refine aT ?_
 obtain⟨y,o,b⟩:=Sl.rows (r:=P1.toRp) k
 refine eX y (aI o ?_)
 obtain⟨D,p,a⟩:=D0 a
 refine aI (N2 p (by first|rw[F2.length (show F2 (P1.R h) ([]:List (List Value)) ([]:V0) from trivial),F2.length b]|exact congrArg (·+1) (F2.length (show F2 (P1.R h) ([]:List (List Value)) ([]:V0) from trivial)))) ?_
 refine aT ?_
 refine aT ?_
 refine aT ?_
 intro G z e
 obtain⟨q,n,rfl,E,F,B⟩:=J1.outS (r:=P1.toRp) e (F2.append (show F2 (P1.R h) ([]:List (List Value)) ([]:V0) from trivial) b)
 obtain rfl:=oJ a
 exact⟨q,((([]:V0)++j)).length,n,rfl,(New.pair (New.int s) (New.pair (New.int t) (J1.newPlain (r:=P1) e (F2.append (show F2 (P1.R h) ([]:List (List Value)) ([]:V0) from trivial) b) (s06 _))))⟩
theorem q0e(h:Hp)(k:List Value)(l:j0)(z:O1.R h k l)(f:Int)(E:J0 f)(r:Int)(e:t02 l f=some r):
  Tr Tryz.prog 243 #[.agg k.toArray,.int .i64 f] h λv h'=>v = .int .i64 r/\h'=h:=by
 obtain⟨x,y,n,L,o,i,rfl,rfl,C,D,m⟩:=F0 z
 obtain⟨rfl,K⟩:=Sl.len m
 unfold t02 at e
 dsimp only at e
 refine Tr.forget (E3 (args:=[.agg #[.int .i64 x,.int .i64 y,.slice n i.length o],.int .i64 f]) (fn:=Tryz.f243) rfl ?_)
 obtain⟨j,p,e⟩:=D0 e
 refine eX { vars:=[5,11],boxes:=[],owns:=[],fuel:=true } (eX (λvs os h'=>∃ b c,vs.tail = [.int .i64 b,.int .i64 c]/\os = []/\Sub h h'/\J0 b/\J0 c/\Z5 i f (D2 vs) b c=some j) (eX (λ_ _=>0) (aI (eX Y0 ⟨0,0,rfl,rfl,(Sub.refl _),(by decide),(by decide),p⟩) ?_)))
 rintro _ _ d J ⟨b,c,⟨⟩,⟨⟩,g,w,F,a⟩
 replace a:Z5 i f d b c=some j:=a
 obtain _|d:=d
 ·cases a
 rw[Z5.eq_2]at a
 refine ifB a (λs a=>?_) λs a=>?_
 ·refine ld a (U0.mono g m) λM B A a=>?_
  obtain⟨N,O,P,rfl,rfl,G,H,I⟩:=Q2 A
  try dsimp only at a
  refine ifB a (λt a=>?_) λt a=>?_
  ·refine ifB a (λu a=>?_) λu a=>?_
   ·exact U2 d ⟨(IntKind.i64.wrap ((IntKind.i64.wrap (b+1))+1)),(IntKind.i64.wrap (c+1)),rfl,rfl,g,(I0 _),(I0 _),a⟩
   ·exact U2 d ⟨(IntKind.i64.wrap (b+1)),(IntKind.i64.wrap (c+1)),rfl,rfl,g,(I0 _),(I0 _),a⟩
  ·refine ifB a (λq a=>?_) λq a=>?_
   ·exact U2 d ⟨(IntKind.i64.wrap (b+1)),(IntKind.i64.wrap (c+1)),rfl,rfl,g,(I0 _),(I0 _),a⟩
   ·exact U2 d ⟨b,(IntKind.i64.wrap (c+1)),rfl,rfl,g,w,(I0 _),a⟩
 ·obtain rfl:=oJ a
  try dsimp only[Z0,I1]at e
  obtain rfl:=oJ e
  exact aI rfl g
theorem w03(h:Hp)(i:Option Addr)(n k:Nat)(d:V0)(p:U0.R h [.slice i n k] d)(j:Option Addr)(o l:Nat)(e:V0)(q:U0.R h [.slice j o l] e)(r:Bool)(b:P3 d e=some r):
  Tr Tryz.prog 216 #[.slice i n k,.slice j o l] h λv h'=>v = .bool r/\h'=h:=by
 obtain⟨rfl,P⟩:=Sl.len p
 obtain⟨rfl,Q⟩:=Sl.len q
 unfold P3 at b
 refine Tr.forget (E3 (args:=[.slice i d.length k,.slice j e.length l]) (fn:=Tryz.f216) rfl ?_)
 refine ifB b (λt b=>?_) λt b=>?_
 ·obtain rfl:=oJ b
  exact aI rfl (Sub.refl _)
 ·obtain⟨m,s,b⟩:=D0 b
  refine eX { vars:=[13],boxes:=[],owns:=[],fuel:=true } (eX (λvs os h'=>∃ c,vs.tail = [.int .i64 c]/\os = []/\Sub h h'/\J0 c/\A2 d e (D2 vs) c=some m) (eX (λ_ _=>0) (aI (eX Y0 ⟨0,rfl,rfl,(Sub.refl _),(by decide),s⟩) ?_)))
  rintro _ g O ⟨c,⟨⟩,⟨⟩,f,H,a⟩
  replace a:A2 d e g c=some m:=a
  obtain _|g:=g
  ·cases a
  rw[A2.eq_2]at a
  refine ifB a (λu a=>?_) λu a=>?_
  ·refine Or.inl (aI (aI (by kernel_rfl) (by kernel_rfl)) ?_)
   refine ld a (U0.mono f p) λS F x a=>?_
   obtain⟨z,A,B,rfl,rfl,I,J,K⟩:=Q2 x
   try dsimp only at a
   refine ld a (U0.mono f q) λT G y a=>?_
   obtain⟨C,D,E,rfl,rfl,L,M,N⟩:=Q2 y
   try dsimp only at a
   refine eX (!eqE (z,A,B) (C,D,E)) (aI (X0j _ _ _ rfl _ _ _ _ _ _) ?_)
   refine ifB a (λw a=>?_) λw a=>?_
   ·obtain rfl:=oJ a
    try dsimp only[L3,N3]at b
    obtain rfl:=oJ b
    exact aI rfl f
   ·exact U2 g ⟨(IntKind.i64.wrap (c+1)),rfl,rfl,f,(I0 _),a⟩
  ·obtain rfl:=oJ a
   try dsimp only[Z0,I1]at b
   obtain rfl:=oJ b
   exact aI rfl f
theorem t06(h:Hp)(b:List Value)(d:j0)(u:O1.R h b d)(c:List Value)(e:j0)(w:O1.R h c e)(r:Bool)(a:P9 d e=some r):
  Tr Tryz.prog 132 #[.agg b.toArray,.agg c.toArray] h λv h'=>v = .bool r/\h'=h:=by
 obtain⟨m,n,i,D,k,o,rfl,rfl,x,y,f⟩:=F0 u
 obtain⟨rfl,B⟩:=Sl.len f
 obtain⟨p,s,j,E,l,t,rfl,rfl,z,A,g⟩:=F0 w
 obtain⟨rfl,C⟩:=Sl.len g
 unfold P9 at a
 dsimp only at a
 refine Tr.forget (E3 (args:=[.agg #[.int .i64 m,.int .i64 n,.slice i o.length k],.agg #[.int .i64 p,.int .i64 s,.slice j t.length l]]) (fn:=Tryz.f132) rfl ?_)
 refine trG a (λq=>w03 _ _ _ _ _ f _ _ _ _ g) λF a=>?_
 obtain rfl:=oJ a
 exact aI rfl (Sub.refl _)
theorem a0a(h:Hp)(F:List Value)(I:j0)(an:O1.R h F I)(g:Int)(aG:J0 g)(r:(List Bool))(e:z00 I g=some r):
  Tr Tryz.prog 242 #[.agg F.toArray,.int .i64 g] h λv h'=>∃(D:Option Addr) (H E:Nat),v = .slice D H E/\(Wp.slice Wp.bool).R h' [.slice D H E] r/\Sub h h':=by
 obtain⟨am,o,K,aP,S,q,rfl,rfl,aE,aF,J⟩:=F0 an
 obtain⟨rfl,aN⟩:=Sl.len J
 unfold z00 at e
 dsimp only at e
 refine E3 (args:=[.agg #[.int .i64 am,.int .i64 o,.slice K q.length S],.int .i64 g]) (fn:=Tryz.f242) rfl ?_
 obtain⟨aQ,aa,e⟩:=D0 e
 refine aI (O0 aa) ?_
 obtain⟨aX,ad,e⟩:=D0 e
 obtain⟨O,aB,W,ar⟩:=W4 (F2.rep (p:=Wp.bool.R h) (a:=[.bool false]) (b:=false) rfl (o.toNat)) ad
 refine aI O ?_
 obtain rfl:=ar
 refine eX _ (aI W ?_)
 obtain⟨B,ag,e⟩:=D0 e
 refine eX { vars:=[6],boxes:=[],owns:=[0],fuel:=true,kept:=[0] } (eX (λvs os h'=>∃ u w l,vs.tail = [.bool u]/\os = [w]/\Sub h h'/\F2 (Wp.bool.R h') w l/\I5 q (D2 vs) u l=some B) (eX (λ_ _=>0) (aI (eX Y0 ⟨true,((List.replicate o.toNat ([.bool false]:List Value)).set g.toNat [.bool true]),((List.replicate o.toNat (false:Bool)).set g.toNat true),rfl,rfl,(Sub.refl _),(F2.set (p:=Wp.bool.R h) (a:=[.bool true]) (b:=true) rfl g.toNat (F2.rep (p:=Wp.bool.R h) (a:=[.bool false]) (b:=false) rfl (o.toNat))),ag⟩) ?_)))
 rintro _ w s al ⟨u,a1,l,⟨⟩,⟨⟩,z,G,d⟩
 replace d:I5 q s u l=some B:=d
 obtain _|s:=s
 ·cases d
 rw[I5.eq_2]at d
 refine ifB d (λak d=>?_) λak d=>?_
 ·obtain⟨C,ah,d⟩:=D0 d
  refine eX { vars:=[6,19],boxes:=[],owns:=[0],fuel:=true,kept:=[0] } (eX (λvs os h'=>∃ k i m j,vs.tail = [.bool k,.int .i64 i]/\os = [m]/\Sub al h'/\J0 i/\F2 (Wp.bool.R h') m j/\Q4 q (D2 vs) k i j=some C) (eX (λ_ _=>0) (aI (eX Y0 ⟨false,0,w,l,rfl,rfl,(Sub.refl _),(by decide),G,ah⟩) ?_)))
  rintro _ _ m n y ⟨k,i,a0,j,⟨⟩,⟨⟩,t,aH,f,c⟩
  replace c:Q4 q n k i j=some C:=c
  obtain _|n:=n
  ·cases c
  rw[Q4.eq_2]at c
  refine ifB c (λai c=>?_) λai c=>?_
  ·refine ld c (U0.mono (z.trans t) J) λaS ay ao c=>?_
   obtain⟨x,aU,A,rfl,rfl,aJ,aK,aL⟩:=Q2 ao
   try dsimp only at c
   refine Or.inl (aI (aI (by kernel_rfl) (by kernel_rfl)) ?_)
   obtain⟨aV,ab,c⟩:=D0 c
   obtain⟨M,az,U,ap⟩:=W4 f ab
   refine aI M ?_
   obtain rfl:=ap
   refine eX _ (aI U ?_)
   obtain⟨aW,ac,c⟩:=D0 c
   obtain⟨N,aA,V,aq⟩:=W4 f ac
   refine aI N ?_
   obtain rfl:=aq
   refine eX _ (aI V ?_)
   refine ifB c (λaj c=>?_) λaj c=>?_
   ·obtain⟨aY,ae,c⟩:=D0 c
    obtain⟨P,aC,X,au⟩:=W4 f ae
    refine aI P ?_
    obtain rfl:=au
    refine eX _ (aI X ?_)
    obtain⟨aZ,af,c⟩:=D0 c
    obtain⟨Q,aD,Y,av⟩:=W4 (F2.set (p:=Wp.bool.R y) (a:=[.bool true]) (b:=true) rfl x.toNat f) af
    refine aI Q ?_
    obtain rfl:=av
    refine eX _ (aI Y ?_)
    exact U2 n ⟨true,(IntKind.i64.wrap (i+1)),((m.set x.toNat [.bool true]).set A.toNat [.bool true]),((j.set x.toNat true).set A.toNat true),rfl,rfl,t,(I0 _),(F2.set (p:=Wp.bool.R y) (a:=[.bool true]) (b:=true) rfl A.toNat (F2.set (p:=Wp.bool.R y) (a:=[.bool true]) (b:=true) rfl x.toNat f)),c⟩
   ·exact U2 n ⟨k,(IntKind.i64.wrap (i+1)),m,j,rfl,rfl,t,(I0 _),f,c⟩
  ·obtain rfl:=oJ c
   try dsimp only[Z0,I1]at d
   exact U2 s ⟨k,m,j,rfl,rfl,(z.trans t),f,d⟩
 ·obtain rfl:=oJ d
  try dsimp only[Z0,I1]at e
  intro aR aM Z
  obtain⟨L,T,rfl,aw,ax,aO⟩:=J1.out (r:=Wp.bool.toRp) Z G
  obtain rfl:=oJ e
  exact⟨L,l.length,T,rfl,aw,(z.trans ax)⟩
theorem q09(h:Hp)(c:Int)(A:J0 c)(r:D1)(e:l00 c=some r):
  Tr Tryz.prog 226 #[.int .i64 c] h λv h'=>∃(k:Option Addr) (o l:Nat),v = .slice k o l/\E2.R h' [.slice k o l] r/\Sub h h':=by
 unfold l00 at e
 refine E3 (args:=[.int .i64 c]) (fn:=Tryz.f226) rfl ?_
 obtain⟨j,w,e⟩:=D0 e
 refine eX { vars:=[4],boxes:=[],owns:=[0],fuel:=true } (eX (λvs os h'=>∃ a i d,vs.tail = [.int .i64 a]/\os = [i]/\Sub h h'/\J0 a/\F2 (Wp.int.R h') i d/\I8 c (D2 vs) a d=some j) (eX (λ_ _=>0) (aI (eX Y0 ⟨1,[],([]:D1),rfl,rfl,(Sub.refl _),(by decide),(show F2 (Wp.int.R h) ([]:List (List Value)) ([]:D1) from trivial),w⟩) ?_)))
 rintro _ i g n ⟨a,F,d,⟨⟩,⟨⟩,p,m,f,b⟩
 replace b:I8 c g a d=some j:=b
 obtain _|g:=g
 ·cases b
 rw[I8.eq_2]at b
 refine ifB b (λx b=>?_) λx b=>?_
 ·obtain⟨D,u,b⟩:=D0 b
  refine aI (N2 u (by first|rw[F2.length f,F2.length (show F2 (Wp.int.R n) ([[.int .i64 a],[.int .i64 (IntKind.i64.wrap (0-a))]]:List (List Value)) [a,(IntKind.i64.wrap (0-a))] from⟨⟨rfl,m⟩,⟨⟨rfl,(I0 _)⟩,trivial⟩⟩)]|exact congrArg (·+2) (F2.length f))) ?_
  exact U2 g ⟨(IntKind.i64.wrap (a+1)),(i++([[.int .i64 a],[.int .i64 (IntKind.i64.wrap (0-a))]]:List (List Value))),(d ++ [a,(IntKind.i64.wrap (0-a))]),rfl,rfl,p,(I0 _),(F2.append f (show F2 (Wp.int.R n) ([[.int .i64 a],[.int .i64 (IntKind.i64.wrap (0-a))]]:List (List Value)) [a,(IntKind.i64.wrap (0-a))] from⟨⟨rfl,m⟩,⟨⟨rfl,(I0 _)⟩,trivial⟩⟩)),b⟩
 ·obtain rfl:=oJ b
  try dsimp only[Z0,I1]at e
  intro E B t
  obtain⟨q,s,rfl,y,z,C⟩:=J1.out (r:=Wp.int.toRp) t f
  obtain rfl:=oJ e
  exact⟨q,d.length,s,rfl,y,(p.trans z)⟩
theorem I03(h:Hp)(c:Option Addr)(l d:Nat)(b:V0)(o:U0.R h [.slice c l d] b)(r:V0)(a:U8 b=some r):
  Tr Tryz.prog 191 #[.slice c l d] h λv h'=>∃(e:Option Addr) (k f:Nat),v = .slice e k f/\New U0 h h' [.slice e k f] r:=by
 obtain⟨rfl,D⟩:=Sl.len o
 unfold U8 at a
 refine E3 (args:=[.slice c b.length d]) (fn:=Tryz.f191) rfl ?_
 obtain⟨x,s,g⟩:=Sl.rows (r:=P1.toRp) o
 refine eX x (aI s ?_)
 obtain⟨G,u,a⟩:=D0 a
 refine aI (N2 u (by first|rw[F2.length (show F2 (P1.R h) ([]:List (List Value)) ([]:V0) from trivial),F2.length g]|exact congrArg (·+1) (F2.length (show F2 (P1.R h) ([]:List (List Value)) ([]:V0) from trivial)))) ?_
 refine Or.inl ?_
 intro M A t
 obtain⟨H,w,a⟩:=D0 a
 refine Tr.mono (n0m _ t (F2.append (show F2 (P1.R h) ([]:List (List Value)) ([]:V0) from trivial) g) (O0 w)) ?_
 rintro _ B ⟨rfl,N,i,m⟩
 obtain⟨y,z,rfl,I,K,E⟩:=J1.out (r:=P1.toRp) i m
 refine Tr.mono (o0m _ i m) ?_
 rintro _ C ⟨O,j,n⟩
 obtain⟨p,q,rfl,J,L,F⟩:=J1.out (r:=P1.toRp) j n
 obtain rfl:=oJ a
 exact⟨p,((B04 eqE (s07 S0 (([]:V0)++b)))).length,q,rfl,(J1.newPlain (r:=P1) j n (s06 _))⟩
theorem e0e(h:Hp)(W:List Value)(ad:j0)(aW:O1.R h W ad)(H:Option Addr)(ac I:Nat)(u:D1)(ag:E2.R h [.slice H ac I] u)(r:j0)(d:b04 ad u=some r):
  Tr Tryz.prog 244 #[.agg W.toArray,.slice H ac I] h λv h'=>∃(V:List Value),v = .agg V.toArray/\New O1 h h' V r:=by
 obtain⟨ae,g,ah,bG,ao,O,rfl,rfl,aP,bm,af⟩:=F0 aW
 obtain⟨rfl,bD⟩:=Sl.len af
 obtain⟨rfl,aU⟩:=Sl.len ag
 unfold b04 at d
 dsimp only at d
 refine E3 (args:=[.agg #[.int .i64 ae,.int .i64 g,.slice ah O.length ao],.slice H u.length I]) (fn:=Tryz.f244) rfl ?_
 obtain⟨bI,az,d⟩:=D0 d
 refine aI (O0 az) ?_
 obtain⟨aV,ay,d⟩:=D0 d
 obtain rfl:(List.replicate g.toNat ([.int .i64 0]:List Value)).length=aV:=(F2.length (F2.rep (p:=Wp.int.R h) (a:=[.int .i64 0]) (b:=0) ⟨rfl,(by decide)⟩ (g.toNat))).trans (oJ ay)
 obtain⟨bJ,bl,d⟩:=D0 d
 obtain⟨U,aK,d⟩:=D0 d
 refine eX { vars:=[17],boxes:=[],owns:=[0],fuel:=true,kept:=[0] } (eX (λvs os h'=>∃ f B x,vs.tail = [.int .i64 f]/\os = [B]/\Sub h h'/\J0 f/\F2 (Wp.int.R h') B x/\H00 ((List.replicate g.toNat ([.int .i64 0]:List Value))).length (D2 vs) f x=some U) (eX (λ_ _=>0) (aI (eX Y0 ⟨0,(List.replicate g.toNat ([.int .i64 0]:List Value)),(List.replicate g.toNat (0:Int)),rfl,rfl,(Sub.refl _),(by decide),(F2.rep (p:=Wp.int.R h) (a:=[.int .i64 0]) (b:=0) ⟨rfl,(by decide)⟩ (g.toNat)),aK⟩) ?_)))
 rintro _ B D ab ⟨f,b2,x,⟨⟩,⟨⟩,F,bo,J,c⟩
 replace c:H00 ((List.replicate g.toNat ([.int .i64 0]:List Value))).length D f x=some U:=c
 obtain _|D:=D
 ·cases c
 rw[H00.eq_2]at c
 refine ifB c (λaO c=>?_) λaO c=>?_
 ·obtain⟨bT,aB,c⟩:=D0 c
  obtain⟨aj,bd,aq,aX⟩:=W4 J aB
  refine aI aj ?_
  obtain⟨rfl,bp⟩:=aX
  refine eX _ (aI aq ?_)
  exact U2 D ⟨(IntKind.i64.wrap (f+1)),(B.set f.toNat [.int .i64 (-1)]),(x.set f.toNat (-1)),rfl,rfl,F,(I0 _),(F2.set (p:=Wp.int.R ab) (a:=[.int .i64 (-1)]) (b:=(-1)) ⟨rfl,(by decide)⟩ f.toNat J),c⟩
 ·obtain rfl:=oJ c
  try dsimp only[Z0,I1]at d
  obtain⟨S,aH,d⟩:=D0 d
  refine eX { vars:=[26],boxes:=[],owns:=[0],fuel:=true,kept:=[0] } (eX (λvs os h'=>∃ e G n,vs.tail = [.int .i64 e]/\os = [G]/\Sub ab h'/\J0 e/\F2 (Wp.int.R h') G n/\G00 u (D2 vs) e n=some S) (eX (λ_ _=>0) (aI (eX Y0 ⟨0,B,x,rfl,rfl,(Sub.refl _),(by decide),J,aH⟩) ?_)))
  rintro _ G C M ⟨e,b0,n,⟨⟩,⟨⟩,E,aQ,t,c⟩
  replace c:G00 u C e n=some S:=c
  obtain _|C:=C
  ·cases c
  rw[G00.eq_2]at c
  refine ifB c (λaL c=>?_) λaL c=>?_
  ·refine ldI c (E2.mono (F.trans E) ag) λQ bq c=>?_
   obtain⟨bU,aC,c⟩:=D0 c
   obtain⟨ak,be,ar,aY⟩:=W4 t aC
   refine aI ak ?_
   obtain⟨rfl,br⟩:=aY
   refine eX _ (aI ar ?_)
   exact U2 C ⟨(IntKind.i64.wrap (e+1)),(G.set Q.toNat [.int .i64 e]),(n.set Q.toNat e),rfl,rfl,E,(I0 _),(F2.set (p:=Wp.int.R M) (a:=[.int .i64 e]) (b:=e) ⟨rfl,aQ⟩ Q.toNat t),c⟩
  ·obtain rfl:=oJ c
   try dsimp only[Z0,I1]at d
   obtain⟨T,aJ,d⟩:=D0 d
   refine eX { vars:=[44],boxes:=[2],owns:=[1],fuel:=true,nilsB:=[(2,2,124,3,24)] } (eX (λvs os h'=>∃ o j k A w,vs.tail = [.int .i64 o,.int .i64 j,.int .i64 k]/\os = [A]/\Sub M h'/\J0 o/\J0 j/\J0 k/\F2 (P1.R h') A w/\c00 O n (D2 vs) o j k w=some T) (eX (λ_ _=>0) (aI (eX Y0 ⟨0,ae,((u.length:Nat):Int),[],([]:V0),rfl,rfl,(Sub.refl _),(by decide),aP,(H0b aU),(show F2 (P1.R M) [] [] from trivial),aJ⟩) ?_)))
   rintro _ _ _ A z N ⟨o,j,k,b1,w,⟨⟩,⟨⟩,i,bn,K,L,y,c⟩
   replace c:c00 O n z o j k w=some T:=c
   obtain _|z:=z
   ·cases c
   rw[c00.eq_2]at c
   refine ifB c (λaM c=>?_) λaM c=>?_
   ·refine ld c (U0.mono ((F.trans E).trans i) af) λbV bf aZ c=>?_
    obtain⟨bW,s,bX,rfl,rfl,bs,Y,bt⟩:=Q2 aZ
    try dsimp only at c
    obtain⟨bY,aD,c⟩:=D0 c
    obtain⟨al,bg,au,a0⟩:=W4 (F2.up (r:=Wp.int.toRp) i t) aD
    refine aI al ?_
    obtain⟨rfl,bu⟩:=a0
    refine eX _ (aI au ?_)
    obtain⟨bZ,aE,c⟩:=D0 c
    obtain⟨bh,X,a1⟩:=l05 (F2.up (r:=Wp.int.toRp) i t) aE (B0f N)
    refine aI (λq=>(X q).1) ?_
    obtain⟨rfl,bv⟩:=a1
    refine eX _ (aI (λq=>(X q).2) ?_)
    refine ifB c (λaN c=>?_) λaN c=>?_
    ·refine Or.inr (Or.inr (Or.inl (aI (aI (by kernel_rfl) (by kernel_rfl)) ?_)))
     obtain⟨l,aF,c⟩:=D0 c
     obtain⟨am,bi,av,a2⟩:=W4 (F2.up (r:=Wp.int.toRp) i t) aF
     obtain⟨rfl,Z⟩:=a2
     refine Or.inl ?_
     apply eX
     refine aI ?_ ?_
     ·intro bx bL
      exact aI am (aI rfl (aI rfl rfl))
     refine Or.inl (eX (.val (.int .i64 l)) (aI ?_ ?_))
     ·intro bz bM
      exact eX _ (aI av (aI rfl (aI rfl rfl)))
     obtain⟨m,aG,c⟩:=D0 c
     obtain⟨an,bj,aw,a3⟩:=W4 (F2.up (r:=Wp.int.toRp) i t) aG
     obtain⟨rfl,aa⟩:=a3
     refine Or.inl ?_
     apply eX
     refine aI ?_ ?_
     ·intro bA bN
      exact aI an (aI rfl (aI rfl rfl))
     refine Or.inl (eX (.val (.int .i64 m)) (aI ?_ ?_))
     ·intro bB bO
      exact eX _ (aI aw (aI rfl (aI rfl rfl)))
     refine Or.inl (eX (.agg [.val (.int .i64 l),.val (.int .i64 s),.val (.int .i64 m)]) (aI ?_ ?_))
     ·intro bC bP
      exact aI rfl (aI rfl rfl)
     refine Or.inr ?_
     refine Or.inr ?_
     refine Or.inr ?_
     refine Or.inl (eX 0 (aI (aI rfl rfl) ?_))
     refine aT ?_
     obtain⟨bK,aA,c⟩:=D0 c
     refine aI (N2 aA (by first|rw[F2.length y,F2.length (show F2 (P1.R N) ([[.int .i64 l,.int .i64 s,.int .i64 m]]:List (List Value)) [(l,s,m)] from⟨(K1 Z Y aa),trivial⟩)]|exact congrArg (·+1) (F2.length y))) ?_
     refine aT ?_
     refine aT ?_
     exact U2 z ⟨(IntKind.i64.wrap (o+1)),j,k,(A++([[.int .i64 l,.int .i64 s,.int .i64 m]]:List (List Value))),(w ++ [(l,s,m)]),rfl,rfl,i,(I0 _),K,L,(F2.append y (show F2 (P1.R N) ([[.int .i64 l,.int .i64 s,.int .i64 m]]:List (List Value)) [(l,s,m)] from⟨(K1 Z Y aa),trivial⟩)),c⟩
    ·exact U2 z ⟨(IntKind.i64.wrap (o+1)),j,k,A,w,rfl,rfl,i,(I0 _),K,L,y,c⟩
   ·obtain rfl:=oJ c
    try dsimp only[Z0,I1]at d
    refine Or.inl ?_
    intro bR aR ax
    obtain⟨bc,bk,rfl,a5,ba,bF⟩:=J1.out (r:=P1.toRp) ax y
    refine trM d (I03 _ _ _ _ _ a5) ?_
    rintro bb d bS aS ⟨ai,bH,ap,rfl,P⟩
    have bQ:Sub aR aS:=P.sub
    have a4:=P.r
    obtain⟨rfl,bE⟩:=Sl.len a4
    obtain rfl:=oJ d
    exact⟨([.int .i64 j,.int .i64 k,.slice ai bb.length ap]),rfl,(New.pair (New.int K) (New.pair (New.int L) (New.from P (((F.trans E).trans i).trans ba))))⟩
theorem Y06(h:Hp)(c:ByteArray)(s:c.size<=9223372036854775807)(r:Bool)(b:L01 c=some r):
  Tr Tryz.prog 34 #[.string c] h λv h'=>v = .bool r/\h'=h:=by
 unfold L01 at b
 refine Tr.forget (E3 (args:=[.string c]) (fn:=Tryz.f34) rfl ?_)
 refine trV b (P01 _ _ (H0b s) 1 (by decide) 8 (by decide)) λy b=>?_
 refine ifB b (λo b=>?_) λo b=>?_
 ·obtain rfl:=oJ b
  exact aI rfl (Sub.refl _)
 ·obtain⟨g,m,b⟩:=D0 b
  refine eX { vars:=[3],boxes:=[],owns:=[],fuel:=true } (eX (λvs os h'=>∃ d,vs.tail = [.int .i64 d]/\os = []/\Sub h h'/\J0 d/\B9 c (D2 vs) d=some g) (eX (λ_ _=>0) (aI (eX Y0 ⟨0,rfl,rfl,(Sub.refl _),(by decide),m⟩) ?_)))
  rintro _ e x ⟨d,⟨⟩,⟨⟩,f,w,a⟩
  replace a:B9 c e d=some g:=a
  obtain _|e:=e
  ·cases a
  rw[B9.eq_2]at a
  refine ifB a (λp a=>?_) λp a=>?_
  ·obtain⟨A,k,a⟩:=D0 a
   refine eX _ (aI (k05 k) ?_)
   obtain⟨u,l,a⟩:=D0 a
   refine eX u (aI (λq=>k05 (c5 l q)) ?_)
   obtain⟨z,i,a⟩:=D0 a
   refine eX _ (aI (k05 i) ?_)
   obtain⟨t,j,a⟩:=D0 a
   refine eX t (aI (λq=>k05 (c5 j q)) ?_)
   refine ifB a (λn a=>?_) λn a=>?_
   ·obtain rfl:=oJ a
    try dsimp only[L3,N3]at b
    obtain rfl:=oJ b
    exact aI rfl f
   ·exact U2 e ⟨(IntKind.i64.wrap (d+1)),rfl,rfl,f,(I0 _),a⟩
  ·obtain rfl:=oJ a
   try dsimp only[Z0,I1]at b
   obtain rfl:=oJ b
   exact aI rfl f
theorem x04(h:Hp)(X:List Value)(am:j0)(bl:O1.R h X am)(e:Int)(bd:J0 e)(r:D1×M6)(f:P7 am e=some r):
  Tr Tryz.prog 250 #[.agg X.toArray,.int .i64 e] h λv h'=>∃(T:Option Addr) (aj V:Nat) (U:Option Addr) (ak W:Nat),v = .tuple #[.slice T aj V,.slice U ak W]/\E2.R h' [.slice T aj V] r.1/\C00.R h' [.slice U ak W] r.2/\Sub h h':=by
 obtain⟨A,i,ax,b7,aF,B,rfl,rfl,af,bc,ao⟩:=F0 bl
 obtain⟨rfl,bW⟩:=Sl.len ao
 unfold P7 at f
 dsimp only at f
 refine E3 (args:=[.agg #[.int .i64 A,.int .i64 i,.slice ax B.length aF],.int .i64 e]) (fn:=Tryz.f250) rfl ?_
 obtain⟨cj,aS,f⟩:=D0 f
 refine aI (O0 aS) ?_
 obtain⟨cv,aY,f⟩:=D0 f
 obtain⟨aC,bG,aK,bn⟩:=W4 (F2.rep (p:=Wp.opt.R h) (a:=[.slice none 0 0]) (b:=none) (e0u h) (i.toNat)) aY
 refine aI aC ?_
 obtain⟨bB,ca,bL,rfl,cg,bi⟩:=bn
 obtain⟨rfl,bY⟩:=Sl.len bi
 intro cq L aP
 obtain⟨ae,Z,rfl,bv,O,b6⟩:=J1.outS (r:=Wp.int.toRp) aP (show F2 (Wp.int.R h) ([]:List (List Value)) ([]:D1) from trivial)
 refine eX _ (aI aK ?_)
 obtain⟨S,a3,f⟩:=D0 f
 refine eX { vars:=[8],boxes:=[],owns:=[0,2],fuel:=true,kept:=[0] } (eX (λvs os h'=>∃ u8 H u D t,vs.tail = [.int .i64 u8]/\os = [H,D]/\Sub L h'/\J0 u8/\F2 (Wp.opt.R h') H u/\F2 (Wp.int.R h') D t/\M5 A i B (D2 vs) u8 u t=some S) (eX (λ_ _=>0) (aI (eX Y0 ⟨0,((List.replicate i.toNat ([.slice none 0 0]:List Value)).set e.toNat [.slice (some ⟨ae,0,none⟩) (([]:D1)).length Z]),((List.replicate i.toNat (none:Option D1)).set e.toNat (some ([]:D1))),([[.int .i64 e]]:List (List Value)),[e],rfl,rfl,(Sub.refl _),(by decide),(F2.set (p:=Wp.opt.R L) (a:=[.slice (some ⟨ae,0,none⟩) (([]:D1)).length Z]) (b:=some ([]:D1)) (f0u bv) e.toNat (F2.up (r:=Wp.opt.toRp) O (F2.rep (p:=Wp.opt.R h) (a:=[.slice none 0 0]) (b:=none) (e0u h) (i.toNat)))),(show F2 (Wp.int.R L) ([[.int .i64 e]]:List (List Value)) [e] from⟨⟨rfl,bd⟩,trivial⟩),a3⟩) ?_)))
 rintro _ H D F bT ⟨u8,cC,u,cy,t,⟨⟩,⟨⟩,N,bS,ab,E,d⟩
 replace d:M5 A i B F u8 u t=some S:=d
 obtain _|F:=F
 ·cases d
 rw[M5.eq_2]at d
 obtain⟨bg,aR,d⟩:=D0 d
 obtain rfl:D.length=bg:=(F2.length E).trans (oJ aR)
 obtain⟨ck,bQ,d⟩:=D0 d
 refine ifB d (λa5 d=>?_) λa5 d=>?_
 ·obtain⟨av,aX,d⟩:=D0 d
  obtain⟨aB,bF,aJ,bm⟩:=W4 E aX
  refine aI aB ?_
  obtain⟨rfl,be⟩:=bm
  refine eX _ (aI aJ ?_)
  refine trM d (q09 _ _ af) ?_
  rintro aw d cp bf ⟨bA,b8,bK,rfl,ap,G⟩
  obtain⟨rfl,bX⟩:=Sl.len ap
  obtain⟨Q,a2,d⟩:=D0 d
  refine eX { vars:=[36],boxes:=[],owns:=[0,2],fuel:=true,kept:=[0] } (eX (λvs os h'=>∃ k w l x m,vs.tail = [.int .i64 k]/\os = [w,x]/\Sub bf h'/\J0 k/\F2 (Wp.opt.R h') w l/\F2 (Wp.int.R h') x m/\Y3 aw A i B av (D2 vs) k l m=some Q) (eX (λ_ _=>0) (aI (eX Y0 ⟨0,H,u,D,t,rfl,rfl,(Sub.refl _),(by decide),(F2.up (r:=Wp.opt.toRp) G ab),(F2.up (r:=Wp.int.toRp) G E),a2⟩) ?_)))
  rintro _ w x z ah ⟨k,cz,l,cA,m,⟨⟩,⟨⟩,C,bR,s,y,c⟩
  replace c:Y3 aw A i B av z k l m=some Q:=c
  obtain _|z:=z
  ·cases c
  rw[Y3.eq_2]at c
  refine ifB c (λba c=>?_) λba c=>?_
  ·refine ldI c (E2.mono C ap) λj J c=>?_
   refine trV c (D01 _ _ _ (l0 af bc (U0.mono (((O.trans N).trans G).trans C) ao)) _ be _ J) λg c=>?_
   obtain⟨cl,aU,c⟩:=D0 c
   have ag:J0 g:=O0 aU
   obtain⟨bz,aZ,c⟩:=D0 c
   obtain⟨bH,aa,bo⟩:=l05 s aZ (q0v ah)
   refine aI (λq=>(aa q).1) ?_
   obtain⟨bC,cb,bM,rfl,bh,bj⟩:=bo
   obtain⟨rfl,bZ⟩:=Sl.len bj
   refine eX _ (aI (λq=>(aa q).2) ?_)
   refine eX (bz.isNone) (aI (λ_=>by rw[←bh];exact r0v _ _ _ rfl _ _ _) ?_)
   refine ifB c (λbb c=>?_) λbb c=>?_
   ·obtain⟨cw,a0,c⟩:=D0 c
    obtain⟨aD,bI,aL,bp⟩:=W4 s a0
    refine aI aD ?_
    obtain⟨bD,cc,bN,rfl,ch,an⟩:=bp
    obtain⟨rfl,b0⟩:=Sl.len an
    refine eX _ (aI aL ?_)
    obtain⟨I,ac,c⟩:=D0 c
    refine Tr.mono (r0e _ _ _ _ _ an _  ac) ?_
    rintro cr K ⟨ac,cd,bO,rfl,P⟩
    have co:Sub ah K:=P.sub
    have bq:=P.r
    obtain⟨rfl,b1⟩:=Sl.len bq
    obtain⟨cm,aV,c⟩:=D0 c
    obtain⟨bx,bs,ai,ay⟩:=New.app P (Sub.refl _)
    refine eX bx (aI bs (aI (N2 aV (by first|rw[ai,F2.length (show F2 (Wp.int.R K) ([[.int .i64 j]]:List (List Value)) [j] from⟨⟨rfl,J⟩,trivial⟩)]|(rw[ai];rfl))) ?_))
    intro cu M a4
    obtain⟨n,ad,al,cf,Y,rfl⟩:=ay _ _ _ _ _ (F3.ofPlain (Q0h _) (show F2 (Wp.int.R K) ([[.int .i64 j]]:List (List Value)) [j] from⟨⟨rfl,J⟩,trivial⟩)) Y4.ofPlain a4
    have aq:=n.r
    obtain⟨aN,b3⟩:=Sl.len aq
    subst aN
    obtain⟨cx,a1,c⟩:=D0 c
    obtain⟨aE,bJ,aM,br⟩:=W4 (F2.up (r:=Wp.opt.toRp) n.sub s) a1
    refine aI aE ?_
    obtain⟨bE,ce,bP,rfl,ci,bk⟩:=br
    obtain⟨rfl,b2⟩:=Sl.len bk
    refine eX _ (aI aM ?_)
    obtain⟨cn,aW,c⟩:=D0 c
    refine aI (N2 aW (by first|rw[F2.length (F2.up (r:=Wp.int.toRp) n.sub y),F2.length (show F2 (Wp.int.R M) ([[.int .i64 g]]:List (List Value)) [g] from⟨⟨rfl,ag⟩,trivial⟩)]|exact congrArg (·+1) (F2.length (F2.up (r:=Wp.int.toRp) n.sub y)))) ?_
    exact U2 z ⟨(IntKind.i64.wrap (k+1)),(w.set g.toNat [.slice (some ⟨ad,al,none⟩) (I ++ [j]).length Y]),(l.set g.toNat (some (I ++ [j]))),(x++([[.int .i64 g]]:List (List Value))),(m ++ [g]),rfl,rfl,(C.trans n.sub),(I0 _),(F2.set (p:=Wp.opt.R M) (a:=[.slice (some ⟨ad,al,none⟩) (I ++ [j]).length Y]) (b:=some (I ++ [j])) (f0u aq) g.toNat (F2.up (r:=Wp.opt.toRp) n.sub s)),(F2.append (F2.up (r:=Wp.int.toRp) n.sub y) (show F2 (Wp.int.R M) ([[.int .i64 g]]:List (List Value)) [g] from⟨⟨rfl,ag⟩,trivial⟩)),c⟩
   ·exact U2 z ⟨(IntKind.i64.wrap (k+1)),w,l,x,m,rfl,rfl,C,(I0 _),s,y,c⟩
  ·obtain rfl:=oJ c
   try dsimp only[Z0,I1]at d
   exact U2 F ⟨(IntKind.i64.wrap (u8+1)),w,l,x,m,rfl,rfl,((N.trans G).trans C),(I0 _),s,y,d⟩
 ·obtain rfl:=oJ d
  try dsimp only[Z0,I1]at f
  intro cs bU aO
  obtain⟨az,aG,rfl,bt,ar,b4⟩:=J1.out (r:=Wp.int.toRp) aO E
  intro ct bV aQ
  obtain⟨aA,aH,rfl,bu,au,b5⟩:=J1.out (r:=E2.toRp) aQ (F2.ofOpt (F2.up (r:=Wp.opt.toRp) ar ab))
  obtain rfl:=oJ f
  exact⟨az,t.length,aG,aA,(List.map (λo:Option D1=>o.getD ([]:D1)) u).length,aH,rfl,(E2.mono au bt),bu,(((O.trans N).trans ar).trans au)⟩
theorem x08(h:Hp)(f:List Value)(k:j0)(z:O1.R h f k)(r:D1)(a:G9 k=some r):
  Tr Tryz.prog 245 #[.agg f.toArray] h λv h'=>∃(d:Option Addr) (j e:Nat),v = .slice d j e/\E2.R h' [.slice d j e] r/\Sub h h':=by
 obtain⟨w,x,m,N,p,y,rfl,rfl,g,i,b⟩:=F0 z
 obtain⟨rfl,J⟩:=Sl.len b
 unfold G9 at a
 dsimp only at a
 refine E3 (args:=[.agg #[.int .i64 w,.int .i64 x,.slice m y.length p]]) (fn:=Tryz.f245) rfl ?_
 refine trV a (k01 _ _ _ (l0 g i b)) λT a=>?_
 refine ifB a (λu a=>?_) λu a=>?_
 ·intro Q H t
  obtain⟨o,s,rfl,A,C,M⟩:=J1.out (r:=Wp.int.toRp) t (show F2 (Wp.int.R h) ([]:List (List Value)) ([]:D1) from trivial)
  obtain rfl:=oJ a
  exact⟨o,(([]:D1)).length,s,rfl,A,C⟩
 ·refine trM a (x04 _ _ _ (l0 g i b) 0 (by decide)) ?_
  rintro D a S I ⟨n,O,q,F,P,G,rfl,c,l,B⟩
  obtain⟨E,U⟩:=D
  dsimp only at a c l
  obtain⟨rfl,K⟩:=Sl.len c
  obtain⟨rfl,L⟩:=Sl.len l
  obtain rfl:=oJ a
  exact⟨n,E.length,q,rfl,c,B⟩
theorem E04(h:Hp)(j:List Value)(k:j0)(I:O1.R h j k)(r:j0)(a:Z7 k=some r):
  Tr Tryz.prog 175 #[.agg j.toArray] h λv h'=>∃(i:List Value),v = .agg i.toArray/\New O1 h h' i r:=by
 obtain⟨F,G,n,ae,p,H,rfl,rfl,c,d,b⟩:=F0 I
 obtain⟨rfl,aa⟩:=Sl.len b
 unfold Z7 at a
 dsimp only at a
 refine E3 (args:=[.agg #[.int .i64 F,.int .i64 G,.slice n H.length p]]) (fn:=Tryz.f175) rfl ?_
 refine trV a (k01 _ _ _ (l0 c d b)) λam a=>?_
 refine ifB a (λx a=>?_) λx a=>?_
 ·refine trM a (A7 _ _ _ (l0 c d b)) ?_
  rintro T a ak D ⟨w,ag,s,rfl,e⟩
  have ai:Sub h D:=e.sub
  have l:=e.r
  obtain⟨U,V,W⟩:=T
  dsimp only at a e l
  obtain⟨_,_,_,_,_,_,t,u,A,B,L⟩:=F0 l
  cases t
  cases u
  obtain⟨rfl,ac⟩:=Sl.len L
  try dsimp only at a
  have O:=New.sndI (New.sndI (e))
  obtain rfl:=oJ a
  exact⟨([.int .i64 U,.int .i64 V,.slice (some ⟨w,0,none⟩) W.length s]),rfl,(New.pair (New.int A) (New.pair (New.int B) O))⟩
 ·refine Or.inr (Or.inr (Or.inl (aI (aI (by kernel_rfl) (by kernel_rfl)) ?_)))
  refine Or.inr ?_
  refine Or.inr ?_
  refine Or.inr ?_
  refine Or.inl (eX 2 (aI (aI rfl rfl) ?_))
  refine trM a (x08 _ _ _ (l0 c d b)) ?_
  rintro ao a al E ⟨X,ah,Z,rfl,m,f⟩
  obtain⟨rfl,ad⟩:=Sl.len m
  refine aI (aI rfl f) (aI (by first|exact trivial|exact rfl) ?_)
  refine trM a (e0e _ _ _ (l0 c d (U0.mono f b)) _ _ _ _ m) ?_
  rintro an a aj C ⟨Y,rfl,g⟩
  have M:Sub E C:=g.sub
  have J:=g.r
  obtain⟨P,Q,o,af,q,S,rfl,rfl,y,z,K⟩:=F0 J
  obtain⟨rfl,ab⟩:=Sl.len K
  try dsimp only at a
  have N:=New.sndI (New.sndI (g))
  refine aI (aI rfl M) (aI (by first|exact trivial|exact rfl) ?_)
  refine aT ?_
  obtain rfl:=oJ a
  exact⟨([.int .i64 P,.int .i64 Q,.slice o S.length q]),rfl,(New.pair (New.int y) (New.pair (New.int z) (New.from N f)))⟩
theorem H07(h:Hp)(ak:List Value)(aE:j0)(bQ:O1.R h ak aE)(r:j0×D1)(c:J8 aE=some r):
  Tr Tryz.prog 174 #[.agg ak.toArray] h λv h'=>∃(aj:List Value) (ah:Option Addr) (aD ai:Nat),v = .tuple #[.agg aj.toArray,.slice ah aD ai]/\New O1 h h' aj r.1/\E2.R h' [.slice ah aD ai] r.2:=by
 obtain⟨bM,T,aU,cx,a2,bN,rfl,rfl,au,av,U⟩:=F0 bQ
 obtain⟨rfl,cn⟩:=Sl.len U
 unfold J8 at c
 dsimp only at c
 refine E3 (args:=[.agg #[.int .i64 bM,.int .i64 T,.slice aU bN.length a2]]) (fn:=Tryz.f174) rfl ?_
 refine trM c (A7 _ _ _ (l0 au av U)) ?_
 rintro b6 c cL G ⟨ap,cy,al,rfl,M⟩
 have W:Sub h G:=M.sub
 have aG:=M.r
 obtain⟨aN,aO,aa⟩:=b6
 dsimp only at c M aG
 obtain⟨_,_,_,_,_,_,bb,bd,az,aA,bR⟩:=F0 aG
 cases bb
 cases bd
 obtain⟨rfl,cp⟩:=Sl.len bR
 try dsimp only at c
 have aK:=New.sndI (New.sndI (M))
 refine trV c (g02 _ _ _ (l0 au av (U0.mono W U))) λcS c=>?_
 refine ifB c (λbA c=>?_) λbA c=>?_
 ·intro cP ck bg
  obtain⟨aX,a4,rfl,bW,b1,cs⟩:=J1.out (r:=Wp.int.toRp) bg (show F2 (Wp.int.R G) ([]:List (List Value)) ([]:D1) from trivial)
  obtain rfl:=oJ c
  exact⟨([.int .i64 aN,.int .i64 aO,.slice (some ⟨ap,0,none⟩) aa.length al]),aX,(([]:D1)).length,a4,rfl,(New.pair (New.int az) (New.pair (New.int aA) (New.mono aK b1))),bW⟩
 ·obtain⟨ad,bn,c⟩:=D0 c
  refine eX { vars:=[6],boxes:=[],owns:=[0],fuel:=true } (eX (λvs os h'=>∃ f L m,vs.tail = [.int .i64 f]/\os = [L]/\Sub G h'/\J0 f/\F2 (Wp.int.R h') L m/\U6 T (D2 vs) f m=some ad) (eX (λ_ _=>0) (aI (eX Y0 ⟨0,[],([]:D1),rfl,rfl,(Sub.refl _),(by decide),(show F2 (Wp.int.R G) ([]:List (List Value)) ([]:D1) from trivial),bn⟩) ?_)))
  rintro _ L H aB ⟨f,cU,m,⟨⟩,⟨⟩,K,aw,t,a⟩
  replace a:U6 T H f m=some ad:=a
  obtain _|H:=H
  ·cases a
  rw[U6.eq_2]at a
  refine ifB a (λbs a=>?_) λbs a=>?_
  ·obtain⟨cD,bh,a⟩:=D0 a
   refine aI (N2 bh (by first|rw[F2.length t,F2.length (show F2 (Wp.int.R aB) ([[.int .i64 f]]:List (List Value)) [f] from⟨⟨rfl,aw⟩,trivial⟩)]|exact congrArg (·+1) (F2.length t))) ?_
   exact U2 H ⟨(IntKind.i64.wrap (f+1)),(L++([[.int .i64 f]]:List (List Value))),(m ++ [f]),rfl,rfl,K,(I0 _),(F2.append t (show F2 (Wp.int.R aB) ([[.int .i64 f]]:List (List Value)) [f] from⟨⟨rfl,aw⟩,trivial⟩)),a⟩
  ·obtain rfl:=oJ a
   try dsimp only[Z0,I1]at c
   obtain⟨ae,bo,c⟩:=D0 c
   refine eX { vars:=[5],boxes:=[2],owns:=[],fuel:=true,pubs:=[5] } (eX (λvs os h'=>∃(B:Option Addr) (Q s:Nat) (z:D1) (j:Int) (g:Int) (C:Option Addr) (S D:Nat) (n:V0),vs.tail = [.slice B Q s,.int .i64 j,.int .i64 g,.slice C S D]/\os = []/\Sub h h'/\New E2 h h' [.slice B Q s] z/\J0 j/\J0 g/\New U0 h h' [.slice C S D] n/\r6 (D2 vs) z j g n=some ae) (eX (λ_ _=>0) ?_))
   intro cK ci ao
   obtain⟨aY,a5,rfl,cI,aJ,ct⟩:=J1.out (r:=Wp.int.toRp) ao t
   refine aI (eX Y0 ⟨aY,m.length,a5,m,aN,aO,(some ⟨ap,0,none⟩),aa.length,al,aa,rfl,rfl,((W.trans K).trans aJ),(New.from (J1.newPlain (r:=Wp.int) ao t (Q0h _)) (W.trans K)),az,aA,(New.mono aK (K.trans aJ)),bo⟩) ?_
   rintro _ _ _ _ I cj ⟨B,Q,s,z,j,g,C,S,D,n,⟨⟩,⟨⟩,cJ,aL,E,F,aM,a⟩
   replace a:r6 I z j g n=some ae:=a
   obtain _|I:=I
   ·cases a
   rw[r6.eq_2]at a
   have aF:=aL.r
   obtain⟨rfl,bI⟩:=Sl.len aF
   have J:=aM.r
   obtain⟨rfl,co⟩:=Sl.len J
   refine trM a (a0a _ _ _ (l0 E F J) 0 (by decide)) ?_
   rintro aP a cM bE ⟨cb,cz,cf,rfl,aH,o⟩
   obtain⟨rfl,cq⟩:=Sl.len aH
   obtain⟨af,bp,a⟩:=D0 a
   refine eX { vars:=[8,9],boxes:=[],owns:=[],fuel:=true } (eX (λvs os h'=>∃ k l,vs.tail = [.int .i64 k,.int .i64 l]/\os = []/\Sub bE h'/\J0 k/\J0 l/\O4 g j n aP (D2 vs) k l=some af) (eX (λ_ _=>0) (aI (eX Y0 ⟨0,1,rfl,rfl,(Sub.refl _),(by decide),(by decide),bp⟩) ?_)))
   rintro _ _ w P ⟨k,l,⟨⟩,⟨⟩,i,bB,ax,b⟩
   replace b:O4 g j n aP w k l=some af:=b
   obtain _|w:=w
   ·cases b
   rw[O4.eq_2]at b
   refine ifB b (λbt b=>?_) λbt b=>?_
   ·refine trV b (q0e _ _ _ (l0 E F (U0.mono (o.trans i) J)) _ ax) λb7 b=>?_
    obtain⟨cE,bi,b⟩:=D0 b
    have ch:J0 b7:=O0 bi
    obtain⟨cR,bl,b⟩:=D0 b
    obtain⟨cd,an,bS⟩:=Sl.getG (r:=Wp.bool.toRp) ((Wp.slice Wp.bool).mono i aH) bl (by decide) (l0r P)
    refine aI (λq=>(an q).1) ?_
    obtain rfl:=bS
    refine eX _ (aI (λq=>(an q).2) ?_)
    refine ifB b (λbu b=>?_) λbu b=>?_
    ·exact U2 w ⟨l,(IntKind.i64.wrap (l+1)),rfl,rfl,i,ax,(I0 _),b⟩
    ·exact U2 w ⟨k,(IntKind.i64.wrap (l+1)),rfl,rfl,i,bB,(I0 _),b⟩
   ·obtain rfl:=oJ b
    try dsimp only[Z0,I1]at a
    refine ifB a (λbv a=>?_) λbv a=>?_
    ·obtain rfl:=oJ a
     try dsimp only[L3,N3]at c
     obtain rfl:=oJ c
     exact⟨([.int .i64 j,.int .i64 g,.slice C n.length D]),B,z.length,s,rfl,(New.pair (New.int E) (New.pair (New.int F) (New.mono aM (o.trans i)))),(E2.mono (o.trans i) aF)⟩
    ·obtain⟨ag,bq,a⟩:=D0 a
     refine eX { vars:=[11],boxes:=[],owns:=[1],fuel:=true } (eX (λvs os h'=>∃ d A p,vs.tail = [.int .i64 d]/\os = [A]/\Sub P h'/\J0 d/\F2 (Wp.int.R h') A p/\p6 g k (D2 vs) d p=some ag) (eX (λ_ _=>0) (aI (eX Y0 ⟨0,[],([]:D1),rfl,rfl,(Sub.refl _),(by decide),(show F2 (Wp.int.R P) ([]:List (List Value)) ([]:D1) from trivial),bq⟩) ?_)))
     rintro _ A x aC ⟨d,cV,p,⟨⟩,⟨⟩,y,ay,u,b⟩
     replace b:p6 g k x d p=some ag:=b
     obtain _|x:=x
     ·cases b
     rw[p6.eq_2]at b
     refine ifB b (λbx b=>?_) λbx b=>?_
     ·refine ifB b (λbz b=>?_) λbz b=>?_
      ·obtain⟨cG,bj,b⟩:=D0 b
       refine aI (N2 bj (by first|rw[F2.length u,F2.length (show F2 (Wp.int.R aC) ([[.int .i64 d]]:List (List Value)) [d] from⟨⟨rfl,ay⟩,trivial⟩)]|exact congrArg (·+1) (F2.length u))) ?_
       exact U2 x ⟨(IntKind.i64.wrap (d+1)),(A++([[.int .i64 d]]:List (List Value))),(p ++ [d]),rfl,rfl,y,(I0 _),(F2.append u (show F2 (Wp.int.R aC) ([[.int .i64 d]]:List (List Value)) [d] from⟨⟨rfl,ay⟩,trivial⟩)),b⟩
      ·exact U2 x ⟨(IntKind.i64.wrap (d+1)),A,p,rfl,rfl,y,(I0 _),u,b⟩
     ·obtain rfl:=oJ b
      try dsimp only[Z0,I1]at a
      refine Or.inl ?_
      intro cN bF bf
      obtain⟨cc,cg,rfl,bX,X,cu⟩:=J1.out (r:=Wp.int.toRp) bf u
      refine trM a (e0e _ _ _ (l0 E F (U0.mono (((o.trans i).trans y).trans X) J)) _ _ _ _ bX) ?_
      rintro cT a cO bG ⟨ce,rfl,Y⟩
      have bZ:Sub bF bG:=Y.sub
      have bT:=Y.r
      obtain⟨b8,ca,aW,cA,a3,aQ,rfl,rfl,bC,bD,bU⟩:=F0 bT
      obtain⟨rfl,cr⟩:=Sl.len bU
      try dsimp only at a
      have b4:=New.sndI (New.sndI (Y))
      obtain⟨ab,aq,a⟩:=D0 a
      obtain⟨ac,ar,a⟩:=D0 a
      obtain⟨cH,bk,a⟩:=D0 a
      obtain⟨bO,a0,am,bm,bL,aR,aS,b2,b3,bc,bP,a1,cm,cw,bV,b0,bJ,bK,aV⟩:=New.drop aL ((((o.trans i).trans y).trans X).trans bZ) aq ar (J0s bI aq ar)
      subst bc
      refine Or.inr (Or.inr (Or.inl (aI (aI (by kernel_rfl) (by kernel_rfl)) ?_)))
      refine Or.inl (eX (.val (.slice (some ⟨bm,bL,none⟩) ab.length s)) (aI ?_ ?_))
      ·intro N V
       obtain⟨vs,e⟩:=am N V
       exact aI a0 (eX vs (aI e (λv _ O=>aI (congrArg AV.val (bO v O)) (aI rfl rfl))))
      refine Or.inl (eX (.val (.slice aR ac.length aS)) (aI ?_ ?_))
      ·intro N V
       obtain⟨vs,e⟩:=am N V
       exact aI a1 (eX vs (aI e (λv _ O=>aI (congrArg AV.val (bP v O)) (aI rfl rfl))))
      refine Or.inr ?_
      refine Or.inl (eX 0 (aI (aI rfl rfl) ?_))
      refine eX b3 (aI b0 (eX b2 (aI bV (aI (N2 bk (by rw[bJ,bK])) ?_))))
      intro cQ cl br
      obtain⟨Z,⟨aZ,cC,ba,rfl⟩,bH⟩:=aV _ _ br
      have bY:=Z.r
      obtain⟨be,cv⟩:=Sl.len bY
      subst be
      refine aT ?_
      have b5:=bH P1.slice _ _ _ b4 (((o.trans i).trans y).trans X)
      exact U2 I ⟨aZ,(ab++ac).length,ba,(ab++ac),b8,ca,aW,aQ.length,a3,aQ,rfl,rfl,Z.sub,Z,bC,bD,b5,a⟩
theorem Y8(h:Hp)(n:List Value)(o:j0)(S:O1.R h n o)(r:Bool)(a:E5 o=some r):
  Tr Tryz.prog 115 #[.agg n.toArray] h λv h'=>v = .bool r/\h'=h:=by
 obtain⟨P,p,y,aB,A,Q,rfl,rfl,f,g,b⟩:=F0 S
 obtain⟨rfl,ax⟩:=Sl.len b
 unfold E5 at a
 dsimp only at a
 refine Tr.forget (E3 (args:=[.agg #[.int .i64 P,.int .i64 p,.slice y Q.length A]]) (fn:=Tryz.f115) rfl ?_)
 refine trV a (k01 _ _ _ (l0 f g b)) λaH a=>?_
 refine ifB a (λH a=>?_) λH a=>?_
 ·obtain rfl:=oJ a
  exact aI rfl (Sub.refl _)
 ·refine trM a (H07 _ _ _ (l0 f g b)) ?_
  rintro ab a aG N ⟨ah,af,aD,ak,rfl,m,s⟩
  obtain⟨aJ,aM⟩:=ab
  dsimp only at a m s
  have l:Sub h N:=m.sub
  have T:=m.r
  obtain⟨aK,ac,ae,aC,aj,aL,rfl,rfl,ao,ap,U⟩:=F0 T
  obtain⟨rfl,ay⟩:=Sl.len U
  try dsimp only at a
  obtain⟨rfl,az⟩:=Sl.len s
  refine Or.inr (Or.inr (Or.inr (Or.inl (aI (aI (by kernel_rfl) (by kernel_rfl)) ?_))))
  refine Or.inl (eX (.val (.bool (decide (ac=p)))) (aI ?_ ?_))
  ·intro au aF
   exact aI rfl (aI rfl rfl)
  obtain⟨ad,G,a⟩:=D0 a
  obtain⟨w,x,i⟩:=ad
  try dsimp only at a
  refine Or.inr (eX (λv I=>∃(c:Option Addr) (d:Nat),v = .agg #[.int .i64 w,.int .i64 x,.slice c i.length d]/\J0 w/\J0 x/\U0.R I [.slice c i.length d] i/\i.length<=9223372036854775807) (aI (λv am an k q=>by obtain⟨c,d,e,D,E,f2,f3⟩:=q;exact⟨c,d,e,D,E,U0.mono k f2,f3⟩) (aI ?_ ?_)))
  ·intro av X j
   refine Tr.mono (E04 _ _ _ (l0 f g (U0.mono (l.trans X) b)) _ (c5 G j)) ?_
   rintro _ aw ⟨ai,rfl,u⟩
   have k:=u.sub
   have V:=u.r
   obtain⟨aN,aO,z,aE,B,aP,rfl,C,J,K,t⟩:=F0 V
   cases C
   obtain⟨rfl,O⟩:=Sl.len t
   exact aI u05 (aI k ⟨z,B,rfl,J,K,t,O⟩)
  obtain⟨aa,F,a⟩:=D0 a
  refine Or.inl (eX (.val (.bool aa)) (aI ?_ ?_))
  ·intro aq Y j
   rintro _ ⟨ag,al,rfl,L,M,W,aA⟩
   exact Tr.val (t06 _ _ _ (l0 L M W) _ _ (l0 f g (U0.mono (l.trans Y) b)) _ (c5 F j)) (aI rfl (aI rfl rfl))
  intro ar Z
  obtain rfl:=oJ a
  exact aI rfl (l.trans Z)
theorem U9(h:Hp)(k:List Value)(m:N0)(H:D3.R h k m)(r:Bool)(b:T5 m=some r):
  Tr Tryz.prog 32 #[.agg k.toArray] h λv h'=>v = .bool r/\h'=h:=by
 obtain⟨f,o,aa,s,g,rfl,rfl,C,i⟩:=E1 H
 obtain⟨rfl,X⟩:=Sl.len i
 unfold T5 at b
 dsimp only at b
 refine Tr.forget (E3 (args:=[.agg #[.int .i64 f,.slice o g.length s]]) (fn:=Tryz.f32) rfl ?_)
 refine trV b (P01 _ _ C 1 (by decide) 3 (by decide)) λad b=>?_
 refine ifB b (λA b=>?_) λA b=>?_
 ·obtain rfl:=oJ b
  exact aI rfl (Sub.refl _)
 ·obtain⟨j,y,b⟩:=D0 b
  refine eX { vars:=[18],boxes:=[],owns:=[],fuel:=true } (eX (λvs os h'=>∃ c,vs.tail = [.int .i64 c]/\os = []/\Sub h h'/\J0 c/\V6 g f (D2 vs) c=some j) (eX (λ_ _=>0) (aI (eX Y0 ⟨0,rfl,rfl,(Sub.refl _),(by decide),y⟩) ?_)))
  rintro _ e G ⟨c,⟨⟩,⟨⟩,d,T,a⟩
  replace a:V6 g f e c=some j:=a
  obtain _|e:=e
  ·cases a
  rw[V6.eq_2]at a
  refine ifB a (λB a=>?_) λB a=>?_
  ·obtain⟨ak,w,a⟩:=D0 a
   obtain⟨p,P,t,K⟩:=Sl.getI (r:=L1.toRp) (U1.mono d i) w (by decide)
   refine aI p ?_
   obtain⟨al,am,an,N,ac,S,ao,rfl,rfl,D,E,F,n⟩:=J3 K
   obtain⟨rfl,Z⟩:=Sl.len n
   try dsimp only at a
   refine eX _ (aI t ?_)
   refine Or.inl (aI (aI (by kernel_rfl) (by kernel_rfl)) ?_)
   obtain⟨L,x,a⟩:=D0 a
   refine eX (.bool L) (aI (Y06 _ _ D _  x) ?_)
   obtain⟨ae,u,a⟩:=D0 a
   obtain⟨O,l,I⟩:=Sl.getG (r:=L1.toRp) (U1.mono d i) u (by decide) (d08 G)
   refine aI (λq=>(l q).1) ?_
   obtain⟨af,ag,ah,M,ab,Q,ai,rfl,rfl,U,V,W,J⟩:=J3 I
   obtain⟨rfl,Y⟩:=Sl.len J
   try dsimp only at a
   refine eX _ (aI (λq=>(l q).2) ?_)
   refine trG a (λq=>Y8 _ _ _ (l0 E F n)) λaj a=>?_
   refine ifB a (λz a=>?_) λz a=>?_
   ·obtain rfl:=oJ a
    try dsimp only[L3,N3]at b
    obtain rfl:=oJ b
    exact aI rfl d
   ·exact U2 e ⟨(IntKind.i64.wrap (c+1)),rfl,rfl,d,(I0 _),a⟩
  ·obtain rfl:=oJ a
   try dsimp only[Z0,I1]at b
   obtain rfl:=oJ b
   exact aI rfl d
theorem i9(h:Hp)(G:List Value)(K:N0)(ak:D3.R h G K)(r:N0)(g:U5 K=some r):
  Tr Tryz.prog 119 #[.agg G.toArray] h λv h'=>∃(F:List Value),v = .agg F.toArray/\New D3 h h' F r:=by
 obtain⟨L,m,aW,n,d,rfl,rfl,ae,A⟩:=E1 ak
 obtain⟨rfl,aQ⟩:=Sl.len A
 unfold U5 at g
 dsimp only at g
 refine E3 (args:=[.agg #[.int .i64 L,.slice m d.length n]]) (fn:=Tryz.f119) rfl ?_
 obtain⟨E,ab,g⟩:=D0 g
 refine eX { vars:=[4],boxes:=[2],owns:=[0],fuel:=true,nilsB:=[(2,1,121,4,56)] } (eX (λvs os h'=>∃ b e p c,vs.tail = [.int .i64 b,.int .i64 e]/\os = [p]/\Sub h h'/\J0 b/\J0 e/\F2 (L1.R h') p c/\(∃ Bs,F3 (L1.W h') p c Bs/\Y4 h Bs.flatten)/\K8 d (D2 vs) b e c=some E) (eX (λ_ _=>0) (aI (eX Y0 ⟨0,L,[],([]:N1),rfl,rfl,(Sub.refl _),(by decide),ae,(show F2 (L1.R h) [] [] from trivial),⟨_,(show F3 (L1.W h) [] [] [] from trivial),(Y4.nil h)⟩,ab⟩) ?_)))
 rintro _ _ p s ai ⟨b,e,bh,c,⟨⟩,⟨⟩,o,aH,J,q,⟨aC,C,I⟩,a⟩
 replace a:K8 d s b e c=some E:=a
 obtain _|s:=s
 ·cases a
 rw[K8.eq_2]at a
 refine ifB a (λac a=>?_) λac a=>?_
 ·refine Or.inr (Or.inr (Or.inl (aI (aI (by kernel_rfl) (by kernel_rfl)) ?_)))
  obtain⟨bd,aa,a⟩:=D0 a
  obtain⟨Q,aF,V,an⟩:=Sl.getI (r:=L1.toRp) (U1.mono o A) aa (by decide)
  obtain⟨f,be,bf,aB,aZ,aG,bg,rfl,rfl,y,aK,aL,ao⟩:=J3 an
  obtain⟨rfl,aU⟩:=Sl.len ao
  try dsimp only at a
  refine Or.inl (eX (.hel (.slice m d.length n) b 4 0) (aI ?_ ?_))
  ·intro aP a2
   exact aI Q (aI rfl (aI rfl rfl))
  refine Or.inl (eX (.hel (.slice m d.length n) b 4 0) (aI ?_ ?_))
  ·intro ad ar
   exact aI rfl (aI rfl rfl)
  refine Or.inl (eX (.val (.string f)) (aI ?_ ?_))
  ·intro aM ap
   exact eX _ (aI (A5.up ap V) (aI rfl (aI rfl rfl)))
  obtain⟨ba,Z,a⟩:=D0 a
  obtain⟨P,aD,U,al⟩:=Sl.getI (r:=L1.toRp) (U1.mono o A) Z (by decide)
  obtain⟨bb,ax,ay,N,aX,S,az,rfl,rfl,aJ,af,ag,M⟩:=J3 al
  obtain⟨rfl,aR⟩:=Sl.len M
  try dsimp only at a
  refine Or.inl (eX (.hel (.slice m d.length n) b 4 0) (aI ?_ ?_))
  ·intro aN a3
   exact aI P (aI rfl (aI rfl rfl))
  refine Or.inl (eX (.hel (.slice m d.length n) b 4 1) (aI ?_ ?_))
  ·intro ad ar
   exact aI rfl (aI rfl rfl)
  refine Or.inl (eX (.agg [.val (.int .i64 ax),.val (.int .i64 ay),.val (.slice N az.length S)]) (aI ?_ ?_))
  ·intro aO aq
   exact eX _ (aI (A5.up aq U) (aI rfl (aI rfl rfl)))
  refine Or.inr ?_
  refine Or.inr ?_
  refine Or.inr ?_
  refine Or.inr ?_
  refine Or.inr ?_
  refine Or.inl (eX 1 (aI (aI rfl rfl) ?_))
  refine trM a (V4 _ _ _ (l0 af ag M)) ?_
  rintro bc a a5 z ⟨aE,rfl,D⟩
  have i:Sub ai z:=D.sub
  have am:=D.r
  obtain⟨j,k,t,aY,u,l,rfl,rfl,w,x,B⟩:=F0 am
  obtain⟨rfl,aS⟩:=Sl.len B
  try dsimp only at a
  have aw:=New.sndI (New.sndI (D))
  refine aI (aI rfl i) (aI (by first|exact trivial|exact rfl) ?_)
  refine aT ?_
  refine aT ?_
  obtain⟨a0,Y,a⟩:=D0 a
  refine aI (N2 Y (by first|rw[F2.length (F2.up (r:=L1.toRp) i q),F2.length (show F2 (L1.R z) ([[.string f,.int .i64 j,.int .i64 k,.slice t l.length u]]:List (List Value)) [(f,(j,k,l))] from⟨(L4 y w x B),trivial⟩)]|exact congrArg (·+1) (F2.length (F2.up (r:=L1.toRp) i q)))) ?_
  obtain⟨aA,av,X,_⟩:=(New.pair (New.str y) (New.pair (New.int w) (New.pair (New.int x) aw)))
  refine aT ?_
  refine aT ?_
  exact U2 s ⟨(IntKind.i64.wrap (b+1)),e,(p++([[.string f,.int .i64 j,.int .i64 k,.slice t l.length u]]:List (List Value))),(c ++ [(f,(j,k,l))]),rfl,rfl,(o.trans i),(I0 _),J,(F2.append (F2.up (r:=L1.toRp) i q) (show F2 (L1.R z) ([[.string f,.int .i64 j,.int .i64 k,.slice t l.length u]]:List (List Value)) [(f,(j,k,l))] from⟨(L4 y w x B),trivial⟩)),⟨_,(F3.snoc av (u08 C i)),(K04 C o I X)⟩,a⟩
 ·obtain rfl:=oJ a
  try dsimp only[Z0,I1]at g
  intro au ah H
  have aj:New (Wp.slice L1) h ah [au] c:=(J1.fresh (r:=L1) H C o I)
  obtain⟨O,T,rfl,a1,a4,aV⟩:=J1.out (r:=L1.toRp) H q
  obtain rfl:=oJ g
  exact⟨([.int .i64 e,.slice O c.length T]),rfl,(New.pair (New.int J) aj)⟩
theorem B0d(h:Hp)(E:List Value)(J:N0)(au:D3.R h E J)(k:ByteArray)(aZ:k.size<=9223372036854775807)(r:N0×Bool)(b:Y01 J k=some r):
  Tr Tryz.prog 47 #[.agg E.toArray,.string k] h λv h'=>∃(D:List Value),v = .tuple #[.agg D.toArray,.bool r.2]/\D3.R h' D r.1/\Sub h h':=by
 obtain⟨K,q,bn,s,f,rfl,rfl,y,l⟩:=E1 au
 obtain⟨rfl,bg⟩:=Sl.len l
 unfold Y01 at b
 dsimp only at b
 refine E3 (args:=[.agg #[.int .i64 K,.slice q f.length s],.string k]) (fn:=Tryz.f47) rfl ?_
 obtain⟨C,ai,b⟩:=D0 b
 refine eX { vars:=[7],boxes:=[2],owns:=[0],fuel:=true,nilsB:=[(2,1,121,4,56)] } (eX (λvs os h'=>∃ c e m g,vs.tail = [.int .i64 c,.int .i64 e]/\os = [m]/\Sub h h'/\J0 c/\J0 e/\F2 (L1.R h') m g/\w6 f k (D2 vs) c e g=some C) (eX (λ_ _=>0) (aI (eX Y0 ⟨0,K,[],([]:N1),rfl,rfl,(Sub.refl _),(by decide),y,(show F2 (L1.R h) [] [] from trivial),ai⟩) ?_)))
 rintro _ _ m t I ⟨c,e,bQ,g,⟨⟩,⟨⟩,d,a0,z,j,a⟩
 replace a:w6 f k t c e g=some C:=a
 obtain _|t:=t
 ·cases a
 rw[w6.eq_2]at a
 refine ifB a (λak a=>?_) λak a=>?_
 ·obtain⟨bL,ah,a⟩:=D0 a
  obtain⟨V,aV,ab,aA⟩:=Sl.getI (r:=L1.toRp) (U1.mono d l) ah (by decide)
  refine aI V ?_
  obtain⟨bM,bN,bO,aP,bs,aX,bP,rfl,rfl,a4,a5,ba,aB⟩:=J3 aA
  obtain⟨rfl,bl⟩:=Sl.len aB
  try dsimp only at a
  refine eX _ (aI ab ?_)
  refine ifB a (λal a=>?_) λal a=>?_
  ·refine Or.inr (Or.inr (Or.inl (aI (aI (by kernel_rfl) (by kernel_rfl)) ?_)))
   obtain⟨bC,af,a⟩:=D0 a
   obtain⟨T,aQ,Z,av⟩:=Sl.getI (r:=L1.toRp) (U1.mono d l) af (by decide)
   obtain⟨i,bD,bE,aO,bo,aW,bF,rfl,rfl,F,a1,a2,aw⟩:=J3 av
   obtain⟨rfl,bh⟩:=Sl.len aw
   try dsimp only at a
   refine Or.inl (eX (.hel (.slice q f.length s) c 4 0) (aI ?_ ?_))
   ·intro bb bv
    exact aI T (aI rfl (aI rfl rfl))
   refine Or.inl (eX (.hel (.slice q f.length s) c 4 0) (aI ?_ ?_))
   ·intro am aF
    exact aI rfl (aI rfl rfl)
   refine Or.inl (eX (.val (.string i)) (aI ?_ ?_))
   ·intro bc aD
    exact eX _ (aI (A5.up aD Z) (aI rfl (aI rfl rfl)))
   obtain⟨bG,ag,a⟩:=D0 a
   obtain⟨U,aR,aa,ax⟩:=Sl.getI (r:=L1.toRp) (U1.mono d l) ag (by decide)
   obtain⟨bH,aJ,aK,P,bp,W,aL,rfl,rfl,a3,an,ao,L⟩:=J3 ax
   obtain⟨rfl,bi⟩:=Sl.len L
   try dsimp only at a
   refine Or.inl (eX (.hel (.slice q f.length s) c 4 0) (aI ?_ ?_))
   ·intro bd bx
    exact aI U (aI rfl (aI rfl rfl))
   refine Or.inl (eX (.hel (.slice q f.length s) c 4 1) (aI ?_ ?_))
   ·intro am aF
    exact aI rfl (aI rfl rfl)
   refine Or.inl (eX (.agg [.val (.int .i64 aJ),.val (.int .i64 aK),.val (.slice P aL.length W)]) (aI ?_ ?_))
   ·intro be aE
    exact eX _ (aI (A5.up aE aa) (aI rfl (aI rfl rfl)))
   refine Or.inr ?_
   refine Or.inr ?_
   refine Or.inr ?_
   refine Or.inr ?_
   refine Or.inr ?_
   refine Or.inl (eX 1 (aI (aI rfl rfl) ?_))
   refine trM a (V4 _ _ _ (l0 an ao L)) ?_
   rintro bI a bz A ⟨aS,rfl,N⟩
   have u:Sub I A:=N.sub
   have ay:=N.r
   obtain⟨n,o,w,bq,x,p,rfl,rfl,G,H,B⟩:=F0 ay
   obtain⟨rfl,bj⟩:=Sl.len B
   try dsimp only at a
   refine aI (aI rfl u) (aI (by first|exact trivial|exact rfl) ?_)
   refine aT ?_
   refine aT ?_
   obtain⟨bt,ae,a⟩:=D0 a
   refine aI (N2 ae (by first|rw[F2.length (F2.up (r:=L1.toRp) u j),F2.length (show F2 (L1.R A) ([[.string i,.int .i64 n,.int .i64 o,.slice w p.length x]]:List (List Value)) [(i,(n,o,p))] from⟨(L4 F G H B),trivial⟩)]|exact congrArg (·+1) (F2.length (F2.up (r:=L1.toRp) u j)))) ?_
   refine aT ?_
   refine aT ?_
   exact U2 t ⟨(IntKind.i64.wrap (c+1)),e,(m++([[.string i,.int .i64 n,.int .i64 o,.slice w p.length x]]:List (List Value))),(g ++ [(i,(n,o,p))]),rfl,rfl,(d.trans u),(I0 _),z,(F2.append (F2.up (r:=L1.toRp) u j) (show F2 (L1.R A) ([[.string i,.int .i64 n,.int .i64 o,.slice w p.length x]]:List (List Value)) [(i,(n,o,p))] from⟨(L4 F G H B),trivial⟩)),a⟩
  ·exact U2 t ⟨(IntKind.i64.wrap (c+1)),e,m,g,rfl,rfl,d,(I0 _),z,j,a⟩
 ·obtain rfl:=oJ a
  try dsimp only[Z0,I1]at b
  refine trV b (h02 _ _ _ (K0 y (U1.mono d l))) λbJ b=>?_
  obtain⟨ar,ad,b⟩:=D0 b
  obtain rfl:m.length=ar:=(F2.length j).trans (oJ ad)
  obtain⟨bu,aY,b⟩:=D0 b
  refine ifB b (λaj b=>?_) λaj b=>?_
  ·refine trM b (i9 _ _ _ (K0 y (U1.mono d l))) ?_
   rintro bK b bA aq ⟨aU,rfl,O⟩
   have aG:Sub I aq:=O.sub
   have az:=O.r
   obtain⟨aM,Q,br,X,aN,rfl,rfl,ap,M⟩:=E1 az
   obtain⟨rfl,bk⟩:=Sl.len M
   try dsimp only at b
   obtain rfl:=oJ b
   exact⟨([.int .i64 aM,.slice Q aN.length X]),rfl,(K0 ap M),(d.trans aG)⟩
  ·intro bB bf ac
   obtain⟨S,Y,rfl,aC,aH,bm⟩:=J1.out (r:=L1.toRp) ac j
   obtain rfl:=oJ b
   exact⟨([.int .i64 e,.slice S g.length Y]),rfl,(K0 z aC),(d.trans aH)⟩
theorem V9(h:Hp)(D:List Value)(H:N0)(ah:D3.R h D H)(r:N0)(d:F5 H=some r):
  Tr Tryz.prog 114 #[.agg D.toArray] h λv h'=>∃(C:List Value),v = .agg C.toArray/\New D3 h h' C r:=by
 obtain⟨I,M,az,P,y,rfl,rfl,ab,J⟩:=E1 ah
 obtain⟨rfl,av⟩:=Sl.len J
 unfold F5 at d
 dsimp only at d
 refine E3 (args:=[.agg #[.int .i64 I,.slice M y.length P]]) (fn:=Tryz.f114) rfl ?_
 obtain⟨B,Z,d⟩:=D0 d
 refine eX { vars:=[12],boxes:=[2],owns:=[0],fuel:=true,nilsB:=[(2,1,121,4,56)] } (eX (λvs os h'=>∃ f c l b,vs.tail = [.int .i64 f,.int .i64 c]/\os = [l]/\Sub h h'/\J0 f/\J0 c/\F2 (L1.R h') l b/\(∃ Bs,F3 (L1.W h') l b Bs/\Y4 h Bs.flatten)/\l6 y (D2 vs) f c b=some B) (eX (λ_ _=>0) (aI (eX Y0 ⟨0,I,[],([]:N1),rfl,rfl,(Sub.refl _),(by decide),ab,(show F2 (L1.R h) [] [] from trivial),⟨_,(show F3 (L1.W h) [] [] [] from trivial),(Y4.nil h)⟩,Z⟩) ?_)))
 rintro _ _ l n af ⟨f,c,aL,b,⟨⟩,⟨⟩,o,au,G,m,⟨ap,A,F⟩,a⟩
 replace a:l6 y n f c b=some B:=a
 obtain _|n:=n
 ·cases a
 rw[l6.eq_2]at a
 refine ifB a (λaa a=>?_) λaa a=>?_
 ·obtain⟨aG,Y,a⟩:=D0 a
  obtain⟨O,aq,T,ai⟩:=Sl.getI (r:=L1.toRp) (U1.mono o J) Y (by decide)
  refine aI O ?_
  obtain⟨g,aH,aJ,ao,aA,ar,aK,rfl,rfl,t,ac,ad,K⟩:=J3 ai
  obtain⟨rfl,aw⟩:=Sl.len K
  try dsimp only at a
  refine eX _ (aI T ?_)
  refine Or.inr (Or.inr (Or.inl (aI (aI (by kernel_rfl) (by kernel_rfl)) ?_)))
  refine Or.inr ?_
  refine Or.inr ?_
  refine Or.inr ?_
  refine Or.inr ?_
  refine Or.inr ?_
  refine Or.inl (eX 1 (aI (aI rfl rfl) ?_))
  refine trM a (A7 _ _ _ (l0 ac ad K)) ?_
  rintro am a aF x ⟨s,aB,q,rfl,p⟩
  have e:Sub af x:=p.sub
  have L:=p.r
  obtain⟨i,j,k⟩:=am
  dsimp only at a p L
  obtain⟨_,_,_,_,_,_,S,U,u,w,z⟩:=F0 L
  cases S
  cases U
  obtain⟨rfl,ax⟩:=Sl.len z
  try dsimp only at a
  have al:=New.sndI (New.sndI (p))
  refine aI (aI rfl e) (aI (by first|exact trivial|exact rfl) ?_)
  refine aT ?_
  refine aT ?_
  obtain⟨aC,X,a⟩:=D0 a
  refine aI (N2 X (by first|rw[F2.length (F2.up (r:=L1.toRp) e m),F2.length (show F2 (L1.R x) ([[.string g,.int .i64 i,.int .i64 j,.slice (some ⟨s,0,none⟩) k.length q]]:List (List Value)) [(g,(i,j,k))] from⟨(L4 t u w z),trivial⟩)]|exact congrArg (·+1) (F2.length (F2.up (r:=L1.toRp) e m)))) ?_
  obtain⟨an,ak,V,_⟩:=(New.pair (New.str t) (New.pair (New.int u) (New.pair (New.int w) al)))
  refine aT ?_
  refine aT ?_
  exact U2 n ⟨(IntKind.i64.wrap (f+1)),c,(l++([[.string g,.int .i64 i,.int .i64 j,.slice (some ⟨s,0,none⟩) k.length q]]:List (List Value))),(b ++ [(g,(i,j,k))]),rfl,rfl,(o.trans e),(I0 _),G,(F2.append (F2.up (r:=L1.toRp) e m) (show F2 (L1.R x) ([[.string g,.int .i64 i,.int .i64 j,.slice (some ⟨s,0,none⟩) k.length q]]:List (List Value)) [(g,(i,j,k))] from⟨(L4 t u w z),trivial⟩)),⟨_,(F3.snoc ak (u08 A e)),(K04 A o F V)⟩,a⟩
 ·obtain rfl:=oJ a
  try dsimp only[Z0,I1]at d
  intro aj ae E
  have ag:New (Wp.slice L1) h ae [aj] b:=(J1.fresh (r:=L1) E A o F)
  obtain⟨N,Q,rfl,aD,aE,ay⟩:=J1.out (r:=L1.toRp) E m
  obtain rfl:=oJ d
  exact⟨([.int .i64 c,.slice N b.length Q]),rfl,(New.pair (New.int G) ag)⟩
theorem B03(h:Hp)(j:List Value)(k:N0)(x:D3.R h j k)(c:ByteArray)(E:c.size<=9223372036854775807)(r:Int)(b:I7 k c=some r):
  Tr Tryz.prog 117 #[.agg j.toArray,.string c] h λv h'=>v = .int .i64 r/\h'=h:=by
 obtain⟨w,m,M,o,g,rfl,rfl,D,l⟩:=E1 x
 obtain⟨rfl,K⟩:=Sl.len l
 unfold I7 at b
 dsimp only at b
 refine Tr.forget (E3 (args:=[.agg #[.int .i64 w,.slice m g.length o],.string c]) (fn:=Tryz.f117) rfl ?_)
 obtain⟨i,s,b⟩:=D0 b
 refine eX { vars:=[10],boxes:=[],owns:=[],fuel:=true } (eX (λvs os h'=>∃ d,vs.tail = [.int .i64 d]/\os = []/\Sub h h'/\J0 d/\J5 g c (D2 vs) d=some i) (eX (λ_ _=>0) (aI (eX Y0 ⟨0,rfl,rfl,(Sub.refl _),(by decide),s⟩) ?_)))
 rintro _ e J ⟨d,⟨⟩,⟨⟩,f,F,a⟩
 replace a:J5 g c e d=some i:=a
 obtain _|e:=e
 ·cases a
 rw[J5.eq_2]at a
 refine ifB a (λt a=>?_) λt a=>?_
 ·obtain⟨O,q,a⟩:=D0 a
  obtain⟨n,B,p,y⟩:=Sl.getI (r:=L1.toRp) (U1.mono f l) q (by decide)
  refine aI n ?_
  obtain⟨P,Q,S,A,N,C,T,rfl,rfl,G,H,I,z⟩:=J3 y
  obtain⟨rfl,L⟩:=Sl.len z
  try dsimp only at a
  refine eX _ (aI p ?_)
  refine ifB a (λu a=>?_) λu a=>?_
  ·obtain rfl:=oJ a
   try dsimp only[L3,N3]at b
   obtain rfl:=oJ b
   exact aI rfl f
  ·exact U2 e ⟨(IntKind.i64.wrap (d+1)),rfl,rfl,f,(I0 _),a⟩
 ·obtain rfl:=oJ a
  try dsimp only[Z0,I1]at b
  obtain rfl:=oJ b
  exact aI rfl f
theorem I07(h:Hp)(l:List Value)(s:N0)(ac:D3.R h l s)(b:ByteArray)(S:b.size<=9223372036854775807)(r:N0×Bool)(a:J00 s b=some r):
  Tr Tryz.prog 37 #[.agg l.toArray,.string b] h λv h'=>∃(k:List Value),v = .tuple #[.agg k.toArray,.bool r.2]/\New D3 h h' k r.1:=by
 obtain⟨Y,C,aw,I,Z,rfl,rfl,g,c⟩:=E1 ac
 obtain⟨rfl,ar⟩:=Sl.len c
 unfold J00 at a
 dsimp only at a
 refine E3 (args:=[.agg #[.int .i64 Y,.slice C Z.length I],.string b]) (fn:=Tryz.f37) rfl ?_
 refine trM a (V9 _ _ _ (K0 g c)) ?_
 rintro aD a aB T ⟨am,rfl,j⟩
 have t:Sub h T:=j.sub
 have ad:=j.r
 obtain⟨y,E,ax,m,ak,rfl,rfl,q,ae⟩:=E1 ad
 obtain⟨rfl,W⟩:=Sl.len ae
 try dsimp only at a
 have u:=New.sndI (j)
 refine trV a (B03 _ _ _ (K0 g (U1.mono t c)) _ S) λal a=>?_
 obtain⟨aA,N,a⟩:=D0 a
 have an:J0 al:=O0 N
 refine trV a (U9 _ _ _ (K0 g (U1.mono t c))) λaE a=>?_
 refine ifB a (λQ a=>?_) λQ a=>?_
 ·obtain rfl:=oJ a
  exact⟨([.int .i64 y,.slice E ak.length m]),rfl,(New.pair (New.int q) u)⟩
 ·obtain⟨z,p,a⟩:=D0 a
  obtain⟨x,o,a⟩:=D0 a
  obtain⟨az,M,a⟩:=D0 a
  obtain⟨aa,G,n,O,X,A,B,ai,aj,K,ab,H,aq,av,af,ah,U,V,D⟩:=New.drop u (Sub.refl _) p o (J0s W p o)
  subst K
  refine Or.inr (Or.inr (Or.inl (aI (aI (by kernel_rfl) (by kernel_rfl)) ?_)))
  refine Or.inl (eX (.val (.slice (some ⟨O,X,none⟩) z.length m)) (aI ?_ ?_))
  ·intro d i
   obtain⟨vs,e⟩:=n d i
   exact aI G (eX vs (aI e (λv _ f=>aI (congrArg AV.val (aa v f)) (aI rfl rfl))))
  refine Or.inl (eX (.val (.slice A x.length B)) (aI ?_ ?_))
  ·intro d i
   obtain⟨vs,e⟩:=n d i
   exact aI H (eX vs (aI e (λv _ f=>aI (congrArg AV.val (ab v f)) (aI rfl rfl))))
  refine Or.inr ?_
  refine Or.inr ?_
  refine Or.inl (eX 0 (aI (aI rfl rfl) ?_))
  refine eX aj (aI ah (eX ai (aI af (aI (N2 M (by rw[U,V])) ?_))))
  intro aC ap P
  obtain⟨w,⟨F,ay,J,rfl⟩,ao⟩:=D _ _ P
  have ag:=w.r
  obtain⟨L,au⟩:=Sl.len ag
  subst L
  refine aT ?_
  refine aT ?_
  obtain rfl:=oJ a
  exact⟨([.int .i64 y,.slice F (z++x).length J]),rfl,(New.pair (New.int q) w)⟩
set_option maxHeartbeats 0
theorem D02(h:Hp)(aG:List Value)(aM:N0)(b6:D3.R h aG aM)(c:ByteArray)(t:c.size<=9223372036854775807)(aH:List Value)(aO:j0)(b7:O1.R h aH aO)(r:N0×Bool)(a:l8 aM c aO=some r):
  Tr Tryz.prog 30 #[.agg aG.toArray,.string c,.agg aH.toArray] h λv h'=>∃(aF:List Value),v = .tuple #[.agg aF.toArray,.bool r.2]/\New D3 h h' aF r.1:=by
 obtain⟨aN,al,dz,am,Y,rfl,rfl,V,H⟩:=E1 b6
 obtain⟨rfl,dj⟩:=Sl.len H
 obtain⟨av,aw,aU,dA,a5,ax,rfl,rfl,aq,ar,aj⟩:=F0 b7
 obtain⟨rfl,dk⟩:=Sl.len aj
 unfold l8 at a
 dsimp only at a
 refine E3 (args:=[.agg #[.int .i64 aN,.slice al Y.length am],.string c,.agg #[.int .i64 av,.int .i64 aw,.slice aU ax.length a5]]) (fn:=Tryz.f30) rfl ?_
 refine trV a (h02 _ _ _ (K0 V H)) λeb a=>?_
 refine trG a (λq=>X06 _ _ t) λeg a=>?_
 refine trG a (λq=>V7 _ _ _ (l0 aq ar aj)) λej a=>?_
 refine ifB a (λbF a=>?_) λbF a=>?_
 ·refine trM a (i9 _ _ _ (K0 V H)) ?_
  rintro el a d3 bV ⟨cU,rfl,aA⟩
  have dU:Sub h bV:=aA.sub
  have ce:=aA.r
  obtain⟨cD,aW,dF,bb,cE,rfl,rfl,bO,cg⟩:=E1 ce
  obtain⟨rfl,dt⟩:=Sl.len cg
  try dsimp only at a
  have cx:=New.sndI (aA)
  obtain rfl:=oJ a
  exact⟨([.int .i64 cD,.slice aW cE.length bb]),rfl,(New.pair (New.int bO) cx)⟩
 ·obtain⟨aE,bC,a⟩:=D0 a
  refine eX { vars:=[9,10],boxes:=[3],owns:=[0],fuel:=true,nilsB:=[(3,1,121,4,56)] } (eX (λvs os h'=>∃ U u w y s,vs.tail = [.bool U,.int .i64 u,.int .i64 w]/\os = [y]/\Sub h h'/\J0 u/\J0 w/\F2 (L1.R h') y s/\(∃ Bs,F3 (L1.W h') y s Bs/\Y4 h Bs.flatten)/\l5 Y c av aw ax (D2 vs) U u w s=some aE) (eX (λ_ _=>0) (aI (eX Y0 ⟨false,0,aN,[],([]:N1),rfl,rfl,(Sub.refl _),(by decide),V,(show F2 (L1.R h) [] [] from trivial),⟨_,(show F3 (L1.W h) [] [] [] from trivial),(Y4.nil h)⟩,bC⟩) ?_)))
  rintro _ _ _ y G ai ⟨U,u,w,es,s,⟨⟩,⟨⟩,g,c1,L,i,⟨cP,x,K⟩,b⟩
  replace b:l5 Y c av aw ax G U u w s=some aE:=b
  obtain _|G:=G
  ·cases b
  rw[l5.eq_2]at b
  refine ifB b (λbD b=>?_) λbD b=>?_
  ·refine Or.inr (Or.inr (Or.inr (Or.inr (eX 15 (aI (aI (by kernel_rfl) (by kernel_rfl)) ?_)))))
   obtain⟨ec,bv,b⟩:=D0 b
   obtain⟨a3,cQ,bi,b8⟩:=Sl.getI (r:=L1.toRp) (U1.mono g H) bv (by decide)
   obtain⟨l,ed,ee,cO,dB,cY,ef,rfl,rfl,bL,c2,c3,ca⟩:=J3 b8
   obtain⟨rfl,dm⟩:=Sl.len ca
   try dsimp only at b
   refine Or.inl (eX (.hel (.slice al Y.length am) u 4 0) (aI ?_ ?_))
   ·intro db dR
    exact aI a3 (aI rfl (aI rfl rfl))
   refine Or.inl (eX (.val (.string l)) (aI ?_ ?_))
   ·intro dc cn
    exact eX _ (aI (A5.up cn bi) (aI rfl (aI rfl rfl)))
   obtain⟨eh,bx,b⟩:=D0 b
   obtain⟨a4,cR,bj,cb⟩:=Sl.getI (r:=L1.toRp) (U1.mono g H) bx (by decide)
   obtain⟨ei,cy,cz,aV,dC,ba,cA,rfl,rfl,c4,bM,bN,aP⟩:=J3 cb
   obtain⟨rfl,dn⟩:=Sl.len aP
   try dsimp only at b
   refine Or.inl (eX (.hel (.slice al Y.length am) u 4 0) (aI ?_ ?_))
   ·intro dd dS
    exact aI a4 (aI rfl (aI rfl rfl))
   refine Or.inl (eX (.agg [.val (.int .i64 cy),.val (.int .i64 cz),.val (.slice aV cA.length ba)]) (aI ?_ ?_))
   ·intro df co
    exact eX _ (aI (A5.up co bj) (aI rfl (aI rfl rfl)))
   obtain⟨cC,bz,b⟩:=D0 b
   obtain⟨j,k,f⟩:=cC
   try dsimp only at b
   refine Or.inr (eX (λv ap=>∃(ab:Option Addr) (ae:Nat),v = .agg #[.int .i64 j,.int .i64 k,.slice ab f.length ae]/\J0 j/\J0 k/\New U0 ai ap [.slice ab f.length ae] f/\f.length<=9223372036854775807) (aI (λv bA bB Z q=>by obtain⟨ab,ae,e,an,ao,f2,f3⟩:=q;exact⟨ab,ae,e,an,ao,New.mono f2 Z,f3⟩) (aI ?_ ?_)))
   ·intro dg aQ
    refine Tr.mono (V4 _ _ _ (l0 bM bN (U0.mono aQ aP)) _ bz) ?_
    rintro _ di ⟨cS,rfl,ay⟩
    have Z:=ay.sub
    have cc:=ay.r
    obtain⟨ep,eq,aZ,dI,be,er,rfl,bk,bR,bS,cl⟩:=F0 cc
    cases bk
    obtain⟨rfl,b0⟩:=Sl.len cl
    exact aI u05 (aI Z ⟨aZ,be,rfl,bR,bS,(New.from (New.sndI (New.sndI (ay))) aQ),b0⟩)
   refine Or.inr (eX (λv ap=>∃(aa:Option Addr) (ad:Nat),v = .agg #[.string l,.int .i64 j,.int .i64 k,.slice aa f.length ad]/\l.size<=9223372036854775807/\J0 j/\J0 k/\New U0 ai ap [.slice aa f.length ad] f/\f.length<=9223372036854775807) (aI (λv bA bB Z q=>by obtain⟨aa,ad,e,an,ao,f2,f3,bl⟩:=q;exact⟨aa,ad,e,an,ao,f2,New.mono f3 Z,bl⟩) (aI ?_ ?_)))
   ·intro dh dT
    rintro _ ⟨a0,bf,rfl,bT,bU,cm,b1⟩
    exact aI u05 (aI (Sub.refl _) ⟨a0,bf,rfl,bL,bT,bU,cm,b1⟩)
   intro au d
   dsimp only[a0h,Y0e]
   rintro _ ⟨I,J,rfl,O,P,Q,T,dw⟩
   rintro _ _
   refine ifB b (λbE b=>?_) λbE b=>?_
   ·refine Or.inr (Or.inr (Or.inl (aI (aI (by kernel_rfl) (by kernel_rfl)) ?_)))
    refine Or.inr ?_
    refine Or.inr ?_
    refine Or.inr ?_
    refine Or.inr ?_
    refine Or.inr ?_
    refine Or.inl (eX 1 (aI (aI rfl rfl) ?_))
    refine trM b (V4 _ _ _ (l0 aq ar (U0.mono (g.trans d) aj))) ?_
    rintro ek b dZ D ⟨cT,rfl,az⟩
    have m:Sub au D:=az.sub
    have cd:=az.r
    obtain⟨n,o,E,dD,F,p,rfl,rfl,M,N,S⟩:=F0 cd
    obtain⟨rfl,dq⟩:=Sl.len S
    try dsimp only at b
    have ct:=New.sndI (New.sndI (az))
    refine aI (aI rfl m) (aI (by first|exact trivial|exact rfl) ?_)
    refine aT ?_
    refine aT ?_
    obtain⟨dJ,br,b⟩:=D0 b
    refine aI (N2 br (by first|rw[F2.length (F2.up (r:=L1.toRp) (d.trans m) i),F2.length (show F2 (L1.R D) ([[.string c,.int .i64 n,.int .i64 o,.slice E p.length F]]:List (List Value)) [(c,(n,o,p))] from⟨(L4 t M N S),trivial⟩)]|exact congrArg (·+1) (F2.length (F2.up (r:=L1.toRp) (d.trans m) i)))) ?_
    obtain⟨cK,aR,aL,_⟩:=(New.pair (New.str t) (New.pair (New.int M) (New.pair (New.int N) ct)))
    refine aT ?_
    refine aT ?_
    refine ifB b (λbG b=>?_) λbG b=>?_
    ·obtain⟨dK,bs,b⟩:=D0 b
     refine aI (N2 bs (by first|rw[F2.length (F2.append (F2.up (r:=L1.toRp) (d.trans m) i) (show F2 (L1.R D) ([[.string c,.int .i64 n,.int .i64 o,.slice E p.length F]]:List (List Value)) [(c,(n,o,p))] from⟨(L4 t M N S),trivial⟩)),F2.length (show F2 (L1.R D) ([[.string l,.int .i64 j,.int .i64 k,.slice I f.length J]]:List (List Value)) [(l,(j,k,f))] from⟨(L4 O P Q (U0.mono m T.r)),trivial⟩)]|exact congrArg (·+1) (F2.length (F2.append (F2.up (r:=L1.toRp) (d.trans m) i) (show F2 (L1.R D) ([[.string c,.int .i64 n,.int .i64 o,.slice E p.length F]]:List (List Value)) [(c,(n,o,p))] from⟨(L4 t M N S),trivial⟩))))) ?_
     obtain⟨cL,aS,bm,_⟩:=(New.pair (New.str O) (New.pair (New.int P) (New.pair (New.int Q) T)))
     exact U2 G ⟨true,(IntKind.i64.wrap (u+1)),w,((y++([[.string c,.int .i64 n,.int .i64 o,.slice E p.length F]]:List (List Value)))++([[.string l,.int .i64 j,.int .i64 k,.slice I f.length J]]:List (List Value))),((s ++ [(c,(n,o,p))]) ++ [(l,(j,k,f))]),rfl,rfl,((g.trans d).trans m),(I0 _),L,(F2.append (F2.append (F2.up (r:=L1.toRp) (d.trans m) i) (show F2 (L1.R D) ([[.string c,.int .i64 n,.int .i64 o,.slice E p.length F]]:List (List Value)) [(c,(n,o,p))] from⟨(L4 t M N S),trivial⟩)) (show F2 (L1.R D) ([[.string l,.int .i64 j,.int .i64 k,.slice I f.length J]]:List (List Value)) [(l,(j,k,f))] from⟨(L4 O P Q (U0.mono m T.r)),trivial⟩)),⟨_,(F3.snoc (Wp.sub aS m) (F3.snoc aR (u08 x (d.trans m)))),(p0m x g K aS bm d (Sub.refl _) aL)⟩,b⟩
    ·exact U2 G ⟨true,(IntKind.i64.wrap (u+1)),w,(y++([[.string c,.int .i64 n,.int .i64 o,.slice E p.length F]]:List (List Value))),(s ++ [(c,(n,o,p))]),rfl,rfl,((g.trans d).trans m),(I0 _),L,(F2.append (F2.up (r:=L1.toRp) (d.trans m) i) (show F2 (L1.R D) ([[.string c,.int .i64 n,.int .i64 o,.slice E p.length F]]:List (List Value)) [(c,(n,o,p))] from⟨(L4 t M N S),trivial⟩)),⟨_,(F3.snoc aR (u08 x (d.trans m))),(K04 (u08 x d) (g.trans d) K aL)⟩,b⟩
   ·refine ifB b (λbH b=>?_) λbH b=>?_
    ·obtain⟨dL,bt,b⟩:=D0 b
     refine aI (N2 bt (by first|rw[F2.length (F2.up (r:=L1.toRp) d i),F2.length (show F2 (L1.R au) ([[.string l,.int .i64 j,.int .i64 k,.slice I f.length J]]:List (List Value)) [(l,(j,k,f))] from⟨(L4 O P Q T.r),trivial⟩)]|exact congrArg (·+1) (F2.length (F2.up (r:=L1.toRp) d i)))) ?_
     obtain⟨cM,cr,bn,_⟩:=(New.pair (New.str O) (New.pair (New.int P) (New.pair (New.int Q) T)))
     exact U2 G ⟨U,(IntKind.i64.wrap (u+1)),w,(y++([[.string l,.int .i64 j,.int .i64 k,.slice I f.length J]]:List (List Value))),(s ++ [(l,(j,k,f))]),rfl,rfl,(g.trans d),(I0 _),L,(F2.append (F2.up (r:=L1.toRp) d i) (show F2 (L1.R au) ([[.string l,.int .i64 j,.int .i64 k,.slice I f.length J]]:List (List Value)) [(l,(j,k,f))] from⟨(L4 O P Q T.r),trivial⟩)),⟨_,(F3.snoc cr (u08 x d)),(K04 x g K bn)⟩,b⟩
    ·exact U2 G ⟨U,(IntKind.i64.wrap (u+1)),w,y,s,rfl,rfl,(g.trans d),(I0 _),L,(F2.up (r:=L1.toRp) d i),⟨_,(u08 x d),K⟩,b⟩
  ·obtain rfl:=oJ b
   try dsimp only[Z0,I1]at a
   refine ifB a (λbI a=>?_) λbI a=>?_
   ·refine Or.inr (Or.inr (Or.inl (aI (aI (by kernel_rfl) (by kernel_rfl)) ?_)))
    refine Or.inr ?_
    refine Or.inr ?_
    refine Or.inr ?_
    refine Or.inr ?_
    refine Or.inr ?_
    refine Or.inl (eX 1 (aI (aI rfl rfl) ?_))
    refine trM a (V4 _ _ _ (l0 aq ar (U0.mono g aj))) ?_
    rintro em a d1 X ⟨cV,rfl,aB⟩
    have z:Sub ai X:=aB.sub
    have cf:=aB.r
    obtain⟨A,B,ac,dE,af,C,rfl,rfl,ag,ah,ak⟩:=F0 cf
    obtain⟨rfl,ds⟩:=Sl.len ak
    try dsimp only at a
    have cu:=New.sndI (New.sndI (aB))
    refine aI (aI rfl z) (aI (by first|exact trivial|exact rfl) ?_)
    refine aT ?_
    refine aT ?_
    obtain⟨dM,bu,a⟩:=D0 a
    refine aI (N2 bu (by first|rw[F2.length (F2.up (r:=L1.toRp) z i),F2.length (show F2 (L1.R X) ([[.string c,.int .i64 A,.int .i64 B,.slice ac C.length af]]:List (List Value)) [(c,(A,B,C))] from⟨(L4 t ag ah ak),trivial⟩)]|exact congrArg (·+1) (F2.length (F2.up (r:=L1.toRp) z i)))) ?_
    obtain⟨cN,cs,bo,_⟩:=(New.pair (New.str t) (New.pair (New.int ag) (New.pair (New.int ah) cu)))
    refine aT ?_
    refine aT ?_
    obtain⟨b2,bp,a⟩:=D0 a
    obtain rfl:(y++([[.string c,.int .i64 A,.int .i64 B,.slice ac C.length af]]:List (List Value))).length=b2:=(F2.length (F2.append (F2.up (r:=L1.toRp) z i) (show F2 (L1.R X) ([[.string c,.int .i64 A,.int .i64 B,.slice ac C.length af]]:List (List Value)) [(c,(A,B,C))] from⟨(L4 t ag ah ak),trivial⟩))).trans (oJ bp)
    obtain⟨dN,cZ,a⟩:=D0 a
    refine ifB a (λbJ a=>?_) λbJ a=>?_
    ·refine trM a (i9 _ _ _ (K0 V (U1.mono (g.trans z) H))) ?_
     rintro en a d2 bW ⟨cW,rfl,aC⟩
     have dV:Sub X bW:=aC.sub
     have ch:=aC.r
     obtain⟨cG,aX,dG,bc,cH,rfl,rfl,bP,ci⟩:=E1 ch
     obtain⟨rfl,du⟩:=Sl.len ci
     try dsimp only at a
     have cv:=New.sndI (aC)
     obtain rfl:=oJ a
     exact⟨([.int .i64 cG,.slice aX cH.length bc]),rfl,(New.pair (New.int bP) (New.from cv (g.trans z)))⟩
    ·intro cp bX aJ
     have b4:New (Wp.slice L1) h bX [cp] (s ++ [(c,(A,B,C))]):=(J1.fresh (r:=L1) aJ (F3.snoc cs (u08 x z)) (g.trans z) (K04 x g K bo))
     obtain⟨a1,bg,rfl,dP,dX,dx⟩:=J1.out (r:=L1.toRp) aJ (F2.append (F2.up (r:=L1.toRp) z i) (show F2 (L1.R X) ([[.string c,.int .i64 A,.int .i64 B,.slice ac C.length af]]:List (List Value)) [(c,(A,B,C))] from⟨(L4 t ag ah ak),trivial⟩))
     obtain rfl:=oJ a
     exact⟨([.int .i64 w,.slice a1 ((s ++ [(c,(A,B,C))])).length bg]),rfl,(New.pair (New.int L) b4)⟩
   ·obtain⟨b3,bq,a⟩:=D0 a
    obtain rfl:y.length=b3:=(F2.length i).trans (oJ bq)
    obtain⟨dO,c0,a⟩:=D0 a
    refine ifB a (λbK a=>?_) λbK a=>?_
    ·refine trM a (i9 _ _ _ (K0 V (U1.mono g H))) ?_
     rintro eo a ea bY ⟨cX,rfl,aD⟩
     have dW:Sub ai bY:=aD.sub
     have cj:=aD.r
     obtain⟨cI,aY,dH,bd,cJ,rfl,rfl,bQ,ck⟩:=E1 cj
     obtain⟨rfl,dv⟩:=Sl.len ck
     try dsimp only at a
     have cw:=New.sndI (aD)
     obtain rfl:=oJ a
     exact⟨([.int .i64 cI,.slice aY cJ.length bd]),rfl,(New.pair (New.int bQ) (New.from cw g))⟩
    ·intro cq bZ aK
     have b5:New (Wp.slice L1) h bZ [cq] s:=(J1.fresh (r:=L1) aK x g K)
     obtain⟨a2,bh,rfl,dQ,dY,dy⟩:=J1.out (r:=L1.toRp) aK i
     obtain rfl:=oJ a
     exact⟨([.int .i64 w,.slice a2 s.length bh]),rfl,(New.pair (New.int L) b5)⟩
theorem R03(h:Hp)(aq:List Value)(aE:N0)(b3:D3.R h aq aE)(c:ByteArray)(m:c.size<=9223372036854775807)(ar:List Value)(aF:j0)(b4:O1.R h ar aF)(r:N0×Bool)(b:C9 aE c aF=some r):
  Tr Tryz.prog 29 #[.agg aq.toArray,.string c,.agg ar.toArray] h λv h'=>∃(ap:List Value),v = .tuple #[.agg ap.toArray,.bool r.2]/\New D3 h h' ap r.1:=by
 obtain⟨bY,a2,eD,bl,bZ,rfl,rfl,X,K⟩:=E1 b3
 obtain⟨rfl,el⟩:=Sl.len K
 obtain⟨b0,b1,a3,eE,bm,b2,rfl,rfl,az,aA,Y⟩:=F0 b4
 obtain⟨rfl,em⟩:=Sl.len Y
 unfold C9 at b
 dsimp only at b
 refine E3 (args:=[.agg #[.int .i64 bY,.slice a2 bZ.length bl],.string c,.agg #[.int .i64 b0,.int .i64 b1,.slice a3 b2.length bm]]) (fn:=Tryz.f29) rfl ?_
 refine trM b (V9 _ _ _ (K0 X K)) ?_
 rintro fe b fb aC ⟨cM,rfl,ag⟩
 have N:Sub h aC:=ag.sub
 have b5:=ag.r
 obtain⟨G,an,eG,P,g,rfl,rfl,y,Z⟩:=E1 b5
 obtain⟨rfl,eo⟩:=Sl.len Z
 try dsimp only at b
 have s:=New.sndI (ag)
 refine trV b (U9 _ _ _ (K0 X (U1.mono N K))) λfy b=>?_
 refine trG b (λq=>Y06 _ _ m) λfE b=>?_
 refine trG b (λq=>Y8 _ _ _ (l0 az aA (U0.mono N Y))) λfG b=>?_
 refine ifB b (λbU b=>?_) λbU b=>?_
 ·obtain rfl:=oJ b
  exact⟨([.int .i64 G,.slice an g.length P]),rfl,(New.pair (New.int y) s)⟩
 ·refine trM b (A7 _ _ _ (l0 az aA (U0.mono N Y))) ?_
  rintro cE b fa aB ⟨p,eR,o,rfl,O⟩
  have n:Sub aC aB:=O.sub
  have aG:=O.r
  obtain⟨d,e,f⟩:=cE
  dsimp only at b O aG
  obtain⟨_,_,_,_,_,_,br,bt,z,A,aa⟩:=F0 aG
  cases br
  cases bt
  obtain⟨rfl,ez⟩:=Sl.len aa
  try dsimp only at b
  have ad:=New.sndI (New.sndI (O))
  refine trV b (B03 _ _ _ (K0 X (U1.mono (N.trans n) K)) _ m) λcD b=>?_
  obtain⟨eV,bC,b⟩:=D0 b
  have dj:J0 cD:=O0 bC
  refine ifB b (λbP b=>?_) λbP b=>?_
  ·obtain⟨ff,Q,b⟩:=D0 b
   obtain⟨ao,cN,c3,b6⟩:=Sl.getI (r:=L1.toRp) (U1.mono n Z) Q (by decide)
   refine aI ao ?_
   obtain⟨fg,fh,fi,cG,eF,cX,fj,rfl,rfl,dk,dm,dn,b7⟩:=J3 b6
   obtain⟨rfl,en⟩:=Sl.len b7
   try dsimp only at b
   obtain⟨bB,bX,_,_,bs,_⟩:=ao
   cases bs
   obtain⟨a0,cz,bx,_⟩:=(New.pair (New.str m) (New.pair (New.int z) (New.pair (New.int A) ad)))
   refine New.put (r:=L1) s n (T0d Q).1 (new:=[.string c,.int .i64 d,.int .i64 e,.slice (some ⟨p,0,none⟩) f.length o]) (By:=a0) cz bx rfl (T0d Q).2 ?_
   intro dS aH eg _
   have eZ:=aH.r
   obtain rfl:=oJ b
   exact⟨([.int .i64 G,.slice (some ⟨bB,bX,none⟩) g.length P]),rfl,(New.pair (New.int y) aH)⟩
  ·refine ifB b (λbQ b=>?_) λbQ b=>?_
   ·obtain rfl:=oJ b
    exact⟨([.int .i64 G,.slice an g.length P]),rfl,(New.pair (New.int y) (New.mono s n))⟩
   ·obtain⟨ak,bK,b⟩:=D0 b
    refine eX { vars:=[11],boxes:=[],owns:=[],fuel:=true } (eX (λvs os h'=>∃ k,vs.tail = [.int .i64 k]/\os = []/\Sub aB h'/\J0 k/\Q7 g c (D2 vs) k=some ak) (eX (λ_ _=>0) (aI (eX Y0 ⟨0,rfl,rfl,(Sub.refl _),(by decide),bK⟩) ?_)))
    rintro _ H B ⟨k,⟨⟩,⟨⟩,l,dg,a⟩
    replace a:Q7 g c H k=some ak:=a
    obtain _|H:=H
    ·cases a
    rw[Q7.eq_2]at a
    obtain⟨fk,bF,a⟩:=D0 a
    obtain⟨cO,au,b8⟩:=Sl.getG (r:=L1.toRp) (U1.mono (n.trans l) Z) bF (by decide) (d08 B)
    refine aI (λq=>(au q).1) ?_
    obtain⟨fl,fm,fo,cH,eH,cY,fp,rfl,rfl,dq,ds,dt,ca⟩:=J3 b8
    obtain⟨rfl,ep⟩:=Sl.len ca
    try dsimp only at a
    refine eX _ (aI (λq=>(au q).2) ?_)
    refine ifB a (λbR a=>?_) λbR a=>?_
    ·exact U2 H ⟨(IntKind.i64.wrap (k+1)),rfl,rfl,l,(I0 _),a⟩
    ·obtain rfl:=oJ a
     try dsimp only[Z0,I1]at b
     rcases New.two s with⟨rfl,rfl,rfl⟩|⟨df,eU,rfl⟩
     ·skip
      refine Or.inr ?_
      obtain⟨eW,bD,b⟩:=D0 b
      obtain⟨a1,cA,bz,_⟩:=(New.pair (New.str m) (New.pair (New.int z) (New.pair (New.int A) (New.mono ad l))))
      refine aI (aI rfl (l0m bD (F2.length (show F2 (L1.R B) ([[.string c,.int .i64 d,.int .i64 e,.slice (some ⟨p,0,none⟩) f.length o]]:List (List Value)) [(c,(d,e,f))] from⟨(L4 m z A (U0.mono l aa)),trivial⟩)))) ?_
      intro fc ej bN
      obtain⟨ah,w,C,eS,t,rfl⟩:=New.appN (r:=L1) s (n.trans l) (show F3 (L1.W B) ([[.string c,.int .i64 d,.int .i64 e,.slice (some ⟨p,0,none⟩) f.length o]]:List (List Value)) [(c,(d,e,f))] [a1] from⟨cA,trivial⟩) (Y4.older (Sub.refl _) bz) bN
      have cs:=ah.r
      obtain⟨bu,eA⟩:=Sl.len cs
      subst bu
      obtain⟨al,bL,b⟩:=D0 b
      refine eX { vars:=[12],boxes:=[],owns:=[],fuel:=true } (eX (λvs os h'=>∃ i E,vs.tail = [.int .i64 i]/\os = []/\Sub h h'/\J0 i/\New U1 h h' [.slice (some ⟨w,C,none⟩) (([]:N1) ++ [(c,(d,e,f))]).length t] E/\n5 k (D2 vs) i E=some al) (eX (λ_ _=>0) (aI (eX Y0 ⟨(IntKind.i64.wrap ((((([]:N1) ++ [(c,(d,e,f))]).length:Nat):Int)-1)),(([]:N1) ++ [(c,(d,e,f))]),rfl,rfl,ah.sub,(I0 _),ah,bL⟩) ?_)))
      rintro _ I dT ⟨i,E,⟨⟩,⟨⟩,e8,dh,ae,a⟩
      replace a:n5 k I i E=some al:=a
      obtain _|I:=I
      ·cases a
      rw[n5.eq_2]at a
      have L:=ae.r
      refine ifB a (λbS a=>?_) λbS a=>?_
      ·refine Or.inr (Or.inr (Or.inl (aI (aI (by kernel_rfl) (by kernel_rfl)) ?_)))
       obtain⟨fq,S,a⟩:=D0 a
       obtain⟨bd,cP,av,cb⟩:=Sl.getI (r:=L1.toRp) L S (by decide)
       obtain⟨aJ,aK,aL,a5,eI,bn,aM,rfl,rfl,du,dv,dw,cc⟩:=J3 cb
       obtain⟨rfl,eq⟩:=Sl.len cc
       try dsimp only at a
       refine Or.inl (eX (.hel (.slice (some ⟨w,C,none⟩) (([]:N1) ++ [(c,(d,e,f))]).length t) (IntKind.i64.wrap (i-1)) 4 0) (aI ?_ ?_))
       ·intro dU e2
        exact aI bd (aI rfl (aI rfl rfl))
       refine Or.inl (eX (.agg [.val (.string aJ),.val (.int .i64 aK),.val (.int .i64 aL),.val (.slice a5 aM.length bn)]) (aI ?_ ?_))
       ·intro dV cu
        exact eX _ (aI (A5.up cu av) (aI rfl (aI rfl rfl)))
       obtain⟨fs,T,a⟩:=D0 a
       obtain⟨be,cQ,aw,cd⟩:=Sl.getI (r:=L1.toRp) L T (by decide)
       obtain⟨aN,aO,aP,ba,eJ,bo,aQ,rfl,rfl,dx,dy,dz,ce⟩:=J3 cd
       obtain⟨rfl,er⟩:=Sl.len ce
       try dsimp only at a
       refine Or.inl (eX (.hel (.slice (some ⟨w,C,none⟩) (([]:N1) ++ [(c,(d,e,f))]).length t) i 4 0) (aI ?_ ?_))
       ·intro dW e3
        exact aI be (aI rfl (aI rfl rfl))
       refine Or.inl (eX (.agg [.val (.string aN),.val (.int .i64 aO),.val (.int .i64 aP),.val (.slice ba aQ.length bo)]) (aI ?_ ?_))
       ·intro dX cv
        exact eX _ (aI (A5.up cv aw) (aI rfl (aI rfl rfl)))
       obtain⟨ft,bG,a⟩:=D0 a
       obtain⟨bf,cR,c4,cf⟩:=Sl.getI (r:=L1.toRp) L bG (by decide)
       obtain⟨fu,fv,fw,cI,eK,cZ,fx,rfl,rfl,dA,dB,dC,cg⟩:=J3 cf
       obtain⟨rfl,es⟩:=Sl.len cg
       try dsimp only at a
       refine Or.inl (eX (.hel (.slice (some ⟨w,C,none⟩) (([]:N1) ++ [(c,(d,e,f))]).length t) i 4 0) (aI ?_ ?_))
       ·intro dY e4
        exact aI bf (aI rfl (aI rfl rfl))
       refine Or.inr ?_
       refine Or.inr ?_
       refine Or.inr ?_
       refine Or.inl (eX 0 (aI (aI rfl rfl) ?_))
       refine New.swap1 (r:=L1) ae (Sub.refl _) T S (A5.up (Sub.refl _) av) rfl ?_
       intro d1 bV
       refine aT ?_
       obtain⟨fz,bH,a⟩:=D0 a
       obtain⟨bg,cS,db,ch⟩:=Sl.getI (r:=L1.toRp) L bH (by decide)
       refine aI bg ?_
       obtain⟨fA,fB,fC,cJ,eM,c0,fD,rfl,rfl,dD,dE,dF,ci⟩:=J3 ch
       obtain⟨rfl,et⟩:=Sl.len ci
       try dsimp only at a
       refine aT ?_
       refine New.swap2 (r:=L1) bV T S (A5.up (Sub.refl _) aw) rfl ?_
       intro dZ ab eh _
       have e0:=ab.r
       refine aT ?_
       exact U2 I ⟨(IntKind.i64.wrap (i-1)),((E.set i.toNat (aJ,(aK,aL,aM))).set (IntKind.i64.wrap (i-1)).toNat (aN,(aO,aP,aQ))),rfl,rfl,ab.sub,(I0 _),ab,a⟩
      ·obtain rfl:=oJ a
       try dsimp only[Z0,I1]at b
       obtain rfl:=oJ b
       exact⟨([.int .i64 G,.slice (some ⟨w,C,none⟩) (([]:N1) ++ [(c,(d,e,f))]).length t]),rfl,(New.pair (New.int y) ae)⟩
     ·skip
      obtain⟨eY,bE,b⟩:=D0 b
      obtain⟨aj,cC,bA,_⟩:=(New.pair (New.str m) (New.pair (New.int z) (New.pair (New.int A) (New.mono ad l))))
      obtain⟨cy,cr,aD,a4⟩:=New.app s (n.trans l)
      refine eX cy (aI cr (aI (N2 bE (by first|rw[aD,F2.length (show F2 (L1.R B) ([[.string c,.int .i64 d,.int .i64 e,.slice (some ⟨p,0,none⟩) f.length o]]:List (List Value)) [(c,(d,e,f))] from⟨(L4 m z A (U0.mono l aa)),trivial⟩)]|(rw[aD];rfl))) ?_))
      intro fd ek bO
      obtain⟨ai,x,D,eT,u,rfl⟩:=a4 ([[.string c,.int .i64 d,.int .i64 e,.slice (some ⟨p,0,none⟩) f.length o]]:List (List Value)) [(c,(d,e,f))] [aj] _ _ (show F3 (L1.W B) ([[.string c,.int .i64 d,.int .i64 e,.slice (some ⟨p,0,none⟩) f.length o]]:List (List Value)) [(c,(d,e,f))] [aj] from⟨cC,trivial⟩) (Y4.older (Sub.refl _) bA) bO
      have ct:=ai.r
      obtain⟨bv,eC⟩:=Sl.len ct
      subst bv
      obtain⟨am,bM,b⟩:=D0 b
      refine eX { vars:=[12],boxes:=[],owns:=[],fuel:=true } (eX (λvs os h'=>∃ j F,vs.tail = [.int .i64 j]/\os = []/\Sub h h'/\J0 j/\New U1 h h' [.slice (some ⟨x,D,none⟩) (g ++ [(c,(d,e,f))]).length u] F/\n5 k (D2 vs) j F=some am) (eX (λ_ _=>0) (aI (eX Y0 ⟨(IntKind.i64.wrap ((((g ++ [(c,(d,e,f))]).length:Nat):Int)-1)),(g ++ [(c,(d,e,f))]),rfl,rfl,ai.sub,(I0 _),ai,bM⟩) ?_)))
      rintro _ J d2 ⟨j,F,⟨⟩,⟨⟩,e9,di,af,a⟩
      replace a:n5 k J j F=some am:=a
      obtain _|J:=J
      ·cases a
      rw[n5.eq_2]at a
      have M:=af.r
      refine ifB a (λbT a=>?_) λbT a=>?_
      ·refine Or.inr (Or.inr (Or.inl (aI (aI (by kernel_rfl) (by kernel_rfl)) ?_)))
       obtain⟨fF,U,a⟩:=D0 a
       obtain⟨bh,cT,ax,cj⟩:=Sl.getI (r:=L1.toRp) M U (by decide)
       obtain⟨aR,aS,aU,bb,eN,bp,aV,rfl,rfl,dG,dH,dI,ck⟩:=J3 cj
       obtain⟨rfl,eu⟩:=Sl.len ck
       try dsimp only at a
       refine Or.inl (eX (.hel (.slice (some ⟨x,D,none⟩) (g ++ [(c,(d,e,f))]).length u) (IntKind.i64.wrap (j-1)) 4 0) (aI ?_ ?_))
       ·intro d3 e5
        exact aI bh (aI rfl (aI rfl rfl))
       refine Or.inl (eX (.agg [.val (.string aR),.val (.int .i64 aS),.val (.int .i64 aU),.val (.slice bb aV.length bp)]) (aI ?_ ?_))
       ·intro ea cw
        exact eX _ (aI (A5.up cw ax) (aI rfl (aI rfl rfl)))
       obtain⟨fH,V,a⟩:=D0 a
       obtain⟨bi,cU,ay,cl⟩:=Sl.getI (r:=L1.toRp) M V (by decide)
       obtain⟨aW,aX,aY,bc,eO,bq,aZ,rfl,rfl,dJ,dK,dL,cm⟩:=J3 cl
       obtain⟨rfl,ew⟩:=Sl.len cm
       try dsimp only at a
       refine Or.inl (eX (.hel (.slice (some ⟨x,D,none⟩) (g ++ [(c,(d,e,f))]).length u) j 4 0) (aI ?_ ?_))
       ·intro eb e6
        exact aI bi (aI rfl (aI rfl rfl))
       refine Or.inl (eX (.agg [.val (.string aW),.val (.int .i64 aX),.val (.int .i64 aY),.val (.slice bc aZ.length bq)]) (aI ?_ ?_))
       ·intro ec cx
        exact eX _ (aI (A5.up cx ay) (aI rfl (aI rfl rfl)))
       obtain⟨fI,bI,a⟩:=D0 a
       obtain⟨bj,cV,dc,cn⟩:=Sl.getI (r:=L1.toRp) M bI (by decide)
       obtain⟨fJ,fK,fL,cK,eP,c1,fM,rfl,rfl,dM,dN,dO,co⟩:=J3 cn
       obtain⟨rfl,ex⟩:=Sl.len co
       try dsimp only at a
       refine Or.inl (eX (.hel (.slice (some ⟨x,D,none⟩) (g ++ [(c,(d,e,f))]).length u) j 4 0) (aI ?_ ?_))
       ·intro ed e7
        exact aI bj (aI rfl (aI rfl rfl))
       refine Or.inr ?_
       refine Or.inr ?_
       refine Or.inr ?_
       refine Or.inl (eX 0 (aI (aI rfl rfl) ?_))
       refine New.swap1 (r:=L1) af (Sub.refl _) V U (A5.up (Sub.refl _) ax) rfl ?_
       intro ef bW
       refine aT ?_
       obtain⟨fN,bJ,a⟩:=D0 a
       obtain⟨bk,cW,dd,cp⟩:=Sl.getI (r:=L1.toRp) M bJ (by decide)
       refine aI bk ?_
       obtain⟨fO,fP,fQ,cL,eQ,c2,fR,rfl,rfl,dP,dQ,dR,cq⟩:=J3 cp
       obtain⟨rfl,ey⟩:=Sl.len cq
       try dsimp only at a
       refine aT ?_
       refine New.swap2 (r:=L1) bW V U (A5.up (Sub.refl _) ay) rfl ?_
       intro ee ac ei _
       have e1:=ac.r
       refine aT ?_
       exact U2 J ⟨(IntKind.i64.wrap (j-1)),((F.set j.toNat (aR,(aS,aU,aV))).set (IntKind.i64.wrap (j-1)).toNat (aW,(aX,aY,aZ))),rfl,rfl,ac.sub,(I0 _),ac,a⟩
      ·obtain rfl:=oJ a
       try dsimp only[Z0,I1]at b
       obtain rfl:=oJ b
       exact⟨([.int .i64 G,.slice (some ⟨x,D,none⟩) (g ++ [(c,(d,e,f))]).length u]),rfl,(New.pair (New.int y) af)⟩
theorem L02(h:Hp)(l:List Value)(n:N0)(M:D3.R h l n)(c:ByteArray)(ae:c.size<=9223372036854775807)(r:j0×Bool)(b:V8 n c=some r):
  Tr Tryz.prog 43 #[.agg l.toArray,.string c] h λv h'=>∃(k:List Value),v = .tuple #[.agg k.toArray,.bool r.2]/\O1.R h' k r.1/\Sub h h':=by
 obtain⟨L,s,ao,x,g,rfl,rfl,ad,i⟩:=E1 M
 obtain⟨rfl,ak⟩:=Sl.len i
 unfold V8 at b
 dsimp only at b
 refine E3 (args:=[.agg #[.int .i64 L,.slice s g.length x],.string c]) (fn:=Tryz.f43) rfl ?_
 obtain⟨j,D,b⟩:=D0 b
 refine eX { vars:=[6],boxes:=[],owns:=[],fuel:=true } (eX (λvs os h'=>∃ d,vs.tail = [.int .i64 d]/\os = []/\Sub h h'/\J0 d/\D9 g c (D2 vs) d=some j) (eX (λ_ _=>0) (aI (eX Y0 ⟨0,rfl,rfl,(Sub.refl _),(by decide),D⟩) ?_)))
 rintro _ f m ⟨d,⟨⟩,⟨⟩,e,af,a⟩
 replace a:D9 g c f d=some j:=a
 obtain _|f:=f
 ·cases a
 rw[D9.eq_2]at a
 refine ifB a (λE a=>?_) λE a=>?_
 ·obtain⟨av,B,a⟩:=D0 a
  obtain⟨u,Y,z,N⟩:=Sl.getI (r:=L1.toRp) (U1.mono e i) B (by decide)
  refine aI u ?_
  obtain⟨aw,ax,ay,W,ap,ab,az,rfl,rfl,ag,ah,ai,O⟩:=J3 N
  obtain⟨rfl,al⟩:=Sl.len O
  try dsimp only at a
  refine eX _ (aI z ?_)
  refine ifB a (λF a=>?_) λF a=>?_
  ·obtain⟨aA,C,a⟩:=D0 a
   obtain⟨w,Z,A,P⟩:=Sl.getI (r:=L1.toRp) (U1.mono e i) C (by decide)
   refine aI w ?_
   obtain⟨aB,aC,aD,X,aq,ac,aE,rfl,rfl,aj,G,H,o⟩:=J3 P
   obtain⟨rfl,am⟩:=Sl.len o
   try dsimp only at a
   refine eX _ (aI A ?_)
   refine trM a (V4 _ _ _ (l0 G H o)) ?_
   rintro aF a au K ⟨aa,rfl,q⟩
   have S:Sub m K:=q.sub
   have Q:=q.r
   obtain⟨T,U,t,ar,y,V,rfl,rfl,I,J,p⟩:=F0 Q
   obtain⟨rfl,an⟩:=Sl.len p
   try dsimp only at a
   obtain rfl:=oJ a
   try dsimp only[L3,N3]at b
   obtain rfl:=oJ b
   exact⟨([.int .i64 T,.int .i64 U,.slice t V.length y]),rfl,(l0 I J p),(e.trans S)⟩
  ·exact U2 f ⟨(IntKind.i64.wrap (d+1)),rfl,rfl,e,(I0 _),a⟩
 ·obtain rfl:=oJ a
  try dsimp only[Z0,I1]at b
  obtain rfl:=oJ b
  exact⟨([.int .i64 0,.int .i64 0,.slice none 0 0]),rfl,(l0 (by decide) (by decide) (c08 P1 m)),e⟩
theorem v08(h:Hp)(T:List Value)(Z:j0)(aZ:O1.R h T Z)(U:List Value)(aa:j0)(a0:O1.R h U aa)(r:Bool)(d:i01 Z aa=some r):
  Tr Tryz.prog 44 #[.agg T.toArray,.agg U.toArray] h λv h'=>v = .bool r/\h'=h:=by
 obtain⟨z,j,ab,bv,ai,A,rfl,rfl,K,W,N⟩:=F0 aZ
 obtain⟨rfl,br⟩:=Sl.len N
 obtain⟨B,C,ac,bx,aj,D,rfl,rfl,X,Y,O⟩:=F0 a0
 obtain⟨rfl,bs⟩:=Sl.len O
 unfold i01 at d
 dsimp only at d
 refine Tr.forget (E3 (args:=[.agg #[.int .i64 z,.int .i64 j,.slice ab A.length ai],.agg #[.int .i64 B,.int .i64 C,.slice ac D.length aj]]) (fn:=Tryz.f44) rfl ?_)
 refine trV d (V7 _ _ _ (l0 K W N)) λbI d=>?_
 refine trG d (λq=>V7 _ _ _ (l0 X Y O)) λbJ d=>?_
 refine ifB d (λaM d=>?_) λaM d=>?_
 ·obtain rfl:=oJ d
  exact aI rfl (Sub.refl _)
 ·obtain⟨bD,aw,d⟩:=D0 d
  refine aI (O0 aw) ?_
  refine trM d (U04 _ _ K) ?_
  rintro J d bH aX ⟨bb,bz,bi,rfl,P,t⟩
  obtain⟨rfl,bt⟩:=Sl.len P
  obtain⟨S,aH,d⟩:=D0 d
  refine eX { vars:=[8],boxes:=[],owns:=[0,1],fuel:=true,kept:=[0] } (eX (λvs os h'=>∃ o I E G F,vs.tail = [.int .i64 o]/\os = [I,G]/\Sub aX h'/\J0 o/\F2 (Wp.int.R h') I E/\F2 (Wp.int.R h') G F/\T7 J z j A B C D (D2 vs) o E F=some S) (eX (λ_ _=>0) (aI (eX Y0 ⟨0,(List.replicate j.toNat ([.int .i64 0]:List Value)),(List.replicate j.toNat (0:Int)),([[.int .i64 0]]:List (List Value)),[0],rfl,rfl,(Sub.refl _),(by decide),(F2.up (r:=Wp.int.toRp) t (F2.rep (p:=Wp.int.R h) (a:=[.int .i64 0]) (b:=0) ⟨rfl,(by decide)⟩ (j.toNat))),(F2.up (r:=Wp.int.toRp) t (show F2 (Wp.int.R h) ([[.int .i64 0]]:List (List Value)) [0] from⟨⟨rfl,(by decide)⟩,trivial⟩)),aH⟩) ?_)))
  rintro _ I G H aW ⟨o,bS,E,bT,F,⟨⟩,⟨⟩,k,bm,aq,V,e⟩
  replace e:T7 J z j A B C D H o E F=some S:=e
  obtain _|H:=H
  ·cases e
  rw[T7.eq_2]at e
  obtain⟨aY,ar,e⟩:=D0 e
  obtain rfl:G.length=aY:=(F2.length V).trans (oJ ar)
  obtain⟨bA,bk,e⟩:=D0 e
  refine ifB e (λaJ e=>?_) λaJ e=>?_
  ·obtain⟨Q,aG,e⟩:=D0 e
   refine eX { vars:=[9],boxes:=[],owns:=[0,1],fuel:=true,kept:=[0] } (eX (λvs os h'=>∃ l u m w n,vs.tail = [.int .i64 l]/\os = [u,w]/\Sub aW h'/\J0 l/\F2 (Wp.int.R h') u m/\F2 (Wp.int.R h') w n/\a6 J o z j A B C D (D2 vs) l m n=some Q) (eX (λ_ _=>0) (aI (eX Y0 ⟨0,I,E,G,F,rfl,rfl,(Sub.refl _),(by decide),aq,V,aG⟩) ?_)))
   rintro _ u w x M ⟨l,bU,m,bV,n,⟨⟩,⟨⟩,g,bl,s,i,c⟩
   replace c:a6 J o z j A B C D x l m n=some Q:=c
   obtain _|x:=x
   ·cases c
   rw[a6.eq_2]at c
   refine ifB c (λaK c=>?_) λaK c=>?_
   ·refine Or.inl (aI (aI (by kernel_rfl) (by kernel_rfl)) ?_)
    obtain⟨bK,ay,c⟩:=D0 c
    obtain⟨ad,bd,ak,a1⟩:=W4 i ay
    refine aI ad ?_
    obtain⟨rfl,aQ⟩:=a1
    refine eX _ (aI ak ?_)
    refine ldI c (E2.mono (k.trans g) P) λbL aR c=>?_
    obtain⟨f,az,c⟩:=D0 c
    refine eX (.int .i64 f) (aI (L6 _ _ _ (l0 K W (U0.mono ((t.trans k).trans g) N)) _ aQ _ aR _  az) ?_)
    obtain⟨bB,au,c⟩:=D0 c
    have L:J0 f:=O0 au
    refine ifB c (λaL c=>?_) λaL c=>?_
    ·exact U2 x ⟨(IntKind.i64.wrap (l+1)),u,m,w,n,rfl,rfl,g,(I0 _),s,i,c⟩
    ·refine Or.inl (aI (aI (by kernel_rfl) (by kernel_rfl)) ?_)
     obtain⟨bM,aA,c⟩:=D0 c
     obtain⟨ae,be,al,a2⟩:=W4 i aA
     refine aI ae ?_
     obtain⟨rfl,bn⟩:=a2
     refine eX _ (aI al ?_)
     obtain⟨bN,aB,c⟩:=D0 c
     obtain⟨af,bf,am,a3⟩:=W4 s aB
     refine aI af ?_
     obtain⟨rfl,aS⟩:=a3
     refine eX _ (aI am ?_)
     refine ldI c (E2.mono (k.trans g) P) λbO aU c=>?_
     obtain⟨y,aC,c⟩:=D0 c
     refine eX (.int .i64 y) (aI (L6 _ _ _ (l0 X Y (U0.mono ((t.trans k).trans g) O)) _ aS _ aU _  aC) ?_)
     obtain⟨bC,av,c⟩:=D0 c
     have aV:J0 y:=O0 av
     refine ifB c (λaN c=>?_) λaN c=>?_
     ·obtain rfl:=oJ c
      try dsimp only[L3,N3]at e
      obtain rfl:=oJ e
      try dsimp only[L3,N3]at d
      obtain rfl:=oJ d
      exact aI rfl ((t.trans k).trans g)
     ·refine Or.inr ?_
      intro bG bq ap
      obtain⟨bc,bj,rfl,ba,bF,bu⟩:=J1.out (r:=Wp.int.toRp) ap i
      obtain⟨bP,aD,c⟩:=D0 c
      refine Tr.val (v03 _ _ _ _ _ ba _ L _  aD) (aI rfl ?_)
      refine ifB c (λaO c=>?_) λaO c=>?_
      ·obtain⟨bE,ax,c⟩:=D0 c
       refine aI (N2 ax (by first|rw[F2.length i,F2.length (show F2 (Wp.int.R M) ([[.int .i64 f]]:List (List Value)) [f] from⟨⟨rfl,L⟩,trivial⟩)]|exact congrArg (·+1) (F2.length i))) ?_
       obtain⟨bQ,aE,c⟩:=D0 c
       obtain⟨ag,bg,an,a4⟩:=W4 s aE
       refine aI ag ?_
       obtain⟨rfl,bo⟩:=a4
       refine eX _ (aI an ?_)
       exact U2 x ⟨(IntKind.i64.wrap (l+1)),(u.set f.toNat [.int .i64 y]),(m.set f.toNat y),(w++([[.int .i64 f]]:List (List Value))),(n ++ [f]),rfl,rfl,g,(I0 _),(F2.set (p:=Wp.int.R M) (a:=[.int .i64 y]) (b:=y) ⟨rfl,aV⟩ f.toNat s),(F2.append i (show F2 (Wp.int.R M) ([[.int .i64 f]]:List (List Value)) [f] from⟨⟨rfl,L⟩,trivial⟩)),c⟩
      ·obtain⟨bR,aF,c⟩:=D0 c
       obtain⟨ah,bh,ao,a5⟩:=W4 s aF
       refine aI ah ?_
       obtain⟨rfl,bp⟩:=a5
       refine eX _ (aI ao ?_)
       refine ifB c (λaP c=>?_) λaP c=>?_
       ·obtain rfl:=oJ c
        try dsimp only[L3,N3]at e
        obtain rfl:=oJ e
        try dsimp only[L3,N3]at d
        obtain rfl:=oJ d
        exact aI rfl ((t.trans k).trans g)
       ·exact U2 x ⟨(IntKind.i64.wrap (l+1)),u,m,w,n,rfl,rfl,g,(I0 _),s,i,c⟩
   ·obtain rfl:=oJ c
    try dsimp only[Z0,I1]at e
    exact U2 H ⟨(IntKind.i64.wrap (o+1)),u,m,w,n,rfl,rfl,(k.trans g),(I0 _),s,i,e⟩
  ·obtain rfl:=oJ e
   try dsimp only[Z0,I1]at d
   obtain rfl:=oJ d
   exact aI rfl (t.trans k)
theorem X0a(h:Hp)(u:List Value)(A:N0)(af:D3.R h u A)(m:ByteArray)(Z:m.size<=9223372036854775807)(r:(List ByteArray))(b:X00 A m=some r):
  Tr Tryz.prog 54 #[.agg u.toArray,.string m] h λv h'=>∃(s:Option Addr) (z t:Nat),v = .slice s z t/\(Wp.slice Wp.str).R h' [.slice s z t] r/\Sub h h':=by
 obtain⟨n,I,aJ,M,o,rfl,rfl,w,j⟩:=E1 af
 obtain⟨rfl,aD⟩:=Sl.len j
 unfold X00 at b
 dsimp only at b
 refine E3 (args:=[.agg #[.int .i64 n,.slice I o.length M],.string m]) (fn:=Tryz.f54) rfl ?_
 refine trM b (L02 _ _ _ (K0 w j) _ Z) ?_
 rintro al b aP ae ⟨au,rfl,C,k⟩
 obtain⟨a0,H⟩:=al
 dsimp only at b C
 obtain⟨E,F,ap,aM,ax,G,rfl,rfl,ac,ad,D⟩:=F0 C
 obtain⟨rfl,aG⟩:=Sl.len D
 try dsimp only at b
 obtain⟨p,W,b⟩:=D0 b
 refine eX { vars:=[8],boxes:=[],owns:=[0],fuel:=true } (eX (λvs os h'=>∃ d l e,vs.tail = [.int .i64 d]/\os = [l]/\Sub ae h'/\J0 d/\F2 (Wp.str.R h') l e/\l4 o H n E F G (D2 vs) d e=some p) (eX (λ_ _=>0) (aI (eX Y0 ⟨0,[],([]:(List ByteArray)),rfl,rfl,(Sub.refl _),(by decide),(F2.up (r:=Wp.str.toRp) k (show F2 (Wp.str.R h) ([]:List (List Value)) ([]:(List ByteArray)) from trivial)),W⟩) ?_)))
 rintro _ l i y ⟨d,a2,e,⟨⟩,⟨⟩,c,ay,g,a⟩
 replace a:l4 o H n E F G i d e=some p:=a
 obtain _|i:=i
 ·cases a
 rw[l4.eq_2]at a
 refine trG a (λq=>h02 _ _ _ (K0 w (U1.mono (k.trans c) j))) λa1 a=>?_
 refine ifB a (λX a=>?_) λX a=>?_
 ·refine Or.inl (aI (aI (by kernel_rfl) (by kernel_rfl)) ?_)
  obtain⟨aQ,T,a⟩:=D0 a
  obtain⟨K,aq,O,ag⟩:=Sl.getI (r:=L1.toRp) (U1.mono (k.trans c) j) T (by decide)
  refine aI K ?_
  obtain⟨aR,aS,aU,an,aK,av,aV,rfl,rfl,az,aa,ab,B⟩:=J3 ag
  obtain⟨rfl,aE⟩:=Sl.len B
  try dsimp only at a
  refine eX _ (aI O ?_)
  obtain⟨am,U,a⟩:=D0 a
  refine eX (.bool am) (aI (v08 _ _ _ (l0 aa ab B) _ _ (l0 ac ad (U0.mono c D)) _  U) ?_)
  refine ifB a (λY a=>?_) λY a=>?_
  ·obtain⟨aW,V,a⟩:=D0 a
   obtain⟨L,ar,P,ah⟩:=Sl.getI (r:=L1.toRp) (U1.mono (k.trans c) j) V (by decide)
   refine aI L ?_
   obtain⟨f,aX,aY,ao,aL,aw,aZ,rfl,rfl,x,aA,aB,ai⟩:=J3 ah
   obtain⟨rfl,aF⟩:=Sl.len ai
   try dsimp only at a
   refine eX _ (aI P ?_)
   obtain⟨aN,S,a⟩:=D0 a
   refine aI (N2 S (by first|rw[F2.length g,F2.length (show F2 (Wp.str.R y) ([[.string f]]:List (List Value)) [f] from⟨⟨rfl,x⟩,trivial⟩)]|exact congrArg (·+1) (F2.length g))) ?_
   exact U2 i ⟨(IntKind.i64.wrap (d+1)),(l++([[.string f]]:List (List Value))),(e ++ [f]),rfl,rfl,c,(I0 _),(F2.append g (show F2 (Wp.str.R y) ([[.string f]]:List (List Value)) [f] from⟨⟨rfl,x⟩,trivial⟩)),a⟩
  ·exact U2 i ⟨(IntKind.i64.wrap (d+1)),l,e,rfl,rfl,c,(I0 _),g,a⟩
 ·obtain rfl:=oJ a
  try dsimp only[Z0,I1]at b
  intro aO aC Q
  obtain⟨J,N,rfl,aj,ak,aH⟩:=J1.out (r:=Wp.str.toRp) Q g
  obtain rfl:=oJ b
  exact⟨J,e.length,N,rfl,aj,((k.trans c).trans ak)⟩
theorem u09(h:Hp)(b:Int)(f:J0 b)(c:Int)(j:J0 c)(d:Int)(g:J0 d)(r:Q0)(a:t01 b c d=some r):
  Tr Tryz.prog 153 #[.int .i64 b,.int .i64 c,.int .i64 d] h λv h'=>∃(e:List Value),v = .agg e.toArray/\P1.R h' e r/\Sub h h':=by
 unfold t01 at a
 refine E3 (args:=[.int .i64 b,.int .i64 c,.int .i64 d]) (fn:=Tryz.f153) rfl ?_
 refine ifB a (λi a=>?_) λi a=>?_
 ·obtain rfl:=oJ a
  exact⟨([.int .i64 d,.int .i64 (IntKind.i64.wrap (0-c)),.int .i64 b]),rfl,(K1 g (I0 _) f),(Sub.refl _)⟩
 ·obtain rfl:=oJ a
  exact⟨([.int .i64 b,.int .i64 c,.int .i64 d]),rfl,(K1 f j g),(Sub.refl _)⟩
theorem x03(h:Hp)(k:Option Addr)(o l:Nat)(d:V0)(q:U0.R h [.slice k o l] d)(n:List Value)(p:Q0)(w:P1.R h n p)(r:Int)(b:G5 d p=some r):
  Tr Tryz.prog 247 #[.slice k o l,.agg n.toArray] h λv h'=>v = .int .i64 r/\h'=h:=by
 obtain⟨rfl,K⟩:=Sl.len q
 obtain⟨f,g,i,rfl,rfl,C,D,E⟩:=Q2 w
 unfold G5 at b
 dsimp only at b
 refine Tr.forget (E3 (args:=[.slice k d.length l,.agg #[.int .i64 f,.int .i64 g,.int .i64 i]]) (fn:=Tryz.f247) rfl ?_)
 obtain⟨m,s,b⟩:=D0 b
 refine eX { vars:=[8],boxes:=[],owns:=[],fuel:=true } (eX (λvs os h'=>∃ c,vs.tail = [.int .i64 c]/\os = []/\Sub h h'/\J0 c/\V2 d f g i (D2 vs) c=some m) (eX (λ_ _=>0) (aI (eX Y0 ⟨0,rfl,rfl,(Sub.refl _),(by decide),s⟩) ?_)))
 rintro _ e J ⟨c,⟨⟩,⟨⟩,j,F,a⟩
 replace a:V2 d f g i e c=some m:=a
 obtain _|e:=e
 ·cases a
 rw[V2.eq_2]at a
 refine ifB a (λt a=>?_) λt a=>?_
 ·refine Or.inl (aI (aI (by kernel_rfl) (by kernel_rfl)) ?_)
  refine ld a (U0.mono j q) λL B x a=>?_
  obtain⟨y,z,A,rfl,rfl,G,H,I⟩:=Q2 x
  try dsimp only at a
  refine eX (eqE (f,g,i) (y,z,A)) (aI (w0p _ _ _ rfl _ _ _ _ _ _) ?_)
  refine ifB a (λu a=>?_) λu a=>?_
  ·obtain rfl:=oJ a
   try dsimp only[L3,N3]at b
   obtain rfl:=oJ b
   exact aI rfl j
  ·exact U2 e ⟨(IntKind.i64.wrap (c+1)),rfl,rfl,j,(I0 _),a⟩
 ·obtain rfl:=oJ a
  try dsimp only[Z0,I1]at b
  obtain rfl:=oJ b
  exact aI rfl j
theorem Q02(h:Hp)(b:Option Addr)(f c:Nat)(d:V0)(i:U0.R h [.slice b f c] d)(e:List Value)(g:Q0)(q:P1.R h e g)(r:Bool)(a:U3 d g=some r):
  Tr Tryz.prog 230 #[.slice b f c,.agg e.toArray] h λv h'=>v = .bool r/\h'=h:=by
 obtain⟨rfl,u⟩:=Sl.len i
 obtain⟨n,o,p,rfl,rfl,k,l,m⟩:=Q2 q
 unfold U3 at a
 dsimp only at a
 refine Tr.forget (E3 (args:=[.slice b d.length c,.agg #[.int .i64 n,.int .i64 o,.int .i64 p]]) (fn:=Tryz.f230) rfl ?_)
 refine trV a (x03 _ _ _ _ _ i _ _ (K1 k l m)) λs a=>?_
 obtain⟨w,j,a⟩:=D0 a
 have t:J0 s:=O0 j
 obtain rfl:=oJ a
 exact aI rfl (Sub.refl _)
theorem y04(h:Hp)(c:Int)(k:J0 c)(e:Nat)(j:TypeId)(d:Int)(l:J0 d)(b:Int)(m:J0 b)(f:h e=some (.cells #[.int .i64 d,.int .i64 b] j (0,0)))(r:Int)(a:t7 c (d,b)=some r):
  Tr Tryz.prog 241 #[.int .i64 c,ptr e 0] h λv h'=>v = .int .i64 r/\h'=h:=by
 unfold t7 at a
 dsimp only at a
 refine Tr.forget (E3 (args:=[.int .i64 c,ptr e 0]) (fn:=Tryz.f241) rfl ?_)
 refine eX (.int .i64 b) (aI ⟨rfl,by simp[Hp.cell,(f)]⟩ ?_)
 refine ifB a (λg a=>?_) λg a=>?_
 ·refine eX (.int .i64 d) (aI ⟨rfl,by simp[Hp.cell,(f)]⟩ ?_)
  obtain rfl:=oJ a
  exact aI rfl (Sub.refl _)
 ·refine eX (.int .i64 b) (aI ⟨rfl,by simp[Hp.cell,(f)]⟩ ?_)
  refine ifB a (λi a=>?_) λi a=>?_
  ·obtain rfl:=oJ a
   exact aI rfl (Sub.refl _)
  ·obtain rfl:=oJ a
   exact aI rfl (Sub.refl _)
theorem Y0j(h:Hp)(G:List Value)(J:j0)(am:O1.R h G J)(r:g00)(t:t04 J=some r):
  Tr Tryz.prog 172 #[.agg G.toArray] h λv h'=>∃(E:Option Addr) (I F:Nat),v = .slice E I F/\o0j.R h' [.slice E I F] r/\Sub h h':=by
 obtain⟨aj,ak,N,aK,P,A,rfl,rfl,az,aA,B⟩:=F0 am
 obtain⟨rfl,aG⟩:=Sl.len B
 unfold t04 at t
 dsimp only at t
 refine E3 (args:=[.agg #[.int .i64 aj,.int .i64 ak,.slice N A.length P]]) (fn:=Tryz.f172) rfl ?_
 obtain⟨C,Z,t⟩:=D0 t
 refine eX { vars:=[12],boxes:=[],owns:=[0],fuel:=true } (eX (λvs os h'=>∃ u z w,vs.tail = [.int .i64 u]/\os = [z]/\Sub h h'/\J0 u/\F2 (D4.R h') z w/\n00 A (D2 vs) u w=some C) (eX (λ_ _=>0) (aI (eX Y0 ⟨0,[],([]:g00),rfl,rfl,(Sub.refl _),(by decide),(show F2 (D4.R h) ([]:List (List Value)) ([]:g00) from trivial),Z⟩) ?_)))
 rintro _ z x ai ⟨u,aU,w,⟨⟩,⟨⟩,y,aC,H,f⟩
 replace f:n00 A x u w=some C:=f
 obtain _|x:=x
 ·cases f
 rw[n00.eq_2]at f
 refine ifB f (λag f=>?_) λag f=>?_
 ·refine ld f (U0.mono y B) λaR ax ao f=>?_
  obtain⟨c,L,a,rfl,rfl,p,aE,j⟩:=Q2 ao
  try dsimp only at f
  obtain⟨M,Y,f⟩:=D0 f
  obtain⟨al,ar,S,U⟩:=Sl.cutI (r:=P1.toRp) (U0.mono y B) Y
  refine aI al (eX ar (aI S ?_))
  intro au ah _
  obtain⟨av,ay,rfl,K⟩:=U au ah
  have aH:=(Sl.len K).2
  obtain⟨D,aa,f⟩:=D0 f
  refine eX { vars:=[23],boxes:=[],owns:=[0],fuel:=true } (eX (λvs os h'=>∃ k n l,vs.tail = [.int .i64 k]/\os = [n]/\Sub ai h'/\J0 k/\F2 (D4.R h') n l/\W5 M L c a (D2 vs) k l=some D) (eX (λ_ _=>0) (aI (eX Y0 ⟨0,z,w,rfl,rfl,(Sub.refl _),(by decide),H,aa⟩) ?_)))
  rintro _ n q m ⟨k,aS,l,⟨⟩,⟨⟩,s,aB,g,e⟩
  replace e:W5 M L c a q k l=some D:=e
  obtain _|q:=q
  ·cases e
  rw[W5.eq_2]at e
  refine ifB e (λab e=>?_) λab e=>?_
  ·refine ld e (U0.mono s K) λaP aw an e=>?_
   obtain⟨d,aQ,b,rfl,rfl,o,aD,i⟩:=Q2 an
   try dsimp only at e
   refine ifB e (λac e=>?_) λac e=>?_
   ·exact U2 q ⟨(IntKind.i64.wrap (k+1)),n,l,rfl,rfl,s,(I0 _),g,e⟩
   ·refine ifB e (λad e=>?_) λad e=>?_
    ·obtain⟨aL,V,e⟩:=D0 e
     refine aI (N2 V (by first|rw[F2.length g,F2.length (show F2 (D4.R m) ([[.int .i64 (if b<a then b else a),.int .i64 (if b>a then b else a)]]:List (List Value)) [((if b<a then b else a),(if b>a then b else a))] from⟨(G3 (E9 i j) (E9 i j)),trivial⟩)]|exact congrArg (·+1) (F2.length g))) ?_
     refine ifB e (λae e=>?_) λae e=>?_
     ·obtain⟨aM,W,e⟩:=D0 e
      refine aI (N2 W (by first|rw[F2.length (F2.append g (show F2 (D4.R m) ([[.int .i64 (if b<a then b else a),.int .i64 (if b>a then b else a)]]:List (List Value)) [((if b<a then b else a),(if b>a then b else a))] from⟨(G3 (E9 i j) (E9 i j)),trivial⟩)),F2.length (show F2 (D4.R m) ([[.int .i64 (if d<c then d else c),.int .i64 (if d>c then d else c)]]:List (List Value)) [((if d<c then d else c),(if d>c then d else c))] from⟨(G3 (E9 o p) (E9 o p)),trivial⟩)]|exact congrArg (·+1) (F2.length (F2.append g (show F2 (D4.R m) ([[.int .i64 (if b<a then b else a),.int .i64 (if b>a then b else a)]]:List (List Value)) [((if b<a then b else a),(if b>a then b else a))] from⟨(G3 (E9 i j) (E9 i j)),trivial⟩))))) ?_
      exact U2 q ⟨(IntKind.i64.wrap (k+1)),((n++([[.int .i64 (if b<a then b else a),.int .i64 (if b>a then b else a)]]:List (List Value)))++([[.int .i64 (if d<c then d else c),.int .i64 (if d>c then d else c)]]:List (List Value))),((l ++ [((if b<a then b else a),(if b>a then b else a))]) ++ [((if d<c then d else c),(if d>c then d else c))]),rfl,rfl,s,(I0 _),(F2.append (F2.append g (show F2 (D4.R m) ([[.int .i64 (if b<a then b else a),.int .i64 (if b>a then b else a)]]:List (List Value)) [((if b<a then b else a),(if b>a then b else a))] from⟨(G3 (E9 i j) (E9 i j)),trivial⟩)) (show F2 (D4.R m) ([[.int .i64 (if d<c then d else c),.int .i64 (if d>c then d else c)]]:List (List Value)) [((if d<c then d else c),(if d>c then d else c))] from⟨(G3 (E9 o p) (E9 o p)),trivial⟩)),e⟩
     ·exact U2 q ⟨(IntKind.i64.wrap (k+1)),(n++([[.int .i64 (if b<a then b else a),.int .i64 (if b>a then b else a)]]:List (List Value))),(l ++ [((if b<a then b else a),(if b>a then b else a))]),rfl,rfl,s,(I0 _),(F2.append g (show F2 (D4.R m) ([[.int .i64 (if b<a then b else a),.int .i64 (if b>a then b else a)]]:List (List Value)) [((if b<a then b else a),(if b>a then b else a))] from⟨(G3 (E9 i j) (E9 i j)),trivial⟩)),e⟩
    ·refine ifB e (λaf e=>?_) λaf e=>?_
     ·obtain⟨aN,X,e⟩:=D0 e
      refine aI (N2 X (by first|rw[F2.length g,F2.length (show F2 (D4.R m) ([[.int .i64 (if d<c then d else c),.int .i64 (if d>c then d else c)]]:List (List Value)) [((if d<c then d else c),(if d>c then d else c))] from⟨(G3 (E9 o p) (E9 o p)),trivial⟩)]|exact congrArg (·+1) (F2.length g))) ?_
      exact U2 q ⟨(IntKind.i64.wrap (k+1)),(n++([[.int .i64 (if d<c then d else c),.int .i64 (if d>c then d else c)]]:List (List Value))),(l ++ [((if d<c then d else c),(if d>c then d else c))]),rfl,rfl,s,(I0 _),(F2.append g (show F2 (D4.R m) ([[.int .i64 (if d<c then d else c),.int .i64 (if d>c then d else c)]]:List (List Value)) [((if d<c then d else c),(if d>c then d else c))] from⟨(G3 (E9 o p) (E9 o p)),trivial⟩)),e⟩
     ·exact U2 q ⟨(IntKind.i64.wrap (k+1)),n,l,rfl,rfl,s,(I0 _),g,e⟩
  ·obtain rfl:=oJ e
   try dsimp only[Z0,I1]at f
   exact U2 x ⟨(IntKind.i64.wrap (u+1)),n,l,rfl,rfl,(y.trans s),(I0 _),g,f⟩
 ·obtain rfl:=oJ f
  try dsimp only[Z0,I1]at t
  intro aO aF T
  obtain⟨O,Q,rfl,ap,aq,aJ⟩:=J1.out (r:=D4.toRp) T H
  obtain rfl:=oJ t
  exact⟨O,w.length,Q,rfl,ap,(y.trans aq)⟩
theorem C0d(h:Hp)(d:List Value)(g:j0)(u:O1.R h d g)(r:H5×Bool)(a:M00 g=some r):
  Tr Tryz.prog 265 #[.agg d.toArray] h λv h'=>∃(c:List Value),v = .tuple #[.agg c.toArray,.bool r.2]/\D4.R h' c r.1/\Sub h h':=by
 obtain⟨q,s,k,F,l,t,rfl,rfl,e,f,b⟩:=F0 u
 obtain⟨rfl,D⟩:=Sl.len b
 unfold M00 at a
 dsimp only at a
 refine E3 (args:=[.agg #[.int .i64 q,.int .i64 s,.slice k t.length l]]) (fn:=Tryz.f265) rfl ?_
 refine trV a (g02 _ _ _ (l0 e f b)) λI a=>?_
 refine ifB a (λm a=>?_) λm a=>?_
 ·obtain rfl:=oJ a
  exact⟨([.int .i64 0,.int .i64 0]),rfl,(G3 (by decide) (by decide)),(Sub.refl _)⟩
 ·refine trM a (Y0j _ _ _ (l0 e f b)) ?_
  rintro J a H C ⟨z,G,B,rfl,i,j⟩
  obtain⟨rfl,E⟩:=Sl.len i
  refine ifB a (λn a=>?_) λn a=>?_
  ·obtain rfl:=oJ a
   exact⟨([.int .i64 0,.int .i64 0]),rfl,(G3 (by decide) (by decide)),j⟩
  ·refine ld a i λK A w a=>?_
   obtain⟨x,y,rfl,rfl,o,p⟩:=X02 w
   try dsimp only at a
   obtain rfl:=oJ a
   exact⟨([.int .i64 x,.int .i64 y]),rfl,(G3 o p),j⟩
theorem v09(h:Hp)(B:List Value)(K:j0)(ay:O1.R h B K)(C:List Value)(L:H5)(az:D4.R h C L)(r:j0×Bool)(b:N8 K L=some r):
  Tr Tryz.prog 173 #[.agg B.toArray,.agg C.toArray] h λv h'=>∃(A:List Value),v = .tuple #[.agg A.toArray,.bool r.2]/\New O1 h h' A r.1:=by
 obtain⟨av,aw,S,aY,V,ax,rfl,rfl,E,F,t⟩:=F0 ay
 obtain⟨rfl,aV⟩:=Sl.len t
 obtain⟨d,f,rfl,rfl,G,H⟩:=X02 az
 unfold N8 at b
 dsimp only at b
 refine E3 (args:=[.agg #[.int .i64 av,.int .i64 aw,.slice S ax.length V],.agg #[.int .i64 d,.int .i64 f]]) (fn:=Tryz.f173) rfl ?_
 refine trM b (A7 _ _ _ (l0 E F t)) ?_
 rintro aH b ba J ⟨o,aZ,D,rfl,n⟩
 have N:Sub h J:=n.sub
 have M:=n.r
 obtain⟨P,Q,k⟩:=aH
 dsimp only at b n M
 obtain⟨_,_,_,_,_,_,X,Y,I,am,aB⟩:=F0 M
 cases X
 cases Y
 obtain⟨rfl,aW⟩:=Sl.len aB
 try dsimp only at b
 have w:=New.sndI (New.sndI (n))
 refine trV b (g02 _ _ _ (l0 E F (U0.mono N t))) λbj b=>?_
 refine ifB b (λag b=>?_) λag b=>?_
 ·obtain rfl:=oJ b
  exact⟨([.int .i64 P,.int .i64 Q,.slice (some ⟨o,0,none⟩) k.length D]),rfl,(New.pair (New.int I) (New.pair (New.int am) w))⟩
 ·intro c q
  have Z:(Hp.set J c (.cells #[.int .i64 d,.int .i64 f] 155 (0,0))) c=some (.cells #[.int .i64 d,.int .i64 f] 155 (0,0)):=Hp.set_same _ _ _
  have au:c≠o:=λe=>New.blk w (Sub.refl _) (e▸q)
  obtain⟨z,ae,b⟩:=D0 b
  refine eX { vars:=[39],boxes:=[],owns:=[],fuel:=true } (eX (λvs os h'=>∃ g i,vs.tail = [.int .i64 g]/\os = []/\Sub h h'/\J0 g/\New U0 h h' [.slice (some ⟨o,0,none⟩) k.length D] i/\h' c=some (.cells #[.int .i64 d,.int .i64 f] 155 (0,0))/\p5 k d f (D2 vs) g i=some z) (eX (λ_ _=>0) (aI (eX Y0 ⟨0,k,rfl,rfl,(N.trans (Sub.set q)),(by decide),(New.mono w (Sub.set q)),Z,ae⟩) ?_)))
  rintro _ m ao ⟨g,i,⟨⟩,⟨⟩,aG,aN,O,s,a⟩
  replace a:p5 k d f m g i=some z:=a
  obtain _|m:=m
  ·cases a
  rw[p5.eq_2]at a
  have u:=O.r
  refine ifB a (λaf a=>?_) λaf a=>?_
  ·refine ld a u λbc aK aA a=>?_
   obtain⟨bd,y,be,rfl,rfl,ai,aj,ak⟩:=Q2 aA
   try dsimp only at a
   refine Or.inr (Or.inr (Or.inl (aI (aI (by kernel_rfl) (by kernel_rfl)) ?_)))
   obtain⟨j,ac,a⟩:=D0 a
   obtain⟨a1,aa,a⟩:=D0 a
   have al:J0 j:=O0 aa
   refine Or.inl (eX (.val (.int .i64 j)) (aI ?_ ?_))
   ·intro aR aE
    exact Tr.val (y04 _ _ ai c 155 _ G _ H (aE _ _ s) _ ac) (aI rfl (aI rfl rfl))
   obtain⟨l,ad,a⟩:=D0 a
   obtain⟨a2,ab,a⟩:=D0 a
   have an:J0 l:=O0 ab
   refine Or.inl (eX (.val (.int .i64 l)) (aI ?_ ?_))
   ·intro aS aF
    exact Tr.val (y04 _ _ ak c 155 _ G _ H (aF _ _ s) _ ad) (aI rfl (aI rfl rfl))
   refine Or.inl (eX (.agg [.val (.int .i64 j),.val (.int .i64 y),.val (.int .i64 l)]) (aI ?_ ?_))
   ·intro aU a4
    exact aI rfl (aI rfl rfl)
   refine Or.inr ?_
   refine Or.inr ?_
   refine Or.inl (eX 0 (aI (aI rfl rfl) ?_))
   obtain⟨bf,p,a⟩:=D0 a
   obtain⟨U,aL,aM,aC⟩:=Sl.getI (r:=P1.toRp) u p (by decide)
   refine aI U ?_
   obtain⟨bg,bh,bi,rfl,rfl,aO,aP,aQ⟩:=Q2 aC
   try dsimp only at a
   refine aT ?_
   refine New.put (r:=P1) O (Sub.refl _) (T0d p).1 (new:=[.int .i64 j,.int .i64 y,.int .i64 l]) (By:=[]) (s06 _ _ _ (K1 al aj an)) (Y4.nil _) rfl (T0d p).2 ?_
   intro ap w28 ar _
   have a3:=w28.r
   have ah:ap c=some (.cells #[.int .i64 d,.int .i64 f] 155 (0,0)):=(ar c au).trans s
   refine aT ?_
   exact U2 m ⟨(IntKind.i64.wrap (g+1)),(i.set g.toNat (j,y,l)),rfl,rfl,w28.sub,(I0 _),w28,(ah),a⟩
  ·obtain rfl:=oJ a
   try dsimp only[Z0,I1]at b
   refine trM b (I03 _ _ _ _ _ u) ?_
   rintro aJ b bb aq ⟨T,a0,W,rfl,x⟩
   have a5:Sub ao aq:=x.sub
   have aD:=x.r
   obtain⟨rfl,aX⟩:=Sl.len aD
   obtain rfl:=oJ b
   exact⟨([.int .i64 P,.int .i64 (IntKind.i64.wrap (Q-1)),.slice T aJ.length W]),rfl,(New.pair (New.int I) (New.pair (New.int (I0 _)) (New.from x aG)))⟩
theorem s0e(h:Hp)(k:List Value)(o:j0)(L:O1.R h k o)(r:j0×H5×Bool)(a:A02 o=some r):
  Tr Tryz.prog 219 #[.agg k.toArray] h λv h'=>∃(i:List Value) (j:List Value),v = .tuple #[.agg i.toArray,.agg j.toArray,.bool r.2.2]/\New O1 h h' i r.1/\D4.R h' j r.2.1:=by
 obtain⟨I,J,s,ai,u,K,rfl,rfl,f,g,b⟩:=F0 L
 obtain⟨rfl,af⟩:=Sl.len b
 unfold A02 at a
 dsimp only at a
 refine E3 (args:=[.agg #[.int .i64 I,.int .i64 J,.slice s K.length u]]) (fn:=Tryz.f219) rfl ?_
 refine trM a (C0d _ _ _ (l0 f g b)) ?_
 rintro S a ao n ⟨ad,rfl,p,c⟩
 obtain⟨aq,ar⟩:=S
 dsimp only at a p
 obtain⟨T,U,rfl,rfl,l,m⟩:=X02 p
 try dsimp only at a
 refine ifB a (λB a=>?_) λB a=>?_
 ·refine trM a (A7 _ _ _ (l0 f g (U0.mono c b))) ?_
  rintro V a ap H ⟨A,aj,w,rfl,d⟩
  have al:Sub n H:=d.sub
  have q:=d.r
  obtain⟨W,X,Y⟩:=V
  dsimp only at a d q
  obtain⟨_,_,_,_,_,_,y,z,C,D,M⟩:=F0 q
  cases y
  cases z
  obtain⟨rfl,ag⟩:=Sl.len M
  try dsimp only at a
  have Q:=New.sndI (New.sndI (d))
  obtain rfl:=oJ a
  exact⟨([.int .i64 W,.int .i64 X,.slice (some ⟨A,0,none⟩) Y.length w]),([.int .i64 0,.int .i64 0]),rfl,(New.pair (New.int C) (New.pair (New.int D) (New.from Q c))),(G3 (by decide) (by decide))⟩
 ·refine trM a (v09 _ _ _ (l0 f g (U0.mono c b)) _ _ (G3 l m)) ?_
  rintro Z a an G ⟨ae,rfl,e⟩
  obtain⟨au,av⟩:=Z
  dsimp only at a e
  have am:Sub n G:=e.sub
  have N:=e.r
  obtain⟨aa,ab,t,ak,x,ac,rfl,rfl,E,F,O⟩:=F0 N
  obtain⟨rfl,ah⟩:=Sl.len O
  try dsimp only at a
  have P:=New.sndI (New.sndI (e))
  refine Or.inr (Or.inr (Or.inl (aI (aI (by kernel_rfl) (by kernel_rfl)) ?_)))
  refine Or.inr ?_
  refine Or.inr ?_
  refine Or.inl (eX 0 (aI (aI rfl rfl) ?_))
  refine aT ?_
  refine aT ?_
  obtain rfl:=oJ a
  exact⟨([.int .i64 aa,.int .i64 ab,.slice t ac.length x]),([.int .i64 T,.int .i64 U]),rfl,(New.pair (New.int E) (New.pair (New.int F) (New.from P c))),(G3 l m)⟩
theorem S0g(h:Hp)(z:List Value)(F:j0)(an:O1.R h z F)(r:j0×g00)(b:e03 F=some r):
  Tr Tryz.prog 135 #[.agg z.toArray] h λv h'=>∃(y:List Value) (w:Option Addr) (E x:Nat),v = .tuple #[.agg y.toArray,.slice w E x]/\New O1 h h' y r.1/\o0j.R h' [.slice w E x] r.2:=by
 obtain⟨ak,al,O,aN,S,am,rfl,rfl,ad,ae,G⟩:=F0 an
 obtain⟨rfl,aH⟩:=Sl.len G
 unfold e03 at b
 dsimp only at b
 refine E3 (args:=[.agg #[.int .i64 ak,.int .i64 al,.slice O am.length S]]) (fn:=Tryz.f135) rfl ?_
 refine trM b (A7 _ _ _ (l0 ad ae G)) ?_
 rintro ay b aU s ⟨aa,aP,U,rfl,o⟩
 have au:Sub h s:=o.sub
 have I:=o.r
 obtain⟨aC,aD,N⟩:=ay
 dsimp only at b o I
 obtain⟨_,_,_,_,_,_,W,X,ah,ai,aq⟩:=F0 I
 cases W
 cases X
 obtain⟨rfl,aL⟩:=Sl.len aq
 try dsimp only at b
 have ax:=New.sndI (New.sndI (o))
 obtain⟨u,ab,b⟩:=D0 b
 refine eX { vars:=[],boxes:=[2],owns:=[0],fuel:=true } (eX (λvs os h'=>∃ d e j t k u8 n f,vs.tail = [.int .i64 d,.int .i64 e,.slice j t k]/\os = [n]/\Sub s h'/\J0 d/\J0 e/\New U0 h h' [.slice j t k] u8/\F2 (D4.R h') n f/\O8 (D2 vs) d e u8 f=some u) (eX (λ_ _=>0) (aI (eX Y0 ⟨aC,aD,(some ⟨aa,0,none⟩),N.length,U,N,[],([]:g00),rfl,rfl,(Sub.refl _),ah,ai,ax,(show F2 (D4.R s) ([]:List (List Value)) ([]:g00) from trivial),ab⟩) ?_)))
 rintro _ _ _ n m aj ⟨d,e,j,t,k,u8,aY,f,⟨⟩,⟨⟩,K,A,B,L,l,a⟩
 replace a:O8 m d e u8 f=some u:=a
 obtain _|m:=m
 ·cases a
 rw[O8.eq_2]at a
 have H:=L.r
 obtain⟨rfl,aJ⟩:=Sl.len H
 refine trM a (s0e _ _ _ (l0 A B H)) ?_
 rintro az a aR q ⟨aE,aF,rfl,p,J⟩
 obtain⟨aV,aW,aX⟩:=az
 dsimp only at a p J
 have c:Sub aj q:=p.sub
 have ao:=p.r
 obtain⟨aA,aB,P,aO,T,M,rfl,rfl,af,ag,ap⟩:=F0 ao
 obtain⟨rfl,aK⟩:=Sl.len ap
 try dsimp only at a
 have aw:=New.sndI (New.sndI (p))
 obtain⟨g,i,rfl,rfl,C,D⟩:=X02 J
 try dsimp only at a
 refine ifB a (λac a=>?_) λac a=>?_
 ·intro aS aG Y
  obtain⟨Q,V,rfl,ar,av,aM⟩:=J1.out (r:=D4.toRp) Y (F2.up (r:=D4.toRp) c l)
  obtain rfl:=oJ a
  try dsimp only[L3,N3]at b
  obtain rfl:=oJ b
  exact⟨([.int .i64 d,.int .i64 e,.slice j u8.length k]),Q,f.length,V,rfl,(New.pair (New.int A) (New.pair (New.int B) (New.mono L (c.trans av)))),ar⟩
 ·obtain⟨aQ,Z,a⟩:=D0 a
  refine aI (N2 Z (by first|rw[F2.length (F2.up (r:=D4.toRp) c l),F2.length (show F2 (D4.R q) ([[.int .i64 g,.int .i64 i]]:List (List Value)) [(g,i)] from⟨(G3 C D),trivial⟩)]|exact congrArg (·+1) (F2.length (F2.up (r:=D4.toRp) c l)))) ?_
  exact U2 m ⟨aA,aB,P,M.length,T,M,(n++([[.int .i64 g,.int .i64 i]]:List (List Value))),(f ++ [(g,i)]),rfl,rfl,(K.trans c),af,ag,(New.from aw (au.trans K)),(F2.append (F2.up (r:=D4.toRp) c l) (show F2 (D4.R q) ([[.int .i64 g,.int .i64 i]]:List (List Value)) [(g,i)] from⟨(G3 C D),trivial⟩)),a⟩
theorem J07(h:Hp)(f:List Value)(j:j0)(H:O1.R h f j)(r:j0)(a:N00 j=some r):
  Tr Tryz.prog 88 #[.agg f.toArray] h λv h'=>∃(e:List Value),v = .agg e.toArray/\New O1 h h' e r:=by
 obtain⟨E,F,p,am,s,G,rfl,rfl,u,w,k⟩:=F0 H
 obtain⟨rfl,ag⟩:=Sl.len k
 unfold N00 at a
 dsimp only at a
 refine E3 (args:=[.agg #[.int .i64 E,.int .i64 F,.slice p G.length s]]) (fn:=Tryz.f88) rfl ?_
 refine trM a (S0g _ _ _ (l0 u w k)) ?_
 rintro P a aw g ⟨Z,W,ao,ad,rfl,b,m⟩
 obtain⟨aA,aE⟩:=P
 dsimp only at a b m
 have M:Sub h g:=b.sub
 have I:=b.r
 obtain⟨aB,aC,V,an,ac,aD,rfl,rfl,x,y,l⟩:=F0 I
 obtain⟨rfl,ah⟩:=Sl.len l
 try dsimp only at a
 have ay:=New.sndI (New.sndI (b))
 obtain⟨rfl,ai⟩:=Sl.len m
 refine trM a (H07 _ _ _ (l0 x y l)) ?_
 rintro Q a ax i ⟨aa,Y,aq,af,rfl,c,o⟩
 obtain⟨aF,aK⟩:=Q
 dsimp only at a c o
 have N:Sub g i:=c.sub
 have J:=c.r
 obtain⟨aG,aH,X,ap,ae,aJ,rfl,rfl,z,A,n⟩:=F0 J
 obtain⟨rfl,aj⟩:=Sl.len n
 try dsimp only at a
 have az:=New.sndI (New.sndI (c))
 obtain⟨rfl,ak⟩:=Sl.len o
 refine trM a (E04 _ _ _ (l0 z A n)) ?_
 rintro aL a av D ⟨ab,rfl,d⟩
 have au:Sub i D:=d.sub
 have K:=d.r
 obtain⟨S,T,q,ar,t,U,rfl,rfl,B,C,L⟩:=F0 K
 obtain⟨rfl,al⟩:=Sl.len L
 try dsimp only at a
 have O:=New.sndI (New.sndI (d))
 obtain rfl:=oJ a
 exact⟨([.int .i64 S,.int .i64 T,.slice q U.length t]),rfl,(New.pair (New.int B) (New.pair (New.int C) (New.from O (M.trans N))))⟩
theorem Y0a(h:Hp)(e:List Value)(g:j0)(w:O1.R h e g)(b:Option Addr)(f c:Nat)(d:D1)(j:E2.R h [.slice b f c] d)(r:Bool)(a:W00 g d=some r):
  Tr Tryz.prog 144 #[.agg e.toArray,.slice b f c] h λv h'=>v = .bool r/\h'=h:=by
 obtain⟨s,t,k,E,l,u,rfl,rfl,p,q,i⟩:=F0 w
 obtain⟨rfl,C⟩:=Sl.len i
 obtain⟨rfl,D⟩:=Sl.len j
 unfold W00 at a
 dsimp only at a
 refine Tr.forget (E3 (args:=[.agg #[.int .i64 s,.int .i64 t,.slice k u.length l],.slice b d.length c]) (fn:=Tryz.f144) rfl ?_)
 obtain⟨x,o,a⟩:=D0 a
 obtain⟨y,z⟩:=x
 try dsimp only at a
 refine Tr.val (r0c _ _ _ (l0 p q i) 0 (by decide) _ _ _ _ j _  o) ?_
 obtain⟨F,m,a⟩:=D0 a
 have A:J0 y:=O0 m
 obtain⟨G,n,a⟩:=D0 a
 have B:J0 z:=O0 n
 obtain rfl:=oJ a
 exact aI rfl (Sub.refl _)
theorem M02(h:Hp)(f:List Value)(g:N0)(G:D3.R h f g)(b:ByteArray)(y:b.size<=9223372036854775807)(r:j0×Bool)(a:W8 g b=some r):
  Tr Tryz.prog 36 #[.agg f.toArray,.string b] h λv h'=>∃(e:List Value),v = .tuple #[.agg e.toArray,.bool r.2]/\New O1 h h' e r.1:=by
 obtain⟨E,k,Y,m,F,rfl,rfl,x,d⟩:=E1 G
 obtain⟨rfl,V⟩:=Sl.len d
 unfold W8 at a
 dsimp only at a
 refine E3 (args:=[.agg #[.int .i64 E,.slice k F.length m],.string b]) (fn:=Tryz.f36) rfl ?_
 refine trV a (B03 _ _ _ (K0 x d) _ y) λK a=>?_
 obtain⟨ab,s,a⟩:=D0 a
 have T:J0 K:=O0 s
 refine ifB a (λw a=>?_) λw a=>?_
 ·obtain rfl:=oJ a
  exact⟨([.int .i64 0,.int .i64 0,.slice none 0 0]),rfl,(New.pair (New.int (by decide)) (New.pair (New.int (by decide)) ((New.nilSlice (r:=P1)).mono (Sub.refl _))))⟩
 ·obtain⟨ae,t,a⟩:=D0 a
  obtain⟨l,Q,p,H⟩:=Sl.getI (r:=L1.toRp) d t (by decide)
  refine aI l ?_
  obtain⟨af,ag,ah,P,Z,S,ai,rfl,rfl,U,z,A,i⟩:=J3 H
  obtain⟨rfl,W⟩:=Sl.len i
  try dsimp only at a
  refine eX _ (aI p ?_)
  refine trM a (A7 _ _ _ (l0 z A i)) ?_
  rintro L a ad D ⟨u,aa,n,rfl,c⟩
  have ac:Sub h D:=c.sub
  have j:=c.r
  obtain⟨M,N,O⟩:=L
  dsimp only at a c j
  obtain⟨_,_,_,_,_,_,o,q,B,C,I⟩:=F0 j
  cases o
  cases q
  obtain⟨rfl,X⟩:=Sl.len I
  try dsimp only at a
  have J:=New.sndI (New.sndI (c))
  obtain rfl:=oJ a
  exact⟨([.int .i64 M,.int .i64 N,.slice (some ⟨u,0,none⟩) O.length n]),rfl,(New.pair (New.int B) (New.pair (New.int C) J))⟩
theorem D0d(h:Hp)(B:List Value)(K:j0)(ai:O1.R h B K)(r:V0)(b:d02 K=some r):
  Tr Tryz.prog 277 #[.agg B.toArray] h λv h'=>∃(z:Option Addr) (J A:Nat),v = .slice z J A/\New U0 h h' [.slice z J A] r:=by
 obtain⟨n,o,O,aR,Q,p,rfl,rfl,C,D,q⟩:=F0 ai
 obtain⟨rfl,aK⟩:=Sl.len q
 unfold d02 at b
 dsimp only at b
 refine E3 (args:=[.agg #[.int .i64 n,.int .i64 o,.slice O p.length Q]]) (fn:=Tryz.f277) rfl ?_
 refine trM b (x04 _ _ _ (l0 C D q) 0 (by decide)) ?_
 rintro ap b a3 ae ⟨aw,aU,aD,ax,aV,aE,rfl,t,u,w⟩
 obtain⟨bb,M⟩:=ap
 dsimp only at b t u
 obtain⟨rfl,aM⟩:=Sl.len t
 obtain⟨rfl,aN⟩:=Sl.len u
 obtain⟨N,Y,b⟩:=D0 b
 obtain⟨ah,an,T,V⟩:=Sl.cutI (r:=Wp.int.toRp) t Y
 refine aI ah (eX an (aI T ?_))
 intro ao ab _
 obtain⟨ay,aF,rfl,L⟩:=V ao ab
 have aP:=(Sl.len L).2
 obtain⟨y,Z,b⟩:=D0 b
 refine eX { vars:=[20],boxes:=[],owns:=[0],fuel:=true } (eX (λvs os h'=>∃ c m i,vs.tail = [.int .i64 c]/\os = [m]/\Sub ae h'/\J0 c/\F2 (P1.R h') m i/\c7 N M n o p (D2 vs) c i=some y) (eX (λ_ _=>0) (aI (eX Y0 ⟨0,[],([]:V0),rfl,rfl,(Sub.refl _),(by decide),(F2.up (r:=P1.toRp) w (show F2 (P1.R h) ([]:List (List Value)) ([]:V0) from trivial)),Z⟩) ?_)))
 rintro _ m k aJ ⟨c,bc,i,⟨⟩,⟨⟩,g,aH,j,a⟩
 replace a:c7 N M n o p k c i=some y:=a
 obtain _|k:=k
 ·cases a
 rw[c7.eq_2]at a
 refine ifB a (λaa a=>?_) λaa a=>?_
 ·refine ldI a (E2.mono g L) λa4 E a=>?_
  refine ld a (C00.mono g u) λa5 aA s a=>?_
  obtain⟨av,aS,aC,rfl⟩:=Wp.slice_cell s
  obtain⟨rfl,aL⟩:=Sl.len s
  refine ldI a s λaq ac a=>?_
  refine trV a (D01 _ _ _ (l0 C D (U0.mono (w.trans g) q)) _ E (IntKind.i64.wrap (0-aq)) (I0 _)) λar a=>?_
  obtain⟨aX,W,a⟩:=D0 a
  have ad:J0 ar:=O0 W
  refine trM a (u09 _ _ ad _ ac _ E) ?_
  rintro ba a a0 I ⟨aB,rfl,aj,l⟩
  obtain⟨d,e,f,rfl,rfl,F,G,H⟩:=Q2 aj
  try dsimp only at a
  obtain⟨aY,X,a⟩:=D0 a
  refine aI (N2 X (by first|rw[F2.length (F2.up (r:=P1.toRp) l j),F2.length (show F2 (P1.R I) ([[.int .i64 d,.int .i64 e,.int .i64 f]]:List (List Value)) [(d,e,f)] from⟨(K1 F G H),trivial⟩)]|exact congrArg (·+1) (F2.length (F2.up (r:=P1.toRp) l j)))) ?_
  exact U2 k ⟨(IntKind.i64.wrap (c+1)),(m++([[.int .i64 d,.int .i64 e,.int .i64 f]]:List (List Value))),(i ++ [(d,e,f)]),rfl,rfl,(g.trans l),(I0 _),(F2.append (F2.up (r:=P1.toRp) l j) (show F2 (P1.R I) ([[.int .i64 d,.int .i64 e,.int .i64 f]]:List (List Value)) [(d,e,f)] from⟨(K1 F G H),trivial⟩)),a⟩
 ·obtain rfl:=oJ a
  try dsimp only[Z0,I1]at b
  refine Or.inl ?_
  intro a1 af U
  obtain⟨az,aG,rfl,al,am,aQ⟩:=J1.out (r:=P1.toRp) U j
  refine trM b (I03 _ _ _ _ _ al) ?_
  rintro au b a2 ag ⟨P,aW,S,rfl,x⟩
  have aZ:Sub af ag:=x.sub
  have ak:=x.r
  obtain⟨rfl,aO⟩:=Sl.len ak
  obtain rfl:=oJ b
  exact⟨P,au.length,S,rfl,(New.from x ((w.trans g).trans am))⟩
theorem t0c(h:Hp)(x:List Value)(F:j0)(X:O1.R h x F)(r:V0)(b:u01 F=some r):
  Tr Tryz.prog 246 #[.agg x.toArray] h λv h'=>∃(u:Option Addr) (E w:Nat),v = .slice u E w/\New U0 h h' [.slice u E w] r:=by
 obtain⟨V,W,J,aj,M,q,rfl,rfl,A,B,m⟩:=F0 X
 obtain⟨rfl,af⟩:=Sl.len m
 unfold u01 at b
 dsimp only at b
 refine E3 (args:=[.agg #[.int .i64 V,.int .i64 W,.slice J q.length M]]) (fn:=Tryz.f246) rfl ?_
 refine trV b (k01 _ _ _ (l0 A B m)) λav b=>?_
 refine ifB b (λU b=>?_) λU b=>?_
 ·intro ar ae z
  obtain⟨L,O,rfl,an,ap,ai⟩:=J1.out (r:=P1.toRp) z (show F2 (P1.R h) ([]:List (List Value)) ([]:V0) from trivial)
  obtain rfl:=oJ b
  exact⟨L,(([]:V0)).length,O,rfl,(J1.newPlain (r:=P1) z (show F2 (P1.R h) ([]:List (List Value)) ([]:V0) from trivial) (s06 _))⟩
 ·refine trM b (D0d _ _ _ (l0 A B m)) ?_
  rintro I b au D ⟨Z,ak,ab,rfl,H⟩
  have s:Sub h D:=H.sub
  have G:=H.r
  obtain⟨rfl,ag⟩:=Sl.len G
  obtain⟨t,Q,b⟩:=D0 b
  refine eX { vars:=[17],boxes:=[],owns:=[0],fuel:=true } (eX (λvs os h'=>∃ c l d,vs.tail = [.int .i64 c]/\os = [l]/\Sub D h'/\J0 c/\F2 (P1.R h') l d/\N5 q I (D2 vs) c d=some t) (eX (λ_ _=>0) (aI (eX Y0 ⟨0,[],([]:V0),rfl,rfl,(Sub.refl _),(by decide),(F2.up (r:=P1.toRp) s (show F2 (P1.R h) ([]:List (List Value)) ([]:V0) from trivial)),Q⟩) ?_)))
  rintro _ l j C ⟨c,ay,d,⟨⟩,⟨⟩,k,ac,e,a⟩
  replace a:N5 q I j c d=some t:=a
  obtain _|j:=j
  ·cases a
  rw[N5.eq_2]at a
  refine ifB a (λS a=>?_) λS a=>?_
  ·refine ld a (U0.mono (s.trans k) m) λaw aa Y a=>?_
   obtain⟨f,g,i,rfl,rfl,n,o,p⟩:=Q2 Y
   try dsimp only at a
   refine trV a (Q02 _ _ _ _ _ (U0.mono k G) _ _ (K1 n o p)) λax a=>?_
   refine ifB a (λT a=>?_) λT a=>?_
   ·obtain⟨al,P,a⟩:=D0 a
    refine aI (N2 P (by first|rw[F2.length e,F2.length (show F2 (P1.R C) ([[.int .i64 f,.int .i64 g,.int .i64 i]]:List (List Value)) [(f,g,i)] from⟨(K1 n o p),trivial⟩)]|exact congrArg (·+1) (F2.length e))) ?_
    exact U2 j ⟨(IntKind.i64.wrap (c+1)),(l++([[.int .i64 f,.int .i64 g,.int .i64 i]]:List (List Value))),(d ++ [(f,g,i)]),rfl,rfl,k,(I0 _),(F2.append e (show F2 (P1.R C) ([[.int .i64 f,.int .i64 g,.int .i64 i]]:List (List Value)) [(f,g,i)] from⟨(K1 n o p),trivial⟩)),a⟩
   ·exact U2 j ⟨(IntKind.i64.wrap (c+1)),l,d,rfl,rfl,k,(I0 _),e,a⟩
  ·obtain rfl:=oJ a
   try dsimp only[Z0,I1]at b
   intro aq ad y
   obtain⟨K,N,rfl,am,ao,ah⟩:=J1.out (r:=P1.toRp) y e
   obtain rfl:=oJ b
   exact⟨K,d.length,N,rfl,(New.from (J1.newPlain (r:=P1) y e (s06 _)) (s.trans k))⟩
theorem T0g(h:Hp)(W:List Value)(ah:j0)(be:O1.R h W ah)(r:M6)(f:e02 ah=some r):
  Tr Tryz.prog 186 #[.agg W.toArray] h λv h'=>∃(P:Option Addr) (ag V:Nat),v = .slice P ag V/\C00.R h' [.slice P ag V] r/\Sub h h':=by
 obtain⟨bb,bc,ar,cb,aB,bd,rfl,rfl,J,K,A⟩:=F0 be
 obtain⟨rfl,bX⟩:=Sl.len A
 unfold e02 at f
 dsimp only at f
 refine E3 (args:=[.agg #[.int .i64 bb,.int .i64 bc,.slice ar bd.length aB]]) (fn:=Tryz.f186) rfl ?_
 refine trV f (Y8 _ _ _ (l0 J K A)) λct f=>?_
 refine ifB f (λa1 f=>?_) λa1 f=>?_
 ·intro cq bT aO
  obtain⟨ay,aG,rfl,bm,bs,ca⟩:=J1.out (r:=E2.toRp) aO (show F2 (E2.R h) ([]:List (List Value)) ([]:M6) from trivial)
  obtain rfl:=oJ f
  exact⟨ay,(([]:M6)).length,aG,rfl,bm,bs⟩
 ·refine trM f (x04 _ _ _ (l0 J K A) 0 (by decide)) ?_
  rintro bx f cs a3 ⟨bA,ch,bH,Q,ci,X,rfl,al,B,N⟩
  obtain⟨cv,G⟩:=bx
  dsimp only at f al B
  obtain⟨rfl,b1⟩:=Sl.len al
  obtain⟨rfl,b2⟩:=Sl.len B
  refine trM f (t0c _ _ _ (l0 J K (U0.mono N A))) ?_
  rintro aq f cp ac ⟨bz,cc,bG,rfl,an⟩
  have D:Sub a3 ac:=an.sub
  have ai:=an.r
  obtain⟨rfl,bY⟩:=Sl.len ai
  obtain⟨O,aZ,f⟩:=D0 f
  refine eX { vars:=[21],boxes:=[],owns:=[0],fuel:=true } (eX (λvs os h'=>∃ p E s,vs.tail = [.int .i64 p]/\os = [E]/\Sub ac h'/\J0 p/\F2 (E2.R h') E s/\P8 aq G (D2 vs) p s=some O) (eX (λ_ _=>0) (aI (eX Y0 ⟨0,[],([]:M6),rfl,rfl,(Sub.refl _),(by decide),(F2.up (r:=E2.toRp) (N.trans D) (show F2 (E2.R h) ([]:List (List Value)) ([]:M6) from trivial)),aZ⟩) ?_)))
  rintro _ E z bN ⟨p,cw,s,⟨⟩,⟨⟩,t,bK,w,b⟩
  replace b:P8 aq G z p s=some O:=b
  obtain _|z:=z
  ·cases b
  rw[P8.eq_2]at b
  refine ifB b (λa0 b=>?_) λa0 b=>?_
  ·refine ld b (U0.mono t ai) λcu bD bf b=>?_
   obtain⟨bt,F,bu,rfl,rfl,bL,a2,bM⟩:=Q2 bf
   try dsimp only at b
   refine Or.inr (Or.inr (Or.inr (Or.inr (eX 18 (aI (aI (by kernel_rfl) (by kernel_rfl)) ?_)))))
   obtain⟨u,aR,b⟩:=D0 b
   obtain⟨az,bE,aH,L⟩:=Sl.getI (r:=E2.toRp) (C00.mono (D.trans t) B) aR (by decide)
   obtain⟨H,cd,I,rfl⟩:=Wp.slice_cell L
   obtain⟨rfl,bZ⟩:=Sl.len L
   refine Or.inl (eX (.hel (.slice Q G.length X) bt 1 0) (aI ?_ ?_))
   ·intro bO ck
    exact aI az (aI rfl (aI rfl rfl))
   refine Or.inl (eX (.val (.slice H u.length I)) (aI ?_ ?_))
   ·intro bP bn
    exact eX _ (aI (A5.up bn aH) (aI rfl (aI rfl rfl)))
   obtain⟨g,aS,b⟩:=D0 b
   refine Or.inr (eX (λv i=>∃(a:Option Addr) (c:Nat),v = .slice a g.length c/\E2.R i [.slice a g.length c] g/\g.length<=9223372036854775807) (aI (λv x y d q=>by obtain⟨a,c,e,r,l⟩:=q;exact⟨a,c,e,E2.mono d r,l⟩) (aI ?_ ?_)))
   ·intro ad cl
    have aJ:[F]=g:=oJ aS
    intro v k hf
    obtain⟨a,c,rfl,r,d,l⟩:=J1.out (r:=Wp.int.toRp) (xs:=g) hf (show F2 (Wp.int.R ad) [[.int .i64 F]] g from aJ▸(show F2 (Wp.int.R ad) [[.int .i64 F]] [F] from⟨⟨rfl,a2⟩,trivial⟩))
    exact aI ⟨rfl,rfl,rfl,[_],rfl⟩ (aI d ⟨a,c,rfl,r,l⟩)
   obtain⟨bv,aU,b⟩:=D0 b
   obtain⟨aA,bF,aK,M⟩:=Sl.getI (r:=E2.toRp) (C00.mono (D.trans t) B) aU (by decide)
   obtain⟨au,ce,aC,rfl⟩:=Wp.slice_cell M
   obtain⟨rfl,b0⟩:=Sl.len M
   refine Or.inl (eX (.hel (.slice Q G.length X) bu 1 0) (aI ?_ ?_))
   ·intro bQ cm
    exact aI aA (aI rfl (aI rfl rfl))
   refine Or.inl (eX (.val (.slice au bv.length aC)) (aI ?_ ?_))
   ·intro bR bo
    exact eX _ (aI (A5.up bo aK) (aI rfl (aI rfl rfl)))
   obtain⟨j,aV,b⟩:=D0 b
   refine Or.inr (eX (λv i=>∃(a:Option Addr) (c:Nat),v = .slice a j.length c/\E2.R i [.slice a j.length c] j/\j.length<=9223372036854775807) (aI (λv x y d q=>by obtain⟨a,c,e,r,l⟩:=q;exact⟨a,c,e,E2.mono d r,l⟩) (aI ?_ ?_)))
   ·intro bS bp
    refine Tr.mono (s0c _ _ _ _ _ (E2.mono bp M) _ aV) ?_
    rintro _ a4 ⟨av,cf,aD,rfl,ao⟩
    have d:=ao.sub
    have aj:=ao.r
    obtain⟨rfl,a5⟩:=Sl.len aj
    exact aI u05 (aI d ⟨av,aD,rfl,aj,a5⟩)
   obtain⟨o,aW,b⟩:=D0 b
   refine Or.inr (eX (λv i=>∃(a:Option Addr) (c:Nat),v = .slice a o.length c/\C00.R i [.slice a o.length c] o/\o.length<=9223372036854775807) (aI (λv x y d q=>by obtain⟨a,c,e,r,l⟩:=q;exact⟨a,c,e,C00.mono d r,l⟩) (aI ?_ ?_)))
   ·intro ae bq
    rintro _ ⟨S,Y,rfl,bg,b3⟩
    rintro _ ⟨T,Z,rfl,bh,b4⟩
    have aL:[u,g,j]=o:=oJ aW
    intro v k hf
    obtain⟨a,c,rfl,r,d,l⟩:=J1.out (r:=E2.toRp) (xs:=o) hf (show F2 (E2.R ae) [[.slice H u.length I],[.slice S g.length Y],[.slice T j.length Z]] o from aL▸(show F2 (E2.R ae) [[.slice H u.length I],[.slice S g.length Y],[.slice T j.length Z]] [u,g,j] from⟨(E2.mono bq L),⟨bg,⟨bh,trivial⟩⟩⟩))
    exact aI ⟨rfl,rfl,rfl,[_],rfl⟩ (aI d ⟨a,c,rfl,r,l⟩)
   obtain⟨m,aX,b⟩:=D0 b
   refine Or.inr (eX (λv i=>∃(a:Option Addr) (c:Nat),v = .slice a m.length c/\E2.R i [.slice a m.length c] m/\m.length<=9223372036854775807) (aI (λv x y d q=>by obtain⟨a,c,e,r,l⟩:=q;exact⟨a,c,e,E2.mono d r,l⟩) (aI ?_ ?_)))
   ·intro bU cn
    rintro _ ⟨bB,bI,rfl,bi,b5⟩
    refine Tr.mono (s09 _ _ _ _ _ bi _ aX) ?_
    rintro _ a4 ⟨aw,cg,aE,rfl,ap⟩
    have d:=ap.sub
    have ak:=ap.r
    obtain⟨rfl,ba⟩:=Sl.len ak
    exact aI u05 (aI d ⟨aw,aE,rfl,ak,ba⟩)
   obtain⟨n,aY,b⟩:=D0 b
   refine Or.inr (eX (λv i=>∃(a:Option Addr) (c:Nat),v = .slice a n.length c/\C00.R i [.slice a n.length c] n/\n.length<=9223372036854775807) (aI (λv x y d q=>by obtain⟨a,c,e,r,l⟩:=q;exact⟨a,c,e,C00.mono d r,l⟩) (aI ?_ ?_)))
   ·intro af co
    rintro _ ⟨U,aa,rfl,bj,b6⟩
    have aM:[m]=n:=oJ aY
    intro v k hf
    obtain⟨a,c,rfl,r,d,l⟩:=J1.out (r:=E2.toRp) (xs:=n) hf (show F2 (E2.R af) [[.slice U m.length aa]] n from aM▸(show F2 (E2.R af) [[.slice U m.length aa]] [m] from⟨bj,trivial⟩))
    exact aI ⟨rfl,rfl,rfl,[_],rfl⟩ (aI d ⟨a,c,rfl,r,l⟩)
   intro bV C
   rintro _ ⟨bC,bJ,rfl,bk,b7⟩
   rintro _ _
   rintro _ _
   rintro _ _
   rintro _ _
   obtain⟨am,aN,ab⟩:=Sl.rows (r:=E2.toRp) bk
   refine eX am (aI aN ?_)
   obtain⟨cj,aQ,b⟩:=D0 b
   refine aI (N2 aQ (by first|rw[F2.length (F2.up (r:=E2.toRp) C w),F2.length ab]|exact congrArg (·+1) (F2.length (F2.up (r:=E2.toRp) C w)))) ?_
   exact U2 z ⟨(IntKind.i64.wrap (p+1)),(E++am),(s++n),rfl,rfl,(t.trans C),(I0 _),(F2.append (F2.up (r:=E2.toRp) C w) ab),b⟩
  ·obtain rfl:=oJ b
   try dsimp only[Z0,I1]at f
   intro cr bW aP
   obtain⟨ax,aF,rfl,bl,br,b8⟩:=J1.out (r:=E2.toRp) aP w
   obtain rfl:=oJ f
   exact⟨ax,s.length,aF,rfl,bl,(((N.trans D).trans t).trans br)⟩
theorem Z0a(h:Hp)(y:List Value)(C:j0)(V:O1.R h y C)(m:Option Addr)(B n:Nat)(g:M6)(D:C00.R h [.slice m B n] g)(r:Bool)(d:R9 C g=some r):
  Tr Tryz.prog 65 #[.agg y.toArray,.slice m B n] h λv h'=>v = .bool r/\h'=h:=by
 obtain⟨o,p,I,aw,K,s,rfl,rfl,z,A,t⟩:=F0 V
 obtain⟨rfl,ap⟩:=Sl.len t
 obtain⟨rfl,aq⟩:=Sl.len D
 unfold R9 at d
 dsimp only at d
 refine Tr.forget (E3 (args:=[.agg #[.int .i64 o,.int .i64 p,.slice I s.length K],.slice m g.length n]) (fn:=Tryz.f65) rfl ?_)
 refine trV d (Y8 _ _ _ (l0 z A t)) λaB d=>?_
 refine ifB d (λP d=>?_) λP d=>?_
 ·obtain rfl:=oJ d
  exact aI rfl (Sub.refl _)
 ·obtain⟨x,O,d⟩:=D0 d
  refine eX { vars:=[12],boxes:=[],owns:=[],fuel:=true } (eX (λvs os h'=>∃ f,vs.tail = [.int .i64 f]/\os = []/\Sub h h'/\J0 f/\o6 g o p s (D2 vs) f=some x) (eX (λ_ _=>0) (aI (eX Y0 ⟨0,rfl,rfl,(Sub.refl _),(by decide),O⟩) ?_)))
  rintro _ j an ⟨f,⟨⟩,⟨⟩,i,ai,b⟩
  replace b:o6 g o p s j f=some x:=b
  obtain _|j:=j
  ·cases b
  rw[o6.eq_2]at b
  refine ifB b (λS b=>?_) λS b=>?_
  ·refine ld b (C00.mono i D) λaC ac u b=>?_
   obtain⟨Z,ax,ad,rfl⟩:=Wp.slice_cell u
   obtain⟨rfl,ar⟩:=Sl.len u
   refine Or.inr (Or.inr (Or.inr (Or.inl (aI (aI (by kernel_rfl) (by kernel_rfl)) ?_))))
   obtain⟨k,N,b⟩:=D0 b
   refine Or.inr (eX (λv T=>∃(a:Option Addr) (c:Nat),v = .slice a k.length c/\E2.R T [.slice a k.length c] k/\k.length<=9223372036854775807) (aI (λv ag ah w q=>by obtain⟨a,c,e,r,l⟩:=q;exact⟨a,c,e,E2.mono w r,l⟩) (aI ?_ ?_)))
   ·intro aj X
    refine Tr.mono (t09 _ _ _ _ _ (E2.mono X u) _ N) ?_
    rintro _ ao ⟨J,ay,L,rfl,G⟩
    have w:=G.sub
    have E:=G.r
    obtain⟨rfl,U⟩:=Sl.len E
    exact aI u05 (aI w ⟨J,L,rfl,E,U⟩)
   obtain⟨H,M,b⟩:=D0 b
   refine Or.inl (eX (.val (.bool H)) (aI ?_ ?_))
   ·intro ak Y
    rintro _ ⟨aa,ae,rfl,W,au⟩
    exact Tr.val (Y0a _ _ _ (l0 z A (U0.mono (i.trans Y) t)) _ _ _ _ W _ M) (aI rfl (aI rfl rfl))
   refine Or.inl (eX (.val (.bool (!H))) (aI ?_ ?_))
   ·intro al aA
    exact aI rfl (aI rfl rfl)
   intro am F
   rintro _ ⟨ab,af,rfl,az,av⟩
   refine ifB b (λQ b=>?_) λQ b=>?_
   ·obtain rfl:=oJ b
    try dsimp only[L3,N3]at d
    obtain rfl:=oJ d
    exact aI rfl (i.trans F)
   ·exact U2 j ⟨(IntKind.i64.wrap (f+1)),rfl,rfl,(i.trans F),(I0 _),b⟩
  ·obtain rfl:=oJ b
   try dsimp only[Z0,I1]at d
   obtain rfl:=oJ d
   exact aI rfl i
theorem t0e(h:Hp)(k:List Value)(t:j0)(P:O1.R h k t)(m:List Value)(w:j0)(Q:O1.R h m w)(r:Bool)(b:B02 t w=some r):
  Tr Tryz.prog 126 #[.agg k.toArray,.agg m.toArray] h λv h'=>v = .bool r/\h'=h:=by
 obtain⟨u,L,z,ap,C,M,rfl,rfl,n,o,g⟩:=F0 P
 obtain⟨rfl,am⟩:=Sl.len g
 obtain⟨x,N,A,aq,D,O,rfl,rfl,p,s,i⟩:=F0 Q
 obtain⟨rfl,an⟩:=Sl.len i
 unfold B02 at b
 dsimp only at b
 refine Tr.forget (E3 (args:=[.agg #[.int .i64 u,.int .i64 L,.slice z M.length C],.agg #[.int .i64 x,.int .i64 N,.slice A O.length D]]) (fn:=Tryz.f126) rfl ?_)
 refine Or.inr (Or.inr (Or.inr (Or.inl (aI (aI (by kernel_rfl) (by kernel_rfl)) ?_))))
 obtain⟨Y,F,b⟩:=D0 b
 refine Or.inl (eX (.val (.bool Y)) (aI ?_ ?_))
 ·intro ai W
  exact Tr.val (Y8 _ _ _ (l0 n o (U0.mono W g)) _ F) (aI rfl (aI rfl rfl))
 obtain⟨aa,H,b⟩:=D0 b
 refine Or.inl (eX (.val (.bool aa)) (aI ?_ ?_))
 ·intro aj X d
  exact Tr.val (Y8 _ _ _ (l0 p s (U0.mono X i)) _ (c5 H d)) (aI rfl (aI rfl rfl))
 refine Or.inl (eX (.val (.bool (decide (u=x)))) (aI ?_ ?_))
 ·intro ak au d
  exact aI rfl (aI rfl rfl)
 obtain⟨f,I,b⟩:=D0 b
 refine Or.inr (eX (λv J=>∃(a:Option Addr) (c:Nat),v = .slice a f.length c/\C00.R J [.slice a f.length c] f/\f.length<=9223372036854775807) (aI (λv ad ae j q=>by obtain⟨a,c,e,r,l⟩:=q;exact⟨a,c,e,C00.mono j r,l⟩) (aI ?_ ?_)))
 ·intro af T d
  refine Tr.mono (T0g _ _ _ (l0 n o (U0.mono T g)) _ (c5 I d)) ?_
  rintro _ al ⟨B,ar,E,rfl,y,j⟩
  obtain⟨rfl,K⟩:=Sl.len y
  exact aI u05 (aI j ⟨B,E,rfl,y,K⟩)
 obtain⟨Z,G,b⟩:=D0 b
 refine Or.inl (eX (.val (.bool Z)) (aI ?_ ?_))
 ·intro ag U d
  rintro _ ⟨ab,ac,rfl,S,ao⟩
  exact Tr.val (Z0a _ _ _ (l0 p s (U0.mono U i)) _ _ _ _ S _ (c5 G d)) (aI rfl (aI rfl rfl))
 intro ah V
 obtain rfl:=oJ b
 exact aI rfl V
theorem u06(h:Hp)(u:List Value)(D:N0)(ae:D3.R h u D)(l:ByteArray)(Y:l.size<=9223372036854775807)(r:(List ByteArray))(b:T9 D l=some r):
  Tr Tryz.prog 42 #[.agg u.toArray,.string l] h λv h'=>∃(s:Option Addr) (C t:Nat),v = .slice s C t/\New (Wp.slice Wp.str) h h' [.slice s C t] r:=by
 obtain⟨ad,J,ay,N,o,rfl,rfl,y,m⟩:=E1 ae
 obtain⟨rfl,ar⟩:=Sl.len m
 unfold T9 at b
 dsimp only at b
 refine E3 (args:=[.agg #[.int .i64 ad,.slice J o.length N],.string l]) (fn:=Tryz.f42) rfl ?_
 refine trM b (M02 _ _ _ (K0 y m) _ Y) ?_
 rintro ah b aH B ⟨al,rfl,n⟩
 obtain⟨aQ,aR⟩:=ah
 dsimp only at b n
 have c:Sub h B:=n.sub
 have ag:=n.r
 obtain⟨G,H,aj,aA,an,I,rfl,rfl,ab,ac,F⟩:=F0 ag
 obtain⟨rfl,av⟩:=Sl.len F
 try dsimp only at b
 have aK:=New.sndI (New.sndI (n))
 refine trG b (λq=>U9 _ _ _ (K0 y (U1.mono c m))) λaS b=>?_
 refine ifB b (λX b=>?_) λX b=>?_
 ·intro aJ aq x
  obtain⟨K,O,rfl,aC,aE,aw⟩:=J1.out (r:=Wp.str.toRp) x (F2.up (r:=Wp.str.toRp) c (show F2 (Wp.str.R h) ([]:List (List Value)) ([]:(List ByteArray)) from trivial))
  obtain rfl:=oJ b
  exact⟨K,(([]:(List ByteArray))).length,O,rfl,(New.from (J1.newPlain (r:=Wp.str) x (F2.up (r:=Wp.str.toRp) c (show F2 (Wp.str.R h) ([]:List (List Value)) ([]:(List ByteArray)) from trivial)) (T0t _)) c)⟩
 ·obtain⟨p,U,b⟩:=D0 b
  refine eX { vars:=[28],boxes:=[],owns:=[0],fuel:=true } (eX (λvs os h'=>∃ d k e,vs.tail = [.int .i64 d]/\os = [k]/\Sub B h'/\J0 d/\F2 (Wp.str.R h') k e/\s5 o G H I (D2 vs) d e=some p) (eX (λ_ _=>0) (aI (eX Y0 ⟨0,[],([]:(List ByteArray)),rfl,rfl,(Sub.refl _),(by decide),(F2.up (r:=Wp.str.toRp) c (show F2 (Wp.str.R h) ([]:List (List Value)) ([]:(List ByteArray)) from trivial)),U⟩) ?_)))
  rintro _ k i A ⟨d,aU,e,⟨⟩,⟨⟩,j,ao,f,a⟩
  replace a:s5 o G H I i d e=some p:=a
  obtain _|i:=i
  ·cases a
  rw[s5.eq_2]at a
  refine ifB a (λV a=>?_) λV a=>?_
  ·obtain⟨aL,T,a⟩:=D0 a
   obtain⟨M,ak,Q,af⟩:=Sl.getI (r:=L1.toRp) (U1.mono (c.trans j) m) T (by decide)
   refine aI M ?_
   obtain⟨g,aM,aN,ai,az,am,aO,rfl,rfl,z,Z,aa,E⟩:=J3 af
   obtain⟨rfl,au⟩:=Sl.len E
   try dsimp only at a
   refine eX _ (aI Q ?_)
   refine trV a (t0e _ _ _ (l0 Z aa E) _ _ (l0 ab ac (U0.mono j F))) λaP a=>?_
   refine ifB a (λW a=>?_) λW a=>?_
   ·obtain⟨aB,S,a⟩:=D0 a
    refine aI (N2 S (by first|rw[F2.length f,F2.length (show F2 (Wp.str.R A) ([[.string g]]:List (List Value)) [g] from⟨⟨rfl,z⟩,trivial⟩)]|exact congrArg (·+1) (F2.length f))) ?_
    exact U2 i ⟨(IntKind.i64.wrap (d+1)),(k++([[.string g]]:List (List Value))),(e ++ [g]),rfl,rfl,j,(I0 _),(F2.append f (show F2 (Wp.str.R A) ([[.string g]]:List (List Value)) [g] from⟨⟨rfl,z⟩,trivial⟩)),a⟩
   ·exact U2 i ⟨(IntKind.i64.wrap (d+1)),k,e,rfl,rfl,j,(I0 _),f,a⟩
  ·obtain rfl:=oJ a
   try dsimp only[Z0,I1]at b
   intro aG ap w
   obtain⟨L,P,rfl,aD,aF,ax⟩:=J1.out (r:=Wp.str.toRp) w f
   obtain rfl:=oJ b
   exact⟨L,e.length,P,rfl,(New.from (J1.newPlain (r:=Wp.str) w f (T0t _)) (c.trans j))⟩
theorem y08(h:Hp)(e:List Value)(l:j0)(N:O1.R h e l)(f:List Value)(m:j0)(O:O1.R h f m)(r:j0×Bool)(a:H9 l m=some r):
  Tr Tryz.prog 124 #[.agg e.toArray,.agg f.toArray] h λv h'=>∃(d:List Value),v = .tuple #[.agg d.toArray,.bool r.2]/\O1.R h' d r.1/\Sub h h':=by
 obtain⟨H,I,t,af,x,J,rfl,rfl,g,i,b⟩:=F0 N
 obtain⟨rfl,ab⟩:=Sl.len b
 obtain⟨K,L,u,ag,y,M,rfl,rfl,j,k,c⟩:=F0 O
 obtain⟨rfl,ac⟩:=Sl.len c
 unfold H9 at a
 dsimp only at a
 refine E3 (args:=[.agg #[.int .i64 H,.int .i64 I,.slice t J.length x],.agg #[.int .i64 K,.int .i64 L,.slice u M.length y]]) (fn:=Tryz.f124) rfl ?_
 refine trV a (V7 _ _ _ (l0 g i b)) λal a=>?_
 refine trG a (λq=>V7 _ _ _ (l0 j k c)) λam a=>?_
 refine ifB a (λA a=>?_) λA a=>?_
 ·obtain rfl:=oJ a
  exact⟨([.int .i64 0,.int .i64 0,.slice none 0 0]),rfl,(l0 (by decide) (by decide) (c08 P1 h)),(Sub.refl _)⟩
 ·refine trM a (v0c _ _ _ (l0 g i b) _ _ (l0 j k c) 0 (by decide) 0 (by decide)) ?_
  rintro S a ak G ⟨X,rfl,n,s⟩
  obtain⟨an,ar⟩:=S
  dsimp only at a n
  obtain⟨ao,ap,W,ah,Z,aq,rfl,rfl,C,D,o⟩:=F0 n
  obtain⟨rfl,ad⟩:=Sl.len o
  try dsimp only at a
  refine ifB a (λB a=>?_) λB a=>?_
  ·obtain rfl:=oJ a
   exact⟨([.int .i64 0,.int .i64 0,.slice none 0 0]),rfl,(l0 (by decide) (by decide) (c08 P1 G)),s⟩
  ·refine trM a (V04 _ _ _ (l0 C D o)) ?_
   rintro au a aj aa ⟨Y,rfl,P,Q⟩
   obtain⟨T,U,w,ai,z,V,rfl,rfl,E,F,p⟩:=F0 P
   obtain⟨rfl,ae⟩:=Sl.len p
   try dsimp only at a
   obtain rfl:=oJ a
   exact⟨([.int .i64 T,.int .i64 U,.slice w V.length z]),rfl,(l0 E F p),(s.trans Q)⟩
theorem w0c(h:Hp)(C:List Value)(J:j0)(aK:O1.R h C J)(D:List Value)(K:j0)(aL:O1.R h D K)(r:j0×Bool)(b:y01 J K=some r):
  Tr Tryz.prog 214 #[.agg C.toArray,.agg D.toArray] h λv h'=>∃(B:List Value),v = .tuple #[.agg B.toArray,.bool r.2]/\O1.R h' B r.1/\Sub h h':=by
 obtain⟨aG,c,ad,ba,ak,aH,rfl,rfl,E,F,y⟩:=F0 aK
 obtain⟨rfl,aY⟩:=Sl.len y
 obtain⟨aJ,L,ae,bb,al,x,rfl,rfl,az,aA,z⟩:=F0 aL
 obtain⟨rfl,aZ⟩:=Sl.len z
 unfold y01 at b
 dsimp only at b
 refine E3 (args:=[.agg #[.int .i64 aG,.int .i64 c,.slice ad aH.length ak],.agg #[.int .i64 aJ,.int .i64 L,.slice ae x.length al]]) (fn:=Tryz.f214) rfl ?_
 refine trV b (C6 _ _ _ (l0 E F y)) λbm b=>?_
 refine trG b (λq=>C6 _ _ _ (l0 az aA z)) λbo b=>?_
 refine ifB b (λay b=>?_) λay b=>?_
 ·obtain rfl:=oJ b
  exact⟨([.int .i64 0,.int .i64 0,.slice none 0 0]),rfl,(l0 (by decide) (by decide) (c08 P1 h)),(Sub.refl _)⟩
 ·refine trM b (V4 _ _ _ (l0 E F y)) ?_
  rintro bp b bl I ⟨aV,rfl,X⟩
  have S:Sub h I:=X.sub
  have aN:=X.r
  obtain⟨aS,bq,aj,bg,aq,ac,rfl,rfl,aB,aX,Q⟩:=F0 aN
  obtain⟨rfl,a5⟩:=Sl.len Q
  try dsimp only at b
  obtain⟨A,ar,b⟩:=D0 b
  refine eX { vars:=[7],boxes:=[3],owns:=[],fuel:=true } (eX (λvs os h'=>∃ u8 e d p w s o,vs.tail = [.int .i64 u8,.int .i64 e,.int .i64 d,.slice p w s]/\os = []/\Sub I h'/\J0 u8/\J0 e/\J0 d/\U0.R h' [.slice p w s] o/\d4 x c (D2 vs) u8 e d o=some A) (eX (λ_ _=>0) (aI (eX Y0 ⟨0,aS,(IntKind.i64.wrap ((IntKind.i64.wrap (c+L))-1)),aj,ac.length,aq,ac,rfl,rfl,(Sub.refl _),(by decide),aB,(I0 _),Q,ar⟩) ?_)))
  rintro _ _ _ _ f u ⟨u8,e,d,p,w,s,o,⟨⟩,⟨⟩,i,aW,n,m,g,a⟩
  replace a:d4 x c f u8 e d o=some A:=a
  obtain _|f:=f
  ·cases a
  rw[d4.eq_2]at a
  obtain⟨rfl,a0⟩:=Sl.len g
  refine ifB a (λau a=>?_) λau a=>?_
  ·refine ld a (U0.mono (S.trans i) z) λbn aU aM a=>?_
   obtain⟨j,k,l,rfl,rfl,G,t,H⟩:=Q2 aM
   try dsimp only at a
   refine ifB a (λav a=>?_) λav a=>?_
   ·refine ifB a (λaw a=>?_) λaw a=>?_
    ·refine trM a (n8 _ _ _ _ _ g [.int .i64 (IntKind.i64.wrap ((IntKind.i64.wrap (j+c))-1)),.int .i64 k,.int .i64 (IntKind.i64.wrap ((IntKind.i64.wrap (l+c))-1))] ((IntKind.i64.wrap ((IntKind.i64.wrap (j+c))-1)),k,(IntKind.i64.wrap ((IntKind.i64.wrap (l+c))-1))) (K1 (I0 _) t (I0 _))) ?_
     rintro Y a bh aC ⟨af,bc,am,rfl,T⟩
     have aO:Sub u aC:=T.sub
     have M:=T.r
     obtain⟨rfl,a1⟩:=Sl.len M
     exact U2 f ⟨(IntKind.i64.wrap (u8+1)),e,d,af,Y.length,am,Y,rfl,rfl,(i.trans aO),(I0 _),n,m,M,a⟩
    ·refine trM a (n8 _ _ _ _ _ g [.int .i64 (IntKind.i64.wrap ((IntKind.i64.wrap (j+c))-1)),.int .i64 k,.int .i64 l] ((IntKind.i64.wrap ((IntKind.i64.wrap (j+c))-1)),k,l) (K1 (I0 _) t H)) ?_
     rintro Z a bi aD ⟨ag,bd,an,rfl,U⟩
     have aP:Sub u aD:=U.sub
     have N:=U.r
     obtain⟨rfl,a2⟩:=Sl.len N
     exact U2 f ⟨(IntKind.i64.wrap (u8+1)),e,d,ag,Z.length,an,Z,rfl,rfl,(i.trans aP),(I0 _),n,m,N,a⟩
   ·refine ifB a (λax a=>?_) λax a=>?_
    ·refine trM a (n8 _ _ _ _ _ g [.int .i64 j,.int .i64 k,.int .i64 (IntKind.i64.wrap ((IntKind.i64.wrap (l+c))-1))] (j,k,(IntKind.i64.wrap ((IntKind.i64.wrap (l+c))-1))) (K1 G t (I0 _))) ?_
     rintro aa a bj aE ⟨ah,be,ao,rfl,V⟩
     have aQ:Sub u aE:=V.sub
     have O:=V.r
     obtain⟨rfl,a3⟩:=Sl.len O
     exact U2 f ⟨(IntKind.i64.wrap (u8+1)),e,d,ah,aa.length,ao,aa,rfl,rfl,(i.trans aQ),(I0 _),n,m,O,a⟩
    ·refine trM a (n8 _ _ _ _ _ g _ _ (K1 G t H)) ?_
     rintro ab a bk aF ⟨ai,bf,ap,rfl,W⟩
     have aR:Sub u aF:=W.sub
     have P:=W.r
     obtain⟨rfl,a4⟩:=Sl.len P
     exact U2 f ⟨(IntKind.i64.wrap (u8+1)),e,d,ai,ab.length,ap,ab,rfl,rfl,(i.trans aR),(I0 _),n,m,P,a⟩
  ·obtain rfl:=oJ a
   try dsimp only[Z0,I1]at b
   obtain rfl:=oJ b
   exact⟨([.int .i64 e,.int .i64 d,.slice p o.length s]),rfl,(l0 n m g),(S.trans i)⟩
theorem q0h(h:Hp)(f:List Value)(m:j0)(M:O1.R h f m)(g:List Value)(n:j0)(N:O1.R h g n)(r:j0×Bool)(a:G03 m n=some r):
  Tr Tryz.prog 125 #[.agg f.toArray,.agg g.toArray] h λv h'=>∃(e:List Value),v = .tuple #[.agg e.toArray,.bool r.2]/\O1.R h' e r.1/\Sub h h':=by
 obtain⟨G,H,t,ae,x,I,rfl,rfl,i,j,c⟩:=F0 M
 obtain⟨rfl,aa⟩:=Sl.len c
 obtain⟨J,K,u,af,y,L,rfl,rfl,k,l,d⟩:=F0 N
 obtain⟨rfl,ab⟩:=Sl.len d
 unfold G03 at a
 dsimp only at a
 refine E3 (args:=[.agg #[.int .i64 G,.int .i64 H,.slice t I.length x],.agg #[.int .i64 J,.int .i64 K,.slice u L.length y]]) (fn:=Tryz.f125) rfl ?_
 refine trM a (w0c _ _ _ (l0 i j c) _ _ (l0 k l d)) ?_
 rintro Q a ai F ⟨W,rfl,o,b⟩
 obtain⟨ak,ao⟩:=Q
 dsimp only at a o
 obtain⟨al,am,V,ag,Y,an,rfl,rfl,B,C,p⟩:=F0 o
 obtain⟨rfl,ac⟩:=Sl.len p
 try dsimp only at a
 refine trG a (λq=>V7 _ _ _ (l0 i j (U0.mono b c))) λap a=>?_
 refine trG a (λq=>V7 _ _ _ (l0 k l (U0.mono b d))) λaq a=>?_
 refine ifB a (λA a=>?_) λA a=>?_
 ·obtain rfl:=oJ a
  exact⟨([.int .i64 0,.int .i64 0,.slice none 0 0]),rfl,(l0 (by decide) (by decide) (c08 P1 F)),b⟩
 ·refine trM a (V04 _ _ _ (l0 B C p)) ?_
  rintro ar a aj Z ⟨X,rfl,O,P⟩
  obtain⟨S,T,w,ah,z,U,rfl,rfl,D,E,s⟩:=F0 O
  obtain⟨rfl,ad⟩:=Sl.len s
  try dsimp only at a
  obtain rfl:=oJ a
  exact⟨([.int .i64 S,.int .i64 T,.slice w U.length z]),rfl,(l0 D E s),(b.trans P)⟩
theorem z08(h:Hp)(w:List Value)(D:N0)(aR:D3.R h w D)(g:ByteArray)(n:g.size<=9223372036854775807)(i:ByteArray)(bR:i.size<=9223372036854775807)(j:ByteArray)(au:j.size<=9223372036854775807)(k:ByteArray)(av:k.size<=9223372036854775807)(r:N0×Bool)(a:I9 D g i j k=some r):
  Tr Tryz.prog 41 #[.agg w.toArray,.string g,.string i,.string j,.string k] h λv h'=>∃(u:List Value),v = .tuple #[.agg u.toArray,.bool r.2]/\D3.R h' u r.1/\Sub h h':=by
 obtain⟨aP,W,b5,ae,aQ,rfl,rfl,e,d⟩:=E1 aR
 obtain⟨rfl,bT⟩:=Sl.len d
 unfold I9 at a
 dsimp only at a
 refine E3 (args:=[.agg #[.int .i64 aP,.slice W aQ.length ae],.string g,.string i,.string j,.string k]) (fn:=Tryz.f41) rfl ?_
 refine trM a (L02 _ _ _ (K0 e d) _ au) ?_
 rintro bb a cn bS ⟨bE,rfl,H,c⟩
 obtain⟨cz,cE⟩:=bb
 dsimp only at a H
 obtain⟨cA,cC,bz,b8,bO,cD,rfl,rfl,x,y,o⟩:=F0 H
 obtain⟨rfl,bW⟩:=Sl.len o
 try dsimp only at a
 refine trM a (L02 _ _ _ (K0 e (U1.mono c d)) _ av) ?_
 rintro bt a cs f ⟨bL,rfl,P,b⟩
 obtain⟨cT,cX⟩:=bt
 dsimp only at a P
 obtain⟨cU,cV,bB,cg,bQ,cW,rfl,rfl,z,A,p⟩:=F0 P
 obtain⟨rfl,b3⟩:=Sl.len p
 try dsimp only at a
 refine trV a (h02 _ _ _ (K0 e (U1.mono (c.trans b) d))) λcY a=>?_
 refine ifB a (λar a=>?_) λar a=>?_
 ·refine trM a (i9 _ _ _ (K0 e (U1.mono (c.trans b) d))) ?_
  rintro cZ a ci aH ⟨bM,rfl,V⟩
  have ba:Sub f aH:=V.sub
  have aZ:=V.r
  obtain⟨bu,ad,ch,al,bv,rfl,rfl,aG,Q⟩:=E1 aZ
  obtain⟨rfl,b4⟩:=Sl.len Q
  try dsimp only at a
  obtain rfl:=oJ a
  exact⟨([.int .i64 bu,.slice ad bv.length al]),rfl,(K0 aG Q),((c.trans b).trans ba)⟩
 ·refine ifB a (λam a=>?_) λam a=>?_
  ·refine trM a (y08 _ _ _ (l0 x y (U0.mono b o)) _ _ (l0 z A p)) ?_
   rintro bc a cj B ⟨bC,rfl,E,l⟩
   obtain⟨ct,cx⟩:=bc
   dsimp only at a E
   obtain⟨cu,cv,bx,b6,bN,cw,rfl,rfl,aw,ax,F⟩:=F0 E
   obtain⟨rfl,bU⟩:=Sl.len F
   try dsimp only at a
   refine ifB a (λan a=>?_) λan a=>?_
   ·refine trM a (i9 _ _ _ (K0 e (U1.mono ((c.trans b).trans l) d))) ?_
    rintro cy a ck aJ ⟨bD,rfl,S⟩
    have a0:Sub B aJ:=S.sub
    have aS:=S.r
    obtain⟨bd,X,b7,af,be,rfl,rfl,ay,G⟩:=E1 aS
    obtain⟨rfl,bV⟩:=Sl.len G
    try dsimp only at a
    obtain rfl:=oJ a
    exact⟨([.int .i64 bd,.slice X be.length af]),rfl,(K0 ay G),(((c.trans b).trans l).trans a0)⟩
   ·refine trM a (D02 _ _ _ (K0 e (U1.mono ((c.trans b).trans l) d)) _ n _ _ (l0 aw ax F)) ?_
    rintro bf a cl aK ⟨bF,rfl,q⟩
    obtain⟨cG,cH⟩:=bf
    dsimp only at a q
    have a1:Sub B aK:=q.sub
    have aU:=q.r
    obtain⟨bg,Y,ca,ag,bh,rfl,rfl,az,I⟩:=E1 aU
    obtain⟨rfl,bX⟩:=Sl.len I
    try dsimp only at a
    obtain rfl:=oJ a
    exact⟨([.int .i64 bg,.slice Y bh.length ag]),rfl,(K0 az I),(((c.trans b).trans l).trans a1)⟩
  ·refine ifB a (λao a=>?_) λao a=>?_
   ·refine trM a (q0h _ _ _ (l0 x y (U0.mono b o)) _ _ (l0 z A p)) ?_
    rintro bi a cm C ⟨bG,rfl,J,m⟩
    obtain⟨cI,cM⟩:=bi
    dsimp only at a J
    obtain⟨cJ,cK,bA,cb,bP,cL,rfl,rfl,aA,aB,K⟩:=F0 J
    obtain⟨rfl,bY⟩:=Sl.len K
    try dsimp only at a
    refine ifB a (λap a=>?_) λap a=>?_
    ·refine trM a (i9 _ _ _ (K0 e (U1.mono ((c.trans b).trans m) d))) ?_
     rintro cN a co aL ⟨bH,rfl,T⟩
     have a2:Sub C aL:=T.sub
     have aV:=T.r
     obtain⟨bj,Z,cc,ah,bk,rfl,rfl,aC,L⟩:=E1 aV
     obtain⟨rfl,bZ⟩:=Sl.len L
     try dsimp only at a
     obtain rfl:=oJ a
     exact⟨([.int .i64 bj,.slice Z bk.length ah]),rfl,(K0 aC L),(((c.trans b).trans m).trans a2)⟩
    ·refine trM a (D02 _ _ _ (K0 e (U1.mono ((c.trans b).trans m) d)) _ n _ _ (l0 aA aB K)) ?_
     rintro bl a cp aM ⟨bI,rfl,s⟩
     obtain⟨cO,cP⟩:=bl
     dsimp only at a s
     have a3:Sub C aM:=s.sub
     have aW:=s.r
     obtain⟨bm,aa,cd,ai,bn,rfl,rfl,aD,M⟩:=E1 aW
     obtain⟨rfl,b0⟩:=Sl.len M
     try dsimp only at a
     obtain rfl:=oJ a
     exact⟨([.int .i64 bm,.slice aa bn.length ai]),rfl,(K0 aD M),(((c.trans b).trans m).trans a3)⟩
   ·refine ifB a (λaq a=>?_) λaq a=>?_
    ·refine trM a (i9 _ _ _ (K0 e (U1.mono (c.trans b) d))) ?_
     rintro cQ a cq aN ⟨bJ,rfl,U⟩
     have a4:Sub f aN:=U.sub
     have aX:=U.r
     obtain⟨bo,ab,ce,aj,bp,rfl,rfl,aE,N⟩:=E1 aX
     obtain⟨rfl,b1⟩:=Sl.len N
     try dsimp only at a
     obtain rfl:=oJ a
     exact⟨([.int .i64 bo,.slice ab bp.length aj]),rfl,(K0 aE N),((c.trans b).trans a4)⟩
    ·refine trM a (D02 _ _ _ (K0 e (U1.mono (c.trans b) d)) _ n _ _ (l0 (by decide) (by decide) (c08 P1 f))) ?_
     rintro bq a cr aO ⟨bK,rfl,t⟩
     obtain⟨cR,cS⟩:=bq
     dsimp only at a t
     have a5:Sub f aO:=t.sub
     have aY:=t.r
     obtain⟨br,ac,cf,ak,bs,rfl,rfl,aF,O⟩:=E1 aY
     obtain⟨rfl,b2⟩:=Sl.len O
     try dsimp only at a
     obtain rfl:=oJ a
     exact⟨([.int .i64 br,.slice ac bs.length ak]),rfl,(K0 aF O),((c.trans b).trans a5)⟩
end Go.Proofs.YtmgikbbmpnbbjaaGreat
