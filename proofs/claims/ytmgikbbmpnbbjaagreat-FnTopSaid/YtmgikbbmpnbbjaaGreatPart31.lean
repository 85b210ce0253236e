/- Texts of the claim, joined: The walks of batch g2 and others. -/
import Derived.Test.YtmgikbbmpnbbjaaGreatPart21
import Derived.Test.YtmgikbbmpnbbjaaGreatChecked
import Derived.Test.YtmgikbbmpnbbjaaGreatH35
import Derived.Test.YtmgikbbmpnbbjaaGreatPart29
import Derived.Test.YtmgikbbmpnbbjaaGreatSE
import Derived.Test.YtmgikbbmpnbbjaaGreatPart24
import Derived.Test.YtmgikbbmpnbbjaaGreatH40
import Derived.Test.YtmgikbbmpnbbjaaGreatH41
import Derived.Test.YtmgikbbmpnbbjaaGreatPart20
import Derived.Test.YtmgikbbmpnbbjaaGreatH36
import Derived.Test.YtmgikbbmpnbbjaaGreatH45
namespace Go.Proofs.YtmgikbbmpnbbjaaGreat
open Go.H
set_option linter.unusedVariables false
set_option linter.unusedSimpArgs false
set_option maxRecDepth 10000
theorem B5(h:Hp)(d:List Value)(i:l0)(x:G1.R h d i)(r:l0)(a:N3 i=some r):
  Tr Tryz.prog 116 #[.agg d.toArray] h λv h'=>∃(f:Nat) (g c:Nat),v = .agg ([.int .i64 r.1,.int .i64 r.2.1,.slice (some ⟨f,0,none⟩) g c]:List Value).toArray/\New G1 h h' [.int .i64 r.1,.int .i64 r.2.1,.slice (some ⟨f,0,none⟩) g c] r:=by
 obtain⟨u,w,l,C,m,j,rfl,rfl,s,t,k⟩:=H0 x
 obtain⟨rfl,A⟩:=Sl.len k
 unfold N3 at a
 dsimp only at a
 refine Z2 (args:=[.agg #[.int .i64 u,.int .i64 w,.slice l j.length m]]) (fn:=Tryz.f116) rfl ?_
 refine Or.inr (Or.inr (Or.inl (aI (aI (by kernel_rfl) (by kernel_rfl)) ?_)))
 refine Or.inr ?_
 refine Or.inr ?_
 refine Or.inr ?_
 refine Or.inr ?_
 refine Or.inl (eX 0 (aI (aI rfl rfl) ?_))
 refine aT ?_
 obtain⟨y,o,b⟩:=Sl.rows (r:=D1.toRp) k
 refine eX y (aI o ?_)
 obtain⟨D,p,a⟩:=C0 a
 refine aI (P1 p (by first|rw[F2.length (show F2 (D1.R h) ([]:List (List Value)) ([]:V0) from trivial),F2.length b]|exact congrArg (·+1) (F2.length (show F2 (D1.R h) ([]:List (List Value)) ([]:V0) from trivial)))) ?_
 refine aT ?_
 refine aT ?_
 refine aT ?_
 intro G z e
 obtain⟨q,n,rfl,E,F,B⟩:=E1.outS (r:=D1.toRp) e (F2.append (show F2 (D1.R h) ([]:List (List Value)) ([]:V0) from trivial) b)
 obtain rfl:=oJ a
 exact⟨q,((([]:V0)++j)).length,n,rfl,(New.pair (New.int s) (New.pair (New.int t) (E1.newPlain (r:=D1) e (F2.append (show F2 (D1.R h) ([]:List (List Value)) ([]:V0) from trivial) b) (T05 _))))⟩
theorem S0d(h:Hp)(k:List Value)(l:l0)(z:G1.R h k l)(f:Int)(E:J0 f)(r:Int)(e:F01 l f=some r):
  Tr Tryz.prog 243 #[.agg k.toArray,.int .i64 f] h λv h'=>v = .int .i64 r/\h'=h:=by
 obtain⟨x,y,n,L,o,i,rfl,rfl,C,D,m⟩:=H0 z
 obtain⟨rfl,K⟩:=Sl.len m
 unfold F01 at e
 dsimp only at e
 refine Tr.forget (Z2 (args:=[.agg #[.int .i64 x,.int .i64 y,.slice n i.length o],.int .i64 f]) (fn:=Tryz.f243) rfl ?_)
 obtain⟨j,p,e⟩:=C0 e
 refine eX { vars:=[5,11],boxes:=[],owns:=[],fuel:=true } (eX (λvs os h'=>∃ b c,vs.tail = [.int .i64 b,.int .i64 c]/\os = []/\Sub h h'/\J0 b/\J0 c/\D5 i f (U1 vs) b c=some j) (eX (λ_ _=>0) (aI (eX W0 ⟨0,0,rfl,rfl,(Sub.refl _),(by decide),(by decide),p⟩) ?_)))
 rintro _ _ d J ⟨b,c,⟨⟩,⟨⟩,g,w,F,a⟩
 replace a:D5 i f d b c=some j:=a
 obtain _|d:=d
 ·cases a
 rw[D5.eq_2]at a
 refine ifB a (λs a=>?_) λs a=>?_
 ·refine ld a (N0.mono g m) λM B A a=>?_
  obtain⟨N,O,P,rfl,rfl,G,H,I⟩:=Y1 A
  try dsimp only at a
  refine ifB a (λt a=>?_) λt a=>?_
  ·refine ifB a (λu a=>?_) λu a=>?_
   ·exact I2 d ⟨(IntKind.i64.wrap ((IntKind.i64.wrap (b+1))+1)),(IntKind.i64.wrap (c+1)),rfl,rfl,g,(O0 _),(O0 _),a⟩
   ·exact I2 d ⟨(IntKind.i64.wrap (b+1)),(IntKind.i64.wrap (c+1)),rfl,rfl,g,(O0 _),(O0 _),a⟩
  ·refine ifB a (λq a=>?_) λq a=>?_
   ·exact I2 d ⟨(IntKind.i64.wrap (b+1)),(IntKind.i64.wrap (c+1)),rfl,rfl,g,(O0 _),(O0 _),a⟩
   ·exact I2 d ⟨b,(IntKind.i64.wrap (c+1)),rfl,rfl,g,w,(O0 _),a⟩
 ·obtain rfl:=oJ a
  try dsimp only[Y0,Z0]at e
  obtain rfl:=oJ e
  exact aI rfl g
theorem J02(h:Hp)(i:Option Addr)(n k:Nat)(d:V0)(p:N0.R h [.slice i n k] d)(j:Option Addr)(o l:Nat)(e:V0)(q:N0.R h [.slice j o l] e)(r:Bool)(b:C3 d e=some r):
  Tr Tryz.prog 216 #[.slice i n k,.slice j o l] h λv h'=>v = .bool r/\h'=h:=by
 obtain⟨rfl,P⟩:=Sl.len p
 obtain⟨rfl,Q⟩:=Sl.len q
 unfold C3 at b
 refine Tr.forget (Z2 (args:=[.slice i d.length k,.slice j e.length l]) (fn:=Tryz.f216) rfl ?_)
 refine ifB b (λt b=>?_) λt b=>?_
 ·obtain rfl:=oJ b
  exact aI rfl (Sub.refl _)
 ·obtain⟨m,s,b⟩:=C0 b
  refine eX { vars:=[13],boxes:=[],owns:=[],fuel:=true } (eX (λvs os h'=>∃ c,vs.tail = [.int .i64 c]/\os = []/\Sub h h'/\J0 c/\K1 d e (U1 vs) c=some m) (eX (λ_ _=>0) (aI (eX W0 ⟨0,rfl,rfl,(Sub.refl _),(by decide),s⟩) ?_)))
  rintro _ g O ⟨c,⟨⟩,⟨⟩,f,H,a⟩
  replace a:K1 d e g c=some m:=a
  obtain _|g:=g
  ·cases a
  rw[K1.eq_2]at a
  refine ifB a (λu a=>?_) λu a=>?_
  ·refine Or.inl (aI (aI (by kernel_rfl) (by kernel_rfl)) ?_)
   refine ld a (N0.mono f p) λS F x a=>?_
   obtain⟨z,A,B,rfl,rfl,I,J,K⟩:=Y1 x
   try dsimp only at a
   refine ld a (N0.mono f q) λT G y a=>?_
   obtain⟨C,D,E,rfl,rfl,L,M,N⟩:=Y1 y
   try dsimp only at a
   refine eX (!eqE (z,A,B) (C,D,E)) (aI (C0j _ _ _ rfl _ _ _ _ _ _) ?_)
   refine ifB a (λw a=>?_) λw a=>?_
   ·obtain rfl:=oJ a
    try dsimp only[B4,I4]at b
    obtain rfl:=oJ b
    exact aI rfl f
   ·exact I2 g ⟨(IntKind.i64.wrap (c+1)),rfl,rfl,f,(O0 _),a⟩
  ·obtain rfl:=oJ a
   try dsimp only[Y0,Z0]at b
   obtain rfl:=oJ b
   exact aI rfl f
theorem W8(h:Hp)(b:List Value)(d:l0)(u:G1.R h b d)(c:List Value)(e:l0)(w:G1.R h c e)(r:Bool)(a:B6 d e=some r):
  Tr Tryz.prog 132 #[.agg b.toArray,.agg c.toArray] h λv h'=>v = .bool r/\h'=h:=by
 obtain⟨m,n,i,D,k,o,rfl,rfl,x,y,f⟩:=H0 u
 obtain⟨rfl,B⟩:=Sl.len f
 obtain⟨p,s,j,E,l,t,rfl,rfl,z,A,g⟩:=H0 w
 obtain⟨rfl,C⟩:=Sl.len g
 unfold B6 at a
 dsimp only at a
 refine Tr.forget (Z2 (args:=[.agg #[.int .i64 m,.int .i64 n,.slice i o.length k],.agg #[.int .i64 p,.int .i64 s,.slice j t.length l]]) (fn:=Tryz.f132) rfl ?_)
 refine trG a (λq=>J02 _ _ _ _ _ f _ _ _ _ g) λF a=>?_
 obtain rfl:=oJ a
 exact aI rfl (Sub.refl _)
theorem G09(h:Hp)(F:List Value)(I:l0)(an:G1.R h F I)(g:Int)(aG:J0 g)(r:(List Bool))(e:R9 I g=some r):
  Tr Tryz.prog 242 #[.agg F.toArray,.int .i64 g] h λv h'=>∃(D:Option Addr) (H E:Nat),v = .slice D H E/\(Wp.slice Wp.bool).R h' [.slice D H E] r/\Sub h h':=by
 obtain⟨am,o,K,aP,S,q,rfl,rfl,aE,aF,J⟩:=H0 an
 obtain⟨rfl,aN⟩:=Sl.len J
 unfold R9 at e
 dsimp only at e
 refine Z2 (args:=[.agg #[.int .i64 am,.int .i64 o,.slice K q.length S],.int .i64 g]) (fn:=Tryz.f242) rfl ?_
 obtain⟨aQ,aa,e⟩:=C0 e
 refine aI (C1 aa) ?_
 obtain⟨aX,ad,e⟩:=C0 e
 obtain⟨O,aB,W,ar⟩:=c7 (F2.rep (p:=Wp.bool.R h) (a:=[.bool false]) (b:=false) rfl (o.toNat)) ad
 refine aI O ?_
 obtain rfl:=ar
 refine eX _ (aI W ?_)
 obtain⟨B,ag,e⟩:=C0 e
 refine eX { vars:=[6],boxes:=[],owns:=[0],fuel:=true,kept:=[0] } (eX (λvs os h'=>∃ u w l,vs.tail = [.bool u]/\os = [w]/\Sub h h'/\F2 (Wp.bool.R h') w l/\Y4 q (U1 vs) u l=some B) (eX (λ_ _=>0) (aI (eX W0 ⟨true,((List.replicate o.toNat ([.bool false]:List Value)).set g.toNat [.bool true]),((List.replicate o.toNat (false:Bool)).set g.toNat true),rfl,rfl,(Sub.refl _),(F2.set (p:=Wp.bool.R h) (a:=[.bool true]) (b:=true) rfl g.toNat (F2.rep (p:=Wp.bool.R h) (a:=[.bool false]) (b:=false) rfl (o.toNat))),ag⟩) ?_)))
 rintro _ w s al ⟨u,a1,l,⟨⟩,⟨⟩,z,G,d⟩
 replace d:Y4 q s u l=some B:=d
 obtain _|s:=s
 ·cases d
 rw[Y4.eq_2]at d
 refine ifB d (λak d=>?_) λak d=>?_
 ·obtain⟨C,ah,d⟩:=C0 d
  refine eX { vars:=[6,19],boxes:=[],owns:=[0],fuel:=true,kept:=[0] } (eX (λvs os h'=>∃ k i m j,vs.tail = [.bool k,.int .i64 i]/\os = [m]/\Sub al h'/\J0 i/\F2 (Wp.bool.R h') m j/\F4 q (U1 vs) k i j=some C) (eX (λ_ _=>0) (aI (eX W0 ⟨false,0,w,l,rfl,rfl,(Sub.refl _),(by decide),G,ah⟩) ?_)))
  rintro _ _ m n y ⟨k,i,a0,j,⟨⟩,⟨⟩,t,aH,f,c⟩
  replace c:F4 q n k i j=some C:=c
  obtain _|n:=n
  ·cases c
  rw[F4.eq_2]at c
  refine ifB c (λai c=>?_) λai c=>?_
  ·refine ld c (N0.mono (z.trans t) J) λaS ay ao c=>?_
   obtain⟨x,aU,A,rfl,rfl,aJ,aK,aL⟩:=Y1 ao
   try dsimp only at c
   refine Or.inl (aI (aI (by kernel_rfl) (by kernel_rfl)) ?_)
   obtain⟨aV,ab,c⟩:=C0 c
   obtain⟨M,az,U,ap⟩:=c7 f ab
   refine aI M ?_
   obtain rfl:=ap
   refine eX _ (aI U ?_)
   obtain⟨aW,ac,c⟩:=C0 c
   obtain⟨N,aA,V,aq⟩:=c7 f ac
   refine aI N ?_
   obtain rfl:=aq
   refine eX _ (aI V ?_)
   refine ifB c (λaj c=>?_) λaj c=>?_
   ·obtain⟨aY,ae,c⟩:=C0 c
    obtain⟨P,aC,X,au⟩:=c7 f ae
    refine aI P ?_
    obtain rfl:=au
    refine eX _ (aI X ?_)
    obtain⟨aZ,af,c⟩:=C0 c
    obtain⟨Q,aD,Y,av⟩:=c7 (F2.set (p:=Wp.bool.R y) (a:=[.bool true]) (b:=true) rfl x.toNat f) af
    refine aI Q ?_
    obtain rfl:=av
    refine eX _ (aI Y ?_)
    exact I2 n ⟨true,(IntKind.i64.wrap (i+1)),((m.set x.toNat [.bool true]).set A.toNat [.bool true]),((j.set x.toNat true).set A.toNat true),rfl,rfl,t,(O0 _),(F2.set (p:=Wp.bool.R y) (a:=[.bool true]) (b:=true) rfl A.toNat (F2.set (p:=Wp.bool.R y) (a:=[.bool true]) (b:=true) rfl x.toNat f)),c⟩
   ·exact I2 n ⟨k,(IntKind.i64.wrap (i+1)),m,j,rfl,rfl,t,(O0 _),f,c⟩
  ·obtain rfl:=oJ c
   try dsimp only[Y0,Z0]at d
   exact I2 s ⟨k,m,j,rfl,rfl,(z.trans t),f,d⟩
 ·obtain rfl:=oJ d
  try dsimp only[Y0,Z0]at e
  intro aR aM Z
  obtain⟨L,T,rfl,aw,ax,aO⟩:=E1.out (r:=Wp.bool.toRp) Z G
  obtain rfl:=oJ e
  exact⟨L,l.length,T,rfl,aw,(z.trans ax)⟩
theorem Z08(h:Hp)(c:Int)(A:J0 c)(r:M0)(e:w9 c=some r):
  Tr Tryz.prog 226 #[.int .i64 c] h λv h'=>∃(k:Option Addr) (o l:Nat),v = .slice k o l/\P0.R h' [.slice k o l] r/\Sub h h':=by
 unfold w9 at e
 refine Z2 (args:=[.int .i64 c]) (fn:=Tryz.f226) rfl ?_
 obtain⟨j,w,e⟩:=C0 e
 refine eX { vars:=[4],boxes:=[],owns:=[0],fuel:=true } (eX (λvs os h'=>∃ a i d,vs.tail = [.int .i64 a]/\os = [i]/\Sub h h'/\J0 a/\F2 (Wp.int.R h') i d/\T7 c (U1 vs) a d=some j) (eX (λ_ _=>0) (aI (eX W0 ⟨1,[],([]:M0),rfl,rfl,(Sub.refl _),(by decide),(show F2 (Wp.int.R h) ([]:List (List Value)) ([]:M0) from trivial),w⟩) ?_)))
 rintro _ i g n ⟨a,F,d,⟨⟩,⟨⟩,p,m,f,b⟩
 replace b:T7 c g a d=some j:=b
 obtain _|g:=g
 ·cases b
 rw[T7.eq_2]at b
 refine ifB b (λx b=>?_) λx b=>?_
 ·obtain⟨D,u,b⟩:=C0 b
  refine aI (P1 u (by first|rw[F2.length f,F2.length (show F2 (Wp.int.R n) ([[.int .i64 a],[.int .i64 (IntKind.i64.wrap (0-a))]]:List (List Value)) [a,(IntKind.i64.wrap (0-a))] from⟨⟨rfl,m⟩,⟨⟨rfl,(O0 _)⟩,trivial⟩⟩)]|exact congrArg (·+2) (F2.length f))) ?_
  exact I2 g ⟨(IntKind.i64.wrap (a+1)),(i++([[.int .i64 a],[.int .i64 (IntKind.i64.wrap (0-a))]]:List (List Value))),(d ++ [a,(IntKind.i64.wrap (0-a))]),rfl,rfl,p,(O0 _),(F2.append f (show F2 (Wp.int.R n) ([[.int .i64 a],[.int .i64 (IntKind.i64.wrap (0-a))]]:List (List Value)) [a,(IntKind.i64.wrap (0-a))] from⟨⟨rfl,m⟩,⟨⟨rfl,(O0 _)⟩,trivial⟩⟩)),b⟩
 ·obtain rfl:=oJ b
  try dsimp only[Y0,Z0]at e
  intro E B t
  obtain⟨q,s,rfl,y,z,C⟩:=E1.out (r:=Wp.int.toRp) t f
  obtain rfl:=oJ e
  exact⟨q,d.length,s,rfl,y,(p.trans z)⟩
theorem S02(h:Hp)(c:Option Addr)(l d:Nat)(b:V0)(o:N0.R h [.slice c l d] b)(r:V0)(a:c9 b=some r):
  Tr Tryz.prog 191 #[.slice c l d] h λv h'=>∃(e:Option Addr) (k f:Nat),v = .slice e k f/\New N0 h h' [.slice e k f] r:=by
 obtain⟨rfl,D⟩:=Sl.len o
 unfold c9 at a
 refine Z2 (args:=[.slice c b.length d]) (fn:=Tryz.f191) rfl ?_
 obtain⟨x,s,g⟩:=Sl.rows (r:=D1.toRp) o
 refine eX x (aI s ?_)
 obtain⟨G,u,a⟩:=C0 a
 refine aI (P1 u (by first|rw[F2.length (show F2 (D1.R h) ([]:List (List Value)) ([]:V0) from trivial),F2.length g]|exact congrArg (·+1) (F2.length (show F2 (D1.R h) ([]:List (List Value)) ([]:V0) from trivial)))) ?_
 refine Or.inl ?_
 intro M A t
 obtain⟨H,w,a⟩:=C0 a
 refine Tr.mono (Q0l _ t (F2.append (show F2 (D1.R h) ([]:List (List Value)) ([]:V0) from trivial) g) (C1 w)) ?_
 rintro _ B ⟨rfl,N,i,m⟩
 obtain⟨y,z,rfl,I,K,E⟩:=E1.out (r:=D1.toRp) i m
 refine Tr.mono (R0l _ i m) ?_
 rintro _ C ⟨O,j,n⟩
 obtain⟨p,q,rfl,J,L,F⟩:=E1.out (r:=D1.toRp) j n
 obtain rfl:=oJ a
 exact⟨p,((X03 eqE (X06 T0 (([]:V0)++b)))).length,q,rfl,(E1.newPlain (r:=D1) j n (T05 _))⟩
theorem a09(h:Hp)(W:List Value)(ad:l0)(aW:G1.R h W ad)(H:Option Addr)(ac I:Nat)(u:M0)(ag:P0.R h [.slice H ac I] u)(r:l0)(d:e02 ad u=some r):
  Tr Tryz.prog 244 #[.agg W.toArray,.slice H ac I] h λv h'=>∃(V:List Value),v = .agg V.toArray/\New G1 h h' V r:=by
 obtain⟨ae,g,ah,bC,ao,O,rfl,rfl,aP,bi,af⟩:=H0 aW
 obtain⟨rfl,bz⟩:=Sl.len af
 obtain⟨rfl,aU⟩:=Sl.len ag
 unfold e02 at d
 dsimp only at d
 refine Z2 (args:=[.agg #[.int .i64 ae,.int .i64 g,.slice ah O.length ao],.slice H u.length I]) (fn:=Tryz.f244) rfl ?_
 obtain⟨bE,az,d⟩:=C0 d
 refine aI (C1 az) ?_
 obtain⟨aV,ay,d⟩:=C0 d
 obtain rfl:(List.replicate g.toNat ([.int .i64 0]:List Value)).length=aV:=(F2.length (F2.rep (p:=Wp.int.R h) (a:=[.int .i64 0]) (b:=0) ⟨rfl,(by decide)⟩ (g.toNat))).trans (oJ ay)
 obtain⟨bF,bh,d⟩:=C0 d
 obtain⟨U,aK,d⟩:=C0 d
 refine eX { vars:=[17],boxes:=[],owns:=[0],fuel:=true,kept:=[0] } (eX (λvs os h'=>∃ f B x,vs.tail = [.int .i64 f]/\os = [B]/\Sub h h'/\J0 f/\F2 (Wp.int.R h') B x/\a00 ((List.replicate g.toNat ([.int .i64 0]:List Value))).length (U1 vs) f x=some U) (eX (λ_ _=>0) (aI (eX W0 ⟨0,(List.replicate g.toNat ([.int .i64 0]:List Value)),(List.replicate g.toNat (0:Int)),rfl,rfl,(Sub.refl _),(by decide),(F2.rep (p:=Wp.int.R h) (a:=[.int .i64 0]) (b:=0) ⟨rfl,(by decide)⟩ (g.toNat)),aK⟩) ?_)))
 rintro _ B D ab ⟨f,bY,x,⟨⟩,⟨⟩,F,bk,J,c⟩
 replace c:a00 ((List.replicate g.toNat ([.int .i64 0]:List Value))).length D f x=some U:=c
 obtain _|D:=D
 ·cases c
 rw[a00.eq_2]at c
 refine ifB c (λaO c=>?_) λaO c=>?_
 ·obtain⟨bP,aB,c⟩:=C0 c
  obtain⟨aj,a9,aq,aX⟩:=c7 J aB
  refine aI aj ?_
  obtain⟨rfl,bl⟩:=aX
  refine eX _ (aI aq ?_)
  exact I2 D ⟨(IntKind.i64.wrap (f+1)),(B.set f.toNat [.int .i64 (-1)]),(x.set f.toNat (-1)),rfl,rfl,F,(O0 _),(F2.set (p:=Wp.int.R ab) (a:=[.int .i64 (-1)]) (b:=(-1)) ⟨rfl,(by decide)⟩ f.toNat J),c⟩
 ·obtain rfl:=oJ c
  try dsimp only[Y0,Z0]at d
  obtain⟨S,aH,d⟩:=C0 d
  refine eX { vars:=[26],boxes:=[],owns:=[0],fuel:=true,kept:=[0] } (eX (λvs os h'=>∃ e G n,vs.tail = [.int .i64 e]/\os = [G]/\Sub ab h'/\J0 e/\F2 (Wp.int.R h') G n/\Z9 u (U1 vs) e n=some S) (eX (λ_ _=>0) (aI (eX W0 ⟨0,B,x,rfl,rfl,(Sub.refl _),(by decide),J,aH⟩) ?_)))
  rintro _ G C M ⟨e,bW,n,⟨⟩,⟨⟩,E,aQ,t,c⟩
  replace c:Z9 u C e n=some S:=c
  obtain _|C:=C
  ·cases c
  rw[Z9.eq_2]at c
  refine ifB c (λaL c=>?_) λaL c=>?_
  ·refine ldI c (P0.mono (F.trans E) ag) λQ bm c=>?_
   obtain⟨bQ,aC,c⟩:=C0 c
   obtain⟨ak,ba,ar,aY⟩:=c7 t aC
   refine aI ak ?_
   obtain⟨rfl,bn⟩:=aY
   refine eX _ (aI ar ?_)
   exact I2 C ⟨(IntKind.i64.wrap (e+1)),(G.set Q.toNat [.int .i64 e]),(n.set Q.toNat e),rfl,rfl,E,(O0 _),(F2.set (p:=Wp.int.R M) (a:=[.int .i64 e]) (b:=e) ⟨rfl,aQ⟩ Q.toNat t),c⟩
  ·obtain rfl:=oJ c
   try dsimp only[Y0,Z0]at d
   obtain⟨T,aJ,d⟩:=C0 d
   refine eX { vars:=[44],boxes:=[2],owns:=[1],fuel:=true,nilsB:=[(2,2,124,3,24)] } (eX (λvs os h'=>∃ o j k A w,vs.tail = [.int .i64 o,.int .i64 j,.int .i64 k]/\os = [A]/\Sub M h'/\J0 o/\J0 j/\J0 k/\F2 (D1.R h') A w/\d9 O n (U1 vs) o j k w=some T) (eX (λ_ _=>0) (aI (eX W0 ⟨0,ae,((u.length:Nat):Int),[],([]:V0),rfl,rfl,(Sub.refl _),(by decide),aP,(J0n aU),(show F2 (D1.R M) [] [] from trivial),aJ⟩) ?_)))
   rintro _ _ _ A z N ⟨o,j,k,bX,w,⟨⟩,⟨⟩,i,bj,K,L,y,c⟩
   replace c:d9 O n z o j k w=some T:=c
   obtain _|z:=z
   ·cases c
   rw[d9.eq_2]at c
   refine ifB c (λaM c=>?_) λaM c=>?_
   ·refine ld c (N0.mono ((F.trans E).trans i) af) λbR bb aZ c=>?_
    obtain⟨bS,s,bT,rfl,rfl,bo,Y,bp⟩:=Y1 aZ
    try dsimp only at c
    obtain⟨bU,aD,c⟩:=C0 c
    obtain⟨al,bc,au,a0⟩:=c7 (F2.up (r:=Wp.int.toRp) i t) aD
    refine aI al ?_
    obtain⟨rfl,bq⟩:=a0
    refine eX _ (aI au ?_)
    obtain⟨bV,aE,c⟩:=C0 c
    obtain⟨bd,X,a1⟩:=F03 (F2.up (r:=Wp.int.toRp) i t) aE (n0b N)
    refine aI (λq=>(X q).1) ?_
    obtain⟨rfl,br⟩:=a1
    refine eX _ (aI (λq=>(X q).2) ?_)
    refine ifB c (λaN c=>?_) λaN c=>?_
    ·refine Or.inr (Or.inr (Or.inl (aI (aI (by kernel_rfl) (by kernel_rfl)) ?_)))
     obtain⟨l,aF,c⟩:=C0 c
     obtain⟨am,be,av,a2⟩:=c7 (F2.up (r:=Wp.int.toRp) i t) aF
     obtain⟨rfl,Z⟩:=a2
     refine Or.inl ?_
     apply eX
     refine aI ?_ ?_
     ·intro bs bH
      exact aI am (aI rfl (aI rfl rfl))
     refine Or.inl (eX (.val (.int .i64 l)) (aI ?_ ?_))
     ·intro bt bI
      exact eX _ (aI av (aI rfl (aI rfl rfl)))
     obtain⟨m,aG,c⟩:=C0 c
     obtain⟨an,bf,aw,a3⟩:=c7 (F2.up (r:=Wp.int.toRp) i t) aG
     obtain⟨rfl,aa⟩:=a3
     refine Or.inl ?_
     apply eX
     refine aI ?_ ?_
     ·intro bu bJ
      exact aI an (aI rfl (aI rfl rfl))
     refine Or.inl (eX (.val (.int .i64 m)) (aI ?_ ?_))
     ·intro bv bK
      exact eX _ (aI aw (aI rfl (aI rfl rfl)))
     refine Or.inl (eX (.agg [.val (.int .i64 l),.val (.int .i64 s),.val (.int .i64 m)]) (aI ?_ ?_))
     ·intro bx bL
      exact aI rfl (aI rfl rfl)
     refine Or.inr ?_
     refine Or.inr ?_
     refine Or.inr ?_
     refine Or.inl (eX 0 (aI (aI rfl rfl) ?_))
     refine aT ?_
     obtain⟨bG,aA,c⟩:=C0 c
     refine aI (P1 aA (by first|rw[F2.length y,F2.length (show F2 (D1.R N) ([[.int .i64 l,.int .i64 s,.int .i64 m]]:List (List Value)) [(l,s,m)] from⟨(L1 Z Y aa),trivial⟩)]|exact congrArg (·+1) (F2.length y))) ?_
     refine aT ?_
     refine aT ?_
     exact I2 z ⟨(IntKind.i64.wrap (o+1)),j,k,(A++([[.int .i64 l,.int .i64 s,.int .i64 m]]:List (List Value))),(w ++ [(l,s,m)]),rfl,rfl,i,(O0 _),K,L,(F2.append y (show F2 (D1.R N) ([[.int .i64 l,.int .i64 s,.int .i64 m]]:List (List Value)) [(l,s,m)] from⟨(L1 Z Y aa),trivial⟩)),c⟩
    ·exact I2 z ⟨(IntKind.i64.wrap (o+1)),j,k,A,w,rfl,rfl,i,(O0 _),K,L,y,c⟩
   ·obtain rfl:=oJ c
    try dsimp only[Y0,Z0]at d
    refine Or.inl ?_
    intro bN aR ax
    obtain⟨a8,bg,rfl,a5,a6,bB⟩:=E1.out (r:=D1.toRp) ax y
    refine trM d (S02 _ _ _ _ _ a5) ?_
    rintro a7 d bO aS ⟨ai,bD,ap,rfl,P⟩
    have bM:Sub aR aS:=P.sub
    have a4:=P.r
    obtain⟨rfl,bA⟩:=Sl.len a4
    obtain rfl:=oJ d
    exact⟨([.int .i64 j,.int .i64 k,.slice ai a7.length ap]),rfl,(New.pair (New.int K) (New.pair (New.int L) (New.from P (((F.trans E).trans i).trans a6))))⟩
theorem T03(h:Hp)(X:List Value)(am:l0)(bh:G1.R h X am)(e:Int)(a9:J0 e)(r:M0×E2)(f:o7 am e=some r):
  Tr Tryz.prog 250 #[.agg X.toArray,.int .i64 e] h λv h'=>∃(T:Option Addr) (aj V:Nat) (U:Option Addr) (ak W:Nat),v = .tuple #[.slice T aj V,.slice U ak W]/\P0.R h' [.slice T aj V] r.1/\I3.R h' [.slice U ak W] r.2/\Sub h h':=by
 obtain⟨A,i,ax,b3,aF,B,rfl,rfl,af,a8,ao⟩:=H0 bh
 obtain⟨rfl,bS⟩:=Sl.len ao
 unfold o7 at f
 dsimp only at f
 refine Z2 (args:=[.agg #[.int .i64 A,.int .i64 i,.slice ax B.length aF],.int .i64 e]) (fn:=Tryz.f250) rfl ?_
 obtain⟨cf,aS,f⟩:=C0 f
 refine aI (C1 aS) ?_
 obtain⟨cr,aY,f⟩:=C0 f
 obtain⟨aC,bC,aK,bj⟩:=c7 (F2.rep (p:=Wp.opt.R h) (a:=[.slice none 0 0]) (b:=none) (h0t h) (i.toNat)) aY
 refine aI aC ?_
 obtain⟨bv,b5,bH,rfl,cc,be⟩:=bj
 obtain⟨rfl,bU⟩:=Sl.len be
 intro cm L aP
 obtain⟨ae,Z,rfl,br,O,b2⟩:=E1.outS (r:=Wp.int.toRp) aP (show F2 (Wp.int.R h) ([]:List (List Value)) ([]:M0) from trivial)
 refine eX _ (aI aK ?_)
 obtain⟨S,a3,f⟩:=C0 f
 refine eX { vars:=[8],boxes:=[],owns:=[0,2],fuel:=true,kept:=[0] } (eX (λvs os h'=>∃ u8 H u D t,vs.tail = [.int .i64 u8]/\os = [H,D]/\Sub L h'/\J0 u8/\F2 (Wp.opt.R h') H u/\F2 (Wp.int.R h') D t/\d5 A i B (U1 vs) u8 u t=some S) (eX (λ_ _=>0) (aI (eX W0 ⟨0,((List.replicate i.toNat ([.slice none 0 0]:List Value)).set e.toNat [.slice (some ⟨ae,0,none⟩) (([]:M0)).length Z]),((List.replicate i.toNat (none:Option M0)).set e.toNat (some ([]:M0))),([[.int .i64 e]]:List (List Value)),[e],rfl,rfl,(Sub.refl _),(by decide),(F2.set (p:=Wp.opt.R L) (a:=[.slice (some ⟨ae,0,none⟩) (([]:M0)).length Z]) (b:=some ([]:M0)) (i0t br) e.toNat (F2.up (r:=Wp.opt.toRp) O (F2.rep (p:=Wp.opt.R h) (a:=[.slice none 0 0]) (b:=none) (h0t h) (i.toNat)))),(show F2 (Wp.int.R L) ([[.int .i64 e]]:List (List Value)) [e] from⟨⟨rfl,a9⟩,trivial⟩),a3⟩) ?_)))
 rintro _ H D F bP ⟨u8,cx,u,cu,t,⟨⟩,⟨⟩,N,bO,ab,E,d⟩
 replace d:d5 A i B F u8 u t=some S:=d
 obtain _|F:=F
 ·cases d
 rw[d5.eq_2]at d
 obtain⟨bc,aR,d⟩:=C0 d
 obtain rfl:D.length=bc:=(F2.length E).trans (oJ aR)
 obtain⟨cg,bM,d⟩:=C0 d
 refine ifB d (λa5 d=>?_) λa5 d=>?_
 ·obtain⟨av,aX,d⟩:=C0 d
  obtain⟨aB,bB,aJ,bi⟩:=c7 E aX
  refine aI aB ?_
  obtain⟨rfl,ba⟩:=bi
  refine eX _ (aI aJ ?_)
  refine trM d (Z08 _ _ af) ?_
  rintro aw d cl bb ⟨bu,b4,bG,rfl,ap,G⟩
  obtain⟨rfl,bT⟩:=Sl.len ap
  obtain⟨Q,a2,d⟩:=C0 d
  refine eX { vars:=[36],boxes:=[],owns:=[0,2],fuel:=true,kept:=[0] } (eX (λvs os h'=>∃ k w l x m,vs.tail = [.int .i64 k]/\os = [w,x]/\Sub bb h'/\J0 k/\F2 (Wp.opt.R h') w l/\F2 (Wp.int.R h') x m/\R3 aw A i B av (U1 vs) k l m=some Q) (eX (λ_ _=>0) (aI (eX W0 ⟨0,H,u,D,t,rfl,rfl,(Sub.refl _),(by decide),(F2.up (r:=Wp.opt.toRp) G ab),(F2.up (r:=Wp.int.toRp) G E),a2⟩) ?_)))
  rintro _ w x z ah ⟨k,cv,l,cw,m,⟨⟩,⟨⟩,C,bN,s,y,c⟩
  replace c:R3 aw A i B av z k l m=some Q:=c
  obtain _|z:=z
  ·cases c
  rw[R3.eq_2]at c
  refine ifB c (λa6 c=>?_) λa6 c=>?_
  ·refine ldI c (P0.mono C ap) λj J c=>?_
   refine trV c (w7 _ _ _ (B0 af a8 (N0.mono (((O.trans N).trans G).trans C) ao)) _ ba _ J) λg c=>?_
   obtain⟨ch,aU,c⟩:=C0 c
   have ag:J0 g:=C1 aU
   obtain⟨bt,aZ,c⟩:=C0 c
   obtain⟨bD,aa,bk⟩:=F03 s aZ (w0u ah)
   refine aI (λq=>(aa q).1) ?_
   obtain⟨bx,b6,bI,rfl,bd,bf⟩:=bk
   obtain⟨rfl,bV⟩:=Sl.len bf
   refine eX _ (aI (λq=>(aa q).2) ?_)
   refine eX (bt.isNone) (aI (λ_=>by rw[←bd];exact x0u _ _ _ rfl _ _ _) ?_)
   refine ifB c (λa7 c=>?_) λa7 c=>?_
   ·obtain⟨cs,a0,c⟩:=C0 c
    obtain⟨aD,bE,aL,bl⟩:=c7 s a0
    refine aI aD ?_
    obtain⟨bz,b7,bJ,rfl,cd,an⟩:=bl
    obtain⟨rfl,bW⟩:=Sl.len an
    refine eX _ (aI aL ?_)
    obtain⟨I,ac,c⟩:=C0 c
    refine Tr.mono (R01 _ _ _ _ _ an _  ac) ?_
    rintro cn K ⟨ac,b8,bK,rfl,P⟩
    have ck:Sub ah K:=P.sub
    have bm:=P.r
    obtain⟨rfl,bX⟩:=Sl.len bm
    obtain⟨ci,aV,c⟩:=C0 c
    obtain⟨bs,bo,ai,ay⟩:=New.app P (Sub.refl _)
    refine eX bs (aI bo (aI (P1 aV (by first|rw[ai,F2.length (show F2 (Wp.int.R K) ([[.int .i64 j]]:List (List Value)) [j] from⟨⟨rfl,J⟩,trivial⟩)]|(rw[ai];rfl))) ?_))
    intro cq M a4
    obtain⟨n,ad,al,cb,Y,rfl⟩:=ay _ _ _ _ _ (F3.ofPlain (X09 _) (show F2 (Wp.int.R K) ([[.int .i64 j]]:List (List Value)) [j] from⟨⟨rfl,J⟩,trivial⟩)) V5.ofPlain a4
    have aq:=n.r
    obtain⟨aN,bZ⟩:=Sl.len aq
    subst aN
    obtain⟨ct,a1,c⟩:=C0 c
    obtain⟨aE,bF,aM,bn⟩:=c7 (F2.up (r:=Wp.opt.toRp) n.sub s) a1
    refine aI aE ?_
    obtain⟨bA,ca,bL,rfl,ce,bg⟩:=bn
    obtain⟨rfl,bY⟩:=Sl.len bg
    refine eX _ (aI aM ?_)
    obtain⟨cj,aW,c⟩:=C0 c
    refine aI (P1 aW (by first|rw[F2.length (F2.up (r:=Wp.int.toRp) n.sub y),F2.length (show F2 (Wp.int.R M) ([[.int .i64 g]]:List (List Value)) [g] from⟨⟨rfl,ag⟩,trivial⟩)]|exact congrArg (·+1) (F2.length (F2.up (r:=Wp.int.toRp) n.sub y)))) ?_
    exact I2 z ⟨(IntKind.i64.wrap (k+1)),(w.set g.toNat [.slice (some ⟨ad,al,none⟩) (I ++ [j]).length Y]),(l.set g.toNat (some (I ++ [j]))),(x++([[.int .i64 g]]:List (List Value))),(m ++ [g]),rfl,rfl,(C.trans n.sub),(O0 _),(F2.set (p:=Wp.opt.R M) (a:=[.slice (some ⟨ad,al,none⟩) (I ++ [j]).length Y]) (b:=some (I ++ [j])) (i0t aq) g.toNat (F2.up (r:=Wp.opt.toRp) n.sub s)),(F2.append (F2.up (r:=Wp.int.toRp) n.sub y) (show F2 (Wp.int.R M) ([[.int .i64 g]]:List (List Value)) [g] from⟨⟨rfl,ag⟩,trivial⟩)),c⟩
   ·exact I2 z ⟨(IntKind.i64.wrap (k+1)),w,l,x,m,rfl,rfl,C,(O0 _),s,y,c⟩
  ·obtain rfl:=oJ c
   try dsimp only[Y0,Z0]at d
   exact I2 F ⟨(IntKind.i64.wrap (u8+1)),w,l,x,m,rfl,rfl,((N.trans G).trans C),(O0 _),s,y,d⟩
 ·obtain rfl:=oJ d
  try dsimp only[Y0,Z0]at f
  intro co bQ aO
  obtain⟨az,aG,rfl,bp,ar,b0⟩:=E1.out (r:=Wp.int.toRp) aO E
  intro cp bR aQ
  obtain⟨aA,aH,rfl,bq,au,b1⟩:=E1.out (r:=P0.toRp) aQ (F2.ofOpt (F2.up (r:=Wp.opt.toRp) ar ab))
  obtain rfl:=oJ f
  exact⟨az,t.length,aG,aA,(List.map (λo:Option M0=>o.getD ([]:M0)) u).length,aH,rfl,(P0.mono au bp),bq,(((O.trans N).trans ar).trans au)⟩
theorem c08(h:Hp)(f:List Value)(k:l0)(z:G1.R h f k)(r:M0)(a:S8 k=some r):
  Tr Tryz.prog 245 #[.agg f.toArray] h λv h'=>∃(d:Option Addr) (j e:Nat),v = .slice d j e/\P0.R h' [.slice d j e] r/\Sub h h':=by
 obtain⟨w,x,m,N,p,y,rfl,rfl,g,i,b⟩:=H0 z
 obtain⟨rfl,J⟩:=Sl.len b
 unfold S8 at a
 dsimp only at a
 refine Z2 (args:=[.agg #[.int .i64 w,.int .i64 x,.slice m y.length p]]) (fn:=Tryz.f245) rfl ?_
 refine trV a (O9 _ _ _ (B0 g i b)) λT a=>?_
 refine ifB a (λu a=>?_) λu a=>?_
 ·intro Q H t
  obtain⟨o,s,rfl,A,C,M⟩:=E1.out (r:=Wp.int.toRp) t (show F2 (Wp.int.R h) ([]:List (List Value)) ([]:M0) from trivial)
  obtain rfl:=oJ a
  exact⟨o,(([]:M0)).length,s,rfl,A,C⟩
 ·refine trM a (T03 _ _ _ (B0 g i b) 0 (by decide)) ?_
  rintro D a S I ⟨n,O,q,F,P,G,rfl,c,l,B⟩
  obtain⟨E,U⟩:=D
  dsimp only at a c l
  obtain⟨rfl,K⟩:=Sl.len c
  obtain⟨rfl,L⟩:=Sl.len l
  obtain rfl:=oJ a
  exact⟨n,E.length,q,rfl,c,B⟩
theorem b04(h:Hp)(j:List Value)(k:l0)(I:G1.R h j k)(r:l0)(a:C7 k=some r):
  Tr Tryz.prog 175 #[.agg j.toArray] h λv h'=>∃(i:List Value),v = .agg i.toArray/\New G1 h h' i r:=by
 obtain⟨F,G,n,ae,p,H,rfl,rfl,c,d,b⟩:=H0 I
 obtain⟨rfl,aa⟩:=Sl.len b
 unfold C7 at a
 dsimp only at a
 refine Z2 (args:=[.agg #[.int .i64 F,.int .i64 G,.slice n H.length p]]) (fn:=Tryz.f175) rfl ?_
 refine trV a (O9 _ _ _ (B0 c d b)) λam a=>?_
 refine ifB a (λx a=>?_) λx a=>?_
 ·refine trM a (B5 _ _ _ (B0 c d b)) ?_
  rintro T a ak D ⟨w,ag,s,rfl,e⟩
  have ai:Sub h D:=e.sub
  have l:=e.r
  obtain⟨U,V,W⟩:=T
  dsimp only at a e l
  obtain⟨_,_,_,_,_,_,t,u,A,B,L⟩:=H0 l
  cases t
  cases u
  obtain⟨rfl,ac⟩:=Sl.len L
  try dsimp only at a
  have O:=New.sndI (New.sndI (e))
  obtain rfl:=oJ a
  exact⟨([.int .i64 U,.int .i64 V,.slice (some ⟨w,0,none⟩) W.length s]),rfl,(New.pair (New.int A) (New.pair (New.int B) O))⟩
 ·refine Or.inr (Or.inr (Or.inl (aI (aI (by kernel_rfl) (by kernel_rfl)) ?_)))
  refine Or.inr ?_
  refine Or.inr ?_
  refine Or.inr ?_
  refine Or.inl (eX 2 (aI (aI rfl rfl) ?_))
  refine trM a (c08 _ _ _ (B0 c d b)) ?_
  rintro ao a al E ⟨X,ah,Z,rfl,m,f⟩
  obtain⟨rfl,ad⟩:=Sl.len m
  refine aI (aI rfl f) (aI (by first|exact trivial|exact rfl) ?_)
  refine trM a (a09 _ _ _ (B0 c d (N0.mono f b)) _ _ _ _ m) ?_
  rintro an a aj C ⟨Y,rfl,g⟩
  have M:Sub E C:=g.sub
  have J:=g.r
  obtain⟨P,Q,o,af,q,S,rfl,rfl,y,z,K⟩:=H0 J
  obtain⟨rfl,ab⟩:=Sl.len K
  try dsimp only at a
  have N:=New.sndI (New.sndI (g))
  refine aI (aI rfl M) (aI (by first|exact trivial|exact rfl) ?_)
  refine aT ?_
  obtain rfl:=oJ a
  exact⟨([.int .i64 P,.int .i64 Q,.slice o S.length q]),rfl,(New.pair (New.int y) (New.pair (New.int z) (New.from N f)))⟩
theorem m07(h:Hp)(ak:List Value)(aE:l0)(bM:G1.R h ak aE)(r:l0×M0)(c:U7 aE=some r):
  Tr Tryz.prog 174 #[.agg ak.toArray] h λv h'=>∃(aj:List Value) (ah:Option Addr) (aD ai:Nat),v = .tuple #[.agg aj.toArray,.slice ah aD ai]/\New G1 h h' aj r.1/\P0.R h' [.slice ah aD ai] r.2:=by
 obtain⟨bI,T,aU,ct,a2,bJ,rfl,rfl,au,av,U⟩:=H0 bM
 obtain⟨rfl,cj⟩:=Sl.len U
 unfold U7 at c
 dsimp only at c
 refine Z2 (args:=[.agg #[.int .i64 bI,.int .i64 T,.slice aU bJ.length a2]]) (fn:=Tryz.f174) rfl ?_
 refine trM c (B5 _ _ _ (B0 au av U)) ?_
 rintro b2 c cH G ⟨ap,cu,al,rfl,M⟩
 have W:Sub h G:=M.sub
 have aG:=M.r
 obtain⟨aN,aO,aa⟩:=b2
 dsimp only at c M aG
 obtain⟨_,_,_,_,_,_,a7,a9,az,aA,bN⟩:=H0 aG
 cases a7
 cases a9
 obtain⟨rfl,cl⟩:=Sl.len bN
 try dsimp only at c
 have aK:=New.sndI (New.sndI (M))
 refine trV c (q00 _ _ _ (B0 au av (N0.mono W U))) λcO c=>?_
 refine ifB c (λbu c=>?_) λbu c=>?_
 ·intro cL cg bc
  obtain⟨aX,a4,rfl,bS,bX,co⟩:=E1.out (r:=Wp.int.toRp) bc (show F2 (Wp.int.R G) ([]:List (List Value)) ([]:M0) from trivial)
  obtain rfl:=oJ c
  exact⟨([.int .i64 aN,.int .i64 aO,.slice (some ⟨ap,0,none⟩) aa.length al]),aX,(([]:M0)).length,a4,rfl,(New.pair (New.int az) (New.pair (New.int aA) (New.mono aK bX))),bS⟩
 ·obtain⟨ad,bj,c⟩:=C0 c
  refine eX { vars:=[6],boxes:=[],owns:=[0],fuel:=true } (eX (λvs os h'=>∃ f L m,vs.tail = [.int .i64 f]/\os = [L]/\Sub G h'/\J0 f/\F2 (Wp.int.R h') L m/\C6 T (U1 vs) f m=some ad) (eX (λ_ _=>0) (aI (eX W0 ⟨0,[],([]:M0),rfl,rfl,(Sub.refl _),(by decide),(show F2 (Wp.int.R G) ([]:List (List Value)) ([]:M0) from trivial),bj⟩) ?_)))
  rintro _ L H aB ⟨f,cQ,m,⟨⟩,⟨⟩,K,aw,t,a⟩
  replace a:C6 T H f m=some ad:=a
  obtain _|H:=H
  ·cases a
  rw[C6.eq_2]at a
  refine ifB a (λbo a=>?_) λbo a=>?_
  ·obtain⟨cy,bd,a⟩:=C0 a
   refine aI (P1 bd (by first|rw[F2.length t,F2.length (show F2 (Wp.int.R aB) ([[.int .i64 f]]:List (List Value)) [f] from⟨⟨rfl,aw⟩,trivial⟩)]|exact congrArg (·+1) (F2.length t))) ?_
   exact I2 H ⟨(IntKind.i64.wrap (f+1)),(L++([[.int .i64 f]]:List (List Value))),(m ++ [f]),rfl,rfl,K,(O0 _),(F2.append t (show F2 (Wp.int.R aB) ([[.int .i64 f]]:List (List Value)) [f] from⟨⟨rfl,aw⟩,trivial⟩)),a⟩
  ·obtain rfl:=oJ a
   try dsimp only[Y0,Z0]at c
   obtain⟨ae,bk,c⟩:=C0 c
   refine eX { vars:=[5],boxes:=[2],owns:=[],fuel:=true,pubs:=[5] } (eX (λvs os h'=>∃(B:Option Addr) (Q s:Nat) (z:M0) (j:Int) (g:Int) (C:Option Addr) (S D:Nat) (n:V0),vs.tail = [.slice B Q s,.int .i64 j,.int .i64 g,.slice C S D]/\os = []/\Sub h h'/\New P0 h h' [.slice B Q s] z/\J0 j/\J0 g/\New N0 h h' [.slice C S D] n/\M5 (U1 vs) z j g n=some ae) (eX (λ_ _=>0) ?_))
   intro cG ce ao
   obtain⟨aY,a5,rfl,cD,aJ,cp⟩:=E1.out (r:=Wp.int.toRp) ao t
   refine aI (eX W0 ⟨aY,m.length,a5,m,aN,aO,(some ⟨ap,0,none⟩),aa.length,al,aa,rfl,rfl,((W.trans K).trans aJ),(New.from (E1.newPlain (r:=Wp.int) ao t (X09 _)) (W.trans K)),az,aA,(New.mono aK (K.trans aJ)),bk⟩) ?_
   rintro _ _ _ _ I cf ⟨B,Q,s,z,j,g,C,S,D,n,⟨⟩,⟨⟩,cE,aL,E,F,aM,a⟩
   replace a:M5 I z j g n=some ae:=a
   obtain _|I:=I
   ·cases a
   rw[M5.eq_2]at a
   have aF:=aL.r
   obtain⟨rfl,bE⟩:=Sl.len aF
   have J:=aM.r
   obtain⟨rfl,ck⟩:=Sl.len J
   refine trM a (G09 _ _ _ (B0 E F J) 0 (by decide)) ?_
   rintro aP a cI bA ⟨b6,cv,cb,rfl,aH,o⟩
   obtain⟨rfl,cm⟩:=Sl.len aH
   obtain⟨af,bl,a⟩:=C0 a
   refine eX { vars:=[8,9],boxes:=[],owns:=[],fuel:=true } (eX (λvs os h'=>∃ k l,vs.tail = [.int .i64 k,.int .i64 l]/\os = []/\Sub bA h'/\J0 k/\J0 l/\E4 g j n aP (U1 vs) k l=some af) (eX (λ_ _=>0) (aI (eX W0 ⟨0,1,rfl,rfl,(Sub.refl _),(by decide),(by decide),bl⟩) ?_)))
   rintro _ _ w P ⟨k,l,⟨⟩,⟨⟩,i,bv,ax,b⟩
   replace b:E4 g j n aP w k l=some af:=b
   obtain _|w:=w
   ·cases b
   rw[E4.eq_2]at b
   refine ifB b (λbp b=>?_) λbp b=>?_
   ·refine trV b (S0d _ _ _ (B0 E F (N0.mono (o.trans i) J)) _ ax) λb3 b=>?_
    obtain⟨cz,be,b⟩:=C0 b
    have cd:J0 b3:=C1 be
    obtain⟨cN,bh,b⟩:=C0 b
    obtain⟨b8,an,bO⟩:=Sl.getG (r:=Wp.bool.toRp) ((Wp.slice Wp.bool).mono i aH) bh (by decide) (y0t P)
    refine aI (λq=>(an q).1) ?_
    obtain rfl:=bO
    refine eX _ (aI (λq=>(an q).2) ?_)
    refine ifB b (λbq b=>?_) λbq b=>?_
    ·exact I2 w ⟨l,(IntKind.i64.wrap (l+1)),rfl,rfl,i,ax,(O0 _),b⟩
    ·exact I2 w ⟨k,(IntKind.i64.wrap (l+1)),rfl,rfl,i,bv,(O0 _),b⟩
   ·obtain rfl:=oJ b
    try dsimp only[Y0,Z0]at a
    refine ifB a (λbr a=>?_) λbr a=>?_
    ·obtain rfl:=oJ a
     try dsimp only[B4,I4]at c
     obtain rfl:=oJ c
     exact⟨([.int .i64 j,.int .i64 g,.slice C n.length D]),B,z.length,s,rfl,(New.pair (New.int E) (New.pair (New.int F) (New.mono aM (o.trans i)))),(P0.mono (o.trans i) aF)⟩
    ·obtain⟨ag,bm,a⟩:=C0 a
     refine eX { vars:=[11],boxes:=[],owns:=[1],fuel:=true } (eX (λvs os h'=>∃ d A p,vs.tail = [.int .i64 d]/\os = [A]/\Sub P h'/\J0 d/\F2 (Wp.int.R h') A p/\L5 g k (U1 vs) d p=some ag) (eX (λ_ _=>0) (aI (eX W0 ⟨0,[],([]:M0),rfl,rfl,(Sub.refl _),(by decide),(show F2 (Wp.int.R P) ([]:List (List Value)) ([]:M0) from trivial),bm⟩) ?_)))
     rintro _ A x aC ⟨d,cR,p,⟨⟩,⟨⟩,y,ay,u,b⟩
     replace b:L5 g k x d p=some ag:=b
     obtain _|x:=x
     ·cases b
     rw[L5.eq_2]at b
     refine ifB b (λbs b=>?_) λbs b=>?_
     ·refine ifB b (λbt b=>?_) λbt b=>?_
      ·obtain⟨cA,bf,b⟩:=C0 b
       refine aI (P1 bf (by first|rw[F2.length u,F2.length (show F2 (Wp.int.R aC) ([[.int .i64 d]]:List (List Value)) [d] from⟨⟨rfl,ay⟩,trivial⟩)]|exact congrArg (·+1) (F2.length u))) ?_
       exact I2 x ⟨(IntKind.i64.wrap (d+1)),(A++([[.int .i64 d]]:List (List Value))),(p ++ [d]),rfl,rfl,y,(O0 _),(F2.append u (show F2 (Wp.int.R aC) ([[.int .i64 d]]:List (List Value)) [d] from⟨⟨rfl,ay⟩,trivial⟩)),b⟩
      ·exact I2 x ⟨(IntKind.i64.wrap (d+1)),A,p,rfl,rfl,y,(O0 _),u,b⟩
     ·obtain rfl:=oJ b
      try dsimp only[Y0,Z0]at a
      refine Or.inl ?_
      intro cJ bB bb
      obtain⟨b7,cc,rfl,bT,X,cq⟩:=E1.out (r:=Wp.int.toRp) bb u
      refine trM a (a09 _ _ _ (B0 E F (N0.mono (((o.trans i).trans y).trans X) J)) _ _ _ _ bT) ?_
      rintro cP a cK bC ⟨ca,rfl,Y⟩
      have bV:Sub bB bC:=Y.sub
      have bP:=Y.r
      obtain⟨b4,b5,aW,cw,a3,aQ,rfl,rfl,bx,bz,bQ⟩:=H0 bP
      obtain⟨rfl,cn⟩:=Sl.len bQ
      try dsimp only at a
      have b0:=New.sndI (New.sndI (Y))
      obtain⟨ab,aq,a⟩:=C0 a
      obtain⟨ac,ar,a⟩:=C0 a
      obtain⟨cC,bg,a⟩:=C0 a
      obtain⟨bK,a0,am,bi,bH,aR,aS,bY,bZ,a8,bL,a1,ci,cs,bR,bW,bF,bG,aV⟩:=New.drop aL ((((o.trans i).trans y).trans X).trans bV) aq ar (W0t bE aq ar)
      subst a8
      refine Or.inr (Or.inr (Or.inl (aI (aI (by kernel_rfl) (by kernel_rfl)) ?_)))
      refine Or.inl (eX (.val (.slice (some ⟨bi,bH,none⟩) ab.length s)) (aI ?_ ?_))
      ·intro N V
       obtain⟨vs,e⟩:=am N V
       exact aI a0 (eX vs (aI e (λv _ O=>aI (congrArg AV.val (bK v O)) (aI rfl rfl))))
      refine Or.inl (eX (.val (.slice aR ac.length aS)) (aI ?_ ?_))
      ·intro N V
       obtain⟨vs,e⟩:=am N V
       exact aI a1 (eX vs (aI e (λv _ O=>aI (congrArg AV.val (bL v O)) (aI rfl rfl))))
      refine Or.inr ?_
      refine Or.inl (eX 0 (aI (aI rfl rfl) ?_))
      refine eX bZ (aI bW (eX bY (aI bR (aI (P1 bg (by rw[bF,bG])) ?_))))
      intro cM ch bn
      obtain⟨Z,⟨aZ,cx,a6,rfl⟩,bD⟩:=aV _ _ bn
      have bU:=Z.r
      obtain⟨ba,cr⟩:=Sl.len bU
      subst ba
      refine aT ?_
      have b1:=bD D1.slice _ _ _ b0 (((o.trans i).trans y).trans X)
      exact I2 I ⟨aZ,(ab++ac).length,a6,(ab++ac),b4,b5,aW,aQ.length,a3,aQ,rfl,rfl,Z.sub,Z,bx,bz,b1,a⟩
theorem r8(h:Hp)(n:List Value)(o:l0)(S:G1.R h n o)(r:Bool)(a:U4 o=some r):
  Tr Tryz.prog 115 #[.agg n.toArray] h λv h'=>v = .bool r/\h'=h:=by
 obtain⟨P,p,y,aB,A,Q,rfl,rfl,f,g,b⟩:=H0 S
 obtain⟨rfl,ax⟩:=Sl.len b
 unfold U4 at a
 dsimp only at a
 refine Tr.forget (Z2 (args:=[.agg #[.int .i64 P,.int .i64 p,.slice y Q.length A]]) (fn:=Tryz.f115) rfl ?_)
 refine trV a (O9 _ _ _ (B0 f g b)) λaH a=>?_
 refine ifB a (λH a=>?_) λH a=>?_
 ·obtain rfl:=oJ a
  exact aI rfl (Sub.refl _)
 ·refine trM a (m07 _ _ _ (B0 f g b)) ?_
  rintro ab a aG N ⟨ah,af,aD,ak,rfl,m,s⟩
  obtain⟨aJ,aM⟩:=ab
  dsimp only at a m s
  have l:Sub h N:=m.sub
  have T:=m.r
  obtain⟨aK,ac,ae,aC,aj,aL,rfl,rfl,ao,ap,U⟩:=H0 T
  obtain⟨rfl,ay⟩:=Sl.len U
  try dsimp only at a
  obtain⟨rfl,az⟩:=Sl.len s
  refine Or.inr (Or.inr (Or.inr (Or.inl (aI (aI (by kernel_rfl) (by kernel_rfl)) ?_))))
  refine Or.inl (eX (.val (.bool (decide (ac=p)))) (aI ?_ ?_))
  ·intro au aF
   exact aI rfl (aI rfl rfl)
  obtain⟨ad,G,a⟩:=C0 a
  obtain⟨w,x,i⟩:=ad
  try dsimp only at a
  refine Or.inr (eX (λv I=>∃(c:Option Addr) (d:Nat),v = .agg #[.int .i64 w,.int .i64 x,.slice c i.length d]/\J0 w/\J0 x/\N0.R I [.slice c i.length d] i/\i.length<=9223372036854775807) (aI (λv am an k q=>by obtain⟨c,d,e,D,E,f2,f3⟩:=q;exact⟨c,d,e,D,E,N0.mono k f2,f3⟩) (aI ?_ ?_)))
  ·intro av X j
   refine Tr.mono (b04 _ _ _ (B0 f g (N0.mono (l.trans X) b)) _ (P9 G j)) ?_
   rintro _ aw ⟨ai,rfl,u⟩
   have k:=u.sub
   have V:=u.r
   obtain⟨aN,aO,z,aE,B,aP,rfl,C,J,K,t⟩:=H0 V
   cases C
   obtain⟨rfl,O⟩:=Sl.len t
   exact aI M00 (aI k ⟨z,B,rfl,J,K,t,O⟩)
  obtain⟨aa,F,a⟩:=C0 a
  refine Or.inl (eX (.val (.bool aa)) (aI ?_ ?_))
  ·intro aq Y j
   rintro _ ⟨ag,al,rfl,L,M,W,aA⟩
   exact Tr.val (W8 _ _ _ (B0 L M W) _ _ (B0 f g (N0.mono (l.trans Y) b)) _ (P9 F j)) (aI rfl (aI rfl rfl))
  intro ar Z
  obtain rfl:=oJ a
  exact aI rfl (l.trans Z)
theorem r06(h:Hp)(b:Int)(f:J0 b)(c:Int)(j:J0 c)(d:Int)(g:J0 d)(r:K0)(a:q01 b c d=some r):
  Tr Tryz.prog 153 #[.int .i64 b,.int .i64 c,.int .i64 d] h λv h'=>∃(e:List Value),v = .agg e.toArray/\D1.R h' e r/\Sub h h':=by
 unfold q01 at a
 refine Z2 (args:=[.int .i64 b,.int .i64 c,.int .i64 d]) (fn:=Tryz.f153) rfl ?_
 refine ifB a (λi a=>?_) λi a=>?_
 ·obtain rfl:=oJ a
  exact⟨([.int .i64 d,.int .i64 (IntKind.i64.wrap (0-c)),.int .i64 b]),rfl,(L1 g (O0 _) f),(Sub.refl _)⟩
 ·obtain rfl:=oJ a
  exact⟨([.int .i64 b,.int .i64 c,.int .i64 d]),rfl,(L1 f j g),(Sub.refl _)⟩
theorem I9(h:Hp)(k:Option Addr)(o l:Nat)(d:V0)(q:N0.R h [.slice k o l] d)(n:List Value)(p:K0)(w:D1.R h n p)(r:Int)(b:M2 d p=some r):
  Tr Tryz.prog 247 #[.slice k o l,.agg n.toArray] h λv h'=>v = .int .i64 r/\h'=h:=by
 obtain⟨rfl,K⟩:=Sl.len q
 obtain⟨f,g,i,rfl,rfl,C,D,E⟩:=Y1 w
 unfold M2 at b
 dsimp only at b
 refine Tr.forget (Z2 (args:=[.slice k d.length l,.agg #[.int .i64 f,.int .i64 g,.int .i64 i]]) (fn:=Tryz.f247) rfl ?_)
 obtain⟨m,s,b⟩:=C0 b
 refine eX { vars:=[8],boxes:=[],owns:=[],fuel:=true } (eX (λvs os h'=>∃ c,vs.tail = [.int .i64 c]/\os = []/\Sub h h'/\J0 c/\I1 d f g i (U1 vs) c=some m) (eX (λ_ _=>0) (aI (eX W0 ⟨0,rfl,rfl,(Sub.refl _),(by decide),s⟩) ?_)))
 rintro _ e J ⟨c,⟨⟩,⟨⟩,j,F,a⟩
 replace a:I1 d f g i e c=some m:=a
 obtain _|e:=e
 ·cases a
 rw[I1.eq_2]at a
 refine ifB a (λt a=>?_) λt a=>?_
 ·refine Or.inl (aI (aI (by kernel_rfl) (by kernel_rfl)) ?_)
  refine ld a (N0.mono j q) λL B x a=>?_
  obtain⟨y,z,A,rfl,rfl,G,H,I⟩:=Y1 x
  try dsimp only at a
  refine eX (eqE (f,g,i) (y,z,A)) (aI (I0o _ _ _ rfl _ _ _ _ _ _) ?_)
  refine ifB a (λu a=>?_) λu a=>?_
  ·obtain rfl:=oJ a
   try dsimp only[B4,I4]at b
   obtain rfl:=oJ b
   exact aI rfl j
  ·exact I2 e ⟨(IntKind.i64.wrap (c+1)),rfl,rfl,j,(O0 _),a⟩
 ·obtain rfl:=oJ a
  try dsimp only[Y0,Z0]at b
  obtain rfl:=oJ b
  exact aI rfl j
theorem Y01(h:Hp)(b:Option Addr)(f c:Nat)(d:V0)(i:N0.R h [.slice b f c] d)(e:List Value)(g:K0)(q:D1.R h e g)(r:Bool)(a:M3 d g=some r):
  Tr Tryz.prog 230 #[.slice b f c,.agg e.toArray] h λv h'=>v = .bool r/\h'=h:=by
 obtain⟨rfl,u⟩:=Sl.len i
 obtain⟨n,o,p,rfl,rfl,k,l,m⟩:=Y1 q
 unfold M3 at a
 dsimp only at a
 refine Tr.forget (Z2 (args:=[.slice b d.length c,.agg #[.int .i64 n,.int .i64 o,.int .i64 p]]) (fn:=Tryz.f230) rfl ?_)
 refine trV a (I9 _ _ _ _ _ i _ _ (L1 k l m)) λs a=>?_
 obtain⟨w,j,a⟩:=C0 a
 have t:J0 s:=C1 j
 obtain rfl:=oJ a
 exact aI rfl (Sub.refl _)
theorem U03(h:Hp)(c:Int)(k:J0 c)(e:Nat)(j:TypeId)(d:Int)(l:J0 d)(b:Int)(m:J0 b)(f:h e=some (.cells #[.int .i64 d,.int .i64 b] j (0,0)))(r:Int)(a:K6 c (d,b)=some r):
  Tr Tryz.prog 241 #[.int .i64 c,ptr e 0] h λv h'=>v = .int .i64 r/\h'=h:=by
 unfold K6 at a
 dsimp only at a
 refine Tr.forget (Z2 (args:=[.int .i64 c,ptr e 0]) (fn:=Tryz.f241) rfl ?_)
 refine eX (.int .i64 b) (aI ⟨rfl,by simp[Hp.cell,(f)]⟩ ?_)
 refine ifB a (λg a=>?_) λg a=>?_
 ·refine eX (.int .i64 d) (aI ⟨rfl,by simp[Hp.cell,(f)]⟩ ?_)
  obtain rfl:=oJ a
  exact aI rfl (Sub.refl _)
 ·refine eX (.int .i64 b) (aI ⟨rfl,by simp[Hp.cell,(f)]⟩ ?_)
  refine ifB a (λi a=>?_) λi a=>?_
  ·obtain rfl:=oJ a
   exact aI rfl (Sub.refl _)
  ·obtain rfl:=oJ a
   exact aI rfl (Sub.refl _)
theorem c09(h:Hp)(S:List Value)(al:l0)(a2:G1.R h S al)(s:Int)(V:J0 s)(B:Option Addr)(ak C:Nat)(t:M0)(J:P0.R h [.slice B ak C] t)(f:Int)(F:J0 f)(r:l0×Bool)(b:X00 al s t f=some r):
  Tr Tryz.prog 150 #[.agg S.toArray,.int .i64 s,.slice B ak C,.int .i64 f] h λv h'=>∃(Q:List Value),v = .tuple #[.agg Q.toArray,.bool r.2]/\New G1 h h' Q r.1:=by
 obtain⟨aZ,a0,aw,br,aA,a1,rfl,rfl,o,y,u⟩:=H0 a2
 obtain⟨rfl,bk⟩:=Sl.len u
 obtain⟨rfl,bl⟩:=Sl.len J
 unfold X00 at b
 dsimp only at b
 refine Z2 (args:=[.agg #[.int .i64 aZ,.int .i64 a0,.slice aw a1.length aA],.int .i64 s,.slice B t.length C,.int .i64 f]) (fn:=Tryz.f150) rfl ?_
 refine trM b (B5 _ _ _ (B0 o y u)) ?_
 rintro bd b bD aV ⟨U,bs,T,rfl,A⟩
 have w:Sub h aV:=A.sub
 have an:=A.r
 obtain⟨au,av,O⟩:=bd
 dsimp only at b A an
 obtain⟨_,_,_,_,_,_,aE,aF,Y,Z,a3⟩:=H0 an
 cases aE
 cases aF
 obtain⟨rfl,bn⟩:=Sl.len a3
 try dsimp only at b
 have ar:=New.sndI (New.sndI (A))
 refine trV b (q00 _ _ _ (B0 o y (N0.mono w u))) λbK b=>?_
 refine trG b (λq=>j01 _ _ _ (B0 o y (N0.mono w u)) _ V) λbL b=>?_
 refine trG b (λq=>j01 _ _ _ (B0 o y (N0.mono w u)) _ F) λbM b=>?_
 refine trG b (λq=>L00 _ _ o _ _ _ _ (P0.mono w J)) λbN b=>?_
 refine ifB b (λaS b=>?_) λaS b=>?_
 ·obtain rfl:=oJ b
  exact⟨([.int .i64 au,.int .i64 av,.slice (some ⟨U,0,none⟩) O.length T]),rfl,(New.pair (New.int Y) (New.pair (New.int Z) ar))⟩
 ·obtain⟨P,aN,b⟩:=C0 b
  refine eX { vars:=[11,66],boxes:=[2],owns:=[],fuel:=true } (eX (λvs os h'=>∃ x g d c E I H D e,vs.tail = [.int .i64 x,.int .i64 g,.int .i64 d,.int .i64 c,.slice (some ⟨E,I,none⟩) H D]/\os = []/\Sub h h'/\J0 x/\J0 g/\J0 d/\J0 c/\New N0 h h' [.slice (some ⟨E,I,none⟩) H D] e/\L6 t f (U1 vs) x g d c e=some P) (eX (λ_ _=>0) (aI (eX W0 ⟨s,0,au,av,U,0,O.length,T,O,rfl,rfl,w,V,(by decide),Y,Z,ar,aN⟩) ?_)))
  rintro _ _ _ _ _ p aU ⟨x,g,d,c,E,I,H,D,e,⟨⟩,⟨⟩,ao,W,bh,G,z,K,a⟩
  replace a:L6 t f p x g d c e=some P:=a
  obtain _|p:=p
  ·cases a
  rw[L6.eq_2]at a
  have am:=K.r
  obtain⟨rfl,bm⟩:=Sl.len am
  refine ifB a (λaQ a=>?_) λaQ a=>?_
  ·refine ldI a (P0.mono ao J) λbH X a=>?_
   refine ifB a (λaR a=>?_) λaR a=>?_
   ·refine Or.inr (Or.inr (Or.inl (aI (aI (by kernel_rfl) (by kernel_rfl)) ?_)))
    refine Or.inr ?_
    refine Or.inr ?_
    refine Or.inr ?_
    refine Or.inr ?_
    refine Or.inl (eX 1 (aI (aI rfl rfl) ?_))
    refine trM a (r06 _ _ W _ X _ z) ?_
    rintro bI a bB ag ⟨bf,rfl,a4,ap⟩
    obtain⟨i,j,k,rfl,rfl,aa,ab,ac⟩:=Y1 a4
    try dsimp only at a
    refine aI (aI rfl ap) (aI (by first|exact trivial|exact rfl) ?_)
    refine aT ?_
    obtain⟨bx,aJ,a⟩:=C0 a
    obtain⟨bb,a7,ai,ax⟩:=New.app K ap
    refine eX bb (aI a7 (aI (P1 aJ (by first|rw[ai,F2.length (show F2 (D1.R ag) ([[.int .i64 i,.int .i64 j,.int .i64 k]]:List (List Value)) [(i,j,k)] from⟨(L1 aa ab ac),trivial⟩)]|(rw[ai];rfl))) ?_))
    intro bF bi aO
    obtain⟨M,aL,aX,bu,aC,rfl⟩:=ax _ _ _ _ _ (F3.ofPlain (T05 _) (show F2 (D1.R ag) ([[.int .i64 i,.int .i64 j,.int .i64 k]]:List (List Value)) [(i,j,k)] from⟨(L1 aa ab ac),trivial⟩)) V5.ofPlain aO
    have a9:=M.r
    obtain⟨aG,bp⟩:=Sl.len a9
    subst aG
    refine aT ?_
    refine aT ?_
    exact I2 p ⟨c,(IntKind.i64.wrap (g+1)),d,(IntKind.i64.wrap (c+1)),aL,aX,(e ++ [(i,j,k)]).length,aC,(e ++ [(i,j,k)]),rfl,rfl,M.sub,z,(O0 _),G,(O0 _),M,a⟩
   ·refine Or.inr (Or.inr (Or.inl (aI (aI (by kernel_rfl) (by kernel_rfl)) ?_)))
    refine Or.inr ?_
    refine Or.inr ?_
    refine Or.inr ?_
    refine Or.inr ?_
    refine Or.inl (eX 1 (aI (aI rfl rfl) ?_))
    refine trM a (r06 _ _ W _ X _ F) ?_
    rintro bJ a bC ah ⟨bg,rfl,a5,aq⟩
    obtain⟨l,m,n,rfl,rfl,ad,ae,af⟩:=Y1 a5
    try dsimp only at a
    refine aI (aI rfl aq) (aI (by first|exact trivial|exact rfl) ?_)
    refine aT ?_
    obtain⟨bz,aK,a⟩:=C0 a
    obtain⟨bc,a8,aj,ay⟩:=New.app K aq
    refine eX bc (aI a8 (aI (P1 aK (by first|rw[aj,F2.length (show F2 (D1.R ah) ([[.int .i64 l,.int .i64 m,.int .i64 n]]:List (List Value)) [(l,m,n)] from⟨(L1 ad ae af),trivial⟩)]|(rw[aj];rfl))) ?_))
    intro bG bj aP
    obtain⟨N,aM,aY,bv,aD,rfl⟩:=ay _ _ _ _ _ (F3.ofPlain (T05 _) (show F2 (D1.R ah) ([[.int .i64 l,.int .i64 m,.int .i64 n]]:List (List Value)) [(l,m,n)] from⟨(L1 ad ae af),trivial⟩)) V5.ofPlain aP
    have ba:=N.r
    obtain⟨aH,bq⟩:=Sl.len ba
    subst aH
    refine aT ?_
    refine aT ?_
    exact I2 p ⟨f,(IntKind.i64.wrap (g+1)),d,c,aM,aY,(e ++ [(l,m,n)]).length,aD,(e ++ [(l,m,n)]),rfl,rfl,N.sub,F,(O0 _),G,z,N,a⟩
  ·obtain rfl:=oJ a
   try dsimp only[Y0,Z0]at b
   refine trM b (S02 _ _ _ _ _ am) ?_
   rintro be b bE aW ⟨az,bt,aB,rfl,L⟩
   have bA:Sub aU aW:=L.sub
   have a6:=L.r
   obtain⟨rfl,bo⟩:=Sl.len a6
   obtain rfl:=oJ b
   exact⟨([.int .i64 d,.int .i64 c,.slice az be.length aB]),rfl,(New.pair (New.int G) (New.pair (New.int z) (New.from L ao)))⟩
theorem W0d(h:Hp)(b:Int)(d:J0 b)(r:l0×Bool)(a:K01 b=some r):
  Tr Tryz.prog 217 #[.int .i64 b] h λv h'=>∃(c:List Value),v = .tuple #[.agg c.toArray,.bool r.2]/\New G1 h h' c r.1:=by
 unfold K01 at a
 refine Z2 (args:=[.int .i64 b]) (fn:=Tryz.f217) rfl ?_
 refine trV a (p8 _ _ d 1 (by decide) 3 (by decide)) λf a=>?_
 refine ifB a (λe a=>?_) λe a=>?_
 ·obtain rfl:=oJ a
  exact⟨([.int .i64 0,.int .i64 0,.slice none 0 0]),rfl,(New.pair (New.int (by decide)) (New.pair (New.int (by decide)) ((New.nilSlice (r:=D1)).mono (Sub.refl _))))⟩
 ·obtain rfl:=oJ a
  exact⟨([.int .i64 b,.int .i64 1,.slice none 0 0]),rfl,(New.pair (New.int d) (New.pair (New.int (by decide)) ((New.nilSlice (r:=D1)).mono (Sub.refl _))))⟩
theorem a08(h:Hp)(g:List Value)(j:l0)(A:G1.R h g j)(c:Option Addr)(i d:Nat)(e:M0)(l:P0.R h [.slice c i d] e)(r:l0×Bool)(a:y00 j e=some r):
  Tr Tryz.prog 218 #[.agg g.toArray,.slice c i d] h λv h'=>∃(f:List Value),v = .tuple #[.agg f.toArray,.bool r.2]/\New G1 h h' f r.1:=by
 obtain⟨x,y,m,M,o,z,rfl,rfl,q,s,k⟩:=H0 A
 obtain⟨rfl,J⟩:=Sl.len k
 obtain⟨rfl,K⟩:=Sl.len l
 unfold y00 at a
 dsimp only at a
 refine Z2 (args:=[.agg #[.int .i64 x,.int .i64 y,.slice m z.length o],.slice c e.length d]) (fn:=Tryz.f218) rfl ?_
 refine trM a (c09 _ _ _ (B0 q s k) 0 (by decide) _ _ _ _ l 0 (by decide)) ?_
 rintro E a P w ⟨I,rfl,b⟩
 obtain⟨Q,S⟩:=E
 dsimp only at a b
 have O:Sub h w:=b.sub
 have B:=b.r
 obtain⟨F,G,n,N,p,H,rfl,rfl,t,u,C⟩:=H0 B
 obtain⟨rfl,L⟩:=Sl.len C
 try dsimp only at a
 have D:=New.sndI (New.sndI (b))
 obtain rfl:=oJ a
 exact⟨([.int .i64 F,.int .i64 G,.slice n H.length p]),rfl,(New.pair (New.int t) (New.pair (New.int u) D))⟩
theorem X0d(h:Hp)(k:Int)(A:J0 k)(o:Option Addr)(C p:Nat)(j:E2)(u:I3.R h [.slice o C p] j)(r:l0×Bool)(b:L01 k j=some r):
  Tr Tryz.prog 134 #[.int .i64 k,.slice o C p] h λv h'=>∃(z:List Value),v = .tuple #[.agg z.toArray,.bool r.2]/\New G1 h h' z r.1:=by
 obtain⟨rfl,ap⟩:=Sl.len u
 unfold L01 at b
 refine Z2 (args:=[.int .i64 k,.slice o j.length p]) (fn:=Tryz.f134) rfl ?_
 refine trV b (Y07 _ _ A _ _ _ _ u) λaB b=>?_
 refine ifB b (λO b=>?_) λO b=>?_
 ·obtain rfl:=oJ b
  exact⟨([.int .i64 0,.int .i64 0,.slice none 0 0]),rfl,(New.pair (New.int (by decide)) (New.pair (New.int (by decide)) ((New.nilSlice (r:=D1)).mono (Sub.refl _))))⟩
 ·refine trM b (W0d _ _ A) ?_
  rintro ag b aA B ⟨am,rfl,n⟩
  obtain⟨aF,aG⟩:=ag
  dsimp only at b n
  have E:Sub h B:=n.sub
  have Y:=n.r
  obtain⟨ah,ai,I,ay,K,G,rfl,rfl,S,T,Z⟩:=H0 Y
  obtain⟨rfl,av⟩:=Sl.len Z
  try dsimp only at b
  have ac:=New.sndI (New.sndI (n))
  obtain⟨y,L,b⟩:=C0 b
  refine eX { vars:=[22],boxes:=[1],owns:=[],fuel:=true } (eX (λvs os h'=>∃ u8 e c f t g d,vs.tail = [.int .i64 u8,.int .i64 e,.int .i64 c,.slice f t g]/\os = []/\Sub B h'/\J0 u8/\J0 e/\J0 c/\New N0 h h' [.slice f t g] d/\l6 j (U1 vs) u8 e c d=some y) (eX (λ_ _=>0) (aI (eX W0 ⟨0,ah,ai,I,G.length,K,G,rfl,rfl,(Sub.refl _),(by decide),S,T,ac,L⟩) ?_)))
  rintro _ _ _ _ i U ⟨u8,e,c,f,t,g,d,⟨⟩,⟨⟩,l,ao,s,q,x,a⟩
  replace a:l6 j i u8 e c d=some y:=a
  obtain _|i:=i
  ·cases a
  rw[l6.eq_2]at a
  have D:=x.r
  obtain⟨rfl,aq⟩:=Sl.len D
  refine ifB a (λM a=>?_) λM a=>?_
  ·refine ld a (I3.mono (E.trans l) u) λaC ak w a=>?_
   obtain⟨aj,aw,an,rfl⟩:=Wp.slice_cell w
   obtain⟨rfl,ar⟩:=Sl.len w
   refine ifB a (λN a=>?_) λN a=>?_
   ·refine trM a (a08 _ _ _ (B0 s q D) _ _ _ _ w) ?_
    rintro ad a az V ⟨al,rfl,m⟩
    obtain⟨aD,aE⟩:=ad
    dsimp only at a m
    have aa:Sub U V:=m.sub
    have W:=m.r
    obtain⟨ae,af,H,ax,J,F,rfl,rfl,P,Q,X⟩:=H0 W
    obtain⟨rfl,au⟩:=Sl.len X
    try dsimp only at a
    have ab:=New.sndI (New.sndI (m))
    exact I2 i ⟨(IntKind.i64.wrap (u8+1)),ae,af,H,F.length,J,F,rfl,rfl,(l.trans aa),(O0 _),P,Q,(New.from ab (E.trans l)),a⟩
   ·exact I2 i ⟨(IntKind.i64.wrap (u8+1)),e,c,f,d.length,g,d,rfl,rfl,l,(O0 _),s,q,x,a⟩
  ·obtain rfl:=oJ a
   try dsimp only[Y0,Z0]at b
   obtain rfl:=oJ b
   exact⟨([.int .i64 e,.int .i64 c,.slice f d.length g]),rfl,(New.pair (New.int s) (New.pair (New.int q) x))⟩
theorem U0b(h:Hp)(G:List Value)(J:l0)(am:G1.R h G J)(r:p6)(t:B02 J=some r):
  Tr Tryz.prog 172 #[.agg G.toArray] h λv h'=>∃(E:Option Addr) (I F:Nat),v = .slice E I F/\u0a.R h' [.slice E I F] r/\Sub h h':=by
 obtain⟨aj,ak,N,aK,P,A,rfl,rfl,az,aA,B⟩:=H0 am
 obtain⟨rfl,aG⟩:=Sl.len B
 unfold B02 at t
 dsimp only at t
 refine Z2 (args:=[.agg #[.int .i64 aj,.int .i64 ak,.slice N A.length P]]) (fn:=Tryz.f172) rfl ?_
 obtain⟨C,Z,t⟩:=C0 t
 refine eX { vars:=[12],boxes:=[],owns:=[0],fuel:=true } (eX (λvs os h'=>∃ u z w,vs.tail = [.int .i64 u]/\os = [z]/\Sub h h'/\J0 u/\F2 (Q3.R h') z w/\A9 A (U1 vs) u w=some C) (eX (λ_ _=>0) (aI (eX W0 ⟨0,[],([]:p6),rfl,rfl,(Sub.refl _),(by decide),(show F2 (Q3.R h) ([]:List (List Value)) ([]:p6) from trivial),Z⟩) ?_)))
 rintro _ z x ai ⟨u,aU,w,⟨⟩,⟨⟩,y,aC,H,f⟩
 replace f:A9 A x u w=some C:=f
 obtain _|x:=x
 ·cases f
 rw[A9.eq_2]at f
 refine ifB f (λag f=>?_) λag f=>?_
 ·refine ld f (N0.mono y B) λaR ax ao f=>?_
  obtain⟨c,L,a,rfl,rfl,p,aE,j⟩:=Y1 ao
  try dsimp only at f
  obtain⟨M,Y,f⟩:=C0 f
  obtain⟨al,ar,S,U⟩:=Sl.cutI (r:=D1.toRp) (N0.mono y B) Y
  refine aI al (eX ar (aI S ?_))
  intro au ah _
  obtain⟨av,ay,rfl,K⟩:=U au ah
  have aH:=(Sl.len K).2
  obtain⟨D,aa,f⟩:=C0 f
  refine eX { vars:=[23],boxes:=[],owns:=[0],fuel:=true } (eX (λvs os h'=>∃ k n l,vs.tail = [.int .i64 k]/\os = [n]/\Sub ai h'/\J0 k/\F2 (Q3.R h') n l/\w5 M L c a (U1 vs) k l=some D) (eX (λ_ _=>0) (aI (eX W0 ⟨0,z,w,rfl,rfl,(Sub.refl _),(by decide),H,aa⟩) ?_)))
  rintro _ n q m ⟨k,aS,l,⟨⟩,⟨⟩,s,aB,g,e⟩
  replace e:w5 M L c a q k l=some D:=e
  obtain _|q:=q
  ·cases e
  rw[w5.eq_2]at e
  refine ifB e (λab e=>?_) λab e=>?_
  ·refine ld e (N0.mono s K) λaP aw an e=>?_
   obtain⟨d,aQ,b,rfl,rfl,o,aD,i⟩:=Y1 an
   try dsimp only at e
   refine ifB e (λac e=>?_) λac e=>?_
   ·exact I2 q ⟨(IntKind.i64.wrap (k+1)),n,l,rfl,rfl,s,(O0 _),g,e⟩
   ·refine ifB e (λad e=>?_) λad e=>?_
    ·obtain⟨aL,V,e⟩:=C0 e
     refine aI (P1 V (by first|rw[F2.length g,F2.length (show F2 (Q3.R m) ([[.int .i64 (if b<a then b else a),.int .i64 (if b>a then b else a)]]:List (List Value)) [((if b<a then b else a),(if b>a then b else a))] from⟨(C2 (Y8 i j) (Y8 i j)),trivial⟩)]|exact congrArg (·+1) (F2.length g))) ?_
     refine ifB e (λae e=>?_) λae e=>?_
     ·obtain⟨aM,W,e⟩:=C0 e
      refine aI (P1 W (by first|rw[F2.length (F2.append g (show F2 (Q3.R m) ([[.int .i64 (if b<a then b else a),.int .i64 (if b>a then b else a)]]:List (List Value)) [((if b<a then b else a),(if b>a then b else a))] from⟨(C2 (Y8 i j) (Y8 i j)),trivial⟩)),F2.length (show F2 (Q3.R m) ([[.int .i64 (if d<c then d else c),.int .i64 (if d>c then d else c)]]:List (List Value)) [((if d<c then d else c),(if d>c then d else c))] from⟨(C2 (Y8 o p) (Y8 o p)),trivial⟩)]|exact congrArg (·+1) (F2.length (F2.append g (show F2 (Q3.R m) ([[.int .i64 (if b<a then b else a),.int .i64 (if b>a then b else a)]]:List (List Value)) [((if b<a then b else a),(if b>a then b else a))] from⟨(C2 (Y8 i j) (Y8 i j)),trivial⟩))))) ?_
      exact I2 q ⟨(IntKind.i64.wrap (k+1)),((n++([[.int .i64 (if b<a then b else a),.int .i64 (if b>a then b else a)]]:List (List Value)))++([[.int .i64 (if d<c then d else c),.int .i64 (if d>c then d else c)]]:List (List Value))),((l ++ [((if b<a then b else a),(if b>a then b else a))]) ++ [((if d<c then d else c),(if d>c then d else c))]),rfl,rfl,s,(O0 _),(F2.append (F2.append g (show F2 (Q3.R m) ([[.int .i64 (if b<a then b else a),.int .i64 (if b>a then b else a)]]:List (List Value)) [((if b<a then b else a),(if b>a then b else a))] from⟨(C2 (Y8 i j) (Y8 i j)),trivial⟩)) (show F2 (Q3.R m) ([[.int .i64 (if d<c then d else c),.int .i64 (if d>c then d else c)]]:List (List Value)) [((if d<c then d else c),(if d>c then d else c))] from⟨(C2 (Y8 o p) (Y8 o p)),trivial⟩)),e⟩
     ·exact I2 q ⟨(IntKind.i64.wrap (k+1)),(n++([[.int .i64 (if b<a then b else a),.int .i64 (if b>a then b else a)]]:List (List Value))),(l ++ [((if b<a then b else a),(if b>a then b else a))]),rfl,rfl,s,(O0 _),(F2.append g (show F2 (Q3.R m) ([[.int .i64 (if b<a then b else a),.int .i64 (if b>a then b else a)]]:List (List Value)) [((if b<a then b else a),(if b>a then b else a))] from⟨(C2 (Y8 i j) (Y8 i j)),trivial⟩)),e⟩
    ·refine ifB e (λaf e=>?_) λaf e=>?_
     ·obtain⟨aN,X,e⟩:=C0 e
      refine aI (P1 X (by first|rw[F2.length g,F2.length (show F2 (Q3.R m) ([[.int .i64 (if d<c then d else c),.int .i64 (if d>c then d else c)]]:List (List Value)) [((if d<c then d else c),(if d>c then d else c))] from⟨(C2 (Y8 o p) (Y8 o p)),trivial⟩)]|exact congrArg (·+1) (F2.length g))) ?_
      exact I2 q ⟨(IntKind.i64.wrap (k+1)),(n++([[.int .i64 (if d<c then d else c),.int .i64 (if d>c then d else c)]]:List (List Value))),(l ++ [((if d<c then d else c),(if d>c then d else c))]),rfl,rfl,s,(O0 _),(F2.append g (show F2 (Q3.R m) ([[.int .i64 (if d<c then d else c),.int .i64 (if d>c then d else c)]]:List (List Value)) [((if d<c then d else c),(if d>c then d else c))] from⟨(C2 (Y8 o p) (Y8 o p)),trivial⟩)),e⟩
     ·exact I2 q ⟨(IntKind.i64.wrap (k+1)),n,l,rfl,rfl,s,(O0 _),g,e⟩
  ·obtain rfl:=oJ e
   try dsimp only[Y0,Z0]at f
   exact I2 x ⟨(IntKind.i64.wrap (u+1)),n,l,rfl,rfl,(y.trans s),(O0 _),g,f⟩
 ·obtain rfl:=oJ f
  try dsimp only[Y0,Z0]at t
  intro aO aF T
  obtain⟨O,Q,rfl,ap,aq,aJ⟩:=E1.out (r:=Q3.toRp) T H
  obtain rfl:=oJ t
  exact⟨O,w.length,Q,rfl,ap,(y.trans aq)⟩
theorem X0c(h:Hp)(d:List Value)(g:l0)(u:G1.R h d g)(r:S4×Bool)(a:g00 g=some r):
  Tr Tryz.prog 265 #[.agg d.toArray] h λv h'=>∃(c:List Value),v = .tuple #[.agg c.toArray,.bool r.2]/\Q3.R h' c r.1/\Sub h h':=by
 obtain⟨q,s,k,F,l,t,rfl,rfl,e,f,b⟩:=H0 u
 obtain⟨rfl,D⟩:=Sl.len b
 unfold g00 at a
 dsimp only at a
 refine Z2 (args:=[.agg #[.int .i64 q,.int .i64 s,.slice k t.length l]]) (fn:=Tryz.f265) rfl ?_
 refine trV a (q00 _ _ _ (B0 e f b)) λI a=>?_
 refine ifB a (λm a=>?_) λm a=>?_
 ·obtain rfl:=oJ a
  exact⟨([.int .i64 0,.int .i64 0]),rfl,(C2 (by decide) (by decide)),(Sub.refl _)⟩
 ·refine trM a (U0b _ _ _ (B0 e f b)) ?_
  rintro J a H C ⟨z,G,B,rfl,i,j⟩
  obtain⟨rfl,E⟩:=Sl.len i
  refine ifB a (λn a=>?_) λn a=>?_
  ·obtain rfl:=oJ a
   exact⟨([.int .i64 0,.int .i64 0]),rfl,(C2 (by decide) (by decide)),j⟩
  ·refine ld a i λK A w a=>?_
   obtain⟨x,y,rfl,rfl,o,p⟩:=R00 w
   try dsimp only at a
   obtain rfl:=oJ a
   exact⟨([.int .i64 x,.int .i64 y]),rfl,(C2 o p),j⟩
theorem r02(h:Hp)(B:List Value)(K:l0)(ay:G1.R h B K)(C:List Value)(L:S4)(az:Q3.R h C L)(r:l0×Bool)(b:O4 K L=some r):
  Tr Tryz.prog 173 #[.agg B.toArray,.agg C.toArray] h λv h'=>∃(A:List Value),v = .tuple #[.agg A.toArray,.bool r.2]/\New G1 h h' A r.1:=by
 obtain⟨av,aw,S,aY,V,ax,rfl,rfl,E,F,t⟩:=H0 ay
 obtain⟨rfl,aV⟩:=Sl.len t
 obtain⟨d,f,rfl,rfl,G,H⟩:=R00 az
 unfold O4 at b
 dsimp only at b
 refine Z2 (args:=[.agg #[.int .i64 av,.int .i64 aw,.slice S ax.length V],.agg #[.int .i64 d,.int .i64 f]]) (fn:=Tryz.f173) rfl ?_
 refine trM b (B5 _ _ _ (B0 E F t)) ?_
 rintro aH b a6 J ⟨o,aZ,D,rfl,n⟩
 have N:Sub h J:=n.sub
 have M:=n.r
 obtain⟨P,Q,k⟩:=aH
 dsimp only at b n M
 obtain⟨_,_,_,_,_,_,X,Y,I,am,aB⟩:=H0 M
 cases X
 cases Y
 obtain⟨rfl,aW⟩:=Sl.len aB
 try dsimp only at b
 have w:=New.sndI (New.sndI (n))
 refine trV b (q00 _ _ _ (B0 E F (N0.mono N t))) λbf b=>?_
 refine ifB b (λag b=>?_) λag b=>?_
 ·obtain rfl:=oJ b
  exact⟨([.int .i64 P,.int .i64 Q,.slice (some ⟨o,0,none⟩) k.length D]),rfl,(New.pair (New.int I) (New.pair (New.int am) w))⟩
 ·intro c q
  have Z:(Hp.set J c (.cells #[.int .i64 d,.int .i64 f] 155 (0,0))) c=some (.cells #[.int .i64 d,.int .i64 f] 155 (0,0)):=Hp.set_same _ _ _
  have au:c≠o:=λe=>New.blk w (Sub.refl _) (e▸q)
  obtain⟨z,ae,b⟩:=C0 b
  refine eX { vars:=[39],boxes:=[],owns:=[],fuel:=true } (eX (λvs os h'=>∃ g i,vs.tail = [.int .i64 g]/\os = []/\Sub h h'/\J0 g/\New N0 h h' [.slice (some ⟨o,0,none⟩) k.length D] i/\h' c=some (.cells #[.int .i64 d,.int .i64 f] 155 (0,0))/\N4 k d f (U1 vs) g i=some z) (eX (λ_ _=>0) (aI (eX W0 ⟨0,k,rfl,rfl,(N.trans (Sub.set q)),(by decide),(New.mono w (Sub.set q)),Z,ae⟩) ?_)))
  rintro _ m ao ⟨g,i,⟨⟩,⟨⟩,aG,aN,O,s,a⟩
  replace a:N4 k d f m g i=some z:=a
  obtain _|m:=m
  ·cases a
  rw[N4.eq_2]at a
  have u:=O.r
  refine ifB a (λaf a=>?_) λaf a=>?_
  ·refine ld a u λa8 aK aA a=>?_
   obtain⟨a9,y,ba,rfl,rfl,ai,aj,ak⟩:=Y1 aA
   try dsimp only at a
   refine Or.inr (Or.inr (Or.inl (aI (aI (by kernel_rfl) (by kernel_rfl)) ?_)))
   obtain⟨j,ac,a⟩:=C0 a
   obtain⟨a1,aa,a⟩:=C0 a
   have al:J0 j:=C1 aa
   refine Or.inl (eX (.val (.int .i64 j)) (aI ?_ ?_))
   ·intro aR aE
    exact Tr.val (U03 _ _ ai c 155 _ G _ H (aE _ _ s) _ ac) (aI rfl (aI rfl rfl))
   obtain⟨l,ad,a⟩:=C0 a
   obtain⟨a2,ab,a⟩:=C0 a
   have an:J0 l:=C1 ab
   refine Or.inl (eX (.val (.int .i64 l)) (aI ?_ ?_))
   ·intro aS aF
    exact Tr.val (U03 _ _ ak c 155 _ G _ H (aF _ _ s) _ ad) (aI rfl (aI rfl rfl))
   refine Or.inl (eX (.agg [.val (.int .i64 j),.val (.int .i64 y),.val (.int .i64 l)]) (aI ?_ ?_))
   ·intro aU a4
    exact aI rfl (aI rfl rfl)
   refine Or.inr ?_
   refine Or.inr ?_
   refine Or.inl (eX 0 (aI (aI rfl rfl) ?_))
   obtain⟨bb,p,a⟩:=C0 a
   obtain⟨U,aL,aM,aC⟩:=Sl.getI (r:=D1.toRp) u p (by decide)
   refine aI U ?_
   obtain⟨bc,bd,be,rfl,rfl,aO,aP,aQ⟩:=Y1 aC
   try dsimp only at a
   refine aT ?_
   refine New.put (r:=D1) O (Sub.refl _) (M0s p).1 (new:=[.int .i64 j,.int .i64 y,.int .i64 l]) (By:=[]) (T05 _ _ _ (L1 al aj an)) (V5.nil _) rfl (M0s p).2 ?_
   intro ap w28 ar _
   have a3:=w28.r
   have ah:ap c=some (.cells #[.int .i64 d,.int .i64 f] 155 (0,0)):=(ar c au).trans s
   refine aT ?_
   exact I2 m ⟨(IntKind.i64.wrap (g+1)),(i.set g.toNat (j,y,l)),rfl,rfl,w28.sub,(O0 _),w28,(ah),a⟩
  ·obtain rfl:=oJ a
   try dsimp only[Y0,Z0]at b
   refine trM b (S02 _ _ _ _ _ u) ?_
   rintro aJ b a7 aq ⟨T,a0,W,rfl,x⟩
   have a5:Sub ao aq:=x.sub
   have aD:=x.r
   obtain⟨rfl,aX⟩:=Sl.len aD
   obtain rfl:=oJ b
   exact⟨([.int .i64 P,.int .i64 (IntKind.i64.wrap (Q-1)),.slice T aJ.length W]),rfl,(New.pair (New.int I) (New.pair (New.int (O0 _)) (New.from x aG)))⟩
theorem Y0d(h:Hp)(k:List Value)(o:l0)(L:G1.R h k o)(r:l0×S4×Bool)(a:M01 o=some r):
  Tr Tryz.prog 219 #[.agg k.toArray] h λv h'=>∃(i:List Value) (j:List Value),v = .tuple #[.agg i.toArray,.agg j.toArray,.bool r.2.2]/\New G1 h h' i r.1/\Q3.R h' j r.2.1:=by
 obtain⟨I,J,s,ai,u,K,rfl,rfl,f,g,b⟩:=H0 L
 obtain⟨rfl,af⟩:=Sl.len b
 unfold M01 at a
 dsimp only at a
 refine Z2 (args:=[.agg #[.int .i64 I,.int .i64 J,.slice s K.length u]]) (fn:=Tryz.f219) rfl ?_
 refine trM a (X0c _ _ _ (B0 f g b)) ?_
 rintro S a ao n ⟨ad,rfl,p,c⟩
 obtain⟨aq,ar⟩:=S
 dsimp only at a p
 obtain⟨T,U,rfl,rfl,l,m⟩:=R00 p
 try dsimp only at a
 refine ifB a (λB a=>?_) λB a=>?_
 ·refine trM a (B5 _ _ _ (B0 f g (N0.mono c b))) ?_
  rintro V a ap H ⟨A,aj,w,rfl,d⟩
  have al:Sub n H:=d.sub
  have q:=d.r
  obtain⟨W,X,Y⟩:=V
  dsimp only at a d q
  obtain⟨_,_,_,_,_,_,y,z,C,D,M⟩:=H0 q
  cases y
  cases z
  obtain⟨rfl,ag⟩:=Sl.len M
  try dsimp only at a
  have Q:=New.sndI (New.sndI (d))
  obtain rfl:=oJ a
  exact⟨([.int .i64 W,.int .i64 X,.slice (some ⟨A,0,none⟩) Y.length w]),([.int .i64 0,.int .i64 0]),rfl,(New.pair (New.int C) (New.pair (New.int D) (New.from Q c))),(C2 (by decide) (by decide))⟩
 ·refine trM a (r02 _ _ _ (B0 f g (N0.mono c b)) _ _ (C2 l m)) ?_
  rintro Z a an G ⟨ae,rfl,e⟩
  obtain⟨au,av⟩:=Z
  dsimp only at a e
  have am:Sub n G:=e.sub
  have N:=e.r
  obtain⟨aa,ab,t,ak,x,ac,rfl,rfl,E,F,O⟩:=H0 N
  obtain⟨rfl,ah⟩:=Sl.len O
  try dsimp only at a
  have P:=New.sndI (New.sndI (e))
  refine Or.inr (Or.inr (Or.inl (aI (aI (by kernel_rfl) (by kernel_rfl)) ?_)))
  refine Or.inr ?_
  refine Or.inr ?_
  refine Or.inl (eX 0 (aI (aI rfl rfl) ?_))
  refine aT ?_
  refine aT ?_
  obtain rfl:=oJ a
  exact⟨([.int .i64 aa,.int .i64 ab,.slice t ac.length x]),([.int .i64 T,.int .i64 U]),rfl,(New.pair (New.int E) (New.pair (New.int F) (New.from P c))),(C2 l m)⟩
theorem z0g(h:Hp)(z:List Value)(F:l0)(an:G1.R h z F)(r:l0×p6)(b:m02 F=some r):
  Tr Tryz.prog 135 #[.agg z.toArray] h λv h'=>∃(y:List Value) (w:Option Addr) (E x:Nat),v = .tuple #[.agg y.toArray,.slice w E x]/\New G1 h h' y r.1/\u0a.R h' [.slice w E x] r.2:=by
 obtain⟨ak,al,O,aN,S,am,rfl,rfl,ad,ae,G⟩:=H0 an
 obtain⟨rfl,aH⟩:=Sl.len G
 unfold m02 at b
 dsimp only at b
 refine Z2 (args:=[.agg #[.int .i64 ak,.int .i64 al,.slice O am.length S]]) (fn:=Tryz.f135) rfl ?_
 refine trM b (B5 _ _ _ (B0 ad ae G)) ?_
 rintro ay b aU s ⟨aa,aP,U,rfl,o⟩
 have au:Sub h s:=o.sub
 have I:=o.r
 obtain⟨aC,aD,N⟩:=ay
 dsimp only at b o I
 obtain⟨_,_,_,_,_,_,W,X,ah,ai,aq⟩:=H0 I
 cases W
 cases X
 obtain⟨rfl,aL⟩:=Sl.len aq
 try dsimp only at b
 have ax:=New.sndI (New.sndI (o))
 obtain⟨u,ab,b⟩:=C0 b
 refine eX { vars:=[],boxes:=[2],owns:=[0],fuel:=true } (eX (λvs os h'=>∃ d e j t k u8 n f,vs.tail = [.int .i64 d,.int .i64 e,.slice j t k]/\os = [n]/\Sub s h'/\J0 d/\J0 e/\New N0 h h' [.slice j t k] u8/\F2 (Q3.R h') n f/\Y7 (U1 vs) d e u8 f=some u) (eX (λ_ _=>0) (aI (eX W0 ⟨aC,aD,(some ⟨aa,0,none⟩),N.length,U,N,[],([]:p6),rfl,rfl,(Sub.refl _),ah,ai,ax,(show F2 (Q3.R s) ([]:List (List Value)) ([]:p6) from trivial),ab⟩) ?_)))
 rintro _ _ _ n m aj ⟨d,e,j,t,k,u8,aY,f,⟨⟩,⟨⟩,K,A,B,L,l,a⟩
 replace a:Y7 m d e u8 f=some u:=a
 obtain _|m:=m
 ·cases a
 rw[Y7.eq_2]at a
 have H:=L.r
 obtain⟨rfl,aJ⟩:=Sl.len H
 refine trM a (Y0d _ _ _ (B0 A B H)) ?_
 rintro az a aR q ⟨aE,aF,rfl,p,J⟩
 obtain⟨aV,aW,aX⟩:=az
 dsimp only at a p J
 have c:Sub aj q:=p.sub
 have ao:=p.r
 obtain⟨aA,aB,P,aO,T,M,rfl,rfl,af,ag,ap⟩:=H0 ao
 obtain⟨rfl,aK⟩:=Sl.len ap
 try dsimp only at a
 have aw:=New.sndI (New.sndI (p))
 obtain⟨g,i,rfl,rfl,C,D⟩:=R00 J
 try dsimp only at a
 refine ifB a (λac a=>?_) λac a=>?_
 ·intro aS aG Y
  obtain⟨Q,V,rfl,ar,av,aM⟩:=E1.out (r:=Q3.toRp) Y (F2.up (r:=Q3.toRp) c l)
  obtain rfl:=oJ a
  try dsimp only[B4,I4]at b
  obtain rfl:=oJ b
  exact⟨([.int .i64 d,.int .i64 e,.slice j u8.length k]),Q,f.length,V,rfl,(New.pair (New.int A) (New.pair (New.int B) (New.mono L (c.trans av)))),ar⟩
 ·obtain⟨aQ,Z,a⟩:=C0 a
  refine aI (P1 Z (by first|rw[F2.length (F2.up (r:=Q3.toRp) c l),F2.length (show F2 (Q3.R q) ([[.int .i64 g,.int .i64 i]]:List (List Value)) [(g,i)] from⟨(C2 C D),trivial⟩)]|exact congrArg (·+1) (F2.length (F2.up (r:=Q3.toRp) c l)))) ?_
  exact I2 m ⟨aA,aB,P,M.length,T,M,(n++([[.int .i64 g,.int .i64 i]]:List (List Value))),(f ++ [(g,i)]),rfl,rfl,(K.trans c),af,ag,(New.from aw (au.trans K)),(F2.append (F2.up (r:=Q3.toRp) c l) (show F2 (Q3.R q) ([[.int .i64 g,.int .i64 i]]:List (List Value)) [(g,i)] from⟨(C2 C D),trivial⟩)),a⟩
theorem Y0c(h:Hp)(e:List Value)(l:l0)(D:G1.R h e l)(r:l0×Bool)(a:Y00 l=some r):
  Tr Tryz.prog 151 #[.agg e.toArray] h λv h'=>∃(d:List Value),v = .tuple #[.agg d.toArray,.bool r.2]/\New G1 h h' d r.1:=by
 obtain⟨A,B,s,J,t,C,rfl,rfl,i,j,c⟩:=H0 D
 obtain⟨rfl,H⟩:=Sl.len c
 unfold Y00 at a
 dsimp only at a
 refine Z2 (args:=[.agg #[.int .i64 A,.int .i64 B,.slice s C.length t]]) (fn:=Tryz.f151) rfl ?_
 refine trM a (B5 _ _ _ (B0 i j c)) ?_
 rintro G a L z ⟨g,K,f,rfl,b⟩
 have F:Sub h z:=b.sub
 have m:=b.r
 obtain⟨o,p,q⟩:=G
 dsimp only at a b m
 obtain⟨_,_,_,_,_,_,u,w,k,y,E⟩:=H0 m
 cases u
 cases w
 obtain⟨rfl,I⟩:=Sl.len E
 try dsimp only at a
 have n:=New.sndI (New.sndI (b))
 refine trV a (q00 _ _ _ (B0 i j (N0.mono F c))) λM a=>?_
 refine ifB a (λx a=>?_) λx a=>?_
 ·obtain rfl:=oJ a
  exact⟨([.int .i64 o,.int .i64 p,.slice (some ⟨g,0,none⟩) q.length f]),rfl,(New.pair (New.int k) (New.pair (New.int y) n))⟩
 ·obtain rfl:=oJ a
  exact⟨([.int .i64 o,.int .i64 (IntKind.i64.wrap (p+1)),.slice (some ⟨g,0,none⟩) q.length f]),rfl,(New.pair (New.int k) (New.pair (New.int (O0 _)) n))⟩
theorem H09(h:Hp)(D:List Value)(I:l0)(ad:G1.R h D I)(r:V0)(c:K8 I=some r):
  Tr Tryz.prog 143 #[.agg D.toArray] h λv h'=>∃(B:Option Addr) (H C:Nat),v = .slice B H C/\N0.R h' [.slice B H C] r/\Sub h h':=by
 obtain⟨l,m,L,aw,O,n,rfl,rfl,s,F,w⟩:=H0 ad
 obtain⟨rfl,aq⟩:=Sl.len w
 unfold K8 at c
 dsimp only at c
 refine Z2 (args:=[.agg #[.int .i64 l,.int .i64 m,.slice L n.length O]]) (fn:=Tryz.f143) rfl ?_
 refine trV c (O9 _ _ _ (B0 s F w)) λaD c=>?_
 refine ifB c (λZ c=>?_) λZ c=>?_
 ·intro aB ap T
  obtain⟨N,Q,rfl,af,ah,av⟩:=E1.out (r:=D1.toRp) T (show F2 (D1.R h) ([]:List (List Value)) ([]:V0) from trivial)
  obtain rfl:=oJ c
  exact⟨N,(([]:V0)).length,Q,rfl,af,ah⟩
 ·obtain⟨A,X,c⟩:=C0 c
  refine eX { vars:=[4],boxes:=[],owns:=[0],fuel:=true } (eX (λvs os h'=>∃ u8 q f,vs.tail = [.int .i64 u8]/\os = [q]/\Sub h h'/\J0 u8/\F2 (D1.R h') q f/\Z4 m l n (U1 vs) u8 f=some A) (eX (λ_ _=>0) (aI (eX W0 ⟨0,[],([]:V0),rfl,rfl,(Sub.refl _),(by decide),(show F2 (D1.R h) ([]:List (List Value)) ([]:V0) from trivial),X⟩) ?_)))
  rintro _ q p an ⟨u8,aF,f,⟨⟩,⟨⟩,x,t,E,b⟩
  replace b:Z4 m l n p u8 f=some A:=b
  obtain _|p:=p
  ·cases b
  rw[Z4.eq_2]at b
  refine ifB b (λY b=>?_) λY b=>?_
  ·refine trM b (Z08 _ _ s) ?_
   rintro K b aA ac ⟨aj,ax,ak,rfl,J,y⟩
   obtain⟨rfl,ar⟩:=Sl.len J
   obtain⟨z,W,b⟩:=C0 b
   refine eX { vars:=[22],boxes:=[],owns:=[0],fuel:=true } (eX (λvs os h'=>∃ d g e,vs.tail = [.int .i64 d]/\os = [g]/\Sub ac h'/\J0 d/\F2 (D1.R h') g e/\W3 K l m n u8 (U1 vs) d e=some z) (eX (λ_ _=>0) (aI (eX W0 ⟨0,q,f,rfl,rfl,(Sub.refl _),(by decide),(F2.up (r:=D1.toRp) y E),W⟩) ?_)))
   rintro _ g k G ⟨d,aE,e,⟨⟩,⟨⟩,o,al,j,a⟩
   replace a:W3 K l m n u8 k d e=some z:=a
   obtain _|k:=k
   ·cases a
   rw[W3.eq_2]at a
   refine ifB a (λaa a=>?_) λaa a=>?_
   ·refine ldI a (P0.mono o J) λi u a=>?_
    refine trV a (w7 _ _ _ (B0 s F (N0.mono ((x.trans y).trans o) w)) _ t _ u) λai a=>?_
    obtain⟨ay,U,a⟩:=C0 a
    have am:J0 ai:=C1 U
    refine ifB a (λab a=>?_) λab a=>?_
    ·obtain⟨az,V,a⟩:=C0 a
     refine aI (P1 V (by first|rw[F2.length j,F2.length (show F2 (D1.R G) ([[.int .i64 u8,.int .i64 i,.int .i64 (-1)]]:List (List Value)) [(u8,i,(-1))] from⟨(L1 t u (by decide)),trivial⟩)]|exact congrArg (·+1) (F2.length j))) ?_
     exact I2 k ⟨(IntKind.i64.wrap (d+1)),(g++([[.int .i64 u8,.int .i64 i,.int .i64 (-1)]]:List (List Value))),(e ++ [(u8,i,(-1))]),rfl,rfl,o,(O0 _),(F2.append j (show F2 (D1.R G) ([[.int .i64 u8,.int .i64 i,.int .i64 (-1)]]:List (List Value)) [(u8,i,(-1))] from⟨(L1 t u (by decide)),trivial⟩)),a⟩
    ·exact I2 k ⟨(IntKind.i64.wrap (d+1)),g,e,rfl,rfl,o,(O0 _),j,a⟩
   ·obtain rfl:=oJ a
    try dsimp only[Y0,Z0]at b
    exact I2 p ⟨(IntKind.i64.wrap (u8+1)),g,e,rfl,rfl,((x.trans y).trans o),(O0 _),j,b⟩
  ·obtain rfl:=oJ b
   try dsimp only[Y0,Z0]at c
   intro aC ao S
   obtain⟨M,P,rfl,ae,ag,au⟩:=E1.out (r:=D1.toRp) S E
   obtain rfl:=oJ c
   exact⟨M,f.length,P,rfl,ae,(x.trans ag)⟩
theorem k01(h:Hp)(f:List Value)(j:l0)(H:G1.R h f j)(r:l0)(a:A5 j=some r):
  Tr Tryz.prog 88 #[.agg f.toArray] h λv h'=>∃(e:List Value),v = .agg e.toArray/\New G1 h h' e r:=by
 obtain⟨E,F,p,am,s,G,rfl,rfl,u,w,k⟩:=H0 H
 obtain⟨rfl,ag⟩:=Sl.len k
 unfold A5 at a
 dsimp only at a
 refine Z2 (args:=[.agg #[.int .i64 E,.int .i64 F,.slice p G.length s]]) (fn:=Tryz.f88) rfl ?_
 refine trM a (z0g _ _ _ (B0 u w k)) ?_
 rintro P a aw g ⟨Z,W,ao,ad,rfl,b,m⟩
 obtain⟨aA,aE⟩:=P
 dsimp only at a b m
 have M:Sub h g:=b.sub
 have I:=b.r
 obtain⟨aB,aC,V,an,ac,aD,rfl,rfl,x,y,l⟩:=H0 I
 obtain⟨rfl,ah⟩:=Sl.len l
 try dsimp only at a
 have ay:=New.sndI (New.sndI (b))
 obtain⟨rfl,ai⟩:=Sl.len m
 refine trM a (m07 _ _ _ (B0 x y l)) ?_
 rintro Q a ax i ⟨aa,Y,aq,af,rfl,c,o⟩
 obtain⟨aF,aK⟩:=Q
 dsimp only at a c o
 have N:Sub g i:=c.sub
 have J:=c.r
 obtain⟨aG,aH,X,ap,ae,aJ,rfl,rfl,z,A,n⟩:=H0 J
 obtain⟨rfl,aj⟩:=Sl.len n
 try dsimp only at a
 have az:=New.sndI (New.sndI (c))
 obtain⟨rfl,ak⟩:=Sl.len o
 refine trM a (b04 _ _ _ (B0 z A n)) ?_
 rintro aL a av D ⟨ab,rfl,d⟩
 have au:Sub i D:=d.sub
 have K:=d.r
 obtain⟨S,T,q,ar,t,U,rfl,rfl,B,C,L⟩:=H0 K
 obtain⟨rfl,al⟩:=Sl.len L
 try dsimp only at a
 have O:=New.sndI (New.sndI (d))
 obtain rfl:=oJ a
 exact⟨([.int .i64 S,.int .i64 T,.slice q U.length t]),rfl,(New.pair (New.int B) (New.pair (New.int C) (New.from O (M.trans N))))⟩
theorem j03(h:Hp)(e:List Value)(g:l0)(w:G1.R h e g)(b:Option Addr)(f c:Nat)(d:M0)(j:P0.R h [.slice b f c] d)(r:Bool)(a:P5 g d=some r):
  Tr Tryz.prog 144 #[.agg e.toArray,.slice b f c] h λv h'=>v = .bool r/\h'=h:=by
 obtain⟨s,t,k,E,l,u,rfl,rfl,p,q,i⟩:=H0 w
 obtain⟨rfl,C⟩:=Sl.len i
 obtain⟨rfl,D⟩:=Sl.len j
 unfold P5 at a
 dsimp only at a
 refine Tr.forget (Z2 (args:=[.agg #[.int .i64 s,.int .i64 t,.slice k u.length l],.slice b d.length c]) (fn:=Tryz.f144) rfl ?_)
 obtain⟨x,o,a⟩:=C0 a
 obtain⟨y,z⟩:=x
 try dsimp only at a
 refine Tr.val (q06 _ _ _ (B0 p q i) 0 (by decide) _ _ _ _ j _  o) ?_
 obtain⟨F,m,a⟩:=C0 a
 have A:J0 y:=C1 m
 obtain⟨G,n,a⟩:=C0 a
 have B:J0 z:=C1 n
 obtain rfl:=oJ a
 exact aI rfl (Sub.refl _)
theorem d09(h:Hp)(j:List Value)(n:l0)(D:G1.R h j n)(r:Bool)(b:B9 n=some r):
  Tr Tryz.prog 64 #[.agg j.toArray] h λv h'=>v = .bool r/\h'=h:=by
 obtain⟨A,B,p,W,t,C,rfl,rfl,k,m,g⟩:=H0 D
 obtain⟨rfl,U⟩:=Sl.len g
 unfold B9 at b
 dsimp only at b
 refine Tr.forget (Z2 (args:=[.agg #[.int .i64 A,.int .i64 B,.slice p C.length t]]) (fn:=Tryz.f64) rfl ?_)
 refine aI (by kernel_rfl) ?_
 obtain⟨H,w,b⟩:=C0 b
 refine Or.inl (eX (.val (.bool H)) (aI ?_ ?_))
 ·intro P F
  exact Tr.val (r8 _ _ _ (B0 k m (N0.mono F g)) _ w) (aI rfl (aI rfl rfl))
 obtain⟨d,x,b⟩:=C0 b
 refine Or.inr (eX (λv y=>∃(a:Option Addr) (c:Nat),v = .slice a d.length c/\N0.R y [.slice a d.length c] d/\d.length<=9223372036854775807) (aI (λv L M i q=>by obtain⟨a,c,e,r,l⟩:=q;exact⟨a,c,e,N0.mono i r,l⟩) (aI ?_ ?_)))
 ·intro Q G f
  refine Tr.mono (H09 _ _ _ (B0 k m (N0.mono G g)) _ (P9 x f)) ?_
  rintro _ T ⟨s,X,u,rfl,o,i⟩
  obtain⟨rfl,z⟩:=Sl.len o
  exact aI M00 (aI i ⟨s,u,rfl,o,z⟩)
 obtain⟨Y,K,b⟩:=C0 b
 refine Or.inl (eX (.val (.int .i64 ((d.length:Nat):Int))) (aI ?_ ?_))
 ·intro S ab f
  rintro _ ⟨I,J,rfl,Z,V⟩
  exact aI rfl (aI rfl rfl)
 refine Or.inl (eX (.val (.bool (decide (((d.length:Nat):Int)=0)))) (aI ?_ ?_))
 ·intro N aa f
  exact aI rfl (aI rfl rfl)
 intro O E
 obtain rfl:=oJ b
 exact aI rfl E
theorem a0e(h:Hp)(w:List Value)(B:l0)(af:G1.R h w B)(d:Int)(x:J0 d)(r:l0×Bool)(a:P8 B d=some r):
  Tr Tryz.prog 195 #[.agg w.toArray,.int .i64 d] h λv h'=>∃(u:List Value),v = .tuple #[.agg u.toArray,.bool r.2]/\New G1 h h' u r.1:=by
 obtain⟨ad,o,F,aJ,H,ae,rfl,rfl,k,l,i⟩:=H0 af
 obtain⟨rfl,aD⟩:=Sl.len i
 unfold P8 at a
 dsimp only at a
 refine Z2 (args:=[.agg #[.int .i64 ad,.int .i64 o,.slice F ae.length H],.int .i64 d]) (fn:=Tryz.f195) rfl ?_
 refine trV a (O9 _ _ _ (B0 k l i)) λaW a=>?_
 refine trG a (λq=>j01 _ _ _ (B0 k l i) _ x) λaX a=>?_
 refine ifB a (λT a=>?_) λT a=>?_
 ·refine trM a (B5 _ _ _ (B0 k l i)) ?_
  rintro ar a aU ac ⟨O,aM,J,rfl,n⟩
  have aP:Sub h ac:=n.sub
  have D:=n.r
  obtain⟨au,av,aw⟩:=ar
  dsimp only at a n D
  obtain⟨_,_,_,_,_,_,K,L,Y,Z,aj⟩:=H0 D
  cases K
  cases L
  obtain⟨rfl,aG⟩:=Sl.len aj
  try dsimp only at a
  have an:=New.sndI (New.sndI (n))
  obtain rfl:=oJ a
  exact⟨([.int .i64 au,.int .i64 av,.slice (some ⟨O,0,none⟩) aw.length J]),rfl,(New.pair (New.int Y) (New.pair (New.int Z) an))⟩
 ·obtain⟨t,P,a⟩:=C0 a
  refine eX { vars:=[7],boxes:=[],owns:=[0],fuel:=true } (eX (λvs os h'=>∃ c j e,vs.tail = [.int .i64 c]/\os = [j]/\Sub h h'/\J0 c/\F2 (Wp.int.R h') j e/\r7 o d (U1 vs) c e=some t) (eX (λ_ _=>0) (aI (eX W0 ⟨0,([[.int .i64 d]]:List (List Value)),[d],rfl,rfl,(Sub.refl _),(by decide),(show F2 (Wp.int.R h) ([[.int .i64 d]]:List (List Value)) [d] from⟨⟨rfl,x⟩,trivial⟩),P⟩) ?_)))
  rintro _ j g z ⟨c,a3,e,⟨⟩,⟨⟩,m,y,f,b⟩
  replace b:r7 o d g c e=some t:=b
  obtain _|g:=g
  ·cases b
  rw[r7.eq_2]at b
  refine ifB b (λQ b=>?_) λQ b=>?_
  ·refine ifB b (λS b=>?_) λS b=>?_
   ·obtain⟨aN,N,b⟩:=C0 b
    refine aI (P1 N (by first|rw[F2.length f,F2.length (show F2 (Wp.int.R z) ([[.int .i64 c]]:List (List Value)) [c] from⟨⟨rfl,y⟩,trivial⟩)]|exact congrArg (·+1) (F2.length f))) ?_
    exact I2 g ⟨(IntKind.i64.wrap (c+1)),(j++([[.int .i64 c]]:List (List Value))),(e ++ [c]),rfl,rfl,m,(O0 _),(F2.append f (show F2 (Wp.int.R z) ([[.int .i64 c]]:List (List Value)) [c] from⟨⟨rfl,y⟩,trivial⟩)),b⟩
   ·exact I2 g ⟨(IntKind.i64.wrap (c+1)),j,e,rfl,rfl,m,(O0 _),f,b⟩
  ·obtain rfl:=oJ b
   try dsimp only[Y0,Z0]at a
   refine Or.inl ?_
   intro aQ aa M
   obtain⟨ay,aC,rfl,ak,E,aH⟩:=E1.out (r:=Wp.int.toRp) M f
   refine trM a (a09 _ _ _ (B0 k l (N0.mono (m.trans E) i)) _ _ _ _ ak) ?_
   rintro aY a aR A ⟨az,rfl,p⟩
   have al:Sub aa A:=p.sub
   have ag:=p.r
   obtain⟨aZ,a0,ax,aK,aB,a1,rfl,rfl,U,V,C⟩:=H0 ag
   obtain⟨rfl,aE⟩:=Sl.len C
   try dsimp only at a
   have aV:=New.sndI (New.sndI (p))
   refine trM a (k01 _ _ _ (B0 U V C)) ?_
   rintro a2 a aS ab ⟨aA,rfl,s⟩
   have aO:Sub A ab:=s.sub
   have ah:=s.r
   obtain⟨ao,ap,G,aL,I,aq,rfl,rfl,W,X,ai⟩:=H0 ah
   obtain⟨rfl,aF⟩:=Sl.len ai
   try dsimp only at a
   have am:=New.sndI (New.sndI (s))
   obtain rfl:=oJ a
   exact⟨([.int .i64 ao,.int .i64 ap,.slice G aq.length I]),rfl,(New.pair (New.int W) (New.pair (New.int X) (New.from am ((m.trans E).trans al))))⟩
set_option maxHeartbeats 0
theorem b0d(h:Hp)(B:List Value)(K:l0)(ai:G1.R h B K)(r:V0)(b:c01 K=some r):
  Tr Tryz.prog 277 #[.agg B.toArray] h λv h'=>∃(z:Option Addr) (J A:Nat),v = .slice z J A/\New N0 h h' [.slice z J A] r:=by
 obtain⟨n,o,O,aR,Q,p,rfl,rfl,C,D,q⟩:=H0 ai
 obtain⟨rfl,aK⟩:=Sl.len q
 unfold c01 at b
 dsimp only at b
 refine Z2 (args:=[.agg #[.int .i64 n,.int .i64 o,.slice O p.length Q]]) (fn:=Tryz.f277) rfl ?_
 refine trM b (T03 _ _ _ (B0 C D q) 0 (by decide)) ?_
 rintro ap b a3 ae ⟨aw,aU,aD,ax,aV,aE,rfl,t,u,w⟩
 obtain⟨a7,M⟩:=ap
 dsimp only at b t u
 obtain⟨rfl,aM⟩:=Sl.len t
 obtain⟨rfl,aN⟩:=Sl.len u
 obtain⟨N,Y,b⟩:=C0 b
 obtain⟨ah,an,T,V⟩:=Sl.cutI (r:=Wp.int.toRp) t Y
 refine aI ah (eX an (aI T ?_))
 intro ao ab _
 obtain⟨ay,aF,rfl,L⟩:=V ao ab
 have aP:=(Sl.len L).2
 obtain⟨y,Z,b⟩:=C0 b
 refine eX { vars:=[20],boxes:=[],owns:=[0],fuel:=true } (eX (λvs os h'=>∃ c m i,vs.tail = [.int .i64 c]/\os = [m]/\Sub ae h'/\J0 c/\F2 (D1.R h') m i/\G6 N M n o p (U1 vs) c i=some y) (eX (λ_ _=>0) (aI (eX W0 ⟨0,[],([]:V0),rfl,rfl,(Sub.refl _),(by decide),(F2.up (r:=D1.toRp) w (show F2 (D1.R h) ([]:List (List Value)) ([]:V0) from trivial)),Z⟩) ?_)))
 rintro _ m k aJ ⟨c,a8,i,⟨⟩,⟨⟩,g,aH,j,a⟩
 replace a:G6 N M n o p k c i=some y:=a
 obtain _|k:=k
 ·cases a
 rw[G6.eq_2]at a
 refine ifB a (λaa a=>?_) λaa a=>?_
 ·refine ldI a (P0.mono g L) λa4 E a=>?_
  refine ld a (I3.mono g u) λa5 aA s a=>?_
  obtain⟨av,aS,aC,rfl⟩:=Wp.slice_cell s
  obtain⟨rfl,aL⟩:=Sl.len s
  refine ldI a s λaq ac a=>?_
  refine trV a (w7 _ _ _ (B0 C D (N0.mono (w.trans g) q)) _ E (IntKind.i64.wrap (0-aq)) (O0 _)) λar a=>?_
  obtain⟨aX,W,a⟩:=C0 a
  have ad:J0 ar:=C1 W
  refine trM a (r06 _ _ ad _ ac _ E) ?_
  rintro a6 a a0 I ⟨aB,rfl,aj,l⟩
  obtain⟨d,e,f,rfl,rfl,F,G,H⟩:=Y1 aj
  try dsimp only at a
  obtain⟨aY,X,a⟩:=C0 a
  refine aI (P1 X (by first|rw[F2.length (F2.up (r:=D1.toRp) l j),F2.length (show F2 (D1.R I) ([[.int .i64 d,.int .i64 e,.int .i64 f]]:List (List Value)) [(d,e,f)] from⟨(L1 F G H),trivial⟩)]|exact congrArg (·+1) (F2.length (F2.up (r:=D1.toRp) l j)))) ?_
  exact I2 k ⟨(IntKind.i64.wrap (c+1)),(m++([[.int .i64 d,.int .i64 e,.int .i64 f]]:List (List Value))),(i ++ [(d,e,f)]),rfl,rfl,(g.trans l),(O0 _),(F2.append (F2.up (r:=D1.toRp) l j) (show F2 (D1.R I) ([[.int .i64 d,.int .i64 e,.int .i64 f]]:List (List Value)) [(d,e,f)] from⟨(L1 F G H),trivial⟩)),a⟩
 ·obtain rfl:=oJ a
  try dsimp only[Y0,Z0]at b
  refine Or.inl ?_
  intro a1 af U
  obtain⟨az,aG,rfl,al,am,aQ⟩:=E1.out (r:=D1.toRp) U j
  refine trM b (S02 _ _ _ _ _ al) ?_
  rintro au b a2 ag ⟨P,aW,S,rfl,x⟩
  have aZ:Sub af ag:=x.sub
  have ak:=x.r
  obtain⟨rfl,aO⟩:=Sl.len ak
  obtain rfl:=oJ b
  exact⟨P,au.length,S,rfl,(New.from x ((w.trans g).trans am))⟩
theorem s06(h:Hp)(x:List Value)(F:l0)(X:G1.R h x F)(r:V0)(b:H9 F=some r):
  Tr Tryz.prog 246 #[.agg x.toArray] h λv h'=>∃(u:Option Addr) (E w:Nat),v = .slice u E w/\New N0 h h' [.slice u E w] r:=by
 obtain⟨V,W,J,aj,M,q,rfl,rfl,A,B,m⟩:=H0 X
 obtain⟨rfl,af⟩:=Sl.len m
 unfold H9 at b
 dsimp only at b
 refine Z2 (args:=[.agg #[.int .i64 V,.int .i64 W,.slice J q.length M]]) (fn:=Tryz.f246) rfl ?_
 refine trV b (O9 _ _ _ (B0 A B m)) λav b=>?_
 refine ifB b (λU b=>?_) λU b=>?_
 ·intro ar ae z
  obtain⟨L,O,rfl,an,ap,ai⟩:=E1.out (r:=D1.toRp) z (show F2 (D1.R h) ([]:List (List Value)) ([]:V0) from trivial)
  obtain rfl:=oJ b
  exact⟨L,(([]:V0)).length,O,rfl,(E1.newPlain (r:=D1) z (show F2 (D1.R h) ([]:List (List Value)) ([]:V0) from trivial) (T05 _))⟩
 ·refine trM b (b0d _ _ _ (B0 A B m)) ?_
  rintro I b au D ⟨Z,ak,ab,rfl,H⟩
  have s:Sub h D:=H.sub
  have G:=H.r
  obtain⟨rfl,ag⟩:=Sl.len G
  obtain⟨t,Q,b⟩:=C0 b
  refine eX { vars:=[17],boxes:=[],owns:=[0],fuel:=true } (eX (λvs os h'=>∃ c l d,vs.tail = [.int .i64 c]/\os = [l]/\Sub D h'/\J0 c/\F2 (D1.R h') l d/\j5 q I (U1 vs) c d=some t) (eX (λ_ _=>0) (aI (eX W0 ⟨0,[],([]:V0),rfl,rfl,(Sub.refl _),(by decide),(F2.up (r:=D1.toRp) s (show F2 (D1.R h) ([]:List (List Value)) ([]:V0) from trivial)),Q⟩) ?_)))
  rintro _ l j C ⟨c,ay,d,⟨⟩,⟨⟩,k,ac,e,a⟩
  replace a:j5 q I j c d=some t:=a
  obtain _|j:=j
  ·cases a
  rw[j5.eq_2]at a
  refine ifB a (λS a=>?_) λS a=>?_
  ·refine ld a (N0.mono (s.trans k) m) λaw aa Y a=>?_
   obtain⟨f,g,i,rfl,rfl,n,o,p⟩:=Y1 Y
   try dsimp only at a
   refine trV a (Y01 _ _ _ _ _ (N0.mono k G) _ _ (L1 n o p)) λax a=>?_
   refine ifB a (λT a=>?_) λT a=>?_
   ·obtain⟨al,P,a⟩:=C0 a
    refine aI (P1 P (by first|rw[F2.length e,F2.length (show F2 (D1.R C) ([[.int .i64 f,.int .i64 g,.int .i64 i]]:List (List Value)) [(f,g,i)] from⟨(L1 n o p),trivial⟩)]|exact congrArg (·+1) (F2.length e))) ?_
    exact I2 j ⟨(IntKind.i64.wrap (c+1)),(l++([[.int .i64 f,.int .i64 g,.int .i64 i]]:List (List Value))),(d ++ [(f,g,i)]),rfl,rfl,k,(O0 _),(F2.append e (show F2 (D1.R C) ([[.int .i64 f,.int .i64 g,.int .i64 i]]:List (List Value)) [(f,g,i)] from⟨(L1 n o p),trivial⟩)),a⟩
   ·exact I2 j ⟨(IntKind.i64.wrap (c+1)),l,d,rfl,rfl,k,(O0 _),e,a⟩
  ·obtain rfl:=oJ a
   try dsimp only[Y0,Z0]at b
   intro aq ad y
   obtain⟨K,N,rfl,am,ao,ah⟩:=E1.out (r:=D1.toRp) y e
   obtain rfl:=oJ b
   exact⟨K,d.length,N,rfl,(New.from (E1.newPlain (r:=D1) y e (T05 _)) (s.trans k))⟩
theorem A0g(h:Hp)(W:List Value)(ah:l0)(ba:G1.R h W ah)(r:E2)(f:o02 ah=some r):
  Tr Tryz.prog 186 #[.agg W.toArray] h λv h'=>∃(P:Option Addr) (ag V:Nat),v = .slice P ag V/\I3.R h' [.slice P ag V] r/\Sub h h':=by
 obtain⟨a7,a8,ar,b6,aB,a9,rfl,rfl,J,K,A⟩:=H0 ba
 obtain⟨rfl,bT⟩:=Sl.len A
 unfold o02 at f
 dsimp only at f
 refine Z2 (args:=[.agg #[.int .i64 a7,.int .i64 a8,.slice ar a9.length aB]]) (fn:=Tryz.f186) rfl ?_
 refine trV f (r8 _ _ _ (B0 J K A)) λcp f=>?_
 refine ifB f (λa1 f=>?_) λa1 f=>?_
 ·intro cm bP aO
  obtain⟨ay,aG,rfl,bi,bo,b5⟩:=E1.out (r:=P0.toRp) aO (show F2 (P0.R h) ([]:List (List Value)) ([]:E2) from trivial)
  obtain rfl:=oJ f
  exact⟨ay,(([]:E2)).length,aG,rfl,bi,bo⟩
 ·refine trM f (T03 _ _ _ (B0 J K A) 0 (by decide)) ?_
  rintro bs f co a3 ⟨bu,cd,bD,Q,ce,X,rfl,al,B,N⟩
  obtain⟨cr,G⟩:=bs
  dsimp only at f al B
  obtain⟨rfl,bX⟩:=Sl.len al
  obtain⟨rfl,bY⟩:=Sl.len B
  refine trM f (s06 _ _ _ (B0 J K (N0.mono N A))) ?_
  rintro aq f cl ac ⟨bt,b7,bC,rfl,an⟩
  have D:Sub a3 ac:=an.sub
  have ai:=an.r
  obtain⟨rfl,bU⟩:=Sl.len ai
  obtain⟨O,aZ,f⟩:=C0 f
  refine eX { vars:=[21],boxes:=[],owns:=[0],fuel:=true } (eX (λvs os h'=>∃ p E s,vs.tail = [.int .i64 p]/\os = [E]/\Sub ac h'/\J0 p/\F2 (P0.R h') E s/\c8 aq G (U1 vs) p s=some O) (eX (λ_ _=>0) (aI (eX W0 ⟨0,[],([]:E2),rfl,rfl,(Sub.refl _),(by decide),(F2.up (r:=P0.toRp) (N.trans D) (show F2 (P0.R h) ([]:List (List Value)) ([]:E2) from trivial)),aZ⟩) ?_)))
  rintro _ E z bJ ⟨p,cs,s,⟨⟩,⟨⟩,t,bG,w,b⟩
  replace b:c8 aq G z p s=some O:=b
  obtain _|z:=z
  ·cases b
  rw[c8.eq_2]at b
  refine ifB b (λa0 b=>?_) λa0 b=>?_
  ·refine ld b (N0.mono t ai) λcq bz bb b=>?_
   obtain⟨bp,F,bq,rfl,rfl,bH,a2,bI⟩:=Y1 bb
   try dsimp only at b
   refine Or.inr (Or.inr (Or.inr (Or.inr (eX 18 (aI (aI (by kernel_rfl) (by kernel_rfl)) ?_)))))
   obtain⟨u,aR,b⟩:=C0 b
   obtain⟨az,bA,aH,L⟩:=Sl.getI (r:=P0.toRp) (I3.mono (D.trans t) B) aR (by decide)
   obtain⟨H,b8,I,rfl⟩:=Wp.slice_cell L
   obtain⟨rfl,bV⟩:=Sl.len L
   refine Or.inl (eX (.hel (.slice Q G.length X) bp 1 0) (aI ?_ ?_))
   ·intro bK cg
    exact aI az (aI rfl (aI rfl rfl))
   refine Or.inl (eX (.val (.slice H u.length I)) (aI ?_ ?_))
   ·intro bL bj
    exact eX _ (aI (n9.up bj aH) (aI rfl (aI rfl rfl)))
   obtain⟨g,aS,b⟩:=C0 b
   refine Or.inr (eX (λv i=>∃(a:Option Addr) (c:Nat),v = .slice a g.length c/\P0.R i [.slice a g.length c] g/\g.length<=9223372036854775807) (aI (λv x y d q=>by obtain⟨a,c,e,r,l⟩:=q;exact⟨a,c,e,P0.mono d r,l⟩) (aI ?_ ?_)))
   ·intro ad ch
    have aJ:[F]=g:=oJ aS
    intro v k hf
    obtain⟨a,c,rfl,r,d,l⟩:=E1.out (r:=Wp.int.toRp) (xs:=g) hf (show F2 (Wp.int.R ad) [[.int .i64 F]] g from aJ▸(show F2 (Wp.int.R ad) [[.int .i64 F]] [F] from⟨⟨rfl,a2⟩,trivial⟩))
    exact aI ⟨rfl,rfl,rfl,[_],rfl⟩ (aI d ⟨a,c,rfl,r,l⟩)
   obtain⟨br,aU,b⟩:=C0 b
   obtain⟨aA,bB,aK,M⟩:=Sl.getI (r:=P0.toRp) (I3.mono (D.trans t) B) aU (by decide)
   obtain⟨au,ca,aC,rfl⟩:=Wp.slice_cell M
   obtain⟨rfl,bW⟩:=Sl.len M
   refine Or.inl (eX (.hel (.slice Q G.length X) bq 1 0) (aI ?_ ?_))
   ·intro bM ci
    exact aI aA (aI rfl (aI rfl rfl))
   refine Or.inl (eX (.val (.slice au br.length aC)) (aI ?_ ?_))
   ·intro bN bk
    exact eX _ (aI (n9.up bk aK) (aI rfl (aI rfl rfl)))
   obtain⟨j,aV,b⟩:=C0 b
   refine Or.inr (eX (λv i=>∃(a:Option Addr) (c:Nat),v = .slice a j.length c/\P0.R i [.slice a j.length c] j/\j.length<=9223372036854775807) (aI (λv x y d q=>by obtain⟨a,c,e,r,l⟩:=q;exact⟨a,c,e,P0.mono d r,l⟩) (aI ?_ ?_)))
   ·intro bO bl
    refine Tr.mono (Q03 _ _ _ _ _ (P0.mono bl M) _ aV) ?_
    rintro _ a4 ⟨av,cb,aD,rfl,ao⟩
    have d:=ao.sub
    have aj:=ao.r
    obtain⟨rfl,a5⟩:=Sl.len aj
    exact aI M00 (aI d ⟨av,aD,rfl,aj,a5⟩)
   obtain⟨o,aW,b⟩:=C0 b
   refine Or.inr (eX (λv i=>∃(a:Option Addr) (c:Nat),v = .slice a o.length c/\I3.R i [.slice a o.length c] o/\o.length<=9223372036854775807) (aI (λv x y d q=>by obtain⟨a,c,e,r,l⟩:=q;exact⟨a,c,e,I3.mono d r,l⟩) (aI ?_ ?_)))
   ·intro ae bm
    rintro _ ⟨S,Y,rfl,bc,bZ⟩
    rintro _ ⟨T,Z,rfl,bd,b0⟩
    have aL:[u,g,j]=o:=oJ aW
    intro v k hf
    obtain⟨a,c,rfl,r,d,l⟩:=E1.out (r:=P0.toRp) (xs:=o) hf (show F2 (P0.R ae) [[.slice H u.length I],[.slice S g.length Y],[.slice T j.length Z]] o from aL▸(show F2 (P0.R ae) [[.slice H u.length I],[.slice S g.length Y],[.slice T j.length Z]] [u,g,j] from⟨(P0.mono bm L),⟨bc,⟨bd,trivial⟩⟩⟩))
    exact aI ⟨rfl,rfl,rfl,[_],rfl⟩ (aI d ⟨a,c,rfl,r,l⟩)
   obtain⟨m,aX,b⟩:=C0 b
   refine Or.inr (eX (λv i=>∃(a:Option Addr) (c:Nat),v = .slice a m.length c/\P0.R i [.slice a m.length c] m/\m.length<=9223372036854775807) (aI (λv x y d q=>by obtain⟨a,c,e,r,l⟩:=q;exact⟨a,c,e,P0.mono d r,l⟩) (aI ?_ ?_)))
   ·intro bQ cj
    rintro _ ⟨bv,bE,rfl,be,b1⟩
    refine Tr.mono (R03 _ _ _ _ _ be _ aX) ?_
    rintro _ a4 ⟨aw,cc,aE,rfl,ap⟩
    have d:=ap.sub
    have ak:=ap.r
    obtain⟨rfl,a6⟩:=Sl.len ak
    exact aI M00 (aI d ⟨aw,aE,rfl,ak,a6⟩)
   obtain⟨n,aY,b⟩:=C0 b
   refine Or.inr (eX (λv i=>∃(a:Option Addr) (c:Nat),v = .slice a n.length c/\I3.R i [.slice a n.length c] n/\n.length<=9223372036854775807) (aI (λv x y d q=>by obtain⟨a,c,e,r,l⟩:=q;exact⟨a,c,e,I3.mono d r,l⟩) (aI ?_ ?_)))
   ·intro af ck
    rintro _ ⟨U,aa,rfl,bf,b2⟩
    have aM:[m]=n:=oJ aY
    intro v k hf
    obtain⟨a,c,rfl,r,d,l⟩:=E1.out (r:=P0.toRp) (xs:=n) hf (show F2 (P0.R af) [[.slice U m.length aa]] n from aM▸(show F2 (P0.R af) [[.slice U m.length aa]] [m] from⟨bf,trivial⟩))
    exact aI ⟨rfl,rfl,rfl,[_],rfl⟩ (aI d ⟨a,c,rfl,r,l⟩)
   intro bR C
   rintro _ ⟨bx,bF,rfl,bg,b3⟩
   rintro _ _
   rintro _ _
   rintro _ _
   rintro _ _
   obtain⟨am,aN,ab⟩:=Sl.rows (r:=P0.toRp) bg
   refine eX am (aI aN ?_)
   obtain⟨cf,aQ,b⟩:=C0 b
   refine aI (P1 aQ (by first|rw[F2.length (F2.up (r:=P0.toRp) C w),F2.length ab]|exact congrArg (·+1) (F2.length (F2.up (r:=P0.toRp) C w)))) ?_
   exact I2 z ⟨(IntKind.i64.wrap (p+1)),(E++am),(s++n),rfl,rfl,(t.trans C),(O0 _),(F2.append (F2.up (r:=P0.toRp) C w) ab),b⟩
  ·obtain rfl:=oJ b
   try dsimp only[Y0,Z0]at f
   intro cn bS aP
   obtain⟨ax,aF,rfl,bh,bn,b4⟩:=E1.out (r:=P0.toRp) aP w
   obtain rfl:=oJ f
   exact⟨ax,s.length,aF,rfl,bh,(((N.trans D).trans t).trans bn)⟩
theorem U05(h:Hp)(y:List Value)(C:l0)(V:G1.R h y C)(m:Option Addr)(B n:Nat)(g:E2)(D:I3.R h [.slice m B n] g)(r:Bool)(d:M7 C g=some r):
  Tr Tryz.prog 65 #[.agg y.toArray,.slice m B n] h λv h'=>v = .bool r/\h'=h:=by
 obtain⟨o,p,I,aw,K,s,rfl,rfl,z,A,t⟩:=H0 V
 obtain⟨rfl,ap⟩:=Sl.len t
 obtain⟨rfl,aq⟩:=Sl.len D
 unfold M7 at d
 dsimp only at d
 refine Tr.forget (Z2 (args:=[.agg #[.int .i64 o,.int .i64 p,.slice I s.length K],.slice m g.length n]) (fn:=Tryz.f65) rfl ?_)
 refine trV d (r8 _ _ _ (B0 z A t)) λaB d=>?_
 refine ifB d (λP d=>?_) λP d=>?_
 ·obtain rfl:=oJ d
  exact aI rfl (Sub.refl _)
 ·obtain⟨x,O,d⟩:=C0 d
  refine eX { vars:=[12],boxes:=[],owns:=[],fuel:=true } (eX (λvs os h'=>∃ f,vs.tail = [.int .i64 f]/\os = []/\Sub h h'/\J0 f/\I5 g o p s (U1 vs) f=some x) (eX (λ_ _=>0) (aI (eX W0 ⟨0,rfl,rfl,(Sub.refl _),(by decide),O⟩) ?_)))
  rintro _ j an ⟨f,⟨⟩,⟨⟩,i,ai,b⟩
  replace b:I5 g o p s j f=some x:=b
  obtain _|j:=j
  ·cases b
  rw[I5.eq_2]at b
  refine ifB b (λS b=>?_) λS b=>?_
  ·refine ld b (I3.mono i D) λaC ac u b=>?_
   obtain⟨Z,ax,ad,rfl⟩:=Wp.slice_cell u
   obtain⟨rfl,ar⟩:=Sl.len u
   refine Or.inr (Or.inr (Or.inr (Or.inl (aI (aI (by kernel_rfl) (by kernel_rfl)) ?_))))
   obtain⟨k,N,b⟩:=C0 b
   refine Or.inr (eX (λv T=>∃(a:Option Addr) (c:Nat),v = .slice a k.length c/\P0.R T [.slice a k.length c] k/\k.length<=9223372036854775807) (aI (λv ag ah w q=>by obtain⟨a,c,e,r,l⟩:=q;exact⟨a,c,e,P0.mono w r,l⟩) (aI ?_ ?_)))
   ·intro aj X
    refine Tr.mono (s02 _ _ _ _ _ (P0.mono X u) _ N) ?_
    rintro _ ao ⟨J,ay,L,rfl,G⟩
    have w:=G.sub
    have E:=G.r
    obtain⟨rfl,U⟩:=Sl.len E
    exact aI M00 (aI w ⟨J,L,rfl,E,U⟩)
   obtain⟨H,M,b⟩:=C0 b
   refine Or.inl (eX (.val (.bool H)) (aI ?_ ?_))
   ·intro ak Y
    rintro _ ⟨aa,ae,rfl,W,au⟩
    exact Tr.val (j03 _ _ _ (B0 z A (N0.mono (i.trans Y) t)) _ _ _ _ W _ M) (aI rfl (aI rfl rfl))
   refine Or.inl (eX (.val (.bool (!H))) (aI ?_ ?_))
   ·intro al aA
    exact aI rfl (aI rfl rfl)
   intro am F
   rintro _ ⟨ab,af,rfl,az,av⟩
   refine ifB b (λQ b=>?_) λQ b=>?_
   ·obtain rfl:=oJ b
    try dsimp only[B4,I4]at d
    obtain rfl:=oJ d
    exact aI rfl (i.trans F)
   ·exact I2 j ⟨(IntKind.i64.wrap (f+1)),rfl,rfl,(i.trans F),(O0 _),b⟩
  ·obtain rfl:=oJ b
   try dsimp only[Y0,Z0]at d
   obtain rfl:=oJ d
   exact aI rfl i
theorem V03(h:Hp)(b:Int)(s:J0 b)(d:Option Addr)(k e:Nat)(f:E2)(l:I3.R h [.slice d k e] f)(r:l0×Bool)(a:E8 b f=some r):
  Tr Tryz.prog 83 #[.int .i64 b,.slice d k e] h λv h'=>∃(i:List Value),v = .tuple #[.agg i.toArray,.bool r.2]/\New G1 h h' i r.1:=by
 obtain⟨rfl,L⟩:=Sl.len l
 unfold E8 at a
 refine Z2 (args:=[.int .i64 b,.slice d f.length e]) (fn:=Tryz.f83) rfl ?_
 refine trM a (X0d _ _ s _ _ _ _ l) ?_
 rintro D a S j ⟨I,rfl,c⟩
 obtain⟨V,Z⟩:=D
 dsimp only at a c
 have n:Sub h j:=c.sub
 have z:=c.r
 obtain⟨W,X,H,O,K,Y,rfl,rfl,t,u,m⟩:=H0 z
 obtain⟨rfl,M⟩:=Sl.len m
 try dsimp only at a
 have U:=New.sndI (New.sndI (c))
 refine ifB a (λq a=>?_) λq a=>?_
 ·obtain rfl:=oJ a
  exact⟨([.int .i64 0,.int .i64 0,.slice none 0 0]),rfl,(New.pair (New.int (by decide)) (New.pair (New.int (by decide)) ((New.nilSlice (r:=D1)).mono n)))⟩
 ·refine trM a (k01 _ _ _ (B0 t u m)) ?_
  rintro aa a T y ⟨J,rfl,g⟩
  have Q:Sub j y:=g.sub
  have A:=g.r
  obtain⟨E,F,o,P,p,G,rfl,rfl,w,x,B⟩:=H0 A
  obtain⟨rfl,N⟩:=Sl.len B
  try dsimp only at a
  have C:=New.sndI (New.sndI (g))
  obtain rfl:=oJ a
  exact⟨([.int .i64 E,.int .i64 F,.slice o G.length p]),rfl,(New.pair (New.int w) (New.pair (New.int x) (New.from C n)))⟩
theorem S9(h:Hp)(i:List Value)(l:l0)(B:G1.R h i l)(b:Option Addr)(k c:Nat)(e:E2)(m:I3.R h [.slice b k c] e)(r:Bool)(a:l5 l e=some r):
  Tr Tryz.prog 183 #[.agg i.toArray,.slice b k c] h λv h'=>v = .bool r/\h'=h:=by
 obtain⟨y,z,p,K,s,A,rfl,rfl,d,j,f⟩:=H0 B
 obtain⟨rfl,H⟩:=Sl.len f
 obtain⟨rfl,I⟩:=Sl.len m
 unfold l5 at a
 dsimp only at a
 refine Tr.forget (Z2 (args:=[.agg #[.int .i64 y,.int .i64 z,.slice p A.length s],.slice b e.length c]) (fn:=Tryz.f183) rfl ?_)
 refine trV a (r8 _ _ _ (B0 d j f)) λN a=>?_
 refine ifB a (λt a=>?_) λt a=>?_
 ·obtain rfl:=oJ a
  exact aI rfl (Sub.refl _)
 ·refine trM a (V03 _ _ d _ _ _ _ m) ?_
  rintro D a M x ⟨F,rfl,g⟩
  obtain⟨O,T⟩:=D
  dsimp only at a g
  have o:Sub h x:=g.sub
  have C:=g.r
  obtain⟨P,Q,E,L,G,S,rfl,rfl,u,w,n⟩:=H0 C
  obtain⟨rfl,J⟩:=Sl.len n
  try dsimp only at a
  refine trG a (λq=>W8 _ _ _ (B0 d j (N0.mono o f)) _ _ (B0 u w n)) λU a=>?_
  obtain rfl:=oJ a
  exact aI rfl o
theorem Q04(h:Hp)(n:List Value)(t:l0)(K:G1.R h n t)(f:Option Addr)(s g:Nat)(j:M0)(u:P0.R h [.slice f s g] j)(r:Bool)(b:N9 t j=some r):
  Tr Tryz.prog 68 #[.agg n.toArray,.slice f s g] h λv h'=>v = .bool r/\h'=h:=by
 obtain⟨H,I,y,af,A,J,rfl,rfl,o,p,k⟩:=H0 K
 obtain⟨rfl,ac⟩:=Sl.len k
 obtain⟨rfl,ad⟩:=Sl.len u
 unfold N9 at b
 dsimp only at b
 refine Tr.forget (Z2 (args:=[.agg #[.int .i64 H,.int .i64 I,.slice y J.length A],.slice f j.length g]) (fn:=Tryz.f68) rfl ?_)
 refine Or.inr (Or.inr (Or.inr (Or.inl (aI (aI (by kernel_rfl) (by kernel_rfl)) ?_))))
 obtain⟨Q,C,b⟩:=C0 b
 refine Or.inl (eX (.val (.bool Q)) (aI ?_ ?_))
 ·intro Y N
  exact Tr.val (r8 _ _ _ (B0 o p (N0.mono N k)) _ C) (aI rfl (aI rfl rfl))
 obtain⟨d,D,b⟩:=C0 b
 refine Or.inr (eX (λv F=>∃(a:Option Addr) (c:Nat),v = .slice a d.length c/\P0.R F [.slice a d.length c] d/\d.length<=9223372036854775807) (aI (λv V W m q=>by obtain⟨a,c,e,r,l⟩:=q;exact⟨a,c,e,P0.mono m r,l⟩) (aI ?_ ?_)))
 ·intro Z O i
  refine Tr.mono (s02 _ _ _ _ _ (P0.mono O u) _ (P9 D i)) ?_
  rintro _ ab ⟨z,ag,B,rfl,x⟩
  have m:=x.sub
  have w:=x.r
  obtain⟨rfl,G⟩:=Sl.len w
  exact aI M00 (aI m ⟨z,B,rfl,w,G⟩)
 obtain⟨S,E,b⟩:=C0 b
 refine Or.inl (eX (.val (.bool S)) (aI ?_ ?_))
 ·intro aa P i
  rintro _ ⟨T,U,rfl,L,ae⟩
  exact Tr.val (j03 _ _ _ (B0 o p (N0.mono P k)) _ _ _ _ L _ (P9 E i)) (aI rfl (aI rfl rfl))
 intro X M
 obtain rfl:=oJ b
 exact aI rfl M
theorem f0a(h:Hp)(M:List Value)(S:l0)(aJ:G1.R h M S)(x:Option Addr)(Q y:Nat)(D:M0)(E:P0.R h [.slice x Q y] D)(r:l0×Int×Bool)(b:J00 S D=some r):
  Tr Tryz.prog 249 #[.agg M.toArray,.slice x Q y] h λv h'=>∃(L:List Value),v = .tuple #[.agg L.toArray,.int .i64 r.2.1,.bool r.2.2]/\G1.R h' L r.1/\Sub h h':=by
 obtain⟨T,U,H,bn,K,V,rfl,rfl,C,s,t⟩:=H0 aJ
 obtain⟨rfl,bh⟩:=Sl.len t
 obtain⟨rfl,bi⟩:=Sl.len E
 unfold J00 at b
 dsimp only at b
 refine Z2 (args:=[.agg #[.int .i64 T,.int .i64 U,.slice H V.length K],.slice x D.length y]) (fn:=Tryz.f249) rfl ?_
 obtain⟨aU,aj,b⟩:=C0 b
 obtain⟨aX,aY⟩:=aU
 try dsimp only at b
 refine Tr.val (q06 _ _ _ (B0 C s t) 0 (by decide) _ _ _ _ E _  aj) ?_
 obtain⟨bq,ah,b⟩:=C0 b
 have aq:J0 aX:=C1 ah
 obtain⟨br,ai,b⟩:=C0 b
 have a8:J0 aY:=C1 ai
 refine ifB b (λan b=>?_) λan b=>?_
 ·obtain rfl:=oJ b
  exact⟨([.int .i64 T,.int .i64 U,.slice H V.length K]),rfl,(B0 C s t),(Sub.refl _)⟩
 ·refine trM b (Y0c _ _ _ (B0 C s t)) ?_
  rintro aZ b bx P ⟨a4,rfl,F⟩
  obtain⟨bz,bD⟩:=aZ
  dsimp only at b F
  have u:Sub h P:=F.sub
  have aL:=F.r
  obtain⟨bA,bB,a0,bo,a5,bC,rfl,rfl,ar,au,W⟩:=H0 aL
  obtain⟨rfl,bj⟩:=Sl.len W
  try dsimp only at b
  refine ifB b (λao b=>?_) λao b=>?_
  ·obtain rfl:=oJ b
   exact⟨([.int .i64 0,.int .i64 0,.slice none 0 0]),rfl,(B0 (by decide) (by decide) (X0i D1 P)),u⟩
  ·refine Or.inr (Or.inr (Or.inr (Or.inr (eX 10 (aI (aI (by kernel_rfl) (by kernel_rfl)) ?_)))))
   obtain⟨w,al,b⟩:=C0 b
   refine Or.inr (eX (λv i=>∃(a:Option Addr) (c:Nat),v = .slice a w.length c/\P0.R i [.slice a w.length c] w/\w.length<=9223372036854775807) (aI (λv A B j q=>by obtain⟨a,c,e,r,l⟩:=q;exact⟨a,c,e,P0.mono j r,l⟩) (aI ?_ ?_)))
   ·intro bb aQ
    obtain⟨aH,aS,ae,ag⟩:=Sl.cutI (r:=Wp.int.toRp) (P0.mono (u.trans aQ) E) al
    refine aI aH (eX aS (aI ae ?_))
    intro v ap _
    obtain⟨a,c,rfl,r⟩:=ag v ap
    exact aI M00 (aI (Sub.refl _) ⟨a,c,rfl,r,(Sl.len r).2⟩)
   obtain⟨aV,ak,b⟩:=C0 b
   obtain⟨aW,G⟩:=aV
   try dsimp only at b
   obtain⟨m,n,d⟩:=aW
   try dsimp only at b
   refine Or.inr (eX (λv i=>∃(k:Value),v = .tuple #[k,.bool G]/\(λv i=>∃(f:Option Addr) (g:Nat),v = .agg #[.int .i64 m,.int .i64 n,.slice f d.length g]/\J0 m/\J0 n/\N0.R i [.slice f d.length g] d/\d.length<=9223372036854775807) k i) (aI (λv A B j q=>by obtain⟨k,e,z⟩:=q;exact⟨k,e,(by obtain⟨f,g,e,o,p,f2,f3⟩:=z;exact⟨f,g,e,o,p,N0.mono j f2,f3⟩)⟩) (aI ?_ ?_)))
   ·intro bc aR
    rintro _ ⟨a1,a6,rfl,aM,bk⟩
    refine Tr.mono (c09 _ _ _ (B0 ar au (N0.mono aR W)) _ aq _ _ _ _ aM _ s _ ak) ?_
    rintro _ bg ⟨a3,rfl,Z⟩
    have j:=Z.sub
    have aK:=Z.r
    obtain⟨bE,bF,I,bp,N,bG,rfl,af,av,aw,X⟩:=H0 aK
    cases af
    obtain⟨rfl,aE⟩:=Sl.len X
    exact aI M00 (aI j ⟨(.agg #[.int .i64 m,.int .i64 n,.slice I d.length N]),rfl,⟨I,N,rfl,av,aw,X,aE⟩⟩)
   refine Or.inr (eX (λv i=>∃(k:Value),v = .tuple #[k,.bool G]/\(λv i=>∃(f:Option Addr) (g:Nat),v = .agg #[.int .i64 m,.int .i64 n,.slice f d.length g]/\J0 m/\J0 n/\N0.R i [.slice f d.length g] d/\d.length<=9223372036854775807) k i) (aI (λv A B j q=>by obtain⟨k,e,z⟩:=q;exact⟨k,e,(by obtain⟨f,g,e,o,p,f2,f3⟩:=z;exact⟨f,g,e,o,p,N0.mono j f2,f3⟩)⟩) (aI ?_ ?_)))
   ·intro bd bt
    rintro _ ⟨_,rfl,⟨J,O,rfl,ax,ay,aN,aF⟩⟩
    exact aI M00 (aI (Sub.refl _) ⟨(.agg #[.int .i64 m,.int .i64 n,.slice J d.length O]),rfl,⟨J,O,rfl,ax,ay,aN,aF⟩⟩)
   refine Or.inr (eX (λv i=>∃(f:Option Addr) (g:Nat),v = .agg #[.int .i64 m,.int .i64 n,.slice f d.length g]/\J0 m/\J0 n/\N0.R i [.slice f d.length g] d/\d.length<=9223372036854775807) (aI (λv A B j q=>by obtain⟨f,g,e,o,p,f2,f3⟩:=q;exact⟨f,g,e,o,p,N0.mono j f2,f3⟩) (aI ?_ ?_)))
   ·intro be bu
    rintro _ ⟨_,rfl,⟨aa,ac,rfl,az,aA,aO,aG⟩⟩
    exact aI M00 (aI (Sub.refl _) ⟨aa,ac,rfl,az,aA,aO,aG⟩)
   refine Or.inl (eX (.val (.bool G)) (aI ?_ ?_))
   ·intro bf bv
    rintro _ ⟨_,rfl,⟨a2,a7,rfl,a9,ba,bs,bl⟩⟩
    exact aI rfl (aI rfl rfl)
   intro aD Y
   rintro _ ⟨ab,ad,rfl,aB,aC,aP,bm⟩
   rintro _ _
   rintro _ _
   rintro _ _
   refine ifB b (λam b=>?_) λam b=>?_
   ·obtain rfl:=oJ b
    exact⟨([.int .i64 0,.int .i64 0,.slice none 0 0]),rfl,(B0 (by decide) (by decide) (X0i D1 aD)),(u.trans Y)⟩
   ·obtain rfl:=oJ b
    exact⟨([.int .i64 m,.int .i64 n,.slice ab d.length ad]),rfl,(B0 aB aC aP),(u.trans Y)⟩
theorem H7(h:Hp)(k:List Value)(n:l0)(L:G1.R h k n)(c:Option Addr)(m d:Nat)(f:M0)(i:P0.R h [.slice c m d] f)(r:l0×Bool)(a:l4 n f=some r):
  Tr Tryz.prog 181 #[.agg k.toArray,.slice c m d] h λv h'=>∃(j:List Value),v = .tuple #[.agg j.toArray,.bool r.2]/\New G1 h h' j r.1:=by
 obtain⟨I,J,t,ae,w,K,rfl,rfl,e,l,g⟩:=H0 L
 obtain⟨rfl,aa⟩:=Sl.len g
 obtain⟨rfl,ab⟩:=Sl.len i
 unfold l4 at a
 dsimp only at a
 refine Z2 (args:=[.agg #[.int .i64 I,.int .i64 J,.slice t K.length w],.slice c f.length d]) (fn:=Tryz.f181) rfl ?_
 refine trV a (r8 _ _ _ (B0 e l g)) λal a=>?_
 refine trG a (λq=>L00 _ _ e _ _ _ _ i) λam a=>?_
 refine ifB a (λz a=>?_) λz a=>?_
 ·obtain rfl:=oJ a
  exact⟨([.int .i64 0,.int .i64 0,.slice none 0 0]),rfl,(New.pair (New.int (by decide)) (New.pair (New.int (by decide)) ((New.nilSlice (r:=D1)).mono (Sub.refl _))))⟩
 ·refine trM a (f0a _ _ _ (B0 e l g) _ _ _ _ i) ?_
  rintro P a ak H ⟨X,rfl,o,s⟩
  obtain⟨an,Q,ar⟩:=P
  dsimp only at a o
  obtain⟨ao,ap,W,af,Z,aq,rfl,rfl,B,C,p⟩:=H0 o
  obtain⟨rfl,ac⟩:=Sl.len p
  try dsimp only at a
  obtain⟨ah,y,a⟩:=C0 a
  have D:J0 Q:=C1 y
  refine ifB a (λA a=>?_) λA a=>?_
  ·obtain rfl:=oJ a
   exact⟨([.int .i64 0,.int .i64 0,.slice none 0 0]),rfl,(New.pair (New.int (by decide)) (New.pair (New.int (by decide)) ((New.nilSlice (r:=D1)).mono s)))⟩
  ·refine trM a (a0e _ _ _ (B0 B C p) _ D) ?_
   rintro S a aj G ⟨Y,rfl,b⟩
   obtain⟨au,av⟩:=S
   dsimp only at a b
   have ai:Sub H G:=b.sub
   have M:=b.r
   obtain⟨T,U,u,ag,x,V,rfl,rfl,E,F,N⟩:=H0 M
   obtain⟨rfl,ad⟩:=Sl.len N
   try dsimp only at a
   have O:=New.sndI (New.sndI (b))
   obtain rfl:=oJ a
   exact⟨([.int .i64 T,.int .i64 U,.slice u V.length x]),rfl,(New.pair (New.int E) (New.pair (New.int F) (New.from O s)))⟩
theorem T02(h:Hp)(b:List Value)(c:l0)(n:G1.R h b c)(r:Int)(a:K00 c=some r):
  Tr Tryz.prog 182 #[.agg b.toArray] h λv h'=>v = .int .i64 r/\h'=h:=by
 obtain⟨k,l,e,p,f,m,rfl,rfl,i,j,d⟩:=H0 n
 obtain⟨rfl,o⟩:=Sl.len d
 unfold K00 at a
 dsimp only at a
 refine Tr.forget (Z2 (args:=[.agg #[.int .i64 k,.int .i64 l,.slice e m.length f]]) (fn:=Tryz.f182) rfl ?_)
 refine trV a (r8 _ _ _ (B0 i j d)) λq a=>?_
 refine ifB a (λg a=>?_) λg a=>?_
 ·obtain rfl:=oJ a
  exact aI rfl (Sub.refl _)
 ·obtain rfl:=oJ a
  exact aI rfl (Sub.refl _)
theorem t02(h:Hp)(b:List Value)(c:l0)(n:G1.R h b c)(r:Int)(a:d01 c=some r):
  Tr Tryz.prog 15 #[.agg b.toArray] h λv h'=>v = .int .i64 r/\h'=h:=by
 obtain⟨k,l,e,p,f,m,rfl,rfl,i,j,d⟩:=H0 n
 obtain⟨rfl,o⟩:=Sl.len d
 unfold d01 at a
 dsimp only at a
 refine Tr.forget (Z2 (args:=[.agg #[.int .i64 k,.int .i64 l,.slice e m.length f]]) (fn:=Tryz.f15) rfl ?_)
 refine trV a (d09 _ _ _ (B0 i j d)) λq a=>?_
 refine ifB a (λg a=>?_) λg a=>?_
 ·obtain rfl:=oJ a
  exact aI rfl (Sub.refl _)
 ·obtain rfl:=oJ a
  exact aI rfl (Sub.refl _)
theorem t06(h:Hp)(J:List Value)(N:L04)(a7:Y0i.R h J N)(r:Bool)(b:o6 N=some r):
  Tr Tryz.prog 91 #[.agg J.toArray] h λv h'=>v = .bool r/\h'=h:=by
 obtain⟨aY,aZ,Y,b6,ag,a0,Z,b7,ah,a1,aa,b8,ai,a2,a3,a4,ab,ca,aj,a5,a6,rfl,rfl,bG,M,p,u,O,m,n,k,bH⟩:=y0c a7
 obtain⟨rfl,bX⟩:=Sl.len p
 obtain⟨rfl,bY⟩:=Sl.len u
 obtain⟨rfl,bZ⟩:=Sl.len O
 obtain⟨rfl,b0⟩:=Sl.len k
 unfold o6 at b
 dsimp only at b
 refine Tr.forget (Z2 (args:=[.agg #[.int .i64 aY,.int .i64 aZ,.slice Y a0.length ag,.slice Z a1.length ah,.slice aa a2.length ai,.int .i64 a3,.int .i64 a4,.slice ab a5.length aj,.int .i64 a6]]) (fn:=Tryz.f91) rfl ?_)
 refine trV b (Y07 _ _ M _ _ _ _ p) λcl b=>?_
 refine trG b (λq=>L00 _ _ M _ _ _ _ u) λcm b=>?_
 refine trG b (λq=>r8 _ _ _ (B0 m n k)) λcr b=>?_
 refine ifB b (λaE b=>?_) λaE b=>?_
 ·obtain rfl:=oJ b
  exact aI rfl (Sub.refl _)
 ·refine ifB b (λaG b=>?_) λaG b=>?_
  ·refine Or.inr (Or.inr (Or.inr (Or.inl (aI (aI (by kernel_rfl) (by kernel_rfl)) ?_))))
   obtain⟨bs,az,b⟩:=C0 b
   refine Or.inl (eX (.val (.bool bs)) (aI ?_ ?_))
   ·intro bW V
    exact Tr.val (S9 _ _ _ (B0 m n (N0.mono V k)) _ _ _ _ (I3.mono V p) _ az) (aI rfl (aI rfl rfl))
   obtain⟨D,aA,b⟩:=C0 b
   refine Or.inr (eX (λv f=>∃(a:Option Addr) (c:Nat),v = .slice a D.length c/\I3.R f [.slice a D.length c] D/\D.length<=9223372036854775807) (aI (λv y z d q=>by obtain⟨a,c,e,r,l⟩:=q;exact⟨a,c,e,I3.mono d r,l⟩) (aI ?_ ?_)))
   ·intro bM bf A
    refine Tr.mono (A0g _ _ _ (B0 m n (N0.mono bf k)) _ (P9 aA A)) ?_
    rintro _ F ⟨ae,cd,am,rfl,S,d⟩
    obtain⟨rfl,aU⟩:=Sl.len S
    exact aI M00 (aI d ⟨ae,am,rfl,S,aU⟩)
   obtain⟨B,ar,b⟩:=C0 b
   refine Or.inr (eX (λv f=>∃(a:Option Addr) (c:Nat),v = .slice a B.length c/\P0.R f [.slice a B.length c] B/\B.length<=9223372036854775807) (aI (λv y z d q=>by obtain⟨a,c,e,r,l⟩:=q;exact⟨a,c,e,P0.mono d r,l⟩) (aI ?_ ?_)))
   ·intro bN bg A
    rintro _ ⟨bt,bB,rfl,a9,b1⟩
    refine Tr.mono (b0e _ _ _ _ _ a9 _ _ _ _ (P0.mono bg O) _ (P9 ar A)) ?_
    rintro _ F ⟨ac,cb,ak,rfl,P,d⟩
    obtain⟨rfl,aR⟩:=Sl.len P
    exact aI M00 (aI d ⟨ac,ak,rfl,P,aR⟩)
   obtain⟨bl,au,b⟩:=C0 b
   refine Or.inl (eX (.val (.bool bl)) (aI ?_ ?_))
   ·intro bO bh A
    rintro _ ⟨bu,bC,rfl,ba,b2⟩
    exact Tr.val (V0b _ _ _ _ _ ba _ _ _ _ (P0.mono bh u) _ (P9 au A)) (aI rfl (aI rfl rfl))
   intro bP bi
   obtain rfl:=oJ b
   exact aI rfl bi
  ·refine ifB b (λaB b=>?_) λaB b=>?_
   ·refine trV b (U05 _ _ _ (B0 m n k) _ _ _ _ p) λcn b=>?_
    refine trG b (λq=>Q04 _ _ _ (B0 m n k) _ _ _ _ u) λco b=>?_
    obtain rfl:=oJ b
    exact aI rfl (Sub.refl _)
   ·refine ifB b (λaC b=>?_) λaC b=>?_
    ·refine trV b (S9 _ _ _ (B0 m n k) _ _ _ _ p) λcp b=>?_
     refine trG b (λq=>Q04 _ _ _ (B0 m n k) _ _ _ _ u) λcq b=>?_
     obtain rfl:=oJ b
     exact aI rfl (Sub.refl _)
    ·refine ifB b (λaD b=>?_) λaD b=>?_
     ·refine Or.inr (Or.inr (Or.inr (Or.inr (eX 10 (aI (aI (by kernel_rfl) (by kernel_rfl)) ?_)))))
      obtain⟨C,av,b⟩:=C0 b
      refine Or.inr (eX (λv f=>∃(a:Option Addr) (c:Nat),v = .slice a C.length c/\P0.R f [.slice a C.length c] C/\C.length<=9223372036854775807) (aI (λv y z d q=>by obtain⟨a,c,e,r,l⟩:=q;exact⟨a,c,e,P0.mono d r,l⟩) (aI ?_ ?_)))
      ·intro bQ bj
       refine Tr.mono (Q03 _ _ _ _ _ (P0.mono bj u) _ av) ?_
       rintro _ F ⟨ad,cc,al,rfl,W⟩
       have d:=W.sub
       have Q:=W.r
       obtain⟨rfl,aS⟩:=Sl.len Q
       exact aI M00 (aI d ⟨ad,al,rfl,Q,aS⟩)
      obtain⟨bm,aw,b⟩:=C0 b
      obtain⟨bn,G⟩:=bm
      try dsimp only at b
      obtain⟨s,t,j⟩:=bn
      try dsimp only at b
      refine Or.inr (eX (λv f=>∃(o:Value),v = .tuple #[o,.bool G]/\(λv f=>∃(g:Option Addr) (i:Nat),v = .agg #[.int .i64 s,.int .i64 t,.slice g j.length i]/\J0 s/\J0 t/\N0.R f [.slice g j.length i] j/\j.length<=9223372036854775807) o f) (aI (λv y z d q=>by obtain⟨o,e,E⟩:=q;exact⟨o,e,(by obtain⟨g,i,e,w,x,f2,f3⟩:=E;exact⟨g,i,e,w,x,N0.mono d f2,f3⟩)⟩) (aI ?_ ?_)))
      ·intro bR bk
       rintro _ ⟨bv,bD,rfl,bb,b3⟩
       refine Tr.mono (H7 _ _ _ (B0 m n (N0.mono bk k)) _ _ _ _ bb _ aw) ?_
       rintro _ F ⟨bA,rfl,X⟩
       have d:=X.sub
       have a8:=X.r
       obtain⟨ct,cu,H,ce,K,cv,rfl,ao,aJ,aK,T⟩:=H0 a8
       cases ao
       obtain⟨rfl,aV⟩:=Sl.len T
       exact aI M00 (aI d ⟨(.agg #[.int .i64 s,.int .i64 t,.slice H j.length K]),rfl,⟨H,K,rfl,aJ,aK,T,aV⟩⟩)
      refine Or.inr (eX (λv f=>∃(o:Value),v = .tuple #[o,.bool G]/\(λv f=>∃(g:Option Addr) (i:Nat),v = .agg #[.int .i64 s,.int .i64 t,.slice g j.length i]/\J0 s/\J0 t/\N0.R f [.slice g j.length i] j/\j.length<=9223372036854775807) o f) (aI (λv y z d q=>by obtain⟨o,e,E⟩:=q;exact⟨o,e,(by obtain⟨g,i,e,w,x,f2,f3⟩:=E;exact⟨g,i,e,w,x,N0.mono d f2,f3⟩)⟩) (aI ?_ ?_)))
      ·intro bS ci
       rintro _ ⟨_,rfl,⟨I,L,rfl,aL,aM,bc,aW⟩⟩
       exact aI M00 (aI (Sub.refl _) ⟨(.agg #[.int .i64 s,.int .i64 t,.slice I j.length L]),rfl,⟨I,L,rfl,aL,aM,bc,aW⟩⟩)
      refine Or.inr (eX (λv f=>∃(g:Option Addr) (i:Nat),v = .agg #[.int .i64 s,.int .i64 t,.slice g j.length i]/\J0 s/\J0 t/\N0.R f [.slice g j.length i] j/\j.length<=9223372036854775807) (aI (λv y z d q=>by obtain⟨g,i,e,w,x,f2,f3⟩:=q;exact⟨g,i,e,w,x,N0.mono d f2,f3⟩) (aI ?_ ?_)))
      ·intro bT cj
       rintro _ ⟨_,rfl,⟨af,an,rfl,aN,aO,bd,aX⟩⟩
       exact aI M00 (aI (Sub.refl _) ⟨af,an,rfl,aN,aO,bd,aX⟩)
      refine Or.inl (eX (.val (.bool G)) (aI ?_ ?_))
      ·intro bU ck
       rintro _ ⟨_,rfl,⟨bx,bE,rfl,bK,bL,ch,b4⟩⟩
       exact aI rfl (aI rfl rfl)
      intro bV U
      rintro _ ⟨bz,bF,rfl,aP,aQ,be,b5⟩
      rintro _ _
      rintro _ _
      rintro _ _
      refine trG b (λq=>S9 _ _ _ (B0 aP aQ be) _ _ _ _ (I3.mono U p)) λcs b=>?_
      obtain rfl:=oJ b
      exact aI rfl U
     ·refine ifB b (λaF b=>?_) λaF b=>?_
      ·refine Or.inl (aI (aI (by kernel_rfl) (by kernel_rfl)) ?_)
       obtain⟨bo,ax,b⟩:=C0 b
       refine eX (.bool bo) (aI (S9 _ _ _ (B0 m n k) _ _ _ _ p _  ax) ?_)
       refine trG b (λq=>T02 _ _ _ (B0 m n k)) λbp b=>?_
       obtain⟨cf,ap,b⟩:=C0 b
       have bI:J0 bp:=C1 ap
       obtain rfl:=oJ b
       exact aI rfl (Sub.refl _)
      ·refine ifB b (λaH b=>?_) λaH b=>?_
       ·refine Or.inl (aI (aI (by kernel_rfl) (by kernel_rfl)) ?_)
        obtain⟨bq,ay,b⟩:=C0 b
        refine eX (.bool bq) (aI (S9 _ _ _ (B0 m n k) _ _ _ _ p _  ay) ?_)
        refine trG b (λq=>t02 _ _ _ (B0 m n k)) λbr b=>?_
        obtain⟨cg,aq,b⟩:=C0 b
        have bJ:J0 br:=C1 aq
        obtain rfl:=oJ b
        exact aI rfl (Sub.refl _)
       ·obtain rfl:=oJ b
        exact aI rfl (Sub.refl _)
theorem K02(h:Hp)(I:List Value)(P:l0)(ay:G1.R h I P)(s:Option Addr)(O t:Nat)(B:M0)(C:P0.R h [.slice s O t] B)(r:M0×Bool)(b:f01 P B=some r):
  Tr Tryz.prog 178 #[.agg I.toArray,.slice s O t] h λv h'=>∃(G:Option Addr) (N H:Nat),v = .tuple #[.slice G N H,.bool r.2]/\New P0 h h' [.slice G N H] r.1:=by
 obtain⟨y,z,X,a1,ab,A,rfl,rfl,u,w,o⟩:=H0 ay
 obtain⟨rfl,aS⟩:=Sl.len o
 obtain⟨rfl,aU⟩:=Sl.len C
 unfold f01 at b
 dsimp only at b
 refine Z2 (args:=[.agg #[.int .i64 y,.int .i64 z,.slice X A.length ab],.slice s B.length t]) (fn:=Tryz.f178) rfl ?_
 refine trV b (Q04 _ _ _ (B0 u w o) _ _ _ _ C) λbj b=>?_
 refine ifB b (λan b=>?_) λan b=>?_
 ·intro be aR J
  obtain⟨aa,ae,rfl,a9,bb,a0⟩:=E1.out (r:=Wp.int.toRp) J (show F2 (Wp.int.R h) ([]:List (List Value)) ([]:M0) from trivial)
  obtain rfl:=oJ b
  exact⟨aa,(([]:M0)).length,ae,rfl,(E1.newPlain (r:=Wp.int) J (show F2 (Wp.int.R h) ([]:List (List Value)) ([]:M0) from trivial) (X09 _))⟩
 ·refine trM b (s06 _ _ _ (B0 u w o)) ?_
  rintro W b bi x ⟨aH,a4,aM,rfl,U⟩
  have D:Sub h x:=U.sub
  have S:=U.r
  obtain⟨rfl,aX⟩:=Sl.len S
  refine trM b (s02 _ _ _ _ _ (P0.mono D C)) ?_
  rintro V b bc M ⟨aG,a2,aL,rfl,T⟩
  have p:Sub x M:=T.sub
  have Q:=T.r
  obtain⟨rfl,aV⟩:=Sl.len Q
  obtain⟨F,al,b⟩:=C0 b
  refine eX { vars:=[8,24],boxes:=[],owns:=[0],fuel:=true } (eX (λvs os h'=>∃ l g k e,vs.tail = [.int .i64 l,.int .i64 g]/\os = [k]/\Sub M h'/\J0 l/\J0 g/\F2 (Wp.int.R h') k e/\V4 V y z A W (U1 vs) l g e=some F) (eX (λ_ _=>0) (aI (eX W0 ⟨0,0,[],([]:M0),rfl,rfl,(Sub.refl _),(by decide),(by decide),(F2.up (r:=Wp.int.toRp) p (show F2 (Wp.int.R x) ([]:List (List Value)) ([]:M0) from trivial)),al⟩) ?_)))
  rintro _ _ k j aQ ⟨l,g,bp,e,⟨⟩,⟨⟩,i,K,aO,f,a⟩
  replace a:V4 V y z A W j l g e=some F:=a
  obtain _|j:=j
  ·cases a
  rw[V4.eq_2]at a
  refine ifB a (λam a=>?_) λam a=>?_
  ·refine ldI a (P0.mono i Q) λbk L a=>?_
   refine trV a (w7 _ _ _ (B0 u w (N0.mono ((D.trans p).trans i) o)) _ K _ L) λq a=>?_
   obtain⟨a5,ah,a⟩:=C0 a
   have m:J0 q:=C1 ah
   refine trM a (r06 _ _ K _ L _ m) ?_
   rintro bl a bd n ⟨aK,rfl,az,d⟩
   obtain⟨bm,bn,bo,rfl,rfl,aq,ar,au⟩:=Y1 az
   try dsimp only at a
   refine trV a (I9 _ _ _ _ _ (N0.mono ((p.trans i).trans d) S) _ _ (L1 aq ar au)) λc a=>?_
   obtain⟨a6,ai,a⟩:=C0 a
   have aP:J0 c:=C1 ai
   refine ifB a (λao a=>?_) λao a=>?_
   ·refine ifB a (λap a=>?_) λap a=>?_
    ·obtain⟨a7,aj,a⟩:=C0 a
     refine aI (P1 aj (by first|rw[F2.length (F2.up (r:=Wp.int.toRp) d f),F2.length (show F2 (Wp.int.R n) ([[.int .i64 (IntKind.i64.wrap (c+1))]]:List (List Value)) [(IntKind.i64.wrap (c+1))] from⟨⟨rfl,(O0 _)⟩,trivial⟩)]|exact congrArg (·+1) (F2.length (F2.up (r:=Wp.int.toRp) d f)))) ?_
     exact I2 j ⟨q,(IntKind.i64.wrap (g+1)),(k++([[.int .i64 (IntKind.i64.wrap (c+1))]]:List (List Value))),(e ++ [(IntKind.i64.wrap (c+1))]),rfl,rfl,(i.trans d),m,(O0 _),(F2.append (F2.up (r:=Wp.int.toRp) d f) (show F2 (Wp.int.R n) ([[.int .i64 (IntKind.i64.wrap (c+1))]]:List (List Value)) [(IntKind.i64.wrap (c+1))] from⟨⟨rfl,(O0 _)⟩,trivial⟩)),a⟩
    ·obtain⟨a8,ak,a⟩:=C0 a
     refine aI (P1 ak (by first|rw[F2.length (F2.up (r:=Wp.int.toRp) d f),F2.length (show F2 (Wp.int.R n) ([[.int .i64 (IntKind.i64.wrap ((IntKind.i64.wrap (0-c))-1))]]:List (List Value)) [(IntKind.i64.wrap ((IntKind.i64.wrap (0-c))-1))] from⟨⟨rfl,(O0 _)⟩,trivial⟩)]|exact congrArg (·+1) (F2.length (F2.up (r:=Wp.int.toRp) d f)))) ?_
     exact I2 j ⟨q,(IntKind.i64.wrap (g+1)),(k++([[.int .i64 (IntKind.i64.wrap ((IntKind.i64.wrap (0-c))-1))]]:List (List Value))),(e ++ [(IntKind.i64.wrap ((IntKind.i64.wrap (0-c))-1))]),rfl,rfl,(i.trans d),m,(O0 _),(F2.append (F2.up (r:=Wp.int.toRp) d f) (show F2 (Wp.int.R n) ([[.int .i64 (IntKind.i64.wrap ((IntKind.i64.wrap (0-c))-1))]]:List (List Value)) [(IntKind.i64.wrap ((IntKind.i64.wrap (0-c))-1))] from⟨⟨rfl,(O0 _)⟩,trivial⟩)),a⟩
   ·exact I2 j ⟨q,(IntKind.i64.wrap (g+1)),k,e,rfl,rfl,(i.trans d),m,(O0 _),(F2.up (r:=Wp.int.toRp) d f),a⟩
  ·obtain rfl:=oJ a
   try dsimp only[Y0,Z0]at b
   intro bf av af
   obtain⟨Z,ad,rfl,aB,aD,aY⟩:=E1.out (r:=Wp.int.toRp) af f
   refine Or.inl ?_
   intro bg aw ag
   obtain⟨aJ,aN,rfl,aC,aE,aZ⟩:=E1.out (r:=P0.toRp) ag (show F2 (P0.R av) ([[.slice Z e.length ad]]:List (List Value)) [e] from⟨aB,trivial⟩)
   refine trM b (R03 _ _ _ _ _ aC) ?_
   rintro aF b bh ax ⟨Y,a3,ac,rfl,E⟩
   have ba:Sub aw ax:=E.sub
   have aA:=E.r
   obtain⟨rfl,aW⟩:=Sl.len aA
   obtain rfl:=oJ b
   exact⟨Y,aF.length,ac,rfl,(New.from E ((((D.trans p).trans i).trans aD).trans aE))⟩
theorem e09(h:Hp)(ad:List Value)(al:l0)(bb:G1.R h ad al)(r:l0×Bool)(d:d8 al=some r):
  Tr Tryz.prog 278 #[.agg ad.toArray] h λv h'=>∃(ac:List Value),v = .tuple #[.agg ac.toArray,.bool r.2]/\New G1 h h' ac r.1:=by
 obtain⟨D,E,aq,bP,ax,F,rfl,rfl,B,C,y⟩:=H0 bb
 obtain⟨rfl,bJ⟩:=Sl.len y
 unfold d8 at d
 dsimp only at d
 refine Z2 (args:=[.agg #[.int .i64 D,.int .i64 E,.slice aq F.length ax]]) (fn:=Tryz.f278) rfl ?_
 refine trV d (O9 _ _ _ (B0 B C y)) λcb d=>?_
 refine ifB d (λaZ d=>?_) λaZ d=>?_
 ·obtain rfl:=oJ d
  exact⟨([.int .i64 0,.int .i64 0,.slice none 0 0]),rfl,(New.pair (New.int (by decide)) (New.pair (New.int (by decide)) ((New.nilSlice (r:=D1)).mono (Sub.refl _))))⟩
 ·refine trM d (B5 _ _ _ (B0 B C y)) ?_
  rintro bp d b8 a8 ⟨aP,bQ,ay,rfl,S⟩
  have bk:Sub h a8:=S.sub
  have an:=S.r
  obtain⟨br,bs,ap⟩:=bp
  dsimp only at d S an
  obtain⟨_,_,_,_,_,_,aB,aE,a5,a6,bd⟩:=H0 an
  cases aB
  cases aE
  obtain⟨rfl,bM⟩:=Sl.len bd
  try dsimp only at d
  have bm:=New.sndI (New.sndI (S))
  obtain⟨ab,aW,d⟩:=C0 d
  refine eX { vars:=[5],boxes:=[2],owns:=[],fuel:=true } (eX (λvs os h'=>∃ u8 x t J P U H z,vs.tail = [.int .i64 u8,.int .i64 x,.int .i64 t,.slice (some ⟨J,P,none⟩) U H]/\os = []/\Sub h h'/\J0 u8/\J0 x/\J0 t/\New N0 h h' [.slice (some ⟨J,P,none⟩) U H] z/\Q4 D E F (U1 vs) u8 x t z=some ab) (eX (λ_ _=>0) (aI (eX W0 ⟨1,br,bs,aP,0,ap.length,ay,ap,rfl,rfl,bk,(by decide),a5,a6,bm,aW⟩) ?_)))
  rintro _ _ _ _ N L ⟨u8,x,t,J,P,U,H,z,⟨⟩,⟨⟩,G,T,ah,ae,ao,c⟩
  replace c:Q4 D E F N u8 x t z=some ab:=c
  obtain _|N:=N
  ·cases c
  rw[Q4.eq_2]at c
  have am:=ao.r
  obtain⟨rfl,bK⟩:=Sl.len am
  refine ifB c (λaY c=>?_) λaY c=>?_
  ·obtain⟨Z,aU,c⟩:=C0 c
   refine eX { vars:=[8],boxes:=[],owns:=[0,1],fuel:=true } (eX (λvs os h'=>∃ b g e n f,vs.tail = [.int .i64 b]/\os = [g,n]/\Sub L h'/\J0 b/\F2 (Wp.int.R h') g e/\F2 (Wp.int.R h') n f/\K3 E D F u8 (U1 vs) b e f=some Z) (eX (λ_ _=>0) (aI (eX W0 ⟨0,[],([]:M0),[],([]:M0),rfl,rfl,(Sub.refl _),(by decide),(show F2 (Wp.int.R L) ([]:List (List Value)) ([]:M0) from trivial),(show F2 (Wp.int.R L) ([]:List (List Value)) ([]:M0) from trivial),aU⟩) ?_)))
   rintro _ g n s q ⟨b,cc,e,cd,f,⟨⟩,⟨⟩,k,i,l,j,a⟩
   replace a:K3 E D F u8 s b e f=some Z:=a
   obtain _|s:=s
   ·cases a
   rw[K3.eq_2]at a
   refine ifB a (λa0 a=>?_) λa0 a=>?_
   ·refine trV a (w7 _ _ _ (B0 B C (N0.mono (G.trans k) y)) _ i _ T) λbn a=>?_
    obtain⟨bT,aH,a⟩:=C0 a
    have bA:J0 bn:=C1 aH
    refine ifB a (λa1 a=>?_) λa1 a=>?_
    ·obtain⟨bU,aJ,a⟩:=C0 a
     refine aI (P1 aJ (by first|rw[F2.length l,F2.length (show F2 (Wp.int.R q) ([[.int .i64 b]]:List (List Value)) [b] from⟨⟨rfl,i⟩,trivial⟩)]|exact congrArg (·+1) (F2.length l))) ?_
     refine trV a (w7 _ _ _ (B0 B C (N0.mono (G.trans k) y)) _ i (IntKind.i64.wrap (0-u8)) (O0 _)) λbo a=>?_
     obtain⟨bV,aK,a⟩:=C0 a
     have bB:J0 bo:=C1 aK
     refine ifB a (λa2 a=>?_) λa2 a=>?_
     ·obtain⟨bW,aL,a⟩:=C0 a
      refine aI (P1 aL (by first|rw[F2.length j,F2.length (show F2 (Wp.int.R q) ([[.int .i64 b]]:List (List Value)) [b] from⟨⟨rfl,i⟩,trivial⟩)]|exact congrArg (·+1) (F2.length j))) ?_
      exact I2 s ⟨(IntKind.i64.wrap (b+1)),(g++([[.int .i64 b]]:List (List Value))),(e ++ [b]),(n++([[.int .i64 b]]:List (List Value))),(f ++ [b]),rfl,rfl,k,(O0 _),(F2.append l (show F2 (Wp.int.R q) ([[.int .i64 b]]:List (List Value)) [b] from⟨⟨rfl,i⟩,trivial⟩)),(F2.append j (show F2 (Wp.int.R q) ([[.int .i64 b]]:List (List Value)) [b] from⟨⟨rfl,i⟩,trivial⟩)),a⟩
     ·exact I2 s ⟨(IntKind.i64.wrap (b+1)),(g++([[.int .i64 b]]:List (List Value))),(e ++ [b]),n,f,rfl,rfl,k,(O0 _),(F2.append l (show F2 (Wp.int.R q) ([[.int .i64 b]]:List (List Value)) [b] from⟨⟨rfl,i⟩,trivial⟩)),j,a⟩
    ·refine trV a (w7 _ _ _ (B0 B C (N0.mono (G.trans k) y)) _ i (IntKind.i64.wrap (0-u8)) (O0 _)) λbq a=>?_
     obtain⟨bX,aM,a⟩:=C0 a
     have bC:J0 bq:=C1 aM
     refine ifB a (λa3 a=>?_) λa3 a=>?_
     ·obtain⟨bY,aN,a⟩:=C0 a
      refine aI (P1 aN (by first|rw[F2.length j,F2.length (show F2 (Wp.int.R q) ([[.int .i64 b]]:List (List Value)) [b] from⟨⟨rfl,i⟩,trivial⟩)]|exact congrArg (·+1) (F2.length j))) ?_
      exact I2 s ⟨(IntKind.i64.wrap (b+1)),g,e,(n++([[.int .i64 b]]:List (List Value))),(f ++ [b]),rfl,rfl,k,(O0 _),l,(F2.append j (show F2 (Wp.int.R q) ([[.int .i64 b]]:List (List Value)) [b] from⟨⟨rfl,i⟩,trivial⟩)),a⟩
     ·exact I2 s ⟨(IntKind.i64.wrap (b+1)),g,e,n,f,rfl,rfl,k,(O0 _),l,j,a⟩
   ·obtain rfl:=oJ a
    try dsimp only[Y0,Z0]at c
    obtain⟨a9,aG,c⟩:=C0 c
    obtain rfl:g.length=a9:=(F2.length l).trans (oJ aG)
    obtain⟨bZ,bx,c⟩:=C0 c
    obtain⟨aa,aV,c⟩:=C0 c
    refine eX { vars:=[59],boxes:=[2],owns:=[],fuel:=true } (eX (λvs os h'=>∃ A u w K Q V I m,vs.tail = [.int .i64 A,.int .i64 u,.int .i64 w,.slice (some ⟨K,Q,none⟩) V I]/\os = []/\Sub h h'/\J0 A/\J0 u/\J0 w/\New N0 h h' [.slice (some ⟨K,Q,none⟩) V I] m/\P4 (g).length e f u8 (U1 vs) A u w m=some aa) (eX (λ_ _=>0) (aI (eX W0 ⟨0,x,t,J,P,z.length,H,z,rfl,rfl,(G.trans k),(by decide),ah,ae,(New.mono ao k),aV⟩) ?_)))
    rintro _ _ _ _ O M ⟨A,u,w,K,Q,V,I,m,⟨⟩,⟨⟩,bj,bz,af,ag,W,a⟩
    replace a:P4 (g).length e f u8 O A u w m=some aa:=a
    obtain _|O:=O
    ·cases a
    rw[P4.eq_2]at a
    have bc:=W.r
    obtain⟨rfl,bL⟩:=Sl.len bc
    refine ifB a (λa4 a=>?_) λa4 a=>?_
    ·refine Or.inr (Or.inr (Or.inl (aI (aI (by kernel_rfl) (by kernel_rfl)) ?_)))
     obtain⟨o,aQ,a⟩:=C0 a
     obtain⟨av,bu,aC,be⟩:=c7 (show F2 (Wp.int.R M) g e from l) aQ
     obtain⟨rfl,ai⟩:=be
     refine Or.inl ?_
     apply eX
     refine aI ?_ ?_
     ·intro bD b1
      exact aI av (aI rfl (aI rfl rfl))
     refine Or.inl (eX (.val (.int .i64 o)) (aI ?_ ?_))
     ·intro bE b2
      exact eX _ (aI aC (aI rfl (aI rfl rfl)))
     obtain⟨p,aR,a⟩:=C0 a
     obtain⟨aw,bv,aD,bf⟩:=c7 (show F2 (Wp.int.R M) n f from j) aR
     obtain⟨rfl,aj⟩:=bf
     refine Or.inl ?_
     apply eX
     refine aI ?_ ?_
     ·intro bF b3
      exact aI aw (aI rfl (aI rfl rfl))
     refine Or.inl (eX (.val (.int .i64 p)) (aI ?_ ?_))
     ·intro bG b4
      exact eX _ (aI aD (aI rfl (aI rfl rfl)))
     refine Or.inl (eX (.agg [.val (.int .i64 o),.val (.int .i64 u8),.val (.int .i64 p)]) (aI ?_ ?_))
     ·intro bH b5
      exact aI rfl (aI rfl rfl)
     refine Or.inr ?_
     refine Or.inr ?_
     refine Or.inr ?_
     refine Or.inl (eX 0 (aI (aI rfl rfl) ?_))
     refine aT ?_
     obtain⟨b0,aO,a⟩:=C0 a
     obtain⟨bl,bh,ak,ar⟩:=New.app W (Sub.refl _)
     refine eX bl (aI bh (aI (P1 aO (by first|rw[ak,F2.length (show F2 (D1.R M) ([[.int .i64 o,.int .i64 u8,.int .i64 p]]:List (List Value)) [(o,u8,p)] from⟨(L1 ai T aj),trivial⟩)]|(rw[ak];rfl))) ?_))
     intro ca bI aX
     obtain⟨Y,aS,ba,bS,aA,rfl⟩:=ar _ _ _ _ _ (F3.ofPlain (T05 _) (show F2 (D1.R M) ([[.int .i64 o,.int .i64 u8,.int .i64 p]]:List (List Value)) [(o,u8,p)] from⟨(L1 ai T aj),trivial⟩)) V5.ofPlain aX
     have bi:=Y.r
     obtain⟨aF,bO⟩:=Sl.len bi
     subst aF
     refine aT ?_
     refine aT ?_
     exact I2 O ⟨(IntKind.i64.wrap (A+1)),u,w,aS,ba,(m ++ [(o,u8,p)]).length,aA,(m ++ [(o,u8,p)]),rfl,rfl,Y.sub,(O0 _),af,ag,Y,a⟩
    ·obtain rfl:=oJ a
     try dsimp only[Y0,Z0]at c
     exact I2 N ⟨(IntKind.i64.wrap (u8+1)),u,w,K,Q,m.length,I,m,rfl,rfl,bj,(O0 _),af,ag,W,c⟩
  ·obtain rfl:=oJ c
   try dsimp only[Y0,Z0]at d
   refine trM d (S02 _ _ _ _ _ am) ?_
   rintro bt d b7 a7 ⟨au,bR,az,rfl,X⟩
   have b6:Sub L a7:=X.sub
   have bg:=X.r
   obtain⟨rfl,bN⟩:=Sl.len bg
   obtain rfl:=oJ d
   exact⟨([.int .i64 x,.int .i64 t,.slice au bt.length az]),rfl,(New.pair (New.int ah) (New.pair (New.int ae) (New.from X G)))⟩
theorem f09(h:Hp)(M:List Value)(S:l0)(ax:G1.R h M S)(x:Option Addr)(Q z:Nat)(d:E2)(D:I3.R h [.slice x Q z] d)(r:l0×Bool)(b:g8 S d=some r):
  Tr Tryz.prog 248 #[.agg M.toArray,.slice x Q z] h λv h'=>∃(L:List Value),v = .tuple #[.agg L.toArray,.bool r.2]/\New G1 h h' L r.1:=by
 obtain⟨o,p,J,a9,K,g,rfl,rfl,l,B,s⟩:=H0 ax
 obtain⟨rfl,a1⟩:=Sl.len s
 obtain⟨rfl,a2⟩:=Sl.len D
 unfold g8 at b
 dsimp only at b
 refine Z2 (args:=[.agg #[.int .i64 o,.int .i64 p,.slice J g.length K],.slice x d.length z]) (fn:=Tryz.f248) rfl ?_
 refine trV b (r8 _ _ _ (B0 l B s)) λbl b=>?_
 refine ifB b (λai b=>?_) λai b=>?_
 ·obtain rfl:=oJ b
  exact⟨([.int .i64 0,.int .i64 0,.slice none 0 0]),rfl,(New.pair (New.int (by decide)) (New.pair (New.int (by decide)) ((New.nilSlice (r:=D1)).mono (Sub.refl _))))⟩
 ·obtain⟨I,af,b⟩:=C0 b
  refine eX { vars:=[26],boxes:=[],owns:=[],fuel:=true } (eX (λvs os h'=>∃ f,vs.tail = [.int .i64 f]/\os = []/\Sub h h'/\J0 f/\R4 d o p g (U1 vs) f=some I) (eX (λ_ _=>0) (aI (eX W0 ⟨0,rfl,rfl,(Sub.refl _),(by decide),af⟩) ?_)))
  rintro _ n aw ⟨f,⟨⟩,⟨⟩,c,aY,a⟩
  replace a:R4 d o p g n f=some I:=a
  obtain _|n:=n
  ·cases a
  rw[R4.eq_2]at a
  refine ifB a (λal a=>?_) λal a=>?_
  ·refine ld a (I3.mono c D) λbx aS t a=>?_
   obtain⟨aN,be,aW,rfl⟩:=Wp.slice_cell t
   obtain⟨rfl,a8⟩:=Sl.len t
   refine trV a (L00 _ _ l _ _ _ _ t) λbz a=>?_
   refine trG a (λq=>j03 _ _ _ (B0 l B (N0.mono c s)) _ _ _ _ t) λbm a=>?_
   refine ifB a (λag a=>?_) λag a=>?_
   ·obtain rfl:=oJ a
    try dsimp only[B4,I4]at b
    obtain rfl:=oJ b
    exact⟨([.int .i64 0,.int .i64 0,.slice none 0 0]),rfl,(New.pair (New.int (by decide)) (New.pair (New.int (by decide)) ((New.nilSlice (r:=D1)).mono c)))⟩
   ·exact I2 n ⟨(IntKind.i64.wrap (f+1)),rfl,rfl,c,(O0 _),a⟩
  ·obtain rfl:=oJ a
   try dsimp only[Y0,Z0]at b
   obtain⟨H,ae,b⟩:=C0 b
   refine eX { vars:=[45],boxes:=[2],owns:=[],fuel:=true } (eX (λvs os h'=>∃ e j k y C A u,vs.tail = [.int .i64 e,.int .i64 j,.int .i64 k,.slice y C A]/\os = []/\Sub aw h'/\J0 e/\J0 j/\J0 k/\N0.R h' [.slice y C A] u/\Q5 d (U1 vs) e j k u=some H) (eX (λ_ _=>0) (aI (eX W0 ⟨0,o,p,J,g.length,K,g,rfl,rfl,(Sub.refl _),(by decide),l,B,(N0.mono c s),ae⟩) ?_)))
   rintro _ _ _ _ m au ⟨e,j,k,y,C,A,u,⟨⟩,⟨⟩,i,aX,N,O,E,a⟩
   replace a:Q5 d m e j k u=some H:=a
   obtain _|m:=m
   ·cases a
   rw[Q5.eq_2]at a
   obtain⟨rfl,a3⟩:=Sl.len E
   refine ifB a (λah a=>?_) λah a=>?_
   ·refine ld a (I3.mono (c.trans i) D) λbn aO F a=>?_
    obtain⟨aL,ba,aU,rfl⟩:=Wp.slice_cell F
    obtain⟨rfl,a4⟩:=Sl.len F
    refine trM a (f0a _ _ _ (B0 N O E) _ _ _ _ F) ?_
    rintro aC a bh a0 ⟨aP,rfl,T,W⟩
    obtain⟨bo,aF,bp⟩:=aC
    dsimp only at a T
    obtain⟨aD,aE,Z,bb,ab,Y,rfl,rfl,am,an,U⟩:=H0 T
    obtain⟨rfl,a5⟩:=Sl.len U
    try dsimp only at a
    obtain⟨bf,ad,a⟩:=C0 a
    have aZ:J0 aF:=C1 ad
    refine ifB a (λaj a=>?_) λaj a=>?_
    ·obtain rfl:=oJ a
     try dsimp only[B4,I4]at b
     obtain rfl:=oJ b
     exact⟨([.int .i64 0,.int .i64 0,.slice none 0 0]),rfl,(New.pair (New.int (by decide)) (New.pair (New.int (by decide)) ((New.nilSlice (r:=D1)).mono ((c.trans i).trans W))))⟩
    ·exact I2 m ⟨(IntKind.i64.wrap (e+1)),aD,aE,Z,Y.length,ab,Y,rfl,rfl,(i.trans W),(O0 _),am,an,U,a⟩
   ·obtain rfl:=oJ a
    try dsimp only[Y0,Z0]at b
    refine trM b (e09 _ _ _ (B0 N O E)) ?_
    rintro aG b bi P ⟨aQ,rfl,w⟩
    obtain⟨bq,bu⟩:=aG
    dsimp only at b w
    have X:Sub au P:=w.sub
    have ay:=w.r
    obtain⟨br,bs,aM,bc,aV,bt,rfl,rfl,ao,ap,V⟩:=H0 ay
    obtain⟨rfl,a6⟩:=Sl.len V
    try dsimp only at b
    have bk:=New.sndI (New.sndI (w))
    refine ifB b (λak b=>?_) λak b=>?_
    ·obtain rfl:=oJ b
     exact⟨([.int .i64 0,.int .i64 0,.slice none 0 0]),rfl,(New.pair (New.int (by decide)) (New.pair (New.int (by decide)) ((New.nilSlice (r:=D1)).mono ((c.trans i).trans X))))⟩
    ·refine trM b (k01 _ _ _ (B0 ao ap V)) ?_
     rintro bv b bj av ⟨aR,rfl,G⟩
     have bg:Sub P av:=G.sub
     have az:=G.r
     obtain⟨aH,aJ,aa,bd,ac,aK,rfl,rfl,aq,ar,aA⟩:=H0 az
     obtain⟨rfl,a7⟩:=Sl.len aA
     try dsimp only at b
     have aB:=New.sndI (New.sndI (G))
     obtain rfl:=oJ b
     exact⟨([.int .i64 aH,.int .i64 aJ,.slice aa aK.length ac]),rfl,(New.pair (New.int aq) (New.pair (New.int ar) (New.from aB ((c.trans i).trans X))))⟩
theorem N00(h:Hp)(g:List Value)(j:l0)(C:G1.R h g j)(c:Option Addr)(i d:Nat)(b:M0)(l:P0.R h [.slice c i d] b)(r:l0×Bool)(a:W6 j b=some r):
  Tr Tryz.prog 179 #[.agg g.toArray,.slice c i d] h λv h'=>∃(f:List Value),v = .tuple #[.agg f.toArray,.bool r.2]/\New G1 h h' f r.1:=by
 obtain⟨z,A,n,T,p,B,rfl,rfl,s,t,k⟩:=H0 C
 obtain⟨rfl,O⟩:=Sl.len k
 obtain⟨rfl,P⟩:=Sl.len l
 unfold W6 at a
 dsimp only at a
 refine Z2 (args:=[.agg #[.int .i64 z,.int .i64 A,.slice n B.length p],.slice c b.length d]) (fn:=Tryz.f179) rfl ?_
 refine Or.inl ?_
 intro W x f3
 obtain⟨L,N,rfl,F,m,S⟩:=E1.out (r:=P0.toRp) f3 (show F2 (P0.R h) ([[.slice c b.length d]]:List (List Value)) [b] from⟨l,trivial⟩)
 refine trM a (f09 _ _ _ (B0 s t (N0.mono m k)) _ _ _ _ F) ?_
 rintro H a X y ⟨M,rfl,e⟩
 obtain⟨Y,Z⟩:=H
 dsimp only at a e
 have V:Sub x y:=e.sub
 have D:=e.r
 obtain⟨I,J,o,U,q,K,rfl,rfl,u,w,E⟩:=H0 D
 obtain⟨rfl,Q⟩:=Sl.len E
 try dsimp only at a
 have G:=New.sndI (New.sndI (e))
 obtain rfl:=oJ a
 exact⟨([.int .i64 I,.int .i64 J,.slice o K.length q]),rfl,(New.pair (New.int u) (New.pair (New.int w) (New.from G m)))⟩
theorem n07(h:Hp)(q:Option Addr)(G s:Nat)(j:E2)(H:I3.R h [.slice q G s] j)(r:E2)(e:h01 j=some r):
  Tr Tryz.prog 176 #[.slice q G s] h λv h'=>∃(B:Option Addr) (F C:Nat),v = .slice B F C/\New I3 h h' [.slice B F C] r:=by
 obtain⟨rfl,ac⟩:=Sl.len H
 unfold h01 at e
 refine Z2 (args:=[.slice q j.length s]) (fn:=Tryz.f176) rfl ?_
 obtain⟨ai,L,e⟩:=C0 e
 refine aI (C1 L) ?_
 obtain⟨A,N,e⟩:=C0 e
 refine eX { vars:=[11],boxes:=[],owns:=[0],fuel:=true } (eX (λvs os h'=>∃ f l d,vs.tail = [.int .i64 f]/\os = [l]/\Sub h h'/\J0 f/\F2 (P0.R h') l d/\(∃ Bs,F3 (P0.W h') l d Bs/\V5 h Bs.flatten)/\H6 j (U1 vs) f d=some A) (eX (λ_ _=>0) (aI (eX W0 ⟨0,(List.replicate (0:Int).toNat ([.slice none 0 0]:List Value)),(List.replicate (0:Int).toNat ([]:M0)),rfl,rfl,(Sub.refl _),(by decide),(F2.rep (p:=P0.R h) (a:=[.slice none 0 0]) (b:=[]) (X0i Wp.int h) ((0:Int).toNat)),⟨_,(show F3 (P0.W h) (List.replicate (0:Int).toNat ([.slice none 0 0]:List Value)) (List.replicate (0:Int).toNat ([]:M0)) [] from trivial),(V5.nil h)⟩,N⟩) ?_)))
 rintro _ l n Q ⟨f,ao,d,⟨⟩,⟨⟩,o,ab,m,⟨Y,y,E⟩,c⟩
 replace c:H6 j n f d=some A:=c
 obtain _|n:=n
 ·cases c
 rw[H6.eq_2]at c
 refine ifB c (λO c=>?_) λO c=>?_
 ·refine ld c (I3.mono o H) λan Z w c=>?_
  obtain⟨X,ag,aa,rfl⟩:=Wp.slice_cell w
  obtain⟨rfl,ad⟩:=Sl.len w
  obtain⟨g,i,c⟩:=C0 c
  refine Tr.mono (R01 _ _ _ _ _ w _  i) ?_
  rintro am u ⟨i,ah,t,rfl,z⟩
  have k:Sub Q u:=z.sub
  have x:=z.r
  obtain⟨rfl,ae⟩:=Sl.len x
  obtain⟨aj,M,c⟩:=C0 c
  refine aI (P1 M (by first|rw[F2.length (F2.up (r:=P0.toRp) k m),F2.length (show F2 (P0.R u) ([[.slice (some ⟨i,0,none⟩) g.length t]]:List (List Value)) [g] from⟨x,trivial⟩)]|exact congrArg (·+1) (F2.length (F2.up (r:=P0.toRp) k m)))) ?_
  obtain⟨V,U,K,_⟩:=z
  exact I2 n ⟨(IntKind.i64.wrap (f+1)),(l++([[.slice (some ⟨i,0,none⟩) g.length t]]:List (List Value))),(d ++ [g]),rfl,rfl,(o.trans k),(O0 _),(F2.append (F2.up (r:=P0.toRp) k m) (show F2 (P0.R u) ([[.slice (some ⟨i,0,none⟩) g.length t]]:List (List Value)) [g] from⟨x,trivial⟩)),⟨_,(F3.snoc U (z0k y k)),(V0e y o E K)⟩,c⟩
 ·obtain rfl:=oJ c
  try dsimp only[Y0,Z0]at e
  intro T P D
  have S:New (Wp.slice P0) h P [T] d:=(E1.fresh (r:=P0) D y o E)
  obtain⟨I,J,rfl,ak,al,af⟩:=E1.out (r:=P0.toRp) D m
  obtain rfl:=oJ e
  exact⟨I,d.length,J,rfl,S⟩
theorem H0a(h:Hp)(aA:List Value)(aW:l0)(b7:G1.R h aA aW)(ab:Option Addr)(aV ac:Nat)(M:M0)(ai:P0.R h [.slice ab aV ac] M)(r:l0×p6)(c:p00 aW M=some r):
  Tr Tryz.prog 87 #[.agg aA.toArray,.slice ab aV ac] h λv h'=>∃(az:List Value) (aq:Option Addr) (aU ay:Nat),v = .tuple #[.agg az.toArray,.slice aq aU ay]/\New G1 h h' az r.1/\u0a.R h' [.slice aq aU ay] r.2:=by
 obtain⟨b4,b5,a4,dx,bd,b6,rfl,rfl,aJ,aK,ah⟩:=H0 b7
 obtain⟨rfl,di⟩:=Sl.len ah
 obtain⟨rfl,dj⟩:=Sl.len ai
 unfold p00 at c
 dsimp only at c
 refine Z2 (args:=[.agg #[.int .i64 b4,.int .i64 b5,.slice a4 b6.length bd],.slice ab M.length ac]) (fn:=Tryz.f87) rfl ?_
 refine trM c (B5 _ _ _ (B0 aJ aK ah)) ?_
 rintro cu c dR Y ⟨aH,dz,aC,rfl,aa⟩
 have Q:Sub h Y:=aa.sub
 have aX:=aa.r
 obtain⟨a2,a3,am⟩:=cu
 dsimp only at c aa aX
 obtain⟨_,_,_,_,_,_,bk,bn,aL,aM,b8⟩:=H0 aX
 cases bk
 cases bn
 obtain⟨rfl,dn⟩:=Sl.len b8
 try dsimp only at c
 have a0:=New.sndI (New.sndI (aa))
 refine trV c (q00 _ _ _ (B0 aJ aK (N0.mono Q ah))) λdV c=>?_
 refine ifB c (λbC c=>?_) λbC c=>?_
 ·intro dS dh bp
  obtain⟨a5,be,rfl,ci,cs,dq⟩:=E1.out (r:=Q3.toRp) bp (show F2 (Q3.R Y) ([]:List (List Value)) ([]:p6) from trivial)
  obtain rfl:=oJ c
  exact⟨([.int .i64 a2,.int .i64 a3,.slice (some ⟨aH,0,none⟩) am.length aC]),a5,(([]:p6)).length,be,rfl,(New.pair (New.int aL) (New.pair (New.int aM) (New.mono a0 cs))),ci⟩
 ·obtain⟨ap,bz,c⟩:=C0 c
  refine eX { vars:=[8],boxes:=[2],owns:=[0],fuel:=true } (eX (λvs os h'=>∃ z D E U ag V S T A,vs.tail = [.int .i64 z,.int .i64 D,.int .i64 E,.slice U ag V]/\os = [T]/\Sub Y h'/\J0 z/\J0 D/\J0 E/\New N0 h h' [.slice U ag V] S/\F2 (Q3.R h') T A/\T3 M (U1 vs) z D E S A=some ap) (eX (λ_ _=>0) (aI (eX W0 ⟨0,a2,a3,(some ⟨aH,0,none⟩),am.length,aC,am,[],([]:p6),rfl,rfl,(Sub.refl _),(by decide),aL,aM,a0,(show F2 (Q3.R Y) ([]:List (List Value)) ([]:p6) from trivial),bz⟩) ?_)))
  rintro _ _ _ _ T L cX ⟨z,D,E,U,ag,V,S,ec,A,⟨⟩,⟨⟩,C,cQ,W,X,a1,y,a⟩
  replace a:T3 M L z D E S A=some ap:=a
  obtain _|L:=L
  ·cases a
  rw[T3.eq_2]at a
  have Z:=a1.r
  obtain⟨rfl,dk⟩:=Sl.len Z
  refine trM a (U0b _ _ _ (B0 W X Z)) ?_
  rintro al a dP B ⟨ar,dy,aB,rfl,N,d⟩
  obtain⟨rfl,dm⟩:=Sl.len N
  refine ifB a (λbA a=>?_) λbA a=>?_
  ·intro dQ cY bo
   obtain⟨a6,bf,rfl,cj,ct,ds⟩:=E1.out (r:=Q3.toRp) bo (F2.up (r:=Q3.toRp) d y)
   obtain rfl:=oJ a
   try dsimp only[B4,I4]at c
   obtain rfl:=oJ c
   exact⟨([.int .i64 D,.int .i64 E,.slice U S.length V]),a6,A.length,bf,rfl,(New.pair (New.int W) (New.pair (New.int X) (New.mono a1 (d.trans ct)))),cj⟩
  ·refine ldG a (P0.mono ((Q.trans C).trans d) ai) λdT cR a=>?_
   refine ifB a (λbB a=>?_) λbB a=>?_
   ·refine ldI a (P0.mono ((Q.trans C).trans d) ai) λcv cS a=>?_
    obtain⟨dC,bq,a⟩:=C0 a
    refine aI (C1 bq) ?_
    refine Or.inr (Or.inr (Or.inr (Or.inr (eX 9 (aI (aI (by kernel_rfl) (by kernel_rfl)) ?_)))))
    obtain⟨dU,bt,a⟩:=C0 a
    obtain⟨bb,cI,bl,ca⟩:=Sl.getI (r:=Q3.toRp) N bt (by decide)
    obtain⟨cw,cx,rfl,rfl,bD,bE⟩:=R00 ca
    try dsimp only at a
    refine Or.inl (eX (.hel (.slice ar al.length aB) (Int.tmod cv ((al.length:Nat):Int)) 2 0) (aI ?_ ?_))
    ·intro cZ dH
     exact aI bb (aI rfl (aI rfl rfl))
    refine Or.inl (eX (.agg [.val (.int .i64 cw),.val (.int .i64 cx)]) (aI ?_ ?_))
    ·intro c0 cq
     exact eX _ (aI (n9.up cq bl) (aI rfl (aI rfl rfl)))
    obtain⟨cy,bu,a⟩:=C0 a
    obtain⟨cz,an⟩:=cy
    try dsimp only at a
    obtain⟨t,u,f⟩:=cz
    try dsimp only at a
    refine Or.inr (eX (λv b=>∃(p:Value),v = .tuple #[p,.bool an]/\(λv b=>∃(j:Option Addr) (l:Nat),v = .agg #[.int .i64 t,.int .i64 u,.slice j f.length l]/\J0 t/\J0 u/\New N0 B b [.slice j f.length l] f/\f.length<=9223372036854775807) p b) (aI (λv J K i q=>by obtain⟨p,e,ae⟩:=q;exact⟨p,e,(by obtain⟨j,l,e,n,o,f2,f3⟩:=ae;exact⟨j,l,e,n,o,New.mono f2 i,f3⟩)⟩) (aI ?_ ?_)))
    ·intro c1 aY
     refine Tr.mono (r02 _ _ _ (B0 W X (N0.mono (d.trans aY) Z)) _ _ (C2 bD bE) _ bu) ?_
     rintro _ bX ⟨cJ,rfl,aj⟩
     have i:=aj.sub
     have cb:=aj.r
     obtain⟨dZ,d1,au,dA,aD,d2,rfl,ad,bH,bI,cg⟩:=H0 cb
     cases ad
     obtain⟨rfl,bY⟩:=Sl.len cg
     exact aI M00 (aI i ⟨(.agg #[.int .i64 t,.int .i64 u,.slice au f.length aD]),rfl,⟨au,aD,rfl,bH,bI,(New.from (New.sndI (New.sndI (aj))) aY),bY⟩⟩)
    refine Or.inr (eX (λv b=>∃(p:Value),v = .tuple #[p,.bool an]/\(λv b=>∃(j:Option Addr) (l:Nat),v = .agg #[.int .i64 t,.int .i64 u,.slice j f.length l]/\J0 t/\J0 u/\New N0 B b [.slice j f.length l] f/\f.length<=9223372036854775807) p b) (aI (λv J K i q=>by obtain⟨p,e,ae⟩:=q;exact⟨p,e,(by obtain⟨j,l,e,n,o,f2,f3⟩:=ae;exact⟨j,l,e,n,o,New.mono f2 i,f3⟩)⟩) (aI ?_ ?_)))
    ·intro c2 dI
     rintro _ ⟨_,rfl,⟨aw,aF,rfl,bL,bM,ck,b0⟩⟩
     exact aI M00 (aI (Sub.refl _) ⟨(.agg #[.int .i64 t,.int .i64 u,.slice aw f.length aF]),rfl,⟨aw,aF,rfl,bL,bM,ck,b0⟩⟩)
    refine Or.inr (eX (λv b=>∃(j:Option Addr) (l:Nat),v = .agg #[.int .i64 t,.int .i64 u,.slice j f.length l]/\J0 t/\J0 u/\New N0 B b [.slice j f.length l] f/\f.length<=9223372036854775807) (aI (λv J K i q=>by obtain⟨j,l,e,n,o,f2,f3⟩:=q;exact⟨j,l,e,n,o,New.mono f2 i,f3⟩) (aI ?_ ?_)))
    ·intro c3 dJ
     rintro _ ⟨_,rfl,⟨a7,bg,rfl,bN,bO,cl,b1⟩⟩
     exact aI M00 (aI (Sub.refl _) ⟨a7,bg,rfl,bN,bO,cl,b1⟩)
    refine Or.inl (eX (.val (.bool an)) (aI ?_ ?_))
    ·intro c4 dK
     rintro _ ⟨_,rfl,⟨cG,cO,rfl,cT,cU,dF,dt⟩⟩
     exact aI rfl (aI rfl rfl)
    intro aR O
    rintro _ ⟨a8,bh,rfl,bP,bQ,cm,du⟩
    rintro _ _
    rintro _ _
    refine ld a (u0a.mono O N) λdW cK cc a=>?_
    obtain⟨F,G,rfl,rfl,aN,aO⟩:=R00 cc
    try dsimp only at a
    obtain⟨dD,br,a⟩:=C0 a
    refine aI (P1 br (by first|rw[F2.length (F2.up (r:=Q3.toRp) (d.trans O) y),F2.length (show F2 (Q3.R aR) ([[.int .i64 F,.int .i64 G]]:List (List Value)) [(F,G)] from⟨(C2 aN aO),trivial⟩)]|exact congrArg (·+1) (F2.length (F2.up (r:=Q3.toRp) (d.trans O) y)))) ?_
    exact I2 L ⟨(IntKind.i64.wrap (z+1)),t,u,a8,f.length,bh,f,(T++([[.int .i64 F,.int .i64 G]]:List (List Value))),(A ++ [(F,G)]),rfl,rfl,((C.trans d).trans O),(O0 _),bP,bQ,(New.from cm ((Q.trans C).trans d)),(F2.append (F2.up (r:=Q3.toRp) (d.trans O) y) (show F2 (Q3.R aR) ([[.int .i64 F,.int .i64 G]]:List (List Value)) [(F,G)] from⟨(C2 aN aO),trivial⟩)),a⟩
   ·refine Or.inr (Or.inr (Or.inr (Or.inr (eX 9 (aI (aI (by kernel_rfl) (by kernel_rfl)) ?_)))))
    obtain⟨dX,bv,a⟩:=C0 a
    obtain⟨bc,cL,bm,cd⟩:=Sl.getI (r:=Q3.toRp) N bv (by decide)
    obtain⟨cA,cC,rfl,rfl,bF,bG⟩:=R00 cd
    try dsimp only at a
    refine Or.inl (eX (.hel (.slice ar al.length aB) 0 2 0) (aI ?_ ?_))
    ·intro c6 dL
     exact aI bc (aI rfl (aI rfl rfl))
    refine Or.inl (eX (.agg [.val (.int .i64 cA),.val (.int .i64 cC)]) (aI ?_ ?_))
    ·intro db cr
     exact eX _ (aI (n9.up cr bm) (aI rfl (aI rfl rfl)))
    obtain⟨cD,bx,a⟩:=C0 a
    obtain⟨cE,ao⟩:=cD
    try dsimp only at a
    obtain⟨w,x,g⟩:=cE
    try dsimp only at a
    refine Or.inr (eX (λv b=>∃(s:Value),v = .tuple #[s,.bool ao]/\(λv b=>∃(k:Option Addr) (m:Nat),v = .agg #[.int .i64 w,.int .i64 x,.slice k g.length m]/\J0 w/\J0 x/\New N0 B b [.slice k g.length m] g/\g.length<=9223372036854775807) s b) (aI (λv J K i q=>by obtain⟨s,e,af⟩:=q;exact⟨s,e,(by obtain⟨k,m,e,n,o,f2,f3⟩:=af;exact⟨k,m,e,n,o,New.mono f2 i,f3⟩)⟩) (aI ?_ ?_)))
    ·intro dc aZ
     refine Tr.mono (r02 _ _ _ (B0 W X (N0.mono (d.trans aZ) Z)) _ _ (C2 bF bG) _ bx) ?_
     rintro _ bX ⟨cM,rfl,ak⟩
     have i:=ak.sub
     have ce:=ak.r
     obtain⟨d3,ea,av,dB,aE,eb,rfl,ad,bJ,bK,ch⟩:=H0 ce
     cases ad
     obtain⟨rfl,bZ⟩:=Sl.len ch
     exact aI M00 (aI i ⟨(.agg #[.int .i64 w,.int .i64 x,.slice av g.length aE]),rfl,⟨av,aE,rfl,bJ,bK,(New.from (New.sndI (New.sndI (ak))) aZ),bZ⟩⟩)
    refine Or.inr (eX (λv b=>∃(s:Value),v = .tuple #[s,.bool ao]/\(λv b=>∃(k:Option Addr) (m:Nat),v = .agg #[.int .i64 w,.int .i64 x,.slice k g.length m]/\J0 w/\J0 x/\New N0 B b [.slice k g.length m] g/\g.length<=9223372036854775807) s b) (aI (λv J K i q=>by obtain⟨s,e,af⟩:=q;exact⟨s,e,(by obtain⟨k,m,e,n,o,f2,f3⟩:=af;exact⟨k,m,e,n,o,New.mono f2 i,f3⟩)⟩) (aI ?_ ?_)))
    ·intro dd dM
     rintro _ ⟨_,rfl,⟨ax,aG,rfl,bR,bS,cn,b2⟩⟩
     exact aI M00 (aI (Sub.refl _) ⟨(.agg #[.int .i64 w,.int .i64 x,.slice ax g.length aG]),rfl,⟨ax,aG,rfl,bR,bS,cn,b2⟩⟩)
    refine Or.inr (eX (λv b=>∃(k:Option Addr) (m:Nat),v = .agg #[.int .i64 w,.int .i64 x,.slice k g.length m]/\J0 w/\J0 x/\New N0 B b [.slice k g.length m] g/\g.length<=9223372036854775807) (aI (λv J K i q=>by obtain⟨k,m,e,n,o,f2,f3⟩:=q;exact⟨k,m,e,n,o,New.mono f2 i,f3⟩) (aI ?_ ?_)))
    ·intro df dN
     rintro _ ⟨_,rfl,⟨a9,bi,rfl,bT,bU,co,b3⟩⟩
     exact aI M00 (aI (Sub.refl _) ⟨a9,bi,rfl,bT,bU,co,b3⟩)
    refine Or.inl (eX (.val (.bool ao)) (aI ?_ ?_))
    ·intro dg dO
     rintro _ ⟨_,rfl,⟨cH,cP,rfl,cV,cW,dG,dv⟩⟩
     exact aI rfl (aI rfl rfl)
    intro aS P
    rintro _ ⟨ba,bj,rfl,bV,bW,cp,dw⟩
    rintro _ _
    rintro _ _
    refine ld a (u0a.mono P N) λdY cN cf a=>?_
    obtain⟨H,I,rfl,rfl,aP,aQ⟩:=R00 cf
    try dsimp only at a
    obtain⟨dE,bs,a⟩:=C0 a
    refine aI (P1 bs (by first|rw[F2.length (F2.up (r:=Q3.toRp) (d.trans P) y),F2.length (show F2 (Q3.R aS) ([[.int .i64 H,.int .i64 I]]:List (List Value)) [(H,I)] from⟨(C2 aP aQ),trivial⟩)]|exact congrArg (·+1) (F2.length (F2.up (r:=Q3.toRp) (d.trans P) y)))) ?_
    exact I2 L ⟨(IntKind.i64.wrap (z+1)),w,x,ba,g.length,bj,g,(T++([[.int .i64 H,.int .i64 I]]:List (List Value))),(A ++ [(H,I)]),rfl,rfl,((C.trans d).trans P),(O0 _),bV,bW,(New.from cp ((Q.trans C).trans d)),(F2.append (F2.up (r:=Q3.toRp) (d.trans P) y) (show F2 (Q3.R aS) ([[.int .i64 H,.int .i64 I]]:List (List Value)) [(H,I)] from⟨(C2 aP aQ),trivial⟩)),a⟩
theorem F0j(h:Hp)(b:Nat)(d:Value)(g:TypeId)(e:List Int)(q:Int×Int)(n:o01 h b d e q)(r:Int×E2×(Int×Int))(a:F02 e q=some r):
  Tr Tryz.prog 168 #[ptr b 0] (h.set b (y06 d q g)) λv h'=>∃(B:Option Addr) (I D:Nat) (o:Hp),v = .tuple #[.int .i64 r.1,.slice B I D]/\New I3 h o [.slice B I D] r.2.1/\Sub h o/\o01 o b d e r.2.2/\h'=o.set b (y06 d r.2.2 g):=by
 unfold F02 at a
 refine Z2 (args:=[ptr b 0]) (fn:=Tryz.f168) rfl ?_
 refine Or.inl ?_
 intro bu a9 f3
 obtain⟨bc,af,aE,rfl⟩:=E1.beside n.no f3
 obtain⟨a3,a5,rfl,aO,c,bk⟩:=E1.out (r:=Wp.int.toRp) af (show F2 (Wp.int.R h) ([[.int .i64 1],[.int .i64 2],[.int .i64 2],[.int .i64 2],[.int .i64 3]]:List (List Value)) [1,2,2,2,3] from⟨⟨rfl,(by decide)⟩,⟨⟨rfl,(by decide)⟩,⟨⟨rfl,(by decide)⟩,⟨⟨rfl,(by decide)⟩,⟨⟨rfl,(by decide)⟩,trivial⟩⟩⟩⟩⟩)
 have V:=n.mono c aE
 obtain⟨aZ,ar,a⟩:=C0 a
 obtain⟨a0,a1⟩:=aZ
 try dsimp only at a
 refine Tr.mono (p07 _ b d g e q V _ _ _ _ aO _ ar) ?_
 rintro _ _ ⟨rfl,O,rfl⟩
 obtain⟨bp,aj,a⟩:=C0 a
 have aF:J0 a0:=C1 aj
 obtain⟨aS,ao,a⟩:=C0 a
 obtain⟨y,aU⟩:=aS
 try dsimp only at a
 refine Tr.mono (B0g _ b d g e a1 O _ aF _ ao) ?_
 rintro _ _ ⟨C,bl,E,m,rfl,i,L,P,rfl⟩
 have aK:=i.r
 obtain⟨rfl,bf⟩:=Sl.len aK
 obtain⟨aV,ap,a⟩:=C0 a
 obtain⟨aW,z⟩:=aV
 try dsimp only at a
 refine Tr.mono (l01 _ b d g e aU P 14 (by decide) _ ap) ?_
 rintro _ _ ⟨rfl,k,rfl⟩
 obtain⟨bq,ak,a⟩:=C0 a
 have a7:J0 aW:=C1 ak
 refine ifB a (λay a=>?_) λay a=>?_
 ·refine Or.inl ?_
  intro bv ba ab
  obtain⟨aG,ac,aA,rfl⟩:=E1.beside k.no ab
  obtain⟨a2,a4,rfl,aL,w,bg⟩:=E1.out (r:=Wp.int.toRp) ac (show F2 (Wp.int.R m) ([[.int .i64 0],[.int .i64 1],[.int .i64 4]]:List (List Value)) [0,1,4] from⟨⟨rfl,(by decide)⟩,⟨⟨rfl,(by decide)⟩,⟨⟨rfl,(by decide)⟩,trivial⟩⟩⟩)
  have Q:=k.mono w aA
  obtain⟨aX,aq,a⟩:=C0 a
  obtain⟨aY,bB⟩:=aX
  try dsimp only at a
  refine Tr.mono (p07 _ b d g e z Q _ _ _ _ aL _ aq) ?_
  rintro _ _ ⟨rfl,S,rfl⟩
  obtain⟨br,al,a⟩:=C0 a
  have a8:J0 aY:=C1 al
  obtain rfl:=oJ a
  exact⟨C,y.length,E,aG,rfl,(New.mono (New.from i c) w),((c.trans L).trans w),S,rfl⟩
 ·refine ifB a (λaz a=>?_) λaz a=>?_
  ·intro bx bb ad
   obtain⟨p,u,aB,rfl⟩:=E1.beside k.no ad
   obtain⟨j,l,rfl,K,x,bh⟩:=E1.out (r:=Wp.int.toRp) u (show F2 (Wp.int.R m) ([[.int .i64 1],[.int .i64 (-1)]]:List (List Value)) [1,(-1)] from⟨⟨rfl,(by decide)⟩,⟨⟨rfl,(by decide)⟩,trivial⟩⟩)
   have f:=k.mono x aB
   rcases New.two i with⟨rfl,rfl,rfl⟩|⟨a6,bo,rfl⟩
   ·skip
    refine Or.inr ?_
    obtain⟨bs,am,a⟩:=C0 a
    obtain⟨M,aQ,ah,_⟩:=(E1.newPlain (r:=Wp.int) u (show F2 (Wp.int.R m) ([[.int .i64 1],[.int .i64 (-1)]]:List (List Value)) [1,(-1)] from⟨⟨rfl,(by decide)⟩,⟨⟨rfl,(by decide)⟩,trivial⟩⟩) (X09 _))
    refine aI (aI rfl (J0r am (F2.length (show F2 (P0.R p) ([[.slice j ([1,(-1)]).length l]]:List (List Value)) [[1,(-1)]] from⟨K,trivial⟩)))) ?_
    intro bz bd aw
    obtain⟨F,ae,aC,rfl⟩:=W0l.beside f.no aw
    obtain⟨s,au,aH,bm,X,rfl⟩:=New.appN (r:=P0) i x (show F3 (P0.W p) ([[.slice j ([1,(-1)]).length l]]:List (List Value)) [[1,(-1)]] [M] from⟨aQ,trivial⟩) (V5.older (Sub.refl _) ah) ae
    have aM:=s.r
    obtain⟨Z,bi⟩:=Sl.len aM
    subst Z
    have T:o01 F b d e z:=⟨aC,Sl.mono (r:=Rp.u8) (c.trans s.sub) (n.rd),f.pl,f.nm⟩
    obtain rfl:=oJ a
    exact⟨(some ⟨au,aH,none⟩),(([]:E2) ++ [[1,(-1)]]).length,X,F,rfl,(New.from s c),(c.trans s.sub),T,rfl⟩
   ·skip
    obtain⟨bt,an,a⟩:=C0 a
    obtain⟨A,aR,ai,_⟩:=(E1.newPlain (r:=Wp.int) u (show F2 (Wp.int.R m) ([[.int .i64 1],[.int .i64 (-1)]]:List (List Value)) [1,(-1)] from⟨⟨rfl,(by decide)⟩,⟨⟨rfl,(by decide)⟩,trivial⟩⟩) (X09 _))
    obtain⟨aP,J,H,N⟩:=New.app i x
    refine eX aP (aI (m0e.setB f.no J) (aI (P1 an (by first|rw[H,F2.length (show F2 (P0.R p) ([[.slice j ([1,(-1)]).length l]]:List (List Value)) [[1,(-1)]] from⟨K,trivial⟩)]|(rw[H];rfl))) ?_))
    intro bA be ax
    obtain⟨G,ag,aD,rfl⟩:=u0i.beside f.no J ax
    obtain⟨t,av,aJ,bn,Y,rfl⟩:=N ([[.slice j ([1,(-1)]).length l]]:List (List Value)) [[1,(-1)]] [A] _ _ (show F3 (P0.W p) ([[.slice j ([1,(-1)]).length l]]:List (List Value)) [[1,(-1)]] [A] from⟨aR,trivial⟩) (V5.older (Sub.refl _) ai) ag
    have aN:=t.r
    obtain⟨aa,bj⟩:=Sl.len aN
    subst aa
    have U:o01 G b d e z:=⟨aD,Sl.mono (r:=Rp.u8) (c.trans t.sub) (n.rd),f.pl,f.nm⟩
    obtain rfl:=oJ a
    exact⟨(some ⟨av,aJ,none⟩),(y ++ [[1,(-1)]]).length,Y,G,rfl,(New.from t c),(c.trans t.sub),U,rfl⟩
  ·obtain rfl:=oJ a
   exact⟨C,y.length,E,m,rfl,(New.from i c),(c.trans L),k,rfl⟩
theorem e08(h:Hp)(c:Option Addr)(j d:Nat)(b:(List Int))(k:(Wp.slice Wp.u8).R h [.slice c j d] b)(r:Int×E2)(a:g6 b=some r):
  Tr Tryz.prog 82 #[.slice c j d] h λv h'=>∃(e:Option Addr) (i f:Nat),v = .tuple #[.int .i64 r.1,.slice e i f]/\I3.R h' [.slice e i f] r.2/\Sub h h':=by
 obtain⟨rfl,D⟩:=Sl.len k
 unfold g6 at a
 refine Z2 (args:=[.slice c b.length d]) (fn:=Tryz.f82) rfl ?_
 refine trM a (D0j _ c b.length d b k) ?_
 rintro x a _ _ ⟨s,u,rfl,rfl,n⟩
 obtain⟨y,q,a⟩:=C0 a
 obtain⟨z,A,H⟩:=y
 try dsimp only at a
 refine Tr.mono (F0j _ s (.slice c b.length d) u b x n _ q) ?_
 rintro _ _ ⟨m,F,o,C,rfl,w,t,g,rfl⟩
 have l:=w.r
 obtain⟨G,p,a⟩:=C0 a
 have B:J0 z:=C1 p
 obtain⟨rfl,E⟩:=Sl.len l
 obtain rfl:=oJ a
 exact⟨m,A.length,o,rfl,(I3.mono (Sub.set g.no) l),(t.trans (Sub.set g.no))⟩
end Go.Proofs.YtmgikbbmpnbbjaaGreat
