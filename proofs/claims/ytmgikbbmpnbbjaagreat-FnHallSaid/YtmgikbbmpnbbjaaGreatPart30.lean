/- Texts of the claim, joined: The walks of batch g2 and others. -/
import Derived.Test.YtmgikbbmpnbbjaaGreatPart20
import Derived.Test.YtmgikbbmpnbbjaaGreatChecked
import Derived.Test.YtmgikbbmpnbbjaaGreatH35
import Derived.Test.YtmgikbbmpnbbjaaGreatPart28
import Derived.Test.YtmgikbbmpnbbjaaGreatSE
import Derived.Test.YtmgikbbmpnbbjaaGreatPart23
import Derived.Test.YtmgikbbmpnbbjaaGreatH40
import Derived.Test.YtmgikbbmpnbbjaaGreatH41
import Derived.Test.YtmgikbbmpnbbjaaGreatPart19
import Derived.Test.YtmgikbbmpnbbjaaGreatH36
namespace Go.Proofs.YtmgikbbmpnbbjaaGreat
open Go.H
set_option linter.unusedVariables false
set_option linter.unusedSimpArgs false
set_option maxRecDepth 10000
theorem B9(h:Hp)(d:List Value)(i:l0)(x:C0.R h d i)(r:l0)(a:n5 i=some r):
  Tr Tryz.prog 116 #[.agg d.toArray] h λv h'=>∃(f:Nat) (g c:Nat),v = .agg ([.int .i64 r.1,.int .i64 r.2.1,.slice (some ⟨f,0,none⟩) g c]:List Value).toArray/\New C0 h h' [.int .i64 r.1,.int .i64 r.2.1,.slice (some ⟨f,0,none⟩) g c] r:=by
 obtain⟨u,w,l,C,m,j,rfl,rfl,s,t,k⟩:=H0 x
 obtain⟨rfl,A⟩:=Sl.len k
 unfold n5 at a
 dsimp only at a
 refine V1 (args:=[.agg #[.int .i64 u,.int .i64 w,.slice l j.length m]]) (fn:=Tryz.f116) rfl ?_
 refine Or.inr (Or.inr (Or.inl (aI (aI (by kernel_rfl) (by kernel_rfl)) ?_)))
 refine Or.inr ?_
 refine Or.inr ?_
 refine Or.inr ?_
 refine Or.inr ?_
 refine Or.inl (eX 0 (aI (aI rfl rfl) ?_))
 refine aT ?_
 obtain⟨y,o,b⟩:=Sl.rows (r:=M1.toRp) k
 refine eX y (aI o ?_)
 obtain⟨D,p,a⟩:=B0 a
 refine aI (Z0 p (by first|rw[F2.length (show F2 (M1.R h) ([]:List (List Value)) ([]:Y0) from trivial),F2.length b]|exact congrArg (·+1) (F2.length (show F2 (M1.R h) ([]:List (List Value)) ([]:Y0) from trivial)))) ?_
 refine aT ?_
 refine aT ?_
 refine aT ?_
 intro G z e
 obtain⟨q,n,rfl,E,F,B⟩:=S0.outS (r:=M1.toRp) e (F2.append (show F2 (M1.R h) ([]:List (List Value)) ([]:Y0) from trivial) b)
 obtain rfl:=oJ a
 exact⟨q,((([]:Y0)++j)).length,n,rfl,(New.pair (New.int s) (New.pair (New.int t) (S0.newPlain (r:=M1) e (F2.append (show F2 (M1.R h) ([]:List (List Value)) ([]:Y0) from trivial) b) (m09 _))))⟩
theorem i08(h:Hp)(k:List Value)(l:l0)(z:C0.R h k l)(f:Int)(E:I0 f)(r:Int)(e:T00 l f=some r):
  Tr Tryz.prog 243 #[.agg k.toArray,.int .i64 f] h λv h'=>v = .int .i64 r/\h'=h:=by
 obtain⟨x,y,n,L,o,i,rfl,rfl,C,D,m⟩:=H0 z
 obtain⟨rfl,K⟩:=Sl.len m
 unfold T00 at e
 dsimp only at e
 refine Tr.forget (V1 (args:=[.agg #[.int .i64 x,.int .i64 y,.slice n i.length o],.int .i64 f]) (fn:=Tryz.f243) rfl ?_)
 obtain⟨j,p,e⟩:=B0 e
 refine eX { vars:=[5,11],boxes:=[],owns:=[],fuel:=true } (eX (λvs os h'=>∃ b c,vs.tail = [.int .i64 b,.int .i64 c]/\os = []/\Sub h h'/\I0 b/\I0 c/\E5 i f (C1 vs) b c=some j) (eX (λ_ _=>0) (aI (eX P0 ⟨0,0,rfl,rfl,(Sub.refl _),(by decide),(by decide),p⟩) ?_)))
 rintro _ _ d J ⟨b,c,⟨⟩,⟨⟩,g,w,F,a⟩
 replace a:E5 i f d b c=some j:=a
 obtain _|d:=d
 ·cases a
 rw[E5.eq_2]at a
 refine ifB a (λs a=>?_) λs a=>?_
 ·refine ld a (N0.mono g m) λM B A a=>?_
  obtain⟨N,O,P,rfl,rfl,G,H,I⟩:=D2 A
  try dsimp only at a
  refine ifB a (λt a=>?_) λt a=>?_
  ·refine ifB a (λu a=>?_) λu a=>?_
   ·exact D1 d ⟨(IntKind.i64.wrap ((IntKind.i64.wrap (b+1))+1)),(IntKind.i64.wrap (c+1)),rfl,rfl,g,(F0 _),(F0 _),a⟩
   ·exact D1 d ⟨(IntKind.i64.wrap (b+1)),(IntKind.i64.wrap (c+1)),rfl,rfl,g,(F0 _),(F0 _),a⟩
  ·refine ifB a (λq a=>?_) λq a=>?_
   ·exact D1 d ⟨(IntKind.i64.wrap (b+1)),(IntKind.i64.wrap (c+1)),rfl,rfl,g,(F0 _),(F0 _),a⟩
   ·exact D1 d ⟨b,(IntKind.i64.wrap (c+1)),rfl,rfl,g,w,(F0 _),a⟩
 ·obtain rfl:=oJ a
  try dsimp only[M0,O0]at e
  obtain rfl:=oJ e
  exact aI rfl g
theorem j03(h:Hp)(i:Option Addr)(n k:Nat)(d:Y0)(p:N0.R h [.slice i n k] d)(j:Option Addr)(o l:Nat)(e:Y0)(q:N0.R h [.slice j o l] e)(r:Bool)(b:Z2 d e=some r):
  Tr Tryz.prog 216 #[.slice i n k,.slice j o l] h λv h'=>v = .bool r/\h'=h:=by
 obtain⟨rfl,P⟩:=Sl.len p
 obtain⟨rfl,Q⟩:=Sl.len q
 unfold Z2 at b
 refine Tr.forget (V1 (args:=[.slice i d.length k,.slice j e.length l]) (fn:=Tryz.f216) rfl ?_)
 refine ifB b (λt b=>?_) λt b=>?_
 ·obtain rfl:=oJ b
  exact aI rfl (Sub.refl _)
 ·obtain⟨m,s,b⟩:=B0 b
  refine eX { vars:=[13],boxes:=[],owns:=[],fuel:=true } (eX (λvs os h'=>∃ c,vs.tail = [.int .i64 c]/\os = []/\Sub h h'/\I0 c/\J1 d e (C1 vs) c=some m) (eX (λ_ _=>0) (aI (eX P0 ⟨0,rfl,rfl,(Sub.refl _),(by decide),s⟩) ?_)))
  rintro _ g O ⟨c,⟨⟩,⟨⟩,f,H,a⟩
  replace a:J1 d e g c=some m:=a
  obtain _|g:=g
  ·cases a
  rw[J1.eq_2]at a
  refine ifB a (λu a=>?_) λu a=>?_
  ·refine Or.inl (aI (aI (by kernel_rfl) (by kernel_rfl)) ?_)
   refine ld a (N0.mono f p) λS F x a=>?_
   obtain⟨z,A,B,rfl,rfl,I,J,K⟩:=D2 x
   try dsimp only at a
   refine ld a (N0.mono f q) λT G y a=>?_
   obtain⟨C,D,E,rfl,rfl,L,M,N⟩:=D2 y
   try dsimp only at a
   refine eX (!eqE (z,A,B) (C,D,E)) (aI (r0j _ _ _ rfl _ _ _ _ _ _) ?_)
   refine ifB a (λw a=>?_) λw a=>?_
   ·obtain rfl:=oJ a
    try dsimp only[N3,O3]at b
    obtain rfl:=oJ b
    exact aI rfl f
   ·exact D1 g ⟨(IntKind.i64.wrap (c+1)),rfl,rfl,f,(F0 _),a⟩
  ·obtain rfl:=oJ a
   try dsimp only[M0,O0]at b
   obtain rfl:=oJ b
   exact aI rfl f
theorem g02(h:Hp)(b:List Value)(d:l0)(u:C0.R h b d)(c:List Value)(e:l0)(w:C0.R h c e)(r:Bool)(a:B6 d e=some r):
  Tr Tryz.prog 132 #[.agg b.toArray,.agg c.toArray] h λv h'=>v = .bool r/\h'=h:=by
 obtain⟨m,n,i,D,k,o,rfl,rfl,x,y,f⟩:=H0 u
 obtain⟨rfl,B⟩:=Sl.len f
 obtain⟨p,s,j,E,l,t,rfl,rfl,z,A,g⟩:=H0 w
 obtain⟨rfl,C⟩:=Sl.len g
 unfold B6 at a
 dsimp only at a
 refine Tr.forget (V1 (args:=[.agg #[.int .i64 m,.int .i64 n,.slice i o.length k],.agg #[.int .i64 p,.int .i64 s,.slice j t.length l]]) (fn:=Tryz.f132) rfl ?_)
 refine trG a (λq=>j03 _ _ _ _ _ f _ _ _ _ g) λF a=>?_
 obtain rfl:=oJ a
 exact aI rfl (Sub.refl _)
theorem S09(h:Hp)(F:List Value)(I:l0)(an:C0.R h F I)(g:Int)(aG:I0 g)(r:(List Bool))(e:o00 I g=some r):
  Tr Tryz.prog 242 #[.agg F.toArray,.int .i64 g] h λv h'=>∃(D:Option Addr) (H E:Nat),v = .slice D H E/\(Wp.slice Wp.bool).R h' [.slice D H E] r/\Sub h h':=by
 obtain⟨am,o,K,aP,S,q,rfl,rfl,aE,aF,J⟩:=H0 an
 obtain⟨rfl,aN⟩:=Sl.len J
 unfold o00 at e
 dsimp only at e
 refine V1 (args:=[.agg #[.int .i64 am,.int .i64 o,.slice K q.length S],.int .i64 g]) (fn:=Tryz.f242) rfl ?_
 obtain⟨aQ,aa,e⟩:=B0 e
 refine aI (T0 aa) ?_
 obtain⟨aX,ad,e⟩:=B0 e
 obtain⟨O,aB,W,ar⟩:=I3 (F2.rep (p:=Wp.bool.R h) (a:=[.bool false]) (b:=false) rfl (o.toNat)) ad
 refine aI O ?_
 obtain rfl:=ar
 refine eX _ (aI W ?_)
 obtain⟨B,ag,e⟩:=B0 e
 refine eX { vars:=[6],boxes:=[],owns:=[0],fuel:=true,kept:=[0] } (eX (λvs os h'=>∃ u w l,vs.tail = [.bool u]/\os = [w]/\Sub h h'/\F2 (Wp.bool.R h') w l/\W4 q (C1 vs) u l=some B) (eX (λ_ _=>0) (aI (eX P0 ⟨true,((List.replicate o.toNat ([.bool false]:List Value)).set g.toNat [.bool true]),((List.replicate o.toNat (false:Bool)).set g.toNat true),rfl,rfl,(Sub.refl _),(F2.set (p:=Wp.bool.R h) (a:=[.bool true]) (b:=true) rfl g.toNat (F2.rep (p:=Wp.bool.R h) (a:=[.bool false]) (b:=false) rfl (o.toNat))),ag⟩) ?_)))
 rintro _ w s al ⟨u,a1,l,⟨⟩,⟨⟩,z,G,d⟩
 replace d:W4 q s u l=some B:=d
 obtain _|s:=s
 ·cases d
 rw[W4.eq_2]at d
 refine ifB d (λak d=>?_) λak d=>?_
 ·obtain⟨C,ah,d⟩:=B0 d
  refine eX { vars:=[6,19],boxes:=[],owns:=[0],fuel:=true,kept:=[0] } (eX (λvs os h'=>∃ k i m j,vs.tail = [.bool k,.int .i64 i]/\os = [m]/\Sub al h'/\I0 i/\F2 (Wp.bool.R h') m j/\E4 q (C1 vs) k i j=some C) (eX (λ_ _=>0) (aI (eX P0 ⟨false,0,w,l,rfl,rfl,(Sub.refl _),(by decide),G,ah⟩) ?_)))
  rintro _ _ m n y ⟨k,i,a0,j,⟨⟩,⟨⟩,t,aH,f,c⟩
  replace c:E4 q n k i j=some C:=c
  obtain _|n:=n
  ·cases c
  rw[E4.eq_2]at c
  refine ifB c (λai c=>?_) λai c=>?_
  ·refine ld c (N0.mono (z.trans t) J) λaS ay ao c=>?_
   obtain⟨x,aU,A,rfl,rfl,aJ,aK,aL⟩:=D2 ao
   try dsimp only at c
   refine Or.inl (aI (aI (by kernel_rfl) (by kernel_rfl)) ?_)
   obtain⟨aV,ab,c⟩:=B0 c
   obtain⟨M,az,U,ap⟩:=I3 f ab
   refine aI M ?_
   obtain rfl:=ap
   refine eX _ (aI U ?_)
   obtain⟨aW,ac,c⟩:=B0 c
   obtain⟨N,aA,V,aq⟩:=I3 f ac
   refine aI N ?_
   obtain rfl:=aq
   refine eX _ (aI V ?_)
   refine ifB c (λaj c=>?_) λaj c=>?_
   ·obtain⟨aY,ae,c⟩:=B0 c
    obtain⟨P,aC,X,au⟩:=I3 f ae
    refine aI P ?_
    obtain rfl:=au
    refine eX _ (aI X ?_)
    obtain⟨aZ,af,c⟩:=B0 c
    obtain⟨Q,aD,Y,av⟩:=I3 (F2.set (p:=Wp.bool.R y) (a:=[.bool true]) (b:=true) rfl x.toNat f) af
    refine aI Q ?_
    obtain rfl:=av
    refine eX _ (aI Y ?_)
    exact D1 n ⟨true,(IntKind.i64.wrap (i+1)),((m.set x.toNat [.bool true]).set A.toNat [.bool true]),((j.set x.toNat true).set A.toNat true),rfl,rfl,t,(F0 _),(F2.set (p:=Wp.bool.R y) (a:=[.bool true]) (b:=true) rfl A.toNat (F2.set (p:=Wp.bool.R y) (a:=[.bool true]) (b:=true) rfl x.toNat f)),c⟩
   ·exact D1 n ⟨k,(IntKind.i64.wrap (i+1)),m,j,rfl,rfl,t,(F0 _),f,c⟩
  ·obtain rfl:=oJ c
   try dsimp only[M0,O0]at d
   exact D1 s ⟨k,m,j,rfl,rfl,(z.trans t),f,d⟩
 ·obtain rfl:=oJ d
  try dsimp only[M0,O0]at e
  intro aR aM Z
  obtain⟨L,T,rfl,aw,ax,aO⟩:=S0.out (r:=Wp.bool.toRp) Z G
  obtain rfl:=oJ e
  exact⟨L,l.length,T,rfl,aw,(z.trans ax)⟩
theorem h04(h:Hp)(c:Int)(A:I0 c)(r:D0)(e:N7 c=some r):
  Tr Tryz.prog 226 #[.int .i64 c] h λv h'=>∃(k:Option Addr) (o l:Nat),v = .slice k o l/\K0.R h' [.slice k o l] r/\Sub h h':=by
 unfold N7 at e
 refine V1 (args:=[.int .i64 c]) (fn:=Tryz.f226) rfl ?_
 obtain⟨j,w,e⟩:=B0 e
 refine eX { vars:=[4],boxes:=[],owns:=[0],fuel:=true } (eX (λvs os h'=>∃ a i d,vs.tail = [.int .i64 a]/\os = [i]/\Sub h h'/\I0 a/\F2 (Wp.int.R h') i d/\g8 c (C1 vs) a d=some j) (eX (λ_ _=>0) (aI (eX P0 ⟨1,[],([]:D0),rfl,rfl,(Sub.refl _),(by decide),(show F2 (Wp.int.R h) ([]:List (List Value)) ([]:D0) from trivial),w⟩) ?_)))
 rintro _ i g n ⟨a,F,d,⟨⟩,⟨⟩,p,m,f,b⟩
 replace b:g8 c g a d=some j:=b
 obtain _|g:=g
 ·cases b
 rw[g8.eq_2]at b
 refine ifB b (λx b=>?_) λx b=>?_
 ·obtain⟨D,u,b⟩:=B0 b
  refine aI (Z0 u (by first|rw[F2.length f,F2.length (show F2 (Wp.int.R n) ([[.int .i64 a],[.int .i64 (IntKind.i64.wrap (0-a))]]:List (List Value)) [a,(IntKind.i64.wrap (0-a))] from⟨⟨rfl,m⟩,⟨⟨rfl,(F0 _)⟩,trivial⟩⟩)]|exact congrArg (·+2) (F2.length f))) ?_
  exact D1 g ⟨(IntKind.i64.wrap (a+1)),(i++([[.int .i64 a],[.int .i64 (IntKind.i64.wrap (0-a))]]:List (List Value))),(d ++ [a,(IntKind.i64.wrap (0-a))]),rfl,rfl,p,(F0 _),(F2.append f (show F2 (Wp.int.R n) ([[.int .i64 a],[.int .i64 (IntKind.i64.wrap (0-a))]]:List (List Value)) [a,(IntKind.i64.wrap (0-a))] from⟨⟨rfl,m⟩,⟨⟨rfl,(F0 _)⟩,trivial⟩⟩)),b⟩
 ·obtain rfl:=oJ b
  try dsimp only[M0,O0]at e
  intro E B t
  obtain⟨q,s,rfl,y,z,C⟩:=S0.out (r:=Wp.int.toRp) t f
  obtain rfl:=oJ e
  exact⟨q,d.length,s,rfl,y,(p.trans z)⟩
theorem P06(h:Hp)(c:Option Addr)(l d:Nat)(b:Y0)(o:N0.R h [.slice c l d] b)(r:Y0)(a:u01 b=some r):
  Tr Tryz.prog 191 #[.slice c l d] h λv h'=>∃(e:Option Addr) (k f:Nat),v = .slice e k f/\New N0 h h' [.slice e k f] r:=by
 obtain⟨rfl,D⟩:=Sl.len o
 unfold u01 at a
 refine V1 (args:=[.slice c b.length d]) (fn:=Tryz.f191) rfl ?_
 obtain⟨x,s,g⟩:=Sl.rows (r:=M1.toRp) o
 refine eX x (aI s ?_)
 obtain⟨G,u,a⟩:=B0 a
 refine aI (Z0 u (by first|rw[F2.length (show F2 (M1.R h) ([]:List (List Value)) ([]:Y0) from trivial),F2.length g]|exact congrArg (·+1) (F2.length (show F2 (M1.R h) ([]:List (List Value)) ([]:Y0) from trivial)))) ?_
 refine Or.inl ?_
 intro M A t
 obtain⟨H,w,a⟩:=B0 a
 refine Tr.mono (D0l _ t (F2.append (show F2 (M1.R h) ([]:List (List Value)) ([]:Y0) from trivial) g) (T0 w)) ?_
 rintro _ B ⟨rfl,N,i,m⟩
 obtain⟨y,z,rfl,I,K,E⟩:=S0.out (r:=M1.toRp) i m
 refine Tr.mono (E0l _ i m) ?_
 rintro _ C ⟨O,j,n⟩
 obtain⟨p,q,rfl,J,L,F⟩:=S0.out (r:=M1.toRp) j n
 obtain rfl:=oJ a
 exact⟨p,((k04 eqE (h07 U0 (([]:Y0)++b)))).length,q,rfl,(S0.newPlain (r:=M1) j n (m09 _))⟩
theorem n09(h:Hp)(W:List Value)(ad:l0)(aW:C0.R h W ad)(H:Option Addr)(ac I:Nat)(u:D0)(ag:K0.R h [.slice H ac I] u)(r:l0)(d:K02 ad u=some r):
  Tr Tryz.prog 244 #[.agg W.toArray,.slice H ac I] h λv h'=>∃(V:List Value),v = .agg V.toArray/\New C0 h h' V r:=by
 obtain⟨ae,g,ah,bG,ao,O,rfl,rfl,aP,bm,af⟩:=H0 aW
 obtain⟨rfl,bD⟩:=Sl.len af
 obtain⟨rfl,aU⟩:=Sl.len ag
 unfold K02 at d
 dsimp only at d
 refine V1 (args:=[.agg #[.int .i64 ae,.int .i64 g,.slice ah O.length ao],.slice H u.length I]) (fn:=Tryz.f244) rfl ?_
 obtain⟨bI,az,d⟩:=B0 d
 refine aI (T0 az) ?_
 obtain⟨aV,ay,d⟩:=B0 d
 obtain rfl:(List.replicate g.toNat ([.int .i64 0]:List Value)).length=aV:=(F2.length (F2.rep (p:=Wp.int.R h) (a:=[.int .i64 0]) (b:=0) ⟨rfl,(by decide)⟩ (g.toNat))).trans (oJ ay)
 obtain⟨bJ,bl,d⟩:=B0 d
 obtain⟨U,aK,d⟩:=B0 d
 refine eX { vars:=[17],boxes:=[],owns:=[0],fuel:=true,kept:=[0] } (eX (λvs os h'=>∃ f B x,vs.tail = [.int .i64 f]/\os = [B]/\Sub h h'/\I0 f/\F2 (Wp.int.R h') B x/\v00 ((List.replicate g.toNat ([.int .i64 0]:List Value))).length (C1 vs) f x=some U) (eX (λ_ _=>0) (aI (eX P0 ⟨0,(List.replicate g.toNat ([.int .i64 0]:List Value)),(List.replicate g.toNat (0:Int)),rfl,rfl,(Sub.refl _),(by decide),(F2.rep (p:=Wp.int.R h) (a:=[.int .i64 0]) (b:=0) ⟨rfl,(by decide)⟩ (g.toNat)),aK⟩) ?_)))
 rintro _ B D ab ⟨f,b2,x,⟨⟩,⟨⟩,F,bo,J,c⟩
 replace c:v00 ((List.replicate g.toNat ([.int .i64 0]:List Value))).length D f x=some U:=c
 obtain _|D:=D
 ·cases c
 rw[v00.eq_2]at c
 refine ifB c (λaO c=>?_) λaO c=>?_
 ·obtain⟨bT,aB,c⟩:=B0 c
  obtain⟨aj,bd,aq,aX⟩:=I3 J aB
  refine aI aj ?_
  obtain⟨rfl,bp⟩:=aX
  refine eX _ (aI aq ?_)
  exact D1 D ⟨(IntKind.i64.wrap (f+1)),(B.set f.toNat [.int .i64 (-1)]),(x.set f.toNat (-1)),rfl,rfl,F,(F0 _),(F2.set (p:=Wp.int.R ab) (a:=[.int .i64 (-1)]) (b:=(-1)) ⟨rfl,(by decide)⟩ f.toNat J),c⟩
 ·obtain rfl:=oJ c
  try dsimp only[M0,O0]at d
  obtain⟨S,aH,d⟩:=B0 d
  refine eX { vars:=[26],boxes:=[],owns:=[0],fuel:=true,kept:=[0] } (eX (λvs os h'=>∃ e G n,vs.tail = [.int .i64 e]/\os = [G]/\Sub ab h'/\I0 e/\F2 (Wp.int.R h') G n/\u00 u (C1 vs) e n=some S) (eX (λ_ _=>0) (aI (eX P0 ⟨0,B,x,rfl,rfl,(Sub.refl _),(by decide),J,aH⟩) ?_)))
  rintro _ G C M ⟨e,b0,n,⟨⟩,⟨⟩,E,aQ,t,c⟩
  replace c:u00 u C e n=some S:=c
  obtain _|C:=C
  ·cases c
  rw[u00.eq_2]at c
  refine ifB c (λaL c=>?_) λaL c=>?_
  ·refine ldI c (K0.mono (F.trans E) ag) λQ bq c=>?_
   obtain⟨bU,aC,c⟩:=B0 c
   obtain⟨ak,be,ar,aY⟩:=I3 t aC
   refine aI ak ?_
   obtain⟨rfl,br⟩:=aY
   refine eX _ (aI ar ?_)
   exact D1 C ⟨(IntKind.i64.wrap (e+1)),(G.set Q.toNat [.int .i64 e]),(n.set Q.toNat e),rfl,rfl,E,(F0 _),(F2.set (p:=Wp.int.R M) (a:=[.int .i64 e]) (b:=e) ⟨rfl,aQ⟩ Q.toNat t),c⟩
  ·obtain rfl:=oJ c
   try dsimp only[M0,O0]at d
   obtain⟨T,aJ,d⟩:=B0 d
   refine eX { vars:=[44],boxes:=[2],owns:=[1],fuel:=true,nilsB:=[(2,2,124,3,24)] } (eX (λvs os h'=>∃ o j k A w,vs.tail = [.int .i64 o,.int .i64 j,.int .i64 k]/\os = [A]/\Sub M h'/\I0 o/\I0 j/\I0 k/\F2 (M1.R h') A w/\K9 O n (C1 vs) o j k w=some T) (eX (λ_ _=>0) (aI (eX P0 ⟨0,ae,((u.length:Nat):Int),[],([]:Y0),rfl,rfl,(Sub.refl _),(by decide),aP,(m0f aU),(show F2 (M1.R M) [] [] from trivial),aJ⟩) ?_)))
   rintro _ _ _ A z N ⟨o,j,k,b1,w,⟨⟩,⟨⟩,i,bn,K,L,y,c⟩
   replace c:K9 O n z o j k w=some T:=c
   obtain _|z:=z
   ·cases c
   rw[K9.eq_2]at c
   refine ifB c (λaM c=>?_) λaM c=>?_
   ·refine ld c (N0.mono ((F.trans E).trans i) af) λbV bf aZ c=>?_
    obtain⟨bW,s,bX,rfl,rfl,bs,Y,bt⟩:=D2 aZ
    try dsimp only at c
    obtain⟨bY,aD,c⟩:=B0 c
    obtain⟨al,bg,au,a0⟩:=I3 (F2.up (r:=Wp.int.toRp) i t) aD
    refine aI al ?_
    obtain⟨rfl,bu⟩:=a0
    refine eX _ (aI au ?_)
    obtain⟨bZ,aE,c⟩:=B0 c
    obtain⟨bh,X,a1⟩:=B01 (F2.up (r:=Wp.int.toRp) i t) aE (l0a N)
    refine aI (λq=>(X q).1) ?_
    obtain⟨rfl,bv⟩:=a1
    refine eX _ (aI (λq=>(X q).2) ?_)
    refine ifB c (λaN c=>?_) λaN c=>?_
    ·refine Or.inr (Or.inr (Or.inl (aI (aI (by kernel_rfl) (by kernel_rfl)) ?_)))
     obtain⟨l,aF,c⟩:=B0 c
     obtain⟨am,bi,av,a2⟩:=I3 (F2.up (r:=Wp.int.toRp) i t) aF
     obtain⟨rfl,Z⟩:=a2
     refine Or.inl ?_
     apply eX
     refine aI ?_ ?_
     ·intro bx bL
      exact aI am (aI rfl (aI rfl rfl))
     refine Or.inl (eX (.val (.int .i64 l)) (aI ?_ ?_))
     ·intro bz bM
      exact eX _ (aI av (aI rfl (aI rfl rfl)))
     obtain⟨m,aG,c⟩:=B0 c
     obtain⟨an,bj,aw,a3⟩:=I3 (F2.up (r:=Wp.int.toRp) i t) aG
     obtain⟨rfl,aa⟩:=a3
     refine Or.inl ?_
     apply eX
     refine aI ?_ ?_
     ·intro bA bN
      exact aI an (aI rfl (aI rfl rfl))
     refine Or.inl (eX (.val (.int .i64 m)) (aI ?_ ?_))
     ·intro bB bO
      exact eX _ (aI aw (aI rfl (aI rfl rfl)))
     refine Or.inl (eX (.agg [.val (.int .i64 l),.val (.int .i64 s),.val (.int .i64 m)]) (aI ?_ ?_))
     ·intro bC bP
      exact aI rfl (aI rfl rfl)
     refine Or.inr ?_
     refine Or.inr ?_
     refine Or.inr ?_
     refine Or.inl (eX 0 (aI (aI rfl rfl) ?_))
     refine aT ?_
     obtain⟨bK,aA,c⟩:=B0 c
     refine aI (Z0 aA (by first|rw[F2.length y,F2.length (show F2 (M1.R N) ([[.int .i64 l,.int .i64 s,.int .i64 m]]:List (List Value)) [(l,s,m)] from⟨(E1 Z Y aa),trivial⟩)]|exact congrArg (·+1) (F2.length y))) ?_
     refine aT ?_
     refine aT ?_
     exact D1 z ⟨(IntKind.i64.wrap (o+1)),j,k,(A++([[.int .i64 l,.int .i64 s,.int .i64 m]]:List (List Value))),(w ++ [(l,s,m)]),rfl,rfl,i,(F0 _),K,L,(F2.append y (show F2 (M1.R N) ([[.int .i64 l,.int .i64 s,.int .i64 m]]:List (List Value)) [(l,s,m)] from⟨(E1 Z Y aa),trivial⟩)),c⟩
    ·exact D1 z ⟨(IntKind.i64.wrap (o+1)),j,k,A,w,rfl,rfl,i,(F0 _),K,L,y,c⟩
   ·obtain rfl:=oJ c
    try dsimp only[M0,O0]at d
    refine Or.inl ?_
    intro bR aR ax
    obtain⟨bc,bk,rfl,a5,ba,bF⟩:=S0.out (r:=M1.toRp) ax y
    refine trM d (P06 _ _ _ _ _ a5) ?_
    rintro bb d bS aS ⟨ai,bH,ap,rfl,P⟩
    have bQ:Sub aR aS:=P.sub
    have a4:=P.r
    obtain⟨rfl,bE⟩:=Sl.len a4
    obtain rfl:=oJ d
    exact⟨([.int .i64 j,.int .i64 k,.slice ai bb.length ap]),rfl,(New.pair (New.int K) (New.pair (New.int L) (New.from P (((F.trans E).trans i).trans ba))))⟩
theorem a0c(h:Hp)(X:List Value)(am:l0)(bl:C0.R h X am)(e:Int)(bd:I0 e)(r:D0×N1)(f:x02 am e=some r):
  Tr Tryz.prog 250 #[.agg X.toArray,.int .i64 e] h λv h'=>∃(T:Option Addr) (aj V:Nat) (U:Option Addr) (ak W:Nat),v = .tuple #[.slice T aj V,.slice U ak W]/\K0.R h' [.slice T aj V] r.1/\R3.R h' [.slice U ak W] r.2/\Sub h h':=by
 obtain⟨A,i,ax,b7,aF,B,rfl,rfl,af,bc,ao⟩:=H0 bl
 obtain⟨rfl,bW⟩:=Sl.len ao
 unfold x02 at f
 dsimp only at f
 refine V1 (args:=[.agg #[.int .i64 A,.int .i64 i,.slice ax B.length aF],.int .i64 e]) (fn:=Tryz.f250) rfl ?_
 obtain⟨cj,aS,f⟩:=B0 f
 refine aI (T0 aS) ?_
 obtain⟨cv,aY,f⟩:=B0 f
 obtain⟨aC,bG,aK,bn⟩:=I3 (F2.rep (p:=Wp.opt.R h) (a:=[.slice none 0 0]) (b:=none) (Y0n h) (i.toNat)) aY
 refine aI aC ?_
 obtain⟨bB,ca,bL,rfl,cg,bi⟩:=bn
 obtain⟨rfl,bY⟩:=Sl.len bi
 intro cq L aP
 obtain⟨ae,Z,rfl,bv,O,b6⟩:=S0.outS (r:=Wp.int.toRp) aP (show F2 (Wp.int.R h) ([]:List (List Value)) ([]:D0) from trivial)
 refine eX _ (aI aK ?_)
 obtain⟨S,a3,f⟩:=B0 f
 refine eX { vars:=[8],boxes:=[],owns:=[0,2],fuel:=true,kept:=[0] } (eX (λvs os h'=>∃ u8 H u D t,vs.tail = [.int .i64 u8]/\os = [H,D]/\Sub L h'/\I0 u8/\F2 (Wp.opt.R h') H u/\F2 (Wp.int.R h') D t/\f4 A i B (C1 vs) u8 u t=some S) (eX (λ_ _=>0) (aI (eX P0 ⟨0,((List.replicate i.toNat ([.slice none 0 0]:List Value)).set e.toNat [.slice (some ⟨ae,0,none⟩) (([]:D0)).length Z]),((List.replicate i.toNat (none:Option D0)).set e.toNat (some ([]:D0))),([[.int .i64 e]]:List (List Value)),[e],rfl,rfl,(Sub.refl _),(by decide),(F2.set (p:=Wp.opt.R L) (a:=[.slice (some ⟨ae,0,none⟩) (([]:D0)).length Z]) (b:=some ([]:D0)) (Z0n bv) e.toNat (F2.up (r:=Wp.opt.toRp) O (F2.rep (p:=Wp.opt.R h) (a:=[.slice none 0 0]) (b:=none) (Y0n h) (i.toNat)))),(show F2 (Wp.int.R L) ([[.int .i64 e]]:List (List Value)) [e] from⟨⟨rfl,bd⟩,trivial⟩),a3⟩) ?_)))
 rintro _ H D F bT ⟨u8,cC,u,cy,t,⟨⟩,⟨⟩,N,bS,ab,E,d⟩
 replace d:f4 A i B F u8 u t=some S:=d
 obtain _|F:=F
 ·cases d
 rw[f4.eq_2]at d
 obtain⟨bg,aR,d⟩:=B0 d
 obtain rfl:D.length=bg:=(F2.length E).trans (oJ aR)
 obtain⟨ck,bQ,d⟩:=B0 d
 refine ifB d (λa5 d=>?_) λa5 d=>?_
 ·obtain⟨av,aX,d⟩:=B0 d
  obtain⟨aB,bF,aJ,bm⟩:=I3 E aX
  refine aI aB ?_
  obtain⟨rfl,be⟩:=bm
  refine eX _ (aI aJ ?_)
  refine trM d (h04 _ _ af) ?_
  rintro aw d cp bf ⟨bA,b8,bK,rfl,ap,G⟩
  obtain⟨rfl,bX⟩:=Sl.len ap
  obtain⟨Q,a2,d⟩:=B0 d
  refine eX { vars:=[36],boxes:=[],owns:=[0,2],fuel:=true,kept:=[0] } (eX (λvs os h'=>∃ k w l x m,vs.tail = [.int .i64 k]/\os = [w,x]/\Sub bf h'/\I0 k/\F2 (Wp.opt.R h') w l/\F2 (Wp.int.R h') x m/\Q2 aw A i B av (C1 vs) k l m=some Q) (eX (λ_ _=>0) (aI (eX P0 ⟨0,H,u,D,t,rfl,rfl,(Sub.refl _),(by decide),(F2.up (r:=Wp.opt.toRp) G ab),(F2.up (r:=Wp.int.toRp) G E),a2⟩) ?_)))
  rintro _ w x z ah ⟨k,cz,l,cA,m,⟨⟩,⟨⟩,C,bR,s,y,c⟩
  replace c:Q2 aw A i B av z k l m=some Q:=c
  obtain _|z:=z
  ·cases c
  rw[Q2.eq_2]at c
  refine ifB c (λba c=>?_) λba c=>?_
  ·refine ldI c (K0.mono C ap) λj J c=>?_
   refine trV c (C02 _ _ _ (j0 af bc (N0.mono (((O.trans N).trans G).trans C) ao)) _ be _ J) λg c=>?_
   obtain⟨cl,aU,c⟩:=B0 c
   have ag:I0 g:=T0 aU
   obtain⟨bz,aZ,c⟩:=B0 c
   obtain⟨bH,aa,bo⟩:=B01 s aZ (i0s ah)
   refine aI (λq=>(aa q).1) ?_
   obtain⟨bC,cb,bM,rfl,bh,bj⟩:=bo
   obtain⟨rfl,bZ⟩:=Sl.len bj
   refine eX _ (aI (λq=>(aa q).2) ?_)
   refine eX (bz.isNone) (aI (λ_=>by rw[←bh];exact N0q _ _ _ rfl _ _ _) ?_)
   refine ifB c (λbb c=>?_) λbb c=>?_
   ·obtain⟨cw,a0,c⟩:=B0 c
    obtain⟨aD,bI,aL,bp⟩:=I3 s a0
    refine aI aD ?_
    obtain⟨bD,cc,bN,rfl,ch,an⟩:=bp
    obtain⟨rfl,b0⟩:=Sl.len an
    refine eX _ (aI aL ?_)
    obtain⟨I,ac,c⟩:=B0 c
    refine Tr.mono (m00 _ _ _ _ _ an _  ac) ?_
    rintro cr K ⟨ac,cd,bO,rfl,P⟩
    have co:Sub ah K:=P.sub
    have bq:=P.r
    obtain⟨rfl,b1⟩:=Sl.len bq
    obtain⟨cm,aV,c⟩:=B0 c
    obtain⟨bx,bs,ai,ay⟩:=New.app P (Sub.refl _)
    refine eX bx (aI bs (aI (Z0 aV (by first|rw[ai,F2.length (show F2 (Wp.int.R K) ([[.int .i64 j]]:List (List Value)) [j] from⟨⟨rfl,J⟩,trivial⟩)]|(rw[ai];rfl))) ?_))
    intro cu M a4
    obtain⟨n,ad,al,cf,Y,rfl⟩:=ay _ _ _ _ _ (F3.ofPlain (W01 _) (show F2 (Wp.int.R K) ([[.int .i64 j]]:List (List Value)) [j] from⟨⟨rfl,J⟩,trivial⟩)) n4.ofPlain a4
    have aq:=n.r
    obtain⟨aN,b3⟩:=Sl.len aq
    subst aN
    obtain⟨cx,a1,c⟩:=B0 c
    obtain⟨aE,bJ,aM,br⟩:=I3 (F2.up (r:=Wp.opt.toRp) n.sub s) a1
    refine aI aE ?_
    obtain⟨bE,ce,bP,rfl,ci,bk⟩:=br
    obtain⟨rfl,b2⟩:=Sl.len bk
    refine eX _ (aI aM ?_)
    obtain⟨cn,aW,c⟩:=B0 c
    refine aI (Z0 aW (by first|rw[F2.length (F2.up (r:=Wp.int.toRp) n.sub y),F2.length (show F2 (Wp.int.R M) ([[.int .i64 g]]:List (List Value)) [g] from⟨⟨rfl,ag⟩,trivial⟩)]|exact congrArg (·+1) (F2.length (F2.up (r:=Wp.int.toRp) n.sub y)))) ?_
    exact D1 z ⟨(IntKind.i64.wrap (k+1)),(w.set g.toNat [.slice (some ⟨ad,al,none⟩) (I ++ [j]).length Y]),(l.set g.toNat (some (I ++ [j]))),(x++([[.int .i64 g]]:List (List Value))),(m ++ [g]),rfl,rfl,(C.trans n.sub),(F0 _),(F2.set (p:=Wp.opt.R M) (a:=[.slice (some ⟨ad,al,none⟩) (I ++ [j]).length Y]) (b:=some (I ++ [j])) (Z0n aq) g.toNat (F2.up (r:=Wp.opt.toRp) n.sub s)),(F2.append (F2.up (r:=Wp.int.toRp) n.sub y) (show F2 (Wp.int.R M) ([[.int .i64 g]]:List (List Value)) [g] from⟨⟨rfl,ag⟩,trivial⟩)),c⟩
   ·exact D1 z ⟨(IntKind.i64.wrap (k+1)),w,l,x,m,rfl,rfl,C,(F0 _),s,y,c⟩
  ·obtain rfl:=oJ c
   try dsimp only[M0,O0]at d
   exact D1 F ⟨(IntKind.i64.wrap (u8+1)),w,l,x,m,rfl,rfl,((N.trans G).trans C),(F0 _),s,y,d⟩
 ·obtain rfl:=oJ d
  try dsimp only[M0,O0]at f
  intro cs bU aO
  obtain⟨az,aG,rfl,bt,ar,b4⟩:=S0.out (r:=Wp.int.toRp) aO E
  intro ct bV aQ
  obtain⟨aA,aH,rfl,bu,au,b5⟩:=S0.out (r:=K0.toRp) aQ (F2.ofOpt (F2.up (r:=Wp.opt.toRp) ar ab))
  obtain rfl:=oJ f
  exact⟨az,t.length,aG,aA,(List.map (λo:Option D0=>o.getD ([]:D0)) u).length,aH,rfl,(K0.mono au bt),bu,(((O.trans N).trans ar).trans au)⟩
theorem o08(h:Hp)(f:List Value)(k:l0)(z:C0.R h f k)(r:D0)(a:i9 k=some r):
  Tr Tryz.prog 245 #[.agg f.toArray] h λv h'=>∃(d:Option Addr) (j e:Nat),v = .slice d j e/\K0.R h' [.slice d j e] r/\Sub h h':=by
 obtain⟨w,x,m,N,p,y,rfl,rfl,g,i,b⟩:=H0 z
 obtain⟨rfl,J⟩:=Sl.len b
 unfold i9 at a
 dsimp only at a
 refine V1 (args:=[.agg #[.int .i64 w,.int .i64 x,.slice m y.length p]]) (fn:=Tryz.f245) rfl ?_
 refine trV a (Y00 _ _ _ (j0 g i b)) λT a=>?_
 refine ifB a (λu a=>?_) λu a=>?_
 ·intro Q H t
  obtain⟨o,s,rfl,A,C,M⟩:=S0.out (r:=Wp.int.toRp) t (show F2 (Wp.int.R h) ([]:List (List Value)) ([]:D0) from trivial)
  obtain rfl:=oJ a
  exact⟨o,(([]:D0)).length,s,rfl,A,C⟩
 ·refine trM a (a0c _ _ _ (j0 g i b) 0 (by decide)) ?_
  rintro D a S I ⟨n,O,q,F,P,G,rfl,c,l,B⟩
  obtain⟨E,U⟩:=D
  dsimp only at a c l
  obtain⟨rfl,K⟩:=Sl.len c
  obtain⟨rfl,L⟩:=Sl.len l
  obtain rfl:=oJ a
  exact⟨n,E.length,q,rfl,c,B⟩
theorem o04(h:Hp)(j:List Value)(k:l0)(I:C0.R h j k)(r:l0)(a:J7 k=some r):
  Tr Tryz.prog 175 #[.agg j.toArray] h λv h'=>∃(i:List Value),v = .agg i.toArray/\New C0 h h' i r:=by
 obtain⟨F,G,n,ae,p,H,rfl,rfl,c,d,b⟩:=H0 I
 obtain⟨rfl,aa⟩:=Sl.len b
 unfold J7 at a
 dsimp only at a
 refine V1 (args:=[.agg #[.int .i64 F,.int .i64 G,.slice n H.length p]]) (fn:=Tryz.f175) rfl ?_
 refine trV a (Y00 _ _ _ (j0 c d b)) λam a=>?_
 refine ifB a (λx a=>?_) λx a=>?_
 ·refine trM a (B9 _ _ _ (j0 c d b)) ?_
  rintro T a ak D ⟨w,ag,s,rfl,e⟩
  have ai:Sub h D:=e.sub
  have l:=e.r
  obtain⟨U,V,W⟩:=T
  dsimp only at a e l
  obtain⟨_,_,_,_,_,_,t,u,A,B,L⟩:=H0 l
  cases t
  cases u
  obtain⟨rfl,ac⟩:=Sl.len L
  try dsimp only at a
  have O:=New.sndI (New.sndI (e))
  obtain rfl:=oJ a
  exact⟨([.int .i64 U,.int .i64 V,.slice (some ⟨w,0,none⟩) W.length s]),rfl,(New.pair (New.int A) (New.pair (New.int B) O))⟩
 ·refine Or.inr (Or.inr (Or.inl (aI (aI (by kernel_rfl) (by kernel_rfl)) ?_)))
  refine Or.inr ?_
  refine Or.inr ?_
  refine Or.inr ?_
  refine Or.inl (eX 2 (aI (aI rfl rfl) ?_))
  refine trM a (o08 _ _ _ (j0 c d b)) ?_
  rintro ao a al E ⟨X,ah,Z,rfl,m,f⟩
  obtain⟨rfl,ad⟩:=Sl.len m
  refine aI (aI rfl f) (aI (by first|exact trivial|exact rfl) ?_)
  refine trM a (n09 _ _ _ (j0 c d (N0.mono f b)) _ _ _ _ m) ?_
  rintro an a aj C ⟨Y,rfl,g⟩
  have M:Sub E C:=g.sub
  have J:=g.r
  obtain⟨P,Q,o,af,q,S,rfl,rfl,y,z,K⟩:=H0 J
  obtain⟨rfl,ab⟩:=Sl.len K
  try dsimp only at a
  have N:=New.sndI (New.sndI (g))
  refine aI (aI rfl M) (aI (by first|exact trivial|exact rfl) ?_)
  refine aT ?_
  obtain rfl:=oJ a
  exact⟨([.int .i64 P,.int .i64 Q,.slice o S.length q]),rfl,(New.pair (New.int y) (New.pair (New.int z) (New.from N f)))⟩
theorem v07(h:Hp)(ak:List Value)(aE:l0)(bQ:C0.R h ak aE)(r:l0×D0)(c:i8 aE=some r):
  Tr Tryz.prog 174 #[.agg ak.toArray] h λv h'=>∃(aj:List Value) (ah:Option Addr) (aD ai:Nat),v = .tuple #[.agg aj.toArray,.slice ah aD ai]/\New C0 h h' aj r.1/\K0.R h' [.slice ah aD ai] r.2:=by
 obtain⟨bM,T,aU,cx,a2,bN,rfl,rfl,au,av,U⟩:=H0 bQ
 obtain⟨rfl,cn⟩:=Sl.len U
 unfold i8 at c
 dsimp only at c
 refine V1 (args:=[.agg #[.int .i64 bM,.int .i64 T,.slice aU bN.length a2]]) (fn:=Tryz.f174) rfl ?_
 refine trM c (B9 _ _ _ (j0 au av U)) ?_
 rintro b6 c cL G ⟨ap,cy,al,rfl,M⟩
 have W:Sub h G:=M.sub
 have aG:=M.r
 obtain⟨aN,aO,aa⟩:=b6
 dsimp only at c M aG
 obtain⟨_,_,_,_,_,_,bb,bd,az,aA,bR⟩:=H0 aG
 cases bb
 cases bd
 obtain⟨rfl,cp⟩:=Sl.len bR
 try dsimp only at c
 have aK:=New.sndI (New.sndI (M))
 refine trV c (g04 _ _ _ (j0 au av (N0.mono W U))) λcS c=>?_
 refine ifB c (λbA c=>?_) λbA c=>?_
 ·intro cP ck bg
  obtain⟨aX,a4,rfl,bW,b1,cs⟩:=S0.out (r:=Wp.int.toRp) bg (show F2 (Wp.int.R G) ([]:List (List Value)) ([]:D0) from trivial)
  obtain rfl:=oJ c
  exact⟨([.int .i64 aN,.int .i64 aO,.slice (some ⟨ap,0,none⟩) aa.length al]),aX,(([]:D0)).length,a4,rfl,(New.pair (New.int az) (New.pair (New.int aA) (New.mono aK b1))),bW⟩
 ·obtain⟨ad,bn,c⟩:=B0 c
  refine eX { vars:=[6],boxes:=[],owns:=[0],fuel:=true } (eX (λvs os h'=>∃ f L m,vs.tail = [.int .i64 f]/\os = [L]/\Sub G h'/\I0 f/\F2 (Wp.int.R h') L m/\C6 T (C1 vs) f m=some ad) (eX (λ_ _=>0) (aI (eX P0 ⟨0,[],([]:D0),rfl,rfl,(Sub.refl _),(by decide),(show F2 (Wp.int.R G) ([]:List (List Value)) ([]:D0) from trivial),bn⟩) ?_)))
  rintro _ L H aB ⟨f,cU,m,⟨⟩,⟨⟩,K,aw,t,a⟩
  replace a:C6 T H f m=some ad:=a
  obtain _|H:=H
  ·cases a
  rw[C6.eq_2]at a
  refine ifB a (λbs a=>?_) λbs a=>?_
  ·obtain⟨cD,bh,a⟩:=B0 a
   refine aI (Z0 bh (by first|rw[F2.length t,F2.length (show F2 (Wp.int.R aB) ([[.int .i64 f]]:List (List Value)) [f] from⟨⟨rfl,aw⟩,trivial⟩)]|exact congrArg (·+1) (F2.length t))) ?_
   exact D1 H ⟨(IntKind.i64.wrap (f+1)),(L++([[.int .i64 f]]:List (List Value))),(m ++ [f]),rfl,rfl,K,(F0 _),(F2.append t (show F2 (Wp.int.R aB) ([[.int .i64 f]]:List (List Value)) [f] from⟨⟨rfl,aw⟩,trivial⟩)),a⟩
  ·obtain rfl:=oJ a
   try dsimp only[M0,O0]at c
   obtain⟨ae,bo,c⟩:=B0 c
   refine eX { vars:=[5],boxes:=[2],owns:=[],fuel:=true,pubs:=[5] } (eX (λvs os h'=>∃(B:Option Addr) (Q s:Nat) (z:D0) (j:Int) (g:Int) (C:Option Addr) (S D:Nat) (n:Y0),vs.tail = [.slice B Q s,.int .i64 j,.int .i64 g,.slice C S D]/\os = []/\Sub h h'/\New K0 h h' [.slice B Q s] z/\I0 j/\I0 g/\New N0 h h' [.slice C S D] n/\O5 (C1 vs) z j g n=some ae) (eX (λ_ _=>0) ?_))
   intro cK ci ao
   obtain⟨aY,a5,rfl,cI,aJ,ct⟩:=S0.out (r:=Wp.int.toRp) ao t
   refine aI (eX P0 ⟨aY,m.length,a5,m,aN,aO,(some ⟨ap,0,none⟩),aa.length,al,aa,rfl,rfl,((W.trans K).trans aJ),(New.from (S0.newPlain (r:=Wp.int) ao t (W01 _)) (W.trans K)),az,aA,(New.mono aK (K.trans aJ)),bo⟩) ?_
   rintro _ _ _ _ I cj ⟨B,Q,s,z,j,g,C,S,D,n,⟨⟩,⟨⟩,cJ,aL,E,F,aM,a⟩
   replace a:O5 I z j g n=some ae:=a
   obtain _|I:=I
   ·cases a
   rw[O5.eq_2]at a
   have aF:=aL.r
   obtain⟨rfl,bI⟩:=Sl.len aF
   have J:=aM.r
   obtain⟨rfl,co⟩:=Sl.len J
   refine trM a (S09 _ _ _ (j0 E F J) 0 (by decide)) ?_
   rintro aP a cM bE ⟨cb,cz,cf,rfl,aH,o⟩
   obtain⟨rfl,cq⟩:=Sl.len aH
   obtain⟨af,bp,a⟩:=B0 a
   refine eX { vars:=[8,9],boxes:=[],owns:=[],fuel:=true } (eX (λvs os h'=>∃ k l,vs.tail = [.int .i64 k,.int .i64 l]/\os = []/\Sub bE h'/\I0 k/\I0 l/\D4 g j n aP (C1 vs) k l=some af) (eX (λ_ _=>0) (aI (eX P0 ⟨0,1,rfl,rfl,(Sub.refl _),(by decide),(by decide),bp⟩) ?_)))
   rintro _ _ w P ⟨k,l,⟨⟩,⟨⟩,i,bB,ax,b⟩
   replace b:D4 g j n aP w k l=some af:=b
   obtain _|w:=w
   ·cases b
   rw[D4.eq_2]at b
   refine ifB b (λbt b=>?_) λbt b=>?_
   ·refine trV b (i08 _ _ _ (j0 E F (N0.mono (o.trans i) J)) _ ax) λb7 b=>?_
    obtain⟨cE,bi,b⟩:=B0 b
    have ch:I0 b7:=T0 bi
    obtain⟨cR,bl,b⟩:=B0 b
    obtain⟨cd,an,bS⟩:=Sl.getG (r:=Wp.bool.toRp) ((Wp.slice Wp.bool).mono i aH) bl (by decide) (d0m P)
    refine aI (λq=>(an q).1) ?_
    obtain rfl:=bS
    refine eX _ (aI (λq=>(an q).2) ?_)
    refine ifB b (λbu b=>?_) λbu b=>?_
    ·exact D1 w ⟨l,(IntKind.i64.wrap (l+1)),rfl,rfl,i,ax,(F0 _),b⟩
    ·exact D1 w ⟨k,(IntKind.i64.wrap (l+1)),rfl,rfl,i,bB,(F0 _),b⟩
   ·obtain rfl:=oJ b
    try dsimp only[M0,O0]at a
    refine ifB a (λbv a=>?_) λbv a=>?_
    ·obtain rfl:=oJ a
     try dsimp only[N3,O3]at c
     obtain rfl:=oJ c
     exact⟨([.int .i64 j,.int .i64 g,.slice C n.length D]),B,z.length,s,rfl,(New.pair (New.int E) (New.pair (New.int F) (New.mono aM (o.trans i)))),(K0.mono (o.trans i) aF)⟩
    ·obtain⟨ag,bq,a⟩:=B0 a
     refine eX { vars:=[11],boxes:=[],owns:=[1],fuel:=true } (eX (λvs os h'=>∃ d A p,vs.tail = [.int .i64 d]/\os = [A]/\Sub P h'/\I0 d/\F2 (Wp.int.R h') A p/\N5 g k (C1 vs) d p=some ag) (eX (λ_ _=>0) (aI (eX P0 ⟨0,[],([]:D0),rfl,rfl,(Sub.refl _),(by decide),(show F2 (Wp.int.R P) ([]:List (List Value)) ([]:D0) from trivial),bq⟩) ?_)))
     rintro _ A x aC ⟨d,cV,p,⟨⟩,⟨⟩,y,ay,u,b⟩
     replace b:N5 g k x d p=some ag:=b
     obtain _|x:=x
     ·cases b
     rw[N5.eq_2]at b
     refine ifB b (λbx b=>?_) λbx b=>?_
     ·refine ifB b (λbz b=>?_) λbz b=>?_
      ·obtain⟨cG,bj,b⟩:=B0 b
       refine aI (Z0 bj (by first|rw[F2.length u,F2.length (show F2 (Wp.int.R aC) ([[.int .i64 d]]:List (List Value)) [d] from⟨⟨rfl,ay⟩,trivial⟩)]|exact congrArg (·+1) (F2.length u))) ?_
       exact D1 x ⟨(IntKind.i64.wrap (d+1)),(A++([[.int .i64 d]]:List (List Value))),(p ++ [d]),rfl,rfl,y,(F0 _),(F2.append u (show F2 (Wp.int.R aC) ([[.int .i64 d]]:List (List Value)) [d] from⟨⟨rfl,ay⟩,trivial⟩)),b⟩
      ·exact D1 x ⟨(IntKind.i64.wrap (d+1)),A,p,rfl,rfl,y,(F0 _),u,b⟩
     ·obtain rfl:=oJ b
      try dsimp only[M0,O0]at a
      refine Or.inl ?_
      intro cN bF bf
      obtain⟨cc,cg,rfl,bX,X,cu⟩:=S0.out (r:=Wp.int.toRp) bf u
      refine trM a (n09 _ _ _ (j0 E F (N0.mono (((o.trans i).trans y).trans X) J)) _ _ _ _ bX) ?_
      rintro cT a cO bG ⟨ce,rfl,Y⟩
      have bZ:Sub bF bG:=Y.sub
      have bT:=Y.r
      obtain⟨b8,ca,aW,cA,a3,aQ,rfl,rfl,bC,bD,bU⟩:=H0 bT
      obtain⟨rfl,cr⟩:=Sl.len bU
      try dsimp only at a
      have b4:=New.sndI (New.sndI (Y))
      obtain⟨ab,aq,a⟩:=B0 a
      obtain⟨ac,ar,a⟩:=B0 a
      obtain⟨cH,bk,a⟩:=B0 a
      obtain⟨bO,a0,am,bm,bL,aR,aS,b2,b3,bc,bP,a1,cm,cw,bV,b0,bJ,bK,aV⟩:=New.drop aL ((((o.trans i).trans y).trans X).trans bZ) aq ar (f0t bI aq ar)
      subst bc
      refine Or.inr (Or.inr (Or.inl (aI (aI (by kernel_rfl) (by kernel_rfl)) ?_)))
      refine Or.inl (eX (.val (.slice (some ⟨bm,bL,none⟩) ab.length s)) (aI ?_ ?_))
      ·intro N V
       obtain⟨vs,e⟩:=am N V
       exact aI a0 (eX vs (aI e (λv _ O=>aI (congrArg AV.val (bO v O)) (aI rfl rfl))))
      refine Or.inl (eX (.val (.slice aR ac.length aS)) (aI ?_ ?_))
      ·intro N V
       obtain⟨vs,e⟩:=am N V
       exact aI a1 (eX vs (aI e (λv _ O=>aI (congrArg AV.val (bP v O)) (aI rfl rfl))))
      refine Or.inr ?_
      refine Or.inl (eX 0 (aI (aI rfl rfl) ?_))
      refine eX b3 (aI b0 (eX b2 (aI bV (aI (Z0 bk (by rw[bJ,bK])) ?_))))
      intro cQ cl br
      obtain⟨Z,⟨aZ,cC,ba,rfl⟩,bH⟩:=aV _ _ br
      have bY:=Z.r
      obtain⟨be,cv⟩:=Sl.len bY
      subst be
      refine aT ?_
      have b5:=bH M1.slice _ _ _ b4 (((o.trans i).trans y).trans X)
      exact D1 I ⟨aZ,(ab++ac).length,ba,(ab++ac),b8,ca,aW,aQ.length,a3,aQ,rfl,rfl,Z.sub,Z,bC,bD,b5,a⟩
theorem u03(h:Hp)(n:List Value)(o:l0)(S:C0.R h n o)(r:Bool)(a:C8 o=some r):
  Tr Tryz.prog 115 #[.agg n.toArray] h λv h'=>v = .bool r/\h'=h:=by
 obtain⟨P,p,y,aB,A,Q,rfl,rfl,f,g,b⟩:=H0 S
 obtain⟨rfl,ax⟩:=Sl.len b
 unfold C8 at a
 dsimp only at a
 refine Tr.forget (V1 (args:=[.agg #[.int .i64 P,.int .i64 p,.slice y Q.length A]]) (fn:=Tryz.f115) rfl ?_)
 refine trV a (Y00 _ _ _ (j0 f g b)) λaH a=>?_
 refine ifB a (λH a=>?_) λH a=>?_
 ·obtain rfl:=oJ a
  exact aI rfl (Sub.refl _)
 ·refine trM a (v07 _ _ _ (j0 f g b)) ?_
  rintro ab a aG N ⟨ah,af,aD,ak,rfl,m,s⟩
  obtain⟨aJ,aM⟩:=ab
  dsimp only at a m s
  have l:Sub h N:=m.sub
  have T:=m.r
  obtain⟨aK,ac,ae,aC,aj,aL,rfl,rfl,ao,ap,U⟩:=H0 T
  obtain⟨rfl,ay⟩:=Sl.len U
  try dsimp only at a
  obtain⟨rfl,az⟩:=Sl.len s
  refine Or.inr (Or.inr (Or.inr (Or.inl (aI (aI (by kernel_rfl) (by kernel_rfl)) ?_))))
  refine Or.inl (eX (.val (.bool (decide (ac=p)))) (aI ?_ ?_))
  ·intro au aF
   exact aI rfl (aI rfl rfl)
  obtain⟨ad,G,a⟩:=B0 a
  obtain⟨w,x,i⟩:=ad
  try dsimp only at a
  refine Or.inr (eX (λv I=>∃(c:Option Addr) (d:Nat),v = .agg #[.int .i64 w,.int .i64 x,.slice c i.length d]/\I0 w/\I0 x/\N0.R I [.slice c i.length d] i/\i.length<=9223372036854775807) (aI (λv am an k q=>by obtain⟨c,d,e,D,E,f2,f3⟩:=q;exact⟨c,d,e,D,E,N0.mono k f2,f3⟩) (aI ?_ ?_)))
  ·intro av X j
   refine Tr.mono (o04 _ _ _ (j0 f g (N0.mono (l.trans X) b)) _ (W5 G j)) ?_
   rintro _ aw ⟨ai,rfl,u⟩
   have k:=u.sub
   have V:=u.r
   obtain⟨aN,aO,z,aE,B,aP,rfl,C,J,K,t⟩:=H0 V
   cases C
   obtain⟨rfl,O⟩:=Sl.len t
   exact aI y01 (aI k ⟨z,B,rfl,J,K,t,O⟩)
  obtain⟨aa,F,a⟩:=B0 a
  refine Or.inl (eX (.val (.bool aa)) (aI ?_ ?_))
  ·intro aq Y j
   rintro _ ⟨ag,al,rfl,L,M,W,aA⟩
   exact Tr.val (g02 _ _ _ (j0 L M W) _ _ (j0 f g (N0.mono (l.trans Y) b)) _ (W5 F j)) (aI rfl (aI rfl rfl))
  intro ar Z
  obtain rfl:=oJ a
  exact aI rfl (l.trans Z)
theorem i04(h:Hp)(c:Int)(k:I0 c)(e:Nat)(j:TypeId)(d:Int)(l:I0 d)(b:Int)(m:I0 b)(f:h e=some (.cells #[.int .i64 d,.int .i64 b] j (0,0)))(r:Int)(a:T6 c (d,b)=some r):
  Tr Tryz.prog 241 #[.int .i64 c,ptr e 0] h λv h'=>v = .int .i64 r/\h'=h:=by
 unfold T6 at a
 dsimp only at a
 refine Tr.forget (V1 (args:=[.int .i64 c,ptr e 0]) (fn:=Tryz.f241) rfl ?_)
 refine eX (.int .i64 b) (aI ⟨rfl,by simp[Hp.cell,(f)]⟩ ?_)
 refine ifB a (λg a=>?_) λg a=>?_
 ·refine eX (.int .i64 d) (aI ⟨rfl,by simp[Hp.cell,(f)]⟩ ?_)
  obtain rfl:=oJ a
  exact aI rfl (Sub.refl _)
 ·refine eX (.int .i64 b) (aI ⟨rfl,by simp[Hp.cell,(f)]⟩ ?_)
  refine ifB a (λi a=>?_) λi a=>?_
  ·obtain rfl:=oJ a
   exact aI rfl (Sub.refl _)
  ·obtain rfl:=oJ a
   exact aI rfl (Sub.refl _)
theorem s0j(h:Hp)(G:List Value)(J:l0)(am:C0.R h G J)(r:N9)(t:Z03 J=some r):
  Tr Tryz.prog 172 #[.agg G.toArray] h λv h'=>∃(E:Option Addr) (I F:Nat),v = .slice E I F/\M0i.R h' [.slice E I F] r/\Sub h h':=by
 obtain⟨aj,ak,N,aK,P,A,rfl,rfl,az,aA,B⟩:=H0 am
 obtain⟨rfl,aG⟩:=Sl.len B
 unfold Z03 at t
 dsimp only at t
 refine V1 (args:=[.agg #[.int .i64 aj,.int .i64 ak,.slice N A.length P]]) (fn:=Tryz.f172) rfl ?_
 obtain⟨C,Z,t⟩:=B0 t
 refine eX { vars:=[12],boxes:=[],owns:=[0],fuel:=true } (eX (λvs os h'=>∃ u z w,vs.tail = [.int .i64 u]/\os = [z]/\Sub h h'/\I0 u/\F2 (j5.R h') z w/\S9 A (C1 vs) u w=some C) (eX (λ_ _=>0) (aI (eX P0 ⟨0,[],([]:N9),rfl,rfl,(Sub.refl _),(by decide),(show F2 (j5.R h) ([]:List (List Value)) ([]:N9) from trivial),Z⟩) ?_)))
 rintro _ z x ai ⟨u,aU,w,⟨⟩,⟨⟩,y,aC,H,f⟩
 replace f:S9 A x u w=some C:=f
 obtain _|x:=x
 ·cases f
 rw[S9.eq_2]at f
 refine ifB f (λag f=>?_) λag f=>?_
 ·refine ld f (N0.mono y B) λaR ax ao f=>?_
  obtain⟨c,L,a,rfl,rfl,p,aE,j⟩:=D2 ao
  try dsimp only at f
  obtain⟨M,Y,f⟩:=B0 f
  obtain⟨al,ar,S,U⟩:=Sl.cutI (r:=M1.toRp) (N0.mono y B) Y
  refine aI al (eX ar (aI S ?_))
  intro au ah _
  obtain⟨av,ay,rfl,K⟩:=U au ah
  have aH:=(Sl.len K).2
  obtain⟨D,aa,f⟩:=B0 f
  refine eX { vars:=[23],boxes:=[],owns:=[0],fuel:=true } (eX (λvs os h'=>∃ k n l,vs.tail = [.int .i64 k]/\os = [n]/\Sub ai h'/\I0 k/\F2 (j5.R h') n l/\p5 M L c a (C1 vs) k l=some D) (eX (λ_ _=>0) (aI (eX P0 ⟨0,z,w,rfl,rfl,(Sub.refl _),(by decide),H,aa⟩) ?_)))
  rintro _ n q m ⟨k,aS,l,⟨⟩,⟨⟩,s,aB,g,e⟩
  replace e:p5 M L c a q k l=some D:=e
  obtain _|q:=q
  ·cases e
  rw[p5.eq_2]at e
  refine ifB e (λab e=>?_) λab e=>?_
  ·refine ld e (N0.mono s K) λaP aw an e=>?_
   obtain⟨d,aQ,b,rfl,rfl,o,aD,i⟩:=D2 an
   try dsimp only at e
   refine ifB e (λac e=>?_) λac e=>?_
   ·exact D1 q ⟨(IntKind.i64.wrap (k+1)),n,l,rfl,rfl,s,(F0 _),g,e⟩
   ·refine ifB e (λad e=>?_) λad e=>?_
    ·obtain⟨aL,V,e⟩:=B0 e
     refine aI (Z0 V (by first|rw[F2.length g,F2.length (show F2 (j5.R m) ([[.int .i64 (if b<a then b else a),.int .i64 (if b>a then b else a)]]:List (List Value)) [((if b<a then b else a),(if b>a then b else a))] from⟨(O2 (D9 i j) (D9 i j)),trivial⟩)]|exact congrArg (·+1) (F2.length g))) ?_
     refine ifB e (λae e=>?_) λae e=>?_
     ·obtain⟨aM,W,e⟩:=B0 e
      refine aI (Z0 W (by first|rw[F2.length (F2.append g (show F2 (j5.R m) ([[.int .i64 (if b<a then b else a),.int .i64 (if b>a then b else a)]]:List (List Value)) [((if b<a then b else a),(if b>a then b else a))] from⟨(O2 (D9 i j) (D9 i j)),trivial⟩)),F2.length (show F2 (j5.R m) ([[.int .i64 (if d<c then d else c),.int .i64 (if d>c then d else c)]]:List (List Value)) [((if d<c then d else c),(if d>c then d else c))] from⟨(O2 (D9 o p) (D9 o p)),trivial⟩)]|exact congrArg (·+1) (F2.length (F2.append g (show F2 (j5.R m) ([[.int .i64 (if b<a then b else a),.int .i64 (if b>a then b else a)]]:List (List Value)) [((if b<a then b else a),(if b>a then b else a))] from⟨(O2 (D9 i j) (D9 i j)),trivial⟩))))) ?_
      exact D1 q ⟨(IntKind.i64.wrap (k+1)),((n++([[.int .i64 (if b<a then b else a),.int .i64 (if b>a then b else a)]]:List (List Value)))++([[.int .i64 (if d<c then d else c),.int .i64 (if d>c then d else c)]]:List (List Value))),((l ++ [((if b<a then b else a),(if b>a then b else a))]) ++ [((if d<c then d else c),(if d>c then d else c))]),rfl,rfl,s,(F0 _),(F2.append (F2.append g (show F2 (j5.R m) ([[.int .i64 (if b<a then b else a),.int .i64 (if b>a then b else a)]]:List (List Value)) [((if b<a then b else a),(if b>a then b else a))] from⟨(O2 (D9 i j) (D9 i j)),trivial⟩)) (show F2 (j5.R m) ([[.int .i64 (if d<c then d else c),.int .i64 (if d>c then d else c)]]:List (List Value)) [((if d<c then d else c),(if d>c then d else c))] from⟨(O2 (D9 o p) (D9 o p)),trivial⟩)),e⟩
     ·exact D1 q ⟨(IntKind.i64.wrap (k+1)),(n++([[.int .i64 (if b<a then b else a),.int .i64 (if b>a then b else a)]]:List (List Value))),(l ++ [((if b<a then b else a),(if b>a then b else a))]),rfl,rfl,s,(F0 _),(F2.append g (show F2 (j5.R m) ([[.int .i64 (if b<a then b else a),.int .i64 (if b>a then b else a)]]:List (List Value)) [((if b<a then b else a),(if b>a then b else a))] from⟨(O2 (D9 i j) (D9 i j)),trivial⟩)),e⟩
    ·refine ifB e (λaf e=>?_) λaf e=>?_
     ·obtain⟨aN,X,e⟩:=B0 e
      refine aI (Z0 X (by first|rw[F2.length g,F2.length (show F2 (j5.R m) ([[.int .i64 (if d<c then d else c),.int .i64 (if d>c then d else c)]]:List (List Value)) [((if d<c then d else c),(if d>c then d else c))] from⟨(O2 (D9 o p) (D9 o p)),trivial⟩)]|exact congrArg (·+1) (F2.length g))) ?_
      exact D1 q ⟨(IntKind.i64.wrap (k+1)),(n++([[.int .i64 (if d<c then d else c),.int .i64 (if d>c then d else c)]]:List (List Value))),(l ++ [((if d<c then d else c),(if d>c then d else c))]),rfl,rfl,s,(F0 _),(F2.append g (show F2 (j5.R m) ([[.int .i64 (if d<c then d else c),.int .i64 (if d>c then d else c)]]:List (List Value)) [((if d<c then d else c),(if d>c then d else c))] from⟨(O2 (D9 o p) (D9 o p)),trivial⟩)),e⟩
     ·exact D1 q ⟨(IntKind.i64.wrap (k+1)),n,l,rfl,rfl,s,(F0 _),g,e⟩
  ·obtain rfl:=oJ e
   try dsimp only[M0,O0]at f
   exact D1 x ⟨(IntKind.i64.wrap (u+1)),n,l,rfl,rfl,(y.trans s),(F0 _),g,f⟩
 ·obtain rfl:=oJ f
  try dsimp only[M0,O0]at t
  intro aO aF T
  obtain⟨O,Q,rfl,ap,aq,aJ⟩:=S0.out (r:=j5.toRp) T H
  obtain rfl:=oJ t
  exact⟨O,w.length,Q,rfl,ap,(y.trans aq)⟩
theorem n0d(h:Hp)(d:List Value)(g:l0)(u:C0.R h d g)(r:d6×Bool)(a:A00 g=some r):
  Tr Tryz.prog 265 #[.agg d.toArray] h λv h'=>∃(c:List Value),v = .tuple #[.agg c.toArray,.bool r.2]/\j5.R h' c r.1/\Sub h h':=by
 obtain⟨q,s,k,F,l,t,rfl,rfl,e,f,b⟩:=H0 u
 obtain⟨rfl,D⟩:=Sl.len b
 unfold A00 at a
 dsimp only at a
 refine V1 (args:=[.agg #[.int .i64 q,.int .i64 s,.slice k t.length l]]) (fn:=Tryz.f265) rfl ?_
 refine trV a (g04 _ _ _ (j0 e f b)) λI a=>?_
 refine ifB a (λm a=>?_) λm a=>?_
 ·obtain rfl:=oJ a
  exact⟨([.int .i64 0,.int .i64 0]),rfl,(O2 (by decide) (by decide)),(Sub.refl _)⟩
 ·refine trM a (s0j _ _ _ (j0 e f b)) ?_
  rintro J a H C ⟨z,G,B,rfl,i,j⟩
  obtain⟨rfl,E⟩:=Sl.len i
  refine ifB a (λn a=>?_) λn a=>?_
  ·obtain rfl:=oJ a
   exact⟨([.int .i64 0,.int .i64 0]),rfl,(O2 (by decide) (by decide)),j⟩
  ·refine ld a i λK A w a=>?_
   obtain⟨x,y,rfl,rfl,o,p⟩:=W03 w
   try dsimp only at a
   obtain rfl:=oJ a
   exact⟨([.int .i64 x,.int .i64 y]),rfl,(O2 o p),j⟩
theorem p09(h:Hp)(B:List Value)(K:l0)(ay:C0.R h B K)(C:List Value)(L:d6)(az:j5.R h C L)(r:l0×Bool)(b:n8 K L=some r):
  Tr Tryz.prog 173 #[.agg B.toArray,.agg C.toArray] h λv h'=>∃(A:List Value),v = .tuple #[.agg A.toArray,.bool r.2]/\New C0 h h' A r.1:=by
 obtain⟨av,aw,S,aY,V,ax,rfl,rfl,E,F,t⟩:=H0 ay
 obtain⟨rfl,aV⟩:=Sl.len t
 obtain⟨d,f,rfl,rfl,G,H⟩:=W03 az
 unfold n8 at b
 dsimp only at b
 refine V1 (args:=[.agg #[.int .i64 av,.int .i64 aw,.slice S ax.length V],.agg #[.int .i64 d,.int .i64 f]]) (fn:=Tryz.f173) rfl ?_
 refine trM b (B9 _ _ _ (j0 E F t)) ?_
 rintro aH b ba J ⟨o,aZ,D,rfl,n⟩
 have N:Sub h J:=n.sub
 have M:=n.r
 obtain⟨P,Q,k⟩:=aH
 dsimp only at b n M
 obtain⟨_,_,_,_,_,_,X,Y,I,am,aB⟩:=H0 M
 cases X
 cases Y
 obtain⟨rfl,aW⟩:=Sl.len aB
 try dsimp only at b
 have w:=New.sndI (New.sndI (n))
 refine trV b (g04 _ _ _ (j0 E F (N0.mono N t))) λbj b=>?_
 refine ifB b (λag b=>?_) λag b=>?_
 ·obtain rfl:=oJ b
  exact⟨([.int .i64 P,.int .i64 Q,.slice (some ⟨o,0,none⟩) k.length D]),rfl,(New.pair (New.int I) (New.pair (New.int am) w))⟩
 ·intro c q
  have Z:(Hp.set J c (.cells #[.int .i64 d,.int .i64 f] 155 (0,0))) c=some (.cells #[.int .i64 d,.int .i64 f] 155 (0,0)):=Hp.set_same _ _ _
  have au:c≠o:=λe=>New.blk w (Sub.refl _) (e▸q)
  obtain⟨z,ae,b⟩:=B0 b
  refine eX { vars:=[39],boxes:=[],owns:=[],fuel:=true } (eX (λvs os h'=>∃ g i,vs.tail = [.int .i64 g]/\os = []/\Sub h h'/\I0 g/\New N0 h h' [.slice (some ⟨o,0,none⟩) k.length D] i/\h' c=some (.cells #[.int .i64 d,.int .i64 f] 155 (0,0))/\Q4 k d f (C1 vs) g i=some z) (eX (λ_ _=>0) (aI (eX P0 ⟨0,k,rfl,rfl,(N.trans (Sub.set q)),(by decide),(New.mono w (Sub.set q)),Z,ae⟩) ?_)))
  rintro _ m ao ⟨g,i,⟨⟩,⟨⟩,aG,aN,O,s,a⟩
  replace a:Q4 k d f m g i=some z:=a
  obtain _|m:=m
  ·cases a
  rw[Q4.eq_2]at a
  have u:=O.r
  refine ifB a (λaf a=>?_) λaf a=>?_
  ·refine ld a u λbc aK aA a=>?_
   obtain⟨bd,y,be,rfl,rfl,ai,aj,ak⟩:=D2 aA
   try dsimp only at a
   refine Or.inr (Or.inr (Or.inl (aI (aI (by kernel_rfl) (by kernel_rfl)) ?_)))
   obtain⟨j,ac,a⟩:=B0 a
   obtain⟨a1,aa,a⟩:=B0 a
   have al:I0 j:=T0 aa
   refine Or.inl (eX (.val (.int .i64 j)) (aI ?_ ?_))
   ·intro aR aE
    exact Tr.val (i04 _ _ ai c 155 _ G _ H (aE _ _ s) _ ac) (aI rfl (aI rfl rfl))
   obtain⟨l,ad,a⟩:=B0 a
   obtain⟨a2,ab,a⟩:=B0 a
   have an:I0 l:=T0 ab
   refine Or.inl (eX (.val (.int .i64 l)) (aI ?_ ?_))
   ·intro aS aF
    exact Tr.val (i04 _ _ ak c 155 _ G _ H (aF _ _ s) _ ad) (aI rfl (aI rfl rfl))
   refine Or.inl (eX (.agg [.val (.int .i64 j),.val (.int .i64 y),.val (.int .i64 l)]) (aI ?_ ?_))
   ·intro aU a4
    exact aI rfl (aI rfl rfl)
   refine Or.inr ?_
   refine Or.inr ?_
   refine Or.inl (eX 0 (aI (aI rfl rfl) ?_))
   obtain⟨bf,p,a⟩:=B0 a
   obtain⟨U,aL,aM,aC⟩:=Sl.getI (r:=M1.toRp) u p (by decide)
   refine aI U ?_
   obtain⟨bg,bh,bi,rfl,rfl,aO,aP,aQ⟩:=D2 aC
   try dsimp only at a
   refine aT ?_
   refine New.put (r:=M1) O (Sub.refl _) (Q0r p).1 (new:=[.int .i64 j,.int .i64 y,.int .i64 l]) (By:=[]) (m09 _ _ _ (E1 al aj an)) (n4.nil _) rfl (Q0r p).2 ?_
   intro ap w28 ar _
   have a3:=w28.r
   have ah:ap c=some (.cells #[.int .i64 d,.int .i64 f] 155 (0,0)):=(ar c au).trans s
   refine aT ?_
   exact D1 m ⟨(IntKind.i64.wrap (g+1)),(i.set g.toNat (j,y,l)),rfl,rfl,w28.sub,(F0 _),w28,(ah),a⟩
  ·obtain rfl:=oJ a
   try dsimp only[M0,O0]at b
   refine trM b (P06 _ _ _ _ _ u) ?_
   rintro aJ b bb aq ⟨T,a0,W,rfl,x⟩
   have a5:Sub ao aq:=x.sub
   have aD:=x.r
   obtain⟨rfl,aX⟩:=Sl.len aD
   obtain rfl:=oJ b
   exact⟨([.int .i64 P,.int .i64 (IntKind.i64.wrap (Q-1)),.slice T aJ.length W]),rfl,(New.pair (New.int I) (New.pair (New.int (F0 _)) (New.from x aG)))⟩
theorem g0e(h:Hp)(k:List Value)(o:l0)(L:C0.R h k o)(r:l0×d6×Bool)(a:p02 o=some r):
  Tr Tryz.prog 219 #[.agg k.toArray] h λv h'=>∃(i:List Value) (j:List Value),v = .tuple #[.agg i.toArray,.agg j.toArray,.bool r.2.2]/\New C0 h h' i r.1/\j5.R h' j r.2.1:=by
 obtain⟨I,J,s,ai,u,K,rfl,rfl,f,g,b⟩:=H0 L
 obtain⟨rfl,af⟩:=Sl.len b
 unfold p02 at a
 dsimp only at a
 refine V1 (args:=[.agg #[.int .i64 I,.int .i64 J,.slice s K.length u]]) (fn:=Tryz.f219) rfl ?_
 refine trM a (n0d _ _ _ (j0 f g b)) ?_
 rintro S a ao n ⟨ad,rfl,p,c⟩
 obtain⟨aq,ar⟩:=S
 dsimp only at a p
 obtain⟨T,U,rfl,rfl,l,m⟩:=W03 p
 try dsimp only at a
 refine ifB a (λB a=>?_) λB a=>?_
 ·refine trM a (B9 _ _ _ (j0 f g (N0.mono c b))) ?_
  rintro V a ap H ⟨A,aj,w,rfl,d⟩
  have al:Sub n H:=d.sub
  have q:=d.r
  obtain⟨W,X,Y⟩:=V
  dsimp only at a d q
  obtain⟨_,_,_,_,_,_,y,z,C,D,M⟩:=H0 q
  cases y
  cases z
  obtain⟨rfl,ag⟩:=Sl.len M
  try dsimp only at a
  have Q:=New.sndI (New.sndI (d))
  obtain rfl:=oJ a
  exact⟨([.int .i64 W,.int .i64 X,.slice (some ⟨A,0,none⟩) Y.length w]),([.int .i64 0,.int .i64 0]),rfl,(New.pair (New.int C) (New.pair (New.int D) (New.from Q c))),(O2 (by decide) (by decide))⟩
 ·refine trM a (p09 _ _ _ (j0 f g (N0.mono c b)) _ _ (O2 l m)) ?_
  rintro Z a an G ⟨ae,rfl,e⟩
  obtain⟨au,av⟩:=Z
  dsimp only at a e
  have am:Sub n G:=e.sub
  have N:=e.r
  obtain⟨aa,ab,t,ak,x,ac,rfl,rfl,E,F,O⟩:=H0 N
  obtain⟨rfl,ah⟩:=Sl.len O
  try dsimp only at a
  have P:=New.sndI (New.sndI (e))
  refine Or.inr (Or.inr (Or.inl (aI (aI (by kernel_rfl) (by kernel_rfl)) ?_)))
  refine Or.inr ?_
  refine Or.inr ?_
  refine Or.inl (eX 0 (aI (aI rfl rfl) ?_))
  refine aT ?_
  refine aT ?_
  obtain rfl:=oJ a
  exact⟨([.int .i64 aa,.int .i64 ab,.slice t ac.length x]),([.int .i64 T,.int .i64 U]),rfl,(New.pair (New.int E) (New.pair (New.int F) (New.from P c))),(O2 l m)⟩
theorem t0g(h:Hp)(z:List Value)(F:l0)(an:C0.R h z F)(r:l0×N9)(b:O02 F=some r):
  Tr Tryz.prog 135 #[.agg z.toArray] h λv h'=>∃(y:List Value) (w:Option Addr) (E x:Nat),v = .tuple #[.agg y.toArray,.slice w E x]/\New C0 h h' y r.1/\M0i.R h' [.slice w E x] r.2:=by
 obtain⟨ak,al,O,aN,S,am,rfl,rfl,ad,ae,G⟩:=H0 an
 obtain⟨rfl,aH⟩:=Sl.len G
 unfold O02 at b
 dsimp only at b
 refine V1 (args:=[.agg #[.int .i64 ak,.int .i64 al,.slice O am.length S]]) (fn:=Tryz.f135) rfl ?_
 refine trM b (B9 _ _ _ (j0 ad ae G)) ?_
 rintro ay b aU s ⟨aa,aP,U,rfl,o⟩
 have au:Sub h s:=o.sub
 have I:=o.r
 obtain⟨aC,aD,N⟩:=ay
 dsimp only at b o I
 obtain⟨_,_,_,_,_,_,W,X,ah,ai,aq⟩:=H0 I
 cases W
 cases X
 obtain⟨rfl,aL⟩:=Sl.len aq
 try dsimp only at b
 have ax:=New.sndI (New.sndI (o))
 obtain⟨u,ab,b⟩:=B0 b
 refine eX { vars:=[],boxes:=[2],owns:=[0],fuel:=true } (eX (λvs os h'=>∃ d e j t k u8 n f,vs.tail = [.int .i64 d,.int .i64 e,.slice j t k]/\os = [n]/\Sub s h'/\I0 d/\I0 e/\New N0 h h' [.slice j t k] u8/\F2 (j5.R h') n f/\o8 (C1 vs) d e u8 f=some u) (eX (λ_ _=>0) (aI (eX P0 ⟨aC,aD,(some ⟨aa,0,none⟩),N.length,U,N,[],([]:N9),rfl,rfl,(Sub.refl _),ah,ai,ax,(show F2 (j5.R s) ([]:List (List Value)) ([]:N9) from trivial),ab⟩) ?_)))
 rintro _ _ _ n m aj ⟨d,e,j,t,k,u8,aY,f,⟨⟩,⟨⟩,K,A,B,L,l,a⟩
 replace a:o8 m d e u8 f=some u:=a
 obtain _|m:=m
 ·cases a
 rw[o8.eq_2]at a
 have H:=L.r
 obtain⟨rfl,aJ⟩:=Sl.len H
 refine trM a (g0e _ _ _ (j0 A B H)) ?_
 rintro az a aR q ⟨aE,aF,rfl,p,J⟩
 obtain⟨aV,aW,aX⟩:=az
 dsimp only at a p J
 have c:Sub aj q:=p.sub
 have ao:=p.r
 obtain⟨aA,aB,P,aO,T,M,rfl,rfl,af,ag,ap⟩:=H0 ao
 obtain⟨rfl,aK⟩:=Sl.len ap
 try dsimp only at a
 have aw:=New.sndI (New.sndI (p))
 obtain⟨g,i,rfl,rfl,C,D⟩:=W03 J
 try dsimp only at a
 refine ifB a (λac a=>?_) λac a=>?_
 ·intro aS aG Y
  obtain⟨Q,V,rfl,ar,av,aM⟩:=S0.out (r:=j5.toRp) Y (F2.up (r:=j5.toRp) c l)
  obtain rfl:=oJ a
  try dsimp only[N3,O3]at b
  obtain rfl:=oJ b
  exact⟨([.int .i64 d,.int .i64 e,.slice j u8.length k]),Q,f.length,V,rfl,(New.pair (New.int A) (New.pair (New.int B) (New.mono L (c.trans av)))),ar⟩
 ·obtain⟨aQ,Z,a⟩:=B0 a
  refine aI (Z0 Z (by first|rw[F2.length (F2.up (r:=j5.toRp) c l),F2.length (show F2 (j5.R q) ([[.int .i64 g,.int .i64 i]]:List (List Value)) [(g,i)] from⟨(O2 C D),trivial⟩)]|exact congrArg (·+1) (F2.length (F2.up (r:=j5.toRp) c l)))) ?_
  exact D1 m ⟨aA,aB,P,M.length,T,M,(n++([[.int .i64 g,.int .i64 i]]:List (List Value))),(f ++ [(g,i)]),rfl,rfl,(K.trans c),af,ag,(New.from aw (au.trans K)),(F2.append (F2.up (r:=j5.toRp) c l) (show F2 (j5.R q) ([[.int .i64 g,.int .i64 i]]:List (List Value)) [(g,i)] from⟨(O2 C D),trivial⟩)),a⟩
theorem T09(h:Hp)(D:List Value)(I:l0)(ad:C0.R h D I)(r:Y0)(c:V8 I=some r):
  Tr Tryz.prog 143 #[.agg D.toArray] h λv h'=>∃(B:Option Addr) (H C:Nat),v = .slice B H C/\N0.R h' [.slice B H C] r/\Sub h h':=by
 obtain⟨l,m,L,aw,O,n,rfl,rfl,s,F,w⟩:=H0 ad
 obtain⟨rfl,aq⟩:=Sl.len w
 unfold V8 at c
 dsimp only at c
 refine V1 (args:=[.agg #[.int .i64 l,.int .i64 m,.slice L n.length O]]) (fn:=Tryz.f143) rfl ?_
 refine trV c (Y00 _ _ _ (j0 s F w)) λaD c=>?_
 refine ifB c (λZ c=>?_) λZ c=>?_
 ·intro aB ap T
  obtain⟨N,Q,rfl,af,ah,av⟩:=S0.out (r:=M1.toRp) T (show F2 (M1.R h) ([]:List (List Value)) ([]:Y0) from trivial)
  obtain rfl:=oJ c
  exact⟨N,(([]:Y0)).length,Q,rfl,af,ah⟩
 ·obtain⟨A,X,c⟩:=B0 c
  refine eX { vars:=[4],boxes:=[],owns:=[0],fuel:=true } (eX (λvs os h'=>∃ u8 q f,vs.tail = [.int .i64 u8]/\os = [q]/\Sub h h'/\I0 u8/\F2 (M1.R h') q f/\Z4 m l n (C1 vs) u8 f=some A) (eX (λ_ _=>0) (aI (eX P0 ⟨0,[],([]:Y0),rfl,rfl,(Sub.refl _),(by decide),(show F2 (M1.R h) ([]:List (List Value)) ([]:Y0) from trivial),X⟩) ?_)))
  rintro _ q p an ⟨u8,aF,f,⟨⟩,⟨⟩,x,t,E,b⟩
  replace b:Z4 m l n p u8 f=some A:=b
  obtain _|p:=p
  ·cases b
  rw[Z4.eq_2]at b
  refine ifB b (λY b=>?_) λY b=>?_
  ·refine trM b (h04 _ _ s) ?_
   rintro K b aA ac ⟨aj,ax,ak,rfl,J,y⟩
   obtain⟨rfl,ar⟩:=Sl.len J
   obtain⟨z,W,b⟩:=B0 b
   refine eX { vars:=[22],boxes:=[],owns:=[0],fuel:=true } (eX (λvs os h'=>∃ d g e,vs.tail = [.int .i64 d]/\os = [g]/\Sub ac h'/\I0 d/\F2 (M1.R h') g e/\Z3 K l m n u8 (C1 vs) d e=some z) (eX (λ_ _=>0) (aI (eX P0 ⟨0,q,f,rfl,rfl,(Sub.refl _),(by decide),(F2.up (r:=M1.toRp) y E),W⟩) ?_)))
   rintro _ g k G ⟨d,aE,e,⟨⟩,⟨⟩,o,al,j,a⟩
   replace a:Z3 K l m n u8 k d e=some z:=a
   obtain _|k:=k
   ·cases a
   rw[Z3.eq_2]at a
   refine ifB a (λaa a=>?_) λaa a=>?_
   ·refine ldI a (K0.mono o J) λi u a=>?_
    refine trV a (C02 _ _ _ (j0 s F (N0.mono ((x.trans y).trans o) w)) _ t _ u) λai a=>?_
    obtain⟨ay,U,a⟩:=B0 a
    have am:I0 ai:=T0 U
    refine ifB a (λab a=>?_) λab a=>?_
    ·obtain⟨az,V,a⟩:=B0 a
     refine aI (Z0 V (by first|rw[F2.length j,F2.length (show F2 (M1.R G) ([[.int .i64 u8,.int .i64 i,.int .i64 (-1)]]:List (List Value)) [(u8,i,(-1))] from⟨(E1 t u (by decide)),trivial⟩)]|exact congrArg (·+1) (F2.length j))) ?_
     exact D1 k ⟨(IntKind.i64.wrap (d+1)),(g++([[.int .i64 u8,.int .i64 i,.int .i64 (-1)]]:List (List Value))),(e ++ [(u8,i,(-1))]),rfl,rfl,o,(F0 _),(F2.append j (show F2 (M1.R G) ([[.int .i64 u8,.int .i64 i,.int .i64 (-1)]]:List (List Value)) [(u8,i,(-1))] from⟨(E1 t u (by decide)),trivial⟩)),a⟩
    ·exact D1 k ⟨(IntKind.i64.wrap (d+1)),g,e,rfl,rfl,o,(F0 _),j,a⟩
   ·obtain rfl:=oJ a
    try dsimp only[M0,O0]at b
    exact D1 p ⟨(IntKind.i64.wrap (u8+1)),g,e,rfl,rfl,((x.trans y).trans o),(F0 _),j,b⟩
  ·obtain rfl:=oJ b
   try dsimp only[M0,O0]at c
   intro aC ao S
   obtain⟨M,P,rfl,ae,ag,au⟩:=S0.out (r:=M1.toRp) S E
   obtain rfl:=oJ c
   exact⟨M,f.length,P,rfl,ae,(x.trans ag)⟩
theorem w07(h:Hp)(f:List Value)(j:l0)(H:C0.R h f j)(r:l0)(a:B00 j=some r):
  Tr Tryz.prog 88 #[.agg f.toArray] h λv h'=>∃(e:List Value),v = .agg e.toArray/\New C0 h h' e r:=by
 obtain⟨E,F,p,am,s,G,rfl,rfl,u,w,k⟩:=H0 H
 obtain⟨rfl,ag⟩:=Sl.len k
 unfold B00 at a
 dsimp only at a
 refine V1 (args:=[.agg #[.int .i64 E,.int .i64 F,.slice p G.length s]]) (fn:=Tryz.f88) rfl ?_
 refine trM a (t0g _ _ _ (j0 u w k)) ?_
 rintro P a aw g ⟨Z,W,ao,ad,rfl,b,m⟩
 obtain⟨aA,aE⟩:=P
 dsimp only at a b m
 have M:Sub h g:=b.sub
 have I:=b.r
 obtain⟨aB,aC,V,an,ac,aD,rfl,rfl,x,y,l⟩:=H0 I
 obtain⟨rfl,ah⟩:=Sl.len l
 try dsimp only at a
 have ay:=New.sndI (New.sndI (b))
 obtain⟨rfl,ai⟩:=Sl.len m
 refine trM a (v07 _ _ _ (j0 x y l)) ?_
 rintro Q a ax i ⟨aa,Y,aq,af,rfl,c,o⟩
 obtain⟨aF,aK⟩:=Q
 dsimp only at a c o
 have N:Sub g i:=c.sub
 have J:=c.r
 obtain⟨aG,aH,X,ap,ae,aJ,rfl,rfl,z,A,n⟩:=H0 J
 obtain⟨rfl,aj⟩:=Sl.len n
 try dsimp only at a
 have az:=New.sndI (New.sndI (c))
 obtain⟨rfl,ak⟩:=Sl.len o
 refine trM a (o04 _ _ _ (j0 z A n)) ?_
 rintro aL a av D ⟨ab,rfl,d⟩
 have au:Sub i D:=d.sub
 have K:=d.r
 obtain⟨S,T,q,ar,t,U,rfl,rfl,B,C,L⟩:=H0 K
 obtain⟨rfl,al⟩:=Sl.len L
 try dsimp only at a
 have O:=New.sndI (New.sndI (d))
 obtain rfl:=oJ a
 exact⟨([.int .i64 S,.int .i64 T,.slice q U.length t]),rfl,(New.pair (New.int B) (New.pair (New.int C) (New.from O (M.trans N))))⟩
theorem W02(h:Hp)(j:List Value)(n:l0)(D:C0.R h j n)(r:Bool)(b:H6 n=some r):
  Tr Tryz.prog 64 #[.agg j.toArray] h λv h'=>v = .bool r/\h'=h:=by
 obtain⟨A,B,p,W,t,C,rfl,rfl,k,m,g⟩:=H0 D
 obtain⟨rfl,U⟩:=Sl.len g
 unfold H6 at b
 dsimp only at b
 refine Tr.forget (V1 (args:=[.agg #[.int .i64 A,.int .i64 B,.slice p C.length t]]) (fn:=Tryz.f64) rfl ?_)
 refine aI (by kernel_rfl) ?_
 obtain⟨H,w,b⟩:=B0 b
 refine Or.inl (eX (.val (.bool H)) (aI ?_ ?_))
 ·intro P F
  exact Tr.val (u03 _ _ _ (j0 k m (N0.mono F g)) _ w) (aI rfl (aI rfl rfl))
 obtain⟨d,x,b⟩:=B0 b
 refine Or.inr (eX (λv y=>∃(a:Option Addr) (c:Nat),v = .slice a d.length c/\N0.R y [.slice a d.length c] d/\d.length<=9223372036854775807) (aI (λv L M i q=>by obtain⟨a,c,e,r,l⟩:=q;exact⟨a,c,e,N0.mono i r,l⟩) (aI ?_ ?_)))
 ·intro Q G f
  refine Tr.mono (T09 _ _ _ (j0 k m (N0.mono G g)) _ (W5 x f)) ?_
  rintro _ T ⟨s,X,u,rfl,o,i⟩
  obtain⟨rfl,z⟩:=Sl.len o
  exact aI y01 (aI i ⟨s,u,rfl,o,z⟩)
 obtain⟨Y,K,b⟩:=B0 b
 refine Or.inl (eX (.val (.int .i64 ((d.length:Nat):Int))) (aI ?_ ?_))
 ·intro S ab f
  rintro _ ⟨I,J,rfl,Z,V⟩
  exact aI rfl (aI rfl rfl)
 refine Or.inl (eX (.val (.bool (decide (((d.length:Nat):Int)=0)))) (aI ?_ ?_))
 ·intro N aa f
  exact aI rfl (aI rfl rfl)
 intro O E
 obtain rfl:=oJ b
 exact aI rfl E
theorem Z04(h:Hp)(w:List Value)(B:l0)(af:C0.R h w B)(d:Int)(x:I0 d)(r:l0×Bool)(a:j00 B d=some r):
  Tr Tryz.prog 195 #[.agg w.toArray,.int .i64 d] h λv h'=>∃(u:List Value),v = .tuple #[.agg u.toArray,.bool r.2]/\New C0 h h' u r.1:=by
 obtain⟨ad,o,F,aJ,H,ae,rfl,rfl,k,l,i⟩:=H0 af
 obtain⟨rfl,aD⟩:=Sl.len i
 unfold j00 at a
 dsimp only at a
 refine V1 (args:=[.agg #[.int .i64 ad,.int .i64 o,.slice F ae.length H],.int .i64 d]) (fn:=Tryz.f195) rfl ?_
 refine trV a (Y00 _ _ _ (j0 k l i)) λaW a=>?_
 refine trG a (λq=>T01 _ _ _ (j0 k l i) _ x) λaX a=>?_
 refine ifB a (λT a=>?_) λT a=>?_
 ·refine trM a (B9 _ _ _ (j0 k l i)) ?_
  rintro ar a aU ac ⟨O,aM,J,rfl,n⟩
  have aP:Sub h ac:=n.sub
  have D:=n.r
  obtain⟨au,av,aw⟩:=ar
  dsimp only at a n D
  obtain⟨_,_,_,_,_,_,K,L,Y,Z,aj⟩:=H0 D
  cases K
  cases L
  obtain⟨rfl,aG⟩:=Sl.len aj
  try dsimp only at a
  have an:=New.sndI (New.sndI (n))
  obtain rfl:=oJ a
  exact⟨([.int .i64 au,.int .i64 av,.slice (some ⟨O,0,none⟩) aw.length J]),rfl,(New.pair (New.int Y) (New.pair (New.int Z) an))⟩
 ·obtain⟨t,P,a⟩:=B0 a
  refine eX { vars:=[7],boxes:=[],owns:=[0],fuel:=true } (eX (λvs os h'=>∃ c j e,vs.tail = [.int .i64 c]/\os = [j]/\Sub h h'/\I0 c/\F2 (Wp.int.R h') j e/\E7 o d (C1 vs) c e=some t) (eX (λ_ _=>0) (aI (eX P0 ⟨0,([[.int .i64 d]]:List (List Value)),[d],rfl,rfl,(Sub.refl _),(by decide),(show F2 (Wp.int.R h) ([[.int .i64 d]]:List (List Value)) [d] from⟨⟨rfl,x⟩,trivial⟩),P⟩) ?_)))
  rintro _ j g z ⟨c,a3,e,⟨⟩,⟨⟩,m,y,f,b⟩
  replace b:E7 o d g c e=some t:=b
  obtain _|g:=g
  ·cases b
  rw[E7.eq_2]at b
  refine ifB b (λQ b=>?_) λQ b=>?_
  ·refine ifB b (λS b=>?_) λS b=>?_
   ·obtain⟨aN,N,b⟩:=B0 b
    refine aI (Z0 N (by first|rw[F2.length f,F2.length (show F2 (Wp.int.R z) ([[.int .i64 c]]:List (List Value)) [c] from⟨⟨rfl,y⟩,trivial⟩)]|exact congrArg (·+1) (F2.length f))) ?_
    exact D1 g ⟨(IntKind.i64.wrap (c+1)),(j++([[.int .i64 c]]:List (List Value))),(e ++ [c]),rfl,rfl,m,(F0 _),(F2.append f (show F2 (Wp.int.R z) ([[.int .i64 c]]:List (List Value)) [c] from⟨⟨rfl,y⟩,trivial⟩)),b⟩
   ·exact D1 g ⟨(IntKind.i64.wrap (c+1)),j,e,rfl,rfl,m,(F0 _),f,b⟩
  ·obtain rfl:=oJ b
   try dsimp only[M0,O0]at a
   refine Or.inl ?_
   intro aQ aa M
   obtain⟨ay,aC,rfl,ak,E,aH⟩:=S0.out (r:=Wp.int.toRp) M f
   refine trM a (n09 _ _ _ (j0 k l (N0.mono (m.trans E) i)) _ _ _ _ ak) ?_
   rintro aY a aR A ⟨az,rfl,p⟩
   have al:Sub aa A:=p.sub
   have ag:=p.r
   obtain⟨aZ,a0,ax,aK,aB,a1,rfl,rfl,U,V,C⟩:=H0 ag
   obtain⟨rfl,aE⟩:=Sl.len C
   try dsimp only at a
   have aV:=New.sndI (New.sndI (p))
   refine trM a (w07 _ _ _ (j0 U V C)) ?_
   rintro a2 a aS ab ⟨aA,rfl,s⟩
   have aO:Sub A ab:=s.sub
   have ah:=s.r
   obtain⟨ao,ap,G,aL,I,aq,rfl,rfl,W,X,ai⟩:=H0 ah
   obtain⟨rfl,aF⟩:=Sl.len ai
   try dsimp only at a
   have am:=New.sndI (New.sndI (s))
   obtain rfl:=oJ a
   exact⟨([.int .i64 ao,.int .i64 ap,.slice G aq.length I]),rfl,(New.pair (New.int W) (New.pair (New.int X) (New.from am ((m.trans E).trans al))))⟩
set_option maxHeartbeats 0
theorem u0g(h:Hp)(b:List Value)(c:l0)(n:C0.R h b c)(r:Int)(a:h06 c=some r):
  Tr Tryz.prog 15 #[.agg b.toArray] h λv h'=>v = .int .i64 r/\h'=h:=by
 obtain⟨k,l,e,p,f,m,rfl,rfl,i,j,d⟩:=H0 n
 obtain⟨rfl,o⟩:=Sl.len d
 unfold h06 at a
 dsimp only at a
 refine Tr.forget (V1 (args:=[.agg #[.int .i64 k,.int .i64 l,.slice e m.length f]]) (fn:=Tryz.f15) rfl ?_)
 refine trV a (W02 _ _ _ (j0 i j d)) λq a=>?_
 refine ifB a (λg a=>?_) λg a=>?_
 ·obtain rfl:=oJ a
  exact aI rfl (Sub.refl _)
 ·obtain rfl:=oJ a
  exact aI rfl (Sub.refl _)
theorem k06(h:Hp)(W:List Value)(ac:l0)(bb:C0.R h W ac)(r:l0×D0)(c:r9 ac=some r):
  Tr Tryz.prog 201 #[.agg W.toArray] h λv h'=>∃(V:List Value) (T:Option Addr) (ab U:Nat),v = .tuple #[.agg V.toArray,.slice T ab U]/\C0.R h' V r.1/\K0.R h' [.slice T ab U] r.2/\Sub h h':=by
 obtain⟨a4,a5,au,bM,aA,ba,rfl,rfl,J,K,F⟩:=H0 bb
 obtain⟨rfl,bD⟩:=Sl.len F
 unfold r9 at c
 dsimp only at c
 refine V1 (args:=[.agg #[.int .i64 a4,.int .i64 a5,.slice au ba.length aA]]) (fn:=Tryz.f201) rfl ?_
 refine trV c (f00 _ _ _ (j0 J K F)) λb0 c=>?_
 refine ifB c (λaP c=>?_) λaP c=>?_
 ·refine trM c (F5 _ _ _ (j0 J K F)) ?_
  rintro b2 c bX a3 ⟨br,rfl,an⟩
  have ai:Sub h a3:=an.sub
  have bd:=an.r
  obtain⟨bj,bk,aw,bP,aC,bl,rfl,rfl,aY,aZ,ae⟩:=H0 bd
  obtain⟨rfl,bI⟩:=Sl.len ae
  try dsimp only at c
  intro bZ bC aH
  obtain⟨az,aF,rfl,bf,al,bL⟩:=S0.out (r:=Wp.int.toRp) aH (F2.up (r:=Wp.int.toRp) ai (show F2 (Wp.int.R h) ([]:List (List Value)) ([]:D0) from trivial))
  obtain rfl:=oJ c
  exact⟨([.int .i64 bj,.int .i64 bk,.slice aw bl.length aC]),az,(([]:D0)).length,aF,rfl,(j0 aY aZ (N0.mono al ae)),bf,(ai.trans al)⟩
 ·refine trM c (F5 _ _ _ (j0 J K F)) ?_
  rintro b1 c bU Z ⟨bq,rfl,am⟩
  have ah:Sub h Z:=am.sub
  have bc:=am.r
  obtain⟨bg,bh,av,bN,aB,ao,rfl,rfl,aU,aV,ad⟩:=H0 bc
  obtain⟨rfl,bG⟩:=Sl.len ad
  try dsimp only at c
  obtain⟨Q,aN,c⟩:=B0 c
  refine eX { vars:=[6],boxes:=[2],owns:=[0],fuel:=true } (eX (λvs os h'=>∃ e f g s M u i I m,vs.tail = [.int .i64 e,.int .i64 f,.int .i64 g,.slice s M u]/\os = [I]/\Sub Z h'/\I0 e/\I0 f/\I0 g/\N0.R h' [.slice s M u] i/\F2 (Wp.int.R h') I m/\J6 (C1 vs) e f g i m=some Q) (eX (λ_ _=>0) (aI (eX P0 ⟨0,bg,bh,av,ao.length,aB,ao,[],([]:D0),rfl,rfl,(Sub.refl _),(by decide),aU,aV,ad,(F2.up (r:=Wp.int.toRp) ah (show F2 (Wp.int.R h) ([]:List (List Value)) ([]:D0) from trivial)),aN⟩) ?_)))
  rintro _ _ _ _ I y bz ⟨e,f,g,s,M,u,i,b6,m,⟨⟩,⟨⟩,P,bu,B,L,G,X,b⟩
  replace b:J6 y e f g i m=some Q:=b
  obtain _|y:=y
  ·cases b
  rw[J6.eq_2]at b
  obtain⟨rfl,bE⟩:=Sl.len G
  refine trG b (λq=>h08 _ _ _ (j0 B L G) 0 (by decide)) λbi b=>?_
  obtain⟨bR,aJ,b⟩:=B0 b
  have bx:I0 bi:=T0 aJ
  refine ifB b (λaQ b=>?_) λaQ b=>?_
  ·refine trM b (i03 _ _ B) ?_
   rintro ap b bV a2 ⟨bp,bO,bt,rfl,O,H⟩
   obtain⟨rfl,bH⟩:=Sl.len O
   obtain⟨S,aO,b⟩:=B0 b
   refine eX { vars:=[8],boxes:=[2],owns:=[0],fuel:=true,kept:=[0] } (eX (λvs os h'=>∃ n j k t N w d o l,vs.tail = [.int .i64 n,.int .i64 j,.int .i64 k,.slice t N w]/\os = [o]/\Sub a2 h'/\I0 n/\I0 j/\I0 k/\N0.R h' [.slice t N w] d/\F2 (Wp.int.R h') o l/\I6 ap (C1 vs) n j k d l=some S) (eX (λ_ _=>0) (aI (eX P0 ⟨0,f,g,s,i.length,u,i,I,m,rfl,rfl,(Sub.refl _),(by decide),B,L,(N0.mono H G),(F2.up (r:=Wp.int.toRp) H X),aO⟩) ?_)))
   rintro _ _ _ _ o E aa ⟨n,j,k,t,N,w,d,b7,l,⟨⟩,⟨⟩,A,bv,C,D,z,x,a⟩
   replace a:I6 ap E n j k d l=some S:=a
   obtain _|E:=E
   ·cases a
   rw[I6.eq_2]at a
   obtain⟨rfl,bF⟩:=Sl.len z
   refine ifB a (λaR a=>?_) λaR a=>?_
   ·refine Or.inl (aI (aI (by kernel_rfl) (by kernel_rfl)) ?_)
    refine ldI a (K0.mono A O) λb3 aW a=>?_
    obtain⟨aq,aM,a⟩:=B0 a
    refine eX (.int .i64 aq) (aI (e00 _ _ _ (j0 C D z) 0 (by decide) _ aW _  aM) ?_)
    obtain⟨bS,aK,a⟩:=B0 a
    have aX:I0 aq:=T0 aK
    refine ifB a (λaS a=>?_) λaS a=>?_
    ·refine ldI a (K0.mono A O) λp Y a=>?_
     obtain⟨bT,aL,a⟩:=B0 a
     refine aI (Z0 aL (by first|rw[F2.length x,F2.length (show F2 (Wp.int.R aa) ([[.int .i64 p]]:List (List Value)) [p] from⟨⟨rfl,Y⟩,trivial⟩)]|exact congrArg (·+1) (F2.length x))) ?_
     refine trM a (Z00 _ _ _ (j0 C D z) _ aX) ?_
     rintro bm a bW bA ⟨bs,rfl,af,aj⟩
     obtain⟨b4,b5⟩:=bm
     dsimp only at a af
     obtain⟨bn,bo,ax,bQ,aD,ar,rfl,rfl,a0,a1,ag⟩:=H0 af
     obtain⟨rfl,bJ⟩:=Sl.len ag
     try dsimp only at a
     obtain rfl:=oJ a
     try dsimp only[M0,O0]at b
     exact D1 y ⟨(IntKind.i64.wrap (e+1)),bn,bo,ax,ar.length,aD,ar,(o++([[.int .i64 p]]:List (List Value))),(l ++ [p]),rfl,rfl,(((P.trans H).trans A).trans aj),(F0 _),a0,a1,ag,(F2.up (r:=Wp.int.toRp) aj (F2.append x (show F2 (Wp.int.R aa) ([[.int .i64 p]]:List (List Value)) [p] from⟨⟨rfl,Y⟩,trivial⟩))),b⟩
    ·exact D1 E ⟨(IntKind.i64.wrap (n+1)),j,k,t,d.length,w,d,o,l,rfl,rfl,A,(F0 _),C,D,z,x,a⟩
   ·obtain rfl:=oJ a
    try dsimp only[M0,O0]at b
    exact D1 y ⟨(IntKind.i64.wrap (e+1)),j,k,t,d.length,w,d,o,l,rfl,rfl,((P.trans H).trans A),(F0 _),C,D,z,x,b⟩
  ·obtain rfl:=oJ b
   try dsimp only[M0,O0]at c
   intro bY bB aG
   obtain⟨ay,aE,rfl,be,ak,bK⟩:=S0.out (r:=Wp.int.toRp) aG X
   obtain rfl:=oJ c
   exact⟨([.int .i64 f,.int .i64 g,.slice s i.length u]),ay,m.length,aE,rfl,(j0 B L (N0.mono ak G)),be,((ah.trans P).trans ak)⟩
theorem a05(h:Hp)(u:List Value)(H:l0)(aO:C0.R h u H)(w:List Value)(I:l0)(aP:C0.R h w I)(r:D0×Bool)(a:j2 H I=some r):
  Tr Tryz.prog 108 #[.agg u.toArray,.agg w.toArray] h λv h'=>∃(s:Option Addr) (G t:Nat),v = .tuple #[.slice s G t,.bool r.2]/\K0.R h' [.slice s G t] r.1/\Sub h h':=by
 obtain⟨aH,aJ,ae,bL,ak,aK,rfl,rfl,y,z,j⟩:=H0 aO
 obtain⟨rfl,bv⟩:=Sl.len j
 obtain⟨aL,aM,af,bM,al,aN,rfl,rfl,A,B,k⟩:=H0 aP
 obtain⟨rfl,bx⟩:=Sl.len k
 unfold j2 at a
 dsimp only at a
 refine V1 (args:=[.agg #[.int .i64 aH,.int .i64 aJ,.slice ae aK.length ak],.agg #[.int .i64 aL,.int .i64 aM,.slice af aN.length al]]) (fn:=Tryz.f108) rfl ?_
 refine trV a (f00 _ _ _ (j0 y z j)) λb6 a=>?_
 refine trG a (λq=>f00 _ _ _ (j0 A B k)) λb8 a=>?_
 refine ifB a (λaz a=>?_) λaz a=>?_
 ·intro b3 bt au
  obtain⟨aj,ap,rfl,aS,aX,bK⟩:=S0.out (r:=Wp.int.toRp) au (show F2 (Wp.int.R h) ([]:List (List Value)) ([]:D0) from trivial)
  obtain rfl:=oJ a
  exact⟨aj,(([]:D0)).length,ap,rfl,aS,aX⟩
 ·refine trM a (k06 _ _ _ (j0 y z j)) ?_
  rintro a1 a bW bu ⟨bf,bc,bV,bn,rfl,S,n,i⟩
  obtain⟨cj,ad⟩:=a1
  dsimp only at a S n
  obtain⟨aa,ab,bb,bU,bm,ac,rfl,rfl,D,E,m⟩:=H0 S
  obtain⟨rfl,bG⟩:=Sl.len m
  try dsimp only at a
  obtain⟨rfl,bH⟩:=Sl.len n
  refine trM a (k06 _ _ _ (j0 A B (N0.mono i k))) ?_
  rintro aY a bX F ⟨bd,a3,bO,bh,rfl,J,l,d⟩
  obtain⟨b7,Z⟩:=aY
  dsimp only at a J l
  obtain⟨W,X,a2,bN,bg,Y,rfl,rfl,aA,aB,K⟩:=H0 J
  obtain⟨rfl,bz⟩:=Sl.len K
  try dsimp only at a
  obtain⟨rfl,bA⟩:=Sl.len l
  refine ifB a (λaw a=>?_) λaw a=>?_
  ·intro bY bo aq
   obtain⟨ah,an,rfl,aQ,aV,bI⟩:=S0.out (r:=Wp.int.toRp) aq (show F2 (Wp.int.R F) ([]:List (List Value)) ([]:D0) from trivial)
   obtain rfl:=oJ a
   exact⟨ah,(([]:D0)).length,an,rfl,aQ,((i.trans d).trans aV)⟩
  ·obtain⟨p,av,a⟩:=B0 a
   refine eX { vars:=[10],boxes:=[],owns:=[],fuel:=true } (eX (λvs os h'=>∃ f,vs.tail = [.int .i64 f]/\os = []/\Sub F h'/\I0 f/\U2 ab aa ac W X Y ad Z (C1 vs) f=some p) (eX (λ_ _=>0) (aI (eX P0 ⟨0,rfl,rfl,(Sub.refl _),(by decide),av⟩) ?_)))
   rintro _ g aE ⟨f,⟨⟩,⟨⟩,c,C,b⟩
   replace b:U2 ab aa ac W X Y ad Z g f=some p:=b
   obtain _|g:=g
   ·cases b
   rw[U2.eq_2]at b
   refine ifB b (λax b=>?_) λax b=>?_
   ·refine trM b (Z00 _ _ _ (j0 D E (N0.mono (d.trans c) m)) _ C) ?_
    rintro aZ b bZ aF ⟨be,rfl,L,e⟩
    obtain⟨ca,ce⟩:=aZ
    dsimp only at b L
    obtain⟨cb,cc,a4,bP,bi,cd,rfl,rfl,aC,aD,M⟩:=H0 L
    obtain⟨rfl,bB⟩:=Sl.len M
    try dsimp only at b
    refine trV b (A9 _ _ _ (j0 aC aD M) _ _ (j0 aA aB (N0.mono (c.trans e) K))) λcf b=>?_
    refine ifB b (λay b=>?_) λay b=>?_
    ·obtain⟨cg,x,b⟩:=B0 b
     refine Tr.mono (j08 _ _ _ (j0 D E (N0.mono ((d.trans c).trans e) m)) _ C _  x) ?_
     rintro b0 aG ⟨x,bQ,bj,rfl,V⟩
     have o:Sub aF aG:=V.sub
     have N:=V.r
     obtain⟨rfl,bC⟩:=Sl.len N
     refine trM b (S04 _ _ _ _ _ (K0.mono (((d.trans c).trans e).trans o) n) _ _ _ _ N) ?_
     rintro ch b b1 bp ⟨a5,bR,bk,rfl,O,T⟩
     obtain⟨rfl,bD⟩:=Sl.len O
     refine trM b (Y0b _ _ _ _ _ (K0.mono (((c.trans e).trans o).trans T) l)) ?_
     rintro ci b b2 bq ⟨ba,bS,bl,rfl,P,U⟩
     obtain⟨rfl,bE⟩:=Sl.len P
     refine trM b (S04 _ _ _ _ _ (K0.mono U O) _ _ _ _ P) ?_
     rintro a0 b b4 br ⟨ag,bT,am,rfl,Q,aU⟩
     obtain⟨rfl,bF⟩:=Sl.len Q
     obtain rfl:=oJ b
     try dsimp only[N3,O3]at a
     obtain rfl:=oJ a
     exact⟨ag,a0.length,am,rfl,Q,(((((((i.trans d).trans c).trans e).trans o).trans T).trans U).trans aU)⟩
    ·exact D1 g ⟨(IntKind.i64.wrap (f+1)),rfl,rfl,(c.trans e),(F0 _),b⟩
   ·obtain rfl:=oJ b
    try dsimp only[M0,O0]at a
    intro b5 bs ar
    obtain⟨ai,ao,rfl,aR,aW,bJ⟩:=S0.out (r:=Wp.int.toRp) ar (show F2 (Wp.int.R aE) ([]:List (List Value)) ([]:D0) from trivial)
    obtain rfl:=oJ a
    exact⟨ai,(([]:D0)).length,ao,rfl,aR,(((i.trans d).trans c).trans aW)⟩
theorem x07(h:Hp)(x:Option Addr)(am y:Nat)(k:Q1)(N:A5.R h [.slice x am y] k)(r:N1)(z:p8 k=some r):
  Tr Tryz.prog 17 #[.slice x am y] h λv h'=>∃(T:Option Addr) (al Y:Nat),v = .slice T al Y/\New R3 h h' [.slice T al Y] r:=by
 obtain⟨rfl,cI⟩:=Sl.len N
 unfold p8 at z
 refine V1 (args:=[.slice x k.length y]) (fn:=Tryz.f17) rfl ?_
 obtain⟨Q,bg,z⟩:=B0 z
 refine eX { vars:=[4],boxes:=[],owns:=[0],fuel:=true } (eX (λvs os h'=>∃ d E t,vs.tail = [.int .i64 d]/\os = [E]/\Sub h h'/\I0 d/\F2 (K0.R h') E t/\(∃ Bs,F3 (K0.W h') E t Bs/\n4 h Bs.flatten)/\J3 k (C1 vs) d t=some Q) (eX (λ_ _=>0) (aI (eX P0 ⟨0,[],([]:N1),rfl,rfl,(Sub.refl _),(by decide),(show F2 (K0.R h) ([]:List (List Value)) ([]:N1) from trivial),⟨_,(show F3 (K0.W h) [] [] [] from trivial),(n4.nil h)⟩,bg⟩) ?_)))
 rintro _ E B cC ⟨d,dE,t,⟨⟩,⟨⟩,av,G,af,⟨b8,aw,ae⟩,f⟩
 replace f:J3 k B d t=some Q:=f
 obtain _|B:=B
 ·cases f
 rw[J3.eq_2]at f
 refine ifB f (λbl f=>?_) λbl f=>?_
 ·obtain⟨S,bh,f⟩:=B0 f
  refine eX { vars:=[5,6],boxes:=[],owns:=[0],fuel:=true,kept:=[0] } (eX (λvs os h'=>∃ u8 o s n,vs.tail = [.bool u8,.int .i64 o]/\os = [s]/\Sub h h'/\I0 o/\F2 (K0.R h') s n/\(∃ Bs,F3 (K0.W h') s n Bs/\n4 h Bs.flatten)/\T2 k d (C1 vs) u8 o n=some S) (eX (λ_ _=>0) (aI (eX P0 ⟨false,0,E,t,rfl,rfl,av,(by decide),af,⟨_,aw,ae⟩,bh⟩) ?_)))
  rintro _ _ s A ah ⟨u8,o,dD,n,⟨⟩,⟨⟩,w,cp,j,⟨b7,D,F⟩,b⟩
  replace b:T2 k d A u8 o n=some S:=b
  obtain _|A:=A
  ·cases b
  rw[T2.eq_2]at b
  obtain⟨bC,a2,b⟩:=B0 b
  obtain rfl:s.length=bC:=(F2.length j).trans (oJ a2)
  obtain⟨c1,cn,b⟩:=B0 b
  refine ifB b (λbj b=>?_) λbj b=>?_
  ·refine Or.inr (Or.inr (Or.inr (Or.inl (aI (aI (by kernel_rfl) (by kernel_rfl)) ?_))))
   obtain⟨ay,ba,b⟩:=B0 b
   obtain⟨aH,ca,aV,O⟩:=I3 j ba
   obtain⟨U,cV,Z,rfl⟩:=Wp.slice_cell O
   obtain⟨rfl,cJ⟩:=Sl.len O
   refine Or.inl ?_
   apply eX
   refine aI ?_ ?_
   ·intro cr dk
    exact aI aH (aI rfl (aI rfl rfl))
   refine Or.inl (eX (.val (.slice U ay.length Z)) (aI ?_ ?_))
   ·intro cs dm
    exact eX _ (aI aV (aI rfl (aI rfl rfl)))
   obtain⟨az,bb,b⟩:=B0 b
   obtain⟨aJ,cb,aW,bE⟩:=Sl.getI (r:=Wp.int.toRp) O bb (by decide)
   obtain⟨rfl,cq⟩:=bE
   refine Or.inl (eX (.hel (.slice U ay.length Z) 0 1 0) (aI ?_ ?_))
   ·intro ct dn
    exact aI aJ (aI rfl (aI rfl rfl))
   refine Or.inl (eX (.val (.int .i64 az)) (aI ?_ ?_))
   ·intro cu bL
    exact eX _ (aI (i6.up bL aW) (aI rfl (aI rfl rfl)))
   obtain⟨dA,bc,b⟩:=B0 b
   obtain⟨aK,cc,aX,bF⟩:=Sl.getI (r:=C0.toRp) (A5.mono w N) bc (by decide)
   obtain⟨bS,bT,aC,cW,aO,bU,rfl,rfl,bp,bq,an⟩:=H0 bF
   obtain⟨rfl,cK⟩:=Sl.len an
   try dsimp only at b
   refine Or.inl (eX (.hel (.slice x k.length y) az 3 0) (aI ?_ ?_))
   ·intro cv dq
    exact aI aK (aI rfl (aI rfl rfl))
   refine Or.inl (eX (.agg [.val (.int .i64 bS),.val (.int .i64 bT),.val (.slice aC bU.length aO)]) (aI ?_ ?_))
   ·intro cw bM
    exact eX _ (aI (i6.up bM aX) (aI rfl (aI rfl rfl)))
   obtain⟨dB,bd,b⟩:=B0 b
   obtain⟨aL,cd,aY,bG⟩:=Sl.getI (r:=C0.toRp) (A5.mono w N) bd (by decide)
   obtain⟨bV,bW,aD,cX,aP,bX,rfl,rfl,br,bs,ao⟩:=H0 bG
   obtain⟨rfl,cL⟩:=Sl.len ao
   try dsimp only at b
   refine Or.inl (eX (.hel (.slice x k.length y) d 3 0) (aI ?_ ?_))
   ·intro cx ds
    exact aI aL (aI rfl (aI rfl rfl))
   refine Or.inl (eX (.agg [.val (.int .i64 bV),.val (.int .i64 bW),.val (.slice aD bX.length aP)]) (aI ?_ ?_))
   ·intro cy bN
    exact eX _ (aI (i6.up bN aY) (aI rfl (aI rfl rfl)))
   obtain⟨bY,be,b⟩:=B0 b
   obtain⟨g,P⟩:=bY
   try dsimp only at b
   refine Or.inr (eX (λv i=>∃(p:Value),v = .tuple #[p,.bool P]/\(λv i=>∃(a:Option Addr) (c:Nat),v = .slice a g.length c/\K0.R i [.slice a g.length c] g/\g.length<=9223372036854775807) p i) (aI (λv L M m q=>by obtain⟨p,e,K⟩:=q;exact⟨p,e,(by obtain⟨a,c,e,r,l⟩:=K;exact⟨a,c,e,K0.mono m r,l⟩)⟩) (aI ?_ ?_)))
   ·intro cz au
    refine Tr.mono (a05 _ _ _ (j0 bp bq (N0.mono au an)) _ _ (j0 br bs (N0.mono au ao)) _ be) ?_
    rintro _ cH ⟨V,cY,aa,rfl,ap,m⟩
    obtain⟨rfl,bx⟩:=Sl.len ap
    exact aI y01 (aI m ⟨(.slice V g.length aa),rfl,⟨V,aa,rfl,ap,bx⟩⟩)
   refine Or.inr (eX (λv i=>∃(p:Value),v = .tuple #[p,.bool P]/\(λv i=>∃(a:Option Addr) (c:Nat),v = .slice a g.length c/\K0.R i [.slice a g.length c] g/\g.length<=9223372036854775807) p i) (aI (λv L M m q=>by obtain⟨p,e,K⟩:=q;exact⟨p,e,(by obtain⟨a,c,e,r,l⟩:=K;exact⟨a,c,e,K0.mono m r,l⟩)⟩) (aI ?_ ?_)))
   ·intro cA dt
    rintro _ ⟨_,rfl,⟨X,ab,rfl,bI,bz⟩⟩
    exact aI y01 (aI (Sub.refl _) ⟨(.slice X g.length ab),rfl,⟨X,ab,rfl,bI,bz⟩⟩)
   refine Or.inr (eX (λv i=>∃(a:Option Addr) (c:Nat),v = .slice a g.length c/\K0.R i [.slice a g.length c] g/\g.length<=9223372036854775807) (aI (λv L M m q=>by obtain⟨a,c,e,r,l⟩:=q;exact⟨a,c,e,K0.mono m r,l⟩) (aI ?_ ?_)))
   ·intro cD du
    rintro _ ⟨_,rfl,⟨aE,aQ,rfl,bJ,bA⟩⟩
    exact aI y01 (aI (Sub.refl _) ⟨aE,aQ,rfl,bJ,bA⟩)
   refine Or.inl (eX (.val (.bool P)) (aI ?_ ?_))
   ·intro cE dv
    rintro _ ⟨_,rfl,⟨b2,ch,rfl,dc,cN⟩⟩
    exact aI rfl (aI rfl rfl)
   refine Or.inr (eX (λv i=>∃(a:Option Addr) (c:Nat),v = .slice a g.length c/\K0.R i [.slice a g.length c] g/\g.length<=9223372036854775807) (aI (λv L M m q=>by obtain⟨a,c,e,r,l⟩:=q;exact⟨a,c,e,K0.mono m r,l⟩) (aI ?_ ?_)))
   ·intro cG dw
    rintro _ ⟨aF,aR,rfl,bK,bB⟩
    exact aI y01 (aI (Sub.refl _) ⟨aF,aR,rfl,bK,bB⟩)
   intro ai u
   rintro _ ⟨b3,ci,rfl,dd,cO⟩
   rintro _ ⟨b4,cj,rfl,df,cP⟩
   rintro _ ⟨_,rfl,⟨b5,ck,rfl,dg,cQ⟩⟩
   rintro _ ⟨_,rfl,⟨b6,cl,rfl,dh,cR⟩⟩
   refine ifB b (λbk b=>?_) λbk b=>?_
   ·obtain⟨aA,ag,b⟩:=B0 b
    obtain⟨aM,ce,J,aq⟩:=I3 (F2.up (r:=K0.toRp) u j) ag
    refine aI aM ?_
    obtain⟨b1,cZ,cg,rfl⟩:=Wp.slice_cell aq
    obtain⟨rfl,cM⟩:=Sl.len aq
    refine eX _ (aI J ?_)
    obtain⟨c3,a4,b⟩:=B0 b
    obtain⟨c2,a3,b⟩:=B0 b
    have bn:=F2.length (F2.up (r:=K0.toRp) u j)
    obtain⟨co,c0,aZ,bQ,bH,ak,aB⟩:=New.appE (f05 D u) F (w.trans u) ag J (T0 a4)
    subst aZ
    refine eX bQ (aI bH (aI (Z0 a3 (by first|rw[ak,F2.length (show F2 (Wp.int.R ai) ([[.int .i64 d]]:List (List Value)) [d] from⟨⟨rfl,G⟩,trivial⟩)]|(rw[ak];rfl))) ?_))
    intro dz bv bi
    obtain⟨bo,bt,aS,rfl,bO,⟨b0,ax,a1⟩,di,cS⟩:=aB ([[.int .i64 d]]:List (List Value)) [d] _ _ (show F2 (Wp.int.R ai) ([[.int .i64 d]]:List (List Value)) [d] from⟨⟨rfl,G⟩,trivial⟩) bi
    obtain⟨dC,bf,b⟩:=B0 b
    obtain⟨aN,cf,cm,_⟩:=I3 (F2.ofLen bn) bf
    refine aI aN ?_
    refine eX _ (aI J ?_)
    exact D1 A ⟨true,(IntKind.i64.wrap (o+1)),(s.set o.toNat [.slice (some ⟨bo,bt,none⟩) (aA ++ [d]).length aS]),(n.set o.toNat (aA ++ [d])),rfl,rfl,bO,(F0 _),(F3.f2 (q:=K0.R bv) (λ_ _ _ h=>K0.toR h) ax),⟨_,ax,a1⟩,b⟩
   ·exact D1 A ⟨u8,(IntKind.i64.wrap (o+1)),s,n,rfl,rfl,(w.trans u),(F0 _),(F2.up (r:=K0.toRp) u j),⟨_,(f05 D u),F⟩,b⟩
  ·obtain rfl:=oJ b
   try dsimp only[M0,O0]at f
   refine ifB f (λbm f=>?_) λbm f=>?_
   ·intro dy aj ac
    obtain⟨H,I,rfl,ar,C,cT⟩:=S0.out (r:=Wp.int.toRp) ac (show F2 (Wp.int.R ah) ([[.int .i64 d]]:List (List Value)) [d] from⟨⟨rfl,G⟩,trivial⟩)
    obtain⟨db,a5,f⟩:=B0 f
    refine aI (Z0 a5 (by first|rw[F2.length (F2.up (r:=K0.toRp) C j),F2.length (show F2 (K0.R aj) ([[.slice H ([d]).length I]]:List (List Value)) [[d]] from⟨ar,trivial⟩)]|exact congrArg (·+1) (F2.length (F2.up (r:=K0.toRp) C j)))) ?_
    obtain⟨bZ,bR,a0,_⟩:=(S0.newPlain (r:=Wp.int) ac (show F2 (Wp.int.R ah) ([[.int .i64 d]]:List (List Value)) [d] from⟨⟨rfl,G⟩,trivial⟩) (W01 _))
    exact D1 B ⟨(IntKind.i64.wrap (d+1)),(s++([[.slice H ([d]).length I]]:List (List Value))),(n ++ [[d]]),rfl,rfl,(w.trans C),(F0 _),(F2.append (F2.up (r:=K0.toRp) C j) (show F2 (K0.R aj) ([[.slice H ([d]).length I]]:List (List Value)) [[d]] from⟨ar,trivial⟩)),⟨_,(F3.snoc bR (f05 D C)),(V05 D w F a0)⟩,f⟩
   ·exact D1 B ⟨(IntKind.i64.wrap (d+1)),s,n,rfl,rfl,w,(F0 _),j,⟨_,D,F⟩,f⟩
 ·obtain rfl:=oJ f
  try dsimp only[M0,O0]at z
  intro bP bu ad
  have bD:New (Wp.slice K0) h bu [bP] t:=(S0.fresh (r:=K0) ad aw av ae)
  obtain⟨aG,aU,rfl,dj,dx,cU⟩:=S0.out (r:=K0.toRp) ad af
  obtain rfl:=oJ z
  exact⟨aG,t.length,aU,rfl,bD⟩
theorem r0d(h:Hp)(b:List Value)(c:l0)(m:C0.R h b c)(r:Bool)(a:O01 c=some r):
  Tr Tryz.prog 203 #[.agg b.toArray] h λv h'=>v = .bool r/\h'=h:=by
 obtain⟨j,k,e,o,f,l,rfl,rfl,g,i,d⟩:=H0 m
 obtain⟨rfl,n⟩:=Sl.len d
 unfold O01 at a
 dsimp only at a
 refine Tr.forget (V1 (args:=[.agg #[.int .i64 j,.int .i64 k,.slice e l.length f]]) (fn:=Tryz.f203) rfl ?_)
 refine trV a (u03 _ _ _ (j0 g i d)) λp a=>?_
 obtain rfl:=oJ a
 exact aI rfl (Sub.refl _)
theorem t0j(h:Hp)(W:List Value)(al:l0)(bk:C0.R h W al)(e:Int)(bc:I0 e)(r:D0×(List (Option D0)))(f:b04 al e=some r):
  Tr Tryz.prog 250 #[.agg W.toArray,.int .i64 e] h λv h'=>∃(S:Option Addr) (ai U:Nat) (T:Option Addr) (aj V:Nat),v = .tuple #[.slice S ai U,.slice T aj V]/\K0.R h' [.slice S ai U] r.1/\(Wp.slice Wp.opt).R h' [.slice T aj V] r.2/\Sub h h':=by
 obtain⟨z,i,aw,b6,aE,A,rfl,rfl,ae,bb,an⟩:=H0 bk
 obtain⟨rfl,bV⟩:=Sl.len an
 unfold b04 at f
 dsimp only at f
 refine V1 (args:=[.agg #[.int .i64 z,.int .i64 i,.slice aw A.length aE],.int .i64 e]) (fn:=Tryz.f250) rfl ?_
 obtain⟨ci,aR,f⟩:=B0 f
 refine aI (T0 aR) ?_
 obtain⟨cu,aX,f⟩:=B0 f
 obtain⟨aB,bF,aJ,bm⟩:=I3 (F2.rep (p:=Wp.opt.R h) (a:=[.slice none 0 0]) (b:=none) (Y0n h) (i.toNat)) aX
 refine aI aB ?_
 obtain⟨bA,b8,bK,rfl,cf,bh⟩:=bm
 obtain⟨rfl,bX⟩:=Sl.len bh
 intro cp K aO
 obtain⟨ad,Y,rfl,bu,N,b5⟩:=S0.outS (r:=Wp.int.toRp) aO (show F2 (Wp.int.R h) ([]:List (List Value)) ([]:D0) from trivial)
 refine eX _ (aI aJ ?_)
 obtain⟨Q,a2,f⟩:=B0 f
 refine eX { vars:=[8],boxes:=[],owns:=[0,2],fuel:=true,kept:=[0] } (eX (λvs os h'=>∃ u8 G t C s,vs.tail = [.int .i64 u8]/\os = [G,C]/\Sub K h'/\I0 u8/\F2 (Wp.opt.R h') G t/\F2 (Wp.int.R h') C s/\J00 z i A (C1 vs) u8 t s=some Q) (eX (λ_ _=>0) (aI (eX P0 ⟨0,((List.replicate i.toNat ([.slice none 0 0]:List Value)).set e.toNat [.slice (some ⟨ad,0,none⟩) (([]:D0)).length Y]),((List.replicate i.toNat (none:Option D0)).set e.toNat (some ([]:D0))),([[.int .i64 e]]:List (List Value)),[e],rfl,rfl,(Sub.refl _),(by decide),(F2.set (p:=Wp.opt.R K) (a:=[.slice (some ⟨ad,0,none⟩) (([]:D0)).length Y]) (b:=some ([]:D0)) (Z0n bu) e.toNat (F2.up (r:=Wp.opt.toRp) N (F2.rep (p:=Wp.opt.R h) (a:=[.slice none 0 0]) (b:=none) (Y0n h) (i.toNat)))),(show F2 (Wp.int.R K) ([[.int .i64 e]]:List (List Value)) [e] from⟨⟨rfl,bc⟩,trivial⟩),a2⟩) ?_)))
 rintro _ G C E bS ⟨u8,cA,t,cx,s,⟨⟩,⟨⟩,M,bR,aa,D,d⟩
 replace d:J00 z i A E u8 t s=some Q:=d
 obtain _|E:=E
 ·cases d
 rw[J00.eq_2]at d
 obtain⟨bf,aQ,d⟩:=B0 d
 obtain rfl:C.length=bf:=(F2.length D).trans (oJ aQ)
 obtain⟨cj,bP,d⟩:=B0 d
 refine ifB d (λa4 d=>?_) λa4 d=>?_
 ·obtain⟨au,aW,d⟩:=B0 d
  obtain⟨aA,bE,aH,bl⟩:=I3 D aW
  refine aI aA ?_
  obtain⟨rfl,bd⟩:=bl
  refine eX _ (aI aH ?_)
  refine trM d (h04 _ _ ae) ?_
  rintro av d co be ⟨bz,b7,bJ,rfl,ao,F⟩
  obtain⟨rfl,bW⟩:=Sl.len ao
  obtain⟨P,a1,d⟩:=B0 d
  refine eX { vars:=[36],boxes:=[],owns:=[0,2],fuel:=true,kept:=[0] } (eX (λvs os h'=>∃ k u l w m,vs.tail = [.int .i64 k]/\os = [u,w]/\Sub be h'/\I0 k/\F2 (Wp.opt.R h') u l/\F2 (Wp.int.R h') w m/\T9 av z i A au (C1 vs) k l m=some P) (eX (λ_ _=>0) (aI (eX P0 ⟨0,G,t,C,s,rfl,rfl,(Sub.refl _),(by decide),(F2.up (r:=Wp.opt.toRp) F aa),(F2.up (r:=Wp.int.toRp) F D),a1⟩) ?_)))
  rintro _ u w y ag ⟨k,cy,l,cz,m,⟨⟩,⟨⟩,B,bQ,o,x,c⟩
  replace c:T9 av z i A au y k l m=some P:=c
  obtain _|y:=y
  ·cases c
  rw[T9.eq_2]at c
  refine ifB c (λa5 c=>?_) λa5 c=>?_
  ·refine ldI c (K0.mono B ao) λj I c=>?_
   refine trV c (C02 _ _ _ (j0 ae bb (N0.mono (((N.trans M).trans F).trans B) an)) _ bd _ I) λg c=>?_
   obtain⟨ck,aS,c⟩:=B0 c
   have af:I0 g:=T0 aS
   obtain⟨bx,aY,c⟩:=B0 c
   obtain⟨bG,Z,bn⟩:=B01 o aY (i0s ag)
   refine aI (λq=>(Z q).1) ?_
   obtain⟨bB,ca,bL,rfl,bg,bi⟩:=bn
   obtain⟨rfl,bY⟩:=Sl.len bi
   refine eX _ (aI (λq=>(Z q).2) ?_)
   refine eX (bx.isNone) (aI (λ_=>by rw[←bg];exact N0q _ _ _ rfl _ _ _) ?_)
   refine ifB c (λba c=>?_) λba c=>?_
   ·obtain⟨cv,aZ,c⟩:=B0 c
    obtain⟨aC,bH,aK,bo⟩:=I3 o aZ
    refine aI aC ?_
    obtain⟨bC,cb,bM,rfl,cg,am⟩:=bo
    obtain⟨rfl,bZ⟩:=Sl.len am
    refine eX _ (aI aK ?_)
    obtain⟨H,ab,c⟩:=B0 c
    refine Tr.mono (m00 _ _ _ _ _ am _  ab) ?_
    rintro cq J ⟨ab,cc,bN,rfl,O⟩
    have cn:Sub ag J:=O.sub
    have bp:=O.r
    obtain⟨rfl,b0⟩:=Sl.len bp
    obtain⟨cl,aU,c⟩:=B0 c
    obtain⟨bv,br,ah,ax⟩:=New.app O (Sub.refl _)
    refine eX bv (aI br (aI (Z0 aU (by first|rw[ah,F2.length (show F2 (Wp.int.R J) ([[.int .i64 j]]:List (List Value)) [j] from⟨⟨rfl,I⟩,trivial⟩)]|(rw[ah];rfl))) ?_))
    intro ct L a3
    obtain⟨n,ac,ak,ce,X,rfl⟩:=ax _ _ _ _ _ (F3.ofPlain (W01 _) (show F2 (Wp.int.R J) ([[.int .i64 j]]:List (List Value)) [j] from⟨⟨rfl,I⟩,trivial⟩)) n4.ofPlain a3
    have ap:=n.r
    obtain⟨aM,b2⟩:=Sl.len ap
    subst aM
    obtain⟨cw,a0,c⟩:=B0 c
    obtain⟨aD,bI,aL,bq⟩:=I3 (F2.up (r:=Wp.opt.toRp) n.sub o) a0
    refine aI aD ?_
    obtain⟨bD,cd,bO,rfl,ch,bj⟩:=bq
    obtain⟨rfl,b1⟩:=Sl.len bj
    refine eX _ (aI aL ?_)
    obtain⟨cm,aV,c⟩:=B0 c
    refine aI (Z0 aV (by first|rw[F2.length (F2.up (r:=Wp.int.toRp) n.sub x),F2.length (show F2 (Wp.int.R L) ([[.int .i64 g]]:List (List Value)) [g] from⟨⟨rfl,af⟩,trivial⟩)]|exact congrArg (·+1) (F2.length (F2.up (r:=Wp.int.toRp) n.sub x)))) ?_
    exact D1 y ⟨(IntKind.i64.wrap (k+1)),(u.set g.toNat [.slice (some ⟨ac,ak,none⟩) (H ++ [j]).length X]),(l.set g.toNat (some (H ++ [j]))),(w++([[.int .i64 g]]:List (List Value))),(m ++ [g]),rfl,rfl,(B.trans n.sub),(F0 _),(F2.set (p:=Wp.opt.R L) (a:=[.slice (some ⟨ac,ak,none⟩) (H ++ [j]).length X]) (b:=some (H ++ [j])) (Z0n ap) g.toNat (F2.up (r:=Wp.opt.toRp) n.sub o)),(F2.append (F2.up (r:=Wp.int.toRp) n.sub x) (show F2 (Wp.int.R L) ([[.int .i64 g]]:List (List Value)) [g] from⟨⟨rfl,af⟩,trivial⟩)),c⟩
   ·exact D1 y ⟨(IntKind.i64.wrap (k+1)),u,l,w,m,rfl,rfl,B,(F0 _),o,x,c⟩
  ·obtain rfl:=oJ c
   try dsimp only[M0,O0]at d
   exact D1 E ⟨(IntKind.i64.wrap (u8+1)),u,l,w,m,rfl,rfl,((M.trans F).trans B),(F0 _),o,x,d⟩
 ·obtain rfl:=oJ d
  try dsimp only[M0,O0]at f
  intro cr bT aN
  obtain⟨ay,aF,rfl,bs,aq,b3⟩:=S0.out (r:=Wp.int.toRp) aN D
  intro cs bU aP
  obtain⟨az,aG,rfl,bt,ar,b4⟩:=S0.out (r:=Wp.opt.toRp) aP (F2.up (r:=Wp.opt.toRp) aq aa)
  obtain rfl:=oJ f
  exact⟨ay,s.length,aF,az,t.length,aG,rfl,(K0.mono ar bs),bt,(((N.trans M).trans aq).trans ar)⟩
theorem o0e(h:Hp)(k:List Value)(n:l0)(N:C0.R h k n)(e:Int)(l:I0 e)(f:Int)(G:I0 f)(r:D0×Bool)(a:c9 n e f=some r):
  Tr Tryz.prog 254 #[.agg k.toArray,.int .i64 e,.int .i64 f] h λv h'=>∃(i:Option Addr) (m j:Nat),v = .tuple #[.slice i m j,.bool r.2]/\K0.R h' [.slice i m j] r.1/\Sub h h':=by
 obtain⟨J,K,t,ap,y,L,rfl,rfl,c,d,b⟩:=H0 N
 obtain⟨rfl,ai⟩:=Sl.len b
 unfold c9 at a
 dsimp only at a
 refine V1 (args:=[.agg #[.int .i64 J,.int .i64 K,.slice t L.length y],.int .i64 e,.int .i64 f]) (fn:=Tryz.f254) rfl ?_
 refine trV a (Y00 _ _ _ (j0 c d b)) λaA a=>?_
 refine trG a (λq=>T01 _ _ _ (j0 c d b) _ l) λaB a=>?_
 refine trG a (λq=>T01 _ _ _ (j0 c d b) _ G) λaC a=>?_
 refine ifB a (λF a=>?_) λF a=>?_
 ·intro az ah D
  obtain⟨x,B,rfl,S,U,ao⟩:=S0.out (r:=Wp.int.toRp) D (show F2 (Wp.int.R h) ([]:List (List Value)) ([]:D0) from trivial)
  obtain rfl:=oJ a
  exact⟨x,(([]:D0)).length,B,rfl,S,U⟩
 ·refine trM a (t0j _ _ _ (j0 c d b) _ l) ?_
  rintro X a ax H ⟨Z,au,ae,aa,av,af,rfl,p,g,s⟩
  obtain⟨aD,aE⟩:=X
  dsimp only at a p g
  obtain⟨rfl,al⟩:=Sl.len p
  obtain⟨rfl,am⟩:=Sl.len g
  refine ld a g λV ab O a=>?_
  obtain⟨Y,aq,ad,rfl,I,M⟩:=O
  obtain⟨rfl,aj⟩:=Sl.len M
  refine eX (V.isNone) (aI (by rw[←I];exact N0q _ _ _ rfl _ _ _) ?_)
  refine ifB a (λE a=>?_) λE a=>?_
  ·intro ay ag C
   obtain⟨w,A,rfl,Q,T,an⟩:=S0.out (r:=Wp.int.toRp) C (show F2 (Wp.int.R H) ([]:List (List Value)) ([]:D0) from trivial)
   obtain rfl:=oJ a
   exact⟨w,(([]:D0)).length,A,rfl,Q,(s.trans T)⟩
  ·refine ld a g λW ac P a=>?_
   obtain⟨u,ar,z,rfl,aw,o⟩:=P
   obtain⟨rfl,ak⟩:=Sl.len o
   obtain rfl:=oJ a
   exact⟨u,(W.getD []).length,z,rfl,o,s⟩
theorem k08(h:Hp)(f:List Value)(i:l0)(w:C0.R h f i)(b:Int)(q:I0 b)(r:D0)(a:V00 i b=some r):
  Tr Tryz.prog 197 #[.agg f.toArray,.int .i64 b] h λv h'=>∃(d:Option Addr) (g e:Nat),v = .slice d g e/\K0.R h' [.slice d g e] r/\Sub h h':=by
 obtain⟨s,t,k,D,m,u,rfl,rfl,o,p,j⟩:=H0 w
 obtain⟨rfl,B⟩:=Sl.len j
 unfold V00 at a
 dsimp only at a
 refine V1 (args:=[.agg #[.int .i64 s,.int .i64 t,.slice k u.length m],.int .i64 b]) (fn:=Tryz.f197) rfl ?_
 refine trM a (o0e _ _ _ (j0 o p j) 0 (by decide) _ q) ?_
 rintro y a F A ⟨l,E,n,rfl,c,x⟩
 obtain⟨z,G⟩:=y
 dsimp only at a c
 obtain⟨rfl,C⟩:=Sl.len c
 obtain rfl:=oJ a
 exact⟨l,z.length,n,rfl,c,x⟩
theorem a08(h:Hp)(A:List Value)(E:l0)(Y:C0.R h A E)(r:N1)(b:V6 E=some r):
  Tr Tryz.prog 204 #[.agg A.toArray] h λv h'=>∃(y:Option Addr) (D z:Nat),v = .slice y D z/\R3.R h' [.slice y D z] r/\Sub h h':=by
 obtain⟨q,s,G,ap,J,t,rfl,rfl,l,m,j⟩:=H0 Y
 obtain⟨rfl,ak⟩:=Sl.len j
 unfold V6 at b
 dsimp only at b
 refine V1 (args:=[.agg #[.int .i64 q,.int .i64 s,.slice G t.length J]]) (fn:=Tryz.f204) rfl ?_
 refine trV b (W02 _ _ _ (j0 l m j)) λaz b=>?_
 refine ifB b (λT b=>?_) λT b=>?_
 ·intro ay aj N
  obtain⟨I,L,rfl,ab,ad,ao⟩:=S0.out (r:=K0.toRp) N (show F2 (K0.R h) ([]:List (List Value)) ([]:N1) from trivial)
  obtain rfl:=oJ b
  exact⟨I,(([]:N1)).length,L,rfl,ab,ad⟩
 ·obtain⟨x,P,b⟩:=B0 b
  refine eX { vars:=[4],boxes:=[],owns:=[0],fuel:=true } (eX (λvs os h'=>∃ u8 k d,vs.tail = [.int .i64 u8]/\os = [k]/\Sub h h'/\I0 u8/\F2 (K0.R h') k d/\Q3 s q t (C1 vs) u8 d=some x) (eX (λ_ _=>0) (aI (eX P0 ⟨0,[],([]:N1),rfl,rfl,(Sub.refl _),(by decide),(show F2 (K0.R h) ([]:List (List Value)) ([]:N1) from trivial),P⟩) ?_)))
  rintro _ k i W ⟨u8,aG,d,⟨⟩,⟨⟩,e,B,g,a⟩
  replace a:Q3 s q t i u8 d=some x:=a
  obtain _|i:=i
  ·cases a
  rw[Q3.eq_2]at a
  refine ifB a (λQ a=>?_) λQ a=>?_
  ·refine trM a (Z04 _ _ _ (j0 l m (N0.mono e j)) _ B) ?_
   rintro ae a av X ⟨ag,rfl,w⟩
   obtain⟨aA,aE⟩:=ae
   dsimp only at a w
   have c:Sub W X:=w.sub
   have Z:=w.r
   obtain⟨aB,aC,af,aq,ah,aD,rfl,rfl,U,V,F⟩:=H0 Z
   obtain⟨rfl,al⟩:=Sl.len F
   try dsimp only at a
   refine trV a (g02 _ _ _ (j0 U V F) _ _ (j0 l m (N0.mono (e.trans c) j))) λaF a=>?_
   refine ifB a (λS a=>?_) λS a=>?_
   ·refine trM a (k08 _ _ _ (j0 l m (N0.mono (e.trans c) j)) _ B) ?_
    rintro f a aw C ⟨o,ar,p,rfl,u,n⟩
    obtain⟨rfl,am⟩:=Sl.len u
    obtain⟨au,O,a⟩:=B0 a
    refine aI (Z0 O (by first|rw[F2.length (F2.up (r:=K0.toRp) (c.trans n) g),F2.length (show F2 (K0.R C) ([[.slice o f.length p]]:List (List Value)) [f] from⟨u,trivial⟩)]|exact congrArg (·+1) (F2.length (F2.up (r:=K0.toRp) (c.trans n) g)))) ?_
    exact D1 i ⟨(IntKind.i64.wrap (u8+1)),(k++([[.slice o f.length p]]:List (List Value))),(d ++ [f]),rfl,rfl,((e.trans c).trans n),(F0 _),(F2.append (F2.up (r:=K0.toRp) (c.trans n) g) (show F2 (K0.R C) ([[.slice o f.length p]]:List (List Value)) [f] from⟨u,trivial⟩)),a⟩
   ·exact D1 i ⟨(IntKind.i64.wrap (u8+1)),k,d,rfl,rfl,(e.trans c),(F0 _),(F2.up (r:=K0.toRp) c g),a⟩
  ·obtain rfl:=oJ a
   try dsimp only[M0,O0]at b
   intro ax ai M
   obtain⟨H,K,rfl,aa,ac,an⟩:=S0.out (r:=K0.toRp) M g
   obtain rfl:=oJ b
   exact⟨H,d.length,K,rfl,aa,(e.trans ac)⟩
theorem p0e(h:Hp)(m:List Value)(n:l0)(E:C0.R h m n)(r:Bool)(b:s02 n=some r):
  Tr Tryz.prog 109 #[.agg m.toArray] h λv h'=>v = .bool r/\h'=h:=by
 obtain⟨C,o,s,aa,u,D,rfl,rfl,i,j,g⟩:=H0 E
 obtain⟨rfl,Y⟩:=Sl.len g
 unfold s02 at b
 dsimp only at b
 refine Tr.forget (V1 (args:=[.agg #[.int .i64 C,.int .i64 o,.slice s D.length u]]) (fn:=Tryz.f109) rfl ?_)
 refine Or.inr (Or.inr (Or.inr (Or.inl (aI (aI (by kernel_rfl) (by kernel_rfl)) ?_))))
 obtain⟨J,x,b⟩:=B0 b
 refine Or.inl (eX (.val (.bool J)) (aI ?_ ?_))
 ·intro U G
  exact Tr.val (r0d _ _ _ (j0 i j (N0.mono G g)) _ x) (aI rfl (aI rfl rfl))
 obtain⟨K,y,b⟩:=B0 b
 refine Or.inl (eX (.val (.bool K)) (aI ?_ ?_))
 ·intro V H f
  exact Tr.val (W02 _ _ _ (j0 i j (N0.mono H g)) _ (W5 y f)) (aI rfl (aI rfl rfl))
 obtain⟨d,z,b⟩:=B0 b
 refine Or.inr (eX (λv A=>∃(a:Option Addr) (c:Nat),v = .slice a d.length c/\R3.R A [.slice a d.length c] d/\d.length<=9223372036854775807) (aI (λv O P k q=>by obtain⟨a,c,e,r,l⟩:=q;exact⟨a,c,e,R3.mono k r,l⟩) (aI ?_ ?_)))
 ·intro W I f
  refine Tr.mono (a08 _ _ _ (j0 i j (N0.mono I g)) _ (W5 z f)) ?_
  rintro _ X ⟨t,ab,w,rfl,p,k⟩
  obtain⟨rfl,B⟩:=Sl.len p
  exact aI y01 (aI k ⟨t,w,rfl,p,B⟩)
 obtain⟨ac,N,b⟩:=B0 b
 refine Or.inl (eX (.val (.int .i64 ((d.length:Nat):Int))) (aI ?_ ?_))
 ·intro Q ae f
  rintro _ ⟨L,M,rfl,ad,Z⟩
  exact aI rfl (aI rfl rfl)
 refine Or.inl (eX (.val (.bool (decide (((d.length:Nat):Int)=o)))) (aI ?_ ?_))
 ·intro S af f
  exact aI rfl (aI rfl rfl)
 intro T F
 obtain rfl:=oJ b
 exact aI rfl F
theorem c0c(h:Hp)(k:Option Addr)(u l:Nat)(g:Q1)(w:A5.R h [.slice k u l] g)(r:D0)(e:f01 g=some r):
  Tr Tryz.prog 23 #[.slice k u l] h λv h'=>∃(n:Option Addr) (t o:Nat),v = .slice n t o/\New K0 h h' [.slice n t o] r:=by
 obtain⟨rfl,O⟩:=Sl.len w
 unfold f01 at e
 refine V1 (args:=[.slice k g.length l]) (fn:=Tryz.f23) rfl ?_
 obtain⟨m,E,e⟩:=B0 e
 refine eX { vars:=[9],boxes:=[],owns:=[0],fuel:=true } (eX (λvs os h'=>∃ b i c,vs.tail = [.int .i64 b]/\os = [i]/\Sub h h'/\I0 b/\F2 (Wp.int.R h') i c/\i5 g (C1 vs) b c=some m) (eX (λ_ _=>0) (aI (eX P0 ⟨0,[],([]:D0),rfl,rfl,(Sub.refl _),(by decide),(show F2 (Wp.int.R h) ([]:List (List Value)) ([]:D0) from trivial),E⟩) ?_)))
 rintro _ i f s ⟨b,ac,c,⟨⟩,⟨⟩,j,q,d,a⟩
 replace a:i5 g f b c=some m:=a
 obtain _|f:=f
 ·cases a
 rw[i5.eq_2]at a
 refine ifB a (λF a=>?_) λF a=>?_
 ·obtain⟨X,D,a⟩:=B0 a
  obtain⟨z,L,B,J⟩:=Sl.getI (r:=C0.toRp) (A5.mono j w) D (by decide)
  refine aI z ?_
  obtain⟨Y,Z,K,S,M,aa,rfl,rfl,H,I,x⟩:=H0 J
  obtain⟨rfl,P⟩:=Sl.len x
  try dsimp only at a
  refine eX _ (aI B ?_)
  refine trV a (p0e _ _ _ (j0 H I x)) λab a=>?_
  refine ifB a (λG a=>?_) λG a=>?_
  ·obtain⟨T,C,a⟩:=B0 a
   refine aI (Z0 C (by first|rw[F2.length d,F2.length (show F2 (Wp.int.R s) ([[.int .i64 b]]:List (List Value)) [b] from⟨⟨rfl,q⟩,trivial⟩)]|exact congrArg (·+1) (F2.length d))) ?_
   exact D1 f ⟨(IntKind.i64.wrap (b+1)),(i++([[.int .i64 b]]:List (List Value))),(c ++ [b]),rfl,rfl,j,(F0 _),(F2.append d (show F2 (Wp.int.R s) ([[.int .i64 b]]:List (List Value)) [b] from⟨⟨rfl,q⟩,trivial⟩)),a⟩
  ·exact D1 f ⟨(IntKind.i64.wrap (b+1)),i,c,rfl,rfl,j,(F0 _),d,a⟩
 ·obtain rfl:=oJ a
  try dsimp only[M0,O0]at e
  intro W N p
  obtain⟨y,A,rfl,U,V,Q⟩:=S0.out (r:=Wp.int.toRp) p d
  obtain rfl:=oJ e
  exact⟨y,c.length,A,rfl,(New.from (S0.newPlain (r:=Wp.int) p d (W01 _)) j)⟩
theorem l06(h:Hp)(ab:List Value)(ak:l0)(a1:C0.R h ab ak)(r:l0×D0)(c:t9 ak=some r):
  Tr Tryz.prog 194 #[.agg ab.toArray] h λv h'=>∃(aa:List Value) (Y:Option Addr) (aj Z:Nat),v = .tuple #[.agg aa.toArray,.slice Y aj Z]/\C0.R h' aa r.1/\K0.R h' [.slice Y aj Z] r.2/\Sub h h':=by
 obtain⟨aY,aZ,aw,bv,aA,a0,rfl,rfl,af,ag,O⟩:=H0 a1
 obtain⟨rfl,bn⟩:=Sl.len O
 unfold t9 at c
 dsimp only at c
 refine V1 (args:=[.agg #[.int .i64 aY,.int .i64 aZ,.slice aw a0.length aA]]) (fn:=Tryz.f194) rfl ?_
 refine trM c (B9 _ _ _ (j0 af ag O)) ?_
 rintro a5 c bF C ⟨ae,bx,ac,rfl,T⟩
 have S:Sub h C:=T.sub
 have al:=T.r
 obtain⟨aq,ar,V⟩:=a5
 dsimp only at c T al
 obtain⟨_,_,_,_,_,_,aE,aF,ah,ai,P⟩:=H0 al
 cases aE
 cases aF
 obtain⟨rfl,bq⟩:=Sl.len P
 try dsimp only at c
 refine trV c (u03 _ _ _ (j0 af ag (N0.mono S O))) λbL c=>?_
 refine ifB c (λaR c=>?_) λaR c=>?_
 ·intro bI bm aH
  obtain⟨az,aD,rfl,a4,ap,bu⟩:=S0.out (r:=Wp.int.toRp) aH (show F2 (Wp.int.R C) ([]:List (List Value)) ([]:D0) from trivial)
  obtain rfl:=oJ c
  exact⟨([.int .i64 aq,.int .i64 ar,.slice (some ⟨ae,0,none⟩) V.length ac]),az,(([]:D0)).length,aD,rfl,(j0 ah ai (N0.mono ap P)),a4,(S.trans ap)⟩
 ·obtain⟨W,aM,c⟩:=B0 c
  refine eX { vars:=[],boxes:=[2],owns:=[0],fuel:=true } (eX (λvs os h'=>∃ e f p M t g I l,vs.tail = [.int .i64 e,.int .i64 f,.slice p M t]/\os = [I]/\Sub C h'/\I0 e/\I0 f/\N0.R h' [.slice p M t] g/\F2 (Wp.int.R h') I l/\L6 (C1 vs) e f g l=some W) (eX (λ_ _=>0) (aI (eX P0 ⟨aq,ar,(some ⟨ae,0,none⟩),V.length,ac,V,[],([]:D0),rfl,rfl,(Sub.refl _),ah,ai,P,(show F2 (Wp.int.R C) ([]:List (List Value)) ([]:D0) from trivial),aM⟩) ?_)))
  rintro _ _ _ I x bk ⟨e,f,p,M,t,g,bM,l,⟨⟩,⟨⟩,Q,z,J,E,ad,b⟩
  replace b:L6 x e f g l=some W:=b
  obtain _|x:=x
  ·cases b
  rw[L6.eq_2]at b
  obtain⟨rfl,bo⟩:=Sl.len E
  refine trG b (λq=>i08 _ _ _ (j0 z J E) 0 (by decide)) λba b=>?_
  obtain⟨bB,aJ,b⟩:=B0 b
  have bj:I0 ba:=T0 aJ
  refine ifB b (λaO b=>?_) λaO b=>?_
  ·refine trM b (h04 _ _ z) ?_
   rintro au b bE aW ⟨bf,bz,bh,rfl,am,G⟩
   obtain⟨rfl,br⟩:=Sl.len am
   obtain⟨X,aN,b⟩:=B0 b
   refine eX { vars:=[29],boxes:=[2],owns:=[0],fuel:=true,kept:=[0] } (eX (λvs os h'=>∃ m i j s N u d n k,vs.tail = [.int .i64 m,.int .i64 i,.int .i64 j,.slice s N u]/\os = [n]/\Sub aW h'/\I0 m/\I0 i/\I0 j/\N0.R h' [.slice s N u] d/\F2 (Wp.int.R h') n k/\K6 au (C1 vs) m i j d k=some X) (eX (λ_ _=>0) (aI (eX P0 ⟨0,e,f,p,g.length,t,g,I,l,rfl,rfl,(Sub.refl _),(by decide),z,J,(N0.mono G E),(F2.up (r:=Wp.int.toRp) G ad),aN⟩) ?_)))
   rintro _ _ _ _ n D aX ⟨m,i,j,s,N,u,d,bN,k,⟨⟩,⟨⟩,F,bi,A,B,y,w,a⟩
   replace a:K6 au D m i j d k=some X:=a
   obtain _|D:=D
   ·cases a
   rw[K6.eq_2]at a
   obtain⟨rfl,bp⟩:=Sl.len y
   refine ifB a (λaP a=>?_) λaP a=>?_
   ·refine ldI a (K0.mono F am) λo K a=>?_
    refine trV a (C02 _ _ _ (j0 A B y) 0 (by decide) _ K) λbb a=>?_
    obtain⟨bC,aK,a⟩:=B0 a
    have aS:I0 bb:=T0 aK
    refine ifB a (λaQ a=>?_) λaQ a=>?_
    ·refine trM a (Z04 _ _ _ (j0 A B y) _ aS) ?_
     rintro bc a bG L ⟨bg,rfl,U⟩
     obtain⟨bJ,bK⟩:=bc
     dsimp only at a U
     have H:Sub aX L:=U.sub
     have a2:=U.r
     obtain⟨bd,be,ax,bA,aB,av,rfl,rfl,aU,aV,an⟩:=H0 a2
     obtain⟨rfl,bs⟩:=Sl.len an
     try dsimp only at a
     obtain⟨bD,aL,a⟩:=B0 a
     refine aI (Z0 aL (by first|rw[F2.length (F2.up (r:=Wp.int.toRp) H w),F2.length (show F2 (Wp.int.R L) ([[.int .i64 o]]:List (List Value)) [o] from⟨⟨rfl,K⟩,trivial⟩)]|exact congrArg (·+1) (F2.length (F2.up (r:=Wp.int.toRp) H w)))) ?_
     obtain rfl:=oJ a
     try dsimp only[M0,O0]at b
     exact D1 x ⟨bd,be,ax,av.length,aB,av,(n++([[.int .i64 o]]:List (List Value))),(k ++ [o]),rfl,rfl,(((Q.trans G).trans F).trans H),aU,aV,an,(F2.append (F2.up (r:=Wp.int.toRp) H w) (show F2 (Wp.int.R L) ([[.int .i64 o]]:List (List Value)) [o] from⟨⟨rfl,K⟩,trivial⟩)),b⟩
    ·exact D1 D ⟨(IntKind.i64.wrap (m+1)),i,j,s,d.length,u,d,n,k,rfl,rfl,F,(F0 _),A,B,y,w,a⟩
   ·obtain rfl:=oJ a
    try dsimp only[M0,O0]at b
    exact D1 x ⟨i,j,s,d.length,u,d,n,k,rfl,rfl,((Q.trans G).trans F),A,B,y,w,b⟩
  ·obtain rfl:=oJ b
   try dsimp only[M0,O0]at c
   intro bH bl aG
   obtain⟨ay,aC,rfl,a3,ao,bt⟩:=S0.out (r:=Wp.int.toRp) aG ad
   obtain rfl:=oJ c
   exact⟨([.int .i64 e,.int .i64 f,.slice p g.length t]),ay,l.length,aC,rfl,(j0 z J (N0.mono ao E)),a3,((S.trans Q).trans ao)⟩
theorem b05(h:Hp)(y:List Value)(K:l0)(aV:C0.R h y K)(z:List Value)(L:l0)(aW:C0.R h z L)(r:D0×Bool)(b:N2 K L=some r):
  Tr Tryz.prog 104 #[.agg y.toArray,.agg z.toArray] h λv h'=>∃(w:Option Addr) (J x:Nat),v = .tuple #[.slice w J x,.bool r.2]/\K0.R h' [.slice w J x] r.1/\Sub h h':=by
 obtain⟨aO,aP,af,bI,an,aQ,rfl,rfl,A,B,j⟩:=H0 aV
 obtain⟨rfl,bt⟩:=Sl.len j
 obtain⟨aR,aS,ag,bJ,ao,aU,rfl,rfl,C,D,k⟩:=H0 aW
 obtain⟨rfl,bu⟩:=Sl.len k
 unfold N2 at b
 dsimp only at b
 refine V1 (args:=[.agg #[.int .i64 aO,.int .i64 aP,.slice af aQ.length an],.agg #[.int .i64 aR,.int .i64 aS,.slice ag aU.length ao]]) (fn:=Tryz.f104) rfl ?_
 refine trV b (u03 _ _ _ (j0 A B j)) λb1 b=>?_
 refine trG b (λq=>u03 _ _ _ (j0 C D k)) λb8 b=>?_
 refine ifB b (λaD b=>?_) λaD b=>?_
 ·intro b0 br az
  obtain⟨am,aw,rfl,a0,a4,bH⟩:=S0.out (r:=Wp.int.toRp) az (show F2 (Wp.int.R h) ([]:List (List Value)) ([]:D0) from trivial)
  obtain rfl:=oJ b
  exact⟨am,(([]:D0)).length,aw,rfl,a0,a4⟩
 ·refine trM b (l06 _ _ _ (j0 A B j)) ?_
  rintro bc b bS bs ⟨bk,ak,bR,au,rfl,T,n,s⟩
  obtain⟨cb,i⟩:=bc
  dsimp only at b T n
  obtain⟨ac,ad,bg,bQ,bo,ae,rfl,rfl,F,G,m⟩:=H0 T
  obtain⟨rfl,bD⟩:=Sl.len m
  try dsimp only at b
  obtain⟨rfl,bE⟩:=Sl.len n
  refine trM b (l06 _ _ _ (j0 C D (N0.mono s k))) ?_
  rintro a5 b bT aJ ⟨bi,be,bL,bm,rfl,M,l,f⟩
  obtain⟨b2,Z⟩:=a5
  dsimp only at b M l
  obtain⟨W,X,bd,bK,bl,Y,rfl,rfl,aE,aF,N⟩:=H0 M
  obtain⟨rfl,bv⟩:=Sl.len N
  try dsimp only at b
  obtain⟨rfl,bx⟩:=Sl.len l
  obtain⟨u,aA,b⟩:=B0 b
  refine eX { vars:=[10],boxes:=[],owns:=[],fuel:=true } (eX (λvs os h'=>∃ e,vs.tail = [.int .i64 e]/\os = []/\Sub aJ h'/\I0 e/\V2 ad ac ae W X Y Z i (C1 vs) e=some u) (eX (λ_ _=>0) (aI (eX P0 ⟨0,rfl,rfl,(Sub.refl _),(by decide),aA⟩) ?_)))
  rintro _ g H ⟨e,⟨⟩,⟨⟩,c,E,a⟩
  replace a:V2 ad ac ae W X Y Z i g e=some u:=a
  obtain _|g:=g
  ·cases a
  rw[V2.eq_2]at a
  refine ifB a (λaB a=>?_) λaB a=>?_
  ·refine trM a (Z04 _ _ _ (j0 F G (N0.mono (f.trans c) m)) _ E) ?_
   rintro ba a bU aK ⟨bj,rfl,t⟩
   obtain⟨b3,b7⟩:=ba
   dsimp only at a t
   have d:Sub H aK:=t.sub
   have aX:=t.r
   obtain⟨b4,b5,bf,bM,bn,b6,rfl,rfl,aG,aH,O⟩:=H0 aX
   obtain⟨rfl,bz⟩:=Sl.len O
   try dsimp only at a
   refine trV a (g02 _ _ _ (j0 aG aH O) _ _ (j0 aE aF (N0.mono (c.trans d) N))) λca a=>?_
   refine ifB a (λaC a=>?_) λaC a=>?_
   ·refine trM a (k08 _ _ _ (j0 F G (N0.mono ((f.trans c).trans d) m)) _ E) ?_
    rintro aa a bV aL ⟨ah,bN,ap,rfl,P,o⟩
    obtain⟨rfl,bA⟩:=Sl.len P
    refine trM a (Z0b _ _ _ _ _ (K0.mono ((c.trans d).trans o) l)) ?_
    rintro ab a bW I ⟨ai,bO,aq,rfl,U⟩
    have p:Sub aL I:=U.sub
    have Q:=U.r
    obtain⟨rfl,bB⟩:=Sl.len Q
    refine Or.inl ?_
    intro bX aM ax
    obtain⟨bh,bp,rfl,aY,a2,bF⟩:=S0.out (r:=K0.toRp) ax (show F2 (K0.R I) ([[.slice ak i.length au],[.slice ah aa.length ap],[.slice ai ab.length aq]]:List (List Value)) [i,aa,ab] from⟨(K0.mono ((((f.trans c).trans d).trans o).trans p) n),⟨(K0.mono p P),⟨Q,trivial⟩⟩⟩)
    refine trM a (s0g _ _ _ _ _ aY) ?_
    rintro bb a bY aN ⟨aj,bP,ar,rfl,V⟩
    have a1:Sub aM aN:=V.sub
    have S:=V.r
    obtain⟨rfl,bC⟩:=Sl.len S
    obtain rfl:=oJ a
    try dsimp only[N3,O3]at b
    obtain rfl:=oJ b
    exact⟨aj,bb.length,ar,rfl,S,(((((((s.trans f).trans c).trans d).trans o).trans p).trans a2).trans a1)⟩
   ·exact D1 g ⟨(IntKind.i64.wrap (e+1)),rfl,rfl,(c.trans d),(F0 _),a⟩
  ·obtain rfl:=oJ a
   try dsimp only[M0,O0]at b
   intro bZ bq ay
   obtain⟨al,av,rfl,aZ,a3,bG⟩:=S0.out (r:=Wp.int.toRp) ay (show F2 (Wp.int.R H) ([]:List (List Value)) ([]:D0) from trivial)
   obtain rfl:=oJ b
   exact⟨al,(([]:D0)).length,av,rfl,aZ,(((s.trans f).trans c).trans a3)⟩
theorem Q03(h:Hp)(I:Option Addr)(aB J:Nat)(p:Q1)(X:A5.R h [.slice I aB J] p)(r:N1)(C:F4 p=some r):
  Tr Tryz.prog 13 #[.slice I aB J] h λv h'=>∃(ae:Option Addr) (aA ah:Nat),v = .slice ae aA ah/\New R3 h h' [.slice ae aA ah] r:=by
 obtain⟨rfl,cH⟩:=Sl.len X
 unfold F4 at C
 refine V1 (args:=[.slice I p.length J]) (fn:=Tryz.f13) rfl ?_
 obtain⟨ac,bp,C⟩:=B0 C
 refine eX { vars:=[14],boxes:=[],owns:=[0],fuel:=true } (eX (λvs os h'=>∃ b t s,vs.tail = [.int .i64 b]/\os = [t]/\Sub h h'/\I0 b/\F2 (K0.R h') t s/\(∃ Bs,F3 (K0.W h') t s Bs/\n4 h Bs.flatten)/\K3 p (C1 vs) b s=some ac) (eX (λ_ _=>0) (aI (eX P0 ⟨0,[],([]:N1),rfl,rfl,(Sub.refl _),(by decide),(show F2 (K0.R h) ([]:List (List Value)) ([]:N1) from trivial),⟨_,(show F3 (K0.W h) [] [] [] from trivial),(n4.nil h)⟩,bp⟩) ?_)))
 rintro _ t w cD ⟨b,dB,s,⟨⟩,⟨⟩,Z,z,S,⟨cd,aJ,ao⟩,d⟩
 replace d:K3 p w b s=some ac:=d
 obtain _|w:=w
 ·cases d
 rw[K3.eq_2]at d
 refine ifB d (λbv d=>?_) λbv d=>?_
 ·obtain⟨dz,bo,d⟩:=B0 d
  obtain⟨aZ,ci,bb,bN⟩:=Sl.getI (r:=C0.toRp) X bo (by decide)
  refine aI aZ ?_
  obtain⟨aL,aM,b5,cX,cj,aN,rfl,rfl,bC,bD,aE⟩:=H0 bN
  obtain⟨rfl,cK⟩:=Sl.len aE
  try dsimp only at d
  refine eX _ (aI (i6.up Z bb) ?_)
  obtain⟨bJ,bf,d⟩:=B0 d
  obtain rfl:t.length=bJ:=(F2.length S).trans (oJ bf)
  obtain⟨c3,cq,d⟩:=B0 d
  obtain⟨ad,bq,d⟩:=B0 d
  refine eX { vars:=[6,21],boxes:=[],owns:=[0],fuel:=true,kept:=[0] } (eX (λvs os h'=>∃ G j o k,vs.tail = [.bool G,.int .i64 j]/\os = [o]/\Sub h h'/\I0 j/\F2 (K0.R h') o k/\(∃ Bs,F3 (K0.W h') o k Bs/\n4 h Bs.flatten)/\d4 (t).length p aL aM aN b (C1 vs) G j k=some ad) (eX (λ_ _=>0) (aI (eX P0 ⟨false,0,t,s,rfl,rfl,Z,(by decide),S,⟨_,aJ,ao⟩,bq⟩) ?_)))
  rintro _ _ o L av ⟨G,j,dA,k,⟨⟩,⟨⟩,x,cs,u,⟨cc,F,K⟩,f⟩
  replace f:d4 (t).length p aL aM aN b L G j k=some ad:=f
  obtain _|L:=L
  ·cases f
  rw[d4.eq_2]at f
  refine ifB f (λbs f=>?_) λbs f=>?_
  ·obtain⟨H,aq,f⟩:=B0 f
   obtain⟨aV,ce,Q,Y⟩:=I3 u aq
   refine aI aV ?_
   obtain⟨aP,cU,a0,rfl⟩:=Wp.slice_cell Y
   obtain⟨rfl,cI⟩:=Sl.len Y
   refine eX _ (aI Q ?_)
   refine Or.inr (Or.inr (Or.inr (Or.inl (aI (aI (by kernel_rfl) (by kernel_rfl)) ?_))))
   obtain⟨aK,bk,f⟩:=B0 f
   obtain⟨aW,cf,a5,bL⟩:=Sl.getI (r:=Wp.int.toRp) Y bk (by decide)
   obtain⟨rfl,ct⟩:=bL
   refine Or.inl (eX (.hel (.slice aP H.length a0) 0 1 0) (aI ?_ ?_))
   ·intro cu dj
    exact aI aW (aI rfl (aI rfl rfl))
   refine Or.inl (eX (.val (.int .i64 aK)) (aI ?_ ?_))
   ·intro cv bS
    exact eX _ (aI (i6.up bS a5) (aI rfl (aI rfl rfl)))
   obtain⟨dx,bl,f⟩:=B0 f
   obtain⟨aX,cg,ba,bM⟩:=Sl.getI (r:=C0.toRp) (A5.mono x X) bl (by decide)
   obtain⟨bY,bZ,aQ,cV,a1,b0,rfl,rfl,bA,bB,aC⟩:=H0 bM
   obtain⟨rfl,cJ⟩:=Sl.len aC
   try dsimp only at f
   refine Or.inl (eX (.hel (.slice I p.length J) aK 3 0) (aI ?_ ?_))
   ·intro cw dk
    exact aI aX (aI rfl (aI rfl rfl))
   refine Or.inl (eX (.agg [.val (.int .i64 bY),.val (.int .i64 bZ),.val (.slice aQ b0.length a1)]) (aI ?_ ?_))
   ·intro cx bT
    exact eX _ (aI (i6.up bT ba) (aI rfl (aI rfl rfl)))
   obtain⟨b1,bm,f⟩:=B0 f
   obtain⟨g,ab⟩:=b1
   try dsimp only at f
   refine Or.inr (eX (λv i=>∃(n:Value),v = .tuple #[n,.bool ab]/\(λv i=>∃(a:Option Addr) (c:Nat),v = .slice a g.length c/\K0.R i [.slice a g.length c] g/\g.length<=9223372036854775807) n i) (aI (λv U V m q=>by obtain⟨n,e,T⟩:=q;exact⟨n,e,(by obtain⟨a,c,e,r,l⟩:=T;exact⟨a,c,e,K0.mono m r,l⟩)⟩) (aI ?_ ?_)))
   ·intro cy aH
    refine Tr.mono (b05 _ _ _ (j0 bC bD (N0.mono (x.trans aH) aE)) _ _ (j0 bA bB (N0.mono aH aC)) _ bm) ?_
    rintro _ cG ⟨af,cW,ai,rfl,aD,m⟩
    obtain⟨rfl,bF⟩:=Sl.len aD
    exact aI y01 (aI m ⟨(.slice af g.length ai),rfl,⟨af,ai,rfl,aD,bF⟩⟩)
   refine Or.inr (eX (λv i=>∃(n:Value),v = .tuple #[n,.bool ab]/\(λv i=>∃(a:Option Addr) (c:Nat),v = .slice a g.length c/\K0.R i [.slice a g.length c] g/\g.length<=9223372036854775807) n i) (aI (λv U V m q=>by obtain⟨n,e,T⟩:=q;exact⟨n,e,(by obtain⟨a,c,e,r,l⟩:=T;exact⟨a,c,e,K0.mono m r,l⟩)⟩) (aI ?_ ?_)))
   ·intro cz dm
    rintro _ ⟨_,rfl,⟨ag,aj,rfl,bP,bG⟩⟩
    exact aI y01 (aI (Sub.refl _) ⟨(.slice ag g.length aj),rfl,⟨ag,aj,rfl,bP,bG⟩⟩)
   refine Or.inr (eX (λv i=>∃(a:Option Addr) (c:Nat),v = .slice a g.length c/\K0.R i [.slice a g.length c] g/\g.length<=9223372036854775807) (aI (λv U V m q=>by obtain⟨a,c,e,r,l⟩:=q;exact⟨a,c,e,K0.mono m r,l⟩) (aI ?_ ?_)))
   ·intro cA dn
    rintro _ ⟨_,rfl,⟨aR,a2,rfl,bQ,bH⟩⟩
    exact aI y01 (aI (Sub.refl _) ⟨aR,a2,rfl,bQ,bH⟩)
   refine Or.inl (eX (.val (.bool ab)) (aI ?_ ?_))
   ·intro cC dq
    rintro _ ⟨_,rfl,⟨b6,ck,rfl,db,cL⟩⟩
    exact aI rfl (aI rfl rfl)
   refine Or.inr (eX (λv i=>∃(a:Option Addr) (c:Nat),v = .slice a g.length c/\K0.R i [.slice a g.length c] g/\g.length<=9223372036854775807) (aI (λv U V m q=>by obtain⟨a,c,e,r,l⟩:=q;exact⟨a,c,e,K0.mono m r,l⟩) (aI ?_ ?_)))
   ·intro cE ds
    rintro _ ⟨aS,a3,rfl,bR,bI⟩
    exact aI y01 (aI (Sub.refl _) ⟨aS,a3,rfl,bR,bI⟩)
   intro aw B
   rintro _ ⟨b7,cl,rfl,dc,cM⟩
   rintro _ ⟨b8,cm,rfl,dd,cN⟩
   rintro _ ⟨_,rfl,⟨ca,cn,rfl,df,cO⟩⟩
   rintro _ ⟨_,rfl,⟨cb,co,rfl,dg,cP⟩⟩
   refine ifB f (λbt f=>?_) λbt f=>?_
   ·obtain⟨c0,bh,f⟩:=B0 f
    obtain⟨cZ,bg,f⟩:=B0 f
    have bz:=F2.length (F2.up (r:=K0.toRp) B u)
    obtain⟨cr,cY,bc,bV,bO,az,aO⟩:=New.appE (f05 F B) K (x.trans B) aq Q (T0 bh)
    subst bc
    refine eX bV (aI bO (aI (Z0 bg (by first|rw[az,F2.length (show F2 (Wp.int.R aw) ([[.int .i64 b]]:List (List Value)) [b] from⟨⟨rfl,z⟩,trivial⟩)]|(rw[az];rfl))) ?_))
    intro dw A br
    obtain⟨ar,au,ak,rfl,aa,⟨b4,y,ap⟩,dh,cQ⟩:=aO ([[.int .i64 b]]:List (List Value)) [b] _ _ (show F2 (Wp.int.R aw) ([[.int .i64 b]]:List (List Value)) [b] from⟨⟨rfl,z⟩,trivial⟩) br
    obtain⟨dy,bn,f⟩:=B0 f
    obtain⟨aY,ch,cp,_⟩:=I3 (F2.ofLen bz) bn
    refine aI aY ?_
    refine eX _ (aI Q ?_)
    obtain rfl:=oJ f
    try dsimp only[M0,O0]at d
    refine ifB d (λbu d=>?_) λbu d=>?_
    ·intro du ax al
     obtain⟨M,O,rfl,aF,D,cR⟩:=S0.out (r:=Wp.int.toRp) al (show F2 (Wp.int.R A) ([[.int .i64 b]]:List (List Value)) [b] from⟨⟨rfl,z⟩,trivial⟩)
     obtain⟨c1,bi,d⟩:=B0 d
     refine aI (Z0 bi (by first|rw[F2.length (F2.up (r:=K0.toRp) D (F3.f2 (q:=K0.R A) (λ_ _ _ h=>K0.toR h) y)),F2.length (show F2 (K0.R ax) ([[.slice M ([b]).length O]]:List (List Value)) [[b]] from⟨aF,trivial⟩)]|exact congrArg (·+1) (F2.length (F2.up (r:=K0.toRp) D (F3.f2 (q:=K0.R A) (λ_ _ _ h=>K0.toR h) y))))) ?_
     obtain⟨b2,bW,bd,_⟩:=(S0.newPlain (r:=Wp.int) al (show F2 (Wp.int.R A) ([[.int .i64 b]]:List (List Value)) [b] from⟨⟨rfl,z⟩,trivial⟩) (W01 _))
     exact D1 w ⟨(IntKind.i64.wrap (b+1)),((o.set j.toNat [.slice (some ⟨ar,au,none⟩) (H ++ [b]).length ak])++([[.slice M ([b]).length O]]:List (List Value))),((k.set j.toNat (H ++ [b])) ++ [[b]]),rfl,rfl,(aa.trans D),(F0 _),(F2.append (F2.up (r:=K0.toRp) D (F3.f2 (q:=K0.R A) (λ_ _ _ h=>K0.toR h) y)) (show F2 (K0.R ax) ([[.slice M ([b]).length O]]:List (List Value)) [[b]] from⟨aF,trivial⟩)),⟨_,(F3.snoc bW (f05 y D)),(V05 y aa ap bd)⟩,d⟩
    ·exact D1 w ⟨(IntKind.i64.wrap (b+1)),(o.set j.toNat [.slice (some ⟨ar,au,none⟩) (H ++ [b]).length ak]),(k.set j.toNat (H ++ [b])),rfl,rfl,aa,(F0 _),(F3.f2 (q:=K0.R A) (λ_ _ _ h=>K0.toR h) y),⟨_,y,ap⟩,d⟩
   ·exact D1 L ⟨G,(IntKind.i64.wrap (j+1)),o,k,rfl,rfl,(x.trans B),(F0 _),(F2.up (r:=K0.toRp) B u),⟨_,(f05 F B),K⟩,f⟩
  ·obtain rfl:=oJ f
   try dsimp only[M0,O0]at d
   refine ifB d (λbx d=>?_) λbx d=>?_
   ·intro dv ay am
    obtain⟨N,P,rfl,aG,E,cS⟩:=S0.out (r:=Wp.int.toRp) am (show F2 (Wp.int.R av) ([[.int .i64 b]]:List (List Value)) [b] from⟨⟨rfl,z⟩,trivial⟩)
    obtain⟨c2,bj,d⟩:=B0 d
    refine aI (Z0 bj (by first|rw[F2.length (F2.up (r:=K0.toRp) E u),F2.length (show F2 (K0.R ay) ([[.slice N ([b]).length P]]:List (List Value)) [[b]] from⟨aG,trivial⟩)]|exact congrArg (·+1) (F2.length (F2.up (r:=K0.toRp) E u)))) ?_
    obtain⟨b3,bX,be,_⟩:=(S0.newPlain (r:=Wp.int) am (show F2 (Wp.int.R av) ([[.int .i64 b]]:List (List Value)) [b] from⟨⟨rfl,z⟩,trivial⟩) (W01 _))
    exact D1 w ⟨(IntKind.i64.wrap (b+1)),(o++([[.slice N ([b]).length P]]:List (List Value))),(k ++ [[b]]),rfl,rfl,(x.trans E),(F0 _),(F2.append (F2.up (r:=K0.toRp) E u) (show F2 (K0.R ay) ([[.slice N ([b]).length P]]:List (List Value)) [[b]] from⟨aG,trivial⟩)),⟨_,(F3.snoc bX (f05 F E)),(V05 F x K be)⟩,d⟩
   ·exact D1 w ⟨(IntKind.i64.wrap (b+1)),o,k,rfl,rfl,x,(F0 _),u,⟨_,F,K⟩,d⟩
 ·obtain rfl:=oJ d
  try dsimp only[M0,O0]at C
  intro bU bE an
  have bK:New (Wp.slice K0) h bE [bU] s:=(S0.fresh (r:=K0) an aJ Z ao)
  obtain⟨aU,a4,rfl,di,dt,cT⟩:=S0.out (r:=K0.toRp) an S
  obtain rfl:=oJ C
  exact⟨aU,s.length,a4,rfl,bK⟩
theorem q0e(h:Hp)(e:Int)(aG:I0 e)(r:N1)(p:X04 e=some r):
  Tr Tryz.prog 99 #[.int .i64 e] h λv h'=>∃(M:Option Addr) (T N:Nat),v = .slice M T N/\R3.R h' [.slice M T N] r/\Sub h h':=by
 unfold X04 at p
 refine V1 (args:=[.int .i64 e]) (fn:=Tryz.f99) rfl ?_
 intro aZ Q f3
 obtain⟨W,Z,rfl,ar,aw,aQ⟩:=S0.out (r:=Wp.int.toRp) f3 (show F2 (Wp.int.R h) ([]:List (List Value)) ([]:D0) from trivial)
 obtain⟨L,al,p⟩:=B0 p
 refine eX { vars:=[3,4],boxes:=[],owns:=[],fuel:=true,pubs:=[3] } (eX (λvs os h'=>∃(t:Option Addr) (G u:Nat) (f:N1) (l:Int),vs.tail = [.slice t G u,.int .i64 l]/\os = []/\Sub Q h'/\R3.R h' [.slice t G u] f/\I0 l/\k01 e (C1 vs) f l=some L) (eX (λ_ _=>0) ?_))
 intro a2 aL af
 obtain⟨Y,ab,rfl,av,ay,aS⟩:=S0.out (r:=K0.toRp) af (show F2 (K0.R Q) ([[.slice W (([]:D0)).length Z]]:List (List Value)) [([]:D0)] from⟨ar,trivial⟩)
 refine aI (eX P0 ⟨Y,([([]:D0)]).length,ab,([([]:D0)]),0,rfl,rfl,ay,av,(by decide),al⟩) ?_
 rintro _ _ x P ⟨t,G,u,f,l,⟨⟩,⟨⟩,V,z,aH,c⟩
 replace c:k01 e x f l=some L:=c
 obtain _|x:=x
 ·cases c
 rw[k01.eq_2]at c
 obtain⟨rfl,aM⟩:=Sl.len z
 refine ifB c (λam c=>?_) λam c=>?_
 ·obtain⟨J,aj,c⟩:=B0 c
  refine eX { vars:=[6],boxes:=[],owns:=[2],fuel:=true } (eX (λvs os h'=>∃ g C j,vs.tail = [.int .i64 g]/\os = [C]/\Sub P h'/\I0 g/\F2 (K0.R h') C j/\j01 f e (C1 vs) g j=some J) (eX (λ_ _=>0) (aI (eX P0 ⟨0,[],([]:N1),rfl,rfl,(Sub.refl _),(by decide),(show F2 (K0.R P) ([]:List (List Value)) ([]:N1) from trivial),aj⟩) ?_)))
  rintro _ C y aq ⟨g,a5,j,⟨⟩,⟨⟩,A,aJ,O,d⟩
  replace d:j01 f e y g j=some J:=d
  obtain _|y:=y
  ·cases d
  rw[j01.eq_2]at d
  refine ifB d (λan d=>?_) λan d=>?_
  ·obtain⟨K,ak,d⟩:=B0 d
   refine eX { vars:=[7],boxes:=[],owns:=[2],fuel:=true } (eX (λvs os h'=>∃ b m k,vs.tail = [.int .i64 b]/\os = [m]/\Sub aq h'/\I0 b/\F2 (K0.R h') m k/\d00 e f g (C1 vs) b k=some K) (eX (λ_ _=>0) (aI (eX P0 ⟨0,C,j,rfl,rfl,(Sub.refl _),(by decide),O,ak⟩) ?_)))
   rintro _ m q i ⟨b,ba,k,⟨⟩,⟨⟩,s,F,o,a⟩
   replace a:d00 e f g q b k=some K:=a
   obtain _|q:=q
   ·cases a
   rw[d00.eq_2]at a
   refine ifB a (λao a=>?_) λao a=>?_
   ·refine ld a (R3.mono (A.trans s) z) λa3 aC H a=>?_
    obtain⟨aA,aU,aE,rfl⟩:=Wp.slice_cell H
    obtain⟨rfl,aN⟩:=Sl.len H
    refine trV a (h03 _ _ _ _ _ H _ F) λa4 a=>?_
    refine ifB a (λap a=>?_) λap a=>?_
    ·refine ld a (R3.mono (A.trans s) z) λn aD I a=>?_
     obtain⟨aB,aV,aF,rfl⟩:=Wp.slice_cell I
     obtain⟨rfl,aO⟩:=Sl.len I
     obtain⟨az,ac,w⟩:=Sl.rows (r:=Wp.int.toRp) I
     refine eX az (aI ac ?_)
     obtain⟨aW,ag,a⟩:=B0 a
     refine aI (Z0 ag (by first|rw[F2.length (show F2 (Wp.int.R i) ([]:List (List Value)) ([]:D0) from trivial),F2.length w]|exact congrArg (·+1) (F2.length (show F2 (Wp.int.R i) ([]:List (List Value)) ([]:D0) from trivial)))) ?_
     obtain⟨aX,ah,a⟩:=B0 a
     refine aI (Z0 ah (by first|rw[F2.length (F2.append (show F2 (Wp.int.R i) ([]:List (List Value)) ([]:D0) from trivial) w),F2.length (show F2 (Wp.int.R i) ([[.int .i64 b]]:List (List Value)) [b] from⟨⟨rfl,F⟩,trivial⟩)]|exact congrArg (·+1) (F2.length (F2.append (show F2 (Wp.int.R i) ([]:List (List Value)) ([]:D0) from trivial) w)))) ?_
     intro a0 S ad
     obtain⟨D,E,rfl,U,B,aP⟩:=S0.out (r:=Wp.int.toRp) ad (F2.append (F2.append (show F2 (Wp.int.R i) ([]:List (List Value)) ([]:D0) from trivial) w) (show F2 (Wp.int.R i) ([[.int .i64 b]]:List (List Value)) [b] from⟨⟨rfl,F⟩,trivial⟩))
     obtain⟨aY,ai,a⟩:=B0 a
     refine aI (Z0 ai (by first|rw[F2.length (F2.up (r:=K0.toRp) B o),F2.length (show F2 (K0.R S) ([[.slice D (((([]:D0)++n) ++ [b])).length E]]:List (List Value)) [((([]:D0)++n) ++ [b])] from⟨U,trivial⟩)]|exact congrArg (·+1) (F2.length (F2.up (r:=K0.toRp) B o)))) ?_
     exact D1 q ⟨(IntKind.i64.wrap (b+1)),(m++([[.slice D (((([]:D0)++n) ++ [b])).length E]]:List (List Value))),(k ++ [((([]:D0)++n) ++ [b])]),rfl,rfl,(s.trans B),(F0 _),(F2.append (F2.up (r:=K0.toRp) B o) (show F2 (K0.R S) ([[.slice D (((([]:D0)++n) ++ [b])).length E]]:List (List Value)) [((([]:D0)++n) ++ [b])] from⟨U,trivial⟩)),a⟩
    ·exact D1 q ⟨(IntKind.i64.wrap (b+1)),m,k,rfl,rfl,s,(F0 _),o,a⟩
   ·obtain rfl:=oJ a
    try dsimp only[M0,O0]at d
    exact D1 y ⟨(IntKind.i64.wrap (g+1)),m,k,rfl,rfl,(A.trans s),(F0 _),o,d⟩
  ·obtain rfl:=oJ d
   try dsimp only[M0,O0]at c
   intro a1 aK ae
   obtain⟨X,aa,rfl,au,ax,aR⟩:=S0.out (r:=K0.toRp) ae O
   exact D1 x ⟨X,j.length,aa,j,(IntKind.i64.wrap (l+1)),rfl,rfl,((V.trans A).trans ax),au,(F0 _),c⟩
 ·obtain rfl:=oJ c
  try dsimp only[M0,O0]at p
  obtain rfl:=oJ p
  exact⟨t,f.length,u,rfl,z,(aw.trans V)⟩
theorem c05(h:Hp)(b:Int)(m:I0 b)(c:Int)(n:I0 c)(r:Int)(f:t02 b c=some r):
  Tr Tryz.prog 100 #[.int .i64 b,.int .i64 c] h λv h'=>v = .int .i64 r/\h'=h:=by
 unfold t02 at f
 refine Tr.forget (V1 (args:=[.int .i64 b,.int .i64 c]) (fn:=Tryz.f100) rfl ?_)
 obtain⟨i,k,f⟩:=B0 f
 refine eX { vars:=[5,6],boxes:=[],owns:=[],fuel:=true } (eX (λvs os h'=>∃ d e,vs.tail = [.int .i64 d,.int .i64 e]/\os = []/\Sub h h'/\I0 d/\I0 e/\l01 c b (C1 vs) d e=some i) (eX (λ_ _=>0) (aI (eX P0 ⟨1,0,rfl,rfl,(Sub.refl _),(by decide),(by decide),k⟩) ?_)))
 rintro _ _ g q ⟨d,e,⟨⟩,⟨⟩,j,o,p,a⟩
 replace a:l01 c b g d e=some i:=a
 obtain _|g:=g
 ·cases a
 rw[l01.eq_2]at a
 refine ifB a (λl a=>?_) λl a=>?_
 ·exact D1 g ⟨(IntKind.i64.wrap (d*b)),(IntKind.i64.wrap (e+1)),rfl,rfl,j,(F0 _),(F0 _),a⟩
 ·obtain rfl:=oJ a
  try dsimp only[M0,O0]at f
  obtain rfl:=oJ f
  exact aI rfl j
theorem t09(h:Hp)(g:Int)(Q:I0 g)(p:Option Addr)(W u:Nat)(f:N1)(l:R3.R h [.slice p W u] f)(r:l0×Bool)(a:S02 g f=some r):
  Tr Tryz.prog 101 #[.int .i64 g,.slice p W u] h λv h'=>∃(M:List Value),v = .tuple #[.agg M.toArray,.bool r.2]/\C0.R h' M r.1/\Sub h h':=by
 obtain⟨rfl,bl⟩:=Sl.len l
 unfold S02 at a
 refine V1 (args:=[.int .i64 g,.slice p f.length u]) (fn:=Tryz.f101) rfl ?_
 refine trV a (E3 _ _ Q 1 (by decide) 3 (by decide)) λbI a=>?_
 obtain⟨bL,aq,a⟩:=B0 a
 obtain⟨a1,P,Y⟩:=Sl.getG (r:=K0.toRp) l aq (by decide) (A0o Wp.int h)
 refine aI (λq=>(P q).1) ?_
 obtain⟨aX,bx,bc,rfl⟩:=Wp.slice_cell Y
 obtain⟨rfl,bq⟩:=Sl.len Y
 refine eX _ (aI (λq=>(P q).2) ?_)
 refine ifB a (λaA a=>?_) λaA a=>?_
 ·obtain rfl:=oJ a
  exact⟨([.int .i64 0,.int .i64 0,.slice none 0 0]),rfl,(j0 (by decide) (by decide) (m08 M1 h)),(Sub.refl _)⟩
 ·refine ld a l λaQ a4 aa a=>?_
  obtain⟨aY,bB,bd,rfl⟩:=Wp.slice_cell aa
  obtain⟨rfl,aJ⟩:=Sl.len aa
  obtain⟨K,aw,a⟩:=B0 a
  refine eX { vars:=[7],boxes:=[1],owns:=[],fuel:=true } (eX (λvs os h'=>∃ d n u8 t D x o,vs.tail = [.int .i64 d,.int .i64 n,.int .i64 u8,.slice t D x]/\os = []/\Sub h h'/\I0 d/\I0 n/\I0 u8/\N0.R h' [.slice t D x] o/\N8 g f (C1 vs) d n u8 o=some K) (eX (λ_ _=>0) (aI (eX P0 ⟨0,g,((aQ.length:Nat):Int),none,0,0,[],rfl,rfl,(Sub.refl _),(by decide),Q,(m0f aJ),(m08 M1 h),aw⟩) ?_)))
  rintro _ _ _ _ z y ⟨d,n,u8,t,D,x,o,⟨⟩,⟨⟩,i,be,U,V,F,b⟩
  replace b:N8 g f z d n u8 o=some K:=b
  obtain _|z:=z
  ·cases b
  rw[N8.eq_2]at b
  obtain⟨rfl,bn⟩:=Sl.len F
  refine ifB b (λax b=>?_) λax b=>?_
  ·refine Or.inl (aI (aI (by kernel_rfl) (by kernel_rfl)) ?_)
   refine ld b (R3.mono i l) λbJ aZ G b=>?_
   obtain⟨aV,bu,ba,rfl⟩:=Wp.slice_cell G
   obtain⟨rfl,bo⟩:=Sl.len G
   obtain⟨aP,ao,b⟩:=B0 b
   refine eX (.bool aP) (aI (s09 _ _ _ _ _ G _  ao) ?_)
   obtain⟨bK,ap,b⟩:=B0 b
   obtain⟨a0,O,X⟩:=Sl.getG (r:=K0.toRp) (R3.mono i l) ap (by decide) (A0o Wp.int y)
   refine aI (λq=>(O q).1) ?_
   obtain⟨aW,bv,bb,rfl⟩:=Wp.slice_cell X
   obtain⟨rfl,bp⟩:=Sl.len X
   refine eX _ (aI (λq=>(O q).2) ?_)
   refine ifB b (λay b=>?_) λay b=>?_
   ·obtain rfl:=oJ b
    try dsimp only[N3,O3]at a
    obtain rfl:=oJ a
    exact⟨([.int .i64 0,.int .i64 0,.slice none 0 0]),rfl,(j0 (by decide) (by decide) (m08 M1 y)),i⟩
   ·obtain⟨J,av,b⟩:=B0 b
    refine eX { vars:=[8],boxes:=[1],owns:=[],fuel:=true } (eX (λvs os h'=>∃ e j k s C w m,vs.tail = [.int .i64 e,.int .i64 j,.int .i64 k,.slice s C w]/\os = []/\Sub y h'/\I0 e/\I0 j/\I0 k/\N0.R h' [.slice s C w] m/\M8 f d (C1 vs) e j k m=some J) (eX (λ_ _=>0) (aI (eX P0 ⟨0,n,u8,t,o.length,x,o,rfl,rfl,(Sub.refl _),(by decide),U,V,F,av⟩) ?_)))
    rintro _ _ _ _ A aG ⟨e,j,k,s,C,w,m,⟨⟩,⟨⟩,I,aC,S,T,E,c⟩
    replace c:M8 f d A e j k m=some J:=c
    obtain _|A:=A
    ·cases c
    rw[M8.eq_2]at c
    obtain⟨rfl,bm⟩:=Sl.len E
    refine ifB c (λaz c=>?_) λaz c=>?_
    ·refine Or.inr (Or.inr (Or.inl (aI (aI (by kernel_rfl) (by kernel_rfl)) ?_)))
     obtain⟨ae,ar,c⟩:=B0 c
     obtain⟨ai,a2,am,H⟩:=Sl.getI (r:=K0.toRp) (R3.mono (i.trans I) l) ar (by decide)
     obtain⟨L,bz,N,rfl⟩:=Wp.slice_cell H
     obtain⟨rfl,br⟩:=Sl.len H
     refine Or.inl (eX (.hel (.slice p f.length u) d 1 0) (aI ?_ ?_))
     ·intro bf bD
      exact aI ai (aI rfl (aI rfl rfl))
     refine Or.inl (eX (.val (.slice L ae.length N)) (aI ?_ ?_))
     ·intro bg aM
      exact eX _ (aI (i6.up aM am) (aI rfl (aI rfl rfl)))
     obtain⟨B,au,c⟩:=B0 c
     obtain⟨aj,a3,an,aK⟩:=Sl.getI (r:=Wp.int.toRp) H au (by decide)
     obtain⟨rfl,aD⟩:=aK
     refine Or.inl (eX (.hel (.slice L ae.length N) e 1 0) (aI ?_ ?_))
     ·intro bh bE
      exact aI aj (aI rfl (aI rfl rfl))
     refine Or.inl (eX (.val (.int .i64 B)) (aI ?_ ?_))
     ·intro bi aN
      exact eX _ (aI (i6.up aN an) (aI rfl (aI rfl rfl)))
     refine Or.inl (eX (.agg [.val (.int .i64 e),.val (.int .i64 (IntKind.i64.wrap (d+1))),.val (.int .i64 B)]) (aI ?_ ?_))
     ·intro bj bF
      exact aI rfl (aI rfl rfl)
     refine Or.inr ?_
     refine Or.inr ?_
     refine Or.inl (eX 1 (aI (aI rfl rfl) ?_))
     refine trM c (t00 _ _ _ _ _ E [.int .i64 e,.int .i64 (IntKind.i64.wrap (d+1)),.int .i64 B] (e,(IntKind.i64.wrap (d+1)),B) (E1 aC (F0 _) aD)) ?_
     rintro af c bG aH ⟨ag,bA,ak,rfl,ad⟩
     have ac:Sub aG aH:=ad.sub
     have Z:=ad.r
     obtain⟨rfl,bs⟩:=Sl.len Z
     refine aI (aI rfl ac) (aI (by first|exact trivial|exact rfl) ?_)
     refine aT ?_
     exact D1 A ⟨(IntKind.i64.wrap (e+1)),j,k,ag,af.length,ak,af,rfl,rfl,(I.trans ac),(F0 _),S,T,Z,c⟩
    ·obtain rfl:=oJ c
     try dsimp only[M0,O0]at b
     exact D1 z ⟨(IntKind.i64.wrap (d+1)),j,k,s,m.length,w,m,rfl,rfl,(i.trans I),(F0 _),S,T,E,b⟩
  ·obtain rfl:=oJ b
   try dsimp only[M0,O0]at a
   refine ifB a (λaB a=>?_) λaB a=>?_
   ·obtain rfl:=oJ a
    exact⟨([.int .i64 0,.int .i64 0,.slice none 0 0]),rfl,(j0 (by decide) (by decide) (m08 M1 y)),i⟩
   ·refine trM a (k03 _ _ _ (j0 U V F)) ?_
    rintro bM a bH bk ⟨a5,rfl,aL,aO⟩
    obtain⟨aR,aS,ah,bC,al,aU,rfl,rfl,aE,aF,ab⟩:=H0 aL
    obtain⟨rfl,bt⟩:=Sl.len ab
    try dsimp only at a
    obtain rfl:=oJ a
    exact⟨([.int .i64 aR,.int .i64 aS,.slice ah aU.length al]),rfl,(j0 aE aF ab),(i.trans aO)⟩
theorem y07(h:Hp)(e:Int)(J:I0 e)(l:Int)(S:I0 l)(r:Q1×Bool)(b:V3 e l=some r):
  Tr Tryz.prog 10 #[.int .i64 e,.int .i64 l] h λv h'=>∃(P:Option Addr) (W Q:Nat),v = .tuple #[.slice P W Q,.bool r.2]/\A5.R h' [.slice P W Q] r.1/\Sub h h':=by
 unfold V3 at b
 refine V1 (args:=[.int .i64 e,.int .i64 l]) (fn:=Tryz.f10) rfl ?_
 refine trV b (E3 _ _ J 1 (by decide) 3 (by decide)) λbo b=>?_
 refine trG b (λq=>E3 _ _ S 1 (by decide) 3 (by decide)) λbp b=>?_
 refine ifB b (λau b=>?_) λau b=>?_
 ·intro bm aY ag
  obtain⟨ab,ad,rfl,aD,aG,a5⟩:=S0.out (r:=C0.toRp) ag (show F2 (C0.R h) ([]:List (List Value)) ([]:Q1) from trivial)
  obtain rfl:=oJ b
  exact⟨ab,(([]:Q1)).length,ad,rfl,aD,aG⟩
 ·refine trM b (q0e _ _ S) ?_
  rintro y b bi ay ⟨aK,bc,aP,rfl,Y,Z⟩
  obtain⟨rfl,az⟩:=Sl.len Y
  refine trV b (c05 _ _ (m0f az) _ J) λM b=>?_
  obtain⟨bd,ai,b⟩:=B0 b
  have aV:I0 M:=T0 ai
  obtain⟨N,ao,b⟩:=B0 b
  refine eX { vars:=[9],boxes:=[],owns:=[0],fuel:=true } (eX (λvs os h'=>∃ f x j,vs.tail = [.int .i64 f]/\os = [x]/\Sub ay h'/\I0 f/\F2 (C0.R h') x j/\L5 M e y l (C1 vs) f j=some N) (eX (λ_ _=>0) (aI (eX P0 ⟨0,[],([]:Q1),rfl,rfl,(Sub.refl _),(by decide),(F2.up (r:=C0.toRp) Z (show F2 (C0.R h) ([]:List (List Value)) ([]:Q1) from trivial)),ao⟩) ?_)))
  rintro _ x u T ⟨f,bs,j,⟨⟩,⟨⟩,D,ax,k,a⟩
  replace a:L5 M e y l u f j=some N:=a
  obtain _|u:=u
  ·cases a
  rw[L5.eq_2]at a
  refine ifB a (λaq a=>?_) λaq a=>?_
  ·obtain⟨O,ap,a⟩:=B0 a
   refine eX { vars:=[11,12],boxes:=[],owns:=[1],fuel:=true } (eX (λvs os h'=>∃ m n E w,vs.tail = [.int .i64 m,.int .i64 n]/\os = [E]/\Sub T h'/\I0 m/\I0 n/\F2 (K0.R h') E w/\d7 e y (C1 vs) m n w=some O) (eX (λ_ _=>0) (aI (eX P0 ⟨f,0,[],([]:N1),rfl,rfl,(Sub.refl _),ax,(by decide),(show F2 (K0.R T) ([]:List (List Value)) ([]:N1) from trivial),ap⟩) ?_)))
   rintro _ _ E A U ⟨m,n,bt,w,⟨⟩,⟨⟩,d,aS,aU,z,c⟩
   replace c:d7 e y A m n w=some O:=c
   obtain _|A:=A
   ·cases c
   rw[d7.eq_2]at c
   refine ifB c (λar c=>?_) λar c=>?_
   ·obtain⟨be,aj,c⟩:=B0 c
    refine aI (T0 aj) ?_
    refine ld c (R3.mono (D.trans d) Y) λo aN B c=>?_
    obtain⟨F,ba,H,rfl⟩:=Wp.slice_cell B
    obtain⟨rfl,a0⟩:=Sl.len B
    obtain⟨bf,ak,c⟩:=B0 c
    refine aI (Z0 ak (by first|rw[F2.length z,F2.length (show F2 (K0.R U) ([[.slice F o.length H]]:List (List Value)) [o] from⟨B,trivial⟩)]|exact congrArg (·+1) (F2.length z))) ?_
    obtain⟨bg,al,c⟩:=B0 c
    refine aI (T0 al) ?_
    exact D1 A ⟨(IntKind.i64.wrap (Int.tdiv m ((y.length:Nat):Int))),(IntKind.i64.wrap (n+1)),(E++([[.slice F o.length H]]:List (List Value))),(w ++ [o]),rfl,rfl,d,(F0 _),(F0 _),(F2.append z (show F2 (K0.R U) ([[.slice F o.length H]]:List (List Value)) [o] from⟨B,trivial⟩)),c⟩
   ·obtain rfl:=oJ c
    try dsimp only[M0,O0]at a
    refine Or.inl ?_
    intro bj aW ae
    obtain⟨aL,aQ,rfl,aA,i,a2⟩:=S0.out (r:=K0.toRp) ae z
    refine trM a (t09 _ _ J _ _ _ _ aA) ?_
    rintro aH a bk V ⟨aO,rfl,X,g⟩
    obtain⟨bq,br⟩:=aH
    dsimp only at a X
    obtain⟨p,s,G,bb,I,t,rfl,rfl,K,L,C⟩:=H0 X
    obtain⟨rfl,a1⟩:=Sl.len C
    try dsimp only at a
    obtain⟨aJ,an,a⟩:=B0 a
    refine eX (.bool aJ) (aI ?_ ?_)
    ·intro aw
     intro bl aX af
     obtain⟨aM,aR,rfl,aB,aE,a3⟩:=S0.out (r:=C0.toRp) af (F2.up (r:=C0.toRp) ((d.trans i).trans g) k)
     exact l0e _ _ _ _ _ aB _ _ (j0 K L (N0.mono aE C)) _ (W5 an aw)
    refine ifB a (λav a=>?_) λav a=>?_
    ·obtain⟨bh,am,a⟩:=B0 a
     refine aI (Z0 am (by first|rw[F2.length (F2.up (r:=C0.toRp) ((d.trans i).trans g) k),F2.length (show F2 (C0.R V) ([[.int .i64 p,.int .i64 s,.slice G t.length I]]:List (List Value)) [(p,s,t)] from⟨(j0 K L C),trivial⟩)]|exact congrArg (·+1) (F2.length (F2.up (r:=C0.toRp) ((d.trans i).trans g) k)))) ?_
     exact D1 u ⟨(IntKind.i64.wrap (f+1)),(x++([[.int .i64 p,.int .i64 s,.slice G t.length I]]:List (List Value))),(j ++ [(p,s,t)]),rfl,rfl,(((D.trans d).trans i).trans g),(F0 _),(F2.append (F2.up (r:=C0.toRp) ((d.trans i).trans g) k) (show F2 (C0.R V) ([[.int .i64 p,.int .i64 s,.slice G t.length I]]:List (List Value)) [(p,s,t)] from⟨(j0 K L C),trivial⟩)),a⟩
    ·exact D1 u ⟨(IntKind.i64.wrap (f+1)),x,j,rfl,rfl,(((D.trans d).trans i).trans g),(F0 _),(F2.up (r:=C0.toRp) ((d.trans i).trans g) k),a⟩
  ·obtain rfl:=oJ a
   try dsimp only[M0,O0]at b
   intro bn aZ ah
   obtain⟨aa,ac,rfl,aC,aF,a4⟩:=S0.out (r:=C0.toRp) ah k
   obtain rfl:=oJ b
   exact⟨aa,j.length,ac,rfl,aC,((Z.trans D).trans aF)⟩
theorem u09(h:Hp)(l:Option Addr)(w m:Nat)(e:D0)(x:K0.R h [.slice l w m] e)(r:Bool)(d:T02 e=some r):
  Tr Tryz.prog 190 #[.slice l w m] h λv h'=>v = .bool r/\h'=h:=by
 obtain⟨rfl,N⟩:=Sl.len x
 unfold T02 at d
 refine Tr.forget (V1 (args:=[.slice l e.length m]) (fn:=Tryz.f190) rfl ?_)
 refine ifB d (λE d=>?_) λE d=>?_
 ·obtain rfl:=oJ d
  exact aI rfl (Sub.refl _)
 ·obtain⟨O,A,d⟩:=B0 d
  refine aI (T0 A) ?_
  obtain⟨s,D,d⟩:=B0 d
  refine eX { vars:=[14],boxes:=[],owns:=[0],fuel:=true,kept:=[0] } (eX (λvs os h'=>∃ f k g,vs.tail = [.int .i64 f]/\os = [k]/\Sub h h'/\I0 f/\F2 (Wp.bool.R h') k g/\O8 e (C1 vs) f g=some s) (eX (λ_ _=>0) (aI (eX P0 ⟨0,(List.replicate ((e.length:Nat):Int).toNat ([.bool false]:List Value)),(List.replicate ((e.length:Nat):Int).toNat (false:Bool)),rfl,rfl,(Sub.refl _),(by decide),(F2.rep (p:=Wp.bool.R h) (a:=[.bool false]) (b:=false) rfl (((e.length:Nat):Int).toNat)),D⟩) ?_)))
  rintro _ k i u ⟨f,T,g,⟨⟩,⟨⟩,j,M,n,c⟩
  replace c:O8 e i f g=some s:=c
  obtain _|i:=i
  ·cases c
  rw[O8.eq_2]at c
  refine ifB c (λG c=>?_) λG c=>?_
  ·refine ldI c (K0.mono j x) λo H c=>?_
   refine trV c (P7 _ _ H 0 (by decide) (IntKind.i64.wrap (((e.length:Nat):Int)-1)) (F0 _)) λP c=>?_
   obtain⟨Q,B,c⟩:=B0 c
   obtain⟨K,t,I⟩:=B01 n B (d0m u)
   refine aI (λq=>(t q).1) ?_
   obtain rfl:=I
   refine eX _ (aI (λq=>(t q).2) ?_)
   refine ifB c (λF c=>?_) λF c=>?_
   ·obtain rfl:=oJ c
    try dsimp only[N3,O3]at d
    obtain rfl:=oJ d
    exact aI rfl j
   ·obtain⟨S,C,c⟩:=B0 c
    obtain⟨y,L,z,J⟩:=I3 n C
    refine aI y ?_
    obtain rfl:=J
    refine eX _ (aI z ?_)
    exact D1 i ⟨(IntKind.i64.wrap (f+1)),(k.set o.toNat [.bool true]),(g.set o.toNat true),rfl,rfl,j,(F0 _),(F2.set (p:=Wp.bool.R u) (a:=[.bool true]) (b:=true) rfl o.toNat n),c⟩
  ·obtain rfl:=oJ c
   try dsimp only[M0,O0]at d
   obtain rfl:=oJ d
   exact aI rfl j
theorem r0e(h:Hp)(g:Option Addr)(o i:Nat)(d:Q1)(q:A5.R h [.slice g o i] d)(n:List Value)(p:l0)(H:C0.R h n p)(r:Bool)(b:Y04 d p=some r):
  Tr Tryz.prog 97 #[.slice g o i,.agg n.toArray] h λv h'=>v = .bool r/\h'=h:=by
 obtain⟨rfl,O⟩:=Sl.len q
 obtain⟨j,k,u,S,x,l,rfl,rfl,D,E,s⟩:=H0 H
 obtain⟨rfl,P⟩:=Sl.len s
 unfold Y04 at b
 dsimp only at b
 refine Tr.forget (V1 (args:=[.slice g d.length i,.agg #[.int .i64 j,.int .i64 k,.slice u l.length x]]) (fn:=Tryz.f97) rfl ?_)
 obtain⟨m,A,b⟩:=B0 b
 refine eX { vars:=[9],boxes:=[],owns:=[],fuel:=true } (eX (λvs os h'=>∃ c,vs.tail = [.int .i64 c]/\os = []/\Sub h h'/\I0 c/\m01 d j k l (C1 vs) c=some m) (eX (λ_ _=>0) (aI (eX P0 ⟨0,rfl,rfl,(Sub.refl _),(by decide),A⟩) ?_)))
 rintro _ f N ⟨c,⟨⟩,⟨⟩,e,M,a⟩
 replace a:m01 d j k l f c=some m:=a
 obtain _|f:=f
 ·cases a
 rw[m01.eq_2]at a
 refine ifB a (λB a=>?_) λB a=>?_
 ·obtain⟨U,z,a⟩:=B0 a
  obtain⟨w,K,y,I⟩:=Sl.getI (r:=C0.toRp) (A5.mono e q) z (by decide)
  refine aI w ?_
  obtain⟨V,W,J,T,L,X,rfl,rfl,F,G,t⟩:=H0 I
  obtain⟨rfl,Q⟩:=Sl.len t
  try dsimp only at a
  refine eX _ (aI y ?_)
  refine trV a (g02 _ _ _ (j0 F G t) _ _ (j0 D E (N0.mono e s))) λY a=>?_
  refine ifB a (λC a=>?_) λC a=>?_
  ·obtain rfl:=oJ a
   try dsimp only[N3,O3]at b
   obtain rfl:=oJ b
   exact aI rfl e
  ·exact D1 f ⟨(IntKind.i64.wrap (c+1)),rfl,rfl,e,(F0 _),a⟩
 ·obtain rfl:=oJ a
  try dsimp only[M0,O0]at b
  obtain rfl:=oJ b
  exact aI rfl e
theorem u0d(h:Hp)(b:List Value)(c:l0)(m:C0.R h b c)(r:Bool)(a:N01 c=some r):
  Tr Tryz.prog 205 #[.agg b.toArray] h λv h'=>v = .bool r/\h'=h:=by
 obtain⟨j,k,e,o,f,l,rfl,rfl,g,i,d⟩:=H0 m
 obtain⟨rfl,n⟩:=Sl.len d
 unfold N01 at a
 dsimp only at a
 refine Tr.forget (V1 (args:=[.agg #[.int .i64 j,.int .i64 k,.slice e l.length f]]) (fn:=Tryz.f205) rfl ?_)
 refine trV a (f00 _ _ _ (j0 g i d)) λp a=>?_
 obtain rfl:=oJ a
 exact aI rfl (Sub.refl _)
theorem b08(h:Hp)(C:List Value)(F:l0)(W:C0.R h C F)(r:N1)(f:U6 F=some r):
  Tr Tryz.prog 206 #[.agg C.toArray] h λv h'=>∃(A:Option Addr) (E B:Nat),v = .slice A E B/\R3.R h' [.slice A E B] r/\Sub h h':=by
 obtain⟨u,w,J,aj,L,x,rfl,rfl,n,o,l⟩:=H0 W
 obtain⟨rfl,af⟩:=Sl.len l
 unfold U6 at f
 dsimp only at f
 refine V1 (args:=[.agg #[.int .i64 u,.int .i64 w,.slice J x.length L]]) (fn:=Tryz.f206) rfl ?_
 obtain⟨z,P,f⟩:=B0 f
 refine eX { vars:=[4],boxes:=[],owns:=[0],fuel:=true } (eX (λvs os h'=>∃ d m e,vs.tail = [.int .i64 d]/\os = [m]/\Sub h h'/\I0 d/\F2 (K0.R h') m e/\l3 w u x (C1 vs) d e=some z) (eX (λ_ _=>0) (aI (eX P0 ⟨0,[],([]:N1),rfl,rfl,(Sub.refl _),(by decide),(show F2 (K0.R h) ([]:List (List Value)) ([]:N1) from trivial),P⟩) ?_)))
 rintro _ m k ae ⟨d,az,e,⟨⟩,⟨⟩,c,D,i,a⟩
 replace a:l3 w u x k d e=some z:=a
 obtain _|k:=k
 ·cases a
 rw[l3.eq_2]at a
 refine trG a (λq=>X02 _ _ _ (j0 n o (N0.mono c l))) λar a=>?_
 refine ifB a (λS a=>?_) λS a=>?_
 ·refine trM a (Z00 _ _ _ (j0 n o (N0.mono c l)) _ D) ?_
  rintro Z a an V ⟨ab,rfl,G,b⟩
  obtain⟨au,ay⟩:=Z
  dsimp only at a G
  obtain⟨av,aw,aa,al,ac,ax,rfl,rfl,T,U,H⟩:=H0 G
  obtain⟨rfl,ah⟩:=Sl.len H
  try dsimp only at a
  refine trV a (A9 _ _ _ (j0 T U H) _ _ (j0 n o (N0.mono (c.trans b) l))) λaq a=>?_
  refine ifB a (λQ a=>?_) λQ a=>?_
  ·obtain⟨g,j,a⟩:=B0 a
   refine Tr.mono (j08 _ _ _ (j0 n o (N0.mono (c.trans b) l)) _ D _  j) ?_
   rintro ao t ⟨j,ak,s,rfl,I⟩
   have p:Sub V t:=I.sub
   have y:=I.r
   obtain⟨rfl,ag⟩:=Sl.len y
   obtain⟨am,O,a⟩:=B0 a
   refine aI (Z0 O (by first|rw[F2.length (F2.up (r:=K0.toRp) (b.trans p) i),F2.length (show F2 (K0.R t) ([[.slice (some ⟨j,0,none⟩) g.length s]]:List (List Value)) [g] from⟨y,trivial⟩)]|exact congrArg (·+1) (F2.length (F2.up (r:=K0.toRp) (b.trans p) i)))) ?_
   exact D1 k ⟨(IntKind.i64.wrap (d+1)),(m++([[.slice (some ⟨j,0,none⟩) g.length s]]:List (List Value))),(e ++ [g]),rfl,rfl,((c.trans b).trans p),(F0 _),(F2.append (F2.up (r:=K0.toRp) (b.trans p) i) (show F2 (K0.R t) ([[.slice (some ⟨j,0,none⟩) g.length s]]:List (List Value)) [g] from⟨y,trivial⟩)),a⟩
  ·exact D1 k ⟨(IntKind.i64.wrap (d+1)),m,e,rfl,rfl,(c.trans b),(F0 _),(F2.up (r:=K0.toRp) b i),a⟩
 ·obtain rfl:=oJ a
  try dsimp only[M0,O0]at f
  intro ap ad N
  obtain⟨K,M,rfl,X,Y,ai⟩:=S0.out (r:=K0.toRp) N i
  obtain rfl:=oJ f
  exact⟨K,e.length,M,rfl,X,(c.trans Y)⟩
theorem s0e(h:Hp)(m:List Value)(n:l0)(E:C0.R h m n)(r:Bool)(b:r02 n=some r):
  Tr Tryz.prog 110 #[.agg m.toArray] h λv h'=>v = .bool r/\h'=h:=by
 obtain⟨C,o,s,aa,u,D,rfl,rfl,i,j,g⟩:=H0 E
 obtain⟨rfl,Y⟩:=Sl.len g
 unfold r02 at b
 dsimp only at b
 refine Tr.forget (V1 (args:=[.agg #[.int .i64 C,.int .i64 o,.slice s D.length u]]) (fn:=Tryz.f110) rfl ?_)
 refine Or.inr (Or.inr (Or.inr (Or.inl (aI (aI (by kernel_rfl) (by kernel_rfl)) ?_))))
 obtain⟨J,x,b⟩:=B0 b
 refine Or.inl (eX (.val (.bool J)) (aI ?_ ?_))
 ·intro U G
  exact Tr.val (u0d _ _ _ (j0 i j (N0.mono G g)) _ x) (aI rfl (aI rfl rfl))
 obtain⟨K,y,b⟩:=B0 b
 refine Or.inl (eX (.val (.bool K)) (aI ?_ ?_))
 ·intro V H f
  exact Tr.val (X02 _ _ _ (j0 i j (N0.mono H g)) _ (W5 y f)) (aI rfl (aI rfl rfl))
 obtain⟨d,z,b⟩:=B0 b
 refine Or.inr (eX (λv A=>∃(a:Option Addr) (c:Nat),v = .slice a d.length c/\R3.R A [.slice a d.length c] d/\d.length<=9223372036854775807) (aI (λv O P k q=>by obtain⟨a,c,e,r,l⟩:=q;exact⟨a,c,e,R3.mono k r,l⟩) (aI ?_ ?_)))
 ·intro W I f
  refine Tr.mono (b08 _ _ _ (j0 i j (N0.mono I g)) _ (W5 z f)) ?_
  rintro _ X ⟨t,ab,w,rfl,p,k⟩
  obtain⟨rfl,B⟩:=Sl.len p
  exact aI y01 (aI k ⟨t,w,rfl,p,B⟩)
 obtain⟨ac,N,b⟩:=B0 b
 refine Or.inl (eX (.val (.int .i64 ((d.length:Nat):Int))) (aI ?_ ?_))
 ·intro Q ae f
  rintro _ ⟨L,M,rfl,ad,Z⟩
  exact aI rfl (aI rfl rfl)
 refine Or.inl (eX (.val (.bool (decide (((d.length:Nat):Int)=o)))) (aI ?_ ?_))
 ·intro S af f
  exact aI rfl (aI rfl rfl)
 intro T F
 obtain rfl:=oJ b
 exact aI rfl F
theorem d0c(h:Hp)(k:Option Addr)(t l:Nat)(g:Q1)(u:A5.R h [.slice k t l] g)(r:D0)(e:e01 g=some r):
  Tr Tryz.prog 24 #[.slice k t l] h λv h'=>∃(n:Option Addr) (s o:Nat),v = .slice n s o/\K0.R h' [.slice n s o] r/\Sub h h':=by
 obtain⟨rfl,Q⟩:=Sl.len u
 unfold e01 at e
 refine V1 (args:=[.slice k g.length l]) (fn:=Tryz.f24) rfl ?_
 obtain⟨m,E,e⟩:=B0 e
 refine eX { vars:=[4],boxes:=[],owns:=[0],fuel:=true } (eX (λvs os h'=>∃ b i c,vs.tail = [.int .i64 b]/\os = [i]/\Sub h h'/\I0 b/\F2 (Wp.int.R h') i c/\d5 g (C1 vs) b c=some m) (eX (λ_ _=>0) (aI (eX P0 ⟨0,[],([]:D0),rfl,rfl,(Sub.refl _),(by decide),(show F2 (Wp.int.R h) ([]:List (List Value)) ([]:D0) from trivial),E⟩) ?_)))
 rintro _ i f q ⟨b,ac,c,⟨⟩,⟨⟩,j,p,d,a⟩
 replace a:d5 g f b c=some m:=a
 obtain _|f:=f
 ·cases a
 rw[d5.eq_2]at a
 refine ifB a (λF a=>?_) λF a=>?_
 ·obtain⟨X,D,a⟩:=B0 a
  obtain⟨y,N,A,J⟩:=Sl.getI (r:=C0.toRp) (A5.mono j u) D (by decide)
  refine aI y ?_
  obtain⟨Y,Z,M,U,O,aa,rfl,rfl,H,I,w⟩:=H0 J
  obtain⟨rfl,S⟩:=Sl.len w
  try dsimp only at a
  refine eX _ (aI A ?_)
  refine trV a (s0e _ _ _ (j0 H I w)) λab a=>?_
  refine ifB a (λG a=>?_) λG a=>?_
  ·obtain⟨V,C,a⟩:=B0 a
   refine aI (Z0 C (by first|rw[F2.length d,F2.length (show F2 (Wp.int.R q) ([[.int .i64 b]]:List (List Value)) [b] from⟨⟨rfl,p⟩,trivial⟩)]|exact congrArg (·+1) (F2.length d))) ?_
   exact D1 f ⟨(IntKind.i64.wrap (b+1)),(i++([[.int .i64 b]]:List (List Value))),(c ++ [b]),rfl,rfl,j,(F0 _),(F2.append d (show F2 (Wp.int.R q) ([[.int .i64 b]]:List (List Value)) [b] from⟨⟨rfl,p⟩,trivial⟩)),a⟩
  ·exact D1 f ⟨(IntKind.i64.wrap (b+1)),i,c,rfl,rfl,j,(F0 _),d,a⟩
 ·obtain rfl:=oJ a
  try dsimp only[M0,O0]at e
  intro W P B
  obtain⟨x,z,rfl,K,L,T⟩:=S0.out (r:=Wp.int.toRp) B d
  obtain rfl:=oJ e
  exact⟨x,c.length,z,rfl,K,(j.trans L)⟩
theorem D03(h:Hp)(c:Int)(m:I0 c)(r:Int)(a:S7 c=some r):
  Tr Tryz.prog 27 #[.int .i64 c] h λv h'=>v = .int .i64 r/\h'=h:=by
 unfold S7 at a
 refine Tr.forget (V1 (args:=[.int .i64 c]) (fn:=Tryz.f27) rfl ?_)
 refine trV a (E3 _ c m 0 (by decide) 12 (by decide)) λq a=>?_
 refine ifB a (λk a=>?_) λk a=>?_
 ·obtain rfl:=oJ a
  exact aI rfl (Sub.refl _)
 ·obtain⟨g,j,a⟩:=B0 a
  refine eX { vars:=[3,4],boxes:=[],owns:=[],fuel:=true } (eX (λvs os h'=>∃ e d,vs.tail = [.int .i64 e,.int .i64 d]/\os = []/\Sub h h'/\I0 e/\I0 d/\V9 c (C1 vs) e d=some g) (eX (λ_ _=>0) (aI (eX P0 ⟨1,2,rfl,rfl,(Sub.refl _),(by decide),(by decide),j⟩) ?_)))
  rintro _ _ f p ⟨e,d,⟨⟩,⟨⟩,i,n,o,b⟩
  replace b:V9 c f e d=some g:=b
  obtain _|f:=f
  ·cases b
  rw[V9.eq_2]at b
  refine ifB b (λl b=>?_) λl b=>?_
  ·exact D1 f ⟨(IntKind.i64.wrap (e*d)),(IntKind.i64.wrap (d+1)),rfl,rfl,i,(F0 _),(F0 _),b⟩
  ·obtain rfl:=oJ b
   try dsimp only[M0,O0]at a
   obtain rfl:=oJ a
   exact aI rfl i
theorem m06(h:Hp)(c:Int)(m:I0 c)(r:Int)(a:w9 c=some r):
  Tr Tryz.prog 26 #[.int .i64 c] h λv h'=>v = .int .i64 r/\h'=h:=by
 unfold w9 at a
 refine Tr.forget (V1 (args:=[.int .i64 c]) (fn:=Tryz.f26) rfl ?_)
 refine trV a (P7 _ c m 0 (by decide) 12 (by decide)) λq a=>?_
 refine ifB a (λk a=>?_) λk a=>?_
 ·obtain rfl:=oJ a
  exact aI rfl (Sub.refl _)
 ·obtain⟨g,j,a⟩:=B0 a
  refine eX { vars:=[3,4],boxes:=[],owns:=[],fuel:=true } (eX (λvs os h'=>∃ e d,vs.tail = [.int .i64 e,.int .i64 d]/\os = []/\Sub h h'/\I0 e/\I0 d/\W9 c (C1 vs) e d=some g) (eX (λ_ _=>0) (aI (eX P0 ⟨1,2,rfl,rfl,(Sub.refl _),(by decide),(by decide),j⟩) ?_)))
  rintro _ _ f p ⟨e,d,⟨⟩,⟨⟩,i,n,o,b⟩
  replace b:W9 c f e d=some g:=b
  obtain _|f:=f
  ·cases b
  rw[W9.eq_2]at b
  refine ifB b (λl b=>?_) λl b=>?_
  ·exact D1 f ⟨(IntKind.i64.wrap (e*d)),(IntKind.i64.wrap (d+1)),rfl,rfl,i,(F0 _),(F0 _),b⟩
  ·obtain rfl:=oJ b
   try dsimp only[M0,O0]at a
   obtain rfl:=oJ a
   exact aI rfl i
theorem v0d(h:Hp)(e:Int)(U:I0 e)(g:Int)(V:I0 g)(r:Int)(c:S01 e g=some r):
  Tr Tryz.prog 25 #[.int .i64 e,.int .i64 g] h λv h'=>v = .int .i64 r/\h'=h:=by
 unfold S01 at c
 refine Tr.forget (V1 (args:=[.int .i64 e,.int .i64 g]) (fn:=Tryz.f25) rfl ?_)
 refine trV c (E3 _ e U 1 (by decide) 3 (by decide)) λap c=>?_
 refine trG c (λq=>E3 _ g V 1 (by decide) 7 (by decide)) λaq c=>?_
 refine ifB c (λS c=>?_) λS c=>?_
 ·obtain rfl:=oJ c
  exact aI rfl (Sub.refl _)
 ·obtain⟨u,P,c⟩:=B0 c
  refine eX { vars:=[6],boxes:=[],owns:=[0],fuel:=true } (eX (λvs os h'=>∃ f o j,vs.tail = [.int .i64 f]/\os = [o]/\Sub h h'/\I0 f/\F2 (Wp.int.R h') o j/\M00 g e (C1 vs) f j=some u) (eX (λ_ _=>0) (aI (eX P0 ⟨1,([[.int .i64 0]]:List (List Value)),[0],rfl,rfl,(Sub.refl _),(by decide),(show F2 (Wp.int.R h) ([[.int .i64 0]]:List (List Value)) [0] from⟨⟨rfl,(by decide)⟩,trivial⟩),P⟩) ?_)))
  rintro _ o n Z ⟨f,au,j,⟨⟩,⟨⟩,y,W,l,a⟩
  replace a:M00 g e n f j=some u:=a
  obtain _|n:=n
  ·cases a
  rw[M00.eq_2]at a
  refine ifB a (λT a=>?_) λT a=>?_
  ·refine trV a (D03 _ _ W) λz a=>?_
   obtain⟨ak,F,a⟩:=B0 a
   have X:I0 z:=T0 F
   refine trV a (c05 _ z X (IntKind.i64.wrap (e-1)) (F0 _)) λA a=>?_
   obtain⟨al,G,a⟩:=B0 a
   have ag:I0 A:=T0 G
   obtain⟨t,O,a⟩:=B0 a
   refine eX { vars:=[7,8],boxes:=[],owns:=[],fuel:=true } (eX (λvs os h'=>∃ d i,vs.tail = [.int .i64 d,.int .i64 i]/\os = []/\Sub Z h'/\I0 d/\I0 i/\L00 f e j (C1 vs) d i=some t) (eX (λ_ _=>0) (aI (eX P0 ⟨(IntKind.i64.wrap (f*A)),1,rfl,rfl,(Sub.refl _),(F0 _),(by decide),O⟩) ?_)))
   rintro _ _ m x ⟨d,i,⟨⟩,⟨⟩,k,w,af,b⟩
   replace b:L00 f e j m d i=some t:=b
   obtain _|m:=m
   ·cases b
   rw[L00.eq_2]at b
   refine ifB b (λQ b=>?_) λQ b=>?_
   ·refine Or.inl (aI (aI (by kernel_rfl) (by kernel_rfl)) ?_)
    obtain⟨p,K,b⟩:=B0 b
    refine eX (.int .i64 p) (aI (D03 _ (IntKind.i64.wrap (f-i)) (F0 _) _  K) ?_)
    obtain⟨am,H,b⟩:=B0 b
    have Y:I0 p:=T0 H
    obtain⟨s,L,b⟩:=B0 b
    refine eX (.int .i64 s) (aI (c05 _ p Y (IntKind.i64.wrap (e-1)) (F0 _) _  L) ?_)
    obtain⟨an,I,b⟩:=B0 b
    have ah:I0 s:=T0 I
    obtain⟨ac,M,b⟩:=B0 b
    obtain⟨B,ad,D,aa⟩:=I3 (F2.up (r:=Wp.int.toRp) k l) M
    refine aI B ?_
    obtain⟨rfl,ai⟩:=aa
    refine eX _ (aI D ?_)
    exact D1 m ⟨(IntKind.i64.wrap (d-(IntKind.i64.wrap (s*ac)))),(IntKind.i64.wrap (i+1)),rfl,rfl,k,(F0 _),(F0 _),b⟩
   ·obtain rfl:=oJ b
    try dsimp only[M0,O0]at a
    obtain⟨ao,J,a⟩:=B0 a
    refine aI (Z0 J (by first|rw[F2.length (F2.up (r:=Wp.int.toRp) k l),F2.length (show F2 (Wp.int.R x) ([[.int .i64 d]]:List (List Value)) [d] from⟨⟨rfl,w⟩,trivial⟩)]|exact congrArg (·+1) (F2.length (F2.up (r:=Wp.int.toRp) k l)))) ?_
    exact D1 n ⟨(IntKind.i64.wrap (f+1)),(o++([[.int .i64 d]]:List (List Value))),(j ++ [d]),rfl,rfl,(y.trans k),(F0 _),(F2.append (F2.up (r:=Wp.int.toRp) k l) (show F2 (Wp.int.R x) ([[.int .i64 d]]:List (List Value)) [d] from⟨⟨rfl,w⟩,trivial⟩)),a⟩
  ·obtain rfl:=oJ a
   try dsimp only[M0,O0]at c
   obtain⟨ar,N,c⟩:=B0 c
   obtain⟨C,ae,E,ab⟩:=I3 l N
   refine aI C ?_
   obtain⟨rfl,aj⟩:=ab
   refine eX _ (aI E ?_)
   obtain rfl:=oJ c
   exact aI rfl y
theorem n06(h:Hp)(b:Int)(q:I0 b)(i:Nat)(s:TypeId)(c:Int)(t:I0 c)(o:h i=some (.cells #[.int .i64 c] s (0,0)))(r:Int)(f:f02 b c=some r):
  Tr Tryz.prog 103 #[.int .i64 b,ptr i 0] h λv h'=>v = .int .i64 r/\h'=h:=by
 unfold f02 at f
 refine Tr.forget (V1 (args:=[.int .i64 b,ptr i 0]) (fn:=Tryz.f103) rfl ?_)
 obtain⟨k,n,f⟩:=B0 f
 refine eX { vars:=[4,5],boxes:=[],owns:=[],fuel:=true } (eX (λvs os h'=>∃ d e,vs.tail = [.int .i64 d,.int .i64 e]/\os = []/\Sub h h'/\I0 d/\I0 e/\Y9 c b (C1 vs) d e=some k) (eX (λ_ _=>0) (aI (eX P0 ⟨1,1,rfl,rfl,(Sub.refl _),(by decide),(by decide),n⟩) ?_)))
 rintro _ _ g y ⟨d,e,⟨⟩,⟨⟩,j,u,w,a⟩
 replace a:Y9 c b g d e=some k:=a
 obtain _|g:=g
 ·cases a
 rw[Y9.eq_2]at a
 refine eX (.int .i64 c) (aI ⟨rfl,by simp[Hp.cell,((j _ _ o))]⟩ ?_)
 refine ifB a (λp a=>?_) λp a=>?_
 ·refine trV a (m06 _ _ q) λl a=>?_
  obtain⟨z,m,a⟩:=B0 a
  have x:I0 l:=T0 m
  exact D1 g ⟨(IntKind.i64.wrap (d*l)),(IntKind.i64.wrap (e+1)),rfl,rfl,j,(F0 _),(F0 _),a⟩
 ·obtain rfl:=oJ a
  try dsimp only[M0,O0]at f
  obtain rfl:=oJ f
  exact aI rfl j
theorem A07(h:Hp)(d:Int)(t:I0 d)(g:Int)(T:I0 g)(r:Int)(b:z9 d g=some r):
  Tr Tryz.prog 12 #[.int .i64 d,.int .i64 g] h λv h'=>v = .int .i64 r/\h'=h:=by
 unfold z9 at b
 refine Tr.forget (V1 (args:=[.int .i64 d,.int .i64 g]) (fn:=Tryz.f12) rfl ?_)
 refine trV b (P7 _ d t 1 (by decide) 3 (by decide)) λaj b=>?_
 refine trG b (λq=>P7 _ g T 1 (by decide) 7 (by decide)) λak b=>?_
 refine ifB b (λS b=>?_) λS b=>?_
 ·obtain rfl:=oJ b
  exact aI rfl (Sub.refl _)
 ·intro m O
  have y:(Hp.set h m (.cells #[.int .i64 d] 3 (0,0))) m=some (.cells #[.int .i64 d] 3 (0,0)):=Hp.set_same _ _ _
  obtain⟨x,N,b⟩:=B0 b
  refine eX { vars:=[7],boxes:=[],owns:=[0],fuel:=true } (eX (λvs os h'=>∃ f s k,vs.tail = [.int .i64 f]/\os = [s]/\Sub (Hp.set h m (.cells #[.int .i64 d] 3 (0,0))) h'/\I0 f/\F2 (Wp.int.R h') s k/\O00 g d (C1 vs) f k=some x) (eX (λ_ _=>0) (aI (eX P0 ⟨2,([[.int .i64 0],[.int .i64 1]]:List (List Value)),([0,1]),rfl,rfl,(Sub.refl _),(by decide),(show F2 (Wp.int.R (Hp.set h m (.cells #[.int .i64 d] 3 (0,0)))) ([[.int .i64 0],[.int .i64 1]]:List (List Value)) [0,1] from⟨⟨rfl,(by decide)⟩,⟨⟨rfl,(by decide)⟩,trivial⟩⟩),N⟩) ?_)))
  rintro _ s o V ⟨f,am,k,⟨⟩,⟨⟩,p,U,l,a⟩
  replace a:O00 g d o f k=some x:=a
  obtain _|o:=o
  ·cases a
  rw[O00.eq_2]at a
  refine ifB a (λP a=>?_) λP a=>?_
  ·refine trV a (n06 _ _ U _ _ _ t (p _ _ y)) λB a=>?_
   obtain⟨ag,G,a⟩:=B0 a
   have ac:I0 B:=T0 G
   obtain⟨w,M,a⟩:=B0 a
   refine eX { vars:=[8,9],boxes:=[],owns:=[],fuel:=true } (eX (λvs os h'=>∃ e j,vs.tail = [.int .i64 e,.int .i64 j]/\os = []/\Sub V h'/\I0 e/\I0 j/\N00 f d k (C1 vs) e j=some w) (eX (λ_ _=>0) (aI (eX P0 ⟨(IntKind.i64.wrap (f*B)),1,rfl,rfl,(Sub.refl _),(F0 _),(by decide),M⟩) ?_)))
   rintro _ _ n A ⟨e,j,⟨⟩,⟨⟩,i,z,ab,c⟩
   replace c:N00 f d k n e j=some w:=c
   obtain _|n:=n
   ·cases c
   rw[N00.eq_2]at c
   refine ifB c (λQ c=>?_) λQ c=>?_
   ·refine Or.inl (aI (aI (by kernel_rfl) (by kernel_rfl)) ?_)
    obtain⟨u,J,c⟩:=B0 c
    refine eX (.int .i64 u) (aI (n06 _ (IntKind.i64.wrap (f-j)) (F0 _) _ _ _ t ((p.trans i) _ _ y) _  J) ?_)
    obtain⟨ah,H,c⟩:=B0 c
    have ad:I0 u:=T0 H
    obtain⟨Y,K,c⟩:=B0 c
    obtain⟨C,Z,E,W⟩:=I3 (F2.up (r:=Wp.int.toRp) i l) K
    refine aI C ?_
    obtain⟨rfl,ae⟩:=W
    refine eX _ (aI E ?_)
    exact D1 n ⟨(IntKind.i64.wrap (e-(IntKind.i64.wrap (u*Y)))),(IntKind.i64.wrap (j+1)),rfl,rfl,i,(F0 _),(F0 _),c⟩
   ·obtain rfl:=oJ c
    try dsimp only[M0,O0]at a
    obtain⟨ai,I,a⟩:=B0 a
    refine aI (Z0 I (by first|rw[F2.length (F2.up (r:=Wp.int.toRp) i l),F2.length (show F2 (Wp.int.R A) ([[.int .i64 e]]:List (List Value)) [e] from⟨⟨rfl,z⟩,trivial⟩)]|exact congrArg (·+1) (F2.length (F2.up (r:=Wp.int.toRp) i l)))) ?_
    exact D1 o ⟨(IntKind.i64.wrap (f+1)),(s++([[.int .i64 e]]:List (List Value))),(k ++ [e]),rfl,rfl,(p.trans i),(F0 _),(F2.append (F2.up (r:=Wp.int.toRp) i l) (show F2 (Wp.int.R A) ([[.int .i64 e]]:List (List Value)) [e] from⟨⟨rfl,z⟩,trivial⟩)),a⟩
  ·obtain rfl:=oJ a
   try dsimp only[M0,O0]at b
   obtain⟨al,L,b⟩:=B0 b
   obtain⟨D,aa,F,X⟩:=I3 l L
   refine aI D ?_
   obtain⟨rfl,af⟩:=X
   refine eX _ (aI F ?_)
   obtain rfl:=oJ b
   exact aI rfl ((Sub.set O).trans p)
end Go.Proofs.YtmgikbbmpnbbjaaGreat
