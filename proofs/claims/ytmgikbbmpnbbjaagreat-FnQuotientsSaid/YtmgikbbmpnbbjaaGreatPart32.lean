/- Texts of the claim, joined: The walks of batch g2 and others. -/
import Derived.Test.YtmgikbbmpnbbjaaGreatPart22
import Derived.Test.YtmgikbbmpnbbjaaGreatChecked
import Derived.Test.YtmgikbbmpnbbjaaGreatH35
import Derived.Test.YtmgikbbmpnbbjaaGreatPart30
import Derived.Test.YtmgikbbmpnbbjaaGreatSE
import Derived.Test.YtmgikbbmpnbbjaaGreatPart25
import Derived.Test.YtmgikbbmpnbbjaaGreatH40
import Derived.Test.YtmgikbbmpnbbjaaGreatH41
import Derived.Test.YtmgikbbmpnbbjaaGreatPart21
import Derived.Test.YtmgikbbmpnbbjaaGreatH36
import Derived.Test.YtmgikbbmpnbbjaaGreatH45
namespace Go.Proofs.YtmgikbbmpnbbjaaGreat
open Go.H
set_option linter.unusedVariables false
set_option linter.unusedSimpArgs false
set_option maxRecDepth 10000
theorem F4(h:Hp)(d:List Value)(i:j0)(x:F1.R h d i)(r:j0)(a:D3 i=some r):
  Tr Tryz.prog 116 #[.agg d.toArray] h λv h'=>∃(f:Nat) (g c:Nat),v = .agg ([.int .i64 r.1,.int .i64 r.2.1,.slice (some ⟨f,0,none⟩) g c]:List Value).toArray/\New F1 h h' [.int .i64 r.1,.int .i64 r.2.1,.slice (some ⟨f,0,none⟩) g c] r:=by
 obtain⟨u,w,l,D,m,j,rfl,rfl,s,t,k⟩:=C0 x
 obtain⟨rfl,A⟩:=Sl.len k
 unfold D3 at a
 dsimp only at a
 refine G2 (args:=[.agg #[.int .i64 u,.int .i64 w,.slice l j.length m]]) (fn:=Tryz.f116) rfl ?_
 refine Or.inr (Or.inr (Or.inl (aI (aI (by kernel_rfl) (by kernel_rfl)) ?_)))
 refine Or.inr ?_
 refine Or.inr ?_
 refine Or.inr ?_
 refine Or.inr ?_
 refine Or.inl (eX 0 (aI (aI rfl rfl) ?_))
 refine aT ?_
 obtain⟨y,o,b⟩:=Sl.rows (r:=I1.toRp) k
 refine eX y (aI o ?_)
 obtain⟨E,p,a⟩:=B0 a
 refine aI (Q1 p (by first|rw[F2.length (show F2 (I1.R h) ([]:List (List Value)) ([]:Z0) from trivial),F2.length b]|exact congrArg (·+1) (F2.length (show F2 (I1.R h) ([]:List (List Value)) ([]:Z0) from trivial)))) ?_
 refine aT ?_
 refine aT ?_
 refine aT ?_
 intro H z e
 obtain⟨q,n,rfl,F,G,C⟩:=W0.outS (r:=I1.toRp) e (F2.append (show F2 (I1.R h) ([]:List (List Value)) ([]:Z0) from trivial) b)
 obtain rfl:=oJ a
 exact⟨q,((([]:Z0)++j)).length,n,rfl,(New.pair (New.int s) (New.pair (New.int t) (W0.newPlain (r:=I1) e (F2.append (show F2 (I1.R h) ([]:List (List Value)) ([]:Z0) from trivial) b) (i06 _))))⟩
theorem b0f(h:Hp)(k:List Value)(l:j0)(z:F1.R h k l)(f:Int)(F:H0 f)(r:Int)(e:Z01 l f=some r):
  Tr Tryz.prog 243 #[.agg k.toArray,.int .i64 f] h λv h'=>v = .int .i64 r/\h'=h:=by
 obtain⟨x,y,n,M,o,i,rfl,rfl,D,E,m⟩:=C0 z
 obtain⟨rfl,L⟩:=Sl.len m
 unfold Z01 at e
 dsimp only at e
 refine Tr.forget (G2 (args:=[.agg #[.int .i64 x,.int .i64 y,.slice n i.length o],.int .i64 f]) (fn:=Tryz.f243) rfl ?_)
 obtain⟨j,p,e⟩:=B0 e
 refine eX { vars:=[5,11],boxes:=[],owns:=[],fuel:=true } (eX (λvs os h'=>∃ b c,vs.tail = [.int .i64 b,.int .i64 c]/\os = []/\Sub h h'/\H0 b/\H0 c/\N5 i f (O1 vs) b c=some j) (eX (λ_ _=>0) (aI (eX V0 ⟨0,0,rfl,rfl,(Sub.refl _),(by decide),(by decide),p⟩) ?_)))
 rintro _ _ d K ⟨b,c,⟨⟩,⟨⟩,g,w,G,a⟩
 replace a:N5 i f d b c=some j:=a
 obtain _|d:=d
 ·cases a
 rw[N5.eq_2]at a
 refine ifB a (λs a=>?_) λs a=>?_
 ·refine ld a (Q0.mono g m) λN C A a=>?_
  obtain⟨O,P,Q,rfl,rfl,H,I,J⟩:=U1 A
  try dsimp only at a
  refine ifB a (λt a=>?_) λt a=>?_
  ·refine ifB a (λu a=>?_) λu a=>?_
   ·exact D2 d ⟨(IntKind.i64.wrap ((IntKind.i64.wrap (b+1))+1)),(IntKind.i64.wrap (c+1)),rfl,rfl,g,(K0 _),(K0 _),a⟩
   ·exact D2 d ⟨(IntKind.i64.wrap (b+1)),(IntKind.i64.wrap (c+1)),rfl,rfl,g,(K0 _),(K0 _),a⟩
  ·refine ifB a (λq a=>?_) λq a=>?_
   ·exact D2 d ⟨(IntKind.i64.wrap (b+1)),(IntKind.i64.wrap (c+1)),rfl,rfl,g,(K0 _),(K0 _),a⟩
   ·exact D2 d ⟨b,(IntKind.i64.wrap (c+1)),rfl,rfl,g,w,(K0 _),a⟩
 ·obtain rfl:=oJ a
  try dsimp only[Y0,C1]at e
  obtain rfl:=oJ e
  exact aI rfl g
theorem R02(h:Hp)(i:Option Addr)(n k:Nat)(d:Z0)(p:Q0.R h [.slice i n k] d)(j:Option Addr)(o l:Nat)(e:Z0)(q:Q0.R h [.slice j o l] e)(r:Bool)(b:I3 d e=some r):
  Tr Tryz.prog 216 #[.slice i n k,.slice j o l] h λv h'=>v = .bool r/\h'=h:=by
 obtain⟨rfl,Q⟩:=Sl.len p
 obtain⟨rfl,S⟩:=Sl.len q
 unfold I3 at b
 refine Tr.forget (G2 (args:=[.slice i d.length k,.slice j e.length l]) (fn:=Tryz.f216) rfl ?_)
 refine ifB b (λt b=>?_) λt b=>?_
 ·obtain rfl:=oJ b
  exact aI rfl (Sub.refl _)
 ·obtain⟨m,s,b⟩:=B0 b
  refine eX { vars:=[13],boxes:=[],owns:=[],fuel:=true } (eX (λvs os h'=>∃ c,vs.tail = [.int .i64 c]/\os = []/\Sub h h'/\H0 c/\L1 d e (O1 vs) c=some m) (eX (λ_ _=>0) (aI (eX V0 ⟨0,rfl,rfl,(Sub.refl _),(by decide),s⟩) ?_)))
  rintro _ g P ⟨c,⟨⟩,⟨⟩,f,I,a⟩
  replace a:L1 d e g c=some m:=a
  obtain _|g:=g
  ·cases a
  rw[L1.eq_2]at a
  refine ifB a (λu a=>?_) λu a=>?_
  ·refine Or.inl (aI (aI (by kernel_rfl) (by kernel_rfl)) ?_)
   refine ld a (Q0.mono f p) λT G x a=>?_
   obtain⟨z,A,C,rfl,rfl,J,K,L⟩:=U1 x
   try dsimp only at a
   refine ld a (Q0.mono f q) λU H y a=>?_
   obtain⟨D,E,F,rfl,rfl,M,N,O⟩:=U1 y
   try dsimp only at a
   refine eX (!eqE (z,A,C) (D,E,F)) (aI (D0k _ _ _ rfl _ _ _ _ _ _) ?_)
   refine ifB a (λw a=>?_) λw a=>?_
   ·obtain rfl:=oJ a
    try dsimp only[M2,N2]at b
    obtain rfl:=oJ b
    exact aI rfl f
   ·exact D2 g ⟨(IntKind.i64.wrap (c+1)),rfl,rfl,f,(K0 _),a⟩
  ·obtain rfl:=oJ a
   try dsimp only[Y0,C1]at b
   obtain rfl:=oJ b
   exact aI rfl f
theorem y0b(h:Hp)(b:List Value)(d:j0)(u:F1.R h b d)(c:List Value)(e:j0)(w:F1.R h c e)(r:Bool)(a:G00 d e=some r):
  Tr Tryz.prog 132 #[.agg b.toArray,.agg c.toArray] h λv h'=>v = .bool r/\h'=h:=by
 obtain⟨m,n,i,E,k,o,rfl,rfl,x,y,f⟩:=C0 u
 obtain⟨rfl,C⟩:=Sl.len f
 obtain⟨p,s,j,F,l,t,rfl,rfl,z,A,g⟩:=C0 w
 obtain⟨rfl,D⟩:=Sl.len g
 unfold G00 at a
 dsimp only at a
 refine Tr.forget (G2 (args:=[.agg #[.int .i64 m,.int .i64 n,.slice i o.length k],.agg #[.int .i64 p,.int .i64 s,.slice j t.length l]]) (fn:=Tryz.f132) rfl ?_)
 refine trG a (λq=>R02 _ _ _ _ _ f _ _ _ _ g) λG a=>?_
 obtain rfl:=oJ a
 exact aI rfl (Sub.refl _)
theorem r0a(h:Hp)(G:List Value)(J:j0)(ao:F1.R h G J)(g:Int)(aH:H0 g)(r:(List Bool))(e:f00 J g=some r):
  Tr Tryz.prog 242 #[.agg G.toArray,.int .i64 g] h λv h'=>∃(E:Option Addr) (I F:Nat),v = .slice E I F/\(Wp.slice Wp.bool).R h' [.slice E I F] r/\Sub h h':=by
 obtain⟨an,o,L,aQ,T,q,rfl,rfl,aF,aG,K⟩:=C0 ao
 obtain⟨rfl,aO⟩:=Sl.len K
 unfold f00 at e
 dsimp only at e
 refine G2 (args:=[.agg #[.int .i64 an,.int .i64 o,.slice L q.length T],.int .i64 g]) (fn:=Tryz.f242) rfl ?_
 obtain⟨aR,ab,e⟩:=B0 e
 refine aI (M0 ab) ?_
 obtain⟨aY,ae,e⟩:=B0 e
 obtain⟨P,aC,X,au⟩:=s5 (F2.rep (p:=Wp.bool.R h) (a:=[.bool false]) (b:=false) rfl (o.toNat)) ae
 refine aI P ?_
 obtain rfl:=au
 refine eX _ (aI X ?_)
 obtain⟨C,ah,e⟩:=B0 e
 refine eX { vars:=[6],boxes:=[],owns:=[0],fuel:=true,kept:=[0] } (eX (λvs os h'=>∃ u w l,vs.tail = [.bool u]/\os = [w]/\Sub h h'/\F2 (Wp.bool.R h') w l/\B5 q (O1 vs) u l=some C) (eX (λ_ _=>0) (aI (eX V0 ⟨true,((List.replicate o.toNat ([.bool false]:List Value)).set g.toNat [.bool true]),((List.replicate o.toNat (false:Bool)).set g.toNat true),rfl,rfl,(Sub.refl _),(F2.set (p:=Wp.bool.R h) (a:=[.bool true]) (b:=true) rfl g.toNat (F2.rep (p:=Wp.bool.R h) (a:=[.bool false]) (b:=false) rfl (o.toNat))),ah⟩) ?_)))
 rintro _ w s am ⟨u,a2,l,⟨⟩,⟨⟩,z,H,d⟩
 replace d:B5 q s u l=some C:=d
 obtain _|s:=s
 ·cases d
 rw[B5.eq_2]at d
 refine ifB d (λal d=>?_) λal d=>?_
 ·obtain⟨D,ai,d⟩:=B0 d
  refine eX { vars:=[6,19],boxes:=[],owns:=[0],fuel:=true,kept:=[0] } (eX (λvs os h'=>∃ k i m j,vs.tail = [.bool k,.int .i64 i]/\os = [m]/\Sub am h'/\H0 i/\F2 (Wp.bool.R h') m j/\N4 q (O1 vs) k i j=some D) (eX (λ_ _=>0) (aI (eX V0 ⟨false,0,w,l,rfl,rfl,(Sub.refl _),(by decide),H,ai⟩) ?_)))
  rintro _ _ m n y ⟨k,i,a1,j,⟨⟩,⟨⟩,t,aJ,f,c⟩
  replace c:N4 q n k i j=some D:=c
  obtain _|n:=n
  ·cases c
  rw[N4.eq_2]at c
  refine ifB c (λaj c=>?_) λaj c=>?_
  ·refine ld c (Q0.mono (z.trans t) K) λaU az ap c=>?_
   obtain⟨x,aV,A,rfl,rfl,aK,aL,aM⟩:=U1 ap
   try dsimp only at c
   refine Or.inl (aI (aI (by kernel_rfl) (by kernel_rfl)) ?_)
   obtain⟨aW,ac,c⟩:=B0 c
   obtain⟨N,aA,V,aq⟩:=s5 f ac
   refine aI N ?_
   obtain rfl:=aq
   refine eX _ (aI V ?_)
   obtain⟨aX,ad,c⟩:=B0 c
   obtain⟨O,aB,W,ar⟩:=s5 f ad
   refine aI O ?_
   obtain rfl:=ar
   refine eX _ (aI W ?_)
   refine ifB c (λak c=>?_) λak c=>?_
   ·obtain⟨aZ,af,c⟩:=B0 c
    obtain⟨Q,aD,Y,av⟩:=s5 f af
    refine aI Q ?_
    obtain rfl:=av
    refine eX _ (aI Y ?_)
    obtain⟨a0,ag,c⟩:=B0 c
    obtain⟨S,aE,Z,aw⟩:=s5 (F2.set (p:=Wp.bool.R y) (a:=[.bool true]) (b:=true) rfl x.toNat f) ag
    refine aI S ?_
    obtain rfl:=aw
    refine eX _ (aI Z ?_)
    exact D2 n ⟨true,(IntKind.i64.wrap (i+1)),((m.set x.toNat [.bool true]).set A.toNat [.bool true]),((j.set x.toNat true).set A.toNat true),rfl,rfl,t,(K0 _),(F2.set (p:=Wp.bool.R y) (a:=[.bool true]) (b:=true) rfl A.toNat (F2.set (p:=Wp.bool.R y) (a:=[.bool true]) (b:=true) rfl x.toNat f)),c⟩
   ·exact D2 n ⟨k,(IntKind.i64.wrap (i+1)),m,j,rfl,rfl,t,(K0 _),f,c⟩
  ·obtain rfl:=oJ c
   try dsimp only[Y0,C1]at d
   exact D2 s ⟨k,m,j,rfl,rfl,(z.trans t),f,d⟩
 ·obtain rfl:=oJ d
  try dsimp only[Y0,C1]at e
  intro aS aN aa
  obtain⟨M,U,rfl,ax,ay,aP⟩:=W0.out (r:=Wp.bool.toRp) aa H
  obtain rfl:=oJ e
  exact⟨M,l.length,U,rfl,ax,(z.trans ay)⟩
theorem K09(h:Hp)(c:Int)(A:H0 c)(r:J0)(e:H00 c=some r):
  Tr Tryz.prog 226 #[.int .i64 c] h λv h'=>∃(k:Option Addr) (o l:Nat),v = .slice k o l/\O0.R h' [.slice k o l] r/\Sub h h':=by
 unfold H00 at e
 refine G2 (args:=[.int .i64 c]) (fn:=Tryz.f226) rfl ?_
 obtain⟨j,w,e⟩:=B0 e
 refine eX { vars:=[4],boxes:=[],owns:=[0],fuel:=true } (eX (λvs os h'=>∃ a i d,vs.tail = [.int .i64 a]/\os = [i]/\Sub h h'/\H0 a/\F2 (Wp.int.R h') i d/\d8 c (O1 vs) a d=some j) (eX (λ_ _=>0) (aI (eX V0 ⟨1,[],([]:J0),rfl,rfl,(Sub.refl _),(by decide),(show F2 (Wp.int.R h) ([]:List (List Value)) ([]:J0) from trivial),w⟩) ?_)))
 rintro _ i g n ⟨a,G,d,⟨⟩,⟨⟩,p,m,f,b⟩
 replace b:d8 c g a d=some j:=b
 obtain _|g:=g
 ·cases b
 rw[d8.eq_2]at b
 refine ifB b (λx b=>?_) λx b=>?_
 ·obtain⟨E,u,b⟩:=B0 b
  refine aI (Q1 u (by first|rw[F2.length f,F2.length (show F2 (Wp.int.R n) ([[.int .i64 a],[.int .i64 (IntKind.i64.wrap (0-a))]]:List (List Value)) [a,(IntKind.i64.wrap (0-a))] from⟨⟨rfl,m⟩,⟨⟨rfl,(K0 _)⟩,trivial⟩⟩)]|exact congrArg (·+2) (F2.length f))) ?_
  exact D2 g ⟨(IntKind.i64.wrap (a+1)),(i++([[.int .i64 a],[.int .i64 (IntKind.i64.wrap (0-a))]]:List (List Value))),(d ++ [a,(IntKind.i64.wrap (0-a))]),rfl,rfl,p,(K0 _),(F2.append f (show F2 (Wp.int.R n) ([[.int .i64 a],[.int .i64 (IntKind.i64.wrap (0-a))]]:List (List Value)) [a,(IntKind.i64.wrap (0-a))] from⟨⟨rfl,m⟩,⟨⟨rfl,(K0 _)⟩,trivial⟩⟩)),b⟩
 ·obtain rfl:=oJ b
  try dsimp only[Y0,C1]at e
  intro F C t
  obtain⟨q,s,rfl,y,z,D⟩:=W0.out (r:=Wp.int.toRp) t f
  obtain rfl:=oJ e
  exact⟨q,d.length,s,rfl,y,(p.trans z)⟩
theorem G04(h:Hp)(c:Option Addr)(l d:Nat)(b:Z0)(o:Q0.R h [.slice c l d] b)(r:Z0)(a:l00 b=some r):
  Tr Tryz.prog 191 #[.slice c l d] h λv h'=>∃(e:Option Addr) (k f:Nat),v = .slice e k f/\New Q0 h h' [.slice e k f] r:=by
 obtain⟨rfl,E⟩:=Sl.len o
 unfold l00 at a
 refine G2 (args:=[.slice c b.length d]) (fn:=Tryz.f191) rfl ?_
 obtain⟨x,s,g⟩:=Sl.rows (r:=I1.toRp) o
 refine eX x (aI s ?_)
 obtain⟨H,u,a⟩:=B0 a
 refine aI (Q1 u (by first|rw[F2.length (show F2 (I1.R h) ([]:List (List Value)) ([]:Z0) from trivial),F2.length g]|exact congrArg (·+1) (F2.length (show F2 (I1.R h) ([]:List (List Value)) ([]:Z0) from trivial)))) ?_
 refine Or.inl ?_
 intro N A t
 obtain⟨I,w,a⟩:=B0 a
 refine Tr.mono (Q0m _ t (F2.append (show F2 (I1.R h) ([]:List (List Value)) ([]:Z0) from trivial) g) (M0 w)) ?_
 rintro _ C ⟨rfl,O,i,m⟩
 obtain⟨y,z,rfl,J,L,F⟩:=W0.out (r:=I1.toRp) i m
 refine Tr.mono (R0m _ i m) ?_
 rintro _ D ⟨P,j,n⟩
 obtain⟨p,q,rfl,K,M,G⟩:=W0.out (r:=I1.toRp) j n
 obtain rfl:=oJ a
 exact⟨p,((g04 eqE (A07 P0 (([]:Z0)++b)))).length,q,rfl,(W0.newPlain (r:=I1) j n (i06 _))⟩
theorem O0e(h:Hp)(X:List Value)(ae:j0)(aX:F1.R h X ae)(I:Option Addr)(ad J:Nat)(u:J0)(ah:O0.R h [.slice I ad J] u)(r:j0)(d:z03 ae u=some r):
  Tr Tryz.prog 244 #[.agg X.toArray,.slice I ad J] h λv h'=>∃(W:List Value),v = .agg W.toArray/\New F1 h h' W r:=by
 obtain⟨af,g,ai,bD,ap,P,rfl,rfl,aQ,bj,ag⟩:=C0 aX
 obtain⟨rfl,bA⟩:=Sl.len ag
 obtain⟨rfl,aV⟩:=Sl.len ah
 unfold z03 at d
 dsimp only at d
 refine G2 (args:=[.agg #[.int .i64 af,.int .i64 g,.slice ai P.length ap],.slice I u.length J]) (fn:=Tryz.f244) rfl ?_
 obtain⟨bF,aA,d⟩:=B0 d
 refine aI (M0 aA) ?_
 obtain⟨aW,az,d⟩:=B0 d
 obtain rfl:(List.replicate g.toNat ([.int .i64 0]:List Value)).length=aW:=(F2.length (F2.rep (p:=Wp.int.R h) (a:=[.int .i64 0]) (b:=0) ⟨rfl,(by decide)⟩ (g.toNat))).trans (oJ az)
 obtain⟨bG,bi,d⟩:=B0 d
 obtain⟨V,aL,d⟩:=B0 d
 refine eX { vars:=[17],boxes:=[],owns:=[0],fuel:=true,kept:=[0] } (eX (λvs os h'=>∃ f C x,vs.tail = [.int .i64 f]/\os = [C]/\Sub h h'/\H0 f/\F2 (Wp.int.R h') C x/\n00 ((List.replicate g.toNat ([.int .i64 0]:List Value))).length (O1 vs) f x=some V) (eX (λ_ _=>0) (aI (eX V0 ⟨0,(List.replicate g.toNat ([.int .i64 0]:List Value)),(List.replicate g.toNat (0:Int)),rfl,rfl,(Sub.refl _),(by decide),(F2.rep (p:=Wp.int.R h) (a:=[.int .i64 0]) (b:=0) ⟨rfl,(by decide)⟩ (g.toNat)),aL⟩) ?_)))
 rintro _ C E ac ⟨f,bZ,x,⟨⟩,⟨⟩,G,bl,K,c⟩
 replace c:n00 ((List.replicate g.toNat ([.int .i64 0]:List Value))).length E f x=some V:=c
 obtain _|E:=E
 ·cases c
 rw[n00.eq_2]at c
 refine ifB c (λaP c=>?_) λaP c=>?_
 ·obtain⟨bQ,aC,c⟩:=B0 c
  obtain⟨ak,ba,ar,aY⟩:=s5 K aC
  refine aI ak ?_
  obtain⟨rfl,bm⟩:=aY
  refine eX _ (aI ar ?_)
  exact D2 E ⟨(IntKind.i64.wrap (f+1)),(C.set f.toNat [.int .i64 (-1)]),(x.set f.toNat (-1)),rfl,rfl,G,(K0 _),(F2.set (p:=Wp.int.R ac) (a:=[.int .i64 (-1)]) (b:=(-1)) ⟨rfl,(by decide)⟩ f.toNat K),c⟩
 ·obtain rfl:=oJ c
  try dsimp only[Y0,C1]at d
  obtain⟨T,aJ,d⟩:=B0 d
  refine eX { vars:=[26],boxes:=[],owns:=[0],fuel:=true,kept:=[0] } (eX (λvs os h'=>∃ e H n,vs.tail = [.int .i64 e]/\os = [H]/\Sub ac h'/\H0 e/\F2 (Wp.int.R h') H n/\m00 u (O1 vs) e n=some T) (eX (λ_ _=>0) (aI (eX V0 ⟨0,C,x,rfl,rfl,(Sub.refl _),(by decide),K,aJ⟩) ?_)))
  rintro _ H D N ⟨e,bX,n,⟨⟩,⟨⟩,F,aR,t,c⟩
  replace c:m00 u D e n=some T:=c
  obtain _|D:=D
  ·cases c
  rw[m00.eq_2]at c
  refine ifB c (λaM c=>?_) λaM c=>?_
  ·refine ldI c (O0.mono (G.trans F) ah) λS bn c=>?_
   obtain⟨bR,aD,c⟩:=B0 c
   obtain⟨al,bb,au,aZ⟩:=s5 t aD
   refine aI al ?_
   obtain⟨rfl,bo⟩:=aZ
   refine eX _ (aI au ?_)
   exact D2 D ⟨(IntKind.i64.wrap (e+1)),(H.set S.toNat [.int .i64 e]),(n.set S.toNat e),rfl,rfl,F,(K0 _),(F2.set (p:=Wp.int.R N) (a:=[.int .i64 e]) (b:=e) ⟨rfl,aR⟩ S.toNat t),c⟩
  ·obtain rfl:=oJ c
   try dsimp only[Y0,C1]at d
   obtain⟨U,aK,d⟩:=B0 d
   refine eX { vars:=[44],boxes:=[2],owns:=[1],fuel:=true,nilsB:=[(2,2,124,3,24)] } (eX (λvs os h'=>∃ o j k A w,vs.tail = [.int .i64 o,.int .i64 j,.int .i64 k]/\os = [A]/\Sub N h'/\H0 o/\H0 j/\H0 k/\F2 (I1.R h') A w/\G9 P n (O1 vs) o j k w=some U) (eX (λ_ _=>0) (aI (eX V0 ⟨0,af,((u.length:Nat):Int),[],([]:Z0),rfl,rfl,(Sub.refl _),(by decide),aQ,(q0r aV),(show F2 (I1.R N) [] [] from trivial),aK⟩) ?_)))
   rintro _ _ _ A z O ⟨o,j,k,bY,w,⟨⟩,⟨⟩,i,bk,L,M,y,c⟩
   replace c:G9 P n z o j k w=some U:=c
   obtain _|z:=z
   ·cases c
   rw[G9.eq_2]at c
   refine ifB c (λaN c=>?_) λaN c=>?_
   ·refine ld c (Q0.mono ((G.trans F).trans i) ag) λbS bc a0 c=>?_
    obtain⟨bT,s,bU,rfl,rfl,bp,Z,bq⟩:=U1 a0
    try dsimp only at c
    obtain⟨bV,aE,c⟩:=B0 c
    obtain⟨am,bd,av,a1⟩:=s5 (F2.up (r:=Wp.int.toRp) i t) aE
    refine aI am ?_
    obtain⟨rfl,br⟩:=a1
    refine eX _ (aI av ?_)
    obtain⟨bW,aF,c⟩:=B0 c
    obtain⟨be,Y,a2⟩:=M03 (F2.up (r:=Wp.int.toRp) i t) aF (m0c O)
    refine aI (λq=>(Y q).1) ?_
    obtain⟨rfl,bs⟩:=a2
    refine eX _ (aI (λq=>(Y q).2) ?_)
    refine ifB c (λaO c=>?_) λaO c=>?_
    ·refine Or.inr (Or.inr (Or.inl (aI (aI (by kernel_rfl) (by kernel_rfl)) ?_)))
     obtain⟨l,aG,c⟩:=B0 c
     obtain⟨an,bf,aw,a3⟩:=s5 (F2.up (r:=Wp.int.toRp) i t) aG
     obtain⟨rfl,aa⟩:=a3
     refine Or.inl ?_
     apply eX
     refine aI ?_ ?_
     ·intro bt bI
      exact aI an (aI rfl (aI rfl rfl))
     refine Or.inl (eX (.val (.int .i64 l)) (aI ?_ ?_))
     ·intro bu bJ
      exact eX _ (aI aw (aI rfl (aI rfl rfl)))
     obtain⟨m,aH,c⟩:=B0 c
     obtain⟨ao,bg,ax,a4⟩:=s5 (F2.up (r:=Wp.int.toRp) i t) aH
     obtain⟨rfl,ab⟩:=a4
     refine Or.inl ?_
     apply eX
     refine aI ?_ ?_
     ·intro bv bK
      exact aI ao (aI rfl (aI rfl rfl))
     refine Or.inl (eX (.val (.int .i64 m)) (aI ?_ ?_))
     ·intro bx bL
      exact eX _ (aI ax (aI rfl (aI rfl rfl)))
     refine Or.inl (eX (.agg [.val (.int .i64 l),.val (.int .i64 s),.val (.int .i64 m)]) (aI ?_ ?_))
     ·intro bz bM
      exact aI rfl (aI rfl rfl)
     refine Or.inr ?_
     refine Or.inr ?_
     refine Or.inr ?_
     refine Or.inl (eX 0 (aI (aI rfl rfl) ?_))
     refine aT ?_
     obtain⟨bH,aB,c⟩:=B0 c
     refine aI (Q1 aB (by first|rw[F2.length y,F2.length (show F2 (I1.R O) ([[.int .i64 l,.int .i64 s,.int .i64 m]]:List (List Value)) [(l,s,m)] from⟨(D1 aa Z ab),trivial⟩)]|exact congrArg (·+1) (F2.length y))) ?_
     refine aT ?_
     refine aT ?_
     exact D2 z ⟨(IntKind.i64.wrap (o+1)),j,k,(A++([[.int .i64 l,.int .i64 s,.int .i64 m]]:List (List Value))),(w ++ [(l,s,m)]),rfl,rfl,i,(K0 _),L,M,(F2.append y (show F2 (I1.R O) ([[.int .i64 l,.int .i64 s,.int .i64 m]]:List (List Value)) [(l,s,m)] from⟨(D1 aa Z ab),trivial⟩)),c⟩
    ·exact D2 z ⟨(IntKind.i64.wrap (o+1)),j,k,A,w,rfl,rfl,i,(K0 _),L,M,y,c⟩
   ·obtain rfl:=oJ c
    try dsimp only[Y0,C1]at d
    refine Or.inl ?_
    intro bO aS ay
    obtain⟨a9,bh,rfl,a6,a7,bC⟩:=W0.out (r:=I1.toRp) ay y
    refine trM d (G04 _ _ _ _ _ a6) ?_
    rintro a8 d bP aU ⟨aj,bE,aq,rfl,Q⟩
    have bN:Sub aS aU:=Q.sub
    have a5:=Q.r
    obtain⟨rfl,bB⟩:=Sl.len a5
    obtain rfl:=oJ d
    exact⟨([.int .i64 j,.int .i64 k,.slice aj a8.length aq]),rfl,(New.pair (New.int L) (New.pair (New.int M) (New.from Q (((G.trans F).trans i).trans a7))))⟩
theorem V0c(h:Hp)(Y:List Value)(an:j0)(bi:F1.R h Y an)(e:Int)(ba:H0 e)(r:J0×O2)(f:u02 an e=some r):
  Tr Tryz.prog 250 #[.agg Y.toArray,.int .i64 e] h λv h'=>∃(U:Option Addr) (ak W:Nat) (V:Option Addr) (al X:Nat),v = .tuple #[.slice U ak W,.slice V al X]/\O0.R h' [.slice U ak W] r.1/\Q2.R h' [.slice V al X] r.2/\Sub h h':=by
 obtain⟨A,i,ay,b4,aG,C,rfl,rfl,ag,a9,ap⟩:=C0 bi
 obtain⟨rfl,bT⟩:=Sl.len ap
 unfold u02 at f
 dsimp only at f
 refine G2 (args:=[.agg #[.int .i64 A,.int .i64 i,.slice ay C.length aG],.int .i64 e]) (fn:=Tryz.f250) rfl ?_
 obtain⟨cg,aU,f⟩:=B0 f
 refine aI (M0 aU) ?_
 obtain⟨cs,aZ,f⟩:=B0 f
 obtain⟨aD,bD,aL,bk⟩:=s5 (F2.rep (p:=Wp.opt.R h) (a:=[.slice none 0 0]) (b:=none) (e0u h) (i.toNat)) aZ
 refine aI aD ?_
 obtain⟨bx,b6,bI,rfl,cd,bf⟩:=bk
 obtain⟨rfl,bV⟩:=Sl.len bf
 intro cn M aQ
 obtain⟨af,aa,rfl,bs,P,b3⟩:=W0.outS (r:=Wp.int.toRp) aQ (show F2 (Wp.int.R h) ([]:List (List Value)) ([]:J0) from trivial)
 refine eX _ (aI aL ?_)
 obtain⟨T,a4,f⟩:=B0 f
 refine eX { vars:=[8],boxes:=[],owns:=[0,2],fuel:=true,kept:=[0] } (eX (λvs os h'=>∃ u8 I u E t,vs.tail = [.int .i64 u8]/\os = [I,E]/\Sub M h'/\H0 u8/\F2 (Wp.opt.R h') I u/\F2 (Wp.int.R h') E t/\n7 A i C (O1 vs) u8 u t=some T) (eX (λ_ _=>0) (aI (eX V0 ⟨0,((List.replicate i.toNat ([.slice none 0 0]:List Value)).set e.toNat [.slice (some ⟨af,0,none⟩) (([]:J0)).length aa]),((List.replicate i.toNat (none:Option J0)).set e.toNat (some ([]:J0))),([[.int .i64 e]]:List (List Value)),[e],rfl,rfl,(Sub.refl _),(by decide),(F2.set (p:=Wp.opt.R M) (a:=[.slice (some ⟨af,0,none⟩) (([]:J0)).length aa]) (b:=some ([]:J0)) (f0u bs) e.toNat (F2.up (r:=Wp.opt.toRp) P (F2.rep (p:=Wp.opt.R h) (a:=[.slice none 0 0]) (b:=none) (e0u h) (i.toNat)))),(show F2 (Wp.int.R M) ([[.int .i64 e]]:List (List Value)) [e] from⟨⟨rfl,ba⟩,trivial⟩),a4⟩) ?_)))
 rintro _ I E G bQ ⟨u8,cy,u,cv,t,⟨⟩,⟨⟩,O,bP,ac,F,d⟩
 replace d:n7 A i C G u8 u t=some T:=d
 obtain _|G:=G
 ·cases d
 rw[n7.eq_2]at d
 obtain⟨bd,aS,d⟩:=B0 d
 obtain rfl:E.length=bd:=(F2.length F).trans (oJ aS)
 obtain⟨ch,bN,d⟩:=B0 d
 refine ifB d (λa6 d=>?_) λa6 d=>?_
 ·obtain⟨aw,aY,d⟩:=B0 d
  obtain⟨aC,bC,aK,bj⟩:=s5 F aY
  refine aI aC ?_
  obtain⟨rfl,bb⟩:=bj
  refine eX _ (aI aK ?_)
  refine trM d (K09 _ _ ag) ?_
  rintro ax d cm bc ⟨bv,b5,bH,rfl,aq,H⟩
  obtain⟨rfl,bU⟩:=Sl.len aq
  obtain⟨S,a3,d⟩:=B0 d
  refine eX { vars:=[36],boxes:=[],owns:=[0,2],fuel:=true,kept:=[0] } (eX (λvs os h'=>∃ k w l x m,vs.tail = [.int .i64 k]/\os = [w,x]/\Sub bc h'/\H0 k/\F2 (Wp.opt.R h') w l/\F2 (Wp.int.R h') x m/\E5 ax A i C aw (O1 vs) k l m=some S) (eX (λ_ _=>0) (aI (eX V0 ⟨0,I,u,E,t,rfl,rfl,(Sub.refl _),(by decide),(F2.up (r:=Wp.opt.toRp) H ac),(F2.up (r:=Wp.int.toRp) H F),a3⟩) ?_)))
  rintro _ w x z ai ⟨k,cw,l,cx,m,⟨⟩,⟨⟩,D,bO,s,y,c⟩
  replace c:E5 ax A i C aw z k l m=some S:=c
  obtain _|z:=z
  ·cases c
  rw[E5.eq_2]at c
  refine ifB c (λa7 c=>?_) λa7 c=>?_
  ·refine ldI c (O0.mono D aq) λj K c=>?_
   refine trV c (c04 _ _ _ (l0 ag a9 (Q0.mono (((P.trans O).trans H).trans D) ap)) _ bb _ K) λg c=>?_
   obtain⟨ci,aV,c⟩:=B0 c
   have ah:H0 g:=M0 aV
   obtain⟨bu,a0,c⟩:=B0 c
   obtain⟨bE,ab,bl⟩:=M03 s a0 (m0v ai)
   refine aI (λq=>(ab q).1) ?_
   obtain⟨bz,b7,bJ,rfl,be,bg⟩:=bl
   obtain⟨rfl,bW⟩:=Sl.len bg
   refine eX _ (aI (λq=>(ab q).2) ?_)
   refine eX (bu.isNone) (aI (λ_=>by rw[←be];exact n0v _ _ _ rfl _ _ _) ?_)
   refine ifB c (λa8 c=>?_) λa8 c=>?_
   ·obtain⟨ct,a1,c⟩:=B0 c
    obtain⟨aE,bF,aM,bm⟩:=s5 s a1
    refine aI aE ?_
    obtain⟨bA,b8,bK,rfl,ce,ao⟩:=bm
    obtain⟨rfl,bX⟩:=Sl.len ao
    refine eX _ (aI aM ?_)
    obtain⟨J,ad,c⟩:=B0 c
    refine Tr.mono (c0f _ _ _ _ _ ao _  ad) ?_
    rintro co L ⟨ad,ca,bL,rfl,Q⟩
    have cl:Sub ai L:=Q.sub
    have bn:=Q.r
    obtain⟨rfl,bY⟩:=Sl.len bn
    obtain⟨cj,aW,c⟩:=B0 c
    obtain⟨bt,bp,aj,az⟩:=New.app Q (Sub.refl _)
    refine eX bt (aI bp (aI (Q1 aW (by first|rw[aj,F2.length (show F2 (Wp.int.R L) ([[.int .i64 j]]:List (List Value)) [j] from⟨⟨rfl,K⟩,trivial⟩)]|(rw[aj];rfl))) ?_))
    intro cr N a5
    obtain⟨n,ae,am,cc,Z,rfl⟩:=az _ _ _ _ _ (F3.ofPlain (E06 _) (show F2 (Wp.int.R L) ([[.int .i64 j]]:List (List Value)) [j] from⟨⟨rfl,K⟩,trivial⟩)) L5.ofPlain a5
    have ar:=n.r
    obtain⟨aO,b0⟩:=Sl.len ar
    subst aO
    obtain⟨cu,a2,c⟩:=B0 c
    obtain⟨aF,bG,aN,bo⟩:=s5 (F2.up (r:=Wp.opt.toRp) n.sub s) a2
    refine aI aF ?_
    obtain⟨bB,cb,bM,rfl,cf,bh⟩:=bo
    obtain⟨rfl,bZ⟩:=Sl.len bh
    refine eX _ (aI aN ?_)
    obtain⟨ck,aX,c⟩:=B0 c
    refine aI (Q1 aX (by first|rw[F2.length (F2.up (r:=Wp.int.toRp) n.sub y),F2.length (show F2 (Wp.int.R N) ([[.int .i64 g]]:List (List Value)) [g] from⟨⟨rfl,ah⟩,trivial⟩)]|exact congrArg (·+1) (F2.length (F2.up (r:=Wp.int.toRp) n.sub y)))) ?_
    exact D2 z ⟨(IntKind.i64.wrap (k+1)),(w.set g.toNat [.slice (some ⟨ae,am,none⟩) (J ++ [j]).length Z]),(l.set g.toNat (some (J ++ [j]))),(x++([[.int .i64 g]]:List (List Value))),(m ++ [g]),rfl,rfl,(D.trans n.sub),(K0 _),(F2.set (p:=Wp.opt.R N) (a:=[.slice (some ⟨ae,am,none⟩) (J ++ [j]).length Z]) (b:=some (J ++ [j])) (f0u ar) g.toNat (F2.up (r:=Wp.opt.toRp) n.sub s)),(F2.append (F2.up (r:=Wp.int.toRp) n.sub y) (show F2 (Wp.int.R N) ([[.int .i64 g]]:List (List Value)) [g] from⟨⟨rfl,ah⟩,trivial⟩)),c⟩
   ·exact D2 z ⟨(IntKind.i64.wrap (k+1)),w,l,x,m,rfl,rfl,D,(K0 _),s,y,c⟩
  ·obtain rfl:=oJ c
   try dsimp only[Y0,C1]at d
   exact D2 G ⟨(IntKind.i64.wrap (u8+1)),w,l,x,m,rfl,rfl,((O.trans H).trans D),(K0 _),s,y,d⟩
 ·obtain rfl:=oJ d
  try dsimp only[Y0,C1]at f
  intro cp bR aP
  obtain⟨aA,aH,rfl,bq,au,b1⟩:=W0.out (r:=Wp.int.toRp) aP F
  intro cq bS aR
  obtain⟨aB,aJ,rfl,br,av,b2⟩:=W0.out (r:=O0.toRp) aR (F2.ofOpt (F2.up (r:=Wp.opt.toRp) au ac))
  obtain rfl:=oJ f
  exact⟨aA,t.length,aH,aB,(List.map (λo:Option J0=>o.getD ([]:J0)) u).length,aJ,rfl,(O0.mono av bq),br,(((P.trans O).trans au).trans av)⟩
theorem U08(h:Hp)(f:List Value)(k:j0)(z:F1.R h f k)(r:J0)(a:c9 k=some r):
  Tr Tryz.prog 245 #[.agg f.toArray] h λv h'=>∃(d:Option Addr) (j e:Nat),v = .slice d j e/\O0.R h' [.slice d j e] r/\Sub h h':=by
 obtain⟨w,x,m,O,p,y,rfl,rfl,g,i,b⟩:=C0 z
 obtain⟨rfl,K⟩:=Sl.len b
 unfold c9 at a
 dsimp only at a
 refine G2 (args:=[.agg #[.int .i64 w,.int .i64 x,.slice m y.length p]]) (fn:=Tryz.f245) rfl ?_
 refine trV a (g01 _ _ _ (l0 g i b)) λU a=>?_
 refine ifB a (λu a=>?_) λu a=>?_
 ·intro S I t
  obtain⟨o,s,rfl,A,D,N⟩:=W0.out (r:=Wp.int.toRp) t (show F2 (Wp.int.R h) ([]:List (List Value)) ([]:J0) from trivial)
  obtain rfl:=oJ a
  exact⟨o,(([]:J0)).length,s,rfl,A,D⟩
 ·refine trM a (V0c _ _ _ (l0 g i b) 0 (by decide)) ?_
  rintro E a T J ⟨n,P,q,G,Q,H,rfl,c,l,C⟩
  obtain⟨F,V⟩:=E
  dsimp only at a c l
  obtain⟨rfl,L⟩:=Sl.len c
  obtain⟨rfl,M⟩:=Sl.len l
  obtain rfl:=oJ a
  exact⟨n,F.length,q,rfl,c,C⟩
theorem l04(h:Hp)(j:List Value)(k:j0)(J:F1.R h j k)(r:j0)(a:I7 k=some r):
  Tr Tryz.prog 175 #[.agg j.toArray] h λv h'=>∃(i:List Value),v = .agg i.toArray/\New F1 h h' i r:=by
 obtain⟨G,H,n,af,p,I,rfl,rfl,c,d,b⟩:=C0 J
 obtain⟨rfl,ab⟩:=Sl.len b
 unfold I7 at a
 dsimp only at a
 refine G2 (args:=[.agg #[.int .i64 G,.int .i64 H,.slice n I.length p]]) (fn:=Tryz.f175) rfl ?_
 refine trV a (g01 _ _ _ (l0 c d b)) λan a=>?_
 refine ifB a (λx a=>?_) λx a=>?_
 ·refine trM a (F4 _ _ _ (l0 c d b)) ?_
  rintro U a al E ⟨w,ah,s,rfl,e⟩
  have aj:Sub h E:=e.sub
  have l:=e.r
  obtain⟨V,W,X⟩:=U
  dsimp only at a e l
  obtain⟨_,_,_,_,_,_,t,u,A,C,M⟩:=C0 l
  cases t
  cases u
  obtain⟨rfl,ad⟩:=Sl.len M
  try dsimp only at a
  have P:=New.sndI (New.sndI (e))
  obtain rfl:=oJ a
  exact⟨([.int .i64 V,.int .i64 W,.slice (some ⟨w,0,none⟩) X.length s]),rfl,(New.pair (New.int A) (New.pair (New.int C) P))⟩
 ·refine Or.inr (Or.inr (Or.inl (aI (aI (by kernel_rfl) (by kernel_rfl)) ?_)))
  refine Or.inr ?_
  refine Or.inr ?_
  refine Or.inr ?_
  refine Or.inl (eX 2 (aI (aI rfl rfl) ?_))
  refine trM a (U08 _ _ _ (l0 c d b)) ?_
  rintro ap a am F ⟨Y,ai,aa,rfl,m,f⟩
  obtain⟨rfl,ae⟩:=Sl.len m
  refine aI (aI rfl f) (aI (by first|exact trivial|exact rfl) ?_)
  refine trM a (O0e _ _ _ (l0 c d (Q0.mono f b)) _ _ _ _ m) ?_
  rintro ao a ak D ⟨Z,rfl,g⟩
  have N:Sub F D:=g.sub
  have K:=g.r
  obtain⟨Q,S,o,ag,q,T,rfl,rfl,y,z,L⟩:=C0 K
  obtain⟨rfl,ac⟩:=Sl.len L
  try dsimp only at a
  have O:=New.sndI (New.sndI (g))
  refine aI (aI rfl N) (aI (by first|exact trivial|exact rfl) ?_)
  refine aT ?_
  obtain rfl:=oJ a
  exact⟨([.int .i64 Q,.int .i64 S,.slice o T.length q]),rfl,(New.pair (New.int y) (New.pair (New.int z) (New.from O f)))⟩
theorem Q07(h:Hp)(al:List Value)(aF:j0)(bN:F1.R h al aF)(r:j0×J0)(c:g8 aF=some r):
  Tr Tryz.prog 174 #[.agg al.toArray] h λv h'=>∃(ak:List Value) (ai:Option Addr) (aE aj:Nat),v = .tuple #[.agg ak.toArray,.slice ai aE aj]/\New F1 h h' ak r.1/\O0.R h' [.slice ai aE aj] r.2:=by
 obtain⟨bJ,U,aV,cu,a3,bK,rfl,rfl,av,aw,V⟩:=C0 bN
 obtain⟨rfl,ck⟩:=Sl.len V
 unfold g8 at c
 dsimp only at c
 refine G2 (args:=[.agg #[.int .i64 bJ,.int .i64 U,.slice aV bK.length a3]]) (fn:=Tryz.f174) rfl ?_
 refine trM c (F4 _ _ _ (l0 av aw V)) ?_
 rintro b3 c cI H ⟨aq,cv,am,rfl,N⟩
 have X:Sub h H:=N.sub
 have aH:=N.r
 obtain⟨aO,aP,ab⟩:=b3
 dsimp only at c N aH
 obtain⟨_,_,_,_,_,_,a8,ba,aA,aB,bO⟩:=C0 aH
 cases a8
 cases ba
 obtain⟨rfl,cm⟩:=Sl.len bO
 try dsimp only at c
 have aL:=New.sndI (New.sndI (N))
 refine trV c (S00 _ _ _ (l0 av aw (Q0.mono X V))) λcP c=>?_
 refine ifB c (λbv c=>?_) λbv c=>?_
 ·intro cM ch bd
  obtain⟨aY,a5,rfl,bT,bY,cp⟩:=W0.out (r:=Wp.int.toRp) bd (show F2 (Wp.int.R H) ([]:List (List Value)) ([]:J0) from trivial)
  obtain rfl:=oJ c
  exact⟨([.int .i64 aO,.int .i64 aP,.slice (some ⟨aq,0,none⟩) ab.length am]),aY,(([]:J0)).length,a5,rfl,(New.pair (New.int aA) (New.pair (New.int aB) (New.mono aL bY))),bT⟩
 ·obtain⟨ae,bk,c⟩:=B0 c
  refine eX { vars:=[6],boxes:=[],owns:=[0],fuel:=true } (eX (λvs os h'=>∃ f M m,vs.tail = [.int .i64 f]/\os = [M]/\Sub H h'/\H0 f/\F2 (Wp.int.R h') M m/\J6 U (O1 vs) f m=some ae) (eX (λ_ _=>0) (aI (eX V0 ⟨0,[],([]:J0),rfl,rfl,(Sub.refl _),(by decide),(show F2 (Wp.int.R H) ([]:List (List Value)) ([]:J0) from trivial),bk⟩) ?_)))
  rintro _ M I aC ⟨f,cR,m,⟨⟩,⟨⟩,L,ax,t,a⟩
  replace a:J6 U I f m=some ae:=a
  obtain _|I:=I
  ·cases a
  rw[J6.eq_2]at a
  refine ifB a (λbp a=>?_) λbp a=>?_
  ·obtain⟨cz,be,a⟩:=B0 a
   refine aI (Q1 be (by first|rw[F2.length t,F2.length (show F2 (Wp.int.R aC) ([[.int .i64 f]]:List (List Value)) [f] from⟨⟨rfl,ax⟩,trivial⟩)]|exact congrArg (·+1) (F2.length t))) ?_
   exact D2 I ⟨(IntKind.i64.wrap (f+1)),(M++([[.int .i64 f]]:List (List Value))),(m ++ [f]),rfl,rfl,L,(K0 _),(F2.append t (show F2 (Wp.int.R aC) ([[.int .i64 f]]:List (List Value)) [f] from⟨⟨rfl,ax⟩,trivial⟩)),a⟩
  ·obtain rfl:=oJ a
   try dsimp only[Y0,C1]at c
   obtain⟨af,bl,c⟩:=B0 c
   refine eX { vars:=[5],boxes:=[2],owns:=[],fuel:=true,pubs:=[5] } (eX (λvs os h'=>∃(C:Option Addr) (S s:Nat) (z:J0) (j:Int) (g:Int) (D:Option Addr) (T E:Nat) (n:Z0),vs.tail = [.slice C S s,.int .i64 j,.int .i64 g,.slice D T E]/\os = []/\Sub h h'/\New O0 h h' [.slice C S s] z/\H0 j/\H0 g/\New Q0 h h' [.slice D T E] n/\Z5 (O1 vs) z j g n=some af) (eX (λ_ _=>0) ?_))
   intro cH cf ap
   obtain⟨aZ,a6,rfl,cE,aK,cq⟩:=W0.out (r:=Wp.int.toRp) ap t
   refine aI (eX V0 ⟨aZ,m.length,a6,m,aO,aP,(some ⟨aq,0,none⟩),ab.length,am,ab,rfl,rfl,((X.trans L).trans aK),(New.from (W0.newPlain (r:=Wp.int) ap t (E06 _)) (X.trans L)),aA,aB,(New.mono aL (L.trans aK)),bl⟩) ?_
   rintro _ _ _ _ J cg ⟨C,S,s,z,j,g,D,T,E,n,⟨⟩,⟨⟩,cG,aM,F,G,aN,a⟩
   replace a:Z5 J z j g n=some af:=a
   obtain _|J:=J
   ·cases a
   rw[Z5.eq_2]at a
   have aG:=aM.r
   obtain⟨rfl,bF⟩:=Sl.len aG
   have K:=aN.r
   obtain⟨rfl,cl⟩:=Sl.len K
   refine trM a (r0a _ _ _ (l0 F G K) 0 (by decide)) ?_
   rintro aQ a cJ bB ⟨b7,cw,cc,rfl,aJ,o⟩
   obtain⟨rfl,cn⟩:=Sl.len aJ
   obtain⟨ag,bm,a⟩:=B0 a
   refine eX { vars:=[8,9],boxes:=[],owns:=[],fuel:=true } (eX (λvs os h'=>∃ k l,vs.tail = [.int .i64 k,.int .i64 l]/\os = []/\Sub bB h'/\H0 k/\H0 l/\J4 g j n aQ (O1 vs) k l=some ag) (eX (λ_ _=>0) (aI (eX V0 ⟨0,1,rfl,rfl,(Sub.refl _),(by decide),(by decide),bm⟩) ?_)))
   rintro _ _ w Q ⟨k,l,⟨⟩,⟨⟩,i,bx,ay,b⟩
   replace b:J4 g j n aQ w k l=some ag:=b
   obtain _|w:=w
   ·cases b
   rw[J4.eq_2]at b
   refine ifB b (λbq b=>?_) λbq b=>?_
   ·refine trV b (b0f _ _ _ (l0 F G (Q0.mono (o.trans i) K)) _ ay) λb4 b=>?_
    obtain⟨cA,bf,b⟩:=B0 b
    have ce:H0 b4:=M0 bf
    obtain⟨cO,bi,b⟩:=B0 b
    obtain⟨ca,ao,bP⟩:=Sl.getG (r:=Wp.bool.toRp) ((Wp.slice Wp.bool).mono i aJ) bi (by decide) (v0u Q)
    refine aI (λq=>(ao q).1) ?_
    obtain rfl:=bP
    refine eX _ (aI (λq=>(ao q).2) ?_)
    refine ifB b (λbr b=>?_) λbr b=>?_
    ·exact D2 w ⟨l,(IntKind.i64.wrap (l+1)),rfl,rfl,i,ay,(K0 _),b⟩
    ·exact D2 w ⟨k,(IntKind.i64.wrap (l+1)),rfl,rfl,i,bx,(K0 _),b⟩
   ·obtain rfl:=oJ b
    try dsimp only[Y0,C1]at a
    refine ifB a (λbs a=>?_) λbs a=>?_
    ·obtain rfl:=oJ a
     try dsimp only[M2,N2]at c
     obtain rfl:=oJ c
     exact⟨([.int .i64 j,.int .i64 g,.slice D n.length E]),C,z.length,s,rfl,(New.pair (New.int F) (New.pair (New.int G) (New.mono aN (o.trans i)))),(O0.mono (o.trans i) aG)⟩
    ·obtain⟨ah,bn,a⟩:=B0 a
     refine eX { vars:=[11],boxes:=[],owns:=[1],fuel:=true } (eX (λvs os h'=>∃ d A p,vs.tail = [.int .i64 d]/\os = [A]/\Sub Q h'/\H0 d/\F2 (Wp.int.R h') A p/\Y5 g k (O1 vs) d p=some ah) (eX (λ_ _=>0) (aI (eX V0 ⟨0,[],([]:J0),rfl,rfl,(Sub.refl _),(by decide),(show F2 (Wp.int.R Q) ([]:List (List Value)) ([]:J0) from trivial),bn⟩) ?_)))
     rintro _ A x aD ⟨d,cS,p,⟨⟩,⟨⟩,y,az,u,b⟩
     replace b:Y5 g k x d p=some ah:=b
     obtain _|x:=x
     ·cases b
     rw[Y5.eq_2]at b
     refine ifB b (λbt b=>?_) λbt b=>?_
     ·refine ifB b (λbu b=>?_) λbu b=>?_
      ·obtain⟨cC,bg,b⟩:=B0 b
       refine aI (Q1 bg (by first|rw[F2.length u,F2.length (show F2 (Wp.int.R aD) ([[.int .i64 d]]:List (List Value)) [d] from⟨⟨rfl,az⟩,trivial⟩)]|exact congrArg (·+1) (F2.length u))) ?_
       exact D2 x ⟨(IntKind.i64.wrap (d+1)),(A++([[.int .i64 d]]:List (List Value))),(p ++ [d]),rfl,rfl,y,(K0 _),(F2.append u (show F2 (Wp.int.R aD) ([[.int .i64 d]]:List (List Value)) [d] from⟨⟨rfl,az⟩,trivial⟩)),b⟩
      ·exact D2 x ⟨(IntKind.i64.wrap (d+1)),A,p,rfl,rfl,y,(K0 _),u,b⟩
     ·obtain rfl:=oJ b
      try dsimp only[Y0,C1]at a
      refine Or.inl ?_
      intro cK bC bc
      obtain⟨b8,cd,rfl,bU,Y,cr⟩:=W0.out (r:=Wp.int.toRp) bc u
      refine trM a (O0e _ _ _ (l0 F G (Q0.mono (((o.trans i).trans y).trans Y) K)) _ _ _ _ bU) ?_
      rintro cQ a cL bD ⟨cb,rfl,Z⟩
      have bW:Sub bC bD:=Z.sub
      have bQ:=Z.r
      obtain⟨b5,b6,aX,cx,a4,aR,rfl,rfl,bz,bA,bR⟩:=C0 bQ
      obtain⟨rfl,co⟩:=Sl.len bR
      try dsimp only at a
      have b1:=New.sndI (New.sndI (Z))
      obtain⟨ac,ar,a⟩:=B0 a
      obtain⟨ad,au,a⟩:=B0 a
      obtain⟨cD,bh,a⟩:=B0 a
      obtain⟨bL,a1,an,bj,bI,aS,aU,bZ,b0,a9,bM,a2,cj,ct,bS,bX,bG,bH,aW⟩:=New.drop aM ((((o.trans i).trans y).trans Y).trans bW) ar au (L0u bF ar au)
      subst a9
      refine Or.inr (Or.inr (Or.inl (aI (aI (by kernel_rfl) (by kernel_rfl)) ?_)))
      refine Or.inl (eX (.val (.slice (some ⟨bj,bI,none⟩) ac.length s)) (aI ?_ ?_))
      ·intro O W
       obtain⟨vs,e⟩:=an O W
       exact aI a1 (eX vs (aI e (λv _ P=>aI (congrArg AV.val (bL v P)) (aI rfl rfl))))
      refine Or.inl (eX (.val (.slice aS ad.length aU)) (aI ?_ ?_))
      ·intro O W
       obtain⟨vs,e⟩:=an O W
       exact aI a2 (eX vs (aI e (λv _ P=>aI (congrArg AV.val (bM v P)) (aI rfl rfl))))
      refine Or.inr ?_
      refine Or.inl (eX 0 (aI (aI rfl rfl) ?_))
      refine eX b0 (aI bX (eX bZ (aI bS (aI (Q1 bh (by rw[bG,bH])) ?_))))
      intro cN ci bo
      obtain⟨aa,⟨a0,cy,a7,rfl⟩,bE⟩:=aW _ _ bo
      have bV:=aa.r
      obtain⟨bb,cs⟩:=Sl.len bV
      subst bb
      refine aT ?_
      have b2:=bE I1.slice _ _ _ b1 (((o.trans i).trans y).trans Y)
      exact D2 J ⟨a0,(ac++ad).length,a7,(ac++ad),b5,b6,aX,aR.length,a4,aR,rfl,rfl,aa.sub,aa,bz,bA,b2,a⟩
theorem f07(h:Hp)(n:List Value)(o:j0)(T:F1.R h n o)(r:Bool)(a:p00 o=some r):
  Tr Tryz.prog 115 #[.agg n.toArray] h λv h'=>v = .bool r/\h'=h:=by
 obtain⟨Q,p,y,aC,A,S,rfl,rfl,f,g,b⟩:=C0 T
 obtain⟨rfl,ay⟩:=Sl.len b
 unfold p00 at a
 dsimp only at a
 refine Tr.forget (G2 (args:=[.agg #[.int .i64 Q,.int .i64 p,.slice y S.length A]]) (fn:=Tryz.f115) rfl ?_)
 refine trV a (g01 _ _ _ (l0 f g b)) λaJ a=>?_
 refine ifB a (λI a=>?_) λI a=>?_
 ·obtain rfl:=oJ a
  exact aI rfl (Sub.refl _)
 ·refine trM a (Q07 _ _ _ (l0 f g b)) ?_
  rintro ac a aH O ⟨ai,ag,aE,al,rfl,m,s⟩
  obtain⟨aK,aN⟩:=ac
  dsimp only at a m s
  have l:Sub h O:=m.sub
  have U:=m.r
  obtain⟨aL,ad,af,aD,ak,aM,rfl,rfl,ap,aq,V⟩:=C0 U
  obtain⟨rfl,az⟩:=Sl.len V
  try dsimp only at a
  obtain⟨rfl,aA⟩:=Sl.len s
  refine Or.inr (Or.inr (Or.inr (Or.inl (aI (aI (by kernel_rfl) (by kernel_rfl)) ?_))))
  refine Or.inl (eX (.val (.bool (decide (ad=p)))) (aI ?_ ?_))
  ·intro av aG
   exact aI rfl (aI rfl rfl)
  obtain⟨ae,H,a⟩:=B0 a
  obtain⟨w,x,i⟩:=ae
  try dsimp only at a
  refine Or.inr (eX (λv J=>∃(c:Option Addr) (d:Nat),v = .agg #[.int .i64 w,.int .i64 x,.slice c i.length d]/\H0 w/\H0 x/\Q0.R J [.slice c i.length d] i/\i.length<=9223372036854775807) (aI (λv an ao k q=>by obtain⟨c,d,e,E,F,f2,f3⟩:=q;exact⟨c,d,e,E,F,Q0.mono k f2,f3⟩) (aI ?_ ?_)))
  ·intro aw Y j
   refine Tr.mono (l04 _ _ _ (l0 f g (Q0.mono (l.trans Y) b)) _ (D00 H j)) ?_
   rintro _ ax ⟨aj,rfl,u⟩
   have k:=u.sub
   have W:=u.r
   obtain⟨aO,aP,z,aF,C,aQ,rfl,D,K,L,t⟩:=C0 W
   cases D
   obtain⟨rfl,P⟩:=Sl.len t
   exact aI y03 (aI k ⟨z,C,rfl,K,L,t,P⟩)
  obtain⟨ab,G,a⟩:=B0 a
  refine Or.inl (eX (.val (.bool ab)) (aI ?_ ?_))
  ·intro ar Z j
   rintro _ ⟨ah,am,rfl,M,N,X,aB⟩
   exact Tr.val (y0b _ _ _ (l0 M N X) _ _ (l0 f g (Q0.mono (l.trans Z) b)) _ (D00 G j)) (aI rfl (aI rfl rfl))
  intro au aa
  obtain rfl:=oJ a
  exact aI rfl (l.trans aa)
set_option maxHeartbeats 0
theorem j06(h:Hp)(U:List Value)(ah:D0)(cm:T1.R h U ah)(V:List Value)(aj:j0)(cn:F1.R h V aj)(r:j0×Bool×Bool)(a:t9 ah aj=some r):
  Tr Tryz.prog 72 #[.agg U.toArray,.agg V.toArray] h λv h'=>∃(T:List Value),v = .tuple #[.agg T.toArray,.bool r.2.1,.bool r.2.2]/\F1.R h' T r.1/\Sub h h':=by
 obtain⟨cj,O,e3,S,ai,rfl,rfl,aa,D⟩:=J1 cm
 obtain⟨rfl,eK⟩:=Sl.len D
 obtain⟨ck,A,aK,e4,a2,cl,rfl,rfl,k,f,i⟩:=C0 cn
 obtain⟨rfl,eM⟩:=Sl.len i
 unfold t9 at a
 dsimp only at a
 refine G2 (args:=[.agg #[.int .i64 cj,.slice O ai.length S],.agg #[.int .i64 ck,.int .i64 A,.slice aK cl.length a2]]) (fn:=Tryz.f72) rfl ?_
 refine trV a (g9 _ _ _ (S0 aa D)) λfK a=>?_
 refine trG a (λq=>f01 _ _ _ (l0 k f i)) λfL a=>?_
 refine ifB a (λbu a=>?_) λbu a=>?_
 ·refine trM a (Q4 _ _ _ (l0 k f i)) ?_
  rintro fP a fF cc ⟨dN,rfl,aB⟩
  have cO:Sub h cc:=aB.sub
  have cq:=aB.r
  obtain⟨di,dj,aQ,fd,a8,dk,rfl,rfl,bL,bM,ar⟩:=C0 cq
  obtain⟨rfl,eV⟩:=Sl.len ar
  try dsimp only at a
  obtain rfl:=oJ a
  exact⟨([.int .i64 di,.int .i64 dj,.slice aQ dk.length a8]),rfl,(l0 bL bM ar),cO⟩
 ·obtain⟨dm,br,a⟩:=B0 a
  obtain⟨dn,aJ⟩:=dm
  try dsimp only at a
  refine Tr.val (h06 _ _ _ (S0 aa D) _ _ (l0 k f i) _  br) ?_
  obtain⟨fj,bk,a⟩:=B0 a
  have ad:H0 dn:=M0 bk
  obtain⟨fk,bl,a⟩:=B0 a
  have em:H0 aJ:=M0 bl
  refine ifB a (λbt a=>?_) λbt a=>?_
  ·refine Or.inr (Or.inr (Or.inr (Or.inr (eX 13 (aI (aI (by kernel_rfl) (by kernel_rfl)) ?_)))))
   obtain⟨cT,bm,a⟩:=B0 a
   obtain⟨aX,dJ,be,G⟩:=Sl.getI (r:=O0.toRp) D bm (by decide)
   obtain⟨aL,e5,a3,rfl⟩:=Wp.slice_cell G
   obtain⟨rfl,eN⟩:=Sl.len G
   refine Or.inl (eX (.hel (.slice O ai.length S) aJ 1 0) (aI ?_ ?_))
   ·intro ep fm
    exact aI aX (aI rfl (aI rfl rfl))
   refine Or.inl (eX (.val (.slice aL cT.length a3)) (aI ?_ ?_))
   ·intro eq cH
    exact eX _ (aI (J7.up cH be) (aI rfl (aI rfl rfl)))
   obtain⟨cU,bn,a⟩:=B0 a
   obtain⟨cV,N⟩:=cU
   try dsimp only at a
   obtain⟨p,s,d⟩:=cV
   try dsimp only at a
   refine Or.inr (eX (λv j=>∃(o:Value),v = .tuple #[o,.bool N]/\(λv j=>∃(b:Option Addr) (c:Nat),v = .agg #[.int .i64 p,.int .i64 s,.slice b d.length c]/\H0 p/\H0 s/\Q0.R j [.slice b d.length c] d/\d.length<=9223372036854775807) o j) (aI (λv Y Z n q=>by obtain⟨o,e,F⟩:=q;exact⟨o,e,(by obtain⟨b,c,e,y,z,f2,f3⟩:=F;exact⟨b,c,e,y,z,Q0.mono n f2,f3⟩)⟩) (aI ?_ ?_)))
   ·intro er az
    refine Tr.mono (L09 _ _ _ (l0 k f (Q0.mono az i)) _ ad _ _ _ _ (O0.mono az G) _ ad _ bn) ?_
    rintro _ eJ ⟨dK,rfl,co,n⟩
    obtain⟨go,gp,P,fi,W,gq,rfl,bj,bY,bZ,ay⟩:=C0 co
    cases bj
    obtain⟨rfl,cg⟩:=Sl.len ay
    exact aI y03 (aI n ⟨(.agg #[.int .i64 p,.int .i64 s,.slice P d.length W]),rfl,⟨P,W,rfl,bY,bZ,ay,cg⟩⟩)
   refine Or.inr (eX (λv j=>∃(o:Value),v = .tuple #[o,.bool N]/\(λv j=>∃(b:Option Addr) (c:Nat),v = .agg #[.int .i64 p,.int .i64 s,.slice b d.length c]/\H0 p/\H0 s/\Q0.R j [.slice b d.length c] d/\d.length<=9223372036854775807) o j) (aI (λv Y Z n q=>by obtain⟨o,e,F⟩:=q;exact⟨o,e,(by obtain⟨b,c,e,y,z,f2,f3⟩:=F;exact⟨b,c,e,y,z,Q0.mono n f2,f3⟩)⟩) (aI ?_ ?_)))
   ·intro es fo
    rintro _ ⟨_,rfl,⟨Q,X,rfl,b0,b1,cD,ch⟩⟩
    exact aI y03 (aI (Sub.refl _) ⟨(.agg #[.int .i64 p,.int .i64 s,.slice Q d.length X]),rfl,⟨Q,X,rfl,b0,b1,cD,ch⟩⟩)
   refine Or.inr (eX (λv j=>∃(b:Option Addr) (c:Nat),v = .agg #[.int .i64 p,.int .i64 s,.slice b d.length c]/\H0 p/\H0 s/\Q0.R j [.slice b d.length c] d/\d.length<=9223372036854775807) (aI (λv Y Z n q=>by obtain⟨b,c,e,y,z,f2,f3⟩:=q;exact⟨b,c,e,y,z,Q0.mono n f2,f3⟩) (aI ?_ ?_)))
   ·intro et fp
    rintro _ ⟨_,rfl,⟨aW,bd,rfl,b2,b3,cE,ci⟩⟩
    exact aI y03 (aI (Sub.refl _) ⟨aW,bd,rfl,b2,b3,cE,ci⟩)
   refine Or.inl (eX (.val (.bool N)) (aI ?_ ?_))
   ·intro eu fq
    rintro _ ⟨_,rfl,⟨dH,d3,rfl,en,eo,fl,e1⟩⟩
    exact aI rfl (aI rfl rfl)
   intro b6 I
   rintro _ ⟨dI,d4,rfl,b4,b5,cG,e2⟩
   rintro _ _
   rintro _ _
   refine ifB a (λbv a=>?_) λbv a=>?_
   ·refine trM a (Q4 _ _ _ (l0 k f (Q0.mono I i))) ?_
    rintro fM a fz b7 ⟨dL,rfl,aA⟩
    have cM:Sub b6 b7:=aA.sub
    have cp:=aA.r
    obtain⟨cW,cX,aM,e6,a4,cY,rfl,rfl,bD,bE,ak⟩:=C0 cp
    obtain⟨rfl,eO⟩:=Sl.len ak
    try dsimp only at a
    obtain rfl:=oJ a
    exact⟨([.int .i64 cW,.int .i64 cX,.slice aM cY.length a4]),rfl,(l0 bD bE ak),(I.trans cM)⟩
   ·refine trM a (d04 _ _ _ (l0 b4 b5 cG)) ?_
    rintro cZ a fA ew ⟨dM,dF,e8,d1,rfl,al,an,cN⟩
    obtain⟨fN,fO⟩:=cZ
    dsimp only at a al an
    obtain⟨c0,c1,aN,e7,a5,c2,rfl,rfl,bF,bG,am⟩:=C0 al
    obtain⟨rfl,eP⟩:=Sl.len am
    try dsimp only at a
    obtain⟨rfl,eQ⟩:=Sl.len an
    obtain rfl:=oJ a
    exact⟨([.int .i64 c0,.int .i64 c1,.slice aN c2.length a5]),rfl,(l0 bF bG am),(I.trans cN)⟩
  ·refine trM a (s0a _ _ _ (l0 k f i)) ?_
   rintro x a fB b8 ⟨t,e9,u,rfl,w,m⟩
   obtain⟨rfl,eR⟩:=Sl.len w
   refine ifB a (λbx a=>?_) λbx a=>?_
   ·refine trM a (Q4 _ _ _ (l0 k f (Q0.mono m i))) ?_
    rintro fQ a fC ca ⟨dO,rfl,aC⟩
    have cP:Sub b8 ca:=aC.sub
    have cr:=aC.r
    obtain⟨c3,db,aO,fa,a6,dc,rfl,rfl,bH,bI,ao⟩:=C0 cr
    obtain⟨rfl,eS⟩:=Sl.len ao
    try dsimp only at a
    obtain rfl:=oJ a
    exact⟨([.int .i64 c3,.int .i64 db,.slice aO dc.length a6]),rfl,(l0 bH bI ao),(m.trans cP)⟩
   ·refine trM a (f0e _ _ _ (l0 k f (Q0.mono m i))) ?_
    rintro dd a fD cb ⟨dP,rfl,ap,g⟩
    obtain⟨fR,fV⟩:=dd
    dsimp only at a ap
    obtain⟨fS,fT,dG,fb,d2,fU,rfl,rfl,ab,ac,H⟩:=C0 ap
    obtain⟨rfl,eT⟩:=Sl.len H
    try dsimp only at a
    refine ifB a (λbz a=>?_) λbz a=>?_
    ·refine trM a (Q4 _ _ _ (l0 k f (Q0.mono (m.trans g) i))) ?_
     rintro fW a fE cd ⟨dQ,rfl,aD⟩
     have cQ:Sub cb cd:=aD.sub
     have cs:=aD.r
     obtain⟨df,dg,aP,fc,a7,dh,rfl,rfl,bJ,bK,aq⟩:=C0 cs
     obtain⟨rfl,eU⟩:=Sl.len aq
     try dsimp only at a
     obtain rfl:=oJ a
     exact⟨([.int .i64 df,.int .i64 dg,.slice aP dh.length a7]),rfl,(l0 bJ bK aq),((m.trans g).trans cQ)⟩
    ·refine Or.inr (Or.inr (Or.inr (Or.inr (eX 12 (aI (aI (by kernel_rfl) (by kernel_rfl)) ?_)))))
     obtain⟨fX,bo,a⟩:=B0 a
     obtain⟨aY,dR,bf,ct⟩:=Sl.getI (r:=I1.toRp) (Q0.mono g w) bo (by decide)
     obtain⟨aG,fY,fZ,rfl,rfl,bN,ea,eb⟩:=U1 ct
     try dsimp only at a
     refine Or.inl (eX (.hel (.slice t x.length u) 0 3 0) (aI ?_ ?_))
     ·intro ex fs
      exact aI aY (aI rfl (aI rfl rfl))
     refine Or.inl (eX (.val (.int .i64 aG)) (aI ?_ ?_))
     ·intro ey cI
      exact eX _ (aI (J7.up cI bf) (aI rfl (aI rfl rfl)))
     obtain⟨f0,bp,a⟩:=B0 a
     obtain⟨aZ,dS,bg,cu⟩:=Sl.getI (r:=I1.toRp) (Q0.mono g w) bp (by decide)
     obtain⟨f1,aH,f5,rfl,rfl,ec,bO,ed⟩:=U1 cu
     try dsimp only at a
     refine Or.inl (eX (.hel (.slice t x.length u) 0 3 0) (aI ?_ ?_))
     ·intro ez ft
      exact aI aZ (aI rfl (aI rfl rfl))
     refine Or.inl (eX (.val (.int .i64 aH)) (aI ?_ ?_))
     ·intro eA cJ
      exact eX _ (aI (J7.up cJ bg) (aI rfl (aI rfl rfl)))
     refine Or.inl (eX (.agg [.val (.int .i64 aG),.val (.int .i64 aH),.val (.int .i64 A)]) (aI ?_ ?_))
     ·intro eC fu
      exact aI rfl (aI rfl rfl)
     intro ae l
     refine ld a (Q0.mono (g.trans l) w) λf6 dT cv a=>?_
     obtain⟨f7,f9,ga,rfl,rfl,ee,ef,eg⟩:=U1 cv
     try dsimp only at a
     refine ifB a (λbA a=>?_) λbA a=>?_
     ·refine Or.inr (Or.inr (Or.inl (aI (aI (by kernel_rfl) (by kernel_rfl)) ?_)))
      obtain⟨gb,bq,a⟩:=B0 a
      obtain⟨a0,dU,bh,cw⟩:=Sl.getI (r:=I1.toRp) (Q0.mono (g.trans l) w) bq (by decide)
      obtain⟨gc,C,gd,rfl,rfl,eh,ei,ej⟩:=U1 cw
      try dsimp only at a
      refine Or.inl (eX (.hel (.slice t x.length u) 0 3 0) (aI ?_ ?_))
      ·intro eD fv
       exact aI a0 (aI rfl (aI rfl rfl))
      refine Or.inl (eX (.hel (.slice t x.length u) 0 3 1) (aI ?_ ?_))
      ·intro j n
       exact aI rfl (aI rfl rfl)
      refine Or.inl (eX (.val (.int .i64 C)) (aI ?_ ?_))
      ·intro eE cK
       exact eX _ (aI (J7.up cK bh) (aI rfl (aI rfl rfl)))
      refine Or.inl (eX (.val (.int .i64 (IntKind.i64.wrap (0-C)))) (aI ?_ ?_))
      ·intro eF fw
       exact aI rfl (aI rfl rfl)
      obtain⟨ge,bs,a⟩:=B0 a
      obtain⟨a1,dV,bi,cx⟩:=Sl.getI (r:=I1.toRp) (Q0.mono (g.trans l) w) bs (by decide)
      obtain⟨E,gf,gg,rfl,rfl,bP,ek,el⟩:=U1 cx
      try dsimp only at a
      refine Or.inl (eX (.hel (.slice t x.length u) 0 3 0) (aI ?_ ?_))
      ·intro eG fx
       exact aI a1 (aI rfl (aI rfl rfl))
      refine Or.inl (eX (.hel (.slice t x.length u) 0 3 0) (aI ?_ ?_))
      ·intro j n
       exact aI rfl (aI rfl rfl)
      refine Or.inl (eX (.val (.int .i64 E)) (aI ?_ ?_))
      ·intro eH cL
       exact eX _ (aI (J7.up cL bi) (aI rfl (aI rfl rfl)))
      refine Or.inl (eX (.agg [.val (.int .i64 A),.val (.int .i64 (IntKind.i64.wrap (0-C))),.val (.int .i64 E)]) (aI ?_ ?_))
      ·intro eI fy
       exact aI rfl (aI rfl rfl)
      refine Or.inr ?_
      refine Or.inl (eX 0 (aI (aI rfl rfl) ?_))
      refine aT ?_
      refine trM a (j5 _ _ _ (l0 ab ac (Q0.mono l H)) [.int .i64 A,.int .i64 (IntKind.i64.wrap (0-C)),.int .i64 E] (A,(IntKind.i64.wrap (0-C)),E) (D1 f (K0 _) bP)) ?_
      rintro dq a fG af ⟨dW,rfl,L⟩
      obtain⟨gh,gj⟩:=dq
      dsimp only at a L
      have J:Sub ae af:=L.sub
      have cy:=L.r
      obtain⟨ds,dt,aR,fe,a9,du,rfl,rfl,bQ,bR,au⟩:=C0 cy
      obtain⟨rfl,eW⟩:=Sl.len au
      try dsimp only at a
      refine ifB a (λbB a=>?_) λbB a=>?_
      ·refine trM a (Q4 _ _ _ (l0 k f (Q0.mono (((m.trans g).trans l).trans J) i))) ?_
       rintro gk a fH ce ⟨dX,rfl,aE⟩
       have cR:Sub af ce:=aE.sub
       have cz:=aE.r
       obtain⟨dv,dw,aS,ff,ba,dx,rfl,rfl,bS,bT,av⟩:=C0 cz
       obtain⟨rfl,eY⟩:=Sl.len av
       try dsimp only at a
       obtain rfl:=oJ a
       exact⟨([.int .i64 dv,.int .i64 dw,.slice aS dx.length ba]),rfl,(l0 bS bT av),((((m.trans g).trans l).trans J).trans cR)⟩
      ·obtain rfl:=oJ a
       exact⟨([.int .i64 ds,.int .i64 dt,.slice aR du.length a9]),rfl,(l0 bQ bR au),(((m.trans g).trans l).trans J)⟩
     ·refine trM a (j5 _ _ _ (l0 ab ac (Q0.mono l H)) _ _ (D1 bN bO f)) ?_
      rintro dy a fI ag ⟨dY,rfl,M⟩
      obtain⟨gl,gm⟩:=dy
      dsimp only at a M
      have K:Sub ae ag:=M.sub
      have cA:=M.r
      obtain⟨dz,dA,aU,fg,bb,dB,rfl,rfl,bU,bV,aw⟩:=C0 cA
      obtain⟨rfl,eZ⟩:=Sl.len aw
      try dsimp only at a
      refine ifB a (λbC a=>?_) λbC a=>?_
      ·refine trM a (Q4 _ _ _ (l0 k f (Q0.mono (((m.trans g).trans l).trans K) i))) ?_
       rintro gn a fJ cf ⟨dZ,rfl,aF⟩
       have cS:Sub ag cf:=aF.sub
       have cC:=aF.r
       obtain⟨dC,dD,aV,fh,bc,dE,rfl,rfl,bW,bX,ax⟩:=C0 cC
       obtain⟨rfl,e0⟩:=Sl.len ax
       try dsimp only at a
       obtain rfl:=oJ a
       exact⟨([.int .i64 dC,.int .i64 dD,.slice aV dE.length bc]),rfl,(l0 bW bX ax),((((m.trans g).trans l).trans K).trans cS)⟩
      ·obtain rfl:=oJ a
       exact⟨([.int .i64 dz,.int .i64 dA,.slice aU dB.length bb]),rfl,(l0 bU bV aw),(((m.trans g).trans l).trans K)⟩
theorem N09(h:Hp)(b:Int)(f:H0 b)(c:Int)(j:H0 c)(d:Int)(g:H0 d)(r:N0)(a:C02 b c d=some r):
  Tr Tryz.prog 153 #[.int .i64 b,.int .i64 c,.int .i64 d] h λv h'=>∃(e:List Value),v = .agg e.toArray/\I1.R h' e r/\Sub h h':=by
 unfold C02 at a
 refine G2 (args:=[.int .i64 b,.int .i64 c,.int .i64 d]) (fn:=Tryz.f153) rfl ?_
 refine ifB a (λi a=>?_) λi a=>?_
 ·obtain rfl:=oJ a
  exact⟨([.int .i64 d,.int .i64 (IntKind.i64.wrap (0-c)),.int .i64 b]),rfl,(D1 g (K0 _) f),(Sub.refl _)⟩
 ·obtain rfl:=oJ a
  exact⟨([.int .i64 b,.int .i64 c,.int .i64 d]),rfl,(D1 f j g),(Sub.refl _)⟩
theorem S02(h:Hp)(k:Option Addr)(o l:Nat)(d:Z0)(q:Q0.R h [.slice k o l] d)(n:List Value)(p:N0)(w:I1.R h n p)(r:Int)(b:w5 d p=some r):
  Tr Tryz.prog 247 #[.slice k o l,.agg n.toArray] h λv h'=>v = .int .i64 r/\h'=h:=by
 obtain⟨rfl,L⟩:=Sl.len q
 obtain⟨f,g,i,rfl,rfl,D,E,F⟩:=U1 w
 unfold w5 at b
 dsimp only at b
 refine Tr.forget (G2 (args:=[.slice k d.length l,.agg #[.int .i64 f,.int .i64 g,.int .i64 i]]) (fn:=Tryz.f247) rfl ?_)
 obtain⟨m,s,b⟩:=B0 b
 refine eX { vars:=[8],boxes:=[],owns:=[],fuel:=true } (eX (λvs os h'=>∃ c,vs.tail = [.int .i64 c]/\os = []/\Sub h h'/\H0 c/\Z1 d f g i (O1 vs) c=some m) (eX (λ_ _=>0) (aI (eX V0 ⟨0,rfl,rfl,(Sub.refl _),(by decide),s⟩) ?_)))
 rintro _ e K ⟨c,⟨⟩,⟨⟩,j,G,a⟩
 replace a:Z1 d f g i e c=some m:=a
 obtain _|e:=e
 ·cases a
 rw[Z1.eq_2]at a
 refine ifB a (λt a=>?_) λt a=>?_
 ·refine Or.inl (aI (aI (by kernel_rfl) (by kernel_rfl)) ?_)
  refine ld a (Q0.mono j q) λM C x a=>?_
  obtain⟨y,z,A,rfl,rfl,H,I,J⟩:=U1 x
  try dsimp only at a
  refine eX (eqE (f,g,i) (y,z,A)) (aI (C0p _ _ _ rfl _ _ _ _ _ _) ?_)
  refine ifB a (λu a=>?_) λu a=>?_
  ·obtain rfl:=oJ a
   try dsimp only[M2,N2]at b
   obtain rfl:=oJ b
   exact aI rfl j
  ·exact D2 e ⟨(IntKind.i64.wrap (c+1)),rfl,rfl,j,(K0 _),a⟩
 ·obtain rfl:=oJ a
  try dsimp only[Y0,C1]at b
  obtain rfl:=oJ b
  exact aI rfl j
theorem s02(h:Hp)(b:Option Addr)(f c:Nat)(d:Z0)(i:Q0.R h [.slice b f c] d)(e:List Value)(g:N0)(q:I1.R h e g)(r:Bool)(a:O3 d g=some r):
  Tr Tryz.prog 230 #[.slice b f c,.agg e.toArray] h λv h'=>v = .bool r/\h'=h:=by
 obtain⟨rfl,u⟩:=Sl.len i
 obtain⟨n,o,p,rfl,rfl,k,l,m⟩:=U1 q
 unfold O3 at a
 dsimp only at a
 refine Tr.forget (G2 (args:=[.slice b d.length c,.agg #[.int .i64 n,.int .i64 o,.int .i64 p]]) (fn:=Tryz.f230) rfl ?_)
 refine trV a (S02 _ _ _ _ _ i _ _ (D1 k l m)) λs a=>?_
 obtain⟨w,j,a⟩:=B0 a
 have t:H0 s:=M0 j
 obtain rfl:=oJ a
 exact aI rfl (Sub.refl _)
theorem e04(h:Hp)(c:Int)(k:H0 c)(e:Nat)(j:TypeId)(d:Int)(l:H0 d)(b:Int)(m:H0 b)(f:h e=some (.cells #[.int .i64 d,.int .i64 b] j (0,0)))(r:Int)(a:U6 c (d,b)=some r):
  Tr Tryz.prog 241 #[.int .i64 c,ptr e 0] h λv h'=>v = .int .i64 r/\h'=h:=by
 unfold U6 at a
 dsimp only at a
 refine Tr.forget (G2 (args:=[.int .i64 c,ptr e 0]) (fn:=Tryz.f241) rfl ?_)
 refine eX (.int .i64 b) (aI ⟨rfl,by simp[Hp.cell,(f)]⟩ ?_)
 refine ifB a (λg a=>?_) λg a=>?_
 ·refine eX (.int .i64 d) (aI ⟨rfl,by simp[Hp.cell,(f)]⟩ ?_)
  obtain rfl:=oJ a
  exact aI rfl (Sub.refl _)
 ·refine eX (.int .i64 b) (aI ⟨rfl,by simp[Hp.cell,(f)]⟩ ?_)
  refine ifB a (λi a=>?_) λi a=>?_
  ·obtain rfl:=oJ a
   exact aI rfl (Sub.refl _)
  ·obtain rfl:=oJ a
   exact aI rfl (Sub.refl _)
theorem O09(h:Hp)(T:List Value)(am:j0)(a3:F1.R h T am)(s:Int)(W:H0 s)(C:Option Addr)(al D:Nat)(t:J0)(K:O0.R h [.slice C al D] t)(f:Int)(G:H0 f)(r:j0×Bool)(b:K00 am s t f=some r):
  Tr Tryz.prog 150 #[.agg T.toArray,.int .i64 s,.slice C al D,.int .i64 f] h λv h'=>∃(S:List Value),v = .tuple #[.agg S.toArray,.bool r.2]/\New F1 h h' S r.1:=by
 obtain⟨a0,a1,ax,bs,aB,a2,rfl,rfl,o,y,u⟩:=C0 a3
 obtain⟨rfl,bl⟩:=Sl.len u
 obtain⟨rfl,bm⟩:=Sl.len K
 unfold K00 at b
 dsimp only at b
 refine G2 (args:=[.agg #[.int .i64 a0,.int .i64 a1,.slice ax a2.length aB],.int .i64 s,.slice C t.length D,.int .i64 f]) (fn:=Tryz.f150) rfl ?_
 refine trM b (F4 _ _ _ (l0 o y u)) ?_
 rintro be b bE aW ⟨V,bt,U,rfl,A⟩
 have w:Sub h aW:=A.sub
 have ao:=A.r
 obtain⟨av,aw,P⟩:=be
 dsimp only at b A ao
 obtain⟨_,_,_,_,_,_,aF,aG,Z,aa,a4⟩:=C0 ao
 cases aF
 cases aG
 obtain⟨rfl,bo⟩:=Sl.len a4
 try dsimp only at b
 have au:=New.sndI (New.sndI (A))
 refine trV b (S00 _ _ _ (l0 o y (Q0.mono w u))) λbL b=>?_
 refine trG b (λq=>P02 _ _ _ (l0 o y (Q0.mono w u)) _ W) λbM b=>?_
 refine trG b (λq=>P02 _ _ _ (l0 o y (Q0.mono w u)) _ G) λbN b=>?_
 refine trG b (λq=>e07 _ _ o _ _ _ _ (O0.mono w K)) λbO b=>?_
 refine ifB b (λaU b=>?_) λaU b=>?_
 ·obtain rfl:=oJ b
  exact⟨([.int .i64 av,.int .i64 aw,.slice (some ⟨V,0,none⟩) P.length U]),rfl,(New.pair (New.int Z) (New.pair (New.int aa) au))⟩
 ·obtain⟨Q,aO,b⟩:=B0 b
  refine eX { vars:=[11,66],boxes:=[2],owns:=[],fuel:=true } (eX (λvs os h'=>∃ x g d c F J I E e,vs.tail = [.int .i64 x,.int .i64 g,.int .i64 d,.int .i64 c,.slice (some ⟨F,J,none⟩) I E]/\os = []/\Sub h h'/\H0 x/\H0 g/\H0 d/\H0 c/\New Q0 h h' [.slice (some ⟨F,J,none⟩) I E] e/\V6 t f (O1 vs) x g d c e=some Q) (eX (λ_ _=>0) (aI (eX V0 ⟨s,0,av,aw,V,0,P.length,U,P,rfl,rfl,w,W,(by decide),Z,aa,au,aO⟩) ?_)))
  rintro _ _ _ _ _ p aV ⟨x,g,d,c,F,J,I,E,e,⟨⟩,⟨⟩,ap,X,bi,H,z,L,a⟩
  replace a:V6 t f p x g d c e=some Q:=a
  obtain _|p:=p
  ·cases a
  rw[V6.eq_2]at a
  have an:=L.r
  obtain⟨rfl,bn⟩:=Sl.len an
  refine ifB a (λaR a=>?_) λaR a=>?_
  ·refine ldI a (O0.mono ap K) λbI Y a=>?_
   refine ifB a (λaS a=>?_) λaS a=>?_
   ·refine Or.inr (Or.inr (Or.inl (aI (aI (by kernel_rfl) (by kernel_rfl)) ?_)))
    refine Or.inr ?_
    refine Or.inr ?_
    refine Or.inr ?_
    refine Or.inr ?_
    refine Or.inl (eX 1 (aI (aI rfl rfl) ?_))
    refine trM a (N09 _ _ X _ Y _ z) ?_
    rintro bJ a bC ah ⟨bg,rfl,a5,aq⟩
    obtain⟨i,j,k,rfl,rfl,ab,ac,ad⟩:=U1 a5
    try dsimp only at a
    refine aI (aI rfl aq) (aI (by first|exact trivial|exact rfl) ?_)
    refine aT ?_
    obtain⟨bz,aK,a⟩:=B0 a
    obtain⟨bc,a8,aj,ay⟩:=New.app L aq
    refine eX bc (aI a8 (aI (Q1 aK (by first|rw[aj,F2.length (show F2 (I1.R ah) ([[.int .i64 i,.int .i64 j,.int .i64 k]]:List (List Value)) [(i,j,k)] from⟨(D1 ab ac ad),trivial⟩)]|(rw[aj];rfl))) ?_))
    intro bG bj aP
    obtain⟨N,aM,aY,bv,aD,rfl⟩:=ay _ _ _ _ _ (F3.ofPlain (i06 _) (show F2 (I1.R ah) ([[.int .i64 i,.int .i64 j,.int .i64 k]]:List (List Value)) [(i,j,k)] from⟨(D1 ab ac ad),trivial⟩)) L5.ofPlain aP
    have ba:=N.r
    obtain⟨aH,bq⟩:=Sl.len ba
    subst aH
    refine aT ?_
    refine aT ?_
    exact D2 p ⟨c,(IntKind.i64.wrap (g+1)),d,(IntKind.i64.wrap (c+1)),aM,aY,(e ++ [(i,j,k)]).length,aD,(e ++ [(i,j,k)]),rfl,rfl,N.sub,z,(K0 _),H,(K0 _),N,a⟩
   ·refine Or.inr (Or.inr (Or.inl (aI (aI (by kernel_rfl) (by kernel_rfl)) ?_)))
    refine Or.inr ?_
    refine Or.inr ?_
    refine Or.inr ?_
    refine Or.inr ?_
    refine Or.inl (eX 1 (aI (aI rfl rfl) ?_))
    refine trM a (N09 _ _ X _ Y _ G) ?_
    rintro bK a bD ai ⟨bh,rfl,a6,ar⟩
    obtain⟨l,m,n,rfl,rfl,ae,af,ag⟩:=U1 a6
    try dsimp only at a
    refine aI (aI rfl ar) (aI (by first|exact trivial|exact rfl) ?_)
    refine aT ?_
    obtain⟨bA,aL,a⟩:=B0 a
    obtain⟨bd,a9,ak,az⟩:=New.app L ar
    refine eX bd (aI a9 (aI (Q1 aL (by first|rw[ak,F2.length (show F2 (I1.R ai) ([[.int .i64 l,.int .i64 m,.int .i64 n]]:List (List Value)) [(l,m,n)] from⟨(D1 ae af ag),trivial⟩)]|(rw[ak];rfl))) ?_))
    intro bH bk aQ
    obtain⟨O,aN,aZ,bx,aE,rfl⟩:=az _ _ _ _ _ (F3.ofPlain (i06 _) (show F2 (I1.R ai) ([[.int .i64 l,.int .i64 m,.int .i64 n]]:List (List Value)) [(l,m,n)] from⟨(D1 ae af ag),trivial⟩)) L5.ofPlain aQ
    have bb:=O.r
    obtain⟨aJ,br⟩:=Sl.len bb
    subst aJ
    refine aT ?_
    refine aT ?_
    exact D2 p ⟨f,(IntKind.i64.wrap (g+1)),d,c,aN,aZ,(e ++ [(l,m,n)]).length,aE,(e ++ [(l,m,n)]),rfl,rfl,O.sub,G,(K0 _),H,z,O,a⟩
  ·obtain rfl:=oJ a
   try dsimp only[Y0,C1]at b
   refine trM b (G04 _ _ _ _ _ an) ?_
   rintro bf b bF aX ⟨aA,bu,aC,rfl,M⟩
   have bB:Sub aV aX:=M.sub
   have a7:=M.r
   obtain⟨rfl,bp⟩:=Sl.len a7
   obtain rfl:=oJ b
   exact⟨([.int .i64 d,.int .i64 c,.slice aA bf.length aC]),rfl,(New.pair (New.int H) (New.pair (New.int z) (New.from M ap)))⟩
theorem h0f(h:Hp)(b:Int)(d:H0 b)(r:j0×Bool)(a:h02 b=some r):
  Tr Tryz.prog 217 #[.int .i64 b] h λv h'=>∃(c:List Value),v = .tuple #[.agg c.toArray,.bool r.2]/\New F1 h h' c r.1:=by
 unfold h02 at a
 refine G2 (args:=[.int .i64 b]) (fn:=Tryz.f217) rfl ?_
 refine trV a (E8 _ _ d 1 (by decide) 3 (by decide)) λf a=>?_
 refine ifB a (λe a=>?_) λe a=>?_
 ·obtain rfl:=oJ a
  exact⟨([.int .i64 0,.int .i64 0,.slice none 0 0]),rfl,(New.pair (New.int (by decide)) (New.pair (New.int (by decide)) ((New.nilSlice (r:=I1)).mono (Sub.refl _))))⟩
 ·obtain rfl:=oJ a
  exact⟨([.int .i64 b,.int .i64 1,.slice none 0 0]),rfl,(New.pair (New.int d) (New.pair (New.int (by decide)) ((New.nilSlice (r:=I1)).mono (Sub.refl _))))⟩
theorem i0f(h:Hp)(g:List Value)(j:j0)(A:F1.R h g j)(c:Option Addr)(i d:Nat)(e:J0)(l:O0.R h [.slice c i d] e)(r:j0×Bool)(a:i02 j e=some r):
  Tr Tryz.prog 218 #[.agg g.toArray,.slice c i d] h λv h'=>∃(f:List Value),v = .tuple #[.agg f.toArray,.bool r.2]/\New F1 h h' f r.1:=by
 obtain⟨x,y,m,N,o,z,rfl,rfl,q,s,k⟩:=C0 A
 obtain⟨rfl,K⟩:=Sl.len k
 obtain⟨rfl,L⟩:=Sl.len l
 unfold i02 at a
 dsimp only at a
 refine G2 (args:=[.agg #[.int .i64 x,.int .i64 y,.slice m z.length o],.slice c e.length d]) (fn:=Tryz.f218) rfl ?_
 refine trM a (O09 _ _ _ (l0 q s k) 0 (by decide) _ _ _ _ l 0 (by decide)) ?_
 rintro F a Q w ⟨J,rfl,b⟩
 obtain⟨S,T⟩:=F
 dsimp only at a b
 have P:Sub h w:=b.sub
 have C:=b.r
 obtain⟨G,H,n,O,p,I,rfl,rfl,t,u,D⟩:=C0 C
 obtain⟨rfl,M⟩:=Sl.len D
 try dsimp only at a
 have E:=New.sndI (New.sndI (b))
 obtain rfl:=oJ a
 exact⟨([.int .i64 G,.int .i64 H,.slice n I.length p]),rfl,(New.pair (New.int t) (New.pair (New.int u) E))⟩
theorem j0f(h:Hp)(k:Int)(A:H0 k)(o:Option Addr)(D p:Nat)(j:O2)(u:Q2.R h [.slice o D p] j)(r:j0×Bool)(b:j02 k j=some r):
  Tr Tryz.prog 134 #[.int .i64 k,.slice o D p] h λv h'=>∃(z:List Value),v = .tuple #[.agg z.toArray,.bool r.2]/\New F1 h h' z r.1:=by
 obtain⟨rfl,aq⟩:=Sl.len u
 unfold j02 at b
 refine G2 (args:=[.int .i64 k,.slice o j.length p]) (fn:=Tryz.f134) rfl ?_
 refine trV b (O08 _ _ A _ _ _ _ u) λaC b=>?_
 refine ifB b (λP b=>?_) λP b=>?_
 ·obtain rfl:=oJ b
  exact⟨([.int .i64 0,.int .i64 0,.slice none 0 0]),rfl,(New.pair (New.int (by decide)) (New.pair (New.int (by decide)) ((New.nilSlice (r:=I1)).mono (Sub.refl _))))⟩
 ·refine trM b (h0f _ _ A) ?_
  rintro ah b aB C ⟨an,rfl,n⟩
  obtain⟨aG,aH⟩:=ah
  dsimp only at b n
  have F:Sub h C:=n.sub
  have Z:=n.r
  obtain⟨ai,aj,J,az,L,H,rfl,rfl,T,U,aa⟩:=C0 Z
  obtain⟨rfl,aw⟩:=Sl.len aa
  try dsimp only at b
  have ad:=New.sndI (New.sndI (n))
  obtain⟨y,M,b⟩:=B0 b
  refine eX { vars:=[22],boxes:=[1],owns:=[],fuel:=true } (eX (λvs os h'=>∃ u8 e c f t g d,vs.tail = [.int .i64 u8,.int .i64 e,.int .i64 c,.slice f t g]/\os = []/\Sub C h'/\H0 u8/\H0 e/\H0 c/\New Q0 h h' [.slice f t g] d/\D6 j (O1 vs) u8 e c d=some y) (eX (λ_ _=>0) (aI (eX V0 ⟨0,ai,aj,J,H.length,L,H,rfl,rfl,(Sub.refl _),(by decide),T,U,ad,M⟩) ?_)))
  rintro _ _ _ _ i V ⟨u8,e,c,f,t,g,d,⟨⟩,⟨⟩,l,ap,s,q,x,a⟩
  replace a:D6 j i u8 e c d=some y:=a
  obtain _|i:=i
  ·cases a
  rw[D6.eq_2]at a
  have E:=x.r
  obtain⟨rfl,ar⟩:=Sl.len E
  refine ifB a (λN a=>?_) λN a=>?_
  ·refine ld a (Q2.mono (F.trans l) u) λaD al w a=>?_
   obtain⟨ak,ax,ao,rfl⟩:=Wp.slice_cell w
   obtain⟨rfl,au⟩:=Sl.len w
   refine ifB a (λO a=>?_) λO a=>?_
   ·refine trM a (i0f _ _ _ (l0 s q E) _ _ _ _ w) ?_
    rintro ae a aA W ⟨am,rfl,m⟩
    obtain⟨aE,aF⟩:=ae
    dsimp only at a m
    have ab:Sub V W:=m.sub
    have X:=m.r
    obtain⟨af,ag,I,ay,K,G,rfl,rfl,Q,S,Y⟩:=C0 X
    obtain⟨rfl,av⟩:=Sl.len Y
    try dsimp only at a
    have ac:=New.sndI (New.sndI (m))
    exact D2 i ⟨(IntKind.i64.wrap (u8+1)),af,ag,I,G.length,K,G,rfl,rfl,(l.trans ab),(K0 _),Q,S,(New.from ac (F.trans l)),a⟩
   ·exact D2 i ⟨(IntKind.i64.wrap (u8+1)),e,c,f,d.length,g,d,rfl,rfl,l,(K0 _),s,q,x,a⟩
  ·obtain rfl:=oJ a
   try dsimp only[Y0,C1]at b
   obtain rfl:=oJ b
   exact⟨([.int .i64 e,.int .i64 c,.slice f d.length g]),rfl,(New.pair (New.int s) (New.pair (New.int q) x))⟩
theorem E0k(h:Hp)(H:List Value)(K:j0)(an:F1.R h H K)(r:M9)(t:R03 K=some r):
  Tr Tryz.prog 172 #[.agg H.toArray] h λv h'=>∃(F:Option Addr) (J G:Nat),v = .slice F J G/\Y0j.R h' [.slice F J G] r/\Sub h h':=by
 obtain⟨ak,al,O,aL,Q,A,rfl,rfl,aA,aB,C⟩:=C0 an
 obtain⟨rfl,aH⟩:=Sl.len C
 unfold R03 at t
 dsimp only at t
 refine G2 (args:=[.agg #[.int .i64 ak,.int .i64 al,.slice O A.length Q]]) (fn:=Tryz.f172) rfl ?_
 obtain⟨D,aa,t⟩:=B0 t
 refine eX { vars:=[12],boxes:=[],owns:=[0],fuel:=true } (eX (λvs os h'=>∃ u z w,vs.tail = [.int .i64 u]/\os = [z]/\Sub h h'/\H0 u/\F2 (G5.R h') z w/\S9 A (O1 vs) u w=some D) (eX (λ_ _=>0) (aI (eX V0 ⟨0,[],([]:M9),rfl,rfl,(Sub.refl _),(by decide),(show F2 (G5.R h) ([]:List (List Value)) ([]:M9) from trivial),aa⟩) ?_)))
 rintro _ z x aj ⟨u,aV,w,⟨⟩,⟨⟩,y,aD,I,f⟩
 replace f:S9 A x u w=some D:=f
 obtain _|x:=x
 ·cases f
 rw[S9.eq_2]at f
 refine ifB f (λah f=>?_) λah f=>?_
 ·refine ld f (Q0.mono y C) λaS ay ap f=>?_
  obtain⟨c,M,a,rfl,rfl,p,aF,j⟩:=U1 ap
  try dsimp only at f
  obtain⟨N,Z,f⟩:=B0 f
  obtain⟨am,au,T,V⟩:=Sl.cutI (r:=I1.toRp) (Q0.mono y C) Z
  refine aI am (eX au (aI T ?_))
  intro av ai _
  obtain⟨aw,az,rfl,L⟩:=V av ai
  have aJ:=(Sl.len L).2
  obtain⟨E,ab,f⟩:=B0 f
  refine eX { vars:=[23],boxes:=[],owns:=[0],fuel:=true } (eX (λvs os h'=>∃ k n l,vs.tail = [.int .i64 k]/\os = [n]/\Sub aj h'/\H0 k/\F2 (G5.R h') n l/\J5 N M c a (O1 vs) k l=some E) (eX (λ_ _=>0) (aI (eX V0 ⟨0,z,w,rfl,rfl,(Sub.refl _),(by decide),I,ab⟩) ?_)))
  rintro _ n q m ⟨k,aU,l,⟨⟩,⟨⟩,s,aC,g,e⟩
  replace e:J5 N M c a q k l=some E:=e
  obtain _|q:=q
  ·cases e
  rw[J5.eq_2]at e
  refine ifB e (λac e=>?_) λac e=>?_
  ·refine ld e (Q0.mono s L) λaQ ax ao e=>?_
   obtain⟨d,aR,b,rfl,rfl,o,aE,i⟩:=U1 ao
   try dsimp only at e
   refine ifB e (λad e=>?_) λad e=>?_
   ·exact D2 q ⟨(IntKind.i64.wrap (k+1)),n,l,rfl,rfl,s,(K0 _),g,e⟩
   ·refine ifB e (λae e=>?_) λae e=>?_
    ·obtain⟨aM,W,e⟩:=B0 e
     refine aI (Q1 W (by first|rw[F2.length g,F2.length (show F2 (G5.R m) ([[.int .i64 (if b<a then b else a),.int .i64 (if b>a then b else a)]]:List (List Value)) [((if b<a then b else a),(if b>a then b else a))] from⟨(B3 (B8 i j) (B8 i j)),trivial⟩)]|exact congrArg (·+1) (F2.length g))) ?_
     refine ifB e (λaf e=>?_) λaf e=>?_
     ·obtain⟨aN,X,e⟩:=B0 e
      refine aI (Q1 X (by first|rw[F2.length (F2.append g (show F2 (G5.R m) ([[.int .i64 (if b<a then b else a),.int .i64 (if b>a then b else a)]]:List (List Value)) [((if b<a then b else a),(if b>a then b else a))] from⟨(B3 (B8 i j) (B8 i j)),trivial⟩)),F2.length (show F2 (G5.R m) ([[.int .i64 (if d<c then d else c),.int .i64 (if d>c then d else c)]]:List (List Value)) [((if d<c then d else c),(if d>c then d else c))] from⟨(B3 (B8 o p) (B8 o p)),trivial⟩)]|exact congrArg (·+1) (F2.length (F2.append g (show F2 (G5.R m) ([[.int .i64 (if b<a then b else a),.int .i64 (if b>a then b else a)]]:List (List Value)) [((if b<a then b else a),(if b>a then b else a))] from⟨(B3 (B8 i j) (B8 i j)),trivial⟩))))) ?_
      exact D2 q ⟨(IntKind.i64.wrap (k+1)),((n++([[.int .i64 (if b<a then b else a),.int .i64 (if b>a then b else a)]]:List (List Value)))++([[.int .i64 (if d<c then d else c),.int .i64 (if d>c then d else c)]]:List (List Value))),((l ++ [((if b<a then b else a),(if b>a then b else a))]) ++ [((if d<c then d else c),(if d>c then d else c))]),rfl,rfl,s,(K0 _),(F2.append (F2.append g (show F2 (G5.R m) ([[.int .i64 (if b<a then b else a),.int .i64 (if b>a then b else a)]]:List (List Value)) [((if b<a then b else a),(if b>a then b else a))] from⟨(B3 (B8 i j) (B8 i j)),trivial⟩)) (show F2 (G5.R m) ([[.int .i64 (if d<c then d else c),.int .i64 (if d>c then d else c)]]:List (List Value)) [((if d<c then d else c),(if d>c then d else c))] from⟨(B3 (B8 o p) (B8 o p)),trivial⟩)),e⟩
     ·exact D2 q ⟨(IntKind.i64.wrap (k+1)),(n++([[.int .i64 (if b<a then b else a),.int .i64 (if b>a then b else a)]]:List (List Value))),(l ++ [((if b<a then b else a),(if b>a then b else a))]),rfl,rfl,s,(K0 _),(F2.append g (show F2 (G5.R m) ([[.int .i64 (if b<a then b else a),.int .i64 (if b>a then b else a)]]:List (List Value)) [((if b<a then b else a),(if b>a then b else a))] from⟨(B3 (B8 i j) (B8 i j)),trivial⟩)),e⟩
    ·refine ifB e (λag e=>?_) λag e=>?_
     ·obtain⟨aO,Y,e⟩:=B0 e
      refine aI (Q1 Y (by first|rw[F2.length g,F2.length (show F2 (G5.R m) ([[.int .i64 (if d<c then d else c),.int .i64 (if d>c then d else c)]]:List (List Value)) [((if d<c then d else c),(if d>c then d else c))] from⟨(B3 (B8 o p) (B8 o p)),trivial⟩)]|exact congrArg (·+1) (F2.length g))) ?_
      exact D2 q ⟨(IntKind.i64.wrap (k+1)),(n++([[.int .i64 (if d<c then d else c),.int .i64 (if d>c then d else c)]]:List (List Value))),(l ++ [((if d<c then d else c),(if d>c then d else c))]),rfl,rfl,s,(K0 _),(F2.append g (show F2 (G5.R m) ([[.int .i64 (if d<c then d else c),.int .i64 (if d>c then d else c)]]:List (List Value)) [((if d<c then d else c),(if d>c then d else c))] from⟨(B3 (B8 o p) (B8 o p)),trivial⟩)),e⟩
     ·exact D2 q ⟨(IntKind.i64.wrap (k+1)),n,l,rfl,rfl,s,(K0 _),g,e⟩
  ·obtain rfl:=oJ e
   try dsimp only[Y0,C1]at f
   exact D2 x ⟨(IntKind.i64.wrap (u+1)),n,l,rfl,rfl,(y.trans s),(K0 _),g,f⟩
 ·obtain rfl:=oJ f
  try dsimp only[Y0,C1]at t
  intro aP aG U
  obtain⟨P,S,rfl,aq,ar,aK⟩:=W0.out (r:=G5.toRp) U I
  obtain rfl:=oJ t
  exact⟨P,w.length,S,rfl,aq,(y.trans ar)⟩
theorem g0e(h:Hp)(d:List Value)(g:j0)(u:F1.R h d g)(r:F5×Bool)(a:v00 g=some r):
  Tr Tryz.prog 265 #[.agg d.toArray] h λv h'=>∃(c:List Value),v = .tuple #[.agg c.toArray,.bool r.2]/\G5.R h' c r.1/\Sub h h':=by
 obtain⟨q,s,k,G,l,t,rfl,rfl,e,f,b⟩:=C0 u
 obtain⟨rfl,E⟩:=Sl.len b
 unfold v00 at a
 dsimp only at a
 refine G2 (args:=[.agg #[.int .i64 q,.int .i64 s,.slice k t.length l]]) (fn:=Tryz.f265) rfl ?_
 refine trV a (S00 _ _ _ (l0 e f b)) λJ a=>?_
 refine ifB a (λm a=>?_) λm a=>?_
 ·obtain rfl:=oJ a
  exact⟨([.int .i64 0,.int .i64 0]),rfl,(B3 (by decide) (by decide)),(Sub.refl _)⟩
 ·refine trM a (E0k _ _ _ (l0 e f b)) ?_
  rintro K a I D ⟨z,H,C,rfl,i,j⟩
  obtain⟨rfl,F⟩:=Sl.len i
  refine ifB a (λn a=>?_) λn a=>?_
  ·obtain rfl:=oJ a
   exact⟨([.int .i64 0,.int .i64 0]),rfl,(B3 (by decide) (by decide)),j⟩
  ·refine ld a i λL A w a=>?_
   obtain⟨x,y,rfl,rfl,o,p⟩:=O03 w
   try dsimp only at a
   obtain rfl:=oJ a
   exact⟨([.int .i64 x,.int .i64 y]),rfl,(B3 o p),j⟩
theorem P09(h:Hp)(C:List Value)(L:j0)(az:F1.R h C L)(D:List Value)(M:F5)(aA:G5.R h D M)(r:j0×Bool)(b:n8 L M=some r):
  Tr Tryz.prog 173 #[.agg C.toArray,.agg D.toArray] h λv h'=>∃(A:List Value),v = .tuple #[.agg A.toArray,.bool r.2]/\New F1 h h' A r.1:=by
 obtain⟨aw,ax,T,aZ,W,ay,rfl,rfl,F,G,t⟩:=C0 az
 obtain⟨rfl,aW⟩:=Sl.len t
 obtain⟨d,f,rfl,rfl,H,I⟩:=O03 aA
 unfold n8 at b
 dsimp only at b
 refine G2 (args:=[.agg #[.int .i64 aw,.int .i64 ax,.slice T ay.length W],.agg #[.int .i64 d,.int .i64 f]]) (fn:=Tryz.f173) rfl ?_
 refine trM b (F4 _ _ _ (l0 F G t)) ?_
 rintro aJ b a7 K ⟨o,a0,E,rfl,n⟩
 have O:Sub h K:=n.sub
 have N:=n.r
 obtain⟨Q,S,k⟩:=aJ
 dsimp only at b n N
 obtain⟨_,_,_,_,_,_,Y,Z,J,an,aC⟩:=C0 N
 cases Y
 cases Z
 obtain⟨rfl,aX⟩:=Sl.len aC
 try dsimp only at b
 have w:=New.sndI (New.sndI (n))
 refine trV b (S00 _ _ _ (l0 F G (Q0.mono O t))) λbg b=>?_
 refine ifB b (λah b=>?_) λah b=>?_
 ·obtain rfl:=oJ b
  exact⟨([.int .i64 Q,.int .i64 S,.slice (some ⟨o,0,none⟩) k.length E]),rfl,(New.pair (New.int J) (New.pair (New.int an) w))⟩
 ·intro c q
  have aa:(Hp.set K c (.cells #[.int .i64 d,.int .i64 f] 155 (0,0))) c=some (.cells #[.int .i64 d,.int .i64 f] 155 (0,0)):=Hp.set_same _ _ _
  have av:c≠o:=λe=>New.blk w (Sub.refl _) (e▸q)
  obtain⟨z,af,b⟩:=B0 b
  refine eX { vars:=[39],boxes:=[],owns:=[],fuel:=true } (eX (λvs os h'=>∃ g i,vs.tail = [.int .i64 g]/\os = []/\Sub h h'/\H0 g/\New Q0 h h' [.slice (some ⟨o,0,none⟩) k.length E] i/\h' c=some (.cells #[.int .i64 d,.int .i64 f] 155 (0,0))/\d5 k d f (O1 vs) g i=some z) (eX (λ_ _=>0) (aI (eX V0 ⟨0,k,rfl,rfl,(O.trans (Sub.set q)),(by decide),(New.mono w (Sub.set q)),aa,af⟩) ?_)))
  rintro _ m ap ⟨g,i,⟨⟩,⟨⟩,aH,aO,P,s,a⟩
  replace a:d5 k d f m g i=some z:=a
  obtain _|m:=m
  ·cases a
  rw[d5.eq_2]at a
  have u:=P.r
  refine ifB a (λag a=>?_) λag a=>?_
  ·refine ld a u λa9 aL aB a=>?_
   obtain⟨ba,y,bb,rfl,rfl,aj,ak,al⟩:=U1 aB
   try dsimp only at a
   refine Or.inr (Or.inr (Or.inl (aI (aI (by kernel_rfl) (by kernel_rfl)) ?_)))
   obtain⟨j,ad,a⟩:=B0 a
   obtain⟨a2,ab,a⟩:=B0 a
   have am:H0 j:=M0 ab
   refine Or.inl (eX (.val (.int .i64 j)) (aI ?_ ?_))
   ·intro aS aF
    exact Tr.val (e04 _ _ aj c 155 _ H _ I (aF _ _ s) _ ad) (aI rfl (aI rfl rfl))
   obtain⟨l,ae,a⟩:=B0 a
   obtain⟨a3,ac,a⟩:=B0 a
   have ao:H0 l:=M0 ac
   refine Or.inl (eX (.val (.int .i64 l)) (aI ?_ ?_))
   ·intro aU aG
    exact Tr.val (e04 _ _ al c 155 _ H _ I (aG _ _ s) _ ae) (aI rfl (aI rfl rfl))
   refine Or.inl (eX (.agg [.val (.int .i64 j),.val (.int .i64 y),.val (.int .i64 l)]) (aI ?_ ?_))
   ·intro aV a5
    exact aI rfl (aI rfl rfl)
   refine Or.inr ?_
   refine Or.inr ?_
   refine Or.inl (eX 0 (aI (aI rfl rfl) ?_))
   obtain⟨bc,p,a⟩:=B0 a
   obtain⟨V,aM,aN,aD⟩:=Sl.getI (r:=I1.toRp) u p (by decide)
   refine aI V ?_
   obtain⟨bd,be,bf,rfl,rfl,aP,aQ,aR⟩:=U1 aD
   try dsimp only at a
   refine aT ?_
   refine New.put (r:=I1) P (Sub.refl _) (P0t p).1 (new:=[.int .i64 j,.int .i64 y,.int .i64 l]) (By:=[]) (i06 _ _ _ (D1 am ak ao)) (L5.nil _) rfl (P0t p).2 ?_
   intro aq w28 au _
   have a4:=w28.r
   have ai:aq c=some (.cells #[.int .i64 d,.int .i64 f] 155 (0,0)):=(au c av).trans s
   refine aT ?_
   exact D2 m ⟨(IntKind.i64.wrap (g+1)),(i.set g.toNat (j,y,l)),rfl,rfl,w28.sub,(K0 _),w28,(ai),a⟩
  ·obtain rfl:=oJ a
   try dsimp only[Y0,C1]at b
   refine trM b (G04 _ _ _ _ _ u) ?_
   rintro aK b a8 ar ⟨U,a1,X,rfl,x⟩
   have a6:Sub ap ar:=x.sub
   have aE:=x.r
   obtain⟨rfl,aY⟩:=Sl.len aE
   obtain rfl:=oJ b
   exact⟨([.int .i64 Q,.int .i64 (IntKind.i64.wrap (S-1)),.slice U aK.length X]),rfl,(New.pair (New.int J) (New.pair (New.int (K0 _)) (New.from x aH)))⟩
theorem k0f(h:Hp)(k:List Value)(o:j0)(M:F1.R h k o)(r:j0×F5×Bool)(a:k02 o=some r):
  Tr Tryz.prog 219 #[.agg k.toArray] h λv h'=>∃(i:List Value) (j:List Value),v = .tuple #[.agg i.toArray,.agg j.toArray,.bool r.2.2]/\New F1 h h' i r.1/\G5.R h' j r.2.1:=by
 obtain⟨J,K,s,aj,u,L,rfl,rfl,f,g,b⟩:=C0 M
 obtain⟨rfl,ag⟩:=Sl.len b
 unfold k02 at a
 dsimp only at a
 refine G2 (args:=[.agg #[.int .i64 J,.int .i64 K,.slice s L.length u]]) (fn:=Tryz.f219) rfl ?_
 refine trM a (g0e _ _ _ (l0 f g b)) ?_
 rintro T a ap n ⟨ae,rfl,p,c⟩
 obtain⟨ar,au⟩:=T
 dsimp only at a p
 obtain⟨U,V,rfl,rfl,l,m⟩:=O03 p
 try dsimp only at a
 refine ifB a (λC a=>?_) λC a=>?_
 ·refine trM a (F4 _ _ _ (l0 f g (Q0.mono c b))) ?_
  rintro W a aq I ⟨A,ak,w,rfl,d⟩
  have am:Sub n I:=d.sub
  have q:=d.r
  obtain⟨X,Y,Z⟩:=W
  dsimp only at a d q
  obtain⟨_,_,_,_,_,_,y,z,D,E,N⟩:=C0 q
  cases y
  cases z
  obtain⟨rfl,ah⟩:=Sl.len N
  try dsimp only at a
  have S:=New.sndI (New.sndI (d))
  obtain rfl:=oJ a
  exact⟨([.int .i64 X,.int .i64 Y,.slice (some ⟨A,0,none⟩) Z.length w]),([.int .i64 0,.int .i64 0]),rfl,(New.pair (New.int D) (New.pair (New.int E) (New.from S c))),(B3 (by decide) (by decide))⟩
 ·refine trM a (P09 _ _ _ (l0 f g (Q0.mono c b)) _ _ (B3 l m)) ?_
  rintro aa a ao H ⟨af,rfl,e⟩
  obtain⟨av,aw⟩:=aa
  dsimp only at a e
  have an:Sub n H:=e.sub
  have O:=e.r
  obtain⟨ab,ac,t,al,x,ad,rfl,rfl,F,G,P⟩:=C0 O
  obtain⟨rfl,ai⟩:=Sl.len P
  try dsimp only at a
  have Q:=New.sndI (New.sndI (e))
  refine Or.inr (Or.inr (Or.inl (aI (aI (by kernel_rfl) (by kernel_rfl)) ?_)))
  refine Or.inr ?_
  refine Or.inr ?_
  refine Or.inl (eX 0 (aI (aI rfl rfl) ?_))
  refine aT ?_
  refine aT ?_
  obtain rfl:=oJ a
  exact⟨([.int .i64 ab,.int .i64 ac,.slice t ad.length x]),([.int .i64 U,.int .i64 V]),rfl,(New.pair (New.int F) (New.pair (New.int G) (New.from Q c))),(B3 l m)⟩
theorem k06(h:Hp)(z:List Value)(G:j0)(ao:F1.R h z G)(r:j0×M9)(b:M8 G=some r):
  Tr Tryz.prog 135 #[.agg z.toArray] h λv h'=>∃(y:List Value) (w:Option Addr) (F x:Nat),v = .tuple #[.agg y.toArray,.slice w F x]/\New F1 h h' y r.1/\Y0j.R h' [.slice w F x] r.2:=by
 obtain⟨al,am,P,aO,T,an,rfl,rfl,ae,af,H⟩:=C0 ao
 obtain⟨rfl,aJ⟩:=Sl.len H
 unfold M8 at b
 dsimp only at b
 refine G2 (args:=[.agg #[.int .i64 al,.int .i64 am,.slice P an.length T]]) (fn:=Tryz.f135) rfl ?_
 refine trM b (F4 _ _ _ (l0 ae af H)) ?_
 rintro az b aV s ⟨ab,aQ,V,rfl,o⟩
 have av:Sub h s:=o.sub
 have J:=o.r
 obtain⟨aD,aE,O⟩:=az
 dsimp only at b o J
 obtain⟨_,_,_,_,_,_,X,Y,ai,aj,ar⟩:=C0 J
 cases X
 cases Y
 obtain⟨rfl,aM⟩:=Sl.len ar
 try dsimp only at b
 have ay:=New.sndI (New.sndI (o))
 obtain⟨u,ac,b⟩:=B0 b
 refine eX { vars:=[],boxes:=[2],owns:=[0],fuel:=true } (eX (λvs os h'=>∃ d e j t k u8 n f,vs.tail = [.int .i64 d,.int .i64 e,.slice j t k]/\os = [n]/\Sub s h'/\H0 d/\H0 e/\New Q0 h h' [.slice j t k] u8/\F2 (G5.R h') n f/\o8 (O1 vs) d e u8 f=some u) (eX (λ_ _=>0) (aI (eX V0 ⟨aD,aE,(some ⟨ab,0,none⟩),O.length,V,O,[],([]:M9),rfl,rfl,(Sub.refl _),ai,aj,ay,(show F2 (G5.R s) ([]:List (List Value)) ([]:M9) from trivial),ac⟩) ?_)))
 rintro _ _ _ n m ak ⟨d,e,j,t,k,u8,aZ,f,⟨⟩,⟨⟩,L,A,C,M,l,a⟩
 replace a:o8 m d e u8 f=some u:=a
 obtain _|m:=m
 ·cases a
 rw[o8.eq_2]at a
 have I:=M.r
 obtain⟨rfl,aK⟩:=Sl.len I
 refine trM a (k0f _ _ _ (l0 A C I)) ?_
 rintro aA a aS q ⟨aF,aG,rfl,p,K⟩
 obtain⟨aW,aX,aY⟩:=aA
 dsimp only at a p K
 have c:Sub ak q:=p.sub
 have ap:=p.r
 obtain⟨aB,aC,Q,aP,U,N,rfl,rfl,ag,ah,aq⟩:=C0 ap
 obtain⟨rfl,aL⟩:=Sl.len aq
 try dsimp only at a
 have ax:=New.sndI (New.sndI (p))
 obtain⟨g,i,rfl,rfl,D,E⟩:=O03 K
 try dsimp only at a
 refine ifB a (λad a=>?_) λad a=>?_
 ·intro aU aH Z
  obtain⟨S,W,rfl,au,aw,aN⟩:=W0.out (r:=G5.toRp) Z (F2.up (r:=G5.toRp) c l)
  obtain rfl:=oJ a
  try dsimp only[M2,N2]at b
  obtain rfl:=oJ b
  exact⟨([.int .i64 d,.int .i64 e,.slice j u8.length k]),S,f.length,W,rfl,(New.pair (New.int A) (New.pair (New.int C) (New.mono M (c.trans aw)))),au⟩
 ·obtain⟨aR,aa,a⟩:=B0 a
  refine aI (Q1 aa (by first|rw[F2.length (F2.up (r:=G5.toRp) c l),F2.length (show F2 (G5.R q) ([[.int .i64 g,.int .i64 i]]:List (List Value)) [(g,i)] from⟨(B3 D E),trivial⟩)]|exact congrArg (·+1) (F2.length (F2.up (r:=G5.toRp) c l)))) ?_
  exact D2 m ⟨aB,aC,Q,N.length,U,N,(n++([[.int .i64 g,.int .i64 i]]:List (List Value))),(f ++ [(g,i)]),rfl,rfl,(L.trans c),ag,ah,(New.from ax (av.trans L)),(F2.append (F2.up (r:=G5.toRp) c l) (show F2 (G5.R q) ([[.int .i64 g,.int .i64 i]]:List (List Value)) [(g,i)] from⟨(B3 D E),trivial⟩)),a⟩
theorem h0e(h:Hp)(e:List Value)(l:j0)(E:F1.R h e l)(r:j0×Bool)(a:w00 l=some r):
  Tr Tryz.prog 151 #[.agg e.toArray] h λv h'=>∃(d:List Value),v = .tuple #[.agg d.toArray,.bool r.2]/\New F1 h h' d r.1:=by
 obtain⟨A,C,s,K,t,D,rfl,rfl,i,j,c⟩:=C0 E
 obtain⟨rfl,I⟩:=Sl.len c
 unfold w00 at a
 dsimp only at a
 refine G2 (args:=[.agg #[.int .i64 A,.int .i64 C,.slice s D.length t]]) (fn:=Tryz.f151) rfl ?_
 refine trM a (F4 _ _ _ (l0 i j c)) ?_
 rintro H a M z ⟨g,L,f,rfl,b⟩
 have G:Sub h z:=b.sub
 have m:=b.r
 obtain⟨o,p,q⟩:=H
 dsimp only at a b m
 obtain⟨_,_,_,_,_,_,u,w,k,y,F⟩:=C0 m
 cases u
 cases w
 obtain⟨rfl,J⟩:=Sl.len F
 try dsimp only at a
 have n:=New.sndI (New.sndI (b))
 refine trV a (S00 _ _ _ (l0 i j (Q0.mono G c))) λN a=>?_
 refine ifB a (λx a=>?_) λx a=>?_
 ·obtain rfl:=oJ a
  exact⟨([.int .i64 o,.int .i64 p,.slice (some ⟨g,0,none⟩) q.length f]),rfl,(New.pair (New.int k) (New.pair (New.int y) n))⟩
 ·obtain rfl:=oJ a
  exact⟨([.int .i64 o,.int .i64 (IntKind.i64.wrap (p+1)),.slice (some ⟨g,0,none⟩) q.length f]),rfl,(New.pair (New.int k) (New.pair (New.int (K0 _)) n))⟩
theorem z0h(h:Hp)(s:List Value)(y:j0)(aa:F1.R h s y)(t:List Value)(z:N0)(ab:I1.R h t z)(r:j0×Bool)(a:A01 y z=some r):
  Tr Tryz.prog 152 #[.agg s.toArray,.agg t.toArray] h λv h'=>∃(p:List Value),v = .tuple #[.agg p.toArray,.bool r.2]/\New F1 h h' p r.1:=by
 obtain⟨X,Y,H,ap,K,Z,rfl,rfl,k,l,e⟩:=C0 aa
 obtain⟨rfl,al⟩:=Sl.len e
 obtain⟨b,c,d,rfl,rfl,f,g,i⟩:=U1 ab
 unfold A01 at a
 dsimp only at a
 refine G2 (args:=[.agg #[.int .i64 X,.int .i64 Y,.slice H Z.length K],.agg #[.int .i64 b,.int .i64 c,.int .i64 d]]) (fn:=Tryz.f152) rfl ?_
 refine trM a (F4 _ _ _ (l0 k l e)) ?_
 rintro ag a az m ⟨S,ar,M,rfl,j⟩
 have n:Sub h m:=j.sub
 have A:=j.r
 obtain⟨F,G,ai⟩:=ag
 dsimp only at a j A
 obtain⟨_,_,_,_,_,_,N,O,u,w,ad⟩:=C0 A
 cases N
 cases O
 obtain⟨rfl,an⟩:=Sl.len ad
 try dsimp only at a
 have D:=New.sndI (New.sndI (j))
 refine trV a (S00 _ _ _ (l0 k l (Q0.mono n e))) λaB a=>?_
 refine trG a (λq=>b05 _ _ _ (l0 k l (Q0.mono n e)) _ _ (D1 f g i)) λaC a=>?_
 refine trG a (λq=>s02 _ _ _ _ _ (Q0.mono n e) _ _ (D1 f g i)) λaD a=>?_
 refine ifB a (λU a=>?_) λU a=>?_
 ·obtain rfl:=oJ a
  exact⟨([.int .i64 F,.int .i64 G,.slice (some ⟨S,0,none⟩) ai.length M]),rfl,(New.pair (New.int u) (New.pair (New.int w) D))⟩
 ·obtain⟨aw,Q,a⟩:=B0 a
  obtain⟨af,ae,x,I⟩:=New.app D (Sub.refl _)
  refine eX af (aI ae (aI (Q1 Q (by first|rw[x,F2.length (show F2 (I1.R m) ([[.int .i64 b,.int .i64 c,.int .i64 d]]:List (List Value)) [(b,c,d)] from⟨(D1 f g i),trivial⟩)]|(rw[x];rfl))) ?_))
  intro aA W T
  obtain⟨E,ak,av,au,aj,rfl⟩:=I _ _ _ _ _ (F3.ofPlain (i06 _) (show F2 (I1.R m) ([[.int .i64 b,.int .i64 c,.int .i64 d]]:List (List Value)) [(b,c,d)] from⟨(D1 f g i),trivial⟩)) L5.ofPlain T
  have C:=E.r
  obtain⟨P,ao⟩:=Sl.len C
  subst P
  refine trM a (G04 _ _ _ _ _ C) ?_
  rintro ah a ay V ⟨J,aq,L,rfl,o⟩
  have ax:Sub W V:=o.sub
  have ac:=o.r
  obtain⟨rfl,am⟩:=Sl.len ac
  obtain rfl:=oJ a
  exact⟨([.int .i64 F,.int .i64 G,.slice J ah.length L]),rfl,(New.pair (New.int u) (New.pair (New.int w) (New.from o E.sub)))⟩
theorem q05(h:Hp)(E:List Value)(J:j0)(ae:F1.R h E J)(r:Z0)(c:w6 J=some r):
  Tr Tryz.prog 143 #[.agg E.toArray] h λv h'=>∃(C:Option Addr) (I D:Nat),v = .slice C I D/\Q0.R h' [.slice C I D] r/\Sub h h':=by
 obtain⟨l,m,M,ax,P,n,rfl,rfl,s,G,w⟩:=C0 ae
 obtain⟨rfl,ar⟩:=Sl.len w
 unfold w6 at c
 dsimp only at c
 refine G2 (args:=[.agg #[.int .i64 l,.int .i64 m,.slice M n.length P]]) (fn:=Tryz.f143) rfl ?_
 refine trV c (g01 _ _ _ (l0 s G w)) λaE c=>?_
 refine ifB c (λaa c=>?_) λaa c=>?_
 ·intro aC aq U
  obtain⟨O,S,rfl,ag,ai,aw⟩:=W0.out (r:=I1.toRp) U (show F2 (I1.R h) ([]:List (List Value)) ([]:Z0) from trivial)
  obtain rfl:=oJ c
  exact⟨O,(([]:Z0)).length,S,rfl,ag,ai⟩
 ·obtain⟨A,Y,c⟩:=B0 c
  refine eX { vars:=[4],boxes:=[],owns:=[0],fuel:=true } (eX (λvs os h'=>∃ u8 q f,vs.tail = [.int .i64 u8]/\os = [q]/\Sub h h'/\H0 u8/\F2 (I1.R h') q f/\D5 m l n (O1 vs) u8 f=some A) (eX (λ_ _=>0) (aI (eX V0 ⟨0,[],([]:Z0),rfl,rfl,(Sub.refl _),(by decide),(show F2 (I1.R h) ([]:List (List Value)) ([]:Z0) from trivial),Y⟩) ?_)))
  rintro _ q p ao ⟨u8,aG,f,⟨⟩,⟨⟩,x,t,F,b⟩
  replace b:D5 m l n p u8 f=some A:=b
  obtain _|p:=p
  ·cases b
  rw[D5.eq_2]at b
  refine ifB b (λZ b=>?_) λZ b=>?_
  ·refine trM b (K09 _ _ s) ?_
   rintro L b aB ad ⟨ak,ay,al,rfl,K,y⟩
   obtain⟨rfl,au⟩:=Sl.len K
   obtain⟨z,X,b⟩:=B0 b
   refine eX { vars:=[22],boxes:=[],owns:=[0],fuel:=true } (eX (λvs os h'=>∃ d g e,vs.tail = [.int .i64 d]/\os = [g]/\Sub ad h'/\H0 d/\F2 (I1.R h') g e/\l4 L l m n u8 (O1 vs) d e=some z) (eX (λ_ _=>0) (aI (eX V0 ⟨0,q,f,rfl,rfl,(Sub.refl _),(by decide),(F2.up (r:=I1.toRp) y F),X⟩) ?_)))
   rintro _ g k H ⟨d,aF,e,⟨⟩,⟨⟩,o,am,j,a⟩
   replace a:l4 L l m n u8 k d e=some z:=a
   obtain _|k:=k
   ·cases a
   rw[l4.eq_2]at a
   refine ifB a (λab a=>?_) λab a=>?_
   ·refine ldI a (O0.mono o K) λi u a=>?_
    refine trV a (c04 _ _ _ (l0 s G (Q0.mono ((x.trans y).trans o) w)) _ t _ u) λaj a=>?_
    obtain⟨az,V,a⟩:=B0 a
    have an:H0 aj:=M0 V
    refine ifB a (λac a=>?_) λac a=>?_
    ·obtain⟨aA,W,a⟩:=B0 a
     refine aI (Q1 W (by first|rw[F2.length j,F2.length (show F2 (I1.R H) ([[.int .i64 u8,.int .i64 i,.int .i64 (-1)]]:List (List Value)) [(u8,i,(-1))] from⟨(D1 t u (by decide)),trivial⟩)]|exact congrArg (·+1) (F2.length j))) ?_
     exact D2 k ⟨(IntKind.i64.wrap (d+1)),(g++([[.int .i64 u8,.int .i64 i,.int .i64 (-1)]]:List (List Value))),(e ++ [(u8,i,(-1))]),rfl,rfl,o,(K0 _),(F2.append j (show F2 (I1.R H) ([[.int .i64 u8,.int .i64 i,.int .i64 (-1)]]:List (List Value)) [(u8,i,(-1))] from⟨(D1 t u (by decide)),trivial⟩)),a⟩
    ·exact D2 k ⟨(IntKind.i64.wrap (d+1)),g,e,rfl,rfl,o,(K0 _),j,a⟩
   ·obtain rfl:=oJ a
    try dsimp only[Y0,C1]at b
    exact D2 p ⟨(IntKind.i64.wrap (u8+1)),g,e,rfl,rfl,((x.trans y).trans o),(K0 _),j,b⟩
  ·obtain rfl:=oJ b
   try dsimp only[Y0,C1]at c
   intro aD ap T
   obtain⟨N,Q,rfl,af,ah,av⟩:=W0.out (r:=I1.toRp) T F
   obtain rfl:=oJ c
   exact⟨N,f.length,Q,rfl,af,(x.trans ah)⟩
theorem l06(h:Hp)(ai:List Value)(ay:D0)(cH:T1.R h ai ay)(aj:List Value)(aA:j0)(cI:F1.R h aj aA)(r:j0×Bool×Bool)(a:w9 ay aA=some r):
  Tr Tryz.prog 71 #[.agg ai.toArray,.agg aj.toArray] h λv h'=>∃(ah:List Value),v = .tuple #[.agg ah.toArray,.bool r.2.1,.bool r.2.2]/\New F1 h h' ah r.1:=by
 obtain⟨cC,aa,e6,ag,az,rfl,rfl,ap,H⟩:=J1 cH
 obtain⟨rfl,eP⟩:=Sl.len H
 obtain⟨cD,cE,aQ,e7,a1,cG,rfl,rfl,p,n,o⟩:=C0 cI
 obtain⟨rfl,eQ⟩:=Sl.len o
 unfold w9 at a
 dsimp only at a
 refine G2 (args:=[.agg #[.int .i64 cC,.slice aa az.length ag],.agg #[.int .i64 cD,.int .i64 cE,.slice aQ cG.length a1]]) (fn:=Tryz.f71) rfl ?_
 refine trV a (i9 _ _ _ (S0 ap H)) λfO a=>?_
 refine trG a (λq=>g01 _ _ _ (l0 p n o)) λfP a=>?_
 refine ifB a (λbH a=>?_) λbH a=>?_
 ·refine trM a (F4 _ _ _ (l0 p n o)) ?_
  rintro dB a fL cr ⟨bx,ff,a7,rfl,K⟩
  have fC:Sub h cr:=K.sub
  have aD:=K.r
  obtain⟨dK,dL,dM⟩:=dB
  dsimp only at a K aD
  obtain⟨_,_,_,_,_,_,be,bm,bT,bU,cP⟩:=C0 aD
  cases be
  cases bm
  obtain⟨rfl,eZ⟩:=Sl.len cP
  try dsimp only at a
  have dj:=New.sndI (New.sndI (K))
  obtain rfl:=oJ a
  exact⟨([.int .i64 dK,.int .i64 dL,.slice (some ⟨bx,0,none⟩) dM.length a7]),rfl,(New.pair (New.int bT) (New.pair (New.int bU) dj))⟩
 ·obtain⟨dS,bD,a⟩:=B0 a
  obtain⟨d2,aP⟩:=dS
  try dsimp only at a
  refine Tr.val (p03 _ _ _ (S0 ap H) _ _ (l0 p n o) _  bD) ?_
  obtain⟨fl,br,a⟩:=B0 a
  have au:H0 d2:=M0 br
  obtain⟨fk,bq,a⟩:=B0 a
  have es:H0 aP:=M0 bq
  refine ifB a (λbG a=>?_) λbG a=>?_
  ·refine Or.inr (Or.inr (Or.inr (Or.inr (eX 13 (aI (aI (by kernel_rfl) (by kernel_rfl)) ?_)))))
   obtain⟨dn,bs,a⟩:=B0 a
   obtain⟨aY,ec,bi,S⟩:=Sl.getI (r:=O0.toRp) H bs (by decide)
   obtain⟨aR,e8,a2,rfl⟩:=Wp.slice_cell S
   obtain⟨rfl,eR⟩:=Sl.len S
   refine Or.inl (eX (.hel (.slice aa az.length ag) aP 1 0) (aI ?_ ?_))
   ·intro ey fp
    exact aI aY (aI rfl (aI rfl rfl))
   refine Or.inl (eX (.val (.slice aR dn.length a2)) (aI ?_ ?_))
   ·intro ez db
    exact eX _ (aI (J7.up db bi) (aI rfl (aI rfl rfl)))
   obtain⟨dq,bt,a⟩:=B0 a
   obtain⟨ds,Y⟩:=dq
   try dsimp only at a
   obtain⟨z,A,k⟩:=ds
   try dsimp only at a
   refine Or.inr (eX (λv b=>∃(t:Value),v = .tuple #[t,.bool Y]/\(λv b=>∃(f:Option Addr) (i:Nat),v = .agg #[.int .i64 z,.int .i64 A,.slice f k.length i]/\H0 z/\H0 A/\New Q0 h b [.slice f k.length i] k/\k.length<=9223372036854775807) t b) (aI (λv D E c q=>by obtain⟨t,e,P⟩:=q;exact⟨t,e,(by obtain⟨f,i,e,l,m,f2,f3⟩:=P;exact⟨f,i,e,l,m,New.mono f2 c,f3⟩)⟩) (aI ?_ ?_)))
   ·intro eA U
    refine Tr.mono (O09 _ _ _ (l0 p n (Q0.mono U o)) _ au _ _ _ _ (O0.mono U S) _ au _ bt) ?_
    rintro _ ax ⟨ed,rfl,W⟩
    have c:=W.sub
    have cJ:=W.r
    obtain⟨f0,f1,ac,fi,al,f5,rfl,F,b1,b2,cW⟩:=C0 cJ
    cases F
    obtain⟨rfl,cv⟩:=Sl.len cW
    exact aI y03 (aI c ⟨(.agg #[.int .i64 z,.int .i64 A,.slice ac k.length al]),rfl,⟨ac,al,rfl,b1,b2,(New.from (New.sndI (New.sndI (W))) U),cv⟩⟩)
   refine Or.inr (eX (λv b=>∃(t:Value),v = .tuple #[t,.bool Y]/\(λv b=>∃(f:Option Addr) (i:Nat),v = .agg #[.int .i64 z,.int .i64 A,.slice f k.length i]/\H0 z/\H0 A/\New Q0 h b [.slice f k.length i] k/\k.length<=9223372036854775807) t b) (aI (λv D E c q=>by obtain⟨t,e,P⟩:=q;exact⟨t,e,(by obtain⟨f,i,e,l,m,f2,f3⟩:=P;exact⟨f,i,e,l,m,New.mono f2 c,f3⟩)⟩) (aI ?_ ?_)))
   ·intro eC fq
    rintro _ ⟨_,rfl,⟨ae,an,rfl,b8,ca,cY,cx⟩⟩
    exact aI y03 (aI (Sub.refl _) ⟨(.agg #[.int .i64 z,.int .i64 A,.slice ae k.length an]),rfl,⟨ae,an,rfl,b8,ca,cY,cx⟩⟩)
   refine Or.inr (eX (λv b=>∃(f:Option Addr) (i:Nat),v = .agg #[.int .i64 z,.int .i64 A,.slice f k.length i]/\H0 z/\H0 A/\New Q0 h b [.slice f k.length i] k/\k.length<=9223372036854775807) (aI (λv D E c q=>by obtain⟨f,i,e,l,m,f2,f3⟩:=q;exact⟨f,i,e,l,m,New.mono f2 c,f3⟩) (aI ?_ ?_)))
   ·intro eD fs
    rintro _ ⟨_,rfl,⟨aV,ba,rfl,cb,cc,cZ,cy⟩⟩
    exact aI y03 (aI (Sub.refl _) ⟨aV,ba,rfl,cb,cc,cZ,cy⟩)
   refine Or.inl (eX (.val (.bool Y)) (aI ?_ ?_))
   ·intro eE ft
    rintro _ ⟨_,rfl,⟨d4,el,rfl,et,eu,fm,e2⟩⟩
    exact aI rfl (aI rfl rfl)
   intro av V
   rintro _ ⟨ea,em,rfl,cd,ce,c0,e3⟩
   rintro _ _
   rintro _ _
   refine ifB a (λbI a=>?_) λbI a=>?_
   ·refine trM a (F4 _ _ _ (l0 p n (Q0.mono V o))) ?_
    rintro dt a fG co ⟨bu,e9,a3,rfl,I⟩
    have fA:Sub av co:=I.sub
    have aB:=I.r
    obtain⟨du,dv,dw⟩:=dt
    dsimp only at a I aB
    obtain⟨_,_,_,_,_,_,bd,bl,bN,bO,cK⟩:=C0 aB
    cases bd
    cases bl
    obtain⟨rfl,eS⟩:=Sl.len cK
    try dsimp only at a
    have df:=New.sndI (New.sndI (I))
    obtain rfl:=oJ a
    exact⟨([.int .i64 du,.int .i64 dv,.slice (some ⟨bu,0,none⟩) dw.length a3]),rfl,(New.pair (New.int bN) (New.pair (New.int bO) (New.from df V)))⟩
   ·refine trM a (k06 _ _ _ (l0 cd ce c0.r)) ?_
    rintro dx a fH cp ⟨ee,d3,fb,ek,rfl,J,aC⟩
    obtain⟨fQ,fR⟩:=dx
    dsimp only at a J aC
    have fB:Sub av cp:=J.sub
    have cL:=J.r
    obtain⟨dy,dz,aS,fa,a4,dA,rfl,rfl,bP,bQ,cM⟩:=C0 cL
    obtain⟨rfl,eT⟩:=Sl.len cM
    try dsimp only at a
    have dg:=New.sndI (New.sndI (J))
    obtain⟨rfl,eU⟩:=Sl.len aC
    obtain rfl:=oJ a
    exact⟨([.int .i64 dy,.int .i64 dz,.slice aS dA.length a4]),rfl,(New.pair (New.int bP) (New.pair (New.int bQ) (New.from dg V)))⟩
  ·refine trM a (q05 _ _ _ (l0 p n o)) ?_
   rintro aL a fI aw ⟨ab,fc,ak,rfl,T,s⟩
   obtain⟨rfl,eV⟩:=Sl.len T
   refine ifB a (λbJ a=>?_) λbJ a=>?_
   ·refine trM a (F4 _ _ _ (l0 p n (Q0.mono s o))) ?_
    rintro dC a fJ cq ⟨bv,fd,a5,rfl,L⟩
    have fD:Sub aw cq:=L.sub
    have aE:=L.r
    obtain⟨dD,dE,dF⟩:=dC
    dsimp only at a L aE
    obtain⟨_,_,_,_,_,_,bf,bn,bR,bS,cN⟩:=C0 aE
    cases bf
    cases bn
    obtain⟨rfl,eW⟩:=Sl.len cN
    try dsimp only at a
    have dh:=New.sndI (New.sndI (L))
    obtain rfl:=oJ a
    exact⟨([.int .i64 dD,.int .i64 dE,.slice (some ⟨bv,0,none⟩) dF.length a5]),rfl,(New.pair (New.int bR) (New.pair (New.int bS) (New.from dh s)))⟩
   ·refine trM a (h0e _ _ _ (l0 p n (Q0.mono s o))) ?_
    rintro dG a fK G ⟨ef,rfl,M⟩
    obtain⟨fS,fT⟩:=dG
    dsimp only at a M
    have C:Sub aw G:=M.sub
    have cO:=M.r
    obtain⟨dH,dI,aU,fe,a6,dJ,rfl,rfl,aq,ar,aF⟩:=C0 cO
    obtain⟨rfl,eY⟩:=Sl.len aF
    try dsimp only at a
    have di:=New.sndI (New.sndI (M))
    refine ifB a (λbK a=>?_) λbK a=>?_
    ·refine Or.inr (Or.inr (Or.inr (Or.inr (eX 16 (aI (aI (by kernel_rfl) (by kernel_rfl)) ?_)))))
     obtain⟨fU,bz,a⟩:=B0 a
     obtain⟨aZ,eg,bj,cQ⟩:=Sl.getI (r:=I1.toRp) (Q0.mono C T) bz (by decide)
     obtain⟨dN,fV,fW,rfl,rfl,bV,eo,ep⟩:=U1 cQ
     try dsimp only at a
     refine Or.inl (eX (.hel (.slice ab aL.length ak) 0 3 0) (aI ?_ ?_))
     ·intro eF fu
      exact aI aZ (aI rfl (aI rfl rfl))
     refine Or.inl (eX (.val (.int .i64 dN)) (aI ?_ ?_))
     ·intro eG dc
      exact eX _ (aI (J7.up dc bj) (aI rfl (aI rfl rfl)))
     obtain⟨fX,bA,a⟩:=B0 a
     obtain⟨a0,eh,bk,cR⟩:=Sl.getI (r:=I1.toRp) (Q0.mono C T) bA (by decide)
     obtain⟨fY,dO,fZ,rfl,rfl,eq,bW,er⟩:=U1 cR
     try dsimp only at a
     refine Or.inl (eX (.hel (.slice ab aL.length ak) 0 3 0) (aI ?_ ?_))
     ·intro eH fv
      exact aI a0 (aI rfl (aI rfl rfl))
     refine Or.inl (eX (.val (.int .i64 dO)) (aI ?_ ?_))
     ·intro eI dd
      exact eX _ (aI (J7.up dd bk) (aI rfl (aI rfl rfl)))
     obtain⟨dP,bB,a⟩:=B0 a
     obtain⟨aM,aN,aO⟩:=dP
     try dsimp only at a
     refine Or.inr (eX (λv b=>∃(_:Unit),v = .agg #[.int .i64 aM,.int .i64 aN,.int .i64 aO]/\H0 aM/\H0 aN/\H0 aO) (aI (λv D E c q=>by obtain⟨u,e,l,m,f2⟩:=q;exact⟨u,e,l,m,f2⟩) (aI ?_ ?_)))
     ·intro eJ fw
      refine Tr.mono (N09 _ _ bV _ bW _ n _ bB) ?_
      rintro _ ax ⟨ei,rfl,cS,c⟩
      obtain⟨f6,f7,f9,rfl,F,b3,b4,b5⟩:=U1 cS
      cases F
      exact aI y03 (aI c ⟨(),rfl,b3,b4,b5⟩)
     obtain⟨dQ,bC,a⟩:=B0 a
     obtain⟨dR,Z⟩:=dQ
     try dsimp only at a
     obtain⟨x,y,d⟩:=dR
     try dsimp only at a
     refine Or.inr (eX (λv b=>∃(w:Value),v = .tuple #[w,.bool Z]/\(λv b=>∃(g:Option Addr) (j:Nat),v = .agg #[.int .i64 x,.int .i64 y,.slice g d.length j]/\H0 x/\H0 y/\New Q0 G b [.slice g d.length j] d/\d.length<=9223372036854775807) w b) (aI (λv D E c q=>by obtain⟨w,e,Q⟩:=q;exact⟨w,e,(by obtain⟨g,j,e,l,m,f2,f3⟩:=Q;exact⟨g,j,e,l,m,New.mono f2 c,f3⟩)⟩) (aI ?_ ?_)))
     ·intro eK aJ
      rintro _ ⟨_,rfl,cf,cg,ch⟩
      refine Tr.mono (z0h _ _ _ (l0 aq ar (Q0.mono aJ aF)) _ _ (D1 cf cg ch) _ bC) ?_
      rintro _ ax ⟨ej,rfl,X⟩
      have c:=X.sub
      have cT:=X.r
      obtain⟨ga,gb,ad,fj,am,gc,rfl,F,b6,b7,cX⟩:=C0 cT
      cases F
      obtain⟨rfl,cw⟩:=Sl.len cX
      exact aI y03 (aI c ⟨(.agg #[.int .i64 x,.int .i64 y,.slice ad d.length am]),rfl,⟨ad,am,rfl,b6,b7,(New.from (New.sndI (New.sndI (X))) aJ),cw⟩⟩)
     refine Or.inr (eX (λv b=>∃(w:Value),v = .tuple #[w,.bool Z]/\(λv b=>∃(g:Option Addr) (j:Nat),v = .agg #[.int .i64 x,.int .i64 y,.slice g d.length j]/\H0 x/\H0 y/\New Q0 G b [.slice g d.length j] d/\d.length<=9223372036854775807) w b) (aI (λv D E c q=>by obtain⟨w,e,Q⟩:=q;exact⟨w,e,(by obtain⟨g,j,e,l,m,f2,f3⟩:=Q;exact⟨g,j,e,l,m,New.mono f2 c,f3⟩)⟩) (aI ?_ ?_)))
     ·intro eM fx
      rintro _ ⟨_,rfl,⟨af,ao,rfl,ci,cj,c1,cz⟩⟩
      exact aI y03 (aI (Sub.refl _) ⟨(.agg #[.int .i64 x,.int .i64 y,.slice af d.length ao]),rfl,⟨af,ao,rfl,ci,cj,c1,cz⟩⟩)
     refine Or.inr (eX (λv b=>∃(g:Option Addr) (j:Nat),v = .agg #[.int .i64 x,.int .i64 y,.slice g d.length j]/\H0 x/\H0 y/\New Q0 G b [.slice g d.length j] d/\d.length<=9223372036854775807) (aI (λv D E c q=>by obtain⟨g,j,e,l,m,f2,f3⟩:=q;exact⟨g,j,e,l,m,New.mono f2 c,f3⟩) (aI ?_ ?_)))
     ·intro eN fy
      rintro _ ⟨_,rfl,⟨aW,bb,rfl,ck,cl,c2,cA⟩⟩
      exact aI y03 (aI (Sub.refl _) ⟨aW,bb,rfl,ck,cl,c2,cA⟩)
     refine Or.inl (eX (.val (.bool Z)) (aI ?_ ?_))
     ·intro eO fz
      rintro _ ⟨_,rfl,⟨eb,en,rfl,ew,ex,fo,e4⟩⟩
      exact aI rfl (aI rfl rfl)
     intro cs aK
     rintro _ ⟨aX,bc,rfl,cm,cn,c3,e5⟩
     rintro _ _
     rintro _ _
     rintro _ _
     refine ifB a (λbL a=>?_) λbL a=>?_
     ·refine trM a (F4 _ _ _ (l0 p n (Q0.mono ((s.trans C).trans aK) o))) ?_
      rintro dT a fM ct ⟨bE,fg,a8,rfl,N⟩
      have fE:Sub cs ct:=N.sub
      have aG:=N.r
      obtain⟨dU,dV,dW⟩:=dT
      dsimp only at a N aG
      obtain⟨_,_,_,_,_,_,bg,bo,bX,bY,cU⟩:=C0 aG
      cases bg
      cases bo
      obtain⟨rfl,e0⟩:=Sl.len cU
      try dsimp only at a
      have dk:=New.sndI (New.sndI (N))
      obtain rfl:=oJ a
      exact⟨([.int .i64 dU,.int .i64 dV,.slice (some ⟨bE,0,none⟩) dW.length a8]),rfl,(New.pair (New.int bX) (New.pair (New.int bY) (New.from dk ((s.trans C).trans aK))))⟩
     ·obtain rfl:=oJ a
      exact⟨([.int .i64 x,.int .i64 y,.slice aX d.length bc]),rfl,(New.pair (New.int cm) (New.pair (New.int cn) (New.from c3 (s.trans C))))⟩
    ·refine ifB a (λbM a=>?_) λbM a=>?_
     ·refine trM a (F4 _ _ _ (l0 p n (Q0.mono (s.trans C) o))) ?_
      rintro dX a fN cu ⟨bF,fh,a9,rfl,O⟩
      have fF:Sub G cu:=O.sub
      have aH:=O.r
      obtain⟨dY,dZ,d1⟩:=dX
      dsimp only at a O aH
      obtain⟨_,_,_,_,_,_,bh,bp,bZ,b0,cV⟩:=C0 aH
      cases bh
      cases bp
      obtain⟨rfl,e1⟩:=Sl.len cV
      try dsimp only at a
      have dm:=New.sndI (New.sndI (O))
      obtain rfl:=oJ a
      exact⟨([.int .i64 dY,.int .i64 dZ,.slice (some ⟨bF,0,none⟩) d1.length a9]),rfl,(New.pair (New.int bZ) (New.pair (New.int b0) (New.from dm (s.trans C))))⟩
     ·obtain rfl:=oJ a
      exact⟨([.int .i64 dH,.int .i64 dI,.slice aU dJ.length a6]),rfl,(New.pair (New.int aq) (New.pair (New.int ar) (New.from di s)))⟩
theorem i0e(h:Hp)(aj:List Value)(ao:j0)(a5:F1.R h aj ao)(r:j0×J0)(c:C01 ao=some r):
  Tr Tryz.prog 221 #[.agg aj.toArray] h λv h'=>∃(ai:List Value) (ag:Option Addr) (an ah:Nat),v = .tuple #[.agg ai.toArray,.slice ag an ah]/\F1.R h' ai r.1/\O0.R h' [.slice ag an ah] r.2/\Sub h h':=by
 obtain⟨A,C,aA,bz,aF,D,rfl,rfl,U,V,O⟩:=C0 a5
 obtain⟨rfl,bp⟩:=Sl.len O
 unfold C01 at c
 dsimp only at c
 refine G2 (args:=[.agg #[.int .i64 A,.int .i64 C,.slice aA D.length aF]]) (fn:=Tryz.f221) rfl ?_
 refine trM c (Q4 _ _ _ (l0 U V O)) ?_
 rintro bL c bH W ⟨bg,rfl,ax⟩
 have S:Sub h W:=ax.sub
 have a6:=ax.r
 obtain⟨ba,bb,aB,bA,aG,ay,rfl,rfl,a1,a2,ap⟩:=C0 a6
 obtain⟨rfl,bs⟩:=Sl.len ap
 try dsimp only at c
 obtain⟨af,aV,c⟩:=B0 c
 refine eX { vars:=[6],boxes:=[],owns:=[0],fuel:=true } (eX (λvs os h'=>∃ e T k,vs.tail = [.int .i64 e]/\os = [T]/\Sub W h'/\H0 e/\F2 (Wp.int.R h') T k/\M6 C A D (O1 vs) e k=some af) (eX (λ_ _=>0) (aI (eX V0 ⟨0,[],([]:J0),rfl,rfl,(Sub.refl _),(by decide),(show F2 (Wp.int.R W) ([]:List (List Value)) ([]:J0) from trivial),aV⟩) ?_)))
 rintro _ T N Y ⟨e,bS,k,⟨⟩,⟨⟩,l,al,I,a⟩
 replace a:M6 C A D N e k=some af:=a
 obtain _|N:=N
 ·cases a
 rw[M6.eq_2]at a
 refine trG a (λq=>P6 _ _ _ (l0 U V (Q0.mono (S.trans l) O))) λbP a=>?_
 refine ifB a (λaW a=>?_) λaW a=>?_
 ·obtain⟨bC,aO,a⟩:=B0 a
  refine aI (Q1 aO (by first|rw[F2.length I,F2.length (show F2 (Wp.int.R Y) ([[.int .i64 e]]:List (List Value)) [e] from⟨⟨rfl,al⟩,trivial⟩)]|exact congrArg (·+1) (F2.length I))) ?_
  exact D2 N ⟨(IntKind.i64.wrap (e+1)),(T++([[.int .i64 e]]:List (List Value))),(k ++ [e]),rfl,rfl,l,(K0 _),(F2.append I (show F2 (Wp.int.R Y) ([[.int .i64 e]]:List (List Value)) [e] from⟨⟨rfl,al⟩,trivial⟩)),a⟩
 ·obtain rfl:=oJ a
  try dsimp only[Y0,C1]at c
  obtain⟨ad,aS,c⟩:=B0 c
  refine eX { vars:=[5,7],boxes:=[2],owns:=[],fuel:=true,pubs:=[5] } (eX (λvs os h'=>∃(s:Option Addr) (Z u:Nat) (g:J0) (m:Int) (j:Int) (f:Int) (t:Option Addr) (aa w:Nat) (n:Z0),vs.tail = [.slice s Z u,.int .i64 m,.int .i64 j,.int .i64 f,.slice t aa w]/\os = []/\Sub Y h'/\O0.R h' [.slice s Z u] g/\H0 m/\H0 j/\H0 f/\Q0.R h' [.slice t aa w] n/\L6 A C D (O1 vs) g m j f n=some ad) (eX (λ_ _=>0) ?_))
  intro bG bl aL
  obtain⟨aD,aJ,rfl,a7,av,bu⟩:=W0.out (r:=Wp.int.toRp) aL I
  refine aI (eX V0 ⟨aD,k.length,aJ,k,0,ba,bb,aB,ay.length,aG,ay,rfl,rfl,av,a7,(by decide),a1,a2,(Q0.mono (l.trans av) ap),aS⟩) ?_
  rintro _ _ _ _ _ M X ⟨s,Z,u,g,m,j,f,t,aa,w,n,⟨⟩,⟨⟩,Q,P,bj,J,K,E,a⟩
  replace a:L6 A C D M g m j f n=some ad:=a
  obtain _|M:=M
  ·cases a
  rw[L6.eq_2]at a
  obtain⟨rfl,bq⟩:=Sl.len P
  obtain⟨rfl,br⟩:=Sl.len E
  refine trG a (λq=>P6 _ _ _ (l0 U V (Q0.mono ((S.trans l).trans Q) O))) λbM a=>?_
  refine ifB a (λaX a=>?_) λaX a=>?_
  ·refine trV a (Q0a _ _ _ (l0 J K E)) λac a=>?_
   obtain⟨bD,aP,a⟩:=B0 a
   have bk:H0 ac:=M0 aP
   refine ifB a (λaY a=>?_) λaY a=>?_
   ·obtain rfl:=oJ a
    try dsimp only[M2,N2]at c
    obtain rfl:=oJ c
    exact⟨([.int .i64 j,.int .i64 f,.slice t n.length w]),s,g.length,u,rfl,(l0 J K E),P,((S.trans l).trans Q)⟩
   ·obtain⟨ae,aU,a⟩:=B0 a
    refine eX { vars:=[11],boxes:=[],owns:=[1,2],fuel:=true } (eX (λvs os h'=>∃ d G o H i,vs.tail = [.int .i64 d]/\os = [G,H]/\Sub X h'/\H0 d/\F2 (Wp.int.R h') G o/\F2 (Wp.int.R h') H i/\c6 f ac g (O1 vs) d o i=some ae) (eX (λ_ _=>0) (aI (eX V0 ⟨0,[],([]:J0),[],([]:J0),rfl,rfl,(Sub.refl _),(by decide),(show F2 (Wp.int.R X) ([]:List (List Value)) ([]:J0) from trivial),(show F2 (Wp.int.R X) ([]:List (List Value)) ([]:J0) from trivial),aU⟩) ?_)))
    rintro _ G H z L ⟨d,bQ,o,bR,i,⟨⟩,⟨⟩,F,ak,x,y,b⟩
    replace b:c6 f ac g z d o i=some ae:=b
    obtain _|z:=z
    ·cases b
    rw[c6.eq_2]at b
    refine ifB b (λaZ b=>?_) λaZ b=>?_
    ·refine ifB b (λa0 b=>?_) λa0 b=>?_
     ·obtain⟨bE,aQ,b⟩:=B0 b
      refine aI (Q1 aQ (by first|rw[F2.length x,F2.length (show F2 (Wp.int.R L) ([[.int .i64 d]]:List (List Value)) [d] from⟨⟨rfl,ak⟩,trivial⟩)]|exact congrArg (·+1) (F2.length x))) ?_
      refine ldI b (O0.mono F P) λp am b=>?_
      obtain⟨bF,aR,b⟩:=B0 b
      refine aI (Q1 aR (by first|rw[F2.length y,F2.length (show F2 (Wp.int.R L) ([[.int .i64 p]]:List (List Value)) [p] from⟨⟨rfl,am⟩,trivial⟩)]|exact congrArg (·+1) (F2.length y))) ?_
      exact D2 z ⟨(IntKind.i64.wrap (d+1)),(G++([[.int .i64 d]]:List (List Value))),(o ++ [d]),(H++([[.int .i64 p]]:List (List Value))),(i ++ [p]),rfl,rfl,F,(K0 _),(F2.append x (show F2 (Wp.int.R L) ([[.int .i64 d]]:List (List Value)) [d] from⟨⟨rfl,ak⟩,trivial⟩)),(F2.append y (show F2 (Wp.int.R L) ([[.int .i64 p]]:List (List Value)) [p] from⟨⟨rfl,am⟩,trivial⟩)),b⟩
     ·exact D2 z ⟨(IntKind.i64.wrap (d+1)),G,o,H,i,rfl,rfl,F,(K0 _),x,y,b⟩
    ·obtain rfl:=oJ b
     try dsimp only[Y0,C1]at a
     refine Or.inl ?_
     intro bI bm aM
     obtain⟨bf,bi,rfl,a8,ab,bv⟩:=W0.out (r:=Wp.int.toRp) aM x
     refine trM a (c05 _ _ _ (l0 J K (Q0.mono (F.trans ab) E)) _ _ _ _ a8) ?_
     rintro bc a bJ bn ⟨bh,rfl,aq,au⟩
     obtain⟨bN,bO⟩:=bc
     dsimp only at a aq
     obtain⟨bd,be,aC,bB,aH,az,rfl,rfl,a3,a4,ar⟩:=C0 aq
     obtain⟨rfl,bt⟩:=Sl.len ar
     try dsimp only at a
     intro bK bo aN
     obtain⟨aE,aK,rfl,a9,aw,bx⟩:=W0.out (r:=Wp.int.toRp) aN (F2.up (r:=Wp.int.toRp) (ab.trans au) y)
     exact D2 M ⟨aE,i.length,aK,i,(IntKind.i64.wrap (m+1)),bd,be,aC,az.length,aH,az,rfl,rfl,((((Q.trans F).trans ab).trans au).trans aw),a9,(K0 _),a3,a4,(Q0.mono aw ar),a⟩
  ·obtain rfl:=oJ a
   try dsimp only[Y0,C1]at c
   obtain rfl:=oJ c
   exact⟨([.int .i64 j,.int .i64 f,.slice t n.length w]),s,g.length,u,rfl,(l0 J K E),P,((S.trans l).trans Q)⟩
theorem j0e(h:Hp)(c:List Value)(d:j0)(F:F1.R h c d)(r:j0)(a:x00 d=some r):
  Tr Tryz.prog 137 #[.agg c.toArray] h λv h'=>∃(b:List Value),v = .agg b.toArray/\F1.R h' b r/\Sub h h':=by
 obtain⟨C,D,n,ak,p,E,rfl,rfl,s,t,e⟩:=C0 F
 obtain⟨rfl,ae⟩:=Sl.len e
 unfold x00 at a
 dsimp only at a
 refine G2 (args:=[.agg #[.int .i64 C,.int .i64 D,.slice n E.length p]]) (fn:=Tryz.f137) rfl ?_
 refine trM a (d04 _ _ _ (l0 s t e)) ?_
 rintro K a aq ab ⟨U,Q,am,Y,rfl,f,i,H⟩
 obtain⟨av,az⟩:=K
 dsimp only at a f i
 obtain⟨aw,ax,P,al,X,ay,rfl,rfl,u,w,g⟩:=C0 f
 obtain⟨rfl,af⟩:=Sl.len g
 try dsimp only at a
 obtain⟨rfl,ag⟩:=Sl.len i
 refine trM a (i0e _ _ _ (l0 u w g)) ?_
 rintro L a ar ac ⟨V,T,ao,aa,rfl,j,l,I⟩
 obtain⟨aA,aE⟩:=L
 dsimp only at a j l
 obtain⟨aB,aC,S,an,Z,aD,rfl,rfl,x,y,k⟩:=C0 j
 obtain⟨rfl,ah⟩:=Sl.len k
 try dsimp only at a
 obtain⟨rfl,ai⟩:=Sl.len l
 refine trM a (k04 _ _ _ (l0 x y k)) ?_
 rintro aF a au ad ⟨W,rfl,G,J⟩
 obtain⟨M,N,o,ap,q,O,rfl,rfl,z,A,m⟩:=C0 G
 obtain⟨rfl,aj⟩:=Sl.len m
 try dsimp only at a
 obtain rfl:=oJ a
 exact⟨([.int .i64 M,.int .i64 N,.slice o O.length q]),rfl,(l0 z A m),((H.trans I).trans J)⟩
theorem k0e(h:Hp)(f:List Value)(j:j0)(I:F1.R h f j)(r:j0)(a:y00 j=some r):
  Tr Tryz.prog 88 #[.agg f.toArray] h λv h'=>∃(e:List Value),v = .agg e.toArray/\New F1 h h' e r:=by
 obtain⟨F,G,p,an,s,H,rfl,rfl,u,w,k⟩:=C0 I
 obtain⟨rfl,ah⟩:=Sl.len k
 unfold y00 at a
 dsimp only at a
 refine G2 (args:=[.agg #[.int .i64 F,.int .i64 G,.slice p H.length s]]) (fn:=Tryz.f88) rfl ?_
 refine trM a (k06 _ _ _ (l0 u w k)) ?_
 rintro Q a ax g ⟨aa,X,ap,ae,rfl,b,m⟩
 obtain⟨aB,aF⟩:=Q
 dsimp only at a b m
 have N:Sub h g:=b.sub
 have J:=b.r
 obtain⟨aC,aD,W,ao,ad,aE,rfl,rfl,x,y,l⟩:=C0 J
 obtain⟨rfl,ai⟩:=Sl.len l
 try dsimp only at a
 have az:=New.sndI (New.sndI (b))
 obtain⟨rfl,aj⟩:=Sl.len m
 refine trM a (Q07 _ _ _ (l0 x y l)) ?_
 rintro S a ay i ⟨ab,Z,ar,ag,rfl,c,o⟩
 obtain⟨aG,aL⟩:=S
 dsimp only at a c o
 have O:Sub g i:=c.sub
 have K:=c.r
 obtain⟨aH,aJ,Y,aq,af,aK,rfl,rfl,z,A,n⟩:=C0 K
 obtain⟨rfl,ak⟩:=Sl.len n
 try dsimp only at a
 have aA:=New.sndI (New.sndI (c))
 obtain⟨rfl,al⟩:=Sl.len o
 refine trM a (l04 _ _ _ (l0 z A n)) ?_
 rintro aM a aw E ⟨ac,rfl,d⟩
 have av:Sub i E:=d.sub
 have L:=d.r
 obtain⟨T,U,q,au,t,V,rfl,rfl,C,D,M⟩:=C0 L
 obtain⟨rfl,am⟩:=Sl.len M
 try dsimp only at a
 have P:=New.sndI (New.sndI (d))
 obtain rfl:=oJ a
 exact⟨([.int .i64 T,.int .i64 U,.slice q V.length t]),rfl,(New.pair (New.int C) (New.pair (New.int D) (New.from P (N.trans O))))⟩
theorem k00(h:Hp)(D:List Value)(H:D0)(av:T1.R h D H)(l:Option Addr)(G n:Nat)(w:O2)(I:Q2.R h [.slice l G n] w)(r:j0×Bool)(a:i5 H w=some r):
  Tr Tryz.prog 58 #[.agg D.toArray,.slice l G n] h λv h'=>∃(C:List Value),v = .tuple #[.agg C.toArray,.bool r.2]/\F1.R h' C r.1/\Sub h h':=by
 obtain⟨t,U,a2,Y,u,rfl,rfl,p,x⟩:=J1 av
 obtain⟨rfl,aU⟩:=Sl.len x
 obtain⟨rfl,aV⟩:=Sl.len I
 unfold i5 at a
 dsimp only at a
 refine G2 (args:=[.agg #[.int .i64 t,.slice U u.length Y],.slice l w.length n]) (fn:=Tryz.f58) rfl ?_
 refine trM a (f0f _ _ p _ _ _ _ I) ?_
 rintro ay a ba ar ⟨aM,rfl,L,c⟩
 obtain⟨bf,bj⟩:=ay
 dsimp only at a L
 obtain⟨bg,bh,aJ,a4,aP,bi,rfl,rfl,aj,ak,M⟩:=C0 L
 obtain⟨rfl,aY⟩:=Sl.len M
 try dsimp only at a
 refine trG a (λq=>g9 _ _ _ (S0 p (Q2.mono c x))) λbl a=>?_
 refine ifB a (λag a=>?_) λag a=>?_
 ·obtain rfl:=oJ a
  exact⟨([.int .i64 0,.int .i64 0,.slice none 0 0]),rfl,(l0 (by decide) (by decide) (n0g I1 ar)),c⟩
 ·refine trM a (d04 _ _ _ (l0 aj ak M)) ?_
  rintro aF a bb au ⟨aO,aK,a7,aQ,rfl,O,Q,j⟩
  obtain⟨bm,bn⟩:=aF
  dsimp only at a O Q
  obtain⟨aG,aH,X,a6,ab,T,rfl,rfl,an,ao,P⟩:=C0 O
  obtain⟨rfl,a0⟩:=Sl.len P
  try dsimp only at a
  obtain⟨rfl,a1⟩:=Sl.len Q
  obtain⟨A,ac,a⟩:=B0 a
  refine eX { vars:=[10],boxes:=[3],owns:=[],fuel:=true } (eX (λvs os h'=>∃ d f g m s o k,vs.tail = [.int .i64 d,.int .i64 f,.int .i64 g,.slice m s o]/\os = []/\Sub au h'/\H0 d/\H0 f/\H0 g/\Q0.R h' [.slice m s o] k/\T3 t u (O1 vs) d f g k=some A) (eX (λ_ _=>0) (aI (eX V0 ⟨0,aG,aH,X,T.length,ab,T,rfl,rfl,(Sub.refl _),(by decide),an,ao,P,ac⟩) ?_)))
  rintro _ _ _ _ i ap ⟨d,f,g,m,s,o,k,⟨⟩,⟨⟩,e,aR,ah,ai,J,b⟩
  replace b:T3 t u i d f g k=some A:=b
  obtain _|i:=i
  ·cases b
  rw[T3.eq_2]at b
  obtain⟨rfl,aW⟩:=Sl.len J
  refine ifB b (λad b=>?_) λad b=>?_
  ·refine trM b (j06 _ _ _ (S0 p (Q2.mono ((c.trans j).trans e) x)) _ _ (l0 ah ai J)) ?_
   rintro az b a8 aq ⟨aL,rfl,K,z⟩
   obtain⟨bc,bd,be⟩:=az
   dsimp only at b K
   obtain⟨aA,aB,V,a3,Z,S,rfl,rfl,E,F,y⟩:=C0 K
   obtain⟨rfl,aX⟩:=Sl.len y
   try dsimp only at b
   refine ifB b (λae b=>?_) λae b=>?_
   ·obtain rfl:=oJ b
    try dsimp only[M2,N2]at a
    obtain rfl:=oJ a
    exact⟨([.int .i64 0,.int .i64 0,.slice none 0 0]),rfl,(l0 (by decide) (by decide) (n0g I1 aq)),(((c.trans j).trans e).trans z)⟩
   ·refine ifB b (λaf b=>?_) λaf b=>?_
    ·refine trM b (j0e _ _ _ (l0 E F y)) ?_
     rintro bk b a9 aS ⟨aN,rfl,aw,ax⟩
     obtain⟨aC,aD,W,a5,aa,aE,rfl,rfl,al,am,N⟩:=C0 aw
     obtain⟨rfl,aZ⟩:=Sl.len N
     try dsimp only at b
     obtain rfl:=oJ b
     try dsimp only[M2,N2]at a
     obtain rfl:=oJ a
     exact⟨([.int .i64 aC,.int .i64 aD,.slice W aE.length aa]),rfl,(l0 al am N),((((c.trans j).trans e).trans z).trans ax)⟩
    ·exact D2 i ⟨(IntKind.i64.wrap (d+1)),aA,aB,V,S.length,Z,S,rfl,rfl,(e.trans z),(K0 _),E,F,y,b⟩
  ·obtain rfl:=oJ b
   try dsimp only[Y0,C1]at a
   obtain rfl:=oJ a
   exact⟨([.int .i64 0,.int .i64 0,.slice none 0 0]),rfl,(l0 (by decide) (by decide) (n0g I1 ap)),((c.trans j).trans e)⟩
theorem m06(h:Hp)(e:List Value)(g:D0)(t:T1.R h e g)(b:Option Addr)(f c:Nat)(d:O2)(j:Q2.R h [.slice b f c] d)(r:Int)(a:z9 g d=some r):
  Tr Tryz.prog 60 #[.agg e.toArray,.slice b f c] h λv h'=>v = .int .i64 r/\h'=h:=by
 obtain⟨q,m,H,n,s,rfl,rfl,p,i⟩:=J1 t
 obtain⟨rfl,E⟩:=Sl.len i
 obtain⟨rfl,F⟩:=Sl.len j
 unfold z9 at a
 dsimp only at a
 refine Tr.forget (G2 (args:=[.agg #[.int .i64 q,.slice m s.length n],.slice b d.length c]) (fn:=Tryz.f60) rfl ?_)
 refine trM a (k00 _ _ _ (S0 p i) _ _ _ _ j) ?_
 rintro w a J D ⟨y,rfl,k,l⟩
 obtain⟨K,O⟩:=w
 dsimp only at a k
 obtain⟨L,M,x,I,z,N,rfl,rfl,A,C,u⟩:=C0 k
 obtain⟨rfl,G⟩:=Sl.len u
 try dsimp only at a
 refine ifB a (λo a=>?_) λo a=>?_
 ·obtain rfl:=oJ a
  exact aI rfl l
 ·obtain rfl:=oJ a
  exact aI rfl l
theorem n06(h:Hp)(b:List Value)(c:D0)(m:T1.R h b c)(r:Int)(a:A9 c=some r):
  Tr Tryz.prog 66 #[.agg b.toArray] h λv h'=>v = .int .i64 r/\h'=h:=by
 obtain⟨k,e,y,f,l,rfl,rfl,j,d⟩:=J1 m
 obtain⟨rfl,w⟩:=Sl.len d
 unfold A9 at a
 dsimp only at a
 refine Tr.forget (G2 (args:=[.agg #[.int .i64 k,.slice e l.length f]]) (fn:=Tryz.f66) rfl ?_)
 refine Or.inr ?_
 intro A u f3
 obtain⟨q,s,rfl,n,o,x⟩:=W0.out (r:=O0.toRp) f3 (show F2 (O0.R h) ([]:List (List Value)) ([]:O2) from trivial)
 obtain⟨p,i,a⟩:=B0 a
 refine Tr.val (m06 _ _ _ (S0 j (Q2.mono o d)) _ _ _ _ n _  i) (aI rfl ?_)
 obtain⟨z,g,a⟩:=B0 a
 have t:H0 p:=M0 g
 obtain rfl:=oJ a
 exact aI rfl (Sub.refl _)
theorem l0f(h:Hp)(n:List Value)(t:j0)(M:F1.R h n t)(f:Option Addr)(s g:Nat)(i:J0)(u:O0.R h [.slice f s g] i)(r:Bool)(b:d01 t i=some r):
  Tr Tryz.prog 90 #[.agg n.toArray,.slice f s g] h λv h'=>v = .bool r/\h'=h:=by
 obtain⟨J,K,z,aj,C,L,rfl,rfl,o,p,j⟩:=C0 M
 obtain⟨rfl,af⟩:=Sl.len j
 obtain⟨rfl,ag⟩:=Sl.len u
 unfold d01 at b
 dsimp only at b
 refine Tr.forget (G2 (args:=[.agg #[.int .i64 J,.int .i64 K,.slice z L.length C],.slice f i.length g]) (fn:=Tryz.f90) rfl ?_)
 refine Or.inr (Or.inr (Or.inr (Or.inl (aI (aI (by kernel_rfl) (by kernel_rfl)) ?_))))
 obtain⟨d,F,b⟩:=B0 b
 refine Or.inr (eX (λv H=>∃(a:Option Addr) (c:Nat),v = .slice a d.length c/\O0.R H [.slice a d.length c] d/\d.length<=9223372036854775807) (aI (λv W X k q=>by obtain⟨a,c,e,r,l⟩:=q;exact⟨a,c,e,O0.mono k r,l⟩) (aI ?_ ?_)))
 ·intro ab O
  refine Tr.mono (H02 _ _ _ _ _ (O0.mono O u) _ F) ?_
  rintro _ ae ⟨A,ak,D,rfl,w,k⟩
  obtain⟨rfl,I⟩:=Sl.len w
  exact aI y03 (aI k ⟨A,D,rfl,w,I⟩)
 obtain⟨Q,G,b⟩:=B0 b
 obtain⟨m,y⟩:=Q
 try dsimp only at b
 obtain⟨al,E,b⟩:=B0 b
 have Y:H0 m:=M0 E
 refine Or.inl (eX (.val (.tuple #[.int .i64 m,.bool y])) (aI ?_ ?_))
 ·intro ac P
  rintro _ ⟨T,V,rfl,N,ai⟩
  exact Tr.val (P08 _ _ _ (l0 o p (Q0.mono P j)) 0 (by decide) _ _ _ _ N _ G) (aI rfl (aI rfl rfl))
 refine Or.inl (eX (.val (.int .i64 m)) (aI ?_ ?_))
 ·intro ad an
  exact aI rfl (aI rfl rfl)
 refine Or.inl (eX (.val (.bool y)) (aI ?_ ?_))
 ·intro Z ao
  exact aI rfl (aI rfl rfl)
 intro aa x
 rintro _ ⟨S,U,rfl,am,ah⟩
 refine trV b (U0c _ _ _ (l0 o p (Q0.mono x j))) λap b=>?_
 obtain rfl:=oJ b
 exact aI rfl x
theorem z0b(h:Hp)(i:List Value)(l:D0)(z:T1.R h i l)(d:Option Addr)(k e:Nat)(f:J0)(g:O0.R h [.slice d k e] f)(r:Bool×Bool)(a:L00 l f=some r):
  Tr Tryz.prog 78 #[.agg i.toArray,.slice d k e] h λv h'=>v = .tuple #[.bool r.1,.bool r.2]/\h'=h:=by
 obtain⟨x,p,O,s,y,rfl,rfl,j,m⟩:=J1 z
 obtain⟨rfl,K⟩:=Sl.len m
 obtain⟨rfl,L⟩:=Sl.len g
 unfold L00 at a
 dsimp only at a
 refine Tr.forget (G2 (args:=[.agg #[.int .i64 x,.slice p y.length s],.slice d f.length e]) (fn:=Tryz.f78) rfl ?_)
 refine Or.inl ?_
 intro Q I f3
 obtain⟨E,H,rfl,A,b,N⟩:=W0.out (r:=O0.toRp) f3 (show F2 (O0.R h) ([]:List (List Value)) ([]:O2) from trivial)
 refine trM a (k00 _ _ _ (S0 j (Q2.mono b m)) _ _ _ _ A) ?_
 rintro C a S J ⟨F,rfl,n,c⟩
 obtain⟨U,Y⟩:=C
 dsimp only at a n
 obtain⟨V,W,D,P,G,X,rfl,rfl,u,w,o⟩:=C0 n
 obtain⟨rfl,M⟩:=Sl.len o
 try dsimp only at a
 refine trG a (λq=>d07 _ _ j _ _ _ _ (O0.mono (b.trans c) g)) λZ a=>?_
 refine ifB a (λt a=>?_) λt a=>?_
 ·obtain rfl:=oJ a
  exact aI rfl (b.trans c)
 ·refine trV a (l0f _ _ _ (l0 u w o) _ _ _ _ (O0.mono (b.trans c) g)) λT a=>?_
  obtain rfl:=oJ a
  exact aI rfl (b.trans c)
theorem V01(h:Hp)(G:List Value)(N:D0)(au:T1.R h G N)(p:Option Addr)(M s:Nat)(z:O2)(O:Q2.R h [.slice p M s] z)(r:j0×Bool)(a:d6 N z=some r):
  Tr Tryz.prog 57 #[.agg G.toArray,.slice p M s] h λv h'=>∃(F:List Value),v = .tuple #[.agg F.toArray,.bool r.2]/\New F1 h h' F r.1:=by
 obtain⟨x,U,a9,Y,y,rfl,rfl,u,A⟩:=J1 au
 obtain⟨rfl,a1⟩:=Sl.len A
 obtain⟨rfl,a2⟩:=Sl.len O
 unfold d6 at a
 dsimp only at a
 refine G2 (args:=[.agg #[.int .i64 x,.slice U y.length Y],.slice p z.length s]) (fn:=Tryz.f57) rfl ?_
 refine trV a (i9 _ _ _ (S0 u A)) λbl a=>?_
 refine ifB a (λae a=>?_) λae a=>?_
 ·obtain rfl:=oJ a
  exact⟨([.int .i64 0,.int .i64 0,.slice none 0 0]),rfl,(New.pair (New.int (by decide)) (New.pair (New.int (by decide)) ((New.nilSlice (r:=I1)).mono (Sub.refl _))))⟩
 ·refine trM a (j0f _ _ u _ _ _ _ O) ?_
  rintro aN a bj K ⟨aW,rfl,n⟩
  obtain⟨bq,bu⟩:=aN
  dsimp only at a n
  have c:Sub h K:=n.sub
  have az:=n.r
  obtain⟨br,bs,aR,bc,aY,bt,rfl,rfl,am,an,P⟩:=C0 az
  obtain⟨rfl,a6⟩:=Sl.len P
  try dsimp only at a
  have bk:=New.sndI (New.sndI (n))
  refine ifB a (λah a=>?_) λah a=>?_
  ·obtain rfl:=oJ a
   exact⟨([.int .i64 0,.int .i64 0,.slice none 0 0]),rfl,(New.pair (New.int (by decide)) (New.pair (New.int (by decide)) ((New.nilSlice (r:=I1)).mono c)))⟩
  ·refine trM a (k06 _ _ _ (l0 am an P)) ?_
   rintro aO a bg L ⟨aX,aS,be,aZ,rfl,o,Q⟩
   obtain⟨bv,bx⟩:=aO
   dsimp only at a o Q
   have f:Sub K L:=o.sub
   have aA:=o.r
   obtain⟨aP,aQ,X,bd,ab,T,rfl,rfl,ao,ap,aB⟩:=C0 aA
   obtain⟨rfl,a7⟩:=Sl.len aB
   try dsimp only at a
   have aC:=New.sndI (New.sndI (o))
   obtain⟨rfl,a8⟩:=Sl.len Q
   obtain⟨E,ac,a⟩:=B0 a
   refine eX { vars:=[8],boxes:=[2],owns:=[],fuel:=true } (eX (λvs os h'=>∃ e g i q w t l,vs.tail = [.int .i64 e,.int .i64 g,.int .i64 i,.slice q w t]/\os = []/\Sub L h'/\H0 e/\H0 g/\H0 i/\New Q0 h h' [.slice q w t] l/\U3 x y (O1 vs) e g i l=some E) (eX (λ_ _=>0) (aI (eX V0 ⟨0,aP,aQ,X,T.length,ab,T,rfl,rfl,(Sub.refl _),(by decide),ao,ap,(New.from aC c),ac⟩) ?_)))
   rintro _ _ _ _ j aq ⟨e,g,i,q,w,t,l,⟨⟩,⟨⟩,d,a0,H,I,aF,b⟩
   replace b:U3 x y j e g i l=some E:=b
   obtain _|j:=j
   ·cases b
   rw[U3.eq_2]at b
   have C:=aF.r
   obtain⟨rfl,a3⟩:=Sl.len C
   refine ifB b (λad b=>?_) λad b=>?_
   ·refine trM b (l06 _ _ _ (S0 u (Q2.mono ((c.trans f).trans d) A)) _ _ (l0 H I C)) ?_
    rintro aG b bh J ⟨aU,rfl,m⟩
    obtain⟨bm,bn,bo⟩:=aG
    dsimp only at b m
    have k:Sub aq J:=m.sub
    have av:=m.r
    obtain⟨aH,aJ,V,ba,Z,S,rfl,rfl,ai,aj,aw⟩:=C0 av
    obtain⟨rfl,a4⟩:=Sl.len aw
    try dsimp only at b
    have aD:=New.sndI (New.sndI (m))
    refine ifB b (λaf b=>?_) λaf b=>?_
    ·obtain rfl:=oJ b
     try dsimp only[M2,N2]at a
     obtain rfl:=oJ a
     exact⟨([.int .i64 0,.int .i64 0,.slice none 0 0]),rfl,(New.pair (New.int (by decide)) (New.pair (New.int (by decide)) ((New.nilSlice (r:=I1)).mono (((c.trans f).trans d).trans k))))⟩
    ·refine ifB b (λag b=>?_) λag b=>?_
     ·refine trM b (k0e _ _ _ (l0 H I (Q0.mono k C))) ?_
      rintro bp b bi ar ⟨aV,rfl,D⟩
      have bf:Sub J ar:=D.sub
      have ax:=D.r
      obtain⟨aK,aL,W,bb,aa,aM,rfl,rfl,ak,al,ay⟩:=C0 ax
      obtain⟨rfl,a5⟩:=Sl.len ay
      try dsimp only at b
      have aE:=New.sndI (New.sndI (D))
      obtain rfl:=oJ b
      try dsimp only[M2,N2]at a
      obtain rfl:=oJ a
      exact⟨([.int .i64 aK,.int .i64 aL,.slice W aM.length aa]),rfl,(New.pair (New.int ak) (New.pair (New.int al) (New.from aE (((c.trans f).trans d).trans k))))⟩
     ·exact D2 j ⟨(IntKind.i64.wrap (e+1)),aH,aJ,V,S.length,Z,S,rfl,rfl,(d.trans k),(K0 _),ai,aj,(New.from aD ((c.trans f).trans d)),b⟩
   ·obtain rfl:=oJ b
    try dsimp only[Y0,C1]at a
    obtain rfl:=oJ a
    exact⟨([.int .i64 0,.int .i64 0,.slice none 0 0]),rfl,(New.pair (New.int (by decide)) (New.pair (New.int (by decide)) ((New.nilSlice (r:=I1)).mono ((c.trans f).trans d))))⟩
theorem o06(h:Hp)(f:List Value)(i:D0)(u:T1.R h f i)(b:Option Addr)(g c:Nat)(d:O2)(k:Q2.R h [.slice b g c] d)(r:Int)(a:B9 i d=some r):
  Tr Tryz.prog 59 #[.agg f.toArray,.slice b g c] h λv h'=>v = .int .i64 r/\h'=h:=by
 obtain⟨s,m,I,n,t,rfl,rfl,p,j⟩:=J1 u
 obtain⟨rfl,F⟩:=Sl.len j
 obtain⟨rfl,G⟩:=Sl.len k
 unfold B9 at a
 dsimp only at a
 refine Tr.forget (G2 (args:=[.agg #[.int .i64 s,.slice m t.length n],.slice b d.length c]) (fn:=Tryz.f59) rfl ?_)
 refine trM a (V01 _ _ _ (S0 p j) _ _ _ _ k) ?_
 rintro y a K q ⟨A,rfl,e⟩
 obtain⟨L,P⟩:=y
 dsimp only at a e
 have l:Sub h q:=e.sub
 have w:=e.r
 obtain⟨M,N,z,J,C,O,rfl,rfl,D,E,x⟩:=C0 w
 obtain⟨rfl,H⟩:=Sl.len x
 try dsimp only at a
 refine ifB a (λo a=>?_) λo a=>?_
 ·obtain rfl:=oJ a
  exact aI rfl l
 ·obtain rfl:=oJ a
  exact aI rfl l
theorem A0b(h:Hp)(b:List Value)(c:D0)(l:T1.R h b c)(r:Int)(a:M00 c=some r):
  Tr Tryz.prog 79 #[.agg b.toArray] h λv h'=>v = .int .i64 r/\h'=h:=by
 obtain⟨j,e,p,f,k,rfl,rfl,i,d⟩:=J1 l
 obtain⟨rfl,o⟩:=Sl.len d
 unfold M00 at a
 dsimp only at a
 refine Tr.forget (G2 (args:=[.agg #[.int .i64 j,.slice e k.length f]]) (fn:=Tryz.f79) rfl ?_)
 refine trV a (o06 _ _ _ (S0 i d) _ _ _ _ (n0g O0 h)) λm a=>?_
 obtain⟨q,g,a⟩:=B0 a
 have n:H0 m:=M0 g
 obtain rfl:=oJ a
 exact aI rfl (Sub.refl _)
theorem r03(h:Hp)(e:List Value)(g:j0)(w:F1.R h e g)(b:Option Addr)(f c:Nat)(d:J0)(j:O0.R h [.slice b f c] d)(r:Bool)(a:n5 g d=some r):
  Tr Tryz.prog 144 #[.agg e.toArray,.slice b f c] h λv h'=>v = .bool r/\h'=h:=by
 obtain⟨s,t,k,F,l,u,rfl,rfl,p,q,i⟩:=C0 w
 obtain⟨rfl,D⟩:=Sl.len i
 obtain⟨rfl,E⟩:=Sl.len j
 unfold n5 at a
 dsimp only at a
 refine Tr.forget (G2 (args:=[.agg #[.int .i64 s,.int .i64 t,.slice k u.length l],.slice b d.length c]) (fn:=Tryz.f144) rfl ?_)
 obtain⟨x,o,a⟩:=B0 a
 obtain⟨y,z⟩:=x
 try dsimp only at a
 refine Tr.val (S06 _ _ _ (l0 p q i) 0 (by decide) _ _ _ _ j _  o) ?_
 obtain⟨G,m,a⟩:=B0 a
 have A:H0 y:=M0 m
 obtain⟨H,n,a⟩:=B0 a
 have C:H0 z:=M0 n
 obtain rfl:=oJ a
 exact aI rfl (Sub.refl _)
theorem B0b(h:Hp)(i:List Value)(l:D0)(z:T1.R h i l)(c:Option Addr)(k d:Nat)(e:J0)(f:O0.R h [.slice c k d] e)(r:Bool×Bool)(a:N00 l e=some r):
  Tr Tryz.prog 77 #[.agg i.toArray,.slice c k d] h λv h'=>v = .tuple #[.bool r.1,.bool r.2]/\h'=h:=by
 obtain⟨x,o,J,p,y,rfl,rfl,j,m⟩:=J1 z
 obtain⟨rfl,G⟩:=Sl.len m
 obtain⟨rfl,H⟩:=Sl.len f
 unfold N00 at a
 dsimp only at a
 refine Tr.forget (G2 (args:=[.agg #[.int .i64 x,.slice o y.length p],.slice c e.length d]) (fn:=Tryz.f77) rfl ?_)
 refine trM a (V01 _ _ _ (S0 j m) _ _ _ _ (n0g O0 h)) ?_
 rintro C a L w ⟨E,rfl,g⟩
 obtain⟨M,Q⟩:=C
 dsimp only at a g
 have b:Sub h w:=g.sub
 have A:=g.r
 obtain⟨N,O,D,K,F,P,rfl,rfl,t,u,n⟩:=C0 A
 obtain⟨rfl,I⟩:=Sl.len n
 try dsimp only at a
 refine trG a (λq=>e07 _ _ j _ _ _ _ (O0.mono b f)) λS a=>?_
 refine ifB a (λs a=>?_) λs a=>?_
 ·obtain rfl:=oJ a
  exact aI rfl b
 ·refine trV a (r03 _ _ _ (l0 t u n) _ _ _ _ (O0.mono b f)) λT a=>?_
  obtain rfl:=oJ a
  exact aI rfl b
theorem Q09(h:Hp)(j:List Value)(n:j0)(E:F1.R h j n)(r:Bool)(b:U9 n=some r):
  Tr Tryz.prog 64 #[.agg j.toArray] h λv h'=>v = .bool r/\h'=h:=by
 obtain⟨A,C,p,X,t,D,rfl,rfl,k,m,g⟩:=C0 E
 obtain⟨rfl,V⟩:=Sl.len g
 unfold U9 at b
 dsimp only at b
 refine Tr.forget (G2 (args:=[.agg #[.int .i64 A,.int .i64 C,.slice p D.length t]]) (fn:=Tryz.f64) rfl ?_)
 refine aI (by kernel_rfl) ?_
 obtain⟨I,w,b⟩:=B0 b
 refine Or.inl (eX (.val (.bool I)) (aI ?_ ?_))
 ·intro Q G
  exact Tr.val (f07 _ _ _ (l0 k m (Q0.mono G g)) _ w) (aI rfl (aI rfl rfl))
 obtain⟨d,x,b⟩:=B0 b
 refine Or.inr (eX (λv y=>∃(a:Option Addr) (c:Nat),v = .slice a d.length c/\Q0.R y [.slice a d.length c] d/\d.length<=9223372036854775807) (aI (λv M N i q=>by obtain⟨a,c,e,r,l⟩:=q;exact⟨a,c,e,Q0.mono i r,l⟩) (aI ?_ ?_)))
 ·intro S H f
  refine Tr.mono (q05 _ _ _ (l0 k m (Q0.mono H g)) _ (D00 x f)) ?_
  rintro _ U ⟨s,Y,u,rfl,o,i⟩
  obtain⟨rfl,z⟩:=Sl.len o
  exact aI y03 (aI i ⟨s,u,rfl,o,z⟩)
 obtain⟨Z,L,b⟩:=B0 b
 refine Or.inl (eX (.val (.int .i64 ((d.length:Nat):Int))) (aI ?_ ?_))
 ·intro T ac f
  rintro _ ⟨J,K,rfl,aa,W⟩
  exact aI rfl (aI rfl rfl)
 refine Or.inl (eX (.val (.bool (decide (((d.length:Nat):Int)=0)))) (aI ?_ ?_))
 ·intro O ab f
  exact aI rfl (aI rfl rfl)
 intro P F
 obtain rfl:=oJ b
 exact aI rfl F
theorem C0b(h:Hp)(y:List Value)(D:j0)(W:F1.R h y D)(m:Option Addr)(C n:Nat)(g:O2)(E:Q2.R h [.slice m C n] g)(r:Bool)(d:S7 D g=some r):
  Tr Tryz.prog 65 #[.agg y.toArray,.slice m C n] h λv h'=>v = .bool r/\h'=h:=by
 obtain⟨o,p,J,ax,L,s,rfl,rfl,z,A,t⟩:=C0 W
 obtain⟨rfl,aq⟩:=Sl.len t
 obtain⟨rfl,ar⟩:=Sl.len E
 unfold S7 at d
 dsimp only at d
 refine Tr.forget (G2 (args:=[.agg #[.int .i64 o,.int .i64 p,.slice J s.length L],.slice m g.length n]) (fn:=Tryz.f65) rfl ?_)
 refine trV d (f07 _ _ _ (l0 z A t)) λaC d=>?_
 refine ifB d (λQ d=>?_) λQ d=>?_
 ·obtain rfl:=oJ d
  exact aI rfl (Sub.refl _)
 ·obtain⟨x,P,d⟩:=B0 d
  refine eX { vars:=[12],boxes:=[],owns:=[],fuel:=true } (eX (λvs os h'=>∃ f,vs.tail = [.int .i64 f]/\os = []/\Sub h h'/\H0 f/\U5 g o p s (O1 vs) f=some x) (eX (λ_ _=>0) (aI (eX V0 ⟨0,rfl,rfl,(Sub.refl _),(by decide),P⟩) ?_)))
  rintro _ j ao ⟨f,⟨⟩,⟨⟩,i,aj,b⟩
  replace b:U5 g o p s j f=some x:=b
  obtain _|j:=j
  ·cases b
  rw[U5.eq_2]at b
  refine ifB b (λT b=>?_) λT b=>?_
  ·refine ld b (Q2.mono i E) λaD ad u b=>?_
   obtain⟨aa,ay,ae,rfl⟩:=Wp.slice_cell u
   obtain⟨rfl,au⟩:=Sl.len u
   refine Or.inr (Or.inr (Or.inr (Or.inl (aI (aI (by kernel_rfl) (by kernel_rfl)) ?_))))
   obtain⟨k,O,b⟩:=B0 b
   refine Or.inr (eX (λv U=>∃(a:Option Addr) (c:Nat),v = .slice a k.length c/\O0.R U [.slice a k.length c] k/\k.length<=9223372036854775807) (aI (λv ah ai w q=>by obtain⟨a,c,e,r,l⟩:=q;exact⟨a,c,e,O0.mono w r,l⟩) (aI ?_ ?_)))
   ·intro ak Y
    refine Tr.mono (d05 _ _ _ _ _ (O0.mono Y u) _ O) ?_
    rintro _ ap ⟨K,az,M,rfl,H⟩
    have w:=H.sub
    have F:=H.r
    obtain⟨rfl,V⟩:=Sl.len F
    exact aI y03 (aI w ⟨K,M,rfl,F,V⟩)
   obtain⟨I,N,b⟩:=B0 b
   refine Or.inl (eX (.val (.bool I)) (aI ?_ ?_))
   ·intro al Z
    rintro _ ⟨ab,af,rfl,X,av⟩
    exact Tr.val (r03 _ _ _ (l0 z A (Q0.mono (i.trans Z) t)) _ _ _ _ X _ N) (aI rfl (aI rfl rfl))
   refine Or.inl (eX (.val (.bool (!I))) (aI ?_ ?_))
   ·intro am aB
    exact aI rfl (aI rfl rfl)
   intro an G
   rintro _ ⟨ac,ag,rfl,aA,aw⟩
   refine ifB b (λS b=>?_) λS b=>?_
   ·obtain rfl:=oJ b
    try dsimp only[M2,N2]at d
    obtain rfl:=oJ d
    exact aI rfl (i.trans G)
   ·exact D2 j ⟨(IntKind.i64.wrap (f+1)),rfl,rfl,(i.trans G),(K0 _),b⟩
  ·obtain rfl:=oJ b
   try dsimp only[Y0,C1]at d
   obtain rfl:=oJ d
   exact aI rfl i
theorem m0f(h:Hp)(n:List Value)(t:j0)(L:F1.R h n t)(f:Option Addr)(s g:Nat)(j:J0)(u:O0.R h [.slice f s g] j)(r:Bool)(b:e01 t j=some r):
  Tr Tryz.prog 68 #[.agg n.toArray,.slice f s g] h λv h'=>v = .bool r/\h'=h:=by
 obtain⟨I,J,y,ag,A,K,rfl,rfl,o,p,k⟩:=C0 L
 obtain⟨rfl,ad⟩:=Sl.len k
 obtain⟨rfl,ae⟩:=Sl.len u
 unfold e01 at b
 dsimp only at b
 refine Tr.forget (G2 (args:=[.agg #[.int .i64 I,.int .i64 J,.slice y K.length A],.slice f j.length g]) (fn:=Tryz.f68) rfl ?_)
 refine Or.inr (Or.inr (Or.inr (Or.inl (aI (aI (by kernel_rfl) (by kernel_rfl)) ?_))))
 obtain⟨S,D,b⟩:=B0 b
 refine Or.inl (eX (.val (.bool S)) (aI ?_ ?_))
 ·intro Z O
  exact Tr.val (f07 _ _ _ (l0 o p (Q0.mono O k)) _ D) (aI rfl (aI rfl rfl))
 obtain⟨d,E,b⟩:=B0 b
 refine Or.inr (eX (λv G=>∃(a:Option Addr) (c:Nat),v = .slice a d.length c/\O0.R G [.slice a d.length c] d/\d.length<=9223372036854775807) (aI (λv W X m q=>by obtain⟨a,c,e,r,l⟩:=q;exact⟨a,c,e,O0.mono m r,l⟩) (aI ?_ ?_)))
 ·intro aa P i
  refine Tr.mono (d05 _ _ _ _ _ (O0.mono P u) _ (D00 E i)) ?_
  rintro _ ac ⟨z,ah,C,rfl,x⟩
  have m:=x.sub
  have w:=x.r
  obtain⟨rfl,H⟩:=Sl.len w
  exact aI y03 (aI m ⟨z,C,rfl,w,H⟩)
 obtain⟨T,F,b⟩:=B0 b
 refine Or.inl (eX (.val (.bool T)) (aI ?_ ?_))
 ·intro ab Q i
  rintro _ ⟨U,V,rfl,M,af⟩
  exact Tr.val (r03 _ _ _ (l0 o p (Q0.mono Q k)) _ _ _ _ M _ (D00 F i)) (aI rfl (aI rfl rfl))
 intro Y N
 obtain rfl:=oJ b
 exact aI rfl N
theorem s03(h:Hp)(k:Option Addr)(u l:Nat)(b:J0)(w:O0.R h [.slice k u l] b)(r:J0)(g:O5 b=some r):
  Tr Tryz.prog 148 #[.slice k u l] h λv h'=>∃(o:Option Addr) (t p:Nat),v = .slice o t p/\New O0 h h' [.slice o t p] r:=by
 obtain⟨rfl,G⟩:=Sl.len w
 unfold O5 at g
 refine G2 (args:=[.slice k b.length l]) (fn:=Tryz.f148) rfl ?_
 obtain⟨n,A,g⟩:=B0 g
 refine eX { vars:=[4],boxes:=[],owns:=[0],fuel:=true } (eX (λvs os h'=>∃ c j d,vs.tail = [.int .i64 c]/\os = [j]/\Sub h h'/\H0 c/\F2 (Wp.int.R h') j d/\w4 b (O1 vs) c d=some n) (eX (λ_ _=>0) (aI (eX V0 ⟨(IntKind.i64.wrap (((b.length:Nat):Int)-1)),[],([]:J0),rfl,rfl,(Sub.refl _),(K0 _),(show F2 (Wp.int.R h) ([]:List (List Value)) ([]:J0) from trivial),A⟩) ?_)))
 rintro _ j i s ⟨c,M,d,⟨⟩,⟨⟩,m,D,f,a⟩
 replace a:w4 b i c d=some n:=a
 obtain _|i:=i
 ·cases a
 rw[w4.eq_2]at a
 refine ifB a (λC a=>?_) λC a=>?_
 ·refine ldI a (O0.mono m w) λe E a=>?_
  obtain⟨I,z,a⟩:=B0 a
  refine aI (Q1 z (by first|rw[F2.length f,F2.length (show F2 (Wp.int.R s) ([[.int .i64 (IntKind.i64.wrap (0-e))]]:List (List Value)) [(IntKind.i64.wrap (0-e))] from⟨⟨rfl,(K0 _)⟩,trivial⟩)]|exact congrArg (·+1) (F2.length f))) ?_
  exact D2 i ⟨(IntKind.i64.wrap (c-1)),(j++([[.int .i64 (IntKind.i64.wrap (0-e))]]:List (List Value))),(d ++ [(IntKind.i64.wrap (0-e))]),rfl,rfl,m,(K0 _),(F2.append f (show F2 (Wp.int.R s) ([[.int .i64 (IntKind.i64.wrap (0-e))]]:List (List Value)) [(IntKind.i64.wrap (0-e))] from⟨⟨rfl,(K0 _)⟩,trivial⟩)),a⟩
 ·obtain rfl:=oJ a
  try dsimp only[Y0,C1]at g
  intro L F q
  obtain⟨x,y,rfl,J,K,H⟩:=W0.out (r:=Wp.int.toRp) q f
  obtain rfl:=oJ g
  exact⟨x,d.length,y,rfl,(New.from (W0.newPlain (r:=Wp.int) q f (E06 _)) m)⟩
theorem j9(h:Hp)(n:Option Addr)(A o:Nat)(l:J0)(m:O0.R h [.slice n A o] l)(r:J0)(e:Y2 l=some r):
  Tr Tryz.prog 146 #[.slice n A o] h λv h'=>∃(s:Option Addr) (z t:Nat),v = .slice s z t/\New O0 h h' [.slice s z t] r:=by
 obtain⟨rfl,ab⟩:=Sl.len m
 unfold Y2 at e
 refine G2 (args:=[.slice n l.length o]) (fn:=Tryz.f146) rfl ?_
 obtain⟨p,K,e⟩:=B0 e
 refine eX { vars:=[4],boxes:=[],owns:=[0],fuel:=true } (eX (λvs os h'=>∃ g c i,vs.tail = [.int .i64 g]/\os = [c]/\Sub h h'/\H0 g/\F2 (Wp.int.R h') c i/\l3 l (O1 vs) g i=some p) (eX (λ_ _=>0) (aI (eX V0 ⟨0,[],([]:J0),rfl,rfl,(Sub.refl _),(by decide),(show F2 (Wp.int.R h) ([]:List (List Value)) ([]:J0) from trivial),K⟩) ?_)))
 rintro _ c k d ⟨g,ap,i,⟨⟩,⟨⟩,f,U,b,a⟩
 replace a:l3 l k g i=some p:=a
 obtain _|k:=k
 ·cases a
 rw[l3.eq_2]at a
 refine ifB a (λM a=>?_) λM a=>?_
 ·obtain⟨N,E,a⟩:=B0 a
  obtain rfl:c.length=N:=(F2.length b).trans (oJ E)
  obtain⟨ag,T,a⟩:=B0 a
  refine Or.inl (aI (aI (by kernel_rfl) (by kernel_rfl)) ?_)
  refine ldG a (O0.mono f m) λao Z a=>?_
  obtain⟨ak,I,a⟩:=B0 a
  obtain⟨Q,u,O⟩:=M03 b I (m0c d)
  refine aI (λq=>(u q).1) ?_
  obtain⟨rfl,V⟩:=O
  refine eX _ (aI (λq=>(u q).2) ?_)
  refine ldG a (O0.mono f m) λal W a=>?_
  obtain⟨am,J,a⟩:=B0 a
  obtain⟨S,w,P⟩:=M03 b J (m0c d)
  refine aI (λq=>(w q).1) ?_
  obtain⟨rfl,X⟩:=P
  refine eX _ (aI (λq=>(w q).2) ?_)
  refine ldG a (O0.mono f m) λan Y a=>?_
  refine ifB a (λL a=>?_) λL a=>?_
  ·obtain⟨ad,F,a⟩:=B0 a
   refine aI (by have:=M0 F;have:=F2.length b;omega) ?_
   exact D2 k ⟨(IntKind.i64.wrap (g+1)),(c.take (IntKind.i64.wrap (((c.length:Nat):Int)-1)).toNat),(i.take (IntKind.i64.wrap (((c.length:Nat):Int)-1)).toNat),rfl,rfl,f,(K0 _),(F2.take (IntKind.i64.wrap (((c.length:Nat):Int)-1)).toNat b),a⟩
  ·refine ldI a (O0.mono f m) λj y a=>?_
   obtain⟨ae,G,a⟩:=B0 a
   refine aI (Q1 G (by first|rw[F2.length b,F2.length (show F2 (Wp.int.R d) ([[.int .i64 j]]:List (List Value)) [j] from⟨⟨rfl,y⟩,trivial⟩)]|exact congrArg (·+1) (F2.length b))) ?_
   exact D2 k ⟨(IntKind.i64.wrap (g+1)),(c++([[.int .i64 j]]:List (List Value))),(i ++ [j]),rfl,rfl,f,(K0 _),(F2.append b (show F2 (Wp.int.R d) ([[.int .i64 j]]:List (List Value)) [j] from⟨⟨rfl,y⟩,trivial⟩)),a⟩
 ·obtain rfl:=oJ a
  try dsimp only[Y0,C1]at e
  obtain⟨af,H,e⟩:=B0 e
  refine aI (Q1 H (by first|rw[F2.length (show F2 (Wp.int.R d) ([]:List (List Value)) ([]:J0) from trivial),F2.length b]|exact congrArg (·+0) (F2.length (show F2 (Wp.int.R d) ([]:List (List Value)) ([]:J0) from trivial)))) ?_
  intro aj aa x
  obtain⟨C,D,rfl,ah,ai,ac⟩:=W0.out (r:=Wp.int.toRp) x (F2.append (show F2 (Wp.int.R d) ([]:List (List Value)) ([]:J0) from trivial) b)
  obtain rfl:=oJ e
  exact⟨C,((([]:J0)++i)).length,D,rfl,(New.from (W0.newPlain (r:=Wp.int) x (F2.append (show F2 (Wp.int.R d) ([]:List (List Value)) ([]:J0) from trivial) b) (E06 _)) f)⟩
theorem t02(h:Hp)(e:Option Addr)(o g:Nat)(b:J0)(q:O0.R h [.slice e o g] b)(f:Option Addr)(p i:Nat)(c:J0)(s:O0.R h [.slice f p i] c)(r:J0)(a:Y3 b c=some r):
  Tr Tryz.prog 147 #[.slice e o g,.slice f p i] h λv h'=>∃(k:Option Addr) (n l:Nat),v = .slice k n l/\New O0 h h' [.slice k n l] r:=by
 obtain⟨rfl,M⟩:=Sl.len q
 obtain⟨rfl,N⟩:=Sl.len s
 unfold Y3 at a
 refine G2 (args:=[.slice e b.length g,.slice f c.length i]) (fn:=Tryz.f147) rfl ?_
 obtain⟨J,y,d⟩:=Sl.rows (r:=Wp.int.toRp) q
 refine eX J (aI y ?_)
 obtain⟨S,C,a⟩:=B0 a
 refine aI (Q1 C (by first|rw[F2.length (show F2 (Wp.int.R h) ([]:List (List Value)) ([]:J0) from trivial),F2.length d]|exact congrArg (·+1) (F2.length (show F2 (Wp.int.R h) ([]:List (List Value)) ([]:J0) from trivial)))) ?_
 obtain⟨K,z,m⟩:=Sl.rows (r:=Wp.int.toRp) s
 refine eX K (aI z ?_)
 obtain⟨T,D,a⟩:=B0 a
 refine aI (Q1 D (by first|rw[F2.length (F2.append (show F2 (Wp.int.R h) ([]:List (List Value)) ([]:J0) from trivial) d),F2.length m]|exact congrArg (·+1) (F2.length (F2.append (show F2 (Wp.int.R h) ([]:List (List Value)) ([]:J0) from trivial) d)))) ?_
 refine Or.inl ?_
 intro W F A
 obtain⟨u,x,rfl,H,I,P⟩:=W0.out (r:=Wp.int.toRp) A (F2.append (F2.append (show F2 (Wp.int.R h) ([]:List (List Value)) ([]:J0) from trivial) d) m)
 refine trM a (j9 _ u (((([]:J0)++b)++c)).length x ((([]:J0)++b)++c) H) ?_
 rintro L a V E ⟨t,Q,w,rfl,j⟩
 have U:Sub F E:=j.sub
 have G:=j.r
 obtain⟨rfl,O⟩:=Sl.len G
 obtain rfl:=oJ a
 exact⟨t,L.length,w,rfl,(New.from j I)⟩
theorem D0b(h:Hp)(j:Option Addr)(F k:Nat)(g:J0)(G:O0.R h [.slice j F k] g)(r:J0×J0)(b:a00 g=some r):
  Tr Tryz.prog 272 #[.slice j F k] h λv h'=>∃(w:Option Addr) (D y:Nat) (x:Option Addr) (E z:Nat),v = .tuple #[.slice w D y,.slice x E z]/\New O0 h h' [.slice w D y] r.1/\O0.R h' [.slice x E z] r.2:=by
 obtain⟨rfl,aw⟩:=Sl.len G
 unfold a00 at b
 refine G2 (args:=[.slice j g.length k]) (fn:=Tryz.f272) rfl ?_
 refine trM b (j9 _ j g.length k g G) ?_
 rintro L b aJ s ⟨N,aC,S,rfl,K⟩
 have ai:Sub h s:=K.sub
 have H:=K.r
 obtain⟨rfl,ay⟩:=Sl.len H
 obtain⟨u,ad,b⟩:=B0 b
 refine eX { vars:=[4],boxes:=[],owns:=[0],fuel:=true } (eX (λvs os h'=>∃ o t p i n e,vs.tail = [.slice o t p]/\os = [n]/\Sub s h'/\O0.R h' [.slice o t p] i/\F2 (Wp.int.R h') n e/\p7 (O1 vs) i e=some u) (eX (λ_ _=>0) (aI (eX V0 ⟨N,L.length,S,L,[],([]:J0),rfl,rfl,(Sub.refl _),H,(show F2 (Wp.int.R s) ([]:List (List Value)) ([]:J0) from trivial),ad⟩) ?_)))
 rintro _ n m d ⟨o,t,p,i,aO,e,⟨⟩,⟨⟩,J,c,l,a⟩
 replace a:p7 m i e=some u:=a
 obtain _|m:=m
 ·cases a
 rw[p7.eq_2]at a
 obtain⟨rfl,ax⟩:=Sl.len c
 refine Or.inl (aI (aI (by kernel_rfl) (by kernel_rfl)) ?_)
 refine ldG a c λaN ar a=>?_
 refine ldG a c λaK ao a=>?_
 refine ldG a c λaL ap a=>?_
 refine ldG a c λaM aq a=>?_
 refine ifB a (λae a=>?_) λae a=>?_
 ·refine ldI a c λf C a=>?_
  obtain⟨aD,aa,a⟩:=B0 a
  refine aI (Q1 aa (by first|rw[F2.length l,F2.length (show F2 (Wp.int.R d) ([[.int .i64 f]]:List (List Value)) [f] from⟨⟨rfl,C⟩,trivial⟩)]|exact congrArg (·+1) (F2.length l))) ?_
  obtain⟨M,ac,a⟩:=B0 a
  obtain⟨ag,al,W,Z⟩:=Sl.cutI (r:=Wp.int.toRp) c ac
  refine aI ag (eX al (aI W ?_))
  intro an af _
  obtain⟨O,T,rfl,I⟩:=Z an af
  have az:=(Sl.len I).2
  exact D2 m ⟨O,M.length,T,M,(n++([[.int .i64 f]]:List (List Value))),(e ++ [f]),rfl,rfl,J,I,(F2.append l (show F2 (Wp.int.R d) ([[.int .i64 f]]:List (List Value)) [f] from⟨⟨rfl,C⟩,trivial⟩)),a⟩
 ·obtain rfl:=oJ a
  try dsimp only[Y0,C1]at b
  obtain⟨am,X,q⟩:=Sl.rows (r:=Wp.int.toRp) c
  refine eX am (aI X ?_)
  obtain⟨aE,ab,b⟩:=B0 b
  refine aI (Q1 ab (by first|rw[F2.length (show F2 (Wp.int.R d) ([]:List (List Value)) ([]:J0) from trivial),F2.length q]|exact congrArg (·+1) (F2.length (show F2 (Wp.int.R d) ([]:List (List Value)) ([]:J0) from trivial)))) ?_
  intro aG au A
  obtain⟨P,U,rfl,aF,aj,aA⟩:=W0.out (r:=Wp.int.toRp) A (F2.append (show F2 (Wp.int.R d) ([]:List (List Value)) ([]:J0) from trivial) q)
  intro aH av Y
  obtain⟨Q,V,rfl,ah,ak,aB⟩:=W0.out (r:=Wp.int.toRp) Y (F2.up (r:=Wp.int.toRp) aj l)
  obtain rfl:=oJ b
  exact⟨P,((([]:J0)++i)).length,U,Q,e.length,V,rfl,(New.mono (New.from (W0.newPlain (r:=Wp.int) A (F2.append (show F2 (Wp.int.R d) ([]:List (List Value)) ([]:J0) from trivial) q) (E06 _)) (ai.trans J)) ak),ah⟩
theorem w05(h:Hp)(d:Option Addr)(l e:Nat)(c:List Int)(m:Sl Rp.u8 h (.slice d l e) c)(r:Int×Int)(f:k01 c=some r):
  Tr Tryz.prog 92 #[.slice d l e] h λv h'=>∃ k ty,v=ptr k 0/\h'=h.set k (N03 (.slice d l e) r ty)/\L9 h k (.slice d l e) c r:=by
 obtain⟨rfl,A⟩:=Sl.len m
 unfold k01 at f
 refine G2 (args:=[.slice d c.length e]) (fn:=Tryz.f92) rfl ?_
 obtain⟨n,s,f⟩:=B0 f
 refine eX { vars:=[3,4],boxes:=[],owns:=[],fuel:=true } (eX (λvs os h'=>∃ g i,vs.tail = [.int .i64 g,.int .i64 i]/\os = []/\h'=h/\H0 g/\H0 i/\V9 c (O1 vs) g i=some n) (eX (λ_ _=>0) (aI (eX V0 ⟨_,_,rfl,rfl,rfl,(K0 _),(by decide),s⟩) ?_)))
 rintro _ _ j z ⟨g,i,⟨⟩,⟨⟩,rfl,w,y,a⟩
 replace a:V9 c j g i=some n:=a
 obtain _|j:=j
 ·cases a
 rw[V9.eq_2]at a
 refine ifB a (λu a=>?_) λu a=>?_
 ·obtain⟨x,q,a⟩:=B0 a
  obtain⟨o,cs,p,rfl⟩:=Sl.getI (r:=Rp.u8) m q (by decide)
  refine aI o (eX _ (aI p ?_))
  exact D2 j ⟨_,_,rfl,rfl,rfl,(K0 _),(K0 _),a⟩
 ·obtain rfl:=oJ a
  try dsimp only[Y0,C1]at f
  obtain rfl:=oJ f
  intro b t
  exact⟨b,_,rfl,rfl,t,m,⟨iR _,Int.natCast_nonneg _⟩,w⟩
theorem M0u{P:Program}{a:Type}{m:Sem a}{h h':Hp}{K:a->Hp->Prop}(e:h=h')(w:wpS P m h' K):wpS P m h K:=e▸w
theorem o0v{h:Hp}{k:Nat}{b:Value}{q:Int×Int}{ty:TypeId}:(h.set k (N03 b q ty)).cell k 0=some b:=by unfold Hp.cell;rw[Hp.set_same];rfl
theorem F0k{h:Hp}{k:Nat}{b:Value}{q:Int×Int}{ty:TypeId}:(h.set k (N03 b q ty)).cell k 1=some (.int .i64 q.1):=by unfold Hp.cell;rw[Hp.set_same];rfl
theorem N0u{h:Hp}{k:Nat}{b:Value}{q:Int×Int}{ty:TypeId}:(h.set k (N03 b q ty)).cell k 2=some (.int .i64 q.2):=by unfold Hp.cell;rw[Hp.set_same];rfl
theorem G0v{h:Hp}{k:Nat}(x y:Obj):(h.set k x).set k y=h.set k y:=by
 funext b
 unfold Hp.set
 by_cases c:b=k
 ·rw[if_pos c,if_pos c]
 ·rw[if_neg c,if_neg c,if_neg c]
theorem Sub.setS{h a:Hp}{k:Nat}{o d:Obj}(f:Sub (h.set k o) a):Sub (h.set k d) (a.set k d):=λb x e=>by
 by_cases c:b=k
 ·subst c;rw[Hp.set_same]at e ⊢;exact e
 ·rw[Hp.set_other _ _ c]at e ⊢
  exact f b x (by rw[Hp.set_other _ _ c];exact e)
theorem d03(h:Hp)(d:Nat)(l:Value)(o:TypeId)(f:List Int)(b:Int×Int)(e:L9 h d l f b)(r:Int×(Int×Int))(g:H9 f b=some r):
  Tr Tryz.prog 188 #[ptr d 0] (h.set d (N03 l b o)) λv h'=>v = .int .i64 r.1/\L9 h d l f r.2/\h'=h.set d (N03 l r.2 o):=by
 unfold H9 at g
 obtain⟨j,H,m,I,x,E⟩:=e.rd
 cases x
 obtain⟨rfl,G⟩:=Sl.len e.rd
 refine Tr.forgetC (G2 (args:=[ptr d 0]) (fn:=Tryz.f188) rfl ?_)
 refine eX _ (aI (aI rfl N0u) ?_)
 refine eX _ (eX _ (eX _ (aI (aI (Hp.set_same _ _ _) (aI rfl (aI (show(2:Nat)<3 from by decide) (aI rfl (by first|trivial|decide|simp[e03]))))) ?_)))
 refine M0u (h':=h.set d (N03 (.slice j f.length m) (b.1,nxt b.2) o)) (G0v _ _) ?_
 refine Or.inr (Or.inr (Or.inr (Or.inl (aI (aI (by kernel_rfl) (by kernel_rfl)) ?_))))
 refine Or.inl (eX (.val (ptr d 0)) (aI (λk a=>aI rfl (aI rfl rfl)) ?_))
 refine Or.inl (eX (.val (ptr d 2)) (aI (λk a=>aI rfl (aI rfl rfl)) ?_))
 refine Or.inl (eX (.val (.int .i64 (nxt b.2))) (aI (λk a=>eX _ (aI (aI rfl (a.cell N0u)) (aI rfl (aI rfl rfl)))) ?_))
 refine Or.inl (eX (.val (.int .i64 ((nxt b.2).fdiv (2 ^ min (33:Int).toNat 64)))) (aI (λk a=>aI rfl (aI rfl rfl)) ?_))
 refine Or.inl (eX (.val (ptr d 0)) (aI (λk a=>aI rfl (aI rfl rfl)) ?_))
 refine Or.inl (eX (.val (ptr d 2)) (aI (λk a=>aI rfl (aI rfl rfl)) ?_))
 refine Or.inl (eX (.val (.int .i64 (nxt b.2))) (aI (λk a=>eX _ (aI (aI rfl (a.cell N0u)) (aI rfl (aI rfl rfl)))) ?_))
 refine Or.inl (eX (.val (.int .i64 ((nxt b.2).fdiv (2 ^ min (45:Int).toNat 64)))) (aI (λk a=>aI rfl (aI rfl rfl)) ?_))
 refine Or.inl (eX (.val (.int .i64 (e0v ((nxt b.2).fdiv (2 ^ min (33:Int).toNat 64)) ((nxt b.2).fdiv (2 ^ min (45:Int).toNat 64))))) (aI (λk a=>aI rfl (aI rfl rfl)) ?_))
 refine Or.inl (eX (.val (.int .i64 (drw (nxt b.2)))) (aI (λk a=>aI rfl (aI rfl rfl)) ?_))
 intro A s1
 refine Or.inr (Or.inr (Or.inr (Or.inl (aI (aI (by kernel_rfl) (by kernel_rfl)) ?_))))
 refine Or.inl (eX (.val (ptr d 0)) (aI (λk a=>aI rfl (aI rfl rfl)) ?_))
 refine Or.inl (eX (.val (ptr d 1)) (aI (λk a=>aI rfl (aI rfl rfl)) ?_))
 refine Or.inl (eX (.val (.int .i64 b.1)) (aI (λk a=>eX _ (aI (aI rfl (a.cell (s1.cell F0k))) (aI rfl (aI rfl rfl)))) ?_))
 refine Or.inl (eX (.val (ptr d 0)) (aI (λk a=>aI rfl (aI rfl rfl)) ?_))
 refine Or.inl (eX (.val (ptr d 0)) (aI (λk a=>aI rfl (aI rfl rfl)) ?_))
 refine Or.inl (eX (.val (.slice j f.length m)) (aI (λk a=>eX _ (aI (aI rfl (a.cell (s1.cell o0v))) (aI rfl (aI rfl rfl)))) ?_))
 refine Or.inl (eX (.val (.int .i64 ((f.length:Nat):Int))) (aI (λk a=>aI rfl (aI rfl rfl)) ?_))
 refine Or.inl (eX (.val (.bool (decide (b.1<((f.length:Nat):Int))))) (aI (λk a=>aI rfl (aI rfl rfl)) ?_))
 intro C s2
 have i:=s1.trans s2
 refine ifB g (λu g=>?_) λu g=>?_
 ·obtain⟨c,p,g⟩:=B0 g
  obtain rfl:=oJ g
  obtain⟨q,cs,s,rfl⟩:=Sl.getI (r:=Rp.u8) e.rd p (by decide)
  have t:=s.up ((Sub.set e.no).trans i)
  refine Or.inr (Or.inr (Or.inr (Or.inr (eX 14 (aI (aI (by kernel_rfl) (by kernel_rfl)) ?_)))))
  refine Or.inl (eX (.val (ptr d 0)) (aI (λk a=>aI rfl (aI rfl rfl)) ?_))
  refine Or.inl (eX (.val (ptr d 0)) (aI (λk a=>aI rfl (aI rfl rfl)) ?_))
  refine Or.inl (eX (.val (.slice j f.length m)) (aI (λk a=>eX _ (aI (aI rfl (a.cell (i.cell o0v))) (aI rfl (aI rfl rfl)))) ?_))
  refine Or.inl (eX (.val (ptr d 0)) (aI (λk a=>aI rfl (aI rfl rfl)) ?_))
  refine Or.inl (eX (.val (ptr d 1)) (aI (λk a=>aI rfl (aI rfl rfl)) ?_))
  refine Or.inl (eX (.val (.int .i64 b.1)) (aI (λk a=>eX _ (aI (aI rfl (a.cell (i.cell F0k))) (aI rfl (aI rfl rfl)))) ?_))
  refine Or.inl (eX (.hel (.slice j f.length m) b.1 1 0) (aI (λk a=>aI q (aI rfl (aI rfl rfl))) ?_))
  refine Or.inl (eX (.val (.int .u8 c)) (aI (λk a=>eX _ (aI (t.up a) (aI rfl (aI rfl rfl)))) ?_))
  refine Or.inl (eX (.val (.int .i64 (IntKind.i64.wrap c))) (aI (λk a=>aI rfl (aI rfl rfl)) ?_))
  refine Or.inl (eX (.val (.int .i64 (IntKind.i64.wrap (drw (nxt b.2)+IntKind.i64.wrap c)))) (aI (λk a=>aI rfl (aI rfl rfl)) ?_))
  refine Or.inl (eX (.val (.int .i64 (c0o (IntKind.i64.wrap (drw (nxt b.2)+IntKind.i64.wrap c)) 255))) (aI (λk a=>aI rfl (aI rfl rfl)) ?_))
  intro D z
  have n:=i.trans z
  refine eX _ (aI (aI rfl (n.cell F0k)) ?_)
  refine eX _ (eX _ (eX _ (aI (aI (n _ _ (Hp.set_same _ _ _)) (aI rfl (aI (show(1:Nat)<3 from by decide) (aI rfl (by first|trivial|decide|simp[e03]))))) ?_)))
  have w:=X0j p
  have F:=(List.getElem?_eq_some_iff.1 w.2).1
  have y:IntKind.i64.wrap (b.1+1)=b.1+1:=w64 (by omega) (by omega)
  exact aI rfl (aI ⟨e.no,e.rd,by show 0<=IntKind.i64.wrap (b.1+1)/\IntKind.i64.wrap (b.1+1)<=_;rw[y];exact⟨by omega,by omega⟩,K0 _⟩ (Sub.setS n))
 ·obtain rfl:=oJ g
  exact aI rfl (aI ⟨e.no,e.rd,e.pl,K0 _⟩ i)
theorem K1(h:Hp)(b:Nat)(c:Value)(f:TypeId)(e:List Int)(g:Int×Int)(d:L9 h b c e g)(i:Int)(S:H0 i)(r:Int×(Int×Int))(a:E2 e g i=some r):
  Tr Tryz.prog 93 #[ptr b 0,.int .i64 i] (h.set b (N03 c g f)) λv h'=>v = .int .i64 r.1/\L9 h b c e r.2/\h'=h.set b (N03 c r.2 f):=by
 unfold E2 at a
 refine Tr.forgetC (G2 (args:=[ptr b 0,.int .i64 i]) (fn:=Tryz.f93) rfl ?_)
 refine ifB a (λD a=>?_) λD a=>?_
 ·obtain rfl:=oJ a
  exact⟨rfl,d.back d,Sub.setB d.no (Sub.refl _)⟩
 ·refine ifB a (λE a=>?_) λE a=>?_
  ·obtain⟨N,A,a⟩:=B0 a
   obtain⟨O,ag⟩:=N
   try dsimp only at a
   refine Tr.mono (d03 _ b c f e g d _ A) ?_
   rintro _ _ ⟨rfl,n,rfl⟩
   obtain⟨ad,u,a⟩:=B0 a
   have W:H0 O:=M0 u
   obtain⟨ae,w,a⟩:=B0 a
   refine aI (M0 w) ?_
   obtain rfl:=oJ a
   exact⟨rfl,d.back n,Sub.setB d.no (Sub.refl _)⟩
  ·obtain⟨P,C,a⟩:=B0 a
   obtain⟨Q,R⟩:=P
   try dsimp only at a
   refine Tr.mono (d03 _ b c f e g d _ C) ?_
   rintro _ _ ⟨rfl,j,rfl⟩
   obtain⟨Y,o,a⟩:=B0 a
   have X:H0 Q:=M0 o
   obtain⟨F,x,a⟩:=B0 a
   obtain⟨G,H⟩:=F
   try dsimp only at a
   refine Tr.mono (d03 _ b c f e R j _ x) ?_
   rintro _ _ ⟨rfl,k,rfl⟩
   obtain⟨Z,p,a⟩:=B0 a
   have T:H0 G:=M0 p
   obtain⟨I,y,a⟩:=B0 a
   obtain⟨J,K⟩:=I
   try dsimp only at a
   refine Tr.mono (d03 _ b c f e H k _ y) ?_
   rintro _ _ ⟨rfl,l,rfl⟩
   obtain⟨aa,q,a⟩:=B0 a
   have U:H0 J:=M0 q
   obtain⟨L,z,a⟩:=B0 a
   obtain⟨M,af⟩:=L
   try dsimp only at a
   refine Tr.mono (d03 _ b c f e K l _ z) ?_
   rintro _ _ ⟨rfl,m,rfl⟩
   obtain⟨ab,s,a⟩:=B0 a
   have V:H0 M:=M0 s
   obtain⟨ac,t,a⟩:=B0 a
   refine aI (M0 t) ?_
   obtain rfl:=oJ a
   exact⟨rfl,d.back m,Sub.setB d.no (Sub.refl _)⟩
theorem g07(h:Hp)(b:Nat)(c:Value)(i:TypeId)(d:List Int)(e:Int×Int)(g:L9 h b c d e)(f:Int)(m:H0 f)(r:Bool×(Int×Int))(a:r02 d e f=some r):
  Tr Tryz.prog 131 #[ptr b 0,.int .i64 f] (h.set b (N03 c e i)) λv h'=>v = .bool r.1/\L9 h b c d r.2/\h'=h.set b (N03 c r.2 i):=by
 unfold r02 at a
 refine Tr.forgetC (G2 (args:=[ptr b 0,.int .i64 f]) (fn:=Tryz.f131) rfl ?_)
 obtain⟨n,l,a⟩:=B0 a
 obtain⟨o,s⟩:=n
 try dsimp only at a
 refine Tr.mono (K1 _ b c i d e g _ m _ l) ?_
 rintro _ _ ⟨rfl,j,rfl⟩
 obtain⟨q,k,a⟩:=B0 a
 have p:H0 o:=M0 k
 obtain rfl:=oJ a
 exact⟨rfl,g.back j,Sub.setB g.no (Sub.refl _)⟩
theorem I01(h:Hp)(b:Nat)(c:Value)(k:TypeId)(d:List Int)(e:Int×Int)(g:L9 h b c d e)(f:Option Addr)(m i:Nat)(j:J0)(n:O0.R h [.slice f m i] j)(r:Int×(Int×Int))(a:A00 d e j=some r):
  Tr Tryz.prog 238 #[ptr b 0,.slice f m i] (h.set b (N03 c e k)) λv h'=>v = .int .i64 r.1/\L9 h b c d r.2/\h'=h.set b (N03 c r.2 k):=by
 obtain⟨rfl,u⟩:=Sl.len n
 unfold A00 at a
 refine Tr.forgetC (G2 (args:=[ptr b 0,.slice f j.length i]) (fn:=Tryz.f238) rfl ?_)
 obtain⟨x,s,a⟩:=B0 a
 obtain⟨y,E⟩:=x
 try dsimp only at a
 refine Tr.mono (K1 _ b c k d e g _ (q0r u) _ s) ?_
 rintro _ _ ⟨rfl,l,rfl⟩
 obtain⟨D,q,a⟩:=B0 a
 have A:H0 y:=M0 q
 obtain⟨F,t,a⟩:=B0 a
 obtain⟨o,z,p,w⟩:=Sl.getI (r:=Wp.int.toRp) n t (by decide)
 refine aI o ?_
 obtain⟨rfl,C⟩:=w
 refine eX _ (aI (J7.up (Sub.set l.no) p) ?_)
 obtain rfl:=oJ a
 exact⟨rfl,g.back l,Sub.setB g.no (Sub.refl _)⟩
theorem R09(h:Hp)(d:Nat)(e:Value)(m:TypeId)(f:List Int)(s:Int×Int)(L:L9 h d e f s)(l:Int)(ak:H0 l)(o:Int)(ax:H0 o)(r:J0×(Int×Int))(c:M01 f s l o=some r):
  Tr Tryz.prog 161 #[ptr d 0,.int .i64 l,.int .i64 o] (h.set d (N03 e s m)) λv h'=>∃(z:Option Addr) (F A:Nat) (q:Hp),v = .slice z F A/\New O0 h q [.slice z F A] r.1/\Sub h q/\L9 q d e f r.2/\h'=q.set d (N03 e r.2 m):=by
 unfold M01 at c
 refine G2 (args:=[ptr d 0,.int .i64 l,.int .i64 o]) (fn:=Tryz.f161) rfl ?_
 obtain⟨ap,aa,c⟩:=B0 c
 obtain⟨I,av⟩:=ap
 try dsimp only at c
 refine Tr.mono (K1 _ d e m f s L (IntKind.i64.wrap (o+1)) (K0 _) _ aa) ?_
 rintro _ _ ⟨rfl,N,rfl⟩
 obtain⟨aH,Z,c⟩:=B0 c
 have al:H0 I:=M0 Z
 obtain⟨y,ae,c⟩:=B0 c
 refine eX { vars:=[8],boxes:=[],owns:=[0],fuel:=true } (eX (λvs os aj=>∃(j:Int) (p:List (List Value)) (g:List Int) (u8:Int×Int) (h':Hp),vs.tail = [.int .i64 j]/\os = [p]/\aj=h'.set d (N03 e u8 m)/\Sub h h'/\H0 j/\F2 (Wp.int.R h') p g/\L9 h' d e f u8/\C8 f l (O1 vs) j g u8=some y) (eX (λ_ _=>0) ?_))
 refine aI (eX V0 ⟨I,[],([]:J0),av,h,rfl,rfl,rfl,(Sub.refl _),al,(show F2 (Wp.int.R h) ([]:List (List Value)) ([]:J0) from trivial),N,ae⟩) ?_
 rintro aL p n _ ⟨j,aN,g,u8,k,T,S,rfl,t,ay,i,u,a⟩
 cases T
 cases S
 replace a:C8 f l n j g u8=some y:=a
 obtain _|n:=n
 ·cases a
 rw[C8.eq_2]at a
 refine ifB a (λaf a=>?_) λaf a=>?_
 ·obtain⟨aq,ab,a⟩:=B0 a
  obtain⟨b,ar⟩:=aq
  try dsimp only at a
  refine Tr.mono (K1 _ d e m f u8 u _ ak _ ab) ?_
  rintro _ _ ⟨rfl,M,rfl⟩
  obtain⟨aE,W,a⟩:=B0 a
  have az:H0 b:=M0 W
  obtain⟨au,ac,a⟩:=B0 a
  obtain⟨aM,H⟩:=au
  try dsimp only at a
  refine Tr.mono (g07 _ d e m f ar M 2 (by decide) _ ac) ?_
  rintro _ _ ⟨rfl,C,rfl⟩
  refine ifB a (λag a=>?_) λag a=>?_
  ·obtain⟨aF,X,a⟩:=B0 a
   refine aI (Q1 X (by first|rw[F2.length i,F2.length (show F2 (Wp.int.R k) ([[.int .i64 (IntKind.i64.wrap (0-(IntKind.i64.wrap (1+b))))]]:List (List Value)) [(IntKind.i64.wrap (0-(IntKind.i64.wrap (1+b))))] from⟨⟨rfl,(K0 _)⟩,trivial⟩)]|exact congrArg (·+1) (F2.length i))) ?_
   exact D2 n ⟨(IntKind.i64.wrap (j-1)),(p++([[.int .i64 (IntKind.i64.wrap (0-(IntKind.i64.wrap (1+b))))]]:List (List Value))),(g ++ [(IntKind.i64.wrap (0-(IntKind.i64.wrap (1+b))))]),H,k,rfl,rfl,rfl,t,(K0 _),(F2.append i (show F2 (Wp.int.R k) ([[.int .i64 (IntKind.i64.wrap (0-(IntKind.i64.wrap (1+b))))]]:List (List Value)) [(IntKind.i64.wrap (0-(IntKind.i64.wrap (1+b))))] from⟨⟨rfl,(K0 _)⟩,trivial⟩)),C,a⟩
  ·obtain⟨aG,Y,a⟩:=B0 a
   refine aI (Q1 Y (by first|rw[F2.length i,F2.length (show F2 (Wp.int.R k) ([[.int .i64 (IntKind.i64.wrap (1+b))]]:List (List Value)) [(IntKind.i64.wrap (1+b))] from⟨⟨rfl,(K0 _)⟩,trivial⟩)]|exact congrArg (·+1) (F2.length i))) ?_
   exact D2 n ⟨(IntKind.i64.wrap (j-1)),(p++([[.int .i64 (IntKind.i64.wrap (1+b))]]:List (List Value))),(g ++ [(IntKind.i64.wrap (1+b))]),H,k,rfl,rfl,rfl,t,(K0 _),(F2.append i (show F2 (Wp.int.R k) ([[.int .i64 (IntKind.i64.wrap (1+b))]]:List (List Value)) [(IntKind.i64.wrap (1+b))] from⟨⟨rfl,(K0 _)⟩,trivial⟩)),C,a⟩
 ·obtain rfl:=oJ a
  try dsimp only[Y0,C1]at c
  refine Or.inl ?_
  intro aJ aA U
  obtain⟨am,V,ah,rfl⟩:=W0.beside u.no U
  obtain⟨K,Q,rfl,ao,w,aC⟩:=W0.out (r:=Wp.int.toRp) V i
  have D:=u.mono w ah
  obtain⟨aw,ad,c⟩:=B0 c
  refine Tr.beside D.no (j9 _ K g.length Q g ao _  ad) ?_
  rintro aK E ⟨J,aD,P,rfl,x⟩ ai
  have G:Sub am E:=x.sub
  have an:=x.r
  have O:=D.mono G ai
  obtain⟨rfl,aB⟩:=Sl.len an
  obtain rfl:=oJ c
  exact⟨J,aw.length,P,E,rfl,(New.from x (t.trans w)),((t.trans w).trans G),O,rfl⟩
end Go.Proofs.YtmgikbbmpnbbjaaGreat
