/- Texts of the claim, joined: The walks of batch g2 and others. -/
import Derived.Test.YtkjhghloldgioaaGreatPart18
import Derived.Test.YtkjhghloldgioaaGreatChecked
import Derived.Test.YtkjhghloldgioaaGreatH35
import Derived.Test.YtkjhghloldgioaaGreatPart24
import Derived.Test.YtkjhghloldgioaaGreatSE
import Derived.Test.YtkjhghloldgioaaGreatPart21
import Derived.Test.YtkjhghloldgioaaGreatH40
import Derived.Test.YtkjhghloldgioaaGreatH41
namespace Go.Proofs.YtkjhghloldgioaaGreat
open Go.H
set_option linter.unusedVariables false
set_option linter.unusedSimpArgs false
set_option maxRecDepth 10000
theorem t8(h:Hp)(d:List Value)(i:j0)(y:C1.R h d i)(r:j0)(a:n5 i=some r):
  Tr Tryz.prog 137 #[.agg d.toArray] h λv s=>∃(f:Nat) (g c:Nat),v = .agg ([.int .i64 r.1,.int .i64 r.2.1,.slice (some ⟨f,0,none⟩) g c]:List Value).toArray/\New C1 h s [.int .i64 r.1,.int .i64 r.2.1,.slice (some ⟨f,0,none⟩) g c] r:=by
 obtain⟨w,x,l,D,m,j,rfl,rfl,t,u,k⟩:=D0 y
 obtain⟨rfl,B⟩:=Sl.len k
 unfold n5 at a
 dsimp only at a
 refine R3 (args:=[.agg #[.int .i64 w,.int .i64 x,.slice l j.length m]]) (fn:=Tryz.f137) rfl ?_
 refine Or.inr (Or.inr (Or.inl (aI (aI (by kernel_rfl) (by kernel_rfl)) ?_)))
 refine Or.inr ?_
 refine Or.inr ?_
 refine Or.inr ?_
 refine Or.inr ?_
 refine Or.inl (eX 0 (aI (aI rfl rfl) ?_))
 refine aI trivial (aI (by first|exact trivial|exact rfl) ?_)
 obtain⟨z,o,b⟩:=Sl.rows (r:=D1.toRp) k
 refine eX z (aI o ?_)
 obtain⟨E,p,a⟩:=l0 a
 refine aI (Q2 p (by first|rw[F2.length (show F2 (D1.R h) ([]:List (List Value)) ([]:K0) from trivial),F2.length b]|exact congrArg (·+1) (F2.length (show F2 (D1.R h) ([]:List (List Value)) ([]:K0) from trivial)))) ?_
 refine aI trivial (aI (by first|exact trivial|exact rfl) ?_)
 refine aI trivial (aI (by first|exact trivial|exact rfl) ?_)
 refine aI trivial (aI (by first|exact trivial|exact rfl) ?_)
 intro H A e
 obtain⟨q,n,rfl,F,G,C⟩:=U0.outS (r:=D1.toRp) e (F2.append (show F2 (D1.R h) ([]:List (List Value)) ([]:K0) from trivial) b)
 obtain rfl:=oJ a
 exact⟨q,((([]:K0)++j)).length,n,rfl,(New.pair (New.int t) (New.pair (New.int u) (U0.newPlain (r:=D1) e (F2.append (show F2 (D1.R h) ([]:List (List Value)) ([]:K0) from trivial) b) (y0c _))))⟩
theorem v06(h:Hp)(l:List Value)(m:j0)(A:C1.R h l m)(f:Int)(F:Q0 f)(r:Int)(e:K7 m f=some r):
  Tr Tryz.prog 302 #[.agg l.toArray,.int .i64 f] h λv i=>v = .int .i64 r/\i=h:=by
 obtain⟨y,z,o,M,p,j,rfl,rfl,D,E,n⟩:=D0 A
 obtain⟨rfl,L⟩:=Sl.len n
 unfold K7 at e
 dsimp only at e
 refine Tr.forget (R3 (args:=[.agg #[.int .i64 y,.int .i64 z,.slice o j.length p],.int .i64 f]) (fn:=Tryz.f302) rfl ?_)
 obtain⟨k,q,e⟩:=l0 e
 refine eX { vars:=[5,11],boxes:=[],owns:=[],fuel:=true } (eX (λvs os i=>∃ b c,vs.tail = [.int .i64 b,.int .i64 c]/\os = []/\Sub h i/\Q0 b/\Q0 c/\Q3 j f (L2 vs) b c=some k) (eX (λ_ _=>0) (aI (eX V0 ⟨0,0,rfl,rfl,(Sub.refl _),(by decide),(by decide),q⟩) ?_)))
 rintro _ _ d K ⟨b,c,⟨⟩,⟨⟩,g,x,G,a⟩
 replace a:Q3 j f d b c=some k:=a
 obtain _|d:=d
 ·cases a
 rw[Q3.eq_2]at a
 refine ifB a (λt a=>?_) λt a=>?_
 ·refine ld a (I0.mono g n) λN C B a=>?_
  obtain⟨O,P,Q,rfl,rfl,H,I,J⟩:=H1 B
  try dsimp only at a
  refine ifB a (λu a=>?_) λu a=>?_
  ·refine ifB a (λw a=>?_) λw a=>?_
   ·exact d4 d ⟨(IntKind.i64.wrap ((IntKind.i64.wrap (b+1))+1)),(IntKind.i64.wrap (c+1)),rfl,rfl,g,(M0 _),(M0 _),a⟩
   ·exact d4 d ⟨(IntKind.i64.wrap (b+1)),(IntKind.i64.wrap (c+1)),rfl,rfl,g,(M0 _),(M0 _),a⟩
  ·refine ifB a (λs a=>?_) λs a=>?_
   ·exact d4 d ⟨(IntKind.i64.wrap (b+1)),(IntKind.i64.wrap (c+1)),rfl,rfl,g,(M0 _),(M0 _),a⟩
   ·exact d4 d ⟨b,(IntKind.i64.wrap (c+1)),rfl,rfl,g,x,(M0 _),a⟩
 ·obtain rfl:=oJ a
  try dsimp only[j1,E1]at e
  obtain rfl:=oJ e
  exact aI rfl g
theorem w8(h:Hp)(i:Option Addr)(o k:Nat)(d:K0)(q:I0.R h [.slice i o k] d)(j:Option Addr)(p l:Nat)(e:K0)(s:I0.R h [.slice j p l] e)(r:Bool)(b:O1 d e=some r):
  Tr Tryz.prog 207 #[.slice i o k,.slice j p l] h λv m=>v = .bool r/\m=h:=by
 obtain⟨rfl,Q⟩:=Sl.len q
 obtain⟨rfl,S⟩:=Sl.len s
 unfold O1 at b
 refine Tr.forget (R3 (args:=[.slice i d.length k,.slice j e.length l]) (fn:=Tryz.f207) rfl ?_)
 refine ifB b (λu b=>?_) λu b=>?_
 ·obtain rfl:=oJ b
  exact aI rfl (Sub.refl _)
 ·obtain⟨n,t,b⟩:=l0 b
  refine eX { vars:=[13],boxes:=[],owns:=[],fuel:=true } (eX (λvs os m=>∃ c,vs.tail = [.int .i64 c]/\os = []/\Sub h m/\Q0 c/\J0 d e (L2 vs) c=some n) (eX (λ_ _=>0) (aI (eX V0 ⟨0,rfl,rfl,(Sub.refl _),(by decide),t⟩) ?_)))
  rintro _ g P ⟨c,⟨⟩,⟨⟩,f,I,a⟩
  replace a:J0 d e g c=some n:=a
  obtain _|g:=g
  ·cases a
  rw[J0.eq_2]at a
  refine ifB a (λw a=>?_) λw a=>?_
  ·refine Or.inl (aI (aI (by kernel_rfl) (by kernel_rfl)) ?_)
   refine ld a (I0.mono f q) λT G y a=>?_
   obtain⟨A,B,C,rfl,rfl,J,K,L⟩:=H1 y
   try dsimp only at a
   refine ld a (I0.mono f s) λU H z a=>?_
   obtain⟨D,E,F,rfl,rfl,M,N,O⟩:=H1 z
   try dsimp only at a
   refine eX (!eqE (A,B,C) (D,E,F)) (aI (d0a _ _ _ rfl _ _ _ _ _ _) ?_)
   refine ifB a (λx a=>?_) λx a=>?_
   ·obtain rfl:=oJ a
    try dsimp only[D5,E5]at b
    obtain rfl:=oJ b
    exact aI rfl f
   ·exact d4 g ⟨(IntKind.i64.wrap (c+1)),rfl,rfl,f,(M0 _),a⟩
  ·obtain rfl:=oJ a
   try dsimp only[j1,E1]at b
   obtain rfl:=oJ b
   exact aI rfl f
theorem g04(h:Hp)(b:List Value)(d:j0)(w:C1.R h b d)(c:List Value)(e:j0)(x:C1.R h c e)(r:Bool)(a:H6 d e=some r):
  Tr Tryz.prog 97 #[.agg b.toArray,.agg c.toArray] h λv m=>v = .bool r/\m=h:=by
 obtain⟨n,o,i,E,k,p,rfl,rfl,y,z,f⟩:=D0 w
 obtain⟨rfl,C⟩:=Sl.len f
 obtain⟨s,t,j,F,l,u,rfl,rfl,A,B,g⟩:=D0 x
 obtain⟨rfl,D⟩:=Sl.len g
 unfold H6 at a
 dsimp only at a
 refine Tr.forget (R3 (args:=[.agg #[.int .i64 n,.int .i64 o,.slice i p.length k],.agg #[.int .i64 s,.int .i64 t,.slice j u.length l]]) (fn:=Tryz.f97) rfl ?_)
 refine trG a (λq=>w8 _ _ _ _ _ f _ _ _ _ g) λG a=>?_
 obtain rfl:=oJ a
 exact aI rfl (Sub.refl _)
theorem q03(h:Hp)(G:List Value)(J:j0)(ao:C1.R h G J)(i:Int)(aH:Q0 i)(r:(List Bool))(e:s6 J i=some r):
  Tr Tryz.prog 301 #[.agg G.toArray,.int .i64 i] h λv f=>∃(E:Option Addr) (I F:Nat),v = .slice E I F/\(Wp.slice Wp.bool).R f [.slice E I F] r/\Sub h f:=by
 obtain⟨an,q,L,aQ,T,s,rfl,rfl,aF,aG,K⟩:=D0 ao
 obtain⟨rfl,aO⟩:=Sl.len K
 unfold s6 at e
 dsimp only at e
 refine R3 (args:=[.agg #[.int .i64 an,.int .i64 q,.slice L s.length T],.int .i64 i]) (fn:=Tryz.f301) rfl ?_
 obtain⟨aR,ab,e⟩:=l0 e
 refine aI (d5 ab) ?_
 obtain⟨aX,ae,e⟩:=l0 e
 obtain⟨P,aC,X,au⟩:=s5 (F2.rep (p:=Wp.bool.R h) (a:=[.bool false]) (b:=false) rfl (q.toNat)) ae
 refine aI P ?_
 obtain rfl:=au
 refine eX _ (aI X ?_)
 obtain⟨C,ah,e⟩:=l0 e
 refine eX { vars:=[6],boxes:=[],owns:=[0],fuel:=true,kept:=[0] } (eX (λvs os f=>∃ w x m,vs.tail = [.bool w]/\os = [x]/\Sub h f/\F2 (Wp.bool.R f) x m/\I3 s (L2 vs) w m=some C) (eX (λ_ _=>0) (aI (eX V0 ⟨true,((List.replicate q.toNat ([.bool false]:List Value)).set i.toNat [.bool true]),((List.replicate q.toNat (false:Bool)).set i.toNat true),rfl,rfl,(Sub.refl _),(F2.set (p:=Wp.bool.R h) (a:=[.bool true]) (b:=true) rfl i.toNat (F2.rep (p:=Wp.bool.R h) (a:=[.bool false]) (b:=false) rfl (q.toNat))),ah⟩) ?_)))
 rintro _ x t am ⟨w,a1,m,⟨⟩,⟨⟩,A,H,d⟩
 replace d:I3 s t w m=some C:=d
 obtain _|t:=t
 ·cases d
 rw[I3.eq_2]at d
 refine ifB d (λal d=>?_) λal d=>?_
 ·obtain⟨D,ai,d⟩:=l0 d
  refine eX { vars:=[6,19],boxes:=[],owns:=[0],fuel:=true,kept:=[0] } (eX (λvs os f=>∃ l j n k,vs.tail = [.bool l,.int .i64 j]/\os = [n]/\Sub am f/\Q0 j/\F2 (Wp.bool.R f) n k/\U2 s (L2 vs) l j k=some D) (eX (λ_ _=>0) (aI (eX V0 ⟨false,0,x,m,rfl,rfl,(Sub.refl _),(by decide),H,ai⟩) ?_)))
  rintro _ _ n o z ⟨l,j,a0,k,⟨⟩,⟨⟩,u,aJ,g,c⟩
  replace c:U2 s o l j k=some D:=c
  obtain _|o:=o
  ·cases c
  rw[U2.eq_2]at c
  refine ifB c (λaj c=>?_) λaj c=>?_
  ·refine ld c (I0.mono (A.trans u) K) λaT az ap c=>?_
   obtain⟨y,aU,B,rfl,rfl,aK,aL,aM⟩:=H1 ap
   try dsimp only at c
   refine Or.inl (aI (aI (by kernel_rfl) (by kernel_rfl)) ?_)
   obtain⟨aV,ac,c⟩:=l0 c
   obtain⟨N,aA,V,aq⟩:=s5 g ac
   refine aI N ?_
   obtain rfl:=aq
   refine eX _ (aI V ?_)
   obtain⟨aW,ad,c⟩:=l0 c
   obtain⟨O,aB,W,ar⟩:=s5 g ad
   refine aI O ?_
   obtain rfl:=ar
   refine eX _ (aI W ?_)
   refine ifB c (λak c=>?_) λak c=>?_
   ·obtain⟨aY,af,c⟩:=l0 c
    obtain⟨Q,aD,Y,av⟩:=s5 g af
    refine aI Q ?_
    obtain rfl:=av
    refine eX _ (aI Y ?_)
    obtain⟨aZ,ag,c⟩:=l0 c
    obtain⟨S,aE,Z,aw⟩:=s5 (F2.set (p:=Wp.bool.R z) (a:=[.bool true]) (b:=true) rfl y.toNat g) ag
    refine aI S ?_
    obtain rfl:=aw
    refine eX _ (aI Z ?_)
    exact d4 o ⟨true,(IntKind.i64.wrap (j+1)),((n.set y.toNat [.bool true]).set B.toNat [.bool true]),((k.set y.toNat true).set B.toNat true),rfl,rfl,u,(M0 _),(F2.set (p:=Wp.bool.R z) (a:=[.bool true]) (b:=true) rfl B.toNat (F2.set (p:=Wp.bool.R z) (a:=[.bool true]) (b:=true) rfl y.toNat g)),c⟩
   ·exact d4 o ⟨l,(IntKind.i64.wrap (j+1)),n,k,rfl,rfl,u,(M0 _),g,c⟩
  ·obtain rfl:=oJ c
   try dsimp only[j1,E1]at d
   exact d4 t ⟨l,n,k,rfl,rfl,(A.trans u),g,d⟩
 ·obtain rfl:=oJ d
  try dsimp only[j1,E1]at e
  intro aS aN aa
  obtain⟨M,U,rfl,ax,ay,aP⟩:=U0.out (r:=Wp.bool.toRp) aa H
  obtain rfl:=oJ e
  exact⟨M,m.length,U,rfl,ax,(A.trans ay)⟩
theorem e08(h:Hp)(c:Int)(B:Q0 c)(r:S0)(f:g8 c=some r):
  Tr Tryz.prog 309 #[.int .i64 c] h λv e=>∃(l:Option Addr) (p m:Nat),v = .slice l p m/\F5.R e [.slice l p m] r/\Sub h e:=by
 unfold g8 at f
 refine R3 (args:=[.int .i64 c]) (fn:=Tryz.f309) rfl ?_
 obtain⟨k,x,f⟩:=l0 f
 refine eX { vars:=[4],boxes:=[],owns:=[0],fuel:=true } (eX (λvs os e=>∃ a j d,vs.tail = [.int .i64 a]/\os = [j]/\Sub h e/\Q0 a/\F2 (Wp.int.R e) j d/\o5 c (L2 vs) a d=some k) (eX (λ_ _=>0) (aI (eX V0 ⟨1,[],([]:S0),rfl,rfl,(Sub.refl _),(by decide),(show F2 (Wp.int.R h) ([]:List (List Value)) ([]:S0) from trivial),x⟩) ?_)))
 rintro _ j i o ⟨a,G,d,⟨⟩,⟨⟩,q,n,g,b⟩
 replace b:o5 c i a d=some k:=b
 obtain _|i:=i
 ·cases b
 rw[o5.eq_2]at b
 refine ifB b (λy b=>?_) λy b=>?_
 ·obtain⟨E,w,b⟩:=l0 b
  refine aI (Q2 w (by first|rw[F2.length g,F2.length (show F2 (Wp.int.R o) ([[.int .i64 a],[.int .i64 (IntKind.i64.wrap (0-a))]]:List (List Value)) [a,(IntKind.i64.wrap (0-a))] from⟨⟨rfl,n⟩,⟨⟨rfl,(M0 _)⟩,trivial⟩⟩)]|exact congrArg (·+2) (F2.length g))) ?_
  exact d4 i ⟨(IntKind.i64.wrap (a+1)),(j++([[.int .i64 a],[.int .i64 (IntKind.i64.wrap (0-a))]]:List (List Value))),(d ++ [a,(IntKind.i64.wrap (0-a))]),rfl,rfl,q,(M0 _),(F2.append g (show F2 (Wp.int.R o) ([[.int .i64 a],[.int .i64 (IntKind.i64.wrap (0-a))]]:List (List Value)) [a,(IntKind.i64.wrap (0-a))] from⟨⟨rfl,n⟩,⟨⟨rfl,(M0 _)⟩,trivial⟩⟩)),b⟩
 ·obtain rfl:=oJ b
  try dsimp only[j1,E1]at f
  intro F C u
  obtain⟨s,t,rfl,z,A,D⟩:=U0.out (r:=Wp.int.toRp) u g
  obtain rfl:=oJ f
  exact⟨s,d.length,t,rfl,z,(q.trans A)⟩
theorem q08(h:Hp)(c:Option Addr)(l d:Nat)(b:K0)(o:I0.R h [.slice c l d] b)(r:K0)(a:D8 b=some r):
  Tr Tryz.prog 251 #[.slice c l d] h λv x=>∃(e:Option Addr) (k f:Nat),v = .slice e k f/\New I0 h x [.slice e k f] r:=by
 obtain⟨rfl,E⟩:=Sl.len o
 unfold D8 at a
 refine R3 (args:=[.slice c b.length d]) (fn:=Tryz.f251) rfl ?_
 obtain⟨y,s,g⟩:=Sl.rows (r:=D1.toRp) o
 refine eX y (aI s ?_)
 obtain⟨H,u,a⟩:=l0 a
 refine aI (Q2 u (by first|rw[F2.length (show F2 (D1.R h) ([]:List (List Value)) ([]:K0) from trivial),F2.length g]|exact congrArg (·+1) (F2.length (show F2 (D1.R h) ([]:List (List Value)) ([]:K0) from trivial)))) ?_
 refine Or.inl ?_
 intro N B t
 obtain⟨I,w,a⟩:=l0 a
 refine Tr.mono (B0b _ t (F2.append (show F2 (D1.R h) ([]:List (List Value)) ([]:K0) from trivial) g) (d5 w)) ?_
 rintro _ C ⟨rfl,O,i,m⟩
 obtain⟨z,A,rfl,J,L,F⟩:=U0.out (r:=D1.toRp) i m
 refine Tr.mono (C0b _ i m) ?_
 rintro _ D ⟨P,j,n⟩
 obtain⟨p,q,rfl,K,M,G⟩:=U0.out (r:=D1.toRp) j n
 obtain rfl:=oJ a
 exact⟨p,((p9 eqE (D01 P1 (([]:K0)++b)))).length,q,rfl,(U0.newPlain (r:=D1) j n (y0c _))⟩
theorem m06(h:Hp)(X:List Value)(ae:j0)(aW:C1.R h X ae)(I:Option Addr)(ad J:Nat)(w:S0)(ah:F5.R h [.slice I ad J] w)(r:j0)(d:V8 ae w=some r):
  Tr Tryz.prog 291 #[.agg X.toArray,.slice I ad J] h λv e=>∃(W:List Value),v = .agg W.toArray/\New C1 h e W r:=by
 obtain⟨af,i,ai,bG,ap,P,rfl,rfl,aQ,bn,ag⟩:=D0 aW
 obtain⟨rfl,bD⟩:=Sl.len ag
 obtain⟨rfl,aU⟩:=Sl.len ah
 unfold V8 at d
 dsimp only at d
 refine R3 (args:=[.agg #[.int .i64 af,.int .i64 i,.slice ai P.length ap],.slice I w.length J]) (fn:=Tryz.f291) rfl ?_
 obtain⟨bI,aA,d⟩:=l0 d
 refine aI (d5 aA) ?_
 obtain⟨aV,az,d⟩:=l0 d
 obtain rfl:(List.replicate i.toNat ([.int .i64 0]:List Value)).length=aV:=(F2.length (F2.rep (p:=Wp.int.R h) (a:=[.int .i64 0]) (b:=0) ⟨rfl,(by decide)⟩ (i.toNat))).trans (oJ az)
 obtain⟨bJ,bm,d⟩:=l0 d
 obtain⟨V,aL,d⟩:=l0 d
 refine eX { vars:=[17],boxes:=[],owns:=[0],fuel:=true,kept:=[0] } (eX (λvs os e=>∃ g C y,vs.tail = [.int .i64 g]/\os = [C]/\Sub h e/\Q0 g/\F2 (Wp.int.R e) C y/\C6 ((List.replicate i.toNat ([.int .i64 0]:List Value))).length (L2 vs) g y=some V) (eX (λ_ _=>0) (aI (eX V0 ⟨0,(List.replicate i.toNat ([.int .i64 0]:List Value)),(List.replicate i.toNat (0:Int)),rfl,rfl,(Sub.refl _),(by decide),(F2.rep (p:=Wp.int.R h) (a:=[.int .i64 0]) (b:=0) ⟨rfl,(by decide)⟩ (i.toNat)),aL⟩) ?_)))
 rintro _ C E ac ⟨g,b2,y,⟨⟩,⟨⟩,G,bp,K,c⟩
 replace c:C6 ((List.replicate i.toNat ([.int .i64 0]:List Value))).length E g y=some V:=c
 obtain _|E:=E
 ·cases c
 rw[C6.eq_2]at c
 refine ifB c (λaP c=>?_) λaP c=>?_
 ·obtain⟨bT,aC,c⟩:=l0 c
  obtain⟨ak,be,ar,aX⟩:=s5 K aC
  refine aI ak ?_
  obtain⟨rfl,bq⟩:=aX
  refine eX _ (aI ar ?_)
  exact d4 E ⟨(IntKind.i64.wrap (g+1)),(C.set g.toNat [.int .i64 (-1)]),(y.set g.toNat (-1)),rfl,rfl,G,(M0 _),(F2.set (p:=Wp.int.R ac) (a:=[.int .i64 (-1)]) (b:=(-1)) ⟨rfl,(by decide)⟩ g.toNat K),c⟩
 ·obtain rfl:=oJ c
  try dsimp only[j1,E1]at d
  obtain⟨T,aJ,d⟩:=l0 d
  refine eX { vars:=[26],boxes:=[],owns:=[0],fuel:=true,kept:=[0] } (eX (λvs os e=>∃ f H o,vs.tail = [.int .i64 f]/\os = [H]/\Sub ac e/\Q0 f/\F2 (Wp.int.R e) H o/\B6 w (L2 vs) f o=some T) (eX (λ_ _=>0) (aI (eX V0 ⟨0,C,y,rfl,rfl,(Sub.refl _),(by decide),K,aJ⟩) ?_)))
  rintro _ H D N ⟨f,b0,o,⟨⟩,⟨⟩,F,aR,u,c⟩
  replace c:B6 w D f o=some T:=c
  obtain _|D:=D
  ·cases c
  rw[B6.eq_2]at c
  refine ifB c (λaM c=>?_) λaM c=>?_
  ·refine ldI c (F5.mono (G.trans F) ah) λS br c=>?_
   obtain⟨bU,aD,c⟩:=l0 c
   obtain⟨al,bf,au,aY⟩:=s5 u aD
   refine aI al ?_
   obtain⟨rfl,bs⟩:=aY
   refine eX _ (aI au ?_)
   exact d4 D ⟨(IntKind.i64.wrap (f+1)),(H.set S.toNat [.int .i64 f]),(o.set S.toNat f),rfl,rfl,F,(M0 _),(F2.set (p:=Wp.int.R N) (a:=[.int .i64 f]) (b:=f) ⟨rfl,aR⟩ S.toNat u),c⟩
  ·obtain rfl:=oJ c
   try dsimp only[j1,E1]at d
   obtain⟨U,aK,d⟩:=l0 d
   refine eX { vars:=[44],boxes:=[2],owns:=[1],fuel:=true,nilsB:=[(2,2,166,3,24)] } (eX (λvs os e=>∃ s k l B x,vs.tail = [.int .i64 s,.int .i64 k,.int .i64 l]/\os = [B]/\Sub N e/\Q0 s/\Q0 k/\Q0 l/\F2 (D1.R e) B x/\W5 P o (L2 vs) s k l x=some U) (eX (λ_ _=>0) (aI (eX V0 ⟨0,af,((w.length:Nat):Int),[],([]:K0),rfl,rfl,(Sub.refl _),(by decide),aQ,(f0d aU),(show F2 (D1.R N) [] [] from trivial),aK⟩) ?_)))
   rintro _ _ _ B A O ⟨s,k,l,b1,x,⟨⟩,⟨⟩,j,bo,L,M,z,c⟩
   replace c:W5 P o A s k l x=some U:=c
   obtain _|A:=A
   ·cases c
   rw[W5.eq_2]at c
   refine ifB c (λaN c=>?_) λaN c=>?_
   ·refine ld c (I0.mono ((G.trans F).trans j) ag) λbV bg aZ c=>?_
    obtain⟨bW,t,bX,rfl,rfl,bt,Z,bu⟩:=H1 aZ
    try dsimp only at c
    obtain⟨bY,aE,c⟩:=l0 c
    obtain⟨am,bh,av,a0⟩:=s5 (F2.up (r:=Wp.int.toRp) j u) aE
    refine aI am ?_
    obtain⟨rfl,bv⟩:=a0
    refine eX _ (aI av ?_)
    obtain⟨bZ,aF,c⟩:=l0 c
    obtain⟨bi,Y,a1⟩:=N04 (F2.up (r:=Wp.int.toRp) j u) aF (h0d O)
    refine aI (λq=>(Y q).1) ?_
    obtain⟨rfl,bw⟩:=a1
    refine eX _ (aI (λq=>(Y q).2) ?_)
    refine ifB c (λaO c=>?_) λaO c=>?_
    ·refine Or.inr (Or.inr (Or.inl (aI (aI (by kernel_rfl) (by kernel_rfl)) ?_)))
     obtain⟨m,aG,c⟩:=l0 c
     obtain⟨an,bj,aw,a2⟩:=s5 (F2.up (r:=Wp.int.toRp) j u) aG
     obtain⟨rfl,aa⟩:=a2
     refine Or.inl ?_
     apply eX
     refine aI ?_ ?_
     ·intro bx bL
      exact aI an (aI rfl (aI rfl rfl))
     refine Or.inl (eX (.val (.int .i64 m)) (aI ?_ ?_))
     ·intro bz bM
      exact eX _ (aI aw (aI rfl (aI rfl rfl)))
     obtain⟨n,aH,c⟩:=l0 c
     obtain⟨ao,bk,ax,a3⟩:=s5 (F2.up (r:=Wp.int.toRp) j u) aH
     obtain⟨rfl,ab⟩:=a3
     refine Or.inl ?_
     apply eX
     refine aI ?_ ?_
     ·intro bA bN
      exact aI ao (aI rfl (aI rfl rfl))
     refine Or.inl (eX (.val (.int .i64 n)) (aI ?_ ?_))
     ·intro bB bO
      exact eX _ (aI ax (aI rfl (aI rfl rfl)))
     refine Or.inl (eX (.agg [.val (.int .i64 m),.val (.int .i64 t),.val (.int .i64 n)]) (aI ?_ ?_))
     ·intro bC bP
      exact aI rfl (aI rfl rfl)
     refine Or.inr ?_
     refine Or.inr ?_
     refine Or.inr ?_
     refine Or.inl (eX 0 (aI (aI rfl rfl) ?_))
     refine aI trivial (aI (by first|exact trivial|exact rfl) ?_)
     obtain⟨bK,aB,c⟩:=l0 c
     refine aI (Q2 aB (by first|rw[F2.length z,F2.length (show F2 (D1.R O) ([[.int .i64 m,.int .i64 t,.int .i64 n]]:List (List Value)) [(m,t,n)] from⟨(M1 aa Z ab),trivial⟩)]|exact congrArg (·+1) (F2.length z))) ?_
     refine aI trivial (aI (by first|exact trivial|exact rfl) ?_)
     refine aI trivial (aI (by first|exact trivial|exact rfl) ?_)
     exact d4 A ⟨(IntKind.i64.wrap (s+1)),k,l,(B++([[.int .i64 m,.int .i64 t,.int .i64 n]]:List (List Value))),(x ++ [(m,t,n)]),rfl,rfl,j,(M0 _),L,M,(F2.append z (show F2 (D1.R O) ([[.int .i64 m,.int .i64 t,.int .i64 n]]:List (List Value)) [(m,t,n)] from⟨(M1 aa Z ab),trivial⟩)),c⟩
    ·exact d4 A ⟨(IntKind.i64.wrap (s+1)),k,l,B,x,rfl,rfl,j,(M0 _),L,M,z,c⟩
   ·obtain rfl:=oJ c
    try dsimp only[j1,E1]at d
    refine Or.inl ?_
    intro bR aS ay
    obtain⟨bd,bl,rfl,ba,bb,bF⟩:=U0.out (r:=D1.toRp) ay z
    refine trM d (q08 _ _ _ _ _ ba) ?_
    rintro bc d bS aT ⟨aj,bH,aq,rfl,Q⟩
    have bQ:Sub aS aT:=Q.sub
    have a4:=Q.r
    obtain⟨rfl,bE⟩:=Sl.len a4
    obtain rfl:=oJ d
    exact⟨([.int .i64 k,.int .i64 l,.slice aj bc.length aq]),rfl,(New.pair (New.int L) (New.pair (New.int M) (New.from Q (((G.trans F).trans j).trans bb))))⟩
theorem K03(h:Hp)(c:ByteArray)(t:c.size<=9223372036854775807)(r:Bool)(b:P7 c=some r):
  Tr Tryz.prog 136 #[.string c] h λv f=>v = .bool r/\f=h:=by
 unfold P7 at b
 refine Tr.forget (R3 (args:=[.string c]) (fn:=Tryz.f136) rfl ?_)
 refine trV b (Q7 _ _ (f0d t) 1 (by decide) 8 (by decide)) λz b=>?_
 refine ifB b (λp b=>?_) λp b=>?_
 ·obtain rfl:=oJ b
  exact aI rfl (Sub.refl _)
 ·obtain⟨i,n,b⟩:=l0 b
  refine eX { vars:=[3],boxes:=[],owns:=[],fuel:=true } (eX (λvs os f=>∃ d,vs.tail = [.int .i64 d]/\os = []/\Sub h f/\Q0 d/\O5 c (L2 vs) d=some i) (eX (λ_ _=>0) (aI (eX V0 ⟨0,rfl,rfl,(Sub.refl _),(by decide),n⟩) ?_)))
  rintro _ e y ⟨d,⟨⟩,⟨⟩,g,x,a⟩
  replace a:O5 c e d=some i:=a
  obtain _|e:=e
  ·cases a
  rw[O5.eq_2]at a
  refine ifB a (λs a=>?_) λs a=>?_
  ·obtain⟨B,l,a⟩:=l0 a
   refine eX _ (aI (U9 l) ?_)
   obtain⟨w,m,a⟩:=l0 a
   refine eX w (aI (λq=>U9 (S6 m q)) ?_)
   obtain⟨A,j,a⟩:=l0 a
   refine eX _ (aI (U9 j) ?_)
   obtain⟨u,k,a⟩:=l0 a
   refine eX u (aI (λq=>U9 (S6 k q)) ?_)
   refine ifB a (λo a=>?_) λo a=>?_
   ·obtain rfl:=oJ a
    try dsimp only[D5,E5]at b
    obtain rfl:=oJ b
    exact aI rfl g
   ·exact d4 e ⟨(IntKind.i64.wrap (d+1)),rfl,rfl,g,(M0 _),a⟩
  ·obtain rfl:=oJ a
   try dsimp only[j1,E1]at b
   obtain rfl:=oJ b
   exact aI rfl g
theorem f05(h:Hp)(Y:List Value)(an:j0)(bm:C1.R h Y an)(f:Int)(be:Q0 f)(r:S0×P09)(g:S7 an f=some r):
  Tr Tryz.prog 236 #[.agg Y.toArray,.int .i64 f] h λv e=>∃(U:Option Addr) (ak W:Nat) (V:Option Addr) (al X:Nat),v = .tuple #[.slice U ak W,.slice V al X]/\F5.R e [.slice U ak W] r.1/\V0h.R e [.slice V al X] r.2/\Sub h e:=by
 obtain⟨B,j,ay,b7,aG,C,rfl,rfl,ag,bd,ap⟩:=D0 bm
 obtain⟨rfl,bW⟩:=Sl.len ap
 unfold S7 at g
 dsimp only at g
 refine R3 (args:=[.agg #[.int .i64 B,.int .i64 j,.slice ay C.length aG],.int .i64 f]) (fn:=Tryz.f236) rfl ?_
 obtain⟨cj,aT,g⟩:=l0 g
 refine aI (d5 aT) ?_
 obtain⟨cv,aY,g⟩:=l0 g
 obtain⟨aD,bG,aL,bo⟩:=s5 (F2.rep (p:=Wp.opt.R h) (a:=[.slice none 0 0]) (b:=none) (A0h h) (j.toNat)) aY
 refine aI aD ?_
 obtain⟨bB,ca,bL,rfl,cg,bj⟩:=bo
 obtain⟨rfl,bY⟩:=Sl.len bj
 intro cq M aQ
 obtain⟨af,aa,rfl,bw,P,b6⟩:=U0.outS (r:=Wp.int.toRp) aQ (show F2 (Wp.int.R h) ([]:List (List Value)) ([]:S0) from trivial)
 refine eX _ (aI aL ?_)
 obtain⟨T,a3,g⟩:=l0 g
 refine eX { vars:=[8],boxes:=[],owns:=[0,2],fuel:=true,kept:=[0] } (eX (λvs os e=>∃ u8 I w E u,vs.tail = [.int .i64 u8]/\os = [I,E]/\Sub M e/\Q0 u8/\F2 (Wp.opt.R e) I w/\F2 (Wp.int.R e) E u/\H4 B j C (L2 vs) u8 w u=some T) (eX (λ_ _=>0) (aI (eX V0 ⟨0,((List.replicate j.toNat ([.slice none 0 0]:List Value)).set f.toNat [.slice (some ⟨af,0,none⟩) (([]:S0)).length aa]),((List.replicate j.toNat (none:Option S0)).set f.toNat (some ([]:S0))),([[.int .i64 f]]:List (List Value)),[f],rfl,rfl,(Sub.refl _),(by decide),(F2.set (p:=Wp.opt.R M) (a:=[.slice (some ⟨af,0,none⟩) (([]:S0)).length aa]) (b:=some ([]:S0)) (B0h bw) f.toNat (F2.up (r:=Wp.opt.toRp) P (F2.rep (p:=Wp.opt.R h) (a:=[.slice none 0 0]) (b:=none) (A0h h) (j.toNat)))),(show F2 (Wp.int.R M) ([[.int .i64 f]]:List (List Value)) [f] from⟨⟨rfl,be⟩,trivial⟩),a3⟩) ?_)))
 rintro _ I E G bT ⟨u8,cC,w,cy,u,⟨⟩,⟨⟩,O,bS,ac,F,d⟩
 replace d:H4 B j C G u8 w u=some T:=d
 obtain _|G:=G
 ·cases d
 rw[H4.eq_2]at d
 obtain⟨bh,aS,d⟩:=l0 d
 obtain rfl:E.length=bh:=(F2.length F).trans (oJ aS)
 obtain⟨ck,bQ,d⟩:=l0 d
 refine ifB d (λba d=>?_) λba d=>?_
 ·obtain⟨aw,aX,d⟩:=l0 d
  obtain⟨aC,bF,aK,bn⟩:=s5 F aX
  refine aI aC ?_
  obtain⟨rfl,bf⟩:=bn
  refine eX _ (aI aK ?_)
  refine trM d (e08 _ _ ag) ?_
  rintro ax d cp bg ⟨bA,b8,bK,rfl,aq,H⟩
  obtain⟨rfl,bX⟩:=Sl.len aq
  obtain⟨S,a2,d⟩:=l0 d
  refine eX { vars:=[36],boxes:=[],owns:=[0,2],fuel:=true,kept:=[0] } (eX (λvs os e=>∃ l x m y n,vs.tail = [.int .i64 l]/\os = [x,y]/\Sub bg e/\Q0 l/\F2 (Wp.opt.R e) x m/\F2 (Wp.int.R e) y n/\K3 ax B j C aw (L2 vs) l m n=some S) (eX (λ_ _=>0) (aI (eX V0 ⟨0,I,w,E,u,rfl,rfl,(Sub.refl _),(by decide),(F2.up (r:=Wp.opt.toRp) H ac),(F2.up (r:=Wp.int.toRp) H F),a2⟩) ?_)))
  rintro _ x y A ai ⟨l,cz,m,cA,n,⟨⟩,⟨⟩,D,bR,t,z,c⟩
  replace c:K3 ax B j C aw A l m n=some S:=c
  obtain _|A:=A
  ·cases c
  rw[K3.eq_2]at c
  refine ifB c (λbb c=>?_) λbb c=>?_
  ·refine ldI c (F5.mono D aq) λk K c=>?_
   refine trV c (e05 _ _ _ (B0 ag bd (I0.mono (((P.trans O).trans H).trans D) ap)) _ bf _ K) λi c=>?_
   obtain⟨cl,aU,c⟩:=l0 c
   have ah:Q0 i:=d5 aU
   obtain⟨bz,aZ,c⟩:=l0 c
   obtain⟨bH,ab,bp⟩:=N04 t aZ (B0i ai)
   refine aI (λq=>(ab q).1) ?_
   obtain⟨bC,cb,bM,rfl,bi,bk⟩:=bp
   obtain⟨rfl,bZ⟩:=Sl.len bk
   refine eX _ (aI (λq=>(ab q).2) ?_)
   refine eX (bz.isNone) (aI (λ_=>by rw[←bi];exact A0i _ _ _ rfl _ _ _) ?_)
   refine ifB c (λbc c=>?_) λbc c=>?_
   ·obtain⟨cw,a0,c⟩:=l0 c
    obtain⟨aE,bI,aM,bq⟩:=s5 t a0
    refine aI aE ?_
    obtain⟨bD,cc,bN,rfl,ch,ao⟩:=bq
    obtain⟨rfl,b0⟩:=Sl.len ao
    refine eX _ (aI aM ?_)
    obtain⟨J,ad,c⟩:=l0 c
    refine Tr.mono (w06 _ _ _ _ _ ao _  ad) ?_
    rintro cr L ⟨ad,cd,bO,rfl,Q⟩
    have co:Sub ai L:=Q.sub
    have br:=Q.r
    obtain⟨rfl,b1⟩:=Sl.len br
    obtain⟨cm,aV,c⟩:=l0 c
    obtain⟨bx,bt,aj,az⟩:=New.app Q (Sub.refl _)
    refine eX bx (aI bt (aI (Q2 aV (by first|rw[aj,F2.length (show F2 (Wp.int.R L) ([[.int .i64 k]]:List (List Value)) [k] from⟨⟨rfl,K⟩,trivial⟩)]|(rw[aj];rfl))) ?_))
    intro cu N a4
    obtain⟨s,ae,am,cf,Z,rfl⟩:=az _ _ _ _ _ (F3.ofPlain (g0d _) (show F2 (Wp.int.R L) ([[.int .i64 k]]:List (List Value)) [k] from⟨⟨rfl,K⟩,trivial⟩)) Z3.ofPlain a4
    have ar:=s.r
    obtain⟨aO,b3⟩:=Sl.len ar
    subst aO
    obtain⟨cx,a1,c⟩:=l0 c
    obtain⟨aF,bJ,aN,bs⟩:=s5 (F2.up (r:=Wp.opt.toRp) s.sub t) a1
    refine aI aF ?_
    obtain⟨bE,ce,bP,rfl,ci,bl⟩:=bs
    obtain⟨rfl,b2⟩:=Sl.len bl
    refine eX _ (aI aN ?_)
    obtain⟨cn,aW,c⟩:=l0 c
    refine aI (Q2 aW (by first|rw[F2.length (F2.up (r:=Wp.int.toRp) s.sub z),F2.length (show F2 (Wp.int.R N) ([[.int .i64 i]]:List (List Value)) [i] from⟨⟨rfl,ah⟩,trivial⟩)]|exact congrArg (·+1) (F2.length (F2.up (r:=Wp.int.toRp) s.sub z)))) ?_
    exact d4 A ⟨(IntKind.i64.wrap (l+1)),(x.set i.toNat [.slice (some ⟨ae,am,none⟩) (J ++ [k]).length Z]),(m.set i.toNat (some (J ++ [k]))),(y++([[.int .i64 i]]:List (List Value))),(n ++ [i]),rfl,rfl,(D.trans s.sub),(M0 _),(F2.set (p:=Wp.opt.R N) (a:=[.slice (some ⟨ae,am,none⟩) (J ++ [k]).length Z]) (b:=some (J ++ [k])) (B0h ar) i.toNat (F2.up (r:=Wp.opt.toRp) s.sub t)),(F2.append (F2.up (r:=Wp.int.toRp) s.sub z) (show F2 (Wp.int.R N) ([[.int .i64 i]]:List (List Value)) [i] from⟨⟨rfl,ah⟩,trivial⟩)),c⟩
   ·exact d4 A ⟨(IntKind.i64.wrap (l+1)),x,m,y,n,rfl,rfl,D,(M0 _),t,z,c⟩
  ·obtain rfl:=oJ c
   try dsimp only[j1,E1]at d
   exact d4 G ⟨(IntKind.i64.wrap (u8+1)),x,m,y,n,rfl,rfl,((O.trans H).trans D),(M0 _),t,z,d⟩
 ·obtain rfl:=oJ d
  try dsimp only[j1,E1]at g
  intro cs bU aP
  obtain⟨aA,aH,rfl,bu,au,b4⟩:=U0.out (r:=Wp.int.toRp) aP F
  intro ct bV aR
  obtain⟨aB,aJ,rfl,bv,av,b5⟩:=U0.out (r:=F5.toRp) aR (F2.ofOpt (F2.up (r:=Wp.opt.toRp) au ac))
  obtain rfl:=oJ g
  exact⟨aA,u.length,aH,aB,(List.map (λo:Option S0=>o.getD ([]:S0)) w).length,aJ,rfl,(F5.mono av bu),bv,(((P.trans O).trans au).trans av)⟩
theorem q02(h:Hp)(f:List Value)(l:j0)(A:C1.R h f l)(r:S0)(a:R5 l=some r):
  Tr Tryz.prog 303 #[.agg f.toArray] h λv g=>∃(d:Option Addr) (k e:Nat),v = .slice d k e/\F5.R g [.slice d k e] r/\Sub h g:=by
 obtain⟨x,y,n,O,q,z,rfl,rfl,i,j,b⟩:=D0 A
 obtain⟨rfl,K⟩:=Sl.len b
 unfold R5 at a
 dsimp only at a
 refine R3 (args:=[.agg #[.int .i64 x,.int .i64 y,.slice n z.length q]]) (fn:=Tryz.f303) rfl ?_
 refine trV a (Y9 _ _ _ (B0 i j b)) λU a=>?_
 refine ifB a (λw a=>?_) λw a=>?_
 ·intro S I u
  obtain⟨p,t,rfl,B,D,N⟩:=U0.out (r:=Wp.int.toRp) u (show F2 (Wp.int.R h) ([]:List (List Value)) ([]:S0) from trivial)
  obtain rfl:=oJ a
  exact⟨p,(([]:S0)).length,t,rfl,B,D⟩
 ·refine trM a (f05 _ _ _ (B0 i j b) 0 (by decide)) ?_
  rintro E a T J ⟨o,P,s,G,Q,H,rfl,c,m,C⟩
  obtain⟨F,V⟩:=E
  dsimp only at a c m
  obtain⟨rfl,L⟩:=Sl.len c
  obtain⟨rfl,M⟩:=Sl.len m
  obtain rfl:=oJ a
  exact⟨o,F.length,s,rfl,c,C⟩
theorem r02(h:Hp)(j:List Value)(k:j0)(J:C1.R h j k)(r:j0)(a:S5 k=some r):
  Tr Tryz.prog 221 #[.agg j.toArray] h λv x=>∃(i:List Value),v = .agg i.toArray/\New C1 h x i r:=by
 obtain⟨G,H,n,af,p,I,rfl,rfl,c,d,b⟩:=D0 J
 obtain⟨rfl,ab⟩:=Sl.len b
 unfold S5 at a
 dsimp only at a
 refine R3 (args:=[.agg #[.int .i64 G,.int .i64 H,.slice n I.length p]]) (fn:=Tryz.f221) rfl ?_
 refine trV a (Y9 _ _ _ (B0 c d b)) λan a=>?_
 refine ifB a (λy a=>?_) λy a=>?_
 ·refine trM a (t8 _ _ _ (B0 c d b)) ?_
  rintro U a al E ⟨w,ah,s,rfl,e⟩
  have aj:Sub h E:=e.sub
  have l:=e.r
  obtain⟨V,W,X⟩:=U
  dsimp only at a e l
  obtain⟨_,_,_,_,_,_,t,u,B,C,M⟩:=D0 l
  cases t
  cases u
  obtain⟨rfl,ad⟩:=Sl.len M
  try dsimp only at a
  have P:=New.sndI (New.sndI (e))
  obtain rfl:=oJ a
  exact⟨([.int .i64 V,.int .i64 W,.slice (some ⟨w,0,none⟩) X.length s]),rfl,(New.pair (New.int B) (New.pair (New.int C) P))⟩
 ·refine Or.inr (Or.inr (Or.inl (aI (aI (by kernel_rfl) (by kernel_rfl)) ?_)))
  refine Or.inr ?_
  refine Or.inr ?_
  refine Or.inr ?_
  refine Or.inl (eX 2 (aI (aI rfl rfl) ?_))
  refine trM a (q02 _ _ _ (B0 c d b)) ?_
  rintro ap a am F ⟨Y,ai,aa,rfl,m,f⟩
  obtain⟨rfl,ae⟩:=Sl.len m
  refine aI (aI rfl f) (aI (by first|exact trivial|exact rfl) ?_)
  refine trM a (m06 _ _ _ (B0 c d (I0.mono f b)) _ _ _ _ m) ?_
  rintro ao a ak D ⟨Z,rfl,g⟩
  have N:Sub F D:=g.sub
  have K:=g.r
  obtain⟨Q,S,o,ag,q,T,rfl,rfl,z,A,L⟩:=D0 K
  obtain⟨rfl,ac⟩:=Sl.len L
  try dsimp only at a
  have O:=New.sndI (New.sndI (g))
  refine aI (aI rfl N) (aI (by first|exact trivial|exact rfl) ?_)
  refine aI trivial (aI (by first|exact trivial|exact rfl) ?_)
  obtain rfl:=oJ a
  exact⟨([.int .i64 Q,.int .i64 S,.slice o T.length q]),rfl,(New.pair (New.int z) (New.pair (New.int A) (New.from O f)))⟩
theorem V05(h:Hp)(al:List Value)(aF:j0)(bQ:C1.R h al aF)(r:j0×S0)(c:w7 aF=some r):
  Tr Tryz.prog 220 #[.agg al.toArray] h λv d=>∃(ak:List Value) (ai:Option Addr) (aE aj:Nat),v = .tuple #[.agg ak.toArray,.slice ai aE aj]/\New C1 h d ak r.1/\F5.R d [.slice ai aE aj] r.2:=by
 obtain⟨bM,U,aU,cx,a2,bN,rfl,rfl,av,aw,V⟩:=D0 bQ
 obtain⟨rfl,cn⟩:=Sl.len V
 unfold w7 at c
 dsimp only at c
 refine R3 (args:=[.agg #[.int .i64 bM,.int .i64 U,.slice aU bN.length a2]]) (fn:=Tryz.f220) rfl ?_
 refine trM c (t8 _ _ _ (B0 av aw V)) ?_
 rintro b6 c cL H ⟨aq,cy,am,rfl,N⟩
 have X:Sub h H:=N.sub
 have aH:=N.r
 obtain⟨aO,aP,ab⟩:=b6
 dsimp only at c N aH
 obtain⟨_,_,_,_,_,_,bc,be,aA,aB,bR⟩:=D0 aH
 cases bc
 cases be
 obtain⟨rfl,cp⟩:=Sl.len bR
 try dsimp only at c
 have aL:=New.sndI (New.sndI (N))
 refine trV c (X02 _ _ _ (B0 av aw (I0.mono X V))) λcS c=>?_
 refine ifB c (λbA c=>?_) λbA c=>?_
 ·intro cP ck bh
  obtain⟨aX,a4,rfl,bW,b1,cs⟩:=U0.out (r:=Wp.int.toRp) bh (show F2 (Wp.int.R H) ([]:List (List Value)) ([]:S0) from trivial)
  obtain rfl:=oJ c
  exact⟨([.int .i64 aO,.int .i64 aP,.slice (some ⟨aq,0,none⟩) ab.length am]),aX,(([]:S0)).length,a4,rfl,(New.pair (New.int aA) (New.pair (New.int aB) (New.mono aL b1))),bW⟩
 ·obtain⟨ae,bo,c⟩:=l0 c
  refine eX { vars:=[6],boxes:=[],owns:=[0],fuel:=true } (eX (λvs os d=>∃ g M n,vs.tail = [.int .i64 g]/\os = [M]/\Sub H d/\Q0 g/\F2 (Wp.int.R d) M n/\C4 U (L2 vs) g n=some ae) (eX (λ_ _=>0) (aI (eX V0 ⟨0,[],([]:S0),rfl,rfl,(Sub.refl _),(by decide),(show F2 (Wp.int.R H) ([]:List (List Value)) ([]:S0) from trivial),bo⟩) ?_)))
  rintro _ M I aC ⟨g,cU,n,⟨⟩,⟨⟩,L,ax,u,a⟩
  replace a:C4 U I g n=some ae:=a
  obtain _|I:=I
  ·cases a
  rw[C4.eq_2]at a
  refine ifB a (λbt a=>?_) λbt a=>?_
  ·obtain⟨cD,bi,a⟩:=l0 a
   refine aI (Q2 bi (by first|rw[F2.length u,F2.length (show F2 (Wp.int.R aC) ([[.int .i64 g]]:List (List Value)) [g] from⟨⟨rfl,ax⟩,trivial⟩)]|exact congrArg (·+1) (F2.length u))) ?_
   exact d4 I ⟨(IntKind.i64.wrap (g+1)),(M++([[.int .i64 g]]:List (List Value))),(n ++ [g]),rfl,rfl,L,(M0 _),(F2.append u (show F2 (Wp.int.R aC) ([[.int .i64 g]]:List (List Value)) [g] from⟨⟨rfl,ax⟩,trivial⟩)),a⟩
  ·obtain rfl:=oJ a
   try dsimp only[j1,E1]at c
   obtain⟨af,bp,c⟩:=l0 c
   refine eX { vars:=[5],boxes:=[2],owns:=[],fuel:=true,pubs:=[5] } (eX (λvs os d=>∃(C:Option Addr) (S t:Nat) (A:S0) (k:Int) (i:Int) (D:Option Addr) (T E:Nat) (o:K0),vs.tail = [.slice C S t,.int .i64 k,.int .i64 i,.slice D T E]/\os = []/\Sub h d/\New F5 h d [.slice C S t] A/\Q0 k/\Q0 i/\New I0 h d [.slice D T E] o/\Z4 (L2 vs) A k i o=some af) (eX (λ_ _=>0) ?_))
   intro cK ci ap
   obtain⟨aY,ba,rfl,cI,aK,ct⟩:=U0.out (r:=Wp.int.toRp) ap u
   refine aI (eX V0 ⟨aY,n.length,ba,n,aO,aP,(some ⟨aq,0,none⟩),ab.length,am,ab,rfl,rfl,((X.trans L).trans aK),(New.from (U0.newPlain (r:=Wp.int) ap u (g0d _)) (X.trans L)),aA,aB,(New.mono aL (L.trans aK)),bp⟩) ?_
   rintro _ _ _ _ J cj ⟨C,S,t,A,k,i,D,T,E,o,⟨⟩,⟨⟩,cJ,aM,F,G,aN,a⟩
   replace a:Z4 J A k i o=some af:=a
   obtain _|J:=J
   ·cases a
   rw[Z4.eq_2]at a
   have aG:=aM.r
   obtain⟨rfl,bI⟩:=Sl.len aG
   have K:=aN.r
   obtain⟨rfl,co⟩:=Sl.len K
   refine trM a (q03 _ _ _ (B0 F G K) 0 (by decide)) ?_
   rintro aQ a cM bE ⟨cb,cz,cf,rfl,aJ,p⟩
   obtain⟨rfl,cq⟩:=Sl.len aJ
   obtain⟨ag,bq,a⟩:=l0 a
   refine eX { vars:=[8,9],boxes:=[],owns:=[],fuel:=true } (eX (λvs os d=>∃ l m,vs.tail = [.int .i64 l,.int .i64 m]/\os = []/\Sub bE d/\Q0 l/\Q0 m/\P2 i k o aQ (L2 vs) l m=some ag) (eX (λ_ _=>0) (aI (eX V0 ⟨0,1,rfl,rfl,(Sub.refl _),(by decide),(by decide),bq⟩) ?_)))
   rintro _ _ x Q ⟨l,m,⟨⟩,⟨⟩,j,bB,ay,b⟩
   replace b:P2 i k o aQ x l m=some ag:=b
   obtain _|x:=x
   ·cases b
   rw[P2.eq_2]at b
   refine ifB b (λbu b=>?_) λbu b=>?_
   ·refine trV b (v06 _ _ _ (B0 F G (I0.mono (p.trans j) K)) _ ay) λb7 b=>?_
    obtain⟨cE,bj,b⟩:=l0 b
    have ch:Q0 b7:=d5 bj
    obtain⟨cR,bm,b⟩:=l0 b
    obtain⟨cd,ao,bS⟩:=Sl.getG (r:=Wp.bool.toRp) ((Wp.slice Wp.bool).mono j aJ) bm (by decide) (S0h Q)
    refine aI (λq=>(ao q).1) ?_
    obtain rfl:=bS
    refine eX _ (aI (λq=>(ao q).2) ?_)
    refine ifB b (λbv b=>?_) λbv b=>?_
    ·exact d4 x ⟨m,(IntKind.i64.wrap (m+1)),rfl,rfl,j,ay,(M0 _),b⟩
    ·exact d4 x ⟨l,(IntKind.i64.wrap (m+1)),rfl,rfl,j,bB,(M0 _),b⟩
   ·obtain rfl:=oJ b
    try dsimp only[j1,E1]at a
    refine ifB a (λbw a=>?_) λbw a=>?_
    ·obtain rfl:=oJ a
     try dsimp only[D5,E5]at c
     obtain rfl:=oJ c
     exact⟨([.int .i64 k,.int .i64 i,.slice D o.length E]),C,A.length,t,rfl,(New.pair (New.int F) (New.pair (New.int G) (New.mono aN (p.trans j)))),(F5.mono (p.trans j) aG)⟩
    ·obtain⟨ah,br,a⟩:=l0 a
     refine eX { vars:=[11],boxes:=[],owns:=[1],fuel:=true } (eX (λvs os d=>∃ f B s,vs.tail = [.int .i64 f]/\os = [B]/\Sub Q d/\Q0 f/\F2 (Wp.int.R d) B s/\V3 i l (L2 vs) f s=some ah) (eX (λ_ _=>0) (aI (eX V0 ⟨0,[],([]:S0),rfl,rfl,(Sub.refl _),(by decide),(show F2 (Wp.int.R Q) ([]:List (List Value)) ([]:S0) from trivial),br⟩) ?_)))
     rintro _ B y aD ⟨f,cV,s,⟨⟩,⟨⟩,z,az,w,b⟩
     replace b:V3 i l y f s=some ah:=b
     obtain _|y:=y
     ·cases b
     rw[V3.eq_2]at b
     refine ifB b (λbx b=>?_) λbx b=>?_
     ·refine ifB b (λbz b=>?_) λbz b=>?_
      ·obtain⟨cG,bk,b⟩:=l0 b
       refine aI (Q2 bk (by first|rw[F2.length w,F2.length (show F2 (Wp.int.R aD) ([[.int .i64 f]]:List (List Value)) [f] from⟨⟨rfl,az⟩,trivial⟩)]|exact congrArg (·+1) (F2.length w))) ?_
       exact d4 y ⟨(IntKind.i64.wrap (f+1)),(B++([[.int .i64 f]]:List (List Value))),(s ++ [f]),rfl,rfl,z,(M0 _),(F2.append w (show F2 (Wp.int.R aD) ([[.int .i64 f]]:List (List Value)) [f] from⟨⟨rfl,az⟩,trivial⟩)),b⟩
      ·exact d4 y ⟨(IntKind.i64.wrap (f+1)),B,s,rfl,rfl,z,(M0 _),w,b⟩
     ·obtain rfl:=oJ b
      try dsimp only[j1,E1]at a
      refine Or.inl ?_
      intro cN bF bg
      obtain⟨cc,cg,rfl,bX,Y,cu⟩:=U0.out (r:=Wp.int.toRp) bg w
      refine trM a (m06 _ _ _ (B0 F G (I0.mono (((p.trans j).trans z).trans Y) K)) _ _ _ _ bX) ?_
      rintro cT a cO bG ⟨ce,rfl,Z⟩
      have bZ:Sub bF bG:=Z.sub
      have bT:=Z.r
      obtain⟨b8,ca,aW,cA,a3,aR,rfl,rfl,bC,bD,bU⟩:=D0 bT
      obtain⟨rfl,cr⟩:=Sl.len bU
      try dsimp only at a
      have b4:=New.sndI (New.sndI (Z))
      obtain⟨ac,ar,a⟩:=l0 a
      obtain⟨ad,au,a⟩:=l0 a
      obtain⟨cH,bl,a⟩:=l0 a
      obtain⟨bO,a0,an,bn,bL,aS,aT,b2,b3,bd,bP,a1,cm,cw,bV,b0,bJ,bK,aV⟩:=New.drop aM ((((p.trans j).trans z).trans Y).trans bZ) ar au (f0i bI ar au)
      subst bd
      refine Or.inr (Or.inr (Or.inl (aI (aI (by kernel_rfl) (by kernel_rfl)) ?_)))
      refine Or.inl (eX (.val (.slice (some ⟨bn,bL,none⟩) ac.length t)) (aI ?_ ?_))
      ·intro O W
       obtain⟨vs,e⟩:=an O W
       exact aI a0 (eX vs (aI e (λv _ P=>aI (congrArg AV.val (bO v P)) (aI rfl rfl))))
      refine Or.inl (eX (.val (.slice aS ad.length aT)) (aI ?_ ?_))
      ·intro O W
       obtain⟨vs,e⟩:=an O W
       exact aI a1 (eX vs (aI e (λv _ P=>aI (congrArg AV.val (bP v P)) (aI rfl rfl))))
      refine Or.inr ?_
      refine Or.inl (eX 0 (aI (aI rfl rfl) ?_))
      refine eX b3 (aI b0 (eX b2 (aI bV (aI (Q2 bl (by rw[bJ,bK])) ?_))))
      intro cQ cl bs
      obtain⟨aa,⟨aZ,cC,bb,rfl⟩,bH⟩:=aV _ _ bs
      have bY:=aa.r
      obtain⟨bf,cv⟩:=Sl.len bY
      subst bf
      refine aI trivial (aI (by first|exact trivial|exact rfl) ?_)
      have b5:=bH D1.slice _ _ _ b4 (((p.trans j).trans z).trans Y)
      exact d4 J ⟨aZ,(ac++ad).length,bb,(ac++ad),b8,ca,aW,aR.length,a3,aR,rfl,rfl,aa.sub,aa,bC,bD,b5,a⟩
theorem L03(h:Hp)(n:List Value)(o:j0)(T:C1.R h n o)(r:Bool)(a:a7 o=some r):
  Tr Tryz.prog 111 #[.agg n.toArray] h λv H=>v = .bool r/\H=h:=by
 obtain⟨Q,p,y,aC,A,S,rfl,rfl,f,g,b⟩:=D0 T
 obtain⟨rfl,ay⟩:=Sl.len b
 unfold a7 at a
 dsimp only at a
 refine Tr.forget (R3 (args:=[.agg #[.int .i64 Q,.int .i64 p,.slice y S.length A]]) (fn:=Tryz.f111) rfl ?_)
 refine trV a (Y9 _ _ _ (B0 f g b)) λaJ a=>?_
 refine ifB a (λI a=>?_) λI a=>?_
 ·obtain rfl:=oJ a
  exact aI rfl (Sub.refl _)
 ·refine trM a (V05 _ _ _ (B0 f g b)) ?_
  rintro ac a aH O ⟨ai,ag,aE,al,rfl,m,s⟩
  obtain⟨aK,aN⟩:=ac
  dsimp only at a m s
  have l:Sub h O:=m.sub
  have U:=m.r
  obtain⟨aL,ad,af,aD,ak,aM,rfl,rfl,ap,aq,V⟩:=D0 U
  obtain⟨rfl,az⟩:=Sl.len V
  try dsimp only at a
  obtain⟨rfl,aA⟩:=Sl.len s
  refine Or.inr (Or.inr (Or.inr (Or.inl (aI (aI (by kernel_rfl) (by kernel_rfl)) ?_))))
  refine Or.inl (eX (.val (.bool (decide (ad=p)))) (aI ?_ ?_))
  ·intro av aG
   exact aI rfl (aI rfl rfl)
  obtain⟨ae,G,a⟩:=l0 a
  obtain⟨w,x,i⟩:=ae
  try dsimp only at a
  refine Or.inr (eX (λv J=>∃(c:Option Addr) (d:Nat),v = .agg #[.int .i64 w,.int .i64 x,.slice c i.length d]/\Q0 w/\Q0 x/\I0.R J [.slice c i.length d] i/\i.length<=9223372036854775807) (aI (λv an ao k q=>by obtain⟨c,d,e,D,E,f2,f3⟩:=q;exact⟨c,d,e,D,E,I0.mono k f2,f3⟩) (aI ?_ ?_)))
  ·intro aw Y j
   refine Tr.mono (r02 _ _ _ (B0 f g (I0.mono (l.trans Y) b)) _ (S6 G j)) ?_
   rintro _ ax ⟨aj,rfl,u⟩
   have k:=u.sub
   have W:=u.r
   obtain⟨aO,aP,z,aF,B,aQ,rfl,C,K,L,t⟩:=D0 W
   cases C
   obtain⟨rfl,P⟩:=Sl.len t
   exact aI U8 (aI k ⟨z,B,rfl,K,L,t,P⟩)
  obtain⟨ab,F,a⟩:=l0 a
  refine Or.inl (eX (.val (.bool ab)) (aI ?_ ?_))
  ·intro ar Z j
   rintro _ ⟨ah,am,rfl,M,N,X,aB⟩
   exact Tr.val (g04 _ _ _ (B0 M N X) _ _ (B0 f g (I0.mono (l.trans Z) b)) _ (S6 F j)) (aI rfl (aI rfl rfl))
  intro au aa
  obtain rfl:=oJ a
  exact aI rfl (l.trans aa)
theorem W05(h:Hp)(l:List Value)(n:T0)(I:O0.R h l n)(r:Bool)(b:z7 n=some r):
  Tr Tryz.prog 135 #[.agg l.toArray] h λv f=>v = .bool r/\f=h:=by
 obtain⟨g,p,ab,t,i,rfl,rfl,D,j⟩:=V1 I
 obtain⟨rfl,Y⟩:=Sl.len j
 unfold z7 at b
 dsimp only at b
 refine Tr.forget (R3 (args:=[.agg #[.int .i64 g,.slice p i.length t]]) (fn:=Tryz.f135) rfl ?_)
 refine trV b (Q7 _ _ D 1 (by decide) 3 (by decide)) λae b=>?_
 refine ifB b (λB b=>?_) λB b=>?_
 ·obtain rfl:=oJ b
  exact aI rfl (Sub.refl _)
 ·obtain⟨k,z,b⟩:=l0 b
  refine eX { vars:=[18],boxes:=[],owns:=[],fuel:=true } (eX (λvs os f=>∃ c,vs.tail = [.int .i64 c]/\os = []/\Sub h f/\Q0 c/\D4 i g (L2 vs) c=some k) (eX (λ_ _=>0) (aI (eX V0 ⟨0,rfl,rfl,(Sub.refl _),(by decide),z⟩) ?_)))
  rintro _ e H ⟨c,⟨⟩,⟨⟩,d,U,a⟩
  replace a:D4 i g e c=some k:=a
  obtain _|e:=e
  ·cases a
  rw[D4.eq_2]at a
  refine ifB a (λC a=>?_) λC a=>?_
  ·obtain⟨al,x,a⟩:=l0 a
   obtain⟨s,Q,u,L⟩:=Sl.getI (r:=H0.toRp) (J2.mono d j) x (by decide)
   refine aI s ?_
   obtain⟨am,an,ao,O,ad,T,ap,rfl,rfl,E,F,G,o⟩:=Y1 L
   obtain⟨rfl,aa⟩:=Sl.len o
   try dsimp only at a
   refine eX _ (aI u ?_)
   refine Or.inl (aI (aI (by kernel_rfl) (by kernel_rfl)) ?_)
   obtain⟨M,y,a⟩:=l0 a
   refine eX (.bool M) (aI (K03 _ _ E _  y) ?_)
   obtain⟨af,w,a⟩:=l0 a
   obtain⟨P,m,J⟩:=Sl.getG (r:=H0.toRp) (J2.mono d j) w (by decide) (R09 H)
   refine aI (λq=>(m q).1) ?_
   obtain⟨ag,ah,ai,N,ac,S,aj,rfl,rfl,V,W,X,K⟩:=Y1 J
   obtain⟨rfl,Z⟩:=Sl.len K
   try dsimp only at a
   refine eX _ (aI (λq=>(m q).2) ?_)
   refine trG a (λq=>L03 _ _ _ (B0 F G o)) λak a=>?_
   refine ifB a (λA a=>?_) λA a=>?_
   ·obtain rfl:=oJ a
    try dsimp only[D5,E5]at b
    obtain rfl:=oJ b
    exact aI rfl d
   ·exact d4 e ⟨(IntKind.i64.wrap (c+1)),rfl,rfl,d,(M0 _),a⟩
  ·obtain rfl:=oJ a
   try dsimp only[j1,E1]at b
   obtain rfl:=oJ b
   exact aI rfl d
theorem G00(h:Hp)(C:List Value)(H:T0)(af:O0.R h C H)(r:T0)(f:I6 H=some r):
  Tr Tryz.prog 131 #[.agg C.toArray] h λv n=>∃(B:List Value),v = .agg B.toArray/\O0.R n B r/\Sub h n:=by
 obtain⟨I,l,aO,m,c,rfl,rfl,ab,y⟩:=V1 af
 obtain⟨rfl,aJ⟩:=Sl.len y
 unfold I6 at f
 dsimp only at f
 refine R3 (args:=[.agg #[.int .i64 I,.slice l c.length m]]) (fn:=Tryz.f131) rfl ?_
 obtain⟨A,Y,f⟩:=l0 f
 refine eX { vars:=[4],boxes:=[2],owns:=[0],fuel:=true,nilsB:=[(2,1,138,4,56)] } (eX (λvs os n=>∃ b d t g,vs.tail = [.int .i64 b,.int .i64 d]/\os = [t]/\Sub h n/\Q0 b/\Q0 d/\F2 (H0.R n) t g/\p5 c (L2 vs) b d g=some A) (eX (λ_ _=>0) (aI (eX V0 ⟨0,I,[],([]:N0),rfl,rfl,(Sub.refl _),(by decide),ab,(show F2 (H0.R h) [] [] from trivial),Y⟩) ?_)))
 rintro _ _ t q ae ⟨b,d,a4,g,⟨⟩,⟨⟩,s,az,D,p,a⟩
 replace a:p5 c q b d g=some A:=a
 obtain _|q:=q
 ·cases a
 rw[p5.eq_2]at a
 refine ifB a (λZ a=>?_) λZ a=>?_
 ·refine Or.inr (Or.inr (Or.inl (aI (aI (by kernel_rfl) (by kernel_rfl)) ?_)))
  obtain⟨a0,X,a⟩:=l0 a
  obtain⟨O,ax,T,ai⟩:=Sl.getI (r:=H0.toRp) (J2.mono s y) X (by decide)
  obtain⟨e,a1,a2,au,aR,ay,a3,rfl,rfl,G,aB,aC,aj⟩:=Y1 ai
  obtain⟨rfl,aM⟩:=Sl.len aj
  try dsimp only at a
  refine Or.inl (eX (.hel (.slice l c.length m) b 4 0) (aI ?_ ?_))
  ·intro aH aT
   exact aI O (aI rfl (aI rfl rfl))
  refine Or.inl (eX (.hel (.slice l c.length m) b 4 0) (aI ?_ ?_))
  ·intro aa an
   exact aI rfl (aI rfl rfl)
  refine Or.inl (eX (.val (.string e)) (aI ?_ ?_))
  ·intro aD al
   exact eX _ (aI (V4.up al T) (aI rfl (aI rfl rfl)))
  obtain⟨aX,W,a⟩:=l0 a
  obtain⟨N,av,S,ag⟩:=Sl.getI (r:=H0.toRp) (J2.mono s y) W (by decide)
  obtain⟨aY,ap,aq,L,aP,P,ar,rfl,rfl,aA,ac,ad,J⟩:=Y1 ag
  obtain⟨rfl,aK⟩:=Sl.len J
  try dsimp only at a
  refine Or.inl (eX (.hel (.slice l c.length m) b 4 0) (aI ?_ ?_))
  ·intro aE aU
   exact aI N (aI rfl (aI rfl rfl))
  refine Or.inl (eX (.hel (.slice l c.length m) b 4 1) (aI ?_ ?_))
  ·intro aa an
   exact aI rfl (aI rfl rfl)
  refine Or.inl (eX (.agg [.val (.int .i64 ap),.val (.int .i64 aq),.val (.slice L ar.length P)]) (aI ?_ ?_))
  ·intro aF am
   exact eX _ (aI (V4.up am S) (aI rfl (aI rfl rfl)))
  refine Or.inr ?_
  refine Or.inr ?_
  refine Or.inr ?_
  refine Or.inr ?_
  refine Or.inr ?_
  refine Or.inl (eX 1 (aI (aI rfl rfl) ?_))
  refine trM a (c7 _ _ _ (B0 ac ad J)) ?_
  rintro aZ a aV x ⟨aw,rfl,K⟩
  have o:Sub ae x:=K.sub
  have ah:=K.r
  obtain⟨i,j,u,aQ,w,k,rfl,rfl,E,F,z⟩:=D0 ah
  obtain⟨rfl,aL⟩:=Sl.len z
  try dsimp only at a
  refine aI (aI rfl o) (aI (by first|exact trivial|exact rfl) ?_)
  refine aI trivial (aI (by first|exact trivial|exact rfl) ?_)
  refine aI trivial (aI (by first|exact trivial|exact rfl) ?_)
  obtain⟨aS,V,a⟩:=l0 a
  refine aI (Q2 V (by first|rw[F2.length (F2.up (r:=H0.toRp) o p),F2.length (show F2 (H0.R x) ([[.string e,.int .i64 i,.int .i64 j,.slice u k.length w]]:List (List Value)) [(e,(i,j,k))] from⟨(M2 G E F z),trivial⟩)]|exact congrArg (·+1) (F2.length (F2.up (r:=H0.toRp) o p)))) ?_
  refine aI trivial (aI (by first|exact trivial|exact rfl) ?_)
  refine aI trivial (aI (by first|exact trivial|exact rfl) ?_)
  exact d4 q ⟨(IntKind.i64.wrap (b+1)),d,(t++([[.string e,.int .i64 i,.int .i64 j,.slice u k.length w]]:List (List Value))),(g ++ [(e,(i,j,k))]),rfl,rfl,(s.trans o),(M0 _),D,(F2.append (F2.up (r:=H0.toRp) o p) (show F2 (H0.R x) ([[.string e,.int .i64 i,.int .i64 j,.slice u k.length w]]:List (List Value)) [(e,(i,j,k))] from⟨(M2 G E F z),trivial⟩)),a⟩
 ·obtain rfl:=oJ a
  try dsimp only[j1,E1]at f
  intro aW aG U
  obtain⟨M,Q,rfl,ak,ao,aN⟩:=U0.out (r:=H0.toRp) U p
  obtain rfl:=oJ f
  exact⟨([.int .i64 d,.slice M g.length Q]),rfl,(T2 D ak),(s.trans ao)⟩
theorem h04(h:Hp)(E:List Value)(I:T0)(ai:O0.R h E I)(r:T0)(d:J6 I=some r):
  Tr Tryz.prog 134 #[.agg E.toArray] h λv l=>∃(D:List Value),v = .agg D.toArray/\New O0 h l D r:=by
 obtain⟨J,N,aA,Q,z,rfl,rfl,ac,K⟩:=V1 ai
 obtain⟨rfl,aw⟩:=Sl.len K
 unfold J6 at d
 dsimp only at d
 refine R3 (args:=[.agg #[.int .i64 J,.slice N z.length Q]]) (fn:=Tryz.f134) rfl ?_
 obtain⟨C,aa,d⟩:=l0 d
 refine eX { vars:=[12],boxes:=[2],owns:=[0],fuel:=true,nilsB:=[(2,1,138,4,56)] } (eX (λvs os l=>∃ f c m b,vs.tail = [.int .i64 f,.int .i64 c]/\os = [m]/\Sub h l/\Q0 f/\Q0 c/\F2 (H0.R l) m b/\(∃ Bs,F3 (H0.W l) m b Bs/\Z3 h Bs.flatten)/\U3 z (L2 vs) f c b=some C) (eX (λ_ _=>0) (aI (eX V0 ⟨0,J,[],([]:N0),rfl,rfl,(Sub.refl _),(by decide),ac,(show F2 (H0.R h) [] [] from trivial),⟨_,(show F3 (H0.W h) [] [] [] from trivial),(Z3.nil h)⟩,aa⟩) ?_)))
 rintro _ _ m o ag ⟨f,c,aM,b,⟨⟩,⟨⟩,p,av,H,n,⟨aq,B,G⟩,a⟩
 replace a:U3 z o f c b=some C:=a
 obtain _|o:=o
 ·cases a
 rw[U3.eq_2]at a
 refine ifB a (λab a=>?_) λab a=>?_
 ·obtain⟨aH,Z,a⟩:=l0 a
  obtain⟨P,ar,U,aj⟩:=Sl.getI (r:=H0.toRp) (J2.mono p K) Z (by decide)
  refine aI P ?_
  obtain⟨g,aJ,aK,ap,aB,au,aL,rfl,rfl,u,ad,ae,L⟩:=Y1 aj
  obtain⟨rfl,ax⟩:=Sl.len L
  try dsimp only at a
  refine eX _ (aI U ?_)
  refine Or.inr (Or.inr (Or.inl (aI (aI (by kernel_rfl) (by kernel_rfl)) ?_)))
  refine Or.inr ?_
  refine Or.inr ?_
  refine Or.inr ?_
  refine Or.inr ?_
  refine Or.inr ?_
  refine Or.inl (eX 1 (aI (aI rfl rfl) ?_))
  refine trM a (t8 _ _ _ (B0 ad ae L)) ?_
  rintro an a aG y ⟨t,aC,s,rfl,q⟩
  have e:Sub ag y:=q.sub
  have M:=q.r
  obtain⟨i,j,k⟩:=an
  dsimp only at a q M
  obtain⟨_,_,_,_,_,_,T,V,w,x,A⟩:=D0 M
  cases T
  cases V
  obtain⟨rfl,ay⟩:=Sl.len A
  try dsimp only at a
  have am:=New.sndI (New.sndI (q))
  refine aI (aI rfl e) (aI (by first|exact trivial|exact rfl) ?_)
  refine aI trivial (aI (by first|exact trivial|exact rfl) ?_)
  refine aI trivial (aI (by first|exact trivial|exact rfl) ?_)
  obtain⟨aD,Y,a⟩:=l0 a
  refine aI (Q2 Y (by first|rw[F2.length (F2.up (r:=H0.toRp) e n),F2.length (show F2 (H0.R y) ([[.string g,.int .i64 i,.int .i64 j,.slice (some ⟨t,0,none⟩) k.length s]]:List (List Value)) [(g,(i,j,k))] from⟨(M2 u w x A),trivial⟩)]|exact congrArg (·+1) (F2.length (F2.up (r:=H0.toRp) e n)))) ?_
  obtain⟨ao,al,X,_⟩:=(New.pair (New.str u) (New.pair (New.int w) (New.pair (New.int x) am)))
  refine aI trivial (aI (by first|exact trivial|exact rfl) ?_)
  refine aI trivial (aI (by first|exact trivial|exact rfl) ?_)
  exact d4 o ⟨(IntKind.i64.wrap (f+1)),c,(m++([[.string g,.int .i64 i,.int .i64 j,.slice (some ⟨t,0,none⟩) k.length s]]:List (List Value))),(b ++ [(g,(i,j,k))]),rfl,rfl,(p.trans e),(M0 _),H,(F2.append (F2.up (r:=H0.toRp) e n) (show F2 (H0.R y) ([[.string g,.int .i64 i,.int .i64 j,.slice (some ⟨t,0,none⟩) k.length s]]:List (List Value)) [(g,(i,j,k))] from⟨(M2 u w x A),trivial⟩)),⟨_,(F3.snoc al (t07 B e)),(a04 B p G X)⟩,a⟩
 ·obtain rfl:=oJ a
  try dsimp only[j1,E1]at d
  intro ak af F
  have ah:New (Wp.slice H0) h af [ak] b:=(U0.fresh (r:=H0) F B p G)
  obtain⟨O,S,rfl,aE,aF,az⟩:=U0.out (r:=H0.toRp) F n
  obtain rfl:=oJ d
  exact⟨([.int .i64 c,.slice O b.length S]),rfl,(New.pair (New.int H) ah)⟩
theorem r03(h:Hp)(k:List Value)(l:T0)(y:O0.R h k l)(c:ByteArray)(F:c.size<=9223372036854775807)(r:Int)(b:t6 l c=some r):
  Tr Tryz.prog 138 #[.agg k.toArray,.string c] h λv g=>v = .int .i64 r/\g=h:=by
 obtain⟨x,n,N,p,i,rfl,rfl,E,m⟩:=V1 y
 obtain⟨rfl,L⟩:=Sl.len m
 unfold t6 at b
 dsimp only at b
 refine Tr.forget (R3 (args:=[.agg #[.int .i64 x,.slice n i.length p],.string c]) (fn:=Tryz.f138) rfl ?_)
 obtain⟨j,t,b⟩:=l0 b
 refine eX { vars:=[10],boxes:=[],owns:=[],fuel:=true } (eX (λvs os g=>∃ d,vs.tail = [.int .i64 d]/\os = []/\Sub h g/\Q0 d/\J3 i c (L2 vs) d=some j) (eX (λ_ _=>0) (aI (eX V0 ⟨0,rfl,rfl,(Sub.refl _),(by decide),t⟩) ?_)))
 rintro _ e K ⟨d,⟨⟩,⟨⟩,f,G,a⟩
 replace a:J3 i c e d=some j:=a
 obtain _|e:=e
 ·cases a
 rw[J3.eq_2]at a
 refine ifB a (λu a=>?_) λu a=>?_
 ·obtain⟨P,s,a⟩:=l0 a
  obtain⟨o,C,q,z⟩:=Sl.getI (r:=H0.toRp) (J2.mono f m) s (by decide)
  refine aI o ?_
  obtain⟨Q,S,T,B,O,D,U,rfl,rfl,H,I,J,A⟩:=Y1 z
  obtain⟨rfl,M⟩:=Sl.len A
  try dsimp only at a
  refine eX _ (aI q ?_)
  refine ifB a (λw a=>?_) λw a=>?_
  ·obtain rfl:=oJ a
   try dsimp only[D5,E5]at b
   obtain rfl:=oJ b
   exact aI rfl f
  ·exact d4 e ⟨(IntKind.i64.wrap (d+1)),rfl,rfl,f,(M0 _),a⟩
 ·obtain rfl:=oJ a
  try dsimp only[j1,E1]at b
  obtain rfl:=oJ b
  exact aI rfl f
set_option maxHeartbeats 0
theorem x06(h:Hp)(aE:List Value)(aH:T0)(bT:O0.R h aE aH)(c:ByteArray)(y:c.size<=9223372036854775807)(aF:List Value)(aJ:j0)(bU:C1.R h aF aJ)(r:T0×Bool)(a:F8 aH c aJ=some r):
  Tr Tryz.prog 49 #[.agg aE.toArray,.string c,.agg aF.toArray] h λv U=>∃(aD:List Value),v = .tuple #[.agg aD.toArray,.bool r.2]/\O0.R U aD r.1/\Sub h U:=by
 obtain⟨w,I,c3,K,p,rfl,rfl,V,N⟩:=V1 bT
 obtain⟨rfl,cR⟩:=Sl.len N
 obtain⟨z,A,aa,db,ae,B,rfl,rfl,ar,au,al⟩:=D0 bU
 obtain⟨rfl,cS⟩:=Sl.len al
 unfold F8 at a
 dsimp only at a
 refine R3 (args:=[.agg #[.int .i64 w,.slice I p.length K],.string c,.agg #[.int .i64 z,.int .i64 A,.slice aa B.length ae]]) (fn:=Tryz.f49) rfl ?_
 refine trV a (U05 _ [.int .i64 w,.slice I p.length K] (w,p) (T2 V N)) λdF a=>?_
 refine trG a (λq=>J03 _ c y) λdK a=>?_
 refine trG a (λq=>b01 _ [.int .i64 z,.int .i64 A,.slice aa B.length ae] (z,A,B) (B0 ar au al)) λdN a=>?_
 refine ifB a (λbx a=>?_) λbx a=>?_
 ·refine trM a (G00 _ [.int .i64 w,.slice I p.length K] (w,p) (T2 V N)) ?_
  rintro dQ a dE cN ⟨ct,rfl,b1,cb⟩
  obtain⟨cj,aT,di,a2,ck,rfl,rfl,bI,aM⟩:=V1 b1
  obtain⟨rfl,cY⟩:=Sl.len aM
  try dsimp only at a
  obtain rfl:=oJ a
  exact⟨([.int .i64 cj,.slice aT ck.length a2]),rfl,(T2 bI aM),cb⟩
 ·obtain⟨aB,bu,a⟩:=l0 a
  refine eX { vars:=[9,10],boxes:=[3],owns:=[0],fuel:=true,nilsB:=[(3,1,138,4,56)] } (eX (λvs os U=>∃ T t u C x,vs.tail = [.bool T,.int .i64 t,.int .i64 u]/\os = [C]/\Sub h U/\Q0 t/\Q0 u/\F2 (H0.R U) C x/\B3 p c z A B (L2 vs) T t u x=some aB) (eX (λ_ _=>0) (aI (eX V0 ⟨false,0,w,[],([]:N0),rfl,rfl,(Sub.refl _),(by decide),V,(show F2 (H0.R h) [] [] from trivial),bu⟩) ?_)))
  rintro _ _ _ C M bO ⟨T,t,u,dW,x,⟨⟩,⟨⟩,l,cz,Q,f,b⟩
  replace b:B3 p c z A B M T t u x=some aB:=b
  obtain _|M:=M
  ·cases b
  rw[B3.eq_2]at b
  refine ifB b (λbv b=>?_) λbv b=>?_
  ·refine Or.inr (Or.inr (Or.inr (Or.inr (eX 15 (aI (aI (by kernel_rfl) (by kernel_rfl)) ?_)))))
   obtain⟨dG,bp,b⟩:=l0 b
   obtain⟨aZ,co,bd,bV⟩:=Sl.getI (r:=H0.toRp) (J2.mono l N) bp (by decide)
   obtain⟨k,dH,dI,cn,dc,cw,dJ,rfl,rfl,bE,cA,cC,bW⟩:=Y1 bV
   obtain⟨rfl,cT⟩:=Sl.len bW
   try dsimp only at b
   refine Or.inl (eX (.hel (.slice I p.length K) t 4 0) (aI ?_ ?_))
   ·intro cE dv
    exact aI aZ (aI rfl (aI rfl rfl))
   refine Or.inl (eX (.val (.string k)) (aI ?_ ?_))
   ·intro cG b7
    exact eX _ (aI (V4.up b7 bd) (aI rfl (aI rfl rfl)))
   obtain⟨dL,bq,b⟩:=l0 b
   obtain⟨a0,cp,be,bX⟩:=Sl.getI (r:=H0.toRp) (J2.mono l N) bq (by decide)
   obtain⟨dM,ay,az,aC,dd,aG,aA,rfl,rfl,cD,bF,bG,aK⟩:=Y1 bX
   obtain⟨rfl,cU⟩:=Sl.len aK
   try dsimp only at b
   refine Or.inl (eX (.hel (.slice I p.length K) t 4 0) (aI ?_ ?_))
   ·intro cH dw
    exact aI a0 (aI rfl (aI rfl rfl))
   refine Or.inl (eX (.agg [.val (.int .i64 ay),.val (.int .i64 az),.val (.slice aC aA.length aG)]) (aI ?_ ?_))
   ·intro cI b8
    exact eX _ (aI (V4.up b8 be) (aI rfl (aI rfl rfl)))
   obtain⟨cg,br,b⟩:=l0 b
   obtain⟨g,i,d⟩:=cg
   try dsimp only at b
   refine Or.inr (eX (λv aq=>∃(ab:Option Addr) (af:Nat),v = .agg #[.int .i64 g,.int .i64 i,.slice ab d.length af]/\Q0 g/\Q0 i/\I0.R aq [.slice ab d.length af] d/\d.length<=9223372036854775807) (aI (λv bs bt Y q=>by obtain⟨ab,af,e,ao,ap,f2,f3⟩:=q;exact⟨ab,af,e,ao,ap,I0.mono Y f2,f3⟩) (aI ?_ ?_)))
   ·intro cJ ca
    refine Tr.mono (c7 _ [.int .i64 ay,.int .i64 az,.slice aC aA.length aG] (ay,az,aA) (B0 bF bG (I0.mono ca aK)) _ br) ?_
    rintro _ cQ ⟨cq,rfl,aP⟩
    have Y:=aP.sub
    have bY:=aP.r
    obtain⟨dT,dU,aV,dk,a4,dV,rfl,bf,bK,bL,aO⟩:=D0 bY
    cases bf
    obtain⟨rfl,bP⟩:=Sl.len aO
    exact aI U8 (aI Y ⟨aV,a4,rfl,bK,bL,aO,bP⟩)
   refine Or.inr (eX (λv aq=>∃(Z:Option Addr) (ad:Nat),v = .agg #[.string k,.int .i64 g,.int .i64 i,.slice Z d.length ad]/\k.size<=9223372036854775807/\Q0 g/\Q0 i/\I0.R aq [.slice Z d.length ad] d/\d.length<=9223372036854775807) (aI (λv bs bt Y q=>by obtain⟨Z,ad,e,ao,ap,f2,f3,bg⟩:=q;exact⟨Z,ad,e,ao,ap,f2,I0.mono Y f3,bg⟩) (aI ?_ ?_)))
   ·intro cK dx
    rintro _ ⟨aW,ba,rfl,bM,bN,b4,bQ⟩
    exact aI U8 (aI (Sub.refl _) ⟨aW,ba,rfl,bE,bM,bN,b4,bQ⟩)
   intro ax j
   dsimp only[h08,S06]
   rintro _ ⟨O,P,rfl,ah,ai,aj,an,c0⟩
   rintro _ _
   refine ifB b (λbw b=>?_) λbw b=>?_
   ·refine Or.inr (Or.inr (Or.inl (aI (aI (by kernel_rfl) (by kernel_rfl)) ?_)))
    refine Or.inr ?_
    refine Or.inr ?_
    refine Or.inr ?_
    refine Or.inr ?_
    refine Or.inr ?_
    refine Or.inl (eX 1 (aI (aI rfl rfl) ?_))
    refine trM b (c7 _ [.int .i64 z,.int .i64 A,.slice aa B.length ae] (z,A,B) (B0 ar au (I0.mono (l.trans j) al))) ?_
    rintro dO b dy D ⟨cr,rfl,aQ⟩
    have s:Sub ax D:=aQ.sub
    have bZ:=aQ.r
    obtain⟨m,n,J,df,L,o,rfl,rfl,W,X,S⟩:=D0 bZ
    obtain⟨rfl,cV⟩:=Sl.len S
    try dsimp only at b
    refine aI (aI rfl s) (aI (by first|exact trivial|exact rfl) ?_)
    refine aI trivial (aI (by first|exact trivial|exact rfl) ?_)
    refine aI trivial (aI (by first|exact trivial|exact rfl) ?_)
    obtain⟨dm,bl,b⟩:=l0 b
    refine aI (Q2 bl (by first|rw[F2.length (F2.up (r:=H0.toRp) (j.trans s) f),F2.length (show F2 (H0.R D) ([[.string c,.int .i64 m,.int .i64 n,.slice J o.length L]]:List (List Value)) [(c,(m,n,o))] from⟨(M2 y W X S),trivial⟩)]|exact congrArg (·+1) (F2.length (F2.up (r:=H0.toRp) (j.trans s) f)))) ?_
    refine aI trivial (aI (by first|exact trivial|exact rfl) ?_)
    refine aI trivial (aI (by first|exact trivial|exact rfl) ?_)
    refine ifB b (λbz b=>?_) λbz b=>?_
    ·obtain⟨dn,bm,b⟩:=l0 b
     refine aI (Q2 bm (by first|rw[F2.length (F2.append (F2.up (r:=H0.toRp) (j.trans s) f) (show F2 (H0.R D) ([[.string c,.int .i64 m,.int .i64 n,.slice J o.length L]]:List (List Value)) [(c,(m,n,o))] from⟨(M2 y W X S),trivial⟩)),F2.length (show F2 (H0.R D) ([[.string k,.int .i64 g,.int .i64 i,.slice O d.length P]]:List (List Value)) [(k,(g,i,d))] from⟨(M2 ah ai aj (I0.mono s an)),trivial⟩)]|exact congrArg (·+1) (F2.length (F2.append (F2.up (r:=H0.toRp) (j.trans s) f) (show F2 (H0.R D) ([[.string c,.int .i64 m,.int .i64 n,.slice J o.length L]]:List (List Value)) [(c,(m,n,o))] from⟨(M2 y W X S),trivial⟩))))) ?_
     exact d4 M ⟨true,(IntKind.i64.wrap (t+1)),u,((C++([[.string c,.int .i64 m,.int .i64 n,.slice J o.length L]]:List (List Value)))++([[.string k,.int .i64 g,.int .i64 i,.slice O d.length P]]:List (List Value))),((x ++ [(c,(m,n,o))]) ++ [(k,(g,i,d))]),rfl,rfl,((l.trans j).trans s),(M0 _),Q,(F2.append (F2.append (F2.up (r:=H0.toRp) (j.trans s) f) (show F2 (H0.R D) ([[.string c,.int .i64 m,.int .i64 n,.slice J o.length L]]:List (List Value)) [(c,(m,n,o))] from⟨(M2 y W X S),trivial⟩)) (show F2 (H0.R D) ([[.string k,.int .i64 g,.int .i64 i,.slice O d.length P]]:List (List Value)) [(k,(g,i,d))] from⟨(M2 ah ai aj (I0.mono s an)),trivial⟩)),b⟩
    ·exact d4 M ⟨true,(IntKind.i64.wrap (t+1)),u,(C++([[.string c,.int .i64 m,.int .i64 n,.slice J o.length L]]:List (List Value))),(x ++ [(c,(m,n,o))]),rfl,rfl,((l.trans j).trans s),(M0 _),Q,(F2.append (F2.up (r:=H0.toRp) (j.trans s) f) (show F2 (H0.R D) ([[.string c,.int .i64 m,.int .i64 n,.slice J o.length L]]:List (List Value)) [(c,(m,n,o))] from⟨(M2 y W X S),trivial⟩)),b⟩
   ·refine ifB b (λbA b=>?_) λbA b=>?_
    ·obtain⟨dq,bn,b⟩:=l0 b
     refine aI (Q2 bn (by first|rw[F2.length (F2.up (r:=H0.toRp) j f),F2.length (show F2 (H0.R ax) ([[.string k,.int .i64 g,.int .i64 i,.slice O d.length P]]:List (List Value)) [(k,(g,i,d))] from⟨(M2 ah ai aj an),trivial⟩)]|exact congrArg (·+1) (F2.length (F2.up (r:=H0.toRp) j f)))) ?_
     exact d4 M ⟨T,(IntKind.i64.wrap (t+1)),u,(C++([[.string k,.int .i64 g,.int .i64 i,.slice O d.length P]]:List (List Value))),(x ++ [(k,(g,i,d))]),rfl,rfl,(l.trans j),(M0 _),Q,(F2.append (F2.up (r:=H0.toRp) j f) (show F2 (H0.R ax) ([[.string k,.int .i64 g,.int .i64 i,.slice O d.length P]]:List (List Value)) [(k,(g,i,d))] from⟨(M2 ah ai aj an),trivial⟩)),b⟩
    ·exact d4 M ⟨T,(IntKind.i64.wrap (t+1)),u,C,x,rfl,rfl,(l.trans j),(M0 _),Q,(F2.up (r:=H0.toRp) j f),b⟩
  ·obtain rfl:=oJ b
   try dsimp only[j1,E1]at a
   refine ifB a (λbB a=>?_) λbB a=>?_
   ·refine Or.inr (Or.inr (Or.inl (aI (aI (by kernel_rfl) (by kernel_rfl)) ?_)))
    refine Or.inr ?_
    refine Or.inr ?_
    refine Or.inr ?_
    refine Or.inr ?_
    refine Or.inr ?_
    refine Or.inl (eX 1 (aI (aI rfl rfl) ?_))
    refine trM a (c7 _ [.int .i64 z,.int .i64 A,.slice aa B.length ae] (z,A,B) (B0 ar au (I0.mono l al))) ?_
    rintro dP a dz ak ⟨cs,rfl,aR⟩
    have E:Sub bO ak:=aR.sub
    have b0:=aR.r
    obtain⟨F,G,ac,dg,ag,H,rfl,rfl,av,aw,am⟩:=D0 b0
    obtain⟨rfl,cW⟩:=Sl.len am
    try dsimp only at a
    refine aI (aI rfl E) (aI (by first|exact trivial|exact rfl) ?_)
    refine aI trivial (aI (by first|exact trivial|exact rfl) ?_)
    refine aI trivial (aI (by first|exact trivial|exact rfl) ?_)
    obtain⟨ds,bo,a⟩:=l0 a
    refine aI (Q2 bo (by first|rw[F2.length (F2.up (r:=H0.toRp) E f),F2.length (show F2 (H0.R ak) ([[.string c,.int .i64 F,.int .i64 G,.slice ac H.length ag]]:List (List Value)) [(c,(F,G,H))] from⟨(M2 y av aw am),trivial⟩)]|exact congrArg (·+1) (F2.length (F2.up (r:=H0.toRp) E f)))) ?_
    refine aI trivial (aI (by first|exact trivial|exact rfl) ?_)
    refine aI trivial (aI (by first|exact trivial|exact rfl) ?_)
    obtain⟨bR,bj,a⟩:=l0 a
    obtain rfl:(C++([[.string c,.int .i64 F,.int .i64 G,.slice ac H.length ag]]:List (List Value))).length=bR:=(F2.length (F2.append (F2.up (r:=H0.toRp) E f) (show F2 (H0.R ak) ([[.string c,.int .i64 F,.int .i64 G,.slice ac H.length ag]]:List (List Value)) [(c,(F,G,H))] from⟨(M2 y av aw am),trivial⟩))).trans (oJ bj)
    obtain⟨dt,cx,a⟩:=l0 a
    refine ifB a (λbC a=>?_) λbC a=>?_
    ·refine trM a (G00 _ [.int .i64 w,.slice I p.length K] (w,p) (T2 V (J2.mono (l.trans E) N))) ?_
     rintro dR a dA cL ⟨cu,rfl,b2,cc⟩
     obtain⟨ch,aS,dh,a1,ci,rfl,rfl,bH,aL⟩:=V1 b2
     obtain⟨rfl,cX⟩:=Sl.len aL
     try dsimp only at a
     obtain rfl:=oJ a
     exact⟨([.int .i64 ch,.slice aS ci.length a1]),rfl,(T2 bH aL),((l.trans E).trans cc)⟩
    ·intro dB cM bh
     obtain⟨aX,bb,rfl,b5,ce,c1⟩:=U0.out (r:=H0.toRp) bh (F2.append (F2.up (r:=H0.toRp) E f) (show F2 (H0.R ak) ([[.string c,.int .i64 F,.int .i64 G,.slice ac H.length ag]]:List (List Value)) [(c,(F,G,H))] from⟨(M2 y av aw am),trivial⟩))
     obtain rfl:=oJ a
     exact⟨([.int .i64 u,.slice aX ((x ++ [(c,(F,G,H))])).length bb]),rfl,(T2 Q b5),((l.trans E).trans ce)⟩
   ·obtain⟨bS,bk,a⟩:=l0 a
    obtain rfl:C.length=bS:=(F2.length f).trans (oJ bk)
    obtain⟨du,cy,a⟩:=l0 a
    refine ifB a (λbD a=>?_) λbD a=>?_
    ·refine trM a (G00 _ [.int .i64 w,.slice I p.length K] (w,p) (T2 V (J2.mono l N))) ?_
     rintro dS a dC cO ⟨cv,rfl,b3,cd⟩
     obtain⟨cl,aU,dj,a3,cm,rfl,rfl,bJ,aN⟩:=V1 b3
     obtain⟨rfl,cZ⟩:=Sl.len aN
     try dsimp only at a
     obtain rfl:=oJ a
     exact⟨([.int .i64 cl,.slice aU cm.length a3]),rfl,(T2 bJ aN),(l.trans cd)⟩
    ·intro dD cP bi
     obtain⟨aY,bc,rfl,b6,cf,c2⟩:=U0.out (r:=H0.toRp) bi f
     obtain rfl:=oJ a
     exact⟨([.int .i64 u,.slice aY x.length bc]),rfl,(T2 Q b6),(l.trans cf)⟩
theorem y06(h:Hp)(aC:List Value)(aP:T0)(b3:O0.R h aC aP)(c:ByteArray)(n:c.size<=9223372036854775807)(aD:List Value)(aQ:j0)(b4:C1.R h aD aQ)(r:T0×Bool)(b:G8 aP c aQ=some r):
  Tr Tryz.prog 51 #[.agg aC.toArray,.string c,.agg aD.toArray] h λv l=>∃(aB:List Value),v = .tuple #[.agg aB.toArray,.bool r.2]/\New O0 h l aB r.1:=by
 obtain⟨o,N,eD,O,p,rfl,rfl,ah,T⟩:=V1 b3
 obtain⟨rfl,em⟩:=Sl.len T
 obtain⟨H,I,Z,eE,aa,J,rfl,rfl,aK,aL,ai⟩:=D0 b4
 obtain⟨rfl,en⟩:=Sl.len ai
 unfold G8 at b
 dsimp only at b
 refine R3 (args:=[.agg #[.int .i64 o,.slice N p.length O],.string c,.agg #[.int .i64 H,.int .i64 I,.slice Z J.length aa]]) (fn:=Tryz.f51) rfl ?_
 refine trM b (h04 _ [.int .i64 o,.slice N p.length O] (o,p) (T2 ah T)) ?_
 rintro fd b fa aN ⟨cM,rfl,aq⟩
 have X:Sub h aN:=aq.sub
 have b5:=aq.r
 obtain⟨M,az,eG,ab,g,rfl,rfl,B,aj⟩:=V1 b5
 obtain⟨rfl,ep⟩:=Sl.len aj
 try dsimp only at b
 have w:=New.sndI (aq)
 refine trV b (W05 _ [.int .i64 o,.slice N p.length O] (o,p) (T2 ah (J2.mono X T))) λfx b=>?_
 refine trG b (λq=>K03 _ c n) λfD b=>?_
 refine trG b (λq=>L03 _ [.int .i64 H,.int .i64 I,.slice Z J.length aa] (H,I,J) (B0 aK aL (I0.mono X ai))) λfF b=>?_
 refine ifB b (λbZ b=>?_) λbZ b=>?_
 ·obtain rfl:=oJ b
  exact⟨([.int .i64 M,.slice az g.length ab]),rfl,(New.pair (New.int B) w)⟩
 ·refine trM b (t8 _ [.int .i64 H,.int .i64 I,.slice Z J.length aa] (H,I,J) (B0 aK aL (I0.mono X ai))) ?_
  rintro cE b e9 aM ⟨u,eQ,t,rfl,Y⟩
  have s:Sub aN aM:=Y.sub
  have aR:=Y.r
  obtain⟨d,e,f⟩:=cE
  dsimp only at b Y aR
  obtain⟨_,_,_,_,_,_,bx,bA,C,D,ak⟩:=D0 aR
  cases bx
  cases bA
  obtain⟨rfl,eA⟩:=Sl.len ak
  try dsimp only at b
  have an:=New.sndI (New.sndI (Y))
  refine trV b (r03 _ [.int .i64 o,.slice N p.length O] (o,p) (T2 ah (J2.mono (X.trans s) T)) c n) λcD b=>?_
  obtain⟨eU,bH,b⟩:=l0 b
  have dk:Q0 cD:=d5 bH
  refine ifB b (λbU b=>?_) λbU b=>?_
  ·obtain⟨fe,ac,b⟩:=l0 b
   obtain⟨aA,cN,c3,b6⟩:=Sl.getI (r:=H0.toRp) (J2.mono s aj) ac (by decide)
   refine aI aA ?_
   obtain⟨ff,fg,fh,cG,eF,cX,fi,rfl,rfl,dm,dn,dq,b7⟩:=Y1 b6
   obtain⟨rfl,eo⟩:=Sl.len b7
   try dsimp only at b
   obtain⟨bG,b2,_,_,bz,_⟩:=aA
   cases bz
   obtain⟨be,cz,bD,_⟩:=(New.pair (New.str n) (New.pair (New.int C) (New.pair (New.int D) an)))
   refine New.put (r:=H0) w s (R08 ac).1 (new:=[.string c,.int .i64 d,.int .i64 e,.slice (some ⟨u,0,none⟩) f.length t]) (By:=be) cz bD rfl (R08 ac).2 ?_
   intro dT aS eh _
   have eY:=aS.r
   obtain rfl:=oJ b
   exact⟨([.int .i64 M,.slice (some ⟨bG,b2,none⟩) g.length ab]),rfl,(New.pair (New.int B) aS)⟩
  ·refine ifB b (λbV b=>?_) λbV b=>?_
   ·obtain rfl:=oJ b
    exact⟨([.int .i64 M,.slice az g.length ab]),rfl,(New.pair (New.int B) (New.mono w s))⟩
   ·obtain⟨aw,bP,b⟩:=l0 b
    refine eX { vars:=[11],boxes:=[],owns:=[],fuel:=true } (eX (λvs os l=>∃ k,vs.tail = [.int .i64 k]/\os = []/\Sub aM l/\Q0 k/\N4 g c (L2 vs) k=some aw) (eX (λ_ _=>0) (aI (eX V0 ⟨0,rfl,rfl,(Sub.refl _),(by decide),bP⟩) ?_)))
    rintro _ P E ⟨k,⟨⟩,⟨⟩,m,dh,a⟩
    replace a:N4 g c P k=some aw:=a
    obtain _|P:=P
    ·cases a
    rw[N4.eq_2]at a
    obtain⟨fj,bK,a⟩:=l0 a
    obtain⟨cO,aE,b8⟩:=Sl.getG (r:=H0.toRp) (J2.mono (s.trans m) aj) bK (by decide) (R09 E)
    refine aI (λq=>(aE q).1) ?_
    obtain⟨fk,fl,fm,cH,eH,cY,fo,rfl,rfl,ds,dt,du,ca⟩:=Y1 b8
    obtain⟨rfl,eq⟩:=Sl.len ca
    try dsimp only at a
    refine eX _ (aI (λq=>(aE q).2) ?_)
    refine ifB a (λbW a=>?_) λbW a=>?_
    ·exact d4 P ⟨(IntKind.i64.wrap (k+1)),rfl,rfl,m,(M0 _),a⟩
    ·obtain rfl:=oJ a
     try dsimp only[j1,E1]at b
     rcases New.two w with⟨rfl,rfl,rfl⟩|⟨dg,eT,rfl⟩
     ·skip
      refine Or.inr ?_
      obtain⟨eV,bI,b⟩:=l0 b
      obtain⟨bf,cA,bE,_⟩:=(New.pair (New.str n) (New.pair (New.int C) (New.pair (New.int D) (New.mono an m))))
      refine aI (aI rfl (o0g bI (F2.length (show F2 (H0.R E) ([[.string c,.int .i64 d,.int .i64 e,.slice (some ⟨u,0,none⟩) f.length t]]:List (List Value)) [(c,(d,e,f))] from⟨(M2 n C D (I0.mono m ak)),trivial⟩)))) ?_
      intro fb ek bS
      obtain⟨ar,z,F,eR,x,rfl⟩:=New.appN (r:=H0) w (s.trans m) (show F3 (H0.W E) ([[.string c,.int .i64 d,.int .i64 e,.slice (some ⟨u,0,none⟩) f.length t]]:List (List Value)) [(c,(d,e,f))] [bf] from⟨cA,trivial⟩) (Z3.older (Sub.refl _) bE) bS
      have cs:=ar.r
      obtain⟨bB,eB⟩:=Sl.len cs
      subst bB
      obtain⟨ax,bQ,b⟩:=l0 b
      refine eX { vars:=[12],boxes:=[],owns:=[],fuel:=true } (eX (λvs os l=>∃ i K,vs.tail = [.int .i64 i]/\os = []/\Sub h l/\Q0 i/\New J2 h l [.slice (some ⟨z,F,none⟩) (([]:N0) ++ [(c,(d,e,f))]).length x] K/\C3 k (L2 vs) i K=some ax) (eX (λ_ _=>0) (aI (eX V0 ⟨(IntKind.i64.wrap ((((([]:N0) ++ [(c,(d,e,f))]).length:Nat):Int)-1)),(([]:N0) ++ [(c,(d,e,f))]),rfl,rfl,ar.sub,(M0 _),ar,bQ⟩) ?_)))
      rintro _ Q dU ⟨i,K,⟨⟩,⟨⟩,e7,di,ao,a⟩
      replace a:C3 k Q i K=some ax:=a
      obtain _|Q:=Q
      ·cases a
      rw[C3.eq_2]at a
      have U:=ao.r
      refine ifB a (λbX a=>?_) λbX a=>?_
      ·refine Or.inr (Or.inr (Or.inl (aI (aI (by kernel_rfl) (by kernel_rfl)) ?_)))
       obtain⟨fp,ad,a⟩:=l0 a
       obtain⟨bl,cP,aF,cb⟩:=Sl.getI (r:=H0.toRp) U ad (by decide)
       obtain⟨aT,aU,aV,bh,eI,bt,aW,rfl,rfl,dv,dw,dx,cc⟩:=Y1 cb
       obtain⟨rfl,er⟩:=Sl.len cc
       try dsimp only at a
       refine Or.inl (eX (.hel (.slice (some ⟨z,F,none⟩) (([]:N0) ++ [(c,(d,e,f))]).length x) (IntKind.i64.wrap (i-1)) 4 0) (aI ?_ ?_))
       ·intro dV e1
        exact aI bl (aI rfl (aI rfl rfl))
       refine Or.inl (eX (.agg [.val (.string aT),.val (.int .i64 aU),.val (.int .i64 aV),.val (.slice bh aW.length bt)]) (aI ?_ ?_))
       ·intro dW cu
        exact eX _ (aI (V4.up cu aF) (aI rfl (aI rfl rfl)))
       obtain⟨fq,ae,a⟩:=l0 a
       obtain⟨bm,cQ,aG,cd⟩:=Sl.getI (r:=H0.toRp) U ae (by decide)
       obtain⟨aX,aY,aZ,bi,eJ,bu,a0,rfl,rfl,dy,dz,dA,ce⟩:=Y1 cd
       obtain⟨rfl,es⟩:=Sl.len ce
       try dsimp only at a
       refine Or.inl (eX (.hel (.slice (some ⟨z,F,none⟩) (([]:N0) ++ [(c,(d,e,f))]).length x) i 4 0) (aI ?_ ?_))
       ·intro dX e2
        exact aI bm (aI rfl (aI rfl rfl))
       refine Or.inl (eX (.agg [.val (.string aX),.val (.int .i64 aY),.val (.int .i64 aZ),.val (.slice bi a0.length bu)]) (aI ?_ ?_))
       ·intro dY cv
        exact eX _ (aI (V4.up cv aG) (aI rfl (aI rfl rfl)))
       obtain⟨fs,bL,a⟩:=l0 a
       obtain⟨bn,cR,db,cf⟩:=Sl.getI (r:=H0.toRp) U bL (by decide)
       obtain⟨ft,fu,fv,cI,eK,cZ,fw,rfl,rfl,dB,dC,dD,cg⟩:=Y1 cf
       obtain⟨rfl,et⟩:=Sl.len cg
       try dsimp only at a
       refine Or.inl (eX (.hel (.slice (some ⟨z,F,none⟩) (([]:N0) ++ [(c,(d,e,f))]).length x) i 4 0) (aI ?_ ?_))
       ·intro dZ e3
        exact aI bn (aI rfl (aI rfl rfl))
       refine Or.inr ?_
       refine Or.inr ?_
       refine Or.inr ?_
       refine Or.inl (eX 0 (aI (aI rfl rfl) ?_))
       refine New.swap1 (r:=H0) ao (Sub.refl _) ae ad (V4.up (Sub.refl _) aF) rfl ?_
       intro d2 b0
       refine aI trivial (aI (by first|exact trivial|exact rfl) ?_)
       obtain⟨fy,bM,a⟩:=l0 a
       obtain⟨bo,cS,dc,ch⟩:=Sl.getI (r:=H0.toRp) U bM (by decide)
       refine aI bo ?_
       obtain⟨fz,fA,fB,cJ,eL,c0,fC,rfl,rfl,dE,dF,dG,ci⟩:=Y1 ch
       obtain⟨rfl,eu⟩:=Sl.len ci
       try dsimp only at a
       refine aI trivial (aI (by first|exact trivial|exact rfl) ?_)
       refine New.swap2 (r:=H0) b0 ae ad (V4.up (Sub.refl _) aG) rfl ?_
       intro d1 al ei _
       have eZ:=al.r
       refine aI trivial (aI (by first|exact trivial|exact rfl) ?_)
       exact d4 Q ⟨(IntKind.i64.wrap (i-1)),((K.set i.toNat (aT,(aU,aV,aW))).set (IntKind.i64.wrap (i-1)).toNat (aX,(aY,aZ,a0))),rfl,rfl,al.sub,(M0 _),al,a⟩
      ·obtain rfl:=oJ a
       try dsimp only[j1,E1]at b
       obtain rfl:=oJ b
       exact⟨([.int .i64 M,.slice (some ⟨z,F,none⟩) (([]:N0) ++ [(c,(d,e,f))]).length x]),rfl,(New.pair (New.int B) ao)⟩
     ·skip
      obtain⟨eW,bJ,b⟩:=l0 b
      obtain⟨av,cC,bF,_⟩:=(New.pair (New.str n) (New.pair (New.int C) (New.pair (New.int D) (New.mono an m))))
      obtain⟨cy,cr,aO,bg⟩:=New.app w (s.trans m)
      refine eX cy (aI cr (aI (Q2 bJ (by first|rw[aO,F2.length (show F2 (H0.R E) ([[.string c,.int .i64 d,.int .i64 e,.slice (some ⟨u,0,none⟩) f.length t]]:List (List Value)) [(c,(d,e,f))] from⟨(M2 n C D (I0.mono m ak)),trivial⟩)]|(rw[aO];rfl))) ?_))
      intro fc el bT
      obtain⟨au,A,G,eS,y,rfl⟩:=bg ([[.string c,.int .i64 d,.int .i64 e,.slice (some ⟨u,0,none⟩) f.length t]]:List (List Value)) [(c,(d,e,f))] [av] _ _ (show F3 (H0.W E) ([[.string c,.int .i64 d,.int .i64 e,.slice (some ⟨u,0,none⟩) f.length t]]:List (List Value)) [(c,(d,e,f))] [av] from⟨cC,trivial⟩) (Z3.older (Sub.refl _) bF) bT
      have ct:=au.r
      obtain⟨bC,eC⟩:=Sl.len ct
      subst bC
      obtain⟨ay,bR,b⟩:=l0 b
      refine eX { vars:=[12],boxes:=[],owns:=[],fuel:=true } (eX (λvs os l=>∃ j L,vs.tail = [.int .i64 j]/\os = []/\Sub h l/\Q0 j/\New J2 h l [.slice (some ⟨A,G,none⟩) (g ++ [(c,(d,e,f))]).length y] L/\C3 k (L2 vs) j L=some ay) (eX (λ_ _=>0) (aI (eX V0 ⟨(IntKind.i64.wrap ((((g ++ [(c,(d,e,f))]).length:Nat):Int)-1)),(g ++ [(c,(d,e,f))]),rfl,rfl,au.sub,(M0 _),au,bR⟩) ?_)))
      rintro _ S d3 ⟨j,L,⟨⟩,⟨⟩,e8,dj,ap,a⟩
      replace a:C3 k S j L=some ay:=a
      obtain _|S:=S
      ·cases a
      rw[C3.eq_2]at a
      have V:=ap.r
      refine ifB a (λbY a=>?_) λbY a=>?_
      ·refine Or.inr (Or.inr (Or.inl (aI (aI (by kernel_rfl) (by kernel_rfl)) ?_)))
       obtain⟨fE,af,a⟩:=l0 a
       obtain⟨bp,cT,aH,cj⟩:=Sl.getI (r:=H0.toRp) V af (by decide)
       obtain⟨a1,a2,a3,bj,eM,bv,a4,rfl,rfl,dH,dI,dJ,ck⟩:=Y1 cj
       obtain⟨rfl,ew⟩:=Sl.len ck
       try dsimp only at a
       refine Or.inl (eX (.hel (.slice (some ⟨A,G,none⟩) (g ++ [(c,(d,e,f))]).length y) (IntKind.i64.wrap (j-1)) 4 0) (aI ?_ ?_))
       ·intro ea e4
        exact aI bp (aI rfl (aI rfl rfl))
       refine Or.inl (eX (.agg [.val (.string a1),.val (.int .i64 a2),.val (.int .i64 a3),.val (.slice bj a4.length bv)]) (aI ?_ ?_))
       ·intro eb cw
        exact eX _ (aI (V4.up cw aH) (aI rfl (aI rfl rfl)))
       obtain⟨fG,ag,a⟩:=l0 a
       obtain⟨bq,cU,aJ,cl⟩:=Sl.getI (r:=H0.toRp) V ag (by decide)
       obtain⟨ba,bb,bc,bk,eN,bw,bd,rfl,rfl,dK,dL,dM,cm⟩:=Y1 cl
       obtain⟨rfl,ex⟩:=Sl.len cm
       try dsimp only at a
       refine Or.inl (eX (.hel (.slice (some ⟨A,G,none⟩) (g ++ [(c,(d,e,f))]).length y) j 4 0) (aI ?_ ?_))
       ·intro ec e5
        exact aI bq (aI rfl (aI rfl rfl))
       refine Or.inl (eX (.agg [.val (.string ba),.val (.int .i64 bb),.val (.int .i64 bc),.val (.slice bk bd.length bw)]) (aI ?_ ?_))
       ·intro ed cx
        exact eX _ (aI (V4.up cx aJ) (aI rfl (aI rfl rfl)))
       obtain⟨fH,bN,a⟩:=l0 a
       obtain⟨br,cV,dd,cn⟩:=Sl.getI (r:=H0.toRp) V bN (by decide)
       obtain⟨fI,fJ,fK,cK,eO,c1,fL,rfl,rfl,dN,dO,dP,co⟩:=Y1 cn
       obtain⟨rfl,ey⟩:=Sl.len co
       try dsimp only at a
       refine Or.inl (eX (.hel (.slice (some ⟨A,G,none⟩) (g ++ [(c,(d,e,f))]).length y) j 4 0) (aI ?_ ?_))
       ·intro ee e6
        exact aI br (aI rfl (aI rfl rfl))
       refine Or.inr ?_
       refine Or.inr ?_
       refine Or.inr ?_
       refine Or.inl (eX 0 (aI (aI rfl rfl) ?_))
       refine New.swap1 (r:=H0) ap (Sub.refl _) ag af (V4.up (Sub.refl _) aH) rfl ?_
       intro eg b1
       refine aI trivial (aI (by first|exact trivial|exact rfl) ?_)
       obtain⟨fM,bO,a⟩:=l0 a
       obtain⟨bs,cW,df,cp⟩:=Sl.getI (r:=H0.toRp) V bO (by decide)
       refine aI bs ?_
       obtain⟨fN,fO,fP,cL,eP,c2,fQ,rfl,rfl,dQ,dR,dS,cq⟩:=Y1 cp
       obtain⟨rfl,ez⟩:=Sl.len cq
       try dsimp only at a
       refine aI trivial (aI (by first|exact trivial|exact rfl) ?_)
       refine New.swap2 (r:=H0) b1 ag af (V4.up (Sub.refl _) aJ) rfl ?_
       intro ef am ej _
       have e0:=am.r
       refine aI trivial (aI (by first|exact trivial|exact rfl) ?_)
       exact d4 S ⟨(IntKind.i64.wrap (j-1)),((L.set j.toNat (a1,(a2,a3,a4))).set (IntKind.i64.wrap (j-1)).toNat (ba,(bb,bc,bd))),rfl,rfl,am.sub,(M0 _),am,a⟩
      ·obtain rfl:=oJ a
       try dsimp only[j1,E1]at b
       obtain rfl:=oJ b
       exact⟨([.int .i64 M,.slice (some ⟨A,G,none⟩) (g ++ [(c,(d,e,f))]).length y]),rfl,(New.pair (New.int B) ap)⟩
end Go.Proofs.YtkjhghloldgioaaGreat
