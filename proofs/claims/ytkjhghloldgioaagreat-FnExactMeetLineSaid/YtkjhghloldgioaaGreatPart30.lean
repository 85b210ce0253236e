/- Texts of the claim, joined: The walks of batch g2 and others. -/
import Derived.Test.YtkjhghloldgioaaGreatPart20
import Derived.Test.YtkjhghloldgioaaGreatChecked
import Derived.Test.YtkjhghloldgioaaGreatH35
import Derived.Test.YtkjhghloldgioaaGreatPart28
import Derived.Test.YtkjhghloldgioaaGreatSE
import Derived.Test.YtkjhghloldgioaaGreatPart23
import Derived.Test.YtkjhghloldgioaaGreatH40
import Derived.Test.YtkjhghloldgioaaGreatH41
import Derived.Test.YtkjhghloldgioaaGreatPart19
import Derived.Test.YtkjhghloldgioaaGreatH36
import Derived.Test.YtkjhghloldgioaaGreatH43
import Derived.Test.YtkjhghloldgioaaGreatH44
namespace Go.Proofs.YtkjhghloldgioaaGreat
open Go.H
set_option linter.unusedVariables false
set_option linter.unusedSimpArgs false
set_option maxRecDepth 10000
theorem T8(h:Hp)(d:List Value)(i:j0)(y:V0.R h d i)(r:j0)(a:j5 i=some r):
  Tr Tryz.prog 137 #[.agg d.toArray] h λv s=>∃(f:Nat) (g c:Nat),v = .agg ([.int .i64 r.1,.int .i64 r.2.1,.slice (some ⟨f,0,none⟩) g c]:List Value).toArray/\New V0 h s [.int .i64 r.1,.int .i64 r.2.1,.slice (some ⟨f,0,none⟩) g c] r:=by
 obtain⟨w,x,l,E,m,j,rfl,rfl,t,u,k⟩:=H0 y
 obtain⟨rfl,C⟩:=Sl.len k
 unfold j5 at a
 dsimp only at a
 refine I3 (args:=[.agg #[.int .i64 w,.int .i64 x,.slice l j.length m]]) (fn:=Tryz.f137) rfl ?_
 refine Or.inr (Or.inr (Or.inl (aI (aI (by kernel_rfl) (by kernel_rfl)) ?_)))
 refine Or.inr ?_
 refine Or.inr ?_
 refine Or.inr ?_
 refine Or.inr ?_
 refine Or.inl (eX 0 (aI (aI rfl rfl) ?_))
 refine aI trivial (aI (by first|exact trivial|exact rfl) ?_)
 obtain⟨z,o,b⟩:=Sl.rows (r:=H1.toRp) k
 refine eX z (aI o ?_)
 obtain⟨F,p,a⟩:=B0 a
 refine aI (Y1 p (by first|rw[F2.length (show F2 (H1.R h) ([]:List (List Value)) ([]:O0) from trivial),F2.length b]|exact congrArg (·+1) (F2.length (show F2 (H1.R h) ([]:List (List Value)) ([]:O0) from trivial)))) ?_
 refine aI trivial (aI (by first|exact trivial|exact rfl) ?_)
 refine aI trivial (aI (by first|exact trivial|exact rfl) ?_)
 refine aI trivial (aI (by first|exact trivial|exact rfl) ?_)
 intro I A e
 obtain⟨q,n,rfl,G,H,D⟩:=G1.outS (r:=H1.toRp) e (F2.append (show F2 (H1.R h) ([]:List (List Value)) ([]:O0) from trivial) b)
 obtain rfl:=oJ a
 exact⟨q,((([]:O0)++j)).length,n,rfl,(New.pair (New.int t) (New.pair (New.int u) (G1.newPlain (r:=H1) e (F2.append (show F2 (H1.R h) ([]:List (List Value)) ([]:O0) from trivial) b) (m0c _))))⟩
theorem c07(h:Hp)(l:List Value)(m:j0)(A:V0.R h l m)(f:Int)(G:I0 f)(r:Int)(e:t00 m f=some r):
  Tr Tryz.prog 302 #[.agg l.toArray,.int .i64 f] h λv i=>v = .int .i64 r/\i=h:=by
 obtain⟨y,z,o,N,p,j,rfl,rfl,E,F,n⟩:=H0 A
 obtain⟨rfl,M⟩:=Sl.len n
 unfold t00 at e
 dsimp only at e
 refine Tr.forget (I3 (args:=[.agg #[.int .i64 y,.int .i64 z,.slice o j.length p],.int .i64 f]) (fn:=Tryz.f302) rfl ?_)
 obtain⟨k,q,e⟩:=B0 e
 refine eX { vars:=[5,11],boxes:=[],owns:=[],fuel:=true } (eX (λvs os i=>∃ b c,vs.tail = [.int .i64 b,.int .i64 c]/\os = []/\Sub h i/\I0 b/\I0 c/\C5 j f (J1 vs) b c=some k) (eX (λ_ _=>0) (aI (eX U0 ⟨0,0,rfl,rfl,(Sub.refl _),(by decide),(by decide),q⟩) ?_)))
 rintro _ _ d L ⟨b,c,⟨⟩,⟨⟩,g,x,H,a⟩
 replace a:C5 j f d b c=some k:=a
 obtain _|d:=d
 ·cases a
 rw[C5.eq_2]at a
 refine ifB a (λt a=>?_) λt a=>?_
 ·refine ld a (S0.mono g n) λO D C a=>?_
  obtain⟨P,Q,S,rfl,rfl,I,J,K⟩:=Q1 C
  try dsimp only at a
  refine ifB a (λu a=>?_) λu a=>?_
  ·refine ifB a (λw a=>?_) λw a=>?_
   ·exact O2 d ⟨(IntKind.i64.wrap ((IntKind.i64.wrap (b+1))+1)),(IntKind.i64.wrap (c+1)),rfl,rfl,g,(J0 _),(J0 _),a⟩
   ·exact O2 d ⟨(IntKind.i64.wrap (b+1)),(IntKind.i64.wrap (c+1)),rfl,rfl,g,(J0 _),(J0 _),a⟩
  ·refine ifB a (λs a=>?_) λs a=>?_
   ·exact O2 d ⟨(IntKind.i64.wrap (b+1)),(IntKind.i64.wrap (c+1)),rfl,rfl,g,(J0 _),(J0 _),a⟩
   ·exact O2 d ⟨b,(IntKind.i64.wrap (c+1)),rfl,rfl,g,x,(J0 _),a⟩
 ·obtain rfl:=oJ a
  try dsimp only[W0,Y0]at e
  obtain rfl:=oJ e
  exact aI rfl g
theorem g02(h:Hp)(i:Option Addr)(o k:Nat)(d:O0)(q:S0.R h [.slice i o k] d)(j:Option Addr)(p l:Nat)(e:O0)(s:S0.R h [.slice j p l] e)(r:Bool)(b:B3 d e=some r):
  Tr Tryz.prog 207 #[.slice i o k,.slice j p l] h λv m=>v = .bool r/\m=h:=by
 obtain⟨rfl,S⟩:=Sl.len q
 obtain⟨rfl,T⟩:=Sl.len s
 unfold B3 at b
 refine Tr.forget (I3 (args:=[.slice i d.length k,.slice j e.length l]) (fn:=Tryz.f207) rfl ?_)
 refine ifB b (λu b=>?_) λu b=>?_
 ·obtain rfl:=oJ b
  exact aI rfl (Sub.refl _)
 ·obtain⟨n,t,b⟩:=B0 b
  refine eX { vars:=[13],boxes:=[],owns:=[],fuel:=true } (eX (λvs os m=>∃ c,vs.tail = [.int .i64 c]/\os = []/\Sub h m/\I0 c/\I1 d e (J1 vs) c=some n) (eX (λ_ _=>0) (aI (eX U0 ⟨0,rfl,rfl,(Sub.refl _),(by decide),t⟩) ?_)))
  rintro _ g Q ⟨c,⟨⟩,⟨⟩,f,J,a⟩
  replace a:I1 d e g c=some n:=a
  obtain _|g:=g
  ·cases a
  rw[I1.eq_2]at a
  refine ifB a (λw a=>?_) λw a=>?_
  ·refine Or.inl (aI (aI (by kernel_rfl) (by kernel_rfl)) ?_)
   refine ld a (S0.mono f q) λU H y a=>?_
   obtain⟨A,C,D,rfl,rfl,K,L,M⟩:=Q1 y
   try dsimp only at a
   refine ld a (S0.mono f s) λV I z a=>?_
   obtain⟨E,F,G,rfl,rfl,N,O,P⟩:=Q1 z
   try dsimp only at a
   refine eX (!eqE (A,C,D) (E,F,G)) (aI (I0i _ _ _ rfl _ _ _ _ _ _) ?_)
   refine ifB a (λx a=>?_) λx a=>?_
   ·obtain rfl:=oJ a
    try dsimp only[l4,C4]at b
    obtain rfl:=oJ b
    exact aI rfl f
   ·exact O2 g ⟨(IntKind.i64.wrap (c+1)),rfl,rfl,f,(J0 _),a⟩
  ·obtain rfl:=oJ a
   try dsimp only[W0,Y0]at b
   obtain rfl:=oJ b
   exact aI rfl f
theorem J09(h:Hp)(b:List Value)(d:j0)(w:V0.R h b d)(c:List Value)(e:j0)(x:V0.R h c e)(r:Bool)(a:f00 d e=some r):
  Tr Tryz.prog 97 #[.agg b.toArray,.agg c.toArray] h λv m=>v = .bool r/\m=h:=by
 obtain⟨n,o,i,F,k,p,rfl,rfl,y,z,f⟩:=H0 w
 obtain⟨rfl,D⟩:=Sl.len f
 obtain⟨s,t,j,G,l,u,rfl,rfl,A,C,g⟩:=H0 x
 obtain⟨rfl,E⟩:=Sl.len g
 unfold f00 at a
 dsimp only at a
 refine Tr.forget (I3 (args:=[.agg #[.int .i64 n,.int .i64 o,.slice i p.length k],.agg #[.int .i64 s,.int .i64 t,.slice j u.length l]]) (fn:=Tryz.f97) rfl ?_)
 refine trG a (λq=>g02 _ _ _ _ _ f _ _ _ _ g) λH a=>?_
 obtain rfl:=oJ a
 exact aI rfl (Sub.refl _)
theorem I08(h:Hp)(H:List Value)(K:j0)(ap:V0.R h H K)(i:Int)(aJ:I0 i)(r:(List Bool))(e:F9 K i=some r):
  Tr Tryz.prog 301 #[.agg H.toArray,.int .i64 i] h λv f=>∃(F:Option Addr) (J G:Nat),v = .slice F J G/\(Wp.slice Wp.bool).R f [.slice F J G] r/\Sub h f:=by
 obtain⟨ao,q,M,aR,U,s,rfl,rfl,aG,aH,L⟩:=H0 ap
 obtain⟨rfl,aP⟩:=Sl.len L
 unfold F9 at e
 dsimp only at e
 refine I3 (args:=[.agg #[.int .i64 ao,.int .i64 q,.slice M s.length U],.int .i64 i]) (fn:=Tryz.f301) rfl ?_
 obtain⟨aS,ac,e⟩:=B0 e
 refine aI (N0 ac) ?_
 obtain⟨aY,af,e⟩:=B0 e
 obtain⟨Q,aD,Y,av⟩:=V1 (F2.rep (p:=Wp.bool.R h) (a:=[.bool false]) (b:=false) rfl (q.toNat)) af
 refine aI Q ?_
 obtain rfl:=av
 refine eX _ (aI Y ?_)
 obtain⟨D,ai,e⟩:=B0 e
 refine eX { vars:=[6],boxes:=[],owns:=[0],fuel:=true,kept:=[0] } (eX (λvs os f=>∃ w x m,vs.tail = [.bool w]/\os = [x]/\Sub h f/\F2 (Wp.bool.R f) x m/\W4 s (J1 vs) w m=some D) (eX (λ_ _=>0) (aI (eX U0 ⟨true,((List.replicate q.toNat ([.bool false]:List Value)).set i.toNat [.bool true]),((List.replicate q.toNat (false:Bool)).set i.toNat true),rfl,rfl,(Sub.refl _),(F2.set (p:=Wp.bool.R h) (a:=[.bool true]) (b:=true) rfl i.toNat (F2.rep (p:=Wp.bool.R h) (a:=[.bool false]) (b:=false) rfl (q.toNat))),ai⟩) ?_)))
 rintro _ x t an ⟨w,a2,m,⟨⟩,⟨⟩,A,I,d⟩
 replace d:W4 s t w m=some D:=d
 obtain _|t:=t
 ·cases d
 rw[W4.eq_2]at d
 refine ifB d (λam d=>?_) λam d=>?_
 ·obtain⟨E,aj,d⟩:=B0 d
  refine eX { vars:=[6,19],boxes:=[],owns:=[0],fuel:=true,kept:=[0] } (eX (λvs os f=>∃ l j n k,vs.tail = [.bool l,.int .i64 j]/\os = [n]/\Sub an f/\I0 j/\F2 (Wp.bool.R f) n k/\G4 s (J1 vs) l j k=some E) (eX (λ_ _=>0) (aI (eX U0 ⟨false,0,x,m,rfl,rfl,(Sub.refl _),(by decide),I,aj⟩) ?_)))
  rintro _ _ n o z ⟨l,j,a1,k,⟨⟩,⟨⟩,u,aK,g,c⟩
  replace c:G4 s o l j k=some E:=c
  obtain _|o:=o
  ·cases c
  rw[G4.eq_2]at c
  refine ifB c (λak c=>?_) λak c=>?_
  ·refine ld c (S0.mono (A.trans u) L) λaU aA aq c=>?_
   obtain⟨y,aV,C,rfl,rfl,aL,aM,aN⟩:=Q1 aq
   try dsimp only at c
   refine Or.inl (aI (aI (by kernel_rfl) (by kernel_rfl)) ?_)
   obtain⟨aW,ad,c⟩:=B0 c
   obtain⟨O,aB,W,ar⟩:=V1 g ad
   refine aI O ?_
   obtain rfl:=ar
   refine eX _ (aI W ?_)
   obtain⟨aX,ae,c⟩:=B0 c
   obtain⟨P,aC,X,au⟩:=V1 g ae
   refine aI P ?_
   obtain rfl:=au
   refine eX _ (aI X ?_)
   refine ifB c (λal c=>?_) λal c=>?_
   ·obtain⟨aZ,ag,c⟩:=B0 c
    obtain⟨S,aE,Z,aw⟩:=V1 g ag
    refine aI S ?_
    obtain rfl:=aw
    refine eX _ (aI Z ?_)
    obtain⟨a0,ah,c⟩:=B0 c
    obtain⟨T,aF,aa,ax⟩:=V1 (F2.set (p:=Wp.bool.R z) (a:=[.bool true]) (b:=true) rfl y.toNat g) ah
    refine aI T ?_
    obtain rfl:=ax
    refine eX _ (aI aa ?_)
    exact O2 o ⟨true,(IntKind.i64.wrap (j+1)),((n.set y.toNat [.bool true]).set C.toNat [.bool true]),((k.set y.toNat true).set C.toNat true),rfl,rfl,u,(J0 _),(F2.set (p:=Wp.bool.R z) (a:=[.bool true]) (b:=true) rfl C.toNat (F2.set (p:=Wp.bool.R z) (a:=[.bool true]) (b:=true) rfl y.toNat g)),c⟩
   ·exact O2 o ⟨l,(IntKind.i64.wrap (j+1)),n,k,rfl,rfl,u,(J0 _),g,c⟩
  ·obtain rfl:=oJ c
   try dsimp only[W0,Y0]at d
   exact O2 t ⟨l,n,k,rfl,rfl,(A.trans u),g,d⟩
 ·obtain rfl:=oJ d
  try dsimp only[W0,Y0]at e
  intro aT aO ab
  obtain⟨N,V,rfl,ay,az,aQ⟩:=G1.out (r:=Wp.bool.toRp) ab I
  obtain rfl:=oJ e
  exact⟨N,m.length,V,rfl,ay,(A.trans az)⟩
theorem W01(h:Hp)(c:Int)(C:I0 c)(r:P0)(f:d4 c=some r):
  Tr Tryz.prog 309 #[.int .i64 c] h λv e=>∃(l:Option Addr) (p m:Nat),v = .slice l p m/\K1.R e [.slice l p m] r/\Sub h e:=by
 unfold d4 at f
 refine I3 (args:=[.int .i64 c]) (fn:=Tryz.f309) rfl ?_
 obtain⟨k,x,f⟩:=B0 f
 refine eX { vars:=[4],boxes:=[],owns:=[0],fuel:=true } (eX (λvs os e=>∃ a j d,vs.tail = [.int .i64 a]/\os = [j]/\Sub h e/\I0 a/\F2 (Wp.int.R e) j d/\l5 c (J1 vs) a d=some k) (eX (λ_ _=>0) (aI (eX U0 ⟨1,[],([]:P0),rfl,rfl,(Sub.refl _),(by decide),(show F2 (Wp.int.R h) ([]:List (List Value)) ([]:P0) from trivial),x⟩) ?_)))
 rintro _ j i o ⟨a,H,d,⟨⟩,⟨⟩,q,n,g,b⟩
 replace b:l5 c i a d=some k:=b
 obtain _|i:=i
 ·cases b
 rw[l5.eq_2]at b
 refine ifB b (λy b=>?_) λy b=>?_
 ·obtain⟨F,w,b⟩:=B0 b
  refine aI (Y1 w (by first|rw[F2.length g,F2.length (show F2 (Wp.int.R o) ([[.int .i64 a],[.int .i64 (IntKind.i64.wrap (0-a))]]:List (List Value)) [a,(IntKind.i64.wrap (0-a))] from⟨⟨rfl,n⟩,⟨⟨rfl,(J0 _)⟩,trivial⟩⟩)]|exact congrArg (·+2) (F2.length g))) ?_
  exact O2 i ⟨(IntKind.i64.wrap (a+1)),(j++([[.int .i64 a],[.int .i64 (IntKind.i64.wrap (0-a))]]:List (List Value))),(d ++ [a,(IntKind.i64.wrap (0-a))]),rfl,rfl,q,(J0 _),(F2.append g (show F2 (Wp.int.R o) ([[.int .i64 a],[.int .i64 (IntKind.i64.wrap (0-a))]]:List (List Value)) [a,(IntKind.i64.wrap (0-a))] from⟨⟨rfl,n⟩,⟨⟨rfl,(J0 _)⟩,trivial⟩⟩)),b⟩
 ·obtain rfl:=oJ b
  try dsimp only[W0,Y0]at f
  intro G D u
  obtain⟨s,t,rfl,z,A,E⟩:=G1.out (r:=Wp.int.toRp) u g
  obtain rfl:=oJ f
  exact⟨s,d.length,t,rfl,z,(q.trans A)⟩
theorem y03(h:Hp)(c:Option Addr)(l d:Nat)(b:O0)(o:S0.R h [.slice c l d] b)(r:O0)(a:M9 b=some r):
  Tr Tryz.prog 251 #[.slice c l d] h λv x=>∃(e:Option Addr) (k f:Nat),v = .slice e k f/\New S0 h x [.slice e k f] r:=by
 obtain⟨rfl,F⟩:=Sl.len o
 unfold M9 at a
 refine I3 (args:=[.slice c b.length d]) (fn:=Tryz.f251) rfl ?_
 obtain⟨y,s,g⟩:=Sl.rows (r:=H1.toRp) o
 refine eX y (aI s ?_)
 obtain⟨I,u,a⟩:=B0 a
 refine aI (Y1 u (by first|rw[F2.length (show F2 (H1.R h) ([]:List (List Value)) ([]:O0) from trivial),F2.length g]|exact congrArg (·+1) (F2.length (show F2 (H1.R h) ([]:List (List Value)) ([]:O0) from trivial)))) ?_
 refine Or.inl ?_
 intro O C t
 obtain⟨J,w,a⟩:=B0 a
 refine Tr.mono (a0l _ t (F2.append (show F2 (H1.R h) ([]:List (List Value)) ([]:O0) from trivial) g) (N0 w)) ?_
 rintro _ D ⟨rfl,P,i,m⟩
 obtain⟨z,A,rfl,K,M,G⟩:=G1.out (r:=H1.toRp) i m
 refine Tr.mono (b0l _ i m) ?_
 rintro _ E ⟨Q,j,n⟩
 obtain⟨p,q,rfl,L,N,H⟩:=G1.out (r:=H1.toRp) j n
 obtain rfl:=oJ a
 exact⟨p,((h03 eqE (Y05 D1 (([]:O0)++b)))).length,q,rfl,(G1.newPlain (r:=H1) j n (m0c _))⟩
theorem b08(h:Hp)(Y:List Value)(af:j0)(aX:V0.R h Y af)(J:Option Addr)(ae K:Nat)(w:P0)(ai:K1.R h [.slice J ae K] w)(r:j0)(d:N01 af w=some r):
  Tr Tryz.prog 291 #[.agg Y.toArray,.slice J ae K] h λv e=>∃(X:List Value),v = .agg X.toArray/\New V0 h e X r:=by
 obtain⟨ag,i,aj,bI,aq,Q,rfl,rfl,aR,bo,ah⟩:=H0 aX
 obtain⟨rfl,bF⟩:=Sl.len ah
 obtain⟨rfl,aV⟩:=Sl.len ai
 unfold N01 at d
 dsimp only at d
 refine I3 (args:=[.agg #[.int .i64 ag,.int .i64 i,.slice aj Q.length aq],.slice J w.length K]) (fn:=Tryz.f291) rfl ?_
 obtain⟨bK,aB,d⟩:=B0 d
 refine aI (N0 aB) ?_
 obtain⟨aW,aA,d⟩:=B0 d
 obtain rfl:(List.replicate i.toNat ([.int .i64 0]:List Value)).length=aW:=(F2.length (F2.rep (p:=Wp.int.R h) (a:=[.int .i64 0]) (b:=0) ⟨rfl,(by decide)⟩ (i.toNat))).trans (oJ aA)
 obtain⟨bL,bn,d⟩:=B0 d
 obtain⟨W,aM,d⟩:=B0 d
 refine eX { vars:=[17],boxes:=[],owns:=[0],fuel:=true,kept:=[0] } (eX (λvs os e=>∃ g D y,vs.tail = [.int .i64 g]/\os = [D]/\Sub h e/\I0 g/\F2 (Wp.int.R e) D y/\O9 ((List.replicate i.toNat ([.int .i64 0]:List Value))).length (J1 vs) g y=some W) (eX (λ_ _=>0) (aI (eX U0 ⟨0,(List.replicate i.toNat ([.int .i64 0]:List Value)),(List.replicate i.toNat (0:Int)),rfl,rfl,(Sub.refl _),(by decide),(F2.rep (p:=Wp.int.R h) (a:=[.int .i64 0]) (b:=0) ⟨rfl,(by decide)⟩ (i.toNat)),aM⟩) ?_)))
 rintro _ D F ad ⟨g,b4,y,⟨⟩,⟨⟩,H,bq,L,c⟩
 replace c:O9 ((List.replicate i.toNat ([.int .i64 0]:List Value))).length F g y=some W:=c
 obtain _|F:=F
 ·cases c
 rw[O9.eq_2]at c
 refine ifB c (λaQ c=>?_) λaQ c=>?_
 ·obtain⟨bV,aD,c⟩:=B0 c
  obtain⟨al,bf,au,aY⟩:=V1 L aD
  refine aI al ?_
  obtain⟨rfl,br⟩:=aY
  refine eX _ (aI au ?_)
  exact O2 F ⟨(IntKind.i64.wrap (g+1)),(D.set g.toNat [.int .i64 (-1)]),(y.set g.toNat (-1)),rfl,rfl,H,(J0 _),(F2.set (p:=Wp.int.R ad) (a:=[.int .i64 (-1)]) (b:=(-1)) ⟨rfl,(by decide)⟩ g.toNat L),c⟩
 ·obtain rfl:=oJ c
  try dsimp only[W0,Y0]at d
  obtain⟨U,aK,d⟩:=B0 d
  refine eX { vars:=[26],boxes:=[],owns:=[0],fuel:=true,kept:=[0] } (eX (λvs os e=>∃ f I o,vs.tail = [.int .i64 f]/\os = [I]/\Sub ad e/\I0 f/\F2 (Wp.int.R e) I o/\N9 w (J1 vs) f o=some U) (eX (λ_ _=>0) (aI (eX U0 ⟨0,D,y,rfl,rfl,(Sub.refl _),(by decide),L,aK⟩) ?_)))
  rintro _ I E O ⟨f,b2,o,⟨⟩,⟨⟩,G,aS,u,c⟩
  replace c:N9 w E f o=some U:=c
  obtain _|E:=E
  ·cases c
  rw[N9.eq_2]at c
  refine ifB c (λaN c=>?_) λaN c=>?_
  ·refine ldI c (K1.mono (H.trans G) ai) λT bs c=>?_
   obtain⟨bW,aE,c⟩:=B0 c
   obtain⟨am,bg,av,aZ⟩:=V1 u aE
   refine aI am ?_
   obtain⟨rfl,bt⟩:=aZ
   refine eX _ (aI av ?_)
   exact O2 E ⟨(IntKind.i64.wrap (f+1)),(I.set T.toNat [.int .i64 f]),(o.set T.toNat f),rfl,rfl,G,(J0 _),(F2.set (p:=Wp.int.R O) (a:=[.int .i64 f]) (b:=f) ⟨rfl,aS⟩ T.toNat u),c⟩
  ·obtain rfl:=oJ c
   try dsimp only[W0,Y0]at d
   obtain⟨V,aL,d⟩:=B0 d
   refine eX { vars:=[44],boxes:=[2],owns:=[1],fuel:=true,nilsB:=[(2,2,166,3,24)] } (eX (λvs os e=>∃ s k l C x,vs.tail = [.int .i64 s,.int .i64 k,.int .i64 l]/\os = [C]/\Sub O e/\I0 s/\I0 k/\I0 l/\F2 (H1.R e) C x/\W8 Q o (J1 vs) s k l x=some V) (eX (λ_ _=>0) (aI (eX U0 ⟨0,ag,((w.length:Nat):Int),[],([]:O0),rfl,rfl,(Sub.refl _),(by decide),aR,(E0j aV),(show F2 (H1.R O) [] [] from trivial),aL⟩) ?_)))
   rintro _ _ _ C A P ⟨s,k,l,b3,x,⟨⟩,⟨⟩,j,bp,M,N,z,c⟩
   replace c:W8 Q o A s k l x=some V:=c
   obtain _|A:=A
   ·cases c
   rw[W8.eq_2]at c
   refine ifB c (λaO c=>?_) λaO c=>?_
   ·refine ld c (S0.mono ((H.trans G).trans j) ah) λbX bh a0 c=>?_
    obtain⟨bY,t,bZ,rfl,rfl,bu,aa,bv⟩:=Q1 a0
    try dsimp only at c
    obtain⟨b0,aF,c⟩:=B0 c
    obtain⟨an,bi,aw,a1⟩:=V1 (F2.up (r:=Wp.int.toRp) j u) aF
    refine aI an ?_
    obtain⟨rfl,bx⟩:=a1
    refine eX _ (aI aw ?_)
    obtain⟨b1,aG,c⟩:=B0 c
    obtain⟨bj,Z,a2⟩:=n02 (F2.up (r:=Wp.int.toRp) j u) aG (c0e P)
    refine aI (λq=>(Z q).1) ?_
    obtain⟨rfl,bz⟩:=a2
    refine eX _ (aI (λq=>(Z q).2) ?_)
    refine ifB c (λaP c=>?_) λaP c=>?_
    ·refine Or.inr (Or.inr (Or.inl (aI (aI (by kernel_rfl) (by kernel_rfl)) ?_)))
     obtain⟨m,aH,c⟩:=B0 c
     obtain⟨ao,bk,ax,a3⟩:=V1 (F2.up (r:=Wp.int.toRp) j u) aH
     obtain⟨rfl,ab⟩:=a3
     refine Or.inl ?_
     apply eX
     refine aI ?_ ?_
     ·intro bA bN
      exact aI ao (aI rfl (aI rfl rfl))
     refine Or.inl (eX (.val (.int .i64 m)) (aI ?_ ?_))
     ·intro bB bO
      exact eX _ (aI ax (aI rfl (aI rfl rfl)))
     obtain⟨n,aJ,c⟩:=B0 c
     obtain⟨ap,bl,ay,a4⟩:=V1 (F2.up (r:=Wp.int.toRp) j u) aJ
     obtain⟨rfl,ac⟩:=a4
     refine Or.inl ?_
     apply eX
     refine aI ?_ ?_
     ·intro bC bP
      exact aI ap (aI rfl (aI rfl rfl))
     refine Or.inl (eX (.val (.int .i64 n)) (aI ?_ ?_))
     ·intro bD bQ
      exact eX _ (aI ay (aI rfl (aI rfl rfl)))
     refine Or.inl (eX (.agg [.val (.int .i64 m),.val (.int .i64 t),.val (.int .i64 n)]) (aI ?_ ?_))
     ·intro bE bR
      exact aI rfl (aI rfl rfl)
     refine Or.inr ?_
     refine Or.inr ?_
     refine Or.inr ?_
     refine Or.inl (eX 0 (aI (aI rfl rfl) ?_))
     refine aI trivial (aI (by first|exact trivial|exact rfl) ?_)
     obtain⟨bM,aC,c⟩:=B0 c
     refine aI (Y1 aC (by first|rw[F2.length z,F2.length (show F2 (H1.R P) ([[.int .i64 m,.int .i64 t,.int .i64 n]]:List (List Value)) [(m,t,n)] from⟨(T1 ab aa ac),trivial⟩)]|exact congrArg (·+1) (F2.length z))) ?_
     refine aI trivial (aI (by first|exact trivial|exact rfl) ?_)
     refine aI trivial (aI (by first|exact trivial|exact rfl) ?_)
     exact O2 A ⟨(IntKind.i64.wrap (s+1)),k,l,(C++([[.int .i64 m,.int .i64 t,.int .i64 n]]:List (List Value))),(x ++ [(m,t,n)]),rfl,rfl,j,(J0 _),M,N,(F2.append z (show F2 (H1.R P) ([[.int .i64 m,.int .i64 t,.int .i64 n]]:List (List Value)) [(m,t,n)] from⟨(T1 ab aa ac),trivial⟩)),c⟩
    ·exact O2 A ⟨(IntKind.i64.wrap (s+1)),k,l,C,x,rfl,rfl,j,(J0 _),M,N,z,c⟩
   ·obtain rfl:=oJ c
    try dsimp only[W0,Y0]at d
    refine Or.inl ?_
    intro bT aT az
    obtain⟨be,bm,rfl,bb,bc,bH⟩:=G1.out (r:=H1.toRp) az z
    refine trM d (y03 _ _ _ _ _ bb) ?_
    rintro bd d bU aU ⟨ak,bJ,ar,rfl,S⟩
    have bS:Sub aT aU:=S.sub
    have ba:=S.r
    obtain⟨rfl,bG⟩:=Sl.len ba
    obtain rfl:=oJ d
    exact⟨([.int .i64 k,.int .i64 l,.slice ak bd.length ar]),rfl,(New.pair (New.int M) (New.pair (New.int N) (New.from S (((H.trans G).trans j).trans bc))))⟩
theorem d03(h:Hp)(Z:List Value)(ao:j0)(bn:V0.R h Z ao)(f:Int)(bf:I0 f)(r:P0×D4)(g:a7 ao f=some r):
  Tr Tryz.prog 236 #[.agg Z.toArray,.int .i64 f] h λv e=>∃(V:Option Addr) (al X:Nat) (W:Option Addr) (am Y:Nat),v = .tuple #[.slice V al X,.slice W am Y]/\K1.R e [.slice V al X] r.1/\k02.R e [.slice W am Y] r.2/\Sub h e:=by
 obtain⟨C,j,az,ca,aH,D,rfl,rfl,ah,be,aq⟩:=H0 bn
 obtain⟨rfl,bY⟩:=Sl.len aq
 unfold a7 at g
 dsimp only at g
 refine I3 (args:=[.agg #[.int .i64 C,.int .i64 j,.slice az D.length aH],.int .i64 f]) (fn:=Tryz.f236) rfl ?_
 obtain⟨cl,aU,g⟩:=B0 g
 refine aI (N0 aU) ?_
 obtain⟨cx,aZ,g⟩:=B0 g
 obtain⟨aE,bI,aM,bp⟩:=V1 (F2.rep (p:=Wp.opt.R h) (a:=[.slice none 0 0]) (b:=none) (V0s h) (j.toNat)) aZ
 refine aI aE ?_
 obtain⟨bD,cc,bN,rfl,ci,bk⟩:=bp
 obtain⟨rfl,b0⟩:=Sl.len bk
 intro cs N aR
 obtain⟨ag,ab,rfl,bz,Q,b8⟩:=G1.outS (r:=Wp.int.toRp) aR (show F2 (Wp.int.R h) ([]:List (List Value)) ([]:P0) from trivial)
 refine eX _ (aI aM ?_)
 obtain⟨U,a4,g⟩:=B0 g
 refine eX { vars:=[8],boxes:=[],owns:=[0,2],fuel:=true,kept:=[0] } (eX (λvs os e=>∃ u8 J w F u,vs.tail = [.int .i64 u8]/\os = [J,F]/\Sub N e/\I0 u8/\F2 (Wp.opt.R e) J w/\F2 (Wp.int.R e) F u/\Y4 C j D (J1 vs) u8 w u=some U) (eX (λ_ _=>0) (aI (eX U0 ⟨0,((List.replicate j.toNat ([.slice none 0 0]:List Value)).set f.toNat [.slice (some ⟨ag,0,none⟩) (([]:P0)).length ab]),((List.replicate j.toNat (none:Option P0)).set f.toNat (some ([]:P0))),([[.int .i64 f]]:List (List Value)),[f],rfl,rfl,(Sub.refl _),(by decide),(F2.set (p:=Wp.opt.R N) (a:=[.slice (some ⟨ag,0,none⟩) (([]:P0)).length ab]) (b:=some ([]:P0)) (W0s bz) f.toNat (F2.up (r:=Wp.opt.toRp) Q (F2.rep (p:=Wp.opt.R h) (a:=[.slice none 0 0]) (b:=none) (V0s h) (j.toNat)))),(show F2 (Wp.int.R N) ([[.int .i64 f]]:List (List Value)) [f] from⟨⟨rfl,bf⟩,trivial⟩),a4⟩) ?_)))
 rintro _ J F H bV ⟨u8,cE,w,cA,u,⟨⟩,⟨⟩,P,bU,ad,G,d⟩
 replace d:Y4 C j D H u8 w u=some U:=d
 obtain _|H:=H
 ·cases d
 rw[Y4.eq_2]at d
 obtain⟨bi,aT,d⟩:=B0 d
 obtain rfl:F.length=bi:=(F2.length G).trans (oJ aT)
 obtain⟨cm,bS,d⟩:=B0 d
 refine ifB d (λbb d=>?_) λbb d=>?_
 ·obtain⟨ax,aY,d⟩:=B0 d
  obtain⟨aD,bH,aL,bo⟩:=V1 G aY
  refine aI aD ?_
  obtain⟨rfl,bg⟩:=bo
  refine eX _ (aI aL ?_)
  refine trM d (W01 _ _ ah) ?_
  rintro ay d cr bh ⟨bC,cb,bM,rfl,ar,I⟩
  obtain⟨rfl,bZ⟩:=Sl.len ar
  obtain⟨T,a3,d⟩:=B0 d
  refine eX { vars:=[36],boxes:=[],owns:=[0,2],fuel:=true,kept:=[0] } (eX (λvs os e=>∃ l x m y n,vs.tail = [.int .i64 l]/\os = [x,y]/\Sub bh e/\I0 l/\F2 (Wp.opt.R e) x m/\F2 (Wp.int.R e) y n/\Q3 ay C j D ax (J1 vs) l m n=some T) (eX (λ_ _=>0) (aI (eX U0 ⟨0,J,w,F,u,rfl,rfl,(Sub.refl _),(by decide),(F2.up (r:=Wp.opt.toRp) I ad),(F2.up (r:=Wp.int.toRp) I G),a3⟩) ?_)))
  rintro _ x y A aj ⟨l,cC,m,cD,n,⟨⟩,⟨⟩,E,bT,t,z,c⟩
  replace c:Q3 ay C j D ax A l m n=some T:=c
  obtain _|A:=A
  ·cases c
  rw[Q3.eq_2]at c
  refine ifB c (λbc c=>?_) λbc c=>?_
  ·refine ldI c (K1.mono E ar) λk L c=>?_
   refine trV c (B4 _ _ _ (l0 ah be (S0.mono (((Q.trans P).trans I).trans E) aq)) _ bg _ L) λi c=>?_
   obtain⟨cn,aV,c⟩:=B0 c
   have ai:I0 i:=N0 aV
   obtain⟨bB,a0,c⟩:=B0 c
   obtain⟨bJ,ac,bq⟩:=n02 t a0 (Y0t aj)
   refine aI (λq=>(ac q).1) ?_
   obtain⟨bE,cd,bO,rfl,bj,bl⟩:=bq
   obtain⟨rfl,b1⟩:=Sl.len bl
   refine eX _ (aI (λq=>(ac q).2) ?_)
   refine eX (bB.isNone) (aI (λ_=>by rw[←bj];exact X0t _ _ _ rfl _ _ _) ?_)
   refine ifB c (λbd c=>?_) λbd c=>?_
   ·obtain⟨cy,a1,c⟩:=B0 c
    obtain⟨aF,bK,aN,br⟩:=V1 t a1
    refine aI aF ?_
    obtain⟨bF,ce,bP,rfl,cj,ap⟩:=br
    obtain⟨rfl,b2⟩:=Sl.len ap
    refine eX _ (aI aN ?_)
    obtain⟨K,ae,c⟩:=B0 c
    refine Tr.mono (U0c _ _ _ _ _ ap _  ae) ?_
    rintro ct M ⟨ae,cf,bQ,rfl,S⟩
    have cq:Sub aj M:=S.sub
    have bs:=S.r
    obtain⟨rfl,b3⟩:=Sl.len bs
    obtain⟨co,aW,c⟩:=B0 c
    obtain⟨bA,bu,ak,aA⟩:=New.app S (Sub.refl _)
    refine eX bA (aI bu (aI (Y1 aW (by first|rw[ak,F2.length (show F2 (Wp.int.R M) ([[.int .i64 k]]:List (List Value)) [k] from⟨⟨rfl,L⟩,trivial⟩)]|(rw[ak];rfl))) ?_))
    intro cw O ba
    obtain⟨s,af,an,ch,aa,rfl⟩:=aA _ _ _ _ _ (F3.ofPlain (b0e _) (show F2 (Wp.int.R M) ([[.int .i64 k]]:List (List Value)) [k] from⟨⟨rfl,L⟩,trivial⟩)) K7.ofPlain ba
    have au:=s.r
    obtain⟨aP,b5⟩:=Sl.len au
    subst aP
    obtain⟨cz,a2,c⟩:=B0 c
    obtain⟨aG,bL,aO,bt⟩:=V1 (F2.up (r:=Wp.opt.toRp) s.sub t) a2
    refine aI aG ?_
    obtain⟨bG,cg,bR,rfl,ck,bm⟩:=bt
    obtain⟨rfl,b4⟩:=Sl.len bm
    refine eX _ (aI aO ?_)
    obtain⟨cp,aX,c⟩:=B0 c
    refine aI (Y1 aX (by first|rw[F2.length (F2.up (r:=Wp.int.toRp) s.sub z),F2.length (show F2 (Wp.int.R O) ([[.int .i64 i]]:List (List Value)) [i] from⟨⟨rfl,ai⟩,trivial⟩)]|exact congrArg (·+1) (F2.length (F2.up (r:=Wp.int.toRp) s.sub z)))) ?_
    exact O2 A ⟨(IntKind.i64.wrap (l+1)),(x.set i.toNat [.slice (some ⟨af,an,none⟩) (K ++ [k]).length aa]),(m.set i.toNat (some (K ++ [k]))),(y++([[.int .i64 i]]:List (List Value))),(n ++ [i]),rfl,rfl,(E.trans s.sub),(J0 _),(F2.set (p:=Wp.opt.R O) (a:=[.slice (some ⟨af,an,none⟩) (K ++ [k]).length aa]) (b:=some (K ++ [k])) (W0s au) i.toNat (F2.up (r:=Wp.opt.toRp) s.sub t)),(F2.append (F2.up (r:=Wp.int.toRp) s.sub z) (show F2 (Wp.int.R O) ([[.int .i64 i]]:List (List Value)) [i] from⟨⟨rfl,ai⟩,trivial⟩)),c⟩
   ·exact O2 A ⟨(IntKind.i64.wrap (l+1)),x,m,y,n,rfl,rfl,E,(J0 _),t,z,c⟩
  ·obtain rfl:=oJ c
   try dsimp only[W0,Y0]at d
   exact O2 H ⟨(IntKind.i64.wrap (u8+1)),x,m,y,n,rfl,rfl,((P.trans I).trans E),(J0 _),t,z,d⟩
 ·obtain rfl:=oJ d
  try dsimp only[W0,Y0]at g
  intro cu bW aQ
  obtain⟨aB,aJ,rfl,bv,av,b6⟩:=G1.out (r:=Wp.int.toRp) aQ G
  intro cv bX aS
  obtain⟨aC,aK,rfl,bx,aw,b7⟩:=G1.out (r:=K1.toRp) aS (F2.ofOpt (F2.up (r:=Wp.opt.toRp) av ad))
  obtain rfl:=oJ g
  exact⟨aB,u.length,aJ,aC,(List.map (λo:Option P0=>o.getD ([]:P0)) w).length,aK,rfl,(K1.mono aw bv),bx,(((Q.trans P).trans av).trans aw)⟩
theorem h07(h:Hp)(f:List Value)(l:j0)(A:V0.R h f l)(r:P0)(a:J8 l=some r):
  Tr Tryz.prog 303 #[.agg f.toArray] h λv g=>∃(d:Option Addr) (k e:Nat),v = .slice d k e/\K1.R g [.slice d k e] r/\Sub h g:=by
 obtain⟨x,y,n,P,q,z,rfl,rfl,i,j,b⟩:=H0 A
 obtain⟨rfl,L⟩:=Sl.len b
 unfold J8 at a
 dsimp only at a
 refine I3 (args:=[.agg #[.int .i64 x,.int .i64 y,.slice n z.length q]]) (fn:=Tryz.f303) rfl ?_
 refine trV a (D9 _ _ _ (l0 i j b)) λV a=>?_
 refine ifB a (λw a=>?_) λw a=>?_
 ·intro T J u
  obtain⟨p,t,rfl,C,E,O⟩:=G1.out (r:=Wp.int.toRp) u (show F2 (Wp.int.R h) ([]:List (List Value)) ([]:P0) from trivial)
  obtain rfl:=oJ a
  exact⟨p,(([]:P0)).length,t,rfl,C,E⟩
 ·refine trM a (d03 _ _ _ (l0 i j b) 0 (by decide)) ?_
  rintro F a U K ⟨o,Q,s,H,S,I,rfl,c,m,D⟩
  obtain⟨G,W⟩:=F
  dsimp only at a c m
  obtain⟨rfl,M⟩:=Sl.len c
  obtain⟨rfl,N⟩:=Sl.len m
  obtain rfl:=oJ a
  exact⟨o,G.length,s,rfl,c,D⟩
theorem j03(h:Hp)(j:List Value)(k:j0)(K:V0.R h j k)(r:j0)(a:o7 k=some r):
  Tr Tryz.prog 221 #[.agg j.toArray] h λv x=>∃(i:List Value),v = .agg i.toArray/\New V0 h x i r:=by
 obtain⟨H,I,n,ag,p,J,rfl,rfl,c,d,b⟩:=H0 K
 obtain⟨rfl,ac⟩:=Sl.len b
 unfold o7 at a
 dsimp only at a
 refine I3 (args:=[.agg #[.int .i64 H,.int .i64 I,.slice n J.length p]]) (fn:=Tryz.f221) rfl ?_
 refine trV a (D9 _ _ _ (l0 c d b)) λao a=>?_
 refine ifB a (λy a=>?_) λy a=>?_
 ·refine trM a (T8 _ _ _ (l0 c d b)) ?_
  rintro V a am F ⟨w,ai,s,rfl,e⟩
  have ak:Sub h F:=e.sub
  have l:=e.r
  obtain⟨W,X,Y⟩:=V
  dsimp only at a e l
  obtain⟨_,_,_,_,_,_,t,u,C,D,N⟩:=H0 l
  cases t
  cases u
  obtain⟨rfl,ae⟩:=Sl.len N
  try dsimp only at a
  have Q:=New.sndI (New.sndI (e))
  obtain rfl:=oJ a
  exact⟨([.int .i64 W,.int .i64 X,.slice (some ⟨w,0,none⟩) Y.length s]),rfl,(New.pair (New.int C) (New.pair (New.int D) Q))⟩
 ·refine Or.inr (Or.inr (Or.inl (aI (aI (by kernel_rfl) (by kernel_rfl)) ?_)))
  refine Or.inr ?_
  refine Or.inr ?_
  refine Or.inr ?_
  refine Or.inl (eX 2 (aI (aI rfl rfl) ?_))
  refine trM a (h07 _ _ _ (l0 c d b)) ?_
  rintro aq a an G ⟨Z,aj,ab,rfl,m,f⟩
  obtain⟨rfl,af⟩:=Sl.len m
  refine aI (aI rfl f) (aI (by first|exact trivial|exact rfl) ?_)
  refine trM a (b08 _ _ _ (l0 c d (S0.mono f b)) _ _ _ _ m) ?_
  rintro ap a al E ⟨aa,rfl,g⟩
  have O:Sub G E:=g.sub
  have L:=g.r
  obtain⟨S,T,o,ah,q,U,rfl,rfl,z,A,M⟩:=H0 L
  obtain⟨rfl,ad⟩:=Sl.len M
  try dsimp only at a
  have P:=New.sndI (New.sndI (g))
  refine aI (aI rfl O) (aI (by first|exact trivial|exact rfl) ?_)
  refine aI trivial (aI (by first|exact trivial|exact rfl) ?_)
  obtain rfl:=oJ a
  exact⟨([.int .i64 S,.int .i64 T,.slice o U.length q]),rfl,(New.pair (New.int z) (New.pair (New.int A) (New.from P f)))⟩
theorem k06(h:Hp)(am:List Value)(aG:j0)(bS:V0.R h am aG)(r:j0×P0)(c:N7 aG=some r):
  Tr Tryz.prog 220 #[.agg am.toArray] h λv d=>∃(al:List Value) (aj:Option Addr) (aF ak:Nat),v = .tuple #[.agg al.toArray,.slice aj aF ak]/\New V0 h d al r.1/\K1.R d [.slice aj aF ak] r.2:=by
 obtain⟨bO,V,aV,cz,a3,bP,rfl,rfl,aw,ax,W⟩:=H0 bS
 obtain⟨rfl,cp⟩:=Sl.len W
 unfold N7 at c
 dsimp only at c
 refine I3 (args:=[.agg #[.int .i64 bO,.int .i64 V,.slice aV bP.length a3]]) (fn:=Tryz.f220) rfl ?_
 refine trM c (T8 _ _ _ (l0 aw ax W)) ?_
 rintro b8 c cN I ⟨ar,cA,an,rfl,O⟩
 have Y:Sub h I:=O.sub
 have aJ:=O.r
 obtain⟨aP,aQ,ac⟩:=b8
 dsimp only at c O aJ
 obtain⟨_,_,_,_,_,_,bd,bf,aB,aC,bT⟩:=H0 aJ
 cases bd
 cases bf
 obtain⟨rfl,cr⟩:=Sl.len bT
 try dsimp only at c
 have aM:=New.sndI (New.sndI (O))
 refine trV c (c03 _ _ _ (l0 aw ax (S0.mono Y W))) λcU c=>?_
 refine ifB c (λbC c=>?_) λbC c=>?_
 ·intro cR cm bi
  obtain⟨aY,ba,rfl,bY,b3,cu⟩:=G1.out (r:=Wp.int.toRp) bi (show F2 (Wp.int.R I) ([]:List (List Value)) ([]:P0) from trivial)
  obtain rfl:=oJ c
  exact⟨([.int .i64 aP,.int .i64 aQ,.slice (some ⟨ar,0,none⟩) ac.length an]),aY,(([]:P0)).length,ba,rfl,(New.pair (New.int aB) (New.pair (New.int aC) (New.mono aM b3))),bY⟩
 ·obtain⟨af,bp,c⟩:=B0 c
  refine eX { vars:=[6],boxes:=[],owns:=[0],fuel:=true } (eX (λvs os d=>∃ g N n,vs.tail = [.int .i64 g]/\os = [N]/\Sub I d/\I0 g/\F2 (Wp.int.R d) N n/\j6 V (J1 vs) g n=some af) (eX (λ_ _=>0) (aI (eX U0 ⟨0,[],([]:P0),rfl,rfl,(Sub.refl _),(by decide),(show F2 (Wp.int.R I) ([]:List (List Value)) ([]:P0) from trivial),bp⟩) ?_)))
  rintro _ N J aD ⟨g,cW,n,⟨⟩,⟨⟩,M,ay,u,a⟩
  replace a:j6 V J g n=some af:=a
  obtain _|J:=J
  ·cases a
  rw[j6.eq_2]at a
  refine ifB a (λbu a=>?_) λbu a=>?_
  ·obtain⟨cG,bj,a⟩:=B0 a
   refine aI (Y1 bj (by first|rw[F2.length u,F2.length (show F2 (Wp.int.R aD) ([[.int .i64 g]]:List (List Value)) [g] from⟨⟨rfl,ay⟩,trivial⟩)]|exact congrArg (·+1) (F2.length u))) ?_
   exact O2 J ⟨(IntKind.i64.wrap (g+1)),(N++([[.int .i64 g]]:List (List Value))),(n ++ [g]),rfl,rfl,M,(J0 _),(F2.append u (show F2 (Wp.int.R aD) ([[.int .i64 g]]:List (List Value)) [g] from⟨⟨rfl,ay⟩,trivial⟩)),a⟩
  ·obtain rfl:=oJ a
   try dsimp only[W0,Y0]at c
   obtain⟨ag,bq,c⟩:=B0 c
   refine eX { vars:=[5],boxes:=[2],owns:=[],fuel:=true,pubs:=[5] } (eX (λvs os d=>∃(D:Option Addr) (T t:Nat) (A:P0) (k:Int) (i:Int) (E:Option Addr) (U F:Nat) (o:O0),vs.tail = [.slice D T t,.int .i64 k,.int .i64 i,.slice E U F]/\os = []/\Sub h d/\New K1 h d [.slice D T t] A/\I0 k/\I0 i/\New S0 h d [.slice E U F] o/\K5 (J1 vs) A k i o=some ag) (eX (λ_ _=>0) ?_))
   intro cM ck aq
   obtain⟨aZ,bb,rfl,cK,aL,cv⟩:=G1.out (r:=Wp.int.toRp) aq u
   refine aI (eX U0 ⟨aZ,n.length,bb,n,aP,aQ,(some ⟨ar,0,none⟩),ac.length,an,ac,rfl,rfl,((Y.trans M).trans aL),(New.from (G1.newPlain (r:=Wp.int) aq u (b0e _)) (Y.trans M)),aB,aC,(New.mono aM (M.trans aL)),bq⟩) ?_
   rintro _ _ _ _ K cl ⟨D,T,t,A,k,i,E,U,F,o,⟨⟩,⟨⟩,cL,aN,G,H,aO,a⟩
   replace a:K5 K A k i o=some ag:=a
   obtain _|K:=K
   ·cases a
   rw[K5.eq_2]at a
   have aH:=aN.r
   obtain⟨rfl,bK⟩:=Sl.len aH
   have L:=aO.r
   obtain⟨rfl,cq⟩:=Sl.len L
   refine trM a (I08 _ _ _ (l0 G H L) 0 (by decide)) ?_
   rintro aR a cO bG ⟨cd,cC,ch,rfl,aK,p⟩
   obtain⟨rfl,cs⟩:=Sl.len aK
   obtain⟨ah,br,a⟩:=B0 a
   refine eX { vars:=[8,9],boxes:=[],owns:=[],fuel:=true } (eX (λvs os d=>∃ l m,vs.tail = [.int .i64 l,.int .i64 m]/\os = []/\Sub bG d/\I0 l/\I0 m/\F4 i k o aR (J1 vs) l m=some ah) (eX (λ_ _=>0) (aI (eX U0 ⟨0,1,rfl,rfl,(Sub.refl _),(by decide),(by decide),br⟩) ?_)))
   rintro _ _ x S ⟨l,m,⟨⟩,⟨⟩,j,bD,az,b⟩
   replace b:F4 i k o aR x l m=some ah:=b
   obtain _|x:=x
   ·cases b
   rw[F4.eq_2]at b
   refine ifB b (λbv b=>?_) λbv b=>?_
   ·refine trV b (c07 _ _ _ (l0 G H (S0.mono (p.trans j) L)) _ az) λca b=>?_
    obtain⟨cH,bk,b⟩:=B0 b
    have cj:I0 ca:=N0 bk
    obtain⟨cT,bn,b⟩:=B0 b
    obtain⟨cf,ap,bU⟩:=Sl.getG (r:=Wp.bool.toRp) ((Wp.slice Wp.bool).mono j aK) bn (by decide) (I0p S)
    refine aI (λq=>(ap q).1) ?_
    obtain rfl:=bU
    refine eX _ (aI (λq=>(ap q).2) ?_)
    refine ifB b (λbx b=>?_) λbx b=>?_
    ·exact O2 x ⟨m,(IntKind.i64.wrap (m+1)),rfl,rfl,j,az,(J0 _),b⟩
    ·exact O2 x ⟨l,(IntKind.i64.wrap (m+1)),rfl,rfl,j,bD,(J0 _),b⟩
   ·obtain rfl:=oJ b
    try dsimp only[W0,Y0]at a
    refine ifB a (λbz a=>?_) λbz a=>?_
    ·obtain rfl:=oJ a
     try dsimp only[l4,C4]at c
     obtain rfl:=oJ c
     exact⟨([.int .i64 k,.int .i64 i,.slice E o.length F]),D,A.length,t,rfl,(New.pair (New.int G) (New.pair (New.int H) (New.mono aO (p.trans j)))),(K1.mono (p.trans j) aH)⟩
    ·obtain⟨ai,bs,a⟩:=B0 a
     refine eX { vars:=[11],boxes:=[],owns:=[1],fuel:=true } (eX (λvs os d=>∃ f C s,vs.tail = [.int .i64 f]/\os = [C]/\Sub S d/\I0 f/\F2 (Wp.int.R d) C s/\J5 i l (J1 vs) f s=some ai) (eX (λ_ _=>0) (aI (eX U0 ⟨0,[],([]:P0),rfl,rfl,(Sub.refl _),(by decide),(show F2 (Wp.int.R S) ([]:List (List Value)) ([]:P0) from trivial),bs⟩) ?_)))
     rintro _ C y aE ⟨f,cX,s,⟨⟩,⟨⟩,z,aA,w,b⟩
     replace b:J5 i l y f s=some ai:=b
     obtain _|y:=y
     ·cases b
     rw[J5.eq_2]at b
     refine ifB b (λbA b=>?_) λbA b=>?_
     ·refine ifB b (λbB b=>?_) λbB b=>?_
      ·obtain⟨cI,bl,b⟩:=B0 b
       refine aI (Y1 bl (by first|rw[F2.length w,F2.length (show F2 (Wp.int.R aE) ([[.int .i64 f]]:List (List Value)) [f] from⟨⟨rfl,aA⟩,trivial⟩)]|exact congrArg (·+1) (F2.length w))) ?_
       exact O2 y ⟨(IntKind.i64.wrap (f+1)),(C++([[.int .i64 f]]:List (List Value))),(s ++ [f]),rfl,rfl,z,(J0 _),(F2.append w (show F2 (Wp.int.R aE) ([[.int .i64 f]]:List (List Value)) [f] from⟨⟨rfl,aA⟩,trivial⟩)),b⟩
      ·exact O2 y ⟨(IntKind.i64.wrap (f+1)),C,s,rfl,rfl,z,(J0 _),w,b⟩
     ·obtain rfl:=oJ b
      try dsimp only[W0,Y0]at a
      refine Or.inl ?_
      intro cP bH bh
      obtain⟨ce,ci,rfl,bZ,Z,cw⟩:=G1.out (r:=Wp.int.toRp) bh w
      refine trM a (b08 _ _ _ (l0 G H (S0.mono (((p.trans j).trans z).trans Z) L)) _ _ _ _ bZ) ?_
      rintro cV a cQ bI ⟨cg,rfl,aa⟩
      have b1:Sub bH bI:=aa.sub
      have bV:=aa.r
      obtain⟨cb,cc,aX,cD,a4,aS,rfl,rfl,bE,bF,bW⟩:=H0 bV
      obtain⟨rfl,ct⟩:=Sl.len bW
      try dsimp only at a
      have b6:=New.sndI (New.sndI (aa))
      obtain⟨ad,au,a⟩:=B0 a
      obtain⟨ae,av,a⟩:=B0 a
      obtain⟨cJ,bm,a⟩:=B0 a
      obtain⟨bQ,a1,ao,bo,bN,aT,aU,b4,b5,be,bR,a2,co,cy,bX,b2,bL,bM,aW⟩:=New.drop aN ((((p.trans j).trans z).trans Z).trans b1) au av (E0t bK au av)
      subst be
      refine Or.inr (Or.inr (Or.inl (aI (aI (by kernel_rfl) (by kernel_rfl)) ?_)))
      refine Or.inl (eX (.val (.slice (some ⟨bo,bN,none⟩) ad.length t)) (aI ?_ ?_))
      ·intro P X
       obtain⟨vs,e⟩:=ao P X
       exact aI a1 (eX vs (aI e (λv _ Q=>aI (congrArg AV.val (bQ v Q)) (aI rfl rfl))))
      refine Or.inl (eX (.val (.slice aT ae.length aU)) (aI ?_ ?_))
      ·intro P X
       obtain⟨vs,e⟩:=ao P X
       exact aI a2 (eX vs (aI e (λv _ Q=>aI (congrArg AV.val (bR v Q)) (aI rfl rfl))))
      refine Or.inr ?_
      refine Or.inl (eX 0 (aI (aI rfl rfl) ?_))
      refine eX b5 (aI b2 (eX b4 (aI bX (aI (Y1 bm (by rw[bL,bM])) ?_))))
      intro cS cn bt
      obtain⟨ab,⟨a0,cE,bc,rfl⟩,bJ⟩:=aW _ _ bt
      have b0:=ab.r
      obtain⟨bg,cx⟩:=Sl.len b0
      subst bg
      refine aI trivial (aI (by first|exact trivial|exact rfl) ?_)
      have b7:=bJ H1.slice _ _ _ b6 (((p.trans j).trans z).trans Z)
      exact O2 K ⟨a0,(ad++ae).length,bc,(ad++ae),cb,cc,aX,aS.length,a4,aS,rfl,rfl,ab.sub,ab,bE,bF,b7,a⟩
theorem A7(h:Hp)(n:List Value)(o:j0)(U:V0.R h n o)(r:Bool)(a:J4 o=some r):
  Tr Tryz.prog 111 #[.agg n.toArray] h λv I=>v = .bool r/\I=h:=by
 obtain⟨S,p,y,aD,A,T,rfl,rfl,f,g,b⟩:=H0 U
 obtain⟨rfl,az⟩:=Sl.len b
 unfold J4 at a
 dsimp only at a
 refine Tr.forget (I3 (args:=[.agg #[.int .i64 S,.int .i64 p,.slice y T.length A]]) (fn:=Tryz.f111) rfl ?_)
 refine trV a (D9 _ _ _ (l0 f g b)) λaK a=>?_
 refine ifB a (λJ a=>?_) λJ a=>?_
 ·obtain rfl:=oJ a
  exact aI rfl (Sub.refl _)
 ·refine trM a (k06 _ _ _ (l0 f g b)) ?_
  rintro ad a aJ P ⟨aj,ah,aF,am,rfl,m,s⟩
  obtain⟨aL,aO⟩:=ad
  dsimp only at a m s
  have l:Sub h P:=m.sub
  have V:=m.r
  obtain⟨aM,ae,ag,aE,al,aN,rfl,rfl,aq,ar,W⟩:=H0 V
  obtain⟨rfl,aA⟩:=Sl.len W
  try dsimp only at a
  obtain⟨rfl,aB⟩:=Sl.len s
  refine Or.inr (Or.inr (Or.inr (Or.inl (aI (aI (by kernel_rfl) (by kernel_rfl)) ?_))))
  refine Or.inl (eX (.val (.bool (decide (ae=p)))) (aI ?_ ?_))
  ·intro aw aH
   exact aI rfl (aI rfl rfl)
  obtain⟨af,H,a⟩:=B0 a
  obtain⟨w,x,i⟩:=af
  try dsimp only at a
  refine Or.inr (eX (λv K=>∃(c:Option Addr) (d:Nat),v = .agg #[.int .i64 w,.int .i64 x,.slice c i.length d]/\I0 w/\I0 x/\S0.R K [.slice c i.length d] i/\i.length<=9223372036854775807) (aI (λv ao ap k q=>by obtain⟨c,d,e,E,F,f2,f3⟩:=q;exact⟨c,d,e,E,F,S0.mono k f2,f3⟩) (aI ?_ ?_)))
  ·intro ax Z j
   refine Tr.mono (j03 _ _ _ (l0 f g (S0.mono (l.trans Z) b)) _ (a9 H j)) ?_
   rintro _ ay ⟨ak,rfl,u⟩
   have k:=u.sub
   have X:=u.r
   obtain⟨aP,aQ,z,aG,C,aR,rfl,D,L,M,t⟩:=H0 X
   cases D
   obtain⟨rfl,Q⟩:=Sl.len t
   exact aI g03 (aI k ⟨z,C,rfl,L,M,t,Q⟩)
  obtain⟨ac,G,a⟩:=B0 a
  refine Or.inl (eX (.val (.bool ac)) (aI ?_ ?_))
  ·intro au aa j
   rintro _ ⟨ai,an,rfl,N,O,Y,aC⟩
   exact Tr.val (J09 _ _ _ (l0 N O Y) _ _ (l0 f g (S0.mono (l.trans aa) b)) _ (a9 G j)) (aI rfl (aI rfl rfl))
  intro av ab
  obtain rfl:=oJ a
  exact aI rfl (l.trans ab)
set_option maxHeartbeats 0
theorem V0c(h:Hp)(V:List Value)(ab:j0)(a0:V0.R h V ab)(W:List Value)(ac:j0)(a1:V0.R h W ac)(r:Bool)(d:q01 ab ac=some r):
  Tr Tryz.prog 323 #[.agg V.toArray,.agg W.toArray] h λv j=>v = .bool r/\j=h:=by
 obtain⟨A,k,ad,bz,ak,C,rfl,rfl,M,Y,P⟩:=H0 a0
 obtain⟨rfl,bt⟩:=Sl.len P
 obtain⟨D,E,ae,bA,al,F,rfl,rfl,Z,aa,Q⟩:=H0 a1
 obtain⟨rfl,bu⟩:=Sl.len Q
 unfold q01 at d
 dsimp only at d
 refine Tr.forget (I3 (args:=[.agg #[.int .i64 A,.int .i64 k,.slice ad C.length ak],.agg #[.int .i64 D,.int .i64 E,.slice ae F.length al]]) (fn:=Tryz.f323) rfl ?_)
 refine trV d (j7 _ _ _ (l0 M Y P)) λbK d=>?_
 refine trG d (λq=>j7 _ _ _ (l0 Z aa Q)) λbL d=>?_
 refine ifB d (λaO d=>?_) λaO d=>?_
 ·obtain rfl:=oJ d
  exact aI rfl (Sub.refl _)
 ·obtain⟨bF,ay,d⟩:=B0 d
  refine aI (N0 ay) ?_
  refine trM d (a01 _ _ M) ?_
  rintro L d bJ aY ⟨bd,bB,bk,rfl,S,u⟩
  obtain⟨rfl,bv⟩:=Sl.len S
  obtain⟨U,aK,d⟩:=B0 d
  refine eX { vars:=[8],boxes:=[],owns:=[0,1],fuel:=true,kept:=[0] } (eX (λvs os j=>∃ s K G I H,vs.tail = [.int .i64 s]/\os = [K,I]/\Sub aY j/\I0 s/\F2 (Wp.int.R j) K G/\F2 (Wp.int.R j) I H/\d7 L A k C D E F (J1 vs) s G H=some U) (eX (λ_ _=>0) (aI (eX U0 ⟨0,(List.replicate k.toNat ([.int .i64 0]:List Value)),(List.replicate k.toNat (0:Int)),([[.int .i64 0]]:List (List Value)),[0],rfl,rfl,(Sub.refl _),(by decide),(F2.up (r:=Wp.int.toRp) u (F2.rep (p:=Wp.int.R h) (a:=[.int .i64 0]) (b:=0) ⟨rfl,(by decide)⟩ (k.toNat))),(F2.up (r:=Wp.int.toRp) u (show F2 (Wp.int.R h) ([[.int .i64 0]]:List (List Value)) [0] from⟨⟨rfl,(by decide)⟩,trivial⟩)),aK⟩) ?_)))
  rintro _ K I J aX ⟨s,bU,G,bV,H,⟨⟩,⟨⟩,l,bo,au,X,e⟩
  replace e:d7 L A k C D E F J s G H=some U:=e
  obtain _|J:=J
  ·cases e
  rw[d7.eq_2]at e
  obtain⟨aZ,av,e⟩:=B0 e
  obtain rfl:I.length=aZ:=(F2.length X).trans (oJ av)
  obtain⟨bC,bm,e⟩:=B0 e
  refine ifB e (λaL e=>?_) λaL e=>?_
  ·obtain⟨T,aJ,e⟩:=B0 e
   refine eX { vars:=[9],boxes:=[],owns:=[0,1],fuel:=true,kept:=[0] } (eX (λvs os j=>∃ m w n x o,vs.tail = [.int .i64 m]/\os = [w,x]/\Sub aX j/\I0 m/\F2 (Wp.int.R j) w n/\F2 (Wp.int.R j) x o/\D5 L s A k C D E F (J1 vs) m n o=some T) (eX (λ_ _=>0) (aI (eX U0 ⟨0,K,G,I,H,rfl,rfl,(Sub.refl _),(by decide),au,X,aJ⟩) ?_)))
   rintro _ w x y O ⟨m,bW,n,bX,o,⟨⟩,⟨⟩,g,bn,t,i,c⟩
   replace c:D5 L s A k C D E F y m n o=some T:=c
   obtain _|y:=y
   ·cases c
   rw[D5.eq_2]at c
   refine ifB c (λaM c=>?_) λaM c=>?_
   ·refine Or.inl (aI (aI (by kernel_rfl) (by kernel_rfl)) ?_)
    obtain⟨bM,aA,c⟩:=B0 c
    obtain⟨af,bf,am,a2⟩:=V1 i aA
    refine aI af ?_
    obtain⟨rfl,aS⟩:=a2
    refine eX _ (aI am ?_)
    refine ldI c (K1.mono (l.trans g) S) λbN aT c=>?_
    obtain⟨f,aB,c⟩:=B0 c
    refine eX (.int .i64 f) (aI (Y3 _ _ _ (l0 M Y (S0.mono ((u.trans l).trans g) P)) _ aS _ aT _  aB) ?_)
    obtain⟨bD,aw,c⟩:=B0 c
    have N:I0 f:=N0 aw
    refine ifB c (λaN c=>?_) λaN c=>?_
    ·exact O2 y ⟨(IntKind.i64.wrap (m+1)),w,n,x,o,rfl,rfl,g,(J0 _),t,i,c⟩
    ·refine Or.inl (aI (aI (by kernel_rfl) (by kernel_rfl)) ?_)
     obtain⟨bO,aC,c⟩:=B0 c
     obtain⟨ag,bg,an,a3⟩:=V1 i aC
     refine aI ag ?_
     obtain⟨rfl,bp⟩:=a3
     refine eX _ (aI an ?_)
     obtain⟨bP,aD,c⟩:=B0 c
     obtain⟨ah,bh,ao,a4⟩:=V1 t aD
     refine aI ah ?_
     obtain⟨rfl,aU⟩:=a4
     refine eX _ (aI ao ?_)
     refine ldI c (K1.mono (l.trans g) S) λbQ aV c=>?_
     obtain⟨z,aE,c⟩:=B0 c
     refine eX (.int .i64 z) (aI (Y3 _ _ _ (l0 Z aa (S0.mono ((u.trans l).trans g) Q)) _ aU _ aV _  aE) ?_)
     obtain⟨bE,ax,c⟩:=B0 c
     have aW:I0 z:=N0 ax
     refine ifB c (λaP c=>?_) λaP c=>?_
     ·obtain rfl:=oJ c
      try dsimp only[l4,C4]at e
      obtain rfl:=oJ e
      try dsimp only[l4,C4]at d
      obtain rfl:=oJ d
      exact aI rfl ((u.trans l).trans g)
     ·refine Or.inr ?_
      intro bI bs ar
      obtain⟨be,bl,rfl,bc,bH,bx⟩:=G1.out (r:=Wp.int.toRp) ar i
      obtain⟨bR,aF,c⟩:=B0 c
      refine Tr.val (i01 _ _ _ _ _ bc _ N _  aF) (aI rfl ?_)
      refine ifB c (λaQ c=>?_) λaQ c=>?_
      ·obtain⟨bG,az,c⟩:=B0 c
       refine aI (Y1 az (by first|rw[F2.length i,F2.length (show F2 (Wp.int.R O) ([[.int .i64 f]]:List (List Value)) [f] from⟨⟨rfl,N⟩,trivial⟩)]|exact congrArg (·+1) (F2.length i))) ?_
       obtain⟨bS,aG,c⟩:=B0 c
       obtain⟨ai,bi,ap,ba⟩:=V1 t aG
       refine aI ai ?_
       obtain⟨rfl,bq⟩:=ba
       refine eX _ (aI ap ?_)
       exact O2 y ⟨(IntKind.i64.wrap (m+1)),(w.set f.toNat [.int .i64 z]),(n.set f.toNat z),(x++([[.int .i64 f]]:List (List Value))),(o ++ [f]),rfl,rfl,g,(J0 _),(F2.set (p:=Wp.int.R O) (a:=[.int .i64 z]) (b:=z) ⟨rfl,aW⟩ f.toNat t),(F2.append i (show F2 (Wp.int.R O) ([[.int .i64 f]]:List (List Value)) [f] from⟨⟨rfl,N⟩,trivial⟩)),c⟩
      ·obtain⟨bT,aH,c⟩:=B0 c
       obtain⟨aj,bj,aq,bb⟩:=V1 t aH
       refine aI aj ?_
       obtain⟨rfl,br⟩:=bb
       refine eX _ (aI aq ?_)
       refine ifB c (λaR c=>?_) λaR c=>?_
       ·obtain rfl:=oJ c
        try dsimp only[l4,C4]at e
        obtain rfl:=oJ e
        try dsimp only[l4,C4]at d
        obtain rfl:=oJ d
        exact aI rfl ((u.trans l).trans g)
       ·exact O2 y ⟨(IntKind.i64.wrap (m+1)),w,n,x,o,rfl,rfl,g,(J0 _),t,i,c⟩
   ·obtain rfl:=oJ c
    try dsimp only[W0,Y0]at e
    exact O2 J ⟨(IntKind.i64.wrap (s+1)),w,n,x,o,rfl,rfl,(l.trans g),(J0 _),t,i,e⟩
  ·obtain rfl:=oJ e
   try dsimp only[W0,Y0]at d
   obtain rfl:=oJ d
   exact aI rfl (u.trans l)
theorem k03(h:Hp)(e:List Value)(m:j0)(P:V0.R h e m)(f:List Value)(n:j0)(Q:V0.R h f n)(r:j0×Bool)(a:p7 m n=some r):
  Tr Tryz.prog 144 #[.agg e.toArray,.agg f.toArray] h λv g=>∃(d:List Value),v = .tuple #[.agg d.toArray,.bool r.2]/\V0.R g d r.1/\Sub h g:=by
 obtain⟨J,K,u,ah,y,L,rfl,rfl,i,j,b⟩:=H0 P
 obtain⟨rfl,ad⟩:=Sl.len b
 obtain⟨M,N,w,ai,z,O,rfl,rfl,k,l,c⟩:=H0 Q
 obtain⟨rfl,ae⟩:=Sl.len c
 unfold p7 at a
 dsimp only at a
 refine I3 (args:=[.agg #[.int .i64 J,.int .i64 K,.slice u L.length y],.agg #[.int .i64 M,.int .i64 N,.slice w O.length z]]) (fn:=Tryz.f144) rfl ?_
 refine trV a (j7 _ _ _ (l0 i j b)) λan a=>?_
 refine trG a (λq=>j7 _ _ _ (l0 k l c)) λao a=>?_
 refine ifB a (λC a=>?_) λC a=>?_
 ·obtain rfl:=oJ a
  exact⟨([.int .i64 0,.int .i64 0,.slice none 0 0]),rfl,(l0 (by decide) (by decide) (F0j H1 h)),(Sub.refl _)⟩
 ·refine trM a (a0b _ _ _ (l0 i j b) _ _ (l0 k l c) 0 (by decide) 0 (by decide)) ?_
  rintro U a am I ⟨Z,rfl,o,t⟩
  obtain⟨ap,av⟩:=U
  dsimp only at a o
  obtain⟨aq,ar,Y,aj,ab,au,rfl,rfl,E,F,p⟩:=H0 o
  obtain⟨rfl,af⟩:=Sl.len p
  try dsimp only at a
  refine ifB a (λD a=>?_) λD a=>?_
  ·obtain rfl:=oJ a
   exact⟨([.int .i64 0,.int .i64 0,.slice none 0 0]),rfl,(l0 (by decide) (by decide) (F0j H1 I)),t⟩
  ·refine trM a (j06 _ _ _ (l0 E F p)) ?_
   rintro aw a al ac ⟨aa,rfl,S,T⟩
   obtain⟨V,W,x,ak,A,X,rfl,rfl,G,H,s⟩:=H0 S
   obtain⟨rfl,ag⟩:=Sl.len s
   try dsimp only at a
   obtain rfl:=oJ a
   exact⟨([.int .i64 V,.int .i64 W,.slice x X.length A]),rfl,(l0 G H s),(t.trans T)⟩
theorem X04(h:Hp)(g:List Value)(i:j0)(o:V0.R h g i)(r:Int)(a:R8 i=some r):
  Tr Tryz.prog 161 #[.agg g.toArray] h λv l=>v = .int .i64 r/\l=h:=by
 obtain⟨b,c,e,t,f,d,rfl,rfl,m,n,j⟩:=H0 o
 obtain⟨rfl,s⟩:=Sl.len j
 unfold R8 at a
 dsimp only at a
 refine Tr.forget (I3 (args:=[.agg #[.int .i64 b,.int .i64 c,.slice e d.length f]]) (fn:=Tryz.f161) rfl ?_)
 refine trV a (g09 _ [.int .i64 b,.int .i64 c,.slice e d.length f] (b,c,d) (l0 m n j)) λp a=>?_
 obtain⟨u,k,a⟩:=B0 a
 have q:I0 p:=N0 k
 obtain rfl:=oJ a
 exact aI rfl (Sub.refl _)
theorem c08(h:Hp)(ai:List Value)(ap:j0)(bz:V0.R h ai ap)(aj:List Value)(aq:j0)(bA:V0.R h aj aq)(r:Int)(d:Q5 ap aq=some r):
  Tr Tryz.prog 258 #[.agg ai.toArray,.agg aj.toArray] h λv g=>v = .int .i64 r/\g=h:=by
 obtain⟨n,o,P,cb,Q,q,rfl,rfl,Y,Z,T⟩:=H0 bz
 obtain⟨rfl,b3⟩:=Sl.len T
 obtain⟨H,I,W,cc,X,J,rfl,rfl,al,am,ac⟩:=H0 bA
 obtain⟨rfl,b4⟩:=Sl.len ac
 unfold Q5 at d
 dsimp only at d
 refine Tr.forget (I3 (args:=[.agg #[.int .i64 n,.int .i64 o,.slice P q.length Q],.agg #[.int .i64 H,.int .i64 I,.slice W J.length X]]) (fn:=Tryz.f258) rfl ?_)
 refine trV d (V0c _ [.int .i64 n,.int .i64 o,.slice P q.length Q] (n,o,q) (l0 Y Z T) [.int .i64 H,.int .i64 I,.slice W J.length X] (H,I,J) (l0 al am ac)) λct d=>?_
 refine ifB d (λbe d=>?_) λbe d=>?_
 ·obtain rfl:=oJ d
  exact aI rfl (Sub.refl _)
 ·refine trM d (K09 _ [.int .i64 H,.int .i64 I,.slice W J.length X] (H,I,J) (l0 al am ac)) ?_
  rintro bG d cs b1 ⟨bS,aA,cf,aJ,rfl,ar,ae,L⟩
  obtain⟨cv,ax⟩:=bG
  dsimp only at d ar ae
  obtain⟨A,C,az,ce,aH,D,rfl,rfl,bq,br,au⟩:=H0 ar
  obtain⟨rfl,b6⟩:=Sl.len au
  try dsimp only at d
  obtain⟨rfl,b7⟩:=Sl.len ae
  obtain⟨bM,bb,d⟩:=B0 d
  obtain⟨ay,cx⟩:=bM
  try dsimp only at d
  refine Tr.val (S0c _ [.int .i64 n,.int .i64 o,.slice P q.length Q] (n,o,q) (l0 Y Z (S0.mono L T)) 0 (by decide) aA ax.length aJ ax ae _  bb) ?_
  obtain⟨cn,aY,d⟩:=B0 d
  have bs:I0 ay:=N0 aY
  refine ifB d (λbj d=>?_) λbj d=>?_
  ·obtain rfl:=oJ d
   exact aI rfl L
  ·refine trM d (b07 _ [.int .i64 n,.int .i64 o,.slice P q.length Q] (n,o,q) (l0 Y Z (S0.mono L T)) ay bs) ?_
   rintro bN d cp bu ⟨bU,rfl,av,af⟩
   obtain⟨cy,cz⟩:=bN
   dsimp only at d av
   obtain⟨w,j,aB,cg,aK,E,rfl,rfl,an,bt,aw⟩:=H0 av
   obtain⟨rfl,b8⟩:=Sl.len aw
   try dsimp only at d
   obtain⟨ch,aT,d⟩:=B0 d
   refine aI (N0 aT) ?_
   refine trM d (a01 _ w an) ?_
   rintro V d cq ao ⟨bO,cd,bV,rfl,ad,K⟩
   obtain⟨rfl,b5⟩:=Sl.len ad
   obtain⟨ag,bc,d⟩:=B0 d
   refine eX { vars:=[11],boxes:=[],owns:=[0,1],fuel:=true,kept:=[0] } (eX (λvs os g=>∃ m U M O N,vs.tail = [.int .i64 m]/\os = [U,O]/\Sub ao g/\I0 m/\F2 (Wp.int.R g) U M/\F2 (Wp.int.R g) O N/\Y7 V w j E A C D (J1 vs) m M N=some ag) (eX (λ_ _=>0) (aI (eX U0 ⟨0,(List.replicate j.toNat ([.int .i64 0]:List Value)),(List.replicate j.toNat (0:Int)),([[.int .i64 0]]:List (List Value)),[0],rfl,rfl,(Sub.refl _),(by decide),(F2.up (r:=Wp.int.toRp) K (F2.rep (p:=Wp.int.R bu) (a:=[.int .i64 0]) (b:=0) ⟨rfl,(by decide)⟩ (j.toNat))),(show F2 (Wp.int.R ao) ([[.int .i64 0]]:List (List Value)) [0] from⟨⟨rfl,(by decide)⟩,trivial⟩),bc⟩) ?_)))
   rintro _ U O S bv ⟨m,cA,M,cC,N,⟨⟩,⟨⟩,s,bX,aR,ak,e⟩
   replace e:Y7 V w j E A C D S m M N=some ag:=e
   obtain _|S:=S
   ·cases e
   rw[Y7.eq_2]at e
   obtain⟨bx,aS,e⟩:=B0 e
   obtain rfl:O.length=bx:=(F2.length ak).trans (oJ aS)
   obtain⟨ci,bW,e⟩:=B0 e
   refine ifB e (λbf e=>?_) λbf e=>?_
   ·obtain⟨ah,bd,e⟩:=B0 e
    refine eX { vars:=[12],boxes:=[],owns:=[0,1],fuel:=true,kept:=[0] } (eX (λvs os g=>∃ t x u y i,vs.tail = [.int .i64 t]/\os = [x,y]/\Sub bv g/\I0 t/\F2 (Wp.int.R g) x u/\F2 (Wp.int.R g) y i/\L6 V m w j E A C D (J1 vs) t u i=some ah) (eX (λ_ _=>0) (aI (eX U0 ⟨0,U,M,O,N,rfl,rfl,(Sub.refl _),(by decide),aR,ak,bd⟩) ?_)))
    rintro _ x y G ab ⟨t,cD,u,cE,i,⟨⟩,⟨⟩,l,bY,F,k,c⟩
    replace c:L6 V m w j E A C D G t u i=some ah:=c
    obtain _|G:=G
    ·cases c
    rw[L6.eq_2]at c
    refine ifB c (λbg c=>?_) λbg c=>?_
    ·refine Or.inl (aI (aI (by kernel_rfl) (by kernel_rfl)) ?_)
     obtain⟨bH,aZ,c⟩:=B0 c
     obtain⟨aD,bP,aM,bB⟩:=V1 k aZ
     refine aI aD ?_
     obtain⟨rfl,bl⟩:=bB
     refine eX _ (aI aM ?_)
     refine ldI c (K1.mono (s.trans l) ad) λbI bm c=>?_
     obtain⟨f,a0,c⟩:=B0 c
     refine eX (.int .i64 f) (aI (Y3 _ [.int .i64 w,.int .i64 j,.slice aB E.length aK] (w,j,E) (l0 an bt (S0.mono ((K.trans s).trans l) aw)) bH bl bI bm _  a0) ?_)
     obtain⟨cj,aU,c⟩:=B0 c
     have aa:I0 f:=N0 aU
     refine Or.inl (aI (aI (by kernel_rfl) (by kernel_rfl)) ?_)
     obtain⟨cu,a1,c⟩:=B0 c
     obtain⟨aE,bQ,aN,bC⟩:=V1 k a1
     refine aI aE ?_
     obtain⟨rfl,bZ⟩:=bC
     refine eX _ (aI aN ?_)
     obtain⟨bJ,a2,c⟩:=B0 c
     obtain⟨aF,bR,aO,bD⟩:=V1 F a2
     refine aI aF ?_
     obtain⟨rfl,bn⟩:=bD
     refine eX _ (aI aO ?_)
     refine ldI c (K1.mono (s.trans l) ad) λbK bo c=>?_
     obtain⟨z,a3,c⟩:=B0 c
     refine eX (.int .i64 z) (aI (Y3 _ [.int .i64 A,.int .i64 C,.slice az D.length aH] (A,C,D) (l0 bq br (S0.mono (((af.trans K).trans s).trans l) au)) bJ bn bK bo _  a3) ?_)
     obtain⟨ck,aV,c⟩:=B0 c
     have bp:I0 z:=N0 aV
     refine ifB c (λbh c=>?_) λbh c=>?_
     ·obtain rfl:=oJ c
      try dsimp only[l4,C4]at e
      obtain rfl:=oJ e
      try dsimp only[l4,C4]at d
      obtain rfl:=oJ d
      exact aI rfl ((((L.trans af).trans K).trans s).trans l)
     ·obtain⟨bL,a4,c⟩:=B0 c
      refine eX (.bool bL) (aI ?_ ?_)
      ·intro bk
       intro cr b2 aQ
       obtain⟨aC,aL,rfl,bF,co,ca⟩:=G1.out (r:=Wp.int.toRp) aQ k
       exact i01 _ aC i.length aL i bF f aa _ (a9 a4 bk)
      refine ifB c (λbi c=>?_) λbi c=>?_
      ·obtain⟨cl,aW,c⟩:=B0 c
       refine aI (Y1 aW (by first|rw[F2.length k,F2.length (show F2 (Wp.int.R ab) ([[.int .i64 f]]:List (List Value)) [f] from⟨⟨rfl,aa⟩,trivial⟩)]|exact congrArg (·+1) (F2.length k))) ?_
       obtain⟨cw,ba,c⟩:=B0 c
       obtain⟨aG,bT,aP,bE⟩:=V1 F ba
       refine aI aG ?_
       obtain⟨rfl,b0⟩:=bE
       refine eX _ (aI aP ?_)
       exact O2 G ⟨(IntKind.i64.wrap (t+1)),(x.set f.toNat [.int .i64 z]),(u.set f.toNat z),(y++([[.int .i64 f]]:List (List Value))),(i ++ [f]),rfl,rfl,l,(J0 _),(F2.set (p:=Wp.int.R ab) (a:=[.int .i64 z]) (b:=z) ⟨rfl,bp⟩ f.toNat F),(F2.append k (show F2 (Wp.int.R ab) ([[.int .i64 f]]:List (List Value)) [f] from⟨⟨rfl,aa⟩,trivial⟩)),c⟩
      ·exact O2 G ⟨(IntKind.i64.wrap (t+1)),x,u,y,i,rfl,rfl,l,(J0 _),F,k,c⟩
    ·obtain rfl:=oJ c
     try dsimp only[W0,Y0]at e
     exact O2 S ⟨(IntKind.i64.wrap (m+1)),x,u,y,i,rfl,rfl,(s.trans l),(J0 _),F,k,e⟩
   ·obtain rfl:=oJ e
    try dsimp only[W0,Y0]at d
    obtain⟨cm,aX,d⟩:=B0 d
    refine aI (N0 aX) ?_
    obtain rfl:=oJ d
    exact aI rfl (((L.trans af).trans K).trans s)
theorem Y04(h:Hp)(q:List Value)(A:j0)(M:V0.R h q A)(s:List Value)(C:j0)(N:V0.R h s C)(r:Int×Int)(a:B6 A C=some r):
  Tr Tryz.prog 159 #[.agg q.toArray,.agg s.toArray] h λv K=>v = .tuple #[.int .i64 r.1,.int .i64 r.2]/\K=h:=by
 obtain⟨c,d,m,Z,o,e,rfl,rfl,t,u,j⟩:=H0 M
 obtain⟨rfl,W⟩:=Sl.len j
 obtain⟨f,g,n,aa,p,i,rfl,rfl,w,x,k⟩:=H0 N
 obtain⟨rfl,X⟩:=Sl.len k
 unfold B6 at a
 dsimp only at a
 refine Tr.forget (I3 (args:=[.agg #[.int .i64 c,.int .i64 d,.slice m e.length o],.agg #[.int .i64 f,.int .i64 g,.slice n i.length p]]) (fn:=Tryz.f159) rfl ?_)
 refine trM a (k03 _ [.int .i64 c,.int .i64 d,.slice m e.length o] (c,d,e) (l0 t u j) [.int .i64 f,.int .i64 g,.slice n i.length p] (f,g,i) (l0 w x k)) ?_
 rintro O a ae V ⟨Q,rfl,D,b⟩
 obtain⟨af,aj⟩:=O
 dsimp only at a D
 obtain⟨ag,ah,P,ab,S,ai,rfl,rfl,y,z,l⟩:=H0 D
 obtain⟨rfl,Y⟩:=Sl.len l
 try dsimp only at a
 refine ifB a (λL a=>?_) λL a=>?_
 ·obtain rfl:=oJ a
  exact aI rfl b
 ·refine Or.inl (aI (aI (by kernel_rfl) (by kernel_rfl)) ?_)
  obtain⟨E,I,a⟩:=B0 a
  refine eX (.int .i64 E) (aI (c08 _ _ _ (l0 y z l) _ _ (l0 t u (S0.mono b j)) _  I) ?_)
  obtain⟨ac,G,a⟩:=B0 a
  have T:I0 E:=N0 G
  obtain⟨F,J,a⟩:=B0 a
  refine eX (.int .i64 F) (aI (c08 _ _ _ (l0 y z l) _ _ (l0 w x (S0.mono b k)) _  J) ?_)
  obtain⟨ad,H,a⟩:=B0 a
  have U:I0 F:=N0 H
  obtain rfl:=oJ a
  exact aI rfl b
theorem W0c(h:Hp)(z:List Value)(C:j0)(aR:V0.R h z C)(A:List Value)(D:j0)(aS:V0.R h A D)(r:ByteArray)(a:v02 C D=some r):
  Tr Tryz.prog 68 #[.agg z.toArray,.agg A.toArray] h λv az=>v = .string r/\az=h:=by
 obtain⟨c,d,p,bc,s,e,rfl,rfl,l,m,j⟩:=H0 aR
 obtain⟨rfl,a4⟩:=Sl.len j
 obtain⟨f,g,q,bd,t,i,rfl,rfl,n,o,k⟩:=H0 aS
 obtain⟨rfl,ba⟩:=Sl.len k
 unfold v02 at a
 dsimp only at a
 refine Tr.forget (I3 (args:=[.agg #[.int .i64 c,.int .i64 d,.slice p e.length s],.agg #[.int .i64 f,.int .i64 g,.slice q i.length t]]) (fn:=Tryz.f68) rfl ?_)
 refine trM a (k03 _ [.int .i64 c,.int .i64 d,.slice p e.length s] (c,d,e) (l0 l m j) [.int .i64 f,.int .i64 g,.slice q i.length t] (f,g,i) (l0 n o k)) ?_
 rintro aT a bB a3 ⟨aV,rfl,E,b⟩
 obtain⟨bC,bD⟩:=aT
 dsimp only at a E
 obtain⟨J,K,Q,be,S,L,rfl,rfl,aB,aC,F⟩:=H0 E
 obtain⟨rfl,bb⟩:=Sl.len F
 try dsimp only at a
 refine ifB a (λaA a=>?_) λaA a=>?_
 ·obtain rfl:=oJ a
  exact aI rfl b
 ·obtain⟨aU,ax,a⟩:=B0 a
  obtain⟨O,P⟩:=aU
  try dsimp only at a
  refine Tr.val (Y04 _ _ _ (l0 l m (S0.mono b j)) _ _ (l0 n o (S0.mono b k)) _  ax) ?_
  obtain⟨bx,ak,a⟩:=B0 a
  have aE:I0 O:=N0 ak
  obtain⟨bz,al,a⟩:=B0 a
  have aF:I0 P:=N0 al
  refine Or.inl (aI (aI (by kernel_rfl) (by kernel_rfl)) ?_)
  obtain⟨y,ay,a⟩:=B0 a
  refine eX (.int .i64 y) (aI (g09 _ [.int .i64 J,.int .i64 K,.slice Q L.length S] (J,K,L) (l0 aB aC F) _  ay) ?_)
  obtain⟨bA,am,a⟩:=B0 a
  have aG:I0 y:=N0 am
  obtain⟨G,an,a⟩:=B0 a
  refine eX (.string G) (aI (X00 _ y aG _  an) ?_)
  obtain⟨bf,T,a⟩:=B0 a
  have aW:G.size<=9223372036854775807:=N0 T
  obtain⟨bg,U,a⟩:=B0 a
  have aH:=N0 U
  refine aI aH ?_
  obtain⟨bh,V,a⟩:=B0 a
  have aJ:=N0 V
  refine aI aJ ?_
  obtain⟨H,ao,a⟩:=B0 a
  refine eX (.string H) (aI (X00 _ O aE _  ao) ?_)
  obtain⟨bi,W,a⟩:=B0 a
  have aX:H.size<=9223372036854775807:=N0 W
  obtain⟨bj,X,a⟩:=B0 a
  have aK:=N0 X
  refine aI aK ?_
  obtain⟨bk,Y,a⟩:=B0 a
  have aL:=N0 Y
  refine aI aL ?_
  obtain⟨I,ap,a⟩:=B0 a
  refine eX (.string I) (aI (X00 _ P aF _  ap) ?_)
  obtain⟨bl,Z,a⟩:=B0 a
  have aY:I.size<=9223372036854775807:=N0 Z
  obtain⟨bm,aa,a⟩:=B0 a
  have aM:=N0 aa
  refine aI aM ?_
  obtain⟨bn,ab,a⟩:=B0 a
  have aN:=N0 ab
  refine aI aN ?_
  obtain⟨u,aq,a⟩:=B0 a
  refine eX (.int .i64 u) (aI (b0b _ [.int .i64 c,.int .i64 d,.slice p e.length s] (c,d,e) (l0 l m (S0.mono b j)) [.int .i64 f,.int .i64 g,.slice q i.length t] (f,g,i) (l0 n o (S0.mono b k)) _  aq) ?_)
  obtain⟨bo,ac,a⟩:=B0 a
  have aD:I0 u:=N0 ac
  obtain⟨M,ar,a⟩:=B0 a
  refine eX (.string M) (aI (X00 _ u aD _  ar) ?_)
  obtain⟨bp,ad,a⟩:=B0 a
  have aZ:M.size<=9223372036854775807:=N0 ad
  obtain⟨bq,ae,a⟩:=B0 a
  have aO:=N0 ae
  refine aI aO ?_
  obtain⟨br,af,a⟩:=B0 a
  have aP:=N0 af
  refine aI aP ?_
  obtain⟨w,au,a⟩:=B0 a
  refine eX (.int .i64 w) (aI (X04 _ _ _ (l0 l m (S0.mono b j)) _  au) ?_)
  obtain⟨bs,ag,a⟩:=B0 a
  have a0:I0 w:=N0 ag
  obtain⟨x,av,a⟩:=B0 a
  refine eX (.int .i64 x) (aI (X04 _ _ _ (l0 n o (S0.mono b k)) _  av) ?_)
  obtain⟨bt,ah,a⟩:=B0 a
  have a1:I0 x:=N0 ah
  obtain⟨N,aw,a⟩:=B0 a
  refine eX (.string N) (aI (X00 _ (IntKind.i64.wrap (w*x)) (J0 _) _  aw) ?_)
  obtain⟨bu,ai,a⟩:=B0 a
  have a2:N.size<=9223372036854775807:=N0 ai
  obtain⟨bv,aj,a⟩:=B0 a
  have aQ:=N0 aj
  refine aI aQ ?_
  obtain rfl:=oJ a
  exact aI rfl b
theorem d08(h:Hp)(b:Int)(g:I0 b)(c:Int)(k:I0 c)(d:Int)(i:I0 d)(r:M0)(a:y00 b c d=some r):
  Tr Tryz.prog 203 #[.int .i64 b,.int .i64 c,.int .i64 d] h λv f=>∃(e:List Value),v = .agg e.toArray/\H1.R f e r/\Sub h f:=by
 unfold y00 at a
 refine I3 (args:=[.int .i64 b,.int .i64 c,.int .i64 d]) (fn:=Tryz.f203) rfl ?_
 refine ifB a (λj a=>?_) λj a=>?_
 ·obtain rfl:=oJ a
  exact⟨([.int .i64 d,.int .i64 (IntKind.i64.wrap (0-c)),.int .i64 b]),rfl,(T1 i (J0 _) g),(Sub.refl _)⟩
 ·obtain rfl:=oJ a
  exact⟨([.int .i64 b,.int .i64 c,.int .i64 d]),rfl,(T1 g k i),(Sub.refl _)⟩
theorem h02(h:Hp)(k:Option Addr)(p l:Nat)(d:O0)(s:S0.R h [.slice k p l] d)(o:List Value)(q:M0)(x:H1.R h o q)(r:Int)(b:V4 d q=some r):
  Tr Tryz.prog 202 #[.slice k p l,.agg o.toArray] h λv m=>v = .int .i64 r/\m=h:=by
 obtain⟨rfl,M⟩:=Sl.len s
 obtain⟨f,g,i,rfl,rfl,E,F,G⟩:=Q1 x
 unfold V4 at b
 dsimp only at b
 refine Tr.forget (I3 (args:=[.slice k d.length l,.agg #[.int .i64 f,.int .i64 g,.int .i64 i]]) (fn:=Tryz.f202) rfl ?_)
 obtain⟨n,t,b⟩:=B0 b
 refine eX { vars:=[8],boxes:=[],owns:=[],fuel:=true } (eX (λvs os m=>∃ c,vs.tail = [.int .i64 c]/\os = []/\Sub h m/\I0 c/\Z1 d f g i (J1 vs) c=some n) (eX (λ_ _=>0) (aI (eX U0 ⟨0,rfl,rfl,(Sub.refl _),(by decide),t⟩) ?_)))
 rintro _ e L ⟨c,⟨⟩,⟨⟩,j,H,a⟩
 replace a:Z1 d f g i e c=some n:=a
 obtain _|e:=e
 ·cases a
 rw[Z1.eq_2]at a
 refine ifB a (λu a=>?_) λu a=>?_
 ·refine Or.inl (aI (aI (by kernel_rfl) (by kernel_rfl)) ?_)
  refine ld a (S0.mono j s) λN D y a=>?_
  obtain⟨z,A,C,rfl,rfl,I,J,K⟩:=Q1 y
  try dsimp only at a
  refine eX (eqE (f,g,i) (z,A,C)) (aI (I0n _ _ _ rfl _ _ _ _ _ _) ?_)
  refine ifB a (λw a=>?_) λw a=>?_
  ·obtain rfl:=oJ a
   try dsimp only[l4,C4]at b
   obtain rfl:=oJ b
   exact aI rfl j
  ·exact O2 e ⟨(IntKind.i64.wrap (c+1)),rfl,rfl,j,(J0 _),a⟩
 ·obtain rfl:=oJ a
  try dsimp only[W0,Y0]at b
  obtain rfl:=oJ b
  exact aI rfl j
theorem E01(h:Hp)(b:Option Addr)(f c:Nat)(d:O0)(i:S0.R h [.slice b f c] d)(e:List Value)(g:M0)(s:H1.R h e g)(r:Bool)(a:M3 d g=some r):
  Tr Tryz.prog 285 #[.slice b f c,.agg e.toArray] h λv k=>v = .bool r/\k=h:=by
 obtain⟨rfl,w⟩:=Sl.len i
 obtain⟨o,p,q,rfl,rfl,l,m,n⟩:=Q1 s
 unfold M3 at a
 dsimp only at a
 refine Tr.forget (I3 (args:=[.slice b d.length c,.agg #[.int .i64 o,.int .i64 p,.int .i64 q]]) (fn:=Tryz.f285) rfl ?_)
 refine trV a (h02 _ _ _ _ _ i _ _ (T1 l m n)) λt a=>?_
 obtain⟨x,j,a⟩:=B0 a
 have u:I0 t:=N0 j
 obtain rfl:=oJ a
 exact aI rfl (Sub.refl _)
theorem e03(h:Hp)(c:Int)(l:I0 c)(e:Nat)(k:TypeId)(d:Int)(m:I0 d)(b:Int)(n:I0 b)(f:h e=some (.cells #[.int .i64 d,.int .i64 b] k (0,0)))(r:Int)(a:H6 c (d,b)=some r):
  Tr Tryz.prog 366 #[.int .i64 c,ptr e 0] h λv g=>v = .int .i64 r/\g=h:=by
 unfold H6 at a
 dsimp only at a
 refine Tr.forget (I3 (args:=[.int .i64 c,ptr e 0]) (fn:=Tryz.f366) rfl ?_)
 refine eX (.int .i64 b) (aI ⟨rfl,by simp[Hp.cell,(f)]⟩ ?_)
 refine ifB a (λi a=>?_) λi a=>?_
 ·refine eX (.int .i64 d) (aI ⟨rfl,by simp[Hp.cell,(f)]⟩ ?_)
  obtain rfl:=oJ a
  exact aI rfl (Sub.refl _)
 ·refine eX (.int .i64 b) (aI ⟨rfl,by simp[Hp.cell,(f)]⟩ ?_)
  refine ifB a (λj a=>?_) λj a=>?_
  ·obtain rfl:=oJ a
   exact aI rfl (Sub.refl _)
  ·obtain rfl:=oJ a
   exact aI rfl (Sub.refl _)
theorem J0i(h:Hp)(I:List Value)(L:j0)(ao:V0.R h I L)(r:b9)(u:U02 L=some r):
  Tr Tryz.prog 365 #[.agg I.toArray] h λv o=>∃(G:Option Addr) (K H:Nat),v = .slice G K H/\b0i.R o [.slice G K H] r/\Sub h o:=by
 obtain⟨al,am,P,aM,S,C,rfl,rfl,aB,aC,D⟩:=H0 ao
 obtain⟨rfl,aJ⟩:=Sl.len D
 unfold U02 at u
 dsimp only at u
 refine I3 (args:=[.agg #[.int .i64 al,.int .i64 am,.slice P C.length S]]) (fn:=Tryz.f365) rfl ?_
 obtain⟨E,ab,u⟩:=B0 u
 refine eX { vars:=[12],boxes:=[],owns:=[0],fuel:=true } (eX (λvs os o=>∃ w A x,vs.tail = [.int .i64 w]/\os = [A]/\Sub h o/\I0 w/\F2 (J3.R o) A x/\l9 C (J1 vs) w x=some E) (eX (λ_ _=>0) (aI (eX U0 ⟨0,[],([]:b9),rfl,rfl,(Sub.refl _),(by decide),(show F2 (J3.R h) ([]:List (List Value)) ([]:b9) from trivial),ab⟩) ?_)))
 rintro _ A y ak ⟨w,aV,x,⟨⟩,⟨⟩,z,aE,J,f⟩
 replace f:l9 C y w x=some E:=f
 obtain _|y:=y
 ·cases f
 rw[l9.eq_2]at f
 refine ifB f (λai f=>?_) λai f=>?_
 ·refine ld f (S0.mono z D) λaT az aq f=>?_
  obtain⟨c,N,a,rfl,rfl,q,aG,j⟩:=Q1 aq
  try dsimp only at f
  obtain⟨O,aa,f⟩:=B0 f
  obtain⟨an,av,U,W⟩:=Sl.cutI (r:=H1.toRp) (S0.mono z D) aa
  refine aI an (eX av (aI U ?_))
  intro aw aj _
  obtain⟨ax,aA,rfl,M⟩:=W aw aj
  have aK:=(Sl.len M).2
  obtain⟨F,ac,f⟩:=B0 f
  refine eX { vars:=[23],boxes:=[],owns:=[0],fuel:=true } (eX (λvs os o=>∃ k n l,vs.tail = [.int .i64 k]/\os = [n]/\Sub ak o/\I0 k/\F2 (J3.R o) n l/\w5 O N c a (J1 vs) k l=some F) (eX (λ_ _=>0) (aI (eX U0 ⟨0,A,x,rfl,rfl,(Sub.refl _),(by decide),J,ac⟩) ?_)))
  rintro _ n s m ⟨k,aU,l,⟨⟩,⟨⟩,t,aD,g,e⟩
  replace e:w5 O N c a s k l=some F:=e
  obtain _|s:=s
  ·cases e
  rw[w5.eq_2]at e
  refine ifB e (λad e=>?_) λad e=>?_
  ·refine ld e (S0.mono t M) λaR ay ap e=>?_
   obtain⟨d,aS,b,rfl,rfl,p,aF,i⟩:=Q1 ap
   try dsimp only at e
   refine ifB e (λae e=>?_) λae e=>?_
   ·exact O2 s ⟨(IntKind.i64.wrap (k+1)),n,l,rfl,rfl,t,(J0 _),g,e⟩
   ·refine ifB e (λaf e=>?_) λaf e=>?_
    ·obtain⟨aN,X,e⟩:=B0 e
     refine aI (Y1 X (by first|rw[F2.length g,F2.length (show F2 (J3.R m) ([[.int .i64 (if b<a then b else a),.int .i64 (if b>a then b else a)]]:List (List Value)) [((if b<a then b else a),(if b>a then b else a))] from⟨(C2 (G8 i j) (G8 i j)),trivial⟩)]|exact congrArg (·+1) (F2.length g))) ?_
     refine ifB e (λag e=>?_) λag e=>?_
     ·obtain⟨aO,Y,e⟩:=B0 e
      refine aI (Y1 Y (by first|rw[F2.length (F2.append g (show F2 (J3.R m) ([[.int .i64 (if b<a then b else a),.int .i64 (if b>a then b else a)]]:List (List Value)) [((if b<a then b else a),(if b>a then b else a))] from⟨(C2 (G8 i j) (G8 i j)),trivial⟩)),F2.length (show F2 (J3.R m) ([[.int .i64 (if d<c then d else c),.int .i64 (if d>c then d else c)]]:List (List Value)) [((if d<c then d else c),(if d>c then d else c))] from⟨(C2 (G8 p q) (G8 p q)),trivial⟩)]|exact congrArg (·+1) (F2.length (F2.append g (show F2 (J3.R m) ([[.int .i64 (if b<a then b else a),.int .i64 (if b>a then b else a)]]:List (List Value)) [((if b<a then b else a),(if b>a then b else a))] from⟨(C2 (G8 i j) (G8 i j)),trivial⟩))))) ?_
      exact O2 s ⟨(IntKind.i64.wrap (k+1)),((n++([[.int .i64 (if b<a then b else a),.int .i64 (if b>a then b else a)]]:List (List Value)))++([[.int .i64 (if d<c then d else c),.int .i64 (if d>c then d else c)]]:List (List Value))),((l ++ [((if b<a then b else a),(if b>a then b else a))]) ++ [((if d<c then d else c),(if d>c then d else c))]),rfl,rfl,t,(J0 _),(F2.append (F2.append g (show F2 (J3.R m) ([[.int .i64 (if b<a then b else a),.int .i64 (if b>a then b else a)]]:List (List Value)) [((if b<a then b else a),(if b>a then b else a))] from⟨(C2 (G8 i j) (G8 i j)),trivial⟩)) (show F2 (J3.R m) ([[.int .i64 (if d<c then d else c),.int .i64 (if d>c then d else c)]]:List (List Value)) [((if d<c then d else c),(if d>c then d else c))] from⟨(C2 (G8 p q) (G8 p q)),trivial⟩)),e⟩
     ·exact O2 s ⟨(IntKind.i64.wrap (k+1)),(n++([[.int .i64 (if b<a then b else a),.int .i64 (if b>a then b else a)]]:List (List Value))),(l ++ [((if b<a then b else a),(if b>a then b else a))]),rfl,rfl,t,(J0 _),(F2.append g (show F2 (J3.R m) ([[.int .i64 (if b<a then b else a),.int .i64 (if b>a then b else a)]]:List (List Value)) [((if b<a then b else a),(if b>a then b else a))] from⟨(C2 (G8 i j) (G8 i j)),trivial⟩)),e⟩
    ·refine ifB e (λah e=>?_) λah e=>?_
     ·obtain⟨aP,Z,e⟩:=B0 e
      refine aI (Y1 Z (by first|rw[F2.length g,F2.length (show F2 (J3.R m) ([[.int .i64 (if d<c then d else c),.int .i64 (if d>c then d else c)]]:List (List Value)) [((if d<c then d else c),(if d>c then d else c))] from⟨(C2 (G8 p q) (G8 p q)),trivial⟩)]|exact congrArg (·+1) (F2.length g))) ?_
      exact O2 s ⟨(IntKind.i64.wrap (k+1)),(n++([[.int .i64 (if d<c then d else c),.int .i64 (if d>c then d else c)]]:List (List Value))),(l ++ [((if d<c then d else c),(if d>c then d else c))]),rfl,rfl,t,(J0 _),(F2.append g (show F2 (J3.R m) ([[.int .i64 (if d<c then d else c),.int .i64 (if d>c then d else c)]]:List (List Value)) [((if d<c then d else c),(if d>c then d else c))] from⟨(C2 (G8 p q) (G8 p q)),trivial⟩)),e⟩
     ·exact O2 s ⟨(IntKind.i64.wrap (k+1)),n,l,rfl,rfl,t,(J0 _),g,e⟩
  ·obtain rfl:=oJ e
   try dsimp only[W0,Y0]at f
   exact O2 y ⟨(IntKind.i64.wrap (w+1)),n,l,rfl,rfl,(z.trans t),(J0 _),g,f⟩
 ·obtain rfl:=oJ f
  try dsimp only[W0,Y0]at u
  intro aQ aH V
  obtain⟨Q,T,rfl,ar,au,aL⟩:=G1.out (r:=J3.toRp) V J
  obtain rfl:=oJ u
  exact⟨Q,x.length,T,rfl,ar,(z.trans au)⟩
theorem p0c(h:Hp)(d:List Value)(i:j0)(w:V0.R h d i)(r:H4×Bool)(a:V9 i=some r):
  Tr Tryz.prog 346 #[.agg d.toArray] h λv e=>∃(c:List Value),v = .tuple #[.agg c.toArray,.bool r.2]/\J3.R e c r.1/\Sub h e:=by
 obtain⟨s,t,l,H,m,u,rfl,rfl,f,g,b⟩:=H0 w
 obtain⟨rfl,F⟩:=Sl.len b
 unfold V9 at a
 dsimp only at a
 refine I3 (args:=[.agg #[.int .i64 s,.int .i64 t,.slice l u.length m]]) (fn:=Tryz.f346) rfl ?_
 refine trV a (c03 _ _ _ (l0 f g b)) λK a=>?_
 refine ifB a (λn a=>?_) λn a=>?_
 ·obtain rfl:=oJ a
  exact⟨([.int .i64 0,.int .i64 0]),rfl,(C2 (by decide) (by decide)),(Sub.refl _)⟩
 ·refine trM a (J0i _ _ _ (l0 f g b)) ?_
  rintro L a J E ⟨A,I,D,rfl,j,k⟩
  obtain⟨rfl,G⟩:=Sl.len j
  refine ifB a (λo a=>?_) λo a=>?_
  ·obtain rfl:=oJ a
   exact⟨([.int .i64 0,.int .i64 0]),rfl,(C2 (by decide) (by decide)),k⟩
  ·refine ld a j λM C x a=>?_
   obtain⟨y,z,rfl,rfl,p,q⟩:=c00 x
   try dsimp only at a
   obtain rfl:=oJ a
   exact⟨([.int .i64 y,.int .i64 z]),rfl,(C2 p q),k⟩
theorem e08(h:Hp)(D:List Value)(M:j0)(aA:V0.R h D M)(E:List Value)(N:H4)(aB:J3.R h E N)(r:j0×Bool)(b:Q7 M N=some r):
  Tr Tryz.prog 347 #[.agg D.toArray,.agg E.toArray] h λv i=>∃(C:List Value),v = .tuple #[.agg C.toArray,.bool r.2]/\New V0 h i C r.1:=by
 obtain⟨ax,ay,U,aZ,X,az,rfl,rfl,G,H,u⟩:=H0 aA
 obtain⟨rfl,aW⟩:=Sl.len u
 obtain⟨d,f,rfl,rfl,I,J⟩:=c00 aB
 unfold Q7 at b
 dsimp only at b
 refine I3 (args:=[.agg #[.int .i64 ax,.int .i64 ay,.slice U az.length X],.agg #[.int .i64 d,.int .i64 f]]) (fn:=Tryz.f347) rfl ?_
 refine trM b (T8 _ _ _ (l0 G H u)) ?_
 rintro aK b bc L ⟨p,a0,F,rfl,o⟩
 have P:Sub h L:=o.sub
 have O:=o.r
 obtain⟨S,T,l⟩:=aK
 dsimp only at b o O
 obtain⟨_,_,_,_,_,_,Z,aa,K,ao,aD⟩:=H0 O
 cases Z
 cases aa
 obtain⟨rfl,aX⟩:=Sl.len aD
 try dsimp only at b
 have x:=New.sndI (New.sndI (o))
 refine trV b (c03 _ _ _ (l0 G H (S0.mono P u))) λbl b=>?_
 refine ifB b (λai b=>?_) λai b=>?_
 ·obtain rfl:=oJ b
  exact⟨([.int .i64 S,.int .i64 T,.slice (some ⟨p,0,none⟩) l.length F]),rfl,(New.pair (New.int K) (New.pair (New.int ao) x))⟩
 ·intro c s
  have ab:(Hp.set L c (.cells #[.int .i64 d,.int .i64 f] 246 (0,0))) c=some (.cells #[.int .i64 d,.int .i64 f] 246 (0,0)):=Hp.set_same _ _ _
  have aw:c≠p:=λe=>New.blk x (Sub.refl _) (e▸s)
  obtain⟨A,ag,b⟩:=B0 b
  refine eX { vars:=[39],boxes:=[],owns:=[],fuel:=true } (eX (λvs os i=>∃ g j,vs.tail = [.int .i64 g]/\os = []/\Sub h i/\I0 g/\New S0 h i [.slice (some ⟨p,0,none⟩) l.length F] j/\i c=some (.cells #[.int .i64 d,.int .i64 f] 246 (0,0))/\Q4 l d f (J1 vs) g j=some A) (eX (λ_ _=>0) (aI (eX U0 ⟨0,l,rfl,rfl,(P.trans (Sub.set s)),(by decide),(New.mono x (Sub.set s)),ab,ag⟩) ?_)))
  rintro _ n aq ⟨g,j,⟨⟩,⟨⟩,aJ,aP,Q,t,a⟩
  replace a:Q4 l d f n g j=some A:=a
  obtain _|n:=n
  ·cases a
  rw[Q4.eq_2]at a
  have w:=Q.r
  refine ifB a (λah a=>?_) λah a=>?_
  ·refine ld a w λbe aM aC a=>?_
   obtain⟨bf,z,bg,rfl,rfl,ak,al,am⟩:=Q1 aC
   try dsimp only at a
   refine Or.inr (Or.inr (Or.inl (aI (aI (by kernel_rfl) (by kernel_rfl)) ?_)))
   obtain⟨k,ae,a⟩:=B0 a
   obtain⟨a2,ac,a⟩:=B0 a
   have an:I0 k:=N0 ac
   refine Or.inl (eX (.val (.int .i64 k)) (aI ?_ ?_))
   ·intro aT aG
    exact Tr.val (e03 _ _ ak c 246 _ I _ J (aG _ _ t) _ ae) (aI rfl (aI rfl rfl))
   obtain⟨m,af,a⟩:=B0 a
   obtain⟨a3,ad,a⟩:=B0 a
   have ap:I0 m:=N0 ad
   refine Or.inl (eX (.val (.int .i64 m)) (aI ?_ ?_))
   ·intro aU aH
    exact Tr.val (e03 _ _ am c 246 _ I _ J (aH _ _ t) _ af) (aI rfl (aI rfl rfl))
   refine Or.inl (eX (.agg [.val (.int .i64 k),.val (.int .i64 z),.val (.int .i64 m)]) (aI ?_ ?_))
   ·intro aV ba
    exact aI rfl (aI rfl rfl)
   refine Or.inr ?_
   refine Or.inr ?_
   refine Or.inl (eX 0 (aI (aI rfl rfl) ?_))
   obtain⟨bh,q,a⟩:=B0 a
   obtain⟨W,aN,aO,aE⟩:=Sl.getI (r:=H1.toRp) w q (by decide)
   refine aI W ?_
   obtain⟨bi,bj,bk,rfl,rfl,aQ,aR,aS⟩:=Q1 aE
   try dsimp only at a
   refine aI trivial (aI (by first|exact trivial|exact rfl) ?_)
   refine New.put (r:=H1) Q (Sub.refl _) (F0s q).1 (new:=[.int .i64 k,.int .i64 z,.int .i64 m]) (By:=[]) (m0c _ _ _ (T1 an al ap)) (K7.nil _) rfl (F0s q).2 ?_
   intro ar w28 av _
   have a4:=w28.r
   have aj:ar c=some (.cells #[.int .i64 d,.int .i64 f] 246 (0,0)):=(av c aw).trans t
   refine aI trivial (aI (by first|exact trivial|exact rfl) ?_)
   exact O2 n ⟨(IntKind.i64.wrap (g+1)),(j.set g.toNat (k,z,m)),rfl,rfl,w28.sub,(J0 _),w28,(aj),a⟩
  ·obtain rfl:=oJ a
   try dsimp only[W0,Y0]at b
   refine trM b (y03 _ _ _ _ _ w) ?_
   rintro aL b bd au ⟨V,a1,Y,rfl,y⟩
   have bb:Sub aq au:=y.sub
   have aF:=y.r
   obtain⟨rfl,aY⟩:=Sl.len aF
   obtain rfl:=oJ b
   exact⟨([.int .i64 S,.int .i64 (IntKind.i64.wrap (T-1)),.slice V aL.length Y]),rfl,(New.pair (New.int K) (New.pair (New.int (J0 _)) (New.from y aJ)))⟩
theorem X0c(h:Hp)(k:List Value)(p:j0)(N:V0.R h k p)(r:j0×H4×Bool)(a:p01 p=some r):
  Tr Tryz.prog 331 #[.agg k.toArray] h λv l=>∃(i:List Value) (j:List Value),v = .tuple #[.agg i.toArray,.agg j.toArray,.bool r.2.2]/\New V0 h l i r.1/\J3.R l j r.2.1:=by
 obtain⟨K,L,t,ak,w,M,rfl,rfl,f,g,b⟩:=H0 N
 obtain⟨rfl,ah⟩:=Sl.len b
 unfold p01 at a
 dsimp only at a
 refine I3 (args:=[.agg #[.int .i64 K,.int .i64 L,.slice t M.length w]]) (fn:=Tryz.f331) rfl ?_
 refine trM a (p0c _ _ _ (l0 f g b)) ?_
 rintro U a aq o ⟨af,rfl,q,c⟩
 obtain⟨au,av⟩:=U
 dsimp only at a q
 obtain⟨V,W,rfl,rfl,m,n⟩:=c00 q
 try dsimp only at a
 refine ifB a (λD a=>?_) λD a=>?_
 ·refine trM a (T8 _ _ _ (l0 f g (S0.mono c b))) ?_
  rintro X a ar J ⟨C,al,x,rfl,d⟩
  have an:Sub o J:=d.sub
  have s:=d.r
  obtain⟨Y,Z,aa⟩:=X
  dsimp only at a d s
  obtain⟨_,_,_,_,_,_,z,A,E,F,O⟩:=H0 s
  cases z
  cases A
  obtain⟨rfl,ai⟩:=Sl.len O
  try dsimp only at a
  have T:=New.sndI (New.sndI (d))
  obtain rfl:=oJ a
  exact⟨([.int .i64 Y,.int .i64 Z,.slice (some ⟨C,0,none⟩) aa.length x]),([.int .i64 0,.int .i64 0]),rfl,(New.pair (New.int E) (New.pair (New.int F) (New.from T c))),(C2 (by decide) (by decide))⟩
 ·refine trM a (e08 _ _ _ (l0 f g (S0.mono c b)) _ _ (C2 m n)) ?_
  rintro ab a ap I ⟨ag,rfl,e⟩
  obtain⟨aw,ax⟩:=ab
  dsimp only at a e
  have ao:Sub o I:=e.sub
  have P:=e.r
  obtain⟨ac,ad,u,am,y,ae,rfl,rfl,G,H,Q⟩:=H0 P
  obtain⟨rfl,aj⟩:=Sl.len Q
  try dsimp only at a
  have S:=New.sndI (New.sndI (e))
  refine Or.inr (Or.inr (Or.inl (aI (aI (by kernel_rfl) (by kernel_rfl)) ?_)))
  refine Or.inr ?_
  refine Or.inr ?_
  refine Or.inl (eX 0 (aI (aI rfl rfl) ?_))
  refine aI trivial (aI (by first|exact trivial|exact rfl) ?_)
  refine aI trivial (aI (by first|exact trivial|exact rfl) ?_)
  obtain rfl:=oJ a
  exact⟨([.int .i64 ac,.int .i64 ad,.slice u ae.length y]),([.int .i64 V,.int .i64 W]),rfl,(New.pair (New.int G) (New.pair (New.int H) (New.from S c))),(C2 m n)⟩
theorem M0f(h:Hp)(A:List Value)(H:j0)(ap:V0.R h A H)(r:j0×b9)(b:R01 H=some r):
  Tr Tryz.prog 283 #[.agg A.toArray] h λv c=>∃(z:List Value) (x:Option Addr) (G y:Nat),v = .tuple #[.agg z.toArray,.slice x G y]/\New V0 h c z r.1/\b0i.R c [.slice x G y] r.2:=by
 obtain⟨am,an,Q,aP,U,ao,rfl,rfl,af,ag,I⟩:=H0 ap
 obtain⟨rfl,aK⟩:=Sl.len I
 unfold R01 at b
 dsimp only at b
 refine I3 (args:=[.agg #[.int .i64 am,.int .i64 an,.slice Q ao.length U]]) (fn:=Tryz.f283) rfl ?_
 refine trM b (T8 _ _ _ (l0 af ag I)) ?_
 rintro aA b aV t ⟨ac,aR,W,rfl,p⟩
 have aw:Sub h t:=p.sub
 have K:=p.r
 obtain⟨aE,aF,P⟩:=aA
 dsimp only at b p K
 obtain⟨_,_,_,_,_,_,Y,Z,aj,ak,au⟩:=H0 K
 cases Y
 cases Z
 obtain⟨rfl,aN⟩:=Sl.len au
 try dsimp only at b
 have az:=New.sndI (New.sndI (p))
 obtain⟨w,ad,b⟩:=B0 b
 refine eX { vars:=[],boxes:=[2],owns:=[0],fuel:=true } (eX (λvs os c=>∃ e f k u l u8 o g,vs.tail = [.int .i64 e,.int .i64 f,.slice k u l]/\os = [o]/\Sub t c/\I0 e/\I0 f/\New S0 h c [.slice k u l] u8/\F2 (J3.R c) o g/\R7 (J1 vs) e f u8 g=some w) (eX (λ_ _=>0) (aI (eX U0 ⟨aE,aF,(some ⟨ac,0,none⟩),P.length,W,P,[],([]:b9),rfl,rfl,(Sub.refl _),aj,ak,az,(show F2 (J3.R t) ([]:List (List Value)) ([]:b9) from trivial),ad⟩) ?_)))
 rintro _ _ _ o n al ⟨e,f,k,u,l,u8,aZ,g,⟨⟩,⟨⟩,M,C,D,N,m,a⟩
 replace a:R7 n e f u8 g=some w:=a
 obtain _|n:=n
 ·cases a
 rw[R7.eq_2]at a
 have J:=N.r
 obtain⟨rfl,aL⟩:=Sl.len J
 refine trM a (X0c _ _ _ (l0 C D J)) ?_
 rintro aB a aT s ⟨aG,aH,rfl,q,L⟩
 obtain⟨aW,aX,aY⟩:=aB
 dsimp only at a q L
 have d:Sub al s:=q.sub
 have aq:=q.r
 obtain⟨aC,aD,S,aQ,V,O,rfl,rfl,ah,ai,ar⟩:=H0 aq
 obtain⟨rfl,aM⟩:=Sl.len ar
 try dsimp only at a
 have ay:=New.sndI (New.sndI (q))
 obtain⟨i,j,rfl,rfl,E,F⟩:=c00 L
 try dsimp only at a
 refine ifB a (λae a=>?_) λae a=>?_
 ·intro aU aJ aa
  obtain⟨T,X,rfl,av,ax,aO⟩:=G1.out (r:=J3.toRp) aa (F2.up (r:=J3.toRp) d m)
  obtain rfl:=oJ a
  try dsimp only[l4,C4]at b
  obtain rfl:=oJ b
  exact⟨([.int .i64 e,.int .i64 f,.slice k u8.length l]),T,g.length,X,rfl,(New.pair (New.int C) (New.pair (New.int D) (New.mono N (d.trans ax)))),av⟩
 ·obtain⟨aS,ab,a⟩:=B0 a
  refine aI (Y1 ab (by first|rw[F2.length (F2.up (r:=J3.toRp) d m),F2.length (show F2 (J3.R s) ([[.int .i64 i,.int .i64 j]]:List (List Value)) [(i,j)] from⟨(C2 E F),trivial⟩)]|exact congrArg (·+1) (F2.length (F2.up (r:=J3.toRp) d m)))) ?_
  exact O2 n ⟨aC,aD,S,O.length,V,O,(o++([[.int .i64 i,.int .i64 j]]:List (List Value))),(g ++ [(i,j)]),rfl,rfl,(M.trans d),ah,ai,(New.from ay (aw.trans M)),(F2.append (F2.up (r:=J3.toRp) d m) (show F2 (J3.R s) ([[.int .i64 i,.int .i64 j]]:List (List Value)) [(i,j)] from⟨(C2 E F),trivial⟩)),a⟩
theorem l06(h:Hp)(f:List Value)(j:j0)(J:V0.R h f j)(r:j0)(a:T7 j=some r):
  Tr Tryz.prog 196 #[.agg f.toArray] h λv u=>∃(e:List Value),v = .agg e.toArray/\New V0 h u e r:=by
 obtain⟨G,H,p,ao,s,I,rfl,rfl,w,x,k⟩:=H0 J
 obtain⟨rfl,ai⟩:=Sl.len k
 unfold T7 at a
 dsimp only at a
 refine I3 (args:=[.agg #[.int .i64 G,.int .i64 H,.slice p I.length s]]) (fn:=Tryz.f196) rfl ?_
 refine trM a (M0f _ _ _ (l0 w x k)) ?_
 rintro S a ay g ⟨ab,Y,aq,af,rfl,b,m⟩
 obtain⟨aC,aG⟩:=S
 dsimp only at a b m
 have O:Sub h g:=b.sub
 have K:=b.r
 obtain⟨aD,aE,X,ap,ae,aF,rfl,rfl,y,z,l⟩:=H0 K
 obtain⟨rfl,aj⟩:=Sl.len l
 try dsimp only at a
 have aA:=New.sndI (New.sndI (b))
 obtain⟨rfl,ak⟩:=Sl.len m
 refine trM a (k06 _ _ _ (l0 y z l)) ?_
 rintro T a az i ⟨ac,aa,au,ah,rfl,c,o⟩
 obtain⟨aH,aM⟩:=T
 dsimp only at a c o
 have P:Sub g i:=c.sub
 have L:=c.r
 obtain⟨aJ,aK,Z,ar,ag,aL,rfl,rfl,A,C,n⟩:=H0 L
 obtain⟨rfl,al⟩:=Sl.len n
 try dsimp only at a
 have aB:=New.sndI (New.sndI (c))
 obtain⟨rfl,am⟩:=Sl.len o
 refine trM a (j03 _ _ _ (l0 A C n)) ?_
 rintro aN a ax F ⟨ad,rfl,d⟩
 have aw:Sub i F:=d.sub
 have M:=d.r
 obtain⟨U,V,q,av,t,W,rfl,rfl,D,E,N⟩:=H0 M
 obtain⟨rfl,an⟩:=Sl.len N
 try dsimp only at a
 have Q:=New.sndI (New.sndI (d))
 obtain rfl:=oJ a
 exact⟨([.int .i64 U,.int .i64 V,.slice q W.length t]),rfl,(New.pair (New.int D) (New.pair (New.int E) (New.from Q (O.trans P))))⟩
theorem f07(h:Hp)(x:List Value)(D:j0)(ah:V0.R h x D)(d:Int)(y:I0 d)(r:j0×Bool)(a:C7 D d=some r):
  Tr Tryz.prog 209 #[.agg x.toArray,.int .i64 d] h λv k=>∃(w:List Value),v = .tuple #[.agg w.toArray,.bool r.2]/\New V0 h k w r.1:=by
 obtain⟨af,p,H,aL,J,ag,rfl,rfl,l,m,i⟩:=H0 ah
 obtain⟨rfl,aF⟩:=Sl.len i
 unfold C7 at a
 dsimp only at a
 refine I3 (args:=[.agg #[.int .i64 af,.int .i64 p,.slice H ag.length J],.int .i64 d]) (fn:=Tryz.f209) rfl ?_
 refine trV a (D9 _ _ _ (l0 l m i)) λaX a=>?_
 refine trG a (λq=>Z00 _ _ _ (l0 l m i) _ y) λaY a=>?_
 refine ifB a (λV a=>?_) λV a=>?_
 ·refine trM a (T8 _ _ _ (l0 l m i)) ?_
  rintro av a aV ae ⟨Q,aO,L,rfl,o⟩
  have aR:Sub h ae:=o.sub
  have F:=o.r
  obtain⟨aw,ax,ay⟩:=av
  dsimp only at a o F
  obtain⟨_,_,_,_,_,_,M,N,aa,ab,al⟩:=H0 F
  cases M
  cases N
  obtain⟨rfl,aJ⟩:=Sl.len al
  try dsimp only at a
  have ap:=New.sndI (New.sndI (o))
  obtain rfl:=oJ a
  exact⟨([.int .i64 aw,.int .i64 ax,.slice (some ⟨Q,0,none⟩) ay.length L]),rfl,(New.pair (New.int aa) (New.pair (New.int ab) ap))⟩
 ·obtain⟨u,S,a⟩:=B0 a
  refine eX { vars:=[7],boxes:=[],owns:=[0],fuel:=true } (eX (λvs os k=>∃ c j e,vs.tail = [.int .i64 c]/\os = [j]/\Sub h k/\I0 c/\F2 (Wp.int.R k) j e/\c7 p d (J1 vs) c e=some u) (eX (λ_ _=>0) (aI (eX U0 ⟨0,([[.int .i64 d]]:List (List Value)),[d],rfl,rfl,(Sub.refl _),(by decide),(show F2 (Wp.int.R h) ([[.int .i64 d]]:List (List Value)) [d] from⟨⟨rfl,y⟩,trivial⟩),S⟩) ?_)))
  rintro _ j g A ⟨c,a4,e,⟨⟩,⟨⟩,n,z,f,b⟩
  replace b:c7 p d g c e=some u:=b
  obtain _|g:=g
  ·cases b
  rw[c7.eq_2]at b
  refine ifB b (λT b=>?_) λT b=>?_
  ·refine ifB b (λU b=>?_) λU b=>?_
   ·obtain⟨aP,P,b⟩:=B0 b
    refine aI (Y1 P (by first|rw[F2.length f,F2.length (show F2 (Wp.int.R A) ([[.int .i64 c]]:List (List Value)) [c] from⟨⟨rfl,z⟩,trivial⟩)]|exact congrArg (·+1) (F2.length f))) ?_
    exact O2 g ⟨(IntKind.i64.wrap (c+1)),(j++([[.int .i64 c]]:List (List Value))),(e ++ [c]),rfl,rfl,n,(J0 _),(F2.append f (show F2 (Wp.int.R A) ([[.int .i64 c]]:List (List Value)) [c] from⟨⟨rfl,z⟩,trivial⟩)),b⟩
   ·exact O2 g ⟨(IntKind.i64.wrap (c+1)),j,e,rfl,rfl,n,(J0 _),f,b⟩
  ·obtain rfl:=oJ b
   try dsimp only[W0,Y0]at a
   refine Or.inl ?_
   intro aS ac O
   obtain⟨aA,aE,rfl,am,G,aK⟩:=G1.out (r:=Wp.int.toRp) O f
   refine trM a (b08 _ _ _ (l0 l m (S0.mono (n.trans G) i)) _ _ _ _ am) ?_
   rintro aZ a aT C ⟨aB,rfl,s⟩
   have an:Sub ac C:=s.sub
   have ai:=s.r
   obtain⟨a0,a1,az,aM,aD,a2,rfl,rfl,W,X,E⟩:=H0 ai
   obtain⟨rfl,aG⟩:=Sl.len E
   try dsimp only at a
   have aW:=New.sndI (New.sndI (s))
   refine trM a (l06 _ _ _ (l0 W X E)) ?_
   rintro a3 a aU ad ⟨aC,rfl,t⟩
   have aQ:Sub C ad:=t.sub
   have aj:=t.r
   obtain⟨aq,ar,I,aN,K,au,rfl,rfl,Y,Z,ak⟩:=H0 aj
   obtain⟨rfl,aH⟩:=Sl.len ak
   try dsimp only at a
   have ao:=New.sndI (New.sndI (t))
   obtain rfl:=oJ a
   exact⟨([.int .i64 aq,.int .i64 ar,.slice I au.length K]),rfl,(New.pair (New.int Y) (New.pair (New.int Z) (New.from ao ((n.trans G).trans an))))⟩
theorem L09(h:Hp)(e:List Value)(g:j0)(x:V0.R h e g)(b:Option Addr)(f c:Nat)(d:P0)(j:K1.R h [.slice b f c] d)(r:Bool)(a:j00 g d=some r):
  Tr Tryz.prog 279 #[.agg e.toArray,.slice b f c] h λv p=>v = .bool r/\p=h:=by
 obtain⟨t,u,k,G,l,w,rfl,rfl,q,s,i⟩:=H0 x
 obtain⟨rfl,E⟩:=Sl.len i
 obtain⟨rfl,F⟩:=Sl.len j
 unfold j00 at a
 dsimp only at a
 refine Tr.forget (I3 (args:=[.agg #[.int .i64 t,.int .i64 u,.slice k w.length l],.slice b d.length c]) (fn:=Tryz.f279) rfl ?_)
 obtain⟨y,o,a⟩:=B0 a
 obtain⟨z,A⟩:=y
 try dsimp only at a
 refine Tr.val (v05 _ _ _ (l0 q s i) 0 (by decide) _ _ _ _ j _  o) ?_
 obtain⟨H,m,a⟩:=B0 a
 have C:I0 z:=N0 m
 obtain⟨I,n,a⟩:=B0 a
 have D:I0 A:=N0 n
 obtain rfl:=oJ a
 exact aI rfl (Sub.refl _)
theorem m06(h:Hp)(b:List Value)(c:j0)(n:V0.R h b c)(r:Bool)(a:W9 c=some r):
  Tr Tryz.prog 232 #[.agg b.toArray] h λv g=>v = .bool r/\g=h:=by
 obtain⟨k,l,e,p,f,m,rfl,rfl,i,j,d⟩:=H0 n
 obtain⟨rfl,o⟩:=Sl.len d
 unfold W9 at a
 dsimp only at a
 refine Tr.forget (I3 (args:=[.agg #[.int .i64 k,.int .i64 l,.slice e m.length f]]) (fn:=Tryz.f232) rfl ?_)
 refine trV a (A7 _ _ _ (l0 i j d)) λq a=>?_
 obtain rfl:=oJ a
 exact aI rfl (Sub.refl _)
theorem q0c(h:Hp)(D:List Value)(M:j0)(ak:V0.R h D M)(r:O0)(b:V00 M=some r):
  Tr Tryz.prog 284 #[.agg D.toArray] h λv k=>∃(A:Option Addr) (L C:Nat),v = .slice A L C/\New S0 h k [.slice A L C] r:=by
 obtain⟨o,p,Q,aT,T,q,rfl,rfl,E,F,s⟩:=H0 ak
 obtain⟨rfl,aM⟩:=Sl.len s
 unfold V00 at b
 dsimp only at b
 refine I3 (args:=[.agg #[.int .i64 o,.int .i64 p,.slice Q q.length T]]) (fn:=Tryz.f284) rfl ?_
 refine trM b (d03 _ _ _ (l0 E F s) 0 (by decide)) ?_
 rintro ar b a4 ag ⟨ay,aV,aF,az,aW,aG,rfl,u,w,x⟩
 obtain⟨bd,O⟩:=ar
 dsimp only at b u w
 obtain⟨rfl,aO⟩:=Sl.len u
 obtain⟨rfl,aP⟩:=Sl.len w
 obtain⟨P,aa,b⟩:=B0 b
 obtain⟨aj,ap,V,X⟩:=Sl.cutI (r:=Wp.int.toRp) u aa
 refine aI aj (eX ap (aI V ?_))
 intro aq ad _
 obtain⟨aA,aH,rfl,N⟩:=X aq ad
 have aR:=(Sl.len N).2
 obtain⟨z,ab,b⟩:=B0 b
 refine eX { vars:=[20],boxes:=[],owns:=[0],fuel:=true } (eX (λvs os k=>∃ c n i,vs.tail = [.int .i64 c]/\os = [n]/\Sub ag k/\I0 c/\F2 (H1.R k) n i/\p6 P O o p q (J1 vs) c i=some z) (eX (λ_ _=>0) (aI (eX U0 ⟨0,[],([]:O0),rfl,rfl,(Sub.refl _),(by decide),(F2.up (r:=H1.toRp) x (show F2 (H1.R h) ([]:List (List Value)) ([]:O0) from trivial)),ab⟩) ?_)))
 rintro _ n l aL ⟨c,be,i,⟨⟩,⟨⟩,g,aK,j,a⟩
 replace a:p6 P O o p q l c i=some z:=a
 obtain _|l:=l
 ·cases a
 rw[p6.eq_2]at a
 refine ifB a (λac a=>?_) λac a=>?_
 ·refine ldI a (K1.mono g N) λba G a=>?_
  refine ld a (k02.mono g w) λbb aC t a=>?_
  obtain⟨ax,aU,aE,rfl⟩:=Wp.slice_cell t
  obtain⟨rfl,aN⟩:=Sl.len t
  refine ldI a t λau ae a=>?_
  refine trV a (B4 _ _ _ (l0 E F (S0.mono (x.trans g) s)) _ G (IntKind.i64.wrap (0-au)) (J0 _)) λav a=>?_
  obtain⟨aY,Y,a⟩:=B0 a
  have af:I0 av:=N0 Y
  refine trM a (d08 _ _ af _ ae _ G) ?_
  rintro bc a a1 K ⟨aD,rfl,al,m⟩
  obtain⟨d,e,f,rfl,rfl,H,I,J⟩:=Q1 al
  try dsimp only at a
  obtain⟨aZ,Z,a⟩:=B0 a
  refine aI (Y1 Z (by first|rw[F2.length (F2.up (r:=H1.toRp) m j),F2.length (show F2 (H1.R K) ([[.int .i64 d,.int .i64 e,.int .i64 f]]:List (List Value)) [(d,e,f)] from⟨(T1 H I J),trivial⟩)]|exact congrArg (·+1) (F2.length (F2.up (r:=H1.toRp) m j)))) ?_
  exact O2 l ⟨(IntKind.i64.wrap (c+1)),(n++([[.int .i64 d,.int .i64 e,.int .i64 f]]:List (List Value))),(i ++ [(d,e,f)]),rfl,rfl,(g.trans m),(J0 _),(F2.append (F2.up (r:=H1.toRp) m j) (show F2 (H1.R K) ([[.int .i64 d,.int .i64 e,.int .i64 f]]:List (List Value)) [(d,e,f)] from⟨(T1 H I J),trivial⟩)),a⟩
 ·obtain rfl:=oJ a
  try dsimp only[W0,Y0]at b
  refine Or.inl ?_
  intro a2 ah W
  obtain⟨aB,aJ,rfl,an,ao,aS⟩:=G1.out (r:=H1.toRp) W j
  refine trM b (y03 _ _ _ _ _ an) ?_
  rintro aw b a3 ai ⟨S,aX,U,rfl,y⟩
  have a0:Sub ah ai:=y.sub
  have am:=y.r
  obtain⟨rfl,aQ⟩:=Sl.len am
  obtain rfl:=oJ b
  exact⟨S,aw.length,U,rfl,(New.from y ((x.trans g).trans ao))⟩
theorem c0b(h:Hp)(y:List Value)(H:j0)(Z:V0.R h y H)(r:O0)(b:A00 H=some r):
  Tr Tryz.prog 199 #[.agg y.toArray] h λv m=>∃(w:Option Addr) (G x:Nat),v = .slice w G x/\New S0 h m [.slice w G x] r:=by
 obtain⟨X,Y,L,al,O,s,rfl,rfl,C,D,n⟩:=H0 Z
 obtain⟨rfl,ah⟩:=Sl.len n
 unfold A00 at b
 dsimp only at b
 refine I3 (args:=[.agg #[.int .i64 X,.int .i64 Y,.slice L s.length O]]) (fn:=Tryz.f199) rfl ?_
 refine trV b (D9 _ _ _ (l0 C D n)) λax b=>?_
 refine ifB b (λW b=>?_) λW b=>?_
 ·intro av ag A
  obtain⟨N,Q,rfl,ap,ar,ak⟩:=G1.out (r:=H1.toRp) A (show F2 (H1.R h) ([]:List (List Value)) ([]:O0) from trivial)
  obtain rfl:=oJ b
  exact⟨N,(([]:O0)).length,Q,rfl,(G1.newPlain (r:=H1) A (show F2 (H1.R h) ([]:List (List Value)) ([]:O0) from trivial) (m0c _))⟩
 ·refine trM b (q0c _ _ _ (l0 C D n)) ?_
  rintro K b aw F ⟨ab,am,ad,rfl,J⟩
  have t:Sub h F:=J.sub
  have I:=J.r
  obtain⟨rfl,ai⟩:=Sl.len I
  obtain⟨u,T,b⟩:=B0 b
  refine eX { vars:=[17],boxes:=[],owns:=[0],fuel:=true } (eX (λvs os m=>∃ c l d,vs.tail = [.int .i64 c]/\os = [l]/\Sub F m/\I0 c/\F2 (H1.R m) l d/\Z4 s K (J1 vs) c d=some u) (eX (λ_ _=>0) (aI (eX U0 ⟨0,[],([]:O0),rfl,rfl,(Sub.refl _),(by decide),(F2.up (r:=H1.toRp) t (show F2 (H1.R h) ([]:List (List Value)) ([]:O0) from trivial)),T⟩) ?_)))
  rintro _ l j E ⟨c,aA,d,⟨⟩,⟨⟩,k,ae,e,a⟩
  replace a:Z4 s K j c d=some u:=a
  obtain _|j:=j
  ·cases a
  rw[Z4.eq_2]at a
  refine ifB a (λU a=>?_) λU a=>?_
  ·refine ld a (S0.mono (t.trans k) n) λay ac aa a=>?_
   obtain⟨f,g,i,rfl,rfl,o,p,q⟩:=Q1 aa
   try dsimp only at a
   refine trV a (E01 _ _ _ _ _ (S0.mono k I) _ _ (T1 o p q)) λaz a=>?_
   refine ifB a (λV a=>?_) λV a=>?_
   ·obtain⟨an,S,a⟩:=B0 a
    refine aI (Y1 S (by first|rw[F2.length e,F2.length (show F2 (H1.R E) ([[.int .i64 f,.int .i64 g,.int .i64 i]]:List (List Value)) [(f,g,i)] from⟨(T1 o p q),trivial⟩)]|exact congrArg (·+1) (F2.length e))) ?_
    exact O2 j ⟨(IntKind.i64.wrap (c+1)),(l++([[.int .i64 f,.int .i64 g,.int .i64 i]]:List (List Value))),(d ++ [(f,g,i)]),rfl,rfl,k,(J0 _),(F2.append e (show F2 (H1.R E) ([[.int .i64 f,.int .i64 g,.int .i64 i]]:List (List Value)) [(f,g,i)] from⟨(T1 o p q),trivial⟩)),a⟩
   ·exact O2 j ⟨(IntKind.i64.wrap (c+1)),l,d,rfl,rfl,k,(J0 _),e,a⟩
  ·obtain rfl:=oJ a
   try dsimp only[W0,Y0]at b
   intro au af z
   obtain⟨M,P,rfl,ao,aq,aj⟩:=G1.out (r:=H1.toRp) z e
   obtain rfl:=oJ b
   exact⟨M,d.length,P,rfl,(New.from (G1.newPlain (r:=H1) z e (m0c _)) (t.trans k))⟩
theorem N0f(h:Hp)(Y:List Value)(aj:j0)(bg:V0.R h Y aj)(r:D4)(f:W00 aj=some r):
  Tr Tryz.prog 127 #[.agg Y.toArray] h λv t=>∃(S:Option Addr) (ai X:Nat),v = .slice S ai X/\k02.R t [.slice S ai X] r/\Sub h t:=by
 obtain⟨bd,be,av,cd,aD,bf,rfl,rfl,L,M,C⟩:=H0 bg
 obtain⟨rfl,bZ⟩:=Sl.len C
 unfold W00 at f
 dsimp only at f
 refine I3 (args:=[.agg #[.int .i64 bd,.int .i64 be,.slice av bf.length aD]]) (fn:=Tryz.f127) rfl ?_
 refine trV f (A7 _ _ _ (l0 L M C)) λcv f=>?_
 refine ifB f (λa2 f=>?_) λa2 f=>?_
 ·intro cs bV aQ
  obtain⟨aA,aJ,rfl,bo,bu,cc⟩:=G1.out (r:=K1.toRp) aQ (show F2 (K1.R h) ([]:List (List Value)) ([]:D4) from trivial)
  obtain rfl:=oJ f
  exact⟨aA,(([]:D4)).length,aJ,rfl,bo,bu⟩
 ·refine trM f (d03 _ _ _ (l0 L M C) 0 (by decide)) ?_
  rintro bA f cu a4 ⟨bC,cj,bJ,T,ck,Z,rfl,an,D,P⟩
  obtain⟨cx,I⟩:=bA
  dsimp only at f an D
  obtain⟨rfl,b3⟩:=Sl.len an
  obtain⟨rfl,b4⟩:=Sl.len D
  refine trM f (c0b _ _ _ (l0 L M (S0.mono P C))) ?_
  rintro au f cr ae ⟨bB,ce,bI,rfl,ap⟩
  have F:Sub a4 ae:=ap.sub
  have ak:=ap.r
  obtain⟨rfl,b0⟩:=Sl.len ak
  obtain⟨Q,a0,f⟩:=B0 f
  refine eX { vars:=[21],boxes:=[],owns:=[0],fuel:=true } (eX (λvs os t=>∃ p G s,vs.tail = [.int .i64 p]/\os = [G]/\Sub ae t/\I0 p/\F2 (K1.R t) G s/\V7 au I (J1 vs) p s=some Q) (eX (λ_ _=>0) (aI (eX U0 ⟨0,[],([]:D4),rfl,rfl,(Sub.refl _),(by decide),(F2.up (r:=K1.toRp) (P.trans F) (show F2 (K1.R h) ([]:List (List Value)) ([]:D4) from trivial)),a0⟩) ?_)))
  rintro _ G A bP ⟨p,cy,s,⟨⟩,⟨⟩,u,bM,x,b⟩
  replace b:V7 au I A p s=some Q:=b
  obtain _|A:=A
  ·cases b
  rw[V7.eq_2]at b
  refine ifB b (λa1 b=>?_) λa1 b=>?_
  ·refine ld b (S0.mono u ak) λcw bF bh b=>?_
   obtain⟨bv,H,bx,rfl,rfl,bN,a3,bO⟩:=Q1 bh
   try dsimp only at b
   refine Or.inr (Or.inr (Or.inr (Or.inr (eX 18 (aI (aI (by kernel_rfl) (by kernel_rfl)) ?_)))))
   obtain⟨w,aT,b⟩:=B0 b
   obtain⟨aB,bG,aK,N⟩:=Sl.getI (r:=K1.toRp) (k02.mono (F.trans u) D) aT (by decide)
   obtain⟨J,cf,K,rfl⟩:=Wp.slice_cell N
   obtain⟨rfl,b1⟩:=Sl.len N
   refine Or.inl (eX (.hel (.slice T I.length Z) bv 1 0) (aI ?_ ?_))
   ·intro bQ cm
    exact aI aB (aI rfl (aI rfl rfl))
   refine Or.inl (eX (.val (.slice J w.length K)) (aI ?_ ?_))
   ·intro bR bp
    exact eX _ (aI (D01.up bp aK) (aI rfl (aI rfl rfl)))
   obtain⟨g,aU,b⟩:=B0 b
   refine Or.inr (eX (λv i=>∃(a:Option Addr) (c:Nat),v = .slice a g.length c/\K1.R i [.slice a g.length c] g/\g.length<=9223372036854775807) (aI (λv y z d q=>by obtain⟨a,c,e,r,l⟩:=q;exact⟨a,c,e,K1.mono d r,l⟩) (aI ?_ ?_)))
   ·intro af cn
    have aL:[H]=g:=oJ aU
    intro v k hf
    obtain⟨a,c,rfl,r,d,l⟩:=G1.out (r:=Wp.int.toRp) (xs:=g) hf (show F2 (Wp.int.R af) [[.int .i64 H]] g from aL▸(show F2 (Wp.int.R af) [[.int .i64 H]] [H] from⟨⟨rfl,a3⟩,trivial⟩))
    exact aI ⟨rfl,rfl,rfl,[_],rfl⟩ (aI d ⟨a,c,rfl,r,l⟩)
   obtain⟨bz,aV,b⟩:=B0 b
   obtain⟨aC,bH,aM,O⟩:=Sl.getI (r:=K1.toRp) (k02.mono (F.trans u) D) aV (by decide)
   obtain⟨aw,cg,aE,rfl⟩:=Wp.slice_cell O
   obtain⟨rfl,b2⟩:=Sl.len O
   refine Or.inl (eX (.hel (.slice T I.length Z) bx 1 0) (aI ?_ ?_))
   ·intro bS co
    exact aI aC (aI rfl (aI rfl rfl))
   refine Or.inl (eX (.val (.slice aw bz.length aE)) (aI ?_ ?_))
   ·intro bT bq
    exact eX _ (aI (D01.up bq aM) (aI rfl (aI rfl rfl)))
   obtain⟨j,aW,b⟩:=B0 b
   refine Or.inr (eX (λv i=>∃(a:Option Addr) (c:Nat),v = .slice a j.length c/\K1.R i [.slice a j.length c] j/\j.length<=9223372036854775807) (aI (λv y z d q=>by obtain⟨a,c,e,r,l⟩:=q;exact⟨a,c,e,K1.mono d r,l⟩) (aI ?_ ?_)))
   ·intro bU br
    refine Tr.mono (Y0a _ _ _ _ _ (K1.mono br O) _ aW) ?_
    rintro _ ba ⟨ax,ch,aF,rfl,aq⟩
    have d:=aq.sub
    have al:=aq.r
    obtain⟨rfl,bb⟩:=Sl.len al
    exact aI g03 (aI d ⟨ax,aF,rfl,al,bb⟩)
   obtain⟨o,aX,b⟩:=B0 b
   refine Or.inr (eX (λv i=>∃(a:Option Addr) (c:Nat),v = .slice a o.length c/\k02.R i [.slice a o.length c] o/\o.length<=9223372036854775807) (aI (λv y z d q=>by obtain⟨a,c,e,r,l⟩:=q;exact⟨a,c,e,k02.mono d r,l⟩) (aI ?_ ?_)))
   ·intro ag bs
    rintro _ ⟨U,aa,rfl,bi,b5⟩
    rintro _ ⟨V,ab,rfl,bj,b6⟩
    have aN:[w,g,j]=o:=oJ aX
    intro v k hf
    obtain⟨a,c,rfl,r,d,l⟩:=G1.out (r:=K1.toRp) (xs:=o) hf (show F2 (K1.R ag) [[.slice J w.length K],[.slice U g.length aa],[.slice V j.length ab]] o from aN▸(show F2 (K1.R ag) [[.slice J w.length K],[.slice U g.length aa],[.slice V j.length ab]] [w,g,j] from⟨(K1.mono bs N),⟨bi,⟨bj,trivial⟩⟩⟩))
    exact aI ⟨rfl,rfl,rfl,[_],rfl⟩ (aI d ⟨a,c,rfl,r,l⟩)
   obtain⟨m,aY,b⟩:=B0 b
   refine Or.inr (eX (λv i=>∃(a:Option Addr) (c:Nat),v = .slice a m.length c/\K1.R i [.slice a m.length c] m/\m.length<=9223372036854775807) (aI (λv y z d q=>by obtain⟨a,c,e,r,l⟩:=q;exact⟨a,c,e,K1.mono d r,l⟩) (aI ?_ ?_)))
   ·intro bW cp
    rintro _ ⟨bD,bK,rfl,bk,b7⟩
    refine Tr.mono (Y07 _ _ _ _ _ bk _ aY) ?_
    rintro _ ba ⟨ay,ci,aG,rfl,ar⟩
    have d:=ar.sub
    have am:=ar.r
    obtain⟨rfl,bc⟩:=Sl.len am
    exact aI g03 (aI d ⟨ay,aG,rfl,am,bc⟩)
   obtain⟨n,aZ,b⟩:=B0 b
   refine Or.inr (eX (λv i=>∃(a:Option Addr) (c:Nat),v = .slice a n.length c/\k02.R i [.slice a n.length c] n/\n.length<=9223372036854775807) (aI (λv y z d q=>by obtain⟨a,c,e,r,l⟩:=q;exact⟨a,c,e,k02.mono d r,l⟩) (aI ?_ ?_)))
   ·intro ah cq
    rintro _ ⟨W,ac,rfl,bl,b8⟩
    have aO:[m]=n:=oJ aZ
    intro v k hf
    obtain⟨a,c,rfl,r,d,l⟩:=G1.out (r:=K1.toRp) (xs:=n) hf (show F2 (K1.R ah) [[.slice W m.length ac]] n from aO▸(show F2 (K1.R ah) [[.slice W m.length ac]] [m] from⟨bl,trivial⟩))
    exact aI ⟨rfl,rfl,rfl,[_],rfl⟩ (aI d ⟨a,c,rfl,r,l⟩)
   intro bX E
   rintro _ ⟨bE,bL,rfl,bm,ca⟩
   rintro _ _
   rintro _ _
   rintro _ _
   rintro _ _
   obtain⟨ao,aP,ad⟩:=Sl.rows (r:=K1.toRp) bm
   refine eX ao (aI aP ?_)
   obtain⟨cl,aS,b⟩:=B0 b
   refine aI (Y1 aS (by first|rw[F2.length (F2.up (r:=K1.toRp) E x),F2.length ad]|exact congrArg (·+1) (F2.length (F2.up (r:=K1.toRp) E x)))) ?_
   exact O2 A ⟨(IntKind.i64.wrap (p+1)),(G++ao),(s++n),rfl,rfl,(u.trans E),(J0 _),(F2.append (F2.up (r:=K1.toRp) E x) ad),b⟩
  ·obtain rfl:=oJ b
   try dsimp only[W0,Y0]at f
   intro ct bY aR
   obtain⟨az,aH,rfl,bn,bt,cb⟩:=G1.out (r:=K1.toRp) aR x
   obtain rfl:=oJ f
   exact⟨az,s.length,aH,rfl,bn,(((P.trans F).trans u).trans bt)⟩
theorem M09(h:Hp)(z:List Value)(E:j0)(X:V0.R h z E)(m:Option Addr)(D n:Nat)(g:D4)(F:k02.R h [.slice m D n] g)(r:Bool)(d:Q8 E g=some r):
  Tr Tryz.prog 187 #[.agg z.toArray,.slice m D n] h λv o=>v = .bool r/\o=h:=by
 obtain⟨p,s,K,ay,M,t,rfl,rfl,A,C,u⟩:=H0 X
 obtain⟨rfl,ar⟩:=Sl.len u
 obtain⟨rfl,au⟩:=Sl.len F
 unfold Q8 at d
 dsimp only at d
 refine Tr.forget (I3 (args:=[.agg #[.int .i64 p,.int .i64 s,.slice K t.length M],.slice m g.length n]) (fn:=Tryz.f187) rfl ?_)
 refine trV d (A7 _ _ _ (l0 A C u)) λaD d=>?_
 refine ifB d (λS d=>?_) λS d=>?_
 ·obtain rfl:=oJ d
  exact aI rfl (Sub.refl _)
 ·obtain⟨y,Q,d⟩:=B0 d
  refine eX { vars:=[12],boxes:=[],owns:=[],fuel:=true } (eX (λvs os o=>∃ f,vs.tail = [.int .i64 f]/\os = []/\Sub h o/\I0 f/\H5 g p s t (J1 vs) f=some y) (eX (λ_ _=>0) (aI (eX U0 ⟨0,rfl,rfl,(Sub.refl _),(by decide),Q⟩) ?_)))
  rintro _ j ap ⟨f,⟨⟩,⟨⟩,i,ak,b⟩
  replace b:H5 g p s t j f=some y:=b
  obtain _|j:=j
  ·cases b
  rw[H5.eq_2]at b
  refine ifB b (λU b=>?_) λU b=>?_
  ·refine ld b (k02.mono i F) λaE ae w b=>?_
   obtain⟨ab,az,af,rfl⟩:=Wp.slice_cell w
   obtain⟨rfl,av⟩:=Sl.len w
   refine Or.inr (Or.inr (Or.inr (Or.inl (aI (aI (by kernel_rfl) (by kernel_rfl)) ?_))))
   obtain⟨k,P,b⟩:=B0 b
   refine Or.inr (eX (λv V=>∃(a:Option Addr) (c:Nat),v = .slice a k.length c/\K1.R V [.slice a k.length c] k/\k.length<=9223372036854775807) (aI (λv ai aj x q=>by obtain⟨a,c,e,r,l⟩:=q;exact⟨a,c,e,K1.mono x r,l⟩) (aI ?_ ?_)))
   ·intro al Z
    refine Tr.mono (f08 _ _ _ _ _ (K1.mono Z w) _ P) ?_
    rintro _ aq ⟨L,aA,N,rfl,I⟩
    have x:=I.sub
    have G:=I.r
    obtain⟨rfl,W⟩:=Sl.len G
    exact aI g03 (aI x ⟨L,N,rfl,G,W⟩)
   obtain⟨J,O,b⟩:=B0 b
   refine Or.inl (eX (.val (.bool J)) (aI ?_ ?_))
   ·intro am aa
    rintro _ ⟨ac,ag,rfl,Y,aw⟩
    exact Tr.val (L09 _ _ _ (l0 A C (S0.mono (i.trans aa) u)) _ _ _ _ Y _ O) (aI rfl (aI rfl rfl))
   refine Or.inl (eX (.val (.bool (!J))) (aI ?_ ?_))
   ·intro an aC
    exact aI rfl (aI rfl rfl)
   intro ao H
   rintro _ ⟨ad,ah,rfl,aB,ax⟩
   refine ifB b (λT b=>?_) λT b=>?_
   ·obtain rfl:=oJ b
    try dsimp only[l4,C4]at d
    obtain rfl:=oJ d
    exact aI rfl (i.trans H)
   ·exact O2 j ⟨(IntKind.i64.wrap (f+1)),rfl,rfl,(i.trans H),(J0 _),b⟩
  ·obtain rfl:=oJ b
   try dsimp only[W0,Y0]at d
   obtain rfl:=oJ d
   exact aI rfl i
theorem Y0c(h:Hp)(k:List Value)(t:j0)(S:V0.R h k t)(m:List Value)(w:j0)(T:V0.R h m w)(r:Bool)(b:r01 t w=some r):
  Tr Tryz.prog 324 #[.agg k.toArray,.agg m.toArray] h λv K=>v = .bool r/\K=h:=by
 obtain⟨u,N,z,ar,D,O,rfl,rfl,n,o,g⟩:=H0 S
 obtain⟨rfl,ao⟩:=Sl.len g
 obtain⟨x,P,A,au,E,Q,rfl,rfl,p,s,i⟩:=H0 T
 obtain⟨rfl,ap⟩:=Sl.len i
 unfold r01 at b
 dsimp only at b
 refine Tr.forget (I3 (args:=[.agg #[.int .i64 u,.int .i64 N,.slice z O.length D],.agg #[.int .i64 x,.int .i64 P,.slice A Q.length E]]) (fn:=Tryz.f324) rfl ?_)
 refine Or.inr (Or.inr (Or.inr (Or.inl (aI (aI (by kernel_rfl) (by kernel_rfl)) ?_))))
 obtain⟨aa,G,b⟩:=B0 b
 refine Or.inl (eX (.val (.bool aa)) (aI ?_ ?_))
 ·intro ak Y
  exact Tr.val (A7 _ _ _ (l0 n o (S0.mono Y g)) _ G) (aI rfl (aI rfl rfl))
 obtain⟨ac,I,b⟩:=B0 b
 refine Or.inl (eX (.val (.bool ac)) (aI ?_ ?_))
 ·intro al Z d
  exact Tr.val (A7 _ _ _ (l0 p s (S0.mono Z i)) _ (a9 I d)) (aI rfl (aI rfl rfl))
 refine Or.inl (eX (.val (.bool (decide (u=x)))) (aI ?_ ?_))
 ·intro am aw d
  exact aI rfl (aI rfl rfl)
 obtain⟨f,J,b⟩:=B0 b
 refine Or.inr (eX (λv L=>∃(a:Option Addr) (c:Nat),v = .slice a f.length c/\k02.R L [.slice a f.length c] f/\f.length<=9223372036854775807) (aI (λv af ag j q=>by obtain⟨a,c,e,r,l⟩:=q;exact⟨a,c,e,k02.mono j r,l⟩) (aI ?_ ?_)))
 ·intro ah V d
  refine Tr.mono (N0f _ _ _ (l0 n o (S0.mono V g)) _ (a9 J d)) ?_
  rintro _ an ⟨C,av,F,rfl,y,j⟩
  obtain⟨rfl,M⟩:=Sl.len y
  exact aI g03 (aI j ⟨C,F,rfl,y,M⟩)
 obtain⟨ab,H,b⟩:=B0 b
 refine Or.inl (eX (.val (.bool ab)) (aI ?_ ?_))
 ·intro ai W d
  rintro _ ⟨ad,ae,rfl,U,aq⟩
  exact Tr.val (M09 _ _ _ (l0 p s (S0.mono W i)) _ _ _ _ U _ (a9 H d)) (aI rfl (aI rfl rfl))
 intro aj X
 obtain rfl:=oJ b
 exact aI rfl X
theorem h09(h:Hp)(b:List Value)(c:j0)(o:V0.R h b c)(r:Int)(a:M00 c=some r):
  Tr Tryz.prog 99 #[.agg b.toArray] h λv g=>v = .int .i64 r/\g=h:=by
 obtain⟨l,m,e,q,f,n,rfl,rfl,j,k,d⟩:=H0 o
 obtain⟨rfl,p⟩:=Sl.len d
 unfold M00 at a
 dsimp only at a
 refine Tr.forget (I3 (args:=[.agg #[.int .i64 l,.int .i64 m,.slice e n.length f]]) (fn:=Tryz.f99) rfl ?_)
 refine trV a (A7 _ _ _ (l0 j k d)) λs a=>?_
 refine ifB a (λi a=>?_) λi a=>?_
 ·obtain rfl:=oJ a
  exact aI rfl (Sub.refl _)
 ·obtain rfl:=oJ a
  exact aI rfl (Sub.refl _)
theorem N09(h:Hp)(ad:List Value)(am:j0)(a2:V0.R h ad am)(r:j0×P0)(c:n00 am=some r):
  Tr Tryz.prog 256 #[.agg ad.toArray] h λv d=>∃(ac:List Value) (aa:Option Addr) (al ab:Nat),v = .tuple #[.agg ac.toArray,.slice aa al ab]/\V0.R d ac r.1/\K1.R d [.slice aa al ab] r.2/\Sub h d:=by
 obtain⟨aZ,a0,ay,bz,aC,a1,rfl,rfl,ah,ai,Q⟩:=H0 a2
 obtain⟨rfl,bp⟩:=Sl.len Q
 unfold n00 at c
 dsimp only at c
 refine I3 (args:=[.agg #[.int .i64 aZ,.int .i64 a0,.slice ay a1.length aC]]) (fn:=Tryz.f256) rfl ?_
 refine trM c (T8 _ _ _ (l0 ah ai Q)) ?_
 rintro bb c bH E ⟨ag,bA,ae,rfl,V⟩
 have U:Sub h E:=V.sub
 have an:=V.r
 obtain⟨au,av,X⟩:=bb
 dsimp only at c V an
 obtain⟨_,_,_,_,_,_,aG,aH,aj,ak,S⟩:=H0 an
 cases aG
 cases aH
 obtain⟨rfl,bs⟩:=Sl.len S
 try dsimp only at c
 refine trV c (A7 _ _ _ (l0 ah ai (S0.mono U Q))) λbN c=>?_
 refine ifB c (λaT c=>?_) λaT c=>?_
 ·intro bK bo aK
  obtain⟨aB,aF,rfl,ba,ar,bx⟩:=G1.out (r:=Wp.int.toRp) aK (show F2 (Wp.int.R E) ([]:List (List Value)) ([]:P0) from trivial)
  obtain rfl:=oJ c
  exact⟨([.int .i64 au,.int .i64 av,.slice (some ⟨ag,0,none⟩) X.length ae]),aB,(([]:P0)).length,aF,rfl,(l0 aj ak (S0.mono ar S)),ba,(U.trans ar)⟩
 ·obtain⟨Y,aO,c⟩:=B0 c
  refine eX { vars:=[],boxes:=[2],owns:=[0],fuel:=true } (eX (λvs os d=>∃ f g s O u i K m,vs.tail = [.int .i64 f,.int .i64 g,.slice s O u]/\os = [K]/\Sub E d/\I0 f/\I0 g/\S0.R d [.slice s O u] i/\F2 (Wp.int.R d) K m/\A6 (J1 vs) f g i m=some Y) (eX (λ_ _=>0) (aI (eX U0 ⟨au,av,(some ⟨ag,0,none⟩),X.length,ae,X,[],([]:P0),rfl,rfl,(Sub.refl _),aj,ak,S,(show F2 (Wp.int.R E) ([]:List (List Value)) ([]:P0) from trivial),aO⟩) ?_)))
  rintro _ _ _ K y bm ⟨f,g,s,O,u,i,bO,m,⟨⟩,⟨⟩,T,A,L,G,af,b⟩
  replace b:A6 y f g i m=some Y:=b
  obtain _|y:=y
  ·cases b
  rw[A6.eq_2]at b
  obtain⟨rfl,bq⟩:=Sl.len G
  refine trG b (λq=>c07 _ _ _ (l0 A L G) 0 (by decide)) λbc b=>?_
  obtain⟨bD,aL,b⟩:=B0 b
  have bl:I0 bc:=N0 aL
  refine ifB b (λaQ b=>?_) λaQ b=>?_
  ·refine trM b (W01 _ _ A) ?_
   rintro aw b bG aX ⟨bh,bB,bj,rfl,ao,I⟩
   obtain⟨rfl,bt⟩:=Sl.len ao
   obtain⟨Z,aP,b⟩:=B0 b
   refine eX { vars:=[29],boxes:=[2],owns:=[0],fuel:=true,kept:=[0] } (eX (λvs os d=>∃ n j k t P w e o l,vs.tail = [.int .i64 n,.int .i64 j,.int .i64 k,.slice t P w]/\os = [o]/\Sub aX d/\I0 n/\I0 j/\I0 k/\S0.R d [.slice t P w] e/\F2 (Wp.int.R d) o l/\w6 aw (J1 vs) n j k e l=some Z) (eX (λ_ _=>0) (aI (eX U0 ⟨0,f,g,s,i.length,u,i,K,m,rfl,rfl,(Sub.refl _),(by decide),A,L,(S0.mono I G),(F2.up (r:=Wp.int.toRp) I af),aP⟩) ?_)))
   rintro _ _ _ _ o F aY ⟨n,j,k,t,P,w,e,bP,l,⟨⟩,⟨⟩,H,bk,C,D,z,x,a⟩
   replace a:w6 aw F n j k e l=some Z:=a
   obtain _|F:=F
   ·cases a
   rw[w6.eq_2]at a
   obtain⟨rfl,br⟩:=Sl.len z
   refine ifB a (λaR a=>?_) λaR a=>?_
   ·refine ldI a (K1.mono H ao) λp M a=>?_
    refine trV a (B4 _ _ _ (l0 C D z) 0 (by decide) _ M) λbd a=>?_
    obtain⟨bE,aM,a⟩:=B0 a
    have aU:I0 bd:=N0 aM
    refine ifB a (λaS a=>?_) λaS a=>?_
    ·refine trM a (f07 _ _ _ (l0 C D z) _ aU) ?_
     rintro be a bI N ⟨bi,rfl,W⟩
     obtain⟨bL,bM⟩:=be
     dsimp only at a W
     have J:Sub aY N:=W.sub
     have a3:=W.r
     obtain⟨bf,bg,az,bC,aD,ax,rfl,rfl,aV,aW,ap⟩:=H0 a3
     obtain⟨rfl,bu⟩:=Sl.len ap
     try dsimp only at a
     obtain⟨bF,aN,a⟩:=B0 a
     refine aI (Y1 aN (by first|rw[F2.length (F2.up (r:=Wp.int.toRp) J x),F2.length (show F2 (Wp.int.R N) ([[.int .i64 p]]:List (List Value)) [p] from⟨⟨rfl,M⟩,trivial⟩)]|exact congrArg (·+1) (F2.length (F2.up (r:=Wp.int.toRp) J x)))) ?_
     obtain rfl:=oJ a
     try dsimp only[W0,Y0]at b
     exact O2 y ⟨bf,bg,az,ax.length,aD,ax,(o++([[.int .i64 p]]:List (List Value))),(l ++ [p]),rfl,rfl,(((T.trans I).trans H).trans J),aV,aW,ap,(F2.append (F2.up (r:=Wp.int.toRp) J x) (show F2 (Wp.int.R N) ([[.int .i64 p]]:List (List Value)) [p] from⟨⟨rfl,M⟩,trivial⟩)),b⟩
    ·exact O2 F ⟨(IntKind.i64.wrap (n+1)),j,k,t,e.length,w,e,o,l,rfl,rfl,H,(J0 _),C,D,z,x,a⟩
   ·obtain rfl:=oJ a
    try dsimp only[W0,Y0]at b
    exact O2 y ⟨j,k,t,e.length,w,e,o,l,rfl,rfl,((T.trans I).trans H),C,D,z,x,b⟩
  ·obtain rfl:=oJ b
   try dsimp only[W0,Y0]at c
   intro bJ bn aJ
   obtain⟨aA,aE,rfl,a4,aq,bv⟩:=G1.out (r:=Wp.int.toRp) aJ af
   obtain rfl:=oJ c
   exact⟨([.int .i64 f,.int .i64 g,.slice s i.length u]),aA,m.length,aE,rfl,(l0 A L (S0.mono aq G)),a4,((U.trans T).trans aq)⟩
theorem w0r:Y0f Tryz.prog 233 232 3:=⟨by kernel_rfl,⟨3,by kernel_rfl,by kernel_rfl,by kernel_rfl,by kernel_rfl⟩,by kernel_rfl⟩
theorem d0b(h:Hp)(aS:List Value)(bd:j0)(cg:V0.R h aS bd)(aT:List Value)(be:j0)(ch:V0.R h aT be)(j:Int)(aY:I0 j)(k:Int)(aZ:I0 k)(r:j0×Bool)(b:E00 bd be j k=some r):
  Tr Tryz.prog 244 #[.agg aS.toArray,.agg aT.toArray,.int .i64 j,.int .i64 k] h λv l=>∃(aR:List Value),v = .tuple #[.agg aR.toArray,.bool r.2]/\New V0 h l aR r.1:=by
 obtain⟨i,s,ad,c4,af,t,rfl,rfl,aa,aH,an⟩:=H0 cg
 obtain⟨rfl,cZ⟩:=Sl.len an
 obtain⟨u,w,ae,db,ag,x,rfl,rfl,aJ,aK,ao⟩:=H0 ch
 obtain⟨rfl,c0⟩:=Sl.len ao
 unfold E00 at b
 dsimp only at b
 refine I3 (args:=[.agg #[.int .i64 i,.int .i64 s,.slice ad t.length af],.agg #[.int .i64 u,.int .i64 w,.slice ae x.length ag],.int .i64 j,.int .i64 k]) (fn:=Tryz.f244) rfl ?_
 obtain⟨dE,bO,b⟩:=B0 b
 refine Tr.val (D9 _ [.int .i64 i,.int .i64 s,.slice ad t.length af] (i,s,t) (l0 aa aH an) _  bO) ?_
 obtain⟨cw,bQ,b⟩:=B0 b
 refine eX (.bool cw) (aI (λq=>D9 _ [.int .i64 u,.int .i64 w,.slice ae x.length ag] (u,w,x) (l0 aJ aK ao) _  (a9 bQ q)) ?_)
 obtain⟨cx,bS,b⟩:=B0 b
 refine eX (.bool cx) (aI (λq=>Z00 _ [.int .i64 i,.int .i64 s,.slice ad t.length af] (i,s,t) (l0 aa aH an) j aY _  (a9 bS q)) ?_)
 obtain⟨cy,bV,b⟩:=B0 b
 refine eX (.bool cy) (aI (λq=>Z00 _ [.int .i64 u,.int .i64 w,.slice ae x.length ag] (u,w,x) (l0 aJ aK ao) k aZ _  (a9 bV q)) ?_)
 refine aI (λaC=>?_) (λaC=>?_)
 ·replace b:=ifP b aC
  have G:=oJ b;subst G
  exact⟨([.int .i64 0,.int .i64 0,.slice none 0 0]),rfl,(New.pair (New.int (by decide)) (New.pair (New.int (by decide)) ((New.nilSlice (r:=H1)).mono (Sub.refl _))))⟩
 ·replace b:=ifN b aC
  intro g az
  refine eX undef (eX _ (aI (J0q w0r (.inr rfl) rfl (p:=(j,k)) rfl (ps:=[]) rfl (Hp.set_same _ _ _) rfl) ?_))
  have cr:Sub h ((h.set g (.map #[] 0)).set g (g06 [(j,k)])):=Sub.setNone az (Sub.set az)
  have b3:((h.set g (.map #[] 0)).set g (g06 [(j,k)])) g=some (g06 [(j,k)]):=Hp.set_same _ _ _
  obtain⟨aw,b2,b⟩:=B0 b
  refine eX { vars:=[13],boxes:=[3],owns:=[0,1],fuel:=true,nilsB:=[(3,2,166,3,24)] } (eX (λvs os l=>∃(D:Int) (u8:Int) (S:Int) (M:List (List Value)) (Q:List H4) (ac:List (List Value)) (L:List M0),vs.tail = [.int .i64 D,.int .i64 u8,.int .i64 S]/\os = [M,ac]/\Sub h l/\l g=some (g06 Q)/\I0 D/\I0 u8/\I0 S/\F2 (J3.R l) M Q/\F2 (H1.R l) ac L/\U6 i s t u w x (J1 vs) D u8 S Q L=some aw) (eX (λ_ _=>0) ?_))
  refine aI (eX U0 ⟨0,i,0,([[.int .i64 j,.int .i64 k]]:List (List Value)),([(j,k)]),[],([]:O0),rfl,rfl,cr,b3,(by decide),aa,(by decide),(show F2 (J3.R _) ([[.int .i64 j,.int .i64 k]]:List (List Value)) [(j,k)] from⟨(C2 aY aZ),trivial⟩),(show F2 (H1.R _) [] [] from trivial),b2⟩) ?_
  rintro ct cu cv M ac al cM ⟨D,u8,S,dL,Q,dM,L,bv,bt,aN,b4,a0,a1,b5,ax,ay,e⟩
  cases bv
  cases bt
  replace e:U6 i s t u w x al D u8 S Q L=some aw:=e
  obtain _|al:=al
  ·cases (show(none:Option _)=some aw from e)
  rw[U6.eq_2]at e
  obtain⟨cc,bD,e⟩:=B0 e
  obtain rfl:M.length=cc:=(F2.length ax).trans (oJ bD)
  obtain⟨df,cH,e⟩:=B0 e
  refine aI (λaA=>?_) (λaA=>?_)
  ·replace e:=ifP e aA
   obtain⟨T,bP,e⟩:=B0 e
   refine Tr.mono (W01 _ i aa _  bP) ?_
   rintro dz cN ⟨aQ,dc,aU,rfl,bh,ar⟩
   obtain⟨rfl,c1⟩:=Sl.len bh
   obtain⟨av,b1,e⟩:=B0 e
   refine eX { vars:=[70],boxes:=[3],owns:=[0,1],fuel:=true } (eX (λvs os l=>∃(C:Int) (y:Int) (z:Int) (o:List (List Value)) (f:List H4) (E:List (List Value)) (A:List M0),vs.tail = [.int .i64 C,.int .i64 y,.int .i64 z]/\os = [o,E]/\Sub h l/\K1.R l [.slice aQ T.length aU] T/\l g=some (g06 f)/\I0 C/\I0 y/\I0 z/\F2 (J3.R l) o f/\F2 (H1.R l) E A/\R3 T D i s t u w x (J1 vs) C y z f A=some av) (eX (λ_ _=>0) ?_))
   refine aI (eX U0 ⟨0,u8,S,M,Q,ac,L,rfl,rfl,(aN.trans ar),bh,ar _ _ b4,(by decide),a1,b5,(F2.up (r:=J3.toRp) ar ax),(F2.up (r:=H1.toRp) ar ay),b1⟩) ?_
   rintro ct cu cv o E H cO ⟨C,y,z,dN,f,dO,A,bu,bs,aq,bg,aX,cJ,O,P,F,K,a⟩
   cases bu
   cases bs
   replace a:R3 T D i s t u w x H C y z f A=some av:=a
   obtain _|H:=H
   ·cases (show(none:Option _)=some av from a)
   rw[R3.eq_2]at a
   refine aI (λaB=>?_) (λaB=>?_)
   ·replace a:=ifP a aB
    obtain⟨au,bR,a⟩:=B0 a
    obtain⟨bn,cA,bx,ci⟩:=Sl.getI (r:=Wp.int.toRp) bg bR (by decide)
    refine aI bn ?_
    obtain⟨rfl,ak⟩:=ci
    refine eX _ (aI bx ?_)
    refine Or.inr (Or.inr (Or.inr (Or.inl (aI (aI (by kernel_rfl) (by kernel_rfl)) ?_))))
    obtain⟨dF,bT,a⟩:=B0 a
    obtain⟨bo,cC,bz,cj⟩:=V1 F bT
    obtain⟨bj,dG,rfl,rfl,b6,cK⟩:=c00 cj
    try dsimp only at a
    refine Or.inl ?_
    apply eX
    refine aI ?_ ?_
    ·intro cP ds
     exact aI bo (aI rfl (aI rfl rfl))
    refine Or.inl ?_
    apply eX
    refine aI ?_ ?_
    ·intro cQ dt
     exact aI rfl (aI rfl rfl)
    refine Or.inl (eX (.val (.int .i64 bj)) (aI ?_ ?_))
    ·intro cR du
     exact eX _ (aI bz (aI rfl (aI rfl rfl)))
    obtain⟨c,bU,a⟩:=B0 a
    obtain⟨dg,bH,a⟩:=B0 a
    have aL:I0 c:=N0 bH
    refine Or.inl (eX (.val (.int .i64 c)) (aI ?_ ?_))
    ·intro cS cp
     exact Tr.val (B4 _ [.int .i64 i,.int .i64 s,.slice ad t.length af] (i,s,t) (l0 aa aH (S0.mono (aq.trans cp) an)) bj b6 au ak _ bU) (aI rfl (aI rfl rfl))
    obtain⟨dH,bW,a⟩:=B0 a
    obtain⟨bp,cD,bA,ck⟩:=V1 F bW
    obtain⟨dI,bk,rfl,rfl,cL,b7⟩:=c00 ck
    try dsimp only at a
    refine Or.inl ?_
    apply eX
    refine aI ?_ ?_
    ·intro cT dv
     exact aI bp (aI rfl (aI rfl rfl))
    refine Or.inl ?_
    apply eX
    refine aI ?_ ?_
    ·intro cU dw
     exact aI rfl (aI rfl rfl)
    refine Or.inl (eX (.val (.int .i64 bk)) (aI ?_ ?_))
    ·intro cV dx
     exact eX _ (aI bA (aI rfl (aI rfl rfl)))
    obtain⟨d,bX,a⟩:=B0 a
    obtain⟨dh,bI,a⟩:=B0 a
    have aM:I0 d:=N0 bI
    refine Or.inl (eX (.val (.int .i64 d)) (aI ?_ ?_))
    ·intro cW cq
     exact Tr.val (B4 _ [.int .i64 u,.int .i64 w,.slice ae x.length ag] (u,w,x) (l0 aJ aK (S0.mono (aq.trans cq) ao)) bk b7 au ak _ bX) (aI rfl (aI rfl rfl))
    intro ab m
    have N:=m _ _ aX
    have ap:=aq.trans m
    have am:=K1.mono m bg
    refine aI (λaD=>?_) (λaD=>?_)
    ·replace a:=ifP a aD
     refine aI rfl (aI (by trivial) (aI (by trivial) (eX H (aI ⟨(IntKind.i64.wrap (C+1)),y,z,o,f,E,A,rfl,rfl,ap,am,N,(J0 _),O,P,(F2.up (r:=J3.toRp) m F),(F2.up (r:=H1.toRp) m K),a⟩ (nS _)))))
    ·replace a:=ifN a aD
     obtain⟨aP,aV,a⟩:=B0 a
     refine eX (.tuple #[.int .i64 (lkI aP),.bool (lkB aP)]) (eX _ (aI (n0s w0r rfl rfl (p:=(c,d)) rfl N aV) ?_))
     obtain⟨bB,b8⟩:=G0k aV
     refine aI (λaj=>?_) (λaj=>?_)
     ·replace a:=ifP a aj
      obtain⟨cd,bE,a⟩:=B0 a
      obtain rfl:o.length=cd:=(F2.length (F2.up (r:=J3.toRp) m F)).trans (oJ bE)
      obtain⟨di,bJ,a⟩:=B0 a
      refine eX undef (eX _ (aI (J0q w0r (.inl rfl) rfl (p:=(c,d)) rfl (ps:=f) (by exact congrArg (λn:Nat=>Value.int .i64 (n:Int)) (F2.length F)) N (K0q (by rw[←bB];exact aj))) ?_))
      have bi:Sub h (ab.set g (g06 (f ++ [(c,d)]))):=Sub.setNone az ap
      have aW:(ab.set g (g06 (f ++ [(c,d)]))) g=some (g06 (f ++ [(c,d)])):=Hp.set_same _ _ _
      have bf:K1.R (ab.set g (g06 (f ++ [(c,d)]))) [.slice aQ T.length aU] T:=o0s N am
      have ah:F2 (J3.R (ab.set g (g06 (f ++ [(c,d)])))) o f:=F
      have ai:F2 (H1.R (ab.set g (g06 (f ++ [(c,d)])))) E A:=K
      obtain⟨dj,bK,a⟩:=B0 a
      refine aI (Y1 bK (by first|rw[F2.length ah,F2.length (show F2 (J3.R _) ([[.int .i64 c,.int .i64 d]]:List (List Value)) [(c,d)] from⟨(C2 aL aM),trivial⟩)]|exact congrArg (·+1) (F2.length ah))) ?_
      refine aI (λaE=>?_) (λaE=>?_)
      ·replace a:=ifP a aE
       refine Or.inr (Or.inr (Or.inl (aI (aI (by kernel_rfl) (by kernel_rfl)) ?_)))
       refine Or.inr ?_
       refine Or.inr ?_
       refine Or.inr ?_
       refine Or.inr ?_
       refine Or.inl (eX 1 (aI (aI rfl rfl) ?_))
       obtain⟨dJ,bY,a⟩:=B0 a
       refine Tr.mono (d08 _ D a0 au ak ((o.length:Nat):Int) (E0j (N0 bJ)) _  bY) ?_
       rintro dA cX ⟨cE,rfl,cl,I⟩
       obtain⟨U,V,W,rfl,rfl,a2,a3,a4⟩:=Q1 cl
       try dsimp only at a
       refine aI (aI rfl I) (aI (by first|exact trivial|exact rfl) ?_)
       refine aI trivial (aI (by first|exact trivial|exact rfl) ?_)
       obtain⟨dk,bL,a⟩:=B0 a
       refine aI (Y1 bL (by first|rw[F2.length (F2.up (r:=H1.toRp) I ai),F2.length (show F2 (H1.R _) ([[.int .i64 U,.int .i64 V,.int .i64 W]]:List (List Value)) [(U,V,W)] from⟨(T1 a2 a3 a4),trivial⟩)]|exact congrArg (·+1) (F2.length (F2.up (r:=H1.toRp) I ai)))) ?_
       refine aI trivial (aI (by first|exact trivial|exact rfl) ?_)
       refine aI trivial (aI (by first|exact trivial|exact rfl) ?_)
       refine aI rfl (aI (by trivial) (aI (by trivial) (eX H (aI ⟨(IntKind.i64.wrap (C+1)),y,z,(o++([[.int .i64 c,.int .i64 d]]:List (List Value))),(f ++ [(c,d)]),(E++([[.int .i64 U,.int .i64 V,.int .i64 W]]:List (List Value))),(A ++ [(U,V,W)]),rfl,rfl,(bi.trans I),(K1.mono I bf),I _ _ aW,(J0 _),O,P,(F2.up (r:=J3.toRp) I (F2.append ah (show F2 (J3.R _) ([[.int .i64 c,.int .i64 d]]:List (List Value)) [(c,d)] from⟨(C2 aL aM),trivial⟩))),(F2.append (F2.up (r:=H1.toRp) I ai) (show F2 (H1.R _) ([[.int .i64 U,.int .i64 V,.int .i64 W]]:List (List Value)) [(U,V,W)] from⟨(T1 a2 a3 a4),trivial⟩)),a⟩ (nS _)))))
      ·replace a:=ifN a aE
       refine aI rfl (aI (by trivial) (aI (by trivial) (eX H (aI ⟨(IntKind.i64.wrap (C+1)),y,z,(o++([[.int .i64 c,.int .i64 d]]:List (List Value))),(f ++ [(c,d)]),E,A,rfl,rfl,bi,bf,aW,(J0 _),O,P,(F2.append ah (show F2 (J3.R _) ([[.int .i64 c,.int .i64 d]]:List (List Value)) [(c,d)] from⟨(C2 aL aM),trivial⟩)),ai,a⟩ (nS _)))))
     ·replace a:=ifN a aj
      refine aI (λaF=>?_) (λaF=>?_)
      ·replace a:=ifP a aF
       refine Or.inr (Or.inr (Or.inl (aI (aI (by kernel_rfl) (by kernel_rfl)) ?_)))
       refine Or.inr ?_
       refine Or.inr ?_
       refine Or.inr ?_
       refine Or.inr ?_
       refine Or.inl (eX 1 (aI (aI rfl rfl) ?_))
       obtain⟨dK,bZ,a⟩:=B0 a
       refine Tr.mono (d08 _ D a0 au ak (lkI aP) b8 _  bZ) ?_
       rintro dB cY ⟨cG,rfl,cm,J⟩
       obtain⟨X,Y,Z,rfl,rfl,ba,bb,bc⟩:=Q1 cm
       try dsimp only at a
       refine aI (aI rfl J) (aI (by first|exact trivial|exact rfl) ?_)
       refine aI trivial (aI (by first|exact trivial|exact rfl) ?_)
       obtain⟨dm,bM,a⟩:=B0 a
       refine aI (Y1 bM (by first|rw[F2.length (F2.up (r:=H1.toRp) (m.trans J) K),F2.length (show F2 (H1.R _) ([[.int .i64 X,.int .i64 Y,.int .i64 Z]]:List (List Value)) [(X,Y,Z)] from⟨(T1 ba bb bc),trivial⟩)]|exact congrArg (·+1) (F2.length (F2.up (r:=H1.toRp) (m.trans J) K)))) ?_
       refine aI trivial (aI (by first|exact trivial|exact rfl) ?_)
       refine aI trivial (aI (by first|exact trivial|exact rfl) ?_)
       refine aI rfl (aI (by trivial) (aI (by trivial) (eX H (aI ⟨(IntKind.i64.wrap (C+1)),y,z,o,f,(E++([[.int .i64 X,.int .i64 Y,.int .i64 Z]]:List (List Value))),(A ++ [(X,Y,Z)]),rfl,rfl,(ap.trans J),(K1.mono J am),J _ _ N,(J0 _),O,P,(F2.up (r:=J3.toRp) (m.trans J) F),(F2.append (F2.up (r:=H1.toRp) (m.trans J) K) (show F2 (H1.R _) ([[.int .i64 X,.int .i64 Y,.int .i64 Z]]:List (List Value)) [(X,Y,Z)] from⟨(T1 ba bb bc),trivial⟩)),a⟩ (nS _)))))
      ·replace a:=ifN a aF
       refine aI rfl (aI (by trivial) (aI (by trivial) (eX H (aI ⟨(IntKind.i64.wrap (C+1)),y,z,o,f,E,A,rfl,rfl,ap,am,N,(J0 _),O,P,(F2.up (r:=J3.toRp) m F),(F2.up (r:=H1.toRp) m K),a⟩ (nS _)))))
   ·replace a:=ifN a aB
    have G:=oJ a;subst G
    try dsimp only[W0,Y0]at e
    refine aI rfl (aI (by trivial) (aI (by trivial) (eX al (aI ⟨(IntKind.i64.wrap (D+1)),y,z,o,f,E,A,rfl,rfl,aq,aX,(J0 _),O,P,F,K,e⟩ (nS _)))))
  ·replace e:=ifN e aA
   have G:=oJ e;subst G
   try dsimp only[W0,Y0]at b
   obtain⟨ce,bF,b⟩:=B0 b
   obtain rfl:M.length=ce:=(F2.length ax).trans (oJ bF)
   obtain⟨dn,bN,b⟩:=B0 b
   obtain⟨cf,bG,b⟩:=B0 b
   obtain rfl:ac.length=cf:=(F2.length ay).trans (oJ bG)
   obtain⟨dq,cI,b⟩:=B0 b
   refine aI (λaG=>?_) (λaG=>?_)
   ·replace b:=ifP b aG
    have G:=oJ b;subst G
    exact⟨([.int .i64 0,.int .i64 0,.slice none 0 0]),rfl,(New.pair (New.int (by decide)) (New.pair (New.int (by decide)) ((New.nilSlice (r:=H1)).mono aN)))⟩
   ·replace b:=ifN b aG
    refine Or.inl ?_
    intro dC ca bC
    obtain⟨bm,br,rfl,co,cs,c3⟩:=G1.out (r:=H1.toRp) bC ay
    obtain⟨cz,b0,b⟩:=B0 b
    refine Tr.mono (y03 _ bm L.length br L co _  b0) ?_
    rintro dD cb ⟨bl,dd,bq,rfl,aO⟩
    have dy:Sub ca cb:=aO.sub
    have cn:=aO.r
    obtain⟨rfl,c2⟩:=Sl.len cn
    have G:=oJ b;subst G
    exact⟨([.int .i64 u8,.int .i64 ((M.length:Nat):Int),.slice bl cz.length bq]),rfl,(New.pair (New.int a1) (New.pair (New.int (E0j (N0 bN))) (New.from aO (aN.trans cs))))⟩
theorem l03(h:Hp)(t:List Value)(C:j0)(Q:V0.R h t C)(u:List Value)(D:j0)(S:V0.R h u D)(r:j0×Bool)(a:r7 C D=some r):
  Tr Tryz.prog 147 #[.agg t.toArray,.agg u.toArray] h λv I=>∃(s:List Value),v = .tuple #[.agg s.toArray,.bool r.2]/\New V0 h I s r.1:=by
 obtain⟨c,d,m,aj,o,e,rfl,rfl,w,x,j⟩:=H0 Q
 obtain⟨rfl,af⟩:=Sl.len j
 obtain⟨f,g,n,ak,p,i,rfl,rfl,y,z,k⟩:=H0 S
 obtain⟨rfl,ag⟩:=Sl.len k
 unfold r7 at a
 dsimp only at a
 refine I3 (args:=[.agg #[.int .i64 c,.int .i64 d,.slice m e.length o],.agg #[.int .i64 f,.int .i64 g,.slice n i.length p]]) (fn:=Tryz.f147) rfl ?_
 refine trV a (A7 _ _ _ (l0 w x j)) λar a=>?_
 refine trG a (λq=>A7 _ _ _ (l0 y z k)) λau a=>?_
 refine ifB a (λJ a=>?_) λJ a=>?_
 ·obtain rfl:=oJ a
  exact⟨([.int .i64 0,.int .i64 0,.slice none 0 0]),rfl,(New.pair (New.int (by decide)) (New.pair (New.int (by decide)) ((New.nilSlice (r:=H1)).mono (Sub.refl _))))⟩
 ·refine trM a (d0b _ [.int .i64 c,.int .i64 d,.slice m e.length o] (c,d,e) (l0 w x j) [.int .i64 f,.int .i64 g,.slice n i.length p] (f,g,i) (l0 y z k) 0 (by decide) 0 (by decide)) ?_
  rintro X a ap A ⟨ac,rfl,b⟩
  obtain⟨av,az⟩:=X
  dsimp only at a b
  have F:Sub h A:=b.sub
  have T:=b.r
  obtain⟨aw,ax,ab,al,ae,ay,rfl,rfl,L,M,E⟩:=H0 T
  obtain⟨rfl,ah⟩:=Sl.len E
  try dsimp only at a
  have aq:=New.sndI (New.sndI (b))
  refine ifB a (λK a=>?_) λK a=>?_
  ·obtain rfl:=oJ a
   exact⟨([.int .i64 0,.int .i64 0,.slice none 0 0]),rfl,(New.pair (New.int (by decide)) (New.pair (New.int (by decide)) ((New.nilSlice (r:=H1)).mono F)))⟩
  ·refine trM a (l06 _ _ _ (l0 L M E)) ?_
   rintro aA a ao P ⟨ad,rfl,l⟩
   have an:Sub A P:=l.sub
   have U:=l.r
   obtain⟨Y,Z,G,am,H,aa,rfl,rfl,N,O,V⟩:=H0 U
   obtain⟨rfl,ai⟩:=Sl.len V
   try dsimp only at a
   have W:=New.sndI (New.sndI (l))
   obtain rfl:=oJ a
   exact⟨([.int .i64 Y,.int .i64 Z,.slice G aa.length H]),rfl,(New.pair (New.int N) (New.pair (New.int O) (New.from W F)))⟩
theorem Z0c(h:Hp)(c:Int)(D:I0 c)(r:P0)(f:d4 c=some r):
  Tr Tryz.prog 309 #[.int .i64 c] h λv g=>∃(n:Option Addr) (t o:Nat),v = .slice n t o/\New K1 h g [.slice n t o] r:=by
 unfold d4 at f
 refine I3 (args:=[.int .i64 c]) (fn:=Tryz.f309) rfl ?_
 obtain⟨k,C,f⟩:=B0 f
 refine eX { vars:=[4],boxes:=[],owns:=[0],fuel:=true } (eX (λvs os g=>∃(a:Int) (j:List (List Value)) (d:List Int),vs.tail = [.int .i64 a]/\os = [j]/\Sub h g/\I0 a/\F2 (Wp.int.R g) j d/\l5 c (J1 vs) a d=some k) (eX (λ_ _=>0) ?_))
 refine aI (eX U0 ⟨1,[],([]:P0),rfl,rfl,(Sub.refl _),(by decide),(show F2 (Wp.int.R h) ([]:List (List Value)) ([]:P0) from trivial),C⟩) ?_
 rintro K j i s ⟨a,L,d,z,y,u,q,e,b⟩
 cases z
 cases y
 replace b:l5 c i a d=some k:=b
 obtain _|i:=i
 ·cases (show(none:Option _)=some k from b)
 rw[l5.eq_2]at b
 refine aI (λm=>?_) (λm=>?_)
 ·replace b:=ifP b m
  obtain⟨G,A,b⟩:=B0 b
  refine aI (Y1 A (by first|rw[F2.length e,F2.length (show F2 (Wp.int.R s) ([[.int .i64 a],[.int .i64 (IntKind.i64.wrap (0-a))]]:List (List Value)) [a,(IntKind.i64.wrap (0-a))] from⟨⟨rfl,q⟩,⟨⟨rfl,(J0 _)⟩,trivial⟩⟩)]|exact congrArg (·+2) (F2.length e))) ?_
  refine aI rfl (aI (by trivial) (aI (by trivial) (eX i (aI ⟨(IntKind.i64.wrap (a+1)),(j++([[.int .i64 a],[.int .i64 (IntKind.i64.wrap (0-a))]]:List (List Value))),(d ++ [a,(IntKind.i64.wrap (0-a))]),rfl,rfl,u,(J0 _),(F2.append e (show F2 (Wp.int.R s) ([[.int .i64 a],[.int .i64 (IntKind.i64.wrap (0-a))]]:List (List Value)) [a,(IntKind.i64.wrap (0-a))] from⟨⟨rfl,q⟩,⟨⟨rfl,(J0 _)⟩,trivial⟩⟩)),b⟩ (nS _)))))
 ·replace b:=ifN b m
  have l:=oJ b;subst l
  try dsimp only[W0,Y0]at f
  intro J E p
  obtain⟨w,x,rfl,H,I,F⟩:=G1.out (r:=Wp.int.toRp) p e
  have l:=oJ f;subst l
  exact⟨w,d.length,x,rfl,(New.from (G1.newPlain (r:=Wp.int) p e (b0e _)) u)⟩
set_option maxHeartbeats 0 in
theorem b0g(h:Hp)(bo:List Value)(bU:j0)(d2:V0.R h bo bU)(bp:List Value)(bV:j0)(d3:V0.R h bp bV)(r:t05×D4)(l:C01 bU bV=some r):
  Tr Tryz.prog 308 #[.agg bo.toArray,.agg bp.toArray] h λv k=>∃(bf:Option Addr) (bR bk:Nat) (bg:Option Addr) (bS bl:Nat),v = .tuple #[.slice bf bR bk,.slice bg bS bl]/\z0i.R k [.slice bf bR bk] r.1/\k02.R k [.slice bg bS bl] r.2/\Sub h k:=by
 have c:=H0 d2
 obtain⟨u,i,bh,gr,bm,D,rfl,rfl,bJ,dK,bW⟩:=c
 have c:=Sl.len bW
 obtain⟨rfl,gb⟩:=c
 have c:=H0 d3
 obtain⟨E,j,bi,gs,bn,F,rfl,rfl,dL,dM,bX⟩:=c
 have c:=Sl.len bX
 obtain⟨rfl,gc⟩:=c
 unfold C01 at l
 dsimp only at l
 refine I3 (args:=[.agg #[.int .i64 u,.int .i64 i,.slice bh D.length bm],.agg #[.int .i64 E,.int .i64 j,.slice bi F.length bn]]) (fn:=Tryz.f308) rfl ?_
 have c:=B0 l
 obtain⟨gD,c3,l⟩:=c
 refine aI (N0 c3) ?_
 have c:=B0 l
 obtain⟨dT,c0,l⟩:=c
 have c:(List.replicate i.toNat ([.slice none 0 0]:List Value)).length=dT:=(F2.length (F2.rep (p:=K1.R h) (a:=[.slice none 0 0]) (b:=[]) (F0j Wp.int h) (i.toNat))).trans (oJ c0)
 obtain rfl:=c
 have c:=B0 l
 obtain⟨gM,fl,l⟩:=c
 have c:=B0 l
 obtain⟨aF,dH,l⟩:=c
 refine eX { vars:=[24],boxes:=[],owns:=[0],fuel:=true,kept:=[0] } (eX (λvs os k=>∃(H:Int) (U:List (List Value)) (aA:List P0),vs.tail = [.int .i64 H]/\os = [U]/\Mat h k U aA/\I0 H/\F8 ((List.replicate i.toNat ([.slice none 0 0]:List Value))).length j (J1 vs) H aA=some aF) (eX (λ_ _=>0) ?_))
 refine aI (eX U0 ⟨0,(List.replicate i.toNat ([.slice none 0 0]:List Value)),(List.replicate i.toNat ([]:P0)),rfl,rfl,(Mat.nil h _),(by decide),dH⟩) ?_
 rintro an U ay bO ⟨H,hz,aA,cH,cz,aZ,fq,f⟩
 have cX:=aZ.f2
 cases cH
 cases cz
 replace f:F8 ((List.replicate i.toNat ([.slice none 0 0]:List Value))).length j ay H aA=some aF:=f
 obtain _|ay:=ay
 ·have c:=(show(none:Option _)=some aF from f)
  cases c
 rw[F8.eq_2]at f
 refine aI (λaS=>?_) (λaS=>?_)
 ·replace f:=ifP f aS
  have c:=B0 f
  obtain⟨gE,c4,f⟩:=c
  refine aI (N0 c4) ?_
  have c:=B0 f
  obtain⟨hb,dm,f⟩:=c
  have c:=V1 cX dm
  obtain⟨cb,eM,cL,bY⟩:=c
  refine aI cb ?_
  have c:=Wp.slice_cell bY
  obtain⟨ez,gt,e7,rfl⟩:=c
  have c:=Sl.len bY
  obtain⟨rfl,gd⟩:=c
  intro g4 fN bz
  have dZ:=G1.newPlain (r:=Wp.int) bz (F2.rep (p:=Wp.int.R bO) (a:=[.int .i64 0]) (b:=0) ⟨rfl,(by decide)⟩ (j.toNat)) (λcs x q=>⟨q,rfl⟩)
  have bP:=aZ.row dZ H.toNat
  have c:=G1.out (r:=Wp.int.toRp) bz (F2.rep (p:=Wp.int.R bO) (a:=[.int .i64 0]) (b:=0) ⟨rfl,(by decide)⟩ (j.toNat))
  obtain⟨bj,bq,rfl,gP,g3,go⟩:=c
  refine eX _ (aI cL ?_)
  have c:=B0 f
  obtain⟨b3,dv,f⟩:=c
  have c:=V1 bP.f2 dv
  obtain⟨ck,eV,cQ,bZ⟩:=c
  refine aI ck ?_
  have c:=Wp.slice_cell bZ
  obtain⟨eF,gy,fc,rfl⟩:=c
  have c:=Sl.len bZ
  obtain⟨rfl,gj⟩:=c
  refine eX _ (aI cQ ?_)
  have c:=B0 f
  obtain⟨aC,dE,f⟩:=c
  refine eX { vars:=[38],boxes:=[],owns:=[],fuel:=true } (eX (λvs os k=>∃(ad:Int) (am:D4),vs.tail = [.int .i64 ad]/\os = []/\Mat h k (U.set H.toNat [.slice bj ((List.replicate j.toNat (0:Int))).length bq]) am/\I0 ad/\D8 H b3.length (J1 vs) ad am=some aC) (eX (λ_ _=>0) ?_))
  refine aI (eX U0 ⟨0,_,rfl,rfl,bP,(by decide),dE⟩) ?_
  rintro an av fQ ⟨ad,am,cD,cw,aY,fo,e⟩
  cases cD
  cases cw
  replace e:D8 H b3.length av ad am=some aC:=e
  obtain _|av:=av
  ·have c:=(show(none:Option _)=some aC from e)
   cases c
  rw[D8.eq_2]at e
  refine aI (λaN=>?_) (λaN=>?_)
  ·replace e:=ifP e aN
   have c:=B0 e
   obtain⟨hk,bF,e⟩:=c
   have c:=V1 aY.f2 bF
   obtain⟨cl,eW,bt,a4⟩:=c
   refine aI cl ?_
   have c:=Wp.slice_cell a4
   obtain⟨eG,gz,fd,rfl⟩:=c
   have c:=Sl.len a4
   obtain⟨rfl,gk⟩:=c
   refine eX _ (aI bt ?_)
   have c:=B0 e
   obtain⟨hl,bG,e⟩:=c
   have c:=Sl.getI (r:=Wp.int.toRp) a4 bG (by decide)
   obtain⟨cm,eY,fj,ef⟩:=c
   refine aI cm ?_
   obtain⟨rfl,fy⟩:=ef
   refine aY.put bF bt bG (by decide) (by simp) (λfR dU=>?_)
   refine aI rfl (aI (by trivial) (aI (by trivial) (eX av (aI ⟨(IntKind.i64.wrap (ad+1)),_,rfl,rfl,dU,(J0 _),e⟩ (nS _)))))
  ·replace e:=ifN e aN
   have o:=oJ e;subst o
   try dsimp only[W0,Y0]at f
   refine aI rfl (aI (by trivial) (aI (by trivial) (eX ay (aI ⟨(IntKind.i64.wrap (H+1)),(U.set H.toNat [.slice bj ((List.replicate j.toNat (0:Int))).length bq]),am,rfl,rfl,aY,(J0 _),f⟩ (nS _)))))
 ·replace f:=ifN f aS
  have o:=oJ f;subst o
  try dsimp only[W0,Y0]at l
  have c:=B0 l
  obtain⟨aD,dF,l⟩:=c
  refine eX { vars:=[10],boxes:=[],owns:=[1],fuel:=true } (eX (λvs os k=>∃(s:Int) (aB:List (List Value)) (ae:List r00) (af:D4),vs.tail = [.int .i64 s]/\os = [aB]/\Mat h k U af/\I0 s/\F2 (D05.R h) aB ae/\E8 i j u D E F (J1 vs) s ae af=some aD) (eX (λ_ _=>0) ?_))
  refine aI (eX U0 ⟨0,[],([]:t05),_,rfl,rfl,aZ,(by decide),(show F2 (D05.R h) ([]:List (List Value)) ([]:t05) from trivial),dF⟩) ?_
  rintro an aB aw fS ⟨s,hw,ae,af,cE,cx,az,bK,bA,f⟩
  cases cE
  cases cx
  replace f:E8 i j u D E F aw s ae af=some aD:=f
  obtain _|aw:=aw
  ·have c:=(show(none:Option _)=some aD from f)
   cases c
  rw[E8.eq_2]at f
  refine aI (λaO=>?_) (λaO=>?_)
  ·replace f:=ifP f aO
   have c:=B0 f
   obtain⟨aE,dG,f⟩:=c
   refine eX { vars:=[11],boxes:=[],owns:=[1],fuel:=true } (eX (λvs os k=>∃(w:Int) (T:List (List Value)) (G:List r00) (ag:D4),vs.tail = [.int .i64 w]/\os = [T]/\Mat h k U ag/\I0 w/\F2 (D05.R h) T G/\D7 j s u i D E F (J1 vs) w G ag=some aE) (eX (λ_ _=>0) ?_))
   refine aI (eX U0 ⟨0,aB,ae,af,rfl,rfl,az,(by decide),bA,dG⟩) ?_
   rintro an T ai fT ⟨w,hx,G,ag,cG,cy,aj,bL,W,e⟩
   cases cG
   cases cy
   replace e:D7 j s u i D E F ai w G ag=some aE:=e
   obtain _|ai:=ai
   ·have c:=(show(none:Option _)=some aE from e)
    cases c
   rw[D7.eq_2]at e
   refine aI (λaP=>?_) (λaP=>?_)
   ·replace e:=ifP e aP
    have c:=B0 e
    obtain⟨hm,dw,e⟩:=c
    have c:=V1 aj.f2 dw
    obtain⟨cn,eZ,cR,ba⟩:=c
    refine aI cn ?_
    have c:=Wp.slice_cell ba
    obtain⟨eH,gA,fe,rfl⟩:=c
    have c:=Sl.len ba
    obtain⟨rfl,gl⟩:=c
    refine eX _ (aI cR ?_)
    have c:=B0 e
    obtain⟨hn,dx,e⟩:=c
    have c:=Sl.getI (r:=Wp.int.toRp) ba dx (by decide)
    obtain⟨co,e0,cS,eg⟩:=c
    refine aI co ?_
    obtain⟨rfl,fz⟩:=eg
    refine eX _ (aI cS ?_)
    refine aI (λaQ=>?_) (λaQ=>?_)
    ·replace e:=ifP e aQ
     refine aI rfl (aI (by trivial) (aI (by trivial) (eX ai (aI ⟨(IntKind.i64.wrap (w+1)),T,G,ag,rfl,rfl,aj,(J0 _),W,e⟩ (nS _)))))
    ·replace e:=ifN e aQ
     have c:=B0 e
     obtain⟨ho,bH,e⟩:=c
     have c:=V1 aj.f2 bH
     obtain⟨cp,e1,bu,bb⟩:=c
     refine aI cp ?_
     have c:=Wp.slice_cell bb
     obtain⟨eI,gB,ff,rfl⟩:=c
     have c:=Sl.len bb
     obtain⟨rfl,gm⟩:=c
     refine eX _ (aI bu ?_)
     have c:=B0 e
     obtain⟨dV,c1,e⟩:=c
     have c:T.length=dV:=(F2.length W).trans (oJ c1)
     obtain rfl:=c
     have c:=B0 e
     obtain⟨gN,dj,e⟩:=c
     have c:=B0 e
     obtain⟨hp,bI,e⟩:=c
     have c:=Sl.getI (r:=Wp.int.toRp) bb bI (by decide)
     obtain⟨cq,e2,fk,eh⟩:=c
     refine aI cq ?_
     obtain⟨rfl,fA⟩:=eh
     refine aj.put bH bu bI (c64 (by omega) (by have:=N0 dj;omega)) (by simp) (λfU dW=>?_)
     have c:=B0 e
     obtain⟨aG,dI,e⟩:=c
     refine eX { vars:=[14],boxes:=[2],owns:=[2],fuel:=true } (eX (λvs os k=>∃(Y:Int) (y:Int) (z:Int) (A:Int) (C:Int) (I:Bool) (ao:List (List Value)) (al:List H4) (ah:D4),vs.tail = [.int .i64 Y,.int .i64 y,.int .i64 z,.int .i64 A,.int .i64 C,.bool I]/\os = [ao]/\Mat h k U ah/\I0 Y/\I0 y/\I0 z/\I0 A/\I0 C/\F2 (J3.R h) ao al/\C9 u i D E j F G (J1 vs) Y y z A C I al ah=some aG) (eX (λ_ _=>0) ?_))
     refine aI (eX U0 ⟨0,s,w,0,0,false,([[.int .i64 s,.int .i64 w]]:List (List Value)),([(s,w)]),_,rfl,rfl,dW,(by decide),bK,bL,(by decide),(by decide),(show F2 (J3.R h) ([[.int .i64 s,.int .i64 w]]:List (List Value)) [(s,w)] from⟨(C2 bK bL),trivial⟩),dI⟩) ?_
     rintro an et eu ew ex ey ao ax fV ⟨Y,y,z,A,C,I,hy,al,ah,cI,cA,bQ,fp,aU,aV,bM,aW,ap,g⟩
     cases cI
     cases cA
     replace g:C9 u i D E j F G ax Y y z A C I al ah=some aG:=g
     obtain _|ax:=ax
     ·have c:=(show(none:Option _)=some aG from g)
      cases c
     rw[C9.eq_2]at g
     have c:=B0 g
     obtain⟨dX,c2,g⟩:=c
     have c:ao.length=dX:=(F2.length ap).trans (oJ c2)
     obtain rfl:=c
     have c:=B0 g
     obtain⟨gO,fm,g⟩:=c
     refine aI (λaR=>?_) (λaR=>?_)
     ·replace g:=ifP g aR
      have c:=B0 g
      obtain⟨hq,dy,g⟩:=c
      have c:=n02 ap dy (J0p h)
      obtain⟨e3,bv,ei⟩:=c
      have c:=c00 ei
      obtain⟨bd,hr,rfl,rfl,fB,fC⟩:=c
      try dsimp only at g
      have c:=B0 g
      obtain⟨hs,dz,g⟩:=c
      have c:=n02 ap dz (J0p h)
      obtain⟨e4,bx,ej⟩:=c
      have c:=c00 ej
      obtain⟨ht,be,rfl,rfl,fD,fE⟩:=c
      try dsimp only at g
      refine Or.inr (Or.inr (Or.inr (Or.inr (eX 15 (aI (aI (by kernel_rfl) (by kernel_rfl)) ?_)))))
      refine Or.inl ?_
      apply eX
      refine aI ?_ ?_
      ·intro fW gT N
       exact aI (bv N).1 (aI rfl (aI rfl rfl))
      refine Or.inl ?_
      apply eX
      refine aI ?_ ?_
      ·intro fX gU N
       exact aI rfl (aI rfl rfl)
      refine Or.inl (eX (.val (.int .i64 bd)) (aI ?_ ?_))
      ·intro fY gV N
       exact eX _ (aI (bv N).2 (aI rfl (aI rfl rfl)))
      refine Or.inl ?_
      apply eX
      refine aI ?_ ?_
      ·intro fZ gW N
       exact aI (bx N).1 (aI rfl (aI rfl rfl))
      refine Or.inl ?_
      apply eX
      refine aI ?_ ?_
      ·intro f0 gX N
       exact aI rfl (aI rfl rfl)
      refine Or.inl (eX (.val (.int .i64 be)) (aI ?_ ?_))
      ·intro f1 gY N
       exact eX _ (aI (bx N).2 (aI rfl (aI rfl rfl)))
      refine Or.inl (eX (.val (.bool (decide (bd=be)))) (aI ?_ ?_))
      ·intro f4 gZ N
       exact aI rfl (aI rfl rfl)
      intro f5 es
      dsimp only[Z9,x0d,M0c]
      have c:=B0 g
      obtain⟨b4,dA,g⟩:=c
      refine Tr.mono (Z0c _ u bJ _  dA) ?_
      rintro g7 f6 ⟨eJ,gC,fg,rfl,bT⟩
      have ek:=bT.r
      have c:=Sl.len ek
      obtain⟨rfl,gn⟩:=c
      have c:=(bQ.up es).base bT
      obtain⟨dQ,bc,dY,d1⟩:=c
      have c:=B0 g
      obtain⟨aH,dJ,g⟩:=c
      refine eX { vars:=[115],boxes:=[2],owns:=[2],fuel:=true } (eX (λvs os k=>∃(O:Int) (J:Int) (K:Int) (L:Int) (M:Int) (P:Bool) (V:List (List Value)) (Q:List H4) (Z:D4),vs.tail = [.int .i64 O,.int .i64 J,.int .i64 K,.int .i64 L,.int .i64 M,.bool P]/\os = [V]/\Mat dQ k U Z/\I0 O/\I0 J/\I0 K/\I0 L/\I0 M/\F2 (J3.R h) V Q/\c5 b4 Y u i D E j F G (J1 vs) O J K L M P Q Z=some aH) (eX (λ_ _=>0) ?_))
      refine aI (eX U0 ⟨0,y,z,(IntKind.i64.wrap (A+1)),C,(bif I then true else(decide (bd=be))),ao,al,ah,rfl,rfl,dY,(by decide),aU,aV,(J0 _),aW,ap,dJ⟩) ?_
      rintro an et eu ew ex ey V X f7 ⟨O,J,K,L,M,P,hA,Q,Z,cJ,cC,ak,fs,aa,ab,ac,aq,t,d⟩
      cases cJ
      cases cC
      replace d:c5 b4 Y u i D E j F G X O J K L M P Q Z=some aH:=d
      obtain _|X:=X
      ·have c:=(show(none:Option _)=some aH from d)
       cases c
      rw[c5.eq_2]at d
      refine aI (λaT=>?_) (λaT=>?_)
      ·replace d:=ifP d aT
       have c:=B0 d
       obtain⟨b5,dB,d⟩:=c
       have c:=Sl.getI (r:=Wp.int.toRp) (K1.mono ak.sub d1) dB (by decide)
       obtain⟨cr,e5,cT,el⟩:=c
       refine aI cr ?_
       obtain⟨rfl,bN⟩:=el
       refine eX _ (aI cT ?_)
       have c:=B0 d
       obtain⟨hu,dC,d⟩:=c
       have c:=V1 t dC
       obtain⟨ct,e6,cU,em⟩:=c
       have c:=c00 em
       obtain⟨b6,hv,rfl,rfl,dO,fF⟩:=c
       try dsimp only at d
       have c:=B0 d
       obtain⟨n,dD,d⟩:=c
       have c:=B0 d
       obtain⟨gF,db,d⟩:=c
       have au:I0 n:=N0 db
       have c:=B0 d
       obtain⟨g8,dk,d⟩:=c
       have c:=V1 t dk
       obtain⟨ca,eK,cK,ea⟩:=c
       have c:=c00 ea
       obtain⟨ha,b2,rfl,rfl,ft,dN⟩:=c
       try dsimp only at d
       have c:=B0 d
       obtain⟨m,dn,d⟩:=c
       have c:=B0 d
       obtain⟨gG,dc,d⟩:=c
       have ar:I0 m:=N0 dc
       refine Or.inr (Or.inr (Or.inr (Or.inl (aI (aI (by kernel_rfl) (by kernel_rfl)) ?_))))
       refine Or.inl ?_
       apply eX
       refine aI ?_ ?_
       ·intro f8 g0
        exact aI ct (aI rfl (aI rfl rfl))
       refine Or.inl ?_
       apply eX
       refine aI ?_ ?_
       ·intro f9 g1
        exact aI rfl (aI rfl rfl)
       refine Or.inl (eX (.val (.int .i64 b6)) (aI ?_ ?_))
       ·intro ga g2
        exact eX _ (aI cU (aI rfl (aI rfl rfl)))
       refine Or.inl (eX (.val (.int .i64 n)) (aI ?_ ?_))
       ·intro fG ep
        exact Tr.val (B4 _ [.int .i64 u,.int .i64 i,.slice bh D.length bm] (u,i,D) (l0 bJ dK (S0.mono ((bc.trans ak.sub).trans ep) bW)) b6 dO b5 bN _ dD) (aI rfl (aI rfl rfl))
       refine Or.inl ?_
       apply eX
       refine aI ?_ ?_
       ·intro fH gQ
        exact aI ca (aI rfl (aI rfl rfl))
       refine Or.inl ?_
       apply eX
       refine aI ?_ ?_
       ·intro fJ gR
        exact aI rfl (aI rfl rfl)
       refine Or.inl (eX (.val (.int .i64 b2)) (aI ?_ ?_))
       ·intro fK gS
        exact eX _ (aI cK (aI rfl (aI rfl rfl)))
       refine Or.inl (eX (.val (.int .i64 m)) (aI ?_ ?_))
       ·intro fL eq
        exact Tr.val (B4 _ [.int .i64 E,.int .i64 j,.slice bi F.length bn] (E,j,F) (l0 dL dM (S0.mono ((bc.trans ak.sub).trans eq) bX)) b2 dN b5 bN _ dn) (aI rfl (aI rfl rfl))
       intro fM er
       have S:=ak.up er
       dsimp only[Z9,x0d,M0c]
       refine aI (λaJ=>?_) (λaJ=>?_)
       ·replace d:=ifP d aJ
        refine aI rfl (aI (by trivial) (aI (by trivial) (eX X (aI ⟨(IntKind.i64.wrap (O+1)),J,K,L,M,P,V,Q,Z,rfl,rfl,S,(J0 _),aa,ab,ac,aq,t,d⟩ (nS _)))))
       ·replace d:=ifN d aJ
        refine aI (λaK=>?_) (λaK=>?_)
        ·replace d:=ifP d aK
         have c:=B0 d
         obtain⟨hc,dq,d⟩:=c
         have c:=V1 S.f2 dq
         obtain⟨cc,eN,cM,a0⟩:=c
         refine aI cc ?_
         have c:=Wp.slice_cell a0
         obtain⟨eA,gu,e8,rfl⟩:=c
         have c:=Sl.len a0
         obtain⟨rfl,ge⟩:=c
         refine eX _ (aI cM ?_)
         have c:=B0 d
         obtain⟨hd,ds,d⟩:=c
         have c:=Sl.getI (r:=Wp.int.toRp) a0 ds (by decide)
         obtain⟨cd,eO,cN,eb⟩:=c
         refine aI cd ?_
         obtain⟨rfl,fu⟩:=eb
         refine eX _ (aI cN ?_)
         refine aI (λaL=>?_) (λaL=>?_)
         ·replace d:=ifP d aL
          have c:=B0 d
          obtain⟨he,bB,d⟩:=c
          have c:=V1 S.f2 bB
          obtain⟨ce,eP,br,a1⟩:=c
          refine aI ce ?_
          have c:=Wp.slice_cell a1
          obtain⟨eC,gv,e9,rfl⟩:=c
          have c:=Sl.len a1
          obtain⟨rfl,gf⟩:=c
          refine eX _ (aI br ?_)
          have c:=B0 d
          obtain⟨dR,cY,d⟩:=c
          have c:T.length=dR:=(F2.length W).trans (oJ cY)
          obtain rfl:=c
          have c:=B0 d
          obtain⟨gH,dd,d⟩:=c
          have c:=B0 d
          obtain⟨hf,bC,d⟩:=c
          have c:=Sl.getI (r:=Wp.int.toRp) a1 bC (by decide)
          obtain⟨cf,eQ,fh,ec⟩:=c
          refine aI cf ?_
          obtain⟨rfl,fv⟩:=ec
          refine S.put bB br bC (c64 (by omega) (by have:=N0 dd;omega)) (by simp) (λdP aX=>?_)
          have c:=B0 d
          obtain⟨gI,df,d⟩:=c
          refine aI (Y1 df (by first|rw[F2.length t,F2.length (show F2 (J3.R h) ([[.int .i64 n,.int .i64 m]]:List (List Value)) [(n,m)] from⟨(C2 au ar),trivial⟩)]|exact congrArg (·+1) (F2.length t))) ?_
          refine aI rfl (aI (by trivial) (aI (by trivial) (eX X (aI ⟨(IntKind.i64.wrap (O+1)),J,K,L,(IntKind.i64.wrap (M+1)),P,(V++([[.int .i64 n,.int .i64 m]]:List (List Value))),(Q ++ [(n,m)]),_,rfl,rfl,aX,(J0 _),aa,ab,ac,(J0 _),(F2.append t (show F2 (J3.R h) ([[.int .i64 n,.int .i64 m]]:List (List Value)) [(n,m)] from⟨(C2 au ar),trivial⟩)),d⟩ (nS _)))))
         ·replace d:=ifN d aL
          refine aI rfl (aI (by trivial) (aI (by trivial) (eX X (aI ⟨(IntKind.i64.wrap (O+1)),J,K,L,(IntKind.i64.wrap (M+1)),P,V,Q,Z,rfl,rfl,S,(J0 _),aa,ab,ac,(J0 _),t,d⟩ (nS _)))))
        ·replace d:=ifN d aK
         have c:=B0 d
         obtain⟨hg,dt,d⟩:=c
         have c:=V1 S.f2 dt
         obtain⟨cg,eR,cO,a2⟩:=c
         refine aI cg ?_
         have c:=Wp.slice_cell a2
         obtain⟨eD,gw,fa,rfl⟩:=c
         have c:=Sl.len a2
         obtain⟨rfl,gg⟩:=c
         refine eX _ (aI cO ?_)
         have c:=B0 d
         obtain⟨hh,du,d⟩:=c
         have c:=Sl.getI (r:=Wp.int.toRp) a2 du (by decide)
         obtain⟨ch,eS,cP,ed⟩:=c
         refine aI ch ?_
         obtain⟨rfl,fw⟩:=ed
         refine eX _ (aI cP ?_)
         refine aI (λaM=>?_) (λaM=>?_)
         ·replace d:=ifP d aM
          have c:=B0 d
          obtain⟨hi,bD,d⟩:=c
          have c:=V1 S.f2 bD
          obtain⟨ci,eT,bs,a3⟩:=c
          refine aI ci ?_
          have c:=Wp.slice_cell a3
          obtain⟨eE,gx,fb,rfl⟩:=c
          have c:=Sl.len a3
          obtain⟨rfl,gh⟩:=c
          refine eX _ (aI bs ?_)
          have c:=B0 d
          obtain⟨dS,cZ,d⟩:=c
          have c:T.length=dS:=(F2.length W).trans (oJ cZ)
          obtain rfl:=c
          have c:=B0 d
          obtain⟨gJ,dg,d⟩:=c
          have c:=B0 d
          obtain⟨hj,bE,d⟩:=c
          have c:=Sl.getI (r:=Wp.int.toRp) a3 bE (by decide)
          obtain⟨cj,eU,fi,ee⟩:=c
          refine aI cj ?_
          obtain⟨rfl,fx⟩:=ee
          refine S.put bD bs bE (c64 (by omega) (by have:=N0 dg;omega)) (by simp) (λdP aX=>?_)
          have c:=B0 d
          obtain⟨gK,dh,d⟩:=c
          refine aI (Y1 dh (by first|rw[F2.length t,F2.length (show F2 (J3.R h) ([[.int .i64 n,.int .i64 m]]:List (List Value)) [(n,m)] from⟨(C2 au ar),trivial⟩)]|exact congrArg (·+1) (F2.length t))) ?_
          refine aI rfl (aI (by trivial) (aI (by trivial) (eX X (aI ⟨(IntKind.i64.wrap (O+1)),J,K,L,M,P,(V++([[.int .i64 n,.int .i64 m]]:List (List Value))),(Q ++ [(n,m)]),_,rfl,rfl,aX,(J0 _),aa,ab,ac,aq,(F2.append t (show F2 (J3.R h) ([[.int .i64 n,.int .i64 m]]:List (List Value)) [(n,m)] from⟨(C2 au ar),trivial⟩)),d⟩ (nS _)))))
         ·replace d:=ifN d aM
          refine aI rfl (aI (by trivial) (aI (by trivial) (eX X (aI ⟨(IntKind.i64.wrap (O+1)),J,K,L,M,P,V,Q,Z,rfl,rfl,S,(J0 _),aa,ab,ac,aq,t,d⟩ (nS _)))))
      ·replace d:=ifN d aT
       have o:=oJ d;subst o
       try dsimp only[W0,Y0]at g
       refine aI rfl (aI (by trivial) (aI (by trivial) (eX ax (aI ⟨(IntKind.i64.wrap (Y+1)),J,K,L,M,P,V,Q,Z,rfl,rfl,(ak.weak bc),(J0 _),aa,ab,ac,aq,t,g⟩ (nS _)))))
     ·replace g:=ifN g aR
      have o:=oJ g;subst o
      try dsimp only[W0,Y0]at e
      have c:=B0 e
      obtain⟨gL,di,e⟩:=c
      refine aI (Y1 di (by first|rw[F2.length W,F2.length (show F2 (D05.R h) ([[.int .i64 y,.int .i64 z,.int .i64 A,.int .i64 C,.bool I]]:List (List Value)) [(y,z,A,C,I)] from⟨(p0f aU aV bM aW),trivial⟩)]|exact congrArg (·+1) (F2.length W))) ?_
      refine aI rfl (aI (by trivial) (aI (by trivial) (eX ai (aI ⟨(IntKind.i64.wrap (w+1)),(T++([[.int .i64 y,.int .i64 z,.int .i64 A,.int .i64 C,.bool I]]:List (List Value))),(G ++ [(y,z,A,C,I)]),ah,rfl,rfl,bQ,(J0 _),(F2.append W (show F2 (D05.R h) ([[.int .i64 y,.int .i64 z,.int .i64 A,.int .i64 C,.bool I]]:List (List Value)) [(y,z,A,C,I)] from⟨(p0f aU aV bM aW),trivial⟩)),e⟩ (nS _)))))
   ·replace e:=ifN e aP
    have o:=oJ e;subst o
    try dsimp only[W0,Y0]at f
    refine aI rfl (aI (by trivial) (aI (by trivial) (eX aw (aI ⟨(IntKind.i64.wrap (s+1)),T,G,ag,rfl,rfl,aj,(J0 _),W,f⟩ (nS _)))))
  ·replace f:=ifN f aO
   have o:=oJ f;subst o
   try dsimp only[W0,Y0]at l
   intro g5 fO cV
   have c:=G1.out (r:=D05.toRp) cV (F2.up (r:=D05.toRp) az.sub bA)
   obtain⟨b7,cu,rfl,en,b0,gp⟩:=c
   intro g6 fP cW
   have c:=G1.out (r:=K1.toRp) cW (F2.up (r:=K1.toRp) b0 az.f2)
   obtain⟨b8,cv,rfl,eo,b1,gq⟩:=c
   have o:=oJ l;subst o
   exact⟨b7,ae.length,cu,b8,af.length,cv,rfl,(z0i.mono b1 en),eo,((az.sub.trans b0).trans b1)⟩
theorem j07(h:Hp)(G:List Value)(O:j0)(af:V0.R h G O)(H:List Value)(P:j0)(ag:V0.R h H P)(r:P0)(a:L8 O P=some r):
  Tr Tryz.prog 261 #[.agg G.toArray,.agg H.toArray] h λv g=>∃(z:Option Addr) (N D:Nat),v = .slice z N D/\K1.R g [.slice z N D] r/\Sub h g:=by
 obtain⟨l,m,A,aH,E,n,rfl,rfl,I,J,t⟩:=H0 af
 obtain⟨rfl,aB⟩:=Sl.len t
 obtain⟨o,p,C,aJ,F,s,rfl,rfl,K,L,u⟩:=H0 ag
 obtain⟨rfl,aC⟩:=Sl.len u
 unfold L8 at a
 dsimp only at a
 refine I3 (args:=[.agg #[.int .i64 l,.int .i64 m,.slice A n.length E],.agg #[.int .i64 o,.int .i64 p,.slice C s.length F]]) (fn:=Tryz.f261) rfl ?_
 refine trV a (A7 _ _ _ (l0 I J t)) λaQ a=>?_
 refine trG a (λq=>A7 _ _ _ (l0 K L u)) λaV a=>?_
 refine ifB a (λad a=>?_) λad a=>?_
 ·intro aP aA Z
  obtain⟨V,X,rfl,aj,al,aG⟩:=G1.out (r:=Wp.int.toRp) Z (show F2 (Wp.int.R h) ([]:List (List Value)) ([]:P0) from trivial)
  obtain rfl:=oJ a
  exact⟨V,(([]:P0)).length,X,rfl,aj,al⟩
 ·refine trM a (b0g _ [.int .i64 l,.int .i64 m,.slice A n.length E] (l,m,n) (l0 I J t) [.int .i64 o,.int .i64 p,.slice C s.length F] (o,p,s) (l0 K L u)) ?_
  rintro am a aN ae ⟨an,aK,aq,ao,aL,ar,rfl,w,Q,S⟩
  obtain⟨T,aW⟩:=am
  dsimp only at a w Q
  obtain⟨rfl,aD⟩:=Sl.len w
  obtain⟨rfl,aE⟩:=Sl.len Q
  obtain⟨y,ab,a⟩:=B0 a
  refine eX { vars:=[35],boxes:=[],owns:=[0],fuel:=true } (eX (λvs os g=>∃ c k d,vs.tail = [.int .i64 c]/\os = [k]/\Sub ae g/\I0 c/\F2 (Wp.int.R g) k d/\W3 T (J1 vs) c d=some y) (eX (λ_ _=>0) (aI (eX U0 ⟨0,[],([]:P0),rfl,rfl,(Sub.refl _),(by decide),(F2.up (r:=Wp.int.toRp) S (show F2 (Wp.int.R h) ([]:List (List Value)) ([]:P0) from trivial)),ab⟩) ?_)))
  rintro _ k j M ⟨c,aX,d,⟨⟩,⟨⟩,x,au,i,b⟩
  replace b:W3 T j c d=some y:=b
  obtain _|j:=j
  ·cases b
  rw[W3.eq_2]at b
  refine ifB b (λac b=>?_) λac b=>?_
  ·refine ld b (z0i.mono x w) λaR ap ah b=>?_
   obtain⟨aS,aT,e,f,aU,rfl,rfl,av,aw,ax,ay⟩:=N0o ah
   try dsimp only at b
   obtain⟨aM,aa,b⟩:=B0 b
   refine aI (Y1 aa (by first|rw[F2.length i,F2.length (show F2 (Wp.int.R M) ([[.int .i64 (IntKind.i64.wrap ((IntKind.i64.wrap (f-e))+1))]]:List (List Value)) [(IntKind.i64.wrap ((IntKind.i64.wrap (f-e))+1))] from⟨⟨rfl,(J0 _)⟩,trivial⟩)]|exact congrArg (·+1) (F2.length i))) ?_
   exact O2 j ⟨(IntKind.i64.wrap (c+1)),(k++([[.int .i64 (IntKind.i64.wrap ((IntKind.i64.wrap (f-e))+1))]]:List (List Value))),(d ++ [(IntKind.i64.wrap ((IntKind.i64.wrap (f-e))+1))]),rfl,rfl,x,(J0 _),(F2.append i (show F2 (Wp.int.R M) ([[.int .i64 (IntKind.i64.wrap ((IntKind.i64.wrap (f-e))+1))]]:List (List Value)) [(IntKind.i64.wrap ((IntKind.i64.wrap (f-e))+1))] from⟨⟨rfl,(J0 _)⟩,trivial⟩)),b⟩
  ·obtain rfl:=oJ b
   try dsimp only[W0,Y0]at a
   intro aO az Y
   obtain⟨U,W,rfl,ai,ak,aF⟩:=G1.out (r:=Wp.int.toRp) Y i
   obtain rfl:=oJ a
   exact⟨U,d.length,W,rfl,ai,((S.trans x).trans ak)⟩
theorem e0b(h:Hp)(j:List Value)(l:j0)(M:V0.R h j l)(k:List Value)(m:j0)(N:V0.R h k m)(r:Int)(b:F00 l m=some r):
  Tr Tryz.prog 163 #[.agg j.toArray,.agg k.toArray] h λv f=>v = .int .i64 r/\f=h:=by
 obtain⟨G,H,t,Z,w,I,rfl,rfl,A,C,n⟩:=H0 M
 obtain⟨rfl,W⟩:=Sl.len n
 obtain⟨J,K,u,aa,x,L,rfl,rfl,D,E,o⟩:=H0 N
 obtain⟨rfl,X⟩:=Sl.len o
 unfold F00 at b
 dsimp only at b
 refine Tr.forget (I3 (args:=[.agg #[.int .i64 G,.int .i64 H,.slice t I.length w],.agg #[.int .i64 J,.int .i64 K,.slice u L.length x]]) (fn:=Tryz.f163) rfl ?_)
 refine trM b (j07 _ _ _ (l0 A C n) _ _ (l0 D E o)) ?_
 rintro q b ac F ⟨P,ab,Q,rfl,p,O⟩
 obtain⟨rfl,Y⟩:=Sl.len p
 obtain⟨i,y,b⟩:=B0 b
 refine eX { vars:=[5,12],boxes:=[],owns:=[],fuel:=true } (eX (λvs os f=>∃ c d,vs.tail = [.int .i64 c,.int .i64 d]/\os = []/\Sub F f/\I0 c/\I0 d/\U5 q (J1 vs) c d=some i) (eX (λ_ _=>0) (aI (eX U0 ⟨0,0,rfl,rfl,(Sub.refl _),(by decide),(by decide),y⟩) ?_)))
 rintro _ _ e V ⟨c,d,⟨⟩,⟨⟩,g,S,T,a⟩
 replace a:U5 q e c d=some i:=a
 obtain _|e:=e
 ·cases a
 rw[U5.eq_2]at a
 refine ifB a (λz a=>?_) λz a=>?_
 ·refine ldI a (K1.mono g p) λs U a=>?_
  exact O2 e ⟨(IntKind.i64.wrap (c+(if(IntKind.i64.wrap (s-1))>0 then(IntKind.i64.wrap (s-1))else 0))),(IntKind.i64.wrap (d+1)),rfl,rfl,g,(J0 _),(J0 _),a⟩
 ·obtain rfl:=oJ a
  try dsimp only[W0,Y0]at b
  obtain rfl:=oJ b
  exact aI rfl (O.trans g)
end Go.Proofs.YtkjhghloldgioaaGreat
