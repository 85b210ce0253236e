/- Texts of the claim, joined: The walks of batch 3 and others. -/
import Derived.Test.YtcpjomkcdlggaaaGreatH53
import Derived.Test.YtcpjomkcdlggaaaGreatPart24
import Derived.Test.YtcpjomkcdlggaaaGreatPart21
import Derived.Test.YtcpjomkcdlggaaaGreatChecked
import Derived.Test.YtcpjomkcdlggaaaGreatH35
import Derived.Test.YtcpjomkcdlggaaaGreatPart36
import Derived.Test.YtcpjomkcdlggaaaGreatSI
import Derived.Test.YtcpjomkcdlggaaaGreatPart27
import Derived.Test.YtcpjomkcdlggaaaGreatH41
import Derived.Test.YtcpjomkcdlggaaaGreatPart22
namespace Go.Proofs.YtcpjomkcdlggaaaGreat
set_option linter.all false
open Go.H
open IntKind (i64)
set_option maxRecDepth 10000
def B04(h:Hp)(o:Option Addr)(u q:Nat)(f:H0)(w:I0.R h [.slice o u q] f)(r:H0)(b:W8 f=some r):
  Tr Tryz.prog 78 #[.slice o u q] h λv h'=>∃(m:Option Addr) (t p:Nat),v = .slice m t p/\I0.R h' [.slice m t p] r/\Sub h h':=by
 obtain⟨rfl,J⟩:=sL w
 unfold W8 at b
 refine wk Tryz.f78 ?_
 obtain⟨l,z,b⟩:=B0 b
 refine eX { vars:=[4],owns:=[0] } (eX (λvs os h'=>∃ c k g,vs.tail = [iV c]/\os = [k]/\Sub h h'/\F0 c/\F2 (Wp.int.R h') k g/\D5 f (N1 vs) c g=some l) (eX (λ_ _=>0) (aI (eX P0 ⟨_,_,_,rfl,rfl,sr,(J0 _),(show F2 (Wp.int.R h) ([]:LV) ([]:H0) from trivial),z⟩) ?_)))
 rintro _ k e s ⟨c,N,g,⟨⟩,⟨⟩,j,G,d,a⟩
 replace a:D5 f e c g=some l:=a
 obtain _|e:=e
 ·cases a
 rw[D5.eq_2]at a
 refine ifB a (λA a=>?_) λA a=>?_
 ·refine ldI a (I0.mono j w) λi H a=>?_
  obtain⟨L,y,a⟩:=B0 a
  refine aI (M1 y (by first|rw[fL d,fL (show F2 (Wp.int.R s) ([[iV (i64.wrap (0-i))]]:LV) [(i64.wrap (0-i))] from⟨⟨rfl,(J0 _)⟩,trivial⟩)]|exact congrArg (·+1) (fL d))) ?_
  exact V1 e ⟨_,_,_,rfl,rfl,j,(J0 _),(fA d (show F2 (Wp.int.R s) ([[iV (i64.wrap (0-i))]]:LV) [(i64.wrap (0-i))] from⟨⟨rfl,(J0 _)⟩,trivial⟩)),a⟩
 ·cases a
  try dsimp only[Q0,T0]at b
  intro M I x
  obtain⟨E,F,rfl,C,D,K⟩:=Y0.out (r:=Wp.int.toRp) x d
  cases b
  exact⟨_,_,_,rfl,C,(j.trans D)⟩
def X04(h:Hp)(s:Option Addr)(A u:Nat)(k:H0)(g:I0.R h [.slice s A u] k)(r:H0)(c:I3 k=some r):
  Tr Tryz.prog 82 #[.slice s A u] h λv h'=>∃(p:Option Addr) (z t:Nat),v = .slice p z t/\I0.R h' [.slice p z t] r/\Sub h h':=by
 obtain⟨rfl,ae⟩:=sL g
 unfold I3 at c
 refine wk Tryz.f82 ?_
 obtain⟨o,J,c⟩:=B0 c
 refine eX { vars:=[4],owns:=[0] } (eX (λvs os h'=>∃ i j l,vs.tail = [iV i]/\os = [j]/\Sub h h'/\F0 i/\F2 (Wp.int.R h') j l/\A3 k (N1 vs) i l=some o) (eX (λ_ _=>0) (aI (eX P0 ⟨_,_,_,rfl,rfl,sr,(by decide),(show F2 (Wp.int.R h) ([]:LV) ([]:H0) from trivial),J⟩) ?_)))
 rintro _ j f d ⟨i,aq,l,⟨⟩,⟨⟩,e,X,b,a⟩
 replace a:A3 k f i l=some o:=a
 obtain _|f:=f
 ·cases a
 rw[A3.eq_2]at a
 refine ifB a (λL a=>?_) λL a=>?_
 ·obtain⟨M,D,a⟩:=B0 a
  obtain rfl:j.length=M:=(fL b).trans (oJ D)
  obtain⟨aj,W,a⟩:=B0 a
  refine w1 ?_
  refine ldG a (I0.mono e g) λap ac a=>?_
  obtain⟨al,H,a⟩:=B0 a
  obtain⟨T,w,N⟩:=s05 b H (J0f d)
  refine aI (λq=>(w q).1) ?_
  obtain⟨rfl,Y⟩:=N
  refine eX _ (aI (λq=>(w q).2) ?_)
  refine ldG a (I0.mono e g) λam Z a=>?_
  obtain⟨an,I,a⟩:=B0 a
  obtain⟨U,x,O⟩:=s05 b I (J0f d)
  refine aI (λq=>(x q).1) ?_
  obtain⟨rfl,aa⟩:=O
  refine eX _ (aI (λq=>(x q).2) ?_)
  refine ldG a (I0.mono e g) λao ab a=>?_
  refine ifB a (λK a=>?_) λK a=>?_
  ·obtain⟨ag,E,a⟩:=B0 a
   refine aI (by have:=K0 E;have:=fL b;omega) ?_
   exact V1 f ⟨_,_,_,rfl,rfl,e,(J0 _),(F2.take (i64.wrap (((j.length:Nat):Int)-1)).toNat b),a⟩
  ·refine ldI a (I0.mono e g) λm y a=>?_
   obtain⟨ah,F,a⟩:=B0 a
   refine aI (M1 F (by first|rw[fL b,fL (show F2 (Wp.int.R d) ([[iV m]]:LV) [m] from⟨⟨rfl,y⟩,trivial⟩)]|exact congrArg (·+1) (fL b))) ?_
   exact V1 f ⟨_,_,_,rfl,rfl,e,(J0 _),(fA b (show F2 (Wp.int.R d) ([[iV m]]:LV) [m] from⟨⟨rfl,y⟩,trivial⟩)),a⟩
 ·cases a
  try dsimp only[Q0,T0]at c
  obtain⟨ai,G,c⟩:=B0 c
  refine aI (M1 G (by first|rw[fL (show F2 (Wp.int.R d) ([]:LV) ([]:H0) from trivial),fL b]|exact congrArg (·+0) (fL (show F2 (Wp.int.R d) ([]:LV) ([]:H0) from trivial)))) ?_
  intro ak ad C
  obtain⟨S,V,rfl,P,Q,af⟩:=Y0.out (r:=Wp.int.toRp) C (fA (show F2 (Wp.int.R d) ([]:LV) ([]:H0) from trivial) b)
  cases c
  exact⟨_,_,_,rfl,P,(e.trans Q)⟩
def d03(h:Hp)(d:Option Addr)(l g:Nat)(o:H0)(q:I0.R h [.slice d l g] o)(e:Option Addr)(m i:Nat)(p:H0)(s:I0.R h [.slice e m i] p)(r:H0)(a:Z7 o p=some r):
  Tr Tryz.prog 114 #[.slice d l g,.slice e m i] h λv h'=>∃(c:Option Addr) (k f:Nat),v = .slice c k f/\I0.R h' [.slice c k f] r/\Sub h h':=by
 obtain⟨rfl,M⟩:=sL q
 obtain⟨rfl,N⟩:=sL s
 unfold Z7 at a
 refine wk Tryz.f114 ?_
 obtain⟨E,u,b⟩:=Sl.rows (r:=Wp.int.toRp) q
 refine eX E (aI u ?_)
 obtain⟨S,y,a⟩:=B0 a
 refine aI (M1 y (by first|rw[fL (show F2 (Wp.int.R h) ([]:LV) ([]:H0) from trivial),fL b]|exact congrArg (·+1) (fL (show F2 (Wp.int.R h) ([]:LV) ([]:H0) from trivial)))) ?_
 obtain⟨F,w,j⟩:=Sl.rows (r:=Wp.int.toRp) s
 refine eX F (aI w ?_)
 obtain⟨T,z,a⟩:=B0 a
 refine aI (M1 z (by first|rw[fL (fA (show F2 (Wp.int.R h) ([]:LV) ([]:H0) from trivial) b),fL j]|exact congrArg (·+1) (fL (fA (show F2 (Wp.int.R h) ([]:LV) ([]:H0) from trivial) b)))) ?_
 refine Or.inl ?_
 intro V L x
 obtain⟨H,J,rfl,A,D,P⟩:=Y0.out (r:=Wp.int.toRp) x (fA (fA (show F2 (Wp.int.R h) ([]:LV) ([]:H0) from trivial) b) j)
 refine trM a (X04 _ _ _ _ _ A) ?_
 rintro W a U K ⟨G,Q,I,rfl,t,C⟩
 obtain⟨rfl,O⟩:=sL t
 cases a
 exact⟨_,_,_,rfl,t,(D.trans C)⟩
def I06(h:Hp)(s:Option Addr)(z u:Nat)(i:H0)(A:I0.R h [.slice s z u] i)(r:H0)(d:g00 i=some r):
  Tr Tryz.prog 69 #[.slice s z u] h λv h'=>∃(q:Option Addr) (y t:Nat),v = .slice q y t/\New I0 h h' [.slice q y t] r:=by
 obtain⟨rfl,L⟩:=sL A
 unfold g00 at d
 refine wk Tryz.f69 ?_
 obtain⟨N,C,d⟩:=B0 d
 refine aI (K0 C) ?_
 obtain⟨o,E,d⟩:=B0 d
 refine eX { vars:=[4],owns:=[0] } (eX (λvs os h'=>∃ f m j,vs.tail = [iV f]/\os = [m]/\Sub h h'/\F0 f/\F2 (Wp.int.R h') m j/\Q8 i (N1 vs) f j=some o) (eX (λ_ _=>0) (aI (eX P0 ⟨_,_,_,rfl,rfl,sr,(J0 _),(F2.rep (p:=Wp.int.R h) (a:=[iV 0]) (b:=0) ⟨rfl,(by decide)⟩ ((0:Int).toNat)),E⟩) ?_)))
 rintro _ m g x ⟨f,T,j,⟨⟩,⟨⟩,l,I,e,c⟩
 replace c:Q8 i g f j=some o:=c
 obtain _|g:=g
 ·cases c
 rw[Q8.eq_2]at c
 refine ifB c (λF c=>?_) λF c=>?_
 ·refine ldI c (I0.mono l A) λk J c=>?_
  obtain⟨O,D,c⟩:=B0 c
  refine aI (M1 D (by first|rw[fL e,fL (show F2 (Wp.int.R x) ([[iV (i64.wrap (0-k))]]:LV) [(i64.wrap (0-k))] from⟨⟨rfl,(J0 _)⟩,trivial⟩)]|exact congrArg (·+1) (fL e))) ?_
  exact V1 g ⟨_,_,_,rfl,rfl,l,(J0 _),(fA e (show F2 (Wp.int.R x) ([[iV (i64.wrap (0-k))]]:LV) [(i64.wrap (0-k))] from⟨⟨rfl,(J0 _)⟩,trivial⟩)),c⟩
 ·cases c
  try dsimp only[Q0,T0]at d
  intro S K w
  obtain⟨G,H,rfl,P,Q,M⟩:=Y0.out (r:=Wp.int.toRp) w e
  cases d
  exact⟨_,_,_,rfl,(New.from (Y0.newPlain (r:=Wp.int) w e (n05 _)) l)⟩
def T08(h:Hp)(C:Option Addr)(I E:Nat)(k:O1)(J:T1.R h [.slice C I E] k)(r:H0)(e:i01 k=some r):
  Tr Tryz.prog 124 #[.slice C I E] h λv h'=>∃(A:Option Addr) (H D:Nat),v = .slice A H D/\New I0 h h' [.slice A H D] r:=by
 obtain⟨rfl,aq⟩:=sL J
 unfold i01 at e
 refine wk Tryz.f124 ?_
 obtain⟨y,T,e⟩:=B0 e
 refine eX { vars:=[11],owns:=[0] } (eX (λvs os h'=>∃ g x o,vs.tail = [iV g]/\os = [x]/\Sub h h'/\F0 g/\F2 (Wp.int.R h') x o/\K9 k (N1 vs) g o=some y) (eX (λ_ _=>0) (aI (eX P0 ⟨_,_,_,rfl,rfl,sr,(by decide),(show F2 (Wp.int.R h) ([]:LV) ([]:H0) from trivial),T⟩) ?_)))
 rintro _ x j Z ⟨g,aH,o,⟨⟩,⟨⟩,w,an,s,b⟩
 replace b:K9 k j g o=some y:=b
 obtain _|j:=j
 ·cases b
 rw[K9.eq_2]at b
 refine ifB b (λX b=>?_) λX b=>?_
 ·refine ld b (T1.mono w J) λL ah K b=>?_
  obtain⟨ae,ai,rfl,ar⟩:=slL K
  obtain⟨z,U,b⟩:=B0 b
  refine eX { vars:=[17],owns:=[0] } (eX (λvs os h'=>∃ i d m,vs.tail = [iV i]/\os = [d]/\Sub Z h'/\F0 i/\F2 (Wp.int.R h') d m/\D8 L (N1 vs) i m=some z) (eX (λ_ _=>0) (aI (eX P0 ⟨_,_,_,rfl,rfl,sr,(by decide),s,U⟩) ?_)))
  rintro _ d f u ⟨i,aG,m,⟨⟩,⟨⟩,l,ao,c,a⟩
  replace a:D8 L f i m=some z:=a
  obtain _|f:=f
  ·cases a
  rw[D8.eq_2]at a
  refine ifB a (λV a=>?_) λV a=>?_
  ·refine ldI a (I0.mono l K) λp t a=>?_
   obtain⟨aa,M,a⟩:=B0 a
   obtain rfl:d.length=aa:=(fL c).trans (oJ M)
   obtain⟨av,ak,a⟩:=B0 a
   obtain⟨ab,N,a⟩:=B0 a
   obtain rfl:d.length=ab:=(fL c).trans (oJ N)
   obtain⟨aw,al,a⟩:=B0 a
   obtain⟨aD,S,a⟩:=B0 a
   obtain⟨ag,F,ad⟩:=s05 c S (J0f u)
   refine aI (λq=>(F q).1) ?_
   obtain⟨rfl,Y⟩:=ad
   refine eX _ (aI (λq=>(F q).2) ?_)
   refine trG a (λq=>v09 _ _ Y _ t) λaF a=>?_
   refine ifB a (λW a=>?_) λW a=>?_
   ·obtain⟨ac,O,a⟩:=B0 a
    obtain rfl:d.length=ac:=(fL c).trans (oJ O)
    obtain⟨ax,am,a⟩:=B0 a
    obtain⟨ay,P,a⟩:=B0 a
    refine aI (by have:=K0 P;have:=fL c;omega) ?_
    exact V1 f ⟨_,_,_,rfl,rfl,l,(J0 _),(F2.take (i64.wrap (((d.length:Nat):Int)-1)).toNat c),a⟩
   ·obtain⟨az,Q,a⟩:=B0 a
    refine aI (M1 Q (by first|rw[fL c,fL (show F2 (Wp.int.R u) ([[iV p]]:LV) [p] from⟨⟨rfl,t⟩,trivial⟩)]|exact congrArg (·+1) (fL c))) ?_
    exact V1 f ⟨_,_,_,rfl,rfl,l,(J0 _),(fA c (show F2 (Wp.int.R u) ([[iV p]]:LV) [p] from⟨⟨rfl,t⟩,trivial⟩)),a⟩
  ·cases a
   try dsimp only[Q0,T0]at b
   exact V1 j ⟨_,_,_,rfl,rfl,(w.trans l),(J0 _),c,b⟩
 ·cases b
  try dsimp only[Q0,T0]at e
  intro aC ap G
  obtain⟨af,aj,rfl,aA,aB,au⟩:=Y0.out (r:=Wp.int.toRp) G s
  cases e
  exact⟨_,_,_,rfl,(New.from (Y0.newPlain (r:=Wp.int) G s (n05 _)) w)⟩
def h05(h:Hp)(y:Option Addr)(H A:Nat)(l:H0)(i:I0.R h [.slice y H A] l)(b:Int)(g:F0 b)(r:H0)(f:c01 l b=some r):
  Tr Tryz.prog 204 #[.slice y H A,iV b] h λv h'=>∃(x:Option Addr) (G z:Nat),v = .slice x G z/\I0.R h' [.slice x G z] r/\Sub h h':=by
 obtain⟨rfl,am⟩:=sL i
 unfold c01 at f
 refine wk Tryz.f204 ?_
 obtain⟨w,S,f⟩:=B0 f
 refine eX { vars:=[6,7],owns:=[0] } (eX (λvs os h'=>∃ m k u o,vs.tail = [.bool m,iV k]/\os = [u]/\Sub h h'/\F0 k/\F2 (Wp.int.R h') u o/\K5 l b (N1 vs) m k o=some w) (eX (λ_ _=>0) (aI (eX P0 ⟨_,_,_,_,rfl,rfl,sr,(by decide),(show F2 (Wp.int.R h) ([]:LV) ([]:H0) from trivial),S⟩) ?_)))
 rintro _ _ u j d ⟨m,k,aD,o,⟨⟩,⟨⟩,e,ag,c,a⟩
 replace a:K5 l b j m k o=some w:=a
 obtain _|j:=j
 ·cases a
 rw[K5.eq_2]at a
 refine ifB a (λW a=>?_) λW a=>?_
 ·refine ldI a (I0.mono e i) λaC aj a=>?_
  refine ifB a (λX a=>?_) λX a=>?_
  ·refine ldI a (I0.mono e i) λaA ah a=>?_
   refine ifB a (λT a=>?_) λT a=>?_
   ·obtain⟨ap,K,a⟩:=B0 a
    refine aI (M1 K (by first|rw[fL c,fL (show F2 (Wp.int.R d) ([[iV b]]:LV) [b] from⟨⟨rfl,g⟩,trivial⟩)]|exact congrArg (·+1) (fL c))) ?_
    refine ldI a (I0.mono e i) λp C a=>?_
    obtain⟨aq,L,a⟩:=B0 a
    refine aI (M1 L (by first|rw[fL (fA c (show F2 (Wp.int.R d) ([[iV b]]:LV) [b] from⟨⟨rfl,g⟩,trivial⟩)),fL (show F2 (Wp.int.R d) ([[iV p]]:LV) [p] from⟨⟨rfl,C⟩,trivial⟩)]|exact congrArg (·+1) (fL (fA c (show F2 (Wp.int.R d) ([[iV b]]:LV) [b] from⟨⟨rfl,g⟩,trivial⟩))))) ?_
    exact V1 j ⟨_,_,_,_,rfl,rfl,e,(J0 _),(fA (fA c (show F2 (Wp.int.R d) ([[iV b]]:LV) [b] from⟨⟨rfl,g⟩,trivial⟩)) (show F2 (Wp.int.R d) ([[iV p]]:LV) [p] from⟨⟨rfl,C⟩,trivial⟩)),a⟩
   ·refine ldI a (I0.mono e i) λq D a=>?_
    obtain⟨ar,M,a⟩:=B0 a
    refine aI (M1 M (by first|rw[fL c,fL (show F2 (Wp.int.R d) ([[iV q]]:LV) [q] from⟨⟨rfl,D⟩,trivial⟩)]|exact congrArg (·+1) (fL c))) ?_
    exact V1 j ⟨_,_,_,_,rfl,rfl,e,(J0 _),(fA c (show F2 (Wp.int.R d) ([[iV q]]:LV) [q] from⟨⟨rfl,D⟩,trivial⟩)),a⟩
  ·refine ldI a (I0.mono e i) λaB ai a=>?_
   refine ifB a (λU a=>?_) λU a=>?_
   ·obtain⟨au,N,a⟩:=B0 a
    refine aI (M1 N (by first|rw[fL c,fL (show F2 (Wp.int.R d) ([[iV b]]:LV) [b] from⟨⟨rfl,g⟩,trivial⟩)]|exact congrArg (·+1) (fL c))) ?_
    refine ldI a (I0.mono e i) λs E a=>?_
    obtain⟨av,O,a⟩:=B0 a
    refine aI (M1 O (by first|rw[fL (fA c (show F2 (Wp.int.R d) ([[iV b]]:LV) [b] from⟨⟨rfl,g⟩,trivial⟩)),fL (show F2 (Wp.int.R d) ([[iV s]]:LV) [s] from⟨⟨rfl,E⟩,trivial⟩)]|exact congrArg (·+1) (fL (fA c (show F2 (Wp.int.R d) ([[iV b]]:LV) [b] from⟨⟨rfl,g⟩,trivial⟩))))) ?_
    exact V1 j ⟨_,_,_,_,rfl,rfl,e,(J0 _),(fA (fA c (show F2 (Wp.int.R d) ([[iV b]]:LV) [b] from⟨⟨rfl,g⟩,trivial⟩)) (show F2 (Wp.int.R d) ([[iV s]]:LV) [s] from⟨⟨rfl,E⟩,trivial⟩)),a⟩
   ·refine ldI a (I0.mono e i) λt F a=>?_
    obtain⟨aw,P,a⟩:=B0 a
    refine aI (M1 P (by first|rw[fL c,fL (show F2 (Wp.int.R d) ([[iV t]]:LV) [t] from⟨⟨rfl,F⟩,trivial⟩)]|exact congrArg (·+1) (fL c))) ?_
    exact V1 j ⟨_,_,_,_,rfl,rfl,e,(J0 _),(fA c (show F2 (Wp.int.R d) ([[iV t]]:LV) [t] from⟨⟨rfl,F⟩,trivial⟩)),a⟩
 ·cases a
  try dsimp only[Q0,T0]at f
  refine ifB f (λV f=>?_) λV f=>?_
  ·obtain⟨ax,Q,f⟩:=B0 f
   refine aI (M1 Q (by first|rw[fL c,fL (show F2 (Wp.int.R d) ([[iV b]]:LV) [b] from⟨⟨rfl,g⟩,trivial⟩)]|exact congrArg (·+1) (fL c))) ?_
   intro ay ak I
   obtain⟨ac,ae,rfl,Y,aa,an⟩:=Y0.out (r:=Wp.int.toRp) I (fA c (show F2 (Wp.int.R d) ([[iV b]]:LV) [b] from⟨⟨rfl,g⟩,trivial⟩))
   cases f
   exact⟨_,_,_,rfl,Y,(e.trans aa)⟩
  ·intro az al J
   obtain⟨ad,af,rfl,Z,ab,ao⟩:=Y0.out (r:=Wp.int.toRp) J c
   cases f
   exact⟨_,_,_,rfl,Z,(e.trans ab)⟩
def i05(h:Hp)(j:Option Addr)(l k:Nat)(f:H0)(m:I0.R h [.slice j l k] f)(c:Int)(s:F0 c)(r:Bool)(b:d01 f c=some r):
  Tr Tryz.prog 200 #[.slice j l k,iV c] h λv h'=>v = .bool r/\h'=h:=by
 obtain⟨rfl,x⟩:=sL m
 unfold d01 at b
 refine wkF Tryz.f200 ?_
 obtain⟨i,o,b⟩:=B0 b
 refine eX { vars:=[5] } (eX (λvs os h'=>∃ d,vs.tail = [iV d]/\os = []/\Sub h h'/\F0 d/\l01 f c (N1 vs) d=some i) (eX (λ_ _=>0) (aI (eX P0 ⟨_,rfl,rfl,sr,(by decide),o⟩) ?_)))
 rintro _ e w ⟨d,⟨⟩,⟨⟩,g,t,a⟩
 replace a:l01 f c e d=some i:=a
 obtain _|e:=e
 ·cases a
 rw[l01.eq_2]at a
 refine ifB a (λp a=>?_) λp a=>?_
 ·refine ldI a (I0.mono g m) λy u a=>?_
  refine ifB a (λq a=>?_) λq a=>?_
  ·cases a
   try dsimp only[P2,l3]at b
   cases b
   exact aI rfl g
  ·exact V1 e ⟨_,rfl,rfl,g,(J0 _),a⟩
 ·cases a
  try dsimp only[Q0,T0]at b
  cases b
  exact aI rfl g
def D0h(h:Hp)(t:List Value)(x:z0)(L:L1.R h t x)(e:Int)(ae:F0 e)(f:Int)(af:F0 f)(r:H0)(c:t03 x e f=some r):
  Tr Tryz.prog 187 #[.agg t.toArray,iV e,iV f] h λv h'=>∃(q:Option Addr) (w s:Nat),v = .slice q w s/\I0.R h' [.slice q w s] r/\Sub h h':=by
 obtain⟨ay,az,T,X,y,rfl,rfl,ac,ad,M,an⟩:=opG L
 unfold t03 at c
 dsimp only at c
 refine wk Tryz.f187 ?_
 obtain⟨p,F,c⟩:=B0 c
 refine eX { vars:=[7,8],pubs:=[7,10] } (eX (λvs os h'=>∃(k:Option Addr) (m l:Nat) (j:H0) (i:Int),vs.tail = [.slice k m l,iV i]/\os = []/\Sub h h'/\I0.R h' [.slice k m l] j/\F0 i/\d5 y f e (N1 vs) j i=some p) (eX (λ_ _=>0) ?_))
 intro aA ak f3
 obtain⟨D,E,rfl,O,S,au⟩:=Y0.out (r:=Wp.int.toRp) f3 (show F2 (Wp.int.R h) ([]:LV) ([]:H0) from trivial)
 refine aI (eX P0 ⟨D,(([]:H0)).length,E,([]:H0),0,rfl,rfl,S,O,(by decide),F⟩) ?_
 rintro _ _ b am ⟨k,m,l,j,i,⟨⟩,⟨⟩,d,g,ag,a⟩
 replace a:d5 y f e b j i=some p:=a
 obtain _|b:=b
 ·cases a
 rw[d5.eq_2]at a
 obtain⟨rfl,ao⟩:=sL g
 refine ifB a (λG a=>?_) λG a=>?_
 ·refine ld a (M0.mono d M) λaF Y N a=>?_
  obtain⟨aG,aH,aJ,rfl,rfl,u,ah,K⟩:=C2 N
  try dsimp only at a
  refine ifB a (λH a=>?_) λH a=>?_
  ·refine trM a (h05 _ _ _ _ _ g _ K) ?_
   rintro aK a aB ai ⟨U,av,Z,rfl,o,C⟩
   obtain⟨rfl,ap⟩:=sL o
   refine ifB a (λI a=>?_) λI a=>?_
   ·refine trM a (h05 _ _ _ _ _ o _ u) ?_
    rintro aL a aC aj ⟨V,aw,aa,rfl,z,P⟩
    obtain⟨rfl,aq⟩:=sL z
    exact V1 b ⟨_,_,_,_,_,rfl,rfl,((d.trans C).trans P),z,(J0 _),a⟩
   ·exact V1 b ⟨_,_,_,_,_,rfl,rfl,(d.trans C),o,(J0 _),a⟩
  ·refine ifB a (λJ a=>?_) λJ a=>?_
   ·refine trM a (h05 _ _ _ _ _ g _ u) ?_
    rintro aM a aD al ⟨W,ax,ab,rfl,A,Q⟩
    obtain⟨rfl,ar⟩:=sL A
    exact V1 b ⟨_,_,_,_,_,rfl,rfl,(d.trans Q),A,(J0 _),a⟩
   ·exact V1 b ⟨_,_,_,_,_,rfl,rfl,d,g,(J0 _),a⟩
 ·cases a
  try dsimp only[Q0,T0]at c
  cases c
  exact⟨_,_,_,rfl,g,d⟩
def W6(h:Hp)(d:List Value)(e:z0)(o:L1.R h d e)(b:Int)(l:F0 b)(c:Int)(m:F0 c)(r:Int)(a:j4 e b c=some r):
  Tr Tryz.prog 153 #[.agg d.toArray,iV b,iV c] h λv h'=>v=iV r/\h'=h:=by
 obtain⟨C,D,q,t,E,rfl,rfl,j,k,p,y⟩:=opG o
 unfold j4 at a
 dsimp only at a
 refine wkF Tryz.f153 ?_
 refine trM a (D0h _ _ _ (C0 j k p) _ l _ m) ?_
 rintro G a F x ⟨s,A,u,rfl,f,g⟩
 obtain⟨rfl,z⟩:=sL f
 refine ifB a (λi a=>?_) λi a=>?_
 ·cases a
  exact aI rfl g
 ·refine ldI a f λH w a=>?_
  cases a
  exact aI rfl g
def F7(h:Hp)(o:List Value)(t:z0)(E:L1.R h o t)(r:Bool)(c:N4 t=some r):
  Tr Tryz.prog 152 #[.agg o.toArray] h λv h'=>v = .bool r/\h'=h:=by
 obtain⟨u,w,H,I,j,rfl,rfl,p,s,k,V⟩:=opG E
 unfold N4 at c
 dsimp only at c
 refine wkF Tryz.f152 ?_
 obtain⟨l,x,c⟩:=B0 c
 refine eX { vars:=[3] } (eX (λvs os h'=>∃ e,vs.tail = [iV e]/\os = []/\Sub h h'/\F0 e/\Q6 j u w (N1 vs) e=some l) (eX (λ_ _=>0) (aI (eX P0 ⟨_,rfl,rfl,sr,(by decide),x⟩) ?_)))
 rintro _ i D ⟨e,⟨⟩,⟨⟩,d,L,b⟩
 replace b:Q6 j u w i e=some l:=b
 obtain _|i:=i
 ·cases b
 rw[Q6.eq_2]at b
 refine trG b (λq=>t8 _ _ _ (C0 p s (M0.mono d k))) λaf b=>?_
 refine ifB b (λC b=>?_) λC b=>?_
 ·obtain⟨m,y,b⟩:=B0 b
  refine eX { vars:=[4] } (eX (λvs os h'=>∃ u8,vs.tail = [iV u8]/\os = []/\Sub D h'/\F0 u8/\Y8 e j (N1 vs) u8=some m) (eX (λ_ _=>0) (aI (eX P0 ⟨_,rfl,rfl,sr,(by decide),y⟩) ?_)))
  rintro _ g U ⟨u8,⟨⟩,⟨⟩,f,M,a⟩
  replace a:Y8 e j g u8=some m:=a
  obtain _|g:=g
  ·cases a
  rw[Y8.eq_2]at a
  refine ifB a (λz a=>?_) λz a=>?_
  ·refine ld a (M0.mono (d.trans f) k) λW J F a=>?_
   obtain⟨X,Y,Z,rfl,rfl,N,O,P⟩:=C2 F
   try dsimp only at a
   refine ld a (M0.mono (d.trans f) k) λaa K G a=>?_
   obtain⟨ab,ac,ad,rfl,rfl,Q,S,T⟩:=C2 G
   try dsimp only at a
   refine ifB a (λA a=>?_) λA a=>?_
   ·cases a
    try dsimp only[P2,l3]at b
    cases b
    try dsimp only[P2,l3]at c
    cases c
    exact aI rfl (d.trans f)
   ·exact V1 g ⟨_,rfl,rfl,f,(J0 _),a⟩
  ·cases a
   try dsimp only[Q0,T0]at b
   exact V1 i ⟨_,rfl,rfl,(d.trans f),(J0 _),b⟩
 ·cases b
  try dsimp only[Q0,T0]at c
  refine trV c (t8 _ _ _ (C0 p s (M0.mono d k))) λae c=>?_
  cases c
  exact aI rfl d
def O07(h:Hp)(o:List Value)(w:z0)(M:L1.R h o w)(j:Int)(t:F0 j)(l:Option Addr)(u m:Nat)(g:H0)(A:I0.R h [.slice l u m] g)(r:Int×Bool)(b:M01 w j g=some r):
  Tr Tryz.prog 81 #[.agg o.toArray,iV j,.slice l u m] h λv h'=>v = .tuple #[iV r.1,.bool r.2]/\h'=h:=by
 obtain⟨x,i,N,O,y,rfl,rfl,p,s,z,S⟩:=opG M
 obtain⟨rfl,T⟩:=sL A
 unfold M01 at b
 dsimp only at b
 refine wkF Tryz.f81 ?_
 refine trV b (F7 _ _ _ (C0 p s z)) λV b=>?_
 refine trG b (λq=>Q4 _ _ t 0 (by decide) (i64.wrap (i-1)) (J0 _)) λX b=>?_
 refine ifB b (λH b=>?_) λH b=>?_
 ·cases b
  exact aI rfl sr
 ·obtain⟨k,F,b⟩:=B0 b
  refine eX { vars:=[1,8] } (eX (λvs os h'=>∃ d e,vs.tail = [iV d,iV e]/\os = []/\Sub h h'/\F0 d/\F0 e/\Z8 g x i y (N1 vs) d e=some k) (eX (λ_ _=>0) (aI (eX P0 ⟨_,_,rfl,rfl,sr,t,(by decide),F⟩) ?_)))
  rintro _ _ f Q ⟨d,e,⟨⟩,⟨⟩,c,J,P,a⟩
  replace a:Z8 g x i y f d e=some k:=a
  obtain _|f:=f
  ·cases a
  rw[Z8.eq_2]at a
  refine ifB a (λI a=>?_) λI a=>?_
  ·refine w1 ?_
   refine ldI a (I0.mono c A) λW K a=>?_
   obtain⟨C,E,a⟩:=B0 a
   refine eX (iV C) (aI (W6 _ _ _ (C0 p s (M0.mono c z)) _ J _ K _  E) ?_)
   obtain⟨U,D,a⟩:=B0 a
   have L:F0 C:=K0 D
   refine ifB a (λG a=>?_) λG a=>?_
   ·cases a
    try dsimp only[P2,l3]at b
    cases b
    exact aI rfl c
   ·exact V1 f ⟨_,_,rfl,rfl,c,L,(J0 _),a⟩
  ·cases a
   try dsimp only[Q0,T0]at b
   cases b
   exact aI rfl c
def E0h(h:Hp)(t:List Value)(A:z0)(N:L1.R h t A)(e:Int)(aa:F0 e)(f:Int)(ab:F0 f)(r:H0)(c:u03 A e f=some r):
  Tr Tryz.prog 169 #[.agg t.toArray,iV e,iV f] h λv h'=>∃(q:Option Addr) (z s:Nat),v = .slice q z s/\New I0 h h' [.slice q z s] r:=by
 obtain⟨ak,al,Q,U,C,rfl,rfl,Y,Z,O,ah⟩:=opG N
 unfold u03 at c
 dsimp only at c
 refine wk Tryz.f169 ?_
 obtain⟨p,J,c⟩:=B0 c
 refine eX { vars:=[14],owns:=[0] } (eX (λvs os h'=>∃ i o k,vs.tail = [iV i]/\os = [o]/\Sub h h'/\F0 i/\F2 (Wp.int.R h') o k/\g6 C f e (N1 vs) i k=some p) (eX (λ_ _=>0) (aI (eX P0 ⟨_,_,_,rfl,rfl,sr,(by decide),(show F2 (Wp.int.R h) ([]:LV) ([]:H0) from trivial),J⟩) ?_)))
 rintro _ o d j ⟨i,aA,k,⟨⟩,⟨⟩,g,ac,b,a⟩
 replace a:g6 C f e d i k=some p:=a
 obtain _|d:=d
 ·cases a
 rw[g6.eq_2]at a
 refine ifB a (λL a=>?_) λL a=>?_
 ·refine ld a (M0.mono g O) λay V P a=>?_
  obtain⟨l,az,m,rfl,rfl,x,ad,y⟩:=C2 P
  try dsimp only at a
  refine ifB a (λM a=>?_) λM a=>?_
  ·obtain⟨ao,I,a⟩:=B0 a
   refine aI (M1 I (by first|rw[fL b,fL (show F2 (Wp.int.R j) ([[iV m]]:LV) [m] from⟨⟨rfl,y⟩,trivial⟩)]|exact congrArg (·+1) (fL b))) ?_
   exact V1 d ⟨_,_,_,rfl,rfl,g,(J0 _),(fA b (show F2 (Wp.int.R j) ([[iV m]]:LV) [m] from⟨⟨rfl,y⟩,trivial⟩)),a⟩
  ·refine ifB a (λK a=>?_) λK a=>?_
   ·obtain⟨am,G,a⟩:=B0 a
    refine aI (M1 G (by first|rw[fL b,fL (show F2 (Wp.int.R j) ([[iV l]]:LV) [l] from⟨⟨rfl,x⟩,trivial⟩)]|exact congrArg (·+1) (fL b))) ?_
    exact V1 d ⟨_,_,_,rfl,rfl,g,(J0 _),(fA b (show F2 (Wp.int.R j) ([[iV l]]:LV) [l] from⟨⟨rfl,x⟩,trivial⟩)),a⟩
   ·exact V1 d ⟨_,_,_,rfl,rfl,g,(J0 _),b,a⟩
 ·cases a
  try dsimp only[Q0,T0]at c
  refine Or.inl ?_
  intro av ae F
  obtain⟨an,H,c⟩:=B0 c
  refine Tr.mono (D0r _ F b (K0 H)) ?_
  rintro _ af ⟨rfl,aw,u,D⟩
  obtain⟨S,W,rfl,ap,ar,ai⟩:=Y0.out (r:=Wp.int.toRp) u D
  refine Tr.mono (E0r _ u D) ?_
  rintro _ ag ⟨ax,w,E⟩
  obtain⟨T,X,rfl,aq,au,aj⟩:=Y0.out (r:=Wp.int.toRp) w E
  cases c
  exact⟨_,_,_,rfl,(New.from (Y0.newPlain (r:=Wp.int) w E (n05 _)) g)⟩
def C04(h:Hp)(d:List Value)(e:z0)(q:L1.R h d e)(b:Int)(m:F0 b)(c:Int)(o:F0 c)(r:Int)(a:a9 e b c=some r):
  Tr Tryz.prog 121 #[.agg d.toArray,iV b,iV c] h λv h'=>v=iV r/\h'=h:=by
 obtain⟨D,E,t,w,F,rfl,rfl,k,l,s,z⟩:=opG q
 unfold a9 at a
 dsimp only at a
 refine wkF Tryz.f121 ?_
 refine trM a (E0h _ _ _ (C0 k l s) _ m _ o) ?_
 rintro H a G p ⟨u,C,x,rfl,i⟩
 have g:Sub h p:=i.sub
 have f:=i.r
 obtain⟨rfl,A⟩:=sL f
 refine ifB a (λj a=>?_) λj a=>?_
 ·cases a
  exact aI rfl g
 ·refine ldI a f λI y a=>?_
  cases a
  exact aI rfl g
def T02(h:Hp)(o:List Value)(p:z0)(N:L1.R h o p)(r:Bool)(c:A8 p=some r):
  Tr Tryz.prog 137 #[.agg o.toArray] h λv h'=>v = .bool r/\h'=h:=by
 obtain⟨ak,al,T,V,q,rfl,rfl,J,K,k,ai⟩:=opG N
 unfold A8 at c
 dsimp only at c
 refine wkF Tryz.f137 ?_
 refine trV c (A01 _ _ _ (C0 J K k)) λam c=>?_
 refine ifB c (λG c=>?_) λG c=>?_
 ·cases c
  exact aI rfl sr
 ·obtain⟨m,D,c⟩:=B0 c
  refine eX { vars:=[13] } (eX (λvs os h'=>∃ f,vs.tail = [iV f]/\os = []/\Sub h h'/\F0 f/\c9 q (N1 vs) f=some m) (eX (λ_ _=>0) (aI (eX P0 ⟨_,rfl,rfl,sr,(by decide),D⟩) ?_)))
  rintro _ i L ⟨f,⟨⟩,⟨⟩,d,aa,a⟩
  replace a:c9 q i f=some m:=a
  obtain _|i:=i
  ·cases a
  rw[c9.eq_2]at a
  refine ifB a (λH a=>?_) λH a=>?_
  ·refine ld a (M0.mono d k) λar X P a=>?_
   obtain⟨t,u,w,rfl,rfl,ae,af,ag⟩:=C2 P
   try dsimp only at a
   obtain⟨x,A,a⟩:=B0 a
   obtain⟨M,Q,y,z⟩:=Sl.cutI (r:=J1.toRp) (M0.mono d k) A
   refine aI M (eX Q (aI y ?_))
   intro S I _
   obtain⟨U,Y,rfl,s⟩:=z S I
   have aj:=(sL s).2
   obtain⟨l,C,a⟩:=B0 a
   refine eX { vars:=[24] } (eX (λvs os h'=>∃ e,vs.tail = [iV e]/\os = []/\Sub L h'/\F0 e/\b9 x u t w (N1 vs) e=some l) (eX (λ_ _=>0) (aI (eX P0 ⟨_,rfl,rfl,sr,(by decide),C⟩) ?_)))
   rintro _ g ah ⟨e,⟨⟩,⟨⟩,j,Z,b⟩
   replace b:b9 x u t w g e=some l:=b
   obtain _|g:=g
   ·cases b
   rw[b9.eq_2]at b
   refine ifB b (λE b=>?_) λE b=>?_
   ·refine ld b (M0.mono j s) λan W O b=>?_
    obtain⟨ao,ap,aq,rfl,rfl,ab,ac,ad⟩:=C2 O
    try dsimp only at b
    refine ifB b (λF b=>?_) λF b=>?_
    ·cases b
     try dsimp only[P2,l3]at a
     cases a
     try dsimp only[P2,l3]at c
     cases c
     exact aI rfl (d.trans j)
    ·exact V1 g ⟨_,rfl,rfl,j,(J0 _),b⟩
   ·cases b
    try dsimp only[Q0,T0]at a
    exact V1 i ⟨_,rfl,rfl,(d.trans j),(J0 _),a⟩
  ·cases a
   try dsimp only[Q0,T0]at c
   cases c
   exact aI rfl d
def y09(h:Hp)(m:List Value)(p:z0)(H:L1.R h m p)(i:Int)(D:F0 i)(k:Option Addr)(o l:Nat)(g:H0)(u:I0.R h [.slice k o l] g)(r:Int×Int)(b:D01 p i g=some r):
  Tr Tryz.prog 172 #[.agg m.toArray,iV i,.slice k o l] h λv h'=>v = .tuple #[iV r.1,iV r.2]/\h'=h:=by
 obtain⟨q,s,K,L,t,rfl,rfl,A,C,I,O⟩:=opG H
 obtain⟨rfl,P⟩:=sL u
 unfold D01 at b
 dsimp only at b
 refine wkF Tryz.f172 ?_
 obtain⟨j,x,b⟩:=B0 b
 refine eX { vars:=[1,13] } (eX (λvs os h'=>∃ d e,vs.tail = [iV d,iV e]/\os = []/\Sub h h'/\F0 d/\F0 e/\L7 g q s t (N1 vs) d e=some j) (eX (λ_ _=>0) (aI (eX P0 ⟨_,_,rfl,rfl,sr,D,(by decide),x⟩) ?_)))
 rintro _ _ f N ⟨d,e,⟨⟩,⟨⟩,c,E,M,a⟩
 replace a:L7 g q s t f d e=some j:=a
 obtain _|f:=f
 ·cases a
 rw[L7.eq_2]at a
 refine ifB a (λz a=>?_) λz a=>?_
 ·refine ldI a (I0.mono c u) λS F a=>?_
  refine trV a (C04 _ _ _ (C0 A C (M0.mono c I)) _ E _ F) λJ a=>?_
  obtain⟨Q,w,a⟩:=B0 a
  have G:F0 J:=K0 w
  refine ifB a (λy a=>?_) λy a=>?_
  ·cases a
   try dsimp only[P2,l3]at b
   cases b
   exact aI rfl c
  ·exact V1 f ⟨_,_,rfl,rfl,c,G,(J0 _),a⟩
 ·cases a
  try dsimp only[Q0,T0]at b
  cases b
  exact aI rfl c
def G5(h:Hp)(d:List Value)(f:z0)(l:L1.R h d f)(r:z0)(a:V3 f=some r):
  Tr Tryz.prog 85 #[.agg d.toArray] h λv h'=>∃(c:List Value),v = .agg c.toArray/\New L1 h h' c r:=by
 obtain⟨y,z,p,s,A,rfl,rfl,j,k,m,w⟩:=opG l
 unfold V3 at a
 dsimp only at a
 refine wk Tryz.f85 ?_
 refine w3 ?_
 refine aI ?_ trivial
 refine aI (by first|exact trivial|exact rfl) ?_
 refine aI ?_ trivial
 obtain⟨o,g,b⟩:=Sl.rows (r:=J1.toRp) m
 refine eX o (aI g ?_)
 obtain⟨C,i,a⟩:=B0 a
 refine aI (M1 i (by first|rw[fL (show F2 (J1.R h) ([]:LV) ([]:S0) from trivial),fL b]|exact congrArg (·+1) (fL (show F2 (J1.R h) ([]:LV) ([]:S0) from trivial)))) ?_
 refine aI (by first|exact trivial|exact rfl) ?_
 refine aI ?_ trivial
 refine aI (by first|exact trivial|exact rfl) ?_
 refine aI ?_ trivial
 refine aI (by first|exact trivial|exact rfl) ?_
 intro F u e
 obtain⟨q,t,rfl,D,E,x⟩:=Y0.out (r:=J1.toRp) e (fA (show F2 (J1.R h) ([]:LV) ([]:S0) from trivial) b)
 cases a
 exact⟨_,rfl,(nP (nI j) (nP (nI k) (Y0.newPlain (r:=J1) e (fA (show F2 (J1.R h) ([]:LV) ([]:S0) from trivial) b) (O09 _))))⟩
def a02(h:Hp)(L:Option Addr)(af N:Nat)(q:S0)(o:M0.R h [.slice L af N] q)(O:List Value)(ag:O0)(aG:J1.R h O ag)(r:S0)(g:E8 q ag=some r):
  Tr Tryz.prog 156 #[.slice L af N,.agg O.toArray] h λv h'=>∃(K:Option Addr) (ae M:Nat),v = .slice K ae M/\New M0 h h' [.slice K ae M] r:=by
 obtain⟨rfl,a1⟩:=sL o
 obtain⟨b,c,d,rfl,rfl,i,j,k⟩:=C2 aG
 unfold E8 at g
 dsimp only at g
 refine wk Tryz.f156 ?_
 obtain⟨J,aw,g⟩:=B0 g
 refine eX { vars:=[6,7],owns:=[0] } (eX (λvs os h'=>∃ s p I t,vs.tail = [.bool s,iV p]/\os = [I]/\Sub h h'/\F0 p/\F2 (J1.R h') I t/\L5 q b c d (N1 vs) s p t=some J) (eX (λ_ _=>0) (aI (eX P0 ⟨_,_,_,_,rfl,rfl,sr,(by decide),(show F2 (J1.R h) ([]:LV) ([]:S0) from trivial),aw⟩) ?_)))
 rintro _ _ I m f ⟨s,p,bo,t,⟨⟩,⟨⟩,l,aX,e,a⟩
 replace a:L5 q b c d m s p t=some J:=a
 obtain _|m:=m
 ·cases a
 rw[L5.eq_2]at a
 refine ifB a (λaB a=>?_) λaB a=>?_
 ·refine w1 ?_
  refine ld a (M0.mono l o) λbn aU aM a=>?_
  obtain⟨ah,ai,aj,rfl,rfl,aC,aD,aF⟩:=C2 aM
  try dsimp only at a
  obtain⟨ak,av,a⟩:=B0 a
  refine eX (iV ak) (aI (V07 _ [iV b,iV c,iV d] (b,c,d) (U1 i j k) [iV ah,iV ai,iV aj] (ah,ai,aj) (U1 aC aD aF) _  av) ?_)
  obtain⟨a4,al,a⟩:=B0 a
  have aY:F0 ak:=K0 al
  refine ifB a (λax a=>?_) λax a=>?_
  ·refine ifB a (λay a=>?_) λay a=>?_
   ·obtain⟨a5,am,a⟩:=B0 a
    refine aI (M1 am (by first|rw[fL e,fL (show F2 (J1.R f) ([[iV b,iV c,iV d]]:LV) [(b,c,d)] from⟨(U1 i j k),trivial⟩)]|exact congrArg (·+1) (fL e))) ?_
    refine ld a (M0.mono l o) λbj aP aH a=>?_
    obtain⟨u,w,x,rfl,rfl,S,T,U⟩:=C2 aH
    try dsimp only at a
    obtain⟨a6,an,a⟩:=B0 a
    refine aI (M1 an (by first|rw[fL (fA e (show F2 (J1.R f) ([[iV b,iV c,iV d]]:LV) [(b,c,d)] from⟨(U1 i j k),trivial⟩)),fL (show F2 (J1.R f) ([[iV u,iV w,iV x]]:LV) [(u,w,x)] from⟨(U1 S T U),trivial⟩)]|exact congrArg (·+1) (fL (fA e (show F2 (J1.R f) ([[iV b,iV c,iV d]]:LV) [(b,c,d)] from⟨(U1 i j k),trivial⟩))))) ?_
    exact V1 m ⟨_,_,_,_,rfl,rfl,l,(J0 _),(fA (fA e (show F2 (J1.R f) ([[iV b,iV c,iV d]]:LV) [(b,c,d)] from⟨(U1 i j k),trivial⟩)) (show F2 (J1.R f) ([[iV u,iV w,iV x]]:LV) [(u,w,x)] from⟨(U1 S T U),trivial⟩)),a⟩
   ·refine ld a (M0.mono l o) λbk aQ aJ a=>?_
    obtain⟨y,z,A,rfl,rfl,V,W,X⟩:=C2 aJ
    try dsimp only at a
    obtain⟨a7,ao,a⟩:=B0 a
    refine aI (M1 ao (by first|rw[fL e,fL (show F2 (J1.R f) ([[iV y,iV z,iV A]]:LV) [(y,z,A)] from⟨(U1 V W X),trivial⟩)]|exact congrArg (·+1) (fL e))) ?_
    exact V1 m ⟨_,_,_,_,rfl,rfl,l,(J0 _),(fA e (show F2 (J1.R f) ([[iV y,iV z,iV A]]:LV) [(y,z,A)] from⟨(U1 V W X),trivial⟩)),a⟩
  ·refine ifB a (λaz a=>?_) λaz a=>?_
   ·obtain⟨a8,ap,a⟩:=B0 a
    refine aI (M1 ap (by first|rw[fL e,fL (show F2 (J1.R f) ([[iV b,iV c,iV d]]:LV) [(b,c,d)] from⟨(U1 i j k),trivial⟩)]|exact congrArg (·+1) (fL e))) ?_
    refine ld a (M0.mono l o) λbl aR aK a=>?_
    obtain⟨C,D,E,rfl,rfl,Y,Z,aa⟩:=C2 aK
    try dsimp only at a
    obtain⟨ba,aq,a⟩:=B0 a
    refine aI (M1 aq (by first|rw[fL (fA e (show F2 (J1.R f) ([[iV b,iV c,iV d]]:LV) [(b,c,d)] from⟨(U1 i j k),trivial⟩)),fL (show F2 (J1.R f) ([[iV C,iV D,iV E]]:LV) [(C,D,E)] from⟨(U1 Y Z aa),trivial⟩)]|exact congrArg (·+1) (fL (fA e (show F2 (J1.R f) ([[iV b,iV c,iV d]]:LV) [(b,c,d)] from⟨(U1 i j k),trivial⟩))))) ?_
    exact V1 m ⟨_,_,_,_,rfl,rfl,l,(J0 _),(fA (fA e (show F2 (J1.R f) ([[iV b,iV c,iV d]]:LV) [(b,c,d)] from⟨(U1 i j k),trivial⟩)) (show F2 (J1.R f) ([[iV C,iV D,iV E]]:LV) [(C,D,E)] from⟨(U1 Y Z aa),trivial⟩)),a⟩
   ·refine ld a (M0.mono l o) λbm aS aL a=>?_
    obtain⟨F,G,H,rfl,rfl,ab,ac,ad⟩:=C2 aL
    try dsimp only at a
    obtain⟨bb,ar,a⟩:=B0 a
    refine aI (M1 ar (by first|rw[fL e,fL (show F2 (J1.R f) ([[iV F,iV G,iV H]]:LV) [(F,G,H)] from⟨(U1 ab ac ad),trivial⟩)]|exact congrArg (·+1) (fL e))) ?_
    exact V1 m ⟨_,_,_,_,rfl,rfl,l,(J0 _),(fA e (show F2 (J1.R f) ([[iV F,iV G,iV H]]:LV) [(F,G,H)] from⟨(U1 ab ac ad),trivial⟩)),a⟩
 ·cases a
  try dsimp only[Q0,T0]at g
  refine ifB g (λaA g=>?_) λaA g=>?_
  ·obtain⟨bc,au,g⟩:=B0 g
   refine aI (M1 au (by first|rw[fL e,fL (show F2 (J1.R f) ([[iV b,iV c,iV d]]:LV) [(b,c,d)] from⟨(U1 i j k),trivial⟩)]|exact congrArg (·+1) (fL e))) ?_
   intro bh aZ P
   obtain⟨aN,aV,rfl,bd,bf,a2⟩:=Y0.out (r:=J1.toRp) P (fA e (show F2 (J1.R f) ([[iV b,iV c,iV d]]:LV) [(b,c,d)] from⟨(U1 i j k),trivial⟩))
   cases g
   exact⟨_,_,_,rfl,(New.from (Y0.newPlain (r:=J1) P (fA e (show F2 (J1.R f) ([[iV b,iV c,iV d]]:LV) [(b,c,d)] from⟨(U1 i j k),trivial⟩)) (O09 _)) l)⟩
  ·intro bi a0 Q
   obtain⟨aO,aW,rfl,be,bg,a3⟩:=Y0.out (r:=J1.toRp) Q e
   cases g
   exact⟨_,_,_,rfl,(New.from (Y0.newPlain (r:=J1) Q e (O09 _)) l)⟩
def D0i(h:Hp)(k:List Value)(l:z0)(w:L1.R h k l)(e:Int)(I:F0 e)(r:Int)(d:K02 l e=some r):
  Tr Tryz.prog 199 #[.agg k.toArray,iV e] h λv h'=>v=iV r/\h'=h:=by
 obtain⟨W,X,A,C,m,rfl,rfl,G,H,i,V⟩:=opG w
 unfold K02 at d
 dsimp only at d
 refine wkF Tryz.f199 ?_
 obtain⟨j,o,d⟩:=B0 d
 refine eX { vars:=[5,6] } (eX (λvs os h'=>∃ f g,vs.tail = [iV f,iV g]/\os = []/\Sub h h'/\F0 f/\F0 g/\G4 m e (N1 vs) f g=some j) (eX (λ_ _=>0) (aI (eX P0 ⟨_,_,rfl,rfl,sr,(by decide),(by decide),o⟩) ?_)))
 rintro _ _ c U ⟨f,g,⟨⟩,⟨⟩,b,u,J,a⟩
 replace a:G4 m e c f g=some j:=a
 obtain _|c:=c
 ·cases a
 rw[G4.eq_2]at a
 refine ifB a (λs a=>?_) λs a=>?_
 ·refine ld a (M0.mono b i) λac E y a=>?_
  obtain⟨ad,ae,af,rfl,rfl,N,O,P⟩:=C2 y
  try dsimp only at a
  refine ifB a (λt a=>?_) λt a=>?_
  ·refine ld a (M0.mono b i) λag F z a=>?_
   obtain⟨ah,ai,aj,rfl,rfl,Q,S,T⟩:=C2 z
   try dsimp only at a
   refine ifB a (λp a=>?_) λp a=>?_
   ·exact V1 c ⟨_,_,rfl,rfl,b,(J0 _),(J0 _),a⟩
   ·exact V1 c ⟨_,_,rfl,rfl,b,(J0 _),(J0 _),a⟩
  ·refine ld a (M0.mono b i) λY D x a=>?_
   obtain⟨Z,aa,ab,rfl,rfl,K,L,M⟩:=C2 x
   try dsimp only at a
   refine ifB a (λq a=>?_) λq a=>?_
   ·exact V1 c ⟨_,_,rfl,rfl,b,(J0 _),(J0 _),a⟩
   ·exact V1 c ⟨_,_,rfl,rfl,b,u,(J0 _),a⟩
 ·cases a
  try dsimp only[Q0,T0]at d
  cases d
  exact aI rfl b
def Z03(h:Hp)(g:List Value)(j:z0)(t:L1.R h g j)(i:List Value)(l:z0)(w:L1.R h i l)(r:Bool)(b:d8 j l=some r):
  Tr Tryz.prog 18 #[.agg g.toArray,.agg i.toArray] h λv h'=>v = .bool r/\h'=h:=by
 obtain⟨ac,ad,H,J,k,rfl,rfl,N,O,u,aa⟩:=opG t
 obtain⟨ae,af,I,K,m,rfl,rfl,P,Q,x,ab⟩:=opG w
 unfold d8 at b
 dsimp only at b
 refine wkF Tryz.f18 ?_
 refine ifB b (λp b=>?_) λp b=>?_
 ·cases b
  exact aI rfl sr
 ·obtain⟨f,o,b⟩:=B0 b
  refine eX { vars:=[5] } (eX (λvs os h'=>∃ d,vs.tail = [iV d]/\os = []/\Sub h h'/\F0 d/\g7 k m (N1 vs) d=some f) (eX (λ_ _=>0) (aI (eX P0 ⟨_,rfl,rfl,sr,(by decide),o⟩) ?_)))
  rintro _ e Z ⟨d,⟨⟩,⟨⟩,c,S,a⟩
  replace a:g7 k m e d=some f:=a
  obtain _|e:=e
  ·cases a
  rw[g7.eq_2]at a
  refine ifB a (λq a=>?_) λq a=>?_
  ·refine w1 ?_
   refine ld a (M0.mono c u) λag L y a=>?_
   obtain⟨A,C,D,rfl,rfl,T,U,V⟩:=C2 y
   try dsimp only at a
   refine ld a (M0.mono c x) λah M z a=>?_
   obtain⟨E,F,G,rfl,rfl,W,X,Y⟩:=C2 z
   try dsimp only at a
   refine eX (!eqE (A,C,D) (E,F,G)) (aI (c0o _ _ _ rfl _ _ _ _ _ _) ?_)
   refine ifB a (λs a=>?_) λs a=>?_
   ·cases a
    try dsimp only[P2,l3]at b
    cases b
    exact aI rfl c
   ·exact V1 e ⟨_,rfl,rfl,c,(J0 _),a⟩
  ·cases a
   try dsimp only[Q0,T0]at b
   cases b
   exact aI rfl c
def Z0e(h:Hp)(N:List Value)(S:z0)(ap:L1.R h N S)(e:Int)(P:F0 e)(r:H0)(b:r02 S e=some r):
  Tr Tryz.prog 198 #[.agg N.toArray,iV e] h λv h'=>∃(K:Option Addr) (Q M:Nat),v = .slice K Q M/\I0.R h' [.slice K Q M] r/\Sub h h':=by
 obtain⟨T,D,Y,aa,k,rfl,rfl,am,an,U,aR⟩:=opG ap
 unfold r02 at b
 dsimp only at b
 refine wk Tryz.f198 ?_
 refine trV b (t8 _ [iV T,iV D,.slice Y k.length aa] (T,D,k) (C0 am an U)) λa8 b=>?_
 refine trG b (λq=>Q4 _ e P 0 (by decide) (i64.wrap (D-1)) (J0 _)) λba b=>?_
 refine ifB b (λaj b=>?_) λaj b=>?_
 ·intro a6 aP ad
  obtain⟨aB,aG,rfl,au,ay,aZ⟩:=Y0.out (r:=Wp.int.toRp) ad (show F2 (Wp.int.R h) ([]:LV) ([]:H0) from trivial)
  cases b
  exact⟨_,_,_,rfl,au,ay⟩
 ·obtain⟨I,ae,b⟩:=B0 b
  refine eX { vars:=[5,6],pubs:=[5,22] } (eX (λvs os h'=>∃(w:Option Addr) (A x:Nat) (t:H0) (m:Int),vs.tail = [.slice w A x,iV m]/\os = []/\Sub h h'/\I0.R h' [.slice w A x] t/\F0 m/\j7 k (N1 vs) t m=some I) (eX (λ_ _=>0) ?_))
  intro a7 aQ ac
  obtain⟨Z,ab,rfl,ar,ax,aY⟩:=Y0.out (r:=Wp.int.toRp) ac (show F2 (Wp.int.R h) ([[iV e]]:LV) [e] from⟨⟨rfl,P⟩,trivial⟩)
  refine aI (eX P0 ⟨Z,([e]).length,ab,[e],0,rfl,rfl,ax,ar,(by decide),ae⟩) ?_
  rintro _ _ p ao ⟨w,A,x,t,m,⟨⟩,⟨⟩,F,E,aH,c⟩
  replace c:j7 k p t m=some I:=c
  obtain _|p:=p
  ·cases c
  rw[j7.eq_2]at c
  obtain⟨rfl,aS⟩:=sL E
  refine ifB c (λag c=>?_) λag c=>?_
  ·obtain⟨J,af,c⟩:=B0 c
   refine eX { vars:=[5,7] } (eX (λvs os h'=>∃ f C g d o,vs.tail = [.slice f C g,iV o]/\os = []/\Sub ao h'/\I0.R h' [.slice f C g] d/\F0 o/\C4 k (N1 vs) d o=some J) (eX (λ_ _=>0) (aI (eX P0 ⟨_,_,_,_,_,rfl,rfl,sr,E,(by decide),af⟩) ?_)))
   rintro _ _ i aL ⟨f,C,g,d,o,⟨⟩,⟨⟩,l,j,aJ,a⟩
   replace a:C4 k i d o=some J:=a
   obtain _|i:=i
   ·cases a
   rw[C4.eq_2]at a
   obtain⟨rfl,aU⟩:=sL j
   refine ifB a (λah a=>?_) λah a=>?_
   ·refine ld a (M0.mono (F.trans l) U) λbb aC aq a=>?_
    obtain⟨G,bc,H,rfl,rfl,y,aK,z⟩:=C2 aq
    try dsimp only at a
    refine trV a (i05 _ f d.length g d j G y) λbd a=>?_
    refine ifB a (λai a=>?_) λai a=>?_
    ·refine trM a (h05 _ f d.length g d j H z) ?_
     rintro u a a3 aM ⟨L,a0,O,rfl,s,X⟩
     obtain⟨rfl,aV⟩:=sL s
     refine trV a (i05 _ L u.length O u s H z) λbe a=>?_
     refine ifB a (λak a=>?_) λak a=>?_
     ·refine trM a (h05 _ L u.length O u s G y) ?_
      rintro bf a a4 aN ⟨az,a1,aD,rfl,V,av⟩
      obtain⟨rfl,aW⟩:=sL V
      exact V1 i ⟨_,_,_,_,_,rfl,rfl,((l.trans X).trans av),V,(J0 _),a⟩
     ·exact V1 i ⟨_,_,_,_,_,rfl,rfl,(l.trans X),s,(J0 _),a⟩
    ·refine trV a (i05 _ f d.length g d j H z) λbg a=>?_
     refine ifB a (λal a=>?_) λal a=>?_
     ·refine trM a (h05 _ f d.length g d j G y) ?_
      rintro bh a a5 aO ⟨aA,a2,aF,rfl,W,aw⟩
      obtain⟨rfl,aX⟩:=sL W
      exact V1 i ⟨_,_,_,_,_,rfl,rfl,(l.trans aw),W,(J0 _),a⟩
     ·exact V1 i ⟨_,_,_,_,_,rfl,rfl,l,j,(J0 _),a⟩
   ·cases a
    try dsimp only[Q0,T0]at c
    exact V1 p ⟨_,_,_,_,_,rfl,rfl,(F.trans l),j,(J0 _),c⟩
  ·cases c
   try dsimp only[Q0,T0]at b
   cases b
   exact⟨_,_,_,rfl,E,F⟩
def o0e(h:Hp)(j:List Value)(o:z0)(F:L1.R h j o)(r:Int)(b:s04 o=some r):
  Tr Tryz.prog 182 #[.agg j.toArray] h λv h'=>v=iV r/\h'=h:=by
 obtain⟨p,s,H,I,t,rfl,rfl,k,l,u,L⟩:=opG F
 unfold s04 at b
 dsimp only at b
 refine wkF Tryz.f182 ?_
 refine trM b (Z0e _ _ _ (C0 k l u) 0 (by decide)) ?_
 rintro f b P E ⟨x,N,y,rfl,w,g⟩
 obtain⟨rfl,M⟩:=sL w
 obtain⟨i,A,b⟩:=B0 b
 refine eX { vars:=[4] } (eX (λvs os h'=>∃ c,vs.tail = [iV c]/\os = []/\Sub E h'/\F0 c/\A00 s p t f (N1 vs) c=some i) (eX (λ_ _=>0) (aI (eX P0 ⟨_,rfl,rfl,sr,(by decide),A⟩) ?_)))
 rintro _ e K ⟨c,⟨⟩,⟨⟩,d,m,a⟩
 replace a:A00 s p t f e c=some i:=a
 obtain _|e:=e
 ·cases a
 rw[A00.eq_2]at a
 refine ifB a (λD a=>?_) λD a=>?_
 ·refine trV a (D0i _ _ _ (C0 k l (M0.mono (g.trans d) u)) _ m) λG a=>?_
  obtain⟨O,z,a⟩:=B0 a
  have J:F0 G:=K0 z
  refine trG a (λq=>i05 _ x f.length y f (I0.mono d w) c m) λQ a=>?_
  refine ifB a (λC a=>?_) λC a=>?_
  ·cases a
   try dsimp only[P2,l3]at b
   cases b
   exact aI rfl (g.trans d)
  ·exact V1 e ⟨_,rfl,rfl,d,(J0 _),a⟩
 ·cases a
  try dsimp only[Q0,T0]at b
  cases b
  exact aI rfl (g.trans d)
def Y04(h:Hp)(Z:List Value)(ad:z0)(aV:L1.R h Z ad)(W:Option Addr)(ac X:Nat)(C:H0)(E:I0.R h [.slice W ac X] C)(r:z0×Bool)(d:g8 ad C=some r):
  Tr Tryz.prog 157 #[.agg Z.toArray,.slice W ac X] h λv h'=>∃(Y:List Value),v = .tuple #[.agg Y.toArray,.bool r.2]/\New L1 h h' Y r.1:=by
 obtain⟨A,j,af,ak,k,rfl,rfl,x,I,D,bO⟩:=opG aV
 obtain⟨rfl,aU⟩:=sL E
 unfold g8 at d
 dsimp only at d
 refine wk Tryz.f157 ?_
 refine trV d (t8 _ [iV A,iV j,.slice af k.length ak] (A,j,k) (C0 x I D)) λcc d=>?_
 refine ifB d (λaD d=>?_) λaD d=>?_
 ·refine trM d (G5 _ _ _ (C0 x I D)) ?_
  rintro ck d ca aQ ⟨bj,rfl,Q⟩
  have b7:Sub h aQ:=Q.sub
  have aZ:=Q.r
  obtain⟨cr,cs,be,bq,ct,rfl,rfl,aM,aN,bX,bR⟩:=opG aZ
  try dsimp only at d
  have a8:=nD (nD (Q))
  cases d
  exact⟨_,rfl,(nP (nI aM) (nP (nI aN) a8))⟩
 ·obtain⟨bV,ap,d⟩:=B0 d
  refine aI (K0 ap) ?_
  obtain⟨V,aA,d⟩:=B0 d
  refine eX { vars:=[8],owns:=[0],kept:=[0] } (eX (λvs os h'=>∃ i N l,vs.tail = [iV i]/\os = [N]/\Sub h h'/\F0 i/\F2 (Wp.int.R h') N l/\M5 C j A k (N1 vs) i l=some V) (eX (λ_ _=>0) (aI (eX P0 ⟨_,_,_,rfl,rfl,sr,(by decide),(F2.rep (p:=Wp.int.R h) (a:=[iV 0]) (b:=0) ⟨rfl,(by decide)⟩ (j.toNat)),aA⟩) ?_)))
  rintro _ N z y ⟨i,cv,l,⟨⟩,⟨⟩,e,bt,g,c⟩
  replace c:M5 C j A k z i l=some V:=c
  obtain _|z:=z
  ·cases c
  rw[M5.eq_2]at c
  refine ifB c (λaB c=>?_) λaB c=>?_
  ·refine w1 ?_
   refine ldI c (I0.mono e E) λba aH c=>?_
   obtain⟨bb,aq,c⟩:=B0 c
   refine eX (.bool bb) (aI (Q4 _ ba aH 0 (by decide) (i64.wrap (j-1)) (J0 _) _  aq) ?_)
   refine ldG c (I0.mono e E) λcd bu c=>?_
   obtain⟨ce,ar,c⟩:=B0 c
   obtain⟨bg,aa,aW⟩:=s05 g ar (J0f y)
   refine aI (λq=>(aa q).1) ?_
   obtain⟨rfl,bv⟩:=aW
   refine eX _ (aI (λq=>(aa q).2) ?_)
   refine ifB c (λaC c=>?_) λaC c=>?_
   ·refine trM c (G5 _ _ _ (C0 x I (M0.mono e D))) ?_
    rintro cf c b8 aO ⟨bh,rfl,P⟩
    have b6:Sub y aO:=P.sub
    have aX:=P.r
    obtain⟨cg,ch,bd,bp,ci,rfl,rfl,aJ,aK,bW,bQ⟩:=opG aX
    try dsimp only at c
    have a7:=nD (nD (P))
    cases c
    try dsimp only[P2,l3]at d
    cases d
    exact⟨_,rfl,(nP (nI aJ) (nP (nI aK) (New.from a7 e)))⟩
   ·refine ldI c (I0.mono e E) λbc bx c=>?_
    obtain⟨cj,au,c⟩:=B0 c
    obtain⟨ag,bi,al,aY⟩:=L3 g au
    refine aI ag ?_
    obtain⟨rfl,bz⟩:=aY
    refine eX _ (aI al ?_)
    exact V1 z ⟨_,_,_,rfl,rfl,e,(J0 _),(F2.set (p:=Wp.int.R y) (a:=[iV (i64.wrap (i+1))]) (b:=(i64.wrap (i+1))) ⟨rfl,(J0 _)⟩ bc.toNat g),c⟩
  ·cases c
   try dsimp only[Q0,T0]at d
   obtain⟨U,az,d⟩:=B0 d
   refine eX { vars:=[9],boxes:=[2] } (eX (λvs os h'=>∃ o s t G L H F,vs.tail = [iV o,iV s,iV t,.slice G L H]/\os = []/\Sub y h'/\F0 o/\F0 s/\F0 t/\New M0 h h' [.slice G L H] F/\S4 k l (N1 vs) o s t F=some U) (eX (λ_ _=>0) (aI (eX P0 ⟨_,_,_,_,_,_,_,rfl,rfl,sr,(by decide),x,(g0s aU),((New.nilSlice (r:=J1)).mono e),az⟩) ?_)))
   rintro _ _ _ _ m aP ⟨o,s,t,G,L,H,F,⟨⟩,⟨⟩,f,bs,J,K,O,c⟩
   replace c:S4 k l m o s t F=some U:=c
   obtain _|m:=m
   ·cases c
   rw[S4.eq_2]at c
   have ae:=O.r
   obtain⟨rfl,bP⟩:=sL ae
   refine ifB c (λaF c=>?_) λaF c=>?_
   ·refine ld c (M0.mono (e.trans f) D) λcl bk a0 c=>?_
    obtain⟨cm,T,cn,rfl,rfl,bA,aL,bB⟩:=C2 a0
    try dsimp only at c
    obtain⟨co,av,c⟩:=B0 c
    obtain⟨ah,bl,am,a1⟩:=L3 (F2.up (r:=Wp.int.toRp) f g) av
    refine aI ah ?_
    obtain⟨rfl,bC⟩:=a1
    refine eX _ (aI am ?_)
    obtain⟨cq,aw,c⟩:=B0 c
    obtain⟨bm,ab,a2⟩:=s05 (F2.up (r:=Wp.int.toRp) f g) aw (J0f aP)
    refine aI (λq=>(ab q).1) ?_
    obtain⟨rfl,bD⟩:=a2
    refine eX _ (aI (λq=>(ab q).2) ?_)
    refine ifB c (λaG c=>?_) λaG c=>?_
    ·refine w5 17 ?_
     obtain⟨u,ax,c⟩:=B0 c
     obtain⟨ai,bn,an,a3⟩:=L3 (F2.up (r:=Wp.int.toRp) f g) ax
     obtain⟨rfl,bE⟩:=a3
     refine Or.inl ?_
     apply eX
     refine aI ?_ ?_
     ·intro bH bY
      exact aI ai r3
     refine pm (.val (iV u)) ?_ ?_
     ·intro bI bZ
      exact eX _ (aI an r3)
     refine pm (.val (iV (i64.wrap (u-1)))) ?_ ?_
     ·intro bJ b0
      exact r3
     obtain⟨w,ay,c⟩:=B0 c
     obtain⟨aj,bo,ao,a4⟩:=L3 (F2.up (r:=Wp.int.toRp) f g) ay
     obtain⟨rfl,bG⟩:=a4
     refine Or.inl ?_
     apply eX
     refine aI ?_ ?_
     ·intro bK b1
      exact aI aj r3
     refine pm (.val (iV w)) ?_ ?_
     ·intro bL b2
      exact eX _ (aI ao r3)
     refine pm (.val (iV (i64.wrap (w-1)))) ?_ ?_
     ·intro bM b3
      exact r3
     refine pm (.agg [.val (iV (i64.wrap (u-1))),.val (iV T),.val (iV (i64.wrap (w-1)))]) ?_ ?_
     ·intro bN b5
      exact r3
     intro aR M
     refine trM c (a02 _ _ _ _ _ (M0.mono M ae) [iV (i64.wrap (u-1)),iV T,iV (i64.wrap (w-1))] ((i64.wrap (u-1)),T,(i64.wrap (w-1))) (U1 (J0 _) aL (J0 _))) ?_
     rintro cu c cb aS ⟨bf,bU,br,rfl,S⟩
     have a6:Sub aR aS:=S.sub
     have a5:=S.r
     obtain⟨rfl,bS⟩:=sL a5
     exact V1 m ⟨_,_,_,_,_,_,_,rfl,rfl,((f.trans M).trans a6),(J0 _),J,K,(New.from S ((e.trans f).trans M)),c⟩
    ·exact V1 m ⟨_,_,_,_,_,_,_,rfl,rfl,f,(J0 _),J,K,O,c⟩
   ·cases c
    try dsimp only[Q0,T0]at d
    cases d
    exact⟨_,rfl,(nP (nI J) (nP (nI K) O))⟩
def j05(h:Hp)(f:Int)(D:F0 f)(r:H0)(e:F8 f=some r):
  Tr Tryz.prog 188 #[iV f] h λv h'=>∃(m:Option Addr) (p o:Nat),v = .slice m p o/\I0.R h' [.slice m p o] r/\Sub h h':=by
 unfold F8 at e
 refine wk Tryz.f188 ?_
 obtain⟨l,w,e⟩:=B0 e
 refine eX { vars:=[4],owns:=[0] } (eX (λvs os h'=>∃ a k j,vs.tail = [iV a]/\os = [k]/\Sub h h'/\F0 a/\F2 (Wp.int.R h') k j/\i8 f (N1 vs) a j=some l) (eX (λ_ _=>0) (aI (eX P0 ⟨_,_,_,rfl,rfl,sr,(by decide),(show F2 (Wp.int.R h) ([]:LV) ([]:H0) from trivial),w⟩) ?_)))
 rintro _ k i d ⟨a,J,j,⟨⟩,⟨⟩,q,g,c,b⟩
 replace b:i8 f i a j=some l:=b
 obtain _|i:=i
 ·cases b
 rw[i8.eq_2]at b
 refine ifB b (λx b=>?_) λx b=>?_
 ·obtain⟨G,t,b⟩:=B0 b
  refine aI (M1 t (by first|rw[fL c,fL (show F2 (Wp.int.R d) ([[iV a]]:LV) [a] from⟨⟨rfl,g⟩,trivial⟩)]|exact congrArg (·+1) (fL c))) ?_
  obtain⟨H,u,b⟩:=B0 b
  refine aI (M1 u (by first|rw[fL (fA c (show F2 (Wp.int.R d) ([[iV a]]:LV) [a] from⟨⟨rfl,g⟩,trivial⟩)),fL (show F2 (Wp.int.R d) ([[iV (i64.wrap (0-a))]]:LV) [(i64.wrap (0-a))] from⟨⟨rfl,(J0 _)⟩,trivial⟩)]|exact congrArg (·+1) (fL (fA c (show F2 (Wp.int.R d) ([[iV a]]:LV) [a] from⟨⟨rfl,g⟩,trivial⟩))))) ?_
  exact V1 i ⟨_,_,_,rfl,rfl,q,(J0 _),(fA (fA c (show F2 (Wp.int.R d) ([[iV a]]:LV) [a] from⟨⟨rfl,g⟩,trivial⟩)) (show F2 (Wp.int.R d) ([[iV (i64.wrap (0-a))]]:LV) [(i64.wrap (0-a))] from⟨⟨rfl,(J0 _)⟩,trivial⟩)),b⟩
 ·cases b
  try dsimp only[Q0,T0]at e
  intro I E s
  obtain⟨A,C,rfl,y,z,F⟩:=Y0.out (r:=Wp.int.toRp) s c
  cases e
  exact⟨_,_,_,rfl,y,(q.trans z)⟩
def F0b(h:Hp)(I:List Value)(M:z0)(ap:L1.R h I M)(r:H0)(c:H00 M=some r):
  Tr Tryz.prog 186 #[.agg I.toArray] h λv h'=>∃(E:Option Addr) (L G:Nat),v = .slice E L G/\I0.R h' [.slice E L G] r/\Sub h h':=by
 obtain⟨d,e,F,H,f,rfl,rfl,x,J,N,aQ⟩:=opG ap
 unfold H00 at c
 dsimp only at c
 refine wk Tryz.f186 ?_
 refine trV c (F7 _ [iV d,iV e,.slice F f.length H] (d,e,f) (C0 x J N)) λa5 c=>?_
 refine ifB c (λag c=>?_) λag c=>?_
 ·intro a2 aO W
  obtain⟨aD,aJ,rfl,av,ax,aV⟩:=Y0.out (r:=Wp.int.toRp) W (show F2 (Wp.int.R h) ([]:LV) ([]:H0) from trivial)
  cases c
  exact⟨_,_,_,rfl,av,ax⟩
 ·refine trM c (j05 _ _ x) ?_
  rintro u c a4 an ⟨aB,aW,aG,rfl,O,z⟩
  obtain⟨rfl,aR⟩:=sL O
  obtain⟨C,ad,c⟩:=B0 c
  refine eX { vars:=[5],owns:=[0] } (eX (λvs os h'=>∃ i t s,vs.tail = [iV i]/\os = [t]/\Sub an h'/\F0 i/\F2 (Wp.int.R h') t s/\J6 u d e f (N1 vs) i s=some C) (eX (λ_ _=>0) (aI (eX P0 ⟨_,_,_,rfl,rfl,sr,(by decide),(F2.up (r:=Wp.int.toRp) z (show F2 (Wp.int.R h) ([[iV 0]]:LV) [0] from⟨⟨rfl,(by decide)⟩,trivial⟩)),ad⟩) ?_)))
  rintro _ t p am ⟨i,a6,s,⟨⟩,⟨⟩,q,aL,w,b⟩
  replace b:J6 u d e f p i s=some C:=b
  obtain _|p:=p
  ·cases b
  rw[J6.eq_2]at b
  obtain⟨ao,X,b⟩:=B0 b
  obtain rfl:t.length=ao:=(fL w).trans (oJ X)
  obtain⟨aX,aK,b⟩:=B0 b
  refine ifB b (λaf b=>?_) λaf b=>?_
  ·obtain⟨D,ae,b⟩:=B0 b
   refine eX { vars:=[6],owns:=[0] } (eX (λvs os h'=>∃ o A k,vs.tail = [iV o]/\os = [A]/\Sub am h'/\F0 o/\F2 (Wp.int.R h') A k/\H4 u i d e f (N1 vs) o k=some D) (eX (λ_ _=>0) (aI (eX P0 ⟨_,_,_,rfl,rfl,sr,(by decide),w,ae⟩) ?_)))
   rintro _ A l K ⟨o,a7,k,⟨⟩,⟨⟩,m,aM,g,a⟩
   replace a:H4 u i d e f l o k=some D:=a
   obtain _|l:=l
   ·cases a
   rw[H4.eq_2]at a
   refine ifB a (λah a=>?_) λah a=>?_
   ·refine w1 ?_
    obtain⟨ay,aa,a⟩:=B0 a
    obtain⟨Q,aF,T,aq⟩:=L3 g aa
    refine aI Q ?_
    obtain⟨rfl,ak⟩:=aq
    refine eX _ (aI T ?_)
    refine ldI a (I0.mono (q.trans m) O) λaz al a=>?_
    obtain⟨j,ab,a⟩:=B0 a
    refine eX (iV j) (aI (W6 _ [iV d,iV e,.slice F f.length H] (d,e,f) (C0 x J (M0.mono ((z.trans q).trans m) N)) ay ak az al _  ab) ?_)
    obtain⟨aY,Y,a⟩:=B0 a
    have y:F0 j:=K0 Y
    obtain⟨aA,ac,a⟩:=B0 a
    refine eX (.bool aA) (aI ?_ ?_)
    ·intro aj
     intro a1 aN U
     obtain⟨P,S,rfl,ar,a0,aS⟩:=Y0.out (r:=Wp.int.toRp) U g
     exact i05 _ P k.length S k ar j y _ (Z3 ac aj)
    refine ifB a (λai a=>?_) λai a=>?_
    ·obtain⟨aZ,Z,a⟩:=B0 a
     refine aI (M1 Z (by first|rw[fL g,fL (show F2 (Wp.int.R K) ([[iV j]]:LV) [j] from⟨⟨rfl,y⟩,trivial⟩)]|exact congrArg (·+1) (fL g))) ?_
     exact V1 l ⟨_,_,_,rfl,rfl,m,(J0 _),(fA g (show F2 (Wp.int.R K) ([[iV j]]:LV) [j] from⟨⟨rfl,y⟩,trivial⟩)),a⟩
    ·exact V1 l ⟨_,_,_,rfl,rfl,m,(J0 _),g,a⟩
   ·cases a
    try dsimp only[Q0,T0]at b
    exact V1 p ⟨_,_,_,rfl,rfl,(q.trans m),(J0 _),g,b⟩
  ·cases b
   try dsimp only[Q0,T0]at c
   intro a3 aP V
   obtain⟨aC,aH,rfl,au,aw,aU⟩:=Y0.out (r:=Wp.int.toRp) V w
   cases c
   exact⟨_,_,_,rfl,au,((z.trans q).trans aw)⟩
def X06(h:Hp)(j:List Value)(l:z0)(x:L1.R h j l)(r:z0)(a:o9 l=some r):
  Tr Tryz.prog 151 #[.agg j.toArray] h λv h'=>∃(i:List Value),v = .agg i.toArray/\New L1 h h' i r:=by
 obtain⟨U,V,E,I,W,rfl,rfl,d,e,f,O⟩:=opG x
 unfold o9 at a
 dsimp only at a
 refine wk Tryz.f151 ?_
 refine trM a (F0b _ _ _ (C0 d e f)) ?_
 rintro ae a ac k ⟨F,T,L,rfl,m,b⟩
 obtain⟨rfl,P⟩:=sL m
 refine ifB a (λo a=>?_) λo a=>?_
 ·refine trM a (G5 _ _ _ (C0 d e (M0.mono b f))) ?_
  rintro af a ad w ⟨J,rfl,g⟩
  have Z:Sub k w:=g.sub
  have y:=g.r
  obtain⟨ag,ah,G,M,ai,rfl,rfl,p,q,X,Q⟩:=opG y
  try dsimp only at a
  have C:=nD (nD (g))
  cases a
  exact⟨_,rfl,(nP (nI p) (nP (nI q) (New.from C b)))⟩
 ·refine trM a (Y04 _ _ _ (C0 d e (M0.mono b f)) _ _ _ _ m) ?_
  rintro D a ab u ⟨K,rfl,c⟩
  obtain⟨aj,an⟩:=D
  dsimp only at a c
  have aa:Sub k u:=c.sub
  have z:=c.r
  obtain⟨ak,al,H,N,am,rfl,rfl,s,t,Y,S⟩:=opG z
  try dsimp only at a
  have A:=nD (nD (c))
  cases a
  exact⟨_,rfl,(nP (nI s) (nP (nI t) (New.from A b)))⟩
def u0l(h:Hp)(m:List Value)(o:z0)(S:L1.R h m o)(r:Bool)(a:h03 o=some r):
  Tr Tryz.prog 144 #[.agg m.toArray] h λv h'=>v = .bool r/\h'=h:=by
 obtain⟨p,s,y,A,t,rfl,rfl,f,g,i,ar⟩:=opG S
 unfold h03 at a
 dsimp only at a
 refine wkF Tryz.f144 ?_
 refine w4 ?_
 obtain⟨ab,H,a⟩:=B0 a
 refine pm (.val (.bool ab)) ?_ ?_
 ·intro an Z
  exact Tr.val (F7 _ [iV p,iV s,.slice y t.length A] (p,s,t) (C0 f g (M0.mono Z i)) _ H) r3
 obtain⟨l,K,a⟩:=B0 a
 obtain⟨av,G,a⟩:=B0 a
 have aj:F0 l:=K0 G
 refine pm (.val (iV l)) ?_ ?_
 ·intro ao aa b
  exact Tr.val (o0e _ _ _ (C0 f g (M0.mono aa i)) _ (Z3 K b)) r3
 refine pm (.val (.bool (decide (l<0)))) ?_ ?_
 ·intro ap aw b
  exact r3
 obtain⟨ac,I,a⟩:=B0 a
 obtain⟨w,x,j⟩:=ac
 try dsimp only at a
 refine Or.inr (eX (λv L=>∃(c:Option Addr) (d:Nat),v = .agg #[iV w,iV x,.slice c j.length d]/\F0 w/\F0 x/\M0.R L [.slice c j.length d] j/\j.length<=9223372036854775807) (aI (λv ah ai k q=>by obtain⟨c,d,e,E,F,f2,f3⟩:=q;exact⟨c,d,e,E,F,M0.mono k f2,f3⟩) (aI ?_ ?_)))
 ·intro ak W b
  refine Tr.mono (X06 _ _ _ (C0 f g (M0.mono W i)) _ (Z3 I b)) ?_
  rintro _ aq ⟨af,rfl,u⟩
  have k:=u.sub
  have T:=u.r
  obtain⟨ax,ay,z,C,az,rfl,D,M,N,U,Q⟩:=opG T
  cases D
  exact aI t6 (aI k ⟨z,C,rfl,M,N,U,Q⟩)
 obtain⟨ad,J,a⟩:=B0 a
 refine pm (.val (.bool ad)) ?_ ?_
 ·intro al X b
  rintro _ ⟨ae,ag,rfl,O,P,V,au⟩
  exact Tr.val (Z03 _ _ _ (C0 O P V) _ _ (C0 f g (M0.mono X i)) _ (Z3 J b)) r3
 intro am Y
 cases a
 exact aI rfl Y
def Y6(h:Hp)(b:List Value)(c:z0)(f:L1.R h b c)(r:Bool)(a:U2 c=some r):
  Tr Tryz.prog 73 #[.agg b.toArray] h λv h'=>v = .bool r/\h'=h:=by
 obtain⟨l,m,i,j,o,rfl,rfl,d,e,g,k⟩:=opG f
 unfold U2 at a
 dsimp only at a
 refine wkF Tryz.f73 ?_
 refine trV a (u0l _ _ _ (C0 d e g)) λp a=>?_
 cases a
 exact aI rfl sr
def J0i(h:Hp)(s:Option Addr)(C w:Nat)(i:O1)(m:T1.R h [.slice s C w] i)(t:Option Addr)(D x:Nat)(j:H0)(e:I0.R h [.slice t D x] j)(r:H0)(d:l04 i j=some r):
  Tr Tryz.prog 75 #[.slice s C w,.slice t D x] h λv h'=>∃(q:Option Addr) (A u:Nat),v = .slice q A u/\I0.R h' [.slice q A u] r/\Sub h h':=by
 obtain⟨rfl,aw⟩:=sL m
 obtain⟨rfl,ax⟩:=sL e
 unfold l04 at d
 refine wk Tryz.f75 ?_
 obtain⟨p,N,d⟩:=B0 d
 refine eX { vars:=[6],owns:=[0] } (eX (λvs os h'=>∃ g o l,vs.tail = [iV g]/\os = [o]/\Sub h h'/\F0 g/\F2 (Wp.int.R h') o l/\U6 j i (N1 vs) g l=some p) (eX (λ_ _=>0) (aI (eX P0 ⟨_,_,_,rfl,rfl,sr,(by decide),(show F2 (Wp.int.R h) ([]:LV) ([]:H0) from trivial),N⟩) ?_)))
 rintro _ o f av ⟨g,aX,l,⟨⟩,⟨⟩,b,aj,c,a⟩
 replace a:U6 j i f g l=some p:=a
 obtain _|f:=f
 ·cases a
 rw[U6.eq_2]at a
 refine ifB a (λP a=>?_) λP a=>?_
 ·refine ldI a (I0.mono b e) λaV ao a=>?_
  refine ldG a (I0.mono b e) λaW ap a=>?_
  refine ifB a (λQ a=>?_) λQ a=>?_
  ·refine ldI a (I0.mono b e) λaM ak a=>?_
   refine ld a (T1.mono b m) λaN ac E a=>?_
   obtain⟨X,ae,rfl,ay⟩:=slL E
   obtain⟨V,I,y⟩:=Sl.rows (r:=Wp.int.toRp) E
   refine eX V (aI I ?_)
   obtain⟨aG,L,a⟩:=B0 a
   refine aI (M1 L (by first|rw[fL c,fL y]|exact congrArg (·+1) (fL c))) ?_
   exact V1 f ⟨_,_,_,rfl,rfl,b,(J0 _),(fA c y),a⟩
  ·refine ldI a (I0.mono b e) λaO al a=>?_
   refine ldG a (I0.mono b e) λaP am a=>?_
   refine ifB a (λO a=>?_) λO a=>?_
   ·refine ldI a (I0.mono b e) λaQ an a=>?_
    refine ld a (T1.mono b m) λaR ad F a=>?_
    obtain⟨Y,af,rfl,az⟩:=slL F
    refine trM a (B04 _ _ _ _ _ F) ?_
    rintro aS a aJ aq ⟨Z,aD,ag,rfl,G,k⟩
    obtain⟨rfl,aA⟩:=sL G
    obtain⟨W,J,z⟩:=Sl.rows (r:=Wp.int.toRp) G
    refine eX W (aI J ?_)
    obtain⟨aH,M,a⟩:=B0 a
    refine aI (M1 M (by first|rw[fL (F2.up (r:=Wp.int.toRp) k c),fL z]|exact congrArg (·+1) (fL (F2.up (r:=Wp.int.toRp) k c)))) ?_
    exact V1 f ⟨_,_,_,rfl,rfl,(b.trans k),(J0 _),(fA (F2.up (r:=Wp.int.toRp) k c) z),a⟩
   ·exact V1 f ⟨_,_,_,rfl,rfl,b,(J0 _),c,a⟩
 ·cases a
  try dsimp only[Q0,T0]at d
  refine Or.inl ?_
  intro aK ar K
  obtain⟨ab,ai,rfl,S,U,aC⟩:=Y0.out (r:=Wp.int.toRp) K c
  refine trM d (X04 _ _ _ _ _ S) ?_
  rintro aU d aL au ⟨aa,aF,ah,rfl,H,T⟩
  obtain⟨rfl,aB⟩:=sL H
  cases d
  exact⟨_,_,_,rfl,H,((b.trans U).trans T)⟩
def K07(h:Hp)(c:Option Addr)(j d:Nat)(b:H0)(k:I0.R h [.slice c j d] b)(r:H0)(a:V9 b=some r):
  Tr Tryz.prog 120 #[.slice c j d] h λv h'=>∃(f:Option Addr) (i g:Nat),v = .slice f i g/\New I0 h h' [.slice f i g] r:=by
 obtain⟨rfl,x⟩:=sL k
 unfold V9 at a
 refine wk Tryz.f120 ?_
 refine Or.inl ?_
 intro D l f3
 obtain⟨t,w,rfl,p,q,z⟩:=Y0.out (r:=I0.toRp) f3 (show F2 (I0.R h) ([[.slice c b.length d]]:LV) [b] from⟨k,trivial⟩)
 refine trM a (T08 _ _ _ _ _ p) ?_
 rintro F a E m ⟨s,A,u,rfl,e⟩
 have C:Sub l m:=e.sub
 have o:=e.r
 obtain⟨rfl,y⟩:=sL o
 cases a
 exact⟨_,_,_,rfl,(New.from e q)⟩
def Q0i(h:Hp)(x:Option Addr)(J D:Nat)(f:O1)(p:T1.R h [.slice x J D] f)(y:Option Addr)(K E:Nat)(L:H0)(M:I0.R h [.slice y K E] L)(r:H0)(b:m04 f L=some r):
  Tr Tryz.prog 65 #[.slice x J D,.slice y K E] h λv h'=>∃(w:Option Addr) (I C:Nat),v = .slice w I C/\I0.R h' [.slice w I C] r/\Sub h h':=by
 obtain⟨rfl,ah⟩:=sL p
 obtain⟨rfl,aB⟩:=sL M
 unfold m04 at b
 refine wk Tryz.f65 ?_
 obtain⟨T,Z,b⟩:=B0 b
 obtain⟨ai,am,U,W⟩:=Sl.cutI (r:=Wp.int.toRp) M Z
 refine aI ai (eX am (aI U ?_))
 intro an ae _
 obtain⟨ao,aw,rfl,N⟩:=W an ae
 have aC:=(sL N).2
 obtain⟨u,aa,b⟩:=B0 b
 refine eX { vars:=[15],owns:=[0] } (eX (λvs os h'=>∃ g t j,vs.tail = [iV g]/\os = [t]/\Sub h h'/\F0 g/\F2 (I0.R h') t j/\V6 T f (N1 vs) g j=some u) (eX (λ_ _=>0) (aI (eX P0 ⟨_,_,_,rfl,rfl,sr,(by decide),(show F2 (I0.R h) ([]:LV) ([]:O1) from trivial),aa⟩) ?_)))
 rintro _ t e o ⟨g,aX,j,⟨⟩,⟨⟩,d,aA,c,a⟩
 replace a:V6 T f e g j=some u:=a
 obtain _|e:=e
 ·cases a
 rw[V6.eq_2]at a
 refine ifB a (λad a=>?_) λad a=>?_
 ·refine ldI a (I0.mono d N) λaV H a=>?_
  refine trV a (p6 _ _ H 1 (by decide) _ (g0s ah)) λaW a=>?_
  refine ifB a (λab a=>?_) λab a=>?_
  ·refine ld a (T1.mono d p) λk au q a=>?_
   obtain⟨z,F,rfl,aD⟩:=slL q
   obtain⟨aM,X,a⟩:=B0 a
   refine aI (M1 X (by first|rw[fL c,fL (show F2 (I0.R o) ([[.slice z k.length F]]:LV) [k] from⟨q,trivial⟩)]|exact congrArg (·+1) (fL c))) ?_
   exact V1 e ⟨_,_,_,rfl,rfl,d,(J0 _),(fA c (show F2 (I0.R o) ([[.slice z k.length F]]:LV) [k] from⟨q,trivial⟩)),a⟩
  ·refine trV a (p6 _ _ H (i64.wrap (0-((f.length:Nat):Int))) (J0 _) (-1) (by decide)) λaR a=>?_
   refine ifB a (λac a=>?_) λac a=>?_
   ·refine ld a (T1.mono d p) λaS av O a=>?_
    obtain⟨ap,ax,rfl,aF⟩:=slL O
    refine trM a (I06 _ _ _ _ _ O) ?_
    rintro l a aO m ⟨A,aK,G,rfl,Q⟩
    have i:Sub o m:=Q.sub
    have s:=Q.r
    obtain⟨rfl,aG⟩:=sL s
    obtain⟨aN,Y,a⟩:=B0 a
    refine aI (M1 Y (by first|rw[fL (F2.up (r:=I0.toRp) i c),fL (show F2 (I0.R m) ([[.slice A l.length G]]:LV) [l] from⟨s,trivial⟩)]|exact congrArg (·+1) (fL (F2.up (r:=I0.toRp) i c)))) ?_
    exact V1 e ⟨_,_,_,rfl,rfl,(d.trans i),(J0 _),(fA (F2.up (r:=I0.toRp) i c) (show F2 (I0.R m) ([[.slice A l.length G]]:LV) [l] from⟨s,trivial⟩)),a⟩
   ·exact V1 e ⟨_,_,_,rfl,rfl,d,(J0 _),c,a⟩
 ·cases a
  try dsimp only[Q0,T0]at b
  refine Or.inl ?_
  intro aP af V
  obtain⟨ar,az,rfl,aj,al,aJ⟩:=Y0.out (r:=I0.toRp) V c
  refine trM b (T08 _ _ _ _ _ aj) ?_
  rintro aU b aQ ag ⟨aq,aL,ay,rfl,S⟩
  have ak:Sub af ag:=S.sub
  have P:=S.r
  obtain⟨rfl,aH⟩:=sL P
  cases b
  exact⟨_,_,_,rfl,P,((d.trans al).trans ak)⟩
end Go.Proofs.YtcpjomkcdlggaaaGreat
