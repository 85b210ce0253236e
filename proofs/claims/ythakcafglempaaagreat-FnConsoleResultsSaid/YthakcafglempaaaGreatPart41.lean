/- Texts of the claim, joined: The walks of batch 9 and others. -/
import Derived.Test.YthakcafglempaaaGreatH53
import Derived.Test.YthakcafglempaaaGreatPart27
import Derived.Test.YthakcafglempaaaGreatPart24
import Derived.Test.YthakcafglempaaaGreatChecked
import Derived.Test.YthakcafglempaaaGreatH35
import Derived.Test.YthakcafglempaaaGreatPart39
import Derived.Test.YthakcafglempaaaGreatSI
import Derived.Test.YthakcafglempaaaGreatPart30
import Derived.Test.YthakcafglempaaaGreatH41
import Derived.Test.YthakcafglempaaaGreatPart23
import Derived.Test.YthakcafglempaaaGreatH36
import Derived.Test.YthakcafglempaaaGreatPart25
namespace Go.Proofs.YthakcafglempaaaGreat
set_option linter.all false
open Go.H
open IntKind (i64)
set_option maxRecDepth 10000
def U04(h:Hp)(x:Option Addr)(G z:Nat)(l:I0)(i:J0.R h [.slice x G z] l)(b:Int)(g:H0 b)(r:I0)(f:V00 l b=some r): Tr Tryz.prog 143 #[.slice x G z,iV b] h λv h'=>∃(w:Option Addr) (F y:Nat),v = .slice w F y/\J0.R h' [.slice w F y] r/\Sub h h':=by
 obtain⟨rfl,al⟩:=sL i;unfold V00 at f;refine wk Tryz.f143 ?_;obtain⟨u,Q,f⟩:=B0 f;refine eX { vars:=[6,7],owns:=[0] } (eX (λvs os h'=>∃ m k t n,vs.tail = [.bool m,iV k]/\os = [t]/\Sub h h'/\H0 k/\F2 (Wp.int.R h') t n/\G5 l b (E1 vs) m k n=some u) (eX (λ_ _=>0) (aI (eX P0 ⟨_,_,_,_,rfl,rfl,sr,oD,(show F2 (Wp.int.R h) ([]:LV) ([]:I0) from trivial),Q⟩) ?_)));rintro _ _ t j d ⟨m,k,aC,n,⟨⟩,⟨⟩,e,af,c,a⟩;replace a:G5 l b j m k n=some u:=a;obtain _|j:=j;·cases a
 rw[G5.eq_2]at a;refine ifB a (λV a=>?_) λV a=>?_
 ·refine ldI a (J0.mono e i) λaB ai a=>?_;refine ifB a (λW a=>?_) λW a=>?_
  ·refine ldI a (J0.mono e i) λaz ag a=>?_;refine ifB a (λS a=>?_) λS a=>?_;·obtain⟨ao,J,a⟩:=B0 a;refine aI (G1 J (by first|rw[fL c,fL (show F2 (Wp.int.R d) ([[iV b]]:LV) [b] from⟨⟨rfl,g⟩,trivial⟩)]|exact congrArg (·+1) (fL c))) ?_;refine ldI a (J0.mono e i) λo A a=>?_;obtain⟨ap,K,a⟩:=B0 a;refine aI (G1 K (by first|rw[fL (fA c (show F2 (Wp.int.R d) ([[iV b]]:LV) [b] from⟨⟨rfl,g⟩,trivial⟩)),fL (show F2 (Wp.int.R d) ([[iV o]]:LV) [o] from⟨⟨rfl,A⟩,trivial⟩)]|exact congrArg (·+1) (fL (fA c (show F2 (Wp.int.R d) ([[iV b]]:LV) [b] from⟨⟨rfl,g⟩,trivial⟩))))) ?_;exact P1 j ⟨_,_,_,_,rfl,rfl,e,(M0 _),(fA (fA c (show F2 (Wp.int.R d) ([[iV b]]:LV) [b] from⟨⟨rfl,g⟩,trivial⟩)) (show F2 (Wp.int.R d) ([[iV o]]:LV) [o] from⟨⟨rfl,A⟩,trivial⟩)),a⟩
   refine ldI a (J0.mono e i) λp C a=>?_;obtain⟨aq,L,a⟩:=B0 a;refine aI (G1 L (by first|rw[fL c,fL (show F2 (Wp.int.R d) ([[iV p]]:LV) [p] from⟨⟨rfl,C⟩,trivial⟩)]|exact congrArg (·+1) (fL c))) ?_;exact P1 j ⟨_,_,_,_,rfl,rfl,e,(M0 _),(fA c (show F2 (Wp.int.R d) ([[iV p]]:LV) [p] from⟨⟨rfl,C⟩,trivial⟩)),a⟩
  refine ldI a (J0.mono e i) λaA ah a=>?_;refine ifB a (λT a=>?_) λT a=>?_;·obtain⟨ar,M,a⟩:=B0 a;refine aI (G1 M (by first|rw[fL c,fL (show F2 (Wp.int.R d) ([[iV b]]:LV) [b] from⟨⟨rfl,g⟩,trivial⟩)]|exact congrArg (·+1) (fL c))) ?_;refine ldI a (J0.mono e i) λq D a=>?_;obtain⟨au,N,a⟩:=B0 a;refine aI (G1 N (by first|rw[fL (fA c (show F2 (Wp.int.R d) ([[iV b]]:LV) [b] from⟨⟨rfl,g⟩,trivial⟩)),fL (show F2 (Wp.int.R d) ([[iV q]]:LV) [q] from⟨⟨rfl,D⟩,trivial⟩)]|exact congrArg (·+1) (fL (fA c (show F2 (Wp.int.R d) ([[iV b]]:LV) [b] from⟨⟨rfl,g⟩,trivial⟩))))) ?_;exact P1 j ⟨_,_,_,_,rfl,rfl,e,(M0 _),(fA (fA c (show F2 (Wp.int.R d) ([[iV b]]:LV) [b] from⟨⟨rfl,g⟩,trivial⟩)) (show F2 (Wp.int.R d) ([[iV q]]:LV) [q] from⟨⟨rfl,D⟩,trivial⟩)),a⟩
  refine ldI a (J0.mono e i) λs E a=>?_;obtain⟨av,O,a⟩:=B0 a;refine aI (G1 O (by first|rw[fL c,fL (show F2 (Wp.int.R d) ([[iV s]]:LV) [s] from⟨⟨rfl,E⟩,trivial⟩)]|exact congrArg (·+1) (fL c))) ?_;exact P1 j ⟨_,_,_,_,rfl,rfl,e,(M0 _),(fA c (show F2 (Wp.int.R d) ([[iV s]]:LV) [s] from⟨⟨rfl,E⟩,trivial⟩)),a⟩
 cases a;try dsimp only[S0,U0]at f
 refine ifB f (λU f=>?_) λU f=>?_;·obtain⟨aw,P,f⟩:=B0 f;refine aI (G1 P (by first|rw[fL c,fL (show F2 (Wp.int.R d) ([[iV b]]:LV) [b] from⟨⟨rfl,g⟩,trivial⟩)]|exact congrArg (·+1) (fL c))) ?_;intro ax aj H;obtain⟨ab,ad,rfl,X,Z,am⟩:=Y0.out (r:=Wp.int.toRp) H (fA c (show F2 (Wp.int.R d) ([[iV b]]:LV) [b] from⟨⟨rfl,g⟩,trivial⟩));cases f;exact⟨_,_,_,rfl,X,(e.trans Z)⟩
 intro ay ak I;obtain⟨ac,ae,rfl,Y,aa,an⟩:=Y0.out (r:=Wp.int.toRp) I c;cases f;exact⟨_,_,_,rfl,Y,(e.trans aa)⟩
def V04(h:Hp)(j:Option Addr)(l k:Nat)(f:I0)(m:J0.R h [.slice j l k] f)(c:Int)(q:H0 c)(r:Bool)(b:W00 f c=some r): Tr Tryz.prog 140 #[.slice j l k,iV c] h λv h'=>v = .bool r/\h'=h:=by
 obtain⟨rfl,w⟩:=sL m;unfold W00 at b;refine wkF Tryz.f140 ?_;obtain⟨i,n,b⟩:=B0 b;refine eX { vars:=[5] } (eX (λvs os h'=>∃ d,vs.tail = [iV d]/\os = []/\Sub h h'/\H0 d/\h01 f c (E1 vs) d=some i) (eX (λ_ _=>0) (aI (eX P0 ⟨_,rfl,rfl,sr,oD,n⟩) ?_)));rintro _ e u ⟨d,⟨⟩,⟨⟩,g,s,a⟩;replace a:h01 f c e d=some i:=a;obtain _|e:=e;·cases a
 rw[h01.eq_2]at a;refine ifB a (λo a=>?_) λo a=>?_
 ·refine ldI a (J0.mono g m) λx t a=>?_;refine ifB a (λp a=>?_) λp a=>?_
  ·cases a;try dsimp only[M2,P2]at b
   cases b;exact aI rfl g
  exact P1 e ⟨_,rfl,rfl,g,(M0 _),a⟩
 cases a;try dsimp only[S0,U0]at b
 cases b;exact aI rfl g
def f0h(h:Hp)(q:List Value)(u:j0)(J:F1.R h q u)(e:Int)(ac:H0 e)(p2:Int)(ad:H0 p2)(r:I0)(c:W02 u e p2=some r): Tr Tryz.prog 87 #[.agg q.toArray,iV e,iV p2] h λv h'=>∃(o:Option Addr) (t p:Nat),v = .slice o t p/\J0.R h' [.slice o t p] r/\Sub h h':=by
 obtain⟨aw,ax,Q,V,w,rfl,rfl,aa,ab,K,al⟩:=opG J;unfold W02 at c;dsimp only at c;refine wk Tryz.f87 ?_;obtain⟨n,D,c⟩:=B0 c;refine eX { vars:=[7,8],pubs:=[7,10] } (eX (λvs os h'=>∃(j:Option Addr) (l k:Nat) (i:I0) (g:Int),vs.tail = [.slice j l k,iV g]/\os = []/\Sub h h'/\J0.R h' [.slice j l k] i/\H0 g/\W4 w p2 e (E1 vs) i g=some n) (eX (λ_ _=>0) ?_));intro ay ai f3;obtain⟨A,C,rfl,M,P,aq⟩:=Y0.out (r:=Wp.int.toRp) f3 (show F2 (Wp.int.R h) ([]:LV) ([]:I0) from trivial);refine aI (eX P0 ⟨A,(([]:I0)).length,C,([]:I0),0,rfl,rfl,P,M,oD,D⟩) ?_;rintro _ _ b ak ⟨j,l,k,i,g,⟨⟩,⟨⟩,d,f,ae,a⟩;replace a:W4 w p2 e b i g=some n:=a;obtain _|b:=b;·cases a
 rw[W4.eq_2]at a;obtain⟨rfl,am⟩:=sL f;refine ifB a (λE a=>?_) λE a=>?_
 ·refine ld a (N0.mono d K) λaC W L a=>?_;obtain⟨aD,aF,aG,rfl,rfl,s,af,I⟩:=Q1 L;try dsimp only at a
  refine ifB a (λF a=>?_) λF a=>?_
  ·refine trM a (U04 _ _ _ _ _ f _ I) ?_;rintro aH a az ag ⟨S,ar,X,rfl,m,z⟩;obtain⟨rfl,an⟩:=sL m;refine ifB a (λG a=>?_) λG a=>?_;·refine trM a (U04 _ _ _ _ _ m _ s) ?_;rintro aJ a aA ah ⟨T,au,Y,rfl,x,N⟩;obtain⟨rfl,ao⟩:=sL x;exact P1 b ⟨_,_,_,_,_,rfl,rfl,((d.trans z).trans N),x,(M0 _),a⟩
   exact P1 b ⟨_,_,_,_,_,rfl,rfl,(d.trans z),m,(M0 _),a⟩
  refine ifB a (λH a=>?_) λH a=>?_;·refine trM a (U04 _ _ _ _ _ f _ s) ?_;rintro aK a aB aj ⟨U,av,Z,rfl,y,O⟩;obtain⟨rfl,ap⟩:=sL y;exact P1 b ⟨_,_,_,_,_,rfl,rfl,(d.trans O),y,(M0 _),a⟩
  exact P1 b ⟨_,_,_,_,_,rfl,rfl,d,f,(M0 _),a⟩
 cases a;try dsimp only[S0,U0]at c
 cases c;exact⟨_,_,_,rfl,f,d⟩
def b9(h:Hp)(c:List Value)(d:j0)(m:F1.R h c d)(b:Int)(k:H0 b)(p2:Int)(l:H0 p2)(r:Int)(a:T4 d b p2=some r): Tr Tryz.prog 50 #[.agg c.toArray,iV b,iV p2] h λv h'=>v=iV r/\h'=h:=by
 obtain⟨z,A,o,q,C,rfl,rfl,i,j,n,w⟩:=opG m;unfold T4 at a;dsimp only at a;refine wkF Tryz.f50 ?_;refine trM a (f0h _ _ _ (D0 i j n) _ k _ l) ?_;rintro E a D u ⟨p,y,s,rfl,e,f⟩;obtain⟨rfl,x⟩:=sL e;refine ifB a (λg a=>?_) λg a=>?_;·cases a;exact aI rfl f
 refine ldI a e λF t a=>?_;cases a;exact aI rfl f
def B01(h:Hp)(n:List Value)(s:j0)(D:F1.R h n s)(r:Bool)(c:w7 s=some r): Tr Tryz.prog 74 #[.agg n.toArray] h λv h'=>v = .bool r/\h'=h:=by
 obtain⟨t,u,G,H,j,rfl,rfl,o,p,k,U⟩:=opG D;unfold w7 at c;dsimp only at c;refine wkF Tryz.f74 ?_;obtain⟨l,w,c⟩:=B0 c;refine eX { vars:=[3] } (eX (λvs os h'=>∃ e,vs.tail = [iV e]/\os = []/\Sub h h'/\H0 e/\N6 j t u (E1 vs) e=some l) (eX (λ_ _=>0) (aI (eX P0 ⟨_,rfl,rfl,sr,oD,w⟩) ?_)));rintro _ i C ⟨e,⟨⟩,⟨⟩,d,K,b⟩;replace b:N6 j t u i e=some l:=b;obtain _|i:=i;·cases b
 rw[N6.eq_2]at b;refine trG b (λq=>t8 _ _ _ (D0 o p (N0.mono d k))) λae b=>?_;refine ifB b (λA b=>?_) λA b=>?_
 ·obtain⟨m,x,b⟩:=B0 b;refine eX { vars:=[4] } (eX (λvs os h'=>∃ u8,vs.tail = [iV u8]/\os = []/\Sub C h'/\H0 u8/\Q8 e j (E1 vs) u8=some m) (eX (λ_ _=>0) (aI (eX P0 ⟨_,rfl,rfl,sr,oD,x⟩) ?_)));rintro _ g T ⟨u8,⟨⟩,⟨⟩,f,L,a⟩;replace a:Q8 e j g u8=some m:=a;obtain _|g:=g;·cases a
  rw[Q8.eq_2]at a;refine ifB a (λy a=>?_) λy a=>?_
  ·refine ld a (N0.mono (d.trans f) k) λV I E a=>?_;obtain⟨W,X,Y,rfl,rfl,M,N,O⟩:=Q1 E;try dsimp only at a
   refine ld a (N0.mono (d.trans f) k) λZ J F a=>?_;obtain⟨aa,ab,ac,rfl,rfl,P,Q,S⟩:=Q1 F;try dsimp only at a
   refine ifB a (λz a=>?_) λz a=>?_
   ·cases a;try dsimp only[M2,P2]at b
    cases b;try dsimp only[M2,P2]at c
    cases c;exact aI rfl (d.trans f)
   exact P1 g ⟨_,rfl,rfl,f,(M0 _),a⟩
  cases a;try dsimp only[S0,U0]at b
  exact P1 i ⟨_,rfl,rfl,(d.trans f),(M0 _),b⟩
 cases b;try dsimp only[S0,U0]at c
 refine trV c (t8 _ _ _ (D0 o p (N0.mono d k))) λad c=>?_;cases c;exact aI rfl d
def u05(h:Hp)(m:List Value)(t:j0)(K:F1.R h m t)(i:Int)(p:H0 i)(k:Option Addr)(s l:Nat)(p2:I0)(y:J0.R h [.slice k s l] p2)(r:Int×Bool)(b:C00 t i p2=some r): Tr Tryz.prog 35 #[.agg m.toArray,iV i,.slice k s l] h λv h'=>v = .tuple #[iV r.1,.bool r.2]/\h'=h:=by
 obtain⟨u,g,L,M,w,rfl,rfl,n,o,x,P⟩:=opG K;obtain⟨rfl,Q⟩:=sL y;unfold C00 at b;dsimp only at b;refine wkF Tryz.f35 ?_;refine trV b (B01 _ _ _ (D0 n o x)) λT b=>?_;refine trG b (λq=>c7 _ _ p 0 oD (i64.wrap (g-1)) (M0 _)) λV b=>?_;refine ifB b (λF b=>?_) λF b=>?_;·cases b;exact aI rfl sr
 obtain⟨j,D,b⟩:=B0 b;refine eX { vars:=[1,8] } (eX (λvs os h'=>∃ d e,vs.tail = [iV d,iV e]/\os = []/\Sub h h'/\H0 d/\H0 e/\R8 p2 u g w (E1 vs) d e=some j) (eX (λ_ _=>0) (aI (eX P0 ⟨_,_,rfl,rfl,sr,p,oD,D⟩) ?_)));rintro _ _ f O ⟨d,e,⟨⟩,⟨⟩,c,H,N,a⟩;replace a:R8 p2 u g w f d e=some j:=a;obtain _|f:=f;·cases a
 rw[R8.eq_2]at a;refine ifB a (λG a=>?_) λG a=>?_
 ·refine w1 ?_;refine ldI a (J0.mono c y) λU I a=>?_;obtain⟨z,C,a⟩:=B0 a;refine eX (iV z) (aI (b9 _ _ _ (D0 n o (N0.mono c x)) _ H _ I _  C) ?_);obtain⟨S,A,a⟩:=B0 a;have J:H0 z:=F0 A;refine ifB a (λE a=>?_) λE a=>?_
  ·cases a;try dsimp only[M2,P2]at b
   cases b;exact aI rfl c
  exact P1 f ⟨_,_,rfl,rfl,c,J,(M0 _),a⟩
 cases a;try dsimp only[S0,U0]at b
 cases b;exact aI rfl c
def g0h(h:Hp)(q:List Value)(y:j0)(L:F1.R h q y)(e:Int)(Y:H0 e)(p2:Int)(Z:H0 p2)(r:I0)(c:X02 y e p2=some r): Tr Tryz.prog 232 #[.agg q.toArray,iV e,iV p2] h λv h'=>∃(o:Option Addr) (x p:Nat),v = .slice o x p/\New J0 h h' [.slice o x p] r:=by
 obtain⟨ai,aj,O,S,z,rfl,rfl,W,X,M,af⟩:=opG L;unfold X02 at c;dsimp only at c;refine wk Tryz.f232 ?_;obtain⟨n,H,c⟩:=B0 c;refine eX { vars:=[14],owns:=[0] } (eX (λvs os h'=>∃ g m j,vs.tail = [iV g]/\os = [m]/\Sub h h'/\H0 g/\F2 (Wp.int.R h') m j/\Z5 z p2 e (E1 vs) g j=some n) (eX (λ_ _=>0) (aI (eX P0 ⟨_,_,_,rfl,rfl,sr,oD,(show F2 (Wp.int.R h) ([]:LV) ([]:I0) from trivial),H⟩) ?_)));rintro _ m d i ⟨g,ay,j,⟨⟩,⟨⟩,f,aa,b,a⟩;replace a:Z5 z p2 e d g j=some n:=a;obtain _|d:=d;·cases a
 rw[Z5.eq_2]at a;refine ifB a (λJ a=>?_) λJ a=>?_
 ·refine ld a (N0.mono f M) λaw T N a=>?_;obtain⟨k,ax,l,rfl,rfl,u,ab,w⟩:=Q1 N;try dsimp only at a
  refine ifB a (λK a=>?_) λK a=>?_;·obtain⟨am,G,a⟩:=B0 a;refine aI (G1 G (by first|rw[fL b,fL (show F2 (Wp.int.R i) ([[iV l]]:LV) [l] from⟨⟨rfl,w⟩,trivial⟩)]|exact congrArg (·+1) (fL b))) ?_;exact P1 d ⟨_,_,_,rfl,rfl,f,(M0 _),(fA b (show F2 (Wp.int.R i) ([[iV l]]:LV) [l] from⟨⟨rfl,w⟩,trivial⟩)),a⟩
  refine ifB a (λI a=>?_) λI a=>?_;·obtain⟨ak,E,a⟩:=B0 a;refine aI (G1 E (by first|rw[fL b,fL (show F2 (Wp.int.R i) ([[iV k]]:LV) [k] from⟨⟨rfl,u⟩,trivial⟩)]|exact congrArg (·+1) (fL b))) ?_;exact P1 d ⟨_,_,_,rfl,rfl,f,(M0 _),(fA b (show F2 (Wp.int.R i) ([[iV k]]:LV) [k] from⟨⟨rfl,u⟩,trivial⟩)),a⟩
  exact P1 d ⟨_,_,_,rfl,rfl,f,(M0 _),b,a⟩
 cases a;try dsimp only[S0,U0]at c
 refine Or.inl ?_;intro ar ac D;obtain⟨al,F,c⟩:=B0 c;refine Tr.mono (P0r _ D b (F0 F)) ?_;rintro _ ad ⟨rfl,au,s,A⟩;obtain⟨P,U,rfl,an,ap,ag⟩:=Y0.out (r:=Wp.int.toRp) s A;refine Tr.mono (Q0r _ s A) ?_;rintro _ ae ⟨av,t,C⟩;obtain⟨Q,V,rfl,ao,aq,ah⟩:=Y0.out (r:=Wp.int.toRp) t C;cases c;exact⟨_,_,_,rfl,(New.from (Y0.newPlain (r:=Wp.int) t C (B07 _)) f)⟩
def c9(h:Hp)(c:List Value)(d:j0)(o:F1.R h c d)(b:Int)(l:H0 b)(p2:Int)(m:H0 p2)(r:Int)(a:U4 d b p2=some r): Tr Tryz.prog 177 #[.agg c.toArray,iV b,iV p2] h λv h'=>v=iV r/\h'=h:=by
 obtain⟨A,C,q,t,D,rfl,rfl,j,k,p,x⟩:=opG o;unfold U4 at a;dsimp only at a;refine wkF Tryz.f177 ?_;refine trM a (g0h _ _ _ (D0 j k p) _ l _ m) ?_;rintro F a E n ⟨s,z,u,rfl,g⟩;have f:Sub h n:=g.sub;have e:=g.r;obtain⟨rfl,y⟩:=sL e;refine ifB a (λi a=>?_) λi a=>?_;·cases a;exact aI rfl f
 refine ldI a e λG w a=>?_;cases a;exact aI rfl f
def s02(h:Hp)(n:List Value)(o:j0)(M:F1.R h n o)(r:Bool)(c:y8 o=some r): Tr Tryz.prog 171 #[.agg n.toArray] h λv h'=>v = .bool r/\h'=h:=by
 obtain⟨aj,ak,S,U,p,rfl,rfl,I,J,k,ah⟩:=opG M;unfold y8 at c;dsimp only at c;refine wkF Tryz.f171 ?_;refine trV c (n01 _ _ _ (D0 I J k)) λal c=>?_;refine ifB c (λF c=>?_) λF c=>?_;·cases c;exact aI rfl sr
 obtain⟨m,C,c⟩:=B0 c;refine eX { vars:=[13] } (eX (λvs os h'=>∃ f,vs.tail = [iV f]/\os = []/\Sub h h'/\H0 f/\T8 p (E1 vs) f=some m) (eX (λ_ _=>0) (aI (eX P0 ⟨_,rfl,rfl,sr,oD,C⟩) ?_)));rintro _ i K ⟨f,⟨⟩,⟨⟩,d,Z,a⟩;replace a:T8 p i f=some m:=a;obtain _|i:=i;·cases a
 rw[T8.eq_2]at a;refine ifB a (λG a=>?_) λG a=>?_
 ·refine ld a (N0.mono d k) λaq W O a=>?_;obtain⟨s,t,u,rfl,rfl,ad,ae,af⟩:=Q1 O;try dsimp only at a
  obtain⟨w,z,a⟩:=B0 a;obtain⟨L,P,x,y⟩:=Sl.cutI (r:=C1.toRp) (N0.mono d k) z;refine aI L (eX P (aI x ?_));intro Q H _;obtain⟨T,X,rfl,q⟩:=y Q H;have ai:=(sL q).2;obtain⟨l,A,a⟩:=B0 a;refine eX { vars:=[24] } (eX (λvs os h'=>∃ e,vs.tail = [iV e]/\os = []/\Sub K h'/\H0 e/\S8 w t s u (E1 vs) e=some l) (eX (λ_ _=>0) (aI (eX P0 ⟨_,rfl,rfl,sr,oD,A⟩) ?_)));rintro _ g ag ⟨e,⟨⟩,⟨⟩,j,Y,b⟩;replace b:S8 w t s u g e=some l:=b;obtain _|g:=g;·cases b
  rw[S8.eq_2]at b;refine ifB b (λD b=>?_) λD b=>?_
  ·refine ld b (N0.mono j q) λam V N b=>?_;obtain⟨an,ao,ap,rfl,rfl,aa,ab,ac⟩:=Q1 N;try dsimp only at b
   refine ifB b (λE b=>?_) λE b=>?_
   ·cases b;try dsimp only[M2,P2]at a
    cases a;try dsimp only[M2,P2]at c
    cases c;exact aI rfl (d.trans j)
   exact P1 g ⟨_,rfl,rfl,j,(M0 _),b⟩
  cases b;try dsimp only[S0,U0]at a
  exact P1 i ⟨_,rfl,rfl,(d.trans j),(M0 _),a⟩
 cases a;try dsimp only[S0,U0]at c
 cases c;exact aI rfl d
def l04(h:Hp)(l:List Value)(n:j0)(F:F1.R h l n)(g:Int)(A:H0 g)(j:Option Addr)(m k:Nat)(p2:I0)(s:J0.R h [.slice j m k] p2)(r:Int×Int)(b:U8 n g p2=some r): Tr Tryz.prog 182 #[.agg l.toArray,iV g,.slice j m k] h λv h'=>v = .tuple #[iV r.1,iV r.2]/\h'=h:=by
 obtain⟨o,p,I,J,q,rfl,rfl,y,z,G,M⟩:=opG F;obtain⟨rfl,N⟩:=sL s;unfold U8 at b;dsimp only at b;refine wkF Tryz.f182 ?_;obtain⟨i,u,b⟩:=B0 b;refine eX { vars:=[1,13] } (eX (λvs os h'=>∃ d e,vs.tail = [iV d,iV e]/\os = []/\Sub h h'/\H0 d/\H0 e/\E7 p2 o p q (E1 vs) d e=some i) (eX (λ_ _=>0) (aI (eX P0 ⟨_,_,rfl,rfl,sr,A,oD,u⟩) ?_)));rintro _ _ f L ⟨d,e,⟨⟩,⟨⟩,c,C,K,a⟩;replace a:E7 p2 o p q f d e=some i:=a;obtain _|f:=f;·cases a
 rw[E7.eq_2]at a;refine ifB a (λx a=>?_) λx a=>?_
 ·refine ldI a (J0.mono c s) λP D a=>?_;refine trV a (c9 _ _ _ (D0 y z (N0.mono c G)) _ C _ D) λH a=>?_;obtain⟨O,t,a⟩:=B0 a;have E:H0 H:=F0 t;refine ifB a (λw a=>?_) λw a=>?_
  ·cases a;try dsimp only[M2,P2]at b
   cases b;exact aI rfl c
  exact P1 f ⟨_,_,rfl,rfl,c,E,(M0 _),a⟩
 cases a;try dsimp only[S0,U0]at b
 cases b;exact aI rfl c
def z8(h:Hp)(d:List Value)(f:j0)(l:F1.R h d f)(r:j0)(a:p5 f=some r): Tr Tryz.prog 76 #[.agg d.toArray] h λv h'=>∃(c:List Value),v = .agg c.toArray/\New F1 h h' c r:=by obtain⟨x,y,o,q,z,rfl,rfl,j,k,m,u⟩:=opG l;unfold p5 at a;dsimp only at a;refine wk Tryz.f76 ?_;refine w3 ?_;refine aI ?_ trivial;refine aI (by first|exact trivial|exact rfl) ?_;refine aI ?_ trivial;obtain⟨n,g,b⟩:=Sl.rows (r:=C1.toRp) m;refine eX n (aI g ?_);obtain⟨A,i,a⟩:=B0 a;refine aI (G1 i (by first|rw[fL (show F2 (C1.R h) ([]:LV) ([]:T0) from trivial),fL b]|exact congrArg (·+1) (fL (show F2 (C1.R h) ([]:LV) ([]:T0) from trivial)))) ?_;refine aI (by first|exact trivial|exact rfl) ?_;refine aI ?_ trivial;refine aI (by first|exact trivial|exact rfl) ?_;refine aI ?_ trivial;refine aI (by first|exact trivial|exact rfl) ?_;intro E t e;obtain⟨p,s,rfl,C,D,w⟩:=Y0.out (r:=C1.toRp) e (fA (show F2 (C1.R h) ([]:LV) ([]:T0) from trivial) b);cases a;exact⟨_,rfl,(nP (nI j) (nP (nI k) (Y0.newPlain (r:=C1) e (fA (show F2 (C1.R h) ([]:LV) ([]:T0) from trivial) b) (U08 _))))⟩
def L01(h:Hp)(K:Option Addr)(ae M:Nat)(p:T0)(n:N0.R h [.slice K ae M] p)(N:List Value)(af:O0)(aB:C1.R h N af)(r:T0)(g:C8 p af=some r): Tr Tryz.prog 135 #[.slice K ae M,.agg N.toArray] h λv h'=>∃(J:Option Addr) (ad L:Nat),v = .slice J ad L/\New N0 h h' [.slice J ad L] r:=by
 obtain⟨rfl,aX⟩:=sL n;obtain⟨b,c,d,rfl,rfl,i,j,k⟩:=Q1 aB;unfold C8 at g;dsimp only at g;refine wk Tryz.f135 ?_;obtain⟨I,aq,g⟩:=B0 g;refine eX { vars:=[6,7],owns:=[0] } (eX (λvs os h'=>∃ q o H s,vs.tail = [.bool q,iV o]/\os = [H]/\Sub h h'/\H0 o/\F2 (C1.R h') H s/\H5 p b c d (E1 vs) q o s=some I) (eX (λ_ _=>0) (aI (eX P0 ⟨_,_,_,_,rfl,rfl,sr,oD,(show F2 (C1.R h) ([]:LV) ([]:T0) from trivial),aq⟩) ?_)));rintro _ _ H m f ⟨q,o,bp,s,⟨⟩,⟨⟩,l,aS,e,a⟩;replace a:H5 p b c d m q o s=some I:=a;obtain _|m:=m;·cases a
 rw[H5.eq_2]at a;refine ifB a (λax a=>?_) λax a=>?_
 ·refine w1 ?_;refine ld a (N0.mono l n) λbl aP aH a=>?_;obtain⟨bm,bn,bo,rfl,rfl,ay,az,aA⟩:=Q1 aH;try dsimp only at a
  obtain⟨ag,ap,a⟩:=B0 a;refine eX (iV ag) (aI (K07 _ _ _ (N1 i j k) _ _ (N1 ay az aA) _  ap) ?_);obtain⟨a0,ah,a⟩:=B0 a;have aU:H0 ag:=F0 ah;refine ifB a (λar a=>?_) λar a=>?_
  ·refine ifB a (λau a=>?_) λau a=>?_
   ·obtain⟨a1,ai,a⟩:=B0 a;refine aI (G1 ai (by first|rw[fL e,fL (show F2 (C1.R f) ([[iV b,iV c,iV d]]:LV) [(b,c,d)] from⟨(N1 i j k),trivial⟩)]|exact congrArg (·+1) (fL e))) ?_;refine ld a (N0.mono l n) λbh aL aC a=>?_;obtain⟨t,u,w,rfl,rfl,Q,S,T⟩:=Q1 aC;try dsimp only at a
    obtain⟨a2,aj,a⟩:=B0 a;refine aI (G1 aj (by first|rw[fL (fA e (show F2 (C1.R f) ([[iV b,iV c,iV d]]:LV) [(b,c,d)] from⟨(N1 i j k),trivial⟩)),fL (show F2 (C1.R f) ([[iV t,iV u,iV w]]:LV) [(t,u,w)] from⟨(N1 Q S T),trivial⟩)]|exact congrArg (·+1) (fL (fA e (show F2 (C1.R f) ([[iV b,iV c,iV d]]:LV) [(b,c,d)] from⟨(N1 i j k),trivial⟩))))) ?_;exact P1 m ⟨_,_,_,_,rfl,rfl,l,(M0 _),(fA (fA e (show F2 (C1.R f) ([[iV b,iV c,iV d]]:LV) [(b,c,d)] from⟨(N1 i j k),trivial⟩)) (show F2 (C1.R f) ([[iV t,iV u,iV w]]:LV) [(t,u,w)] from⟨(N1 Q S T),trivial⟩)),a⟩
   refine ld a (N0.mono l n) λbi aM aD a=>?_;obtain⟨x,y,z,rfl,rfl,U,V,W⟩:=Q1 aD;try dsimp only at a
   obtain⟨a3,ak,a⟩:=B0 a;refine aI (G1 ak (by first|rw[fL e,fL (show F2 (C1.R f) ([[iV x,iV y,iV z]]:LV) [(x,y,z)] from⟨(N1 U V W),trivial⟩)]|exact congrArg (·+1) (fL e))) ?_;exact P1 m ⟨_,_,_,_,rfl,rfl,l,(M0 _),(fA e (show F2 (C1.R f) ([[iV x,iV y,iV z]]:LV) [(x,y,z)] from⟨(N1 U V W),trivial⟩)),a⟩
  refine ifB a (λav a=>?_) λav a=>?_
  ·obtain⟨a4,al,a⟩:=B0 a;refine aI (G1 al (by first|rw[fL e,fL (show F2 (C1.R f) ([[iV b,iV c,iV d]]:LV) [(b,c,d)] from⟨(N1 i j k),trivial⟩)]|exact congrArg (·+1) (fL e))) ?_;refine ld a (N0.mono l n) λbj aN aF a=>?_;obtain⟨A,C,D,rfl,rfl,X,Y,Z⟩:=Q1 aF;try dsimp only at a
   obtain⟨a5,am,a⟩:=B0 a;refine aI (G1 am (by first|rw[fL (fA e (show F2 (C1.R f) ([[iV b,iV c,iV d]]:LV) [(b,c,d)] from⟨(N1 i j k),trivial⟩)),fL (show F2 (C1.R f) ([[iV A,iV C,iV D]]:LV) [(A,C,D)] from⟨(N1 X Y Z),trivial⟩)]|exact congrArg (·+1) (fL (fA e (show F2 (C1.R f) ([[iV b,iV c,iV d]]:LV) [(b,c,d)] from⟨(N1 i j k),trivial⟩))))) ?_;exact P1 m ⟨_,_,_,_,rfl,rfl,l,(M0 _),(fA (fA e (show F2 (C1.R f) ([[iV b,iV c,iV d]]:LV) [(b,c,d)] from⟨(N1 i j k),trivial⟩)) (show F2 (C1.R f) ([[iV A,iV C,iV D]]:LV) [(A,C,D)] from⟨(N1 X Y Z),trivial⟩)),a⟩
  refine ld a (N0.mono l n) λbk aO aG a=>?_;obtain⟨E,F,G,rfl,rfl,aa,ab,ac⟩:=Q1 aG;try dsimp only at a
  obtain⟨a6,an,a⟩:=B0 a;refine aI (G1 an (by first|rw[fL e,fL (show F2 (C1.R f) ([[iV E,iV F,iV G]]:LV) [(E,F,G)] from⟨(N1 aa ab ac),trivial⟩)]|exact congrArg (·+1) (fL e))) ?_;exact P1 m ⟨_,_,_,_,rfl,rfl,l,(M0 _),(fA e (show F2 (C1.R f) ([[iV E,iV F,iV G]]:LV) [(E,F,G)] from⟨(N1 aa ab ac),trivial⟩)),a⟩
 cases a;try dsimp only[S0,U0]at g
 refine ifB g (λaw g=>?_) λaw g=>?_;·obtain⟨ba,ao,g⟩:=B0 g;refine aI (G1 ao (by first|rw[fL e,fL (show F2 (C1.R f) ([[iV b,iV c,iV d]]:LV) [(b,c,d)] from⟨(N1 i j k),trivial⟩)]|exact congrArg (·+1) (fL e))) ?_;intro bf aV O;obtain⟨aJ,aQ,rfl,bb,bd,aY⟩:=Y0.out (r:=C1.toRp) O (fA e (show F2 (C1.R f) ([[iV b,iV c,iV d]]:LV) [(b,c,d)] from⟨(N1 i j k),trivial⟩));cases g;exact⟨_,_,_,rfl,(New.from (Y0.newPlain (r:=C1) O (fA e (show F2 (C1.R f) ([[iV b,iV c,iV d]]:LV) [(b,c,d)] from⟨(N1 i j k),trivial⟩)) (U08 _)) l)⟩
 intro bg aW P;obtain⟨aK,aR,rfl,bc,be,aZ⟩:=Y0.out (r:=C1.toRp) P e;cases g;exact⟨_,_,_,rfl,(New.from (Y0.newPlain (r:=C1) P e (U08 _)) l)⟩
def d0i(h:Hp)(k:List Value)(l:j0)(u:F1.R h k l)(e:Int)(H:H0 e)(r:Int)(d:q02 l e=some r): Tr Tryz.prog 139 #[.agg k.toArray,iV e] h λv h'=>v=iV r/\h'=h:=by
 obtain⟨V,W,z,A,m,rfl,rfl,F,G,i,U⟩:=opG u;unfold q02 at d;dsimp only at d;refine wkF Tryz.f139 ?_;obtain⟨j,n,d⟩:=B0 d;refine eX { vars:=[5,6] } (eX (λvs os h'=>∃ f g,vs.tail = [iV f,iV g]/\os = []/\Sub h h'/\H0 f/\H0 g/\H4 m e (E1 vs) f g=some j) (eX (λ_ _=>0) (aI (eX P0 ⟨_,_,rfl,rfl,sr,oD,oD,n⟩) ?_)));rintro _ _ c T ⟨f,g,⟨⟩,⟨⟩,b,t,I,a⟩;replace a:H4 m e c f g=some j:=a;obtain _|c:=c;·cases a
 rw[H4.eq_2]at a;refine ifB a (λq a=>?_) λq a=>?_
 ·refine ld a (N0.mono b i) λab D x a=>?_;obtain⟨ac,ad,ae,rfl,rfl,M,N,O⟩:=Q1 x;try dsimp only at a
  refine ifB a (λs a=>?_) λs a=>?_
  ·refine ld a (N0.mono b i) λaf E y a=>?_;obtain⟨ag,ah,ai,rfl,rfl,P,Q,S⟩:=Q1 y;try dsimp only at a
   refine ifB a (λo a=>?_) λo a=>?_;·exact P1 c ⟨_,_,rfl,rfl,b,(M0 _),(M0 _),a⟩
   exact P1 c ⟨_,_,rfl,rfl,b,(M0 _),(M0 _),a⟩
  refine ld a (N0.mono b i) λX C w a=>?_;obtain⟨Y,Z,aa,rfl,rfl,J,K,L⟩:=Q1 w;try dsimp only at a
  refine ifB a (λp a=>?_) λp a=>?_;·exact P1 c ⟨_,_,rfl,rfl,b,(M0 _),(M0 _),a⟩
  exact P1 c ⟨_,_,rfl,rfl,b,t,(M0 _),a⟩
 cases a;try dsimp only[S0,U0]at d
 cases d;exact aI rfl b
def C0e(h:Hp)(g:List Value)(j:j0)(s:F1.R h g j)(i:List Value)(l:j0)(u:F1.R h i l)(r:Bool)(b:e02 j l=some r): Tr Tryz.prog 44 #[.agg g.toArray,.agg i.toArray] h λv h'=>v = .bool r/\h'=h:=by
 obtain⟨ab,ac,G,I,k,rfl,rfl,M,N,t,Z⟩:=opG s;obtain⟨ad,ae,H,J,m,rfl,rfl,O,P,w,aa⟩:=opG u;unfold e02 at b;dsimp only at b;refine wkF Tryz.f44 ?_;refine ifB b (λo b=>?_) λo b=>?_;·cases b;exact aI rfl sr
 obtain⟨f,n,b⟩:=B0 b;refine eX { vars:=[5] } (eX (λvs os h'=>∃ d,vs.tail = [iV d]/\os = []/\Sub h h'/\H0 d/\V6 k m (E1 vs) d=some f) (eX (λ_ _=>0) (aI (eX P0 ⟨_,rfl,rfl,sr,oD,n⟩) ?_)));rintro _ e Y ⟨d,⟨⟩,⟨⟩,c,Q,a⟩;replace a:V6 k m e d=some f:=a;obtain _|e:=e;·cases a
 rw[V6.eq_2]at a;refine ifB a (λp a=>?_) λp a=>?_
 ·refine w1 ?_;refine ld a (N0.mono c t) λaf K x a=>?_;obtain⟨z,A,C,rfl,rfl,S,T,U⟩:=Q1 x;try dsimp only at a
  refine ld a (N0.mono c w) λag L y a=>?_;obtain⟨D,E,F,rfl,rfl,V,W,X⟩:=Q1 y;try dsimp only at a
  refine eX (!eqE (z,A,C) (D,E,F)) (aI (c0o _ _ _ rfl _ _ _ _ _ _) ?_);refine ifB a (λq a=>?_) λq a=>?_
  ·cases a;try dsimp only[M2,P2]at b
   cases b;exact aI rfl c
  exact P1 e ⟨_,rfl,rfl,c,(M0 _),a⟩
 cases a;try dsimp only[S0,U0]at b
 cases b;exact aI rfl c
def D0e(h:Hp)(H:List Value)(K:j0)(ag:F1.R h H K)(e:Int)(I:H0 e)(r:I0)(b:f02 K e=some r): Tr Tryz.prog 138 #[.agg H.toArray,iV e] h λv h'=>∃(F:Option Addr) (J G:Nat),v = .slice F J G/\J0.R h' [.slice F J G] r/\Sub h h':=by
 obtain⟨aY,af,ao,av,l,rfl,rfl,ac,ad,L,aM⟩:=opG ag;unfold f02 at b;dsimp only at b;refine wk Tryz.f138 ?_;refine trV b (t8 _ _ _ (D0 ac ad L)) λa4 b=>?_;refine trG b (λq=>c7 _ _ I 0 oD (i64.wrap (af-1)) (M0 _)) λa5 b=>?_;refine ifB b (λZ b=>?_) λZ b=>?_;·intro a2 aK T;obtain⟨au,aA,rfl,aj,an,aU⟩:=Y0.out (r:=Wp.int.toRp) T (show F2 (Wp.int.R h) ([]:LV) ([]:I0) from trivial);cases b;exact⟨_,_,_,rfl,aj,an⟩
 obtain⟨D,U,b⟩:=B0 b;refine eX { vars:=[5,6],pubs:=[5,22] } (eX (λvs os h'=>∃(p:Option Addr) (y t:Nat) (n:I0) (i:Int),vs.tail = [.slice p y t,iV i]/\os = []/\Sub h h'/\J0.R h' [.slice p y t] n/\H0 i/\W6 l (E1 vs) n i=some D) (eX (λ_ _=>0) ?_));intro a3 aL S;obtain⟨P,Q,rfl,ai,am,aS⟩:=Y0.out (r:=Wp.int.toRp) S (show F2 (Wp.int.R h) ([[iV e]]:LV) [e] from⟨⟨rfl,I⟩,trivial⟩);refine aI (eX P0 ⟨P,([e]).length,Q,[e],0,rfl,rfl,am,ai,oD,U⟩) ?_;rintro _ _ k ae ⟨p,y,t,n,i,⟨⟩,⟨⟩,C,A,aB,c⟩;replace c:W6 l k n i=some D:=c;obtain _|k:=k;·cases c
 rw[W6.eq_2]at c;obtain⟨rfl,aN⟩:=sL A;refine ifB c (λW c=>?_) λW c=>?_
 ·obtain⟨E,V,c⟩:=B0 c;refine eX { vars:=[5,7] } (eX (λvs os h'=>∃ s z u o j,vs.tail = [.slice s z u,iV j]/\os = []/\Sub ae h'/\J0.R h' [.slice s z u] o/\H0 j/\E4 l (E1 vs) o j=some E) (eX (λ_ _=>0) (aI (eX P0 ⟨_,_,_,_,_,rfl,rfl,sr,A,oD,V⟩) ?_)));rintro _ _ d aF ⟨s,z,u,o,j,⟨⟩,⟨⟩,g,f,aC,a⟩;replace a:E4 l d o j=some E:=a;obtain _|d:=d;·cases a
  rw[E4.eq_2]at a;obtain⟨rfl,aO⟩:=sL f;refine ifB a (λX a=>?_) λX a=>?_
  ·refine ld a (N0.mono (C.trans g) L) λa6 aw ah a=>?_;obtain⟨ba,bb,bc,rfl,rfl,w,aD,x⟩:=Q1 ah;try dsimp only at a
   refine trV a (V04 _ _ _ _ _ f _ w) λbd a=>?_;refine ifB a (λY a=>?_) λY a=>?_
   ·refine trM a (U04 _ _ _ _ _ f _ x) ?_;rintro be a aZ aG ⟨ap,aV,ax,rfl,m,O⟩;obtain⟨rfl,aP⟩:=sL m;refine trV a (V04 _ _ _ _ _ m _ x) λbf a=>?_;refine ifB a (λaa a=>?_) λaa a=>?_;·refine trM a (U04 _ _ _ _ _ m _ w) ?_;rintro bg a a0 aH ⟨aq,aW,ay,rfl,M,ak⟩;obtain⟨rfl,aQ⟩:=sL M;exact P1 d ⟨_,_,_,_,_,rfl,rfl,((g.trans O).trans ak),M,(M0 _),a⟩
    exact P1 d ⟨_,_,_,_,_,rfl,rfl,(g.trans O),m,(M0 _),a⟩
   refine trV a (V04 _ _ _ _ _ f _ x) λbh a=>?_;refine ifB a (λab a=>?_) λab a=>?_;·refine trM a (U04 _ _ _ _ _ f _ w) ?_;rintro bi a a1 aJ ⟨ar,aX,az,rfl,N,al⟩;obtain⟨rfl,aR⟩:=sL N;exact P1 d ⟨_,_,_,_,_,rfl,rfl,(g.trans al),N,(M0 _),a⟩
   exact P1 d ⟨_,_,_,_,_,rfl,rfl,g,f,(M0 _),a⟩
  cases a;try dsimp only[S0,U0]at c
  exact P1 k ⟨_,_,_,_,_,rfl,rfl,(C.trans g),f,(M0 _),c⟩
 cases c;try dsimp only[S0,U0]at b
 cases b;exact⟨_,_,_,rfl,A,C⟩
def S0d(h:Hp)(i:List Value)(m:j0)(C:F1.R h i m)(r:Int)(b:b04 m=some r): Tr Tryz.prog 78 #[.agg i.toArray] h λv h'=>v=iV r/\h'=h:=by
 obtain⟨n,o,E,G,p,rfl,rfl,j,k,s,K⟩:=opG C;unfold b04 at b;dsimp only at b;refine wkF Tryz.f78 ?_;refine trM b (D0e _ _ _ (D0 j k s) 0 oD) ?_;rintro u b O A ⟨F,M,H,rfl,t,f⟩;obtain⟨rfl,L⟩:=sL t;obtain⟨g,x,b⟩:=B0 b;refine eX { vars:=[4] } (eX (λvs os h'=>∃ d,vs.tail = [iV d]/\os = []/\Sub A h'/\H0 d/\D00 o n p u (E1 vs) d=some g) (eX (λ_ _=>0) (aI (eX P0 ⟨_,rfl,rfl,sr,oD,x⟩) ?_)));rintro _ e J ⟨d,⟨⟩,⟨⟩,c,l,a⟩;replace a:D00 o n p u e d=some g:=a;obtain _|e:=e;·cases a
 rw[D00.eq_2]at a;refine ifB a (λz a=>?_) λz a=>?_
 ·refine trV a (d0i _ _ _ (D0 j k (N0.mono (f.trans c) s)) _ l) λD a=>?_;obtain⟨N,w,a⟩:=B0 a;have I:H0 D:=F0 w;refine trG a (λq=>V04 _ _ _ _ _ (J0.mono c t) _ l) λP a=>?_;refine ifB a (λy a=>?_) λy a=>?_
  ·cases a;try dsimp only[M2,P2]at b
   cases b;exact aI rfl (f.trans c)
  exact P1 e ⟨_,rfl,rfl,c,(M0 _),a⟩
 cases a;try dsimp only[S0,U0]at b
 cases b;exact aI rfl (f.trans c)
def v07(h:Hp)(X:List Value)(ab:j0)(aR:F1.R h X ab)(U:Option Addr)(aa V:Nat)(z:I0)(C:J0.R h [.slice U aa V] z)(r:j0×Bool)(d:M9 ab z=some r): Tr Tryz.prog 79 #[.agg X.toArray,.slice U aa V] h λv h'=>∃(W:List Value),v = .tuple #[.agg W.toArray,.bool r.2]/\New F1 h h' W r.1:=by
 obtain⟨ac,x,bb,bf,y,rfl,rfl,t,G,A,bO⟩:=opG aR;obtain⟨rfl,aQ⟩:=sL C;unfold M9 at d;dsimp only at d;refine wk Tryz.f79 ?_;refine trV d (t8 _ _ _ (D0 t G A)) λcb d=>?_;refine ifB d (λaA d=>?_) λaA d=>?_
 ·refine trM d (z8 _ _ _ (D0 t G A)) ?_;rintro ck d b8 aN ⟨bj,rfl,O⟩;have b6:Sub h aN:=O.sub;have aW:=O.r;obtain⟨cq,cr,bd,bq,cs,rfl,rfl,aJ,aK,bX,bR⟩:=opG aW;try dsimp only at d
  have a5:=nD (nD (O));cases d;exact⟨_,rfl,(nP (nI aJ) (nP (nI aK) a5))⟩
 obtain⟨bV,am,d⟩:=B0 d;refine aI (F0 am) ?_;obtain⟨T,ax,d⟩:=B0 d;refine eX { vars:=[8],owns:=[0],kept:=[0] } (eX (λvs os h'=>∃ i L j,vs.tail = [iV i]/\os = [L]/\Sub h h'/\H0 i/\F2 (Wp.int.R h') L j/\I5 z x ac y (E1 vs) i j=some T) (eX (λ_ _=>0) (aI (eX P0 ⟨_,_,_,rfl,rfl,sr,oD,(F2.rep (p:=Wp.int.R h) (a:=[iV 0]) (b:=0) ⟨rfl,oD⟩ (x.toNat)),ax⟩) ?_)));rintro _ L w u ⟨i,cu,j,⟨⟩,⟨⟩,e,bt,g,c⟩;replace c:I5 z x ac y w i j=some T:=c;obtain _|w:=w;·cases c
 rw[I5.eq_2]at c;refine ifB c (λay c=>?_) λay c=>?_
 ·refine w1 ?_;refine ldI c (J0.mono e C) λcc aD c=>?_;obtain⟨a6,an,c⟩:=B0 c;refine eX (.bool a6) (aI (c7 _ _ aD 0 oD (i64.wrap (x-1)) (M0 _) _  an) ?_);refine ldG c (J0.mono e C) λcd bu c=>?_;obtain⟨ce,ao,c⟩:=B0 c;obtain⟨bg,Y,aS⟩:=e06 g ao (m0f u);refine aI (λq=>(Y q).1) ?_;obtain⟨rfl,bv⟩:=aS;refine eX _ (aI (λq=>(Y q).2) ?_);refine ifB c (λaz c=>?_) λaz c=>?_
  ·refine trM c (z8 _ _ _ (D0 t G (N0.mono e A))) ?_;rintro cf c b7 aL ⟨bh,rfl,N⟩;have b5:Sub u aL:=N.sub;have aU:=N.r;obtain⟨cg,ch,bc,bp,ci,rfl,rfl,aF,aG,bW,bQ⟩:=opG aU;try dsimp only at c
   have a4:=nD (nD (N));cases c;try dsimp only[M2,P2]at d
   cases d;exact⟨_,rfl,(nP (nI aF) (nP (nI aG) (New.from a4 e)))⟩
  refine ldI c (J0.mono e C) λba bx c=>?_;obtain⟨cj,ap,c⟩:=B0 c;obtain⟨ae,bi,ai,aV⟩:=S3 g ap;refine aI ae ?_;obtain⟨rfl,bz⟩:=aV;refine eX _ (aI ai ?_);exact P1 w ⟨_,_,_,rfl,rfl,e,(M0 _),(F2.set (p:=Wp.int.R u) (a:=[iV (i64.wrap (i+1))]) (b:=(i64.wrap (i+1))) ⟨rfl,(M0 _)⟩ ba.toNat g),c⟩
 cases c;try dsimp only[S0,U0]at d
 obtain⟨S,aw,d⟩:=B0 d;refine eX { vars:=[9],boxes:=[2] } (eX (λvs os h'=>∃ l m n E J F D,vs.tail = [iV l,iV m,iV n,.slice E J F]/\os = []/\Sub u h'/\H0 l/\H0 m/\H0 n/\New N0 h h' [.slice E J F] D/\O4 y j (E1 vs) l m n D=some S) (eX (λ_ _=>0) (aI (eX P0 ⟨_,_,_,_,_,_,_,rfl,rfl,sr,oD,t,(L0l aQ),((New.nilSlice (r:=C1)).mono e),aw⟩) ?_)));rintro _ _ _ _ k aM ⟨l,m,n,E,J,F,D,⟨⟩,⟨⟩,f,bs,H,I,M,c⟩;replace c:O4 y j k l m n D=some S:=c;obtain _|k:=k;·cases c
 rw[O4.eq_2]at c;have ad:=M.r;obtain⟨rfl,bP⟩:=sL ad;refine ifB c (λaB c=>?_) λaB c=>?_
 ·refine ld c (N0.mono (e.trans f) A) λcl bk aX c=>?_;obtain⟨cm,Q,cn,rfl,rfl,bA,aH,bB⟩:=Q1 aX;try dsimp only at c
  obtain⟨co,aq,c⟩:=B0 c;obtain⟨af,bl,aj,aY⟩:=S3 (F2.up (r:=Wp.int.toRp) f g) aq;refine aI af ?_;obtain⟨rfl,bC⟩:=aY;refine eX _ (aI aj ?_);obtain⟨cp,ar,c⟩:=B0 c;obtain⟨bm,Z,aZ⟩:=e06 (F2.up (r:=Wp.int.toRp) f g) ar (m0f aM);refine aI (λq=>(Z q).1) ?_;obtain⟨rfl,bD⟩:=aZ;refine eX _ (aI (λq=>(Z q).2) ?_);refine ifB c (λaC c=>?_) λaC c=>?_
  ·refine w5 17 ?_;obtain⟨o,au,c⟩:=B0 c;obtain⟨ag,bn,ak,a0⟩:=S3 (F2.up (r:=Wp.int.toRp) f g) au;obtain⟨rfl,bE⟩:=a0;refine Or.inl ?_;apply eX;refine aI ?_ ?_;·intro bH bY;exact aI ag r3
   refine pm (.val (iV o)) ?_ ?_;·intro bI bZ;exact eX _ (aI ak r3)
   refine pm (.val (iV (i64.wrap (o-1)))) ?_ ?_;·intro bJ b0;exact r3
   obtain⟨s,av,c⟩:=B0 c;obtain⟨ah,bo,al,a1⟩:=S3 (F2.up (r:=Wp.int.toRp) f g) av;obtain⟨rfl,bG⟩:=a1;refine Or.inl ?_;apply eX;refine aI ?_ ?_;·intro bK b1;exact aI ah r3
   refine pm (.val (iV s)) ?_ ?_;·intro bL b2;exact eX _ (aI al r3)
   refine pm (.val (iV (i64.wrap (s-1)))) ?_ ?_;·intro bM b3;exact r3
   refine pm (.agg [.val (iV (i64.wrap (o-1))),.val (iV Q),.val (iV (i64.wrap (s-1)))]) ?_ ?_;·intro bN b4;exact r3
   intro aO K;refine trM c (L01 _ _ _ _ _ (N0.mono K ad) [iV (i64.wrap (o-1)),iV Q,iV (i64.wrap (s-1))] ((i64.wrap (o-1)),Q,(i64.wrap (s-1))) (N1 (M0 _) aH (M0 _))) ?_;rintro ct c ca aP ⟨be,bU,br,rfl,P⟩;have a3:Sub aO aP:=P.sub;have a2:=P.r;obtain⟨rfl,bS⟩:=sL a2;exact P1 k ⟨_,_,_,_,_,_,_,rfl,rfl,((f.trans K).trans a3),(M0 _),H,I,(New.from P ((e.trans f).trans K)),c⟩
  exact P1 k ⟨_,_,_,_,_,_,_,rfl,rfl,f,(M0 _),H,I,M,c⟩
 cases c;try dsimp only[S0,U0]at d
 cases d;exact⟨_,rfl,(nP (nI H) (nP (nI I) M))⟩
def m0a(h:Hp)(f:Int)(C:H0 f)(r:I0)(e:Q01 f=some r): Tr Tryz.prog 141 #[iV f] h λv h'=>∃(m:Option Addr) (o n:Nat),v = .slice m o n/\J0.R h' [.slice m o n] r/\Sub h h':=by
 unfold Q01 at e;refine wk Tryz.f141 ?_;obtain⟨l,u,e⟩:=B0 e;refine eX { vars:=[4],owns:=[0] } (eX (λvs os h'=>∃ a k j,vs.tail = [iV a]/\os = [k]/\Sub h h'/\H0 a/\F2 (Wp.int.R h') k j/\c8 f (E1 vs) a j=some l) (eX (λ_ _=>0) (aI (eX P0 ⟨_,_,_,rfl,rfl,sr,oD,(show F2 (Wp.int.R h) ([]:LV) ([]:I0) from trivial),u⟩) ?_)));rintro _ k i d ⟨a,I,j,⟨⟩,⟨⟩,p,g,c,b⟩;replace b:c8 f i a j=some l:=b;obtain _|i:=i;·cases b
 rw[c8.eq_2]at b;refine ifB b (λw b=>?_) λw b=>?_;·obtain⟨F,s,b⟩:=B0 b;refine aI (G1 s (by first|rw[fL c,fL (show F2 (Wp.int.R d) ([[iV a]]:LV) [a] from⟨⟨rfl,g⟩,trivial⟩)]|exact congrArg (·+1) (fL c))) ?_;obtain⟨G,t,b⟩:=B0 b;refine aI (G1 t (by first|rw[fL (fA c (show F2 (Wp.int.R d) ([[iV a]]:LV) [a] from⟨⟨rfl,g⟩,trivial⟩)),fL (show F2 (Wp.int.R d) ([[iV (i64.wrap (0-a))]]:LV) [(i64.wrap (0-a))] from⟨⟨rfl,(M0 _)⟩,trivial⟩)]|exact congrArg (·+1) (fL (fA c (show F2 (Wp.int.R d) ([[iV a]]:LV) [a] from⟨⟨rfl,g⟩,trivial⟩))))) ?_;exact P1 i ⟨_,_,_,rfl,rfl,p,(M0 _),(fA (fA c (show F2 (Wp.int.R d) ([[iV a]]:LV) [a] from⟨⟨rfl,g⟩,trivial⟩)) (show F2 (Wp.int.R d) ([[iV (i64.wrap (0-a))]]:LV) [(i64.wrap (0-a))] from⟨⟨rfl,(M0 _)⟩,trivial⟩)),b⟩
 cases b;try dsimp only[S0,U0]at e
 intro H D q;obtain⟨z,A,rfl,x,y,E⟩:=Y0.out (r:=Wp.int.toRp) q c;cases e;exact⟨_,_,_,rfl,x,(p.trans y)⟩
def h0b(h:Hp)(F:List Value)(J:j0)(ak:F1.R h F J)(r:I0)(c:I00 J=some r): Tr Tryz.prog 80 #[.agg F.toArray] h λv h'=>∃(D:Option Addr) (I E:Nat),v = .slice D I E/\J0.R h' [.slice D I E] r/\Sub h h':=by
 obtain⟨l,m,au,az,n,rfl,rfl,w,G,K,aN⟩:=opG ak;unfold I00 at c;dsimp only at c;refine wk Tryz.f80 ?_;refine trV c (B01 _ _ _ (D0 w G K)) λa2 c=>?_;refine ifB c (λab c=>?_) λab c=>?_;·intro aZ aL Q;obtain⟨ay,aF,rfl,ao,aq,aR⟩:=Y0.out (r:=Wp.int.toRp) Q (show F2 (Wp.int.R h) ([]:LV) ([]:I0) from trivial);cases c;exact⟨_,_,_,rfl,ao,aq⟩
 refine trM c (m0a _ _ w) ?_;rintro t c a1 ai ⟨av,aS,aB,rfl,L,y⟩;obtain⟨rfl,aO⟩:=sL L;obtain⟨A,Y,c⟩:=B0 c;refine eX { vars:=[5],owns:=[0] } (eX (λvs os h'=>∃ e s p,vs.tail = [iV e]/\os = [s]/\Sub ai h'/\H0 e/\F2 (Wp.int.R h') s p/\H6 t l m n (E1 vs) e p=some A) (eX (λ_ _=>0) (aI (eX P0 ⟨_,_,_,rfl,rfl,sr,oD,(F2.up (r:=Wp.int.toRp) y (show F2 (Wp.int.R h) ([[iV 0]]:LV) [0] from⟨⟨rfl,oD⟩,trivial⟩)),Y⟩) ?_)));rintro _ s k ah ⟨e,a5,p,⟨⟩,⟨⟩,o,aH,u,b⟩;replace b:H6 t l m n k e p=some A:=b;obtain _|k:=k;·cases b
 rw[H6.eq_2]at b;obtain⟨aj,S,b⟩:=B0 b;obtain rfl:s.length=aj:=(fL u).trans (oJ S);obtain⟨aU,aG,b⟩:=B0 b;refine ifB b (λaa b=>?_) λaa b=>?_
 ·obtain⟨C,Z,b⟩:=B0 b;refine eX { vars:=[6],owns:=[0] } (eX (λvs os h'=>∃ j z q,vs.tail = [iV j]/\os = [z]/\Sub ah h'/\H0 j/\F2 (Wp.int.R h') z q/\I4 t e l m n (E1 vs) j q=some C) (eX (λ_ _=>0) (aI (eX P0 ⟨_,_,_,rfl,rfl,sr,oD,u,Z⟩) ?_)));rintro _ z g H ⟨j,a6,q,⟨⟩,⟨⟩,i,aJ,d,a⟩;replace a:I4 t e l m n g j q=some C:=a;obtain _|g:=g;·cases a
  rw[I4.eq_2]at a;refine ifB a (λac a=>?_) λac a=>?_
  ·refine w1 ?_;obtain⟨a3,V,a⟩:=B0 a;obtain⟨M,aA,N,al⟩:=S3 d V;refine aI M ?_;obtain⟨rfl,af⟩:=al;refine eX _ (aI N ?_);refine ldI a (J0.mono (o.trans i) L) λa4 ag a=>?_;obtain⟨f,W,a⟩:=B0 a;refine eX (iV f) (aI (b9 _ _ _ (D0 w G (N0.mono ((y.trans o).trans i) K)) _ af _ ag _  W) ?_);obtain⟨aV,T,a⟩:=B0 a;have x:H0 f:=F0 T;obtain⟨ar,X,a⟩:=B0 a;refine eX (.bool ar) (aI ?_ ?_);·intro ae;intro aY aK O;obtain⟨aw,aC,rfl,am,aX,aP⟩:=Y0.out (r:=Wp.int.toRp) O d;exact V04 _ _ _ _ _ am _ x _ (N7 X ae)
   refine ifB a (λad a=>?_) λad a=>?_;·obtain⟨aW,U,a⟩:=B0 a;refine aI (G1 U (by first|rw[fL d,fL (show F2 (Wp.int.R H) ([[iV f]]:LV) [f] from⟨⟨rfl,x⟩,trivial⟩)]|exact congrArg (·+1) (fL d))) ?_;exact P1 g ⟨_,_,_,rfl,rfl,i,(M0 _),(fA d (show F2 (Wp.int.R H) ([[iV f]]:LV) [f] from⟨⟨rfl,x⟩,trivial⟩)),a⟩
   exact P1 g ⟨_,_,_,rfl,rfl,i,(M0 _),d,a⟩
  cases a;try dsimp only[S0,U0]at b
  exact P1 k ⟨_,_,_,rfl,rfl,(o.trans i),(M0 _),d,b⟩
 cases b;try dsimp only[S0,U0]at c
 intro a0 aM P;obtain⟨ax,aD,rfl,an,ap,aQ⟩:=Y0.out (r:=Wp.int.toRp) P u;cases c;exact⟨_,_,_,rfl,an,((y.trans o).trans ap)⟩
def F06(h:Hp)(j:List Value)(l:j0)(w:F1.R h j l)(r:j0)(a:g9 l=some r): Tr Tryz.prog 40 #[.agg j.toArray] h λv h'=>∃(i:List Value),v = .agg i.toArray/\New F1 h h' i r:=by
 obtain⟨T,U,D,H,V,rfl,rfl,d,e,f,N⟩:=opG w;unfold g9 at a;dsimp only at a;refine wk Tryz.f40 ?_;refine trM a (h0b _ _ _ (D0 d e f)) ?_;rintro ad a ab k ⟨E,S,K,rfl,m,b⟩;obtain⟨rfl,O⟩:=sL m;refine ifB a (λn a=>?_) λn a=>?_
 ·refine trM a (z8 _ _ _ (D0 d e (N0.mono b f))) ?_;rintro ae a ac u ⟨I,rfl,g⟩;have Y:Sub k u:=g.sub;have x:=g.r;obtain⟨af,ag,F,L,ah,rfl,rfl,o,p,W,P⟩:=opG x;try dsimp only at a
  have A:=nD (nD (g));cases a;exact⟨_,rfl,(nP (nI o) (nP (nI p) (New.from A b)))⟩
 refine trM a (v07 _ _ _ (D0 d e (N0.mono b f)) _ _ _ _ m) ?_;rintro C a aa t ⟨J,rfl,c⟩;obtain⟨ai,am⟩:=C;dsimp only at a c;have Z:Sub k t:=c.sub;have y:=c.r;obtain⟨aj,ak,G,M,al,rfl,rfl,q,s,X,Q⟩:=opG y;try dsimp only at a
 have z:=nD (nD (c));cases a;exact⟨_,rfl,(nP (nI q) (nP (nI s) (New.from z b)))⟩
def l0l(h:Hp)(m:List Value)(n:j0)(L:F1.R h m n)(r:Bool)(a:J02 n=some r): Tr Tryz.prog 48 #[.agg m.toArray] h λv h'=>v = .bool r/\h'=h:=by
 obtain⟨ap,aq,Y,aa,ar,rfl,rfl,f,g,i,an⟩:=opG L;unfold J02 at a;dsimp only at a;refine wkF Tryz.f48 ?_;refine w4 ?_;obtain⟨V,A,a⟩:=B0 a;refine pm (.val (.bool V)) ?_ ?_;·intro aj T;exact Tr.val (B01 _ _ _ (D0 f g (N0.mono T i)) _ A) r3
 obtain⟨l,E,a⟩:=B0 a;obtain⟨au,z,a⟩:=B0 a;have af:H0 l:=F0 z;refine pm (.val (iV l)) ?_ ?_;·intro ak U b;exact Tr.val (S0d _ _ _ (D0 f g (N0.mono U i)) _ (N7 E b)) r3
 refine pm (.val (.bool (decide (l<0)))) ?_ ?_;·intro al av b;exact r3
 obtain⟨W,C,a⟩:=B0 a;obtain⟨p,s,j⟩:=W;try dsimp only at a
 refine Or.inr (eX (λv F=>∃(c:Option Addr) (d:Nat),v = .agg #[iV p,iV s,.slice c j.length d]/\H0 p/\H0 s/\N0.R F [.slice c j.length d] j/\j.length<=9223372036854775807) (aI (λv ad ae k q=>by obtain⟨c,d,e,x,y,f2,f3⟩:=q;exact⟨c,d,e,x,y,N0.mono k f2,f3⟩) (aI ?_ ?_)));·intro ag P b;refine Tr.mono (F06 _ _ _ (D0 f g (N0.mono P i)) _ (N7 C b)) ?_;rintro _ am ⟨ab,rfl,o⟩;have k:=o.sub;have M:=o.r;obtain⟨aw,ax,t,u,ay,rfl,w,G,H,N,K⟩:=opG M;cases w;exact aI E6 (aI k ⟨t,u,rfl,G,H,N,K⟩)
 obtain⟨X,D,a⟩:=B0 a;refine pm (.val (.bool X)) ?_ ?_;·intro ah Q b;rintro _ ⟨Z,ac,rfl,I,J,O,ao⟩;exact Tr.val (C0e _ _ _ (D0 I J O) _ _ (D0 f g (N0.mono Q i)) _ (N7 D b)) r3
 intro ai S;cases a;exact aI rfl S
def m04(h:Hp)(b:List Value)(c:j0)(f:F1.R h b c)(r:Bool)(a:O6 c=some r): Tr Tryz.prog 23 #[.agg b.toArray] h λv h'=>v = .bool r/\h'=h:=by obtain⟨l,m,i,j,n,rfl,rfl,d,e,g,k⟩:=opG f;unfold O6 at a;dsimp only at a;refine wkF Tryz.f23 ?_;refine trV a (l0l _ _ _ (D0 d e g)) λo a=>?_;cases a;exact aI rfl sr
set_option maxHeartbeats 0
def L0k(h:Hp)(W:List Value)(ab:j0)(bd:F1.R h W ab)(r:T0)(d:C04 ab=some r): Tr Tryz.prog 86 #[.agg W.toArray] h λv h'=>∃(T:Option Addr) (aa V:Nat),v = .slice T aa V/\N0.R h' [.slice T aa V] r/\Sub h h':=by
 obtain⟨t,u,bq,bv,w,rfl,rfl,J,Z,ac,b2⟩:=opG bd;unfold C04 at d;dsimp only at d;refine wk Tryz.f86 ?_;refine trV d (B01 _ _ _ (D0 J Z ac)) λcy d=>?_;refine ifB d (λaR d=>?_) λaR d=>?_;·intro ct bP aC;obtain⟨bu,bH,rfl,bl,bo,cb⟩:=Y0.out (r:=C1.toRp) aC (show F2 (C1.R h) ([]:LV) ([]:T0) from trivial);cases d;exact⟨_,_,_,rfl,bl,bo⟩
 refine trM d (m0a _ _ J) ?_;rintro m d cx bb ⟨U,cd,X,rfl,p,x⟩;obtain⟨rfl,b6⟩:=sL p;obtain⟨Q,aP,d⟩:=B0 d;refine eX { vars:=[3,6],owns:=[1],pubs:=[3,9] } (eX (λvs os h'=>∃(F:Option Addr) (K H:Nat) (y:T0) (j:Int) (D:LV) (z:List Int),vs.tail = [.slice F K H,iV j]/\os = [D]/\Sub bb h'/\N0.R h' [.slice F K H] y/\H0 j/\F2 (Wp.int.R h') D z/\R00 m t u w (E1 vs) y j z=some Q) (eX (λ_ _=>0) ?_));intro cs bN aA;obtain⟨am,au,rfl,bj,ah,b8⟩:=Y0.out (r:=C1.toRp) aA (F2.up (r:=C1.toRp) x (show F2 (C1.R h) ([]:LV) ([]:T0) from trivial));refine aI (eX P0 ⟨am,(([]:T0)).length,au,([]:T0),0,([[iV 0]]:LV),[0],rfl,rfl,ah,bj,oD,(F2.up (r:=Wp.int.toRp) (x.trans ah) (show F2 (Wp.int.R h) ([[iV 0]]:LV) [0] from⟨⟨rfl,oD⟩,trivial⟩)),aP⟩) ?_;rintro _ _ D s a3 ⟨F,K,H,y,j,cG,z,⟨⟩,⟨⟩,i,M,bJ,Y,b⟩;replace b:R00 m t u w s y j z=some Q:=b;obtain _|s:=s;·cases b
 rw[R00.eq_2]at b;obtain⟨rfl,b3⟩:=sL M;obtain⟨bc,aD,b⟩:=B0 b;obtain rfl:D.length=bc:=(fL Y).trans (oJ aD);obtain⟨cf,bI,b⟩:=B0 b;refine ifB b (λaS b=>?_) λaS b=>?_
 ·obtain⟨S,aQ,b⟩:=B0 b;refine eX { vars:=[3,7],owns:=[1] } (eX (λvs os h'=>∃ G L I A k P C,vs.tail = [.slice G L I,iV k]/\os = [P]/\Sub a3 h'/\N0.R h' [.slice G L I] A/\H0 k/\F2 (Wp.int.R h') P C/\y7 m j t u w (E1 vs) A k C=some S) (eX (λ_ _=>0) (aI (eX P0 ⟨_,_,_,_,_,_,_,rfl,rfl,sr,M,oD,Y,aQ⟩) ?_)));rintro _ _ P l n ⟨G,L,I,A,k,cH,C,⟨⟩,⟨⟩,f,o,bK,e,a⟩;replace a:y7 m j t u w l A k C=some S:=a;obtain _|l:=l;·cases a
  rw[y7.eq_2]at a;obtain⟨rfl,b4⟩:=sL o;refine ifB a (λaU a=>?_) λaU a=>?_
  ·refine w1 ?_;obtain⟨cz,aH,a⟩:=B0 a;obtain⟨an,bx,av,be⟩:=S3 e aH;refine aI an ?_;obtain⟨rfl,aY⟩:=be;refine eX _ (aI av ?_);refine ldI a (J0.mono (i.trans f) p) λcA aZ a=>?_;obtain⟨c,aJ,a⟩:=B0 a;refine eX (iV c) (aI (b9 _ _ _ (D0 J Z (N0.mono ((x.trans i).trans f) ac)) _ aY _ aZ _  aJ) ?_);obtain⟨cg,aF,a⟩:=B0 a;have g:H0 c:=F0 aF;obtain⟨bp,aK,a⟩:=B0 a;refine eX (.bool bp) (aI ?_ ?_);·intro aX;intro cu bO aB;obtain⟨bt,bG,rfl,bk,cr,ca⟩:=Y0.out (r:=Wp.int.toRp) aB e;exact V04 _ _ _ _ _ bk _ g _ (N7 aK aX)
   refine ifB a (λaV a=>?_) λaV a=>?_;·exact P1 l ⟨_,_,_,_,_,_,_,rfl,rfl,f,o,(M0 _),e,a⟩
   obtain⟨ch,aG,a⟩:=B0 a;refine aI (G1 aG (by first|rw[fL e,fL (show F2 (Wp.int.R n) ([[iV c]]:LV) [c] from⟨⟨rfl,g⟩,trivial⟩)]|exact congrArg (·+1) (fL e))) ?_;refine ldI a (J0.mono (i.trans f) p) λcC bL a=>?_;refine ifB a (λaW a=>?_) λaW a=>?_
   ·refine w5 11 ?_;obtain⟨ak,aL,a⟩:=B0 a;obtain⟨ao,bz,aw,bf⟩:=S3 (fA e (show F2 (Wp.int.R n) ([[iV c]]:LV) [c] from⟨⟨rfl,g⟩,trivial⟩)) aL;obtain⟨rfl,a0⟩:=bf;refine Or.inl ?_;apply eX;refine aI ?_ ?_;·intro bQ ci;exact aI ao r3
    refine pm (.val (iV ak)) ?_ ?_;·intro bR cj;exact eX _ (aI aw r3)
    obtain⟨al,aM,a⟩:=B0 a;obtain⟨ap,bA,ax,bg⟩:=Sl.getI (r:=Wp.int.toRp) (J0.mono (i.trans f) p) aM oD;obtain⟨rfl,a1⟩:=bg;refine pm (.hel (.slice U m.length X) k 1 0) ?_ ?_;·intro bS ck;exact aI ap r3
    refine pm (.val (iV al)) ?_ ?_;·intro bU bm;exact eX _ (aI (T7.up bm ax) r3)
    refine pm (.agg [.val (iV ak),.val (iV al),.val (iV c)]) ?_ ?_;·intro bV cl;exact r3
    intro a4 N;refine trM a (L01 _ _ _ _ _ (N0.mono N o) _ _ (N1 a0 a1 g)) ?_;rintro cD a cv a5 ⟨br,cc,bD,rfl,ai⟩;have af:Sub a4 a5:=ai.sub;have ad:=ai.r;obtain⟨rfl,b5⟩:=sL ad;exact P1 l ⟨_,_,_,_,_,_,_,rfl,rfl,((f.trans N).trans af),ad,(M0 _),(F2.up (r:=Wp.int.toRp) (N.trans af) (fA e (show F2 (Wp.int.R n) ([[iV c]]:LV) [c] from⟨⟨rfl,g⟩,trivial⟩))),a⟩
   refine w5 12 ?_;obtain⟨q,aN,a⟩:=B0 a;obtain⟨aq,bB,ay,bh⟩:=Sl.getI (r:=Wp.int.toRp) (J0.mono (i.trans f) p) aN oD;obtain⟨rfl,bM⟩:=bh;refine pm (.hel (.slice U m.length X) k 1 0) ?_ ?_;·intro bW cm;exact aI aq r3
   refine pm (.val (iV q)) ?_ ?_;·intro bX bn;exact eX _ (aI (T7.up bn ay) r3)
   refine pm (.val (iV (i64.wrap (0-q)))) ?_ ?_;·intro bY cn;exact r3
   obtain⟨E,aO,a⟩:=B0 a;obtain⟨ar,bC,az,bi⟩:=S3 (fA e (show F2 (Wp.int.R n) ([[iV c]]:LV) [c] from⟨⟨rfl,g⟩,trivial⟩)) aO;obtain⟨rfl,a2⟩:=bi;refine Or.inl ?_;apply eX;refine aI ?_ ?_;·intro bZ co;exact aI ar r3
   refine pm (.val (iV E)) ?_ ?_;·intro b0 cp;exact eX _ (aI az r3)
   refine pm (.agg [.val (iV c),.val (iV (i64.wrap (0-q))),.val (iV E)]) ?_ ?_;·intro b1 cq;exact r3
   intro a6 O;refine trM a (L01 _ _ _ _ _ (N0.mono O o) [iV c,iV (i64.wrap (0-q)),iV E] (c,(i64.wrap (0-q)),E) (N1 g (M0 _) a2)) ?_;rintro cE a cw ba ⟨bs,ce,bE,rfl,aj⟩;have ag:Sub a6 ba:=aj.sub;have ae:=aj.r;obtain⟨rfl,b7⟩:=sL ae;exact P1 l ⟨_,_,_,_,_,_,_,rfl,rfl,((f.trans O).trans ag),ae,(M0 _),(F2.up (r:=Wp.int.toRp) (O.trans ag) (fA e (show F2 (Wp.int.R n) ([[iV c]]:LV) [c] from⟨⟨rfl,g⟩,trivial⟩))),a⟩
  cases a;try dsimp only[S0,U0]at b
  exact P1 s ⟨_,_,_,_,_,_,_,rfl,rfl,(i.trans f),o,(M0 _),e,b⟩
 cases b;try dsimp only[S0,U0]at d
 cases d;exact⟨_,_,_,rfl,M,(x.trans i)⟩
def b0g(h:Hp)(E:List Value)(O:j0)(ad:F1.R h E O)(r:T0)(d:w02 O=some r): Tr Tryz.prog 49 #[.agg E.toArray] h λv h'=>∃(C:Option Addr) (N D:Nat),v = .slice C N D/\N0.R h' [.slice C N D] r/\Sub h h':=by
 obtain⟨P,Q,ap,au,m,rfl,rfl,H,I,n,aL⟩:=opG ad;unfold w02 at d;dsimp only at d;refine wk Tryz.f49 ?_;refine trM d (L0k _ _ _ (D0 H I n)) ?_;rintro t d aR M ⟨aq,aO,ay,rfl,S,o⟩;obtain⟨rfl,aM⟩:=sL S;obtain⟨A,Y,d⟩:=B0 d;refine eX { vars:=[5],owns:=[0] } (eX (λvs os h'=>∃ f y s,vs.tail = [iV f]/\os = [y]/\Sub M h'/\H0 f/\F2 (C1.R h') y s/\D6 m P Q t (E1 vs) f s=some A) (eX (λ_ _=>0) (aI (eX P0 ⟨_,_,_,rfl,rfl,sr,oD,(show F2 (C1.R M) ([]:LV) ([]:T0) from trivial),Y⟩) ?_)));rintro _ y i ac ⟨f,aX,s,⟨⟩,⟨⟩,e,aB,g,a⟩;replace a:D6 m P Q t i f s=some A:=a;obtain _|i:=i;·cases a
 rw[D6.eq_2]at a;refine trG a (λq=>B01 _ _ _ (D0 H I (N0.mono (o.trans e) n))) λaW a=>?_;refine ifB a (λZ a=>?_) λZ a=>?_
 ·obtain⟨z,X,a⟩:=B0 a;refine eX { vars:=[6,7] } (eX (λvs os h'=>∃ p j,vs.tail = [.bool p,iV j]/\os = []/\Sub ac h'/\H0 j/\F7 t m f (E1 vs) p j=some z) (eX (λ_ _=>0) (aI (eX P0 ⟨_,_,rfl,rfl,sr,oD,X⟩) ?_)));rintro _ _ l k ⟨p,j,⟨⟩,⟨⟩,c,aA,b⟩;replace b:F7 t m f l p j=some z:=b;obtain _|l:=l;·cases b
  rw[F7.eq_2]at b;refine ifB b (λaa b=>?_) λaa b=>?_
  ·refine w1 ?_;obtain⟨aS,V,b⟩:=B0 b;obtain⟨av,F,ae⟩:=Sl.getG (r:=C1.toRp) (N0.mono (e.trans c) S) V oD (Q0b k);refine aI (λq=>(F q).1) ?_;obtain⟨aj,ak,al,rfl,rfl,aC,aD,aF⟩:=Q1 ae;try dsimp only at b
   refine eX _ (aI (λq=>(F q).2) ?_);obtain⟨aU,W,b⟩:=B0 b;obtain⟨aw,G,af⟩:=Sl.getG (r:=C1.toRp) (N0.mono ((o.trans e).trans c) n) W oD (Q0b k);refine aI (λq=>(G q).1) ?_;obtain⟨am,an,ao,rfl,rfl,aG,aH,aJ⟩:=Q1 af;try dsimp only at b
   refine eX _ (aI (λq=>(G q).2) ?_);refine eX (eqE (aj,ak,al) (am,an,ao)) (aI (λ_=>(j0d _ _ _ rfl _ _ _ _ _ _)) ?_);exact P1 l ⟨_,_,rfl,rfl,c,(M0 _),b⟩
  cases b;try dsimp only[S0,U0]at a
  refine ifB a (λab a=>?_) λab a=>?_
  ·refine ld a (N0.mono ((o.trans e).trans c) n) λaV ax ag a=>?_;obtain⟨u,w,x,rfl,rfl,J,K,L⟩:=Q1 ag;try dsimp only at a
   obtain⟨aP,U,a⟩:=B0 a;refine aI (G1 U (by first|rw[fL (F2.up (r:=C1.toRp) c g),fL (show F2 (C1.R k) ([[iV u,iV w,iV x]]:LV) [(u,w,x)] from⟨(N1 J K L),trivial⟩)]|exact congrArg (·+1) (fL (F2.up (r:=C1.toRp) c g)))) ?_;exact P1 i ⟨_,_,_,rfl,rfl,(e.trans c),(M0 _),(fA (F2.up (r:=C1.toRp) c g) (show F2 (C1.R k) ([[iV u,iV w,iV x]]:LV) [(u,w,x)] from⟨(N1 J K L),trivial⟩)),a⟩
  exact P1 i ⟨_,_,_,rfl,rfl,(e.trans c),(M0 _),(F2.up (r:=C1.toRp) c g),a⟩
 cases a;try dsimp only[S0,U0]at d
 intro aQ aK T;obtain⟨ar,az,rfl,ah,ai,aN⟩:=Y0.out (r:=C1.toRp) T g;cases d;exact⟨_,_,_,rfl,ah,((o.trans e).trans ai)⟩
def G06(h:Hp)(p:Option Addr)(A t:Nat)(k:I0)(g:J0.R h [.slice p A t] k)(r:I0)(d:G3 k=some r): Tr Tryz.prog 17 #[.slice p A t] h λv h'=>∃(o:Option Addr) (z s:Nat),v = .slice o z s/\New J0 h h' [.slice o z s] r:=by
 obtain⟨rfl,ab⟩:=sL g;unfold G3 at d;refine wk Tryz.f17 ?_;obtain⟨n,I,d⟩:=B0 d;refine eX { vars:=[4],owns:=[0] } (eX (λvs os h'=>∃ i j l,vs.tail = [iV i]/\os = [j]/\Sub h h'/\H0 i/\F2 (Wp.int.R h') j l/\j3 k (E1 vs) i l=some n) (eX (λ_ _=>0) (aI (eX P0 ⟨_,_,_,rfl,rfl,sr,oD,(show F2 (Wp.int.R h) ([]:LV) ([]:I0) from trivial),I⟩) ?_)));rintro _ j f c ⟨i,ap,l,⟨⟩,⟨⟩,e,U,b,a⟩;replace a:j3 k f i l=some n:=a;obtain _|f:=f;·cases a
 rw[j3.eq_2]at a;refine ifB a (λK a=>?_) λK a=>?_
 ·obtain⟨L,C,a⟩:=B0 a;obtain rfl:j.length=L:=(fL b).trans (oJ C);obtain⟨ag,T,a⟩:=B0 a;refine w1 ?_;refine ldG a (J0.mono e g) λao Z a=>?_;obtain⟨ak,G,a⟩:=B0 a;obtain⟨P,u,M⟩:=e06 b G (m0f c);refine aI (λq=>(u q).1) ?_;obtain⟨rfl,V⟩:=M;refine eX _ (aI (λq=>(u q).2) ?_);refine ldG a (J0.mono e g) λal W a=>?_;obtain⟨am,H,a⟩:=B0 a;obtain⟨Q,w,N⟩:=e06 b H (m0f c);refine aI (λq=>(w q).1) ?_;obtain⟨rfl,X⟩:=N;refine eX _ (aI (λq=>(w q).2) ?_);refine ldG a (J0.mono e g) λan Y a=>?_;refine ifB a (λJ a=>?_) λJ a=>?_;·obtain⟨ad,D,a⟩:=B0 a;refine aI (by have:=F0 D;have:=fL b;omega) ?_;exact P1 f ⟨_,_,_,rfl,rfl,e,(M0 _),(F2.take (i64.wrap (((j.length:Nat):Int)-1)).toNat b),a⟩
  refine ldI a (J0.mono e g) λm y a=>?_;obtain⟨ae,E,a⟩:=B0 a;refine aI (G1 E (by first|rw[fL b,fL (show F2 (Wp.int.R c) ([[iV m]]:LV) [m] from⟨⟨rfl,y⟩,trivial⟩)]|exact congrArg (·+1) (fL b))) ?_;exact P1 f ⟨_,_,_,rfl,rfl,e,(M0 _),(fA b (show F2 (Wp.int.R c) ([[iV m]]:LV) [m] from⟨⟨rfl,y⟩,trivial⟩)),a⟩
 cases a;try dsimp only[S0,U0]at d
 obtain⟨af,F,d⟩:=B0 d;refine aI (G1 F (by first|rw[fL (show F2 (Wp.int.R c) ([]:LV) ([]:I0) from trivial),fL b]|exact congrArg (·+0) (fL (show F2 (Wp.int.R c) ([]:LV) ([]:I0) from trivial)))) ?_;intro aj aa x;obtain⟨O,S,rfl,ah,ai,ac⟩:=Y0.out (r:=Wp.int.toRp) x (fA (show F2 (Wp.int.R c) ([]:LV) ([]:I0) from trivial) b);cases d;exact⟨_,_,_,rfl,(New.from (Y0.newPlain (r:=Wp.int) x (fA (show F2 (Wp.int.R c) ([]:LV) ([]:I0) from trivial) b) (B07 _)) e)⟩
def d0g(h:Hp)(s:Option Addr)(D w:Nat)(E:I0)(F:J0.R h [.slice s D w] E)(r:I0×I0)(b:A02 E=some r): Tr Tryz.prog 52 #[.slice s D w] h λv h'=>∃(p:Option Addr) (A t:Nat) (q:Option Addr) (C u:Nat),v = .tuple #[.slice p A t,.slice q C u]/\J0.R h' [.slice p A t] r.1/\J0.R h' [.slice q C u] r.2/\Sub h h':=by
 obtain⟨rfl,au⟩:=sL F;unfold A02 at b;refine wk Tryz.f52 ?_;refine trM b (m01 _ _ _ _ _ F) ?_;rintro aH b aG z ⟨ae,aA,ai,rfl,G,aa⟩;obtain⟨rfl,aw⟩:=sL G;obtain⟨o,U,b⟩:=B0 b;refine eX { vars:=[4],owns:=[0] } (eX (λvs os h'=>∃ k m l g n i,vs.tail = [.slice k m l]/\os = [n]/\Sub z h'/\J0.R h' [.slice k m l] g/\F2 (Wp.int.R h') n i/\N8 (E1 vs) g i=some o) (eX (λ_ _=>0) (aI (eX P0 ⟨_,_,_,_,_,_,rfl,rfl,sr,G,(show F2 (Wp.int.R z) ([]:LV) ([]:I0) from trivial),U⟩) ?_)));rintro _ n f d ⟨k,m,l,g,aO,i,⟨⟩,⟨⟩,I,c,e,a⟩;replace a:N8 f g i=some o:=a;obtain _|f:=f;·cases a
 rw[N8.eq_2]at a;obtain⟨rfl,av⟩:=sL c;refine w1 ?_;refine ldG a c λaN ap a=>?_;refine ldG a c λaJ am a=>?_;refine ldG a c λaK an a=>?_;refine ldG a c λaL ao a=>?_;refine ifB a (λV a=>?_) λV a=>?_;·refine ldI a c λj y a=>?_;obtain⟨aB,Q,a⟩:=B0 a;refine aI (G1 Q (by first|rw[fL e,fL (show F2 (Wp.int.R d) ([[iV j]]:LV) [j] from⟨⟨rfl,y⟩,trivial⟩)]|exact congrArg (·+1) (fL e))) ?_;obtain⟨aM,T,a⟩:=B0 a;obtain⟨X,ab,L,P⟩:=Sl.cutI (r:=Wp.int.toRp) c T;refine aI X (eX ab (aI L ?_));intro ad W _;obtain⟨af,aj,rfl,H⟩:=P ad W;have ax:=(sL H).2;exact P1 f ⟨_,_,_,_,_,_,rfl,rfl,I,H,(fA e (show F2 (Wp.int.R d) ([[iV j]]:LV) [j] from⟨⟨rfl,y⟩,trivial⟩)),a⟩
 cases a;try dsimp only[S0,U0]at b
 obtain⟨ac,M,x⟩:=Sl.rows (r:=Wp.int.toRp) c;refine eX ac (aI M ?_);obtain⟨aC,S,b⟩:=B0 b;refine aI (G1 S (by first|rw[fL (show F2 (Wp.int.R d) ([]:LV) ([]:I0) from trivial),fL x]|exact congrArg (·+1) (fL (show F2 (Wp.int.R d) ([]:LV) ([]:I0) from trivial)))) ?_;intro aD aq N;obtain⟨ag,ak,rfl,Y,J,ay⟩:=Y0.out (r:=Wp.int.toRp) N (fA (show F2 (Wp.int.R d) ([]:LV) ([]:I0) from trivial) x);intro aF ar O;obtain⟨ah,al,rfl,Z,K,az⟩:=Y0.out (r:=Wp.int.toRp) O (F2.up (r:=Wp.int.toRp) J e);cases b;exact⟨_,_,_,_,_,_,rfl,(J0.mono K Y),Z,(((aa.trans I).trans J).trans K)⟩
def E02(h:Hp)(c:Option Addr)(j d:Nat)(b:I0)(k:J0.R h [.slice c j d] b)(r:I0)(a:R4 b=some r): Tr Tryz.prog 176 #[.slice c j d] h λv h'=>∃(f:Option Addr) (i g:Nat),v = .slice f i g/\New J0 h h' [.slice f i g] r:=by obtain⟨rfl,w⟩:=sL k;unfold R4 at a;refine wk Tryz.f176 ?_;refine Or.inl ?_;intro C l f3;obtain⟨s,u,rfl,o,p,y⟩:=Y0.out (r:=J0.toRp) f3 (show F2 (J0.R h) ([[.slice c b.length d]]:LV) [b] from⟨k,trivial⟩);refine trM a (t06 _ _ _ _ _ o) ?_;rintro E a D m ⟨q,z,t,rfl,e⟩;have A:Sub l m:=e.sub;have n:=e.r;obtain⟨rfl,x⟩:=sL n;cases a;exact⟨_,_,_,rfl,(New.from e p)⟩
def p0i(h:Hp)(w:Option Addr)(I C:Nat)(f:M1)(o:T1.R h [.slice w I C] f)(x:Option Addr)(J D:Nat)(K:I0)(L:J0.R h [.slice x J D] K)(r:I0)(b:U03 f K=some r): Tr Tryz.prog 245 #[.slice w I C,.slice x J D] h λv h'=>∃(u:Option Addr) (H A:Nat),v = .slice u H A/\J0.R h' [.slice u H A] r/\Sub h h':=by
 obtain⟨rfl,ag⟩:=sL o;obtain⟨rfl,aA⟩:=sL L;unfold U03 at b;refine wk Tryz.f245 ?_;obtain⟨S,Y,b⟩:=B0 b;obtain⟨ah,al,T,V⟩:=Sl.cutI (r:=Wp.int.toRp) L Y;refine aI ah (eX al (aI T ?_));intro am ad _;obtain⟨an,av,rfl,M⟩:=V am ad;have aB:=(sL M).2;obtain⟨t,Z,b⟩:=B0 b;refine eX { vars:=[15],owns:=[0] } (eX (λvs os h'=>∃ g s j,vs.tail = [iV g]/\os = [s]/\Sub h h'/\H0 g/\F2 (J0.R h') s j/\Q6 S f (E1 vs) g j=some t) (eX (λ_ _=>0) (aI (eX P0 ⟨_,_,_,rfl,rfl,sr,oD,(show F2 (J0.R h) ([]:LV) ([]:M1) from trivial),Z⟩) ?_)));rintro _ s e n ⟨g,aW,j,⟨⟩,⟨⟩,d,az,c,a⟩;replace a:Q6 S f e g j=some t:=a;obtain _|e:=e;·cases a
 rw[Q6.eq_2]at a;refine ifB a (λac a=>?_) λac a=>?_
 ·refine ldI a (J0.mono d M) λaU G a=>?_;refine trV a (U3 _ _ G 1 oD _ (L0l ag)) λaV a=>?_;refine ifB a (λaa a=>?_) λaa a=>?_;·refine ld a (T1.mono d o) λk ar p a=>?_;obtain⟨y,E,rfl,aC⟩:=slL p;obtain⟨aL,W,a⟩:=B0 a;refine aI (G1 W (by first|rw[fL c,fL (show F2 (J0.R n) ([[.slice y k.length E]]:LV) [k] from⟨p,trivial⟩)]|exact congrArg (·+1) (fL c))) ?_;exact P1 e ⟨_,_,_,rfl,rfl,d,(M0 _),(fA c (show F2 (J0.R n) ([[.slice y k.length E]]:LV) [k] from⟨p,trivial⟩)),a⟩
  refine trV a (U3 _ _ G (i64.wrap (0-((f.length:Nat):Int))) (M0 _) (-1) oD) λaQ a=>?_;refine ifB a (λab a=>?_) λab a=>?_;·refine ld a (T1.mono d o) λaR au N a=>?_;obtain⟨ao,aw,rfl,aD⟩:=slL N;refine trM a (o09 _ _ _ _ _ N) ?_;rintro l a aN m ⟨z,aJ,F,rfl,P⟩;have i:Sub n m:=P.sub;have q:=P.r;obtain⟨rfl,aF⟩:=sL q;obtain⟨aM,X,a⟩:=B0 a;refine aI (G1 X (by first|rw[fL (F2.up (r:=J0.toRp) i c),fL (show F2 (J0.R m) ([[.slice z l.length F]]:LV) [l] from⟨q,trivial⟩)]|exact congrArg (·+1) (fL (F2.up (r:=J0.toRp) i c)))) ?_;exact P1 e ⟨_,_,_,rfl,rfl,(d.trans i),(M0 _),(fA (F2.up (r:=J0.toRp) i c) (show F2 (J0.R m) ([[.slice z l.length F]]:LV) [l] from⟨q,trivial⟩)),a⟩
  exact P1 e ⟨_,_,_,rfl,rfl,d,(M0 _),c,a⟩
 cases a;try dsimp only[S0,U0]at b
 refine Or.inl ?_;intro aO ae U;obtain⟨aq,ay,rfl,ai,ak,aH⟩:=Y0.out (r:=J0.toRp) U c;refine trM b (t06 _ _ _ _ _ ai) ?_;rintro aS b aP af ⟨ap,aK,ax,rfl,Q⟩;have aj:Sub ae af:=Q.sub;have O:=Q.r;obtain⟨rfl,aG⟩:=sL O;cases b;exact⟨_,_,_,rfl,O,((d.trans ak).trans aj)⟩
def f0g(h:Hp)(p:Option Addr)(z u:Nat)(A:I0)(C:J0.R h [.slice p z u] A)(r:I0×I0)(b:B02 A=some r): Tr Tryz.prog 122 #[.slice p z u] h λv h'=>∃(n:Option Addr) (x s:Nat) (o:Option Addr) (y t:Nat),v = .tuple #[.slice n x s,.slice o y t]/\J0.R h' [.slice n x s] r.1/\J0.R h' [.slice o y t] r.2/\Sub h h':=by
 obtain⟨rfl,bc⟩:=sL C;unfold B02 at b;refine wk Tryz.f122 ?_;refine trM b (E02 _ _ _ _ _ C) ?_;rintro I b bx w ⟨aF,bl,aP,rfl,F⟩;have az:Sub h w:=F.sub;have f:=F.r;obtain⟨rfl,ah⟩:=sL f;obtain⟨m,ac,b⟩:=B0 b;refine eX { vars:=[5,6] } (eX (λvs os h'=>∃ g i,vs.tail = [iV g,iV i]/\os = []/\Sub w h'/\H0 g/\H0 i/\J7 I (E1 vs) g i=some m) (eX (λ_ _=>0) (aI (eX P0 ⟨_,_,rfl,rfl,sr,oD,(L0l ah),ac⟩) ?_)));rintro _ _ j bb ⟨g,i,⟨⟩,⟨⟩,e,aZ,a0,d⟩;replace d:J7 I j g i=some m:=d;obtain _|j:=j;·cases d
 rw[J7.eq_2]at d;refine w1 ?_;refine ldG d (J0.mono e f) λbB af d=>?_;refine ldG d (J0.mono e f) λbz ae d=>?_;refine trG d (λq=>s06 _ _ af _ ae) λbA d=>?_;refine ifB d (λad d=>?_) λad d=>?_;·exact P1 j ⟨_,_,rfl,rfl,e,(M0 _),(M0 _),d⟩
 cases d;try dsimp only[S0,U0]at b
 refine w4 ?_;obtain⟨aC,Y,b⟩:=B0 b;refine fS J0 aC ?_ ?_;·intro a1 aw;obtain⟨am,aA,U,W⟩:=Sl.cutI (r:=Wp.int.toRp) (J0.mono (e.trans aw) f) Y;refine aI am (eX aA (aI U ?_));intro v k _;obtain⟨a,c,rfl,r⟩:=W v k;exact aI E6 (aI sr ⟨a,c,rfl,r,(sL r).2⟩)
 obtain⟨J,Z,b⟩:=B0 b;refine fS J0 J ?_ ?_;·intro a2 bs;rintro _ ⟨aG,aQ,rfl,ao,bd⟩;refine Tr.mono (C01 _ _ _ _ _ ao _ Z) ?_;rintro _ ag ⟨L,bm,P,rfl,G⟩;have l:=G.sub;have D:=G.r;obtain⟨rfl,ai⟩:=sL D;exact aI E6 (aI l ⟨(some ⟨L,0,none⟩),P,rfl,D,ai⟩)
 obtain⟨aD,aa,b⟩:=B0 b;refine fS J0 aD ?_ ?_;·intro a3 ax;obtain⟨an,aB,V,X⟩:=Sl.cutI (r:=Wp.int.toRp) (J0.mono (e.trans ax) f) aa;refine aI an (eX aB (aI V ?_));intro v k _;obtain⟨a,c,rfl,r⟩:=X v k;exact aI E6 (aI sr ⟨a,c,rfl,r,(sL r).2⟩)
 obtain⟨K,ab,b⟩:=B0 b;refine fS J0 K ?_ ?_;·intro a4 bt;rintro _ ⟨aH,aR,rfl,ap,be⟩;refine Tr.mono (C01 _ _ _ _ _ ap _ ab) ?_;rintro _ ag ⟨M,bn,Q,rfl,H⟩;have l:=H.sub;have E:=H.r;obtain⟨rfl,aj⟩:=sL E;exact aI E6 (aI l ⟨(some ⟨M,0,none⟩),Q,rfl,E,aj⟩)
 refine fS J0 J ?_ ?_;·intro a5 bu;rintro _ ⟨N,S,rfl,aq,ak⟩;exact aI E6 (aI sr ⟨N,S,rfl,aq,ak⟩)
 refine fS J0 K ?_ ?_;·intro a6 bv;rintro _ ⟨O,T,rfl,ar,al⟩;exact aI E6 (aI sr ⟨O,T,rfl,ar,al⟩)
 intro ba ay;rintro _ ⟨aJ,aS,rfl,au,bf⟩;rintro _ ⟨aK,aU,rfl,av,bg⟩;rintro _ ⟨aL,aV,rfl,bo,bh⟩;rintro _ ⟨aM,aW,rfl,bp,bi⟩;rintro _ ⟨aN,aX,rfl,bq,bj⟩;rintro _ ⟨aO,aY,rfl,br,bk⟩;cases b;exact⟨_,_,_,_,_,_,rfl,av,au,((az.trans e).trans ay)⟩
end Go.Proofs.YthakcafglempaaaGreat
