/- Texts of the claim, joined: The walks of batch 9 and others. -/
import Derived.Test.YthkpbcnhdhfifaaGreatH53
import Derived.Test.YthkpbcnhdhfifaaGreatPart24
import Derived.Test.YthkpbcnhdhfifaaGreatPart22
import Derived.Test.YthkpbcnhdhfifaaGreatChecked
import Derived.Test.YthkpbcnhdhfifaaGreatH35
import Derived.Test.YthkpbcnhdhfifaaGreatPart37
import Derived.Test.YthkpbcnhdhfifaaGreatSI
import Derived.Test.YthkpbcnhdhfifaaGreatPart27
import Derived.Test.YthkpbcnhdhfifaaGreatH41
import Derived.Test.YthkpbcnhdhfifaaGreatPart23
import Derived.Test.YthkpbcnhdhfifaaGreatPart21
import Derived.Test.YthkpbcnhdhfifaaGreatH36
namespace Go.Proofs.YthkpbcnhdhfifaaGreat
set_option linter.all false
open Go.H
open IntKind (i64)
set_option maxRecDepth 10000
def G05(h:Hp)(x:Option Addr)(G z:Nat)(l:J0)(i:K0.R h [.slice x G z] l)(b:Int)(g:I0 b)(r:J0)(f:g01 l b=some r): Tr Tryz.prog 204 #[.slice x G z,iV b] h λv h'=>∃(w:Option Addr) (F y:Nat),v = .slice w F y/\K0.R h' [.slice w F y] r/\Sub h h':=by
 obtain⟨rfl,al⟩:=sL i;unfold g01 at f;refine wk Tryz.f204 ?_;obtain⟨u,Q,f⟩:=D0 f;refine eX { vars:=[6,7],owns:=[0] } (eX (λvs os h'=>∃ m k t n,vs.tail = [.bool m,iV k]/\os = [t]/\Sub h h'/\I0 k/\F2 (Wp.int.R h') t n/\K5 l b (P1 vs) m k n=some u) (eX (λ_ _=>0) (aI (eX U0 ⟨_,_,_,_,rfl,rfl,sr,oD,(show F2 (Wp.int.R h) ([]:LV) ([]:J0) from trivial),Q⟩) ?_)));rintro _ _ t j d ⟨m,k,aC,n,⟨⟩,⟨⟩,e,af,c,a⟩;replace a:K5 l b j m k n=some u:=a;obtain _|j:=j;·cases a
 rw[K5.eq_2]at a;refine ifB a (λV a=>?_) λV a=>?_
 ·refine ldI a (K0.mono e i) λaB ai a=>?_;refine ifB a (λW a=>?_) λW a=>?_
  ·refine ldI a (K0.mono e i) λaz ag a=>?_;refine ifB a (λS a=>?_) λS a=>?_;·obtain⟨ao,J,a⟩:=D0 a;refine aI (N1 J (by first|rw[fL c,fL (show F2 (Wp.int.R d) ([[iV b]]:LV) [b] from⟨⟨rfl,g⟩,trivial⟩)]|exact congrArg (·+1) (fL c))) ?_;refine ldI a (K0.mono e i) λo A a=>?_;obtain⟨ap,K,a⟩:=D0 a;refine aI (N1 K (by first|rw[fL (fA c (show F2 (Wp.int.R d) ([[iV b]]:LV) [b] from⟨⟨rfl,g⟩,trivial⟩)),fL (show F2 (Wp.int.R d) ([[iV o]]:LV) [o] from⟨⟨rfl,A⟩,trivial⟩)]|exact congrArg (·+1) (fL (fA c (show F2 (Wp.int.R d) ([[iV b]]:LV) [b] from⟨⟨rfl,g⟩,trivial⟩))))) ?_;exact C2 j ⟨_,_,_,_,rfl,rfl,e,(O0 _),(fA (fA c (show F2 (Wp.int.R d) ([[iV b]]:LV) [b] from⟨⟨rfl,g⟩,trivial⟩)) (show F2 (Wp.int.R d) ([[iV o]]:LV) [o] from⟨⟨rfl,A⟩,trivial⟩)),a⟩
   refine ldI a (K0.mono e i) λp C a=>?_;obtain⟨aq,L,a⟩:=D0 a;refine aI (N1 L (by first|rw[fL c,fL (show F2 (Wp.int.R d) ([[iV p]]:LV) [p] from⟨⟨rfl,C⟩,trivial⟩)]|exact congrArg (·+1) (fL c))) ?_;exact C2 j ⟨_,_,_,_,rfl,rfl,e,(O0 _),(fA c (show F2 (Wp.int.R d) ([[iV p]]:LV) [p] from⟨⟨rfl,C⟩,trivial⟩)),a⟩
  refine ldI a (K0.mono e i) λaA ah a=>?_;refine ifB a (λT a=>?_) λT a=>?_;·obtain⟨ar,M,a⟩:=D0 a;refine aI (N1 M (by first|rw[fL c,fL (show F2 (Wp.int.R d) ([[iV b]]:LV) [b] from⟨⟨rfl,g⟩,trivial⟩)]|exact congrArg (·+1) (fL c))) ?_;refine ldI a (K0.mono e i) λq D a=>?_;obtain⟨au,N,a⟩:=D0 a;refine aI (N1 N (by first|rw[fL (fA c (show F2 (Wp.int.R d) ([[iV b]]:LV) [b] from⟨⟨rfl,g⟩,trivial⟩)),fL (show F2 (Wp.int.R d) ([[iV q]]:LV) [q] from⟨⟨rfl,D⟩,trivial⟩)]|exact congrArg (·+1) (fL (fA c (show F2 (Wp.int.R d) ([[iV b]]:LV) [b] from⟨⟨rfl,g⟩,trivial⟩))))) ?_;exact C2 j ⟨_,_,_,_,rfl,rfl,e,(O0 _),(fA (fA c (show F2 (Wp.int.R d) ([[iV b]]:LV) [b] from⟨⟨rfl,g⟩,trivial⟩)) (show F2 (Wp.int.R d) ([[iV q]]:LV) [q] from⟨⟨rfl,D⟩,trivial⟩)),a⟩
  refine ldI a (K0.mono e i) λs E a=>?_;obtain⟨av,O,a⟩:=D0 a;refine aI (N1 O (by first|rw[fL c,fL (show F2 (Wp.int.R d) ([[iV s]]:LV) [s] from⟨⟨rfl,E⟩,trivial⟩)]|exact congrArg (·+1) (fL c))) ?_;exact C2 j ⟨_,_,_,_,rfl,rfl,e,(O0 _),(fA c (show F2 (Wp.int.R d) ([[iV s]]:LV) [s] from⟨⟨rfl,E⟩,trivial⟩)),a⟩
 cases a;try dsimp only[V0,Y0]at f
 refine ifB f (λU f=>?_) λU f=>?_;·obtain⟨aw,P,f⟩:=D0 f;refine aI (N1 P (by first|rw[fL c,fL (show F2 (Wp.int.R d) ([[iV b]]:LV) [b] from⟨⟨rfl,g⟩,trivial⟩)]|exact congrArg (·+1) (fL c))) ?_;intro ax aj H;obtain⟨ab,ad,rfl,X,Z,am⟩:=C1.out (r:=Wp.int.toRp) H (fA c (show F2 (Wp.int.R d) ([[iV b]]:LV) [b] from⟨⟨rfl,g⟩,trivial⟩));cases f;exact⟨_,_,_,rfl,X,(e.trans Z)⟩
 intro ay ak I;obtain⟨ac,ae,rfl,Y,aa,an⟩:=C1.out (r:=Wp.int.toRp) I c;cases f;exact⟨_,_,_,rfl,Y,(e.trans aa)⟩
def H05(h:Hp)(j:Option Addr)(l k:Nat)(f:J0)(m:K0.R h [.slice j l k] f)(c:Int)(q:I0 c)(r:Bool)(b:h01 f c=some r): Tr Tryz.prog 200 #[.slice j l k,iV c] h λv h'=>v = .bool r/\h'=h:=by
 obtain⟨rfl,w⟩:=sL m;unfold h01 at b;refine wkF Tryz.f200 ?_;obtain⟨i,n,b⟩:=D0 b;refine eX { vars:=[5] } (eX (λvs os h'=>∃ d,vs.tail = [iV d]/\os = []/\Sub h h'/\I0 d/\u01 f c (P1 vs) d=some i) (eX (λ_ _=>0) (aI (eX U0 ⟨_,rfl,rfl,sr,oD,n⟩) ?_)));rintro _ e u ⟨d,⟨⟩,⟨⟩,g,s,a⟩;replace a:u01 f c e d=some i:=a;obtain _|e:=e;·cases a
 rw[u01.eq_2]at a;refine ifB a (λo a=>?_) λo a=>?_
 ·refine ldI a (K0.mono g m) λx t a=>?_;refine ifB a (λp a=>?_) λp a=>?_
  ·cases a;try dsimp only[Y2,N3]at b
   cases b;exact aI rfl g
  exact C2 e ⟨_,rfl,rfl,g,(O0 _),a⟩
 cases a;try dsimp only[V0,Y0]at b
 cases b;exact aI rfl g
def m0i(h:Hp)(s:List Value)(w:B0)(K:I1.R h s w)(e:Int)(ad:I0 e)(f:Int)(ae:I0 f)(r:J0)(c:K03 w e f=some r): Tr Tryz.prog 187 #[.agg s.toArray,iV e,iV f] h λv h'=>∃(p:Option Addr) (u q:Nat),v = .slice p u q/\K0.R h' [.slice p u q] r/\Sub h h':=by
 obtain⟨ax,ay,S,W,x,rfl,rfl,ab,ac,L,am⟩:=opG K;unfold K03 at c;dsimp only at c;refine wk Tryz.f187 ?_;obtain⟨o,E,c⟩:=D0 c;refine eX { vars:=[7,8],pubs:=[7,10] } (eX (λvs os h'=>∃(k:Option Addr) (m l:Nat) (j:J0) (i:Int),vs.tail = [.slice k m l,iV i]/\os = []/\Sub h h'/\K0.R h' [.slice k m l] j/\I0 i/\Z4 x f e (P1 vs) j i=some o) (eX (λ_ _=>0) ?_));intro az aj f3;obtain⟨C,D,rfl,N,Q,ar⟩:=C1.out (r:=Wp.int.toRp) f3 (show F2 (Wp.int.R h) ([]:LV) ([]:J0) from trivial);refine aI (eX U0 ⟨C,(([]:J0)).length,D,([]:J0),0,rfl,rfl,Q,N,oD,E⟩) ?_;rintro _ _ b al ⟨k,m,l,j,i,⟨⟩,⟨⟩,d,g,af,a⟩;replace a:Z4 x f e b j i=some o:=a;obtain _|b:=b;·cases a
 rw[Z4.eq_2]at a;obtain⟨rfl,an⟩:=sL g;refine ifB a (λF a=>?_) λF a=>?_
 ·refine ld a (M0.mono d L) λaD X M a=>?_;obtain⟨aF,aG,aH,rfl,rfl,t,ag,J⟩:=D2 M;try dsimp only at a
  refine ifB a (λG a=>?_) λG a=>?_
  ·refine trM a (G05 _ _ _ _ _ g _ J) ?_;rintro aJ a aA ah ⟨T,au,Y,rfl,n,A⟩;obtain⟨rfl,ao⟩:=sL n;refine ifB a (λH a=>?_) λH a=>?_;·refine trM a (G05 _ _ _ _ _ n _ t) ?_;rintro aK a aB ai ⟨U,av,Z,rfl,y,O⟩;obtain⟨rfl,ap⟩:=sL y;exact C2 b ⟨_,_,_,_,_,rfl,rfl,((d.trans A).trans O),y,(O0 _),a⟩
   exact C2 b ⟨_,_,_,_,_,rfl,rfl,(d.trans A),n,(O0 _),a⟩
  refine ifB a (λI a=>?_) λI a=>?_;·refine trM a (G05 _ _ _ _ _ g _ t) ?_;rintro aL a aC ak ⟨V,aw,aa,rfl,z,P⟩;obtain⟨rfl,aq⟩:=sL z;exact C2 b ⟨_,_,_,_,_,rfl,rfl,(d.trans P),z,(O0 _),a⟩
  exact C2 b ⟨_,_,_,_,_,rfl,rfl,d,g,(O0 _),a⟩
 cases a;try dsimp only[V0,Y0]at c
 cases c;exact⟨_,_,_,rfl,g,d⟩
def d7(h:Hp)(d:List Value)(e:B0)(n:I1.R h d e)(b:Int)(l:I0 b)(c:Int)(m:I0 c)(r:Int)(a:j4 e b c=some r): Tr Tryz.prog 153 #[.agg d.toArray,iV b,iV c] h λv h'=>v=iV r/\h'=h:=by
 obtain⟨A,C,p,s,D,rfl,rfl,j,k,o,x⟩:=opG n;unfold j4 at a;dsimp only at a;refine wkF Tryz.f153 ?_;refine trM a (m0i _ _ _ (C0 j k o) _ l _ m) ?_;rintro F a E w ⟨q,z,t,rfl,f,g⟩;obtain⟨rfl,y⟩:=sL f;refine ifB a (λi a=>?_) λi a=>?_;·cases a;exact aI rfl g
 refine ldI a f λG u a=>?_;cases a;exact aI rfl g
def P7(h:Hp)(n:List Value)(s:B0)(D:I1.R h n s)(r:Bool)(c:P4 s=some r): Tr Tryz.prog 152 #[.agg n.toArray] h λv h'=>v = .bool r/\h'=h:=by
 obtain⟨t,u,G,H,j,rfl,rfl,o,p,k,U⟩:=opG D;unfold P4 at c;dsimp only at c;refine wkF Tryz.f152 ?_;obtain⟨l,w,c⟩:=D0 c;refine eX { vars:=[3] } (eX (λvs os h'=>∃ e,vs.tail = [iV e]/\os = []/\Sub h h'/\I0 e/\S6 j t u (P1 vs) e=some l) (eX (λ_ _=>0) (aI (eX U0 ⟨_,rfl,rfl,sr,oD,w⟩) ?_)));rintro _ i C ⟨e,⟨⟩,⟨⟩,d,K,b⟩;replace b:S6 j t u i e=some l:=b;obtain _|i:=i;·cases b
 rw[S6.eq_2]at b;refine trG b (λq=>H8 _ _ _ (C0 o p (M0.mono d k))) λae b=>?_;refine ifB b (λA b=>?_) λA b=>?_
 ·obtain⟨m,x,b⟩:=D0 b;refine eX { vars:=[4] } (eX (λvs os h'=>∃ u8,vs.tail = [iV u8]/\os = []/\Sub C h'/\I0 u8/\i9 e j (P1 vs) u8=some m) (eX (λ_ _=>0) (aI (eX U0 ⟨_,rfl,rfl,sr,oD,x⟩) ?_)));rintro _ g T ⟨u8,⟨⟩,⟨⟩,f,L,a⟩;replace a:i9 e j g u8=some m:=a;obtain _|g:=g;·cases a
  rw[i9.eq_2]at a;refine ifB a (λy a=>?_) λy a=>?_
  ·refine ld a (M0.mono (d.trans f) k) λV I E a=>?_;obtain⟨W,X,Y,rfl,rfl,M,N,O⟩:=D2 E;try dsimp only at a
   refine ld a (M0.mono (d.trans f) k) λZ J F a=>?_;obtain⟨aa,ab,ac,rfl,rfl,P,Q,S⟩:=D2 F;try dsimp only at a
   refine ifB a (λz a=>?_) λz a=>?_
   ·cases a;try dsimp only[Y2,N3]at b
    cases b;try dsimp only[Y2,N3]at c
    cases c;exact aI rfl (d.trans f)
   exact C2 g ⟨_,rfl,rfl,f,(O0 _),a⟩
  cases a;try dsimp only[V0,Y0]at b
  exact C2 i ⟨_,rfl,rfl,(d.trans f),(O0 _),b⟩
 cases b;try dsimp only[V0,Y0]at c
 refine trV c (H8 _ _ _ (C0 o p (M0.mono d k))) λad c=>?_;cases c;exact aI rfl d
def k08(h:Hp)(n:List Value)(u:B0)(L:I1.R h n u)(j:Int)(s:I0 j)(l:Option Addr)(t m:Nat)(g:J0)(z:K0.R h [.slice l t m] g)(r:Int×Bool)(b:X01 u j g=some r): Tr Tryz.prog 81 #[.agg n.toArray,iV j,.slice l t m] h λv h'=>v = .tuple #[iV r.1,.bool r.2]/\h'=h:=by
 obtain⟨w,i,M,N,x,rfl,rfl,o,p,y,Q⟩:=opG L;obtain⟨rfl,S⟩:=sL z;unfold X01 at b;dsimp only at b;refine wkF Tryz.f81 ?_;refine trV b (P7 _ _ _ (C0 o p y)) λU b=>?_;refine trG b (λq=>p5 _ _ s 0 oD (i64.wrap (i-1)) (O0 _)) λW b=>?_;refine ifB b (λG b=>?_) λG b=>?_;·cases b;exact aI rfl sr
 obtain⟨k,E,b⟩:=D0 b;refine eX { vars:=[1,8] } (eX (λvs os h'=>∃ d e,vs.tail = [iV d,iV e]/\os = []/\Sub h h'/\I0 d/\I0 e/\j9 g w i x (P1 vs) d e=some k) (eX (λ_ _=>0) (aI (eX U0 ⟨_,_,rfl,rfl,sr,s,oD,E⟩) ?_)));rintro _ _ f P ⟨d,e,⟨⟩,⟨⟩,c,I,O,a⟩;replace a:j9 g w i x f d e=some k:=a;obtain _|f:=f;·cases a
 rw[j9.eq_2]at a;refine ifB a (λH a=>?_) λH a=>?_
 ·refine w1 ?_;refine ldI a (K0.mono c z) λV J a=>?_;obtain⟨A,D,a⟩:=D0 a;refine eX (iV A) (aI (d7 _ _ _ (C0 o p (M0.mono c y)) _ I _ J _  D) ?_);obtain⟨T,C,a⟩:=D0 a;have K:I0 A:=N0 C;refine ifB a (λF a=>?_) λF a=>?_
  ·cases a;try dsimp only[Y2,N3]at b
   cases b;exact aI rfl c
  exact C2 f ⟨_,_,rfl,rfl,c,K,(O0 _),a⟩
 cases a;try dsimp only[V0,Y0]at b
 cases b;exact aI rfl c
def n0i(h:Hp)(s:List Value)(z:B0)(M:I1.R h s z)(e:Int)(Z:I0 e)(f:Int)(aa:I0 f)(r:J0)(c:L03 z e f=some r): Tr Tryz.prog 169 #[.agg s.toArray,iV e,iV f] h λv h'=>∃(p:Option Addr) (y q:Nat),v = .slice p y q/\New K0 h h' [.slice p y q] r:=by
 obtain⟨aj,ak,P,T,A,rfl,rfl,X,Y,N,ag⟩:=opG M;unfold L03 at c;dsimp only at c;refine wk Tryz.f169 ?_;obtain⟨o,I,c⟩:=D0 c;refine eX { vars:=[14],owns:=[0] } (eX (λvs os h'=>∃ i n k,vs.tail = [iV i]/\os = [n]/\Sub h h'/\I0 i/\F2 (Wp.int.R h') n k/\j6 A f e (P1 vs) i k=some o) (eX (λ_ _=>0) (aI (eX U0 ⟨_,_,_,rfl,rfl,sr,oD,(show F2 (Wp.int.R h) ([]:LV) ([]:J0) from trivial),I⟩) ?_)));rintro _ n d j ⟨i,az,k,⟨⟩,⟨⟩,g,ab,b,a⟩;replace a:j6 A f e d i k=some o:=a;obtain _|d:=d;·cases a
 rw[j6.eq_2]at a;refine ifB a (λK a=>?_) λK a=>?_
 ·refine ld a (M0.mono g N) λax U O a=>?_;obtain⟨l,ay,m,rfl,rfl,w,ac,x⟩:=D2 O;try dsimp only at a
  refine ifB a (λL a=>?_) λL a=>?_;·obtain⟨an,H,a⟩:=D0 a;refine aI (N1 H (by first|rw[fL b,fL (show F2 (Wp.int.R j) ([[iV m]]:LV) [m] from⟨⟨rfl,x⟩,trivial⟩)]|exact congrArg (·+1) (fL b))) ?_;exact C2 d ⟨_,_,_,rfl,rfl,g,(O0 _),(fA b (show F2 (Wp.int.R j) ([[iV m]]:LV) [m] from⟨⟨rfl,x⟩,trivial⟩)),a⟩
  refine ifB a (λJ a=>?_) λJ a=>?_;·obtain⟨al,F,a⟩:=D0 a;refine aI (N1 F (by first|rw[fL b,fL (show F2 (Wp.int.R j) ([[iV l]]:LV) [l] from⟨⟨rfl,w⟩,trivial⟩)]|exact congrArg (·+1) (fL b))) ?_;exact C2 d ⟨_,_,_,rfl,rfl,g,(O0 _),(fA b (show F2 (Wp.int.R j) ([[iV l]]:LV) [l] from⟨⟨rfl,w⟩,trivial⟩)),a⟩
  exact C2 d ⟨_,_,_,rfl,rfl,g,(O0 _),b,a⟩
 cases a;try dsimp only[V0,Y0]at c
 refine Or.inl ?_;intro au ad E;obtain⟨am,G,c⟩:=D0 c;refine Tr.mono (v0t _ E b (N0 G)) ?_;rintro _ ae ⟨rfl,av,t,C⟩;obtain⟨Q,V,rfl,ao,aq,ah⟩:=C1.out (r:=Wp.int.toRp) t C;refine Tr.mono (w0t _ t C) ?_;rintro _ af ⟨aw,u,D⟩;obtain⟨S,W,rfl,ap,ar,ai⟩:=C1.out (r:=Wp.int.toRp) u D;cases c;exact⟨_,_,_,rfl,(New.from (C1.newPlain (r:=Wp.int) u D (M05 _)) g)⟩
def z9(h:Hp)(d:List Value)(e:B0)(p:I1.R h d e)(b:Int)(m:I0 b)(c:Int)(n:I0 c)(r:Int)(a:W4 e b c=some r): Tr Tryz.prog 121 #[.agg d.toArray,iV b,iV c] h λv h'=>v=iV r/\h'=h:=by
 obtain⟨C,D,s,u,E,rfl,rfl,k,l,q,y⟩:=opG p;unfold W4 at a;dsimp only at a;refine wkF Tryz.f121 ?_;refine trM a (n0i _ _ _ (C0 k l q) _ m _ n) ?_;rintro G a F o ⟨t,A,w,rfl,i⟩;have g:Sub h o:=i.sub;have f:=i.r;obtain⟨rfl,z⟩:=sL f;refine ifB a (λj a=>?_) λj a=>?_;·cases a;exact aI rfl g
 refine ldI a f λH x a=>?_;cases a;exact aI rfl g
def c02(h:Hp)(n:List Value)(o:B0)(M:I1.R h n o)(r:Bool)(c:O7 o=some r): Tr Tryz.prog 137 #[.agg n.toArray] h λv h'=>v = .bool r/\h'=h:=by
 obtain⟨aj,ak,S,U,p,rfl,rfl,I,J,k,ah⟩:=opG M;unfold O7 at c;dsimp only at c;refine wkF Tryz.f137 ?_;refine trV c (I01 _ _ _ (C0 I J k)) λal c=>?_;refine ifB c (λF c=>?_) λF c=>?_;·cases c;exact aI rfl sr
 obtain⟨m,C,c⟩:=D0 c;refine eX { vars:=[13] } (eX (λvs os h'=>∃ f,vs.tail = [iV f]/\os = []/\Sub h h'/\I0 f/\n9 p (P1 vs) f=some m) (eX (λ_ _=>0) (aI (eX U0 ⟨_,rfl,rfl,sr,oD,C⟩) ?_)));rintro _ i K ⟨f,⟨⟩,⟨⟩,d,Z,a⟩;replace a:n9 p i f=some m:=a;obtain _|i:=i;·cases a
 rw[n9.eq_2]at a;refine ifB a (λG a=>?_) λG a=>?_
 ·refine ld a (M0.mono d k) λaq W O a=>?_;obtain⟨s,t,u,rfl,rfl,ad,ae,af⟩:=D2 O;try dsimp only at a
  obtain⟨w,z,a⟩:=D0 a;obtain⟨L,P,x,y⟩:=Sl.cutI (r:=E1.toRp) (M0.mono d k) z;refine aI L (eX P (aI x ?_));intro Q H _;obtain⟨T,X,rfl,q⟩:=y Q H;have ai:=(sL q).2;obtain⟨l,A,a⟩:=D0 a;refine eX { vars:=[24] } (eX (λvs os h'=>∃ e,vs.tail = [iV e]/\os = []/\Sub K h'/\I0 e/\l9 w t s u (P1 vs) e=some l) (eX (λ_ _=>0) (aI (eX U0 ⟨_,rfl,rfl,sr,oD,A⟩) ?_)));rintro _ g ag ⟨e,⟨⟩,⟨⟩,j,Y,b⟩;replace b:l9 w t s u g e=some l:=b;obtain _|g:=g;·cases b
  rw[l9.eq_2]at b;refine ifB b (λD b=>?_) λD b=>?_
  ·refine ld b (M0.mono j q) λam V N b=>?_;obtain⟨an,ao,ap,rfl,rfl,aa,ab,ac⟩:=D2 N;try dsimp only at b
   refine ifB b (λE b=>?_) λE b=>?_
   ·cases b;try dsimp only[Y2,N3]at a
    cases a;try dsimp only[Y2,N3]at c
    cases c;exact aI rfl (d.trans j)
   exact C2 g ⟨_,rfl,rfl,j,(O0 _),b⟩
  cases b;try dsimp only[V0,Y0]at a
  exact C2 i ⟨_,rfl,rfl,(d.trans j),(O0 _),a⟩
 cases a;try dsimp only[V0,Y0]at c
 cases c;exact aI rfl d
def U09(h:Hp)(m:List Value)(o:B0)(G:I1.R h m o)(i:Int)(C:I0 i)(k:Option Addr)(n l:Nat)(g:J0)(t:K0.R h [.slice k n l] g)(r:Int×Int)(b:K01 o i g=some r): Tr Tryz.prog 172 #[.agg m.toArray,iV i,.slice k n l] h λv h'=>v = .tuple #[iV r.1,iV r.2]/\h'=h:=by
 obtain⟨p,q,J,K,s,rfl,rfl,z,A,H,N⟩:=opG G;obtain⟨rfl,O⟩:=sL t;unfold K01 at b;dsimp only at b;refine wkF Tryz.f172 ?_;obtain⟨j,w,b⟩:=D0 b;refine eX { vars:=[1,13] } (eX (λvs os h'=>∃ d e,vs.tail = [iV d,iV e]/\os = []/\Sub h h'/\I0 d/\I0 e/\W7 g p q s (P1 vs) d e=some j) (eX (λ_ _=>0) (aI (eX U0 ⟨_,_,rfl,rfl,sr,C,oD,w⟩) ?_)));rintro _ _ f M ⟨d,e,⟨⟩,⟨⟩,c,D,L,a⟩;replace a:W7 g p q s f d e=some j:=a;obtain _|f:=f;·cases a
 rw[W7.eq_2]at a;refine ifB a (λy a=>?_) λy a=>?_
 ·refine ldI a (K0.mono c t) λQ E a=>?_;refine trV a (z9 _ _ _ (C0 z A (M0.mono c H)) _ D _ E) λI a=>?_;obtain⟨P,u,a⟩:=D0 a;have F:I0 I:=N0 u;refine ifB a (λx a=>?_) λx a=>?_
  ·cases a;try dsimp only[Y2,N3]at b
   cases b;exact aI rfl c
  exact C2 f ⟨_,_,rfl,rfl,c,F,(O0 _),a⟩
 cases a;try dsimp only[V0,Y0]at b
 cases b;exact aI rfl c
def F5(h:Hp)(d:List Value)(f:B0)(l:I1.R h d f)(r:B0)(a:W3 f=some r): Tr Tryz.prog 85 #[.agg d.toArray] h λv h'=>∃(c:List Value),v = .agg c.toArray/\New I1 h h' c r:=by obtain⟨x,y,o,q,z,rfl,rfl,j,k,m,u⟩:=opG l;unfold W3 at a;dsimp only at a;refine wk Tryz.f85 ?_;refine w3 ?_;refine aI ?_ trivial;refine aI (by first|exact trivial|exact rfl) ?_;refine aI ?_ trivial;obtain⟨n,g,b⟩:=Sl.rows (r:=E1.toRp) m;refine eX n (aI g ?_);obtain⟨A,i,a⟩:=D0 a;refine aI (N1 i (by first|rw[fL (show F2 (E1.R h) ([]:LV) ([]:T0) from trivial),fL b]|exact congrArg (·+1) (fL (show F2 (E1.R h) ([]:LV) ([]:T0) from trivial)))) ?_;refine aI (by first|exact trivial|exact rfl) ?_;refine aI ?_ trivial;refine aI (by first|exact trivial|exact rfl) ?_;refine aI ?_ trivial;refine aI (by first|exact trivial|exact rfl) ?_;intro E t e;obtain⟨p,s,rfl,C,D,w⟩:=C1.out (r:=E1.toRp) e (fA (show F2 (E1.R h) ([]:LV) ([]:T0) from trivial) b);cases a;exact⟨_,rfl,(nP (nI j) (nP (nI k) (C1.newPlain (r:=E1) e (fA (show F2 (E1.R h) ([]:LV) ([]:T0) from trivial) b) (u09 _))))⟩
def o02(h:Hp)(K:Option Addr)(ae M:Nat)(p:T0)(n:M0.R h [.slice K ae M] p)(N:List Value)(af:Q0)(aB:E1.R h N af)(r:T0)(g:L8 p af=some r): Tr Tryz.prog 156 #[.slice K ae M,.agg N.toArray] h λv h'=>∃(J:Option Addr) (ad L:Nat),v = .slice J ad L/\New M0 h h' [.slice J ad L] r:=by
 obtain⟨rfl,aX⟩:=sL n;obtain⟨b,c,d,rfl,rfl,i,j,k⟩:=D2 aB;unfold L8 at g;dsimp only at g;refine wk Tryz.f156 ?_;obtain⟨I,aq,g⟩:=D0 g;refine eX { vars:=[6,7],owns:=[0] } (eX (λvs os h'=>∃ q o H s,vs.tail = [.bool q,iV o]/\os = [H]/\Sub h h'/\I0 o/\F2 (E1.R h') H s/\L5 p b c d (P1 vs) q o s=some I) (eX (λ_ _=>0) (aI (eX U0 ⟨_,_,_,_,rfl,rfl,sr,oD,(show F2 (E1.R h) ([]:LV) ([]:T0) from trivial),aq⟩) ?_)));rintro _ _ H m f ⟨q,o,bn,s,⟨⟩,⟨⟩,l,aS,e,a⟩;replace a:L5 p b c d m q o s=some I:=a;obtain _|m:=m;·cases a
 rw[L5.eq_2]at a;refine ifB a (λax a=>?_) λax a=>?_
 ·refine w1 ?_;refine ld a (M0.mono l n) λbj aP aH a=>?_;obtain⟨bk,bl,bm,rfl,rfl,ay,az,aA⟩:=D2 aH;try dsimp only at a
  obtain⟨ag,ap,a⟩:=D0 a;refine eX (iV ag) (aI (x08 _ _ _ (Z1 i j k) _ _ (Z1 ay az aA) _  ap) ?_);obtain⟨a0,ah,a⟩:=D0 a;have aU:I0 ag:=N0 ah;refine ifB a (λar a=>?_) λar a=>?_
  ·refine ifB a (λau a=>?_) λau a=>?_
   ·obtain⟨a1,ai,a⟩:=D0 a;refine aI (N1 ai (by first|rw[fL e,fL (show F2 (E1.R f) ([[iV b,iV c,iV d]]:LV) [(b,c,d)] from⟨(Z1 i j k),trivial⟩)]|exact congrArg (·+1) (fL e))) ?_;refine ld a (M0.mono l n) λbf aL aC a=>?_;obtain⟨t,u,w,rfl,rfl,Q,S,T⟩:=D2 aC;try dsimp only at a
    obtain⟨a2,aj,a⟩:=D0 a;refine aI (N1 aj (by first|rw[fL (fA e (show F2 (E1.R f) ([[iV b,iV c,iV d]]:LV) [(b,c,d)] from⟨(Z1 i j k),trivial⟩)),fL (show F2 (E1.R f) ([[iV t,iV u,iV w]]:LV) [(t,u,w)] from⟨(Z1 Q S T),trivial⟩)]|exact congrArg (·+1) (fL (fA e (show F2 (E1.R f) ([[iV b,iV c,iV d]]:LV) [(b,c,d)] from⟨(Z1 i j k),trivial⟩))))) ?_;exact C2 m ⟨_,_,_,_,rfl,rfl,l,(O0 _),(fA (fA e (show F2 (E1.R f) ([[iV b,iV c,iV d]]:LV) [(b,c,d)] from⟨(Z1 i j k),trivial⟩)) (show F2 (E1.R f) ([[iV t,iV u,iV w]]:LV) [(t,u,w)] from⟨(Z1 Q S T),trivial⟩)),a⟩
   refine ld a (M0.mono l n) λbg aM aD a=>?_;obtain⟨x,y,z,rfl,rfl,U,V,W⟩:=D2 aD;try dsimp only at a
   obtain⟨a3,ak,a⟩:=D0 a;refine aI (N1 ak (by first|rw[fL e,fL (show F2 (E1.R f) ([[iV x,iV y,iV z]]:LV) [(x,y,z)] from⟨(Z1 U V W),trivial⟩)]|exact congrArg (·+1) (fL e))) ?_;exact C2 m ⟨_,_,_,_,rfl,rfl,l,(O0 _),(fA e (show F2 (E1.R f) ([[iV x,iV y,iV z]]:LV) [(x,y,z)] from⟨(Z1 U V W),trivial⟩)),a⟩
  refine ifB a (λav a=>?_) λav a=>?_
  ·obtain⟨a4,al,a⟩:=D0 a;refine aI (N1 al (by first|rw[fL e,fL (show F2 (E1.R f) ([[iV b,iV c,iV d]]:LV) [(b,c,d)] from⟨(Z1 i j k),trivial⟩)]|exact congrArg (·+1) (fL e))) ?_;refine ld a (M0.mono l n) λbh aN aF a=>?_;obtain⟨A,C,D,rfl,rfl,X,Y,Z⟩:=D2 aF;try dsimp only at a
   obtain⟨a5,am,a⟩:=D0 a;refine aI (N1 am (by first|rw[fL (fA e (show F2 (E1.R f) ([[iV b,iV c,iV d]]:LV) [(b,c,d)] from⟨(Z1 i j k),trivial⟩)),fL (show F2 (E1.R f) ([[iV A,iV C,iV D]]:LV) [(A,C,D)] from⟨(Z1 X Y Z),trivial⟩)]|exact congrArg (·+1) (fL (fA e (show F2 (E1.R f) ([[iV b,iV c,iV d]]:LV) [(b,c,d)] from⟨(Z1 i j k),trivial⟩))))) ?_;exact C2 m ⟨_,_,_,_,rfl,rfl,l,(O0 _),(fA (fA e (show F2 (E1.R f) ([[iV b,iV c,iV d]]:LV) [(b,c,d)] from⟨(Z1 i j k),trivial⟩)) (show F2 (E1.R f) ([[iV A,iV C,iV D]]:LV) [(A,C,D)] from⟨(Z1 X Y Z),trivial⟩)),a⟩
  refine ld a (M0.mono l n) λbi aO aG a=>?_;obtain⟨E,F,G,rfl,rfl,aa,ab,ac⟩:=D2 aG;try dsimp only at a
  obtain⟨a6,an,a⟩:=D0 a;refine aI (N1 an (by first|rw[fL e,fL (show F2 (E1.R f) ([[iV E,iV F,iV G]]:LV) [(E,F,G)] from⟨(Z1 aa ab ac),trivial⟩)]|exact congrArg (·+1) (fL e))) ?_;exact C2 m ⟨_,_,_,_,rfl,rfl,l,(O0 _),(fA e (show F2 (E1.R f) ([[iV E,iV F,iV G]]:LV) [(E,F,G)] from⟨(Z1 aa ab ac),trivial⟩)),a⟩
 cases a;try dsimp only[V0,Y0]at g
 refine ifB g (λaw g=>?_) λaw g=>?_;·obtain⟨a7,ao,g⟩:=D0 g;refine aI (N1 ao (by first|rw[fL e,fL (show F2 (E1.R f) ([[iV b,iV c,iV d]]:LV) [(b,c,d)] from⟨(Z1 i j k),trivial⟩)]|exact congrArg (·+1) (fL e))) ?_;intro bd aV O;obtain⟨aJ,aQ,rfl,a8,bb,aY⟩:=C1.out (r:=E1.toRp) O (fA e (show F2 (E1.R f) ([[iV b,iV c,iV d]]:LV) [(b,c,d)] from⟨(Z1 i j k),trivial⟩));cases g;exact⟨_,_,_,rfl,(New.from (C1.newPlain (r:=E1) O (fA e (show F2 (E1.R f) ([[iV b,iV c,iV d]]:LV) [(b,c,d)] from⟨(Z1 i j k),trivial⟩)) (u09 _)) l)⟩
 intro be aW P;obtain⟨aK,aR,rfl,ba,bc,aZ⟩:=C1.out (r:=E1.toRp) P e;cases g;exact⟨_,_,_,rfl,(New.from (C1.newPlain (r:=E1) P e (u09 _)) l)⟩
def j0j(h:Hp)(k:List Value)(l:B0)(u:I1.R h k l)(e:Int)(H:I0 e)(r:Int)(d:a03 l e=some r): Tr Tryz.prog 199 #[.agg k.toArray,iV e] h λv h'=>v=iV r/\h'=h:=by
 obtain⟨V,W,z,A,m,rfl,rfl,F,G,i,U⟩:=opG u;unfold a03 at d;dsimp only at d;refine wkF Tryz.f199 ?_;obtain⟨j,n,d⟩:=D0 d;refine eX { vars:=[5,6] } (eX (λvs os h'=>∃ f g,vs.tail = [iV f,iV g]/\os = []/\Sub h h'/\I0 f/\I0 g/\I4 m e (P1 vs) f g=some j) (eX (λ_ _=>0) (aI (eX U0 ⟨_,_,rfl,rfl,sr,oD,oD,n⟩) ?_)));rintro _ _ c T ⟨f,g,⟨⟩,⟨⟩,b,t,I,a⟩;replace a:I4 m e c f g=some j:=a;obtain _|c:=c;·cases a
 rw[I4.eq_2]at a;refine ifB a (λq a=>?_) λq a=>?_
 ·refine ld a (M0.mono b i) λab D x a=>?_;obtain⟨ac,ad,ae,rfl,rfl,M,N,O⟩:=D2 x;try dsimp only at a
  refine ifB a (λs a=>?_) λs a=>?_
  ·refine ld a (M0.mono b i) λaf E y a=>?_;obtain⟨ag,ah,ai,rfl,rfl,P,Q,S⟩:=D2 y;try dsimp only at a
   refine ifB a (λo a=>?_) λo a=>?_;·exact C2 c ⟨_,_,rfl,rfl,b,(O0 _),(O0 _),a⟩
   exact C2 c ⟨_,_,rfl,rfl,b,(O0 _),(O0 _),a⟩
  refine ld a (M0.mono b i) λX C w a=>?_;obtain⟨Y,Z,aa,rfl,rfl,J,K,L⟩:=D2 w;try dsimp only at a
  refine ifB a (λp a=>?_) λp a=>?_;·exact C2 c ⟨_,_,rfl,rfl,b,(O0 _),(O0 _),a⟩
  exact C2 c ⟨_,_,rfl,rfl,b,t,(O0 _),a⟩
 cases a;try dsimp only[V0,Y0]at d
 cases d;exact aI rfl b
def T02(h:Hp)(g:List Value)(j:B0)(s:I1.R h g j)(i:List Value)(l:B0)(u:I1.R h i l)(r:Bool)(b:C7 j l=some r): Tr Tryz.prog 18 #[.agg g.toArray,.agg i.toArray] h λv h'=>v = .bool r/\h'=h:=by
 obtain⟨ab,ac,G,I,k,rfl,rfl,M,N,t,Z⟩:=opG s;obtain⟨ad,ae,H,J,m,rfl,rfl,O,P,w,aa⟩:=opG u;unfold C7 at b;dsimp only at b;refine wkF Tryz.f18 ?_;refine ifB b (λo b=>?_) λo b=>?_;·cases b;exact aI rfl sr
 obtain⟨f,n,b⟩:=D0 b;refine eX { vars:=[5] } (eX (λvs os h'=>∃ d,vs.tail = [iV d]/\os = []/\Sub h h'/\I0 d/\n7 k m (P1 vs) d=some f) (eX (λ_ _=>0) (aI (eX U0 ⟨_,rfl,rfl,sr,oD,n⟩) ?_)));rintro _ e Y ⟨d,⟨⟩,⟨⟩,c,Q,a⟩;replace a:n7 k m e d=some f:=a;obtain _|e:=e;·cases a
 rw[n7.eq_2]at a;refine ifB a (λp a=>?_) λp a=>?_
 ·refine w1 ?_;refine ld a (M0.mono c t) λaf K x a=>?_;obtain⟨z,A,C,rfl,rfl,S,T,U⟩:=D2 x;try dsimp only at a
  refine ld a (M0.mono c w) λag L y a=>?_;obtain⟨D,E,F,rfl,rfl,V,W,X⟩:=D2 y;try dsimp only at a
  refine eX (!eqE (z,A,C) (D,E,F)) (aI (z0p _ _ _ rfl _ _ _ _ _ _) ?_);refine ifB a (λq a=>?_) λq a=>?_
  ·cases a;try dsimp only[Y2,N3]at b
   cases b;exact aI rfl c
  exact C2 e ⟨_,rfl,rfl,c,(O0 _),a⟩
 cases a;try dsimp only[V0,Y0]at b
 cases b;exact aI rfl c
def S0f(h:Hp)(H:List Value)(K:B0)(ag:I1.R h H K)(e:Int)(I:I0 e)(r:J0)(b:F02 K e=some r): Tr Tryz.prog 198 #[.agg H.toArray,iV e] h λv h'=>∃(F:Option Addr) (J G:Nat),v = .slice F J G/\K0.R h' [.slice F J G] r/\Sub h h':=by
 obtain⟨aY,af,ao,av,l,rfl,rfl,ac,ad,L,aM⟩:=opG ag;unfold F02 at b;dsimp only at b;refine wk Tryz.f198 ?_;refine trV b (H8 _ _ _ (C0 ac ad L)) λa4 b=>?_;refine trG b (λq=>p5 _ _ I 0 oD (i64.wrap (af-1)) (O0 _)) λa5 b=>?_;refine ifB b (λZ b=>?_) λZ b=>?_;·intro a2 aK T;obtain⟨au,aA,rfl,aj,an,aU⟩:=C1.out (r:=Wp.int.toRp) T (show F2 (Wp.int.R h) ([]:LV) ([]:J0) from trivial);cases b;exact⟨_,_,_,rfl,aj,an⟩
 obtain⟨D,U,b⟩:=D0 b;refine eX { vars:=[5,6],pubs:=[5,22] } (eX (λvs os h'=>∃(p:Option Addr) (y t:Nat) (n:J0) (i:Int),vs.tail = [.slice p y t,iV i]/\os = []/\Sub h h'/\K0.R h' [.slice p y t] n/\I0 i/\o7 l (P1 vs) n i=some D) (eX (λ_ _=>0) ?_));intro a3 aL S;obtain⟨P,Q,rfl,ai,am,aS⟩:=C1.out (r:=Wp.int.toRp) S (show F2 (Wp.int.R h) ([[iV e]]:LV) [e] from⟨⟨rfl,I⟩,trivial⟩);refine aI (eX U0 ⟨P,([e]).length,Q,[e],0,rfl,rfl,am,ai,oD,U⟩) ?_;rintro _ _ k ae ⟨p,y,t,n,i,⟨⟩,⟨⟩,C,A,aB,c⟩;replace c:o7 l k n i=some D:=c;obtain _|k:=k;·cases c
 rw[o7.eq_2]at c;obtain⟨rfl,aN⟩:=sL A;refine ifB c (λW c=>?_) λW c=>?_
 ·obtain⟨E,V,c⟩:=D0 c;refine eX { vars:=[5,7] } (eX (λvs os h'=>∃ s z u o j,vs.tail = [.slice s z u,iV j]/\os = []/\Sub ae h'/\K0.R h' [.slice s z u] o/\I0 j/\F4 l (P1 vs) o j=some E) (eX (λ_ _=>0) (aI (eX U0 ⟨_,_,_,_,_,rfl,rfl,sr,A,oD,V⟩) ?_)));rintro _ _ d aF ⟨s,z,u,o,j,⟨⟩,⟨⟩,g,f,aC,a⟩;replace a:F4 l d o j=some E:=a;obtain _|d:=d;·cases a
  rw[F4.eq_2]at a;obtain⟨rfl,aO⟩:=sL f;refine ifB a (λX a=>?_) λX a=>?_
  ·refine ld a (M0.mono (C.trans g) L) λa6 aw ah a=>?_;obtain⟨a7,a8,ba,rfl,rfl,w,aD,x⟩:=D2 ah;try dsimp only at a
   refine trV a (H05 _ _ _ _ _ f _ w) λbb a=>?_;refine ifB a (λY a=>?_) λY a=>?_
   ·refine trM a (G05 _ _ _ _ _ f _ x) ?_;rintro bc a aZ aG ⟨ap,aV,ax,rfl,m,O⟩;obtain⟨rfl,aP⟩:=sL m;refine trV a (H05 _ _ _ _ _ m _ x) λbd a=>?_;refine ifB a (λaa a=>?_) λaa a=>?_;·refine trM a (G05 _ _ _ _ _ m _ w) ?_;rintro be a a0 aH ⟨aq,aW,ay,rfl,M,ak⟩;obtain⟨rfl,aQ⟩:=sL M;exact C2 d ⟨_,_,_,_,_,rfl,rfl,((g.trans O).trans ak),M,(O0 _),a⟩
    exact C2 d ⟨_,_,_,_,_,rfl,rfl,(g.trans O),m,(O0 _),a⟩
   refine trV a (H05 _ _ _ _ _ f _ x) λbf a=>?_;refine ifB a (λab a=>?_) λab a=>?_;·refine trM a (G05 _ _ _ _ _ f _ w) ?_;rintro bg a a1 aJ ⟨ar,aX,az,rfl,N,al⟩;obtain⟨rfl,aR⟩:=sL N;exact C2 d ⟨_,_,_,_,_,rfl,rfl,(g.trans al),N,(O0 _),a⟩
   exact C2 d ⟨_,_,_,_,_,rfl,rfl,g,f,(O0 _),a⟩
  cases a;try dsimp only[V0,Y0]at c
  exact C2 k ⟨_,_,_,_,_,rfl,rfl,(C.trans g),f,(O0 _),c⟩
 cases c;try dsimp only[V0,Y0]at b
 cases b;exact⟨_,_,_,rfl,A,C⟩
def b0f(h:Hp)(i:List Value)(m:B0)(C:I1.R h i m)(r:Int)(b:N04 m=some r): Tr Tryz.prog 182 #[.agg i.toArray] h λv h'=>v=iV r/\h'=h:=by
 obtain⟨n,o,E,G,p,rfl,rfl,j,k,s,K⟩:=opG C;unfold N04 at b;dsimp only at b;refine wkF Tryz.f182 ?_;refine trM b (S0f _ _ _ (C0 j k s) 0 oD) ?_;rintro u b O A ⟨F,M,H,rfl,t,f⟩;obtain⟨rfl,L⟩:=sL t;obtain⟨g,x,b⟩:=D0 b;refine eX { vars:=[4] } (eX (λvs os h'=>∃ d,vs.tail = [iV d]/\os = []/\Sub A h'/\I0 d/\M00 o n p u (P1 vs) d=some g) (eX (λ_ _=>0) (aI (eX U0 ⟨_,rfl,rfl,sr,oD,x⟩) ?_)));rintro _ e J ⟨d,⟨⟩,⟨⟩,c,l,a⟩;replace a:M00 o n p u e d=some g:=a;obtain _|e:=e;·cases a
 rw[M00.eq_2]at a;refine ifB a (λz a=>?_) λz a=>?_
 ·refine trV a (j0j _ _ _ (C0 j k (M0.mono (f.trans c) s)) _ l) λD a=>?_;obtain⟨N,w,a⟩:=D0 a;have I:I0 D:=N0 w;refine trG a (λq=>H05 _ _ _ _ _ (K0.mono c t) _ l) λP a=>?_;refine ifB a (λy a=>?_) λy a=>?_
  ·cases a;try dsimp only[Y2,N3]at b
   cases b;exact aI rfl (f.trans c)
  exact C2 e ⟨_,rfl,rfl,c,(O0 _),a⟩
 cases a;try dsimp only[V0,Y0]at b
 cases b;exact aI rfl (f.trans c)
def q05(h:Hp)(X:List Value)(ab:B0)(aR:I1.R h X ab)(U:Option Addr)(aa V:Nat)(z:J0)(C:K0.R h [.slice U aa V] z)(r:B0×Bool)(d:t8 ab z=some r): Tr Tryz.prog 157 #[.agg X.toArray,.slice U aa V] h λv h'=>∃(W:List Value),v = .tuple #[.agg W.toArray,.bool r.2]/\New I1 h h' W r.1:=by
 obtain⟨ac,x,a8,bd,y,rfl,rfl,t,G,A,bM⟩:=opG aR;obtain⟨rfl,aQ⟩:=sL C;unfold t8 at d;dsimp only at d;refine wk Tryz.f157 ?_;refine trV d (H8 _ _ _ (C0 t G A)) λca d=>?_;refine ifB d (λaA d=>?_) λaA d=>?_
 ·refine trM d (F5 _ _ _ (C0 t G A)) ?_;rintro cj d b7 aN ⟨bh,rfl,O⟩;have b5:Sub h aN:=O.sub;have aW:=O.r;obtain⟨cq,cr,bb,bo,cs,rfl,rfl,aJ,aK,bV,bP⟩:=opG aW;try dsimp only at d
  have a5:=nD (nD (O));cases d;exact⟨_,rfl,(nP (nI aJ) (nP (nI aK) a5))⟩
 obtain⟨bS,am,d⟩:=D0 d;refine aI (N0 am) ?_;obtain⟨T,ax,d⟩:=D0 d;refine eX { vars:=[8],owns:=[0],kept:=[0] } (eX (λvs os h'=>∃ i L j,vs.tail = [iV i]/\os = [L]/\Sub h h'/\I0 i/\F2 (Wp.int.R h') L j/\M5 z x ac y (P1 vs) i j=some T) (eX (λ_ _=>0) (aI (eX U0 ⟨_,_,_,rfl,rfl,sr,oD,(F2.rep (p:=Wp.int.R h) (a:=[iV 0]) (b:=0) ⟨rfl,oD⟩ (x.toNat)),ax⟩) ?_)));rintro _ L w u ⟨i,cu,j,⟨⟩,⟨⟩,e,br,g,c⟩;replace c:M5 z x ac y w i j=some T:=c;obtain _|w:=w;·cases c
 rw[M5.eq_2]at c;refine ifB c (λay c=>?_) λay c=>?_
 ·refine w1 ?_;refine ldI c (K0.mono e C) λcb aD c=>?_;obtain⟨a6,an,c⟩:=D0 c;refine eX (.bool a6) (aI (p5 _ _ aD 0 oD (i64.wrap (x-1)) (O0 _) _  an) ?_);refine ldG c (K0.mono e C) λcc bs c=>?_;obtain⟨cd,ao,c⟩:=D0 c;obtain⟨be,Y,aS⟩:=S05 g ao (A0g u);refine aI (λq=>(Y q).1) ?_;obtain⟨rfl,bt⟩:=aS;refine eX _ (aI (λq=>(Y q).2) ?_);refine ifB c (λaz c=>?_) λaz c=>?_
  ·refine trM c (F5 _ _ _ (C0 t G (M0.mono e A))) ?_;rintro ce c b6 aL ⟨bf,rfl,N⟩;have b3:Sub u aL:=N.sub;have aU:=N.r;obtain⟨cf,cg,ba,bn,ch,rfl,rfl,aF,aG,bU,bO⟩:=opG aU;try dsimp only at c
   have a4:=nD (nD (N));cases c;try dsimp only[Y2,N3]at d
   cases d;exact⟨_,rfl,(nP (nI aF) (nP (nI aG) (New.from a4 e)))⟩
  refine ldI c (K0.mono e C) λa7 bu c=>?_;obtain⟨ci,ap,c⟩:=D0 c;obtain⟨ae,bg,ai,aV⟩:=J3 g ap;refine aI ae ?_;obtain⟨rfl,bv⟩:=aV;refine eX _ (aI ai ?_);exact C2 w ⟨_,_,_,rfl,rfl,e,(O0 _),(F2.set (p:=Wp.int.R u) (a:=[iV (i64.wrap (i+1))]) (b:=(i64.wrap (i+1))) ⟨rfl,(O0 _)⟩ a7.toNat g),c⟩
 cases c;try dsimp only[V0,Y0]at d
 obtain⟨S,aw,d⟩:=D0 d;refine eX { vars:=[9],boxes:=[2] } (eX (λvs os h'=>∃ l m n E J F D,vs.tail = [iV l,iV m,iV n,.slice E J F]/\os = []/\Sub u h'/\I0 l/\I0 m/\I0 n/\New M0 h h' [.slice E J F] D/\R4 y j (P1 vs) l m n D=some S) (eX (λ_ _=>0) (aI (eX U0 ⟨_,_,_,_,_,_,_,rfl,rfl,sr,oD,t,(Y0t aQ),((New.nilSlice (r:=E1)).mono e),aw⟩) ?_)));rintro _ _ _ _ k aM ⟨l,m,n,E,J,F,D,⟨⟩,⟨⟩,f,bq,H,I,M,c⟩;replace c:R4 y j k l m n D=some S:=c;obtain _|k:=k;·cases c
 rw[R4.eq_2]at c;have ad:=M.r;obtain⟨rfl,bN⟩:=sL ad;refine ifB c (λaB c=>?_) λaB c=>?_
 ·refine ld c (M0.mono (e.trans f) A) λck bi aX c=>?_;obtain⟨cl,Q,cm,rfl,rfl,bx,aH,bz⟩:=D2 aX;try dsimp only at c
  obtain⟨cn,aq,c⟩:=D0 c;obtain⟨af,bj,aj,aY⟩:=J3 (F2.up (r:=Wp.int.toRp) f g) aq;refine aI af ?_;obtain⟨rfl,bA⟩:=aY;refine eX _ (aI aj ?_);obtain⟨co,ar,c⟩:=D0 c;obtain⟨bk,Z,aZ⟩:=S05 (F2.up (r:=Wp.int.toRp) f g) ar (A0g aM);refine aI (λq=>(Z q).1) ?_;obtain⟨rfl,bB⟩:=aZ;refine eX _ (aI (λq=>(Z q).2) ?_);refine ifB c (λaC c=>?_) λaC c=>?_
  ·refine w5 17 ?_;obtain⟨o,au,c⟩:=D0 c;obtain⟨ag,bl,ak,a0⟩:=J3 (F2.up (r:=Wp.int.toRp) f g) au;obtain⟨rfl,bC⟩:=a0;refine Or.inl ?_;apply eX;refine aI ?_ ?_;·intro bE bW;exact aI ag r3
   refine pm (.val (iV o)) ?_ ?_;·intro bG bX;exact eX _ (aI ak r3)
   refine pm (.val (iV (i64.wrap (o-1)))) ?_ ?_;·intro bH bY;exact r3
   obtain⟨s,av,c⟩:=D0 c;obtain⟨ah,bm,al,a1⟩:=J3 (F2.up (r:=Wp.int.toRp) f g) av;obtain⟨rfl,bD⟩:=a1;refine Or.inl ?_;apply eX;refine aI ?_ ?_;·intro bI bZ;exact aI ah r3
   refine pm (.val (iV s)) ?_ ?_;·intro bJ b0;exact eX _ (aI al r3)
   refine pm (.val (iV (i64.wrap (s-1)))) ?_ ?_;·intro bK b1;exact r3
   refine pm (.agg [.val (iV (i64.wrap (o-1))),.val (iV Q),.val (iV (i64.wrap (s-1)))]) ?_ ?_;·intro bL b2;exact r3
   intro aO K;refine trM c (o02 _ _ _ _ _ (M0.mono K ad) [iV (i64.wrap (o-1)),iV Q,iV (i64.wrap (s-1))] ((i64.wrap (o-1)),Q,(i64.wrap (s-1))) (Z1 (O0 _) aH (O0 _))) ?_;rintro ct c b8 aP ⟨bc,bR,bp,rfl,P⟩;have a3:Sub aO aP:=P.sub;have a2:=P.r;obtain⟨rfl,bQ⟩:=sL a2;exact C2 k ⟨_,_,_,_,_,_,_,rfl,rfl,((f.trans K).trans a3),(O0 _),H,I,(New.from P ((e.trans f).trans K)),c⟩
  exact C2 k ⟨_,_,_,_,_,_,_,rfl,rfl,f,(O0 _),H,I,M,c⟩
 cases c;try dsimp only[V0,Y0]at d
 cases d;exact⟨_,rfl,(nP (nI H) (nP (nI I) M))⟩
def I05(h:Hp)(f:Int)(C:I0 f)(r:J0)(e:M8 f=some r): Tr Tryz.prog 188 #[iV f] h λv h'=>∃(m:Option Addr) (o n:Nat),v = .slice m o n/\K0.R h' [.slice m o n] r/\Sub h h':=by
 unfold M8 at e;refine wk Tryz.f188 ?_;obtain⟨l,u,e⟩:=D0 e;refine eX { vars:=[4],owns:=[0] } (eX (λvs os h'=>∃ a k j,vs.tail = [iV a]/\os = [k]/\Sub h h'/\I0 a/\F2 (Wp.int.R h') k j/\w8 f (P1 vs) a j=some l) (eX (λ_ _=>0) (aI (eX U0 ⟨_,_,_,rfl,rfl,sr,oD,(show F2 (Wp.int.R h) ([]:LV) ([]:J0) from trivial),u⟩) ?_)));rintro _ k i d ⟨a,I,j,⟨⟩,⟨⟩,p,g,c,b⟩;replace b:w8 f i a j=some l:=b;obtain _|i:=i;·cases b
 rw[w8.eq_2]at b;refine ifB b (λw b=>?_) λw b=>?_;·obtain⟨F,s,b⟩:=D0 b;refine aI (N1 s (by first|rw[fL c,fL (show F2 (Wp.int.R d) ([[iV a]]:LV) [a] from⟨⟨rfl,g⟩,trivial⟩)]|exact congrArg (·+1) (fL c))) ?_;obtain⟨G,t,b⟩:=D0 b;refine aI (N1 t (by first|rw[fL (fA c (show F2 (Wp.int.R d) ([[iV a]]:LV) [a] from⟨⟨rfl,g⟩,trivial⟩)),fL (show F2 (Wp.int.R d) ([[iV (i64.wrap (0-a))]]:LV) [(i64.wrap (0-a))] from⟨⟨rfl,(O0 _)⟩,trivial⟩)]|exact congrArg (·+1) (fL (fA c (show F2 (Wp.int.R d) ([[iV a]]:LV) [a] from⟨⟨rfl,g⟩,trivial⟩))))) ?_;exact C2 i ⟨_,_,_,rfl,rfl,p,(O0 _),(fA (fA c (show F2 (Wp.int.R d) ([[iV a]]:LV) [a] from⟨⟨rfl,g⟩,trivial⟩)) (show F2 (Wp.int.R d) ([[iV (i64.wrap (0-a))]]:LV) [(i64.wrap (0-a))] from⟨⟨rfl,(O0 _)⟩,trivial⟩)),b⟩
 cases b;try dsimp only[V0,Y0]at e
 intro H D q;obtain⟨z,A,rfl,x,y,E⟩:=C1.out (r:=Wp.int.toRp) q c;cases e;exact⟨_,_,_,rfl,x,(p.trans y)⟩
def f0c(h:Hp)(F:List Value)(J:B0)(ak:I1.R h F J)(r:J0)(c:T00 J=some r): Tr Tryz.prog 186 #[.agg F.toArray] h λv h'=>∃(D:Option Addr) (I E:Nat),v = .slice D I E/\K0.R h' [.slice D I E] r/\Sub h h':=by
 obtain⟨l,m,au,az,n,rfl,rfl,w,G,K,aN⟩:=opG ak;unfold T00 at c;dsimp only at c;refine wk Tryz.f186 ?_;refine trV c (P7 _ _ _ (C0 w G K)) λa2 c=>?_;refine ifB c (λab c=>?_) λab c=>?_;·intro aZ aL Q;obtain⟨ay,aF,rfl,ao,aq,aR⟩:=C1.out (r:=Wp.int.toRp) Q (show F2 (Wp.int.R h) ([]:LV) ([]:J0) from trivial);cases c;exact⟨_,_,_,rfl,ao,aq⟩
 refine trM c (I05 _ _ w) ?_;rintro t c a1 ai ⟨av,aS,aB,rfl,L,y⟩;obtain⟨rfl,aO⟩:=sL L;obtain⟨A,Y,c⟩:=D0 c;refine eX { vars:=[5],owns:=[0] } (eX (λvs os h'=>∃ e s p,vs.tail = [iV e]/\os = [s]/\Sub ai h'/\I0 e/\F2 (Wp.int.R h') s p/\M6 t l m n (P1 vs) e p=some A) (eX (λ_ _=>0) (aI (eX U0 ⟨_,_,_,rfl,rfl,sr,oD,(F2.up (r:=Wp.int.toRp) y (show F2 (Wp.int.R h) ([[iV 0]]:LV) [0] from⟨⟨rfl,oD⟩,trivial⟩)),Y⟩) ?_)));rintro _ s k ah ⟨e,a5,p,⟨⟩,⟨⟩,o,aH,u,b⟩;replace b:M6 t l m n k e p=some A:=b;obtain _|k:=k;·cases b
 rw[M6.eq_2]at b;obtain⟨aj,S,b⟩:=D0 b;obtain rfl:s.length=aj:=(fL u).trans (oJ S);obtain⟨aU,aG,b⟩:=D0 b;refine ifB b (λaa b=>?_) λaa b=>?_
 ·obtain⟨C,Z,b⟩:=D0 b;refine eX { vars:=[6],owns:=[0] } (eX (λvs os h'=>∃ j z q,vs.tail = [iV j]/\os = [z]/\Sub ah h'/\I0 j/\F2 (Wp.int.R h') z q/\J4 t e l m n (P1 vs) j q=some C) (eX (λ_ _=>0) (aI (eX U0 ⟨_,_,_,rfl,rfl,sr,oD,u,Z⟩) ?_)));rintro _ z g H ⟨j,a6,q,⟨⟩,⟨⟩,i,aJ,d,a⟩;replace a:J4 t e l m n g j q=some C:=a;obtain _|g:=g;·cases a
  rw[J4.eq_2]at a;refine ifB a (λac a=>?_) λac a=>?_
  ·refine w1 ?_;obtain⟨a3,V,a⟩:=D0 a;obtain⟨M,aA,N,al⟩:=J3 d V;refine aI M ?_;obtain⟨rfl,af⟩:=al;refine eX _ (aI N ?_);refine ldI a (K0.mono (o.trans i) L) λa4 ag a=>?_;obtain⟨f,W,a⟩:=D0 a;refine eX (iV f) (aI (d7 _ _ _ (C0 w G (M0.mono ((y.trans o).trans i) K)) _ af _ ag _  W) ?_);obtain⟨aV,T,a⟩:=D0 a;have x:I0 f:=N0 T;obtain⟨ar,X,a⟩:=D0 a;refine eX (.bool ar) (aI ?_ ?_);·intro ae;intro aY aK O;obtain⟨aw,aC,rfl,am,aX,aP⟩:=C1.out (r:=Wp.int.toRp) O d;exact H05 _ _ _ _ _ am _ x _ (F9 X ae)
   refine ifB a (λad a=>?_) λad a=>?_;·obtain⟨aW,U,a⟩:=D0 a;refine aI (N1 U (by first|rw[fL d,fL (show F2 (Wp.int.R H) ([[iV f]]:LV) [f] from⟨⟨rfl,x⟩,trivial⟩)]|exact congrArg (·+1) (fL d))) ?_;exact C2 g ⟨_,_,_,rfl,rfl,i,(O0 _),(fA d (show F2 (Wp.int.R H) ([[iV f]]:LV) [f] from⟨⟨rfl,x⟩,trivial⟩)),a⟩
   exact C2 g ⟨_,_,_,rfl,rfl,i,(O0 _),d,a⟩
  cases a;try dsimp only[V0,Y0]at b
  exact C2 k ⟨_,_,_,rfl,rfl,(o.trans i),(O0 _),d,b⟩
 cases b;try dsimp only[V0,Y0]at c
 intro a0 aM P;obtain⟨ax,aD,rfl,an,ap,aQ⟩:=C1.out (r:=Wp.int.toRp) P u;cases c;exact⟨_,_,_,rfl,an,((y.trans o).trans ap)⟩
def n07(h:Hp)(j:List Value)(l:B0)(w:I1.R h j l)(r:B0)(a:B9 l=some r): Tr Tryz.prog 151 #[.agg j.toArray] h λv h'=>∃(i:List Value),v = .agg i.toArray/\New I1 h h' i r:=by
 obtain⟨T,U,D,H,V,rfl,rfl,d,e,f,N⟩:=opG w;unfold B9 at a;dsimp only at a;refine wk Tryz.f151 ?_;refine trM a (f0c _ _ _ (C0 d e f)) ?_;rintro ad a ab k ⟨E,S,K,rfl,m,b⟩;obtain⟨rfl,O⟩:=sL m;refine ifB a (λn a=>?_) λn a=>?_
 ·refine trM a (F5 _ _ _ (C0 d e (M0.mono b f))) ?_;rintro ae a ac u ⟨I,rfl,g⟩;have Y:Sub k u:=g.sub;have x:=g.r;obtain⟨af,ag,F,L,ah,rfl,rfl,o,p,W,P⟩:=opG x;try dsimp only at a
  have A:=nD (nD (g));cases a;exact⟨_,rfl,(nP (nI o) (nP (nI p) (New.from A b)))⟩
 refine trM a (q05 _ _ _ (C0 d e (M0.mono b f)) _ _ _ _ m) ?_;rintro C a aa t ⟨J,rfl,c⟩;obtain⟨ai,am⟩:=C;dsimp only at a c;have Z:Sub k t:=c.sub;have y:=c.r;obtain⟨aj,ak,G,M,al,rfl,rfl,q,s,X,Q⟩:=opG y;try dsimp only at a
 have z:=nD (nD (c));cases a;exact⟨_,rfl,(nP (nI q) (nP (nI s) (New.from z b)))⟩
def u0m(h:Hp)(m:List Value)(n:B0)(L:I1.R h m n)(r:Bool)(a:t03 n=some r): Tr Tryz.prog 144 #[.agg m.toArray] h λv h'=>v = .bool r/\h'=h:=by
 obtain⟨ap,aq,Y,aa,ar,rfl,rfl,f,g,i,an⟩:=opG L;unfold t03 at a;dsimp only at a;refine wkF Tryz.f144 ?_;refine w4 ?_;obtain⟨V,A,a⟩:=D0 a;refine pm (.val (.bool V)) ?_ ?_;·intro aj T;exact Tr.val (P7 _ _ _ (C0 f g (M0.mono T i)) _ A) r3
 obtain⟨l,E,a⟩:=D0 a;obtain⟨au,z,a⟩:=D0 a;have af:I0 l:=N0 z;refine pm (.val (iV l)) ?_ ?_;·intro ak U b;exact Tr.val (b0f _ _ _ (C0 f g (M0.mono U i)) _ (F9 E b)) r3
 refine pm (.val (.bool (decide (l<0)))) ?_ ?_;·intro al av b;exact r3
 obtain⟨W,C,a⟩:=D0 a;obtain⟨p,s,j⟩:=W;try dsimp only at a
 refine Or.inr (eX (λv F=>∃(c:Option Addr) (d:Nat),v = .agg #[iV p,iV s,.slice c j.length d]/\I0 p/\I0 s/\M0.R F [.slice c j.length d] j/\j.length<=9223372036854775807) (aI (λv ad ae k q=>by obtain⟨c,d,e,x,y,f2,f3⟩:=q;exact⟨c,d,e,x,y,M0.mono k f2,f3⟩) (aI ?_ ?_)));·intro ag P b;refine Tr.mono (n07 _ _ _ (C0 f g (M0.mono P i)) _ (F9 C b)) ?_;rintro _ am ⟨ab,rfl,o⟩;have k:=o.sub;have M:=o.r;obtain⟨aw,ax,t,u,ay,rfl,w,G,H,N,K⟩:=opG M;cases w;exact aI K7 (aI k ⟨t,u,rfl,G,H,N,K⟩)
 obtain⟨X,D,a⟩:=D0 a;refine pm (.val (.bool X)) ?_ ?_;·intro ah Q b;rintro _ ⟨Z,ac,rfl,I,J,O,ao⟩;exact Tr.val (T02 _ _ _ (C0 I J O) _ _ (C0 f g (M0.mono Q i)) _ (F9 D b)) r3
 intro ai S;cases a;exact aI rfl S
def g7(h:Hp)(b:List Value)(c:B0)(f:I1.R h b c)(r:Bool)(a:Z2 c=some r): Tr Tryz.prog 73 #[.agg b.toArray] h λv h'=>v = .bool r/\h'=h:=by obtain⟨l,m,i,j,n,rfl,rfl,d,e,g,k⟩:=opG f;unfold Z2 at a;dsimp only at a;refine wkF Tryz.f73 ?_;refine trV a (u0m _ _ _ (C0 d e g)) λo a=>?_;cases a;exact aI rfl sr
set_option maxHeartbeats 0
def n0j(h:Hp)(am:List Value)(aC:B0)(b1:I1.R h am aC)(w:Int)(bQ:I0 w)(r:(List Bool)×K1)(f:E04 aC w=some r): Tr Tryz.prog 211 #[.agg am.toArray,iV w] h λv h'=>∃(ai:Option Addr) (aA ak:Nat) (aj:Option Addr) (aB al:Nat),v = .tuple #[.slice ai aA ak,.slice aj aB al]/\(Wp.slice Wp.bool).R h' [.slice ai aA ak] r.1/\Q1.R h' [.slice aj aB al] r.2/\Sub h h':=by
 obtain⟨N,j,cr,cx,O,rfl,rfl,av,bP,b2,c7⟩:=opG b1;unfold E04 at f;dsimp only at f;refine wk Tryz.f211 ?_;obtain⟨ds,bk,f⟩:=D0 f;refine aI (N0 bk) ?_;obtain⟨dt,bl,f⟩:=D0 f;refine aI (N0 bl) ?_;obtain⟨dN,bq,f⟩:=D0 f;obtain⟨aO,cy,a2,b3⟩:=J3 (F2.rep (p:=Wp.bool.R h) (a:=[.bool false]) (b:=false) rfl (j.toNat)) bq;refine aI aO ?_;obtain rfl:=b3;refine eX _ (aI a2 ?_);obtain⟨dS,bv,f⟩:=D0 f;obtain⟨aR,cD,a5,b8⟩:=J3 (F2.rep (p:=K0.R h) (a:=[.slice none 0 0]) (b:=[]) (d02 Wp.int h) (j.toNat)) bv;refine aI aR ?_;obtain⟨cs,cJ,rfl,c8⟩:=slL b8;intro dJ ax bf;obtain⟨aN,a1,rfl,cg,P,di⟩:=C1.out (r:=Wp.int.toRp) bf (show F2 (Wp.int.R h) ([]:LV) ([]:J0) from trivial);refine eX _ (aI a5 ?_);refine trM f (I05 _ _ av) ?_;rintro K f dI bV ⟨aM,dm,aY,rfl,aa,I⟩;obtain⟨rfl,dd⟩:=sL aa;obtain⟨ag,bI,f⟩:=D0 f;refine eX { vars:=[10],owns:=[0,1,3],kept:=[0,1] } (eX (λvs os h'=>∃ x ab Q ac S X T,vs.tail = [iV x]/\os = [ab,ac,X]/\Sub bV h'/\I0 x/\F2 (Wp.bool.R h') ab Q/\F2 (K0.R h') ac S/\F2 (Wp.int.R h') X T/\x00 K N j O (P1 vs) x Q S T=some ag) (eX (λ_ _=>0) (aI (eX U0 ⟨_,_,_,_,_,_,_,rfl,rfl,sr,oD,(F2.up (r:=Wp.bool.toRp) (P.trans I) (F2.set (p:=Wp.bool.R h) (a:=[.bool true]) (b:=true) rfl w.toNat (F2.rep (p:=Wp.bool.R h) (a:=[.bool false]) (b:=false) rfl (j.toNat)))),(F2.up (r:=K0.toRp) I (F2.set (p:=K0.R ax) (a:=[.slice aN (([]:J0)).length a1]) (b:=([]:J0)) cg w.toNat (F2.up (r:=K0.toRp) P (F2.rep (p:=K0.R h) (a:=[.slice none 0 0]) (b:=[]) (d02 Wp.int h) (j.toNat))))),(F2.up (r:=Wp.int.toRp) I (show F2 (Wp.int.R ax) ([[iV w]]:LV) [w] from⟨⟨rfl,bQ⟩,trivial⟩)),bI⟩) ?_)));rintro _ ab ac X M bW ⟨x,dV,Q,dW,S,dX,T,⟨⟩,⟨⟩,G,cS,ao,ap,aq,i⟩;replace i:x00 K N j O M x Q S T=some ag:=i;obtain _|M:=M;·cases i
 rw[x00.eq_2]at i;obtain⟨bY,bj,i⟩:=D0 i;obtain rfl:X.length=bY:=(fL aq).trans (oJ bj);obtain⟨du,cP,i⟩:=D0 i;refine ifB i (λbL i=>?_) λbL i=>?_
 ·obtain⟨ah,bJ,i⟩:=D0 i;refine eX { vars:=[11],owns:=[0,1,3],kept:=[0,1] } (eX (λvs os h'=>∃ A ad U ae V af W,vs.tail = [iV A]/\os = [ad,ae,af]/\Sub bW h'/\I0 A/\F2 (Wp.bool.R h') ad U/\F2 (K0.R h') ae V/\F2 (Wp.int.R h') af W/\n8 K x N j O (P1 vs) A U V W=some ah) (eX (λ_ _=>0) (aI (eX U0 ⟨_,_,_,_,_,_,_,rfl,rfl,sr,oD,ao,ap,aq,bJ⟩) ?_)));rintro _ ad ae af F L ⟨A,dY,U,d1,V,d2,W,⟨⟩,⟨⟩,z,cU,D,E,u,d⟩;replace d:n8 K x N j O F A U V W=some ah:=d;obtain _|F:=F;·cases d
  rw[n8.eq_2]at d;refine ifB d (λbM d=>?_) λbM d=>?_
  ·refine w1 ?_;obtain⟨dO,br,d⟩:=D0 d;obtain⟨aP,cz,a3,b5⟩:=J3 u br;refine aI aP ?_;obtain⟨rfl,bR⟩:=b5;refine eX _ (aI a3 ?_);refine ldI d (K0.mono (G.trans z) aa) λdP bS d=>?_;obtain⟨s,bs,d⟩:=D0 d;refine eX (iV s) (aI (d7 _ _ _ (C0 av bP (M0.mono (((P.trans I).trans G).trans z) b2)) _ bR _ bS _  bs) ?_);obtain⟨dv,bm,d⟩:=D0 d;have aw:I0 s:=N0 bm;obtain⟨dQ,bt,d⟩:=D0 d;obtain⟨cA,an,b6⟩:=S05 D bt (V0w L);refine aI (λq=>(an q).1) ?_;obtain rfl:=b6;refine eX _ (aI (λq=>(an q).2) ?_);refine ifB d (λbN d=>?_) λbN d=>?_
   ·obtain⟨dR,bu,d⟩:=D0 d;obtain⟨aQ,cC,a4,b7⟩:=J3 D bu;refine aI aQ ?_;obtain rfl:=b7;refine eX _ (aI a4 ?_);refine w5 16 ?_;refine Or.inr (eX (λv Y=>∃(g:Nat),v = .slice (some ⟨g,0,none⟩) 0 0/\L g=none/\∃ e,Y g=some (.cells #[] e (0,0))) (aI (λv bE bG H q=>by obtain⟨g,e,n,t,c⟩:=q;exact⟨g,e,n,t,H _ _ c⟩) (aI ?_ ?_)));·intro cW cj;intro g au;exact aI K7 (aI (Sub.set au) ⟨g,rfl,Sub.back cj au,_,Hp.set_same _ _ _⟩)
    obtain⟨co,bx,d⟩:=D0 d;obtain⟨aS,cE,a6,ca⟩:=J3 u bx;obtain⟨rfl,cV⟩:=ca;refine Or.inl ?_;apply eX;refine aI ?_ ?_;·intro cX dz;exact aI aS r3
    refine pm (.val (iV co)) ?_ ?_;·intro cY dA;exact eX _ (aI a6 r3)
    obtain⟨y,bz,d⟩:=D0 d;obtain⟨aU,cG,a7,aD⟩:=J3 E bz;obtain⟨aL,aX,rfl,db⟩:=slL aD;refine Or.inl ?_;apply eX;refine aI ?_ ?_;·intro cZ dB;exact aI aU r3
    refine pm (.val (.slice aL y.length aX)) ?_ ?_;·intro c0 dC;exact eX _ (aI a7 r3)
    obtain⟨dw,bn,d⟩:=D0 d;refine Or.inr (eX (λv Y=>∃(g o c:Nat),v = .slice (some ⟨g,o,none⟩) y.length c/\New K0 L Y [.slice (some ⟨g,o,none⟩) y.length c] y/\y.length<=9223372036854775807) (aI (λv bE bG H q=>by obtain⟨g,o,c,e,r,l⟩:=q;exact⟨g,o,c,e,New.mono r H,l⟩) (aI ?_ ?_)));·intro c1 aG;rintro _ ⟨cQ,rfl,bZ,aZ⟩;obtain⟨cm,bd,bX,cq,bi⟩:=New.appZ (r:=Wp.int) bZ aZ aG (K0.mono aG aD) (M05 _);exact eX cm (aI bd (aI (N1 bn bX) (aI (λbO=>aI K7 (aI sr (cq bO))) (λv bH hf=>aI K7 (bi v bH _ hf)))))
    obtain⟨J,bA,d⟩:=D0 d;obtain⟨aV,cH,a8,cb⟩:=Sl.getI (r:=Wp.int.toRp) (K0.mono (G.trans z) aa) bA oD;obtain⟨rfl,bU⟩:=cb;refine pm (.hel (.slice aM K.length aY) A 1 0) ?_ ?_;·intro c2 dD;exact aI aV r3
    refine pm (.val (iV J)) ?_ ?_;·intro c3 ck;exact eX _ (aI (U8.up ck a8) r3)
    obtain⟨C,bB,d⟩:=D0 d;refine fS K0 C ?_ ?_;·intro ay dG;have ba:[J]=C:=oJ bB;intro v k hf;obtain⟨a,c,rfl,r,H,l⟩:=C1.out (r:=Wp.int.toRp) (xs:=C) hf (show F2 (Wp.int.R ay) [[iV J]] C from ba▸(show F2 (Wp.int.R ay) [[iV J]] [J] from⟨⟨rfl,bU⟩,trivial⟩));exact aI ⟨rfl,rfl,rfl,[_],rfl⟩ (aI H ⟨a,c,rfl,r,l⟩)
    intro c4 dH;rintro _ ⟨cu,cL,rfl,ce,df⟩;rintro _ ⟨cR,dq,cM,rfl,cf,dg⟩;rintro _ _;obtain⟨cl,bc,ar⟩:=Sl.rows (r:=Wp.int.toRp) ce;refine eX cl (aI bc ?_);obtain⟨dx,bo,d⟩:=D0 d;obtain⟨cn,cd,az,aK⟩:=New.app cf sr;refine eX cn (aI cd (aI (N1 bo (by first|rw[az,fL ar]|(rw[az];rfl))) ?_));intro dM Z bK;obtain⟨m,bD,b0,dn,a0,rfl⟩:=aK _ _ _ _ _ (F3.ofPlain (M05 _) ar) g6.ofPlain bK;have aF:=m.r;obtain⟨be,dh⟩:=sL aF;subst be;obtain⟨dU,bC,d⟩:=D0 d;obtain⟨aW,cI,bb,cc⟩:=J3 (F2.up (r:=K0.toRp) m.sub E) bC;refine aI aW ?_;obtain⟨ct,cK,rfl,dc⟩:=slL cc;refine eX _ (aI bb ?_);obtain⟨dy,bp,d⟩:=D0 d;refine aI (N1 bp (by first|rw[fL (F2.up (r:=Wp.int.toRp) m.sub u),fL (show F2 (Wp.int.R Z) ([[iV s]]:LV) [s] from⟨⟨rfl,aw⟩,trivial⟩)]|exact congrArg (·+1) (fL (F2.up (r:=Wp.int.toRp) m.sub u)))) ?_;exact C2 F ⟨_,_,_,_,_,_,_,rfl,rfl,(z.trans m.sub),(O0 _),(F2.up (r:=Wp.bool.toRp) m.sub (F2.set (p:=Wp.bool.R L) (a:=[.bool true]) (b:=true) rfl s.toNat D)),(F2.set (p:=K0.R Z) (a:=[.slice (some ⟨bD,b0,none⟩) (y++C).length a0]) (b:=(y++C)) aF s.toNat (F2.up (r:=K0.toRp) m.sub E)),(fA (F2.up (r:=Wp.int.toRp) m.sub u) (show F2 (Wp.int.R Z) ([[iV s]]:LV) [s] from⟨⟨rfl,aw⟩,trivial⟩)),d⟩
   exact C2 F ⟨_,_,_,_,_,_,_,rfl,rfl,z,(O0 _),D,E,u,d⟩
  cases d;try dsimp only[V0,Y0]at i
  exact C2 M ⟨_,_,_,_,_,_,_,rfl,rfl,(G.trans z),(O0 _),D,E,u,i⟩
 cases i;try dsimp only[V0,Y0]at f
 intro dK c5 bg;obtain⟨cv,cN,rfl,ch,aH,dj⟩:=C1.out (r:=Wp.bool.toRp) bg ao;intro dL c6 bh;obtain⟨cw,cO,rfl,ci,aJ,dk⟩:=C1.out (r:=K0.toRp) bh (F2.up (r:=K0.toRp) aH ap);cases f;exact⟨_,_,_,_,_,_,rfl,((Wp.slice Wp.bool).mono aJ ch),ci,((((P.trans I).trans G).trans aH).trans aJ)⟩
def o0j(h:Hp)(j:List Value)(u:B0)(G:I1.R h j u)(d:Int)(s:I0 d)(e:Int)(F:I0 e)(r:J0×Bool)(a:O00 u d e=some r): Tr Tryz.prog 201 #[.agg j.toArray,iV d,iV e] h λv h'=>∃(n:Nat) (t i:Nat),v = .tuple #[.slice (some ⟨n,0,none⟩) t i,.bool r.2]/\New K0 h h' [.slice (some ⟨n,0,none⟩) t i] r.1:=by
 obtain⟨an,w,K,O,ao,rfl,rfl,o,p,x,ae⟩:=opG G;unfold O00 at a;dsimp only at a;refine wk Tryz.f201 ?_;refine trV a (P7 _ _ _ (C0 o p x)) λaC a=>?_;refine trG a (λq=>p5 _ _ s 0 oD (i64.wrap (w-1)) (O0 _)) λaG a=>?_;refine trG a (λq=>p5 _ _ F 0 oD (i64.wrap (w-1)) (O0 _)) λaH a=>?_;refine ifB a (λE a=>?_) λE a=>?_;·intro aB ad m;obtain⟨aa,X,rfl,au,ax,ak⟩:=C1.outS (r:=Wp.int.toRp) m (show F2 (Wp.int.R h) ([]:LV) ([]:J0) from trivial);cases a;exact⟨_,_,_,rfl,(C1.newPlain (r:=Wp.int) m (show F2 (Wp.int.R h) ([]:LV) ([]:J0) from trivial) (M05 _))⟩
 refine trM a (n0j _ _ _ (C0 o p x) _ s) ?_;rintro J a ay b ⟨M,al,T,N,am,U,rfl,f,g,z⟩;obtain⟨aJ,aK⟩:=J;dsimp only at a f g;obtain⟨rfl,ag⟩:=sL f;obtain⟨rfl,ah⟩:=sL g;refine ld a f λaD P H a=>?_;obtain rfl:=H;refine ifB a (λD a=>?_) λD a=>?_;·intro az ab k;obtain⟨Y,V,rfl,aq,av,ai⟩:=C1.outS (r:=Wp.int.toRp) k (show F2 (Wp.int.R b) ([]:LV) ([]:J0) from trivial);cases a;exact⟨_,_,_,rfl,(New.from (C1.newPlain (r:=Wp.int) k (show F2 (Wp.int.R b) ([]:LV) ([]:J0) from trivial) (M05 _)) z)⟩
 refine ld a g λaF Q y a=>?_;obtain⟨L,S,rfl,af⟩:=slL y;obtain⟨I,A,c⟩:=Sl.rows (r:=Wp.int.toRp) y;refine eX I (aI A ?_);obtain⟨ap,C,a⟩:=D0 a;refine aI (N1 C (by first|rw[fL (show F2 (Wp.int.R b) ([]:LV) ([]:J0) from trivial),fL c]|exact congrArg (·+1) (fL (show F2 (Wp.int.R b) ([]:LV) ([]:J0) from trivial)))) ?_;intro aA ac l;obtain⟨Z,W,rfl,ar,aw,aj⟩:=C1.outS (r:=Wp.int.toRp) l (fA (show F2 (Wp.int.R b) ([]:LV) ([]:J0) from trivial) c);cases a;exact⟨_,_,_,rfl,(New.from (C1.newPlain (r:=Wp.int) l (fA (show F2 (Wp.int.R b) ([]:LV) ([]:J0) from trivial) c) (M05 _)) z)⟩
def i06(h:Hp)(e:List Value)(i:B0)(n:I1.R h e i)(c:Int)(l:I0 c)(r:J0)(a:e03 i c=some r): Tr Tryz.prog 184 #[.agg e.toArray,iV c] h λv h'=>∃(f:Nat) (g d:Nat),v = .slice (some ⟨f,0,none⟩) g d/\New K0 h h' [.slice (some ⟨f,0,none⟩) g d] r:=by obtain⟨A,C,s,t,D,rfl,rfl,j,k,o,x⟩:=opG n;unfold e03 at a;dsimp only at a;refine wk Tryz.f184 ?_;refine trM a (o0j _ _ _ (C0 j k o) 0 oD _ l) ?_;rintro q a F m ⟨w,z,u,rfl,b⟩;obtain⟨G,H⟩:=q;dsimp only at a b;have E:Sub h m:=b.sub;have p:=b.r;obtain⟨rfl,y⟩:=sL p;cases a;exact⟨_,_,_,rfl,b⟩
def p0j(h:Hp)(q:Option Addr)(A u:Nat)(i:K1)(m:Q1.R h [.slice q A u] i)(s:Option Addr)(C w:Nat)(j:J0)(e:K0.R h [.slice s C w] j)(r:J0)(d:F04 i j=some r): Tr Tryz.prog 75 #[.slice q A u,.slice s C w] h λv h'=>∃(p:Option Addr) (z t:Nat),v = .slice p z t/\K0.R h' [.slice p z t] r/\Sub h h':=by
 obtain⟨rfl,av⟩:=sL m;obtain⟨rfl,aw⟩:=sL e;unfold F04 at d;refine wk Tryz.f75 ?_;obtain⟨o,M,d⟩:=D0 d;refine eX { vars:=[6],owns:=[0] } (eX (λvs os h'=>∃ g n l,vs.tail = [iV g]/\os = [n]/\Sub h h'/\I0 g/\F2 (Wp.int.R h') n l/\Y6 j i (P1 vs) g l=some o) (eX (λ_ _=>0) (aI (eX U0 ⟨_,_,_,rfl,rfl,sr,oD,(show F2 (Wp.int.R h) ([]:LV) ([]:J0) from trivial),M⟩) ?_)));rintro _ n f au ⟨g,aW,l,⟨⟩,⟨⟩,b,ai,c,a⟩;replace a:Y6 j i f g l=some o:=a;obtain _|f:=f;·cases a
 rw[Y6.eq_2]at a;refine ifB a (λO a=>?_) λO a=>?_
 ·refine ldI a (K0.mono b e) λaU an a=>?_;refine ldG a (K0.mono b e) λaV ao a=>?_;refine ifB a (λP a=>?_) λP a=>?_;·refine ldI a (K0.mono b e) λaL aj a=>?_;refine ld a (Q1.mono b m) λaM ab D a=>?_;obtain⟨W,ad,rfl,ax⟩:=slL D;obtain⟨U,H,x⟩:=Sl.rows (r:=Wp.int.toRp) D;refine eX U (aI H ?_);obtain⟨aF,K,a⟩:=D0 a;refine aI (N1 K (by first|rw[fL c,fL x]|exact congrArg (·+1) (fL c))) ?_;exact C2 f ⟨_,_,_,rfl,rfl,b,(O0 _),(fA c x),a⟩
  refine ldI a (K0.mono b e) λaN ak a=>?_;refine ldG a (K0.mono b e) λaO al a=>?_;refine ifB a (λN a=>?_) λN a=>?_;·refine ldI a (K0.mono b e) λaP am a=>?_;refine ld a (Q1.mono b m) λaQ ac E a=>?_;obtain⟨X,ae,rfl,ay⟩:=slL E;refine trM a (U04 _ _ _ _ _ E) ?_;rintro aR a aH ap ⟨Y,aC,af,rfl,F,k⟩;obtain⟨rfl,az⟩:=sL F;obtain⟨V,I,y⟩:=Sl.rows (r:=Wp.int.toRp) F;refine eX V (aI I ?_);obtain⟨aG,L,a⟩:=D0 a;refine aI (N1 L (by first|rw[fL (F2.up (r:=Wp.int.toRp) k c),fL y]|exact congrArg (·+1) (fL (F2.up (r:=Wp.int.toRp) k c)))) ?_;exact C2 f ⟨_,_,_,rfl,rfl,(b.trans k),(O0 _),(fA (F2.up (r:=Wp.int.toRp) k c) y),a⟩
  exact C2 f ⟨_,_,_,rfl,rfl,b,(O0 _),c,a⟩
 cases a;try dsimp only[V0,Y0]at d
 refine Or.inl ?_;intro aJ aq J;obtain⟨aa,ah,rfl,Q,T,aB⟩:=C1.out (r:=Wp.int.toRp) J c;refine trM d (r05 _ _ _ _ _ Q) ?_;rintro aS d aK ar ⟨Z,aD,ag,rfl,G,S⟩;obtain⟨rfl,aA⟩:=sL G;cases d;exact⟨_,_,_,rfl,G,((b.trans T).trans S)⟩
def s05(h:Hp)(c:Option Addr)(j d:Nat)(b:J0)(k:K0.R h [.slice c j d] b)(r:J0)(a:C8 b=some r): Tr Tryz.prog 120 #[.slice c j d] h λv h'=>∃(f:Option Addr) (i g:Nat),v = .slice f i g/\New K0 h h' [.slice f i g] r:=by obtain⟨rfl,w⟩:=sL k;unfold C8 at a;refine wk Tryz.f120 ?_;refine Or.inl ?_;intro C l f3;obtain⟨s,u,rfl,o,p,y⟩:=C1.out (r:=K0.toRp) f3 (show F2 (K0.R h) ([[.slice c b.length d]]:LV) [b] from⟨k,trivial⟩);refine trM a (d07 _ _ _ _ _ o) ?_;rintro E a D m ⟨q,z,t,rfl,e⟩;have A:Sub l m:=e.sub;have n:=e.r;obtain⟨rfl,x⟩:=sL n;cases a;exact⟨_,_,_,rfl,(New.from e p)⟩
def l08(h:Hp)(c:Option Addr)(j e:Nat)(k:J0)(l:K0.R h [.slice c j e] k)(r:J0)(a:K9 k=some r): Tr Tryz.prog 50 #[.slice c j e] h λv h'=>∃(g:Nat) (i d:Nat),v = .slice (some ⟨g,0,none⟩) i d/\New K0 h h' [.slice (some ⟨g,0,none⟩) i d] r:=by obtain⟨rfl,t⟩:=sL l;unfold K9 at a;refine wk Tryz.f50 ?_;obtain⟨o,m,b⟩:=Sl.rows (r:=Wp.int.toRp) l;refine eX o (aI m ?_);obtain⟨w,n,a⟩:=D0 a;refine aI (N1 n (by first|rw[fL (show F2 (Wp.int.R h) ([]:LV) ([]:J0) from trivial),fL b]|exact congrArg (·+1) (fL (show F2 (Wp.int.R h) ([]:LV) ([]:J0) from trivial)))) ?_;intro z s f;obtain⟨q,p,rfl,x,y,u⟩:=C1.outS (r:=Wp.int.toRp) f (fA (show F2 (Wp.int.R h) ([]:LV) ([]:J0) from trivial) b);cases a;exact⟨_,_,_,rfl,(C1.newPlain (r:=Wp.int) f (fA (show F2 (Wp.int.R h) ([]:LV) ([]:J0) from trivial) b) (M05 _))⟩
def v0j(h:Hp)(w:Option Addr)(I C:Nat)(f:K1)(o:Q1.R h [.slice w I C] f)(x:Option Addr)(J D:Nat)(K:J0)(L:K0.R h [.slice x J D] K)(r:J0)(b:G04 f K=some r): Tr Tryz.prog 65 #[.slice w I C,.slice x J D] h λv h'=>∃(u:Option Addr) (H A:Nat),v = .slice u H A/\K0.R h' [.slice u H A] r/\Sub h h':=by
 obtain⟨rfl,ag⟩:=sL o;obtain⟨rfl,aA⟩:=sL L;unfold G04 at b;refine wk Tryz.f65 ?_;obtain⟨S,Y,b⟩:=D0 b;obtain⟨ah,al,T,V⟩:=Sl.cutI (r:=Wp.int.toRp) L Y;refine aI ah (eX al (aI T ?_));intro am ad _;obtain⟨an,av,rfl,M⟩:=V am ad;have aB:=(sL M).2;obtain⟨t,Z,b⟩:=D0 b;refine eX { vars:=[15],owns:=[0] } (eX (λvs os h'=>∃ g s j,vs.tail = [iV g]/\os = [s]/\Sub h h'/\I0 g/\F2 (K0.R h') s j/\Z6 S f (P1 vs) g j=some t) (eX (λ_ _=>0) (aI (eX U0 ⟨_,_,_,rfl,rfl,sr,oD,(show F2 (K0.R h) ([]:LV) ([]:K1) from trivial),Z⟩) ?_)));rintro _ s e n ⟨g,aW,j,⟨⟩,⟨⟩,d,az,c,a⟩;replace a:Z6 S f e g j=some t:=a;obtain _|e:=e;·cases a
 rw[Z6.eq_2]at a;refine ifB a (λac a=>?_) λac a=>?_
 ·refine ldI a (K0.mono d M) λaU G a=>?_;refine trV a (U7 _ _ G 1 oD _ (Y0t ag)) λaV a=>?_;refine ifB a (λaa a=>?_) λaa a=>?_;·refine ld a (Q1.mono d o) λk ar p a=>?_;obtain⟨y,E,rfl,aC⟩:=slL p;obtain⟨aL,W,a⟩:=D0 a;refine aI (N1 W (by first|rw[fL c,fL (show F2 (K0.R n) ([[.slice y k.length E]]:LV) [k] from⟨p,trivial⟩)]|exact congrArg (·+1) (fL c))) ?_;exact C2 e ⟨_,_,_,rfl,rfl,d,(O0 _),(fA c (show F2 (K0.R n) ([[.slice y k.length E]]:LV) [k] from⟨p,trivial⟩)),a⟩
  refine trV a (U7 _ _ G (i64.wrap (0-((f.length:Nat):Int))) (O0 _) (-1) oD) λaQ a=>?_;refine ifB a (λab a=>?_) λab a=>?_;·refine ld a (Q1.mono d o) λaR au N a=>?_;obtain⟨ao,aw,rfl,aD⟩:=slL N;refine trM a (c07 _ _ _ _ _ N) ?_;rintro l a aN m ⟨z,aJ,F,rfl,P⟩;have i:Sub n m:=P.sub;have q:=P.r;obtain⟨rfl,aF⟩:=sL q;obtain⟨aM,X,a⟩:=D0 a;refine aI (N1 X (by first|rw[fL (F2.up (r:=K0.toRp) i c),fL (show F2 (K0.R m) ([[.slice z l.length F]]:LV) [l] from⟨q,trivial⟩)]|exact congrArg (·+1) (fL (F2.up (r:=K0.toRp) i c)))) ?_;exact C2 e ⟨_,_,_,rfl,rfl,(d.trans i),(O0 _),(fA (F2.up (r:=K0.toRp) i c) (show F2 (K0.R m) ([[.slice z l.length F]]:LV) [l] from⟨q,trivial⟩)),a⟩
  exact C2 e ⟨_,_,_,rfl,rfl,d,(O0 _),c,a⟩
 cases a;try dsimp only[V0,Y0]at b
 refine Or.inl ?_;intro aO ae U;obtain⟨aq,ay,rfl,ai,ak,aH⟩:=C1.out (r:=K0.toRp) U c;refine trM b (d07 _ _ _ _ _ ai) ?_;rintro aS b aP af ⟨ap,aK,ax,rfl,Q⟩;have aj:Sub ae af:=Q.sub;have O:=Q.r;obtain⟨rfl,aG⟩:=sL O;cases b;exact⟨_,_,_,rfl,O,((d.trans ak).trans aj)⟩
def P04(h:Hp)(p:Option Addr)(A t:Nat)(k:J0)(g:K0.R h [.slice p A t] k)(r:J0)(d:L3 k=some r): Tr Tryz.prog 82 #[.slice p A t] h λv h'=>∃(o:Option Addr) (z s:Nat),v = .slice o z s/\New K0 h h' [.slice o z s] r:=by
 obtain⟨rfl,ab⟩:=sL g;unfold L3 at d;refine wk Tryz.f82 ?_;obtain⟨n,I,d⟩:=D0 d;refine eX { vars:=[4],owns:=[0] } (eX (λvs os h'=>∃ i j l,vs.tail = [iV i]/\os = [j]/\Sub h h'/\I0 i/\F2 (Wp.int.R h') j l/\D3 k (P1 vs) i l=some n) (eX (λ_ _=>0) (aI (eX U0 ⟨_,_,_,rfl,rfl,sr,oD,(show F2 (Wp.int.R h) ([]:LV) ([]:J0) from trivial),I⟩) ?_)));rintro _ j f c ⟨i,ap,l,⟨⟩,⟨⟩,e,U,b,a⟩;replace a:D3 k f i l=some n:=a;obtain _|f:=f;·cases a
 rw[D3.eq_2]at a;refine ifB a (λK a=>?_) λK a=>?_
 ·obtain⟨L,C,a⟩:=D0 a;obtain rfl:j.length=L:=(fL b).trans (oJ C);obtain⟨ag,T,a⟩:=D0 a;refine w1 ?_;refine ldG a (K0.mono e g) λao Z a=>?_;obtain⟨ak,G,a⟩:=D0 a;obtain⟨P,u,M⟩:=S05 b G (A0g c);refine aI (λq=>(u q).1) ?_;obtain⟨rfl,V⟩:=M;refine eX _ (aI (λq=>(u q).2) ?_);refine ldG a (K0.mono e g) λal W a=>?_;obtain⟨am,H,a⟩:=D0 a;obtain⟨Q,w,N⟩:=S05 b H (A0g c);refine aI (λq=>(w q).1) ?_;obtain⟨rfl,X⟩:=N;refine eX _ (aI (λq=>(w q).2) ?_);refine ldG a (K0.mono e g) λan Y a=>?_;refine ifB a (λJ a=>?_) λJ a=>?_;·obtain⟨ad,D,a⟩:=D0 a;refine aI (by have:=N0 D;have:=fL b;omega) ?_;exact C2 f ⟨_,_,_,rfl,rfl,e,(O0 _),(F2.take (i64.wrap (((j.length:Nat):Int)-1)).toNat b),a⟩
  refine ldI a (K0.mono e g) λm y a=>?_;obtain⟨ae,E,a⟩:=D0 a;refine aI (N1 E (by first|rw[fL b,fL (show F2 (Wp.int.R c) ([[iV m]]:LV) [m] from⟨⟨rfl,y⟩,trivial⟩)]|exact congrArg (·+1) (fL b))) ?_;exact C2 f ⟨_,_,_,rfl,rfl,e,(O0 _),(fA b (show F2 (Wp.int.R c) ([[iV m]]:LV) [m] from⟨⟨rfl,y⟩,trivial⟩)),a⟩
 cases a;try dsimp only[V0,Y0]at d
 obtain⟨af,F,d⟩:=D0 d;refine aI (N1 F (by first|rw[fL (show F2 (Wp.int.R c) ([]:LV) ([]:J0) from trivial),fL b]|exact congrArg (·+0) (fL (show F2 (Wp.int.R c) ([]:LV) ([]:J0) from trivial)))) ?_;intro aj aa x;obtain⟨O,S,rfl,ah,ai,ac⟩:=C1.out (r:=Wp.int.toRp) x (fA (show F2 (Wp.int.R c) ([]:LV) ([]:J0) from trivial) b);cases d;exact⟨_,_,_,rfl,(New.from (C1.newPlain (r:=Wp.int) x (fA (show F2 (Wp.int.R c) ([]:LV) ([]:J0) from trivial) b) (M05 _)) e)⟩
end Go.Proofs.YthkpbcnhdhfifaaGreat
