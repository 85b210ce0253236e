/- Texts of the claim, joined: The walks of batch 1 and others. -/
import Derived.Test.YthkpbcnhdhfifaaGreatH53
import Derived.Test.YthkpbcnhdhfifaaGreatPart24
import Derived.Test.YthkpbcnhdhfifaaGreatPart22
import Derived.Test.YthkpbcnhdhfifaaGreatChecked
import Derived.Test.YthkpbcnhdhfifaaGreatH35
import Derived.Test.YthkpbcnhdhfifaaGreatPart23
namespace Go.Proofs.YthkpbcnhdhfifaaGreat
set_option linter.all false
open Go.H
open IntKind (i64)
set_option maxRecDepth 10000
def p5(h:Hp)(a:Int)(e:I0 a)(b:Int)(f:I0 b)(c:Int)(g:I0 c)(r:Bool)(d:i4 a b c=some r): Tr Tryz.prog 106 #[iV a,iV b,iV c] h λv h'=>v = .bool r/\h'=h:=by unfold i4 at d;refine wkF Tryz.f106 ?_;cases d;exact aI rfl sr
def s02(h:Hp)(d:Int)(m:I0 d)(k:Option Addr)(n l:Nat)(i:J0)(e:K0.R h [.slice k n l] i)(r:Bool)(b:I8 d i=some r): Tr Tryz.prog 72 #[iV d,.slice k n l] h λv h'=>v = .bool r/\h'=h:=by
 obtain⟨rfl,A⟩:=sL e;unfold I8 at b;refine wkF Tryz.f72 ?_;obtain⟨j,o,b⟩:=D0 b;refine eX { vars:=[5] } (eX (λvs os h'=>∃ f,vs.tail = [iV f]/\os = []/\Sub h h'/\I0 f/\K00 i d (P1 vs) f=some j) (eX (λ_ _=>0) (aI (eX U0 ⟨_,rfl,rfl,sr,oD,o⟩) ?_)));rintro _ g z ⟨f,⟨⟩,⟨⟩,c,u,a⟩;replace a:K00 i d g f=some j:=a;obtain _|g:=g;·cases a
 rw[K00.eq_2]at a;refine ifB a (λs a=>?_) λs a=>?_
 ·refine w1 ?_;refine ldI a (K0.mono c e) λE x a=>?_;refine ldG a (K0.mono c e) λF t a=>?_;refine trG a (λq=>p5 _ _ t (i64.wrap (0-d)) (O0 _) _ m) λG a=>?_;refine ldG a (K0.mono c e) λH y a=>?_;refine ldG a (K0.mono c e) λC w a=>?_;refine ifB a (λp a=>?_) λp a=>?_
  ·cases a;try dsimp only[Y2,N3]at b
   cases b;exact aI rfl c
  exact C2 g ⟨_,rfl,rfl,c,(O0 _),a⟩
 cases a;try dsimp only[V0,Y0]at b
 refine trV b (p5 _ _ m 1 oD 3 oD) λD b=>?_;cases b;exact aI rfl c
def K0f(h:Hp)(j:Option Addr)(l k:Nat)(f:K1)(m:Q1.R h [.slice j l k] f)(r:Int)(b:Y00 f=some r): Tr Tryz.prog 143 #[.slice j l k] h λv h'=>v=iV r/\h'=h:=by
 obtain⟨rfl,y⟩:=sL m;unfold Y00 at b;refine wkF Tryz.f143 ?_;obtain⟨i,n,b⟩:=D0 b;refine eX { vars:=[3,4] } (eX (λvs os h'=>∃ c d,vs.tail = [iV c,iV d]/\os = []/\Sub h h'/\I0 c/\I0 d/\T4 f (P1 vs) c d=some i) (eX (λ_ _=>0) (aI (eX U0 ⟨_,_,rfl,rfl,sr,oD,oD,n⟩) ?_)));rintro _ _ e x ⟨c,d,⟨⟩,⟨⟩,g,u,w,a⟩;replace a:T4 f e c d=some i:=a;obtain _|e:=e;·cases a
 rw[T4.eq_2]at a;refine ifB a (λo a=>?_) λo a=>?_;·refine ld a (Q1.mono g m) λA s p a=>?_;obtain⟨q,t,rfl,z⟩:=slL p;exact C2 e ⟨_,_,rfl,rfl,g,(O0 _),(O0 _),a⟩
 cases a;try dsimp only[V0,Y0]at b
 cases b;exact aI rfl g
def i08(h:Hp)(c:Int)(m:I0 c)(k:Option Addr)(n l:Nat)(g:K1)(i:Q1.R h [.slice k n l] g)(r:Bool)(b:V01 c g=some r): Tr Tryz.prog 71 #[iV c,.slice k n l] h λv h'=>v = .bool r/\h'=h:=by
 obtain⟨rfl,E⟩:=sL i;unfold V01 at b;refine wkF Tryz.f71 ?_;obtain⟨j,s,b⟩:=D0 b;refine eX { vars:=[5] } (eX (λvs os h'=>∃ e,vs.tail = [iV e]/\os = []/\Sub h h'/\I0 e/\c9 g c (P1 vs) e=some j) (eX (λ_ _=>0) (aI (eX U0 ⟨_,rfl,rfl,sr,oD,s⟩) ?_)));rintro _ f D ⟨e,⟨⟩,⟨⟩,d,A,a⟩;replace a:c9 g c f e=some j:=a;obtain _|f:=f;·cases a
 rw[c9.eq_2]at a;refine ifB a (λt a=>?_) λt a=>?_
 ·refine ld a (Q1.mono d i) λH y o a=>?_;obtain⟨x,z,rfl,F⟩:=slL o;refine trV a (s02 _ _ m _ _ _ _ o) λI a=>?_;refine ifB a (λu a=>?_) λu a=>?_
  ·cases a;try dsimp only[Y2,N3]at b
   cases b;exact aI rfl d
  exact C2 f ⟨_,rfl,rfl,d,(O0 _),a⟩
 cases a;try dsimp only[V0,Y0]at b
 refine trV b (p5 _ _ m 1 oD 3 oD) λJ b=>?_;refine trG b (λq=>K0f _ _ _ _ _ (Q1.mono d i)) λw b=>?_;obtain⟨G,p,b⟩:=D0 b;have C:I0 w:=N0 p;cases b;exact aI rfl d
def U7(h:Hp)(a:Int)(e:I0 a)(b:Int)(f:I0 b)(c:Int)(g:I0 c)(r:Bool)(d:A5 a b c=some r): Tr Tryz.prog 105 #[iV a,iV b,iV c] h λv h'=>v = .bool r/\h'=h:=by unfold A5 at d;refine wkF Tryz.f105 ?_;cases d;exact aI rfl sr
def h0j(h:Hp)(b:Int)(d:I0 b)(c:Int)(e:I0 c)(r:Bool)(a:x04 b c=some r): Tr Tryz.prog 117 #[iV b,iV c] h λv h'=>v = .bool r/\h'=h:=by unfold x04 at a;refine wkF Tryz.f117 ?_;refine trG a (λq=>U7 _ _ e (i64.wrap (0-b)) (O0 _) _ d) λf a=>?_;cases a;exact aI rfl sr
def R09(h:Hp)(a:Int)(d:I0 a)(b:Int)(e:I0 b)(r:Bool)(c:J01 a b=some r): Tr Tryz.prog 118 #[iV a,iV b] h λv h'=>v = .bool r/\h'=h:=by unfold J01 at c;refine wkF Tryz.f118 ?_;cases c;exact aI rfl sr
def t02(h:Hp)(c:Int)(m:I0 c)(k:Option Addr)(o l:Nat)(g:J0)(i:K0.R h [.slice k o l] g)(r:Bool)(b:J8 c g=some r): Tr Tryz.prog 48 #[iV c,.slice k o l] h λv h'=>v = .bool r/\h'=h:=by
 obtain⟨rfl,z⟩:=sL i;unfold J8 at b;refine wkF Tryz.f48 ?_;refine trV b (U7 _ _ m 1 oD 3 oD) λA b=>?_;refine ifB b (λt b=>?_) λt b=>?_;·cases b;exact aI rfl sr
 obtain⟨j,p,b⟩:=D0 b;refine eX { vars:=[17] } (eX (λvs os h'=>∃ e,vs.tail = [iV e]/\os = []/\Sub h h'/\I0 e/\L00 g c (P1 vs) e=some j) (eX (λ_ _=>0) (aI (eX U0 ⟨_,rfl,rfl,sr,oD,p⟩) ?_)));rintro _ f y ⟨e,⟨⟩,⟨⟩,d,x,a⟩;replace a:L00 g c f e=some j:=a;obtain _|f:=f;·cases a
 rw[L00.eq_2]at a;refine ifB a (λu a=>?_) λu a=>?_
 ·refine ldI a (K0.mono d i) λE n a=>?_;refine trV a (h0j _ _ m _ n) λF a=>?_;refine ldG a (K0.mono d i) λC w a=>?_;refine trG a (λq=>R09 _ _ w _ n) λD a=>?_;refine ifB a (λs a=>?_) λs a=>?_
  ·cases a;try dsimp only[Y2,N3]at b
   cases b;exact aI rfl d
  exact C2 f ⟨_,rfl,rfl,d,(O0 _),a⟩
 cases a;try dsimp only[V0,Y0]at b
 cases b;exact aI rfl d
def L0f(h:Hp)(j:Option Addr)(l k:Nat)(f:K1)(m:Q1.R h [.slice j l k] f)(r:Int)(b:E02 f=some r): Tr Tryz.prog 136 #[.slice j l k] h λv h'=>v=iV r/\h'=h:=by
 obtain⟨rfl,y⟩:=sL m;unfold E02 at b;refine wkF Tryz.f136 ?_;obtain⟨i,n,b⟩:=D0 b;refine eX { vars:=[3,8] } (eX (λvs os h'=>∃ c d,vs.tail = [iV c,iV d]/\os = []/\Sub h h'/\I0 c/\I0 d/\p8 f (P1 vs) c d=some i) (eX (λ_ _=>0) (aI (eX U0 ⟨_,_,rfl,rfl,sr,oD,oD,n⟩) ?_)));rintro _ _ e x ⟨c,d,⟨⟩,⟨⟩,g,u,w,a⟩;replace a:p8 f e c d=some i:=a;obtain _|e:=e;·cases a
 rw[p8.eq_2]at a;refine ifB a (λo a=>?_) λo a=>?_;·refine ld a (Q1.mono g m) λA s p a=>?_;obtain⟨q,t,rfl,z⟩:=slL p;exact C2 e ⟨_,_,rfl,rfl,g,(O0 _),(O0 _),a⟩
 cases a;try dsimp only[V0,Y0]at b
 cases b;exact aI rfl g
def j08(h:Hp)(c:Int)(m:I0 c)(k:Option Addr)(n l:Nat)(g:K1)(i:Q1.R h [.slice k n l] g)(r:Bool)(a:W01 c g=some r): Tr Tryz.prog 61 #[iV c,.slice k n l] h λv h'=>v = .bool r/\h'=h:=by
 obtain⟨rfl,E⟩:=sL i;unfold W01 at a;refine wkF Tryz.f61 ?_;refine trV a (U7 _ _ m 1 oD 3 oD) λH a=>?_;refine ifB a (λt a=>?_) λt a=>?_;·cases a;exact aI rfl sr
 obtain⟨j,q,a⟩:=D0 a;refine eX { vars:=[17] } (eX (λvs os h'=>∃ e,vs.tail = [iV e]/\os = []/\Sub h h'/\I0 e/\d9 g c (P1 vs) e=some j) (eX (λ_ _=>0) (aI (eX U0 ⟨_,rfl,rfl,sr,oD,q⟩) ?_)));rintro _ f D ⟨e,⟨⟩,⟨⟩,d,A,b⟩;replace b:d9 g c f e=some j:=b;obtain _|f:=f;·cases b
 rw[d9.eq_2]at b;refine ifB b (λu b=>?_) λu b=>?_
 ·refine ld b (Q1.mono d i) λI y o b=>?_;obtain⟨x,z,rfl,F⟩:=slL o;refine trV b (t02 _ _ m _ _ _ _ o) λJ b=>?_;refine ifB b (λs b=>?_) λs b=>?_
  ·cases b;try dsimp only[Y2,N3]at a
   cases a;exact aI rfl d
  exact C2 f ⟨_,rfl,rfl,d,(O0 _),b⟩
 cases b;try dsimp only[V0,Y0]at a
 refine trV a (L0f _ _ _ _ _ (Q1.mono d i)) λw a=>?_;obtain⟨G,p,a⟩:=D0 a;have C:I0 w:=N0 p;cases a;exact aI rfl d
def p06(h:Hp)(b:Int)(f:I0 b)(c:Int)(g:I0 c)(r:Int)(a:P9 b c=some r): Tr Tryz.prog 191 #[iV b,iV c] h λv h'=>v=iV r/\h'=h:=by
 unfold P9 at a;refine wkF Tryz.f191 ?_;refine ifB a (λd a=>?_) λd a=>?_;·cases a;exact aI rfl sr
 refine ifB a (λe a=>?_) λe a=>?_;·cases a;exact aI rfl sr
 cases a;exact aI rfl sr
def o00(h:Hp)(g:Int)(z:I0 g)(r:BA)(b:I5 g=some r): Tr Tryz.prog 100 #[iV g] h λv h'=>v = .string r/\h'=h:=by
 unfold I5 at b;refine wkF Tryz.f100 ?_;refine ifB b (λu b=>?_) λu b=>?_;·cases b;exact aI rfl sr
 obtain⟨i,t,b⟩:=D0 b;refine eX { vars:=[0,3] } (eX (λvs os h'=>∃ c e,vs.tail = [iV c,.string e]/\os = []/\Sub h h'/\I0 c/\e.size<=9223372036854775807/\r6 (P1 vs) c e=some i) (eX (λ_ _=>0) (aI (eX U0 ⟨_,_,rfl,rfl,sr,z,oD,t⟩) ?_)));rintro _ _ d l ⟨c,e,⟨⟩,⟨⟩,f,E,F,a⟩;replace a:r6 d c e=some i:=a;obtain _|d:=d;·cases a
 rw[r6.eq_2]at a;refine ifB a (λx a=>?_) λx a=>?_
 ·obtain⟨N,s,a⟩:=D0 a;refine aI (N0 s) ?_;refine ifB a (λy a=>?_) λy a=>?_;·refine eX [(IntKind.u8.wrap (i64.wrap (48+(i64.wrap (0-(Int.tmod c 10))))))] (aI (F2.u8 (show F2 (Rp.u8.R l) ([[.int .u8 (IntKind.u8.wrap (i64.wrap (48+(i64.wrap (0-(Int.tmod c 10))))))]]:LV) [(IntKind.u8.wrap (i64.wrap (48+(i64.wrap (0-(Int.tmod c 10))))))] from⟨rfl,trivial⟩)) ?_);obtain⟨G,C,a⟩:=D0 a;obtain⟨H,m,a⟩:=D0 a;have j:=N0 m;refine aI j ?_;obtain⟨I,n,a⟩:=D0 a;refine aI (N0 n) ?_;exact C2 d ⟨_,_,rfl,rfl,f,(O0 _),(F03 j),a⟩
  refine eX [(IntKind.u8.wrap (i64.wrap (48+(Int.tmod c 10))))] (aI (F2.u8 (show F2 (Rp.u8.R l) ([[.int .u8 (IntKind.u8.wrap (i64.wrap (48+(Int.tmod c 10))))]]:LV) [(IntKind.u8.wrap (i64.wrap (48+(Int.tmod c 10))))] from⟨rfl,trivial⟩)) ?_);obtain⟨J,D,a⟩:=D0 a;obtain⟨K,o,a⟩:=D0 a;have k:=N0 o;refine aI k ?_;obtain⟨L,p,a⟩:=D0 a;refine aI (N0 p) ?_;exact C2 d ⟨_,_,rfl,rfl,f,(O0 _),(F03 k),a⟩
 cases a;try dsimp only[V0,Y0]at b
 refine ifB b (λw b=>?_) λw b=>?_;·obtain⟨M,q,b⟩:=D0 b;have A:=N0 q;refine aI A ?_;cases b;exact aI rfl f
 cases b;exact aI rfl f
def i0j(h:Hp)(b:Int)(c:I0 b)(r:Bool)(a:J04 b=some r): Tr Tryz.prog 164 #[iV b] h λv h'=>v = .bool r/\h'=h:=by unfold J04 at a;refine wkF Tryz.f164 ?_;refine trG a (λq=>p5 _ _ c (-3) oD 3 oD) λd a=>?_;cases a;exact aI rfl sr
def a0f(h:Hp)(b:Int)(o:I0 b)(r:BA)(a:Y05 b=some r): Tr Tryz.prog 163 #[iV b] h λv h'=>v = .string r/\h'=h:=by
 unfold Y05 at a;refine wkF Tryz.f163 ?_;refine ifB a (λj a=>?_) λj a=>?_;·obtain⟨s,g,a⟩:=D0 a;obtain⟨c,m,e,k⟩:=J3 (show F2 (Wp.str.R h) ([[.string (⟨#[65]⟩:BA)],[.string (⟨#[66]⟩:BA)],[.string (⟨#[67]⟩:BA)]]:LV) [(⟨#[65]⟩:BA),(⟨#[66]⟩:BA),(⟨#[67]⟩:BA)] from⟨⟨rfl,oD⟩,⟨⟨rfl,oD⟩,⟨⟨rfl,oD⟩,trivial⟩⟩⟩) g;refine aI c ?_;obtain⟨rfl,p⟩:=k;refine eX _ (aI e ?_);cases a;exact aI rfl sr
 obtain⟨t,i,a⟩:=D0 a;obtain⟨d,n,f,l⟩:=J3 (show F2 (Wp.str.R h) ([[.string (⟨#[97]⟩:BA)],[.string (⟨#[98]⟩:BA)],[.string (⟨#[99]⟩:BA)]]:LV) [(⟨#[97]⟩:BA),(⟨#[98]⟩:BA),(⟨#[99]⟩:BA)] from⟨⟨rfl,oD⟩,⟨⟨rfl,oD⟩,⟨⟨rfl,oD⟩,trivial⟩⟩⟩) i;refine aI d ?_;obtain⟨rfl,q⟩:=l;refine eX _ (aI f ?_);cases a;exact aI rfl sr
def b07(h:Hp)(k:Option Addr)(n l:Nat)(g:J0)(i:K0.R h [.slice k n l] g)(r:BA)(b:z00 g=some r): Tr Tryz.prog 102 #[.slice k n l] h λv h'=>v = .string r/\h'=h:=by
 obtain⟨rfl,E⟩:=sL i;unfold z00 at b;refine wkF Tryz.f102 ?_;obtain⟨j,q,b⟩:=D0 b;refine eX { vars:=[3,4] } (eX (λvs os h'=>∃ d e,vs.tail = [.string d,iV e]/\os = []/\Sub h h'/\d.size<=9223372036854775807/\I0 e/\d8 g (P1 vs) d e=some j) (eX (λ_ _=>0) (aI (eX U0 ⟨_,_,rfl,rfl,sr,oD,oD,q⟩) ?_)));rintro _ _ f D ⟨d,e,⟨⟩,⟨⟩,c,z,A,a⟩;replace a:d8 g f d e=some j:=a;obtain _|f:=f;·cases a
 rw[d8.eq_2]at a;refine ifB a (λt a=>?_) λt a=>?_
 ·refine ldI a (K0.mono c i) λI x a=>?_;refine trV a (i0j _ _ x) λJ a=>?_;refine ifB a (λu a=>?_) λu a=>?_
  ·cases a;try dsimp only[Y2,N3]at b
   cases b;exact aI rfl c
  refine ldI a (K0.mono c i) λH w a=>?_;refine trV a (a0f _ _ w) λy a=>?_;obtain⟨F,o,a⟩:=D0 a;have C:y.size<=9223372036854775807:=N0 o;obtain⟨G,p,a⟩:=D0 a;have m:=N0 p;refine aI m ?_;exact C2 f ⟨_,_,rfl,rfl,c,(F03 m),(O0 _),a⟩
 cases a;try dsimp only[V0,Y0]at b
 refine ifB b (λs b=>?_) λs b=>?_;·cases b;exact aI rfl c
 cases b;exact aI rfl c
def M0f(h:Hp)(k:Option Addr)(o l:Nat)(g:K1)(i:Q1.R h [.slice k o l] g)(r:BA)(b:L02 g=some r): Tr Tryz.prog 101 #[.slice k o l] h λv h'=>v = .string r/\h'=h:=by
 obtain⟨rfl,U⟩:=sL i;unfold L02 at b;refine wkF Tryz.f101 ?_;obtain⟨j,y,b⟩:=D0 b;refine eX { vars:=[3,4] } (eX (λvs os h'=>∃ e f,vs.tail = [.string e,iV f]/\os = []/\Sub h h'/\e.size<=9223372036854775807/\I0 f/\G4 g (P1 vs) e f=some j) (eX (λ_ _=>0) (aI (eX U0 ⟨_,_,rfl,rfl,sr,oD,oD,y⟩) ?_)));rintro _ _ d T ⟨e,f,⟨⟩,⟨⟩,c,O,P,a⟩;replace a:G4 g d e f=some j:=a;obtain _|d:=d;·cases a
 rw[G4.eq_2]at a;refine ifB a (λD a=>?_) λD a=>?_
 ·refine ifB a (λE a=>?_) λE a=>?_
  ·obtain⟨ab,x,a⟩:=D0 a;have F:=N0 x;refine aI F ?_;refine ld a (Q1.mono c i) λad L q a=>?_;obtain⟨J,N,rfl,W⟩:=slL q;refine trV a (b07 _ _ _ _ _ q) λG a=>?_;obtain⟨X,s,a⟩:=D0 a;have Q:G.size<=9223372036854775807:=N0 s;refine ifB a (λz a=>?_) λz a=>?_
   ·cases a;try dsimp only[Y2,N3]at b
    cases b;exact aI rfl c
   obtain⟨Y,t,a⟩:=D0 a;have m:=N0 t;refine aI m ?_;exact C2 d ⟨_,_,rfl,rfl,c,(F03 m),(O0 _),a⟩
  refine ld a (Q1.mono c i) λac K p a=>?_;obtain⟨I,M,rfl,V⟩:=slL p;refine trV a (b07 _ _ _ _ _ p) λH a=>?_;obtain⟨Z,u,a⟩:=D0 a;have S:H.size<=9223372036854775807:=N0 u;refine ifB a (λA a=>?_) λA a=>?_
  ·cases a;try dsimp only[Y2,N3]at b
   cases b;exact aI rfl c
  obtain⟨aa,w,a⟩:=D0 a;have n:=N0 w;refine aI n ?_;exact C2 d ⟨_,_,rfl,rfl,c,(F03 n),(O0 _),a⟩
 cases a;try dsimp only[V0,Y0]at b
 refine ifB b (λC b=>?_) λC b=>?_;·cases b;exact aI rfl c
 cases b;exact aI rfl c
theorem d01(h:Hp)(p0:Int)(ip0:I0 p0)(r:ByteArray)(hM0:Q6 p0=some r): Tr Tryz.prog 94 #[.int .i64 p0] h λv h'=>v = .string r/\h'=h:=by
 unfold Q6 at hM0;refine Tr.forget (V4 (args:=[.int .i64 p0]) (fn:=Tryz.f94) rfl ?_);refine ifB hM0 (λhc1 hM0=>?_) λhc1 hM0=>?_;·obtain rfl:=oJ hM0;exact aI rfl (Sub.refl _)
 obtain⟨X2,hLX2,hM0⟩:=D0 hM0;refine eX { vars:=[4],boxes:=[],owns:=[0],fuel:=true } (eX (λvs os h'=>∃ u3 wu4 u4,vs.tail = [.int .i64 u3]/\os = [wu4]/\Sub h h'/\I0 u3/\F2 (Rp.u8.R h') wu4 u4/\w6 (P1 vs) u3 u4=some X2) (eX (λ_ _=>0) (aI (eX U0 ⟨p0,[],([]:(List Int)),rfl,rfl,(Sub.refl _),ip0,(show F2 (Rp.u8.R h) ([]:List (List Value)) ([]:(List Int)) from trivial),hLX2⟩) ?_)));rintro _ wu4 m6 k5 ⟨u3,zzu4,u4,⟨⟩,⟨⟩,sX2,iu3,fu4,hM1⟩;replace hM1:w6 m6 u3 u4=some X2:=hM1;obtain _|m6:=m6;·cases hM1
 rw[w6.eq_2]at hM1;refine ifB hM1 (λhc7 hM1=>?_) λhc7 hM1=>?_
 ·obtain⟨q8,gq8,hM1⟩:=D0 hM1;refine aI (N0 gq8) ?_;refine ifB hM1 (λhc9 hM1=>?_) λhc9 hM1=>?_;·obtain⟨q10,gq10,hM1⟩:=D0 hM1;refine aI (N1 gq10 (by first|rw[F2.length fu4,F2.length (show F2 (Rp.u8.R k5) ([[.int .u8 (IntKind.u8.wrap (IntKind.i64.wrap (48+(IntKind.i64.wrap (0-(Int.tmod u3 10))))))]]:List (List Value)) [(IntKind.u8.wrap (IntKind.i64.wrap (48+(IntKind.i64.wrap (0-(Int.tmod u3 10))))))] from⟨rfl,trivial⟩)]|exact congrArg (·+1) (F2.length fu4))) ?_;obtain⟨q11,gq11,hM1⟩:=D0 hM1;refine aI (N0 gq11) ?_;exact C2 m6 ⟨(IntKind.i64.wrap (Int.tdiv u3 10)),(wu4++([[.int .u8 (IntKind.u8.wrap (IntKind.i64.wrap (48+(IntKind.i64.wrap (0-(Int.tmod u3 10))))))]]:List (List Value))),(u4 ++ [(IntKind.u8.wrap (IntKind.i64.wrap (48+(IntKind.i64.wrap (0-(Int.tmod u3 10))))))]),rfl,rfl,sX2,(O0 _),(F2.append fu4 (show F2 (Rp.u8.R k5) ([[.int .u8 (IntKind.u8.wrap (IntKind.i64.wrap (48+(IntKind.i64.wrap (0-(Int.tmod u3 10))))))]]:List (List Value)) [(IntKind.u8.wrap (IntKind.i64.wrap (48+(IntKind.i64.wrap (0-(Int.tmod u3 10))))))] from⟨rfl,trivial⟩)),hM1⟩
  obtain⟨q12,gq12,hM1⟩:=D0 hM1;refine aI (N1 gq12 (by first|rw[F2.length fu4,F2.length (show F2 (Rp.u8.R k5) ([[.int .u8 (IntKind.u8.wrap (IntKind.i64.wrap (48+(Int.tmod u3 10))))]]:List (List Value)) [(IntKind.u8.wrap (IntKind.i64.wrap (48+(Int.tmod u3 10))))] from⟨rfl,trivial⟩)]|exact congrArg (·+1) (F2.length fu4))) ?_;obtain⟨q13,gq13,hM1⟩:=D0 hM1;refine aI (N0 gq13) ?_;exact C2 m6 ⟨(IntKind.i64.wrap (Int.tdiv u3 10)),(wu4++([[.int .u8 (IntKind.u8.wrap (IntKind.i64.wrap (48+(Int.tmod u3 10))))]]:List (List Value))),(u4 ++ [(IntKind.u8.wrap (IntKind.i64.wrap (48+(Int.tmod u3 10))))]),rfl,rfl,sX2,(O0 _),(F2.append fu4 (show F2 (Rp.u8.R k5) ([[.int .u8 (IntKind.u8.wrap (IntKind.i64.wrap (48+(Int.tmod u3 10))))]]:List (List Value)) [(IntKind.u8.wrap (IntKind.i64.wrap (48+(Int.tmod u3 10))))] from⟨rfl,trivial⟩)),hM1⟩
 obtain rfl:=oJ hM1;try dsimp only[V0,Y0]at hM0
 refine ifB hM0 (λhc14 hM0=>?_) λhc14 hM0=>?_
 ·obtain⟨q15,gq15,hM0⟩:=D0 hM0;refine aI (N1 gq15 (by first|rw[F2.length fu4,F2.length (show F2 (Rp.u8.R k5) ([[.int .u8 45]]:List (List Value)) [45] from⟨rfl,trivial⟩)]|exact congrArg (·+1) (F2.length fu4))) ?_;obtain⟨m16,gm16,hM0⟩:=D0 hM0;obtain rfl:(wu4++([[.int .u8 45]]:List (List Value))).length=m16:=(F2.length (F2.append fu4 (show F2 (Rp.u8.R k5) ([[.int .u8 45]]:List (List Value)) [45] from⟨rfl,trivial⟩))).trans (oJ gm16);obtain⟨q17,gq17,hM0⟩:=D0 hM0;obtain⟨X18,hLX18,hM0⟩:=D0 hM0;refine eX { vars:=[6,7],boxes:=[],owns:=[0],fuel:=true,kept:=[0] } (eX (λvs os h'=>∃ u19 u20 wu21 u21,vs.tail = [.int .i64 u19,.int .i64 u20]/\os = [wu21]/\Sub k5 h'/\I0 u19/\I0 u20/\F2 (Rp.u8.R h') wu21 u21/\Q4 (P1 vs) u19 u20 u21=some X18) (eX (λ_ _=>0) (aI (eX U0 ⟨0,(IntKind.i64.wrap ((((wu4++([[.int .u8 45]]:List (List Value))).length:Nat):Int)-1)),(wu4++([[.int .u8 45]]:List (List Value))),(u4 ++ [45]),rfl,rfl,(Sub.refl _),(by decide),(O0 _),(F2.append fu4 (show F2 (Rp.u8.R k5) ([[.int .u8 45]]:List (List Value)) [45] from⟨rfl,trivial⟩)),hLX18⟩) ?_)));rintro _ _ wu21 m23 k22 ⟨u19,u20,zzu21,u21,⟨⟩,⟨⟩,sX18,iu19,iu20,fu21,hM1⟩;replace hM1:Q4 m23 u19 u20 u21=some X18:=hM1;obtain _|m23:=m23;·cases hM1
  rw[Q4.eq_2]at hM1;refine ifB hM1 (λhc24 hM1=>?_) λhc24 hM1=>?_
  ·refine Or.inr (Or.inr (Or.inr (Or.inr (eX 12 (aI (aI (by kernel_rfl) (by kernel_rfl)) ?_)))));obtain⟨x25,gx25,hM1⟩:=D0 hM1;obtain⟨bx25,csx25,ex25,rx25⟩:=J3 fu21 gx25;obtain rfl:=rx25;refine Or.inl ?_;apply eX;refine aI ?_ ?_;·intro k26 s27;exact aI bx25 (aI rfl (aI rfl rfl))
   refine Or.inl (eX (.val (.int .u8 x25)) (aI ?_ ?_));·intro k28 s29;exact eX _ (aI ex25 (aI rfl (aI rfl rfl)))
   obtain⟨x30,gx30,hM1⟩:=D0 hM1;obtain⟨bx30,csx30,ex30,rx30⟩:=J3 fu21 gx30;obtain rfl:=rx30;refine Or.inl ?_;apply eX;refine aI ?_ ?_;·intro k31 s32;exact aI bx30 (aI rfl (aI rfl rfl))
   refine Or.inl (eX (.val (.int .u8 x30)) (aI ?_ ?_));·intro k33 s34;exact eX _ (aI ex30 (aI rfl (aI rfl rfl)))
   intro k35 s36;obtain⟨x37,gx37,hM1⟩:=D0 hM1;obtain⟨bx37,csx37,ex37,rx37⟩:=J3 (F2.up (r:=Rp.u8) s36 fu21) gx37;refine aI bx37 ?_;obtain rfl:=rx37;refine eX _ (aI ex37 ?_);obtain⟨x38,gx38,hM1⟩:=D0 hM1;obtain⟨bx38,csx38,ex38,rx38⟩:=J3 (F2.set (p:=Rp.u8.R k35) (a:=[.int .u8 x25]) (b:=x25) rfl u19.toNat (F2.up (r:=Rp.u8) s36 fu21)) gx38;refine aI bx38 ?_;obtain rfl:=rx38;refine eX _ (aI ex38 ?_);exact C2 m23 ⟨(IntKind.i64.wrap (u19+1)),(IntKind.i64.wrap (u20-1)),((wu21.set u19.toNat [.int .u8 x25]).set u20.toNat [.int .u8 x30]),((u21.set u19.toNat x25).set u20.toNat x30),rfl,rfl,(sX18.trans s36),(O0 _),(O0 _),(F2.set (p:=Rp.u8.R k35) (a:=[.int .u8 x30]) (b:=x30) rfl u20.toNat (F2.set (p:=Rp.u8.R k35) (a:=[.int .u8 x25]) (b:=x25) rfl u19.toNat (F2.up (r:=Rp.u8) s36 fu21))),hM1⟩
  obtain rfl:=oJ hM1;try dsimp only[V0,Y0]at hM0
  refine eX u21 (aI (F2.u8 fu21) ?_);obtain⟨q39,gq39,hM0⟩:=D0 hM0;obtain rfl:=oJ hM0;exact aI rfl (sX2.trans sX18)
 obtain⟨m45,gm45,hM0⟩:=D0 hM0;obtain rfl:wu4.length=m45:=(F2.length fu4).trans (oJ gm45);obtain⟨q46,gq46,hM0⟩:=D0 hM0;obtain⟨X47,hLX47,hM0⟩:=D0 hM0;refine eX { vars:=[6,7],boxes:=[],owns:=[0],fuel:=true,kept:=[0] } (eX (λvs os h'=>∃ u48 u49 wu50 u50,vs.tail = [.int .i64 u48,.int .i64 u49]/\os = [wu50]/\Sub k5 h'/\I0 u48/\I0 u49/\F2 (Rp.u8.R h') wu50 u50/\Q4 (P1 vs) u48 u49 u50=some X47) (eX (λ_ _=>0) (aI (eX U0 ⟨0,(IntKind.i64.wrap (((wu4.length:Nat):Int)-1)),wu4,u4,rfl,rfl,(Sub.refl _),(by decide),(O0 _),fu4,hLX47⟩) ?_)));rintro _ _ wu50 m52 k51 ⟨u48,u49,zzu50,u50,⟨⟩,⟨⟩,sX47,iu48,iu49,fu50,hM1⟩;replace hM1:Q4 m52 u48 u49 u50=some X47:=hM1;obtain _|m52:=m52;·cases hM1
 rw[Q4.eq_2]at hM1;refine ifB hM1 (λhc53 hM1=>?_) λhc53 hM1=>?_
 ·refine Or.inr (Or.inr (Or.inr (Or.inr (eX 12 (aI (aI (by kernel_rfl) (by kernel_rfl)) ?_)))));obtain⟨x54,gx54,hM1⟩:=D0 hM1;obtain⟨bx54,csx54,ex54,rx54⟩:=J3 fu50 gx54;obtain rfl:=rx54;refine Or.inl ?_;apply eX;refine aI ?_ ?_;·intro k55 s56;exact aI bx54 (aI rfl (aI rfl rfl))
  refine Or.inl (eX (.val (.int .u8 x54)) (aI ?_ ?_));·intro k57 s58;exact eX _ (aI ex54 (aI rfl (aI rfl rfl)))
  obtain⟨x59,gx59,hM1⟩:=D0 hM1;obtain⟨bx59,csx59,ex59,rx59⟩:=J3 fu50 gx59;obtain rfl:=rx59;refine Or.inl ?_;apply eX;refine aI ?_ ?_;·intro k60 s61;exact aI bx59 (aI rfl (aI rfl rfl))
  refine Or.inl (eX (.val (.int .u8 x59)) (aI ?_ ?_));·intro k62 s63;exact eX _ (aI ex59 (aI rfl (aI rfl rfl)))
  intro k64 s65;obtain⟨x66,gx66,hM1⟩:=D0 hM1;obtain⟨bx66,csx66,ex66,rx66⟩:=J3 (F2.up (r:=Rp.u8) s65 fu50) gx66;refine aI bx66 ?_;obtain rfl:=rx66;refine eX _ (aI ex66 ?_);obtain⟨x67,gx67,hM1⟩:=D0 hM1;obtain⟨bx67,csx67,ex67,rx67⟩:=J3 (F2.set (p:=Rp.u8.R k64) (a:=[.int .u8 x54]) (b:=x54) rfl u48.toNat (F2.up (r:=Rp.u8) s65 fu50)) gx67;refine aI bx67 ?_;obtain rfl:=rx67;refine eX _ (aI ex67 ?_);exact C2 m52 ⟨(IntKind.i64.wrap (u48+1)),(IntKind.i64.wrap (u49-1)),((wu50.set u48.toNat [.int .u8 x54]).set u49.toNat [.int .u8 x59]),((u50.set u48.toNat x54).set u49.toNat x59),rfl,rfl,(sX47.trans s65),(O0 _),(O0 _),(F2.set (p:=Rp.u8.R k64) (a:=[.int .u8 x59]) (b:=x59) rfl u49.toNat (F2.set (p:=Rp.u8.R k64) (a:=[.int .u8 x54]) (b:=x54) rfl u48.toNat (F2.up (r:=Rp.u8) s65 fu50))),hM1⟩
 obtain rfl:=oJ hM1;try dsimp only[V0,Y0]at hM0
 refine eX u50 (aI (F2.u8 fu50) ?_);obtain⟨q68,gq68,hM0⟩:=D0 hM0;obtain rfl:=oJ hM0;exact aI rfl (sX2.trans sX47)
def S09(h:Hp)(b:Int)(c:I0 b)(r:BA)(a:A00 b=some r): Tr Tryz.prog 162 #[iV b] h λv h'=>v = .string r/\h'=h:=by
 unfold A00 at a;refine wkF Tryz.f162 ?_;refine trV a (U7 _ _ c 1 oD 3 oD) λk a=>?_;refine ifB a (λf a=>?_) λf a=>?_;·obtain⟨i,d,a⟩:=D0 a;refine aI (N0 d) ?_;cases a;exact aI rfl sr
 refine trV a (U7 _ _ c (-3) oD (-1) oD) λl a=>?_;refine ifB a (λg a=>?_) λg a=>?_;·obtain⟨j,e,a⟩:=D0 a;refine aI (N0 e) ?_;cases a;exact aI rfl sr
 cases a;exact aI rfl sr
def T09(h:Hp)(j:Option Addr)(m k:Nat)(f:J0)(n:K0.R h [.slice j m k] f)(r:BA)(b:S01 f=some r): Tr Tryz.prog 96 #[.slice j m k] h λv h'=>v = .string r/\h'=h:=by
 obtain⟨rfl,D⟩:=sL n;unfold S01 at b;refine wkF Tryz.f96 ?_;refine ifB b (λs b=>?_) λs b=>?_;·cases b;exact aI rfl sr
 obtain⟨i,q,b⟩:=D0 b;refine eX { vars:=[3,12] } (eX (λvs os h'=>∃ c d,vs.tail = [.string c,iV d]/\os = []/\Sub h h'/\c.size<=9223372036854775807/\I0 d/\g8 f (P1 vs) c d=some i) (eX (λ_ _=>0) (aI (eX U0 ⟨_,_,rfl,rfl,sr,oD,oD,q⟩) ?_)));rintro _ _ e C ⟨c,d,⟨⟩,⟨⟩,g,y,z,a⟩;replace a:g8 f e c d=some i:=a;obtain _|e:=e;·cases a
 rw[g8.eq_2]at a;refine ifB a (λu a=>?_) λu a=>?_
 ·refine ldI a (K0.mono g n) λG w a=>?_;refine trV a (S09 _ _ w) λx a=>?_;obtain⟨E,o,a⟩:=D0 a;have A:x.size<=9223372036854775807:=N0 o;refine ifB a (λt a=>?_) λt a=>?_
  ·cases a;try dsimp only[Y2,N3]at b
   cases b;exact aI rfl g
  obtain⟨F,p,a⟩:=D0 a;have l:=N0 p;refine aI l ?_;exact C2 e ⟨_,_,rfl,rfl,g,(F03 l),(O0 _),a⟩
 cases a;try dsimp only[V0,Y0]at b
 cases b;exact aI rfl g
def Q0b(h:Hp)(l:Option Addr)(o m:Nat)(p:(List BA))(i:(Wp.slice Wp.str).R h [.slice l o m] p)(c:BA)(P:c.size<=9223372036854775807)(g:BA)(Q:g.size<=9223372036854775807)(r:BA)(b:u04 p c g=some r): Tr Tryz.prog 93 #[.slice l o m,.string c,.string g] h λv h'=>v = .string r/\h'=h:=by
 obtain⟨rfl,W⟩:=sL i;unfold u04 at b;refine wkF Tryz.f93 ?_;refine ifB b (λA b=>?_) λA b=>?_;·cases b;exact aI rfl sr
 refine ld b i λab N I b=>?_;obtain⟨rfl,E⟩:=I;obtain⟨s,y,b⟩:=D0 b;obtain⟨G,J,t,u⟩:=Sl.cutI (r:=Wp.str.toRp) i y;refine aI G (eX J (aI t ?_));intro K D _;obtain⟨L,O,rfl,q⟩:=u K D;have X:=(sL q).2;obtain⟨k,z,b⟩:=D0 b;refine eX { vars:=[7,20] } (eX (λvs os h'=>∃ d e,vs.tail = [.string d,iV e]/\os = []/\Sub h h'/\d.size<=9223372036854775807/\I0 e/\B01 s c (P1 vs) d e=some k) (eX (λ_ _=>0) (aI (eX U0 ⟨_,_,rfl,rfl,sr,E,oD,z⟩) ?_)));rintro _ _ f V ⟨d,e,⟨⟩,⟨⟩,j,S,T,a⟩;replace a:B01 s c f d e=some k:=a;obtain _|f:=f;·cases a
 rw[B01.eq_2]at a;refine ifB a (λC a=>?_) λC a=>?_;·refine ld a ((Wp.slice Wp.str).mono j q) λaa M H a=>?_;obtain⟨rfl,U⟩:=H;obtain⟨Y,w,a⟩:=D0 a;have F:=N0 w;refine aI F ?_;obtain⟨Z,x,a⟩:=D0 a;have n:=N0 x;refine aI n ?_;exact C2 f ⟨_,_,rfl,rfl,j,(F03 n),(O0 _),a⟩
 cases a;try dsimp only[V0,Y0]at b
 cases b;exact aI rfl j
def N0f(h:Hp)(m:Option Addr)(q n:Nat)(g:K1)(s:Q1.R h [.slice m q n] g)(r:BA)(b:M02 g=some r): Tr Tryz.prog 95 #[.slice m q n] h λv h'=>v = .string r/\h'=h:=by
 obtain⟨rfl,O⟩:=sL s;unfold M02 at b;refine wkF Tryz.f95 ?_;obtain⟨l,A,b⟩:=D0 b;refine eX { vars:=[10],owns:=[0] } (eX (λvs os h'=>∃ c k j,vs.tail = [iV c]/\os = [k]/\Sub h h'/\I0 c/\F2 (Wp.str.R h') k j/\w7 g (P1 vs) c j=some l) (eX (λ_ _=>0) (aI (eX U0 ⟨_,_,_,rfl,rfl,sr,oD,(show F2 (Wp.str.R h) ([]:LV) ([]:(List BA)) from trivial),A⟩) ?_)));rintro _ k f p ⟨c,Y,j,⟨⟩,⟨⟩,i,L,e,a⟩;replace a:w7 g f c j=some l:=a;obtain _|f:=f;·cases a
 rw[w7.eq_2]at a;refine ifB a (λD a=>?_) λD a=>?_
 ·refine ld a (Q1.mono i s) λX I t a=>?_;obtain⟨G,J,rfl,P⟩:=slL t;refine trV a (T09 _ _ _ _ _ t) λd a=>?_;obtain⟨U,y,a⟩:=D0 a;have o:d.size<=9223372036854775807:=N0 y;refine ifB a (λC a=>?_) λC a=>?_
  ·cases a;try dsimp only[Y2,N3]at b
   cases b;exact aI rfl i
  obtain⟨S,w,a⟩:=D0 a;refine aI (N1 w (by first|rw[fL e,fL (show F2 (Wp.str.R p) ([[.string d]]:LV) [d] from⟨⟨rfl,o⟩,trivial⟩)]|exact congrArg (·+1) (fL e))) ?_;exact C2 f ⟨_,_,_,rfl,rfl,i,(O0 _),(fA e (show F2 (Wp.str.R p) ([[.string d]]:LV) [d] from⟨⟨rfl,o⟩,trivial⟩)),a⟩
 cases a;try dsimp only[V0,Y0]at b
 refine Or.inr ?_;intro W N u;obtain⟨H,K,rfl,E,V,Q⟩:=C1.out (r:=Wp.str.toRp) u e;obtain⟨F,z,b⟩:=D0 b;refine Tr.val (Q0b _ _ _ _ _ E (⟨#[44]⟩:BA) oD (⟨#[110,111,110,101]⟩:BA) oD _  z) (aI rfl ?_);obtain⟨T,x,b⟩:=D0 b;have M:F.size<=9223372036854775807:=N0 x;cases b;exact aI rfl i
def t0m(h:Hp)(b:List Value)(d:B0)(l:I1.R h b d)(c:List Value)(f:Q0)(m:E1.R h c f)(r:Bool)(a:U05 d f=some r): Tr Tryz.prog 189 #[.agg b.toArray,.agg c.toArray] h λv h'=>v = .bool r/\h'=h:=by obtain⟨t,e,n,o,u,rfl,rfl,g,p,z,s⟩:=opG l;obtain⟨w,x,y,rfl,rfl,i,j,k⟩:=D2 m;unfold U05 at a;dsimp only at a;refine wkF Tryz.f189 ?_;refine trV a (p5 _ _ i 0 oD (i64.wrap (e-1)) (O0 _)) λA a=>?_;refine trG a (λq=>p5 _ _ k 0 oD (i64.wrap (e-1)) (O0 _)) λC a=>?_;refine trG a (λq=>p5 _ _ j 1 oD _ g) λD a=>?_;cases a;exact aI rfl sr
def x08(h:Hp)(n:List Value)(x:Q0)(Q:E1.R h n x)(o:List Value)(y:Q0)(S:E1.R h o y)(r:Int)(b:F00 x y=some r): Tr Tryz.prog 190 #[.agg n.toArray,.agg o.toArray] h λv h'=>v=iV r/\h'=h:=by
 obtain⟨d,e,f,rfl,rfl,p,q,s⟩:=D2 Q;obtain⟨g,i,j,rfl,rfl,t,u,w⟩:=D2 S;unfold F00 at b;dsimp only at b;refine wkF Tryz.f190 ?_;obtain⟨m,M,b⟩:=D0 b;refine eX { vars:=[7] } (eX (λvs os h'=>∃ k,vs.tail = [iV k]/\os = []/\Sub h h'/\I0 k/\A9 d e f g i j (P1 vs) k=some m) (eX (λ_ _=>0) (aI (eX U0 ⟨_,rfl,rfl,sr,oD,M⟩) ?_)));rintro _ l ag ⟨k,⟨⟩,⟨⟩,c,ab,a⟩;replace a:A9 d e f g i j l k=some m:=a;obtain _|l:=l;·cases a
 rw[A9.eq_2]at a;refine ifB a (λO a=>?_) λO a=>?_
 ·refine w1 ?_;obtain⟨ai,J,a⟩:=D0 a;obtain⟨A,Y,F,U⟩:=J3 (F2.up (r:=Wp.int.toRp) c (show F2 (Wp.int.R h) ([[iV d],[iV e],[iV f]]:LV) [d,e,f] from⟨⟨rfl,p⟩,⟨⟨rfl,q⟩,⟨⟨rfl,s⟩,trivial⟩⟩⟩)) J;refine aI A ?_;obtain⟨rfl,ad⟩:=U;refine eX _ (aI F ?_);obtain⟨aj,K,a⟩:=D0 a;obtain⟨C,Z,G,V⟩:=J3 (F2.up (r:=Wp.int.toRp) c (show F2 (Wp.int.R h) ([[iV g],[iV i],[iV j]]:LV) [g,i,j] from⟨⟨rfl,t⟩,⟨⟨rfl,u⟩,⟨⟨rfl,w⟩,trivial⟩⟩⟩)) K;refine aI C ?_;obtain⟨rfl,ae⟩:=V;refine eX _ (aI G ?_);refine ifB a (λP a=>?_) λP a=>?_
  ·cases a;try dsimp only[Y2,N3]at b
   cases b;exact aI rfl c
  refine w1 ?_;obtain⟨ak,L,a⟩:=D0 a;obtain⟨D,aa,H,W⟩:=J3 (F2.up (r:=Wp.int.toRp) c (show F2 (Wp.int.R h) ([[iV d],[iV e],[iV f]]:LV) [d,e,f] from⟨⟨rfl,p⟩,⟨⟨rfl,q⟩,⟨⟨rfl,s⟩,trivial⟩⟩⟩)) L;refine aI D ?_;obtain⟨rfl,af⟩:=W;refine eX _ (aI H ?_);obtain⟨ah,I,a⟩:=D0 a;obtain⟨z,X,E,T⟩:=J3 (F2.up (r:=Wp.int.toRp) c (show F2 (Wp.int.R h) ([[iV g],[iV i],[iV j]]:LV) [g,i,j] from⟨⟨rfl,t⟩,⟨⟨rfl,u⟩,⟨⟨rfl,w⟩,trivial⟩⟩⟩)) I;refine aI z ?_;obtain⟨rfl,ac⟩:=T;refine eX _ (aI E ?_);refine ifB a (λN a=>?_) λN a=>?_
  ·cases a;try dsimp only[Y2,N3]at b
   cases b;exact aI rfl c
  exact C2 l ⟨_,rfl,rfl,c,(O0 _),a⟩
 cases a;try dsimp only[V0,Y0]at b
 cases b;exact aI rfl c
def H8(h:Hp)(i:List Value)(o:B0)(M:I1.R h i o)(r:Bool)(b:Y4 o=some r): Tr Tryz.prog 155 #[.agg i.toArray] h λv h'=>v = .bool r/\h'=h:=by
 obtain⟨p,s,T,U,t,rfl,rfl,l,m,f,aa⟩:=opG M;unfold Y4 at b;dsimp only at b;refine wkF Tryz.f155 ?_;obtain⟨g,z,b⟩:=D0 b;refine eX { vars:=[3] } (eX (λvs os h'=>∃ d,vs.tail = [iV d]/\os = []/\Sub h h'/\I0 d/\W9 t p s (P1 vs) d=some g) (eX (λ_ _=>0) (aI (eX U0 ⟨_,rfl,rfl,sr,oD,z⟩) ?_)));rintro _ e n ⟨d,⟨⟩,⟨⟩,c,Y,a⟩;replace a:W9 t p s e d=some g:=a;obtain _|e:=e;·cases a
 rw[W9.eq_2]at a;refine ifB a (λC a=>?_) λC a=>?_
 ·refine w1 ?_;refine ld a (M0.mono c f) λae V N a=>?_;obtain⟨af,ag,ah,rfl,rfl,D,E,F⟩:=D2 N;try dsimp only at a
  obtain⟨S,w,a⟩:=D0 a;refine eX (.bool S) (aI (t0m _ _ _ (C0 l m (M0.mono c f)) _ _ (Z1 D E F) _  w) ?_);obtain⟨ai,x,a⟩:=D0 a;obtain⟨W,j,O⟩:=Sl.getG (r:=E1.toRp) (M0.mono c f) x oD (A0b n);refine aI (λq=>(j q).1) ?_;obtain⟨aj,ak,al,rfl,rfl,G,H,I⟩:=D2 O;try dsimp only at a
  refine eX _ (aI (λq=>(j q).2) ?_);obtain⟨am,y,a⟩:=D0 a;obtain⟨X,k,P⟩:=Sl.getG (r:=E1.toRp) (M0.mono c f) y oD (A0b n);refine aI (λq=>(k q).1) ?_;obtain⟨an,ao,ap,rfl,rfl,J,K,L⟩:=D2 P;try dsimp only at a
  refine eX _ (aI (λq=>(k q).2) ?_);refine trG a (λq=>x08 _ _ _ (Z1 G H I) _ _ (Z1 J K L)) λQ a=>?_;obtain⟨ab,u,a⟩:=D0 a;have Z:I0 Q:=N0 u;refine ifB a (λA a=>?_) λA a=>?_
  ·cases a;try dsimp only[Y2,N3]at b
   cases b;exact aI rfl c
  exact C2 e ⟨_,rfl,rfl,c,(O0 _),a⟩
 cases a;try dsimp only[V0,Y0]at b
 refine trV b (p5 _ _ l 1 oD 3 oD) λac b=>?_;refine trG b (λq=>p5 _ _ m 1 oD 40 oD) λad b=>?_;cases b;exact aI rfl c
def e04(h:Hp)(c:List Value)(d:B0)(g:I1.R h c d)(b:Int)(e:I0 b)(r:Bool)(a:G5 d b=some r): Tr Tryz.prog 174 #[.agg c.toArray,iV b] h λv h'=>v = .bool r/\h'=h:=by obtain⟨n,f,i,j,o,rfl,rfl,k,l,p,m⟩:=opG g;unfold G5 at a;dsimp only at a;refine wkF Tryz.f174 ?_;refine trV a (U7 _ _ e 0 oD (i64.wrap (f-1)) (O0 _)) λq a=>?_;cases a;exact aI rfl sr
def p0d(h:Hp)(c:List Value)(f:B0)(m:I1.R h c f)(d:List Value)(g:Q0)(n:E1.R h d g)(r:Bool)(a:t01 f g=some r): Tr Tryz.prog 160 #[.agg c.toArray,.agg d.toArray] h λv h'=>v = .bool r/\h'=h:=by obtain⟨t,u,o,p,w,rfl,rfl,b,e,i,s⟩:=opG m;obtain⟨x,y,z,rfl,rfl,j,k,l⟩:=D2 n;unfold t01 at a;dsimp only at a;refine wkF Tryz.f160 ?_;refine trV a (e04 _ _ _ (C0 b e i) _ j) λA a=>?_;refine trG a (λq=>e04 _ _ _ (C0 b e i) _ l) λC a=>?_;refine trG a (λq=>U7 _ _ k 1 oD _ b) λD a=>?_;cases a;exact aI rfl sr
def y08(h:Hp)(b:List Value)(d:Q0)(s:E1.R h b d)(c:List Value)(e:Q0)(t:E1.R h c e)(r:Int)(a:f02 d e=some r): Tr Tryz.prog 161 #[.agg b.toArray,.agg c.toArray] h λv h'=>v=iV r/\h'=h:=by
 obtain⟨C,D,E,rfl,rfl,l,m,n⟩:=D2 s;obtain⟨F,G,H,rfl,rfl,o,p,q⟩:=D2 t;unfold f02 at a;dsimp only at a;refine wkF Tryz.f161 ?_;refine trV a (p06 _ _ l _ o) λu a=>?_;obtain⟨I,f,a⟩:=D0 a;have y:I0 u:=N0 f;refine ifB a (λj a=>?_) λj a=>?_;·cases a;exact aI rfl sr
 refine trV a (p06 _ _ m _ p) λw a=>?_;obtain⟨J,g,a⟩:=D0 a;have z:I0 w:=N0 g;refine ifB a (λk a=>?_) λk a=>?_;·cases a;exact aI rfl sr
 refine trV a (p06 _ _ n _ q) λx a=>?_;obtain⟨K,i,a⟩:=D0 a;have A:I0 x:=N0 i;cases a;exact aI rfl sr
def I01(h:Hp)(i:List Value)(p:B0)(I:I1.R h i p)(r:Bool)(b:N7 p=some r): Tr Tryz.prog 92 #[.agg i.toArray] h λv h'=>v = .bool r/\h'=h:=by
 obtain⟨s,t,N,O,u,rfl,rfl,k,l,f,U⟩:=opG I;unfold N7 at b;dsimp only at b;refine wkF Tryz.f92 ?_;refine trV b (U7 _ _ k 1 oD 3 oD) λW b=>?_;refine trG b (λq=>U7 _ _ l 1 oD 40 oD) λab b=>?_;refine ifB b (λC b=>?_) λC b=>?_;·cases b;exact aI rfl sr
 obtain⟨g,z,b⟩:=D0 b;refine eX { vars:=[24] } (eX (λvs os h'=>∃ d,vs.tail = [iV d]/\os = []/\Sub h h'/\I0 d/\Y9 u s t (P1 vs) d=some g) (eX (λ_ _=>0) (aI (eX U0 ⟨_,rfl,rfl,sr,oD,z⟩) ?_)));rintro _ e H ⟨d,⟨⟩,⟨⟩,c,S,a⟩;replace a:Y9 u s t e d=some g:=a;obtain _|e:=e;·cases a
 rw[Y9.eq_2]at a;refine ifB a (λD a=>?_) λD a=>?_
 ·refine ld a (M0.mono c f) λac Q K a=>?_;obtain⟨ad,ae,af,rfl,rfl,m,n,o⟩:=D2 K;try dsimp only at a
  refine w1 ?_;obtain⟨L,x,a⟩:=D0 a;refine eX (.bool L) (aI (p0d _ _ _ (C0 k l (M0.mono c f)) _ _ (Z1 m n o) _  x) ?_);obtain⟨X,y,a⟩:=D0 a;obtain⟨P,j,J⟩:=Sl.getG (r:=E1.toRp) (M0.mono c f) y oD (A0b H);refine aI (λq=>(j q).1) ?_;obtain⟨Y,Z,aa,rfl,rfl,E,F,G⟩:=D2 J;try dsimp only at a
  refine eX _ (aI (λq=>(j q).2) ?_);refine trG a (λq=>y08 _ _ _ (Z1 E F G) _ _ (Z1 m n o)) λM a=>?_;obtain⟨V,w,a⟩:=D0 a;have T:I0 M:=N0 w;refine ifB a (λA a=>?_) λA a=>?_
  ·cases a;try dsimp only[Y2,N3]at b
   cases b;exact aI rfl c
  exact C2 e ⟨_,rfl,rfl,c,(O0 _),a⟩
 cases a;try dsimp only[V0,Y0]at b
 cases b;exact aI rfl c
def d0b(h:Hp)(b:Int)(g:I0 b)(r:BA)(a:A02 b=some r): Tr Tryz.prog 25 #[iV b] h λv h'=>v = .string r/\h'=h:=by
 unfold A02 at a;refine wkF Tryz.f25 ?_;refine trV a (p5 _ _ g 1 oD 6 oD) λl a=>?_;refine ifB a (λf a=>?_) λf a=>?_;·cases a;exact aI rfl sr
 obtain⟨m,e,a⟩:=D0 a;obtain⟨c,j,d,i⟩:=J3 (show F2 (Wp.str.R h) ([[.string (⟨#[105,110]⟩:BA)],[.string (⟨#[111,117,116]⟩:BA)],[.string (⟨#[115,97,109,101]⟩:BA)],[.string (⟨#[99,111,110,106,117,103,97,116,101]⟩:BA)],[.string (⟨#[102,114,101,101]⟩:BA)],[.string (⟨#[105,110,100,101,120]⟩:BA)]]:LV) [(⟨#[105,110]⟩:BA),(⟨#[111,117,116]⟩:BA),(⟨#[115,97,109,101]⟩:BA),(⟨#[99,111,110,106,117,103,97,116,101]⟩:BA),(⟨#[102,114,101,101]⟩:BA),(⟨#[105,110,100,101,120]⟩:BA)] from⟨⟨rfl,oD⟩,⟨⟨rfl,oD⟩,⟨⟨rfl,oD⟩,⟨⟨rfl,oD⟩,⟨⟨rfl,oD⟩,⟨⟨rfl,oD⟩,trivial⟩⟩⟩⟩⟩⟩) e;refine aI c ?_;obtain⟨rfl,k⟩:=i;refine eX _ (aI d ?_);cases a;exact aI rfl sr
def O0f(h:Hp)(i:List Value)(n:B0)(Z:I1.R h i n)(r:BA)(b:N02 n=some r): Tr Tryz.prog 99 #[.agg i.toArray] h λv h'=>v = .string r/\h'=h:=by
 obtain⟨an,ao,ab,ac,o,rfl,rfl,j,k,p,am⟩:=opG Z;unfold N02 at b;dsimp only at b;refine wkF Tryz.f99 ?_;refine trV b (H8 _ _ _ (C0 j k p)) λaC b=>?_;refine ifB b (λQ b=>?_) λQ b=>?_;·cases b;exact aI rfl sr
 refine w1 ?_;obtain⟨u,M,b⟩:=D0 b;refine eX (.string u) (aI (o00 _ _ j _  M) ?_);obtain⟨ay,F,b⟩:=D0 b;have aj:u.size<=9223372036854775807:=N0 F;obtain⟨az,G,b⟩:=D0 b;have Y:=N0 G;refine aI Y ?_;obtain⟨w,N,b⟩:=D0 b;refine eX (.string w) (aI (o00 _ _ k _  N) ?_);obtain⟨aA,H,b⟩:=D0 b;have ak:w.size<=9223372036854775807:=N0 H;obtain⟨aB,I,b⟩:=D0 b;have m:=N0 I;refine aI m ?_;obtain⟨g,O,b⟩:=D0 b;refine eX { vars:=[3,4] } (eX (λvs os h'=>∃ c d,vs.tail = [.string c,iV d]/\os = []/\Sub h h'/\c.size<=9223372036854775807/\I0 d/\z7 o (P1 vs) c d=some g) (eX (λ_ _=>0) (aI (eX U0 ⟨_,_,rfl,rfl,sr,(F03 m),oD,O⟩) ?_)));rintro _ _ e al ⟨c,d,⟨⟩,⟨⟩,f,ae,af,a⟩;replace a:z7 o e c d=some g:=a;obtain _|e:=e;·cases a
 rw[z7.eq_2]at a;refine ifB a (λP a=>?_) λP a=>?_
 ·refine ld a (M0.mono f p) λaD ad aa a=>?_;obtain⟨aF,aG,aH,rfl,rfl,S,T,U⟩:=D2 aa;try dsimp only at a
  refine w1 ?_;obtain⟨ap,x,a⟩:=D0 a;have V:=N0 x;refine aI V ?_;obtain⟨q,J,a⟩:=D0 a;refine eX (.string q) (aI (o00 _ _ S _  J) ?_);obtain⟨aq,y,a⟩:=D0 a;have ag:q.size<=9223372036854775807:=N0 y;obtain⟨ar,z,a⟩:=D0 a;have W:=N0 z;refine aI W ?_;obtain⟨s,K,a⟩:=D0 a;refine eX (.string s) (aI (a0f _ _ T _  K) ?_);obtain⟨au,A,a⟩:=D0 a;have ah:s.size<=9223372036854775807:=N0 A;obtain⟨av,C,a⟩:=D0 a;have X:=N0 C;refine aI X ?_;obtain⟨t,L,a⟩:=D0 a;refine eX (.string t) (aI (o00 _ _ U _  L) ?_);obtain⟨aw,D,a⟩:=D0 a;have ai:t.size<=9223372036854775807:=N0 D;obtain⟨ax,E,a⟩:=D0 a;have l:=N0 E;refine aI l ?_;exact C2 e ⟨_,_,rfl,rfl,f,(F03 l),(O0 _),a⟩
 cases a;try dsimp only[V0,Y0]at b
 cases b;exact aI rfl f
def q0d(h:Hp)(k:Option Addr)(o l:Nat)(g:J0)(i:K0.R h [.slice k o l] g)(r:BA)(b:C01 g=some r): Tr Tryz.prog 103 #[.slice k o l] h λv h'=>v = .string r/\h'=h:=by
 obtain⟨rfl,L⟩:=sL i;unfold C01 at b;refine wkF Tryz.f103 ?_;obtain⟨j,w,b⟩:=D0 b;refine eX { vars:=[3,4] } (eX (λvs os h'=>∃ e f,vs.tail = [.string e,iV f]/\os = []/\Sub h h'/\e.size<=9223372036854775807/\I0 f/\U3 g (P1 vs) e f=some j) (eX (λ_ _=>0) (aI (eX U0 ⟨_,_,rfl,rfl,sr,oD,oD,w⟩) ?_)));rintro _ _ d K ⟨e,f,⟨⟩,⟨⟩,c,G,H,a⟩;replace a:U3 g d e f=some j:=a;obtain _|d:=d;·cases a
 rw[U3.eq_2]at a;refine ifB a (λy a=>?_) λy a=>?_
 ·refine ifB a (λz a=>?_) λz a=>?_;·obtain⟨Q,u,a⟩:=D0 a;have D:=N0 u;refine aI D ?_;refine ldI a (K0.mono c i) λT C a=>?_;refine trV a (o00 _ _ C) λE a=>?_;obtain⟨M,p,a⟩:=D0 a;have I:E.size<=9223372036854775807:=N0 p;obtain⟨N,q,a⟩:=D0 a;have m:=N0 q;refine aI m ?_;exact C2 d ⟨_,_,rfl,rfl,c,(F03 m),(O0 _),a⟩
  refine ldI a (K0.mono c i) λS A a=>?_;refine trV a (o00 _ _ A) λF a=>?_;obtain⟨O,s,a⟩:=D0 a;have J:F.size<=9223372036854775807:=N0 s;obtain⟨P,t,a⟩:=D0 a;have n:=N0 t;refine aI n ?_;exact C2 d ⟨_,_,rfl,rfl,c,(F03 n),(O0 _),a⟩
 cases a;try dsimp only[V0,Y0]at b
 refine ifB b (λx b=>?_) λx b=>?_;·cases b;exact aI rfl c
 cases b;exact aI rfl c
def P0f(h:Hp)(e:List Value)(f:L2)(ai:J5.R h e f)(r:BA)(a:O02 f=some r): Tr Tryz.prog 22 #[.agg e.toArray] h λv h'=>v = .string r/\h'=h:=by
 obtain⟨aM,aN,al,aH,ap,aO,am,aJ,aq,aP,an,aK,ar,aQ,aR,aS,ao,aL,au,aU,aV,rfl,rfl,S,b,c,d,g,T,U,i,V⟩:=B7 ai;obtain⟨rfl,aC⟩:=sL c;obtain⟨rfl,aD⟩:=sL d;obtain⟨rfl,aF⟩:=sL g;obtain⟨rfl,aG⟩:=sL i;unfold O02 at a;dsimp only at a;refine wkF Tryz.f22 ?_;refine trV a (d0b _ _ S) λaj a=>?_;obtain⟨a4,z,a⟩:=D0 a;have av:aj.size<=9223372036854775807:=N0 z;refine trV a (O0f _ _ _ (C0 T U i)) λak a=>?_;obtain⟨be,J,a⟩:=D0 a;have aA:ak.size<=9223372036854775807:=N0 J;refine trG a (λq=>i08 _ _ b _ _ _ _ c) λbg a=>?_;refine trG a (λq=>s02 _ _ b _ _ _ _ d) λbh a=>?_;refine ifB a (λQ a=>?_) λQ a=>?_;·cases a;exact aI rfl sr
 refine w1 ?_;obtain⟨bf,K,a⟩:=D0 a;have ah:=N0 K;refine aI ah ?_;obtain⟨n,P,a⟩:=D0 a;refine eX (.string n) (aI (o00 _ _ b _  P) ?_);obtain⟨aW,o,a⟩:=D0 a;have aB:n.size<=9223372036854775807:=N0 o;obtain⟨aX,p,a⟩:=D0 a;have W:=N0 p;refine aI W ?_;obtain⟨aY,s,a⟩:=D0 a;have X:=N0 s;refine aI X ?_;obtain⟨j,L,a⟩:=D0 a;refine eX (.string j) (aI (M0f _ _ _ _ _ c _  L) ?_);obtain⟨aZ,t,a⟩:=D0 a;have aw:j.size<=9223372036854775807:=N0 t;obtain⟨a0,u,a⟩:=D0 a;have Y:=N0 u;refine aI Y ?_;obtain⟨a1,w,a⟩:=D0 a;have Z:=N0 w;refine aI Z ?_;obtain⟨k,M,a⟩:=D0 a;refine eX (.string k) (aI (b07 _ _ _ _ _ d _  M) ?_);obtain⟨a2,x,a⟩:=D0 a;have ax:k.size<=9223372036854775807:=N0 x;obtain⟨a3,y,a⟩:=D0 a;have aa:=N0 y;refine aI aa ?_;obtain⟨a5,A,a⟩:=D0 a;have ab:=N0 A;refine aI ab ?_;obtain⟨l,N,a⟩:=D0 a;refine eX (.string l) (aI (q0d _ _ _ _ _ g _  N) ?_);obtain⟨a6,C,a⟩:=D0 a;have ay:l.size<=9223372036854775807:=N0 C;obtain⟨a7,D,a⟩:=D0 a;have ac:=N0 D;refine aI ac ?_;obtain⟨a8,E,a⟩:=D0 a;have ad:=N0 E;refine aI ad ?_;obtain⟨ba,F,a⟩:=D0 a;have ae:=N0 F;refine aI ae ?_;obtain⟨bb,G,a⟩:=D0 a;have af:=N0 G;refine aI af ?_;obtain⟨m,O,a⟩:=D0 a;refine eX (.string m) (aI (o00 _ _ V _  O) ?_);obtain⟨bc,H,a⟩:=D0 a;have az:m.size<=9223372036854775807:=N0 H;obtain⟨bd,I,a⟩:=D0 a;have ag:=N0 I;refine aI ag ?_;cases a;exact aI rfl sr
def F07(h:Hp)(b:Int)(g:I0 b)(r:BA)(a:B02 b=some r): Tr Tryz.prog 24 #[iV b] h λv h'=>v = .string r/\h'=h:=by
 unfold B02 at a;refine wkF Tryz.f24 ?_;refine trV a (U7 _ _ g 1 oD 6 oD) λl a=>?_;refine ifB a (λf a=>?_) λf a=>?_;·cases a;exact aI rfl sr
 obtain⟨m,e,a⟩:=D0 a;obtain⟨c,j,d,i⟩:=J3 (show F2 (Wp.str.R h) ([[.string (⟨#[105,110]⟩:BA)],[.string (⟨#[111,117,116]⟩:BA)],[.string (⟨#[115,97,109,101]⟩:BA)],[.string (⟨#[99,111,110,106,117,103,97,116,101]⟩:BA)],[.string (⟨#[102,114,101,101]⟩:BA)],[.string (⟨#[105,110,100,101,120]⟩:BA)]]:LV) [(⟨#[105,110]⟩:BA),(⟨#[111,117,116]⟩:BA),(⟨#[115,97,109,101]⟩:BA),(⟨#[99,111,110,106,117,103,97,116,101]⟩:BA),(⟨#[102,114,101,101]⟩:BA),(⟨#[105,110,100,101,120]⟩:BA)] from⟨⟨rfl,oD⟩,⟨⟨rfl,oD⟩,⟨⟨rfl,oD⟩,⟨⟨rfl,oD⟩,⟨⟨rfl,oD⟩,⟨⟨rfl,oD⟩,trivial⟩⟩⟩⟩⟩⟩) e;refine aI c ?_;obtain⟨rfl,k⟩:=i;refine eX _ (aI d ?_);cases a;exact aI rfl sr
def Q0f(h:Hp)(i:List Value)(n:B0)(Z:I1.R h i n)(r:BA)(b:P02 n=some r): Tr Tryz.prog 98 #[.agg i.toArray] h λv h'=>v = .string r/\h'=h:=by
 obtain⟨an,ao,ab,ac,o,rfl,rfl,j,k,p,am⟩:=opG Z;unfold P02 at b;dsimp only at b;refine wkF Tryz.f98 ?_;refine trV b (I01 _ _ _ (C0 j k p)) λaC b=>?_;refine ifB b (λQ b=>?_) λQ b=>?_;·cases b;exact aI rfl sr
 refine w1 ?_;obtain⟨u,M,b⟩:=D0 b;refine eX (.string u) (aI (d01 _ _ j _  M) ?_);obtain⟨ay,F,b⟩:=D0 b;have aj:u.size<=9223372036854775807:=N0 F;obtain⟨az,G,b⟩:=D0 b;have Y:=N0 G;refine aI Y ?_;obtain⟨w,N,b⟩:=D0 b;refine eX (.string w) (aI (d01 _ _ k _  N) ?_);obtain⟨aA,H,b⟩:=D0 b;have ak:w.size<=9223372036854775807:=N0 H;obtain⟨aB,I,b⟩:=D0 b;have m:=N0 I;refine aI m ?_;obtain⟨g,O,b⟩:=D0 b;refine eX { vars:=[3,20] } (eX (λvs os h'=>∃ c d,vs.tail = [.string c,iV d]/\os = []/\Sub h h'/\c.size<=9223372036854775807/\I0 d/\A7 o (P1 vs) c d=some g) (eX (λ_ _=>0) (aI (eX U0 ⟨_,_,rfl,rfl,sr,(F03 m),oD,O⟩) ?_)));rintro _ _ e al ⟨c,d,⟨⟩,⟨⟩,f,ae,af,a⟩;replace a:A7 o e c d=some g:=a;obtain _|e:=e;·cases a
 rw[A7.eq_2]at a;refine ifB a (λP a=>?_) λP a=>?_
 ·refine ld a (M0.mono f p) λaD ad aa a=>?_;obtain⟨aF,aG,aH,rfl,rfl,S,T,U⟩:=D2 aa;try dsimp only at a
  refine w1 ?_;obtain⟨ap,x,a⟩:=D0 a;have V:=N0 x;refine aI V ?_;obtain⟨q,J,a⟩:=D0 a;refine eX (.string q) (aI (d01 _ _ S _  J) ?_);obtain⟨aq,y,a⟩:=D0 a;have ag:q.size<=9223372036854775807:=N0 y;obtain⟨ar,z,a⟩:=D0 a;have W:=N0 z;refine aI W ?_;obtain⟨s,K,a⟩:=D0 a;refine eX (.string s) (aI (S09 _ _ T _  K) ?_);obtain⟨au,A,a⟩:=D0 a;have ah:s.size<=9223372036854775807:=N0 A;obtain⟨av,C,a⟩:=D0 a;have X:=N0 C;refine aI X ?_;obtain⟨t,L,a⟩:=D0 a;refine eX (.string t) (aI (d01 _ _ U _  L) ?_);obtain⟨aw,D,a⟩:=D0 a;have ai:t.size<=9223372036854775807:=N0 D;obtain⟨ax,E,a⟩:=D0 a;have l:=N0 E;refine aI l ?_;exact C2 e ⟨_,_,rfl,rfl,f,(F03 l),(O0 _),a⟩
 cases a;try dsimp only[V0,Y0]at b
 cases b;exact aI rfl f
def r0d(h:Hp)(m:Option Addr)(q n:Nat)(g:J0)(s:K0.R h [.slice m q n] g)(r:BA)(b:D01 g=some r): Tr Tryz.prog 97 #[.slice m q n] h λv h'=>v = .string r/\h'=h:=by
 obtain⟨rfl,K⟩:=sL s;unfold D01 at b;refine wkF Tryz.f97 ?_;obtain⟨l,z,b⟩:=D0 b;refine eX { vars:=[9],owns:=[0] } (eX (λvs os h'=>∃ c k i,vs.tail = [iV c]/\os = [k]/\Sub h h'/\I0 c/\F2 (Wp.str.R h') k i/\W5 g (P1 vs) c i=some l) (eX (λ_ _=>0) (aI (eX U0 ⟨_,_,_,rfl,rfl,sr,oD,(show F2 (Wp.str.R h) ([]:LV) ([]:(List BA)) from trivial),z⟩) ?_)));rintro _ k f p ⟨c,T,i,⟨⟩,⟨⟩,j,H,e,a⟩;replace a:W5 g f c i=some l:=a;obtain _|f:=f;·cases a
 rw[W5.eq_2]at a;refine ifB a (λA a=>?_) λA a=>?_;·refine ldI a (K0.mono j s) λS C a=>?_;refine trV a (d01 _ _ C) λd a=>?_;obtain⟨O,x,a⟩:=D0 a;have o:d.size<=9223372036854775807:=N0 x;obtain⟨M,u,a⟩:=D0 a;refine aI (N1 u (by first|rw[fL e,fL (show F2 (Wp.str.R p) ([[.string d]]:LV) [d] from⟨⟨rfl,o⟩,trivial⟩)]|exact congrArg (·+1) (fL e))) ?_;exact C2 f ⟨_,_,_,rfl,rfl,j,(O0 _),(fA e (show F2 (Wp.str.R p) ([[.string d]]:LV) [d] from⟨⟨rfl,o⟩,trivial⟩)),a⟩
 cases a;try dsimp only[V0,Y0]at b
 refine Or.inr ?_;intro Q J t;obtain⟨F,G,rfl,D,P,L⟩:=C1.out (r:=Wp.str.toRp) t e;obtain⟨E,y,b⟩:=D0 b;refine Tr.val (Q0b _ _ _ _ _ D (⟨#[32]⟩:BA) oD (⟨#[110,111,110,101]⟩:BA) oD _  y) (aI rfl ?_);obtain⟨N,w,b⟩:=D0 b;have I:E.size<=9223372036854775807:=N0 w;cases b;exact aI rfl j
def R0f(h:Hp)(x:List Value)(D:L2)(ak:J5.R h x D)(r:BA)(b:Q02 D=some r): Tr Tryz.prog 21 #[.agg x.toArray] h λv h'=>v = .string r/\h'=h:=by
 obtain⟨a6,a7,au,a2,aA,a8,av,a3,aB,ba,aw,a4,aC,bb,bc,bd,ax,a5,aD,be,bf,rfl,rfl,y,p,s,t,E,z,A,u,ac⟩:=B7 ak;obtain⟨rfl,aW⟩:=sL s;obtain⟨rfl,aX⟩:=sL t;obtain⟨rfl,aY⟩:=sL E;obtain⟨rfl,aZ⟩:=sL u;unfold Q02 at b;dsimp only at b;refine wkF Tryz.f21 ?_;refine trV b (F07 _ _ y) λar b=>?_;obtain⟨bi,J,b⟩:=D0 b;have aK:ar.size<=9223372036854775807:=N0 J;refine trG b (λq=>j08 _ _ p _ _ _ _ s) λbv b=>?_;refine trG b (λq=>t02 _ _ p _ _ _ _ t) λbx b=>?_;refine trG b (λq=>I01 _ _ _ (C0 z A u)) λbz b=>?_;refine ifB b (λaa b=>?_) λaa b=>?_;·cases b;exact aI rfl sr
 refine w4 ?_;obtain⟨o,Z,b⟩:=D0 b;obtain⟨bo,P,b⟩:=D0 b;have aj:o.size<=9223372036854775807:=N0 P;refine pm (.val (.string o)) ?_ ?_;·intro aV bq;exact Tr.val (F07 _ _ y _ Z) r3
 obtain⟨f,Q,b⟩:=D0 b;obtain⟨bg,H,b⟩:=D0 b;have ad:f.size<=9223372036854775807:=N0 H;refine pm (.val (.string f)) ?_ ?_;·intro aM br;exact Tr.val (d01 _ _ p _ Q) r3
 obtain⟨g,S,b⟩:=D0 b;obtain⟨bh,I,b⟩:=D0 b;have ae:g.size<=9223372036854775807:=N0 I;refine pm (.val (.string g)) ?_ ?_;·intro aN am;exact Tr.val (N0f _ _ _ _ _ (Q1.mono am s) _ S) r3
 obtain⟨i,T,b⟩:=D0 b;obtain⟨bj,K,b⟩:=D0 b;have af:i.size<=9223372036854775807:=N0 K;refine pm (.val (.string i)) ?_ ?_;·intro aO an;exact Tr.val (T09 _ _ _ _ _ (K0.mono an t) _ T) r3
 obtain⟨j,U,b⟩:=D0 b;obtain⟨bk,L,b⟩:=D0 b;have ag:j.size<=9223372036854775807:=N0 L;refine pm (.val (.string j)) ?_ ?_;·intro aP ao;exact Tr.val (r0d _ _ _ _ _ (K0.mono ao E) _ U) r3
 obtain⟨m,V,b⟩:=D0 b;obtain⟨bl,M,b⟩:=D0 b;have ah:m.size<=9223372036854775807:=N0 M;refine pm (.val (.string m)) ?_ ?_;·intro aQ ap;exact Tr.val (Q0f _ _ _ (C0 z A (M0.mono ap u)) _ V) r3
 obtain⟨n,W,b⟩:=D0 b;obtain⟨bm,N,b⟩:=D0 b;have ai:n.size<=9223372036854775807:=N0 N;refine pm (.val (.string n)) ?_ ?_;·intro aR bs;exact Tr.val (d01 _ _ ac _ W) r3
 obtain⟨d,X,b⟩:=D0 b;refine Or.inr (eX (λv ab=>∃(a:Option Addr) (c:Nat),v = .slice a d.length c/\(Wp.slice Wp.str).R ab [.slice a d.length c] d/\d.length<=9223372036854775807) (aI (λv aH aJ w q=>by obtain⟨a,c,e,r,l⟩:=q;exact⟨a,c,e,(Wp.slice Wp.str).mono w r,l⟩) (aI ?_ ?_)));·intro C bt;have G:[o,f,g,i,(⟨#[98,121]⟩:BA),j,(⟨#[97,110,100]⟩:BA),m,(⟨#[97,110,100]⟩:BA),n]=d:=oJ X;intro v k hf;obtain⟨a,c,rfl,r,w,l⟩:=C1.out (r:=Wp.str.toRp) (xs:=d) hf (show F2 (Wp.str.R C) [[.string o],[.string f],[.string g],[.string i],[.string (⟨#[98,121]⟩:BA)],[.string j],[.string (⟨#[97,110,100]⟩:BA)],[.string m],[.string (⟨#[97,110,100]⟩:BA)],[.string n]] d from G▸(show F2 (Wp.str.R C) [[.string o],[.string f],[.string g],[.string i],[.string (⟨#[98,121]⟩:BA)],[.string j],[.string (⟨#[97,110,100]⟩:BA)],[.string m],[.string (⟨#[97,110,100]⟩:BA)],[.string n]] [o,f,g,i,(⟨#[98,121]⟩:BA),j,(⟨#[97,110,100]⟩:BA),m,(⟨#[97,110,100]⟩:BA),n] from⟨⟨rfl,aj⟩,⟨⟨rfl,ad⟩,⟨⟨rfl,ae⟩,⟨⟨rfl,af⟩,⟨⟨rfl,oD⟩,⟨⟨rfl,ag⟩,⟨⟨rfl,oD⟩,⟨⟨rfl,ah⟩,⟨⟨rfl,oD⟩,⟨⟨rfl,ai⟩,trivial⟩⟩⟩⟩⟩⟩⟩⟩⟩⟩));exact aI ⟨rfl,rfl,rfl,[_],rfl⟩ (aI w ⟨a,c,rfl,r,l⟩)
 obtain⟨F,Y,b⟩:=D0 b;obtain⟨bn,O,b⟩:=D0 b;have aL:F.size<=9223372036854775807:=N0 O;refine pm (.val (.string F)) ?_ ?_;·intro aS bu;rintro _ ⟨ay,aF,rfl,al,a0⟩;exact Tr.val (Q0b _ _ _ _ _ al (⟨#[32]⟩:BA) oD (⟨#[]⟩:BA) oD _ Y) r3
 intro aU aq;rintro _ ⟨az,aG,rfl,bp,a1⟩;cases b;exact aI rfl aq
def S04(h:Hp)(j:Option Addr)(n l:Nat)(f:J0)(p:K0.R h [.slice j n l] f)(k:Option Addr)(o m:Nat)(g:J0)(q:K0.R h [.slice k o m] g)(r:Bool)(b:V6 f g=some r): Tr Tryz.prog 60 #[.slice j n l,.slice k o m] h λv h'=>v = .bool r/\h'=h:=by
 obtain⟨rfl,C⟩:=sL p;obtain⟨rfl,D⟩:=sL q;unfold V6 at b;refine wkF Tryz.f60 ?_;refine ifB b (λt b=>?_) λt b=>?_;·cases b;exact aI rfl sr
 obtain⟨i,s,b⟩:=D0 b;refine eX { vars:=[5] } (eX (λvs os h'=>∃ d,vs.tail = [iV d]/\os = []/\Sub h h'/\I0 d/\D5 f g (P1 vs) d=some i) (eX (λ_ _=>0) (aI (eX U0 ⟨_,rfl,rfl,sr,oD,s⟩) ?_)));rintro _ e A ⟨d,⟨⟩,⟨⟩,c,x,a⟩;replace a:D5 f g e d=some i:=a;obtain _|e:=e;·cases a
 rw[D5.eq_2]at a;refine ifB a (λu a=>?_) λu a=>?_
 ·refine w1 ?_;refine ldI a (K0.mono c p) λE y a=>?_;refine ldI a (K0.mono c q) λF z a=>?_;refine ifB a (λw a=>?_) λw a=>?_
  ·cases a;try dsimp only[Y2,N3]at b
   cases b;exact aI rfl c
  exact C2 e ⟨_,rfl,rfl,c,(O0 _),a⟩
 cases a;try dsimp only[V0,Y0]at b
 cases b;exact aI rfl c
def T04(h:Hp)(j:Option Addr)(n l:Nat)(f:J0)(p:K0.R h [.slice j n l] f)(k:Option Addr)(o m:Nat)(g:J0)(q:K0.R h [.slice k o m] g)(r:Bool)(b:W6 f g=some r): Tr Tryz.prog 64 #[.slice j n l,.slice k o m] h λv h'=>v = .bool r/\h'=h:=by
 obtain⟨rfl,C⟩:=sL p;obtain⟨rfl,D⟩:=sL q;unfold W6 at b;refine wkF Tryz.f64 ?_;refine ifB b (λt b=>?_) λt b=>?_;·cases b;exact aI rfl sr
 obtain⟨i,s,b⟩:=D0 b;refine eX { vars:=[13] } (eX (λvs os h'=>∃ d,vs.tail = [iV d]/\os = []/\Sub h h'/\I0 d/\E5 f g (P1 vs) d=some i) (eX (λ_ _=>0) (aI (eX U0 ⟨_,rfl,rfl,sr,oD,s⟩) ?_)));rintro _ e A ⟨d,⟨⟩,⟨⟩,c,x,a⟩;replace a:E5 f g e d=some i:=a;obtain _|e:=e;·cases a
 rw[E5.eq_2]at a;refine ifB a (λu a=>?_) λu a=>?_
 ·refine w1 ?_;refine ldI a (K0.mono c p) λE y a=>?_;refine ldI a (K0.mono c q) λF z a=>?_;refine ifB a (λw a=>?_) λw a=>?_
  ·cases a;try dsimp only[Y2,N3]at b
   cases b;exact aI rfl c
  exact C2 e ⟨_,rfl,rfl,c,(O0 _),a⟩
 cases a;try dsimp only[V0,Y0]at b
 cases b;exact aI rfl c
def U04(h:Hp)(n:Option Addr)(t p:Nat)(f:J0)(u:K0.R h [.slice n t p] f)(r:J0)(b:g9 f=some r): Tr Tryz.prog 78 #[.slice n t p] h λv h'=>∃(m:Option Addr) (s o:Nat),v = .slice m s o/\K0.R h' [.slice m s o] r/\Sub h h':=by
 obtain⟨rfl,I⟩:=sL u;unfold g9 at b;refine wk Tryz.f78 ?_;obtain⟨l,y,b⟩:=D0 b;refine eX { vars:=[4],owns:=[0] } (eX (λvs os h'=>∃ c k g,vs.tail = [iV c]/\os = [k]/\Sub h h'/\I0 c/\F2 (Wp.int.R h') k g/\C5 f (P1 vs) c g=some l) (eX (λ_ _=>0) (aI (eX U0 ⟨_,_,_,rfl,rfl,sr,(O0 _),(show F2 (Wp.int.R h) ([]:LV) ([]:J0) from trivial),y⟩) ?_)));rintro _ k e q ⟨c,M,g,⟨⟩,⟨⟩,j,F,d,a⟩;replace a:C5 f e c g=some l:=a;obtain _|e:=e;·cases a
 rw[C5.eq_2]at a;refine ifB a (λz a=>?_) λz a=>?_;·refine ldI a (K0.mono j u) λi G a=>?_;obtain⟨K,x,a⟩:=D0 a;refine aI (N1 x (by first|rw[fL d,fL (show F2 (Wp.int.R q) ([[iV (i64.wrap (0-i))]]:LV) [(i64.wrap (0-i))] from⟨⟨rfl,(O0 _)⟩,trivial⟩)]|exact congrArg (·+1) (fL d))) ?_;exact C2 e ⟨_,_,_,rfl,rfl,j,(O0 _),(fA d (show F2 (Wp.int.R q) ([[iV (i64.wrap (0-i))]]:LV) [(i64.wrap (0-i))] from⟨⟨rfl,(O0 _)⟩,trivial⟩)),a⟩
 cases a;try dsimp only[V0,Y0]at b
 intro L H w;obtain⟨D,E,rfl,A,C,J⟩:=C1.out (r:=Wp.int.toRp) w d;cases b;exact⟨_,_,_,rfl,A,(j.trans C)⟩
def r05(h:Hp)(p:Option Addr)(z t:Nat)(k:J0)(g:K0.R h [.slice p z t] k)(r:J0)(c:L3 k=some r): Tr Tryz.prog 82 #[.slice p z t] h λv h'=>∃(o:Option Addr) (y s:Nat),v = .slice o y s/\K0.R h' [.slice o y s] r/\Sub h h':=by
 obtain⟨rfl,ad⟩:=sL g;unfold L3 at c;refine wk Tryz.f82 ?_;obtain⟨n,I,c⟩:=D0 c;refine eX { vars:=[4],owns:=[0] } (eX (λvs os h'=>∃ i j l,vs.tail = [iV i]/\os = [j]/\Sub h h'/\I0 i/\F2 (Wp.int.R h') j l/\D3 k (P1 vs) i l=some n) (eX (λ_ _=>0) (aI (eX U0 ⟨_,_,_,rfl,rfl,sr,oD,(show F2 (Wp.int.R h) ([]:LV) ([]:J0) from trivial),I⟩) ?_)));rintro _ j f d ⟨i,ap,l,⟨⟩,⟨⟩,e,W,b,a⟩;replace a:D3 k f i l=some n:=a;obtain _|f:=f;·cases a
 rw[D3.eq_2]at a;refine ifB a (λK a=>?_) λK a=>?_
 ·obtain⟨L,C,a⟩:=D0 a;obtain rfl:j.length=L:=(fL b).trans (oJ C);obtain⟨ai,V,a⟩:=D0 a;refine w1 ?_;refine ldG a (K0.mono e g) λao ab a=>?_;obtain⟨ak,G,a⟩:=D0 a;obtain⟨S,u,M⟩:=S05 b G (A0g d);refine aI (λq=>(u q).1) ?_;obtain⟨rfl,X⟩:=M;refine eX _ (aI (λq=>(u q).2) ?_);refine ldG a (K0.mono e g) λal Y a=>?_;obtain⟨am,H,a⟩:=D0 a;obtain⟨T,w,N⟩:=S05 b H (A0g d);refine aI (λq=>(w q).1) ?_;obtain⟨rfl,Z⟩:=N;refine eX _ (aI (λq=>(w q).2) ?_);refine ldG a (K0.mono e g) λan aa a=>?_;refine ifB a (λJ a=>?_) λJ a=>?_;·obtain⟨af,D,a⟩:=D0 a;refine aI (by have:=N0 D;have:=fL b;omega) ?_;exact C2 f ⟨_,_,_,rfl,rfl,e,(O0 _),(F2.take (i64.wrap (((j.length:Nat):Int)-1)).toNat b),a⟩
  refine ldI a (K0.mono e g) λm x a=>?_;obtain⟨ag,E,a⟩:=D0 a;refine aI (N1 E (by first|rw[fL b,fL (show F2 (Wp.int.R d) ([[iV m]]:LV) [m] from⟨⟨rfl,x⟩,trivial⟩)]|exact congrArg (·+1) (fL b))) ?_;exact C2 f ⟨_,_,_,rfl,rfl,e,(O0 _),(fA b (show F2 (Wp.int.R d) ([[iV m]]:LV) [m] from⟨⟨rfl,x⟩,trivial⟩)),a⟩
 cases a;try dsimp only[V0,Y0]at c
 obtain⟨ah,F,c⟩:=D0 c;refine aI (N1 F (by first|rw[fL (show F2 (Wp.int.R d) ([]:LV) ([]:J0) from trivial),fL b]|exact congrArg (·+0) (fL (show F2 (Wp.int.R d) ([]:LV) ([]:J0) from trivial)))) ?_;intro aj ac A;obtain⟨Q,U,rfl,O,P,ae⟩:=C1.out (r:=Wp.int.toRp) A (fA (show F2 (Wp.int.R d) ([]:LV) ([]:J0) from trivial) b);cases c;exact⟨_,_,_,rfl,O,(e.trans P)⟩
def o03(h:Hp)(d:Option Addr)(l g:Nat)(n:J0)(p:K0.R h [.slice d l g] n)(e:Option Addr)(m i:Nat)(o:J0)(q:K0.R h [.slice e m i] o)(r:J0)(a:r8 n o=some r): Tr Tryz.prog 114 #[.slice d l g,.slice e m i] h λv h'=>∃(c:Option Addr) (k f:Nat),v = .slice c k f/\K0.R h' [.slice c k f] r/\Sub h h':=by obtain⟨rfl,L⟩:=sL p;obtain⟨rfl,M⟩:=sL q;unfold r8 at a;refine wk Tryz.f114 ?_;obtain⟨D,t,b⟩:=Sl.rows (r:=Wp.int.toRp) p;refine eX D (aI t ?_);obtain⟨Q,x,a⟩:=D0 a;refine aI (N1 x (by first|rw[fL (show F2 (Wp.int.R h) ([]:LV) ([]:J0) from trivial),fL b]|exact congrArg (·+1) (fL (show F2 (Wp.int.R h) ([]:LV) ([]:J0) from trivial)))) ?_;obtain⟨E,u,j⟩:=Sl.rows (r:=Wp.int.toRp) q;refine eX E (aI u ?_);obtain⟨S,y,a⟩:=D0 a;refine aI (N1 y (by first|rw[fL (fA (show F2 (Wp.int.R h) ([]:LV) ([]:J0) from trivial) b),fL j]|exact congrArg (·+1) (fL (fA (show F2 (Wp.int.R h) ([]:LV) ([]:J0) from trivial) b)))) ?_;refine Or.inl ?_;intro U K w;obtain⟨G,I,rfl,z,C,O⟩:=C1.out (r:=Wp.int.toRp) w (fA (fA (show F2 (Wp.int.R h) ([]:LV) ([]:J0) from trivial) b) j);refine trM a (r05 _ _ _ _ _ z) ?_;rintro V a T J ⟨F,P,H,rfl,s,A⟩;obtain⟨rfl,N⟩:=sL s;cases a;exact⟨_,_,_,rfl,s,(C.trans A)⟩
def c07(h:Hp)(q:Option Addr)(y t:Nat)(i:J0)(z:K0.R h [.slice q y t] i)(r:J0)(d:t00 i=some r): Tr Tryz.prog 69 #[.slice q y t] h λv h'=>∃(o:Option Addr) (x s:Nat),v = .slice o x s/\New K0 h h' [.slice o x s] r:=by
 obtain⟨rfl,K⟩:=sL z;unfold t00 at d;refine wk Tryz.f69 ?_;obtain⟨M,A,d⟩:=D0 d;refine aI (N0 A) ?_;obtain⟨n,D,d⟩:=D0 d;refine eX { vars:=[4],owns:=[0] } (eX (λvs os h'=>∃ f m j,vs.tail = [iV f]/\os = [m]/\Sub h h'/\I0 f/\F2 (Wp.int.R h') m j/\W8 i (P1 vs) f j=some n) (eX (λ_ _=>0) (aI (eX U0 ⟨_,_,_,rfl,rfl,sr,(O0 _),(F2.rep (p:=Wp.int.R h) (a:=[iV 0]) (b:=0) ⟨rfl,oD⟩ ((0:Int).toNat)),D⟩) ?_)));rintro _ m g w ⟨f,S,j,⟨⟩,⟨⟩,l,H,e,c⟩;replace c:W8 i g f j=some n:=c;obtain _|g:=g;·cases c
 rw[W8.eq_2]at c;refine ifB c (λE c=>?_) λE c=>?_;·refine ldI c (K0.mono l z) λk I c=>?_;obtain⟨N,C,c⟩:=D0 c;refine aI (N1 C (by first|rw[fL e,fL (show F2 (Wp.int.R w) ([[iV (i64.wrap (0-k))]]:LV) [(i64.wrap (0-k))] from⟨⟨rfl,(O0 _)⟩,trivial⟩)]|exact congrArg (·+1) (fL e))) ?_;exact C2 g ⟨_,_,_,rfl,rfl,l,(O0 _),(fA e (show F2 (Wp.int.R w) ([[iV (i64.wrap (0-k))]]:LV) [(i64.wrap (0-k))] from⟨⟨rfl,(O0 _)⟩,trivial⟩)),c⟩
 cases c;try dsimp only[V0,Y0]at d
 intro Q J u;obtain⟨F,G,rfl,O,P,L⟩:=C1.out (r:=Wp.int.toRp) u e;cases d;exact⟨_,_,_,rfl,(New.from (C1.newPlain (r:=Wp.int) u e (M05 _)) l)⟩
def d07(h:Hp)(A:Option Addr)(H D:Nat)(k:K1)(I:Q1.R h [.slice A H D] k)(r:J0)(e:u00 k=some r): Tr Tryz.prog 124 #[.slice A H D] h λv h'=>∃(z:Option Addr) (G C:Nat),v = .slice z G C/\New K0 h h' [.slice z G C] r:=by
 obtain⟨rfl,ap⟩:=sL I;unfold u00 at e;refine wk Tryz.f124 ?_;obtain⟨x,S,e⟩:=D0 e;refine eX { vars:=[11],owns:=[0] } (eX (λvs os h'=>∃ g w n,vs.tail = [iV g]/\os = [w]/\Sub h h'/\I0 g/\F2 (Wp.int.R h') w n/\U9 k (P1 vs) g n=some x) (eX (λ_ _=>0) (aI (eX U0 ⟨_,_,_,rfl,rfl,sr,oD,(show F2 (Wp.int.R h) ([]:LV) ([]:J0) from trivial),S⟩) ?_)));rintro _ w j Y ⟨g,aG,n,⟨⟩,⟨⟩,u,am,p,b⟩;replace b:U9 k j g n=some x:=b;obtain _|j:=j;·cases b
 rw[U9.eq_2]at b;refine ifB b (λW b=>?_) λW b=>?_
 ·refine ld b (Q1.mono u I) λK ag J b=>?_;obtain⟨ad,ah,rfl,aq⟩:=slL J;obtain⟨y,T,b⟩:=D0 b;refine eX { vars:=[17],owns:=[0] } (eX (λvs os h'=>∃ i d m,vs.tail = [iV i]/\os = [d]/\Sub Y h'/\I0 i/\F2 (Wp.int.R h') d m/\K8 K (P1 vs) i m=some y) (eX (λ_ _=>0) (aI (eX U0 ⟨_,_,_,rfl,rfl,sr,oD,p,T⟩) ?_)));rintro _ d f t ⟨i,aF,m,⟨⟩,⟨⟩,l,an,c,a⟩;replace a:K8 K f i m=some y:=a;obtain _|f:=f;·cases a
  rw[K8.eq_2]at a;refine ifB a (λU a=>?_) λU a=>?_
  ·refine ldI a (K0.mono l J) λo s a=>?_;obtain⟨Z,L,a⟩:=D0 a;obtain rfl:d.length=Z:=(fL c).trans (oJ L);obtain⟨au,aj,a⟩:=D0 a;obtain⟨aa,M,a⟩:=D0 a;obtain rfl:d.length=aa:=(fL c).trans (oJ M);obtain⟨av,ak,a⟩:=D0 a;obtain⟨aC,Q,a⟩:=D0 a;obtain⟨af,E,ac⟩:=S05 c Q (A0g t);refine aI (λq=>(E q).1) ?_;obtain⟨rfl,X⟩:=ac;refine eX _ (aI (λq=>(E q).2) ?_);refine trG a (λq=>R09 _ _ X _ s) λaD a=>?_;refine ifB a (λV a=>?_) λV a=>?_;·obtain⟨ab,N,a⟩:=D0 a;obtain rfl:d.length=ab:=(fL c).trans (oJ N);obtain⟨aw,al,a⟩:=D0 a;obtain⟨ax,O,a⟩:=D0 a;refine aI (by have:=N0 O;have:=fL c;omega) ?_;exact C2 f ⟨_,_,_,rfl,rfl,l,(O0 _),(F2.take (i64.wrap (((d.length:Nat):Int)-1)).toNat c),a⟩
   obtain⟨ay,P,a⟩:=D0 a;refine aI (N1 P (by first|rw[fL c,fL (show F2 (Wp.int.R t) ([[iV o]]:LV) [o] from⟨⟨rfl,s⟩,trivial⟩)]|exact congrArg (·+1) (fL c))) ?_;exact C2 f ⟨_,_,_,rfl,rfl,l,(O0 _),(fA c (show F2 (Wp.int.R t) ([[iV o]]:LV) [o] from⟨⟨rfl,s⟩,trivial⟩)),a⟩
  cases a;try dsimp only[V0,Y0]at b
  exact C2 j ⟨_,_,_,rfl,rfl,(u.trans l),(O0 _),c,b⟩
 cases b;try dsimp only[V0,Y0]at e
 intro aB ao F;obtain⟨ae,ai,rfl,az,aA,ar⟩:=C1.out (r:=Wp.int.toRp) F p;cases e;exact⟨_,_,_,rfl,(New.from (C1.newPlain (r:=Wp.int) F p (M05 _)) u)⟩
end Go.Proofs.YthkpbcnhdhfifaaGreat
