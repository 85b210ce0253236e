/- Texts of the claim, joined: The walks of batch 1 and others. -/
import Derived.Test.YthakcafglempaaaGreatH53
import Derived.Test.YthakcafglempaaaGreatPart27
import Derived.Test.YthakcafglempaaaGreatPart24
import Derived.Test.YthakcafglempaaaGreatChecked
import Derived.Test.YthakcafglempaaaGreatH35
import Derived.Test.YthakcafglempaaaGreatPart25
namespace Go.Proofs.YthakcafglempaaaGreat
set_option linter.all false
open Go.H
open IntKind (i64)
set_option maxRecDepth 10000
def c7(h:Hp)(a:Int)(d:H0 a)(b:Int)(e:H0 b)(p2:Int)(f:H0 p2)(r:Bool)(c:P4 a b p2=some r): Tr Tryz.prog 41 #[iV a,iV b,iV p2] h λv h'=>v = .bool r/\h'=h:=by unfold P4 at c;refine wkF Tryz.f41 ?_;cases c;exact aI rfl sr
def K02(h:Hp)(d:Int)(m:H0 d)(k:Option Addr)(n l:Nat)(i:I0)(e:J0.R h [.slice k n l] i)(r:Bool)(b:p9 d i=some r): Tr Tryz.prog 24 #[iV d,.slice k n l] h λv h'=>v = .bool r/\h'=h:=by
 obtain⟨rfl,A⟩:=sL e;unfold p9 at b;refine wkF Tryz.f24 ?_;obtain⟨j,o,b⟩:=B0 b;refine eX { vars:=[5] } (eX (λvs os h'=>∃ f,vs.tail = [iV f]/\os = []/\Sub h h'/\H0 f/\A00 i d (E1 vs) f=some j) (eX (λ_ _=>0) (aI (eX P0 ⟨_,rfl,rfl,sr,oD,o⟩) ?_)));rintro _ g z ⟨f,⟨⟩,⟨⟩,c,u,a⟩;replace a:A00 i d g f=some j:=a;obtain _|g:=g;·cases a
 rw[A00.eq_2]at a;refine ifB a (λs a=>?_) λs a=>?_
 ·refine w1 ?_;refine ldI a (J0.mono c e) λE x a=>?_;refine ldG a (J0.mono c e) λF t a=>?_;refine trG a (λq=>c7 _ _ t (i64.wrap (0-d)) (M0 _) _ m) λG a=>?_;refine ldG a (J0.mono c e) λH y a=>?_;refine ldG a (J0.mono c e) λC w a=>?_;refine ifB a (λp a=>?_) λp a=>?_
  ·cases a;try dsimp only[M2,P2]at b
   cases b;exact aI rfl c
  exact P1 g ⟨_,rfl,rfl,c,(M0 _),a⟩
 cases a;try dsimp only[S0,U0]at b
 refine trV b (c7 _ _ m 1 oD 3 oD) λD b=>?_;cases b;exact aI rfl c
def v0e(h:Hp)(j:Option Addr)(l k:Nat)(f:M1)(m:T1.R h [.slice j l k] f)(r:Int)(b:M00 f=some r): Tr Tryz.prog 54 #[.slice j l k] h λv h'=>v=iV r/\h'=h:=by
 obtain⟨rfl,y⟩:=sL m;unfold M00 at b;refine wkF Tryz.f54 ?_;obtain⟨i,n,b⟩:=B0 b;refine eX { vars:=[3,4] } (eX (λvs os h'=>∃ c d,vs.tail = [iV c,iV d]/\os = []/\Sub h h'/\H0 c/\H0 d/\Q4 f (E1 vs) c d=some i) (eX (λ_ _=>0) (aI (eX P0 ⟨_,_,rfl,rfl,sr,oD,oD,n⟩) ?_)));rintro _ _ e x ⟨c,d,⟨⟩,⟨⟩,g,u,w,a⟩;replace a:Q4 f e c d=some i:=a;obtain _|e:=e;·cases a
 rw[Q4.eq_2]at a;refine ifB a (λo a=>?_) λo a=>?_;·refine ld a (T1.mono g m) λA s p a=>?_;obtain⟨q,t,rfl,z⟩:=slL p;exact P1 e ⟨_,_,rfl,rfl,g,(M0 _),(M0 _),a⟩
 cases a;try dsimp only[S0,U0]at b
 cases b;exact aI rfl g
def f0b(h:Hp)(c:Int)(m:H0 c)(k:Option Addr)(n l:Nat)(g:M1)(i:T1.R h [.slice k n l] g)(r:Bool)(b:p02 c g=some r): Tr Tryz.prog 32 #[iV c,.slice k n l] h λv h'=>v = .bool r/\h'=h:=by
 obtain⟨rfl,E⟩:=sL i;unfold p02 at b;refine wkF Tryz.f32 ?_;obtain⟨j,s,b⟩:=B0 b;refine eX { vars:=[5] } (eX (λvs os h'=>∃ e,vs.tail = [iV e]/\os = []/\Sub h h'/\H0 e/\O8 g c (E1 vs) e=some j) (eX (λ_ _=>0) (aI (eX P0 ⟨_,rfl,rfl,sr,oD,s⟩) ?_)));rintro _ f D ⟨e,⟨⟩,⟨⟩,d,A,a⟩;replace a:O8 g c f e=some j:=a;obtain _|f:=f;·cases a
 rw[O8.eq_2]at a;refine ifB a (λt a=>?_) λt a=>?_
 ·refine ld a (T1.mono d i) λH y o a=>?_;obtain⟨x,z,rfl,F⟩:=slL o;refine trV a (K02 _ _ m _ _ _ _ o) λI a=>?_;refine ifB a (λu a=>?_) λu a=>?_
  ·cases a;try dsimp only[M2,P2]at b
   cases b;exact aI rfl d
  exact P1 f ⟨_,rfl,rfl,d,(M0 _),a⟩
 cases a;try dsimp only[S0,U0]at b
 refine trV b (c7 _ _ m 1 oD 3 oD) λJ b=>?_;refine trG b (λq=>v0e _ _ _ _ _ (T1.mono d i)) λw b=>?_;obtain⟨G,p,b⟩:=B0 b;have C:H0 w:=F0 p;cases b;exact aI rfl d
def U3(h:Hp)(a:Int)(d:H0 a)(b:Int)(e:H0 b)(p2:Int)(f:H0 p2)(r:Bool)(c:U2 a b p2=some r): Tr Tryz.prog 92 #[iV a,iV b,iV p2] h λv h'=>v = .bool r/\h'=h:=by unfold U2 at c;refine wkF Tryz.f92 ?_;cases c;exact aI rfl sr
def b0i(h:Hp)(b:Int)(d:H0 b)(c:Int)(e:H0 c)(r:Bool)(a:I03 b c=some r): Tr Tryz.prog 170 #[iV b,iV c] h λv h'=>v = .bool r/\h'=h:=by unfold I03 at a;refine wkF Tryz.f170 ?_;refine trG a (λq=>U3 _ _ e (i64.wrap (0-b)) (M0 _) _ d) λf a=>?_;cases a;exact aI rfl sr
def s06(h:Hp)(a:Int)(d:H0 a)(b:Int)(e:H0 b)(r:Bool)(c:n00 a b=some r): Tr Tryz.prog 145 #[iV a,iV b] h λv h'=>v = .bool r/\h'=h:=by unfold n00 at c;refine wkF Tryz.f145 ?_;cases c;exact aI rfl sr
def l00(h:Hp)(c:Int)(m:H0 c)(k:Option Addr)(o l:Nat)(g:I0)(i:J0.R h [.slice k o l] g)(r:Bool)(b:L6 c g=some r): Tr Tryz.prog 111 #[iV c,.slice k o l] h λv h'=>v = .bool r/\h'=h:=by
 obtain⟨rfl,z⟩:=sL i;unfold L6 at b;refine wkF Tryz.f111 ?_;refine trV b (U3 _ _ m 1 oD 3 oD) λA b=>?_;refine ifB b (λt b=>?_) λt b=>?_;·cases b;exact aI rfl sr
 obtain⟨j,p,b⟩:=B0 b;refine eX { vars:=[17] } (eX (λvs os h'=>∃ e,vs.tail = [iV e]/\os = []/\Sub h h'/\H0 e/\B00 g c (E1 vs) e=some j) (eX (λ_ _=>0) (aI (eX P0 ⟨_,rfl,rfl,sr,oD,p⟩) ?_)));rintro _ f y ⟨e,⟨⟩,⟨⟩,d,x,a⟩;replace a:B00 g c f e=some j:=a;obtain _|f:=f;·cases a
 rw[B00.eq_2]at a;refine ifB a (λu a=>?_) λu a=>?_
 ·refine ldI a (J0.mono d i) λE n a=>?_;refine trV a (b0i _ _ m _ n) λF a=>?_;refine ldG a (J0.mono d i) λC w a=>?_;refine trG a (λq=>s06 _ _ w _ n) λD a=>?_;refine ifB a (λs a=>?_) λs a=>?_
  ·cases a;try dsimp only[M2,P2]at b
   cases b;exact aI rfl d
  exact P1 f ⟨_,rfl,rfl,d,(M0 _),a⟩
 cases a;try dsimp only[S0,U0]at b
 cases b;exact aI rfl d
def w0e(h:Hp)(j:Option Addr)(l k:Nat)(f:M1)(m:T1.R h [.slice j l k] f)(r:Int)(b:b02 f=some r): Tr Tryz.prog 144 #[.slice j l k] h λv h'=>v=iV r/\h'=h:=by
 obtain⟨rfl,y⟩:=sL m;unfold b02 at b;refine wkF Tryz.f144 ?_;obtain⟨i,n,b⟩:=B0 b;refine eX { vars:=[3,8] } (eX (λvs os h'=>∃ c d,vs.tail = [iV c,iV d]/\os = []/\Sub h h'/\H0 c/\H0 d/\Y7 f (E1 vs) c d=some i) (eX (λ_ _=>0) (aI (eX P0 ⟨_,_,rfl,rfl,sr,oD,oD,n⟩) ?_)));rintro _ _ e x ⟨c,d,⟨⟩,⟨⟩,g,u,w,a⟩;replace a:Y7 f e c d=some i:=a;obtain _|e:=e;·cases a
 rw[Y7.eq_2]at a;refine ifB a (λo a=>?_) λo a=>?_;·refine ld a (T1.mono g m) λA s p a=>?_;obtain⟨q,t,rfl,z⟩:=slL p;exact P1 e ⟨_,_,rfl,rfl,g,(M0 _),(M0 _),a⟩
 cases a;try dsimp only[S0,U0]at b
 cases b;exact aI rfl g
def Y03(h:Hp)(c:Int)(m:H0 c)(k:Option Addr)(n l:Nat)(g:M1)(i:T1.R h [.slice k n l] g)(r:Bool)(a:z9 c g=some r): Tr Tryz.prog 93 #[iV c,.slice k n l] h λv h'=>v = .bool r/\h'=h:=by
 obtain⟨rfl,E⟩:=sL i;unfold z9 at a;refine wkF Tryz.f93 ?_;refine trV a (U3 _ _ m 1 oD 3 oD) λH a=>?_;refine ifB a (λt a=>?_) λt a=>?_;·cases a;exact aI rfl sr
 obtain⟨j,q,a⟩:=B0 a;refine eX { vars:=[17] } (eX (λvs os h'=>∃ e,vs.tail = [iV e]/\os = []/\Sub h h'/\H0 e/\P8 g c (E1 vs) e=some j) (eX (λ_ _=>0) (aI (eX P0 ⟨_,rfl,rfl,sr,oD,q⟩) ?_)));rintro _ f D ⟨e,⟨⟩,⟨⟩,d,A,b⟩;replace b:P8 g c f e=some j:=b;obtain _|f:=f;·cases b
 rw[P8.eq_2]at b;refine ifB b (λu b=>?_) λu b=>?_
 ·refine ld b (T1.mono d i) λI y o b=>?_;obtain⟨x,z,rfl,F⟩:=slL o;refine trV b (l00 _ _ m _ _ _ _ o) λJ b=>?_;refine ifB b (λs b=>?_) λs b=>?_
  ·cases b;try dsimp only[M2,P2]at a
   cases a;exact aI rfl d
  exact P1 f ⟨_,rfl,rfl,d,(M0 _),b⟩
 cases b;try dsimp only[S0,U0]at a
 refine trV a (w0e _ _ _ _ _ (T1.mono d i)) λw a=>?_;obtain⟨G,p,a⟩:=B0 a;have C:H0 w:=F0 p;cases a;exact aI rfl d
def F05(h:Hp)(b:Int)(f:H0 b)(c:Int)(g:H0 c)(r:Int)(a:C9 b c=some r): Tr Tryz.prog 250 #[iV b,iV c] h λv h'=>v=iV r/\h'=h:=by
 unfold C9 at a;refine wkF Tryz.f250 ?_;refine ifB a (λd a=>?_) λd a=>?_;·cases a;exact aI rfl sr
 refine ifB a (λe a=>?_) λe a=>?_;·cases a;exact aI rfl sr
 cases a;exact aI rfl sr
def K6(h:Hp)(g:Int)(z:H0 g)(r:BA)(b:Z3 g=some r): Tr Tryz.prog 28 #[iV g] h λv h'=>v = .string r/\h'=h:=by
 unfold Z3 at b;refine wkF Tryz.f28 ?_;refine ifB b (λu b=>?_) λu b=>?_;·cases b;exact aI rfl sr
 obtain⟨i,t,b⟩:=B0 b;refine eX { vars:=[0,3] } (eX (λvs os h'=>∃ c e,vs.tail = [iV c,.string e]/\os = []/\Sub h h'/\H0 c/\e.size<=9223372036854775807/\W5 (E1 vs) c e=some i) (eX (λ_ _=>0) (aI (eX P0 ⟨_,_,rfl,rfl,sr,z,oD,t⟩) ?_)));rintro _ _ d l ⟨c,e,⟨⟩,⟨⟩,f,E,F,a⟩;replace a:W5 d c e=some i:=a;obtain _|d:=d;·cases a
 rw[W5.eq_2]at a;refine ifB a (λx a=>?_) λx a=>?_
 ·obtain⟨N,s,a⟩:=B0 a;refine aI (F0 s) ?_;refine ifB a (λy a=>?_) λy a=>?_;·refine eX [(IntKind.u8.wrap (i64.wrap (48+(i64.wrap (0-(Int.tmod c 10))))))] (aI (F2.u8 (show F2 (Rp.u8.R l) ([[.int .u8 (IntKind.u8.wrap (i64.wrap (48+(i64.wrap (0-(Int.tmod c 10))))))]]:LV) [(IntKind.u8.wrap (i64.wrap (48+(i64.wrap (0-(Int.tmod c 10))))))] from⟨rfl,trivial⟩)) ?_);obtain⟨G,C,a⟩:=B0 a;obtain⟨H,m,a⟩:=B0 a;have j:=F0 m;refine aI j ?_;obtain⟨I,n,a⟩:=B0 a;refine aI (F0 n) ?_;exact P1 d ⟨_,_,rfl,rfl,f,(M0 _),(D01 j),a⟩
  refine eX [(IntKind.u8.wrap (i64.wrap (48+(Int.tmod c 10))))] (aI (F2.u8 (show F2 (Rp.u8.R l) ([[.int .u8 (IntKind.u8.wrap (i64.wrap (48+(Int.tmod c 10))))]]:LV) [(IntKind.u8.wrap (i64.wrap (48+(Int.tmod c 10))))] from⟨rfl,trivial⟩)) ?_);obtain⟨J,D,a⟩:=B0 a;obtain⟨K,o,a⟩:=B0 a;have k:=F0 o;refine aI k ?_;obtain⟨L,p,a⟩:=B0 a;refine aI (F0 p) ?_;exact P1 d ⟨_,_,rfl,rfl,f,(M0 _),(D01 k),a⟩
 cases a;try dsimp only[S0,U0]at b
 refine ifB b (λw b=>?_) λw b=>?_;·obtain⟨M,q,b⟩:=B0 b;have A:=F0 q;refine aI A ?_;cases b;exact aI rfl f
 cases b;exact aI rfl f
def c0i(h:Hp)(b:Int)(c:H0 b)(r:Bool)(a:J03 b=some r): Tr Tryz.prog 20 #[iV b] h λv h'=>v = .bool r/\h'=h:=by unfold J03 at a;refine wkF Tryz.f20 ?_;refine trG a (λq=>c7 _ _ c (-3) oD 3 oD) λd a=>?_;cases a;exact aI rfl sr
def R0d(h:Hp)(b:Int)(o:H0 b)(r:BA)(a:e05 b=some r): Tr Tryz.prog 21 #[iV b] h λv h'=>v = .string r/\h'=h:=by
 unfold e05 at a;refine wkF Tryz.f21 ?_;refine ifB a (λj a=>?_) λj a=>?_;·obtain⟨s,g,a⟩:=B0 a;obtain⟨c,m,e,k⟩:=S3 (show F2 (Wp.str.R h) ([[.string (⟨#[65]⟩:BA)],[.string (⟨#[66]⟩:BA)],[.string (⟨#[67]⟩:BA)]]:LV) [(⟨#[65]⟩:BA),(⟨#[66]⟩:BA),(⟨#[67]⟩:BA)] from⟨⟨rfl,oD⟩,⟨⟨rfl,oD⟩,⟨⟨rfl,oD⟩,trivial⟩⟩⟩) g;refine aI c ?_;obtain⟨rfl,p⟩:=k;refine eX _ (aI e ?_);cases a;exact aI rfl sr
 obtain⟨t,i,a⟩:=B0 a;obtain⟨d,n,f,l⟩:=S3 (show F2 (Wp.str.R h) ([[.string (⟨#[97]⟩:BA)],[.string (⟨#[98]⟩:BA)],[.string (⟨#[99]⟩:BA)]]:LV) [(⟨#[97]⟩:BA),(⟨#[98]⟩:BA),(⟨#[99]⟩:BA)] from⟨⟨rfl,oD⟩,⟨⟨rfl,oD⟩,⟨⟨rfl,oD⟩,trivial⟩⟩⟩) i;refine aI d ?_;obtain⟨rfl,q⟩:=l;refine eX _ (aI f ?_);cases a;exact aI rfl sr
def D02(h:Hp)(k:Option Addr)(n l:Nat)(g:I0)(i:J0.R h [.slice k n l] g)(r:BA)(b:O7 g=some r): Tr Tryz.prog 10 #[.slice k n l] h λv h'=>v = .string r/\h'=h:=by
 obtain⟨rfl,E⟩:=sL i;unfold O7 at b;refine wkF Tryz.f10 ?_;obtain⟨j,q,b⟩:=B0 b;refine eX { vars:=[3,4] } (eX (λvs os h'=>∃ d e,vs.tail = [.string d,iV e]/\os = []/\Sub h h'/\d.size<=9223372036854775807/\H0 e/\B7 g (E1 vs) d e=some j) (eX (λ_ _=>0) (aI (eX P0 ⟨_,_,rfl,rfl,sr,oD,oD,q⟩) ?_)));rintro _ _ f D ⟨d,e,⟨⟩,⟨⟩,c,z,A,a⟩;replace a:B7 g f d e=some j:=a;obtain _|f:=f;·cases a
 rw[B7.eq_2]at a;refine ifB a (λt a=>?_) λt a=>?_
 ·refine ldI a (J0.mono c i) λI x a=>?_;refine trV a (c0i _ _ x) λJ a=>?_;refine ifB a (λu a=>?_) λu a=>?_
  ·cases a;try dsimp only[M2,P2]at b
   cases b;exact aI rfl c
  refine ldI a (J0.mono c i) λH w a=>?_;refine trV a (R0d _ _ w) λy a=>?_;obtain⟨F,o,a⟩:=B0 a;have C:y.size<=9223372036854775807:=F0 o;obtain⟨G,p,a⟩:=B0 a;have m:=F0 p;refine aI m ?_;exact P1 f ⟨_,_,rfl,rfl,c,(D01 m),(M0 _),a⟩
 cases a;try dsimp only[S0,U0]at b
 refine ifB b (λs b=>?_) λs b=>?_;·cases b;exact aI rfl c
 cases b;exact aI rfl c
def G03(h:Hp)(k:Option Addr)(o l:Nat)(g:M1)(i:T1.R h [.slice k o l] g)(r:BA)(b:Z7 g=some r): Tr Tryz.prog 9 #[.slice k o l] h λv h'=>v = .string r/\h'=h:=by
 obtain⟨rfl,U⟩:=sL i;unfold Z7 at b;refine wkF Tryz.f9 ?_;obtain⟨j,y,b⟩:=B0 b;refine eX { vars:=[3,4] } (eX (λvs os h'=>∃ e f,vs.tail = [.string e,iV f]/\os = []/\Sub h h'/\e.size<=9223372036854775807/\H0 f/\D4 g (E1 vs) e f=some j) (eX (λ_ _=>0) (aI (eX P0 ⟨_,_,rfl,rfl,sr,oD,oD,y⟩) ?_)));rintro _ _ d T ⟨e,f,⟨⟩,⟨⟩,c,O,P,a⟩;replace a:D4 g d e f=some j:=a;obtain _|d:=d;·cases a
 rw[D4.eq_2]at a;refine ifB a (λD a=>?_) λD a=>?_
 ·refine ifB a (λE a=>?_) λE a=>?_
  ·obtain⟨ab,x,a⟩:=B0 a;have F:=F0 x;refine aI F ?_;refine ld a (T1.mono c i) λad L q a=>?_;obtain⟨J,N,rfl,W⟩:=slL q;refine trV a (D02 _ _ _ _ _ q) λG a=>?_;obtain⟨X,s,a⟩:=B0 a;have Q:G.size<=9223372036854775807:=F0 s;refine ifB a (λz a=>?_) λz a=>?_
   ·cases a;try dsimp only[M2,P2]at b
    cases b;exact aI rfl c
   obtain⟨Y,t,a⟩:=B0 a;have m:=F0 t;refine aI m ?_;exact P1 d ⟨_,_,rfl,rfl,c,(D01 m),(M0 _),a⟩
  refine ld a (T1.mono c i) λac K p a=>?_;obtain⟨I,M,rfl,V⟩:=slL p;refine trV a (D02 _ _ _ _ _ p) λH a=>?_;obtain⟨Z,u,a⟩:=B0 a;have S:H.size<=9223372036854775807:=F0 u;refine ifB a (λA a=>?_) λA a=>?_
  ·cases a;try dsimp only[M2,P2]at b
   cases b;exact aI rfl c
  obtain⟨aa,w,a⟩:=B0 a;have n:=F0 w;refine aI n ?_;exact P1 d ⟨_,_,rfl,rfl,c,(D01 n),(M0 _),a⟩
 cases a;try dsimp only[S0,U0]at b
 refine ifB b (λC b=>?_) λC b=>?_;·cases b;exact aI rfl c
 cases b;exact aI rfl c
theorem i4(h:Hp)(p0:Int)(ip0:H0 p0)(r:ByteArray)(hM0:E2 p0=some r): Tr Tryz.prog 72 #[.int .i64 p0] h λv h'=>v = .string r/\h'=h:=by
 unfold E2 at hM0;refine Tr.forget (j5 (args:=[.int .i64 p0]) (fn:=Tryz.f72) rfl ?_);refine ifB hM0 (λhc1 hM0=>?_) λhc1 hM0=>?_;·obtain rfl:=oJ hM0;exact aI rfl (Sub.refl _)
 obtain⟨X2,hLX2,hM0⟩:=B0 hM0;refine eX { vars:=[4],boxes:=[],owns:=[0],fuel:=true } (eX (λvs os h'=>∃ u3 wu4 u4,vs.tail = [.int .i64 u3]/\os = [wu4]/\Sub h h'/\H0 u3/\F2 (Rp.u8.R h') wu4 u4/\Y5 (E1 vs) u3 u4=some X2) (eX (λ_ _=>0) (aI (eX P0 ⟨p0,[],([]:(List Int)),rfl,rfl,(Sub.refl _),ip0,(show F2 (Rp.u8.R h) ([]:List (List Value)) ([]:(List Int)) from trivial),hLX2⟩) ?_)));rintro _ wu4 m6 k5 ⟨u3,zzu4,u4,⟨⟩,⟨⟩,sX2,iu3,fu4,hM1⟩;replace hM1:Y5 m6 u3 u4=some X2:=hM1;obtain _|m6:=m6;·cases hM1
 rw[Y5.eq_2]at hM1;refine ifB hM1 (λhc7 hM1=>?_) λhc7 hM1=>?_
 ·obtain⟨q8,gq8,hM1⟩:=B0 hM1;refine aI (F0 gq8) ?_;refine ifB hM1 (λhc9 hM1=>?_) λhc9 hM1=>?_;·obtain⟨q10,gq10,hM1⟩:=B0 hM1;refine aI (G1 gq10 (by first|rw[F2.length fu4,F2.length (show F2 (Rp.u8.R k5) ([[.int .u8 (IntKind.u8.wrap (IntKind.i64.wrap (48+(IntKind.i64.wrap (0-(Int.tmod u3 10))))))]]:List (List Value)) [(IntKind.u8.wrap (IntKind.i64.wrap (48+(IntKind.i64.wrap (0-(Int.tmod u3 10))))))] from⟨rfl,trivial⟩)]|exact congrArg (·+1) (F2.length fu4))) ?_;obtain⟨q11,gq11,hM1⟩:=B0 hM1;refine aI (F0 gq11) ?_;exact P1 m6 ⟨(IntKind.i64.wrap (Int.tdiv u3 10)),(wu4++([[.int .u8 (IntKind.u8.wrap (IntKind.i64.wrap (48+(IntKind.i64.wrap (0-(Int.tmod u3 10))))))]]:List (List Value))),(u4 ++ [(IntKind.u8.wrap (IntKind.i64.wrap (48+(IntKind.i64.wrap (0-(Int.tmod u3 10))))))]),rfl,rfl,sX2,(M0 _),(F2.append fu4 (show F2 (Rp.u8.R k5) ([[.int .u8 (IntKind.u8.wrap (IntKind.i64.wrap (48+(IntKind.i64.wrap (0-(Int.tmod u3 10))))))]]:List (List Value)) [(IntKind.u8.wrap (IntKind.i64.wrap (48+(IntKind.i64.wrap (0-(Int.tmod u3 10))))))] from⟨rfl,trivial⟩)),hM1⟩
  obtain⟨q12,gq12,hM1⟩:=B0 hM1;refine aI (G1 gq12 (by first|rw[F2.length fu4,F2.length (show F2 (Rp.u8.R k5) ([[.int .u8 (IntKind.u8.wrap (IntKind.i64.wrap (48+(Int.tmod u3 10))))]]:List (List Value)) [(IntKind.u8.wrap (IntKind.i64.wrap (48+(Int.tmod u3 10))))] from⟨rfl,trivial⟩)]|exact congrArg (·+1) (F2.length fu4))) ?_;obtain⟨q13,gq13,hM1⟩:=B0 hM1;refine aI (F0 gq13) ?_;exact P1 m6 ⟨(IntKind.i64.wrap (Int.tdiv u3 10)),(wu4++([[.int .u8 (IntKind.u8.wrap (IntKind.i64.wrap (48+(Int.tmod u3 10))))]]:List (List Value))),(u4 ++ [(IntKind.u8.wrap (IntKind.i64.wrap (48+(Int.tmod u3 10))))]),rfl,rfl,sX2,(M0 _),(F2.append fu4 (show F2 (Rp.u8.R k5) ([[.int .u8 (IntKind.u8.wrap (IntKind.i64.wrap (48+(Int.tmod u3 10))))]]:List (List Value)) [(IntKind.u8.wrap (IntKind.i64.wrap (48+(Int.tmod u3 10))))] from⟨rfl,trivial⟩)),hM1⟩
 obtain rfl:=oJ hM1;try dsimp only[S0,U0]at hM0
 refine ifB hM0 (λhc14 hM0=>?_) λhc14 hM0=>?_
 ·obtain⟨q15,gq15,hM0⟩:=B0 hM0;refine aI (G1 gq15 (by first|rw[F2.length fu4,F2.length (show F2 (Rp.u8.R k5) ([[.int .u8 45]]:List (List Value)) [45] from⟨rfl,trivial⟩)]|exact congrArg (·+1) (F2.length fu4))) ?_;obtain⟨m16,gm16,hM0⟩:=B0 hM0;obtain rfl:(wu4++([[.int .u8 45]]:List (List Value))).length=m16:=(F2.length (F2.append fu4 (show F2 (Rp.u8.R k5) ([[.int .u8 45]]:List (List Value)) [45] from⟨rfl,trivial⟩))).trans (oJ gm16);obtain⟨q17,gq17,hM0⟩:=B0 hM0;obtain⟨X18,hLX18,hM0⟩:=B0 hM0;refine eX { vars:=[6,7],boxes:=[],owns:=[0],fuel:=true,kept:=[0] } (eX (λvs os h'=>∃ u19 u20 wu21 u21,vs.tail = [.int .i64 u19,.int .i64 u20]/\os = [wu21]/\Sub k5 h'/\H0 u19/\H0 u20/\F2 (Rp.u8.R h') wu21 u21/\M4 (E1 vs) u19 u20 u21=some X18) (eX (λ_ _=>0) (aI (eX P0 ⟨0,(IntKind.i64.wrap ((((wu4++([[.int .u8 45]]:List (List Value))).length:Nat):Int)-1)),(wu4++([[.int .u8 45]]:List (List Value))),(u4 ++ [45]),rfl,rfl,(Sub.refl _),(by decide),(M0 _),(F2.append fu4 (show F2 (Rp.u8.R k5) ([[.int .u8 45]]:List (List Value)) [45] from⟨rfl,trivial⟩)),hLX18⟩) ?_)));rintro _ _ wu21 m23 k22 ⟨u19,u20,zzu21,u21,⟨⟩,⟨⟩,sX18,iu19,iu20,fu21,hM1⟩;replace hM1:M4 m23 u19 u20 u21=some X18:=hM1;obtain _|m23:=m23;·cases hM1
  rw[M4.eq_2]at hM1;refine ifB hM1 (λhc24 hM1=>?_) λhc24 hM1=>?_
  ·refine Or.inr (Or.inr (Or.inr (Or.inr (eX 12 (aI (aI (by kernel_rfl) (by kernel_rfl)) ?_)))));obtain⟨x25,gx25,hM1⟩:=B0 hM1;obtain⟨bx25,csx25,ex25,rx25⟩:=S3 fu21 gx25;obtain rfl:=rx25;refine Or.inl ?_;apply eX;refine aI ?_ ?_;·intro k26 s27;exact aI bx25 (aI rfl (aI rfl rfl))
   refine Or.inl (eX (.val (.int .u8 x25)) (aI ?_ ?_));·intro k28 s29;exact eX _ (aI ex25 (aI rfl (aI rfl rfl)))
   obtain⟨x30,gx30,hM1⟩:=B0 hM1;obtain⟨bx30,csx30,ex30,rx30⟩:=S3 fu21 gx30;obtain rfl:=rx30;refine Or.inl ?_;apply eX;refine aI ?_ ?_;·intro k31 s32;exact aI bx30 (aI rfl (aI rfl rfl))
   refine Or.inl (eX (.val (.int .u8 x30)) (aI ?_ ?_));·intro k33 s34;exact eX _ (aI ex30 (aI rfl (aI rfl rfl)))
   intro k35 s36;obtain⟨x37,gx37,hM1⟩:=B0 hM1;obtain⟨bx37,csx37,ex37,rx37⟩:=S3 (F2.up (r:=Rp.u8) s36 fu21) gx37;refine aI bx37 ?_;obtain rfl:=rx37;refine eX _ (aI ex37 ?_);obtain⟨x38,gx38,hM1⟩:=B0 hM1;obtain⟨bx38,csx38,ex38,rx38⟩:=S3 (F2.set (p:=Rp.u8.R k35) (a:=[.int .u8 x25]) (b:=x25) rfl u19.toNat (F2.up (r:=Rp.u8) s36 fu21)) gx38;refine aI bx38 ?_;obtain rfl:=rx38;refine eX _ (aI ex38 ?_);exact P1 m23 ⟨(IntKind.i64.wrap (u19+1)),(IntKind.i64.wrap (u20-1)),((wu21.set u19.toNat [.int .u8 x25]).set u20.toNat [.int .u8 x30]),((u21.set u19.toNat x25).set u20.toNat x30),rfl,rfl,(sX18.trans s36),(M0 _),(M0 _),(F2.set (p:=Rp.u8.R k35) (a:=[.int .u8 x30]) (b:=x30) rfl u20.toNat (F2.set (p:=Rp.u8.R k35) (a:=[.int .u8 x25]) (b:=x25) rfl u19.toNat (F2.up (r:=Rp.u8) s36 fu21))),hM1⟩
  obtain rfl:=oJ hM1;try dsimp only[S0,U0]at hM0
  refine eX u21 (aI (F2.u8 fu21) ?_);obtain⟨q39,gq39,hM0⟩:=B0 hM0;obtain rfl:=oJ hM0;exact aI rfl (sX2.trans sX18)
 obtain⟨m45,gm45,hM0⟩:=B0 hM0;obtain rfl:wu4.length=m45:=(F2.length fu4).trans (oJ gm45);obtain⟨q46,gq46,hM0⟩:=B0 hM0;obtain⟨X47,hLX47,hM0⟩:=B0 hM0;refine eX { vars:=[6,7],boxes:=[],owns:=[0],fuel:=true,kept:=[0] } (eX (λvs os h'=>∃ u48 u49 wu50 u50,vs.tail = [.int .i64 u48,.int .i64 u49]/\os = [wu50]/\Sub k5 h'/\H0 u48/\H0 u49/\F2 (Rp.u8.R h') wu50 u50/\M4 (E1 vs) u48 u49 u50=some X47) (eX (λ_ _=>0) (aI (eX P0 ⟨0,(IntKind.i64.wrap (((wu4.length:Nat):Int)-1)),wu4,u4,rfl,rfl,(Sub.refl _),(by decide),(M0 _),fu4,hLX47⟩) ?_)));rintro _ _ wu50 m52 k51 ⟨u48,u49,zzu50,u50,⟨⟩,⟨⟩,sX47,iu48,iu49,fu50,hM1⟩;replace hM1:M4 m52 u48 u49 u50=some X47:=hM1;obtain _|m52:=m52;·cases hM1
 rw[M4.eq_2]at hM1;refine ifB hM1 (λhc53 hM1=>?_) λhc53 hM1=>?_
 ·refine Or.inr (Or.inr (Or.inr (Or.inr (eX 12 (aI (aI (by kernel_rfl) (by kernel_rfl)) ?_)))));obtain⟨x54,gx54,hM1⟩:=B0 hM1;obtain⟨bx54,csx54,ex54,rx54⟩:=S3 fu50 gx54;obtain rfl:=rx54;refine Or.inl ?_;apply eX;refine aI ?_ ?_;·intro k55 s56;exact aI bx54 (aI rfl (aI rfl rfl))
  refine Or.inl (eX (.val (.int .u8 x54)) (aI ?_ ?_));·intro k57 s58;exact eX _ (aI ex54 (aI rfl (aI rfl rfl)))
  obtain⟨x59,gx59,hM1⟩:=B0 hM1;obtain⟨bx59,csx59,ex59,rx59⟩:=S3 fu50 gx59;obtain rfl:=rx59;refine Or.inl ?_;apply eX;refine aI ?_ ?_;·intro k60 s61;exact aI bx59 (aI rfl (aI rfl rfl))
  refine Or.inl (eX (.val (.int .u8 x59)) (aI ?_ ?_));·intro k62 s63;exact eX _ (aI ex59 (aI rfl (aI rfl rfl)))
  intro k64 s65;obtain⟨x66,gx66,hM1⟩:=B0 hM1;obtain⟨bx66,csx66,ex66,rx66⟩:=S3 (F2.up (r:=Rp.u8) s65 fu50) gx66;refine aI bx66 ?_;obtain rfl:=rx66;refine eX _ (aI ex66 ?_);obtain⟨x67,gx67,hM1⟩:=B0 hM1;obtain⟨bx67,csx67,ex67,rx67⟩:=S3 (F2.set (p:=Rp.u8.R k64) (a:=[.int .u8 x54]) (b:=x54) rfl u48.toNat (F2.up (r:=Rp.u8) s65 fu50)) gx67;refine aI bx67 ?_;obtain rfl:=rx67;refine eX _ (aI ex67 ?_);exact P1 m52 ⟨(IntKind.i64.wrap (u48+1)),(IntKind.i64.wrap (u49-1)),((wu50.set u48.toNat [.int .u8 x54]).set u49.toNat [.int .u8 x59]),((u50.set u48.toNat x54).set u49.toNat x59),rfl,rfl,(sX47.trans s65),(M0 _),(M0 _),(F2.set (p:=Rp.u8.R k64) (a:=[.int .u8 x59]) (b:=x59) rfl u49.toNat (F2.set (p:=Rp.u8.R k64) (a:=[.int .u8 x54]) (b:=x54) rfl u48.toNat (F2.up (r:=Rp.u8) s65 fu50))),hM1⟩
 obtain rfl:=oJ hM1;try dsimp only[S0,U0]at hM0
 refine eX u50 (aI (F2.u8 fu50) ?_);obtain⟨q68,gq68,hM0⟩:=B0 hM0;obtain rfl:=oJ hM0;exact aI rfl (sX2.trans sX47)
def n09(h:Hp)(b:Int)(c:H0 b)(r:BA)(a:o00 b=some r): Tr Tryz.prog 162 #[iV b] h λv h'=>v = .string r/\h'=h:=by
 unfold o00 at a;refine wkF Tryz.f162 ?_;refine trV a (U3 _ _ c 1 oD 3 oD) λk a=>?_;refine ifB a (λf a=>?_) λf a=>?_;·obtain⟨i,d,a⟩:=B0 a;refine aI (F0 d) ?_;cases a;exact aI rfl sr
 refine trV a (U3 _ _ c (-3) oD (-1) oD) λl a=>?_;refine ifB a (λg a=>?_) λg a=>?_;·obtain⟨j,e,a⟩:=B0 a;refine aI (F0 e) ?_;cases a;exact aI rfl sr
 cases a;exact aI rfl sr
def k04(h:Hp)(j:Option Addr)(m k:Nat)(f:I0)(n:J0.R h [.slice j m k] f)(r:BA)(b:M6 f=some r): Tr Tryz.prog 112 #[.slice j m k] h λv h'=>v = .string r/\h'=h:=by
 obtain⟨rfl,D⟩:=sL n;unfold M6 at b;refine wkF Tryz.f112 ?_;refine ifB b (λs b=>?_) λs b=>?_;·cases b;exact aI rfl sr
 obtain⟨i,q,b⟩:=B0 b;refine eX { vars:=[3,12] } (eX (λvs os h'=>∃ c d,vs.tail = [.string c,iV d]/\os = []/\Sub h h'/\c.size<=9223372036854775807/\H0 d/\C7 f (E1 vs) c d=some i) (eX (λ_ _=>0) (aI (eX P0 ⟨_,_,rfl,rfl,sr,oD,oD,q⟩) ?_)));rintro _ _ e C ⟨c,d,⟨⟩,⟨⟩,g,y,z,a⟩;replace a:C7 f e c d=some i:=a;obtain _|e:=e;·cases a
 rw[C7.eq_2]at a;refine ifB a (λu a=>?_) λu a=>?_
 ·refine ldI a (J0.mono g n) λG w a=>?_;refine trV a (n09 _ _ w) λx a=>?_;obtain⟨E,o,a⟩:=B0 a;have A:x.size<=9223372036854775807:=F0 o;refine ifB a (λt a=>?_) λt a=>?_
  ·cases a;try dsimp only[M2,P2]at b
   cases b;exact aI rfl g
  obtain⟨F,p,a⟩:=B0 a;have l:=F0 p;refine aI l ?_;exact P1 e ⟨_,_,rfl,rfl,g,(D01 l),(M0 _),a⟩
 cases a;try dsimp only[S0,U0]at b
 cases b;exact aI rfl g
def W07(h:Hp)(k:Option Addr)(n l:Nat)(o:(List BA))(g:(Wp.slice Wp.str).R h [.slice k n l] o)(c:BA)(O:c.size<=9223372036854775807)(p2:BA)(P:p2.size<=9223372036854775807)(r:BA)(b:v02 o c p2=some r): Tr Tryz.prog 133 #[.slice k n l,.string c,.string p2] h λv h'=>v = .string r/\h'=h:=by
 obtain⟨rfl,V⟩:=sL g;unfold v02 at b;refine wkF Tryz.f133 ?_;refine ifB b (λz b=>?_) λz b=>?_;·cases b;exact aI rfl sr
 refine ld b g λaa M H b=>?_;obtain⟨rfl,D⟩:=H;obtain⟨q,x,b⟩:=B0 b;obtain⟨F,I,s,t⟩:=Sl.cutI (r:=Wp.str.toRp) g x;refine aI F (eX I (aI s ?_));intro J C _;obtain⟨K,N,rfl,p⟩:=t J C;have W:=(sL p).2;obtain⟨j,y,b⟩:=B0 b;refine eX { vars:=[7,20] } (eX (λvs os h'=>∃ d e,vs.tail = [.string d,iV e]/\os = []/\Sub h h'/\d.size<=9223372036854775807/\H0 e/\d01 q c (E1 vs) d e=some j) (eX (λ_ _=>0) (aI (eX P0 ⟨_,_,rfl,rfl,sr,D,oD,y⟩) ?_)));rintro _ _ f U ⟨d,e,⟨⟩,⟨⟩,i,Q,S,a⟩;replace a:d01 q c f d e=some j:=a;obtain _|f:=f;·cases a
 rw[d01.eq_2]at a;refine ifB a (λA a=>?_) λA a=>?_;·refine ld a ((Wp.slice Wp.str).mono i p) λZ L G a=>?_;obtain⟨rfl,T⟩:=G;obtain⟨X,u,a⟩:=B0 a;have E:=F0 u;refine aI E ?_;obtain⟨Y,w,a⟩:=B0 a;have m:=F0 w;refine aI m ?_;exact P1 f ⟨_,_,rfl,rfl,i,(D01 m),(M0 _),a⟩
 cases a;try dsimp only[S0,U0]at b
 cases b;exact aI rfl i
def x0e(h:Hp)(m:Option Addr)(q n:Nat)(g:M1)(s:T1.R h [.slice m q n] g)(r:BA)(b:c02 g=some r): Tr Tryz.prog 147 #[.slice m q n] h λv h'=>v = .string r/\h'=h:=by
 obtain⟨rfl,O⟩:=sL s;unfold c02 at b;refine wkF Tryz.f147 ?_;obtain⟨l,A,b⟩:=B0 b;refine eX { vars:=[10],owns:=[0] } (eX (λvs os h'=>∃ c k j,vs.tail = [iV c]/\os = [k]/\Sub h h'/\H0 c/\F2 (Wp.str.R h') k j/\U6 g (E1 vs) c j=some l) (eX (λ_ _=>0) (aI (eX P0 ⟨_,_,_,rfl,rfl,sr,oD,(show F2 (Wp.str.R h) ([]:LV) ([]:(List BA)) from trivial),A⟩) ?_)));rintro _ k f p ⟨c,Y,j,⟨⟩,⟨⟩,i,L,e,a⟩;replace a:U6 g f c j=some l:=a;obtain _|f:=f;·cases a
 rw[U6.eq_2]at a;refine ifB a (λD a=>?_) λD a=>?_
 ·refine ld a (T1.mono i s) λX I t a=>?_;obtain⟨G,J,rfl,P⟩:=slL t;refine trV a (k04 _ _ _ _ _ t) λd a=>?_;obtain⟨U,y,a⟩:=B0 a;have o:d.size<=9223372036854775807:=F0 y;refine ifB a (λC a=>?_) λC a=>?_
  ·cases a;try dsimp only[M2,P2]at b
   cases b;exact aI rfl i
  obtain⟨S,w,a⟩:=B0 a;refine aI (G1 w (by first|rw[fL e,fL (show F2 (Wp.str.R p) ([[.string d]]:LV) [d] from⟨⟨rfl,o⟩,trivial⟩)]|exact congrArg (·+1) (fL e))) ?_;exact P1 f ⟨_,_,_,rfl,rfl,i,(M0 _),(fA e (show F2 (Wp.str.R p) ([[.string d]]:LV) [d] from⟨⟨rfl,o⟩,trivial⟩)),a⟩
 cases a;try dsimp only[S0,U0]at b
 refine Or.inr ?_;intro W N u;obtain⟨H,K,rfl,E,V,Q⟩:=Y0.out (r:=Wp.str.toRp) u e;obtain⟨F,z,b⟩:=B0 b;refine Tr.val (W07 _ _ _ _ _ E (⟨#[44]⟩:BA) oD (⟨#[110,111,110,101]⟩:BA) oD _  z) (aI rfl ?_);obtain⟨T,x,b⟩:=B0 b;have M:F.size<=9223372036854775807:=F0 x;cases b;exact aI rfl i
def Y0f(h:Hp)(n:Option Addr)(t p:Nat)(f:I0)(u:J0.R h [.slice n t p] f)(r:I0)(b:q01 f=some r): Tr Tryz.prog 7 #[.slice n t p] h λv h'=>∃(m:Option Addr) (s o:Nat),v = .slice m s o/\J0.R h' [.slice m s o] r/\Sub h h':=by
 obtain⟨rfl,I⟩:=sL u;unfold q01 at b;refine wk Tryz.f7 ?_;obtain⟨l,y,b⟩:=B0 b;refine eX { vars:=[4],owns:=[0] } (eX (λvs os h'=>∃ c k g,vs.tail = [iV c]/\os = [k]/\Sub h h'/\H0 c/\F2 (Wp.int.R h') k g/\o5 f (E1 vs) c g=some l) (eX (λ_ _=>0) (aI (eX P0 ⟨_,_,_,rfl,rfl,sr,(M0 _),(show F2 (Wp.int.R h) ([]:LV) ([]:I0) from trivial),y⟩) ?_)));rintro _ k e q ⟨c,M,g,⟨⟩,⟨⟩,j,F,d,a⟩;replace a:o5 f e c g=some l:=a;obtain _|e:=e;·cases a
 rw[o5.eq_2]at a;refine ifB a (λz a=>?_) λz a=>?_;·refine ldI a (J0.mono j u) λi G a=>?_;obtain⟨K,x,a⟩:=B0 a;refine aI (G1 x (by first|rw[fL d,fL (show F2 (Wp.int.R q) ([[iV (i64.wrap (0-i))]]:LV) [(i64.wrap (0-i))] from⟨⟨rfl,(M0 _)⟩,trivial⟩)]|exact congrArg (·+1) (fL d))) ?_;exact P1 e ⟨_,_,_,rfl,rfl,j,(M0 _),(fA d (show F2 (Wp.int.R q) ([[iV (i64.wrap (0-i))]]:LV) [(i64.wrap (0-i))] from⟨⟨rfl,(M0 _)⟩,trivial⟩)),a⟩
 cases a;try dsimp only[S0,U0]at b
 intro L H w;obtain⟨D,E,rfl,A,C,J⟩:=Y0.out (r:=Wp.int.toRp) w d;cases b;exact⟨_,_,_,rfl,A,(j.trans C)⟩
def m01(h:Hp)(p:Option Addr)(z t:Nat)(k:I0)(g:J0.R h [.slice p z t] k)(r:I0)(c:G3 k=some r): Tr Tryz.prog 17 #[.slice p z t] h λv h'=>∃(o:Option Addr) (y s:Nat),v = .slice o y s/\J0.R h' [.slice o y s] r/\Sub h h':=by
 obtain⟨rfl,ad⟩:=sL g;unfold G3 at c;refine wk Tryz.f17 ?_;obtain⟨n,I,c⟩:=B0 c;refine eX { vars:=[4],owns:=[0] } (eX (λvs os h'=>∃ i j l,vs.tail = [iV i]/\os = [j]/\Sub h h'/\H0 i/\F2 (Wp.int.R h') j l/\j3 k (E1 vs) i l=some n) (eX (λ_ _=>0) (aI (eX P0 ⟨_,_,_,rfl,rfl,sr,oD,(show F2 (Wp.int.R h) ([]:LV) ([]:I0) from trivial),I⟩) ?_)));rintro _ j f d ⟨i,ap,l,⟨⟩,⟨⟩,e,W,b,a⟩;replace a:j3 k f i l=some n:=a;obtain _|f:=f;·cases a
 rw[j3.eq_2]at a;refine ifB a (λK a=>?_) λK a=>?_
 ·obtain⟨L,C,a⟩:=B0 a;obtain rfl:j.length=L:=(fL b).trans (oJ C);obtain⟨ai,V,a⟩:=B0 a;refine w1 ?_;refine ldG a (J0.mono e g) λao ab a=>?_;obtain⟨ak,G,a⟩:=B0 a;obtain⟨S,u,M⟩:=e06 b G (m0f d);refine aI (λq=>(u q).1) ?_;obtain⟨rfl,X⟩:=M;refine eX _ (aI (λq=>(u q).2) ?_);refine ldG a (J0.mono e g) λal Y a=>?_;obtain⟨am,H,a⟩:=B0 a;obtain⟨T,w,N⟩:=e06 b H (m0f d);refine aI (λq=>(w q).1) ?_;obtain⟨rfl,Z⟩:=N;refine eX _ (aI (λq=>(w q).2) ?_);refine ldG a (J0.mono e g) λan aa a=>?_;refine ifB a (λJ a=>?_) λJ a=>?_;·obtain⟨af,D,a⟩:=B0 a;refine aI (by have:=F0 D;have:=fL b;omega) ?_;exact P1 f ⟨_,_,_,rfl,rfl,e,(M0 _),(F2.take (i64.wrap (((j.length:Nat):Int)-1)).toNat b),a⟩
  refine ldI a (J0.mono e g) λm x a=>?_;obtain⟨ag,E,a⟩:=B0 a;refine aI (G1 E (by first|rw[fL b,fL (show F2 (Wp.int.R d) ([[iV m]]:LV) [m] from⟨⟨rfl,x⟩,trivial⟩)]|exact congrArg (·+1) (fL b))) ?_;exact P1 f ⟨_,_,_,rfl,rfl,e,(M0 _),(fA b (show F2 (Wp.int.R d) ([[iV m]]:LV) [m] from⟨⟨rfl,x⟩,trivial⟩)),a⟩
 cases a;try dsimp only[S0,U0]at c
 obtain⟨ah,F,c⟩:=B0 c;refine aI (G1 F (by first|rw[fL (show F2 (Wp.int.R d) ([]:LV) ([]:I0) from trivial),fL b]|exact congrArg (·+0) (fL (show F2 (Wp.int.R d) ([]:LV) ([]:I0) from trivial)))) ?_;intro aj ac A;obtain⟨Q,U,rfl,O,P,ae⟩:=Y0.out (r:=Wp.int.toRp) A (fA (show F2 (Wp.int.R d) ([]:LV) ([]:I0) from trivial) b);cases c;exact⟨_,_,_,rfl,O,(e.trans P)⟩
def n0c(h:Hp)(d:Option Addr)(l g:Nat)(n:I0)(p:J0.R h [.slice d l g] n)(e:Option Addr)(m i:Nat)(o:I0)(q:J0.R h [.slice e m i] o)(r:I0)(a:f01 n o=some r): Tr Tryz.prog 6 #[.slice d l g,.slice e m i] h λv h'=>∃(c:Option Addr) (k f:Nat),v = .slice c k f/\J0.R h' [.slice c k f] r/\Sub h h':=by obtain⟨rfl,L⟩:=sL p;obtain⟨rfl,M⟩:=sL q;unfold f01 at a;refine wk Tryz.f6 ?_;obtain⟨D,t,b⟩:=Sl.rows (r:=Wp.int.toRp) p;refine eX D (aI t ?_);obtain⟨Q,x,a⟩:=B0 a;refine aI (G1 x (by first|rw[fL (show F2 (Wp.int.R h) ([]:LV) ([]:I0) from trivial),fL b]|exact congrArg (·+1) (fL (show F2 (Wp.int.R h) ([]:LV) ([]:I0) from trivial)))) ?_;obtain⟨E,u,j⟩:=Sl.rows (r:=Wp.int.toRp) q;refine eX E (aI u ?_);obtain⟨S,y,a⟩:=B0 a;refine aI (G1 y (by first|rw[fL (fA (show F2 (Wp.int.R h) ([]:LV) ([]:I0) from trivial) b),fL j]|exact congrArg (·+1) (fL (fA (show F2 (Wp.int.R h) ([]:LV) ([]:I0) from trivial) b)))) ?_;refine Or.inl ?_;intro U K w;obtain⟨G,I,rfl,z,C,O⟩:=Y0.out (r:=Wp.int.toRp) w (fA (fA (show F2 (Wp.int.R h) ([]:LV) ([]:I0) from trivial) b) j);refine trM a (m01 _ _ _ _ _ z) ?_;rintro V a T J ⟨F,P,H,rfl,s,A⟩;obtain⟨rfl,N⟩:=sL s;cases a;exact⟨_,_,_,rfl,s,(C.trans A)⟩
def o09(h:Hp)(q:Option Addr)(y t:Nat)(i:I0)(z:J0.R h [.slice q y t] i)(r:I0)(d:r01 i=some r): Tr Tryz.prog 187 #[.slice q y t] h λv h'=>∃(o:Option Addr) (x s:Nat),v = .slice o x s/\New J0 h h' [.slice o x s] r:=by
 obtain⟨rfl,K⟩:=sL z;unfold r01 at d;refine wk Tryz.f187 ?_;obtain⟨M,A,d⟩:=B0 d;refine aI (F0 A) ?_;obtain⟨n,D,d⟩:=B0 d;refine eX { vars:=[4],owns:=[0] } (eX (λvs os h'=>∃ f m j,vs.tail = [iV f]/\os = [m]/\Sub h h'/\H0 f/\F2 (Wp.int.R h') m j/\J8 i (E1 vs) f j=some n) (eX (λ_ _=>0) (aI (eX P0 ⟨_,_,_,rfl,rfl,sr,(M0 _),(F2.rep (p:=Wp.int.R h) (a:=[iV 0]) (b:=0) ⟨rfl,oD⟩ ((0:Int).toNat)),D⟩) ?_)));rintro _ m g w ⟨f,S,j,⟨⟩,⟨⟩,l,H,e,c⟩;replace c:J8 i g f j=some n:=c;obtain _|g:=g;·cases c
 rw[J8.eq_2]at c;refine ifB c (λE c=>?_) λE c=>?_;·refine ldI c (J0.mono l z) λk I c=>?_;obtain⟨N,C,c⟩:=B0 c;refine aI (G1 C (by first|rw[fL e,fL (show F2 (Wp.int.R w) ([[iV (i64.wrap (0-k))]]:LV) [(i64.wrap (0-k))] from⟨⟨rfl,(M0 _)⟩,trivial⟩)]|exact congrArg (·+1) (fL e))) ?_;exact P1 g ⟨_,_,_,rfl,rfl,l,(M0 _),(fA e (show F2 (Wp.int.R w) ([[iV (i64.wrap (0-k))]]:LV) [(i64.wrap (0-k))] from⟨⟨rfl,(M0 _)⟩,trivial⟩)),c⟩
 cases c;try dsimp only[S0,U0]at d
 intro Q J u;obtain⟨F,G,rfl,O,P,L⟩:=Y0.out (r:=Wp.int.toRp) u e;cases d;exact⟨_,_,_,rfl,(New.from (Y0.newPlain (r:=Wp.int) u e (B07 _)) l)⟩
def t06(h:Hp)(A:Option Addr)(H D:Nat)(k:M1)(I:T1.R h [.slice A H D] k)(r:I0)(e:p00 k=some r): Tr Tryz.prog 180 #[.slice A H D] h λv h'=>∃(z:Option Addr) (G C:Nat),v = .slice z G C/\New J0 h h' [.slice z G C] r:=by
 obtain⟨rfl,ap⟩:=sL I;unfold p00 at e;refine wk Tryz.f180 ?_;obtain⟨x,S,e⟩:=B0 e;refine eX { vars:=[11],owns:=[0] } (eX (λvs os h'=>∃ g w n,vs.tail = [iV g]/\os = [w]/\Sub h h'/\H0 g/\F2 (Wp.int.R h') w n/\I9 k (E1 vs) g n=some x) (eX (λ_ _=>0) (aI (eX P0 ⟨_,_,_,rfl,rfl,sr,oD,(show F2 (Wp.int.R h) ([]:LV) ([]:I0) from trivial),S⟩) ?_)));rintro _ w j Y ⟨g,aG,n,⟨⟩,⟨⟩,u,am,p,b⟩;replace b:I9 k j g n=some x:=b;obtain _|j:=j;·cases b
 rw[I9.eq_2]at b;refine ifB b (λW b=>?_) λW b=>?_
 ·refine ld b (T1.mono u I) λK ag J b=>?_;obtain⟨ad,ah,rfl,aq⟩:=slL J;obtain⟨y,T,b⟩:=B0 b;refine eX { vars:=[17],owns:=[0] } (eX (λvs os h'=>∃ i d m,vs.tail = [iV i]/\os = [d]/\Sub Y h'/\H0 i/\F2 (Wp.int.R h') d m/\A8 K (E1 vs) i m=some y) (eX (λ_ _=>0) (aI (eX P0 ⟨_,_,_,rfl,rfl,sr,oD,p,T⟩) ?_)));rintro _ d f t ⟨i,aF,m,⟨⟩,⟨⟩,l,an,c,a⟩;replace a:A8 K f i m=some y:=a;obtain _|f:=f;·cases a
  rw[A8.eq_2]at a;refine ifB a (λU a=>?_) λU a=>?_
  ·refine ldI a (J0.mono l J) λo s a=>?_;obtain⟨Z,L,a⟩:=B0 a;obtain rfl:d.length=Z:=(fL c).trans (oJ L);obtain⟨au,aj,a⟩:=B0 a;obtain⟨aa,M,a⟩:=B0 a;obtain rfl:d.length=aa:=(fL c).trans (oJ M);obtain⟨av,ak,a⟩:=B0 a;obtain⟨aC,Q,a⟩:=B0 a;obtain⟨af,E,ac⟩:=e06 c Q (m0f t);refine aI (λq=>(E q).1) ?_;obtain⟨rfl,X⟩:=ac;refine eX _ (aI (λq=>(E q).2) ?_);refine trG a (λq=>s06 _ _ X _ s) λaD a=>?_;refine ifB a (λV a=>?_) λV a=>?_;·obtain⟨ab,N,a⟩:=B0 a;obtain rfl:d.length=ab:=(fL c).trans (oJ N);obtain⟨aw,al,a⟩:=B0 a;obtain⟨ax,O,a⟩:=B0 a;refine aI (by have:=F0 O;have:=fL c;omega) ?_;exact P1 f ⟨_,_,_,rfl,rfl,l,(M0 _),(F2.take (i64.wrap (((d.length:Nat):Int)-1)).toNat c),a⟩
   obtain⟨ay,P,a⟩:=B0 a;refine aI (G1 P (by first|rw[fL c,fL (show F2 (Wp.int.R t) ([[iV o]]:LV) [o] from⟨⟨rfl,s⟩,trivial⟩)]|exact congrArg (·+1) (fL c))) ?_;exact P1 f ⟨_,_,_,rfl,rfl,l,(M0 _),(fA c (show F2 (Wp.int.R t) ([[iV o]]:LV) [o] from⟨⟨rfl,s⟩,trivial⟩)),a⟩
  cases a;try dsimp only[S0,U0]at b
  exact P1 j ⟨_,_,_,rfl,rfl,(u.trans l),(M0 _),c,b⟩
 cases b;try dsimp only[S0,U0]at e
 intro aB ao F;obtain⟨ae,ai,rfl,az,aA,ar⟩:=Y0.out (r:=Wp.int.toRp) F p;cases e;exact⟨_,_,_,rfl,(New.from (Y0.newPlain (r:=Wp.int) F p (B07 _)) u)⟩
def k0l(h:Hp)(b:List Value)(d:j0)(l:F1.R h b d)(c:List Value)(f:O0)(m:C1.R h c f)(r:Bool)(a:f05 d f=some r): Tr Tryz.prog 90 #[.agg b.toArray,.agg c.toArray] h λv h'=>v = .bool r/\h'=h:=by obtain⟨t,e,n,o,u,rfl,rfl,g,p,z,s⟩:=opG l;obtain⟨w,x,y,rfl,rfl,i,j,k⟩:=Q1 m;unfold f05 at a;dsimp only at a;refine wkF Tryz.f90 ?_;refine trV a (c7 _ _ i 0 oD (i64.wrap (e-1)) (M0 _)) λA a=>?_;refine trG a (λq=>c7 _ _ k 0 oD (i64.wrap (e-1)) (M0 _)) λC a=>?_;refine trG a (λq=>c7 _ _ j 1 oD _ g) λD a=>?_;cases a;exact aI rfl sr
def K07(h:Hp)(n:List Value)(x:O0)(Q:C1.R h n x)(o:List Value)(y:O0)(S:C1.R h o y)(r:Int)(b:v00 x y=some r): Tr Tryz.prog 91 #[.agg n.toArray,.agg o.toArray] h λv h'=>v=iV r/\h'=h:=by
 obtain⟨d,e,f,rfl,rfl,p,q,s⟩:=Q1 Q;obtain⟨g,i,j,rfl,rfl,t,u,w⟩:=Q1 S;unfold v00 at b;dsimp only at b;refine wkF Tryz.f91 ?_;obtain⟨m,M,b⟩:=B0 b;refine eX { vars:=[7] } (eX (λvs os h'=>∃ k,vs.tail = [iV k]/\os = []/\Sub h h'/\H0 k/\d9 d e f g i j (E1 vs) k=some m) (eX (λ_ _=>0) (aI (eX P0 ⟨_,rfl,rfl,sr,oD,M⟩) ?_)));rintro _ l ag ⟨k,⟨⟩,⟨⟩,c,ab,a⟩;replace a:d9 d e f g i j l k=some m:=a;obtain _|l:=l;·cases a
 rw[d9.eq_2]at a;refine ifB a (λO a=>?_) λO a=>?_
 ·refine w1 ?_;obtain⟨ai,J,a⟩:=B0 a;obtain⟨A,Y,F,U⟩:=S3 (F2.up (r:=Wp.int.toRp) c (show F2 (Wp.int.R h) ([[iV d],[iV e],[iV f]]:LV) [d,e,f] from⟨⟨rfl,p⟩,⟨⟨rfl,q⟩,⟨⟨rfl,s⟩,trivial⟩⟩⟩)) J;refine aI A ?_;obtain⟨rfl,ad⟩:=U;refine eX _ (aI F ?_);obtain⟨aj,K,a⟩:=B0 a;obtain⟨C,Z,G,V⟩:=S3 (F2.up (r:=Wp.int.toRp) c (show F2 (Wp.int.R h) ([[iV g],[iV i],[iV j]]:LV) [g,i,j] from⟨⟨rfl,t⟩,⟨⟨rfl,u⟩,⟨⟨rfl,w⟩,trivial⟩⟩⟩)) K;refine aI C ?_;obtain⟨rfl,ae⟩:=V;refine eX _ (aI G ?_);refine ifB a (λP a=>?_) λP a=>?_
  ·cases a;try dsimp only[M2,P2]at b
   cases b;exact aI rfl c
  refine w1 ?_;obtain⟨ak,L,a⟩:=B0 a;obtain⟨D,aa,H,W⟩:=S3 (F2.up (r:=Wp.int.toRp) c (show F2 (Wp.int.R h) ([[iV d],[iV e],[iV f]]:LV) [d,e,f] from⟨⟨rfl,p⟩,⟨⟨rfl,q⟩,⟨⟨rfl,s⟩,trivial⟩⟩⟩)) L;refine aI D ?_;obtain⟨rfl,af⟩:=W;refine eX _ (aI H ?_);obtain⟨ah,I,a⟩:=B0 a;obtain⟨z,X,E,T⟩:=S3 (F2.up (r:=Wp.int.toRp) c (show F2 (Wp.int.R h) ([[iV g],[iV i],[iV j]]:LV) [g,i,j] from⟨⟨rfl,t⟩,⟨⟨rfl,u⟩,⟨⟨rfl,w⟩,trivial⟩⟩⟩)) I;refine aI z ?_;obtain⟨rfl,ac⟩:=T;refine eX _ (aI E ?_);refine ifB a (λN a=>?_) λN a=>?_
  ·cases a;try dsimp only[M2,P2]at b
   cases b;exact aI rfl c
  exact P1 l ⟨_,rfl,rfl,c,(M0 _),a⟩
 cases a;try dsimp only[S0,U0]at b
 cases b;exact aI rfl c
def t8(h:Hp)(i:List Value)(o:j0)(M:F1.R h i o)(r:Bool)(b:V4 o=some r): Tr Tryz.prog 53 #[.agg i.toArray] h λv h'=>v = .bool r/\h'=h:=by
 obtain⟨p,s,T,U,t,rfl,rfl,l,m,f,aa⟩:=opG M;unfold V4 at b;dsimp only at b;refine wkF Tryz.f53 ?_;obtain⟨g,z,b⟩:=B0 b;refine eX { vars:=[3] } (eX (λvs os h'=>∃ d,vs.tail = [iV d]/\os = []/\Sub h h'/\H0 d/\K9 t p s (E1 vs) d=some g) (eX (λ_ _=>0) (aI (eX P0 ⟨_,rfl,rfl,sr,oD,z⟩) ?_)));rintro _ e n ⟨d,⟨⟩,⟨⟩,c,Y,a⟩;replace a:K9 t p s e d=some g:=a;obtain _|e:=e;·cases a
 rw[K9.eq_2]at a;refine ifB a (λC a=>?_) λC a=>?_
 ·refine w1 ?_;refine ld a (N0.mono c f) λae V N a=>?_;obtain⟨af,ag,ah,rfl,rfl,D,E,F⟩:=Q1 N;try dsimp only at a
  obtain⟨S,w,a⟩:=B0 a;refine eX (.bool S) (aI (k0l _ _ _ (D0 l m (N0.mono c f)) _ _ (N1 D E F) _  w) ?_);obtain⟨ai,x,a⟩:=B0 a;obtain⟨W,j,O⟩:=Sl.getG (r:=C1.toRp) (N0.mono c f) x oD (Q0b n);refine aI (λq=>(j q).1) ?_;obtain⟨aj,ak,al,rfl,rfl,G,H,I⟩:=Q1 O;try dsimp only at a
  refine eX _ (aI (λq=>(j q).2) ?_);obtain⟨am,y,a⟩:=B0 a;obtain⟨X,k,P⟩:=Sl.getG (r:=C1.toRp) (N0.mono c f) y oD (Q0b n);refine aI (λq=>(k q).1) ?_;obtain⟨an,ao,ap,rfl,rfl,J,K,L⟩:=Q1 P;try dsimp only at a
  refine eX _ (aI (λq=>(k q).2) ?_);refine trG a (λq=>K07 _ _ _ (N1 G H I) _ _ (N1 J K L)) λQ a=>?_;obtain⟨ab,u,a⟩:=B0 a;have Z:H0 Q:=F0 u;refine ifB a (λA a=>?_) λA a=>?_
  ·cases a;try dsimp only[M2,P2]at b
   cases b;exact aI rfl c
  exact P1 e ⟨_,rfl,rfl,c,(M0 _),a⟩
 cases a;try dsimp only[S0,U0]at b
 refine trV b (c7 _ _ l 1 oD 3 oD) λac b=>?_;refine trG b (λq=>c7 _ _ m 1 oD 40 oD) λad b=>?_;cases b;exact aI rfl c
def T04(h:Hp)(c:List Value)(d:j0)(g:F1.R h c d)(b:Int)(e:H0 b)(r:Bool)(a:B8 d b=some r): Tr Tryz.prog 236 #[.agg c.toArray,iV b] h λv h'=>v = .bool r/\h'=h:=by obtain⟨n,f,i,j,o,rfl,rfl,k,l,p,m⟩:=opG g;unfold B8 at a;dsimp only at a;refine wkF Tryz.f236 ?_;refine trV a (U3 _ _ e 0 oD (i64.wrap (f-1)) (M0 _)) λq a=>?_;cases a;exact aI rfl sr
def o0c(h:Hp)(c:List Value)(f:j0)(m:F1.R h c f)(d:List Value)(g:O0)(n:C1.R h d g)(r:Bool)(a:g01 f g=some r): Tr Tryz.prog 217 #[.agg c.toArray,.agg d.toArray] h λv h'=>v = .bool r/\h'=h:=by obtain⟨t,u,o,p,w,rfl,rfl,b,e,i,s⟩:=opG m;obtain⟨x,y,z,rfl,rfl,j,k,l⟩:=Q1 n;unfold g01 at a;dsimp only at a;refine wkF Tryz.f217 ?_;refine trV a (T04 _ _ _ (D0 b e i) _ j) λA a=>?_;refine trG a (λq=>T04 _ _ _ (D0 b e i) _ l) λC a=>?_;refine trG a (λq=>U3 _ _ k 1 oD _ b) λD a=>?_;cases a;exact aI rfl sr
def L07(h:Hp)(b:List Value)(d:O0)(s:C1.R h b d)(c:List Value)(e:O0)(t:C1.R h c e)(r:Int)(a:E01 d e=some r): Tr Tryz.prog 218 #[.agg b.toArray,.agg c.toArray] h λv h'=>v=iV r/\h'=h:=by
 obtain⟨C,D,E,rfl,rfl,l,m,n⟩:=Q1 s;obtain⟨F,G,H,rfl,rfl,o,p,q⟩:=Q1 t;unfold E01 at a;dsimp only at a;refine wkF Tryz.f218 ?_;refine trV a (F05 _ _ l _ o) λu a=>?_;obtain⟨I,f,a⟩:=B0 a;have y:H0 u:=F0 f;refine ifB a (λj a=>?_) λj a=>?_;·cases a;exact aI rfl sr
 refine trV a (F05 _ _ m _ p) λw a=>?_;obtain⟨J,g,a⟩:=B0 a;have z:H0 w:=F0 g;refine ifB a (λk a=>?_) λk a=>?_;·cases a;exact aI rfl sr
 refine trV a (F05 _ _ n _ q) λx a=>?_;obtain⟨K,i,a⟩:=B0 a;have A:H0 x:=F0 i;cases a;exact aI rfl sr
def n01(h:Hp)(i:List Value)(p:j0)(I:F1.R h i p)(r:Bool)(b:t7 p=some r): Tr Tryz.prog 161 #[.agg i.toArray] h λv h'=>v = .bool r/\h'=h:=by
 obtain⟨s,t,N,O,u,rfl,rfl,k,l,f,U⟩:=opG I;unfold t7 at b;dsimp only at b;refine wkF Tryz.f161 ?_;refine trV b (U3 _ _ k 1 oD 3 oD) λW b=>?_;refine trG b (λq=>U3 _ _ l 1 oD 40 oD) λab b=>?_;refine ifB b (λC b=>?_) λC b=>?_;·cases b;exact aI rfl sr
 obtain⟨g,z,b⟩:=B0 b;refine eX { vars:=[24] } (eX (λvs os h'=>∃ d,vs.tail = [iV d]/\os = []/\Sub h h'/\H0 d/\L9 u s t (E1 vs) d=some g) (eX (λ_ _=>0) (aI (eX P0 ⟨_,rfl,rfl,sr,oD,z⟩) ?_)));rintro _ e H ⟨d,⟨⟩,⟨⟩,c,S,a⟩;replace a:L9 u s t e d=some g:=a;obtain _|e:=e;·cases a
 rw[L9.eq_2]at a;refine ifB a (λD a=>?_) λD a=>?_
 ·refine ld a (N0.mono c f) λac Q K a=>?_;obtain⟨ad,ae,af,rfl,rfl,m,n,o⟩:=Q1 K;try dsimp only at a
  refine w1 ?_;obtain⟨L,x,a⟩:=B0 a;refine eX (.bool L) (aI (o0c _ _ _ (D0 k l (N0.mono c f)) _ _ (N1 m n o) _  x) ?_);obtain⟨X,y,a⟩:=B0 a;obtain⟨P,j,J⟩:=Sl.getG (r:=C1.toRp) (N0.mono c f) y oD (Q0b H);refine aI (λq=>(j q).1) ?_;obtain⟨Y,Z,aa,rfl,rfl,E,F,G⟩:=Q1 J;try dsimp only at a
  refine eX _ (aI (λq=>(j q).2) ?_);refine trG a (λq=>L07 _ _ _ (N1 E F G) _ _ (N1 m n o)) λM a=>?_;obtain⟨V,w,a⟩:=B0 a;have T:H0 M:=F0 w;refine ifB a (λA a=>?_) λA a=>?_
  ·cases a;try dsimp only[M2,P2]at b
   cases b;exact aI rfl c
  exact P1 e ⟨_,rfl,rfl,c,(M0 _),a⟩
 cases a;try dsimp only[S0,U0]at b
 cases b;exact aI rfl c
def e0h(h:Hp)(b:Int)(g:H0 b)(r:BA)(a:h03 b=some r): Tr Tryz.prog 30 #[iV b] h λv h'=>v = .string r/\h'=h:=by
 unfold h03 at a;refine wkF Tryz.f30 ?_;refine trV a (c7 _ _ g 1 oD 6 oD) λl a=>?_;refine ifB a (λf a=>?_) λf a=>?_;·cases a;exact aI rfl sr
 obtain⟨m,e,a⟩:=B0 a;obtain⟨c,j,d,i⟩:=S3 (show F2 (Wp.str.R h) ([[.string (⟨#[105,110]⟩:BA)],[.string (⟨#[111,117,116]⟩:BA)],[.string (⟨#[115,97,109,101]⟩:BA)],[.string (⟨#[99,111,110,106,117,103,97,116,101]⟩:BA)],[.string (⟨#[102,114,101,101]⟩:BA)],[.string (⟨#[105,110,100,101,120]⟩:BA)]]:LV) [(⟨#[105,110]⟩:BA),(⟨#[111,117,116]⟩:BA),(⟨#[115,97,109,101]⟩:BA),(⟨#[99,111,110,106,117,103,97,116,101]⟩:BA),(⟨#[102,114,101,101]⟩:BA),(⟨#[105,110,100,101,120]⟩:BA)] from⟨⟨rfl,oD⟩,⟨⟨rfl,oD⟩,⟨⟨rfl,oD⟩,⟨⟨rfl,oD⟩,⟨⟨rfl,oD⟩,⟨⟨rfl,oD⟩,trivial⟩⟩⟩⟩⟩⟩) e;refine aI c ?_;obtain⟨rfl,k⟩:=i;refine eX _ (aI d ?_);cases a;exact aI rfl sr
def y0e(h:Hp)(i:List Value)(n:j0)(Z:F1.R h i n)(r:BA)(b:i02 n=some r): Tr Tryz.prog 31 #[.agg i.toArray] h λv h'=>v = .string r/\h'=h:=by
 obtain⟨an,ao,ab,ac,o,rfl,rfl,j,k,p,am⟩:=opG Z;unfold i02 at b;dsimp only at b;refine wkF Tryz.f31 ?_;refine trV b (t8 _ _ _ (D0 j k p)) λaC b=>?_;refine ifB b (λQ b=>?_) λQ b=>?_;·cases b;exact aI rfl sr
 refine w1 ?_;obtain⟨u,M,b⟩:=B0 b;refine eX (.string u) (aI (K6 _ _ j _  M) ?_);obtain⟨ay,F,b⟩:=B0 b;have aj:u.size<=9223372036854775807:=F0 F;obtain⟨az,G,b⟩:=B0 b;have Y:=F0 G;refine aI Y ?_;obtain⟨w,N,b⟩:=B0 b;refine eX (.string w) (aI (K6 _ _ k _  N) ?_);obtain⟨aA,H,b⟩:=B0 b;have ak:w.size<=9223372036854775807:=F0 H;obtain⟨aB,I,b⟩:=B0 b;have m:=F0 I;refine aI m ?_;obtain⟨g,O,b⟩:=B0 b;refine eX { vars:=[3,4] } (eX (λvs os h'=>∃ c d,vs.tail = [.string c,iV d]/\os = []/\Sub h h'/\c.size<=9223372036854775807/\H0 d/\Z6 o (E1 vs) c d=some g) (eX (λ_ _=>0) (aI (eX P0 ⟨_,_,rfl,rfl,sr,(D01 m),oD,O⟩) ?_)));rintro _ _ e al ⟨c,d,⟨⟩,⟨⟩,f,ae,af,a⟩;replace a:Z6 o e c d=some g:=a;obtain _|e:=e;·cases a
 rw[Z6.eq_2]at a;refine ifB a (λP a=>?_) λP a=>?_
 ·refine ld a (N0.mono f p) λaD ad aa a=>?_;obtain⟨aF,aG,aH,rfl,rfl,S,T,U⟩:=Q1 aa;try dsimp only at a
  refine w1 ?_;obtain⟨ap,x,a⟩:=B0 a;have V:=F0 x;refine aI V ?_;obtain⟨q,J,a⟩:=B0 a;refine eX (.string q) (aI (K6 _ _ S _  J) ?_);obtain⟨aq,y,a⟩:=B0 a;have ag:q.size<=9223372036854775807:=F0 y;obtain⟨ar,z,a⟩:=B0 a;have W:=F0 z;refine aI W ?_;obtain⟨s,K,a⟩:=B0 a;refine eX (.string s) (aI (R0d _ _ T _  K) ?_);obtain⟨au,A,a⟩:=B0 a;have ah:s.size<=9223372036854775807:=F0 A;obtain⟨av,C,a⟩:=B0 a;have X:=F0 C;refine aI X ?_;obtain⟨t,L,a⟩:=B0 a;refine eX (.string t) (aI (K6 _ _ U _  L) ?_);obtain⟨aw,D,a⟩:=B0 a;have ai:t.size<=9223372036854775807:=F0 D;obtain⟨ax,E,a⟩:=B0 a;have l:=F0 E;refine aI l ?_;exact P1 e ⟨_,_,rfl,rfl,f,(D01 l),(M0 _),a⟩
 cases a;try dsimp only[S0,U0]at b
 cases b;exact aI rfl f
def t07(h:Hp)(k:Option Addr)(o l:Nat)(g:I0)(i:J0.R h [.slice k o l] g)(r:BA)(b:U9 g=some r): Tr Tryz.prog 26 #[.slice k o l] h λv h'=>v = .string r/\h'=h:=by
 obtain⟨rfl,L⟩:=sL i;unfold U9 at b;refine wkF Tryz.f26 ?_;obtain⟨j,w,b⟩:=B0 b;refine eX { vars:=[3,4] } (eX (λvs os h'=>∃ e f,vs.tail = [.string e,iV f]/\os = []/\Sub h h'/\e.size<=9223372036854775807/\H0 f/\O3 g (E1 vs) e f=some j) (eX (λ_ _=>0) (aI (eX P0 ⟨_,_,rfl,rfl,sr,oD,oD,w⟩) ?_)));rintro _ _ d K ⟨e,f,⟨⟩,⟨⟩,c,G,H,a⟩;replace a:O3 g d e f=some j:=a;obtain _|d:=d;·cases a
 rw[O3.eq_2]at a;refine ifB a (λy a=>?_) λy a=>?_
 ·refine ifB a (λz a=>?_) λz a=>?_;·obtain⟨Q,u,a⟩:=B0 a;have D:=F0 u;refine aI D ?_;refine ldI a (J0.mono c i) λT C a=>?_;refine trV a (K6 _ _ C) λE a=>?_;obtain⟨M,p,a⟩:=B0 a;have I:E.size<=9223372036854775807:=F0 p;obtain⟨N,q,a⟩:=B0 a;have m:=F0 q;refine aI m ?_;exact P1 d ⟨_,_,rfl,rfl,c,(D01 m),(M0 _),a⟩
  refine ldI a (J0.mono c i) λS A a=>?_;refine trV a (K6 _ _ A) λF a=>?_;obtain⟨O,s,a⟩:=B0 a;have J:F.size<=9223372036854775807:=F0 s;obtain⟨P,t,a⟩:=B0 a;have n:=F0 t;refine aI n ?_;exact P1 d ⟨_,_,rfl,rfl,c,(D01 n),(M0 _),a⟩
 cases a;try dsimp only[S0,U0]at b
 refine ifB b (λx b=>?_) λx b=>?_;·cases b;exact aI rfl c
 cases b;exact aI rfl c
def z0e(h:Hp)(e:List Value)(f:j6)(ai:S4.R h e f)(r:BA)(a:P00 f=some r): Tr Tryz.prog 13 #[.agg e.toArray] h λv h'=>v = .string r/\h'=h:=by
 obtain⟨aM,aN,al,aH,ap,aO,am,aJ,aq,aP,an,aK,ar,aQ,aR,aS,ao,aL,au,aU,aV,rfl,rfl,S,b,c,d,g,T,U,i,V⟩:=p01 ai;obtain⟨rfl,aC⟩:=sL c;obtain⟨rfl,aD⟩:=sL d;obtain⟨rfl,aF⟩:=sL g;obtain⟨rfl,aG⟩:=sL i;unfold P00 at a;dsimp only at a;refine wkF Tryz.f13 ?_;refine trV a (e0h _ _ S) λaj a=>?_;obtain⟨a4,z,a⟩:=B0 a;have av:aj.size<=9223372036854775807:=F0 z;refine trV a (y0e _ _ _ (D0 T U i)) λak a=>?_;obtain⟨bg,J,a⟩:=B0 a;have aA:ak.size<=9223372036854775807:=F0 J;refine trG a (λq=>f0b _ _ b _ _ _ _ c) λbi a=>?_;refine trG a (λq=>K02 _ _ b _ _ _ _ d) λbj a=>?_;refine ifB a (λQ a=>?_) λQ a=>?_;·cases a;exact aI rfl sr
 refine w1 ?_;obtain⟨bh,K,a⟩:=B0 a;have ah:=F0 K;refine aI ah ?_;obtain⟨n,P,a⟩:=B0 a;refine eX (.string n) (aI (K6 _ _ b _  P) ?_);obtain⟨aW,o,a⟩:=B0 a;have aB:n.size<=9223372036854775807:=F0 o;obtain⟨aX,p,a⟩:=B0 a;have W:=F0 p;refine aI W ?_;obtain⟨aY,s,a⟩:=B0 a;have X:=F0 s;refine aI X ?_;obtain⟨j,L,a⟩:=B0 a;refine eX (.string j) (aI (G03 _ _ _ _ _ c _  L) ?_);obtain⟨aZ,t,a⟩:=B0 a;have aw:j.size<=9223372036854775807:=F0 t;obtain⟨a0,u,a⟩:=B0 a;have Y:=F0 u;refine aI Y ?_;obtain⟨a1,w,a⟩:=B0 a;have Z:=F0 w;refine aI Z ?_;obtain⟨k,M,a⟩:=B0 a;refine eX (.string k) (aI (D02 _ _ _ _ _ d _  M) ?_);obtain⟨a2,x,a⟩:=B0 a;have ax:k.size<=9223372036854775807:=F0 x;obtain⟨a3,y,a⟩:=B0 a;have aa:=F0 y;refine aI aa ?_;obtain⟨a5,A,a⟩:=B0 a;have ab:=F0 A;refine aI ab ?_;obtain⟨l,N,a⟩:=B0 a;refine eX (.string l) (aI (t07 _ _ _ _ _ g _  N) ?_);obtain⟨a6,C,a⟩:=B0 a;have ay:l.size<=9223372036854775807:=F0 C;obtain⟨ba,D,a⟩:=B0 a;have ac:=F0 D;refine aI ac ?_;obtain⟨bb,E,a⟩:=B0 a;have ad:=F0 E;refine aI ad ?_;obtain⟨bc,F,a⟩:=B0 a;have ae:=F0 F;refine aI ae ?_;obtain⟨bd,G,a⟩:=B0 a;have af:=F0 G;refine aI af ?_;obtain⟨m,O,a⟩:=B0 a;refine eX (.string m) (aI (K6 _ _ V _  O) ?_);obtain⟨be,H,a⟩:=B0 a;have az:m.size<=9223372036854775807:=F0 H;obtain⟨bf,I,a⟩:=B0 a;have ag:=F0 I;refine aI ag ?_;cases a;exact aI rfl sr
def Q06(h:Hp)(b:Int)(g:H0 b)(r:BA)(a:E5 b=some r): Tr Tryz.prog 129 #[iV b] h λv h'=>v = .string r/\h'=h:=by
 unfold E5 at a;refine wkF Tryz.f129 ?_;refine trV a (U3 _ _ g 1 oD 6 oD) λl a=>?_;refine ifB a (λf a=>?_) λf a=>?_;·cases a;exact aI rfl sr
 obtain⟨m,e,a⟩:=B0 a;obtain⟨c,j,d,i⟩:=S3 (show F2 (Wp.str.R h) ([[.string (⟨#[105,110]⟩:BA)],[.string (⟨#[111,117,116]⟩:BA)],[.string (⟨#[115,97,109,101]⟩:BA)],[.string (⟨#[99,111,110,106,117,103,97,116,101]⟩:BA)],[.string (⟨#[102,114,101,101]⟩:BA)],[.string (⟨#[105,110,100,101,120]⟩:BA)]]:LV) [(⟨#[105,110]⟩:BA),(⟨#[111,117,116]⟩:BA),(⟨#[115,97,109,101]⟩:BA),(⟨#[99,111,110,106,117,103,97,116,101]⟩:BA),(⟨#[102,114,101,101]⟩:BA),(⟨#[105,110,100,101,120]⟩:BA)] from⟨⟨rfl,oD⟩,⟨⟨rfl,oD⟩,⟨⟨rfl,oD⟩,⟨⟨rfl,oD⟩,⟨⟨rfl,oD⟩,⟨⟨rfl,oD⟩,trivial⟩⟩⟩⟩⟩⟩) e;refine aI c ?_;obtain⟨rfl,k⟩:=i;refine eX _ (aI d ?_);cases a;exact aI rfl sr
def A0e(h:Hp)(i:List Value)(n:j0)(Z:F1.R h i n)(r:BA)(b:j02 n=some r): Tr Tryz.prog 104 #[.agg i.toArray] h λv h'=>v = .string r/\h'=h:=by
 obtain⟨an,ao,ab,ac,o,rfl,rfl,j,k,p,am⟩:=opG Z;unfold j02 at b;dsimp only at b;refine wkF Tryz.f104 ?_;refine trV b (n01 _ _ _ (D0 j k p)) λaC b=>?_;refine ifB b (λQ b=>?_) λQ b=>?_;·cases b;exact aI rfl sr
 refine w1 ?_;obtain⟨u,M,b⟩:=B0 b;refine eX (.string u) (aI (i4 _ _ j _  M) ?_);obtain⟨ay,F,b⟩:=B0 b;have aj:u.size<=9223372036854775807:=F0 F;obtain⟨az,G,b⟩:=B0 b;have Y:=F0 G;refine aI Y ?_;obtain⟨w,N,b⟩:=B0 b;refine eX (.string w) (aI (i4 _ _ k _  N) ?_);obtain⟨aA,H,b⟩:=B0 b;have ak:w.size<=9223372036854775807:=F0 H;obtain⟨aB,I,b⟩:=B0 b;have m:=F0 I;refine aI m ?_;obtain⟨g,O,b⟩:=B0 b;refine eX { vars:=[3,20] } (eX (λvs os h'=>∃ c d,vs.tail = [.string c,iV d]/\os = []/\Sub h h'/\c.size<=9223372036854775807/\H0 d/\a7 o (E1 vs) c d=some g) (eX (λ_ _=>0) (aI (eX P0 ⟨_,_,rfl,rfl,sr,(D01 m),oD,O⟩) ?_)));rintro _ _ e al ⟨c,d,⟨⟩,⟨⟩,f,ae,af,a⟩;replace a:a7 o e c d=some g:=a;obtain _|e:=e;·cases a
 rw[a7.eq_2]at a;refine ifB a (λP a=>?_) λP a=>?_
 ·refine ld a (N0.mono f p) λaD ad aa a=>?_;obtain⟨aF,aG,aH,rfl,rfl,S,T,U⟩:=Q1 aa;try dsimp only at a
  refine w1 ?_;obtain⟨ap,x,a⟩:=B0 a;have V:=F0 x;refine aI V ?_;obtain⟨q,J,a⟩:=B0 a;refine eX (.string q) (aI (i4 _ _ S _  J) ?_);obtain⟨aq,y,a⟩:=B0 a;have ag:q.size<=9223372036854775807:=F0 y;obtain⟨ar,z,a⟩:=B0 a;have W:=F0 z;refine aI W ?_;obtain⟨s,K,a⟩:=B0 a;refine eX (.string s) (aI (n09 _ _ T _  K) ?_);obtain⟨au,A,a⟩:=B0 a;have ah:s.size<=9223372036854775807:=F0 A;obtain⟨av,C,a⟩:=B0 a;have X:=F0 C;refine aI X ?_;obtain⟨t,L,a⟩:=B0 a;refine eX (.string t) (aI (i4 _ _ U _  L) ?_);obtain⟨aw,D,a⟩:=B0 a;have ai:t.size<=9223372036854775807:=F0 D;obtain⟨ax,E,a⟩:=B0 a;have l:=F0 E;refine aI l ?_;exact P1 e ⟨_,_,rfl,rfl,f,(D01 l),(M0 _),a⟩
 cases a;try dsimp only[S0,U0]at b
 cases b;exact aI rfl f
def u07(h:Hp)(m:Option Addr)(q n:Nat)(g:I0)(s:J0.R h [.slice m q n] g)(r:BA)(b:V9 g=some r): Tr Tryz.prog 115 #[.slice m q n] h λv h'=>v = .string r/\h'=h:=by
 obtain⟨rfl,K⟩:=sL s;unfold V9 at b;refine wkF Tryz.f115 ?_;obtain⟨l,z,b⟩:=B0 b;refine eX { vars:=[9],owns:=[0] } (eX (λvs os h'=>∃ c k i,vs.tail = [iV c]/\os = [k]/\Sub h h'/\H0 c/\F2 (Wp.str.R h') k i/\L5 g (E1 vs) c i=some l) (eX (λ_ _=>0) (aI (eX P0 ⟨_,_,_,rfl,rfl,sr,oD,(show F2 (Wp.str.R h) ([]:LV) ([]:(List BA)) from trivial),z⟩) ?_)));rintro _ k f p ⟨c,T,i,⟨⟩,⟨⟩,j,H,e,a⟩;replace a:L5 g f c i=some l:=a;obtain _|f:=f;·cases a
 rw[L5.eq_2]at a;refine ifB a (λA a=>?_) λA a=>?_;·refine ldI a (J0.mono j s) λS C a=>?_;refine trV a (i4 _ _ C) λd a=>?_;obtain⟨O,x,a⟩:=B0 a;have o:d.size<=9223372036854775807:=F0 x;obtain⟨M,u,a⟩:=B0 a;refine aI (G1 u (by first|rw[fL e,fL (show F2 (Wp.str.R p) ([[.string d]]:LV) [d] from⟨⟨rfl,o⟩,trivial⟩)]|exact congrArg (·+1) (fL e))) ?_;exact P1 f ⟨_,_,_,rfl,rfl,j,(M0 _),(fA e (show F2 (Wp.str.R p) ([[.string d]]:LV) [d] from⟨⟨rfl,o⟩,trivial⟩)),a⟩
 cases a;try dsimp only[S0,U0]at b
 refine Or.inr ?_;intro Q J t;obtain⟨F,G,rfl,D,P,L⟩:=Y0.out (r:=Wp.str.toRp) t e;obtain⟨E,y,b⟩:=B0 b;refine Tr.val (W07 _ _ _ _ _ D (⟨#[32]⟩:BA) oD (⟨#[110,111,110,101]⟩:BA) oD _  y) (aI rfl ?_);obtain⟨N,w,b⟩:=B0 b;have I:E.size<=9223372036854775807:=F0 w;cases b;exact aI rfl j
def B0e(h:Hp)(x:List Value)(D:j6)(ak:S4.R h x D)(r:BA)(b:k02 D=some r): Tr Tryz.prog 132 #[.agg x.toArray] h λv h'=>v = .string r/\h'=h:=by
 obtain⟨a6,ba,au,a2,aA,bb,av,a3,aB,bc,aw,a4,aC,bd,be,bf,ax,a5,aD,bg,bh,rfl,rfl,y,p,s,t,E,z,A,u,ac⟩:=p01 ak;obtain⟨rfl,aW⟩:=sL s;obtain⟨rfl,aX⟩:=sL t;obtain⟨rfl,aY⟩:=sL E;obtain⟨rfl,aZ⟩:=sL u;unfold k02 at b;dsimp only at b;refine wkF Tryz.f132 ?_;refine trV b (Q06 _ _ y) λar b=>?_;obtain⟨bk,J,b⟩:=B0 b;have aK:ar.size<=9223372036854775807:=F0 J;refine trG b (λq=>Y03 _ _ p _ _ _ _ s) λbz b=>?_;refine trG b (λq=>l00 _ _ p _ _ _ _ t) λbA b=>?_;refine trG b (λq=>n01 _ _ _ (D0 z A u)) λbB b=>?_;refine ifB b (λaa b=>?_) λaa b=>?_;·cases b;exact aI rfl sr
 refine w4 ?_;obtain⟨o,Z,b⟩:=B0 b;obtain⟨bq,P,b⟩:=B0 b;have aj:o.size<=9223372036854775807:=F0 P;refine pm (.val (.string o)) ?_ ?_;·intro aV bs;exact Tr.val (Q06 _ _ y _ Z) r3
 obtain⟨f,Q,b⟩:=B0 b;obtain⟨bi,H,b⟩:=B0 b;have ad:f.size<=9223372036854775807:=F0 H;refine pm (.val (.string f)) ?_ ?_;·intro aM bt;exact Tr.val (i4 _ _ p _ Q) r3
 obtain⟨g,S,b⟩:=B0 b;obtain⟨bj,I,b⟩:=B0 b;have ae:g.size<=9223372036854775807:=F0 I;refine pm (.val (.string g)) ?_ ?_;·intro aN am;exact Tr.val (x0e _ _ _ _ _ (T1.mono am s) _ S) r3
 obtain⟨i,T,b⟩:=B0 b;obtain⟨bl,K,b⟩:=B0 b;have af:i.size<=9223372036854775807:=F0 K;refine pm (.val (.string i)) ?_ ?_;·intro aO an;exact Tr.val (k04 _ _ _ _ _ (J0.mono an t) _ T) r3
 obtain⟨j,U,b⟩:=B0 b;obtain⟨bm,L,b⟩:=B0 b;have ag:j.size<=9223372036854775807:=F0 L;refine pm (.val (.string j)) ?_ ?_;·intro aP ao;exact Tr.val (u07 _ _ _ _ _ (J0.mono ao E) _ U) r3
 obtain⟨m,V,b⟩:=B0 b;obtain⟨bn,M,b⟩:=B0 b;have ah:m.size<=9223372036854775807:=F0 M;refine pm (.val (.string m)) ?_ ?_;·intro aQ ap;exact Tr.val (A0e _ _ _ (D0 z A (N0.mono ap u)) _ V) r3
 obtain⟨n,W,b⟩:=B0 b;obtain⟨bo,N,b⟩:=B0 b;have ai:n.size<=9223372036854775807:=F0 N;refine pm (.val (.string n)) ?_ ?_;·intro aR bu;exact Tr.val (i4 _ _ ac _ W) r3
 obtain⟨d,X,b⟩:=B0 b;refine Or.inr (eX (λv ab=>∃(a:Option Addr) (c:Nat),v = .slice a d.length c/\(Wp.slice Wp.str).R ab [.slice a d.length c] d/\d.length<=9223372036854775807) (aI (λv aH aJ w q=>by obtain⟨a,c,e,r,l⟩:=q;exact⟨a,c,e,(Wp.slice Wp.str).mono w r,l⟩) (aI ?_ ?_)));·intro C bv;have G:[o,f,g,i,(⟨#[98,121]⟩:BA),j,(⟨#[97,110,100]⟩:BA),m,(⟨#[97,110,100]⟩:BA),n]=d:=oJ X;intro v k hf;obtain⟨a,c,rfl,r,w,l⟩:=Y0.out (r:=Wp.str.toRp) (xs:=d) hf (show F2 (Wp.str.R C) [[.string o],[.string f],[.string g],[.string i],[.string (⟨#[98,121]⟩:BA)],[.string j],[.string (⟨#[97,110,100]⟩:BA)],[.string m],[.string (⟨#[97,110,100]⟩:BA)],[.string n]] d from G▸(show F2 (Wp.str.R C) [[.string o],[.string f],[.string g],[.string i],[.string (⟨#[98,121]⟩:BA)],[.string j],[.string (⟨#[97,110,100]⟩:BA)],[.string m],[.string (⟨#[97,110,100]⟩:BA)],[.string n]] [o,f,g,i,(⟨#[98,121]⟩:BA),j,(⟨#[97,110,100]⟩:BA),m,(⟨#[97,110,100]⟩:BA),n] from⟨⟨rfl,aj⟩,⟨⟨rfl,ad⟩,⟨⟨rfl,ae⟩,⟨⟨rfl,af⟩,⟨⟨rfl,oD⟩,⟨⟨rfl,ag⟩,⟨⟨rfl,oD⟩,⟨⟨rfl,ah⟩,⟨⟨rfl,oD⟩,⟨⟨rfl,ai⟩,trivial⟩⟩⟩⟩⟩⟩⟩⟩⟩⟩));exact aI ⟨rfl,rfl,rfl,[_],rfl⟩ (aI w ⟨a,c,rfl,r,l⟩)
 obtain⟨F,Y,b⟩:=B0 b;obtain⟨bp,O,b⟩:=B0 b;have aL:F.size<=9223372036854775807:=F0 O;refine pm (.val (.string F)) ?_ ?_;·intro aS bx;rintro _ ⟨ay,aF,rfl,al,a0⟩;exact Tr.val (W07 _ _ _ _ _ al (⟨#[32]⟩:BA) oD (⟨#[]⟩:BA) oD _ Y) r3
 intro aU aq;rintro _ ⟨az,aG,rfl,br,a1⟩;cases b;exact aI rfl aq
def a0g(h:Hp)(j:Option Addr)(n l:Nat)(f:I0)(p:J0.R h [.slice j n l] f)(k:Option Addr)(o m:Nat)(g:I0)(q:J0.R h [.slice k o m] g)(r:Bool)(b:y02 f g=some r): Tr Tryz.prog 128 #[.slice j n l,.slice k o m] h λv h'=>v = .bool r/\h'=h:=by
 obtain⟨rfl,C⟩:=sL p;obtain⟨rfl,D⟩:=sL q;unfold y02 at b;refine wkF Tryz.f128 ?_;refine ifB b (λt b=>?_) λt b=>?_;·cases b;exact aI rfl sr
 obtain⟨i,s,b⟩:=B0 b;refine eX { vars:=[13] } (eX (λvs os h'=>∃ d,vs.tail = [iV d]/\os = []/\Sub h h'/\H0 d/\H7 f g (E1 vs) d=some i) (eX (λ_ _=>0) (aI (eX P0 ⟨_,rfl,rfl,sr,oD,s⟩) ?_)));rintro _ e A ⟨d,⟨⟩,⟨⟩,c,x,a⟩;replace a:H7 f g e d=some i:=a;obtain _|e:=e;·cases a
 rw[H7.eq_2]at a;refine ifB a (λu a=>?_) λu a=>?_
 ·refine w1 ?_;refine ldI a (J0.mono c p) λE y a=>?_;refine ldI a (J0.mono c q) λF z a=>?_;refine ifB a (λw a=>?_) λw a=>?_
  ·cases a;try dsimp only[M2,P2]at b
   cases b;exact aI rfl c
  exact P1 e ⟨_,rfl,rfl,c,(M0 _),a⟩
 cases a;try dsimp only[S0,U0]at b
 cases b;exact aI rfl c
def w07(h:Hp)(b:Option Addr)(d c:Nat)(e:(List BA))(f:(Wp.slice Wp.str).R h [.slice b d c] e)(r:BA)(a:C02 e=some r): Tr Tryz.prog 71 #[.slice b d c] h λv h'=>v = .string r/\h'=h:=by obtain⟨rfl,k⟩:=sL f;unfold C02 at a;refine wkF Tryz.f71 ?_;refine trV a (W07 _ _ _ _ _ f (⟨#[32]⟩:BA) oD (⟨#[]⟩:BA) oD) λi a=>?_;obtain⟨l,g,a⟩:=B0 a;have j:i.size<=9223372036854775807:=F0 g;cases a;exact aI rfl sr
def C01(h:Hp)(c:Option Addr)(j e:Nat)(k:I0)(l:J0.R h [.slice c j e] k)(r:I0)(a:N4 k=some r): Tr Tryz.prog 191 #[.slice c j e] h λv h'=>∃(g:Nat) (i d:Nat),v = .slice (some ⟨g,0,none⟩) i d/\New J0 h h' [.slice (some ⟨g,0,none⟩) i d] r:=by obtain⟨rfl,t⟩:=sL l;unfold N4 at a;refine wk Tryz.f191 ?_;obtain⟨o,m,b⟩:=Sl.rows (r:=Wp.int.toRp) l;refine eX o (aI m ?_);obtain⟨w,n,a⟩:=B0 a;refine aI (G1 n (by first|rw[fL (show F2 (Wp.int.R h) ([]:LV) ([]:I0) from trivial),fL b]|exact congrArg (·+1) (fL (show F2 (Wp.int.R h) ([]:LV) ([]:I0) from trivial)))) ?_;intro z s f;obtain⟨q,p,rfl,x,y,u⟩:=Y0.outS (r:=Wp.int.toRp) f (fA (show F2 (Wp.int.R h) ([]:LV) ([]:I0) from trivial) b);cases a;exact⟨_,_,_,rfl,(Y0.newPlain (r:=Wp.int) f (fA (show F2 (Wp.int.R h) ([]:LV) ([]:I0) from trivial) b) (B07 _))⟩
end Go.Proofs.YthakcafglempaaaGreat
