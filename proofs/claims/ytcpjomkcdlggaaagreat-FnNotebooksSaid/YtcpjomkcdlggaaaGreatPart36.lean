/- Texts of the claim, joined: The walks of batch 1 and others. -/
import Derived.Test.YtcpjomkcdlggaaaGreatH53
import Derived.Test.YtcpjomkcdlggaaaGreatPart24
import Derived.Test.YtcpjomkcdlggaaaGreatPart21
import Derived.Test.YtcpjomkcdlggaaaGreatChecked
import Derived.Test.YtcpjomkcdlggaaaGreatH35
import Derived.Test.YtcpjomkcdlggaaaGreatPart22
namespace Go.Proofs.YtcpjomkcdlggaaaGreat
set_option linter.all false
open Go.H
open IntKind (i64)
set_option maxRecDepth 10000
def Q4(h:Hp)(a:Int)(e:F0 a)(b:Int)(f:F0 b)(c:Int)(g:F0 c)(r:Bool)(d:O3 a b c=some r):
  Tr Tryz.prog 106 #[iV a,iV b,iV c] h λv h'=>v = .bool r/\h'=h:=by
 unfold O3 at d
 refine wkF Tryz.f106 ?_
 cases d
 exact aI rfl sr
def f02(h:Hp)(d:Int)(m:F0 d)(k:Option Addr)(o l:Nat)(i:H0)(e:I0.R h [.slice k o l] i)(r:Bool)(b:w8 d i=some r):
  Tr Tryz.prog 72 #[iV d,.slice k o l] h λv h'=>v = .bool r/\h'=h:=by
 obtain⟨rfl,C⟩:=sL e
 unfold w8 at b
 refine wkF Tryz.f72 ?_
 obtain⟨j,p,b⟩:=B0 b
 refine eX { vars:=[5] } (eX (λvs os h'=>∃ f,vs.tail = [iV f]/\os = []/\Sub h h'/\F0 f/\y00 i d (N1 vs) f=some j) (eX (λ_ _=>0) (aI (eX P0 ⟨_,rfl,rfl,sr,(by decide),p⟩) ?_)))
 rintro _ g A ⟨f,⟨⟩,⟨⟩,c,w,a⟩
 replace a:y00 i d g f=some j:=a
 obtain _|g:=g
 ·cases a
 rw[y00.eq_2]at a
 refine ifB a (λt a=>?_) λt a=>?_
 ·refine w1 ?_
  refine ldI a (I0.mono c e) λF y a=>?_
  refine ldG a (I0.mono c e) λG u a=>?_
  refine trG a (λq=>Q4 _ _ u (i64.wrap (0-d)) (J0 _) _ m) λH a=>?_
  refine ldG a (I0.mono c e) λI z a=>?_
  refine ldG a (I0.mono c e) λD x a=>?_
  refine ifB a (λs a=>?_) λs a=>?_
  ·cases a
   try dsimp only[P2,l3]at b
   cases b
   exact aI rfl c
  ·exact V1 g ⟨_,rfl,rfl,c,(J0 _),a⟩
 ·cases a
  try dsimp only[Q0,T0]at b
  refine trV b (Q4 _ _ m 1 (by decide) 3 (by decide)) λE b=>?_
  cases b
  exact aI rfl c
def R0e(h:Hp)(j:Option Addr)(l k:Nat)(f:O1)(m:T1.R h [.slice j l k] f)(r:Int)(b:O00 f=some r):
  Tr Tryz.prog 143 #[.slice j l k] h λv h'=>v=iV r/\h'=h:=by
 obtain⟨rfl,z⟩:=sL m
 unfold O00 at b
 refine wkF Tryz.f143 ?_
 obtain⟨i,o,b⟩:=B0 b
 refine eX { vars:=[3,4] } (eX (λvs os h'=>∃ c d,vs.tail = [iV c,iV d]/\os = []/\Sub h h'/\F0 c/\F0 d/\T4 f (N1 vs) c d=some i) (eX (λ_ _=>0) (aI (eX P0 ⟨_,_,rfl,rfl,sr,(by decide),(by decide),o⟩) ?_)))
 rintro _ _ e y ⟨c,d,⟨⟩,⟨⟩,g,w,x,a⟩
 replace a:T4 f e c d=some i:=a
 obtain _|e:=e
 ·cases a
 rw[T4.eq_2]at a
 refine ifB a (λp a=>?_) λp a=>?_
 ·refine ld a (T1.mono g m) λC t q a=>?_
  obtain⟨s,u,rfl,A⟩:=slL q
  exact V1 e ⟨_,_,rfl,rfl,g,(J0 _),(J0 _),a⟩
 ·cases a
  try dsimp only[Q0,T0]at b
  cases b
  exact aI rfl g
def M07(h:Hp)(c:Int)(m:F0 c)(k:Option Addr)(o l:Nat)(g:O1)(i:T1.R h [.slice k o l] g)(r:Bool)(b:K01 c g=some r):
  Tr Tryz.prog 71 #[iV c,.slice k o l] h λv h'=>v = .bool r/\h'=h:=by
 obtain⟨rfl,F⟩:=sL i
 unfold K01 at b
 refine wkF Tryz.f71 ?_
 obtain⟨j,t,b⟩:=B0 b
 refine eX { vars:=[5] } (eX (λvs os h'=>∃ e,vs.tail = [iV e]/\os = []/\Sub h h'/\F0 e/\U8 g c (N1 vs) e=some j) (eX (λ_ _=>0) (aI (eX P0 ⟨_,rfl,rfl,sr,(by decide),t⟩) ?_)))
 rintro _ f E ⟨e,⟨⟩,⟨⟩,d,C,a⟩
 replace a:U8 g c f e=some j:=a
 obtain _|f:=f
 ·cases a
 rw[U8.eq_2]at a
 refine ifB a (λu a=>?_) λu a=>?_
 ·refine ld a (T1.mono d i) λI z p a=>?_
  obtain⟨y,A,rfl,G⟩:=slL p
  refine trV a (f02 _ _ m _ _ _ _ p) λJ a=>?_
  refine ifB a (λw a=>?_) λw a=>?_
  ·cases a
   try dsimp only[P2,l3]at b
   cases b
   exact aI rfl d
  ·exact V1 f ⟨_,rfl,rfl,d,(J0 _),a⟩
 ·cases a
  try dsimp only[Q0,T0]at b
  refine trV b (Q4 _ _ m 1 (by decide) 3 (by decide)) λK b=>?_
  refine trG b (λq=>R0e _ _ _ _ _ (T1.mono d i)) λx b=>?_
  obtain⟨H,s,b⟩:=B0 b
  have D:F0 x:=K0 s
  cases b
  exact aI rfl d
def p6(h:Hp)(a:Int)(e:F0 a)(b:Int)(f:F0 b)(c:Int)(g:F0 c)(r:Bool)(d:K4 a b c=some r):
  Tr Tryz.prog 105 #[iV a,iV b,iV c] h λv h'=>v = .bool r/\h'=h:=by
 unfold K4 at d
 refine wkF Tryz.f105 ?_
 cases d
 exact aI rfl sr
def B0i(h:Hp)(b:Int)(d:F0 b)(c:Int)(e:F0 c)(r:Bool)(a:c04 b c=some r):
  Tr Tryz.prog 117 #[iV b,iV c] h λv h'=>v = .bool r/\h'=h:=by
 unfold c04 at a
 refine wkF Tryz.f117 ?_
 refine trG a (λq=>p6 _ _ e (i64.wrap (0-b)) (J0 _) _ d) λf a=>?_
 cases a
 exact aI rfl sr
def v09(h:Hp)(a:Int)(d:F0 a)(b:Int)(e:F0 b)(r:Bool)(c:C01 a b=some r):
  Tr Tryz.prog 118 #[iV a,iV b] h λv h'=>v = .bool r/\h'=h:=by
 unfold C01 at c
 refine wkF Tryz.f118 ?_
 cases c
 exact aI rfl sr
def D05(h:Hp)(c:Int)(m:F0 c)(k:Option Addr)(p l:Nat)(g:H0)(i:I0.R h [.slice k p l] g)(r:Bool)(b:a01 c g=some r):
  Tr Tryz.prog 48 #[iV c,.slice k p l] h λv h'=>v = .bool r/\h'=h:=by
 obtain⟨rfl,A⟩:=sL i
 unfold a01 at b
 refine wkF Tryz.f48 ?_
 refine trV b (p6 _ _ m 1 (by decide) 3 (by decide)) λC b=>?_
 refine ifB b (λu b=>?_) λu b=>?_
 ·cases b
  exact aI rfl sr
 ·obtain⟨j,s,b⟩:=B0 b
  refine eX { vars:=[17] } (eX (λvs os h'=>∃ e,vs.tail = [iV e]/\os = []/\Sub h h'/\F0 e/\z00 g c (N1 vs) e=some j) (eX (λ_ _=>0) (aI (eX P0 ⟨_,rfl,rfl,sr,(by decide),s⟩) ?_)))
  rintro _ f z ⟨e,⟨⟩,⟨⟩,d,y,a⟩
  replace a:z00 g c f e=some j:=a
  obtain _|f:=f
  ·cases a
  rw[z00.eq_2]at a
  refine ifB a (λw a=>?_) λw a=>?_
  ·refine ldI a (I0.mono d i) λF o a=>?_
   refine trV a (B0i _ _ m _ o) λG a=>?_
   refine ldG a (I0.mono d i) λD x a=>?_
   refine trG a (λq=>v09 _ _ x _ o) λE a=>?_
   refine ifB a (λt a=>?_) λt a=>?_
   ·cases a
    try dsimp only[P2,l3]at b
    cases b
    exact aI rfl d
   ·exact V1 f ⟨_,rfl,rfl,d,(J0 _),a⟩
  ·cases a
   try dsimp only[Q0,T0]at b
   cases b
   exact aI rfl d
def S0e(h:Hp)(j:Option Addr)(l k:Nat)(f:O1)(m:T1.R h [.slice j l k] f)(r:Int)(b:q02 f=some r):
  Tr Tryz.prog 136 #[.slice j l k] h λv h'=>v=iV r/\h'=h:=by
 obtain⟨rfl,z⟩:=sL m
 unfold q02 at b
 refine wkF Tryz.f136 ?_
 obtain⟨i,o,b⟩:=B0 b
 refine eX { vars:=[3,8] } (eX (λvs os h'=>∃ c d,vs.tail = [iV c,iV d]/\os = []/\Sub h h'/\F0 c/\F0 d/\Y7 f (N1 vs) c d=some i) (eX (λ_ _=>0) (aI (eX P0 ⟨_,_,rfl,rfl,sr,(by decide),(by decide),o⟩) ?_)))
 rintro _ _ e y ⟨c,d,⟨⟩,⟨⟩,g,w,x,a⟩
 replace a:Y7 f e c d=some i:=a
 obtain _|e:=e
 ·cases a
 rw[Y7.eq_2]at a
 refine ifB a (λp a=>?_) λp a=>?_
 ·refine ld a (T1.mono g m) λC t q a=>?_
  obtain⟨s,u,rfl,A⟩:=slL q
  exact V1 e ⟨_,_,rfl,rfl,g,(J0 _),(J0 _),a⟩
 ·cases a
  try dsimp only[Q0,T0]at b
  cases b
  exact aI rfl g
def N07(h:Hp)(c:Int)(m:F0 c)(k:Option Addr)(o l:Nat)(g:O1)(i:T1.R h [.slice k o l] g)(r:Bool)(a:L01 c g=some r):
  Tr Tryz.prog 61 #[iV c,.slice k o l] h λv h'=>v = .bool r/\h'=h:=by
 obtain⟨rfl,F⟩:=sL i
 unfold L01 at a
 refine wkF Tryz.f61 ?_
 refine trV a (p6 _ _ m 1 (by decide) 3 (by decide)) λI a=>?_
 refine ifB a (λu a=>?_) λu a=>?_
 ·cases a
  exact aI rfl sr
 ·obtain⟨j,s,a⟩:=B0 a
  refine eX { vars:=[17] } (eX (λvs os h'=>∃ e,vs.tail = [iV e]/\os = []/\Sub h h'/\F0 e/\V8 g c (N1 vs) e=some j) (eX (λ_ _=>0) (aI (eX P0 ⟨_,rfl,rfl,sr,(by decide),s⟩) ?_)))
  rintro _ f E ⟨e,⟨⟩,⟨⟩,d,C,b⟩
  replace b:V8 g c f e=some j:=b
  obtain _|f:=f
  ·cases b
  rw[V8.eq_2]at b
  refine ifB b (λw b=>?_) λw b=>?_
  ·refine ld b (T1.mono d i) λJ z p b=>?_
   obtain⟨y,A,rfl,G⟩:=slL p
   refine trV b (D05 _ _ m _ _ _ _ p) λK b=>?_
   refine ifB b (λt b=>?_) λt b=>?_
   ·cases b
    try dsimp only[P2,l3]at a
    cases a
    exact aI rfl d
   ·exact V1 f ⟨_,rfl,rfl,d,(J0 _),b⟩
  ·cases b
   try dsimp only[Q0,T0]at a
   refine trV a (S0e _ _ _ _ _ (T1.mono d i)) λx a=>?_
   obtain⟨H,q,a⟩:=B0 a
   have D:F0 x:=K0 q
   cases a
   exact aI rfl d
def Y05(h:Hp)(b:Int)(f:F0 b)(c:Int)(g:F0 c)(r:Int)(a:E9 b c=some r):
  Tr Tryz.prog 191 #[iV b,iV c] h λv h'=>v=iV r/\h'=h:=by
 unfold E9 at a
 refine wkF Tryz.f191 ?_
 refine ifB a (λd a=>?_) λd a=>?_
 ·cases a
  exact aI rfl sr
 ·refine ifB a (λe a=>?_) λe a=>?_
  ·cases a
   exact aI rfl sr
  ·cases a
   exact aI rfl sr
def d00(h:Hp)(g:Int)(A:F0 g)(r:BA)(b:J5 g=some r):
  Tr Tryz.prog 100 #[iV g] h λv h'=>v = .string r/\h'=h:=by
 unfold J5 at b
 refine wkF Tryz.f100 ?_
 refine ifB b (λw b=>?_) λw b=>?_
 ·cases b
  exact aI rfl sr
 ·obtain⟨i,u,b⟩:=B0 b
  refine eX { vars:=[0,3] } (eX (λvs os h'=>∃ c e,vs.tail = [iV c,.string e]/\os = []/\Sub h h'/\F0 c/\e.size<=9223372036854775807/\l6 (N1 vs) c e=some i) (eX (λ_ _=>0) (aI (eX P0 ⟨_,_,rfl,rfl,sr,A,(by decide),u⟩) ?_)))
  rintro _ _ d l ⟨c,e,⟨⟩,⟨⟩,f,F,G,a⟩
  replace a:l6 d c e=some i:=a
  obtain _|d:=d
  ·cases a
  rw[l6.eq_2]at a
  refine ifB a (λy a=>?_) λy a=>?_
  ·obtain⟨O,t,a⟩:=B0 a
   refine aI (K0 t) ?_
   refine ifB a (λz a=>?_) λz a=>?_
   ·refine eX [(IntKind.u8.wrap (i64.wrap (48+(i64.wrap (0-(Int.tmod c 10))))))] (aI (F2.u8 (show F2 (Rp.u8.R l) ([[.int .u8 (IntKind.u8.wrap (i64.wrap (48+(i64.wrap (0-(Int.tmod c 10))))))]]:LV) [(IntKind.u8.wrap (i64.wrap (48+(i64.wrap (0-(Int.tmod c 10))))))] from⟨rfl,trivial⟩)) ?_)
    obtain⟨H,D,a⟩:=B0 a
    obtain⟨I,m,a⟩:=B0 a
    have j:=K0 m
    refine aI j ?_
    obtain⟨J,o,a⟩:=B0 a
    refine aI (K0 o) ?_
    exact V1 d ⟨_,_,rfl,rfl,f,(J0 _),(o02 j),a⟩
   ·refine eX [(IntKind.u8.wrap (i64.wrap (48+(Int.tmod c 10))))] (aI (F2.u8 (show F2 (Rp.u8.R l) ([[.int .u8 (IntKind.u8.wrap (i64.wrap (48+(Int.tmod c 10))))]]:LV) [(IntKind.u8.wrap (i64.wrap (48+(Int.tmod c 10))))] from⟨rfl,trivial⟩)) ?_)
    obtain⟨K,E,a⟩:=B0 a
    obtain⟨L,p,a⟩:=B0 a
    have k:=K0 p
    refine aI k ?_
    obtain⟨M,q,a⟩:=B0 a
    refine aI (K0 q) ?_
    exact V1 d ⟨_,_,rfl,rfl,f,(J0 _),(o02 k),a⟩
  ·cases a
   try dsimp only[Q0,T0]at b
   refine ifB b (λx b=>?_) λx b=>?_
   ·obtain⟨N,s,b⟩:=B0 b
    have C:=K0 s
    refine aI C ?_
    cases b
    exact aI rfl f
   ·cases b
    exact aI rfl f
def C0i(h:Hp)(b:Int)(c:F0 b)(r:Bool)(a:p04 b=some r):
  Tr Tryz.prog 164 #[iV b] h λv h'=>v = .bool r/\h'=h:=by
 unfold p04 at a
 refine wkF Tryz.f164 ?_
 refine trG a (λq=>Q4 _ _ c (-3) (by decide) 3 (by decide)) λd a=>?_
 cases a
 exact aI rfl sr
def n0e(h:Hp)(b:Int)(p:F0 b)(r:BA)(a:z05 b=some r):
  Tr Tryz.prog 163 #[iV b] h λv h'=>v = .string r/\h'=h:=by
 unfold z05 at a
 refine wkF Tryz.f163 ?_
 refine ifB a (λj a=>?_) λj a=>?_
 ·obtain⟨t,g,a⟩:=B0 a
  obtain⟨c,m,e,k⟩:=L3 (show F2 (Wp.str.R h) ([[.string (⟨#[65]⟩:BA)],[.string (⟨#[66]⟩:BA)],[.string (⟨#[67]⟩:BA)]]:LV) [(⟨#[65]⟩:BA),(⟨#[66]⟩:BA),(⟨#[67]⟩:BA)] from⟨⟨rfl,(by decide)⟩,⟨⟨rfl,(by decide)⟩,⟨⟨rfl,(by decide)⟩,trivial⟩⟩⟩) g
  refine aI c ?_
  obtain⟨rfl,q⟩:=k
  refine eX _ (aI e ?_)
  cases a
  exact aI rfl sr
 ·obtain⟨u,i,a⟩:=B0 a
  obtain⟨d,o,f,l⟩:=L3 (show F2 (Wp.str.R h) ([[.string (⟨#[97]⟩:BA)],[.string (⟨#[98]⟩:BA)],[.string (⟨#[99]⟩:BA)]]:LV) [(⟨#[97]⟩:BA),(⟨#[98]⟩:BA),(⟨#[99]⟩:BA)] from⟨⟨rfl,(by decide)⟩,⟨⟨rfl,(by decide)⟩,⟨⟨rfl,(by decide)⟩,trivial⟩⟩⟩) i
  refine aI d ?_
  obtain⟨rfl,s⟩:=l
  refine eX _ (aI f ?_)
  cases a
  exact aI rfl sr
def H06(h:Hp)(k:Option Addr)(o l:Nat)(g:H0)(i:I0.R h [.slice k o l] g)(r:BA)(b:n00 g=some r):
  Tr Tryz.prog 102 #[.slice k o l] h λv h'=>v = .string r/\h'=h:=by
 obtain⟨rfl,F⟩:=sL i
 unfold n00 at b
 refine wkF Tryz.f102 ?_
 obtain⟨j,s,b⟩:=B0 b
 refine eX { vars:=[3,4] } (eX (λvs os h'=>∃ d e,vs.tail = [.string d,iV e]/\os = []/\Sub h h'/\d.size<=9223372036854775807/\F0 e/\O7 g (N1 vs) d e=some j) (eX (λ_ _=>0) (aI (eX P0 ⟨_,_,rfl,rfl,sr,(by decide),(by decide),s⟩) ?_)))
 rintro _ _ f E ⟨d,e,⟨⟩,⟨⟩,c,A,C,a⟩
 replace a:O7 g f d e=some j:=a
 obtain _|f:=f
 ·cases a
 rw[O7.eq_2]at a
 refine ifB a (λu a=>?_) λu a=>?_
 ·refine ldI a (I0.mono c i) λJ y a=>?_
  refine trV a (C0i _ _ y) λK a=>?_
  refine ifB a (λw a=>?_) λw a=>?_
  ·cases a
   try dsimp only[P2,l3]at b
   cases b
   exact aI rfl c
  ·refine ldI a (I0.mono c i) λI x a=>?_
   refine trV a (n0e _ _ x) λz a=>?_
   obtain⟨G,p,a⟩:=B0 a
   have D:z.size<=9223372036854775807:=K0 p
   obtain⟨H,q,a⟩:=B0 a
   have m:=K0 q
   refine aI m ?_
   exact V1 f ⟨_,_,rfl,rfl,c,(o02 m),(J0 _),a⟩
 ·cases a
  try dsimp only[Q0,T0]at b
  refine ifB b (λt b=>?_) λt b=>?_
  ·cases b
   exact aI rfl c
  ·cases b
   exact aI rfl c
def T0e(h:Hp)(k:Option Addr)(p l:Nat)(g:O1)(i:T1.R h [.slice k p l] g)(r:BA)(b:w02 g=some r):
  Tr Tryz.prog 101 #[.slice k p l] h λv h'=>v = .string r/\h'=h:=by
 obtain⟨rfl,V⟩:=sL i
 unfold w02 at b
 refine wkF Tryz.f101 ?_
 obtain⟨j,z,b⟩:=B0 b
 refine eX { vars:=[3,4] } (eX (λvs os h'=>∃ e f,vs.tail = [.string e,iV f]/\os = []/\Sub h h'/\e.size<=9223372036854775807/\F0 f/\D4 g (N1 vs) e f=some j) (eX (λ_ _=>0) (aI (eX P0 ⟨_,_,rfl,rfl,sr,(by decide),(by decide),z⟩) ?_)))
 rintro _ _ d U ⟨e,f,⟨⟩,⟨⟩,c,P,Q,a⟩
 replace a:D4 g d e f=some j:=a
 obtain _|d:=d
 ·cases a
 rw[D4.eq_2]at a
 refine ifB a (λE a=>?_) λE a=>?_
 ·refine ifB a (λF a=>?_) λF a=>?_
  ·obtain⟨ac,y,a⟩:=B0 a
   have G:=K0 y
   refine aI G ?_
   refine ld a (T1.mono c i) λae M s a=>?_
   obtain⟨K,O,rfl,X⟩:=slL s
   refine trV a (H06 _ _ _ _ _ s) λH a=>?_
   obtain⟨Y,t,a⟩:=B0 a
   have S:H.size<=9223372036854775807:=K0 t
   refine ifB a (λA a=>?_) λA a=>?_
   ·cases a
    try dsimp only[P2,l3]at b
    cases b
    exact aI rfl c
   ·obtain⟨Z,u,a⟩:=B0 a
    have m:=K0 u
    refine aI m ?_
    exact V1 d ⟨_,_,rfl,rfl,c,(o02 m),(J0 _),a⟩
  ·refine ld a (T1.mono c i) λad L q a=>?_
   obtain⟨J,N,rfl,W⟩:=slL q
   refine trV a (H06 _ _ _ _ _ q) λI a=>?_
   obtain⟨aa,w,a⟩:=B0 a
   have T:I.size<=9223372036854775807:=K0 w
   refine ifB a (λC a=>?_) λC a=>?_
   ·cases a
    try dsimp only[P2,l3]at b
    cases b
    exact aI rfl c
   ·obtain⟨ab,x,a⟩:=B0 a
    have o:=K0 x
    refine aI o ?_
    exact V1 d ⟨_,_,rfl,rfl,c,(o02 o),(J0 _),a⟩
 ·cases a
  try dsimp only[Q0,T0]at b
  refine ifB b (λD b=>?_) λD b=>?_
  ·cases b
   exact aI rfl c
  ·cases b
   exact aI rfl c
theorem Y00(h:Hp)(p0:Int)(ip0:F0 p0)(r:ByteArray)(hM0:N6 p0=some r):
  Tr Tryz.prog 94 #[.int .i64 p0] h λv h'=>v = .string r/\h'=h:=by
 unfold N6 at hM0
 refine Tr.forget (E4 (args:=[.int .i64 p0]) (fn:=Tryz.f94) rfl ?_)
 refine ifB hM0 (λhc1 hM0=>?_) λhc1 hM0=>?_
 ·obtain rfl:=oJ hM0
  exact aI rfl (Sub.refl _)
 ·obtain⟨X2,hLX2,hM0⟩:=B0 hM0
  refine eX { vars:=[4],boxes:=[],owns:=[0],fuel:=true } (eX (λvs os h'=>∃ u3 wu4 u4,vs.tail = [.int .i64 u3]/\os = [wu4]/\Sub h h'/\F0 u3/\F2 (Rp.u8.R h') wu4 u4/\o6 (N1 vs) u3 u4=some X2) (eX (λ_ _=>0) (aI (eX P0 ⟨p0,[],([]:(List Int)),rfl,rfl,(Sub.refl _),ip0,(show F2 (Rp.u8.R h) ([]:List (List Value)) ([]:(List Int)) from trivial),hLX2⟩) ?_)))
  rintro _ wu4 m6 k5 ⟨u3,zzu4,u4,⟨⟩,⟨⟩,sX2,iu3,fu4,hM1⟩
  replace hM1:o6 m6 u3 u4=some X2:=hM1
  obtain _|m6:=m6
  ·cases hM1
  rw[o6.eq_2]at hM1
  refine ifB hM1 (λhc7 hM1=>?_) λhc7 hM1=>?_
  ·obtain⟨q8,gq8,hM1⟩:=B0 hM1
   refine aI (K0 gq8) ?_
   refine ifB hM1 (λhc9 hM1=>?_) λhc9 hM1=>?_
   ·obtain⟨q10,gq10,hM1⟩:=B0 hM1
    refine aI (M1 gq10 (by first|rw[F2.length fu4,F2.length (show F2 (Rp.u8.R k5) ([[.int .u8 (IntKind.u8.wrap (IntKind.i64.wrap (48+(IntKind.i64.wrap (0-(Int.tmod u3 10))))))]]:List (List Value)) [(IntKind.u8.wrap (IntKind.i64.wrap (48+(IntKind.i64.wrap (0-(Int.tmod u3 10))))))] from⟨rfl,trivial⟩)]|exact congrArg (·+1) (F2.length fu4))) ?_
    obtain⟨q11,gq11,hM1⟩:=B0 hM1
    refine aI (K0 gq11) ?_
    exact V1 m6 ⟨(IntKind.i64.wrap (Int.tdiv u3 10)),(wu4++([[.int .u8 (IntKind.u8.wrap (IntKind.i64.wrap (48+(IntKind.i64.wrap (0-(Int.tmod u3 10))))))]]:List (List Value))),(u4 ++ [(IntKind.u8.wrap (IntKind.i64.wrap (48+(IntKind.i64.wrap (0-(Int.tmod u3 10))))))]),rfl,rfl,sX2,(J0 _),(F2.append fu4 (show F2 (Rp.u8.R k5) ([[.int .u8 (IntKind.u8.wrap (IntKind.i64.wrap (48+(IntKind.i64.wrap (0-(Int.tmod u3 10))))))]]:List (List Value)) [(IntKind.u8.wrap (IntKind.i64.wrap (48+(IntKind.i64.wrap (0-(Int.tmod u3 10))))))] from⟨rfl,trivial⟩)),hM1⟩
   ·obtain⟨q12,gq12,hM1⟩:=B0 hM1
    refine aI (M1 gq12 (by first|rw[F2.length fu4,F2.length (show F2 (Rp.u8.R k5) ([[.int .u8 (IntKind.u8.wrap (IntKind.i64.wrap (48+(Int.tmod u3 10))))]]:List (List Value)) [(IntKind.u8.wrap (IntKind.i64.wrap (48+(Int.tmod u3 10))))] from⟨rfl,trivial⟩)]|exact congrArg (·+1) (F2.length fu4))) ?_
    obtain⟨q13,gq13,hM1⟩:=B0 hM1
    refine aI (K0 gq13) ?_
    exact V1 m6 ⟨(IntKind.i64.wrap (Int.tdiv u3 10)),(wu4++([[.int .u8 (IntKind.u8.wrap (IntKind.i64.wrap (48+(Int.tmod u3 10))))]]:List (List Value))),(u4 ++ [(IntKind.u8.wrap (IntKind.i64.wrap (48+(Int.tmod u3 10))))]),rfl,rfl,sX2,(J0 _),(F2.append fu4 (show F2 (Rp.u8.R k5) ([[.int .u8 (IntKind.u8.wrap (IntKind.i64.wrap (48+(Int.tmod u3 10))))]]:List (List Value)) [(IntKind.u8.wrap (IntKind.i64.wrap (48+(Int.tmod u3 10))))] from⟨rfl,trivial⟩)),hM1⟩
  ·obtain rfl:=oJ hM1
   try dsimp only[Q0,T0]at hM0
   refine ifB hM0 (λhc14 hM0=>?_) λhc14 hM0=>?_
   ·obtain⟨q15,gq15,hM0⟩:=B0 hM0
    refine aI (M1 gq15 (by first|rw[F2.length fu4,F2.length (show F2 (Rp.u8.R k5) ([[.int .u8 45]]:List (List Value)) [45] from⟨rfl,trivial⟩)]|exact congrArg (·+1) (F2.length fu4))) ?_
    obtain⟨m16,gm16,hM0⟩:=B0 hM0
    obtain rfl:(wu4++([[.int .u8 45]]:List (List Value))).length=m16:=(F2.length (F2.append fu4 (show F2 (Rp.u8.R k5) ([[.int .u8 45]]:List (List Value)) [45] from⟨rfl,trivial⟩))).trans (oJ gm16)
    obtain⟨q17,gq17,hM0⟩:=B0 hM0
    obtain⟨X18,hLX18,hM0⟩:=B0 hM0
    refine eX { vars:=[6,7],boxes:=[],owns:=[0],fuel:=true,kept:=[0] } (eX (λvs os h'=>∃ u19 u20 wu21 u21,vs.tail = [.int .i64 u19,.int .i64 u20]/\os = [wu21]/\Sub k5 h'/\F0 u19/\F0 u20/\F2 (Rp.u8.R h') wu21 u21/\O4 (N1 vs) u19 u20 u21=some X18) (eX (λ_ _=>0) (aI (eX P0 ⟨0,(IntKind.i64.wrap ((((wu4++([[.int .u8 45]]:List (List Value))).length:Nat):Int)-1)),(wu4++([[.int .u8 45]]:List (List Value))),(u4 ++ [45]),rfl,rfl,(Sub.refl _),(by decide),(J0 _),(F2.append fu4 (show F2 (Rp.u8.R k5) ([[.int .u8 45]]:List (List Value)) [45] from⟨rfl,trivial⟩)),hLX18⟩) ?_)))
    rintro _ _ wu21 m23 k22 ⟨u19,u20,zzu21,u21,⟨⟩,⟨⟩,sX18,iu19,iu20,fu21,hM1⟩
    replace hM1:O4 m23 u19 u20 u21=some X18:=hM1
    obtain _|m23:=m23
    ·cases hM1
    rw[O4.eq_2]at hM1
    refine ifB hM1 (λhc24 hM1=>?_) λhc24 hM1=>?_
    ·refine Or.inr (Or.inr (Or.inr (Or.inr (eX 12 (aI (aI (by kernel_rfl) (by kernel_rfl)) ?_)))))
     obtain⟨x25,gx25,hM1⟩:=B0 hM1
     obtain⟨bx25,csx25,ex25,rx25⟩:=L3 fu21 gx25
     obtain rfl:=rx25
     refine Or.inl ?_
     apply eX
     refine aI ?_ ?_
     ·intro k26 s27
      exact aI bx25 (aI rfl (aI rfl rfl))
     refine Or.inl (eX (.val (.int .u8 x25)) (aI ?_ ?_))
     ·intro k28 s29
      exact eX _ (aI ex25 (aI rfl (aI rfl rfl)))
     obtain⟨x30,gx30,hM1⟩:=B0 hM1
     obtain⟨bx30,csx30,ex30,rx30⟩:=L3 fu21 gx30
     obtain rfl:=rx30
     refine Or.inl ?_
     apply eX
     refine aI ?_ ?_
     ·intro k31 s32
      exact aI bx30 (aI rfl (aI rfl rfl))
     refine Or.inl (eX (.val (.int .u8 x30)) (aI ?_ ?_))
     ·intro k33 s34
      exact eX _ (aI ex30 (aI rfl (aI rfl rfl)))
     intro k35 s36
     obtain⟨x37,gx37,hM1⟩:=B0 hM1
     obtain⟨bx37,csx37,ex37,rx37⟩:=L3 (F2.up (r:=Rp.u8) s36 fu21) gx37
     refine aI bx37 ?_
     obtain rfl:=rx37
     refine eX _ (aI ex37 ?_)
     obtain⟨x38,gx38,hM1⟩:=B0 hM1
     obtain⟨bx38,csx38,ex38,rx38⟩:=L3 (F2.set (p:=Rp.u8.R k35) (a:=[.int .u8 x25]) (b:=x25) rfl u19.toNat (F2.up (r:=Rp.u8) s36 fu21)) gx38
     refine aI bx38 ?_
     obtain rfl:=rx38
     refine eX _ (aI ex38 ?_)
     exact V1 m23 ⟨(IntKind.i64.wrap (u19+1)),(IntKind.i64.wrap (u20-1)),((wu21.set u19.toNat [.int .u8 x25]).set u20.toNat [.int .u8 x30]),((u21.set u19.toNat x25).set u20.toNat x30),rfl,rfl,(sX18.trans s36),(J0 _),(J0 _),(F2.set (p:=Rp.u8.R k35) (a:=[.int .u8 x30]) (b:=x30) rfl u20.toNat (F2.set (p:=Rp.u8.R k35) (a:=[.int .u8 x25]) (b:=x25) rfl u19.toNat (F2.up (r:=Rp.u8) s36 fu21))),hM1⟩
    ·obtain rfl:=oJ hM1
     try dsimp only[Q0,T0]at hM0
     refine eX u21 (aI (F2.u8 fu21) ?_)
     obtain⟨q39,gq39,hM0⟩:=B0 hM0
     obtain rfl:=oJ hM0
     exact aI rfl (sX2.trans sX18)
   ·obtain⟨m45,gm45,hM0⟩:=B0 hM0
    obtain rfl:wu4.length=m45:=(F2.length fu4).trans (oJ gm45)
    obtain⟨q46,gq46,hM0⟩:=B0 hM0
    obtain⟨X47,hLX47,hM0⟩:=B0 hM0
    refine eX { vars:=[6,7],boxes:=[],owns:=[0],fuel:=true,kept:=[0] } (eX (λvs os h'=>∃ u48 u49 wu50 u50,vs.tail = [.int .i64 u48,.int .i64 u49]/\os = [wu50]/\Sub k5 h'/\F0 u48/\F0 u49/\F2 (Rp.u8.R h') wu50 u50/\O4 (N1 vs) u48 u49 u50=some X47) (eX (λ_ _=>0) (aI (eX P0 ⟨0,(IntKind.i64.wrap (((wu4.length:Nat):Int)-1)),wu4,u4,rfl,rfl,(Sub.refl _),(by decide),(J0 _),fu4,hLX47⟩) ?_)))
    rintro _ _ wu50 m52 k51 ⟨u48,u49,zzu50,u50,⟨⟩,⟨⟩,sX47,iu48,iu49,fu50,hM1⟩
    replace hM1:O4 m52 u48 u49 u50=some X47:=hM1
    obtain _|m52:=m52
    ·cases hM1
    rw[O4.eq_2]at hM1
    refine ifB hM1 (λhc53 hM1=>?_) λhc53 hM1=>?_
    ·refine Or.inr (Or.inr (Or.inr (Or.inr (eX 12 (aI (aI (by kernel_rfl) (by kernel_rfl)) ?_)))))
     obtain⟨x54,gx54,hM1⟩:=B0 hM1
     obtain⟨bx54,csx54,ex54,rx54⟩:=L3 fu50 gx54
     obtain rfl:=rx54
     refine Or.inl ?_
     apply eX
     refine aI ?_ ?_
     ·intro k55 s56
      exact aI bx54 (aI rfl (aI rfl rfl))
     refine Or.inl (eX (.val (.int .u8 x54)) (aI ?_ ?_))
     ·intro k57 s58
      exact eX _ (aI ex54 (aI rfl (aI rfl rfl)))
     obtain⟨x59,gx59,hM1⟩:=B0 hM1
     obtain⟨bx59,csx59,ex59,rx59⟩:=L3 fu50 gx59
     obtain rfl:=rx59
     refine Or.inl ?_
     apply eX
     refine aI ?_ ?_
     ·intro k60 s61
      exact aI bx59 (aI rfl (aI rfl rfl))
     refine Or.inl (eX (.val (.int .u8 x59)) (aI ?_ ?_))
     ·intro k62 s63
      exact eX _ (aI ex59 (aI rfl (aI rfl rfl)))
     intro k64 s65
     obtain⟨x66,gx66,hM1⟩:=B0 hM1
     obtain⟨bx66,csx66,ex66,rx66⟩:=L3 (F2.up (r:=Rp.u8) s65 fu50) gx66
     refine aI bx66 ?_
     obtain rfl:=rx66
     refine eX _ (aI ex66 ?_)
     obtain⟨x67,gx67,hM1⟩:=B0 hM1
     obtain⟨bx67,csx67,ex67,rx67⟩:=L3 (F2.set (p:=Rp.u8.R k64) (a:=[.int .u8 x54]) (b:=x54) rfl u48.toNat (F2.up (r:=Rp.u8) s65 fu50)) gx67
     refine aI bx67 ?_
     obtain rfl:=rx67
     refine eX _ (aI ex67 ?_)
     exact V1 m52 ⟨(IntKind.i64.wrap (u48+1)),(IntKind.i64.wrap (u49-1)),((wu50.set u48.toNat [.int .u8 x54]).set u49.toNat [.int .u8 x59]),((u50.set u48.toNat x54).set u49.toNat x59),rfl,rfl,(sX47.trans s65),(J0 _),(J0 _),(F2.set (p:=Rp.u8.R k64) (a:=[.int .u8 x59]) (b:=x59) rfl u49.toNat (F2.set (p:=Rp.u8.R k64) (a:=[.int .u8 x54]) (b:=x54) rfl u48.toNat (F2.up (r:=Rp.u8) s65 fu50))),hM1⟩
    ·obtain rfl:=oJ hM1
     try dsimp only[Q0,T0]at hM0
     refine eX u50 (aI (F2.u8 fu50) ?_)
     obtain⟨q68,gq68,hM0⟩:=B0 hM0
     obtain rfl:=oJ hM0
     exact aI rfl (sX2.trans sX47)
def w09(h:Hp)(b:Int)(c:F0 b)(r:BA)(a:o00 b=some r):
  Tr Tryz.prog 162 #[iV b] h λv h'=>v = .string r/\h'=h:=by
 unfold o00 at a
 refine wkF Tryz.f162 ?_
 refine trV a (p6 _ _ c 1 (by decide) 3 (by decide)) λk a=>?_
 refine ifB a (λf a=>?_) λf a=>?_
 ·obtain⟨i,d,a⟩:=B0 a
  refine aI (K0 d) ?_
  cases a
  exact aI rfl sr
 ·refine trV a (p6 _ _ c (-3) (by decide) (-1) (by decide)) λl a=>?_
  refine ifB a (λg a=>?_) λg a=>?_
  ·obtain⟨j,e,a⟩:=B0 a
   refine aI (K0 e) ?_
   cases a
   exact aI rfl sr
  ·cases a
   exact aI rfl sr
def x09(h:Hp)(j:Option Addr)(m k:Nat)(f:H0)(o:I0.R h [.slice j m k] f)(r:BA)(b:H01 f=some r):
  Tr Tryz.prog 96 #[.slice j m k] h λv h'=>v = .string r/\h'=h:=by
 obtain⟨rfl,E⟩:=sL o
 unfold H01 at b
 refine wkF Tryz.f96 ?_
 refine ifB b (λt b=>?_) λt b=>?_
 ·cases b
  exact aI rfl sr
 ·obtain⟨i,s,b⟩:=B0 b
  refine eX { vars:=[3,12] } (eX (λvs os h'=>∃ c d,vs.tail = [.string c,iV d]/\os = []/\Sub h h'/\c.size<=9223372036854775807/\F0 d/\P7 f (N1 vs) c d=some i) (eX (λ_ _=>0) (aI (eX P0 ⟨_,_,rfl,rfl,sr,(by decide),(by decide),s⟩) ?_)))
  rintro _ _ e D ⟨c,d,⟨⟩,⟨⟩,g,z,A,a⟩
  replace a:P7 f e c d=some i:=a
  obtain _|e:=e
  ·cases a
  rw[P7.eq_2]at a
  refine ifB a (λw a=>?_) λw a=>?_
  ·refine ldI a (I0.mono g o) λH x a=>?_
   refine trV a (w09 _ _ x) λy a=>?_
   obtain⟨F,p,a⟩:=B0 a
   have C:y.size<=9223372036854775807:=K0 p
   refine ifB a (λu a=>?_) λu a=>?_
   ·cases a
    try dsimp only[P2,l3]at b
    cases b
    exact aI rfl g
   ·obtain⟨G,q,a⟩:=B0 a
    have l:=K0 q
    refine aI l ?_
    exact V1 e ⟨_,_,rfl,rfl,g,(o02 l),(J0 _),a⟩
  ·cases a
   try dsimp only[Q0,T0]at b
   cases b
   exact aI rfl g
def j0b(h:Hp)(l:Option Addr)(p m:Nat)(q:(List BA))(i:(Wp.slice Wp.str).R h [.slice l p m] q)(c:BA)(Q:c.size<=9223372036854775807)(g:BA)(S:g.size<=9223372036854775807)(r:BA)(b:Y03 q c g=some r):
  Tr Tryz.prog 93 #[.slice l p m,.string c,.string g] h λv h'=>v = .string r/\h'=h:=by
 obtain⟨rfl,X⟩:=sL i
 unfold Y03 at b
 refine wkF Tryz.f93 ?_
 refine ifB b (λC b=>?_) λC b=>?_
 ·cases b
  exact aI rfl sr
 ·refine ld b i λac O J b=>?_
  obtain⟨rfl,F⟩:=J
  obtain⟨t,z,b⟩:=B0 b
  obtain⟨H,K,u,w⟩:=Sl.cutI (r:=Wp.str.toRp) i z
  refine aI H (eX K (aI u ?_))
  intro L E _
  obtain⟨M,P,rfl,s⟩:=w L E
  have Y:=(sL s).2
  obtain⟨k,A,b⟩:=B0 b
  refine eX { vars:=[7,20] } (eX (λvs os h'=>∃ d e,vs.tail = [.string d,iV e]/\os = []/\Sub h h'/\d.size<=9223372036854775807/\F0 e/\w01 t c (N1 vs) d e=some k) (eX (λ_ _=>0) (aI (eX P0 ⟨_,_,rfl,rfl,sr,F,(by decide),A⟩) ?_)))
  rintro _ _ f W ⟨d,e,⟨⟩,⟨⟩,j,T,U,a⟩
  replace a:w01 t c f d e=some k:=a
  obtain _|f:=f
  ·cases a
  rw[w01.eq_2]at a
  refine ifB a (λD a=>?_) λD a=>?_
  ·refine ld a ((Wp.slice Wp.str).mono j s) λab N I a=>?_
   obtain⟨rfl,V⟩:=I
   obtain⟨Z,x,a⟩:=B0 a
   have G:=K0 x
   refine aI G ?_
   obtain⟨aa,y,a⟩:=B0 a
   have o:=K0 y
   refine aI o ?_
   exact V1 f ⟨_,_,rfl,rfl,j,(o02 o),(J0 _),a⟩
  ·cases a
   try dsimp only[Q0,T0]at b
   cases b
   exact aI rfl j
def U0e(h:Hp)(m:Option Addr)(s o:Nat)(g:O1)(t:T1.R h [.slice m s o] g)(r:BA)(b:x02 g=some r):
  Tr Tryz.prog 95 #[.slice m s o] h λv h'=>v = .string r/\h'=h:=by
 obtain⟨rfl,P⟩:=sL t
 unfold x02 at b
 refine wkF Tryz.f95 ?_
 obtain⟨l,C,b⟩:=B0 b
 refine eX { vars:=[10],owns:=[0] } (eX (λvs os h'=>∃ c k j,vs.tail = [iV c]/\os = [k]/\Sub h h'/\F0 c/\F2 (Wp.str.R h') k j/\o7 g (N1 vs) c j=some l) (eX (λ_ _=>0) (aI (eX P0 ⟨_,_,_,rfl,rfl,sr,(by decide),(show F2 (Wp.str.R h) ([]:LV) ([]:(List BA)) from trivial),C⟩) ?_)))
 rintro _ k f q ⟨c,Z,j,⟨⟩,⟨⟩,i,M,e,a⟩
 replace a:o7 g f c j=some l:=a
 obtain _|f:=f
 ·cases a
 rw[o7.eq_2]at a
 refine ifB a (λE a=>?_) λE a=>?_
 ·refine ld a (T1.mono i t) λY J u a=>?_
  obtain⟨H,K,rfl,Q⟩:=slL u
  refine trV a (x09 _ _ _ _ _ u) λd a=>?_
  obtain⟨V,z,a⟩:=B0 a
  have p:d.size<=9223372036854775807:=K0 z
  refine ifB a (λD a=>?_) λD a=>?_
  ·cases a
   try dsimp only[P2,l3]at b
   cases b
   exact aI rfl i
  ·obtain⟨T,x,a⟩:=B0 a
   refine aI (M1 x (by first|rw[fL e,fL (show F2 (Wp.str.R q) ([[.string d]]:LV) [d] from⟨⟨rfl,p⟩,trivial⟩)]|exact congrArg (·+1) (fL e))) ?_
   exact V1 f ⟨_,_,_,rfl,rfl,i,(J0 _),(fA e (show F2 (Wp.str.R q) ([[.string d]]:LV) [d] from⟨⟨rfl,p⟩,trivial⟩)),a⟩
 ·cases a
  try dsimp only[Q0,T0]at b
  refine Or.inr ?_
  intro X O w
  obtain⟨I,L,rfl,F,W,S⟩:=Y0.out (r:=Wp.str.toRp) w e
  obtain⟨G,A,b⟩:=B0 b
  refine Tr.val (j0b _ _ _ _ _ F (⟨#[44]⟩:BA) (by decide) (⟨#[110,111,110,101]⟩:BA) (by decide) _  A) (aI rfl ?_)
  obtain⟨U,y,b⟩:=B0 b
  have N:G.size<=9223372036854775807:=K0 y
  cases b
  exact aI rfl i
def t0l(h:Hp)(b:List Value)(d:z0)(l:L1.R h b d)(c:List Value)(f:O0)(m:J1.R h c f)(r:Bool)(a:u05 d f=some r):
  Tr Tryz.prog 189 #[.agg b.toArray,.agg c.toArray] h λv h'=>v = .bool r/\h'=h:=by
 obtain⟨u,e,o,p,w,rfl,rfl,g,s,A,t⟩:=opG l
 obtain⟨x,y,z,rfl,rfl,i,j,k⟩:=C2 m
 unfold u05 at a
 dsimp only at a
 refine wkF Tryz.f189 ?_
 refine trV a (Q4 _ _ i 0 (by decide) (i64.wrap (e-1)) (J0 _)) λC a=>?_
 refine trG a (λq=>Q4 _ _ k 0 (by decide) (i64.wrap (e-1)) (J0 _)) λD a=>?_
 refine trG a (λq=>Q4 _ _ j 1 (by decide) _ g) λE a=>?_
 cases a
 exact aI rfl sr
def V07(h:Hp)(o:List Value)(y:O0)(S:J1.R h o y)(p:List Value)(z:O0)(T:J1.R h p z)(r:Int)(b:t00 y z=some r):
  Tr Tryz.prog 190 #[.agg o.toArray,.agg p.toArray] h λv h'=>v=iV r/\h'=h:=by
 obtain⟨d,e,f,rfl,rfl,q,s,t⟩:=C2 S
 obtain⟨g,i,j,rfl,rfl,u,w,x⟩:=C2 T
 unfold t00 at b
 dsimp only at b
 refine wkF Tryz.f190 ?_
 obtain⟨m,N,b⟩:=B0 b
 refine eX { vars:=[7] } (eX (λvs os h'=>∃ k,vs.tail = [iV k]/\os = []/\Sub h h'/\F0 k/\n9 d e f g i j (N1 vs) k=some m) (eX (λ_ _=>0) (aI (eX P0 ⟨_,rfl,rfl,sr,(by decide),N⟩) ?_)))
 rintro _ l ah ⟨k,⟨⟩,⟨⟩,c,ac,a⟩
 replace a:n9 d e f g i j l k=some m:=a
 obtain _|l:=l
 ·cases a
 rw[n9.eq_2]at a
 refine ifB a (λP a=>?_) λP a=>?_
 ·refine w1 ?_
  obtain⟨aj,K,a⟩:=B0 a
  obtain⟨C,Z,G,V⟩:=L3 (F2.up (r:=Wp.int.toRp) c (show F2 (Wp.int.R h) ([[iV d],[iV e],[iV f]]:LV) [d,e,f] from⟨⟨rfl,q⟩,⟨⟨rfl,s⟩,⟨⟨rfl,t⟩,trivial⟩⟩⟩)) K
  refine aI C ?_
  obtain⟨rfl,ae⟩:=V
  refine eX _ (aI G ?_)
  obtain⟨ak,L,a⟩:=B0 a
  obtain⟨D,aa,H,W⟩:=L3 (F2.up (r:=Wp.int.toRp) c (show F2 (Wp.int.R h) ([[iV g],[iV i],[iV j]]:LV) [g,i,j] from⟨⟨rfl,u⟩,⟨⟨rfl,w⟩,⟨⟨rfl,x⟩,trivial⟩⟩⟩)) L
  refine aI D ?_
  obtain⟨rfl,af⟩:=W
  refine eX _ (aI H ?_)
  refine ifB a (λQ a=>?_) λQ a=>?_
  ·cases a
   try dsimp only[P2,l3]at b
   cases b
   exact aI rfl c
  ·refine w1 ?_
   obtain⟨al,M,a⟩:=B0 a
   obtain⟨E,ab,I,X⟩:=L3 (F2.up (r:=Wp.int.toRp) c (show F2 (Wp.int.R h) ([[iV d],[iV e],[iV f]]:LV) [d,e,f] from⟨⟨rfl,q⟩,⟨⟨rfl,s⟩,⟨⟨rfl,t⟩,trivial⟩⟩⟩)) M
   refine aI E ?_
   obtain⟨rfl,ag⟩:=X
   refine eX _ (aI I ?_)
   obtain⟨ai,J,a⟩:=B0 a
   obtain⟨A,Y,F,U⟩:=L3 (F2.up (r:=Wp.int.toRp) c (show F2 (Wp.int.R h) ([[iV g],[iV i],[iV j]]:LV) [g,i,j] from⟨⟨rfl,u⟩,⟨⟨rfl,w⟩,⟨⟨rfl,x⟩,trivial⟩⟩⟩)) J
   refine aI A ?_
   obtain⟨rfl,ad⟩:=U
   refine eX _ (aI F ?_)
   refine ifB a (λO a=>?_) λO a=>?_
   ·cases a
    try dsimp only[P2,l3]at b
    cases b
    exact aI rfl c
   ·exact V1 l ⟨_,rfl,rfl,c,(J0 _),a⟩
 ·cases a
  try dsimp only[Q0,T0]at b
  cases b
  exact aI rfl c
def t8(h:Hp)(i:List Value)(p:z0)(N:L1.R h i p)(r:Bool)(b:Z4 p=some r):
  Tr Tryz.prog 155 #[.agg i.toArray] h λv h'=>v = .bool r/\h'=h:=by
 obtain⟨s,t,U,V,u,rfl,rfl,l,m,f,ab⟩:=opG N
 unfold Z4 at b
 dsimp only at b
 refine wkF Tryz.f155 ?_
 obtain⟨g,A,b⟩:=B0 b
 refine eX { vars:=[3] } (eX (λvs os h'=>∃ d,vs.tail = [iV d]/\os = []/\Sub h h'/\F0 d/\M9 u s t (N1 vs) d=some g) (eX (λ_ _=>0) (aI (eX P0 ⟨_,rfl,rfl,sr,(by decide),A⟩) ?_)))
 rintro _ e o ⟨d,⟨⟩,⟨⟩,c,Z,a⟩
 replace a:M9 u s t e d=some g:=a
 obtain _|e:=e
 ·cases a
 rw[M9.eq_2]at a
 refine ifB a (λD a=>?_) λD a=>?_
 ·refine w1 ?_
  refine ld a (M0.mono c f) λaf W O a=>?_
  obtain⟨ag,ah,ai,rfl,rfl,E,F,G⟩:=C2 O
  try dsimp only at a
  obtain⟨T,x,a⟩:=B0 a
  refine eX (.bool T) (aI (t0l _ _ _ (C0 l m (M0.mono c f)) _ _ (U1 E F G) _  x) ?_)
  obtain⟨aj,y,a⟩:=B0 a
  obtain⟨X,j,P⟩:=Sl.getG (r:=J1.toRp) (M0.mono c f) y (by decide) (Y0a o)
  refine aI (λq=>(j q).1) ?_
  obtain⟨ak,al,am,rfl,rfl,H,I,J⟩:=C2 P
  try dsimp only at a
  refine eX _ (aI (λq=>(j q).2) ?_)
  obtain⟨an,z,a⟩:=B0 a
  obtain⟨Y,k,Q⟩:=Sl.getG (r:=J1.toRp) (M0.mono c f) z (by decide) (Y0a o)
  refine aI (λq=>(k q).1) ?_
  obtain⟨ao,ap,aq,rfl,rfl,K,L,M⟩:=C2 Q
  try dsimp only at a
  refine eX _ (aI (λq=>(k q).2) ?_)
  refine trG a (λq=>V07 _ _ _ (U1 H I J) _ _ (U1 K L M)) λS a=>?_
  obtain⟨ac,w,a⟩:=B0 a
  have aa:F0 S:=K0 w
  refine ifB a (λC a=>?_) λC a=>?_
  ·cases a
   try dsimp only[P2,l3]at b
   cases b
   exact aI rfl c
  ·exact V1 e ⟨_,rfl,rfl,c,(J0 _),a⟩
 ·cases a
  try dsimp only[Q0,T0]at b
  refine trV b (Q4 _ _ l 1 (by decide) 3 (by decide)) λad b=>?_
  refine trG b (λq=>Q4 _ _ m 1 (by decide) 40 (by decide)) λae b=>?_
  cases b
  exact aI rfl c
def N03(h:Hp)(c:List Value)(d:z0)(g:L1.R h c d)(b:Int)(e:F0 b)(r:Bool)(a:H5 d b=some r):
  Tr Tryz.prog 174 #[.agg c.toArray,iV b] h λv h'=>v = .bool r/\h'=h:=by
 obtain⟨o,f,i,j,p,rfl,rfl,k,l,q,m⟩:=opG g
 unfold H5 at a
 dsimp only at a
 refine wkF Tryz.f174 ?_
 refine trV a (p6 _ _ e 0 (by decide) (i64.wrap (f-1)) (J0 _)) λs a=>?_
 cases a
 exact aI rfl sr
def L0c(h:Hp)(c:List Value)(f:z0)(m:L1.R h c f)(d:List Value)(g:O0)(o:J1.R h d g)(r:Bool)(a:k01 f g=some r):
  Tr Tryz.prog 160 #[.agg c.toArray,.agg d.toArray] h λv h'=>v = .bool r/\h'=h:=by
 obtain⟨u,w,p,s,x,rfl,rfl,b,e,i,t⟩:=opG m
 obtain⟨y,z,A,rfl,rfl,j,k,l⟩:=C2 o
 unfold k01 at a
 dsimp only at a
 refine wkF Tryz.f160 ?_
 refine trV a (N03 _ _ _ (C0 b e i) _ j) λC a=>?_
 refine trG a (λq=>N03 _ _ _ (C0 b e i) _ l) λD a=>?_
 refine trG a (λq=>p6 _ _ k 1 (by decide) _ b) λE a=>?_
 cases a
 exact aI rfl sr
def W07(h:Hp)(b:List Value)(d:O0)(t:J1.R h b d)(c:List Value)(e:O0)(u:J1.R h c e)(r:Int)(a:Q01 d e=some r):
  Tr Tryz.prog 161 #[.agg b.toArray,.agg c.toArray] h λv h'=>v=iV r/\h'=h:=by
 obtain⟨D,E,F,rfl,rfl,l,m,o⟩:=C2 t
 obtain⟨G,H,I,rfl,rfl,p,q,s⟩:=C2 u
 unfold Q01 at a
 dsimp only at a
 refine wkF Tryz.f161 ?_
 refine trV a (Y05 _ _ l _ p) λw a=>?_
 obtain⟨J,f,a⟩:=B0 a
 have z:F0 w:=K0 f
 refine ifB a (λj a=>?_) λj a=>?_
 ·cases a
  exact aI rfl sr
 ·refine trV a (Y05 _ _ m _ q) λx a=>?_
  obtain⟨K,g,a⟩:=B0 a
  have A:F0 x:=K0 g
  refine ifB a (λk a=>?_) λk a=>?_
  ·cases a
   exact aI rfl sr
  ·refine trV a (Y05 _ _ o _ s) λy a=>?_
   obtain⟨L,i,a⟩:=B0 a
   have C:F0 y:=K0 i
   cases a
   exact aI rfl sr
def A01(h:Hp)(i:List Value)(s:z0)(J:L1.R h i s)(r:Bool)(b:E7 s=some r):
  Tr Tryz.prog 92 #[.agg i.toArray] h λv h'=>v = .bool r/\h'=h:=by
 obtain⟨t,u,O,P,w,rfl,rfl,k,l,f,V⟩:=opG J
 unfold E7 at b
 dsimp only at b
 refine wkF Tryz.f92 ?_
 refine trV b (p6 _ _ k 1 (by decide) 3 (by decide)) λX b=>?_
 refine trG b (λq=>p6 _ _ l 1 (by decide) 40 (by decide)) λac b=>?_
 refine ifB b (λD b=>?_) λD b=>?_
 ·cases b
  exact aI rfl sr
 ·obtain⟨g,A,b⟩:=B0 b
  refine eX { vars:=[24] } (eX (λvs os h'=>∃ d,vs.tail = [iV d]/\os = []/\Sub h h'/\F0 d/\N9 w t u (N1 vs) d=some g) (eX (λ_ _=>0) (aI (eX P0 ⟨_,rfl,rfl,sr,(by decide),A⟩) ?_)))
  rintro _ e I ⟨d,⟨⟩,⟨⟩,c,T,a⟩
  replace a:N9 w t u e d=some g:=a
  obtain _|e:=e
  ·cases a
  rw[N9.eq_2]at a
  refine ifB a (λE a=>?_) λE a=>?_
  ·refine ld a (M0.mono c f) λad S L a=>?_
   obtain⟨ae,af,ag,rfl,rfl,m,o,p⟩:=C2 L
   try dsimp only at a
   refine w1 ?_
   obtain⟨M,y,a⟩:=B0 a
   refine eX (.bool M) (aI (L0c _ _ _ (C0 k l (M0.mono c f)) _ _ (U1 m o p) _  y) ?_)
   obtain⟨Y,z,a⟩:=B0 a
   obtain⟨Q,j,K⟩:=Sl.getG (r:=J1.toRp) (M0.mono c f) z (by decide) (Y0a I)
   refine aI (λq=>(j q).1) ?_
   obtain⟨Z,aa,ab,rfl,rfl,F,G,H⟩:=C2 K
   try dsimp only at a
   refine eX _ (aI (λq=>(j q).2) ?_)
   refine trG a (λq=>W07 _ _ _ (U1 F G H) _ _ (U1 m o p)) λN a=>?_
   obtain⟨W,x,a⟩:=B0 a
   have U:F0 N:=K0 x
   refine ifB a (λC a=>?_) λC a=>?_
   ·cases a
    try dsimp only[P2,l3]at b
    cases b
    exact aI rfl c
   ·exact V1 e ⟨_,rfl,rfl,c,(J0 _),a⟩
  ·cases a
   try dsimp only[Q0,T0]at b
   cases b
   exact aI rfl c
def C0h(h:Hp)(b:Int)(g:F0 b)(r:BA)(a:K03 b=some r):
  Tr Tryz.prog 25 #[iV b] h λv h'=>v = .string r/\h'=h:=by
 unfold K03 at a
 refine wkF Tryz.f25 ?_
 refine trV a (Q4 _ _ g 1 (by decide) 6 (by decide)) λl a=>?_
 refine ifB a (λf a=>?_) λf a=>?_
 ·cases a
  exact aI rfl sr
 ·obtain⟨m,e,a⟩:=B0 a
  obtain⟨c,j,d,i⟩:=L3 (show F2 (Wp.str.R h) ([[.string (⟨#[105,110]⟩:BA)],[.string (⟨#[111,117,116]⟩:BA)],[.string (⟨#[115,97,109,101]⟩:BA)],[.string (⟨#[99,111,110,106,117,103,97,116,101]⟩:BA)],[.string (⟨#[102,114,101,101]⟩:BA)],[.string (⟨#[105,110,100,101,120]⟩:BA)]]:LV) [(⟨#[105,110]⟩:BA),(⟨#[111,117,116]⟩:BA),(⟨#[115,97,109,101]⟩:BA),(⟨#[99,111,110,106,117,103,97,116,101]⟩:BA),(⟨#[102,114,101,101]⟩:BA),(⟨#[105,110,100,101,120]⟩:BA)] from⟨⟨rfl,(by decide)⟩,⟨⟨rfl,(by decide)⟩,⟨⟨rfl,(by decide)⟩,⟨⟨rfl,(by decide)⟩,⟨⟨rfl,(by decide)⟩,⟨⟨rfl,(by decide)⟩,trivial⟩⟩⟩⟩⟩⟩) e
  refine aI c ?_
  obtain⟨rfl,k⟩:=i
  refine eX _ (aI d ?_)
  cases a
  exact aI rfl sr
def V0e(h:Hp)(i:List Value)(o:z0)(aa:L1.R h i o)(r:BA)(b:y02 o=some r):
  Tr Tryz.prog 99 #[.agg i.toArray] h λv h'=>v = .string r/\h'=h:=by
 obtain⟨ao,ap,ac,ad,p,rfl,rfl,j,k,q,an⟩:=opG aa
 unfold y02 at b
 dsimp only at b
 refine wkF Tryz.f99 ?_
 refine trV b (t8 _ _ _ (C0 j k q)) λaD b=>?_
 refine ifB b (λS b=>?_) λS b=>?_
 ·cases b
  exact aI rfl sr
 ·refine w1 ?_
  obtain⟨w,N,b⟩:=B0 b
  refine eX (.string w) (aI (d00 _ _ j _  N) ?_)
  obtain⟨az,G,b⟩:=B0 b
  have ak:w.size<=9223372036854775807:=K0 G
  obtain⟨aA,H,b⟩:=B0 b
  have Z:=K0 H
  refine aI Z ?_
  obtain⟨x,O,b⟩:=B0 b
  refine eX (.string x) (aI (d00 _ _ k _  O) ?_)
  obtain⟨aB,I,b⟩:=B0 b
  have al:x.size<=9223372036854775807:=K0 I
  obtain⟨aC,J,b⟩:=B0 b
  have m:=K0 J
  refine aI m ?_
  obtain⟨g,P,b⟩:=B0 b
  refine eX { vars:=[3,4] } (eX (λvs os h'=>∃ c d,vs.tail = [.string c,iV d]/\os = []/\Sub h h'/\c.size<=9223372036854775807/\F0 d/\p7 p (N1 vs) c d=some g) (eX (λ_ _=>0) (aI (eX P0 ⟨_,_,rfl,rfl,sr,(o02 m),(by decide),P⟩) ?_)))
  rintro _ _ e am ⟨c,d,⟨⟩,⟨⟩,f,af,ag,a⟩
  replace a:p7 p e c d=some g:=a
  obtain _|e:=e
  ·cases a
  rw[p7.eq_2]at a
  refine ifB a (λQ a=>?_) λQ a=>?_
  ·refine ld a (M0.mono f q) λaF ae ab a=>?_
   obtain⟨aG,aH,aJ,rfl,rfl,T,U,V⟩:=C2 ab
   try dsimp only at a
   refine w1 ?_
   obtain⟨aq,y,a⟩:=B0 a
   have W:=K0 y
   refine aI W ?_
   obtain⟨s,K,a⟩:=B0 a
   refine eX (.string s) (aI (d00 _ _ T _  K) ?_)
   obtain⟨ar,z,a⟩:=B0 a
   have ah:s.size<=9223372036854775807:=K0 z
   obtain⟨au,A,a⟩:=B0 a
   have X:=K0 A
   refine aI X ?_
   obtain⟨t,L,a⟩:=B0 a
   refine eX (.string t) (aI (n0e _ _ U _  L) ?_)
   obtain⟨av,C,a⟩:=B0 a
   have ai:t.size<=9223372036854775807:=K0 C
   obtain⟨aw,D,a⟩:=B0 a
   have Y:=K0 D
   refine aI Y ?_
   obtain⟨u,M,a⟩:=B0 a
   refine eX (.string u) (aI (d00 _ _ V _  M) ?_)
   obtain⟨ax,E,a⟩:=B0 a
   have aj:u.size<=9223372036854775807:=K0 E
   obtain⟨ay,F,a⟩:=B0 a
   have l:=K0 F
   refine aI l ?_
   exact V1 e ⟨_,_,rfl,rfl,f,(o02 l),(J0 _),a⟩
  ·cases a
   try dsimp only[Q0,T0]at b
   cases b
   exact aI rfl f
def M0c(h:Hp)(k:Option Addr)(p l:Nat)(g:H0)(i:I0.R h [.slice k p l] g)(r:BA)(b:x01 g=some r):
  Tr Tryz.prog 103 #[.slice k p l] h λv h'=>v = .string r/\h'=h:=by
 obtain⟨rfl,M⟩:=sL i
 unfold x01 at b
 refine wkF Tryz.f103 ?_
 obtain⟨j,x,b⟩:=B0 b
 refine eX { vars:=[3,4] } (eX (λvs os h'=>∃ e f,vs.tail = [.string e,iV f]/\os = []/\Sub h h'/\e.size<=9223372036854775807/\F0 f/\S3 g (N1 vs) e f=some j) (eX (λ_ _=>0) (aI (eX P0 ⟨_,_,rfl,rfl,sr,(by decide),(by decide),x⟩) ?_)))
 rintro _ _ d L ⟨e,f,⟨⟩,⟨⟩,c,H,I,a⟩
 replace a:S3 g d e f=some j:=a
 obtain _|d:=d
 ·cases a
 rw[S3.eq_2]at a
 refine ifB a (λz a=>?_) λz a=>?_
 ·refine ifB a (λA a=>?_) λA a=>?_
  ·obtain⟨S,w,a⟩:=B0 a
   have E:=K0 w
   refine aI E ?_
   refine ldI a (I0.mono c i) λU D a=>?_
   refine trV a (d00 _ _ D) λF a=>?_
   obtain⟨N,q,a⟩:=B0 a
   have J:F.size<=9223372036854775807:=K0 q
   obtain⟨O,s,a⟩:=B0 a
   have m:=K0 s
   refine aI m ?_
   exact V1 d ⟨_,_,rfl,rfl,c,(o02 m),(J0 _),a⟩
  ·refine ldI a (I0.mono c i) λT C a=>?_
   refine trV a (d00 _ _ C) λG a=>?_
   obtain⟨P,t,a⟩:=B0 a
   have K:G.size<=9223372036854775807:=K0 t
   obtain⟨Q,u,a⟩:=B0 a
   have o:=K0 u
   refine aI o ?_
   exact V1 d ⟨_,_,rfl,rfl,c,(o02 o),(J0 _),a⟩
 ·cases a
  try dsimp only[Q0,T0]at b
  refine ifB b (λy b=>?_) λy b=>?_
  ·cases b
   exact aI rfl c
  ·cases b
   exact aI rfl c
def W0e(h:Hp)(e:List Value)(f:P1)(aj:Y1.R h e f)(r:BA)(a:z02 f=some r):
  Tr Tryz.prog 22 #[.agg e.toArray] h λv h'=>v = .string r/\h'=h:=by
 obtain⟨aN,aO,am,aJ,aq,aP,an,aK,ar,aQ,ao,aL,au,aR,aS,aU,ap,aM,av,aV,aW,rfl,rfl,T,b,c,d,g,U,V,i,W⟩:=Y2 aj
 obtain⟨rfl,aD⟩:=sL c
 obtain⟨rfl,aF⟩:=sL d
 obtain⟨rfl,aG⟩:=sL g
 obtain⟨rfl,aH⟩:=sL i
 unfold z02 at a
 dsimp only at a
 refine wkF Tryz.f22 ?_
 refine trV a (C0h _ _ T) λak a=>?_
 obtain⟨a5,A,a⟩:=B0 a
 have aw:ak.size<=9223372036854775807:=K0 A
 refine trV a (V0e _ _ _ (C0 U V i)) λal a=>?_
 obtain⟨bf,K,a⟩:=B0 a
 have aB:al.size<=9223372036854775807:=K0 K
 refine trG a (λq=>M07 _ _ b _ _ _ _ c) λbh a=>?_
 refine trG a (λq=>f02 _ _ b _ _ _ _ d) λbi a=>?_
 refine ifB a (λS a=>?_) λS a=>?_
 ·cases a
  exact aI rfl sr
 ·refine w1 ?_
  obtain⟨bg,L,a⟩:=B0 a
  have ai:=K0 L
  refine aI ai ?_
  obtain⟨o,Q,a⟩:=B0 a
  refine eX (.string o) (aI (d00 _ _ b _  Q) ?_)
  obtain⟨aX,p,a⟩:=B0 a
  have aC:o.size<=9223372036854775807:=K0 p
  obtain⟨aY,s,a⟩:=B0 a
  have X:=K0 s
  refine aI X ?_
  obtain⟨aZ,t,a⟩:=B0 a
  have Y:=K0 t
  refine aI Y ?_
  obtain⟨j,M,a⟩:=B0 a
  refine eX (.string j) (aI (T0e _ _ _ _ _ c _  M) ?_)
  obtain⟨a0,u,a⟩:=B0 a
  have ax:j.size<=9223372036854775807:=K0 u
  obtain⟨a1,w,a⟩:=B0 a
  have Z:=K0 w
  refine aI Z ?_
  obtain⟨a2,x,a⟩:=B0 a
  have aa:=K0 x
  refine aI aa ?_
  obtain⟨k,N,a⟩:=B0 a
  refine eX (.string k) (aI (H06 _ _ _ _ _ d _  N) ?_)
  obtain⟨a3,y,a⟩:=B0 a
  have ay:k.size<=9223372036854775807:=K0 y
  obtain⟨a4,z,a⟩:=B0 a
  have ab:=K0 z
  refine aI ab ?_
  obtain⟨a6,C,a⟩:=B0 a
  have ac:=K0 C
  refine aI ac ?_
  obtain⟨l,O,a⟩:=B0 a
  refine eX (.string l) (aI (M0c _ _ _ _ _ g _  O) ?_)
  obtain⟨a7,D,a⟩:=B0 a
  have az:l.size<=9223372036854775807:=K0 D
  obtain⟨a8,E,a⟩:=B0 a
  have ad:=K0 E
  refine aI ad ?_
  obtain⟨ba,F,a⟩:=B0 a
  have ae:=K0 F
  refine aI ae ?_
  obtain⟨bb,G,a⟩:=B0 a
  have af:=K0 G
  refine aI af ?_
  obtain⟨bc,H,a⟩:=B0 a
  have ag:=K0 H
  refine aI ag ?_
  obtain⟨m,P,a⟩:=B0 a
  refine eX (.string m) (aI (d00 _ _ W _  P) ?_)
  obtain⟨bd,I,a⟩:=B0 a
  have aA:m.size<=9223372036854775807:=K0 I
  obtain⟨be,J,a⟩:=B0 a
  have ah:=K0 J
  refine aI ah ?_
  cases a
  exact aI rfl sr
def D0b(h:Hp)(i:List Value)(k:C1)(K:G3.R h i k)(r:BA)(b:J00 k=some r):
  Tr Tryz.prog 43 #[.agg i.toArray] h λv h'=>v = .string r/\h'=h:=by
 obtain⟨ao,N,aj,T,l,rfl,rfl,Z,m⟩:=I2 K
 obtain⟨rfl,ae⟩:=sL m
 unfold J00 at b
 dsimp only at b
 refine wkF Tryz.f43 ?_
 obtain⟨g,A,b⟩:=B0 b
 refine eX { vars:=[3,4] } (eX (λvs os h'=>∃ c d,vs.tail = [.string c,iV d]/\os = []/\Sub h h'/\c.size<=9223372036854775807/\F0 d/\A5 l (N1 vs) c d=some g) (eX (λ_ _=>0) (aI (eX P0 ⟨_,_,rfl,rfl,sr,(by decide),(by decide),A⟩) ?_)))
 rintro _ _ e ad ⟨c,d,⟨⟩,⟨⟩,f,aa,ab,a⟩
 replace a:A5 l e c d=some g:=a
 obtain _|e:=e
 ·cases a
 rw[A5.eq_2]at a
 refine ifB a (λD a=>?_) λD a=>?_
 ·obtain⟨au,z,a⟩:=B0 a
  obtain⟨t,U,u,L⟩:=Sl.getI (r:=Y1.toRp) (M3.mono f m) z (by decide)
  refine aI t ?_
  obtain⟨av,aw,O,ak,V,ax,P,al,W,ay,Q,am,X,az,aA,aB,S,an,Y,aC,aD,rfl,rfl,E,F,o,p,q,G,H,s,I⟩:=Y2 L
  obtain⟨rfl,af⟩:=sL o
  obtain⟨rfl,ag⟩:=sL p
  obtain⟨rfl,ah⟩:=sL q
  obtain⟨rfl,ai⟩:=sL s
  try dsimp only at a
  refine eX _ (aI u ?_)
  refine trV a (W0e _ _ _ (Q2 E F o p q G H s I)) λM a=>?_
  obtain⟨ar,y,a⟩:=B0 a
  have ac:M.size<=9223372036854775807:=K0 y
  refine ifB a (λC a=>?_) λC a=>?_
  ·cases a
   try dsimp only[P2,l3]at b
   cases b
   exact aI rfl f
  ·obtain⟨ap,w,a⟩:=B0 a
   have J:=K0 w
   refine aI J ?_
   obtain⟨aq,x,a⟩:=B0 a
   have j:=K0 x
   refine aI j ?_
   exact V1 e ⟨_,_,rfl,rfl,f,(o02 j),(J0 _),a⟩
 ·cases a
  try dsimp only[Q0,T0]at b
  cases b
  exact aI rfl f
def D0a(h:Hp)(b:Int)(g:F0 b)(r:BA)(a:L03 b=some r):
  Tr Tryz.prog 24 #[iV b] h λv h'=>v = .string r/\h'=h:=by
 unfold L03 at a
 refine wkF Tryz.f24 ?_
 refine trV a (p6 _ _ g 1 (by decide) 6 (by decide)) λl a=>?_
 refine ifB a (λf a=>?_) λf a=>?_
 ·cases a
  exact aI rfl sr
 ·obtain⟨m,e,a⟩:=B0 a
  obtain⟨c,j,d,i⟩:=L3 (show F2 (Wp.str.R h) ([[.string (⟨#[105,110]⟩:BA)],[.string (⟨#[111,117,116]⟩:BA)],[.string (⟨#[115,97,109,101]⟩:BA)],[.string (⟨#[99,111,110,106,117,103,97,116,101]⟩:BA)],[.string (⟨#[102,114,101,101]⟩:BA)],[.string (⟨#[105,110,100,101,120]⟩:BA)]]:LV) [(⟨#[105,110]⟩:BA),(⟨#[111,117,116]⟩:BA),(⟨#[115,97,109,101]⟩:BA),(⟨#[99,111,110,106,117,103,97,116,101]⟩:BA),(⟨#[102,114,101,101]⟩:BA),(⟨#[105,110,100,101,120]⟩:BA)] from⟨⟨rfl,(by decide)⟩,⟨⟨rfl,(by decide)⟩,⟨⟨rfl,(by decide)⟩,⟨⟨rfl,(by decide)⟩,⟨⟨rfl,(by decide)⟩,⟨⟨rfl,(by decide)⟩,trivial⟩⟩⟩⟩⟩⟩) e
  refine aI c ?_
  obtain⟨rfl,k⟩:=i
  refine eX _ (aI d ?_)
  cases a
  exact aI rfl sr
def X0e(h:Hp)(i:List Value)(o:z0)(aa:L1.R h i o)(r:BA)(b:A02 o=some r):
  Tr Tryz.prog 98 #[.agg i.toArray] h λv h'=>v = .string r/\h'=h:=by
 obtain⟨ao,ap,ac,ad,p,rfl,rfl,j,k,q,an⟩:=opG aa
 unfold A02 at b
 dsimp only at b
 refine wkF Tryz.f98 ?_
 refine trV b (A01 _ _ _ (C0 j k q)) λaD b=>?_
 refine ifB b (λS b=>?_) λS b=>?_
 ·cases b
  exact aI rfl sr
 ·refine w1 ?_
  obtain⟨w,N,b⟩:=B0 b
  refine eX (.string w) (aI (Y00 _ _ j _  N) ?_)
  obtain⟨az,G,b⟩:=B0 b
  have ak:w.size<=9223372036854775807:=K0 G
  obtain⟨aA,H,b⟩:=B0 b
  have Z:=K0 H
  refine aI Z ?_
  obtain⟨x,O,b⟩:=B0 b
  refine eX (.string x) (aI (Y00 _ _ k _  O) ?_)
  obtain⟨aB,I,b⟩:=B0 b
  have al:x.size<=9223372036854775807:=K0 I
  obtain⟨aC,J,b⟩:=B0 b
  have m:=K0 J
  refine aI m ?_
  obtain⟨g,P,b⟩:=B0 b
  refine eX { vars:=[3,20] } (eX (λvs os h'=>∃ c d,vs.tail = [.string c,iV d]/\os = []/\Sub h h'/\c.size<=9223372036854775807/\F0 d/\r7 p (N1 vs) c d=some g) (eX (λ_ _=>0) (aI (eX P0 ⟨_,_,rfl,rfl,sr,(o02 m),(by decide),P⟩) ?_)))
  rintro _ _ e am ⟨c,d,⟨⟩,⟨⟩,f,af,ag,a⟩
  replace a:r7 p e c d=some g:=a
  obtain _|e:=e
  ·cases a
  rw[r7.eq_2]at a
  refine ifB a (λQ a=>?_) λQ a=>?_
  ·refine ld a (M0.mono f q) λaF ae ab a=>?_
   obtain⟨aG,aH,aJ,rfl,rfl,T,U,V⟩:=C2 ab
   try dsimp only at a
   refine w1 ?_
   obtain⟨aq,y,a⟩:=B0 a
   have W:=K0 y
   refine aI W ?_
   obtain⟨s,K,a⟩:=B0 a
   refine eX (.string s) (aI (Y00 _ _ T _  K) ?_)
   obtain⟨ar,z,a⟩:=B0 a
   have ah:s.size<=9223372036854775807:=K0 z
   obtain⟨au,A,a⟩:=B0 a
   have X:=K0 A
   refine aI X ?_
   obtain⟨t,L,a⟩:=B0 a
   refine eX (.string t) (aI (w09 _ _ U _  L) ?_)
   obtain⟨av,C,a⟩:=B0 a
   have ai:t.size<=9223372036854775807:=K0 C
   obtain⟨aw,D,a⟩:=B0 a
   have Y:=K0 D
   refine aI Y ?_
   obtain⟨u,M,a⟩:=B0 a
   refine eX (.string u) (aI (Y00 _ _ V _  M) ?_)
   obtain⟨ax,E,a⟩:=B0 a
   have aj:u.size<=9223372036854775807:=K0 E
   obtain⟨ay,F,a⟩:=B0 a
   have l:=K0 F
   refine aI l ?_
   exact V1 e ⟨_,_,rfl,rfl,f,(o02 l),(J0 _),a⟩
  ·cases a
   try dsimp only[Q0,T0]at b
   cases b
   exact aI rfl f
def N0c(h:Hp)(m:Option Addr)(s o:Nat)(g:H0)(t:I0.R h [.slice m s o] g)(r:BA)(b:y01 g=some r):
  Tr Tryz.prog 97 #[.slice m s o] h λv h'=>v = .string r/\h'=h:=by
 obtain⟨rfl,L⟩:=sL t
 unfold y01 at b
 refine wkF Tryz.f97 ?_
 obtain⟨l,A,b⟩:=B0 b
 refine eX { vars:=[9],owns:=[0] } (eX (λvs os h'=>∃ c k i,vs.tail = [iV c]/\os = [k]/\Sub h h'/\F0 c/\F2 (Wp.str.R h') k i/\V5 g (N1 vs) c i=some l) (eX (λ_ _=>0) (aI (eX P0 ⟨_,_,_,rfl,rfl,sr,(by decide),(show F2 (Wp.str.R h) ([]:LV) ([]:(List BA)) from trivial),A⟩) ?_)))
 rintro _ k f q ⟨c,U,i,⟨⟩,⟨⟩,j,I,e,a⟩
 replace a:V5 g f c i=some l:=a
 obtain _|f:=f
 ·cases a
 rw[V5.eq_2]at a
 refine ifB a (λC a=>?_) λC a=>?_
 ·refine ldI a (I0.mono j t) λT D a=>?_
  refine trV a (Y00 _ _ D) λd a=>?_
  obtain⟨P,y,a⟩:=B0 a
  have p:d.size<=9223372036854775807:=K0 y
  obtain⟨N,w,a⟩:=B0 a
  refine aI (M1 w (by first|rw[fL e,fL (show F2 (Wp.str.R q) ([[.string d]]:LV) [d] from⟨⟨rfl,p⟩,trivial⟩)]|exact congrArg (·+1) (fL e))) ?_
  exact V1 f ⟨_,_,_,rfl,rfl,j,(J0 _),(fA e (show F2 (Wp.str.R q) ([[.string d]]:LV) [d] from⟨⟨rfl,p⟩,trivial⟩)),a⟩
 ·cases a
  try dsimp only[Q0,T0]at b
  refine Or.inr ?_
  intro S K u
  obtain⟨G,H,rfl,E,Q,M⟩:=Y0.out (r:=Wp.str.toRp) u e
  obtain⟨F,z,b⟩:=B0 b
  refine Tr.val (j0b _ _ _ _ _ E (⟨#[32]⟩:BA) (by decide) (⟨#[110,111,110,101]⟩:BA) (by decide) _  z) (aI rfl ?_)
  obtain⟨O,x,b⟩:=B0 b
  have J:F.size<=9223372036854775807:=K0 x
  cases b
  exact aI rfl j
def Y0e(h:Hp)(y:List Value)(E:P1)(al:Y1.R h y E)(r:BA)(b:B02 E=some r):
  Tr Tryz.prog 21 #[.agg y.toArray] h λv h'=>v = .string r/\h'=h:=by
 obtain⟨a7,a8,av,a3,aB,ba,aw,a4,aC,bb,ax,a5,aD,bc,bd,be,ay,a6,aF,bf,bg,rfl,rfl,z,s,t,u,F,A,C,w,ad⟩:=Y2 al
 obtain⟨rfl,aX⟩:=sL t
 obtain⟨rfl,aY⟩:=sL u
 obtain⟨rfl,aZ⟩:=sL F
 obtain⟨rfl,a0⟩:=sL w
 unfold B02 at b
 dsimp only at b
 refine wkF Tryz.f21 ?_
 refine trV b (D0a _ _ z) λau b=>?_
 obtain⟨bj,K,b⟩:=B0 b
 have aL:au.size<=9223372036854775807:=K0 K
 refine trG b (λq=>N07 _ _ s _ _ _ _ t) λbx b=>?_
 refine trG b (λq=>D05 _ _ s _ _ _ _ u) λbz b=>?_
 refine trG b (λq=>A01 _ _ _ (C0 A C w)) λbA b=>?_
 refine ifB b (λab b=>?_) λab b=>?_
 ·cases b
  exact aI rfl sr
 ·refine w4 ?_
  obtain⟨p,aa,b⟩:=B0 b
  obtain⟨bp,Q,b⟩:=B0 b
  have ak:p.size<=9223372036854775807:=K0 Q
  refine pm (.val (.string p)) ?_ ?_
  ·intro aW br
   exact Tr.val (D0a _ _ z _ aa) r3
  obtain⟨f,S,b⟩:=B0 b
  obtain⟨bh,I,b⟩:=B0 b
  have ae:f.size<=9223372036854775807:=K0 I
  refine pm (.val (.string f)) ?_ ?_
  ·intro aN bs
   exact Tr.val (Y00 _ _ s _ S) r3
  obtain⟨g,T,b⟩:=B0 b
  obtain⟨bi,J,b⟩:=B0 b
  have af:g.size<=9223372036854775807:=K0 J
  refine pm (.val (.string g)) ?_ ?_
  ·intro aO an
   exact Tr.val (U0e _ _ _ _ _ (T1.mono an t) _ T) r3
  obtain⟨i,U,b⟩:=B0 b
  obtain⟨bk,L,b⟩:=B0 b
  have ag:i.size<=9223372036854775807:=K0 L
  refine pm (.val (.string i)) ?_ ?_
  ·intro aP ao
   exact Tr.val (x09 _ _ _ _ _ (I0.mono ao u) _ U) r3
  obtain⟨j,V,b⟩:=B0 b
  obtain⟨bl,M,b⟩:=B0 b
  have ah:j.size<=9223372036854775807:=K0 M
  refine pm (.val (.string j)) ?_ ?_
  ·intro aQ ap
   exact Tr.val (N0c _ _ _ _ _ (I0.mono ap F) _ V) r3
  obtain⟨m,W,b⟩:=B0 b
  obtain⟨bm,N,b⟩:=B0 b
  have ai:m.size<=9223372036854775807:=K0 N
  refine pm (.val (.string m)) ?_ ?_
  ·intro aR aq
   exact Tr.val (X0e _ _ _ (C0 A C (M0.mono aq w)) _ W) r3
  obtain⟨o,X,b⟩:=B0 b
  obtain⟨bn,O,b⟩:=B0 b
  have aj:o.size<=9223372036854775807:=K0 O
  refine pm (.val (.string o)) ?_ ?_
  ·intro aS bt
   exact Tr.val (Y00 _ _ ad _ X) r3
  obtain⟨d,Y,b⟩:=B0 b
  refine Or.inr (eX (λv ac=>∃(a:Option Addr) (c:Nat),v = .slice a d.length c/\(Wp.slice Wp.str).R ac [.slice a d.length c] d/\d.length<=9223372036854775807) (aI (λv aJ aK x q=>by obtain⟨a,c,e,r,l⟩:=q;exact⟨a,c,e,(Wp.slice Wp.str).mono x r,l⟩) (aI ?_ ?_)))
  ·intro D bu
   have H:[p,f,g,i,(⟨#[98,121]⟩:BA),j,(⟨#[97,110,100]⟩:BA),m,(⟨#[97,110,100]⟩:BA),o]=d:=oJ Y
   intro v k hf
   obtain⟨a,c,rfl,r,x,l⟩:=Y0.out (r:=Wp.str.toRp) (xs:=d) hf (show F2 (Wp.str.R D) [[.string p],[.string f],[.string g],[.string i],[.string (⟨#[98,121]⟩:BA)],[.string j],[.string (⟨#[97,110,100]⟩:BA)],[.string m],[.string (⟨#[97,110,100]⟩:BA)],[.string o]] d from H▸(show F2 (Wp.str.R D) [[.string p],[.string f],[.string g],[.string i],[.string (⟨#[98,121]⟩:BA)],[.string j],[.string (⟨#[97,110,100]⟩:BA)],[.string m],[.string (⟨#[97,110,100]⟩:BA)],[.string o]] [p,f,g,i,(⟨#[98,121]⟩:BA),j,(⟨#[97,110,100]⟩:BA),m,(⟨#[97,110,100]⟩:BA),o] from⟨⟨rfl,ak⟩,⟨⟨rfl,ae⟩,⟨⟨rfl,af⟩,⟨⟨rfl,ag⟩,⟨⟨rfl,(by decide)⟩,⟨⟨rfl,ah⟩,⟨⟨rfl,(by decide)⟩,⟨⟨rfl,ai⟩,⟨⟨rfl,(by decide)⟩,⟨⟨rfl,aj⟩,trivial⟩⟩⟩⟩⟩⟩⟩⟩⟩⟩))
   exact aI ⟨rfl,rfl,rfl,[_],rfl⟩ (aI x ⟨a,c,rfl,r,l⟩)
  obtain⟨G,Z,b⟩:=B0 b
  obtain⟨bo,P,b⟩:=B0 b
  have aM:G.size<=9223372036854775807:=K0 P
  refine pm (.val (.string G)) ?_ ?_
  ·intro aU bv
   rintro _ ⟨az,aG,rfl,am,a1⟩
   exact Tr.val (j0b _ _ _ _ _ am (⟨#[32]⟩:BA) (by decide) (⟨#[]⟩:BA) (by decide) _ Z) r3
  intro aV ar
  rintro _ ⟨aA,aH,rfl,bq,a2⟩
  cases b
  exact aI rfl ar
def E0b(h:Hp)(i:List Value)(k:C1)(K:G3.R h i k)(r:BA)(b:K00 k=some r):
  Tr Tryz.prog 42 #[.agg i.toArray] h λv h'=>v = .string r/\h'=h:=by
 obtain⟨ao,N,aj,T,l,rfl,rfl,Z,m⟩:=I2 K
 obtain⟨rfl,ae⟩:=sL m
 unfold K00 at b
 dsimp only at b
 refine wkF Tryz.f42 ?_
 obtain⟨g,A,b⟩:=B0 b
 refine eX { vars:=[3,10] } (eX (λvs os h'=>∃ c d,vs.tail = [.string c,iV d]/\os = []/\Sub h h'/\c.size<=9223372036854775807/\F0 d/\C5 l (N1 vs) c d=some g) (eX (λ_ _=>0) (aI (eX P0 ⟨_,_,rfl,rfl,sr,(by decide),(by decide),A⟩) ?_)))
 rintro _ _ e ad ⟨c,d,⟨⟩,⟨⟩,f,aa,ab,a⟩
 replace a:C5 l e c d=some g:=a
 obtain _|e:=e
 ·cases a
 rw[C5.eq_2]at a
 refine ifB a (λD a=>?_) λD a=>?_
 ·obtain⟨au,z,a⟩:=B0 a
  obtain⟨t,U,u,L⟩:=Sl.getI (r:=Y1.toRp) (M3.mono f m) z (by decide)
  refine aI t ?_
  obtain⟨av,aw,O,ak,V,ax,P,al,W,ay,Q,am,X,az,aA,aB,S,an,Y,aC,aD,rfl,rfl,E,F,o,p,q,G,H,s,I⟩:=Y2 L
  obtain⟨rfl,af⟩:=sL o
  obtain⟨rfl,ag⟩:=sL p
  obtain⟨rfl,ah⟩:=sL q
  obtain⟨rfl,ai⟩:=sL s
  try dsimp only at a
  refine eX _ (aI u ?_)
  refine trV a (Y0e _ _ _ (Q2 E F o p q G H s I)) λM a=>?_
  obtain⟨ar,y,a⟩:=B0 a
  have ac:M.size<=9223372036854775807:=K0 y
  refine ifB a (λC a=>?_) λC a=>?_
  ·cases a
   try dsimp only[P2,l3]at b
   cases b
   exact aI rfl f
  ·obtain⟨ap,w,a⟩:=B0 a
   have J:=K0 w
   refine aI J ?_
   obtain⟨aq,x,a⟩:=B0 a
   have j:=K0 x
   refine aI j ?_
   exact V1 e ⟨_,_,rfl,rfl,f,(o02 j),(J0 _),a⟩
 ·cases a
  try dsimp only[Q0,T0]at b
  cases b
  exact aI rfl f
def z04(h:Hp)(j:Option Addr)(o l:Nat)(f:H0)(q:I0.R h [.slice j o l] f)(k:Option Addr)(p m:Nat)(g:H0)(s:I0.R h [.slice k p m] g)(r:Bool)(b:S6 f g=some r):
  Tr Tryz.prog 60 #[.slice j o l,.slice k p m] h λv h'=>v = .bool r/\h'=h:=by
 obtain⟨rfl,D⟩:=sL q
 obtain⟨rfl,E⟩:=sL s
 unfold S6 at b
 refine wkF Tryz.f60 ?_
 refine ifB b (λu b=>?_) λu b=>?_
 ·cases b
  exact aI rfl sr
 ·obtain⟨i,t,b⟩:=B0 b
  refine eX { vars:=[5] } (eX (λvs os h'=>∃ d,vs.tail = [iV d]/\os = []/\Sub h h'/\F0 d/\E5 f g (N1 vs) d=some i) (eX (λ_ _=>0) (aI (eX P0 ⟨_,rfl,rfl,sr,(by decide),t⟩) ?_)))
  rintro _ e C ⟨d,⟨⟩,⟨⟩,c,y,a⟩
  replace a:E5 f g e d=some i:=a
  obtain _|e:=e
  ·cases a
  rw[E5.eq_2]at a
  refine ifB a (λw a=>?_) λw a=>?_
  ·refine w1 ?_
   refine ldI a (I0.mono c q) λF z a=>?_
   refine ldI a (I0.mono c s) λG A a=>?_
   refine ifB a (λx a=>?_) λx a=>?_
   ·cases a
    try dsimp only[P2,l3]at b
    cases b
    exact aI rfl c
   ·exact V1 e ⟨_,rfl,rfl,c,(J0 _),a⟩
  ·cases a
   try dsimp only[Q0,T0]at b
   cases b
   exact aI rfl c
def A04(h:Hp)(j:Option Addr)(o l:Nat)(f:H0)(q:I0.R h [.slice j o l] f)(k:Option Addr)(p m:Nat)(g:H0)(s:I0.R h [.slice k p m] g)(r:Bool)(b:T6 f g=some r):
  Tr Tryz.prog 64 #[.slice j o l,.slice k p m] h λv h'=>v = .bool r/\h'=h:=by
 obtain⟨rfl,D⟩:=sL q
 obtain⟨rfl,E⟩:=sL s
 unfold T6 at b
 refine wkF Tryz.f64 ?_
 refine ifB b (λu b=>?_) λu b=>?_
 ·cases b
  exact aI rfl sr
 ·obtain⟨i,t,b⟩:=B0 b
  refine eX { vars:=[13] } (eX (λvs os h'=>∃ d,vs.tail = [iV d]/\os = []/\Sub h h'/\F0 d/\F5 f g (N1 vs) d=some i) (eX (λ_ _=>0) (aI (eX P0 ⟨_,rfl,rfl,sr,(by decide),t⟩) ?_)))
  rintro _ e C ⟨d,⟨⟩,⟨⟩,c,y,a⟩
  replace a:F5 f g e d=some i:=a
  obtain _|e:=e
  ·cases a
  rw[F5.eq_2]at a
  refine ifB a (λw a=>?_) λw a=>?_
  ·refine w1 ?_
   refine ldI a (I0.mono c q) λF z a=>?_
   refine ldI a (I0.mono c s) λG A a=>?_
   refine ifB a (λx a=>?_) λx a=>?_
   ·cases a
    try dsimp only[P2,l3]at b
    cases b
    exact aI rfl c
   ·exact V1 e ⟨_,rfl,rfl,c,(J0 _),a⟩
  ·cases a
   try dsimp only[Q0,T0]at b
   cases b
   exact aI rfl c
def R05(h:Hp)(c:Option Addr)(j e:Nat)(k:H0)(l:I0.R h [.slice c j e] k)(r:H0)(a:B8 k=some r):
  Tr Tryz.prog 50 #[.slice c j e] h λv h'=>∃(g:Nat) (i d:Nat),v = .slice (some ⟨g,0,none⟩) i d/\New I0 h h' [.slice (some ⟨g,0,none⟩) i d] r:=by
 obtain⟨rfl,u⟩:=sL l
 unfold B8 at a
 refine wk Tryz.f50 ?_
 obtain⟨p,m,b⟩:=Sl.rows (r:=Wp.int.toRp) l
 refine eX p (aI m ?_)
 obtain⟨x,o,a⟩:=B0 a
 refine aI (M1 o (by first|rw[fL (show F2 (Wp.int.R h) ([]:LV) ([]:H0) from trivial),fL b]|exact congrArg (·+1) (fL (show F2 (Wp.int.R h) ([]:LV) ([]:H0) from trivial)))) ?_
 intro A t f
 obtain⟨s,q,rfl,y,z,w⟩:=Y0.outS (r:=Wp.int.toRp) f (fA (show F2 (Wp.int.R h) ([]:LV) ([]:H0) from trivial) b)
 cases a
 exact⟨_,_,_,rfl,(Y0.newPlain (r:=Wp.int) f (fA (show F2 (Wp.int.R h) ([]:LV) ([]:H0) from trivial) b) (n05 _))⟩
end Go.Proofs.YtcpjomkcdlggaaaGreat
