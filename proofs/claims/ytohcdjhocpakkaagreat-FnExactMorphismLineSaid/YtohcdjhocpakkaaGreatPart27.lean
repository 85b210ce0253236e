/- Texts of the claim, joined: The walks of batch 1 and others. -/
import Derived.Test.YtohcdjhocpakkaaGreatPart19
import Derived.Test.YtohcdjhocpakkaaGreatChecked
import Derived.Test.YtohcdjhocpakkaaGreatH35
import Derived.Test.YtohcdjhocpakkaaGreatPart18
import Derived.Test.YtohcdjhocpakkaaGreatH36
import Derived.Test.YtohcdjhocpakkaaGreatSI
import Derived.Test.YtohcdjhocpakkaaGreatPart22
import Derived.Test.YtohcdjhocpakkaaGreatH41
namespace Go.Proofs.YtohcdjhocpakkaaGreat
open Go.H
set_option linter.unusedVariables false
set_option linter.unusedSimpArgs false
set_option maxRecDepth 10000
theorem c5(h:Hp)(a:Int)(g:K0 a)(b:Int)(i:K0 b)(c:Int)(j:K0 c)(r:Bool)(d:T3 a b c=some r):
  Tr Tryz.prog 26 #[.int .i64 a,.int .i64 b,.int .i64 c] h λv f=>v = .bool r/\f=h:=by
 unfold T3 at d
 refine Tr.forget (G2 (args:=[.int .i64 a,.int .i64 b,.int .i64 c]) (fn:=Tryz.f26) rfl ?_)
 obtain rfl:=oJ d
 exact aI rfl (Sub.refl _)
theorem L05(h:Hp)(c:Int)(o:K0 c)(k:Option Addr)(p l:Nat)(g:D0)(i:C0.R h [.slice k p l] g)(r:Bool)(b:z00 c g=some r):
  Tr Tryz.prog 25 #[.int .i64 c,.slice k p l] h λv m=>v = .bool r/\m=h:=by
 obtain⟨rfl,D⟩:=Sl.len i
 unfold z00 at b
 refine Tr.forget (G2 (args:=[.int .i64 c,.slice k g.length l]) (fn:=Tryz.f25) rfl ?_)
 obtain⟨n,s,b⟩:=B0 b
 refine eX { vars:=[5],boxes:=[],owns:=[],fuel:=true } (eX (λvs os m=>∃ f,vs.tail = [.int .i64 f]/\os = []/\Sub h m/\K0 f/\j8 g c (J1 vs) f=some n) (eX (λ_ _=>0) (aI (eX Q0 ⟨0,rfl,rfl,(Sub.refl _),(by decide),s⟩) ?_)))
 rintro _ j C ⟨f,⟨⟩,⟨⟩,d,x,a⟩
 replace a:j8 g c j f=some n:=a
 obtain _|j:=j
 ·cases a
 rw[j8.eq_2]at a
 refine ifB a (λu a=>?_) λu a=>?_
 ·refine Or.inl (aI (aI (by kernel_rfl) (by kernel_rfl)) ?_)
  refine ldI a (C0.mono d i) λG z a=>?_
  refine ldG a (C0.mono d i) λH w a=>?_
  refine trG a (λq=>c5 _ _ w (IntKind.i64.wrap (0-c)) (I0 _) _ o) λI a=>?_
  refine ldG a (C0.mono d i) λJ A a=>?_
  refine ldG a (C0.mono d i) λE y a=>?_
  refine ifB a (λt a=>?_) λt a=>?_
  ·obtain rfl:=oJ a
   try dsimp only[L1,M1]at b
   obtain rfl:=oJ b
   exact aI rfl d
  ·exact I2 j ⟨(IntKind.i64.wrap (f+1)),rfl,rfl,d,(I0 _),a⟩
 ·obtain rfl:=oJ a
  try dsimp only[S0,W0]at b
  refine trV b (c5 _ _ o 1 (by decide) 3 (by decide)) λF b=>?_
  obtain rfl:=oJ b
  exact aI rfl d
theorem G09(h:Hp)(i:Option Addr)(n j:Nat)(f:N0)(o:Y0.R h [.slice i n j] f)(r:Int)(d:B8 f=some r):
  Tr Tryz.prog 89 #[.slice i n j] h λv k=>v = .int .i64 r/\k=h:=by
 obtain⟨rfl,C⟩:=Sl.len o
 unfold B8 at d
 refine Tr.forget (G2 (args:=[.slice i f.length j]) (fn:=Tryz.f89) rfl ?_)
 obtain⟨m,q,d⟩:=B0 d
 refine eX { vars:=[3,4],boxes:=[],owns:=[],fuel:=true } (eX (λvs os k=>∃ b c,vs.tail = [.int .i64 b,.int .i64 c]/\os = []/\Sub h k/\K0 b/\K0 c/\Z3 f (J1 vs) b c=some m) (eX (λ_ _=>0) (aI (eX Q0 ⟨0,0,rfl,rfl,(Sub.refl _),(by decide),(by decide),q⟩) ?_)))
 rintro _ _ g A ⟨b,c,⟨⟩,⟨⟩,l,y,z,a⟩
 replace a:Z3 f g b c=some m:=a
 obtain _|g:=g
 ·cases a
 rw[Z3.eq_2]at a
 refine ifB a (λs a=>?_) λs a=>?_
 ·refine ld a (Y0.mono l o) λt w p a=>?_
  obtain⟨u,E,x,rfl⟩:=Wp.slice_cell p
  obtain⟨rfl,D⟩:=Sl.len p
  exact I2 g ⟨(IntKind.i64.wrap (b+((t.length:Nat):Int))),(IntKind.i64.wrap (c+1)),rfl,rfl,l,(I0 _),(I0 _),a⟩
 ·obtain rfl:=oJ a
  try dsimp only[S0,W0]at d
  obtain rfl:=oJ d
  exact aI rfl l
theorem g07(h:Hp)(c:Int)(p:K0 c)(j:Option Addr)(s k:Nat)(f:N0)(m:Y0.R h [.slice j s k] f)(r:Bool)(b:e00 c f=some r):
  Tr Tryz.prog 69 #[.int .i64 c,.slice j s k] h λv l=>v = .bool r/\l=h:=by
 obtain⟨rfl,G⟩:=Sl.len m
 unfold e00 at b
 refine Tr.forget (G2 (args:=[.int .i64 c,.slice j f.length k]) (fn:=Tryz.f69) rfl ?_)
 obtain⟨o,u,b⟩:=B0 b
 refine eX { vars:=[5],boxes:=[],owns:=[],fuel:=true } (eX (λvs os l=>∃ d,vs.tail = [.int .i64 d]/\os = []/\Sub h l/\K0 d/\R6 f c (J1 vs) d=some o) (eX (λ_ _=>0) (aI (eX Q0 ⟨0,rfl,rfl,(Sub.refl _),(by decide),u⟩) ?_)))
 rintro _ i F ⟨d,⟨⟩,⟨⟩,g,D,a⟩
 replace a:R6 f c i d=some o:=a
 obtain _|i:=i
 ·cases a
 rw[R6.eq_2]at a
 refine ifB a (λw a=>?_) λw a=>?_
 ·refine ld a (Y0.mono g m) λK A n a=>?_
  obtain⟨z,I,C,rfl⟩:=Wp.slice_cell n
  obtain⟨rfl,H⟩:=Sl.len n
  refine trV a (L05 _ _ p _ _ _ _ n) λL a=>?_
  refine ifB a (λx a=>?_) λx a=>?_
  ·obtain rfl:=oJ a
   try dsimp only[L1,M1]at b
   obtain rfl:=oJ b
   exact aI rfl g
  ·exact I2 i ⟨(IntKind.i64.wrap (d+1)),rfl,rfl,g,(I0 _),a⟩
 ·obtain rfl:=oJ a
  try dsimp only[S0,W0]at b
  refine trV b (c5 _ _ p 1 (by decide) 3 (by decide)) λM b=>?_
  refine trG b (λq=>G09 _ _ _ _ _ (Y0.mono g m)) λy b=>?_
  obtain⟨J,t,b⟩:=B0 b
  have E:K0 y:=T0 t
  obtain rfl:=oJ b
  exact aI rfl g
theorem A3(h:Hp)(a:Int)(g:K0 a)(b:Int)(i:K0 b)(c:Int)(j:K0 c)(r:Bool)(d:E3 a b c=some r):
  Tr Tryz.prog 37 #[.int .i64 a,.int .i64 b,.int .i64 c] h λv f=>v = .bool r/\f=h:=by
 unfold E3 at d
 refine Tr.forget (G2 (args:=[.int .i64 a,.int .i64 b,.int .i64 c]) (fn:=Tryz.f37) rfl ?_)
 obtain rfl:=oJ d
 exact aI rfl (Sub.refl _)
theorem W0c(h:Hp)(a:Int)(f:K0 a)(c:Int)(g:K0 c)(r:Bool)(b:f01 a c=some r):
  Tr Tryz.prog 59 #[.int .i64 a,.int .i64 c] h λv d=>v = .bool r/\d=h:=by
 unfold f01 at b
 refine Tr.forget (G2 (args:=[.int .i64 a,.int .i64 c]) (fn:=Tryz.f59) rfl ?_)
 refine trG b (λq=>A3 _ _ g (IntKind.i64.wrap (0-a)) (I0 _) _ f) λi b=>?_
 obtain rfl:=oJ b
 exact aI rfl (Sub.refl _)
theorem y05(h:Hp)(a:Int)(f:K0 a)(b:Int)(g:K0 b)(r:Bool)(c:V8 a b=some r):
  Tr Tryz.prog 60 #[.int .i64 a,.int .i64 b] h λv d=>v = .bool r/\d=h:=by
 unfold V8 at c
 refine Tr.forget (G2 (args:=[.int .i64 a,.int .i64 b]) (fn:=Tryz.f60) rfl ?_)
 obtain rfl:=oJ c
 exact aI rfl (Sub.refl _)
theorem M05(h:Hp)(c:Int)(o:K0 c)(j:Option Addr)(s k:Nat)(f:D0)(m:C0.R h [.slice j s k] f)(r:Bool)(b:A00 c f=some r):
  Tr Tryz.prog 38 #[.int .i64 c,.slice j s k] h λv l=>v = .bool r/\l=h:=by
 obtain⟨rfl,C⟩:=Sl.len m
 unfold A00 at b
 refine Tr.forget (G2 (args:=[.int .i64 c,.slice j f.length k]) (fn:=Tryz.f38) rfl ?_)
 refine trV b (A3 _ _ o 1 (by decide) 3 (by decide)) λD b=>?_
 refine ifB b (λw b=>?_) λw b=>?_
 ·obtain rfl:=oJ b
  exact aI rfl (Sub.refl _)
 ·obtain⟨n,t,b⟩:=B0 b
  refine eX { vars:=[17],boxes:=[],owns:=[],fuel:=true } (eX (λvs os l=>∃ d,vs.tail = [.int .i64 d]/\os = []/\Sub h l/\K0 d/\l8 f c (J1 vs) d=some n) (eX (λ_ _=>0) (aI (eX Q0 ⟨0,rfl,rfl,(Sub.refl _),(by decide),t⟩) ?_)))
  rintro _ i A ⟨d,⟨⟩,⟨⟩,g,z,a⟩
  replace a:l8 f c i d=some n:=a
  obtain _|i:=i
  ·cases a
  rw[l8.eq_2]at a
  refine ifB a (λx a=>?_) λx a=>?_
  ·refine ldI a (C0.mono g m) λG p a=>?_
   refine trV a (W0c _ _ o _ p) λH a=>?_
   refine ldG a (C0.mono g m) λE y a=>?_
   refine trG a (λq=>y05 _ _ y _ p) λF a=>?_
   refine ifB a (λu a=>?_) λu a=>?_
   ·obtain rfl:=oJ a
    try dsimp only[L1,M1]at b
    obtain rfl:=oJ b
    exact aI rfl g
   ·exact I2 i ⟨(IntKind.i64.wrap (d+1)),rfl,rfl,g,(I0 _),a⟩
  ·obtain rfl:=oJ a
   try dsimp only[S0,W0]at b
   obtain rfl:=oJ b
   exact aI rfl g
theorem H09(h:Hp)(i:Option Addr)(n j:Nat)(f:N0)(o:Y0.R h [.slice i n j] f)(r:Int)(d:K9 f=some r):
  Tr Tryz.prog 79 #[.slice i n j] h λv k=>v = .int .i64 r/\k=h:=by
 obtain⟨rfl,C⟩:=Sl.len o
 unfold K9 at d
 refine Tr.forget (G2 (args:=[.slice i f.length j]) (fn:=Tryz.f79) rfl ?_)
 obtain⟨m,q,d⟩:=B0 d
 refine eX { vars:=[3,8],boxes:=[],owns:=[],fuel:=true } (eX (λvs os k=>∃ b c,vs.tail = [.int .i64 b,.int .i64 c]/\os = []/\Sub h k/\K0 b/\K0 c/\d6 f (J1 vs) b c=some m) (eX (λ_ _=>0) (aI (eX Q0 ⟨0,0,rfl,rfl,(Sub.refl _),(by decide),(by decide),q⟩) ?_)))
 rintro _ _ g A ⟨b,c,⟨⟩,⟨⟩,l,y,z,a⟩
 replace a:d6 f g b c=some m:=a
 obtain _|g:=g
 ·cases a
 rw[d6.eq_2]at a
 refine ifB a (λs a=>?_) λs a=>?_
 ·refine ld a (Y0.mono l o) λt w p a=>?_
  obtain⟨u,E,x,rfl⟩:=Wp.slice_cell p
  obtain⟨rfl,D⟩:=Sl.len p
  exact I2 g ⟨(IntKind.i64.wrap (b+((t.length:Nat):Int))),(IntKind.i64.wrap (c+1)),rfl,rfl,l,(I0 _),(I0 _),a⟩
 ·obtain rfl:=oJ a
  try dsimp only[S0,W0]at d
  obtain rfl:=oJ d
  exact aI rfl l
theorem h07(h:Hp)(c:Int)(p:K0 c)(j:Option Addr)(q k:Nat)(f:N0)(m:Y0.R h [.slice j q k] f)(r:Bool)(a:f00 c f=some r):
  Tr Tryz.prog 62 #[.int .i64 c,.slice j q k] h λv l=>v = .bool r/\l=h:=by
 obtain⟨rfl,G⟩:=Sl.len m
 unfold f00 at a
 refine Tr.forget (G2 (args:=[.int .i64 c,.slice j f.length k]) (fn:=Tryz.f62) rfl ?_)
 refine trV a (A3 _ _ p 1 (by decide) 3 (by decide)) λK a=>?_
 refine ifB a (λw a=>?_) λw a=>?_
 ·obtain rfl:=oJ a
  exact aI rfl (Sub.refl _)
 ·obtain⟨o,t,a⟩:=B0 a
  refine eX { vars:=[17],boxes:=[],owns:=[],fuel:=true } (eX (λvs os l=>∃ d,vs.tail = [.int .i64 d]/\os = []/\Sub h l/\K0 d/\S6 f c (J1 vs) d=some o) (eX (λ_ _=>0) (aI (eX Q0 ⟨0,rfl,rfl,(Sub.refl _),(by decide),t⟩) ?_)))
  rintro _ i F ⟨d,⟨⟩,⟨⟩,g,D,b⟩
  replace b:S6 f c i d=some o:=b
  obtain _|i:=i
  ·cases b
  rw[S6.eq_2]at b
  refine ifB b (λx b=>?_) λx b=>?_
  ·refine ld b (Y0.mono g m) λL A n b=>?_
   obtain⟨z,I,C,rfl⟩:=Wp.slice_cell n
   obtain⟨rfl,H⟩:=Sl.len n
   refine trV b (M05 _ _ p _ _ _ _ n) λM b=>?_
   refine ifB b (λu b=>?_) λu b=>?_
   ·obtain rfl:=oJ b
    try dsimp only[L1,M1]at a
    obtain rfl:=oJ a
    exact aI rfl g
   ·exact I2 i ⟨(IntKind.i64.wrap (d+1)),rfl,rfl,g,(I0 _),b⟩
  ·obtain rfl:=oJ b
   try dsimp only[S0,W0]at a
   refine trV a (H09 _ _ _ _ _ (Y0.mono g m)) λy a=>?_
   obtain⟨J,s,a⟩:=B0 a
   have E:K0 y:=T0 s
   obtain rfl:=oJ a
   exact aI rfl g
theorem A7(h:Hp)(b:Int)(i:K0 b)(c:Int)(j:K0 c)(r:Int)(a:K3 b c=some r):
  Tr Tryz.prog 102 #[.int .i64 b,.int .i64 c] h λv d=>v = .int .i64 r/\d=h:=by
 unfold K3 at a
 refine Tr.forget (G2 (args:=[.int .i64 b,.int .i64 c]) (fn:=Tryz.f102) rfl ?_)
 refine ifB a (λf a=>?_) λf a=>?_
 ·obtain rfl:=oJ a
  exact aI rfl (Sub.refl _)
 ·refine ifB a (λg a=>?_) λg a=>?_
  ·obtain rfl:=oJ a
   exact aI rfl (Sub.refl _)
  ·obtain rfl:=oJ a
   exact aI rfl (Sub.refl _)
theorem X0c(h:Hp)(b:Int)(d:K0 b)(r:Bool)(a:r01 b=some r):
  Tr Tryz.prog 50 #[.int .i64 b] h λv c=>v = .bool r/\c=h:=by
 unfold r01 at a
 refine Tr.forget (G2 (args:=[.int .i64 b]) (fn:=Tryz.f50) rfl ?_)
 refine trG a (λq=>c5 _ _ d (-3) (by decide) 3 (by decide)) λf a=>?_
 obtain rfl:=oJ a
 exact aI rfl (Sub.refl _)
theorem N05(h:Hp)(b:Int)(q:K0 b)(r:ByteArray)(a:B01 b=some r):
  Tr Tryz.prog 27 #[.int .i64 b] h λv k=>v = .string r/\k=h:=by
 unfold B01 at a
 refine Tr.forget (G2 (args:=[.int .i64 b]) (fn:=Tryz.f27) rfl ?_)
 refine ifB a (λl a=>?_) λl a=>?_
 ·obtain⟨u,i,a⟩:=B0 a
  obtain⟨c,o,f,m⟩:=A4 (show F2 (Wp.str.R h) ([[.string (⟨#[65]⟩:ByteArray)],[.string (⟨#[66]⟩:ByteArray)],[.string (⟨#[67]⟩:ByteArray)]]:List (List Value)) [(⟨#[65]⟩:ByteArray),(⟨#[66]⟩:ByteArray),(⟨#[67]⟩:ByteArray)] from⟨⟨rfl,(by decide)⟩,⟨⟨rfl,(by decide)⟩,⟨⟨rfl,(by decide)⟩,trivial⟩⟩⟩) i
  refine aI c ?_
  obtain⟨rfl,s⟩:=m
  refine eX _ (aI f ?_)
  obtain rfl:=oJ a
  exact aI rfl (Sub.refl _)
 ·obtain⟨w,j,a⟩:=B0 a
  obtain⟨d,p,g,n⟩:=A4 (show F2 (Wp.str.R h) ([[.string (⟨#[97]⟩:ByteArray)],[.string (⟨#[98]⟩:ByteArray)],[.string (⟨#[99]⟩:ByteArray)]]:List (List Value)) [(⟨#[97]⟩:ByteArray),(⟨#[98]⟩:ByteArray),(⟨#[99]⟩:ByteArray)] from⟨⟨rfl,(by decide)⟩,⟨⟨rfl,(by decide)⟩,⟨⟨rfl,(by decide)⟩,trivial⟩⟩⟩) j
  refine aI d ?_
  obtain⟨rfl,t⟩:=n
  refine eX _ (aI g ?_)
  obtain rfl:=oJ a
  exact aI rfl (Sub.refl _)
theorem z05(h:Hp)(j:Option Addr)(p k:Nat)(g:D0)(m:C0.R h [.slice j p k] g)(r:ByteArray)(b:a9 g=some r):
  Tr Tryz.prog 28 #[.slice j p k] h λv l=>v = .string r/\l=h:=by
 obtain⟨rfl,G⟩:=Sl.len m
 unfold a9 at b
 refine Tr.forget (G2 (args:=[.slice j g.length k]) (fn:=Tryz.f28) rfl ?_)
 obtain⟨n,u,b⟩:=B0 b
 refine eX { vars:=[3,4],boxes:=[],owns:=[],fuel:=true } (eX (λvs os l=>∃ d f,vs.tail = [.string d,.int .i64 f]/\os = []/\Sub h l/\d.size<=9223372036854775807/\K0 f/\Q5 g (J1 vs) d f=some n) (eX (λ_ _=>0) (aI (eX Q0 ⟨(⟨#[]⟩:ByteArray),0,rfl,rfl,(Sub.refl _),(by decide),(by decide),u⟩) ?_)))
 rintro _ _ i F ⟨d,f,⟨⟩,⟨⟩,c,C,D,a⟩
 replace a:Q5 g i d f=some n:=a
 obtain _|i:=i
 ·cases a
 rw[Q5.eq_2]at a
 refine ifB a (λx a=>?_) λx a=>?_
 ·refine ldI a (C0.mono c m) λK A a=>?_
  refine trV a (X0c _ _ A) λL a=>?_
  refine ifB a (λy a=>?_) λy a=>?_
  ·obtain rfl:=oJ a
   try dsimp only[L1,M1]at b
   obtain rfl:=oJ b
   exact aI rfl c
  ·refine ldI a (C0.mono c m) λJ z a=>?_
   refine trV a (N05 _ _ z) λq a=>?_
   obtain⟨H,s,a⟩:=B0 a
   have E:q.size<=9223372036854775807:=T0 s
   obtain⟨I,t,a⟩:=B0 a
   have o:=T0 t
   refine aI o ?_
   exact I2 i ⟨(d++q),(IntKind.i64.wrap (f+1)),rfl,rfl,c,(T04 o),(I0 _),a⟩
 ·obtain rfl:=oJ a
  try dsimp only[S0,W0]at b
  refine ifB b (λw b=>?_) λw b=>?_
  ·obtain rfl:=oJ b
   exact aI rfl c
  ·obtain rfl:=oJ b
   exact aI rfl c
theorem A05(h:Hp)(b:Int)(c:K0 b)(r:ByteArray)(a:W7 b=some r):
  Tr Tryz.prog 39 #[.int .i64 b] h λv g=>v = .string r/\g=h:=by
 unfold W7 at a
 refine Tr.forget (G2 (args:=[.int .i64 b]) (fn:=Tryz.f39) rfl ?_)
 refine trV a (A3 _ _ c 1 (by decide) 3 (by decide)) λm a=>?_
 refine ifB a (λi a=>?_) λi a=>?_
 ·obtain⟨k,d,a⟩:=B0 a
  refine aI (T0 d) ?_
  obtain rfl:=oJ a
  exact aI rfl (Sub.refl _)
 ·refine trV a (A3 _ _ c (-3) (by decide) (-1) (by decide)) λn a=>?_
  refine ifB a (λj a=>?_) λj a=>?_
  ·obtain⟨l,f,a⟩:=B0 a
   refine aI (T0 f) ?_
   obtain rfl:=oJ a
   exact aI rfl (Sub.refl _)
  ·obtain rfl:=oJ a
   exact aI rfl (Sub.refl _)
theorem b0b(h:Hp)(j:Option Addr)(o k:Nat)(f:D0)(p:C0.R h [.slice j o k] f)(r:ByteArray)(b:v00 f=some r):
  Tr Tryz.prog 40 #[.slice j o k] h λv l=>v = .string r/\l=h:=by
 obtain⟨rfl,F⟩:=Sl.len p
 unfold v00 at b
 refine Tr.forget (G2 (args:=[.slice j f.length k]) (fn:=Tryz.f40) rfl ?_)
 refine ifB b (λw b=>?_) λw b=>?_
 ·obtain rfl:=oJ b
  exact aI rfl (Sub.refl _)
 ·obtain⟨m,u,b⟩:=B0 b
  refine eX { vars:=[3,12],boxes:=[],owns:=[],fuel:=true } (eX (λvs os l=>∃ c d,vs.tail = [.string c,.int .i64 d]/\os = []/\Sub h l/\c.size<=9223372036854775807/\K0 d/\R5 f (J1 vs) c d=some m) (eX (λ_ _=>0) (aI (eX Q0 ⟨(⟨#[]⟩:ByteArray),0,rfl,rfl,(Sub.refl _),(by decide),(by decide),u⟩) ?_)))
  rintro _ _ g E ⟨c,d,⟨⟩,⟨⟩,i,A,C,a⟩
  replace a:R5 f g c d=some m:=a
  obtain _|g:=g
  ·cases a
  rw[R5.eq_2]at a
  refine ifB a (λy a=>?_) λy a=>?_
  ·refine ldI a (C0.mono i p) λI z a=>?_
   refine trV a (A05 _ _ z) λq a=>?_
   obtain⟨G,s,a⟩:=B0 a
   have D:q.size<=9223372036854775807:=T0 s
   refine ifB a (λx a=>?_) λx a=>?_
   ·obtain rfl:=oJ a
    try dsimp only[L1,M1]at b
    obtain rfl:=oJ b
    exact aI rfl i
   ·obtain⟨H,t,a⟩:=B0 a
    have n:=T0 t
    refine aI n ?_
    exact I2 g ⟨(c++q),(IntKind.i64.wrap (d+1)),rfl,rfl,i,(T04 n),(I0 _),a⟩
  ·obtain rfl:=oJ a
   try dsimp only[S0,W0]at b
   obtain rfl:=oJ b
   exact aI rfl i
theorem c0b(h:Hp)(j:Option Addr)(s k:Nat)(m:(List ByteArray))(n:(Wp.slice Wp.str).R h [.slice j s k] m)(c:ByteArray)(U:c.size<=9223372036854775807)(i:ByteArray)(V:i.size<=9223372036854775807)(r:ByteArray)(b:k02 m c i=some r):
  Tr Tryz.prog 41 #[.slice j s k,.string c,.string i] h λv l=>v = .string r/\l=h:=by
 obtain⟨rfl,aa⟩:=Sl.len n
 unfold k02 at b
 refine Tr.forget (G2 (args:=[.slice j m.length k,.string c,.string i]) (fn:=Tryz.f41) rfl ?_)
 refine ifB b (λD b=>?_) λD b=>?_
 ·obtain rfl:=oJ b
  exact aI rfl (Sub.refl _)
 ·refine ld b n λO S K b=>?_
  obtain⟨rfl,G⟩:=K
  obtain⟨u,A,b⟩:=B0 b
  obtain⟨I,L,w,x⟩:=Sl.cutI (r:=Wp.str.toRp) n A
  refine aI I (eX L (aI w ?_))
  intro M F _
  obtain⟨P,T,rfl,t⟩:=x M F
  have ab:=(Sl.len t).2
  obtain⟨p,C,b⟩:=B0 b
  refine eX { vars:=[7,20],boxes:=[],owns:=[],fuel:=true } (eX (λvs os l=>∃ d f,vs.tail = [.string d,.int .i64 f]/\os = []/\Sub h l/\d.size<=9223372036854775807/\K0 f/\S8 u c (J1 vs) d f=some p) (eX (λ_ _=>0) (aI (eX Q0 ⟨O,0,rfl,rfl,(Sub.refl _),G,(by decide),C⟩) ?_)))
  rintro _ _ g Z ⟨d,f,⟨⟩,⟨⟩,o,W,X,a⟩
  replace a:S8 u c g d f=some p:=a
  obtain _|g:=g
  ·cases a
  rw[S8.eq_2]at a
  refine ifB a (λE a=>?_) λE a=>?_
  ·refine ld a ((Wp.slice Wp.str).mono o t) λN Q J a=>?_
   obtain⟨rfl,Y⟩:=J
   obtain⟨ac,y,a⟩:=B0 a
   have H:=T0 y
   refine aI H ?_
   obtain⟨ad,z,a⟩:=B0 a
   have q:=T0 z
   refine aI q ?_
   exact I2 g ⟨((d++c)++N),(IntKind.i64.wrap (f+1)),rfl,rfl,o,(T04 q),(I0 _),a⟩
  ·obtain rfl:=oJ a
   try dsimp only[S0,W0]at b
   obtain rfl:=oJ b
   exact aI rfl o
theorem g7(h:Hp)(o:Option Addr)(A q:Nat)(f:D0)(C:C0.R h [.slice o A q] f)(r:D0)(d:V4 f=some r):
  Tr Tryz.prog 45 #[.slice o A q] h λv l=>∃(u:Option Addr) (z w:Nat),v = .slice u z w/\New C0 h l [.slice u z w] r:=by
 obtain⟨rfl,M⟩:=Sl.len C
 unfold V4 at d
 refine G2 (args:=[.slice o f.length q]) (fn:=Tryz.f45) rfl ?_
 obtain⟨O,F,d⟩:=B0 d
 refine aI (T0 F) ?_
 obtain⟨t,H,d⟩:=B0 d
 refine eX { vars:=[4],boxes:=[],owns:=[0],fuel:=true } (eX (λvs os l=>∃ g n i,vs.tail = [.int .i64 g]/\os = [n]/\Sub h l/\K0 g/\F2 (Wp.int.R l) n i/\M6 f (J1 vs) g i=some t) (eX (λ_ _=>0) (aI (eX Q0 ⟨(IntKind.i64.wrap (((f.length:Nat):Int)-1)),(List.replicate (0:Int).toNat ([.int .i64 0]:List Value)),(List.replicate (0:Int).toNat (0:Int)),rfl,rfl,(Sub.refl _),(I0 _),(F2.rep (p:=Wp.int.R h) (a:=[.int .i64 0]) (b:=0) ⟨rfl,(by decide)⟩ ((0:Int).toNat)),H⟩) ?_)))
 rintro _ n m y ⟨g,U,i,⟨⟩,⟨⟩,s,J,k,c⟩
 replace c:M6 f m g i=some t:=c
 obtain _|m:=m
 ·cases c
 rw[M6.eq_2]at c
 refine ifB c (λI c=>?_) λI c=>?_
 ·refine ldI c (C0.mono s C) λj K c=>?_
  obtain⟨P,G,c⟩:=B0 c
  refine aI (F1 G (by first|rw[F2.length k,F2.length (show F2 (Wp.int.R y) ([[.int .i64 (IntKind.i64.wrap (0-j))]]:List (List Value)) [(IntKind.i64.wrap (0-j))] from⟨⟨rfl,(I0 _)⟩,trivial⟩)]|exact congrArg (·+1) (F2.length k))) ?_
  exact I2 m ⟨(IntKind.i64.wrap (g-1)),(n++([[.int .i64 (IntKind.i64.wrap (0-j))]]:List (List Value))),(i ++ [(IntKind.i64.wrap (0-j))]),rfl,rfl,s,(I0 _),(F2.append k (show F2 (Wp.int.R y) ([[.int .i64 (IntKind.i64.wrap (0-j))]]:List (List Value)) [(IntKind.i64.wrap (0-j))] from⟨⟨rfl,(I0 _)⟩,trivial⟩)),c⟩
 ·obtain rfl:=oJ c
  try dsimp only[S0,W0]at d
  intro T L x
  obtain⟨D,E,rfl,Q,S,N⟩:=V0.out (r:=Wp.int.toRp) x k
  obtain rfl:=oJ d
  exact⟨D,i.length,E,rfl,(New.from (V0.newPlain (r:=Wp.int) x k (d07 _)) s)⟩
theorem M5(h:Hp)(u:Option Addr)(K w:Nat)(o:N0)(L:Y0.R h [.slice u K w] o)(r:D0)(m:j2 o=some r):
  Tr Tryz.prog 81 #[.slice u K w] h λv f=>∃(F:Option Addr) (J G:Nat),v = .slice F J G/\New C0 h f [.slice F J G] r:=by
 obtain⟨rfl,ar⟩:=Sl.len L
 unfold j2 at m
 refine G2 (args:=[.slice u o.length w]) (fn:=Tryz.f81) rfl ?_
 obtain⟨D,W,m⟩:=B0 m
 refine eX { vars:=[11],boxes:=[],owns:=[0],fuel:=true } (eX (λvs os f=>∃ j t k,vs.tail = [.int .i64 j]/\os = [t]/\Sub h f/\K0 j/\F2 (Wp.int.R f) t k/\M7 o (J1 vs) j k=some D) (eX (λ_ _=>0) (aI (eX Q0 ⟨0,[],([]:D0),rfl,rfl,(Sub.refl _),(by decide),(show F2 (Wp.int.R h) ([]:List (List Value)) ([]:D0) from trivial),W⟩) ?_)))
 rintro _ t p ac ⟨j,aJ,k,⟨⟩,⟨⟩,C,ao,x,b⟩
 replace b:M7 o p j k=some D:=b
 obtain _|p:=p
 ·cases b
 rw[M7.eq_2]at b
 refine ifB b (λaa b=>?_) λaa b=>?_
 ·refine ld b (Y0.mono C L) λM aj A b=>?_
  obtain⟨ah,aw,ak,rfl⟩:=Wp.slice_cell A
  obtain⟨rfl,au⟩:=Sl.len A
  obtain⟨E,X,b⟩:=B0 b
  refine eX { vars:=[17],boxes:=[],owns:=[0],fuel:=true } (eX (λvs os f=>∃ i c g,vs.tail = [.int .i64 i]/\os = [c]/\Sub ac f/\K0 i/\F2 (Wp.int.R f) c g/\C6 M (J1 vs) i g=some E) (eX (λ_ _=>0) (aI (eX Q0 ⟨0,t,k,rfl,rfl,(Sub.refl _),(by decide),x,X⟩) ?_)))
  rintro _ c n z ⟨i,aH,g,⟨⟩,⟨⟩,s,ap,d,a⟩
  replace a:C6 M n i g=some E:=a
  obtain _|n:=n
  ·cases a
  rw[C6.eq_2]at a
  refine ifB a (λY a=>?_) λY a=>?_
  ·refine ldI a (C0.mono s A) λl y a=>?_
   obtain⟨ad,P,a⟩:=B0 a
   obtain rfl:c.length=ad:=(F2.length d).trans (oJ P)
   obtain⟨ax,al,a⟩:=B0 a
   obtain⟨ae,Q,a⟩:=B0 a
   obtain rfl:c.length=ae:=(F2.length d).trans (oJ Q)
   obtain⟨ay,am,a⟩:=B0 a
   obtain⟨aF,V,a⟩:=B0 a
   obtain⟨ai,H,ag⟩:=H00 d V (h0e z)
   refine aI (λq=>(H q).1) ?_
   obtain⟨rfl,ab⟩:=ag
   refine eX _ (aI (λq=>(H q).2) ?_)
   refine trG a (λq=>y05 _ _ ab _ y) λaG a=>?_
   refine ifB a (λZ a=>?_) λZ a=>?_
   ·obtain⟨af,S,a⟩:=B0 a
    obtain rfl:c.length=af:=(F2.length d).trans (oJ S)
    obtain⟨az,an,a⟩:=B0 a
    obtain⟨aA,T,a⟩:=B0 a
    refine aI (by have:=T0 T;have:=F2.length d;omega) ?_
    exact I2 n ⟨(IntKind.i64.wrap (i+1)),(c.take (IntKind.i64.wrap (((c.length:Nat):Int)-1)).toNat),(g.take (IntKind.i64.wrap (((c.length:Nat):Int)-1)).toNat),rfl,rfl,s,(I0 _),(F2.take (IntKind.i64.wrap (((c.length:Nat):Int)-1)).toNat d),a⟩
   ·obtain⟨aB,U,a⟩:=B0 a
    refine aI (F1 U (by first|rw[F2.length d,F2.length (show F2 (Wp.int.R z) ([[.int .i64 l]]:List (List Value)) [l] from⟨⟨rfl,y⟩,trivial⟩)]|exact congrArg (·+1) (F2.length d))) ?_
    exact I2 n ⟨(IntKind.i64.wrap (i+1)),(c++([[.int .i64 l]]:List (List Value))),(g ++ [l]),rfl,rfl,s,(I0 _),(F2.append d (show F2 (Wp.int.R z) ([[.int .i64 l]]:List (List Value)) [l] from⟨⟨rfl,y⟩,trivial⟩)),a⟩
  ·obtain rfl:=oJ a
   try dsimp only[S0,W0]at b
   exact I2 p ⟨(IntKind.i64.wrap (j+1)),c,g,rfl,rfl,(C.trans s),(I0 _),d,b⟩
 ·obtain rfl:=oJ b
  try dsimp only[S0,W0]at m
  intro aE aq I
  obtain⟨N,O,rfl,aC,aD,av⟩:=V0.out (r:=Wp.int.toRp) I x
  obtain rfl:=oJ m
  exact⟨N,k.length,O,rfl,(New.from (V0.newPlain (r:=Wp.int) I x (d07 _)) C)⟩
theorem C8(h:Hp)(m:Option Addr)(x n:Nat)(b:D0)(y:C0.R h [.slice m x n] b)(r:D0)(i:Y5 b=some r):
  Tr Tryz.prog 32 #[.slice m x n] h λv j=>∃(q:Option Addr) (w s:Nat),v = .slice q w s/\New C0 h j [.slice q w s] r:=by
 obtain⟨rfl,I⟩:=Sl.len y
 unfold Y5 at i
 refine G2 (args:=[.slice m b.length n]) (fn:=Tryz.f32) rfl ?_
 obtain⟨p,D,i⟩:=B0 i
 refine eX { vars:=[4],boxes:=[],owns:=[0],fuel:=true } (eX (λvs os j=>∃ c l d,vs.tail = [.int .i64 c]/\os = [l]/\Sub h j/\K0 c/\F2 (Wp.int.R j) l d/\J4 b (J1 vs) c d=some p) (eX (λ_ _=>0) (aI (eX Q0 ⟨(IntKind.i64.wrap (((b.length:Nat):Int)-1)),[],([]:D0),rfl,rfl,(Sub.refl _),(I0 _),(show F2 (Wp.int.R h) ([]:List (List Value)) ([]:D0) from trivial),D⟩) ?_)))
 rintro _ l k u ⟨c,O,d,⟨⟩,⟨⟩,o,F,g,a⟩
 replace a:J4 b k c d=some p:=a
 obtain _|k:=k
 ·cases a
 rw[J4.eq_2]at a
 refine ifB a (λE a=>?_) λE a=>?_
 ·refine ldI a (C0.mono o y) λf G a=>?_
  obtain⟨K,C,a⟩:=B0 a
  refine aI (F1 C (by first|rw[F2.length g,F2.length (show F2 (Wp.int.R u) ([[.int .i64 (IntKind.i64.wrap (0-f))]]:List (List Value)) [(IntKind.i64.wrap (0-f))] from⟨⟨rfl,(I0 _)⟩,trivial⟩)]|exact congrArg (·+1) (F2.length g))) ?_
  exact I2 k ⟨(IntKind.i64.wrap (c-1)),(l++([[.int .i64 (IntKind.i64.wrap (0-f))]]:List (List Value))),(d ++ [(IntKind.i64.wrap (0-f))]),rfl,rfl,o,(I0 _),(F2.append g (show F2 (Wp.int.R u) ([[.int .i64 (IntKind.i64.wrap (0-f))]]:List (List Value)) [(IntKind.i64.wrap (0-f))] from⟨⟨rfl,(I0 _)⟩,trivial⟩)),a⟩
 ·obtain rfl:=oJ a
  try dsimp only[S0,W0]at i
  intro N H t
  obtain⟨z,A,rfl,L,M,J⟩:=V0.out (r:=Wp.int.toRp) t g
  obtain rfl:=oJ i
  exact⟨z,d.length,A,rfl,(New.from (V0.newPlain (r:=Wp.int) t g (d07 _)) o)⟩
theorem k07(h:Hp)(p:Option Addr)(D s:Nat)(m:D0)(n:C0.R h [.slice p D s] m)(r:D0)(f:R8 m=some r):
  Tr Tryz.prog 92 #[.slice p D s] h λv o=>∃(u:Option Addr) (C w:Nat),v = .slice u C w/\New C0 h o [.slice u C w] r:=by
 obtain⟨rfl,ad⟩:=Sl.len n
 unfold R8 at f
 refine G2 (args:=[.slice p m.length s]) (fn:=Tryz.f92) rfl ?_
 obtain⟨t,M,f⟩:=B0 f
 refine eX { vars:=[4],boxes:=[],owns:=[0],fuel:=true } (eX (λvs os o=>∃ i c j,vs.tail = [.int .i64 i]/\os = [c]/\Sub h o/\K0 i/\F2 (Wp.int.R o) c j/\W3 m (J1 vs) i j=some t) (eX (λ_ _=>0) (aI (eX Q0 ⟨0,[],([]:D0),rfl,rfl,(Sub.refl _),(by decide),(show F2 (Wp.int.R h) ([]:List (List Value)) ([]:D0) from trivial),M⟩) ?_)))
 rintro _ c l d ⟨i,ar,j,⟨⟩,⟨⟩,g,W,b,a⟩
 replace a:W3 m l i j=some t:=a
 obtain _|l:=l
 ·cases a
 rw[W3.eq_2]at a
 refine ifB a (λO a=>?_) λO a=>?_
 ·obtain⟨P,G,a⟩:=B0 a
  obtain rfl:c.length=P:=(F2.length b).trans (oJ G)
  obtain⟨ai,V,a⟩:=B0 a
  refine Or.inl (aI (aI (by kernel_rfl) (by kernel_rfl)) ?_)
  refine ldG a (C0.mono g n) λaq ab a=>?_
  obtain⟨am,K,a⟩:=B0 a
  obtain⟨T,x,Q⟩:=H00 b K (h0e d)
  refine aI (λq=>(x q).1) ?_
  obtain⟨rfl,X⟩:=Q
  refine eX _ (aI (λq=>(x q).2) ?_)
  refine ldG a (C0.mono g n) λan Y a=>?_
  obtain⟨ao,L,a⟩:=B0 a
  obtain⟨U,y,S⟩:=H00 b L (h0e d)
  refine aI (λq=>(y q).1) ?_
  obtain⟨rfl,Z⟩:=S
  refine eX _ (aI (λq=>(y q).2) ?_)
  refine ldG a (C0.mono g n) λap aa a=>?_
  refine ifB a (λN a=>?_) λN a=>?_
  ·obtain⟨af,H,a⟩:=B0 a
   refine aI (by have:=T0 H;have:=F2.length b;omega) ?_
   exact I2 l ⟨(IntKind.i64.wrap (i+1)),(c.take (IntKind.i64.wrap (((c.length:Nat):Int)-1)).toNat),(j.take (IntKind.i64.wrap (((c.length:Nat):Int)-1)).toNat),rfl,rfl,g,(I0 _),(F2.take (IntKind.i64.wrap (((c.length:Nat):Int)-1)).toNat b),a⟩
  ·refine ldI a (C0.mono g n) λk A a=>?_
   obtain⟨ag,I,a⟩:=B0 a
   refine aI (F1 I (by first|rw[F2.length b,F2.length (show F2 (Wp.int.R d) ([[.int .i64 k]]:List (List Value)) [k] from⟨⟨rfl,A⟩,trivial⟩)]|exact congrArg (·+1) (F2.length b))) ?_
   exact I2 l ⟨(IntKind.i64.wrap (i+1)),(c++([[.int .i64 k]]:List (List Value))),(j ++ [k]),rfl,rfl,g,(I0 _),(F2.append b (show F2 (Wp.int.R d) ([[.int .i64 k]]:List (List Value)) [k] from⟨⟨rfl,A⟩,trivial⟩)),a⟩
 ·obtain rfl:=oJ a
  try dsimp only[S0,W0]at f
  obtain⟨ah,J,f⟩:=B0 f
  refine aI (F1 J (by first|rw[F2.length (show F2 (Wp.int.R d) ([]:List (List Value)) ([]:D0) from trivial),F2.length b]|exact congrArg (·+0) (F2.length (show F2 (Wp.int.R d) ([]:List (List Value)) ([]:D0) from trivial)))) ?_
  intro al ac z
  obtain⟨E,F,rfl,aj,ak,ae⟩:=V0.out (r:=Wp.int.toRp) z (F2.append (show F2 (Wp.int.R d) ([]:List (List Value)) ([]:D0) from trivial) b)
  obtain rfl:=oJ f
  exact⟨E,((([]:D0)++j)).length,F,rfl,(New.from (V0.newPlain (r:=Wp.int) z (F2.append (show F2 (Wp.int.R d) ([]:List (List Value)) ([]:D0) from trivial) b) (d07 _)) g)⟩
theorem Y9(h:Hp)(f:Option Addr)(p i:Nat)(b:D0)(s:C0.R h [.slice f p i] b)(g:Option Addr)(q j:Nat)(c:D0)(t:C0.R h [.slice g q j] c)(r:D0)(a:U4 b c=some r):
  Tr Tryz.prog 71 #[.slice f p i,.slice g q j] h λv F=>∃(l:Option Addr) (o m:Nat),v = .slice l o m/\New C0 h F [.slice l o m] r:=by
 obtain⟨rfl,O⟩:=Sl.len s
 obtain⟨rfl,P⟩:=Sl.len t
 unfold U4 at a
 refine G2 (args:=[.slice f b.length i,.slice g c.length j]) (fn:=Tryz.f71) rfl ?_
 obtain⟨L,z,d⟩:=Sl.rows (r:=Wp.int.toRp) s
 refine eX L (aI z ?_)
 obtain⟨U,D,a⟩:=B0 a
 refine aI (F1 D (by first|rw[F2.length (show F2 (Wp.int.R h) ([]:List (List Value)) ([]:D0) from trivial),F2.length d]|exact congrArg (·+1) (F2.length (show F2 (Wp.int.R h) ([]:List (List Value)) ([]:D0) from trivial)))) ?_
 obtain⟨M,A,n⟩:=Sl.rows (r:=Wp.int.toRp) t
 refine eX M (aI A ?_)
 obtain⟨V,E,a⟩:=B0 a
 refine aI (F1 E (by first|rw[F2.length (F2.append (show F2 (Wp.int.R h) ([]:List (List Value)) ([]:D0) from trivial) d),F2.length n]|exact congrArg (·+1) (F2.length (F2.append (show F2 (Wp.int.R h) ([]:List (List Value)) ([]:D0) from trivial) d)))) ?_
 refine Or.inl ?_
 intro Y H C
 obtain⟨w,y,rfl,J,K,S⟩:=V0.out (r:=Wp.int.toRp) C (F2.append (F2.append (show F2 (Wp.int.R h) ([]:List (List Value)) ([]:D0) from trivial) d) n)
 refine trM a (k07 _ w (((([]:D0)++b)++c)).length y ((([]:D0)++b)++c) J) ?_
 rintro N a X G ⟨u,T,x,rfl,k⟩
 have W:Sub H G:=k.sub
 have I:=k.r
 obtain⟨rfl,Q⟩:=Sl.len I
 obtain rfl:=oJ a
 exact⟨u,N.length,x,rfl,(New.from k K)⟩
theorem i07(h:Hp)(c:Option Addr)(l d:Nat)(b:D0)(m:C0.R h [.slice c l d] b)(r:D0)(a:o8 b=some r):
  Tr Tryz.prog 78 #[.slice c l d] h λv s=>∃(j:Nat) (k g:Nat),v = .slice (some ⟨j,0,none⟩) k g/\New C0 h s [.slice (some ⟨j,0,none⟩) k g] r:=by
 obtain⟨rfl,w⟩:=Sl.len m
 unfold o8 at a
 refine G2 (args:=[.slice c b.length d]) (fn:=Tryz.f78) rfl ?_
 obtain⟨t,o,f⟩:=Sl.rows (r:=Wp.int.toRp) m
 refine eX t (aI o ?_)
 obtain⟨y,p,a⟩:=B0 a
 refine aI (F1 p (by first|rw[F2.length (show F2 (Wp.int.R h) ([]:List (List Value)) ([]:D0) from trivial),F2.length f]|exact congrArg (·+1) (F2.length (show F2 (Wp.int.R h) ([]:List (List Value)) ([]:D0) from trivial)))) ?_
 intro C u i
 obtain⟨q,n,rfl,z,A,x⟩:=V0.outS (r:=Wp.int.toRp) i (F2.append (show F2 (Wp.int.R h) ([]:List (List Value)) ([]:D0) from trivial) f)
 obtain rfl:=oJ a
 exact⟨q,((([]:D0)++b)).length,n,rfl,(V0.newPlain (r:=Wp.int) i (F2.append (show F2 (Wp.int.R h) ([]:List (List Value)) ([]:D0) from trivial) f) (d07 _))⟩
theorem m0f(h:Hp)(b:Int)(i:K0 b)(c:Int)(j:K0 c)(r:Int)(a:W01 b c=some r):
  Tr Tryz.prog 114 #[.int .i64 b,.int .i64 c] h λv d=>v = .int .i64 r/\d=h:=by
 unfold W01 at a
 refine Tr.forget (G2 (args:=[.int .i64 b,.int .i64 c]) (fn:=Tryz.f114) rfl ?_)
 refine ifB a (λf a=>?_) λf a=>?_
 ·obtain rfl:=oJ a
  exact aI rfl (Sub.refl _)
 ·refine ifB a (λg a=>?_) λg a=>?_
  ·obtain rfl:=oJ a
   exact aI rfl (Sub.refl _)
  ·obtain rfl:=oJ a
   exact aI rfl (Sub.refl _)
theorem s02(h:Hp)(j:Option Addr)(p l:Nat)(d:D0)(s:C0.R h [.slice j p l] d)(k:Option Addr)(q m:Nat)(f:D0)(t:C0.R h [.slice k q m] f)(r:Int)(b:P5 d f=some r):
  Tr Tryz.prog 91 #[.slice j p l,.slice k q m] h λv n=>v = .int .i64 r/\n=h:=by
 obtain⟨rfl,J⟩:=Sl.len s
 obtain⟨rfl,K⟩:=Sl.len t
 unfold P5 at b
 refine Tr.forget (G2 (args:=[.slice j d.length l,.slice k f.length m]) (fn:=Tryz.f91) rfl ?_)
 refine ifB b (λz b=>?_) λz b=>?_
 ·refine ifB b (λC b=>?_) λC b=>?_
  ·obtain rfl:=oJ b
   exact aI rfl (Sub.refl _)
  ·obtain rfl:=oJ b
   exact aI rfl (Sub.refl _)
 ·obtain⟨o,y,b⟩:=B0 b
  refine eX { vars:=[5],boxes:=[],owns:=[],fuel:=true } (eX (λvs os n=>∃ c,vs.tail = [.int .i64 c]/\os = []/\Sub h n/\K0 c/\Y2 d f (J1 vs) c=some o) (eX (λ_ _=>0) (aI (eX Q0 ⟨0,rfl,rfl,(Sub.refl _),(by decide),y⟩) ?_)))
  rintro _ i I ⟨c,⟨⟩,⟨⟩,g,G,a⟩
  replace a:Y2 d f i c=some o:=a
  obtain _|i:=i
  ·cases a
  rw[Y2.eq_2]at a
  refine ifB a (λD a=>?_) λD a=>?_
  ·refine Or.inl (aI (aI (by kernel_rfl) (by kernel_rfl)) ?_)
   refine ldI a (C0.mono g s) λM E a=>?_
   refine ldI a (C0.mono g t) λN F a=>?_
   obtain⟨u,x,a⟩:=B0 a
   refine eX (.int .i64 u) (aI (m0f _ _ E _ F _  x) ?_)
   obtain⟨L,w,a⟩:=B0 a
   have H:K0 u:=T0 w
   refine ifB a (λA a=>?_) λA a=>?_
   ·obtain rfl:=oJ a
    try dsimp only[L1,M1]at b
    obtain rfl:=oJ b
    exact aI rfl g
   ·exact I2 i ⟨(IntKind.i64.wrap (c+1)),rfl,rfl,g,(I0 _),a⟩
  ·obtain rfl:=oJ a
   try dsimp only[S0,W0]at b
   obtain rfl:=oJ b
   exact aI rfl g
theorem l07(h:Hp)(b:Int)(d:K0 b)(c:Int)(f:K0 c)(r:Int)(a:t8 b c=some r):
  Tr Tryz.prog 125 #[.int .i64 b,.int .i64 c] h λv j=>v = .int .i64 r/\j=h:=by
 unfold t8 at a
 refine Tr.forget (G2 (args:=[.int .i64 b,.int .i64 c]) (fn:=Tryz.f125) rfl ?_)
 refine ifB a (λk a=>?_) λk a=>?_
 ·obtain rfl:=oJ a
  exact aI rfl (Sub.refl _)
 ·refine ifB a (λl a=>?_) λl a=>?_
  ·obtain rfl:=oJ a
   exact aI rfl (Sub.refl _)
  ·refine ifB a (λm a=>?_) λm a=>?_
   ·obtain rfl:=oJ a
    exact aI rfl (Sub.refl _)
   ·refine trV a (A7 _ (if(IntKind.i64.wrap (0-b))>b then(IntKind.i64.wrap (0-b))else b) (i8 (I0 _) d) (if(IntKind.i64.wrap (0-c))>c then(IntKind.i64.wrap (0-c))else c) (i8 (I0 _) f)) λo a=>?_
    obtain⟨t,g,a⟩:=B0 a
    have q:K0 o:=T0 g
    refine ifB a (λn a=>?_) λn a=>?_
    ·obtain rfl:=oJ a
     exact aI rfl (Sub.refl _)
    ·refine trV a (A7 _ _ f _ d) λp a=>?_
     obtain⟨u,i,a⟩:=B0 a
     have s:K0 p:=T0 i
     obtain rfl:=oJ a
     exact aI rfl (Sub.refl _)
theorem t02(h:Hp)(j:Option Addr)(p l:Nat)(d:D0)(s:C0.R h [.slice j p l] d)(k:Option Addr)(q m:Nat)(f:D0)(t:C0.R h [.slice k q m] f)(r:Int)(b:N6 d f=some r):
  Tr Tryz.prog 104 #[.slice j p l,.slice k q m] h λv n=>v = .int .i64 r/\n=h:=by
 obtain⟨rfl,G⟩:=Sl.len s
 obtain⟨rfl,H⟩:=Sl.len t
 unfold N6 at b
 refine Tr.forget (G2 (args:=[.slice j d.length l,.slice k f.length m]) (fn:=Tryz.f104) rfl ?_)
 refine trV b (A7 _ _ (q0g G) _ (q0g H)) λI b=>?_
 obtain⟨O,x,b⟩:=B0 b
 have K:K0 I:=T0 x
 refine ifB b (λC b=>?_) λC b=>?_
 ·obtain rfl:=oJ b
  exact aI rfl (Sub.refl _)
 ·obtain⟨o,z,b⟩:=B0 b
  refine eX { vars:=[18],boxes:=[],owns:=[],fuel:=true } (eX (λvs os n=>∃ c,vs.tail = [.int .i64 c]/\os = []/\Sub h n/\K0 c/\H4 d f (J1 vs) c=some o) (eX (λ_ _=>0) (aI (eX Q0 ⟨0,rfl,rfl,(Sub.refl _),(by decide),z⟩) ?_)))
  rintro _ i M ⟨c,⟨⟩,⟨⟩,g,J,a⟩
  replace a:H4 d f i c=some o:=a
  obtain _|i:=i
  ·cases a
  rw[H4.eq_2]at a
  refine ifB a (λD a=>?_) λD a=>?_
  ·refine Or.inl (aI (aI (by kernel_rfl) (by kernel_rfl)) ?_)
   refine ldI a (C0.mono g s) λQ F a=>?_
   refine ldI a (C0.mono g t) λP E a=>?_
   obtain⟨u,y,a⟩:=B0 a
   refine eX (.int .i64 u) (aI (l07 _ _ F _ E _  y) ?_)
   obtain⟨N,w,a⟩:=B0 a
   have L:K0 u:=T0 w
   refine ifB a (λA a=>?_) λA a=>?_
   ·obtain rfl:=oJ a
    try dsimp only[L1,M1]at b
    obtain rfl:=oJ b
    exact aI rfl g
   ·exact I2 i ⟨(IntKind.i64.wrap (c+1)),rfl,rfl,g,(I0 _),a⟩
  ·obtain rfl:=oJ a
   try dsimp only[S0,W0]at b
   obtain rfl:=oJ b
   exact aI rfl g
theorem J0f(h:Hp)(c:List Value)(f:j0)(x:U1.R h c f)(d:List Value)(g:J0)(z:E2.R h d g)(r:Bool)(a:x02 f g=some r):
  Tr Tryz.prog 118 #[.agg c.toArray,.agg d.toArray] h λv k=>v = .bool r/\k=h:=by
 obtain⟨p,b,i,D,j,s,rfl,rfl,l,A,y⟩:=M0 x
 obtain⟨rfl,C⟩:=Sl.len y
 obtain⟨t,u,w,rfl,rfl,m,n,o⟩:=M2 z
 unfold x02 at a
 dsimp only at a
 refine Tr.forget (G2 (args:=[.agg #[.int .i64 p,.int .i64 b,.slice i s.length j],.agg #[.int .i64 t,.int .i64 u,.int .i64 w]]) (fn:=Tryz.f118) rfl ?_)
 refine trV a (c5 _ _ m 0 (by decide) (IntKind.i64.wrap (b-1)) (I0 _)) λE a=>?_
 refine trG a (λq=>c5 _ _ o 0 (by decide) (IntKind.i64.wrap (b-1)) (I0 _)) λF a=>?_
 refine trG a (λq=>c5 _ _ n 1 (by decide) _ l) λG a=>?_
 obtain rfl:=oJ a
 exact aI rfl (Sub.refl _)
theorem g04(h:Hp)(p:List Value)(z:J0)(T:E2.R h p z)(q:List Value)(A:J0)(U:E2.R h q A)(r:Int)(b:c8 z A=some r):
  Tr Tryz.prog 119 #[.agg p.toArray,.agg q.toArray] h λv n=>v = .int .i64 r/\n=h:=by
 obtain⟨d,f,g,rfl,rfl,s,t,u⟩:=M2 T
 obtain⟨i,j,k,rfl,rfl,w,x,y⟩:=M2 U
 unfold c8 at b
 dsimp only at b
 refine Tr.forget (G2 (args:=[.agg #[.int .i64 d,.int .i64 f,.int .i64 g],.agg #[.int .i64 i,.int .i64 j,.int .i64 k]]) (fn:=Tryz.f119) rfl ?_)
 obtain⟨o,O,b⟩:=B0 b
 refine eX { vars:=[7],boxes:=[],owns:=[],fuel:=true } (eX (λvs os n=>∃ l,vs.tail = [.int .i64 l]/\os = []/\Sub h n/\K0 l/\j7 d f g i j k (J1 vs) l=some o) (eX (λ_ _=>0) (aI (eX Q0 ⟨0,rfl,rfl,(Sub.refl _),(by decide),O⟩) ?_)))
 rintro _ m ai ⟨l,⟨⟩,⟨⟩,c,ad,a⟩
 replace a:j7 d f g i j k m l=some o:=a
 obtain _|m:=m
 ·cases a
 rw[j7.eq_2]at a
 refine ifB a (λQ a=>?_) λQ a=>?_
 ·refine Or.inl (aI (aI (by kernel_rfl) (by kernel_rfl)) ?_)
  obtain⟨ak,L,a⟩:=B0 a
  obtain⟨D,aa,H,W⟩:=A4 (F2.up (r:=Wp.int.toRp) c (show F2 (Wp.int.R h) ([[.int .i64 d],[.int .i64 f],[.int .i64 g]]:List (List Value)) [d,f,g] from⟨⟨rfl,s⟩,⟨⟨rfl,t⟩,⟨⟨rfl,u⟩,trivial⟩⟩⟩)) L
  refine aI D ?_
  obtain⟨rfl,af⟩:=W
  refine eX _ (aI H ?_)
  obtain⟨al,M,a⟩:=B0 a
  obtain⟨E,ab,I,X⟩:=A4 (F2.up (r:=Wp.int.toRp) c (show F2 (Wp.int.R h) ([[.int .i64 i],[.int .i64 j],[.int .i64 k]]:List (List Value)) [i,j,k] from⟨⟨rfl,w⟩,⟨⟨rfl,x⟩,⟨⟨rfl,y⟩,trivial⟩⟩⟩)) M
  refine aI E ?_
  obtain⟨rfl,ag⟩:=X
  refine eX _ (aI I ?_)
  refine ifB a (λS a=>?_) λS a=>?_
  ·obtain rfl:=oJ a
   try dsimp only[L1,M1]at b
   obtain rfl:=oJ b
   exact aI rfl c
  ·refine Or.inl (aI (aI (by kernel_rfl) (by kernel_rfl)) ?_)
   obtain⟨am,N,a⟩:=B0 a
   obtain⟨F,ac,J,Y⟩:=A4 (F2.up (r:=Wp.int.toRp) c (show F2 (Wp.int.R h) ([[.int .i64 d],[.int .i64 f],[.int .i64 g]]:List (List Value)) [d,f,g] from⟨⟨rfl,s⟩,⟨⟨rfl,t⟩,⟨⟨rfl,u⟩,trivial⟩⟩⟩)) N
   refine aI F ?_
   obtain⟨rfl,ah⟩:=Y
   refine eX _ (aI J ?_)
   obtain⟨aj,K,a⟩:=B0 a
   obtain⟨C,Z,G,V⟩:=A4 (F2.up (r:=Wp.int.toRp) c (show F2 (Wp.int.R h) ([[.int .i64 i],[.int .i64 j],[.int .i64 k]]:List (List Value)) [i,j,k] from⟨⟨rfl,w⟩,⟨⟨rfl,x⟩,⟨⟨rfl,y⟩,trivial⟩⟩⟩)) K
   refine aI C ?_
   obtain⟨rfl,ae⟩:=V
   refine eX _ (aI G ?_)
   refine ifB a (λP a=>?_) λP a=>?_
   ·obtain rfl:=oJ a
    try dsimp only[L1,M1]at b
    obtain rfl:=oJ b
    exact aI rfl c
   ·exact I2 m ⟨(IntKind.i64.wrap (l+1)),rfl,rfl,c,(I0 _),a⟩
 ·obtain rfl:=oJ a
  try dsimp only[S0,W0]at b
  obtain rfl:=oJ b
  exact aI rfl c
theorem Y7(h:Hp)(n:List Value)(w:j0)(Q:U1.R h n w)(r:Bool)(b:l5 w=some r):
  Tr Tryz.prog 96 #[.agg n.toArray] h λv i=>v = .bool r/\i=h:=by
 obtain⟨j,k,x,ad,y,l,rfl,rfl,s,t,f⟩:=M0 Q
 obtain⟨rfl,ac⟩:=Sl.len f
 unfold l5 at b
 dsimp only at b
 refine Tr.forget (G2 (args:=[.agg #[.int .i64 j,.int .i64 k,.slice x l.length y]]) (fn:=Tryz.f96) rfl ?_)
 obtain⟨m,E,b⟩:=B0 b
 refine eX { vars:=[3],boxes:=[],owns:=[],fuel:=true } (eX (λvs os i=>∃ d,vs.tail = [.int .i64 d]/\os = []/\Sub h i/\K0 d/\D7 l j k (J1 vs) d=some m) (eX (λ_ _=>0) (aI (eX Q0 ⟨0,rfl,rfl,(Sub.refl _),(by decide),E⟩) ?_)))
 rintro _ g u ⟨d,⟨⟩,⟨⟩,c,aa,a⟩
 replace a:D7 l j k g d=some m:=a
 obtain _|g:=g
 ·cases a
 rw[D7.eq_2]at a
 refine ifB a (λG a=>?_) λG a=>?_
 ·refine Or.inl (aI (aI (by kernel_rfl) (by kernel_rfl)) ?_)
  refine ld a (G1.mono c f) λah X S a=>?_
  obtain⟨ai,aj,ak,rfl,rfl,H,I,J⟩:=M2 S
  try dsimp only at a
  obtain⟨W,A,a⟩:=B0 a
  refine eX (.bool W) (aI (J0f _ _ _ (H0 s t (G1.mono c f)) _ _ (Y1 H I J) _  A) ?_)
  obtain⟨al,C,a⟩:=B0 a
  obtain⟨Y,o,T⟩:=Sl.getG (r:=E2.toRp) (G1.mono c f) C (by decide) (e0l u)
  refine aI (λq=>(o q).1) ?_
  obtain⟨am,an,ao,rfl,rfl,K,L,M⟩:=M2 T
  try dsimp only at a
  refine eX _ (aI (λq=>(o q).2) ?_)
  obtain⟨ap,D,a⟩:=B0 a
  obtain⟨Z,p,U⟩:=Sl.getG (r:=E2.toRp) (G1.mono c f) D (by decide) (e0l u)
  refine aI (λq=>(p q).1) ?_
  obtain⟨aq,ar,au,rfl,rfl,N,O,P⟩:=M2 U
  try dsimp only at a
  refine eX _ (aI (λq=>(p q).2) ?_)
  refine trG a (λq=>g04 _ _ _ (Y1 K L M) _ _ (Y1 N O P)) λV a=>?_
  obtain⟨ae,z,a⟩:=B0 a
  have ab:K0 V:=T0 z
  refine ifB a (λF a=>?_) λF a=>?_
  ·obtain rfl:=oJ a
   try dsimp only[L1,M1]at b
   obtain rfl:=oJ b
   exact aI rfl c
  ·exact I2 g ⟨(IntKind.i64.wrap (d+1)),rfl,rfl,c,(I0 _),a⟩
 ·obtain rfl:=oJ a
  try dsimp only[S0,W0]at b
  refine trV b (c5 _ _ s 1 (by decide) 3 (by decide)) λaf b=>?_
  refine trG b (λq=>c5 _ _ t 1 (by decide) 40 (by decide)) λag b=>?_
  obtain rfl:=oJ b
  exact aI rfl c
theorem l02(h:Hp)(c:List Value)(d:j0)(n:U1.R h c d)(b:Int)(k:K0 b)(r:Bool)(a:s6 d b=some r):
  Tr Tryz.prog 126 #[.agg c.toArray,.int .i64 b] h λv j=>v = .bool r/\j=h:=by
 obtain⟨l,f,g,t,i,m,rfl,rfl,p,q,o⟩:=M0 n
 obtain⟨rfl,s⟩:=Sl.len o
 unfold s6 at a
 dsimp only at a
 refine Tr.forget (G2 (args:=[.agg #[.int .i64 l,.int .i64 f,.slice g m.length i],.int .i64 b]) (fn:=Tryz.f126) rfl ?_)
 refine trV a (A3 _ _ k 0 (by decide) (IntKind.i64.wrap (f-1)) (I0 _)) λu a=>?_
 obtain rfl:=oJ a
 exact aI rfl (Sub.refl _)
theorem i08(h:Hp)(d:List Value)(i:j0)(z:U1.R h d i)(f:List Value)(j:J0)(A:E2.R h f j)(r:Bool)(a:M8 i j=some r):
  Tr Tryz.prog 131 #[.agg d.toArray,.agg f.toArray] h λv m=>v = .bool r/\m=h:=by
 obtain⟨s,t,k,D,l,u,rfl,rfl,b,g,c⟩:=M0 z
 obtain⟨rfl,C⟩:=Sl.len c
 obtain⟨w,x,y,rfl,rfl,n,o,p⟩:=M2 A
 unfold M8 at a
 dsimp only at a
 refine Tr.forget (G2 (args:=[.agg #[.int .i64 s,.int .i64 t,.slice k u.length l],.agg #[.int .i64 w,.int .i64 x,.int .i64 y]]) (fn:=Tryz.f131) rfl ?_)
 refine trV a (l02 _ _ _ (H0 b g c) _ n) λE a=>?_
 refine trG a (λq=>l02 _ _ _ (H0 b g c) _ p) λF a=>?_
 refine trG a (λq=>A3 _ _ o 1 (by decide) _ b) λG a=>?_
 obtain rfl:=oJ a
 exact aI rfl (Sub.refl _)
theorem h04(h:Hp)(b:List Value)(d:J0)(C:E2.R h b d)(c:List Value)(f:J0)(D:E2.R h c f)(r:Int)(a:j9 d f=some r):
  Tr Tryz.prog 132 #[.agg b.toArray,.agg c.toArray] h λv k=>v = .int .i64 r/\k=h:=by
 obtain⟨u,w,x,rfl,rfl,n,o,p⟩:=M2 C
 obtain⟨y,z,A,rfl,rfl,q,s,t⟩:=M2 D
 unfold j9 at a
 dsimp only at a
 refine Tr.forget (G2 (args:=[.agg #[.int .i64 u,.int .i64 w,.int .i64 x],.agg #[.int .i64 y,.int .i64 z,.int .i64 A]]) (fn:=Tryz.f132) rfl ?_)
 refine trV a (A7 _ _ n _ q) λE a=>?_
 obtain⟨K,g,a⟩:=B0 a
 have H:K0 E:=T0 g
 refine ifB a (λl a=>?_) λl a=>?_
 ·obtain rfl:=oJ a
  exact aI rfl (Sub.refl _)
 ·refine trV a (A7 _ _ o _ s) λF a=>?_
  obtain⟨L,i,a⟩:=B0 a
  have I:K0 F:=T0 i
  refine ifB a (λm a=>?_) λm a=>?_
  ·obtain rfl:=oJ a
   exact aI rfl (Sub.refl _)
  ·refine trV a (A7 _ _ p _ t) λG a=>?_
   obtain⟨M,j,a⟩:=B0 a
   have J:K0 G:=T0 j
   obtain rfl:=oJ a
   exact aI rfl (Sub.refl _)
theorem a02(h:Hp)(n:List Value)(x:j0)(M:U1.R h n x)(r:Bool)(b:T7 x=some r):
  Tr Tryz.prog 108 #[.agg n.toArray] h λv i=>v = .bool r/\i=h:=by
 obtain⟨j,k,y,X,z,l,rfl,rfl,p,s,g⟩:=M0 M
 obtain⟨rfl,W⟩:=Sl.len g
 unfold T7 at b
 dsimp only at b
 refine Tr.forget (G2 (args:=[.agg #[.int .i64 j,.int .i64 k,.slice y l.length z]]) (fn:=Tryz.f108) rfl ?_)
 refine trV b (A3 _ _ p 1 (by decide) 3 (by decide)) λZ b=>?_
 refine trG b (λq=>A3 _ _ s 1 (by decide) 40 (by decide)) λae b=>?_
 refine ifB b (λG b=>?_) λG b=>?_
 ·obtain rfl:=oJ b
  exact aI rfl (Sub.refl _)
 ·obtain⟨m,E,b⟩:=B0 b
  refine eX { vars:=[24],boxes:=[],owns:=[],fuel:=true } (eX (λvs os i=>∃ d,vs.tail = [.int .i64 d]/\os = []/\Sub h i/\K0 d/\E7 l j k (J1 vs) d=some m) (eX (λ_ _=>0) (aI (eX Q0 ⟨0,rfl,rfl,(Sub.refl _),(by decide),E⟩) ?_)))
  rintro _ f L ⟨d,⟨⟩,⟨⟩,c,U,a⟩
  replace a:E7 l j k f d=some m:=a
  obtain _|f:=f
  ·cases a
  rw[E7.eq_2]at a
  refine ifB a (λH a=>?_) λH a=>?_
  ·refine ld a (G1.mono c g) λaf T O a=>?_
   obtain⟨ag,ah,ai,rfl,rfl,t,u,w⟩:=M2 O
   try dsimp only at a
   refine Or.inl (aI (aI (by kernel_rfl) (by kernel_rfl)) ?_)
   obtain⟨P,C,a⟩:=B0 a
   refine eX (.bool P) (aI (i08 _ _ _ (H0 p s (G1.mono c g)) _ _ (Y1 t u w) _  C) ?_)
   obtain⟨aa,D,a⟩:=B0 a
   obtain⟨S,o,N⟩:=Sl.getG (r:=E2.toRp) (G1.mono c g) D (by decide) (e0l L)
   refine aI (λq=>(o q).1) ?_
   obtain⟨ab,ac,ad,rfl,rfl,I,J,K⟩:=M2 N
   try dsimp only at a
   refine eX _ (aI (λq=>(o q).2) ?_)
   refine trG a (λq=>h04 _ _ _ (Y1 I J K) _ _ (Y1 t u w)) λQ a=>?_
   obtain⟨Y,A,a⟩:=B0 a
   have V:K0 Q:=T0 A
   refine ifB a (λF a=>?_) λF a=>?_
   ·obtain rfl:=oJ a
    try dsimp only[L1,M1]at b
    obtain rfl:=oJ b
    exact aI rfl c
   ·exact I2 f ⟨(IntKind.i64.wrap (d+1)),rfl,rfl,c,(I0 _),a⟩
  ·obtain rfl:=oJ a
   try dsimp only[S0,W0]at b
   obtain rfl:=oJ b
   exact aI rfl c
theorem m02(h:Hp)(x:Option Addr)(I y:Nat)(u:D0)(l:C0.R h [.slice x I y] u)(b:Int)(i:K0 b)(r:D0)(g:D8 u b=some r):
  Tr Tryz.prog 136 #[.slice x I y,.int .i64 b] h λv t=>∃(A:Option Addr) (H C:Nat),v = .slice A H C/\C0.R t [.slice A H C] r/\Sub h t:=by
 obtain⟨rfl,an⟩:=Sl.len l
 unfold D8 at g
 refine G2 (args:=[.slice x u.length y,.int .i64 b]) (fn:=Tryz.f136) rfl ?_
 obtain⟨z,X,g⟩:=B0 g
 refine eX { vars:=[6,7],boxes:=[],owns:=[0],fuel:=true } (eX (λvs os t=>∃ w k n j,vs.tail = [.bool w,.int .i64 k]/\os = [n]/\Sub h t/\K0 k/\F2 (Wp.int.R t) n j/\O4 u b (J1 vs) w k j=some z) (eX (λ_ _=>0) (aI (eX Q0 ⟨false,0,[],([]:D0),rfl,rfl,(Sub.refl _),(by decide),(show F2 (Wp.int.R h) ([]:List (List Value)) ([]:D0) from trivial),X⟩) ?_)))
 rintro _ _ n m d ⟨w,k,aE,j,⟨⟩,⟨⟩,f,ah,c,a⟩
 replace a:O4 u b m w k j=some z:=a
 obtain _|m:=m
 ·cases a
 rw[O4.eq_2]at a
 refine ifB a (λab a=>?_) λab a=>?_
 ·refine ldI a (C0.mono f l) λaD ak a=>?_
  refine ifB a (λac a=>?_) λac a=>?_
  ·refine ldI a (C0.mono f l) λaB ai a=>?_
   refine ifB a (λY a=>?_) λY a=>?_
   ·obtain⟨aq,P,a⟩:=B0 a
    refine aI (F1 P (by first|rw[F2.length c,F2.length (show F2 (Wp.int.R d) ([[.int .i64 b]]:List (List Value)) [b] from⟨⟨rfl,i⟩,trivial⟩)]|exact congrArg (·+1) (F2.length c))) ?_
    refine ldI a (C0.mono f l) λo D a=>?_
    obtain⟨ar,Q,a⟩:=B0 a
    refine aI (F1 Q (by first|rw[F2.length (F2.append c (show F2 (Wp.int.R d) ([[.int .i64 b]]:List (List Value)) [b] from⟨⟨rfl,i⟩,trivial⟩)),F2.length (show F2 (Wp.int.R d) ([[.int .i64 o]]:List (List Value)) [o] from⟨⟨rfl,D⟩,trivial⟩)]|exact congrArg (·+1) (F2.length (F2.append c (show F2 (Wp.int.R d) ([[.int .i64 b]]:List (List Value)) [b] from⟨⟨rfl,i⟩,trivial⟩))))) ?_
    exact I2 m ⟨true,(IntKind.i64.wrap (k+1)),((n++([[.int .i64 b]]:List (List Value)))++([[.int .i64 o]]:List (List Value))),((j ++ [b]) ++ [o]),rfl,rfl,f,(I0 _),(F2.append (F2.append c (show F2 (Wp.int.R d) ([[.int .i64 b]]:List (List Value)) [b] from⟨⟨rfl,i⟩,trivial⟩)) (show F2 (Wp.int.R d) ([[.int .i64 o]]:List (List Value)) [o] from⟨⟨rfl,D⟩,trivial⟩)),a⟩
   ·refine ldI a (C0.mono f l) λp E a=>?_
    obtain⟨au,S,a⟩:=B0 a
    refine aI (F1 S (by first|rw[F2.length c,F2.length (show F2 (Wp.int.R d) ([[.int .i64 p]]:List (List Value)) [p] from⟨⟨rfl,E⟩,trivial⟩)]|exact congrArg (·+1) (F2.length c))) ?_
    exact I2 m ⟨true,(IntKind.i64.wrap (k+1)),(n++([[.int .i64 p]]:List (List Value))),(j ++ [p]),rfl,rfl,f,(I0 _),(F2.append c (show F2 (Wp.int.R d) ([[.int .i64 p]]:List (List Value)) [p] from⟨⟨rfl,E⟩,trivial⟩)),a⟩
  ·refine ldI a (C0.mono f l) λaC aj a=>?_
   refine ifB a (λZ a=>?_) λZ a=>?_
   ·obtain⟨av,T,a⟩:=B0 a
    refine aI (F1 T (by first|rw[F2.length c,F2.length (show F2 (Wp.int.R d) ([[.int .i64 b]]:List (List Value)) [b] from⟨⟨rfl,i⟩,trivial⟩)]|exact congrArg (·+1) (F2.length c))) ?_
    refine ldI a (C0.mono f l) λq F a=>?_
    obtain⟨aw,U,a⟩:=B0 a
    refine aI (F1 U (by first|rw[F2.length (F2.append c (show F2 (Wp.int.R d) ([[.int .i64 b]]:List (List Value)) [b] from⟨⟨rfl,i⟩,trivial⟩)),F2.length (show F2 (Wp.int.R d) ([[.int .i64 q]]:List (List Value)) [q] from⟨⟨rfl,F⟩,trivial⟩)]|exact congrArg (·+1) (F2.length (F2.append c (show F2 (Wp.int.R d) ([[.int .i64 b]]:List (List Value)) [b] from⟨⟨rfl,i⟩,trivial⟩))))) ?_
    exact I2 m ⟨true,(IntKind.i64.wrap (k+1)),((n++([[.int .i64 b]]:List (List Value)))++([[.int .i64 q]]:List (List Value))),((j ++ [b]) ++ [q]),rfl,rfl,f,(I0 _),(F2.append (F2.append c (show F2 (Wp.int.R d) ([[.int .i64 b]]:List (List Value)) [b] from⟨⟨rfl,i⟩,trivial⟩)) (show F2 (Wp.int.R d) ([[.int .i64 q]]:List (List Value)) [q] from⟨⟨rfl,F⟩,trivial⟩)),a⟩
   ·refine ldI a (C0.mono f l) λs G a=>?_
    obtain⟨ax,V,a⟩:=B0 a
    refine aI (F1 V (by first|rw[F2.length c,F2.length (show F2 (Wp.int.R d) ([[.int .i64 s]]:List (List Value)) [s] from⟨⟨rfl,G⟩,trivial⟩)]|exact congrArg (·+1) (F2.length c))) ?_
    exact I2 m ⟨w,(IntKind.i64.wrap (k+1)),(n++([[.int .i64 s]]:List (List Value))),(j ++ [s]),rfl,rfl,f,(I0 _),(F2.append c (show F2 (Wp.int.R d) ([[.int .i64 s]]:List (List Value)) [s] from⟨⟨rfl,G⟩,trivial⟩)),a⟩
 ·obtain rfl:=oJ a
  try dsimp only[S0,W0]at g
  refine ifB g (λaa g=>?_) λaa g=>?_
  ·obtain⟨ay,W,g⟩:=B0 g
   refine aI (F1 W (by first|rw[F2.length c,F2.length (show F2 (Wp.int.R d) ([[.int .i64 b]]:List (List Value)) [b] from⟨⟨rfl,i⟩,trivial⟩)]|exact congrArg (·+1) (F2.length c))) ?_
   intro az al N
   obtain⟨J,L,rfl,ad,af,ao⟩:=V0.out (r:=Wp.int.toRp) N (F2.append c (show F2 (Wp.int.R d) ([[.int .i64 b]]:List (List Value)) [b] from⟨⟨rfl,i⟩,trivial⟩))
   obtain rfl:=oJ g
   exact⟨J,((j ++ [b])).length,L,rfl,ad,(f.trans af)⟩
  ·intro aA am O
   obtain⟨K,M,rfl,ae,ag,ap⟩:=V0.out (r:=Wp.int.toRp) O c
   obtain rfl:=oJ g
   exact⟨K,j.length,M,rfl,ae,(f.trans ag)⟩
theorem g03(h:Hp)(j:Option Addr)(n k:Nat)(f:D0)(o:C0.R h [.slice j n k] f)(c:Int)(t:K0 c)(r:Bool)(b:p9 f c=some r):
  Tr Tryz.prog 122 #[.slice j n k,.int .i64 c] h λv l=>v = .bool r/\l=h:=by
 obtain⟨rfl,y⟩:=Sl.len o
 unfold p9 at b
 refine Tr.forget (G2 (args:=[.slice j f.length k,.int .i64 c]) (fn:=Tryz.f122) rfl ?_)
 obtain⟨m,p,b⟩:=B0 b
 refine eX { vars:=[5],boxes:=[],owns:=[],fuel:=true } (eX (λvs os l=>∃ d,vs.tail = [.int .i64 d]/\os = []/\Sub h l/\K0 d/\N8 f c (J1 vs) d=some m) (eX (λ_ _=>0) (aI (eX Q0 ⟨0,rfl,rfl,(Sub.refl _),(by decide),p⟩) ?_)))
 rintro _ g x ⟨d,⟨⟩,⟨⟩,i,u,a⟩
 replace a:N8 f c g d=some m:=a
 obtain _|g:=g
 ·cases a
 rw[N8.eq_2]at a
 refine ifB a (λq a=>?_) λq a=>?_
 ·refine ldI a (C0.mono i o) λz w a=>?_
  refine ifB a (λs a=>?_) λs a=>?_
  ·obtain rfl:=oJ a
   try dsimp only[L1,M1]at b
   obtain rfl:=oJ b
   exact aI rfl i
  ·exact I2 g ⟨(IntKind.i64.wrap (d+1)),rfl,rfl,i,(I0 _),a⟩
 ·obtain rfl:=oJ a
  try dsimp only[S0,W0]at b
  obtain rfl:=oJ b
  exact aI rfl i
theorem e0c(h:Hp)(w:List Value)(z:j0)(ab:U1.R h w z)(g:Int)(ak:K0 g)(i:Int)(al:K0 i)(r:D0)(f:J00 z g i=some r):
  Tr Tryz.prog 137 #[.agg w.toArray,.int .i64 g,.int .i64 i] h λv m=>∃(t:Option Addr) (y u:Nat),v = .slice t y u/\C0.R m [.slice t y u] r/\Sub h m:=by
 obtain⟨Z,aa,I,aB,N,p,rfl,rfl,ai,aj,A⟩:=M0 ab
 obtain⟨rfl,av⟩:=Sl.len A
 unfold J00 at f
 dsimp only at f
 refine G2 (args:=[.agg #[.int .i64 Z,.int .i64 aa,.slice I p.length N],.int .i64 g,.int .i64 i]) (fn:=Tryz.f137) rfl ?_
 obtain⟨s,T,f⟩:=B0 f
 refine eX { vars:=[7,8],boxes:=[],owns:=[],fuel:=true,pubs:=[7,10] } (eX (λvs os m=>∃(k:Option Addr) (o l:Nat) (d:D0) (b:Int),vs.tail = [.slice k o l,.int .i64 b]/\os = []/\Sub h m/\C0.R m [.slice k o l] d/\K0 b/\E4 p i g (J1 vs) d b=some s) (eX (λ_ _=>0) ?_))
 intro aF aq f3
 obtain⟨M,S,rfl,ad,ag,aA⟩:=V0.out (r:=Wp.int.toRp) f3 (show F2 (Wp.int.R h) ([]:List (List Value)) ([]:D0) from trivial)
 refine aI (eX Q0 ⟨M,(([]:D0)).length,S,([]:D0),0,rfl,rfl,ag,ad,(by decide),T⟩) ?_
 rintro _ _ c au ⟨k,o,l,d,b,⟨⟩,⟨⟩,j,n,am,a⟩
 replace a:E4 p i g c d b=some s:=a
 obtain _|c:=c
 ·cases a
 rw[E4.eq_2]at a
 obtain⟨rfl,aw⟩:=Sl.len n
 refine ifB a (λU a=>?_) λU a=>?_
 ·refine ld a (G1.mono j A) λaK ah ac a=>?_
  obtain⟨aL,aM,aN,rfl,rfl,x,an,Y⟩:=M2 ac
  try dsimp only at a
  refine ifB a (λV a=>?_) λV a=>?_
  ·refine trM a (m02 _ _ _ _ _ n _ Y) ?_
   rintro F a aG ao ⟨J,aC,O,rfl,q,E⟩
   obtain⟨rfl,ax⟩:=Sl.len q
   refine ifB a (λW a=>?_) λW a=>?_
   ·refine trM a (m02 _ _ _ _ _ q _ x) ?_
    rintro G a aH ap ⟨K,aD,P,rfl,C,ae⟩
    obtain⟨rfl,ay⟩:=Sl.len C
    exact I2 c ⟨K,G.length,P,G,(IntKind.i64.wrap (b+1)),rfl,rfl,((j.trans E).trans ae),C,(I0 _),a⟩
   ·exact I2 c ⟨J,F.length,O,F,(IntKind.i64.wrap (b+1)),rfl,rfl,(j.trans E),q,(I0 _),a⟩
  ·refine ifB a (λX a=>?_) λX a=>?_
   ·refine trM a (m02 _ _ _ _ _ n _ x) ?_
    rintro H a aJ ar ⟨L,aE,Q,rfl,D,af⟩
    obtain⟨rfl,az⟩:=Sl.len D
    exact I2 c ⟨L,H.length,Q,H,(IntKind.i64.wrap (b+1)),rfl,rfl,(j.trans af),D,(I0 _),a⟩
   ·exact I2 c ⟨k,d.length,l,d,(IntKind.i64.wrap (b+1)),rfl,rfl,j,n,(I0 _),a⟩
 ·obtain rfl:=oJ a
  try dsimp only[S0,W0]at f
  obtain rfl:=oJ f
  exact⟨k,d.length,l,rfl,n,j⟩
theorem d0b(h:Hp)(d:List Value)(f:j0)(x:U1.R h d f)(b:Int)(q:K0 b)(c:Int)(s:K0 c)(r:Int)(a:o00 f b c=some r):
  Tr Tryz.prog 124 #[.agg d.toArray,.int .i64 b,.int .i64 c] h λv m=>v = .int .i64 r/\m=h:=by
 obtain⟨t,u,k,F,l,w,rfl,rfl,o,p,g⟩:=M0 x
 obtain⟨rfl,D⟩:=Sl.len g
 unfold o00 at a
 dsimp only at a
 refine Tr.forget (G2 (args:=[.agg #[.int .i64 t,.int .i64 u,.slice k w.length l],.int .i64 b,.int .i64 c]) (fn:=Tryz.f124) rfl ?_)
 refine trM a (e0c _ _ _ (H0 o p g) _ q _ s) ?_
 rintro I a H C ⟨y,G,z,rfl,i,j⟩
 obtain⟨rfl,E⟩:=Sl.len i
 refine ifB a (λn a=>?_) λn a=>?_
 ·obtain rfl:=oJ a
  exact aI rfl j
 ·refine ldI a i λJ A a=>?_
  obtain rfl:=oJ a
  exact aI rfl j
theorem j07(h:Hp)(t:List Value)(x:j0)(H:U1.R h t x)(r:Bool)(c:g00 x=some r):
  Tr Tryz.prog 100 #[.agg t.toArray] h λv g=>v = .bool r/\g=h:=by
 obtain⟨n,o,y,X,z,i,rfl,rfl,u,w,j⟩:=M0 H
 obtain⟨rfl,W⟩:=Sl.len j
 unfold g00 at c
 dsimp only at c
 refine Tr.forget (G2 (args:=[.agg #[.int .i64 n,.int .i64 o,.slice y i.length z]]) (fn:=Tryz.f100) rfl ?_)
 obtain⟨p,A,c⟩:=B0 c
 refine eX { vars:=[3],boxes:=[],owns:=[],fuel:=true } (eX (λvs os g=>∃ d,vs.tail = [.int .i64 d]/\os = []/\Sub h g/\K0 d/\s5 i n o (J1 vs) d=some p) (eX (λ_ _=>0) (aI (eX Q0 ⟨0,rfl,rfl,(Sub.refl _),(by decide),A⟩) ?_)))
 rintro _ m G ⟨d,⟨⟩,⟨⟩,f,M,b⟩
 replace b:s5 i n o m d=some p:=b
 obtain _|m:=m
 ·cases b
 rw[s5.eq_2]at b
 refine trG b (λq=>Y7 _ _ _ (H0 u w (G1.mono f j))) λah b=>?_
 refine ifB b (λF b=>?_) λF b=>?_
 ·obtain⟨s,C,b⟩:=B0 b
  refine eX { vars:=[4],boxes:=[],owns:=[],fuel:=true } (eX (λvs os g=>∃ u8,vs.tail = [.int .i64 u8]/\os = []/\Sub G g/\K0 u8/\T6 d i (J1 vs) u8=some s) (eX (λ_ _=>0) (aI (eX Q0 ⟨0,rfl,rfl,(Sub.refl _),(by decide),C⟩) ?_)))
  rintro _ l V ⟨u8,⟨⟩,⟨⟩,k,N,a⟩
  replace a:T6 d i l u8=some s:=a
  obtain _|l:=l
  ·cases a
  rw[T6.eq_2]at a
  refine ifB a (λD a=>?_) λD a=>?_
  ·refine ld a (G1.mono (f.trans k) j) λY K I a=>?_
   obtain⟨Z,aa,ab,rfl,rfl,O,P,Q⟩:=M2 I
   try dsimp only at a
   refine ld a (G1.mono (f.trans k) j) λac L J a=>?_
   obtain⟨ad,ae,af,rfl,rfl,S,T,U⟩:=M2 J
   try dsimp only at a
   refine ifB a (λE a=>?_) λE a=>?_
   ·obtain rfl:=oJ a
    try dsimp only[L1,M1]at b
    obtain rfl:=oJ b
    try dsimp only[L1,M1]at c
    obtain rfl:=oJ c
    exact aI rfl (f.trans k)
   ·exact I2 l ⟨(IntKind.i64.wrap (u8+1)),rfl,rfl,k,(I0 _),a⟩
  ·obtain rfl:=oJ a
   try dsimp only[S0,W0]at b
   exact I2 m ⟨(IntKind.i64.wrap (d+1)),rfl,rfl,(f.trans k),(I0 _),b⟩
 ·obtain rfl:=oJ b
  try dsimp only[S0,W0]at c
  refine trV c (Y7 _ _ _ (H0 u w (G1.mono f j))) λag c=>?_
  obtain rfl:=oJ c
  exact aI rfl f
theorem f0c(h:Hp)(w:List Value)(D:j0)(W:U1.R h w D)(i:Int)(ad:K0 i)(j:Int)(ae:K0 j)(r:D0)(c:K00 D i j=some r):
  Tr Tryz.prog 146 #[.agg w.toArray,.int .i64 i,.int .i64 j] h λv o=>∃(t:Option Addr) (C u:Nat),v = .slice t C u/\New C0 h o [.slice t C u] r:=by
 obtain⟨U,V,H,an,J,q,rfl,rfl,ab,ac,G⟩:=M0 W
 obtain⟨rfl,ak⟩:=Sl.len G
 unfold K00 at c
 dsimp only at c
 refine G2 (args:=[.agg #[.int .i64 U,.int .i64 V,.slice H q.length J],.int .i64 i,.int .i64 j]) (fn:=Tryz.f146) rfl ?_
 obtain⟨s,P,c⟩:=B0 c
 refine eX { vars:=[14],boxes:=[],owns:=[0],fuel:=true } (eX (λvs os o=>∃ d k f,vs.tail = [.int .i64 d]/\os = [k]/\Sub h o/\K0 d/\F2 (Wp.int.R o) k f/\W4 q j i (J1 vs) d f=some s) (eX (λ_ _=>0) (aI (eX Q0 ⟨0,[],([]:D0),rfl,rfl,(Sub.refl _),(by decide),(show F2 (Wp.int.R h) ([]:List (List Value)) ([]:D0) from trivial),P⟩) ?_)))
 rintro _ k g p ⟨d,aC,f,⟨⟩,⟨⟩,n,af,b,a⟩
 replace a:W4 q j i g d f=some s:=a
 obtain _|g:=g
 ·cases a
 rw[W4.eq_2]at a
 refine ifB a (λS a=>?_) λS a=>?_
 ·refine ld a (G1.mono n G) λaA Z X a=>?_
  obtain⟨l,aB,m,rfl,rfl,z,ag,A⟩:=M2 X
  try dsimp only at a
  refine ifB a (λT a=>?_) λT a=>?_
  ·obtain⟨aq,O,a⟩:=B0 a
   refine aI (F1 O (by first|rw[F2.length b,F2.length (show F2 (Wp.int.R p) ([[.int .i64 m]]:List (List Value)) [m] from⟨⟨rfl,A⟩,trivial⟩)]|exact congrArg (·+1) (F2.length b))) ?_
   exact I2 g ⟨(IntKind.i64.wrap (d+1)),(k++([[.int .i64 m]]:List (List Value))),(f ++ [m]),rfl,rfl,n,(I0 _),(F2.append b (show F2 (Wp.int.R p) ([[.int .i64 m]]:List (List Value)) [m] from⟨⟨rfl,A⟩,trivial⟩)),a⟩
  ·refine ifB a (λQ a=>?_) λQ a=>?_
   ·obtain⟨ao,M,a⟩:=B0 a
    refine aI (F1 M (by first|rw[F2.length b,F2.length (show F2 (Wp.int.R p) ([[.int .i64 l]]:List (List Value)) [l] from⟨⟨rfl,z⟩,trivial⟩)]|exact congrArg (·+1) (F2.length b))) ?_
    exact I2 g ⟨(IntKind.i64.wrap (d+1)),(k++([[.int .i64 l]]:List (List Value))),(f ++ [l]),rfl,rfl,n,(I0 _),(F2.append b (show F2 (Wp.int.R p) ([[.int .i64 l]]:List (List Value)) [l] from⟨⟨rfl,z⟩,trivial⟩)),a⟩
   ·exact I2 g ⟨(IntKind.i64.wrap (d+1)),k,f,rfl,rfl,n,(I0 _),b,a⟩
 ·obtain rfl:=oJ a
  try dsimp only[S0,W0]at c
  refine Or.inl ?_
  intro ax ah L
  obtain⟨ap,N,c⟩:=B0 c
  refine Tr.mono (L0l _ L b (T0 N)) ?_
  rintro _ ai ⟨rfl,ay,x,E⟩
  obtain⟨Y,aa,rfl,ar,av,al⟩:=V0.out (r:=Wp.int.toRp) x E
  refine Tr.mono (M0l _ x E) ?_
  rintro _ aj ⟨az,y,F⟩
  obtain⟨I,K,rfl,au,aw,am⟩:=V0.out (r:=Wp.int.toRp) y F
  obtain rfl:=oJ c
  exact⟨I,((k03 eqI (f06 N5 f))).length,K,rfl,(New.from (V0.newPlain (r:=Wp.int) y F (d07 _)) n)⟩
theorem e0b(h:Hp)(d:List Value)(f:j0)(z:U1.R h d f)(b:Int)(s:K0 b)(c:Int)(t:K0 c)(r:Int)(a:p00 f b c=some r):
  Tr Tryz.prog 143 #[.agg d.toArray,.int .i64 b,.int .i64 c] h λv n=>v = .int .i64 r/\n=h:=by
 obtain⟨w,x,l,G,m,y,rfl,rfl,p,q,g⟩:=M0 z
 obtain⟨rfl,E⟩:=Sl.len g
 unfold p00 at a
 dsimp only at a
 refine Tr.forget (G2 (args:=[.agg #[.int .i64 w,.int .i64 x,.slice l y.length m],.int .i64 b,.int .i64 c]) (fn:=Tryz.f143) rfl ?_)
 refine trM a (f0c _ _ _ (H0 p q g) _ s _ t) ?_
 rintro J a I u ⟨A,H,C,rfl,k⟩
 have j:Sub h u:=k.sub
 have i:=k.r
 obtain⟨rfl,F⟩:=Sl.len i
 refine ifB a (λo a=>?_) λo a=>?_
 ·obtain rfl:=oJ a
  exact aI rfl j
 ·refine ldI a i λK D a=>?_
  obtain rfl:=oJ a
  exact aI rfl j
theorem a04(h:Hp)(q:List Value)(s:j0)(T:U1.R h q s)(r:Bool)(c:i9 s=some r):
  Tr Tryz.prog 87 #[.agg q.toArray] h λv g=>v = .bool r/\g=h:=by
 obtain⟨P,Q,z,an,A,n,rfl,rfl,M,N,l⟩:=M0 T
 obtain⟨rfl,al⟩:=Sl.len l
 unfold i9 at c
 dsimp only at c
 refine Tr.forget (G2 (args:=[.agg #[.int .i64 P,.int .i64 Q,.slice z n.length A]]) (fn:=Tryz.f87) rfl ?_)
 refine trV c (a02 _ _ _ (H0 M N l)) λao c=>?_
 refine ifB c (λJ c=>?_) λJ c=>?_
 ·obtain rfl:=oJ c
  exact aI rfl (Sub.refl _)
 ·obtain⟨p,G,c⟩:=B0 c
  refine eX { vars:=[13],boxes:=[],owns:=[],fuel:=true } (eX (λvs os g=>∃ f,vs.tail = [.int .i64 f]/\os = []/\Sub h g/\K0 f/\V6 n (J1 vs) f=some p) (eX (λ_ _=>0) (aI (eX Q0 ⟨0,rfl,rfl,(Sub.refl _),(by decide),G⟩) ?_)))
  rintro _ k O ⟨f,⟨⟩,⟨⟩,i,ad,a⟩
  replace a:V6 n k f=some p:=a
  obtain _|k:=k
  ·cases a
  rw[V6.eq_2]at a
  refine ifB a (λK a=>?_) λK a=>?_
  ·refine ld a (G1.mono i l) λav aa V a=>?_
   obtain⟨u,w,x,rfl,rfl,ah,ai,aj⟩:=M2 V
   try dsimp only at a
   obtain⟨y,E,a⟩:=B0 a
   obtain⟨S,W,C,D⟩:=Sl.cutI (r:=E2.toRp) (G1.mono i l) E
   refine aI S (eX W (aI C ?_))
   intro X L _
   obtain⟨Y,ab,rfl,t⟩:=D X L
   have am:=(Sl.len t).2
   obtain⟨o,F,a⟩:=B0 a
   refine eX { vars:=[24],boxes:=[],owns:=[],fuel:=true } (eX (λvs os g=>∃ d,vs.tail = [.int .i64 d]/\os = []/\Sub O g/\K0 d/\U6 y w u x (J1 vs) d=some o) (eX (λ_ _=>0) (aI (eX Q0 ⟨0,rfl,rfl,(Sub.refl _),(by decide),F⟩) ?_)))
   rintro _ j ak ⟨d,⟨⟩,⟨⟩,m,ac,b⟩
   replace b:U6 y w u x j d=some o:=b
   obtain _|j:=j
   ·cases b
   rw[U6.eq_2]at b
   refine ifB b (λH b=>?_) λH b=>?_
   ·refine ld b (G1.mono m t) λap Z U b=>?_
    obtain⟨aq,ar,au,rfl,rfl,ae,af,ag⟩:=M2 U
    try dsimp only at b
    refine ifB b (λI b=>?_) λI b=>?_
    ·obtain rfl:=oJ b
     try dsimp only[L1,M1]at a
     obtain rfl:=oJ a
     try dsimp only[L1,M1]at c
     obtain rfl:=oJ c
     exact aI rfl (i.trans m)
    ·exact I2 j ⟨(IntKind.i64.wrap (d+1)),rfl,rfl,m,(I0 _),b⟩
   ·obtain rfl:=oJ b
    try dsimp only[S0,W0]at a
    exact I2 k ⟨(IntKind.i64.wrap (f+1)),rfl,rfl,(i.trans m),(I0 _),a⟩
  ·obtain rfl:=oJ a
   try dsimp only[S0,W0]at c
   obtain rfl:=oJ c
   exact aI rfl i
theorem A9(h:Hp)(d:List Value)(g:j0)(x:U1.R h d g)(r:j0)(a:r6 g=some r):
  Tr Tryz.prog 94 #[.agg d.toArray] h λv t=>∃(c:List Value),v = .agg c.toArray/\New U1 h t c r:=by
 obtain⟨i,j,m,D,o,k,rfl,rfl,u,w,l⟩:=M0 x
 obtain⟨rfl,A⟩:=Sl.len l
 unfold r6 at a
 dsimp only at a
 refine G2 (args:=[.agg #[.int .i64 i,.int .i64 j,.slice m k.length o]]) (fn:=Tryz.f94) rfl ?_
 refine Or.inr (Or.inr (Or.inl (aI (aI (by kernel_rfl) (by kernel_rfl)) ?_)))
 refine Or.inr ?_
 refine Or.inr ?_
 refine Or.inr ?_
 refine Or.inr ?_
 refine Or.inl (eX 0 (aI (aI rfl rfl) ?_))
 refine aT ?_
 obtain⟨y,q,b⟩:=Sl.rows (r:=E2.toRp) l
 refine eX y (aI q ?_)
 obtain⟨E,s,a⟩:=B0 a
 refine aI (F1 s (by first|rw[F2.length (show F2 (E2.R h) ([]:List (List Value)) ([]:E1) from trivial),F2.length b]|exact congrArg (·+1) (F2.length (show F2 (E2.R h) ([]:List (List Value)) ([]:E1) from trivial)))) ?_
 refine aT ?_
 refine aT ?_
 refine aT ?_
 intro H z f
 obtain⟨n,p,rfl,F,G,C⟩:=V0.out (r:=E2.toRp) f (F2.append (show F2 (E2.R h) ([]:List (List Value)) ([]:E1) from trivial) b)
 obtain rfl:=oJ a
 exact⟨([.int .i64 i,.int .i64 j,.slice n ((([]:E1)++k)).length p]),rfl,(New.pair (New.int u) (New.pair (New.int w) (V0.newPlain (r:=E2) f (F2.append (show F2 (E2.R h) ([]:List (List Value)) ([]:E1) from trivial) b) (j08 _))))⟩
theorem n02(h:Hp)(K:Option Addr)(ag L:Nat)(H:E1)(s:G1.R h [.slice K ag L] H)(P:List Value)(ah:J0)(aH:E2.R h P ah)(r:E1)(i:E8 H ah=some r):
  Tr Tryz.prog 115 #[.slice K ag L,.agg P.toArray] h λv J=>∃(N:Option Addr) (af O:Nat),v = .slice N af O/\New G1 h J [.slice N af O] r:=by
 obtain⟨rfl,aY⟩:=Sl.len s
 obtain⟨b,c,d,rfl,rfl,j,k,l⟩:=M2 aH
 unfold E8 at i
 dsimp only at i
 refine G2 (args:=[.slice K H.length L,.agg #[.int .i64 b,.int .i64 c,.int .i64 d]]) (fn:=Tryz.f115) rfl ?_
 obtain⟨M,ay,i⟩:=B0 i
 refine eX { vars:=[6,7],boxes:=[],owns:=[0],fuel:=true } (eX (λvs os J=>∃ I o q n,vs.tail = [.bool I,.int .i64 o]/\os = [q]/\Sub h J/\K0 o/\F2 (E2.R J) q n/\P4 H b c d (J1 vs) I o n=some M) (eX (λ_ _=>0) (aI (eX Q0 ⟨false,0,[],([]:E1),rfl,rfl,(Sub.refl _),(by decide),(show F2 (E2.R h) ([]:List (List Value)) ([]:E1) from trivial),ay⟩) ?_)))
 rintro _ _ q p g ⟨I,o,bt,n,⟨⟩,⟨⟩,m,aU,f,a⟩
 replace a:P4 H b c d p I o n=some M:=a
 obtain _|p:=p
 ·cases a
 rw[P4.eq_2]at a
 refine ifB a (λaD a=>?_) λaD a=>?_
 ·refine Or.inl (aI (aI (by kernel_rfl) (by kernel_rfl)) ?_)
  refine ld a (G1.mono m s) λbp aS aN a=>?_
  obtain⟨bq,br,bs,rfl,rfl,aE,aF,aG⟩:=M2 aN
  try dsimp only at a
  obtain⟨ai,ax,a⟩:=B0 a
  refine eX (.int .i64 ai) (aI (g04 _ _ _ (Y1 j k l) _ _ (Y1 aE aF aG) _  ax) ?_)
  obtain⟨a1,an,a⟩:=B0 a
  have aV:K0 ai:=T0 an
  refine ifB a (λaz a=>?_) λaz a=>?_
  ·refine ifB a (λaA a=>?_) λaA a=>?_
   ·obtain⟨a2,ao,a⟩:=B0 a
    refine aI (F1 ao (by first|rw[F2.length f,F2.length (show F2 (E2.R g) ([[.int .i64 b,.int .i64 c,.int .i64 d]]:List (List Value)) [(b,c,d)] from⟨(Y1 j k l),trivial⟩)]|exact congrArg (·+1) (F2.length f))) ?_
    refine ld a (G1.mono m s) λbl aO aJ a=>?_
    obtain⟨t,u,w,rfl,rfl,T,U,V⟩:=M2 aJ
    try dsimp only at a
    obtain⟨a3,ap,a⟩:=B0 a
    refine aI (F1 ap (by first|rw[F2.length (F2.append f (show F2 (E2.R g) ([[.int .i64 b,.int .i64 c,.int .i64 d]]:List (List Value)) [(b,c,d)] from⟨(Y1 j k l),trivial⟩)),F2.length (show F2 (E2.R g) ([[.int .i64 t,.int .i64 u,.int .i64 w]]:List (List Value)) [(t,u,w)] from⟨(Y1 T U V),trivial⟩)]|exact congrArg (·+1) (F2.length (F2.append f (show F2 (E2.R g) ([[.int .i64 b,.int .i64 c,.int .i64 d]]:List (List Value)) [(b,c,d)] from⟨(Y1 j k l),trivial⟩))))) ?_
    exact I2 p ⟨true,(IntKind.i64.wrap (o+1)),((q++([[.int .i64 b,.int .i64 c,.int .i64 d]]:List (List Value)))++([[.int .i64 t,.int .i64 u,.int .i64 w]]:List (List Value))),((n ++ [(b,c,d)]) ++ [(t,u,w)]),rfl,rfl,m,(I0 _),(F2.append (F2.append f (show F2 (E2.R g) ([[.int .i64 b,.int .i64 c,.int .i64 d]]:List (List Value)) [(b,c,d)] from⟨(Y1 j k l),trivial⟩)) (show F2 (E2.R g) ([[.int .i64 t,.int .i64 u,.int .i64 w]]:List (List Value)) [(t,u,w)] from⟨(Y1 T U V),trivial⟩)),a⟩
   ·refine ld a (G1.mono m s) λbm aP aK a=>?_
    obtain⟨x,y,z,rfl,rfl,W,X,Y⟩:=M2 aK
    try dsimp only at a
    obtain⟨a4,aq,a⟩:=B0 a
    refine aI (F1 aq (by first|rw[F2.length f,F2.length (show F2 (E2.R g) ([[.int .i64 x,.int .i64 y,.int .i64 z]]:List (List Value)) [(x,y,z)] from⟨(Y1 W X Y),trivial⟩)]|exact congrArg (·+1) (F2.length f))) ?_
    exact I2 p ⟨true,(IntKind.i64.wrap (o+1)),(q++([[.int .i64 x,.int .i64 y,.int .i64 z]]:List (List Value))),(n ++ [(x,y,z)]),rfl,rfl,m,(I0 _),(F2.append f (show F2 (E2.R g) ([[.int .i64 x,.int .i64 y,.int .i64 z]]:List (List Value)) [(x,y,z)] from⟨(Y1 W X Y),trivial⟩)),a⟩
  ·refine ifB a (λaB a=>?_) λaB a=>?_
   ·obtain⟨ba,ar,a⟩:=B0 a
    refine aI (F1 ar (by first|rw[F2.length f,F2.length (show F2 (E2.R g) ([[.int .i64 b,.int .i64 c,.int .i64 d]]:List (List Value)) [(b,c,d)] from⟨(Y1 j k l),trivial⟩)]|exact congrArg (·+1) (F2.length f))) ?_
    refine ld a (G1.mono m s) λbn aQ aL a=>?_
    obtain⟨A,C,D,rfl,rfl,Z,aa,ab⟩:=M2 aL
    try dsimp only at a
    obtain⟨bb,au,a⟩:=B0 a
    refine aI (F1 au (by first|rw[F2.length (F2.append f (show F2 (E2.R g) ([[.int .i64 b,.int .i64 c,.int .i64 d]]:List (List Value)) [(b,c,d)] from⟨(Y1 j k l),trivial⟩)),F2.length (show F2 (E2.R g) ([[.int .i64 A,.int .i64 C,.int .i64 D]]:List (List Value)) [(A,C,D)] from⟨(Y1 Z aa ab),trivial⟩)]|exact congrArg (·+1) (F2.length (F2.append f (show F2 (E2.R g) ([[.int .i64 b,.int .i64 c,.int .i64 d]]:List (List Value)) [(b,c,d)] from⟨(Y1 j k l),trivial⟩))))) ?_
    exact I2 p ⟨true,(IntKind.i64.wrap (o+1)),((q++([[.int .i64 b,.int .i64 c,.int .i64 d]]:List (List Value)))++([[.int .i64 A,.int .i64 C,.int .i64 D]]:List (List Value))),((n ++ [(b,c,d)]) ++ [(A,C,D)]),rfl,rfl,m,(I0 _),(F2.append (F2.append f (show F2 (E2.R g) ([[.int .i64 b,.int .i64 c,.int .i64 d]]:List (List Value)) [(b,c,d)] from⟨(Y1 j k l),trivial⟩)) (show F2 (E2.R g) ([[.int .i64 A,.int .i64 C,.int .i64 D]]:List (List Value)) [(A,C,D)] from⟨(Y1 Z aa ab),trivial⟩)),a⟩
   ·refine ld a (G1.mono m s) λbo aR aM a=>?_
    obtain⟨E,F,G,rfl,rfl,ac,ad,ae⟩:=M2 aM
    try dsimp only at a
    obtain⟨bc,av,a⟩:=B0 a
    refine aI (F1 av (by first|rw[F2.length f,F2.length (show F2 (E2.R g) ([[.int .i64 E,.int .i64 F,.int .i64 G]]:List (List Value)) [(E,F,G)] from⟨(Y1 ac ad ae),trivial⟩)]|exact congrArg (·+1) (F2.length f))) ?_
    exact I2 p ⟨I,(IntKind.i64.wrap (o+1)),(q++([[.int .i64 E,.int .i64 F,.int .i64 G]]:List (List Value))),(n ++ [(E,F,G)]),rfl,rfl,m,(I0 _),(F2.append f (show F2 (E2.R g) ([[.int .i64 E,.int .i64 F,.int .i64 G]]:List (List Value)) [(E,F,G)] from⟨(Y1 ac ad ae),trivial⟩)),a⟩
 ·obtain rfl:=oJ a
  try dsimp only[S0,W0]at i
  refine ifB i (λaC i=>?_) λaC i=>?_
  ·obtain⟨be,aw,i⟩:=B0 i
   refine aI (F1 aw (by first|rw[F2.length f,F2.length (show F2 (E2.R g) ([[.int .i64 b,.int .i64 c,.int .i64 d]]:List (List Value)) [(b,c,d)] from⟨(Y1 j k l),trivial⟩)]|exact congrArg (·+1) (F2.length f))) ?_
   intro bj aW Q
   obtain⟨aj,al,rfl,bf,bh,aZ⟩:=V0.out (r:=E2.toRp) Q (F2.append f (show F2 (E2.R g) ([[.int .i64 b,.int .i64 c,.int .i64 d]]:List (List Value)) [(b,c,d)] from⟨(Y1 j k l),trivial⟩))
   obtain rfl:=oJ i
   exact⟨aj,((n ++ [(b,c,d)])).length,al,rfl,(New.from (V0.newPlain (r:=E2) Q (F2.append f (show F2 (E2.R g) ([[.int .i64 b,.int .i64 c,.int .i64 d]]:List (List Value)) [(b,c,d)] from⟨(Y1 j k l),trivial⟩)) (j08 _)) m)⟩
  ·intro bk aX S
   obtain⟨ak,am,rfl,bg,bi,a0⟩:=V0.out (r:=E2.toRp) S f
   obtain rfl:=oJ i
   exact⟨ak,n.length,am,rfl,(New.from (V0.newPlain (r:=E2) S f (j08 _)) m)⟩
theorem Y0c(h:Hp)(n:List Value)(o:j0)(C:U1.R h n o)(i:Int)(L:K0 i)(r:Int)(g:i00 o i=some r):
  Tr Tryz.prog 121 #[.agg n.toArray,.int .i64 i] h λv k=>v = .int .i64 r/\k=h:=by
 obtain⟨z,A,p,Z,q,l,rfl,rfl,J,K,j⟩:=M0 C
 obtain⟨rfl,Y⟩:=Sl.len j
 unfold i00 at g
 dsimp only at g
 refine Tr.forget (G2 (args:=[.agg #[.int .i64 z,.int .i64 A,.slice p l.length q],.int .i64 i]) (fn:=Tryz.f121) rfl ?_)
 obtain⟨m,s,g⟩:=B0 g
 refine eX { vars:=[5,6],boxes:=[],owns:=[],fuel:=true } (eX (λvs os k=>∃ b c,vs.tail = [.int .i64 b,.int .i64 c]/\os = []/\Sub h k/\K0 b/\K0 c/\P3 l i (J1 vs) b c=some m) (eX (λ_ _=>0) (aI (eX Q0 ⟨0,0,rfl,rfl,(Sub.refl _),(by decide),(by decide),s⟩) ?_)))
 rintro _ _ f X ⟨b,c,⟨⟩,⟨⟩,d,y,M,a⟩
 replace a:P3 l i f b c=some m:=a
 obtain _|f:=f
 ·cases a
 rw[P3.eq_2]at a
 refine ifB a (λw a=>?_) λw a=>?_
 ·refine ld a (G1.mono d j) λae H E a=>?_
  obtain⟨af,ag,ah,rfl,rfl,Q,S,T⟩:=M2 E
  try dsimp only at a
  refine ifB a (λx a=>?_) λx a=>?_
  ·refine ld a (G1.mono d j) λai I F a=>?_
   obtain⟨aj,ak,al,rfl,rfl,U,V,W⟩:=M2 F
   try dsimp only at a
   refine ifB a (λt a=>?_) λt a=>?_
   ·exact I2 f ⟨(IntKind.i64.wrap ((IntKind.i64.wrap (b+1))+1)),(IntKind.i64.wrap (c+1)),rfl,rfl,d,(I0 _),(I0 _),a⟩
   ·exact I2 f ⟨(IntKind.i64.wrap (b+1)),(IntKind.i64.wrap (c+1)),rfl,rfl,d,(I0 _),(I0 _),a⟩
  ·refine ld a (G1.mono d j) λaa G D a=>?_
   obtain⟨ab,ac,ad,rfl,rfl,N,O,P⟩:=M2 D
   try dsimp only at a
   refine ifB a (λu a=>?_) λu a=>?_
   ·exact I2 f ⟨(IntKind.i64.wrap (b+1)),(IntKind.i64.wrap (c+1)),rfl,rfl,d,(I0 _),(I0 _),a⟩
   ·exact I2 f ⟨b,(IntKind.i64.wrap (c+1)),rfl,rfl,d,y,(I0 _),a⟩
 ·obtain rfl:=oJ a
  try dsimp only[S0,W0]at g
  obtain rfl:=oJ g
  exact aI rfl d
theorem I09(h:Hp)(l:List Value)(n:j0)(G:U1.R h l n)(m:List Value)(o:j0)(H:U1.R h m o)(r:Bool)(b:L9 n o=some r):
  Tr Tryz.prog 101 #[.agg l.toArray,.agg m.toArray] h λv g=>v = .bool r/\g=h:=by
 obtain⟨C,D,s,ah,u,i,rfl,rfl,T,U,p⟩:=M0 G
 obtain⟨rfl,af⟩:=Sl.len p
 obtain⟨E,F,t,ai,w,j,rfl,rfl,V,W,q⟩:=M0 H
 obtain⟨rfl,ag⟩:=Sl.len q
 unfold L9 at b
 dsimp only at b
 refine Tr.forget (G2 (args:=[.agg #[.int .i64 C,.int .i64 D,.slice s i.length u],.agg #[.int .i64 E,.int .i64 F,.slice t j.length w]]) (fn:=Tryz.f101) rfl ?_)
 refine ifB b (λy b=>?_) λy b=>?_
 ·obtain rfl:=oJ b
  exact aI rfl (Sub.refl _)
 ·obtain⟨k,x,b⟩:=B0 b
  refine eX { vars:=[5],boxes:=[],owns:=[],fuel:=true } (eX (λvs os g=>∃ c,vs.tail = [.int .i64 c]/\os = []/\Sub h g/\K0 c/\C5 i j (J1 vs) c=some k) (eX (λ_ _=>0) (aI (eX Q0 ⟨0,rfl,rfl,(Sub.refl _),(by decide),x⟩) ?_)))
  rintro _ f ae ⟨c,⟨⟩,⟨⟩,d,X,a⟩
  replace a:C5 i j f c=some k:=a
  obtain _|f:=f
  ·cases a
  rw[C5.eq_2]at a
  refine ifB a (λz a=>?_) λz a=>?_
  ·refine Or.inl (aI (aI (by kernel_rfl) (by kernel_rfl)) ?_)
   refine ld a (G1.mono d p) λaj Q I a=>?_
   obtain⟨K,L,M,rfl,rfl,Y,Z,aa⟩:=M2 I
   try dsimp only at a
   refine ld a (G1.mono d q) λak S J a=>?_
   obtain⟨N,O,P,rfl,rfl,ab,ac,ad⟩:=M2 J
   try dsimp only at a
   refine eX (!eqE (K,L,M) (N,O,P)) (aI (t0i _ _ _ rfl _ _ _ _ _ _) ?_)
   refine ifB a (λA a=>?_) λA a=>?_
   ·obtain rfl:=oJ a
    try dsimp only[L1,M1]at b
    obtain rfl:=oJ b
    exact aI rfl d
   ·exact I2 f ⟨(IntKind.i64.wrap (c+1)),rfl,rfl,d,(I0 _),a⟩
  ·obtain rfl:=oJ a
   try dsimp only[S0,W0]at b
   obtain rfl:=oJ b
   exact aI rfl d
theorem J09(h:Hp)(K:List Value)(N:j0)(ay:U1.R h K N)(g:Int)(L:K0 g)(r:D0)(b:M9 N g=some r):
  Tr Tryz.prog 120 #[.agg K.toArray,.int .i64 g] h λv f=>∃(I:Option Addr) (M J:Nat),v = .slice I M J/\C0.R f [.slice I M J] r/\Sub h f:=by
 obtain⟨ax,O,W,a0,ac,u,rfl,rfl,au,av,D⟩:=M0 ay
 obtain⟨rfl,aR⟩:=Sl.len D
 unfold M9 at b
 dsimp only at b
 refine G2 (args:=[.agg #[.int .i64 ax,.int .i64 O,.slice W u.length ac],.int .i64 g]) (fn:=Tryz.f120) rfl ?_
 refine trV b (Y7 _ _ _ (H0 au av D)) λbf b=>?_
 refine trG b (λq=>c5 _ _ L 0 (by decide) (IntKind.i64.wrap (O-1)) (I0 _)) λbg b=>?_
 refine ifB b (λap b=>?_) λap b=>?_
 ·intro bc aP aj
  obtain⟨ab,ah,rfl,aB,aF,aZ⟩:=V0.out (r:=Wp.int.toRp) aj (show F2 (Wp.int.R h) ([]:List (List Value)) ([]:D0) from trivial)
  obtain rfl:=oJ b
  exact⟨ab,(([]:D0)).length,ah,rfl,aB,aF⟩
 ·obtain⟨G,ak,b⟩:=B0 b
  refine eX { vars:=[5,6],boxes:=[],owns:=[],fuel:=true,pubs:=[5,22] } (eX (λvs os f=>∃(o:Option Addr) (A s:Nat) (l:D0) (n:Int),vs.tail = [.slice o A s,.int .i64 n]/\os = []/\Sub h f/\C0.R f [.slice o A s] l/\K0 n/\D5 u (J1 vs) l n=some G) (eX (λ_ _=>0) ?_))
  intro be aQ ai
  obtain⟨aa,ag,rfl,aA,aE,aY⟩:=V0.out (r:=Wp.int.toRp) ai (show F2 (Wp.int.R h) ([[.int .i64 g]]:List (List Value)) [g] from⟨⟨rfl,L⟩,trivial⟩)
  refine aI (eX Q0 ⟨aa,([g]).length,ag,[g],0,rfl,rfl,aE,aA,(by decide),ak⟩) ?_
  rintro _ _ w aw ⟨o,A,s,l,n,⟨⟩,⟨⟩,F,E,aH,c⟩
  replace c:D5 u w l n=some G:=c
  obtain _|w:=w
  ·cases c
  rw[D5.eq_2]at c
  obtain⟨rfl,aS⟩:=Sl.len E
  refine ifB c (λam c=>?_) λam c=>?_
  ·obtain⟨H,al,c⟩:=B0 c
   refine eX { vars:=[5,7],boxes:=[],owns:=[],fuel:=true } (eX (λvs os f=>∃ p C t i d,vs.tail = [.slice p C t,.int .i64 d]/\os = []/\Sub aw f/\C0.R f [.slice p C t] i/\K0 d/\O3 u (J1 vs) i d=some H) (eX (λ_ _=>0) (aI (eX Q0 ⟨o,l.length,s,l,0,rfl,rfl,(Sub.refl _),E,(by decide),al⟩) ?_)))
   rintro _ _ j aL ⟨p,C,t,i,d,⟨⟩,⟨⟩,m,k,aJ,a⟩
   replace a:O3 u j i d=some H:=a
   obtain _|j:=j
   ·cases a
   rw[O3.eq_2]at a
   obtain⟨rfl,aU⟩:=Sl.len k
   refine ifB a (λan a=>?_) λan a=>?_
   ·refine ld a (G1.mono (F.trans m) D) λbh aG az a=>?_
    obtain⟨bi,bj,bk,rfl,rfl,y,aK,z⟩:=M2 az
    try dsimp only at a
    refine trV a (g03 _ _ _ _ _ k _ y) λbl a=>?_
    refine ifB a (λao a=>?_) λao a=>?_
    ·refine trM a (m02 _ _ _ _ _ k _ z) ?_
     rintro T a a4 aM ⟨X,a1,ad,rfl,x,S⟩
     obtain⟨rfl,aV⟩:=Sl.len x
     refine trV a (g03 _ _ _ _ _ x _ z) λbm a=>?_
     refine ifB a (λaq a=>?_) λaq a=>?_
     ·refine trM a (m02 _ _ _ _ _ x _ y) ?_
      rintro U a ba aN ⟨Y,a2,ae,rfl,P,aC⟩
      obtain⟨rfl,aW⟩:=Sl.len P
      exact I2 j ⟨Y,U.length,ae,U,(IntKind.i64.wrap (d+1)),rfl,rfl,((m.trans S).trans aC),P,(I0 _),a⟩
     ·exact I2 j ⟨X,T.length,ad,T,(IntKind.i64.wrap (d+1)),rfl,rfl,(m.trans S),x,(I0 _),a⟩
    ·refine trV a (g03 _ _ _ _ _ k _ z) λbn a=>?_
     refine ifB a (λar a=>?_) λar a=>?_
     ·refine trM a (m02 _ _ _ _ _ k _ y) ?_
      rintro V a bb aO ⟨Z,a3,af,rfl,Q,aD⟩
      obtain⟨rfl,aX⟩:=Sl.len Q
      exact I2 j ⟨Z,V.length,af,V,(IntKind.i64.wrap (d+1)),rfl,rfl,(m.trans aD),Q,(I0 _),a⟩
     ·exact I2 j ⟨p,i.length,t,i,(IntKind.i64.wrap (d+1)),rfl,rfl,m,k,(I0 _),a⟩
   ·obtain rfl:=oJ a
    try dsimp only[S0,W0]at c
    exact I2 w ⟨p,i.length,t,i,(IntKind.i64.wrap (n+1)),rfl,rfl,(F.trans m),k,(I0 _),c⟩
  ·obtain rfl:=oJ c
   try dsimp only[S0,W0]at b
   obtain rfl:=oJ b
   exact⟨o,l.length,s,rfl,E,F⟩
theorem f09(h:Hp)(o:List Value)(u:j0)(G:U1.R h o u)(r:Int)(b:w01 u=some r):
  Tr Tryz.prog 97 #[.agg o.toArray] h λv g=>v = .int .i64 r/\g=h:=by
 obtain⟨i,j,y,O,z,k,rfl,rfl,p,s,l⟩:=M0 G
 obtain⟨rfl,M⟩:=Sl.len l
 unfold w01 at b
 dsimp only at b
 refine Tr.forget (G2 (args:=[.agg #[.int .i64 i,.int .i64 j,.slice y k.length z]]) (fn:=Tryz.f97) rfl ?_)
 refine trM b (J09 _ _ _ (H0 p s l) 0 (by decide)) ?_
 rintro x b S F ⟨I,P,J,rfl,w,m⟩
 obtain⟨rfl,N⟩:=Sl.len w
 obtain⟨n,C,b⟩:=B0 b
 refine eX { vars:=[4],boxes:=[],owns:=[],fuel:=true } (eX (λvs os g=>∃ c,vs.tail = [.int .i64 c]/\os = []/\Sub F g/\K0 c/\n8 j i k x (J1 vs) c=some n) (eX (λ_ _=>0) (aI (eX Q0 ⟨1,rfl,rfl,(Sub.refl _),(by decide),C⟩) ?_)))
 rintro _ f L ⟨c,⟨⟩,⟨⟩,d,t,a⟩
 replace a:n8 j i k x f c=some n:=a
 obtain _|f:=f
 ·cases a
 rw[n8.eq_2]at a
 refine ifB a (λE a=>?_) λE a=>?_
 ·refine trV a (Y0c _ _ _ (H0 p s (G1.mono (m.trans d) l)) _ t) λH a=>?_
  obtain⟨Q,A,a⟩:=B0 a
  have K:K0 H:=T0 A
  refine trG a (λq=>g03 _ _ _ _ _ (C0.mono d w) _ t) λT a=>?_
  refine ifB a (λD a=>?_) λD a=>?_
  ·obtain rfl:=oJ a
   try dsimp only[L1,M1]at b
   obtain rfl:=oJ b
   exact aI rfl (m.trans d)
  ·exact I2 f ⟨(IntKind.i64.wrap (c+1)),rfl,rfl,d,(I0 _),a⟩
 ·obtain rfl:=oJ a
  try dsimp only[S0,W0]at b
  obtain rfl:=oJ b
  exact aI rfl (m.trans d)
theorem U03(h:Hp)(W:List Value)(ab:j0)(a3:U1.R h W ab)(K:Option Addr)(aa L:Nat)(t:D0)(F:C0.R h [.slice K aa L] t)(r:j0×Bool)(d:F7 ab t=some r):
  Tr Tryz.prog 98 #[.agg W.toArray,.slice K aa L] h λv f=>∃(V:List Value),v = .tuple #[.agg V.toArray,.bool r.2]/\U1.R f V r.1/\Sub h f:=by
 obtain⟨E,m,ak,bZ,au,z,rfl,rfl,C,M,A⟩:=M0 a3
 obtain⟨rfl,bU⟩:=Sl.len A
 obtain⟨rfl,a2⟩:=Sl.len F
 unfold F7 at d
 dsimp only at d
 refine G2 (args:=[.agg #[.int .i64 E,.int .i64 m,.slice ak z.length au],.slice K t.length L]) (fn:=Tryz.f98) rfl ?_
 refine trV d (Y7 _ _ _ (H0 C M A)) λcd d=>?_
 refine ifB d (λaP d=>?_) λaP d=>?_
 ·refine trM d (A9 _ _ _ (H0 C M A)) ?_
  rintro cj d cc a0 ⟨bv,rfl,ah⟩
  have bk:Sub h a0:=ah.sub
  have bc:=ah.r
  obtain⟨bp,bq,am,b1,aw,br,rfl,rfl,aX,aY,ad⟩:=M0 bc
  obtain⟨rfl,bX⟩:=Sl.len ad
  try dsimp only at d
  obtain rfl:=oJ d
  exact⟨([.int .i64 bp,.int .i64 bq,.slice am br.length aw]),rfl,(H0 aX aY ad),bk⟩
 ·obtain⟨b3,aC,d⟩:=B0 d
  refine aI (T0 aC) ?_
  obtain⟨U,aM,d⟩:=B0 d
  refine eX { vars:=[8],boxes:=[],owns:=[0],fuel:=true,kept:=[0] } (eX (λvs os f=>∃ u8 H s,vs.tail = [.int .i64 u8]/\os = [H]/\Sub h f/\K0 u8/\F2 (Wp.int.R f) H s/\Q4 t m E z (J1 vs) u8 s=some U) (eX (λ_ _=>0) (aI (eX Q0 ⟨0,(List.replicate m.toNat ([.int .i64 0]:List Value)),(List.replicate m.toNat (0:Int)),rfl,rfl,(Sub.refl _),(by decide),(F2.rep (p:=Wp.int.R h) (a:=[.int .i64 0]) (b:=0) ⟨rfl,(by decide)⟩ (m.toNat)),aM⟩) ?_)))
  rintro _ H D x ⟨u8,cp,s,⟨⟩,⟨⟩,i,bE,l,c⟩
  replace c:Q4 t m E z D u8 s=some U:=c
  obtain _|D:=D
  ·cases c
  rw[Q4.eq_2]at c
  refine ifB c (λaN c=>?_) λaN c=>?_
  ·refine Or.inl (aI (aI (by kernel_rfl) (by kernel_rfl)) ?_)
   refine ldI c (C0.mono i F) λce aS c=>?_
   obtain⟨bl,aD,c⟩:=B0 c
   refine eX (.bool bl) (aI (c5 _ _ aS 0 (by decide) (IntKind.i64.wrap (m-1)) (I0 _) _  aD) ?_)
   refine ldG c (C0.mono i F) λcf bF c=>?_
   obtain⟨cg,aE,c⟩:=B0 c
   obtain⟨bs,X,a4⟩:=H00 l aE (h0e x)
   refine aI (λq=>(X q).1) ?_
   obtain⟨rfl,bG⟩:=a4
   refine eX _ (aI (λq=>(X q).2) ?_)
   refine ifB c (λaO c=>?_) λaO c=>?_
   ·refine trM c (A9 _ _ _ (H0 C M (G1.mono i A))) ?_
    rintro ch c ca aZ ⟨bt,rfl,ag⟩
    have bj:Sub x aZ:=ag.sub
    have ba:=ag.r
    obtain⟨bm,bn,al,b0,av,bo,rfl,rfl,aU,aV,ac⟩:=M0 ba
    obtain⟨rfl,bW⟩:=Sl.len ac
    try dsimp only at c
    obtain rfl:=oJ c
    try dsimp only[L1,M1]at d
    obtain rfl:=oJ d
    exact⟨([.int .i64 bm,.int .i64 bn,.slice al bo.length av]),rfl,(H0 aU aV ac),(i.trans bj)⟩
   ·refine ldI c (C0.mono i F) λQ bH c=>?_
    obtain⟨ci,aF,c⟩:=B0 c
    obtain⟨ao,bu,ay,bb⟩:=A4 l aF
    refine aI ao ?_
    obtain⟨rfl,bI⟩:=bb
    refine eX _ (aI ay ?_)
    exact I2 D ⟨(IntKind.i64.wrap (u8+1)),(H.set Q.toNat [.int .i64 (IntKind.i64.wrap (u8+1))]),(s.set Q.toNat (IntKind.i64.wrap (u8+1))),rfl,rfl,i,(I0 _),(F2.set (p:=Wp.int.R x) (a:=[.int .i64 (IntKind.i64.wrap (u8+1))]) (b:=(IntKind.i64.wrap (u8+1))) ⟨rfl,(I0 _)⟩ Q.toNat l),c⟩
  ·obtain rfl:=oJ c
   try dsimp only[S0,W0]at d
   obtain⟨T,aL,d⟩:=B0 d
   refine eX { vars:=[9],boxes:=[2],owns:=[],fuel:=true } (eX (λvs os f=>∃ n j k u P w o,vs.tail = [.int .i64 n,.int .i64 j,.int .i64 k,.slice u P w]/\os = []/\Sub x f/\K0 n/\K0 j/\K0 k/\G1.R f [.slice u P w] o/\V3 z s (J1 vs) n j k o=some T) (eX (λ_ _=>0) (aI (eX Q0 ⟨0,E,((t.length:Nat):Int),none,0,0,[],rfl,rfl,(Sub.refl _),(by decide),C,(q0g a2),(Z02 E2 x),aL⟩) ?_)))
   rintro _ _ _ _ y Z ⟨n,j,k,u,P,w,o,⟨⟩,⟨⟩,g,bD,N,O,G,c⟩
   replace c:V3 z s y n j k o=some T:=c
   obtain _|y:=y
   ·cases c
   rw[V3.eq_2]at c
   obtain⟨rfl,bV⟩:=Sl.len G
   refine ifB c (λaQ c=>?_) λaQ c=>?_
   ·refine ld c (G1.mono (i.trans g) A) λck bx be c=>?_
    obtain⟨cl,S,cm,rfl,rfl,bJ,aW,bK⟩:=M2 be
    try dsimp only at c
    obtain⟨cn,aG,c⟩:=B0 c
    obtain⟨ap,bz,az,bf⟩:=A4 (F2.up (r:=Wp.int.toRp) g l) aG
    refine aI ap ?_
    obtain⟨rfl,bL⟩:=bf
    refine eX _ (aI az ?_)
    obtain⟨co,aH,c⟩:=B0 c
    obtain⟨bA,Y,bg⟩:=H00 (F2.up (r:=Wp.int.toRp) g l) aH (h0e Z)
    refine aI (λq=>(Y q).1) ?_
    obtain⟨rfl,bM⟩:=bg
    refine eX _ (aI (λq=>(Y q).2) ?_)
    refine ifB c (λaR c=>?_) λaR c=>?_
    ·refine Or.inr (Or.inr (Or.inl (aI (aI (by kernel_rfl) (by kernel_rfl)) ?_)))
     obtain⟨I,aJ,c⟩:=B0 c
     obtain⟨aq,bB,aA,bh⟩:=A4 (F2.up (r:=Wp.int.toRp) g l) aJ
     obtain⟨rfl,bN⟩:=bh
     refine Or.inl ?_
     apply eX
     refine aI ?_ ?_
     ·intro bP b4
      exact aI aq (aI rfl (aI rfl rfl))
     refine Or.inl (eX (.val (.int .i64 I)) (aI ?_ ?_))
     ·intro bQ b5
      exact eX _ (aI aA (aI rfl (aI rfl rfl)))
     obtain⟨J,aK,c⟩:=B0 c
     obtain⟨ar,bC,aB,bi⟩:=A4 (F2.up (r:=Wp.int.toRp) g l) aK
     obtain⟨rfl,bO⟩:=bi
     refine Or.inl ?_
     apply eX
     refine aI ?_ ?_
     ·intro bR b6
      exact aI ar (aI rfl (aI rfl rfl))
     refine Or.inl (eX (.val (.int .i64 J)) (aI ?_ ?_))
     ·intro bS b7
      exact eX _ (aI aB (aI rfl (aI rfl rfl)))
     refine Or.inl (eX (.agg [.val (.int .i64 (IntKind.i64.wrap (I-1))),.val (.int .i64 S),.val (.int .i64 (IntKind.i64.wrap (J-1)))]) (aI ?_ ?_))
     ·intro bT b8
      exact aI rfl (aI rfl rfl)
     refine Or.inr ?_
     refine Or.inr ?_
     refine Or.inl (eX 1 (aI (aI rfl rfl) ?_))
     refine trM c (n02 _ _ _ _ _ G [.int .i64 (IntKind.i64.wrap (I-1)),.int .i64 S,.int .i64 (IntKind.i64.wrap (J-1))] ((IntKind.i64.wrap (I-1)),S,(IntKind.i64.wrap (J-1))) (Y1 (I0 _) aW (I0 _))) ?_
     rintro aj c cb a1 ⟨an,b2,ax,rfl,ai⟩
     have af:Sub Z a1:=ai.sub
     have ae:=ai.r
     obtain⟨rfl,bY⟩:=Sl.len ae
     refine aI (aI rfl af) (aI (by first|exact trivial|exact rfl) ?_)
     refine aT ?_
     exact I2 y ⟨(IntKind.i64.wrap (n+1)),j,k,an,aj.length,ax,aj,rfl,rfl,(g.trans af),(I0 _),N,O,ae,c⟩
    ·exact I2 y ⟨(IntKind.i64.wrap (n+1)),j,k,u,o.length,w,o,rfl,rfl,g,(I0 _),N,O,G,c⟩
   ·obtain rfl:=oJ c
    try dsimp only[S0,W0]at d
    obtain rfl:=oJ d
    exact⟨([.int .i64 j,.int .i64 k,.slice u o.length w]),rfl,(H0 N O G),(i.trans g)⟩
theorem g0c(h:Hp)(f:Int)(E:K0 f)(r:D0)(j:L00 f=some r):
  Tr Tryz.prog 123 #[.int .i64 f] h λv i=>∃(o:Option Addr) (q p:Nat),v = .slice o q p/\C0.R i [.slice o q p] r/\Sub h i:=by
 unfold L00 at j
 refine G2 (args:=[.int .i64 f]) (fn:=Tryz.f123) rfl ?_
 obtain⟨n,z,j⟩:=B0 j
 refine eX { vars:=[4],boxes:=[],owns:=[0],fuel:=true } (eX (λvs os i=>∃ a m g,vs.tail = [.int .i64 a]/\os = [m]/\Sub h i/\K0 a/\F2 (Wp.int.R i) m g/\g6 f (J1 vs) a g=some n) (eX (λ_ _=>0) (aI (eX Q0 ⟨1,[],([]:D0),rfl,rfl,(Sub.refl _),(by decide),(show F2 (Wp.int.R h) ([]:List (List Value)) ([]:D0) from trivial),z⟩) ?_)))
 rintro _ m l d ⟨a,K,g,⟨⟩,⟨⟩,s,k,c,b⟩
 replace b:g6 f l a g=some n:=b
 obtain _|l:=l
 ·cases b
 rw[g6.eq_2]at b
 refine ifB b (λA b=>?_) λA b=>?_
 ·obtain⟨H,x,b⟩:=B0 b
  refine aI (F1 x (by first|rw[F2.length c,F2.length (show F2 (Wp.int.R d) ([[.int .i64 a]]:List (List Value)) [a] from⟨⟨rfl,k⟩,trivial⟩)]|exact congrArg (·+1) (F2.length c))) ?_
  obtain⟨I,y,b⟩:=B0 b
  refine aI (F1 y (by first|rw[F2.length (F2.append c (show F2 (Wp.int.R d) ([[.int .i64 a]]:List (List Value)) [a] from⟨⟨rfl,k⟩,trivial⟩)),F2.length (show F2 (Wp.int.R d) ([[.int .i64 (IntKind.i64.wrap (0-a))]]:List (List Value)) [(IntKind.i64.wrap (0-a))] from⟨⟨rfl,(I0 _)⟩,trivial⟩)]|exact congrArg (·+1) (F2.length (F2.append c (show F2 (Wp.int.R d) ([[.int .i64 a]]:List (List Value)) [a] from⟨⟨rfl,k⟩,trivial⟩))))) ?_
  exact I2 l ⟨(IntKind.i64.wrap (a+1)),((m++([[.int .i64 a]]:List (List Value)))++([[.int .i64 (IntKind.i64.wrap (0-a))]]:List (List Value))),((g ++ [a]) ++ [(IntKind.i64.wrap (0-a))]),rfl,rfl,s,(I0 _),(F2.append (F2.append c (show F2 (Wp.int.R d) ([[.int .i64 a]]:List (List Value)) [a] from⟨⟨rfl,k⟩,trivial⟩)) (show F2 (Wp.int.R d) ([[.int .i64 (IntKind.i64.wrap (0-a))]]:List (List Value)) [(IntKind.i64.wrap (0-a))] from⟨⟨rfl,(I0 _)⟩,trivial⟩)),b⟩
 ·obtain rfl:=oJ b
  try dsimp only[S0,W0]at j
  intro J F w
  obtain⟨t,u,rfl,C,D,G⟩:=V0.out (r:=Wp.int.toRp) w c
  obtain rfl:=oJ j
  exact⟨t,g.length,u,rfl,C,(s.trans D)⟩
theorem m07(h:Hp)(I:List Value)(M:j0)(au:U1.R h I M)(r:D0)(c:r8 M=some r):
  Tr Tryz.prog 99 #[.agg I.toArray] h λv d=>∃(G:Option Addr) (L H:Nat),v = .slice G L H/\C0.R d [.slice G L H] r/\Sub h d:=by
 obtain⟨o,p,O,aU,T,q,rfl,rfl,z,J,C⟩:=M0 au
 obtain⟨rfl,aO⟩:=Sl.len C
 unfold r8 at c
 dsimp only at c
 refine G2 (args:=[.agg #[.int .i64 o,.int .i64 p,.slice O q.length T]]) (fn:=Tryz.f99) rfl ?_
 refine trV c (j07 _ _ _ (H0 z J C)) λa4 c=>?_
 refine ifB c (λaj c=>?_) λaj c=>?_
 ·intro a1 aM Z
  obtain⟨Q,V,rfl,ay,aA,aS⟩:=V0.out (r:=Wp.int.toRp) Z (show F2 (Wp.int.R h) ([]:List (List Value)) ([]:D0) from trivial)
  obtain rfl:=oJ c
  exact⟨Q,(([]:D0)).length,V,rfl,ay,aA⟩
 ·refine trM c (g0c _ _ z) ?_
  rintro x c a3 aq ⟨aC,aV,aF,rfl,N,D⟩
  obtain⟨rfl,aP⟩:=Sl.len N
  obtain⟨E,ag,c⟩:=B0 c
  refine eX { vars:=[5],boxes:=[],owns:=[0],fuel:=true } (eX (λvs os d=>∃ f t l,vs.tail = [.int .i64 f]/\os = [t]/\Sub aq d/\K0 f/\F2 (Wp.int.R d) t l/\n5 x o p q (J1 vs) f l=some E) (eX (λ_ _=>0) (aI (eX Q0 ⟨0,([[.int .i64 0]]:List (List Value)),[0],rfl,rfl,(Sub.refl _),(by decide),(F2.up (r:=Wp.int.toRp) D (show F2 (Wp.int.R h) ([[.int .i64 0]]:List (List Value)) [0] from⟨⟨rfl,(by decide)⟩,trivial⟩)),ag⟩) ?_)))
  rintro _ t u ap ⟨f,bc,l,⟨⟩,⟨⟩,w,aJ,y,b⟩
  replace b:n5 x o p q u f l=some E:=b
  obtain _|u:=u
  ·cases b
  rw[n5.eq_2]at b
  obtain⟨ar,aa,b⟩:=B0 b
  obtain rfl:t.length=ar:=(F2.length y).trans (oJ aa)
  obtain⟨aW,aH,b⟩:=B0 b
  refine ifB b (λai b=>?_) λai b=>?_
  ·obtain⟨F,ah,b⟩:=B0 b
   refine eX { vars:=[6],boxes:=[],owns:=[0],fuel:=true } (eX (λvs os d=>∃ j m k,vs.tail = [.int .i64 j]/\os = [m]/\Sub ap d/\K0 j/\F2 (Wp.int.R d) m k/\Q3 x f o p q (J1 vs) j k=some F) (eX (λ_ _=>0) (aI (eX Q0 ⟨0,t,l,rfl,rfl,(Sub.refl _),(by decide),y,ah⟩) ?_)))
   rintro _ m n K ⟨j,be,k,⟨⟩,⟨⟩,s,aK,i,a⟩
   replace a:Q3 x f o p q n j k=some F:=a
   obtain _|n:=n
   ·cases a
   rw[Q3.eq_2]at a
   refine ifB a (λak a=>?_) λak a=>?_
   ·refine Or.inl (aI (aI (by kernel_rfl) (by kernel_rfl)) ?_)
    obtain⟨ba,ad,a⟩:=B0 a
    obtain⟨S,aE,W,av⟩:=A4 i ad
    refine aI S ?_
    obtain⟨rfl,an⟩:=av
    refine eX _ (aI W ?_)
    refine ldI a (C0.mono (w.trans s) N) λbb ao a=>?_
    obtain⟨g,ae,a⟩:=B0 a
    refine eX (.int .i64 g) (aI (d0b _ _ _ (H0 z J (G1.mono ((D.trans w).trans s) C)) _ an _ ao _  ae) ?_)
    obtain⟨aX,ab,a⟩:=B0 a
    have A:K0 g:=T0 ab
    obtain⟨aB,af,a⟩:=B0 a
    refine eX (.bool aB) (aI ?_ ?_)
    ·intro am
     intro a0 aL X
     obtain⟨aD,aG,rfl,aw,aZ,aQ⟩:=V0.out (r:=Wp.int.toRp) X i
     exact g03 _ _ _ _ _ aw _ A _ (Y02 af am)
    refine ifB a (λal a=>?_) λal a=>?_
    ·obtain⟨aY,ac,a⟩:=B0 a
     refine aI (F1 ac (by first|rw[F2.length i,F2.length (show F2 (Wp.int.R K) ([[.int .i64 g]]:List (List Value)) [g] from⟨⟨rfl,A⟩,trivial⟩)]|exact congrArg (·+1) (F2.length i))) ?_
     exact I2 n ⟨(IntKind.i64.wrap (j+1)),(m++([[.int .i64 g]]:List (List Value))),(k ++ [g]),rfl,rfl,s,(I0 _),(F2.append i (show F2 (Wp.int.R K) ([[.int .i64 g]]:List (List Value)) [g] from⟨⟨rfl,A⟩,trivial⟩)),a⟩
    ·exact I2 n ⟨(IntKind.i64.wrap (j+1)),m,k,rfl,rfl,s,(I0 _),i,a⟩
   ·obtain rfl:=oJ a
    try dsimp only[S0,W0]at b
    exact I2 u ⟨(IntKind.i64.wrap (f+1)),m,k,rfl,rfl,(w.trans s),(I0 _),i,b⟩
  ·obtain rfl:=oJ b
   try dsimp only[S0,W0]at c
   intro a2 aN Y
   obtain⟨P,U,rfl,ax,az,aR⟩:=V0.out (r:=Wp.int.toRp) Y y
   obtain rfl:=oJ c
   exact⟨P,l.length,U,rfl,ax,((D.trans w).trans az)⟩
theorem m03(h:Hp)(i:List Value)(k:j0)(J:U1.R h i k)(r:j0)(a:l7 k=some r):
  Tr Tryz.prog 76 #[.agg i.toArray] h λv j=>∃(g:List Value),v = .agg g.toArray/\U1.R j g r/\Sub h j:=by
 obtain⟨G,H,q,ae,u,I,rfl,rfl,d,f,b⟩:=M0 J
 obtain⟨rfl,aa⟩:=Sl.len b
 unfold l7 at a
 dsimp only at a
 refine G2 (args:=[.agg #[.int .i64 G,.int .i64 H,.slice q I.length u]]) (fn:=Tryz.f76) rfl ?_
 refine trM a (m07 _ _ _ (H0 d f b)) ?_
 rintro al a aj E ⟨V,af,Y,rfl,l,c⟩
 obtain⟨rfl,ab⟩:=Sl.len l
 refine ifB a (λy a=>?_) λy a=>?_
 ·refine trM a (A9 _ _ _ (H0 d f (G1.mono c b))) ?_
  rintro am a ak F ⟨W,rfl,p⟩
  have L:Sub E F:=p.sub
  have K:=p.r
  obtain⟨N,O,s,ag,w,P,rfl,rfl,z,A,m⟩:=M0 K
  obtain⟨rfl,ac⟩:=Sl.len m
  try dsimp only at a
  obtain rfl:=oJ a
  exact⟨([.int .i64 N,.int .i64 O,.slice s P.length w]),rfl,(H0 z A m),(c.trans L)⟩
 ·refine trM a (U03 _ _ _ (H0 d f (G1.mono c b)) _ _ _ _ l) ?_
  rintro Q a ai Z ⟨X,rfl,n,M⟩
  obtain⟨an,ao⟩:=Q
  dsimp only at a n
  obtain⟨S,T,t,ah,x,U,rfl,rfl,C,D,o⟩:=M0 n
  obtain⟨rfl,ad⟩:=Sl.len o
  try dsimp only at a
  obtain rfl:=oJ a
  exact⟨([.int .i64 S,.int .i64 T,.slice t U.length x]),rfl,(H0 C D o),(c.trans M)⟩
theorem K0f(h:Hp)(m:List Value)(n:j0)(S:U1.R h m n)(r:Bool)(a:B00 n=some r):
  Tr Tryz.prog 77 #[.agg m.toArray] h λv H=>v = .bool r/\H=h:=by
 obtain⟨O,P,t,au,w,Q,rfl,rfl,g,i,c⟩:=M0 S
 obtain⟨rfl,aq⟩:=Sl.len c
 unfold B00 at a
 dsimp only at a
 refine Tr.forget (G2 (args:=[.agg #[.int .i64 O,.int .i64 P,.slice t Q.length w]]) (fn:=Tryz.f77) rfl ?_)
 refine Or.inr (Or.inr (Or.inr (Or.inl (aI (aI (by kernel_rfl) (by kernel_rfl)) ?_))))
 obtain⟨aa,D,a⟩:=B0 a
 refine Or.inl (eX (.val (.bool aa)) (aI ?_ ?_))
 ·intro am Y
  exact Tr.val (j07 _ _ _ (H0 g i (G1.mono Y c)) _ D) (aI rfl (aI rfl rfl))
 obtain⟨l,G,a⟩:=B0 a
 obtain⟨aw,C,a⟩:=B0 a
 have ai:K0 l:=T0 C
 refine Or.inl (eX (.val (.int .i64 l)) (aI ?_ ?_))
 ·intro an Z b
  exact Tr.val (f09 _ _ _ (H0 g i (G1.mono Z c)) _ (Y02 G b)) (aI rfl (aI rfl rfl))
 refine Or.inl (eX (.val (.bool (decide (l<0)))) (aI ?_ ?_))
 ·intro ao ax b
  exact aI rfl (aI rfl rfl)
 obtain⟨ab,E,a⟩:=B0 a
 obtain⟨p,s,j⟩:=ab
 try dsimp only at a
 refine Or.inr (eX (λv I=>∃(d:Option Addr) (f:Nat),v = .agg #[.int .i64 p,.int .i64 s,.slice d j.length f]/\K0 p/\K0 s/\G1.R I [.slice d j.length f] j/\j.length<=9223372036854775807) (aI (λv ag ah k q=>by obtain⟨d,f,e,z,A,f2,f3⟩:=q;exact⟨d,f,e,z,A,G1.mono k f2,f3⟩) (aI ?_ ?_)))
 ·intro aj V b
  refine Tr.mono (m03 _ _ _ (H0 g i (G1.mono V c)) _ (Y02 E b)) ?_
  rintro _ ap ⟨ae,rfl,T,k⟩
  obtain⟨ay,az,u,av,x,aA,rfl,y,J,K,o⟩:=M0 T
  cases y
  obtain⟨rfl,N⟩:=Sl.len o
  exact aI r02 (aI k ⟨u,x,rfl,J,K,o,N⟩)
 obtain⟨ac,F,a⟩:=B0 a
 refine Or.inl (eX (.val (.bool ac)) (aI ?_ ?_))
 ·intro ak W b
  rintro _ ⟨ad,af,rfl,L,M,U,ar⟩
  exact Tr.val (I09 _ _ _ (H0 L M U) _ _ (H0 g i (G1.mono W c)) _ (Y02 F b)) (aI rfl (aI rfl rfl))
 intro al X
 obtain rfl:=oJ a
 exact aI rfl X
theorem B05(h:Hp)(b:List Value)(c:j0)(o:U1.R h b c)(r:Bool)(a:W8 c=some r):
  Tr Tryz.prog 58 #[.agg b.toArray] h λv i=>v = .bool r/\i=h:=by
 obtain⟨l,m,f,q,g,n,rfl,rfl,j,k,d⟩:=M0 o
 obtain⟨rfl,p⟩:=Sl.len d
 unfold W8 at a
 dsimp only at a
 refine Tr.forget (G2 (args:=[.agg #[.int .i64 l,.int .i64 m,.slice f n.length g]]) (fn:=Tryz.f58) rfl ?_)
 refine trV a (K0f _ _ _ (H0 j k d)) λs a=>?_
 obtain rfl:=oJ a
 exact aI rfl (Sub.refl _)
theorem Z0c(h:Hp)(b:Int)(f:K0 b)(r:j0×Bool)(a:j01 b=some r):
  Tr Tryz.prog 72 #[.int .i64 b] h λv d=>∃(c:List Value),v = .tuple #[.agg c.toArray,.bool r.2]/\U1.R d c r.1/\Sub h d:=by
 unfold j01 at a
 refine G2 (args:=[.int .i64 b]) (fn:=Tryz.f72) rfl ?_
 refine trV a (c5 _ _ f 1 (by decide) 3 (by decide)) λi a=>?_
 refine ifB a (λg a=>?_) λg a=>?_
 ·obtain rfl:=oJ a
  exact⟨([.int .i64 0,.int .i64 0,.slice none 0 0]),rfl,(H0 (by decide) (by decide) (Z02 E2 h)),(Sub.refl _)⟩
 ·obtain rfl:=oJ a
  exact⟨([.int .i64 b,.int .i64 1,.slice none 0 0]),rfl,(H0 f (by decide) (Z02 E2 h)),(Sub.refl _)⟩
theorem p0f(h:Hp)(Q:List Value)(Z:j0)(bf:U1.R h Q Z)(y:Int)(U:K0 y)(n:Option Addr)(Y o:Nat)(l:D0)(m:C0.R h [.slice n Y o] l)(g:Int)(w:K0 g)(r:j0×Bool)(b:Q01 Z y l g=some r):
  Tr Tryz.prog 93 #[.agg Q.toArray,.int .i64 y,.slice n Y o,.int .i64 g] h λv u=>∃(P:List Value),v = .tuple #[.agg P.toArray,.bool r.2]/\U1.R u P r.1/\Sub h u:=by
 obtain⟨bc,J,ax,bX,aG,be,rfl,rfl,H,T,K⟩:=M0 bf
 obtain⟨rfl,bP⟩:=Sl.len K
 obtain⟨rfl,bQ⟩:=Sl.len m
 unfold Q01 at b
 dsimp only at b
 refine G2 (args:=[.agg #[.int .i64 bc,.int .i64 J,.slice ax be.length aG],.int .i64 y,.slice n l.length o,.int .i64 g]) (fn:=Tryz.f93) rfl ?_
 refine trM b (A9 _ _ _ (H0 H T K)) ?_
 rintro cj b ce X ⟨bp,rfl,ai⟩
 have j:Sub h X:=ai.sub
 have bg:=ai.r
 obtain⟨an,ao,O,bY,S,M,rfl,rfl,V,W,L⟩:=M0 bg
 obtain⟨rfl,bS⟩:=Sl.len L
 try dsimp only at b
 refine trV b (Y7 _ _ _ (H0 H T (G1.mono j K))) λcl b=>?_
 refine trG b (λq=>c5 _ _ U 0 (by decide) (IntKind.i64.wrap (J-1)) (I0 _)) λcn b=>?_
 refine trG b (λq=>c5 _ _ w 0 (by decide) (IntKind.i64.wrap (J-1)) (I0 _)) λco b=>?_
 refine trG b (λq=>L05 _ _ H _ _ _ _ (C0.mono j m)) λcp b=>?_
 refine ifB b (λa0 b=>?_) λa0 b=>?_
 ·obtain rfl:=oJ b
  exact⟨([.int .i64 an,.int .i64 ao,.slice O M.length S]),rfl,(H0 V W L),j⟩
 ·obtain⟨N,aV,b⟩:=B0 b
  refine eX { vars:=[11,12],boxes:=[2],owns:=[],fuel:=true } (eX (λvs os u=>∃ d f k c D I E z,vs.tail = [.int .i64 d,.int .i64 f,.int .i64 k,.int .i64 c,.slice D I E]/\os = []/\Sub X u/\K0 d/\K0 f/\K0 k/\K0 c/\G1.R u [.slice D I E] z/\o5 l g (J1 vs) d f k c z=some N) (eX (λ_ _=>0) (aI (eX Q0 ⟨y,0,an,ao,O,M.length,S,M,rfl,rfl,(Sub.refl _),U,(by decide),V,W,L,aV⟩) ?_)))
  rintro _ _ _ _ _ s G ⟨d,f,k,c,D,I,E,z,⟨⟩,⟨⟩,i,F,bu,x,p,t,a⟩
  replace a:o5 l g s d f k c z=some N:=a
  obtain _|s:=s
  ·cases a
  rw[o5.eq_2]at a
  obtain⟨rfl,bR⟩:=Sl.len t
  refine ifB a (λaW a=>?_) λaW a=>?_
  ·refine ifB a (λaX a=>?_) λaX a=>?_
   ·refine ldI a (C0.mono (j.trans i) m) λck bv a=>?_
    refine ifB a (λaY a=>?_) λaY a=>?_
    ·refine Or.inr (Or.inr (Or.inl (aI (aI (by kernel_rfl) (by kernel_rfl)) ?_)))
     obtain⟨ap,aQ,a⟩:=B0 a
     obtain⟨aC,bq,aM,bh⟩:=Sl.getI (r:=Wp.int.toRp) (C0.mono (j.trans i) m) aQ (by decide)
     obtain⟨rfl,a1⟩:=bh
     refine Or.inl (eX (.hel (.slice n l.length o) f 1 0) (aI ?_ ?_))
     ·intro bB b3
      exact aI aC (aI rfl (aI rfl rfl))
     refine Or.inl (eX (.val (.int .i64 ap)) (aI ?_ ?_))
     ·intro bC bl
      exact eX _ (aI (N4.up bl aM) (aI rfl (aI rfl rfl)))
     refine Or.inl (eX (.agg [.val (.int .i64 d),.val (.int .i64 ap),.val (.int .i64 c)]) (aI ?_ ?_))
     ·intro bD b4
      exact aI rfl (aI rfl rfl)
     refine Or.inr ?_
     refine Or.inr ?_
     refine Or.inl (eX 1 (aI (aI rfl rfl) ?_))
     refine trM a (n02 _ _ _ _ _ t _ _ (Y1 F a1 p)) ?_
     rintro aq a cf a3 ⟨ay,bZ,aH,rfl,aj⟩
     have ae:Sub G a3:=aj.sub
     have aa:=aj.r
     obtain⟨rfl,bT⟩:=Sl.len aa
     refine aI (aI rfl ae) (aI (by first|exact trivial|exact rfl) ?_)
     refine aT ?_
     exact I2 s ⟨c,(IntKind.i64.wrap (f+1)),k,(IntKind.i64.wrap (c+1)),ay,aq.length,aH,aq,rfl,rfl,(i.trans ae),p,(I0 _),x,(I0 _),aa,a⟩
    ·refine Or.inr (Or.inr (Or.inl (aI (aI (by kernel_rfl) (by kernel_rfl)) ?_)))
     obtain⟨A,aR,a⟩:=B0 a
     obtain⟨aD,br,aN,bi⟩:=Sl.getI (r:=Wp.int.toRp) (C0.mono (j.trans i) m) aR (by decide)
     obtain⟨rfl,bx⟩:=bi
     refine Or.inl (eX (.hel (.slice n l.length o) f 1 0) (aI ?_ ?_))
     ·intro bE b5
      exact aI aD (aI rfl (aI rfl rfl))
     refine Or.inl (eX (.val (.int .i64 A)) (aI ?_ ?_))
     ·intro bF bm
      exact eX _ (aI (N4.up bm aN) (aI rfl (aI rfl rfl)))
     refine Or.inl (eX (.val (.int .i64 (IntKind.i64.wrap (0-A)))) (aI ?_ ?_))
     ·intro bG b6
      exact aI rfl (aI rfl rfl)
     refine Or.inl (eX (.agg [.val (.int .i64 c),.val (.int .i64 (IntKind.i64.wrap (0-A))),.val (.int .i64 d)]) (aI ?_ ?_))
     ·intro bH b7
      exact aI rfl (aI rfl rfl)
     refine Or.inr ?_
     refine Or.inr ?_
     refine Or.inl (eX 1 (aI (aI rfl rfl) ?_))
     refine trM a (n02 _ _ _ _ _ t [.int .i64 c,.int .i64 (IntKind.i64.wrap (0-A)),.int .i64 d] (c,(IntKind.i64.wrap (0-A)),d) (Y1 p (I0 _) F)) ?_
     rintro ar a cg a4 ⟨az,b0,aJ,rfl,ak⟩
     have af:Sub G a4:=ak.sub
     have ab:=ak.r
     obtain⟨rfl,bU⟩:=Sl.len ab
     refine aI (aI rfl af) (aI (by first|exact trivial|exact rfl) ?_)
     refine aT ?_
     exact I2 s ⟨c,(IntKind.i64.wrap (f+1)),k,(IntKind.i64.wrap (c+1)),az,ar.length,aJ,ar,rfl,rfl,(i.trans af),p,(I0 _),x,(I0 _),ab,a⟩
   ·refine ldI a (C0.mono (j.trans i) m) λcm bz a=>?_
    refine ifB a (λaZ a=>?_) λaZ a=>?_
    ·refine Or.inr (Or.inr (Or.inl (aI (aI (by kernel_rfl) (by kernel_rfl)) ?_)))
     obtain⟨au,aS,a⟩:=B0 a
     obtain⟨aE,bs,aO,bj⟩:=Sl.getI (r:=Wp.int.toRp) (C0.mono (j.trans i) m) aS (by decide)
     obtain⟨rfl,a2⟩:=bj
     refine Or.inl (eX (.hel (.slice n l.length o) f 1 0) (aI ?_ ?_))
     ·intro bI b8
      exact aI aE (aI rfl (aI rfl rfl))
     refine Or.inl (eX (.val (.int .i64 au)) (aI ?_ ?_))
     ·intro bJ bn
      exact eX _ (aI (N4.up bn aO) (aI rfl (aI rfl rfl)))
     refine Or.inl (eX (.agg [.val (.int .i64 d),.val (.int .i64 au),.val (.int .i64 g)]) (aI ?_ ?_))
     ·intro bK ca
      exact aI rfl (aI rfl rfl)
     refine Or.inr ?_
     refine Or.inr ?_
     refine Or.inl (eX 1 (aI (aI rfl rfl) ?_))
     refine trM a (n02 _ _ _ _ _ t _ _ (Y1 F a2 w)) ?_
     rintro av a ch ba ⟨aA,b1,aK,rfl,al⟩
     have ag:Sub G ba:=al.sub
     have ac:=al.r
     obtain⟨rfl,bV⟩:=Sl.len ac
     refine aI (aI rfl ag) (aI (by first|exact trivial|exact rfl) ?_)
     refine aT ?_
     exact I2 s ⟨g,(IntKind.i64.wrap (f+1)),k,c,aA,av.length,aK,av,rfl,rfl,(i.trans ag),w,(I0 _),x,p,ac,a⟩
    ·refine Or.inr (Or.inr (Or.inl (aI (aI (by kernel_rfl) (by kernel_rfl)) ?_)))
     obtain⟨C,aU,a⟩:=B0 a
     obtain⟨aF,bt,aP,bk⟩:=Sl.getI (r:=Wp.int.toRp) (C0.mono (j.trans i) m) aU (by decide)
     obtain⟨rfl,bA⟩:=bk
     refine Or.inl (eX (.hel (.slice n l.length o) f 1 0) (aI ?_ ?_))
     ·intro bL cb
      exact aI aF (aI rfl (aI rfl rfl))
     refine Or.inl (eX (.val (.int .i64 C)) (aI ?_ ?_))
     ·intro bM bo
      exact eX _ (aI (N4.up bo aP) (aI rfl (aI rfl rfl)))
     refine Or.inl (eX (.val (.int .i64 (IntKind.i64.wrap (0-C)))) (aI ?_ ?_))
     ·intro bN cc
      exact aI rfl (aI rfl rfl)
     refine Or.inl (eX (.agg [.val (.int .i64 g),.val (.int .i64 (IntKind.i64.wrap (0-C))),.val (.int .i64 d)]) (aI ?_ ?_))
     ·intro bO cd
      exact aI rfl (aI rfl rfl)
     refine Or.inr ?_
     refine Or.inr ?_
     refine Or.inl (eX 1 (aI (aI rfl rfl) ?_))
     refine trM a (n02 _ _ _ _ _ t [.int .i64 g,.int .i64 (IntKind.i64.wrap (0-C)),.int .i64 d] (g,(IntKind.i64.wrap (0-C)),d) (Y1 w (I0 _) F)) ?_
     rintro aw a ci bb ⟨aB,b2,aL,rfl,am⟩
     have ah:Sub G bb:=am.sub
     have ad:=am.r
     obtain⟨rfl,bW⟩:=Sl.len ad
     refine aI (aI rfl ah) (aI (by first|exact trivial|exact rfl) ?_)
     refine aT ?_
     exact I2 s ⟨g,(IntKind.i64.wrap (f+1)),k,c,aB,aw.length,aL,aw,rfl,rfl,(i.trans ah),w,(I0 _),x,p,ad,a⟩
  ·obtain rfl:=oJ a
   try dsimp only[S0,W0]at b
   obtain rfl:=oJ b
   exact⟨([.int .i64 k,.int .i64 c,.slice D z.length E]),rfl,(H0 x p t),(j.trans i)⟩
theorem a0d(h:Hp)(g:List Value)(k:j0)(D:U1.R h g k)(b:Option Addr)(j c:Nat)(d:D0)(m:C0.R h [.slice b j c] d)(r:j0×Bool)(a:k01 k d=some r):
  Tr Tryz.prog 73 #[.agg g.toArray,.slice b j c] h λv i=>∃(f:List Value),v = .tuple #[.agg f.toArray,.bool r.2]/\U1.R i f r.1/\Sub h i:=by
 obtain⟨z,A,p,O,s,C,rfl,rfl,u,w,l⟩:=M0 D
 obtain⟨rfl,L⟩:=Sl.len l
 obtain⟨rfl,M⟩:=Sl.len m
 unfold k01 at a
 dsimp only at a
 refine G2 (args:=[.agg #[.int .i64 z,.int .i64 A,.slice p C.length s],.slice b d.length c]) (fn:=Tryz.f73) rfl ?_
 refine trM a (p0f _ _ _ (H0 u w l) 0 (by decide) _ _ _ _ m 0 (by decide)) ?_
 rintro F a Q K ⟨J,rfl,n,E⟩
 obtain⟨S,T⟩:=F
 dsimp only at a n
 obtain⟨G,H,q,P,t,I,rfl,rfl,x,y,o⟩:=M0 n
 obtain⟨rfl,N⟩:=Sl.len o
 try dsimp only at a
 obtain rfl:=oJ a
 exact⟨([.int .i64 G,.int .i64 H,.slice q I.length t]),rfl,(H0 x y o),E⟩
theorem b0d(h:Hp)(C:Int)(T:K0 C)(w:Option Addr)(W y:Nat)(n:N0)(F:Y0.R h [.slice w W y] n)(r:j0×Bool)(b:l01 C n=some r):
  Tr Tryz.prog 56 #[.int .i64 C,.slice w W y] h λv t=>∃(N:List Value),v = .tuple #[.agg N.toArray,.bool r.2]/\U1.R t N r.1/\Sub h t:=by
 obtain⟨rfl,bk⟩:=Sl.len F
 unfold l01 at b
 refine G2 (args:=[.int .i64 C,.slice w n.length y]) (fn:=Tryz.f56) rfl ?_
 refine trV b (g07 _ _ T _ _ _ _ F) λbB b=>?_
 refine ifB b (λau b=>?_) λau b=>?_
 ·obtain rfl:=oJ b
  exact⟨([.int .i64 0,.int .i64 0,.slice none 0 0]),rfl,(H0 (by decide) (by decide) (Z02 E2 h)),(Sub.refl _)⟩
 ·refine trM b (Z0c _ _ T) ?_
  rintro aU b bA aF ⟨a0,rfl,X,ab⟩
  obtain⟨bC,bD⟩:=aU
  dsimp only at b X
  obtain⟨aV,aW,ae,br,aj,ac,rfl,rfl,av,aw,Y⟩:=M0 X
  obtain⟨rfl,bn⟩:=Sl.len Y
  try dsimp only at b
  obtain⟨K,aq,b⟩:=B0 b
  refine eX { vars:=[8],boxes:=[1],owns:=[],fuel:=true } (eX (λvs os t=>∃ m u8 o x E z u,vs.tail = [.int .i64 m,.int .i64 u8,.int .i64 o,.slice x E z]/\os = []/\Sub aF t/\K0 m/\K0 u8/\K0 o/\G1.R t [.slice x E z] u/\W6 n (J1 vs) m u8 o u=some K) (eX (λ_ _=>0) (aI (eX Q0 ⟨0,aV,aW,ae,ac.length,aj,ac,rfl,rfl,(Sub.refl _),(by decide),av,aw,Y,aq⟩) ?_)))
  rintro _ _ _ _ A ba ⟨m,u8,o,x,E,z,u,⟨⟩,⟨⟩,I,a2,U,V,G,c⟩
  replace c:W6 n A m u8 o u=some K:=c
  obtain _|A:=A
  ·cases c
  rw[W6.eq_2]at c
  obtain⟨rfl,bl⟩:=Sl.len G
  refine ifB c (λar c=>?_) λar c=>?_
  ·refine Or.inr (Or.inr (Or.inr (Or.inr (eX 10 (aI (aI (by kernel_rfl) (by kernel_rfl)) ?_)))))
   obtain⟨aQ,ao,c⟩:=B0 c
   obtain⟨ah,aY,am,H⟩:=Sl.getI (r:=C0.toRp) (Y0.mono (ab.trans I) F) ao (by decide)
   obtain⟨ad,bq,ai,rfl⟩:=Wp.slice_cell H
   obtain⟨rfl,bm⟩:=Sl.len H
   refine Or.inl (eX (.hel (.slice w n.length y) m 1 0) (aI ?_ ?_))
   ·intro bb bu
    exact aI ah (aI rfl (aI rfl rfl))
   refine Or.inl (eX (.val (.slice ad aQ.length ai)) (aI ?_ ?_))
   ·intro bc aO
    exact eX _ (aI (N4.up aO am) (aI rfl (aI rfl rfl)))
   obtain⟨aR,ap,c⟩:=B0 c
   obtain⟨aS,J⟩:=aR
   try dsimp only at c
   obtain⟨j,k,a⟩:=aS
   try dsimp only at c
   refine Or.inr (eX (λv g=>∃(i:Value),v = .tuple #[i,.bool J]/\(λv g=>∃(d:Option Addr) (f:Nat),v = .agg #[.int .i64 j,.int .i64 k,.slice d a.length f]/\K0 j/\K0 k/\G1.R g [.slice d a.length f] a/\a.length<=9223372036854775807) i g) (aI (λv Q S l q=>by obtain⟨i,e,D⟩:=q;exact⟨i,e,(by obtain⟨d,f,e,p,s,f2,f3⟩:=D;exact⟨d,f,e,p,s,G1.mono l f2,f3⟩)⟩) (aI ?_ ?_)))
   ·intro be aa
    refine Tr.mono (a0d _ _ _ (H0 U V (G1.mono aa G)) _ _ _ _ (C0.mono aa H) _ ap) ?_
    rintro _ bj ⟨aZ,rfl,aK,l⟩
    obtain⟨bE,bF,L,bs,O,bG,rfl,an,ax,ay,Z⟩:=M0 aK
    cases an
    obtain⟨rfl,aG⟩:=Sl.len Z
    exact aI r02 (aI l ⟨(.agg #[.int .i64 j,.int .i64 k,.slice L a.length O]),rfl,⟨L,O,rfl,ax,ay,Z,aG⟩⟩)
   refine Or.inr (eX (λv g=>∃(i:Value),v = .tuple #[i,.bool J]/\(λv g=>∃(d:Option Addr) (f:Nat),v = .agg #[.int .i64 j,.int .i64 k,.slice d a.length f]/\K0 j/\K0 k/\G1.R g [.slice d a.length f] a/\a.length<=9223372036854775807) i g) (aI (λv Q S l q=>by obtain⟨i,e,D⟩:=q;exact⟨i,e,(by obtain⟨d,f,e,p,s,f2,f3⟩:=D;exact⟨d,f,e,p,s,G1.mono l f2,f3⟩)⟩) (aI ?_ ?_)))
   ·intro bf bv
    rintro _ ⟨_,rfl,⟨M,P,rfl,az,aA,aL,aH⟩⟩
    exact aI r02 (aI (Sub.refl _) ⟨(.agg #[.int .i64 j,.int .i64 k,.slice M a.length P]),rfl,⟨M,P,rfl,az,aA,aL,aH⟩⟩)
   refine Or.inr (eX (λv g=>∃(d:Option Addr) (f:Nat),v = .agg #[.int .i64 j,.int .i64 k,.slice d a.length f]/\K0 j/\K0 k/\G1.R g [.slice d a.length f] a/\a.length<=9223372036854775807) (aI (λv Q S l q=>by obtain⟨d,f,e,p,s,f2,f3⟩:=q;exact⟨d,f,e,p,s,G1.mono l f2,f3⟩) (aI ?_ ?_)))
   ·intro bg bx
    rintro _ ⟨_,rfl,⟨af,ak,rfl,aB,aC,aM,aJ⟩⟩
    exact aI r02 (aI (Sub.refl _) ⟨af,ak,rfl,aB,aC,aM,aJ⟩)
   refine Or.inl (eX (.val (.bool J)) (aI ?_ ?_))
   ·intro bh bz
    rintro _ ⟨_,rfl,⟨aX,a1,rfl,a3,a4,bt,bo⟩⟩
    exact aI rfl (aI rfl rfl)
   intro bi aP
   rintro _ ⟨ag,al,rfl,aD,aE,aN,bp⟩
   rintro _ _
   rintro _ _
   exact I2 A ⟨(IntKind.i64.wrap (m+1)),j,k,ag,a.length,al,a,rfl,rfl,(I.trans aP),(I0 _),aD,aE,aN,c⟩
  ·obtain rfl:=oJ c
   try dsimp only[S0,W0]at b
   obtain rfl:=oJ b
   exact⟨([.int .i64 u8,.int .i64 o,.slice x u.length z]),rfl,(H0 U V G),(ab.trans I)⟩
theorem q0f(h:Hp)(I:List Value)(L:j0)(af:U1.R h I L)(r:J8)(w:R01 L=some r):
  Tr Tryz.prog 134 #[.agg I.toArray] h λv o=>∃(G:Option Addr) (K H:Nat),v = .slice G K H/\N0h.R o [.slice G K H] r/\Sub h o:=by
 obtain⟨ad,ae,M,ax,O,y,rfl,rfl,am,an,D⟩:=M0 af
 obtain⟨rfl,av⟩:=Sl.len D
 unfold R01 at w
 dsimp only at w
 refine G2 (args:=[.agg #[.int .i64 ad,.int .i64 ae,.slice M y.length O]]) (fn:=Tryz.f134) rfl ?_
 obtain⟨E,V,w⟩:=B0 w
 refine eX { vars:=[4],boxes:=[],owns:=[0],fuel:=true } (eX (λvs os o=>∃ m C x,vs.tail = [.int .i64 m]/\os = [C]/\Sub h o/\K0 m/\F2 (j5.R o) C x/\I7 y (J1 vs) m x=some E) (eX (λ_ _=>0) (aI (eX Q0 ⟨0,[],([]:J8),rfl,rfl,(Sub.refl _),(by decide),(show F2 (j5.R h) ([]:List (List Value)) ([]:J8) from trivial),V⟩) ?_)))
 rintro _ C z ac ⟨m,aG,x,⟨⟩,⟨⟩,A,ao,J,g⟩
 replace g:I7 y z m x=some E:=g
 obtain _|z:=z
 ·cases g
 rw[I7.eq_2]at g
 refine ifB g (λab g=>?_) λab g=>?_
 ·obtain⟨F,W,g⟩:=B0 g
  refine eX { vars:=[5],boxes:=[],owns:=[0],fuel:=true } (eX (λvs os o=>∃ u8 s n,vs.tail = [.int .i64 u8]/\os = [s]/\Sub ac o/\K0 u8/\F2 (j5.R o) s n/\M4 y m (J1 vs) u8 n=some F) (eX (λ_ _=>0) (aI (eX Q0 ⟨(IntKind.i64.wrap (m+1)),C,x,rfl,rfl,(Sub.refl _),(I0 _),J,W⟩) ?_)))
  rintro _ s t l ⟨u8,aH,n,⟨⟩,⟨⟩,u,ap,i,f⟩
  replace f:M4 y m t u8 n=some F:=f
  obtain _|t:=t
  ·cases f
  rw[M4.eq_2]at f
  refine ifB f (λX f=>?_) λX f=>?_
  ·refine ld f (G1.mono (A.trans u) D) λaC ak ag f=>?_
   obtain⟨c,aD,a,rfl,rfl,p,aq,j⟩:=M2 ag
   try dsimp only at f
   refine ld f (G1.mono (A.trans u) D) λaE al ah f=>?_
   obtain⟨d,aF,b,rfl,rfl,q,ar,k⟩:=M2 ah
   try dsimp only at f
   refine ifB f (λY f=>?_) λY f=>?_
   ·obtain⟨ay,S,f⟩:=B0 f
    refine aI (F1 S (by first|rw[F2.length i,F2.length (show F2 (j5.R l) ([[.int .i64 (if b<a then b else a),.int .i64 (if b>a then b else a)]]:List (List Value)) [((if b<a then b else a),(if b>a then b else a))] from⟨(P2 (i8 k j) (i8 k j)),trivial⟩)]|exact congrArg (·+1) (F2.length i))) ?_
    refine ifB f (λZ f=>?_) λZ f=>?_
    ·obtain⟨az,T,f⟩:=B0 f
     refine aI (F1 T (by first|rw[F2.length (F2.append i (show F2 (j5.R l) ([[.int .i64 (if b<a then b else a),.int .i64 (if b>a then b else a)]]:List (List Value)) [((if b<a then b else a),(if b>a then b else a))] from⟨(P2 (i8 k j) (i8 k j)),trivial⟩)),F2.length (show F2 (j5.R l) ([[.int .i64 (if d<c then d else c),.int .i64 (if d>c then d else c)]]:List (List Value)) [((if d<c then d else c),(if d>c then d else c))] from⟨(P2 (i8 q p) (i8 q p)),trivial⟩)]|exact congrArg (·+1) (F2.length (F2.append i (show F2 (j5.R l) ([[.int .i64 (if b<a then b else a),.int .i64 (if b>a then b else a)]]:List (List Value)) [((if b<a then b else a),(if b>a then b else a))] from⟨(P2 (i8 k j) (i8 k j)),trivial⟩))))) ?_
     exact I2 t ⟨(IntKind.i64.wrap (u8+1)),((s++([[.int .i64 (if b<a then b else a),.int .i64 (if b>a then b else a)]]:List (List Value)))++([[.int .i64 (if d<c then d else c),.int .i64 (if d>c then d else c)]]:List (List Value))),((n ++ [((if b<a then b else a),(if b>a then b else a))]) ++ [((if d<c then d else c),(if d>c then d else c))]),rfl,rfl,u,(I0 _),(F2.append (F2.append i (show F2 (j5.R l) ([[.int .i64 (if b<a then b else a),.int .i64 (if b>a then b else a)]]:List (List Value)) [((if b<a then b else a),(if b>a then b else a))] from⟨(P2 (i8 k j) (i8 k j)),trivial⟩)) (show F2 (j5.R l) ([[.int .i64 (if d<c then d else c),.int .i64 (if d>c then d else c)]]:List (List Value)) [((if d<c then d else c),(if d>c then d else c))] from⟨(P2 (i8 q p) (i8 q p)),trivial⟩)),f⟩
    ·exact I2 t ⟨(IntKind.i64.wrap (u8+1)),(s++([[.int .i64 (if b<a then b else a),.int .i64 (if b>a then b else a)]]:List (List Value))),(n ++ [((if b<a then b else a),(if b>a then b else a))]),rfl,rfl,u,(I0 _),(F2.append i (show F2 (j5.R l) ([[.int .i64 (if b<a then b else a),.int .i64 (if b>a then b else a)]]:List (List Value)) [((if b<a then b else a),(if b>a then b else a))] from⟨(P2 (i8 k j) (i8 k j)),trivial⟩)),f⟩
   ·refine ifB f (λaa f=>?_) λaa f=>?_
    ·obtain⟨aA,U,f⟩:=B0 f
     refine aI (F1 U (by first|rw[F2.length i,F2.length (show F2 (j5.R l) ([[.int .i64 (if d<c then d else c),.int .i64 (if d>c then d else c)]]:List (List Value)) [((if d<c then d else c),(if d>c then d else c))] from⟨(P2 (i8 q p) (i8 q p)),trivial⟩)]|exact congrArg (·+1) (F2.length i))) ?_
     exact I2 t ⟨(IntKind.i64.wrap (u8+1)),(s++([[.int .i64 (if d<c then d else c),.int .i64 (if d>c then d else c)]]:List (List Value))),(n ++ [((if d<c then d else c),(if d>c then d else c))]),rfl,rfl,u,(I0 _),(F2.append i (show F2 (j5.R l) ([[.int .i64 (if d<c then d else c),.int .i64 (if d>c then d else c)]]:List (List Value)) [((if d<c then d else c),(if d>c then d else c))] from⟨(P2 (i8 q p) (i8 q p)),trivial⟩)),f⟩
    ·exact I2 t ⟨(IntKind.i64.wrap (u8+1)),s,n,rfl,rfl,u,(I0 _),i,f⟩
  ·obtain rfl:=oJ f
   try dsimp only[S0,W0]at g
   exact I2 z ⟨(IntKind.i64.wrap (m+1)),s,n,rfl,rfl,(A.trans u),(I0 _),i,g⟩
 ·obtain rfl:=oJ g
  try dsimp only[S0,W0]at w
  intro aB au Q
  obtain⟨N,P,rfl,ai,aj,aw⟩:=V0.out (r:=j5.toRp) Q J
  obtain rfl:=oJ w
  exact⟨N,x.length,P,rfl,ai,(A.trans aj)⟩
theorem h0c(h:Hp)(d:List Value)(j:j0)(x:U1.R h d j)(r:K4×Bool)(a:D9 j=some r):
  Tr Tryz.prog 116 #[.agg d.toArray] h λv f=>∃(c:List Value),v = .tuple #[.agg c.toArray,.bool r.2]/\j5.R f c r.1/\Sub h f:=by
 obtain⟨t,u,m,I,n,w,rfl,rfl,g,i,b⟩:=M0 x
 obtain⟨rfl,G⟩:=Sl.len b
 unfold D9 at a
 dsimp only at a
 refine G2 (args:=[.agg #[.int .i64 t,.int .i64 u,.slice m w.length n]]) (fn:=Tryz.f116) rfl ?_
 refine trV a (Y7 _ _ _ (H0 g i b)) λL a=>?_
 refine ifB a (λo a=>?_) λo a=>?_
 ·obtain rfl:=oJ a
  exact⟨([.int .i64 0,.int .i64 0]),rfl,(P2 (by decide) (by decide)),(Sub.refl _)⟩
 ·refine trM a (q0f _ _ _ (H0 g i b)) ?_
  rintro M a K F ⟨C,J,E,rfl,k,l⟩
  obtain⟨rfl,H⟩:=Sl.len k
  refine ifB a (λp a=>?_) λp a=>?_
  ·obtain rfl:=oJ a
   exact⟨([.int .i64 0,.int .i64 0]),rfl,(P2 (by decide) (by decide)),l⟩
  ·refine ld a k λN D y a=>?_
   obtain⟨z,A,rfl,rfl,q,s⟩:=a03 y
   try dsimp only at a
   obtain rfl:=oJ a
   exact⟨([.int .i64 z,.int .i64 A]),rfl,(P2 q s),l⟩
theorem f0b(h:Hp)(b:Int)(n:K0 b)(c:List Value)(d:K4)(m:j5.R h c d)(r:Int)(a:h02 b d=some r):
  Tr Tryz.prog 135 #[.int .i64 b,.agg c.toArray] h λv f=>v = .int .i64 r/\f=h:=by
 obtain⟨k,l,rfl,rfl,o,p⟩:=a03 m
 unfold h02 at a
 dsimp only at a
 refine Tr.forget (G2 (args:=[.int .i64 b,.agg #[.int .i64 k,.int .i64 l]]) (fn:=Tryz.f135) rfl ?_)
 refine ifB a (λg a=>?_) λg a=>?_
 ·refine ifB a (λi a=>?_) λi a=>?_
  ·obtain rfl:=oJ a
   exact aI rfl (Sub.refl _)
  ·obtain rfl:=oJ a
   exact aI rfl (Sub.refl _)
 ·refine ifB a (λj a=>?_) λj a=>?_
  ·obtain rfl:=oJ a
   exact aI rfl (Sub.refl _)
  ·obtain rfl:=oJ a
   exact aI rfl (Sub.refl _)
theorem k08(h:Hp)(z:List Value)(H:j0)(ap:U1.R h z H)(A:List Value)(K:K4)(aq:j5.R h A K)(r:j0×Bool)(b:J7 H K=some r):
  Tr Tryz.prog 117 #[.agg z.toArray,.agg A.toArray] h λv f=>∃(y:List Value),v = .tuple #[.agg y.toArray,.bool r.2]/\U1.R f y r.1/\Sub h f:=by
 obtain⟨I,J,S,aL,V,o,rfl,rfl,m,C,l⟩:=M0 ap
 obtain⟨rfl,aG⟩:=Sl.len l
 obtain⟨p,q,rfl,rfl,D,E⟩:=a03 aq
 unfold J7 at b
 dsimp only at b
 refine G2 (args:=[.agg #[.int .i64 I,.int .i64 J,.slice S o.length V],.agg #[.int .i64 p,.int .i64 q]]) (fn:=Tryz.f117) rfl ?_
 refine trV b (Y7 _ _ _ (H0 m C l)) λaW b=>?_
 refine ifB b (λae b=>?_) λae b=>?_
 ·refine trM b (A9 _ _ _ (H0 m C l)) ?_
  rintro a0 b aV ao ⟨aB,rfl,P⟩
  have av:Sub h ao:=P.sub
  have au:=P.r
  obtain⟨ax,ay,U,aN,X,az,rfl,rfl,ak,al,M⟩:=M0 au
  obtain⟨rfl,aK⟩:=Sl.len M
  try dsimp only at b
  obtain rfl:=oJ b
  exact⟨([.int .i64 ax,.int .i64 ay,.slice U az.length X]),rfl,(H0 ak al M),av⟩
 ·obtain⟨x,ac,b⟩:=B0 b
  refine eX { vars:=[7],boxes:=[3],owns:=[],fuel:=true } (eX (λvs os f=>∃ d u8 c i n j g,vs.tail = [.int .i64 d,.int .i64 u8,.int .i64 c,.slice i n j]/\os = []/\Sub h f/\K0 d/\K0 u8/\K0 c/\G1.R f [.slice i n j] g/\S4 o p q (J1 vs) d u8 c g=some x) (eX (λ_ _=>0) (aI (eX Q0 ⟨0,I,(IntKind.i64.wrap (J-1)),none,0,0,[],rfl,rfl,(Sub.refl _),(by decide),m,(I0 _),(Z02 E2 h),ac⟩) ?_)))
  rintro _ _ _ _ k am ⟨d,u8,c,i,n,j,g,⟨⟩,⟨⟩,t,aC,F,G,s,a⟩
  replace a:S4 o p q k d u8 c g=some x:=a
  obtain _|k:=k
  ·cases a
  rw[S4.eq_2]at a
  obtain⟨rfl,aH⟩:=Sl.len s
  refine ifB a (λad a=>?_) λad a=>?_
  ·refine ld a (G1.mono t l) λaX aA ar a=>?_
   obtain⟨aY,aw,aZ,rfl,rfl,af,ag,ah⟩:=M2 ar
   try dsimp only at a
   refine Or.inr (Or.inr (Or.inl (aI (aI (by kernel_rfl) (by kernel_rfl)) ?_)))
   obtain⟨u,aa,a⟩:=B0 a
   obtain⟨aO,Y,a⟩:=B0 a
   have ai:K0 u:=T0 Y
   refine Or.inl (eX (.val (.int .i64 u)) (aI ?_ ?_))
   ·intro aD aQ
    exact Tr.val (f0b _ _ af _ _ (P2 D E) _ aa) (aI rfl (aI rfl rfl))
   obtain⟨w,ab,a⟩:=B0 a
   obtain⟨aP,Z,a⟩:=B0 a
   have aj:K0 w:=T0 Z
   refine Or.inl (eX (.val (.int .i64 w)) (aI ?_ ?_))
   ·intro aE aR
    exact Tr.val (f0b _ _ ah _ _ (P2 D E) _ ab) (aI rfl (aI rfl rfl))
   refine Or.inl (eX (.agg [.val (.int .i64 u),.val (.int .i64 aw),.val (.int .i64 w)]) (aI ?_ ?_))
   ·intro aF aS
    exact aI rfl (aI rfl rfl)
   refine Or.inr ?_
   refine Or.inr ?_
   refine Or.inl (eX 1 (aI (aI rfl rfl) ?_))
   refine trM a (n02 _ _ _ _ _ s _ _ (Y1 ai ag aj)) ?_
   rintro Q a aU an ⟨T,aM,W,rfl,O⟩
   have N:Sub am an:=O.sub
   have L:=O.r
   obtain⟨rfl,aJ⟩:=Sl.len L
   refine aI (aI rfl N) (aI (by first|exact trivial|exact rfl) ?_)
   refine aT ?_
   exact I2 k ⟨(IntKind.i64.wrap (d+1)),u8,c,T,Q.length,W,Q,rfl,rfl,(t.trans N),(I0 _),F,G,L,a⟩
  ·obtain rfl:=oJ a
   try dsimp only[S0,W0]at b
   obtain rfl:=oJ b
   exact⟨([.int .i64 u8,.int .i64 c,.slice i g.length j]),rfl,(H0 F G s),t⟩
theorem c0d(h:Hp)(k:List Value)(n:j0)(M:U1.R h k n)(r:j0×K4×Bool)(a:m01 n=some r):
  Tr Tryz.prog 95 #[.agg k.toArray] h λv d=>∃(i:List Value) (j:List Value),v = .tuple #[.agg i.toArray,.agg j.toArray,.bool r.2.2]/\U1.R d i r.1/\j5.R d j r.2.1/\Sub h d:=by
 obtain⟨J,K,u,ai,y,L,rfl,rfl,f,g,b⟩:=M0 M
 obtain⟨rfl,af⟩:=Sl.len b
 unfold m01 at a
 dsimp only at a
 refine G2 (args:=[.agg #[.int .i64 J,.int .i64 K,.slice u L.length y]]) (fn:=Tryz.f95) rfl ?_
 refine trM a (h0c _ _ _ (H0 f g b)) ?_
 rintro Q a am H ⟨ab,rfl,o,c⟩
 obtain⟨ao,ap⟩:=Q
 dsimp only at a o
 obtain⟨S,T,rfl,rfl,l,m⟩:=a03 o
 try dsimp only at a
 refine ifB a (λC a=>?_) λC a=>?_
 ·refine trM a (A9 _ _ _ (H0 f g (G1.mono c b))) ?_
  rintro aq a an I ⟨ac,rfl,t⟩
  have O:Sub H I:=t.sub
  have N:=t.r
  obtain⟨U,V,w,aj,z,W,rfl,rfl,D,E,p⟩:=M0 N
  obtain⟨rfl,ag⟩:=Sl.len p
  try dsimp only at a
  obtain rfl:=oJ a
  exact⟨([.int .i64 U,.int .i64 V,.slice w W.length z]),([.int .i64 0,.int .i64 0]),rfl,(H0 D E p),(P2 (by decide) (by decide)),(c.trans O)⟩
 ·refine trM a (k08 _ _ _ (H0 f g (G1.mono c b)) _ _ (P2 l m)) ?_
  rintro X a al ae ⟨ad,rfl,q,P⟩
  obtain⟨ar,au⟩:=X
  dsimp only at a q
  obtain⟨Y,Z,x,ak,A,aa,rfl,rfl,F,G,s⟩:=M0 q
  obtain⟨rfl,ah⟩:=Sl.len s
  try dsimp only at a
  refine Or.inr (Or.inr (Or.inl (aI (aI (by kernel_rfl) (by kernel_rfl)) ?_)))
  refine Or.inr ?_
  refine Or.inr ?_
  refine Or.inl (eX 0 (aI (aI rfl rfl) ?_))
  refine aT ?_
  refine aT ?_
  obtain rfl:=oJ a
  exact⟨([.int .i64 Y,.int .i64 Z,.slice x aa.length A]),([.int .i64 S,.int .i64 T]),rfl,(H0 F G s),(P2 l m),(c.trans P)⟩
theorem r0f(h:Hp)(E:List Value)(J:j0)(ax:U1.R h E J)(r:j0×J8)(b:S01 J=some r):
  Tr Tryz.prog 74 #[.agg E.toArray] h λv c=>∃(D:List Value) (A:Option Addr) (I C:Nat),v = .tuple #[.agg D.toArray,.slice A I C]/\U1.R c D r.1/\N0h.R c [.slice A I C] r.2/\Sub h c:=by
 obtain⟨au,av,W,aV,ab,aw,rfl,rfl,am,an,K⟩:=M0 ax
 obtain⟨rfl,aO⟩:=Sl.len K
 unfold S01 at b
 dsimp only at b
 refine G2 (args:=[.agg #[.int .i64 au,.int .i64 av,.slice W aw.length ab]]) (fn:=Tryz.f74) rfl ?_
 refine trM b (A9 _ _ _ (H0 am an K)) ?_
 rintro a3 b a2 w ⟨aG,rfl,T⟩
 have P:Sub h w:=T.sub
 have ay:=T.r
 obtain⟨aE,aF,Y,aX,ad,V,rfl,rfl,aq,ar,O⟩:=M0 ay
 obtain⟨rfl,aR⟩:=Sl.len O
 try dsimp only at b
 obtain⟨z,aj,b⟩:=B0 b
 refine eX { vars:=[6],boxes:=[2],owns:=[0],fuel:=true } (eX (λvs os c=>∃ j f g m x n u8 s i,vs.tail = [.int .i64 j,.int .i64 f,.int .i64 g,.slice m x n]/\os = [s]/\Sub w c/\K0 j/\K0 f/\K0 g/\G1.R c [.slice m x n] u8/\F2 (j5.R c) s i/\w6 (J1 vs) j f g u8 i=some z) (eX (λ_ _=>0) (aI (eX Q0 ⟨0,aE,aF,Y,V.length,ad,V,[],([]:J8),rfl,rfl,(Sub.refl _),(by decide),aq,ar,O,(show F2 (j5.R w) ([]:List (List Value)) ([]:J8) from trivial),aj⟩) ?_)))
 rintro _ _ _ _ s p aL ⟨j,f,g,m,x,n,u8,bc,i,⟨⟩,⟨⟩,y,aK,t,u,q,o,a⟩
 replace a:w6 p j f g u8 i=some z:=a
 obtain _|p:=p
 ·cases a
 rw[w6.eq_2]at a
 obtain⟨rfl,aP⟩:=Sl.len q
 refine ifB a (λak a=>?_) λak a=>?_
 ·refine trM a (c0d _ _ _ (H0 t u q)) ?_
  rintro aB a aZ H ⟨aH,aJ,rfl,L,N,d⟩
  obtain⟨a4,ba,bb⟩:=aB
  dsimp only at a L N
  obtain⟨aC,aD,X,aW,ac,U,rfl,rfl,ao,ap,M⟩:=M0 L
  obtain⟨rfl,aQ⟩:=Sl.len M
  try dsimp only at a
  obtain⟨k,l,rfl,rfl,F,G⟩:=a03 N
  try dsimp only at a
  refine ifB a (λal a=>?_) λal a=>?_
  ·intro a0 aM ag
   obtain⟨Z,ae,rfl,az,Q,aS⟩:=V0.out (r:=j5.toRp) ag (F2.up (r:=j5.toRp) d o)
   obtain rfl:=oJ a
   try dsimp only[L1,M1]at b
   obtain rfl:=oJ b
   exact⟨([.int .i64 f,.int .i64 g,.slice m u8.length n]),Z,i.length,ae,rfl,(H0 t u (G1.mono (d.trans Q) q)),az,(((P.trans y).trans d).trans Q)⟩
  ·obtain⟨aY,ai,a⟩:=B0 a
   refine aI (F1 ai (by first|rw[F2.length (F2.up (r:=j5.toRp) d o),F2.length (show F2 (j5.R H) ([[.int .i64 k,.int .i64 l]]:List (List Value)) [(k,l)] from⟨(P2 F G),trivial⟩)]|exact congrArg (·+1) (F2.length (F2.up (r:=j5.toRp) d o)))) ?_
   exact I2 p ⟨(IntKind.i64.wrap (j+1)),aC,aD,X,U.length,ac,U,(s++([[.int .i64 k,.int .i64 l]]:List (List Value))),(i ++ [(k,l)]),rfl,rfl,(y.trans d),(I0 _),ao,ap,M,(F2.append (F2.up (r:=j5.toRp) d o) (show F2 (j5.R H) ([[.int .i64 k,.int .i64 l]]:List (List Value)) [(k,l)] from⟨(P2 F G),trivial⟩)),a⟩
 ·obtain rfl:=oJ a
  try dsimp only[S0,W0]at b
  intro a1 aN ah
  obtain⟨aa,af,rfl,aA,S,aU⟩:=V0.out (r:=j5.toRp) ah o
  obtain rfl:=oJ b
  exact⟨([.int .i64 f,.int .i64 g,.slice m u8.length n]),aa,i.length,af,rfl,(H0 t u (G1.mono S q)),aA,((P.trans y).trans S)⟩
theorem i0c(h:Hp)(al:List Value)(aq:j0)(bc:U1.R h al aq)(r:j0×D0)(d:N00 aq=some r):
  Tr Tryz.prog 75 #[.agg al.toArray] h λv c=>∃(ak:List Value) (ai:Option Addr) (ap aj:Nat),v = .tuple #[.agg ak.toArray,.slice ai ap aj]/\U1.R c ak r.1/\C0.R c [.slice ai ap aj] r.2/\Sub h c:=by
 obtain⟨D,E,aC,bH,aH,F,rfl,rfl,W,X,Q⟩:=M0 bc
 obtain⟨rfl,bz⟩:=Sl.len Q
 unfold N00 at d
 dsimp only at d
 refine G2 (args:=[.agg #[.int .i64 D,.int .i64 E,.slice aC F.length aH]]) (fn:=Tryz.f75) rfl ?_
 refine trM d (A9 _ _ _ (H0 W X Q)) ?_
 rintro bT d bP Y ⟨bo,rfl,az⟩
 have U:Sub h Y:=az.sub
 have be:=az.r
 obtain⟨bi,bj,aD,bI,aJ,aA,rfl,rfl,a3,a4,ar⟩:=M0 be
 obtain⟨rfl,bC⟩:=Sl.len ar
 try dsimp only at d
 obtain⟨ah,aX,d⟩:=B0 d
 refine eX { vars:=[6],boxes:=[],owns:=[0],fuel:=true } (eX (λvs os c=>∃ g V m,vs.tail = [.int .i64 g]/\os = [V]/\Sub Y c/\K0 g/\F2 (Wp.int.R c) V m/\o6 E D F (J1 vs) g m=some ah) (eX (λ_ _=>0) (aI (eX Q0 ⟨0,[],([]:D0),rfl,rfl,(Sub.refl _),(by decide),(show F2 (Wp.int.R Y) ([]:List (List Value)) ([]:D0) from trivial),aX⟩) ?_)))
 rintro _ V P aa ⟨g,b0,m,⟨⟩,⟨⟩,n,an,K,a⟩
 replace a:o6 E D F P g m=some ah:=a
 obtain _|P:=P
 ·cases a
 rw[o6.eq_2]at a
 refine trG a (λq=>Y7 _ _ _ (H0 W X (G1.mono (U.trans n) Q))) λbX a=>?_
 refine ifB a (λaY a=>?_) λaY a=>?_
 ·obtain⟨bK,aQ,a⟩:=B0 a
  refine aI (F1 aQ (by first|rw[F2.length K,F2.length (show F2 (Wp.int.R aa) ([[.int .i64 g]]:List (List Value)) [g] from⟨⟨rfl,an⟩,trivial⟩)]|exact congrArg (·+1) (F2.length K))) ?_
  exact I2 P ⟨(IntKind.i64.wrap (g+1)),(V++([[.int .i64 g]]:List (List Value))),(m ++ [g]),rfl,rfl,n,(I0 _),(F2.append K (show F2 (Wp.int.R aa) ([[.int .i64 g]]:List (List Value)) [g] from⟨⟨rfl,an⟩,trivial⟩)),a⟩
 ·obtain rfl:=oJ a
  try dsimp only[S0,W0]at d
  obtain⟨af,aV,d⟩:=B0 d
  refine eX { vars:=[5,7],boxes:=[2],owns:=[],fuel:=true,pubs:=[5] } (eX (λvs os c=>∃(u:Option Addr) (ab x:Nat) (j:D0) (o:Int) (l:Int) (i:Int) (w:Option Addr) (ac y:Nat) (p:E1),vs.tail = [.slice u ab x,.int .i64 o,.int .i64 l,.int .i64 i,.slice w ac y]/\os = []/\Sub aa c/\C0.R c [.slice u ab x] j/\K0 o/\K0 l/\K0 i/\G1.R c [.slice w ac y] p/\l6 D E F (J1 vs) j o l i p=some af) (eX (λ_ _=>0) ?_))
  intro bO bt aN
  obtain⟨aF,aL,rfl,bf,ax,bE⟩:=V0.out (r:=Wp.int.toRp) aN K
  refine aI (eX Q0 ⟨aF,m.length,aL,m,0,bi,bj,aD,aA.length,aJ,aA,rfl,rfl,ax,bf,(by decide),a3,a4,(G1.mono (n.trans ax) ar),aV⟩) ?_
  rintro _ _ _ _ _ O Z ⟨u,ab,x,j,o,l,i,w,ac,y,p,⟨⟩,⟨⟩,T,S,br,L,M,G,a⟩
  replace a:l6 D E F O j o l i p=some af:=a
  obtain _|O:=O
  ·cases a
  rw[l6.eq_2]at a
  obtain⟨rfl,bA⟩:=Sl.len S
  obtain⟨rfl,bB⟩:=Sl.len G
  refine trG a (λq=>Y7 _ _ _ (H0 W X (G1.mono ((U.trans n).trans T) Q))) λbU a=>?_
  refine ifB a (λaZ a=>?_) λaZ a=>?_
  ·refine trV a (f09 _ _ _ (H0 L M G)) λae a=>?_
   obtain⟨bL,aR,a⟩:=B0 a
   have bs:K0 ae:=T0 aR
   refine ifB a (λa0 a=>?_) λa0 a=>?_
   ·obtain rfl:=oJ a
    try dsimp only[L1,M1]at d
    obtain rfl:=oJ d
    exact⟨([.int .i64 l,.int .i64 i,.slice w p.length y]),u,j.length,x,rfl,(H0 L M G),S,((U.trans n).trans T)⟩
   ·obtain⟨ag,aW,a⟩:=B0 a
    refine eX { vars:=[11],boxes:=[],owns:=[1,2],fuel:=true } (eX (λvs os c=>∃ f I s J k,vs.tail = [.int .i64 f]/\os = [I,J]/\Sub Z c/\K0 f/\F2 (Wp.int.R c) I s/\F2 (Wp.int.R c) J k/\H5 i ae j (J1 vs) f s k=some ag) (eX (λ_ _=>0) (aI (eX Q0 ⟨0,[],([]:D0),[],([]:D0),rfl,rfl,(Sub.refl _),(by decide),(show F2 (Wp.int.R Z) ([]:List (List Value)) ([]:D0) from trivial),(show F2 (Wp.int.R Z) ([]:List (List Value)) ([]:D0) from trivial),aW⟩) ?_)))
    rintro _ I J C N ⟨f,bY,s,bZ,k,⟨⟩,⟨⟩,H,am,z,A,b⟩
    replace b:H5 i ae j C f s k=some ag:=b
    obtain _|C:=C
    ·cases b
    rw[H5.eq_2]at b
    refine ifB b (λa1 b=>?_) λa1 b=>?_
    ·refine ifB b (λa2 b=>?_) λa2 b=>?_
     ·obtain⟨bM,aS,b⟩:=B0 b
      refine aI (F1 aS (by first|rw[F2.length z,F2.length (show F2 (Wp.int.R N) ([[.int .i64 f]]:List (List Value)) [f] from⟨⟨rfl,am⟩,trivial⟩)]|exact congrArg (·+1) (F2.length z))) ?_
      refine ldI b (C0.mono H S) λt ao b=>?_
      obtain⟨bN,aU,b⟩:=B0 b
      refine aI (F1 aU (by first|rw[F2.length A,F2.length (show F2 (Wp.int.R N) ([[.int .i64 t]]:List (List Value)) [t] from⟨⟨rfl,ao⟩,trivial⟩)]|exact congrArg (·+1) (F2.length A))) ?_
      exact I2 C ⟨(IntKind.i64.wrap (f+1)),(I++([[.int .i64 f]]:List (List Value))),(s ++ [f]),(J++([[.int .i64 t]]:List (List Value))),(k ++ [t]),rfl,rfl,H,(I0 _),(F2.append z (show F2 (Wp.int.R N) ([[.int .i64 f]]:List (List Value)) [f] from⟨⟨rfl,am⟩,trivial⟩)),(F2.append A (show F2 (Wp.int.R N) ([[.int .i64 t]]:List (List Value)) [t] from⟨⟨rfl,ao⟩,trivial⟩)),b⟩
     ·exact I2 C ⟨(IntKind.i64.wrap (f+1)),I,s,J,k,rfl,rfl,H,(I0 _),z,A,b⟩
    ·obtain rfl:=oJ b
     try dsimp only[S0,W0]at a
     refine Or.inl ?_
     intro bQ bu aO
     obtain⟨bn,bq,rfl,bg,ad,bF⟩:=V0.out (r:=Wp.int.toRp) aO z
     refine trM a (U03 _ _ _ (H0 L M (G1.mono (H.trans ad) G)) _ _ _ _ bg) ?_
     rintro bk a bR bv ⟨bp,rfl,au,aw⟩
     obtain⟨bV,bW⟩:=bk
     dsimp only at a au
     obtain⟨bl,bm,aE,bJ,aK,aB,rfl,rfl,ba,bb,av⟩:=M0 au
     obtain⟨rfl,bD⟩:=Sl.len av
     try dsimp only at a
     intro bS bx aP
     obtain⟨aG,aM,rfl,bh,ay,bG⟩:=V0.out (r:=Wp.int.toRp) aP (F2.up (r:=Wp.int.toRp) (ad.trans aw) A)
     exact I2 O ⟨aG,k.length,aM,k,(IntKind.i64.wrap (o+1)),bl,bm,aE,aB.length,aK,aB,rfl,rfl,((((T.trans H).trans ad).trans aw).trans ay),bh,(I0 _),ba,bb,(G1.mono ay av),a⟩
  ·obtain rfl:=oJ a
   try dsimp only[S0,W0]at d
   obtain rfl:=oJ d
   exact⟨([.int .i64 l,.int .i64 i,.slice w p.length y]),u,j.length,x,rfl,(H0 L M G),S,((U.trans n).trans T)⟩
theorem j0c(h:Hp)(c:List Value)(f:j0)(H:U1.R h c f)(r:j0)(a:O00 f=some r):
  Tr Tryz.prog 57 #[.agg c.toArray] h λv d=>∃(b:List Value),v = .agg b.toArray/\U1.R d b r/\Sub h d:=by
 obtain⟨E,F,p,am,s,G,rfl,rfl,u,w,g⟩:=M0 H
 obtain⟨rfl,ag⟩:=Sl.len g
 unfold O00 at a
 dsimp only at a
 refine G2 (args:=[.agg #[.int .i64 E,.int .i64 F,.slice p G.length s]]) (fn:=Tryz.f57) rfl ?_
 refine trM a (r0f _ _ _ (H0 u w g)) ?_
 rintro M a au ad ⟨W,T,ao,aa,rfl,i,k,J⟩
 obtain⟨ax,aB⟩:=M
 dsimp only at a i k
 obtain⟨ay,az,S,an,Z,aA,rfl,rfl,x,y,j⟩:=M0 i
 obtain⟨rfl,ah⟩:=Sl.len j
 try dsimp only at a
 obtain⟨rfl,ai⟩:=Sl.len k
 refine trM a (i0c _ _ _ (H0 x y j)) ?_
 rintro N a av ae ⟨X,V,aq,ac,rfl,l,n,K⟩
 obtain⟨aC,aG⟩:=N
 dsimp only at a l n
 obtain⟨aD,aE,U,ap,ab,aF,rfl,rfl,z,A,m⟩:=M0 l
 obtain⟨rfl,aj⟩:=Sl.len m
 try dsimp only at a
 obtain⟨rfl,ak⟩:=Sl.len n
 refine trM a (m03 _ _ _ (H0 z A m)) ?_
 rintro aH a aw af ⟨Y,rfl,I,L⟩
 obtain⟨O,P,q,ar,t,Q,rfl,rfl,C,D,o⟩:=M0 I
 obtain⟨rfl,al⟩:=Sl.len o
 try dsimp only at a
 obtain rfl:=oJ a
 exact⟨([.int .i64 O,.int .i64 P,.slice q Q.length t]),rfl,(H0 C D o),((J.trans K).trans L)⟩
set_option maxHeartbeats 0
theorem C05(h:Hp)(b:Int)(t:K0 b)(c:Option Addr)(j d:Nat)(f:N0)(k:Y0.R h [.slice c j d] f)(r:j0×Bool)(a:Y8 b f=some r):
  Tr Tryz.prog 34 #[.int .i64 b,.slice c j d] h λv i=>∃(g:List Value),v = .tuple #[.agg g.toArray,.bool r.2]/\U1.R i g r.1/\Sub h i:=by
 obtain⟨rfl,M⟩:=Sl.len k
 unfold Y8 at a
 refine G2 (args:=[.int .i64 b,.slice c f.length d]) (fn:=Tryz.f34) rfl ?_
 refine trM a (b0d _ _ t _ _ _ _ k) ?_
 rintro D a S z ⟨I,rfl,l,o⟩
 obtain⟨U,Y⟩:=D
 dsimp only at a l
 obtain⟨V,W,H,P,K,X,rfl,rfl,u,w,m⟩:=M0 l
 obtain⟨rfl,N⟩:=Sl.len m
 try dsimp only at a
 refine ifB a (λs a=>?_) λs a=>?_
 ·obtain rfl:=oJ a
  exact⟨([.int .i64 0,.int .i64 0,.slice none 0 0]),rfl,(H0 (by decide) (by decide) (Z02 E2 z)),o⟩
 ·refine trM a (j0c _ _ _ (H0 u w m)) ?_
  rintro Z a T L ⟨J,rfl,A,C⟩
  obtain⟨E,F,p,Q,q,G,rfl,rfl,x,y,n⟩:=M0 A
  obtain⟨rfl,O⟩:=Sl.len n
  try dsimp only at a
  obtain rfl:=oJ a
  exact⟨([.int .i64 E,.int .i64 F,.slice p G.length q]),rfl,(H0 x y n),(o.trans C)⟩
theorem L0f(h:Hp)(b:List Value)(c:j0)(p:U1.R h b c)(r:Int)(a:z01 c=some r):
  Tr Tryz.prog 55 #[.agg b.toArray] h λv i=>v = .int .i64 r/\i=h:=by
 obtain⟨m,n,f,s,g,o,rfl,rfl,k,l,d⟩:=M0 p
 obtain⟨rfl,q⟩:=Sl.len d
 unfold z01 at a
 dsimp only at a
 refine Tr.forget (G2 (args:=[.agg #[.int .i64 m,.int .i64 n,.slice f o.length g]]) (fn:=Tryz.f55) rfl ?_)
 refine trV a (B05 _ _ _ (H0 k l d)) λt a=>?_
 refine ifB a (λj a=>?_) λj a=>?_
 ·obtain rfl:=oJ a
  exact aI rfl (Sub.refl _)
 ·obtain rfl:=oJ a
  exact aI rfl (Sub.refl _)
theorem h03(h:Hp)(p:Option Addr)(H s:Nat)(i:N0)(I:Y0.R h [.slice p H s] i)(r:N0)(g:V7 i=some r):
  Tr Tryz.prog 51 #[.slice p H s] h λv f=>∃(z:Option Addr) (G A:Nat),v = .slice z G A/\New Y0 h f [.slice z G A] r:=by
 obtain⟨rfl,af⟩:=Sl.len I
 unfold V7 at g
 refine G2 (args:=[.slice p i.length s]) (fn:=Tryz.f51) rfl ?_
 obtain⟨y,Q,g⟩:=B0 g
 refine eX { vars:=[4],boxes:=[],owns:=[0],fuel:=true } (eX (λvs os f=>∃ c k b,vs.tail = [.int .i64 c]/\os = [k]/\Sub h f/\K0 c/\F2 (C0.R f) k b/\(∃ Bs,F3 (C0.W f) k b Bs/\c6 h Bs.flatten)/\N7 i (J1 vs) c b=some y) (eX (λ_ _=>0) (aI (eX Q0 ⟨0,[],([]:N0),rfl,rfl,(Sub.refl _),(by decide),(show F2 (C0.R h) ([]:List (List Value)) ([]:N0) from trivial),⟨_,(show F3 (C0.W h) [] [] [] from trivial),(c6.nil h)⟩,Q⟩) ?_)))
 rintro _ k n m ⟨c,ap,b,⟨⟩,⟨⟩,o,ae,l,⟨ab,x,E⟩,a⟩
 replace a:N7 i n c b=some y:=a
 obtain _|n:=n
 ·cases a
 rw[N7.eq_2]at a
 refine ifB a (λS a=>?_) λS a=>?_
 ·refine ld a (Y0.mono o I) λd ac w a=>?_
  obtain⟨aa,aj,ad,rfl⟩:=Wp.slice_cell w
  obtain⟨rfl,ag⟩:=Sl.len w
  obtain⟨X,M,u⟩:=Sl.rows (r:=Wp.int.toRp) w
  refine eX X (aI M ?_)
  obtain⟨al,P,a⟩:=B0 a
  refine aI (F1 P (by first|rw[F2.length (show F2 (Wp.int.R m) ([]:List (List Value)) ([]:D0) from trivial),F2.length u]|exact congrArg (·+1) (F2.length (show F2 (Wp.int.R m) ([]:List (List Value)) ([]:D0) from trivial)))) ?_
  intro ao F C
  obtain⟨q,t,rfl,J,j,ah⟩:=V0.out (r:=Wp.int.toRp) C (F2.append (show F2 (Wp.int.R m) ([]:List (List Value)) ([]:D0) from trivial) u)
  obtain⟨ak,O,a⟩:=B0 a
  refine aI (F1 O (by first|rw[F2.length (F2.up (r:=C0.toRp) j l),F2.length (show F2 (C0.R F) ([[.slice q ((([]:D0)++d)).length t]]:List (List Value)) [(([]:D0)++d)] from⟨J,trivial⟩)]|exact congrArg (·+1) (F2.length (F2.up (r:=C0.toRp) j l)))) ?_
  obtain⟨Z,Y,N,_⟩:=(V0.newPlain (r:=Wp.int) C (F2.append (show F2 (Wp.int.R m) ([]:List (List Value)) ([]:D0) from trivial) u) (d07 _))
  exact I2 n ⟨(IntKind.i64.wrap (c+1)),(k++([[.slice q ((([]:D0)++d)).length t]]:List (List Value))),(b ++ [(([]:D0)++d)]),rfl,rfl,(o.trans j),(I0 _),(F2.append (F2.up (r:=C0.toRp) j l) (show F2 (C0.R F) ([[.slice q ((([]:D0)++d)).length t]]:List (List Value)) [(([]:D0)++d)] from⟨J,trivial⟩)),⟨_,(F3.snoc Y (f0e x j)),(M06 x o E N)⟩,a⟩
 ·obtain rfl:=oJ a
  try dsimp only[S0,W0]at g
  intro V T D
  have U:New (Wp.slice C0) h T [V] b:=(V0.fresh (r:=C0) D x o E)
  obtain⟨K,L,rfl,am,an,ai⟩:=V0.out (r:=C0.toRp) D l
  obtain rfl:=oJ g
  exact⟨K,b.length,L,rfl,U⟩
theorem g09(h:Hp)(c:Bool)(b:ByteArray)(g:b.size<=9223372036854775807)(r:ByteArray)(a:C01 c b=some r):
  Tr Tryz.prog 13 #[.bool c,.string b] h λv d=>v = .string r/\d=h:=by
 unfold C01 at a
 refine Tr.forget (G2 (args:=[.bool c,.string b]) (fn:=Tryz.f13) rfl ?_)
 refine ifB a (λf a=>?_) λf a=>?_
 ·obtain rfl:=oJ a
  exact aI rfl (Sub.refl _)
 ·obtain rfl:=oJ a
  exact aI rfl (Sub.refl _)
theorem D05(h:Hp)(b:Option Addr)(f c:Nat)(d:(List ByteArray))(g:(Wp.slice Wp.str).R h [.slice b f c] d)(r:ByteArray)(a:z9 d=some r):
  Tr Tryz.prog 20 #[.slice b f c] h λv j=>v = .string r/\j=h:=by
 obtain⟨rfl,m⟩:=Sl.len g
 unfold z9 at a
 refine Tr.forget (G2 (args:=[.slice b d.length c]) (fn:=Tryz.f20) rfl ?_)
 refine trV a (c0b _ _ _ _ _ g (⟨#[32]⟩:ByteArray) (by decide) (⟨#[]⟩:ByteArray) (by decide)) λk a=>?_
 obtain⟨n,i,a⟩:=B0 a
 have l:k.size<=9223372036854775807:=T0 i
 obtain rfl:=oJ a
 exact aI rfl (Sub.refl _)
end Go.Proofs.YtohcdjhocpakkaaGreat
