/- Texts of the claim, joined: The walks of batch 1 and others. -/
import Derived.Test.YtmgikbbmpnbbjaaGreatPart22
import Derived.Test.YtmgikbbmpnbbjaaGreatChecked
import Derived.Test.YtmgikbbmpnbbjaaGreatH35
import Derived.Test.YtmgikbbmpnbbjaaGreatSI
import Derived.Test.YtmgikbbmpnbbjaaGreatPart25
import Derived.Test.YtmgikbbmpnbbjaaGreatH41
namespace Go.Proofs.YtmgikbbmpnbbjaaGreat
open Go.H
set_option linter.unusedVariables false
set_option linter.unusedSimpArgs false
set_option maxRecDepth 10000
theorem O6(h:Hp)(a:Int)(e:H0 a)(b:Int)(f:H0 b)(c:Int)(g:H0 c)(r:Bool)(d:T4 a b c=some r):
  Tr Tryz.prog 98 #[.int .i64 a,.int .i64 b,.int .i64 c] h λv h'=>v = .bool r/\h'=h:=by
 unfold T4 at d
 refine Tr.forget (G2 (args:=[.int .i64 a,.int .i64 b,.int .i64 c]) (fn:=Tryz.f98) rfl ?_)
 obtain rfl:=oJ d
 exact aI rfl (Sub.refl _)
theorem d07(h:Hp)(c:Int)(m:H0 c)(j:Option Addr)(n k:Nat)(f:J0)(g:O0.R h [.slice j n k] f)(r:Bool)(b:q01 c f=some r):
  Tr Tryz.prog 163 #[.int .i64 c,.slice j n k] h λv h'=>v = .bool r/\h'=h:=by
 obtain⟨rfl,A⟩:=Sl.len g
 unfold q01 at b
 refine Tr.forget (G2 (args:=[.int .i64 c,.slice j f.length k]) (fn:=Tryz.f163) rfl ?_)
 obtain⟨l,o,b⟩:=B0 b
 refine eX { vars:=[5],boxes:=[],owns:=[],fuel:=true } (eX (λvs os h'=>∃ e,vs.tail = [.int .i64 e]/\os = []/\Sub h h'/\H0 e/\V8 f c (O1 vs) e=some l) (eX (λ_ _=>0) (aI (eX V0 ⟨0,rfl,rfl,(Sub.refl _),(by decide),o⟩) ?_)))
 rintro _ i z ⟨e,⟨⟩,⟨⟩,d,u,a⟩
 replace a:V8 f c i e=some l:=a
 obtain _|i:=i
 ·cases a
 rw[V8.eq_2]at a
 refine ifB a (λs a=>?_) λs a=>?_
 ·refine Or.inl (aI (aI (by kernel_rfl) (by kernel_rfl)) ?_)
  refine ldI a (O0.mono d g) λE x a=>?_
  refine ldG a (O0.mono d g) λF t a=>?_
  refine trG a (λq=>O6 _ _ t (IntKind.i64.wrap (0-c)) (K0 _) _ m) λG a=>?_
  refine ldG a (O0.mono d g) λH y a=>?_
  refine ldG a (O0.mono d g) λC w a=>?_
  refine ifB a (λp a=>?_) λp a=>?_
  ·obtain rfl:=oJ a
   try dsimp only[M2,N2]at b
   obtain rfl:=oJ b
   exact aI rfl d
  ·exact D2 i ⟨(IntKind.i64.wrap (e+1)),rfl,rfl,d,(K0 _),a⟩
 ·obtain rfl:=oJ a
  try dsimp only[Y0,C1]at b
  refine trV b (O6 _ _ m 1 (by decide) 3 (by decide)) λD b=>?_
  obtain rfl:=oJ b
  exact aI rfl d
theorem t0b(h:Hp)(g:Option Addr)(l i:Nat)(e:O2)(m:Q2.R h [.slice g l i] e)(r:Int)(d:o9 e=some r):
  Tr Tryz.prog 224 #[.slice g l i] h λv h'=>v = .int .i64 r/\h'=h:=by
 obtain⟨rfl,z⟩:=Sl.len m
 unfold o9 at d
 refine Tr.forget (G2 (args:=[.slice g e.length i]) (fn:=Tryz.f224) rfl ?_)
 obtain⟨k,o,d⟩:=B0 d
 refine eX { vars:=[3,4],boxes:=[],owns:=[],fuel:=true } (eX (λvs os h'=>∃ b c,vs.tail = [.int .i64 b,.int .i64 c]/\os = []/\Sub h h'/\H0 b/\H0 c/\B4 e (O1 vs) b c=some k) (eX (λ_ _=>0) (aI (eX V0 ⟨0,0,rfl,rfl,(Sub.refl _),(by decide),(by decide),o⟩) ?_)))
 rintro _ _ f y ⟨b,c,⟨⟩,⟨⟩,j,w,x,a⟩
 replace a:B4 e f b c=some k:=a
 obtain _|f:=f
 ·cases a
 rw[B4.eq_2]at a
 refine ifB a (λp a=>?_) λp a=>?_
 ·refine ld a (Q2.mono j m) λq t n a=>?_
  obtain⟨s,C,u,rfl⟩:=Wp.slice_cell n
  obtain⟨rfl,A⟩:=Sl.len n
  exact D2 f ⟨(IntKind.i64.wrap (b+((q.length:Nat):Int))),(IntKind.i64.wrap (c+1)),rfl,rfl,j,(K0 _),(K0 _),a⟩
 ·obtain rfl:=oJ a
  try dsimp only[Y0,C1]at d
  obtain rfl:=oJ d
  exact aI rfl j
theorem N08(h:Hp)(c:Int)(n:H0 c)(i:Option Addr)(o j:Nat)(e:O2)(k:Q2.R h [.slice i o j] e)(r:Bool)(b:Z00 c e=some r):
  Tr Tryz.prog 140 #[.int .i64 c,.slice i o j] h λv h'=>v = .bool r/\h'=h:=by
 obtain⟨rfl,E⟩:=Sl.len k
 unfold Z00 at b
 refine Tr.forget (G2 (args:=[.int .i64 c,.slice i e.length j]) (fn:=Tryz.f140) rfl ?_)
 obtain⟨m,s,b⟩:=B0 b
 refine eX { vars:=[5],boxes:=[],owns:=[],fuel:=true } (eX (λvs os h'=>∃ d,vs.tail = [.int .i64 d]/\os = []/\Sub h h'/\H0 d/\t7 e c (O1 vs) d=some m) (eX (λ_ _=>0) (aI (eX V0 ⟨0,rfl,rfl,(Sub.refl _),(by decide),s⟩) ?_)))
 rintro _ g D ⟨d,⟨⟩,⟨⟩,f,A,a⟩
 replace a:t7 e c g d=some m:=a
 obtain _|g:=g
 ·cases a
 rw[t7.eq_2]at a
 refine ifB a (λt a=>?_) λt a=>?_
 ·refine ld a (Q2.mono f k) λI y l a=>?_
  obtain⟨x,G,z,rfl⟩:=Wp.slice_cell l
  obtain⟨rfl,F⟩:=Sl.len l
  refine trV a (d07 _ _ n _ _ _ _ l) λJ a=>?_
  refine ifB a (λu a=>?_) λu a=>?_
  ·obtain rfl:=oJ a
   try dsimp only[M2,N2]at b
   obtain rfl:=oJ b
   exact aI rfl f
  ·exact D2 g ⟨(IntKind.i64.wrap (d+1)),rfl,rfl,f,(K0 _),a⟩
 ·obtain rfl:=oJ a
  try dsimp only[Y0,C1]at b
  refine trV b (O6 _ _ n 1 (by decide) 3 (by decide)) λK b=>?_
  refine trG b (λq=>t0b _ _ _ _ _ (Q2.mono f k)) λw b=>?_
  obtain⟨H,p,b⟩:=B0 b
  have C:H0 w:=M0 p
  obtain rfl:=oJ b
  exact aI rfl f
theorem g9(h:Hp)(k:List Value)(l:D0)(u:T1.R h k l)(r:Bool)(b:L4 l=some r):
  Tr Tryz.prog 62 #[.agg k.toArray] h λv h'=>v = .bool r/\h'=h:=by
 obtain⟨t,m,G,n,g,rfl,rfl,s,i⟩:=J1 u
 obtain⟨rfl,E⟩:=Sl.len i
 unfold L4 at b
 dsimp only at b
 refine Tr.forget (G2 (args:=[.agg #[.int .i64 t,.slice m g.length n]]) (fn:=Tryz.f62) rfl ?_)
 obtain⟨j,o,b⟩:=B0 b
 refine eX { vars:=[3],boxes:=[],owns:=[],fuel:=true } (eX (λvs os h'=>∃ c,vs.tail = [.int .i64 c]/\os = []/\Sub h h'/\H0 c/\O4 g (O1 vs) c=some j) (eX (λ_ _=>0) (aI (eX V0 ⟨0,rfl,rfl,(Sub.refl _),(by decide),o⟩) ?_)))
 rintro _ e D ⟨c,⟨⟩,⟨⟩,d,z,a⟩
 replace a:O4 g e c=some j:=a
 obtain _|e:=e
 ·cases a
 rw[O4.eq_2]at a
 refine ifB a (λp a=>?_) λp a=>?_
 ·refine ld a (Q2.mono d i) λJ x f a=>?_
  obtain⟨w,H,y,rfl⟩:=Wp.slice_cell f
  obtain⟨rfl,F⟩:=Sl.len f
  refine Or.inl (aI (aI (by kernel_rfl) (by kernel_rfl)) ?_)
  refine ldG a f λK A a=>?_
  refine ldG a f λL C a=>?_
  refine ifB a (λq a=>?_) λq a=>?_
  ·obtain rfl:=oJ a
   try dsimp only[M2,N2]at b
   obtain rfl:=oJ b
   exact aI rfl d
  ·exact D2 e ⟨(IntKind.i64.wrap (c+1)),rfl,rfl,d,(K0 _),a⟩
 ·obtain rfl:=oJ a
  try dsimp only[Y0,C1]at b
  refine trV b (N08 _ _ s _ _ _ _ (Q2.mono d i)) λI b=>?_
  obtain rfl:=oJ b
  exact aI rfl d
theorem E8(h:Hp)(a:Int)(e:H0 a)(b:Int)(f:H0 b)(c:Int)(g:H0 c)(r:Bool)(d:p6 a b c=some r):
  Tr Tryz.prog 94 #[.int .i64 a,.int .i64 b,.int .i64 c] h λv h'=>v = .bool r/\h'=h:=by
 unfold p6 at d
 refine Tr.forget (G2 (args:=[.int .i64 a,.int .i64 b,.int .i64 c]) (fn:=Tryz.f94) rfl ?_)
 obtain rfl:=oJ d
 exact aI rfl (Sub.refl _)
theorem Y0e(h:Hp)(a:Int)(d:H0 a)(c:Int)(e:H0 c)(r:Bool)(b:Y01 a c=some r):
  Tr Tryz.prog 234 #[.int .i64 a,.int .i64 c] h λv h'=>v = .bool r/\h'=h:=by
 unfold Y01 at b
 refine Tr.forget (G2 (args:=[.int .i64 a,.int .i64 c]) (fn:=Tryz.f234) rfl ?_)
 refine trG b (λq=>E8 _ _ e (IntKind.i64.wrap (0-a)) (K0 _) _ d) λf b=>?_
 obtain rfl:=oJ b
 exact aI rfl (Sub.refl _)
theorem Z03(h:Hp)(a:Int)(d:H0 a)(b:Int)(e:H0 b)(r:Bool)(c:H8 a b=some r):
  Tr Tryz.prog 139 #[.int .i64 a,.int .i64 b] h λv h'=>v = .bool r/\h'=h:=by
 unfold H8 at c
 refine Tr.forget (G2 (args:=[.int .i64 a,.int .i64 b]) (fn:=Tryz.f139) rfl ?_)
 obtain rfl:=oJ c
 exact aI rfl (Sub.refl _)
theorem e07(h:Hp)(c:Int)(m:H0 c)(i:Option Addr)(o j:Nat)(e:J0)(k:O0.R h [.slice i o j] e)(r:Bool)(b:r01 c e=some r):
  Tr Tryz.prog 162 #[.int .i64 c,.slice i o j] h λv h'=>v = .bool r/\h'=h:=by
 obtain⟨rfl,z⟩:=Sl.len k
 unfold r01 at b
 refine Tr.forget (G2 (args:=[.int .i64 c,.slice i e.length j]) (fn:=Tryz.f162) rfl ?_)
 refine trV b (E8 _ _ m 1 (by decide) 3 (by decide)) λA b=>?_
 refine ifB b (λt b=>?_) λt b=>?_
 ·obtain rfl:=oJ b
  exact aI rfl (Sub.refl _)
 ·obtain⟨l,p,b⟩:=B0 b
  refine eX { vars:=[17],boxes:=[],owns:=[],fuel:=true } (eX (λvs os h'=>∃ d,vs.tail = [.int .i64 d]/\os = []/\Sub h h'/\H0 d/\W8 e c (O1 vs) d=some l) (eX (λ_ _=>0) (aI (eX V0 ⟨0,rfl,rfl,(Sub.refl _),(by decide),p⟩) ?_)))
  rintro _ g y ⟨d,⟨⟩,⟨⟩,f,x,a⟩
  replace a:W8 e c g d=some l:=a
  obtain _|g:=g
  ·cases a
  rw[W8.eq_2]at a
  refine ifB a (λu a=>?_) λu a=>?_
  ·refine ldI a (O0.mono f k) λE n a=>?_
   refine trV a (Y0e _ _ m _ n) λF a=>?_
   refine ldG a (O0.mono f k) λC w a=>?_
   refine trG a (λq=>Z03 _ _ w _ n) λD a=>?_
   refine ifB a (λs a=>?_) λs a=>?_
   ·obtain rfl:=oJ a
    try dsimp only[M2,N2]at b
    obtain rfl:=oJ b
    exact aI rfl f
   ·exact D2 g ⟨(IntKind.i64.wrap (d+1)),rfl,rfl,f,(K0 _),a⟩
  ·obtain rfl:=oJ a
   try dsimp only[Y0,C1]at b
   obtain rfl:=oJ b
   exact aI rfl f
theorem u0b(h:Hp)(g:Option Addr)(l i:Nat)(e:O2)(m:Q2.R h [.slice g l i] e)(r:Int)(d:E00 e=some r):
  Tr Tryz.prog 223 #[.slice g l i] h λv h'=>v = .int .i64 r/\h'=h:=by
 obtain⟨rfl,z⟩:=Sl.len m
 unfold E00 at d
 refine Tr.forget (G2 (args:=[.slice g e.length i]) (fn:=Tryz.f223) rfl ?_)
 obtain⟨k,o,d⟩:=B0 d
 refine eX { vars:=[3,8],boxes:=[],owns:=[],fuel:=true } (eX (λvs os h'=>∃ b c,vs.tail = [.int .i64 b,.int .i64 c]/\os = []/\Sub h h'/\H0 b/\H0 c/\F6 e (O1 vs) b c=some k) (eX (λ_ _=>0) (aI (eX V0 ⟨0,0,rfl,rfl,(Sub.refl _),(by decide),(by decide),o⟩) ?_)))
 rintro _ _ f y ⟨b,c,⟨⟩,⟨⟩,j,w,x,a⟩
 replace a:F6 e f b c=some k:=a
 obtain _|f:=f
 ·cases a
 rw[F6.eq_2]at a
 refine ifB a (λp a=>?_) λp a=>?_
 ·refine ld a (Q2.mono j m) λq t n a=>?_
  obtain⟨s,C,u,rfl⟩:=Wp.slice_cell n
  obtain⟨rfl,A⟩:=Sl.len n
  exact D2 f ⟨(IntKind.i64.wrap (b+((q.length:Nat):Int))),(IntKind.i64.wrap (c+1)),rfl,rfl,j,(K0 _),(K0 _),a⟩
 ·obtain rfl:=oJ a
  try dsimp only[Y0,C1]at d
  obtain rfl:=oJ d
  exact aI rfl j
theorem O08(h:Hp)(c:Int)(n:H0 c)(i:Option Addr)(o j:Nat)(e:O2)(k:Q2.R h [.slice i o j] e)(r:Bool)(a:a01 c e=some r):
  Tr Tryz.prog 138 #[.int .i64 c,.slice i o j] h λv h'=>v = .bool r/\h'=h:=by
 obtain⟨rfl,E⟩:=Sl.len k
 unfold a01 at a
 refine Tr.forget (G2 (args:=[.int .i64 c,.slice i e.length j]) (fn:=Tryz.f138) rfl ?_)
 refine trV a (E8 _ _ n 1 (by decide) 3 (by decide)) λI a=>?_
 refine ifB a (λt a=>?_) λt a=>?_
 ·obtain rfl:=oJ a
  exact aI rfl (Sub.refl _)
 ·obtain⟨m,q,a⟩:=B0 a
  refine eX { vars:=[17],boxes:=[],owns:=[],fuel:=true } (eX (λvs os h'=>∃ d,vs.tail = [.int .i64 d]/\os = []/\Sub h h'/\H0 d/\w7 e c (O1 vs) d=some m) (eX (λ_ _=>0) (aI (eX V0 ⟨0,rfl,rfl,(Sub.refl _),(by decide),q⟩) ?_)))
  rintro _ g D ⟨d,⟨⟩,⟨⟩,f,A,b⟩
  replace b:w7 e c g d=some m:=b
  obtain _|g:=g
  ·cases b
  rw[w7.eq_2]at b
  refine ifB b (λu b=>?_) λu b=>?_
  ·refine ld b (Q2.mono f k) λJ y l b=>?_
   obtain⟨x,G,z,rfl⟩:=Wp.slice_cell l
   obtain⟨rfl,F⟩:=Sl.len l
   refine trV b (e07 _ _ n _ _ _ _ l) λK b=>?_
   refine ifB b (λs b=>?_) λs b=>?_
   ·obtain rfl:=oJ b
    try dsimp only[M2,N2]at a
    obtain rfl:=oJ a
    exact aI rfl f
   ·exact D2 g ⟨(IntKind.i64.wrap (d+1)),rfl,rfl,f,(K0 _),b⟩
  ·obtain rfl:=oJ b
   try dsimp only[Y0,C1]at a
   refine trV a (u0b _ _ _ _ _ (Q2.mono f k)) λw a=>?_
   obtain⟨H,p,a⟩:=B0 a
   have C:H0 w:=M0 p
   obtain rfl:=oJ a
   exact aI rfl f
theorem i9(h:Hp)(k:List Value)(l:D0)(z:T1.R h k l)(r:Bool)(b:M4 l=some r):
  Tr Tryz.prog 61 #[.agg k.toArray] h λv h'=>v = .bool r/\h'=h:=by
 obtain⟨y,m,I,n,g,rfl,rfl,u,i⟩:=J1 z
 obtain⟨rfl,G⟩:=Sl.len i
 unfold M4 at b
 dsimp only at b
 refine Tr.forget (G2 (args:=[.agg #[.int .i64 y,.slice m g.length n]]) (fn:=Tryz.f61) rfl ?_)
 refine trV b (O08 _ _ u _ _ _ _ i) λK b=>?_
 refine ifB b (λs b=>?_) λs b=>?_
 ·obtain rfl:=oJ b
  exact aI rfl (Sub.refl _)
 ·obtain⟨j,o,b⟩:=B0 b
  refine eX { vars:=[14],boxes:=[],owns:=[],fuel:=true } (eX (λvs os h'=>∃ c,vs.tail = [.int .i64 c]/\os = []/\Sub h h'/\H0 c/\P4 g (O1 vs) c=some j) (eX (λ_ _=>0) (aI (eX V0 ⟨0,rfl,rfl,(Sub.refl _),(by decide),o⟩) ?_)))
  rintro _ d F ⟨c,⟨⟩,⟨⟩,f,E,a⟩
  replace a:P4 g d c=some j:=a
  obtain _|d:=d
  ·cases a
  rw[P4.eq_2]at a
  refine ifB a (λt a=>?_) λt a=>?_
  ·refine ld a (Q2.mono f i) λN C e a=>?_
   obtain⟨A,J,D,rfl⟩:=Wp.slice_cell e
   obtain⟨rfl,H⟩:=Sl.len e
   refine Or.inl (aI (aI (by kernel_rfl) (by kernel_rfl)) ?_)
   refine ldG a e λO x a=>?_
   refine ldG a e λL w a=>?_
   refine trG a (λq=>Z03 _ _ x _ w) λM a=>?_
   refine ifB a (λp a=>?_) λp a=>?_
   ·obtain rfl:=oJ a
    try dsimp only[M2,N2]at b
    obtain rfl:=oJ b
    exact aI rfl f
   ·exact D2 d ⟨(IntKind.i64.wrap (c+1)),rfl,rfl,f,(K0 _),a⟩
  ·obtain rfl:=oJ a
   try dsimp only[Y0,C1]at b
   obtain rfl:=oJ b
   exact aI rfl f
theorem o03(h:Hp)(b:Int)(f:H0 b)(c:Int)(g:H0 c)(r:Int)(a:P7 b c=some r):
  Tr Tryz.prog 276 #[.int .i64 b,.int .i64 c] h λv h'=>v = .int .i64 r/\h'=h:=by
 unfold P7 at a
 refine Tr.forget (G2 (args:=[.int .i64 b,.int .i64 c]) (fn:=Tryz.f276) rfl ?_)
 refine ifB a (λd a=>?_) λd a=>?_
 ·obtain rfl:=oJ a
  exact aI rfl (Sub.refl _)
 ·refine ifB a (λe a=>?_) λe a=>?_
  ·obtain rfl:=oJ a
   exact aI rfl (Sub.refl _)
  ·obtain rfl:=oJ a
   exact aI rfl (Sub.refl _)
theorem a0e(h:Hp)(f:Int)(z:H0 f)(r:ByteArray)(b:F01 f=some r):
  Tr Tryz.prog 166 #[.int .i64 f] h λv h'=>v = .string r/\h'=h:=by
 unfold F01 at b
 refine Tr.forget (G2 (args:=[.int .i64 f]) (fn:=Tryz.f166) rfl ?_)
 refine ifB b (λu b=>?_) λu b=>?_
 ·obtain rfl:=oJ b
  exact aI rfl (Sub.refl _)
 ·obtain⟨i,t,b⟩:=B0 b
  refine eX { vars:=[0,3],boxes:=[],owns:=[],fuel:=true } (eX (λvs os h'=>∃ c d,vs.tail = [.int .i64 c,.string d]/\os = []/\Sub h h'/\H0 c/\d.size<=9223372036854775807/\o5 (O1 vs) c d=some i) (eX (λ_ _=>0) (aI (eX V0 ⟨f,(⟨#[]⟩:ByteArray),rfl,rfl,(Sub.refl _),z,(by decide),t⟩) ?_)))
  rintro _ _ e l ⟨c,d,⟨⟩,⟨⟩,g,E,F,a⟩
  replace a:o5 e c d=some i:=a
  obtain _|e:=e
  ·cases a
  rw[o5.eq_2]at a
  refine ifB a (λx a=>?_) λx a=>?_
  ·obtain⟨N,s,a⟩:=B0 a
   refine aI (M0 s) ?_
   refine ifB a (λy a=>?_) λy a=>?_
   ·refine eX [(IntKind.u8.wrap (IntKind.i64.wrap (48+(IntKind.i64.wrap (0-(Int.tmod c 10))))))] (aI (F2.u8 (show F2 (Rp.u8.R l) ([[.int .u8 (IntKind.u8.wrap (IntKind.i64.wrap (48+(IntKind.i64.wrap (0-(Int.tmod c 10))))))]]:List (List Value)) [(IntKind.u8.wrap (IntKind.i64.wrap (48+(IntKind.i64.wrap (0-(Int.tmod c 10))))))] from⟨rfl,trivial⟩)) ?_)
    obtain⟨G,C,a⟩:=B0 a
    obtain⟨H,m,a⟩:=B0 a
    have j:=M0 m
    refine aI j ?_
    obtain⟨I,n,a⟩:=B0 a
    refine aI (M0 n) ?_
    exact D2 e ⟨(IntKind.i64.wrap (Int.tdiv c 10)),((strOfNums [(IntKind.u8.wrap (IntKind.i64.wrap (48+(IntKind.i64.wrap (0-(Int.tmod c 10))))))])++d),rfl,rfl,g,(K0 _),(Y05 j),a⟩
   ·refine eX [(IntKind.u8.wrap (IntKind.i64.wrap (48+(Int.tmod c 10))))] (aI (F2.u8 (show F2 (Rp.u8.R l) ([[.int .u8 (IntKind.u8.wrap (IntKind.i64.wrap (48+(Int.tmod c 10))))]]:List (List Value)) [(IntKind.u8.wrap (IntKind.i64.wrap (48+(Int.tmod c 10))))] from⟨rfl,trivial⟩)) ?_)
    obtain⟨J,D,a⟩:=B0 a
    obtain⟨K,o,a⟩:=B0 a
    have k:=M0 o
    refine aI k ?_
    obtain⟨L,p,a⟩:=B0 a
    refine aI (M0 p) ?_
    exact D2 e ⟨(IntKind.i64.wrap (Int.tdiv c 10)),((strOfNums [(IntKind.u8.wrap (IntKind.i64.wrap (48+(Int.tmod c 10))))])++d),rfl,rfl,g,(K0 _),(Y05 k),a⟩
  ·obtain rfl:=oJ a
   try dsimp only[Y0,C1]at b
   refine ifB b (λw b=>?_) λw b=>?_
   ·obtain⟨M,q,b⟩:=B0 b
    have A:=M0 q
    refine aI A ?_
    obtain rfl:=oJ b
    exact aI rfl g
   ·obtain rfl:=oJ b
    exact aI rfl g
theorem Z0e(h:Hp)(b:Int)(c:H0 b)(r:Bool)(a:l02 b=some r):
  Tr Tryz.prog 274 #[.int .i64 b] h λv h'=>v = .bool r/\h'=h:=by
 unfold l02 at a
 refine Tr.forget (G2 (args:=[.int .i64 b]) (fn:=Tryz.f274) rfl ?_)
 refine trG a (λq=>O6 _ _ c (-3) (by decide) 3 (by decide)) λd a=>?_
 obtain rfl:=oJ a
 exact aI rfl (Sub.refl _)
theorem P0h(h:Hp)(b:Int)(o:H0 b)(r:ByteArray)(a:F04 b=some r):
  Tr Tryz.prog 275 #[.int .i64 b] h λv h'=>v = .string r/\h'=h:=by
 unfold F04 at a
 refine Tr.forget (G2 (args:=[.int .i64 b]) (fn:=Tryz.f275) rfl ?_)
 refine ifB a (λj a=>?_) λj a=>?_
 ·obtain⟨s,g,a⟩:=B0 a
  obtain⟨c,m,e,k⟩:=s5 (show F2 (Wp.str.R h) ([[.string (⟨#[65]⟩:ByteArray)],[.string (⟨#[66]⟩:ByteArray)],[.string (⟨#[67]⟩:ByteArray)]]:List (List Value)) [(⟨#[65]⟩:ByteArray),(⟨#[66]⟩:ByteArray),(⟨#[67]⟩:ByteArray)] from⟨⟨rfl,(by decide)⟩,⟨⟨rfl,(by decide)⟩,⟨⟨rfl,(by decide)⟩,trivial⟩⟩⟩) g
  refine aI c ?_
  obtain⟨rfl,p⟩:=k
  refine eX _ (aI e ?_)
  obtain rfl:=oJ a
  exact aI rfl (Sub.refl _)
 ·obtain⟨t,i,a⟩:=B0 a
  obtain⟨d,n,f,l⟩:=s5 (show F2 (Wp.str.R h) ([[.string (⟨#[97]⟩:ByteArray)],[.string (⟨#[98]⟩:ByteArray)],[.string (⟨#[99]⟩:ByteArray)]]:List (List Value)) [(⟨#[97]⟩:ByteArray),(⟨#[98]⟩:ByteArray),(⟨#[99]⟩:ByteArray)] from⟨⟨rfl,(by decide)⟩,⟨⟨rfl,(by decide)⟩,⟨⟨rfl,(by decide)⟩,trivial⟩⟩⟩) i
  refine aI d ?_
  obtain⟨rfl,q⟩:=l
  refine eX _ (aI f ?_)
  obtain rfl:=oJ a
  exact aI rfl (Sub.refl _)
theorem R06(h:Hp)(i:Option Addr)(n j:Nat)(f:J0)(k:O0.R h [.slice i n j] f)(r:ByteArray)(b:b00 f=some r):
  Tr Tryz.prog 237 #[.slice i n j] h λv h'=>v = .string r/\h'=h:=by
 obtain⟨rfl,E⟩:=Sl.len k
 unfold b00 at b
 refine Tr.forget (G2 (args:=[.slice i f.length j]) (fn:=Tryz.f237) rfl ?_)
 obtain⟨l,s,b⟩:=B0 b
 refine eX { vars:=[3,4],boxes:=[],owns:=[],fuel:=true } (eX (λvs os h'=>∃ d e,vs.tail = [.string d,.int .i64 e]/\os = []/\Sub h h'/\d.size<=9223372036854775807/\H0 e/\A6 f (O1 vs) d e=some l) (eX (λ_ _=>0) (aI (eX V0 ⟨(⟨#[]⟩:ByteArray),0,rfl,rfl,(Sub.refl _),(by decide),(by decide),s⟩) ?_)))
 rintro _ _ g D ⟨d,e,⟨⟩,⟨⟩,c,z,A,a⟩
 replace a:A6 f g d e=some l:=a
 obtain _|g:=g
 ·cases a
 rw[A6.eq_2]at a
 refine ifB a (λu a=>?_) λu a=>?_
 ·refine ldI a (O0.mono c k) λI y a=>?_
  refine trV a (Z0e _ _ y) λJ a=>?_
  refine ifB a (λw a=>?_) λw a=>?_
  ·obtain rfl:=oJ a
   try dsimp only[M2,N2]at b
   obtain rfl:=oJ b
   exact aI rfl c
  ·refine ldI a (O0.mono c k) λH x a=>?_
   refine trV a (P0h _ _ x) λo a=>?_
   obtain⟨F,p,a⟩:=B0 a
   have C:o.size<=9223372036854775807:=M0 p
   obtain⟨G,q,a⟩:=B0 a
   have m:=M0 q
   refine aI m ?_
   exact D2 g ⟨(d++o),(IntKind.i64.wrap (e+1)),rfl,rfl,c,(Y05 m),(K0 _),a⟩
 ·obtain rfl:=oJ a
  try dsimp only[Y0,C1]at b
  refine ifB b (λt b=>?_) λt b=>?_
  ·obtain rfl:=oJ b
   exact aI rfl c
  ·obtain rfl:=oJ b
   exact aI rfl c
theorem v0b(h:Hp)(i:Option Addr)(q j:Nat)(g:O2)(k:Q2.R h [.slice i q j] g)(r:ByteArray)(b:O00 g=some r):
  Tr Tryz.prog 167 #[.slice i q j] h λv h'=>v = .string r/\h'=h:=by
 obtain⟨rfl,U⟩:=Sl.len k
 unfold O00 at b
 refine Tr.forget (G2 (args:=[.slice i g.length j]) (fn:=Tryz.f167) rfl ?_)
 obtain⟨n,A,b⟩:=B0 b
 refine eX { vars:=[3,4],boxes:=[],owns:=[],fuel:=true } (eX (λvs os h'=>∃ d e,vs.tail = [.string d,.int .i64 e]/\os = []/\Sub h h'/\d.size<=9223372036854775807/\H0 e/\Z3 g (O1 vs) d e=some n) (eX (λ_ _=>0) (aI (eX V0 ⟨(⟨#[]⟩:ByteArray),0,rfl,rfl,(Sub.refl _),(by decide),(by decide),A⟩) ?_)))
 rintro _ _ f T ⟨d,e,⟨⟩,⟨⟩,c,O,P,a⟩
 replace a:Z3 g f d e=some n:=a
 obtain _|f:=f
 ·cases a
 rw[Z3.eq_2]at a
 refine ifB a (λF a=>?_) λF a=>?_
 ·refine ifB a (λG a=>?_) λG a=>?_
  ·obtain⟨ad,z,a⟩:=B0 a
   have H:=M0 z
   refine aI H ?_
   refine ld a (Q2.mono c k) λaf L m a=>?_
   obtain⟨J,Y,N,rfl⟩:=Wp.slice_cell m
   obtain⟨rfl,W⟩:=Sl.len m
   refine trV a (R06 _ _ _ _ _ m) λs a=>?_
   obtain⟨Z,u,a⟩:=B0 a
   have Q:s.size<=9223372036854775807:=M0 u
   refine ifB a (λC a=>?_) λC a=>?_
   ·obtain rfl:=oJ a
    try dsimp only[M2,N2]at b
    obtain rfl:=oJ b
    exact aI rfl c
   ·obtain⟨aa,w,a⟩:=B0 a
    have o:=M0 w
    refine aI o ?_
    exact D2 f ⟨((d++(⟨#[44]⟩:ByteArray))++s),(IntKind.i64.wrap (e+1)),rfl,rfl,c,(Y05 o),(K0 _),a⟩
  ·refine ld a (Q2.mono c k) λae K l a=>?_
   obtain⟨I,X,M,rfl⟩:=Wp.slice_cell l
   obtain⟨rfl,V⟩:=Sl.len l
   refine trV a (R06 _ _ _ _ _ l) λt a=>?_
   obtain⟨ab,x,a⟩:=B0 a
   have S:t.size<=9223372036854775807:=M0 x
   refine ifB a (λD a=>?_) λD a=>?_
   ·obtain rfl:=oJ a
    try dsimp only[M2,N2]at b
    obtain rfl:=oJ b
    exact aI rfl c
   ·obtain⟨ac,y,a⟩:=B0 a
    have p:=M0 y
    refine aI p ?_
    exact D2 f ⟨(d++t),(IntKind.i64.wrap (e+1)),rfl,rfl,c,(Y05 p),(K0 _),a⟩
 ·obtain rfl:=oJ a
  try dsimp only[Y0,C1]at b
  refine ifB b (λE b=>?_) λE b=>?_
  ·obtain rfl:=oJ b
   exact aI rfl c
  ·obtain rfl:=oJ b
   exact aI rfl c
theorem q06(h:Hp)(c:List Value)(e:D0)(x:T1.R h c e)(r:ByteArray)(a:g7 e=some r):
  Tr Tryz.prog 81 #[.agg c.toArray] h λv h'=>v = .string r/\h'=h:=by
 obtain⟨u,i,C,j,w,rfl,rfl,d,b⟩:=J1 x
 obtain⟨rfl,A⟩:=Sl.len b
 unfold g7 at a
 dsimp only at a
 refine Tr.forget (G2 (args:=[.agg #[.int .i64 u,.slice i w.length j]]) (fn:=Tryz.f81) rfl ?_)
 refine trV a (g9 _ _ _ (S0 d b)) λH a=>?_
 refine ifB a (λq a=>?_) λq a=>?_
 ·obtain rfl:=oJ a
  exact aI rfl (Sub.refl _)
 ·refine Or.inl (aI (aI (by kernel_rfl) (by kernel_rfl)) ?_)
  obtain⟨f,o,a⟩:=B0 a
  refine eX (.string f) (aI (a0e _ _ d _  o) ?_)
  obtain⟨D,k,a⟩:=B0 a
  have y:f.size<=9223372036854775807:=M0 k
  obtain⟨E,l,a⟩:=B0 a
  have s:=M0 l
  refine aI s ?_
  obtain⟨g,p,a⟩:=B0 a
  refine eX (.string g) (aI (v0b _ _ _ _ _ b _  p) ?_)
  obtain⟨F,m,a⟩:=B0 a
  have z:g.size<=9223372036854775807:=M0 m
  obtain⟨G,n,a⟩:=B0 a
  have t:=M0 n
  refine aI t ?_
  obtain rfl:=oJ a
  exact aI rfl (Sub.refl _)
theorem b0e(h:Hp)(y:Int)(aG:H0 y)(r:ByteArray)(d:G01 y=some r):
  Tr Tryz.prog 164 #[.int .i64 y] h λv h'=>v = .string r/\h'=h:=by
 unfold G01 at d
 refine Tr.forget (G2 (args:=[.int .i64 y]) (fn:=Tryz.f164) rfl ?_)
 refine ifB d (λaA d=>?_) λaA d=>?_
 ·obtain rfl:=oJ d
  exact aI rfl (Sub.refl _)
 ·obtain⟨K,ay,d⟩:=B0 d
  refine eX { vars:=[4],boxes:=[],owns:=[0],fuel:=true } (eX (λvs os h'=>∃ e g n,vs.tail = [.int .i64 e]/\os = [g]/\Sub h h'/\H0 e/\F2 (Rp.u8.R h') g n/\p5 (O1 vs) e n=some K) (eX (λ_ _=>0) (aI (eX V0 ⟨y,[],([]:(List Int)),rfl,rfl,(Sub.refl _),aG,(show F2 (Rp.u8.R h) ([]:List (List Value)) ([]:(List Int)) from trivial),ay⟩) ?_)))
  rintro _ g x k ⟨e,bH,n,⟨⟩,⟨⟩,E,a7,f,c⟩
  replace c:p5 x e n=some K:=c
  obtain _|x:=x
  ·cases c
  rw[p5.eq_2]at c
  refine ifB c (λaE c=>?_) λaE c=>?_
  ·obtain⟨br,am,c⟩:=B0 c
   refine aI (M0 am) ?_
   refine ifB c (λaF c=>?_) λaF c=>?_
   ·obtain⟨bi,ah,c⟩:=B0 c
    refine aI (Q1 ah (by first|rw[F2.length f,F2.length (show F2 (Rp.u8.R k) ([[.int .u8 (IntKind.u8.wrap (IntKind.i64.wrap (48+(IntKind.i64.wrap (0-(Int.tmod e 10))))))]]:List (List Value)) [(IntKind.u8.wrap (IntKind.i64.wrap (48+(IntKind.i64.wrap (0-(Int.tmod e 10))))))] from⟨rfl,trivial⟩)]|exact congrArg (·+1) (F2.length f))) ?_
    obtain⟨bj,ai,c⟩:=B0 c
    refine aI (M0 ai) ?_
    exact D2 x ⟨(IntKind.i64.wrap (Int.tdiv e 10)),(g++([[.int .u8 (IntKind.u8.wrap (IntKind.i64.wrap (48+(IntKind.i64.wrap (0-(Int.tmod e 10))))))]]:List (List Value))),(n ++ [(IntKind.u8.wrap (IntKind.i64.wrap (48+(IntKind.i64.wrap (0-(Int.tmod e 10))))))]),rfl,rfl,E,(K0 _),(F2.append f (show F2 (Rp.u8.R k) ([[.int .u8 (IntKind.u8.wrap (IntKind.i64.wrap (48+(IntKind.i64.wrap (0-(Int.tmod e 10))))))]]:List (List Value)) [(IntKind.u8.wrap (IntKind.i64.wrap (48+(IntKind.i64.wrap (0-(Int.tmod e 10))))))] from⟨rfl,trivial⟩)),c⟩
   ·obtain⟨bk,aj,c⟩:=B0 c
    refine aI (Q1 aj (by first|rw[F2.length f,F2.length (show F2 (Rp.u8.R k) ([[.int .u8 (IntKind.u8.wrap (IntKind.i64.wrap (48+(Int.tmod e 10))))]]:List (List Value)) [(IntKind.u8.wrap (IntKind.i64.wrap (48+(Int.tmod e 10))))] from⟨rfl,trivial⟩)]|exact congrArg (·+1) (F2.length f))) ?_
    obtain⟨bl,ak,c⟩:=B0 c
    refine aI (M0 ak) ?_
    exact D2 x ⟨(IntKind.i64.wrap (Int.tdiv e 10)),(g++([[.int .u8 (IntKind.u8.wrap (IntKind.i64.wrap (48+(Int.tmod e 10))))]]:List (List Value))),(n ++ [(IntKind.u8.wrap (IntKind.i64.wrap (48+(Int.tmod e 10))))]),rfl,rfl,E,(K0 _),(F2.append f (show F2 (Rp.u8.R k) ([[.int .u8 (IntKind.u8.wrap (IntKind.i64.wrap (48+(Int.tmod e 10))))]]:List (List Value)) [(IntKind.u8.wrap (IntKind.i64.wrap (48+(Int.tmod e 10))))] from⟨rfl,trivial⟩)),c⟩
  ·obtain rfl:=oJ c
   try dsimp only[Y0,C1]at d
   refine ifB d (λaB d=>?_) λaB d=>?_
   ·obtain⟨bm,al,d⟩:=B0 d
    refine aI (Q1 al (by first|rw[F2.length f,F2.length (show F2 (Rp.u8.R k) ([[.int .u8 45]]:List (List Value)) [45] from⟨rfl,trivial⟩)]|exact congrArg (·+1) (F2.length f))) ?_
    obtain⟨aH,af,d⟩:=B0 d
    obtain rfl:(g++([[.int .u8 45]]:List (List Value))).length=aH:=(F2.length (F2.append f (show F2 (Rp.u8.R k) ([[.int .u8 45]]:List (List Value)) [45] from⟨rfl,trivial⟩))).trans (oJ af)
    obtain⟨bn,a1,d⟩:=B0 d
    obtain⟨J,ax,d⟩:=B0 d
    refine eX { vars:=[6,7],boxes:=[],owns:=[0],fuel:=true,kept:=[0] } (eX (λvs os h'=>∃ i l F u,vs.tail = [.int .i64 i,.int .i64 l]/\os = [F]/\Sub k h'/\H0 i/\H0 l/\F2 (Rp.u8.R h') F u/\n4 (O1 vs) i l u=some J) (eX (λ_ _=>0) (aI (eX V0 ⟨0,(IntKind.i64.wrap ((((g++([[.int .u8 45]]:List (List Value))).length:Nat):Int)-1)),(g++([[.int .u8 45]]:List (List Value))),(n ++ [45]),rfl,rfl,(Sub.refl _),(by decide),(K0 _),(F2.append f (show F2 (Rp.u8.R k) ([[.int .u8 45]]:List (List Value)) [45] from⟨rfl,trivial⟩)),ax⟩) ?_)))
    rintro _ _ F C H ⟨i,l,bG,u,⟨⟩,⟨⟩,M,a5,a6,s,c⟩
    replace c:n4 C i l u=some J:=c
    obtain _|C:=C
    ·cases c
    rw[n4.eq_2]at c
    refine ifB c (λaC c=>?_) λaC c=>?_
    ·refine Or.inr (Or.inr (Or.inl (aI (aI (by kernel_rfl) (by kernel_rfl)) ?_)))
     obtain⟨o,an,c⟩:=B0 c
     obtain⟨O,aS,X,aK⟩:=s5 s an
     obtain rfl:=aK
     refine Or.inl ?_
     apply eX
     refine aI ?_ ?_
     ·intro ba bs
      exact aI O (aI rfl (aI rfl rfl))
     refine Or.inl (eX (.val (.int .u8 o)) (aI ?_ ?_))
     ·intro bb bt
      exact eX _ (aI X (aI rfl (aI rfl rfl)))
     obtain⟨z,ao,c⟩:=B0 c
     obtain⟨P,aU,Y,aL⟩:=s5 s ao
     obtain rfl:=aL
     refine Or.inl ?_
     apply eX
     refine aI ?_ ?_
     ·intro bc bu
      exact aI P (aI rfl (aI rfl rfl))
     refine Or.inl (eX (.val (.int .u8 z)) (aI ?_ ?_))
     ·intro bd bv
      exact eX _ (aI Y (aI rfl (aI rfl rfl)))
     refine Or.inr ?_
     refine Or.inr ?_
     refine Or.inr ?_
     refine Or.inr ?_
     refine Or.inl (eX 0 (aI (aI rfl rfl) ?_))
     obtain⟨bC,ap,c⟩:=B0 c
     obtain⟨Q,aV,Z,aM⟩:=s5 s ap
     refine aI Q ?_
     obtain rfl:=aM
     refine aT ?_
     refine eX _ (aI Z ?_)
     refine aT ?_
     obtain⟨bD,aq,c⟩:=B0 c
     obtain⟨S,aW,aa,aN⟩:=s5 (F2.set (p:=Rp.u8.R H) (a:=[.int .u8 o]) (b:=o) rfl i.toNat s) aq
     refine aI S ?_
     obtain rfl:=aN
     refine aT ?_
     refine eX _ (aI aa ?_)
     refine aT ?_
     exact D2 C ⟨(IntKind.i64.wrap (i+1)),(IntKind.i64.wrap (l-1)),((F.set i.toNat [.int .u8 o]).set l.toNat [.int .u8 z]),((u.set i.toNat o).set l.toNat z),rfl,rfl,M,(K0 _),(K0 _),(F2.set (p:=Rp.u8.R H) (a:=[.int .u8 z]) (b:=z) rfl l.toNat (F2.set (p:=Rp.u8.R H) (a:=[.int .u8 o]) (b:=o) rfl i.toNat s)),c⟩
    ·obtain rfl:=oJ c
     try dsimp only[Y0,C1]at d
     refine eX u (aI (F2.u8 s) ?_)
     obtain⟨bo,a2,d⟩:=B0 d
     obtain rfl:=oJ d
     exact aI rfl (E.trans M)
   ·obtain⟨aJ,ag,d⟩:=B0 d
    obtain rfl:g.length=aJ:=(F2.length f).trans (oJ ag)
    obtain⟨bp,a3,d⟩:=B0 d
    obtain⟨L,az,d⟩:=B0 d
    refine eX { vars:=[6,7],boxes:=[],owns:=[0],fuel:=true,kept:=[0] } (eX (λvs os h'=>∃ j m G w,vs.tail = [.int .i64 j,.int .i64 m]/\os = [G]/\Sub k h'/\H0 j/\H0 m/\F2 (Rp.u8.R h') G w/\n4 (O1 vs) j m w=some L) (eX (λ_ _=>0) (aI (eX V0 ⟨0,(IntKind.i64.wrap (((g.length:Nat):Int)-1)),g,n,rfl,rfl,(Sub.refl _),(by decide),(K0 _),f,az⟩) ?_)))
    rintro _ _ G D I ⟨j,m,bI,w,⟨⟩,⟨⟩,N,a8,a9,t,c⟩
    replace c:n4 D j m w=some L:=c
    obtain _|D:=D
    ·cases c
    rw[n4.eq_2]at c
    refine ifB c (λaD c=>?_) λaD c=>?_
    ·refine Or.inr (Or.inr (Or.inl (aI (aI (by kernel_rfl) (by kernel_rfl)) ?_)))
     obtain⟨q,ar,c⟩:=B0 c
     obtain⟨T,aX,ab,aO⟩:=s5 t ar
     obtain rfl:=aO
     refine Or.inl ?_
     apply eX
     refine aI ?_ ?_
     ·intro be bx
      exact aI T (aI rfl (aI rfl rfl))
     refine Or.inl (eX (.val (.int .u8 q)) (aI ?_ ?_))
     ·intro bf bz
      exact eX _ (aI ab (aI rfl (aI rfl rfl)))
     obtain⟨A,au,c⟩:=B0 c
     obtain⟨U,aY,ac,aP⟩:=s5 t au
     obtain rfl:=aP
     refine Or.inl ?_
     apply eX
     refine aI ?_ ?_
     ·intro bg bA
      exact aI U (aI rfl (aI rfl rfl))
     refine Or.inl (eX (.val (.int .u8 A)) (aI ?_ ?_))
     ·intro bh bB
      exact eX _ (aI ac (aI rfl (aI rfl rfl)))
     refine Or.inr ?_
     refine Or.inr ?_
     refine Or.inr ?_
     refine Or.inr ?_
     refine Or.inl (eX 0 (aI (aI rfl rfl) ?_))
     obtain⟨bE,av,c⟩:=B0 c
     obtain⟨V,aZ,ad,aQ⟩:=s5 t av
     refine aI V ?_
     obtain rfl:=aQ
     refine aT ?_
     refine eX _ (aI ad ?_)
     refine aT ?_
     obtain⟨bF,aw,c⟩:=B0 c
     obtain⟨W,a0,ae,aR⟩:=s5 (F2.set (p:=Rp.u8.R I) (a:=[.int .u8 q]) (b:=q) rfl j.toNat t) aw
     refine aI W ?_
     obtain rfl:=aR
     refine aT ?_
     refine eX _ (aI ae ?_)
     refine aT ?_
     exact D2 D ⟨(IntKind.i64.wrap (j+1)),(IntKind.i64.wrap (m-1)),((G.set j.toNat [.int .u8 q]).set m.toNat [.int .u8 A]),((w.set j.toNat q).set m.toNat A),rfl,rfl,N,(K0 _),(K0 _),(F2.set (p:=Rp.u8.R I) (a:=[.int .u8 A]) (b:=A) rfl m.toNat (F2.set (p:=Rp.u8.R I) (a:=[.int .u8 q]) (b:=q) rfl j.toNat t)),c⟩
    ·obtain rfl:=oJ c
     try dsimp only[Y0,C1]at d
     refine eX w (aI (F2.u8 t) ?_)
     obtain⟨bq,a4,d⟩:=B0 d
     obtain rfl:=oJ d
     exact aI rfl (E.trans N)
theorem R0c(h:Hp)(b:Int)(c:H0 b)(r:ByteArray)(a:l01 b=some r):
  Tr Tryz.prog 273 #[.int .i64 b] h λv h'=>v = .string r/\h'=h:=by
 unfold l01 at a
 refine Tr.forget (G2 (args:=[.int .i64 b]) (fn:=Tryz.f273) rfl ?_)
 refine trV a (E8 _ _ c 1 (by decide) 3 (by decide)) λk a=>?_
 refine ifB a (λf a=>?_) λf a=>?_
 ·obtain⟨i,d,a⟩:=B0 a
  refine aI (M0 d) ?_
  obtain rfl:=oJ a
  exact aI rfl (Sub.refl _)
 ·refine trV a (E8 _ _ c (-3) (by decide) (-1) (by decide)) λl a=>?_
  refine ifB a (λg a=>?_) λg a=>?_
  ·obtain⟨j,e,a⟩:=B0 a
   refine aI (M0 e) ?_
   obtain rfl:=oJ a
   exact aI rfl (Sub.refl _)
  ·obtain rfl:=oJ a
   exact aI rfl (Sub.refl _)
theorem S0c(h:Hp)(i:Option Addr)(m j:Nat)(e:J0)(n:O0.R h [.slice i m j] e)(r:ByteArray)(b:m01 e=some r):
  Tr Tryz.prog 235 #[.slice i m j] h λv h'=>v = .string r/\h'=h:=by
 obtain⟨rfl,D⟩:=Sl.len n
 unfold m01 at b
 refine Tr.forget (G2 (args:=[.slice i e.length j]) (fn:=Tryz.f235) rfl ?_)
 refine ifB b (λt b=>?_) λt b=>?_
 ·obtain rfl:=oJ b
  exact aI rfl (Sub.refl _)
 ·obtain⟨k,s,b⟩:=B0 b
  refine eX { vars:=[3,12],boxes:=[],owns:=[],fuel:=true } (eX (λvs os h'=>∃ c d,vs.tail = [.string c,.int .i64 d]/\os = []/\Sub h h'/\c.size<=9223372036854775807/\H0 d/\B6 e (O1 vs) c d=some k) (eX (λ_ _=>0) (aI (eX V0 ⟨(⟨#[]⟩:ByteArray),0,rfl,rfl,(Sub.refl _),(by decide),(by decide),s⟩) ?_)))
  rintro _ _ f C ⟨c,d,⟨⟩,⟨⟩,g,y,z,a⟩
  replace a:B6 e f c d=some k:=a
  obtain _|f:=f
  ·cases a
  rw[B6.eq_2]at a
  refine ifB a (λw a=>?_) λw a=>?_
  ·refine ldI a (O0.mono g n) λG x a=>?_
   refine trV a (R0c _ _ x) λo a=>?_
   obtain⟨E,p,a⟩:=B0 a
   have A:o.size<=9223372036854775807:=M0 p
   refine ifB a (λu a=>?_) λu a=>?_
   ·obtain rfl:=oJ a
    try dsimp only[M2,N2]at b
    obtain rfl:=oJ b
    exact aI rfl g
   ·obtain⟨F,q,a⟩:=B0 a
    have l:=M0 q
    refine aI l ?_
    exact D2 f ⟨(c++o),(IntKind.i64.wrap (d+1)),rfl,rfl,g,(Y05 l),(K0 _),a⟩
  ·obtain rfl:=oJ a
   try dsimp only[Y0,C1]at b
   obtain rfl:=oJ b
   exact aI rfl g
theorem C0k(h:Hp)(i:Option Addr)(p j:Nat)(k:(List ByteArray))(l:(Wp.slice Wp.str).R h [.slice i p j] k)(c:ByteArray)(S:c.size<=9223372036854775807)(g:ByteArray)(T:g.size<=9223372036854775807)(r:ByteArray)(b:W03 k c g=some r):
  Tr Tryz.prog 236 #[.slice i p j,.string c,.string g] h λv h'=>v = .string r/\h'=h:=by
 obtain⟨rfl,Y⟩:=Sl.len l
 unfold W03 at b
 refine Tr.forget (G2 (args:=[.slice i k.length j,.string c,.string g]) (fn:=Tryz.f236) rfl ?_)
 refine ifB b (λA b=>?_) λA b=>?_
 ·obtain rfl:=oJ b
  exact aI rfl (Sub.refl _)
 ·refine ld b l λM P I b=>?_
  obtain⟨rfl,E⟩:=I
  obtain⟨s,y,b⟩:=B0 b
  obtain⟨G,J,t,u⟩:=Sl.cutI (r:=Wp.str.toRp) l y
  refine aI G (eX J (aI t ?_))
  intro K D _
  obtain⟨N,Q,rfl,q⟩:=u K D
  have Z:=(Sl.len q).2
  obtain⟨n,z,b⟩:=B0 b
  refine eX { vars:=[7,20],boxes:=[],owns:=[],fuel:=true } (eX (λvs os h'=>∃ d e,vs.tail = [.string d,.int .i64 e]/\os = []/\Sub h h'/\d.size<=9223372036854775807/\H0 e/\W9 s c (O1 vs) d e=some n) (eX (λ_ _=>0) (aI (eX V0 ⟨M,0,rfl,rfl,(Sub.refl _),E,(by decide),z⟩) ?_)))
  rintro _ _ f X ⟨d,e,⟨⟩,⟨⟩,m,U,V,a⟩
  replace a:W9 s c f d e=some n:=a
  obtain _|f:=f
  ·cases a
  rw[W9.eq_2]at a
  refine ifB a (λC a=>?_) λC a=>?_
  ·refine ld a ((Wp.slice Wp.str).mono m q) λL O H a=>?_
   obtain⟨rfl,W⟩:=H
   obtain⟨aa,w,a⟩:=B0 a
   have F:=M0 w
   refine aI F ?_
   obtain⟨ab,x,a⟩:=B0 a
   have o:=M0 x
   refine aI o ?_
   exact D2 f ⟨((d++c)++L),(IntKind.i64.wrap (e+1)),rfl,rfl,m,(Y05 o),(K0 _),a⟩
  ·obtain rfl:=oJ a
   try dsimp only[Y0,C1]at b
   obtain rfl:=oJ b
   exact aI rfl m
theorem w0b(h:Hp)(l:Option Addr)(s m:Nat)(e:O2)(t:Q2.R h [.slice l s m] e)(r:ByteArray)(b:P00 e=some r):
  Tr Tryz.prog 165 #[.slice l s m] h λv h'=>v = .string r/\h'=h:=by
 obtain⟨rfl,O⟩:=Sl.len t
 unfold P00 at b
 refine Tr.forget (G2 (args:=[.slice l e.length m]) (fn:=Tryz.f165) rfl ?_)
 obtain⟨o,A,b⟩:=B0 b
 refine eX { vars:=[10],boxes:=[],owns:=[0],fuel:=true } (eX (λvs os h'=>∃ d k f,vs.tail = [.int .i64 d]/\os = [k]/\Sub h h'/\H0 d/\F2 (Wp.str.R h') k f/\V5 e (O1 vs) d f=some o) (eX (λ_ _=>0) (aI (eX V0 ⟨0,[],([]:(List ByteArray)),rfl,rfl,(Sub.refl _),(by decide),(show F2 (Wp.str.R h) ([]:List (List Value)) ([]:(List ByteArray)) from trivial),A⟩) ?_)))
 rintro _ k i q ⟨d,Z,f,⟨⟩,⟨⟩,j,L,g,a⟩
 replace a:V5 e i d f=some o:=a
 obtain _|i:=i
 ·cases a
 rw[V5.eq_2]at a
 refine ifB a (λD a=>?_) λD a=>?_
 ·refine ld a (Q2.mono j t) λY I n a=>?_
  obtain⟨G,S,J,rfl⟩:=Wp.slice_cell n
  obtain⟨rfl,P⟩:=Sl.len n
  refine trV a (S0c _ _ _ _ _ n) λc a=>?_
  obtain⟨V,y,a⟩:=B0 a
  have p:c.size<=9223372036854775807:=M0 y
  refine ifB a (λC a=>?_) λC a=>?_
  ·obtain rfl:=oJ a
   try dsimp only[M2,N2]at b
   obtain rfl:=oJ b
   exact aI rfl j
  ·obtain⟨T,w,a⟩:=B0 a
   refine aI (Q1 w (by first|rw[F2.length g,F2.length (show F2 (Wp.str.R q) ([[.string c]]:List (List Value)) [c] from⟨⟨rfl,p⟩,trivial⟩)]|exact congrArg (·+1) (F2.length g))) ?_
   exact D2 i ⟨(IntKind.i64.wrap (d+1)),(k++([[.string c]]:List (List Value))),(f ++ [c]),rfl,rfl,j,(K0 _),(F2.append g (show F2 (Wp.str.R q) ([[.string c]]:List (List Value)) [c] from⟨⟨rfl,p⟩,trivial⟩)),a⟩
 ·obtain rfl:=oJ a
  try dsimp only[Y0,C1]at b
  refine Or.inr ?_
  intro X N u
  obtain⟨H,K,rfl,E,W,Q⟩:=W0.out (r:=Wp.str.toRp) u g
  obtain⟨F,z,b⟩:=B0 b
  refine Tr.val (C0k _ _ _ _ _ E (⟨#[44]⟩:ByteArray) (by decide) (⟨#[110,111,110,101]⟩:ByteArray) (by decide) _  z) (aI rfl ?_)
  obtain⟨U,x,b⟩:=B0 b
  have M:F.size<=9223372036854775807:=M0 x
  obtain rfl:=oJ b
  exact aI rfl j
theorem r06(h:Hp)(c:List Value)(e:D0)(x:T1.R h c e)(r:ByteArray)(a:i7 e=some r):
  Tr Tryz.prog 80 #[.agg c.toArray] h λv h'=>v = .string r/\h'=h:=by
 obtain⟨u,i,C,j,w,rfl,rfl,d,b⟩:=J1 x
 obtain⟨rfl,A⟩:=Sl.len b
 unfold i7 at a
 dsimp only at a
 refine Tr.forget (G2 (args:=[.agg #[.int .i64 u,.slice i w.length j]]) (fn:=Tryz.f80) rfl ?_)
 refine trV a (i9 _ _ _ (S0 d b)) λH a=>?_
 refine ifB a (λq a=>?_) λq a=>?_
 ·obtain rfl:=oJ a
  exact aI rfl (Sub.refl _)
 ·refine Or.inl (aI (aI (by kernel_rfl) (by kernel_rfl)) ?_)
  obtain⟨f,o,a⟩:=B0 a
  refine eX (.string f) (aI (b0e _ _ d _  o) ?_)
  obtain⟨D,k,a⟩:=B0 a
  have y:f.size<=9223372036854775807:=M0 k
  obtain⟨E,l,a⟩:=B0 a
  have s:=M0 l
  refine aI s ?_
  obtain⟨g,p,a⟩:=B0 a
  refine eX (.string g) (aI (w0b _ _ _ _ _ b _  p) ?_)
  obtain⟨F,m,a⟩:=B0 a
  have z:g.size<=9223372036854775807:=M0 m
  obtain⟨G,n,a⟩:=B0 a
  have t:=M0 n
  refine aI t ?_
  obtain rfl:=oJ a
  exact aI rfl (Sub.refl _)
theorem T0c(h:Hp)(k:Option Addr)(t l:Nat)(b:J0)(u:O0.R h [.slice k t l] b)(r:J0)(f:O5 b=some r):
  Tr Tryz.prog 148 #[.slice k t l] h λv h'=>∃(o:Option Addr) (s p:Nat),v = .slice o s p/\O0.R h' [.slice o s p] r/\Sub h h':=by
 obtain⟨rfl,I⟩:=Sl.len u
 unfold O5 at f
 refine G2 (args:=[.slice k b.length l]) (fn:=Tryz.f148) rfl ?_
 obtain⟨n,A,f⟩:=B0 f
 refine eX { vars:=[4],boxes:=[],owns:=[0],fuel:=true } (eX (λvs os h'=>∃ c j d,vs.tail = [.int .i64 c]/\os = [j]/\Sub h h'/\H0 c/\F2 (Wp.int.R h') j d/\w4 b (O1 vs) c d=some n) (eX (λ_ _=>0) (aI (eX V0 ⟨(IntKind.i64.wrap (((b.length:Nat):Int)-1)),[],([]:J0),rfl,rfl,(Sub.refl _),(K0 _),(show F2 (Wp.int.R h) ([]:List (List Value)) ([]:J0) from trivial),A⟩) ?_)))
 rintro _ j i q ⟨c,M,d,⟨⟩,⟨⟩,m,F,g,a⟩
 replace a:w4 b i c d=some n:=a
 obtain _|i:=i
 ·cases a
 rw[w4.eq_2]at a
 refine ifB a (λC a=>?_) λC a=>?_
 ·refine ldI a (O0.mono m u) λe G a=>?_
  obtain⟨K,z,a⟩:=B0 a
  refine aI (Q1 z (by first|rw[F2.length g,F2.length (show F2 (Wp.int.R q) ([[.int .i64 (IntKind.i64.wrap (0-e))]]:List (List Value)) [(IntKind.i64.wrap (0-e))] from⟨⟨rfl,(K0 _)⟩,trivial⟩)]|exact congrArg (·+1) (F2.length g))) ?_
  exact D2 i ⟨(IntKind.i64.wrap (c-1)),(j++([[.int .i64 (IntKind.i64.wrap (0-e))]]:List (List Value))),(d ++ [(IntKind.i64.wrap (0-e))]),rfl,rfl,m,(K0 _),(F2.append g (show F2 (Wp.int.R q) ([[.int .i64 (IntKind.i64.wrap (0-e))]]:List (List Value)) [(IntKind.i64.wrap (0-e))] from⟨⟨rfl,(K0 _)⟩,trivial⟩)),a⟩
 ·obtain rfl:=oJ a
  try dsimp only[Y0,C1]at f
  intro L H y
  obtain⟨w,x,rfl,D,E,J⟩:=W0.out (r:=Wp.int.toRp) y g
  obtain rfl:=oJ f
  exact⟨w,d.length,x,rfl,D,(m.trans E)⟩
theorem H02(h:Hp)(n:Option Addr)(z o:Nat)(l:J0)(m:O0.R h [.slice n z o] l)(r:J0)(d:Y2 l=some r):
  Tr Tryz.prog 146 #[.slice n z o] h λv h'=>∃(s:Option Addr) (y t:Nat),v = .slice s y t/\O0.R h' [.slice s y t] r/\Sub h h':=by
 obtain⟨rfl,ad⟩:=Sl.len m
 unfold Y2 at d
 refine G2 (args:=[.slice n l.length o]) (fn:=Tryz.f146) rfl ?_
 obtain⟨p,K,d⟩:=B0 d
 refine eX { vars:=[4],boxes:=[],owns:=[0],fuel:=true } (eX (λvs os h'=>∃ g c i,vs.tail = [.int .i64 g]/\os = [c]/\Sub h h'/\H0 g/\F2 (Wp.int.R h') c i/\l3 l (O1 vs) g i=some p) (eX (λ_ _=>0) (aI (eX V0 ⟨0,[],([]:J0),rfl,rfl,(Sub.refl _),(by decide),(show F2 (Wp.int.R h) ([]:List (List Value)) ([]:J0) from trivial),K⟩) ?_)))
 rintro _ c k e ⟨g,ap,i,⟨⟩,⟨⟩,f,W,b,a⟩
 replace a:l3 l k g i=some p:=a
 obtain _|k:=k
 ·cases a
 rw[l3.eq_2]at a
 refine ifB a (λM a=>?_) λM a=>?_
 ·obtain⟨N,E,a⟩:=B0 a
  obtain rfl:c.length=N:=(F2.length b).trans (oJ E)
  obtain⟨ai,V,a⟩:=B0 a
  refine Or.inl (aI (aI (by kernel_rfl) (by kernel_rfl)) ?_)
  refine ldG a (O0.mono f m) λao ab a=>?_
  obtain⟨ak,I,a⟩:=B0 a
  obtain⟨T,u,O⟩:=M03 b I (m0c e)
  refine aI (λq=>(u q).1) ?_
  obtain⟨rfl,X⟩:=O
  refine eX _ (aI (λq=>(u q).2) ?_)
  refine ldG a (O0.mono f m) λal Y a=>?_
  obtain⟨am,J,a⟩:=B0 a
  obtain⟨U,w,P⟩:=M03 b J (m0c e)
  refine aI (λq=>(w q).1) ?_
  obtain⟨rfl,Z⟩:=P
  refine eX _ (aI (λq=>(w q).2) ?_)
  refine ldG a (O0.mono f m) λan aa a=>?_
  refine ifB a (λL a=>?_) λL a=>?_
  ·obtain⟨af,F,a⟩:=B0 a
   refine aI (by have:=M0 F;have:=F2.length b;omega) ?_
   exact D2 k ⟨(IntKind.i64.wrap (g+1)),(c.take (IntKind.i64.wrap (((c.length:Nat):Int)-1)).toNat),(i.take (IntKind.i64.wrap (((c.length:Nat):Int)-1)).toNat),rfl,rfl,f,(K0 _),(F2.take (IntKind.i64.wrap (((c.length:Nat):Int)-1)).toNat b),a⟩
  ·refine ldI a (O0.mono f m) λj x a=>?_
   obtain⟨ag,G,a⟩:=B0 a
   refine aI (Q1 G (by first|rw[F2.length b,F2.length (show F2 (Wp.int.R e) ([[.int .i64 j]]:List (List Value)) [j] from⟨⟨rfl,x⟩,trivial⟩)]|exact congrArg (·+1) (F2.length b))) ?_
   exact D2 k ⟨(IntKind.i64.wrap (g+1)),(c++([[.int .i64 j]]:List (List Value))),(i ++ [j]),rfl,rfl,f,(K0 _),(F2.append b (show F2 (Wp.int.R e) ([[.int .i64 j]]:List (List Value)) [j] from⟨⟨rfl,x⟩,trivial⟩)),a⟩
 ·obtain rfl:=oJ a
  try dsimp only[Y0,C1]at d
  obtain⟨ah,H,d⟩:=B0 d
  refine aI (Q1 H (by first|rw[F2.length (show F2 (Wp.int.R e) ([]:List (List Value)) ([]:J0) from trivial),F2.length b]|exact congrArg (·+0) (F2.length (show F2 (Wp.int.R e) ([]:List (List Value)) ([]:J0) from trivial)))) ?_
  intro aj ac D
  obtain⟨A,C,rfl,Q,S,ae⟩:=W0.out (r:=Wp.int.toRp) D (F2.append (show F2 (Wp.int.R e) ([]:List (List Value)) ([]:J0) from trivial) b)
  obtain rfl:=oJ d
  exact⟨A,((([]:J0)++i)).length,C,rfl,Q,(f.trans S)⟩
theorem a05(h:Hp)(c:Option Addr)(n e:Nat)(g:J0)(p:O0.R h [.slice c n e] g)(d:Option Addr)(o f:Nat)(i:J0)(q:O0.R h [.slice d o f] i)(r:J0)(a:Y3 g i=some r):
  Tr Tryz.prog 147 #[.slice c n e,.slice d o f] h λv h'=>∃(j:Option Addr) (m k:Nat),v = .slice j m k/\O0.R h' [.slice j m k] r/\Sub h h':=by
 obtain⟨rfl,M⟩:=Sl.len p
 obtain⟨rfl,N⟩:=Sl.len q
 unfold Y3 at a
 refine G2 (args:=[.slice c g.length e,.slice d i.length f]) (fn:=Tryz.f147) rfl ?_
 obtain⟨F,w,b⟩:=Sl.rows (r:=Wp.int.toRp) p
 refine eX F (aI w ?_)
 obtain⟨S,z,a⟩:=B0 a
 refine aI (Q1 z (by first|rw[F2.length (show F2 (Wp.int.R h) ([]:List (List Value)) ([]:J0) from trivial),F2.length b]|exact congrArg (·+1) (F2.length (show F2 (Wp.int.R h) ([]:List (List Value)) ([]:J0) from trivial)))) ?_
 obtain⟨G,x,l⟩:=Sl.rows (r:=Wp.int.toRp) q
 refine eX G (aI x ?_)
 obtain⟨T,A,a⟩:=B0 a
 refine aI (Q1 A (by first|rw[F2.length (F2.append (show F2 (Wp.int.R h) ([]:List (List Value)) ([]:J0) from trivial) b),F2.length l]|exact congrArg (·+1) (F2.length (F2.append (show F2 (Wp.int.R h) ([]:List (List Value)) ([]:J0) from trivial) b)))) ?_
 refine Or.inl ?_
 intro V L y
 obtain⟨I,J,rfl,C,E,P⟩:=W0.out (r:=Wp.int.toRp) y (F2.append (F2.append (show F2 (Wp.int.R h) ([]:List (List Value)) ([]:J0) from trivial) b) l)
 refine trM a (H02 _ _ _ _ _ C) ?_
 rintro H a U K ⟨t,Q,u,rfl,s,D⟩
 obtain⟨rfl,O⟩:=Sl.len s
 obtain rfl:=oJ a
 exact⟨t,H.length,u,rfl,s,(E.trans D)⟩
theorem J09(h:Hp)(b:Option Addr)(n d:Nat)(f:J0)(p:O0.R h [.slice b n d] f)(c:Option Addr)(o e:Nat)(g:J0)(i:O0.R h [.slice c o e] g)(r:J0)(a:p8 f g=some r):
  Tr Tryz.prog 69 #[.slice b n d,.slice c o e] h λv h'=>∃(k:Option Addr) (m l:Nat),v = .slice k m l/\O0.R h' [.slice k m l] r/\Sub h h':=by
 obtain⟨rfl,I⟩:=Sl.len p
 obtain⟨rfl,J⟩:=Sl.len i
 unfold p8 at a
 refine G2 (args:=[.slice b f.length d,.slice c g.length e]) (fn:=Tryz.f69) rfl ?_
 refine trM a (T0c _ _ _ _ _ i) ?_
 rintro U a Q F ⟨A,N,D,rfl,q,j⟩
 obtain⟨rfl,K⟩:=Sl.len q
 refine trM a (a05 _ _ _ _ _ q _ _ _ _ (O0.mono j p)) ?_
 rintro V a S G ⟨C,O,E,rfl,s,u⟩
 obtain⟨rfl,L⟩:=Sl.len s
 refine trM a (a05 _ _ _ _ _ s _ _ _ _ (O0.mono (j.trans u) i)) ?_
 rintro z a T H ⟨w,P,x,rfl,t,y⟩
 obtain⟨rfl,M⟩:=Sl.len t
 obtain rfl:=oJ a
 exact⟨w,z.length,x,rfl,t,((j.trans u).trans y)⟩
theorem w0h(h:Hp)(s:Option Addr)(I t:Nat)(m:O2)(J:Q2.R h [.slice s I t] m)(r:J0)(k:E02 m=some r):
  Tr Tryz.prog 196 #[.slice s I t] h λv h'=>∃(D:Option Addr) (H E:Nat),v = .slice D H E/\New O0 h h' [.slice D H E] r:=by
 obtain⟨rfl,ap⟩:=Sl.len J
 unfold E02 at k
 refine G2 (args:=[.slice s m.length t]) (fn:=Tryz.f196) rfl ?_
 obtain⟨A,U,k⟩:=B0 k
 refine eX { vars:=[11],boxes:=[],owns:=[0],fuel:=true } (eX (λvs os h'=>∃ g p i,vs.tail = [.int .i64 g]/\os = [p]/\Sub h h'/\H0 g/\F2 (Wp.int.R h') p i/\r8 m (O1 vs) g i=some A) (eX (λ_ _=>0) (aI (eX V0 ⟨0,[],([]:J0),rfl,rfl,(Sub.refl _),(by decide),(show F2 (Wp.int.R h) ([]:List (List Value)) ([]:J0) from trivial),U⟩) ?_)))
 rintro _ p n aa ⟨g,aG,i,⟨⟩,⟨⟩,z,am,u,b⟩
 replace b:r8 m n g i=some A:=b
 obtain _|n:=n
 ·cases b
 rw[r8.eq_2]at b
 refine ifB b (λY b=>?_) λY b=>?_
 ·refine ld b (Q2.mono z J) λK ah y b=>?_
  obtain⟨af,au,ai,rfl⟩:=Wp.slice_cell y
  obtain⟨rfl,aq⟩:=Sl.len y
  obtain⟨C,V,b⟩:=B0 b
  refine eX { vars:=[17],boxes:=[],owns:=[0],fuel:=true } (eX (λvs os h'=>∃ f c e,vs.tail = [.int .i64 f]/\os = [c]/\Sub aa h'/\H0 f/\F2 (Wp.int.R h') c e/\W6 K (O1 vs) f e=some C) (eX (λ_ _=>0) (aI (eX V0 ⟨0,p,i,rfl,rfl,(Sub.refl _),(by decide),u,V⟩) ?_)))
  rintro _ c l x ⟨f,aF,e,⟨⟩,⟨⟩,o,an,d,a⟩
  replace a:W6 K l f e=some C:=a
  obtain _|l:=l
  ·cases a
  rw[W6.eq_2]at a
  refine ifB a (λW a=>?_) λW a=>?_
  ·refine ldI a (O0.mono o y) λj w a=>?_
   obtain⟨ab,N,a⟩:=B0 a
   obtain rfl:c.length=ab:=(F2.length d).trans (oJ N)
   obtain⟨av,aj,a⟩:=B0 a
   obtain⟨ac,O,a⟩:=B0 a
   obtain rfl:c.length=ac:=(F2.length d).trans (oJ O)
   obtain⟨aw,ak,a⟩:=B0 a
   obtain⟨aD,T,a⟩:=B0 a
   obtain⟨ag,F,ae⟩:=M03 d T (m0c x)
   refine aI (λq=>(F q).1) ?_
   obtain⟨rfl,Z⟩:=ae
   refine eX _ (aI (λq=>(F q).2) ?_)
   refine trG a (λq=>Z03 _ _ Z _ w) λaE a=>?_
   refine ifB a (λX a=>?_) λX a=>?_
   ·obtain⟨ad,P,a⟩:=B0 a
    obtain rfl:c.length=ad:=(F2.length d).trans (oJ P)
    obtain⟨ax,al,a⟩:=B0 a
    obtain⟨ay,Q,a⟩:=B0 a
    refine aI (by have:=M0 Q;have:=F2.length d;omega) ?_
    exact D2 l ⟨(IntKind.i64.wrap (f+1)),(c.take (IntKind.i64.wrap (((c.length:Nat):Int)-1)).toNat),(e.take (IntKind.i64.wrap (((c.length:Nat):Int)-1)).toNat),rfl,rfl,o,(K0 _),(F2.take (IntKind.i64.wrap (((c.length:Nat):Int)-1)).toNat d),a⟩
   ·obtain⟨az,S,a⟩:=B0 a
    refine aI (Q1 S (by first|rw[F2.length d,F2.length (show F2 (Wp.int.R x) ([[.int .i64 j]]:List (List Value)) [j] from⟨⟨rfl,w⟩,trivial⟩)]|exact congrArg (·+1) (F2.length d))) ?_
    exact D2 l ⟨(IntKind.i64.wrap (f+1)),(c++([[.int .i64 j]]:List (List Value))),(e ++ [j]),rfl,rfl,o,(K0 _),(F2.append d (show F2 (Wp.int.R x) ([[.int .i64 j]]:List (List Value)) [j] from⟨⟨rfl,w⟩,trivial⟩)),a⟩
  ·obtain rfl:=oJ a
   try dsimp only[Y0,C1]at b
   exact D2 n ⟨(IntKind.i64.wrap (g+1)),c,e,rfl,rfl,(z.trans o),(K0 _),d,b⟩
 ·obtain rfl:=oJ b
  try dsimp only[Y0,C1]at k
  intro aC ao G
  obtain⟨L,M,rfl,aA,aB,ar⟩:=W0.out (r:=Wp.int.toRp) G u
  obtain rfl:=oJ k
  exact⟨L,i.length,M,rfl,(New.from (W0.newPlain (r:=Wp.int) G u (E06 _)) z)⟩
theorem P0a(h:Hp)(c:List Value)(e:j0)(u:F1.R h c e)(d:List Value)(f:N0)(x:I1.R h d f)(r:Bool)(a:o02 e f=some r):
  Tr Tryz.prog 232 #[.agg c.toArray,.agg d.toArray] h λv h'=>v = .bool r/\h'=h:=by
 obtain⟨n,b,g,A,i,o,rfl,rfl,j,y,w⟩:=C0 u
 obtain⟨rfl,z⟩:=Sl.len w
 obtain⟨p,s,t,rfl,rfl,k,l,m⟩:=U1 x
 unfold o02 at a
 dsimp only at a
 refine Tr.forget (G2 (args:=[.agg #[.int .i64 n,.int .i64 b,.slice g o.length i],.agg #[.int .i64 p,.int .i64 s,.int .i64 t]]) (fn:=Tryz.f232) rfl ?_)
 refine trV a (O6 _ _ k 0 (by decide) (IntKind.i64.wrap (b-1)) (K0 _)) λC a=>?_
 refine trG a (λq=>O6 _ _ m 0 (by decide) (IntKind.i64.wrap (b-1)) (K0 _)) λD a=>?_
 refine trG a (λq=>O6 _ _ l 1 (by decide) _ j) λE a=>?_
 obtain rfl:=oJ a
 exact aI rfl (Sub.refl _)
theorem o05(h:Hp)(n:List Value)(x:N0)(Q:I1.R h n x)(o:List Value)(y:N0)(S:I1.R h o y)(r:Int)(b:T8 x y=some r):
  Tr Tryz.prog 253 #[.agg n.toArray,.agg o.toArray] h λv h'=>v = .int .i64 r/\h'=h:=by
 obtain⟨d,e,f,rfl,rfl,p,q,s⟩:=U1 Q
 obtain⟨g,i,j,rfl,rfl,t,u,w⟩:=U1 S
 unfold T8 at b
 dsimp only at b
 refine Tr.forget (G2 (args:=[.agg #[.int .i64 d,.int .i64 e,.int .i64 f],.agg #[.int .i64 g,.int .i64 i,.int .i64 j]]) (fn:=Tryz.f253) rfl ?_)
 obtain⟨m,M,b⟩:=B0 b
 refine eX { vars:=[7],boxes:=[],owns:=[],fuel:=true } (eX (λvs os h'=>∃ k,vs.tail = [.int .i64 k]/\os = []/\Sub h h'/\H0 k/\G7 d e f g i j (O1 vs) k=some m) (eX (λ_ _=>0) (aI (eX V0 ⟨0,rfl,rfl,(Sub.refl _),(by decide),M⟩) ?_)))
 rintro _ l ag ⟨k,⟨⟩,⟨⟩,c,ab,a⟩
 replace a:G7 d e f g i j l k=some m:=a
 obtain _|l:=l
 ·cases a
 rw[G7.eq_2]at a
 refine ifB a (λO a=>?_) λO a=>?_
 ·refine Or.inl (aI (aI (by kernel_rfl) (by kernel_rfl)) ?_)
  obtain⟨ai,J,a⟩:=B0 a
  obtain⟨A,Y,F,U⟩:=s5 (F2.up (r:=Wp.int.toRp) c (show F2 (Wp.int.R h) ([[.int .i64 d],[.int .i64 e],[.int .i64 f]]:List (List Value)) [d,e,f] from⟨⟨rfl,p⟩,⟨⟨rfl,q⟩,⟨⟨rfl,s⟩,trivial⟩⟩⟩)) J
  refine aI A ?_
  obtain⟨rfl,ad⟩:=U
  refine eX _ (aI F ?_)
  obtain⟨aj,K,a⟩:=B0 a
  obtain⟨C,Z,G,V⟩:=s5 (F2.up (r:=Wp.int.toRp) c (show F2 (Wp.int.R h) ([[.int .i64 g],[.int .i64 i],[.int .i64 j]]:List (List Value)) [g,i,j] from⟨⟨rfl,t⟩,⟨⟨rfl,u⟩,⟨⟨rfl,w⟩,trivial⟩⟩⟩)) K
  refine aI C ?_
  obtain⟨rfl,ae⟩:=V
  refine eX _ (aI G ?_)
  refine ifB a (λP a=>?_) λP a=>?_
  ·obtain rfl:=oJ a
   try dsimp only[M2,N2]at b
   obtain rfl:=oJ b
   exact aI rfl c
  ·refine Or.inl (aI (aI (by kernel_rfl) (by kernel_rfl)) ?_)
   obtain⟨ak,L,a⟩:=B0 a
   obtain⟨D,aa,H,W⟩:=s5 (F2.up (r:=Wp.int.toRp) c (show F2 (Wp.int.R h) ([[.int .i64 d],[.int .i64 e],[.int .i64 f]]:List (List Value)) [d,e,f] from⟨⟨rfl,p⟩,⟨⟨rfl,q⟩,⟨⟨rfl,s⟩,trivial⟩⟩⟩)) L
   refine aI D ?_
   obtain⟨rfl,af⟩:=W
   refine eX _ (aI H ?_)
   obtain⟨ah,I,a⟩:=B0 a
   obtain⟨z,X,E,T⟩:=s5 (F2.up (r:=Wp.int.toRp) c (show F2 (Wp.int.R h) ([[.int .i64 g],[.int .i64 i],[.int .i64 j]]:List (List Value)) [g,i,j] from⟨⟨rfl,t⟩,⟨⟨rfl,u⟩,⟨⟨rfl,w⟩,trivial⟩⟩⟩)) I
   refine aI z ?_
   obtain⟨rfl,ac⟩:=T
   refine eX _ (aI E ?_)
   refine ifB a (λN a=>?_) λN a=>?_
   ·obtain rfl:=oJ a
    try dsimp only[M2,N2]at b
    obtain rfl:=oJ b
    exact aI rfl c
   ·exact D2 l ⟨(IntKind.i64.wrap (k+1)),rfl,rfl,c,(K0 _),a⟩
 ·obtain rfl:=oJ a
  try dsimp only[Y0,C1]at b
  obtain rfl:=oJ b
  exact aI rfl c
theorem P6(h:Hp)(l:List Value)(t:j0)(O:F1.R h l t)(r:Bool)(b:H4 t=some r):
  Tr Tryz.prog 231 #[.agg l.toArray] h λv h'=>v = .bool r/\h'=h:=by
 obtain⟨g,i,u,ab,w,j,rfl,rfl,o,p,e⟩:=C0 O
 obtain⟨rfl,aa⟩:=Sl.len e
 unfold H4 at b
 dsimp only at b
 refine Tr.forget (G2 (args:=[.agg #[.int .i64 g,.int .i64 i,.slice u j.length w]]) (fn:=Tryz.f231) rfl ?_)
 obtain⟨k,C,b⟩:=B0 b
 refine eX { vars:=[3],boxes:=[],owns:=[],fuel:=true } (eX (λvs os h'=>∃ d,vs.tail = [.int .i64 d]/\os = []/\Sub h h'/\H0 d/\W7 j g i (O1 vs) d=some k) (eX (λ_ _=>0) (aI (eX V0 ⟨0,rfl,rfl,(Sub.refl _),(by decide),C⟩) ?_)))
 rintro _ f s ⟨d,⟨⟩,⟨⟩,c,Y,a⟩
 replace a:W7 j g i f d=some k:=a
 obtain _|f:=f
 ·cases a
 rw[W7.eq_2]at a
 refine ifB a (λE a=>?_) λE a=>?_
 ·refine Or.inl (aI (aI (by kernel_rfl) (by kernel_rfl)) ?_)
  refine ld a (Q0.mono c e) λaf V P a=>?_
  obtain⟨ag,ah,ai,rfl,rfl,F,G,H⟩:=U1 P
  try dsimp only at a
  obtain⟨U,y,a⟩:=B0 a
  refine eX (.bool U) (aI (P0a _ _ _ (l0 o p (Q0.mono c e)) _ _ (D1 F G H) _  y) ?_)
  obtain⟨aj,z,a⟩:=B0 a
  obtain⟨W,m,Q⟩:=Sl.getG (r:=I1.toRp) (Q0.mono c e) z (by decide) (t0n s)
  refine aI (λq=>(m q).1) ?_
  obtain⟨ak,al,am,rfl,rfl,I,J,K⟩:=U1 Q
  try dsimp only at a
  refine eX _ (aI (λq=>(m q).2) ?_)
  obtain⟨an,A,a⟩:=B0 a
  obtain⟨X,n,S⟩:=Sl.getG (r:=I1.toRp) (Q0.mono c e) A (by decide) (t0n s)
  refine aI (λq=>(n q).1) ?_
  obtain⟨ao,ap,aq,rfl,rfl,L,M,N⟩:=U1 S
  try dsimp only at a
  refine eX _ (aI (λq=>(n q).2) ?_)
  refine trG a (λq=>o05 _ _ _ (D1 I J K) _ _ (D1 L M N)) λT a=>?_
  obtain⟨ac,x,a⟩:=B0 a
  have Z:H0 T:=M0 x
  refine ifB a (λD a=>?_) λD a=>?_
  ·obtain rfl:=oJ a
   try dsimp only[M2,N2]at b
   obtain rfl:=oJ b
   exact aI rfl c
  ·exact D2 f ⟨(IntKind.i64.wrap (d+1)),rfl,rfl,c,(K0 _),a⟩
 ·obtain rfl:=oJ a
  try dsimp only[Y0,C1]at b
  refine trV b (O6 _ _ o 1 (by decide) 3 (by decide)) λad b=>?_
  refine trG b (λq=>O6 _ _ p 1 (by decide) 40 (by decide)) λae b=>?_
  obtain rfl:=oJ b
  exact aI rfl c
theorem P02(h:Hp)(c:List Value)(d:j0)(l:F1.R h c d)(b:Int)(i:H0 b)(r:Bool)(a:S6 d b=some r):
  Tr Tryz.prog 228 #[.agg c.toArray,.int .i64 b] h λv h'=>v = .bool r/\h'=h:=by
 obtain⟨j,e,f,q,g,k,rfl,rfl,n,o,m⟩:=C0 l
 obtain⟨rfl,p⟩:=Sl.len m
 unfold S6 at a
 dsimp only at a
 refine Tr.forget (G2 (args:=[.agg #[.int .i64 j,.int .i64 e,.slice f k.length g],.int .i64 b]) (fn:=Tryz.f228) rfl ?_)
 refine trV a (E8 _ _ i 0 (by decide) (IntKind.i64.wrap (e-1)) (K0 _)) λs a=>?_
 obtain rfl:=oJ a
 exact aI rfl (Sub.refl _)
theorem b05(h:Hp)(d:List Value)(g:j0)(x:F1.R h d g)(e:List Value)(i:N0)(y:I1.R h e i)(r:Bool)(a:Y7 g i=some r):
  Tr Tryz.prog 229 #[.agg d.toArray,.agg e.toArray] h λv h'=>v = .bool r/\h'=h:=by
 obtain⟨o,p,j,A,k,s,rfl,rfl,b,f,c⟩:=C0 x
 obtain⟨rfl,z⟩:=Sl.len c
 obtain⟨t,u,w,rfl,rfl,l,m,n⟩:=U1 y
 unfold Y7 at a
 dsimp only at a
 refine Tr.forget (G2 (args:=[.agg #[.int .i64 o,.int .i64 p,.slice j s.length k],.agg #[.int .i64 t,.int .i64 u,.int .i64 w]]) (fn:=Tryz.f229) rfl ?_)
 refine trV a (P02 _ _ _ (l0 b f c) _ l) λC a=>?_
 refine trG a (λq=>P02 _ _ _ (l0 b f c) _ n) λD a=>?_
 refine trG a (λq=>E8 _ _ m 1 (by decide) _ b) λE a=>?_
 obtain rfl:=oJ a
 exact aI rfl (Sub.refl _)
theorem p05(h:Hp)(b:List Value)(d:N0)(z:I1.R h b d)(c:List Value)(e:N0)(A:I1.R h c e)(r:Int)(a:e00 d e=some r):
  Tr Tryz.prog 240 #[.agg b.toArray,.agg c.toArray] h λv h'=>v = .int .i64 r/\h'=h:=by
 obtain⟨s,t,u,rfl,rfl,l,m,n⟩:=U1 z
 obtain⟨w,x,y,rfl,rfl,o,p,q⟩:=U1 A
 unfold e00 at a
 dsimp only at a
 refine Tr.forget (G2 (args:=[.agg #[.int .i64 s,.int .i64 t,.int .i64 u],.agg #[.int .i64 w,.int .i64 x,.int .i64 y]]) (fn:=Tryz.f240) rfl ?_)
 refine trV a (o03 _ _ l _ o) λC a=>?_
 obtain⟨I,f,a⟩:=B0 a
 have F:H0 C:=M0 f
 refine ifB a (λj a=>?_) λj a=>?_
 ·obtain rfl:=oJ a
  exact aI rfl (Sub.refl _)
 ·refine trV a (o03 _ _ m _ p) λD a=>?_
  obtain⟨J,g,a⟩:=B0 a
  have G:H0 D:=M0 g
  refine ifB a (λk a=>?_) λk a=>?_
  ·obtain rfl:=oJ a
   exact aI rfl (Sub.refl _)
  ·refine trV a (o03 _ _ n _ q) λE a=>?_
   obtain⟨K,i,a⟩:=B0 a
   have H:H0 E:=M0 i
   obtain rfl:=oJ a
   exact aI rfl (Sub.refl _)
theorem S00(h:Hp)(l:List Value)(u:j0)(K:F1.R h l u)(r:Bool)(b:G6 u=some r):
  Tr Tryz.prog 171 #[.agg l.toArray] h λv h'=>v = .bool r/\h'=h:=by
 obtain⟨g,i,w,V,x,j,rfl,rfl,n,o,f⟩:=C0 K
 obtain⟨rfl,U⟩:=Sl.len f
 unfold G6 at b
 dsimp only at b
 refine Tr.forget (G2 (args:=[.agg #[.int .i64 g,.int .i64 i,.slice w j.length x]]) (fn:=Tryz.f171) rfl ?_)
 refine trV b (E8 _ _ n 1 (by decide) 3 (by decide)) λX b=>?_
 refine trG b (λq=>E8 _ _ o 1 (by decide) 40 (by decide)) λac b=>?_
 refine ifB b (λE b=>?_) λE b=>?_
 ·obtain rfl:=oJ b
  exact aI rfl (Sub.refl _)
 ·obtain⟨k,C,b⟩:=B0 b
  refine eX { vars:=[24],boxes:=[],owns:=[],fuel:=true } (eX (λvs os h'=>∃ d,vs.tail = [.int .i64 d]/\os = []/\Sub h h'/\H0 d/\Z7 j g i (O1 vs) d=some k) (eX (λ_ _=>0) (aI (eX V0 ⟨0,rfl,rfl,(Sub.refl _),(by decide),C⟩) ?_)))
  rintro _ e J ⟨d,⟨⟩,⟨⟩,c,S,a⟩
  replace a:Z7 j g i e d=some k:=a
  obtain _|e:=e
  ·cases a
  rw[Z7.eq_2]at a
  refine ifB a (λF a=>?_) λF a=>?_
  ·refine ld a (Q0.mono c f) λad Q M a=>?_
   obtain⟨ae,af,ag,rfl,rfl,p,s,t⟩:=U1 M
   try dsimp only at a
   refine Or.inl (aI (aI (by kernel_rfl) (by kernel_rfl)) ?_)
   obtain⟨N,z,a⟩:=B0 a
   refine eX (.bool N) (aI (b05 _ _ _ (l0 n o (Q0.mono c f)) _ _ (D1 p s t) _  z) ?_)
   obtain⟨Y,A,a⟩:=B0 a
   obtain⟨P,m,L⟩:=Sl.getG (r:=I1.toRp) (Q0.mono c f) A (by decide) (t0n J)
   refine aI (λq=>(m q).1) ?_
   obtain⟨Z,aa,ab,rfl,rfl,G,H,I⟩:=U1 L
   try dsimp only at a
   refine eX _ (aI (λq=>(m q).2) ?_)
   refine trG a (λq=>p05 _ _ _ (D1 G H I) _ _ (D1 p s t)) λO a=>?_
   obtain⟨W,y,a⟩:=B0 a
   have T:H0 O:=M0 y
   refine ifB a (λD a=>?_) λD a=>?_
   ·obtain rfl:=oJ a
    try dsimp only[M2,N2]at b
    obtain rfl:=oJ b
    exact aI rfl c
   ·exact D2 e ⟨(IntKind.i64.wrap (d+1)),rfl,rfl,c,(K0 _),a⟩
  ·obtain rfl:=oJ a
   try dsimp only[Y0,C1]at b
   obtain rfl:=oJ b
   exact aI rfl c
theorem Q02(h:Hp)(u:Option Addr)(G w:Nat)(s:J0)(k:O0.R h [.slice u G w] s)(b:Int)(g:H0 b)(r:J0)(f:F9 s b=some r):
  Tr Tryz.prog 264 #[.slice u G w,.int .i64 b] h λv h'=>∃(y:Option Addr) (F z:Nat),v = .slice y F z/\O0.R h' [.slice y F z] r/\Sub h h':=by
 obtain⟨rfl,al⟩:=Sl.len k
 unfold F9 at f
 refine G2 (args:=[.slice u s.length w,.int .i64 b]) (fn:=Tryz.f264) rfl ?_
 obtain⟨x,V,f⟩:=B0 f
 refine eX { vars:=[6,7],boxes:=[],owns:=[0],fuel:=true } (eX (λvs os h'=>∃ t j m i,vs.tail = [.bool t,.int .i64 j]/\os = [m]/\Sub h h'/\H0 j/\F2 (Wp.int.R h') m i/\U4 s b (O1 vs) t j i=some x) (eX (λ_ _=>0) (aI (eX V0 ⟨false,0,[],([]:J0),rfl,rfl,(Sub.refl _),(by decide),(show F2 (Wp.int.R h) ([]:List (List Value)) ([]:J0) from trivial),V⟩) ?_)))
 rintro _ _ m l d ⟨t,j,aC,i,⟨⟩,⟨⟩,e,af,c,a⟩
 replace a:U4 s b l t j i=some x:=a
 obtain _|l:=l
 ·cases a
 rw[U4.eq_2]at a
 refine ifB a (λZ a=>?_) λZ a=>?_
 ·refine ldI a (O0.mono e k) λaB ai a=>?_
  refine ifB a (λaa a=>?_) λaa a=>?_
  ·refine ldI a (O0.mono e k) λaz ag a=>?_
   refine ifB a (λW a=>?_) λW a=>?_
   ·obtain⟨ao,N,a⟩:=B0 a
    refine aI (Q1 N (by first|rw[F2.length c,F2.length (show F2 (Wp.int.R d) ([[.int .i64 b]]:List (List Value)) [b] from⟨⟨rfl,g⟩,trivial⟩)]|exact congrArg (·+1) (F2.length c))) ?_
    refine ldI a (O0.mono e k) λn A a=>?_
    obtain⟨ap,O,a⟩:=B0 a
    refine aI (Q1 O (by first|rw[F2.length (F2.append c (show F2 (Wp.int.R d) ([[.int .i64 b]]:List (List Value)) [b] from⟨⟨rfl,g⟩,trivial⟩)),F2.length (show F2 (Wp.int.R d) ([[.int .i64 n]]:List (List Value)) [n] from⟨⟨rfl,A⟩,trivial⟩)]|exact congrArg (·+1) (F2.length (F2.append c (show F2 (Wp.int.R d) ([[.int .i64 b]]:List (List Value)) [b] from⟨⟨rfl,g⟩,trivial⟩))))) ?_
    exact D2 l ⟨true,(IntKind.i64.wrap (j+1)),((m++([[.int .i64 b]]:List (List Value)))++([[.int .i64 n]]:List (List Value))),((i ++ [b]) ++ [n]),rfl,rfl,e,(K0 _),(F2.append (F2.append c (show F2 (Wp.int.R d) ([[.int .i64 b]]:List (List Value)) [b] from⟨⟨rfl,g⟩,trivial⟩)) (show F2 (Wp.int.R d) ([[.int .i64 n]]:List (List Value)) [n] from⟨⟨rfl,A⟩,trivial⟩)),a⟩
   ·refine ldI a (O0.mono e k) λo C a=>?_
    obtain⟨aq,P,a⟩:=B0 a
    refine aI (Q1 P (by first|rw[F2.length c,F2.length (show F2 (Wp.int.R d) ([[.int .i64 o]]:List (List Value)) [o] from⟨⟨rfl,C⟩,trivial⟩)]|exact congrArg (·+1) (F2.length c))) ?_
    exact D2 l ⟨true,(IntKind.i64.wrap (j+1)),(m++([[.int .i64 o]]:List (List Value))),(i ++ [o]),rfl,rfl,e,(K0 _),(F2.append c (show F2 (Wp.int.R d) ([[.int .i64 o]]:List (List Value)) [o] from⟨⟨rfl,C⟩,trivial⟩)),a⟩
  ·refine ldI a (O0.mono e k) λaA ah a=>?_
   refine ifB a (λX a=>?_) λX a=>?_
   ·obtain⟨ar,Q,a⟩:=B0 a
    refine aI (Q1 Q (by first|rw[F2.length c,F2.length (show F2 (Wp.int.R d) ([[.int .i64 b]]:List (List Value)) [b] from⟨⟨rfl,g⟩,trivial⟩)]|exact congrArg (·+1) (F2.length c))) ?_
    refine ldI a (O0.mono e k) λp D a=>?_
    obtain⟨au,S,a⟩:=B0 a
    refine aI (Q1 S (by first|rw[F2.length (F2.append c (show F2 (Wp.int.R d) ([[.int .i64 b]]:List (List Value)) [b] from⟨⟨rfl,g⟩,trivial⟩)),F2.length (show F2 (Wp.int.R d) ([[.int .i64 p]]:List (List Value)) [p] from⟨⟨rfl,D⟩,trivial⟩)]|exact congrArg (·+1) (F2.length (F2.append c (show F2 (Wp.int.R d) ([[.int .i64 b]]:List (List Value)) [b] from⟨⟨rfl,g⟩,trivial⟩))))) ?_
    exact D2 l ⟨true,(IntKind.i64.wrap (j+1)),((m++([[.int .i64 b]]:List (List Value)))++([[.int .i64 p]]:List (List Value))),((i ++ [b]) ++ [p]),rfl,rfl,e,(K0 _),(F2.append (F2.append c (show F2 (Wp.int.R d) ([[.int .i64 b]]:List (List Value)) [b] from⟨⟨rfl,g⟩,trivial⟩)) (show F2 (Wp.int.R d) ([[.int .i64 p]]:List (List Value)) [p] from⟨⟨rfl,D⟩,trivial⟩)),a⟩
   ·refine ldI a (O0.mono e k) λq E a=>?_
    obtain⟨av,T,a⟩:=B0 a
    refine aI (Q1 T (by first|rw[F2.length c,F2.length (show F2 (Wp.int.R d) ([[.int .i64 q]]:List (List Value)) [q] from⟨⟨rfl,E⟩,trivial⟩)]|exact congrArg (·+1) (F2.length c))) ?_
    exact D2 l ⟨t,(IntKind.i64.wrap (j+1)),(m++([[.int .i64 q]]:List (List Value))),(i ++ [q]),rfl,rfl,e,(K0 _),(F2.append c (show F2 (Wp.int.R d) ([[.int .i64 q]]:List (List Value)) [q] from⟨⟨rfl,E⟩,trivial⟩)),a⟩
 ·obtain rfl:=oJ a
  try dsimp only[Y0,C1]at f
  refine ifB f (λY f=>?_) λY f=>?_
  ·obtain⟨aw,U,f⟩:=B0 f
   refine aI (Q1 U (by first|rw[F2.length c,F2.length (show F2 (Wp.int.R d) ([[.int .i64 b]]:List (List Value)) [b] from⟨⟨rfl,g⟩,trivial⟩)]|exact congrArg (·+1) (F2.length c))) ?_
   intro ax aj L
   obtain⟨H,J,rfl,ab,ad,am⟩:=W0.out (r:=Wp.int.toRp) L (F2.append c (show F2 (Wp.int.R d) ([[.int .i64 b]]:List (List Value)) [b] from⟨⟨rfl,g⟩,trivial⟩))
   obtain rfl:=oJ f
   exact⟨H,((i ++ [b])).length,J,rfl,ab,(e.trans ad)⟩
  ·intro ay ak M
   obtain⟨I,K,rfl,ac,ae,an⟩:=W0.out (r:=Wp.int.toRp) M c
   obtain rfl:=oJ f
   exact⟨I,i.length,K,rfl,ac,(e.trans ae)⟩
theorem a04(h:Hp)(i:Option Addr)(l j:Nat)(e:J0)(m:O0.R h [.slice i l j] e)(c:Int)(q:H0 c)(r:Bool)(b:j00 e c=some r):
  Tr Tryz.prog 129 #[.slice i l j,.int .i64 c] h λv h'=>v = .bool r/\h'=h:=by
 obtain⟨rfl,w⟩:=Sl.len m
 unfold j00 at b
 refine Tr.forget (G2 (args:=[.slice i e.length j,.int .i64 c]) (fn:=Tryz.f129) rfl ?_)
 obtain⟨k,n,b⟩:=B0 b
 refine eX { vars:=[5],boxes:=[],owns:=[],fuel:=true } (eX (λvs os h'=>∃ d,vs.tail = [.int .i64 d]/\os = []/\Sub h h'/\H0 d/\N9 e c (O1 vs) d=some k) (eX (λ_ _=>0) (aI (eX V0 ⟨0,rfl,rfl,(Sub.refl _),(by decide),n⟩) ?_)))
 rintro _ f u ⟨d,⟨⟩,⟨⟩,g,s,a⟩
 replace a:N9 e c f d=some k:=a
 obtain _|f:=f
 ·cases a
 rw[N9.eq_2]at a
 refine ifB a (λo a=>?_) λo a=>?_
 ·refine ldI a (O0.mono g m) λx t a=>?_
  refine ifB a (λp a=>?_) λp a=>?_
  ·obtain rfl:=oJ a
   try dsimp only[M2,N2]at b
   obtain rfl:=oJ b
   exact aI rfl g
  ·exact D2 f ⟨(IntKind.i64.wrap (d+1)),rfl,rfl,g,(K0 _),a⟩
 ·obtain rfl:=oJ a
  try dsimp only[Y0,C1]at b
  obtain rfl:=oJ b
  exact aI rfl g
theorem c0e(h:Hp)(t:List Value)(x:j0)(Z:F1.R h t x)(f:Int)(ai:H0 f)(g:Int)(aj:H0 g)(r:J0)(e:x01 x f g=some r):
  Tr Tryz.prog 215 #[.agg t.toArray,.int .i64 f,.int .i64 g] h λv h'=>∃(q:Option Addr) (w s:Nat),v = .slice q w s/\O0.R h' [.slice q w s] r/\Sub h h':=by
 obtain⟨X,Y,G,az,L,n,rfl,rfl,ag,ah,y⟩:=C0 Z
 obtain⟨rfl,ar⟩:=Sl.len y
 unfold x01 at e
 dsimp only at e
 refine G2 (args:=[.agg #[.int .i64 X,.int .i64 Y,.slice G n.length L],.int .i64 f,.int .i64 g]) (fn:=Tryz.f215) rfl ?_
 obtain⟨p,Q,e⟩:=B0 e
 refine eX { vars:=[7,8],boxes:=[],owns:=[],fuel:=true,pubs:=[7,10] } (eX (λvs os h'=>∃(j:Option Addr) (m k:Nat) (d:J0) (b:Int),vs.tail = [.slice j m k,.int .i64 b]/\os = []/\Sub h h'/\O0.R h' [.slice j m k] d/\H0 b/\I4 n g f (O1 vs) d b=some p) (eX (λ_ _=>0) ?_))
 intro aD ao f3
 obtain⟨K,P,rfl,ab,ae,ay⟩:=W0.out (r:=Wp.int.toRp) f3 (show F2 (Wp.int.R h) ([]:List (List Value)) ([]:J0) from trivial)
 refine aI (eX V0 ⟨K,(([]:J0)).length,P,([]:J0),0,rfl,rfl,ae,ab,(by decide),Q⟩) ?_
 rintro _ _ c aq ⟨j,m,k,d,b,⟨⟩,⟨⟩,i,l,ak,a⟩
 replace a:I4 n g f c d b=some p:=a
 obtain _|c:=c
 ·cases a
 rw[I4.eq_2]at a
 obtain⟨rfl,au⟩:=Sl.len l
 refine ifB a (λS a=>?_) λS a=>?_
 ·refine ld a (Q0.mono i y) λaH af aa a=>?_
  obtain⟨aJ,aK,aL,rfl,rfl,u,al,W⟩:=U1 aa
  try dsimp only at a
  refine ifB a (λT a=>?_) λT a=>?_
  ·refine trM a (Q02 _ _ _ _ _ l _ W) ?_
   rintro D a aE am ⟨H,aA,M,rfl,o,C⟩
   obtain⟨rfl,av⟩:=Sl.len o
   refine ifB a (λU a=>?_) λU a=>?_
   ·refine trM a (Q02 _ _ _ _ _ o _ u) ?_
    rintro E a aF an ⟨I,aB,N,rfl,z,ac⟩
    obtain⟨rfl,aw⟩:=Sl.len z
    exact D2 c ⟨I,E.length,N,E,(IntKind.i64.wrap (b+1)),rfl,rfl,((i.trans C).trans ac),z,(K0 _),a⟩
   ·exact D2 c ⟨H,D.length,M,D,(IntKind.i64.wrap (b+1)),rfl,rfl,(i.trans C),o,(K0 _),a⟩
  ·refine ifB a (λV a=>?_) λV a=>?_
   ·refine trM a (Q02 _ _ _ _ _ l _ u) ?_
    rintro F a aG ap ⟨J,aC,O,rfl,A,ad⟩
    obtain⟨rfl,ax⟩:=Sl.len A
    exact D2 c ⟨J,F.length,O,F,(IntKind.i64.wrap (b+1)),rfl,rfl,(i.trans ad),A,(K0 _),a⟩
   ·exact D2 c ⟨j,d.length,k,d,(IntKind.i64.wrap (b+1)),rfl,rfl,i,l,(K0 _),a⟩
 ·obtain rfl:=oJ a
  try dsimp only[Y0,C1]at e
  obtain rfl:=oJ e
  exact⟨j,d.length,k,rfl,l,i⟩
theorem b04(h:Hp)(d:List Value)(e:j0)(u:F1.R h d e)(b:Int)(o:H0 b)(c:Int)(p:H0 c)(r:Int)(a:I8 e b c=some r):
  Tr Tryz.prog 128 #[.agg d.toArray,.int .i64 b,.int .i64 c] h λv h'=>v = .int .i64 r/\h'=h:=by
 obtain⟨q,s,j,D,k,t,rfl,rfl,m,n,f⟩:=C0 u
 obtain⟨rfl,A⟩:=Sl.len f
 unfold I8 at a
 dsimp only at a
 refine Tr.forget (G2 (args:=[.agg #[.int .i64 q,.int .i64 s,.slice j t.length k],.int .i64 b,.int .i64 c]) (fn:=Tryz.f128) rfl ?_)
 refine trM a (c0e _ _ _ (l0 m n f) _ o _ p) ?_
 rintro G a F z ⟨w,E,x,rfl,g,i⟩
 obtain⟨rfl,C⟩:=Sl.len g
 refine ifB a (λl a=>?_) λl a=>?_
 ·obtain rfl:=oJ a
  exact aI rfl i
 ·refine ldI a g λH y a=>?_
  obtain rfl:=oJ a
  exact aI rfl i
theorem f01(h:Hp)(p:List Value)(u:j0)(F:F1.R h p u)(r:Bool)(c:Q6 u=some r):
  Tr Tryz.prog 154 #[.agg p.toArray] h λv h'=>v = .bool r/\h'=h:=by
 obtain⟨l,m,w,V,x,f,rfl,rfl,s,t,g⟩:=C0 F
 obtain⟨rfl,U⟩:=Sl.len g
 unfold Q6 at c
 dsimp only at c
 refine Tr.forget (G2 (args:=[.agg #[.int .i64 l,.int .i64 m,.slice w f.length x]]) (fn:=Tryz.f154) rfl ?_)
 obtain⟨n,y,c⟩:=B0 c
 refine eX { vars:=[3],boxes:=[],owns:=[],fuel:=true } (eX (λvs os h'=>∃ d,vs.tail = [.int .i64 d]/\os = []/\Sub h h'/\H0 d/\M5 f l m (O1 vs) d=some n) (eX (λ_ _=>0) (aI (eX V0 ⟨0,rfl,rfl,(Sub.refl _),(by decide),y⟩) ?_)))
 rintro _ k E ⟨d,⟨⟩,⟨⟩,e,K,b⟩
 replace b:M5 f l m k d=some n:=b
 obtain _|k:=k
 ·cases b
 rw[M5.eq_2]at b
 refine trG b (λq=>P6 _ _ _ (l0 s t (Q0.mono e g))) λaf b=>?_
 refine ifB b (λD b=>?_) λD b=>?_
 ·obtain⟨o,z,b⟩:=B0 b
  refine eX { vars:=[4],boxes:=[],owns:=[],fuel:=true } (eX (λvs os h'=>∃ u8,vs.tail = [.int .i64 u8]/\os = []/\Sub E h'/\H0 u8/\A7 d f (O1 vs) u8=some o) (eX (λ_ _=>0) (aI (eX V0 ⟨0,rfl,rfl,(Sub.refl _),(by decide),z⟩) ?_)))
  rintro _ j T ⟨u8,⟨⟩,⟨⟩,i,L,a⟩
  replace a:A7 d f j u8=some o:=a
  obtain _|j:=j
  ·cases a
  rw[A7.eq_2]at a
  refine ifB a (λA a=>?_) λA a=>?_
  ·refine ld a (Q0.mono (e.trans i) g) λW I G a=>?_
   obtain⟨X,Y,Z,rfl,rfl,M,N,O⟩:=U1 G
   try dsimp only at a
   refine ld a (Q0.mono (e.trans i) g) λaa J H a=>?_
   obtain⟨ab,ac,ad,rfl,rfl,P,Q,S⟩:=U1 H
   try dsimp only at a
   refine ifB a (λC a=>?_) λC a=>?_
   ·obtain rfl:=oJ a
    try dsimp only[M2,N2]at b
    obtain rfl:=oJ b
    try dsimp only[M2,N2]at c
    obtain rfl:=oJ c
    exact aI rfl (e.trans i)
   ·exact D2 j ⟨(IntKind.i64.wrap (u8+1)),rfl,rfl,i,(K0 _),a⟩
  ·obtain rfl:=oJ a
   try dsimp only[Y0,C1]at b
   exact D2 k ⟨(IntKind.i64.wrap (d+1)),rfl,rfl,(e.trans i),(K0 _),b⟩
 ·obtain rfl:=oJ b
  try dsimp only[Y0,C1]at c
  refine trV c (P6 _ _ _ (l0 s t (Q0.mono e g))) λae c=>?_
  obtain rfl:=oJ c
  exact aI rfl e
theorem P08(h:Hp)(t:List Value)(z:j0)(N:F1.R h t z)(d:Int)(x:H0 d)(k:Option Addr)(y l:Nat)(e:J0)(A:O0.R h [.slice k y l] e)(r:Int×Bool)(b:b01 z d e=some r):
  Tr Tryz.prog 159 #[.agg t.toArray,.int .i64 d,.slice k y l] h λv h'=>v = .tuple #[.int .i64 r.1,.bool r.2]/\h'=h:=by
 obtain⟨m,j,C,T,D,n,rfl,rfl,u,w,o⟩:=C0 N
 obtain⟨rfl,Q⟩:=Sl.len o
 obtain⟨rfl,S⟩:=Sl.len A
 unfold b01 at b
 dsimp only at b
 refine Tr.forget (G2 (args:=[.agg #[.int .i64 m,.int .i64 j,.slice C n.length D],.int .i64 d,.slice k e.length l]) (fn:=Tryz.f159) rfl ?_)
 refine trV b (f01 _ _ _ (l0 u w o)) λV b=>?_
 refine trG b (λq=>O6 _ _ x 0 (by decide) (IntKind.i64.wrap (j-1)) (K0 _)) λX b=>?_
 refine ifB b (λI b=>?_) λI b=>?_
 ·obtain rfl:=oJ b
  exact aI rfl (Sub.refl _)
 ·obtain⟨s,G,b⟩:=B0 b
  refine eX { vars:=[1,8],boxes:=[],owns:=[],fuel:=true } (eX (λvs os h'=>∃ g c,vs.tail = [.int .i64 g,.int .i64 c]/\os = []/\Sub h h'/\H0 g/\H0 c/\B7 e m j n (O1 vs) g c=some s) (eX (λ_ _=>0) (aI (eX V0 ⟨d,0,rfl,rfl,(Sub.refl _),x,(by decide),G⟩) ?_)))
  rintro _ _ i P ⟨g,c,⟨⟩,⟨⟩,f,K,O,a⟩
  replace a:B7 e m j n i g c=some s:=a
  obtain _|i:=i
  ·cases a
  rw[B7.eq_2]at a
  refine ifB a (λJ a=>?_) λJ a=>?_
  ·refine Or.inl (aI (aI (by kernel_rfl) (by kernel_rfl)) ?_)
   refine ldI a (O0.mono f A) λW L a=>?_
   obtain⟨p,F,a⟩:=B0 a
   refine eX (.int .i64 p) (aI (b04 _ _ _ (l0 u w (Q0.mono f o)) _ K _ L _  F) ?_)
   obtain⟨U,E,a⟩:=B0 a
   have M:H0 p:=M0 E
   refine ifB a (λH a=>?_) λH a=>?_
   ·obtain rfl:=oJ a
    try dsimp only[M2,N2]at b
    obtain rfl:=oJ b
    exact aI rfl f
   ·exact D2 i ⟨p,(IntKind.i64.wrap (c+1)),rfl,rfl,f,M,(K0 _),a⟩
  ·obtain rfl:=oJ a
   try dsimp only[Y0,C1]at b
   obtain rfl:=oJ b
   exact aI rfl f
theorem d0e(h:Hp)(t:List Value)(A:j0)(U:F1.R h t A)(g:Int)(ab:H0 g)(i:Int)(ac:H0 i)(r:J0)(c:y01 A g i=some r):
  Tr Tryz.prog 269 #[.agg t.toArray,.int .i64 g,.int .i64 i] h λv h'=>∃(q:Option Addr) (z s:Nat),v = .slice q z s/\New O0 h h' [.slice q z s] r:=by
 obtain⟨S,T,F,al,H,o,rfl,rfl,Z,aa,E⟩:=C0 U
 obtain⟨rfl,ai⟩:=Sl.len E
 unfold y01 at c
 dsimp only at c
 refine G2 (args:=[.agg #[.int .i64 S,.int .i64 T,.slice F o.length H],.int .i64 g,.int .i64 i]) (fn:=Tryz.f269) rfl ?_
 obtain⟨p,N,c⟩:=B0 c
 refine eX { vars:=[14],boxes:=[],owns:=[0],fuel:=true } (eX (λvs os h'=>∃ d j e,vs.tail = [.int .i64 d]/\os = [j]/\Sub h h'/\H0 d/\F2 (Wp.int.R h') j e/\l5 o i g (O1 vs) d e=some p) (eX (λ_ _=>0) (aI (eX V0 ⟨0,[],([]:J0),rfl,rfl,(Sub.refl _),(by decide),(show F2 (Wp.int.R h) ([]:List (List Value)) ([]:J0) from trivial),N⟩) ?_)))
 rintro _ j f n ⟨d,aA,e,⟨⟩,⟨⟩,m,ad,b,a⟩
 replace a:l5 o i g f d e=some p:=a
 obtain _|f:=f
 ·cases a
 rw[l5.eq_2]at a
 refine ifB a (λP a=>?_) λP a=>?_
 ·refine ld a (Q0.mono m E) λay X V a=>?_
  obtain⟨k,az,l,rfl,rfl,x,ae,y⟩:=U1 V
  try dsimp only at a
  refine ifB a (λQ a=>?_) λQ a=>?_
  ·obtain⟨ao,M,a⟩:=B0 a
   refine aI (Q1 M (by first|rw[F2.length b,F2.length (show F2 (Wp.int.R n) ([[.int .i64 l]]:List (List Value)) [l] from⟨⟨rfl,y⟩,trivial⟩)]|exact congrArg (·+1) (F2.length b))) ?_
   exact D2 f ⟨(IntKind.i64.wrap (d+1)),(j++([[.int .i64 l]]:List (List Value))),(e ++ [l]),rfl,rfl,m,(K0 _),(F2.append b (show F2 (Wp.int.R n) ([[.int .i64 l]]:List (List Value)) [l] from⟨⟨rfl,y⟩,trivial⟩)),a⟩
  ·refine ifB a (λO a=>?_) λO a=>?_
   ·obtain⟨am,K,a⟩:=B0 a
    refine aI (Q1 K (by first|rw[F2.length b,F2.length (show F2 (Wp.int.R n) ([[.int .i64 k]]:List (List Value)) [k] from⟨⟨rfl,x⟩,trivial⟩)]|exact congrArg (·+1) (F2.length b))) ?_
    exact D2 f ⟨(IntKind.i64.wrap (d+1)),(j++([[.int .i64 k]]:List (List Value))),(e ++ [k]),rfl,rfl,m,(K0 _),(F2.append b (show F2 (Wp.int.R n) ([[.int .i64 k]]:List (List Value)) [k] from⟨⟨rfl,x⟩,trivial⟩)),a⟩
   ·exact D2 f ⟨(IntKind.i64.wrap (d+1)),j,e,rfl,rfl,m,(K0 _),b,a⟩
 ·obtain rfl:=oJ a
  try dsimp only[Y0,C1]at c
  refine Or.inl ?_
  intro av af J
  obtain⟨an,L,c⟩:=B0 c
  refine Tr.mono (j0o _ J b (M0 L)) ?_
  rintro _ ag ⟨rfl,aw,u,C⟩
  obtain⟨W,Y,rfl,ap,ar,aj⟩:=W0.out (r:=Wp.int.toRp) u C
  refine Tr.mono (k0o _ u C) ?_
  rintro _ ah ⟨ax,w,D⟩
  obtain⟨G,I,rfl,aq,au,ak⟩:=W0.out (r:=Wp.int.toRp) w D
  obtain rfl:=oJ c
  exact⟨G,((g04 eqI (A07 Y9 e))).length,I,rfl,(New.from (W0.newPlain (r:=Wp.int) w D (E06 _)) m)⟩
theorem c04(h:Hp)(d:List Value)(e:j0)(x:F1.R h d e)(b:Int)(p:H0 b)(c:Int)(q:H0 c)(r:Int)(a:J8 e b c=some r):
  Tr Tryz.prog 225 #[.agg d.toArray,.int .i64 b,.int .i64 c] h λv h'=>v = .int .i64 r/\h'=h:=by
 obtain⟨t,u,k,E,l,w,rfl,rfl,n,o,f⟩:=C0 x
 obtain⟨rfl,C⟩:=Sl.len f
 unfold J8 at a
 dsimp only at a
 refine Tr.forget (G2 (args:=[.agg #[.int .i64 t,.int .i64 u,.slice k w.length l],.int .i64 b,.int .i64 c]) (fn:=Tryz.f225) rfl ?_)
 refine trM a (d0e _ _ _ (l0 n o f) _ p _ q) ?_
 rintro H a G s ⟨y,F,z,rfl,j⟩
 have i:Sub h s:=j.sub
 have g:=j.r
 obtain⟨rfl,D⟩:=Sl.len g
 refine ifB a (λm a=>?_) λm a=>?_
 ·obtain rfl:=oJ a
  exact aI rfl i
 ·refine ldI a g λI A a=>?_
  obtain rfl:=oJ a
  exact aI rfl i
theorem g01(h:Hp)(o:List Value)(p:j0)(Q:F1.R h o p)(r:Bool)(c:R6 p=some r):
  Tr Tryz.prog 141 #[.agg o.toArray] h λv h'=>v = .bool r/\h'=h:=by
 obtain⟨N,O,x,al,y,l,rfl,rfl,K,L,j⟩:=C0 Q
 obtain⟨rfl,aj⟩:=Sl.len j
 unfold R6 at c
 dsimp only at c
 refine Tr.forget (G2 (args:=[.agg #[.int .i64 N,.int .i64 O,.slice x l.length y]]) (fn:=Tryz.f141) rfl ?_)
 refine trV c (S00 _ _ _ (l0 K L j)) λam c=>?_
 refine ifB c (λH c=>?_) λH c=>?_
 ·obtain rfl:=oJ c
  exact aI rfl (Sub.refl _)
 ·obtain⟨n,E,c⟩:=B0 c
  refine eX { vars:=[13],boxes:=[],owns:=[],fuel:=true } (eX (λvs os h'=>∃ e,vs.tail = [.int .i64 e]/\os = []/\Sub h h'/\H0 e/\D7 l (O1 vs) e=some n) (eX (λ_ _=>0) (aI (eX V0 ⟨0,rfl,rfl,(Sub.refl _),(by decide),E⟩) ?_)))
  rintro _ i M ⟨e,⟨⟩,⟨⟩,f,ab,a⟩
  replace a:D7 l i e=some n:=a
  obtain _|i:=i
  ·cases a
  rw[D7.eq_2]at a
  refine ifB a (λI a=>?_) λI a=>?_
  ·refine ld a (Q0.mono f j) λar Y T a=>?_
   obtain⟨s,t,u,rfl,rfl,af,ag,ah⟩:=U1 T
   try dsimp only at a
   obtain⟨w,C,a⟩:=B0 a
   obtain⟨P,U,z,A⟩:=Sl.cutI (r:=I1.toRp) (Q0.mono f j) C
   refine aI P (eX U (aI z ?_))
   intro V J _
   obtain⟨W,Z,rfl,q⟩:=A V J
   have ak:=(Sl.len q).2
   obtain⟨m,D,a⟩:=B0 a
   refine eX { vars:=[24],boxes:=[],owns:=[],fuel:=true } (eX (λvs os h'=>∃ d,vs.tail = [.int .i64 d]/\os = []/\Sub M h'/\H0 d/\C7 w t s u (O1 vs) d=some m) (eX (λ_ _=>0) (aI (eX V0 ⟨0,rfl,rfl,(Sub.refl _),(by decide),D⟩) ?_)))
   rintro _ g ai ⟨d,⟨⟩,⟨⟩,k,aa,b⟩
   replace b:C7 w t s u g d=some m:=b
   obtain _|g:=g
   ·cases b
   rw[C7.eq_2]at b
   refine ifB b (λF b=>?_) λF b=>?_
   ·refine ld b (Q0.mono k q) λan X S b=>?_
    obtain⟨ao,ap,aq,rfl,rfl,ac,ad,ae⟩:=U1 S
    try dsimp only at b
    refine ifB b (λG b=>?_) λG b=>?_
    ·obtain rfl:=oJ b
     try dsimp only[M2,N2]at a
     obtain rfl:=oJ a
     try dsimp only[M2,N2]at c
     obtain rfl:=oJ c
     exact aI rfl (f.trans k)
    ·exact D2 g ⟨(IntKind.i64.wrap (d+1)),rfl,rfl,k,(K0 _),b⟩
   ·obtain rfl:=oJ b
    try dsimp only[Y0,C1]at a
    exact D2 i ⟨(IntKind.i64.wrap (e+1)),rfl,rfl,(f.trans k),(K0 _),a⟩
  ·obtain rfl:=oJ a
   try dsimp only[Y0,C1]at c
   obtain rfl:=oJ c
   exact aI rfl f
theorem S06(h:Hp)(p:List Value)(s:j0)(K:F1.R h p s)(d:Int)(G:H0 d)(j:Option Addr)(q k:Nat)(e:J0)(u:O0.R h [.slice j q k] e)(r:Int×Int)(b:Z9 s d e=some r):
  Tr Tryz.prog 142 #[.agg p.toArray,.int .i64 d,.slice j q k] h λv h'=>v = .tuple #[.int .i64 r.1,.int .i64 r.2]/\h'=h:=by
 obtain⟨l,m,x,P,y,n,rfl,rfl,E,F,t⟩:=C0 K
 obtain⟨rfl,N⟩:=Sl.len t
 obtain⟨rfl,O⟩:=Sl.len u
 unfold Z9 at b
 dsimp only at b
 refine Tr.forget (G2 (args:=[.agg #[.int .i64 l,.int .i64 m,.slice x n.length y],.int .i64 d,.slice j e.length k]) (fn:=Tryz.f142) rfl ?_)
 obtain⟨o,A,b⟩:=B0 b
 refine eX { vars:=[1,13],boxes:=[],owns:=[],fuel:=true } (eX (λvs os h'=>∃ g c,vs.tail = [.int .i64 g,.int .i64 c]/\os = []/\Sub h h'/\H0 g/\H0 c/\t6 e l m n (O1 vs) g c=some o) (eX (λ_ _=>0) (aI (eX V0 ⟨d,0,rfl,rfl,(Sub.refl _),G,(by decide),A⟩) ?_)))
 rintro _ _ i M ⟨g,c,⟨⟩,⟨⟩,f,H,L,a⟩
 replace a:t6 e l m n i g c=some o:=a
 obtain _|i:=i
 ·cases a
 rw[t6.eq_2]at a
 refine ifB a (λD a=>?_) λD a=>?_
 ·refine ldI a (O0.mono f u) λS I a=>?_
  refine trV a (c04 _ _ _ (l0 E F (Q0.mono f t)) _ H _ I) λw a=>?_
  obtain⟨Q,z,a⟩:=B0 a
  have J:H0 w:=M0 z
  refine ifB a (λC a=>?_) λC a=>?_
  ·obtain rfl:=oJ a
   try dsimp only[M2,N2]at b
   obtain rfl:=oJ b
   exact aI rfl f
  ·exact D2 i ⟨w,(IntKind.i64.wrap (c+1)),rfl,rfl,f,J,(K0 _),a⟩
 ·obtain rfl:=oJ a
  try dsimp only[Y0,C1]at b
  obtain rfl:=oJ b
  exact aI rfl f
theorem h06(h:Hp)(A:List Value)(F:D0)(ac:T1.R h A F)(C:List Value)(G:j0)(ad:F1.R h C G)(r:Int×Int)(c:R7 F G=some r):
  Tr Tryz.prog 74 #[.agg A.toArray,.agg C.toArray] h λv h'=>v = .tuple #[.int .i64 r.1,.int .i64 r.2]/\h'=h:=by
 obtain⟨o,y,aw,z,g,rfl,rfl,Z,p⟩:=J1 ac
 obtain⟨rfl,ar⟩:=Sl.len p
 obtain⟨i,j,K,ax,N,k,rfl,rfl,D,E,s⟩:=C0 ad
 obtain⟨rfl,au⟩:=Sl.len s
 unfold R7 at c
 dsimp only at c
 refine Tr.forget (G2 (args:=[.agg #[.int .i64 o,.slice y g.length z],.agg #[.int .i64 i,.int .i64 j,.slice K k.length N]]) (fn:=Tryz.f74) rfl ?_)
 obtain⟨w,U,c⟩:=B0 c
 refine eX { vars:=[6],boxes:=[],owns:=[],fuel:=true } (eX (λvs os h'=>∃ d,vs.tail = [.int .i64 d]/\os = []/\Sub h h'/\H0 d/\C4 j o g i k (O1 vs) d=some w) (eX (λ_ _=>0) (aI (eX V0 ⟨0,rfl,rfl,(Sub.refl _),(by decide),U⟩) ?_)))
 rintro _ n ab ⟨d,⟨⟩,⟨⟩,e,aa,b⟩
 replace b:C4 j o g i k n d=some w:=b
 obtain _|n:=n
 ·cases b
 rw[C4.eq_2]at b
 refine trG b (λq=>g9 _ _ _ (S0 Z (Q2.mono e p))) λaD b=>?_
 refine trG b (λq=>f01 _ _ _ (l0 D E (Q0.mono e s))) λaE b=>?_
 refine ifB b (λY b=>?_) λY b=>?_
 ·obtain⟨x,V,b⟩:=B0 b
  refine eX { vars:=[7],boxes:=[],owns:=[],fuel:=true } (eX (λvs os h'=>∃ f,vs.tail = [.int .i64 f]/\os = []/\Sub ab h'/\H0 f/\R5 g i j k d (O1 vs) f=some x) (eX (λ_ _=>0) (aI (eX V0 ⟨0,rfl,rfl,(Sub.refl _),(by decide),V⟩) ?_)))
  rintro _ m ak ⟨f,⟨⟩,⟨⟩,l,ai,a⟩
  replace a:R5 g i j k d m f=some x:=a
  obtain _|m:=m
  ·cases a
  rw[R5.eq_2]at a
  refine ifB a (λW a=>?_) λW a=>?_
  ·refine Or.inr (Or.inr (Or.inr (Or.inl (aI (aI (by kernel_rfl) (by kernel_rfl)) ?_))))
   obtain⟨af,S,a⟩:=B0 a
   obtain⟨M,ah,P,t⟩:=Sl.getI (r:=O0.toRp) (Q2.mono (e.trans l) p) S (by decide)
   obtain⟨L,ay,O,rfl⟩:=Wp.slice_cell t
   obtain⟨rfl,av⟩:=Sl.len t
   refine Or.inl (eX (.hel (.slice y g.length z) f 1 0) (aI ?_ ?_))
   ·intro al aA
    exact aI M (aI rfl (aI rfl rfl))
   refine Or.inl (eX (.val (.slice L af.length O)) (aI ?_ ?_))
   ·intro am ae
    exact eX _ (aI (J7.up ae P) (aI rfl (aI rfl rfl)))
   obtain⟨ag,T,a⟩:=B0 a
   obtain⟨u,J⟩:=ag
   try dsimp only at a
   obtain⟨az,Q,a⟩:=B0 a
   have aj:H0 u:=M0 Q
   refine Or.inl (eX (.val (.tuple #[.int .i64 u,.bool J])) (aI ?_ ?_))
   ·intro an H
    exact Tr.val (P08 _ _ _ (l0 D E (Q0.mono ((e.trans l).trans H) s)) _ aa _ _ _ _ (O0.mono H t) _ T) (aI rfl (aI rfl rfl))
   refine Or.inl (eX (.val (.int .i64 u)) (aI ?_ ?_))
   ·intro ao aB
    exact aI rfl (aI rfl rfl)
   refine Or.inl (eX (.val (.bool J)) (aI ?_ ?_))
   ·intro ap aC
    exact aI rfl (aI rfl rfl)
   intro aq I
   refine ifB a (λX a=>?_) λX a=>?_
   ·obtain rfl:=oJ a
    try dsimp only[M2,N2]at b
    obtain rfl:=oJ b
    try dsimp only[M2,N2]at c
    obtain rfl:=oJ c
    exact aI rfl ((e.trans l).trans I)
   ·exact D2 m ⟨(IntKind.i64.wrap (f+1)),rfl,rfl,(l.trans I),(K0 _),a⟩
  ·obtain rfl:=oJ a
   try dsimp only[Y0,C1]at b
   exact D2 n ⟨(IntKind.i64.wrap (d+1)),rfl,rfl,(e.trans l),(K0 _),b⟩
 ·obtain rfl:=oJ b
  try dsimp only[Y0,C1]at c
  obtain rfl:=oJ c
  exact aI rfl e
theorem p03(h:Hp)(w:List Value)(A:D0)(V:T1.R h w A)(x:List Value)(C:j0)(W:F1.R h x C)(r:Int×Int)(b:K6 A C=some r):
  Tr Tryz.prog 63 #[.agg w.toArray,.agg x.toArray] h λv h'=>v = .tuple #[.int .i64 r.1,.int .i64 r.2]/\h'=h:=by
 obtain⟨U,D,ak,F,f,rfl,rfl,Q,o⟩:=J1 V
 obtain⟨rfl,ah⟩:=Sl.len o
 obtain⟨g,i,E,al,G,j,rfl,rfl,y,z,p⟩:=C0 W
 obtain⟨rfl,ai⟩:=Sl.len p
 unfold K6 at b
 dsimp only at b
 refine Tr.forget (G2 (args:=[.agg #[.int .i64 U,.slice D f.length F],.agg #[.int .i64 g,.int .i64 i,.slice E j.length G]]) (fn:=Tryz.f63) rfl ?_)
 refine trV b (i9 _ _ _ (S0 Q o)) λap b=>?_
 refine trG b (λq=>g01 _ _ _ (l0 y z p)) λar b=>?_
 refine ifB b (λO b=>?_) λO b=>?_
 ·obtain rfl:=oJ b
  exact aI rfl (Sub.refl _)
 ·obtain⟨t,K,b⟩:=B0 b
  refine eX { vars:=[6],boxes:=[],owns:=[],fuel:=true } (eX (λvs os h'=>∃ d,vs.tail = [.int .i64 d]/\os = []/\Sub h h'/\H0 d/\T5 i f g j (O1 vs) d=some t) (eX (λ_ _=>0) (aI (eX V0 ⟨0,rfl,rfl,(Sub.refl _),(by decide),K⟩) ?_)))
  rintro _ n T ⟨d,⟨⟩,⟨⟩,k,S,c⟩
  replace c:T5 i f g j n d=some t:=c
  obtain _|n:=n
  ·cases c
  rw[T5.eq_2]at c
  refine ifB c (λP c=>?_) λP c=>?_
  ·obtain⟨u,L,c⟩:=B0 c
   refine eX { vars:=[35],boxes:=[],owns:=[],fuel:=true } (eX (λvs os h'=>∃ e,vs.tail = [.int .i64 e]/\os = []/\Sub T h'/\H0 e/\S5 f g i j d (O1 vs) e=some u) (eX (λ_ _=>0) (aI (eX V0 ⟨0,rfl,rfl,(Sub.refl _),(by decide),L⟩) ?_)))
   rintro _ m ag ⟨e,⟨⟩,⟨⟩,l,ad,a⟩
   replace a:S5 f g i j d m e=some u:=a
   obtain _|m:=m
   ·cases a
   rw[S5.eq_2]at a
   refine ifB a (λM a=>?_) λM a=>?_
   ·refine ld a (Q2.mono (k.trans l) o) λaq ab s a=>?_
    obtain⟨aa,am,ac,rfl⟩:=Wp.slice_cell s
    obtain⟨rfl,aj⟩:=Sl.len s
    obtain⟨X,J,a⟩:=B0 a
    obtain⟨Y,Z⟩:=X
    try dsimp only at a
    refine Tr.val (S06 _ _ _ (l0 y z (Q0.mono (k.trans l) p)) _ S _ _ _ _ s _  J) ?_
    obtain⟨an,H,a⟩:=B0 a
    have ae:H0 Y:=M0 H
    obtain⟨ao,I,a⟩:=B0 a
    have af:H0 Z:=M0 I
    refine ifB a (λN a=>?_) λN a=>?_
    ·obtain rfl:=oJ a
     try dsimp only[M2,N2]at c
     obtain rfl:=oJ c
     try dsimp only[M2,N2]at b
     obtain rfl:=oJ b
     exact aI rfl (k.trans l)
    ·exact D2 m ⟨(IntKind.i64.wrap (e+1)),rfl,rfl,l,(K0 _),a⟩
   ·obtain rfl:=oJ a
    try dsimp only[Y0,C1]at c
    exact D2 n ⟨(IntKind.i64.wrap (d+1)),rfl,rfl,(k.trans l),(K0 _),c⟩
  ·obtain rfl:=oJ c
   try dsimp only[Y0,C1]at b
   obtain rfl:=oJ b
   exact aI rfl k
theorem Q4(h:Hp)(d:List Value)(f:j0)(u:F1.R h d f)(r:j0)(a:N3 f=some r):
  Tr Tryz.prog 120 #[.agg d.toArray] h λv h'=>∃(c:List Value),v = .agg c.toArray/\New F1 h h' c r:=by
 obtain⟨g,i,l,A,n,j,rfl,rfl,s,t,k⟩:=C0 u
 obtain⟨rfl,y⟩:=Sl.len k
 unfold N3 at a
 dsimp only at a
 refine G2 (args:=[.agg #[.int .i64 g,.int .i64 i,.slice l j.length n]]) (fn:=Tryz.f120) rfl ?_
 refine Or.inr (Or.inr (Or.inl (aI (aI (by kernel_rfl) (by kernel_rfl)) ?_)))
 refine Or.inr ?_
 refine Or.inr ?_
 refine Or.inr ?_
 refine Or.inr ?_
 refine Or.inl (eX 0 (aI (aI rfl rfl) ?_))
 refine aT ?_
 obtain⟨w,p,b⟩:=Sl.rows (r:=I1.toRp) k
 refine eX w (aI p ?_)
 obtain⟨C,q,a⟩:=B0 a
 refine aI (Q1 q (by first|rw[F2.length (show F2 (I1.R h) ([]:List (List Value)) ([]:Z0) from trivial),F2.length b]|exact congrArg (·+1) (F2.length (show F2 (I1.R h) ([]:List (List Value)) ([]:Z0) from trivial)))) ?_
 refine aT ?_
 refine aT ?_
 refine aT ?_
 intro F x e
 obtain⟨m,o,rfl,D,E,z⟩:=W0.out (r:=I1.toRp) e (F2.append (show F2 (I1.R h) ([]:List (List Value)) ([]:Z0) from trivial) b)
 obtain rfl:=oJ a
 exact⟨([.int .i64 g,.int .i64 i,.slice m ((([]:Z0)++j)).length o]),rfl,(New.pair (New.int s) (New.pair (New.int t) (W0.newPlain (r:=I1) e (F2.append (show F2 (I1.R h) ([]:List (List Value)) ([]:Z0) from trivial) b) (i06 _))))⟩
theorem U01(h:Hp)(I:Option Addr)(ae J:Nat)(G:Z0)(q:Q0.R h [.slice I ae J] G)(N:List Value)(af:N0)(aF:I1.R h N af)(r:Z0)(g:K8 G af=some r):
  Tr Tryz.prog 193 #[.slice I ae J,.agg N.toArray] h λv h'=>∃(L:Option Addr) (ad M:Nat),v = .slice L ad M/\New Q0 h h' [.slice L ad M] r:=by
 obtain⟨rfl,aW⟩:=Sl.len q
 obtain⟨b,c,d,rfl,rfl,i,j,k⟩:=U1 aF
 unfold K8 at g
 dsimp only at g
 refine G2 (args:=[.slice I G.length J,.agg #[.int .i64 b,.int .i64 c,.int .i64 d]]) (fn:=Tryz.f193) rfl ?_
 obtain⟨K,aw,g⟩:=B0 g
 refine eX { vars:=[6,7],boxes:=[],owns:=[0],fuel:=true } (eX (λvs os h'=>∃ H n p m,vs.tail = [.bool H,.int .i64 n]/\os = [p]/\Sub h h'/\H0 n/\F2 (I1.R h') p m/\V4 G b c d (O1 vs) H n m=some K) (eX (λ_ _=>0) (aI (eX V0 ⟨false,0,[],([]:Z0),rfl,rfl,(Sub.refl _),(by decide),(show F2 (I1.R h) ([]:List (List Value)) ([]:Z0) from trivial),aw⟩) ?_)))
 rintro _ _ p o f ⟨H,n,bl,m,⟨⟩,⟨⟩,l,aR,e,a⟩
 replace a:V4 G b c d o H n m=some K:=a
 obtain _|o:=o
 ·cases a
 rw[V4.eq_2]at a
 refine ifB a (λaB a=>?_) λaB a=>?_
 ·refine Or.inl (aI (aI (by kernel_rfl) (by kernel_rfl)) ?_)
  refine ld a (Q0.mono l q) λbh aQ aL a=>?_
  obtain⟨bi,bj,bk,rfl,rfl,aC,aD,aE⟩:=U1 aL
  try dsimp only at a
  obtain⟨ag,av,a⟩:=B0 a
  refine eX (.int .i64 ag) (aI (o05 _ _ _ (D1 i j k) _ _ (D1 aC aD aE) _  av) ?_)
  obtain⟨aZ,al,a⟩:=B0 a
  have aS:H0 ag:=M0 al
  refine ifB a (λax a=>?_) λax a=>?_
  ·refine ifB a (λay a=>?_) λay a=>?_
   ·obtain⟨a0,am,a⟩:=B0 a
    refine aI (Q1 am (by first|rw[F2.length e,F2.length (show F2 (I1.R f) ([[.int .i64 b,.int .i64 c,.int .i64 d]]:List (List Value)) [(b,c,d)] from⟨(D1 i j k),trivial⟩)]|exact congrArg (·+1) (F2.length e))) ?_
    refine ld a (Q0.mono l q) λbd aM aG a=>?_
    obtain⟨s,t,u,rfl,rfl,Q,S,T⟩:=U1 aG
    try dsimp only at a
    obtain⟨a1,an,a⟩:=B0 a
    refine aI (Q1 an (by first|rw[F2.length (F2.append e (show F2 (I1.R f) ([[.int .i64 b,.int .i64 c,.int .i64 d]]:List (List Value)) [(b,c,d)] from⟨(D1 i j k),trivial⟩)),F2.length (show F2 (I1.R f) ([[.int .i64 s,.int .i64 t,.int .i64 u]]:List (List Value)) [(s,t,u)] from⟨(D1 Q S T),trivial⟩)]|exact congrArg (·+1) (F2.length (F2.append e (show F2 (I1.R f) ([[.int .i64 b,.int .i64 c,.int .i64 d]]:List (List Value)) [(b,c,d)] from⟨(D1 i j k),trivial⟩))))) ?_
    exact D2 o ⟨true,(IntKind.i64.wrap (n+1)),((p++([[.int .i64 b,.int .i64 c,.int .i64 d]]:List (List Value)))++([[.int .i64 s,.int .i64 t,.int .i64 u]]:List (List Value))),((m ++ [(b,c,d)]) ++ [(s,t,u)]),rfl,rfl,l,(K0 _),(F2.append (F2.append e (show F2 (I1.R f) ([[.int .i64 b,.int .i64 c,.int .i64 d]]:List (List Value)) [(b,c,d)] from⟨(D1 i j k),trivial⟩)) (show F2 (I1.R f) ([[.int .i64 s,.int .i64 t,.int .i64 u]]:List (List Value)) [(s,t,u)] from⟨(D1 Q S T),trivial⟩)),a⟩
   ·refine ld a (Q0.mono l q) λbe aN aH a=>?_
    obtain⟨w,x,y,rfl,rfl,U,V,W⟩:=U1 aH
    try dsimp only at a
    obtain⟨a2,ao,a⟩:=B0 a
    refine aI (Q1 ao (by first|rw[F2.length e,F2.length (show F2 (I1.R f) ([[.int .i64 w,.int .i64 x,.int .i64 y]]:List (List Value)) [(w,x,y)] from⟨(D1 U V W),trivial⟩)]|exact congrArg (·+1) (F2.length e))) ?_
    exact D2 o ⟨true,(IntKind.i64.wrap (n+1)),(p++([[.int .i64 w,.int .i64 x,.int .i64 y]]:List (List Value))),(m ++ [(w,x,y)]),rfl,rfl,l,(K0 _),(F2.append e (show F2 (I1.R f) ([[.int .i64 w,.int .i64 x,.int .i64 y]]:List (List Value)) [(w,x,y)] from⟨(D1 U V W),trivial⟩)),a⟩
  ·refine ifB a (λaz a=>?_) λaz a=>?_
   ·obtain⟨a3,ap,a⟩:=B0 a
    refine aI (Q1 ap (by first|rw[F2.length e,F2.length (show F2 (I1.R f) ([[.int .i64 b,.int .i64 c,.int .i64 d]]:List (List Value)) [(b,c,d)] from⟨(D1 i j k),trivial⟩)]|exact congrArg (·+1) (F2.length e))) ?_
    refine ld a (Q0.mono l q) λbf aO aJ a=>?_
    obtain⟨z,A,C,rfl,rfl,X,Y,Z⟩:=U1 aJ
    try dsimp only at a
    obtain⟨a4,aq,a⟩:=B0 a
    refine aI (Q1 aq (by first|rw[F2.length (F2.append e (show F2 (I1.R f) ([[.int .i64 b,.int .i64 c,.int .i64 d]]:List (List Value)) [(b,c,d)] from⟨(D1 i j k),trivial⟩)),F2.length (show F2 (I1.R f) ([[.int .i64 z,.int .i64 A,.int .i64 C]]:List (List Value)) [(z,A,C)] from⟨(D1 X Y Z),trivial⟩)]|exact congrArg (·+1) (F2.length (F2.append e (show F2 (I1.R f) ([[.int .i64 b,.int .i64 c,.int .i64 d]]:List (List Value)) [(b,c,d)] from⟨(D1 i j k),trivial⟩))))) ?_
    exact D2 o ⟨true,(IntKind.i64.wrap (n+1)),((p++([[.int .i64 b,.int .i64 c,.int .i64 d]]:List (List Value)))++([[.int .i64 z,.int .i64 A,.int .i64 C]]:List (List Value))),((m ++ [(b,c,d)]) ++ [(z,A,C)]),rfl,rfl,l,(K0 _),(F2.append (F2.append e (show F2 (I1.R f) ([[.int .i64 b,.int .i64 c,.int .i64 d]]:List (List Value)) [(b,c,d)] from⟨(D1 i j k),trivial⟩)) (show F2 (I1.R f) ([[.int .i64 z,.int .i64 A,.int .i64 C]]:List (List Value)) [(z,A,C)] from⟨(D1 X Y Z),trivial⟩)),a⟩
   ·refine ld a (Q0.mono l q) λbg aP aK a=>?_
    obtain⟨D,E,F,rfl,rfl,aa,ab,ac⟩:=U1 aK
    try dsimp only at a
    obtain⟨a5,ar,a⟩:=B0 a
    refine aI (Q1 ar (by first|rw[F2.length e,F2.length (show F2 (I1.R f) ([[.int .i64 D,.int .i64 E,.int .i64 F]]:List (List Value)) [(D,E,F)] from⟨(D1 aa ab ac),trivial⟩)]|exact congrArg (·+1) (F2.length e))) ?_
    exact D2 o ⟨H,(IntKind.i64.wrap (n+1)),(p++([[.int .i64 D,.int .i64 E,.int .i64 F]]:List (List Value))),(m ++ [(D,E,F)]),rfl,rfl,l,(K0 _),(F2.append e (show F2 (I1.R f) ([[.int .i64 D,.int .i64 E,.int .i64 F]]:List (List Value)) [(D,E,F)] from⟨(D1 aa ab ac),trivial⟩)),a⟩
 ·obtain rfl:=oJ a
  try dsimp only[Y0,C1]at g
  refine ifB g (λaA g=>?_) λaA g=>?_
  ·obtain⟨a6,au,g⟩:=B0 g
   refine aI (Q1 au (by first|rw[F2.length e,F2.length (show F2 (I1.R f) ([[.int .i64 b,.int .i64 c,.int .i64 d]]:List (List Value)) [(b,c,d)] from⟨(D1 i j k),trivial⟩)]|exact congrArg (·+1) (F2.length e))) ?_
   intro bb aU O
   obtain⟨ah,aj,rfl,a7,a9,aX⟩:=W0.out (r:=I1.toRp) O (F2.append e (show F2 (I1.R f) ([[.int .i64 b,.int .i64 c,.int .i64 d]]:List (List Value)) [(b,c,d)] from⟨(D1 i j k),trivial⟩))
   obtain rfl:=oJ g
   exact⟨ah,((m ++ [(b,c,d)])).length,aj,rfl,(New.from (W0.newPlain (r:=I1) O (F2.append e (show F2 (I1.R f) ([[.int .i64 b,.int .i64 c,.int .i64 d]]:List (List Value)) [(b,c,d)] from⟨(D1 i j k),trivial⟩)) (i06 _)) l)⟩
  ·intro bc aV P
   obtain⟨ai,ak,rfl,a8,ba,aY⟩:=W0.out (r:=I1.toRp) P e
   obtain rfl:=oJ g
   exact⟨ai,m.length,ak,rfl,(New.from (W0.newPlain (r:=I1) P e (i06 _)) l)⟩
theorem a0f(h:Hp)(l:List Value)(m:j0)(z:F1.R h l m)(g:Int)(J:H0 g)(r:Int)(f:c01 m g=some r):
  Tr Tryz.prog 257 #[.agg l.toArray,.int .i64 g] h λv h'=>v = .int .i64 r/\h'=h:=by
 obtain⟨x,y,n,X,o,j,rfl,rfl,H,I,i⟩:=C0 z
 obtain⟨rfl,W⟩:=Sl.len i
 unfold c01 at f
 dsimp only at f
 refine Tr.forget (G2 (args:=[.agg #[.int .i64 x,.int .i64 y,.slice n j.length o],.int .i64 g]) (fn:=Tryz.f257) rfl ?_)
 obtain⟨k,p,f⟩:=B0 f
 refine eX { vars:=[5,6],boxes:=[],owns:=[],fuel:=true } (eX (λvs os h'=>∃ b c,vs.tail = [.int .i64 b,.int .i64 c]/\os = []/\Sub h h'/\H0 b/\H0 c/\c4 j g (O1 vs) b c=some k) (eX (λ_ _=>0) (aI (eX V0 ⟨0,0,rfl,rfl,(Sub.refl _),(by decide),(by decide),p⟩) ?_)))
 rintro _ _ e V ⟨b,c,⟨⟩,⟨⟩,d,w,K,a⟩
 replace a:c4 j g e b c=some k:=a
 obtain _|e:=e
 ·cases a
 rw[c4.eq_2]at a
 refine ifB a (λt a=>?_) λt a=>?_
 ·refine ld a (Q0.mono d i) λac F C a=>?_
  obtain⟨ad,ae,af,rfl,rfl,O,P,Q⟩:=U1 C
  try dsimp only at a
  refine ifB a (λu a=>?_) λu a=>?_
  ·refine ld a (Q0.mono d i) λag G D a=>?_
   obtain⟨ah,ai,aj,rfl,rfl,S,T,U⟩:=U1 D
   try dsimp only at a
   refine ifB a (λq a=>?_) λq a=>?_
   ·exact D2 e ⟨(IntKind.i64.wrap ((IntKind.i64.wrap (b+1))+1)),(IntKind.i64.wrap (c+1)),rfl,rfl,d,(K0 _),(K0 _),a⟩
   ·exact D2 e ⟨(IntKind.i64.wrap (b+1)),(IntKind.i64.wrap (c+1)),rfl,rfl,d,(K0 _),(K0 _),a⟩
  ·refine ld a (Q0.mono d i) λY E A a=>?_
   obtain⟨Z,aa,ab,rfl,rfl,L,M,N⟩:=U1 A
   try dsimp only at a
   refine ifB a (λs a=>?_) λs a=>?_
   ·exact D2 e ⟨(IntKind.i64.wrap (b+1)),(IntKind.i64.wrap (c+1)),rfl,rfl,d,(K0 _),(K0 _),a⟩
   ·exact D2 e ⟨b,(IntKind.i64.wrap (c+1)),rfl,rfl,d,w,(K0 _),a⟩
 ·obtain rfl:=oJ a
  try dsimp only[Y0,C1]at f
  obtain rfl:=oJ f
  exact aI rfl d
theorem q03(h:Hp)(j:List Value)(l:j0)(E:F1.R h j l)(k:List Value)(m:j0)(F:F1.R h k m)(r:Bool)(b:Q7 l m=some r):
  Tr Tryz.prog 38 #[.agg j.toArray,.agg k.toArray] h λv h'=>v = .bool r/\h'=h:=by
 obtain⟨z,A,p,af,s,f,rfl,rfl,Q,S,n⟩:=C0 E
 obtain⟨rfl,ad⟩:=Sl.len n
 obtain⟨C,D,q,ag,t,g,rfl,rfl,T,U,o⟩:=C0 F
 obtain⟨rfl,ae⟩:=Sl.len o
 unfold Q7 at b
 dsimp only at b
 refine Tr.forget (G2 (args:=[.agg #[.int .i64 z,.int .i64 A,.slice p f.length s],.agg #[.int .i64 C,.int .i64 D,.slice q g.length t]]) (fn:=Tryz.f38) rfl ?_)
 refine ifB b (λw b=>?_) λw b=>?_
 ·obtain rfl:=oJ b
  exact aI rfl (Sub.refl _)
 ·obtain⟨i,u,b⟩:=B0 b
  refine eX { vars:=[5],boxes:=[],owns:=[],fuel:=true } (eX (λvs os h'=>∃ c,vs.tail = [.int .i64 c]/\os = []/\Sub h h'/\H0 c/\H6 f g (O1 vs) c=some i) (eX (λ_ _=>0) (aI (eX V0 ⟨0,rfl,rfl,(Sub.refl _),(by decide),u⟩) ?_)))
  rintro _ e ac ⟨c,⟨⟩,⟨⟩,d,V,a⟩
  replace a:H6 f g e c=some i:=a
  obtain _|e:=e
  ·cases a
  rw[H6.eq_2]at a
  refine ifB a (λx a=>?_) λx a=>?_
  ·refine Or.inl (aI (aI (by kernel_rfl) (by kernel_rfl)) ?_)
   refine ld a (Q0.mono d n) λah O G a=>?_
   obtain⟨I,J,K,rfl,rfl,W,X,Y⟩:=U1 G
   try dsimp only at a
   refine ld a (Q0.mono d o) λai P H a=>?_
   obtain⟨L,M,N,rfl,rfl,Z,aa,ab⟩:=U1 H
   try dsimp only at a
   refine eX (!eqE (I,J,K) (L,M,N)) (aI (D0k _ _ _ rfl _ _ _ _ _ _) ?_)
   refine ifB a (λy a=>?_) λy a=>?_
   ·obtain rfl:=oJ a
    try dsimp only[M2,N2]at b
    obtain rfl:=oJ b
    exact aI rfl d
   ·exact D2 e ⟨(IntKind.i64.wrap (c+1)),rfl,rfl,d,(K0 _),a⟩
  ·obtain rfl:=oJ a
   try dsimp only[Y0,C1]at b
   obtain rfl:=oJ b
   exact aI rfl d
theorem x0b(h:Hp)(I:List Value)(L:j0)(aw:F1.R h I L)(e:Int)(J:H0 e)(r:J0)(b:F00 L e=some r):
  Tr Tryz.prog 282 #[.agg I.toArray,.int .i64 e] h λv h'=>∃(G:Option Addr) (K H:Nat),v = .slice G K H/\O0.R h' [.slice G K H] r/\Sub h h':=by
 obtain⟨av,M,U,aY,aa,s,rfl,rfl,aq,ar,A⟩:=C0 aw
 obtain⟨rfl,aP⟩:=Sl.len A
 unfold F00 at b
 dsimp only at b
 refine G2 (args:=[.agg #[.int .i64 av,.int .i64 M,.slice U s.length aa],.int .i64 e]) (fn:=Tryz.f282) rfl ?_
 refine trV b (P6 _ _ _ (l0 aq ar A)) λa7 b=>?_
 refine trG b (λq=>O6 _ _ J 0 (by decide) (IntKind.i64.wrap (M-1)) (K0 _)) λa8 b=>?_
 refine ifB b (λan b=>?_) λan b=>?_
 ·intro a5 aN ah
  obtain⟨Z,af,rfl,az,aD,aX⟩:=W0.out (r:=Wp.int.toRp) ah (show F2 (Wp.int.R h) ([]:List (List Value)) ([]:J0) from trivial)
  obtain rfl:=oJ b
  exact⟨Z,(([]:J0)).length,af,rfl,az,aD⟩
 ·obtain⟨E,ai,b⟩:=B0 b
  refine eX { vars:=[5,6],boxes:=[],owns:=[],fuel:=true,pubs:=[5,22] } (eX (λvs os h'=>∃(m:Option Addr) (y o:Nat) (j:J0) (l:Int),vs.tail = [.slice m y o,.int .i64 l]/\os = []/\Sub h h'/\O0.R h' [.slice m y o] j/\H0 l/\Q5 s (O1 vs) j l=some E) (eX (λ_ _=>0) ?_))
  intro a6 aO ag
  obtain⟨Y,ae,rfl,ay,aC,aW⟩:=W0.out (r:=Wp.int.toRp) ag (show F2 (Wp.int.R h) ([[.int .i64 e]]:List (List Value)) [e] from⟨⟨rfl,J⟩,trivial⟩)
  refine aI (eX V0 ⟨Y,([e]).length,ae,[e],0,rfl,rfl,aC,ay,(by decide),ai⟩) ?_
  rintro _ _ t au ⟨m,y,o,j,l,⟨⟩,⟨⟩,D,C,aF,c⟩
  replace c:Q5 s t j l=some E:=c
  obtain _|t:=t
  ·cases c
  rw[Q5.eq_2]at c
  obtain⟨rfl,aQ⟩:=Sl.len C
  refine ifB c (λak c=>?_) λak c=>?_
  ·obtain⟨F,aj,c⟩:=B0 c
   refine eX { vars:=[5,7],boxes:=[],owns:=[],fuel:=true } (eX (λvs os h'=>∃ n z p f d,vs.tail = [.slice n z p,.int .i64 d]/\os = []/\Sub au h'/\O0.R h' [.slice n z p] f/\H0 d/\W3 s (O1 vs) f d=some F) (eX (λ_ _=>0) (aI (eX V0 ⟨m,j.length,o,j,0,rfl,rfl,(Sub.refl _),C,(by decide),aj⟩) ?_)))
   rintro _ _ g aJ ⟨n,z,p,f,d,⟨⟩,⟨⟩,k,i,aG,a⟩
   replace a:W3 s g f d=some F:=a
   obtain _|g:=g
   ·cases a
   rw[W3.eq_2]at a
   obtain⟨rfl,aR⟩:=Sl.len i
   refine ifB a (λal a=>?_) λal a=>?_
   ·refine ld a (Q0.mono (D.trans k) A) λa9 aE ax a=>?_
    obtain⟨ba,bb,bc,rfl,rfl,w,aH,x⟩:=U1 ax
    try dsimp only at a
    refine trV a (a04 _ _ _ _ _ i _ w) λbd a=>?_
    refine ifB a (λam a=>?_) λam a=>?_
    ·refine trM a (Q02 _ _ _ _ _ i _ x) ?_
     rintro Q a a2 aK ⟨V,aZ,ab,rfl,u,P⟩
     obtain⟨rfl,aS⟩:=Sl.len u
     refine trV a (a04 _ _ _ _ _ u _ x) λbe a=>?_
     refine ifB a (λao a=>?_) λao a=>?_
     ·refine trM a (Q02 _ _ _ _ _ u _ w) ?_
      rintro S a a3 aL ⟨W,a0,ac,rfl,N,aA⟩
      obtain⟨rfl,aU⟩:=Sl.len N
      exact D2 g ⟨W,S.length,ac,S,(IntKind.i64.wrap (d+1)),rfl,rfl,((k.trans P).trans aA),N,(K0 _),a⟩
     ·exact D2 g ⟨V,Q.length,ab,Q,(IntKind.i64.wrap (d+1)),rfl,rfl,(k.trans P),u,(K0 _),a⟩
    ·refine trV a (a04 _ _ _ _ _ i _ x) λbf a=>?_
     refine ifB a (λap a=>?_) λap a=>?_
     ·refine trM a (Q02 _ _ _ _ _ i _ w) ?_
      rintro T a a4 aM ⟨X,a1,ad,rfl,O,aB⟩
      obtain⟨rfl,aV⟩:=Sl.len O
      exact D2 g ⟨X,T.length,ad,T,(IntKind.i64.wrap (d+1)),rfl,rfl,(k.trans aB),O,(K0 _),a⟩
     ·exact D2 g ⟨n,f.length,p,f,(IntKind.i64.wrap (d+1)),rfl,rfl,k,i,(K0 _),a⟩
   ·obtain rfl:=oJ a
    try dsimp only[Y0,C1]at c
    exact D2 t ⟨n,f.length,p,f,(IntKind.i64.wrap (l+1)),rfl,rfl,(D.trans k),i,(K0 _),c⟩
  ·obtain rfl:=oJ c
   try dsimp only[Y0,C1]at b
   obtain rfl:=oJ b
   exact⟨m,j.length,o,rfl,C,D⟩
theorem Q0a(h:Hp)(m:List Value)(s:j0)(E:F1.R h m s)(r:Int)(b:p02 s=some r):
  Tr Tryz.prog 260 #[.agg m.toArray] h λv h'=>v = .int .i64 r/\h'=h:=by
 obtain⟨f,g,w,M,x,i,rfl,rfl,n,o,j⟩:=C0 E
 obtain⟨rfl,K⟩:=Sl.len j
 unfold p02 at b
 dsimp only at b
 refine Tr.forget (G2 (args:=[.agg #[.int .i64 f,.int .i64 g,.slice w i.length x]]) (fn:=Tryz.f260) rfl ?_)
 refine trM b (x0b _ _ _ (l0 n o j) 0 (by decide)) ?_
 rintro u b P D ⟨G,N,H,rfl,t,k⟩
 obtain⟨rfl,L⟩:=Sl.len t
 obtain⟨l,z,b⟩:=B0 b
 refine eX { vars:=[4],boxes:=[],owns:=[],fuel:=true } (eX (λvs os h'=>∃ c,vs.tail = [.int .i64 c]/\os = []/\Sub D h'/\H0 c/\Y8 g f i u (O1 vs) c=some l) (eX (λ_ _=>0) (aI (eX V0 ⟨1,rfl,rfl,(Sub.refl _),(by decide),z⟩) ?_)))
 rintro _ e J ⟨c,⟨⟩,⟨⟩,d,p,a⟩
 replace a:Y8 g f i u e c=some l:=a
 obtain _|e:=e
 ·cases a
 rw[Y8.eq_2]at a
 refine ifB a (λC a=>?_) λC a=>?_
 ·refine trV a (a0f _ _ _ (l0 n o (Q0.mono (k.trans d) j)) _ p) λF a=>?_
  obtain⟨O,y,a⟩:=B0 a
  have I:H0 F:=M0 y
  refine trG a (λq=>a04 _ _ _ _ _ (O0.mono d t) _ p) λQ a=>?_
  refine ifB a (λA a=>?_) λA a=>?_
  ·obtain rfl:=oJ a
   try dsimp only[M2,N2]at b
   obtain rfl:=oJ b
   exact aI rfl (k.trans d)
  ·exact D2 e ⟨(IntKind.i64.wrap (c+1)),rfl,rfl,d,(K0 _),a⟩
 ·obtain rfl:=oJ a
  try dsimp only[Y0,C1]at b
  obtain rfl:=oJ b
  exact aI rfl (k.trans d)
theorem c05(h:Hp)(U:List Value)(Z:j0)(a1:F1.R h U Z)(I:Option Addr)(Y J:Nat)(o:J0)(D:O0.R h [.slice I Y J] o)(r:j0×Bool)(d:c8 Z o=some r):
  Tr Tryz.prog 198 #[.agg U.toArray,.slice I Y J] h λv h'=>∃(T:List Value),v = .tuple #[.agg T.toArray,.bool r.2]/\F1.R h' T r.1/\Sub h h':=by
 obtain⟨C,k,ai,bR,aq,x,rfl,rfl,z,K,y⟩:=C0 a1
 obtain⟨rfl,bM⟩:=Sl.len y
 obtain⟨rfl,a0⟩:=Sl.len D
 unfold c8 at d
 dsimp only at d
 refine G2 (args:=[.agg #[.int .i64 C,.int .i64 k,.slice ai x.length aq],.slice I o.length J]) (fn:=Tryz.f198) rfl ?_
 refine trV d (P6 _ _ _ (l0 z K y)) λb4 d=>?_
 refine ifB d (λaN d=>?_) λaN d=>?_
 ·refine trM d (Q4 _ _ _ (l0 z K y)) ?_
  rintro cb d b3 aY ⟨bn,rfl,af⟩
  have bc:Sub h aY:=af.sub
  have a5:=af.r
  obtain⟨bh,bi,ak,bT,au,bj,rfl,rfl,aV,aW,ab⟩:=C0 a5
  obtain⟨rfl,bP⟩:=Sl.len ab
  try dsimp only at d
  obtain rfl:=oJ d
  exact⟨([.int .i64 bh,.int .i64 bi,.slice ak bj.length au]),rfl,(l0 aV aW ab),bc⟩
 ·obtain⟨bV,aA,d⟩:=B0 d
  refine aI (M0 aA) ?_
  obtain⟨S,aK,d⟩:=B0 d
  refine eX { vars:=[8],boxes:=[],owns:=[0],fuel:=true,kept:=[0] } (eX (λvs os h'=>∃ u8 F n,vs.tail = [.int .i64 u8]/\os = [F]/\Sub h h'/\H0 u8/\F2 (Wp.int.R h') F n/\W4 o k C x (O1 vs) u8 n=some S) (eX (λ_ _=>0) (aI (eX V0 ⟨0,(List.replicate k.toNat ([.int .i64 0]:List Value)),(List.replicate k.toNat (0:Int)),rfl,rfl,(Sub.refl _),(by decide),(F2.rep (p:=Wp.int.R h) (a:=[.int .i64 0]) (b:=0) ⟨rfl,(by decide)⟩ (k.toNat)),aK⟩) ?_)))
  rintro _ F A u ⟨u8,ch,n,⟨⟩,⟨⟩,f,bu,j,c⟩
  replace c:W4 o k C x A u8 n=some S:=c
  obtain _|A:=A
  ·cases c
  rw[W4.eq_2]at c
  refine ifB c (λaL c=>?_) λaL c=>?_
  ·refine Or.inl (aI (aI (by kernel_rfl) (by kernel_rfl)) ?_)
   refine ldI c (O0.mono f D) λb5 aQ c=>?_
   obtain⟨bd,aB,c⟩:=B0 c
   refine eX (.bool bd) (aI (O6 _ _ aQ 0 (by decide) (IntKind.i64.wrap (k-1)) (K0 _) _  aB) ?_)
   refine ldG c (O0.mono f D) λb6 bv c=>?_
   obtain⟨b7,aC,c⟩:=B0 c
   obtain⟨bk,V,a2⟩:=M03 j aC (m0c u)
   refine aI (λq=>(V q).1) ?_
   obtain⟨rfl,bx⟩:=a2
   refine eX _ (aI (λq=>(V q).2) ?_)
   refine ifB c (λaM c=>?_) λaM c=>?_
   ·refine trM c (Q4 _ _ _ (l0 z K (Q0.mono f y))) ?_
    rintro b8 c b1 aX ⟨bl,rfl,ae⟩
    have bb:Sub u aX:=ae.sub
    have a3:=ae.r
    obtain⟨be,bf,aj,bS,ar,bg,rfl,rfl,aR,aS,aa⟩:=C0 a3
    obtain⟨rfl,bO⟩:=Sl.len aa
    try dsimp only at c
    obtain rfl:=oJ c
    try dsimp only[M2,N2]at d
    obtain rfl:=oJ d
    exact⟨([.int .i64 be,.int .i64 bf,.slice aj bg.length ar]),rfl,(l0 aR aS aa),(f.trans bb)⟩
   ·refine ldI c (O0.mono f D) λO bz c=>?_
    obtain⟨ca,aD,c⟩:=B0 c
    obtain⟨am,bm,aw,a4⟩:=s5 j aD
    refine aI am ?_
    obtain⟨rfl,bA⟩:=a4
    refine eX _ (aI aw ?_)
    exact D2 A ⟨(IntKind.i64.wrap (u8+1)),(F.set O.toNat [.int .i64 (IntKind.i64.wrap (u8+1))]),(n.set O.toNat (IntKind.i64.wrap (u8+1))),rfl,rfl,f,(K0 _),(F2.set (p:=Wp.int.R u) (a:=[.int .i64 (IntKind.i64.wrap (u8+1))]) (b:=(IntKind.i64.wrap (u8+1))) ⟨rfl,(K0 _)⟩ O.toNat j),c⟩
  ·obtain rfl:=oJ c
   try dsimp only[Y0,C1]at d
   obtain⟨Q,aJ,d⟩:=B0 d
   refine eX { vars:=[9],boxes:=[2],owns:=[],fuel:=true } (eX (λvs os h'=>∃ l g i s N t m,vs.tail = [.int .i64 l,.int .i64 g,.int .i64 i,.slice s N t]/\os = []/\Sub u h'/\H0 l/\H0 g/\H0 i/\Q0.R h' [.slice s N t] m/\A4 x n (O1 vs) l g i m=some Q) (eX (λ_ _=>0) (aI (eX V0 ⟨0,C,((o.length:Nat):Int),none,0,0,[],rfl,rfl,(Sub.refl _),(by decide),z,(q0r a0),(n0g I1 u),aJ⟩) ?_)))
   rintro _ _ _ _ w X ⟨l,g,i,s,N,t,m,⟨⟩,⟨⟩,e,bt,L,M,E,c⟩
   replace c:A4 x n w l g i m=some Q:=c
   obtain _|w:=w
   ·cases c
   rw[A4.eq_2]at c
   obtain⟨rfl,bN⟩:=Sl.len E
   refine ifB c (λaO c=>?_) λaO c=>?_
   ·refine ld c (Q0.mono (f.trans e) y) λcc bo a6 c=>?_
    obtain⟨cd,P,ce,rfl,rfl,bB,aU,bC⟩:=U1 a6
    try dsimp only at c
    obtain⟨cf,aE,c⟩:=B0 c
    obtain⟨an,bp,ax,a7⟩:=s5 (F2.up (r:=Wp.int.toRp) e j) aE
    refine aI an ?_
    obtain⟨rfl,bD⟩:=a7
    refine eX _ (aI ax ?_)
    obtain⟨cg,aF,c⟩:=B0 c
    obtain⟨bq,W,a8⟩:=M03 (F2.up (r:=Wp.int.toRp) e j) aF (m0c X)
    refine aI (λq=>(W q).1) ?_
    obtain⟨rfl,bE⟩:=a8
    refine eX _ (aI (λq=>(W q).2) ?_)
    refine ifB c (λaP c=>?_) λaP c=>?_
    ·refine Or.inr (Or.inr (Or.inl (aI (aI (by kernel_rfl) (by kernel_rfl)) ?_)))
     obtain⟨G,aG,c⟩:=B0 c
     obtain⟨ao,br,ay,a9⟩:=s5 (F2.up (r:=Wp.int.toRp) e j) aG
     obtain⟨rfl,bF⟩:=a9
     refine Or.inl ?_
     apply eX
     refine aI ?_ ?_
     ·intro bH bW
      exact aI ao (aI rfl (aI rfl rfl))
     refine Or.inl (eX (.val (.int .i64 G)) (aI ?_ ?_))
     ·intro bI bX
      exact eX _ (aI ay (aI rfl (aI rfl rfl)))
     obtain⟨H,aH,c⟩:=B0 c
     obtain⟨ap,bs,az,ba⟩:=s5 (F2.up (r:=Wp.int.toRp) e j) aH
     obtain⟨rfl,bG⟩:=ba
     refine Or.inl ?_
     apply eX
     refine aI ?_ ?_
     ·intro bJ bY
      exact aI ap (aI rfl (aI rfl rfl))
     refine Or.inl (eX (.val (.int .i64 H)) (aI ?_ ?_))
     ·intro bK bZ
      exact eX _ (aI az (aI rfl (aI rfl rfl)))
     refine Or.inl (eX (.agg [.val (.int .i64 (IntKind.i64.wrap (G-1))),.val (.int .i64 P),.val (.int .i64 (IntKind.i64.wrap (H-1)))]) (aI ?_ ?_))
     ·intro bL b0
      exact aI rfl (aI rfl rfl)
     refine Or.inr ?_
     refine Or.inr ?_
     refine Or.inl (eX 1 (aI (aI rfl rfl) ?_))
     refine trM c (U01 _ _ _ _ _ E [.int .i64 (IntKind.i64.wrap (G-1)),.int .i64 P,.int .i64 (IntKind.i64.wrap (H-1))] ((IntKind.i64.wrap (G-1)),P,(IntKind.i64.wrap (H-1))) (D1 (K0 _) aU (K0 _))) ?_
     rintro ah c b2 aZ ⟨al,bU,av,rfl,ag⟩
     have ad:Sub X aZ:=ag.sub
     have ac:=ag.r
     obtain⟨rfl,bQ⟩:=Sl.len ac
     refine aI (aI rfl ad) (aI (by first|exact trivial|exact rfl) ?_)
     refine aT ?_
     exact D2 w ⟨(IntKind.i64.wrap (l+1)),g,i,al,ah.length,av,ah,rfl,rfl,(e.trans ad),(K0 _),L,M,ac,c⟩
    ·exact D2 w ⟨(IntKind.i64.wrap (l+1)),g,i,s,m.length,t,m,rfl,rfl,e,(K0 _),L,M,E,c⟩
   ·obtain rfl:=oJ c
    try dsimp only[Y0,C1]at d
    obtain rfl:=oJ d
    exact⟨([.int .i64 g,.int .i64 i,.slice s m.length t]),rfl,(l0 L M E),(f.trans e)⟩
theorem P07(h:Hp)(e:Int)(C:H0 e)(r:J0)(g:p9 e=some r):
  Tr Tryz.prog 127 #[.int .i64 e] h λv h'=>∃(m:Option Addr) (o n:Nat),v = .slice m o n/\O0.R h' [.slice m o n] r/\Sub h h':=by
 unfold p9 at g
 refine G2 (args:=[.int .i64 e]) (fn:=Tryz.f127) rfl ?_
 obtain⟨l,x,g⟩:=B0 g
 refine eX { vars:=[4],boxes:=[],owns:=[0],fuel:=true } (eX (λvs os h'=>∃ a k f,vs.tail = [.int .i64 a]/\os = [k]/\Sub h h'/\H0 a/\F2 (Wp.int.R h') k f/\I6 e (O1 vs) a f=some l) (eX (λ_ _=>0) (aI (eX V0 ⟨1,[],([]:J0),rfl,rfl,(Sub.refl _),(by decide),(show F2 (Wp.int.R h) ([]:List (List Value)) ([]:J0) from trivial),x⟩) ?_)))
 rintro _ k j d ⟨a,I,f,⟨⟩,⟨⟩,p,i,c,b⟩
 replace b:I6 e j a f=some l:=b
 obtain _|j:=j
 ·cases b
 rw[I6.eq_2]at b
 refine ifB b (λy b=>?_) λy b=>?_
 ·obtain⟨F,u,b⟩:=B0 b
  refine aI (Q1 u (by first|rw[F2.length c,F2.length (show F2 (Wp.int.R d) ([[.int .i64 a]]:List (List Value)) [a] from⟨⟨rfl,i⟩,trivial⟩)]|exact congrArg (·+1) (F2.length c))) ?_
  obtain⟨G,w,b⟩:=B0 b
  refine aI (Q1 w (by first|rw[F2.length (F2.append c (show F2 (Wp.int.R d) ([[.int .i64 a]]:List (List Value)) [a] from⟨⟨rfl,i⟩,trivial⟩)),F2.length (show F2 (Wp.int.R d) ([[.int .i64 (IntKind.i64.wrap (0-a))]]:List (List Value)) [(IntKind.i64.wrap (0-a))] from⟨⟨rfl,(K0 _)⟩,trivial⟩)]|exact congrArg (·+1) (F2.length (F2.append c (show F2 (Wp.int.R d) ([[.int .i64 a]]:List (List Value)) [a] from⟨⟨rfl,i⟩,trivial⟩))))) ?_
  exact D2 j ⟨(IntKind.i64.wrap (a+1)),((k++([[.int .i64 a]]:List (List Value)))++([[.int .i64 (IntKind.i64.wrap (0-a))]]:List (List Value))),((f ++ [a]) ++ [(IntKind.i64.wrap (0-a))]),rfl,rfl,p,(K0 _),(F2.append (F2.append c (show F2 (Wp.int.R d) ([[.int .i64 a]]:List (List Value)) [a] from⟨⟨rfl,i⟩,trivial⟩)) (show F2 (Wp.int.R d) ([[.int .i64 (IntKind.i64.wrap (0-a))]]:List (List Value)) [(IntKind.i64.wrap (0-a))] from⟨⟨rfl,(K0 _)⟩,trivial⟩)),b⟩
 ·obtain rfl:=oJ b
  try dsimp only[Y0,C1]at g
  intro H D t
  obtain⟨q,s,rfl,z,A,E⟩:=W0.out (r:=Wp.int.toRp) t c
  obtain rfl:=oJ g
  exact⟨q,f.length,s,rfl,z,(p.trans A)⟩
theorem T08(h:Hp)(G:List Value)(K:j0)(aq:F1.R h G K)(r:J0)(c:b9 K=some r):
  Tr Tryz.prog 268 #[.agg G.toArray] h λv h'=>∃(E:Option Addr) (J F:Nat),v = .slice E J F/\O0.R h' [.slice E J F] r/\Sub h h':=by
 obtain⟨m,n,M,aR,Q,o,rfl,rfl,x,H,z⟩:=C0 aq
 obtain⟨rfl,aM⟩:=Sl.len z
 unfold b9 at c
 dsimp only at c
 refine G2 (args:=[.agg #[.int .i64 m,.int .i64 n,.slice M o.length Q]]) (fn:=Tryz.f268) rfl ?_
 refine trV c (f01 _ _ _ (l0 x H z)) λa2 c=>?_
 refine ifB c (λah c=>?_) λah c=>?_
 ·intro aZ aK X
  obtain⟨O,T,rfl,aw,ay,aQ⟩:=W0.out (r:=Wp.int.toRp) X (show F2 (Wp.int.R h) ([]:List (List Value)) ([]:J0) from trivial)
  obtain rfl:=oJ c
  exact⟨O,(([]:J0)).length,T,rfl,aw,ay⟩
 ·refine trM c (P07 _ _ x) ?_
  rintro u c a1 ao ⟨aA,aS,aD,rfl,L,A⟩
  obtain⟨rfl,aN⟩:=Sl.len L
  obtain⟨C,ae,c⟩:=B0 c
  refine eX { vars:=[5],boxes:=[],owns:=[0],fuel:=true } (eX (λvs os h'=>∃ d q j,vs.tail = [.int .i64 d]/\os = [q]/\Sub ao h'/\H0 d/\F2 (Wp.int.R h') q j/\H5 u m n o (O1 vs) d j=some C) (eX (λ_ _=>0) (aI (eX V0 ⟨0,([[.int .i64 0]]:List (List Value)),[0],rfl,rfl,(Sub.refl _),(by decide),(F2.up (r:=Wp.int.toRp) A (show F2 (Wp.int.R h) ([[.int .i64 0]]:List (List Value)) [0] from⟨⟨rfl,(by decide)⟩,trivial⟩)),ae⟩) ?_)))
  rintro _ q s an ⟨d,a5,j,⟨⟩,⟨⟩,t,aG,w,b⟩
  replace b:H5 u m n o s d j=some C:=b
  obtain _|s:=s
  ·cases b
  rw[H5.eq_2]at b
  obtain⟨ap,Y,b⟩:=B0 b
  obtain rfl:q.length=ap:=(F2.length w).trans (oJ Y)
  obtain⟨aU,aF,b⟩:=B0 b
  refine ifB b (λag b=>?_) λag b=>?_
  ·obtain⟨D,af,b⟩:=B0 b
   refine eX { vars:=[6],boxes:=[],owns:=[0],fuel:=true } (eX (λvs os h'=>∃ g k i,vs.tail = [.int .i64 g]/\os = [k]/\Sub an h'/\H0 g/\F2 (Wp.int.R h') k i/\f4 u d m n o (O1 vs) g i=some D) (eX (λ_ _=>0) (aI (eX V0 ⟨0,q,j,rfl,rfl,(Sub.refl _),(by decide),w,af⟩) ?_)))
   rintro _ k l I ⟨g,a6,i,⟨⟩,⟨⟩,p,aH,f,a⟩
   replace a:f4 u d m n o l g i=some D:=a
   obtain _|l:=l
   ·cases a
   rw[f4.eq_2]at a
   refine ifB a (λai a=>?_) λai a=>?_
   ·refine Or.inl (aI (aI (by kernel_rfl) (by kernel_rfl)) ?_)
    obtain⟨a3,ab,a⟩:=B0 a
    obtain⟨P,aC,U,ar⟩:=s5 f ab
    refine aI P ?_
    obtain⟨rfl,al⟩:=ar
    refine eX _ (aI U ?_)
    refine ldI a (O0.mono (t.trans p) L) λa4 am a=>?_
    obtain⟨e,ac,a⟩:=B0 a
    refine eX (.int .i64 e) (aI (b04 _ _ _ (l0 x H (Q0.mono ((A.trans t).trans p) z)) _ al _ am _  ac) ?_)
    obtain⟨aV,Z,a⟩:=B0 a
    have y:H0 e:=M0 Z
    obtain⟨az,ad,a⟩:=B0 a
    refine eX (.bool az) (aI ?_ ?_)
    ·intro ak
     intro aY aJ V
     obtain⟨aB,aE,rfl,au,aX,aO⟩:=W0.out (r:=Wp.int.toRp) V f
     exact a04 _ _ _ _ _ au _ y _ (D00 ad ak)
    refine ifB a (λaj a=>?_) λaj a=>?_
    ·obtain⟨aW,aa,a⟩:=B0 a
     refine aI (Q1 aa (by first|rw[F2.length f,F2.length (show F2 (Wp.int.R I) ([[.int .i64 e]]:List (List Value)) [e] from⟨⟨rfl,y⟩,trivial⟩)]|exact congrArg (·+1) (F2.length f))) ?_
     exact D2 l ⟨(IntKind.i64.wrap (g+1)),(k++([[.int .i64 e]]:List (List Value))),(i ++ [e]),rfl,rfl,p,(K0 _),(F2.append f (show F2 (Wp.int.R I) ([[.int .i64 e]]:List (List Value)) [e] from⟨⟨rfl,y⟩,trivial⟩)),a⟩
    ·exact D2 l ⟨(IntKind.i64.wrap (g+1)),k,i,rfl,rfl,p,(K0 _),f,a⟩
   ·obtain rfl:=oJ a
    try dsimp only[Y0,C1]at b
    exact D2 s ⟨(IntKind.i64.wrap (d+1)),k,i,rfl,rfl,(t.trans p),(K0 _),f,b⟩
  ·obtain rfl:=oJ b
   try dsimp only[Y0,C1]at c
   intro a0 aL W
   obtain⟨N,S,rfl,av,ax,aP⟩:=W0.out (r:=Wp.int.toRp) W w
   obtain rfl:=oJ c
   exact⟨N,j.length,S,rfl,av,((A.trans t).trans ax)⟩
theorem k04(h:Hp)(g:List Value)(i:j0)(H:F1.R h g i)(r:j0)(a:H7 i=some r):
  Tr Tryz.prog 222 #[.agg g.toArray] h λv h'=>∃(f:List Value),v = .agg f.toArray/\F1.R h' f r/\Sub h h':=by
 obtain⟨E,F,o,ac,s,G,rfl,rfl,d,e,b⟩:=C0 H
 obtain⟨rfl,Y⟩:=Sl.len b
 unfold H7 at a
 dsimp only at a
 refine G2 (args:=[.agg #[.int .i64 E,.int .i64 F,.slice o G.length s]]) (fn:=Tryz.f222) rfl ?_
 refine trM a (T08 _ _ _ (l0 d e b)) ?_
 rintro aj a ah C ⟨T,ad,W,rfl,j,c⟩
 obtain⟨rfl,Z⟩:=Sl.len j
 refine ifB a (λw a=>?_) λw a=>?_
 ·refine trM a (Q4 _ _ _ (l0 d e (Q0.mono c b))) ?_
  rintro ak a ai D ⟨U,rfl,n⟩
  have J:Sub C D:=n.sub
  have I:=n.r
  obtain⟨L,M,p,ae,t,N,rfl,rfl,x,y,k⟩:=C0 I
  obtain⟨rfl,aa⟩:=Sl.len k
  try dsimp only at a
  obtain rfl:=oJ a
  exact⟨([.int .i64 L,.int .i64 M,.slice p N.length t]),rfl,(l0 x y k),(c.trans J)⟩
 ·refine trM a (c05 _ _ _ (l0 d e (Q0.mono c b)) _ _ _ _ j) ?_
  rintro O a ag X ⟨V,rfl,l,K⟩
  obtain⟨al,am⟩:=O
  dsimp only at a l
  obtain⟨P,Q,q,af,u,S,rfl,rfl,z,A,m⟩:=C0 l
  obtain⟨rfl,ab⟩:=Sl.len m
  try dsimp only at a
  obtain rfl:=oJ a
  exact⟨([.int .i64 P,.int .i64 Q,.slice q S.length u]),rfl,(l0 z A m),(c.trans K)⟩
theorem Q0h(h:Hp)(m:List Value)(n:j0)(Q:F1.R h m n)(r:Bool)(a:q02 n=some r):
  Tr Tryz.prog 210 #[.agg m.toArray] h λv h'=>v = .bool r/\h'=h:=by
 obtain⟨N,O,t,ar,w,P,rfl,rfl,g,i,c⟩:=C0 Q
 obtain⟨rfl,ap⟩:=Sl.len c
 unfold q02 at a
 dsimp only at a
 refine Tr.forget (G2 (args:=[.agg #[.int .i64 N,.int .i64 O,.slice t P.length w]]) (fn:=Tryz.f210) rfl ?_)
 refine Or.inr (Or.inr (Or.inr (Or.inl (aI (aI (by kernel_rfl) (by kernel_rfl)) ?_))))
 obtain⟨Z,D,a⟩:=B0 a
 refine Or.inl (eX (.val (.bool Z)) (aI ?_ ?_))
 ·intro al X
  exact Tr.val (f01 _ _ _ (l0 g i (Q0.mono X c)) _ D) (aI rfl (aI rfl rfl))
 obtain⟨l,G,a⟩:=B0 a
 obtain⟨av,C,a⟩:=B0 a
 have ah:H0 l:=M0 C
 refine Or.inl (eX (.val (.int .i64 l)) (aI ?_ ?_))
 ·intro am Y b
  exact Tr.val (Q0a _ _ _ (l0 g i (Q0.mono Y c)) _ (D00 G b)) (aI rfl (aI rfl rfl))
 refine Or.inl (eX (.val (.bool (decide (l<0)))) (aI ?_ ?_))
 ·intro an aw b
  exact aI rfl (aI rfl rfl)
 obtain⟨aa,E,a⟩:=B0 a
 obtain⟨p,s,j⟩:=aa
 try dsimp only at a
 refine Or.inr (eX (λv H=>∃(d:Option Addr) (f:Nat),v = .agg #[.int .i64 p,.int .i64 s,.slice d j.length f]/\H0 p/\H0 s/\Q0.R H [.slice d j.length f] j/\j.length<=9223372036854775807) (aI (λv af ag k q=>by obtain⟨d,f,e,z,A,f2,f3⟩:=q;exact⟨d,f,e,z,A,Q0.mono k f2,f3⟩) (aI ?_ ?_)))
 ·intro ai U b
  refine Tr.mono (k04 _ _ _ (l0 g i (Q0.mono U c)) _ (D00 E b)) ?_
  rintro _ ao ⟨ad,rfl,S,k⟩
  obtain⟨ax,ay,u,au,x,az,rfl,y,I,J,o⟩:=C0 S
  cases y
  obtain⟨rfl,M⟩:=Sl.len o
  exact aI y03 (aI k ⟨u,x,rfl,I,J,o,M⟩)
 obtain⟨ab,F,a⟩:=B0 a
 refine Or.inl (eX (.val (.bool ab)) (aI ?_ ?_))
 ·intro aj V b
  rintro _ ⟨ac,ae,rfl,K,L,T,aq⟩
  exact Tr.val (q03 _ _ _ (l0 K L T) _ _ (l0 g i (Q0.mono V c)) _ (D00 F b)) (aI rfl (aI rfl rfl))
 intro ak W
 obtain rfl:=oJ a
 exact aI rfl W
theorem U0c(h:Hp)(b:List Value)(c:j0)(m:F1.R h b c)(r:Bool)(a:i01 c=some r):
  Tr Tryz.prog 118 #[.agg b.toArray] h λv h'=>v = .bool r/\h'=h:=by
 obtain⟨j,k,e,o,f,l,rfl,rfl,g,i,d⟩:=C0 m
 obtain⟨rfl,n⟩:=Sl.len d
 unfold i01 at a
 dsimp only at a
 refine Tr.forget (G2 (args:=[.agg #[.int .i64 j,.int .i64 k,.slice e l.length f]]) (fn:=Tryz.f118) rfl ?_)
 refine trV a (Q0h _ _ _ (l0 g i d)) λp a=>?_
 obtain rfl:=oJ a
 exact aI rfl (Sub.refl _)
theorem c0f(h:Hp)(c:Option Addr)(k d:Nat)(b:J0)(l:O0.R h [.slice c k d] b)(r:J0)(a:a02 b=some r):
  Tr Tryz.prog 177 #[.slice c k d] h λv h'=>∃(i:Nat) (j f:Nat),v = .slice (some ⟨i,0,none⟩) j f/\New O0 h h' [.slice (some ⟨i,0,none⟩) j f] r:=by
 obtain⟨rfl,t⟩:=Sl.len l
 unfold a02 at a
 refine G2 (args:=[.slice c b.length d]) (fn:=Tryz.f177) rfl ?_
 obtain⟨q,n,e⟩:=Sl.rows (r:=Wp.int.toRp) l
 refine eX q (aI n ?_)
 obtain⟨w,o,a⟩:=B0 a
 refine aI (Q1 o (by first|rw[F2.length (show F2 (Wp.int.R h) ([]:List (List Value)) ([]:J0) from trivial),F2.length e]|exact congrArg (·+1) (F2.length (show F2 (Wp.int.R h) ([]:List (List Value)) ([]:J0) from trivial)))) ?_
 intro z s g
 obtain⟨p,m,rfl,x,y,u⟩:=W0.outS (r:=Wp.int.toRp) g (F2.append (show F2 (Wp.int.R h) ([]:List (List Value)) ([]:J0) from trivial) e)
 obtain rfl:=oJ a
 exact⟨p,((([]:J0)++b)).length,m,rfl,(W0.newPlain (r:=Wp.int) g (F2.append (show F2 (Wp.int.R h) ([]:List (List Value)) ([]:J0) from trivial) e) (E06 _))⟩
theorem d0f(h:Hp)(b:Int)(d:H0 b)(r:j0×Bool)(a:d02 b=some r):
  Tr Tryz.prog 169 #[.int .i64 b] h λv h'=>∃(c:List Value),v = .tuple #[.agg c.toArray,.bool r.2]/\F1.R h' c r.1/\Sub h h':=by
 unfold d02 at a
 refine G2 (args:=[.int .i64 b]) (fn:=Tryz.f169) rfl ?_
 refine trV a (O6 _ _ d 1 (by decide) 3 (by decide)) λf a=>?_
 refine ifB a (λe a=>?_) λe a=>?_
 ·obtain rfl:=oJ a
  exact⟨([.int .i64 0,.int .i64 0,.slice none 0 0]),rfl,(l0 (by decide) (by decide) (n0g I1 h)),(Sub.refl _)⟩
 ·obtain rfl:=oJ a
  exact⟨([.int .i64 b,.int .i64 1,.slice none 0 0]),rfl,(l0 d (by decide) (n0g I1 h)),(Sub.refl _)⟩
theorem L09(h:Hp)(O:List Value)(X:j0)(a7:F1.R h O X)(w:Int)(S:H0 w)(m:Option Addr)(W n:Nat)(k:J0)(l:O0.R h [.slice m W n] k)(f:Int)(t:H0 f)(r:j0×Bool)(b:J00 X w k f=some r):
  Tr Tryz.prog 155 #[.agg O.toArray,.int .i64 w,.slice m W n,.int .i64 f] h λv h'=>∃(N:List Value),v = .tuple #[.agg N.toArray,.bool r.2]/\F1.R h' N r.1/\Sub h h':=by
 obtain⟨a5,H,av,bP,aE,a6,rfl,rfl,F,Q,I⟩:=C0 a7
 obtain⟨rfl,bH⟩:=Sl.len I
 obtain⟨rfl,bI⟩:=Sl.len l
 unfold J00 at b
 dsimp only at b
 refine G2 (args:=[.agg #[.int .i64 a5,.int .i64 H,.slice av a6.length aE],.int .i64 w,.slice m k.length n,.int .i64 f]) (fn:=Tryz.f155) rfl ?_
 refine trM b (Q4 _ _ _ (l0 F Q I)) ?_
 rintro cb b b5 V ⟨bh,rfl,ag⟩
 have i:Sub h V:=ag.sub
 have a8:=ag.r
 obtain⟨al,am,M,bQ,P,K,rfl,rfl,T,U,J⟩:=C0 a8
 obtain⟨rfl,bK⟩:=Sl.len J
 try dsimp only at b
 refine trV b (P6 _ _ _ (l0 F Q (Q0.mono i I))) λcd b=>?_
 refine trG b (λq=>O6 _ _ S 0 (by decide) (IntKind.i64.wrap (H-1)) (K0 _)) λcf b=>?_
 refine trG b (λq=>O6 _ _ t 0 (by decide) (IntKind.i64.wrap (H-1)) (K0 _)) λcg b=>?_
 refine trG b (λq=>d07 _ _ F _ _ _ _ (O0.mono i l)) λch b=>?_
 refine ifB b (λaY b=>?_) λaY b=>?_
 ·obtain rfl:=oJ b
  exact⟨([.int .i64 al,.int .i64 am,.slice M K.length P]),rfl,(l0 T U J),i⟩
 ·obtain⟨L,aS,b⟩:=B0 b
  refine eX { vars:=[11,12],boxes:=[2],owns:=[],fuel:=true } (eX (λvs os h'=>∃ d e j c A G C x,vs.tail = [.int .i64 d,.int .i64 e,.int .i64 j,.int .i64 c,.slice A G C]/\os = []/\Sub V h'/\H0 d/\H0 e/\H0 j/\H0 c/\Q0.R h' [.slice A G C] x/\I5 k f (O1 vs) d e j c x=some L) (eX (λ_ _=>0) (aI (eX V0 ⟨w,0,al,am,M,K.length,P,K,rfl,rfl,(Sub.refl _),S,(by decide),T,U,J,aS⟩) ?_)))
  rintro _ _ _ _ _ p E ⟨d,e,j,c,A,G,C,x,⟨⟩,⟨⟩,g,D,bm,u,o,s,a⟩
  replace a:I5 k f p d e j c x=some L:=a
  obtain _|p:=p
  ·cases a
  rw[I5.eq_2]at a
  obtain⟨rfl,bJ⟩:=Sl.len s
  refine ifB a (λaU a=>?_) λaU a=>?_
  ·refine ifB a (λaV a=>?_) λaV a=>?_
   ·refine ldI a (O0.mono (i.trans g) l) λcc bn a=>?_
    refine ifB a (λaW a=>?_) λaW a=>?_
    ·refine Or.inr (Or.inr (Or.inl (aI (aI (by kernel_rfl) (by kernel_rfl)) ?_)))
     obtain⟨an,aO,a⟩:=B0 a
     obtain⟨aA,bi,aK,a9⟩:=Sl.getI (r:=Wp.int.toRp) (O0.mono (i.trans g) l) aO (by decide)
     obtain⟨rfl,aZ⟩:=a9
     refine Or.inl (eX (.hel (.slice m k.length n) e 1 0) (aI ?_ ?_))
     ·intro br bV
      exact aI aA (aI rfl (aI rfl rfl))
     refine Or.inl (eX (.val (.int .i64 an)) (aI ?_ ?_))
     ·intro bs bd
      exact eX _ (aI (J7.up bd aK) (aI rfl (aI rfl rfl)))
     refine Or.inl (eX (.agg [.val (.int .i64 d),.val (.int .i64 an),.val (.int .i64 c)]) (aI ?_ ?_))
     ·intro bt bW
      exact aI rfl (aI rfl rfl)
     refine Or.inr ?_
     refine Or.inr ?_
     refine Or.inl (eX 1 (aI (aI rfl rfl) ?_))
     refine trM a (U01 _ _ _ _ _ s _ _ (D1 D aZ o)) ?_
     rintro ao a b6 a1 ⟨aw,bR,aF,rfl,ah⟩
     have ac:Sub E a1:=ah.sub
     have Y:=ah.r
     obtain⟨rfl,bL⟩:=Sl.len Y
     refine aI (aI rfl ac) (aI (by first|exact trivial|exact rfl) ?_)
     refine aT ?_
     exact D2 p ⟨c,(IntKind.i64.wrap (e+1)),j,(IntKind.i64.wrap (c+1)),aw,ao.length,aF,ao,rfl,rfl,(g.trans ac),o,(K0 _),u,(K0 _),Y,a⟩
    ·refine Or.inr (Or.inr (Or.inl (aI (aI (by kernel_rfl) (by kernel_rfl)) ?_)))
     obtain⟨y,aP,a⟩:=B0 a
     obtain⟨aB,bj,aL,ba⟩:=Sl.getI (r:=Wp.int.toRp) (O0.mono (i.trans g) l) aP (by decide)
     obtain⟨rfl,bo⟩:=ba
     refine Or.inl (eX (.hel (.slice m k.length n) e 1 0) (aI ?_ ?_))
     ·intro bu bX
      exact aI aB (aI rfl (aI rfl rfl))
     refine Or.inl (eX (.val (.int .i64 y)) (aI ?_ ?_))
     ·intro bv be
      exact eX _ (aI (J7.up be aL) (aI rfl (aI rfl rfl)))
     refine Or.inl (eX (.val (.int .i64 (IntKind.i64.wrap (0-y)))) (aI ?_ ?_))
     ·intro bx bY
      exact aI rfl (aI rfl rfl)
     refine Or.inl (eX (.agg [.val (.int .i64 c),.val (.int .i64 (IntKind.i64.wrap (0-y))),.val (.int .i64 d)]) (aI ?_ ?_))
     ·intro bz bZ
      exact aI rfl (aI rfl rfl)
     refine Or.inr ?_
     refine Or.inr ?_
     refine Or.inl (eX 1 (aI (aI rfl rfl) ?_))
     refine trM a (U01 _ _ _ _ _ s [.int .i64 c,.int .i64 (IntKind.i64.wrap (0-y)),.int .i64 d] (c,(IntKind.i64.wrap (0-y)),d) (D1 o (K0 _) D)) ?_
     rintro ap a b7 a2 ⟨ax,bS,aG,rfl,ai⟩
     have ad:Sub E a2:=ai.sub
     have Z:=ai.r
     obtain⟨rfl,bM⟩:=Sl.len Z
     refine aI (aI rfl ad) (aI (by first|exact trivial|exact rfl) ?_)
     refine aT ?_
     exact D2 p ⟨c,(IntKind.i64.wrap (e+1)),j,(IntKind.i64.wrap (c+1)),ax,ap.length,aG,ap,rfl,rfl,(g.trans ad),o,(K0 _),u,(K0 _),Z,a⟩
   ·refine ldI a (O0.mono (i.trans g) l) λce bp a=>?_
    refine ifB a (λaX a=>?_) λaX a=>?_
    ·refine Or.inr (Or.inr (Or.inl (aI (aI (by kernel_rfl) (by kernel_rfl)) ?_)))
     obtain⟨aq,aQ,a⟩:=B0 a
     obtain⟨aC,bk,aM,bb⟩:=Sl.getI (r:=Wp.int.toRp) (O0.mono (i.trans g) l) aQ (by decide)
     obtain⟨rfl,a0⟩:=bb
     refine Or.inl (eX (.hel (.slice m k.length n) e 1 0) (aI ?_ ?_))
     ·intro bA b0
      exact aI aC (aI rfl (aI rfl rfl))
     refine Or.inl (eX (.val (.int .i64 aq)) (aI ?_ ?_))
     ·intro bB bf
      exact eX _ (aI (J7.up bf aM) (aI rfl (aI rfl rfl)))
     refine Or.inl (eX (.agg [.val (.int .i64 d),.val (.int .i64 aq),.val (.int .i64 f)]) (aI ?_ ?_))
     ·intro bC b1
      exact aI rfl (aI rfl rfl)
     refine Or.inr ?_
     refine Or.inr ?_
     refine Or.inl (eX 1 (aI (aI rfl rfl) ?_))
     refine trM a (U01 _ _ _ _ _ s _ _ (D1 D a0 t)) ?_
     rintro ar a b8 a3 ⟨ay,bT,aH,rfl,aj⟩
     have ae:Sub E a3:=aj.sub
     have aa:=aj.r
     obtain⟨rfl,bN⟩:=Sl.len aa
     refine aI (aI rfl ae) (aI (by first|exact trivial|exact rfl) ?_)
     refine aT ?_
     exact D2 p ⟨f,(IntKind.i64.wrap (e+1)),j,c,ay,ar.length,aH,ar,rfl,rfl,(g.trans ae),t,(K0 _),u,o,aa,a⟩
    ·refine Or.inr (Or.inr (Or.inl (aI (aI (by kernel_rfl) (by kernel_rfl)) ?_)))
     obtain⟨z,aR,a⟩:=B0 a
     obtain⟨aD,bl,aN,bc⟩:=Sl.getI (r:=Wp.int.toRp) (O0.mono (i.trans g) l) aR (by decide)
     obtain⟨rfl,bq⟩:=bc
     refine Or.inl (eX (.hel (.slice m k.length n) e 1 0) (aI ?_ ?_))
     ·intro bD b2
      exact aI aD (aI rfl (aI rfl rfl))
     refine Or.inl (eX (.val (.int .i64 z)) (aI ?_ ?_))
     ·intro bE bg
      exact eX _ (aI (J7.up bg aN) (aI rfl (aI rfl rfl)))
     refine Or.inl (eX (.val (.int .i64 (IntKind.i64.wrap (0-z)))) (aI ?_ ?_))
     ·intro bF b3
      exact aI rfl (aI rfl rfl)
     refine Or.inl (eX (.agg [.val (.int .i64 f),.val (.int .i64 (IntKind.i64.wrap (0-z))),.val (.int .i64 d)]) (aI ?_ ?_))
     ·intro bG b4
      exact aI rfl (aI rfl rfl)
     refine Or.inr ?_
     refine Or.inr ?_
     refine Or.inl (eX 1 (aI (aI rfl rfl) ?_))
     refine trM a (U01 _ _ _ _ _ s [.int .i64 f,.int .i64 (IntKind.i64.wrap (0-z)),.int .i64 d] (f,(IntKind.i64.wrap (0-z)),d) (D1 t (K0 _) D)) ?_
     rintro au a ca a4 ⟨az,bU,aJ,rfl,ak⟩
     have af:Sub E a4:=ak.sub
     have ab:=ak.r
     obtain⟨rfl,bO⟩:=Sl.len ab
     refine aI (aI rfl af) (aI (by first|exact trivial|exact rfl) ?_)
     refine aT ?_
     exact D2 p ⟨f,(IntKind.i64.wrap (e+1)),j,c,az,au.length,aJ,au,rfl,rfl,(g.trans af),t,(K0 _),u,o,ab,a⟩
  ·obtain rfl:=oJ a
   try dsimp only[Y0,C1]at b
   obtain rfl:=oJ b
   exact⟨([.int .i64 j,.int .i64 c,.slice A x.length C]),rfl,(l0 u o s),(i.trans g)⟩
theorem e0f(h:Hp)(f:List Value)(i:j0)(A:F1.R h f i)(b:Option Addr)(g c:Nat)(d:J0)(k:O0.R h [.slice b g c] d)(r:j0×Bool)(a:e02 i d=some r):
  Tr Tryz.prog 170 #[.agg f.toArray,.slice b g c] h λv h'=>∃(e:List Value),v = .tuple #[.agg e.toArray,.bool r.2]/\F1.R h' e r.1/\Sub h h':=by
 obtain⟨x,y,n,M,p,z,rfl,rfl,s,t,j⟩:=C0 A
 obtain⟨rfl,J⟩:=Sl.len j
 obtain⟨rfl,K⟩:=Sl.len k
 unfold e02 at a
 dsimp only at a
 refine G2 (args:=[.agg #[.int .i64 x,.int .i64 y,.slice n z.length p],.slice b d.length c]) (fn:=Tryz.f170) rfl ?_
 refine trM a (L09 _ _ _ (l0 s t j) 0 (by decide) _ _ _ _ k 0 (by decide)) ?_
 rintro D a O I ⟨H,rfl,l,C⟩
 obtain⟨P,Q⟩:=D
 dsimp only at a l
 obtain⟨E,F,o,N,q,G,rfl,rfl,u,w,m⟩:=C0 l
 obtain⟨rfl,L⟩:=Sl.len m
 try dsimp only at a
 obtain rfl:=oJ a
 exact⟨([.int .i64 E,.int .i64 F,.slice o G.length q]),rfl,(l0 u w m),C⟩
theorem f0f(h:Hp)(A:Int)(S:H0 A)(u:Option Addr)(V x:Nat)(n:O2)(E:Q2.R h [.slice u V x] n)(r:j0×Bool)(b:f02 A n=some r):
  Tr Tryz.prog 85 #[.int .i64 A,.slice u V x] h λv h'=>∃(M:List Value),v = .tuple #[.agg M.toArray,.bool r.2]/\F1.R h' M r.1/\Sub h h':=by
 obtain⟨rfl,bd⟩:=Sl.len E
 unfold f02 at b
 refine G2 (args:=[.int .i64 A,.slice u n.length x]) (fn:=Tryz.f85) rfl ?_
 refine trV b (N08 _ _ S _ _ _ _ E) λbs b=>?_
 refine ifB b (λar b=>?_) λar b=>?_
 ·obtain rfl:=oJ b
  exact⟨([.int .i64 0,.int .i64 0,.slice none 0 0]),rfl,(l0 (by decide) (by decide) (n0g I1 h)),(Sub.refl _)⟩
 ·refine trM b (d0f _ _ S) ?_
  rintro aS b br aE ⟨aZ,rfl,W,aa⟩
  obtain⟨bt,bu⟩:=aS
  dsimp only at b W
  obtain⟨aU,aV,ad,bk,ai,ab,rfl,rfl,au,av,X⟩:=C0 W
  obtain⟨rfl,bg⟩:=Sl.len X
  try dsimp only at b
  obtain⟨J,ap,b⟩:=B0 b
  refine eX { vars:=[8],boxes:=[1],owns:=[],fuel:=true } (eX (λvs os h'=>∃ m u8 o w D y t,vs.tail = [.int .i64 m,.int .i64 u8,.int .i64 o,.slice w D y]/\os = []/\Sub aE h'/\H0 m/\H0 u8/\H0 o/\Q0.R h' [.slice w D y] t/\F7 n (O1 vs) m u8 o t=some J) (eX (λ_ _=>0) (aI (eX V0 ⟨0,aU,aV,ad,ab.length,ai,ab,rfl,rfl,(Sub.refl _),(by decide),au,av,X,ap⟩) ?_)))
  rintro _ _ _ _ z a4 ⟨m,u8,o,w,D,y,t,⟨⟩,⟨⟩,H,a1,T,U,F,c⟩
  replace c:F7 n z m u8 o t=some J:=c
  obtain _|z:=z
  ·cases c
  rw[F7.eq_2]at c
  obtain⟨rfl,be⟩:=Sl.len F
  refine ifB c (λaq c=>?_) λaq c=>?_
  ·refine Or.inr (Or.inr (Or.inr (Or.inr (eX 10 (aI (aI (by kernel_rfl) (by kernel_rfl)) ?_)))))
   obtain⟨aP,an,c⟩:=B0 c
   obtain⟨ag,aX,al,G⟩:=Sl.getI (r:=O0.toRp) (Q2.mono (aa.trans H) E) an (by decide)
   obtain⟨ac,bj,ah,rfl⟩:=Wp.slice_cell G
   obtain⟨rfl,bf⟩:=Sl.len G
   refine Or.inl (eX (.hel (.slice u n.length x) m 1 0) (aI ?_ ?_))
   ·intro a5 bn
    exact aI ag (aI rfl (aI rfl rfl))
   refine Or.inl (eX (.val (.slice ac aP.length ah)) (aI ?_ ?_))
   ·intro a6 aN
    exact eX _ (aI (J7.up aN al) (aI rfl (aI rfl rfl)))
   obtain⟨aQ,ao,c⟩:=B0 c
   obtain⟨aR,I⟩:=aQ
   try dsimp only at c
   obtain⟨j,k,a⟩:=aR
   try dsimp only at c
   refine Or.inr (eX (λv g=>∃(i:Value),v = .tuple #[i,.bool I]/\(λv g=>∃(d:Option Addr) (f:Nat),v = .agg #[.int .i64 j,.int .i64 k,.slice d a.length f]/\H0 j/\H0 k/\Q0.R g [.slice d a.length f] a/\a.length<=9223372036854775807) i g) (aI (λv P Q l q=>by obtain⟨i,e,C⟩:=q;exact⟨i,e,(by obtain⟨d,f,e,p,s,f2,f3⟩:=C;exact⟨d,f,e,p,s,Q0.mono l f2,f3⟩)⟩) (aI ?_ ?_)))
   ·intro a7 Z
    refine Tr.mono (e0f _ _ _ (l0 T U (Q0.mono Z F)) _ _ _ _ (O0.mono Z G) _ ao) ?_
    rintro _ bc ⟨aY,rfl,aJ,l⟩
    obtain⟨bv,bx,K,bl,N,bz,rfl,am,aw,ax,Y⟩:=C0 aJ
    cases am
    obtain⟨rfl,aF⟩:=Sl.len Y
    exact aI y03 (aI l ⟨(.agg #[.int .i64 j,.int .i64 k,.slice K a.length N]),rfl,⟨K,N,rfl,aw,ax,Y,aF⟩⟩)
   refine Or.inr (eX (λv g=>∃(i:Value),v = .tuple #[i,.bool I]/\(λv g=>∃(d:Option Addr) (f:Nat),v = .agg #[.int .i64 j,.int .i64 k,.slice d a.length f]/\H0 j/\H0 k/\Q0.R g [.slice d a.length f] a/\a.length<=9223372036854775807) i g) (aI (λv P Q l q=>by obtain⟨i,e,C⟩:=q;exact⟨i,e,(by obtain⟨d,f,e,p,s,f2,f3⟩:=C;exact⟨d,f,e,p,s,Q0.mono l f2,f3⟩)⟩) (aI ?_ ?_)))
   ·intro a8 bo
    rintro _ ⟨_,rfl,⟨L,O,rfl,ay,az,aK,aG⟩⟩
    exact aI y03 (aI (Sub.refl _) ⟨(.agg #[.int .i64 j,.int .i64 k,.slice L a.length O]),rfl,⟨L,O,rfl,ay,az,aK,aG⟩⟩)
   refine Or.inr (eX (λv g=>∃(d:Option Addr) (f:Nat),v = .agg #[.int .i64 j,.int .i64 k,.slice d a.length f]/\H0 j/\H0 k/\Q0.R g [.slice d a.length f] a/\a.length<=9223372036854775807) (aI (λv P Q l q=>by obtain⟨d,f,e,p,s,f2,f3⟩:=q;exact⟨d,f,e,p,s,Q0.mono l f2,f3⟩) (aI ?_ ?_)))
   ·intro a9 bp
    rintro _ ⟨_,rfl,⟨ae,aj,rfl,aA,aB,aL,aH⟩⟩
    exact aI y03 (aI (Sub.refl _) ⟨ae,aj,rfl,aA,aB,aL,aH⟩)
   refine Or.inl (eX (.val (.bool I)) (aI ?_ ?_))
   ·intro ba bq
    rintro _ ⟨_,rfl,⟨aW,a0,rfl,a2,a3,bm,bh⟩⟩
    exact aI rfl (aI rfl rfl)
   intro bb aO
   rintro _ ⟨af,ak,rfl,aC,aD,aM,bi⟩
   rintro _ _
   rintro _ _
   exact D2 z ⟨(IntKind.i64.wrap (m+1)),j,k,af,a.length,ak,a,rfl,rfl,(H.trans aO),(K0 _),aC,aD,aM,c⟩
  ·obtain rfl:=oJ c
   try dsimp only[Y0,C1]at b
   obtain rfl:=oJ b
   exact⟨([.int .i64 u8,.int .i64 o,.slice w t.length y]),rfl,(l0 T U F),(aa.trans H)⟩
theorem y0h(h:Hp)(G:List Value)(J:j0)(ad:F1.R h G J)(r:M9)(t:B02 J=some r):
  Tr Tryz.prog 283 #[.agg G.toArray] h λv h'=>∃(E:Option Addr) (I F:Nat),v = .slice E I F/\Y0j.R h' [.slice E I F] r/\Sub h h':=by
 obtain⟨ab,ac,K,av,M,w,rfl,rfl,ak,al,A⟩:=C0 ad
 obtain⟨rfl,ar⟩:=Sl.len A
 unfold B02 at t
 dsimp only at t
 refine G2 (args:=[.agg #[.int .i64 ab,.int .i64 ac,.slice K w.length M]]) (fn:=Tryz.f283) rfl ?_
 obtain⟨C,T,t⟩:=B0 t
 refine eX { vars:=[4],boxes:=[],owns:=[0],fuel:=true } (eX (λvs os h'=>∃ l z u,vs.tail = [.int .i64 l]/\os = [z]/\Sub h h'/\H0 l/\F2 (G5.R h') z u/\j8 w (O1 vs) l u=some C) (eX (λ_ _=>0) (aI (eX V0 ⟨0,[],([]:M9),rfl,rfl,(Sub.refl _),(by decide),(show F2 (G5.R h) ([]:List (List Value)) ([]:M9) from trivial),T⟩) ?_)))
 rintro _ z x aa ⟨l,aE,u,⟨⟩,⟨⟩,y,am,H,f⟩
 replace f:j8 w x l u=some C:=f
 obtain _|x:=x
 ·cases f
 rw[j8.eq_2]at f
 refine ifB f (λZ f=>?_) λZ f=>?_
 ·obtain⟨D,U,f⟩:=B0 f
  refine eX { vars:=[5],boxes:=[],owns:=[0],fuel:=true } (eX (λvs os h'=>∃ u8 p m,vs.tail = [.int .i64 u8]/\os = [p]/\Sub aa h'/\H0 u8/\F2 (G5.R h') p m/\S4 w l (O1 vs) u8 m=some D) (eX (λ_ _=>0) (aI (eX V0 ⟨(IntKind.i64.wrap (l+1)),z,u,rfl,rfl,(Sub.refl _),(K0 _),H,U⟩) ?_)))
  rintro _ p q k ⟨u8,aF,m,⟨⟩,⟨⟩,s,an,g,e⟩
  replace e:S4 w l q u8 m=some D:=e
  obtain _|q:=q
  ·cases e
  rw[S4.eq_2]at e
  refine ifB e (λV e=>?_) λV e=>?_
  ·refine ld e (Q0.mono (y.trans s) A) λaA ai ae e=>?_
   obtain⟨c,aB,a,rfl,rfl,n,ao,i⟩:=U1 ae
   try dsimp only at e
   refine ld e (Q0.mono (y.trans s) A) λaC aj af e=>?_
   obtain⟨d,aD,b,rfl,rfl,o,ap,j⟩:=U1 af
   try dsimp only at e
   refine ifB e (λW e=>?_) λW e=>?_
   ·obtain⟨aw,P,e⟩:=B0 e
    refine aI (Q1 P (by first|rw[F2.length g,F2.length (show F2 (G5.R k) ([[.int .i64 (if b<a then b else a),.int .i64 (if b>a then b else a)]]:List (List Value)) [((if b<a then b else a),(if b>a then b else a))] from⟨(B3 (B8 j i) (B8 j i)),trivial⟩)]|exact congrArg (·+1) (F2.length g))) ?_
    refine ifB e (λX e=>?_) λX e=>?_
    ·obtain⟨ax,Q,e⟩:=B0 e
     refine aI (Q1 Q (by first|rw[F2.length (F2.append g (show F2 (G5.R k) ([[.int .i64 (if b<a then b else a),.int .i64 (if b>a then b else a)]]:List (List Value)) [((if b<a then b else a),(if b>a then b else a))] from⟨(B3 (B8 j i) (B8 j i)),trivial⟩)),F2.length (show F2 (G5.R k) ([[.int .i64 (if d<c then d else c),.int .i64 (if d>c then d else c)]]:List (List Value)) [((if d<c then d else c),(if d>c then d else c))] from⟨(B3 (B8 o n) (B8 o n)),trivial⟩)]|exact congrArg (·+1) (F2.length (F2.append g (show F2 (G5.R k) ([[.int .i64 (if b<a then b else a),.int .i64 (if b>a then b else a)]]:List (List Value)) [((if b<a then b else a),(if b>a then b else a))] from⟨(B3 (B8 j i) (B8 j i)),trivial⟩))))) ?_
     exact D2 q ⟨(IntKind.i64.wrap (u8+1)),((p++([[.int .i64 (if b<a then b else a),.int .i64 (if b>a then b else a)]]:List (List Value)))++([[.int .i64 (if d<c then d else c),.int .i64 (if d>c then d else c)]]:List (List Value))),((m ++ [((if b<a then b else a),(if b>a then b else a))]) ++ [((if d<c then d else c),(if d>c then d else c))]),rfl,rfl,s,(K0 _),(F2.append (F2.append g (show F2 (G5.R k) ([[.int .i64 (if b<a then b else a),.int .i64 (if b>a then b else a)]]:List (List Value)) [((if b<a then b else a),(if b>a then b else a))] from⟨(B3 (B8 j i) (B8 j i)),trivial⟩)) (show F2 (G5.R k) ([[.int .i64 (if d<c then d else c),.int .i64 (if d>c then d else c)]]:List (List Value)) [((if d<c then d else c),(if d>c then d else c))] from⟨(B3 (B8 o n) (B8 o n)),trivial⟩)),e⟩
    ·exact D2 q ⟨(IntKind.i64.wrap (u8+1)),(p++([[.int .i64 (if b<a then b else a),.int .i64 (if b>a then b else a)]]:List (List Value))),(m ++ [((if b<a then b else a),(if b>a then b else a))]),rfl,rfl,s,(K0 _),(F2.append g (show F2 (G5.R k) ([[.int .i64 (if b<a then b else a),.int .i64 (if b>a then b else a)]]:List (List Value)) [((if b<a then b else a),(if b>a then b else a))] from⟨(B3 (B8 j i) (B8 j i)),trivial⟩)),e⟩
   ·refine ifB e (λY e=>?_) λY e=>?_
    ·obtain⟨ay,S,e⟩:=B0 e
     refine aI (Q1 S (by first|rw[F2.length g,F2.length (show F2 (G5.R k) ([[.int .i64 (if d<c then d else c),.int .i64 (if d>c then d else c)]]:List (List Value)) [((if d<c then d else c),(if d>c then d else c))] from⟨(B3 (B8 o n) (B8 o n)),trivial⟩)]|exact congrArg (·+1) (F2.length g))) ?_
     exact D2 q ⟨(IntKind.i64.wrap (u8+1)),(p++([[.int .i64 (if d<c then d else c),.int .i64 (if d>c then d else c)]]:List (List Value))),(m ++ [((if d<c then d else c),(if d>c then d else c))]),rfl,rfl,s,(K0 _),(F2.append g (show F2 (G5.R k) ([[.int .i64 (if d<c then d else c),.int .i64 (if d>c then d else c)]]:List (List Value)) [((if d<c then d else c),(if d>c then d else c))] from⟨(B3 (B8 o n) (B8 o n)),trivial⟩)),e⟩
    ·exact D2 q ⟨(IntKind.i64.wrap (u8+1)),p,m,rfl,rfl,s,(K0 _),g,e⟩
  ·obtain rfl:=oJ e
   try dsimp only[Y0,C1]at f
   exact D2 x ⟨(IntKind.i64.wrap (l+1)),p,m,rfl,rfl,(y.trans s),(K0 _),g,f⟩
 ·obtain rfl:=oJ f
  try dsimp only[Y0,C1]at t
  intro az aq O
  obtain⟨L,N,rfl,ag,ah,au⟩:=W0.out (r:=G5.toRp) O H
  obtain rfl:=oJ t
  exact⟨L,u.length,N,rfl,ag,(y.trans ah)⟩
theorem e0e(h:Hp)(d:List Value)(g:j0)(u:F1.R h d g)(r:F5×Bool)(a:t00 g=some r):
  Tr Tryz.prog 266 #[.agg d.toArray] h λv h'=>∃(c:List Value),v = .tuple #[.agg c.toArray,.bool r.2]/\G5.R h' c r.1/\Sub h h':=by
 obtain⟨q,s,k,G,l,t,rfl,rfl,e,f,b⟩:=C0 u
 obtain⟨rfl,E⟩:=Sl.len b
 unfold t00 at a
 dsimp only at a
 refine G2 (args:=[.agg #[.int .i64 q,.int .i64 s,.slice k t.length l]]) (fn:=Tryz.f266) rfl ?_
 refine trV a (P6 _ _ _ (l0 e f b)) λJ a=>?_
 refine ifB a (λm a=>?_) λm a=>?_
 ·obtain rfl:=oJ a
  exact⟨([.int .i64 0,.int .i64 0]),rfl,(B3 (by decide) (by decide)),(Sub.refl _)⟩
 ·refine trM a (y0h _ _ _ (l0 e f b)) ?_
  rintro K a I D ⟨z,H,C,rfl,i,j⟩
  obtain⟨rfl,F⟩:=Sl.len i
  refine ifB a (λn a=>?_) λn a=>?_
  ·obtain rfl:=oJ a
   exact⟨([.int .i64 0,.int .i64 0]),rfl,(B3 (by decide) (by decide)),j⟩
  ·refine ld a i λL A w a=>?_
   obtain⟨x,y,rfl,rfl,o,p⟩:=O03 w
   try dsimp only at a
   obtain rfl:=oJ a
   exact⟨([.int .i64 x,.int .i64 y]),rfl,(B3 o p),j⟩
theorem W0c(h:Hp)(b:Int)(l:H0 b)(c:List Value)(d:F5)(k:G5.R h c d)(r:Int)(a:N02 b d=some r):
  Tr Tryz.prog 284 #[.int .i64 b,.agg c.toArray] h λv h'=>v = .int .i64 r/\h'=h:=by
 obtain⟨i,j,rfl,rfl,m,n⟩:=O03 k
 unfold N02 at a
 dsimp only at a
 refine Tr.forget (G2 (args:=[.int .i64 b,.agg #[.int .i64 i,.int .i64 j]]) (fn:=Tryz.f284) rfl ?_)
 refine ifB a (λe a=>?_) λe a=>?_
 ·refine ifB a (λf a=>?_) λf a=>?_
  ·obtain rfl:=oJ a
   exact aI rfl (Sub.refl _)
  ·obtain rfl:=oJ a
   exact aI rfl (Sub.refl _)
 ·refine ifB a (λg a=>?_) λg a=>?_
  ·obtain rfl:=oJ a
   exact aI rfl (Sub.refl _)
  ·obtain rfl:=oJ a
   exact aI rfl (Sub.refl _)
theorem M09(h:Hp)(x:List Value)(F:j0)(an:F1.R h x F)(y:List Value)(I:F5)(ao:G5.R h y I)(r:j0×Bool)(b:l8 F I=some r):
  Tr Tryz.prog 267 #[.agg x.toArray,.agg y.toArray] h λv h'=>∃(w:List Value),v = .tuple #[.agg w.toArray,.bool r.2]/\F1.R h' w r.1/\Sub h h':=by
 obtain⟨G,H,P,aJ,T,m,rfl,rfl,k,z,j⟩:=C0 an
 obtain⟨rfl,aE⟩:=Sl.len j
 obtain⟨n,o,rfl,rfl,A,C⟩:=O03 ao
 unfold l8 at b
 dsimp only at b
 refine G2 (args:=[.agg #[.int .i64 G,.int .i64 H,.slice P m.length T],.agg #[.int .i64 n,.int .i64 o]]) (fn:=Tryz.f267) rfl ?_
 refine trV b (P6 _ _ _ (l0 k z j)) λaU b=>?_
 refine ifB b (λac b=>?_) λac b=>?_
 ·refine trM b (Q4 _ _ _ (l0 k z j)) ?_
  rintro aY b aS am ⟨az,rfl,N⟩
  have ar:Sub h am:=N.sub
  have aq:=N.r
  obtain⟨av,aw,S,aL,V,ax,rfl,rfl,ai,aj,K⟩:=C0 aq
  obtain⟨rfl,aH⟩:=Sl.len K
  try dsimp only at b
  obtain rfl:=oJ b
  exact⟨([.int .i64 av,.int .i64 aw,.slice S ax.length V]),rfl,(l0 ai aj K),ar⟩
 ·obtain⟨u,aa,b⟩:=B0 b
  refine eX { vars:=[7],boxes:=[3],owns:=[],fuel:=true } (eX (λvs os h'=>∃ d u8 c f l g e,vs.tail = [.int .i64 d,.int .i64 u8,.int .i64 c,.slice f l g]/\os = []/\Sub h h'/\H0 d/\H0 u8/\H0 c/\Q0.R h' [.slice f l g] e/\c5 m n o (O1 vs) d u8 c e=some u) (eX (λ_ _=>0) (aI (eX V0 ⟨0,G,(IntKind.i64.wrap (H-1)),none,0,0,[],rfl,rfl,(Sub.refl _),(by decide),k,(K0 _),(n0g I1 h),aa⟩) ?_)))
  rintro _ _ _ _ i ak ⟨d,u8,c,f,l,g,e,⟨⟩,⟨⟩,q,aA,D,E,p,a⟩
  replace a:c5 m n o i d u8 c e=some u:=a
  obtain _|i:=i
  ·cases a
  rw[c5.eq_2]at a
  obtain⟨rfl,aF⟩:=Sl.len p
  refine ifB a (λab a=>?_) λab a=>?_
  ·refine ld a (Q0.mono q j) λaV ay ap a=>?_
   obtain⟨aW,au,aX,rfl,rfl,ad,ae,af⟩:=U1 ap
   try dsimp only at a
   refine Or.inr (Or.inr (Or.inl (aI (aI (by kernel_rfl) (by kernel_rfl)) ?_)))
   obtain⟨s,Y,a⟩:=B0 a
   obtain⟨aM,W,a⟩:=B0 a
   have ag:H0 s:=M0 W
   refine Or.inl (eX (.val (.int .i64 s)) (aI ?_ ?_))
   ·intro aB aO
    exact Tr.val (W0c _ _ ad _ _ (B3 A C) _ Y) (aI rfl (aI rfl rfl))
   obtain⟨t,Z,a⟩:=B0 a
   obtain⟨aN,X,a⟩:=B0 a
   have ah:H0 t:=M0 X
   refine Or.inl (eX (.val (.int .i64 t)) (aI ?_ ?_))
   ·intro aC aP
    exact Tr.val (W0c _ _ af _ _ (B3 A C) _ Z) (aI rfl (aI rfl rfl))
   refine Or.inl (eX (.agg [.val (.int .i64 s),.val (.int .i64 au),.val (.int .i64 t)]) (aI ?_ ?_))
   ·intro aD aQ
    exact aI rfl (aI rfl rfl)
   refine Or.inr ?_
   refine Or.inr ?_
   refine Or.inl (eX 1 (aI (aI rfl rfl) ?_))
   refine trM a (U01 _ _ _ _ _ p _ _ (D1 ag ae ah)) ?_
   rintro O a aR al ⟨Q,aK,U,rfl,M⟩
   have L:Sub ak al:=M.sub
   have J:=M.r
   obtain⟨rfl,aG⟩:=Sl.len J
   refine aI (aI rfl L) (aI (by first|exact trivial|exact rfl) ?_)
   refine aT ?_
   exact D2 i ⟨(IntKind.i64.wrap (d+1)),u8,c,Q,O.length,U,O,rfl,rfl,(q.trans L),(K0 _),D,E,J,a⟩
  ·obtain rfl:=oJ a
   try dsimp only[Y0,C1]at b
   obtain rfl:=oJ b
   exact⟨([.int .i64 u8,.int .i64 c,.slice f e.length g]),rfl,(l0 D E p),q⟩
theorem g0f(h:Hp)(i:List Value)(l:j0)(K:F1.R h i l)(r:j0×F5×Bool)(a:g02 l=some r):
  Tr Tryz.prog 220 #[.agg i.toArray] h λv h'=>∃(f:List Value) (g:List Value),v = .tuple #[.agg f.toArray,.agg g.toArray,.bool r.2.2]/\F1.R h' f r.1/\G5.R h' g r.2.1/\Sub h h':=by
 obtain⟨H,I,s,ag,w,J,rfl,rfl,d,e,b⟩:=C0 K
 obtain⟨rfl,ad⟩:=Sl.len b
 unfold g02 at a
 dsimp only at a
 refine G2 (args:=[.agg #[.int .i64 H,.int .i64 I,.slice s J.length w]]) (fn:=Tryz.f220) rfl ?_
 refine trM a (e0e _ _ _ (l0 d e b)) ?_
 rintro O a ak F ⟨Z,rfl,m,c⟩
 obtain⟨am,an⟩:=O
 dsimp only at a m
 obtain⟨P,Q,rfl,rfl,j,k⟩:=O03 m
 try dsimp only at a
 refine ifB a (λz a=>?_) λz a=>?_
 ·refine trM a (Q4 _ _ _ (l0 d e (Q0.mono c b))) ?_
  rintro ao a al G ⟨aa,rfl,q⟩
  have M:Sub F G:=q.sub
  have L:=q.r
  obtain⟨S,T,t,ah,x,U,rfl,rfl,A,C,n⟩:=C0 L
  obtain⟨rfl,ae⟩:=Sl.len n
  try dsimp only at a
  obtain rfl:=oJ a
  exact⟨([.int .i64 S,.int .i64 T,.slice t U.length x]),([.int .i64 0,.int .i64 0]),rfl,(l0 A C n),(B3 (by decide) (by decide)),(c.trans M)⟩
 ·refine trM a (M09 _ _ _ (l0 d e (Q0.mono c b)) _ _ (B3 j k)) ?_
  rintro V a aj ac ⟨ab,rfl,o,N⟩
  obtain⟨ap,aq⟩:=V
  dsimp only at a o
  obtain⟨W,X,u,ai,y,Y,rfl,rfl,D,E,p⟩:=C0 o
  obtain⟨rfl,af⟩:=Sl.len p
  try dsimp only at a
  refine Or.inr (Or.inr (Or.inl (aI (aI (by kernel_rfl) (by kernel_rfl)) ?_)))
  refine Or.inr ?_
  refine Or.inr ?_
  refine Or.inl (eX 0 (aI (aI rfl rfl) ?_))
  refine aT ?_
  refine aT ?_
  obtain rfl:=oJ a
  exact⟨([.int .i64 W,.int .i64 X,.slice u Y.length y]),([.int .i64 P,.int .i64 Q]),rfl,(l0 D E p),(B3 j k),(c.trans N)⟩
theorem d04(h:Hp)(C:List Value)(H:j0)(av:F1.R h C H)(r:j0×M9)(b:N7 H=some r):
  Tr Tryz.prog 136 #[.agg C.toArray] h λv h'=>∃(A:List Value) (y:Option Addr) (G z:Nat),v = .tuple #[.agg A.toArray,.slice y G z]/\F1.R h' A r.1/\Y0j.R h' [.slice y G z] r.2/\Sub h h':=by
 obtain⟨aq,ar,U,aS,Z,au,rfl,rfl,ak,al,I⟩:=C0 av
 obtain⟨rfl,aM⟩:=Sl.len I
 unfold N7 at b
 dsimp only at b
 refine G2 (args:=[.agg #[.int .i64 aq,.int .i64 ar,.slice U au.length Z]]) (fn:=Tryz.f136) rfl ?_
 refine trM b (Q4 _ _ _ (l0 ak al I)) ?_
 rintro a1 b a0 t ⟨aE,rfl,Q⟩
 have N:Sub h t:=Q.sub
 have aw:=Q.r
 obtain⟨aC,aD,W,aV,ab,T,rfl,rfl,ao,ap,M⟩:=C0 aw
 obtain⟨rfl,aP⟩:=Sl.len M
 try dsimp only at b
 obtain⟨x,ah,b⟩:=B0 b
 refine eX { vars:=[6],boxes:=[2],owns:=[0],fuel:=true } (eX (λvs os h'=>∃ g d e k u l u8 p f,vs.tail = [.int .i64 g,.int .i64 d,.int .i64 e,.slice k u l]/\os = [p]/\Sub t h'/\H0 g/\H0 d/\H0 e/\Q0.R h' [.slice k u l] u8/\F2 (G5.R h') p f/\T6 (O1 vs) g d e u8 f=some x) (eX (λ_ _=>0) (aI (eX V0 ⟨0,aC,aD,W,T.length,ab,T,[],([]:M9),rfl,rfl,(Sub.refl _),(by decide),ao,ap,M,(show F2 (G5.R t) ([]:List (List Value)) ([]:M9) from trivial),ah⟩) ?_)))
 rintro _ _ _ _ p n aJ ⟨g,d,e,k,u,l,u8,a5,f,⟨⟩,⟨⟩,w,aH,q,s,o,m,a⟩
 replace a:T6 n g d e u8 f=some x:=a
 obtain _|n:=n
 ·cases a
 rw[T6.eq_2]at a
 obtain⟨rfl,aN⟩:=Sl.len o
 refine ifB a (λai a=>?_) λai a=>?_
 ·refine trM a (g0f _ _ _ (l0 q s o)) ?_
  rintro az a aX F ⟨aF,aG,rfl,J,L,c⟩
  obtain⟨a2,a3,a4⟩:=az
  dsimp only at a J L
  obtain⟨aA,aB,V,aU,aa,S,rfl,rfl,am,an,K⟩:=C0 J
  obtain⟨rfl,aO⟩:=Sl.len K
  try dsimp only at a
  obtain⟨i,j,rfl,rfl,D,E⟩:=O03 L
  try dsimp only at a
  refine ifB a (λaj a=>?_) λaj a=>?_
  ·intro aY aK ae
   obtain⟨X,ac,rfl,ax,O,aQ⟩:=W0.out (r:=G5.toRp) ae (F2.up (r:=G5.toRp) c m)
   obtain rfl:=oJ a
   try dsimp only[M2,N2]at b
   obtain rfl:=oJ b
   exact⟨([.int .i64 d,.int .i64 e,.slice k u8.length l]),X,f.length,ac,rfl,(l0 q s (Q0.mono (c.trans O) o)),ax,(((N.trans w).trans c).trans O)⟩
  ·obtain⟨aW,ag,a⟩:=B0 a
   refine aI (Q1 ag (by first|rw[F2.length (F2.up (r:=G5.toRp) c m),F2.length (show F2 (G5.R F) ([[.int .i64 i,.int .i64 j]]:List (List Value)) [(i,j)] from⟨(B3 D E),trivial⟩)]|exact congrArg (·+1) (F2.length (F2.up (r:=G5.toRp) c m)))) ?_
   exact D2 n ⟨(IntKind.i64.wrap (g+1)),aA,aB,V,S.length,aa,S,(p++([[.int .i64 i,.int .i64 j]]:List (List Value))),(f ++ [(i,j)]),rfl,rfl,(w.trans c),(K0 _),am,an,K,(F2.append (F2.up (r:=G5.toRp) c m) (show F2 (G5.R F) ([[.int .i64 i,.int .i64 j]]:List (List Value)) [(i,j)] from⟨(B3 D E),trivial⟩)),a⟩
 ·obtain rfl:=oJ a
  try dsimp only[Y0,C1]at b
  intro aZ aL af
  obtain⟨Y,ad,rfl,ay,P,aR⟩:=W0.out (r:=G5.toRp) af m
  obtain rfl:=oJ b
  exact⟨([.int .i64 d,.int .i64 e,.slice k u8.length l]),Y,f.length,ad,rfl,(l0 q s (Q0.mono P o)),ay,((N.trans w).trans P)⟩
theorem f0e(h:Hp)(g:List Value)(m:j0)(A:F1.R h g m)(r:j0×Bool)(a:u00 m=some r):
  Tr Tryz.prog 157 #[.agg g.toArray] h λv h'=>∃(f:List Value),v = .tuple #[.agg f.toArray,.bool r.2]/\F1.R h' f r.1/\Sub h h':=by
 obtain⟨y,n,s,H,t,z,rfl,rfl,j,k,b⟩:=C0 A
 obtain⟨rfl,F⟩:=Sl.len b
 unfold u00 at a
 dsimp only at a
 refine G2 (args:=[.agg #[.int .i64 y,.int .i64 n,.slice s z.length t]]) (fn:=Tryz.f157) rfl ?_
 refine trM a (Q4 _ _ _ (l0 j k b)) ?_
 rintro K a J x ⟨E,rfl,o⟩
 have d:Sub h x:=o.sub
 have C:=o.r
 obtain⟨p,D,e,I,i,q,rfl,rfl,l,w,c⟩:=C0 C
 obtain⟨rfl,G⟩:=Sl.len c
 try dsimp only at a
 refine trV a (P6 _ _ _ (l0 j k (Q0.mono d b))) λL a=>?_
 refine ifB a (λu a=>?_) λu a=>?_
 ·obtain rfl:=oJ a
  exact⟨([.int .i64 p,.int .i64 D,.slice e q.length i]),rfl,(l0 l w c),d⟩
 ·obtain rfl:=oJ a
  exact⟨([.int .i64 p,.int .i64 (IntKind.i64.wrap (n+1)),.slice e q.length i]),rfl,(l0 l (K0 _) c),d⟩
theorem j5(h:Hp)(j:List Value)(t:j0)(N:F1.R h j t)(k:List Value)(u:N0)(O:I1.R h k u)(r:j0×Bool)(a:R9 t u=some r):
  Tr Tryz.prog 158 #[.agg j.toArray,.agg k.toArray] h λv h'=>∃(i:List Value),v = .tuple #[.agg i.toArray,.bool r.2]/\New F1 h h' i r.1:=by
 obtain⟨H,I,y,aa,C,J,rfl,rfl,d,e,b⟩:=C0 N
 obtain⟨rfl,X⟩:=Sl.len b
 obtain⟨K,L,M,rfl,rfl,l,m,n⟩:=U1 O
 unfold R9 at a
 dsimp only at a
 refine G2 (args:=[.agg #[.int .i64 H,.int .i64 I,.slice y J.length C],.agg #[.int .i64 K,.int .i64 L,.int .i64 M]]) (fn:=Tryz.f158) rfl ?_
 refine trM a (Q4 _ _ _ (l0 d e b)) ?_
 rintro ag a af s ⟨W,rfl,f⟩
 have c:Sub h s:=f.sub
 have P:=f.r
 obtain⟨w,x,z,ab,D,U,rfl,rfl,o,p,Q⟩:=C0 P
 obtain⟨rfl,Y⟩:=Sl.len Q
 try dsimp only at a
 have T:=New.sndI (New.sndI (f))
 refine trV a (P6 _ _ _ (l0 d e (Q0.mono c b))) λah a=>?_
 refine trG a (λq=>P0a _ _ _ (l0 d e (Q0.mono c b)) _ _ (D1 l m n)) λai a=>?_
 refine ifB a (λF a=>?_) λF a=>?_
 ·obtain rfl:=oJ a
  exact⟨([.int .i64 w,.int .i64 x,.slice z U.length D]),rfl,(New.pair (New.int o) (New.pair (New.int p) T))⟩
 ·refine trM a (U01 _ _ _ _ _ (Q0.mono c b) _ _ (D1 l m n)) ?_
  rintro V a ae G ⟨A,ac,E,rfl,g⟩
  have ad:Sub s G:=g.sub
  have S:=g.r
  obtain⟨rfl,Z⟩:=Sl.len S
  refine Or.inr (Or.inr (Or.inl (aI (aI (by kernel_rfl) (by kernel_rfl)) ?_)))
  refine Or.inr ?_
  refine Or.inl (eX 0 (aI (aI rfl rfl) ?_))
  refine aT ?_
  obtain rfl:=oJ a
  exact⟨([.int .i64 w,.int .i64 x,.slice A V.length E]),rfl,(New.pair (New.int o) (New.pair (New.int p) (New.from g c)))⟩
theorem s0a(h:Hp)(G:List Value)(M:j0)(af:F1.R h G M)(r:Z0)(f:U8 M=some r):
  Tr Tryz.prog 156 #[.agg G.toArray] h λv h'=>∃(E:Option Addr) (L F:Nat),v = .slice E L F/\Q0.R h' [.slice E L F] r/\Sub h h':=by
 obtain⟨n,o,P,ar,S,p,rfl,rfl,w,I,y⟩:=C0 af
 obtain⟨rfl,ao⟩:=Sl.len y
 unfold U8 at f
 dsimp only at f
 refine G2 (args:=[.agg #[.int .i64 n,.int .i64 o,.slice P p.length S]]) (fn:=Tryz.f156) rfl ?_
 obtain⟨C,Y,f⟩:=B0 f
 refine eX { vars:=[4],boxes:=[],owns:=[0],fuel:=true } (eX (λvs os h'=>∃ c u i,vs.tail = [.int .i64 c]/\os = [u]/\Sub h h'/\H0 c/\F2 (I1.R h') u i/\C5 o n p (O1 vs) c i=some C) (eX (λ_ _=>0) (aI (eX V0 ⟨0,[],([]:Z0),rfl,rfl,(Sub.refl _),(by decide),(show F2 (I1.R h) ([]:List (List Value)) ([]:Z0) from trivial),Y⟩) ?_)))
 rintro _ u s an ⟨c,aC,i,⟨⟩,⟨⟩,t,x,H,b⟩
 replace b:C5 o n p s c i=some C:=b
 obtain _|s:=s
 ·cases b
 rw[C5.eq_2]at b
 refine trG b (λq=>f01 _ _ _ (l0 w I (Q0.mono t y))) λaA b=>?_
 refine ifB b (λac b=>?_) λac b=>?_
 ·refine trM b (P07 _ _ w) ?_
  rintro O b ax ae ⟨ai,au,aj,rfl,z,A⟩
  obtain⟨rfl,ap⟩:=Sl.len z
  obtain⟨D,Z,b⟩:=B0 b
  refine eX { vars:=[6],boxes:=[],owns:=[0],fuel:=true } (eX (λvs os h'=>∃ d j e,vs.tail = [.int .i64 d]/\os = [j]/\Sub ae h'/\H0 d/\F2 (I1.R h') j e/\j4 O n o p c (O1 vs) d e=some D) (eX (λ_ _=>0) (aI (eX V0 ⟨0,u,i,rfl,rfl,(Sub.refl _),(by decide),(F2.up (r:=I1.toRp) A H),Z⟩) ?_)))
  rintro _ j m K ⟨d,aB,e,⟨⟩,⟨⟩,g,ak,l,a⟩
  replace a:j4 O n o p c m d e=some D:=a
  obtain _|m:=m
  ·cases a
  rw[j4.eq_2]at a
  refine ifB a (λaa a=>?_) λaa a=>?_
  ·refine Or.inl (aI (aI (by kernel_rfl) (by kernel_rfl)) ?_)
   refine ldI a (O0.mono g z) λaz ad a=>?_
   obtain⟨N,X,a⟩:=B0 a
   refine eX (.int .i64 N) (aI (b04 _ _ _ (l0 w I (Q0.mono ((t.trans A).trans g) y)) _ x _ ad _  X) ?_)
   obtain⟨av,V,a⟩:=B0 a
   have al:H0 N:=M0 V
   refine ifB a (λab a=>?_) λab a=>?_
   ·refine ldI a (O0.mono g z) λk J a=>?_
    obtain⟨aw,W,a⟩:=B0 a
    refine aI (Q1 W (by first|rw[F2.length l,F2.length (show F2 (I1.R K) ([[.int .i64 c,.int .i64 k,.int .i64 (-1)]]:List (List Value)) [(c,k,(-1))] from⟨(D1 x J (by decide)),trivial⟩)]|exact congrArg (·+1) (F2.length l))) ?_
    exact D2 m ⟨(IntKind.i64.wrap (d+1)),(j++([[.int .i64 c,.int .i64 k,.int .i64 (-1)]]:List (List Value))),(e ++ [(c,k,(-1))]),rfl,rfl,g,(K0 _),(F2.append l (show F2 (I1.R K) ([[.int .i64 c,.int .i64 k,.int .i64 (-1)]]:List (List Value)) [(c,k,(-1))] from⟨(D1 x J (by decide)),trivial⟩)),a⟩
   ·exact D2 m ⟨(IntKind.i64.wrap (d+1)),j,e,rfl,rfl,g,(K0 _),l,a⟩
  ·obtain rfl:=oJ a
   try dsimp only[Y0,C1]at b
   exact D2 s ⟨(IntKind.i64.wrap (c+1)),j,e,rfl,rfl,((t.trans A).trans g),(K0 _),l,b⟩
 ·obtain rfl:=oJ b
  try dsimp only[Y0,C1]at f
  intro ay am U
  obtain⟨Q,T,rfl,ag,ah,aq⟩:=W0.out (r:=I1.toRp) U H
  obtain rfl:=oJ f
  exact⟨Q,i.length,T,rfl,ag,(t.trans ah)⟩
theorem d05(h:Hp)(b:Option Addr)(j c:Nat)(a:J0)(k:O0.R h [.slice b j c] a)(r:J0)(d:s8 a=some r):
  Tr Tryz.prog 145 #[.slice b j c] h λv h'=>∃(f:Option Addr) (i g:Nat),v = .slice f i g/\New O0 h h' [.slice f i g] r:=by
 obtain⟨rfl,x⟩:=Sl.len k
 unfold s8 at d
 refine G2 (args:=[.slice b a.length c]) (fn:=Tryz.f145) rfl ?_
 refine Or.inl ?_
 intro D n f3
 obtain⟨u,w,rfl,q,s,z⟩:=W0.out (r:=O0.toRp) f3 (show F2 (O0.R h) ([[.slice b a.length c]]:List (List Value)) [a] from⟨k,trivial⟩)
 refine trM d (w0h _ _ _ _ _ q) ?_
 rintro t d E o ⟨l,A,m,rfl,e⟩
 have C:Sub n o:=e.sub
 have p:=e.r
 obtain⟨rfl,y⟩:=Sl.len p
 obtain rfl:=oJ d
 exact⟨l,t.length,m,rfl,(New.from e s)⟩
end Go.Proofs.YtmgikbbmpnbbjaaGreat
