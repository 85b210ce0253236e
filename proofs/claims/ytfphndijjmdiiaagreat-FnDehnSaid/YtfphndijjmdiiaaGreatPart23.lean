/- Texts of the claim, joined: The walks of batch 1 and others. -/
import Derived.Test.YtfphndijjmdiiaaGreatPart18
import Derived.Test.YtfphndijjmdiiaaGreatChecked
import Derived.Test.YtfphndijjmdiiaaGreatH35
import Derived.Test.YtfphndijjmdiiaaGreatH38
import Derived.Test.YtfphndijjmdiiaaGreatEQ
import Derived.Test.YtfphndijjmdiiaaGreatH41
import Derived.Test.YtfphndijjmdiiaaGreatPart17
import Derived.Test.YtfphndijjmdiiaaGreatH36
import Derived.Test.YtfphndijjmdiiaaGreatH45
namespace Go.Proofs.YtfphndijjmdiiaaGreat
open Go.H
set_option linter.unusedVariables false
set_option linter.unusedSimpArgs false
set_option maxRecDepth 10000
theorem B6(h:Hp)(a:Int)(e:H0 a)(b:Int)(f:H0 b)(c:Int)(g:H0 c)(r:Bool)(d:j5 a b c=some r):
  Tr Tryz.prog 36 #[.int .i64 a,.int .i64 b,.int .i64 c] h λv h'=>v = .bool r/\h'=h:=by
 unfold j5 at d
 refine Tr.forget (T3 (args:=[.int .i64 a,.int .i64 b,.int .i64 c]) (fn:=Tryz.f36) rfl ?_)
 obtain rfl:=oJ d
 exact aI rfl (Sub.refl _)
theorem t02(h:Hp)(c:Int)(m:H0 c)(j:Option Addr)(n k:Nat)(f:D0)(g:C0.R h [.slice j n k] f)(r:Bool)(b:T8 c f=some r):
  Tr Tryz.prog 19 #[.int .i64 c,.slice j n k] h λv h'=>v = .bool r/\h'=h:=by
 obtain⟨rfl,A⟩:=Sl.len g
 unfold T8 at b
 refine Tr.forget (T3 (args:=[.int .i64 c,.slice j f.length k]) (fn:=Tryz.f19) rfl ?_)
 obtain⟨l,o,b⟩:=B0 b
 refine eX { vars:=[5],boxes:=[],owns:=[],fuel:=true } (eX (λvs os h'=>∃ e,vs.tail = [.int .i64 e]/\os = []/\Sub h h'/\H0 e/\F8 f c (W1 vs) e=some l) (eX (λ_ _=>0) (aI (eX W0 ⟨0,rfl,rfl,(Sub.refl _),(by decide),o⟩) ?_)))
 rintro _ i z ⟨e,⟨⟩,⟨⟩,d,u,a⟩
 replace a:F8 f c i e=some l:=a
 obtain _|i:=i
 ·cases a
 rw[F8.eq_2]at a
 refine ifB a (λs a=>?_) λs a=>?_
 ·refine Or.inl (aI (aI (by kernel_rfl) (by kernel_rfl)) ?_)
  refine ldI a (C0.mono d g) λD x a=>?_
  refine ldG a (C0.mono d g) λE t a=>?_
  refine trG a (λq=>B6 _ _ t (IntKind.i64.wrap (0-c)) (F0 _) _ m) λF a=>?_
  refine ldG a (C0.mono d g) λG y a=>?_
  refine ldG a (C0.mono d g) λB w a=>?_
  refine ifB a (λp a=>?_) λp a=>?_
  ·obtain rfl:=oJ a
   try dsimp only[P2,Q2]at b
   obtain rfl:=oJ b
   exact aI rfl d
  ·exact U1 i ⟨(IntKind.i64.wrap (e+1)),rfl,rfl,d,(F0 _),a⟩
 ·obtain rfl:=oJ a
  try dsimp only[Z0,D1]at b
  refine trV b (B6 _ _ m 1 (by decide) 3 (by decide)) λC b=>?_
  obtain rfl:=oJ b
  exact aI rfl d
theorem g0a(h:Hp)(g:Option Addr)(l i:Nat)(e:L1)(m:K1.R h [.slice g l i] e)(r:Int)(d:O8 e=some r):
  Tr Tryz.prog 62 #[.slice g l i] h λv h'=>v = .int .i64 r/\h'=h:=by
 obtain⟨rfl,z⟩:=Sl.len m
 unfold O8 at d
 refine Tr.forget (T3 (args:=[.slice g e.length i]) (fn:=Tryz.f62) rfl ?_)
 obtain⟨k,o,d⟩:=B0 d
 refine eX { vars:=[3,4],boxes:=[],owns:=[],fuel:=true } (eX (λvs os h'=>∃ b c,vs.tail = [.int .i64 b,.int .i64 c]/\os = []/\Sub h h'/\H0 b/\H0 c/\F4 e (W1 vs) b c=some k) (eX (λ_ _=>0) (aI (eX W0 ⟨0,0,rfl,rfl,(Sub.refl _),(by decide),(by decide),o⟩) ?_)))
 rintro _ _ f y ⟨b,c,⟨⟩,⟨⟩,j,w,x,a⟩
 replace a:F4 e f b c=some k:=a
 obtain _|f:=f
 ·cases a
 rw[F4.eq_2]at a
 refine ifB a (λp a=>?_) λp a=>?_
 ·refine ld a (K1.mono j m) λq t n a=>?_
  obtain⟨s,B,u,rfl⟩:=Wp.slice_cell n
  obtain⟨rfl,A⟩:=Sl.len n
  exact U1 f ⟨(IntKind.i64.wrap (b+((q.length:Nat):Int))),(IntKind.i64.wrap (c+1)),rfl,rfl,j,(F0 _),(F0 _),a⟩
 ·obtain rfl:=oJ a
  try dsimp only[Z0,D1]at d
  obtain rfl:=oJ d
  exact aI rfl j
theorem s07(h:Hp)(c:Int)(n:H0 c)(i:Option Addr)(o j:Nat)(e:L1)(k:K1.R h [.slice i o j] e)(r:Bool)(b:j00 c e=some r):
  Tr Tryz.prog 44 #[.int .i64 c,.slice i o j] h λv h'=>v = .bool r/\h'=h:=by
 obtain⟨rfl,D⟩:=Sl.len k
 unfold j00 at b
 refine Tr.forget (T3 (args:=[.int .i64 c,.slice i e.length j]) (fn:=Tryz.f44) rfl ?_)
 obtain⟨m,s,b⟩:=B0 b
 refine eX { vars:=[5],boxes:=[],owns:=[],fuel:=true } (eX (λvs os h'=>∃ d,vs.tail = [.int .i64 d]/\os = []/\Sub h h'/\H0 d/\V6 e c (W1 vs) d=some m) (eX (λ_ _=>0) (aI (eX W0 ⟨0,rfl,rfl,(Sub.refl _),(by decide),s⟩) ?_)))
 rintro _ g C ⟨d,⟨⟩,⟨⟩,f,A,a⟩
 replace a:V6 e c g d=some m:=a
 obtain _|g:=g
 ·cases a
 rw[V6.eq_2]at a
 refine ifB a (λt a=>?_) λt a=>?_
 ·refine ld a (K1.mono f k) λH y l a=>?_
  obtain⟨x,F,z,rfl⟩:=Wp.slice_cell l
  obtain⟨rfl,E⟩:=Sl.len l
  refine trV a (t02 _ _ n _ _ _ _ l) λI a=>?_
  refine ifB a (λu a=>?_) λu a=>?_
  ·obtain rfl:=oJ a
   try dsimp only[P2,Q2]at b
   obtain rfl:=oJ b
   exact aI rfl f
  ·exact U1 g ⟨(IntKind.i64.wrap (d+1)),rfl,rfl,f,(F0 _),a⟩
 ·obtain rfl:=oJ a
  try dsimp only[Z0,D1]at b
  refine trV b (B6 _ _ n 1 (by decide) 3 (by decide)) λJ b=>?_
  refine trG b (λq=>g0a _ _ _ _ _ (K1.mono f k)) λw b=>?_
  obtain⟨G,p,b⟩:=B0 b
  have B:H0 w:=C1 p
  obtain rfl:=oJ b
  exact aI rfl f
theorem I5(h:Hp)(k:List Value)(l:l0)(u:Q1.R h k l)(r:Bool)(b:W2 l=some r):
  Tr Tryz.prog 13 #[.agg k.toArray] h λv h'=>v = .bool r/\h'=h:=by
 obtain⟨t,m,F,n,g,rfl,rfl,s,i⟩:=I1 u
 obtain⟨rfl,D⟩:=Sl.len i
 unfold W2 at b
 dsimp only at b
 refine Tr.forget (T3 (args:=[.agg #[.int .i64 t,.slice m g.length n]]) (fn:=Tryz.f13) rfl ?_)
 obtain⟨j,o,b⟩:=B0 b
 refine eX { vars:=[3],boxes:=[],owns:=[],fuel:=true } (eX (λvs os h'=>∃ c,vs.tail = [.int .i64 c]/\os = []/\Sub h h'/\H0 c/\S4 g (W1 vs) c=some j) (eX (λ_ _=>0) (aI (eX W0 ⟨0,rfl,rfl,(Sub.refl _),(by decide),o⟩) ?_)))
 rintro _ e C ⟨c,⟨⟩,⟨⟩,d,z,a⟩
 replace a:S4 g e c=some j:=a
 obtain _|e:=e
 ·cases a
 rw[S4.eq_2]at a
 refine ifB a (λp a=>?_) λp a=>?_
 ·refine ld a (K1.mono d i) λI x f a=>?_
  obtain⟨w,G,y,rfl⟩:=Wp.slice_cell f
  obtain⟨rfl,E⟩:=Sl.len f
  refine Or.inl (aI (aI (by kernel_rfl) (by kernel_rfl)) ?_)
  refine ldG a f λJ A a=>?_
  refine ldG a f λK B a=>?_
  refine ifB a (λq a=>?_) λq a=>?_
  ·obtain rfl:=oJ a
   try dsimp only[P2,Q2]at b
   obtain rfl:=oJ b
   exact aI rfl d
  ·exact U1 e ⟨(IntKind.i64.wrap (c+1)),rfl,rfl,d,(F0 _),a⟩
 ·obtain rfl:=oJ a
  try dsimp only[Z0,D1]at b
  refine trV b (s07 _ _ s _ _ _ _ (K1.mono d i)) λH b=>?_
  obtain rfl:=oJ b
  exact aI rfl d
theorem I03(h:Hp)(a:Int)(e:H0 a)(b:Int)(f:H0 b)(c:Int)(g:H0 c)(r:Bool)(d:E00 a b c=some r):
  Tr Tryz.prog 32 #[.int .i64 a,.int .i64 b,.int .i64 c] h λv h'=>v = .bool r/\h'=h:=by
 unfold E00 at d
 refine Tr.forget (T3 (args:=[.int .i64 a,.int .i64 b,.int .i64 c]) (fn:=Tryz.f32) rfl ?_)
 obtain rfl:=oJ d
 exact aI rfl (Sub.refl _)
theorem W0d(h:Hp)(a:Int)(d:H0 a)(c:Int)(e:H0 c)(r:Bool)(b:i01 a c=some r):
  Tr Tryz.prog 106 #[.int .i64 a,.int .i64 c] h λv h'=>v = .bool r/\h'=h:=by
 unfold i01 at b
 refine Tr.forget (T3 (args:=[.int .i64 a,.int .i64 c]) (fn:=Tryz.f106) rfl ?_)
 refine trG b (λq=>I03 _ _ e (IntKind.i64.wrap (0-a)) (F0 _) _ d) λf b=>?_
 obtain rfl:=oJ b
 exact aI rfl (Sub.refl _)
theorem l03(h:Hp)(a:Int)(d:H0 a)(b:Int)(e:H0 b)(r:Bool)(c:g8 a b=some r):
  Tr Tryz.prog 61 #[.int .i64 a,.int .i64 b] h λv h'=>v = .bool r/\h'=h:=by
 unfold g8 at c
 refine Tr.forget (T3 (args:=[.int .i64 a,.int .i64 b]) (fn:=Tryz.f61) rfl ?_)
 obtain rfl:=oJ c
 exact aI rfl (Sub.refl _)
theorem S0g(h:Hp)(c:Int)(m:H0 c)(i:Option Addr)(o j:Nat)(e:D0)(k:C0.R h [.slice i o j] e)(r:Bool)(b:m02 c e=some r):
  Tr Tryz.prog 77 #[.int .i64 c,.slice i o j] h λv h'=>v = .bool r/\h'=h:=by
 obtain⟨rfl,z⟩:=Sl.len k
 unfold m02 at b
 refine Tr.forget (T3 (args:=[.int .i64 c,.slice i e.length j]) (fn:=Tryz.f77) rfl ?_)
 refine trV b (I03 _ _ m 1 (by decide) 3 (by decide)) λA b=>?_
 refine ifB b (λt b=>?_) λt b=>?_
 ·obtain rfl:=oJ b
  exact aI rfl (Sub.refl _)
 ·obtain⟨l,p,b⟩:=B0 b
  refine eX { vars:=[17],boxes:=[],owns:=[],fuel:=true } (eX (λvs os h'=>∃ d,vs.tail = [.int .i64 d]/\os = []/\Sub h h'/\H0 d/\G8 e c (W1 vs) d=some l) (eX (λ_ _=>0) (aI (eX W0 ⟨0,rfl,rfl,(Sub.refl _),(by decide),p⟩) ?_)))
  rintro _ g y ⟨d,⟨⟩,⟨⟩,f,x,a⟩
  replace a:G8 e c g d=some l:=a
  obtain _|g:=g
  ·cases a
  rw[G8.eq_2]at a
  refine ifB a (λu a=>?_) λu a=>?_
  ·refine ldI a (C0.mono f k) λD n a=>?_
   refine trV a (W0d _ _ m _ n) λE a=>?_
   refine ldG a (C0.mono f k) λB w a=>?_
   refine trG a (λq=>l03 _ _ w _ n) λC a=>?_
   refine ifB a (λs a=>?_) λs a=>?_
   ·obtain rfl:=oJ a
    try dsimp only[P2,Q2]at b
    obtain rfl:=oJ b
    exact aI rfl f
   ·exact U1 g ⟨(IntKind.i64.wrap (d+1)),rfl,rfl,f,(F0 _),a⟩
  ·obtain rfl:=oJ a
   try dsimp only[Z0,D1]at b
   obtain rfl:=oJ b
   exact aI rfl f
theorem h0a(h:Hp)(g:Option Addr)(l i:Nat)(e:L1)(m:K1.R h [.slice g l i] e)(r:Int)(d:Q9 e=some r):
  Tr Tryz.prog 78 #[.slice g l i] h λv h'=>v = .int .i64 r/\h'=h:=by
 obtain⟨rfl,z⟩:=Sl.len m
 unfold Q9 at d
 refine Tr.forget (T3 (args:=[.slice g e.length i]) (fn:=Tryz.f78) rfl ?_)
 obtain⟨k,o,d⟩:=B0 d
 refine eX { vars:=[3,8],boxes:=[],owns:=[],fuel:=true } (eX (λvs os h'=>∃ b c,vs.tail = [.int .i64 b,.int .i64 c]/\os = []/\Sub h h'/\H0 b/\H0 c/\r6 e (W1 vs) b c=some k) (eX (λ_ _=>0) (aI (eX W0 ⟨0,0,rfl,rfl,(Sub.refl _),(by decide),(by decide),o⟩) ?_)))
 rintro _ _ f y ⟨b,c,⟨⟩,⟨⟩,j,w,x,a⟩
 replace a:r6 e f b c=some k:=a
 obtain _|f:=f
 ·cases a
 rw[r6.eq_2]at a
 refine ifB a (λp a=>?_) λp a=>?_
 ·refine ld a (K1.mono j m) λq t n a=>?_
  obtain⟨s,B,u,rfl⟩:=Wp.slice_cell n
  obtain⟨rfl,A⟩:=Sl.len n
  exact U1 f ⟨(IntKind.i64.wrap (b+((q.length:Nat):Int))),(IntKind.i64.wrap (c+1)),rfl,rfl,j,(F0 _),(F0 _),a⟩
 ·obtain rfl:=oJ a
  try dsimp only[Z0,D1]at d
  obtain rfl:=oJ d
  exact aI rfl j
theorem X0d(h:Hp)(c:Int)(n:H0 c)(i:Option Addr)(o j:Nat)(e:L1)(k:K1.R h [.slice i o j] e)(r:Bool)(a:j01 c e=some r):
  Tr Tryz.prog 60 #[.int .i64 c,.slice i o j] h λv h'=>v = .bool r/\h'=h:=by
 obtain⟨rfl,D⟩:=Sl.len k
 unfold j01 at a
 refine Tr.forget (T3 (args:=[.int .i64 c,.slice i e.length j]) (fn:=Tryz.f60) rfl ?_)
 refine trV a (I03 _ _ n 1 (by decide) 3 (by decide)) λH a=>?_
 refine ifB a (λt a=>?_) λt a=>?_
 ·obtain rfl:=oJ a
  exact aI rfl (Sub.refl _)
 ·obtain⟨m,q,a⟩:=B0 a
  refine eX { vars:=[17],boxes:=[],owns:=[],fuel:=true } (eX (λvs os h'=>∃ d,vs.tail = [.int .i64 d]/\os = []/\Sub h h'/\H0 d/\W6 e c (W1 vs) d=some m) (eX (λ_ _=>0) (aI (eX W0 ⟨0,rfl,rfl,(Sub.refl _),(by decide),q⟩) ?_)))
  rintro _ g C ⟨d,⟨⟩,⟨⟩,f,A,b⟩
  replace b:W6 e c g d=some m:=b
  obtain _|g:=g
  ·cases b
  rw[W6.eq_2]at b
  refine ifB b (λu b=>?_) λu b=>?_
  ·refine ld b (K1.mono f k) λI y l b=>?_
   obtain⟨x,F,z,rfl⟩:=Wp.slice_cell l
   obtain⟨rfl,E⟩:=Sl.len l
   refine trV b (S0g _ _ n _ _ _ _ l) λJ b=>?_
   refine ifB b (λs b=>?_) λs b=>?_
   ·obtain rfl:=oJ b
    try dsimp only[P2,Q2]at a
    obtain rfl:=oJ a
    exact aI rfl f
   ·exact U1 g ⟨(IntKind.i64.wrap (d+1)),rfl,rfl,f,(F0 _),b⟩
  ·obtain rfl:=oJ b
   try dsimp only[Z0,D1]at a
   refine trV a (h0a _ _ _ _ _ (K1.mono f k)) λw a=>?_
   obtain⟨G,p,a⟩:=B0 a
   have B:H0 w:=C1 p
   obtain rfl:=oJ a
   exact aI rfl f
theorem e00(h:Hp)(k:List Value)(l:l0)(z:Q1.R h k l)(r:Bool)(b:B5 l=some r):
  Tr Tryz.prog 31 #[.agg k.toArray] h λv h'=>v = .bool r/\h'=h:=by
 obtain⟨y,m,H,n,g,rfl,rfl,u,i⟩:=I1 z
 obtain⟨rfl,F⟩:=Sl.len i
 unfold B5 at b
 dsimp only at b
 refine Tr.forget (T3 (args:=[.agg #[.int .i64 y,.slice m g.length n]]) (fn:=Tryz.f31) rfl ?_)
 refine trV b (X0d _ _ u _ _ _ _ i) λJ b=>?_
 refine ifB b (λs b=>?_) λs b=>?_
 ·obtain rfl:=oJ b
  exact aI rfl (Sub.refl _)
 ·obtain⟨j,o,b⟩:=B0 b
  refine eX { vars:=[14],boxes:=[],owns:=[],fuel:=true } (eX (λvs os h'=>∃ c,vs.tail = [.int .i64 c]/\os = []/\Sub h h'/\H0 c/\T4 g (W1 vs) c=some j) (eX (λ_ _=>0) (aI (eX W0 ⟨0,rfl,rfl,(Sub.refl _),(by decide),o⟩) ?_)))
  rintro _ d E ⟨c,⟨⟩,⟨⟩,f,D,a⟩
  replace a:T4 g d c=some j:=a
  obtain _|d:=d
  ·cases a
  rw[T4.eq_2]at a
  refine ifB a (λt a=>?_) λt a=>?_
  ·refine ld a (K1.mono f i) λM B e a=>?_
   obtain⟨A,I,C,rfl⟩:=Wp.slice_cell e
   obtain⟨rfl,G⟩:=Sl.len e
   refine Or.inl (aI (aI (by kernel_rfl) (by kernel_rfl)) ?_)
   refine ldG a e λN x a=>?_
   refine ldG a e λK w a=>?_
   refine trG a (λq=>l03 _ _ x _ w) λL a=>?_
   refine ifB a (λp a=>?_) λp a=>?_
   ·obtain rfl:=oJ a
    try dsimp only[P2,Q2]at b
    obtain rfl:=oJ b
    exact aI rfl f
   ·exact U1 d ⟨(IntKind.i64.wrap (c+1)),rfl,rfl,f,(F0 _),a⟩
  ·obtain rfl:=oJ a
   try dsimp only[Z0,D1]at b
   obtain rfl:=oJ b
   exact aI rfl f
theorem E02(h:Hp)(b:Int)(f:H0 b)(c:Int)(g:H0 c)(r:Int)(a:w7 b c=some r):
  Tr Tryz.prog 72 #[.int .i64 b,.int .i64 c] h λv h'=>v = .int .i64 r/\h'=h:=by
 unfold w7 at a
 refine Tr.forget (T3 (args:=[.int .i64 b,.int .i64 c]) (fn:=Tryz.f72) rfl ?_)
 refine ifB a (λd a=>?_) λd a=>?_
 ·obtain rfl:=oJ a
  exact aI rfl (Sub.refl _)
 ·refine ifB a (λe a=>?_) λe a=>?_
  ·obtain rfl:=oJ a
   exact aI rfl (Sub.refl _)
  ·obtain rfl:=oJ a
   exact aI rfl (Sub.refl _)
theorem G01(h:Hp)(k:Option Addr)(t l:Nat)(b:D0)(u:C0.R h [.slice k t l] b)(r:D0)(f:S3 b=some r):
  Tr Tryz.prog 37 #[.slice k t l] h λv h'=>∃(o:Option Addr) (s p:Nat),v = .slice o s p/\C0.R h' [.slice o s p] r/\Sub h h':=by
 obtain⟨rfl,H⟩:=Sl.len u
 unfold S3 at f
 refine T3 (args:=[.slice k b.length l]) (fn:=Tryz.f37) rfl ?_
 obtain⟨n,A,f⟩:=B0 f
 refine eX { vars:=[4],boxes:=[],owns:=[0],fuel:=true } (eX (λvs os h'=>∃ c j d,vs.tail = [.int .i64 c]/\os = [j]/\Sub h h'/\H0 c/\F2 (Wp.int.R h') j d/\O3 b (W1 vs) c d=some n) (eX (λ_ _=>0) (aI (eX W0 ⟨(IntKind.i64.wrap (((b.length:Nat):Int)-1)),[],([]:D0),rfl,rfl,(Sub.refl _),(F0 _),(show F2 (Wp.int.R h) ([]:List (List Value)) ([]:D0) from trivial),A⟩) ?_)))
 rintro _ j i q ⟨c,L,d,⟨⟩,⟨⟩,m,E,g,a⟩
 replace a:O3 b i c d=some n:=a
 obtain _|i:=i
 ·cases a
 rw[O3.eq_2]at a
 refine ifB a (λB a=>?_) λB a=>?_
 ·refine ldI a (C0.mono m u) λe F a=>?_
  obtain⟨J,z,a⟩:=B0 a
  refine aI (T0 z (by first|rw[F2.length g,F2.length (show F2 (Wp.int.R q) ([[.int .i64 (IntKind.i64.wrap (0-e))]]:List (List Value)) [(IntKind.i64.wrap (0-e))] from⟨⟨rfl,(F0 _)⟩,trivial⟩)]|exact congrArg (·+1) (F2.length g))) ?_
  exact U1 i ⟨(IntKind.i64.wrap (c-1)),(j++([[.int .i64 (IntKind.i64.wrap (0-e))]]:List (List Value))),(d ++ [(IntKind.i64.wrap (0-e))]),rfl,rfl,m,(F0 _),(F2.append g (show F2 (Wp.int.R q) ([[.int .i64 (IntKind.i64.wrap (0-e))]]:List (List Value)) [(IntKind.i64.wrap (0-e))] from⟨⟨rfl,(F0 _)⟩,trivial⟩)),a⟩
 ·obtain rfl:=oJ a
  try dsimp only[Z0,D1]at f
  intro K G y
  obtain⟨w,x,rfl,C,D,I⟩:=U0.out (r:=Wp.int.toRp) y g
  obtain rfl:=oJ f
  exact⟨w,d.length,x,rfl,C,(m.trans D)⟩
theorem C6(h:Hp)(n:Option Addr)(z o:Nat)(l:D0)(m:C0.R h [.slice n z o] l)(r:D0)(d:T1 l=some r):
  Tr Tryz.prog 18 #[.slice n z o] h λv h'=>∃(s:Option Addr) (y t:Nat),v = .slice s y t/\C0.R h' [.slice s y t] r/\Sub h h':=by
 obtain⟨rfl,ac⟩:=Sl.len m
 unfold T1 at d
 refine T3 (args:=[.slice n l.length o]) (fn:=Tryz.f18) rfl ?_
 obtain⟨p,J,d⟩:=B0 d
 refine eX { vars:=[4],boxes:=[],owns:=[0],fuel:=true } (eX (λvs os h'=>∃ g c i,vs.tail = [.int .i64 g]/\os = [c]/\Sub h h'/\H0 g/\F2 (Wp.int.R h') c i/\C3 l (W1 vs) g i=some p) (eX (λ_ _=>0) (aI (eX W0 ⟨0,[],([]:D0),rfl,rfl,(Sub.refl _),(by decide),(show F2 (Wp.int.R h) ([]:List (List Value)) ([]:D0) from trivial),J⟩) ?_)))
 rintro _ c k e ⟨g,ao,i,⟨⟩,⟨⟩,f,V,b,a⟩
 replace a:C3 l k g i=some p:=a
 obtain _|k:=k
 ·cases a
 rw[C3.eq_2]at a
 refine ifB a (λL a=>?_) λL a=>?_
 ·obtain⟨M,D,a⟩:=B0 a
  obtain rfl:c.length=M:=(F2.length b).trans (oJ D)
  obtain⟨ah,U,a⟩:=B0 a
  refine Or.inl (aI (aI (by kernel_rfl) (by kernel_rfl)) ?_)
  refine ldG a (C0.mono f m) λan aa a=>?_
  obtain⟨aj,H,a⟩:=B0 a
  obtain⟨S,u,N⟩:=T04 b H (t0d e)
  refine aI (λq=>(u q).1) ?_
  obtain⟨rfl,W⟩:=N
  refine eX _ (aI (λq=>(u q).2) ?_)
  refine ldG a (C0.mono f m) λak X a=>?_
  obtain⟨al,I,a⟩:=B0 a
  obtain⟨T,w,O⟩:=T04 b I (t0d e)
  refine aI (λq=>(w q).1) ?_
  obtain⟨rfl,Y⟩:=O
  refine eX _ (aI (λq=>(w q).2) ?_)
  refine ldG a (C0.mono f m) λam Z a=>?_
  refine ifB a (λK a=>?_) λK a=>?_
  ·obtain⟨ae,E,a⟩:=B0 a
   refine aI (by have:=C1 E;have:=F2.length b;omega) ?_
   exact U1 k ⟨(IntKind.i64.wrap (g+1)),(c.take (IntKind.i64.wrap (((c.length:Nat):Int)-1)).toNat),(i.take (IntKind.i64.wrap (((c.length:Nat):Int)-1)).toNat),rfl,rfl,f,(F0 _),(F2.take (IntKind.i64.wrap (((c.length:Nat):Int)-1)).toNat b),a⟩
  ·refine ldI a (C0.mono f m) λj x a=>?_
   obtain⟨af,F,a⟩:=B0 a
   refine aI (T0 F (by first|rw[F2.length b,F2.length (show F2 (Wp.int.R e) ([[.int .i64 j]]:List (List Value)) [j] from⟨⟨rfl,x⟩,trivial⟩)]|exact congrArg (·+1) (F2.length b))) ?_
   exact U1 k ⟨(IntKind.i64.wrap (g+1)),(c++([[.int .i64 j]]:List (List Value))),(i ++ [j]),rfl,rfl,f,(F0 _),(F2.append b (show F2 (Wp.int.R e) ([[.int .i64 j]]:List (List Value)) [j] from⟨⟨rfl,x⟩,trivial⟩)),a⟩
 ·obtain rfl:=oJ a
  try dsimp only[Z0,D1]at d
  obtain⟨ag,G,d⟩:=B0 d
  refine aI (T0 G (by first|rw[F2.length (show F2 (Wp.int.R e) ([]:List (List Value)) ([]:D0) from trivial),F2.length b]|exact congrArg (·+0) (F2.length (show F2 (Wp.int.R e) ([]:List (List Value)) ([]:D0) from trivial)))) ?_
  intro ai ab C
  obtain⟨A,B,rfl,P,Q,ad⟩:=U0.out (r:=Wp.int.toRp) C (F2.append (show F2 (Wp.int.R e) ([]:List (List Value)) ([]:D0) from trivial) b)
  obtain rfl:=oJ d
  exact⟨A,((([]:D0)++i)).length,B,rfl,P,(f.trans Q)⟩
theorem D6(h:Hp)(c:Option Addr)(n e:Nat)(g:D0)(p:C0.R h [.slice c n e] g)(d:Option Addr)(o f:Nat)(i:D0)(q:C0.R h [.slice d o f] i)(r:D0)(a:C2 g i=some r):
  Tr Tryz.prog 38 #[.slice c n e,.slice d o f] h λv h'=>∃(j:Option Addr) (m k:Nat),v = .slice j m k/\C0.R h' [.slice j m k] r/\Sub h h':=by
 obtain⟨rfl,L⟩:=Sl.len p
 obtain⟨rfl,M⟩:=Sl.len q
 unfold C2 at a
 refine T3 (args:=[.slice c g.length e,.slice d i.length f]) (fn:=Tryz.f38) rfl ?_
 obtain⟨E,w,b⟩:=Sl.rows (r:=Wp.int.toRp) p
 refine eX E (aI w ?_)
 obtain⟨Q,z,a⟩:=B0 a
 refine aI (T0 z (by first|rw[F2.length (show F2 (Wp.int.R h) ([]:List (List Value)) ([]:D0) from trivial),F2.length b]|exact congrArg (·+1) (F2.length (show F2 (Wp.int.R h) ([]:List (List Value)) ([]:D0) from trivial)))) ?_
 obtain⟨F,x,l⟩:=Sl.rows (r:=Wp.int.toRp) q
 refine eX F (aI x ?_)
 obtain⟨S,A,a⟩:=B0 a
 refine aI (T0 A (by first|rw[F2.length (F2.append (show F2 (Wp.int.R h) ([]:List (List Value)) ([]:D0) from trivial) b),F2.length l]|exact congrArg (·+1) (F2.length (F2.append (show F2 (Wp.int.R h) ([]:List (List Value)) ([]:D0) from trivial) b)))) ?_
 refine Or.inl ?_
 intro U K y
 obtain⟨H,I,rfl,B,D,O⟩:=U0.out (r:=Wp.int.toRp) y (F2.append (F2.append (show F2 (Wp.int.R h) ([]:List (List Value)) ([]:D0) from trivial) b) l)
 refine trM a (C6 _ _ _ _ _ B) ?_
 rintro G a T J ⟨t,P,u,rfl,s,C⟩
 obtain⟨rfl,N⟩:=Sl.len s
 obtain rfl:=oJ a
 exact⟨t,G.length,u,rfl,s,(D.trans C)⟩
theorem Y03(h:Hp)(b:Option Addr)(n d:Nat)(f:D0)(p:C0.R h [.slice b n d] f)(c:Option Addr)(o e:Nat)(g:D0)(i:C0.R h [.slice c o e] g)(r:D0)(a:L7 f g=some r):
  Tr Tryz.prog 39 #[.slice b n d,.slice c o e] h λv h'=>∃(k:Option Addr) (m l:Nat),v = .slice k m l/\C0.R h' [.slice k m l] r/\Sub h h':=by
 obtain⟨rfl,H⟩:=Sl.len p
 obtain⟨rfl,I⟩:=Sl.len i
 unfold L7 at a
 refine T3 (args:=[.slice b f.length d,.slice c g.length e]) (fn:=Tryz.f39) rfl ?_
 refine trM a (G01 _ _ _ _ _ i) ?_
 rintro T a P E ⟨A,M,C,rfl,q,j⟩
 obtain⟨rfl,J⟩:=Sl.len q
 refine trM a (D6 _ _ _ _ _ q _ _ _ _ (C0.mono j p)) ?_
 rintro U a Q F ⟨B,N,D,rfl,s,u⟩
 obtain⟨rfl,K⟩:=Sl.len s
 refine trM a (D6 _ _ _ _ _ s _ _ _ _ (C0.mono (j.trans u) i)) ?_
 rintro z a S G ⟨w,O,x,rfl,t,y⟩
 obtain⟨rfl,L⟩:=Sl.len t
 obtain rfl:=oJ a
 exact⟨w,z.length,x,rfl,t,((j.trans u).trans y)⟩
theorem A06(h:Hp)(A:List Value)(D:l0)(ag:Q1.R h A D)(n:Option Addr)(C o:Nat)(j:C01)(E:b08.R h [.slice n C o] j)(r:D0)(e:K9 D j=some r):
  Tr Tryz.prog 8 #[.agg A.toArray,.slice n C o] h λv h'=>∃(y:Option Addr) (B z:Nat),v = .slice y B z/\C0.R h' [.slice y B z] r/\Sub h h':=by
 obtain⟨s,O,aW,U,l,rfl,rfl,ae,t⟩:=I1 ag
 obtain⟨rfl,aK⟩:=Sl.len t
 obtain⟨rfl,aL⟩:=Sl.len E
 unfold K9 at e
 dsimp only at e
 refine T3 (args:=[.agg #[.int .i64 s,.slice O l.length U],.slice n j.length o]) (fn:=Tryz.f8) rfl ?_
 obtain⟨x,aa,e⟩:=B0 e
 refine eX { vars:=[5,6],boxes:=[],owns:=[],fuel:=true,pubs:=[5,9] } (eX (λvs os h'=>∃(g:Option Addr) (p i:Nat) (d:D0) (b:Int),vs.tail = [.slice g p i,.int .i64 b]/\os = []/\Sub h h'/\C0.R h' [.slice g p i] d/\H0 b/\N4 j s l (W1 vs) d b=some x) (eX (λ_ _=>0) ?_))
 intro a4 aD f3
 obtain⟨S,X,rfl,ai,al,aV⟩:=U0.out (r:=Wp.int.toRp) f3 (show F2 (Wp.int.R h) ([]:List (List Value)) ([]:D0) from trivial)
 refine aI (eX W0 ⟨S,(([]:D0)).length,X,([]:D0),0,rfl,rfl,al,ai,(by decide),aa⟩) ?_
 rintro _ _ f aJ ⟨g,p,i,d,b,⟨⟩,⟨⟩,c,k,aA,a⟩
 replace a:N4 j s l f d b=some x:=a
 obtain _|f:=f
 ·cases a
 rw[N4.eq_2]at a
 obtain⟨rfl,aM⟩:=Sl.len k
 refine trG a (λq=>I5 _ _ _ (M0 ae (K1.mono c t))) λba a=>?_
 refine ifB a (λab a=>?_) λab a=>?_
 ·obtain⟨bb,Z,a⟩:=B0 a
  obtain⟨T,ar,Y,ah⟩:=Sl.getI (r:=I0.toRp) (b08.mono c E) Z (by decide)
  refine aI T ?_
  obtain⟨am,aX,av,bc,bd,be,rfl,rfl,u,af,aB⟩:=L0k ah
  obtain⟨rfl,aN⟩:=Sl.len u
  try dsimp only at a
  refine eX _ (aI Y ?_)
  refine trV a (B6 _ _ af 0 (by decide) (IntKind.i64.wrap (((l.length:Nat):Int)-1)) (F0 _)) λbf a=>?_
  refine ifB a (λac a=>?_) λac a=>?_
  ·refine ld a (K1.mono c t) λbg au m a=>?_
   obtain⟨an,aY,aw,rfl⟩:=Wp.slice_cell m
   obtain⟨rfl,aO⟩:=Sl.len m
   refine ifB a (λad a=>?_) λad a=>?_
   ·refine trM a (G01 _ _ _ _ _ m) ?_
    rintro bh a a5 aC ⟨ao,aZ,ax,rfl,F,w⟩
    obtain⟨rfl,aP⟩:=Sl.len F
    refine trM a (Y03 _ _ _ _ _ F _ _ _ _ (C0.mono w u)) ?_
    rintro bi a a6 aE ⟨ap,a0,ay,rfl,G,K⟩
    obtain⟨rfl,aQ⟩:=Sl.len G
    refine trM a (D6 _ _ _ _ _ (C0.mono (w.trans K) k) _ _ _ _ G) ?_
    rintro M a a7 aF ⟨P,a1,V,rfl,H,aj⟩
    obtain⟨rfl,aR⟩:=Sl.len H
    exact U1 f ⟨P,M.length,V,M,(IntKind.i64.wrap (b+1)),rfl,rfl,(((c.trans w).trans K).trans aj),H,(F0 _),a⟩
   ·refine trM a (Y03 _ _ _ _ _ m _ _ _ _ u) ?_
    rintro bj a a8 aG ⟨aq,a2,az,rfl,I,L⟩
    obtain⟨rfl,aS⟩:=Sl.len I
    refine trM a (D6 _ _ _ _ _ (C0.mono L k) _ _ _ _ I) ?_
    rintro N a a9 aH ⟨Q,a3,W,rfl,J,ak⟩
    obtain⟨rfl,aU⟩:=Sl.len J
    exact U1 f ⟨Q,N.length,W,N,(IntKind.i64.wrap (b+1)),rfl,rfl,((c.trans L).trans ak),J,(F0 _),a⟩
  ·exact U1 f ⟨g,d.length,i,d,(IntKind.i64.wrap (b+1)),rfl,rfl,c,k,(F0 _),a⟩
 ·obtain rfl:=oJ a
  try dsimp only[Z0,D1]at e
  obtain rfl:=oJ e
  exact⟨g,d.length,i,rfl,k,c⟩
theorem H01(h:Hp)(m:Option Addr)(y n:Nat)(e:D0)(z:C0.R h [.slice m y n] e)(r:D0)(d:d7 e=some r):
  Tr Tryz.prog 33 #[.slice m y n] h λv h'=>∃(s:Option Addr) (x t:Nat),v = .slice s x t/\New C0 h h' [.slice s x t] r:=by
 obtain⟨rfl,J⟩:=Sl.len z
 unfold d7 at d
 refine T3 (args:=[.slice m e.length n]) (fn:=Tryz.f33) rfl ?_
 obtain⟨L,C,d⟩:=B0 d
 refine aI (C1 C) ?_
 obtain⟨q,E,d⟩:=B0 d
 refine eX { vars:=[4],boxes:=[],owns:=[0],fuel:=true } (eX (λvs os h'=>∃ f l g,vs.tail = [.int .i64 f]/\os = [l]/\Sub h h'/\H0 f/\F2 (Wp.int.R h') l g/\S6 e (W1 vs) f g=some q) (eX (λ_ _=>0) (aI (eX W0 ⟨(IntKind.i64.wrap (((e.length:Nat):Int)-1)),(List.replicate (0:Int).toNat ([.int .i64 0]:List Value)),(List.replicate (0:Int).toNat (0:Int)),rfl,rfl,(Sub.refl _),(F0 _),(F2.rep (p:=Wp.int.R h) (a:=[.int .i64 0]) (b:=0) ⟨rfl,(by decide)⟩ ((0:Int).toNat)),E⟩) ?_)))
 rintro _ l k w ⟨f,Q,g,⟨⟩,⟨⟩,o,G,j,c⟩
 replace c:S6 e k f g=some q:=c
 obtain _|k:=k
 ·cases c
 rw[S6.eq_2]at c
 refine ifB c (λF c=>?_) λF c=>?_
 ·refine ldI c (C0.mono o z) λi H c=>?_
  obtain⟨M,D,c⟩:=B0 c
  refine aI (T0 D (by first|rw[F2.length j,F2.length (show F2 (Wp.int.R w) ([[.int .i64 (IntKind.i64.wrap (0-i))]]:List (List Value)) [(IntKind.i64.wrap (0-i))] from⟨⟨rfl,(F0 _)⟩,trivial⟩)]|exact congrArg (·+1) (F2.length j))) ?_
  exact U1 k ⟨(IntKind.i64.wrap (f-1)),(l++([[.int .i64 (IntKind.i64.wrap (0-i))]]:List (List Value))),(g ++ [(IntKind.i64.wrap (0-i))]),rfl,rfl,o,(F0 _),(F2.append j (show F2 (Wp.int.R w) ([[.int .i64 (IntKind.i64.wrap (0-i))]]:List (List Value)) [(IntKind.i64.wrap (0-i))] from⟨⟨rfl,(F0 _)⟩,trivial⟩)),c⟩
 ·obtain rfl:=oJ c
  try dsimp only[Z0,D1]at d
  intro P I u
  obtain⟨A,B,rfl,N,O,K⟩:=U0.out (r:=Wp.int.toRp) u j
  obtain rfl:=oJ d
  exact⟨A,g.length,B,rfl,(New.from (U0.newPlain (r:=Wp.int) u j (U04 _)) o)⟩
theorem m03(h:Hp)(s:Option Addr)(H t:Nat)(m:L1)(I:K1.R h [.slice s H t] m)(r:D0)(k:d9 m=some r):
  Tr Tryz.prog 35 #[.slice s H t] h λv h'=>∃(C:Option Addr) (G D:Nat),v = .slice C G D/\New C0 h h' [.slice C G D] r:=by
 obtain⟨rfl,ao⟩:=Sl.len I
 unfold d9 at k
 refine T3 (args:=[.slice s m.length t]) (fn:=Tryz.f35) rfl ?_
 obtain⟨A,T,k⟩:=B0 k
 refine eX { vars:=[11],boxes:=[],owns:=[0],fuel:=true } (eX (λvs os h'=>∃ g p i,vs.tail = [.int .i64 g]/\os = [p]/\Sub h h'/\H0 g/\F2 (Wp.int.R h') p i/\M7 m (W1 vs) g i=some A) (eX (λ_ _=>0) (aI (eX W0 ⟨0,[],([]:D0),rfl,rfl,(Sub.refl _),(by decide),(show F2 (Wp.int.R h) ([]:List (List Value)) ([]:D0) from trivial),T⟩) ?_)))
 rintro _ p n Z ⟨g,aF,i,⟨⟩,⟨⟩,z,al,u,b⟩
 replace b:M7 m n g i=some A:=b
 obtain _|n:=n
 ·cases b
 rw[M7.eq_2]at b
 refine ifB b (λX b=>?_) λX b=>?_
 ·refine ld b (K1.mono z I) λJ ag y b=>?_
  obtain⟨ae,ar,ah,rfl⟩:=Wp.slice_cell y
  obtain⟨rfl,ap⟩:=Sl.len y
  obtain⟨B,U,b⟩:=B0 b
  refine eX { vars:=[17],boxes:=[],owns:=[0],fuel:=true } (eX (λvs os h'=>∃ f c e,vs.tail = [.int .i64 f]/\os = [c]/\Sub Z h'/\H0 f/\F2 (Wp.int.R h') c e/\K6 J (W1 vs) f e=some B) (eX (λ_ _=>0) (aI (eX W0 ⟨0,p,i,rfl,rfl,(Sub.refl _),(by decide),u,U⟩) ?_)))
  rintro _ c l x ⟨f,aE,e,⟨⟩,⟨⟩,o,am,d,a⟩
  replace a:K6 J l f e=some B:=a
  obtain _|l:=l
  ·cases a
  rw[K6.eq_2]at a
  refine ifB a (λV a=>?_) λV a=>?_
  ·refine ldI a (C0.mono o y) λj w a=>?_
   obtain⟨aa,M,a⟩:=B0 a
   obtain rfl:c.length=aa:=(F2.length d).trans (oJ M)
   obtain⟨au,ai,a⟩:=B0 a
   obtain⟨ab,N,a⟩:=B0 a
   obtain rfl:c.length=ab:=(F2.length d).trans (oJ N)
   obtain⟨av,aj,a⟩:=B0 a
   obtain⟨aC,S,a⟩:=B0 a
   obtain⟨af,E,ad⟩:=T04 d S (t0d x)
   refine aI (λq=>(E q).1) ?_
   obtain⟨rfl,Y⟩:=ad
   refine eX _ (aI (λq=>(E q).2) ?_)
   refine trG a (λq=>l03 _ _ Y _ w) λaD a=>?_
   refine ifB a (λW a=>?_) λW a=>?_
   ·obtain⟨ac,O,a⟩:=B0 a
    obtain rfl:c.length=ac:=(F2.length d).trans (oJ O)
    obtain⟨aw,ak,a⟩:=B0 a
    obtain⟨ax,P,a⟩:=B0 a
    refine aI (by have:=C1 P;have:=F2.length d;omega) ?_
    exact U1 l ⟨(IntKind.i64.wrap (f+1)),(c.take (IntKind.i64.wrap (((c.length:Nat):Int)-1)).toNat),(e.take (IntKind.i64.wrap (((c.length:Nat):Int)-1)).toNat),rfl,rfl,o,(F0 _),(F2.take (IntKind.i64.wrap (((c.length:Nat):Int)-1)).toNat d),a⟩
   ·obtain⟨ay,Q,a⟩:=B0 a
    refine aI (T0 Q (by first|rw[F2.length d,F2.length (show F2 (Wp.int.R x) ([[.int .i64 j]]:List (List Value)) [j] from⟨⟨rfl,w⟩,trivial⟩)]|exact congrArg (·+1) (F2.length d))) ?_
    exact U1 l ⟨(IntKind.i64.wrap (f+1)),(c++([[.int .i64 j]]:List (List Value))),(e ++ [j]),rfl,rfl,o,(F0 _),(F2.append d (show F2 (Wp.int.R x) ([[.int .i64 j]]:List (List Value)) [j] from⟨⟨rfl,w⟩,trivial⟩)),a⟩
  ·obtain rfl:=oJ a
   try dsimp only[Z0,D1]at b
   exact U1 n ⟨(IntKind.i64.wrap (g+1)),c,e,rfl,rfl,(z.trans o),(F0 _),d,b⟩
 ·obtain rfl:=oJ b
  try dsimp only[Z0,D1]at k
  intro aB an F
  obtain⟨K,L,rfl,az,aA,aq⟩:=U0.out (r:=Wp.int.toRp) F u
  obtain rfl:=oJ k
  exact⟨K,i.length,L,rfl,(New.from (U0.newPlain (r:=Wp.int) F u (U04 _)) z)⟩
theorem Z03(h:Hp)(d:Option Addr)(p f:Nat)(b:D0)(s:C0.R h [.slice d p f] b)(e:Option Addr)(q g:Nat)(c:D0)(i:C0.R h [.slice e q g] c)(r:D0)(a:N7 b c=some r):
  Tr Tryz.prog 34 #[.slice d p f,.slice e q g] h λv h'=>∃(l:Option Addr) (o m:Nat),v = .slice l o m/\New C0 h h' [.slice l o m] r:=by
 obtain⟨rfl,K⟩:=Sl.len s
 obtain⟨rfl,L⟩:=Sl.len i
 unfold N7 at a
 refine T3 (args:=[.slice d b.length f,.slice e c.length g]) (fn:=Tryz.f34) rfl ?_
 refine trM a (H01 _ _ _ _ _ i) ?_
 rintro w a U n ⟨x,P,z,rfl,u⟩
 have j:Sub h n:=u.sub
 have t:=u.r
 obtain⟨rfl,M⟩:=Sl.len t
 refine Or.inl ?_
 intro V C B
 obtain⟨I,J,rfl,F,G,O⟩:=U0.out (r:=C0.toRp) B (show F2 (C0.R n) ([[.slice x w.length z],[.slice d b.length f],[.slice e c.length g]]:List (List Value)) [w,b,c] from⟨t,⟨(C0.mono j s),⟨(C0.mono j i),trivial⟩⟩⟩)
 refine trM a (m03 _ _ _ _ _ F) ?_
 rintro H a T D ⟨y,Q,A,rfl,k⟩
 have S:Sub C D:=k.sub
 have E:=k.r
 obtain⟨rfl,N⟩:=Sl.len E
 obtain rfl:=oJ a
 exact⟨y,H.length,A,rfl,(New.from k (j.trans G))⟩
theorem a0d(h:Hp)(N:List Value)(X:l0)(aG:Q1.R h N X)(t:Option Addr)(V x:Nat)(C:C01)(Y:b08.R h [.slice t V x] C)(r:D0)(b:P00 X C=some r):
  Tr Tryz.prog 6 #[.agg N.toArray,.slice t V x] h λv h'=>∃(L:Option Addr) (U M:Nat),v = .slice L U M/\New C0 h h' [.slice L U M] r:=by
 obtain⟨aE,ad,bm,ah,q,rfl,rfl,aB,D⟩:=I1 aG
 obtain⟨rfl,bb⟩:=Sl.len D
 obtain⟨rfl,bc⟩:=Sl.len Y
 unfold P00 at b
 dsimp only at b
 refine T3 (args:=[.agg #[.int .i64 aE,.slice ad q.length ah],.slice t C.length x]) (fn:=Tryz.f6) rfl ?_
 refine trV b (e00 _ _ _ (M0 aB D)) λbG b=>?_
 refine ifB b (λaz b=>?_) λaz b=>?_
 ·intro bE ba P
  obtain⟨af,aj,rfl,bx,bA,bl⟩:=U0.out (r:=Wp.int.toRp) P (show F2 (Wp.int.R h) ([]:List (List Value)) ([]:D0) from trivial)
  obtain rfl:=oJ b
  exact⟨af,(([]:D0)).length,aj,rfl,(U0.newPlain (r:=Wp.int) P (show F2 (Wp.int.R h) ([]:List (List Value)) ([]:D0) from trivial) (U04 _))⟩
 ·obtain⟨ac,au,b⟩:=B0 b
  obtain⟨aF,aN,al,ao⟩:=Sl.cutI (r:=I0.toRp) Y au
  refine aI aF (eX aN (aI al ?_))
  intro aO aA _
  obtain⟨aY,a6,rfl,aa⟩:=ao aO aA
  have bj:=(Sl.len aa).2
  obtain⟨K,av,b⟩:=B0 b
  refine eX { vars:=[20],boxes:=[],owns:=[0],fuel:=true } (eX (λvs os h'=>∃ g i d,vs.tail = [.int .i64 g]/\os = [i]/\Sub h h'/\H0 g/\F2 (C0.R h') i d/\(∃ Bs,F3 (C0.W h') i d Bs/\R4 h Bs.flatten)/\A5 ac q (W1 vs) g d=some K) (eX (λ_ _=>0) (aI (eX W0 ⟨0,[],([]:L1),rfl,rfl,(Sub.refl _),(by decide),(show F2 (C0.R h) ([]:List (List Value)) ([]:L1) from trivial),⟨_,(show F3 (C0.W h) [] [] [] from trivial),(R4.nil h)⟩,av⟩) ?_)))
  rintro _ i j Q ⟨g,bO,d,⟨⟩,⟨⟩,c,a8,e,⟨a0,k,p⟩,a⟩
  replace a:A5 ac q j g d=some K:=a
  obtain _|j:=j
  ·cases a
  rw[A5.eq_2]at a
  refine ifB a (λaw a=>?_) λaw a=>?_
  ·obtain⟨bH,ar,a⟩:=B0 a
   obtain⟨ag,a1,ak,aH⟩:=Sl.getI (r:=I0.toRp) (b08.mono c aa) ar (by decide)
   refine aI ag ?_
   obtain⟨aV,bn,a3,bI,bJ,bK,rfl,rfl,E,aC,a9⟩:=L0k aH
   obtain⟨rfl,bd⟩:=Sl.len E
   try dsimp only at a
   refine eX _ (aI ak ?_)
   refine trV a (I03 _ _ aC 0 (by decide) (IntKind.i64.wrap (((q.length:Nat):Int)-1)) (F0 _)) λbL a=>?_
   refine ifB a (λax a=>?_) λax a=>?_
   ·exact U1 j ⟨(IntKind.i64.wrap (g+1)),i,d,rfl,rfl,c,(F0 _),e,⟨_,k,p⟩,a⟩
   ·refine ld a (K1.mono c D) λbM a2 s a=>?_
    obtain⟨aW,bo,a4,rfl⟩:=Wp.slice_cell s
    obtain⟨rfl,be⟩:=Sl.len s
    refine ifB a (λay a=>?_) λay a=>?_
    ·refine trM a (H01 _ _ _ _ _ s) ?_
     rintro bN a bB S ⟨aX,bp,a5,rfl,ab⟩
     have f:Sub Q S:=ab.sub
     have Z:=ab.r
     obtain⟨rfl,bf⟩:=Sl.len Z
     refine trM a (Z03 _ _ _ _ _ Z _ _ _ _ (C0.mono f E)) ?_
     rintro l a bC A ⟨u,bq,y,rfl,H⟩
     have n:Sub S A:=H.sub
     have F:=H.r
     obtain⟨rfl,bg⟩:=Sl.len F
     obtain⟨bu,ap,a⟩:=B0 a
     refine aI (T0 ap (by first|rw[F2.length (F2.up (r:=C0.toRp) (f.trans n) e),F2.length (show F2 (C0.R A) ([[.slice u l.length y]]:List (List Value)) [l] from⟨F,trivial⟩)]|exact congrArg (·+1) (F2.length (F2.up (r:=C0.toRp) (f.trans n) e)))) ?_
     obtain⟨aS,aP,am,_⟩:=H
     exact U1 j ⟨(IntKind.i64.wrap (g+1)),(i++([[.slice u l.length y]]:List (List Value))),(d ++ [l]),rfl,rfl,((c.trans f).trans n),(F0 _),(F2.append (F2.up (r:=C0.toRp) (f.trans n) e) (show F2 (C0.R A) ([[.slice u l.length y]]:List (List Value)) [l] from⟨F,trivial⟩)),⟨_,(F3.snoc aP (M2 k (f.trans n))),(V0 (M2 k f) (c.trans f) p am)⟩,a⟩
    ·refine trM a (Z03 _ _ _ _ _ s _ _ _ _ E) ?_
     rintro m a bD B ⟨w,br,z,rfl,I⟩
     have o:Sub Q B:=I.sub
     have G:=I.r
     obtain⟨rfl,bh⟩:=Sl.len G
     obtain⟨bv,aq,a⟩:=B0 a
     refine aI (T0 aq (by first|rw[F2.length (F2.up (r:=C0.toRp) o e),F2.length (show F2 (C0.R B) ([[.slice w m.length z]]:List (List Value)) [m] from⟨G,trivial⟩)]|exact congrArg (·+1) (F2.length (F2.up (r:=C0.toRp) o e)))) ?_
     obtain⟨aU,aQ,an,_⟩:=I
     exact U1 j ⟨(IntKind.i64.wrap (g+1)),(i++([[.slice w m.length z]]:List (List Value))),(d ++ [m]),rfl,rfl,(c.trans o),(F0 _),(F2.append (F2.up (r:=C0.toRp) o e) (show F2 (C0.R B) ([[.slice w m.length z]]:List (List Value)) [m] from⟨G,trivial⟩)),⟨_,(F3.snoc aQ (M2 k o)),(V0 k c p an)⟩,a⟩
  ·obtain rfl:=oJ a
   try dsimp only[Z0,D1]at b
   refine Or.inl ?_
   intro aM T O
   have bt:New (Wp.slice C0) h T [aM] d:=(U0.fresh (r:=C0) O k c p)
   obtain⟨aZ,a7,rfl,aK,aL,bk⟩:=U0.out (r:=C0.toRp) O e
   refine trM b (m03 _ _ _ _ _ aK) ?_
   rintro aR b bF aD ⟨ae,bs,ai,rfl,J⟩
   have bz:Sub T aD:=J.sub
   have aJ:=J.r
   obtain⟨rfl,bi⟩:=Sl.len aJ
   obtain rfl:=oJ b
   exact⟨ae,aR.length,ai,rfl,(New.from J (c.trans aL))⟩
theorem a04(h:Hp)(b:Option Addr)(j c:Nat)(a:D0)(k:C0.R h [.slice b j c] a)(r:D0)(d:O7 a=some r):
  Tr Tryz.prog 40 #[.slice b j c] h λv h'=>∃(f:Option Addr) (i g:Nat),v = .slice f i g/\New C0 h h' [.slice f i g] r:=by
 obtain⟨rfl,x⟩:=Sl.len k
 unfold O7 at d
 refine T3 (args:=[.slice b a.length c]) (fn:=Tryz.f40) rfl ?_
 refine Or.inl ?_
 intro C n f3
 obtain⟨u,w,rfl,q,s,z⟩:=U0.out (r:=C0.toRp) f3 (show F2 (C0.R h) ([[.slice b a.length c]]:List (List Value)) [a] from⟨k,trivial⟩)
 refine trM d (m03 _ _ _ _ _ q) ?_
 rintro t d D o ⟨l,A,m,rfl,e⟩
 have B:Sub n o:=e.sub
 have p:=e.r
 obtain⟨rfl,y⟩:=Sl.len p
 obtain rfl:=oJ d
 exact⟨l,t.length,m,rfl,(New.from e s)⟩
theorem Y0d(h:Hp)(c:Option Addr)(k d:Nat)(b:D0)(l:C0.R h [.slice c k d] b)(r:D0)(a:l01 b=some r):
  Tr Tryz.prog 69 #[.slice c k d] h λv h'=>∃(i:Nat) (j f:Nat),v = .slice (some ⟨i,0,none⟩) j f/\New C0 h h' [.slice (some ⟨i,0,none⟩) j f] r:=by
 obtain⟨rfl,t⟩:=Sl.len l
 unfold l01 at a
 refine T3 (args:=[.slice c b.length d]) (fn:=Tryz.f69) rfl ?_
 obtain⟨q,n,e⟩:=Sl.rows (r:=Wp.int.toRp) l
 refine eX q (aI n ?_)
 obtain⟨w,o,a⟩:=B0 a
 refine aI (T0 o (by first|rw[F2.length (show F2 (Wp.int.R h) ([]:List (List Value)) ([]:D0) from trivial),F2.length e]|exact congrArg (·+1) (F2.length (show F2 (Wp.int.R h) ([]:List (List Value)) ([]:D0) from trivial)))) ?_
 intro z s g
 obtain⟨p,m,rfl,x,y,u⟩:=U0.outS (r:=Wp.int.toRp) g (F2.append (show F2 (Wp.int.R h) ([]:List (List Value)) ([]:D0) from trivial) e)
 obtain rfl:=oJ a
 exact⟨p,((([]:D0)++b)).length,m,rfl,(U0.newPlain (r:=Wp.int) g (F2.append (show F2 (Wp.int.R h) ([]:List (List Value)) ([]:D0) from trivial) e) (U04 _))⟩
theorem C05(h:Hp)(i:Option Addr)(n k:Nat)(d:D0)(p:C0.R h [.slice i n k] d)(j:Option Addr)(o l:Nat)(e:D0)(q:C0.R h [.slice j o l] e)(r:Bool)(b:E01 d e=some r):
  Tr Tryz.prog 52 #[.slice i n k,.slice j o l] h λv h'=>v = .bool r/\h'=h:=by
 obtain⟨rfl,B⟩:=Sl.len p
 obtain⟨rfl,C⟩:=Sl.len q
 unfold E01 at b
 refine Tr.forget (T3 (args:=[.slice i d.length k,.slice j e.length l]) (fn:=Tryz.f52) rfl ?_)
 refine ifB b (λt b=>?_) λt b=>?_
 ·obtain rfl:=oJ b
  exact aI rfl (Sub.refl _)
 ·obtain⟨m,s,b⟩:=B0 b
  refine eX { vars:=[13],boxes:=[],owns:=[],fuel:=true } (eX (λvs os h'=>∃ c,vs.tail = [.int .i64 c]/\os = []/\Sub h h'/\H0 c/\g6 d e (W1 vs) c=some m) (eX (λ_ _=>0) (aI (eX W0 ⟨0,rfl,rfl,(Sub.refl _),(by decide),s⟩) ?_)))
  rintro _ g A ⟨c,⟨⟩,⟨⟩,f,x,a⟩
  replace a:g6 d e g c=some m:=a
  obtain _|g:=g
  ·cases a
  rw[g6.eq_2]at a
  refine ifB a (λu a=>?_) λu a=>?_
  ·refine Or.inl (aI (aI (by kernel_rfl) (by kernel_rfl)) ?_)
   refine ldI a (C0.mono f p) λD y a=>?_
   refine ldI a (C0.mono f q) λE z a=>?_
   refine ifB a (λw a=>?_) λw a=>?_
   ·obtain rfl:=oJ a
    try dsimp only[P2,Q2]at b
    obtain rfl:=oJ b
    exact aI rfl f
   ·exact U1 g ⟨(IntKind.i64.wrap (c+1)),rfl,rfl,f,(F0 _),a⟩
  ·obtain rfl:=oJ a
   try dsimp only[Z0,D1]at b
   obtain rfl:=oJ b
   exact aI rfl f
theorem D0g(h:Hp)(b:Int)(f:H0 b)(c:Int)(g:H0 c)(r:Int)(a:U01 b c=some r):
  Tr Tryz.prog 103 #[.int .i64 b,.int .i64 c] h λv h'=>v = .int .i64 r/\h'=h:=by
 unfold U01 at a
 refine Tr.forget (T3 (args:=[.int .i64 b,.int .i64 c]) (fn:=Tryz.f103) rfl ?_)
 refine ifB a (λd a=>?_) λd a=>?_
 ·obtain rfl:=oJ a
  exact aI rfl (Sub.refl _)
 ·refine ifB a (λe a=>?_) λe a=>?_
  ·obtain rfl:=oJ a
   exact aI rfl (Sub.refl _)
  ·obtain rfl:=oJ a
   exact aI rfl (Sub.refl _)
theorem c09(h:Hp)(i:Option Addr)(n k:Nat)(d:D0)(p:C0.R h [.slice i n k] d)(j:Option Addr)(o l:Nat)(e:D0)(q:C0.R h [.slice j o l] e)(r:Int)(b:C8 d e=some r):
  Tr Tryz.prog 74 #[.slice i n k,.slice j o l] h λv h'=>v = .int .i64 r/\h'=h:=by
 obtain⟨rfl,G⟩:=Sl.len p
 obtain⟨rfl,H⟩:=Sl.len q
 unfold C8 at b
 refine Tr.forget (T3 (args:=[.slice i d.length k,.slice j e.length l]) (fn:=Tryz.f74) rfl ?_)
 refine ifB b (λx b=>?_) λx b=>?_
 ·refine ifB b (λz b=>?_) λz b=>?_
  ·obtain rfl:=oJ b
   exact aI rfl (Sub.refl _)
  ·obtain rfl:=oJ b
   exact aI rfl (Sub.refl _)
 ·obtain⟨m,w,b⟩:=B0 b
  refine eX { vars:=[5],boxes:=[],owns:=[],fuel:=true } (eX (λvs os h'=>∃ c,vs.tail = [.int .i64 c]/\os = []/\Sub h h'/\H0 c/\I3 d e (W1 vs) c=some m) (eX (λ_ _=>0) (aI (eX W0 ⟨0,rfl,rfl,(Sub.refl _),(by decide),w⟩) ?_)))
  rintro _ g F ⟨c,⟨⟩,⟨⟩,f,D,a⟩
  replace a:I3 d e g c=some m:=a
  obtain _|g:=g
  ·cases a
  rw[I3.eq_2]at a
  refine ifB a (λA a=>?_) λA a=>?_
  ·refine Or.inl (aI (aI (by kernel_rfl) (by kernel_rfl)) ?_)
   refine ldI a (C0.mono f p) λJ B a=>?_
   refine ldI a (C0.mono f q) λK C a=>?_
   obtain⟨s,u,a⟩:=B0 a
   refine eX (.int .i64 s) (aI (D0g _ _ B _ C _  u) ?_)
   obtain⟨I,t,a⟩:=B0 a
   have E:H0 s:=C1 t
   refine ifB a (λy a=>?_) λy a=>?_
   ·obtain rfl:=oJ a
    try dsimp only[P2,Q2]at b
    obtain rfl:=oJ b
    exact aI rfl f
   ·exact U1 g ⟨(IntKind.i64.wrap (c+1)),rfl,rfl,f,(F0 _),a⟩
  ·obtain rfl:=oJ a
   try dsimp only[Z0,D1]at b
   obtain rfl:=oJ b
   exact aI rfl f
theorem y07(h:Hp)(b:Int)(d:H0 b)(c:Int)(e:H0 c)(r:Int)(a:K8 b c=some r):
  Tr Tryz.prog 73 #[.int .i64 b,.int .i64 c] h λv h'=>v = .int .i64 r/\h'=h:=by
 unfold K8 at a
 refine Tr.forget (T3 (args:=[.int .i64 b,.int .i64 c]) (fn:=Tryz.f73) rfl ?_)
 refine ifB a (λi a=>?_) λi a=>?_
 ·obtain rfl:=oJ a
  exact aI rfl (Sub.refl _)
 ·refine ifB a (λj a=>?_) λj a=>?_
  ·obtain rfl:=oJ a
   exact aI rfl (Sub.refl _)
  ·refine ifB a (λk a=>?_) λk a=>?_
   ·obtain rfl:=oJ a
    exact aI rfl (Sub.refl _)
   ·refine trV a (E02 _ (if(IntKind.i64.wrap (0-b))>b then(IntKind.i64.wrap (0-b))else b) (l3 (F0 _) d) (if(IntKind.i64.wrap (0-c))>c then(IntKind.i64.wrap (0-c))else c) (l3 (F0 _) e)) λm a=>?_
    obtain⟨q,f,a⟩:=B0 a
    have o:H0 m:=C1 f
    refine ifB a (λl a=>?_) λl a=>?_
    ·obtain rfl:=oJ a
     exact aI rfl (Sub.refl _)
    ·refine trV a (E02 _ _ e _ d) λn a=>?_
     obtain⟨s,g,a⟩:=B0 a
     have p:H0 n:=C1 g
     obtain rfl:=oJ a
     exact aI rfl (Sub.refl _)
theorem d09(h:Hp)(i:Option Addr)(n k:Nat)(d:D0)(p:C0.R h [.slice i n k] d)(j:Option Addr)(o l:Nat)(e:D0)(q:C0.R h [.slice j o l] e)(r:Int)(b:I00 d e=some r):
  Tr Tryz.prog 50 #[.slice i n k,.slice j o l] h λv h'=>v = .int .i64 r/\h'=h:=by
 obtain⟨rfl,D⟩:=Sl.len p
 obtain⟨rfl,E⟩:=Sl.len q
 unfold I00 at b
 refine Tr.forget (T3 (args:=[.slice i d.length k,.slice j e.length l]) (fn:=Tryz.f50) rfl ?_)
 refine trV b (E02 _ _ (q00 D) _ (q00 E)) λF b=>?_
 obtain⟨L,u,b⟩:=B0 b
 have H:H0 F:=C1 u
 refine ifB b (λz b=>?_) λz b=>?_
 ·obtain rfl:=oJ b
  exact aI rfl (Sub.refl _)
 ·obtain⟨m,x,b⟩:=B0 b
  refine eX { vars:=[18],boxes:=[],owns:=[],fuel:=true } (eX (λvs os h'=>∃ c,vs.tail = [.int .i64 c]/\os = []/\Sub h h'/\H0 c/\O4 d e (W1 vs) c=some m) (eX (λ_ _=>0) (aI (eX W0 ⟨0,rfl,rfl,(Sub.refl _),(by decide),x⟩) ?_)))
  rintro _ g J ⟨c,⟨⟩,⟨⟩,f,G,a⟩
  replace a:O4 d e g c=some m:=a
  obtain _|g:=g
  ·cases a
  rw[O4.eq_2]at a
  refine ifB a (λA a=>?_) λA a=>?_
  ·refine Or.inl (aI (aI (by kernel_rfl) (by kernel_rfl)) ?_)
   refine ldI a (C0.mono f p) λN C a=>?_
   refine ldI a (C0.mono f q) λM B a=>?_
   obtain⟨s,w,a⟩:=B0 a
   refine eX (.int .i64 s) (aI (y07 _ _ C _ B _  w) ?_)
   obtain⟨K,t,a⟩:=B0 a
   have I:H0 s:=C1 t
   refine ifB a (λy a=>?_) λy a=>?_
   ·obtain rfl:=oJ a
    try dsimp only[P2,Q2]at b
    obtain rfl:=oJ b
    exact aI rfl f
   ·exact U1 g ⟨(IntKind.i64.wrap (c+1)),rfl,rfl,f,(F0 _),a⟩
  ·obtain rfl:=oJ a
   try dsimp only[Z0,D1]at b
   obtain rfl:=oJ b
   exact aI rfl f
theorem D05(h:Hp)(l:Option Addr)(w m:Nat)(g:D0)(x:C0.R h [.slice l w m] g)(b:Int)(J:H0 b)(r:D0)(f:o9 g b=some r):
  Tr Tryz.prog 54 #[.slice l w m,.int .i64 b] h λv h'=>∃(p:Option Addr) (u q:Nat),v = .slice p u q/\C0.R h' [.slice p u q] r/\Sub h h':=by
 obtain⟨rfl,M⟩:=Sl.len x
 unfold o9 at f
 refine T3 (args:=[.slice l g.length m,.int .i64 b]) (fn:=Tryz.f54) rfl ?_
 obtain⟨o,F,f⟩:=B0 f
 refine eX { vars:=[6],boxes:=[],owns:=[0],fuel:=true } (eX (λvs os h'=>∃ c k d,vs.tail = [.int .i64 c]/\os = [k]/\Sub h h'/\H0 c/\F2 (Wp.int.R h') k d/\i6 g b (W1 vs) c d=some o) (eX (λ_ _=>0) (aI (eX W0 ⟨0,[],([]:D0),rfl,rfl,(Sub.refl _),(by decide),(show F2 (Wp.int.R h) ([]:List (List Value)) ([]:D0) from trivial),F⟩) ?_)))
 rintro _ k j t ⟨c,U,d,⟨⟩,⟨⟩,n,K,i,a⟩
 replace a:i6 g b j c d=some o:=a
 obtain _|j:=j
 ·cases a
 rw[i6.eq_2]at a
 refine ifB a (λG a=>?_) λG a=>?_
 ·obtain⟨P,C,a⟩:=B0 a
  refine aI (C1 C) ?_
  obtain⟨Q,D,a⟩:=B0 a
  refine aI (C1 D) ?_
  obtain⟨S,E,a⟩:=B0 a
  refine aI (C1 E) ?_
  refine ldI a (C0.mono n x) λe s a=>?_
  obtain⟨O,B,a⟩:=B0 a
  refine aI (T0 B (by first|rw[F2.length i,F2.length (show F2 (Wp.int.R t) ([[.int .i64 e]]:List (List Value)) [e] from⟨⟨rfl,s⟩,trivial⟩)]|exact congrArg (·+1) (F2.length i))) ?_
  exact U1 j ⟨(IntKind.i64.wrap (c+1)),(k++([[.int .i64 e]]:List (List Value))),(d ++ [e]),rfl,rfl,n,(F0 _),(F2.append i (show F2 (Wp.int.R t) ([[.int .i64 e]]:List (List Value)) [e] from⟨⟨rfl,s⟩,trivial⟩)),a⟩
 ·obtain rfl:=oJ a
  try dsimp only[Z0,D1]at f
  intro T L A
  obtain⟨y,z,rfl,H,I,N⟩:=U0.out (r:=Wp.int.toRp) A i
  obtain rfl:=oJ f
  exact⟨y,d.length,z,rfl,H,(n.trans I)⟩
theorem C09(h:Hp)(K:Option Addr)(ai Q:Nat)(A:L1)(p:K1.R h [.slice K ai Q] A)(L:Option Addr)(aj S:Nat)(b:D0)(B:C0.R h [.slice L aj S] b)(r:L1)(e:z01 A b=some r):
  Tr Tryz.prog 53 #[.slice K ai Q,.slice L aj S] h λv h'=>∃(Z:Option Addr) (ah ab:Nat),v = .slice Z ah ab/\K1.R h' [.slice Z ah ab] r/\Sub h h':=by
 obtain⟨rfl,bb⟩:=Sl.len p
 obtain⟨rfl,bc⟩:=Sl.len B
 unfold z01 at e
 refine T3 (args:=[.slice K A.length Q,.slice L b.length S]) (fn:=Tryz.f53) rfl ?_
 obtain⟨Y,aL,e⟩:=B0 e
 refine eX { vars:=[6,7],boxes:=[],owns:=[0],fuel:=true } (eX (λvs os h'=>∃ C i m g,vs.tail = [.bool C,.int .i64 i]/\os = [m]/\Sub h h'/\H0 i/\F2 (C0.R h') m g/\J4 A b (W1 vs) C i g=some Y) (eX (λ_ _=>0) (aI (eX W0 ⟨false,0,[],([]:L1),rfl,rfl,(Sub.refl _),(by decide),(show F2 (C0.R h) ([]:List (List Value)) ([]:L1) from trivial),aL⟩) ?_)))
 rintro _ _ m j f ⟨C,i,bL,g,⟨⟩,⟨⟩,d,a7,c,a⟩
 replace a:J4 A b j C i g=some Y:=a
 obtain _|j:=j
 ·cases a
 rw[J4.eq_2]at a
 refine ifB a (λaQ a=>?_) λaQ a=>?_
 ·refine ld a (K1.mono d p) λbK a5 X a=>?_
  obtain⟨a0,br,a6,rfl⟩:=Wp.slice_cell X
  obtain⟨rfl,bh⟩:=Sl.len X
  refine trV a (c09 _ _ _ _ _ (C0.mono d B) _ _ _ _ X) λaZ a=>?_
  obtain⟨bs,az,a⟩:=B0 a
  have a8:H0 aZ:=C1 az
  refine ifB a (λaM a=>?_) λaM a=>?_
  ·refine ifB a (λaN a=>?_) λaN a=>?_
   ·obtain⟨aW,ap,ad⟩:=Sl.rows (r:=Wp.int.toRp) (C0.mono d B)
    refine eX aW (aI ap ?_)
    obtain⟨bt,aA,a⟩:=B0 a
    refine aI (T0 aA (by first|rw[F2.length (show F2 (Wp.int.R f) ([]:List (List Value)) ([]:D0) from trivial),F2.length ad]|exact congrArg (·+1) (F2.length (show F2 (Wp.int.R f) ([]:List (List Value)) ([]:D0) from trivial)))) ?_
    intro bF n au
    obtain⟨w,y,rfl,H,k,bi⟩:=U0.out (r:=Wp.int.toRp) au (F2.append (show F2 (Wp.int.R f) ([]:List (List Value)) ([]:D0) from trivial) ad)
    obtain⟨bu,aB,a⟩:=B0 a
    refine aI (T0 aB (by first|rw[F2.length (F2.up (r:=C0.toRp) k c),F2.length (show F2 (C0.R n) ([[.slice w ((([]:D0)++b)).length y]]:List (List Value)) [(([]:D0)++b)] from⟨H,trivial⟩)]|exact congrArg (·+1) (F2.length (F2.up (r:=C0.toRp) k c)))) ?_
    refine ld a (K1.mono (d.trans k) p) λq a1 D a=>?_
    obtain⟨M,bn,T,rfl⟩:=Wp.slice_cell D
    obtain⟨rfl,bd⟩:=Sl.len D
    obtain⟨bv,aC,a⟩:=B0 a
    refine aI (T0 aC (by first|rw[F2.length (F2.append (F2.up (r:=C0.toRp) k c) (show F2 (C0.R n) ([[.slice w ((([]:D0)++b)).length y]]:List (List Value)) [(([]:D0)++b)] from⟨H,trivial⟩)),F2.length (show F2 (C0.R n) ([[.slice M q.length T]]:List (List Value)) [q] from⟨D,trivial⟩)]|exact congrArg (·+1) (F2.length (F2.append (F2.up (r:=C0.toRp) k c) (show F2 (C0.R n) ([[.slice w ((([]:D0)++b)).length y]]:List (List Value)) [(([]:D0)++b)] from⟨H,trivial⟩))))) ?_
    exact U1 j ⟨true,(IntKind.i64.wrap (i+1)),((m++([[.slice w ((([]:D0)++b)).length y]]:List (List Value)))++([[.slice M q.length T]]:List (List Value))),((g ++ [(([]:D0)++b)]) ++ [q]),rfl,rfl,(d.trans k),(F0 _),(F2.append (F2.append (F2.up (r:=C0.toRp) k c) (show F2 (C0.R n) ([[.slice w ((([]:D0)++b)).length y]]:List (List Value)) [(([]:D0)++b)] from⟨H,trivial⟩)) (show F2 (C0.R n) ([[.slice M q.length T]]:List (List Value)) [q] from⟨D,trivial⟩)),a⟩
   ·refine ld a (K1.mono d p) λs a2 E a=>?_
    obtain⟨N,bo,U,rfl⟩:=Wp.slice_cell E
    obtain⟨rfl,be⟩:=Sl.len E
    obtain⟨bx,aD,a⟩:=B0 a
    refine aI (T0 aD (by first|rw[F2.length c,F2.length (show F2 (C0.R f) ([[.slice N s.length U]]:List (List Value)) [s] from⟨E,trivial⟩)]|exact congrArg (·+1) (F2.length c))) ?_
    exact U1 j ⟨true,(IntKind.i64.wrap (i+1)),(m++([[.slice N s.length U]]:List (List Value))),(g ++ [s]),rfl,rfl,d,(F0 _),(F2.append c (show F2 (C0.R f) ([[.slice N s.length U]]:List (List Value)) [s] from⟨E,trivial⟩)),a⟩
  ·refine ifB a (λaO a=>?_) λaO a=>?_
   ·obtain⟨aX,aq,ae⟩:=Sl.rows (r:=Wp.int.toRp) (C0.mono d B)
    refine eX aX (aI aq ?_)
    obtain⟨bz,aE,a⟩:=B0 a
    refine aI (T0 aE (by first|rw[F2.length (show F2 (Wp.int.R f) ([]:List (List Value)) ([]:D0) from trivial),F2.length ae]|exact congrArg (·+1) (F2.length (show F2 (Wp.int.R f) ([]:List (List Value)) ([]:D0) from trivial)))) ?_
    intro bG o av
    obtain⟨x,z,rfl,I,l,bj⟩:=U0.out (r:=Wp.int.toRp) av (F2.append (show F2 (Wp.int.R f) ([]:List (List Value)) ([]:D0) from trivial) ae)
    obtain⟨bA,aF,a⟩:=B0 a
    refine aI (T0 aF (by first|rw[F2.length (F2.up (r:=C0.toRp) l c),F2.length (show F2 (C0.R o) ([[.slice x ((([]:D0)++b)).length z]]:List (List Value)) [(([]:D0)++b)] from⟨I,trivial⟩)]|exact congrArg (·+1) (F2.length (F2.up (r:=C0.toRp) l c)))) ?_
    refine ld a (K1.mono (d.trans l) p) λt a3 F a=>?_
    obtain⟨O,bp,V,rfl⟩:=Wp.slice_cell F
    obtain⟨rfl,bf⟩:=Sl.len F
    obtain⟨bB,aG,a⟩:=B0 a
    refine aI (T0 aG (by first|rw[F2.length (F2.append (F2.up (r:=C0.toRp) l c) (show F2 (C0.R o) ([[.slice x ((([]:D0)++b)).length z]]:List (List Value)) [(([]:D0)++b)] from⟨I,trivial⟩)),F2.length (show F2 (C0.R o) ([[.slice O t.length V]]:List (List Value)) [t] from⟨F,trivial⟩)]|exact congrArg (·+1) (F2.length (F2.append (F2.up (r:=C0.toRp) l c) (show F2 (C0.R o) ([[.slice x ((([]:D0)++b)).length z]]:List (List Value)) [(([]:D0)++b)] from⟨I,trivial⟩))))) ?_
    exact U1 j ⟨true,(IntKind.i64.wrap (i+1)),((m++([[.slice x ((([]:D0)++b)).length z]]:List (List Value)))++([[.slice O t.length V]]:List (List Value))),((g ++ [(([]:D0)++b)]) ++ [t]),rfl,rfl,(d.trans l),(F0 _),(F2.append (F2.append (F2.up (r:=C0.toRp) l c) (show F2 (C0.R o) ([[.slice x ((([]:D0)++b)).length z]]:List (List Value)) [(([]:D0)++b)] from⟨I,trivial⟩)) (show F2 (C0.R o) ([[.slice O t.length V]]:List (List Value)) [t] from⟨F,trivial⟩)),a⟩
   ·refine ld a (K1.mono d p) λu a4 G a=>?_
    obtain⟨P,bq,W,rfl⟩:=Wp.slice_cell G
    obtain⟨rfl,bg⟩:=Sl.len G
    obtain⟨bC,aH,a⟩:=B0 a
    refine aI (T0 aH (by first|rw[F2.length c,F2.length (show F2 (C0.R f) ([[.slice P u.length W]]:List (List Value)) [u] from⟨G,trivial⟩)]|exact congrArg (·+1) (F2.length c))) ?_
    exact U1 j ⟨C,(IntKind.i64.wrap (i+1)),(m++([[.slice P u.length W]]:List (List Value))),(g ++ [u]),rfl,rfl,d,(F0 _),(F2.append c (show F2 (C0.R f) ([[.slice P u.length W]]:List (List Value)) [u] from⟨G,trivial⟩)),a⟩
 ·obtain rfl:=oJ a
  try dsimp only[Z0,D1]at e
  refine ifB e (λaP e=>?_) λaP e=>?_
  ·obtain⟨aY,ar,af⟩:=Sl.rows (r:=Wp.int.toRp) (C0.mono d B)
   refine eX aY (aI ar ?_)
   obtain⟨bD,aJ,e⟩:=B0 e
   refine aI (T0 aJ (by first|rw[F2.length (show F2 (Wp.int.R f) ([]:List (List Value)) ([]:D0) from trivial),F2.length af]|exact congrArg (·+1) (F2.length (show F2 (Wp.int.R f) ([]:List (List Value)) ([]:D0) from trivial)))) ?_
   intro bH ag aw
   obtain⟨aa,ac,rfl,ak,J,bk⟩:=U0.out (r:=Wp.int.toRp) aw (F2.append (show F2 (Wp.int.R f) ([]:List (List Value)) ([]:D0) from trivial) af)
   obtain⟨bE,aK,e⟩:=B0 e
   refine aI (T0 aK (by first|rw[F2.length (F2.up (r:=C0.toRp) J c),F2.length (show F2 (C0.R ag) ([[.slice aa ((([]:D0)++b)).length ac]]:List (List Value)) [(([]:D0)++b)] from⟨ak,trivial⟩)]|exact congrArg (·+1) (F2.length (F2.up (r:=C0.toRp) J c)))) ?_
   intro bI a9 ax
   obtain⟨al,an,rfl,aR,aU,bl⟩:=U0.out (r:=C0.toRp) ax (F2.append (F2.up (r:=C0.toRp) J c) (show F2 (C0.R ag) ([[.slice aa ((([]:D0)++b)).length ac]]:List (List Value)) [(([]:D0)++b)] from⟨ak,trivial⟩))
   obtain rfl:=oJ e
   exact⟨al,((g ++ [(([]:D0)++b)])).length,an,rfl,aR,((d.trans J).trans aU)⟩
  ·intro bJ ba ay
   obtain⟨am,ao,rfl,aS,aV,bm⟩:=U0.out (r:=C0.toRp) ay c
   obtain rfl:=oJ e
   exact⟨am,g.length,ao,rfl,aS,(d.trans aV)⟩
theorem f00(h:Hp)(G:List Value)(J:l0)(ah:Q1.R h G J)(r:L1)(d:D5 J=some r):
  Tr Tryz.prog 23 #[.agg G.toArray] h λv h'=>∃(E:Option Addr) (I F:Nat),v = .slice E I F/\K1.R h' [.slice E I F] r/\Sub h h':=by
 obtain⟨w,V,aR,Y,x,rfl,rfl,af,y⟩:=I1 ah
 obtain⟨rfl,aG⟩:=Sl.len y
 unfold D5 at d
 dsimp only at d
 refine T3 (args:=[.agg #[.int .i64 w,.slice V x.length Y]]) (fn:=Tryz.f23) rfl ?_
 obtain⟨D,ac,d⟩:=B0 d
 refine eX { vars:=[3,4],boxes:=[],owns:=[],fuel:=true,pubs:=[3,7] } (eX (λvs os h'=>∃(i:Option Addr) (u j:Nat) (c:L1) (g:Int),vs.tail = [.slice i u j,.int .i64 g]/\os = []/\Sub h h'/\K1.R h' [.slice i u j] c/\H0 g/\R3 x w (W1 vs) c g=some D) (eX (λ_ _=>0) ?_))
 intro aZ aA f3
 obtain⟨X,aa,rfl,ai,ak,aQ⟩:=U0.out (r:=C0.toRp) f3 (show F2 (C0.R h) ([]:List (List Value)) ([]:L1) from trivial)
 refine aI (eX W0 ⟨X,(([]:L1)).length,aa,([]:L1),0,rfl,rfl,ak,ai,(by decide),ac⟩) ?_
 rintro _ _ n ag ⟨i,u,j,c,g,⟨⟩,⟨⟩,s,A,ay,b⟩
 replace b:R3 x w n c g=some D:=b
 obtain _|n:=n
 ·cases b
 rw[R3.eq_2]at b
 obtain⟨rfl,aJ⟩:=Sl.len A
 refine trG b (λq=>I5 _ _ _ (M0 af (K1.mono s y))) λa5 b=>?_
 refine ifB b (λad b=>?_) λad b=>?_
 ·refine ld b (K1.mono s y) λT aq o b=>?_
  obtain⟨al,aS,ar,rfl⟩:=Wp.slice_cell o
  obtain⟨rfl,aK⟩:=Sl.len o
  obtain⟨C,ab,b⟩:=B0 b
  refine eX { vars:=[3,6],boxes:=[],owns:=[],fuel:=true } (eX (λvs os h'=>∃ k t l e f,vs.tail = [.slice k t l,.int .i64 f]/\os = []/\Sub ag h'/\K1.R h' [.slice k t l] e/\H0 f/\U4 T (W1 vs) e f=some C) (eX (λ_ _=>0) (aI (eX W0 ⟨i,c.length,j,c,0,rfl,rfl,(Sub.refl _),A,(by decide),ab⟩) ?_)))
  rintro _ _ m az ⟨k,t,l,e,f,⟨⟩,⟨⟩,p,z,H,a⟩
  replace a:U4 T m e f=some C:=a
  obtain _|m:=m
  ·cases a
  rw[U4.eq_2]at a
  obtain⟨rfl,aH⟩:=Sl.len z
  refine ifB a (λae a=>?_) λae a=>?_
  ·refine trM a (D05 _ _ _ _ _ (C0.mono p o) _ H) ?_
   rintro a6 a a0 aB ⟨am,aU,au,rfl,K,B⟩
   obtain⟨rfl,aL⟩:=Sl.len K
   refine trM a (C09 _ _ _ _ _ (K1.mono B z) _ _ _ _ K) ?_
   rintro a7 a a1 aC ⟨an,aV,av,rfl,L,P⟩
   obtain⟨rfl,aM⟩:=Sl.len L
   refine trM a (D05 _ _ _ _ _ (C0.mono ((p.trans B).trans P) o) _ H) ?_
   rintro a8 a a2 aD ⟨ao,aW,aw,rfl,M,Q⟩
   obtain⟨rfl,aN⟩:=Sl.len M
   refine trM a (G01 _ _ _ _ _ M) ?_
   rintro a9 a a3 aE ⟨ap,aX,ax,rfl,N,S⟩
   obtain⟨rfl,aO⟩:=Sl.len N
   refine trM a (C09 _ _ _ _ _ (K1.mono (Q.trans S) L) _ _ _ _ N) ?_
   rintro U a a4 aF ⟨W,aY,Z,rfl,O,aj⟩
   obtain⟨rfl,aP⟩:=Sl.len O
   exact U1 m ⟨W,U.length,Z,U,(IntKind.i64.wrap (f+1)),rfl,rfl,(((((p.trans B).trans P).trans Q).trans S).trans aj),O,(F0 _),a⟩
  ·obtain rfl:=oJ a
   try dsimp only[Z0,D1]at b
   exact U1 n ⟨k,e.length,l,e,(IntKind.i64.wrap (g+1)),rfl,rfl,(s.trans p),z,(F0 _),b⟩
 ·obtain rfl:=oJ b
  try dsimp only[Z0,D1]at d
  obtain rfl:=oJ d
  exact⟨i,c.length,j,rfl,A,s⟩
theorem D03(h:Hp)(i:Option Addr)(n k:Nat)(d:D0)(p:C0.R h [.slice i n k] d)(j:Option Addr)(o l:Nat)(e:D0)(q:C0.R h [.slice j o l] e)(r:Int)(c:R8 d e=some r):
  Tr Tryz.prog 43 #[.slice i n k,.slice j o l] h λv h'=>v = .int .i64 r/\h'=h:=by
 obtain⟨rfl,z⟩:=Sl.len p
 obtain⟨rfl,A⟩:=Sl.len q
 unfold R8 at c
 refine Tr.forget (T3 (args:=[.slice i d.length k,.slice j e.length l]) (fn:=Tryz.f43) rfl ?_)
 obtain⟨m,s,c⟩:=B0 c
 refine eX { vars:=[5],boxes:=[],owns:=[],fuel:=true } (eX (λvs os h'=>∃ b,vs.tail = [.int .i64 b]/\os = []/\Sub h h'/\H0 b/\B7 d e (W1 vs) b=some m) (eX (λ_ _=>0) (aI (eX W0 ⟨0,rfl,rfl,(Sub.refl _),(by decide),s⟩) ?_)))
 rintro _ f y ⟨b,⟨⟩,⟨⟩,g,u,a⟩
 replace a:B7 d e f b=some m:=a
 obtain _|f:=f
 ·cases a
 rw[B7.eq_2]at a
 refine Or.inl (aI (aI (by kernel_rfl) (by kernel_rfl)) ?_)
 refine ldG a (C0.mono g p) λB w a=>?_
 refine ldG a (C0.mono g q) λC x a=>?_
 refine ifB a (λt a=>?_) λt a=>?_
 ·exact U1 f ⟨(IntKind.i64.wrap (b+1)),rfl,rfl,g,(F0 _),a⟩
 ·obtain rfl:=oJ a
  try dsimp only[Z0,D1]at c
  obtain rfl:=oJ c
  exact aI rfl g
theorem e09(h:Hp)(u:List Value)(x:l0)(O:Q1.R h u x)(r:Int)(c:w9 x=some r):
  Tr Tryz.prog 25 #[.agg u.toArray] h λv h'=>v = .int .i64 r/\h'=h:=by
 obtain⟨M,z,ag,A,N,rfl,rfl,H,y⟩:=I1 O
 obtain⟨rfl,ac⟩:=Sl.len y
 unfold w9 at c
 dsimp only at c
 refine Tr.forget (T3 (args:=[.agg #[.int .i64 M,.slice z N.length A]]) (fn:=Tryz.f25) rfl ?_)
 refine trM c (f00 _ _ _ (M0 H y)) ?_
 rintro m c al K ⟨Q,ah,W,rfl,o,P⟩
 obtain⟨rfl,ad⟩:=Sl.len o
 obtain⟨t,E,c⟩:=B0 c
 refine eX { vars:=[4,5],boxes:=[],owns:=[],fuel:=true } (eX (λvs os h'=>∃ g e,vs.tail = [.int .i64 g,.int .i64 e]/\os = []/\Sub K h'/\H0 g/\H0 e/\F5 m (W1 vs) g e=some t) (eX (λ_ _=>0) (aI (eX W0 ⟨0,0,rfl,rfl,(Sub.refl _),(by decide),(by decide),E⟩) ?_)))
 rintro _ _ j L ⟨g,e,⟨⟩,⟨⟩,l,I,aa,b⟩
 replace b:F5 m j g e=some t:=b
 obtain _|j:=j
 ·cases b
 rw[F5.eq_2]at b
 refine ifB b (λG b=>?_) λG b=>?_
 ·obtain⟨s,D,b⟩:=B0 b
  refine eX { vars:=[4,6],boxes:=[],owns:=[],fuel:=true } (eX (λvs os h'=>∃ d f,vs.tail = [.int .i64 d,.int .i64 f]/\os = []/\Sub L h'/\H0 d/\H0 f/\E5 e m (W1 vs) d f=some s) (eX (λ_ _=>0) (aI (eX W0 ⟨g,0,rfl,rfl,(Sub.refl _),I,(by decide),D⟩) ?_)))
  rintro _ _ i ab ⟨d,f,⟨⟩,⟨⟩,k,w,Z,a⟩
  replace a:E5 e m i d f=some s:=a
  obtain _|i:=i
  ·cases a
  rw[E5.eq_2]at a
  refine ifB a (λF a=>?_) λF a=>?_
  ·refine Or.inl (aI (aI (by kernel_rfl) (by kernel_rfl)) ?_)
   refine ld a (K1.mono (l.trans k) o) λam U p a=>?_
   obtain⟨S,ai,X,rfl⟩:=Wp.slice_cell p
   obtain⟨rfl,ae⟩:=Sl.len p
   refine ld a (K1.mono (l.trans k) o) λan V q a=>?_
   obtain⟨T,aj,Y,rfl⟩:=Wp.slice_cell q
   obtain⟨rfl,af⟩:=Sl.len q
   obtain⟨n,C,a⟩:=B0 a
   refine eX (.int .i64 n) (aI (D03 _ _ _ _ _ p _ _ _ _ q _  C) ?_)
   obtain⟨ak,B,a⟩:=B0 a
   have J:H0 n:=C1 B
   exact U1 i ⟨(if n>d then n else d),(IntKind.i64.wrap (f+1)),rfl,rfl,k,(l3 J w),(F0 _),a⟩
  ·obtain rfl:=oJ a
   try dsimp only[Z0,D1]at b
   exact U1 j ⟨d,(IntKind.i64.wrap (e+1)),rfl,rfl,(l.trans k),w,(F0 _),b⟩
 ·obtain rfl:=oJ b
  try dsimp only[Z0,D1]at c
  obtain rfl:=oJ c
  exact aI rfl (P.trans l)
theorem r08(h:Hp)(w:List Value)(B:l0)(T:Q1.R h w B)(r:Bool)(c:R00 B=some r):
  Tr Tryz.prog 12 #[.agg w.toArray] h λv h'=>v = .bool r/\h'=h:=by
 obtain⟨Q,D,ao,E,S,rfl,rfl,A,n⟩:=I1 T
 obtain⟨rfl,aj⟩:=Sl.len n
 unfold R00 at c
 dsimp only at c
 refine Tr.forget (T3 (args:=[.agg #[.int .i64 Q,.slice D S.length E]]) (fn:=Tryz.f12) rfl ?_)
 refine trM c (f00 _ _ _ (M0 A n)) ?_
 rintro l c aw O ⟨V,ap,ac,rfl,k,s⟩
 obtain⟨rfl,ak⟩:=Sl.len k
 obtain⟨t,J,c⟩:=B0 c
 refine eX { vars:=[4],boxes:=[],owns:=[],fuel:=true } (eX (λvs os h'=>∃ d,vs.tail = [.int .i64 d]/\os = []/\Sub O h'/\H0 d/\Q7 l (W1 vs) d=some t) (eX (λ_ _=>0) (aI (eX W0 ⟨0,rfl,rfl,(Sub.refl _),(by decide),J⟩) ?_)))
 rintro _ j P ⟨d,⟨⟩,⟨⟩,e,ah,b⟩
 replace b:Q7 l j d=some t:=b
 obtain _|j:=j
 ·cases b
 rw[Q7.eq_2]at b
 refine ifB b (λN b=>?_) λN b=>?_
 ·obtain⟨u,K,b⟩:=B0 b
  refine eX { vars:=[5],boxes:=[],owns:=[],fuel:=true } (eX (λvs os h'=>∃ g,vs.tail = [.int .i64 g]/\os = []/\Sub P h'/\H0 g/\P7 l d (W1 vs) g=some u) (eX (λ_ _=>0) (aI (eX W0 ⟨0,rfl,rfl,(Sub.refl _),(by decide),K⟩) ?_)))
  rintro _ i m ⟨g,⟨⟩,⟨⟩,f,ag,a⟩
  replace a:P7 l d i g=some u:=a
  obtain _|i:=i
  ·cases a
  rw[P7.eq_2]at a
  refine ifB a (λL a=>?_) λL a=>?_
  ·refine Or.inl (aI (aI (by kernel_rfl) (by kernel_rfl)) ?_)
   obtain⟨ax,G,a⟩:=B0 a
   obtain⟨Z,x,o⟩:=Sl.getG (r:=C0.toRp) (K1.mono (e.trans f) k) G (by decide) (z0s Wp.int m)
   refine aI (λq=>(x q).1) ?_
   obtain⟨W,aq,ad,rfl⟩:=Wp.slice_cell o
   obtain⟨rfl,al⟩:=Sl.len o
   refine eX _ (aI (λq=>(x q).2) ?_)
   obtain⟨ay,H,a⟩:=B0 a
   obtain⟨aa,y,p⟩:=Sl.getG (r:=C0.toRp) (K1.mono (e.trans f) k) H (by decide) (z0s Wp.int m)
   refine aI (λq=>(y q).1) ?_
   obtain⟨X,ar,ae,rfl⟩:=Wp.slice_cell p
   obtain⟨rfl,am⟩:=Sl.len p
   refine eX _ (aI (λq=>(y q).2) ?_)
   refine trG a (λq=>D03 _ _ _ _ _ o _ _ _ _ p) λU a=>?_
   obtain⟨av,F,a⟩:=B0 a
   have ai:H0 U:=C1 F
   obtain⟨az,I,a⟩:=B0 a
   obtain⟨ab,z,C⟩:=Sl.getG (r:=C0.toRp) (K1.mono (e.trans f) k) I (by decide) (z0s Wp.int m)
   refine aI (λq=>(z q).1) ?_
   obtain⟨Y,au,af,rfl⟩:=Wp.slice_cell C
   obtain⟨rfl,an⟩:=Sl.len C
   refine eX _ (aI (λq=>(z q).2) ?_)
   refine ifB a (λM a=>?_) λM a=>?_
   ·obtain rfl:=oJ a
    try dsimp only[P2,Q2]at b
    obtain rfl:=oJ b
    try dsimp only[P2,Q2]at c
    obtain rfl:=oJ c
    exact aI rfl ((s.trans e).trans f)
   ·exact U1 i ⟨(IntKind.i64.wrap (g+1)),rfl,rfl,f,(F0 _),a⟩
  ·obtain rfl:=oJ a
   try dsimp only[Z0,D1]at b
   exact U1 j ⟨(IntKind.i64.wrap (d+1)),rfl,rfl,(e.trans f),(F0 _),b⟩
 ·obtain rfl:=oJ b
  try dsimp only[Z0,D1]at c
  refine trV c (I5 _ _ _ (M0 A (K1.mono (s.trans e) n))) λaA c=>?_
  obtain rfl:=oJ c
  exact aI rfl (s.trans e)
theorem J0b(h:Hp)(c:Option Addr)(u d:Nat)(i:D0)(j:C0.R h [.slice c u d] i)(b:Int)(ak:H0 b)(r:D0)(a:v00 i b=some r):
  Tr Tryz.prog 48 #[.slice c u d,.int .i64 b] h λv h'=>∃(m:Option Addr) (t n:Nat),v = .slice m t n/\New C0 h h' [.slice m t n] r:=by
 obtain⟨rfl,an⟩:=Sl.len j
 unfold v00 at a
 refine T3 (args:=[.slice c i.length d,.int .i64 b]) (fn:=Tryz.f48) rfl ?_
 refine ifB a (λX a=>?_) λX a=>?_
 ·intro aD al o
  obtain⟨E,K,rfl,aA,aB,au⟩:=U0.out (r:=Wp.int.toRp) o (show F2 (Wp.int.R h) ([]:List (List Value)) ([]:D0) from trivial)
  obtain rfl:=oJ a
  exact⟨E,(([]:D0)).length,K,rfl,(U0.newPlain (r:=Wp.int) o (show F2 (Wp.int.R h) ([]:List (List Value)) ([]:D0) from trivial) (U04 _))⟩
 ·obtain⟨ay,Q,a⟩:=B0 a
  refine aI (C1 Q) ?_
  obtain⟨az,S,a⟩:=B0 a
  refine aI (C1 S) ?_
  refine Or.inr (Or.inr (Or.inl (aI (aI (by kernel_rfl) (by kernel_rfl)) ?_)))
  obtain⟨ai,T,a⟩:=B0 a
  obtain⟨C,H,aa,w,F,L⟩:=Sl.cutX (r:=Wp.int.toRp) j T
  have ap:=(Sl.len w).2
  refine Or.inl (eX (.val (.slice C ai.length H)) (aI ?_ ?_))
  ·intro f k
   obtain⟨vs,e⟩:=L f k
   exact aI F (eX vs (aI e (λv _ g=>aI (congrArg AV.val (aa v g)) (aI rfl rfl))))
  refine Or.inr ?_
  obtain⟨A,U,a⟩:=B0 a
  obtain⟨D,I,ab,x,G,M⟩:=Sl.cutX (r:=Wp.int.toRp) j U
  have aq:=(Sl.len x).2
  refine Or.inl (eX (.val (.slice D A.length I)) (aI ?_ ?_))
  ·intro f k
   obtain⟨vs,e⟩:=M f k
   exact aI G (eX vs (aI e (λv _ g=>aI (congrArg AV.val (ab v g)) (aI rfl rfl))))
  refine Or.inr ?_
  refine Or.inr ?_
  refine Or.inl (eX 1 (aI (aI rfl rfl) ?_))
  obtain⟨ah,q,a⟩:=B0 a
  refine Tr.mono (Y0d _ _ _ _ _ w _  q) ?_
  rintro aC Y ⟨q,av,aj,rfl,l⟩
  have y:Sub h Y:=l.sub
  have ac:=l.r
  obtain⟨rfl,ao⟩:=Sl.len ac
  refine aI (aI rfl y) (aI (by first|exact trivial|exact rfl) ?_)
  obtain⟨af,N,p⟩:=Sl.rows (r:=Wp.int.toRp) (C0.mono y x)
  refine eX af (aI N ?_)
  obtain⟨ax,P,a⟩:=B0 a
  obtain⟨ag,ad,s,B⟩:=New.app l (Sub.refl _)
  refine eX ag (aI ad (aI (T0 P (by first|rw[s,F2.length p]|(rw[s];rfl))) ?_))
  intro aE am W
  obtain⟨z,V,Z,aw,J,rfl⟩:=B _ _ _ _ _ (F3.ofPlain (U04 _) p) R4.ofPlain W
  have ae:=z.r
  obtain⟨O,ar⟩:=Sl.len ae
  subst O
  refine aT ?_
  refine aT ?_
  obtain rfl:=oJ a
  exact⟨(some ⟨V,Z,none⟩),(ah++A).length,J,rfl,z⟩
theorem R05(h:Hp)(i:Option Addr)(n k:Nat)(d:D0)(p:C0.R h [.slice i n k] d)(j:Option Addr)(o l:Nat)(e:D0)(q:C0.R h [.slice j o l] e)(r:Int)(c:D9 d e=some r):
  Tr Tryz.prog 42 #[.slice i n k,.slice j o l] h λv h'=>v = .int .i64 r/\h'=h:=by
 obtain⟨rfl,z⟩:=Sl.len p
 obtain⟨rfl,A⟩:=Sl.len q
 unfold D9 at c
 refine Tr.forget (T3 (args:=[.slice i d.length k,.slice j e.length l]) (fn:=Tryz.f42) rfl ?_)
 obtain⟨m,s,c⟩:=B0 c
 refine eX { vars:=[5],boxes:=[],owns:=[],fuel:=true } (eX (λvs os h'=>∃ b,vs.tail = [.int .i64 b]/\os = []/\Sub h h'/\H0 b/\G6 d e (W1 vs) b=some m) (eX (λ_ _=>0) (aI (eX W0 ⟨0,rfl,rfl,(Sub.refl _),(by decide),s⟩) ?_)))
 rintro _ f y ⟨b,⟨⟩,⟨⟩,g,u,a⟩
 replace a:G6 d e f b=some m:=a
 obtain _|f:=f
 ·cases a
 rw[G6.eq_2]at a
 refine Or.inl (aI (aI (by kernel_rfl) (by kernel_rfl)) ?_)
 refine ldG a (C0.mono g p) λB w a=>?_
 refine ldG a (C0.mono g q) λC x a=>?_
 refine ifB a (λt a=>?_) λt a=>?_
 ·exact U1 f ⟨(IntKind.i64.wrap (b+1)),rfl,rfl,g,(F0 _),a⟩
 ·obtain rfl:=oJ a
  try dsimp only[Z0,D1]at c
  obtain rfl:=oJ c
  exact aI rfl g
theorem N0d(h0:Hp)(h:Hp)(J:Option Addr)(ac K:Nat)(w:L1)(ad:K1.R h [.slice J ac K] w)(B:Option Addr)(M C:Nat)(i:D0)(G:C0.R h [.slice B M C] i)(af:New C0 h0 h [.slice B M C] i)(r:D0×Bool)(u:V02 w i=some r):
  Tr Tryz.prog 41 #[.slice J ac K,.slice B M C] h λv h'=>∃(S:Option Addr) (ab W:Nat),v = .tuple #[.slice S ab W,.bool r.2]/\New C0 h0 h' [.slice S ab W] r.1/\Sub h h':=by
 obtain⟨rfl,bR⟩:=Sl.len ad
 obtain⟨rfl,bS⟩:=Sl.len G
 unfold V02 at u
 refine T3 (args:=[.slice J w.length K,.slice B i.length C]) (fn:=Tryz.f41) rfl ?_
 obtain⟨P,aJ,u⟩:=B0 u
 refine eX { vars:=[12],boxes:=[],owns:=[],fuel:=true } (eX (λvs os h'=>∃ m,vs.tail = [.int .i64 m]/\os = []/\Sub h h'/\H0 m/\F9 i w (W1 vs) m=some P) (eX (λ_ _=>0) (aI (eX W0 ⟨0,rfl,rfl,(Sub.refl _),(by decide),aJ⟩) ?_)))
 rintro _ E aP ⟨m,⟨⟩,⟨⟩,j,bG,f⟩
 replace f:F9 i w E m=some P:=f
 obtain _|E:=E
 ·cases f
 rw[F9.eq_2]at f
 refine ifB f (λaN f=>?_) λaN f=>?_
 ·obtain⟨Q,aK,f⟩:=B0 f
  refine eX { vars:=[17],boxes:=[],owns:=[],fuel:=true } (eX (λvs os h'=>∃ A,vs.tail = [.int .i64 A]/\os = []/\Sub aP h'/\H0 A/\E9 w i m (W1 vs) A=some Q) (eX (λ_ _=>0) (aI (eX W0 ⟨0,rfl,rfl,(Sub.refl _),(by decide),aK⟩) ?_)))
  rintro _ F L ⟨A,⟨⟩,⟨⟩,o,bH,b⟩
  replace b:E9 w i m F A=some Q:=b
  obtain _|F:=F
  ·cases b
  rw[E9.eq_2]at b
  refine ifB b (λaL b=>?_) λaL b=>?_
  ·refine ld b (K1.mono (j.trans o) ad) λcm bt H b=>?_
   obtain⟨bj,b7,bu,rfl⟩:=Wp.slice_cell H
   obtain⟨rfl,bT⟩:=Sl.len H
   obtain⟨cn,aB,b⟩:=B0 b
   obtain⟨aV,be,ap,aw⟩:=Sl.cutI (r:=Wp.int.toRp) (C0.mono (j.trans o) G) aB
   refine aI aV (eX be (aI ap ?_))
   intro bi aO _
   obtain⟨bk,bv,rfl,ae⟩:=aw bi aO
   have bU:=(Sl.len ae).2
   refine trV b (R05 _ _ _ _ _ ae _ _ _ _ H) λag b=>?_
   obtain⟨cb,aA,b⟩:=B0 b
   have bI:H0 ag:=C1 aA
   refine ifB b (λaM b=>?_) λaM b=>?_
   ·refine Or.inr (Or.inr (Or.inr (Or.inl (aI (aI (by kernel_rfl) (by kernel_rfl)) ?_))))
    obtain⟨p,aC,b⟩:=B0 b
    refine Or.inr (eX (λv g=>∃(a:Option Addr) (c:Nat),v = .slice a p.length c/\C0.R g [.slice a p.length c] p/\p.length<=9223372036854775807) (aI (λv y z d q=>by obtain⟨a,c,e,r,l⟩:=q;exact⟨a,c,e,C0.mono d r,l⟩) (aI ?_ ?_)))
    ·intro bJ a8
     obtain⟨aW,bf,aq,ax⟩:=Sl.cutI (r:=Wp.int.toRp) (C0.mono ((j.trans o).trans a8) G) aC
     refine aI aW (eX bf (aI aq ?_))
     intro v D _
     obtain⟨a,c,rfl,r⟩:=ax v D
     exact aI g01 (aI (Sub.refl _) ⟨a,c,rfl,r,(Sl.len r).2⟩)
    obtain⟨I,aD,b⟩:=B0 b
    refine Or.inr (eX (λv g=>∃(a:Option Addr) (c:Nat),v = .slice a I.length c/\C0.R g [.slice a I.length c] I/\I.length<=9223372036854775807) (aI (λv y z d q=>by obtain⟨a,c,e,r,l⟩:=q;exact⟨a,c,e,C0.mono d r,l⟩) (aI ?_ ?_)))
    ·intro bK a9
     obtain⟨aX,bg,ar,ay⟩:=Sl.cutI (r:=Wp.int.toRp) (C0.mono a9 H) aD
     refine aI aX (eX bg (aI ar ?_))
     intro v D _
     obtain⟨a,c,rfl,r⟩:=ay v D
     exact aI g01 (aI (Sub.refl _) ⟨a,c,rfl,r,(Sl.len r).2⟩)
    obtain⟨s,aE,b⟩:=B0 b
    refine Or.inr (eX (λv g=>∃(a:Option Addr) (c:Nat),v = .slice a s.length c/\New C0 L g [.slice a s.length c] s/\s.length<=9223372036854775807) (aI (λv y z d q=>by obtain⟨a,c,e,r,l⟩:=q;exact⟨a,c,e,New.mono r d,l⟩) (aI ?_ ?_)))
    ·intro bL ba
     rintro _ ⟨bl,bx,rfl,a1,bV⟩
     refine Tr.mono (H01 _ _ _ _ _ a1 _ aE) ?_
     rintro _ aQ ⟨ah,b8,al,rfl,N⟩
     have d:=N.sub
     have aZ:=N.r
     obtain⟨rfl,aR⟩:=Sl.len aZ
     exact aI g01 (aI d ⟨ah,al,rfl,(New.from N ba),aR⟩)
    refine Or.inl (eX (.val (.int .i64 (IntKind.i64.wrap (m+ag)))) (aI ?_ ?_))
    ·intro bM cj
     exact aI rfl (aI rfl rfl)
    obtain⟨t,aF,b⟩:=B0 b
    refine Or.inr (eX (λv g=>∃(a:Option Addr) (c:Nat),v = .slice a t.length c/\C0.R g [.slice a t.length c] t/\t.length<=9223372036854775807) (aI (λv y z d q=>by obtain⟨a,c,e,r,l⟩:=q;exact⟨a,c,e,C0.mono d r,l⟩) (aI ?_ ?_)))
    ·intro bN bb
     obtain⟨aY,bh,au,az⟩:=Sl.cutI (r:=Wp.int.toRp) (C0.mono ((j.trans o).trans bb) G) aF
     refine aI aY (eX bh (aI au ?_))
     intro v D _
     obtain⟨a,c,rfl,r⟩:=az v D
     exact aI g01 (aI (Sub.refl _) ⟨a,c,rfl,r,(Sl.len r).2⟩)
    obtain⟨x,aG,b⟩:=B0 b
    refine Or.inr (eX (λv g=>∃(a:Option Addr) (c:Nat),v = .slice a x.length c/\K1.R g [.slice a x.length c] x/\x.length<=9223372036854775807) (aI (λv y z d q=>by obtain⟨a,c,e,r,l⟩:=q;exact⟨a,c,e,K1.mono d r,l⟩) (aI ?_ ?_)))
    ·intro aa ck
     rintro _ ⟨T,X,rfl,a2,bW⟩
     rintro _ ⟨U,Y,rfl,a3,bX⟩
     rintro _ ⟨V,Z,rfl,a4,bY⟩
     have av:[p,s,t]=x:=oJ aG
     intro v k hf
     obtain⟨a,c,rfl,r,d,l⟩:=U0.out (r:=C0.toRp) (xs:=x) hf (show F2 (C0.R aa) [[.slice T p.length X],[.slice U s.length Y],[.slice V t.length Z]] x from av▸(show F2 (C0.R aa) [[.slice T p.length X],[.slice U s.length Y],[.slice V t.length Z]] [p,s,t] from⟨a2,⟨a3.r,⟨a4,trivial⟩⟩⟩))
     exact aI ⟨rfl,rfl,rfl,[_],rfl⟩ (aI d ⟨a,c,rfl,r,l⟩)
    obtain⟨n,aH,b⟩:=B0 b
    refine Or.inr (eX (λv g=>∃(a:Option Addr) (c:Nat),v = .slice a n.length c/\New C0 L g [.slice a n.length c] n/\n.length<=9223372036854775807) (aI (λv y z d q=>by obtain⟨a,c,e,r,l⟩:=q;exact⟨a,c,e,New.mono r d,l⟩) (aI ?_ ?_)))
    ·intro bO bc
     rintro _ ⟨bm,bz,rfl,a5,bZ⟩
     refine Tr.mono (m03 _ _ _ _ _ a5 _ aH) ?_
     rintro _ aQ ⟨ai,ca,am,rfl,O⟩
     have d:=O.sub
     have a0:=O.r
     obtain⟨rfl,aS⟩:=Sl.len a0
     exact aI g01 (aI d ⟨ai,am,rfl,(New.from O bc),aS⟩)
    refine Or.inr (eX (λv g=>∃(a:Option Addr) (c:Nat),v = .slice a n.length c/\New C0 L g [.slice a n.length c] n/\n.length<=9223372036854775807) (aI (λv y z d q=>by obtain⟨a,c,e,r,l⟩:=q;exact⟨a,c,e,New.mono r d,l⟩) (aI ?_ ?_)))
    ·intro bP cl
     rintro _ ⟨aj,an,rfl,a6,aU⟩
     exact aI g01 (aI (Sub.refl _) ⟨aj,an,rfl,a6,aU⟩)
    intro bQ bd
    rintro _ ⟨ak,ao,rfl,a7,b0⟩
    rintro _ ⟨bn,bA,rfl,cd,b1⟩
    rintro _ ⟨bo,bB,rfl,ce,b2⟩
    rintro _ ⟨bp,bC,rfl,cf,b3⟩
    rintro _ ⟨bq,bD,rfl,cg,b4⟩
    rintro _ ⟨br,bE,rfl,ch,b5⟩
    rintro _ ⟨bs,bF,rfl,ci,b6⟩
    obtain rfl:=oJ b
    try dsimp only[P2,Q2]at f
    obtain rfl:=oJ f
    try dsimp only[P2,Q2]at u
    obtain rfl:=oJ u
    exact⟨ak,n.length,ao,rfl,(New.from a7 ((af.sub.trans j).trans o)),((j.trans o).trans bd)⟩
   ·exact U1 F ⟨(IntKind.i64.wrap (A+1)),rfl,rfl,o,(F0 _),b⟩
  ·obtain rfl:=oJ b
   try dsimp only[Z0,D1]at f
   exact U1 E ⟨(IntKind.i64.wrap (m+1)),rfl,rfl,(j.trans o),(F0 _),f⟩
 ·obtain rfl:=oJ f
  try dsimp only[Z0,D1]at u
  obtain rfl:=oJ u
  exact⟨B,i.length,C,rfl,(New.mono af j),j⟩
theorem t07(h:Hp)(S:List Value)(W:l0)(bf:Q1.R h S W)(G:Option Addr)(V H:Nat)(I:D0)(Y:C0.R h [.slice G V H] I)(r:D0×Bool)(g:m00 W I=some r):
  Tr Tryz.prog 17 #[.agg S.toArray,.slice G V H] h λv h'=>∃(O:Option Addr) (U Q:Nat),v = .tuple #[.slice O U Q,.bool r.2]/\C0.R h' [.slice O U Q] r.1/\Sub h h':=by
 obtain⟨a9,ag,cK,aq,ba,rfl,rfl,a2,X⟩:=I1 bf
 obtain⟨rfl,cp⟩:=Sl.len X
 obtain⟨rfl,cq⟩:=Sl.len Y
 unfold m00 at g
 dsimp only at g
 refine T3 (args:=[.agg #[.int .i64 a9,.slice ag ba.length aq],.slice G I.length H]) (fn:=Tryz.f17) rfl ?_
 refine trM g (C6 _ _ _ _ _ Y) ?_
 rintro y g db ca ⟨ah,cL,ar,rfl,x,L⟩
 obtain⟨rfl,cr⟩:=Sl.len x
 refine trM g (f00 _ _ _ (M0 a2 (K1.mono L X))) ?_
 rintro s g dc a3 ⟨P,cP,T,rfl,B,p⟩
 obtain⟨rfl,cv⟩:=Sl.len B
 obtain⟨N,aX,g⟩:=B0 g
 refine eX { vars:=[8],boxes:=[],owns:=[],fuel:=true } (eX (λvs os h'=>∃ u8,vs.tail = [.int .i64 u8]/\os = []/\Sub a3 h'/\H0 u8/\i7 y s (W1 vs) u8=some N) (eX (λ_ _=>0) (aI (eX W0 ⟨0,rfl,rfl,(Sub.refl _),(by decide),aX⟩) ?_)))
 rintro _ z a4 ⟨u8,⟨⟩,⟨⟩,j,b5,f⟩
 replace f:i7 y s z u8=some N:=f
 obtain _|z:=z
 ·cases f
 rw[i7.eq_2]at f
 refine ifB f (λaY f=>?_) λaY f=>?_
 ·obtain⟨M,aW,f⟩:=B0 f
  refine eX { vars:=[9],boxes:=[],owns:=[],fuel:=true } (eX (λvs os h'=>∃ m,vs.tail = [.int .i64 m]/\os = []/\Sub a4 h'/\H0 m/\g7 s y u8 (W1 vs) m=some M) (eX (λ_ _=>0) (aI (eX W0 ⟨0,rfl,rfl,(Sub.refl _),(by decide),aW⟩) ?_)))
  rintro _ A b7 ⟨m,⟨⟩,⟨⟩,k,b4,b⟩
  replace b:g7 s y u8 A m=some M:=b
  obtain _|A:=A
  ·cases b
  rw[g7.eq_2]at b
  refine ifB b (λaZ b=>?_) λaZ b=>?_
  ·refine Or.inr (Or.inr (Or.inr (Or.inl (aI (aI (by kernel_rfl) (by kernel_rfl)) ?_))))
   obtain⟨C,aM,b⟩:=B0 b
   refine Or.inr (eX (λv i=>∃(a:Option Addr) (c:Nat),v = .slice a C.length c/\C0.R i [.slice a C.length c] C/\C.length<=9223372036854775807) (aI (λv t u d q=>by obtain⟨a,c,e,r,l⟩:=q;exact⟨a,c,e,C0.mono d r,l⟩) (aI ?_ ?_)))
   ·intro b8 bm
    obtain⟨bb,bt,aA,aG⟩:=Sl.cutI (r:=Wp.int.toRp) (C0.mono (((p.trans j).trans k).trans bm) x) aM
    refine aI bb (eX bt (aI aA ?_))
    intro v w _
    obtain⟨a,c,rfl,r⟩:=aG v w
    exact aI g01 (aI (Sub.refl _) ⟨a,c,rfl,r,(Sl.len r).2⟩)
   obtain⟨bA,aN,b⟩:=B0 b
   obtain⟨ao,bP,aB,J⟩:=Sl.getI (r:=C0.toRp) (K1.mono (j.trans k) B) aN (by decide)
   obtain⟨ai,cM,au,rfl⟩:=Wp.slice_cell J
   obtain⟨rfl,cs⟩:=Sl.len J
   refine Or.inl (eX (.hel (.slice P s.length T) m 1 0) (aI ?_ ?_))
   ·intro cb cZ
    exact aI ao (aI rfl (aI rfl rfl))
   refine Or.inl (eX (.val (.slice ai bA.length au)) (aI ?_ ?_))
   ·intro cd bn
    exact eX _ (aI (Z7.up bn aB) (aI rfl (aI rfl rfl)))
   obtain⟨af,aO,b⟩:=B0 b
   obtain⟨cT,aL,b⟩:=B0 b
   have b6:H0 af:=C1 aL
   refine Or.inl (eX (.val (.int .i64 af)) (aI ?_ ?_))
   ·intro ce bo
    rintro _ ⟨bF,bU,rfl,bg,cy⟩
    exact Tr.val (D03 _ _ _ _ _ bg _ _ _ _ (C0.mono bo J) _ aO) (aI rfl (aI rfl rfl))
   intro cf o
   dsimp only[G09,W08]
   rintro _ ⟨bG,bV,rfl,cU,cz⟩
   refine ld b (K1.mono ((j.trans k).trans o) B) λdf bQ Z b=>?_
   obtain⟨bD,cN,bS,rfl⟩:=Wp.slice_cell Z
   obtain⟨rfl,ct⟩:=Sl.len Z
   refine ifB b (λa0 b=>?_) λa0 b=>?_
   ·refine Or.inr (Or.inr (Or.inr (Or.inl (aI (aI (by kernel_rfl) (by kernel_rfl)) ?_))))
    obtain⟨D,aP,b⟩:=B0 b
    refine Or.inr (eX (λv i=>∃(a:Option Addr) (c:Nat),v = .slice a D.length c/\C0.R i [.slice a D.length c] D/\D.length<=9223372036854775807) (aI (λv t u d q=>by obtain⟨a,c,e,r,l⟩:=q;exact⟨a,c,e,C0.mono d r,l⟩) (aI ?_ ?_)))
    ·intro cg bp
     obtain⟨bc,bu,aC,aH⟩:=Sl.cutI (r:=Wp.int.toRp) (C0.mono ((((p.trans j).trans k).trans o).trans bp) x) aP
     refine aI bc (eX bu (aI aC ?_))
     intro v w _
     obtain⟨a,c,rfl,r⟩:=aH v w
     exact aI g01 (aI (Sub.refl _) ⟨a,c,rfl,r,(Sl.len r).2⟩)
    obtain⟨bB,aQ,b⟩:=B0 b
    obtain⟨ap,bR,aD,K⟩:=Sl.getI (r:=C0.toRp) (K1.mono ((j.trans k).trans o) B) aQ (by decide)
    obtain⟨aj,cO,av,rfl⟩:=Wp.slice_cell K
    obtain⟨rfl,cu⟩:=Sl.len K
    refine Or.inl (eX (.hel (.slice P s.length T) m 1 0) (aI ?_ ?_))
    ·intro ch c0
     exact aI ap (aI rfl (aI rfl rfl))
    refine Or.inl (eX (.val (.slice aj bB.length av)) (aI ?_ ?_))
    ·intro ci bq
     exact eX _ (aI (Z7.up bq aD) (aI rfl (aI rfl rfl)))
    obtain⟨E,aR,b⟩:=B0 b
    refine Or.inr (eX (λv i=>∃(a:Option Addr) (c:Nat),v = .slice a E.length c/\C0.R i [.slice a E.length c] E/\E.length<=9223372036854775807) (aI (λv t u d q=>by obtain⟨a,c,e,r,l⟩:=q;exact⟨a,c,e,C0.mono d r,l⟩) (aI ?_ ?_)))
    ·intro cj br
     obtain⟨bd,bv,aE,aJ⟩:=Sl.cutI (r:=Wp.int.toRp) (C0.mono br K) aR
     refine aI bd (eX bv (aI aE ?_))
     intro v w _
     obtain⟨a,c,rfl,r⟩:=aJ v w
     exact aI g01 (aI (Sub.refl _) ⟨a,c,rfl,r,(Sl.len r).2⟩)
    obtain⟨F,aS,b⟩:=B0 b
    refine Or.inr (eX (λv i=>∃(a:Option Addr) (c:Nat),v = .slice a F.length c/\C0.R i [.slice a F.length c] F/\F.length<=9223372036854775807) (aI (λv t u d q=>by obtain⟨a,c,e,r,l⟩:=q;exact⟨a,c,e,C0.mono d r,l⟩) (aI ?_ ?_)))
    ·intro ck c1
     rintro _ ⟨bH,bW,rfl,bh,cA⟩
     refine Tr.mono (G01 _ _ _ _ _ bh _ aS) ?_
     rintro _ a5 ⟨ak,cQ,aw,rfl,aa,d⟩
     obtain⟨rfl,a6⟩:=Sl.len aa
     exact aI g01 (aI d ⟨ak,aw,rfl,aa,a6⟩)
    obtain⟨n,aU,b⟩:=B0 b
    refine Or.inr (eX (λv i=>∃(a:Option Addr) (c:Nat),v = .slice a n.length c/\C0.R i [.slice a n.length c] n/\n.length<=9223372036854775807) (aI (λv t u d q=>by obtain⟨a,c,e,r,l⟩:=q;exact⟨a,c,e,C0.mono d r,l⟩) (aI ?_ ?_)))
    ·intro cl c2
     rintro _ ⟨bI,bX,rfl,bi,cC⟩
     rintro _ ⟨bJ,bY,rfl,bj,cD⟩
     refine Tr.mono (D6 _ _ _ _ _ bi _ _ _ _ bj _ aU) ?_
     rintro _ a5 ⟨al,cR,ax,rfl,ab,d⟩
     obtain⟨rfl,a7⟩:=Sl.len ab
     exact aI g01 (aI d ⟨al,ax,rfl,ab,a7⟩)
    refine Or.inr (eX (λv i=>∃(a:Option Addr) (c:Nat),v = .slice a n.length c/\C0.R i [.slice a n.length c] n/\n.length<=9223372036854775807) (aI (λv t u d q=>by obtain⟨a,c,e,r,l⟩:=q;exact⟨a,c,e,C0.mono d r,l⟩) (aI ?_ ?_)))
    ·intro cm c3
     rintro _ ⟨an,az,rfl,bk,a8⟩
     exact aI g01 (aI (Sub.refl _) ⟨an,az,rfl,bk,a8⟩)
    intro cn ae
    dsimp only[G09,W08]
    rintro _ ⟨bK,bZ,rfl,bl,cE⟩
    rintro _ ⟨bL,b0,rfl,cV,cG⟩
    rintro _ ⟨bM,b1,rfl,cW,cH⟩
    rintro _ ⟨bN,b2,rfl,cX,cI⟩
    rintro _ ⟨bO,b3,rfl,cY,cJ⟩
    obtain⟨dg,aV,b⟩:=B0 b
    obtain⟨be,bx,aF,aK⟩:=Sl.cutI (r:=Wp.int.toRp) (C0.mono ((((p.trans j).trans k).trans o).trans ae) x) aV
    refine aI be (eX bx (aI aF ?_))
    intro bz a1 _
    obtain⟨bE,bT,rfl,ac⟩:=aK bz a1
    have cw:=(Sl.len ac).2
    refine trM b (D6 _ _ _ _ _ bl _ _ _ _ ac) ?_
    rintro bC b dd co ⟨am,cS,ay,rfl,ad,bs⟩
    obtain⟨rfl,cx⟩:=Sl.len ad
    obtain rfl:=oJ b
    try dsimp only[P2,Q2]at f
    obtain rfl:=oJ f
    try dsimp only[P2,Q2]at g
    obtain rfl:=oJ g
    exact⟨am,bC.length,ay,rfl,ad,((((((L.trans p).trans j).trans k).trans o).trans ae).trans bs)⟩
   ·exact U1 A ⟨(IntKind.i64.wrap (m+1)),rfl,rfl,(k.trans o),(F0 _),b⟩
  ·obtain rfl:=oJ b
   try dsimp only[Z0,D1]at f
   exact U1 z ⟨(IntKind.i64.wrap (u8+1)),rfl,rfl,(j.trans k),(F0 _),f⟩
 ·obtain rfl:=oJ f
  try dsimp only[Z0,D1]at g
  obtain rfl:=oJ g
  exact⟨ah,y.length,ar,rfl,(C0.mono (p.trans j) x),((L.trans p).trans j)⟩
theorem L0b(h:Hp)(y:List Value)(B:l0)(T:Q1.R h y B)(k:Option Addr)(A l:Nat)(p:D0)(D:C0.R h [.slice k A l] p)(r:D0×Int)(b:w00 B p=some r):
  Tr Tryz.prog 10 #[.agg y.toArray,.slice k A l] h λv h'=>∃(w:Option Addr) (z x:Nat),v = .tuple #[.slice w z x,.int .i64 r.2]/\C0.R h' [.slice w z x] r.1/\Sub h h':=by
 obtain⟨n,H,ad,K,o,rfl,rfl,Q,C⟩:=I1 T
 obtain⟨rfl,Y⟩:=Sl.len C
 obtain⟨rfl,Z⟩:=Sl.len D
 unfold w00 at b
 dsimp only at b
 refine T3 (args:=[.agg #[.int .i64 n,.slice H o.length K],.slice k p.length l]) (fn:=Tryz.f10) rfl ?_
 refine trM b (C6 _ _ _ _ _ D) ?_
 rintro F b ah S ⟨I,ae,L,rfl,E,s⟩
 obtain⟨rfl,ab⟩:=Sl.len E
 obtain⟨u,N,b⟩:=B0 b
 refine eX { vars:=[6,7],boxes:=[],owns:=[],fuel:=true } (eX (λvs os h'=>∃ e m f c d,vs.tail = [.slice e m f,.int .i64 d]/\os = []/\Sub S h'/\C0.R h' [.slice e m f] c/\H0 d/\j6 n o (W1 vs) c d=some u) (eX (λ_ _=>0) (aI (eX W0 ⟨I,F.length,L,F,0,rfl,rfl,(Sub.refl _),E,(by decide),N⟩) ?_)))
 rintro _ _ g X ⟨e,m,f,c,d,⟨⟩,⟨⟩,j,i,V,a⟩
 replace a:j6 n o g c d=some u:=a
 obtain _|g:=g
 ·cases a
 rw[j6.eq_2]at a
 obtain⟨rfl,aa⟩:=Sl.len i
 refine ifB a (λP a=>?_) λP a=>?_
 ·refine trM a (t07 _ _ _ (M0 Q (K1.mono (s.trans j) C)) _ _ _ _ i) ?_
  rintro U a ag W ⟨J,af,M,rfl,q,t⟩
  obtain⟨G,ai⟩:=U
  dsimp only at a q
  obtain⟨rfl,ac⟩:=Sl.len q
  refine ifB a (λO a=>?_) λO a=>?_
  ·obtain rfl:=oJ a
   try dsimp only[P2,Q2]at b
   obtain rfl:=oJ b
   exact⟨e,c.length,f,rfl,(C0.mono t i),((s.trans j).trans t)⟩
  ·exact U1 g ⟨J,G.length,M,G,(IntKind.i64.wrap (d+1)),rfl,rfl,(j.trans t),q,(F0 _),a⟩
 ·obtain rfl:=oJ a
  try dsimp only[Z0,D1]at b
  obtain rfl:=oJ b
  exact⟨e,c.length,f,rfl,i,(s.trans j)⟩
theorem D09(h:Hp)(c:List Value)(e:j0)(u:w4.R h c e)(d:List Value)(f:Q0)(x:D4.R h d f)(r:Bool)(a:v01 e f=some r):
  Tr Tryz.prog 112 #[.agg c.toArray,.agg d.toArray] h λv h'=>v = .bool r/\h'=h:=by
 obtain⟨n,b,g,A,i,o,rfl,rfl,j,y,w⟩:=E1 u
 obtain⟨rfl,z⟩:=Sl.len w
 obtain⟨p,s,t,rfl,rfl,k,l,m⟩:=E4 x
 unfold v01 at a
 dsimp only at a
 refine Tr.forget (T3 (args:=[.agg #[.int .i64 n,.int .i64 b,.slice g o.length i],.agg #[.int .i64 p,.int .i64 s,.int .i64 t]]) (fn:=Tryz.f112) rfl ?_)
 refine trV a (B6 _ _ k 0 (by decide) (IntKind.i64.wrap (b-1)) (F0 _)) λB a=>?_
 refine trG a (λq=>B6 _ _ m 0 (by decide) (IntKind.i64.wrap (b-1)) (F0 _)) λC a=>?_
 refine trG a (λq=>B6 _ _ l 1 (by decide) _ j) λD a=>?_
 obtain rfl:=oJ a
 exact aI rfl (Sub.refl _)
theorem k04(h:Hp)(n:List Value)(x:Q0)(P:D4.R h n x)(o:List Value)(y:Q0)(Q:D4.R h o y)(r:Int)(b:w8 x y=some r):
  Tr Tryz.prog 125 #[.agg n.toArray,.agg o.toArray] h λv h'=>v = .int .i64 r/\h'=h:=by
 obtain⟨d,e,f,rfl,rfl,p,q,s⟩:=E4 P
 obtain⟨g,i,j,rfl,rfl,t,u,w⟩:=E4 Q
 unfold w8 at b
 dsimp only at b
 refine Tr.forget (T3 (args:=[.agg #[.int .i64 d,.int .i64 e,.int .i64 f],.agg #[.int .i64 g,.int .i64 i,.int .i64 j]]) (fn:=Tryz.f125) rfl ?_)
 obtain⟨m,L,b⟩:=B0 b
 refine eX { vars:=[7],boxes:=[],owns:=[],fuel:=true } (eX (λvs os h'=>∃ k,vs.tail = [.int .i64 k]/\os = []/\Sub h h'/\H0 k/\l7 d e f g i j (W1 vs) k=some m) (eX (λ_ _=>0) (aI (eX W0 ⟨0,rfl,rfl,(Sub.refl _),(by decide),L⟩) ?_)))
 rintro _ l af ⟨k,⟨⟩,⟨⟩,c,aa,a⟩
 replace a:l7 d e f g i j l k=some m:=a
 obtain _|l:=l
 ·cases a
 rw[l7.eq_2]at a
 refine ifB a (λN a=>?_) λN a=>?_
 ·refine Or.inl (aI (aI (by kernel_rfl) (by kernel_rfl)) ?_)
  obtain⟨ah,I,a⟩:=B0 a
  obtain⟨A,X,E,T⟩:=f03 (F2.up (r:=Wp.int.toRp) c (show F2 (Wp.int.R h) ([[.int .i64 d],[.int .i64 e],[.int .i64 f]]:List (List Value)) [d,e,f] from⟨⟨rfl,p⟩,⟨⟨rfl,q⟩,⟨⟨rfl,s⟩,trivial⟩⟩⟩)) I
  refine aI A ?_
  obtain⟨rfl,ac⟩:=T
  refine eX _ (aI E ?_)
  obtain⟨ai,J,a⟩:=B0 a
  obtain⟨B,Y,F,U⟩:=f03 (F2.up (r:=Wp.int.toRp) c (show F2 (Wp.int.R h) ([[.int .i64 g],[.int .i64 i],[.int .i64 j]]:List (List Value)) [g,i,j] from⟨⟨rfl,t⟩,⟨⟨rfl,u⟩,⟨⟨rfl,w⟩,trivial⟩⟩⟩)) J
  refine aI B ?_
  obtain⟨rfl,ad⟩:=U
  refine eX _ (aI F ?_)
  refine ifB a (λO a=>?_) λO a=>?_
  ·obtain rfl:=oJ a
   try dsimp only[P2,Q2]at b
   obtain rfl:=oJ b
   exact aI rfl c
  ·refine Or.inl (aI (aI (by kernel_rfl) (by kernel_rfl)) ?_)
   obtain⟨aj,K,a⟩:=B0 a
   obtain⟨C,Z,G,V⟩:=f03 (F2.up (r:=Wp.int.toRp) c (show F2 (Wp.int.R h) ([[.int .i64 d],[.int .i64 e],[.int .i64 f]]:List (List Value)) [d,e,f] from⟨⟨rfl,p⟩,⟨⟨rfl,q⟩,⟨⟨rfl,s⟩,trivial⟩⟩⟩)) K
   refine aI C ?_
   obtain⟨rfl,ae⟩:=V
   refine eX _ (aI G ?_)
   obtain⟨ag,H,a⟩:=B0 a
   obtain⟨z,W,D,S⟩:=f03 (F2.up (r:=Wp.int.toRp) c (show F2 (Wp.int.R h) ([[.int .i64 g],[.int .i64 i],[.int .i64 j]]:List (List Value)) [g,i,j] from⟨⟨rfl,t⟩,⟨⟨rfl,u⟩,⟨⟨rfl,w⟩,trivial⟩⟩⟩)) H
   refine aI z ?_
   obtain⟨rfl,ab⟩:=S
   refine eX _ (aI D ?_)
   refine ifB a (λM a=>?_) λM a=>?_
   ·obtain rfl:=oJ a
    try dsimp only[P2,Q2]at b
    obtain rfl:=oJ b
    exact aI rfl c
   ·exact U1 l ⟨(IntKind.i64.wrap (k+1)),rfl,rfl,c,(F0 _),a⟩
 ·obtain rfl:=oJ a
  try dsimp only[Z0,D1]at b
  obtain rfl:=oJ b
  exact aI rfl c
theorem E6(h:Hp)(l:List Value)(t:j0)(N:w4.R h l t)(r:Bool)(b:K4 t=some r):
  Tr Tryz.prog 109 #[.agg l.toArray] h λv h'=>v = .bool r/\h'=h:=by
 obtain⟨g,i,u,aa,w,j,rfl,rfl,o,p,e⟩:=E1 N
 obtain⟨rfl,Z⟩:=Sl.len e
 unfold K4 at b
 dsimp only at b
 refine Tr.forget (T3 (args:=[.agg #[.int .i64 g,.int .i64 i,.slice u j.length w]]) (fn:=Tryz.f109) rfl ?_)
 obtain⟨k,B,b⟩:=B0 b
 refine eX { vars:=[3],boxes:=[],owns:=[],fuel:=true } (eX (λvs os h'=>∃ d,vs.tail = [.int .i64 d]/\os = []/\Sub h h'/\H0 d/\G7 j g i (W1 vs) d=some k) (eX (λ_ _=>0) (aI (eX W0 ⟨0,rfl,rfl,(Sub.refl _),(by decide),B⟩) ?_)))
 rintro _ f s ⟨d,⟨⟩,⟨⟩,c,X,a⟩
 replace a:G7 j g i f d=some k:=a
 obtain _|f:=f
 ·cases a
 rw[G7.eq_2]at a
 refine ifB a (λD a=>?_) λD a=>?_
 ·refine Or.inl (aI (aI (by kernel_rfl) (by kernel_rfl)) ?_)
  refine ld a (P1.mono c e) λae U O a=>?_
  obtain⟨af,ag,ah,rfl,rfl,E,F,G⟩:=E4 O
  try dsimp only at a
  obtain⟨T,y,a⟩:=B0 a
  refine eX (.bool T) (aI (D09 _ _ _ (J0 o p (P1.mono c e)) _ _ (V2 E F G) _  y) ?_)
  obtain⟨ai,z,a⟩:=B0 a
  obtain⟨V,m,P⟩:=Sl.getG (r:=D4.toRp) (P1.mono c e) z (by decide) (v0q s)
  refine aI (λq=>(m q).1) ?_
  obtain⟨aj,ak,al,rfl,rfl,H,I,J⟩:=E4 P
  try dsimp only at a
  refine eX _ (aI (λq=>(m q).2) ?_)
  obtain⟨am,A,a⟩:=B0 a
  obtain⟨W,n,Q⟩:=Sl.getG (r:=D4.toRp) (P1.mono c e) A (by decide) (v0q s)
  refine aI (λq=>(n q).1) ?_
  obtain⟨an,ao,ap,rfl,rfl,K,L,M⟩:=E4 Q
  try dsimp only at a
  refine eX _ (aI (λq=>(n q).2) ?_)
  refine trG a (λq=>k04 _ _ _ (V2 H I J) _ _ (V2 K L M)) λS a=>?_
  obtain⟨ab,x,a⟩:=B0 a
  have Y:H0 S:=C1 x
  refine ifB a (λC a=>?_) λC a=>?_
  ·obtain rfl:=oJ a
   try dsimp only[P2,Q2]at b
   obtain rfl:=oJ b
   exact aI rfl c
  ·exact U1 f ⟨(IntKind.i64.wrap (d+1)),rfl,rfl,c,(F0 _),a⟩
 ·obtain rfl:=oJ a
  try dsimp only[Z0,D1]at b
  refine trV b (B6 _ _ o 1 (by decide) 3 (by decide)) λac b=>?_
  refine trG b (λq=>B6 _ _ p 1 (by decide) 40 (by decide)) λad b=>?_
  obtain rfl:=oJ b
  exact aI rfl c
theorem g02(h:Hp)(u:Option Addr)(F w:Nat)(s:D0)(k:C0.R h [.slice u F w] s)(b:Int)(g:H0 b)(r:D0)(f:U8 s b=some r):
  Tr Tryz.prog 129 #[.slice u F w,.int .i64 b] h λv h'=>∃(y:Option Addr) (E z:Nat),v = .slice y E z/\C0.R h' [.slice y E z] r/\Sub h h':=by
 obtain⟨rfl,ak⟩:=Sl.len k
 unfold U8 at f
 refine T3 (args:=[.slice u s.length w,.int .i64 b]) (fn:=Tryz.f129) rfl ?_
 obtain⟨x,U,f⟩:=B0 f
 refine eX { vars:=[6,7],boxes:=[],owns:=[0],fuel:=true } (eX (λvs os h'=>∃ t j m i,vs.tail = [.bool t,.int .i64 j]/\os = [m]/\Sub h h'/\H0 j/\F2 (Wp.int.R h') m i/\l5 s b (W1 vs) t j i=some x) (eX (λ_ _=>0) (aI (eX W0 ⟨false,0,[],([]:D0),rfl,rfl,(Sub.refl _),(by decide),(show F2 (Wp.int.R h) ([]:List (List Value)) ([]:D0) from trivial),U⟩) ?_)))
 rintro _ _ m l d ⟨t,j,aB,i,⟨⟩,⟨⟩,e,ae,c,a⟩
 replace a:l5 s b l t j i=some x:=a
 obtain _|l:=l
 ·cases a
 rw[l5.eq_2]at a
 refine ifB a (λY a=>?_) λY a=>?_
 ·refine ldI a (C0.mono e k) λaA ah a=>?_
  refine ifB a (λZ a=>?_) λZ a=>?_
  ·refine ldI a (C0.mono e k) λay af a=>?_
   refine ifB a (λV a=>?_) λV a=>?_
   ·obtain⟨an,M,a⟩:=B0 a
    refine aI (T0 M (by first|rw[F2.length c,F2.length (show F2 (Wp.int.R d) ([[.int .i64 b]]:List (List Value)) [b] from⟨⟨rfl,g⟩,trivial⟩)]|exact congrArg (·+1) (F2.length c))) ?_
    refine ldI a (C0.mono e k) λn A a=>?_
    obtain⟨ao,N,a⟩:=B0 a
    refine aI (T0 N (by first|rw[F2.length (F2.append c (show F2 (Wp.int.R d) ([[.int .i64 b]]:List (List Value)) [b] from⟨⟨rfl,g⟩,trivial⟩)),F2.length (show F2 (Wp.int.R d) ([[.int .i64 n]]:List (List Value)) [n] from⟨⟨rfl,A⟩,trivial⟩)]|exact congrArg (·+1) (F2.length (F2.append c (show F2 (Wp.int.R d) ([[.int .i64 b]]:List (List Value)) [b] from⟨⟨rfl,g⟩,trivial⟩))))) ?_
    exact U1 l ⟨true,(IntKind.i64.wrap (j+1)),((m++([[.int .i64 b]]:List (List Value)))++([[.int .i64 n]]:List (List Value))),((i ++ [b]) ++ [n]),rfl,rfl,e,(F0 _),(F2.append (F2.append c (show F2 (Wp.int.R d) ([[.int .i64 b]]:List (List Value)) [b] from⟨⟨rfl,g⟩,trivial⟩)) (show F2 (Wp.int.R d) ([[.int .i64 n]]:List (List Value)) [n] from⟨⟨rfl,A⟩,trivial⟩)),a⟩
   ·refine ldI a (C0.mono e k) λo B a=>?_
    obtain⟨ap,O,a⟩:=B0 a
    refine aI (T0 O (by first|rw[F2.length c,F2.length (show F2 (Wp.int.R d) ([[.int .i64 o]]:List (List Value)) [o] from⟨⟨rfl,B⟩,trivial⟩)]|exact congrArg (·+1) (F2.length c))) ?_
    exact U1 l ⟨true,(IntKind.i64.wrap (j+1)),(m++([[.int .i64 o]]:List (List Value))),(i ++ [o]),rfl,rfl,e,(F0 _),(F2.append c (show F2 (Wp.int.R d) ([[.int .i64 o]]:List (List Value)) [o] from⟨⟨rfl,B⟩,trivial⟩)),a⟩
  ·refine ldI a (C0.mono e k) λaz ag a=>?_
   refine ifB a (λW a=>?_) λW a=>?_
   ·obtain⟨aq,P,a⟩:=B0 a
    refine aI (T0 P (by first|rw[F2.length c,F2.length (show F2 (Wp.int.R d) ([[.int .i64 b]]:List (List Value)) [b] from⟨⟨rfl,g⟩,trivial⟩)]|exact congrArg (·+1) (F2.length c))) ?_
    refine ldI a (C0.mono e k) λp C a=>?_
    obtain⟨ar,Q,a⟩:=B0 a
    refine aI (T0 Q (by first|rw[F2.length (F2.append c (show F2 (Wp.int.R d) ([[.int .i64 b]]:List (List Value)) [b] from⟨⟨rfl,g⟩,trivial⟩)),F2.length (show F2 (Wp.int.R d) ([[.int .i64 p]]:List (List Value)) [p] from⟨⟨rfl,C⟩,trivial⟩)]|exact congrArg (·+1) (F2.length (F2.append c (show F2 (Wp.int.R d) ([[.int .i64 b]]:List (List Value)) [b] from⟨⟨rfl,g⟩,trivial⟩))))) ?_
    exact U1 l ⟨true,(IntKind.i64.wrap (j+1)),((m++([[.int .i64 b]]:List (List Value)))++([[.int .i64 p]]:List (List Value))),((i ++ [b]) ++ [p]),rfl,rfl,e,(F0 _),(F2.append (F2.append c (show F2 (Wp.int.R d) ([[.int .i64 b]]:List (List Value)) [b] from⟨⟨rfl,g⟩,trivial⟩)) (show F2 (Wp.int.R d) ([[.int .i64 p]]:List (List Value)) [p] from⟨⟨rfl,C⟩,trivial⟩)),a⟩
   ·refine ldI a (C0.mono e k) λq D a=>?_
    obtain⟨au,S,a⟩:=B0 a
    refine aI (T0 S (by first|rw[F2.length c,F2.length (show F2 (Wp.int.R d) ([[.int .i64 q]]:List (List Value)) [q] from⟨⟨rfl,D⟩,trivial⟩)]|exact congrArg (·+1) (F2.length c))) ?_
    exact U1 l ⟨t,(IntKind.i64.wrap (j+1)),(m++([[.int .i64 q]]:List (List Value))),(i ++ [q]),rfl,rfl,e,(F0 _),(F2.append c (show F2 (Wp.int.R d) ([[.int .i64 q]]:List (List Value)) [q] from⟨⟨rfl,D⟩,trivial⟩)),a⟩
 ·obtain rfl:=oJ a
  try dsimp only[Z0,D1]at f
  refine ifB f (λX f=>?_) λX f=>?_
  ·obtain⟨av,T,f⟩:=B0 f
   refine aI (T0 T (by first|rw[F2.length c,F2.length (show F2 (Wp.int.R d) ([[.int .i64 b]]:List (List Value)) [b] from⟨⟨rfl,g⟩,trivial⟩)]|exact congrArg (·+1) (F2.length c))) ?_
   intro aw ai K
   obtain⟨G,I,rfl,aa,ac,al⟩:=U0.out (r:=Wp.int.toRp) K (F2.append c (show F2 (Wp.int.R d) ([[.int .i64 b]]:List (List Value)) [b] from⟨⟨rfl,g⟩,trivial⟩))
   obtain rfl:=oJ f
   exact⟨G,((i ++ [b])).length,I,rfl,aa,(e.trans ac)⟩
  ·intro ax aj L
   obtain⟨H,J,rfl,ab,ad,am⟩:=U0.out (r:=Wp.int.toRp) L c
   obtain rfl:=oJ f
   exact⟨H,i.length,J,rfl,ab,(e.trans ad)⟩
theorem n03(h:Hp)(i:Option Addr)(l j:Nat)(e:D0)(m:C0.R h [.slice i l j] e)(c:Int)(q:H0 c)(r:Bool)(b:B9 e c=some r):
  Tr Tryz.prog 128 #[.slice i l j,.int .i64 c] h λv h'=>v = .bool r/\h'=h:=by
 obtain⟨rfl,w⟩:=Sl.len m
 unfold B9 at b
 refine Tr.forget (T3 (args:=[.slice i e.length j,.int .i64 c]) (fn:=Tryz.f128) rfl ?_)
 obtain⟨k,n,b⟩:=B0 b
 refine eX { vars:=[5],boxes:=[],owns:=[],fuel:=true } (eX (λvs os h'=>∃ d,vs.tail = [.int .i64 d]/\os = []/\Sub h h'/\H0 d/\c9 e c (W1 vs) d=some k) (eX (λ_ _=>0) (aI (eX W0 ⟨0,rfl,rfl,(Sub.refl _),(by decide),n⟩) ?_)))
 rintro _ f u ⟨d,⟨⟩,⟨⟩,g,s,a⟩
 replace a:c9 e c f d=some k:=a
 obtain _|f:=f
 ·cases a
 rw[c9.eq_2]at a
 refine ifB a (λo a=>?_) λo a=>?_
 ·refine ldI a (C0.mono g m) λx t a=>?_
  refine ifB a (λp a=>?_) λp a=>?_
  ·obtain rfl:=oJ a
   try dsimp only[P2,Q2]at b
   obtain rfl:=oJ b
   exact aI rfl g
  ·exact U1 f ⟨(IntKind.i64.wrap (d+1)),rfl,rfl,g,(F0 _),a⟩
 ·obtain rfl:=oJ a
  try dsimp only[Z0,D1]at b
  obtain rfl:=oJ b
  exact aI rfl g
theorem b0d(h:Hp)(t:List Value)(x:j0)(Y:w4.R h t x)(f:Int)(ah:H0 f)(g:Int)(ai:H0 g)(r:D0)(e:M00 x f g=some r):
  Tr Tryz.prog 116 #[.agg t.toArray,.int .i64 f,.int .i64 g] h λv h'=>∃(q:Option Addr) (w s:Nat),v = .slice q w s/\C0.R h' [.slice q w s] r/\Sub h h':=by
 obtain⟨W,X,F,ay,K,n,rfl,rfl,af,ag,y⟩:=E1 Y
 obtain⟨rfl,aq⟩:=Sl.len y
 unfold M00 at e
 dsimp only at e
 refine T3 (args:=[.agg #[.int .i64 W,.int .i64 X,.slice F n.length K],.int .i64 f,.int .i64 g]) (fn:=Tryz.f116) rfl ?_
 obtain⟨p,P,e⟩:=B0 e
 refine eX { vars:=[7,8],boxes:=[],owns:=[],fuel:=true,pubs:=[7,10] } (eX (λvs os h'=>∃(j:Option Addr) (m k:Nat) (d:D0) (b:Int),vs.tail = [.slice j m k,.int .i64 b]/\os = []/\Sub h h'/\C0.R h' [.slice j m k] d/\H0 b/\M4 n g f (W1 vs) d b=some p) (eX (λ_ _=>0) ?_))
 intro aC an f3
 obtain⟨J,O,rfl,aa,ad,ax⟩:=U0.out (r:=Wp.int.toRp) f3 (show F2 (Wp.int.R h) ([]:List (List Value)) ([]:D0) from trivial)
 refine aI (eX W0 ⟨J,(([]:D0)).length,O,([]:D0),0,rfl,rfl,ad,aa,(by decide),P⟩) ?_
 rintro _ _ c ap ⟨j,m,k,d,b,⟨⟩,⟨⟩,i,l,aj,a⟩
 replace a:M4 n g f c d b=some p:=a
 obtain _|c:=c
 ·cases a
 rw[M4.eq_2]at a
 obtain⟨rfl,ar⟩:=Sl.len l
 refine ifB a (λQ a=>?_) λQ a=>?_
 ·refine ld a (P1.mono i y) λaG ae Z a=>?_
  obtain⟨aH,aJ,aK,rfl,rfl,u,ak,V⟩:=E4 Z
  try dsimp only at a
  refine ifB a (λS a=>?_) λS a=>?_
  ·refine trM a (g02 _ _ _ _ _ l _ V) ?_
   rintro C a aD al ⟨G,az,L,rfl,o,B⟩
   obtain⟨rfl,au⟩:=Sl.len o
   refine ifB a (λT a=>?_) λT a=>?_
   ·refine trM a (g02 _ _ _ _ _ o _ u) ?_
    rintro D a aE am ⟨H,aA,M,rfl,z,ab⟩
    obtain⟨rfl,av⟩:=Sl.len z
    exact U1 c ⟨H,D.length,M,D,(IntKind.i64.wrap (b+1)),rfl,rfl,((i.trans B).trans ab),z,(F0 _),a⟩
   ·exact U1 c ⟨G,C.length,L,C,(IntKind.i64.wrap (b+1)),rfl,rfl,(i.trans B),o,(F0 _),a⟩
  ·refine ifB a (λU a=>?_) λU a=>?_
   ·refine trM a (g02 _ _ _ _ _ l _ u) ?_
    rintro E a aF ao ⟨I,aB,N,rfl,A,ac⟩
    obtain⟨rfl,aw⟩:=Sl.len A
    exact U1 c ⟨I,E.length,N,E,(IntKind.i64.wrap (b+1)),rfl,rfl,(i.trans ac),A,(F0 _),a⟩
   ·exact U1 c ⟨j,d.length,k,d,(IntKind.i64.wrap (b+1)),rfl,rfl,i,l,(F0 _),a⟩
 ·obtain rfl:=oJ a
  try dsimp only[Z0,D1]at e
  obtain rfl:=oJ e
  exact⟨j,d.length,k,rfl,l,i⟩
theorem o03(h:Hp)(d:List Value)(e:j0)(u:w4.R h d e)(b:Int)(o:H0 b)(c:Int)(p:H0 c)(r:Int)(a:i8 e b c=some r):
  Tr Tryz.prog 91 #[.agg d.toArray,.int .i64 b,.int .i64 c] h λv h'=>v = .int .i64 r/\h'=h:=by
 obtain⟨q,s,j,C,k,t,rfl,rfl,m,n,f⟩:=E1 u
 obtain⟨rfl,A⟩:=Sl.len f
 unfold i8 at a
 dsimp only at a
 refine Tr.forget (T3 (args:=[.agg #[.int .i64 q,.int .i64 s,.slice j t.length k],.int .i64 b,.int .i64 c]) (fn:=Tryz.f91) rfl ?_)
 refine trM a (b0d _ _ _ (J0 m n f) _ o _ p) ?_
 rintro F a E z ⟨w,D,x,rfl,g,i⟩
 obtain⟨rfl,B⟩:=Sl.len g
 refine ifB a (λl a=>?_) λl a=>?_
 ·obtain rfl:=oJ a
  exact aI rfl i
 ·refine ldI a g λG y a=>?_
  obtain rfl:=oJ a
  exact aI rfl i
theorem o00(h:Hp)(p:List Value)(u:j0)(E:w4.R h p u)(r:Bool)(c:F6 u=some r):
  Tr Tryz.prog 83 #[.agg p.toArray] h λv h'=>v = .bool r/\h'=h:=by
 obtain⟨l,m,w,U,x,f,rfl,rfl,s,t,g⟩:=E1 E
 obtain⟨rfl,T⟩:=Sl.len g
 unfold F6 at c
 dsimp only at c
 refine Tr.forget (T3 (args:=[.agg #[.int .i64 l,.int .i64 m,.slice w f.length x]]) (fn:=Tryz.f83) rfl ?_)
 obtain⟨n,y,c⟩:=B0 c
 refine eX { vars:=[3],boxes:=[],owns:=[],fuel:=true } (eX (λvs os h'=>∃ d,vs.tail = [.int .i64 d]/\os = []/\Sub h h'/\H0 d/\L5 f l m (W1 vs) d=some n) (eX (λ_ _=>0) (aI (eX W0 ⟨0,rfl,rfl,(Sub.refl _),(by decide),y⟩) ?_)))
 rintro _ k D ⟨d,⟨⟩,⟨⟩,e,J,b⟩
 replace b:L5 f l m k d=some n:=b
 obtain _|k:=k
 ·cases b
 rw[L5.eq_2]at b
 refine trG b (λq=>E6 _ _ _ (J0 s t (P1.mono e g))) λae b=>?_
 refine ifB b (λC b=>?_) λC b=>?_
 ·obtain⟨o,z,b⟩:=B0 b
  refine eX { vars:=[4],boxes:=[],owns:=[],fuel:=true } (eX (λvs os h'=>∃ u8,vs.tail = [.int .i64 u8]/\os = []/\Sub D h'/\H0 u8/\Y6 d f (W1 vs) u8=some o) (eX (λ_ _=>0) (aI (eX W0 ⟨0,rfl,rfl,(Sub.refl _),(by decide),z⟩) ?_)))
  rintro _ j S ⟨u8,⟨⟩,⟨⟩,i,K,a⟩
  replace a:Y6 d f j u8=some o:=a
  obtain _|j:=j
  ·cases a
  rw[Y6.eq_2]at a
  refine ifB a (λA a=>?_) λA a=>?_
  ·refine ld a (P1.mono (e.trans i) g) λV H F a=>?_
   obtain⟨W,X,Y,rfl,rfl,L,M,N⟩:=E4 F
   try dsimp only at a
   refine ld a (P1.mono (e.trans i) g) λZ I G a=>?_
   obtain⟨aa,ab,ac,rfl,rfl,O,P,Q⟩:=E4 G
   try dsimp only at a
   refine ifB a (λB a=>?_) λB a=>?_
   ·obtain rfl:=oJ a
    try dsimp only[P2,Q2]at b
    obtain rfl:=oJ b
    try dsimp only[P2,Q2]at c
    obtain rfl:=oJ c
    exact aI rfl (e.trans i)
   ·exact U1 j ⟨(IntKind.i64.wrap (u8+1)),rfl,rfl,i,(F0 _),a⟩
  ·obtain rfl:=oJ a
   try dsimp only[Z0,D1]at b
   exact U1 k ⟨(IntKind.i64.wrap (d+1)),rfl,rfl,(e.trans i),(F0 _),b⟩
 ·obtain rfl:=oJ b
  try dsimp only[Z0,D1]at c
  refine trV c (E6 _ _ _ (J0 s t (P1.mono e g))) λad c=>?_
  obtain rfl:=oJ c
  exact aI rfl e
theorem u07(h:Hp)(t:List Value)(z:j0)(M:w4.R h t z)(d:Int)(x:H0 d)(k:Option Addr)(y l:Nat)(e:D0)(A:C0.R h [.slice k y l] e)(r:Int×Bool)(b:k00 z d e=some r):
  Tr Tryz.prog 67 #[.agg t.toArray,.int .i64 d,.slice k y l] h λv h'=>v = .tuple #[.int .i64 r.1,.bool r.2]/\h'=h:=by
 obtain⟨m,j,B,S,C,n,rfl,rfl,u,w,o⟩:=E1 M
 obtain⟨rfl,P⟩:=Sl.len o
 obtain⟨rfl,Q⟩:=Sl.len A
 unfold k00 at b
 dsimp only at b
 refine Tr.forget (T3 (args:=[.agg #[.int .i64 m,.int .i64 j,.slice B n.length C],.int .i64 d,.slice k e.length l]) (fn:=Tryz.f67) rfl ?_)
 refine trV b (o00 _ _ _ (J0 u w o)) λU b=>?_
 refine trG b (λq=>B6 _ _ x 0 (by decide) (IntKind.i64.wrap (j-1)) (F0 _)) λW b=>?_
 refine ifB b (λH b=>?_) λH b=>?_
 ·obtain rfl:=oJ b
  exact aI rfl (Sub.refl _)
 ·obtain⟨s,F,b⟩:=B0 b
  refine eX { vars:=[1,8],boxes:=[],owns:=[],fuel:=true } (eX (λvs os h'=>∃ g c,vs.tail = [.int .i64 g,.int .i64 c]/\os = []/\Sub h h'/\H0 g/\H0 c/\Z6 e m j n (W1 vs) g c=some s) (eX (λ_ _=>0) (aI (eX W0 ⟨d,0,rfl,rfl,(Sub.refl _),x,(by decide),F⟩) ?_)))
  rintro _ _ i O ⟨g,c,⟨⟩,⟨⟩,f,J,N,a⟩
  replace a:Z6 e m j n i g c=some s:=a
  obtain _|i:=i
  ·cases a
  rw[Z6.eq_2]at a
  refine ifB a (λI a=>?_) λI a=>?_
  ·refine Or.inl (aI (aI (by kernel_rfl) (by kernel_rfl)) ?_)
   refine ldI a (C0.mono f A) λV K a=>?_
   obtain⟨p,E,a⟩:=B0 a
   refine eX (.int .i64 p) (aI (o03 _ _ _ (J0 u w (P1.mono f o)) _ J _ K _  E) ?_)
   obtain⟨T,D,a⟩:=B0 a
   have L:H0 p:=C1 D
   refine ifB a (λG a=>?_) λG a=>?_
   ·obtain rfl:=oJ a
    try dsimp only[P2,Q2]at b
    obtain rfl:=oJ b
    exact aI rfl f
   ·exact U1 i ⟨p,(IntKind.i64.wrap (c+1)),rfl,rfl,f,L,(F0 _),a⟩
  ·obtain rfl:=oJ a
   try dsimp only[Z0,D1]at b
   obtain rfl:=oJ b
   exact aI rfl f
theorem i0a(h:Hp)(A:List Value)(E:l0)(ab:Q1.R h A E)(B:List Value)(F:j0)(ac:w4.R h B F)(r:Int×Int)(c:Q8 E F=some r):
  Tr Tryz.prog 84 #[.agg A.toArray,.agg B.toArray] h λv h'=>v = .tuple #[.int .i64 r.1,.int .i64 r.2]/\h'=h:=by
 obtain⟨o,y,av,z,g,rfl,rfl,Y,p⟩:=I1 ab
 obtain⟨rfl,aq⟩:=Sl.len p
 obtain⟨i,j,J,aw,M,k,rfl,rfl,C,D,s⟩:=E1 ac
 obtain⟨rfl,ar⟩:=Sl.len s
 unfold Q8 at c
 dsimp only at c
 refine Tr.forget (T3 (args:=[.agg #[.int .i64 o,.slice y g.length z],.agg #[.int .i64 i,.int .i64 j,.slice J k.length M]]) (fn:=Tryz.f84) rfl ?_)
 obtain⟨w,T,c⟩:=B0 c
 refine eX { vars:=[6],boxes:=[],owns:=[],fuel:=true } (eX (λvs os h'=>∃ d,vs.tail = [.int .i64 d]/\os = []/\Sub h h'/\H0 d/\G4 j o g i k (W1 vs) d=some w) (eX (λ_ _=>0) (aI (eX W0 ⟨0,rfl,rfl,(Sub.refl _),(by decide),T⟩) ?_)))
 rintro _ n aa ⟨d,⟨⟩,⟨⟩,e,Z,b⟩
 replace b:G4 j o g i k n d=some w:=b
 obtain _|n:=n
 ·cases b
 rw[G4.eq_2]at b
 refine trG b (λq=>I5 _ _ _ (M0 Y (K1.mono e p))) λaC b=>?_
 refine trG b (λq=>o00 _ _ _ (J0 C D (P1.mono e s))) λaD b=>?_
 refine ifB b (λX b=>?_) λX b=>?_
 ·obtain⟨x,U,b⟩:=B0 b
  refine eX { vars:=[7],boxes:=[],owns:=[],fuel:=true } (eX (λvs os h'=>∃ f,vs.tail = [.int .i64 f]/\os = []/\Sub aa h'/\H0 f/\R5 g i j k d (W1 vs) f=some x) (eX (λ_ _=>0) (aI (eX W0 ⟨0,rfl,rfl,(Sub.refl _),(by decide),U⟩) ?_)))
  rintro _ m aj ⟨f,⟨⟩,⟨⟩,l,ah,a⟩
  replace a:R5 g i j k d m f=some x:=a
  obtain _|m:=m
  ·cases a
  rw[R5.eq_2]at a
  refine ifB a (λV a=>?_) λV a=>?_
  ·refine Or.inr (Or.inr (Or.inr (Or.inl (aI (aI (by kernel_rfl) (by kernel_rfl)) ?_))))
   obtain⟨ae,Q,a⟩:=B0 a
   obtain⟨L,ag,O,t⟩:=Sl.getI (r:=C0.toRp) (K1.mono (e.trans l) p) Q (by decide)
   obtain⟨K,ax,N,rfl⟩:=Wp.slice_cell t
   obtain⟨rfl,au⟩:=Sl.len t
   refine Or.inl (eX (.hel (.slice y g.length z) f 1 0) (aI ?_ ?_))
   ·intro ak az
    exact aI L (aI rfl (aI rfl rfl))
   refine Or.inl (eX (.val (.slice K ae.length N)) (aI ?_ ?_))
   ·intro al ad
    exact eX _ (aI (Z7.up ad O) (aI rfl (aI rfl rfl)))
   obtain⟨af,S,a⟩:=B0 a
   obtain⟨u,I⟩:=af
   try dsimp only at a
   obtain⟨ay,P,a⟩:=B0 a
   have ai:H0 u:=C1 P
   refine Or.inl (eX (.val (.tuple #[.int .i64 u,.bool I])) (aI ?_ ?_))
   ·intro am G
    exact Tr.val (u07 _ _ _ (J0 C D (P1.mono ((e.trans l).trans G) s)) _ Z _ _ _ _ (C0.mono G t) _ S) (aI rfl (aI rfl rfl))
   refine Or.inl (eX (.val (.int .i64 u)) (aI ?_ ?_))
   ·intro an aA
    exact aI rfl (aI rfl rfl)
   refine Or.inl (eX (.val (.bool I)) (aI ?_ ?_))
   ·intro ao aB
    exact aI rfl (aI rfl rfl)
   intro ap H
   refine ifB a (λW a=>?_) λW a=>?_
   ·obtain rfl:=oJ a
    try dsimp only[P2,Q2]at b
    obtain rfl:=oJ b
    try dsimp only[P2,Q2]at c
    obtain rfl:=oJ c
    exact aI rfl ((e.trans l).trans H)
   ·exact U1 m ⟨(IntKind.i64.wrap (f+1)),rfl,rfl,(l.trans H),(F0 _),a⟩
  ·obtain rfl:=oJ a
   try dsimp only[Z0,D1]at b
   exact U1 n ⟨(IntKind.i64.wrap (d+1)),rfl,rfl,(e.trans l),(F0 _),b⟩
 ·obtain rfl:=oJ b
  try dsimp only[Z0,D1]at c
  obtain rfl:=oJ c
  exact aI rfl e
theorem Z4(h:Hp)(d:List Value)(f:j0)(u:w4.R h d f)(r:j0)(a:Q3 f=some r):
  Tr Tryz.prog 81 #[.agg d.toArray] h λv h'=>∃(c:List Value),v = .agg c.toArray/\New w4 h h' c r:=by
 obtain⟨g,i,l,A,n,j,rfl,rfl,s,t,k⟩:=E1 u
 obtain⟨rfl,y⟩:=Sl.len k
 unfold Q3 at a
 dsimp only at a
 refine T3 (args:=[.agg #[.int .i64 g,.int .i64 i,.slice l j.length n]]) (fn:=Tryz.f81) rfl ?_
 refine Or.inr (Or.inr (Or.inl (aI (aI (by kernel_rfl) (by kernel_rfl)) ?_)))
 refine Or.inr ?_
 refine Or.inr ?_
 refine Or.inr ?_
 refine Or.inr ?_
 refine Or.inl (eX 0 (aI (aI rfl rfl) ?_))
 refine aT ?_
 obtain⟨w,p,b⟩:=Sl.rows (r:=D4.toRp) k
 refine eX w (aI p ?_)
 obtain⟨B,q,a⟩:=B0 a
 refine aI (T0 q (by first|rw[F2.length (show F2 (D4.R h) ([]:List (List Value)) ([]:T2) from trivial),F2.length b]|exact congrArg (·+1) (F2.length (show F2 (D4.R h) ([]:List (List Value)) ([]:T2) from trivial)))) ?_
 refine aT ?_
 refine aT ?_
 refine aT ?_
 intro E x e
 obtain⟨m,o,rfl,C,D,z⟩:=U0.out (r:=D4.toRp) e (F2.append (show F2 (D4.R h) ([]:List (List Value)) ([]:T2) from trivial) b)
 obtain rfl:=oJ a
 exact⟨([.int .i64 g,.int .i64 i,.slice m ((([]:T2)++j)).length o]),rfl,(New.pair (New.int s) (New.pair (New.int t) (U0.newPlain (r:=D4) e (F2.append (show F2 (D4.R h) ([]:List (List Value)) ([]:T2) from trivial) b) (h0n _))))⟩
theorem f01(h:Hp)(H:Option Addr)(ad I:Nat)(F:T2)(q:P1.R h [.slice H ad I] F)(M:List Value)(ae:Q0)(aE:D4.R h M ae)(r:T2)(g:j8 F ae=some r):
  Tr Tryz.prog 110 #[.slice H ad I,.agg M.toArray] h λv h'=>∃(K:Option Addr) (ac L:Nat),v = .slice K ac L/\New P1 h h' [.slice K ac L] r:=by
 obtain⟨rfl,aV⟩:=Sl.len q
 obtain⟨b,c,d,rfl,rfl,i,j,k⟩:=E4 aE
 unfold j8 at g
 dsimp only at g
 refine T3 (args:=[.slice H F.length I,.agg #[.int .i64 b,.int .i64 c,.int .i64 d]]) (fn:=Tryz.f110) rfl ?_
 obtain⟨J,av,g⟩:=B0 g
 refine eX { vars:=[6,7],boxes:=[],owns:=[0],fuel:=true } (eX (λvs os h'=>∃ G n p m,vs.tail = [.bool G,.int .i64 n]/\os = [p]/\Sub h h'/\H0 n/\F2 (D4.R h') p m/\n5 F b c d (W1 vs) G n m=some J) (eX (λ_ _=>0) (aI (eX W0 ⟨false,0,[],([]:T2),rfl,rfl,(Sub.refl _),(by decide),(show F2 (D4.R h) ([]:List (List Value)) ([]:T2) from trivial),av⟩) ?_)))
 rintro _ _ p o f ⟨G,n,bk,m,⟨⟩,⟨⟩,l,aQ,e,a⟩
 replace a:n5 F b c d o G n m=some J:=a
 obtain _|o:=o
 ·cases a
 rw[n5.eq_2]at a
 refine ifB a (λaA a=>?_) λaA a=>?_
 ·refine Or.inl (aI (aI (by kernel_rfl) (by kernel_rfl)) ?_)
  refine ld a (P1.mono l q) λbg aP aK a=>?_
  obtain⟨bh,bi,bj,rfl,rfl,aB,aC,aD⟩:=E4 aK
  try dsimp only at a
  obtain⟨af,au,a⟩:=B0 a
  refine eX (.int .i64 af) (aI (k04 _ _ _ (V2 i j k) _ _ (V2 aB aC aD) _  au) ?_)
  obtain⟨aY,ak,a⟩:=B0 a
  have aR:H0 af:=C1 ak
  refine ifB a (λaw a=>?_) λaw a=>?_
  ·refine ifB a (λax a=>?_) λax a=>?_
   ·obtain⟨aZ,al,a⟩:=B0 a
    refine aI (T0 al (by first|rw[F2.length e,F2.length (show F2 (D4.R f) ([[.int .i64 b,.int .i64 c,.int .i64 d]]:List (List Value)) [(b,c,d)] from⟨(V2 i j k),trivial⟩)]|exact congrArg (·+1) (F2.length e))) ?_
    refine ld a (P1.mono l q) λbc aL aF a=>?_
    obtain⟨s,t,u,rfl,rfl,P,Q,S⟩:=E4 aF
    try dsimp only at a
    obtain⟨a0,am,a⟩:=B0 a
    refine aI (T0 am (by first|rw[F2.length (F2.append e (show F2 (D4.R f) ([[.int .i64 b,.int .i64 c,.int .i64 d]]:List (List Value)) [(b,c,d)] from⟨(V2 i j k),trivial⟩)),F2.length (show F2 (D4.R f) ([[.int .i64 s,.int .i64 t,.int .i64 u]]:List (List Value)) [(s,t,u)] from⟨(V2 P Q S),trivial⟩)]|exact congrArg (·+1) (F2.length (F2.append e (show F2 (D4.R f) ([[.int .i64 b,.int .i64 c,.int .i64 d]]:List (List Value)) [(b,c,d)] from⟨(V2 i j k),trivial⟩))))) ?_
    exact U1 o ⟨true,(IntKind.i64.wrap (n+1)),((p++([[.int .i64 b,.int .i64 c,.int .i64 d]]:List (List Value)))++([[.int .i64 s,.int .i64 t,.int .i64 u]]:List (List Value))),((m ++ [(b,c,d)]) ++ [(s,t,u)]),rfl,rfl,l,(F0 _),(F2.append (F2.append e (show F2 (D4.R f) ([[.int .i64 b,.int .i64 c,.int .i64 d]]:List (List Value)) [(b,c,d)] from⟨(V2 i j k),trivial⟩)) (show F2 (D4.R f) ([[.int .i64 s,.int .i64 t,.int .i64 u]]:List (List Value)) [(s,t,u)] from⟨(V2 P Q S),trivial⟩)),a⟩
   ·refine ld a (P1.mono l q) λbd aM aG a=>?_
    obtain⟨w,x,y,rfl,rfl,T,U,V⟩:=E4 aG
    try dsimp only at a
    obtain⟨a1,an,a⟩:=B0 a
    refine aI (T0 an (by first|rw[F2.length e,F2.length (show F2 (D4.R f) ([[.int .i64 w,.int .i64 x,.int .i64 y]]:List (List Value)) [(w,x,y)] from⟨(V2 T U V),trivial⟩)]|exact congrArg (·+1) (F2.length e))) ?_
    exact U1 o ⟨true,(IntKind.i64.wrap (n+1)),(p++([[.int .i64 w,.int .i64 x,.int .i64 y]]:List (List Value))),(m ++ [(w,x,y)]),rfl,rfl,l,(F0 _),(F2.append e (show F2 (D4.R f) ([[.int .i64 w,.int .i64 x,.int .i64 y]]:List (List Value)) [(w,x,y)] from⟨(V2 T U V),trivial⟩)),a⟩
  ·refine ifB a (λay a=>?_) λay a=>?_
   ·obtain⟨a2,ao,a⟩:=B0 a
    refine aI (T0 ao (by first|rw[F2.length e,F2.length (show F2 (D4.R f) ([[.int .i64 b,.int .i64 c,.int .i64 d]]:List (List Value)) [(b,c,d)] from⟨(V2 i j k),trivial⟩)]|exact congrArg (·+1) (F2.length e))) ?_
    refine ld a (P1.mono l q) λbe aN aH a=>?_
    obtain⟨z,A,B,rfl,rfl,W,X,Y⟩:=E4 aH
    try dsimp only at a
    obtain⟨a3,ap,a⟩:=B0 a
    refine aI (T0 ap (by first|rw[F2.length (F2.append e (show F2 (D4.R f) ([[.int .i64 b,.int .i64 c,.int .i64 d]]:List (List Value)) [(b,c,d)] from⟨(V2 i j k),trivial⟩)),F2.length (show F2 (D4.R f) ([[.int .i64 z,.int .i64 A,.int .i64 B]]:List (List Value)) [(z,A,B)] from⟨(V2 W X Y),trivial⟩)]|exact congrArg (·+1) (F2.length (F2.append e (show F2 (D4.R f) ([[.int .i64 b,.int .i64 c,.int .i64 d]]:List (List Value)) [(b,c,d)] from⟨(V2 i j k),trivial⟩))))) ?_
    exact U1 o ⟨true,(IntKind.i64.wrap (n+1)),((p++([[.int .i64 b,.int .i64 c,.int .i64 d]]:List (List Value)))++([[.int .i64 z,.int .i64 A,.int .i64 B]]:List (List Value))),((m ++ [(b,c,d)]) ++ [(z,A,B)]),rfl,rfl,l,(F0 _),(F2.append (F2.append e (show F2 (D4.R f) ([[.int .i64 b,.int .i64 c,.int .i64 d]]:List (List Value)) [(b,c,d)] from⟨(V2 i j k),trivial⟩)) (show F2 (D4.R f) ([[.int .i64 z,.int .i64 A,.int .i64 B]]:List (List Value)) [(z,A,B)] from⟨(V2 W X Y),trivial⟩)),a⟩
   ·refine ld a (P1.mono l q) λbf aO aJ a=>?_
    obtain⟨C,D,E,rfl,rfl,Z,aa,ab⟩:=E4 aJ
    try dsimp only at a
    obtain⟨a4,aq,a⟩:=B0 a
    refine aI (T0 aq (by first|rw[F2.length e,F2.length (show F2 (D4.R f) ([[.int .i64 C,.int .i64 D,.int .i64 E]]:List (List Value)) [(C,D,E)] from⟨(V2 Z aa ab),trivial⟩)]|exact congrArg (·+1) (F2.length e))) ?_
    exact U1 o ⟨G,(IntKind.i64.wrap (n+1)),(p++([[.int .i64 C,.int .i64 D,.int .i64 E]]:List (List Value))),(m ++ [(C,D,E)]),rfl,rfl,l,(F0 _),(F2.append e (show F2 (D4.R f) ([[.int .i64 C,.int .i64 D,.int .i64 E]]:List (List Value)) [(C,D,E)] from⟨(V2 Z aa ab),trivial⟩)),a⟩
 ·obtain rfl:=oJ a
  try dsimp only[Z0,D1]at g
  refine ifB g (λaz g=>?_) λaz g=>?_
  ·obtain⟨a5,ar,g⟩:=B0 g
   refine aI (T0 ar (by first|rw[F2.length e,F2.length (show F2 (D4.R f) ([[.int .i64 b,.int .i64 c,.int .i64 d]]:List (List Value)) [(b,c,d)] from⟨(V2 i j k),trivial⟩)]|exact congrArg (·+1) (F2.length e))) ?_
   intro ba aS N
   obtain⟨ag,ai,rfl,a6,a8,aW⟩:=U0.out (r:=D4.toRp) N (F2.append e (show F2 (D4.R f) ([[.int .i64 b,.int .i64 c,.int .i64 d]]:List (List Value)) [(b,c,d)] from⟨(V2 i j k),trivial⟩))
   obtain rfl:=oJ g
   exact⟨ag,((m ++ [(b,c,d)])).length,ai,rfl,(New.from (U0.newPlain (r:=D4) N (F2.append e (show F2 (D4.R f) ([[.int .i64 b,.int .i64 c,.int .i64 d]]:List (List Value)) [(b,c,d)] from⟨(V2 i j k),trivial⟩)) (h0n _)) l)⟩
  ·intro bb aU O
   obtain⟨ah,aj,rfl,a7,a9,aX⟩:=U0.out (r:=D4.toRp) O e
   obtain rfl:=oJ g
   exact⟨ah,m.length,aj,rfl,(New.from (U0.newPlain (r:=D4) O e (h0n _)) l)⟩
theorem a0e(h:Hp)(l:List Value)(m:j0)(z:w4.R h l m)(g:Int)(I:H0 g)(r:Int)(f:k01 m g=some r):
  Tr Tryz.prog 127 #[.agg l.toArray,.int .i64 g] h λv h'=>v = .int .i64 r/\h'=h:=by
 obtain⟨x,y,n,W,o,j,rfl,rfl,G,H,i⟩:=E1 z
 obtain⟨rfl,V⟩:=Sl.len i
 unfold k01 at f
 dsimp only at f
 refine Tr.forget (T3 (args:=[.agg #[.int .i64 x,.int .i64 y,.slice n j.length o],.int .i64 g]) (fn:=Tryz.f127) rfl ?_)
 obtain⟨k,p,f⟩:=B0 f
 refine eX { vars:=[5,6],boxes:=[],owns:=[],fuel:=true } (eX (λvs os h'=>∃ b c,vs.tail = [.int .i64 b,.int .i64 c]/\os = []/\Sub h h'/\H0 b/\H0 c/\o5 j g (W1 vs) b c=some k) (eX (λ_ _=>0) (aI (eX W0 ⟨0,0,rfl,rfl,(Sub.refl _),(by decide),(by decide),p⟩) ?_)))
 rintro _ _ e U ⟨b,c,⟨⟩,⟨⟩,d,w,J,a⟩
 replace a:o5 j g e b c=some k:=a
 obtain _|e:=e
 ·cases a
 rw[o5.eq_2]at a
 refine ifB a (λt a=>?_) λt a=>?_
 ·refine ld a (P1.mono d i) λab E B a=>?_
  obtain⟨ac,ad,ae,rfl,rfl,N,O,P⟩:=E4 B
  try dsimp only at a
  refine ifB a (λu a=>?_) λu a=>?_
  ·refine ld a (P1.mono d i) λaf F C a=>?_
   obtain⟨ag,ah,ai,rfl,rfl,Q,S,T⟩:=E4 C
   try dsimp only at a
   refine ifB a (λq a=>?_) λq a=>?_
   ·exact U1 e ⟨(IntKind.i64.wrap ((IntKind.i64.wrap (b+1))+1)),(IntKind.i64.wrap (c+1)),rfl,rfl,d,(F0 _),(F0 _),a⟩
   ·exact U1 e ⟨(IntKind.i64.wrap (b+1)),(IntKind.i64.wrap (c+1)),rfl,rfl,d,(F0 _),(F0 _),a⟩
  ·refine ld a (P1.mono d i) λX D A a=>?_
   obtain⟨Y,Z,aa,rfl,rfl,K,L,M⟩:=E4 A
   try dsimp only at a
   refine ifB a (λs a=>?_) λs a=>?_
   ·exact U1 e ⟨(IntKind.i64.wrap (b+1)),(IntKind.i64.wrap (c+1)),rfl,rfl,d,(F0 _),(F0 _),a⟩
   ·exact U1 e ⟨b,(IntKind.i64.wrap (c+1)),rfl,rfl,d,w,(F0 _),a⟩
 ·obtain rfl:=oJ a
  try dsimp only[Z0,D1]at f
  obtain rfl:=oJ f
  exact aI rfl d
theorem j0a(h:Hp)(j:List Value)(l:j0)(D:w4.R h j l)(k:List Value)(m:j0)(E:w4.R h k m)(r:Bool)(b:R9 l m=some r):
  Tr Tryz.prog 117 #[.agg j.toArray,.agg k.toArray] h λv h'=>v = .bool r/\h'=h:=by
 obtain⟨z,A,p,ae,s,f,rfl,rfl,P,Q,n⟩:=E1 D
 obtain⟨rfl,ac⟩:=Sl.len n
 obtain⟨B,C,q,af,t,g,rfl,rfl,S,T,o⟩:=E1 E
 obtain⟨rfl,ad⟩:=Sl.len o
 unfold R9 at b
 dsimp only at b
 refine Tr.forget (T3 (args:=[.agg #[.int .i64 z,.int .i64 A,.slice p f.length s],.agg #[.int .i64 B,.int .i64 C,.slice q g.length t]]) (fn:=Tryz.f117) rfl ?_)
 refine ifB b (λw b=>?_) λw b=>?_
 ·obtain rfl:=oJ b
  exact aI rfl (Sub.refl _)
 ·obtain⟨i,u,b⟩:=B0 b
  refine eX { vars:=[5],boxes:=[],owns:=[],fuel:=true } (eX (λvs os h'=>∃ c,vs.tail = [.int .i64 c]/\os = []/\Sub h h'/\H0 c/\P5 f g (W1 vs) c=some i) (eX (λ_ _=>0) (aI (eX W0 ⟨0,rfl,rfl,(Sub.refl _),(by decide),u⟩) ?_)))
  rintro _ e ab ⟨c,⟨⟩,⟨⟩,d,U,a⟩
  replace a:P5 f g e c=some i:=a
  obtain _|e:=e
  ·cases a
  rw[P5.eq_2]at a
  refine ifB a (λx a=>?_) λx a=>?_
  ·refine Or.inl (aI (aI (by kernel_rfl) (by kernel_rfl)) ?_)
   refine ld a (P1.mono d n) λag N F a=>?_
   obtain⟨H,I,J,rfl,rfl,V,W,X⟩:=E4 F
   try dsimp only at a
   refine ld a (P1.mono d o) λah O G a=>?_
   obtain⟨K,L,M,rfl,rfl,Y,Z,aa⟩:=E4 G
   try dsimp only at a
   refine eX (!eqE (H,I,J) (K,L,M)) (aI (r0t _ _ _ rfl _ _ _ _ _ _) ?_)
   refine ifB a (λy a=>?_) λy a=>?_
   ·obtain rfl:=oJ a
    try dsimp only[P2,Q2]at b
    obtain rfl:=oJ b
    exact aI rfl d
   ·exact U1 e ⟨(IntKind.i64.wrap (c+1)),rfl,rfl,d,(F0 _),a⟩
  ·obtain rfl:=oJ a
   try dsimp only[Z0,D1]at b
   obtain rfl:=oJ b
   exact aI rfl d
theorem k0a(h:Hp)(H:List Value)(K:j0)(av:w4.R h H K)(e:Int)(I:H0 e)(r:D0)(b:S9 K e=some r):
  Tr Tryz.prog 126 #[.agg H.toArray,.int .i64 e] h λv h'=>∃(F:Option Addr) (J G:Nat),v = .slice F J G/\C0.R h' [.slice F J G] r/\Sub h h':=by
 obtain⟨au,L,T,aX,Z,s,rfl,rfl,ap,aq,A⟩:=E1 av
 obtain⟨rfl,aO⟩:=Sl.len A
 unfold S9 at b
 dsimp only at b
 refine T3 (args:=[.agg #[.int .i64 au,.int .i64 L,.slice T s.length Z],.int .i64 e]) (fn:=Tryz.f126) rfl ?_
 refine trV b (E6 _ _ _ (J0 ap aq A)) λa6 b=>?_
 refine trG b (λq=>B6 _ _ I 0 (by decide) (IntKind.i64.wrap (L-1)) (F0 _)) λa7 b=>?_
 refine ifB b (λam b=>?_) λam b=>?_
 ·intro a4 aM ag
  obtain⟨Y,ae,rfl,ay,aC,aW⟩:=U0.out (r:=Wp.int.toRp) ag (show F2 (Wp.int.R h) ([]:List (List Value)) ([]:D0) from trivial)
  obtain rfl:=oJ b
  exact⟨Y,(([]:D0)).length,ae,rfl,ay,aC⟩
 ·obtain⟨D,ah,b⟩:=B0 b
  refine eX { vars:=[5,6],boxes:=[],owns:=[],fuel:=true,pubs:=[5,22] } (eX (λvs os h'=>∃(m:Option Addr) (y o:Nat) (j:D0) (l:Int),vs.tail = [.slice m y o,.int .i64 l]/\os = []/\Sub h h'/\C0.R h' [.slice m y o] j/\H0 l/\Q5 s (W1 vs) j l=some D) (eX (λ_ _=>0) ?_))
  intro a5 aN af
  obtain⟨X,ad,rfl,ax,aB,aV⟩:=U0.out (r:=Wp.int.toRp) af (show F2 (Wp.int.R h) ([[.int .i64 e]]:List (List Value)) [e] from⟨⟨rfl,I⟩,trivial⟩)
  refine aI (eX W0 ⟨X,([e]).length,ad,[e],0,rfl,rfl,aB,ax,(by decide),ah⟩) ?_
  rintro _ _ t ar ⟨m,y,o,j,l,⟨⟩,⟨⟩,C,B,aE,c⟩
  replace c:Q5 s t j l=some D:=c
  obtain _|t:=t
  ·cases c
  rw[Q5.eq_2]at c
  obtain⟨rfl,aP⟩:=Sl.len B
  refine ifB c (λaj c=>?_) λaj c=>?_
  ·obtain⟨E,ai,c⟩:=B0 c
   refine eX { vars:=[5,7],boxes:=[],owns:=[],fuel:=true } (eX (λvs os h'=>∃ n z p f d,vs.tail = [.slice n z p,.int .i64 d]/\os = []/\Sub ar h'/\C0.R h' [.slice n z p] f/\H0 d/\c4 s (W1 vs) f d=some E) (eX (λ_ _=>0) (aI (eX W0 ⟨m,j.length,o,j,0,rfl,rfl,(Sub.refl _),B,(by decide),ai⟩) ?_)))
   rintro _ _ g aH ⟨n,z,p,f,d,⟨⟩,⟨⟩,k,i,aF,a⟩
   replace a:c4 s g f d=some E:=a
   obtain _|g:=g
   ·cases a
   rw[c4.eq_2]at a
   obtain⟨rfl,aQ⟩:=Sl.len i
   refine ifB a (λak a=>?_) λak a=>?_
   ·refine ld a (P1.mono (C.trans k) A) λa8 aD aw a=>?_
    obtain⟨a9,ba,bb,rfl,rfl,w,aG,x⟩:=E4 aw
    try dsimp only at a
    refine trV a (n03 _ _ _ _ _ i _ w) λbc a=>?_
    refine ifB a (λal a=>?_) λal a=>?_
    ·refine trM a (g02 _ _ _ _ _ i _ x) ?_
     rintro P a a1 aJ ⟨U,aY,aa,rfl,u,O⟩
     obtain⟨rfl,aR⟩:=Sl.len u
     refine trV a (n03 _ _ _ _ _ u _ x) λbd a=>?_
     refine ifB a (λan a=>?_) λan a=>?_
     ·refine trM a (g02 _ _ _ _ _ u _ w) ?_
      rintro Q a a2 aK ⟨V,aZ,ab,rfl,M,az⟩
      obtain⟨rfl,aS⟩:=Sl.len M
      exact U1 g ⟨V,Q.length,ab,Q,(IntKind.i64.wrap (d+1)),rfl,rfl,((k.trans O).trans az),M,(F0 _),a⟩
     ·exact U1 g ⟨U,P.length,aa,P,(IntKind.i64.wrap (d+1)),rfl,rfl,(k.trans O),u,(F0 _),a⟩
    ·refine trV a (n03 _ _ _ _ _ i _ x) λbe a=>?_
     refine ifB a (λao a=>?_) λao a=>?_
     ·refine trM a (g02 _ _ _ _ _ i _ w) ?_
      rintro S a a3 aL ⟨W,a0,ac,rfl,N,aA⟩
      obtain⟨rfl,aU⟩:=Sl.len N
      exact U1 g ⟨W,S.length,ac,S,(IntKind.i64.wrap (d+1)),rfl,rfl,(k.trans aA),N,(F0 _),a⟩
     ·exact U1 g ⟨n,f.length,p,f,(IntKind.i64.wrap (d+1)),rfl,rfl,k,i,(F0 _),a⟩
   ·obtain rfl:=oJ a
    try dsimp only[Z0,D1]at c
    exact U1 t ⟨n,f.length,p,f,(IntKind.i64.wrap (l+1)),rfl,rfl,(C.trans k),i,(F0 _),c⟩
  ·obtain rfl:=oJ c
   try dsimp only[Z0,D1]at b
   obtain rfl:=oJ b
   exact⟨m,j.length,o,rfl,B,C⟩
theorem E09(h:Hp)(m:List Value)(s:j0)(D:w4.R h m s)(r:Int)(b:w01 s=some r):
  Tr Tryz.prog 113 #[.agg m.toArray] h λv h'=>v = .int .i64 r/\h'=h:=by
 obtain⟨f,g,w,L,x,i,rfl,rfl,n,o,j⟩:=E1 D
 obtain⟨rfl,J⟩:=Sl.len j
 unfold w01 at b
 dsimp only at b
 refine Tr.forget (T3 (args:=[.agg #[.int .i64 f,.int .i64 g,.slice w i.length x]]) (fn:=Tryz.f113) rfl ?_)
 refine trM b (k0a _ _ _ (J0 n o j) 0 (by decide)) ?_
 rintro u b O C ⟨F,M,G,rfl,t,k⟩
 obtain⟨rfl,K⟩:=Sl.len t
 obtain⟨l,z,b⟩:=B0 b
 refine eX { vars:=[4],boxes:=[],owns:=[],fuel:=true } (eX (λvs os h'=>∃ c,vs.tail = [.int .i64 c]/\os = []/\Sub C h'/\H0 c/\H8 g f i u (W1 vs) c=some l) (eX (λ_ _=>0) (aI (eX W0 ⟨1,rfl,rfl,(Sub.refl _),(by decide),z⟩) ?_)))
 rintro _ e I ⟨c,⟨⟩,⟨⟩,d,p,a⟩
 replace a:H8 g f i u e c=some l:=a
 obtain _|e:=e
 ·cases a
 rw[H8.eq_2]at a
 refine ifB a (λB a=>?_) λB a=>?_
 ·refine trV a (a0e _ _ _ (J0 n o (P1.mono (k.trans d) j)) _ p) λE a=>?_
  obtain⟨N,y,a⟩:=B0 a
  have H:H0 E:=C1 y
  refine trG a (λq=>n03 _ _ _ _ _ (C0.mono d t) _ p) λP a=>?_
  refine ifB a (λA a=>?_) λA a=>?_
  ·obtain rfl:=oJ a
   try dsimp only[P2,Q2]at b
   obtain rfl:=oJ b
   exact aI rfl (k.trans d)
  ·exact U1 e ⟨(IntKind.i64.wrap (c+1)),rfl,rfl,d,(F0 _),a⟩
 ·obtain rfl:=oJ a
  try dsimp only[Z0,D1]at b
  obtain rfl:=oJ b
  exact aI rfl (k.trans d)
theorem b04(h:Hp)(T:List Value)(Y:j0)(a0:w4.R h T Y)(H:Option Addr)(X I:Nat)(o:D0)(C:C0.R h [.slice H X I] o)(r:j0×Bool)(d:H7 Y o=some r):
  Tr Tryz.prog 114 #[.agg T.toArray,.slice H X I] h λv h'=>∃(S:List Value),v = .tuple #[.agg S.toArray,.bool r.2]/\w4.R h' S r.1/\Sub h h':=by
 obtain⟨B,k,ah,bQ,ap,x,rfl,rfl,z,J,y⟩:=E1 a0
 obtain⟨rfl,bL⟩:=Sl.len y
 obtain⟨rfl,aZ⟩:=Sl.len C
 unfold H7 at d
 dsimp only at d
 refine T3 (args:=[.agg #[.int .i64 B,.int .i64 k,.slice ah x.length ap],.slice H o.length I]) (fn:=Tryz.f114) rfl ?_
 refine trV d (E6 _ _ _ (J0 z J y)) λb3 d=>?_
 refine ifB d (λaM d=>?_) λaM d=>?_
 ·refine trM d (Z4 _ _ _ (J0 z J y)) ?_
  rintro ca d b2 aX ⟨bm,rfl,ae⟩
  have bb:Sub h aX:=ae.sub
  have a4:=ae.r
  obtain⟨bg,bh,aj,bS,ar,bi,rfl,rfl,aU,aV,aa⟩:=E1 a4
  obtain⟨rfl,bO⟩:=Sl.len aa
  try dsimp only at d
  obtain rfl:=oJ d
  exact⟨([.int .i64 bg,.int .i64 bh,.slice aj bi.length ar]),rfl,(J0 aU aV aa),bb⟩
 ·obtain⟨bU,az,d⟩:=B0 d
  refine aI (C1 az) ?_
  obtain⟨Q,aJ,d⟩:=B0 d
  refine eX { vars:=[8],boxes:=[],owns:=[0],fuel:=true,kept:=[0] } (eX (λvs os h'=>∃ u8 E n,vs.tail = [.int .i64 u8]/\os = [E]/\Sub h h'/\H0 u8/\F2 (Wp.int.R h') E n/\p5 o k B x (W1 vs) u8 n=some Q) (eX (λ_ _=>0) (aI (eX W0 ⟨0,(List.replicate k.toNat ([.int .i64 0]:List Value)),(List.replicate k.toNat (0:Int)),rfl,rfl,(Sub.refl _),(by decide),(F2.rep (p:=Wp.int.R h) (a:=[.int .i64 0]) (b:=0) ⟨rfl,(by decide)⟩ (k.toNat)),aJ⟩) ?_)))
  rintro _ E A u ⟨u8,ch,n,⟨⟩,⟨⟩,f,bt,j,c⟩
  replace c:p5 o k B x A u8 n=some Q:=c
  obtain _|A:=A
  ·cases c
  rw[p5.eq_2]at c
  refine ifB c (λaK c=>?_) λaK c=>?_
  ·refine Or.inl (aI (aI (by kernel_rfl) (by kernel_rfl)) ?_)
   refine ldI c (C0.mono f C) λb4 aP c=>?_
   obtain⟨bc,aA,c⟩:=B0 c
   refine eX (.bool bc) (aI (B6 _ _ aP 0 (by decide) (IntKind.i64.wrap (k-1)) (F0 _) _  aA) ?_)
   refine ldG c (C0.mono f C) λb5 bu c=>?_
   obtain⟨b6,aB,c⟩:=B0 c
   obtain⟨bj,U,a1⟩:=T04 j aB (t0d u)
   refine aI (λq=>(U q).1) ?_
   obtain⟨rfl,bv⟩:=a1
   refine eX _ (aI (λq=>(U q).2) ?_)
   refine ifB c (λaL c=>?_) λaL c=>?_
   ·refine trM c (Z4 _ _ _ (J0 z J (P1.mono f y))) ?_
    rintro b7 c b0 aW ⟨bk,rfl,ad⟩
    have ba:Sub u aW:=ad.sub
    have a2:=ad.r
    obtain⟨bd,be,ai,bR,aq,bf,rfl,rfl,aQ,aR,Z⟩:=E1 a2
    obtain⟨rfl,bN⟩:=Sl.len Z
    try dsimp only at c
    obtain rfl:=oJ c
    try dsimp only[P2,Q2]at d
    obtain rfl:=oJ d
    exact⟨([.int .i64 bd,.int .i64 be,.slice ai bf.length aq]),rfl,(J0 aQ aR Z),(f.trans ba)⟩
   ·refine ldI c (C0.mono f C) λN bx c=>?_
    obtain⟨b8,aC,c⟩:=B0 c
    obtain⟨al,bl,av,a3⟩:=f03 j aC
    refine aI al ?_
    obtain⟨rfl,bz⟩:=a3
    refine eX _ (aI av ?_)
    exact U1 A ⟨(IntKind.i64.wrap (u8+1)),(E.set N.toNat [.int .i64 (IntKind.i64.wrap (u8+1))]),(n.set N.toNat (IntKind.i64.wrap (u8+1))),rfl,rfl,f,(F0 _),(F2.set (p:=Wp.int.R u) (a:=[.int .i64 (IntKind.i64.wrap (u8+1))]) (b:=(IntKind.i64.wrap (u8+1))) ⟨rfl,(F0 _)⟩ N.toNat j),c⟩
  ·obtain rfl:=oJ c
   try dsimp only[Z0,D1]at d
   obtain⟨P,aH,d⟩:=B0 d
   refine eX { vars:=[9],boxes:=[2],owns:=[],fuel:=true } (eX (λvs os h'=>∃ l g i s M t m,vs.tail = [.int .i64 l,.int .i64 g,.int .i64 i,.slice s M t]/\os = []/\Sub u h'/\H0 l/\H0 g/\H0 i/\P1.R h' [.slice s M t] m/\A4 x n (W1 vs) l g i m=some P) (eX (λ_ _=>0) (aI (eX W0 ⟨0,B,((o.length:Nat):Int),none,0,0,[],rfl,rfl,(Sub.refl _),(by decide),z,(q00 aZ),(d0j D4 u),aH⟩) ?_)))
   rintro _ _ _ _ w W ⟨l,g,i,s,M,t,m,⟨⟩,⟨⟩,e,bs,K,L,D,c⟩
   replace c:A4 x n w l g i m=some P:=c
   obtain _|w:=w
   ·cases c
   rw[A4.eq_2]at c
   obtain⟨rfl,bM⟩:=Sl.len D
   refine ifB c (λaN c=>?_) λaN c=>?_
   ·refine ld c (P1.mono (f.trans e) y) λcb bn a5 c=>?_
    obtain⟨cd,O,ce,rfl,rfl,bA,aS,bB⟩:=E4 a5
    try dsimp only at c
    obtain⟨cf,aD,c⟩:=B0 c
    obtain⟨am,bo,aw,a6⟩:=f03 (F2.up (r:=Wp.int.toRp) e j) aD
    refine aI am ?_
    obtain⟨rfl,bC⟩:=a6
    refine eX _ (aI aw ?_)
    obtain⟨cg,aE,c⟩:=B0 c
    obtain⟨bp,V,a7⟩:=T04 (F2.up (r:=Wp.int.toRp) e j) aE (t0d W)
    refine aI (λq=>(V q).1) ?_
    obtain⟨rfl,bD⟩:=a7
    refine eX _ (aI (λq=>(V q).2) ?_)
    refine ifB c (λaO c=>?_) λaO c=>?_
    ·refine Or.inr (Or.inr (Or.inl (aI (aI (by kernel_rfl) (by kernel_rfl)) ?_)))
     obtain⟨F,aF,c⟩:=B0 c
     obtain⟨an,bq,ax,a8⟩:=f03 (F2.up (r:=Wp.int.toRp) e j) aF
     obtain⟨rfl,bE⟩:=a8
     refine Or.inl ?_
     apply eX
     refine aI ?_ ?_
     ·intro bG bV
      exact aI an (aI rfl (aI rfl rfl))
     refine Or.inl (eX (.val (.int .i64 F)) (aI ?_ ?_))
     ·intro bH bW
      exact eX _ (aI ax (aI rfl (aI rfl rfl)))
     obtain⟨G,aG,c⟩:=B0 c
     obtain⟨ao,br,ay,a9⟩:=f03 (F2.up (r:=Wp.int.toRp) e j) aG
     obtain⟨rfl,bF⟩:=a9
     refine Or.inl ?_
     apply eX
     refine aI ?_ ?_
     ·intro bI bX
      exact aI ao (aI rfl (aI rfl rfl))
     refine Or.inl (eX (.val (.int .i64 G)) (aI ?_ ?_))
     ·intro bJ bY
      exact eX _ (aI ay (aI rfl (aI rfl rfl)))
     refine Or.inl (eX (.agg [.val (.int .i64 (IntKind.i64.wrap (F-1))),.val (.int .i64 O),.val (.int .i64 (IntKind.i64.wrap (G-1)))]) (aI ?_ ?_))
     ·intro bK bZ
      exact aI rfl (aI rfl rfl)
     refine Or.inr ?_
     refine Or.inr ?_
     refine Or.inl (eX 1 (aI (aI rfl rfl) ?_))
     refine trM c (f01 _ _ _ _ _ D [.int .i64 (IntKind.i64.wrap (F-1)),.int .i64 O,.int .i64 (IntKind.i64.wrap (G-1))] ((IntKind.i64.wrap (F-1)),O,(IntKind.i64.wrap (G-1))) (V2 (F0 _) aS (F0 _))) ?_
     rintro ag c b1 aY ⟨ak,bT,au,rfl,af⟩
     have ac:Sub W aY:=af.sub
     have ab:=af.r
     obtain⟨rfl,bP⟩:=Sl.len ab
     refine aI (aI rfl ac) (aI (by first|exact trivial|exact rfl) ?_)
     refine aT ?_
     exact U1 w ⟨(IntKind.i64.wrap (l+1)),g,i,ak,ag.length,au,ag,rfl,rfl,(e.trans ac),(F0 _),K,L,ab,c⟩
    ·exact U1 w ⟨(IntKind.i64.wrap (l+1)),g,i,s,m.length,t,m,rfl,rfl,e,(F0 _),K,L,D,c⟩
   ·obtain rfl:=oJ c
    try dsimp only[Z0,D1]at d
    obtain rfl:=oJ d
    exact⟨([.int .i64 g,.int .i64 i,.slice s m.length t]),rfl,(J0 K L D),(f.trans e)⟩
theorem B06(h:Hp)(e:Int)(B:H0 e)(r:D0)(g:P8 e=some r):
  Tr Tryz.prog 111 #[.int .i64 e] h λv h'=>∃(m:Option Addr) (o n:Nat),v = .slice m o n/\C0.R h' [.slice m o n] r/\Sub h h':=by
 unfold P8 at g
 refine T3 (args:=[.int .i64 e]) (fn:=Tryz.f111) rfl ?_
 obtain⟨l,x,g⟩:=B0 g
 refine eX { vars:=[4],boxes:=[],owns:=[0],fuel:=true } (eX (λvs os h'=>∃ a k f,vs.tail = [.int .i64 a]/\os = [k]/\Sub h h'/\H0 a/\F2 (Wp.int.R h') k f/\s6 e (W1 vs) a f=some l) (eX (λ_ _=>0) (aI (eX W0 ⟨1,[],([]:D0),rfl,rfl,(Sub.refl _),(by decide),(show F2 (Wp.int.R h) ([]:List (List Value)) ([]:D0) from trivial),x⟩) ?_)))
 rintro _ k j d ⟨a,H,f,⟨⟩,⟨⟩,p,i,c,b⟩
 replace b:s6 e j a f=some l:=b
 obtain _|j:=j
 ·cases b
 rw[s6.eq_2]at b
 refine ifB b (λy b=>?_) λy b=>?_
 ·obtain⟨E,u,b⟩:=B0 b
  refine aI (T0 u (by first|rw[F2.length c,F2.length (show F2 (Wp.int.R d) ([[.int .i64 a]]:List (List Value)) [a] from⟨⟨rfl,i⟩,trivial⟩)]|exact congrArg (·+1) (F2.length c))) ?_
  obtain⟨F,w,b⟩:=B0 b
  refine aI (T0 w (by first|rw[F2.length (F2.append c (show F2 (Wp.int.R d) ([[.int .i64 a]]:List (List Value)) [a] from⟨⟨rfl,i⟩,trivial⟩)),F2.length (show F2 (Wp.int.R d) ([[.int .i64 (IntKind.i64.wrap (0-a))]]:List (List Value)) [(IntKind.i64.wrap (0-a))] from⟨⟨rfl,(F0 _)⟩,trivial⟩)]|exact congrArg (·+1) (F2.length (F2.append c (show F2 (Wp.int.R d) ([[.int .i64 a]]:List (List Value)) [a] from⟨⟨rfl,i⟩,trivial⟩))))) ?_
  exact U1 j ⟨(IntKind.i64.wrap (a+1)),((k++([[.int .i64 a]]:List (List Value)))++([[.int .i64 (IntKind.i64.wrap (0-a))]]:List (List Value))),((f ++ [a]) ++ [(IntKind.i64.wrap (0-a))]),rfl,rfl,p,(F0 _),(F2.append (F2.append c (show F2 (Wp.int.R d) ([[.int .i64 a]]:List (List Value)) [a] from⟨⟨rfl,i⟩,trivial⟩)) (show F2 (Wp.int.R d) ([[.int .i64 (IntKind.i64.wrap (0-a))]]:List (List Value)) [(IntKind.i64.wrap (0-a))] from⟨⟨rfl,(F0 _)⟩,trivial⟩)),b⟩
 ·obtain rfl:=oJ b
  try dsimp only[Z0,D1]at g
  intro G C t
  obtain⟨q,s,rfl,z,A,D⟩:=U0.out (r:=Wp.int.toRp) t c
  obtain rfl:=oJ g
  exact⟨q,f.length,s,rfl,z,(p.trans A)⟩
theorem z07(h:Hp)(F:List Value)(J:j0)(ap:w4.R h F J)(r:D0)(c:J8 J=some r):
  Tr Tryz.prog 115 #[.agg F.toArray] h λv h'=>∃(D:Option Addr) (I E:Nat),v = .slice D I E/\C0.R h' [.slice D I E] r/\Sub h h':=by
 obtain⟨m,n,L,aQ,P,o,rfl,rfl,x,G,z⟩:=E1 ap
 obtain⟨rfl,aL⟩:=Sl.len z
 unfold J8 at c
 dsimp only at c
 refine T3 (args:=[.agg #[.int .i64 m,.int .i64 n,.slice L o.length P]]) (fn:=Tryz.f115) rfl ?_
 refine trV c (o00 _ _ _ (J0 x G z)) λa1 c=>?_
 refine ifB c (λag c=>?_) λag c=>?_
 ·intro aY aJ W
  obtain⟨N,S,rfl,av,ax,aP⟩:=U0.out (r:=Wp.int.toRp) W (show F2 (Wp.int.R h) ([]:List (List Value)) ([]:D0) from trivial)
  obtain rfl:=oJ c
  exact⟨N,(([]:D0)).length,S,rfl,av,ax⟩
 ·refine trM c (B06 _ _ x) ?_
  rintro u c a0 an ⟨az,aR,aC,rfl,K,A⟩
  obtain⟨rfl,aM⟩:=Sl.len K
  obtain⟨B,ad,c⟩:=B0 c
  refine eX { vars:=[5],boxes:=[],owns:=[0],fuel:=true } (eX (λvs os h'=>∃ d q j,vs.tail = [.int .i64 d]/\os = [q]/\Sub an h'/\H0 d/\F2 (Wp.int.R h') q j/\J5 u m n o (W1 vs) d j=some B) (eX (λ_ _=>0) (aI (eX W0 ⟨0,([[.int .i64 0]]:List (List Value)),[0],rfl,rfl,(Sub.refl _),(by decide),(F2.up (r:=Wp.int.toRp) A (show F2 (Wp.int.R h) ([[.int .i64 0]]:List (List Value)) [0] from⟨⟨rfl,(by decide)⟩,trivial⟩)),ad⟩) ?_)))
  rintro _ q s am ⟨d,a4,j,⟨⟩,⟨⟩,t,aF,w,b⟩
  replace b:J5 u m n o s d j=some B:=b
  obtain _|s:=s
  ·cases b
  rw[J5.eq_2]at b
  obtain⟨ao,X,b⟩:=B0 b
  obtain rfl:q.length=ao:=(F2.length w).trans (oJ X)
  obtain⟨aS,aE,b⟩:=B0 b
  refine ifB b (λaf b=>?_) λaf b=>?_
  ·obtain⟨C,ae,b⟩:=B0 b
   refine eX { vars:=[6],boxes:=[],owns:=[0],fuel:=true } (eX (λvs os h'=>∃ g k i,vs.tail = [.int .i64 g]/\os = [k]/\Sub am h'/\H0 g/\F2 (Wp.int.R h') k i/\j4 u d m n o (W1 vs) g i=some C) (eX (λ_ _=>0) (aI (eX W0 ⟨0,q,j,rfl,rfl,(Sub.refl _),(by decide),w,ae⟩) ?_)))
   rintro _ k l H ⟨g,a5,i,⟨⟩,⟨⟩,p,aG,f,a⟩
   replace a:j4 u d m n o l g i=some C:=a
   obtain _|l:=l
   ·cases a
   rw[j4.eq_2]at a
   refine ifB a (λah a=>?_) λah a=>?_
   ·refine Or.inl (aI (aI (by kernel_rfl) (by kernel_rfl)) ?_)
    obtain⟨a2,aa,a⟩:=B0 a
    obtain⟨O,aB,T,aq⟩:=f03 f aa
    refine aI O ?_
    obtain⟨rfl,ak⟩:=aq
    refine eX _ (aI T ?_)
    refine ldI a (C0.mono (t.trans p) K) λa3 al a=>?_
    obtain⟨e,ab,a⟩:=B0 a
    refine eX (.int .i64 e) (aI (o03 _ _ _ (J0 x G (P1.mono ((A.trans t).trans p) z)) _ ak _ al _  ab) ?_)
    obtain⟨aU,Y,a⟩:=B0 a
    have y:H0 e:=C1 Y
    obtain⟨ay,ac,a⟩:=B0 a
    refine eX (.bool ay) (aI ?_ ?_)
    ·intro aj
     intro aX aH U
     obtain⟨aA,aD,rfl,ar,aW,aN⟩:=U0.out (r:=Wp.int.toRp) U f
     exact n03 _ _ _ _ _ ar _ y _ (r9 ac aj)
    refine ifB a (λai a=>?_) λai a=>?_
    ·obtain⟨aV,Z,a⟩:=B0 a
     refine aI (T0 Z (by first|rw[F2.length f,F2.length (show F2 (Wp.int.R H) ([[.int .i64 e]]:List (List Value)) [e] from⟨⟨rfl,y⟩,trivial⟩)]|exact congrArg (·+1) (F2.length f))) ?_
     exact U1 l ⟨(IntKind.i64.wrap (g+1)),(k++([[.int .i64 e]]:List (List Value))),(i ++ [e]),rfl,rfl,p,(F0 _),(F2.append f (show F2 (Wp.int.R H) ([[.int .i64 e]]:List (List Value)) [e] from⟨⟨rfl,y⟩,trivial⟩)),a⟩
    ·exact U1 l ⟨(IntKind.i64.wrap (g+1)),k,i,rfl,rfl,p,(F0 _),f,a⟩
   ·obtain rfl:=oJ a
    try dsimp only[Z0,D1]at b
    exact U1 s ⟨(IntKind.i64.wrap (d+1)),k,i,rfl,rfl,(t.trans p),(F0 _),f,b⟩
  ·obtain rfl:=oJ b
   try dsimp only[Z0,D1]at c
   intro aZ aK V
   obtain⟨M,Q,rfl,au,aw,aO⟩:=U0.out (r:=Wp.int.toRp) V w
   obtain rfl:=oJ c
   exact⟨M,j.length,Q,rfl,au,((A.trans t).trans aw)⟩
theorem u03(h:Hp)(g:List Value)(i:j0)(G:w4.R h g i)(r:j0)(a:n7 i=some r):
  Tr Tryz.prog 90 #[.agg g.toArray] h λv h'=>∃(f:List Value),v = .agg f.toArray/\w4.R h' f r/\Sub h h':=by
 obtain⟨D,E,o,ab,s,F,rfl,rfl,d,e,b⟩:=E1 G
 obtain⟨rfl,X⟩:=Sl.len b
 unfold n7 at a
 dsimp only at a
 refine T3 (args:=[.agg #[.int .i64 D,.int .i64 E,.slice o F.length s]]) (fn:=Tryz.f90) rfl ?_
 refine trM a (z07 _ _ _ (J0 d e b)) ?_
 rintro ai a ag B ⟨S,ac,V,rfl,j,c⟩
 obtain⟨rfl,Y⟩:=Sl.len j
 refine ifB a (λw a=>?_) λw a=>?_
 ·refine trM a (Z4 _ _ _ (J0 d e (P1.mono c b))) ?_
  rintro aj a ah C ⟨T,rfl,n⟩
  have I:Sub B C:=n.sub
  have H:=n.r
  obtain⟨K,L,p,ad,t,M,rfl,rfl,x,y,k⟩:=E1 H
  obtain⟨rfl,Z⟩:=Sl.len k
  try dsimp only at a
  obtain rfl:=oJ a
  exact⟨([.int .i64 K,.int .i64 L,.slice p M.length t]),rfl,(J0 x y k),(c.trans I)⟩
 ·refine trM a (b04 _ _ _ (J0 d e (P1.mono c b)) _ _ _ _ j) ?_
  rintro N a af W ⟨U,rfl,l,J⟩
  obtain⟨ak,al⟩:=N
  dsimp only at a l
  obtain⟨O,P,q,ae,u,Q,rfl,rfl,z,A,m⟩:=E1 l
  obtain⟨rfl,aa⟩:=Sl.len m
  try dsimp only at a
  obtain rfl:=oJ a
  exact⟨([.int .i64 O,.int .i64 P,.slice q Q.length u]),rfl,(J0 z A m),(c.trans J)⟩
theorem T0g(h:Hp)(m:List Value)(n:j0)(P:w4.R h m n)(r:Bool)(a:x01 n=some r):
  Tr Tryz.prog 92 #[.agg m.toArray] h λv h'=>v = .bool r/\h'=h:=by
 obtain⟨M,N,t,aq,w,O,rfl,rfl,g,i,c⟩:=E1 P
 obtain⟨rfl,ao⟩:=Sl.len c
 unfold x01 at a
 dsimp only at a
 refine Tr.forget (T3 (args:=[.agg #[.int .i64 M,.int .i64 N,.slice t O.length w]]) (fn:=Tryz.f92) rfl ?_)
 refine Or.inr (Or.inr (Or.inr (Or.inl (aI (aI (by kernel_rfl) (by kernel_rfl)) ?_))))
 obtain⟨Y,C,a⟩:=B0 a
 refine Or.inl (eX (.val (.bool Y)) (aI ?_ ?_))
 ·intro ak W
  exact Tr.val (o00 _ _ _ (J0 g i (P1.mono W c)) _ C) (aI rfl (aI rfl rfl))
 obtain⟨l,F,a⟩:=B0 a
 obtain⟨au,B,a⟩:=B0 a
 have ag:H0 l:=C1 B
 refine Or.inl (eX (.val (.int .i64 l)) (aI ?_ ?_))
 ·intro al X b
  exact Tr.val (E09 _ _ _ (J0 g i (P1.mono X c)) _ (r9 F b)) (aI rfl (aI rfl rfl))
 refine Or.inl (eX (.val (.bool (decide (l<0)))) (aI ?_ ?_))
 ·intro am av b
  exact aI rfl (aI rfl rfl)
 obtain⟨Z,D,a⟩:=B0 a
 obtain⟨p,s,j⟩:=Z
 try dsimp only at a
 refine Or.inr (eX (λv G=>∃(d:Option Addr) (f:Nat),v = .agg #[.int .i64 p,.int .i64 s,.slice d j.length f]/\H0 p/\H0 s/\P1.R G [.slice d j.length f] j/\j.length<=9223372036854775807) (aI (λv ae af k q=>by obtain⟨d,f,e,z,A,f2,f3⟩:=q;exact⟨d,f,e,z,A,P1.mono k f2,f3⟩) (aI ?_ ?_)))
 ·intro ah T b
  refine Tr.mono (u03 _ _ _ (J0 g i (P1.mono T c)) _ (r9 D b)) ?_
  rintro _ an ⟨ac,rfl,Q,k⟩
  obtain⟨aw,ax,u,ar,x,ay,rfl,y,H,I,o⟩:=E1 Q
  cases y
  obtain⟨rfl,L⟩:=Sl.len o
  exact aI g01 (aI k ⟨u,x,rfl,H,I,o,L⟩)
 obtain⟨aa,E,a⟩:=B0 a
 refine Or.inl (eX (.val (.bool aa)) (aI ?_ ?_))
 ·intro ai U b
  rintro _ ⟨ab,ad,rfl,J,K,S,ap⟩
  exact Tr.val (j0a _ _ _ (J0 J K S) _ _ (J0 g i (P1.mono U c)) _ (r9 E b)) (aI rfl (aI rfl rfl))
 intro aj V
 obtain rfl:=oJ a
 exact aI rfl V
theorem M0b(h:Hp)(b:List Value)(c:j0)(m:w4.R h b c)(r:Bool)(a:s00 c=some r):
  Tr Tryz.prog 68 #[.agg b.toArray] h λv h'=>v = .bool r/\h'=h:=by
 obtain⟨j,k,e,o,f,l,rfl,rfl,g,i,d⟩:=E1 m
 obtain⟨rfl,n⟩:=Sl.len d
 unfold s00 at a
 dsimp only at a
 refine Tr.forget (T3 (args:=[.agg #[.int .i64 j,.int .i64 k,.slice e l.length f]]) (fn:=Tryz.f68) rfl ?_)
 refine trV a (T0g _ _ _ (J0 g i d)) λp a=>?_
 obtain rfl:=oJ a
 exact aI rfl (Sub.refl _)
theorem m07(h:Hp)(l:List Value)(n:l0)(D:Q1.R h l n)(r:Int)(c:N6 n=some r):
  Tr Tryz.prog 27 #[.agg l.toArray] h λv h'=>v = .int .i64 r/\h'=h:=by
 obtain⟨i,s,O,t,j,rfl,rfl,z,g⟩:=I1 D
 obtain⟨rfl,M⟩:=Sl.len g
 unfold N6 at c
 dsimp only at c
 refine Tr.forget (T3 (args:=[.agg #[.int .i64 i,.slice s j.length t]]) (fn:=Tryz.f27) rfl ?_)
 obtain⟨k,w,c⟩:=B0 c
 refine eX { vars:=[3,4],boxes:=[],owns:=[],fuel:=true } (eX (λvs os h'=>∃ e b,vs.tail = [.int .i64 e,.int .i64 b]/\os = []/\Sub h h'/\H0 e/\H0 b/\N2 j i (W1 vs) e b=some k) (eX (λ_ _=>0) (aI (eX W0 ⟨0,0,rfl,rfl,(Sub.refl _),(by decide),(by decide),w⟩) ?_)))
 rintro _ _ f B ⟨e,b,⟨⟩,⟨⟩,d,A,L,a⟩
 replace a:N2 j i f e b=some k:=a
 obtain _|f:=f
 ·cases a
 rw[N2.eq_2]at a
 refine trG a (λq=>I5 _ _ _ (M0 z (K1.mono d g))) λS a=>?_
 refine ifB a (λx a=>?_) λx a=>?_
 ·obtain⟨T,u,a⟩:=B0 a
  obtain⟨I,m,p⟩:=Sl.getG (r:=C0.toRp) (K1.mono d g) u (by decide) (z0s Wp.int B)
  refine aI (λq=>(m q).1) ?_
  obtain⟨G,Q,K,rfl⟩:=Wp.slice_cell p
  obtain⟨rfl,N⟩:=Sl.len p
  refine eX _ (aI (λq=>(m q).2) ?_)
  refine ifB a (λy a=>?_) λy a=>?_
  ·refine ld a (K1.mono d g) λE H o a=>?_
   obtain⟨F,P,J,rfl⟩:=Wp.slice_cell o
   obtain⟨rfl,C⟩:=Sl.len o
   exact U1 f ⟨((E.length:Nat):Int),(IntKind.i64.wrap (b+1)),rfl,rfl,d,(q00 C),(F0 _),a⟩
  ·exact U1 f ⟨e,(IntKind.i64.wrap (b+1)),rfl,rfl,d,A,(F0 _),a⟩
 ·obtain rfl:=oJ a
  try dsimp only[Z0,D1]at c
  obtain rfl:=oJ c
  exact aI rfl d
theorem n07(h:Hp)(k:List Value)(l:l0)(z:Q1.R h k l)(r:Int)(b:r8 l=some r):
  Tr Tryz.prog 26 #[.agg k.toArray] h λv h'=>v = .int .i64 r/\h'=h:=by
 obtain⟨y,n,H,o,g,rfl,rfl,u,i⟩:=I1 z
 obtain⟨rfl,G⟩:=Sl.len i
 unfold r8 at b
 dsimp only at b
 refine Tr.forget (T3 (args:=[.agg #[.int .i64 y,.slice n g.length o]]) (fn:=Tryz.f26) rfl ?_)
 refine trV b (e00 _ _ _ (M0 u i)) λJ b=>?_
 refine ifB b (λs b=>?_) λs b=>?_
 ·obtain rfl:=oJ b
  exact aI rfl (Sub.refl _)
 ·obtain⟨j,p,b⟩:=B0 b
  refine eX { vars:=[3,13],boxes:=[],owns:=[],fuel:=true } (eX (λvs os h'=>∃ d c,vs.tail = [.int .i64 d,.int .i64 c]/\os = []/\Sub h h'/\H0 d/\H0 c/\J3 g (W1 vs) d c=some j) (eX (λ_ _=>0) (aI (eX W0 ⟨0,0,rfl,rfl,(Sub.refl _),(by decide),(by decide),p⟩) ?_)))
  rintro _ _ e F ⟨d,c,⟨⟩,⟨⟩,f,w,E,a⟩
  replace a:J3 g e d c=some j:=a
  obtain _|e:=e
  ·cases a
  rw[J3.eq_2]at a
  refine ifB a (λt a=>?_) λt a=>?_
  ·refine ld a (K1.mono f i) λA C m a=>?_
   obtain⟨B,I,D,rfl⟩:=Wp.slice_cell m
   obtain⟨rfl,x⟩:=Sl.len m
   refine ifB a (λq a=>?_) λq a=>?_
   ·exact U1 e ⟨((A.length:Nat):Int),(IntKind.i64.wrap (c+1)),rfl,rfl,f,(q00 x),(F0 _),a⟩
   ·exact U1 e ⟨d,(IntKind.i64.wrap (c+1)),rfl,rfl,f,w,(F0 _),a⟩
  ·obtain rfl:=oJ a
   try dsimp only[Z0,D1]at b
   obtain rfl:=oJ b
   exact aI rfl f
theorem o07(h:Hp)(d:Option Addr)(l e:Nat)(c:List Int)(m:Sl Rp.u8 h (.slice d l e) c)(r:Int×Int)(f:d01 c=some r):
  Tr Tryz.prog 28 #[.slice d l e] h λv h'=>∃ k ty,v=ptr k 0/\h'=h.set k (p04 (.slice d l e) r ty)/\r00 h k (.slice d l e) c r:=by
 obtain⟨rfl,A⟩:=Sl.len m
 unfold d01 at f
 refine T3 (args:=[.slice d c.length e]) (fn:=Tryz.f28) rfl ?_
 obtain⟨n,s,f⟩:=B0 f
 refine eX { vars:=[3,4],boxes:=[],owns:=[],fuel:=true } (eX (λvs os h'=>∃ g i,vs.tail = [.int .i64 g,.int .i64 i]/\os = []/\h'=h/\H0 g/\H0 i/\j9 c (W1 vs) g i=some n) (eX (λ_ _=>0) (aI (eX W0 ⟨_,_,rfl,rfl,rfl,(F0 _),(by decide),s⟩) ?_)))
 rintro _ _ j z ⟨g,i,⟨⟩,⟨⟩,rfl,w,y,a⟩
 replace a:j9 c j g i=some n:=a
 obtain _|j:=j
 ·cases a
 rw[j9.eq_2]at a
 refine ifB a (λu a=>?_) λu a=>?_
 ·obtain⟨x,q,a⟩:=B0 a
  obtain⟨o,cs,p,rfl⟩:=Sl.getI (r:=Rp.u8) m q (by decide)
  refine aI o (eX _ (aI p ?_))
  exact U1 j ⟨_,_,rfl,rfl,rfl,(F0 _),(F0 _),a⟩
 ·obtain rfl:=oJ a
  try dsimp only[Z0,D1]at f
  obtain rfl:=oJ f
  intro b t
  exact⟨b,_,rfl,rfl,t,m,⟨iR _,Int.natCast_nonneg _⟩,w⟩
theorem x0u{P:Program}{a:Type}{m:Sem a}{h h':Hp}{K:a->Hp->Prop}(e:h=h')(w:wpS P m h' K):wpS P m h K:=e▸w
theorem e0v{h:Hp}{k:Nat}{b:Value}{q:Int×Int}{ty:TypeId}:(h.set k (p04 b q ty)).cell k 0=some b:=by unfold Hp.cell;rw[Hp.set_same];rfl
theorem Q0j{h:Hp}{k:Nat}{b:Value}{q:Int×Int}{ty:TypeId}:(h.set k (p04 b q ty)).cell k 1=some (.int .i64 q.1):=by unfold Hp.cell;rw[Hp.set_same];rfl
theorem y0u{h:Hp}{k:Nat}{b:Value}{q:Int×Int}{ty:TypeId}:(h.set k (p04 b q ty)).cell k 2=some (.int .i64 q.2):=by unfold Hp.cell;rw[Hp.set_same];rfl
theorem u0v{h:Hp}{k:Nat}(x y:Obj):(h.set k x).set k y=h.set k y:=by
 funext b
 unfold Hp.set
 by_cases c:b=k
 ·rw[if_pos c,if_pos c]
 ·rw[if_neg c,if_neg c,if_neg c]
theorem Sub.setS{h a:Hp}{k:Nat}{o d:Obj}(f:Sub (h.set k o) a):Sub (h.set k d) (a.set k d):=λb x e=>by
 by_cases c:b=k
 ·subst c;rw[Hp.set_same]at e ⊢;exact e
 ·rw[Hp.set_other _ _ c]at e ⊢
  exact f b x (by rw[Hp.set_other _ _ c];exact e)
theorem u02(h:Hp)(d:Nat)(j:Value)(n:TypeId)(e:List Int)(b:Int×Int)(cc:r00 h d j e b)(r:Int×(Int×Int))(f:V8 e b=some r):
  Tr Tryz.prog 75 #[ptr d 0] (h.set d (p04 j b n)) λv h'=>v = .int .i64 r.1/\r00 h d j e r.2/\h'=h.set d (p04 j r.2 n):=by
 unfold V8 at f
 obtain⟨i,F,l,G,w,C⟩:=cc.rd
 cases w
 obtain⟨rfl,E⟩:=Sl.len cc.rd
 refine Tr.forgetC (T3 (args:=[ptr d 0]) (fn:=Tryz.f75) rfl ?_)
 refine eX _ (aI (aI rfl y0u) ?_)
 refine eX _ (eX _ (eX _ (aI (aI (Hp.set_same _ _ _) (aI rfl (aI (show(2:Nat)<3 from by decide) (aI rfl (by first|trivial|decide|simp[v02]))))) ?_)))
 refine x0u (h':=h.set d (p04 (.slice i e.length l) (b.1,nxt b.2) n)) (u0v _ _) ?_
 refine Or.inr (Or.inr (Or.inr (Or.inl (aI (aI (by kernel_rfl) (by kernel_rfl)) ?_))))
 refine Or.inl (eX (.val (ptr d 0)) (aI (λk a=>aI rfl (aI rfl rfl)) ?_))
 refine Or.inl (eX (.val (ptr d 2)) (aI (λk a=>aI rfl (aI rfl rfl)) ?_))
 refine Or.inl (eX (.val (.int .i64 (nxt b.2))) (aI (λk a=>eX _ (aI (aI rfl (a.cell y0u)) (aI rfl (aI rfl rfl)))) ?_))
 refine Or.inl (eX (.val (.int .i64 ((nxt b.2).fdiv (2 ^ min (33:Int).toNat 64)))) (aI (λk a=>aI rfl (aI rfl rfl)) ?_))
 refine Or.inl (eX (.val (ptr d 0)) (aI (λk a=>aI rfl (aI rfl rfl)) ?_))
 refine Or.inl (eX (.val (ptr d 2)) (aI (λk a=>aI rfl (aI rfl rfl)) ?_))
 refine Or.inl (eX (.val (.int .i64 (nxt b.2))) (aI (λk a=>eX _ (aI (aI rfl (a.cell y0u)) (aI rfl (aI rfl rfl)))) ?_))
 refine Or.inl (eX (.val (.int .i64 ((nxt b.2).fdiv (2 ^ min (45:Int).toNat 64)))) (aI (λk a=>aI rfl (aI rfl rfl)) ?_))
 refine Or.inl (eX (.val (.int .i64 (Y0u ((nxt b.2).fdiv (2 ^ min (33:Int).toNat 64)) ((nxt b.2).fdiv (2 ^ min (45:Int).toNat 64))))) (aI (λk a=>aI rfl (aI rfl rfl)) ?_))
 refine Or.inl (eX (.val (.int .i64 (drw (nxt b.2)))) (aI (λk a=>aI rfl (aI rfl rfl)) ?_))
 intro z s1
 refine Or.inr (Or.inr (Or.inr (Or.inl (aI (aI (by kernel_rfl) (by kernel_rfl)) ?_))))
 refine Or.inl (eX (.val (ptr d 0)) (aI (λk a=>aI rfl (aI rfl rfl)) ?_))
 refine Or.inl (eX (.val (ptr d 1)) (aI (λk a=>aI rfl (aI rfl rfl)) ?_))
 refine Or.inl (eX (.val (.int .i64 b.1)) (aI (λk a=>eX _ (aI (aI rfl (a.cell (s1.cell Q0j))) (aI rfl (aI rfl rfl)))) ?_))
 refine Or.inl (eX (.val (ptr d 0)) (aI (λk a=>aI rfl (aI rfl rfl)) ?_))
 refine Or.inl (eX (.val (ptr d 0)) (aI (λk a=>aI rfl (aI rfl rfl)) ?_))
 refine Or.inl (eX (.val (.slice i e.length l)) (aI (λk a=>eX _ (aI (aI rfl (a.cell (s1.cell e0v))) (aI rfl (aI rfl rfl)))) ?_))
 refine Or.inl (eX (.val (.int .i64 ((e.length:Nat):Int))) (aI (λk a=>aI rfl (aI rfl rfl)) ?_))
 refine Or.inl (eX (.val (.bool (decide (b.1<((e.length:Nat):Int))))) (aI (λk a=>aI rfl (aI rfl rfl)) ?_))
 intro A s2
 have g:=s1.trans s2
 refine ifB f (λt f=>?_) λt f=>?_
 ·obtain⟨c,o,f⟩:=B0 f
  obtain rfl:=oJ f
  obtain⟨p,cs,q,rfl⟩:=Sl.getI (r:=Rp.u8) cc.rd o (by decide)
  have s:=q.up ((Sub.set cc.no).trans g)
  refine Or.inr (Or.inr (Or.inr (Or.inr (eX 14 (aI (aI (by kernel_rfl) (by kernel_rfl)) ?_)))))
  refine Or.inl (eX (.val (ptr d 0)) (aI (λk a=>aI rfl (aI rfl rfl)) ?_))
  refine Or.inl (eX (.val (ptr d 0)) (aI (λk a=>aI rfl (aI rfl rfl)) ?_))
  refine Or.inl (eX (.val (.slice i e.length l)) (aI (λk a=>eX _ (aI (aI rfl (a.cell (g.cell e0v))) (aI rfl (aI rfl rfl)))) ?_))
  refine Or.inl (eX (.val (ptr d 0)) (aI (λk a=>aI rfl (aI rfl rfl)) ?_))
  refine Or.inl (eX (.val (ptr d 1)) (aI (λk a=>aI rfl (aI rfl rfl)) ?_))
  refine Or.inl (eX (.val (.int .i64 b.1)) (aI (λk a=>eX _ (aI (aI rfl (a.cell (g.cell Q0j))) (aI rfl (aI rfl rfl)))) ?_))
  refine Or.inl (eX (.hel (.slice i e.length l) b.1 1 0) (aI (λk a=>aI p (aI rfl (aI rfl rfl))) ?_))
  refine Or.inl (eX (.val (.int .u8 c)) (aI (λk a=>eX _ (aI (s.up a) (aI rfl (aI rfl rfl)))) ?_))
  refine Or.inl (eX (.val (.int .i64 (IntKind.i64.wrap c))) (aI (λk a=>aI rfl (aI rfl rfl)) ?_))
  refine Or.inl (eX (.val (.int .i64 (IntKind.i64.wrap (drw (nxt b.2)+IntKind.i64.wrap c)))) (aI (λk a=>aI rfl (aI rfl rfl)) ?_))
  refine Or.inl (eX (.val (.int .i64 (X0m (IntKind.i64.wrap (drw (nxt b.2)+IntKind.i64.wrap c)) 255))) (aI (λk a=>aI rfl (aI rfl rfl)) ?_))
  intro B y
  have m:=g.trans y
  refine eX _ (aI (aI rfl (m.cell Q0j)) ?_)
  refine eX _ (eX _ (eX _ (aI (aI (m _ _ (Hp.set_same _ _ _)) (aI rfl (aI (show(1:Nat)<3 from by decide) (aI rfl (by first|trivial|decide|simp[v02]))))) ?_)))
  have u:=c0j o
  have D:=(List.getElem?_eq_some_iff.1 u.2).1
  have x:IntKind.i64.wrap (b.1+1)=b.1+1:=w64 (by omega) (by omega)
  exact aI rfl (aI ⟨cc.no,cc.rd,by show 0<=IntKind.i64.wrap (b.1+1)/\IntKind.i64.wrap (b.1+1)<=_;rw[x];exact⟨by omega,by omega⟩,F0 _⟩ (Sub.setS m))
 ·obtain rfl:=oJ f
  exact aI rfl (aI ⟨cc.no,cc.rd,cc.pl,F0 _⟩ g)
theorem G1(h:Hp)(b:Nat)(c:Value)(e:TypeId)(d:List Int)(f:Int×Int)(cc:r00 h b c d f)(g:Int)(Q:H0 g)(r:Int×(Int×Int))(a:N3 d f g=some r):
  Tr Tryz.prog 55 #[ptr b 0,.int .i64 g] (h.set b (p04 c f e)) λv h'=>v = .int .i64 r.1/\r00 h b c d r.2/\h'=h.set b (p04 c r.2 e):=by
 unfold N3 at a
 refine Tr.forgetC (T3 (args:=[ptr b 0,.int .i64 g]) (fn:=Tryz.f55) rfl ?_)
 refine ifB a (λB a=>?_) λB a=>?_
 ·obtain rfl:=oJ a
  exact⟨rfl,cc.back cc,Sub.setB cc.no (Sub.refl _)⟩
 ·refine ifB a (λC a=>?_) λC a=>?_
  ·obtain⟨L,z,a⟩:=B0 a
   obtain⟨M,ae⟩:=L
   try dsimp only at a
   refine Tr.mono (u02 _ b c e d f cc _ z) ?_
   rintro _ _ ⟨rfl,m,rfl⟩
   obtain⟨ab,t,a⟩:=B0 a
   have U:H0 M:=C1 t
   obtain⟨ac,u,a⟩:=B0 a
   refine aI (C1 u) ?_
   obtain rfl:=oJ a
   exact⟨rfl,cc.back m,Sub.setB cc.no (Sub.refl _)⟩
  ·obtain⟨N,A,a⟩:=B0 a
   obtain⟨O,P⟩:=N
   try dsimp only at a
   refine Tr.mono (u02 _ b c e d f cc _ A) ?_
   rintro _ _ ⟨rfl,i,rfl⟩
   obtain⟨W,n,a⟩:=B0 a
   have V:H0 O:=C1 n
   obtain⟨D,w,a⟩:=B0 a
   obtain⟨E,F⟩:=D
   try dsimp only at a
   refine Tr.mono (u02 _ b c e d P i _ w) ?_
   rintro _ _ ⟨rfl,j,rfl⟩
   obtain⟨X,o,a⟩:=B0 a
   have R:H0 E:=C1 o
   obtain⟨G,x,a⟩:=B0 a
   obtain⟨H,I⟩:=G
   try dsimp only at a
   refine Tr.mono (u02 _ b c e d F j _ x) ?_
   rintro _ _ ⟨rfl,k,rfl⟩
   obtain⟨Y,p,a⟩:=B0 a
   have S:H0 H:=C1 p
   obtain⟨J,y,a⟩:=B0 a
   obtain⟨K,ad⟩:=J
   try dsimp only at a
   refine Tr.mono (u02 _ b c e d I k _ y) ?_
   rintro _ _ ⟨rfl,l,rfl⟩
   obtain⟨Z,q,a⟩:=B0 a
   have T:H0 K:=C1 q
   obtain⟨aa,s,a⟩:=B0 a
   refine aI (C1 s) ?_
   obtain rfl:=oJ a
   exact⟨rfl,cc.back l,Sub.setB cc.no (Sub.refl _)⟩
theorem Y1(h:Hp)(b:Nat)(c:Value)(g:TypeId)(d:List Int)(e:Int×Int)(cc:r00 h b c d e)(f:Int)(l:H0 f)(r:Bool×(Int×Int))(a:B01 d e f=some r):
  Tr Tryz.prog 59 #[ptr b 0,.int .i64 f] (h.set b (p04 c e g)) λv h'=>v = .bool r.1/\r00 h b c d r.2/\h'=h.set b (p04 c r.2 g):=by
 unfold B01 at a
 refine Tr.forgetC (T3 (args:=[ptr b 0,.int .i64 f]) (fn:=Tryz.f59) rfl ?_)
 obtain⟨m,k,a⟩:=B0 a
 obtain⟨n,q⟩:=m
 try dsimp only at a
 refine Tr.mono (G1 _ b c g d e cc _ l _ k) ?_
 rintro _ _ ⟨rfl,i,rfl⟩
 obtain⟨p,j,a⟩:=B0 a
 have o:H0 n:=C1 j
 obtain rfl:=oJ a
 exact⟨rfl,cc.back i,Sub.setB cc.no (Sub.refl _)⟩
end Go.Proofs.YtfphndijjmdiiaaGreat
