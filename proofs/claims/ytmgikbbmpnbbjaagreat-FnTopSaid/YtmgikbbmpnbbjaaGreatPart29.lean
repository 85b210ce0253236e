/- Texts of the claim, joined: The walks of batch 1 and others. -/
import Derived.Test.YtmgikbbmpnbbjaaGreatPart21
import Derived.Test.YtmgikbbmpnbbjaaGreatChecked
import Derived.Test.YtmgikbbmpnbbjaaGreatH35
import Derived.Test.YtmgikbbmpnbbjaaGreatSI
import Derived.Test.YtmgikbbmpnbbjaaGreatPart24
import Derived.Test.YtmgikbbmpnbbjaaGreatH41
import Derived.Test.YtmgikbbmpnbbjaaGreatPart20
import Derived.Test.YtmgikbbmpnbbjaaGreatH36
import Derived.Test.YtmgikbbmpnbbjaaGreatH45
namespace Go.Proofs.YtmgikbbmpnbbjaaGreat
open Go.H
set_option linter.unusedVariables false
set_option linter.unusedSimpArgs false
set_option maxRecDepth 10000
theorem t7(h:Hp)(a:Int)(e:J0 a)(b:Int)(f:J0 b)(c:Int)(g:J0 c)(r:Bool)(d:W4 a b c=some r):
  Tr Tryz.prog 98 #[.int .i64 a,.int .i64 b,.int .i64 c] h λv h'=>v = .bool r/\h'=h:=by
 unfold W4 at d
 refine Tr.forget (Z2 (args:=[.int .i64 a,.int .i64 b,.int .i64 c]) (fn:=Tryz.f98) rfl ?_)
 obtain rfl:=oJ d
 exact aI rfl (Sub.refl _)
theorem d0a(h:Hp)(c:Int)(m:J0 c)(j:Option Addr)(n k:Nat)(f:M0)(g:P0.R h [.slice j n k] f)(r:Bool)(b:T01 c f=some r):
  Tr Tryz.prog 163 #[.int .i64 c,.slice j n k] h λv h'=>v = .bool r/\h'=h:=by
 obtain⟨rfl,A⟩:=Sl.len g
 unfold T01 at b
 refine Tr.forget (Z2 (args:=[.int .i64 c,.slice j f.length k]) (fn:=Tryz.f163) rfl ?_)
 obtain⟨l,o,b⟩:=C0 b
 refine eX { vars:=[5],boxes:=[],owns:=[],fuel:=true } (eX (λvs os h'=>∃ e,vs.tail = [.int .i64 e]/\os = []/\Sub h h'/\J0 e/\M8 f c (U1 vs) e=some l) (eX (λ_ _=>0) (aI (eX W0 ⟨0,rfl,rfl,(Sub.refl _),(by decide),o⟩) ?_)))
 rintro _ i z ⟨e,⟨⟩,⟨⟩,d,u,a⟩
 replace a:M8 f c i e=some l:=a
 obtain _|i:=i
 ·cases a
 rw[M8.eq_2]at a
 refine ifB a (λs a=>?_) λs a=>?_
 ·refine Or.inl (aI (aI (by kernel_rfl) (by kernel_rfl)) ?_)
  refine ldI a (P0.mono d g) λD x a=>?_
  refine ldG a (P0.mono d g) λE t a=>?_
  refine trG a (λq=>t7 _ _ t (IntKind.i64.wrap (0-c)) (O0 _) _ m) λF a=>?_
  refine ldG a (P0.mono d g) λG y a=>?_
  refine ldG a (P0.mono d g) λB w a=>?_
  refine ifB a (λp a=>?_) λp a=>?_
  ·obtain rfl:=oJ a
   try dsimp only[B4,I4]at b
   obtain rfl:=oJ b
   exact aI rfl d
  ·exact I2 i ⟨(IntKind.i64.wrap (e+1)),rfl,rfl,d,(O0 _),a⟩
 ·obtain rfl:=oJ a
  try dsimp only[Y0,Z0]at b
  refine trV b (t7 _ _ m 1 (by decide) 3 (by decide)) λC b=>?_
  obtain rfl:=oJ b
  exact aI rfl d
theorem E0a(h:Hp)(g:Option Addr)(l i:Nat)(e:E2)(m:I3.R h [.slice g l i] e)(r:Int)(d:U8 e=some r):
  Tr Tryz.prog 224 #[.slice g l i] h λv h'=>v = .int .i64 r/\h'=h:=by
 obtain⟨rfl,z⟩:=Sl.len m
 unfold U8 at d
 refine Tr.forget (Z2 (args:=[.slice g e.length i]) (fn:=Tryz.f224) rfl ?_)
 obtain⟨k,o,d⟩:=C0 d
 refine eX { vars:=[3,4],boxes:=[],owns:=[],fuel:=true } (eX (λvs os h'=>∃ b c,vs.tail = [.int .i64 b,.int .i64 c]/\os = []/\Sub h h'/\J0 b/\J0 c/\i4 e (U1 vs) b c=some k) (eX (λ_ _=>0) (aI (eX W0 ⟨0,0,rfl,rfl,(Sub.refl _),(by decide),(by decide),o⟩) ?_)))
 rintro _ _ f y ⟨b,c,⟨⟩,⟨⟩,j,w,x,a⟩
 replace a:i4 e f b c=some k:=a
 obtain _|f:=f
 ·cases a
 rw[i4.eq_2]at a
 refine ifB a (λp a=>?_) λp a=>?_
 ·refine ld a (I3.mono j m) λq t n a=>?_
  obtain⟨s,B,u,rfl⟩:=Wp.slice_cell n
  obtain⟨rfl,A⟩:=Sl.len n
  exact I2 f ⟨(IntKind.i64.wrap (b+((q.length:Nat):Int))),(IntKind.i64.wrap (c+1)),rfl,rfl,j,(O0 _),(O0 _),a⟩
 ·obtain rfl:=oJ a
  try dsimp only[Y0,Z0]at d
  obtain rfl:=oJ d
  exact aI rfl j
theorem O0d(h:Hp)(c:Int)(n:J0 c)(i:Option Addr)(o j:Nat)(e:E2)(k:I3.R h [.slice i o j] e)(r:Bool)(b:C01 c e=some r):
  Tr Tryz.prog 140 #[.int .i64 c,.slice i o j] h λv h'=>v = .bool r/\h'=h:=by
 obtain⟨rfl,D⟩:=Sl.len k
 unfold C01 at b
 refine Tr.forget (Z2 (args:=[.int .i64 c,.slice i e.length j]) (fn:=Tryz.f140) rfl ?_)
 obtain⟨m,s,b⟩:=C0 b
 refine eX { vars:=[5],boxes:=[],owns:=[],fuel:=true } (eX (λvs os h'=>∃ d,vs.tail = [.int .i64 d]/\os = []/\Sub h h'/\J0 d/\d7 e c (U1 vs) d=some m) (eX (λ_ _=>0) (aI (eX W0 ⟨0,rfl,rfl,(Sub.refl _),(by decide),s⟩) ?_)))
 rintro _ g C ⟨d,⟨⟩,⟨⟩,f,A,a⟩
 replace a:d7 e c g d=some m:=a
 obtain _|g:=g
 ·cases a
 rw[d7.eq_2]at a
 refine ifB a (λt a=>?_) λt a=>?_
 ·refine ld a (I3.mono f k) λH y l a=>?_
  obtain⟨x,F,z,rfl⟩:=Wp.slice_cell l
  obtain⟨rfl,E⟩:=Sl.len l
  refine trV a (d0a _ _ n _ _ _ _ l) λI a=>?_
  refine ifB a (λu a=>?_) λu a=>?_
  ·obtain rfl:=oJ a
   try dsimp only[B4,I4]at b
   obtain rfl:=oJ b
   exact aI rfl f
  ·exact I2 g ⟨(IntKind.i64.wrap (d+1)),rfl,rfl,f,(O0 _),a⟩
 ·obtain rfl:=oJ a
  try dsimp only[Y0,Z0]at b
  refine trV b (t7 _ _ n 1 (by decide) 3 (by decide)) λJ b=>?_
  refine trG b (λq=>E0a _ _ _ _ _ (I3.mono f k)) λw b=>?_
  obtain⟨G,p,b⟩:=C0 b
  have B:J0 w:=C1 p
  obtain rfl:=oJ b
  exact aI rfl f
theorem p8(h:Hp)(a:Int)(e:J0 a)(b:Int)(f:J0 b)(c:Int)(g:J0 c)(r:Bool)(d:Y5 a b c=some r):
  Tr Tryz.prog 94 #[.int .i64 a,.int .i64 b,.int .i64 c] h λv h'=>v = .bool r/\h'=h:=by
 unfold Y5 at d
 refine Tr.forget (Z2 (args:=[.int .i64 a,.int .i64 b,.int .i64 c]) (fn:=Tryz.f94) rfl ?_)
 obtain rfl:=oJ d
 exact aI rfl (Sub.refl _)
theorem P0d(h:Hp)(a:Int)(d:J0 a)(c:Int)(e:J0 c)(r:Bool)(b:D01 a c=some r):
  Tr Tryz.prog 234 #[.int .i64 a,.int .i64 c] h λv h'=>v = .bool r/\h'=h:=by
 unfold D01 at b
 refine Tr.forget (Z2 (args:=[.int .i64 a,.int .i64 c]) (fn:=Tryz.f234) rfl ?_)
 refine trG b (λq=>p8 _ _ e (IntKind.i64.wrap (0-a)) (O0 _) _ d) λf b=>?_
 obtain rfl:=oJ b
 exact aI rfl (Sub.refl _)
theorem o06(h:Hp)(a:Int)(d:J0 a)(b:Int)(e:J0 b)(r:Bool)(c:E9 a b=some r):
  Tr Tryz.prog 139 #[.int .i64 a,.int .i64 b] h λv h'=>v = .bool r/\h'=h:=by
 unfold E9 at c
 refine Tr.forget (Z2 (args:=[.int .i64 a,.int .i64 b]) (fn:=Tryz.f139) rfl ?_)
 obtain rfl:=oJ c
 exact aI rfl (Sub.refl _)
theorem L00(h:Hp)(c:Int)(m:J0 c)(i:Option Addr)(o j:Nat)(e:M0)(k:P0.R h [.slice i o j] e)(r:Bool)(b:E7 c e=some r):
  Tr Tryz.prog 162 #[.int .i64 c,.slice i o j] h λv h'=>v = .bool r/\h'=h:=by
 obtain⟨rfl,z⟩:=Sl.len k
 unfold E7 at b
 refine Tr.forget (Z2 (args:=[.int .i64 c,.slice i e.length j]) (fn:=Tryz.f162) rfl ?_)
 refine trV b (p8 _ _ m 1 (by decide) 3 (by decide)) λA b=>?_
 refine ifB b (λt b=>?_) λt b=>?_
 ·obtain rfl:=oJ b
  exact aI rfl (Sub.refl _)
 ·obtain⟨l,p,b⟩:=C0 b
  refine eX { vars:=[17],boxes:=[],owns:=[],fuel:=true } (eX (λvs os h'=>∃ d,vs.tail = [.int .i64 d]/\os = []/\Sub h h'/\J0 d/\N8 e c (U1 vs) d=some l) (eX (λ_ _=>0) (aI (eX W0 ⟨0,rfl,rfl,(Sub.refl _),(by decide),p⟩) ?_)))
  rintro _ g y ⟨d,⟨⟩,⟨⟩,f,x,a⟩
  replace a:N8 e c g d=some l:=a
  obtain _|g:=g
  ·cases a
  rw[N8.eq_2]at a
  refine ifB a (λu a=>?_) λu a=>?_
  ·refine ldI a (P0.mono f k) λD n a=>?_
   refine trV a (P0d _ _ m _ n) λE a=>?_
   refine ldG a (P0.mono f k) λB w a=>?_
   refine trG a (λq=>o06 _ _ w _ n) λC a=>?_
   refine ifB a (λs a=>?_) λs a=>?_
   ·obtain rfl:=oJ a
    try dsimp only[B4,I4]at b
    obtain rfl:=oJ b
    exact aI rfl f
   ·exact I2 g ⟨(IntKind.i64.wrap (d+1)),rfl,rfl,f,(O0 _),a⟩
  ·obtain rfl:=oJ a
   try dsimp only[Y0,Z0]at b
   obtain rfl:=oJ b
   exact aI rfl f
theorem F0a(h:Hp)(g:Option Addr)(l i:Nat)(e:E2)(m:I3.R h [.slice g l i] e)(r:Int)(d:l00 e=some r):
  Tr Tryz.prog 223 #[.slice g l i] h λv h'=>v = .int .i64 r/\h'=h:=by
 obtain⟨rfl,z⟩:=Sl.len m
 unfold l00 at d
 refine Tr.forget (Z2 (args:=[.slice g e.length i]) (fn:=Tryz.f223) rfl ?_)
 obtain⟨k,o,d⟩:=C0 d
 refine eX { vars:=[3,8],boxes:=[],owns:=[],fuel:=true } (eX (λvs os h'=>∃ b c,vs.tail = [.int .i64 b,.int .i64 c]/\os = []/\Sub h h'/\J0 b/\J0 c/\r6 e (U1 vs) b c=some k) (eX (λ_ _=>0) (aI (eX W0 ⟨0,0,rfl,rfl,(Sub.refl _),(by decide),(by decide),o⟩) ?_)))
 rintro _ _ f y ⟨b,c,⟨⟩,⟨⟩,j,w,x,a⟩
 replace a:r6 e f b c=some k:=a
 obtain _|f:=f
 ·cases a
 rw[r6.eq_2]at a
 refine ifB a (λp a=>?_) λp a=>?_
 ·refine ld a (I3.mono j m) λq t n a=>?_
  obtain⟨s,B,u,rfl⟩:=Wp.slice_cell n
  obtain⟨rfl,A⟩:=Sl.len n
  exact I2 f ⟨(IntKind.i64.wrap (b+((q.length:Nat):Int))),(IntKind.i64.wrap (c+1)),rfl,rfl,j,(O0 _),(O0 _),a⟩
 ·obtain rfl:=oJ a
  try dsimp only[Y0,Z0]at d
  obtain rfl:=oJ d
  exact aI rfl j
theorem Y07(h:Hp)(c:Int)(n:J0 c)(i:Option Addr)(o j:Nat)(e:E2)(k:I3.R h [.slice i o j] e)(r:Bool)(a:w00 c e=some r):
  Tr Tryz.prog 138 #[.int .i64 c,.slice i o j] h λv h'=>v = .bool r/\h'=h:=by
 obtain⟨rfl,D⟩:=Sl.len k
 unfold w00 at a
 refine Tr.forget (Z2 (args:=[.int .i64 c,.slice i e.length j]) (fn:=Tryz.f138) rfl ?_)
 refine trV a (p8 _ _ n 1 (by decide) 3 (by decide)) λH a=>?_
 refine ifB a (λt a=>?_) λt a=>?_
 ·obtain rfl:=oJ a
  exact aI rfl (Sub.refl _)
 ·obtain⟨m,q,a⟩:=C0 a
  refine eX { vars:=[17],boxes:=[],owns:=[],fuel:=true } (eX (λvs os h'=>∃ d,vs.tail = [.int .i64 d]/\os = []/\Sub h h'/\J0 d/\g7 e c (U1 vs) d=some m) (eX (λ_ _=>0) (aI (eX W0 ⟨0,rfl,rfl,(Sub.refl _),(by decide),q⟩) ?_)))
  rintro _ g C ⟨d,⟨⟩,⟨⟩,f,A,b⟩
  replace b:g7 e c g d=some m:=b
  obtain _|g:=g
  ·cases b
  rw[g7.eq_2]at b
  refine ifB b (λu b=>?_) λu b=>?_
  ·refine ld b (I3.mono f k) λI y l b=>?_
   obtain⟨x,F,z,rfl⟩:=Wp.slice_cell l
   obtain⟨rfl,E⟩:=Sl.len l
   refine trV b (L00 _ _ n _ _ _ _ l) λJ b=>?_
   refine ifB b (λs b=>?_) λs b=>?_
   ·obtain rfl:=oJ b
    try dsimp only[B4,I4]at a
    obtain rfl:=oJ a
    exact aI rfl f
   ·exact I2 g ⟨(IntKind.i64.wrap (d+1)),rfl,rfl,f,(O0 _),b⟩
  ·obtain rfl:=oJ b
   try dsimp only[Y0,Z0]at a
   refine trV a (F0a _ _ _ _ _ (I3.mono f k)) λw a=>?_
   obtain⟨G,p,a⟩:=C0 a
   have B:J0 w:=C1 p
   obtain rfl:=oJ a
   exact aI rfl f
theorem h03(h:Hp)(b:Int)(f:J0 b)(c:Int)(g:J0 c)(r:Int)(a:J7 b c=some r):
  Tr Tryz.prog 276 #[.int .i64 b,.int .i64 c] h λv h'=>v = .int .i64 r/\h'=h:=by
 unfold J7 at a
 refine Tr.forget (Z2 (args:=[.int .i64 b,.int .i64 c]) (fn:=Tryz.f276) rfl ?_)
 refine ifB a (λd a=>?_) λd a=>?_
 ·obtain rfl:=oJ a
  exact aI rfl (Sub.refl _)
 ·refine ifB a (λe a=>?_) λe a=>?_
  ·obtain rfl:=oJ a
   exact aI rfl (Sub.refl _)
  ·obtain rfl:=oJ a
   exact aI rfl (Sub.refl _)
theorem J04(h:Hp)(n:Option Addr)(z o:Nat)(l:M0)(m:P0.R h [.slice n z o] l)(r:M0)(d:j4 l=some r):
  Tr Tryz.prog 146 #[.slice n z o] h λv h'=>∃(s:Option Addr) (y t:Nat),v = .slice s y t/\P0.R h' [.slice s y t] r/\Sub h h':=by
 obtain⟨rfl,ac⟩:=Sl.len m
 unfold j4 at d
 refine Z2 (args:=[.slice n l.length o]) (fn:=Tryz.f146) rfl ?_
 obtain⟨p,J,d⟩:=C0 d
 refine eX { vars:=[4],boxes:=[],owns:=[0],fuel:=true } (eX (λvs os h'=>∃ g c i,vs.tail = [.int .i64 g]/\os = [c]/\Sub h h'/\J0 g/\F2 (Wp.int.R h') c i/\l3 l (U1 vs) g i=some p) (eX (λ_ _=>0) (aI (eX W0 ⟨0,[],([]:M0),rfl,rfl,(Sub.refl _),(by decide),(show F2 (Wp.int.R h) ([]:List (List Value)) ([]:M0) from trivial),J⟩) ?_)))
 rintro _ c k e ⟨g,ao,i,⟨⟩,⟨⟩,f,V,b,a⟩
 replace a:l3 l k g i=some p:=a
 obtain _|k:=k
 ·cases a
 rw[l3.eq_2]at a
 refine ifB a (λL a=>?_) λL a=>?_
 ·obtain⟨M,D,a⟩:=C0 a
  obtain rfl:c.length=M:=(F2.length b).trans (oJ D)
  obtain⟨ah,U,a⟩:=C0 a
  refine Or.inl (aI (aI (by kernel_rfl) (by kernel_rfl)) ?_)
  refine ldG a (P0.mono f m) λan aa a=>?_
  obtain⟨aj,H,a⟩:=C0 a
  obtain⟨S,u,N⟩:=F03 b H (n0b e)
  refine aI (λq=>(u q).1) ?_
  obtain⟨rfl,W⟩:=N
  refine eX _ (aI (λq=>(u q).2) ?_)
  refine ldG a (P0.mono f m) λak X a=>?_
  obtain⟨al,I,a⟩:=C0 a
  obtain⟨T,w,O⟩:=F03 b I (n0b e)
  refine aI (λq=>(w q).1) ?_
  obtain⟨rfl,Y⟩:=O
  refine eX _ (aI (λq=>(w q).2) ?_)
  refine ldG a (P0.mono f m) λam Z a=>?_
  refine ifB a (λK a=>?_) λK a=>?_
  ·obtain⟨ae,E,a⟩:=C0 a
   refine aI (by have:=C1 E;have:=F2.length b;omega) ?_
   exact I2 k ⟨(IntKind.i64.wrap (g+1)),(c.take (IntKind.i64.wrap (((c.length:Nat):Int)-1)).toNat),(i.take (IntKind.i64.wrap (((c.length:Nat):Int)-1)).toNat),rfl,rfl,f,(O0 _),(F2.take (IntKind.i64.wrap (((c.length:Nat):Int)-1)).toNat b),a⟩
  ·refine ldI a (P0.mono f m) λj x a=>?_
   obtain⟨af,F,a⟩:=C0 a
   refine aI (P1 F (by first|rw[F2.length b,F2.length (show F2 (Wp.int.R e) ([[.int .i64 j]]:List (List Value)) [j] from⟨⟨rfl,x⟩,trivial⟩)]|exact congrArg (·+1) (F2.length b))) ?_
   exact I2 k ⟨(IntKind.i64.wrap (g+1)),(c++([[.int .i64 j]]:List (List Value))),(i ++ [j]),rfl,rfl,f,(O0 _),(F2.append b (show F2 (Wp.int.R e) ([[.int .i64 j]]:List (List Value)) [j] from⟨⟨rfl,x⟩,trivial⟩)),a⟩
 ·obtain rfl:=oJ a
  try dsimp only[Y0,Z0]at d
  obtain⟨ag,G,d⟩:=C0 d
  refine aI (P1 G (by first|rw[F2.length (show F2 (Wp.int.R e) ([]:List (List Value)) ([]:M0) from trivial),F2.length b]|exact congrArg (·+0) (F2.length (show F2 (Wp.int.R e) ([]:List (List Value)) ([]:M0) from trivial)))) ?_
  intro ai ab C
  obtain⟨A,B,rfl,P,Q,ad⟩:=E1.out (r:=Wp.int.toRp) C (F2.append (show F2 (Wp.int.R e) ([]:List (List Value)) ([]:M0) from trivial) b)
  obtain rfl:=oJ d
  exact⟨A,((([]:M0)++i)).length,B,rfl,P,(f.trans Q)⟩
theorem Q03(h:Hp)(m:Option Addr)(y n:Nat)(e:M0)(z:P0.R h [.slice m y n] e)(r:M0)(d:B8 e=some r):
  Tr Tryz.prog 187 #[.slice m y n] h λv h'=>∃(s:Option Addr) (x t:Nat),v = .slice s x t/\New P0 h h' [.slice s x t] r:=by
 obtain⟨rfl,J⟩:=Sl.len z
 unfold B8 at d
 refine Z2 (args:=[.slice m e.length n]) (fn:=Tryz.f187) rfl ?_
 obtain⟨L,C,d⟩:=C0 d
 refine aI (C1 C) ?_
 obtain⟨q,E,d⟩:=C0 d
 refine eX { vars:=[4],boxes:=[],owns:=[0],fuel:=true } (eX (λvs os h'=>∃ f l g,vs.tail = [.int .i64 f]/\os = [l]/\Sub h h'/\J0 f/\F2 (Wp.int.R h') l g/\V6 e (U1 vs) f g=some q) (eX (λ_ _=>0) (aI (eX W0 ⟨(IntKind.i64.wrap (((e.length:Nat):Int)-1)),(List.replicate (0:Int).toNat ([.int .i64 0]:List Value)),(List.replicate (0:Int).toNat (0:Int)),rfl,rfl,(Sub.refl _),(O0 _),(F2.rep (p:=Wp.int.R h) (a:=[.int .i64 0]) (b:=0) ⟨rfl,(by decide)⟩ ((0:Int).toNat)),E⟩) ?_)))
 rintro _ l k w ⟨f,Q,g,⟨⟩,⟨⟩,o,G,j,c⟩
 replace c:V6 e k f g=some q:=c
 obtain _|k:=k
 ·cases c
 rw[V6.eq_2]at c
 refine ifB c (λF c=>?_) λF c=>?_
 ·refine ldI c (P0.mono o z) λi H c=>?_
  obtain⟨M,D,c⟩:=C0 c
  refine aI (P1 D (by first|rw[F2.length j,F2.length (show F2 (Wp.int.R w) ([[.int .i64 (IntKind.i64.wrap (0-i))]]:List (List Value)) [(IntKind.i64.wrap (0-i))] from⟨⟨rfl,(O0 _)⟩,trivial⟩)]|exact congrArg (·+1) (F2.length j))) ?_
  exact I2 k ⟨(IntKind.i64.wrap (f-1)),(l++([[.int .i64 (IntKind.i64.wrap (0-i))]]:List (List Value))),(g ++ [(IntKind.i64.wrap (0-i))]),rfl,rfl,o,(O0 _),(F2.append j (show F2 (Wp.int.R w) ([[.int .i64 (IntKind.i64.wrap (0-i))]]:List (List Value)) [(IntKind.i64.wrap (0-i))] from⟨⟨rfl,(O0 _)⟩,trivial⟩)),c⟩
 ·obtain rfl:=oJ c
  try dsimp only[Y0,Z0]at d
  intro P I u
  obtain⟨A,B,rfl,N,O,K⟩:=E1.out (r:=Wp.int.toRp) u j
  obtain rfl:=oJ d
  exact⟨A,g.length,B,rfl,(New.from (E1.newPlain (r:=Wp.int) u j (X09 _)) o)⟩
theorem R03(h:Hp)(s:Option Addr)(H t:Nat)(m:E2)(I:I3.R h [.slice s H t] m)(r:M0)(k:C8 m=some r):
  Tr Tryz.prog 196 #[.slice s H t] h λv h'=>∃(C:Option Addr) (G D:Nat),v = .slice C G D/\New P0 h h' [.slice C G D] r:=by
 obtain⟨rfl,ao⟩:=Sl.len I
 unfold C8 at k
 refine Z2 (args:=[.slice s m.length t]) (fn:=Tryz.f196) rfl ?_
 obtain⟨A,T,k⟩:=C0 k
 refine eX { vars:=[11],boxes:=[],owns:=[0],fuel:=true } (eX (λvs os h'=>∃ g p i,vs.tail = [.int .i64 g]/\os = [p]/\Sub h h'/\J0 g/\F2 (Wp.int.R h') p i/\Z7 m (U1 vs) g i=some A) (eX (λ_ _=>0) (aI (eX W0 ⟨0,[],([]:M0),rfl,rfl,(Sub.refl _),(by decide),(show F2 (Wp.int.R h) ([]:List (List Value)) ([]:M0) from trivial),T⟩) ?_)))
 rintro _ p n Z ⟨g,aF,i,⟨⟩,⟨⟩,z,al,u,b⟩
 replace b:Z7 m n g i=some A:=b
 obtain _|n:=n
 ·cases b
 rw[Z7.eq_2]at b
 refine ifB b (λX b=>?_) λX b=>?_
 ·refine ld b (I3.mono z I) λJ ag y b=>?_
  obtain⟨ae,ar,ah,rfl⟩:=Wp.slice_cell y
  obtain⟨rfl,ap⟩:=Sl.len y
  obtain⟨B,U,b⟩:=C0 b
  refine eX { vars:=[17],boxes:=[],owns:=[0],fuel:=true } (eX (λvs os h'=>∃ f c e,vs.tail = [.int .i64 f]/\os = [c]/\Sub Z h'/\J0 f/\F2 (Wp.int.R h') c e/\M6 J (U1 vs) f e=some B) (eX (λ_ _=>0) (aI (eX W0 ⟨0,p,i,rfl,rfl,(Sub.refl _),(by decide),u,U⟩) ?_)))
  rintro _ c l x ⟨f,aE,e,⟨⟩,⟨⟩,o,am,d,a⟩
  replace a:M6 J l f e=some B:=a
  obtain _|l:=l
  ·cases a
  rw[M6.eq_2]at a
  refine ifB a (λV a=>?_) λV a=>?_
  ·refine ldI a (P0.mono o y) λj w a=>?_
   obtain⟨aa,M,a⟩:=C0 a
   obtain rfl:c.length=aa:=(F2.length d).trans (oJ M)
   obtain⟨au,ai,a⟩:=C0 a
   obtain⟨ab,N,a⟩:=C0 a
   obtain rfl:c.length=ab:=(F2.length d).trans (oJ N)
   obtain⟨av,aj,a⟩:=C0 a
   obtain⟨aC,S,a⟩:=C0 a
   obtain⟨af,E,ad⟩:=F03 d S (n0b x)
   refine aI (λq=>(E q).1) ?_
   obtain⟨rfl,Y⟩:=ad
   refine eX _ (aI (λq=>(E q).2) ?_)
   refine trG a (λq=>o06 _ _ Y _ w) λaD a=>?_
   refine ifB a (λW a=>?_) λW a=>?_
   ·obtain⟨ac,O,a⟩:=C0 a
    obtain rfl:c.length=ac:=(F2.length d).trans (oJ O)
    obtain⟨aw,ak,a⟩:=C0 a
    obtain⟨ax,P,a⟩:=C0 a
    refine aI (by have:=C1 P;have:=F2.length d;omega) ?_
    exact I2 l ⟨(IntKind.i64.wrap (f+1)),(c.take (IntKind.i64.wrap (((c.length:Nat):Int)-1)).toNat),(e.take (IntKind.i64.wrap (((c.length:Nat):Int)-1)).toNat),rfl,rfl,o,(O0 _),(F2.take (IntKind.i64.wrap (((c.length:Nat):Int)-1)).toNat d),a⟩
   ·obtain⟨ay,Q,a⟩:=C0 a
    refine aI (P1 Q (by first|rw[F2.length d,F2.length (show F2 (Wp.int.R x) ([[.int .i64 j]]:List (List Value)) [j] from⟨⟨rfl,w⟩,trivial⟩)]|exact congrArg (·+1) (F2.length d))) ?_
    exact I2 l ⟨(IntKind.i64.wrap (f+1)),(c++([[.int .i64 j]]:List (List Value))),(e ++ [j]),rfl,rfl,o,(O0 _),(F2.append d (show F2 (Wp.int.R x) ([[.int .i64 j]]:List (List Value)) [j] from⟨⟨rfl,w⟩,trivial⟩)),a⟩
  ·obtain rfl:=oJ a
   try dsimp only[Y0,Z0]at b
   exact I2 n ⟨(IntKind.i64.wrap (g+1)),c,e,rfl,rfl,(z.trans o),(O0 _),d,b⟩
 ·obtain rfl:=oJ b
  try dsimp only[Y0,Z0]at k
  intro aB an F
  obtain⟨K,L,rfl,az,aA,aq⟩:=E1.out (r:=Wp.int.toRp) F u
  obtain rfl:=oJ k
  exact⟨K,i.length,L,rfl,(New.from (E1.newPlain (r:=Wp.int) F u (X09 _)) z)⟩
theorem N0g(h:Hp)(c:List Value)(e:l0)(u:G1.R h c e)(d:List Value)(f:K0)(x:D1.R h d f)(r:Bool)(a:P02 e f=some r):
  Tr Tryz.prog 232 #[.agg c.toArray,.agg d.toArray] h λv h'=>v = .bool r/\h'=h:=by
 obtain⟨n,b,g,A,i,o,rfl,rfl,j,y,w⟩:=H0 u
 obtain⟨rfl,z⟩:=Sl.len w
 obtain⟨p,s,t,rfl,rfl,k,l,m⟩:=Y1 x
 unfold P02 at a
 dsimp only at a
 refine Tr.forget (Z2 (args:=[.agg #[.int .i64 n,.int .i64 b,.slice g o.length i],.agg #[.int .i64 p,.int .i64 s,.int .i64 t]]) (fn:=Tryz.f232) rfl ?_)
 refine trV a (t7 _ _ k 0 (by decide) (IntKind.i64.wrap (b-1)) (O0 _)) λB a=>?_
 refine trG a (λq=>t7 _ _ m 0 (by decide) (IntKind.i64.wrap (b-1)) (O0 _)) λC a=>?_
 refine trG a (λq=>t7 _ _ l 1 (by decide) _ j) λD a=>?_
 obtain rfl:=oJ a
 exact aI rfl (Sub.refl _)
theorem V04(h:Hp)(n:List Value)(x:K0)(P:D1.R h n x)(o:List Value)(y:K0)(Q:D1.R h o y)(r:Int)(b:J8 x y=some r):
  Tr Tryz.prog 253 #[.agg n.toArray,.agg o.toArray] h λv h'=>v = .int .i64 r/\h'=h:=by
 obtain⟨d,e,f,rfl,rfl,p,q,s⟩:=Y1 P
 obtain⟨g,i,j,rfl,rfl,t,u,w⟩:=Y1 Q
 unfold J8 at b
 dsimp only at b
 refine Tr.forget (Z2 (args:=[.agg #[.int .i64 d,.int .i64 e,.int .i64 f],.agg #[.int .i64 g,.int .i64 i,.int .i64 j]]) (fn:=Tryz.f253) rfl ?_)
 obtain⟨m,L,b⟩:=C0 b
 refine eX { vars:=[7],boxes:=[],owns:=[],fuel:=true } (eX (λvs os h'=>∃ k,vs.tail = [.int .i64 k]/\os = []/\Sub h h'/\J0 k/\A7 d e f g i j (U1 vs) k=some m) (eX (λ_ _=>0) (aI (eX W0 ⟨0,rfl,rfl,(Sub.refl _),(by decide),L⟩) ?_)))
 rintro _ l af ⟨k,⟨⟩,⟨⟩,c,aa,a⟩
 replace a:A7 d e f g i j l k=some m:=a
 obtain _|l:=l
 ·cases a
 rw[A7.eq_2]at a
 refine ifB a (λN a=>?_) λN a=>?_
 ·refine Or.inl (aI (aI (by kernel_rfl) (by kernel_rfl)) ?_)
  obtain⟨ah,I,a⟩:=C0 a
  obtain⟨A,X,E,T⟩:=c7 (F2.up (r:=Wp.int.toRp) c (show F2 (Wp.int.R h) ([[.int .i64 d],[.int .i64 e],[.int .i64 f]]:List (List Value)) [d,e,f] from⟨⟨rfl,p⟩,⟨⟨rfl,q⟩,⟨⟨rfl,s⟩,trivial⟩⟩⟩)) I
  refine aI A ?_
  obtain⟨rfl,ac⟩:=T
  refine eX _ (aI E ?_)
  obtain⟨ai,J,a⟩:=C0 a
  obtain⟨B,Y,F,U⟩:=c7 (F2.up (r:=Wp.int.toRp) c (show F2 (Wp.int.R h) ([[.int .i64 g],[.int .i64 i],[.int .i64 j]]:List (List Value)) [g,i,j] from⟨⟨rfl,t⟩,⟨⟨rfl,u⟩,⟨⟨rfl,w⟩,trivial⟩⟩⟩)) J
  refine aI B ?_
  obtain⟨rfl,ad⟩:=U
  refine eX _ (aI F ?_)
  refine ifB a (λO a=>?_) λO a=>?_
  ·obtain rfl:=oJ a
   try dsimp only[B4,I4]at b
   obtain rfl:=oJ b
   exact aI rfl c
  ·refine Or.inl (aI (aI (by kernel_rfl) (by kernel_rfl)) ?_)
   obtain⟨aj,K,a⟩:=C0 a
   obtain⟨C,Z,G,V⟩:=c7 (F2.up (r:=Wp.int.toRp) c (show F2 (Wp.int.R h) ([[.int .i64 d],[.int .i64 e],[.int .i64 f]]:List (List Value)) [d,e,f] from⟨⟨rfl,p⟩,⟨⟨rfl,q⟩,⟨⟨rfl,s⟩,trivial⟩⟩⟩)) K
   refine aI C ?_
   obtain⟨rfl,ae⟩:=V
   refine eX _ (aI G ?_)
   obtain⟨ag,H,a⟩:=C0 a
   obtain⟨z,W,D,S⟩:=c7 (F2.up (r:=Wp.int.toRp) c (show F2 (Wp.int.R h) ([[.int .i64 g],[.int .i64 i],[.int .i64 j]]:List (List Value)) [g,i,j] from⟨⟨rfl,t⟩,⟨⟨rfl,u⟩,⟨⟨rfl,w⟩,trivial⟩⟩⟩)) H
   refine aI z ?_
   obtain⟨rfl,ab⟩:=S
   refine eX _ (aI D ?_)
   refine ifB a (λM a=>?_) λM a=>?_
   ·obtain rfl:=oJ a
    try dsimp only[B4,I4]at b
    obtain rfl:=oJ b
    exact aI rfl c
   ·exact I2 l ⟨(IntKind.i64.wrap (k+1)),rfl,rfl,c,(O0 _),a⟩
 ·obtain rfl:=oJ a
  try dsimp only[Y0,Z0]at b
  obtain rfl:=oJ b
  exact aI rfl c
theorem G8(h:Hp)(l:List Value)(t:l0)(N:G1.R h l t)(r:Bool)(b:n5 t=some r):
  Tr Tryz.prog 231 #[.agg l.toArray] h λv h'=>v = .bool r/\h'=h:=by
 obtain⟨g,i,u,aa,w,j,rfl,rfl,o,p,e⟩:=H0 N
 obtain⟨rfl,Z⟩:=Sl.len e
 unfold n5 at b
 dsimp only at b
 refine Tr.forget (Z2 (args:=[.agg #[.int .i64 g,.int .i64 i,.slice u j.length w]]) (fn:=Tryz.f231) rfl ?_)
 obtain⟨k,B,b⟩:=C0 b
 refine eX { vars:=[3],boxes:=[],owns:=[],fuel:=true } (eX (λvs os h'=>∃ d,vs.tail = [.int .i64 d]/\os = []/\Sub h h'/\J0 d/\Q7 j g i (U1 vs) d=some k) (eX (λ_ _=>0) (aI (eX W0 ⟨0,rfl,rfl,(Sub.refl _),(by decide),B⟩) ?_)))
 rintro _ f s ⟨d,⟨⟩,⟨⟩,c,X,a⟩
 replace a:Q7 j g i f d=some k:=a
 obtain _|f:=f
 ·cases a
 rw[Q7.eq_2]at a
 refine ifB a (λD a=>?_) λD a=>?_
 ·refine Or.inl (aI (aI (by kernel_rfl) (by kernel_rfl)) ?_)
  refine ld a (N0.mono c e) λae U O a=>?_
  obtain⟨af,ag,ah,rfl,rfl,E,F,G⟩:=Y1 O
  try dsimp only at a
  obtain⟨T,y,a⟩:=C0 a
  refine eX (.bool T) (aI (N0g _ _ _ (B0 o p (N0.mono c e)) _ _ (L1 E F G) _  y) ?_)
  obtain⟨ai,z,a⟩:=C0 a
  obtain⟨V,m,P⟩:=Sl.getG (r:=D1.toRp) (N0.mono c e) z (by decide) (v0m s)
  refine aI (λq=>(m q).1) ?_
  obtain⟨aj,ak,al,rfl,rfl,H,I,J⟩:=Y1 P
  try dsimp only at a
  refine eX _ (aI (λq=>(m q).2) ?_)
  obtain⟨am,A,a⟩:=C0 a
  obtain⟨W,n,Q⟩:=Sl.getG (r:=D1.toRp) (N0.mono c e) A (by decide) (v0m s)
  refine aI (λq=>(n q).1) ?_
  obtain⟨an,ao,ap,rfl,rfl,K,L,M⟩:=Y1 Q
  try dsimp only at a
  refine eX _ (aI (λq=>(n q).2) ?_)
  refine trG a (λq=>V04 _ _ _ (L1 H I J) _ _ (L1 K L M)) λS a=>?_
  obtain⟨ab,x,a⟩:=C0 a
  have Y:J0 S:=C1 x
  refine ifB a (λC a=>?_) λC a=>?_
  ·obtain rfl:=oJ a
   try dsimp only[B4,I4]at b
   obtain rfl:=oJ b
   exact aI rfl c
  ·exact I2 f ⟨(IntKind.i64.wrap (d+1)),rfl,rfl,c,(O0 _),a⟩
 ·obtain rfl:=oJ a
  try dsimp only[Y0,Z0]at b
  refine trV b (t7 _ _ o 1 (by decide) 3 (by decide)) λac b=>?_
  refine trG b (λq=>t7 _ _ p 1 (by decide) 40 (by decide)) λad b=>?_
  obtain rfl:=oJ b
  exact aI rfl c
theorem j01(h:Hp)(c:List Value)(d:l0)(l:G1.R h c d)(b:Int)(i:J0 b)(r:Bool)(a:G4 d b=some r):
  Tr Tryz.prog 228 #[.agg c.toArray,.int .i64 b] h λv h'=>v = .bool r/\h'=h:=by
 obtain⟨j,e,f,q,g,k,rfl,rfl,n,o,m⟩:=H0 l
 obtain⟨rfl,p⟩:=Sl.len m
 unfold G4 at a
 dsimp only at a
 refine Tr.forget (Z2 (args:=[.agg #[.int .i64 j,.int .i64 e,.slice f k.length g],.int .i64 b]) (fn:=Tryz.f228) rfl ?_)
 refine trV a (p8 _ _ i 0 (by decide) (IntKind.i64.wrap (e-1)) (O0 _)) λs a=>?_
 obtain rfl:=oJ a
 exact aI rfl (Sub.refl _)
theorem Y08(h:Hp)(d:List Value)(g:l0)(x:G1.R h d g)(e:List Value)(i:K0)(y:D1.R h e i)(r:Bool)(a:r9 g i=some r):
  Tr Tryz.prog 229 #[.agg d.toArray,.agg e.toArray] h λv h'=>v = .bool r/\h'=h:=by
 obtain⟨o,p,j,A,k,s,rfl,rfl,b,f,c⟩:=H0 x
 obtain⟨rfl,z⟩:=Sl.len c
 obtain⟨t,u,w,rfl,rfl,l,m,n⟩:=Y1 y
 unfold r9 at a
 dsimp only at a
 refine Tr.forget (Z2 (args:=[.agg #[.int .i64 o,.int .i64 p,.slice j s.length k],.agg #[.int .i64 t,.int .i64 u,.int .i64 w]]) (fn:=Tryz.f229) rfl ?_)
 refine trV a (j01 _ _ _ (B0 b f c) _ l) λB a=>?_
 refine trG a (λq=>j01 _ _ _ (B0 b f c) _ n) λC a=>?_
 refine trG a (λq=>p8 _ _ m 1 (by decide) _ b) λD a=>?_
 obtain rfl:=oJ a
 exact aI rfl (Sub.refl _)
theorem W04(h:Hp)(b:List Value)(d:K0)(z:D1.R h b d)(c:List Value)(e:K0)(A:D1.R h c e)(r:Int)(a:Q9 d e=some r):
  Tr Tryz.prog 240 #[.agg b.toArray,.agg c.toArray] h λv h'=>v = .int .i64 r/\h'=h:=by
 obtain⟨s,t,u,rfl,rfl,l,m,n⟩:=Y1 z
 obtain⟨w,x,y,rfl,rfl,o,p,q⟩:=Y1 A
 unfold Q9 at a
 dsimp only at a
 refine Tr.forget (Z2 (args:=[.agg #[.int .i64 s,.int .i64 t,.int .i64 u],.agg #[.int .i64 w,.int .i64 x,.int .i64 y]]) (fn:=Tryz.f240) rfl ?_)
 refine trV a (h03 _ _ l _ o) λB a=>?_
 obtain⟨H,f,a⟩:=C0 a
 have E:J0 B:=C1 f
 refine ifB a (λj a=>?_) λj a=>?_
 ·obtain rfl:=oJ a
  exact aI rfl (Sub.refl _)
 ·refine trV a (h03 _ _ m _ p) λC a=>?_
  obtain⟨I,g,a⟩:=C0 a
  have F:J0 C:=C1 g
  refine ifB a (λk a=>?_) λk a=>?_
  ·obtain rfl:=oJ a
   exact aI rfl (Sub.refl _)
  ·refine trV a (h03 _ _ n _ q) λD a=>?_
   obtain⟨J,i,a⟩:=C0 a
   have G:J0 D:=C1 i
   obtain rfl:=oJ a
   exact aI rfl (Sub.refl _)
theorem q00(h:Hp)(l:List Value)(u:l0)(J:G1.R h l u)(r:Bool)(b:t6 u=some r):
  Tr Tryz.prog 171 #[.agg l.toArray] h λv h'=>v = .bool r/\h'=h:=by
 obtain⟨g,i,w,U,x,j,rfl,rfl,n,o,f⟩:=H0 J
 obtain⟨rfl,T⟩:=Sl.len f
 unfold t6 at b
 dsimp only at b
 refine Tr.forget (Z2 (args:=[.agg #[.int .i64 g,.int .i64 i,.slice w j.length x]]) (fn:=Tryz.f171) rfl ?_)
 refine trV b (p8 _ _ n 1 (by decide) 3 (by decide)) λW b=>?_
 refine trG b (λq=>p8 _ _ o 1 (by decide) 40 (by decide)) λab b=>?_
 refine ifB b (λD b=>?_) λD b=>?_
 ·obtain rfl:=oJ b
  exact aI rfl (Sub.refl _)
 ·obtain⟨k,B,b⟩:=C0 b
  refine eX { vars:=[24],boxes:=[],owns:=[],fuel:=true } (eX (λvs os h'=>∃ d,vs.tail = [.int .i64 d]/\os = []/\Sub h h'/\J0 d/\R7 j g i (U1 vs) d=some k) (eX (λ_ _=>0) (aI (eX W0 ⟨0,rfl,rfl,(Sub.refl _),(by decide),B⟩) ?_)))
  rintro _ e I ⟨d,⟨⟩,⟨⟩,c,Q,a⟩
  replace a:R7 j g i e d=some k:=a
  obtain _|e:=e
  ·cases a
  rw[R7.eq_2]at a
  refine ifB a (λE a=>?_) λE a=>?_
  ·refine ld a (N0.mono c f) λac P L a=>?_
   obtain⟨ad,ae,af,rfl,rfl,p,s,t⟩:=Y1 L
   try dsimp only at a
   refine Or.inl (aI (aI (by kernel_rfl) (by kernel_rfl)) ?_)
   obtain⟨M,z,a⟩:=C0 a
   refine eX (.bool M) (aI (Y08 _ _ _ (B0 n o (N0.mono c f)) _ _ (L1 p s t) _  z) ?_)
   obtain⟨X,A,a⟩:=C0 a
   obtain⟨O,m,K⟩:=Sl.getG (r:=D1.toRp) (N0.mono c f) A (by decide) (v0m I)
   refine aI (λq=>(m q).1) ?_
   obtain⟨Y,Z,aa,rfl,rfl,F,G,H⟩:=Y1 K
   try dsimp only at a
   refine eX _ (aI (λq=>(m q).2) ?_)
   refine trG a (λq=>W04 _ _ _ (L1 F G H) _ _ (L1 p s t)) λN a=>?_
   obtain⟨V,y,a⟩:=C0 a
   have S:J0 N:=C1 y
   refine ifB a (λC a=>?_) λC a=>?_
   ·obtain rfl:=oJ a
    try dsimp only[B4,I4]at b
    obtain rfl:=oJ b
    exact aI rfl c
   ·exact I2 e ⟨(IntKind.i64.wrap (d+1)),rfl,rfl,c,(O0 _),a⟩
  ·obtain rfl:=oJ a
   try dsimp only[Y0,Z0]at b
   obtain rfl:=oJ b
   exact aI rfl c
theorem H02(h:Hp)(u:Option Addr)(F w:Nat)(s:M0)(k:P0.R h [.slice u F w] s)(b:Int)(g:J0 b)(r:M0)(f:Z8 s b=some r):
  Tr Tryz.prog 264 #[.slice u F w,.int .i64 b] h λv h'=>∃(y:Option Addr) (E z:Nat),v = .slice y E z/\P0.R h' [.slice y E z] r/\Sub h h':=by
 obtain⟨rfl,ak⟩:=Sl.len k
 unfold Z8 at f
 refine Z2 (args:=[.slice u s.length w,.int .i64 b]) (fn:=Tryz.f264) rfl ?_
 obtain⟨x,U,f⟩:=C0 f
 refine eX { vars:=[6,7],boxes:=[],owns:=[0],fuel:=true } (eX (λvs os h'=>∃ t j m i,vs.tail = [.bool t,.int .i64 j]/\os = [m]/\Sub h h'/\J0 j/\F2 (Wp.int.R h') m i/\J4 s b (U1 vs) t j i=some x) (eX (λ_ _=>0) (aI (eX W0 ⟨false,0,[],([]:M0),rfl,rfl,(Sub.refl _),(by decide),(show F2 (Wp.int.R h) ([]:List (List Value)) ([]:M0) from trivial),U⟩) ?_)))
 rintro _ _ m l d ⟨t,j,aB,i,⟨⟩,⟨⟩,e,ae,c,a⟩
 replace a:J4 s b l t j i=some x:=a
 obtain _|l:=l
 ·cases a
 rw[J4.eq_2]at a
 refine ifB a (λY a=>?_) λY a=>?_
 ·refine ldI a (P0.mono e k) λaA ah a=>?_
  refine ifB a (λZ a=>?_) λZ a=>?_
  ·refine ldI a (P0.mono e k) λay af a=>?_
   refine ifB a (λV a=>?_) λV a=>?_
   ·obtain⟨an,M,a⟩:=C0 a
    refine aI (P1 M (by first|rw[F2.length c,F2.length (show F2 (Wp.int.R d) ([[.int .i64 b]]:List (List Value)) [b] from⟨⟨rfl,g⟩,trivial⟩)]|exact congrArg (·+1) (F2.length c))) ?_
    refine ldI a (P0.mono e k) λn A a=>?_
    obtain⟨ao,N,a⟩:=C0 a
    refine aI (P1 N (by first|rw[F2.length (F2.append c (show F2 (Wp.int.R d) ([[.int .i64 b]]:List (List Value)) [b] from⟨⟨rfl,g⟩,trivial⟩)),F2.length (show F2 (Wp.int.R d) ([[.int .i64 n]]:List (List Value)) [n] from⟨⟨rfl,A⟩,trivial⟩)]|exact congrArg (·+1) (F2.length (F2.append c (show F2 (Wp.int.R d) ([[.int .i64 b]]:List (List Value)) [b] from⟨⟨rfl,g⟩,trivial⟩))))) ?_
    exact I2 l ⟨true,(IntKind.i64.wrap (j+1)),((m++([[.int .i64 b]]:List (List Value)))++([[.int .i64 n]]:List (List Value))),((i ++ [b]) ++ [n]),rfl,rfl,e,(O0 _),(F2.append (F2.append c (show F2 (Wp.int.R d) ([[.int .i64 b]]:List (List Value)) [b] from⟨⟨rfl,g⟩,trivial⟩)) (show F2 (Wp.int.R d) ([[.int .i64 n]]:List (List Value)) [n] from⟨⟨rfl,A⟩,trivial⟩)),a⟩
   ·refine ldI a (P0.mono e k) λo B a=>?_
    obtain⟨ap,O,a⟩:=C0 a
    refine aI (P1 O (by first|rw[F2.length c,F2.length (show F2 (Wp.int.R d) ([[.int .i64 o]]:List (List Value)) [o] from⟨⟨rfl,B⟩,trivial⟩)]|exact congrArg (·+1) (F2.length c))) ?_
    exact I2 l ⟨true,(IntKind.i64.wrap (j+1)),(m++([[.int .i64 o]]:List (List Value))),(i ++ [o]),rfl,rfl,e,(O0 _),(F2.append c (show F2 (Wp.int.R d) ([[.int .i64 o]]:List (List Value)) [o] from⟨⟨rfl,B⟩,trivial⟩)),a⟩
  ·refine ldI a (P0.mono e k) λaz ag a=>?_
   refine ifB a (λW a=>?_) λW a=>?_
   ·obtain⟨aq,P,a⟩:=C0 a
    refine aI (P1 P (by first|rw[F2.length c,F2.length (show F2 (Wp.int.R d) ([[.int .i64 b]]:List (List Value)) [b] from⟨⟨rfl,g⟩,trivial⟩)]|exact congrArg (·+1) (F2.length c))) ?_
    refine ldI a (P0.mono e k) λp C a=>?_
    obtain⟨ar,Q,a⟩:=C0 a
    refine aI (P1 Q (by first|rw[F2.length (F2.append c (show F2 (Wp.int.R d) ([[.int .i64 b]]:List (List Value)) [b] from⟨⟨rfl,g⟩,trivial⟩)),F2.length (show F2 (Wp.int.R d) ([[.int .i64 p]]:List (List Value)) [p] from⟨⟨rfl,C⟩,trivial⟩)]|exact congrArg (·+1) (F2.length (F2.append c (show F2 (Wp.int.R d) ([[.int .i64 b]]:List (List Value)) [b] from⟨⟨rfl,g⟩,trivial⟩))))) ?_
    exact I2 l ⟨true,(IntKind.i64.wrap (j+1)),((m++([[.int .i64 b]]:List (List Value)))++([[.int .i64 p]]:List (List Value))),((i ++ [b]) ++ [p]),rfl,rfl,e,(O0 _),(F2.append (F2.append c (show F2 (Wp.int.R d) ([[.int .i64 b]]:List (List Value)) [b] from⟨⟨rfl,g⟩,trivial⟩)) (show F2 (Wp.int.R d) ([[.int .i64 p]]:List (List Value)) [p] from⟨⟨rfl,C⟩,trivial⟩)),a⟩
   ·refine ldI a (P0.mono e k) λq D a=>?_
    obtain⟨au,S,a⟩:=C0 a
    refine aI (P1 S (by first|rw[F2.length c,F2.length (show F2 (Wp.int.R d) ([[.int .i64 q]]:List (List Value)) [q] from⟨⟨rfl,D⟩,trivial⟩)]|exact congrArg (·+1) (F2.length c))) ?_
    exact I2 l ⟨t,(IntKind.i64.wrap (j+1)),(m++([[.int .i64 q]]:List (List Value))),(i ++ [q]),rfl,rfl,e,(O0 _),(F2.append c (show F2 (Wp.int.R d) ([[.int .i64 q]]:List (List Value)) [q] from⟨⟨rfl,D⟩,trivial⟩)),a⟩
 ·obtain rfl:=oJ a
  try dsimp only[Y0,Z0]at f
  refine ifB f (λX f=>?_) λX f=>?_
  ·obtain⟨av,T,f⟩:=C0 f
   refine aI (P1 T (by first|rw[F2.length c,F2.length (show F2 (Wp.int.R d) ([[.int .i64 b]]:List (List Value)) [b] from⟨⟨rfl,g⟩,trivial⟩)]|exact congrArg (·+1) (F2.length c))) ?_
   intro aw ai K
   obtain⟨G,I,rfl,aa,ac,al⟩:=E1.out (r:=Wp.int.toRp) K (F2.append c (show F2 (Wp.int.R d) ([[.int .i64 b]]:List (List Value)) [b] from⟨⟨rfl,g⟩,trivial⟩))
   obtain rfl:=oJ f
   exact⟨G,((i ++ [b])).length,I,rfl,aa,(e.trans ac)⟩
  ·intro ax aj L
   obtain⟨H,J,rfl,ab,ad,am⟩:=E1.out (r:=Wp.int.toRp) L c
   obtain rfl:=oJ f
   exact⟨H,i.length,J,rfl,ab,(e.trans ad)⟩
theorem S03(h:Hp)(i:Option Addr)(l j:Nat)(e:M0)(m:P0.R h [.slice i l j] e)(c:Int)(q:J0 c)(r:Bool)(b:U9 e c=some r):
  Tr Tryz.prog 129 #[.slice i l j,.int .i64 c] h λv h'=>v = .bool r/\h'=h:=by
 obtain⟨rfl,w⟩:=Sl.len m
 unfold U9 at b
 refine Tr.forget (Z2 (args:=[.slice i e.length j,.int .i64 c]) (fn:=Tryz.f129) rfl ?_)
 obtain⟨k,n,b⟩:=C0 b
 refine eX { vars:=[5],boxes:=[],owns:=[],fuel:=true } (eX (λvs os h'=>∃ d,vs.tail = [.int .i64 d]/\os = []/\Sub h h'/\J0 d/\t9 e c (U1 vs) d=some k) (eX (λ_ _=>0) (aI (eX W0 ⟨0,rfl,rfl,(Sub.refl _),(by decide),n⟩) ?_)))
 rintro _ f u ⟨d,⟨⟩,⟨⟩,g,s,a⟩
 replace a:t9 e c f d=some k:=a
 obtain _|f:=f
 ·cases a
 rw[t9.eq_2]at a
 refine ifB a (λo a=>?_) λo a=>?_
 ·refine ldI a (P0.mono g m) λx t a=>?_
  refine ifB a (λp a=>?_) λp a=>?_
  ·obtain rfl:=oJ a
   try dsimp only[B4,I4]at b
   obtain rfl:=oJ b
   exact aI rfl g
  ·exact I2 f ⟨(IntKind.i64.wrap (d+1)),rfl,rfl,g,(O0 _),a⟩
 ·obtain rfl:=oJ a
  try dsimp only[Y0,Z0]at b
  obtain rfl:=oJ b
  exact aI rfl g
theorem T0c(h:Hp)(t:List Value)(x:l0)(Y:G1.R h t x)(f:Int)(ah:J0 f)(g:Int)(ai:J0 g)(r:M0)(e:T00 x f g=some r):
  Tr Tryz.prog 215 #[.agg t.toArray,.int .i64 f,.int .i64 g] h λv h'=>∃(q:Option Addr) (w s:Nat),v = .slice q w s/\P0.R h' [.slice q w s] r/\Sub h h':=by
 obtain⟨W,X,F,ay,K,n,rfl,rfl,af,ag,y⟩:=H0 Y
 obtain⟨rfl,aq⟩:=Sl.len y
 unfold T00 at e
 dsimp only at e
 refine Z2 (args:=[.agg #[.int .i64 W,.int .i64 X,.slice F n.length K],.int .i64 f,.int .i64 g]) (fn:=Tryz.f215) rfl ?_
 obtain⟨p,P,e⟩:=C0 e
 refine eX { vars:=[7,8],boxes:=[],owns:=[],fuel:=true,pubs:=[7,10] } (eX (λvs os h'=>∃(j:Option Addr) (m k:Nat) (d:M0) (b:Int),vs.tail = [.slice j m k,.int .i64 b]/\os = []/\Sub h h'/\P0.R h' [.slice j m k] d/\J0 b/\D4 n g f (U1 vs) d b=some p) (eX (λ_ _=>0) ?_))
 intro aC an f3
 obtain⟨J,O,rfl,aa,ad,ax⟩:=E1.out (r:=Wp.int.toRp) f3 (show F2 (Wp.int.R h) ([]:List (List Value)) ([]:M0) from trivial)
 refine aI (eX W0 ⟨J,(([]:M0)).length,O,([]:M0),0,rfl,rfl,ad,aa,(by decide),P⟩) ?_
 rintro _ _ c ap ⟨j,m,k,d,b,⟨⟩,⟨⟩,i,l,aj,a⟩
 replace a:D4 n g f c d b=some p:=a
 obtain _|c:=c
 ·cases a
 rw[D4.eq_2]at a
 obtain⟨rfl,ar⟩:=Sl.len l
 refine ifB a (λQ a=>?_) λQ a=>?_
 ·refine ld a (N0.mono i y) λaG ae Z a=>?_
  obtain⟨aH,aJ,aK,rfl,rfl,u,ak,V⟩:=Y1 Z
  try dsimp only at a
  refine ifB a (λS a=>?_) λS a=>?_
  ·refine trM a (H02 _ _ _ _ _ l _ V) ?_
   rintro C a aD al ⟨G,az,L,rfl,o,B⟩
   obtain⟨rfl,au⟩:=Sl.len o
   refine ifB a (λT a=>?_) λT a=>?_
   ·refine trM a (H02 _ _ _ _ _ o _ u) ?_
    rintro D a aE am ⟨H,aA,M,rfl,z,ab⟩
    obtain⟨rfl,av⟩:=Sl.len z
    exact I2 c ⟨H,D.length,M,D,(IntKind.i64.wrap (b+1)),rfl,rfl,((i.trans B).trans ab),z,(O0 _),a⟩
   ·exact I2 c ⟨G,C.length,L,C,(IntKind.i64.wrap (b+1)),rfl,rfl,(i.trans B),o,(O0 _),a⟩
  ·refine ifB a (λU a=>?_) λU a=>?_
   ·refine trM a (H02 _ _ _ _ _ l _ u) ?_
    rintro E a aF ao ⟨I,aB,N,rfl,A,ac⟩
    obtain⟨rfl,aw⟩:=Sl.len A
    exact I2 c ⟨I,E.length,N,E,(IntKind.i64.wrap (b+1)),rfl,rfl,(i.trans ac),A,(O0 _),a⟩
   ·exact I2 c ⟨j,d.length,k,d,(IntKind.i64.wrap (b+1)),rfl,rfl,i,l,(O0 _),a⟩
 ·obtain rfl:=oJ a
  try dsimp only[Y0,Z0]at e
  obtain rfl:=oJ e
  exact⟨j,d.length,k,rfl,l,i⟩
theorem p06(h:Hp)(d:List Value)(e:l0)(u:G1.R h d e)(b:Int)(o:J0 b)(c:Int)(p:J0 c)(r:Int)(a:F9 e b c=some r):
  Tr Tryz.prog 128 #[.agg d.toArray,.int .i64 b,.int .i64 c] h λv h'=>v = .int .i64 r/\h'=h:=by
 obtain⟨q,s,j,C,k,t,rfl,rfl,m,n,f⟩:=H0 u
 obtain⟨rfl,A⟩:=Sl.len f
 unfold F9 at a
 dsimp only at a
 refine Tr.forget (Z2 (args:=[.agg #[.int .i64 q,.int .i64 s,.slice j t.length k],.int .i64 b,.int .i64 c]) (fn:=Tryz.f128) rfl ?_)
 refine trM a (T0c _ _ _ (B0 m n f) _ o _ p) ?_
 rintro F a E z ⟨w,D,x,rfl,g,i⟩
 obtain⟨rfl,B⟩:=Sl.len g
 refine ifB a (λl a=>?_) λl a=>?_
 ·obtain rfl:=oJ a
  exact aI rfl i
 ·refine ldI a g λG y a=>?_
  obtain rfl:=oJ a
  exact aI rfl i
theorem P04(h:Hp)(p:List Value)(u:l0)(E:G1.R h p u)(r:Bool)(c:K9 u=some r):
  Tr Tryz.prog 154 #[.agg p.toArray] h λv h'=>v = .bool r/\h'=h:=by
 obtain⟨l,m,w,U,x,f,rfl,rfl,s,t,g⟩:=H0 E
 obtain⟨rfl,T⟩:=Sl.len g
 unfold K9 at c
 dsimp only at c
 refine Tr.forget (Z2 (args:=[.agg #[.int .i64 l,.int .i64 m,.slice w f.length x]]) (fn:=Tryz.f154) rfl ?_)
 obtain⟨n,y,c⟩:=C0 c
 refine eX { vars:=[3],boxes:=[],owns:=[],fuel:=true } (eX (λvs os h'=>∃ d,vs.tail = [.int .i64 d]/\os = []/\Sub h h'/\J0 d/\C5 f l m (U1 vs) d=some n) (eX (λ_ _=>0) (aI (eX W0 ⟨0,rfl,rfl,(Sub.refl _),(by decide),y⟩) ?_)))
 rintro _ k D ⟨d,⟨⟩,⟨⟩,e,J,b⟩
 replace b:C5 f l m k d=some n:=b
 obtain _|k:=k
 ·cases b
 rw[C5.eq_2]at b
 refine trG b (λq=>G8 _ _ _ (B0 s t (N0.mono e g))) λae b=>?_
 refine ifB b (λC b=>?_) λC b=>?_
 ·obtain⟨o,z,b⟩:=C0 b
  refine eX { vars:=[4],boxes:=[],owns:=[],fuel:=true } (eX (λvs os h'=>∃ u8,vs.tail = [.int .i64 u8]/\os = []/\Sub D h'/\J0 u8/\i7 d f (U1 vs) u8=some o) (eX (λ_ _=>0) (aI (eX W0 ⟨0,rfl,rfl,(Sub.refl _),(by decide),z⟩) ?_)))
  rintro _ j S ⟨u8,⟨⟩,⟨⟩,i,K,a⟩
  replace a:i7 d f j u8=some o:=a
  obtain _|j:=j
  ·cases a
  rw[i7.eq_2]at a
  refine ifB a (λA a=>?_) λA a=>?_
  ·refine ld a (N0.mono (e.trans i) g) λV H F a=>?_
   obtain⟨W,X,Y,rfl,rfl,L,M,N⟩:=Y1 F
   try dsimp only at a
   refine ld a (N0.mono (e.trans i) g) λZ I G a=>?_
   obtain⟨aa,ab,ac,rfl,rfl,O,P,Q⟩:=Y1 G
   try dsimp only at a
   refine ifB a (λB a=>?_) λB a=>?_
   ·obtain rfl:=oJ a
    try dsimp only[B4,I4]at b
    obtain rfl:=oJ b
    try dsimp only[B4,I4]at c
    obtain rfl:=oJ c
    exact aI rfl (e.trans i)
   ·exact I2 j ⟨(IntKind.i64.wrap (u8+1)),rfl,rfl,i,(O0 _),a⟩
  ·obtain rfl:=oJ a
   try dsimp only[Y0,Z0]at b
   exact I2 k ⟨(IntKind.i64.wrap (d+1)),rfl,rfl,(e.trans i),(O0 _),b⟩
 ·obtain rfl:=oJ b
  try dsimp only[Y0,Z0]at c
  refine trV c (G8 _ _ _ (B0 s t (N0.mono e g))) λad c=>?_
  obtain rfl:=oJ c
  exact aI rfl e
theorem Q0d(h:Hp)(t:List Value)(z:l0)(M:G1.R h t z)(d:Int)(x:J0 d)(k:Option Addr)(y l:Nat)(e:M0)(A:P0.R h [.slice k y l] e)(r:Int×Bool)(b:E01 z d e=some r):
  Tr Tryz.prog 159 #[.agg t.toArray,.int .i64 d,.slice k y l] h λv h'=>v = .tuple #[.int .i64 r.1,.bool r.2]/\h'=h:=by
 obtain⟨m,j,B,S,C,n,rfl,rfl,u,w,o⟩:=H0 M
 obtain⟨rfl,P⟩:=Sl.len o
 obtain⟨rfl,Q⟩:=Sl.len A
 unfold E01 at b
 dsimp only at b
 refine Tr.forget (Z2 (args:=[.agg #[.int .i64 m,.int .i64 j,.slice B n.length C],.int .i64 d,.slice k e.length l]) (fn:=Tryz.f159) rfl ?_)
 refine trV b (P04 _ _ _ (B0 u w o)) λU b=>?_
 refine trG b (λq=>t7 _ _ x 0 (by decide) (IntKind.i64.wrap (j-1)) (O0 _)) λW b=>?_
 refine ifB b (λH b=>?_) λH b=>?_
 ·obtain rfl:=oJ b
  exact aI rfl (Sub.refl _)
 ·obtain⟨s,F,b⟩:=C0 b
  refine eX { vars:=[1,8],boxes:=[],owns:=[],fuel:=true } (eX (λvs os h'=>∃ g c,vs.tail = [.int .i64 g,.int .i64 c]/\os = []/\Sub h h'/\J0 g/\J0 c/\j7 e m j n (U1 vs) g c=some s) (eX (λ_ _=>0) (aI (eX W0 ⟨d,0,rfl,rfl,(Sub.refl _),x,(by decide),F⟩) ?_)))
  rintro _ _ i O ⟨g,c,⟨⟩,⟨⟩,f,J,N,a⟩
  replace a:j7 e m j n i g c=some s:=a
  obtain _|i:=i
  ·cases a
  rw[j7.eq_2]at a
  refine ifB a (λI a=>?_) λI a=>?_
  ·refine Or.inl (aI (aI (by kernel_rfl) (by kernel_rfl)) ?_)
   refine ldI a (P0.mono f A) λV K a=>?_
   obtain⟨p,E,a⟩:=C0 a
   refine eX (.int .i64 p) (aI (p06 _ _ _ (B0 u w (N0.mono f o)) _ J _ K _  E) ?_)
   obtain⟨T,D,a⟩:=C0 a
   have L:J0 p:=C1 D
   refine ifB a (λG a=>?_) λG a=>?_
   ·obtain rfl:=oJ a
    try dsimp only[B4,I4]at b
    obtain rfl:=oJ b
    exact aI rfl f
   ·exact I2 i ⟨p,(IntKind.i64.wrap (c+1)),rfl,rfl,f,L,(O0 _),a⟩
  ·obtain rfl:=oJ a
   try dsimp only[Y0,Z0]at b
   obtain rfl:=oJ b
   exact aI rfl f
theorem U0c(h:Hp)(t:List Value)(A:l0)(T:G1.R h t A)(g:Int)(aa:J0 g)(i:Int)(ab:J0 i)(r:M0)(c:U00 A g i=some r):
  Tr Tryz.prog 269 #[.agg t.toArray,.int .i64 g,.int .i64 i] h λv h'=>∃(q:Option Addr) (z s:Nat),v = .slice q z s/\New P0 h h' [.slice q z s] r:=by
 obtain⟨Q,S,E,ak,G,o,rfl,rfl,Y,Z,D⟩:=H0 T
 obtain⟨rfl,ah⟩:=Sl.len D
 unfold U00 at c
 dsimp only at c
 refine Z2 (args:=[.agg #[.int .i64 Q,.int .i64 S,.slice E o.length G],.int .i64 g,.int .i64 i]) (fn:=Tryz.f269) rfl ?_
 obtain⟨p,M,c⟩:=C0 c
 refine eX { vars:=[14],boxes:=[],owns:=[0],fuel:=true } (eX (λvs os h'=>∃ d j e,vs.tail = [.int .i64 d]/\os = [j]/\Sub h h'/\J0 d/\F2 (Wp.int.R h') j e/\T4 o i g (U1 vs) d e=some p) (eX (λ_ _=>0) (aI (eX W0 ⟨0,[],([]:M0),rfl,rfl,(Sub.refl _),(by decide),(show F2 (Wp.int.R h) ([]:List (List Value)) ([]:M0) from trivial),M⟩) ?_)))
 rintro _ j f n ⟨d,az,e,⟨⟩,⟨⟩,m,ac,b,a⟩
 replace a:T4 o i g f d e=some p:=a
 obtain _|f:=f
 ·cases a
 rw[T4.eq_2]at a
 refine ifB a (λO a=>?_) λO a=>?_
 ·refine ld a (N0.mono m D) λax W U a=>?_
  obtain⟨k,ay,l,rfl,rfl,x,ad,y⟩:=Y1 U
  try dsimp only at a
  refine ifB a (λP a=>?_) λP a=>?_
  ·obtain⟨an,L,a⟩:=C0 a
   refine aI (P1 L (by first|rw[F2.length b,F2.length (show F2 (Wp.int.R n) ([[.int .i64 l]]:List (List Value)) [l] from⟨⟨rfl,y⟩,trivial⟩)]|exact congrArg (·+1) (F2.length b))) ?_
   exact I2 f ⟨(IntKind.i64.wrap (d+1)),(j++([[.int .i64 l]]:List (List Value))),(e ++ [l]),rfl,rfl,m,(O0 _),(F2.append b (show F2 (Wp.int.R n) ([[.int .i64 l]]:List (List Value)) [l] from⟨⟨rfl,y⟩,trivial⟩)),a⟩
  ·refine ifB a (λN a=>?_) λN a=>?_
   ·obtain⟨al,J,a⟩:=C0 a
    refine aI (P1 J (by first|rw[F2.length b,F2.length (show F2 (Wp.int.R n) ([[.int .i64 k]]:List (List Value)) [k] from⟨⟨rfl,x⟩,trivial⟩)]|exact congrArg (·+1) (F2.length b))) ?_
    exact I2 f ⟨(IntKind.i64.wrap (d+1)),(j++([[.int .i64 k]]:List (List Value))),(e ++ [k]),rfl,rfl,m,(O0 _),(F2.append b (show F2 (Wp.int.R n) ([[.int .i64 k]]:List (List Value)) [k] from⟨⟨rfl,x⟩,trivial⟩)),a⟩
   ·exact I2 f ⟨(IntKind.i64.wrap (d+1)),j,e,rfl,rfl,m,(O0 _),b,a⟩
 ·obtain rfl:=oJ a
  try dsimp only[Y0,Z0]at c
  refine Or.inl ?_
  intro au ae I
  obtain⟨am,K,c⟩:=C0 c
  refine Tr.mono (h0n _ I b (C1 K)) ?_
  rintro _ af ⟨rfl,av,u,B⟩
  obtain⟨V,X,rfl,ao,aq,ai⟩:=E1.out (r:=Wp.int.toRp) u B
  refine Tr.mono (i0n _ u B) ?_
  rintro _ ag ⟨aw,w,C⟩
  obtain⟨F,H,rfl,ap,ar,aj⟩:=E1.out (r:=Wp.int.toRp) w C
  obtain rfl:=oJ c
  exact⟨F,((X03 eqI (X06 D9 e))).length,H,rfl,(New.from (E1.newPlain (r:=Wp.int) w C (X09 _)) m)⟩
theorem w7(h:Hp)(d:List Value)(e:l0)(x:G1.R h d e)(b:Int)(p:J0 b)(c:Int)(q:J0 c)(r:Int)(a:A4 e b c=some r):
  Tr Tryz.prog 225 #[.agg d.toArray,.int .i64 b,.int .i64 c] h λv h'=>v = .int .i64 r/\h'=h:=by
 obtain⟨t,u,k,D,l,w,rfl,rfl,n,o,f⟩:=H0 x
 obtain⟨rfl,B⟩:=Sl.len f
 unfold A4 at a
 dsimp only at a
 refine Tr.forget (Z2 (args:=[.agg #[.int .i64 t,.int .i64 u,.slice k w.length l],.int .i64 b,.int .i64 c]) (fn:=Tryz.f225) rfl ?_)
 refine trM a (U0c _ _ _ (B0 n o f) _ p _ q) ?_
 rintro G a F s ⟨y,E,z,rfl,j⟩
 have i:Sub h s:=j.sub
 have g:=j.r
 obtain⟨rfl,C⟩:=Sl.len g
 refine ifB a (λm a=>?_) λm a=>?_
 ·obtain rfl:=oJ a
  exact aI rfl i
 ·refine ldI a g λH A a=>?_
  obtain rfl:=oJ a
  exact aI rfl i
theorem O9(h:Hp)(o:List Value)(p:l0)(P:G1.R h o p)(r:Bool)(c:W5 p=some r):
  Tr Tryz.prog 141 #[.agg o.toArray] h λv h'=>v = .bool r/\h'=h:=by
 obtain⟨M,N,x,ak,y,l,rfl,rfl,J,K,j⟩:=H0 P
 obtain⟨rfl,ai⟩:=Sl.len j
 unfold W5 at c
 dsimp only at c
 refine Tr.forget (Z2 (args:=[.agg #[.int .i64 M,.int .i64 N,.slice x l.length y]]) (fn:=Tryz.f141) rfl ?_)
 refine trV c (q00 _ _ _ (B0 J K j)) λal c=>?_
 refine ifB c (λG c=>?_) λG c=>?_
 ·obtain rfl:=oJ c
  exact aI rfl (Sub.refl _)
 ·obtain⟨n,D,c⟩:=C0 c
  refine eX { vars:=[13],boxes:=[],owns:=[],fuel:=true } (eX (λvs os h'=>∃ e,vs.tail = [.int .i64 e]/\os = []/\Sub h h'/\J0 e/\n7 l (U1 vs) e=some n) (eX (λ_ _=>0) (aI (eX W0 ⟨0,rfl,rfl,(Sub.refl _),(by decide),D⟩) ?_)))
  rintro _ i L ⟨e,⟨⟩,⟨⟩,f,aa,a⟩
  replace a:n7 l i e=some n:=a
  obtain _|i:=i
  ·cases a
  rw[n7.eq_2]at a
  refine ifB a (λH a=>?_) λH a=>?_
  ·refine ld a (N0.mono f j) λaq X S a=>?_
   obtain⟨s,t,u,rfl,rfl,ae,af,ag⟩:=Y1 S
   try dsimp only at a
   obtain⟨w,B,a⟩:=C0 a
   obtain⟨O,T,z,A⟩:=Sl.cutI (r:=D1.toRp) (N0.mono f j) B
   refine aI O (eX T (aI z ?_))
   intro U I _
   obtain⟨V,Y,rfl,q⟩:=A U I
   have aj:=(Sl.len q).2
   obtain⟨m,C,a⟩:=C0 a
   refine eX { vars:=[24],boxes:=[],owns:=[],fuel:=true } (eX (λvs os h'=>∃ d,vs.tail = [.int .i64 d]/\os = []/\Sub L h'/\J0 d/\l7 w t s u (U1 vs) d=some m) (eX (λ_ _=>0) (aI (eX W0 ⟨0,rfl,rfl,(Sub.refl _),(by decide),C⟩) ?_)))
   rintro _ g ah ⟨d,⟨⟩,⟨⟩,k,Z,b⟩
   replace b:l7 w t s u g d=some m:=b
   obtain _|g:=g
   ·cases b
   rw[l7.eq_2]at b
   refine ifB b (λE b=>?_) λE b=>?_
   ·refine ld b (N0.mono k q) λam W Q b=>?_
    obtain⟨an,ao,ap,rfl,rfl,ab,ac,ad⟩:=Y1 Q
    try dsimp only at b
    refine ifB b (λF b=>?_) λF b=>?_
    ·obtain rfl:=oJ b
     try dsimp only[B4,I4]at a
     obtain rfl:=oJ a
     try dsimp only[B4,I4]at c
     obtain rfl:=oJ c
     exact aI rfl (f.trans k)
    ·exact I2 g ⟨(IntKind.i64.wrap (d+1)),rfl,rfl,k,(O0 _),b⟩
   ·obtain rfl:=oJ b
    try dsimp only[Y0,Z0]at a
    exact I2 i ⟨(IntKind.i64.wrap (e+1)),rfl,rfl,(f.trans k),(O0 _),a⟩
  ·obtain rfl:=oJ a
   try dsimp only[Y0,Z0]at c
   obtain rfl:=oJ c
   exact aI rfl f
theorem q06(h:Hp)(p:List Value)(s:l0)(J:G1.R h p s)(d:Int)(F:J0 d)(j:Option Addr)(q k:Nat)(e:M0)(u:P0.R h [.slice j q k] e)(r:Int×Int)(b:G9 s d e=some r):
  Tr Tryz.prog 142 #[.agg p.toArray,.int .i64 d,.slice j q k] h λv h'=>v = .tuple #[.int .i64 r.1,.int .i64 r.2]/\h'=h:=by
 obtain⟨l,m,x,O,y,n,rfl,rfl,D,E,t⟩:=H0 J
 obtain⟨rfl,M⟩:=Sl.len t
 obtain⟨rfl,N⟩:=Sl.len u
 unfold G9 at b
 dsimp only at b
 refine Tr.forget (Z2 (args:=[.agg #[.int .i64 l,.int .i64 m,.slice x n.length y],.int .i64 d,.slice j e.length k]) (fn:=Tryz.f142) rfl ?_)
 obtain⟨o,A,b⟩:=C0 b
 refine eX { vars:=[1,13],boxes:=[],owns:=[],fuel:=true } (eX (λvs os h'=>∃ g c,vs.tail = [.int .i64 g,.int .i64 c]/\os = []/\Sub h h'/\J0 g/\J0 c/\Z5 e l m n (U1 vs) g c=some o) (eX (λ_ _=>0) (aI (eX W0 ⟨d,0,rfl,rfl,(Sub.refl _),F,(by decide),A⟩) ?_)))
 rintro _ _ i L ⟨g,c,⟨⟩,⟨⟩,f,G,K,a⟩
 replace a:Z5 e l m n i g c=some o:=a
 obtain _|i:=i
 ·cases a
 rw[Z5.eq_2]at a
 refine ifB a (λC a=>?_) λC a=>?_
 ·refine ldI a (P0.mono f u) λQ H a=>?_
  refine trV a (w7 _ _ _ (B0 D E (N0.mono f t)) _ G _ H) λw a=>?_
  obtain⟨P,z,a⟩:=C0 a
  have I:J0 w:=C1 z
  refine ifB a (λB a=>?_) λB a=>?_
  ·obtain rfl:=oJ a
   try dsimp only[B4,I4]at b
   obtain rfl:=oJ b
   exact aI rfl f
  ·exact I2 i ⟨w,(IntKind.i64.wrap (c+1)),rfl,rfl,f,I,(O0 _),a⟩
 ·obtain rfl:=oJ a
  try dsimp only[Y0,Z0]at b
  obtain rfl:=oJ b
  exact aI rfl f
theorem c00(h:Hp)(d:List Value)(f:l0)(u:G1.R h d f)(r:l0)(a:I6 f=some r):
  Tr Tryz.prog 120 #[.agg d.toArray] h λv h'=>∃(c:List Value),v = .agg c.toArray/\New G1 h h' c r:=by
 obtain⟨g,i,l,A,n,j,rfl,rfl,s,t,k⟩:=H0 u
 obtain⟨rfl,y⟩:=Sl.len k
 unfold I6 at a
 dsimp only at a
 refine Z2 (args:=[.agg #[.int .i64 g,.int .i64 i,.slice l j.length n]]) (fn:=Tryz.f120) rfl ?_
 refine Or.inr (Or.inr (Or.inl (aI (aI (by kernel_rfl) (by kernel_rfl)) ?_)))
 refine Or.inr ?_
 refine Or.inr ?_
 refine Or.inr ?_
 refine Or.inr ?_
 refine Or.inl (eX 0 (aI (aI rfl rfl) ?_))
 refine aT ?_
 obtain⟨w,p,b⟩:=Sl.rows (r:=D1.toRp) k
 refine eX w (aI p ?_)
 obtain⟨B,q,a⟩:=C0 a
 refine aI (P1 q (by first|rw[F2.length (show F2 (D1.R h) ([]:List (List Value)) ([]:V0) from trivial),F2.length b]|exact congrArg (·+1) (F2.length (show F2 (D1.R h) ([]:List (List Value)) ([]:V0) from trivial)))) ?_
 refine aT ?_
 refine aT ?_
 refine aT ?_
 intro E x e
 obtain⟨m,o,rfl,C,D,z⟩:=E1.out (r:=D1.toRp) e (F2.append (show F2 (D1.R h) ([]:List (List Value)) ([]:V0) from trivial) b)
 obtain rfl:=oJ a
 exact⟨([.int .i64 g,.int .i64 i,.slice m ((([]:V0)++j)).length o]),rfl,(New.pair (New.int s) (New.pair (New.int t) (E1.newPlain (r:=D1) e (F2.append (show F2 (D1.R h) ([]:List (List Value)) ([]:V0) from trivial) b) (T05 _))))⟩
theorem I02(h:Hp)(H:Option Addr)(ad I:Nat)(F:V0)(q:N0.R h [.slice H ad I] F)(M:List Value)(ae:K0)(aE:D1.R h M ae)(r:V0)(g:b9 F ae=some r):
  Tr Tryz.prog 193 #[.slice H ad I,.agg M.toArray] h λv h'=>∃(K:Option Addr) (ac L:Nat),v = .slice K ac L/\New N0 h h' [.slice K ac L] r:=by
 obtain⟨rfl,aV⟩:=Sl.len q
 obtain⟨b,c,d,rfl,rfl,i,j,k⟩:=Y1 aE
 unfold b9 at g
 dsimp only at g
 refine Z2 (args:=[.slice H F.length I,.agg #[.int .i64 b,.int .i64 c,.int .i64 d]]) (fn:=Tryz.f193) rfl ?_
 obtain⟨J,av,g⟩:=C0 g
 refine eX { vars:=[6,7],boxes:=[],owns:=[0],fuel:=true } (eX (λvs os h'=>∃ G n p m,vs.tail = [.bool G,.int .i64 n]/\os = [p]/\Sub h h'/\J0 n/\F2 (D1.R h') p m/\K4 F b c d (U1 vs) G n m=some J) (eX (λ_ _=>0) (aI (eX W0 ⟨false,0,[],([]:V0),rfl,rfl,(Sub.refl _),(by decide),(show F2 (D1.R h) ([]:List (List Value)) ([]:V0) from trivial),av⟩) ?_)))
 rintro _ _ p o f ⟨G,n,bk,m,⟨⟩,⟨⟩,l,aQ,e,a⟩
 replace a:K4 F b c d o G n m=some J:=a
 obtain _|o:=o
 ·cases a
 rw[K4.eq_2]at a
 refine ifB a (λaA a=>?_) λaA a=>?_
 ·refine Or.inl (aI (aI (by kernel_rfl) (by kernel_rfl)) ?_)
  refine ld a (N0.mono l q) λbg aP aK a=>?_
  obtain⟨bh,bi,bj,rfl,rfl,aB,aC,aD⟩:=Y1 aK
  try dsimp only at a
  obtain⟨af,au,a⟩:=C0 a
  refine eX (.int .i64 af) (aI (V04 _ _ _ (L1 i j k) _ _ (L1 aB aC aD) _  au) ?_)
  obtain⟨aY,ak,a⟩:=C0 a
  have aR:J0 af:=C1 ak
  refine ifB a (λaw a=>?_) λaw a=>?_
  ·refine ifB a (λax a=>?_) λax a=>?_
   ·obtain⟨aZ,al,a⟩:=C0 a
    refine aI (P1 al (by first|rw[F2.length e,F2.length (show F2 (D1.R f) ([[.int .i64 b,.int .i64 c,.int .i64 d]]:List (List Value)) [(b,c,d)] from⟨(L1 i j k),trivial⟩)]|exact congrArg (·+1) (F2.length e))) ?_
    refine ld a (N0.mono l q) λbc aL aF a=>?_
    obtain⟨s,t,u,rfl,rfl,P,Q,S⟩:=Y1 aF
    try dsimp only at a
    obtain⟨a0,am,a⟩:=C0 a
    refine aI (P1 am (by first|rw[F2.length (F2.append e (show F2 (D1.R f) ([[.int .i64 b,.int .i64 c,.int .i64 d]]:List (List Value)) [(b,c,d)] from⟨(L1 i j k),trivial⟩)),F2.length (show F2 (D1.R f) ([[.int .i64 s,.int .i64 t,.int .i64 u]]:List (List Value)) [(s,t,u)] from⟨(L1 P Q S),trivial⟩)]|exact congrArg (·+1) (F2.length (F2.append e (show F2 (D1.R f) ([[.int .i64 b,.int .i64 c,.int .i64 d]]:List (List Value)) [(b,c,d)] from⟨(L1 i j k),trivial⟩))))) ?_
    exact I2 o ⟨true,(IntKind.i64.wrap (n+1)),((p++([[.int .i64 b,.int .i64 c,.int .i64 d]]:List (List Value)))++([[.int .i64 s,.int .i64 t,.int .i64 u]]:List (List Value))),((m ++ [(b,c,d)]) ++ [(s,t,u)]),rfl,rfl,l,(O0 _),(F2.append (F2.append e (show F2 (D1.R f) ([[.int .i64 b,.int .i64 c,.int .i64 d]]:List (List Value)) [(b,c,d)] from⟨(L1 i j k),trivial⟩)) (show F2 (D1.R f) ([[.int .i64 s,.int .i64 t,.int .i64 u]]:List (List Value)) [(s,t,u)] from⟨(L1 P Q S),trivial⟩)),a⟩
   ·refine ld a (N0.mono l q) λbd aM aG a=>?_
    obtain⟨w,x,y,rfl,rfl,T,U,V⟩:=Y1 aG
    try dsimp only at a
    obtain⟨a1,an,a⟩:=C0 a
    refine aI (P1 an (by first|rw[F2.length e,F2.length (show F2 (D1.R f) ([[.int .i64 w,.int .i64 x,.int .i64 y]]:List (List Value)) [(w,x,y)] from⟨(L1 T U V),trivial⟩)]|exact congrArg (·+1) (F2.length e))) ?_
    exact I2 o ⟨true,(IntKind.i64.wrap (n+1)),(p++([[.int .i64 w,.int .i64 x,.int .i64 y]]:List (List Value))),(m ++ [(w,x,y)]),rfl,rfl,l,(O0 _),(F2.append e (show F2 (D1.R f) ([[.int .i64 w,.int .i64 x,.int .i64 y]]:List (List Value)) [(w,x,y)] from⟨(L1 T U V),trivial⟩)),a⟩
  ·refine ifB a (λay a=>?_) λay a=>?_
   ·obtain⟨a2,ao,a⟩:=C0 a
    refine aI (P1 ao (by first|rw[F2.length e,F2.length (show F2 (D1.R f) ([[.int .i64 b,.int .i64 c,.int .i64 d]]:List (List Value)) [(b,c,d)] from⟨(L1 i j k),trivial⟩)]|exact congrArg (·+1) (F2.length e))) ?_
    refine ld a (N0.mono l q) λbe aN aH a=>?_
    obtain⟨z,A,B,rfl,rfl,W,X,Y⟩:=Y1 aH
    try dsimp only at a
    obtain⟨a3,ap,a⟩:=C0 a
    refine aI (P1 ap (by first|rw[F2.length (F2.append e (show F2 (D1.R f) ([[.int .i64 b,.int .i64 c,.int .i64 d]]:List (List Value)) [(b,c,d)] from⟨(L1 i j k),trivial⟩)),F2.length (show F2 (D1.R f) ([[.int .i64 z,.int .i64 A,.int .i64 B]]:List (List Value)) [(z,A,B)] from⟨(L1 W X Y),trivial⟩)]|exact congrArg (·+1) (F2.length (F2.append e (show F2 (D1.R f) ([[.int .i64 b,.int .i64 c,.int .i64 d]]:List (List Value)) [(b,c,d)] from⟨(L1 i j k),trivial⟩))))) ?_
    exact I2 o ⟨true,(IntKind.i64.wrap (n+1)),((p++([[.int .i64 b,.int .i64 c,.int .i64 d]]:List (List Value)))++([[.int .i64 z,.int .i64 A,.int .i64 B]]:List (List Value))),((m ++ [(b,c,d)]) ++ [(z,A,B)]),rfl,rfl,l,(O0 _),(F2.append (F2.append e (show F2 (D1.R f) ([[.int .i64 b,.int .i64 c,.int .i64 d]]:List (List Value)) [(b,c,d)] from⟨(L1 i j k),trivial⟩)) (show F2 (D1.R f) ([[.int .i64 z,.int .i64 A,.int .i64 B]]:List (List Value)) [(z,A,B)] from⟨(L1 W X Y),trivial⟩)),a⟩
   ·refine ld a (N0.mono l q) λbf aO aJ a=>?_
    obtain⟨C,D,E,rfl,rfl,Z,aa,ab⟩:=Y1 aJ
    try dsimp only at a
    obtain⟨a4,aq,a⟩:=C0 a
    refine aI (P1 aq (by first|rw[F2.length e,F2.length (show F2 (D1.R f) ([[.int .i64 C,.int .i64 D,.int .i64 E]]:List (List Value)) [(C,D,E)] from⟨(L1 Z aa ab),trivial⟩)]|exact congrArg (·+1) (F2.length e))) ?_
    exact I2 o ⟨G,(IntKind.i64.wrap (n+1)),(p++([[.int .i64 C,.int .i64 D,.int .i64 E]]:List (List Value))),(m ++ [(C,D,E)]),rfl,rfl,l,(O0 _),(F2.append e (show F2 (D1.R f) ([[.int .i64 C,.int .i64 D,.int .i64 E]]:List (List Value)) [(C,D,E)] from⟨(L1 Z aa ab),trivial⟩)),a⟩
 ·obtain rfl:=oJ a
  try dsimp only[Y0,Z0]at g
  refine ifB g (λaz g=>?_) λaz g=>?_
  ·obtain⟨a5,ar,g⟩:=C0 g
   refine aI (P1 ar (by first|rw[F2.length e,F2.length (show F2 (D1.R f) ([[.int .i64 b,.int .i64 c,.int .i64 d]]:List (List Value)) [(b,c,d)] from⟨(L1 i j k),trivial⟩)]|exact congrArg (·+1) (F2.length e))) ?_
   intro ba aS N
   obtain⟨ag,ai,rfl,a6,a8,aW⟩:=E1.out (r:=D1.toRp) N (F2.append e (show F2 (D1.R f) ([[.int .i64 b,.int .i64 c,.int .i64 d]]:List (List Value)) [(b,c,d)] from⟨(L1 i j k),trivial⟩))
   obtain rfl:=oJ g
   exact⟨ag,((m ++ [(b,c,d)])).length,ai,rfl,(New.from (E1.newPlain (r:=D1) N (F2.append e (show F2 (D1.R f) ([[.int .i64 b,.int .i64 c,.int .i64 d]]:List (List Value)) [(b,c,d)] from⟨(L1 i j k),trivial⟩)) (T05 _)) l)⟩
  ·intro bb aU O
   obtain⟨ah,aj,rfl,a7,a9,aX⟩:=E1.out (r:=D1.toRp) O e
   obtain rfl:=oJ g
   exact⟨ah,m.length,aj,rfl,(New.from (E1.newPlain (r:=D1) O e (T05 _)) l)⟩
theorem R0d(h:Hp)(l:List Value)(m:l0)(z:G1.R h l m)(g:Int)(I:J0 g)(r:Int)(f:x00 m g=some r):
  Tr Tryz.prog 257 #[.agg l.toArray,.int .i64 g] h λv h'=>v = .int .i64 r/\h'=h:=by
 obtain⟨x,y,n,W,o,j,rfl,rfl,G,H,i⟩:=H0 z
 obtain⟨rfl,V⟩:=Sl.len i
 unfold x00 at f
 dsimp only at f
 refine Tr.forget (Z2 (args:=[.agg #[.int .i64 x,.int .i64 y,.slice n j.length o],.int .i64 g]) (fn:=Tryz.f257) rfl ?_)
 obtain⟨k,p,f⟩:=C0 f
 refine eX { vars:=[5,6],boxes:=[],owns:=[],fuel:=true } (eX (λvs os h'=>∃ b c,vs.tail = [.int .i64 b,.int .i64 c]/\os = []/\Sub h h'/\J0 b/\J0 c/\U3 j g (U1 vs) b c=some k) (eX (λ_ _=>0) (aI (eX W0 ⟨0,0,rfl,rfl,(Sub.refl _),(by decide),(by decide),p⟩) ?_)))
 rintro _ _ e U ⟨b,c,⟨⟩,⟨⟩,d,w,J,a⟩
 replace a:U3 j g e b c=some k:=a
 obtain _|e:=e
 ·cases a
 rw[U3.eq_2]at a
 refine ifB a (λt a=>?_) λt a=>?_
 ·refine ld a (N0.mono d i) λab E B a=>?_
  obtain⟨ac,ad,ae,rfl,rfl,N,O,P⟩:=Y1 B
  try dsimp only at a
  refine ifB a (λu a=>?_) λu a=>?_
  ·refine ld a (N0.mono d i) λaf F C a=>?_
   obtain⟨ag,ah,ai,rfl,rfl,Q,S,T⟩:=Y1 C
   try dsimp only at a
   refine ifB a (λq a=>?_) λq a=>?_
   ·exact I2 e ⟨(IntKind.i64.wrap ((IntKind.i64.wrap (b+1))+1)),(IntKind.i64.wrap (c+1)),rfl,rfl,d,(O0 _),(O0 _),a⟩
   ·exact I2 e ⟨(IntKind.i64.wrap (b+1)),(IntKind.i64.wrap (c+1)),rfl,rfl,d,(O0 _),(O0 _),a⟩
  ·refine ld a (N0.mono d i) λX D A a=>?_
   obtain⟨Y,Z,aa,rfl,rfl,K,L,M⟩:=Y1 A
   try dsimp only at a
   refine ifB a (λs a=>?_) λs a=>?_
   ·exact I2 e ⟨(IntKind.i64.wrap (b+1)),(IntKind.i64.wrap (c+1)),rfl,rfl,d,(O0 _),(O0 _),a⟩
   ·exact I2 e ⟨b,(IntKind.i64.wrap (c+1)),rfl,rfl,d,w,(O0 _),a⟩
 ·obtain rfl:=oJ a
  try dsimp only[Y0,Z0]at f
  obtain rfl:=oJ f
  exact aI rfl d
theorem i03(h:Hp)(j:List Value)(l:l0)(D:G1.R h j l)(k:List Value)(m:l0)(E:G1.R h k m)(r:Bool)(b:K7 l m=some r):
  Tr Tryz.prog 38 #[.agg j.toArray,.agg k.toArray] h λv h'=>v = .bool r/\h'=h:=by
 obtain⟨z,A,p,ae,s,f,rfl,rfl,P,Q,n⟩:=H0 D
 obtain⟨rfl,ac⟩:=Sl.len n
 obtain⟨B,C,q,af,t,g,rfl,rfl,S,T,o⟩:=H0 E
 obtain⟨rfl,ad⟩:=Sl.len o
 unfold K7 at b
 dsimp only at b
 refine Tr.forget (Z2 (args:=[.agg #[.int .i64 z,.int .i64 A,.slice p f.length s],.agg #[.int .i64 B,.int .i64 C,.slice q g.length t]]) (fn:=Tryz.f38) rfl ?_)
 refine ifB b (λw b=>?_) λw b=>?_
 ·obtain rfl:=oJ b
  exact aI rfl (Sub.refl _)
 ·obtain⟨i,u,b⟩:=C0 b
  refine eX { vars:=[5],boxes:=[],owns:=[],fuel:=true } (eX (λvs os h'=>∃ c,vs.tail = [.int .i64 c]/\os = []/\Sub h h'/\J0 c/\w6 f g (U1 vs) c=some i) (eX (λ_ _=>0) (aI (eX W0 ⟨0,rfl,rfl,(Sub.refl _),(by decide),u⟩) ?_)))
  rintro _ e ab ⟨c,⟨⟩,⟨⟩,d,U,a⟩
  replace a:w6 f g e c=some i:=a
  obtain _|e:=e
  ·cases a
  rw[w6.eq_2]at a
  refine ifB a (λx a=>?_) λx a=>?_
  ·refine Or.inl (aI (aI (by kernel_rfl) (by kernel_rfl)) ?_)
   refine ld a (N0.mono d n) λag N F a=>?_
   obtain⟨H,I,J,rfl,rfl,V,W,X⟩:=Y1 F
   try dsimp only at a
   refine ld a (N0.mono d o) λah O G a=>?_
   obtain⟨K,L,M,rfl,rfl,Y,Z,aa⟩:=Y1 G
   try dsimp only at a
   refine eX (!eqE (H,I,J) (K,L,M)) (aI (C0j _ _ _ rfl _ _ _ _ _ _) ?_)
   refine ifB a (λy a=>?_) λy a=>?_
   ·obtain rfl:=oJ a
    try dsimp only[B4,I4]at b
    obtain rfl:=oJ b
    exact aI rfl d
   ·exact I2 e ⟨(IntKind.i64.wrap (c+1)),rfl,rfl,d,(O0 _),a⟩
  ·obtain rfl:=oJ a
   try dsimp only[Y0,Z0]at b
   obtain rfl:=oJ b
   exact aI rfl d
theorem G0a(h:Hp)(H:List Value)(K:l0)(av:G1.R h H K)(e:Int)(I:J0 e)(r:M0)(b:m00 K e=some r):
  Tr Tryz.prog 282 #[.agg H.toArray,.int .i64 e] h λv h'=>∃(F:Option Addr) (J G:Nat),v = .slice F J G/\P0.R h' [.slice F J G] r/\Sub h h':=by
 obtain⟨au,L,T,aX,Z,s,rfl,rfl,ap,aq,A⟩:=H0 av
 obtain⟨rfl,aO⟩:=Sl.len A
 unfold m00 at b
 dsimp only at b
 refine Z2 (args:=[.agg #[.int .i64 au,.int .i64 L,.slice T s.length Z],.int .i64 e]) (fn:=Tryz.f282) rfl ?_
 refine trV b (G8 _ _ _ (B0 ap aq A)) λa6 b=>?_
 refine trG b (λq=>t7 _ _ I 0 (by decide) (IntKind.i64.wrap (L-1)) (O0 _)) λa7 b=>?_
 refine ifB b (λam b=>?_) λam b=>?_
 ·intro a4 aM ag
  obtain⟨Y,ae,rfl,ay,aC,aW⟩:=E1.out (r:=Wp.int.toRp) ag (show F2 (Wp.int.R h) ([]:List (List Value)) ([]:M0) from trivial)
  obtain rfl:=oJ b
  exact⟨Y,(([]:M0)).length,ae,rfl,ay,aC⟩
 ·obtain⟨D,ah,b⟩:=C0 b
  refine eX { vars:=[5,6],boxes:=[],owns:=[],fuel:=true,pubs:=[5,22] } (eX (λvs os h'=>∃(m:Option Addr) (y o:Nat) (j:M0) (l:Int),vs.tail = [.slice m y o,.int .i64 l]/\os = []/\Sub h h'/\P0.R h' [.slice m y o] j/\J0 l/\G5 s (U1 vs) j l=some D) (eX (λ_ _=>0) ?_))
  intro a5 aN af
  obtain⟨X,ad,rfl,ax,aB,aV⟩:=E1.out (r:=Wp.int.toRp) af (show F2 (Wp.int.R h) ([[.int .i64 e]]:List (List Value)) [e] from⟨⟨rfl,I⟩,trivial⟩)
  refine aI (eX W0 ⟨X,([e]).length,ad,[e],0,rfl,rfl,aB,ax,(by decide),ah⟩) ?_
  rintro _ _ t ar ⟨m,y,o,j,l,⟨⟩,⟨⟩,C,B,aE,c⟩
  replace c:G5 s t j l=some D:=c
  obtain _|t:=t
  ·cases c
  rw[G5.eq_2]at c
  obtain⟨rfl,aP⟩:=Sl.len B
  refine ifB c (λaj c=>?_) λaj c=>?_
  ·obtain⟨E,ai,c⟩:=C0 c
   refine eX { vars:=[5,7],boxes:=[],owns:=[],fuel:=true } (eX (λvs os h'=>∃ n z p f d,vs.tail = [.slice n z p,.int .i64 d]/\os = []/\Sub ar h'/\P0.R h' [.slice n z p] f/\J0 d/\S3 s (U1 vs) f d=some E) (eX (λ_ _=>0) (aI (eX W0 ⟨m,j.length,o,j,0,rfl,rfl,(Sub.refl _),B,(by decide),ai⟩) ?_)))
   rintro _ _ g aH ⟨n,z,p,f,d,⟨⟩,⟨⟩,k,i,aF,a⟩
   replace a:S3 s g f d=some E:=a
   obtain _|g:=g
   ·cases a
   rw[S3.eq_2]at a
   obtain⟨rfl,aQ⟩:=Sl.len i
   refine ifB a (λak a=>?_) λak a=>?_
   ·refine ld a (N0.mono (C.trans k) A) λa8 aD aw a=>?_
    obtain⟨a9,ba,bb,rfl,rfl,w,aG,x⟩:=Y1 aw
    try dsimp only at a
    refine trV a (S03 _ _ _ _ _ i _ w) λbc a=>?_
    refine ifB a (λal a=>?_) λal a=>?_
    ·refine trM a (H02 _ _ _ _ _ i _ x) ?_
     rintro P a a1 aJ ⟨U,aY,aa,rfl,u,O⟩
     obtain⟨rfl,aR⟩:=Sl.len u
     refine trV a (S03 _ _ _ _ _ u _ x) λbd a=>?_
     refine ifB a (λan a=>?_) λan a=>?_
     ·refine trM a (H02 _ _ _ _ _ u _ w) ?_
      rintro Q a a2 aK ⟨V,aZ,ab,rfl,M,az⟩
      obtain⟨rfl,aS⟩:=Sl.len M
      exact I2 g ⟨V,Q.length,ab,Q,(IntKind.i64.wrap (d+1)),rfl,rfl,((k.trans O).trans az),M,(O0 _),a⟩
     ·exact I2 g ⟨U,P.length,aa,P,(IntKind.i64.wrap (d+1)),rfl,rfl,(k.trans O),u,(O0 _),a⟩
    ·refine trV a (S03 _ _ _ _ _ i _ x) λbe a=>?_
     refine ifB a (λao a=>?_) λao a=>?_
     ·refine trM a (H02 _ _ _ _ _ i _ w) ?_
      rintro S a a3 aL ⟨W,a0,ac,rfl,N,aA⟩
      obtain⟨rfl,aU⟩:=Sl.len N
      exact I2 g ⟨W,S.length,ac,S,(IntKind.i64.wrap (d+1)),rfl,rfl,(k.trans aA),N,(O0 _),a⟩
     ·exact I2 g ⟨n,f.length,p,f,(IntKind.i64.wrap (d+1)),rfl,rfl,k,i,(O0 _),a⟩
   ·obtain rfl:=oJ a
    try dsimp only[Y0,Z0]at c
    exact I2 t ⟨n,f.length,p,f,(IntKind.i64.wrap (l+1)),rfl,rfl,(C.trans k),i,(O0 _),c⟩
  ·obtain rfl:=oJ c
   try dsimp only[Y0,Z0]at b
   obtain rfl:=oJ b
   exact⟨m,j.length,o,rfl,B,C⟩
theorem e0a(h:Hp)(m:List Value)(s:l0)(D:G1.R h m s)(r:Int)(b:U01 s=some r):
  Tr Tryz.prog 260 #[.agg m.toArray] h λv h'=>v = .int .i64 r/\h'=h:=by
 obtain⟨f,g,w,L,x,i,rfl,rfl,n,o,j⟩:=H0 D
 obtain⟨rfl,J⟩:=Sl.len j
 unfold U01 at b
 dsimp only at b
 refine Tr.forget (Z2 (args:=[.agg #[.int .i64 f,.int .i64 g,.slice w i.length x]]) (fn:=Tryz.f260) rfl ?_)
 refine trM b (G0a _ _ _ (B0 n o j) 0 (by decide)) ?_
 rintro u b O C ⟨F,M,G,rfl,t,k⟩
 obtain⟨rfl,K⟩:=Sl.len t
 obtain⟨l,z,b⟩:=C0 b
 refine eX { vars:=[4],boxes:=[],owns:=[],fuel:=true } (eX (λvs os h'=>∃ c,vs.tail = [.int .i64 c]/\os = []/\Sub C h'/\J0 c/\O8 g f i u (U1 vs) c=some l) (eX (λ_ _=>0) (aI (eX W0 ⟨1,rfl,rfl,(Sub.refl _),(by decide),z⟩) ?_)))
 rintro _ e I ⟨c,⟨⟩,⟨⟩,d,p,a⟩
 replace a:O8 g f i u e c=some l:=a
 obtain _|e:=e
 ·cases a
 rw[O8.eq_2]at a
 refine ifB a (λB a=>?_) λB a=>?_
 ·refine trV a (R0d _ _ _ (B0 n o (N0.mono (k.trans d) j)) _ p) λE a=>?_
  obtain⟨N,y,a⟩:=C0 a
  have H:J0 E:=C1 y
  refine trG a (λq=>S03 _ _ _ _ _ (P0.mono d t) _ p) λP a=>?_
  refine ifB a (λA a=>?_) λA a=>?_
  ·obtain rfl:=oJ a
   try dsimp only[B4,I4]at b
   obtain rfl:=oJ b
   exact aI rfl (k.trans d)
  ·exact I2 e ⟨(IntKind.i64.wrap (c+1)),rfl,rfl,d,(O0 _),a⟩
 ·obtain rfl:=oJ a
  try dsimp only[Y0,Z0]at b
  obtain rfl:=oJ b
  exact aI rfl (k.trans d)
theorem K04(h:Hp)(T:List Value)(Y:l0)(a0:G1.R h T Y)(H:Option Addr)(X I:Nat)(o:M0)(C:P0.R h [.slice H X I] o)(r:l0×Bool)(d:S7 Y o=some r):
  Tr Tryz.prog 198 #[.agg T.toArray,.slice H X I] h λv h'=>∃(S:List Value),v = .tuple #[.agg S.toArray,.bool r.2]/\G1.R h' S r.1/\Sub h h':=by
 obtain⟨B,k,ah,bQ,ap,x,rfl,rfl,z,J,y⟩:=H0 a0
 obtain⟨rfl,bL⟩:=Sl.len y
 obtain⟨rfl,aZ⟩:=Sl.len C
 unfold S7 at d
 dsimp only at d
 refine Z2 (args:=[.agg #[.int .i64 B,.int .i64 k,.slice ah x.length ap],.slice H o.length I]) (fn:=Tryz.f198) rfl ?_
 refine trV d (G8 _ _ _ (B0 z J y)) λb3 d=>?_
 refine ifB d (λaM d=>?_) λaM d=>?_
 ·refine trM d (c00 _ _ _ (B0 z J y)) ?_
  rintro ca d b2 aX ⟨bm,rfl,ae⟩
  have bb:Sub h aX:=ae.sub
  have a4:=ae.r
  obtain⟨bg,bh,aj,bS,ar,bi,rfl,rfl,aU,aV,aa⟩:=H0 a4
  obtain⟨rfl,bO⟩:=Sl.len aa
  try dsimp only at d
  obtain rfl:=oJ d
  exact⟨([.int .i64 bg,.int .i64 bh,.slice aj bi.length ar]),rfl,(B0 aU aV aa),bb⟩
 ·obtain⟨bU,az,d⟩:=C0 d
  refine aI (C1 az) ?_
  obtain⟨Q,aJ,d⟩:=C0 d
  refine eX { vars:=[8],boxes:=[],owns:=[0],fuel:=true,kept:=[0] } (eX (λvs os h'=>∃ u8 E n,vs.tail = [.int .i64 u8]/\os = [E]/\Sub h h'/\J0 u8/\F2 (Wp.int.R h') E n/\L4 o k B x (U1 vs) u8 n=some Q) (eX (λ_ _=>0) (aI (eX W0 ⟨0,(List.replicate k.toNat ([.int .i64 0]:List Value)),(List.replicate k.toNat (0:Int)),rfl,rfl,(Sub.refl _),(by decide),(F2.rep (p:=Wp.int.R h) (a:=[.int .i64 0]) (b:=0) ⟨rfl,(by decide)⟩ (k.toNat)),aJ⟩) ?_)))
  rintro _ E A u ⟨u8,cg,n,⟨⟩,⟨⟩,f,bt,j,c⟩
  replace c:L4 o k B x A u8 n=some Q:=c
  obtain _|A:=A
  ·cases c
  rw[L4.eq_2]at c
  refine ifB c (λaK c=>?_) λaK c=>?_
  ·refine Or.inl (aI (aI (by kernel_rfl) (by kernel_rfl)) ?_)
   refine ldI c (P0.mono f C) λb4 aP c=>?_
   obtain⟨bc,aA,c⟩:=C0 c
   refine eX (.bool bc) (aI (t7 _ _ aP 0 (by decide) (IntKind.i64.wrap (k-1)) (O0 _) _  aA) ?_)
   refine ldG c (P0.mono f C) λb5 bu c=>?_
   obtain⟨b6,aB,c⟩:=C0 c
   obtain⟨bj,U,a1⟩:=F03 j aB (n0b u)
   refine aI (λq=>(U q).1) ?_
   obtain⟨rfl,bv⟩:=a1
   refine eX _ (aI (λq=>(U q).2) ?_)
   refine ifB c (λaL c=>?_) λaL c=>?_
   ·refine trM c (c00 _ _ _ (B0 z J (N0.mono f y))) ?_
    rintro b7 c b0 aW ⟨bk,rfl,ad⟩
    have ba:Sub u aW:=ad.sub
    have a2:=ad.r
    obtain⟨bd,be,ai,bR,aq,bf,rfl,rfl,aQ,aR,Z⟩:=H0 a2
    obtain⟨rfl,bN⟩:=Sl.len Z
    try dsimp only at c
    obtain rfl:=oJ c
    try dsimp only[B4,I4]at d
    obtain rfl:=oJ d
    exact⟨([.int .i64 bd,.int .i64 be,.slice ai bf.length aq]),rfl,(B0 aQ aR Z),(f.trans ba)⟩
   ·refine ldI c (P0.mono f C) λN bx c=>?_
    obtain⟨b8,aC,c⟩:=C0 c
    obtain⟨al,bl,av,a3⟩:=c7 j aC
    refine aI al ?_
    obtain⟨rfl,bz⟩:=a3
    refine eX _ (aI av ?_)
    exact I2 A ⟨(IntKind.i64.wrap (u8+1)),(E.set N.toNat [.int .i64 (IntKind.i64.wrap (u8+1))]),(n.set N.toNat (IntKind.i64.wrap (u8+1))),rfl,rfl,f,(O0 _),(F2.set (p:=Wp.int.R u) (a:=[.int .i64 (IntKind.i64.wrap (u8+1))]) (b:=(IntKind.i64.wrap (u8+1))) ⟨rfl,(O0 _)⟩ N.toNat j),c⟩
  ·obtain rfl:=oJ c
   try dsimp only[Y0,Z0]at d
   obtain⟨P,aH,d⟩:=C0 d
   refine eX { vars:=[9],boxes:=[2],owns:=[],fuel:=true } (eX (λvs os h'=>∃ l g i s M t m,vs.tail = [.int .i64 l,.int .i64 g,.int .i64 i,.slice s M t]/\os = []/\Sub u h'/\J0 l/\J0 g/\J0 i/\N0.R h' [.slice s M t] m/\d4 x n (U1 vs) l g i m=some P) (eX (λ_ _=>0) (aI (eX W0 ⟨0,B,((o.length:Nat):Int),none,0,0,[],rfl,rfl,(Sub.refl _),(by decide),z,(J0n aZ),(X0i D1 u),aH⟩) ?_)))
   rintro _ _ _ _ w W ⟨l,g,i,s,M,t,m,⟨⟩,⟨⟩,e,bs,K,L,D,c⟩
   replace c:d4 x n w l g i m=some P:=c
   obtain _|w:=w
   ·cases c
   rw[d4.eq_2]at c
   obtain⟨rfl,bM⟩:=Sl.len D
   refine ifB c (λaN c=>?_) λaN c=>?_
   ·refine ld c (N0.mono (f.trans e) y) λcb bn a5 c=>?_
    obtain⟨cc,O,cd,rfl,rfl,bA,aS,bB⟩:=Y1 a5
    try dsimp only at c
    obtain⟨ce,aD,c⟩:=C0 c
    obtain⟨am,bo,aw,a6⟩:=c7 (F2.up (r:=Wp.int.toRp) e j) aD
    refine aI am ?_
    obtain⟨rfl,bC⟩:=a6
    refine eX _ (aI aw ?_)
    obtain⟨cf,aE,c⟩:=C0 c
    obtain⟨bp,V,a7⟩:=F03 (F2.up (r:=Wp.int.toRp) e j) aE (n0b W)
    refine aI (λq=>(V q).1) ?_
    obtain⟨rfl,bD⟩:=a7
    refine eX _ (aI (λq=>(V q).2) ?_)
    refine ifB c (λaO c=>?_) λaO c=>?_
    ·refine Or.inr (Or.inr (Or.inl (aI (aI (by kernel_rfl) (by kernel_rfl)) ?_)))
     obtain⟨F,aF,c⟩:=C0 c
     obtain⟨an,bq,ax,a8⟩:=c7 (F2.up (r:=Wp.int.toRp) e j) aF
     obtain⟨rfl,bE⟩:=a8
     refine Or.inl ?_
     apply eX
     refine aI ?_ ?_
     ·intro bG bV
      exact aI an (aI rfl (aI rfl rfl))
     refine Or.inl (eX (.val (.int .i64 F)) (aI ?_ ?_))
     ·intro bH bW
      exact eX _ (aI ax (aI rfl (aI rfl rfl)))
     obtain⟨G,aG,c⟩:=C0 c
     obtain⟨ao,br,ay,a9⟩:=c7 (F2.up (r:=Wp.int.toRp) e j) aG
     obtain⟨rfl,bF⟩:=a9
     refine Or.inl ?_
     apply eX
     refine aI ?_ ?_
     ·intro bI bX
      exact aI ao (aI rfl (aI rfl rfl))
     refine Or.inl (eX (.val (.int .i64 G)) (aI ?_ ?_))
     ·intro bJ bY
      exact eX _ (aI ay (aI rfl (aI rfl rfl)))
     refine Or.inl (eX (.agg [.val (.int .i64 (IntKind.i64.wrap (F-1))),.val (.int .i64 O),.val (.int .i64 (IntKind.i64.wrap (G-1)))]) (aI ?_ ?_))
     ·intro bK bZ
      exact aI rfl (aI rfl rfl)
     refine Or.inr ?_
     refine Or.inr ?_
     refine Or.inl (eX 1 (aI (aI rfl rfl) ?_))
     refine trM c (I02 _ _ _ _ _ D [.int .i64 (IntKind.i64.wrap (F-1)),.int .i64 O,.int .i64 (IntKind.i64.wrap (G-1))] ((IntKind.i64.wrap (F-1)),O,(IntKind.i64.wrap (G-1))) (L1 (O0 _) aS (O0 _))) ?_
     rintro ag c b1 aY ⟨ak,bT,au,rfl,af⟩
     have ac:Sub W aY:=af.sub
     have ab:=af.r
     obtain⟨rfl,bP⟩:=Sl.len ab
     refine aI (aI rfl ac) (aI (by first|exact trivial|exact rfl) ?_)
     refine aT ?_
     exact I2 w ⟨(IntKind.i64.wrap (l+1)),g,i,ak,ag.length,au,ag,rfl,rfl,(e.trans ac),(O0 _),K,L,ab,c⟩
    ·exact I2 w ⟨(IntKind.i64.wrap (l+1)),g,i,s,m.length,t,m,rfl,rfl,e,(O0 _),K,L,D,c⟩
   ·obtain rfl:=oJ c
    try dsimp only[Y0,Z0]at d
    obtain rfl:=oJ d
    exact⟨([.int .i64 g,.int .i64 i,.slice s m.length t]),rfl,(B0 K L D),(f.trans e)⟩
theorem V0c(h:Hp)(e:Int)(B:J0 e)(r:M0)(g:V00 e=some r):
  Tr Tryz.prog 127 #[.int .i64 e] h λv h'=>∃(m:Option Addr) (o n:Nat),v = .slice m o n/\P0.R h' [.slice m o n] r/\Sub h h':=by
 unfold V00 at g
 refine Z2 (args:=[.int .i64 e]) (fn:=Tryz.f127) rfl ?_
 obtain⟨l,x,g⟩:=C0 g
 refine eX { vars:=[4],boxes:=[],owns:=[0],fuel:=true } (eX (λvs os h'=>∃ a k f,vs.tail = [.int .i64 a]/\os = [k]/\Sub h h'/\J0 a/\F2 (Wp.int.R h') k f/\A6 e (U1 vs) a f=some l) (eX (λ_ _=>0) (aI (eX W0 ⟨1,[],([]:M0),rfl,rfl,(Sub.refl _),(by decide),(show F2 (Wp.int.R h) ([]:List (List Value)) ([]:M0) from trivial),x⟩) ?_)))
 rintro _ k j d ⟨a,H,f,⟨⟩,⟨⟩,p,i,c,b⟩
 replace b:A6 e j a f=some l:=b
 obtain _|j:=j
 ·cases b
 rw[A6.eq_2]at b
 refine ifB b (λy b=>?_) λy b=>?_
 ·obtain⟨E,u,b⟩:=C0 b
  refine aI (P1 u (by first|rw[F2.length c,F2.length (show F2 (Wp.int.R d) ([[.int .i64 a]]:List (List Value)) [a] from⟨⟨rfl,i⟩,trivial⟩)]|exact congrArg (·+1) (F2.length c))) ?_
  obtain⟨F,w,b⟩:=C0 b
  refine aI (P1 w (by first|rw[F2.length (F2.append c (show F2 (Wp.int.R d) ([[.int .i64 a]]:List (List Value)) [a] from⟨⟨rfl,i⟩,trivial⟩)),F2.length (show F2 (Wp.int.R d) ([[.int .i64 (IntKind.i64.wrap (0-a))]]:List (List Value)) [(IntKind.i64.wrap (0-a))] from⟨⟨rfl,(O0 _)⟩,trivial⟩)]|exact congrArg (·+1) (F2.length (F2.append c (show F2 (Wp.int.R d) ([[.int .i64 a]]:List (List Value)) [a] from⟨⟨rfl,i⟩,trivial⟩))))) ?_
  exact I2 j ⟨(IntKind.i64.wrap (a+1)),((k++([[.int .i64 a]]:List (List Value)))++([[.int .i64 (IntKind.i64.wrap (0-a))]]:List (List Value))),((f ++ [a]) ++ [(IntKind.i64.wrap (0-a))]),rfl,rfl,p,(O0 _),(F2.append (F2.append c (show F2 (Wp.int.R d) ([[.int .i64 a]]:List (List Value)) [a] from⟨⟨rfl,i⟩,trivial⟩)) (show F2 (Wp.int.R d) ([[.int .i64 (IntKind.i64.wrap (0-a))]]:List (List Value)) [(IntKind.i64.wrap (0-a))] from⟨⟨rfl,(O0 _)⟩,trivial⟩)),b⟩
 ·obtain rfl:=oJ b
  try dsimp only[Y0,Z0]at g
  intro G C t
  obtain⟨q,s,rfl,z,A,D⟩:=E1.out (r:=Wp.int.toRp) t c
  obtain rfl:=oJ g
  exact⟨q,f.length,s,rfl,z,(p.trans A)⟩
theorem b08(h:Hp)(F:List Value)(J:l0)(ap:G1.R h F J)(r:M0)(c:R8 J=some r):
  Tr Tryz.prog 268 #[.agg F.toArray] h λv h'=>∃(D:Option Addr) (I E:Nat),v = .slice D I E/\P0.R h' [.slice D I E] r/\Sub h h':=by
 obtain⟨m,n,L,aQ,P,o,rfl,rfl,x,G,z⟩:=H0 ap
 obtain⟨rfl,aL⟩:=Sl.len z
 unfold R8 at c
 dsimp only at c
 refine Z2 (args:=[.agg #[.int .i64 m,.int .i64 n,.slice L o.length P]]) (fn:=Tryz.f268) rfl ?_
 refine trV c (P04 _ _ _ (B0 x G z)) λa1 c=>?_
 refine ifB c (λag c=>?_) λag c=>?_
 ·intro aY aJ W
  obtain⟨N,S,rfl,av,ax,aP⟩:=E1.out (r:=Wp.int.toRp) W (show F2 (Wp.int.R h) ([]:List (List Value)) ([]:M0) from trivial)
  obtain rfl:=oJ c
  exact⟨N,(([]:M0)).length,S,rfl,av,ax⟩
 ·refine trM c (V0c _ _ x) ?_
  rintro u c a0 an ⟨az,aR,aC,rfl,K,A⟩
  obtain⟨rfl,aM⟩:=Sl.len K
  obtain⟨B,ad,c⟩:=C0 c
  refine eX { vars:=[5],boxes:=[],owns:=[0],fuel:=true } (eX (λvs os h'=>∃ d q j,vs.tail = [.int .i64 d]/\os = [q]/\Sub an h'/\J0 d/\F2 (Wp.int.R h') q j/\o5 u m n o (U1 vs) d j=some B) (eX (λ_ _=>0) (aI (eX W0 ⟨0,([[.int .i64 0]]:List (List Value)),[0],rfl,rfl,(Sub.refl _),(by decide),(F2.up (r:=Wp.int.toRp) A (show F2 (Wp.int.R h) ([[.int .i64 0]]:List (List Value)) [0] from⟨⟨rfl,(by decide)⟩,trivial⟩)),ad⟩) ?_)))
  rintro _ q s am ⟨d,a4,j,⟨⟩,⟨⟩,t,aF,w,b⟩
  replace b:o5 u m n o s d j=some B:=b
  obtain _|s:=s
  ·cases b
  rw[o5.eq_2]at b
  obtain⟨ao,X,b⟩:=C0 b
  obtain rfl:q.length=ao:=(F2.length w).trans (oJ X)
  obtain⟨aS,aE,b⟩:=C0 b
  refine ifB b (λaf b=>?_) λaf b=>?_
  ·obtain⟨C,ae,b⟩:=C0 b
   refine eX { vars:=[6],boxes:=[],owns:=[0],fuel:=true } (eX (λvs os h'=>∃ g k i,vs.tail = [.int .i64 g]/\os = [k]/\Sub am h'/\J0 g/\F2 (Wp.int.R h') k i/\V3 u d m n o (U1 vs) g i=some C) (eX (λ_ _=>0) (aI (eX W0 ⟨0,q,j,rfl,rfl,(Sub.refl _),(by decide),w,ae⟩) ?_)))
   rintro _ k l H ⟨g,a5,i,⟨⟩,⟨⟩,p,aG,f,a⟩
   replace a:V3 u d m n o l g i=some C:=a
   obtain _|l:=l
   ·cases a
   rw[V3.eq_2]at a
   refine ifB a (λah a=>?_) λah a=>?_
   ·refine Or.inl (aI (aI (by kernel_rfl) (by kernel_rfl)) ?_)
    obtain⟨a2,aa,a⟩:=C0 a
    obtain⟨O,aB,T,aq⟩:=c7 f aa
    refine aI O ?_
    obtain⟨rfl,ak⟩:=aq
    refine eX _ (aI T ?_)
    refine ldI a (P0.mono (t.trans p) K) λa3 al a=>?_
    obtain⟨e,ab,a⟩:=C0 a
    refine eX (.int .i64 e) (aI (p06 _ _ _ (B0 x G (N0.mono ((A.trans t).trans p) z)) _ ak _ al _  ab) ?_)
    obtain⟨aU,Y,a⟩:=C0 a
    have y:J0 e:=C1 Y
    obtain⟨ay,ac,a⟩:=C0 a
    refine eX (.bool ay) (aI ?_ ?_)
    ·intro aj
     intro aX aH U
     obtain⟨aA,aD,rfl,ar,aW,aN⟩:=E1.out (r:=Wp.int.toRp) U f
     exact S03 _ _ _ _ _ ar _ y _ (P9 ac aj)
    refine ifB a (λai a=>?_) λai a=>?_
    ·obtain⟨aV,Z,a⟩:=C0 a
     refine aI (P1 Z (by first|rw[F2.length f,F2.length (show F2 (Wp.int.R H) ([[.int .i64 e]]:List (List Value)) [e] from⟨⟨rfl,y⟩,trivial⟩)]|exact congrArg (·+1) (F2.length f))) ?_
     exact I2 l ⟨(IntKind.i64.wrap (g+1)),(k++([[.int .i64 e]]:List (List Value))),(i ++ [e]),rfl,rfl,p,(O0 _),(F2.append f (show F2 (Wp.int.R H) ([[.int .i64 e]]:List (List Value)) [e] from⟨⟨rfl,y⟩,trivial⟩)),a⟩
    ·exact I2 l ⟨(IntKind.i64.wrap (g+1)),k,i,rfl,rfl,p,(O0 _),f,a⟩
   ·obtain rfl:=oJ a
    try dsimp only[Y0,Z0]at b
    exact I2 s ⟨(IntKind.i64.wrap (d+1)),k,i,rfl,rfl,(t.trans p),(O0 _),f,b⟩
  ·obtain rfl:=oJ b
   try dsimp only[Y0,Z0]at c
   intro aZ aK V
   obtain⟨M,Q,rfl,au,aw,aO⟩:=E1.out (r:=Wp.int.toRp) V w
   obtain rfl:=oJ c
   exact⟨M,j.length,Q,rfl,au,((A.trans t).trans aw)⟩
theorem a04(h:Hp)(g:List Value)(i:l0)(G:G1.R h g i)(r:l0)(a:B7 i=some r):
  Tr Tryz.prog 222 #[.agg g.toArray] h λv h'=>∃(f:List Value),v = .agg f.toArray/\G1.R h' f r/\Sub h h':=by
 obtain⟨D,E,o,ab,s,F,rfl,rfl,d,e,b⟩:=H0 G
 obtain⟨rfl,X⟩:=Sl.len b
 unfold B7 at a
 dsimp only at a
 refine Z2 (args:=[.agg #[.int .i64 D,.int .i64 E,.slice o F.length s]]) (fn:=Tryz.f222) rfl ?_
 refine trM a (b08 _ _ _ (B0 d e b)) ?_
 rintro ai a ag B ⟨S,ac,V,rfl,j,c⟩
 obtain⟨rfl,Y⟩:=Sl.len j
 refine ifB a (λw a=>?_) λw a=>?_
 ·refine trM a (c00 _ _ _ (B0 d e (N0.mono c b))) ?_
  rintro aj a ah C ⟨T,rfl,n⟩
  have I:Sub B C:=n.sub
  have H:=n.r
  obtain⟨K,L,p,ad,t,M,rfl,rfl,x,y,k⟩:=H0 H
  obtain⟨rfl,Z⟩:=Sl.len k
  try dsimp only at a
  obtain rfl:=oJ a
  exact⟨([.int .i64 K,.int .i64 L,.slice p M.length t]),rfl,(B0 x y k),(c.trans I)⟩
 ·refine trM a (K04 _ _ _ (B0 d e (N0.mono c b)) _ _ _ _ j) ?_
  rintro N a af W ⟨U,rfl,l,J⟩
  obtain⟨ak,al⟩:=N
  dsimp only at a l
  obtain⟨O,P,q,ae,u,Q,rfl,rfl,z,A,m⟩:=H0 l
  obtain⟨rfl,aa⟩:=Sl.len m
  try dsimp only at a
  obtain rfl:=oJ a
  exact⟨([.int .i64 O,.int .i64 P,.slice q Q.length u]),rfl,(B0 z A m),(c.trans J)⟩
theorem O0g(h:Hp)(m:List Value)(n:l0)(P:G1.R h m n)(r:Bool)(a:V01 n=some r):
  Tr Tryz.prog 210 #[.agg m.toArray] h λv h'=>v = .bool r/\h'=h:=by
 obtain⟨M,N,t,aq,w,O,rfl,rfl,g,i,c⟩:=H0 P
 obtain⟨rfl,ao⟩:=Sl.len c
 unfold V01 at a
 dsimp only at a
 refine Tr.forget (Z2 (args:=[.agg #[.int .i64 M,.int .i64 N,.slice t O.length w]]) (fn:=Tryz.f210) rfl ?_)
 refine Or.inr (Or.inr (Or.inr (Or.inl (aI (aI (by kernel_rfl) (by kernel_rfl)) ?_))))
 obtain⟨Y,C,a⟩:=C0 a
 refine Or.inl (eX (.val (.bool Y)) (aI ?_ ?_))
 ·intro ak W
  exact Tr.val (P04 _ _ _ (B0 g i (N0.mono W c)) _ C) (aI rfl (aI rfl rfl))
 obtain⟨l,F,a⟩:=C0 a
 obtain⟨au,B,a⟩:=C0 a
 have ag:J0 l:=C1 B
 refine Or.inl (eX (.val (.int .i64 l)) (aI ?_ ?_))
 ·intro al X b
  exact Tr.val (e0a _ _ _ (B0 g i (N0.mono X c)) _ (P9 F b)) (aI rfl (aI rfl rfl))
 refine Or.inl (eX (.val (.bool (decide (l<0)))) (aI ?_ ?_))
 ·intro am av b
  exact aI rfl (aI rfl rfl)
 obtain⟨Z,D,a⟩:=C0 a
 obtain⟨p,s,j⟩:=Z
 try dsimp only at a
 refine Or.inr (eX (λv G=>∃(d:Option Addr) (f:Nat),v = .agg #[.int .i64 p,.int .i64 s,.slice d j.length f]/\J0 p/\J0 s/\N0.R G [.slice d j.length f] j/\j.length<=9223372036854775807) (aI (λv ae af k q=>by obtain⟨d,f,e,z,A,f2,f3⟩:=q;exact⟨d,f,e,z,A,N0.mono k f2,f3⟩) (aI ?_ ?_)))
 ·intro ah T b
  refine Tr.mono (a04 _ _ _ (B0 g i (N0.mono T c)) _ (P9 D b)) ?_
  rintro _ an ⟨ac,rfl,Q,k⟩
  obtain⟨aw,ax,u,ar,x,ay,rfl,y,H,I,o⟩:=H0 Q
  cases y
  obtain⟨rfl,L⟩:=Sl.len o
  exact aI M00 (aI k ⟨u,x,rfl,H,I,o,L⟩)
 obtain⟨aa,E,a⟩:=C0 a
 refine Or.inl (eX (.val (.bool aa)) (aI ?_ ?_))
 ·intro ai U b
  rintro _ ⟨ab,ad,rfl,J,K,S,ap⟩
  exact Tr.val (i03 _ _ _ (B0 J K S) _ _ (B0 g i (N0.mono U c)) _ (P9 E b)) (aI rfl (aI rfl rfl))
 intro aj V
 obtain rfl:=oJ a
 exact aI rfl V
theorem S0b(h:Hp)(b:List Value)(c:l0)(m:G1.R h b c)(r:Bool)(a:A00 c=some r):
  Tr Tryz.prog 118 #[.agg b.toArray] h λv h'=>v = .bool r/\h'=h:=by
 obtain⟨j,k,e,o,f,l,rfl,rfl,g,i,d⟩:=H0 m
 obtain⟨rfl,n⟩:=Sl.len d
 unfold A00 at a
 dsimp only at a
 refine Tr.forget (Z2 (args:=[.agg #[.int .i64 j,.int .i64 k,.slice e l.length f]]) (fn:=Tryz.f118) rfl ?_)
 refine trV a (O0g _ _ _ (B0 g i d)) λp a=>?_
 obtain rfl:=oJ a
 exact aI rfl (Sub.refl _)
theorem R01(h:Hp)(c:Option Addr)(k d:Nat)(b:M0)(l:P0.R h [.slice c k d] b)(r:M0)(a:I7 b=some r):
  Tr Tryz.prog 177 #[.slice c k d] h λv h'=>∃(i:Nat) (j f:Nat),v = .slice (some ⟨i,0,none⟩) j f/\New P0 h h' [.slice (some ⟨i,0,none⟩) j f] r:=by
 obtain⟨rfl,t⟩:=Sl.len l
 unfold I7 at a
 refine Z2 (args:=[.slice c b.length d]) (fn:=Tryz.f177) rfl ?_
 obtain⟨q,n,e⟩:=Sl.rows (r:=Wp.int.toRp) l
 refine eX q (aI n ?_)
 obtain⟨w,o,a⟩:=C0 a
 refine aI (P1 o (by first|rw[F2.length (show F2 (Wp.int.R h) ([]:List (List Value)) ([]:M0) from trivial),F2.length e]|exact congrArg (·+1) (F2.length (show F2 (Wp.int.R h) ([]:List (List Value)) ([]:M0) from trivial)))) ?_
 intro z s g
 obtain⟨p,m,rfl,x,y,u⟩:=E1.outS (r:=Wp.int.toRp) g (F2.append (show F2 (Wp.int.R h) ([]:List (List Value)) ([]:M0) from trivial) e)
 obtain rfl:=oJ a
 exact⟨p,((([]:M0)++b)).length,m,rfl,(E1.newPlain (r:=Wp.int) g (F2.append (show F2 (Wp.int.R h) ([]:List (List Value)) ([]:M0) from trivial) e) (X09 _))⟩
theorem T0d(h:Hp)(b:Int)(d:J0 b)(r:l0×Bool)(a:H01 b=some r):
  Tr Tryz.prog 169 #[.int .i64 b] h λv h'=>∃(c:List Value),v = .tuple #[.agg c.toArray,.bool r.2]/\G1.R h' c r.1/\Sub h h':=by
 unfold H01 at a
 refine Z2 (args:=[.int .i64 b]) (fn:=Tryz.f169) rfl ?_
 refine trV a (t7 _ _ d 1 (by decide) 3 (by decide)) λf a=>?_
 refine ifB a (λe a=>?_) λe a=>?_
 ·obtain rfl:=oJ a
  exact⟨([.int .i64 0,.int .i64 0,.slice none 0 0]),rfl,(B0 (by decide) (by decide) (X0i D1 h)),(Sub.refl _)⟩
 ·obtain rfl:=oJ a
  exact⟨([.int .i64 b,.int .i64 1,.slice none 0 0]),rfl,(B0 d (by decide) (X0i D1 h)),(Sub.refl _)⟩
theorem w0g(h:Hp)(N:List Value)(W:l0)(a6:G1.R h N W)(w:Int)(Q:J0 w)(m:Option Addr)(V n:Nat)(k:M0)(l:P0.R h [.slice m V n] k)(f:Int)(t:J0 f)(r:l0×Bool)(b:j02 W w k f=some r):
  Tr Tryz.prog 155 #[.agg N.toArray,.int .i64 w,.slice m V n,.int .i64 f] h λv h'=>∃(M:List Value),v = .tuple #[.agg M.toArray,.bool r.2]/\G1.R h' M r.1/\Sub h h':=by
 obtain⟨a4,G,au,bO,aD,a5,rfl,rfl,E,P,H⟩:=H0 a6
 obtain⟨rfl,bG⟩:=Sl.len H
 obtain⟨rfl,bH⟩:=Sl.len l
 unfold j02 at b
 dsimp only at b
 refine Z2 (args:=[.agg #[.int .i64 a4,.int .i64 G,.slice au a5.length aD],.int .i64 w,.slice m k.length n,.int .i64 f]) (fn:=Tryz.f155) rfl ?_
 refine trM b (c00 _ _ _ (B0 E P H)) ?_
 rintro ca b b4 U ⟨bg,rfl,af⟩
 have i:Sub h U:=af.sub
 have a7:=af.r
 obtain⟨ak,al,L,bP,O,J,rfl,rfl,S,T,I⟩:=H0 a7
 obtain⟨rfl,bJ⟩:=Sl.len I
 try dsimp only at b
 refine trV b (G8 _ _ _ (B0 E P (N0.mono i H))) λcc b=>?_
 refine trG b (λq=>t7 _ _ Q 0 (by decide) (IntKind.i64.wrap (G-1)) (O0 _)) λce b=>?_
 refine trG b (λq=>t7 _ _ t 0 (by decide) (IntKind.i64.wrap (G-1)) (O0 _)) λcf b=>?_
 refine trG b (λq=>d0a _ _ E _ _ _ _ (P0.mono i l)) λcg b=>?_
 refine ifB b (λaX b=>?_) λaX b=>?_
 ·obtain rfl:=oJ b
  exact⟨([.int .i64 ak,.int .i64 al,.slice L J.length O]),rfl,(B0 S T I),i⟩
 ·obtain⟨K,aR,b⟩:=C0 b
  refine eX { vars:=[11,12],boxes:=[2],owns:=[],fuel:=true } (eX (λvs os h'=>∃ d e j c A F B x,vs.tail = [.int .i64 d,.int .i64 e,.int .i64 j,.int .i64 c,.slice A F B]/\os = []/\Sub U h'/\J0 d/\J0 e/\J0 j/\J0 c/\N0.R h' [.slice A F B] x/\p5 k f (U1 vs) d e j c x=some K) (eX (λ_ _=>0) (aI (eX W0 ⟨w,0,ak,al,L,J.length,O,J,rfl,rfl,(Sub.refl _),Q,(by decide),S,T,I,aR⟩) ?_)))
  rintro _ _ _ _ _ p D ⟨d,e,j,c,A,F,B,x,⟨⟩,⟨⟩,g,C,bl,u,o,s,a⟩
  replace a:p5 k f p d e j c x=some K:=a
  obtain _|p:=p
  ·cases a
  rw[p5.eq_2]at a
  obtain⟨rfl,bI⟩:=Sl.len s
  refine ifB a (λaS a=>?_) λaS a=>?_
  ·refine ifB a (λaU a=>?_) λaU a=>?_
   ·refine ldI a (P0.mono (i.trans g) l) λcb bm a=>?_
    refine ifB a (λaV a=>?_) λaV a=>?_
    ·refine Or.inr (Or.inr (Or.inl (aI (aI (by kernel_rfl) (by kernel_rfl)) ?_)))
     obtain⟨am,aN,a⟩:=C0 a
     obtain⟨az,bh,aJ,a8⟩:=Sl.getI (r:=Wp.int.toRp) (P0.mono (i.trans g) l) aN (by decide)
     obtain⟨rfl,aY⟩:=a8
     refine Or.inl (eX (.hel (.slice m k.length n) e 1 0) (aI ?_ ?_))
     ·intro bq bU
      exact aI az (aI rfl (aI rfl rfl))
     refine Or.inl (eX (.val (.int .i64 am)) (aI ?_ ?_))
     ·intro br bc
      exact eX _ (aI (n9.up bc aJ) (aI rfl (aI rfl rfl)))
     refine Or.inl (eX (.agg [.val (.int .i64 d),.val (.int .i64 am),.val (.int .i64 c)]) (aI ?_ ?_))
     ·intro bs bV
      exact aI rfl (aI rfl rfl)
     refine Or.inr ?_
     refine Or.inr ?_
     refine Or.inl (eX 1 (aI (aI rfl rfl) ?_))
     refine trM a (I02 _ _ _ _ _ s _ _ (L1 C aY o)) ?_
     rintro an a b5 a0 ⟨av,bQ,aE,rfl,ag⟩
     have ab:Sub D a0:=ag.sub
     have X:=ag.r
     obtain⟨rfl,bK⟩:=Sl.len X
     refine aI (aI rfl ab) (aI (by first|exact trivial|exact rfl) ?_)
     refine aT ?_
     exact I2 p ⟨c,(IntKind.i64.wrap (e+1)),j,(IntKind.i64.wrap (c+1)),av,an.length,aE,an,rfl,rfl,(g.trans ab),o,(O0 _),u,(O0 _),X,a⟩
    ·refine Or.inr (Or.inr (Or.inl (aI (aI (by kernel_rfl) (by kernel_rfl)) ?_)))
     obtain⟨y,aO,a⟩:=C0 a
     obtain⟨aA,bi,aK,a9⟩:=Sl.getI (r:=Wp.int.toRp) (P0.mono (i.trans g) l) aO (by decide)
     obtain⟨rfl,bn⟩:=a9
     refine Or.inl (eX (.hel (.slice m k.length n) e 1 0) (aI ?_ ?_))
     ·intro bt bW
      exact aI aA (aI rfl (aI rfl rfl))
     refine Or.inl (eX (.val (.int .i64 y)) (aI ?_ ?_))
     ·intro bu bd
      exact eX _ (aI (n9.up bd aK) (aI rfl (aI rfl rfl)))
     refine Or.inl (eX (.val (.int .i64 (IntKind.i64.wrap (0-y)))) (aI ?_ ?_))
     ·intro bv bX
      exact aI rfl (aI rfl rfl)
     refine Or.inl (eX (.agg [.val (.int .i64 c),.val (.int .i64 (IntKind.i64.wrap (0-y))),.val (.int .i64 d)]) (aI ?_ ?_))
     ·intro bx bY
      exact aI rfl (aI rfl rfl)
     refine Or.inr ?_
     refine Or.inr ?_
     refine Or.inl (eX 1 (aI (aI rfl rfl) ?_))
     refine trM a (I02 _ _ _ _ _ s [.int .i64 c,.int .i64 (IntKind.i64.wrap (0-y)),.int .i64 d] (c,(IntKind.i64.wrap (0-y)),d) (L1 o (O0 _) C)) ?_
     rintro ao a b6 a1 ⟨aw,bR,aF,rfl,ah⟩
     have ac:Sub D a1:=ah.sub
     have Y:=ah.r
     obtain⟨rfl,bL⟩:=Sl.len Y
     refine aI (aI rfl ac) (aI (by first|exact trivial|exact rfl) ?_)
     refine aT ?_
     exact I2 p ⟨c,(IntKind.i64.wrap (e+1)),j,(IntKind.i64.wrap (c+1)),aw,ao.length,aF,ao,rfl,rfl,(g.trans ac),o,(O0 _),u,(O0 _),Y,a⟩
   ·refine ldI a (P0.mono (i.trans g) l) λcd bo a=>?_
    refine ifB a (λaW a=>?_) λaW a=>?_
    ·refine Or.inr (Or.inr (Or.inl (aI (aI (by kernel_rfl) (by kernel_rfl)) ?_)))
     obtain⟨ap,aP,a⟩:=C0 a
     obtain⟨aB,bj,aL,ba⟩:=Sl.getI (r:=Wp.int.toRp) (P0.mono (i.trans g) l) aP (by decide)
     obtain⟨rfl,aZ⟩:=ba
     refine Or.inl (eX (.hel (.slice m k.length n) e 1 0) (aI ?_ ?_))
     ·intro bz bZ
      exact aI aB (aI rfl (aI rfl rfl))
     refine Or.inl (eX (.val (.int .i64 ap)) (aI ?_ ?_))
     ·intro bA be
      exact eX _ (aI (n9.up be aL) (aI rfl (aI rfl rfl)))
     refine Or.inl (eX (.agg [.val (.int .i64 d),.val (.int .i64 ap),.val (.int .i64 f)]) (aI ?_ ?_))
     ·intro bB b0
      exact aI rfl (aI rfl rfl)
     refine Or.inr ?_
     refine Or.inr ?_
     refine Or.inl (eX 1 (aI (aI rfl rfl) ?_))
     refine trM a (I02 _ _ _ _ _ s _ _ (L1 C aZ t)) ?_
     rintro aq a b7 a2 ⟨ax,bS,aG,rfl,ai⟩
     have ad:Sub D a2:=ai.sub
     have Z:=ai.r
     obtain⟨rfl,bM⟩:=Sl.len Z
     refine aI (aI rfl ad) (aI (by first|exact trivial|exact rfl) ?_)
     refine aT ?_
     exact I2 p ⟨f,(IntKind.i64.wrap (e+1)),j,c,ax,aq.length,aG,aq,rfl,rfl,(g.trans ad),t,(O0 _),u,o,Z,a⟩
    ·refine Or.inr (Or.inr (Or.inl (aI (aI (by kernel_rfl) (by kernel_rfl)) ?_)))
     obtain⟨z,aQ,a⟩:=C0 a
     obtain⟨aC,bk,aM,bb⟩:=Sl.getI (r:=Wp.int.toRp) (P0.mono (i.trans g) l) aQ (by decide)
     obtain⟨rfl,bp⟩:=bb
     refine Or.inl (eX (.hel (.slice m k.length n) e 1 0) (aI ?_ ?_))
     ·intro bC b1
      exact aI aC (aI rfl (aI rfl rfl))
     refine Or.inl (eX (.val (.int .i64 z)) (aI ?_ ?_))
     ·intro bD bf
      exact eX _ (aI (n9.up bf aM) (aI rfl (aI rfl rfl)))
     refine Or.inl (eX (.val (.int .i64 (IntKind.i64.wrap (0-z)))) (aI ?_ ?_))
     ·intro bE b2
      exact aI rfl (aI rfl rfl)
     refine Or.inl (eX (.agg [.val (.int .i64 f),.val (.int .i64 (IntKind.i64.wrap (0-z))),.val (.int .i64 d)]) (aI ?_ ?_))
     ·intro bF b3
      exact aI rfl (aI rfl rfl)
     refine Or.inr ?_
     refine Or.inr ?_
     refine Or.inl (eX 1 (aI (aI rfl rfl) ?_))
     refine trM a (I02 _ _ _ _ _ s [.int .i64 f,.int .i64 (IntKind.i64.wrap (0-z)),.int .i64 d] (f,(IntKind.i64.wrap (0-z)),d) (L1 t (O0 _) C)) ?_
     rintro ar a b8 a3 ⟨ay,bT,aH,rfl,aj⟩
     have ae:Sub D a3:=aj.sub
     have aa:=aj.r
     obtain⟨rfl,bN⟩:=Sl.len aa
     refine aI (aI rfl ae) (aI (by first|exact trivial|exact rfl) ?_)
     refine aT ?_
     exact I2 p ⟨f,(IntKind.i64.wrap (e+1)),j,c,ay,ar.length,aH,ar,rfl,rfl,(g.trans ae),t,(O0 _),u,o,aa,a⟩
  ·obtain rfl:=oJ a
   try dsimp only[Y0,Z0]at b
   obtain rfl:=oJ b
   exact⟨([.int .i64 j,.int .i64 c,.slice A x.length B]),rfl,(B0 u o s),(i.trans g)⟩
theorem U0d(h:Hp)(f:List Value)(i:l0)(A:G1.R h f i)(b:Option Addr)(g c:Nat)(d:M0)(k:P0.R h [.slice b g c] d)(r:l0×Bool)(a:I01 i d=some r):
  Tr Tryz.prog 170 #[.agg f.toArray,.slice b g c] h λv h'=>∃(e:List Value),v = .tuple #[.agg e.toArray,.bool r.2]/\G1.R h' e r.1/\Sub h h':=by
 obtain⟨x,y,n,L,p,z,rfl,rfl,s,t,j⟩:=H0 A
 obtain⟨rfl,I⟩:=Sl.len j
 obtain⟨rfl,J⟩:=Sl.len k
 unfold I01 at a
 dsimp only at a
 refine Z2 (args:=[.agg #[.int .i64 x,.int .i64 y,.slice n z.length p],.slice b d.length c]) (fn:=Tryz.f170) rfl ?_
 refine trM a (w0g _ _ _ (B0 s t j) 0 (by decide) _ _ _ _ k 0 (by decide)) ?_
 rintro C a N H ⟨G,rfl,l,B⟩
 obtain⟨O,P⟩:=C
 dsimp only at a l
 obtain⟨D,E,o,M,q,F,rfl,rfl,u,w,m⟩:=H0 l
 obtain⟨rfl,K⟩:=Sl.len m
 try dsimp only at a
 obtain rfl:=oJ a
 exact⟨([.int .i64 D,.int .i64 E,.slice o F.length q]),rfl,(B0 u w m),B⟩
theorem Z07(h:Hp)(A:Int)(Q:J0 A)(u:Option Addr)(U x:Nat)(n:E2)(D:I3.R h [.slice u U x] n)(r:l0×Bool)(b:M9 A n=some r):
  Tr Tryz.prog 85 #[.int .i64 A,.slice u U x] h λv h'=>∃(L:List Value),v = .tuple #[.agg L.toArray,.bool r.2]/\G1.R h' L r.1/\Sub h h':=by
 obtain⟨rfl,bc⟩:=Sl.len D
 unfold M9 at b
 refine Z2 (args:=[.int .i64 A,.slice u n.length x]) (fn:=Tryz.f85) rfl ?_
 refine trV b (O0d _ _ Q _ _ _ _ D) λbr b=>?_
 refine ifB b (λaq b=>?_) λaq b=>?_
 ·obtain rfl:=oJ b
  exact⟨([.int .i64 0,.int .i64 0,.slice none 0 0]),rfl,(B0 (by decide) (by decide) (X0i D1 h)),(Sub.refl _)⟩
 ·refine trM b (T0d _ _ Q) ?_
  rintro aR b bq aD ⟨aY,rfl,V,Z⟩
  obtain⟨bs,bt⟩:=aR
  dsimp only at b V
  obtain⟨aS,aU,ac,bj,ah,aa,rfl,rfl,ar,au,W⟩:=H0 V
  obtain⟨rfl,bf⟩:=Sl.len W
  try dsimp only at b
  obtain⟨I,ao,b⟩:=C0 b
  refine eX { vars:=[8],boxes:=[1],owns:=[],fuel:=true } (eX (λvs os h'=>∃ m u8 o w C y t,vs.tail = [.int .i64 m,.int .i64 u8,.int .i64 o,.slice w C y]/\os = []/\Sub aD h'/\J0 m/\J0 u8/\J0 o/\N0.R h' [.slice w C y] t/\p7 n (U1 vs) m u8 o t=some I) (eX (λ_ _=>0) (aI (eX W0 ⟨0,aS,aU,ac,aa.length,ah,aa,rfl,rfl,(Sub.refl _),(by decide),ar,au,W,ao⟩) ?_)))
  rintro _ _ _ _ z a3 ⟨m,u8,o,w,C,y,t,⟨⟩,⟨⟩,G,a0,S,T,E,c⟩
  replace c:p7 n z m u8 o t=some I:=c
  obtain _|z:=z
  ·cases c
  rw[p7.eq_2]at c
  obtain⟨rfl,bd⟩:=Sl.len E
  refine ifB c (λap c=>?_) λap c=>?_
  ·refine Or.inr (Or.inr (Or.inr (Or.inr (eX 10 (aI (aI (by kernel_rfl) (by kernel_rfl)) ?_)))))
   obtain⟨aO,am,c⟩:=C0 c
   obtain⟨af,aW,ak,F⟩:=Sl.getI (r:=P0.toRp) (I3.mono (Z.trans G) D) am (by decide)
   obtain⟨ab,bi,ag,rfl⟩:=Wp.slice_cell F
   obtain⟨rfl,be⟩:=Sl.len F
   refine Or.inl (eX (.hel (.slice u n.length x) m 1 0) (aI ?_ ?_))
   ·intro a4 bm
    exact aI af (aI rfl (aI rfl rfl))
   refine Or.inl (eX (.val (.slice ab aO.length ag)) (aI ?_ ?_))
   ·intro a5 aM
    exact eX _ (aI (n9.up aM ak) (aI rfl (aI rfl rfl)))
   obtain⟨aP,an,c⟩:=C0 c
   obtain⟨aQ,H⟩:=aP
   try dsimp only at c
   obtain⟨j,k,a⟩:=aQ
   try dsimp only at c
   refine Or.inr (eX (λv g=>∃(i:Value),v = .tuple #[i,.bool H]/\(λv g=>∃(d:Option Addr) (f:Nat),v = .agg #[.int .i64 j,.int .i64 k,.slice d a.length f]/\J0 j/\J0 k/\N0.R g [.slice d a.length f] a/\a.length<=9223372036854775807) i g) (aI (λv O P l q=>by obtain⟨i,e,B⟩:=q;exact⟨i,e,(by obtain⟨d,f,e,p,s,f2,f3⟩:=B;exact⟨d,f,e,p,s,N0.mono l f2,f3⟩)⟩) (aI ?_ ?_)))
   ·intro a6 Y
    refine Tr.mono (U0d _ _ _ (B0 S T (N0.mono Y E)) _ _ _ _ (P0.mono Y F) _ an) ?_
    rintro _ bb ⟨aX,rfl,aH,l⟩
    obtain⟨bu,bv,J,bk,M,bx,rfl,al,av,aw,X⟩:=H0 aH
    cases al
    obtain⟨rfl,aE⟩:=Sl.len X
    exact aI M00 (aI l ⟨(.agg #[.int .i64 j,.int .i64 k,.slice J a.length M]),rfl,⟨J,M,rfl,av,aw,X,aE⟩⟩)
   refine Or.inr (eX (λv g=>∃(i:Value),v = .tuple #[i,.bool H]/\(λv g=>∃(d:Option Addr) (f:Nat),v = .agg #[.int .i64 j,.int .i64 k,.slice d a.length f]/\J0 j/\J0 k/\N0.R g [.slice d a.length f] a/\a.length<=9223372036854775807) i g) (aI (λv O P l q=>by obtain⟨i,e,B⟩:=q;exact⟨i,e,(by obtain⟨d,f,e,p,s,f2,f3⟩:=B;exact⟨d,f,e,p,s,N0.mono l f2,f3⟩)⟩) (aI ?_ ?_)))
   ·intro a7 bn
    rintro _ ⟨_,rfl,⟨K,N,rfl,ax,ay,aJ,aF⟩⟩
    exact aI M00 (aI (Sub.refl _) ⟨(.agg #[.int .i64 j,.int .i64 k,.slice K a.length N]),rfl,⟨K,N,rfl,ax,ay,aJ,aF⟩⟩)
   refine Or.inr (eX (λv g=>∃(d:Option Addr) (f:Nat),v = .agg #[.int .i64 j,.int .i64 k,.slice d a.length f]/\J0 j/\J0 k/\N0.R g [.slice d a.length f] a/\a.length<=9223372036854775807) (aI (λv O P l q=>by obtain⟨d,f,e,p,s,f2,f3⟩:=q;exact⟨d,f,e,p,s,N0.mono l f2,f3⟩) (aI ?_ ?_)))
   ·intro a8 bo
    rintro _ ⟨_,rfl,⟨ad,ai,rfl,az,aA,aK,aG⟩⟩
    exact aI M00 (aI (Sub.refl _) ⟨ad,ai,rfl,az,aA,aK,aG⟩)
   refine Or.inl (eX (.val (.bool H)) (aI ?_ ?_))
   ·intro a9 bp
    rintro _ ⟨_,rfl,⟨aV,aZ,rfl,a1,a2,bl,bg⟩⟩
    exact aI rfl (aI rfl rfl)
   intro ba aN
   rintro _ ⟨ae,aj,rfl,aB,aC,aL,bh⟩
   rintro _ _
   rintro _ _
   exact I2 z ⟨(IntKind.i64.wrap (m+1)),j,k,ae,a.length,aj,a,rfl,rfl,(G.trans aN),(O0 _),aB,aC,aL,c⟩
  ·obtain rfl:=oJ c
   try dsimp only[Y0,Z0]at b
   obtain rfl:=oJ b
   exact⟨([.int .i64 u8,.int .i64 o,.slice w t.length y]),rfl,(B0 S T E),(Z.trans G)⟩
theorem x0g(h:Hp)(F:List Value)(I:l0)(ac:G1.R h F I)(r:p6)(t:k02 I=some r):
  Tr Tryz.prog 283 #[.agg F.toArray] h λv h'=>∃(D:Option Addr) (H E:Nat),v = .slice D H E/\u0a.R h' [.slice D H E] r/\Sub h h':=by
 obtain⟨aa,ab,J,au,L,w,rfl,rfl,aj,ak,A⟩:=H0 ac
 obtain⟨rfl,aq⟩:=Sl.len A
 unfold k02 at t
 dsimp only at t
 refine Z2 (args:=[.agg #[.int .i64 aa,.int .i64 ab,.slice J w.length L]]) (fn:=Tryz.f283) rfl ?_
 obtain⟨B,S,t⟩:=C0 t
 refine eX { vars:=[4],boxes:=[],owns:=[0],fuel:=true } (eX (λvs os h'=>∃ l z u,vs.tail = [.int .i64 l]/\os = [z]/\Sub h h'/\J0 l/\F2 (Q3.R h') z u/\V7 w (U1 vs) l u=some B) (eX (λ_ _=>0) (aI (eX W0 ⟨0,[],([]:p6),rfl,rfl,(Sub.refl _),(by decide),(show F2 (Q3.R h) ([]:List (List Value)) ([]:p6) from trivial),S⟩) ?_)))
 rintro _ z x Z ⟨l,aD,u,⟨⟩,⟨⟩,y,al,G,f⟩
 replace f:V7 w x l u=some B:=f
 obtain _|x:=x
 ·cases f
 rw[V7.eq_2]at f
 refine ifB f (λY f=>?_) λY f=>?_
 ·obtain⟨C,T,f⟩:=C0 f
  refine eX { vars:=[5],boxes:=[],owns:=[0],fuel:=true } (eX (λvs os h'=>∃ u8 p m,vs.tail = [.int .i64 u8]/\os = [p]/\Sub Z h'/\J0 u8/\F2 (Q3.R h') p m/\H4 w l (U1 vs) u8 m=some C) (eX (λ_ _=>0) (aI (eX W0 ⟨(IntKind.i64.wrap (l+1)),z,u,rfl,rfl,(Sub.refl _),(O0 _),G,T⟩) ?_)))
  rintro _ p q k ⟨u8,aE,m,⟨⟩,⟨⟩,s,am,g,e⟩
  replace e:H4 w l q u8 m=some C:=e
  obtain _|q:=q
  ·cases e
  rw[H4.eq_2]at e
  refine ifB e (λU e=>?_) λU e=>?_
  ·refine ld e (N0.mono (y.trans s) A) λaz ah ad e=>?_
   obtain⟨c,aA,a,rfl,rfl,n,an,i⟩:=Y1 ad
   try dsimp only at e
   refine ld e (N0.mono (y.trans s) A) λaB ai ae e=>?_
   obtain⟨d,aC,b,rfl,rfl,o,ao,j⟩:=Y1 ae
   try dsimp only at e
   refine ifB e (λV e=>?_) λV e=>?_
   ·obtain⟨av,O,e⟩:=C0 e
    refine aI (P1 O (by first|rw[F2.length g,F2.length (show F2 (Q3.R k) ([[.int .i64 (if b<a then b else a),.int .i64 (if b>a then b else a)]]:List (List Value)) [((if b<a then b else a),(if b>a then b else a))] from⟨(C2 (Y8 j i) (Y8 j i)),trivial⟩)]|exact congrArg (·+1) (F2.length g))) ?_
    refine ifB e (λW e=>?_) λW e=>?_
    ·obtain⟨aw,P,e⟩:=C0 e
     refine aI (P1 P (by first|rw[F2.length (F2.append g (show F2 (Q3.R k) ([[.int .i64 (if b<a then b else a),.int .i64 (if b>a then b else a)]]:List (List Value)) [((if b<a then b else a),(if b>a then b else a))] from⟨(C2 (Y8 j i) (Y8 j i)),trivial⟩)),F2.length (show F2 (Q3.R k) ([[.int .i64 (if d<c then d else c),.int .i64 (if d>c then d else c)]]:List (List Value)) [((if d<c then d else c),(if d>c then d else c))] from⟨(C2 (Y8 o n) (Y8 o n)),trivial⟩)]|exact congrArg (·+1) (F2.length (F2.append g (show F2 (Q3.R k) ([[.int .i64 (if b<a then b else a),.int .i64 (if b>a then b else a)]]:List (List Value)) [((if b<a then b else a),(if b>a then b else a))] from⟨(C2 (Y8 j i) (Y8 j i)),trivial⟩))))) ?_
     exact I2 q ⟨(IntKind.i64.wrap (u8+1)),((p++([[.int .i64 (if b<a then b else a),.int .i64 (if b>a then b else a)]]:List (List Value)))++([[.int .i64 (if d<c then d else c),.int .i64 (if d>c then d else c)]]:List (List Value))),((m ++ [((if b<a then b else a),(if b>a then b else a))]) ++ [((if d<c then d else c),(if d>c then d else c))]),rfl,rfl,s,(O0 _),(F2.append (F2.append g (show F2 (Q3.R k) ([[.int .i64 (if b<a then b else a),.int .i64 (if b>a then b else a)]]:List (List Value)) [((if b<a then b else a),(if b>a then b else a))] from⟨(C2 (Y8 j i) (Y8 j i)),trivial⟩)) (show F2 (Q3.R k) ([[.int .i64 (if d<c then d else c),.int .i64 (if d>c then d else c)]]:List (List Value)) [((if d<c then d else c),(if d>c then d else c))] from⟨(C2 (Y8 o n) (Y8 o n)),trivial⟩)),e⟩
    ·exact I2 q ⟨(IntKind.i64.wrap (u8+1)),(p++([[.int .i64 (if b<a then b else a),.int .i64 (if b>a then b else a)]]:List (List Value))),(m ++ [((if b<a then b else a),(if b>a then b else a))]),rfl,rfl,s,(O0 _),(F2.append g (show F2 (Q3.R k) ([[.int .i64 (if b<a then b else a),.int .i64 (if b>a then b else a)]]:List (List Value)) [((if b<a then b else a),(if b>a then b else a))] from⟨(C2 (Y8 j i) (Y8 j i)),trivial⟩)),e⟩
   ·refine ifB e (λX e=>?_) λX e=>?_
    ·obtain⟨ax,Q,e⟩:=C0 e
     refine aI (P1 Q (by first|rw[F2.length g,F2.length (show F2 (Q3.R k) ([[.int .i64 (if d<c then d else c),.int .i64 (if d>c then d else c)]]:List (List Value)) [((if d<c then d else c),(if d>c then d else c))] from⟨(C2 (Y8 o n) (Y8 o n)),trivial⟩)]|exact congrArg (·+1) (F2.length g))) ?_
     exact I2 q ⟨(IntKind.i64.wrap (u8+1)),(p++([[.int .i64 (if d<c then d else c),.int .i64 (if d>c then d else c)]]:List (List Value))),(m ++ [((if d<c then d else c),(if d>c then d else c))]),rfl,rfl,s,(O0 _),(F2.append g (show F2 (Q3.R k) ([[.int .i64 (if d<c then d else c),.int .i64 (if d>c then d else c)]]:List (List Value)) [((if d<c then d else c),(if d>c then d else c))] from⟨(C2 (Y8 o n) (Y8 o n)),trivial⟩)),e⟩
    ·exact I2 q ⟨(IntKind.i64.wrap (u8+1)),p,m,rfl,rfl,s,(O0 _),g,e⟩
  ·obtain rfl:=oJ e
   try dsimp only[Y0,Z0]at f
   exact I2 x ⟨(IntKind.i64.wrap (l+1)),p,m,rfl,rfl,(y.trans s),(O0 _),g,f⟩
 ·obtain rfl:=oJ f
  try dsimp only[Y0,Z0]at t
  intro ay ap N
  obtain⟨K,M,rfl,af,ag,ar⟩:=E1.out (r:=Q3.toRp) N G
  obtain rfl:=oJ t
  exact⟨K,u.length,M,rfl,af,(y.trans ag)⟩
theorem W0c(h:Hp)(d:List Value)(g:l0)(u:G1.R h d g)(r:S4×Bool)(a:f00 g=some r):
  Tr Tryz.prog 266 #[.agg d.toArray] h λv h'=>∃(c:List Value),v = .tuple #[.agg c.toArray,.bool r.2]/\Q3.R h' c r.1/\Sub h h':=by
 obtain⟨q,s,k,F,l,t,rfl,rfl,e,f,b⟩:=H0 u
 obtain⟨rfl,D⟩:=Sl.len b
 unfold f00 at a
 dsimp only at a
 refine Z2 (args:=[.agg #[.int .i64 q,.int .i64 s,.slice k t.length l]]) (fn:=Tryz.f266) rfl ?_
 refine trV a (G8 _ _ _ (B0 e f b)) λI a=>?_
 refine ifB a (λm a=>?_) λm a=>?_
 ·obtain rfl:=oJ a
  exact⟨([.int .i64 0,.int .i64 0]),rfl,(C2 (by decide) (by decide)),(Sub.refl _)⟩
 ·refine trM a (x0g _ _ _ (B0 e f b)) ?_
  rintro J a H C ⟨z,G,B,rfl,i,j⟩
  obtain⟨rfl,E⟩:=Sl.len i
  refine ifB a (λn a=>?_) λn a=>?_
  ·obtain rfl:=oJ a
   exact⟨([.int .i64 0,.int .i64 0]),rfl,(C2 (by decide) (by decide)),j⟩
  ·refine ld a i λK A w a=>?_
   obtain⟨x,y,rfl,rfl,o,p⟩:=R00 w
   try dsimp only at a
   obtain rfl:=oJ a
   exact⟨([.int .i64 x,.int .i64 y]),rfl,(C2 o p),j⟩
theorem T0b(h:Hp)(b:Int)(l:J0 b)(c:List Value)(d:S4)(k:Q3.R h c d)(r:Int)(a:A02 b d=some r):
  Tr Tryz.prog 284 #[.int .i64 b,.agg c.toArray] h λv h'=>v = .int .i64 r/\h'=h:=by
 obtain⟨i,j,rfl,rfl,m,n⟩:=R00 k
 unfold A02 at a
 dsimp only at a
 refine Tr.forget (Z2 (args:=[.int .i64 b,.agg #[.int .i64 i,.int .i64 j]]) (fn:=Tryz.f284) rfl ?_)
 refine ifB a (λe a=>?_) λe a=>?_
 ·refine ifB a (λf a=>?_) λf a=>?_
  ·obtain rfl:=oJ a
   exact aI rfl (Sub.refl _)
  ·obtain rfl:=oJ a
   exact aI rfl (Sub.refl _)
 ·refine ifB a (λg a=>?_) λg a=>?_
  ·obtain rfl:=oJ a
   exact aI rfl (Sub.refl _)
  ·obtain rfl:=oJ a
   exact aI rfl (Sub.refl _)
theorem b09(h:Hp)(x:List Value)(E:l0)(am:G1.R h x E)(y:List Value)(H:S4)(an:Q3.R h y H)(r:l0×Bool)(b:W7 E H=some r):
  Tr Tryz.prog 267 #[.agg x.toArray,.agg y.toArray] h λv h'=>∃(w:List Value),v = .tuple #[.agg w.toArray,.bool r.2]/\G1.R h' w r.1/\Sub h h':=by
 obtain⟨F,G,O,aH,S,m,rfl,rfl,k,z,j⟩:=H0 am
 obtain⟨rfl,aD⟩:=Sl.len j
 obtain⟨n,o,rfl,rfl,A,B⟩:=R00 an
 unfold W7 at b
 dsimp only at b
 refine Z2 (args:=[.agg #[.int .i64 F,.int .i64 G,.slice O m.length S],.agg #[.int .i64 n,.int .i64 o]]) (fn:=Tryz.f267) rfl ?_
 refine trV b (G8 _ _ _ (B0 k z j)) λaS b=>?_
 refine ifB b (λab b=>?_) λab b=>?_
 ·refine trM b (c00 _ _ _ (B0 k z j)) ?_
  rintro aX b aR al ⟨ay,rfl,M⟩
  have aq:Sub h al:=M.sub
  have ap:=M.r
  obtain⟨au,av,Q,aK,U,aw,rfl,rfl,ah,ai,J⟩:=H0 ap
  obtain⟨rfl,aG⟩:=Sl.len J
  try dsimp only at b
  obtain rfl:=oJ b
  exact⟨([.int .i64 au,.int .i64 av,.slice Q aw.length U]),rfl,(B0 ah ai J),aq⟩
 ·obtain⟨u,Z,b⟩:=C0 b
  refine eX { vars:=[7],boxes:=[3],owns:=[],fuel:=true } (eX (λvs os h'=>∃ d u8 c f l g e,vs.tail = [.int .i64 d,.int .i64 u8,.int .i64 c,.slice f l g]/\os = []/\Sub h h'/\J0 d/\J0 u8/\J0 c/\N0.R h' [.slice f l g] e/\M4 m n o (U1 vs) d u8 c e=some u) (eX (λ_ _=>0) (aI (eX W0 ⟨0,F,(IntKind.i64.wrap (G-1)),none,0,0,[],rfl,rfl,(Sub.refl _),(by decide),k,(O0 _),(X0i D1 h),Z⟩) ?_)))
  rintro _ _ _ _ i aj ⟨d,u8,c,f,l,g,e,⟨⟩,⟨⟩,q,az,C,D,p,a⟩
  replace a:M4 m n o i d u8 c e=some u:=a
  obtain _|i:=i
  ·cases a
  rw[M4.eq_2]at a
  obtain⟨rfl,aE⟩:=Sl.len p
  refine ifB a (λaa a=>?_) λaa a=>?_
  ·refine ld a (N0.mono q j) λaU ax ao a=>?_
   obtain⟨aV,ar,aW,rfl,rfl,ac,ad,ae⟩:=Y1 ao
   try dsimp only at a
   refine Or.inr (Or.inr (Or.inl (aI (aI (by kernel_rfl) (by kernel_rfl)) ?_)))
   obtain⟨s,X,a⟩:=C0 a
   obtain⟨aL,V,a⟩:=C0 a
   have af:J0 s:=C1 V
   refine Or.inl (eX (.val (.int .i64 s)) (aI ?_ ?_))
   ·intro aA aN
    exact Tr.val (T0b _ _ ac _ _ (C2 A B) _ X) (aI rfl (aI rfl rfl))
   obtain⟨t,Y,a⟩:=C0 a
   obtain⟨aM,W,a⟩:=C0 a
   have ag:J0 t:=C1 W
   refine Or.inl (eX (.val (.int .i64 t)) (aI ?_ ?_))
   ·intro aB aO
    exact Tr.val (T0b _ _ ae _ _ (C2 A B) _ Y) (aI rfl (aI rfl rfl))
   refine Or.inl (eX (.agg [.val (.int .i64 s),.val (.int .i64 ar),.val (.int .i64 t)]) (aI ?_ ?_))
   ·intro aC aP
    exact aI rfl (aI rfl rfl)
   refine Or.inr ?_
   refine Or.inr ?_
   refine Or.inl (eX 1 (aI (aI rfl rfl) ?_))
   refine trM a (I02 _ _ _ _ _ p _ _ (L1 af ad ag)) ?_
   rintro N a aQ ak ⟨P,aJ,T,rfl,L⟩
   have K:Sub aj ak:=L.sub
   have I:=L.r
   obtain⟨rfl,aF⟩:=Sl.len I
   refine aI (aI rfl K) (aI (by first|exact trivial|exact rfl) ?_)
   refine aT ?_
   exact I2 i ⟨(IntKind.i64.wrap (d+1)),u8,c,P,N.length,T,N,rfl,rfl,(q.trans K),(O0 _),C,D,I,a⟩
  ·obtain rfl:=oJ a
   try dsimp only[Y0,Z0]at b
   obtain rfl:=oJ b
   exact⟨([.int .i64 u8,.int .i64 c,.slice f e.length g]),rfl,(B0 C D p),q⟩
theorem V0d(h:Hp)(i:List Value)(l:l0)(J:G1.R h i l)(r:l0×S4×Bool)(a:J01 l=some r):
  Tr Tryz.prog 220 #[.agg i.toArray] h λv h'=>∃(f:List Value) (g:List Value),v = .tuple #[.agg f.toArray,.agg g.toArray,.bool r.2.2]/\G1.R h' f r.1/\Q3.R h' g r.2.1/\Sub h h':=by
 obtain⟨G,H,s,af,w,I,rfl,rfl,d,e,b⟩:=H0 J
 obtain⟨rfl,ac⟩:=Sl.len b
 unfold J01 at a
 dsimp only at a
 refine Z2 (args:=[.agg #[.int .i64 G,.int .i64 H,.slice s I.length w]]) (fn:=Tryz.f220) rfl ?_
 refine trM a (W0c _ _ _ (B0 d e b)) ?_
 rintro N a aj E ⟨Y,rfl,m,c⟩
 obtain⟨al,am⟩:=N
 dsimp only at a m
 obtain⟨O,P,rfl,rfl,j,k⟩:=R00 m
 try dsimp only at a
 refine ifB a (λz a=>?_) λz a=>?_
 ·refine trM a (c00 _ _ _ (B0 d e (N0.mono c b))) ?_
  rintro an a ak F ⟨Z,rfl,q⟩
  have L:Sub E F:=q.sub
  have K:=q.r
  obtain⟨Q,S,t,ag,x,T,rfl,rfl,A,B,n⟩:=H0 K
  obtain⟨rfl,ad⟩:=Sl.len n
  try dsimp only at a
  obtain rfl:=oJ a
  exact⟨([.int .i64 Q,.int .i64 S,.slice t T.length x]),([.int .i64 0,.int .i64 0]),rfl,(B0 A B n),(C2 (by decide) (by decide)),(c.trans L)⟩
 ·refine trM a (b09 _ _ _ (B0 d e (N0.mono c b)) _ _ (C2 j k)) ?_
  rintro U a ai ab ⟨aa,rfl,o,M⟩
  obtain⟨ao,ap⟩:=U
  dsimp only at a o
  obtain⟨V,W,u,ah,y,X,rfl,rfl,C,D,p⟩:=H0 o
  obtain⟨rfl,ae⟩:=Sl.len p
  try dsimp only at a
  refine Or.inr (Or.inr (Or.inl (aI (aI (by kernel_rfl) (by kernel_rfl)) ?_)))
  refine Or.inr ?_
  refine Or.inr ?_
  refine Or.inl (eX 0 (aI (aI rfl rfl) ?_))
  refine aT ?_
  refine aT ?_
  obtain rfl:=oJ a
  exact⟨([.int .i64 V,.int .i64 W,.slice u X.length y]),([.int .i64 O,.int .i64 P]),rfl,(B0 C D p),(C2 j k),(c.trans M)⟩
theorem y0g(h:Hp)(B:List Value)(G:l0)(au:G1.R h B G)(r:l0×p6)(b:l02 G=some r):
  Tr Tryz.prog 136 #[.agg B.toArray] h λv h'=>∃(A:List Value) (y:Option Addr) (F z:Nat),v = .tuple #[.agg A.toArray,.slice y F z]/\G1.R h' A r.1/\u0a.R h' [.slice y F z] r.2/\Sub h h':=by
 obtain⟨ap,aq,T,aR,Y,ar,rfl,rfl,aj,ak,H⟩:=H0 au
 obtain⟨rfl,aL⟩:=Sl.len H
 unfold l02 at b
 dsimp only at b
 refine Z2 (args:=[.agg #[.int .i64 ap,.int .i64 aq,.slice T ar.length Y]]) (fn:=Tryz.f136) rfl ?_
 refine trM b (c00 _ _ _ (B0 aj ak H)) ?_
 rintro a0 b aZ t ⟨aD,rfl,P⟩
 have M:Sub h t:=P.sub
 have av:=P.r
 obtain⟨aB,aC,V,aU,aa,S,rfl,rfl,an,ao,L⟩:=H0 av
 obtain⟨rfl,aO⟩:=Sl.len L
 try dsimp only at b
 obtain⟨x,ag,b⟩:=C0 b
 refine eX { vars:=[6],boxes:=[2],owns:=[0],fuel:=true } (eX (λvs os h'=>∃ g d e k u l u8 p f,vs.tail = [.int .i64 g,.int .i64 d,.int .i64 e,.slice k u l]/\os = [p]/\Sub t h'/\J0 g/\J0 d/\J0 e/\N0.R h' [.slice k u l] u8/\F2 (Q3.R h') p f/\J6 (U1 vs) g d e u8 f=some x) (eX (λ_ _=>0) (aI (eX W0 ⟨0,aB,aC,V,S.length,aa,S,[],([]:p6),rfl,rfl,(Sub.refl _),(by decide),an,ao,L,(show F2 (Q3.R t) ([]:List (List Value)) ([]:p6) from trivial),ag⟩) ?_)))
 rintro _ _ _ _ p n aH ⟨g,d,e,k,u,l,u8,a4,f,⟨⟩,⟨⟩,w,aG,q,s,o,m,a⟩
 replace a:J6 n g d e u8 f=some x:=a
 obtain _|n:=n
 ·cases a
 rw[J6.eq_2]at a
 obtain⟨rfl,aM⟩:=Sl.len o
 refine ifB a (λah a=>?_) λah a=>?_
 ·refine trM a (V0d _ _ _ (B0 q s o)) ?_
  rintro ay a aW E ⟨aE,aF,rfl,I,K,c⟩
  obtain⟨a1,a2,a3⟩:=ay
  dsimp only at a I K
  obtain⟨az,aA,U,aS,Z,Q,rfl,rfl,al,am,J⟩:=H0 I
  obtain⟨rfl,aN⟩:=Sl.len J
  try dsimp only at a
  obtain⟨i,j,rfl,rfl,C,D⟩:=R00 K
  try dsimp only at a
  refine ifB a (λai a=>?_) λai a=>?_
  ·intro aX aJ ad
   obtain⟨W,ab,rfl,aw,N,aP⟩:=E1.out (r:=Q3.toRp) ad (F2.up (r:=Q3.toRp) c m)
   obtain rfl:=oJ a
   try dsimp only[B4,I4]at b
   obtain rfl:=oJ b
   exact⟨([.int .i64 d,.int .i64 e,.slice k u8.length l]),W,f.length,ab,rfl,(B0 q s (N0.mono (c.trans N) o)),aw,(((M.trans w).trans c).trans N)⟩
  ·obtain⟨aV,af,a⟩:=C0 a
   refine aI (P1 af (by first|rw[F2.length (F2.up (r:=Q3.toRp) c m),F2.length (show F2 (Q3.R E) ([[.int .i64 i,.int .i64 j]]:List (List Value)) [(i,j)] from⟨(C2 C D),trivial⟩)]|exact congrArg (·+1) (F2.length (F2.up (r:=Q3.toRp) c m)))) ?_
   exact I2 n ⟨(IntKind.i64.wrap (g+1)),az,aA,U,Q.length,Z,Q,(p++([[.int .i64 i,.int .i64 j]]:List (List Value))),(f ++ [(i,j)]),rfl,rfl,(w.trans c),(O0 _),al,am,J,(F2.append (F2.up (r:=Q3.toRp) c m) (show F2 (Q3.R E) ([[.int .i64 i,.int .i64 j]]:List (List Value)) [(i,j)] from⟨(C2 C D),trivial⟩)),a⟩
 ·obtain rfl:=oJ a
  try dsimp only[Y0,Z0]at b
  intro aY aK ae
  obtain⟨X,ac,rfl,ax,O,aQ⟩:=E1.out (r:=Q3.toRp) ae m
  obtain rfl:=oJ b
  exact⟨([.int .i64 d,.int .i64 e,.slice k u8.length l]),X,f.length,ac,rfl,(B0 q s (N0.mono O o)),ax,((M.trans w).trans O)⟩
theorem V0b(h:Hp)(i:Option Addr)(n k:Nat)(d:M0)(p:P0.R h [.slice i n k] d)(j:Option Addr)(o l:Nat)(e:M0)(q:P0.R h [.slice j o l] e)(r:Bool)(b:D00 d e=some r):
  Tr Tryz.prog 184 #[.slice i n k,.slice j o l] h λv h'=>v = .bool r/\h'=h:=by
 obtain⟨rfl,B⟩:=Sl.len p
 obtain⟨rfl,C⟩:=Sl.len q
 unfold D00 at b
 refine Tr.forget (Z2 (args:=[.slice i d.length k,.slice j e.length l]) (fn:=Tryz.f184) rfl ?_)
 refine ifB b (λt b=>?_) λt b=>?_
 ·obtain rfl:=oJ b
  exact aI rfl (Sub.refl _)
 ·obtain⟨m,s,b⟩:=C0 b
  refine eX { vars:=[13],boxes:=[],owns:=[],fuel:=true } (eX (λvs os h'=>∃ c,vs.tail = [.int .i64 c]/\os = []/\Sub h h'/\J0 c/\d6 d e (U1 vs) c=some m) (eX (λ_ _=>0) (aI (eX W0 ⟨0,rfl,rfl,(Sub.refl _),(by decide),s⟩) ?_)))
  rintro _ g A ⟨c,⟨⟩,⟨⟩,f,x,a⟩
  replace a:d6 d e g c=some m:=a
  obtain _|g:=g
  ·cases a
  rw[d6.eq_2]at a
  refine ifB a (λu a=>?_) λu a=>?_
  ·refine Or.inl (aI (aI (by kernel_rfl) (by kernel_rfl)) ?_)
   refine ldI a (P0.mono f p) λD y a=>?_
   refine ldI a (P0.mono f q) λE z a=>?_
   refine ifB a (λw a=>?_) λw a=>?_
   ·obtain rfl:=oJ a
    try dsimp only[B4,I4]at b
    obtain rfl:=oJ b
    exact aI rfl f
   ·exact I2 g ⟨(IntKind.i64.wrap (c+1)),rfl,rfl,f,(O0 _),a⟩
  ·obtain rfl:=oJ a
   try dsimp only[Y0,Z0]at b
   obtain rfl:=oJ b
   exact aI rfl f
theorem Z0c(h:Hp)(ai:List Value)(an:l0)(a4:G1.R h ai an)(r:l0×M0)(c:a01 an=some r):
  Tr Tryz.prog 221 #[.agg ai.toArray] h λv h'=>∃(ah:List Value) (af:Option Addr) (am ag:Nat),v = .tuple #[.agg ah.toArray,.slice af am ag]/\G1.R h' ah r.1/\P0.R h' [.slice af am ag] r.2/\Sub h h':=by
 obtain⟨A,B,az,bx,aE,C,rfl,rfl,T,U,N⟩:=H0 a4
 obtain⟨rfl,bo⟩:=Sl.len N
 unfold a01 at c
 dsimp only at c
 refine Z2 (args:=[.agg #[.int .i64 A,.int .i64 B,.slice az C.length aE]]) (fn:=Tryz.f221) rfl ?_
 refine trM c (c00 _ _ _ (B0 T U N)) ?_
 rintro bK c bG V ⟨bf,rfl,aw⟩
 have Q:Sub h V:=aw.sub
 have a5:=aw.r
 obtain⟨a9,ba,aA,bz,aF,ax,rfl,rfl,a0,a1,ao⟩:=H0 a5
 obtain⟨rfl,br⟩:=Sl.len ao
 try dsimp only at c
 obtain⟨ae,aU,c⟩:=C0 c
 refine eX { vars:=[6],boxes:=[],owns:=[0],fuel:=true } (eX (λvs os h'=>∃ e S k,vs.tail = [.int .i64 e]/\os = [S]/\Sub V h'/\J0 e/\F2 (Wp.int.R h') S k/\E6 B A C (U1 vs) e k=some ae) (eX (λ_ _=>0) (aI (eX W0 ⟨0,[],([]:M0),rfl,rfl,(Sub.refl _),(by decide),(show F2 (Wp.int.R V) ([]:List (List Value)) ([]:M0) from trivial),aU⟩) ?_)))
 rintro _ S M X ⟨e,bR,k,⟨⟩,⟨⟩,l,ak,H,a⟩
 replace a:E6 B A C M e k=some ae:=a
 obtain _|M:=M
 ·cases a
 rw[E6.eq_2]at a
 refine trG a (λq=>G8 _ _ _ (B0 T U (N0.mono (Q.trans l) N))) λbO a=>?_
 refine ifB a (λaV a=>?_) λaV a=>?_
 ·obtain⟨bB,aN,a⟩:=C0 a
  refine aI (P1 aN (by first|rw[F2.length H,F2.length (show F2 (Wp.int.R X) ([[.int .i64 e]]:List (List Value)) [e] from⟨⟨rfl,ak⟩,trivial⟩)]|exact congrArg (·+1) (F2.length H))) ?_
  exact I2 M ⟨(IntKind.i64.wrap (e+1)),(S++([[.int .i64 e]]:List (List Value))),(k ++ [e]),rfl,rfl,l,(O0 _),(F2.append H (show F2 (Wp.int.R X) ([[.int .i64 e]]:List (List Value)) [e] from⟨⟨rfl,ak⟩,trivial⟩)),a⟩
 ·obtain rfl:=oJ a
  try dsimp only[Y0,Z0]at c
  obtain⟨ac,aR,c⟩:=C0 c
  refine eX { vars:=[5,7],boxes:=[2],owns:=[],fuel:=true,pubs:=[5] } (eX (λvs os h'=>∃(s:Option Addr) (Y u:Nat) (g:M0) (m:Int) (j:Int) (f:Int) (t:Option Addr) (Z w:Nat) (n:V0),vs.tail = [.slice s Y u,.int .i64 m,.int .i64 j,.int .i64 f,.slice t Z w]/\os = []/\Sub X h'/\P0.R h' [.slice s Y u] g/\J0 m/\J0 j/\J0 f/\N0.R h' [.slice t Z w] n/\D6 A B C (U1 vs) g m j f n=some ac) (eX (λ_ _=>0) ?_))
  intro bF bk aK
  obtain⟨aC,aH,rfl,a6,au,bt⟩:=E1.out (r:=Wp.int.toRp) aK H
  refine aI (eX W0 ⟨aC,k.length,aH,k,0,a9,ba,aA,ax.length,aF,ax,rfl,rfl,au,a6,(by decide),a0,a1,(N0.mono (l.trans au) ao),aR⟩) ?_
  rintro _ _ _ _ _ L W ⟨s,Y,u,g,m,j,f,t,Z,w,n,⟨⟩,⟨⟩,P,O,bi,I,J,D,a⟩
  replace a:D6 A B C L g m j f n=some ac:=a
  obtain _|L:=L
  ·cases a
  rw[D6.eq_2]at a
  obtain⟨rfl,bp⟩:=Sl.len O
  obtain⟨rfl,bq⟩:=Sl.len D
  refine trG a (λq=>G8 _ _ _ (B0 T U (N0.mono ((Q.trans l).trans P) N))) λbL a=>?_
  refine ifB a (λaW a=>?_) λaW a=>?_
  ·refine trV a (e0a _ _ _ (B0 I J D)) λab a=>?_
   obtain⟨bC,aO,a⟩:=C0 a
   have bj:J0 ab:=C1 aO
   refine ifB a (λaX a=>?_) λaX a=>?_
   ·obtain rfl:=oJ a
    try dsimp only[B4,I4]at c
    obtain rfl:=oJ c
    exact⟨([.int .i64 j,.int .i64 f,.slice t n.length w]),s,g.length,u,rfl,(B0 I J D),O,((Q.trans l).trans P)⟩
   ·obtain⟨ad,aS,a⟩:=C0 a
    refine eX { vars:=[11],boxes:=[],owns:=[1,2],fuel:=true } (eX (λvs os h'=>∃ d F o G i,vs.tail = [.int .i64 d]/\os = [F,G]/\Sub W h'/\J0 d/\F2 (Wp.int.R h') F o/\F2 (Wp.int.R h') G i/\O5 f ab g (U1 vs) d o i=some ad) (eX (λ_ _=>0) (aI (eX W0 ⟨0,[],([]:M0),[],([]:M0),rfl,rfl,(Sub.refl _),(by decide),(show F2 (Wp.int.R W) ([]:List (List Value)) ([]:M0) from trivial),(show F2 (Wp.int.R W) ([]:List (List Value)) ([]:M0) from trivial),aS⟩) ?_)))
    rintro _ F G z K ⟨d,bP,o,bQ,i,⟨⟩,⟨⟩,E,aj,x,y,b⟩
    replace b:O5 f ab g z d o i=some ad:=b
    obtain _|z:=z
    ·cases b
    rw[O5.eq_2]at b
    refine ifB b (λaY b=>?_) λaY b=>?_
    ·refine ifB b (λaZ b=>?_) λaZ b=>?_
     ·obtain⟨bD,aP,b⟩:=C0 b
      refine aI (P1 aP (by first|rw[F2.length x,F2.length (show F2 (Wp.int.R K) ([[.int .i64 d]]:List (List Value)) [d] from⟨⟨rfl,aj⟩,trivial⟩)]|exact congrArg (·+1) (F2.length x))) ?_
      refine ldI b (P0.mono E O) λp al b=>?_
      obtain⟨bE,aQ,b⟩:=C0 b
      refine aI (P1 aQ (by first|rw[F2.length y,F2.length (show F2 (Wp.int.R K) ([[.int .i64 p]]:List (List Value)) [p] from⟨⟨rfl,al⟩,trivial⟩)]|exact congrArg (·+1) (F2.length y))) ?_
      exact I2 z ⟨(IntKind.i64.wrap (d+1)),(F++([[.int .i64 d]]:List (List Value))),(o ++ [d]),(G++([[.int .i64 p]]:List (List Value))),(i ++ [p]),rfl,rfl,E,(O0 _),(F2.append x (show F2 (Wp.int.R K) ([[.int .i64 d]]:List (List Value)) [d] from⟨⟨rfl,aj⟩,trivial⟩)),(F2.append y (show F2 (Wp.int.R K) ([[.int .i64 p]]:List (List Value)) [p] from⟨⟨rfl,al⟩,trivial⟩)),b⟩
     ·exact I2 z ⟨(IntKind.i64.wrap (d+1)),F,o,G,i,rfl,rfl,E,(O0 _),x,y,b⟩
    ·obtain rfl:=oJ b
     try dsimp only[Y0,Z0]at a
     refine Or.inl ?_
     intro bH bl aL
     obtain⟨be,bh,rfl,a7,aa,bu⟩:=E1.out (r:=Wp.int.toRp) aL x
     refine trM a (K04 _ _ _ (B0 I J (N0.mono (E.trans aa) D)) _ _ _ _ a7) ?_
     rintro bb a bI bm ⟨bg,rfl,ap,ar⟩
     obtain⟨bM,bN⟩:=bb
     dsimp only at a ap
     obtain⟨bc,bd,aB,bA,aG,ay,rfl,rfl,a2,a3,aq⟩:=H0 ap
     obtain⟨rfl,bs⟩:=Sl.len aq
     try dsimp only at a
     intro bJ bn aM
     obtain⟨aD,aJ,rfl,a8,av,bv⟩:=E1.out (r:=Wp.int.toRp) aM (F2.up (r:=Wp.int.toRp) (aa.trans ar) y)
     exact I2 L ⟨aD,i.length,aJ,i,(IntKind.i64.wrap (m+1)),bc,bd,aB,ay.length,aG,ay,rfl,rfl,((((P.trans E).trans aa).trans ar).trans av),a8,(O0 _),a2,a3,(N0.mono av aq),a⟩
  ·obtain rfl:=oJ a
   try dsimp only[Y0,Z0]at c
   obtain rfl:=oJ c
   exact⟨([.int .i64 j,.int .i64 f,.slice t n.length w]),s,g.length,u,rfl,(B0 I J D),O,((Q.trans l).trans P)⟩
theorem a0d(h:Hp)(c:List Value)(d:l0)(E:G1.R h c d)(r:l0)(a:b01 d=some r):
  Tr Tryz.prog 137 #[.agg c.toArray] h λv h'=>∃(b:List Value),v = .agg b.toArray/\G1.R h' b r/\Sub h h':=by
 obtain⟨B,C,n,aj,p,D,rfl,rfl,s,t,e⟩:=H0 E
 obtain⟨rfl,ad⟩:=Sl.len e
 unfold b01 at a
 dsimp only at a
 refine Z2 (args:=[.agg #[.int .i64 B,.int .i64 C,.slice n D.length p]]) (fn:=Tryz.f137) rfl ?_
 refine trM a (y0g _ _ _ (B0 s t e)) ?_
 rintro J a ap aa ⟨T,P,al,X,rfl,f,i,G⟩
 obtain⟨au,ay⟩:=J
 dsimp only at a f i
 obtain⟨av,aw,O,ak,W,ax,rfl,rfl,u,w,g⟩:=H0 f
 obtain⟨rfl,ae⟩:=Sl.len g
 try dsimp only at a
 obtain⟨rfl,af⟩:=Sl.len i
 refine trM a (Z0c _ _ _ (B0 u w g)) ?_
 rintro K a aq ab ⟨U,S,an,Z,rfl,j,l,H⟩
 obtain⟨az,aD⟩:=K
 dsimp only at a j l
 obtain⟨aA,aB,Q,am,Y,aC,rfl,rfl,x,y,k⟩:=H0 j
 obtain⟨rfl,ag⟩:=Sl.len k
 try dsimp only at a
 obtain⟨rfl,ah⟩:=Sl.len l
 refine trM a (a04 _ _ _ (B0 x y k)) ?_
 rintro aE a ar ac ⟨V,rfl,F,I⟩
 obtain⟨L,M,o,ao,q,N,rfl,rfl,z,A,m⟩:=H0 F
 obtain⟨rfl,ai⟩:=Sl.len m
 try dsimp only at a
 obtain rfl:=oJ a
 exact⟨([.int .i64 L,.int .i64 M,.slice o N.length q]),rfl,(B0 z A m),((G.trans H).trans I)⟩
theorem Z0d(h:Hp)(n:List Value)(t:l0)(L:G1.R h n t)(f:Option Addr)(s g:Nat)(i:M0)(u:P0.R h [.slice f s g] i)(r:Bool)(b:O01 t i=some r):
  Tr Tryz.prog 90 #[.agg n.toArray,.slice f s g] h λv h'=>v = .bool r/\h'=h:=by
 obtain⟨I,J,z,ai,B,K,rfl,rfl,o,p,j⟩:=H0 L
 obtain⟨rfl,ae⟩:=Sl.len j
 obtain⟨rfl,af⟩:=Sl.len u
 unfold O01 at b
 dsimp only at b
 refine Tr.forget (Z2 (args:=[.agg #[.int .i64 I,.int .i64 J,.slice z K.length B],.slice f i.length g]) (fn:=Tryz.f90) rfl ?_)
 refine Or.inr (Or.inr (Or.inr (Or.inl (aI (aI (by kernel_rfl) (by kernel_rfl)) ?_))))
 obtain⟨d,E,b⟩:=C0 b
 refine Or.inr (eX (λv G=>∃(a:Option Addr) (c:Nat),v = .slice a d.length c/\P0.R G [.slice a d.length c] d/\d.length<=9223372036854775807) (aI (λv V W k q=>by obtain⟨a,c,e,r,l⟩:=q;exact⟨a,c,e,P0.mono k r,l⟩) (aI ?_ ?_)))
 ·intro aa N
  refine Tr.mono (J04 _ _ _ _ _ (P0.mono N u) _ E) ?_
  rintro _ ad ⟨A,aj,C,rfl,w,k⟩
  obtain⟨rfl,H⟩:=Sl.len w
  exact aI M00 (aI k ⟨A,C,rfl,w,H⟩)
 obtain⟨P,F,b⟩:=C0 b
 obtain⟨m,y⟩:=P
 try dsimp only at b
 obtain⟨ak,D,b⟩:=C0 b
 have X:J0 m:=C1 D
 refine Or.inl (eX (.val (.tuple #[.int .i64 m,.bool y])) (aI ?_ ?_))
 ·intro ab O
  rintro _ ⟨S,U,rfl,M,ah⟩
  exact Tr.val (Q0d _ _ _ (B0 o p (N0.mono O j)) 0 (by decide) _ _ _ _ M _ F) (aI rfl (aI rfl rfl))
 refine Or.inl (eX (.val (.int .i64 m)) (aI ?_ ?_))
 ·intro ac am
  exact aI rfl (aI rfl rfl)
 refine Or.inl (eX (.val (.bool y)) (aI ?_ ?_))
 ·intro Y an
  exact aI rfl (aI rfl rfl)
 intro Z x
 rintro _ ⟨Q,T,rfl,al,ag⟩
 refine trV b (S0b _ _ _ (B0 o p (N0.mono x j))) λao b=>?_
 obtain rfl:=oJ b
 exact aI rfl x
set_option maxHeartbeats 0
theorem W0b(h:Hp)(b:Int)(q:J0 b)(c:Option Addr)(g d:Nat)(e:E2)(i:I3.R h [.slice c g d] e)(r:l0×Bool)(a:E00 b e=some r):
  Tr Tryz.prog 84 #[.int .i64 b,.slice c g d] h λv h'=>∃(f:List Value),v = .tuple #[.agg f.toArray,.bool r.2]/\G1.R h' f r.1/\Sub h h':=by
 obtain⟨rfl,J⟩:=Sl.len i
 unfold E00 at a
 refine Z2 (args:=[.int .i64 b,.slice c e.length d]) (fn:=Tryz.f84) rfl ?_
 refine trM a (Z07 _ _ q _ _ _ _ i) ?_
 rintro A a O x ⟨F,rfl,j,m⟩
 obtain⟨Q,V⟩:=A
 dsimp only at a j
 obtain⟨S,T,E,M,H,U,rfl,rfl,s,t,k⟩:=H0 j
 obtain⟨rfl,K⟩:=Sl.len k
 try dsimp only at a
 refine ifB a (λp a=>?_) λp a=>?_
 ·obtain rfl:=oJ a
  exact⟨([.int .i64 0,.int .i64 0,.slice none 0 0]),rfl,(B0 (by decide) (by decide) (X0i D1 x)),m⟩
 ·refine trM a (a0d _ _ _ (B0 s t k)) ?_
  rintro W a P I ⟨G,rfl,y,z⟩
  obtain⟨B,C,n,N,o,D,rfl,rfl,u,w,l⟩:=H0 y
  obtain⟨rfl,L⟩:=Sl.len l
  try dsimp only at a
  obtain rfl:=oJ a
  exact⟨([.int .i64 B,.int .i64 C,.slice n D.length o]),rfl,(B0 u w l),(m.trans z)⟩
theorem s02(h:Hp)(b:Option Addr)(j c:Nat)(a:M0)(k:P0.R h [.slice b j c] a)(r:M0)(d:F6 a=some r):
  Tr Tryz.prog 145 #[.slice b j c] h λv h'=>∃(f:Option Addr) (i g:Nat),v = .slice f i g/\New P0 h h' [.slice f i g] r:=by
 obtain⟨rfl,x⟩:=Sl.len k
 unfold F6 at d
 refine Z2 (args:=[.slice b a.length c]) (fn:=Tryz.f145) rfl ?_
 refine Or.inl ?_
 intro C n f3
 obtain⟨u,w,rfl,q,s,z⟩:=E1.out (r:=P0.toRp) f3 (show F2 (P0.R h) ([[.slice b a.length c]]:List (List Value)) [a] from⟨k,trivial⟩)
 refine trM d (R03 _ _ _ _ _ q) ?_
 rintro t d D o ⟨l,A,m,rfl,e⟩
 have B:Sub n o:=e.sub
 have p:=e.r
 obtain⟨rfl,y⟩:=Sl.len p
 obtain rfl:=oJ d
 exact⟨l,t.length,m,rfl,(New.from e s)⟩
theorem b0e(h:Hp)(o:Option Addr)(J t:Nat)(i:E2)(B:I3.R h [.slice o J t] i)(p:Option Addr)(K u:Nat)(A:M0)(L:P0.R h [.slice p K u] A)(r:M0)(b:P01 i A=some r):
  Tr Tryz.prog 185 #[.slice o J t,.slice p K u] h λv h'=>∃(F:Option Addr) (I G:Nat),v = .slice F I G/\P0.R h' [.slice F I G] r/\Sub h h':=by
 obtain⟨rfl,ah⟩:=Sl.len B
 obtain⟨rfl,aA⟩:=Sl.len L
 unfold P01 at b
 refine Z2 (args:=[.slice o i.length t,.slice p A.length u]) (fn:=Tryz.f185) rfl ?_
 obtain⟨Q,Z,b⟩:=C0 b
 obtain⟨ai,am,U,W⟩:=Sl.cutI (r:=Wp.int.toRp) L Z
 refine aI ai (eX am (aI U ?_))
 intro an ae _
 obtain⟨ap,aw,rfl,M⟩:=W an ae
 have aB:=(Sl.len M).2
 obtain⟨E,aa,b⟩:=C0 b
 refine eX { vars:=[15],boxes:=[],owns:=[0],fuel:=true } (eX (λvs os h'=>∃ d j f,vs.tail = [.int .i64 d]/\os = [j]/\Sub h h'/\J0 d/\F2 (P0.R h') j f/\E5 Q i (U1 vs) d f=some E) (eX (λ_ _=>0) (aI (eX W0 ⟨0,[],([]:E2),rfl,rfl,(Sub.refl _),(by decide),(show F2 (P0.R h) ([]:List (List Value)) ([]:E2) from trivial),aa⟩) ?_)))
 rintro _ j g z ⟨d,aW,f,⟨⟩,⟨⟩,e,az,c,a⟩
 replace a:E5 Q i g d f=some E:=a
 obtain _|g:=g
 ·cases a
 rw[E5.eq_2]at a
 refine ifB a (λad a=>?_) λad a=>?_
 ·refine ldI a (P0.mono e M) λaU H a=>?_
  refine trV a (p8 _ _ H 1 (by decide) _ (J0n ah)) λaV a=>?_
  refine ifB a (λab a=>?_) λab a=>?_
  ·refine ld a (I3.mono e B) λk au m a=>?_
   obtain⟨q,aH,w,rfl⟩:=Wp.slice_cell m
   obtain⟨rfl,aC⟩:=Sl.len m
   obtain⟨aM,X,a⟩:=C0 a
   refine aI (P1 X (by first|rw[F2.length c,F2.length (show F2 (P0.R z) ([[.slice q k.length w]]:List (List Value)) [k] from⟨m,trivial⟩)]|exact congrArg (·+1) (F2.length c))) ?_
   exact I2 g ⟨(IntKind.i64.wrap (d+1)),(j++([[.slice q k.length w]]:List (List Value))),(f ++ [k]),rfl,rfl,e,(O0 _),(F2.append c (show F2 (P0.R z) ([[.slice q k.length w]]:List (List Value)) [k] from⟨m,trivial⟩)),a⟩
  ·refine trV a (p8 _ _ H (IntKind.i64.wrap (0-((i.length:Nat):Int))) (O0 _) (-1) (by decide)) λaR a=>?_
   refine ifB a (λac a=>?_) λac a=>?_
   ·refine ld a (I3.mono e B) λaS av C a=>?_
    obtain⟨aq,aJ,ax,rfl⟩:=Wp.slice_cell C
    obtain⟨rfl,aD⟩:=Sl.len C
    refine trM a (Q03 _ _ _ _ _ C) ?_
    rintro l a aO y ⟨s,aK,x,rfl,O⟩
    have n:Sub z y:=O.sub
    have D:=O.r
    obtain⟨rfl,aE⟩:=Sl.len D
    obtain⟨aN,Y,a⟩:=C0 a
    refine aI (P1 Y (by first|rw[F2.length (F2.up (r:=P0.toRp) n c),F2.length (show F2 (P0.R y) ([[.slice s l.length x]]:List (List Value)) [l] from⟨D,trivial⟩)]|exact congrArg (·+1) (F2.length (F2.up (r:=P0.toRp) n c)))) ?_
    exact I2 g ⟨(IntKind.i64.wrap (d+1)),(j++([[.slice s l.length x]]:List (List Value))),(f ++ [l]),rfl,rfl,(e.trans n),(O0 _),(F2.append (F2.up (r:=P0.toRp) n c) (show F2 (P0.R y) ([[.slice s l.length x]]:List (List Value)) [l] from⟨D,trivial⟩)),a⟩
   ·exact I2 g ⟨(IntKind.i64.wrap (d+1)),j,f,rfl,rfl,e,(O0 _),c,a⟩
 ·obtain rfl:=oJ a
  try dsimp only[Y0,Z0]at b
  refine Or.inl ?_
  intro aP af V
  obtain⟨ar,ay,rfl,aj,al,aG⟩:=E1.out (r:=P0.toRp) V c
  refine trM b (R03 _ _ _ _ _ aj) ?_
  rintro ao b aQ ag ⟨S,aL,T,rfl,P⟩
  have ak:Sub af ag:=P.sub
  have N:=P.r
  obtain⟨rfl,aF⟩:=Sl.len N
  obtain rfl:=oJ b
  exact⟨S,ao.length,T,rfl,N,((e.trans al).trans ak)⟩
theorem D0j(h:Hp)(d:Option Addr)(l e:Nat)(c:List Int)(m:Sl Rp.u8 h (.slice d l e) c)(r:Int×Int)(f:P03 c=some r):
  Tr Tryz.prog 92 #[.slice d l e] h λv h'=>∃ k ty,v=ptr k 0/\h'=h.set k (y06 (.slice d l e) r ty)/\o01 h k (.slice d l e) c r:=by
 obtain⟨rfl,A⟩:=Sl.len m
 unfold P03 at f
 refine Z2 (args:=[.slice d c.length e]) (fn:=Tryz.f92) rfl ?_
 obtain⟨n,s,f⟩:=C0 f
 refine eX { vars:=[3,4],boxes:=[],owns:=[],fuel:=true } (eX (λvs os h'=>∃ g i,vs.tail = [.int .i64 g,.int .i64 i]/\os = []/\h'=h/\J0 g/\J0 i/\C9 c (U1 vs) g i=some n) (eX (λ_ _=>0) (aI (eX W0 ⟨_,_,rfl,rfl,rfl,(O0 _),(by decide),s⟩) ?_)))
 rintro _ _ j z ⟨g,i,⟨⟩,⟨⟩,rfl,w,y,a⟩
 replace a:C9 c j g i=some n:=a
 obtain _|j:=j
 ·cases a
 rw[C9.eq_2]at a
 refine ifB a (λu a=>?_) λu a=>?_
 ·obtain⟨x,q,a⟩:=C0 a
  obtain⟨o,cs,p,rfl⟩:=Sl.getI (r:=Rp.u8) m q (by decide)
  refine aI o (eX _ (aI p ?_))
  exact I2 j ⟨_,_,rfl,rfl,rfl,(O0 _),(O0 _),a⟩
 ·obtain rfl:=oJ a
  try dsimp only[Y0,Z0]at f
  obtain rfl:=oJ f
  intro b t
  exact⟨b,_,rfl,rfl,t,m,⟨iR _,Int.natCast_nonneg _⟩,w⟩
theorem X0t{P:Program}{a:Type}{m:Sem a}{h h':Hp}{K:a->Hp->Prop}(e:h=h')(w:wpS P m h' K):wpS P m h K:=e▸w
theorem y0u{h:Hp}{k:Nat}{b:Value}{q:Int×Int}{ty:TypeId}:(h.set k (y06 b q ty)).cell k 0=some b:=by unfold Hp.cell;rw[Hp.set_same];rfl
theorem E0j{h:Hp}{k:Nat}{b:Value}{q:Int×Int}{ty:TypeId}:(h.set k (y06 b q ty)).cell k 1=some (.int .i64 q.1):=by unfold Hp.cell;rw[Hp.set_same];rfl
theorem Y0t{h:Hp}{k:Nat}{b:Value}{q:Int×Int}{ty:TypeId}:(h.set k (y06 b q ty)).cell k 2=some (.int .i64 q.2):=by unfold Hp.cell;rw[Hp.set_same];rfl
theorem N0u{h:Hp}{k:Nat}(x y:Obj):(h.set k x).set k y=h.set k y:=by
 funext b
 unfold Hp.set
 by_cases c:b=k
 ·rw[if_pos c,if_pos c]
 ·rw[if_neg c,if_neg c,if_neg c]
theorem Sub.setS{h a:Hp}{k:Nat}{o d:Obj}(f:Sub (h.set k o) a):Sub (h.set k d) (a.set k d):=λb x e=>by
 by_cases c:b=k
 ·subst c;rw[Hp.set_same]at e ⊢;exact e
 ·rw[Hp.set_other _ _ c]at e ⊢
  exact f b x (by rw[Hp.set_other _ _ c];exact e)
theorem U02(h:Hp)(d:Nat)(l:Value)(o:TypeId)(f:List Int)(b:Int×Int)(e:o01 h d l f b)(r:Int×(Int×Int))(g:l9 f b=some r):
  Tr Tryz.prog 188 #[ptr d 0] (h.set d (y06 l b o)) λv h'=>v = .int .i64 r.1/\o01 h d l f r.2/\h'=h.set d (y06 l r.2 o):=by
 unfold l9 at g
 obtain⟨j,G,m,H,x,D⟩:=e.rd
 cases x
 obtain⟨rfl,F⟩:=Sl.len e.rd
 refine Tr.forgetC (Z2 (args:=[ptr d 0]) (fn:=Tryz.f188) rfl ?_)
 refine eX _ (aI (aI rfl Y0t) ?_)
 refine eX _ (eX _ (eX _ (aI (aI (Hp.set_same _ _ _) (aI rfl (aI (show(2:Nat)<3 from by decide) (aI rfl (by first|trivial|decide|simp[V02]))))) ?_)))
 refine X0t (h':=h.set d (y06 (.slice j f.length m) (b.1,nxt b.2) o)) (N0u _ _) ?_
 refine Or.inr (Or.inr (Or.inr (Or.inl (aI (aI (by kernel_rfl) (by kernel_rfl)) ?_))))
 refine Or.inl (eX (.val (ptr d 0)) (aI (λk a=>aI rfl (aI rfl rfl)) ?_))
 refine Or.inl (eX (.val (ptr d 2)) (aI (λk a=>aI rfl (aI rfl rfl)) ?_))
 refine Or.inl (eX (.val (.int .i64 (nxt b.2))) (aI (λk a=>eX _ (aI (aI rfl (a.cell Y0t)) (aI rfl (aI rfl rfl)))) ?_))
 refine Or.inl (eX (.val (.int .i64 ((nxt b.2).fdiv (2 ^ min (33:Int).toNat 64)))) (aI (λk a=>aI rfl (aI rfl rfl)) ?_))
 refine Or.inl (eX (.val (ptr d 0)) (aI (λk a=>aI rfl (aI rfl rfl)) ?_))
 refine Or.inl (eX (.val (ptr d 2)) (aI (λk a=>aI rfl (aI rfl rfl)) ?_))
 refine Or.inl (eX (.val (.int .i64 (nxt b.2))) (aI (λk a=>eX _ (aI (aI rfl (a.cell Y0t)) (aI rfl (aI rfl rfl)))) ?_))
 refine Or.inl (eX (.val (.int .i64 ((nxt b.2).fdiv (2 ^ min (45:Int).toNat 64)))) (aI (λk a=>aI rfl (aI rfl rfl)) ?_))
 refine Or.inl (eX (.val (.int .i64 (q0u ((nxt b.2).fdiv (2 ^ min (33:Int).toNat 64)) ((nxt b.2).fdiv (2 ^ min (45:Int).toNat 64))))) (aI (λk a=>aI rfl (aI rfl rfl)) ?_))
 refine Or.inl (eX (.val (.int .i64 (drw (nxt b.2)))) (aI (λk a=>aI rfl (aI rfl rfl)) ?_))
 intro A s1
 refine Or.inr (Or.inr (Or.inr (Or.inl (aI (aI (by kernel_rfl) (by kernel_rfl)) ?_))))
 refine Or.inl (eX (.val (ptr d 0)) (aI (λk a=>aI rfl (aI rfl rfl)) ?_))
 refine Or.inl (eX (.val (ptr d 1)) (aI (λk a=>aI rfl (aI rfl rfl)) ?_))
 refine Or.inl (eX (.val (.int .i64 b.1)) (aI (λk a=>eX _ (aI (aI rfl (a.cell (s1.cell E0j))) (aI rfl (aI rfl rfl)))) ?_))
 refine Or.inl (eX (.val (ptr d 0)) (aI (λk a=>aI rfl (aI rfl rfl)) ?_))
 refine Or.inl (eX (.val (ptr d 0)) (aI (λk a=>aI rfl (aI rfl rfl)) ?_))
 refine Or.inl (eX (.val (.slice j f.length m)) (aI (λk a=>eX _ (aI (aI rfl (a.cell (s1.cell y0u))) (aI rfl (aI rfl rfl)))) ?_))
 refine Or.inl (eX (.val (.int .i64 ((f.length:Nat):Int))) (aI (λk a=>aI rfl (aI rfl rfl)) ?_))
 refine Or.inl (eX (.val (.bool (decide (b.1<((f.length:Nat):Int))))) (aI (λk a=>aI rfl (aI rfl rfl)) ?_))
 intro B s2
 have i:=s1.trans s2
 refine ifB g (λu g=>?_) λu g=>?_
 ·obtain⟨c,p,g⟩:=C0 g
  obtain rfl:=oJ g
  obtain⟨q,cs,s,rfl⟩:=Sl.getI (r:=Rp.u8) e.rd p (by decide)
  have t:=s.up ((Sub.set e.no).trans i)
  refine Or.inr (Or.inr (Or.inr (Or.inr (eX 14 (aI (aI (by kernel_rfl) (by kernel_rfl)) ?_)))))
  refine Or.inl (eX (.val (ptr d 0)) (aI (λk a=>aI rfl (aI rfl rfl)) ?_))
  refine Or.inl (eX (.val (ptr d 0)) (aI (λk a=>aI rfl (aI rfl rfl)) ?_))
  refine Or.inl (eX (.val (.slice j f.length m)) (aI (λk a=>eX _ (aI (aI rfl (a.cell (i.cell y0u))) (aI rfl (aI rfl rfl)))) ?_))
  refine Or.inl (eX (.val (ptr d 0)) (aI (λk a=>aI rfl (aI rfl rfl)) ?_))
  refine Or.inl (eX (.val (ptr d 1)) (aI (λk a=>aI rfl (aI rfl rfl)) ?_))
  refine Or.inl (eX (.val (.int .i64 b.1)) (aI (λk a=>eX _ (aI (aI rfl (a.cell (i.cell E0j))) (aI rfl (aI rfl rfl)))) ?_))
  refine Or.inl (eX (.hel (.slice j f.length m) b.1 1 0) (aI (λk a=>aI q (aI rfl (aI rfl rfl))) ?_))
  refine Or.inl (eX (.val (.int .u8 c)) (aI (λk a=>eX _ (aI (t.up a) (aI rfl (aI rfl rfl)))) ?_))
  refine Or.inl (eX (.val (.int .i64 (IntKind.i64.wrap c))) (aI (λk a=>aI rfl (aI rfl rfl)) ?_))
  refine Or.inl (eX (.val (.int .i64 (IntKind.i64.wrap (drw (nxt b.2)+IntKind.i64.wrap c)))) (aI (λk a=>aI rfl (aI rfl rfl)) ?_))
  refine Or.inl (eX (.val (.int .i64 (f0n (IntKind.i64.wrap (drw (nxt b.2)+IntKind.i64.wrap c)) 255))) (aI (λk a=>aI rfl (aI rfl rfl)) ?_))
  intro C z
  have n:=i.trans z
  refine eX _ (aI (aI rfl (n.cell E0j)) ?_)
  refine eX _ (eX _ (eX _ (aI (aI (n _ _ (Hp.set_same _ _ _)) (aI rfl (aI (show(1:Nat)<3 from by decide) (aI rfl (by first|trivial|decide|simp[V02]))))) ?_)))
  have w:=W0i p
  have E:=(List.getElem?_eq_some_iff.1 w.2).1
  have y:IntKind.i64.wrap (b.1+1)=b.1+1:=w64 (by omega) (by omega)
  exact aI rfl (aI ⟨e.no,e.rd,by show 0<=IntKind.i64.wrap (b.1+1)/\IntKind.i64.wrap (b.1+1)<=_;rw[y];exact⟨by omega,by omega⟩,O0 _⟩ (Sub.setS n))
 ·obtain rfl:=oJ g
  exact aI rfl (aI ⟨e.no,e.rd,e.pl,O0 _⟩ i)
theorem l01(h:Hp)(b:Nat)(c:Value)(f:TypeId)(e:List Int)(g:Int×Int)(d:o01 h b c e g)(i:Int)(R:J0 i)(r:Int×(Int×Int))(a:G7 e g i=some r):
  Tr Tryz.prog 93 #[ptr b 0,.int .i64 i] (h.set b (y06 c g f)) λv h'=>v = .int .i64 r.1/\o01 h b c e r.2/\h'=h.set b (y06 c r.2 f):=by
 unfold G7 at a
 refine Tr.forgetC (Z2 (args:=[ptr b 0,.int .i64 i]) (fn:=Tryz.f93) rfl ?_)
 refine ifB a (λC a=>?_) λC a=>?_
 ·obtain rfl:=oJ a
  exact⟨rfl,d.back d,Sub.setB d.no (Sub.refl _)⟩
 ·refine ifB a (λD a=>?_) λD a=>?_
  ·obtain⟨M,A,a⟩:=C0 a
   obtain⟨N,af⟩:=M
   try dsimp only at a
   refine Tr.mono (U02 _ b c f e g d _ A) ?_
   rintro _ _ ⟨rfl,n,rfl⟩
   obtain⟨ac,u,a⟩:=C0 a
   have V:J0 N:=C1 u
   obtain⟨ad,w,a⟩:=C0 a
   refine aI (C1 w) ?_
   obtain rfl:=oJ a
   exact⟨rfl,d.back n,Sub.setB d.no (Sub.refl _)⟩
  ·obtain⟨O,B,a⟩:=C0 a
   obtain⟨P,Q⟩:=O
   try dsimp only at a
   refine Tr.mono (U02 _ b c f e g d _ B) ?_
   rintro _ _ ⟨rfl,j,rfl⟩
   obtain⟨X,o,a⟩:=C0 a
   have W:J0 P:=C1 o
   obtain⟨E,x,a⟩:=C0 a
   obtain⟨F,G⟩:=E
   try dsimp only at a
   refine Tr.mono (U02 _ b c f e Q j _ x) ?_
   rintro _ _ ⟨rfl,k,rfl⟩
   obtain⟨Y,p,a⟩:=C0 a
   have S:J0 F:=C1 p
   obtain⟨H,y,a⟩:=C0 a
   obtain⟨I,J⟩:=H
   try dsimp only at a
   refine Tr.mono (U02 _ b c f e G k _ y) ?_
   rintro _ _ ⟨rfl,l,rfl⟩
   obtain⟨Z,q,a⟩:=C0 a
   have T:J0 I:=C1 q
   obtain⟨K,z,a⟩:=C0 a
   obtain⟨L,ae⟩:=K
   try dsimp only at a
   refine Tr.mono (U02 _ b c f e J l _ z) ?_
   rintro _ _ ⟨rfl,m,rfl⟩
   obtain⟨aa,s,a⟩:=C0 a
   have U:J0 L:=C1 s
   obtain⟨ab,t,a⟩:=C0 a
   refine aI (C1 t) ?_
   obtain rfl:=oJ a
   exact⟨rfl,d.back m,Sub.setB d.no (Sub.refl _)⟩
theorem P0g(h:Hp)(b:Nat)(c:Value)(i:TypeId)(d:List Int)(e:Int×Int)(g:o01 h b c d e)(f:Int)(m:J0 f)(r:Bool×(Int×Int))(a:t04 d e f=some r):
  Tr Tryz.prog 131 #[ptr b 0,.int .i64 f] (h.set b (y06 c e i)) λv h'=>v = .bool r.1/\o01 h b c d r.2/\h'=h.set b (y06 c r.2 i):=by
 unfold t04 at a
 refine Tr.forgetC (Z2 (args:=[ptr b 0,.int .i64 f]) (fn:=Tryz.f131) rfl ?_)
 obtain⟨n,l,a⟩:=C0 a
 obtain⟨o,s⟩:=n
 try dsimp only at a
 refine Tr.mono (l01 _ b c i d e g _ m _ l) ?_
 rintro _ _ ⟨rfl,j,rfl⟩
 obtain⟨q,k,a⟩:=C0 a
 have p:J0 o:=C1 k
 obtain rfl:=oJ a
 exact⟨rfl,g.back j,Sub.setB g.no (Sub.refl _)⟩
theorem p07(h:Hp)(b:Nat)(c:Value)(k:TypeId)(d:List Int)(e:Int×Int)(g:o01 h b c d e)(f:Option Addr)(m i:Nat)(j:M0)(n:P0.R h [.slice f m i] j)(r:Int×(Int×Int))(a:i01 d e j=some r):
  Tr Tryz.prog 238 #[ptr b 0,.slice f m i] (h.set b (y06 c e k)) λv h'=>v = .int .i64 r.1/\o01 h b c d r.2/\h'=h.set b (y06 c r.2 k):=by
 obtain⟨rfl,u⟩:=Sl.len n
 unfold i01 at a
 refine Tr.forgetC (Z2 (args:=[ptr b 0,.slice f j.length i]) (fn:=Tryz.f238) rfl ?_)
 obtain⟨x,s,a⟩:=C0 a
 obtain⟨y,D⟩:=x
 try dsimp only at a
 refine Tr.mono (l01 _ b c k d e g _ (J0n u) _ s) ?_
 rintro _ _ ⟨rfl,l,rfl⟩
 obtain⟨C,q,a⟩:=C0 a
 have A:J0 y:=C1 q
 obtain⟨E,t,a⟩:=C0 a
 obtain⟨o,z,p,w⟩:=Sl.getI (r:=Wp.int.toRp) n t (by decide)
 refine aI o ?_
 obtain⟨rfl,B⟩:=w
 refine eX _ (aI (n9.up (Sub.set l.no) p) ?_)
 obtain rfl:=oJ a
 exact⟨rfl,g.back l,Sub.setB g.no (Sub.refl _)⟩
theorem d08(h:Hp)(n:Option Addr)(A o:Nat)(l:M0)(m:P0.R h [.slice n A o] l)(r:M0)(e:j4 l=some r):
  Tr Tryz.prog 146 #[.slice n A o] h λv h'=>∃(s:Option Addr) (z t:Nat),v = .slice s z t/\New P0 h h' [.slice s z t] r:=by
 obtain⟨rfl,aa⟩:=Sl.len m
 unfold j4 at e
 refine Z2 (args:=[.slice n l.length o]) (fn:=Tryz.f146) rfl ?_
 obtain⟨p,J,e⟩:=C0 e
 refine eX { vars:=[4],boxes:=[],owns:=[0],fuel:=true } (eX (λvs os h'=>∃ g c i,vs.tail = [.int .i64 g]/\os = [c]/\Sub h h'/\J0 g/\F2 (Wp.int.R h') c i/\l3 l (U1 vs) g i=some p) (eX (λ_ _=>0) (aI (eX W0 ⟨0,[],([]:M0),rfl,rfl,(Sub.refl _),(by decide),(show F2 (Wp.int.R h) ([]:List (List Value)) ([]:M0) from trivial),J⟩) ?_)))
 rintro _ c k d ⟨g,ao,i,⟨⟩,⟨⟩,f,T,b,a⟩
 replace a:l3 l k g i=some p:=a
 obtain _|k:=k
 ·cases a
 rw[l3.eq_2]at a
 refine ifB a (λL a=>?_) λL a=>?_
 ·obtain⟨M,D,a⟩:=C0 a
  obtain rfl:c.length=M:=(F2.length b).trans (oJ D)
  obtain⟨af,S,a⟩:=C0 a
  refine Or.inl (aI (aI (by kernel_rfl) (by kernel_rfl)) ?_)
  refine ldG a (P0.mono f m) λan Y a=>?_
  obtain⟨aj,H,a⟩:=C0 a
  obtain⟨P,u,N⟩:=F03 b H (n0b d)
  refine aI (λq=>(u q).1) ?_
  obtain⟨rfl,U⟩:=N
  refine eX _ (aI (λq=>(u q).2) ?_)
  refine ldG a (P0.mono f m) λak V a=>?_
  obtain⟨al,I,a⟩:=C0 a
  obtain⟨Q,w,O⟩:=F03 b I (n0b d)
  refine aI (λq=>(w q).1) ?_
  obtain⟨rfl,W⟩:=O
  refine eX _ (aI (λq=>(w q).2) ?_)
  refine ldG a (P0.mono f m) λam X a=>?_
  refine ifB a (λK a=>?_) λK a=>?_
  ·obtain⟨ac,E,a⟩:=C0 a
   refine aI (by have:=C1 E;have:=F2.length b;omega) ?_
   exact I2 k ⟨(IntKind.i64.wrap (g+1)),(c.take (IntKind.i64.wrap (((c.length:Nat):Int)-1)).toNat),(i.take (IntKind.i64.wrap (((c.length:Nat):Int)-1)).toNat),rfl,rfl,f,(O0 _),(F2.take (IntKind.i64.wrap (((c.length:Nat):Int)-1)).toNat b),a⟩
  ·refine ldI a (P0.mono f m) λj y a=>?_
   obtain⟨ad,F,a⟩:=C0 a
   refine aI (P1 F (by first|rw[F2.length b,F2.length (show F2 (Wp.int.R d) ([[.int .i64 j]]:List (List Value)) [j] from⟨⟨rfl,y⟩,trivial⟩)]|exact congrArg (·+1) (F2.length b))) ?_
   exact I2 k ⟨(IntKind.i64.wrap (g+1)),(c++([[.int .i64 j]]:List (List Value))),(i ++ [j]),rfl,rfl,f,(O0 _),(F2.append b (show F2 (Wp.int.R d) ([[.int .i64 j]]:List (List Value)) [j] from⟨⟨rfl,y⟩,trivial⟩)),a⟩
 ·obtain rfl:=oJ a
  try dsimp only[Y0,Z0]at e
  obtain⟨ae,G,e⟩:=C0 e
  refine aI (P1 G (by first|rw[F2.length (show F2 (Wp.int.R d) ([]:List (List Value)) ([]:M0) from trivial),F2.length b]|exact congrArg (·+0) (F2.length (show F2 (Wp.int.R d) ([]:List (List Value)) ([]:M0) from trivial)))) ?_
  intro ai Z x
  obtain⟨B,C,rfl,ag,ah,ab⟩:=E1.out (r:=Wp.int.toRp) x (F2.append (show F2 (Wp.int.R d) ([]:List (List Value)) ([]:M0) from trivial) b)
  obtain rfl:=oJ e
  exact⟨B,((([]:M0)++i)).length,C,rfl,(New.from (E1.newPlain (r:=Wp.int) x (F2.append (show F2 (Wp.int.R d) ([]:List (List Value)) ([]:M0) from trivial) b) (X09 _)) f)⟩
theorem S0l(h:Hp)(d:Nat)(e:Value)(m:TypeId)(f:List Int)(s:Int×Int)(K:o01 h d e f s)(l:Int)(aj:J0 l)(o:Int)(aw:J0 o)(r:M0×(Int×Int))(c:y03 f s l o=some r):
  Tr Tryz.prog 161 #[ptr d 0,.int .i64 l,.int .i64 o] (h.set d (y06 e s m)) λv h'=>∃(z:Option Addr) (E A:Nat) (q:Hp),v = .slice z E A/\New P0 h q [.slice z E A] r.1/\Sub h q/\o01 q d e f r.2/\h'=q.set d (y06 e r.2 m):=by
 unfold y03 at c
 refine Z2 (args:=[ptr d 0,.int .i64 l,.int .i64 o]) (fn:=Tryz.f161) rfl ?_
 obtain⟨ao,Z,c⟩:=C0 c
 obtain⟨H,au⟩:=ao
 try dsimp only at c
 refine Tr.mono (l01 _ d e m f s K (IntKind.i64.wrap (o+1)) (O0 _) _ Z) ?_
 rintro _ _ ⟨rfl,M,rfl⟩
 obtain⟨aG,Y,c⟩:=C0 c
 have ak:J0 H:=C1 Y
 obtain⟨y,ad,c⟩:=C0 c
 refine eX { vars:=[8],boxes:=[],owns:=[0],fuel:=true } (eX (λvs os ai=>∃(j:Int) (p:List (List Value)) (g:List Int) (u8:Int×Int) (h':Hp),vs.tail = [.int .i64 j]/\os = [p]/\ai=h'.set d (y06 e u8 m)/\Sub h h'/\J0 j/\F2 (Wp.int.R h') p g/\o01 h' d e f u8/\n8 f l (U1 vs) j g u8=some y) (eX (λ_ _=>0) ?_))
 refine aI (eX W0 ⟨H,[],([]:M0),au,h,rfl,rfl,rfl,(Sub.refl _),ak,(show F2 (Wp.int.R h) ([]:List (List Value)) ([]:M0) from trivial),M,ad⟩) ?_
 rintro aK p n _ ⟨j,aM,g,u8,k,S,Q,rfl,t,ax,i,u,a⟩
 cases S
 cases Q
 replace a:n8 f l n j g u8=some y:=a
 obtain _|n:=n
 ·cases a
 rw[n8.eq_2]at a
 refine ifB a (λae a=>?_) λae a=>?_
 ·obtain⟨ap,aa,a⟩:=C0 a
  obtain⟨b,aq⟩:=ap
  try dsimp only at a
  refine Tr.mono (l01 _ d e m f u8 u _ aj _ aa) ?_
  rintro _ _ ⟨rfl,L,rfl⟩
  obtain⟨aD,V,a⟩:=C0 a
  have ay:J0 b:=C1 V
  obtain⟨ar,ab,a⟩:=C0 a
  obtain⟨aL,G⟩:=ar
  try dsimp only at a
  refine Tr.mono (P0g _ d e m f aq L 2 (by decide) _ ab) ?_
  rintro _ _ ⟨rfl,B,rfl⟩
  refine ifB a (λaf a=>?_) λaf a=>?_
  ·obtain⟨aE,W,a⟩:=C0 a
   refine aI (P1 W (by first|rw[F2.length i,F2.length (show F2 (Wp.int.R k) ([[.int .i64 (IntKind.i64.wrap (0-(IntKind.i64.wrap (1+b))))]]:List (List Value)) [(IntKind.i64.wrap (0-(IntKind.i64.wrap (1+b))))] from⟨⟨rfl,(O0 _)⟩,trivial⟩)]|exact congrArg (·+1) (F2.length i))) ?_
   exact I2 n ⟨(IntKind.i64.wrap (j-1)),(p++([[.int .i64 (IntKind.i64.wrap (0-(IntKind.i64.wrap (1+b))))]]:List (List Value))),(g ++ [(IntKind.i64.wrap (0-(IntKind.i64.wrap (1+b))))]),G,k,rfl,rfl,rfl,t,(O0 _),(F2.append i (show F2 (Wp.int.R k) ([[.int .i64 (IntKind.i64.wrap (0-(IntKind.i64.wrap (1+b))))]]:List (List Value)) [(IntKind.i64.wrap (0-(IntKind.i64.wrap (1+b))))] from⟨⟨rfl,(O0 _)⟩,trivial⟩)),B,a⟩
  ·obtain⟨aF,X,a⟩:=C0 a
   refine aI (P1 X (by first|rw[F2.length i,F2.length (show F2 (Wp.int.R k) ([[.int .i64 (IntKind.i64.wrap (1+b))]]:List (List Value)) [(IntKind.i64.wrap (1+b))] from⟨⟨rfl,(O0 _)⟩,trivial⟩)]|exact congrArg (·+1) (F2.length i))) ?_
   exact I2 n ⟨(IntKind.i64.wrap (j-1)),(p++([[.int .i64 (IntKind.i64.wrap (1+b))]]:List (List Value))),(g ++ [(IntKind.i64.wrap (1+b))]),G,k,rfl,rfl,rfl,t,(O0 _),(F2.append i (show F2 (Wp.int.R k) ([[.int .i64 (IntKind.i64.wrap (1+b))]]:List (List Value)) [(IntKind.i64.wrap (1+b))] from⟨⟨rfl,(O0 _)⟩,trivial⟩)),B,a⟩
 ·obtain rfl:=oJ a
  try dsimp only[Y0,Z0]at c
  refine Or.inl ?_
  intro aH az T
  obtain⟨al,U,ag,rfl⟩:=E1.beside u.no T
  obtain⟨J,P,rfl,an,w,aB⟩:=E1.out (r:=Wp.int.toRp) U i
  have C:=u.mono w ag
  obtain⟨av,ac,c⟩:=C0 c
  refine Tr.beside C.no (d08 _ J g.length P g an _  ac) ?_
  rintro aJ D ⟨I,aC,O,rfl,x⟩ ah
  have F:Sub al D:=x.sub
  have am:=x.r
  have N:=C.mono F ah
  obtain⟨rfl,aA⟩:=Sl.len am
  obtain rfl:=oJ c
  exact⟨I,av.length,O,D,rfl,(New.from x (t.trans w)),((t.trans w).trans F),N,rfl⟩
theorem B0g(h:Hp)(c:Nat)(d:Value)(l:TypeId)(e:List Int)(q:Int×Int)(L:o01 h c d e q)(g:Int)(ae:J0 g)(r:E2×(Int×Int))(b:q02 e q g=some r):
  Tr Tryz.prog 239 #[ptr c 0,.int .i64 g] (h.set c (y06 d q l)) λv h'=>∃(B:Option Addr) (G C:Nat) (o:Hp),v = .slice B G C/\New I3 h o [.slice B G C] r.1/\Sub h o/\o01 o c d e r.2/\h'=o.set c (y06 d r.2 l):=by
 unfold q02 at b
 refine Z2 (args:=[ptr c 0,.int .i64 g]) (fn:=Tryz.f239) rfl ?_
 obtain⟨aj,Y,b⟩:=C0 b
 obtain⟨J,am⟩:=aj
 try dsimp only at b
 refine Tr.mono (l01 _ c d l e q L 4 (by decide) _ Y) ?_
 rintro _ _ ⟨rfl,O,rfl⟩
 obtain⟨ay,X,b⟩:=C0 b
 have af:J0 J:=C1 X
 obtain⟨A,aa,b⟩:=C0 b
 refine eX { vars:=[6],boxes:=[],owns:=[0],fuel:=true } (eX (λvs os ad=>∃(i:Int) (m:List (List Value)) (f:List M0) (u8:Int×Int) (h':Hp),vs.tail = [.int .i64 i]/\os = [m]/\ad=h'.set c (y06 d u8 l)/\Sub h h'/\J0 i/\F2 (P0.R h') m f/\(∃ Bs,F3 (P0.W h') m f Bs/\V5 h Bs.flatten)/\o01 h' c d e u8/\i8 e g (U1 vs) i f u8=some A) (eX (λ_ _=>0) ?_))
 refine aI (eX W0 ⟨J,[],([]:E2),am,h,rfl,rfl,rfl,(Sub.refl _),af,(show F2 (P0.R h) ([]:List (List Value)) ([]:E2) from trivial),⟨_,(show F3 (P0.W h) [] [] [] from trivial),(V5.nil h)⟩,O,aa⟩) ?_
 rintro aA m p _ ⟨i,aB,f,u8,ar,S,Q,rfl,s,ap,n,⟨ao,z,E⟩,u,a⟩
 cases S
 cases Q
 replace a:i8 e g p i f u8=some A:=a
 obtain _|p:=p
 ·cases a
 rw[i8.eq_2]at a
 refine ifB a (λab a=>?_) λab a=>?_
 ·obtain⟨ak,Z,a⟩:=C0 a
  obtain⟨j,al⟩:=ak
  try dsimp only at a
  refine Tr.mono (S0l _ c d l e u8 u _ ae 5 (by decide) _ Z) ?_
  rintro _ _ ⟨t,aw,w,x,rfl,I,k,M,rfl⟩
  have y:=I.r
  obtain⟨rfl,au⟩:=Sl.len y
  obtain⟨ax,V,a⟩:=C0 a
  refine aI (P1 V (by first|rw[F2.length (F2.up (r:=P0.toRp) k n),F2.length (show F2 (P0.R x) ([[.slice t j.length w]]:List (List Value)) [j] from⟨y,trivial⟩)]|exact congrArg (·+1) (F2.length (F2.up (r:=P0.toRp) k n)))) ?_
  obtain⟨an,ai,U,_⟩:=I
  exact I2 p ⟨(IntKind.i64.wrap (i-1)),(m++([[.slice t j.length w]]:List (List Value))),(f ++ [j]),al,x,rfl,rfl,rfl,(s.trans k),(O0 _),(F2.append (F2.up (r:=P0.toRp) k n) (show F2 (P0.R x) ([[.slice t j.length w]]:List (List Value)) [j] from⟨y,trivial⟩)),⟨_,(F3.snoc ai (z0k z k)),(V0e z s E U)⟩,M,a⟩
 ·obtain rfl:=oJ a
  try dsimp only[Y0,Z0]at b
  intro ah aq T
  obtain⟨F,D,ac,rfl⟩:=E1.beside u.no T
  have ag:New (Wp.slice P0) h F [ah] f:=(E1.fresh (r:=P0) D z s E)
  obtain⟨K,P,rfl,az,H,av⟩:=E1.out (r:=P0.toRp) D n
  have N:=u.mono H ac
  obtain rfl:=oJ b
  exact⟨K,f.length,P,F,rfl,ag,(s.trans H),N,rfl⟩
end Go.Proofs.YtmgikbbmpnbbjaaGreat
