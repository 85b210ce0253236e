/- Texts of the claim, joined: The walks of batch 1 and others. -/
import Derived.Test.YtkjhghloldgioaaGreatPart18
import Derived.Test.YtkjhghloldgioaaGreatChecked
import Derived.Test.YtkjhghloldgioaaGreatH35
import Derived.Test.YtkjhghloldgioaaGreatSI
import Derived.Test.YtkjhghloldgioaaGreatPart21
import Derived.Test.YtkjhghloldgioaaGreatPart17
import Derived.Test.YtkjhghloldgioaaGreatH36
namespace Go.Proofs.YtkjhghloldgioaaGreat
open Go.H
set_option linter.unusedVariables false
set_option linter.unusedSimpArgs false
set_option maxRecDepth 10000
theorem C5(h:Hp)(a:Int)(f:J0 a)(b:Int)(g:J0 b)(c:Int)(i:J0 c)(r:Bool)(d:V3 a b c=some r):
  Tr Tryz.prog 76 #[.int .i64 a,.int .i64 b,.int .i64 c] h λv e=>v = .bool r/\e=h:=by
 unfold V3 at d
 refine Tr.forget (A2 (args:=[.int .i64 a,.int .i64 b,.int .i64 c]) (fn:=Tryz.f76) rfl ?_)
 obtain rfl:=oJ d
 exact aI rfl (Sub.refl _)
theorem u05(h:Hp)(c:Int)(n:J0 c)(j:Option Addr)(o k:Nat)(f:B0)(g:D0.R h [.slice j o k] f)(r:Bool)(b:V00 c f=some r):
  Tr Tryz.prog 104 #[.int .i64 c,.slice j o k] h λv l=>v = .bool r/\l=h:=by
 obtain⟨rfl,B⟩:=Sl.len g
 unfold V00 at b
 refine Tr.forget (A2 (args:=[.int .i64 c,.slice j f.length k]) (fn:=Tryz.f104) rfl ?_)
 obtain⟨m,p,b⟩:=z0 b
 refine eX { vars:=[5],boxes:=[],owns:=[],fuel:=true } (eX (λvs os l=>∃ e,vs.tail = [.int .i64 e]/\os = []/\Sub h l/\J0 e/\M9 f c (Z1 vs) e=some m) (eX (λ_ _=>0) (aI (eX T0 ⟨0,rfl,rfl,(Sub.refl _),(by decide),p⟩) ?_)))
 rintro _ i A ⟨e,⟨⟩,⟨⟩,d,w,a⟩
 replace a:M9 f c i e=some m:=a
 obtain _|i:=i
 ·cases a
 rw[M9.eq_2]at a
 refine ifB a (λt a=>?_) λt a=>?_
 ·refine Or.inl (aI (aI (by kernel_rfl) (by kernel_rfl)) ?_)
  refine ldI a (D0.mono d g) λE y a=>?_
  refine ldG a (D0.mono d g) λF u a=>?_
  refine trG a (λq=>C5 _ _ u (IntKind.i64.wrap (0-c)) (M0 _) _ n) λG a=>?_
  refine ldG a (D0.mono d g) λH z a=>?_
  refine ldG a (D0.mono d g) λC x a=>?_
  refine ifB a (λs a=>?_) λs a=>?_
  ·obtain rfl:=oJ a
   try dsimp only[T4,Z4]at b
   obtain rfl:=oJ b
   exact aI rfl d
  ·exact L2 i ⟨(IntKind.i64.wrap (e+1)),rfl,rfl,d,(M0 _),a⟩
 ·obtain rfl:=oJ a
  try dsimp only[U0,Y0]at b
  refine trV b (C5 _ _ n 1 (by decide) 3 (by decide)) λD b=>?_
  obtain rfl:=oJ b
  exact aI rfl d
theorem G0b(h:Hp)(g:Option Addr)(m i:Nat)(e:Y1)(n:j2.R h [.slice g m i] e)(r:Int)(d:b00 e=some r):
  Tr Tryz.prog 274 #[.slice g m i] h λv j=>v = .int .i64 r/\j=h:=by
 obtain⟨rfl,A⟩:=Sl.len n
 unfold b00 at d
 refine Tr.forget (A2 (args:=[.slice g e.length i]) (fn:=Tryz.f274) rfl ?_)
 obtain⟨l,p,d⟩:=z0 d
 refine eX { vars:=[3,4],boxes:=[],owns:=[],fuel:=true } (eX (λvs os j=>∃ b c,vs.tail = [.int .i64 b,.int .i64 c]/\os = []/\Sub h j/\J0 b/\J0 c/\E4 e (Z1 vs) b c=some l) (eX (λ_ _=>0) (aI (eX T0 ⟨0,0,rfl,rfl,(Sub.refl _),(by decide),(by decide),p⟩) ?_)))
 rintro _ _ f z ⟨b,c,⟨⟩,⟨⟩,k,x,y,a⟩
 replace a:E4 e f b c=some l:=a
 obtain _|f:=f
 ·cases a
 rw[E4.eq_2]at a
 refine ifB a (λq a=>?_) λq a=>?_
 ·refine ld a (j2.mono k n) λs u o a=>?_
  obtain⟨t,C,w,rfl⟩:=Wp.slice_cell o
  obtain⟨rfl,B⟩:=Sl.len o
  exact L2 f ⟨(IntKind.i64.wrap (b+((s.length:Nat):Int))),(IntKind.i64.wrap (c+1)),rfl,rfl,k,(M0 _),(M0 _),a⟩
 ·obtain rfl:=oJ a
  try dsimp only[U0,Y0]at d
  obtain rfl:=oJ d
  exact aI rfl k
theorem V08(h:Hp)(c:Int)(o:J0 c)(i:Option Addr)(p j:Nat)(e:Y1)(l:j2.R h [.slice i p j] e)(r:Bool)(b:v01 c e=some r):
  Tr Tryz.prog 175 #[.int .i64 c,.slice i p j] h λv k=>v = .bool r/\k=h:=by
 obtain⟨rfl,E⟩:=Sl.len l
 unfold v01 at b
 refine Tr.forget (A2 (args:=[.int .i64 c,.slice i e.length j]) (fn:=Tryz.f175) rfl ?_)
 obtain⟨n,t,b⟩:=z0 b
 refine eX { vars:=[5],boxes:=[],owns:=[],fuel:=true } (eX (λvs os k=>∃ d,vs.tail = [.int .i64 d]/\os = []/\Sub h k/\J0 d/\d8 e c (Z1 vs) d=some n) (eX (λ_ _=>0) (aI (eX T0 ⟨0,rfl,rfl,(Sub.refl _),(by decide),t⟩) ?_)))
 rintro _ g D ⟨d,⟨⟩,⟨⟩,f,B,a⟩
 replace a:d8 e c g d=some n:=a
 obtain _|g:=g
 ·cases a
 rw[d8.eq_2]at a
 refine ifB a (λu a=>?_) λu a=>?_
 ·refine ld a (j2.mono f l) λI z m a=>?_
  obtain⟨y,G,A,rfl⟩:=Wp.slice_cell m
  obtain⟨rfl,F⟩:=Sl.len m
  refine trV a (u05 _ _ o _ _ _ _ m) λJ a=>?_
  refine ifB a (λw a=>?_) λw a=>?_
  ·obtain rfl:=oJ a
   try dsimp only[T4,Z4]at b
   obtain rfl:=oJ b
   exact aI rfl f
  ·exact L2 g ⟨(IntKind.i64.wrap (d+1)),rfl,rfl,f,(M0 _),a⟩
 ·obtain rfl:=oJ a
  try dsimp only[U0,Y0]at b
  refine trV b (C5 _ _ o 1 (by decide) 3 (by decide)) λK b=>?_
  refine trG b (λq=>G0b _ _ _ _ _ (j2.mono f l)) λx b=>?_
  obtain⟨H,s,b⟩:=z0 b
  have C:J0 x:=E2 s
  obtain rfl:=oJ b
  exact aI rfl f
theorem I8(h:Hp)(a:Int)(f:J0 a)(b:Int)(g:J0 b)(c:Int)(i:J0 c)(r:Bool)(d:o6 a b c=some r):
  Tr Tryz.prog 78 #[.int .i64 a,.int .i64 b,.int .i64 c] h λv e=>v = .bool r/\e=h:=by
 unfold o6 at d
 refine Tr.forget (A2 (args:=[.int .i64 a,.int .i64 b,.int .i64 c]) (fn:=Tryz.f78) rfl ?_)
 obtain rfl:=oJ d
 exact aI rfl (Sub.refl _)
theorem W0e(h:Hp)(a:Int)(e:J0 a)(c:Int)(f:J0 c)(r:Bool)(b:F02 a c=some r):
  Tr Tryz.prog 197 #[.int .i64 a,.int .i64 c] h λv d=>v = .bool r/\d=h:=by
 unfold F02 at b
 refine Tr.forget (A2 (args:=[.int .i64 a,.int .i64 c]) (fn:=Tryz.f197) rfl ?_)
 refine trG b (λq=>I8 _ _ f (IntKind.i64.wrap (0-a)) (M0 _) _ e) λg b=>?_
 obtain rfl:=oJ b
 exact aI rfl (Sub.refl _)
theorem p07(h:Hp)(a:Int)(e:J0 a)(b:Int)(f:J0 b)(r:Bool)(c:D00 a b=some r):
  Tr Tryz.prog 198 #[.int .i64 a,.int .i64 b] h λv d=>v = .bool r/\d=h:=by
 unfold D00 at c
 refine Tr.forget (A2 (args:=[.int .i64 a,.int .i64 b]) (fn:=Tryz.f198) rfl ?_)
 obtain rfl:=oJ c
 exact aI rfl (Sub.refl _)
theorem v05(h:Hp)(c:Int)(n:J0 c)(i:Option Addr)(p j:Nat)(e:B0)(l:D0.R h [.slice i p j] e)(r:Bool)(b:W00 c e=some r):
  Tr Tryz.prog 91 #[.int .i64 c,.slice i p j] h λv k=>v = .bool r/\k=h:=by
 obtain⟨rfl,A⟩:=Sl.len l
 unfold W00 at b
 refine Tr.forget (A2 (args:=[.int .i64 c,.slice i e.length j]) (fn:=Tryz.f91) rfl ?_)
 refine trV b (I8 _ _ n 1 (by decide) 3 (by decide)) λB b=>?_
 refine ifB b (λu b=>?_) λu b=>?_
 ·obtain rfl:=oJ b
  exact aI rfl (Sub.refl _)
 ·obtain⟨m,s,b⟩:=z0 b
  refine eX { vars:=[17],boxes:=[],owns:=[],fuel:=true } (eX (λvs os k=>∃ d,vs.tail = [.int .i64 d]/\os = []/\Sub h k/\J0 d/\N9 e c (Z1 vs) d=some m) (eX (λ_ _=>0) (aI (eX T0 ⟨0,rfl,rfl,(Sub.refl _),(by decide),s⟩) ?_)))
  rintro _ g z ⟨d,⟨⟩,⟨⟩,f,y,a⟩
  replace a:N9 e c g d=some m:=a
  obtain _|g:=g
  ·cases a
  rw[N9.eq_2]at a
  refine ifB a (λw a=>?_) λw a=>?_
  ·refine ldI a (D0.mono f l) λE o a=>?_
   refine trV a (W0e _ _ n _ o) λF a=>?_
   refine ldG a (D0.mono f l) λC x a=>?_
   refine trG a (λq=>p07 _ _ x _ o) λD a=>?_
   refine ifB a (λt a=>?_) λt a=>?_
   ·obtain rfl:=oJ a
    try dsimp only[T4,Z4]at b
    obtain rfl:=oJ b
    exact aI rfl f
   ·exact L2 g ⟨(IntKind.i64.wrap (d+1)),rfl,rfl,f,(M0 _),a⟩
  ·obtain rfl:=oJ a
   try dsimp only[U0,Y0]at b
   obtain rfl:=oJ b
   exact aI rfl f
theorem H0b(h:Hp)(g:Option Addr)(m i:Nat)(e:Y1)(n:j2.R h [.slice g m i] e)(r:Int)(d:k01 e=some r):
  Tr Tryz.prog 278 #[.slice g m i] h λv j=>v = .int .i64 r/\j=h:=by
 obtain⟨rfl,A⟩:=Sl.len n
 unfold k01 at d
 refine Tr.forget (A2 (args:=[.slice g e.length i]) (fn:=Tryz.f278) rfl ?_)
 obtain⟨l,p,d⟩:=z0 d
 refine eX { vars:=[3,8],boxes:=[],owns:=[],fuel:=true } (eX (λvs os j=>∃ b c,vs.tail = [.int .i64 b,.int .i64 c]/\os = []/\Sub h j/\J0 b/\J0 c/\n7 e (Z1 vs) b c=some l) (eX (λ_ _=>0) (aI (eX T0 ⟨0,0,rfl,rfl,(Sub.refl _),(by decide),(by decide),p⟩) ?_)))
 rintro _ _ f z ⟨b,c,⟨⟩,⟨⟩,k,x,y,a⟩
 replace a:n7 e f b c=some l:=a
 obtain _|f:=f
 ·cases a
 rw[n7.eq_2]at a
 refine ifB a (λq a=>?_) λq a=>?_
 ·refine ld a (j2.mono k n) λs u o a=>?_
  obtain⟨t,C,w,rfl⟩:=Wp.slice_cell o
  obtain⟨rfl,B⟩:=Sl.len o
  exact L2 f ⟨(IntKind.i64.wrap (b+((s.length:Nat):Int))),(IntKind.i64.wrap (c+1)),rfl,rfl,k,(M0 _),(M0 _),a⟩
 ·obtain rfl:=oJ a
  try dsimp only[U0,Y0]at d
  obtain rfl:=oJ d
  exact aI rfl k
theorem W08(h:Hp)(c:Int)(o:J0 c)(i:Option Addr)(p j:Nat)(e:Y1)(l:j2.R h [.slice i p j] e)(r:Bool)(a:w01 c e=some r):
  Tr Tryz.prog 183 #[.int .i64 c,.slice i p j] h λv k=>v = .bool r/\k=h:=by
 obtain⟨rfl,E⟩:=Sl.len l
 unfold w01 at a
 refine Tr.forget (A2 (args:=[.int .i64 c,.slice i e.length j]) (fn:=Tryz.f183) rfl ?_)
 refine trV a (I8 _ _ o 1 (by decide) 3 (by decide)) λI a=>?_
 refine ifB a (λu a=>?_) λu a=>?_
 ·obtain rfl:=oJ a
  exact aI rfl (Sub.refl _)
 ·obtain⟨n,s,a⟩:=z0 a
  refine eX { vars:=[17],boxes:=[],owns:=[],fuel:=true } (eX (λvs os k=>∃ d,vs.tail = [.int .i64 d]/\os = []/\Sub h k/\J0 d/\f8 e c (Z1 vs) d=some n) (eX (λ_ _=>0) (aI (eX T0 ⟨0,rfl,rfl,(Sub.refl _),(by decide),s⟩) ?_)))
  rintro _ g D ⟨d,⟨⟩,⟨⟩,f,B,b⟩
  replace b:f8 e c g d=some n:=b
  obtain _|g:=g
  ·cases b
  rw[f8.eq_2]at b
  refine ifB b (λw b=>?_) λw b=>?_
  ·refine ld b (j2.mono f l) λJ z m b=>?_
   obtain⟨y,G,A,rfl⟩:=Wp.slice_cell m
   obtain⟨rfl,F⟩:=Sl.len m
   refine trV b (v05 _ _ o _ _ _ _ m) λK b=>?_
   refine ifB b (λt b=>?_) λt b=>?_
   ·obtain rfl:=oJ b
    try dsimp only[T4,Z4]at a
    obtain rfl:=oJ a
    exact aI rfl f
   ·exact L2 g ⟨(IntKind.i64.wrap (d+1)),rfl,rfl,f,(M0 _),b⟩
  ·obtain rfl:=oJ b
   try dsimp only[U0,Y0]at a
   refine trV a (H0b _ _ _ _ _ (j2.mono f l)) λx a=>?_
   obtain⟨H,q,a⟩:=z0 a
   have C:J0 x:=E2 q
   obtain rfl:=oJ a
   exact aI rfl f
theorem p04(h:Hp)(b:Int)(g:J0 b)(c:Int)(i:J0 c)(r:Int)(a:N8 b c=some r):
  Tr Tryz.prog 342 #[.int .i64 b,.int .i64 c] h λv d=>v = .int .i64 r/\d=h:=by
 unfold N8 at a
 refine Tr.forget (A2 (args:=[.int .i64 b,.int .i64 c]) (fn:=Tryz.f342) rfl ?_)
 refine ifB a (λe a=>?_) λe a=>?_
 ·obtain rfl:=oJ a
  exact aI rfl (Sub.refl _)
 ·refine ifB a (λf a=>?_) λf a=>?_
  ·obtain rfl:=oJ a
   exact aI rfl (Sub.refl _)
  ·obtain rfl:=oJ a
   exact aI rfl (Sub.refl _)
theorem c03(h:Hp)(l:Option Addr)(u m:Nat)(b:B0)(w:D0.R h [.slice l u m] b)(r:B0)(g:r8 b=some r):
  Tr Tryz.prog 182 #[.slice l u m] h λv f=>∃(p:Option Addr) (t q:Nat),v = .slice p t q/\D0.R f [.slice p t q] r/\Sub h f:=by
 obtain⟨rfl,I⟩:=Sl.len w
 unfold r8 at g
 refine A2 (args:=[.slice l b.length m]) (fn:=Tryz.f182) rfl ?_
 obtain⟨o,B,g⟩:=z0 g
 refine eX { vars:=[4],boxes:=[],owns:=[0],fuel:=true } (eX (λvs os f=>∃ c k d,vs.tail = [.int .i64 c]/\os = [k]/\Sub h f/\J0 c/\F2 (Wp.int.R f) k d/\R4 b (Z1 vs) c d=some o) (eX (λ_ _=>0) (aI (eX T0 ⟨(IntKind.i64.wrap (((b.length:Nat):Int)-1)),[],([]:B0),rfl,rfl,(Sub.refl _),(M0 _),(show F2 (Wp.int.R h) ([]:List (List Value)) ([]:B0) from trivial),B⟩) ?_)))
 rintro _ k j s ⟨c,M,d,⟨⟩,⟨⟩,n,F,i,a⟩
 replace a:R4 b j c d=some o:=a
 obtain _|j:=j
 ·cases a
 rw[R4.eq_2]at a
 refine ifB a (λC a=>?_) λC a=>?_
 ·refine ldI a (D0.mono n w) λe G a=>?_
  obtain⟨K,A,a⟩:=z0 a
  refine aI (P1 A (by first|rw[F2.length i,F2.length (show F2 (Wp.int.R s) ([[.int .i64 (IntKind.i64.wrap (0-e))]]:List (List Value)) [(IntKind.i64.wrap (0-e))] from⟨⟨rfl,(M0 _)⟩,trivial⟩)]|exact congrArg (·+1) (F2.length i))) ?_
  exact L2 j ⟨(IntKind.i64.wrap (c-1)),(k++([[.int .i64 (IntKind.i64.wrap (0-e))]]:List (List Value))),(d ++ [(IntKind.i64.wrap (0-e))]),rfl,rfl,n,(M0 _),(F2.append i (show F2 (Wp.int.R s) ([[.int .i64 (IntKind.i64.wrap (0-e))]]:List (List Value)) [(IntKind.i64.wrap (0-e))] from⟨⟨rfl,(M0 _)⟩,trivial⟩)),a⟩
 ·obtain rfl:=oJ a
  try dsimp only[U0,Y0]at g
  intro L H z
  obtain⟨x,y,rfl,D,E,J⟩:=Z0.out (r:=Wp.int.toRp) z i
  obtain rfl:=oJ g
  exact⟨x,d.length,y,rfl,D,(n.trans E)⟩
theorem z03(h:Hp)(o:Option Addr)(A p:Nat)(m:B0)(n:D0.R h [.slice o A p] m)(r:B0)(d:B7 m=some r):
  Tr Tryz.prog 212 #[.slice o A p] h λv k=>∃(t:Option Addr) (z u:Nat),v = .slice t z u/\D0.R k [.slice t z u] r/\Sub h k:=by
 obtain⟨rfl,ad⟩:=Sl.len n
 unfold B7 at d
 refine A2 (args:=[.slice o m.length p]) (fn:=Tryz.f212) rfl ?_
 obtain⟨s,K,d⟩:=z0 d
 refine eX { vars:=[4],boxes:=[],owns:=[0],fuel:=true } (eX (λvs os k=>∃ g c i,vs.tail = [.int .i64 g]/\os = [c]/\Sub h k/\J0 g/\F2 (Wp.int.R k) c i/\D4 m (Z1 vs) g i=some s) (eX (λ_ _=>0) (aI (eX T0 ⟨0,[],([]:B0),rfl,rfl,(Sub.refl _),(by decide),(show F2 (Wp.int.R h) ([]:List (List Value)) ([]:B0) from trivial),K⟩) ?_)))
 rintro _ c l e ⟨g,ap,i,⟨⟩,⟨⟩,f,W,b,a⟩
 replace a:D4 m l g i=some s:=a
 obtain _|l:=l
 ·cases a
 rw[D4.eq_2]at a
 refine ifB a (λM a=>?_) λM a=>?_
 ·obtain⟨N,E,a⟩:=z0 a
  obtain rfl:c.length=N:=(F2.length b).trans (oJ E)
  obtain⟨ai,V,a⟩:=z0 a
  refine Or.inl (aI (aI (by kernel_rfl) (by kernel_rfl)) ?_)
  refine ldG a (D0.mono f n) λao ab a=>?_
  obtain⟨ak,I,a⟩:=z0 a
  obtain⟨T,w,O⟩:=F05 b I (n0g e)
  refine aI (λq=>(w q).1) ?_
  obtain⟨rfl,X⟩:=O
  refine eX _ (aI (λq=>(w q).2) ?_)
  refine ldG a (D0.mono f n) λal Y a=>?_
  obtain⟨am,J,a⟩:=z0 a
  obtain⟨U,x,P⟩:=F05 b J (n0g e)
  refine aI (λq=>(x q).1) ?_
  obtain⟨rfl,Z⟩:=P
  refine eX _ (aI (λq=>(x q).2) ?_)
  refine ldG a (D0.mono f n) λan aa a=>?_
  refine ifB a (λL a=>?_) λL a=>?_
  ·obtain⟨af,F,a⟩:=z0 a
   refine aI (by have:=E2 F;have:=F2.length b;omega) ?_
   exact L2 l ⟨(IntKind.i64.wrap (g+1)),(c.take (IntKind.i64.wrap (((c.length:Nat):Int)-1)).toNat),(i.take (IntKind.i64.wrap (((c.length:Nat):Int)-1)).toNat),rfl,rfl,f,(M0 _),(F2.take (IntKind.i64.wrap (((c.length:Nat):Int)-1)).toNat b),a⟩
  ·refine ldI a (D0.mono f n) λj y a=>?_
   obtain⟨ag,G,a⟩:=z0 a
   refine aI (P1 G (by first|rw[F2.length b,F2.length (show F2 (Wp.int.R e) ([[.int .i64 j]]:List (List Value)) [j] from⟨⟨rfl,y⟩,trivial⟩)]|exact congrArg (·+1) (F2.length b))) ?_
   exact L2 l ⟨(IntKind.i64.wrap (g+1)),(c++([[.int .i64 j]]:List (List Value))),(i ++ [j]),rfl,rfl,f,(M0 _),(F2.append b (show F2 (Wp.int.R e) ([[.int .i64 j]]:List (List Value)) [j] from⟨⟨rfl,y⟩,trivial⟩)),a⟩
 ·obtain rfl:=oJ a
  try dsimp only[U0,Y0]at d
  obtain⟨ah,H,d⟩:=z0 d
  refine aI (P1 H (by first|rw[F2.length (show F2 (Wp.int.R e) ([]:List (List Value)) ([]:B0) from trivial),F2.length b]|exact congrArg (·+0) (F2.length (show F2 (Wp.int.R e) ([]:List (List Value)) ([]:B0) from trivial)))) ?_
  intro aj ac D
  obtain⟨B,C,rfl,Q,S,ae⟩:=Z0.out (r:=Wp.int.toRp) D (F2.append (show F2 (Wp.int.R e) ([]:List (List Value)) ([]:B0) from trivial) b)
  obtain rfl:=oJ d
  exact⟨B,((([]:B0)++i)).length,C,rfl,Q,(f.trans S)⟩
theorem N05(h:Hp)(c:Option Addr)(o e:Nat)(g:B0)(q:D0.R h [.slice c o e] g)(d:Option Addr)(p f:Nat)(i:B0)(s:D0.R h [.slice d p f] i)(r:B0)(a:x00 g i=some r):
  Tr Tryz.prog 254 #[.slice c o e,.slice d p f] h λv m=>∃(j:Option Addr) (n k:Nat),v = .slice j n k/\D0.R m [.slice j n k] r/\Sub h m:=by
 obtain⟨rfl,M⟩:=Sl.len q
 obtain⟨rfl,N⟩:=Sl.len s
 unfold x00 at a
 refine A2 (args:=[.slice c g.length e,.slice d i.length f]) (fn:=Tryz.f254) rfl ?_
 obtain⟨F,x,b⟩:=Sl.rows (r:=Wp.int.toRp) q
 refine eX F (aI x ?_)
 obtain⟨S,A,a⟩:=z0 a
 refine aI (P1 A (by first|rw[F2.length (show F2 (Wp.int.R h) ([]:List (List Value)) ([]:B0) from trivial),F2.length b]|exact congrArg (·+1) (F2.length (show F2 (Wp.int.R h) ([]:List (List Value)) ([]:B0) from trivial)))) ?_
 obtain⟨G,y,l⟩:=Sl.rows (r:=Wp.int.toRp) s
 refine eX G (aI y ?_)
 obtain⟨T,B,a⟩:=z0 a
 refine aI (P1 B (by first|rw[F2.length (F2.append (show F2 (Wp.int.R h) ([]:List (List Value)) ([]:B0) from trivial) b),F2.length l]|exact congrArg (·+1) (F2.length (F2.append (show F2 (Wp.int.R h) ([]:List (List Value)) ([]:B0) from trivial) b)))) ?_
 refine Or.inl ?_
 intro V L z
 obtain⟨I,J,rfl,C,E,P⟩:=Z0.out (r:=Wp.int.toRp) z (F2.append (F2.append (show F2 (Wp.int.R h) ([]:List (List Value)) ([]:B0) from trivial) b) l)
 refine trM a (z03 _ _ _ _ _ C) ?_
 rintro H a U K ⟨u,Q,w,rfl,t,D⟩
 obtain⟨rfl,O⟩:=Sl.len t
 obtain rfl:=oJ a
 exact⟨u,H.length,w,rfl,t,(E.trans D)⟩
theorem R04(h:Hp)(n:Option Addr)(z o:Nat)(e:B0)(A:D0.R h [.slice n z o] e)(r:B0)(d:A9 e=some r):
  Tr Tryz.prog 189 #[.slice n z o] h λv k=>∃(t:Option Addr) (y u:Nat),v = .slice t y u/\New D0 h k [.slice t y u] r:=by
 obtain⟨rfl,K⟩:=Sl.len A
 unfold A9 at d
 refine A2 (args:=[.slice n e.length o]) (fn:=Tryz.f189) rfl ?_
 obtain⟨M,D,d⟩:=z0 d
 refine aI (E2 D) ?_
 obtain⟨s,F,d⟩:=z0 d
 refine eX { vars:=[4],boxes:=[],owns:=[0],fuel:=true } (eX (λvs os k=>∃ f m g,vs.tail = [.int .i64 f]/\os = [m]/\Sub h k/\J0 f/\F2 (Wp.int.R k) m g/\Y7 e (Z1 vs) f g=some s) (eX (λ_ _=>0) (aI (eX T0 ⟨(IntKind.i64.wrap (((e.length:Nat):Int)-1)),(List.replicate (0:Int).toNat ([.int .i64 0]:List Value)),(List.replicate (0:Int).toNat (0:Int)),rfl,rfl,(Sub.refl _),(M0 _),(F2.rep (p:=Wp.int.R h) (a:=[.int .i64 0]) (b:=0) ⟨rfl,(by decide)⟩ ((0:Int).toNat)),F⟩) ?_)))
 rintro _ m l x ⟨f,S,g,⟨⟩,⟨⟩,q,H,j,c⟩
 replace c:Y7 e l f g=some s:=c
 obtain _|l:=l
 ·cases c
 rw[Y7.eq_2]at c
 refine ifB c (λG c=>?_) λG c=>?_
 ·refine ldI c (D0.mono q A) λi I c=>?_
  obtain⟨N,E,c⟩:=z0 c
  refine aI (P1 E (by first|rw[F2.length j,F2.length (show F2 (Wp.int.R x) ([[.int .i64 (IntKind.i64.wrap (0-i))]]:List (List Value)) [(IntKind.i64.wrap (0-i))] from⟨⟨rfl,(M0 _)⟩,trivial⟩)]|exact congrArg (·+1) (F2.length j))) ?_
  exact L2 l ⟨(IntKind.i64.wrap (f-1)),(m++([[.int .i64 (IntKind.i64.wrap (0-i))]]:List (List Value))),(g ++ [(IntKind.i64.wrap (0-i))]),rfl,rfl,q,(M0 _),(F2.append j (show F2 (Wp.int.R x) ([[.int .i64 (IntKind.i64.wrap (0-i))]]:List (List Value)) [(IntKind.i64.wrap (0-i))] from⟨⟨rfl,(M0 _)⟩,trivial⟩)),c⟩
 ·obtain rfl:=oJ c
  try dsimp only[U0,Y0]at d
  intro Q J w
  obtain⟨B,C,rfl,O,P,L⟩:=Z0.out (r:=Wp.int.toRp) w j
  obtain rfl:=oJ d
  exact⟨B,g.length,C,rfl,(New.from (Z0.newPlain (r:=Wp.int) w j (G05 _)) q)⟩
theorem M06(h:Hp)(t:Option Addr)(I u:Nat)(n:Y1)(J:j2.R h [.slice t I u] n)(r:B0)(l:y00 n=some r):
  Tr Tryz.prog 204 #[.slice t I u] h λv e=>∃(D:Option Addr) (H E:Nat),v = .slice D H E/\New D0 h e [.slice D H E] r:=by
 obtain⟨rfl,ap⟩:=Sl.len J
 unfold y00 at l
 refine A2 (args:=[.slice t n.length u]) (fn:=Tryz.f204) rfl ?_
 obtain⟨B,U,l⟩:=z0 l
 refine eX { vars:=[11],boxes:=[],owns:=[0],fuel:=true } (eX (λvs os e=>∃ i s j,vs.tail = [.int .i64 i]/\os = [s]/\Sub h e/\J0 i/\F2 (Wp.int.R e) s j/\d9 n (Z1 vs) i j=some B) (eX (λ_ _=>0) (aI (eX T0 ⟨0,[],([]:B0),rfl,rfl,(Sub.refl _),(by decide),(show F2 (Wp.int.R h) ([]:List (List Value)) ([]:B0) from trivial),U⟩) ?_)))
 rintro _ s o aa ⟨i,aG,j,⟨⟩,⟨⟩,A,am,w,b⟩
 replace b:d9 n o i j=some B:=b
 obtain _|o:=o
 ·cases b
 rw[d9.eq_2]at b
 refine ifB b (λY b=>?_) λY b=>?_
 ·refine ld b (j2.mono A J) λK ah z b=>?_
  obtain⟨af,au,ai,rfl⟩:=Wp.slice_cell z
  obtain⟨rfl,aq⟩:=Sl.len z
  obtain⟨C,V,b⟩:=z0 b
  refine eX { vars:=[17],boxes:=[],owns:=[0],fuel:=true } (eX (λvs os e=>∃ g c f,vs.tail = [.int .i64 g]/\os = [c]/\Sub aa e/\J0 g/\F2 (Wp.int.R e) c f/\Q7 K (Z1 vs) g f=some C) (eX (λ_ _=>0) (aI (eX T0 ⟨0,s,j,rfl,rfl,(Sub.refl _),(by decide),w,V⟩) ?_)))
  rintro _ c m y ⟨g,aF,f,⟨⟩,⟨⟩,p,an,d,a⟩
  replace a:Q7 K m g f=some C:=a
  obtain _|m:=m
  ·cases a
  rw[Q7.eq_2]at a
  refine ifB a (λW a=>?_) λW a=>?_
  ·refine ldI a (D0.mono p z) λk x a=>?_
   obtain⟨ab,N,a⟩:=z0 a
   obtain rfl:c.length=ab:=(F2.length d).trans (oJ N)
   obtain⟨av,aj,a⟩:=z0 a
   obtain⟨ac,O,a⟩:=z0 a
   obtain rfl:c.length=ac:=(F2.length d).trans (oJ O)
   obtain⟨aw,ak,a⟩:=z0 a
   obtain⟨aD,T,a⟩:=z0 a
   obtain⟨ag,F,ae⟩:=F05 d T (n0g y)
   refine aI (λq=>(F q).1) ?_
   obtain⟨rfl,Z⟩:=ae
   refine eX _ (aI (λq=>(F q).2) ?_)
   refine trG a (λq=>p07 _ _ Z _ x) λaE a=>?_
   refine ifB a (λX a=>?_) λX a=>?_
   ·obtain⟨ad,P,a⟩:=z0 a
    obtain rfl:c.length=ad:=(F2.length d).trans (oJ P)
    obtain⟨ax,al,a⟩:=z0 a
    obtain⟨ay,Q,a⟩:=z0 a
    refine aI (by have:=E2 Q;have:=F2.length d;omega) ?_
    exact L2 m ⟨(IntKind.i64.wrap (g+1)),(c.take (IntKind.i64.wrap (((c.length:Nat):Int)-1)).toNat),(f.take (IntKind.i64.wrap (((c.length:Nat):Int)-1)).toNat),rfl,rfl,p,(M0 _),(F2.take (IntKind.i64.wrap (((c.length:Nat):Int)-1)).toNat d),a⟩
   ·obtain⟨az,S,a⟩:=z0 a
    refine aI (P1 S (by first|rw[F2.length d,F2.length (show F2 (Wp.int.R y) ([[.int .i64 k]]:List (List Value)) [k] from⟨⟨rfl,x⟩,trivial⟩)]|exact congrArg (·+1) (F2.length d))) ?_
    exact L2 m ⟨(IntKind.i64.wrap (g+1)),(c++([[.int .i64 k]]:List (List Value))),(f ++ [k]),rfl,rfl,p,(M0 _),(F2.append d (show F2 (Wp.int.R y) ([[.int .i64 k]]:List (List Value)) [k] from⟨⟨rfl,x⟩,trivial⟩)),a⟩
  ·obtain rfl:=oJ a
   try dsimp only[U0,Y0]at b
   exact L2 o ⟨(IntKind.i64.wrap (i+1)),c,f,rfl,rfl,(A.trans p),(M0 _),d,b⟩
 ·obtain rfl:=oJ b
  try dsimp only[U0,Y0]at l
  intro aC ao G
  obtain⟨L,M,rfl,aA,aB,ar⟩:=Z0.out (r:=Wp.int.toRp) G w
  obtain rfl:=oJ l
  exact⟨L,j.length,M,rfl,(New.from (Z0.newPlain (r:=Wp.int) G w (G05 _)) A)⟩
theorem X0c(h:Hp)(i:Option Addr)(o k:Nat)(d:B0)(q:D0.R h [.slice i o k] d)(j:Option Addr)(p l:Nat)(e:B0)(s:D0.R h [.slice j p l] e)(r:Bool)(b:F00 d e=some r):
  Tr Tryz.prog 177 #[.slice i o k,.slice j p l] h λv m=>v = .bool r/\m=h:=by
 obtain⟨rfl,C⟩:=Sl.len q
 obtain⟨rfl,D⟩:=Sl.len s
 unfold F00 at b
 refine Tr.forget (A2 (args:=[.slice i d.length k,.slice j e.length l]) (fn:=Tryz.f177) rfl ?_)
 refine ifB b (λu b=>?_) λu b=>?_
 ·obtain rfl:=oJ b
  exact aI rfl (Sub.refl _)
 ·obtain⟨n,t,b⟩:=z0 b
  refine eX { vars:=[5],boxes:=[],owns:=[],fuel:=true } (eX (λvs os m=>∃ c,vs.tail = [.int .i64 c]/\os = []/\Sub h m/\J0 c/\S4 d e (Z1 vs) c=some n) (eX (λ_ _=>0) (aI (eX T0 ⟨0,rfl,rfl,(Sub.refl _),(by decide),t⟩) ?_)))
  rintro _ g B ⟨c,⟨⟩,⟨⟩,f,y,a⟩
  replace a:S4 d e g c=some n:=a
  obtain _|g:=g
  ·cases a
  rw[S4.eq_2]at a
  refine ifB a (λw a=>?_) λw a=>?_
  ·refine Or.inl (aI (aI (by kernel_rfl) (by kernel_rfl)) ?_)
   refine ldI a (D0.mono f q) λE z a=>?_
   refine ldI a (D0.mono f s) λF A a=>?_
   refine ifB a (λx a=>?_) λx a=>?_
   ·obtain rfl:=oJ a
    try dsimp only[T4,Z4]at b
    obtain rfl:=oJ b
    exact aI rfl f
   ·exact L2 g ⟨(IntKind.i64.wrap (c+1)),rfl,rfl,f,(M0 _),a⟩
  ·obtain rfl:=oJ a
   try dsimp only[U0,Y0]at b
   obtain rfl:=oJ b
   exact aI rfl f
theorem Y0c(h:Hp)(i:Option Addr)(o k:Nat)(d:B0)(q:D0.R h [.slice i o k] d)(j:Option Addr)(p l:Nat)(e:B0)(s:D0.R h [.slice j p l] e)(r:Bool)(b:M01 d e=some r):
  Tr Tryz.prog 185 #[.slice i o k,.slice j p l] h λv m=>v = .bool r/\m=h:=by
 obtain⟨rfl,C⟩:=Sl.len q
 obtain⟨rfl,D⟩:=Sl.len s
 unfold M01 at b
 refine Tr.forget (A2 (args:=[.slice i d.length k,.slice j e.length l]) (fn:=Tryz.f185) rfl ?_)
 refine ifB b (λu b=>?_) λu b=>?_
 ·obtain rfl:=oJ b
  exact aI rfl (Sub.refl _)
 ·obtain⟨n,t,b⟩:=z0 b
  refine eX { vars:=[13],boxes:=[],owns:=[],fuel:=true } (eX (λvs os m=>∃ c,vs.tail = [.int .i64 c]/\os = []/\Sub h m/\J0 c/\Z7 d e (Z1 vs) c=some n) (eX (λ_ _=>0) (aI (eX T0 ⟨0,rfl,rfl,(Sub.refl _),(by decide),t⟩) ?_)))
  rintro _ g B ⟨c,⟨⟩,⟨⟩,f,y,a⟩
  replace a:Z7 d e g c=some n:=a
  obtain _|g:=g
  ·cases a
  rw[Z7.eq_2]at a
  refine ifB a (λw a=>?_) λw a=>?_
  ·refine Or.inl (aI (aI (by kernel_rfl) (by kernel_rfl)) ?_)
   refine ldI a (D0.mono f q) λE z a=>?_
   refine ldI a (D0.mono f s) λF A a=>?_
   refine ifB a (λx a=>?_) λx a=>?_
   ·obtain rfl:=oJ a
    try dsimp only[T4,Z4]at b
    obtain rfl:=oJ b
    exact aI rfl f
   ·exact L2 g ⟨(IntKind.i64.wrap (c+1)),rfl,rfl,f,(M0 _),a⟩
  ·obtain rfl:=oJ a
   try dsimp only[U0,Y0]at b
   obtain rfl:=oJ b
   exact aI rfl f
theorem S0h(h:Hp)(c:List Value)(e:j0)(w:C1.R h c e)(d:List Value)(f:N0)(y:E1.R h d f)(r:Bool)(a:V03 e f=some r):
  Tr Tryz.prog 339 #[.agg c.toArray,.agg d.toArray] h λv j=>v = .bool r/\j=h:=by
 obtain⟨o,b,g,B,i,p,rfl,rfl,k,z,x⟩:=C0 w
 obtain⟨rfl,A⟩:=Sl.len x
 obtain⟨s,t,u,rfl,rfl,l,m,n⟩:=U1 y
 unfold V03 at a
 dsimp only at a
 refine Tr.forget (A2 (args:=[.agg #[.int .i64 o,.int .i64 b,.slice g p.length i],.agg #[.int .i64 s,.int .i64 t,.int .i64 u]]) (fn:=Tryz.f339) rfl ?_)
 refine trV a (C5 _ _ l 0 (by decide) (IntKind.i64.wrap (b-1)) (M0 _)) λC a=>?_
 refine trG a (λq=>C5 _ _ n 0 (by decide) (IntKind.i64.wrap (b-1)) (M0 _)) λD a=>?_
 refine trG a (λq=>C5 _ _ m 1 (by decide) _ k) λE a=>?_
 obtain rfl:=oJ a
 exact aI rfl (Sub.refl _)
theorem U05(h:Hp)(o:List Value)(y:N0)(Q:E1.R h o y)(p:List Value)(z:N0)(S:E1.R h p z)(r:Int)(b:H9 y z=some r):
  Tr Tryz.prog 314 #[.agg o.toArray,.agg p.toArray] h λv m=>v = .int .i64 r/\m=h:=by
 obtain⟨d,e,f,rfl,rfl,q,s,t⟩:=U1 Q
 obtain⟨g,i,j,rfl,rfl,u,w,x⟩:=U1 S
 unfold H9 at b
 dsimp only at b
 refine Tr.forget (A2 (args:=[.agg #[.int .i64 d,.int .i64 e,.int .i64 f],.agg #[.int .i64 g,.int .i64 i,.int .i64 j]]) (fn:=Tryz.f314) rfl ?_)
 obtain⟨n,M,b⟩:=z0 b
 refine eX { vars:=[7],boxes:=[],owns:=[],fuel:=true } (eX (λvs os m=>∃ k,vs.tail = [.int .i64 k]/\os = []/\Sub h m/\J0 k/\B8 d e f g i j (Z1 vs) k=some n) (eX (λ_ _=>0) (aI (eX T0 ⟨0,rfl,rfl,(Sub.refl _),(by decide),M⟩) ?_)))
 rintro _ l ag ⟨k,⟨⟩,⟨⟩,c,ab,a⟩
 replace a:B8 d e f g i j l k=some n:=a
 obtain _|l:=l
 ·cases a
 rw[B8.eq_2]at a
 refine ifB a (λO a=>?_) λO a=>?_
 ·refine Or.inl (aI (aI (by kernel_rfl) (by kernel_rfl)) ?_)
  obtain⟨ai,J,a⟩:=z0 a
  obtain⟨B,Y,F,U⟩:=J5 (F2.up (r:=Wp.int.toRp) c (show F2 (Wp.int.R h) ([[.int .i64 d],[.int .i64 e],[.int .i64 f]]:List (List Value)) [d,e,f] from⟨⟨rfl,q⟩,⟨⟨rfl,s⟩,⟨⟨rfl,t⟩,trivial⟩⟩⟩)) J
  refine aI B ?_
  obtain⟨rfl,ad⟩:=U
  refine eX _ (aI F ?_)
  obtain⟨aj,K,a⟩:=z0 a
  obtain⟨C,Z,G,V⟩:=J5 (F2.up (r:=Wp.int.toRp) c (show F2 (Wp.int.R h) ([[.int .i64 g],[.int .i64 i],[.int .i64 j]]:List (List Value)) [g,i,j] from⟨⟨rfl,u⟩,⟨⟨rfl,w⟩,⟨⟨rfl,x⟩,trivial⟩⟩⟩)) K
  refine aI C ?_
  obtain⟨rfl,ae⟩:=V
  refine eX _ (aI G ?_)
  refine ifB a (λP a=>?_) λP a=>?_
  ·obtain rfl:=oJ a
   try dsimp only[T4,Z4]at b
   obtain rfl:=oJ b
   exact aI rfl c
  ·refine Or.inl (aI (aI (by kernel_rfl) (by kernel_rfl)) ?_)
   obtain⟨ak,L,a⟩:=z0 a
   obtain⟨D,aa,H,W⟩:=J5 (F2.up (r:=Wp.int.toRp) c (show F2 (Wp.int.R h) ([[.int .i64 d],[.int .i64 e],[.int .i64 f]]:List (List Value)) [d,e,f] from⟨⟨rfl,q⟩,⟨⟨rfl,s⟩,⟨⟨rfl,t⟩,trivial⟩⟩⟩)) L
   refine aI D ?_
   obtain⟨rfl,af⟩:=W
   refine eX _ (aI H ?_)
   obtain⟨ah,I,a⟩:=z0 a
   obtain⟨A,X,E,T⟩:=J5 (F2.up (r:=Wp.int.toRp) c (show F2 (Wp.int.R h) ([[.int .i64 g],[.int .i64 i],[.int .i64 j]]:List (List Value)) [g,i,j] from⟨⟨rfl,u⟩,⟨⟨rfl,w⟩,⟨⟨rfl,x⟩,trivial⟩⟩⟩)) I
   refine aI A ?_
   obtain⟨rfl,ac⟩:=T
   refine eX _ (aI E ?_)
   refine ifB a (λN a=>?_) λN a=>?_
   ·obtain rfl:=oJ a
    try dsimp only[T4,Z4]at b
    obtain rfl:=oJ b
    exact aI rfl c
   ·exact L2 l ⟨(IntKind.i64.wrap (k+1)),rfl,rfl,c,(M0 _),a⟩
 ·obtain rfl:=oJ a
  try dsimp only[U0,Y0]at b
  obtain rfl:=oJ b
  exact aI rfl c
theorem J8(h:Hp)(m:List Value)(u:j0)(O:C1.R h m u)(r:Bool)(b:a5 u=some r):
  Tr Tryz.prog 312 #[.agg m.toArray] h λv g=>v = .bool r/\g=h:=by
 obtain⟨i,j,w,ab,x,k,rfl,rfl,p,s,e⟩:=C0 O
 obtain⟨rfl,aa⟩:=Sl.len e
 unfold a5 at b
 dsimp only at b
 refine Tr.forget (A2 (args:=[.agg #[.int .i64 i,.int .i64 j,.slice w k.length x]]) (fn:=Tryz.f312) rfl ?_)
 obtain⟨l,C,b⟩:=z0 b
 refine eX { vars:=[3],boxes:=[],owns:=[],fuel:=true } (eX (λvs os g=>∃ d,vs.tail = [.int .i64 d]/\os = []/\Sub h g/\J0 d/\R8 k i j (Z1 vs) d=some l) (eX (λ_ _=>0) (aI (eX T0 ⟨0,rfl,rfl,(Sub.refl _),(by decide),C⟩) ?_)))
 rintro _ f t ⟨d,⟨⟩,⟨⟩,c,Y,a⟩
 replace a:R8 k i j f d=some l:=a
 obtain _|f:=f
 ·cases a
 rw[R8.eq_2]at a
 refine ifB a (λE a=>?_) λE a=>?_
 ·refine Or.inl (aI (aI (by kernel_rfl) (by kernel_rfl)) ?_)
  refine ld a (I0.mono c e) λaf V P a=>?_
  obtain⟨ag,ah,ai,rfl,rfl,F,G,H⟩:=U1 P
  try dsimp only at a
  obtain⟨U,z,a⟩:=z0 a
  refine eX (.bool U) (aI (S0h _ _ _ (l0 p s (I0.mono c e)) _ _ (M1 F G H) _  z) ?_)
  obtain⟨aj,A,a⟩:=z0 a
  obtain⟨W,n,Q⟩:=Sl.getG (r:=E1.toRp) (I0.mono c e) A (by decide) (H0d t)
  refine aI (λq=>(n q).1) ?_
  obtain⟨ak,al,am,rfl,rfl,I,J,K⟩:=U1 Q
  try dsimp only at a
  refine eX _ (aI (λq=>(n q).2) ?_)
  obtain⟨an,B,a⟩:=z0 a
  obtain⟨X,o,S⟩:=Sl.getG (r:=E1.toRp) (I0.mono c e) B (by decide) (H0d t)
  refine aI (λq=>(o q).1) ?_
  obtain⟨ao,ap,aq,rfl,rfl,L,M,N⟩:=U1 S
  try dsimp only at a
  refine eX _ (aI (λq=>(o q).2) ?_)
  refine trG a (λq=>U05 _ _ _ (M1 I J K) _ _ (M1 L M N)) λT a=>?_
  obtain⟨ac,y,a⟩:=z0 a
  have Z:J0 T:=E2 y
  refine ifB a (λD a=>?_) λD a=>?_
  ·obtain rfl:=oJ a
   try dsimp only[T4,Z4]at b
   obtain rfl:=oJ b
   exact aI rfl c
  ·exact L2 f ⟨(IntKind.i64.wrap (d+1)),rfl,rfl,c,(M0 _),a⟩
 ·obtain rfl:=oJ a
  try dsimp only[U0,Y0]at b
  refine trV b (C5 _ _ p 1 (by decide) 3 (by decide)) λad b=>?_
  refine trG b (λq=>C5 _ _ s 1 (by decide) 40 (by decide)) λae b=>?_
  obtain rfl:=oJ b
  exact aI rfl c
theorem s02(h:Hp)(c:List Value)(d:j0)(m:C1.R h c d)(b:Int)(j:J0 b)(r:Bool)(a:V4 d b=some r):
  Tr Tryz.prog 290 #[.agg c.toArray,.int .i64 b] h λv i=>v = .bool r/\i=h:=by
 obtain⟨k,e,f,s,g,l,rfl,rfl,o,p,n⟩:=C0 m
 obtain⟨rfl,q⟩:=Sl.len n
 unfold V4 at a
 dsimp only at a
 refine Tr.forget (A2 (args:=[.agg #[.int .i64 k,.int .i64 e,.slice f l.length g],.int .i64 b]) (fn:=Tryz.f290) rfl ?_)
 refine trV a (I8 _ _ j 0 (by decide) (IntKind.i64.wrap (e-1)) (M0 _)) λt a=>?_
 obtain rfl:=oJ a
 exact aI rfl (Sub.refl _)
theorem Y09(h:Hp)(d:List Value)(g:j0)(y:C1.R h d g)(e:List Value)(i:N0)(z:E1.R h e i)(r:Bool)(a:r00 g i=some r):
  Tr Tryz.prog 337 #[.agg d.toArray,.agg e.toArray] h λv l=>v = .bool r/\l=h:=by
 obtain⟨p,s,j,B,k,t,rfl,rfl,b,f,c⟩:=C0 y
 obtain⟨rfl,A⟩:=Sl.len c
 obtain⟨u,w,x,rfl,rfl,m,n,o⟩:=U1 z
 unfold r00 at a
 dsimp only at a
 refine Tr.forget (A2 (args:=[.agg #[.int .i64 p,.int .i64 s,.slice j t.length k],.agg #[.int .i64 u,.int .i64 w,.int .i64 x]]) (fn:=Tryz.f337) rfl ?_)
 refine trV a (s02 _ _ _ (l0 b f c) _ m) λC a=>?_
 refine trG a (λq=>s02 _ _ _ (l0 b f c) _ o) λD a=>?_
 refine trG a (λq=>I8 _ _ n 1 (by decide) _ b) λE a=>?_
 obtain rfl:=oJ a
 exact aI rfl (Sub.refl _)
theorem V05(h:Hp)(b:List Value)(d:N0)(A:E1.R h b d)(c:List Value)(e:N0)(B:E1.R h c e)(r:Int)(a:L00 d e=some r):
  Tr Tryz.prog 316 #[.agg b.toArray,.agg c.toArray] h λv j=>v = .int .i64 r/\j=h:=by
 obtain⟨t,u,w,rfl,rfl,m,n,o⟩:=U1 A
 obtain⟨x,y,z,rfl,rfl,p,q,s⟩:=U1 B
 unfold L00 at a
 dsimp only at a
 refine Tr.forget (A2 (args:=[.agg #[.int .i64 t,.int .i64 u,.int .i64 w],.agg #[.int .i64 x,.int .i64 y,.int .i64 z]]) (fn:=Tryz.f316) rfl ?_)
 refine trV a (p04 _ _ m _ p) λC a=>?_
 obtain⟨I,f,a⟩:=z0 a
 have F:J0 C:=E2 f
 refine ifB a (λk a=>?_) λk a=>?_
 ·obtain rfl:=oJ a
  exact aI rfl (Sub.refl _)
 ·refine trV a (p04 _ _ n _ q) λD a=>?_
  obtain⟨J,g,a⟩:=z0 a
  have G:J0 D:=E2 g
  refine ifB a (λl a=>?_) λl a=>?_
  ·obtain rfl:=oJ a
   exact aI rfl (Sub.refl _)
  ·refine trV a (p04 _ _ o _ s) λE a=>?_
   obtain⟨K,i,a⟩:=z0 a
   have H:J0 E:=E2 i
   obtain rfl:=oJ a
   exact aI rfl (Sub.refl _)
theorem t02(h:Hp)(m:List Value)(w:j0)(K:C1.R h m w)(r:Bool)(b:H8 w=some r):
  Tr Tryz.prog 300 #[.agg m.toArray] h λv g=>v = .bool r/\g=h:=by
 obtain⟨i,j,x,V,y,k,rfl,rfl,o,p,f⟩:=C0 K
 obtain⟨rfl,U⟩:=Sl.len f
 unfold H8 at b
 dsimp only at b
 refine Tr.forget (A2 (args:=[.agg #[.int .i64 i,.int .i64 j,.slice x k.length y]]) (fn:=Tryz.f300) rfl ?_)
 refine trV b (I8 _ _ o 1 (by decide) 3 (by decide)) λX b=>?_
 refine trG b (λq=>I8 _ _ p 1 (by decide) 40 (by decide)) λac b=>?_
 refine ifB b (λE b=>?_) λE b=>?_
 ·obtain rfl:=oJ b
  exact aI rfl (Sub.refl _)
 ·obtain⟨l,C,b⟩:=z0 b
  refine eX { vars:=[24],boxes:=[],owns:=[],fuel:=true } (eX (λvs os g=>∃ d,vs.tail = [.int .i64 d]/\os = []/\Sub h g/\J0 d/\S8 k i j (Z1 vs) d=some l) (eX (λ_ _=>0) (aI (eX T0 ⟨0,rfl,rfl,(Sub.refl _),(by decide),C⟩) ?_)))
  rintro _ e J ⟨d,⟨⟩,⟨⟩,c,S,a⟩
  replace a:S8 k i j e d=some l:=a
  obtain _|e:=e
  ·cases a
  rw[S8.eq_2]at a
  refine ifB a (λF a=>?_) λF a=>?_
  ·refine ld a (I0.mono c f) λad Q M a=>?_
   obtain⟨ae,af,ag,rfl,rfl,s,t,u⟩:=U1 M
   try dsimp only at a
   refine Or.inl (aI (aI (by kernel_rfl) (by kernel_rfl)) ?_)
   obtain⟨N,A,a⟩:=z0 a
   refine eX (.bool N) (aI (Y09 _ _ _ (l0 o p (I0.mono c f)) _ _ (M1 s t u) _  A) ?_)
   obtain⟨Y,B,a⟩:=z0 a
   obtain⟨P,n,L⟩:=Sl.getG (r:=E1.toRp) (I0.mono c f) B (by decide) (H0d J)
   refine aI (λq=>(n q).1) ?_
   obtain⟨Z,aa,ab,rfl,rfl,G,H,I⟩:=U1 L
   try dsimp only at a
   refine eX _ (aI (λq=>(n q).2) ?_)
   refine trG a (λq=>V05 _ _ _ (M1 G H I) _ _ (M1 s t u)) λO a=>?_
   obtain⟨W,z,a⟩:=z0 a
   have T:J0 O:=E2 z
   refine ifB a (λD a=>?_) λD a=>?_
   ·obtain rfl:=oJ a
    try dsimp only[T4,Z4]at b
    obtain rfl:=oJ b
    exact aI rfl c
   ·exact L2 e ⟨(IntKind.i64.wrap (d+1)),rfl,rfl,c,(M0 _),a⟩
  ·obtain rfl:=oJ a
   try dsimp only[U0,Y0]at b
   obtain rfl:=oJ b
   exact aI rfl c
theorem J03(h:Hp)(w:Option Addr)(G x:Nat)(t:B0)(k:D0.R h [.slice w G x] t)(b:Int)(g:J0 b)(r:B0)(f:l00 t b=some r):
  Tr Tryz.prog 336 #[.slice w G x,.int .i64 b] h λv s=>∃(z:Option Addr) (F A:Nat),v = .slice z F A/\D0.R s [.slice z F A] r/\Sub h s:=by
 obtain⟨rfl,al⟩:=Sl.len k
 unfold l00 at f
 refine A2 (args:=[.slice w t.length x,.int .i64 b]) (fn:=Tryz.f336) rfl ?_
 obtain⟨y,V,f⟩:=z0 f
 refine eX { vars:=[6,7],boxes:=[],owns:=[0],fuel:=true } (eX (λvs os s=>∃ u j m i,vs.tail = [.bool u,.int .i64 j]/\os = [m]/\Sub h s/\J0 j/\F2 (Wp.int.R s) m i/\d5 t b (Z1 vs) u j i=some y) (eX (λ_ _=>0) (aI (eX T0 ⟨false,0,[],([]:B0),rfl,rfl,(Sub.refl _),(by decide),(show F2 (Wp.int.R h) ([]:List (List Value)) ([]:B0) from trivial),V⟩) ?_)))
 rintro _ _ m l d ⟨u,j,aC,i,⟨⟩,⟨⟩,e,af,c,a⟩
 replace a:d5 t b l u j i=some y:=a
 obtain _|l:=l
 ·cases a
 rw[d5.eq_2]at a
 refine ifB a (λZ a=>?_) λZ a=>?_
 ·refine ldI a (D0.mono e k) λaB ai a=>?_
  refine ifB a (λaa a=>?_) λaa a=>?_
  ·refine ldI a (D0.mono e k) λaz ag a=>?_
   refine ifB a (λW a=>?_) λW a=>?_
   ·obtain⟨ao,N,a⟩:=z0 a
    refine aI (P1 N (by first|rw[F2.length c,F2.length (show F2 (Wp.int.R d) ([[.int .i64 b]]:List (List Value)) [b] from⟨⟨rfl,g⟩,trivial⟩)]|exact congrArg (·+1) (F2.length c))) ?_
    refine ldI a (D0.mono e k) λn B a=>?_
    obtain⟨ap,O,a⟩:=z0 a
    refine aI (P1 O (by first|rw[F2.length (F2.append c (show F2 (Wp.int.R d) ([[.int .i64 b]]:List (List Value)) [b] from⟨⟨rfl,g⟩,trivial⟩)),F2.length (show F2 (Wp.int.R d) ([[.int .i64 n]]:List (List Value)) [n] from⟨⟨rfl,B⟩,trivial⟩)]|exact congrArg (·+1) (F2.length (F2.append c (show F2 (Wp.int.R d) ([[.int .i64 b]]:List (List Value)) [b] from⟨⟨rfl,g⟩,trivial⟩))))) ?_
    exact L2 l ⟨true,(IntKind.i64.wrap (j+1)),((m++([[.int .i64 b]]:List (List Value)))++([[.int .i64 n]]:List (List Value))),((i ++ [b]) ++ [n]),rfl,rfl,e,(M0 _),(F2.append (F2.append c (show F2 (Wp.int.R d) ([[.int .i64 b]]:List (List Value)) [b] from⟨⟨rfl,g⟩,trivial⟩)) (show F2 (Wp.int.R d) ([[.int .i64 n]]:List (List Value)) [n] from⟨⟨rfl,B⟩,trivial⟩)),a⟩
   ·refine ldI a (D0.mono e k) λo C a=>?_
    obtain⟨aq,P,a⟩:=z0 a
    refine aI (P1 P (by first|rw[F2.length c,F2.length (show F2 (Wp.int.R d) ([[.int .i64 o]]:List (List Value)) [o] from⟨⟨rfl,C⟩,trivial⟩)]|exact congrArg (·+1) (F2.length c))) ?_
    exact L2 l ⟨true,(IntKind.i64.wrap (j+1)),(m++([[.int .i64 o]]:List (List Value))),(i ++ [o]),rfl,rfl,e,(M0 _),(F2.append c (show F2 (Wp.int.R d) ([[.int .i64 o]]:List (List Value)) [o] from⟨⟨rfl,C⟩,trivial⟩)),a⟩
  ·refine ldI a (D0.mono e k) λaA ah a=>?_
   refine ifB a (λX a=>?_) λX a=>?_
   ·obtain⟨ar,Q,a⟩:=z0 a
    refine aI (P1 Q (by first|rw[F2.length c,F2.length (show F2 (Wp.int.R d) ([[.int .i64 b]]:List (List Value)) [b] from⟨⟨rfl,g⟩,trivial⟩)]|exact congrArg (·+1) (F2.length c))) ?_
    refine ldI a (D0.mono e k) λp D a=>?_
    obtain⟨au,S,a⟩:=z0 a
    refine aI (P1 S (by first|rw[F2.length (F2.append c (show F2 (Wp.int.R d) ([[.int .i64 b]]:List (List Value)) [b] from⟨⟨rfl,g⟩,trivial⟩)),F2.length (show F2 (Wp.int.R d) ([[.int .i64 p]]:List (List Value)) [p] from⟨⟨rfl,D⟩,trivial⟩)]|exact congrArg (·+1) (F2.length (F2.append c (show F2 (Wp.int.R d) ([[.int .i64 b]]:List (List Value)) [b] from⟨⟨rfl,g⟩,trivial⟩))))) ?_
    exact L2 l ⟨true,(IntKind.i64.wrap (j+1)),((m++([[.int .i64 b]]:List (List Value)))++([[.int .i64 p]]:List (List Value))),((i ++ [b]) ++ [p]),rfl,rfl,e,(M0 _),(F2.append (F2.append c (show F2 (Wp.int.R d) ([[.int .i64 b]]:List (List Value)) [b] from⟨⟨rfl,g⟩,trivial⟩)) (show F2 (Wp.int.R d) ([[.int .i64 p]]:List (List Value)) [p] from⟨⟨rfl,D⟩,trivial⟩)),a⟩
   ·refine ldI a (D0.mono e k) λq E a=>?_
    obtain⟨av,T,a⟩:=z0 a
    refine aI (P1 T (by first|rw[F2.length c,F2.length (show F2 (Wp.int.R d) ([[.int .i64 q]]:List (List Value)) [q] from⟨⟨rfl,E⟩,trivial⟩)]|exact congrArg (·+1) (F2.length c))) ?_
    exact L2 l ⟨u,(IntKind.i64.wrap (j+1)),(m++([[.int .i64 q]]:List (List Value))),(i ++ [q]),rfl,rfl,e,(M0 _),(F2.append c (show F2 (Wp.int.R d) ([[.int .i64 q]]:List (List Value)) [q] from⟨⟨rfl,E⟩,trivial⟩)),a⟩
 ·obtain rfl:=oJ a
  try dsimp only[U0,Y0]at f
  refine ifB f (λY f=>?_) λY f=>?_
  ·obtain⟨aw,U,f⟩:=z0 f
   refine aI (P1 U (by first|rw[F2.length c,F2.length (show F2 (Wp.int.R d) ([[.int .i64 b]]:List (List Value)) [b] from⟨⟨rfl,g⟩,trivial⟩)]|exact congrArg (·+1) (F2.length c))) ?_
   intro ax aj L
   obtain⟨H,J,rfl,ab,ad,am⟩:=Z0.out (r:=Wp.int.toRp) L (F2.append c (show F2 (Wp.int.R d) ([[.int .i64 b]]:List (List Value)) [b] from⟨⟨rfl,g⟩,trivial⟩))
   obtain rfl:=oJ f
   exact⟨H,((i ++ [b])).length,J,rfl,ab,(e.trans ad)⟩
  ·intro ay ak M
   obtain⟨I,K,rfl,ac,ae,an⟩:=Z0.out (r:=Wp.int.toRp) M c
   obtain rfl:=oJ f
   exact⟨I,i.length,K,rfl,ac,(e.trans ae)⟩
theorem K03(h:Hp)(i:Option Addr)(m j:Nat)(e:B0)(n:D0.R h [.slice i m j] e)(c:Int)(s:J0 c)(r:Bool)(b:m00 e c=some r):
  Tr Tryz.prog 246 #[.slice i m j,.int .i64 c] h λv k=>v = .bool r/\k=h:=by
 obtain⟨rfl,x⟩:=Sl.len n
 unfold m00 at b
 refine Tr.forget (A2 (args:=[.slice i e.length j,.int .i64 c]) (fn:=Tryz.f246) rfl ?_)
 obtain⟨l,o,b⟩:=z0 b
 refine eX { vars:=[5],boxes:=[],owns:=[],fuel:=true } (eX (λvs os k=>∃ d,vs.tail = [.int .i64 d]/\os = []/\Sub h k/\J0 d/\s00 e c (Z1 vs) d=some l) (eX (λ_ _=>0) (aI (eX T0 ⟨0,rfl,rfl,(Sub.refl _),(by decide),o⟩) ?_)))
 rintro _ f w ⟨d,⟨⟩,⟨⟩,g,t,a⟩
 replace a:s00 e c f d=some l:=a
 obtain _|f:=f
 ·cases a
 rw[s00.eq_2]at a
 refine ifB a (λp a=>?_) λp a=>?_
 ·refine ldI a (D0.mono g n) λy u a=>?_
  refine ifB a (λq a=>?_) λq a=>?_
  ·obtain rfl:=oJ a
   try dsimp only[T4,Z4]at b
   obtain rfl:=oJ b
   exact aI rfl g
  ·exact L2 f ⟨(IntKind.i64.wrap (d+1)),rfl,rfl,g,(M0 _),a⟩
 ·obtain rfl:=oJ a
  try dsimp only[U0,Y0]at b
  obtain rfl:=oJ b
  exact aI rfl g
theorem c0e(h:Hp)(u:List Value)(y:j0)(Z:C1.R h u y)(f:Int)(ai:J0 f)(g:Int)(aj:J0 g)(r:B0)(e:f02 y f g=some r):
  Tr Tryz.prog 297 #[.agg u.toArray,.int .i64 f,.int .i64 g] h λv l=>∃(s:Option Addr) (x t:Nat),v = .slice s x t/\D0.R l [.slice s x t] r/\Sub h l:=by
 obtain⟨X,Y,G,az,L,o,rfl,rfl,ag,ah,z⟩:=C0 Z
 obtain⟨rfl,ar⟩:=Sl.len z
 unfold f02 at e
 dsimp only at e
 refine A2 (args:=[.agg #[.int .i64 X,.int .i64 Y,.slice G o.length L],.int .i64 f,.int .i64 g]) (fn:=Tryz.f297) rfl ?_
 obtain⟨q,Q,e⟩:=z0 e
 refine eX { vars:=[7,8],boxes:=[],owns:=[],fuel:=true,pubs:=[7,10] } (eX (λvs os l=>∃(j:Option Addr) (n k:Nat) (d:B0) (b:Int),vs.tail = [.slice j n k,.int .i64 b]/\os = []/\Sub h l/\D0.R l [.slice j n k] d/\J0 b/\L4 o g f (Z1 vs) d b=some q) (eX (λ_ _=>0) ?_))
 intro aD ao f3
 obtain⟨K,P,rfl,ab,ae,ay⟩:=Z0.out (r:=Wp.int.toRp) f3 (show F2 (Wp.int.R h) ([]:List (List Value)) ([]:B0) from trivial)
 refine aI (eX T0 ⟨K,(([]:B0)).length,P,([]:B0),0,rfl,rfl,ae,ab,(by decide),Q⟩) ?_
 rintro _ _ c aq ⟨j,n,k,d,b,⟨⟩,⟨⟩,i,m,ak,a⟩
 replace a:L4 o g f c d b=some q:=a
 obtain _|c:=c
 ·cases a
 rw[L4.eq_2]at a
 obtain⟨rfl,au⟩:=Sl.len m
 refine ifB a (λS a=>?_) λS a=>?_
 ·refine ld a (I0.mono i z) λaH af aa a=>?_
  obtain⟨aJ,aK,aL,rfl,rfl,w,al,W⟩:=U1 aa
  try dsimp only at a
  refine ifB a (λT a=>?_) λT a=>?_
  ·refine trM a (J03 _ _ _ _ _ m _ W) ?_
   rintro D a aE am ⟨H,aA,M,rfl,p,C⟩
   obtain⟨rfl,av⟩:=Sl.len p
   refine ifB a (λU a=>?_) λU a=>?_
   ·refine trM a (J03 _ _ _ _ _ p _ w) ?_
    rintro E a aF an ⟨I,aB,N,rfl,A,ac⟩
    obtain⟨rfl,aw⟩:=Sl.len A
    exact L2 c ⟨I,E.length,N,E,(IntKind.i64.wrap (b+1)),rfl,rfl,((i.trans C).trans ac),A,(M0 _),a⟩
   ·exact L2 c ⟨H,D.length,M,D,(IntKind.i64.wrap (b+1)),rfl,rfl,(i.trans C),p,(M0 _),a⟩
  ·refine ifB a (λV a=>?_) λV a=>?_
   ·refine trM a (J03 _ _ _ _ _ m _ w) ?_
    rintro F a aG ap ⟨J,aC,O,rfl,B,ad⟩
    obtain⟨rfl,ax⟩:=Sl.len B
    exact L2 c ⟨J,F.length,O,F,(IntKind.i64.wrap (b+1)),rfl,rfl,(i.trans ad),B,(M0 _),a⟩
   ·exact L2 c ⟨j,d.length,k,d,(IntKind.i64.wrap (b+1)),rfl,rfl,i,m,(M0 _),a⟩
 ·obtain rfl:=oJ a
  try dsimp only[U0,Y0]at e
  obtain rfl:=oJ e
  exact⟨j,d.length,k,rfl,m,i⟩
theorem G00(h:Hp)(d:List Value)(e:j0)(w:C1.R h d e)(b:Int)(p:J0 b)(c:Int)(q:J0 c)(r:Int)(a:p6 e b c=some r):
  Tr Tryz.prog 214 #[.agg d.toArray,.int .i64 b,.int .i64 c] h λv l=>v = .int .i64 r/\l=h:=by
 obtain⟨s,t,j,D,k,u,rfl,rfl,n,o,f⟩:=C0 w
 obtain⟨rfl,B⟩:=Sl.len f
 unfold p6 at a
 dsimp only at a
 refine Tr.forget (A2 (args:=[.agg #[.int .i64 s,.int .i64 t,.slice j u.length k],.int .i64 b,.int .i64 c]) (fn:=Tryz.f214) rfl ?_)
 refine trM a (c0e _ _ _ (l0 n o f) _ p _ q) ?_
 rintro G a F A ⟨x,E,y,rfl,g,i⟩
 obtain⟨rfl,C⟩:=Sl.len g
 refine ifB a (λm a=>?_) λm a=>?_
 ·obtain rfl:=oJ a
  exact aI rfl i
 ·refine ldI a g λH z a=>?_
  obtain rfl:=oJ a
  exact aI rfl i
theorem I7(h:Hp)(s:List Value)(w:j0)(F:C1.R h s w)(r:Bool)(c:J4 w=some r):
  Tr Tryz.prog 293 #[.agg s.toArray] h λv f=>v = .bool r/\f=h:=by
 obtain⟨m,n,x,V,y,g,rfl,rfl,t,u,i⟩:=C0 F
 obtain⟨rfl,U⟩:=Sl.len i
 unfold J4 at c
 dsimp only at c
 refine Tr.forget (A2 (args:=[.agg #[.int .i64 m,.int .i64 n,.slice x g.length y]]) (fn:=Tryz.f293) rfl ?_)
 obtain⟨o,z,c⟩:=z0 c
 refine eX { vars:=[3],boxes:=[],owns:=[],fuel:=true } (eX (λvs os f=>∃ d,vs.tail = [.int .i64 d]/\os = []/\Sub h f/\J0 d/\r6 g m n (Z1 vs) d=some o) (eX (λ_ _=>0) (aI (eX T0 ⟨0,rfl,rfl,(Sub.refl _),(by decide),z⟩) ?_)))
 rintro _ l E ⟨d,⟨⟩,⟨⟩,e,K,b⟩
 replace b:r6 g m n l d=some o:=b
 obtain _|l:=l
 ·cases b
 rw[r6.eq_2]at b
 refine trG b (λq=>J8 _ _ _ (l0 t u (I0.mono e i))) λaf b=>?_
 refine ifB b (λD b=>?_) λD b=>?_
 ·obtain⟨p,A,b⟩:=z0 b
  refine eX { vars:=[4],boxes:=[],owns:=[],fuel:=true } (eX (λvs os f=>∃ u8,vs.tail = [.int .i64 u8]/\os = []/\Sub E f/\J0 u8/\g8 d g (Z1 vs) u8=some p) (eX (λ_ _=>0) (aI (eX T0 ⟨0,rfl,rfl,(Sub.refl _),(by decide),A⟩) ?_)))
  rintro _ k T ⟨u8,⟨⟩,⟨⟩,j,L,a⟩
  replace a:g8 d g k u8=some p:=a
  obtain _|k:=k
  ·cases a
  rw[g8.eq_2]at a
  refine ifB a (λB a=>?_) λB a=>?_
  ·refine ld a (I0.mono (e.trans j) i) λW I G a=>?_
   obtain⟨X,Y,Z,rfl,rfl,M,N,O⟩:=U1 G
   try dsimp only at a
   refine ld a (I0.mono (e.trans j) i) λaa J H a=>?_
   obtain⟨ab,ac,ad,rfl,rfl,P,Q,S⟩:=U1 H
   try dsimp only at a
   refine ifB a (λC a=>?_) λC a=>?_
   ·obtain rfl:=oJ a
    try dsimp only[T4,Z4]at b
    obtain rfl:=oJ b
    try dsimp only[T4,Z4]at c
    obtain rfl:=oJ c
    exact aI rfl (e.trans j)
   ·exact L2 k ⟨(IntKind.i64.wrap (u8+1)),rfl,rfl,j,(M0 _),a⟩
  ·obtain rfl:=oJ a
   try dsimp only[U0,Y0]at b
   exact L2 l ⟨(IntKind.i64.wrap (d+1)),rfl,rfl,(e.trans j),(M0 _),b⟩
 ·obtain rfl:=oJ b
  try dsimp only[U0,Y0]at c
  refine trV c (J8 _ _ _ (l0 t u (I0.mono e i))) λae c=>?_
  obtain rfl:=oJ c
  exact aI rfl e
theorem X08(h:Hp)(u:List Value)(A:j0)(N:C1.R h u A)(d:Int)(y:J0 d)(k:Option Addr)(z l:Nat)(e:B0)(B:D0.R h [.slice k z l] e)(r:Int×Bool)(b:x01 A d e=some r):
  Tr Tryz.prog 217 #[.agg u.toArray,.int .i64 d,.slice k z l] h λv m=>v = .tuple #[.int .i64 r.1,.bool r.2]/\m=h:=by
 obtain⟨n,j,C,T,D,o,rfl,rfl,w,x,p⟩:=C0 N
 obtain⟨rfl,Q⟩:=Sl.len p
 obtain⟨rfl,S⟩:=Sl.len B
 unfold x01 at b
 dsimp only at b
 refine Tr.forget (A2 (args:=[.agg #[.int .i64 n,.int .i64 j,.slice C o.length D],.int .i64 d,.slice k e.length l]) (fn:=Tryz.f217) rfl ?_)
 refine trV b (I7 _ _ _ (l0 w x p)) λV b=>?_
 refine trG b (λq=>C5 _ _ y 0 (by decide) (IntKind.i64.wrap (j-1)) (M0 _)) λX b=>?_
 refine ifB b (λI b=>?_) λI b=>?_
 ·obtain rfl:=oJ b
  exact aI rfl (Sub.refl _)
 ·obtain⟨t,G,b⟩:=z0 b
  refine eX { vars:=[1,8],boxes:=[],owns:=[],fuel:=true } (eX (λvs os m=>∃ g c,vs.tail = [.int .i64 g,.int .i64 c]/\os = []/\Sub h m/\J0 g/\J0 c/\i8 e n j o (Z1 vs) g c=some t) (eX (λ_ _=>0) (aI (eX T0 ⟨d,0,rfl,rfl,(Sub.refl _),y,(by decide),G⟩) ?_)))
  rintro _ _ i P ⟨g,c,⟨⟩,⟨⟩,f,K,O,a⟩
  replace a:i8 e n j o i g c=some t:=a
  obtain _|i:=i
  ·cases a
  rw[i8.eq_2]at a
  refine ifB a (λJ a=>?_) λJ a=>?_
  ·refine Or.inl (aI (aI (by kernel_rfl) (by kernel_rfl)) ?_)
   refine ldI a (D0.mono f B) λW L a=>?_
   obtain⟨s,F,a⟩:=z0 a
   refine eX (.int .i64 s) (aI (G00 _ _ _ (l0 w x (I0.mono f p)) _ K _ L _  F) ?_)
   obtain⟨U,E,a⟩:=z0 a
   have M:J0 s:=E2 E
   refine ifB a (λH a=>?_) λH a=>?_
   ·obtain rfl:=oJ a
    try dsimp only[T4,Z4]at b
    obtain rfl:=oJ b
    exact aI rfl f
   ·exact L2 i ⟨s,(IntKind.i64.wrap (c+1)),rfl,rfl,f,M,(M0 _),a⟩
  ·obtain rfl:=oJ a
   try dsimp only[U0,Y0]at b
   obtain rfl:=oJ b
   exact aI rfl f
theorem d0e(h:Hp)(u:List Value)(B:j0)(U:C1.R h u B)(g:Int)(ab:J0 g)(i:Int)(ac:J0 i)(r:B0)(c:g02 B g i=some r):
  Tr Tryz.prog 286 #[.agg u.toArray,.int .i64 g,.int .i64 i] h λv n=>∃(s:Option Addr) (A t:Nat),v = .slice s A t/\New D0 h n [.slice s A t] r:=by
 obtain⟨S,T,F,al,H,p,rfl,rfl,Z,aa,E⟩:=C0 U
 obtain⟨rfl,ai⟩:=Sl.len E
 unfold g02 at c
 dsimp only at c
 refine A2 (args:=[.agg #[.int .i64 S,.int .i64 T,.slice F p.length H],.int .i64 g,.int .i64 i]) (fn:=Tryz.f286) rfl ?_
 obtain⟨q,N,c⟩:=z0 c
 refine eX { vars:=[14],boxes:=[],owns:=[0],fuel:=true } (eX (λvs os n=>∃ d j e,vs.tail = [.int .i64 d]/\os = [j]/\Sub h n/\J0 d/\F2 (Wp.int.R n) j e/\D5 p i g (Z1 vs) d e=some q) (eX (λ_ _=>0) (aI (eX T0 ⟨0,[],([]:B0),rfl,rfl,(Sub.refl _),(by decide),(show F2 (Wp.int.R h) ([]:List (List Value)) ([]:B0) from trivial),N⟩) ?_)))
 rintro _ j f o ⟨d,aA,e,⟨⟩,⟨⟩,m,ad,b,a⟩
 replace a:D5 p i g f d e=some q:=a
 obtain _|f:=f
 ·cases a
 rw[D5.eq_2]at a
 refine ifB a (λP a=>?_) λP a=>?_
 ·refine ld a (I0.mono m E) λay X V a=>?_
  obtain⟨k,az,l,rfl,rfl,y,ae,z⟩:=U1 V
  try dsimp only at a
  refine ifB a (λQ a=>?_) λQ a=>?_
  ·obtain⟨ao,M,a⟩:=z0 a
   refine aI (P1 M (by first|rw[F2.length b,F2.length (show F2 (Wp.int.R o) ([[.int .i64 l]]:List (List Value)) [l] from⟨⟨rfl,z⟩,trivial⟩)]|exact congrArg (·+1) (F2.length b))) ?_
   exact L2 f ⟨(IntKind.i64.wrap (d+1)),(j++([[.int .i64 l]]:List (List Value))),(e ++ [l]),rfl,rfl,m,(M0 _),(F2.append b (show F2 (Wp.int.R o) ([[.int .i64 l]]:List (List Value)) [l] from⟨⟨rfl,z⟩,trivial⟩)),a⟩
  ·refine ifB a (λO a=>?_) λO a=>?_
   ·obtain⟨am,K,a⟩:=z0 a
    refine aI (P1 K (by first|rw[F2.length b,F2.length (show F2 (Wp.int.R o) ([[.int .i64 k]]:List (List Value)) [k] from⟨⟨rfl,y⟩,trivial⟩)]|exact congrArg (·+1) (F2.length b))) ?_
    exact L2 f ⟨(IntKind.i64.wrap (d+1)),(j++([[.int .i64 k]]:List (List Value))),(e ++ [k]),rfl,rfl,m,(M0 _),(F2.append b (show F2 (Wp.int.R o) ([[.int .i64 k]]:List (List Value)) [k] from⟨⟨rfl,y⟩,trivial⟩)),a⟩
   ·exact L2 f ⟨(IntKind.i64.wrap (d+1)),j,e,rfl,rfl,m,(M0 _),b,a⟩
 ·obtain rfl:=oJ a
  try dsimp only[U0,Y0]at c
  refine Or.inl ?_
  intro av af J
  obtain⟨an,L,c⟩:=z0 c
  refine Tr.mono (V0n _ J b (E2 L)) ?_
  rintro _ ag ⟨rfl,aw,w,C⟩
  obtain⟨W,Y,rfl,ap,ar,aj⟩:=Z0.out (r:=Wp.int.toRp) w C
  refine Tr.mono (W0n _ w C) ?_
  rintro _ ah ⟨ax,x,D⟩
  obtain⟨G,I,rfl,aq,au,ak⟩:=Z0.out (r:=Wp.int.toRp) x D
  obtain rfl:=oJ c
  exact⟨G,((X04 eqI (Y07 B00 e))).length,I,rfl,(New.from (Z0.newPlain (r:=Wp.int) x D (G05 _)) m)⟩
theorem d03(h:Hp)(d:List Value)(e:j0)(y:C1.R h d e)(b:Int)(q:J0 b)(c:Int)(s:J0 c)(r:Int)(a:j8 e b c=some r):
  Tr Tryz.prog 201 #[.agg d.toArray,.int .i64 b,.int .i64 c] h λv m=>v = .int .i64 r/\m=h:=by
 obtain⟨u,w,k,E,l,x,rfl,rfl,o,p,f⟩:=C0 y
 obtain⟨rfl,C⟩:=Sl.len f
 unfold j8 at a
 dsimp only at a
 refine Tr.forget (A2 (args:=[.agg #[.int .i64 u,.int .i64 w,.slice k x.length l],.int .i64 b,.int .i64 c]) (fn:=Tryz.f201) rfl ?_)
 refine trM a (d0e _ _ _ (l0 o p f) _ q _ s) ?_
 rintro H a G t ⟨z,F,A,rfl,j⟩
 have i:Sub h t:=j.sub
 have g:=j.r
 obtain⟨rfl,D⟩:=Sl.len g
 refine ifB a (λn a=>?_) λn a=>?_
 ·obtain rfl:=oJ a
  exact aI rfl i
 ·refine ldI a g λI B a=>?_
  obtain rfl:=oJ a
  exact aI rfl i
theorem C01(h:Hp)(p:List Value)(q:j0)(Q:C1.R h p q)(r:Bool)(c:E7 q=some r):
  Tr Tryz.prog 219 #[.agg p.toArray] h λv f=>v = .bool r/\f=h:=by
 obtain⟨N,O,y,al,z,m,rfl,rfl,K,L,k⟩:=C0 Q
 obtain⟨rfl,aj⟩:=Sl.len k
 unfold E7 at c
 dsimp only at c
 refine Tr.forget (A2 (args:=[.agg #[.int .i64 N,.int .i64 O,.slice y m.length z]]) (fn:=Tryz.f219) rfl ?_)
 refine trV c (t02 _ _ _ (l0 K L k)) λam c=>?_
 refine ifB c (λH c=>?_) λH c=>?_
 ·obtain rfl:=oJ c
  exact aI rfl (Sub.refl _)
 ·obtain⟨o,E,c⟩:=z0 c
  refine eX { vars:=[13],boxes:=[],owns:=[],fuel:=true } (eX (λvs os f=>∃ e,vs.tail = [.int .i64 e]/\os = []/\Sub h f/\J0 e/\n8 m (Z1 vs) e=some o) (eX (λ_ _=>0) (aI (eX T0 ⟨0,rfl,rfl,(Sub.refl _),(by decide),E⟩) ?_)))
  rintro _ j M ⟨e,⟨⟩,⟨⟩,g,ab,a⟩
  replace a:n8 m j e=some o:=a
  obtain _|j:=j
  ·cases a
  rw[n8.eq_2]at a
  refine ifB a (λI a=>?_) λI a=>?_
  ·refine ld a (I0.mono g k) λar Y T a=>?_
   obtain⟨t,u,w,rfl,rfl,af,ag,ah⟩:=U1 T
   try dsimp only at a
   obtain⟨x,C,a⟩:=z0 a
   obtain⟨P,U,A,B⟩:=Sl.cutI (r:=E1.toRp) (I0.mono g k) C
   refine aI P (eX U (aI A ?_))
   intro V J _
   obtain⟨W,Z,rfl,s⟩:=B V J
   have ak:=(Sl.len s).2
   obtain⟨n,D,a⟩:=z0 a
   refine eX { vars:=[24],boxes:=[],owns:=[],fuel:=true } (eX (λvs os f=>∃ d,vs.tail = [.int .i64 d]/\os = []/\Sub M f/\J0 d/\l8 x u t w (Z1 vs) d=some n) (eX (λ_ _=>0) (aI (eX T0 ⟨0,rfl,rfl,(Sub.refl _),(by decide),D⟩) ?_)))
   rintro _ i ai ⟨d,⟨⟩,⟨⟩,l,aa,b⟩
   replace b:l8 x u t w i d=some n:=b
   obtain _|i:=i
   ·cases b
   rw[l8.eq_2]at b
   refine ifB b (λF b=>?_) λF b=>?_
   ·refine ld b (I0.mono l s) λan X S b=>?_
    obtain⟨ao,ap,aq,rfl,rfl,ac,ad,ae⟩:=U1 S
    try dsimp only at b
    refine ifB b (λG b=>?_) λG b=>?_
    ·obtain rfl:=oJ b
     try dsimp only[T4,Z4]at a
     obtain rfl:=oJ a
     try dsimp only[T4,Z4]at c
     obtain rfl:=oJ c
     exact aI rfl (g.trans l)
    ·exact L2 i ⟨(IntKind.i64.wrap (d+1)),rfl,rfl,l,(M0 _),b⟩
   ·obtain rfl:=oJ b
    try dsimp only[U0,Y0]at a
    exact L2 j ⟨(IntKind.i64.wrap (e+1)),rfl,rfl,(g.trans l),(M0 _),a⟩
  ·obtain rfl:=oJ a
   try dsimp only[U0,Y0]at c
   obtain rfl:=oJ c
   exact aI rfl g
theorem q07(h:Hp)(q:List Value)(t:j0)(K:C1.R h q t)(d:Int)(G:J0 d)(j:Option Addr)(s k:Nat)(e:B0)(w:D0.R h [.slice j s k] e)(r:Int×Int)(b:E00 t d e=some r):
  Tr Tryz.prog 224 #[.agg q.toArray,.int .i64 d,.slice j s k] h λv l=>v = .tuple #[.int .i64 r.1,.int .i64 r.2]/\l=h:=by
 obtain⟨m,n,y,P,z,o,rfl,rfl,E,F,u⟩:=C0 K
 obtain⟨rfl,N⟩:=Sl.len u
 obtain⟨rfl,O⟩:=Sl.len w
 unfold E00 at b
 dsimp only at b
 refine Tr.forget (A2 (args:=[.agg #[.int .i64 m,.int .i64 n,.slice y o.length z],.int .i64 d,.slice j e.length k]) (fn:=Tryz.f224) rfl ?_)
 obtain⟨p,B,b⟩:=z0 b
 refine eX { vars:=[1,13],boxes:=[],owns:=[],fuel:=true } (eX (λvs os l=>∃ g c,vs.tail = [.int .i64 g,.int .i64 c]/\os = []/\Sub h l/\J0 g/\J0 c/\U6 e m n o (Z1 vs) g c=some p) (eX (λ_ _=>0) (aI (eX T0 ⟨d,0,rfl,rfl,(Sub.refl _),G,(by decide),B⟩) ?_)))
 rintro _ _ i M ⟨g,c,⟨⟩,⟨⟩,f,H,L,a⟩
 replace a:U6 e m n o i g c=some p:=a
 obtain _|i:=i
 ·cases a
 rw[U6.eq_2]at a
 refine ifB a (λD a=>?_) λD a=>?_
 ·refine ldI a (D0.mono f w) λS I a=>?_
  refine trV a (d03 _ _ _ (l0 E F (I0.mono f u)) _ H _ I) λx a=>?_
  obtain⟨Q,A,a⟩:=z0 a
  have J:J0 x:=E2 A
  refine ifB a (λC a=>?_) λC a=>?_
  ·obtain rfl:=oJ a
   try dsimp only[T4,Z4]at b
   obtain rfl:=oJ b
   exact aI rfl f
  ·exact L2 i ⟨x,(IntKind.i64.wrap (c+1)),rfl,rfl,f,J,(M0 _),a⟩
 ·obtain rfl:=oJ a
  try dsimp only[U0,Y0]at b
  obtain rfl:=oJ b
  exact aI rfl f
theorem J7(h:Hp)(d:List Value)(i:j0)(y:C1.R h d i)(r:j0)(a:Q4 i=some r):
  Tr Tryz.prog 132 #[.agg d.toArray] h λv s=>∃(f:Nat) (g c:Nat),v = .agg ([.int .i64 r.1,.int .i64 r.2.1,.slice (some ⟨f,0,none⟩) g c]:List Value).toArray/\New C1 h s [.int .i64 r.1,.int .i64 r.2.1,.slice (some ⟨f,0,none⟩) g c] r:=by
 obtain⟨w,x,l,D,m,j,rfl,rfl,t,u,k⟩:=C0 y
 obtain⟨rfl,B⟩:=Sl.len k
 unfold Q4 at a
 dsimp only at a
 refine A2 (args:=[.agg #[.int .i64 w,.int .i64 x,.slice l j.length m]]) (fn:=Tryz.f132) rfl ?_
 refine Or.inr (Or.inr (Or.inl (aI (aI (by kernel_rfl) (by kernel_rfl)) ?_)))
 refine Or.inr ?_
 refine Or.inr ?_
 refine Or.inr ?_
 refine Or.inr ?_
 refine Or.inl (eX 0 (aI (aI rfl rfl) ?_))
 refine aI trivial (aI (by first|exact trivial|exact rfl) ?_)
 obtain⟨z,o,b⟩:=Sl.rows (r:=E1.toRp) k
 refine eX z (aI o ?_)
 obtain⟨E,p,a⟩:=z0 a
 refine aI (P1 p (by first|rw[F2.length (show F2 (E1.R h) ([]:List (List Value)) ([]:K0) from trivial),F2.length b]|exact congrArg (·+1) (F2.length (show F2 (E1.R h) ([]:List (List Value)) ([]:K0) from trivial)))) ?_
 refine aI trivial (aI (by first|exact trivial|exact rfl) ?_)
 refine aI trivial (aI (by first|exact trivial|exact rfl) ?_)
 refine aI trivial (aI (by first|exact trivial|exact rfl) ?_)
 intro H A e
 obtain⟨q,n,rfl,F,G,C⟩:=Z0.outS (r:=E1.toRp) e (F2.append (show F2 (E1.R h) ([]:List (List Value)) ([]:K0) from trivial) b)
 obtain rfl:=oJ a
 exact⟨q,((([]:K0)++j)).length,n,rfl,(New.pair (New.int t) (New.pair (New.int u) (Z0.newPlain (r:=E1) e (F2.append (show F2 (E1.R h) ([]:List (List Value)) ([]:K0) from trivial) b) (Z09 _))))⟩
theorem R01(h:Hp)(I:Option Addr)(ac J:Nat)(G:K0)(q:I0.R h [.slice I ac J] G)(N:List Value)(ad:N0)(aF:E1.R h N ad)(r:K0)(g:L8 G ad=some r):
  Tr Tryz.prog 248 #[.slice I ac J,.agg N.toArray] h λv F=>∃(L:Option Addr) (ab M:Nat),v = .slice L ab M/\I0.R F [.slice L ab M] r/\Sub h F:=by
 obtain⟨rfl,aZ⟩:=Sl.len q
 obtain⟨b,c,d,rfl,rfl,i,j,k⟩:=U1 aF
 unfold L8 at g
 dsimp only at g
 refine A2 (args:=[.slice I G.length J,.agg #[.int .i64 b,.int .i64 c,.int .i64 d]]) (fn:=Tryz.f248) rfl ?_
 obtain⟨K,aw,g⟩:=z0 g
 refine eX { vars:=[6,7],boxes:=[],owns:=[0],fuel:=true } (eX (λvs os F=>∃ H n p m,vs.tail = [.bool H,.int .i64 n]/\os = [p]/\Sub h F/\J0 n/\F2 (E1.R F) p m/\i5 G b c d (Z1 vs) H n m=some K) (eX (λ_ _=>0) (aI (eX T0 ⟨false,0,[],([]:K0),rfl,rfl,(Sub.refl _),(by decide),(show F2 (E1.R h) ([]:List (List Value)) ([]:K0) from trivial),aw⟩) ?_)))
 rintro _ _ p o f ⟨H,n,bp,m,⟨⟩,⟨⟩,l,aV,e,a⟩
 replace a:i5 G b c d o H n m=some K:=a
 obtain _|o:=o
 ·cases a
 rw[i5.eq_2]at a
 refine ifB a (λaB a=>?_) λaB a=>?_
 ·refine Or.inl (aI (aI (by kernel_rfl) (by kernel_rfl)) ?_)
  refine ld a (I0.mono l q) λbl aU aL a=>?_
  obtain⟨bm,bn,bo,rfl,rfl,aC,aD,aE⟩:=U1 aL
  try dsimp only at a
  obtain⟨ae,av,a⟩:=z0 a
  refine eX (.int .i64 ae) (aI (U05 _ _ _ (M1 i j k) _ _ (M1 aC aD aE) _  av) ?_)
  obtain⟨a2,al,a⟩:=z0 a
  have aW:J0 ae:=E2 al
  refine ifB a (λax a=>?_) λax a=>?_
  ·refine ifB a (λay a=>?_) λay a=>?_
   ·obtain⟨a3,am,a⟩:=z0 a
    refine aI (P1 am (by first|rw[F2.length e,F2.length (show F2 (E1.R f) ([[.int .i64 b,.int .i64 c,.int .i64 d]]:List (List Value)) [(b,c,d)] from⟨(M1 i j k),trivial⟩)]|exact congrArg (·+1) (F2.length e))) ?_
    refine ld a (I0.mono l q) λbh aQ aG a=>?_
    obtain⟨s,t,u,rfl,rfl,O,P,Q⟩:=U1 aG
    try dsimp only at a
    obtain⟨a4,an,a⟩:=z0 a
    refine aI (P1 an (by first|rw[F2.length (F2.append e (show F2 (E1.R f) ([[.int .i64 b,.int .i64 c,.int .i64 d]]:List (List Value)) [(b,c,d)] from⟨(M1 i j k),trivial⟩)),F2.length (show F2 (E1.R f) ([[.int .i64 s,.int .i64 t,.int .i64 u]]:List (List Value)) [(s,t,u)] from⟨(M1 O P Q),trivial⟩)]|exact congrArg (·+1) (F2.length (F2.append e (show F2 (E1.R f) ([[.int .i64 b,.int .i64 c,.int .i64 d]]:List (List Value)) [(b,c,d)] from⟨(M1 i j k),trivial⟩))))) ?_
    exact L2 o ⟨true,(IntKind.i64.wrap (n+1)),((p++([[.int .i64 b,.int .i64 c,.int .i64 d]]:List (List Value)))++([[.int .i64 s,.int .i64 t,.int .i64 u]]:List (List Value))),((m ++ [(b,c,d)]) ++ [(s,t,u)]),rfl,rfl,l,(M0 _),(F2.append (F2.append e (show F2 (E1.R f) ([[.int .i64 b,.int .i64 c,.int .i64 d]]:List (List Value)) [(b,c,d)] from⟨(M1 i j k),trivial⟩)) (show F2 (E1.R f) ([[.int .i64 s,.int .i64 t,.int .i64 u]]:List (List Value)) [(s,t,u)] from⟨(M1 O P Q),trivial⟩)),a⟩
   ·refine ld a (I0.mono l q) λbi aR aH a=>?_
    obtain⟨w,x,y,rfl,rfl,S,T,U⟩:=U1 aH
    try dsimp only at a
    obtain⟨ba,ao,a⟩:=z0 a
    refine aI (P1 ao (by first|rw[F2.length e,F2.length (show F2 (E1.R f) ([[.int .i64 w,.int .i64 x,.int .i64 y]]:List (List Value)) [(w,x,y)] from⟨(M1 S T U),trivial⟩)]|exact congrArg (·+1) (F2.length e))) ?_
    exact L2 o ⟨true,(IntKind.i64.wrap (n+1)),(p++([[.int .i64 w,.int .i64 x,.int .i64 y]]:List (List Value))),(m ++ [(w,x,y)]),rfl,rfl,l,(M0 _),(F2.append e (show F2 (E1.R f) ([[.int .i64 w,.int .i64 x,.int .i64 y]]:List (List Value)) [(w,x,y)] from⟨(M1 S T U),trivial⟩)),a⟩
  ·refine ifB a (λaz a=>?_) λaz a=>?_
   ·obtain⟨bb,ap,a⟩:=z0 a
    refine aI (P1 ap (by first|rw[F2.length e,F2.length (show F2 (E1.R f) ([[.int .i64 b,.int .i64 c,.int .i64 d]]:List (List Value)) [(b,c,d)] from⟨(M1 i j k),trivial⟩)]|exact congrArg (·+1) (F2.length e))) ?_
    refine ld a (I0.mono l q) λbj aS aJ a=>?_
    obtain⟨z,A,B,rfl,rfl,V,W,X⟩:=U1 aJ
    try dsimp only at a
    obtain⟨bc,aq,a⟩:=z0 a
    refine aI (P1 aq (by first|rw[F2.length (F2.append e (show F2 (E1.R f) ([[.int .i64 b,.int .i64 c,.int .i64 d]]:List (List Value)) [(b,c,d)] from⟨(M1 i j k),trivial⟩)),F2.length (show F2 (E1.R f) ([[.int .i64 z,.int .i64 A,.int .i64 B]]:List (List Value)) [(z,A,B)] from⟨(M1 V W X),trivial⟩)]|exact congrArg (·+1) (F2.length (F2.append e (show F2 (E1.R f) ([[.int .i64 b,.int .i64 c,.int .i64 d]]:List (List Value)) [(b,c,d)] from⟨(M1 i j k),trivial⟩))))) ?_
    exact L2 o ⟨true,(IntKind.i64.wrap (n+1)),((p++([[.int .i64 b,.int .i64 c,.int .i64 d]]:List (List Value)))++([[.int .i64 z,.int .i64 A,.int .i64 B]]:List (List Value))),((m ++ [(b,c,d)]) ++ [(z,A,B)]),rfl,rfl,l,(M0 _),(F2.append (F2.append e (show F2 (E1.R f) ([[.int .i64 b,.int .i64 c,.int .i64 d]]:List (List Value)) [(b,c,d)] from⟨(M1 i j k),trivial⟩)) (show F2 (E1.R f) ([[.int .i64 z,.int .i64 A,.int .i64 B]]:List (List Value)) [(z,A,B)] from⟨(M1 V W X),trivial⟩)),a⟩
   ·refine ld a (I0.mono l q) λbk aT aK a=>?_
    obtain⟨C,D,E,rfl,rfl,Y,Z,aa⟩:=U1 aK
    try dsimp only at a
    obtain⟨bd,ar,a⟩:=z0 a
    refine aI (P1 ar (by first|rw[F2.length e,F2.length (show F2 (E1.R f) ([[.int .i64 C,.int .i64 D,.int .i64 E]]:List (List Value)) [(C,D,E)] from⟨(M1 Y Z aa),trivial⟩)]|exact congrArg (·+1) (F2.length e))) ?_
    exact L2 o ⟨H,(IntKind.i64.wrap (n+1)),(p++([[.int .i64 C,.int .i64 D,.int .i64 E]]:List (List Value))),(m ++ [(C,D,E)]),rfl,rfl,l,(M0 _),(F2.append e (show F2 (E1.R f) ([[.int .i64 C,.int .i64 D,.int .i64 E]]:List (List Value)) [(C,D,E)] from⟨(M1 Y Z aa),trivial⟩)),a⟩
 ·obtain rfl:=oJ a
  try dsimp only[U0,Y0]at g
  refine ifB g (λaA g=>?_) λaA g=>?_
  ·obtain⟨be,au,g⟩:=z0 g
   refine aI (P1 au (by first|rw[F2.length e,F2.length (show F2 (E1.R f) ([[.int .i64 b,.int .i64 c,.int .i64 d]]:List (List Value)) [(b,c,d)] from⟨(M1 i j k),trivial⟩)]|exact congrArg (·+1) (F2.length e))) ?_
   intro bf aX aj
   obtain⟨af,ah,rfl,aM,aO,a0⟩:=Z0.out (r:=E1.toRp) aj (F2.append e (show F2 (E1.R f) ([[.int .i64 b,.int .i64 c,.int .i64 d]]:List (List Value)) [(b,c,d)] from⟨(M1 i j k),trivial⟩))
   obtain rfl:=oJ g
   exact⟨af,((m ++ [(b,c,d)])).length,ah,rfl,aM,(l.trans aO)⟩
  ·intro bg aY ak
   obtain⟨ag,ai,rfl,aN,aP,a1⟩:=Z0.out (r:=E1.toRp) ak e
   obtain rfl:=oJ g
   exact⟨ag,m.length,ai,rfl,aN,(l.trans aP)⟩
theorem X0e(h:Hp)(m:List Value)(n:j0)(A:C1.R h m n)(g:Int)(J:J0 g)(r:Int)(f:y01 n g=some r):
  Tr Tryz.prog 318 #[.agg m.toArray,.int .i64 g] h λv j=>v = .int .i64 r/\j=h:=by
 obtain⟨y,z,o,X,p,k,rfl,rfl,H,I,i⟩:=C0 A
 obtain⟨rfl,W⟩:=Sl.len i
 unfold y01 at f
 dsimp only at f
 refine Tr.forget (A2 (args:=[.agg #[.int .i64 y,.int .i64 z,.slice o k.length p],.int .i64 g]) (fn:=Tryz.f318) rfl ?_)
 obtain⟨l,q,f⟩:=z0 f
 refine eX { vars:=[5,6],boxes:=[],owns:=[],fuel:=true } (eX (λvs os j=>∃ b c,vs.tail = [.int .i64 b,.int .i64 c]/\os = []/\Sub h j/\J0 b/\J0 c/\Z3 k g (Z1 vs) b c=some l) (eX (λ_ _=>0) (aI (eX T0 ⟨0,0,rfl,rfl,(Sub.refl _),(by decide),(by decide),q⟩) ?_)))
 rintro _ _ e V ⟨b,c,⟨⟩,⟨⟩,d,x,K,a⟩
 replace a:Z3 k g e b c=some l:=a
 obtain _|e:=e
 ·cases a
 rw[Z3.eq_2]at a
 refine ifB a (λu a=>?_) λu a=>?_
 ·refine ld a (I0.mono d i) λac F C a=>?_
  obtain⟨ad,ae,af,rfl,rfl,O,P,Q⟩:=U1 C
  try dsimp only at a
  refine ifB a (λw a=>?_) λw a=>?_
  ·refine ld a (I0.mono d i) λag G D a=>?_
   obtain⟨ah,ai,aj,rfl,rfl,S,T,U⟩:=U1 D
   try dsimp only at a
   refine ifB a (λs a=>?_) λs a=>?_
   ·exact L2 e ⟨(IntKind.i64.wrap ((IntKind.i64.wrap (b+1))+1)),(IntKind.i64.wrap (c+1)),rfl,rfl,d,(M0 _),(M0 _),a⟩
   ·exact L2 e ⟨(IntKind.i64.wrap (b+1)),(IntKind.i64.wrap (c+1)),rfl,rfl,d,(M0 _),(M0 _),a⟩
  ·refine ld a (I0.mono d i) λY E B a=>?_
   obtain⟨Z,aa,ab,rfl,rfl,L,M,N⟩:=U1 B
   try dsimp only at a
   refine ifB a (λt a=>?_) λt a=>?_
   ·exact L2 e ⟨(IntKind.i64.wrap (b+1)),(IntKind.i64.wrap (c+1)),rfl,rfl,d,(M0 _),(M0 _),a⟩
   ·exact L2 e ⟨b,(IntKind.i64.wrap (c+1)),rfl,rfl,d,x,(M0 _),a⟩
 ·obtain rfl:=oJ a
  try dsimp only[U0,Y0]at f
  obtain rfl:=oJ f
  exact aI rfl d
theorem N06(h:Hp)(k:List Value)(m:j0)(E:C1.R h k m)(l:List Value)(n:j0)(F:C1.R h l n)(r:Bool)(b:c00 m n=some r):
  Tr Tryz.prog 194 #[.agg k.toArray,.agg l.toArray] h λv f=>v = .bool r/\f=h:=by
 obtain⟨A,B,q,af,t,g,rfl,rfl,Q,S,o⟩:=C0 E
 obtain⟨rfl,ad⟩:=Sl.len o
 obtain⟨C,D,s,ag,u,i,rfl,rfl,T,U,p⟩:=C0 F
 obtain⟨rfl,ae⟩:=Sl.len p
 unfold c00 at b
 dsimp only at b
 refine Tr.forget (A2 (args:=[.agg #[.int .i64 A,.int .i64 B,.slice q g.length t],.agg #[.int .i64 C,.int .i64 D,.slice s i.length u]]) (fn:=Tryz.f194) rfl ?_)
 refine ifB b (λx b=>?_) λx b=>?_
 ·obtain rfl:=oJ b
  exact aI rfl (Sub.refl _)
 ·obtain⟨j,w,b⟩:=z0 b
  refine eX { vars:=[5],boxes:=[],owns:=[],fuel:=true } (eX (λvs os f=>∃ c,vs.tail = [.int .i64 c]/\os = []/\Sub h f/\J0 c/\o7 g i (Z1 vs) c=some j) (eX (λ_ _=>0) (aI (eX T0 ⟨0,rfl,rfl,(Sub.refl _),(by decide),w⟩) ?_)))
  rintro _ e ac ⟨c,⟨⟩,⟨⟩,d,V,a⟩
  replace a:o7 g i e c=some j:=a
  obtain _|e:=e
  ·cases a
  rw[o7.eq_2]at a
  refine ifB a (λy a=>?_) λy a=>?_
  ·refine Or.inl (aI (aI (by kernel_rfl) (by kernel_rfl)) ?_)
   refine ld a (I0.mono d o) λah O G a=>?_
   obtain⟨I,J,K,rfl,rfl,W,X,Y⟩:=U1 G
   try dsimp only at a
   refine ld a (I0.mono d p) λai P H a=>?_
   obtain⟨L,M,N,rfl,rfl,Z,aa,ab⟩:=U1 H
   try dsimp only at a
   refine eX (!eqE (I,J,K) (L,M,N)) (aI (D0k _ _ _ rfl _ _ _ _ _ _) ?_)
   refine ifB a (λz a=>?_) λz a=>?_
   ·obtain rfl:=oJ a
    try dsimp only[T4,Z4]at b
    obtain rfl:=oJ b
    exact aI rfl d
   ·exact L2 e ⟨(IntKind.i64.wrap (c+1)),rfl,rfl,d,(M0 _),a⟩
  ·obtain rfl:=oJ a
   try dsimp only[U0,Y0]at b
   obtain rfl:=oJ b
   exact aI rfl d
theorem I0b(h:Hp)(I:List Value)(L:j0)(aw:C1.R h I L)(f:Int)(J:J0 f)(r:B0)(b:l01 L f=some r):
  Tr Tryz.prog 334 #[.agg I.toArray,.int .i64 f] h λv e=>∃(G:Option Addr) (K H:Nat),v = .slice G K H/\D0.R e [.slice G K H] r/\Sub h e:=by
 obtain⟨av,M,U,aX,aa,t,rfl,rfl,aq,ar,B⟩:=C0 aw
 obtain⟨rfl,aP⟩:=Sl.len B
 unfold l01 at b
 dsimp only at b
 refine A2 (args:=[.agg #[.int .i64 av,.int .i64 M,.slice U t.length aa],.int .i64 f]) (fn:=Tryz.f334) rfl ?_
 refine trV b (J8 _ _ _ (l0 aq ar B)) λbb b=>?_
 refine trG b (λq=>C5 _ _ J 0 (by decide) (IntKind.i64.wrap (M-1)) (M0 _)) λbc b=>?_
 refine ifB b (λan b=>?_) λan b=>?_
 ·intro a4 aN ah
  obtain⟨Z,af,rfl,az,aD,aW⟩:=Z0.out (r:=Wp.int.toRp) ah (show F2 (Wp.int.R h) ([]:List (List Value)) ([]:B0) from trivial)
  obtain rfl:=oJ b
  exact⟨Z,(([]:B0)).length,af,rfl,az,aD⟩
 ·obtain⟨E,ai,b⟩:=z0 b
  refine eX { vars:=[5,6],boxes:=[],owns:=[],fuel:=true,pubs:=[5,22] } (eX (λvs os e=>∃(n:Option Addr) (z p:Nat) (k:B0) (m:Int),vs.tail = [.slice n z p,.int .i64 m]/\os = []/\Sub h e/\D0.R e [.slice n z p] k/\J0 m/\D6 t (Z1 vs) k m=some E) (eX (λ_ _=>0) ?_))
  intro ba aO ag
  obtain⟨Y,ae,rfl,ay,aC,aV⟩:=Z0.out (r:=Wp.int.toRp) ag (show F2 (Wp.int.R h) ([[.int .i64 f]]:List (List Value)) [f] from⟨⟨rfl,J⟩,trivial⟩)
  refine aI (eX T0 ⟨Y,([f]).length,ae,[f],0,rfl,rfl,aC,ay,(by decide),ai⟩) ?_
  rintro _ _ u au ⟨n,z,p,k,m,⟨⟩,⟨⟩,D,C,aF,c⟩
  replace c:D6 t u k m=some E:=c
  obtain _|u:=u
  ·cases c
  rw[D6.eq_2]at c
  obtain⟨rfl,aQ⟩:=Sl.len C
  refine ifB c (λak c=>?_) λak c=>?_
  ·obtain⟨F,aj,c⟩:=z0 c
   refine eX { vars:=[5,7],boxes:=[],owns:=[],fuel:=true } (eX (λvs os e=>∃ o A s g d,vs.tail = [.slice o A s,.int .i64 d]/\os = []/\Sub au e/\D0.R e [.slice o A s] g/\J0 d/\Y3 t (Z1 vs) g d=some F) (eX (λ_ _=>0) (aI (eX T0 ⟨n,k.length,p,k,0,rfl,rfl,(Sub.refl _),C,(by decide),aj⟩) ?_)))
   rintro _ _ i aJ ⟨o,A,s,g,d,⟨⟩,⟨⟩,l,j,aG,a⟩
   replace a:Y3 t i g d=some F:=a
   obtain _|i:=i
   ·cases a
   rw[Y3.eq_2]at a
   obtain⟨rfl,aR⟩:=Sl.len j
   refine ifB a (λal a=>?_) λal a=>?_
   ·refine ld a (I0.mono (D.trans l) B) λbd aE ax a=>?_
    obtain⟨be,bf,bg,rfl,rfl,x,aH,y⟩:=U1 ax
    try dsimp only at a
    refine trV a (K03 _ _ _ _ _ j _ x) λbh a=>?_
    refine ifB a (λam a=>?_) λam a=>?_
    ·refine trM a (J03 _ _ _ _ _ j _ y) ?_
     rintro Q a a1 aK ⟨V,aY,ab,rfl,w,P⟩
     obtain⟨rfl,aS⟩:=Sl.len w
     refine trV a (K03 _ _ _ _ _ w _ y) λbi a=>?_
     refine ifB a (λao a=>?_) λao a=>?_
     ·refine trM a (J03 _ _ _ _ _ w _ x) ?_
      rintro S a a2 aL ⟨W,aZ,ac,rfl,N,aA⟩
      obtain⟨rfl,aT⟩:=Sl.len N
      exact L2 i ⟨W,S.length,ac,S,(IntKind.i64.wrap (d+1)),rfl,rfl,((l.trans P).trans aA),N,(M0 _),a⟩
     ·exact L2 i ⟨V,Q.length,ab,Q,(IntKind.i64.wrap (d+1)),rfl,rfl,(l.trans P),w,(M0 _),a⟩
    ·refine trV a (K03 _ _ _ _ _ j _ y) λbj a=>?_
     refine ifB a (λap a=>?_) λap a=>?_
     ·refine trM a (J03 _ _ _ _ _ j _ x) ?_
      rintro T a a3 aM ⟨X,a0,ad,rfl,O,aB⟩
      obtain⟨rfl,aU⟩:=Sl.len O
      exact L2 i ⟨X,T.length,ad,T,(IntKind.i64.wrap (d+1)),rfl,rfl,(l.trans aB),O,(M0 _),a⟩
     ·exact L2 i ⟨o,g.length,s,g,(IntKind.i64.wrap (d+1)),rfl,rfl,l,j,(M0 _),a⟩
   ·obtain rfl:=oJ a
    try dsimp only[U0,Y0]at c
    exact L2 u ⟨o,g.length,s,g,(IntKind.i64.wrap (m+1)),rfl,rfl,(D.trans l),j,(M0 _),c⟩
  ·obtain rfl:=oJ c
   try dsimp only[U0,Y0]at b
   obtain rfl:=oJ b
   exact⟨n,k.length,p,rfl,C,D⟩
theorem k0b(h:Hp)(n:List Value)(t:j0)(E:C1.R h n t)(r:Int)(b:U02 t=some r):
  Tr Tryz.prog 294 #[.agg n.toArray] h λv f=>v = .int .i64 r/\f=h:=by
 obtain⟨g,i,x,M,y,j,rfl,rfl,o,p,k⟩:=C0 E
 obtain⟨rfl,K⟩:=Sl.len k
 unfold U02 at b
 dsimp only at b
 refine Tr.forget (A2 (args:=[.agg #[.int .i64 g,.int .i64 i,.slice x j.length y]]) (fn:=Tryz.f294) rfl ?_)
 refine trM b (I0b _ _ _ (l0 o p k) 0 (by decide)) ?_
 rintro w b P D ⟨G,N,H,rfl,u,l⟩
 obtain⟨rfl,L⟩:=Sl.len u
 obtain⟨m,A,b⟩:=z0 b
 refine eX { vars:=[4],boxes:=[],owns:=[],fuel:=true } (eX (λvs os f=>∃ c,vs.tail = [.int .i64 c]/\os = []/\Sub D f/\J0 c/\O9 i g j w (Z1 vs) c=some m) (eX (λ_ _=>0) (aI (eX T0 ⟨1,rfl,rfl,(Sub.refl _),(by decide),A⟩) ?_)))
 rintro _ e J ⟨c,⟨⟩,⟨⟩,d,s,a⟩
 replace a:O9 i g j w e c=some m:=a
 obtain _|e:=e
 ·cases a
 rw[O9.eq_2]at a
 refine ifB a (λC a=>?_) λC a=>?_
 ·refine trV a (X0e _ _ _ (l0 o p (I0.mono (l.trans d) k)) _ s) λF a=>?_
  obtain⟨O,z,a⟩:=z0 a
  have I:J0 F:=E2 z
  refine trG a (λq=>K03 _ _ _ _ _ (D0.mono d u) _ s) λQ a=>?_
  refine ifB a (λB a=>?_) λB a=>?_
  ·obtain rfl:=oJ a
   try dsimp only[T4,Z4]at b
   obtain rfl:=oJ b
   exact aI rfl (l.trans d)
  ·exact L2 e ⟨(IntKind.i64.wrap (c+1)),rfl,rfl,d,(M0 _),a⟩
 ·obtain rfl:=oJ a
  try dsimp only[U0,Y0]at b
  obtain rfl:=oJ b
  exact aI rfl (l.trans d)
theorem A03(h:Hp)(W:List Value)(aa:j0)(a4:C1.R h W aa)(I:Option Addr)(Z J:Nat)(s:B0)(F:D0.R h [.slice I Z J] s)(r:j0×Bool)(d:p7 aa s=some r):
  Tr Tryz.prog 320 #[.agg W.toArray,.slice I Z J] h λv e=>∃(V:List Value),v = .tuple #[.agg V.toArray,.bool r.2]/\C1.R e V r.1/\Sub h e:=by
 obtain⟨E,l,ai,b0,ao,y,rfl,rfl,C,K,z⟩:=C0 a4
 obtain⟨rfl,bV⟩:=Sl.len z
 obtain⟨rfl,a3⟩:=Sl.len F
 unfold p7 at d
 dsimp only at d
 refine A2 (args:=[.agg #[.int .i64 E,.int .i64 l,.slice ai y.length ao],.slice I s.length J]) (fn:=Tryz.f320) rfl ?_
 refine trV d (J8 _ _ _ (l0 C K z)) λcg d=>?_
 refine ifB d (λaR d=>?_) λaR d=>?_
 ·refine trM d (J7 _ _ _ (l0 C K z)) ?_
  rintro bo d ce a2 ⟨aL,b2,aq,rfl,P⟩
  have bi:Sub h a2:=P.sub
  have ad:=P.r
  obtain⟨bp,bq,br⟩:=bo
  dsimp only at d P ad
  obtain⟨_,_,_,_,_,_,av,aB,aY,aZ,ae⟩:=C0 ad
  cases av
  cases aB
  obtain⟨rfl,bY⟩:=Sl.len ae
  try dsimp only at d
  obtain rfl:=oJ d
  exact⟨([.int .i64 bp,.int .i64 bq,.slice (some ⟨aL,0,none⟩) br.length aq]),rfl,(l0 aY aZ ae),bi⟩
 ·obtain⟨b4,aC,d⟩:=z0 d
  refine aI (E2 aC) ?_
  obtain⟨U,aO,d⟩:=z0 d
  refine eX { vars:=[8],boxes:=[],owns:=[0],fuel:=true,kept:=[0] } (eX (λvs os e=>∃ u8 H o,vs.tail = [.int .i64 u8]/\os = [H]/\Sub h e/\J0 u8/\F2 (Wp.int.R e) H o/\j5 s l E y (Z1 vs) u8 o=some U) (eX (λ_ _=>0) (aI (eX T0 ⟨0,(List.replicate l.toNat ([.int .i64 0]:List Value)),(List.replicate l.toNat (0:Int)),rfl,rfl,(Sub.refl _),(by decide),(F2.rep (p:=Wp.int.R h) (a:=[.int .i64 0]) (b:=0) ⟨rfl,(by decide)⟩ (l.toNat)),aO⟩) ?_)))
  rintro _ H D w ⟨u8,cq,o,⟨⟩,⟨⟩,g,bC,k,c⟩
  replace c:j5 s l E y D u8 o=some U:=c
  obtain _|D:=D
  ·cases c
  rw[j5.eq_2]at c
  refine ifB c (λaP c=>?_) λaP c=>?_
  ·refine Or.inl (aI (aI (by kernel_rfl) (by kernel_rfl)) ?_)
   refine ldI c (D0.mono g F) λch aU c=>?_
   obtain⟨bj,aD,c⟩:=z0 c
   refine eX (.bool bj) (aI (C5 _ _ aU 0 (by decide) (IntKind.i64.wrap (l-1)) (M0 _) _  aD) ?_)
   refine ldG c (D0.mono g F) λci bD c=>?_
   obtain⟨cj,aE,c⟩:=z0 c
   obtain⟨bs,X,ba⟩:=F05 k aE (n0g w)
   refine aI (λq=>(X q).1) ?_
   obtain⟨rfl,bE⟩:=ba
   refine eX _ (aI (λq=>(X q).2) ?_)
   refine ifB c (λaQ c=>?_) λaQ c=>?_
   ·refine trM c (J7 _ _ _ (l0 C K (I0.mono g z))) ?_
    rintro bk c cd a0 ⟨aF,b1,ap,rfl,O⟩
    have bh:Sub w a0:=O.sub
    have ab:=O.r
    obtain⟨bl,bm,bn⟩:=bk
    dsimp only at c O ab
    obtain⟨_,_,_,_,_,_,au,aA,aV,aW,ac⟩:=C0 ab
    cases au
    cases aA
    obtain⟨rfl,bX⟩:=Sl.len ac
    try dsimp only at c
    obtain rfl:=oJ c
    try dsimp only[T4,Z4]at d
    obtain rfl:=oJ d
    exact⟨([.int .i64 bl,.int .i64 bm,.slice (some ⟨aF,0,none⟩) bn.length ap]),rfl,(l0 aV aW ac),(g.trans bh)⟩
   ·refine ldI c (D0.mono g F) λQ bF c=>?_
    obtain⟨ck,aG,c⟩:=z0 c
    obtain⟨ak,bt,aw,bb⟩:=J5 k aG
    refine aI ak ?_
    obtain⟨rfl,bG⟩:=bb
    refine eX _ (aI aw ?_)
    exact L2 D ⟨(IntKind.i64.wrap (u8+1)),(H.set Q.toNat [.int .i64 (IntKind.i64.wrap (u8+1))]),(o.set Q.toNat (IntKind.i64.wrap (u8+1))),rfl,rfl,g,(M0 _),(F2.set (p:=Wp.int.R w) (a:=[.int .i64 (IntKind.i64.wrap (u8+1))]) (b:=(IntKind.i64.wrap (u8+1))) ⟨rfl,(M0 _)⟩ Q.toNat k),c⟩
  ·obtain rfl:=oJ c
   try dsimp only[U0,Y0]at d
   obtain⟨T,aN,d⟩:=z0 d
   refine eX { vars:=[9],boxes:=[2],owns:=[],fuel:=true } (eX (λvs os e=>∃ m i j t N u n,vs.tail = [.int .i64 m,.int .i64 i,.int .i64 j,.slice t N u]/\os = []/\Sub w e/\J0 m/\J0 i/\J0 j/\I0.R e [.slice t N u] n/\C4 y o (Z1 vs) m i j n=some T) (eX (λ_ _=>0) (aI (eX T0 ⟨0,E,((s.length:Nat):Int),none,0,0,[],rfl,rfl,(Sub.refl _),(by decide),C,(n0r a3),(b09 E1 w),aN⟩) ?_)))
   rintro _ _ _ _ x a1 ⟨m,i,j,t,N,u,n,⟨⟩,⟨⟩,f,bB,L,M,G,c⟩
   replace c:C4 y o x m i j n=some T:=c
   obtain _|x:=x
   ·cases c
   rw[C4.eq_2]at c
   obtain⟨rfl,bW⟩:=Sl.len G
   refine ifB c (λaS c=>?_) λaS c=>?_
   ·refine ld c (I0.mono (g.trans f) z) λcl bu bc c=>?_
    obtain⟨cm,S,cn,rfl,rfl,bH,aX,bI⟩:=U1 bc
    try dsimp only at c
    obtain⟨co,aH,c⟩:=z0 c
    obtain⟨al,bv,ax,bd⟩:=J5 (F2.up (r:=Wp.int.toRp) f k) aH
    refine aI al ?_
    obtain⟨rfl,bJ⟩:=bd
    refine eX _ (aI ax ?_)
    obtain⟨cp,aJ,c⟩:=z0 c
    obtain⟨bx,Y,be⟩:=F05 (F2.up (r:=Wp.int.toRp) f k) aJ (n0g a1)
    refine aI (λq=>(Y q).1) ?_
    obtain⟨rfl,bK⟩:=be
    refine eX _ (aI (λq=>(Y q).2) ?_)
    refine ifB c (λaT c=>?_) λaT c=>?_
    ·refine Or.inr (Or.inr (Or.inl (aI (aI (by kernel_rfl) (by kernel_rfl)) ?_)))
     obtain⟨A,aK,c⟩:=z0 c
     obtain⟨am,bz,ay,bf⟩:=J5 (F2.up (r:=Wp.int.toRp) f k) aK
     obtain⟨rfl,bL⟩:=bf
     refine Or.inl ?_
     apply eX
     refine aI ?_ ?_
     ·intro bN b5
      exact aI am (aI rfl (aI rfl rfl))
     refine Or.inl (eX (.val (.int .i64 A)) (aI ?_ ?_))
     ·intro bO b6
      exact eX _ (aI ay (aI rfl (aI rfl rfl)))
     refine Or.inl (eX (.val (.int .i64 (IntKind.i64.wrap (A-1)))) (aI ?_ ?_))
     ·intro bP b7
      exact aI rfl (aI rfl rfl)
     obtain⟨B,aM,c⟩:=z0 c
     obtain⟨an,bA,az,bg⟩:=J5 (F2.up (r:=Wp.int.toRp) f k) aM
     obtain⟨rfl,bM⟩:=bg
     refine Or.inl ?_
     apply eX
     refine aI ?_ ?_
     ·intro bQ b8
      exact aI an (aI rfl (aI rfl rfl))
     refine Or.inl (eX (.val (.int .i64 B)) (aI ?_ ?_))
     ·intro bR ca
      exact eX _ (aI az (aI rfl (aI rfl rfl)))
     refine Or.inl (eX (.val (.int .i64 (IntKind.i64.wrap (B-1)))) (aI ?_ ?_))
     ·intro bS cb
      exact aI rfl (aI rfl rfl)
     refine Or.inl (eX (.agg [.val (.int .i64 (IntKind.i64.wrap (A-1))),.val (.int .i64 S),.val (.int .i64 (IntKind.i64.wrap (B-1)))]) (aI ?_ ?_))
     ·intro bT cc
      exact aI rfl (aI rfl rfl)
     refine Or.inr ?_
     refine Or.inr ?_
     refine Or.inl (eX 1 (aI (aI rfl rfl) ?_))
     refine trM c (R01 _ _ _ _ _ G [.int .i64 (IntKind.i64.wrap (A-1)),.int .i64 S,.int .i64 (IntKind.i64.wrap (B-1))] ((IntKind.i64.wrap (A-1)),S,(IntKind.i64.wrap (B-1))) (M1 (M0 _) aX (M0 _))) ?_
     rintro ah c cf bU ⟨aj,b3,ar,rfl,af,ag⟩
     obtain⟨rfl,bZ⟩:=Sl.len af
     refine aI (aI rfl ag) (aI (by first|exact trivial|exact rfl) ?_)
     refine aI trivial (aI (by first|exact trivial|exact rfl) ?_)
     exact L2 x ⟨(IntKind.i64.wrap (m+1)),i,j,aj,ah.length,ar,ah,rfl,rfl,(f.trans ag),(M0 _),L,M,af,c⟩
    ·exact L2 x ⟨(IntKind.i64.wrap (m+1)),i,j,t,n.length,u,n,rfl,rfl,f,(M0 _),L,M,G,c⟩
   ·obtain rfl:=oJ c
    try dsimp only[U0,Y0]at d
    obtain rfl:=oJ d
    exact⟨([.int .i64 i,.int .i64 j,.slice t n.length u]),rfl,(l0 L M G),(g.trans f)⟩
theorem L03(h:Hp)(e:Int)(C:J0 e)(r:B0)(i:M7 e=some r):
  Tr Tryz.prog 319 #[.int .i64 e] h λv g=>∃(n:Option Addr) (p o:Nat),v = .slice n p o/\D0.R g [.slice n p o] r/\Sub h g:=by
 unfold M7 at i
 refine A2 (args:=[.int .i64 e]) (fn:=Tryz.f319) rfl ?_
 obtain⟨m,y,i⟩:=z0 i
 refine eX { vars:=[4],boxes:=[],owns:=[0],fuel:=true } (eX (λvs os g=>∃ a l f,vs.tail = [.int .i64 a]/\os = [l]/\Sub h g/\J0 a/\F2 (Wp.int.R g) l f/\r7 e (Z1 vs) a f=some m) (eX (λ_ _=>0) (aI (eX T0 ⟨1,[],([]:B0),rfl,rfl,(Sub.refl _),(by decide),(show F2 (Wp.int.R h) ([]:List (List Value)) ([]:B0) from trivial),y⟩) ?_)))
 rintro _ l k d ⟨a,I,f,⟨⟩,⟨⟩,q,j,c,b⟩
 replace b:r7 e k a f=some m:=b
 obtain _|k:=k
 ·cases b
 rw[r7.eq_2]at b
 refine ifB b (λz b=>?_) λz b=>?_
 ·obtain⟨F,w,b⟩:=z0 b
  refine aI (P1 w (by first|rw[F2.length c,F2.length (show F2 (Wp.int.R d) ([[.int .i64 a]]:List (List Value)) [a] from⟨⟨rfl,j⟩,trivial⟩)]|exact congrArg (·+1) (F2.length c))) ?_
  obtain⟨G,x,b⟩:=z0 b
  refine aI (P1 x (by first|rw[F2.length (F2.append c (show F2 (Wp.int.R d) ([[.int .i64 a]]:List (List Value)) [a] from⟨⟨rfl,j⟩,trivial⟩)),F2.length (show F2 (Wp.int.R d) ([[.int .i64 (IntKind.i64.wrap (0-a))]]:List (List Value)) [(IntKind.i64.wrap (0-a))] from⟨⟨rfl,(M0 _)⟩,trivial⟩)]|exact congrArg (·+1) (F2.length (F2.append c (show F2 (Wp.int.R d) ([[.int .i64 a]]:List (List Value)) [a] from⟨⟨rfl,j⟩,trivial⟩))))) ?_
  exact L2 k ⟨(IntKind.i64.wrap (a+1)),((l++([[.int .i64 a]]:List (List Value)))++([[.int .i64 (IntKind.i64.wrap (0-a))]]:List (List Value))),((f ++ [a]) ++ [(IntKind.i64.wrap (0-a))]),rfl,rfl,q,(M0 _),(F2.append (F2.append c (show F2 (Wp.int.R d) ([[.int .i64 a]]:List (List Value)) [a] from⟨⟨rfl,j⟩,trivial⟩)) (show F2 (Wp.int.R d) ([[.int .i64 (IntKind.i64.wrap (0-a))]]:List (List Value)) [(IntKind.i64.wrap (0-a))] from⟨⟨rfl,(M0 _)⟩,trivial⟩)),b⟩
 ·obtain rfl:=oJ b
  try dsimp only[U0,Y0]at i
  intro H D u
  obtain⟨s,t,rfl,A,B,E⟩:=Z0.out (r:=Wp.int.toRp) u c
  obtain rfl:=oJ i
  exact⟨s,f.length,t,rfl,A,(q.trans B)⟩
theorem d09(h:Hp)(G:List Value)(K:j0)(aq:C1.R h G K)(r:B0)(c:V9 K=some r):
  Tr Tryz.prog 335 #[.agg G.toArray] h λv d=>∃(E:Option Addr) (J F:Nat),v = .slice E J F/\D0.R d [.slice E J F] r/\Sub h d:=by
 obtain⟨n,o,M,aR,Q,p,rfl,rfl,y,H,A⟩:=C0 aq
 obtain⟨rfl,aM⟩:=Sl.len A
 unfold V9 at c
 dsimp only at c
 refine A2 (args:=[.agg #[.int .i64 n,.int .i64 o,.slice M p.length Q]]) (fn:=Tryz.f335) rfl ?_
 refine trV c (I7 _ _ _ (l0 y H A)) λa1 c=>?_
 refine ifB c (λah c=>?_) λah c=>?_
 ·intro aY aK X
  obtain⟨O,T,rfl,aw,ay,aQ⟩:=Z0.out (r:=Wp.int.toRp) X (show F2 (Wp.int.R h) ([]:List (List Value)) ([]:B0) from trivial)
  obtain rfl:=oJ c
  exact⟨O,(([]:B0)).length,T,rfl,aw,ay⟩
 ·refine trM c (L03 _ _ y) ?_
  rintro w c a0 ao ⟨aA,aS,aD,rfl,L,B⟩
  obtain⟨rfl,aN⟩:=Sl.len L
  obtain⟨C,ae,c⟩:=z0 c
  refine eX { vars:=[5],boxes:=[],owns:=[0],fuel:=true } (eX (λvs os d=>∃ e s k,vs.tail = [.int .i64 e]/\os = [s]/\Sub ao d/\J0 e/\F2 (Wp.int.R d) s k/\i6 w n o p (Z1 vs) e k=some C) (eX (λ_ _=>0) (aI (eX T0 ⟨0,([[.int .i64 0]]:List (List Value)),[0],rfl,rfl,(Sub.refl _),(by decide),(F2.up (r:=Wp.int.toRp) B (show F2 (Wp.int.R h) ([[.int .i64 0]]:List (List Value)) [0] from⟨⟨rfl,(by decide)⟩,trivial⟩)),ae⟩) ?_)))
  rintro _ s t an ⟨e,a4,k,⟨⟩,⟨⟩,u,aG,x,b⟩
  replace b:i6 w n o p t e k=some C:=b
  obtain _|t:=t
  ·cases b
  rw[i6.eq_2]at b
  obtain⟨ap,Y,b⟩:=z0 b
  obtain rfl:s.length=ap:=(F2.length x).trans (oJ Y)
  obtain⟨aT,aF,b⟩:=z0 b
  refine ifB b (λag b=>?_) λag b=>?_
  ·obtain⟨D,af,b⟩:=z0 b
   refine eX { vars:=[6],boxes:=[],owns:=[0],fuel:=true } (eX (λvs os d=>∃ i l j,vs.tail = [.int .i64 i]/\os = [l]/\Sub an d/\J0 i/\F2 (Wp.int.R d) l j/\d4 w e n o p (Z1 vs) i j=some D) (eX (λ_ _=>0) (aI (eX T0 ⟨0,s,k,rfl,rfl,(Sub.refl _),(by decide),x,af⟩) ?_)))
   rintro _ l m I ⟨i,ba,j,⟨⟩,⟨⟩,q,aH,g,a⟩
   replace a:d4 w e n o p m i j=some D:=a
   obtain _|m:=m
   ·cases a
   rw[d4.eq_2]at a
   refine ifB a (λai a=>?_) λai a=>?_
   ·refine Or.inl (aI (aI (by kernel_rfl) (by kernel_rfl)) ?_)
    obtain⟨a2,ab,a⟩:=z0 a
    obtain⟨P,aC,U,ar⟩:=J5 g ab
    refine aI P ?_
    obtain⟨rfl,al⟩:=ar
    refine eX _ (aI U ?_)
    refine ldI a (D0.mono (u.trans q) L) λa3 am a=>?_
    obtain⟨f,ac,a⟩:=z0 a
    refine eX (.int .i64 f) (aI (G00 _ _ _ (l0 y H (I0.mono ((B.trans u).trans q) A)) _ al _ am _  ac) ?_)
    obtain⟨aU,Z,a⟩:=z0 a
    have z:J0 f:=E2 Z
    obtain⟨az,ad,a⟩:=z0 a
    refine eX (.bool az) (aI ?_ ?_)
    ·intro ak
     intro aX aJ V
     obtain⟨aB,aE,rfl,au,aW,aO⟩:=Z0.out (r:=Wp.int.toRp) V g
     exact K03 _ _ _ _ _ au _ z _ (T7 ad ak)
    refine ifB a (λaj a=>?_) λaj a=>?_
    ·obtain⟨aV,aa,a⟩:=z0 a
     refine aI (P1 aa (by first|rw[F2.length g,F2.length (show F2 (Wp.int.R I) ([[.int .i64 f]]:List (List Value)) [f] from⟨⟨rfl,z⟩,trivial⟩)]|exact congrArg (·+1) (F2.length g))) ?_
     exact L2 m ⟨(IntKind.i64.wrap (i+1)),(l++([[.int .i64 f]]:List (List Value))),(j ++ [f]),rfl,rfl,q,(M0 _),(F2.append g (show F2 (Wp.int.R I) ([[.int .i64 f]]:List (List Value)) [f] from⟨⟨rfl,z⟩,trivial⟩)),a⟩
    ·exact L2 m ⟨(IntKind.i64.wrap (i+1)),l,j,rfl,rfl,q,(M0 _),g,a⟩
   ·obtain rfl:=oJ a
    try dsimp only[U0,Y0]at b
    exact L2 t ⟨(IntKind.i64.wrap (e+1)),l,j,rfl,rfl,(u.trans q),(M0 _),g,b⟩
  ·obtain rfl:=oJ b
   try dsimp only[U0,Y0]at c
   intro aZ aL W
   obtain⟨N,S,rfl,av,ax,aP⟩:=Z0.out (r:=Wp.int.toRp) W x
   obtain rfl:=oJ c
   exact⟨N,k.length,S,rfl,av,((B.trans u).trans ax)⟩
theorem Z04(h:Hp)(i:List Value)(k:j0)(K:C1.R h i k)(r:j0)(a:C8 k=some r):
  Tr Tryz.prog 295 #[.agg i.toArray] h λv j=>∃(g:List Value),v = .agg g.toArray/\C1.R j g r/\Sub h j:=by
 obtain⟨H,I,q,ae,t,J,rfl,rfl,d,e,b⟩:=C0 K
 obtain⟨rfl,aa⟩:=Sl.len b
 unfold C8 at a
 dsimp only at a
 refine A2 (args:=[.agg #[.int .i64 H,.int .i64 I,.slice q J.length t]]) (fn:=Tryz.f295) rfl ?_
 refine trM a (d09 _ _ _ (l0 d e b)) ?_
 rintro al a aj F ⟨W,af,Y,rfl,l,c⟩
 obtain⟨rfl,ab⟩:=Sl.len l
 refine ifB a (λA a=>?_) λA a=>?_
 ·refine trM a (J7 _ _ _ (l0 d e (I0.mono c b))) ?_
  rintro N a ak G ⟨z,ag,u,rfl,f⟩
  have L:Sub F G:=f.sub
  have m:=f.r
  obtain⟨O,P,Q⟩:=N
  dsimp only at a f m
  obtain⟨_,_,_,_,_,_,x,y,B,C,n⟩:=C0 m
  cases x
  cases y
  obtain⟨rfl,ac⟩:=Sl.len n
  try dsimp only at a
  obtain rfl:=oJ a
  exact⟨([.int .i64 O,.int .i64 P,.slice (some ⟨z,0,none⟩) Q.length u]),rfl,(l0 B C n),(c.trans L)⟩
 ·refine trM a (A03 _ _ _ (l0 d e (I0.mono c b)) _ _ _ _ l) ?_
  rintro S a ai Z ⟨X,rfl,o,M⟩
  obtain⟨am,an⟩:=S
  dsimp only at a o
  obtain⟨T,U,s,ah,w,V,rfl,rfl,D,E,p⟩:=C0 o
  obtain⟨rfl,ad⟩:=Sl.len p
  try dsimp only at a
  obtain rfl:=oJ a
  exact⟨([.int .i64 T,.int .i64 U,.slice s V.length w]),rfl,(l0 D E p),(c.trans M)⟩
theorem T0h(h:Hp)(m:List Value)(n:j0)(Q:C1.R h m n)(r:Bool)(a:X01 n=some r):
  Tr Tryz.prog 211 #[.agg m.toArray] h λv G=>v = .bool r/\G=h:=by
 obtain⟨N,O,t,ar,w,P,rfl,rfl,g,i,c⟩:=C0 Q
 obtain⟨rfl,ap⟩:=Sl.len c
 unfold X01 at a
 dsimp only at a
 refine Tr.forget (A2 (args:=[.agg #[.int .i64 N,.int .i64 O,.slice t P.length w]]) (fn:=Tryz.f211) rfl ?_)
 refine Or.inr (Or.inr (Or.inr (Or.inl (aI (aI (by kernel_rfl) (by kernel_rfl)) ?_))))
 obtain⟨Z,C,a⟩:=z0 a
 refine Or.inl (eX (.val (.bool Z)) (aI ?_ ?_))
 ·intro al X
  exact Tr.val (I7 _ _ _ (l0 g i (I0.mono X c)) _ C) (aI rfl (aI rfl rfl))
 obtain⟨l,F,a⟩:=z0 a
 obtain⟨av,B,a⟩:=z0 a
 have ah:J0 l:=E2 B
 refine Or.inl (eX (.val (.int .i64 l)) (aI ?_ ?_))
 ·intro am Y b
  exact Tr.val (k0b _ _ _ (l0 g i (I0.mono Y c)) _ (T7 F b)) (aI rfl (aI rfl rfl))
 refine Or.inl (eX (.val (.bool (decide (l<0)))) (aI ?_ ?_))
 ·intro an aw b
  exact aI rfl (aI rfl rfl)
 obtain⟨aa,D,a⟩:=z0 a
 obtain⟨p,s,j⟩:=aa
 try dsimp only at a
 refine Or.inr (eX (λv H=>∃(d:Option Addr) (f:Nat),v = .agg #[.int .i64 p,.int .i64 s,.slice d j.length f]/\J0 p/\J0 s/\I0.R H [.slice d j.length f] j/\j.length<=9223372036854775807) (aI (λv af ag k q=>by obtain⟨d,f,e,z,A,f2,f3⟩:=q;exact⟨d,f,e,z,A,I0.mono k f2,f3⟩) (aI ?_ ?_)))
 ·intro ai U b
  refine Tr.mono (Z04 _ _ _ (l0 g i (I0.mono U c)) _ (T7 D b)) ?_
  rintro _ ao ⟨ad,rfl,S,k⟩
  obtain⟨ax,ay,u,au,x,az,rfl,y,I,J,o⟩:=C0 S
  cases y
  obtain⟨rfl,M⟩:=Sl.len o
  exact aI M5 (aI k ⟨u,x,rfl,I,J,o,M⟩)
 obtain⟨ab,E,a⟩:=z0 a
 refine Or.inl (eX (.val (.bool ab)) (aI ?_ ?_))
 ·intro aj V b
  rintro _ ⟨ac,ae,rfl,K,L,T,aq⟩
  exact Tr.val (N06 _ _ _ (l0 K L T) _ _ (l0 g i (I0.mono V c)) _ (T7 E b)) (aI rfl (aI rfl rfl))
 intro ak W
 obtain rfl:=oJ a
 exact aI rfl W
theorem z8(h:Hp)(b:List Value)(c:j0)(n:C1.R h b c)(r:Bool)(a:L3 c=some r):
  Tr Tryz.prog 103 #[.agg b.toArray] h λv g=>v = .bool r/\g=h:=by
 obtain⟨k,l,e,p,f,m,rfl,rfl,i,j,d⟩:=C0 n
 obtain⟨rfl,o⟩:=Sl.len d
 unfold L3 at a
 dsimp only at a
 refine Tr.forget (A2 (args:=[.agg #[.int .i64 k,.int .i64 l,.slice e m.length f]]) (fn:=Tryz.f103) rfl ?_)
 refine trV a (T0h _ _ _ (l0 i j d)) λq a=>?_
 obtain rfl:=oJ a
 exact aI rfl (Sub.refl _)
theorem Y0e(h:Hp)(b:Int)(e:J0 b)(r:j0×Bool)(a:H02 b=some r):
  Tr Tryz.prog 330 #[.int .i64 b] h λv d=>∃(c:List Value),v = .tuple #[.agg c.toArray,.bool r.2]/\C1.R d c r.1/\Sub h d:=by
 unfold H02 at a
 refine A2 (args:=[.int .i64 b]) (fn:=Tryz.f330) rfl ?_
 refine trV a (C5 _ _ e 1 (by decide) 3 (by decide)) λg a=>?_
 refine ifB a (λf a=>?_) λf a=>?_
 ·obtain rfl:=oJ a
  exact⟨([.int .i64 0,.int .i64 0,.slice none 0 0]),rfl,(l0 (by decide) (by decide) (b09 E1 h)),(Sub.refl _)⟩
 ·obtain rfl:=oJ a
  exact⟨([.int .i64 b,.int .i64 1,.slice none 0 0]),rfl,(l0 e (by decide) (b09 E1 h)),(Sub.refl _)⟩
theorem a0a(h:Hp)(N:List Value)(X:j0)(a0:C1.R h N X)(x:Int)(S:J0 x)(m:Option Addr)(W n:Nat)(k:B0)(l:D0.R h [.slice m W n] k)(f:Int)(u:J0 f)(r:j0×Bool)(b:j02 X x k f=some r):
  Tr Tryz.prog 277 #[.agg N.toArray,.int .i64 x,.slice m W n,.int .i64 f] h λv t=>∃(M:List Value),v = .tuple #[.agg M.toArray,.bool r.2]/\C1.R t M r.1/\Sub h t:=by
 obtain⟨aY,G,ap,bR,aA,aZ,rfl,rfl,E,Q,H⟩:=C0 a0
 obtain⟨rfl,bJ⟩:=Sl.len H
 obtain⟨rfl,bK⟩:=Sl.len l
 unfold j02 at b
 dsimp only at b
 refine A2 (args:=[.agg #[.int .i64 aY,.int .i64 G,.slice ap aZ.length aA],.int .i64 x,.slice m k.length n,.int .i64 f]) (fn:=Tryz.f277) rfl ?_
 refine trM b (J7 _ _ _ (l0 E Q H)) ?_
 rintro be b b7 V ⟨P,bS,O,rfl,J⟩
 have i:Sub h V:=J.sub
 have Y:=J.r
 obtain⟨ah,ai,K⟩:=be
 dsimp only at b J Y
 obtain⟨_,_,_,_,_,_,aF,aL,T,U,I⟩:=C0 Y
 cases aF
 cases aL
 obtain⟨rfl,bM⟩:=Sl.len I
 try dsimp only at b
 refine trV b (J8 _ _ _ (l0 E Q (I0.mono i H))) λce b=>?_
 refine trG b (λq=>C5 _ _ S 0 (by decide) (IntKind.i64.wrap (G-1)) (M0 _)) λcg b=>?_
 refine trG b (λq=>C5 _ _ u 0 (by decide) (IntKind.i64.wrap (G-1)) (M0 _)) λch b=>?_
 refine trG b (λq=>u05 _ _ E _ _ _ _ (D0.mono i l)) λci b=>?_
 refine ifB b (λaV b=>?_) λaV b=>?_
 ·obtain rfl:=oJ b
  exact⟨([.int .i64 ah,.int .i64 ai,.slice (some ⟨P,0,none⟩) K.length O]),rfl,(l0 T U I),i⟩
 ·obtain⟨L,aQ,b⟩:=z0 b
  refine eX { vars:=[11,12],boxes:=[2],owns:=[],fuel:=true } (eX (λvs os t=>∃ d e j c B F C y,vs.tail = [.int .i64 d,.int .i64 e,.int .i64 j,.int .i64 c,.slice B F C]/\os = []/\Sub V t/\J0 d/\J0 e/\J0 j/\J0 c/\I0.R t [.slice B F C] y/\j6 k f (Z1 vs) d e j c y=some L) (eX (λ_ _=>0) (aI (eX T0 ⟨x,0,ah,ai,(some ⟨P,0,none⟩),K.length,O,K,rfl,rfl,(Sub.refl _),S,(by decide),T,U,I,aQ⟩) ?_)))
  rintro _ _ _ _ _ p bo ⟨d,e,j,c,B,F,C,y,⟨⟩,⟨⟩,g,D,bj,w,o,s,a⟩
  replace a:j6 k f p d e j c y=some L:=a
  obtain _|p:=p
  ·cases a
  rw[j6.eq_2]at a
  obtain⟨rfl,bL⟩:=Sl.len s
  refine ifB a (λaR a=>?_) λaR a=>?_
  ·refine ifB a (λaS a=>?_) λaS a=>?_
   ·refine ldI a (D0.mono (i.trans g) l) λcd bk a=>?_
    refine ifB a (λaT a=>?_) λaT a=>?_
    ·refine Or.inr (Or.inr (Or.inl (aI (aI (by kernel_rfl) (by kernel_rfl)) ?_)))
     obtain⟨aj,aM,a⟩:=z0 a
     obtain⟨aw,bf,aG,a1⟩:=Sl.getI (r:=Wp.int.toRp) (D0.mono (i.trans g) l) aM (by decide)
     obtain⟨rfl,aW⟩:=a1
     refine Or.inl (eX (.hel (.slice m k.length n) e 1 0) (aI ?_ ?_))
     ·intro bp bX
      exact aI aw (aI rfl (aI rfl rfl))
     refine Or.inl (eX (.val (.int .i64 aj)) (aI ?_ ?_))
     ·intro bq ba
      exact eX _ (aI (Z9.up ba aG) (aI rfl (aI rfl rfl)))
     refine Or.inl (eX (.agg [.val (.int .i64 d),.val (.int .i64 aj),.val (.int .i64 c)]) (aI ?_ ?_))
     ·intro br bY
      exact aI rfl (aI rfl rfl)
     refine Or.inr ?_
     refine Or.inr ?_
     refine Or.inl (eX 1 (aI (aI rfl rfl) ?_))
     refine trM a (R01 _ _ _ _ _ s _ _ (M1 D aW o)) ?_
     rintro ak a b8 bs ⟨aq,bT,aB,rfl,Z,ad⟩
     obtain⟨rfl,bN⟩:=Sl.len Z
     refine aI (aI rfl ad) (aI (by first|exact trivial|exact rfl) ?_)
     refine aI trivial (aI (by first|exact trivial|exact rfl) ?_)
     exact L2 p ⟨c,(IntKind.i64.wrap (e+1)),j,(IntKind.i64.wrap (c+1)),aq,ak.length,aB,ak,rfl,rfl,(g.trans ad),o,(M0 _),w,(M0 _),Z,a⟩
    ·refine Or.inr (Or.inr (Or.inl (aI (aI (by kernel_rfl) (by kernel_rfl)) ?_)))
     obtain⟨z,aN,a⟩:=z0 a
     obtain⟨ax,bg,aH,a2⟩:=Sl.getI (r:=Wp.int.toRp) (D0.mono (i.trans g) l) aN (by decide)
     obtain⟨rfl,bl⟩:=a2
     refine Or.inl (eX (.hel (.slice m k.length n) e 1 0) (aI ?_ ?_))
     ·intro bt bZ
      exact aI ax (aI rfl (aI rfl rfl))
     refine Or.inl (eX (.val (.int .i64 z)) (aI ?_ ?_))
     ·intro bu bb
      exact eX _ (aI (Z9.up bb aH) (aI rfl (aI rfl rfl)))
     refine Or.inl (eX (.val (.int .i64 (IntKind.i64.wrap (0-z)))) (aI ?_ ?_))
     ·intro bv b0
      exact aI rfl (aI rfl rfl)
     refine Or.inl (eX (.agg [.val (.int .i64 c),.val (.int .i64 (IntKind.i64.wrap (0-z))),.val (.int .i64 d)]) (aI ?_ ?_))
     ·intro bx b1
      exact aI rfl (aI rfl rfl)
     refine Or.inr ?_
     refine Or.inr ?_
     refine Or.inl (eX 1 (aI (aI rfl rfl) ?_))
     refine trM a (R01 _ _ _ _ _ s [.int .i64 c,.int .i64 (IntKind.i64.wrap (0-z)),.int .i64 d] (c,(IntKind.i64.wrap (0-z)),d) (M1 o (M0 _) D)) ?_
     rintro al a ca bz ⟨ar,bU,aC,rfl,aa,ae⟩
     obtain⟨rfl,bO⟩:=Sl.len aa
     refine aI (aI rfl ae) (aI (by first|exact trivial|exact rfl) ?_)
     refine aI trivial (aI (by first|exact trivial|exact rfl) ?_)
     exact L2 p ⟨c,(IntKind.i64.wrap (e+1)),j,(IntKind.i64.wrap (c+1)),ar,al.length,aC,al,rfl,rfl,(g.trans ae),o,(M0 _),w,(M0 _),aa,a⟩
   ·refine ldI a (D0.mono (i.trans g) l) λcf bm a=>?_
    refine ifB a (λaU a=>?_) λaU a=>?_
    ·refine Or.inr (Or.inr (Or.inl (aI (aI (by kernel_rfl) (by kernel_rfl)) ?_)))
     obtain⟨am,aO,a⟩:=z0 a
     obtain⟨ay,bh,aJ,a3⟩:=Sl.getI (r:=Wp.int.toRp) (D0.mono (i.trans g) l) aO (by decide)
     obtain⟨rfl,aX⟩:=a3
     refine Or.inl (eX (.hel (.slice m k.length n) e 1 0) (aI ?_ ?_))
     ·intro bA b2
      exact aI ay (aI rfl (aI rfl rfl))
     refine Or.inl (eX (.val (.int .i64 am)) (aI ?_ ?_))
     ·intro bB bc
      exact eX _ (aI (Z9.up bc aJ) (aI rfl (aI rfl rfl)))
     refine Or.inl (eX (.agg [.val (.int .i64 d),.val (.int .i64 am),.val (.int .i64 f)]) (aI ?_ ?_))
     ·intro bC b3
      exact aI rfl (aI rfl rfl)
     refine Or.inr ?_
     refine Or.inr ?_
     refine Or.inl (eX 1 (aI (aI rfl rfl) ?_))
     refine trM a (R01 _ _ _ _ _ s _ _ (M1 D aX u)) ?_
     rintro an a cb bD ⟨au,bV,aD,rfl,ab,af⟩
     obtain⟨rfl,bP⟩:=Sl.len ab
     refine aI (aI rfl af) (aI (by first|exact trivial|exact rfl) ?_)
     refine aI trivial (aI (by first|exact trivial|exact rfl) ?_)
     exact L2 p ⟨f,(IntKind.i64.wrap (e+1)),j,c,au,an.length,aD,an,rfl,rfl,(g.trans af),u,(M0 _),w,o,ab,a⟩
    ·refine Or.inr (Or.inr (Or.inl (aI (aI (by kernel_rfl) (by kernel_rfl)) ?_)))
     obtain⟨A,aP,a⟩:=z0 a
     obtain⟨az,bi,aK,a4⟩:=Sl.getI (r:=Wp.int.toRp) (D0.mono (i.trans g) l) aP (by decide)
     obtain⟨rfl,bn⟩:=a4
     refine Or.inl (eX (.hel (.slice m k.length n) e 1 0) (aI ?_ ?_))
     ·intro bE b4
      exact aI az (aI rfl (aI rfl rfl))
     refine Or.inl (eX (.val (.int .i64 A)) (aI ?_ ?_))
     ·intro bF bd
      exact eX _ (aI (Z9.up bd aK) (aI rfl (aI rfl rfl)))
     refine Or.inl (eX (.val (.int .i64 (IntKind.i64.wrap (0-A)))) (aI ?_ ?_))
     ·intro bG b5
      exact aI rfl (aI rfl rfl)
     refine Or.inl (eX (.agg [.val (.int .i64 f),.val (.int .i64 (IntKind.i64.wrap (0-A))),.val (.int .i64 d)]) (aI ?_ ?_))
     ·intro bH b6
      exact aI rfl (aI rfl rfl)
     refine Or.inr ?_
     refine Or.inr ?_
     refine Or.inl (eX 1 (aI (aI rfl rfl) ?_))
     refine trM a (R01 _ _ _ _ _ s [.int .i64 f,.int .i64 (IntKind.i64.wrap (0-A)),.int .i64 d] (f,(IntKind.i64.wrap (0-A)),d) (M1 u (M0 _) D)) ?_
     rintro ao a cc bI ⟨av,bW,aE,rfl,ac,ag⟩
     obtain⟨rfl,bQ⟩:=Sl.len ac
     refine aI (aI rfl ag) (aI (by first|exact trivial|exact rfl) ?_)
     refine aI trivial (aI (by first|exact trivial|exact rfl) ?_)
     exact L2 p ⟨f,(IntKind.i64.wrap (e+1)),j,c,av,ao.length,aE,ao,rfl,rfl,(g.trans ag),u,(M0 _),w,o,ac,a⟩
  ·obtain rfl:=oJ a
   try dsimp only[U0,Y0]at b
   obtain rfl:=oJ b
   exact⟨([.int .i64 j,.int .i64 c,.slice B y.length C]),rfl,(l0 w o s),(i.trans g)⟩
theorem Z0e(h:Hp)(f:List Value)(j:j0)(B:C1.R h f j)(b:Option Addr)(i c:Nat)(d:B0)(l:D0.R h [.slice b i c] d)(r:j0×Bool)(a:I02 j d=some r):
  Tr Tryz.prog 281 #[.agg f.toArray,.slice b i c] h λv g=>∃(e:List Value),v = .tuple #[.agg e.toArray,.bool r.2]/\C1.R g e r.1/\Sub h g:=by
 obtain⟨y,z,o,M,q,A,rfl,rfl,t,u,k⟩:=C0 B
 obtain⟨rfl,J⟩:=Sl.len k
 obtain⟨rfl,K⟩:=Sl.len l
 unfold I02 at a
 dsimp only at a
 refine A2 (args:=[.agg #[.int .i64 y,.int .i64 z,.slice o A.length q],.slice b d.length c]) (fn:=Tryz.f281) rfl ?_
 refine trM a (a0a _ _ _ (l0 t u k) 0 (by decide) _ _ _ _ l 0 (by decide)) ?_
 rintro D a O I ⟨H,rfl,m,C⟩
 obtain⟨P,Q⟩:=D
 dsimp only at a m
 obtain⟨E,F,p,N,s,G,rfl,rfl,w,x,n⟩:=C0 m
 obtain⟨rfl,L⟩:=Sl.len n
 try dsimp only at a
 obtain rfl:=oJ a
 exact⟨([.int .i64 E,.int .i64 F,.slice p G.length s]),rfl,(l0 w x n),C⟩
theorem a0f(h:Hp)(B:Int)(S:J0 B)(w:Option Addr)(V y:Nat)(n:Y1)(E:j2.R h [.slice w V y] n)(r:j0×Bool)(b:J02 B n=some r):
  Tr Tryz.prog 280 #[.int .i64 B,.slice w V y] h λv t=>∃(M:List Value),v = .tuple #[.agg M.toArray,.bool r.2]/\C1.R t M r.1/\Sub h t:=by
 obtain⟨rfl,bh⟩:=Sl.len E
 unfold J02 at b
 refine A2 (args:=[.int .i64 B,.slice w n.length y]) (fn:=Tryz.f280) rfl ?_
 refine trV b (V08 _ _ S _ _ _ _ E) λbx b=>?_
 refine ifB b (λar b=>?_) λar b=>?_
 ·obtain rfl:=oJ b
  exact⟨([.int .i64 0,.int .i64 0,.slice none 0 0]),rfl,(l0 (by decide) (by decide) (b09 E1 h)),(Sub.refl _)⟩
 ·refine trM b (Y0e _ _ S) ?_
  rintro aS b bv aE ⟨aY,rfl,W,aa⟩
  obtain⟨bz,bA⟩:=aS
  dsimp only at b W
  obtain⟨aT,aU,ad,bo,ai,ab,rfl,rfl,au,av,X⟩:=C0 W
  obtain⟨rfl,bk⟩:=Sl.len X
  try dsimp only at b
  obtain⟨J,ap,b⟩:=z0 b
  refine eX { vars:=[8],boxes:=[1],owns:=[],fuel:=true } (eX (λvs os t=>∃ m u8 o x D z u,vs.tail = [.int .i64 m,.int .i64 u8,.int .i64 o,.slice x D z]/\os = []/\Sub aE t/\J0 m/\J0 u8/\J0 o/\I0.R t [.slice x D z] u/\p8 n (Z1 vs) m u8 o u=some J) (eX (λ_ _=>0) (aI (eX T0 ⟨0,aT,aU,ad,ab.length,ai,ab,rfl,rfl,(Sub.refl _),(by decide),au,av,X,ap⟩) ?_)))
  rintro _ _ _ _ A a3 ⟨m,u8,o,x,D,z,u,⟨⟩,⟨⟩,H,a0,T,U,F,c⟩
  replace c:p8 n A m u8 o u=some J:=c
  obtain _|A:=A
  ·cases c
  rw[p8.eq_2]at c
  obtain⟨rfl,bi⟩:=Sl.len F
  refine ifB c (λaq c=>?_) λaq c=>?_
  ·refine Or.inr (Or.inr (Or.inr (Or.inr (eX 10 (aI (aI (by kernel_rfl) (by kernel_rfl)) ?_)))))
   obtain⟨aP,an,c⟩:=z0 c
   obtain⟨ag,aW,al,G⟩:=Sl.getI (r:=D0.toRp) (j2.mono (aa.trans H) E) an (by decide)
   obtain⟨ac,bn,ah,rfl⟩:=Wp.slice_cell G
   obtain⟨rfl,bj⟩:=Sl.len G
   refine Or.inl (eX (.hel (.slice w n.length y) m 1 0) (aI ?_ ?_))
   ·intro a4 br
    exact aI ag (aI rfl (aI rfl rfl))
   refine Or.inl (eX (.val (.slice ac aP.length ah)) (aI ?_ ?_))
   ·intro ba aN
    exact eX _ (aI (Z9.up aN al) (aI rfl (aI rfl rfl)))
   obtain⟨aQ,ao,c⟩:=z0 c
   obtain⟨aR,I⟩:=aQ
   try dsimp only at c
   obtain⟨j,k,a⟩:=aR
   try dsimp only at c
   refine Or.inr (eX (λv g=>∃(i:Value),v = .tuple #[i,.bool I]/\(λv g=>∃(d:Option Addr) (f:Nat),v = .agg #[.int .i64 j,.int .i64 k,.slice d a.length f]/\J0 j/\J0 k/\I0.R g [.slice d a.length f] a/\a.length<=9223372036854775807) i g) (aI (λv P Q l q=>by obtain⟨i,e,C⟩:=q;exact⟨i,e,(by obtain⟨d,f,e,p,s,f2,f3⟩:=C;exact⟨d,f,e,p,s,I0.mono l f2,f3⟩)⟩) (aI ?_ ?_)))
   ·intro bb Z
    refine Tr.mono (Z0e _ _ _ (l0 T U (I0.mono Z F)) _ _ _ _ (D0.mono Z G) _ ao) ?_
    rintro _ bg ⟨aX,rfl,aJ,l⟩
    obtain⟨bB,bC,K,bp,N,bD,rfl,am,aw,ax,Y⟩:=C0 aJ
    cases am
    obtain⟨rfl,aF⟩:=Sl.len Y
    exact aI M5 (aI l ⟨(.agg #[.int .i64 j,.int .i64 k,.slice K a.length N]),rfl,⟨K,N,rfl,aw,ax,Y,aF⟩⟩)
   refine Or.inr (eX (λv g=>∃(i:Value),v = .tuple #[i,.bool I]/\(λv g=>∃(d:Option Addr) (f:Nat),v = .agg #[.int .i64 j,.int .i64 k,.slice d a.length f]/\J0 j/\J0 k/\I0.R g [.slice d a.length f] a/\a.length<=9223372036854775807) i g) (aI (λv P Q l q=>by obtain⟨i,e,C⟩:=q;exact⟨i,e,(by obtain⟨d,f,e,p,s,f2,f3⟩:=C;exact⟨d,f,e,p,s,I0.mono l f2,f3⟩)⟩) (aI ?_ ?_)))
   ·intro bc bs
    rintro _ ⟨_,rfl,⟨L,O,rfl,ay,az,aK,aG⟩⟩
    exact aI M5 (aI (Sub.refl _) ⟨(.agg #[.int .i64 j,.int .i64 k,.slice L a.length O]),rfl,⟨L,O,rfl,ay,az,aK,aG⟩⟩)
   refine Or.inr (eX (λv g=>∃(d:Option Addr) (f:Nat),v = .agg #[.int .i64 j,.int .i64 k,.slice d a.length f]/\J0 j/\J0 k/\I0.R g [.slice d a.length f] a/\a.length<=9223372036854775807) (aI (λv P Q l q=>by obtain⟨d,f,e,p,s,f2,f3⟩:=q;exact⟨d,f,e,p,s,I0.mono l f2,f3⟩) (aI ?_ ?_)))
   ·intro bd bt
    rintro _ ⟨_,rfl,⟨ae,aj,rfl,aA,aB,aL,aH⟩⟩
    exact aI M5 (aI (Sub.refl _) ⟨ae,aj,rfl,aA,aB,aL,aH⟩)
   refine Or.inl (eX (.val (.bool I)) (aI ?_ ?_))
   ·intro be bu
    rintro _ ⟨_,rfl,⟨aV,aZ,rfl,a1,a2,bq,bl⟩⟩
    exact aI rfl (aI rfl rfl)
   intro bf aO
   rintro _ ⟨af,ak,rfl,aC,aD,aM,bm⟩
   rintro _ _
   rintro _ _
   exact L2 A ⟨(IntKind.i64.wrap (m+1)),j,k,af,a.length,ak,a,rfl,rfl,(H.trans aO),(M0 _),aC,aD,aM,c⟩
  ·obtain rfl:=oJ c
   try dsimp only[U0,Y0]at b
   obtain rfl:=oJ b
   exact⟨([.int .i64 u8,.int .i64 o,.slice x u.length z]),rfl,(l0 T U F),(aa.trans H)⟩
theorem r0h(h:Hp)(G:List Value)(J:j0)(ad:C1.R h G J)(r:q00)(u:o03 J=some r):
  Tr Tryz.prog 376 #[.agg G.toArray] h λv n=>∃(E:Option Addr) (I F:Nat),v = .slice E I F/\Z0j.R n [.slice E I F] r/\Sub h n:=by
 obtain⟨ab,ac,K,av,M,x,rfl,rfl,ak,al,B⟩:=C0 ad
 obtain⟨rfl,ar⟩:=Sl.len B
 unfold o03 at u
 dsimp only at u
 refine A2 (args:=[.agg #[.int .i64 ab,.int .i64 ac,.slice K x.length M]]) (fn:=Tryz.f376) rfl ?_
 obtain⟨C,T,u⟩:=z0 u
 refine eX { vars:=[4],boxes:=[],owns:=[0],fuel:=true } (eX (λvs os n=>∃ l A w,vs.tail = [.int .i64 l]/\os = [A]/\Sub h n/\J0 l/\F2 (a6.R n) A w/\V8 x (Z1 vs) l w=some C) (eX (λ_ _=>0) (aI (eX T0 ⟨0,[],([]:q00),rfl,rfl,(Sub.refl _),(by decide),(show F2 (a6.R h) ([]:List (List Value)) ([]:q00) from trivial),T⟩) ?_)))
 rintro _ A y aa ⟨l,aE,w,⟨⟩,⟨⟩,z,am,H,f⟩
 replace f:V8 x y l w=some C:=f
 obtain _|y:=y
 ·cases f
 rw[V8.eq_2]at f
 refine ifB f (λZ f=>?_) λZ f=>?_
 ·obtain⟨D,U,f⟩:=z0 f
  refine eX { vars:=[5],boxes:=[],owns:=[0],fuel:=true } (eX (λvs os n=>∃ u8 q m,vs.tail = [.int .i64 u8]/\os = [q]/\Sub aa n/\J0 u8/\F2 (a6.R n) q m/\Y4 x l (Z1 vs) u8 m=some D) (eX (λ_ _=>0) (aI (eX T0 ⟨(IntKind.i64.wrap (l+1)),A,w,rfl,rfl,(Sub.refl _),(M0 _),H,U⟩) ?_)))
  rintro _ q s k ⟨u8,aF,m,⟨⟩,⟨⟩,t,an,g,e⟩
  replace e:Y4 x l s u8 m=some D:=e
  obtain _|s:=s
  ·cases e
  rw[Y4.eq_2]at e
  refine ifB e (λV e=>?_) λV e=>?_
  ·refine ld e (I0.mono (z.trans t) B) λaA ai ae e=>?_
   obtain⟨c,aB,a,rfl,rfl,o,ao,i⟩:=U1 ae
   try dsimp only at e
   refine ld e (I0.mono (z.trans t) B) λaC aj af e=>?_
   obtain⟨d,aD,b,rfl,rfl,p,ap,j⟩:=U1 af
   try dsimp only at e
   refine ifB e (λW e=>?_) λW e=>?_
   ·obtain⟨aw,P,e⟩:=z0 e
    refine aI (P1 P (by first|rw[F2.length g,F2.length (show F2 (a6.R k) ([[.int .i64 (if b<a then b else a),.int .i64 (if b>a then b else a)]]:List (List Value)) [((if b<a then b else a),(if b>a then b else a))] from⟨(j3 (i00 j i) (i00 j i)),trivial⟩)]|exact congrArg (·+1) (F2.length g))) ?_
    refine ifB e (λX e=>?_) λX e=>?_
    ·obtain⟨ax,Q,e⟩:=z0 e
     refine aI (P1 Q (by first|rw[F2.length (F2.append g (show F2 (a6.R k) ([[.int .i64 (if b<a then b else a),.int .i64 (if b>a then b else a)]]:List (List Value)) [((if b<a then b else a),(if b>a then b else a))] from⟨(j3 (i00 j i) (i00 j i)),trivial⟩)),F2.length (show F2 (a6.R k) ([[.int .i64 (if d<c then d else c),.int .i64 (if d>c then d else c)]]:List (List Value)) [((if d<c then d else c),(if d>c then d else c))] from⟨(j3 (i00 p o) (i00 p o)),trivial⟩)]|exact congrArg (·+1) (F2.length (F2.append g (show F2 (a6.R k) ([[.int .i64 (if b<a then b else a),.int .i64 (if b>a then b else a)]]:List (List Value)) [((if b<a then b else a),(if b>a then b else a))] from⟨(j3 (i00 j i) (i00 j i)),trivial⟩))))) ?_
     exact L2 s ⟨(IntKind.i64.wrap (u8+1)),((q++([[.int .i64 (if b<a then b else a),.int .i64 (if b>a then b else a)]]:List (List Value)))++([[.int .i64 (if d<c then d else c),.int .i64 (if d>c then d else c)]]:List (List Value))),((m ++ [((if b<a then b else a),(if b>a then b else a))]) ++ [((if d<c then d else c),(if d>c then d else c))]),rfl,rfl,t,(M0 _),(F2.append (F2.append g (show F2 (a6.R k) ([[.int .i64 (if b<a then b else a),.int .i64 (if b>a then b else a)]]:List (List Value)) [((if b<a then b else a),(if b>a then b else a))] from⟨(j3 (i00 j i) (i00 j i)),trivial⟩)) (show F2 (a6.R k) ([[.int .i64 (if d<c then d else c),.int .i64 (if d>c then d else c)]]:List (List Value)) [((if d<c then d else c),(if d>c then d else c))] from⟨(j3 (i00 p o) (i00 p o)),trivial⟩)),e⟩
    ·exact L2 s ⟨(IntKind.i64.wrap (u8+1)),(q++([[.int .i64 (if b<a then b else a),.int .i64 (if b>a then b else a)]]:List (List Value))),(m ++ [((if b<a then b else a),(if b>a then b else a))]),rfl,rfl,t,(M0 _),(F2.append g (show F2 (a6.R k) ([[.int .i64 (if b<a then b else a),.int .i64 (if b>a then b else a)]]:List (List Value)) [((if b<a then b else a),(if b>a then b else a))] from⟨(j3 (i00 j i) (i00 j i)),trivial⟩)),e⟩
   ·refine ifB e (λY e=>?_) λY e=>?_
    ·obtain⟨ay,S,e⟩:=z0 e
     refine aI (P1 S (by first|rw[F2.length g,F2.length (show F2 (a6.R k) ([[.int .i64 (if d<c then d else c),.int .i64 (if d>c then d else c)]]:List (List Value)) [((if d<c then d else c),(if d>c then d else c))] from⟨(j3 (i00 p o) (i00 p o)),trivial⟩)]|exact congrArg (·+1) (F2.length g))) ?_
     exact L2 s ⟨(IntKind.i64.wrap (u8+1)),(q++([[.int .i64 (if d<c then d else c),.int .i64 (if d>c then d else c)]]:List (List Value))),(m ++ [((if d<c then d else c),(if d>c then d else c))]),rfl,rfl,t,(M0 _),(F2.append g (show F2 (a6.R k) ([[.int .i64 (if d<c then d else c),.int .i64 (if d>c then d else c)]]:List (List Value)) [((if d<c then d else c),(if d>c then d else c))] from⟨(j3 (i00 p o) (i00 p o)),trivial⟩)),e⟩
    ·exact L2 s ⟨(IntKind.i64.wrap (u8+1)),q,m,rfl,rfl,t,(M0 _),g,e⟩
  ·obtain rfl:=oJ e
   try dsimp only[U0,Y0]at f
   exact L2 y ⟨(IntKind.i64.wrap (l+1)),q,m,rfl,rfl,(z.trans t),(M0 _),g,f⟩
 ·obtain rfl:=oJ f
  try dsimp only[U0,Y0]at u
  intro az aq O
  obtain⟨L,N,rfl,ag,ah,au⟩:=Z0.out (r:=a6.toRp) O H
  obtain rfl:=oJ u
  exact⟨L,w.length,N,rfl,ag,(z.trans ah)⟩
theorem e0e(h:Hp)(d:List Value)(i:j0)(w:C1.R h d i)(r:T6×Bool)(a:d01 i=some r):
  Tr Tryz.prog 349 #[.agg d.toArray] h λv e=>∃(c:List Value),v = .tuple #[.agg c.toArray,.bool r.2]/\a6.R e c r.1/\Sub h e:=by
 obtain⟨s,t,l,G,m,u,rfl,rfl,f,g,b⟩:=C0 w
 obtain⟨rfl,E⟩:=Sl.len b
 unfold d01 at a
 dsimp only at a
 refine A2 (args:=[.agg #[.int .i64 s,.int .i64 t,.slice l u.length m]]) (fn:=Tryz.f349) rfl ?_
 refine trV a (J8 _ _ _ (l0 f g b)) λJ a=>?_
 refine ifB a (λn a=>?_) λn a=>?_
 ·obtain rfl:=oJ a
  exact⟨([.int .i64 0,.int .i64 0]),rfl,(j3 (by decide) (by decide)),(Sub.refl _)⟩
 ·refine trM a (r0h _ _ _ (l0 f g b)) ?_
  rintro K a I D ⟨A,H,C,rfl,j,k⟩
  obtain⟨rfl,F⟩:=Sl.len j
  refine ifB a (λo a=>?_) λo a=>?_
  ·obtain rfl:=oJ a
   exact⟨([.int .i64 0,.int .i64 0]),rfl,(j3 (by decide) (by decide)),k⟩
  ·refine ld a j λL B x a=>?_
   obtain⟨y,z,rfl,rfl,p,q⟩:=I04 x
   try dsimp only at a
   obtain rfl:=oJ a
   exact⟨([.int .i64 y,.int .i64 z]),rfl,(j3 p q),k⟩
theorem Z0c(h:Hp)(b:Int)(m:J0 b)(c:List Value)(d:T6)(l:a6.R h c d)(r:Int)(a:G03 b d=some r):
  Tr Tryz.prog 377 #[.int .i64 b,.agg c.toArray] h λv e=>v = .int .i64 r/\e=h:=by
 obtain⟨j,k,rfl,rfl,n,o⟩:=I04 l
 unfold G03 at a
 dsimp only at a
 refine Tr.forget (A2 (args:=[.int .i64 b,.agg #[.int .i64 j,.int .i64 k]]) (fn:=Tryz.f377) rfl ?_)
 refine ifB a (λf a=>?_) λf a=>?_
 ·refine ifB a (λg a=>?_) λg a=>?_
  ·obtain rfl:=oJ a
   exact aI rfl (Sub.refl _)
  ·obtain rfl:=oJ a
   exact aI rfl (Sub.refl _)
 ·refine ifB a (λi a=>?_) λi a=>?_
  ·obtain rfl:=oJ a
   exact aI rfl (Sub.refl _)
  ·obtain rfl:=oJ a
   exact aI rfl (Sub.refl _)
theorem b0a(h:Hp)(z:List Value)(G:j0)(an:C1.R h z G)(A:List Value)(J:T6)(ao:a6.R h A J)(r:j0×Bool)(b:Y8 G J=some r):
  Tr Tryz.prog 350 #[.agg z.toArray,.agg A.toArray] h λv e=>∃(y:List Value),v = .tuple #[.agg y.toArray,.bool r.2]/\C1.R e y r.1/\Sub h e:=by
 obtain⟨H,I,P,aK,S,n,rfl,rfl,l,B,k⟩:=C0 an
 obtain⟨rfl,aF⟩:=Sl.len k
 obtain⟨o,p,rfl,rfl,C,D⟩:=I04 ao
 unfold Y8 at b
 dsimp only at b
 refine A2 (args:=[.agg #[.int .i64 H,.int .i64 I,.slice P n.length S],.agg #[.int .i64 o,.int .i64 p]]) (fn:=Tryz.f350) rfl ?_
 refine trV b (J8 _ _ _ (l0 l B k)) λaU b=>?_
 refine ifB b (λae b=>?_) λae b=>?_
 ·refine trM b (J7 _ _ _ (l0 l B k)) ?_
  rintro au b aT am ⟨ab,aM,U,rfl,t⟩
  have aq:Sub h am:=t.sub
  have L:=t.r
  obtain⟨av,aw,ax⟩:=au
  dsimp only at b t L
  obtain⟨_,_,_,_,_,_,V,W,ak,al,M⟩:=C0 L
  cases V
  cases W
  obtain⟨rfl,aJ⟩:=Sl.len M
  try dsimp only at b
  obtain rfl:=oJ b
  exact⟨([.int .i64 av,.int .i64 aw,.slice (some ⟨ab,0,none⟩) ax.length U]),rfl,(l0 ak al M),aq⟩
 ·obtain⟨x,ac,b⟩:=z0 b
  refine eX { vars:=[7],boxes:=[3],owns:=[],fuel:=true } (eX (λvs os e=>∃ d u8 c g m i f,vs.tail = [.int .i64 d,.int .i64 u8,.int .i64 c,.slice g m i]/\os = []/\Sub h e/\J0 d/\J0 u8/\J0 c/\I0.R e [.slice g m i] f/\n5 n o p (Z1 vs) d u8 c f=some x) (eX (λ_ _=>0) (aI (eX T0 ⟨0,H,(IntKind.i64.wrap (I-1)),none,0,0,[],rfl,rfl,(Sub.refl _),(by decide),l,(M0 _),(b09 E1 h),ac⟩) ?_)))
  rintro _ _ _ _ j aA ⟨d,u8,c,g,m,i,f,⟨⟩,⟨⟩,s,az,E,F,q,a⟩
  replace a:n5 n o p j d u8 c f=some x:=a
  obtain _|j:=j
  ·cases a
  rw[n5.eq_2]at a
  obtain⟨rfl,aG⟩:=Sl.len q
  refine ifB a (λad a=>?_) λad a=>?_
  ·refine ld a (I0.mono s k) λaV ay ap a=>?_
   obtain⟨aW,ar,aX,rfl,rfl,af,ag,ah⟩:=U1 ap
   try dsimp only at a
   refine Or.inr (Or.inr (Or.inl (aI (aI (by kernel_rfl) (by kernel_rfl)) ?_)))
   obtain⟨u,Z,a⟩:=z0 a
   obtain⟨aN,X,a⟩:=z0 a
   have ai:J0 u:=E2 X
   refine Or.inl (eX (.val (.int .i64 u)) (aI ?_ ?_))
   ·intro aB aP
    exact Tr.val (Z0c _ _ af _ _ (j3 C D) _ Z) (aI rfl (aI rfl rfl))
   obtain⟨w,aa,a⟩:=z0 a
   obtain⟨aO,Y,a⟩:=z0 a
   have aj:J0 w:=E2 Y
   refine Or.inl (eX (.val (.int .i64 w)) (aI ?_ ?_))
   ·intro aC aQ
    exact Tr.val (Z0c _ _ ah _ _ (j3 C D) _ aa) (aI rfl (aI rfl rfl))
   refine Or.inl (eX (.agg [.val (.int .i64 u),.val (.int .i64 ar),.val (.int .i64 w)]) (aI ?_ ?_))
   ·intro aD aR
    exact aI rfl (aI rfl rfl)
   refine Or.inr ?_
   refine Or.inr ?_
   refine Or.inl (eX 1 (aI (aI rfl rfl) ?_))
   refine trM a (R01 _ _ _ _ _ q _ _ (M1 ai ag aj)) ?_
   rintro O a aS aE ⟨Q,aL,T,rfl,K,N⟩
   obtain⟨rfl,aH⟩:=Sl.len K
   refine aI (aI rfl N) (aI (by first|exact trivial|exact rfl) ?_)
   refine aI trivial (aI (by first|exact trivial|exact rfl) ?_)
   exact L2 j ⟨(IntKind.i64.wrap (d+1)),u8,c,Q,O.length,T,O,rfl,rfl,(s.trans N),(M0 _),E,F,K,a⟩
  ·obtain rfl:=oJ a
   try dsimp only[U0,Y0]at b
   obtain rfl:=oJ b
   exact⟨([.int .i64 u8,.int .i64 c,.slice g f.length i]),rfl,(l0 E F q),s⟩
theorem b0f(h:Hp)(k:List Value)(n:j0)(N:C1.R h k n)(r:j0×T6×Bool)(a:K02 n=some r):
  Tr Tryz.prog 338 #[.agg k.toArray] h λv d=>∃(i:List Value) (j:List Value),v = .tuple #[.agg i.toArray,.agg j.toArray,.bool r.2.2]/\C1.R d i r.1/\a6.R d j r.2.1/\Sub h d:=by
 obtain⟨K,L,u,ai,x,M,rfl,rfl,e,f,b⟩:=C0 N
 obtain⟨rfl,af⟩:=Sl.len b
 unfold K02 at a
 dsimp only at a
 refine A2 (args:=[.agg #[.int .i64 K,.int .i64 L,.slice u M.length x]]) (fn:=Tryz.f338) rfl ?_
 refine trM a (e0e _ _ _ (l0 e f b)) ?_
 rintro Q a am I ⟨ac,rfl,o,c⟩
 obtain⟨ao,ap⟩:=Q
 dsimp only at a o
 obtain⟨S,T,rfl,rfl,l,m⟩:=I04 o
 try dsimp only at a
 refine ifB a (λD a=>?_) λD a=>?_
 ·refine trM a (J7 _ _ _ (l0 e f (I0.mono c b))) ?_
  rintro U a an J ⟨C,aj,y,rfl,g⟩
  have O:Sub I J:=g.sub
  have p:=g.r
  obtain⟨V,W,X⟩:=U
  dsimp only at a g p
  obtain⟨_,_,_,_,_,_,A,B,E,F,q⟩:=C0 p
  cases A
  cases B
  obtain⟨rfl,ag⟩:=Sl.len q
  try dsimp only at a
  obtain rfl:=oJ a
  exact⟨([.int .i64 V,.int .i64 W,.slice (some ⟨C,0,none⟩) X.length y]),([.int .i64 0,.int .i64 0]),rfl,(l0 E F q),(j3 (by decide) (by decide)),(c.trans O)⟩
 ·refine trM a (b0a _ _ _ (l0 e f (I0.mono c b)) _ _ (j3 l m)) ?_
  rintro Y a al ae ⟨ad,rfl,s,P⟩
  obtain⟨aq,ar⟩:=Y
  dsimp only at a s
  obtain⟨Z,aa,w,ak,z,ab,rfl,rfl,G,H,t⟩:=C0 s
  obtain⟨rfl,ah⟩:=Sl.len t
  try dsimp only at a
  refine Or.inr (Or.inr (Or.inl (aI (aI (by kernel_rfl) (by kernel_rfl)) ?_)))
  refine Or.inr ?_
  refine Or.inr ?_
  refine Or.inl (eX 0 (aI (aI rfl rfl) ?_))
  refine aI trivial (aI (by first|exact trivial|exact rfl) ?_)
  refine aI trivial (aI (by first|exact trivial|exact rfl) ?_)
  obtain rfl:=oJ a
  exact⟨([.int .i64 Z,.int .i64 aa,.slice w ab.length z]),([.int .i64 S,.int .i64 T]),rfl,(l0 G H t),(j3 l m),(c.trans P)⟩
theorem s0h(h:Hp)(D:List Value)(I:j0)(ay:C1.R h D I)(r:j0×q00)(b:p03 I=some r):
  Tr Tryz.prog 310 #[.agg D.toArray] h λv c=>∃(C:List Value) (A:Option Addr) (H B:Nat),v = .tuple #[.agg C.toArray,.slice A H B]/\C1.R c C r.1/\Z0j.R c [.slice A H B] r.2/\Sub h c:=by
 obtain⟨av,aw,V,aU,Z,ax,rfl,rfl,an,ao,J⟩:=C0 ay
 obtain⟨rfl,aO⟩:=Sl.len J
 unfold p03 at b
 dsimp only at b
 refine A2 (args:=[.agg #[.int .i64 av,.int .i64 aw,.slice V ax.length Z]]) (fn:=Tryz.f310) rfl ?_
 refine trM b (J7 _ _ _ (l0 an ao J)) ?_
 rintro aB b a1 u ⟨aj,aW,ab,rfl,y⟩
 have P:Sub h u:=y.sub
 have K:=y.r
 obtain⟨aF,aG,U⟩:=aB
 dsimp only at b y K
 obtain⟨_,_,_,_,_,_,ae,af,ar,au,O⟩:=C0 K
 cases ae
 cases af
 obtain⟨rfl,aR⟩:=Sl.len O
 try dsimp only at b
 obtain⟨z,ak,b⟩:=z0 b
 refine eX { vars:=[6],boxes:=[2],owns:=[0],fuel:=true } (eX (λvs os c=>∃ i e f l w m u8 q g,vs.tail = [.int .i64 i,.int .i64 e,.int .i64 f,.slice l w m]/\os = [q]/\Sub u c/\J0 i/\J0 e/\J0 f/\I0.R c [.slice l w m] u8/\F2 (a6.R c) q g/\N7 (Z1 vs) i e f u8 g=some z) (eX (λ_ _=>0) (aI (eX T0 ⟨0,aF,aG,(some ⟨aj,0,none⟩),U.length,ab,U,[],([]:q00),rfl,rfl,(Sub.refl _),(by decide),ar,au,O,(show F2 (a6.R u) ([]:List (List Value)) ([]:q00) from trivial),ak⟩) ?_)))
 rintro _ _ _ _ q o aL ⟨i,e,f,l,w,m,u8,ba,g,⟨⟩,⟨⟩,x,aK,s,t,p,n,a⟩
 replace a:N7 o i e f u8 g=some z:=a
 obtain _|o:=o
 ·cases a
 rw[N7.eq_2]at a
 obtain⟨rfl,aP⟩:=Sl.len p
 refine ifB a (λal a=>?_) λal a=>?_
 ·refine trM a (b0f _ _ _ (l0 s t p)) ?_
  rintro aC a aY G ⟨aH,aJ,rfl,L,N,d⟩
  obtain⟨a2,a3,a4⟩:=aC
  dsimp only at a L N
  obtain⟨aD,aE,W,aV,aa,T,rfl,rfl,ap,aq,M⟩:=C0 L
  obtain⟨rfl,aQ⟩:=Sl.len M
  try dsimp only at a
  obtain⟨j,k,rfl,rfl,E,F⟩:=I04 N
  try dsimp only at a
  refine ifB a (λam a=>?_) λam a=>?_
  ·intro aZ aM ag
   obtain⟨X,ac,rfl,az,Q,aS⟩:=Z0.out (r:=a6.toRp) ag (F2.up (r:=a6.toRp) d n)
   obtain rfl:=oJ a
   try dsimp only[T4,Z4]at b
   obtain rfl:=oJ b
   exact⟨([.int .i64 e,.int .i64 f,.slice l u8.length m]),X,g.length,ac,rfl,(l0 s t (I0.mono (d.trans Q) p)),az,(((P.trans x).trans d).trans Q)⟩
  ·obtain⟨aX,ai,a⟩:=z0 a
   refine aI (P1 ai (by first|rw[F2.length (F2.up (r:=a6.toRp) d n),F2.length (show F2 (a6.R G) ([[.int .i64 j,.int .i64 k]]:List (List Value)) [(j,k)] from⟨(j3 E F),trivial⟩)]|exact congrArg (·+1) (F2.length (F2.up (r:=a6.toRp) d n)))) ?_
   exact L2 o ⟨(IntKind.i64.wrap (i+1)),aD,aE,W,T.length,aa,T,(q++([[.int .i64 j,.int .i64 k]]:List (List Value))),(g ++ [(j,k)]),rfl,rfl,(x.trans d),(M0 _),ap,aq,M,(F2.append (F2.up (r:=a6.toRp) d n) (show F2 (a6.R G) ([[.int .i64 j,.int .i64 k]]:List (List Value)) [(j,k)] from⟨(j3 E F),trivial⟩)),a⟩
 ·obtain rfl:=oJ a
  try dsimp only[U0,Y0]at b
  intro a0 aN ah
  obtain⟨Y,ad,rfl,aA,S,aT⟩:=Z0.out (r:=a6.toRp) ah n
  obtain rfl:=oJ b
  exact⟨([.int .i64 e,.int .i64 f,.slice l u8.length m]),Y,g.length,ad,rfl,(l0 s t (I0.mono S p)),aA,((P.trans x).trans S)⟩
theorem f0e(h:Hp)(g:List Value)(o:j0)(E:C1.R h g o)(r:j0×Bool)(a:k02 o=some r):
  Tr Tryz.prog 276 #[.agg g.toArray] h λv k=>∃(f:List Value),v = .tuple #[.agg f.toArray,.bool r.2]/\C1.R k f r.1/\Sub h k:=by
 obtain⟨C,p,u,J,w,D,rfl,rfl,l,m,b⟩:=C0 E
 obtain⟨rfl,H⟩:=Sl.len b
 unfold k02 at a
 dsimp only at a
 refine A2 (args:=[.agg #[.int .i64 C,.int .i64 p,.slice u D.length w]]) (fn:=Tryz.f276) rfl ?_
 refine trM a (J7 _ _ _ (l0 l m b)) ?_
 rintro F a L B ⟨j,K,i,rfl,e⟩
 have d:Sub h B:=e.sub
 have q:=e.r
 obtain⟨s,G,t⟩:=F
 dsimp only at a e q
 obtain⟨_,_,_,_,_,_,x,y,n,A,c⟩:=C0 q
 cases x
 cases y
 obtain⟨rfl,I⟩:=Sl.len c
 try dsimp only at a
 refine trV a (J8 _ _ _ (l0 l m (I0.mono d b))) λM a=>?_
 refine ifB a (λz a=>?_) λz a=>?_
 ·obtain rfl:=oJ a
  exact⟨([.int .i64 s,.int .i64 G,.slice (some ⟨j,0,none⟩) t.length i]),rfl,(l0 n A c),d⟩
 ·obtain rfl:=oJ a
  exact⟨([.int .i64 s,.int .i64 (IntKind.i64.wrap (p+1)),.slice (some ⟨j,0,none⟩) t.length i]),rfl,(l0 n (M0 _) c),d⟩
theorem K0a(h:Hp)(G:List Value)(M:j0)(af:C1.R h G M)(r:K0)(g:I9 M=some r):
  Tr Tryz.prog 304 #[.agg G.toArray] h λv d=>∃(E:Option Addr) (L F:Nat),v = .slice E L F/\I0.R d [.slice E L F] r/\Sub h d:=by
 obtain⟨o,p,P,ar,S,s,rfl,rfl,x,I,z⟩:=C0 af
 obtain⟨rfl,ao⟩:=Sl.len z
 unfold I9 at g
 dsimp only at g
 refine A2 (args:=[.agg #[.int .i64 o,.int .i64 p,.slice P s.length S]]) (fn:=Tryz.f304) rfl ?_
 obtain⟨C,Y,g⟩:=z0 g
 refine eX { vars:=[4],boxes:=[],owns:=[0],fuel:=true } (eX (λvs os d=>∃ c w j,vs.tail = [.int .i64 c]/\os = [w]/\Sub h d/\J0 c/\F2 (E1.R d) w j/\P5 p o s (Z1 vs) c j=some C) (eX (λ_ _=>0) (aI (eX T0 ⟨0,[],([]:K0),rfl,rfl,(Sub.refl _),(by decide),(show F2 (E1.R h) ([]:List (List Value)) ([]:K0) from trivial),Y⟩) ?_)))
 rintro _ w t an ⟨c,aC,j,⟨⟩,⟨⟩,u,y,H,b⟩
 replace b:P5 p o s t c j=some C:=b
 obtain _|t:=t
 ·cases b
 rw[P5.eq_2]at b
 refine trG b (λq=>I7 _ _ _ (l0 x I (I0.mono u z))) λaA b=>?_
 refine ifB b (λac b=>?_) λac b=>?_
 ·refine trM b (L03 _ _ x) ?_
  rintro O b ax ae ⟨ai,au,aj,rfl,A,B⟩
  obtain⟨rfl,ap⟩:=Sl.len A
  obtain⟨D,Z,b⟩:=z0 b
  refine eX { vars:=[6],boxes:=[],owns:=[0],fuel:=true } (eX (λvs os d=>∃ e k f,vs.tail = [.int .i64 e]/\os = [k]/\Sub ae d/\J0 e/\F2 (E1.R d) k f/\f4 O o p s c (Z1 vs) e f=some D) (eX (λ_ _=>0) (aI (eX T0 ⟨0,w,j,rfl,rfl,(Sub.refl _),(by decide),(F2.up (r:=E1.toRp) B H),Z⟩) ?_)))
  rintro _ k n K ⟨e,aB,f,⟨⟩,⟨⟩,i,ak,m,a⟩
  replace a:f4 O o p s c n e f=some D:=a
  obtain _|n:=n
  ·cases a
  rw[f4.eq_2]at a
  refine ifB a (λaa a=>?_) λaa a=>?_
  ·refine Or.inl (aI (aI (by kernel_rfl) (by kernel_rfl)) ?_)
   refine ldI a (D0.mono i A) λaz ad a=>?_
   obtain⟨N,X,a⟩:=z0 a
   refine eX (.int .i64 N) (aI (G00 _ _ _ (l0 x I (I0.mono ((u.trans B).trans i) z)) _ y _ ad _  X) ?_)
   obtain⟨av,V,a⟩:=z0 a
   have al:J0 N:=E2 V
   refine ifB a (λab a=>?_) λab a=>?_
   ·refine ldI a (D0.mono i A) λl J a=>?_
    obtain⟨aw,W,a⟩:=z0 a
    refine aI (P1 W (by first|rw[F2.length m,F2.length (show F2 (E1.R K) ([[.int .i64 c,.int .i64 l,.int .i64 (-1)]]:List (List Value)) [(c,l,(-1))] from⟨(M1 y J (by decide)),trivial⟩)]|exact congrArg (·+1) (F2.length m))) ?_
    exact L2 n ⟨(IntKind.i64.wrap (e+1)),(k++([[.int .i64 c,.int .i64 l,.int .i64 (-1)]]:List (List Value))),(f ++ [(c,l,(-1))]),rfl,rfl,i,(M0 _),(F2.append m (show F2 (E1.R K) ([[.int .i64 c,.int .i64 l,.int .i64 (-1)]]:List (List Value)) [(c,l,(-1))] from⟨(M1 y J (by decide)),trivial⟩)),a⟩
   ·exact L2 n ⟨(IntKind.i64.wrap (e+1)),k,f,rfl,rfl,i,(M0 _),m,a⟩
  ·obtain rfl:=oJ a
   try dsimp only[U0,Y0]at b
   exact L2 t ⟨(IntKind.i64.wrap (c+1)),k,f,rfl,rfl,((u.trans B).trans i),(M0 _),m,b⟩
 ·obtain rfl:=oJ b
  try dsimp only[U0,Y0]at g
  intro ay am U
  obtain⟨Q,T,rfl,ag,ah,aq⟩:=Z0.out (r:=E1.toRp) U H
  obtain rfl:=oJ g
  exact⟨Q,j.length,T,rfl,ag,(u.trans ah)⟩
theorem g0e(h:Hp)(ak:List Value)(ap:j0)(bc:C1.R h ak ap)(r:j0×B0)(c:o02 ap=some r):
  Tr Tryz.prog 311 #[.agg ak.toArray] h λv d=>∃(aj:List Value) (ah:Option Addr) (ao ai:Nat),v = .tuple #[.agg aj.toArray,.slice ah ao ai]/\C1.R d aj r.1/\D0.R d [.slice ah ao ai] r.2/\Sub h d:=by
 obtain⟨B,C,aB,bF,aF,D,rfl,rfl,U,V,O⟩:=C0 bc
 obtain⟨rfl,bv⟩:=Sl.len O
 unfold o02 at c
 dsimp only at c
 refine A2 (args:=[.agg #[.int .i64 B,.int .i64 C,.slice aB D.length aF]]) (fn:=Tryz.f311) rfl ?_
 refine trM c (J7 _ _ _ (l0 U V O)) ?_
 rintro bg c bN W ⟨aU,bG,aG,rfl,ac⟩
 have S:Sub h W:=ac.sub
 have aq:=ac.r
 obtain⟨bh,bi,az⟩:=bg
 dsimp only at c ac aq
 obtain⟨_,_,_,_,_,_,aL,aM,a3,a4,ar⟩:=C0 aq
 cases aL
 cases aM
 obtain⟨rfl,bA⟩:=Sl.len ar
 try dsimp only at c
 obtain⟨ag,aX,c⟩:=z0 c
 refine eX { vars:=[6],boxes:=[],owns:=[0],fuel:=true } (eX (λvs os d=>∃ f T l,vs.tail = [.int .i64 f]/\os = [T]/\Sub W d/\J0 f/\F2 (Wp.int.R d) T l/\A7 C B D (Z1 vs) f l=some ag) (eX (λ_ _=>0) (aI (eX T0 ⟨0,[],([]:B0),rfl,rfl,(Sub.refl _),(by decide),(show F2 (Wp.int.R W) ([]:List (List Value)) ([]:B0) from trivial),aX⟩) ?_)))
 rintro _ T N Y ⟨f,bX,l,⟨⟩,⟨⟩,m,am,I,a⟩
 replace a:A7 C B D N f l=some ag:=a
 obtain _|N:=N
 ·cases a
 rw[A7.eq_2]at a
 refine trG a (λq=>J8 _ _ _ (l0 U V (I0.mono (S.trans m) O))) λbU a=>?_
 refine ifB a (λaY a=>?_) λaY a=>?_
 ·obtain⟨bI,aQ,a⟩:=z0 a
  refine aI (P1 aQ (by first|rw[F2.length I,F2.length (show F2 (Wp.int.R Y) ([[.int .i64 f]]:List (List Value)) [f] from⟨⟨rfl,am⟩,trivial⟩)]|exact congrArg (·+1) (F2.length I))) ?_
  exact L2 N ⟨(IntKind.i64.wrap (f+1)),(T++([[.int .i64 f]]:List (List Value))),(l ++ [f]),rfl,rfl,m,(M0 _),(F2.append I (show F2 (Wp.int.R Y) ([[.int .i64 f]]:List (List Value)) [f] from⟨⟨rfl,am⟩,trivial⟩)),a⟩
 ·obtain rfl:=oJ a
  try dsimp only[U0,Y0]at c
  obtain⟨ae,aV,c⟩:=z0 c
  refine eX { vars:=[5,7],boxes:=[2],owns:=[],fuel:=true,pubs:=[5] } (eX (λvs os d=>∃(t:Option Addr) (Z w:Nat) (i:B0) (n:Int) (k:Int) (g:Int) (u:Option Addr) (aa x:Nat) (o:K0),vs.tail = [.slice t Z w,.int .i64 n,.int .i64 k,.int .i64 g,.slice u aa x]/\os = []/\Sub Y d/\D0.R d [.slice t Z w] i/\J0 n/\J0 k/\J0 g/\I0.R d [.slice u aa x] o/\z7 B C D (Z1 vs) i n k g o=some ae) (eX (λ_ _=>0) ?_))
  intro bM br aN
  obtain⟨aD,aJ,rfl,bd,ax,bC⟩:=Z0.out (r:=Wp.int.toRp) aN I
  refine aI (eX T0 ⟨aD,l.length,aJ,l,0,bh,bi,(some ⟨aU,0,none⟩),az.length,aG,az,rfl,rfl,ax,bd,(by decide),a3,a4,(I0.mono (m.trans ax) ar),aV⟩) ?_
  rintro _ _ _ _ _ M X ⟨t,Z,w,i,n,k,g,u,aa,x,o,⟨⟩,⟨⟩,Q,P,bp,J,K,E,a⟩
  replace a:z7 B C D M i n k g o=some ae:=a
  obtain _|M:=M
  ·cases a
  rw[z7.eq_2]at a
  obtain⟨rfl,bx⟩:=Sl.len P
  obtain⟨rfl,bz⟩:=Sl.len E
  refine trG a (λq=>J8 _ _ _ (l0 U V (I0.mono ((S.trans m).trans Q) O))) λbR a=>?_
  refine ifB a (λaZ a=>?_) λaZ a=>?_
  ·refine trV a (k0b _ _ _ (l0 J K E)) λad a=>?_
   obtain⟨bJ,aR,a⟩:=z0 a
   have bq:J0 ad:=E2 aR
   refine ifB a (λa0 a=>?_) λa0 a=>?_
   ·obtain rfl:=oJ a
    try dsimp only[T4,Z4]at c
    obtain rfl:=oJ c
    exact⟨([.int .i64 k,.int .i64 g,.slice u o.length x]),t,i.length,w,rfl,(l0 J K E),P,((S.trans m).trans Q)⟩
   ·obtain⟨af,aW,a⟩:=z0 a
    refine eX { vars:=[11],boxes:=[],owns:=[1,2],fuel:=true } (eX (λvs os d=>∃ e G p H j,vs.tail = [.int .i64 e]/\os = [G,H]/\Sub X d/\J0 e/\F2 (Wp.int.R d) G p/\F2 (Wp.int.R d) H j/\L6 g ad i (Z1 vs) e p j=some af) (eX (λ_ _=>0) (aI (eX T0 ⟨0,[],([]:B0),[],([]:B0),rfl,rfl,(Sub.refl _),(by decide),(show F2 (Wp.int.R X) ([]:List (List Value)) ([]:B0) from trivial),(show F2 (Wp.int.R X) ([]:List (List Value)) ([]:B0) from trivial),aW⟩) ?_)))
    rintro _ G H A L ⟨e,bV,p,bW,j,⟨⟩,⟨⟩,F,al,y,z,b⟩
    replace b:L6 g ad i A e p j=some af:=b
    obtain _|A:=A
    ·cases b
    rw[L6.eq_2]at b
    refine ifB b (λa1 b=>?_) λa1 b=>?_
    ·refine ifB b (λa2 b=>?_) λa2 b=>?_
     ·obtain⟨bK,aS,b⟩:=z0 b
      refine aI (P1 aS (by first|rw[F2.length y,F2.length (show F2 (Wp.int.R L) ([[.int .i64 e]]:List (List Value)) [e] from⟨⟨rfl,al⟩,trivial⟩)]|exact congrArg (·+1) (F2.length y))) ?_
      refine ldI b (D0.mono F P) λs an b=>?_
      obtain⟨bL,aT,b⟩:=z0 b
      refine aI (P1 aT (by first|rw[F2.length z,F2.length (show F2 (Wp.int.R L) ([[.int .i64 s]]:List (List Value)) [s] from⟨⟨rfl,an⟩,trivial⟩)]|exact congrArg (·+1) (F2.length z))) ?_
      exact L2 A ⟨(IntKind.i64.wrap (e+1)),(G++([[.int .i64 e]]:List (List Value))),(p ++ [e]),(H++([[.int .i64 s]]:List (List Value))),(j ++ [s]),rfl,rfl,F,(M0 _),(F2.append y (show F2 (Wp.int.R L) ([[.int .i64 e]]:List (List Value)) [e] from⟨⟨rfl,al⟩,trivial⟩)),(F2.append z (show F2 (Wp.int.R L) ([[.int .i64 s]]:List (List Value)) [s] from⟨⟨rfl,an⟩,trivial⟩)),b⟩
     ·exact L2 A ⟨(IntKind.i64.wrap (e+1)),G,p,H,j,rfl,rfl,F,(M0 _),y,z,b⟩
    ·obtain rfl:=oJ b
     try dsimp only[U0,Y0]at a
     refine Or.inl ?_
     intro bO bs aO
     obtain⟨bm,bo,rfl,be,ab,bD⟩:=Z0.out (r:=Wp.int.toRp) aO y
     refine trM a (A03 _ _ _ (l0 J K (I0.mono (F.trans ab) E)) _ _ _ _ be) ?_
     rintro bj a bP bt ⟨bn,rfl,au,aw⟩
     obtain⟨bS,bT⟩:=bj
     dsimp only at a au
     obtain⟨bk,bl,aC,bH,aH,aA,rfl,rfl,ba,bb,av⟩:=C0 au
     obtain⟨rfl,bB⟩:=Sl.len av
     try dsimp only at a
     intro bQ bu aP
     obtain⟨aE,aK,rfl,bf,ay,bE⟩:=Z0.out (r:=Wp.int.toRp) aP (F2.up (r:=Wp.int.toRp) (ab.trans aw) z)
     exact L2 M ⟨aE,j.length,aK,j,(IntKind.i64.wrap (n+1)),bk,bl,aC,aA.length,aH,aA,rfl,rfl,((((Q.trans F).trans ab).trans aw).trans ay),bf,(M0 _),ba,bb,(I0.mono ay av),a⟩
  ·obtain rfl:=oJ a
   try dsimp only[U0,Y0]at c
   obtain rfl:=oJ c
   exact⟨([.int .i64 k,.int .i64 g,.slice u o.length x]),t,i.length,w,rfl,(l0 J K E),P,((S.trans m).trans Q)⟩
theorem m08(h:Hp)(c:List Value)(e:j0)(F:C1.R h c e)(r:j0)(a:b9 e=some r):
  Tr Tryz.prog 242 #[.agg c.toArray] h λv d=>∃(b:List Value),v = .agg b.toArray/\C1.R d b r/\Sub h d:=by
 obtain⟨C,D,o,ak,q,E,rfl,rfl,t,u,f⟩:=C0 F
 obtain⟨rfl,ae⟩:=Sl.len f
 unfold b9 at a
 dsimp only at a
 refine A2 (args:=[.agg #[.int .i64 C,.int .i64 D,.slice o E.length q]]) (fn:=Tryz.f242) rfl ?_
 refine trM a (s0h _ _ _ (l0 t u f)) ?_
 rintro K a aq ab ⟨U,Q,am,Y,rfl,g,j,H⟩
 obtain⟨av,az⟩:=K
 dsimp only at a g j
 obtain⟨aw,ax,P,al,X,ay,rfl,rfl,w,x,i⟩:=C0 g
 obtain⟨rfl,af⟩:=Sl.len i
 try dsimp only at a
 obtain⟨rfl,ag⟩:=Sl.len j
 refine trM a (g0e _ _ _ (l0 w x i)) ?_
 rintro L a ar ac ⟨V,T,ao,aa,rfl,k,m,I⟩
 obtain⟨aA,aE⟩:=L
 dsimp only at a k m
 obtain⟨aB,aC,S,an,Z,aD,rfl,rfl,y,z,l⟩:=C0 k
 obtain⟨rfl,ah⟩:=Sl.len l
 try dsimp only at a
 obtain⟨rfl,ai⟩:=Sl.len m
 refine trM a (Z04 _ _ _ (l0 y z l)) ?_
 rintro aF a au ad ⟨W,rfl,G,J⟩
 obtain⟨M,N,p,ap,s,O,rfl,rfl,A,B,n⟩:=C0 G
 obtain⟨rfl,aj⟩:=Sl.len n
 try dsimp only at a
 obtain rfl:=oJ a
 exact⟨([.int .i64 M,.int .i64 N,.slice p O.length s]),rfl,(l0 A B n),((H.trans I).trans J)⟩
theorem Q05(h:Hp)(n:List Value)(t:j0)(M:C1.R h n t)(f:Option Addr)(s g:Nat)(i:B0)(u:D0.R h [.slice f s g] i)(r:Bool)(b:K00 t i=some r):
  Tr Tryz.prog 180 #[.agg n.toArray,.slice f s g] h λv G=>v = .bool r/\G=h:=by
 obtain⟨J,K,z,aj,B,L,rfl,rfl,o,p,j⟩:=C0 M
 obtain⟨rfl,af⟩:=Sl.len j
 obtain⟨rfl,ag⟩:=Sl.len u
 unfold K00 at b
 dsimp only at b
 refine Tr.forget (A2 (args:=[.agg #[.int .i64 J,.int .i64 K,.slice z L.length B],.slice f i.length g]) (fn:=Tryz.f180) rfl ?_)
 refine Or.inr (Or.inr (Or.inr (Or.inl (aI (aI (by kernel_rfl) (by kernel_rfl)) ?_))))
 obtain⟨d,E,b⟩:=z0 b
 refine Or.inr (eX (λv H=>∃(a:Option Addr) (c:Nat),v = .slice a d.length c/\D0.R H [.slice a d.length c] d/\d.length<=9223372036854775807) (aI (λv W X k q=>by obtain⟨a,c,e,r,l⟩:=q;exact⟨a,c,e,D0.mono k r,l⟩) (aI ?_ ?_)))
 ·intro ab O
  refine Tr.mono (z03 _ _ _ _ _ (D0.mono O u) _ E) ?_
  rintro _ ae ⟨A,ak,C,rfl,w,k⟩
  obtain⟨rfl,I⟩:=Sl.len w
  exact aI M5 (aI k ⟨A,C,rfl,w,I⟩)
 obtain⟨Q,F,b⟩:=z0 b
 obtain⟨m,y⟩:=Q
 try dsimp only at b
 obtain⟨al,D,b⟩:=z0 b
 have Y:J0 m:=E2 D
 refine Or.inl (eX (.val (.tuple #[.int .i64 m,.bool y])) (aI ?_ ?_))
 ·intro ac P
  rintro _ ⟨T,V,rfl,N,ai⟩
  exact Tr.val (X08 _ _ _ (l0 o p (I0.mono P j)) 0 (by decide) _ _ _ _ N _ F) (aI rfl (aI rfl rfl))
 refine Or.inl (eX (.val (.int .i64 m)) (aI ?_ ?_))
 ·intro ad an
  exact aI rfl (aI rfl rfl)
 refine Or.inl (eX (.val (.bool y)) (aI ?_ ?_))
 ·intro Z ao
  exact aI rfl (aI rfl rfl)
 intro aa x
 rintro _ ⟨S,U,rfl,am,ah⟩
 refine trV b (z8 _ _ _ (l0 o p (I0.mono x j))) λap b=>?_
 obtain rfl:=oJ b
 exact aI rfl x
theorem c0a(h:Hp)(j:List Value)(n:j0)(E:C1.R h j n)(r:Bool)(b:z00 n=some r):
  Tr Tryz.prog 226 #[.agg j.toArray] h λv y=>v = .bool r/\y=h:=by
 obtain⟨B,C,p,X,t,D,rfl,rfl,k,m,g⟩:=C0 E
 obtain⟨rfl,V⟩:=Sl.len g
 unfold z00 at b
 dsimp only at b
 refine Tr.forget (A2 (args:=[.agg #[.int .i64 B,.int .i64 C,.slice p D.length t]]) (fn:=Tryz.f226) rfl ?_)
 refine aI (by kernel_rfl) ?_
 obtain⟨I,w,b⟩:=z0 b
 refine Or.inl (eX (.val (.bool I)) (aI ?_ ?_))
 ·intro Q G
  exact Tr.val (z8 _ _ _ (l0 k m (I0.mono G g)) _ w) (aI rfl (aI rfl rfl))
 obtain⟨d,x,b⟩:=z0 b
 refine Or.inr (eX (λv z=>∃(a:Option Addr) (c:Nat),v = .slice a d.length c/\I0.R z [.slice a d.length c] d/\d.length<=9223372036854775807) (aI (λv M N i q=>by obtain⟨a,c,e,r,l⟩:=q;exact⟨a,c,e,I0.mono i r,l⟩) (aI ?_ ?_)))
 ·intro S H f
  refine Tr.mono (K0a _ _ _ (l0 k m (I0.mono H g)) _ (T7 x f)) ?_
  rintro _ U ⟨s,Y,u,rfl,o,i⟩
  obtain⟨rfl,A⟩:=Sl.len o
  exact aI M5 (aI i ⟨s,u,rfl,o,A⟩)
 obtain⟨Z,L,b⟩:=z0 b
 refine Or.inl (eX (.val (.int .i64 ((d.length:Nat):Int))) (aI ?_ ?_))
 ·intro T ac f
  rintro _ ⟨J,K,rfl,aa,W⟩
  exact aI rfl (aI rfl rfl)
 refine Or.inl (eX (.val (.bool (decide (((d.length:Nat):Int)=0)))) (aI ?_ ?_))
 ·intro O ab f
  exact aI rfl (aI rfl rfl)
 intro P F
 obtain rfl:=oJ b
 exact aI rfl F
theorem Y08(h:Hp)(t:List Value)(y:j0)(ad:C1.R h t y)(c:Int)(u:J0 c)(r:j0×Bool)(a:M8 y c=some r):
  Tr Tryz.prog 253 #[.agg t.toArray,.int .i64 c] h λv f=>∃(s:List Value),v = .tuple #[.agg s.toArray,.bool r.2]/\C1.R f s r.1/\Sub h f:=by
 obtain⟨ab,j,F,aH,H,ac,rfl,rfl,m,n,k⟩:=C0 ad
 obtain⟨rfl,aC⟩:=Sl.len k
 unfold M8 at a
 dsimp only at a
 refine A2 (args:=[.agg #[.int .i64 ab,.int .i64 j,.slice F ac.length H],.int .i64 c]) (fn:=Tryz.f253) rfl ?_
 refine trV a (I7 _ _ _ (l0 m n k)) λaR a=>?_
 refine trG a (λq=>C5 _ _ u 0 (by decide) (IntKind.i64.wrap (j-1)) (M0 _)) λaX a=>?_
 refine ifB a (λT a=>?_) λT a=>?_
 ·refine trM a (J7 _ _ _ (l0 m n k)) ?_
  rintro an a aQ aa ⟨O,aL,J,rfl,o⟩
  have ai:Sub h aa:=o.sub
  have C:=o.r
  obtain⟨ao,ap,aq⟩:=an
  dsimp only at a o C
  obtain⟨_,_,_,_,_,_,K,L,Y,Z,D⟩:=C0 C
  cases K
  cases L
  obtain⟨rfl,aF⟩:=Sl.len D
  try dsimp only at a
  obtain rfl:=oJ a
  exact⟨([.int .i64 ao,.int .i64 ap,.slice (some ⟨O,0,none⟩) aq.length J]),rfl,(l0 Y Z D),ai⟩
 ·obtain⟨p,P,a⟩:=z0 a
  refine eX { vars:=[7],boxes:=[],owns:=[0],fuel:=true } (eX (λvs os f=>∃ u8 i d,vs.tail = [.int .i64 u8]/\os = [i]/\Sub h f/\J0 u8/\F2 (Wp.int.R f) i d/\p5 j c (Z1 vs) u8 d=some p) (eX (λ_ _=>0) (aI (eX T0 ⟨0,([[.int .i64 c]]:List (List Value)),[c],rfl,rfl,(Sub.refl _),(by decide),(show F2 (Wp.int.R h) ([[.int .i64 c]]:List (List Value)) [c] from⟨⟨rfl,u⟩,trivial⟩),P⟩) ?_)))
  rintro _ i g x ⟨u8,aZ,d,⟨⟩,⟨⟩,l,w,e,b⟩
  replace b:p5 j c g u8 d=some p:=b
  obtain _|g:=g
  ·cases b
  rw[p5.eq_2]at b
  refine ifB b (λQ b=>?_) λQ b=>?_
  ·refine ifB b (λS b=>?_) λS b=>?_
   ·obtain⟨aM,N,b⟩:=z0 b
    refine aI (P1 N (by first|rw[F2.length e,F2.length (show F2 (Wp.int.R x) ([[.int .i64 u8]]:List (List Value)) [u8] from⟨⟨rfl,w⟩,trivial⟩)]|exact congrArg (·+1) (F2.length e))) ?_
    exact L2 g ⟨(IntKind.i64.wrap (u8+1)),(i++([[.int .i64 u8]]:List (List Value))),(d ++ [u8]),rfl,rfl,l,(M0 _),(F2.append e (show F2 (Wp.int.R x) ([[.int .i64 u8]]:List (List Value)) [u8] from⟨⟨rfl,w⟩,trivial⟩)),b⟩
   ·exact L2 g ⟨(IntKind.i64.wrap (u8+1)),i,d,rfl,rfl,l,(M0 _),e,b⟩
  ·obtain rfl:=oJ b
   try dsimp only[U0,Y0]at a
   refine Or.inl ?_
   intro aN az M
   obtain⟨au,ay,rfl,af,E,aG⟩:=Z0.out (r:=Wp.int.toRp) M e
   refine trM a (A03 _ _ _ (l0 m n (I0.mono (l.trans E) k)) _ _ _ _ af) ?_
   rintro aj a aO aA ⟨av,rfl,z,ag⟩
   obtain⟨aS,aW⟩:=aj
   dsimp only at a z
   obtain⟨aT,aU,ar,aJ,ax,aV,rfl,rfl,U,V,A⟩:=C0 z
   obtain⟨rfl,aD⟩:=Sl.len A
   try dsimp only at a
   refine trM a (m08 _ _ _ (l0 U V A)) ?_
   rintro aY a aP aB ⟨aw,rfl,ae,ah⟩
   obtain⟨ak,al,G,aK,I,am,rfl,rfl,W,X,B⟩:=C0 ae
   obtain⟨rfl,aE⟩:=Sl.len B
   try dsimp only at a
   obtain rfl:=oJ a
   exact⟨([.int .i64 ak,.int .i64 al,.slice G am.length I]),rfl,(l0 W X B),(((l.trans E).trans ag).trans ah)⟩
set_option maxHeartbeats 0
theorem c0f(h:Hp)(ao:List Value)(aL:j0)(cb:C1.R h ao aL)(j:Int)(b1:J0 j)(r:(List Bool)×Y1)(f:P02 aL j=some r):
  Tr Tryz.prog 343 #[.agg ao.toArray,.int .i64 j] h λv s=>∃(aj:Option Addr) (aH am:Nat) (ak:Option Addr) (aJ an:Nat),v = .tuple #[.slice aj aH am,.slice ak aJ an]/\(Wp.slice Wp.bool).R s [.slice aj aH am] r.1/\j2.R s [.slice ak aJ an] r.2/\Sub h s:=by
 obtain⟨Q,u,aT,di,bc,S,rfl,rfl,aC,b0,aM⟩:=C0 cb
 obtain⟨rfl,c4⟩:=Sl.len aM
 unfold P02 at f
 dsimp only at f
 refine A2 (args:=[.agg #[.int .i64 Q,.int .i64 u,.slice aT S.length bc],.int .i64 j]) (fn:=Tryz.f343) rfl ?_
 obtain⟨dt,bB,f⟩:=z0 f
 refine aI (E2 bB) ?_
 obtain⟨du,bC,f⟩:=z0 f
 refine aI (E2 bC) ?_
 obtain⟨dM,bH,f⟩:=z0 f
 obtain⟨aZ,cy,bi,cc⟩:=J5 (F2.rep (p:=Wp.bool.R h) (a:=[.bool false]) (b:=false) rfl (u.toNat)) bH
 refine aI aZ ?_
 obtain rfl:=cc
 refine eX _ (aI bi ?_)
 obtain⟨dR,bM,f⟩:=z0 f
 obtain⟨a2,cD,bl,aN⟩:=J5 (F2.rep (p:=D0.R h) (a:=[.slice none 0 0]) (b:=[]) (b09 Wp.int h) (u.toNat)) bM
 refine aI a2 ?_
 obtain⟨cv,dj,cJ,rfl⟩:=Wp.slice_cell aN
 obtain⟨rfl,c5⟩:=Sl.len aN
 intro dI aE bu
 obtain⟨al,aq,rfl,cl,ab,df⟩:=Z0.out (r:=Wp.int.toRp) bu (show F2 (Wp.int.R h) ([]:List (List Value)) ([]:B0) from trivial)
 refine eX _ (aI bl ?_)
 refine trM f (L03 _ _ aC) ?_
 rintro Y f dH b5 ⟨aW,dn,be,rfl,ag,U⟩
 obtain⟨rfl,c8⟩:=Sl.len ag
 obtain⟨ah,bT,f⟩:=z0 f
 refine eX { vars:=[10],boxes:=[],owns:=[0,1,3],fuel:=true,kept:=[0,1] } (eX (λvs os s=>∃ y ac H ad I W V,vs.tail = [.int .i64 y]/\os = [ac,ad,W]/\Sub b5 s/\J0 y/\F2 (Wp.bool.R s) ac H/\F2 (D0.R s) ad I/\F2 (Wp.int.R s) W V/\B9 Y Q u S (Z1 vs) y H I V=some ah) (eX (λ_ _=>0) (aI (eX T0 ⟨0,((List.replicate u.toNat ([.bool false]:List Value)).set j.toNat [.bool true]),((List.replicate u.toNat (false:Bool)).set j.toNat true),((List.replicate u.toNat ([.slice none 0 0]:List Value)).set j.toNat [.slice al (([]:B0)).length aq]),((List.replicate u.toNat ([]:B0)).set j.toNat ([]:B0)),([[.int .i64 j]]:List (List Value)),[j],rfl,rfl,(Sub.refl _),(by decide),(F2.up (r:=Wp.bool.toRp) (ab.trans U) (F2.set (p:=Wp.bool.R h) (a:=[.bool true]) (b:=true) rfl j.toNat (F2.rep (p:=Wp.bool.R h) (a:=[.bool false]) (b:=false) rfl (u.toNat)))),(F2.up (r:=D0.toRp) U (F2.set (p:=D0.R aE) (a:=[.slice al (([]:B0)).length aq]) (b:=([]:B0)) cl j.toNat (F2.up (r:=D0.toRp) ab (F2.rep (p:=D0.R h) (a:=[.slice none 0 0]) (b:=[]) (b09 Wp.int h) (u.toNat))))),(F2.up (r:=Wp.int.toRp) U (show F2 (Wp.int.R aE) ([[.int .i64 j]]:List (List Value)) [j] from⟨⟨rfl,b1⟩,trivial⟩)),bT⟩) ?_)))
 rintro _ ac ad W aa b6 ⟨y,dT,H,dU,I,dV,V,⟨⟩,⟨⟩,T,cQ,au,av,aw,i⟩
 replace i:B9 Y Q u S aa y H I V=some ah:=i
 obtain _|aa:=aa
 ·cases i
 rw[B9.eq_2]at i
 obtain⟨b8,bA,i⟩:=z0 i
 obtain rfl:W.length=b8:=(F2.length aw).trans (oJ bA)
 obtain⟨dv,cN,i⟩:=z0 i
 refine ifB i (λbW i=>?_) λbW i=>?_
 ·obtain⟨ai,bU,i⟩:=z0 i
  refine eX { vars:=[11],boxes:=[],owns:=[0,1,3],fuel:=true,kept:=[0,1] } (eX (λvs os s=>∃ z J D K E L F,vs.tail = [.int .i64 z]/\os = [J,K,L]/\Sub b6 s/\J0 z/\F2 (Wp.bool.R s) J D/\F2 (D0.R s) K E/\F2 (Wp.int.R s) L F/\i7 Y y Q u S (Z1 vs) z D E F=some ai) (eX (λ_ _=>0) (aI (eX T0 ⟨0,ac,H,ad,I,W,V,rfl,rfl,(Sub.refl _),(by decide),au,av,aw,bU⟩) ?_)))
  rintro _ J K L P Z ⟨z,dW,D,dX,E,dY,F,⟨⟩,⟨⟩,G,cR,M,N,B,d⟩
  replace d:i7 Y y Q u S P z D E F=some ai:=d
  obtain _|P:=P
  ·cases d
  rw[i7.eq_2]at d
  refine ifB d (λbX d=>?_) λbX d=>?_
  ·refine Or.inl (aI (aI (by kernel_rfl) (by kernel_rfl)) ?_)
   obtain⟨dN,bI,d⟩:=z0 d
   obtain⟨a0,cz,bj,cd⟩:=J5 B bI
   refine aI a0 ?_
   obtain⟨rfl,b2⟩:=cd
   refine eX _ (aI bj ?_)
   refine ldI d (D0.mono (T.trans G) ag) λdO b3 d=>?_
   obtain⟨m,bJ,d⟩:=z0 d
   refine eX (.int .i64 m) (aI (G00 _ _ _ (l0 aC b0 (I0.mono (((ab.trans U).trans T).trans G) aM)) _ b2 _ b3 _  bJ) ?_)
   obtain⟨dw,bD,d⟩:=z0 d
   have aD:J0 m:=E2 bD
   obtain⟨dP,bK,d⟩:=z0 d
   obtain⟨cA,ar,ce⟩:=F05 M bK (o0r Z)
   refine aI (λq=>(ar q).1) ?_
   obtain rfl:=ce
   refine eX _ (aI (λq=>(ar q).2) ?_)
   refine ifB d (λbY d=>?_) λbY d=>?_
   ·obtain⟨dQ,bL,d⟩:=z0 d
    obtain⟨a1,cC,bk,cf⟩:=J5 M bL
    refine aI a1 ?_
    obtain rfl:=cf
    refine eX _ (aI bk ?_)
    refine Or.inr (Or.inr (Or.inr (Or.inr (eX 16 (aI (aI (by kernel_rfl) (by kernel_rfl)) ?_)))))
    refine Or.inr (eX (λv O=>∃(g:Nat),v = .slice (some ⟨g,0,none⟩) 0 0/\Z g=none/\∃ e,O g=some (.cells #[] e (0,0))) (aI (λv az aA C q=>by obtain⟨g,e,n,t,c⟩:=q;exact⟨g,e,n,t,C _ _ c⟩) (aI ?_ ?_)))
    ·intro cT co
     intro g aB
     exact aI M5 (aI (Sub.set aB) ⟨g,rfl,Sub.back co aB,_,Hp.set_same _ _ _⟩)
    obtain⟨ct,bN,d⟩:=z0 d
    obtain⟨a3,cE,bm,cg⟩:=J5 B bN
    obtain⟨rfl,cS⟩:=cg
    refine Or.inl ?_
    apply eX
    refine aI ?_ ?_
    ·intro cU dA
     exact aI a3 (aI rfl (aI rfl rfl))
    refine Or.inl (eX (.val (.int .i64 ct)) (aI ?_ ?_))
    ·intro cV dB
     exact eX _ (aI bm (aI rfl (aI rfl rfl)))
    obtain⟨x,bO,d⟩:=z0 d
    obtain⟨a4,cG,bn,af⟩:=J5 N bO
    obtain⟨aV,dk,bd,rfl⟩:=Wp.slice_cell af
    obtain⟨rfl,c6⟩:=Sl.len af
    refine Or.inl ?_
    apply eX
    refine aI ?_ ?_
    ·intro cW dC
     exact aI a4 (aI rfl (aI rfl rfl))
    refine Or.inl (eX (.val (.slice aV x.length bd)) (aI ?_ ?_))
    ·intro cX dD
     exact eX _ (aI bn (aI rfl (aI rfl rfl)))
    obtain⟨dx,bE,d⟩:=z0 d
    refine Or.inr (eX (λv O=>∃(g o c:Nat),v = .slice (some ⟨g,o,none⟩) x.length c/\New D0 Z O [.slice (some ⟨g,o,none⟩) x.length c] x/\x.length<=9223372036854775807) (aI (λv az aA C q=>by obtain⟨g,o,c,e,r,l⟩:=q;exact⟨g,o,c,e,New.mono r C,l⟩) (aI ?_ ?_)))
    ·intro cY aQ
     rintro _ ⟨cO,rfl,ca,bf⟩
     obtain⟨cr,bs,b7,cu,bz⟩:=New.appZ (r:=Wp.int) ca bf aQ (D0.mono aQ af) (G05 _)
     exact eX cr (aI bs (aI (P1 bE b7) (aI (λbZ=>aI M5 (aI (Sub.refl _) (cu bZ))) (λv bS hf=>aI M5 (bz v bS _ hf)))))
    obtain⟨X,bP,d⟩:=z0 d
    obtain⟨ba,cH,bo,ch⟩:=Sl.getI (r:=Wp.int.toRp) (D0.mono (T.trans G) ag) bP (by decide)
    obtain⟨rfl,b4⟩:=ch
    refine Or.inl (eX (.hel (.slice aW Y.length be) z 1 0) (aI ?_ ?_))
    ·intro cZ dE
     exact aI ba (aI rfl (aI rfl rfl))
    refine Or.inl (eX (.val (.int .i64 X)) (aI ?_ ?_))
    ·intro c0 cp
     exact eX _ (aI (Z9.up cp bo) (aI rfl (aI rfl rfl)))
    obtain⟨w,bQ,d⟩:=z0 d
    refine Or.inr (eX (λv O=>∃(a:Option Addr) (c:Nat),v = .slice a w.length c/\D0.R O [.slice a w.length c] w/\w.length<=9223372036854775807) (aI (λv az aA C q=>by obtain⟨a,c,e,r,l⟩:=q;exact⟨a,c,e,D0.mono C r,l⟩) (aI ?_ ?_)))
    ·intro aF dF
     have bp:[X]=w:=oJ bQ
     intro v k hf
     obtain⟨a,c,rfl,r,C,l⟩:=Z0.out (r:=Wp.int.toRp) (xs:=w) hf (show F2 (Wp.int.R aF) [[.int .i64 X]] w from bp▸(show F2 (Wp.int.R aF) [[.int .i64 X]] [X] from⟨⟨rfl,b4⟩,trivial⟩))
     exact aI ⟨rfl,rfl,rfl,[_],rfl⟩ (aI C ⟨a,c,rfl,r,l⟩)
    intro c1 dG
    rintro _ ⟨cx,cL,rfl,cj,db⟩
    rintro _ ⟨cP,ds,cM,rfl,ck,dc⟩
    rintro _ _
    obtain⟨cq,br,ax⟩:=Sl.rows (r:=Wp.int.toRp) cj
    refine eX cq (aI br ?_)
    obtain⟨dy,bF,d⟩:=z0 d
    obtain⟨cs,ci,aG,aU⟩:=New.app ck (Sub.refl _)
    refine eX cs (aI ci (aI (P1 bF (by first|rw[aG,F2.length ax]|(rw[aG];rfl))) ?_))
    intro dL ae bV
    obtain⟨A,ay,aK,dq,ap,rfl⟩:=aU _ _ _ _ _ (F3.ofPlain (G05 _) ax) l4.ofPlain bV
    have aP:=A.r
    obtain⟨bt,dd⟩:=Sl.len aP
    subst bt
    obtain⟨dS,bR,d⟩:=z0 d
    obtain⟨bb,cI,bq,aO⟩:=J5 (F2.up (r:=D0.toRp) A.sub N) bR
    refine aI bb ?_
    obtain⟨cw,dm,cK,rfl⟩:=Wp.slice_cell aO
    obtain⟨rfl,c7⟩:=Sl.len aO
    refine eX _ (aI bq ?_)
    obtain⟨dz,bG,d⟩:=z0 d
    refine aI (P1 bG (by first|rw[F2.length (F2.up (r:=Wp.int.toRp) A.sub B),F2.length (show F2 (Wp.int.R ae) ([[.int .i64 m]]:List (List Value)) [m] from⟨⟨rfl,aD⟩,trivial⟩)]|exact congrArg (·+1) (F2.length (F2.up (r:=Wp.int.toRp) A.sub B)))) ?_
    exact L2 P ⟨(IntKind.i64.wrap (z+1)),(J.set m.toNat [.bool true]),(D.set m.toNat true),(K.set m.toNat [.slice (some ⟨ay,aK,none⟩) (x++w).length ap]),(E.set m.toNat (x++w)),(L++([[.int .i64 m]]:List (List Value))),(F ++ [m]),rfl,rfl,(G.trans A.sub),(M0 _),(F2.up (r:=Wp.bool.toRp) A.sub (F2.set (p:=Wp.bool.R Z) (a:=[.bool true]) (b:=true) rfl m.toNat M)),(F2.set (p:=D0.R ae) (a:=[.slice (some ⟨ay,aK,none⟩) (x++w).length ap]) (b:=(x++w)) aP m.toNat (F2.up (r:=D0.toRp) A.sub N)),(F2.append (F2.up (r:=Wp.int.toRp) A.sub B) (show F2 (Wp.int.R ae) ([[.int .i64 m]]:List (List Value)) [m] from⟨⟨rfl,aD⟩,trivial⟩)),d⟩
   ·exact L2 P ⟨(IntKind.i64.wrap (z+1)),J,D,K,E,L,F,rfl,rfl,G,(M0 _),M,N,B,d⟩
  ·obtain rfl:=oJ d
   try dsimp only[U0,Y0]at i
   exact L2 aa ⟨(IntKind.i64.wrap (y+1)),J,D,K,E,L,F,rfl,rfl,(T.trans G),(M0 _),M,N,B,i⟩
 ·obtain rfl:=oJ i
  try dsimp only[U0,Y0]at f
  intro dJ c2 bv
  obtain⟨aX,bg,rfl,cm,aR,dg⟩:=Z0.out (r:=Wp.bool.toRp) bv au
  intro dK c3 bx
  obtain⟨aY,bh,rfl,cn,aS,dh⟩:=Z0.out (r:=D0.toRp) bx (F2.up (r:=D0.toRp) aR av)
  obtain rfl:=oJ f
  exact⟨aX,H.length,bg,aY,I.length,bh,rfl,((Wp.slice Wp.bool).mono aS cm),cn,((((ab.trans U).trans T).trans aR).trans aS)⟩
theorem d0f(h:Hp)(m:List Value)(y:j0)(Q:C1.R h m y)(c:Int)(w:J0 c)(d:Int)(N:J0 d)(r:B0×Bool)(a:Q9 y c d=some r):
  Tr Tryz.prog 321 #[.agg m.toArray,.int .i64 c,.int .i64 d] h λv K=>∃(s:Nat) (x l:Nat),v = .tuple #[.slice (some ⟨s,0,none⟩) x l,.bool r.2]/\New D0 h K [.slice (some ⟨s,0,none⟩) x l] r.1:=by
 obtain⟨O,f,A,ao,B,P,rfl,rfl,t,u,g⟩:=C0 Q
 obtain⟨rfl,ah⟩:=Sl.len g
 unfold Q9 at a
 dsimp only at a
 refine A2 (args:=[.agg #[.int .i64 O,.int .i64 f,.slice A P.length B],.int .i64 c,.int .i64 d]) (fn:=Tryz.f321) rfl ?_
 refine trV a (I7 _ _ _ (l0 t u g)) λaF a=>?_
 refine trG a (λq=>C5 _ _ w 0 (by decide) (IntKind.i64.wrap (f-1)) (M0 _)) λaH a=>?_
 refine trG a (λq=>C5 _ _ N 0 (by decide) (IntKind.i64.wrap (f-1)) (M0 _)) λaJ a=>?_
 refine ifB a (λM a=>?_) λM a=>?_
 ·intro aE ag p
  obtain⟨J,E,rfl,ax,aA,an⟩:=Z0.outS (r:=Wp.int.toRp) p (show F2 (Wp.int.R h) ([]:List (List Value)) ([]:B0) from trivial)
  obtain rfl:=oJ a
  exact⟨J,(([]:B0)).length,E,rfl,(Z0.newPlain (r:=Wp.int) p (show F2 (Wp.int.R h) ([]:List (List Value)) ([]:B0) from trivial) (G05 _))⟩
 ·refine trM a (c0f _ _ _ (l0 t u g) _ w) ?_
  rintro V a aB b ⟨X,aq,ac,Y,ar,ad,rfl,j,k,z⟩
  obtain⟨aK,aL⟩:=V
  dsimp only at a j k
  obtain⟨rfl,aj⟩:=Sl.len j
  obtain⟨rfl,ak⟩:=Sl.len k
  refine ld a j λaG Z S a=>?_
  obtain rfl:=S
  refine ifB a (λL a=>?_) λL a=>?_
  ·intro aC ae n
   obtain⟨H,C,rfl,av,ay,al⟩:=Z0.outS (r:=Wp.int.toRp) n (show F2 (Wp.int.R b) ([]:List (List Value)) ([]:B0) from trivial)
   obtain rfl:=oJ a
   exact⟨H,(([]:B0)).length,C,rfl,(New.from (Z0.newPlain (r:=Wp.int) n (show F2 (Wp.int.R b) ([]:List (List Value)) ([]:B0) from trivial) (G05 _)) z)⟩
  ·refine ld a k λU aa i a=>?_
   obtain⟨W,ap,ab,rfl⟩:=Wp.slice_cell i
   obtain⟨rfl,ai⟩:=Sl.len i
   obtain⟨T,F,e⟩:=Sl.rows (r:=Wp.int.toRp) i
   refine eX T (aI F ?_)
   obtain⟨au,G,a⟩:=z0 a
   refine aI (P1 G (by first|rw[F2.length (show F2 (Wp.int.R b) ([]:List (List Value)) ([]:B0) from trivial),F2.length e]|exact congrArg (·+1) (F2.length (show F2 (Wp.int.R b) ([]:List (List Value)) ([]:B0) from trivial)))) ?_
   intro aD af o
   obtain⟨I,D,rfl,aw,az,am⟩:=Z0.outS (r:=Wp.int.toRp) o (F2.append (show F2 (Wp.int.R b) ([]:List (List Value)) ([]:B0) from trivial) e)
   obtain rfl:=oJ a
   exact⟨I,((([]:B0)++U)).length,D,rfl,(New.from (Z0.newPlain (r:=Wp.int) o (F2.append (show F2 (Wp.int.R b) ([]:List (List Value)) ([]:B0) from trivial) e) (G05 _)) z)⟩
theorem g04(h:Hp)(e:List Value)(i:j0)(y:C1.R h e i)(b:Int)(s:J0 b)(r:B0)(a:z01 i b=some r):
  Tr Tryz.prog 255 #[.agg e.toArray,.int .i64 b] h λv o=>∃(f:Nat) (g d:Nat),v = .slice (some ⟨f,0,none⟩) g d/\New D0 h o [.slice (some ⟨f,0,none⟩) g d] r:=by
 obtain⟨u,w,k,E,l,x,rfl,rfl,p,q,j⟩:=C0 y
 obtain⟨rfl,C⟩:=Sl.len j
 unfold z01 at a
 dsimp only at a
 refine A2 (args:=[.agg #[.int .i64 u,.int .i64 w,.slice k x.length l],.int .i64 b]) (fn:=Tryz.f255) rfl ?_
 refine trM a (d0f _ _ _ (l0 p q j) 0 (by decide) _ s) ?_
 rintro A a H t ⟨n,F,m,rfl,c⟩
 obtain⟨B,I⟩:=A
 dsimp only at a c
 have G:Sub h t:=c.sub
 have z:=c.r
 obtain⟨rfl,D⟩:=Sl.len z
 obtain rfl:=oJ a
 exact⟨n,B.length,m,rfl,c⟩
theorem e0f(h:Hp)(o:Option Addr)(D q:Nat)(l:Y1)(t:j2.R h [.slice o D q] l)(p:Option Addr)(E s:Nat)(m:B0)(f:D0.R h [.slice p E s] m)(r:B0)(e:Q02 l m=some r):
  Tr Tryz.prog 178 #[.slice o D q,.slice p E s] h λv k=>∃(y:Option Addr) (C z:Nat),v = .slice y C z/\D0.R k [.slice y C z] r/\Sub h k:=by
 obtain⟨rfl,ay⟩:=Sl.len t
 obtain⟨rfl,az⟩:=Sl.len f
 unfold Q02 at e
 refine A2 (args:=[.slice o l.length q,.slice p m.length s]) (fn:=Tryz.f178) rfl ?_
 obtain⟨x,Q,e⟩:=z0 e
 refine eX { vars:=[6],boxes:=[],owns:=[0],fuel:=true } (eX (λvs os k=>∃ d j g,vs.tail = [.int .i64 d]/\os = [j]/\Sub h k/\J0 d/\F2 (Wp.int.R k) j g/\A6 m l (Z1 vs) d g=some x) (eX (λ_ _=>0) (aI (eX T0 ⟨0,[],([]:B0),rfl,rfl,(Sub.refl _),(by decide),(show F2 (Wp.int.R h) ([]:List (List Value)) ([]:B0) from trivial),Q⟩) ?_)))
 rintro _ j i ax ⟨d,aW,g,⟨⟩,⟨⟩,b,al,c,a⟩
 replace a:A6 m l i d g=some x:=a
 obtain _|i:=i
 ·cases a
 rw[A6.eq_2]at a
 refine ifB a (λT a=>?_) λT a=>?_
 ·refine ldI a (D0.mono b f) λaU aq a=>?_
  refine ldG a (D0.mono b f) λaV ar a=>?_
  refine ifB a (λU a=>?_) λU a=>?_
  ·refine ldI a (D0.mono b f) λaP am a=>?_
   refine ld a (j2.mono b t) λY af u a=>?_
   obtain⟨ab,aF,ah,rfl⟩:=Wp.slice_cell u
   obtain⟨rfl,aA⟩:=Sl.len u
   obtain⟨H,L,A⟩:=Sl.rows (r:=Wp.int.toRp) u
   refine eX H (aI L ?_)
   obtain⟨aK,O,a⟩:=z0 a
   refine aI (P1 O (by first|rw[F2.length c,F2.length A]|exact congrArg (·+1) (F2.length c))) ?_
   exact L2 i ⟨(IntKind.i64.wrap (d+1)),(j++H),(g++Y),rfl,rfl,b,(M0 _),(F2.append c A),a⟩
  ·refine ldI a (D0.mono b f) λaQ an a=>?_
   refine ldG a (D0.mono b f) λaR ao a=>?_
   refine ifB a (λS a=>?_) λS a=>?_
   ·refine ldI a (D0.mono b f) λaS ap a=>?_
    refine ld a (j2.mono b t) λaT ag w a=>?_
    obtain⟨ac,aG,ai,rfl⟩:=Wp.slice_cell w
    obtain⟨rfl,aB⟩:=Sl.len w
    refine trM a (c03 _ _ _ _ _ w) ?_
    rintro Z a aM au ⟨ad,aH,aj,rfl,F,n⟩
    obtain⟨rfl,aC⟩:=Sl.len F
    obtain⟨I,M,B⟩:=Sl.rows (r:=Wp.int.toRp) F
    refine eX I (aI M ?_)
    obtain⟨aL,P,a⟩:=z0 a
    refine aI (P1 P (by first|rw[F2.length (F2.up (r:=Wp.int.toRp) n c),F2.length B]|exact congrArg (·+1) (F2.length (F2.up (r:=Wp.int.toRp) n c)))) ?_
    exact L2 i ⟨(IntKind.i64.wrap (d+1)),(j++I),(g++Z),rfl,rfl,(b.trans n),(M0 _),(F2.append (F2.up (r:=Wp.int.toRp) n c) B),a⟩
   ·exact L2 i ⟨(IntKind.i64.wrap (d+1)),j,g,rfl,rfl,b,(M0 _),c,a⟩
 ·obtain rfl:=oJ a
  try dsimp only[U0,Y0]at e
  refine Or.inl ?_
  intro aN av N
  obtain⟨ae,ak,rfl,V,X,aE⟩:=Z0.out (r:=Wp.int.toRp) N c
  refine trM e (z03 _ _ _ _ _ V) ?_
  rintro aa e aO aw ⟨J,aJ,K,rfl,G,W⟩
  obtain⟨rfl,aD⟩:=Sl.len G
  obtain rfl:=oJ e
  exact⟨J,aa.length,K,rfl,G,((b.trans X).trans W)⟩
theorem O05(h:Hp)(b:Option Addr)(j c:Nat)(a:B0)(k:D0.R h [.slice b j c] a)(r:B0)(d:g9 a=some r):
  Tr Tryz.prog 200 #[.slice b j c] h λv n=>∃(f:Option Addr) (i g:Nat),v = .slice f i g/\New D0 h n [.slice f i g] r:=by
 obtain⟨rfl,y⟩:=Sl.len k
 unfold g9 at d
 refine A2 (args:=[.slice b a.length c]) (fn:=Tryz.f200) rfl ?_
 refine Or.inl ?_
 intro D o f3
 obtain⟨w,x,rfl,s,t,A⟩:=Z0.out (r:=D0.toRp) f3 (show F2 (D0.R h) ([[.slice b a.length c]]:List (List Value)) [a] from⟨k,trivial⟩)
 refine trM d (M06 _ _ _ _ _ s) ?_
 rintro u d E p ⟨l,B,m,rfl,e⟩
 have C:Sub o p:=e.sub
 have q:=e.r
 obtain⟨rfl,z⟩:=Sl.len q
 obtain rfl:=oJ d
 exact⟨l,u.length,m,rfl,(New.from e t)⟩
theorem h04(h:Hp)(c:Option Addr)(k d:Nat)(b:B0)(l:D0.R h [.slice c k d] b)(r:B0)(a:H7 b=some r):
  Tr Tryz.prog 93 #[.slice c k d] h λv q=>∃(i:Nat) (j f:Nat),v = .slice (some ⟨i,0,none⟩) j f/\New D0 h q [.slice (some ⟨i,0,none⟩) j f] r:=by
 obtain⟨rfl,u⟩:=Sl.len l
 unfold H7 at a
 refine A2 (args:=[.slice c b.length d]) (fn:=Tryz.f93) rfl ?_
 obtain⟨s,n,e⟩:=Sl.rows (r:=Wp.int.toRp) l
 refine eX s (aI n ?_)
 obtain⟨x,o,a⟩:=z0 a
 refine aI (P1 o (by first|rw[F2.length (show F2 (Wp.int.R h) ([]:List (List Value)) ([]:B0) from trivial),F2.length e]|exact congrArg (·+1) (F2.length (show F2 (Wp.int.R h) ([]:List (List Value)) ([]:B0) from trivial)))) ?_
 intro A t g
 obtain⟨p,m,rfl,y,z,w⟩:=Z0.outS (r:=Wp.int.toRp) g (F2.append (show F2 (Wp.int.R h) ([]:List (List Value)) ([]:B0) from trivial) e)
 obtain rfl:=oJ a
 exact⟨p,((([]:B0)++b)).length,m,rfl,(Z0.newPlain (r:=Wp.int) g (F2.append (show F2 (Wp.int.R h) ([]:List (List Value)) ([]:B0) from trivial) e) (G05 _))⟩
end Go.Proofs.YtkjhghloldgioaaGreat
