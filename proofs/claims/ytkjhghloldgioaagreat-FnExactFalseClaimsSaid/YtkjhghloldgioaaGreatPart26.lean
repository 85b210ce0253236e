/- Texts of the claim, joined: The walks of batch 1 and others. -/
import Derived.Test.YtkjhghloldgioaaGreatPart18
import Derived.Test.YtkjhghloldgioaaGreatChecked
import Derived.Test.YtkjhghloldgioaaGreatH35
import Derived.Test.YtkjhghloldgioaaGreatSI
import Derived.Test.YtkjhghloldgioaaGreatPart21
import Derived.Test.YtkjhghloldgioaaGreatPart17
import Derived.Test.YtkjhghloldgioaaGreatH36
namespace Go.Proofs.YtkjhghloldgioaaGreat
open Go.H
set_option linter.unusedVariables false
set_option linter.unusedSimpArgs false
set_option maxRecDepth 10000
theorem C5(h:Hp)(a:Int)(f:J0 a)(b:Int)(g:J0 b)(c:Int)(i:J0 c)(r:Bool)(d:R3 a b c=some r):
  Tr Tryz.prog 76 #[.int .i64 a,.int .i64 b,.int .i64 c] h λv e=>v = .bool r/\e=h:=by
 unfold R3 at d
 refine Tr.forget (Z1 (args:=[.int .i64 a,.int .i64 b,.int .i64 c]) (fn:=Tryz.f76) rfl ?_)
 obtain rfl:=oJ d
 exact aI rfl (Sub.refl _)
theorem R04(h:Hp)(c:Int)(n:J0 c)(j:Option Addr)(o k:Nat)(f:C0)(g:I0.R h [.slice j o k] f)(r:Bool)(b:E00 c f=some r):
  Tr Tryz.prog 104 #[.int .i64 c,.slice j o k] h λv l=>v = .bool r/\l=h:=by
 obtain⟨rfl,B⟩:=Sl.len g
 unfold E00 at b
 refine Tr.forget (Z1 (args:=[.int .i64 c,.slice j f.length k]) (fn:=Tryz.f104) rfl ?_)
 obtain⟨m,p,b⟩:=z0 b
 refine eX { vars:=[5],boxes:=[],owns:=[],fuel:=true } (eX (λvs os l=>∃ e,vs.tail = [.int .i64 e]/\os = []/\Sub h l/\J0 e/\j9 f c (Q1 vs) e=some m) (eX (λ_ _=>0) (aI (eX Q0 ⟨0,rfl,rfl,(Sub.refl _),(by decide),p⟩) ?_)))
 rintro _ i A ⟨e,⟨⟩,⟨⟩,d,w,a⟩
 replace a:j9 f c i e=some m:=a
 obtain _|i:=i
 ·cases a
 rw[j9.eq_2]at a
 refine ifB a (λt a=>?_) λt a=>?_
 ·refine Or.inl (aI (aI (by kernel_rfl) (by kernel_rfl)) ?_)
  refine ldI a (I0.mono d g) λE y a=>?_
  refine ldG a (I0.mono d g) λF u a=>?_
  refine trG a (λq=>C5 _ _ u (IntKind.i64.wrap (0-c)) (N0 _) _ n) λG a=>?_
  refine ldG a (I0.mono d g) λH z a=>?_
  refine ldG a (I0.mono d g) λC x a=>?_
  refine ifB a (λs a=>?_) λs a=>?_
  ·obtain rfl:=oJ a
   try dsimp only[E4,M4]at b
   obtain rfl:=oJ b
   exact aI rfl d
  ·exact I2 i ⟨(IntKind.i64.wrap (e+1)),rfl,rfl,d,(N0 _),a⟩
 ·obtain rfl:=oJ a
  try dsimp only[T0,V0]at b
  refine trV b (C5 _ _ n 1 (by decide) 3 (by decide)) λD b=>?_
  obtain rfl:=oJ b
  exact aI rfl d
theorem S0a(h:Hp)(g:Option Addr)(m i:Nat)(e:U1)(n:D2.R h [.slice g m i] e)(r:Int)(d:G9 e=some r):
  Tr Tryz.prog 274 #[.slice g m i] h λv j=>v = .int .i64 r/\j=h:=by
 obtain⟨rfl,A⟩:=Sl.len n
 unfold G9 at d
 refine Tr.forget (Z1 (args:=[.slice g e.length i]) (fn:=Tryz.f274) rfl ?_)
 obtain⟨l,p,d⟩:=z0 d
 refine eX { vars:=[3,4],boxes:=[],owns:=[],fuel:=true } (eX (λvs os j=>∃ b c,vs.tail = [.int .i64 b,.int .i64 c]/\os = []/\Sub h j/\J0 b/\J0 c/\V3 e (Q1 vs) b c=some l) (eX (λ_ _=>0) (aI (eX Q0 ⟨0,0,rfl,rfl,(Sub.refl _),(by decide),(by decide),p⟩) ?_)))
 rintro _ _ f z ⟨b,c,⟨⟩,⟨⟩,k,x,y,a⟩
 replace a:V3 e f b c=some l:=a
 obtain _|f:=f
 ·cases a
 rw[V3.eq_2]at a
 refine ifB a (λq a=>?_) λq a=>?_
 ·refine ld a (D2.mono k n) λs u o a=>?_
  obtain⟨t,C,w,rfl⟩:=Wp.slice_cell o
  obtain⟨rfl,B⟩:=Sl.len o
  exact I2 f ⟨(IntKind.i64.wrap (b+((s.length:Nat):Int))),(IntKind.i64.wrap (c+1)),rfl,rfl,k,(N0 _),(N0 _),a⟩
 ·obtain rfl:=oJ a
  try dsimp only[T0,V0]at d
  obtain rfl:=oJ d
  exact aI rfl k
theorem l08(h:Hp)(c:Int)(o:J0 c)(i:Option Addr)(p j:Nat)(e:U1)(l:D2.R h [.slice i p j] e)(r:Bool)(b:c01 c e=some r):
  Tr Tryz.prog 175 #[.int .i64 c,.slice i p j] h λv k=>v = .bool r/\k=h:=by
 obtain⟨rfl,E⟩:=Sl.len l
 unfold c01 at b
 refine Tr.forget (Z1 (args:=[.int .i64 c,.slice i e.length j]) (fn:=Tryz.f175) rfl ?_)
 obtain⟨n,t,b⟩:=z0 b
 refine eX { vars:=[5],boxes:=[],owns:=[],fuel:=true } (eX (λvs os k=>∃ d,vs.tail = [.int .i64 d]/\os = []/\Sub h k/\J0 d/\H7 e c (Q1 vs) d=some n) (eX (λ_ _=>0) (aI (eX Q0 ⟨0,rfl,rfl,(Sub.refl _),(by decide),t⟩) ?_)))
 rintro _ g D ⟨d,⟨⟩,⟨⟩,f,B,a⟩
 replace a:H7 e c g d=some n:=a
 obtain _|g:=g
 ·cases a
 rw[H7.eq_2]at a
 refine ifB a (λu a=>?_) λu a=>?_
 ·refine ld a (D2.mono f l) λI z m a=>?_
  obtain⟨y,G,A,rfl⟩:=Wp.slice_cell m
  obtain⟨rfl,F⟩:=Sl.len m
  refine trV a (R04 _ _ o _ _ _ _ m) λJ a=>?_
  refine ifB a (λw a=>?_) λw a=>?_
  ·obtain rfl:=oJ a
   try dsimp only[E4,M4]at b
   obtain rfl:=oJ b
   exact aI rfl f
  ·exact I2 g ⟨(IntKind.i64.wrap (d+1)),rfl,rfl,f,(N0 _),a⟩
 ·obtain rfl:=oJ a
  try dsimp only[T0,V0]at b
  refine trV b (C5 _ _ o 1 (by decide) 3 (by decide)) λK b=>?_
  refine trG b (λq=>S0a _ _ _ _ _ (D2.mono f l)) λx b=>?_
  obtain⟨H,s,b⟩:=z0 b
  have C:J0 x:=A2 s
  obtain rfl:=oJ b
  exact aI rfl f
theorem P8(h:Hp)(a:Int)(f:J0 a)(b:Int)(g:J0 b)(c:Int)(i:J0 c)(r:Bool)(d:C6 a b c=some r):
  Tr Tryz.prog 78 #[.int .i64 a,.int .i64 b,.int .i64 c] h λv e=>v = .bool r/\e=h:=by
 unfold C6 at d
 refine Tr.forget (Z1 (args:=[.int .i64 a,.int .i64 b,.int .i64 c]) (fn:=Tryz.f78) rfl ?_)
 obtain rfl:=oJ d
 exact aI rfl (Sub.refl _)
theorem k0e(h:Hp)(a:Int)(e:J0 a)(c:Int)(f:J0 c)(r:Bool)(b:f02 a c=some r):
  Tr Tryz.prog 197 #[.int .i64 a,.int .i64 c] h λv d=>v = .bool r/\d=h:=by
 unfold f02 at b
 refine Tr.forget (Z1 (args:=[.int .i64 a,.int .i64 c]) (fn:=Tryz.f197) rfl ?_)
 refine trG b (λq=>P8 _ _ f (IntKind.i64.wrap (0-a)) (N0 _) _ e) λg b=>?_
 obtain rfl:=oJ b
 exact aI rfl (Sub.refl _)
theorem H06(h:Hp)(a:Int)(e:J0 a)(b:Int)(f:J0 b)(r:Bool)(c:k00 a b=some r):
  Tr Tryz.prog 198 #[.int .i64 a,.int .i64 b] h λv d=>v = .bool r/\d=h:=by
 unfold k00 at c
 refine Tr.forget (Z1 (args:=[.int .i64 a,.int .i64 b]) (fn:=Tryz.f198) rfl ?_)
 obtain rfl:=oJ c
 exact aI rfl (Sub.refl _)
theorem S04(h:Hp)(c:Int)(n:J0 c)(i:Option Addr)(p j:Nat)(e:C0)(l:I0.R h [.slice i p j] e)(r:Bool)(b:F00 c e=some r):
  Tr Tryz.prog 91 #[.int .i64 c,.slice i p j] h λv k=>v = .bool r/\k=h:=by
 obtain⟨rfl,A⟩:=Sl.len l
 unfold F00 at b
 refine Tr.forget (Z1 (args:=[.int .i64 c,.slice i e.length j]) (fn:=Tryz.f91) rfl ?_)
 refine trV b (P8 _ _ n 1 (by decide) 3 (by decide)) λB b=>?_
 refine ifB b (λu b=>?_) λu b=>?_
 ·obtain rfl:=oJ b
  exact aI rfl (Sub.refl _)
 ·obtain⟨m,s,b⟩:=z0 b
  refine eX { vars:=[17],boxes:=[],owns:=[],fuel:=true } (eX (λvs os k=>∃ d,vs.tail = [.int .i64 d]/\os = []/\Sub h k/\J0 d/\l9 e c (Q1 vs) d=some m) (eX (λ_ _=>0) (aI (eX Q0 ⟨0,rfl,rfl,(Sub.refl _),(by decide),s⟩) ?_)))
  rintro _ g z ⟨d,⟨⟩,⟨⟩,f,y,a⟩
  replace a:l9 e c g d=some m:=a
  obtain _|g:=g
  ·cases a
  rw[l9.eq_2]at a
  refine ifB a (λw a=>?_) λw a=>?_
  ·refine ldI a (I0.mono f l) λE o a=>?_
   refine trV a (k0e _ _ n _ o) λF a=>?_
   refine ldG a (I0.mono f l) λC x a=>?_
   refine trG a (λq=>H06 _ _ x _ o) λD a=>?_
   refine ifB a (λt a=>?_) λt a=>?_
   ·obtain rfl:=oJ a
    try dsimp only[E4,M4]at b
    obtain rfl:=oJ b
    exact aI rfl f
   ·exact I2 g ⟨(IntKind.i64.wrap (d+1)),rfl,rfl,f,(N0 _),a⟩
  ·obtain rfl:=oJ a
   try dsimp only[T0,V0]at b
   obtain rfl:=oJ b
   exact aI rfl f
theorem T0a(h:Hp)(g:Option Addr)(m i:Nat)(e:U1)(n:D2.R h [.slice g m i] e)(r:Int)(d:T00 e=some r):
  Tr Tryz.prog 278 #[.slice g m i] h λv j=>v = .int .i64 r/\j=h:=by
 obtain⟨rfl,A⟩:=Sl.len n
 unfold T00 at d
 refine Tr.forget (Z1 (args:=[.slice g e.length i]) (fn:=Tryz.f278) rfl ?_)
 obtain⟨l,p,d⟩:=z0 d
 refine eX { vars:=[3,8],boxes:=[],owns:=[],fuel:=true } (eX (λvs os j=>∃ b c,vs.tail = [.int .i64 b,.int .i64 c]/\os = []/\Sub h j/\J0 b/\J0 c/\T6 e (Q1 vs) b c=some l) (eX (λ_ _=>0) (aI (eX Q0 ⟨0,0,rfl,rfl,(Sub.refl _),(by decide),(by decide),p⟩) ?_)))
 rintro _ _ f z ⟨b,c,⟨⟩,⟨⟩,k,x,y,a⟩
 replace a:T6 e f b c=some l:=a
 obtain _|f:=f
 ·cases a
 rw[T6.eq_2]at a
 refine ifB a (λq a=>?_) λq a=>?_
 ·refine ld a (D2.mono k n) λs u o a=>?_
  obtain⟨t,C,w,rfl⟩:=Wp.slice_cell o
  obtain⟨rfl,B⟩:=Sl.len o
  exact I2 f ⟨(IntKind.i64.wrap (b+((s.length:Nat):Int))),(IntKind.i64.wrap (c+1)),rfl,rfl,k,(N0 _),(N0 _),a⟩
 ·obtain rfl:=oJ a
  try dsimp only[T0,V0]at d
  obtain rfl:=oJ d
  exact aI rfl k
theorem m08(h:Hp)(c:Int)(o:J0 c)(i:Option Addr)(p j:Nat)(e:U1)(l:D2.R h [.slice i p j] e)(r:Bool)(a:d01 c e=some r):
  Tr Tryz.prog 183 #[.int .i64 c,.slice i p j] h λv k=>v = .bool r/\k=h:=by
 obtain⟨rfl,E⟩:=Sl.len l
 unfold d01 at a
 refine Tr.forget (Z1 (args:=[.int .i64 c,.slice i e.length j]) (fn:=Tryz.f183) rfl ?_)
 refine trV a (P8 _ _ o 1 (by decide) 3 (by decide)) λI a=>?_
 refine ifB a (λu a=>?_) λu a=>?_
 ·obtain rfl:=oJ a
  exact aI rfl (Sub.refl _)
 ·obtain⟨n,s,a⟩:=z0 a
  refine eX { vars:=[17],boxes:=[],owns:=[],fuel:=true } (eX (λvs os k=>∃ d,vs.tail = [.int .i64 d]/\os = []/\Sub h k/\J0 d/\I7 e c (Q1 vs) d=some n) (eX (λ_ _=>0) (aI (eX Q0 ⟨0,rfl,rfl,(Sub.refl _),(by decide),s⟩) ?_)))
  rintro _ g D ⟨d,⟨⟩,⟨⟩,f,B,b⟩
  replace b:I7 e c g d=some n:=b
  obtain _|g:=g
  ·cases b
  rw[I7.eq_2]at b
  refine ifB b (λw b=>?_) λw b=>?_
  ·refine ld b (D2.mono f l) λJ z m b=>?_
   obtain⟨y,G,A,rfl⟩:=Wp.slice_cell m
   obtain⟨rfl,F⟩:=Sl.len m
   refine trV b (S04 _ _ o _ _ _ _ m) λK b=>?_
   refine ifB b (λt b=>?_) λt b=>?_
   ·obtain rfl:=oJ b
    try dsimp only[E4,M4]at a
    obtain rfl:=oJ a
    exact aI rfl f
   ·exact I2 g ⟨(IntKind.i64.wrap (d+1)),rfl,rfl,f,(N0 _),b⟩
  ·obtain rfl:=oJ b
   try dsimp only[T0,V0]at a
   refine trV a (T0a _ _ _ _ _ (D2.mono f l)) λx a=>?_
   obtain⟨H,q,a⟩:=z0 a
   have C:J0 x:=A2 q
   obtain rfl:=oJ a
   exact aI rfl f
theorem O03(h:Hp)(b:Int)(g:J0 b)(c:Int)(i:J0 c)(r:Int)(a:i8 b c=some r):
  Tr Tryz.prog 342 #[.int .i64 b,.int .i64 c] h λv d=>v = .int .i64 r/\d=h:=by
 unfold i8 at a
 refine Tr.forget (Z1 (args:=[.int .i64 b,.int .i64 c]) (fn:=Tryz.f342) rfl ?_)
 refine ifB a (λe a=>?_) λe a=>?_
 ·obtain rfl:=oJ a
  exact aI rfl (Sub.refl _)
 ·refine ifB a (λf a=>?_) λf a=>?_
  ·obtain rfl:=oJ a
   exact aI rfl (Sub.refl _)
  ·obtain rfl:=oJ a
   exact aI rfl (Sub.refl _)
theorem D02(h:Hp)(l:Option Addr)(u m:Nat)(b:C0)(w:I0.R h [.slice l u m] b)(r:C0)(g:Q7 b=some r):
  Tr Tryz.prog 182 #[.slice l u m] h λv f=>∃(p:Option Addr) (t q:Nat),v = .slice p t q/\I0.R f [.slice p t q] r/\Sub h f:=by
 obtain⟨rfl,I⟩:=Sl.len w
 unfold Q7 at g
 refine Z1 (args:=[.slice l b.length m]) (fn:=Tryz.f182) rfl ?_
 obtain⟨o,B,g⟩:=z0 g
 refine eX { vars:=[4],boxes:=[],owns:=[0],fuel:=true } (eX (λvs os f=>∃ c k d,vs.tail = [.int .i64 c]/\os = [k]/\Sub h f/\J0 c/\F2 (Wp.int.R f) k d/\C4 b (Q1 vs) c d=some o) (eX (λ_ _=>0) (aI (eX Q0 ⟨(IntKind.i64.wrap (((b.length:Nat):Int)-1)),[],([]:C0),rfl,rfl,(Sub.refl _),(N0 _),(show F2 (Wp.int.R h) ([]:List (List Value)) ([]:C0) from trivial),B⟩) ?_)))
 rintro _ k j s ⟨c,M,d,⟨⟩,⟨⟩,n,F,i,a⟩
 replace a:C4 b j c d=some o:=a
 obtain _|j:=j
 ·cases a
 rw[C4.eq_2]at a
 refine ifB a (λC a=>?_) λC a=>?_
 ·refine ldI a (I0.mono n w) λe G a=>?_
  obtain⟨K,A,a⟩:=z0 a
  refine aI (T1 A (by first|rw[F2.length i,F2.length (show F2 (Wp.int.R s) ([[.int .i64 (IntKind.i64.wrap (0-e))]]:List (List Value)) [(IntKind.i64.wrap (0-e))] from⟨⟨rfl,(N0 _)⟩,trivial⟩)]|exact congrArg (·+1) (F2.length i))) ?_
  exact I2 j ⟨(IntKind.i64.wrap (c-1)),(k++([[.int .i64 (IntKind.i64.wrap (0-e))]]:List (List Value))),(d ++ [(IntKind.i64.wrap (0-e))]),rfl,rfl,n,(N0 _),(F2.append i (show F2 (Wp.int.R s) ([[.int .i64 (IntKind.i64.wrap (0-e))]]:List (List Value)) [(IntKind.i64.wrap (0-e))] from⟨⟨rfl,(N0 _)⟩,trivial⟩)),a⟩
 ·obtain rfl:=oJ a
  try dsimp only[T0,V0]at g
  intro L H z
  obtain⟨x,y,rfl,D,E,J⟩:=D1.out (r:=Wp.int.toRp) z i
  obtain rfl:=oJ g
  exact⟨x,d.length,y,rfl,D,(n.trans E)⟩
theorem Y02(h:Hp)(o:Option Addr)(A p:Nat)(m:C0)(n:I0.R h [.slice o A p] m)(r:C0)(d:d7 m=some r):
  Tr Tryz.prog 212 #[.slice o A p] h λv k=>∃(t:Option Addr) (z u:Nat),v = .slice t z u/\I0.R k [.slice t z u] r/\Sub h k:=by
 obtain⟨rfl,ad⟩:=Sl.len n
 unfold d7 at d
 refine Z1 (args:=[.slice o m.length p]) (fn:=Tryz.f212) rfl ?_
 obtain⟨s,K,d⟩:=z0 d
 refine eX { vars:=[4],boxes:=[],owns:=[0],fuel:=true } (eX (λvs os k=>∃ g c i,vs.tail = [.int .i64 g]/\os = [c]/\Sub h k/\J0 g/\F2 (Wp.int.R k) c i/\U3 m (Q1 vs) g i=some s) (eX (λ_ _=>0) (aI (eX Q0 ⟨0,[],([]:C0),rfl,rfl,(Sub.refl _),(by decide),(show F2 (Wp.int.R h) ([]:List (List Value)) ([]:C0) from trivial),K⟩) ?_)))
 rintro _ c l e ⟨g,ap,i,⟨⟩,⟨⟩,f,W,b,a⟩
 replace a:U3 m l g i=some s:=a
 obtain _|l:=l
 ·cases a
 rw[U3.eq_2]at a
 refine ifB a (λM a=>?_) λM a=>?_
 ·obtain⟨N,E,a⟩:=z0 a
  obtain rfl:c.length=N:=(F2.length b).trans (oJ E)
  obtain⟨ai,V,a⟩:=z0 a
  refine Or.inl (aI (aI (by kernel_rfl) (by kernel_rfl)) ?_)
  refine ldG a (I0.mono f n) λao ab a=>?_
  obtain⟨ak,I,a⟩:=z0 a
  obtain⟨T,w,O⟩:=c05 b I (y0f e)
  refine aI (λq=>(w q).1) ?_
  obtain⟨rfl,X⟩:=O
  refine eX _ (aI (λq=>(w q).2) ?_)
  refine ldG a (I0.mono f n) λal Y a=>?_
  obtain⟨am,J,a⟩:=z0 a
  obtain⟨U,x,P⟩:=c05 b J (y0f e)
  refine aI (λq=>(x q).1) ?_
  obtain⟨rfl,Z⟩:=P
  refine eX _ (aI (λq=>(x q).2) ?_)
  refine ldG a (I0.mono f n) λan aa a=>?_
  refine ifB a (λL a=>?_) λL a=>?_
  ·obtain⟨af,F,a⟩:=z0 a
   refine aI (by have:=A2 F;have:=F2.length b;omega) ?_
   exact I2 l ⟨(IntKind.i64.wrap (g+1)),(c.take (IntKind.i64.wrap (((c.length:Nat):Int)-1)).toNat),(i.take (IntKind.i64.wrap (((c.length:Nat):Int)-1)).toNat),rfl,rfl,f,(N0 _),(F2.take (IntKind.i64.wrap (((c.length:Nat):Int)-1)).toNat b),a⟩
  ·refine ldI a (I0.mono f n) λj y a=>?_
   obtain⟨ag,G,a⟩:=z0 a
   refine aI (T1 G (by first|rw[F2.length b,F2.length (show F2 (Wp.int.R e) ([[.int .i64 j]]:List (List Value)) [j] from⟨⟨rfl,y⟩,trivial⟩)]|exact congrArg (·+1) (F2.length b))) ?_
   exact I2 l ⟨(IntKind.i64.wrap (g+1)),(c++([[.int .i64 j]]:List (List Value))),(i ++ [j]),rfl,rfl,f,(N0 _),(F2.append b (show F2 (Wp.int.R e) ([[.int .i64 j]]:List (List Value)) [j] from⟨⟨rfl,y⟩,trivial⟩)),a⟩
 ·obtain rfl:=oJ a
  try dsimp only[T0,V0]at d
  obtain⟨ah,H,d⟩:=z0 d
  refine aI (T1 H (by first|rw[F2.length (show F2 (Wp.int.R e) ([]:List (List Value)) ([]:C0) from trivial),F2.length b]|exact congrArg (·+0) (F2.length (show F2 (Wp.int.R e) ([]:List (List Value)) ([]:C0) from trivial)))) ?_
  intro aj ac D
  obtain⟨B,C,rfl,Q,S,ae⟩:=D1.out (r:=Wp.int.toRp) D (F2.append (show F2 (Wp.int.R e) ([]:List (List Value)) ([]:C0) from trivial) b)
  obtain rfl:=oJ d
  exact⟨B,((([]:C0)++i)).length,C,rfl,Q,(f.trans S)⟩
theorem i05(h:Hp)(c:Option Addr)(o e:Nat)(g:C0)(q:I0.R h [.slice c o e] g)(d:Option Addr)(p f:Nat)(i:C0)(s:I0.R h [.slice d p f] i)(r:C0)(a:c00 g i=some r):
  Tr Tryz.prog 254 #[.slice c o e,.slice d p f] h λv m=>∃(j:Option Addr) (n k:Nat),v = .slice j n k/\I0.R m [.slice j n k] r/\Sub h m:=by
 obtain⟨rfl,M⟩:=Sl.len q
 obtain⟨rfl,N⟩:=Sl.len s
 unfold c00 at a
 refine Z1 (args:=[.slice c g.length e,.slice d i.length f]) (fn:=Tryz.f254) rfl ?_
 obtain⟨F,x,b⟩:=Sl.rows (r:=Wp.int.toRp) q
 refine eX F (aI x ?_)
 obtain⟨S,A,a⟩:=z0 a
 refine aI (T1 A (by first|rw[F2.length (show F2 (Wp.int.R h) ([]:List (List Value)) ([]:C0) from trivial),F2.length b]|exact congrArg (·+1) (F2.length (show F2 (Wp.int.R h) ([]:List (List Value)) ([]:C0) from trivial)))) ?_
 obtain⟨G,y,l⟩:=Sl.rows (r:=Wp.int.toRp) s
 refine eX G (aI y ?_)
 obtain⟨T,B,a⟩:=z0 a
 refine aI (T1 B (by first|rw[F2.length (F2.append (show F2 (Wp.int.R h) ([]:List (List Value)) ([]:C0) from trivial) b),F2.length l]|exact congrArg (·+1) (F2.length (F2.append (show F2 (Wp.int.R h) ([]:List (List Value)) ([]:C0) from trivial) b)))) ?_
 refine Or.inl ?_
 intro V L z
 obtain⟨I,J,rfl,C,E,P⟩:=D1.out (r:=Wp.int.toRp) z (F2.append (F2.append (show F2 (Wp.int.R h) ([]:List (List Value)) ([]:C0) from trivial) b) l)
 refine trM a (Y02 _ _ _ _ _ C) ?_
 rintro H a U K ⟨u,Q,w,rfl,t,D⟩
 obtain⟨rfl,O⟩:=Sl.len t
 obtain rfl:=oJ a
 exact⟨u,H.length,w,rfl,t,(E.trans D)⟩
theorem r04(h:Hp)(n:Option Addr)(z o:Nat)(e:C0)(A:I0.R h [.slice n z o] e)(r:C0)(d:V8 e=some r):
  Tr Tryz.prog 189 #[.slice n z o] h λv k=>∃(t:Option Addr) (y u:Nat),v = .slice t y u/\New I0 h k [.slice t y u] r:=by
 obtain⟨rfl,K⟩:=Sl.len A
 unfold V8 at d
 refine Z1 (args:=[.slice n e.length o]) (fn:=Tryz.f189) rfl ?_
 obtain⟨M,D,d⟩:=z0 d
 refine aI (A2 D) ?_
 obtain⟨s,F,d⟩:=z0 d
 refine eX { vars:=[4],boxes:=[],owns:=[0],fuel:=true } (eX (λvs os k=>∃ f m g,vs.tail = [.int .i64 f]/\os = [m]/\Sub h k/\J0 f/\F2 (Wp.int.R k) m g/\D7 e (Q1 vs) f g=some s) (eX (λ_ _=>0) (aI (eX Q0 ⟨(IntKind.i64.wrap (((e.length:Nat):Int)-1)),(List.replicate (0:Int).toNat ([.int .i64 0]:List Value)),(List.replicate (0:Int).toNat (0:Int)),rfl,rfl,(Sub.refl _),(N0 _),(F2.rep (p:=Wp.int.R h) (a:=[.int .i64 0]) (b:=0) ⟨rfl,(by decide)⟩ ((0:Int).toNat)),F⟩) ?_)))
 rintro _ m l x ⟨f,S,g,⟨⟩,⟨⟩,q,H,j,c⟩
 replace c:D7 e l f g=some s:=c
 obtain _|l:=l
 ·cases c
 rw[D7.eq_2]at c
 refine ifB c (λG c=>?_) λG c=>?_
 ·refine ldI c (I0.mono q A) λi I c=>?_
  obtain⟨N,E,c⟩:=z0 c
  refine aI (T1 E (by first|rw[F2.length j,F2.length (show F2 (Wp.int.R x) ([[.int .i64 (IntKind.i64.wrap (0-i))]]:List (List Value)) [(IntKind.i64.wrap (0-i))] from⟨⟨rfl,(N0 _)⟩,trivial⟩)]|exact congrArg (·+1) (F2.length j))) ?_
  exact I2 l ⟨(IntKind.i64.wrap (f-1)),(m++([[.int .i64 (IntKind.i64.wrap (0-i))]]:List (List Value))),(g ++ [(IntKind.i64.wrap (0-i))]),rfl,rfl,q,(N0 _),(F2.append j (show F2 (Wp.int.R x) ([[.int .i64 (IntKind.i64.wrap (0-i))]]:List (List Value)) [(IntKind.i64.wrap (0-i))] from⟨⟨rfl,(N0 _)⟩,trivial⟩)),c⟩
 ·obtain rfl:=oJ c
  try dsimp only[T0,V0]at d
  intro Q J w
  obtain⟨B,C,rfl,O,P,L⟩:=D1.out (r:=Wp.int.toRp) w j
  obtain rfl:=oJ d
  exact⟨B,g.length,C,rfl,(New.from (D1.newPlain (r:=Wp.int) w j (z06 _)) q)⟩
theorem f06(h:Hp)(t:Option Addr)(I u:Nat)(n:U1)(J:D2.R h [.slice t I u] n)(r:C0)(l:d00 n=some r):
  Tr Tryz.prog 204 #[.slice t I u] h λv e=>∃(D:Option Addr) (H E:Nat),v = .slice D H E/\New I0 h e [.slice D H E] r:=by
 obtain⟨rfl,ap⟩:=Sl.len J
 unfold d00 at l
 refine Z1 (args:=[.slice t n.length u]) (fn:=Tryz.f204) rfl ?_
 obtain⟨B,U,l⟩:=z0 l
 refine eX { vars:=[11],boxes:=[],owns:=[0],fuel:=true } (eX (λvs os e=>∃ i s j,vs.tail = [.int .i64 i]/\os = [s]/\Sub h e/\J0 i/\F2 (Wp.int.R e) s j/\I8 n (Q1 vs) i j=some B) (eX (λ_ _=>0) (aI (eX Q0 ⟨0,[],([]:C0),rfl,rfl,(Sub.refl _),(by decide),(show F2 (Wp.int.R h) ([]:List (List Value)) ([]:C0) from trivial),U⟩) ?_)))
 rintro _ s o aa ⟨i,aG,j,⟨⟩,⟨⟩,A,am,w,b⟩
 replace b:I8 n o i j=some B:=b
 obtain _|o:=o
 ·cases b
 rw[I8.eq_2]at b
 refine ifB b (λY b=>?_) λY b=>?_
 ·refine ld b (D2.mono A J) λK ah z b=>?_
  obtain⟨af,au,ai,rfl⟩:=Wp.slice_cell z
  obtain⟨rfl,aq⟩:=Sl.len z
  obtain⟨C,V,b⟩:=z0 b
  refine eX { vars:=[17],boxes:=[],owns:=[0],fuel:=true } (eX (λvs os e=>∃ g c f,vs.tail = [.int .i64 g]/\os = [c]/\Sub aa e/\J0 g/\F2 (Wp.int.R e) c f/\z7 K (Q1 vs) g f=some C) (eX (λ_ _=>0) (aI (eX Q0 ⟨0,s,j,rfl,rfl,(Sub.refl _),(by decide),w,V⟩) ?_)))
  rintro _ c m y ⟨g,aF,f,⟨⟩,⟨⟩,p,an,d,a⟩
  replace a:z7 K m g f=some C:=a
  obtain _|m:=m
  ·cases a
  rw[z7.eq_2]at a
  refine ifB a (λW a=>?_) λW a=>?_
  ·refine ldI a (I0.mono p z) λk x a=>?_
   obtain⟨ab,N,a⟩:=z0 a
   obtain rfl:c.length=ab:=(F2.length d).trans (oJ N)
   obtain⟨av,aj,a⟩:=z0 a
   obtain⟨ac,O,a⟩:=z0 a
   obtain rfl:c.length=ac:=(F2.length d).trans (oJ O)
   obtain⟨aw,ak,a⟩:=z0 a
   obtain⟨aD,T,a⟩:=z0 a
   obtain⟨ag,F,ae⟩:=c05 d T (y0f y)
   refine aI (λq=>(F q).1) ?_
   obtain⟨rfl,Z⟩:=ae
   refine eX _ (aI (λq=>(F q).2) ?_)
   refine trG a (λq=>H06 _ _ Z _ x) λaE a=>?_
   refine ifB a (λX a=>?_) λX a=>?_
   ·obtain⟨ad,P,a⟩:=z0 a
    obtain rfl:c.length=ad:=(F2.length d).trans (oJ P)
    obtain⟨ax,al,a⟩:=z0 a
    obtain⟨ay,Q,a⟩:=z0 a
    refine aI (by have:=A2 Q;have:=F2.length d;omega) ?_
    exact I2 m ⟨(IntKind.i64.wrap (g+1)),(c.take (IntKind.i64.wrap (((c.length:Nat):Int)-1)).toNat),(f.take (IntKind.i64.wrap (((c.length:Nat):Int)-1)).toNat),rfl,rfl,p,(N0 _),(F2.take (IntKind.i64.wrap (((c.length:Nat):Int)-1)).toNat d),a⟩
   ·obtain⟨az,S,a⟩:=z0 a
    refine aI (T1 S (by first|rw[F2.length d,F2.length (show F2 (Wp.int.R y) ([[.int .i64 k]]:List (List Value)) [k] from⟨⟨rfl,x⟩,trivial⟩)]|exact congrArg (·+1) (F2.length d))) ?_
    exact I2 m ⟨(IntKind.i64.wrap (g+1)),(c++([[.int .i64 k]]:List (List Value))),(f ++ [k]),rfl,rfl,p,(N0 _),(F2.append d (show F2 (Wp.int.R y) ([[.int .i64 k]]:List (List Value)) [k] from⟨⟨rfl,x⟩,trivial⟩)),a⟩
  ·obtain rfl:=oJ a
   try dsimp only[T0,V0]at b
   exact I2 o ⟨(IntKind.i64.wrap (i+1)),c,f,rfl,rfl,(A.trans p),(N0 _),d,b⟩
 ·obtain rfl:=oJ b
  try dsimp only[T0,V0]at l
  intro aC ao G
  obtain⟨L,M,rfl,aA,aB,ar⟩:=D1.out (r:=Wp.int.toRp) G w
  obtain rfl:=oJ l
  exact⟨L,j.length,M,rfl,(New.from (D1.newPlain (r:=Wp.int) G w (z06 _)) A)⟩
theorem j0c(h:Hp)(i:Option Addr)(o k:Nat)(d:C0)(q:I0.R h [.slice i o k] d)(j:Option Addr)(p l:Nat)(e:C0)(s:I0.R h [.slice j p l] e)(r:Bool)(b:m00 d e=some r):
  Tr Tryz.prog 177 #[.slice i o k,.slice j p l] h λv m=>v = .bool r/\m=h:=by
 obtain⟨rfl,C⟩:=Sl.len q
 obtain⟨rfl,D⟩:=Sl.len s
 unfold m00 at b
 refine Tr.forget (Z1 (args:=[.slice i d.length k,.slice j e.length l]) (fn:=Tryz.f177) rfl ?_)
 refine ifB b (λu b=>?_) λu b=>?_
 ·obtain rfl:=oJ b
  exact aI rfl (Sub.refl _)
 ·obtain⟨n,t,b⟩:=z0 b
  refine eX { vars:=[5],boxes:=[],owns:=[],fuel:=true } (eX (λvs os m=>∃ c,vs.tail = [.int .i64 c]/\os = []/\Sub h m/\J0 c/\D4 d e (Q1 vs) c=some n) (eX (λ_ _=>0) (aI (eX Q0 ⟨0,rfl,rfl,(Sub.refl _),(by decide),t⟩) ?_)))
  rintro _ g B ⟨c,⟨⟩,⟨⟩,f,y,a⟩
  replace a:D4 d e g c=some n:=a
  obtain _|g:=g
  ·cases a
  rw[D4.eq_2]at a
  refine ifB a (λw a=>?_) λw a=>?_
  ·refine Or.inl (aI (aI (by kernel_rfl) (by kernel_rfl)) ?_)
   refine ldI a (I0.mono f q) λE z a=>?_
   refine ldI a (I0.mono f s) λF A a=>?_
   refine ifB a (λx a=>?_) λx a=>?_
   ·obtain rfl:=oJ a
    try dsimp only[E4,M4]at b
    obtain rfl:=oJ b
    exact aI rfl f
   ·exact I2 g ⟨(IntKind.i64.wrap (c+1)),rfl,rfl,f,(N0 _),a⟩
  ·obtain rfl:=oJ a
   try dsimp only[T0,V0]at b
   obtain rfl:=oJ b
   exact aI rfl f
theorem k0c(h:Hp)(i:Option Addr)(o k:Nat)(d:C0)(q:I0.R h [.slice i o k] d)(j:Option Addr)(p l:Nat)(e:C0)(s:I0.R h [.slice j p l] e)(r:Bool)(b:u01 d e=some r):
  Tr Tryz.prog 185 #[.slice i o k,.slice j p l] h λv m=>v = .bool r/\m=h:=by
 obtain⟨rfl,C⟩:=Sl.len q
 obtain⟨rfl,D⟩:=Sl.len s
 unfold u01 at b
 refine Tr.forget (Z1 (args:=[.slice i d.length k,.slice j e.length l]) (fn:=Tryz.f185) rfl ?_)
 refine ifB b (λu b=>?_) λu b=>?_
 ·obtain rfl:=oJ b
  exact aI rfl (Sub.refl _)
 ·obtain⟨n,t,b⟩:=z0 b
  refine eX { vars:=[13],boxes:=[],owns:=[],fuel:=true } (eX (λvs os m=>∃ c,vs.tail = [.int .i64 c]/\os = []/\Sub h m/\J0 c/\E7 d e (Q1 vs) c=some n) (eX (λ_ _=>0) (aI (eX Q0 ⟨0,rfl,rfl,(Sub.refl _),(by decide),t⟩) ?_)))
  rintro _ g B ⟨c,⟨⟩,⟨⟩,f,y,a⟩
  replace a:E7 d e g c=some n:=a
  obtain _|g:=g
  ·cases a
  rw[E7.eq_2]at a
  refine ifB a (λw a=>?_) λw a=>?_
  ·refine Or.inl (aI (aI (by kernel_rfl) (by kernel_rfl)) ?_)
   refine ldI a (I0.mono f q) λE z a=>?_
   refine ldI a (I0.mono f s) λF A a=>?_
   refine ifB a (λx a=>?_) λx a=>?_
   ·obtain rfl:=oJ a
    try dsimp only[E4,M4]at b
    obtain rfl:=oJ b
    exact aI rfl f
   ·exact I2 g ⟨(IntKind.i64.wrap (c+1)),rfl,rfl,f,(N0 _),a⟩
  ·obtain rfl:=oJ a
   try dsimp only[T0,V0]at b
   obtain rfl:=oJ b
   exact aI rfl f
theorem Z0g(h:Hp)(c:List Value)(e:j0)(w:j1.R h c e)(d:List Value)(f:K0)(y:Z0.R h d f)(r:Bool)(a:u03 e f=some r):
  Tr Tryz.prog 339 #[.agg c.toArray,.agg d.toArray] h λv j=>v = .bool r/\j=h:=by
 obtain⟨o,b,g,B,i,p,rfl,rfl,k,z,x⟩:=B0 w
 obtain⟨rfl,A⟩:=Sl.len x
 obtain⟨s,t,u,rfl,rfl,l,m,n⟩:=P1 y
 unfold u03 at a
 dsimp only at a
 refine Tr.forget (Z1 (args:=[.agg #[.int .i64 o,.int .i64 b,.slice g p.length i],.agg #[.int .i64 s,.int .i64 t,.int .i64 u]]) (fn:=Tryz.f339) rfl ?_)
 refine trV a (C5 _ _ l 0 (by decide) (IntKind.i64.wrap (b-1)) (N0 _)) λC a=>?_
 refine trG a (λq=>C5 _ _ n 0 (by decide) (IntKind.i64.wrap (b-1)) (N0 _)) λD a=>?_
 refine trG a (λq=>C5 _ _ m 1 (by decide) _ k) λE a=>?_
 obtain rfl:=oJ a
 exact aI rfl (Sub.refl _)
theorem q05(h:Hp)(o:List Value)(y:K0)(Q:Z0.R h o y)(p:List Value)(z:K0)(S:Z0.R h p z)(r:Int)(b:b9 y z=some r):
  Tr Tryz.prog 314 #[.agg o.toArray,.agg p.toArray] h λv m=>v = .int .i64 r/\m=h:=by
 obtain⟨d,e,f,rfl,rfl,q,s,t⟩:=P1 Q
 obtain⟨g,i,j,rfl,rfl,u,w,x⟩:=P1 S
 unfold b9 at b
 dsimp only at b
 refine Tr.forget (Z1 (args:=[.agg #[.int .i64 d,.int .i64 e,.int .i64 f],.agg #[.int .i64 g,.int .i64 i,.int .i64 j]]) (fn:=Tryz.f314) rfl ?_)
 obtain⟨n,M,b⟩:=z0 b
 refine eX { vars:=[7],boxes:=[],owns:=[],fuel:=true } (eX (λvs os m=>∃ k,vs.tail = [.int .i64 k]/\os = []/\Sub h m/\J0 k/\U7 d e f g i j (Q1 vs) k=some n) (eX (λ_ _=>0) (aI (eX Q0 ⟨0,rfl,rfl,(Sub.refl _),(by decide),M⟩) ?_)))
 rintro _ l ag ⟨k,⟨⟩,⟨⟩,c,ab,a⟩
 replace a:U7 d e f g i j l k=some n:=a
 obtain _|l:=l
 ·cases a
 rw[U7.eq_2]at a
 refine ifB a (λO a=>?_) λO a=>?_
 ·refine Or.inl (aI (aI (by kernel_rfl) (by kernel_rfl)) ?_)
  obtain⟨ai,J,a⟩:=z0 a
  obtain⟨B,Y,F,U⟩:=j5 (F2.up (r:=Wp.int.toRp) c (show F2 (Wp.int.R h) ([[.int .i64 d],[.int .i64 e],[.int .i64 f]]:List (List Value)) [d,e,f] from⟨⟨rfl,q⟩,⟨⟨rfl,s⟩,⟨⟨rfl,t⟩,trivial⟩⟩⟩)) J
  refine aI B ?_
  obtain⟨rfl,ad⟩:=U
  refine eX _ (aI F ?_)
  obtain⟨aj,K,a⟩:=z0 a
  obtain⟨C,Z,G,V⟩:=j5 (F2.up (r:=Wp.int.toRp) c (show F2 (Wp.int.R h) ([[.int .i64 g],[.int .i64 i],[.int .i64 j]]:List (List Value)) [g,i,j] from⟨⟨rfl,u⟩,⟨⟨rfl,w⟩,⟨⟨rfl,x⟩,trivial⟩⟩⟩)) K
  refine aI C ?_
  obtain⟨rfl,ae⟩:=V
  refine eX _ (aI G ?_)
  refine ifB a (λP a=>?_) λP a=>?_
  ·obtain rfl:=oJ a
   try dsimp only[E4,M4]at b
   obtain rfl:=oJ b
   exact aI rfl c
  ·refine Or.inl (aI (aI (by kernel_rfl) (by kernel_rfl)) ?_)
   obtain⟨ak,L,a⟩:=z0 a
   obtain⟨D,aa,H,W⟩:=j5 (F2.up (r:=Wp.int.toRp) c (show F2 (Wp.int.R h) ([[.int .i64 d],[.int .i64 e],[.int .i64 f]]:List (List Value)) [d,e,f] from⟨⟨rfl,q⟩,⟨⟨rfl,s⟩,⟨⟨rfl,t⟩,trivial⟩⟩⟩)) L
   refine aI D ?_
   obtain⟨rfl,af⟩:=W
   refine eX _ (aI H ?_)
   obtain⟨ah,I,a⟩:=z0 a
   obtain⟨A,X,E,T⟩:=j5 (F2.up (r:=Wp.int.toRp) c (show F2 (Wp.int.R h) ([[.int .i64 g],[.int .i64 i],[.int .i64 j]]:List (List Value)) [g,i,j] from⟨⟨rfl,u⟩,⟨⟨rfl,w⟩,⟨⟨rfl,x⟩,trivial⟩⟩⟩)) I
   refine aI A ?_
   obtain⟨rfl,ac⟩:=T
   refine eX _ (aI E ?_)
   refine ifB a (λN a=>?_) λN a=>?_
   ·obtain rfl:=oJ a
    try dsimp only[E4,M4]at b
    obtain rfl:=oJ b
    exact aI rfl c
   ·exact I2 l ⟨(IntKind.i64.wrap (k+1)),rfl,rfl,c,(N0 _),a⟩
 ·obtain rfl:=oJ a
  try dsimp only[T0,V0]at b
  obtain rfl:=oJ b
  exact aI rfl c
theorem c8(h:Hp)(m:List Value)(u:j0)(O:j1.R h m u)(r:Bool)(b:O4 u=some r):
  Tr Tryz.prog 312 #[.agg m.toArray] h λv g=>v = .bool r/\g=h:=by
 obtain⟨i,j,w,ab,x,k,rfl,rfl,p,s,e⟩:=B0 O
 obtain⟨rfl,aa⟩:=Sl.len e
 unfold O4 at b
 dsimp only at b
 refine Tr.forget (Z1 (args:=[.agg #[.int .i64 i,.int .i64 j,.slice w k.length x]]) (fn:=Tryz.f312) rfl ?_)
 obtain⟨l,C,b⟩:=z0 b
 refine eX { vars:=[3],boxes:=[],owns:=[],fuel:=true } (eX (λvs os g=>∃ d,vs.tail = [.int .i64 d]/\os = []/\Sub h g/\J0 d/\p8 k i j (Q1 vs) d=some l) (eX (λ_ _=>0) (aI (eX Q0 ⟨0,rfl,rfl,(Sub.refl _),(by decide),C⟩) ?_)))
 rintro _ f t ⟨d,⟨⟩,⟨⟩,c,Y,a⟩
 replace a:p8 k i j f d=some l:=a
 obtain _|f:=f
 ·cases a
 rw[p8.eq_2]at a
 refine ifB a (λE a=>?_) λE a=>?_
 ·refine Or.inl (aI (aI (by kernel_rfl) (by kernel_rfl)) ?_)
  refine ld a (H0.mono c e) λaf V P a=>?_
  obtain⟨ag,ah,ai,rfl,rfl,F,G,H⟩:=P1 P
  try dsimp only at a
  obtain⟨U,z,a⟩:=z0 a
  refine eX (.bool U) (aI (Z0g _ _ _ (l0 p s (H0.mono c e)) _ _ (K1 F G H) _  z) ?_)
  obtain⟨aj,A,a⟩:=z0 a
  obtain⟨W,n,Q⟩:=Sl.getG (r:=Z0.toRp) (H0.mono c e) A (by decide) (W0c t)
  refine aI (λq=>(n q).1) ?_
  obtain⟨ak,al,am,rfl,rfl,I,J,K⟩:=P1 Q
  try dsimp only at a
  refine eX _ (aI (λq=>(n q).2) ?_)
  obtain⟨an,B,a⟩:=z0 a
  obtain⟨X,o,S⟩:=Sl.getG (r:=Z0.toRp) (H0.mono c e) B (by decide) (W0c t)
  refine aI (λq=>(o q).1) ?_
  obtain⟨ao,ap,aq,rfl,rfl,L,M,N⟩:=P1 S
  try dsimp only at a
  refine eX _ (aI (λq=>(o q).2) ?_)
  refine trG a (λq=>q05 _ _ _ (K1 I J K) _ _ (K1 L M N)) λT a=>?_
  obtain⟨ac,y,a⟩:=z0 a
  have Z:J0 T:=A2 y
  refine ifB a (λD a=>?_) λD a=>?_
  ·obtain rfl:=oJ a
   try dsimp only[E4,M4]at b
   obtain rfl:=oJ b
   exact aI rfl c
  ·exact I2 f ⟨(IntKind.i64.wrap (d+1)),rfl,rfl,c,(N0 _),a⟩
 ·obtain rfl:=oJ a
  try dsimp only[T0,V0]at b
  refine trV b (C5 _ _ p 1 (by decide) 3 (by decide)) λad b=>?_
  refine trG b (λq=>C5 _ _ s 1 (by decide) 40 (by decide)) λae b=>?_
  obtain rfl:=oJ b
  exact aI rfl c
theorem S01(h:Hp)(c:List Value)(d:j0)(m:j1.R h c d)(b:Int)(j:J0 b)(r:Bool)(a:J4 d b=some r):
  Tr Tryz.prog 290 #[.agg c.toArray,.int .i64 b] h λv i=>v = .bool r/\i=h:=by
 obtain⟨k,e,f,s,g,l,rfl,rfl,o,p,n⟩:=B0 m
 obtain⟨rfl,q⟩:=Sl.len n
 unfold J4 at a
 dsimp only at a
 refine Tr.forget (Z1 (args:=[.agg #[.int .i64 k,.int .i64 e,.slice f l.length g],.int .i64 b]) (fn:=Tryz.f290) rfl ?_)
 refine trV a (P8 _ _ j 0 (by decide) (IntKind.i64.wrap (e-1)) (N0 _)) λt a=>?_
 obtain rfl:=oJ a
 exact aI rfl (Sub.refl _)
theorem n09(h:Hp)(d:List Value)(g:j0)(y:j1.R h d g)(e:List Value)(i:K0)(z:Z0.R h e i)(r:Bool)(a:U9 g i=some r):
  Tr Tryz.prog 337 #[.agg d.toArray,.agg e.toArray] h λv l=>v = .bool r/\l=h:=by
 obtain⟨p,s,j,B,k,t,rfl,rfl,b,f,c⟩:=B0 y
 obtain⟨rfl,A⟩:=Sl.len c
 obtain⟨u,w,x,rfl,rfl,m,n,o⟩:=P1 z
 unfold U9 at a
 dsimp only at a
 refine Tr.forget (Z1 (args:=[.agg #[.int .i64 p,.int .i64 s,.slice j t.length k],.agg #[.int .i64 u,.int .i64 w,.int .i64 x]]) (fn:=Tryz.f337) rfl ?_)
 refine trV a (S01 _ _ _ (l0 b f c) _ m) λC a=>?_
 refine trG a (λq=>S01 _ _ _ (l0 b f c) _ o) λD a=>?_
 refine trG a (λq=>P8 _ _ n 1 (by decide) _ b) λE a=>?_
 obtain rfl:=oJ a
 exact aI rfl (Sub.refl _)
theorem r05(h:Hp)(b:List Value)(d:K0)(A:Z0.R h b d)(c:List Value)(e:K0)(B:Z0.R h c e)(r:Int)(a:u00 d e=some r):
  Tr Tryz.prog 316 #[.agg b.toArray,.agg c.toArray] h λv j=>v = .int .i64 r/\j=h:=by
 obtain⟨t,u,w,rfl,rfl,m,n,o⟩:=P1 A
 obtain⟨x,y,z,rfl,rfl,p,q,s⟩:=P1 B
 unfold u00 at a
 dsimp only at a
 refine Tr.forget (Z1 (args:=[.agg #[.int .i64 t,.int .i64 u,.int .i64 w],.agg #[.int .i64 x,.int .i64 y,.int .i64 z]]) (fn:=Tryz.f316) rfl ?_)
 refine trV a (O03 _ _ m _ p) λC a=>?_
 obtain⟨I,f,a⟩:=z0 a
 have F:J0 C:=A2 f
 refine ifB a (λk a=>?_) λk a=>?_
 ·obtain rfl:=oJ a
  exact aI rfl (Sub.refl _)
 ·refine trV a (O03 _ _ n _ q) λD a=>?_
  obtain⟨J,g,a⟩:=z0 a
  have G:J0 D:=A2 g
  refine ifB a (λl a=>?_) λl a=>?_
  ·obtain rfl:=oJ a
   exact aI rfl (Sub.refl _)
  ·refine trV a (O03 _ _ o _ s) λE a=>?_
   obtain⟨K,i,a⟩:=z0 a
   have H:J0 E:=A2 i
   obtain rfl:=oJ a
   exact aI rfl (Sub.refl _)
theorem T01(h:Hp)(m:List Value)(w:j0)(K:j1.R h m w)(r:Bool)(b:a8 w=some r):
  Tr Tryz.prog 300 #[.agg m.toArray] h λv g=>v = .bool r/\g=h:=by
 obtain⟨i,j,x,V,y,k,rfl,rfl,o,p,f⟩:=B0 K
 obtain⟨rfl,U⟩:=Sl.len f
 unfold a8 at b
 dsimp only at b
 refine Tr.forget (Z1 (args:=[.agg #[.int .i64 i,.int .i64 j,.slice x k.length y]]) (fn:=Tryz.f300) rfl ?_)
 refine trV b (P8 _ _ o 1 (by decide) 3 (by decide)) λX b=>?_
 refine trG b (λq=>P8 _ _ p 1 (by decide) 40 (by decide)) λac b=>?_
 refine ifB b (λE b=>?_) λE b=>?_
 ·obtain rfl:=oJ b
  exact aI rfl (Sub.refl _)
 ·obtain⟨l,C,b⟩:=z0 b
  refine eX { vars:=[24],boxes:=[],owns:=[],fuel:=true } (eX (λvs os g=>∃ d,vs.tail = [.int .i64 d]/\os = []/\Sub h g/\J0 d/\r8 k i j (Q1 vs) d=some l) (eX (λ_ _=>0) (aI (eX Q0 ⟨0,rfl,rfl,(Sub.refl _),(by decide),C⟩) ?_)))
  rintro _ e J ⟨d,⟨⟩,⟨⟩,c,S,a⟩
  replace a:r8 k i j e d=some l:=a
  obtain _|e:=e
  ·cases a
  rw[r8.eq_2]at a
  refine ifB a (λF a=>?_) λF a=>?_
  ·refine ld a (H0.mono c f) λad Q M a=>?_
   obtain⟨ae,af,ag,rfl,rfl,s,t,u⟩:=P1 M
   try dsimp only at a
   refine Or.inl (aI (aI (by kernel_rfl) (by kernel_rfl)) ?_)
   obtain⟨N,A,a⟩:=z0 a
   refine eX (.bool N) (aI (n09 _ _ _ (l0 o p (H0.mono c f)) _ _ (K1 s t u) _  A) ?_)
   obtain⟨Y,B,a⟩:=z0 a
   obtain⟨P,n,L⟩:=Sl.getG (r:=Z0.toRp) (H0.mono c f) B (by decide) (W0c J)
   refine aI (λq=>(n q).1) ?_
   obtain⟨Z,aa,ab,rfl,rfl,G,H,I⟩:=P1 L
   try dsimp only at a
   refine eX _ (aI (λq=>(n q).2) ?_)
   refine trG a (λq=>r05 _ _ _ (K1 G H I) _ _ (K1 s t u)) λO a=>?_
   obtain⟨W,z,a⟩:=z0 a
   have T:J0 O:=A2 z
   refine ifB a (λD a=>?_) λD a=>?_
   ·obtain rfl:=oJ a
    try dsimp only[E4,M4]at b
    obtain rfl:=oJ b
    exact aI rfl c
   ·exact I2 e ⟨(IntKind.i64.wrap (d+1)),rfl,rfl,c,(N0 _),a⟩
  ·obtain rfl:=oJ a
   try dsimp only[T0,V0]at b
   obtain rfl:=oJ b
   exact aI rfl c
theorem i03(h:Hp)(w:Option Addr)(G x:Nat)(t:C0)(k:I0.R h [.slice w G x] t)(b:Int)(g:J0 b)(r:C0)(f:P9 t b=some r):
  Tr Tryz.prog 336 #[.slice w G x,.int .i64 b] h λv s=>∃(z:Option Addr) (F A:Nat),v = .slice z F A/\I0.R s [.slice z F A] r/\Sub h s:=by
 obtain⟨rfl,al⟩:=Sl.len k
 unfold P9 at f
 refine Z1 (args:=[.slice w t.length x,.int .i64 b]) (fn:=Tryz.f336) rfl ?_
 obtain⟨y,V,f⟩:=z0 f
 refine eX { vars:=[6,7],boxes:=[],owns:=[0],fuel:=true } (eX (λvs os s=>∃ u j m i,vs.tail = [.bool u,.int .i64 j]/\os = [m]/\Sub h s/\J0 j/\F2 (Wp.int.R s) m i/\P4 t b (Q1 vs) u j i=some y) (eX (λ_ _=>0) (aI (eX Q0 ⟨false,0,[],([]:C0),rfl,rfl,(Sub.refl _),(by decide),(show F2 (Wp.int.R h) ([]:List (List Value)) ([]:C0) from trivial),V⟩) ?_)))
 rintro _ _ m l d ⟨u,j,aC,i,⟨⟩,⟨⟩,e,af,c,a⟩
 replace a:P4 t b l u j i=some y:=a
 obtain _|l:=l
 ·cases a
 rw[P4.eq_2]at a
 refine ifB a (λZ a=>?_) λZ a=>?_
 ·refine ldI a (I0.mono e k) λaB ai a=>?_
  refine ifB a (λaa a=>?_) λaa a=>?_
  ·refine ldI a (I0.mono e k) λaz ag a=>?_
   refine ifB a (λW a=>?_) λW a=>?_
   ·obtain⟨ao,N,a⟩:=z0 a
    refine aI (T1 N (by first|rw[F2.length c,F2.length (show F2 (Wp.int.R d) ([[.int .i64 b]]:List (List Value)) [b] from⟨⟨rfl,g⟩,trivial⟩)]|exact congrArg (·+1) (F2.length c))) ?_
    refine ldI a (I0.mono e k) λn B a=>?_
    obtain⟨ap,O,a⟩:=z0 a
    refine aI (T1 O (by first|rw[F2.length (F2.append c (show F2 (Wp.int.R d) ([[.int .i64 b]]:List (List Value)) [b] from⟨⟨rfl,g⟩,trivial⟩)),F2.length (show F2 (Wp.int.R d) ([[.int .i64 n]]:List (List Value)) [n] from⟨⟨rfl,B⟩,trivial⟩)]|exact congrArg (·+1) (F2.length (F2.append c (show F2 (Wp.int.R d) ([[.int .i64 b]]:List (List Value)) [b] from⟨⟨rfl,g⟩,trivial⟩))))) ?_
    exact I2 l ⟨true,(IntKind.i64.wrap (j+1)),((m++([[.int .i64 b]]:List (List Value)))++([[.int .i64 n]]:List (List Value))),((i ++ [b]) ++ [n]),rfl,rfl,e,(N0 _),(F2.append (F2.append c (show F2 (Wp.int.R d) ([[.int .i64 b]]:List (List Value)) [b] from⟨⟨rfl,g⟩,trivial⟩)) (show F2 (Wp.int.R d) ([[.int .i64 n]]:List (List Value)) [n] from⟨⟨rfl,B⟩,trivial⟩)),a⟩
   ·refine ldI a (I0.mono e k) λo C a=>?_
    obtain⟨aq,P,a⟩:=z0 a
    refine aI (T1 P (by first|rw[F2.length c,F2.length (show F2 (Wp.int.R d) ([[.int .i64 o]]:List (List Value)) [o] from⟨⟨rfl,C⟩,trivial⟩)]|exact congrArg (·+1) (F2.length c))) ?_
    exact I2 l ⟨true,(IntKind.i64.wrap (j+1)),(m++([[.int .i64 o]]:List (List Value))),(i ++ [o]),rfl,rfl,e,(N0 _),(F2.append c (show F2 (Wp.int.R d) ([[.int .i64 o]]:List (List Value)) [o] from⟨⟨rfl,C⟩,trivial⟩)),a⟩
  ·refine ldI a (I0.mono e k) λaA ah a=>?_
   refine ifB a (λX a=>?_) λX a=>?_
   ·obtain⟨ar,Q,a⟩:=z0 a
    refine aI (T1 Q (by first|rw[F2.length c,F2.length (show F2 (Wp.int.R d) ([[.int .i64 b]]:List (List Value)) [b] from⟨⟨rfl,g⟩,trivial⟩)]|exact congrArg (·+1) (F2.length c))) ?_
    refine ldI a (I0.mono e k) λp D a=>?_
    obtain⟨au,S,a⟩:=z0 a
    refine aI (T1 S (by first|rw[F2.length (F2.append c (show F2 (Wp.int.R d) ([[.int .i64 b]]:List (List Value)) [b] from⟨⟨rfl,g⟩,trivial⟩)),F2.length (show F2 (Wp.int.R d) ([[.int .i64 p]]:List (List Value)) [p] from⟨⟨rfl,D⟩,trivial⟩)]|exact congrArg (·+1) (F2.length (F2.append c (show F2 (Wp.int.R d) ([[.int .i64 b]]:List (List Value)) [b] from⟨⟨rfl,g⟩,trivial⟩))))) ?_
    exact I2 l ⟨true,(IntKind.i64.wrap (j+1)),((m++([[.int .i64 b]]:List (List Value)))++([[.int .i64 p]]:List (List Value))),((i ++ [b]) ++ [p]),rfl,rfl,e,(N0 _),(F2.append (F2.append c (show F2 (Wp.int.R d) ([[.int .i64 b]]:List (List Value)) [b] from⟨⟨rfl,g⟩,trivial⟩)) (show F2 (Wp.int.R d) ([[.int .i64 p]]:List (List Value)) [p] from⟨⟨rfl,D⟩,trivial⟩)),a⟩
   ·refine ldI a (I0.mono e k) λq E a=>?_
    obtain⟨av,T,a⟩:=z0 a
    refine aI (T1 T (by first|rw[F2.length c,F2.length (show F2 (Wp.int.R d) ([[.int .i64 q]]:List (List Value)) [q] from⟨⟨rfl,E⟩,trivial⟩)]|exact congrArg (·+1) (F2.length c))) ?_
    exact I2 l ⟨u,(IntKind.i64.wrap (j+1)),(m++([[.int .i64 q]]:List (List Value))),(i ++ [q]),rfl,rfl,e,(N0 _),(F2.append c (show F2 (Wp.int.R d) ([[.int .i64 q]]:List (List Value)) [q] from⟨⟨rfl,E⟩,trivial⟩)),a⟩
 ·obtain rfl:=oJ a
  try dsimp only[T0,V0]at f
  refine ifB f (λY f=>?_) λY f=>?_
  ·obtain⟨aw,U,f⟩:=z0 f
   refine aI (T1 U (by first|rw[F2.length c,F2.length (show F2 (Wp.int.R d) ([[.int .i64 b]]:List (List Value)) [b] from⟨⟨rfl,g⟩,trivial⟩)]|exact congrArg (·+1) (F2.length c))) ?_
   intro ax aj L
   obtain⟨H,J,rfl,ab,ad,am⟩:=D1.out (r:=Wp.int.toRp) L (F2.append c (show F2 (Wp.int.R d) ([[.int .i64 b]]:List (List Value)) [b] from⟨⟨rfl,g⟩,trivial⟩))
   obtain rfl:=oJ f
   exact⟨H,((i ++ [b])).length,J,rfl,ab,(e.trans ad)⟩
  ·intro ay ak M
   obtain⟨I,K,rfl,ac,ae,an⟩:=D1.out (r:=Wp.int.toRp) M c
   obtain rfl:=oJ f
   exact⟨I,i.length,K,rfl,ac,(e.trans ae)⟩
theorem j03(h:Hp)(i:Option Addr)(m j:Nat)(e:C0)(n:I0.R h [.slice i m j] e)(c:Int)(s:J0 c)(r:Bool)(b:Q9 e c=some r):
  Tr Tryz.prog 246 #[.slice i m j,.int .i64 c] h λv k=>v = .bool r/\k=h:=by
 obtain⟨rfl,x⟩:=Sl.len n
 unfold Q9 at b
 refine Tr.forget (Z1 (args:=[.slice i e.length j,.int .i64 c]) (fn:=Tryz.f246) rfl ?_)
 obtain⟨l,o,b⟩:=z0 b
 refine eX { vars:=[5],boxes:=[],owns:=[],fuel:=true } (eX (λvs os k=>∃ d,vs.tail = [.int .i64 d]/\os = []/\Sub h k/\J0 d/\V9 e c (Q1 vs) d=some l) (eX (λ_ _=>0) (aI (eX Q0 ⟨0,rfl,rfl,(Sub.refl _),(by decide),o⟩) ?_)))
 rintro _ f w ⟨d,⟨⟩,⟨⟩,g,t,a⟩
 replace a:V9 e c f d=some l:=a
 obtain _|f:=f
 ·cases a
 rw[V9.eq_2]at a
 refine ifB a (λp a=>?_) λp a=>?_
 ·refine ldI a (I0.mono g n) λy u a=>?_
  refine ifB a (λq a=>?_) λq a=>?_
  ·obtain rfl:=oJ a
   try dsimp only[E4,M4]at b
   obtain rfl:=oJ b
   exact aI rfl g
  ·exact I2 f ⟨(IntKind.i64.wrap (d+1)),rfl,rfl,g,(N0 _),a⟩
 ·obtain rfl:=oJ a
  try dsimp only[T0,V0]at b
  obtain rfl:=oJ b
  exact aI rfl g
theorem t0d(h:Hp)(u:List Value)(y:j0)(Z:j1.R h u y)(f:Int)(ai:J0 f)(g:Int)(aj:J0 g)(r:C0)(e:H01 y f g=some r):
  Tr Tryz.prog 297 #[.agg u.toArray,.int .i64 f,.int .i64 g] h λv l=>∃(s:Option Addr) (x t:Nat),v = .slice s x t/\I0.R l [.slice s x t] r/\Sub h l:=by
 obtain⟨X,Y,G,az,L,o,rfl,rfl,ag,ah,z⟩:=B0 Z
 obtain⟨rfl,ar⟩:=Sl.len z
 unfold H01 at e
 dsimp only at e
 refine Z1 (args:=[.agg #[.int .i64 X,.int .i64 Y,.slice G o.length L],.int .i64 f,.int .i64 g]) (fn:=Tryz.f297) rfl ?_
 obtain⟨q,Q,e⟩:=z0 e
 refine eX { vars:=[7,8],boxes:=[],owns:=[],fuel:=true,pubs:=[7,10] } (eX (λvs os l=>∃(j:Option Addr) (n k:Nat) (d:C0) (b:Int),vs.tail = [.slice j n k,.int .i64 b]/\os = []/\Sub h l/\I0.R l [.slice j n k] d/\J0 b/\d4 o g f (Q1 vs) d b=some q) (eX (λ_ _=>0) ?_))
 intro aD ao f3
 obtain⟨K,P,rfl,ab,ae,ay⟩:=D1.out (r:=Wp.int.toRp) f3 (show F2 (Wp.int.R h) ([]:List (List Value)) ([]:C0) from trivial)
 refine aI (eX Q0 ⟨K,(([]:C0)).length,P,([]:C0),0,rfl,rfl,ae,ab,(by decide),Q⟩) ?_
 rintro _ _ c aq ⟨j,n,k,d,b,⟨⟩,⟨⟩,i,m,ak,a⟩
 replace a:d4 o g f c d b=some q:=a
 obtain _|c:=c
 ·cases a
 rw[d4.eq_2]at a
 obtain⟨rfl,au⟩:=Sl.len m
 refine ifB a (λS a=>?_) λS a=>?_
 ·refine ld a (H0.mono i z) λaH af aa a=>?_
  obtain⟨aJ,aK,aL,rfl,rfl,w,al,W⟩:=P1 aa
  try dsimp only at a
  refine ifB a (λT a=>?_) λT a=>?_
  ·refine trM a (i03 _ _ _ _ _ m _ W) ?_
   rintro D a aE am ⟨H,aA,M,rfl,p,C⟩
   obtain⟨rfl,av⟩:=Sl.len p
   refine ifB a (λU a=>?_) λU a=>?_
   ·refine trM a (i03 _ _ _ _ _ p _ w) ?_
    rintro E a aF an ⟨I,aB,N,rfl,A,ac⟩
    obtain⟨rfl,aw⟩:=Sl.len A
    exact I2 c ⟨I,E.length,N,E,(IntKind.i64.wrap (b+1)),rfl,rfl,((i.trans C).trans ac),A,(N0 _),a⟩
   ·exact I2 c ⟨H,D.length,M,D,(IntKind.i64.wrap (b+1)),rfl,rfl,(i.trans C),p,(N0 _),a⟩
  ·refine ifB a (λV a=>?_) λV a=>?_
   ·refine trM a (i03 _ _ _ _ _ m _ w) ?_
    rintro F a aG ap ⟨J,aC,O,rfl,B,ad⟩
    obtain⟨rfl,ax⟩:=Sl.len B
    exact I2 c ⟨J,F.length,O,F,(IntKind.i64.wrap (b+1)),rfl,rfl,(i.trans ad),B,(N0 _),a⟩
   ·exact I2 c ⟨j,d.length,k,d,(IntKind.i64.wrap (b+1)),rfl,rfl,i,m,(N0 _),a⟩
 ·obtain rfl:=oJ a
  try dsimp only[T0,V0]at e
  obtain rfl:=oJ e
  exact⟨j,d.length,k,rfl,m,i⟩
theorem p00(h:Hp)(d:List Value)(e:j0)(w:j1.R h d e)(b:Int)(p:J0 b)(c:Int)(q:J0 c)(r:Int)(a:R5 e b c=some r):
  Tr Tryz.prog 214 #[.agg d.toArray,.int .i64 b,.int .i64 c] h λv l=>v = .int .i64 r/\l=h:=by
 obtain⟨s,t,j,D,k,u,rfl,rfl,n,o,f⟩:=B0 w
 obtain⟨rfl,B⟩:=Sl.len f
 unfold R5 at a
 dsimp only at a
 refine Tr.forget (Z1 (args:=[.agg #[.int .i64 s,.int .i64 t,.slice j u.length k],.int .i64 b,.int .i64 c]) (fn:=Tryz.f214) rfl ?_)
 refine trM a (t0d _ _ _ (l0 n o f) _ p _ q) ?_
 rintro G a F A ⟨x,E,y,rfl,g,i⟩
 obtain⟨rfl,C⟩:=Sl.len g
 refine ifB a (λm a=>?_) λm a=>?_
 ·obtain rfl:=oJ a
  exact aI rfl i
 ·refine ldI a g λH z a=>?_
  obtain rfl:=oJ a
  exact aI rfl i
theorem j7(h:Hp)(s:List Value)(w:j0)(F:j1.R h s w)(r:Bool)(c:Z3 w=some r):
  Tr Tryz.prog 293 #[.agg s.toArray] h λv f=>v = .bool r/\f=h:=by
 obtain⟨m,n,x,V,y,g,rfl,rfl,t,u,i⟩:=B0 F
 obtain⟨rfl,U⟩:=Sl.len i
 unfold Z3 at c
 dsimp only at c
 refine Tr.forget (Z1 (args:=[.agg #[.int .i64 m,.int .i64 n,.slice x g.length y]]) (fn:=Tryz.f293) rfl ?_)
 obtain⟨o,z,c⟩:=z0 c
 refine eX { vars:=[3],boxes:=[],owns:=[],fuel:=true } (eX (λvs os f=>∃ d,vs.tail = [.int .i64 d]/\os = []/\Sub h f/\J0 d/\S5 g m n (Q1 vs) d=some o) (eX (λ_ _=>0) (aI (eX Q0 ⟨0,rfl,rfl,(Sub.refl _),(by decide),z⟩) ?_)))
 rintro _ l E ⟨d,⟨⟩,⟨⟩,e,K,b⟩
 replace b:S5 g m n l d=some o:=b
 obtain _|l:=l
 ·cases b
 rw[S5.eq_2]at b
 refine trG b (λq=>c8 _ _ _ (l0 t u (H0.mono e i))) λaf b=>?_
 refine ifB b (λD b=>?_) λD b=>?_
 ·obtain⟨p,A,b⟩:=z0 b
  refine eX { vars:=[4],boxes:=[],owns:=[],fuel:=true } (eX (λvs os f=>∃ u8,vs.tail = [.int .i64 u8]/\os = []/\Sub E f/\J0 u8/\J7 d g (Q1 vs) u8=some p) (eX (λ_ _=>0) (aI (eX Q0 ⟨0,rfl,rfl,(Sub.refl _),(by decide),A⟩) ?_)))
  rintro _ k T ⟨u8,⟨⟩,⟨⟩,j,L,a⟩
  replace a:J7 d g k u8=some p:=a
  obtain _|k:=k
  ·cases a
  rw[J7.eq_2]at a
  refine ifB a (λB a=>?_) λB a=>?_
  ·refine ld a (H0.mono (e.trans j) i) λW I G a=>?_
   obtain⟨X,Y,Z,rfl,rfl,M,N,O⟩:=P1 G
   try dsimp only at a
   refine ld a (H0.mono (e.trans j) i) λaa J H a=>?_
   obtain⟨ab,ac,ad,rfl,rfl,P,Q,S⟩:=P1 H
   try dsimp only at a
   refine ifB a (λC a=>?_) λC a=>?_
   ·obtain rfl:=oJ a
    try dsimp only[E4,M4]at b
    obtain rfl:=oJ b
    try dsimp only[E4,M4]at c
    obtain rfl:=oJ c
    exact aI rfl (e.trans j)
   ·exact I2 k ⟨(IntKind.i64.wrap (u8+1)),rfl,rfl,j,(N0 _),a⟩
  ·obtain rfl:=oJ a
   try dsimp only[T0,V0]at b
   exact I2 l ⟨(IntKind.i64.wrap (d+1)),rfl,rfl,(e.trans j),(N0 _),b⟩
 ·obtain rfl:=oJ b
  try dsimp only[T0,V0]at c
  refine trV c (c8 _ _ _ (l0 t u (H0.mono e i))) λae c=>?_
  obtain rfl:=oJ c
  exact aI rfl e
theorem n08(h:Hp)(u:List Value)(A:j0)(N:j1.R h u A)(d:Int)(y:J0 d)(k:Option Addr)(z l:Nat)(e:C0)(B:I0.R h [.slice k z l] e)(r:Int×Bool)(b:e01 A d e=some r):
  Tr Tryz.prog 217 #[.agg u.toArray,.int .i64 d,.slice k z l] h λv m=>v = .tuple #[.int .i64 r.1,.bool r.2]/\m=h:=by
 obtain⟨n,j,C,T,D,o,rfl,rfl,w,x,p⟩:=B0 N
 obtain⟨rfl,Q⟩:=Sl.len p
 obtain⟨rfl,S⟩:=Sl.len B
 unfold e01 at b
 dsimp only at b
 refine Tr.forget (Z1 (args:=[.agg #[.int .i64 n,.int .i64 j,.slice C o.length D],.int .i64 d,.slice k e.length l]) (fn:=Tryz.f217) rfl ?_)
 refine trV b (j7 _ _ _ (l0 w x p)) λV b=>?_
 refine trG b (λq=>C5 _ _ y 0 (by decide) (IntKind.i64.wrap (j-1)) (N0 _)) λX b=>?_
 refine ifB b (λI b=>?_) λI b=>?_
 ·obtain rfl:=oJ b
  exact aI rfl (Sub.refl _)
 ·obtain⟨t,G,b⟩:=z0 b
  refine eX { vars:=[1,8],boxes:=[],owns:=[],fuel:=true } (eX (λvs os m=>∃ g c,vs.tail = [.int .i64 g,.int .i64 c]/\os = []/\Sub h m/\J0 g/\J0 c/\K7 e n j o (Q1 vs) g c=some t) (eX (λ_ _=>0) (aI (eX Q0 ⟨d,0,rfl,rfl,(Sub.refl _),y,(by decide),G⟩) ?_)))
  rintro _ _ i P ⟨g,c,⟨⟩,⟨⟩,f,K,O,a⟩
  replace a:K7 e n j o i g c=some t:=a
  obtain _|i:=i
  ·cases a
  rw[K7.eq_2]at a
  refine ifB a (λJ a=>?_) λJ a=>?_
  ·refine Or.inl (aI (aI (by kernel_rfl) (by kernel_rfl)) ?_)
   refine ldI a (I0.mono f B) λW L a=>?_
   obtain⟨s,F,a⟩:=z0 a
   refine eX (.int .i64 s) (aI (p00 _ _ _ (l0 w x (H0.mono f p)) _ K _ L _  F) ?_)
   obtain⟨U,E,a⟩:=z0 a
   have M:J0 s:=A2 E
   refine ifB a (λH a=>?_) λH a=>?_
   ·obtain rfl:=oJ a
    try dsimp only[E4,M4]at b
    obtain rfl:=oJ b
    exact aI rfl f
   ·exact I2 i ⟨s,(IntKind.i64.wrap (c+1)),rfl,rfl,f,M,(N0 _),a⟩
  ·obtain rfl:=oJ a
   try dsimp only[T0,V0]at b
   obtain rfl:=oJ b
   exact aI rfl f
theorem u0d(h:Hp)(u:List Value)(B:j0)(U:j1.R h u B)(g:Int)(ab:J0 g)(i:Int)(ac:J0 i)(r:C0)(c:I01 B g i=some r):
  Tr Tryz.prog 286 #[.agg u.toArray,.int .i64 g,.int .i64 i] h λv n=>∃(s:Option Addr) (A t:Nat),v = .slice s A t/\New I0 h n [.slice s A t] r:=by
 obtain⟨S,T,F,al,H,p,rfl,rfl,Z,aa,E⟩:=B0 U
 obtain⟨rfl,ai⟩:=Sl.len E
 unfold I01 at c
 dsimp only at c
 refine Z1 (args:=[.agg #[.int .i64 S,.int .i64 T,.slice F p.length H],.int .i64 g,.int .i64 i]) (fn:=Tryz.f286) rfl ?_
 obtain⟨q,N,c⟩:=z0 c
 refine eX { vars:=[14],boxes:=[],owns:=[0],fuel:=true } (eX (λvs os n=>∃ d j e,vs.tail = [.int .i64 d]/\os = [j]/\Sub h n/\J0 d/\F2 (Wp.int.R n) j e/\a5 p i g (Q1 vs) d e=some q) (eX (λ_ _=>0) (aI (eX Q0 ⟨0,[],([]:C0),rfl,rfl,(Sub.refl _),(by decide),(show F2 (Wp.int.R h) ([]:List (List Value)) ([]:C0) from trivial),N⟩) ?_)))
 rintro _ j f o ⟨d,aA,e,⟨⟩,⟨⟩,m,ad,b,a⟩
 replace a:a5 p i g f d e=some q:=a
 obtain _|f:=f
 ·cases a
 rw[a5.eq_2]at a
 refine ifB a (λP a=>?_) λP a=>?_
 ·refine ld a (H0.mono m E) λay X V a=>?_
  obtain⟨k,az,l,rfl,rfl,y,ae,z⟩:=P1 V
  try dsimp only at a
  refine ifB a (λQ a=>?_) λQ a=>?_
  ·obtain⟨ao,M,a⟩:=z0 a
   refine aI (T1 M (by first|rw[F2.length b,F2.length (show F2 (Wp.int.R o) ([[.int .i64 l]]:List (List Value)) [l] from⟨⟨rfl,z⟩,trivial⟩)]|exact congrArg (·+1) (F2.length b))) ?_
   exact I2 f ⟨(IntKind.i64.wrap (d+1)),(j++([[.int .i64 l]]:List (List Value))),(e ++ [l]),rfl,rfl,m,(N0 _),(F2.append b (show F2 (Wp.int.R o) ([[.int .i64 l]]:List (List Value)) [l] from⟨⟨rfl,z⟩,trivial⟩)),a⟩
  ·refine ifB a (λO a=>?_) λO a=>?_
   ·obtain⟨am,K,a⟩:=z0 a
    refine aI (T1 K (by first|rw[F2.length b,F2.length (show F2 (Wp.int.R o) ([[.int .i64 k]]:List (List Value)) [k] from⟨⟨rfl,y⟩,trivial⟩)]|exact congrArg (·+1) (F2.length b))) ?_
    exact I2 f ⟨(IntKind.i64.wrap (d+1)),(j++([[.int .i64 k]]:List (List Value))),(e ++ [k]),rfl,rfl,m,(N0 _),(F2.append b (show F2 (Wp.int.R o) ([[.int .i64 k]]:List (List Value)) [k] from⟨⟨rfl,y⟩,trivial⟩)),a⟩
   ·exact I2 f ⟨(IntKind.i64.wrap (d+1)),j,e,rfl,rfl,m,(N0 _),b,a⟩
 ·obtain rfl:=oJ a
  try dsimp only[T0,V0]at c
  refine Or.inl ?_
  intro av af J
  obtain⟨an,L,c⟩:=z0 c
  refine Tr.mono (P0m _ J b (A2 L)) ?_
  rintro _ ag ⟨rfl,aw,w,C⟩
  obtain⟨W,Y,rfl,ap,ar,aj⟩:=D1.out (r:=Wp.int.toRp) w C
  refine Tr.mono (Q0m _ w C) ?_
  rintro _ ah ⟨ax,x,D⟩
  obtain⟨G,I,rfl,aq,au,ak⟩:=D1.out (r:=Wp.int.toRp) x D
  obtain rfl:=oJ c
  exact⟨G,((v04 eqI (n07 g00 e))).length,I,rfl,(New.from (D1.newPlain (r:=Wp.int) x D (z06 _)) m)⟩
theorem E02(h:Hp)(d:List Value)(e:j0)(y:j1.R h d e)(b:Int)(q:J0 b)(c:Int)(s:J0 c)(r:Int)(a:L7 e b c=some r):
  Tr Tryz.prog 201 #[.agg d.toArray,.int .i64 b,.int .i64 c] h λv m=>v = .int .i64 r/\m=h:=by
 obtain⟨u,w,k,E,l,x,rfl,rfl,o,p,f⟩:=B0 y
 obtain⟨rfl,C⟩:=Sl.len f
 unfold L7 at a
 dsimp only at a
 refine Tr.forget (Z1 (args:=[.agg #[.int .i64 u,.int .i64 w,.slice k x.length l],.int .i64 b,.int .i64 c]) (fn:=Tryz.f201) rfl ?_)
 refine trM a (u0d _ _ _ (l0 o p f) _ q _ s) ?_
 rintro H a G t ⟨z,F,A,rfl,j⟩
 have i:Sub h t:=j.sub
 have g:=j.r
 obtain⟨rfl,D⟩:=Sl.len g
 refine ifB a (λn a=>?_) λn a=>?_
 ·obtain rfl:=oJ a
  exact aI rfl i
 ·refine ldI a g λI B a=>?_
  obtain rfl:=oJ a
  exact aI rfl i
theorem j01(h:Hp)(p:List Value)(q:j0)(Q:j1.R h p q)(r:Bool)(c:i7 q=some r):
  Tr Tryz.prog 219 #[.agg p.toArray] h λv f=>v = .bool r/\f=h:=by
 obtain⟨N,O,y,al,z,m,rfl,rfl,K,L,k⟩:=B0 Q
 obtain⟨rfl,aj⟩:=Sl.len k
 unfold i7 at c
 dsimp only at c
 refine Tr.forget (Z1 (args:=[.agg #[.int .i64 N,.int .i64 O,.slice y m.length z]]) (fn:=Tryz.f219) rfl ?_)
 refine trV c (T01 _ _ _ (l0 K L k)) λam c=>?_
 refine ifB c (λH c=>?_) λH c=>?_
 ·obtain rfl:=oJ c
  exact aI rfl (Sub.refl _)
 ·obtain⟨o,E,c⟩:=z0 c
  refine eX { vars:=[13],boxes:=[],owns:=[],fuel:=true } (eX (λvs os f=>∃ e,vs.tail = [.int .i64 e]/\os = []/\Sub h f/\J0 e/\N7 m (Q1 vs) e=some o) (eX (λ_ _=>0) (aI (eX Q0 ⟨0,rfl,rfl,(Sub.refl _),(by decide),E⟩) ?_)))
  rintro _ j M ⟨e,⟨⟩,⟨⟩,g,ab,a⟩
  replace a:N7 m j e=some o:=a
  obtain _|j:=j
  ·cases a
  rw[N7.eq_2]at a
  refine ifB a (λI a=>?_) λI a=>?_
  ·refine ld a (H0.mono g k) λar Y T a=>?_
   obtain⟨t,u,w,rfl,rfl,af,ag,ah⟩:=P1 T
   try dsimp only at a
   obtain⟨x,C,a⟩:=z0 a
   obtain⟨P,U,A,B⟩:=Sl.cutI (r:=Z0.toRp) (H0.mono g k) C
   refine aI P (eX U (aI A ?_))
   intro V J _
   obtain⟨W,Z,rfl,s⟩:=B V J
   have ak:=(Sl.len s).2
   obtain⟨n,D,a⟩:=z0 a
   refine eX { vars:=[24],boxes:=[],owns:=[],fuel:=true } (eX (λvs os f=>∃ d,vs.tail = [.int .i64 d]/\os = []/\Sub M f/\J0 d/\M7 x u t w (Q1 vs) d=some n) (eX (λ_ _=>0) (aI (eX Q0 ⟨0,rfl,rfl,(Sub.refl _),(by decide),D⟩) ?_)))
   rintro _ i ai ⟨d,⟨⟩,⟨⟩,l,aa,b⟩
   replace b:M7 x u t w i d=some n:=b
   obtain _|i:=i
   ·cases b
   rw[M7.eq_2]at b
   refine ifB b (λF b=>?_) λF b=>?_
   ·refine ld b (H0.mono l s) λan X S b=>?_
    obtain⟨ao,ap,aq,rfl,rfl,ac,ad,ae⟩:=P1 S
    try dsimp only at b
    refine ifB b (λG b=>?_) λG b=>?_
    ·obtain rfl:=oJ b
     try dsimp only[E4,M4]at a
     obtain rfl:=oJ a
     try dsimp only[E4,M4]at c
     obtain rfl:=oJ c
     exact aI rfl (g.trans l)
    ·exact I2 i ⟨(IntKind.i64.wrap (d+1)),rfl,rfl,l,(N0 _),b⟩
   ·obtain rfl:=oJ b
    try dsimp only[T0,V0]at a
    exact I2 j ⟨(IntKind.i64.wrap (e+1)),rfl,rfl,(g.trans l),(N0 _),a⟩
  ·obtain rfl:=oJ a
   try dsimp only[T0,V0]at c
   obtain rfl:=oJ c
   exact aI rfl g
theorem I06(h:Hp)(q:List Value)(t:j0)(K:j1.R h q t)(d:Int)(G:J0 d)(j:Option Addr)(s k:Nat)(e:C0)(w:I0.R h [.slice j s k] e)(r:Int×Int)(b:l00 t d e=some r):
  Tr Tryz.prog 224 #[.agg q.toArray,.int .i64 d,.slice j s k] h λv l=>v = .tuple #[.int .i64 r.1,.int .i64 r.2]/\l=h:=by
 obtain⟨m,n,y,P,z,o,rfl,rfl,E,F,u⟩:=B0 K
 obtain⟨rfl,N⟩:=Sl.len u
 obtain⟨rfl,O⟩:=Sl.len w
 unfold l00 at b
 dsimp only at b
 refine Tr.forget (Z1 (args:=[.agg #[.int .i64 m,.int .i64 n,.slice y o.length z],.int .i64 d,.slice j e.length k]) (fn:=Tryz.f224) rfl ?_)
 obtain⟨p,B,b⟩:=z0 b
 refine eX { vars:=[1,13],boxes:=[],owns:=[],fuel:=true } (eX (λvs os l=>∃ g c,vs.tail = [.int .i64 g,.int .i64 c]/\os = []/\Sub h l/\J0 g/\J0 c/\I6 e m n o (Q1 vs) g c=some p) (eX (λ_ _=>0) (aI (eX Q0 ⟨d,0,rfl,rfl,(Sub.refl _),G,(by decide),B⟩) ?_)))
 rintro _ _ i M ⟨g,c,⟨⟩,⟨⟩,f,H,L,a⟩
 replace a:I6 e m n o i g c=some p:=a
 obtain _|i:=i
 ·cases a
 rw[I6.eq_2]at a
 refine ifB a (λD a=>?_) λD a=>?_
 ·refine ldI a (I0.mono f w) λS I a=>?_
  refine trV a (E02 _ _ _ (l0 E F (H0.mono f u)) _ H _ I) λx a=>?_
  obtain⟨Q,A,a⟩:=z0 a
  have J:J0 x:=A2 A
  refine ifB a (λC a=>?_) λC a=>?_
  ·obtain rfl:=oJ a
   try dsimp only[E4,M4]at b
   obtain rfl:=oJ b
   exact aI rfl f
  ·exact I2 i ⟨x,(IntKind.i64.wrap (c+1)),rfl,rfl,f,J,(N0 _),a⟩
 ·obtain rfl:=oJ a
  try dsimp only[T0,V0]at b
  obtain rfl:=oJ b
  exact aI rfl f
theorem d8(h:Hp)(d:List Value)(f:j0)(w:j1.R h d f)(r:j0)(a:c5 f=some r):
  Tr Tryz.prog 132 #[.agg d.toArray] h λv s=>∃(c:List Value),v = .agg c.toArray/\New j1 h s c r:=by
 obtain⟨g,i,l,B,n,j,rfl,rfl,t,u,k⟩:=B0 w
 obtain⟨rfl,z⟩:=Sl.len k
 unfold c5 at a
 dsimp only at a
 refine Z1 (args:=[.agg #[.int .i64 g,.int .i64 i,.slice l j.length n]]) (fn:=Tryz.f132) rfl ?_
 refine Or.inr (Or.inr (Or.inl (aI (aI (by kernel_rfl) (by kernel_rfl)) ?_)))
 refine Or.inr ?_
 refine Or.inr ?_
 refine Or.inr ?_
 refine Or.inr ?_
 refine Or.inl (eX 0 (aI (aI rfl rfl) ?_))
 refine aI trivial (aI (by first|exact trivial|exact rfl) ?_)
 obtain⟨x,p,b⟩:=Sl.rows (r:=Z0.toRp) k
 refine eX x (aI p ?_)
 obtain⟨C,q,a⟩:=z0 a
 refine aI (T1 q (by first|rw[F2.length (show F2 (Z0.R h) ([]:List (List Value)) ([]:M0) from trivial),F2.length b]|exact congrArg (·+1) (F2.length (show F2 (Z0.R h) ([]:List (List Value)) ([]:M0) from trivial)))) ?_
 refine aI trivial (aI (by first|exact trivial|exact rfl) ?_)
 refine aI trivial (aI (by first|exact trivial|exact rfl) ?_)
 refine aI trivial (aI (by first|exact trivial|exact rfl) ?_)
 intro F y e
 obtain⟨m,o,rfl,D,E,A⟩:=D1.out (r:=Z0.toRp) e (F2.append (show F2 (Z0.R h) ([]:List (List Value)) ([]:M0) from trivial) b)
 obtain rfl:=oJ a
 exact⟨([.int .i64 g,.int .i64 i,.slice m ((([]:M0)++j)).length o]),rfl,(New.pair (New.int t) (New.pair (New.int u) (D1.newPlain (r:=Z0) e (F2.append (show F2 (Z0.R h) ([]:List (List Value)) ([]:M0) from trivial) b) (o09 _))))⟩
theorem x01(h:Hp)(I:Option Addr)(ac J:Nat)(G:M0)(q:H0.R h [.slice I ac J] G)(N:List Value)(ad:K0)(aF:Z0.R h N ad)(r:M0)(g:f8 G ad=some r):
  Tr Tryz.prog 248 #[.slice I ac J,.agg N.toArray] h λv F=>∃(L:Option Addr) (ab M:Nat),v = .slice L ab M/\H0.R F [.slice L ab M] r/\Sub h F:=by
 obtain⟨rfl,aZ⟩:=Sl.len q
 obtain⟨b,c,d,rfl,rfl,i,j,k⟩:=P1 aF
 unfold f8 at g
 dsimp only at g
 refine Z1 (args:=[.slice I G.length J,.agg #[.int .i64 b,.int .i64 c,.int .i64 d]]) (fn:=Tryz.f248) rfl ?_
 obtain⟨K,aw,g⟩:=z0 g
 refine eX { vars:=[6,7],boxes:=[],owns:=[0],fuel:=true } (eX (λvs os F=>∃ H n p m,vs.tail = [.bool H,.int .i64 n]/\os = [p]/\Sub h F/\J0 n/\F2 (Z0.R F) p m/\Q4 G b c d (Q1 vs) H n m=some K) (eX (λ_ _=>0) (aI (eX Q0 ⟨false,0,[],([]:M0),rfl,rfl,(Sub.refl _),(by decide),(show F2 (Z0.R h) ([]:List (List Value)) ([]:M0) from trivial),aw⟩) ?_)))
 rintro _ _ p o f ⟨H,n,bp,m,⟨⟩,⟨⟩,l,aV,e,a⟩
 replace a:Q4 G b c d o H n m=some K:=a
 obtain _|o:=o
 ·cases a
 rw[Q4.eq_2]at a
 refine ifB a (λaB a=>?_) λaB a=>?_
 ·refine Or.inl (aI (aI (by kernel_rfl) (by kernel_rfl)) ?_)
  refine ld a (H0.mono l q) λbl aU aL a=>?_
  obtain⟨bm,bn,bo,rfl,rfl,aC,aD,aE⟩:=P1 aL
  try dsimp only at a
  obtain⟨ae,av,a⟩:=z0 a
  refine eX (.int .i64 ae) (aI (q05 _ _ _ (K1 i j k) _ _ (K1 aC aD aE) _  av) ?_)
  obtain⟨a2,al,a⟩:=z0 a
  have aW:J0 ae:=A2 al
  refine ifB a (λax a=>?_) λax a=>?_
  ·refine ifB a (λay a=>?_) λay a=>?_
   ·obtain⟨a3,am,a⟩:=z0 a
    refine aI (T1 am (by first|rw[F2.length e,F2.length (show F2 (Z0.R f) ([[.int .i64 b,.int .i64 c,.int .i64 d]]:List (List Value)) [(b,c,d)] from⟨(K1 i j k),trivial⟩)]|exact congrArg (·+1) (F2.length e))) ?_
    refine ld a (H0.mono l q) λbh aQ aG a=>?_
    obtain⟨s,t,u,rfl,rfl,O,P,Q⟩:=P1 aG
    try dsimp only at a
    obtain⟨a4,an,a⟩:=z0 a
    refine aI (T1 an (by first|rw[F2.length (F2.append e (show F2 (Z0.R f) ([[.int .i64 b,.int .i64 c,.int .i64 d]]:List (List Value)) [(b,c,d)] from⟨(K1 i j k),trivial⟩)),F2.length (show F2 (Z0.R f) ([[.int .i64 s,.int .i64 t,.int .i64 u]]:List (List Value)) [(s,t,u)] from⟨(K1 O P Q),trivial⟩)]|exact congrArg (·+1) (F2.length (F2.append e (show F2 (Z0.R f) ([[.int .i64 b,.int .i64 c,.int .i64 d]]:List (List Value)) [(b,c,d)] from⟨(K1 i j k),trivial⟩))))) ?_
    exact I2 o ⟨true,(IntKind.i64.wrap (n+1)),((p++([[.int .i64 b,.int .i64 c,.int .i64 d]]:List (List Value)))++([[.int .i64 s,.int .i64 t,.int .i64 u]]:List (List Value))),((m ++ [(b,c,d)]) ++ [(s,t,u)]),rfl,rfl,l,(N0 _),(F2.append (F2.append e (show F2 (Z0.R f) ([[.int .i64 b,.int .i64 c,.int .i64 d]]:List (List Value)) [(b,c,d)] from⟨(K1 i j k),trivial⟩)) (show F2 (Z0.R f) ([[.int .i64 s,.int .i64 t,.int .i64 u]]:List (List Value)) [(s,t,u)] from⟨(K1 O P Q),trivial⟩)),a⟩
   ·refine ld a (H0.mono l q) λbi aR aH a=>?_
    obtain⟨w,x,y,rfl,rfl,S,T,U⟩:=P1 aH
    try dsimp only at a
    obtain⟨ba,ao,a⟩:=z0 a
    refine aI (T1 ao (by first|rw[F2.length e,F2.length (show F2 (Z0.R f) ([[.int .i64 w,.int .i64 x,.int .i64 y]]:List (List Value)) [(w,x,y)] from⟨(K1 S T U),trivial⟩)]|exact congrArg (·+1) (F2.length e))) ?_
    exact I2 o ⟨true,(IntKind.i64.wrap (n+1)),(p++([[.int .i64 w,.int .i64 x,.int .i64 y]]:List (List Value))),(m ++ [(w,x,y)]),rfl,rfl,l,(N0 _),(F2.append e (show F2 (Z0.R f) ([[.int .i64 w,.int .i64 x,.int .i64 y]]:List (List Value)) [(w,x,y)] from⟨(K1 S T U),trivial⟩)),a⟩
  ·refine ifB a (λaz a=>?_) λaz a=>?_
   ·obtain⟨bb,ap,a⟩:=z0 a
    refine aI (T1 ap (by first|rw[F2.length e,F2.length (show F2 (Z0.R f) ([[.int .i64 b,.int .i64 c,.int .i64 d]]:List (List Value)) [(b,c,d)] from⟨(K1 i j k),trivial⟩)]|exact congrArg (·+1) (F2.length e))) ?_
    refine ld a (H0.mono l q) λbj aS aJ a=>?_
    obtain⟨z,A,B,rfl,rfl,V,W,X⟩:=P1 aJ
    try dsimp only at a
    obtain⟨bc,aq,a⟩:=z0 a
    refine aI (T1 aq (by first|rw[F2.length (F2.append e (show F2 (Z0.R f) ([[.int .i64 b,.int .i64 c,.int .i64 d]]:List (List Value)) [(b,c,d)] from⟨(K1 i j k),trivial⟩)),F2.length (show F2 (Z0.R f) ([[.int .i64 z,.int .i64 A,.int .i64 B]]:List (List Value)) [(z,A,B)] from⟨(K1 V W X),trivial⟩)]|exact congrArg (·+1) (F2.length (F2.append e (show F2 (Z0.R f) ([[.int .i64 b,.int .i64 c,.int .i64 d]]:List (List Value)) [(b,c,d)] from⟨(K1 i j k),trivial⟩))))) ?_
    exact I2 o ⟨true,(IntKind.i64.wrap (n+1)),((p++([[.int .i64 b,.int .i64 c,.int .i64 d]]:List (List Value)))++([[.int .i64 z,.int .i64 A,.int .i64 B]]:List (List Value))),((m ++ [(b,c,d)]) ++ [(z,A,B)]),rfl,rfl,l,(N0 _),(F2.append (F2.append e (show F2 (Z0.R f) ([[.int .i64 b,.int .i64 c,.int .i64 d]]:List (List Value)) [(b,c,d)] from⟨(K1 i j k),trivial⟩)) (show F2 (Z0.R f) ([[.int .i64 z,.int .i64 A,.int .i64 B]]:List (List Value)) [(z,A,B)] from⟨(K1 V W X),trivial⟩)),a⟩
   ·refine ld a (H0.mono l q) λbk aT aK a=>?_
    obtain⟨C,D,E,rfl,rfl,Y,Z,aa⟩:=P1 aK
    try dsimp only at a
    obtain⟨bd,ar,a⟩:=z0 a
    refine aI (T1 ar (by first|rw[F2.length e,F2.length (show F2 (Z0.R f) ([[.int .i64 C,.int .i64 D,.int .i64 E]]:List (List Value)) [(C,D,E)] from⟨(K1 Y Z aa),trivial⟩)]|exact congrArg (·+1) (F2.length e))) ?_
    exact I2 o ⟨H,(IntKind.i64.wrap (n+1)),(p++([[.int .i64 C,.int .i64 D,.int .i64 E]]:List (List Value))),(m ++ [(C,D,E)]),rfl,rfl,l,(N0 _),(F2.append e (show F2 (Z0.R f) ([[.int .i64 C,.int .i64 D,.int .i64 E]]:List (List Value)) [(C,D,E)] from⟨(K1 Y Z aa),trivial⟩)),a⟩
 ·obtain rfl:=oJ a
  try dsimp only[T0,V0]at g
  refine ifB g (λaA g=>?_) λaA g=>?_
  ·obtain⟨be,au,g⟩:=z0 g
   refine aI (T1 au (by first|rw[F2.length e,F2.length (show F2 (Z0.R f) ([[.int .i64 b,.int .i64 c,.int .i64 d]]:List (List Value)) [(b,c,d)] from⟨(K1 i j k),trivial⟩)]|exact congrArg (·+1) (F2.length e))) ?_
   intro bf aX aj
   obtain⟨af,ah,rfl,aM,aO,a0⟩:=D1.out (r:=Z0.toRp) aj (F2.append e (show F2 (Z0.R f) ([[.int .i64 b,.int .i64 c,.int .i64 d]]:List (List Value)) [(b,c,d)] from⟨(K1 i j k),trivial⟩))
   obtain rfl:=oJ g
   exact⟨af,((m ++ [(b,c,d)])).length,ah,rfl,aM,(l.trans aO)⟩
  ·intro bg aY ak
   obtain⟨ag,ai,rfl,aN,aP,a1⟩:=D1.out (r:=Z0.toRp) ak e
   obtain rfl:=oJ g
   exact⟨ag,m.length,ai,rfl,aN,(l.trans aP)⟩
theorem l0e(h:Hp)(m:List Value)(n:j0)(A:j1.R h m n)(g:Int)(J:J0 g)(r:Int)(f:f01 n g=some r):
  Tr Tryz.prog 318 #[.agg m.toArray,.int .i64 g] h λv j=>v = .int .i64 r/\j=h:=by
 obtain⟨y,z,o,X,p,k,rfl,rfl,H,I,i⟩:=B0 A
 obtain⟨rfl,W⟩:=Sl.len i
 unfold f01 at f
 dsimp only at f
 refine Tr.forget (Z1 (args:=[.agg #[.int .i64 y,.int .i64 z,.slice o k.length p],.int .i64 g]) (fn:=Tryz.f318) rfl ?_)
 obtain⟨l,q,f⟩:=z0 f
 refine eX { vars:=[5,6],boxes:=[],owns:=[],fuel:=true } (eX (λvs os j=>∃ b c,vs.tail = [.int .i64 b,.int .i64 c]/\os = []/\Sub h j/\J0 b/\J0 c/\M3 k g (Q1 vs) b c=some l) (eX (λ_ _=>0) (aI (eX Q0 ⟨0,0,rfl,rfl,(Sub.refl _),(by decide),(by decide),q⟩) ?_)))
 rintro _ _ e V ⟨b,c,⟨⟩,⟨⟩,d,x,K,a⟩
 replace a:M3 k g e b c=some l:=a
 obtain _|e:=e
 ·cases a
 rw[M3.eq_2]at a
 refine ifB a (λu a=>?_) λu a=>?_
 ·refine ld a (H0.mono d i) λac F C a=>?_
  obtain⟨ad,ae,af,rfl,rfl,O,P,Q⟩:=P1 C
  try dsimp only at a
  refine ifB a (λw a=>?_) λw a=>?_
  ·refine ld a (H0.mono d i) λag G D a=>?_
   obtain⟨ah,ai,aj,rfl,rfl,S,T,U⟩:=P1 D
   try dsimp only at a
   refine ifB a (λs a=>?_) λs a=>?_
   ·exact I2 e ⟨(IntKind.i64.wrap ((IntKind.i64.wrap (b+1))+1)),(IntKind.i64.wrap (c+1)),rfl,rfl,d,(N0 _),(N0 _),a⟩
   ·exact I2 e ⟨(IntKind.i64.wrap (b+1)),(IntKind.i64.wrap (c+1)),rfl,rfl,d,(N0 _),(N0 _),a⟩
  ·refine ld a (H0.mono d i) λY E B a=>?_
   obtain⟨Z,aa,ab,rfl,rfl,L,M,N⟩:=P1 B
   try dsimp only at a
   refine ifB a (λt a=>?_) λt a=>?_
   ·exact I2 e ⟨(IntKind.i64.wrap (b+1)),(IntKind.i64.wrap (c+1)),rfl,rfl,d,(N0 _),(N0 _),a⟩
   ·exact I2 e ⟨b,(IntKind.i64.wrap (c+1)),rfl,rfl,d,x,(N0 _),a⟩
 ·obtain rfl:=oJ a
  try dsimp only[T0,V0]at f
  obtain rfl:=oJ f
  exact aI rfl d
theorem g06(h:Hp)(k:List Value)(m:j0)(E:j1.R h k m)(l:List Value)(n:j0)(F:j1.R h l n)(r:Bool)(b:H9 m n=some r):
  Tr Tryz.prog 194 #[.agg k.toArray,.agg l.toArray] h λv f=>v = .bool r/\f=h:=by
 obtain⟨A,B,q,af,t,g,rfl,rfl,Q,S,o⟩:=B0 E
 obtain⟨rfl,ad⟩:=Sl.len o
 obtain⟨C,D,s,ag,u,i,rfl,rfl,T,U,p⟩:=B0 F
 obtain⟨rfl,ae⟩:=Sl.len p
 unfold H9 at b
 dsimp only at b
 refine Tr.forget (Z1 (args:=[.agg #[.int .i64 A,.int .i64 B,.slice q g.length t],.agg #[.int .i64 C,.int .i64 D,.slice s i.length u]]) (fn:=Tryz.f194) rfl ?_)
 refine ifB b (λx b=>?_) λx b=>?_
 ·obtain rfl:=oJ b
  exact aI rfl (Sub.refl _)
 ·obtain⟨j,w,b⟩:=z0 b
  refine eX { vars:=[5],boxes:=[],owns:=[],fuel:=true } (eX (λvs os f=>∃ c,vs.tail = [.int .i64 c]/\os = []/\Sub h f/\J0 c/\U6 g i (Q1 vs) c=some j) (eX (λ_ _=>0) (aI (eX Q0 ⟨0,rfl,rfl,(Sub.refl _),(by decide),w⟩) ?_)))
  rintro _ e ac ⟨c,⟨⟩,⟨⟩,d,V,a⟩
  replace a:U6 g i e c=some j:=a
  obtain _|e:=e
  ·cases a
  rw[U6.eq_2]at a
  refine ifB a (λy a=>?_) λy a=>?_
  ·refine Or.inl (aI (aI (by kernel_rfl) (by kernel_rfl)) ?_)
   refine ld a (H0.mono d o) λah O G a=>?_
   obtain⟨I,J,K,rfl,rfl,W,X,Y⟩:=P1 G
   try dsimp only at a
   refine ld a (H0.mono d p) λai P H a=>?_
   obtain⟨L,M,N,rfl,rfl,Z,aa,ab⟩:=P1 H
   try dsimp only at a
   refine eX (!eqE (I,J,K) (L,M,N)) (aI (E0j _ _ _ rfl _ _ _ _ _ _) ?_)
   refine ifB a (λz a=>?_) λz a=>?_
   ·obtain rfl:=oJ a
    try dsimp only[E4,M4]at b
    obtain rfl:=oJ b
    exact aI rfl d
   ·exact I2 e ⟨(IntKind.i64.wrap (c+1)),rfl,rfl,d,(N0 _),a⟩
  ·obtain rfl:=oJ a
   try dsimp only[T0,V0]at b
   obtain rfl:=oJ b
   exact aI rfl d
theorem U0a(h:Hp)(I:List Value)(L:j0)(aw:j1.R h I L)(f:Int)(J:J0 f)(r:C0)(b:U00 L f=some r):
  Tr Tryz.prog 334 #[.agg I.toArray,.int .i64 f] h λv e=>∃(G:Option Addr) (K H:Nat),v = .slice G K H/\I0.R e [.slice G K H] r/\Sub h e:=by
 obtain⟨av,M,U,aX,aa,t,rfl,rfl,aq,ar,B⟩:=B0 aw
 obtain⟨rfl,aP⟩:=Sl.len B
 unfold U00 at b
 dsimp only at b
 refine Z1 (args:=[.agg #[.int .i64 av,.int .i64 M,.slice U t.length aa],.int .i64 f]) (fn:=Tryz.f334) rfl ?_
 refine trV b (c8 _ _ _ (l0 aq ar B)) λbb b=>?_
 refine trG b (λq=>C5 _ _ J 0 (by decide) (IntKind.i64.wrap (M-1)) (N0 _)) λbc b=>?_
 refine ifB b (λan b=>?_) λan b=>?_
 ·intro a4 aN ah
  obtain⟨Z,af,rfl,az,aD,aW⟩:=D1.out (r:=Wp.int.toRp) ah (show F2 (Wp.int.R h) ([]:List (List Value)) ([]:C0) from trivial)
  obtain rfl:=oJ b
  exact⟨Z,(([]:C0)).length,af,rfl,az,aD⟩
 ·obtain⟨E,ai,b⟩:=z0 b
  refine eX { vars:=[5,6],boxes:=[],owns:=[],fuel:=true,pubs:=[5,22] } (eX (λvs os e=>∃(n:Option Addr) (z p:Nat) (k:C0) (m:Int),vs.tail = [.slice n z p,.int .i64 m]/\os = []/\Sub h e/\I0.R e [.slice n z p] k/\J0 m/\Z5 t (Q1 vs) k m=some E) (eX (λ_ _=>0) ?_))
  intro ba aO ag
  obtain⟨Y,ae,rfl,ay,aC,aV⟩:=D1.out (r:=Wp.int.toRp) ag (show F2 (Wp.int.R h) ([[.int .i64 f]]:List (List Value)) [f] from⟨⟨rfl,J⟩,trivial⟩)
  refine aI (eX Q0 ⟨Y,([f]).length,ae,[f],0,rfl,rfl,aC,ay,(by decide),ai⟩) ?_
  rintro _ _ u au ⟨n,z,p,k,m,⟨⟩,⟨⟩,D,C,aF,c⟩
  replace c:Z5 t u k m=some E:=c
  obtain _|u:=u
  ·cases c
  rw[Z5.eq_2]at c
  obtain⟨rfl,aQ⟩:=Sl.len C
  refine ifB c (λak c=>?_) λak c=>?_
  ·obtain⟨F,aj,c⟩:=z0 c
   refine eX { vars:=[5,7],boxes:=[],owns:=[],fuel:=true } (eX (λvs os e=>∃ o A s g d,vs.tail = [.slice o A s,.int .i64 d]/\os = []/\Sub au e/\I0.R e [.slice o A s] g/\J0 d/\L3 t (Q1 vs) g d=some F) (eX (λ_ _=>0) (aI (eX Q0 ⟨n,k.length,p,k,0,rfl,rfl,(Sub.refl _),C,(by decide),aj⟩) ?_)))
   rintro _ _ i aJ ⟨o,A,s,g,d,⟨⟩,⟨⟩,l,j,aG,a⟩
   replace a:L3 t i g d=some F:=a
   obtain _|i:=i
   ·cases a
   rw[L3.eq_2]at a
   obtain⟨rfl,aR⟩:=Sl.len j
   refine ifB a (λal a=>?_) λal a=>?_
   ·refine ld a (H0.mono (D.trans l) B) λbd aE ax a=>?_
    obtain⟨be,bf,bg,rfl,rfl,x,aH,y⟩:=P1 ax
    try dsimp only at a
    refine trV a (j03 _ _ _ _ _ j _ x) λbh a=>?_
    refine ifB a (λam a=>?_) λam a=>?_
    ·refine trM a (i03 _ _ _ _ _ j _ y) ?_
     rintro Q a a1 aK ⟨V,aY,ab,rfl,w,P⟩
     obtain⟨rfl,aS⟩:=Sl.len w
     refine trV a (j03 _ _ _ _ _ w _ y) λbi a=>?_
     refine ifB a (λao a=>?_) λao a=>?_
     ·refine trM a (i03 _ _ _ _ _ w _ x) ?_
      rintro S a a2 aL ⟨W,aZ,ac,rfl,N,aA⟩
      obtain⟨rfl,aT⟩:=Sl.len N
      exact I2 i ⟨W,S.length,ac,S,(IntKind.i64.wrap (d+1)),rfl,rfl,((l.trans P).trans aA),N,(N0 _),a⟩
     ·exact I2 i ⟨V,Q.length,ab,Q,(IntKind.i64.wrap (d+1)),rfl,rfl,(l.trans P),w,(N0 _),a⟩
    ·refine trV a (j03 _ _ _ _ _ j _ y) λbj a=>?_
     refine ifB a (λap a=>?_) λap a=>?_
     ·refine trM a (i03 _ _ _ _ _ j _ x) ?_
      rintro T a a3 aM ⟨X,a0,ad,rfl,O,aB⟩
      obtain⟨rfl,aU⟩:=Sl.len O
      exact I2 i ⟨X,T.length,ad,T,(IntKind.i64.wrap (d+1)),rfl,rfl,(l.trans aB),O,(N0 _),a⟩
     ·exact I2 i ⟨o,g.length,s,g,(IntKind.i64.wrap (d+1)),rfl,rfl,l,j,(N0 _),a⟩
   ·obtain rfl:=oJ a
    try dsimp only[T0,V0]at c
    exact I2 u ⟨o,g.length,s,g,(IntKind.i64.wrap (m+1)),rfl,rfl,(D.trans l),j,(N0 _),c⟩
  ·obtain rfl:=oJ c
   try dsimp only[T0,V0]at b
   obtain rfl:=oJ b
   exact⟨n,k.length,p,rfl,C,D⟩
theorem v0a(h:Hp)(n:List Value)(t:j0)(E:j1.R h n t)(r:Int)(b:t02 t=some r):
  Tr Tryz.prog 294 #[.agg n.toArray] h λv f=>v = .int .i64 r/\f=h:=by
 obtain⟨g,i,x,M,y,j,rfl,rfl,o,p,k⟩:=B0 E
 obtain⟨rfl,K⟩:=Sl.len k
 unfold t02 at b
 dsimp only at b
 refine Tr.forget (Z1 (args:=[.agg #[.int .i64 g,.int .i64 i,.slice x j.length y]]) (fn:=Tryz.f294) rfl ?_)
 refine trM b (U0a _ _ _ (l0 o p k) 0 (by decide)) ?_
 rintro w b P D ⟨G,N,H,rfl,u,l⟩
 obtain⟨rfl,L⟩:=Sl.len u
 obtain⟨m,A,b⟩:=z0 b
 refine eX { vars:=[4],boxes:=[],owns:=[],fuel:=true } (eX (λvs os f=>∃ c,vs.tail = [.int .i64 c]/\os = []/\Sub D f/\J0 c/\n9 i g j w (Q1 vs) c=some m) (eX (λ_ _=>0) (aI (eX Q0 ⟨1,rfl,rfl,(Sub.refl _),(by decide),A⟩) ?_)))
 rintro _ e J ⟨c,⟨⟩,⟨⟩,d,s,a⟩
 replace a:n9 i g j w e c=some m:=a
 obtain _|e:=e
 ·cases a
 rw[n9.eq_2]at a
 refine ifB a (λC a=>?_) λC a=>?_
 ·refine trV a (l0e _ _ _ (l0 o p (H0.mono (l.trans d) k)) _ s) λF a=>?_
  obtain⟨O,z,a⟩:=z0 a
  have I:J0 F:=A2 z
  refine trG a (λq=>j03 _ _ _ _ _ (I0.mono d u) _ s) λQ a=>?_
  refine ifB a (λB a=>?_) λB a=>?_
  ·obtain rfl:=oJ a
   try dsimp only[E4,M4]at b
   obtain rfl:=oJ b
   exact aI rfl (l.trans d)
  ·exact I2 e ⟨(IntKind.i64.wrap (c+1)),rfl,rfl,d,(N0 _),a⟩
 ·obtain rfl:=oJ a
  try dsimp only[T0,V0]at b
  obtain rfl:=oJ b
  exact aI rfl (l.trans d)
theorem Z02(h:Hp)(U:List Value)(Y:j0)(aY:j1.R h U Y)(I:Option Addr)(X J:Nat)(s:C0)(F:I0.R h [.slice I X J] s)(r:j0×Bool)(d:V6 Y s=some r):
  Tr Tryz.prog 320 #[.agg U.toArray,.slice I X J] h λv e=>∃(T:List Value),v = .tuple #[.agg T.toArray,.bool r.2]/\j1.R e T r.1/\Sub h e:=by
 obtain⟨E,l,ag,bW,ao,y,rfl,rfl,C,K,z⟩:=B0 aY
 obtain⟨rfl,bR⟩:=Sl.len z
 obtain⟨rfl,aX⟩:=Sl.len F
 unfold V6 at d
 dsimp only at d
 refine Z1 (args:=[.agg #[.int .i64 E,.int .i64 l,.slice ag y.length ao],.slice I s.length J]) (fn:=Tryz.f320) rfl ?_
 refine trV d (c8 _ _ _ (l0 C K z)) λcc d=>?_
 refine ifB d (λaL d=>?_) λaL d=>?_
 ·refine trM d (d8 _ _ _ (l0 C K z)) ?_
  rintro ci d ca aW ⟨bp,rfl,ae⟩
  have be:Sub h aW:=ae.sub
  have a2:=ae.r
  obtain⟨bj,bk,ai,bY,aq,bl,rfl,rfl,aS,aT,aa⟩:=B0 a2
  obtain⟨rfl,bU⟩:=Sl.len aa
  try dsimp only at d
  obtain rfl:=oJ d
  exact⟨([.int .i64 bj,.int .i64 bk,.slice ai bl.length aq]),rfl,(l0 aS aT aa),be⟩
 ·obtain⟨b0,ay,d⟩:=z0 d
  refine aI (A2 ay) ?_
  obtain⟨S,aH,d⟩:=z0 d
  refine eX { vars:=[8],boxes:=[],owns:=[0],fuel:=true,kept:=[0] } (eX (λvs os e=>∃ u8 H o,vs.tail = [.int .i64 u8]/\os = [H]/\Sub h e/\J0 u8/\F2 (Wp.int.R e) H o/\R4 s l E y (Q1 vs) u8 o=some S) (eX (λ_ _=>0) (aI (eX Q0 ⟨0,(List.replicate l.toNat ([.int .i64 0]:List Value)),(List.replicate l.toNat (0:Int)),rfl,rfl,(Sub.refl _),(by decide),(F2.rep (p:=Wp.int.R h) (a:=[.int .i64 0]) (b:=0) ⟨rfl,(by decide)⟩ (l.toNat)),aH⟩) ?_)))
  rintro _ H D w ⟨u8,co,o,⟨⟩,⟨⟩,g,bx,k,c⟩
  replace c:R4 s l E y D u8 o=some S:=c
  obtain _|D:=D
  ·cases c
  rw[R4.eq_2]at c
  refine ifB c (λaJ c=>?_) λaJ c=>?_
  ·refine Or.inl (aI (aI (by kernel_rfl) (by kernel_rfl)) ?_)
   refine ldI c (I0.mono g F) λcd aO c=>?_
   obtain⟨bf,az,c⟩:=z0 c
   refine eX (.bool bf) (aI (C5 _ _ aO 0 (by decide) (IntKind.i64.wrap (l-1)) (N0 _) _  az) ?_)
   refine ldG c (I0.mono g F) λce bz c=>?_
   obtain⟨cf,aA,c⟩:=z0 c
   obtain⟨bm,V,aZ⟩:=c05 k aA (y0f w)
   refine aI (λq=>(V q).1) ?_
   obtain⟨rfl,bA⟩:=aZ
   refine eX _ (aI (λq=>(V q).2) ?_)
   refine ifB c (λaK c=>?_) λaK c=>?_
   ·refine trM c (d8 _ _ _ (l0 C K (H0.mono g z))) ?_
    rintro cg c b8 aU ⟨bn,rfl,ad⟩
    have bd:Sub w aU:=ad.sub
    have a0:=ad.r
    obtain⟨bg,bh,ah,bX,ap,bi,rfl,rfl,aP,aQ,Z⟩:=B0 a0
    obtain⟨rfl,bT⟩:=Sl.len Z
    try dsimp only at c
    obtain rfl:=oJ c
    try dsimp only[E4,M4]at d
    obtain rfl:=oJ d
    exact⟨([.int .i64 bg,.int .i64 bh,.slice ah bi.length ap]),rfl,(l0 aP aQ Z),(g.trans bd)⟩
   ·refine ldI c (I0.mono g F) λO bB c=>?_
    obtain⟨ch,aB,c⟩:=z0 c
    obtain⟨ak,bo,au,a1⟩:=j5 k aB
    refine aI ak ?_
    obtain⟨rfl,bC⟩:=a1
    refine eX _ (aI au ?_)
    exact I2 D ⟨(IntKind.i64.wrap (u8+1)),(H.set O.toNat [.int .i64 (IntKind.i64.wrap (u8+1))]),(o.set O.toNat (IntKind.i64.wrap (u8+1))),rfl,rfl,g,(N0 _),(F2.set (p:=Wp.int.R w) (a:=[.int .i64 (IntKind.i64.wrap (u8+1))]) (b:=(IntKind.i64.wrap (u8+1))) ⟨rfl,(N0 _)⟩ O.toNat k),c⟩
  ·obtain rfl:=oJ c
   try dsimp only[T0,V0]at d
   obtain⟨Q,aG,d⟩:=z0 d
   refine eX { vars:=[9],boxes:=[2],owns:=[],fuel:=true } (eX (λvs os e=>∃ m i j t N u n,vs.tail = [.int .i64 m,.int .i64 i,.int .i64 j,.slice t N u]/\os = []/\Sub w e/\J0 m/\J0 i/\J0 j/\H0.R e [.slice t N u] n/\T3 y o (Q1 vs) m i j n=some Q) (eX (λ_ _=>0) (aI (eX Q0 ⟨0,E,((s.length:Nat):Int),none,0,0,[],rfl,rfl,(Sub.refl _),(by decide),C,(i0q aX),(S08 Z0 w),aG⟩) ?_)))
   rintro _ _ _ _ x aV ⟨m,i,j,t,N,u,n,⟨⟩,⟨⟩,f,bv,L,M,G,c⟩
   replace c:T3 y o x m i j n=some Q:=c
   obtain _|x:=x
   ·cases c
   rw[T3.eq_2]at c
   obtain⟨rfl,bS⟩:=Sl.len G
   refine ifB c (λaM c=>?_) λaM c=>?_
   ·refine ld c (H0.mono (g.trans f) z) λcj bq a3 c=>?_
    obtain⟨ck,P,cl,rfl,rfl,bD,aR,bE⟩:=P1 a3
    try dsimp only at c
    obtain⟨cm,aC,c⟩:=z0 c
    obtain⟨al,br,av,a4⟩:=j5 (F2.up (r:=Wp.int.toRp) f k) aC
    refine aI al ?_
    obtain⟨rfl,bF⟩:=a4
    refine eX _ (aI av ?_)
    obtain⟨cn,aD,c⟩:=z0 c
    obtain⟨bs,W,ba⟩:=c05 (F2.up (r:=Wp.int.toRp) f k) aD (y0f aV)
    refine aI (λq=>(W q).1) ?_
    obtain⟨rfl,bG⟩:=ba
    refine eX _ (aI (λq=>(W q).2) ?_)
    refine ifB c (λaN c=>?_) λaN c=>?_
    ·refine Or.inr (Or.inr (Or.inl (aI (aI (by kernel_rfl) (by kernel_rfl)) ?_)))
     obtain⟨A,aE,c⟩:=z0 c
     obtain⟨am,bt,aw,bb⟩:=j5 (F2.up (r:=Wp.int.toRp) f k) aE
     obtain⟨rfl,bH⟩:=bb
     refine Or.inl ?_
     apply eX
     refine aI ?_ ?_
     ·intro bJ b1
      exact aI am (aI rfl (aI rfl rfl))
     refine Or.inl (eX (.val (.int .i64 A)) (aI ?_ ?_))
     ·intro bK b2
      exact eX _ (aI aw (aI rfl (aI rfl rfl)))
     refine Or.inl (eX (.val (.int .i64 (IntKind.i64.wrap (A-1)))) (aI ?_ ?_))
     ·intro bL b3
      exact aI rfl (aI rfl rfl)
     obtain⟨B,aF,c⟩:=z0 c
     obtain⟨an,bu,ax,bc⟩:=j5 (F2.up (r:=Wp.int.toRp) f k) aF
     obtain⟨rfl,bI⟩:=bc
     refine Or.inl ?_
     apply eX
     refine aI ?_ ?_
     ·intro bM b4
      exact aI an (aI rfl (aI rfl rfl))
     refine Or.inl (eX (.val (.int .i64 B)) (aI ?_ ?_))
     ·intro bN b5
      exact eX _ (aI ax (aI rfl (aI rfl rfl)))
     refine Or.inl (eX (.val (.int .i64 (IntKind.i64.wrap (B-1)))) (aI ?_ ?_))
     ·intro bO b6
      exact aI rfl (aI rfl rfl)
     refine Or.inl (eX (.agg [.val (.int .i64 (IntKind.i64.wrap (A-1))),.val (.int .i64 P),.val (.int .i64 (IntKind.i64.wrap (B-1)))]) (aI ?_ ?_))
     ·intro bP b7
      exact aI rfl (aI rfl rfl)
     refine Or.inr ?_
     refine Or.inr ?_
     refine Or.inl (eX 1 (aI (aI rfl rfl) ?_))
     refine trM c (x01 _ _ _ _ _ G [.int .i64 (IntKind.i64.wrap (A-1)),.int .i64 P,.int .i64 (IntKind.i64.wrap (B-1))] ((IntKind.i64.wrap (A-1)),P,(IntKind.i64.wrap (B-1))) (K1 (N0 _) aR (N0 _))) ?_
     rintro af c cb bQ ⟨aj,bZ,ar,rfl,ab,ac⟩
     obtain⟨rfl,bV⟩:=Sl.len ab
     refine aI (aI rfl ac) (aI (by first|exact trivial|exact rfl) ?_)
     refine aI trivial (aI (by first|exact trivial|exact rfl) ?_)
     exact I2 x ⟨(IntKind.i64.wrap (m+1)),i,j,aj,af.length,ar,af,rfl,rfl,(f.trans ac),(N0 _),L,M,ab,c⟩
    ·exact I2 x ⟨(IntKind.i64.wrap (m+1)),i,j,t,n.length,u,n,rfl,rfl,f,(N0 _),L,M,G,c⟩
   ·obtain rfl:=oJ c
    try dsimp only[T0,V0]at d
    obtain rfl:=oJ d
    exact⟨([.int .i64 i,.int .i64 j,.slice t n.length u]),rfl,(l0 L M G),(g.trans f)⟩
theorem k03(h:Hp)(e:Int)(C:J0 e)(r:C0)(i:o7 e=some r):
  Tr Tryz.prog 319 #[.int .i64 e] h λv g=>∃(n:Option Addr) (p o:Nat),v = .slice n p o/\I0.R g [.slice n p o] r/\Sub h g:=by
 unfold o7 at i
 refine Z1 (args:=[.int .i64 e]) (fn:=Tryz.f319) rfl ?_
 obtain⟨m,y,i⟩:=z0 i
 refine eX { vars:=[4],boxes:=[],owns:=[0],fuel:=true } (eX (λvs os g=>∃ a l f,vs.tail = [.int .i64 a]/\os = [l]/\Sub h g/\J0 a/\F2 (Wp.int.R g) l f/\Y6 e (Q1 vs) a f=some m) (eX (λ_ _=>0) (aI (eX Q0 ⟨1,[],([]:C0),rfl,rfl,(Sub.refl _),(by decide),(show F2 (Wp.int.R h) ([]:List (List Value)) ([]:C0) from trivial),y⟩) ?_)))
 rintro _ l k d ⟨a,I,f,⟨⟩,⟨⟩,q,j,c,b⟩
 replace b:Y6 e k a f=some m:=b
 obtain _|k:=k
 ·cases b
 rw[Y6.eq_2]at b
 refine ifB b (λz b=>?_) λz b=>?_
 ·obtain⟨F,w,b⟩:=z0 b
  refine aI (T1 w (by first|rw[F2.length c,F2.length (show F2 (Wp.int.R d) ([[.int .i64 a]]:List (List Value)) [a] from⟨⟨rfl,j⟩,trivial⟩)]|exact congrArg (·+1) (F2.length c))) ?_
  obtain⟨G,x,b⟩:=z0 b
  refine aI (T1 x (by first|rw[F2.length (F2.append c (show F2 (Wp.int.R d) ([[.int .i64 a]]:List (List Value)) [a] from⟨⟨rfl,j⟩,trivial⟩)),F2.length (show F2 (Wp.int.R d) ([[.int .i64 (IntKind.i64.wrap (0-a))]]:List (List Value)) [(IntKind.i64.wrap (0-a))] from⟨⟨rfl,(N0 _)⟩,trivial⟩)]|exact congrArg (·+1) (F2.length (F2.append c (show F2 (Wp.int.R d) ([[.int .i64 a]]:List (List Value)) [a] from⟨⟨rfl,j⟩,trivial⟩))))) ?_
  exact I2 k ⟨(IntKind.i64.wrap (a+1)),((l++([[.int .i64 a]]:List (List Value)))++([[.int .i64 (IntKind.i64.wrap (0-a))]]:List (List Value))),((f ++ [a]) ++ [(IntKind.i64.wrap (0-a))]),rfl,rfl,q,(N0 _),(F2.append (F2.append c (show F2 (Wp.int.R d) ([[.int .i64 a]]:List (List Value)) [a] from⟨⟨rfl,j⟩,trivial⟩)) (show F2 (Wp.int.R d) ([[.int .i64 (IntKind.i64.wrap (0-a))]]:List (List Value)) [(IntKind.i64.wrap (0-a))] from⟨⟨rfl,(N0 _)⟩,trivial⟩)),b⟩
 ·obtain rfl:=oJ b
  try dsimp only[T0,V0]at i
  intro H D u
  obtain⟨s,t,rfl,A,B,E⟩:=D1.out (r:=Wp.int.toRp) u c
  obtain rfl:=oJ i
  exact⟨s,f.length,t,rfl,A,(q.trans B)⟩
theorem s08(h:Hp)(G:List Value)(K:j0)(aq:j1.R h G K)(r:C0)(c:B9 K=some r):
  Tr Tryz.prog 335 #[.agg G.toArray] h λv d=>∃(E:Option Addr) (J F:Nat),v = .slice E J F/\I0.R d [.slice E J F] r/\Sub h d:=by
 obtain⟨n,o,M,aR,Q,p,rfl,rfl,y,H,A⟩:=B0 aq
 obtain⟨rfl,aM⟩:=Sl.len A
 unfold B9 at c
 dsimp only at c
 refine Z1 (args:=[.agg #[.int .i64 n,.int .i64 o,.slice M p.length Q]]) (fn:=Tryz.f335) rfl ?_
 refine trV c (j7 _ _ _ (l0 y H A)) λa1 c=>?_
 refine ifB c (λah c=>?_) λah c=>?_
 ·intro aY aK X
  obtain⟨O,T,rfl,aw,ay,aQ⟩:=D1.out (r:=Wp.int.toRp) X (show F2 (Wp.int.R h) ([]:List (List Value)) ([]:C0) from trivial)
  obtain rfl:=oJ c
  exact⟨O,(([]:C0)).length,T,rfl,aw,ay⟩
 ·refine trM c (k03 _ _ y) ?_
  rintro w c a0 ao ⟨aA,aS,aD,rfl,L,B⟩
  obtain⟨rfl,aN⟩:=Sl.len L
  obtain⟨C,ae,c⟩:=z0 c
  refine eX { vars:=[5],boxes:=[],owns:=[0],fuel:=true } (eX (λvs os d=>∃ e s k,vs.tail = [.int .i64 e]/\os = [s]/\Sub ao d/\J0 e/\F2 (Wp.int.R d) s k/\M5 w n o p (Q1 vs) e k=some C) (eX (λ_ _=>0) (aI (eX Q0 ⟨0,([[.int .i64 0]]:List (List Value)),[0],rfl,rfl,(Sub.refl _),(by decide),(F2.up (r:=Wp.int.toRp) B (show F2 (Wp.int.R h) ([[.int .i64 0]]:List (List Value)) [0] from⟨⟨rfl,(by decide)⟩,trivial⟩)),ae⟩) ?_)))
  rintro _ s t an ⟨e,a4,k,⟨⟩,⟨⟩,u,aG,x,b⟩
  replace b:M5 w n o p t e k=some C:=b
  obtain _|t:=t
  ·cases b
  rw[M5.eq_2]at b
  obtain⟨ap,Y,b⟩:=z0 b
  obtain rfl:s.length=ap:=(F2.length x).trans (oJ Y)
  obtain⟨aT,aF,b⟩:=z0 b
  refine ifB b (λag b=>?_) λag b=>?_
  ·obtain⟨D,af,b⟩:=z0 b
   refine eX { vars:=[6],boxes:=[],owns:=[0],fuel:=true } (eX (λvs os d=>∃ i l j,vs.tail = [.int .i64 i]/\os = [l]/\Sub an d/\J0 i/\F2 (Wp.int.R d) l j/\O3 w e n o p (Q1 vs) i j=some D) (eX (λ_ _=>0) (aI (eX Q0 ⟨0,s,k,rfl,rfl,(Sub.refl _),(by decide),x,af⟩) ?_)))
   rintro _ l m I ⟨i,ba,j,⟨⟩,⟨⟩,q,aH,g,a⟩
   replace a:O3 w e n o p m i j=some D:=a
   obtain _|m:=m
   ·cases a
   rw[O3.eq_2]at a
   refine ifB a (λai a=>?_) λai a=>?_
   ·refine Or.inl (aI (aI (by kernel_rfl) (by kernel_rfl)) ?_)
    obtain⟨a2,ab,a⟩:=z0 a
    obtain⟨P,aC,U,ar⟩:=j5 g ab
    refine aI P ?_
    obtain⟨rfl,al⟩:=ar
    refine eX _ (aI U ?_)
    refine ldI a (I0.mono (u.trans q) L) λa3 am a=>?_
    obtain⟨f,ac,a⟩:=z0 a
    refine eX (.int .i64 f) (aI (p00 _ _ _ (l0 y H (H0.mono ((B.trans u).trans q) A)) _ al _ am _  ac) ?_)
    obtain⟨aU,Z,a⟩:=z0 a
    have z:J0 f:=A2 Z
    obtain⟨az,ad,a⟩:=z0 a
    refine eX (.bool az) (aI ?_ ?_)
    ·intro ak
     intro aX aJ V
     obtain⟨aB,aE,rfl,au,aW,aO⟩:=D1.out (r:=Wp.int.toRp) V g
     exact j03 _ _ _ _ _ au _ z _ (n8 ad ak)
    refine ifB a (λaj a=>?_) λaj a=>?_
    ·obtain⟨aV,aa,a⟩:=z0 a
     refine aI (T1 aa (by first|rw[F2.length g,F2.length (show F2 (Wp.int.R I) ([[.int .i64 f]]:List (List Value)) [f] from⟨⟨rfl,z⟩,trivial⟩)]|exact congrArg (·+1) (F2.length g))) ?_
     exact I2 m ⟨(IntKind.i64.wrap (i+1)),(l++([[.int .i64 f]]:List (List Value))),(j ++ [f]),rfl,rfl,q,(N0 _),(F2.append g (show F2 (Wp.int.R I) ([[.int .i64 f]]:List (List Value)) [f] from⟨⟨rfl,z⟩,trivial⟩)),a⟩
    ·exact I2 m ⟨(IntKind.i64.wrap (i+1)),l,j,rfl,rfl,q,(N0 _),g,a⟩
   ·obtain rfl:=oJ a
    try dsimp only[T0,V0]at b
    exact I2 t ⟨(IntKind.i64.wrap (e+1)),l,j,rfl,rfl,(u.trans q),(N0 _),g,b⟩
  ·obtain rfl:=oJ b
   try dsimp only[T0,V0]at c
   intro aZ aL W
   obtain⟨N,S,rfl,av,ax,aP⟩:=D1.out (r:=Wp.int.toRp) W x
   obtain rfl:=oJ c
   exact⟨N,k.length,S,rfl,av,((B.trans u).trans ax)⟩
theorem x04(h:Hp)(g:List Value)(j:j0)(H:j1.R h g j)(r:j0)(a:V7 j=some r):
  Tr Tryz.prog 295 #[.agg g.toArray] h λv i=>∃(f:List Value),v = .agg f.toArray/\j1.R i f r/\Sub h i:=by
 obtain⟨E,F,p,ac,t,G,rfl,rfl,d,e,b⟩:=B0 H
 obtain⟨rfl,Y⟩:=Sl.len b
 unfold V7 at a
 dsimp only at a
 refine Z1 (args:=[.agg #[.int .i64 E,.int .i64 F,.slice p G.length t]]) (fn:=Tryz.f295) rfl ?_
 refine trM a (s08 _ _ _ (l0 d e b)) ?_
 rintro aj a ah C ⟨T,ad,W,rfl,k,c⟩
 obtain⟨rfl,Z⟩:=Sl.len k
 refine ifB a (λx a=>?_) λx a=>?_
 ·refine trM a (d8 _ _ _ (l0 d e (H0.mono c b))) ?_
  rintro ak a ai D ⟨U,rfl,o⟩
  have J:Sub C D:=o.sub
  have I:=o.r
  obtain⟨L,M,q,ae,u,N,rfl,rfl,y,z,l⟩:=B0 I
  obtain⟨rfl,aa⟩:=Sl.len l
  try dsimp only at a
  obtain rfl:=oJ a
  exact⟨([.int .i64 L,.int .i64 M,.slice q N.length u]),rfl,(l0 y z l),(c.trans J)⟩
 ·refine trM a (Z02 _ _ _ (l0 d e (H0.mono c b)) _ _ _ _ k) ?_
  rintro O a ag X ⟨V,rfl,m,K⟩
  obtain⟨al,am⟩:=O
  dsimp only at a m
  obtain⟨P,Q,s,af,w,S,rfl,rfl,A,B,n⟩:=B0 m
  obtain⟨rfl,ab⟩:=Sl.len n
  try dsimp only at a
  obtain rfl:=oJ a
  exact⟨([.int .i64 P,.int .i64 Q,.slice s S.length w]),rfl,(l0 A B n),(c.trans K)⟩
theorem a0h(h:Hp)(m:List Value)(n:j0)(Q:j1.R h m n)(r:Bool)(a:C01 n=some r):
  Tr Tryz.prog 211 #[.agg m.toArray] h λv G=>v = .bool r/\G=h:=by
 obtain⟨N,O,t,ar,w,P,rfl,rfl,g,i,c⟩:=B0 Q
 obtain⟨rfl,ap⟩:=Sl.len c
 unfold C01 at a
 dsimp only at a
 refine Tr.forget (Z1 (args:=[.agg #[.int .i64 N,.int .i64 O,.slice t P.length w]]) (fn:=Tryz.f211) rfl ?_)
 refine Or.inr (Or.inr (Or.inr (Or.inl (aI (aI (by kernel_rfl) (by kernel_rfl)) ?_))))
 obtain⟨Z,C,a⟩:=z0 a
 refine Or.inl (eX (.val (.bool Z)) (aI ?_ ?_))
 ·intro al X
  exact Tr.val (j7 _ _ _ (l0 g i (H0.mono X c)) _ C) (aI rfl (aI rfl rfl))
 obtain⟨l,F,a⟩:=z0 a
 obtain⟨av,B,a⟩:=z0 a
 have ah:J0 l:=A2 B
 refine Or.inl (eX (.val (.int .i64 l)) (aI ?_ ?_))
 ·intro am Y b
  exact Tr.val (v0a _ _ _ (l0 g i (H0.mono Y c)) _ (n8 F b)) (aI rfl (aI rfl rfl))
 refine Or.inl (eX (.val (.bool (decide (l<0)))) (aI ?_ ?_))
 ·intro an aw b
  exact aI rfl (aI rfl rfl)
 obtain⟨aa,D,a⟩:=z0 a
 obtain⟨p,s,j⟩:=aa
 try dsimp only at a
 refine Or.inr (eX (λv H=>∃(d:Option Addr) (f:Nat),v = .agg #[.int .i64 p,.int .i64 s,.slice d j.length f]/\J0 p/\J0 s/\H0.R H [.slice d j.length f] j/\j.length<=9223372036854775807) (aI (λv af ag k q=>by obtain⟨d,f,e,z,A,f2,f3⟩:=q;exact⟨d,f,e,z,A,H0.mono k f2,f3⟩) (aI ?_ ?_)))
 ·intro ai U b
  refine Tr.mono (x04 _ _ _ (l0 g i (H0.mono U c)) _ (n8 D b)) ?_
  rintro _ ao ⟨ad,rfl,S,k⟩
  obtain⟨ax,ay,u,au,x,az,rfl,y,I,J,o⟩:=B0 S
  cases y
  obtain⟨rfl,M⟩:=Sl.len o
  exact aI o8 (aI k ⟨u,x,rfl,I,J,o,M⟩)
 obtain⟨ab,E,a⟩:=z0 a
 refine Or.inl (eX (.val (.bool ab)) (aI ?_ ?_))
 ·intro aj V b
  rintro _ ⟨ac,ae,rfl,K,L,T,aq⟩
  exact Tr.val (g06 _ _ _ (l0 K L T) _ _ (l0 g i (H0.mono V c)) _ (n8 E b)) (aI rfl (aI rfl rfl))
 intro ak W
 obtain rfl:=oJ a
 exact aI rfl W
theorem S7(h:Hp)(b:List Value)(c:j0)(n:j1.R h b c)(r:Bool)(a:l3 c=some r):
  Tr Tryz.prog 103 #[.agg b.toArray] h λv g=>v = .bool r/\g=h:=by
 obtain⟨k,l,e,p,f,m,rfl,rfl,i,j,d⟩:=B0 n
 obtain⟨rfl,o⟩:=Sl.len d
 unfold l3 at a
 dsimp only at a
 refine Tr.forget (Z1 (args:=[.agg #[.int .i64 k,.int .i64 l,.slice e m.length f]]) (fn:=Tryz.f103) rfl ?_)
 refine trV a (a0h _ _ _ (l0 i j d)) λq a=>?_
 obtain rfl:=oJ a
 exact aI rfl (Sub.refl _)
theorem m0e(h:Hp)(b:Int)(e:J0 b)(r:j0×Bool)(a:i02 b=some r):
  Tr Tryz.prog 330 #[.int .i64 b] h λv d=>∃(c:List Value),v = .tuple #[.agg c.toArray,.bool r.2]/\j1.R d c r.1/\Sub h d:=by
 unfold i02 at a
 refine Z1 (args:=[.int .i64 b]) (fn:=Tryz.f330) rfl ?_
 refine trV a (C5 _ _ e 1 (by decide) 3 (by decide)) λg a=>?_
 refine ifB a (λf a=>?_) λf a=>?_
 ·obtain rfl:=oJ a
  exact⟨([.int .i64 0,.int .i64 0,.slice none 0 0]),rfl,(l0 (by decide) (by decide) (S08 Z0 h)),(Sub.refl _)⟩
 ·obtain rfl:=oJ a
  exact⟨([.int .i64 b,.int .i64 1,.slice none 0 0]),rfl,(l0 e (by decide) (S08 Z0 h)),(Sub.refl _)⟩
theorem p09(h:Hp)(N:List Value)(W:j0)(aX:j1.R h N W)(x:Int)(Q:J0 x)(m:Option Addr)(V n:Nat)(k:C0)(l:I0.R h [.slice m V n] k)(f:Int)(u:J0 f)(r:j0×Bool)(b:L01 W x k f=some r):
  Tr Tryz.prog 277 #[.agg N.toArray,.int .i64 x,.slice m V n,.int .i64 f] h λv t=>∃(M:List Value),v = .tuple #[.agg M.toArray,.bool r.2]/\j1.R t M r.1/\Sub h t:=by
 obtain⟨aV,G,ao,bP,az,aW,rfl,rfl,E,P,H⟩:=B0 aX
 obtain⟨rfl,bH⟩:=Sl.len H
 obtain⟨rfl,bI⟩:=Sl.len l
 unfold L01 at b
 dsimp only at b
 refine Z1 (args:=[.agg #[.int .i64 aV,.int .i64 G,.slice ao aW.length az],.int .i64 x,.slice m k.length n,.int .i64 f]) (fn:=Tryz.f277) rfl ?_
 refine trM b (d8 _ _ _ (l0 E P H)) ?_
 rintro cb b b5 U ⟨bc,rfl,af⟩
 have i:Sub h U:=af.sub
 have aY:=af.r
 obtain⟨ag,ah,L,bQ,O,J,rfl,rfl,S,T,I⟩:=B0 aY
 obtain⟨rfl,bK⟩:=Sl.len I
 try dsimp only at b
 refine trV b (c8 _ _ _ (l0 E P (H0.mono i H))) λcd b=>?_
 refine trG b (λq=>C5 _ _ Q 0 (by decide) (IntKind.i64.wrap (G-1)) (N0 _)) λcf b=>?_
 refine trG b (λq=>C5 _ _ u 0 (by decide) (IntKind.i64.wrap (G-1)) (N0 _)) λcg b=>?_
 refine trG b (λq=>R04 _ _ E _ _ _ _ (I0.mono i l)) λch b=>?_
 refine ifB b (λaS b=>?_) λaS b=>?_
 ·obtain rfl:=oJ b
  exact⟨([.int .i64 ag,.int .i64 ah,.slice L J.length O]),rfl,(l0 S T I),i⟩
 ·obtain⟨K,aN,b⟩:=z0 b
  refine eX { vars:=[11,12],boxes:=[2],owns:=[],fuel:=true } (eX (λvs os t=>∃ d e j c B F C y,vs.tail = [.int .i64 d,.int .i64 e,.int .i64 j,.int .i64 c,.slice B F C]/\os = []/\Sub U t/\J0 d/\J0 e/\J0 j/\J0 c/\H0.R t [.slice B F C] y/\P5 k f (Q1 vs) d e j c y=some K) (eX (λ_ _=>0) (aI (eX Q0 ⟨x,0,ag,ah,L,J.length,O,J,rfl,rfl,(Sub.refl _),Q,(by decide),S,T,I,aN⟩) ?_)))
  rintro _ _ _ _ _ p bm ⟨d,e,j,c,B,F,C,y,⟨⟩,⟨⟩,g,D,bh,w,o,s,a⟩
  replace a:P5 k f p d e j c y=some K:=a
  obtain _|p:=p
  ·cases a
  rw[P5.eq_2]at a
  obtain⟨rfl,bJ⟩:=Sl.len s
  refine ifB a (λaO a=>?_) λaO a=>?_
  ·refine ifB a (λaP a=>?_) λaP a=>?_
   ·refine ldI a (I0.mono (i.trans g) l) λcc bi a=>?_
    refine ifB a (λaQ a=>?_) λaQ a=>?_
    ·refine Or.inr (Or.inr (Or.inl (aI (aI (by kernel_rfl) (by kernel_rfl)) ?_)))
     obtain⟨ai,aJ,a⟩:=z0 a
     obtain⟨av,bd,aE,aZ⟩:=Sl.getI (r:=Wp.int.toRp) (I0.mono (i.trans g) l) aJ (by decide)
     obtain⟨rfl,aT⟩:=aZ
     refine Or.inl (eX (.hel (.slice m k.length n) e 1 0) (aI ?_ ?_))
     ·intro bn bV
      exact aI av (aI rfl (aI rfl rfl))
     refine Or.inl (eX (.val (.int .i64 ai)) (aI ?_ ?_))
     ·intro bo a3
      exact eX _ (aI (D9.up a3 aE) (aI rfl (aI rfl rfl)))
     refine Or.inl (eX (.agg [.val (.int .i64 d),.val (.int .i64 ai),.val (.int .i64 c)]) (aI ?_ ?_))
     ·intro bp bW
      exact aI rfl (aI rfl rfl)
     refine Or.inr ?_
     refine Or.inr ?_
     refine Or.inl (eX 1 (aI (aI rfl rfl) ?_))
     refine trM a (x01 _ _ _ _ _ s _ _ (K1 D aT o)) ?_
     rintro aj a b6 bq ⟨ap,bR,aA,rfl,X,ab⟩
     obtain⟨rfl,bL⟩:=Sl.len X
     refine aI (aI rfl ab) (aI (by first|exact trivial|exact rfl) ?_)
     refine aI trivial (aI (by first|exact trivial|exact rfl) ?_)
     exact I2 p ⟨c,(IntKind.i64.wrap (e+1)),j,(IntKind.i64.wrap (c+1)),ap,aj.length,aA,aj,rfl,rfl,(g.trans ab),o,(N0 _),w,(N0 _),X,a⟩
    ·refine Or.inr (Or.inr (Or.inl (aI (aI (by kernel_rfl) (by kernel_rfl)) ?_)))
     obtain⟨z,aK,a⟩:=z0 a
     obtain⟨aw,be,aF,a0⟩:=Sl.getI (r:=Wp.int.toRp) (I0.mono (i.trans g) l) aK (by decide)
     obtain⟨rfl,bj⟩:=a0
     refine Or.inl (eX (.hel (.slice m k.length n) e 1 0) (aI ?_ ?_))
     ·intro br bX
      exact aI aw (aI rfl (aI rfl rfl))
     refine Or.inl (eX (.val (.int .i64 z)) (aI ?_ ?_))
     ·intro bs a4
      exact eX _ (aI (D9.up a4 aF) (aI rfl (aI rfl rfl)))
     refine Or.inl (eX (.val (.int .i64 (IntKind.i64.wrap (0-z)))) (aI ?_ ?_))
     ·intro bt bY
      exact aI rfl (aI rfl rfl)
     refine Or.inl (eX (.agg [.val (.int .i64 c),.val (.int .i64 (IntKind.i64.wrap (0-z))),.val (.int .i64 d)]) (aI ?_ ?_))
     ·intro bu bZ
      exact aI rfl (aI rfl rfl)
     refine Or.inr ?_
     refine Or.inr ?_
     refine Or.inl (eX 1 (aI (aI rfl rfl) ?_))
     refine trM a (x01 _ _ _ _ _ s [.int .i64 c,.int .i64 (IntKind.i64.wrap (0-z)),.int .i64 d] (c,(IntKind.i64.wrap (0-z)),d) (K1 o (N0 _) D)) ?_
     rintro ak a b7 bv ⟨aq,bS,aB,rfl,Y,ac⟩
     obtain⟨rfl,bM⟩:=Sl.len Y
     refine aI (aI rfl ac) (aI (by first|exact trivial|exact rfl) ?_)
     refine aI trivial (aI (by first|exact trivial|exact rfl) ?_)
     exact I2 p ⟨c,(IntKind.i64.wrap (e+1)),j,(IntKind.i64.wrap (c+1)),aq,ak.length,aB,ak,rfl,rfl,(g.trans ac),o,(N0 _),w,(N0 _),Y,a⟩
   ·refine ldI a (I0.mono (i.trans g) l) λce bk a=>?_
    refine ifB a (λaR a=>?_) λaR a=>?_
    ·refine Or.inr (Or.inr (Or.inl (aI (aI (by kernel_rfl) (by kernel_rfl)) ?_)))
     obtain⟨al,aL,a⟩:=z0 a
     obtain⟨ax,bf,aG,a1⟩:=Sl.getI (r:=Wp.int.toRp) (I0.mono (i.trans g) l) aL (by decide)
     obtain⟨rfl,aU⟩:=a1
     refine Or.inl (eX (.hel (.slice m k.length n) e 1 0) (aI ?_ ?_))
     ·intro bx b0
      exact aI ax (aI rfl (aI rfl rfl))
     refine Or.inl (eX (.val (.int .i64 al)) (aI ?_ ?_))
     ·intro bz ba
      exact eX _ (aI (D9.up ba aG) (aI rfl (aI rfl rfl)))
     refine Or.inl (eX (.agg [.val (.int .i64 d),.val (.int .i64 al),.val (.int .i64 f)]) (aI ?_ ?_))
     ·intro bA b1
      exact aI rfl (aI rfl rfl)
     refine Or.inr ?_
     refine Or.inr ?_
     refine Or.inl (eX 1 (aI (aI rfl rfl) ?_))
     refine trM a (x01 _ _ _ _ _ s _ _ (K1 D aU u)) ?_
     rintro am a b8 bB ⟨ar,bT,aC,rfl,Z,ad⟩
     obtain⟨rfl,bN⟩:=Sl.len Z
     refine aI (aI rfl ad) (aI (by first|exact trivial|exact rfl) ?_)
     refine aI trivial (aI (by first|exact trivial|exact rfl) ?_)
     exact I2 p ⟨f,(IntKind.i64.wrap (e+1)),j,c,ar,am.length,aC,am,rfl,rfl,(g.trans ad),u,(N0 _),w,o,Z,a⟩
    ·refine Or.inr (Or.inr (Or.inl (aI (aI (by kernel_rfl) (by kernel_rfl)) ?_)))
     obtain⟨A,aM,a⟩:=z0 a
     obtain⟨ay,bg,aH,a2⟩:=Sl.getI (r:=Wp.int.toRp) (I0.mono (i.trans g) l) aM (by decide)
     obtain⟨rfl,bl⟩:=a2
     refine Or.inl (eX (.hel (.slice m k.length n) e 1 0) (aI ?_ ?_))
     ·intro bC b2
      exact aI ay (aI rfl (aI rfl rfl))
     refine Or.inl (eX (.val (.int .i64 A)) (aI ?_ ?_))
     ·intro bD bb
      exact eX _ (aI (D9.up bb aH) (aI rfl (aI rfl rfl)))
     refine Or.inl (eX (.val (.int .i64 (IntKind.i64.wrap (0-A)))) (aI ?_ ?_))
     ·intro bE b3
      exact aI rfl (aI rfl rfl)
     refine Or.inl (eX (.agg [.val (.int .i64 f),.val (.int .i64 (IntKind.i64.wrap (0-A))),.val (.int .i64 d)]) (aI ?_ ?_))
     ·intro bF b4
      exact aI rfl (aI rfl rfl)
     refine Or.inr ?_
     refine Or.inr ?_
     refine Or.inl (eX 1 (aI (aI rfl rfl) ?_))
     refine trM a (x01 _ _ _ _ _ s [.int .i64 f,.int .i64 (IntKind.i64.wrap (0-A)),.int .i64 d] (f,(IntKind.i64.wrap (0-A)),d) (K1 u (N0 _) D)) ?_
     rintro an a ca bG ⟨au,bU,aD,rfl,aa,ae⟩
     obtain⟨rfl,bO⟩:=Sl.len aa
     refine aI (aI rfl ae) (aI (by first|exact trivial|exact rfl) ?_)
     refine aI trivial (aI (by first|exact trivial|exact rfl) ?_)
     exact I2 p ⟨f,(IntKind.i64.wrap (e+1)),j,c,au,an.length,aD,an,rfl,rfl,(g.trans ae),u,(N0 _),w,o,aa,a⟩
  ·obtain rfl:=oJ a
   try dsimp only[T0,V0]at b
   obtain rfl:=oJ b
   exact⟨([.int .i64 j,.int .i64 c,.slice B y.length C]),rfl,(l0 w o s),(i.trans g)⟩
theorem n0e(h:Hp)(f:List Value)(j:j0)(B:j1.R h f j)(b:Option Addr)(i c:Nat)(d:C0)(l:I0.R h [.slice b i c] d)(r:j0×Bool)(a:j02 j d=some r):
  Tr Tryz.prog 281 #[.agg f.toArray,.slice b i c] h λv g=>∃(e:List Value),v = .tuple #[.agg e.toArray,.bool r.2]/\j1.R g e r.1/\Sub h g:=by
 obtain⟨y,z,o,M,q,A,rfl,rfl,t,u,k⟩:=B0 B
 obtain⟨rfl,J⟩:=Sl.len k
 obtain⟨rfl,K⟩:=Sl.len l
 unfold j02 at a
 dsimp only at a
 refine Z1 (args:=[.agg #[.int .i64 y,.int .i64 z,.slice o A.length q],.slice b d.length c]) (fn:=Tryz.f281) rfl ?_
 refine trM a (p09 _ _ _ (l0 t u k) 0 (by decide) _ _ _ _ l 0 (by decide)) ?_
 rintro D a O I ⟨H,rfl,m,C⟩
 obtain⟨P,Q⟩:=D
 dsimp only at a m
 obtain⟨E,F,p,N,s,G,rfl,rfl,w,x,n⟩:=B0 m
 obtain⟨rfl,L⟩:=Sl.len n
 try dsimp only at a
 obtain rfl:=oJ a
 exact⟨([.int .i64 E,.int .i64 F,.slice p G.length s]),rfl,(l0 w x n),C⟩
theorem o0e(h:Hp)(B:Int)(S:J0 B)(w:Option Addr)(V y:Nat)(n:U1)(E:D2.R h [.slice w V y] n)(r:j0×Bool)(b:k02 B n=some r):
  Tr Tryz.prog 280 #[.int .i64 B,.slice w V y] h λv t=>∃(M:List Value),v = .tuple #[.agg M.toArray,.bool r.2]/\j1.R t M r.1/\Sub h t:=by
 obtain⟨rfl,bh⟩:=Sl.len E
 unfold k02 at b
 refine Z1 (args:=[.int .i64 B,.slice w n.length y]) (fn:=Tryz.f280) rfl ?_
 refine trV b (l08 _ _ S _ _ _ _ E) λbx b=>?_
 refine ifB b (λar b=>?_) λar b=>?_
 ·obtain rfl:=oJ b
  exact⟨([.int .i64 0,.int .i64 0,.slice none 0 0]),rfl,(l0 (by decide) (by decide) (S08 Z0 h)),(Sub.refl _)⟩
 ·refine trM b (m0e _ _ S) ?_
  rintro aS b bv aE ⟨aY,rfl,W,aa⟩
  obtain⟨bz,bA⟩:=aS
  dsimp only at b W
  obtain⟨aT,aU,ad,bo,ai,ab,rfl,rfl,au,av,X⟩:=B0 W
  obtain⟨rfl,bk⟩:=Sl.len X
  try dsimp only at b
  obtain⟨J,ap,b⟩:=z0 b
  refine eX { vars:=[8],boxes:=[1],owns:=[],fuel:=true } (eX (λvs os t=>∃ m u8 o x D z u,vs.tail = [.int .i64 m,.int .i64 u8,.int .i64 o,.slice x D z]/\os = []/\Sub aE t/\J0 m/\J0 u8/\J0 o/\H0.R t [.slice x D z] u/\P7 n (Q1 vs) m u8 o u=some J) (eX (λ_ _=>0) (aI (eX Q0 ⟨0,aT,aU,ad,ab.length,ai,ab,rfl,rfl,(Sub.refl _),(by decide),au,av,X,ap⟩) ?_)))
  rintro _ _ _ _ A a3 ⟨m,u8,o,x,D,z,u,⟨⟩,⟨⟩,H,a0,T,U,F,c⟩
  replace c:P7 n A m u8 o u=some J:=c
  obtain _|A:=A
  ·cases c
  rw[P7.eq_2]at c
  obtain⟨rfl,bi⟩:=Sl.len F
  refine ifB c (λaq c=>?_) λaq c=>?_
  ·refine Or.inr (Or.inr (Or.inr (Or.inr (eX 10 (aI (aI (by kernel_rfl) (by kernel_rfl)) ?_)))))
   obtain⟨aP,an,c⟩:=z0 c
   obtain⟨ag,aW,al,G⟩:=Sl.getI (r:=I0.toRp) (D2.mono (aa.trans H) E) an (by decide)
   obtain⟨ac,bn,ah,rfl⟩:=Wp.slice_cell G
   obtain⟨rfl,bj⟩:=Sl.len G
   refine Or.inl (eX (.hel (.slice w n.length y) m 1 0) (aI ?_ ?_))
   ·intro a4 br
    exact aI ag (aI rfl (aI rfl rfl))
   refine Or.inl (eX (.val (.slice ac aP.length ah)) (aI ?_ ?_))
   ·intro ba aN
    exact eX _ (aI (D9.up aN al) (aI rfl (aI rfl rfl)))
   obtain⟨aQ,ao,c⟩:=z0 c
   obtain⟨aR,I⟩:=aQ
   try dsimp only at c
   obtain⟨j,k,a⟩:=aR
   try dsimp only at c
   refine Or.inr (eX (λv g=>∃(i:Value),v = .tuple #[i,.bool I]/\(λv g=>∃(d:Option Addr) (f:Nat),v = .agg #[.int .i64 j,.int .i64 k,.slice d a.length f]/\J0 j/\J0 k/\H0.R g [.slice d a.length f] a/\a.length<=9223372036854775807) i g) (aI (λv P Q l q=>by obtain⟨i,e,C⟩:=q;exact⟨i,e,(by obtain⟨d,f,e,p,s,f2,f3⟩:=C;exact⟨d,f,e,p,s,H0.mono l f2,f3⟩)⟩) (aI ?_ ?_)))
   ·intro bb Z
    refine Tr.mono (n0e _ _ _ (l0 T U (H0.mono Z F)) _ _ _ _ (I0.mono Z G) _ ao) ?_
    rintro _ bg ⟨aX,rfl,aJ,l⟩
    obtain⟨bB,bC,K,bp,N,bD,rfl,am,aw,ax,Y⟩:=B0 aJ
    cases am
    obtain⟨rfl,aF⟩:=Sl.len Y
    exact aI o8 (aI l ⟨(.agg #[.int .i64 j,.int .i64 k,.slice K a.length N]),rfl,⟨K,N,rfl,aw,ax,Y,aF⟩⟩)
   refine Or.inr (eX (λv g=>∃(i:Value),v = .tuple #[i,.bool I]/\(λv g=>∃(d:Option Addr) (f:Nat),v = .agg #[.int .i64 j,.int .i64 k,.slice d a.length f]/\J0 j/\J0 k/\H0.R g [.slice d a.length f] a/\a.length<=9223372036854775807) i g) (aI (λv P Q l q=>by obtain⟨i,e,C⟩:=q;exact⟨i,e,(by obtain⟨d,f,e,p,s,f2,f3⟩:=C;exact⟨d,f,e,p,s,H0.mono l f2,f3⟩)⟩) (aI ?_ ?_)))
   ·intro bc bs
    rintro _ ⟨_,rfl,⟨L,O,rfl,ay,az,aK,aG⟩⟩
    exact aI o8 (aI (Sub.refl _) ⟨(.agg #[.int .i64 j,.int .i64 k,.slice L a.length O]),rfl,⟨L,O,rfl,ay,az,aK,aG⟩⟩)
   refine Or.inr (eX (λv g=>∃(d:Option Addr) (f:Nat),v = .agg #[.int .i64 j,.int .i64 k,.slice d a.length f]/\J0 j/\J0 k/\H0.R g [.slice d a.length f] a/\a.length<=9223372036854775807) (aI (λv P Q l q=>by obtain⟨d,f,e,p,s,f2,f3⟩:=q;exact⟨d,f,e,p,s,H0.mono l f2,f3⟩) (aI ?_ ?_)))
   ·intro bd bt
    rintro _ ⟨_,rfl,⟨ae,aj,rfl,aA,aB,aL,aH⟩⟩
    exact aI o8 (aI (Sub.refl _) ⟨ae,aj,rfl,aA,aB,aL,aH⟩)
   refine Or.inl (eX (.val (.bool I)) (aI ?_ ?_))
   ·intro be bu
    rintro _ ⟨_,rfl,⟨aV,aZ,rfl,a1,a2,bq,bl⟩⟩
    exact aI rfl (aI rfl rfl)
   intro bf aO
   rintro _ ⟨af,ak,rfl,aC,aD,aM,bm⟩
   rintro _ _
   rintro _ _
   exact I2 A ⟨(IntKind.i64.wrap (m+1)),j,k,af,a.length,ak,a,rfl,rfl,(H.trans aO),(N0 _),aC,aD,aM,c⟩
  ·obtain rfl:=oJ c
   try dsimp only[T0,V0]at b
   obtain rfl:=oJ b
   exact⟨([.int .i64 u8,.int .i64 o,.slice x u.length z]),rfl,(l0 T U F),(aa.trans H)⟩
theorem B0g(h:Hp)(G:List Value)(J:j0)(ad:j1.R h G J)(r:T9)(u:O02 J=some r):
  Tr Tryz.prog 376 #[.agg G.toArray] h λv n=>∃(E:Option Addr) (I F:Nat),v = .slice E I F/\c0j.R n [.slice E I F] r/\Sub h n:=by
 obtain⟨ab,ac,K,av,M,x,rfl,rfl,ak,al,B⟩:=B0 ad
 obtain⟨rfl,ar⟩:=Sl.len B
 unfold O02 at u
 dsimp only at u
 refine Z1 (args:=[.agg #[.int .i64 ab,.int .i64 ac,.slice K x.length M]]) (fn:=Tryz.f376) rfl ?_
 obtain⟨C,T,u⟩:=z0 u
 refine eX { vars:=[4],boxes:=[],owns:=[0],fuel:=true } (eX (λvs os n=>∃ l A w,vs.tail = [.int .i64 l]/\os = [A]/\Sub h n/\J0 l/\F2 (L5.R n) A w/\A8 x (Q1 vs) l w=some C) (eX (λ_ _=>0) (aI (eX Q0 ⟨0,[],([]:T9),rfl,rfl,(Sub.refl _),(by decide),(show F2 (L5.R h) ([]:List (List Value)) ([]:T9) from trivial),T⟩) ?_)))
 rintro _ A y aa ⟨l,aE,w,⟨⟩,⟨⟩,z,am,H,f⟩
 replace f:A8 x y l w=some C:=f
 obtain _|y:=y
 ·cases f
 rw[A8.eq_2]at f
 refine ifB f (λZ f=>?_) λZ f=>?_
 ·obtain⟨D,U,f⟩:=z0 f
  refine eX { vars:=[5],boxes:=[],owns:=[0],fuel:=true } (eX (λvs os n=>∃ u8 q m,vs.tail = [.int .i64 u8]/\os = [q]/\Sub aa n/\J0 u8/\F2 (L5.R n) q m/\L4 x l (Q1 vs) u8 m=some D) (eX (λ_ _=>0) (aI (eX Q0 ⟨(IntKind.i64.wrap (l+1)),A,w,rfl,rfl,(Sub.refl _),(N0 _),H,U⟩) ?_)))
  rintro _ q s k ⟨u8,aF,m,⟨⟩,⟨⟩,t,an,g,e⟩
  replace e:L4 x l s u8 m=some D:=e
  obtain _|s:=s
  ·cases e
  rw[L4.eq_2]at e
  refine ifB e (λV e=>?_) λV e=>?_
  ·refine ld e (H0.mono (z.trans t) B) λaA ai ae e=>?_
   obtain⟨c,aB,a,rfl,rfl,o,ao,i⟩:=P1 ae
   try dsimp only at e
   refine ld e (H0.mono (z.trans t) B) λaC aj af e=>?_
   obtain⟨d,aD,b,rfl,rfl,p,ap,j⟩:=P1 af
   try dsimp only at e
   refine ifB e (λW e=>?_) λW e=>?_
   ·obtain⟨aw,P,e⟩:=z0 e
    refine aI (T1 P (by first|rw[F2.length g,F2.length (show F2 (L5.R k) ([[.int .i64 (if b<a then b else a),.int .i64 (if b>a then b else a)]]:List (List Value)) [((if b<a then b else a),(if b>a then b else a))] from⟨(P2 (M9 j i) (M9 j i)),trivial⟩)]|exact congrArg (·+1) (F2.length g))) ?_
    refine ifB e (λX e=>?_) λX e=>?_
    ·obtain⟨ax,Q,e⟩:=z0 e
     refine aI (T1 Q (by first|rw[F2.length (F2.append g (show F2 (L5.R k) ([[.int .i64 (if b<a then b else a),.int .i64 (if b>a then b else a)]]:List (List Value)) [((if b<a then b else a),(if b>a then b else a))] from⟨(P2 (M9 j i) (M9 j i)),trivial⟩)),F2.length (show F2 (L5.R k) ([[.int .i64 (if d<c then d else c),.int .i64 (if d>c then d else c)]]:List (List Value)) [((if d<c then d else c),(if d>c then d else c))] from⟨(P2 (M9 p o) (M9 p o)),trivial⟩)]|exact congrArg (·+1) (F2.length (F2.append g (show F2 (L5.R k) ([[.int .i64 (if b<a then b else a),.int .i64 (if b>a then b else a)]]:List (List Value)) [((if b<a then b else a),(if b>a then b else a))] from⟨(P2 (M9 j i) (M9 j i)),trivial⟩))))) ?_
     exact I2 s ⟨(IntKind.i64.wrap (u8+1)),((q++([[.int .i64 (if b<a then b else a),.int .i64 (if b>a then b else a)]]:List (List Value)))++([[.int .i64 (if d<c then d else c),.int .i64 (if d>c then d else c)]]:List (List Value))),((m ++ [((if b<a then b else a),(if b>a then b else a))]) ++ [((if d<c then d else c),(if d>c then d else c))]),rfl,rfl,t,(N0 _),(F2.append (F2.append g (show F2 (L5.R k) ([[.int .i64 (if b<a then b else a),.int .i64 (if b>a then b else a)]]:List (List Value)) [((if b<a then b else a),(if b>a then b else a))] from⟨(P2 (M9 j i) (M9 j i)),trivial⟩)) (show F2 (L5.R k) ([[.int .i64 (if d<c then d else c),.int .i64 (if d>c then d else c)]]:List (List Value)) [((if d<c then d else c),(if d>c then d else c))] from⟨(P2 (M9 p o) (M9 p o)),trivial⟩)),e⟩
    ·exact I2 s ⟨(IntKind.i64.wrap (u8+1)),(q++([[.int .i64 (if b<a then b else a),.int .i64 (if b>a then b else a)]]:List (List Value))),(m ++ [((if b<a then b else a),(if b>a then b else a))]),rfl,rfl,t,(N0 _),(F2.append g (show F2 (L5.R k) ([[.int .i64 (if b<a then b else a),.int .i64 (if b>a then b else a)]]:List (List Value)) [((if b<a then b else a),(if b>a then b else a))] from⟨(P2 (M9 j i) (M9 j i)),trivial⟩)),e⟩
   ·refine ifB e (λY e=>?_) λY e=>?_
    ·obtain⟨ay,S,e⟩:=z0 e
     refine aI (T1 S (by first|rw[F2.length g,F2.length (show F2 (L5.R k) ([[.int .i64 (if d<c then d else c),.int .i64 (if d>c then d else c)]]:List (List Value)) [((if d<c then d else c),(if d>c then d else c))] from⟨(P2 (M9 p o) (M9 p o)),trivial⟩)]|exact congrArg (·+1) (F2.length g))) ?_
     exact I2 s ⟨(IntKind.i64.wrap (u8+1)),(q++([[.int .i64 (if d<c then d else c),.int .i64 (if d>c then d else c)]]:List (List Value))),(m ++ [((if d<c then d else c),(if d>c then d else c))]),rfl,rfl,t,(N0 _),(F2.append g (show F2 (L5.R k) ([[.int .i64 (if d<c then d else c),.int .i64 (if d>c then d else c)]]:List (List Value)) [((if d<c then d else c),(if d>c then d else c))] from⟨(P2 (M9 p o) (M9 p o)),trivial⟩)),e⟩
    ·exact I2 s ⟨(IntKind.i64.wrap (u8+1)),q,m,rfl,rfl,t,(N0 _),g,e⟩
  ·obtain rfl:=oJ e
   try dsimp only[T0,V0]at f
   exact I2 y ⟨(IntKind.i64.wrap (l+1)),q,m,rfl,rfl,(z.trans t),(N0 _),g,f⟩
 ·obtain rfl:=oJ f
  try dsimp only[T0,V0]at u
  intro az aq O
  obtain⟨L,N,rfl,ag,ah,au⟩:=D1.out (r:=L5.toRp) O H
  obtain rfl:=oJ u
  exact⟨L,w.length,N,rfl,ag,(z.trans ah)⟩
theorem v0d(h:Hp)(d:List Value)(i:j0)(w:j1.R h d i)(r:H6×Bool)(a:N00 i=some r):
  Tr Tryz.prog 349 #[.agg d.toArray] h λv e=>∃(c:List Value),v = .tuple #[.agg c.toArray,.bool r.2]/\L5.R e c r.1/\Sub h e:=by
 obtain⟨s,t,l,G,m,u,rfl,rfl,f,g,b⟩:=B0 w
 obtain⟨rfl,E⟩:=Sl.len b
 unfold N00 at a
 dsimp only at a
 refine Z1 (args:=[.agg #[.int .i64 s,.int .i64 t,.slice l u.length m]]) (fn:=Tryz.f349) rfl ?_
 refine trV a (c8 _ _ _ (l0 f g b)) λJ a=>?_
 refine ifB a (λn a=>?_) λn a=>?_
 ·obtain rfl:=oJ a
  exact⟨([.int .i64 0,.int .i64 0]),rfl,(P2 (by decide) (by decide)),(Sub.refl _)⟩
 ·refine trM a (B0g _ _ _ (l0 f g b)) ?_
  rintro K a I D ⟨A,H,C,rfl,j,k⟩
  obtain⟨rfl,F⟩:=Sl.len j
  refine ifB a (λo a=>?_) λo a=>?_
  ·obtain rfl:=oJ a
   exact⟨([.int .i64 0,.int .i64 0]),rfl,(P2 (by decide) (by decide)),k⟩
  ·refine ld a j λL B x a=>?_
   obtain⟨y,z,rfl,rfl,p,q⟩:=i04 x
   try dsimp only at a
   obtain rfl:=oJ a
   exact⟨([.int .i64 y,.int .i64 z]),rfl,(P2 p q),k⟩
theorem l0c(h:Hp)(b:Int)(m:J0 b)(c:List Value)(d:H6)(l:L5.R h c d)(r:Int)(a:f03 b d=some r):
  Tr Tryz.prog 377 #[.int .i64 b,.agg c.toArray] h λv e=>v = .int .i64 r/\e=h:=by
 obtain⟨j,k,rfl,rfl,n,o⟩:=i04 l
 unfold f03 at a
 dsimp only at a
 refine Tr.forget (Z1 (args:=[.int .i64 b,.agg #[.int .i64 j,.int .i64 k]]) (fn:=Tryz.f377) rfl ?_)
 refine ifB a (λf a=>?_) λf a=>?_
 ·refine ifB a (λg a=>?_) λg a=>?_
  ·obtain rfl:=oJ a
   exact aI rfl (Sub.refl _)
  ·obtain rfl:=oJ a
   exact aI rfl (Sub.refl _)
 ·refine ifB a (λi a=>?_) λi a=>?_
  ·obtain rfl:=oJ a
   exact aI rfl (Sub.refl _)
  ·obtain rfl:=oJ a
   exact aI rfl (Sub.refl _)
theorem q09(h:Hp)(y:List Value)(F:j0)(ak:j1.R h y F)(z:List Value)(I:H6)(al:L5.R h z I)(r:j0×Bool)(b:B8 F I=some r):
  Tr Tryz.prog 350 #[.agg y.toArray,.agg z.toArray] h λv e=>∃(x:List Value),v = .tuple #[.agg x.toArray,.bool r.2]/\j1.R e x r.1/\Sub h e:=by
 obtain⟨G,H,O,aH,S,n,rfl,rfl,l,A,k⟩:=B0 ak
 obtain⟨rfl,aD⟩:=Sl.len k
 obtain⟨o,p,rfl,rfl,B,C⟩:=i04 al
 unfold B8 at b
 dsimp only at b
 refine Z1 (args:=[.agg #[.int .i64 G,.int .i64 H,.slice O n.length S],.agg #[.int .i64 o,.int .i64 p]]) (fn:=Tryz.f350) rfl ?_
 refine trV b (c8 _ _ _ (l0 l A k)) λaS b=>?_
 refine ifB b (λab b=>?_) λab b=>?_
 ·refine trM b (d8 _ _ _ (l0 l A k)) ?_
  rintro aW b aR aj ⟨aw,rfl,M⟩
  have ao:Sub h aj:=M.sub
  have an:=M.r
  obtain⟨aq,ar,Q,aK,U,au,rfl,rfl,ah,ai,K⟩:=B0 an
  obtain⟨rfl,aG⟩:=Sl.len K
  try dsimp only at b
  obtain rfl:=oJ b
  exact⟨([.int .i64 aq,.int .i64 ar,.slice Q au.length U]),rfl,(l0 ah ai K),ao⟩
 ·obtain⟨w,Z,b⟩:=z0 b
  refine eX { vars:=[7],boxes:=[3],owns:=[],fuel:=true } (eX (λvs os e=>∃ d u8 c g m i f,vs.tail = [.int .i64 d,.int .i64 u8,.int .i64 c,.slice g m i]/\os = []/\Sub h e/\J0 d/\J0 u8/\J0 c/\H0.R e [.slice g m i] f/\T4 n o p (Q1 vs) d u8 c f=some w) (eX (λ_ _=>0) (aI (eX Q0 ⟨0,G,(IntKind.i64.wrap (H-1)),none,0,0,[],rfl,rfl,(Sub.refl _),(by decide),l,(N0 _),(S08 Z0 h),Z⟩) ?_)))
  rintro _ _ _ _ j ay ⟨d,u8,c,g,m,i,f,⟨⟩,⟨⟩,s,ax,D,E,q,a⟩
  replace a:T4 n o p j d u8 c f=some w:=a
  obtain _|j:=j
  ·cases a
  rw[T4.eq_2]at a
  obtain⟨rfl,aE⟩:=Sl.len q
  refine ifB a (λaa a=>?_) λaa a=>?_
  ·refine ld a (H0.mono s k) λaT av am a=>?_
   obtain⟨aU,ap,aV,rfl,rfl,ac,ad,ae⟩:=P1 am
   try dsimp only at a
   refine Or.inr (Or.inr (Or.inl (aI (aI (by kernel_rfl) (by kernel_rfl)) ?_)))
   obtain⟨t,X,a⟩:=z0 a
   obtain⟨aL,V,a⟩:=z0 a
   have af:J0 t:=A2 V
   refine Or.inl (eX (.val (.int .i64 t)) (aI ?_ ?_))
   ·intro az aN
    exact Tr.val (l0c _ _ ac _ _ (P2 B C) _ X) (aI rfl (aI rfl rfl))
   obtain⟨u,Y,a⟩:=z0 a
   obtain⟨aM,W,a⟩:=z0 a
   have ag:J0 u:=A2 W
   refine Or.inl (eX (.val (.int .i64 u)) (aI ?_ ?_))
   ·intro aA aO
    exact Tr.val (l0c _ _ ae _ _ (P2 B C) _ Y) (aI rfl (aI rfl rfl))
   refine Or.inl (eX (.agg [.val (.int .i64 t),.val (.int .i64 ap),.val (.int .i64 u)]) (aI ?_ ?_))
   ·intro aB aP
    exact aI rfl (aI rfl rfl)
   refine Or.inr ?_
   refine Or.inr ?_
   refine Or.inl (eX 1 (aI (aI rfl rfl) ?_))
   refine trM a (x01 _ _ _ _ _ q _ _ (K1 af ad ag)) ?_
   rintro N a aQ aC ⟨P,aJ,T,rfl,J,L⟩
   obtain⟨rfl,aF⟩:=Sl.len J
   refine aI (aI rfl L) (aI (by first|exact trivial|exact rfl) ?_)
   refine aI trivial (aI (by first|exact trivial|exact rfl) ?_)
   exact I2 j ⟨(IntKind.i64.wrap (d+1)),u8,c,P,N.length,T,N,rfl,rfl,(s.trans L),(N0 _),D,E,J,a⟩
  ·obtain rfl:=oJ a
   try dsimp only[T0,V0]at b
   obtain rfl:=oJ b
   exact⟨([.int .i64 u8,.int .i64 c,.slice g f.length i]),rfl,(l0 D E q),s⟩
theorem p0e(h:Hp)(j:List Value)(m:j0)(K:j1.R h j m)(r:j0×H6×Bool)(a:l02 m=some r):
  Tr Tryz.prog 338 #[.agg j.toArray] h λv d=>∃(g:List Value) (i:List Value),v = .tuple #[.agg g.toArray,.agg i.toArray,.bool r.2.2]/\j1.R d g r.1/\L5.R d i r.2.1/\Sub h d:=by
 obtain⟨H,I,t,ag,x,J,rfl,rfl,e,f,b⟩:=B0 K
 obtain⟨rfl,ad⟩:=Sl.len b
 unfold l02 at a
 dsimp only at a
 refine Z1 (args:=[.agg #[.int .i64 H,.int .i64 I,.slice t J.length x]]) (fn:=Tryz.f338) rfl ?_
 refine trM a (v0d _ _ _ (l0 e f b)) ?_
 rintro O a ak F ⟨Z,rfl,n,c⟩
 obtain⟨am,an⟩:=O
 dsimp only at a n
 obtain⟨P,Q,rfl,rfl,k,l⟩:=i04 n
 try dsimp only at a
 refine ifB a (λA a=>?_) λA a=>?_
 ·refine trM a (d8 _ _ _ (l0 e f (H0.mono c b))) ?_
  rintro ao a al G ⟨aa,rfl,s⟩
  have M:Sub F G:=s.sub
  have L:=s.r
  obtain⟨S,T,u,ah,y,U,rfl,rfl,B,C,o⟩:=B0 L
  obtain⟨rfl,ae⟩:=Sl.len o
  try dsimp only at a
  obtain rfl:=oJ a
  exact⟨([.int .i64 S,.int .i64 T,.slice u U.length y]),([.int .i64 0,.int .i64 0]),rfl,(l0 B C o),(P2 (by decide) (by decide)),(c.trans M)⟩
 ·refine trM a (q09 _ _ _ (l0 e f (H0.mono c b)) _ _ (P2 k l)) ?_
  rintro V a aj ac ⟨ab,rfl,p,N⟩
  obtain⟨ap,aq⟩:=V
  dsimp only at a p
  obtain⟨W,X,w,ai,z,Y,rfl,rfl,D,E,q⟩:=B0 p
  obtain⟨rfl,af⟩:=Sl.len q
  try dsimp only at a
  refine Or.inr (Or.inr (Or.inl (aI (aI (by kernel_rfl) (by kernel_rfl)) ?_)))
  refine Or.inr ?_
  refine Or.inr ?_
  refine Or.inl (eX 0 (aI (aI rfl rfl) ?_))
  refine aI trivial (aI (by first|exact trivial|exact rfl) ?_)
  refine aI trivial (aI (by first|exact trivial|exact rfl) ?_)
  obtain rfl:=oJ a
  exact⟨([.int .i64 W,.int .i64 X,.slice w Y.length z]),([.int .i64 P,.int .i64 Q]),rfl,(l0 D E q),(P2 k l),(c.trans N)⟩
theorem C0g(h:Hp)(C:List Value)(H:j0)(av:j1.R h C H)(r:j0×T9)(b:P02 H=some r):
  Tr Tryz.prog 310 #[.agg C.toArray] h λv c=>∃(B:List Value) (z:Option Addr) (G A:Nat),v = .tuple #[.agg B.toArray,.slice z G A]/\j1.R c B r.1/\c0j.R c [.slice z G A] r.2/\Sub h c:=by
 obtain⟨aq,ar,U,aS,Z,au,rfl,rfl,ak,al,I⟩:=B0 av
 obtain⟨rfl,aM⟩:=Sl.len I
 unfold P02 at b
 dsimp only at b
 refine Z1 (args:=[.agg #[.int .i64 aq,.int .i64 ar,.slice U au.length Z]]) (fn:=Tryz.f310) rfl ?_
 refine trM b (d8 _ _ _ (l0 ak al I)) ?_
 rintro a0 b aZ u ⟨aE,rfl,Q⟩
 have N:Sub h u:=Q.sub
 have aw:=Q.r
 obtain⟨aC,aD,W,aU,ab,T,rfl,rfl,ao,ap,M⟩:=B0 aw
 obtain⟨rfl,aP⟩:=Sl.len M
 try dsimp only at b
 obtain⟨y,ah,b⟩:=z0 b
 refine eX { vars:=[6],boxes:=[2],owns:=[0],fuel:=true } (eX (λvs os c=>∃ i e f l w m u8 q g,vs.tail = [.int .i64 i,.int .i64 e,.int .i64 f,.slice l w m]/\os = [q]/\Sub u c/\J0 i/\J0 e/\J0 f/\H0.R c [.slice l w m] u8/\F2 (L5.R c) q g/\p7 (Q1 vs) i e f u8 g=some y) (eX (λ_ _=>0) (aI (eX Q0 ⟨0,aC,aD,W,T.length,ab,T,[],([]:T9),rfl,rfl,(Sub.refl _),(by decide),ao,ap,M,(show F2 (L5.R u) ([]:List (List Value)) ([]:T9) from trivial),ah⟩) ?_)))
 rintro _ _ _ _ q o aJ ⟨i,e,f,l,w,m,u8,a4,g,⟨⟩,⟨⟩,x,aH,s,t,p,n,a⟩
 replace a:p7 o i e f u8 g=some y:=a
 obtain _|o:=o
 ·cases a
 rw[p7.eq_2]at a
 obtain⟨rfl,aN⟩:=Sl.len p
 refine ifB a (λai a=>?_) λai a=>?_
 ·refine trM a (p0e _ _ _ (l0 s t p)) ?_
  rintro az a aW F ⟨aF,aG,rfl,J,L,d⟩
  obtain⟨a1,a2,a3⟩:=az
  dsimp only at a J L
  obtain⟨aA,aB,V,aT,aa,S,rfl,rfl,am,an,K⟩:=B0 J
  obtain⟨rfl,aO⟩:=Sl.len K
  try dsimp only at a
  obtain⟨j,k,rfl,rfl,D,E⟩:=i04 L
  try dsimp only at a
  refine ifB a (λaj a=>?_) λaj a=>?_
  ·intro aX aK ae
   obtain⟨X,ac,rfl,ax,O,aQ⟩:=D1.out (r:=L5.toRp) ae (F2.up (r:=L5.toRp) d n)
   obtain rfl:=oJ a
   try dsimp only[E4,M4]at b
   obtain rfl:=oJ b
   exact⟨([.int .i64 e,.int .i64 f,.slice l u8.length m]),X,g.length,ac,rfl,(l0 s t (H0.mono (d.trans O) p)),ax,(((N.trans x).trans d).trans O)⟩
  ·obtain⟨aV,ag,a⟩:=z0 a
   refine aI (T1 ag (by first|rw[F2.length (F2.up (r:=L5.toRp) d n),F2.length (show F2 (L5.R F) ([[.int .i64 j,.int .i64 k]]:List (List Value)) [(j,k)] from⟨(P2 D E),trivial⟩)]|exact congrArg (·+1) (F2.length (F2.up (r:=L5.toRp) d n)))) ?_
   exact I2 o ⟨(IntKind.i64.wrap (i+1)),aA,aB,V,S.length,aa,S,(q++([[.int .i64 j,.int .i64 k]]:List (List Value))),(g ++ [(j,k)]),rfl,rfl,(x.trans d),(N0 _),am,an,K,(F2.append (F2.up (r:=L5.toRp) d n) (show F2 (L5.R F) ([[.int .i64 j,.int .i64 k]]:List (List Value)) [(j,k)] from⟨(P2 D E),trivial⟩)),a⟩
 ·obtain rfl:=oJ a
  try dsimp only[T0,V0]at b
  intro aY aL af
  obtain⟨Y,ad,rfl,ay,P,aR⟩:=D1.out (r:=L5.toRp) af n
  obtain rfl:=oJ b
  exact⟨([.int .i64 e,.int .i64 f,.slice l u8.length m]),Y,g.length,ad,rfl,(l0 s t (H0.mono P p)),ay,((N.trans x).trans P)⟩
theorem w0d(h:Hp)(g:List Value)(n:j0)(B:j1.R h g n)(r:j0×Bool)(a:M01 n=some r):
  Tr Tryz.prog 276 #[.agg g.toArray] h λv j=>∃(f:List Value),v = .tuple #[.agg f.toArray,.bool r.2]/\j1.R j f r.1/\Sub h j:=by
 obtain⟨z,o,t,H,u,A,rfl,rfl,k,l,b⟩:=B0 B
 obtain⟨rfl,F⟩:=Sl.len b
 unfold M01 at a
 dsimp only at a
 refine Z1 (args:=[.agg #[.int .i64 z,.int .i64 o,.slice t A.length u]]) (fn:=Tryz.f276) rfl ?_
 refine trM a (d8 _ _ _ (l0 k l b)) ?_
 rintro K a J y ⟨E,rfl,p⟩
 have d:Sub h y:=p.sub
 have C:=p.r
 obtain⟨q,D,e,I,i,s,rfl,rfl,m,x,c⟩:=B0 C
 obtain⟨rfl,G⟩:=Sl.len c
 try dsimp only at a
 refine trV a (c8 _ _ _ (l0 k l (H0.mono d b))) λL a=>?_
 refine ifB a (λw a=>?_) λw a=>?_
 ·obtain rfl:=oJ a
  exact⟨([.int .i64 q,.int .i64 D,.slice e s.length i]),rfl,(l0 m x c),d⟩
 ·obtain rfl:=oJ a
  exact⟨([.int .i64 q,.int .i64 (IntKind.i64.wrap (o+1)),.slice e s.length i]),rfl,(l0 m (N0 _) c),d⟩
theorem W09(h:Hp)(G:List Value)(M:j0)(af:j1.R h G M)(r:M0)(g:c9 M=some r):
  Tr Tryz.prog 304 #[.agg G.toArray] h λv d=>∃(E:Option Addr) (L F:Nat),v = .slice E L F/\H0.R d [.slice E L F] r/\Sub h d:=by
 obtain⟨o,p,P,ar,S,s,rfl,rfl,x,I,z⟩:=B0 af
 obtain⟨rfl,ao⟩:=Sl.len z
 unfold c9 at g
 dsimp only at g
 refine Z1 (args:=[.agg #[.int .i64 o,.int .i64 p,.slice P s.length S]]) (fn:=Tryz.f304) rfl ?_
 obtain⟨C,Y,g⟩:=z0 g
 refine eX { vars:=[4],boxes:=[],owns:=[0],fuel:=true } (eX (λvs os d=>∃ c w j,vs.tail = [.int .i64 c]/\os = [w]/\Sub h d/\J0 c/\F2 (Z0.R d) w j/\s5 p o s (Q1 vs) c j=some C) (eX (λ_ _=>0) (aI (eX Q0 ⟨0,[],([]:M0),rfl,rfl,(Sub.refl _),(by decide),(show F2 (Z0.R h) ([]:List (List Value)) ([]:M0) from trivial),Y⟩) ?_)))
 rintro _ w t an ⟨c,aC,j,⟨⟩,⟨⟩,u,y,H,b⟩
 replace b:s5 p o s t c j=some C:=b
 obtain _|t:=t
 ·cases b
 rw[s5.eq_2]at b
 refine trG b (λq=>j7 _ _ _ (l0 x I (H0.mono u z))) λaA b=>?_
 refine ifB b (λac b=>?_) λac b=>?_
 ·refine trM b (k03 _ _ x) ?_
  rintro O b ax ae ⟨ai,au,aj,rfl,A,B⟩
  obtain⟨rfl,ap⟩:=Sl.len A
  obtain⟨D,Z,b⟩:=z0 b
  refine eX { vars:=[6],boxes:=[],owns:=[0],fuel:=true } (eX (λvs os d=>∃ e k f,vs.tail = [.int .i64 e]/\os = [k]/\Sub ae d/\J0 e/\F2 (Z0.R d) k f/\P3 O o p s c (Q1 vs) e f=some D) (eX (λ_ _=>0) (aI (eX Q0 ⟨0,w,j,rfl,rfl,(Sub.refl _),(by decide),(F2.up (r:=Z0.toRp) B H),Z⟩) ?_)))
  rintro _ k n K ⟨e,aB,f,⟨⟩,⟨⟩,i,ak,m,a⟩
  replace a:P3 O o p s c n e f=some D:=a
  obtain _|n:=n
  ·cases a
  rw[P3.eq_2]at a
  refine ifB a (λaa a=>?_) λaa a=>?_
  ·refine Or.inl (aI (aI (by kernel_rfl) (by kernel_rfl)) ?_)
   refine ldI a (I0.mono i A) λaz ad a=>?_
   obtain⟨N,X,a⟩:=z0 a
   refine eX (.int .i64 N) (aI (p00 _ _ _ (l0 x I (H0.mono ((u.trans B).trans i) z)) _ y _ ad _  X) ?_)
   obtain⟨av,V,a⟩:=z0 a
   have al:J0 N:=A2 V
   refine ifB a (λab a=>?_) λab a=>?_
   ·refine ldI a (I0.mono i A) λl J a=>?_
    obtain⟨aw,W,a⟩:=z0 a
    refine aI (T1 W (by first|rw[F2.length m,F2.length (show F2 (Z0.R K) ([[.int .i64 c,.int .i64 l,.int .i64 (-1)]]:List (List Value)) [(c,l,(-1))] from⟨(K1 y J (by decide)),trivial⟩)]|exact congrArg (·+1) (F2.length m))) ?_
    exact I2 n ⟨(IntKind.i64.wrap (e+1)),(k++([[.int .i64 c,.int .i64 l,.int .i64 (-1)]]:List (List Value))),(f ++ [(c,l,(-1))]),rfl,rfl,i,(N0 _),(F2.append m (show F2 (Z0.R K) ([[.int .i64 c,.int .i64 l,.int .i64 (-1)]]:List (List Value)) [(c,l,(-1))] from⟨(K1 y J (by decide)),trivial⟩)),a⟩
   ·exact I2 n ⟨(IntKind.i64.wrap (e+1)),k,f,rfl,rfl,i,(N0 _),m,a⟩
  ·obtain rfl:=oJ a
   try dsimp only[T0,V0]at b
   exact I2 t ⟨(IntKind.i64.wrap (c+1)),k,f,rfl,rfl,((u.trans B).trans i),(N0 _),m,b⟩
 ·obtain rfl:=oJ b
  try dsimp only[T0,V0]at g
  intro ay am U
  obtain⟨Q,T,rfl,ag,ah,aq⟩:=D1.out (r:=Z0.toRp) U H
  obtain rfl:=oJ g
  exact⟨Q,j.length,T,rfl,ag,(u.trans ah)⟩
theorem x0d(h:Hp)(aj:List Value)(ao:j0)(a4:j1.R h aj ao)(r:j0×C0)(d:Q01 ao=some r):
  Tr Tryz.prog 311 #[.agg aj.toArray] h λv c=>∃(ai:List Value) (ag:Option Addr) (an ah:Nat),v = .tuple #[.agg ai.toArray,.slice ag an ah]/\j1.R c ai r.1/\I0.R c [.slice ag an ah] r.2/\Sub h c:=by
 obtain⟨B,C,aA,bD,aF,D,rfl,rfl,U,V,O⟩:=B0 a4
 obtain⟨rfl,bt⟩:=Sl.len O
 unfold Q01 at d
 dsimp only at d
 refine Z1 (args:=[.agg #[.int .i64 B,.int .i64 C,.slice aA D.length aF]]) (fn:=Tryz.f311) rfl ?_
 refine trM d (d8 _ _ _ (l0 U V O)) ?_
 rintro bP d bL W ⟨bk,rfl,ax⟩
 have S:Sub h W:=ax.sub
 have ba:=ax.r
 obtain⟨be,bf,aB,bE,aG,ay,rfl,rfl,a0,a1,ap⟩:=B0 ba
 obtain⟨rfl,bx⟩:=Sl.len ap
 try dsimp only at d
 obtain⟨af,aU,d⟩:=z0 d
 refine eX { vars:=[6],boxes:=[],owns:=[0],fuel:=true } (eX (λvs os c=>∃ f T l,vs.tail = [.int .i64 f]/\os = [T]/\Sub W c/\J0 f/\F2 (Wp.int.R c) T l/\c7 C B D (Q1 vs) f l=some af) (eX (λ_ _=>0) (aI (eX Q0 ⟨0,[],([]:C0),rfl,rfl,(Sub.refl _),(by decide),(show F2 (Wp.int.R W) ([]:List (List Value)) ([]:C0) from trivial),aU⟩) ?_)))
 rintro _ T N Y ⟨f,bW,l,⟨⟩,⟨⟩,m,al,I,a⟩
 replace a:c7 C B D N f l=some af:=a
 obtain _|N:=N
 ·cases a
 rw[c7.eq_2]at a
 refine trG a (λq=>c8 _ _ _ (l0 U V (H0.mono (S.trans m) O))) λbT a=>?_
 refine ifB a (λaV a=>?_) λaV a=>?_
 ·obtain⟨bG,aO,a⟩:=z0 a
  refine aI (T1 aO (by first|rw[F2.length I,F2.length (show F2 (Wp.int.R Y) ([[.int .i64 f]]:List (List Value)) [f] from⟨⟨rfl,al⟩,trivial⟩)]|exact congrArg (·+1) (F2.length I))) ?_
  exact I2 N ⟨(IntKind.i64.wrap (f+1)),(T++([[.int .i64 f]]:List (List Value))),(l ++ [f]),rfl,rfl,m,(N0 _),(F2.append I (show F2 (Wp.int.R Y) ([[.int .i64 f]]:List (List Value)) [f] from⟨⟨rfl,al⟩,trivial⟩)),a⟩
 ·obtain rfl:=oJ a
  try dsimp only[T0,V0]at d
  obtain⟨ad,aS,d⟩:=z0 d
  refine eX { vars:=[5,7],boxes:=[2],owns:=[],fuel:=true,pubs:=[5] } (eX (λvs os c=>∃(t:Option Addr) (Z w:Nat) (i:C0) (n:Int) (k:Int) (g:Int) (u:Option Addr) (aa x:Nat) (o:M0),vs.tail = [.slice t Z w,.int .i64 n,.int .i64 k,.int .i64 g,.slice u aa x]/\os = []/\Sub Y c/\I0.R c [.slice t Z w] i/\J0 n/\J0 k/\J0 g/\H0.R c [.slice u aa x] o/\a7 B C D (Q1 vs) i n k g o=some ad) (eX (λ_ _=>0) ?_))
  intro bK bp aL
  obtain⟨aD,aJ,rfl,bb,av,bA⟩:=D1.out (r:=Wp.int.toRp) aL I
  refine aI (eX Q0 ⟨aD,l.length,aJ,l,0,be,bf,aB,ay.length,aG,ay,rfl,rfl,av,bb,(by decide),a0,a1,(H0.mono (m.trans av) ap),aS⟩) ?_
  rintro _ _ _ _ _ M X ⟨t,Z,w,i,n,k,g,u,aa,x,o,⟨⟩,⟨⟩,Q,P,bn,J,K,E,a⟩
  replace a:a7 B C D M i n k g o=some ad:=a
  obtain _|M:=M
  ·cases a
  rw[a7.eq_2]at a
  obtain⟨rfl,bu⟩:=Sl.len P
  obtain⟨rfl,bv⟩:=Sl.len E
  refine trG a (λq=>c8 _ _ _ (l0 U V (H0.mono ((S.trans m).trans Q) O))) λbQ a=>?_
  refine ifB a (λaW a=>?_) λaW a=>?_
  ·refine trV a (v0a _ _ _ (l0 J K E)) λac a=>?_
   obtain⟨bH,aP,a⟩:=z0 a
   have bo:J0 ac:=A2 aP
   refine ifB a (λaX a=>?_) λaX a=>?_
   ·obtain rfl:=oJ a
    try dsimp only[E4,M4]at d
    obtain rfl:=oJ d
    exact⟨([.int .i64 k,.int .i64 g,.slice u o.length x]),t,i.length,w,rfl,(l0 J K E),P,((S.trans m).trans Q)⟩
   ·obtain⟨ae,aT,a⟩:=z0 a
    refine eX { vars:=[11],boxes:=[],owns:=[1,2],fuel:=true } (eX (λvs os c=>∃ e G p H j,vs.tail = [.int .i64 e]/\os = [G,H]/\Sub X c/\J0 e/\F2 (Wp.int.R c) G p/\F2 (Wp.int.R c) H j/\p6 g ac i (Q1 vs) e p j=some ae) (eX (λ_ _=>0) (aI (eX Q0 ⟨0,[],([]:C0),[],([]:C0),rfl,rfl,(Sub.refl _),(by decide),(show F2 (Wp.int.R X) ([]:List (List Value)) ([]:C0) from trivial),(show F2 (Wp.int.R X) ([]:List (List Value)) ([]:C0) from trivial),aT⟩) ?_)))
    rintro _ G H A L ⟨e,bU,p,bV,j,⟨⟩,⟨⟩,F,ak,y,z,b⟩
    replace b:p6 g ac i A e p j=some ae:=b
    obtain _|A:=A
    ·cases b
    rw[p6.eq_2]at b
    refine ifB b (λaY b=>?_) λaY b=>?_
    ·refine ifB b (λaZ b=>?_) λaZ b=>?_
     ·obtain⟨bI,aQ,b⟩:=z0 b
      refine aI (T1 aQ (by first|rw[F2.length y,F2.length (show F2 (Wp.int.R L) ([[.int .i64 e]]:List (List Value)) [e] from⟨⟨rfl,ak⟩,trivial⟩)]|exact congrArg (·+1) (F2.length y))) ?_
      refine ldI b (I0.mono F P) λs am b=>?_
      obtain⟨bJ,aR,b⟩:=z0 b
      refine aI (T1 aR (by first|rw[F2.length z,F2.length (show F2 (Wp.int.R L) ([[.int .i64 s]]:List (List Value)) [s] from⟨⟨rfl,am⟩,trivial⟩)]|exact congrArg (·+1) (F2.length z))) ?_
      exact I2 A ⟨(IntKind.i64.wrap (e+1)),(G++([[.int .i64 e]]:List (List Value))),(p ++ [e]),(H++([[.int .i64 s]]:List (List Value))),(j ++ [s]),rfl,rfl,F,(N0 _),(F2.append y (show F2 (Wp.int.R L) ([[.int .i64 e]]:List (List Value)) [e] from⟨⟨rfl,ak⟩,trivial⟩)),(F2.append z (show F2 (Wp.int.R L) ([[.int .i64 s]]:List (List Value)) [s] from⟨⟨rfl,am⟩,trivial⟩)),b⟩
     ·exact I2 A ⟨(IntKind.i64.wrap (e+1)),G,p,H,j,rfl,rfl,F,(N0 _),y,z,b⟩
    ·obtain rfl:=oJ b
     try dsimp only[T0,V0]at a
     refine Or.inl ?_
     intro bM bq aM
     obtain⟨bj,bm,rfl,bc,ab,bB⟩:=D1.out (r:=Wp.int.toRp) aM y
     refine trM a (Z02 _ _ _ (l0 J K (H0.mono (F.trans ab) E)) _ _ _ _ bc) ?_
     rintro bg a bN br ⟨bl,rfl,aq,au⟩
     obtain⟨bR,bS⟩:=bg
     dsimp only at a aq
     obtain⟨bh,bi,aC,bF,aH,az,rfl,rfl,a2,a3,ar⟩:=B0 aq
     obtain⟨rfl,bz⟩:=Sl.len ar
     try dsimp only at a
     intro bO bs aN
     obtain⟨aE,aK,rfl,bd,aw,bC⟩:=D1.out (r:=Wp.int.toRp) aN (F2.up (r:=Wp.int.toRp) (ab.trans au) z)
     exact I2 M ⟨aE,j.length,aK,j,(IntKind.i64.wrap (n+1)),bh,bi,aC,az.length,aH,az,rfl,rfl,((((Q.trans F).trans ab).trans au).trans aw),bd,(N0 _),a2,a3,(H0.mono aw ar),a⟩
  ·obtain rfl:=oJ a
   try dsimp only[T0,V0]at d
   obtain rfl:=oJ d
   exact⟨([.int .i64 k,.int .i64 g,.slice u o.length x]),t,i.length,w,rfl,(l0 J K E),P,((S.trans m).trans Q)⟩
theorem A07(h:Hp)(c:List Value)(e:j0)(F:j1.R h c e)(r:j0)(a:E8 e=some r):
  Tr Tryz.prog 242 #[.agg c.toArray] h λv d=>∃(b:List Value),v = .agg b.toArray/\j1.R d b r/\Sub h d:=by
 obtain⟨C,D,o,ak,q,E,rfl,rfl,t,u,f⟩:=B0 F
 obtain⟨rfl,ae⟩:=Sl.len f
 unfold E8 at a
 dsimp only at a
 refine Z1 (args:=[.agg #[.int .i64 C,.int .i64 D,.slice o E.length q]]) (fn:=Tryz.f242) rfl ?_
 refine trM a (C0g _ _ _ (l0 t u f)) ?_
 rintro K a aq ab ⟨U,Q,am,Y,rfl,g,j,H⟩
 obtain⟨av,az⟩:=K
 dsimp only at a g j
 obtain⟨aw,ax,P,al,X,ay,rfl,rfl,w,x,i⟩:=B0 g
 obtain⟨rfl,af⟩:=Sl.len i
 try dsimp only at a
 obtain⟨rfl,ag⟩:=Sl.len j
 refine trM a (x0d _ _ _ (l0 w x i)) ?_
 rintro L a ar ac ⟨V,T,ao,aa,rfl,k,m,I⟩
 obtain⟨aA,aE⟩:=L
 dsimp only at a k m
 obtain⟨aB,aC,S,an,Z,aD,rfl,rfl,y,z,l⟩:=B0 k
 obtain⟨rfl,ah⟩:=Sl.len l
 try dsimp only at a
 obtain⟨rfl,ai⟩:=Sl.len m
 refine trM a (x04 _ _ _ (l0 y z l)) ?_
 rintro aF a au ad ⟨W,rfl,G,J⟩
 obtain⟨M,N,p,ap,s,O,rfl,rfl,A,B,n⟩:=B0 G
 obtain⟨rfl,aj⟩:=Sl.len n
 try dsimp only at a
 obtain rfl:=oJ a
 exact⟨([.int .i64 M,.int .i64 N,.slice p O.length s]),rfl,(l0 A B n),((H.trans I).trans J)⟩
theorem m05(h:Hp)(n:List Value)(t:j0)(M:j1.R h n t)(f:Option Addr)(s g:Nat)(i:C0)(u:I0.R h [.slice f s g] i)(r:Bool)(b:t00 t i=some r):
  Tr Tryz.prog 180 #[.agg n.toArray,.slice f s g] h λv G=>v = .bool r/\G=h:=by
 obtain⟨J,K,z,aj,B,L,rfl,rfl,o,p,j⟩:=B0 M
 obtain⟨rfl,af⟩:=Sl.len j
 obtain⟨rfl,ag⟩:=Sl.len u
 unfold t00 at b
 dsimp only at b
 refine Tr.forget (Z1 (args:=[.agg #[.int .i64 J,.int .i64 K,.slice z L.length B],.slice f i.length g]) (fn:=Tryz.f180) rfl ?_)
 refine Or.inr (Or.inr (Or.inr (Or.inl (aI (aI (by kernel_rfl) (by kernel_rfl)) ?_))))
 obtain⟨d,E,b⟩:=z0 b
 refine Or.inr (eX (λv H=>∃(a:Option Addr) (c:Nat),v = .slice a d.length c/\I0.R H [.slice a d.length c] d/\d.length<=9223372036854775807) (aI (λv W X k q=>by obtain⟨a,c,e,r,l⟩:=q;exact⟨a,c,e,I0.mono k r,l⟩) (aI ?_ ?_)))
 ·intro ab O
  refine Tr.mono (Y02 _ _ _ _ _ (I0.mono O u) _ E) ?_
  rintro _ ae ⟨A,ak,C,rfl,w,k⟩
  obtain⟨rfl,I⟩:=Sl.len w
  exact aI o8 (aI k ⟨A,C,rfl,w,I⟩)
 obtain⟨Q,F,b⟩:=z0 b
 obtain⟨m,y⟩:=Q
 try dsimp only at b
 obtain⟨al,D,b⟩:=z0 b
 have Y:J0 m:=A2 D
 refine Or.inl (eX (.val (.tuple #[.int .i64 m,.bool y])) (aI ?_ ?_))
 ·intro ac P
  rintro _ ⟨T,V,rfl,N,ai⟩
  exact Tr.val (n08 _ _ _ (l0 o p (H0.mono P j)) 0 (by decide) _ _ _ _ N _ F) (aI rfl (aI rfl rfl))
 refine Or.inl (eX (.val (.int .i64 m)) (aI ?_ ?_))
 ·intro ad an
  exact aI rfl (aI rfl rfl)
 refine Or.inl (eX (.val (.bool y)) (aI ?_ ?_))
 ·intro Z ao
  exact aI rfl (aI rfl rfl)
 intro aa x
 rintro _ ⟨S,U,rfl,am,ah⟩
 refine trV b (S7 _ _ _ (l0 o p (H0.mono x j))) λap b=>?_
 obtain rfl:=oJ b
 exact aI rfl x
theorem r09(h:Hp)(j:List Value)(n:j0)(E:j1.R h j n)(r:Bool)(b:e00 n=some r):
  Tr Tryz.prog 226 #[.agg j.toArray] h λv y=>v = .bool r/\y=h:=by
 obtain⟨B,C,p,X,t,D,rfl,rfl,k,m,g⟩:=B0 E
 obtain⟨rfl,V⟩:=Sl.len g
 unfold e00 at b
 dsimp only at b
 refine Tr.forget (Z1 (args:=[.agg #[.int .i64 B,.int .i64 C,.slice p D.length t]]) (fn:=Tryz.f226) rfl ?_)
 refine aI (by kernel_rfl) ?_
 obtain⟨I,w,b⟩:=z0 b
 refine Or.inl (eX (.val (.bool I)) (aI ?_ ?_))
 ·intro Q G
  exact Tr.val (S7 _ _ _ (l0 k m (H0.mono G g)) _ w) (aI rfl (aI rfl rfl))
 obtain⟨d,x,b⟩:=z0 b
 refine Or.inr (eX (λv z=>∃(a:Option Addr) (c:Nat),v = .slice a d.length c/\H0.R z [.slice a d.length c] d/\d.length<=9223372036854775807) (aI (λv M N i q=>by obtain⟨a,c,e,r,l⟩:=q;exact⟨a,c,e,H0.mono i r,l⟩) (aI ?_ ?_)))
 ·intro S H f
  refine Tr.mono (W09 _ _ _ (l0 k m (H0.mono H g)) _ (n8 x f)) ?_
  rintro _ U ⟨s,Y,u,rfl,o,i⟩
  obtain⟨rfl,A⟩:=Sl.len o
  exact aI o8 (aI i ⟨s,u,rfl,o,A⟩)
 obtain⟨Z,L,b⟩:=z0 b
 refine Or.inl (eX (.val (.int .i64 ((d.length:Nat):Int))) (aI ?_ ?_))
 ·intro T ac f
  rintro _ ⟨J,K,rfl,aa,W⟩
  exact aI rfl (aI rfl rfl)
 refine Or.inl (eX (.val (.bool (decide (((d.length:Nat):Int)=0)))) (aI ?_ ?_))
 ·intro O ab f
  exact aI rfl (aI rfl rfl)
 intro P F
 obtain rfl:=oJ b
 exact aI rfl F
theorem o08(h:Hp)(s:List Value)(x:j0)(aa:j1.R h s x)(c:Int)(t:J0 c)(r:j0×Bool)(a:g8 x c=some r):
  Tr Tryz.prog 253 #[.agg s.toArray,.int .i64 c] h λv f=>∃(p:List Value),v = .tuple #[.agg p.toArray,.bool r.2]/\j1.R f p r.1/\Sub h f:=by
 obtain⟨Y,j,E,aF,H,Z,rfl,rfl,m,n,k⟩:=B0 aa
 obtain⟨rfl,aA⟩:=Sl.len k
 unfold g8 at a
 dsimp only at a
 refine Z1 (args:=[.agg #[.int .i64 Y,.int .i64 j,.slice E Z.length H],.int .i64 c]) (fn:=Tryz.f253) rfl ?_
 refine trV a (j7 _ _ _ (l0 m n k)) λaP a=>?_
 refine trG a (λq=>C5 _ _ t 0 (by decide) (IntKind.i64.wrap (j-1)) (N0 _)) λaV a=>?_
 refine ifB a (λP a=>?_) λP a=>?_
 ·refine trM a (d8 _ _ _ (l0 m n k)) ?_
  rintro aX a aO X ⟨au,rfl,D⟩
  have ag:Sub h X:=D.sub
  have ac:=D.r
  obtain⟨al,am,G,aJ,J,an,rfl,rfl,V,W,B⟩:=B0 ac
  obtain⟨rfl,aD⟩:=Sl.len B
  try dsimp only at a
  obtain rfl:=oJ a
  exact⟨([.int .i64 al,.int .i64 am,.slice G an.length J]),rfl,(l0 V W B),ag⟩
 ·obtain⟨o,M,a⟩:=z0 a
  refine eX { vars:=[7],boxes:=[],owns:=[0],fuel:=true } (eX (λvs os f=>∃ u8 i d,vs.tail = [.int .i64 u8]/\os = [i]/\Sub h f/\J0 u8/\F2 (Wp.int.R f) i d/\V4 j c (Q1 vs) u8 d=some o) (eX (λ_ _=>0) (aI (eX Q0 ⟨0,([[.int .i64 c]]:List (List Value)),[c],rfl,rfl,(Sub.refl _),(by decide),(show F2 (Wp.int.R h) ([[.int .i64 c]]:List (List Value)) [c] from⟨⟨rfl,t⟩,trivial⟩),M⟩) ?_)))
  rintro _ i g w ⟨u8,aY,d,⟨⟩,⟨⟩,l,u,e,b⟩
  replace b:V4 j c g u8 d=some o:=b
  obtain _|g:=g
  ·cases b
  rw[V4.eq_2]at b
  refine ifB b (λN b=>?_) λN b=>?_
  ·refine ifB b (λO b=>?_) λO b=>?_
   ·obtain⟨aK,L,b⟩:=z0 b
    refine aI (T1 L (by first|rw[F2.length e,F2.length (show F2 (Wp.int.R w) ([[.int .i64 u8]]:List (List Value)) [u8] from⟨⟨rfl,u⟩,trivial⟩)]|exact congrArg (·+1) (F2.length e))) ?_
    exact I2 g ⟨(IntKind.i64.wrap (u8+1)),(i++([[.int .i64 u8]]:List (List Value))),(d ++ [u8]),rfl,rfl,l,(N0 _),(F2.append e (show F2 (Wp.int.R w) ([[.int .i64 u8]]:List (List Value)) [u8] from⟨⟨rfl,u⟩,trivial⟩)),b⟩
   ·exact I2 g ⟨(IntKind.i64.wrap (u8+1)),i,d,rfl,rfl,l,(N0 _),e,b⟩
  ·obtain rfl:=oJ b
   try dsimp only[T0,V0]at a
   refine Or.inl ?_
   intro aL ax K
   obtain⟨ap,aw,rfl,ad,C,aE⟩:=D1.out (r:=Wp.int.toRp) K e
   refine trM a (Z02 _ _ _ (l0 m n (H0.mono (l.trans C) k)) _ _ _ _ ad) ?_
   rintro ah a aM ay ⟨aq,rfl,y,ae⟩
   obtain⟨aQ,aU⟩:=ah
   dsimp only at a y
   obtain⟨aR,aS,ao,aG,av,aT,rfl,rfl,Q,S,z⟩:=B0 y
   obtain⟨rfl,aB⟩:=Sl.len z
   try dsimp only at a
   refine trM a (A07 _ _ _ (l0 Q S z)) ?_
   rintro aW a aN az ⟨ar,rfl,ab,af⟩
   obtain⟨ai,aj,F,aH,I,ak,rfl,rfl,T,U,A⟩:=B0 ab
   obtain⟨rfl,aC⟩:=Sl.len A
   try dsimp only at a
   obtain rfl:=oJ a
   exact⟨([.int .i64 ai,.int .i64 aj,.slice F ak.length I]),rfl,(l0 T U A),(((l.trans C).trans ae).trans af)⟩
set_option maxHeartbeats 0
theorem q0e(h:Hp)(ao:List Value)(aL:j0)(cb:j1.R h ao aL)(j:Int)(b1:J0 j)(r:(List Bool)×U1)(f:q02 aL j=some r):
  Tr Tryz.prog 343 #[.agg ao.toArray,.int .i64 j] h λv s=>∃(aj:Option Addr) (aH am:Nat) (ak:Option Addr) (aJ an:Nat),v = .tuple #[.slice aj aH am,.slice ak aJ an]/\(Wp.slice Wp.bool).R s [.slice aj aH am] r.1/\D2.R s [.slice ak aJ an] r.2/\Sub h s:=by
 obtain⟨Q,u,aT,dm,bc,S,rfl,rfl,aC,b0,aM⟩:=B0 cb
 obtain⟨rfl,c4⟩:=Sl.len aM
 unfold q02 at f
 dsimp only at f
 refine Z1 (args:=[.agg #[.int .i64 Q,.int .i64 u,.slice aT S.length bc],.int .i64 j]) (fn:=Tryz.f343) rfl ?_
 obtain⟨dw,bB,f⟩:=z0 f
 refine aI (A2 bB) ?_
 obtain⟨dx,bC,f⟩:=z0 f
 refine aI (A2 bC) ?_
 obtain⟨dP,bH,f⟩:=z0 f
 obtain⟨aZ,cy,bi,cc⟩:=j5 (F2.rep (p:=Wp.bool.R h) (a:=[.bool false]) (b:=false) rfl (u.toNat)) bH
 refine aI aZ ?_
 obtain rfl:=cc
 refine eX _ (aI bi ?_)
 obtain⟨dU,bM,f⟩:=z0 f
 obtain⟨a2,cD,bl,aN⟩:=j5 (F2.rep (p:=I0.R h) (a:=[.slice none 0 0]) (b:=[]) (S08 Wp.int h) (u.toNat)) bM
 refine aI a2 ?_
 obtain⟨cv,dn,cJ,rfl⟩:=Wp.slice_cell aN
 obtain⟨rfl,c6⟩:=Sl.len aN
 intro dL aE bu
 obtain⟨al,aq,rfl,cl,ab,di⟩:=D1.out (r:=Wp.int.toRp) bu (show F2 (Wp.int.R h) ([]:List (List Value)) ([]:C0) from trivial)
 refine eX _ (aI bl ?_)
 refine trM f (k03 _ _ aC) ?_
 rintro Y f dK b5 ⟨aW,dt,be,rfl,ag,U⟩
 obtain⟨rfl,dd⟩:=Sl.len ag
 obtain⟨ah,bT,f⟩:=z0 f
 refine eX { vars:=[10],boxes:=[],owns:=[0,1,3],fuel:=true,kept:=[0,1] } (eX (λvs os s=>∃ y ac H ad I W V,vs.tail = [.int .i64 y]/\os = [ac,ad,W]/\Sub b5 s/\J0 y/\F2 (Wp.bool.R s) ac H/\F2 (I0.R s) ad I/\F2 (Wp.int.R s) W V/\Y8 Y Q u S (Q1 vs) y H I V=some ah) (eX (λ_ _=>0) (aI (eX Q0 ⟨0,((List.replicate u.toNat ([.bool false]:List Value)).set j.toNat [.bool true]),((List.replicate u.toNat (false:Bool)).set j.toNat true),((List.replicate u.toNat ([.slice none 0 0]:List Value)).set j.toNat [.slice al (([]:C0)).length aq]),((List.replicate u.toNat ([]:C0)).set j.toNat ([]:C0)),([[.int .i64 j]]:List (List Value)),[j],rfl,rfl,(Sub.refl _),(by decide),(F2.up (r:=Wp.bool.toRp) (ab.trans U) (F2.set (p:=Wp.bool.R h) (a:=[.bool true]) (b:=true) rfl j.toNat (F2.rep (p:=Wp.bool.R h) (a:=[.bool false]) (b:=false) rfl (u.toNat)))),(F2.up (r:=I0.toRp) U (F2.set (p:=I0.R aE) (a:=[.slice al (([]:C0)).length aq]) (b:=([]:C0)) cl j.toNat (F2.up (r:=I0.toRp) ab (F2.rep (p:=I0.R h) (a:=[.slice none 0 0]) (b:=[]) (S08 Wp.int h) (u.toNat))))),(F2.up (r:=Wp.int.toRp) U (show F2 (Wp.int.R aE) ([[.int .i64 j]]:List (List Value)) [j] from⟨⟨rfl,b1⟩,trivial⟩)),bT⟩) ?_)))
 rintro _ ac ad W aa b6 ⟨y,dW,H,dX,I,dY,V,⟨⟩,⟨⟩,T,cQ,au,av,aw,i⟩
 replace i:Y8 Y Q u S aa y H I V=some ah:=i
 obtain _|aa:=aa
 ·cases i
 rw[Y8.eq_2]at i
 obtain⟨b8,bA,i⟩:=z0 i
 obtain rfl:W.length=b8:=(F2.length aw).trans (oJ bA)
 obtain⟨dy,cN,i⟩:=z0 i
 refine ifB i (λbW i=>?_) λbW i=>?_
 ·obtain⟨ai,bU,i⟩:=z0 i
  refine eX { vars:=[11],boxes:=[],owns:=[0,1,3],fuel:=true,kept:=[0,1] } (eX (λvs os s=>∃ z J D K E L F,vs.tail = [.int .i64 z]/\os = [J,K,L]/\Sub b6 s/\J0 z/\F2 (Wp.bool.R s) J D/\F2 (I0.R s) K E/\F2 (Wp.int.R s) L F/\P6 Y y Q u S (Q1 vs) z D E F=some ai) (eX (λ_ _=>0) (aI (eX Q0 ⟨0,ac,H,ad,I,W,V,rfl,rfl,(Sub.refl _),(by decide),au,av,aw,bU⟩) ?_)))
  rintro _ J K L P Z ⟨z,dZ,D,d1,E,d2,F,⟨⟩,⟨⟩,G,cR,M,N,B,d⟩
  replace d:P6 Y y Q u S P z D E F=some ai:=d
  obtain _|P:=P
  ·cases d
  rw[P6.eq_2]at d
  refine ifB d (λbX d=>?_) λbX d=>?_
  ·refine Or.inl (aI (aI (by kernel_rfl) (by kernel_rfl)) ?_)
   obtain⟨dQ,bI,d⟩:=z0 d
   obtain⟨a0,cz,bj,cd⟩:=j5 B bI
   refine aI a0 ?_
   obtain⟨rfl,b2⟩:=cd
   refine eX _ (aI bj ?_)
   refine ldI d (I0.mono (T.trans G) ag) λdR b3 d=>?_
   obtain⟨m,bJ,d⟩:=z0 d
   refine eX (.int .i64 m) (aI (p00 _ _ _ (l0 aC b0 (H0.mono (((ab.trans U).trans T).trans G) aM)) _ b2 _ b3 _  bJ) ?_)
   obtain⟨dz,bD,d⟩:=z0 d
   have aD:J0 m:=A2 bD
   obtain⟨dS,bK,d⟩:=z0 d
   obtain⟨cA,ar,ce⟩:=c05 M bK (j0q Z)
   refine aI (λq=>(ar q).1) ?_
   obtain rfl:=ce
   refine eX _ (aI (λq=>(ar q).2) ?_)
   refine ifB d (λbY d=>?_) λbY d=>?_
   ·obtain⟨dT,bL,d⟩:=z0 d
    obtain⟨a1,cC,bk,cf⟩:=j5 M bL
    refine aI a1 ?_
    obtain rfl:=cf
    refine eX _ (aI bk ?_)
    refine Or.inr (Or.inr (Or.inr (Or.inr (eX 16 (aI (aI (by kernel_rfl) (by kernel_rfl)) ?_)))))
    refine Or.inr (eX (λv O=>∃(g:Nat),v = .slice (some ⟨g,0,none⟩) 0 0/\Z g=none/\∃ e,O g=some (.cells #[] e (0,0))) (aI (λv az aA C q=>by obtain⟨g,e,n,t,c⟩:=q;exact⟨g,e,n,t,C _ _ c⟩) (aI ?_ ?_)))
    ·intro cT co
     intro g aB
     exact aI o8 (aI (Sub.set aB) ⟨g,rfl,Sub.back co aB,_,Hp.set_same _ _ _⟩)
    obtain⟨ct,bN,d⟩:=z0 d
    obtain⟨a3,cE,bm,cg⟩:=j5 B bN
    obtain⟨rfl,cS⟩:=cg
    refine Or.inl ?_
    apply eX
    refine aI ?_ ?_
    ·intro cU dD
     exact aI a3 (aI rfl (aI rfl rfl))
    refine Or.inl (eX (.val (.int .i64 ct)) (aI ?_ ?_))
    ·intro cV dE
     exact eX _ (aI bm (aI rfl (aI rfl rfl)))
    obtain⟨x,bO,d⟩:=z0 d
    obtain⟨a4,cG,bn,af⟩:=j5 N bO
    obtain⟨aV,dq,bd,rfl⟩:=Wp.slice_cell af
    obtain⟨rfl,db⟩:=Sl.len af
    refine Or.inl ?_
    apply eX
    refine aI ?_ ?_
    ·intro cW dF
     exact aI a4 (aI rfl (aI rfl rfl))
    refine Or.inl (eX (.val (.slice aV x.length bd)) (aI ?_ ?_))
    ·intro cX dG
     exact eX _ (aI bn (aI rfl (aI rfl rfl)))
    obtain⟨dA,bE,d⟩:=z0 d
    refine Or.inr (eX (λv O=>∃(g o c:Nat),v = .slice (some ⟨g,o,none⟩) x.length c/\New I0 Z O [.slice (some ⟨g,o,none⟩) x.length c] x/\x.length<=9223372036854775807) (aI (λv az aA C q=>by obtain⟨g,o,c,e,r,l⟩:=q;exact⟨g,o,c,e,New.mono r C,l⟩) (aI ?_ ?_)))
    ·intro cY aQ
     rintro _ ⟨cO,rfl,ca,bf⟩
     obtain⟨cr,bs,b7,cu,bz⟩:=New.appZ (r:=Wp.int) ca bf aQ (I0.mono aQ af) (z06 _)
     exact eX cr (aI bs (aI (T1 bE b7) (aI (λbZ=>aI o8 (aI (Sub.refl _) (cu bZ))) (λv bS hf=>aI o8 (bz v bS _ hf)))))
    obtain⟨X,bP,d⟩:=z0 d
    obtain⟨ba,cH,bo,ch⟩:=Sl.getI (r:=Wp.int.toRp) (I0.mono (T.trans G) ag) bP (by decide)
    obtain⟨rfl,b4⟩:=ch
    refine Or.inl (eX (.hel (.slice aW Y.length be) z 1 0) (aI ?_ ?_))
    ·intro cZ dH
     exact aI ba (aI rfl (aI rfl rfl))
    refine Or.inl (eX (.val (.int .i64 X)) (aI ?_ ?_))
    ·intro c0 cp
     exact eX _ (aI (D9.up cp bo) (aI rfl (aI rfl rfl)))
    obtain⟨w,bQ,d⟩:=z0 d
    refine Or.inr (eX (λv O=>∃(a:Option Addr) (c:Nat),v = .slice a w.length c/\I0.R O [.slice a w.length c] w/\w.length<=9223372036854775807) (aI (λv az aA C q=>by obtain⟨a,c,e,r,l⟩:=q;exact⟨a,c,e,I0.mono C r,l⟩) (aI ?_ ?_)))
    ·intro aF dI
     have bp:[X]=w:=oJ bQ
     intro v k hf
     obtain⟨a,c,rfl,r,C,l⟩:=D1.out (r:=Wp.int.toRp) (xs:=w) hf (show F2 (Wp.int.R aF) [[.int .i64 X]] w from bp▸(show F2 (Wp.int.R aF) [[.int .i64 X]] [X] from⟨⟨rfl,b4⟩,trivial⟩))
     exact aI ⟨rfl,rfl,rfl,[_],rfl⟩ (aI C ⟨a,c,rfl,r,l⟩)
    intro c1 dJ
    rintro _ ⟨cx,cL,rfl,cj,df⟩
    rintro _ ⟨cP,dv,cM,rfl,ck,dg⟩
    rintro _ _
    obtain⟨cq,br,ax⟩:=Sl.rows (r:=Wp.int.toRp) cj
    refine eX cq (aI br ?_)
    obtain⟨dB,bF,d⟩:=z0 d
    obtain⟨cs,ci,aG,aU⟩:=New.app ck (Sub.refl _)
    refine eX cs (aI ci (aI (T1 bF (by first|rw[aG,F2.length ax]|(rw[aG];rfl))) ?_))
    intro dO ae bV
    obtain⟨A,ay,aK,du,ap,rfl⟩:=aU _ _ _ _ _ (F3.ofPlain (z06 _) ax) M6.ofPlain bV
    have aP:=A.r
    obtain⟨bt,dh⟩:=Sl.len aP
    subst bt
    obtain⟨dV,bR,d⟩:=z0 d
    obtain⟨bb,cI,bq,aO⟩:=j5 (F2.up (r:=I0.toRp) A.sub N) bR
    refine aI bb ?_
    obtain⟨cw,ds,cK,rfl⟩:=Wp.slice_cell aO
    obtain⟨rfl,dc⟩:=Sl.len aO
    refine eX _ (aI bq ?_)
    obtain⟨dC,bG,d⟩:=z0 d
    refine aI (T1 bG (by first|rw[F2.length (F2.up (r:=Wp.int.toRp) A.sub B),F2.length (show F2 (Wp.int.R ae) ([[.int .i64 m]]:List (List Value)) [m] from⟨⟨rfl,aD⟩,trivial⟩)]|exact congrArg (·+1) (F2.length (F2.up (r:=Wp.int.toRp) A.sub B)))) ?_
    exact I2 P ⟨(IntKind.i64.wrap (z+1)),(J.set m.toNat [.bool true]),(D.set m.toNat true),(K.set m.toNat [.slice (some ⟨ay,aK,none⟩) (x++w).length ap]),(E.set m.toNat (x++w)),(L++([[.int .i64 m]]:List (List Value))),(F ++ [m]),rfl,rfl,(G.trans A.sub),(N0 _),(F2.up (r:=Wp.bool.toRp) A.sub (F2.set (p:=Wp.bool.R Z) (a:=[.bool true]) (b:=true) rfl m.toNat M)),(F2.set (p:=I0.R ae) (a:=[.slice (some ⟨ay,aK,none⟩) (x++w).length ap]) (b:=(x++w)) aP m.toNat (F2.up (r:=I0.toRp) A.sub N)),(F2.append (F2.up (r:=Wp.int.toRp) A.sub B) (show F2 (Wp.int.R ae) ([[.int .i64 m]]:List (List Value)) [m] from⟨⟨rfl,aD⟩,trivial⟩)),d⟩
   ·exact I2 P ⟨(IntKind.i64.wrap (z+1)),J,D,K,E,L,F,rfl,rfl,G,(N0 _),M,N,B,d⟩
  ·obtain rfl:=oJ d
   try dsimp only[T0,V0]at i
   exact I2 aa ⟨(IntKind.i64.wrap (y+1)),J,D,K,E,L,F,rfl,rfl,(T.trans G),(N0 _),M,N,B,i⟩
 ·obtain rfl:=oJ i
  try dsimp only[T0,V0]at f
  intro dM c2 bv
  obtain⟨aX,bg,rfl,cm,aR,dj⟩:=D1.out (r:=Wp.bool.toRp) bv au
  intro dN c3 bx
  obtain⟨aY,bh,rfl,cn,aS,dk⟩:=D1.out (r:=I0.toRp) bx (F2.up (r:=I0.toRp) aR av)
  obtain rfl:=oJ f
  exact⟨aX,H.length,bg,aY,I.length,bh,rfl,((Wp.slice Wp.bool).mono aS cm),cn,((((ab.trans U).trans T).trans aR).trans aS)⟩
theorem r0e(h:Hp)(m:List Value)(y:j0)(Q:j1.R h m y)(c:Int)(w:J0 c)(d:Int)(N:J0 d)(r:C0×Bool)(a:p9 y c d=some r):
  Tr Tryz.prog 321 #[.agg m.toArray,.int .i64 c,.int .i64 d] h λv K=>∃(s:Nat) (x l:Nat),v = .tuple #[.slice (some ⟨s,0,none⟩) x l,.bool r.2]/\New I0 h K [.slice (some ⟨s,0,none⟩) x l] r.1:=by
 obtain⟨O,f,A,ao,B,P,rfl,rfl,t,u,g⟩:=B0 Q
 obtain⟨rfl,ah⟩:=Sl.len g
 unfold p9 at a
 dsimp only at a
 refine Z1 (args:=[.agg #[.int .i64 O,.int .i64 f,.slice A P.length B],.int .i64 c,.int .i64 d]) (fn:=Tryz.f321) rfl ?_
 refine trV a (j7 _ _ _ (l0 t u g)) λaF a=>?_
 refine trG a (λq=>C5 _ _ w 0 (by decide) (IntKind.i64.wrap (f-1)) (N0 _)) λaH a=>?_
 refine trG a (λq=>C5 _ _ N 0 (by decide) (IntKind.i64.wrap (f-1)) (N0 _)) λaJ a=>?_
 refine ifB a (λM a=>?_) λM a=>?_
 ·intro aE ag p
  obtain⟨J,E,rfl,ax,aA,an⟩:=D1.outS (r:=Wp.int.toRp) p (show F2 (Wp.int.R h) ([]:List (List Value)) ([]:C0) from trivial)
  obtain rfl:=oJ a
  exact⟨J,(([]:C0)).length,E,rfl,(D1.newPlain (r:=Wp.int) p (show F2 (Wp.int.R h) ([]:List (List Value)) ([]:C0) from trivial) (z06 _))⟩
 ·refine trM a (q0e _ _ _ (l0 t u g) _ w) ?_
  rintro V a aB b ⟨X,aq,ac,Y,ar,ad,rfl,j,k,z⟩
  obtain⟨aK,aL⟩:=V
  dsimp only at a j k
  obtain⟨rfl,aj⟩:=Sl.len j
  obtain⟨rfl,ak⟩:=Sl.len k
  refine ld a j λaG Z S a=>?_
  obtain rfl:=S
  refine ifB a (λL a=>?_) λL a=>?_
  ·intro aC ae n
   obtain⟨H,C,rfl,av,ay,al⟩:=D1.outS (r:=Wp.int.toRp) n (show F2 (Wp.int.R b) ([]:List (List Value)) ([]:C0) from trivial)
   obtain rfl:=oJ a
   exact⟨H,(([]:C0)).length,C,rfl,(New.from (D1.newPlain (r:=Wp.int) n (show F2 (Wp.int.R b) ([]:List (List Value)) ([]:C0) from trivial) (z06 _)) z)⟩
  ·refine ld a k λU aa i a=>?_
   obtain⟨W,ap,ab,rfl⟩:=Wp.slice_cell i
   obtain⟨rfl,ai⟩:=Sl.len i
   obtain⟨T,F,e⟩:=Sl.rows (r:=Wp.int.toRp) i
   refine eX T (aI F ?_)
   obtain⟨au,G,a⟩:=z0 a
   refine aI (T1 G (by first|rw[F2.length (show F2 (Wp.int.R b) ([]:List (List Value)) ([]:C0) from trivial),F2.length e]|exact congrArg (·+1) (F2.length (show F2 (Wp.int.R b) ([]:List (List Value)) ([]:C0) from trivial)))) ?_
   intro aD af o
   obtain⟨I,D,rfl,aw,az,am⟩:=D1.outS (r:=Wp.int.toRp) o (F2.append (show F2 (Wp.int.R b) ([]:List (List Value)) ([]:C0) from trivial) e)
   obtain rfl:=oJ a
   exact⟨I,((([]:C0)++U)).length,D,rfl,(New.from (D1.newPlain (r:=Wp.int) o (F2.append (show F2 (Wp.int.R b) ([]:List (List Value)) ([]:C0) from trivial) e) (z06 _)) z)⟩
theorem E03(h:Hp)(e:List Value)(i:j0)(y:j1.R h e i)(b:Int)(s:J0 b)(r:C0)(a:g01 i b=some r):
  Tr Tryz.prog 255 #[.agg e.toArray,.int .i64 b] h λv o=>∃(f:Nat) (g d:Nat),v = .slice (some ⟨f,0,none⟩) g d/\New I0 h o [.slice (some ⟨f,0,none⟩) g d] r:=by
 obtain⟨u,w,k,E,l,x,rfl,rfl,p,q,j⟩:=B0 y
 obtain⟨rfl,C⟩:=Sl.len j
 unfold g01 at a
 dsimp only at a
 refine Z1 (args:=[.agg #[.int .i64 u,.int .i64 w,.slice k x.length l],.int .i64 b]) (fn:=Tryz.f255) rfl ?_
 refine trM a (r0e _ _ _ (l0 p q j) 0 (by decide) _ s) ?_
 rintro A a H t ⟨n,F,m,rfl,c⟩
 obtain⟨B,I⟩:=A
 dsimp only at a c
 have G:Sub h t:=c.sub
 have z:=c.r
 obtain⟨rfl,D⟩:=Sl.len z
 obtain rfl:=oJ a
 exact⟨n,B.length,m,rfl,c⟩
theorem s0e(h:Hp)(o:Option Addr)(D q:Nat)(l:U1)(t:D2.R h [.slice o D q] l)(p:Option Addr)(E s:Nat)(m:C0)(f:I0.R h [.slice p E s] m)(r:C0)(e:r02 l m=some r):
  Tr Tryz.prog 178 #[.slice o D q,.slice p E s] h λv k=>∃(y:Option Addr) (C z:Nat),v = .slice y C z/\I0.R k [.slice y C z] r/\Sub h k:=by
 obtain⟨rfl,ay⟩:=Sl.len t
 obtain⟨rfl,az⟩:=Sl.len f
 unfold r02 at e
 refine Z1 (args:=[.slice o l.length q,.slice p m.length s]) (fn:=Tryz.f178) rfl ?_
 obtain⟨x,Q,e⟩:=z0 e
 refine eX { vars:=[6],boxes:=[],owns:=[0],fuel:=true } (eX (λvs os k=>∃ d j g,vs.tail = [.int .i64 d]/\os = [j]/\Sub h k/\J0 d/\F2 (Wp.int.R k) j g/\U5 m l (Q1 vs) d g=some x) (eX (λ_ _=>0) (aI (eX Q0 ⟨0,[],([]:C0),rfl,rfl,(Sub.refl _),(by decide),(show F2 (Wp.int.R h) ([]:List (List Value)) ([]:C0) from trivial),Q⟩) ?_)))
 rintro _ j i ax ⟨d,aW,g,⟨⟩,⟨⟩,b,al,c,a⟩
 replace a:U5 m l i d g=some x:=a
 obtain _|i:=i
 ·cases a
 rw[U5.eq_2]at a
 refine ifB a (λT a=>?_) λT a=>?_
 ·refine ldI a (I0.mono b f) λaU aq a=>?_
  refine ldG a (I0.mono b f) λaV ar a=>?_
  refine ifB a (λU a=>?_) λU a=>?_
  ·refine ldI a (I0.mono b f) λaP am a=>?_
   refine ld a (D2.mono b t) λY af u a=>?_
   obtain⟨ab,aF,ah,rfl⟩:=Wp.slice_cell u
   obtain⟨rfl,aA⟩:=Sl.len u
   obtain⟨H,L,A⟩:=Sl.rows (r:=Wp.int.toRp) u
   refine eX H (aI L ?_)
   obtain⟨aK,O,a⟩:=z0 a
   refine aI (T1 O (by first|rw[F2.length c,F2.length A]|exact congrArg (·+1) (F2.length c))) ?_
   exact I2 i ⟨(IntKind.i64.wrap (d+1)),(j++H),(g++Y),rfl,rfl,b,(N0 _),(F2.append c A),a⟩
  ·refine ldI a (I0.mono b f) λaQ an a=>?_
   refine ldG a (I0.mono b f) λaR ao a=>?_
   refine ifB a (λS a=>?_) λS a=>?_
   ·refine ldI a (I0.mono b f) λaS ap a=>?_
    refine ld a (D2.mono b t) λaT ag w a=>?_
    obtain⟨ac,aG,ai,rfl⟩:=Wp.slice_cell w
    obtain⟨rfl,aB⟩:=Sl.len w
    refine trM a (D02 _ _ _ _ _ w) ?_
    rintro Z a aM au ⟨ad,aH,aj,rfl,F,n⟩
    obtain⟨rfl,aC⟩:=Sl.len F
    obtain⟨I,M,B⟩:=Sl.rows (r:=Wp.int.toRp) F
    refine eX I (aI M ?_)
    obtain⟨aL,P,a⟩:=z0 a
    refine aI (T1 P (by first|rw[F2.length (F2.up (r:=Wp.int.toRp) n c),F2.length B]|exact congrArg (·+1) (F2.length (F2.up (r:=Wp.int.toRp) n c)))) ?_
    exact I2 i ⟨(IntKind.i64.wrap (d+1)),(j++I),(g++Z),rfl,rfl,(b.trans n),(N0 _),(F2.append (F2.up (r:=Wp.int.toRp) n c) B),a⟩
   ·exact I2 i ⟨(IntKind.i64.wrap (d+1)),j,g,rfl,rfl,b,(N0 _),c,a⟩
 ·obtain rfl:=oJ a
  try dsimp only[T0,V0]at e
  refine Or.inl ?_
  intro aN av N
  obtain⟨ae,ak,rfl,V,X,aE⟩:=D1.out (r:=Wp.int.toRp) N c
  refine trM e (Y02 _ _ _ _ _ V) ?_
  rintro aa e aO aw ⟨J,aJ,K,rfl,G,W⟩
  obtain⟨rfl,aD⟩:=Sl.len G
  obtain rfl:=oJ e
  exact⟨J,aa.length,K,rfl,G,((b.trans X).trans W)⟩
theorem j05(h:Hp)(b:Option Addr)(j c:Nat)(a:C0)(k:I0.R h [.slice b j c] a)(r:C0)(d:J8 a=some r):
  Tr Tryz.prog 200 #[.slice b j c] h λv n=>∃(f:Option Addr) (i g:Nat),v = .slice f i g/\New I0 h n [.slice f i g] r:=by
 obtain⟨rfl,y⟩:=Sl.len k
 unfold J8 at d
 refine Z1 (args:=[.slice b a.length c]) (fn:=Tryz.f200) rfl ?_
 refine Or.inl ?_
 intro D o f3
 obtain⟨w,x,rfl,s,t,A⟩:=D1.out (r:=I0.toRp) f3 (show F2 (I0.R h) ([[.slice b a.length c]]:List (List Value)) [a] from⟨k,trivial⟩)
 refine trM d (f06 _ _ _ _ _ s) ?_
 rintro u d E p ⟨l,B,m,rfl,e⟩
 have C:Sub o p:=e.sub
 have q:=e.r
 obtain⟨rfl,z⟩:=Sl.len q
 obtain rfl:=oJ d
 exact⟨l,u.length,m,rfl,(New.from e t)⟩
theorem u0e(h:Hp)(c:Option Addr)(k d:Nat)(b:C0)(l:I0.R h [.slice c k d] b)(r:C0)(a:h02 b=some r):
  Tr Tryz.prog 93 #[.slice c k d] h λv q=>∃(i:Nat) (j f:Nat),v = .slice (some ⟨i,0,none⟩) j f/\New I0 h q [.slice (some ⟨i,0,none⟩) j f] r:=by
 obtain⟨rfl,u⟩:=Sl.len l
 unfold h02 at a
 refine Z1 (args:=[.slice c b.length d]) (fn:=Tryz.f93) rfl ?_
 obtain⟨s,n,e⟩:=Sl.rows (r:=Wp.int.toRp) l
 refine eX s (aI n ?_)
 obtain⟨x,o,a⟩:=z0 a
 refine aI (T1 o (by first|rw[F2.length (show F2 (Wp.int.R h) ([]:List (List Value)) ([]:C0) from trivial),F2.length e]|exact congrArg (·+1) (F2.length (show F2 (Wp.int.R h) ([]:List (List Value)) ([]:C0) from trivial)))) ?_
 intro A t g
 obtain⟨p,m,rfl,y,z,w⟩:=D1.outS (r:=Wp.int.toRp) g (F2.append (show F2 (Wp.int.R h) ([]:List (List Value)) ([]:C0) from trivial) e)
 obtain rfl:=oJ a
 exact⟨p,((([]:C0)++b)).length,m,rfl,(D1.newPlain (r:=Wp.int) g (F2.append (show F2 (Wp.int.R h) ([]:List (List Value)) ([]:C0) from trivial) e) (z06 _))⟩
end Go.Proofs.YtkjhghloldgioaaGreat
