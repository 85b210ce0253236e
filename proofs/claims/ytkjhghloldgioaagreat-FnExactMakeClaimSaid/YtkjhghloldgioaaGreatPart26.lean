/- Texts of the claim, joined: The walks of batch 1 and others. -/
import Derived.Test.YtkjhghloldgioaaGreatPart18
import Derived.Test.YtkjhghloldgioaaGreatChecked
import Derived.Test.YtkjhghloldgioaaGreatH35
import Derived.Test.YtkjhghloldgioaaGreatSI
import Derived.Test.YtkjhghloldgioaaGreatPart21
import Derived.Test.YtkjhghloldgioaaGreatPart17
import Derived.Test.YtkjhghloldgioaaGreatH36
import Derived.Test.YtkjhghloldgioaaGreatH41
namespace Go.Proofs.YtkjhghloldgioaaGreat
open Go.H
set_option linter.unusedVariables false
set_option linter.unusedSimpArgs false
set_option maxRecDepth 10000
theorem j6(h:Hp)(a:Int)(f:I0 a)(b:Int)(g:I0 b)(c:Int)(i:I0 c)(r:Bool)(d:H4 a b c=some r):
  Tr Tryz.prog 76 #[.int .i64 a,.int .i64 b,.int .i64 c] h λv e=>v = .bool r/\e=h:=by
 unfold H4 at d
 refine Tr.forget (J2 (args:=[.int .i64 a,.int .i64 b,.int .i64 c]) (fn:=Tryz.f76) rfl ?_)
 obtain rfl:=oJ d
 exact aI rfl (Sub.refl _)
theorem S01(h:Hp)(c:Int)(n:I0 c)(j:Option Addr)(o k:Nat)(f:J0)(g:M0.R h [.slice j o k] f)(r:Bool)(b:o8 c f=some r):
  Tr Tryz.prog 104 #[.int .i64 c,.slice j o k] h λv l=>v = .bool r/\l=h:=by
 obtain⟨rfl,B⟩:=Sl.len g
 unfold o8 at b
 refine Tr.forget (J2 (args:=[.int .i64 c,.slice j f.length k]) (fn:=Tryz.f104) rfl ?_)
 obtain⟨m,p,b⟩:=C0 b
 refine eX { vars:=[5],boxes:=[],owns:=[],fuel:=true } (eX (λvs os l=>∃ e,vs.tail = [.int .i64 e]/\os = []/\Sub h l/\I0 e/\I8 f c (P1 vs) e=some m) (eX (λ_ _=>0) (aI (eX U0 ⟨0,rfl,rfl,(Sub.refl _),(by decide),p⟩) ?_)))
 rintro _ i A ⟨e,⟨⟩,⟨⟩,d,w,a⟩
 replace a:I8 f c i e=some m:=a
 obtain _|i:=i
 ·cases a
 rw[I8.eq_2]at a
 refine ifB a (λt a=>?_) λt a=>?_
 ·refine Or.inl (aI (aI (by kernel_rfl) (by kernel_rfl)) ?_)
  refine ldI a (M0.mono d g) λE y a=>?_
  refine ldG a (M0.mono d g) λF u a=>?_
  refine trG a (λq=>j6 _ _ u (IntKind.i64.wrap (0-c)) (P0 _) _ n) λG a=>?_
  refine ldG a (M0.mono d g) λH z a=>?_
  refine ldG a (M0.mono d g) λC x a=>?_
  refine ifB a (λs a=>?_) λs a=>?_
  ·obtain rfl:=oJ a
   try dsimp only[j4,L4]at b
   obtain rfl:=oJ b
   exact aI rfl d
  ·exact C2 i ⟨(IntKind.i64.wrap (e+1)),rfl,rfl,d,(P0 _),a⟩
 ·obtain rfl:=oJ a
  try dsimp only[V0,Z0]at b
  refine trV b (j6 _ _ n 1 (by decide) 3 (by decide)) λD b=>?_
  obtain rfl:=oJ b
  exact aI rfl d
theorem p0a(h:Hp)(g:Option Addr)(m i:Nat)(e:Y1)(n:Z1.R h [.slice g m i] e)(r:Int)(d:T8 e=some r):
  Tr Tryz.prog 274 #[.slice g m i] h λv j=>v = .int .i64 r/\j=h:=by
 obtain⟨rfl,A⟩:=Sl.len n
 unfold T8 at d
 refine Tr.forget (J2 (args:=[.slice g e.length i]) (fn:=Tryz.f274) rfl ?_)
 obtain⟨l,p,d⟩:=C0 d
 refine eX { vars:=[3,4],boxes:=[],owns:=[],fuel:=true } (eX (λvs os j=>∃ b c,vs.tail = [.int .i64 b,.int .i64 c]/\os = []/\Sub h j/\I0 b/\I0 c/\l4 e (P1 vs) b c=some l) (eX (λ_ _=>0) (aI (eX U0 ⟨0,0,rfl,rfl,(Sub.refl _),(by decide),(by decide),p⟩) ?_)))
 rintro _ _ f z ⟨b,c,⟨⟩,⟨⟩,k,x,y,a⟩
 replace a:l4 e f b c=some l:=a
 obtain _|f:=f
 ·cases a
 rw[l4.eq_2]at a
 refine ifB a (λq a=>?_) λq a=>?_
 ·refine ld a (Z1.mono k n) λs u o a=>?_
  obtain⟨t,C,w,rfl⟩:=Wp.slice_cell o
  obtain⟨rfl,B⟩:=Sl.len o
  exact C2 f ⟨(IntKind.i64.wrap (b+((s.length:Nat):Int))),(IntKind.i64.wrap (c+1)),rfl,rfl,k,(P0 _),(P0 _),a⟩
 ·obtain rfl:=oJ a
  try dsimp only[V0,Z0]at d
  obtain rfl:=oJ d
  exact aI rfl k
theorem A0d(h:Hp)(c:Int)(o:I0 c)(i:Option Addr)(p j:Nat)(e:Y1)(l:Z1.R h [.slice i p j] e)(r:Bool)(b:z01 c e=some r):
  Tr Tryz.prog 175 #[.int .i64 c,.slice i p j] h λv k=>v = .bool r/\k=h:=by
 obtain⟨rfl,E⟩:=Sl.len l
 unfold z01 at b
 refine Tr.forget (J2 (args:=[.int .i64 c,.slice i e.length j]) (fn:=Tryz.f175) rfl ?_)
 obtain⟨n,t,b⟩:=C0 b
 refine eX { vars:=[5],boxes:=[],owns:=[],fuel:=true } (eX (λvs os k=>∃ d,vs.tail = [.int .i64 d]/\os = []/\Sub h k/\I0 d/\j7 e c (P1 vs) d=some n) (eX (λ_ _=>0) (aI (eX U0 ⟨0,rfl,rfl,(Sub.refl _),(by decide),t⟩) ?_)))
 rintro _ g D ⟨d,⟨⟩,⟨⟩,f,B,a⟩
 replace a:j7 e c g d=some n:=a
 obtain _|g:=g
 ·cases a
 rw[j7.eq_2]at a
 refine ifB a (λu a=>?_) λu a=>?_
 ·refine ld a (Z1.mono f l) λI z m a=>?_
  obtain⟨y,G,A,rfl⟩:=Wp.slice_cell m
  obtain⟨rfl,F⟩:=Sl.len m
  refine trV a (S01 _ _ o _ _ _ _ m) λJ a=>?_
  refine ifB a (λw a=>?_) λw a=>?_
  ·obtain rfl:=oJ a
   try dsimp only[j4,L4]at b
   obtain rfl:=oJ b
   exact aI rfl f
  ·exact C2 g ⟨(IntKind.i64.wrap (d+1)),rfl,rfl,f,(P0 _),a⟩
 ·obtain rfl:=oJ a
  try dsimp only[V0,Z0]at b
  refine trV b (j6 _ _ o 1 (by decide) 3 (by decide)) λK b=>?_
  refine trG b (λq=>p0a _ _ _ _ _ (Z1.mono f l)) λx b=>?_
  obtain⟨H,s,b⟩:=C0 b
  have C:I0 x:=K1 s
  obtain rfl:=oJ b
  exact aI rfl f
theorem V9(h:Hp)(a:Int)(f:I0 a)(b:Int)(g:I0 b)(c:Int)(i:I0 c)(r:Bool)(d:E7 a b c=some r):
  Tr Tryz.prog 78 #[.int .i64 a,.int .i64 b,.int .i64 c] h λv e=>v = .bool r/\e=h:=by
 unfold E7 at d
 refine Tr.forget (J2 (args:=[.int .i64 a,.int .i64 b,.int .i64 c]) (fn:=Tryz.f78) rfl ?_)
 obtain rfl:=oJ d
 exact aI rfl (Sub.refl _)
theorem B0d(h:Hp)(a:Int)(e:I0 a)(c:Int)(f:I0 c)(r:Bool)(b:A01 a c=some r):
  Tr Tryz.prog 197 #[.int .i64 a,.int .i64 c] h λv d=>v = .bool r/\d=h:=by
 unfold A01 at b
 refine Tr.forget (J2 (args:=[.int .i64 a,.int .i64 c]) (fn:=Tryz.f197) rfl ?_)
 refine trG b (λq=>V9 _ _ f (IntKind.i64.wrap (0-a)) (P0 _) _ e) λg b=>?_
 obtain rfl:=oJ b
 exact aI rfl (Sub.refl _)
theorem W05(h:Hp)(a:Int)(e:I0 a)(b:Int)(f:I0 b)(r:Bool)(c:B9 a b=some r):
  Tr Tryz.prog 198 #[.int .i64 a,.int .i64 b] h λv d=>v = .bool r/\d=h:=by
 unfold B9 at c
 refine Tr.forget (J2 (args:=[.int .i64 a,.int .i64 b]) (fn:=Tryz.f198) rfl ?_)
 obtain rfl:=oJ c
 exact aI rfl (Sub.refl _)
theorem T01(h:Hp)(c:Int)(n:I0 c)(i:Option Addr)(p j:Nat)(e:J0)(l:M0.R h [.slice i p j] e)(r:Bool)(b:p8 c e=some r):
  Tr Tryz.prog 91 #[.int .i64 c,.slice i p j] h λv k=>v = .bool r/\k=h:=by
 obtain⟨rfl,A⟩:=Sl.len l
 unfold p8 at b
 refine Tr.forget (J2 (args:=[.int .i64 c,.slice i e.length j]) (fn:=Tryz.f91) rfl ?_)
 refine trV b (V9 _ _ n 1 (by decide) 3 (by decide)) λB b=>?_
 refine ifB b (λu b=>?_) λu b=>?_
 ·obtain rfl:=oJ b
  exact aI rfl (Sub.refl _)
 ·obtain⟨m,s,b⟩:=C0 b
  refine eX { vars:=[17],boxes:=[],owns:=[],fuel:=true } (eX (λvs os k=>∃ d,vs.tail = [.int .i64 d]/\os = []/\Sub h k/\I0 d/\J8 e c (P1 vs) d=some m) (eX (λ_ _=>0) (aI (eX U0 ⟨0,rfl,rfl,(Sub.refl _),(by decide),s⟩) ?_)))
  rintro _ g z ⟨d,⟨⟩,⟨⟩,f,y,a⟩
  replace a:J8 e c g d=some m:=a
  obtain _|g:=g
  ·cases a
  rw[J8.eq_2]at a
  refine ifB a (λw a=>?_) λw a=>?_
  ·refine ldI a (M0.mono f l) λE o a=>?_
   refine trV a (B0d _ _ n _ o) λF a=>?_
   refine ldG a (M0.mono f l) λC x a=>?_
   refine trG a (λq=>W05 _ _ x _ o) λD a=>?_
   refine ifB a (λt a=>?_) λt a=>?_
   ·obtain rfl:=oJ a
    try dsimp only[j4,L4]at b
    obtain rfl:=oJ b
    exact aI rfl f
   ·exact C2 g ⟨(IntKind.i64.wrap (d+1)),rfl,rfl,f,(P0 _),a⟩
  ·obtain rfl:=oJ a
   try dsimp only[V0,Z0]at b
   obtain rfl:=oJ b
   exact aI rfl f
theorem q0a(h:Hp)(g:Option Addr)(m i:Nat)(e:Y1)(n:Z1.R h [.slice g m i] e)(r:Int)(d:i00 e=some r):
  Tr Tryz.prog 278 #[.slice g m i] h λv j=>v = .int .i64 r/\j=h:=by
 obtain⟨rfl,A⟩:=Sl.len n
 unfold i00 at d
 refine Tr.forget (J2 (args:=[.slice g e.length i]) (fn:=Tryz.f278) rfl ?_)
 obtain⟨l,p,d⟩:=C0 d
 refine eX { vars:=[3,8],boxes:=[],owns:=[],fuel:=true } (eX (λvs os j=>∃ b c,vs.tail = [.int .i64 b,.int .i64 c]/\os = []/\Sub h j/\I0 b/\I0 c/\D6 e (P1 vs) b c=some l) (eX (λ_ _=>0) (aI (eX U0 ⟨0,0,rfl,rfl,(Sub.refl _),(by decide),(by decide),p⟩) ?_)))
 rintro _ _ f z ⟨b,c,⟨⟩,⟨⟩,k,x,y,a⟩
 replace a:D6 e f b c=some l:=a
 obtain _|f:=f
 ·cases a
 rw[D6.eq_2]at a
 refine ifB a (λq a=>?_) λq a=>?_
 ·refine ld a (Z1.mono k n) λs u o a=>?_
  obtain⟨t,C,w,rfl⟩:=Wp.slice_cell o
  obtain⟨rfl,B⟩:=Sl.len o
  exact C2 f ⟨(IntKind.i64.wrap (b+((s.length:Nat):Int))),(IntKind.i64.wrap (c+1)),rfl,rfl,k,(P0 _),(P0 _),a⟩
 ·obtain rfl:=oJ a
  try dsimp only[V0,Z0]at d
  obtain rfl:=oJ d
  exact aI rfl k
theorem C0d(h:Hp)(c:Int)(o:I0 c)(i:Option Addr)(p j:Nat)(e:Y1)(l:Z1.R h [.slice i p j] e)(r:Bool)(a:B01 c e=some r):
  Tr Tryz.prog 183 #[.int .i64 c,.slice i p j] h λv k=>v = .bool r/\k=h:=by
 obtain⟨rfl,E⟩:=Sl.len l
 unfold B01 at a
 refine Tr.forget (J2 (args:=[.int .i64 c,.slice i e.length j]) (fn:=Tryz.f183) rfl ?_)
 refine trV a (V9 _ _ o 1 (by decide) 3 (by decide)) λI a=>?_
 refine ifB a (λu a=>?_) λu a=>?_
 ·obtain rfl:=oJ a
  exact aI rfl (Sub.refl _)
 ·obtain⟨n,s,a⟩:=C0 a
  refine eX { vars:=[17],boxes:=[],owns:=[],fuel:=true } (eX (λvs os k=>∃ d,vs.tail = [.int .i64 d]/\os = []/\Sub h k/\I0 d/\l7 e c (P1 vs) d=some n) (eX (λ_ _=>0) (aI (eX U0 ⟨0,rfl,rfl,(Sub.refl _),(by decide),s⟩) ?_)))
  rintro _ g D ⟨d,⟨⟩,⟨⟩,f,B,b⟩
  replace b:l7 e c g d=some n:=b
  obtain _|g:=g
  ·cases b
  rw[l7.eq_2]at b
  refine ifB b (λw b=>?_) λw b=>?_
  ·refine ld b (Z1.mono f l) λJ z m b=>?_
   obtain⟨y,G,A,rfl⟩:=Wp.slice_cell m
   obtain⟨rfl,F⟩:=Sl.len m
   refine trV b (T01 _ _ o _ _ _ _ m) λK b=>?_
   refine ifB b (λt b=>?_) λt b=>?_
   ·obtain rfl:=oJ b
    try dsimp only[j4,L4]at a
    obtain rfl:=oJ a
    exact aI rfl f
   ·exact C2 g ⟨(IntKind.i64.wrap (d+1)),rfl,rfl,f,(P0 _),b⟩
  ·obtain rfl:=oJ b
   try dsimp only[V0,Z0]at a
   refine trV a (q0a _ _ _ _ _ (Z1.mono f l)) λx a=>?_
   obtain⟨H,q,a⟩:=C0 a
   have C:I0 x:=K1 q
   obtain rfl:=oJ a
   exact aI rfl f
theorem p03(h:Hp)(b:Int)(g:I0 b)(c:Int)(i:I0 c)(r:Int)(a:M7 b c=some r):
  Tr Tryz.prog 342 #[.int .i64 b,.int .i64 c] h λv d=>v = .int .i64 r/\d=h:=by
 unfold M7 at a
 refine Tr.forget (J2 (args:=[.int .i64 b,.int .i64 c]) (fn:=Tryz.f342) rfl ?_)
 refine ifB a (λe a=>?_) λe a=>?_
 ·obtain rfl:=oJ a
  exact aI rfl (Sub.refl _)
 ·refine ifB a (λf a=>?_) λf a=>?_
  ·obtain rfl:=oJ a
   exact aI rfl (Sub.refl _)
  ·obtain rfl:=oJ a
   exact aI rfl (Sub.refl _)
theorem y02(h:Hp)(o:Option Addr)(A p:Nat)(m:J0)(n:M0.R h [.slice o A p] m)(r:J0)(d:L6 m=some r):
  Tr Tryz.prog 212 #[.slice o A p] h λv k=>∃(t:Option Addr) (z u:Nat),v = .slice t z u/\M0.R k [.slice t z u] r/\Sub h k:=by
 obtain⟨rfl,ad⟩:=Sl.len n
 unfold L6 at d
 refine J2 (args:=[.slice o m.length p]) (fn:=Tryz.f212) rfl ?_
 obtain⟨s,K,d⟩:=C0 d
 refine eX { vars:=[4],boxes:=[],owns:=[0],fuel:=true } (eX (λvs os k=>∃ g c i,vs.tail = [.int .i64 g]/\os = [c]/\Sub h k/\I0 g/\F2 (Wp.int.R k) c i/\i4 m (P1 vs) g i=some s) (eX (λ_ _=>0) (aI (eX U0 ⟨0,[],([]:J0),rfl,rfl,(Sub.refl _),(by decide),(show F2 (Wp.int.R h) ([]:List (List Value)) ([]:J0) from trivial),K⟩) ?_)))
 rintro _ c l e ⟨g,ap,i,⟨⟩,⟨⟩,f,W,b,a⟩
 replace a:i4 m l g i=some s:=a
 obtain _|l:=l
 ·cases a
 rw[i4.eq_2]at a
 refine ifB a (λM a=>?_) λM a=>?_
 ·obtain⟨N,E,a⟩:=C0 a
  obtain rfl:c.length=N:=(F2.length b).trans (oJ E)
  obtain⟨ai,V,a⟩:=C0 a
  refine Or.inl (aI (aI (by kernel_rfl) (by kernel_rfl)) ?_)
  refine ldG a (M0.mono f n) λao ab a=>?_
  obtain⟨ak,I,a⟩:=C0 a
  obtain⟨T,w,O⟩:=n05 b I (T0e e)
  refine aI (λq=>(w q).1) ?_
  obtain⟨rfl,X⟩:=O
  refine eX _ (aI (λq=>(w q).2) ?_)
  refine ldG a (M0.mono f n) λal Y a=>?_
  obtain⟨am,J,a⟩:=C0 a
  obtain⟨U,x,P⟩:=n05 b J (T0e e)
  refine aI (λq=>(x q).1) ?_
  obtain⟨rfl,Z⟩:=P
  refine eX _ (aI (λq=>(x q).2) ?_)
  refine ldG a (M0.mono f n) λan aa a=>?_
  refine ifB a (λL a=>?_) λL a=>?_
  ·obtain⟨af,F,a⟩:=C0 a
   refine aI (by have:=K1 F;have:=F2.length b;omega) ?_
   exact C2 l ⟨(IntKind.i64.wrap (g+1)),(c.take (IntKind.i64.wrap (((c.length:Nat):Int)-1)).toNat),(i.take (IntKind.i64.wrap (((c.length:Nat):Int)-1)).toNat),rfl,rfl,f,(P0 _),(F2.take (IntKind.i64.wrap (((c.length:Nat):Int)-1)).toNat b),a⟩
  ·refine ldI a (M0.mono f n) λj y a=>?_
   obtain⟨ag,G,a⟩:=C0 a
   refine aI (T1 G (by first|rw[F2.length b,F2.length (show F2 (Wp.int.R e) ([[.int .i64 j]]:List (List Value)) [j] from⟨⟨rfl,y⟩,trivial⟩)]|exact congrArg (·+1) (F2.length b))) ?_
   exact C2 l ⟨(IntKind.i64.wrap (g+1)),(c++([[.int .i64 j]]:List (List Value))),(i ++ [j]),rfl,rfl,f,(P0 _),(F2.append b (show F2 (Wp.int.R e) ([[.int .i64 j]]:List (List Value)) [j] from⟨⟨rfl,y⟩,trivial⟩)),a⟩
 ·obtain rfl:=oJ a
  try dsimp only[V0,Z0]at d
  obtain⟨ah,H,d⟩:=C0 d
  refine aI (T1 H (by first|rw[F2.length (show F2 (Wp.int.R e) ([]:List (List Value)) ([]:J0) from trivial),F2.length b]|exact congrArg (·+0) (F2.length (show F2 (Wp.int.R e) ([]:List (List Value)) ([]:J0) from trivial)))) ?_
  intro aj ac D
  obtain⟨B,C,rfl,Q,S,ae⟩:=H1.out (r:=Wp.int.toRp) D (F2.append (show F2 (Wp.int.R e) ([]:List (List Value)) ([]:J0) from trivial) b)
  obtain rfl:=oJ d
  exact⟨B,((([]:J0)++i)).length,C,rfl,Q,(f.trans S)⟩
theorem C08(h:Hp)(t:Option Addr)(I u:Nat)(n:Y1)(J:Z1.R h [.slice t I u] n)(r:J0)(l:e01 n=some r):
  Tr Tryz.prog 204 #[.slice t I u] h λv e=>∃(D:Option Addr) (H E:Nat),v = .slice D H E/\New M0 h e [.slice D H E] r:=by
 obtain⟨rfl,ap⟩:=Sl.len J
 unfold e01 at l
 refine J2 (args:=[.slice t n.length u]) (fn:=Tryz.f204) rfl ?_
 obtain⟨B,U,l⟩:=C0 l
 refine eX { vars:=[11],boxes:=[],owns:=[0],fuel:=true } (eX (λvs os e=>∃ i s j,vs.tail = [.int .i64 i]/\os = [s]/\Sub h e/\I0 i/\F2 (Wp.int.R e) s j/\a8 n (P1 vs) i j=some B) (eX (λ_ _=>0) (aI (eX U0 ⟨0,[],([]:J0),rfl,rfl,(Sub.refl _),(by decide),(show F2 (Wp.int.R h) ([]:List (List Value)) ([]:J0) from trivial),U⟩) ?_)))
 rintro _ s o aa ⟨i,aG,j,⟨⟩,⟨⟩,A,am,w,b⟩
 replace b:a8 n o i j=some B:=b
 obtain _|o:=o
 ·cases b
 rw[a8.eq_2]at b
 refine ifB b (λY b=>?_) λY b=>?_
 ·refine ld b (Z1.mono A J) λK ah z b=>?_
  obtain⟨af,au,ai,rfl⟩:=Wp.slice_cell z
  obtain⟨rfl,aq⟩:=Sl.len z
  obtain⟨C,V,b⟩:=C0 b
  refine eX { vars:=[17],boxes:=[],owns:=[0],fuel:=true } (eX (λvs os e=>∃ g c f,vs.tail = [.int .i64 g]/\os = [c]/\Sub aa e/\I0 g/\F2 (Wp.int.R e) c f/\Y6 K (P1 vs) g f=some C) (eX (λ_ _=>0) (aI (eX U0 ⟨0,s,j,rfl,rfl,(Sub.refl _),(by decide),w,V⟩) ?_)))
  rintro _ c m y ⟨g,aF,f,⟨⟩,⟨⟩,p,an,d,a⟩
  replace a:Y6 K m g f=some C:=a
  obtain _|m:=m
  ·cases a
  rw[Y6.eq_2]at a
  refine ifB a (λW a=>?_) λW a=>?_
  ·refine ldI a (M0.mono p z) λk x a=>?_
   obtain⟨ab,N,a⟩:=C0 a
   obtain rfl:c.length=ab:=(F2.length d).trans (oJ N)
   obtain⟨av,aj,a⟩:=C0 a
   obtain⟨ac,O,a⟩:=C0 a
   obtain rfl:c.length=ac:=(F2.length d).trans (oJ O)
   obtain⟨aw,ak,a⟩:=C0 a
   obtain⟨aD,T,a⟩:=C0 a
   obtain⟨ag,F,ae⟩:=n05 d T (T0e y)
   refine aI (λq=>(F q).1) ?_
   obtain⟨rfl,Z⟩:=ae
   refine eX _ (aI (λq=>(F q).2) ?_)
   refine trG a (λq=>W05 _ _ Z _ x) λaE a=>?_
   refine ifB a (λX a=>?_) λX a=>?_
   ·obtain⟨ad,P,a⟩:=C0 a
    obtain rfl:c.length=ad:=(F2.length d).trans (oJ P)
    obtain⟨ax,al,a⟩:=C0 a
    obtain⟨ay,Q,a⟩:=C0 a
    refine aI (by have:=K1 Q;have:=F2.length d;omega) ?_
    exact C2 m ⟨(IntKind.i64.wrap (g+1)),(c.take (IntKind.i64.wrap (((c.length:Nat):Int)-1)).toNat),(f.take (IntKind.i64.wrap (((c.length:Nat):Int)-1)).toNat),rfl,rfl,p,(P0 _),(F2.take (IntKind.i64.wrap (((c.length:Nat):Int)-1)).toNat d),a⟩
   ·obtain⟨az,S,a⟩:=C0 a
    refine aI (T1 S (by first|rw[F2.length d,F2.length (show F2 (Wp.int.R y) ([[.int .i64 k]]:List (List Value)) [k] from⟨⟨rfl,x⟩,trivial⟩)]|exact congrArg (·+1) (F2.length d))) ?_
    exact C2 m ⟨(IntKind.i64.wrap (g+1)),(c++([[.int .i64 k]]:List (List Value))),(f ++ [k]),rfl,rfl,p,(P0 _),(F2.append d (show F2 (Wp.int.R y) ([[.int .i64 k]]:List (List Value)) [k] from⟨⟨rfl,x⟩,trivial⟩)),a⟩
  ·obtain rfl:=oJ a
   try dsimp only[V0,Z0]at b
   exact C2 o ⟨(IntKind.i64.wrap (i+1)),c,f,rfl,rfl,(A.trans p),(P0 _),d,b⟩
 ·obtain rfl:=oJ b
  try dsimp only[V0,Z0]at l
  intro aC ao G
  obtain⟨L,M,rfl,aA,aB,ar⟩:=H1.out (r:=Wp.int.toRp) G w
  obtain rfl:=oJ l
  exact⟨L,j.length,M,rfl,(New.from (H1.newPlain (r:=Wp.int) G w (S0e _)) A)⟩
theorem p0g(h:Hp)(c:List Value)(e:l0)(w:Y0.R h c e)(d:List Value)(f:O0)(y:R0.R h d f)(r:Bool)(a:Y02 e f=some r):
  Tr Tryz.prog 339 #[.agg c.toArray,.agg d.toArray] h λv j=>v = .bool r/\j=h:=by
 obtain⟨o,b,g,B,i,p,rfl,rfl,k,z,x⟩:=B0 w
 obtain⟨rfl,A⟩:=Sl.len x
 obtain⟨s,t,u,rfl,rfl,l,m,n⟩:=M1 y
 unfold Y02 at a
 dsimp only at a
 refine Tr.forget (J2 (args:=[.agg #[.int .i64 o,.int .i64 b,.slice g p.length i],.agg #[.int .i64 s,.int .i64 t,.int .i64 u]]) (fn:=Tryz.f339) rfl ?_)
 refine trV a (j6 _ _ l 0 (by decide) (IntKind.i64.wrap (b-1)) (P0 _)) λC a=>?_
 refine trG a (λq=>j6 _ _ n 0 (by decide) (IntKind.i64.wrap (b-1)) (P0 _)) λD a=>?_
 refine trG a (λq=>j6 _ _ m 1 (by decide) _ k) λE a=>?_
 obtain rfl:=oJ a
 exact aI rfl (Sub.refl _)
theorem H04(h:Hp)(o:List Value)(y:O0)(Q:R0.R h o y)(p:List Value)(z:O0)(S:R0.R h p z)(r:Int)(b:E8 y z=some r):
  Tr Tryz.prog 314 #[.agg o.toArray,.agg p.toArray] h λv m=>v = .int .i64 r/\m=h:=by
 obtain⟨d,e,f,rfl,rfl,q,s,t⟩:=M1 Q
 obtain⟨g,i,j,rfl,rfl,u,w,x⟩:=M1 S
 unfold E8 at b
 dsimp only at b
 refine Tr.forget (J2 (args:=[.agg #[.int .i64 d,.int .i64 e,.int .i64 f],.agg #[.int .i64 g,.int .i64 i,.int .i64 j]]) (fn:=Tryz.f314) rfl ?_)
 obtain⟨n,M,b⟩:=C0 b
 refine eX { vars:=[7],boxes:=[],owns:=[],fuel:=true } (eX (λvs os m=>∃ k,vs.tail = [.int .i64 k]/\os = []/\Sub h m/\I0 k/\A7 d e f g i j (P1 vs) k=some n) (eX (λ_ _=>0) (aI (eX U0 ⟨0,rfl,rfl,(Sub.refl _),(by decide),M⟩) ?_)))
 rintro _ l ag ⟨k,⟨⟩,⟨⟩,c,ab,a⟩
 replace a:A7 d e f g i j l k=some n:=a
 obtain _|l:=l
 ·cases a
 rw[A7.eq_2]at a
 refine ifB a (λO a=>?_) λO a=>?_
 ·refine Or.inl (aI (aI (by kernel_rfl) (by kernel_rfl)) ?_)
  obtain⟨ai,J,a⟩:=C0 a
  obtain⟨B,Y,F,U⟩:=K5 (F2.up (r:=Wp.int.toRp) c (show F2 (Wp.int.R h) ([[.int .i64 d],[.int .i64 e],[.int .i64 f]]:List (List Value)) [d,e,f] from⟨⟨rfl,q⟩,⟨⟨rfl,s⟩,⟨⟨rfl,t⟩,trivial⟩⟩⟩)) J
  refine aI B ?_
  obtain⟨rfl,ad⟩:=U
  refine eX _ (aI F ?_)
  obtain⟨aj,K,a⟩:=C0 a
  obtain⟨C,Z,G,V⟩:=K5 (F2.up (r:=Wp.int.toRp) c (show F2 (Wp.int.R h) ([[.int .i64 g],[.int .i64 i],[.int .i64 j]]:List (List Value)) [g,i,j] from⟨⟨rfl,u⟩,⟨⟨rfl,w⟩,⟨⟨rfl,x⟩,trivial⟩⟩⟩)) K
  refine aI C ?_
  obtain⟨rfl,ae⟩:=V
  refine eX _ (aI G ?_)
  refine ifB a (λP a=>?_) λP a=>?_
  ·obtain rfl:=oJ a
   try dsimp only[j4,L4]at b
   obtain rfl:=oJ b
   exact aI rfl c
  ·refine Or.inl (aI (aI (by kernel_rfl) (by kernel_rfl)) ?_)
   obtain⟨ak,L,a⟩:=C0 a
   obtain⟨D,aa,H,W⟩:=K5 (F2.up (r:=Wp.int.toRp) c (show F2 (Wp.int.R h) ([[.int .i64 d],[.int .i64 e],[.int .i64 f]]:List (List Value)) [d,e,f] from⟨⟨rfl,q⟩,⟨⟨rfl,s⟩,⟨⟨rfl,t⟩,trivial⟩⟩⟩)) L
   refine aI D ?_
   obtain⟨rfl,af⟩:=W
   refine eX _ (aI H ?_)
   obtain⟨ah,I,a⟩:=C0 a
   obtain⟨A,X,E,T⟩:=K5 (F2.up (r:=Wp.int.toRp) c (show F2 (Wp.int.R h) ([[.int .i64 g],[.int .i64 i],[.int .i64 j]]:List (List Value)) [g,i,j] from⟨⟨rfl,u⟩,⟨⟨rfl,w⟩,⟨⟨rfl,x⟩,trivial⟩⟩⟩)) I
   refine aI A ?_
   obtain⟨rfl,ac⟩:=T
   refine eX _ (aI E ?_)
   refine ifB a (λN a=>?_) λN a=>?_
   ·obtain rfl:=oJ a
    try dsimp only[j4,L4]at b
    obtain rfl:=oJ b
    exact aI rfl c
   ·exact C2 l ⟨(IntKind.i64.wrap (k+1)),rfl,rfl,c,(P0 _),a⟩
 ·obtain rfl:=oJ a
  try dsimp only[V0,Z0]at b
  obtain rfl:=oJ b
  exact aI rfl c
theorem H7(h:Hp)(m:List Value)(u:l0)(O:Y0.R h m u)(r:Bool)(b:M4 u=some r):
  Tr Tryz.prog 312 #[.agg m.toArray] h λv g=>v = .bool r/\g=h:=by
 obtain⟨i,j,w,ab,x,k,rfl,rfl,p,s,e⟩:=B0 O
 obtain⟨rfl,aa⟩:=Sl.len e
 unfold M4 at b
 dsimp only at b
 refine Tr.forget (J2 (args:=[.agg #[.int .i64 i,.int .i64 j,.slice w k.length x]]) (fn:=Tryz.f312) rfl ?_)
 obtain⟨l,C,b⟩:=C0 b
 refine eX { vars:=[3],boxes:=[],owns:=[],fuel:=true } (eX (λvs os g=>∃ d,vs.tail = [.int .i64 d]/\os = []/\Sub h g/\I0 d/\Q7 k i j (P1 vs) d=some l) (eX (λ_ _=>0) (aI (eX U0 ⟨0,rfl,rfl,(Sub.refl _),(by decide),C⟩) ?_)))
 rintro _ f t ⟨d,⟨⟩,⟨⟩,c,Y,a⟩
 replace a:Q7 k i j f d=some l:=a
 obtain _|f:=f
 ·cases a
 rw[Q7.eq_2]at a
 refine ifB a (λE a=>?_) λE a=>?_
 ·refine Or.inl (aI (aI (by kernel_rfl) (by kernel_rfl)) ?_)
  refine ld a (D0.mono c e) λaf V P a=>?_
  obtain⟨ag,ah,ai,rfl,rfl,F,G,H⟩:=M1 P
  try dsimp only at a
  obtain⟨U,z,a⟩:=C0 a
  refine eX (.bool U) (aI (p0g _ _ _ (z0 p s (D0.mono c e)) _ _ (E1 F G H) _  z) ?_)
  obtain⟨aj,A,a⟩:=C0 a
  obtain⟨W,n,Q⟩:=Sl.getG (r:=R0.toRp) (D0.mono c e) A (by decide) (l08 t)
  refine aI (λq=>(n q).1) ?_
  obtain⟨ak,al,am,rfl,rfl,I,J,K⟩:=M1 Q
  try dsimp only at a
  refine eX _ (aI (λq=>(n q).2) ?_)
  obtain⟨an,B,a⟩:=C0 a
  obtain⟨X,o,S⟩:=Sl.getG (r:=R0.toRp) (D0.mono c e) B (by decide) (l08 t)
  refine aI (λq=>(o q).1) ?_
  obtain⟨ao,ap,aq,rfl,rfl,L,M,N⟩:=M1 S
  try dsimp only at a
  refine eX _ (aI (λq=>(o q).2) ?_)
  refine trG a (λq=>H04 _ _ _ (E1 I J K) _ _ (E1 L M N)) λT a=>?_
  obtain⟨ac,y,a⟩:=C0 a
  have Z:I0 T:=K1 y
  refine ifB a (λD a=>?_) λD a=>?_
  ·obtain rfl:=oJ a
   try dsimp only[j4,L4]at b
   obtain rfl:=oJ b
   exact aI rfl c
  ·exact C2 f ⟨(IntKind.i64.wrap (d+1)),rfl,rfl,c,(P0 _),a⟩
 ·obtain rfl:=oJ a
  try dsimp only[V0,Z0]at b
  refine trV b (j6 _ _ p 1 (by decide) 3 (by decide)) λad b=>?_
  refine trG b (λq=>j6 _ _ s 1 (by decide) 40 (by decide)) λae b=>?_
  obtain rfl:=oJ b
  exact aI rfl c
theorem k01(h:Hp)(c:List Value)(d:l0)(m:Y0.R h c d)(b:Int)(j:I0 b)(r:Bool)(a:I4 d b=some r):
  Tr Tryz.prog 290 #[.agg c.toArray,.int .i64 b] h λv i=>v = .bool r/\i=h:=by
 obtain⟨k,e,f,s,g,l,rfl,rfl,o,p,n⟩:=B0 m
 obtain⟨rfl,q⟩:=Sl.len n
 unfold I4 at a
 dsimp only at a
 refine Tr.forget (J2 (args:=[.agg #[.int .i64 k,.int .i64 e,.slice f l.length g],.int .i64 b]) (fn:=Tryz.f290) rfl ?_)
 refine trV a (V9 _ _ j 0 (by decide) (IntKind.i64.wrap (e-1)) (P0 _)) λt a=>?_
 obtain rfl:=oJ a
 exact aI rfl (Sub.refl _)
theorem D08(h:Hp)(d:List Value)(g:l0)(y:Y0.R h d g)(e:List Value)(i:O0)(z:R0.R h e i)(r:Bool)(a:n9 g i=some r):
  Tr Tryz.prog 337 #[.agg d.toArray,.agg e.toArray] h λv l=>v = .bool r/\l=h:=by
 obtain⟨p,s,j,B,k,t,rfl,rfl,b,f,c⟩:=B0 y
 obtain⟨rfl,A⟩:=Sl.len c
 obtain⟨u,w,x,rfl,rfl,m,n,o⟩:=M1 z
 unfold n9 at a
 dsimp only at a
 refine Tr.forget (J2 (args:=[.agg #[.int .i64 p,.int .i64 s,.slice j t.length k],.agg #[.int .i64 u,.int .i64 w,.int .i64 x]]) (fn:=Tryz.f337) rfl ?_)
 refine trV a (k01 _ _ _ (z0 b f c) _ m) λC a=>?_
 refine trG a (λq=>k01 _ _ _ (z0 b f c) _ o) λD a=>?_
 refine trG a (λq=>V9 _ _ n 1 (by decide) _ b) λE a=>?_
 obtain rfl:=oJ a
 exact aI rfl (Sub.refl _)
theorem I04(h:Hp)(b:List Value)(d:O0)(A:R0.R h b d)(c:List Value)(e:O0)(B:R0.R h c e)(r:Int)(a:L9 d e=some r):
  Tr Tryz.prog 316 #[.agg b.toArray,.agg c.toArray] h λv j=>v = .int .i64 r/\j=h:=by
 obtain⟨t,u,w,rfl,rfl,m,n,o⟩:=M1 A
 obtain⟨x,y,z,rfl,rfl,p,q,s⟩:=M1 B
 unfold L9 at a
 dsimp only at a
 refine Tr.forget (J2 (args:=[.agg #[.int .i64 t,.int .i64 u,.int .i64 w],.agg #[.int .i64 x,.int .i64 y,.int .i64 z]]) (fn:=Tryz.f316) rfl ?_)
 refine trV a (p03 _ _ m _ p) λC a=>?_
 obtain⟨I,f,a⟩:=C0 a
 have F:I0 C:=K1 f
 refine ifB a (λk a=>?_) λk a=>?_
 ·obtain rfl:=oJ a
  exact aI rfl (Sub.refl _)
 ·refine trV a (p03 _ _ n _ q) λD a=>?_
  obtain⟨J,g,a⟩:=C0 a
  have G:I0 D:=K1 g
  refine ifB a (λl a=>?_) λl a=>?_
  ·obtain rfl:=oJ a
   exact aI rfl (Sub.refl _)
  ·refine trV a (p03 _ _ o _ s) λE a=>?_
   obtain⟨K,i,a⟩:=C0 a
   have H:I0 E:=K1 i
   obtain rfl:=oJ a
   exact aI rfl (Sub.refl _)
theorem l01(h:Hp)(m:List Value)(w:l0)(K:Y0.R h m w)(r:Bool)(b:F7 w=some r):
  Tr Tryz.prog 300 #[.agg m.toArray] h λv g=>v = .bool r/\g=h:=by
 obtain⟨i,j,x,V,y,k,rfl,rfl,o,p,f⟩:=B0 K
 obtain⟨rfl,U⟩:=Sl.len f
 unfold F7 at b
 dsimp only at b
 refine Tr.forget (J2 (args:=[.agg #[.int .i64 i,.int .i64 j,.slice x k.length y]]) (fn:=Tryz.f300) rfl ?_)
 refine trV b (V9 _ _ o 1 (by decide) 3 (by decide)) λX b=>?_
 refine trG b (λq=>V9 _ _ p 1 (by decide) 40 (by decide)) λac b=>?_
 refine ifB b (λE b=>?_) λE b=>?_
 ·obtain rfl:=oJ b
  exact aI rfl (Sub.refl _)
 ·obtain⟨l,C,b⟩:=C0 b
  refine eX { vars:=[24],boxes:=[],owns:=[],fuel:=true } (eX (λvs os g=>∃ d,vs.tail = [.int .i64 d]/\os = []/\Sub h g/\I0 d/\R7 k i j (P1 vs) d=some l) (eX (λ_ _=>0) (aI (eX U0 ⟨0,rfl,rfl,(Sub.refl _),(by decide),C⟩) ?_)))
  rintro _ e J ⟨d,⟨⟩,⟨⟩,c,S,a⟩
  replace a:R7 k i j e d=some l:=a
  obtain _|e:=e
  ·cases a
  rw[R7.eq_2]at a
  refine ifB a (λF a=>?_) λF a=>?_
  ·refine ld a (D0.mono c f) λad Q M a=>?_
   obtain⟨ae,af,ag,rfl,rfl,s,t,u⟩:=M1 M
   try dsimp only at a
   refine Or.inl (aI (aI (by kernel_rfl) (by kernel_rfl)) ?_)
   obtain⟨N,A,a⟩:=C0 a
   refine eX (.bool N) (aI (D08 _ _ _ (z0 o p (D0.mono c f)) _ _ (E1 s t u) _  A) ?_)
   obtain⟨Y,B,a⟩:=C0 a
   obtain⟨P,n,L⟩:=Sl.getG (r:=R0.toRp) (D0.mono c f) B (by decide) (l08 J)
   refine aI (λq=>(n q).1) ?_
   obtain⟨Z,aa,ab,rfl,rfl,G,H,I⟩:=M1 L
   try dsimp only at a
   refine eX _ (aI (λq=>(n q).2) ?_)
   refine trG a (λq=>I04 _ _ _ (E1 G H I) _ _ (E1 s t u)) λO a=>?_
   obtain⟨W,z,a⟩:=C0 a
   have T:I0 O:=K1 z
   refine ifB a (λD a=>?_) λD a=>?_
   ·obtain rfl:=oJ a
    try dsimp only[j4,L4]at b
    obtain rfl:=oJ b
    exact aI rfl c
   ·exact C2 e ⟨(IntKind.i64.wrap (d+1)),rfl,rfl,c,(P0 _),a⟩
  ·obtain rfl:=oJ a
   try dsimp only[V0,Z0]at b
   obtain rfl:=oJ b
   exact aI rfl c
theorem M02(h:Hp)(w:Option Addr)(G x:Nat)(t:J0)(k:M0.R h [.slice w G x] t)(b:Int)(g:I0 b)(r:J0)(f:b9 t b=some r):
  Tr Tryz.prog 336 #[.slice w G x,.int .i64 b] h λv s=>∃(z:Option Addr) (F A:Nat),v = .slice z F A/\M0.R s [.slice z F A] r/\Sub h s:=by
 obtain⟨rfl,al⟩:=Sl.len k
 unfold b9 at f
 refine J2 (args:=[.slice w t.length x,.int .i64 b]) (fn:=Tryz.f336) rfl ?_
 obtain⟨y,V,f⟩:=C0 f
 refine eX { vars:=[6,7],boxes:=[],owns:=[0],fuel:=true } (eX (λvs os s=>∃ u j m i,vs.tail = [.bool u,.int .i64 j]/\os = [m]/\Sub h s/\I0 j/\F2 (Wp.int.R s) m i/\N4 t b (P1 vs) u j i=some y) (eX (λ_ _=>0) (aI (eX U0 ⟨false,0,[],([]:J0),rfl,rfl,(Sub.refl _),(by decide),(show F2 (Wp.int.R h) ([]:List (List Value)) ([]:J0) from trivial),V⟩) ?_)))
 rintro _ _ m l d ⟨u,j,aC,i,⟨⟩,⟨⟩,e,af,c,a⟩
 replace a:N4 t b l u j i=some y:=a
 obtain _|l:=l
 ·cases a
 rw[N4.eq_2]at a
 refine ifB a (λZ a=>?_) λZ a=>?_
 ·refine ldI a (M0.mono e k) λaB ai a=>?_
  refine ifB a (λaa a=>?_) λaa a=>?_
  ·refine ldI a (M0.mono e k) λaz ag a=>?_
   refine ifB a (λW a=>?_) λW a=>?_
   ·obtain⟨ao,N,a⟩:=C0 a
    refine aI (T1 N (by first|rw[F2.length c,F2.length (show F2 (Wp.int.R d) ([[.int .i64 b]]:List (List Value)) [b] from⟨⟨rfl,g⟩,trivial⟩)]|exact congrArg (·+1) (F2.length c))) ?_
    refine ldI a (M0.mono e k) λn B a=>?_
    obtain⟨ap,O,a⟩:=C0 a
    refine aI (T1 O (by first|rw[F2.length (F2.append c (show F2 (Wp.int.R d) ([[.int .i64 b]]:List (List Value)) [b] from⟨⟨rfl,g⟩,trivial⟩)),F2.length (show F2 (Wp.int.R d) ([[.int .i64 n]]:List (List Value)) [n] from⟨⟨rfl,B⟩,trivial⟩)]|exact congrArg (·+1) (F2.length (F2.append c (show F2 (Wp.int.R d) ([[.int .i64 b]]:List (List Value)) [b] from⟨⟨rfl,g⟩,trivial⟩))))) ?_
    exact C2 l ⟨true,(IntKind.i64.wrap (j+1)),((m++([[.int .i64 b]]:List (List Value)))++([[.int .i64 n]]:List (List Value))),((i ++ [b]) ++ [n]),rfl,rfl,e,(P0 _),(F2.append (F2.append c (show F2 (Wp.int.R d) ([[.int .i64 b]]:List (List Value)) [b] from⟨⟨rfl,g⟩,trivial⟩)) (show F2 (Wp.int.R d) ([[.int .i64 n]]:List (List Value)) [n] from⟨⟨rfl,B⟩,trivial⟩)),a⟩
   ·refine ldI a (M0.mono e k) λo C a=>?_
    obtain⟨aq,P,a⟩:=C0 a
    refine aI (T1 P (by first|rw[F2.length c,F2.length (show F2 (Wp.int.R d) ([[.int .i64 o]]:List (List Value)) [o] from⟨⟨rfl,C⟩,trivial⟩)]|exact congrArg (·+1) (F2.length c))) ?_
    exact C2 l ⟨true,(IntKind.i64.wrap (j+1)),(m++([[.int .i64 o]]:List (List Value))),(i ++ [o]),rfl,rfl,e,(P0 _),(F2.append c (show F2 (Wp.int.R d) ([[.int .i64 o]]:List (List Value)) [o] from⟨⟨rfl,C⟩,trivial⟩)),a⟩
  ·refine ldI a (M0.mono e k) λaA ah a=>?_
   refine ifB a (λX a=>?_) λX a=>?_
   ·obtain⟨ar,Q,a⟩:=C0 a
    refine aI (T1 Q (by first|rw[F2.length c,F2.length (show F2 (Wp.int.R d) ([[.int .i64 b]]:List (List Value)) [b] from⟨⟨rfl,g⟩,trivial⟩)]|exact congrArg (·+1) (F2.length c))) ?_
    refine ldI a (M0.mono e k) λp D a=>?_
    obtain⟨au,S,a⟩:=C0 a
    refine aI (T1 S (by first|rw[F2.length (F2.append c (show F2 (Wp.int.R d) ([[.int .i64 b]]:List (List Value)) [b] from⟨⟨rfl,g⟩,trivial⟩)),F2.length (show F2 (Wp.int.R d) ([[.int .i64 p]]:List (List Value)) [p] from⟨⟨rfl,D⟩,trivial⟩)]|exact congrArg (·+1) (F2.length (F2.append c (show F2 (Wp.int.R d) ([[.int .i64 b]]:List (List Value)) [b] from⟨⟨rfl,g⟩,trivial⟩))))) ?_
    exact C2 l ⟨true,(IntKind.i64.wrap (j+1)),((m++([[.int .i64 b]]:List (List Value)))++([[.int .i64 p]]:List (List Value))),((i ++ [b]) ++ [p]),rfl,rfl,e,(P0 _),(F2.append (F2.append c (show F2 (Wp.int.R d) ([[.int .i64 b]]:List (List Value)) [b] from⟨⟨rfl,g⟩,trivial⟩)) (show F2 (Wp.int.R d) ([[.int .i64 p]]:List (List Value)) [p] from⟨⟨rfl,D⟩,trivial⟩)),a⟩
   ·refine ldI a (M0.mono e k) λq E a=>?_
    obtain⟨av,T,a⟩:=C0 a
    refine aI (T1 T (by first|rw[F2.length c,F2.length (show F2 (Wp.int.R d) ([[.int .i64 q]]:List (List Value)) [q] from⟨⟨rfl,E⟩,trivial⟩)]|exact congrArg (·+1) (F2.length c))) ?_
    exact C2 l ⟨u,(IntKind.i64.wrap (j+1)),(m++([[.int .i64 q]]:List (List Value))),(i ++ [q]),rfl,rfl,e,(P0 _),(F2.append c (show F2 (Wp.int.R d) ([[.int .i64 q]]:List (List Value)) [q] from⟨⟨rfl,E⟩,trivial⟩)),a⟩
 ·obtain rfl:=oJ a
  try dsimp only[V0,Z0]at f
  refine ifB f (λY f=>?_) λY f=>?_
  ·obtain⟨aw,U,f⟩:=C0 f
   refine aI (T1 U (by first|rw[F2.length c,F2.length (show F2 (Wp.int.R d) ([[.int .i64 b]]:List (List Value)) [b] from⟨⟨rfl,g⟩,trivial⟩)]|exact congrArg (·+1) (F2.length c))) ?_
   intro ax aj L
   obtain⟨H,J,rfl,ab,ad,am⟩:=H1.out (r:=Wp.int.toRp) L (F2.append c (show F2 (Wp.int.R d) ([[.int .i64 b]]:List (List Value)) [b] from⟨⟨rfl,g⟩,trivial⟩))
   obtain rfl:=oJ f
   exact⟨H,((i ++ [b])).length,J,rfl,ab,(e.trans ad)⟩
  ·intro ay ak M
   obtain⟨I,K,rfl,ac,ae,an⟩:=H1.out (r:=Wp.int.toRp) M c
   obtain rfl:=oJ f
   exact⟨I,i.length,K,rfl,ac,(e.trans ae)⟩
theorem N02(h:Hp)(i:Option Addr)(m j:Nat)(e:J0)(n:M0.R h [.slice i m j] e)(c:Int)(s:I0 c)(r:Bool)(b:c9 e c=some r):
  Tr Tryz.prog 246 #[.slice i m j,.int .i64 c] h λv k=>v = .bool r/\k=h:=by
 obtain⟨rfl,x⟩:=Sl.len n
 unfold c9 at b
 refine Tr.forget (J2 (args:=[.slice i e.length j,.int .i64 c]) (fn:=Tryz.f246) rfl ?_)
 obtain⟨l,o,b⟩:=C0 b
 refine eX { vars:=[5],boxes:=[],owns:=[],fuel:=true } (eX (λvs os k=>∃ d,vs.tail = [.int .i64 d]/\os = []/\Sub h k/\I0 d/\o9 e c (P1 vs) d=some l) (eX (λ_ _=>0) (aI (eX U0 ⟨0,rfl,rfl,(Sub.refl _),(by decide),o⟩) ?_)))
 rintro _ f w ⟨d,⟨⟩,⟨⟩,g,t,a⟩
 replace a:o9 e c f d=some l:=a
 obtain _|f:=f
 ·cases a
 rw[o9.eq_2]at a
 refine ifB a (λp a=>?_) λp a=>?_
 ·refine ldI a (M0.mono g n) λy u a=>?_
  refine ifB a (λq a=>?_) λq a=>?_
  ·obtain rfl:=oJ a
   try dsimp only[j4,L4]at b
   obtain rfl:=oJ b
   exact aI rfl g
  ·exact C2 f ⟨(IntKind.i64.wrap (d+1)),rfl,rfl,g,(P0 _),a⟩
 ·obtain rfl:=oJ a
  try dsimp only[V0,Z0]at b
  obtain rfl:=oJ b
  exact aI rfl g
theorem D0c(h:Hp)(u:List Value)(y:l0)(Z:Y0.R h u y)(f:Int)(ai:I0 f)(g:Int)(aj:I0 g)(r:J0)(e:W00 y f g=some r):
  Tr Tryz.prog 297 #[.agg u.toArray,.int .i64 f,.int .i64 g] h λv l=>∃(s:Option Addr) (x t:Nat),v = .slice s x t/\M0.R l [.slice s x t] r/\Sub h l:=by
 obtain⟨X,Y,G,az,L,o,rfl,rfl,ag,ah,z⟩:=B0 Z
 obtain⟨rfl,ar⟩:=Sl.len z
 unfold W00 at e
 dsimp only at e
 refine J2 (args:=[.agg #[.int .i64 X,.int .i64 Y,.slice G o.length L],.int .i64 f,.int .i64 g]) (fn:=Tryz.f297) rfl ?_
 obtain⟨q,Q,e⟩:=C0 e
 refine eX { vars:=[7,8],boxes:=[],owns:=[],fuel:=true,pubs:=[7,10] } (eX (λvs os l=>∃(j:Option Addr) (n k:Nat) (d:J0) (b:Int),vs.tail = [.slice j n k,.int .i64 b]/\os = []/\Sub h l/\M0.R l [.slice j n k] d/\I0 b/\D4 o g f (P1 vs) d b=some q) (eX (λ_ _=>0) ?_))
 intro aD ao f3
 obtain⟨K,P,rfl,ab,ae,ay⟩:=H1.out (r:=Wp.int.toRp) f3 (show F2 (Wp.int.R h) ([]:List (List Value)) ([]:J0) from trivial)
 refine aI (eX U0 ⟨K,(([]:J0)).length,P,([]:J0),0,rfl,rfl,ae,ab,(by decide),Q⟩) ?_
 rintro _ _ c aq ⟨j,n,k,d,b,⟨⟩,⟨⟩,i,m,ak,a⟩
 replace a:D4 o g f c d b=some q:=a
 obtain _|c:=c
 ·cases a
 rw[D4.eq_2]at a
 obtain⟨rfl,au⟩:=Sl.len m
 refine ifB a (λS a=>?_) λS a=>?_
 ·refine ld a (D0.mono i z) λaH af aa a=>?_
  obtain⟨aJ,aK,aL,rfl,rfl,w,al,W⟩:=M1 aa
  try dsimp only at a
  refine ifB a (λT a=>?_) λT a=>?_
  ·refine trM a (M02 _ _ _ _ _ m _ W) ?_
   rintro D a aE am ⟨H,aA,M,rfl,p,C⟩
   obtain⟨rfl,av⟩:=Sl.len p
   refine ifB a (λU a=>?_) λU a=>?_
   ·refine trM a (M02 _ _ _ _ _ p _ w) ?_
    rintro E a aF an ⟨I,aB,N,rfl,A,ac⟩
    obtain⟨rfl,aw⟩:=Sl.len A
    exact C2 c ⟨I,E.length,N,E,(IntKind.i64.wrap (b+1)),rfl,rfl,((i.trans C).trans ac),A,(P0 _),a⟩
   ·exact C2 c ⟨H,D.length,M,D,(IntKind.i64.wrap (b+1)),rfl,rfl,(i.trans C),p,(P0 _),a⟩
  ·refine ifB a (λV a=>?_) λV a=>?_
   ·refine trM a (M02 _ _ _ _ _ m _ w) ?_
    rintro F a aG ap ⟨J,aC,O,rfl,B,ad⟩
    obtain⟨rfl,ax⟩:=Sl.len B
    exact C2 c ⟨J,F.length,O,F,(IntKind.i64.wrap (b+1)),rfl,rfl,(i.trans ad),B,(P0 _),a⟩
   ·exact C2 c ⟨j,d.length,k,d,(IntKind.i64.wrap (b+1)),rfl,rfl,i,m,(P0 _),a⟩
 ·obtain rfl:=oJ a
  try dsimp only[V0,Z0]at e
  obtain rfl:=oJ e
  exact⟨j,d.length,k,rfl,m,i⟩
theorem w6(h:Hp)(d:List Value)(e:l0)(w:Y0.R h d e)(b:Int)(p:I0 b)(c:Int)(q:I0 c)(r:Int)(a:O3 e b c=some r):
  Tr Tryz.prog 214 #[.agg d.toArray,.int .i64 b,.int .i64 c] h λv l=>v = .int .i64 r/\l=h:=by
 obtain⟨s,t,j,D,k,u,rfl,rfl,n,o,f⟩:=B0 w
 obtain⟨rfl,B⟩:=Sl.len f
 unfold O3 at a
 dsimp only at a
 refine Tr.forget (J2 (args:=[.agg #[.int .i64 s,.int .i64 t,.slice j u.length k],.int .i64 b,.int .i64 c]) (fn:=Tryz.f214) rfl ?_)
 refine trM a (D0c _ _ _ (z0 n o f) _ p _ q) ?_
 rintro G a F A ⟨x,E,y,rfl,g,i⟩
 obtain⟨rfl,C⟩:=Sl.len g
 refine ifB a (λm a=>?_) λm a=>?_
 ·obtain rfl:=oJ a
  exact aI rfl i
 ·refine ldI a g λH z a=>?_
  obtain rfl:=oJ a
  exact aI rfl i
theorem L7(h:Hp)(s:List Value)(w:l0)(F:Y0.R h s w)(r:Bool)(c:J4 w=some r):
  Tr Tryz.prog 293 #[.agg s.toArray] h λv f=>v = .bool r/\f=h:=by
 obtain⟨m,n,x,V,y,g,rfl,rfl,t,u,i⟩:=B0 F
 obtain⟨rfl,U⟩:=Sl.len i
 unfold J4 at c
 dsimp only at c
 refine Tr.forget (J2 (args:=[.agg #[.int .i64 m,.int .i64 n,.slice x g.length y]]) (fn:=Tryz.f293) rfl ?_)
 obtain⟨o,z,c⟩:=C0 c
 refine eX { vars:=[3],boxes:=[],owns:=[],fuel:=true } (eX (λvs os f=>∃ d,vs.tail = [.int .i64 d]/\os = []/\Sub h f/\I0 d/\H5 g m n (P1 vs) d=some o) (eX (λ_ _=>0) (aI (eX U0 ⟨0,rfl,rfl,(Sub.refl _),(by decide),z⟩) ?_)))
 rintro _ l E ⟨d,⟨⟩,⟨⟩,e,K,b⟩
 replace b:H5 g m n l d=some o:=b
 obtain _|l:=l
 ·cases b
 rw[H5.eq_2]at b
 refine trG b (λq=>H7 _ _ _ (z0 t u (D0.mono e i))) λaf b=>?_
 refine ifB b (λD b=>?_) λD b=>?_
 ·obtain⟨p,A,b⟩:=C0 b
  refine eX { vars:=[4],boxes:=[],owns:=[],fuel:=true } (eX (λvs os f=>∃ u8,vs.tail = [.int .i64 u8]/\os = []/\Sub E f/\I0 u8/\n7 d g (P1 vs) u8=some p) (eX (λ_ _=>0) (aI (eX U0 ⟨0,rfl,rfl,(Sub.refl _),(by decide),A⟩) ?_)))
  rintro _ k T ⟨u8,⟨⟩,⟨⟩,j,L,a⟩
  replace a:n7 d g k u8=some p:=a
  obtain _|k:=k
  ·cases a
  rw[n7.eq_2]at a
  refine ifB a (λB a=>?_) λB a=>?_
  ·refine ld a (D0.mono (e.trans j) i) λW I G a=>?_
   obtain⟨X,Y,Z,rfl,rfl,M,N,O⟩:=M1 G
   try dsimp only at a
   refine ld a (D0.mono (e.trans j) i) λaa J H a=>?_
   obtain⟨ab,ac,ad,rfl,rfl,P,Q,S⟩:=M1 H
   try dsimp only at a
   refine ifB a (λC a=>?_) λC a=>?_
   ·obtain rfl:=oJ a
    try dsimp only[j4,L4]at b
    obtain rfl:=oJ b
    try dsimp only[j4,L4]at c
    obtain rfl:=oJ c
    exact aI rfl (e.trans j)
   ·exact C2 k ⟨(IntKind.i64.wrap (u8+1)),rfl,rfl,j,(P0 _),a⟩
  ·obtain rfl:=oJ a
   try dsimp only[V0,Z0]at b
   exact C2 l ⟨(IntKind.i64.wrap (d+1)),rfl,rfl,(e.trans j),(P0 _),b⟩
 ·obtain rfl:=oJ b
  try dsimp only[V0,Z0]at c
  refine trV c (H7 _ _ _ (z0 t u (D0.mono e i))) λae c=>?_
  obtain rfl:=oJ c
  exact aI rfl e
theorem D04(h:Hp)(u:List Value)(A:l0)(N:Y0.R h u A)(d:Int)(y:I0 d)(k:Option Addr)(z l:Nat)(e:J0)(B:M0.R h [.slice k z l] e)(r:Int×Bool)(b:I9 A d e=some r):
  Tr Tryz.prog 217 #[.agg u.toArray,.int .i64 d,.slice k z l] h λv m=>v = .tuple #[.int .i64 r.1,.bool r.2]/\m=h:=by
 obtain⟨n,j,C,T,D,o,rfl,rfl,w,x,p⟩:=B0 N
 obtain⟨rfl,Q⟩:=Sl.len p
 obtain⟨rfl,S⟩:=Sl.len B
 unfold I9 at b
 dsimp only at b
 refine Tr.forget (J2 (args:=[.agg #[.int .i64 n,.int .i64 j,.slice C o.length D],.int .i64 d,.slice k e.length l]) (fn:=Tryz.f217) rfl ?_)
 refine trV b (L7 _ _ _ (z0 w x p)) λV b=>?_
 refine trG b (λq=>j6 _ _ y 0 (by decide) (IntKind.i64.wrap (j-1)) (P0 _)) λX b=>?_
 refine ifB b (λI b=>?_) λI b=>?_
 ·obtain rfl:=oJ b
  exact aI rfl (Sub.refl _)
 ·obtain⟨t,G,b⟩:=C0 b
  refine eX { vars:=[1,8],boxes:=[],owns:=[],fuel:=true } (eX (λvs os m=>∃ g c,vs.tail = [.int .i64 g,.int .i64 c]/\os = []/\Sub h m/\I0 g/\I0 c/\o7 e n j o (P1 vs) g c=some t) (eX (λ_ _=>0) (aI (eX U0 ⟨d,0,rfl,rfl,(Sub.refl _),y,(by decide),G⟩) ?_)))
  rintro _ _ i P ⟨g,c,⟨⟩,⟨⟩,f,K,O,a⟩
  replace a:o7 e n j o i g c=some t:=a
  obtain _|i:=i
  ·cases a
  rw[o7.eq_2]at a
  refine ifB a (λJ a=>?_) λJ a=>?_
  ·refine Or.inl (aI (aI (by kernel_rfl) (by kernel_rfl)) ?_)
   refine ldI a (M0.mono f B) λW L a=>?_
   obtain⟨s,F,a⟩:=C0 a
   refine eX (.int .i64 s) (aI (w6 _ _ _ (z0 w x (D0.mono f p)) _ K _ L _  F) ?_)
   obtain⟨U,E,a⟩:=C0 a
   have M:I0 s:=K1 E
   refine ifB a (λH a=>?_) λH a=>?_
   ·obtain rfl:=oJ a
    try dsimp only[j4,L4]at b
    obtain rfl:=oJ b
    exact aI rfl f
   ·exact C2 i ⟨s,(IntKind.i64.wrap (c+1)),rfl,rfl,f,M,(P0 _),a⟩
  ·obtain rfl:=oJ a
   try dsimp only[V0,Z0]at b
   obtain rfl:=oJ b
   exact aI rfl f
theorem E0c(h:Hp)(u:List Value)(B:l0)(U:Y0.R h u B)(g:Int)(ab:I0 g)(i:Int)(ac:I0 i)(r:J0)(c:X00 B g i=some r):
  Tr Tryz.prog 286 #[.agg u.toArray,.int .i64 g,.int .i64 i] h λv n=>∃(s:Option Addr) (A t:Nat),v = .slice s A t/\New M0 h n [.slice s A t] r:=by
 obtain⟨S,T,F,al,H,p,rfl,rfl,Z,aa,E⟩:=B0 U
 obtain⟨rfl,ai⟩:=Sl.len E
 unfold X00 at c
 dsimp only at c
 refine J2 (args:=[.agg #[.int .i64 S,.int .i64 T,.slice F p.length H],.int .i64 g,.int .i64 i]) (fn:=Tryz.f286) rfl ?_
 obtain⟨q,N,c⟩:=C0 c
 refine eX { vars:=[14],boxes:=[],owns:=[0],fuel:=true } (eX (λvs os n=>∃ d j e,vs.tail = [.int .i64 d]/\os = [j]/\Sub h n/\I0 d/\F2 (Wp.int.R n) j e/\c5 p i g (P1 vs) d e=some q) (eX (λ_ _=>0) (aI (eX U0 ⟨0,[],([]:J0),rfl,rfl,(Sub.refl _),(by decide),(show F2 (Wp.int.R h) ([]:List (List Value)) ([]:J0) from trivial),N⟩) ?_)))
 rintro _ j f o ⟨d,aA,e,⟨⟩,⟨⟩,m,ad,b,a⟩
 replace a:c5 p i g f d e=some q:=a
 obtain _|f:=f
 ·cases a
 rw[c5.eq_2]at a
 refine ifB a (λP a=>?_) λP a=>?_
 ·refine ld a (D0.mono m E) λay X V a=>?_
  obtain⟨k,az,l,rfl,rfl,y,ae,z⟩:=M1 V
  try dsimp only at a
  refine ifB a (λQ a=>?_) λQ a=>?_
  ·obtain⟨ao,M,a⟩:=C0 a
   refine aI (T1 M (by first|rw[F2.length b,F2.length (show F2 (Wp.int.R o) ([[.int .i64 l]]:List (List Value)) [l] from⟨⟨rfl,z⟩,trivial⟩)]|exact congrArg (·+1) (F2.length b))) ?_
   exact C2 f ⟨(IntKind.i64.wrap (d+1)),(j++([[.int .i64 l]]:List (List Value))),(e ++ [l]),rfl,rfl,m,(P0 _),(F2.append b (show F2 (Wp.int.R o) ([[.int .i64 l]]:List (List Value)) [l] from⟨⟨rfl,z⟩,trivial⟩)),a⟩
  ·refine ifB a (λO a=>?_) λO a=>?_
   ·obtain⟨am,K,a⟩:=C0 a
    refine aI (T1 K (by first|rw[F2.length b,F2.length (show F2 (Wp.int.R o) ([[.int .i64 k]]:List (List Value)) [k] from⟨⟨rfl,y⟩,trivial⟩)]|exact congrArg (·+1) (F2.length b))) ?_
    exact C2 f ⟨(IntKind.i64.wrap (d+1)),(j++([[.int .i64 k]]:List (List Value))),(e ++ [k]),rfl,rfl,m,(P0 _),(F2.append b (show F2 (Wp.int.R o) ([[.int .i64 k]]:List (List Value)) [k] from⟨⟨rfl,y⟩,trivial⟩)),a⟩
   ·exact C2 f ⟨(IntKind.i64.wrap (d+1)),j,e,rfl,rfl,m,(P0 _),b,a⟩
 ·obtain rfl:=oJ a
  try dsimp only[V0,Z0]at c
  refine Or.inl ?_
  intro av af J
  obtain⟨an,L,c⟩:=C0 c
  refine Tr.mono (g0m _ J b (K1 L)) ?_
  rintro _ ag ⟨rfl,aw,w,C⟩
  obtain⟨W,Y,rfl,ap,ar,aj⟩:=H1.out (r:=Wp.int.toRp) w C
  refine Tr.mono (i0m _ w C) ?_
  rintro _ ah ⟨ax,x,D⟩
  obtain⟨G,I,rfl,aq,au,ak⟩:=H1.out (r:=Wp.int.toRp) x D
  obtain rfl:=oJ c
  exact⟨G,((W03 eqI (B06 A9 e))).length,I,rfl,(New.from (H1.newPlain (r:=Wp.int) x D (S0e _)) m)⟩
theorem z7(h:Hp)(d:List Value)(e:l0)(y:Y0.R h d e)(b:Int)(q:I0 b)(c:Int)(s:I0 c)(r:Int)(a:C4 e b c=some r):
  Tr Tryz.prog 201 #[.agg d.toArray,.int .i64 b,.int .i64 c] h λv m=>v = .int .i64 r/\m=h:=by
 obtain⟨u,w,k,E,l,x,rfl,rfl,o,p,f⟩:=B0 y
 obtain⟨rfl,C⟩:=Sl.len f
 unfold C4 at a
 dsimp only at a
 refine Tr.forget (J2 (args:=[.agg #[.int .i64 u,.int .i64 w,.slice k x.length l],.int .i64 b,.int .i64 c]) (fn:=Tryz.f201) rfl ?_)
 refine trM a (E0c _ _ _ (z0 o p f) _ q _ s) ?_
 rintro H a G t ⟨z,F,A,rfl,j⟩
 have i:Sub h t:=j.sub
 have g:=j.r
 obtain⟨rfl,D⟩:=Sl.len g
 refine ifB a (λn a=>?_) λn a=>?_
 ·obtain rfl:=oJ a
  exact aI rfl i
 ·refine ldI a g λI B a=>?_
  obtain rfl:=oJ a
  exact aI rfl i
theorem K9(h:Hp)(p:List Value)(q:l0)(Q:Y0.R h p q)(r:Bool)(c:R5 q=some r):
  Tr Tryz.prog 219 #[.agg p.toArray] h λv f=>v = .bool r/\f=h:=by
 obtain⟨N,O,y,al,z,m,rfl,rfl,K,L,k⟩:=B0 Q
 obtain⟨rfl,aj⟩:=Sl.len k
 unfold R5 at c
 dsimp only at c
 refine Tr.forget (J2 (args:=[.agg #[.int .i64 N,.int .i64 O,.slice y m.length z]]) (fn:=Tryz.f219) rfl ?_)
 refine trV c (l01 _ _ _ (z0 K L k)) λam c=>?_
 refine ifB c (λH c=>?_) λH c=>?_
 ·obtain rfl:=oJ c
  exact aI rfl (Sub.refl _)
 ·obtain⟨o,E,c⟩:=C0 c
  refine eX { vars:=[13],boxes:=[],owns:=[],fuel:=true } (eX (λvs os f=>∃ e,vs.tail = [.int .i64 e]/\os = []/\Sub h f/\I0 e/\r7 m (P1 vs) e=some o) (eX (λ_ _=>0) (aI (eX U0 ⟨0,rfl,rfl,(Sub.refl _),(by decide),E⟩) ?_)))
  rintro _ j M ⟨e,⟨⟩,⟨⟩,g,ab,a⟩
  replace a:r7 m j e=some o:=a
  obtain _|j:=j
  ·cases a
  rw[r7.eq_2]at a
  refine ifB a (λI a=>?_) λI a=>?_
  ·refine ld a (D0.mono g k) λar Y T a=>?_
   obtain⟨t,u,w,rfl,rfl,af,ag,ah⟩:=M1 T
   try dsimp only at a
   obtain⟨x,C,a⟩:=C0 a
   obtain⟨P,U,A,B⟩:=Sl.cutI (r:=R0.toRp) (D0.mono g k) C
   refine aI P (eX U (aI A ?_))
   intro V J _
   obtain⟨W,Z,rfl,s⟩:=B V J
   have ak:=(Sl.len s).2
   obtain⟨n,D,a⟩:=C0 a
   refine eX { vars:=[24],boxes:=[],owns:=[],fuel:=true } (eX (λvs os f=>∃ d,vs.tail = [.int .i64 d]/\os = []/\Sub M f/\I0 d/\p7 x u t w (P1 vs) d=some n) (eX (λ_ _=>0) (aI (eX U0 ⟨0,rfl,rfl,(Sub.refl _),(by decide),D⟩) ?_)))
   rintro _ i ai ⟨d,⟨⟩,⟨⟩,l,aa,b⟩
   replace b:p7 x u t w i d=some n:=b
   obtain _|i:=i
   ·cases b
   rw[p7.eq_2]at b
   refine ifB b (λF b=>?_) λF b=>?_
   ·refine ld b (D0.mono l s) λan X S b=>?_
    obtain⟨ao,ap,aq,rfl,rfl,ac,ad,ae⟩:=M1 S
    try dsimp only at b
    refine ifB b (λG b=>?_) λG b=>?_
    ·obtain rfl:=oJ b
     try dsimp only[j4,L4]at a
     obtain rfl:=oJ a
     try dsimp only[j4,L4]at c
     obtain rfl:=oJ c
     exact aI rfl (g.trans l)
    ·exact C2 i ⟨(IntKind.i64.wrap (d+1)),rfl,rfl,l,(P0 _),b⟩
   ·obtain rfl:=oJ b
    try dsimp only[V0,Z0]at a
    exact C2 j ⟨(IntKind.i64.wrap (e+1)),rfl,rfl,(g.trans l),(P0 _),a⟩
  ·obtain rfl:=oJ a
   try dsimp only[V0,Z0]at c
   obtain rfl:=oJ c
   exact aI rfl g
theorem X05(h:Hp)(q:List Value)(t:l0)(K:Y0.R h q t)(d:Int)(G:I0 d)(j:Option Addr)(s k:Nat)(e:J0)(w:M0.R h [.slice j s k] e)(r:Int×Int)(b:C9 t d e=some r):
  Tr Tryz.prog 224 #[.agg q.toArray,.int .i64 d,.slice j s k] h λv l=>v = .tuple #[.int .i64 r.1,.int .i64 r.2]/\l=h:=by
 obtain⟨m,n,y,P,z,o,rfl,rfl,E,F,u⟩:=B0 K
 obtain⟨rfl,N⟩:=Sl.len u
 obtain⟨rfl,O⟩:=Sl.len w
 unfold C9 at b
 dsimp only at b
 refine Tr.forget (J2 (args:=[.agg #[.int .i64 m,.int .i64 n,.slice y o.length z],.int .i64 d,.slice j e.length k]) (fn:=Tryz.f224) rfl ?_)
 obtain⟨p,B,b⟩:=C0 b
 refine eX { vars:=[1,13],boxes:=[],owns:=[],fuel:=true } (eX (λvs os l=>∃ g c,vs.tail = [.int .i64 g,.int .i64 c]/\os = []/\Sub h l/\I0 g/\I0 c/\Z5 e m n o (P1 vs) g c=some p) (eX (λ_ _=>0) (aI (eX U0 ⟨d,0,rfl,rfl,(Sub.refl _),G,(by decide),B⟩) ?_)))
 rintro _ _ i M ⟨g,c,⟨⟩,⟨⟩,f,H,L,a⟩
 replace a:Z5 e m n o i g c=some p:=a
 obtain _|i:=i
 ·cases a
 rw[Z5.eq_2]at a
 refine ifB a (λD a=>?_) λD a=>?_
 ·refine ldI a (M0.mono f w) λS I a=>?_
  refine trV a (z7 _ _ _ (z0 E F (D0.mono f u)) _ H _ I) λx a=>?_
  obtain⟨Q,A,a⟩:=C0 a
  have J:I0 x:=K1 A
  refine ifB a (λC a=>?_) λC a=>?_
  ·obtain rfl:=oJ a
   try dsimp only[j4,L4]at b
   obtain rfl:=oJ b
   exact aI rfl f
  ·exact C2 i ⟨x,(IntKind.i64.wrap (c+1)),rfl,rfl,f,J,(P0 _),a⟩
 ·obtain rfl:=oJ a
  try dsimp only[V0,Z0]at b
  obtain rfl:=oJ b
  exact aI rfl f
theorem n5(h:Hp)(d:List Value)(f:l0)(w:Y0.R h d f)(r:l0)(a:K3 f=some r):
  Tr Tryz.prog 132 #[.agg d.toArray] h λv s=>∃(c:List Value),v = .agg c.toArray/\New Y0 h s c r:=by
 obtain⟨g,i,l,B,n,j,rfl,rfl,t,u,k⟩:=B0 w
 obtain⟨rfl,z⟩:=Sl.len k
 unfold K3 at a
 dsimp only at a
 refine J2 (args:=[.agg #[.int .i64 g,.int .i64 i,.slice l j.length n]]) (fn:=Tryz.f132) rfl ?_
 refine Or.inr (Or.inr (Or.inl (aI (aI (by kernel_rfl) (by kernel_rfl)) ?_)))
 refine Or.inr ?_
 refine Or.inr ?_
 refine Or.inr ?_
 refine Or.inr ?_
 refine Or.inl (eX 0 (aI (aI rfl rfl) ?_))
 refine aI trivial (aI (by first|exact trivial|exact rfl) ?_)
 obtain⟨x,p,b⟩:=Sl.rows (r:=R0.toRp) k
 refine eX x (aI p ?_)
 obtain⟨C,q,a⟩:=C0 a
 refine aI (T1 q (by first|rw[F2.length (show F2 (R0.R h) ([]:List (List Value)) ([]:N0) from trivial),F2.length b]|exact congrArg (·+1) (F2.length (show F2 (R0.R h) ([]:List (List Value)) ([]:N0) from trivial)))) ?_
 refine aI trivial (aI (by first|exact trivial|exact rfl) ?_)
 refine aI trivial (aI (by first|exact trivial|exact rfl) ?_)
 refine aI trivial (aI (by first|exact trivial|exact rfl) ?_)
 intro F y e
 obtain⟨m,o,rfl,D,E,A⟩:=H1.out (r:=R0.toRp) e (F2.append (show F2 (R0.R h) ([]:List (List Value)) ([]:N0) from trivial) b)
 obtain rfl:=oJ a
 exact⟨([.int .i64 g,.int .i64 i,.slice m ((([]:N0)++j)).length o]),rfl,(New.pair (New.int t) (New.pair (New.int u) (H1.newPlain (r:=R0) e (F2.append (show F2 (R0.R h) ([]:List (List Value)) ([]:N0) from trivial) b) (s07 _))))⟩
theorem R9(h:Hp)(I:Option Addr)(ac J:Nat)(G:N0)(q:D0.R h [.slice I ac J] G)(N:List Value)(ad:O0)(aF:R0.R h N ad)(r:N0)(g:T6 G ad=some r):
  Tr Tryz.prog 248 #[.slice I ac J,.agg N.toArray] h λv F=>∃(L:Option Addr) (ab M:Nat),v = .slice L ab M/\D0.R F [.slice L ab M] r/\Sub h F:=by
 obtain⟨rfl,aZ⟩:=Sl.len q
 obtain⟨b,c,d,rfl,rfl,i,j,k⟩:=M1 aF
 unfold T6 at g
 dsimp only at g
 refine J2 (args:=[.slice I G.length J,.agg #[.int .i64 b,.int .i64 c,.int .i64 d]]) (fn:=Tryz.f248) rfl ?_
 obtain⟨K,aw,g⟩:=C0 g
 refine eX { vars:=[6,7],boxes:=[],owns:=[0],fuel:=true } (eX (λvs os F=>∃ H n p m,vs.tail = [.bool H,.int .i64 n]/\os = [p]/\Sub h F/\I0 n/\F2 (R0.R F) p m/\O4 G b c d (P1 vs) H n m=some K) (eX (λ_ _=>0) (aI (eX U0 ⟨false,0,[],([]:N0),rfl,rfl,(Sub.refl _),(by decide),(show F2 (R0.R h) ([]:List (List Value)) ([]:N0) from trivial),aw⟩) ?_)))
 rintro _ _ p o f ⟨H,n,bn,m,⟨⟩,⟨⟩,l,aV,e,a⟩
 replace a:O4 G b c d o H n m=some K:=a
 obtain _|o:=o
 ·cases a
 rw[O4.eq_2]at a
 refine ifB a (λaB a=>?_) λaB a=>?_
 ·refine Or.inl (aI (aI (by kernel_rfl) (by kernel_rfl)) ?_)
  refine ld a (D0.mono l q) λbj aU aL a=>?_
  obtain⟨bk,bl,bm,rfl,rfl,aC,aD,aE⟩:=M1 aL
  try dsimp only at a
  obtain⟨ae,av,a⟩:=C0 a
  refine eX (.int .i64 ae) (aI (H04 _ _ _ (E1 i j k) _ _ (E1 aC aD aE) _  av) ?_)
  obtain⟨a2,al,a⟩:=C0 a
  have aW:I0 ae:=K1 al
  refine ifB a (λax a=>?_) λax a=>?_
  ·refine ifB a (λay a=>?_) λay a=>?_
   ·obtain⟨a3,am,a⟩:=C0 a
    refine aI (T1 am (by first|rw[F2.length e,F2.length (show F2 (R0.R f) ([[.int .i64 b,.int .i64 c,.int .i64 d]]:List (List Value)) [(b,c,d)] from⟨(E1 i j k),trivial⟩)]|exact congrArg (·+1) (F2.length e))) ?_
    refine ld a (D0.mono l q) λbf aQ aG a=>?_
    obtain⟨s,t,u,rfl,rfl,O,P,Q⟩:=M1 aG
    try dsimp only at a
    obtain⟨a4,an,a⟩:=C0 a
    refine aI (T1 an (by first|rw[F2.length (F2.append e (show F2 (R0.R f) ([[.int .i64 b,.int .i64 c,.int .i64 d]]:List (List Value)) [(b,c,d)] from⟨(E1 i j k),trivial⟩)),F2.length (show F2 (R0.R f) ([[.int .i64 s,.int .i64 t,.int .i64 u]]:List (List Value)) [(s,t,u)] from⟨(E1 O P Q),trivial⟩)]|exact congrArg (·+1) (F2.length (F2.append e (show F2 (R0.R f) ([[.int .i64 b,.int .i64 c,.int .i64 d]]:List (List Value)) [(b,c,d)] from⟨(E1 i j k),trivial⟩))))) ?_
    exact C2 o ⟨true,(IntKind.i64.wrap (n+1)),((p++([[.int .i64 b,.int .i64 c,.int .i64 d]]:List (List Value)))++([[.int .i64 s,.int .i64 t,.int .i64 u]]:List (List Value))),((m ++ [(b,c,d)]) ++ [(s,t,u)]),rfl,rfl,l,(P0 _),(F2.append (F2.append e (show F2 (R0.R f) ([[.int .i64 b,.int .i64 c,.int .i64 d]]:List (List Value)) [(b,c,d)] from⟨(E1 i j k),trivial⟩)) (show F2 (R0.R f) ([[.int .i64 s,.int .i64 t,.int .i64 u]]:List (List Value)) [(s,t,u)] from⟨(E1 O P Q),trivial⟩)),a⟩
   ·refine ld a (D0.mono l q) λbg aR aH a=>?_
    obtain⟨w,x,y,rfl,rfl,S,T,U⟩:=M1 aH
    try dsimp only at a
    obtain⟨a5,ao,a⟩:=C0 a
    refine aI (T1 ao (by first|rw[F2.length e,F2.length (show F2 (R0.R f) ([[.int .i64 w,.int .i64 x,.int .i64 y]]:List (List Value)) [(w,x,y)] from⟨(E1 S T U),trivial⟩)]|exact congrArg (·+1) (F2.length e))) ?_
    exact C2 o ⟨true,(IntKind.i64.wrap (n+1)),(p++([[.int .i64 w,.int .i64 x,.int .i64 y]]:List (List Value))),(m ++ [(w,x,y)]),rfl,rfl,l,(P0 _),(F2.append e (show F2 (R0.R f) ([[.int .i64 w,.int .i64 x,.int .i64 y]]:List (List Value)) [(w,x,y)] from⟨(E1 S T U),trivial⟩)),a⟩
  ·refine ifB a (λaz a=>?_) λaz a=>?_
   ·obtain⟨a6,ap,a⟩:=C0 a
    refine aI (T1 ap (by first|rw[F2.length e,F2.length (show F2 (R0.R f) ([[.int .i64 b,.int .i64 c,.int .i64 d]]:List (List Value)) [(b,c,d)] from⟨(E1 i j k),trivial⟩)]|exact congrArg (·+1) (F2.length e))) ?_
    refine ld a (D0.mono l q) λbh aS aJ a=>?_
    obtain⟨z,A,B,rfl,rfl,V,W,X⟩:=M1 aJ
    try dsimp only at a
    obtain⟨ba,aq,a⟩:=C0 a
    refine aI (T1 aq (by first|rw[F2.length (F2.append e (show F2 (R0.R f) ([[.int .i64 b,.int .i64 c,.int .i64 d]]:List (List Value)) [(b,c,d)] from⟨(E1 i j k),trivial⟩)),F2.length (show F2 (R0.R f) ([[.int .i64 z,.int .i64 A,.int .i64 B]]:List (List Value)) [(z,A,B)] from⟨(E1 V W X),trivial⟩)]|exact congrArg (·+1) (F2.length (F2.append e (show F2 (R0.R f) ([[.int .i64 b,.int .i64 c,.int .i64 d]]:List (List Value)) [(b,c,d)] from⟨(E1 i j k),trivial⟩))))) ?_
    exact C2 o ⟨true,(IntKind.i64.wrap (n+1)),((p++([[.int .i64 b,.int .i64 c,.int .i64 d]]:List (List Value)))++([[.int .i64 z,.int .i64 A,.int .i64 B]]:List (List Value))),((m ++ [(b,c,d)]) ++ [(z,A,B)]),rfl,rfl,l,(P0 _),(F2.append (F2.append e (show F2 (R0.R f) ([[.int .i64 b,.int .i64 c,.int .i64 d]]:List (List Value)) [(b,c,d)] from⟨(E1 i j k),trivial⟩)) (show F2 (R0.R f) ([[.int .i64 z,.int .i64 A,.int .i64 B]]:List (List Value)) [(z,A,B)] from⟨(E1 V W X),trivial⟩)),a⟩
   ·refine ld a (D0.mono l q) λbi aT aK a=>?_
    obtain⟨C,D,E,rfl,rfl,Y,Z,aa⟩:=M1 aK
    try dsimp only at a
    obtain⟨bb,ar,a⟩:=C0 a
    refine aI (T1 ar (by first|rw[F2.length e,F2.length (show F2 (R0.R f) ([[.int .i64 C,.int .i64 D,.int .i64 E]]:List (List Value)) [(C,D,E)] from⟨(E1 Y Z aa),trivial⟩)]|exact congrArg (·+1) (F2.length e))) ?_
    exact C2 o ⟨H,(IntKind.i64.wrap (n+1)),(p++([[.int .i64 C,.int .i64 D,.int .i64 E]]:List (List Value))),(m ++ [(C,D,E)]),rfl,rfl,l,(P0 _),(F2.append e (show F2 (R0.R f) ([[.int .i64 C,.int .i64 D,.int .i64 E]]:List (List Value)) [(C,D,E)] from⟨(E1 Y Z aa),trivial⟩)),a⟩
 ·obtain rfl:=oJ a
  try dsimp only[V0,Z0]at g
  refine ifB g (λaA g=>?_) λaA g=>?_
  ·obtain⟨bc,au,g⟩:=C0 g
   refine aI (T1 au (by first|rw[F2.length e,F2.length (show F2 (R0.R f) ([[.int .i64 b,.int .i64 c,.int .i64 d]]:List (List Value)) [(b,c,d)] from⟨(E1 i j k),trivial⟩)]|exact congrArg (·+1) (F2.length e))) ?_
   intro bd aX aj
   obtain⟨af,ah,rfl,aM,aO,a0⟩:=H1.out (r:=R0.toRp) aj (F2.append e (show F2 (R0.R f) ([[.int .i64 b,.int .i64 c,.int .i64 d]]:List (List Value)) [(b,c,d)] from⟨(E1 i j k),trivial⟩))
   obtain rfl:=oJ g
   exact⟨af,((m ++ [(b,c,d)])).length,ah,rfl,aM,(l.trans aO)⟩
  ·intro be aY ak
   obtain⟨ag,ai,rfl,aN,aP,a1⟩:=H1.out (r:=R0.toRp) ak e
   obtain rfl:=oJ g
   exact⟨ag,m.length,ai,rfl,aN,(l.trans aP)⟩
theorem D0d(h:Hp)(m:List Value)(n:l0)(A:Y0.R h m n)(g:Int)(J:I0 g)(r:Int)(f:w00 n g=some r):
  Tr Tryz.prog 318 #[.agg m.toArray,.int .i64 g] h λv j=>v = .int .i64 r/\j=h:=by
 obtain⟨y,z,o,X,p,k,rfl,rfl,H,I,i⟩:=B0 A
 obtain⟨rfl,W⟩:=Sl.len i
 unfold w00 at f
 dsimp only at f
 refine Tr.forget (J2 (args:=[.agg #[.int .i64 y,.int .i64 z,.slice o k.length p],.int .i64 g]) (fn:=Tryz.f318) rfl ?_)
 obtain⟨l,q,f⟩:=C0 f
 refine eX { vars:=[5,6],boxes:=[],owns:=[],fuel:=true } (eX (λvs os j=>∃ b c,vs.tail = [.int .i64 b,.int .i64 c]/\os = []/\Sub h j/\I0 b/\I0 c/\P3 k g (P1 vs) b c=some l) (eX (λ_ _=>0) (aI (eX U0 ⟨0,0,rfl,rfl,(Sub.refl _),(by decide),(by decide),q⟩) ?_)))
 rintro _ _ e V ⟨b,c,⟨⟩,⟨⟩,d,x,K,a⟩
 replace a:P3 k g e b c=some l:=a
 obtain _|e:=e
 ·cases a
 rw[P3.eq_2]at a
 refine ifB a (λu a=>?_) λu a=>?_
 ·refine ld a (D0.mono d i) λac F C a=>?_
  obtain⟨ad,ae,af,rfl,rfl,O,P,Q⟩:=M1 C
  try dsimp only at a
  refine ifB a (λw a=>?_) λw a=>?_
  ·refine ld a (D0.mono d i) λag G D a=>?_
   obtain⟨ah,ai,aj,rfl,rfl,S,T,U⟩:=M1 D
   try dsimp only at a
   refine ifB a (λs a=>?_) λs a=>?_
   ·exact C2 e ⟨(IntKind.i64.wrap ((IntKind.i64.wrap (b+1))+1)),(IntKind.i64.wrap (c+1)),rfl,rfl,d,(P0 _),(P0 _),a⟩
   ·exact C2 e ⟨(IntKind.i64.wrap (b+1)),(IntKind.i64.wrap (c+1)),rfl,rfl,d,(P0 _),(P0 _),a⟩
  ·refine ld a (D0.mono d i) λY E B a=>?_
   obtain⟨Z,aa,ab,rfl,rfl,L,M,N⟩:=M1 B
   try dsimp only at a
   refine ifB a (λt a=>?_) λt a=>?_
   ·exact C2 e ⟨(IntKind.i64.wrap (b+1)),(IntKind.i64.wrap (c+1)),rfl,rfl,d,(P0 _),(P0 _),a⟩
   ·exact C2 e ⟨b,(IntKind.i64.wrap (c+1)),rfl,rfl,d,x,(P0 _),a⟩
 ·obtain rfl:=oJ a
  try dsimp only[V0,Z0]at f
  obtain rfl:=oJ f
  exact aI rfl d
theorem v05(h:Hp)(k:List Value)(m:l0)(E:Y0.R h k m)(l:List Value)(n:l0)(F:Y0.R h l n)(r:Bool)(b:U8 m n=some r):
  Tr Tryz.prog 194 #[.agg k.toArray,.agg l.toArray] h λv f=>v = .bool r/\f=h:=by
 obtain⟨A,B,q,af,t,g,rfl,rfl,Q,S,o⟩:=B0 E
 obtain⟨rfl,ad⟩:=Sl.len o
 obtain⟨C,D,s,ag,u,i,rfl,rfl,T,U,p⟩:=B0 F
 obtain⟨rfl,ae⟩:=Sl.len p
 unfold U8 at b
 dsimp only at b
 refine Tr.forget (J2 (args:=[.agg #[.int .i64 A,.int .i64 B,.slice q g.length t],.agg #[.int .i64 C,.int .i64 D,.slice s i.length u]]) (fn:=Tryz.f194) rfl ?_)
 refine ifB b (λx b=>?_) λx b=>?_
 ·obtain rfl:=oJ b
  exact aI rfl (Sub.refl _)
 ·obtain⟨j,w,b⟩:=C0 b
  refine eX { vars:=[5],boxes:=[],owns:=[],fuel:=true } (eX (λvs os f=>∃ c,vs.tail = [.int .i64 c]/\os = []/\Sub h f/\I0 c/\E6 g i (P1 vs) c=some j) (eX (λ_ _=>0) (aI (eX U0 ⟨0,rfl,rfl,(Sub.refl _),(by decide),w⟩) ?_)))
  rintro _ e ac ⟨c,⟨⟩,⟨⟩,d,V,a⟩
  replace a:E6 g i e c=some j:=a
  obtain _|e:=e
  ·cases a
  rw[E6.eq_2]at a
  refine ifB a (λy a=>?_) λy a=>?_
  ·refine Or.inl (aI (aI (by kernel_rfl) (by kernel_rfl)) ?_)
   refine ld a (D0.mono d o) λah O G a=>?_
   obtain⟨I,J,K,rfl,rfl,W,X,Y⟩:=M1 G
   try dsimp only at a
   refine ld a (D0.mono d p) λai P H a=>?_
   obtain⟨L,M,N,rfl,rfl,Z,aa,ab⟩:=M1 H
   try dsimp only at a
   refine eX (!eqE (I,J,K) (L,M,N)) (aI (N0i _ _ _ rfl _ _ _ _ _ _) ?_)
   refine ifB a (λz a=>?_) λz a=>?_
   ·obtain rfl:=oJ a
    try dsimp only[j4,L4]at b
    obtain rfl:=oJ b
    exact aI rfl d
   ·exact C2 e ⟨(IntKind.i64.wrap (c+1)),rfl,rfl,d,(P0 _),a⟩
  ·obtain rfl:=oJ a
   try dsimp only[V0,Z0]at b
   obtain rfl:=oJ b
   exact aI rfl d
theorem r0a(h:Hp)(I:List Value)(L:l0)(aw:Y0.R h I L)(f:Int)(J:I0 f)(r:J0)(b:j00 L f=some r):
  Tr Tryz.prog 334 #[.agg I.toArray,.int .i64 f] h λv e=>∃(G:Option Addr) (K H:Nat),v = .slice G K H/\M0.R e [.slice G K H] r/\Sub h e:=by
 obtain⟨av,M,U,aX,aa,t,rfl,rfl,aq,ar,B⟩:=B0 aw
 obtain⟨rfl,aP⟩:=Sl.len B
 unfold j00 at b
 dsimp only at b
 refine J2 (args:=[.agg #[.int .i64 av,.int .i64 M,.slice U t.length aa],.int .i64 f]) (fn:=Tryz.f334) rfl ?_
 refine trV b (H7 _ _ _ (z0 aq ar B)) λa6 b=>?_
 refine trG b (λq=>j6 _ _ J 0 (by decide) (IntKind.i64.wrap (M-1)) (P0 _)) λba b=>?_
 refine ifB b (λan b=>?_) λan b=>?_
 ·intro a4 aN ah
  obtain⟨Z,af,rfl,az,aD,aW⟩:=H1.out (r:=Wp.int.toRp) ah (show F2 (Wp.int.R h) ([]:List (List Value)) ([]:J0) from trivial)
  obtain rfl:=oJ b
  exact⟨Z,(([]:J0)).length,af,rfl,az,aD⟩
 ·obtain⟨E,ai,b⟩:=C0 b
  refine eX { vars:=[5,6],boxes:=[],owns:=[],fuel:=true,pubs:=[5,22] } (eX (λvs os e=>∃(n:Option Addr) (z p:Nat) (k:J0) (m:Int),vs.tail = [.slice n z p,.int .i64 m]/\os = []/\Sub h e/\M0.R e [.slice n z p] k/\I0 m/\J5 t (P1 vs) k m=some E) (eX (λ_ _=>0) ?_))
  intro a5 aO ag
  obtain⟨Y,ae,rfl,ay,aC,aV⟩:=H1.out (r:=Wp.int.toRp) ag (show F2 (Wp.int.R h) ([[.int .i64 f]]:List (List Value)) [f] from⟨⟨rfl,J⟩,trivial⟩)
  refine aI (eX U0 ⟨Y,([f]).length,ae,[f],0,rfl,rfl,aC,ay,(by decide),ai⟩) ?_
  rintro _ _ u au ⟨n,z,p,k,m,⟨⟩,⟨⟩,D,C,aF,c⟩
  replace c:J5 t u k m=some E:=c
  obtain _|u:=u
  ·cases c
  rw[J5.eq_2]at c
  obtain⟨rfl,aQ⟩:=Sl.len C
  refine ifB c (λak c=>?_) λak c=>?_
  ·obtain⟨F,aj,c⟩:=C0 c
   refine eX { vars:=[5,7],boxes:=[],owns:=[],fuel:=true } (eX (λvs os e=>∃ o A s g d,vs.tail = [.slice o A s,.int .i64 d]/\os = []/\Sub au e/\M0.R e [.slice o A s] g/\I0 d/\M3 t (P1 vs) g d=some F) (eX (λ_ _=>0) (aI (eX U0 ⟨n,k.length,p,k,0,rfl,rfl,(Sub.refl _),C,(by decide),aj⟩) ?_)))
   rintro _ _ i aJ ⟨o,A,s,g,d,⟨⟩,⟨⟩,l,j,aG,a⟩
   replace a:M3 t i g d=some F:=a
   obtain _|i:=i
   ·cases a
   rw[M3.eq_2]at a
   obtain⟨rfl,aR⟩:=Sl.len j
   refine ifB a (λal a=>?_) λal a=>?_
   ·refine ld a (D0.mono (D.trans l) B) λbb aE ax a=>?_
    obtain⟨bc,bd,be,rfl,rfl,x,aH,y⟩:=M1 ax
    try dsimp only at a
    refine trV a (N02 _ _ _ _ _ j _ x) λbf a=>?_
    refine ifB a (λam a=>?_) λam a=>?_
    ·refine trM a (M02 _ _ _ _ _ j _ y) ?_
     rintro Q a a1 aK ⟨V,aY,ab,rfl,w,P⟩
     obtain⟨rfl,aS⟩:=Sl.len w
     refine trV a (N02 _ _ _ _ _ w _ y) λbg a=>?_
     refine ifB a (λao a=>?_) λao a=>?_
     ·refine trM a (M02 _ _ _ _ _ w _ x) ?_
      rintro S a a2 aL ⟨W,aZ,ac,rfl,N,aA⟩
      obtain⟨rfl,aT⟩:=Sl.len N
      exact C2 i ⟨W,S.length,ac,S,(IntKind.i64.wrap (d+1)),rfl,rfl,((l.trans P).trans aA),N,(P0 _),a⟩
     ·exact C2 i ⟨V,Q.length,ab,Q,(IntKind.i64.wrap (d+1)),rfl,rfl,(l.trans P),w,(P0 _),a⟩
    ·refine trV a (N02 _ _ _ _ _ j _ y) λbh a=>?_
     refine ifB a (λap a=>?_) λap a=>?_
     ·refine trM a (M02 _ _ _ _ _ j _ x) ?_
      rintro T a a3 aM ⟨X,a0,ad,rfl,O,aB⟩
      obtain⟨rfl,aU⟩:=Sl.len O
      exact C2 i ⟨X,T.length,ad,T,(IntKind.i64.wrap (d+1)),rfl,rfl,(l.trans aB),O,(P0 _),a⟩
     ·exact C2 i ⟨o,g.length,s,g,(IntKind.i64.wrap (d+1)),rfl,rfl,l,j,(P0 _),a⟩
   ·obtain rfl:=oJ a
    try dsimp only[V0,Z0]at c
    exact C2 u ⟨o,g.length,s,g,(IntKind.i64.wrap (m+1)),rfl,rfl,(D.trans l),j,(P0 _),c⟩
  ·obtain rfl:=oJ c
   try dsimp only[V0,Z0]at b
   obtain rfl:=oJ b
   exact⟨n,k.length,p,rfl,C,D⟩
theorem N09(h:Hp)(n:List Value)(t:l0)(E:Y0.R h n t)(r:Int)(b:O01 t=some r):
  Tr Tryz.prog 294 #[.agg n.toArray] h λv f=>v = .int .i64 r/\f=h:=by
 obtain⟨g,i,x,M,y,j,rfl,rfl,o,p,k⟩:=B0 E
 obtain⟨rfl,K⟩:=Sl.len k
 unfold O01 at b
 dsimp only at b
 refine Tr.forget (J2 (args:=[.agg #[.int .i64 g,.int .i64 i,.slice x j.length y]]) (fn:=Tryz.f294) rfl ?_)
 refine trM b (r0a _ _ _ (z0 o p k) 0 (by decide)) ?_
 rintro w b P D ⟨G,N,H,rfl,u,l⟩
 obtain⟨rfl,L⟩:=Sl.len u
 obtain⟨m,A,b⟩:=C0 b
 refine eX { vars:=[4],boxes:=[],owns:=[],fuel:=true } (eX (λvs os f=>∃ c,vs.tail = [.int .i64 c]/\os = []/\Sub D f/\I0 c/\K8 i g j w (P1 vs) c=some m) (eX (λ_ _=>0) (aI (eX U0 ⟨1,rfl,rfl,(Sub.refl _),(by decide),A⟩) ?_)))
 rintro _ e J ⟨c,⟨⟩,⟨⟩,d,s,a⟩
 replace a:K8 i g j w e c=some m:=a
 obtain _|e:=e
 ·cases a
 rw[K8.eq_2]at a
 refine ifB a (λC a=>?_) λC a=>?_
 ·refine trV a (D0d _ _ _ (z0 o p (D0.mono (l.trans d) k)) _ s) λF a=>?_
  obtain⟨O,z,a⟩:=C0 a
  have I:I0 F:=K1 z
  refine trG a (λq=>N02 _ _ _ _ _ (M0.mono d u) _ s) λQ a=>?_
  refine ifB a (λB a=>?_) λB a=>?_
  ·obtain rfl:=oJ a
   try dsimp only[j4,L4]at b
   obtain rfl:=oJ b
   exact aI rfl (l.trans d)
  ·exact C2 e ⟨(IntKind.i64.wrap (c+1)),rfl,rfl,d,(P0 _),a⟩
 ·obtain rfl:=oJ a
  try dsimp only[V0,Z0]at b
  obtain rfl:=oJ b
  exact aI rfl (l.trans d)
theorem z02(h:Hp)(U:List Value)(Y:l0)(aY:Y0.R h U Y)(I:Option Addr)(X J:Nat)(s:J0)(D:M0.R h [.slice I X J] s)(r:l0×Bool)(d:F6 Y s=some r):
  Tr Tryz.prog 320 #[.agg U.toArray,.slice I X J] h λv e=>∃(T:List Value),v = .tuple #[.agg T.toArray,.bool r.2]/\Y0.R e T r.1/\Sub h e:=by
 obtain⟨C,l,ag,bS,ao,y,rfl,rfl,A,K,z⟩:=B0 aY
 obtain⟨rfl,bN⟩:=Sl.len z
 obtain⟨rfl,aX⟩:=Sl.len D
 unfold F6 at d
 dsimp only at d
 refine J2 (args:=[.agg #[.int .i64 C,.int .i64 l,.slice ag y.length ao],.slice I s.length J]) (fn:=Tryz.f320) rfl ?_
 refine trV d (H7 _ _ _ (z0 A K z)) λb5 d=>?_
 refine ifB d (λaL d=>?_) λaL d=>?_
 ·refine trM d (n5 _ _ _ (z0 A K z)) ?_
  rintro cc d b4 aW ⟨bn,rfl,ae⟩
  have bc:Sub h aW:=ae.sub
  have a2:=ae.r
  obtain⟨bh,bi,ai,bU,aq,bj,rfl,rfl,aS,aT,aa⟩:=B0 a2
  obtain⟨rfl,bQ⟩:=Sl.len aa
  try dsimp only at d
  obtain rfl:=oJ d
  exact⟨([.int .i64 bh,.int .i64 bi,.slice ai bj.length aq]),rfl,(z0 aS aT aa),bc⟩
 ·obtain⟨bW,ay,d⟩:=C0 d
  refine aI (K1 ay) ?_
  obtain⟨S,aH,d⟩:=C0 d
  refine eX { vars:=[8],boxes:=[],owns:=[0],fuel:=true,kept:=[0] } (eX (λvs os e=>∃ u8 F o,vs.tail = [.int .i64 u8]/\os = [F]/\Sub h e/\I0 u8/\F2 (Wp.int.R e) F o/\P4 s l C y (P1 vs) u8 o=some S) (eX (λ_ _=>0) (aI (eX U0 ⟨0,(List.replicate l.toNat ([.int .i64 0]:List Value)),(List.replicate l.toNat (0:Int)),rfl,rfl,(Sub.refl _),(by decide),(F2.rep (p:=Wp.int.R h) (a:=[.int .i64 0]) (b:=0) ⟨rfl,(by decide)⟩ (l.toNat)),aH⟩) ?_)))
  rintro _ F B w ⟨u8,ci,o,⟨⟩,⟨⟩,g,bu,k,c⟩
  replace c:P4 s l C y B u8 o=some S:=c
  obtain _|B:=B
  ·cases c
  rw[P4.eq_2]at c
  refine ifB c (λaJ c=>?_) λaJ c=>?_
  ·refine Or.inl (aI (aI (by kernel_rfl) (by kernel_rfl)) ?_)
   refine ldI c (M0.mono g D) λb6 aO c=>?_
   obtain⟨bd,az,c⟩:=C0 c
   refine eX (.bool bd) (aI (j6 _ _ aO 0 (by decide) (IntKind.i64.wrap (l-1)) (P0 _) _  az) ?_)
   refine ldG c (M0.mono g D) λb7 bv c=>?_
   obtain⟨b8,aA,c⟩:=C0 c
   obtain⟨bk,V,aZ⟩:=n05 k aA (T0e w)
   refine aI (λq=>(V q).1) ?_
   obtain⟨rfl,bx⟩:=aZ
   refine eX _ (aI (λq=>(V q).2) ?_)
   refine ifB c (λaK c=>?_) λaK c=>?_
   ·refine trM c (n5 _ _ _ (z0 A K (D0.mono g z))) ?_
    rintro ca c b2 aU ⟨bl,rfl,ad⟩
    have bb:Sub w aU:=ad.sub
    have a0:=ad.r
    obtain⟨be,bf,ah,bT,ap,bg,rfl,rfl,aP,aQ,Z⟩:=B0 a0
    obtain⟨rfl,bP⟩:=Sl.len Z
    try dsimp only at c
    obtain rfl:=oJ c
    try dsimp only[j4,L4]at d
    obtain rfl:=oJ d
    exact⟨([.int .i64 be,.int .i64 bf,.slice ah bg.length ap]),rfl,(z0 aP aQ Z),(g.trans bb)⟩
   ·refine ldI c (M0.mono g D) λO bz c=>?_
    obtain⟨cb,aB,c⟩:=C0 c
    obtain⟨ak,bm,au,a1⟩:=K5 k aB
    refine aI ak ?_
    obtain⟨rfl,bA⟩:=a1
    refine eX _ (aI au ?_)
    exact C2 B ⟨(IntKind.i64.wrap (u8+1)),(F.set O.toNat [.int .i64 (IntKind.i64.wrap (u8+1))]),(o.set O.toNat (IntKind.i64.wrap (u8+1))),rfl,rfl,g,(P0 _),(F2.set (p:=Wp.int.R w) (a:=[.int .i64 (IntKind.i64.wrap (u8+1))]) (b:=(IntKind.i64.wrap (u8+1))) ⟨rfl,(P0 _)⟩ O.toNat k),c⟩
  ·obtain rfl:=oJ c
   try dsimp only[V0,Z0]at d
   obtain⟨Q,aG,d⟩:=C0 d
   refine eX { vars:=[9],boxes:=[2],owns:=[],fuel:=true } (eX (λvs os e=>∃ m i j t N u n,vs.tail = [.int .i64 m,.int .i64 i,.int .i64 j,.slice t N u]/\os = []/\Sub w e/\I0 m/\I0 i/\I0 j/\D0.R e [.slice t N u] n/\d4 y o (P1 vs) m i j n=some Q) (eX (λ_ _=>0) (aI (eX U0 ⟨0,C,((s.length:Nat):Int),none,0,0,[],rfl,rfl,(Sub.refl _),(by decide),A,(l0r aX),(h02 R0 w),aG⟩) ?_)))
   rintro _ _ _ _ x aV ⟨m,i,j,t,N,u,n,⟨⟩,⟨⟩,f,bt,L,M,E,c⟩
   replace c:d4 y o x m i j n=some Q:=c
   obtain _|x:=x
   ·cases c
   rw[d4.eq_2]at c
   obtain⟨rfl,bO⟩:=Sl.len E
   refine ifB c (λaM c=>?_) λaM c=>?_
   ·refine ld c (D0.mono (g.trans f) z) λcd bo a3 c=>?_
    obtain⟨ce,P,cf,rfl,rfl,bB,aR,bC⟩:=M1 a3
    try dsimp only at c
    obtain⟨cg,aC,c⟩:=C0 c
    obtain⟨al,bp,av,a4⟩:=K5 (F2.up (r:=Wp.int.toRp) f k) aC
    refine aI al ?_
    obtain⟨rfl,bD⟩:=a4
    refine eX _ (aI av ?_)
    obtain⟨ch,aD,c⟩:=C0 c
    obtain⟨bq,W,a5⟩:=n05 (F2.up (r:=Wp.int.toRp) f k) aD (T0e aV)
    refine aI (λq=>(W q).1) ?_
    obtain⟨rfl,bE⟩:=a5
    refine eX _ (aI (λq=>(W q).2) ?_)
    refine ifB c (λaN c=>?_) λaN c=>?_
    ·refine Or.inr (Or.inr (Or.inl (aI (aI (by kernel_rfl) (by kernel_rfl)) ?_)))
     obtain⟨G,aE,c⟩:=C0 c
     obtain⟨am,br,aw,a6⟩:=K5 (F2.up (r:=Wp.int.toRp) f k) aE
     obtain⟨rfl,bF⟩:=a6
     refine Or.inl ?_
     apply eX
     refine aI ?_ ?_
     ·intro bH bX
      exact aI am (aI rfl (aI rfl rfl))
     refine Or.inl (eX (.val (.int .i64 G)) (aI ?_ ?_))
     ·intro bI bY
      exact eX _ (aI aw (aI rfl (aI rfl rfl)))
     obtain⟨H,aF,c⟩:=C0 c
     obtain⟨an,bs,ax,ba⟩:=K5 (F2.up (r:=Wp.int.toRp) f k) aF
     obtain⟨rfl,bG⟩:=ba
     refine Or.inl ?_
     apply eX
     refine aI ?_ ?_
     ·intro bJ bZ
      exact aI an (aI rfl (aI rfl rfl))
     refine Or.inl (eX (.val (.int .i64 H)) (aI ?_ ?_))
     ·intro bK b0
      exact eX _ (aI ax (aI rfl (aI rfl rfl)))
     refine Or.inl (eX (.agg [.val (.int .i64 (IntKind.i64.wrap (G-1))),.val (.int .i64 P),.val (.int .i64 (IntKind.i64.wrap (H-1)))]) (aI ?_ ?_))
     ·intro bL b1
      exact aI rfl (aI rfl rfl)
     refine Or.inr ?_
     refine Or.inr ?_
     refine Or.inl (eX 1 (aI (aI rfl rfl) ?_))
     refine trM c (R9 _ _ _ _ _ E [.int .i64 (IntKind.i64.wrap (G-1)),.int .i64 P,.int .i64 (IntKind.i64.wrap (H-1))] ((IntKind.i64.wrap (G-1)),P,(IntKind.i64.wrap (H-1))) (E1 (P0 _) aR (P0 _))) ?_
     rintro af c b3 bM ⟨aj,bV,ar,rfl,ab,ac⟩
     obtain⟨rfl,bR⟩:=Sl.len ab
     refine aI (aI rfl ac) (aI (by first|exact trivial|exact rfl) ?_)
     refine aI trivial (aI (by first|exact trivial|exact rfl) ?_)
     exact C2 x ⟨(IntKind.i64.wrap (m+1)),i,j,aj,af.length,ar,af,rfl,rfl,(f.trans ac),(P0 _),L,M,ab,c⟩
    ·exact C2 x ⟨(IntKind.i64.wrap (m+1)),i,j,t,n.length,u,n,rfl,rfl,f,(P0 _),L,M,E,c⟩
   ·obtain rfl:=oJ c
    try dsimp only[V0,Z0]at d
    obtain rfl:=oJ d
    exact⟨([.int .i64 i,.int .i64 j,.slice t n.length u]),rfl,(z0 L M E),(g.trans f)⟩
theorem i04(h:Hp)(e:Int)(C:I0 e)(r:J0)(i:S7 e=some r):
  Tr Tryz.prog 319 #[.int .i64 e] h λv g=>∃(n:Option Addr) (p o:Nat),v = .slice n p o/\M0.R g [.slice n p o] r/\Sub h g:=by
 unfold S7 at i
 refine J2 (args:=[.int .i64 e]) (fn:=Tryz.f319) rfl ?_
 obtain⟨m,y,i⟩:=C0 i
 refine eX { vars:=[4],boxes:=[],owns:=[0],fuel:=true } (eX (λvs os g=>∃ a l f,vs.tail = [.int .i64 a]/\os = [l]/\Sub h g/\I0 a/\F2 (Wp.int.R g) l f/\G6 e (P1 vs) a f=some m) (eX (λ_ _=>0) (aI (eX U0 ⟨1,[],([]:J0),rfl,rfl,(Sub.refl _),(by decide),(show F2 (Wp.int.R h) ([]:List (List Value)) ([]:J0) from trivial),y⟩) ?_)))
 rintro _ l k d ⟨a,I,f,⟨⟩,⟨⟩,q,j,c,b⟩
 replace b:G6 e k a f=some m:=b
 obtain _|k:=k
 ·cases b
 rw[G6.eq_2]at b
 refine ifB b (λz b=>?_) λz b=>?_
 ·obtain⟨F,w,b⟩:=C0 b
  refine aI (T1 w (by first|rw[F2.length c,F2.length (show F2 (Wp.int.R d) ([[.int .i64 a]]:List (List Value)) [a] from⟨⟨rfl,j⟩,trivial⟩)]|exact congrArg (·+1) (F2.length c))) ?_
  obtain⟨G,x,b⟩:=C0 b
  refine aI (T1 x (by first|rw[F2.length (F2.append c (show F2 (Wp.int.R d) ([[.int .i64 a]]:List (List Value)) [a] from⟨⟨rfl,j⟩,trivial⟩)),F2.length (show F2 (Wp.int.R d) ([[.int .i64 (IntKind.i64.wrap (0-a))]]:List (List Value)) [(IntKind.i64.wrap (0-a))] from⟨⟨rfl,(P0 _)⟩,trivial⟩)]|exact congrArg (·+1) (F2.length (F2.append c (show F2 (Wp.int.R d) ([[.int .i64 a]]:List (List Value)) [a] from⟨⟨rfl,j⟩,trivial⟩))))) ?_
  exact C2 k ⟨(IntKind.i64.wrap (a+1)),((l++([[.int .i64 a]]:List (List Value)))++([[.int .i64 (IntKind.i64.wrap (0-a))]]:List (List Value))),((f ++ [a]) ++ [(IntKind.i64.wrap (0-a))]),rfl,rfl,q,(P0 _),(F2.append (F2.append c (show F2 (Wp.int.R d) ([[.int .i64 a]]:List (List Value)) [a] from⟨⟨rfl,j⟩,trivial⟩)) (show F2 (Wp.int.R d) ([[.int .i64 (IntKind.i64.wrap (0-a))]]:List (List Value)) [(IntKind.i64.wrap (0-a))] from⟨⟨rfl,(P0 _)⟩,trivial⟩)),b⟩
 ·obtain rfl:=oJ b
  try dsimp only[V0,Z0]at i
  intro H D u
  obtain⟨s,t,rfl,A,B,E⟩:=H1.out (r:=Wp.int.toRp) u c
  obtain rfl:=oJ i
  exact⟨s,f.length,t,rfl,A,(q.trans B)⟩
theorem K07(h:Hp)(G:List Value)(K:l0)(aq:Y0.R h G K)(r:J0)(c:N8 K=some r):
  Tr Tryz.prog 335 #[.agg G.toArray] h λv d=>∃(E:Option Addr) (J F:Nat),v = .slice E J F/\M0.R d [.slice E J F] r/\Sub h d:=by
 obtain⟨n,o,M,aR,Q,p,rfl,rfl,y,H,A⟩:=B0 aq
 obtain⟨rfl,aM⟩:=Sl.len A
 unfold N8 at c
 dsimp only at c
 refine J2 (args:=[.agg #[.int .i64 n,.int .i64 o,.slice M p.length Q]]) (fn:=Tryz.f335) rfl ?_
 refine trV c (L7 _ _ _ (z0 y H A)) λa1 c=>?_
 refine ifB c (λah c=>?_) λah c=>?_
 ·intro aY aK X
  obtain⟨O,T,rfl,aw,ay,aQ⟩:=H1.out (r:=Wp.int.toRp) X (show F2 (Wp.int.R h) ([]:List (List Value)) ([]:J0) from trivial)
  obtain rfl:=oJ c
  exact⟨O,(([]:J0)).length,T,rfl,aw,ay⟩
 ·refine trM c (i04 _ _ y) ?_
  rintro w c a0 ao ⟨aA,aS,aD,rfl,L,B⟩
  obtain⟨rfl,aN⟩:=Sl.len L
  obtain⟨C,ae,c⟩:=C0 c
  refine eX { vars:=[5],boxes:=[],owns:=[0],fuel:=true } (eX (λvs os d=>∃ e s k,vs.tail = [.int .i64 e]/\os = [s]/\Sub ao d/\I0 e/\F2 (Wp.int.R d) s k/\D5 w n o p (P1 vs) e k=some C) (eX (λ_ _=>0) (aI (eX U0 ⟨0,([[.int .i64 0]]:List (List Value)),[0],rfl,rfl,(Sub.refl _),(by decide),(F2.up (r:=Wp.int.toRp) B (show F2 (Wp.int.R h) ([[.int .i64 0]]:List (List Value)) [0] from⟨⟨rfl,(by decide)⟩,trivial⟩)),ae⟩) ?_)))
  rintro _ s t an ⟨e,a4,k,⟨⟩,⟨⟩,u,aG,x,b⟩
  replace b:D5 w n o p t e k=some C:=b
  obtain _|t:=t
  ·cases b
  rw[D5.eq_2]at b
  obtain⟨ap,Y,b⟩:=C0 b
  obtain rfl:s.length=ap:=(F2.length x).trans (oJ Y)
  obtain⟨aT,aF,b⟩:=C0 b
  refine ifB b (λag b=>?_) λag b=>?_
  ·obtain⟨D,af,b⟩:=C0 b
   refine eX { vars:=[6],boxes:=[],owns:=[0],fuel:=true } (eX (λvs os d=>∃ i l j,vs.tail = [.int .i64 i]/\os = [l]/\Sub an d/\I0 i/\F2 (Wp.int.R d) l j/\Q3 w e n o p (P1 vs) i j=some D) (eX (λ_ _=>0) (aI (eX U0 ⟨0,s,k,rfl,rfl,(Sub.refl _),(by decide),x,af⟩) ?_)))
   rintro _ l m I ⟨i,a5,j,⟨⟩,⟨⟩,q,aH,g,a⟩
   replace a:Q3 w e n o p m i j=some D:=a
   obtain _|m:=m
   ·cases a
   rw[Q3.eq_2]at a
   refine ifB a (λai a=>?_) λai a=>?_
   ·refine Or.inl (aI (aI (by kernel_rfl) (by kernel_rfl)) ?_)
    obtain⟨a2,ab,a⟩:=C0 a
    obtain⟨P,aC,U,ar⟩:=K5 g ab
    refine aI P ?_
    obtain⟨rfl,al⟩:=ar
    refine eX _ (aI U ?_)
    refine ldI a (M0.mono (u.trans q) L) λa3 am a=>?_
    obtain⟨f,ac,a⟩:=C0 a
    refine eX (.int .i64 f) (aI (w6 _ _ _ (z0 y H (D0.mono ((B.trans u).trans q) A)) _ al _ am _  ac) ?_)
    obtain⟨aU,Z,a⟩:=C0 a
    have z:I0 f:=K1 Z
    obtain⟨az,ad,a⟩:=C0 a
    refine eX (.bool az) (aI ?_ ?_)
    ·intro ak
     intro aX aJ V
     obtain⟨aB,aE,rfl,au,aW,aO⟩:=H1.out (r:=Wp.int.toRp) V g
     exact N02 _ _ _ _ _ au _ z _ (e00 ad ak)
    refine ifB a (λaj a=>?_) λaj a=>?_
    ·obtain⟨aV,aa,a⟩:=C0 a
     refine aI (T1 aa (by first|rw[F2.length g,F2.length (show F2 (Wp.int.R I) ([[.int .i64 f]]:List (List Value)) [f] from⟨⟨rfl,z⟩,trivial⟩)]|exact congrArg (·+1) (F2.length g))) ?_
     exact C2 m ⟨(IntKind.i64.wrap (i+1)),(l++([[.int .i64 f]]:List (List Value))),(j ++ [f]),rfl,rfl,q,(P0 _),(F2.append g (show F2 (Wp.int.R I) ([[.int .i64 f]]:List (List Value)) [f] from⟨⟨rfl,z⟩,trivial⟩)),a⟩
    ·exact C2 m ⟨(IntKind.i64.wrap (i+1)),l,j,rfl,rfl,q,(P0 _),g,a⟩
   ·obtain rfl:=oJ a
    try dsimp only[V0,Z0]at b
    exact C2 t ⟨(IntKind.i64.wrap (e+1)),l,j,rfl,rfl,(u.trans q),(P0 _),g,b⟩
  ·obtain rfl:=oJ b
   try dsimp only[V0,Z0]at c
   intro aZ aL W
   obtain⟨N,S,rfl,av,ax,aP⟩:=H1.out (r:=Wp.int.toRp) W x
   obtain rfl:=oJ c
   exact⟨N,k.length,S,rfl,av,((B.trans u).trans ax)⟩
theorem Z03(h:Hp)(g:List Value)(j:l0)(H:Y0.R h g j)(r:l0)(a:B7 j=some r):
  Tr Tryz.prog 295 #[.agg g.toArray] h λv i=>∃(f:List Value),v = .agg f.toArray/\Y0.R i f r/\Sub h i:=by
 obtain⟨E,F,p,ac,t,G,rfl,rfl,d,e,b⟩:=B0 H
 obtain⟨rfl,Y⟩:=Sl.len b
 unfold B7 at a
 dsimp only at a
 refine J2 (args:=[.agg #[.int .i64 E,.int .i64 F,.slice p G.length t]]) (fn:=Tryz.f295) rfl ?_
 refine trM a (K07 _ _ _ (z0 d e b)) ?_
 rintro aj a ah C ⟨T,ad,W,rfl,k,c⟩
 obtain⟨rfl,Z⟩:=Sl.len k
 refine ifB a (λx a=>?_) λx a=>?_
 ·refine trM a (n5 _ _ _ (z0 d e (D0.mono c b))) ?_
  rintro ak a ai D ⟨U,rfl,o⟩
  have J:Sub C D:=o.sub
  have I:=o.r
  obtain⟨L,M,q,ae,u,N,rfl,rfl,y,z,l⟩:=B0 I
  obtain⟨rfl,aa⟩:=Sl.len l
  try dsimp only at a
  obtain rfl:=oJ a
  exact⟨([.int .i64 L,.int .i64 M,.slice q N.length u]),rfl,(z0 y z l),(c.trans J)⟩
 ·refine trM a (z02 _ _ _ (z0 d e (D0.mono c b)) _ _ _ _ k) ?_
  rintro O a ag X ⟨V,rfl,m,K⟩
  obtain⟨al,am⟩:=O
  dsimp only at a m
  obtain⟨P,Q,s,af,w,S,rfl,rfl,A,B,n⟩:=B0 m
  obtain⟨rfl,ab⟩:=Sl.len n
  try dsimp only at a
  obtain rfl:=oJ a
  exact⟨([.int .i64 P,.int .i64 Q,.slice s S.length w]),rfl,(z0 A B n),(c.trans K)⟩
theorem q0g(h:Hp)(m:List Value)(n:l0)(Q:Y0.R h m n)(r:Bool)(a:M00 n=some r):
  Tr Tryz.prog 211 #[.agg m.toArray] h λv G=>v = .bool r/\G=h:=by
 obtain⟨N,O,t,ar,w,P,rfl,rfl,g,i,c⟩:=B0 Q
 obtain⟨rfl,ap⟩:=Sl.len c
 unfold M00 at a
 dsimp only at a
 refine Tr.forget (J2 (args:=[.agg #[.int .i64 N,.int .i64 O,.slice t P.length w]]) (fn:=Tryz.f211) rfl ?_)
 refine Or.inr (Or.inr (Or.inr (Or.inl (aI (aI (by kernel_rfl) (by kernel_rfl)) ?_))))
 obtain⟨Z,C,a⟩:=C0 a
 refine Or.inl (eX (.val (.bool Z)) (aI ?_ ?_))
 ·intro al X
  exact Tr.val (L7 _ _ _ (z0 g i (D0.mono X c)) _ C) (aI rfl (aI rfl rfl))
 obtain⟨l,F,a⟩:=C0 a
 obtain⟨av,B,a⟩:=C0 a
 have ah:I0 l:=K1 B
 refine Or.inl (eX (.val (.int .i64 l)) (aI ?_ ?_))
 ·intro am Y b
  exact Tr.val (N09 _ _ _ (z0 g i (D0.mono Y c)) _ (e00 F b)) (aI rfl (aI rfl rfl))
 refine Or.inl (eX (.val (.bool (decide (l<0)))) (aI ?_ ?_))
 ·intro an aw b
  exact aI rfl (aI rfl rfl)
 obtain⟨aa,D,a⟩:=C0 a
 obtain⟨p,s,j⟩:=aa
 try dsimp only at a
 refine Or.inr (eX (λv H=>∃(d:Option Addr) (f:Nat),v = .agg #[.int .i64 p,.int .i64 s,.slice d j.length f]/\I0 p/\I0 s/\D0.R H [.slice d j.length f] j/\j.length<=9223372036854775807) (aI (λv af ag k q=>by obtain⟨d,f,e,z,A,f2,f3⟩:=q;exact⟨d,f,e,z,A,D0.mono k f2,f3⟩) (aI ?_ ?_)))
 ·intro ai U b
  refine Tr.mono (Z03 _ _ _ (z0 g i (D0.mono U c)) _ (e00 D b)) ?_
  rintro _ ao ⟨ad,rfl,S,k⟩
  obtain⟨ax,ay,u,au,x,az,rfl,y,I,J,o⟩:=B0 S
  cases y
  obtain⟨rfl,M⟩:=Sl.len o
  exact aI o01 (aI k ⟨u,x,rfl,I,J,o,M⟩)
 obtain⟨ab,E,a⟩:=C0 a
 refine Or.inl (eX (.val (.bool ab)) (aI ?_ ?_))
 ·intro aj V b
  rintro _ ⟨ac,ae,rfl,K,L,T,aq⟩
  exact Tr.val (v05 _ _ _ (z0 K L T) _ _ (z0 g i (D0.mono V c)) _ (e00 E b)) (aI rfl (aI rfl rfl))
 intro ak W
 obtain rfl:=oJ a
 exact aI rfl W
theorem E9(h:Hp)(b:List Value)(c:l0)(n:Y0.R h b c)(r:Bool)(a:S3 c=some r):
  Tr Tryz.prog 103 #[.agg b.toArray] h λv g=>v = .bool r/\g=h:=by
 obtain⟨k,l,e,p,f,m,rfl,rfl,i,j,d⟩:=B0 n
 obtain⟨rfl,o⟩:=Sl.len d
 unfold S3 at a
 dsimp only at a
 refine Tr.forget (J2 (args:=[.agg #[.int .i64 k,.int .i64 l,.slice e m.length f]]) (fn:=Tryz.f103) rfl ?_)
 refine trV a (q0g _ _ _ (z0 i j d)) λq a=>?_
 obtain rfl:=oJ a
 exact aI rfl (Sub.refl _)
theorem E0d(h:Hp)(b:Int)(e:I0 b)(r:l0×Bool)(a:D01 b=some r):
  Tr Tryz.prog 330 #[.int .i64 b] h λv d=>∃(c:List Value),v = .tuple #[.agg c.toArray,.bool r.2]/\Y0.R d c r.1/\Sub h d:=by
 unfold D01 at a
 refine J2 (args:=[.int .i64 b]) (fn:=Tryz.f330) rfl ?_
 refine trV a (j6 _ _ e 1 (by decide) 3 (by decide)) λg a=>?_
 refine ifB a (λf a=>?_) λf a=>?_
 ·obtain rfl:=oJ a
  exact⟨([.int .i64 0,.int .i64 0,.slice none 0 0]),rfl,(z0 (by decide) (by decide) (h02 R0 h)),(Sub.refl _)⟩
 ·obtain rfl:=oJ a
  exact⟨([.int .i64 b,.int .i64 1,.slice none 0 0]),rfl,(z0 e (by decide) (h02 R0 h)),(Sub.refl _)⟩
theorem w05(h:Hp)(N:List Value)(W:l0)(aX:Y0.R h N W)(x:Int)(Q:I0 x)(m:Option Addr)(V n:Nat)(k:J0)(l:M0.R h [.slice m V n] k)(f:Int)(u:I0 f)(r:l0×Bool)(b:m00 W x k f=some r):
  Tr Tryz.prog 277 #[.agg N.toArray,.int .i64 x,.slice m V n,.int .i64 f] h λv t=>∃(M:List Value),v = .tuple #[.agg M.toArray,.bool r.2]/\Y0.R t M r.1/\Sub h t:=by
 obtain⟨aV,G,ao,bN,az,aW,rfl,rfl,E,P,H⟩:=B0 aX
 obtain⟨rfl,bF⟩:=Sl.len H
 obtain⟨rfl,bG⟩:=Sl.len l
 unfold m00 at b
 dsimp only at b
 refine J2 (args:=[.agg #[.int .i64 aV,.int .i64 G,.slice ao aW.length az],.int .i64 x,.slice m k.length n,.int .i64 f]) (fn:=Tryz.f277) rfl ?_
 refine trM b (n5 _ _ _ (z0 E P H)) ?_
 rintro b8 b b3 U ⟨ba,rfl,af⟩
 have i:Sub h U:=af.sub
 have aY:=af.r
 obtain⟨ag,ah,L,bO,O,J,rfl,rfl,S,T,I⟩:=B0 aY
 obtain⟨rfl,bI⟩:=Sl.len I
 try dsimp only at b
 refine trV b (H7 _ _ _ (z0 E P (D0.mono i H))) λcb b=>?_
 refine trG b (λq=>j6 _ _ Q 0 (by decide) (IntKind.i64.wrap (G-1)) (P0 _)) λcd b=>?_
 refine trG b (λq=>j6 _ _ u 0 (by decide) (IntKind.i64.wrap (G-1)) (P0 _)) λce b=>?_
 refine trG b (λq=>S01 _ _ E _ _ _ _ (M0.mono i l)) λcf b=>?_
 refine ifB b (λaS b=>?_) λaS b=>?_
 ·obtain rfl:=oJ b
  exact⟨([.int .i64 ag,.int .i64 ah,.slice L J.length O]),rfl,(z0 S T I),i⟩
 ·obtain⟨K,aN,b⟩:=C0 b
  refine eX { vars:=[11,12],boxes:=[2],owns:=[],fuel:=true } (eX (λvs os t=>∃ d e j c B F C y,vs.tail = [.int .i64 d,.int .i64 e,.int .i64 j,.int .i64 c,.slice B F C]/\os = []/\Sub U t/\I0 d/\I0 e/\I0 j/\I0 c/\D0.R t [.slice B F C] y/\F5 k f (P1 vs) d e j c y=some K) (eX (λ_ _=>0) (aI (eX U0 ⟨x,0,ag,ah,L,J.length,O,J,rfl,rfl,(Sub.refl _),Q,(by decide),S,T,I,aN⟩) ?_)))
  rintro _ _ _ _ _ p bk ⟨d,e,j,c,B,F,C,y,⟨⟩,⟨⟩,g,D,bf,w,o,s,a⟩
  replace a:F5 k f p d e j c y=some K:=a
  obtain _|p:=p
  ·cases a
  rw[F5.eq_2]at a
  obtain⟨rfl,bH⟩:=Sl.len s
  refine ifB a (λaO a=>?_) λaO a=>?_
  ·refine ifB a (λaP a=>?_) λaP a=>?_
   ·refine ldI a (M0.mono (i.trans g) l) λca bg a=>?_
    refine ifB a (λaQ a=>?_) λaQ a=>?_
    ·refine Or.inr (Or.inr (Or.inl (aI (aI (by kernel_rfl) (by kernel_rfl)) ?_)))
     obtain⟨ai,aJ,a⟩:=C0 a
     obtain⟨av,bb,aE,aZ⟩:=Sl.getI (r:=Wp.int.toRp) (M0.mono (i.trans g) l) aJ (by decide)
     obtain⟨rfl,aT⟩:=aZ
     refine Or.inl (eX (.hel (.slice m k.length n) e 1 0) (aI ?_ ?_))
     ·intro bl bT
      exact aI av (aI rfl (aI rfl rfl))
     refine Or.inl (eX (.val (.int .i64 ai)) (aI ?_ ?_))
     ·intro bm a3
      exact eX _ (aI (O9.up a3 aE) (aI rfl (aI rfl rfl)))
     refine Or.inl (eX (.agg [.val (.int .i64 d),.val (.int .i64 ai),.val (.int .i64 c)]) (aI ?_ ?_))
     ·intro bn bU
      exact aI rfl (aI rfl rfl)
     refine Or.inr ?_
     refine Or.inr ?_
     refine Or.inl (eX 1 (aI (aI rfl rfl) ?_))
     refine trM a (R9 _ _ _ _ _ s _ _ (E1 D aT o)) ?_
     rintro aj a b4 bo ⟨ap,bP,aA,rfl,X,ab⟩
     obtain⟨rfl,bJ⟩:=Sl.len X
     refine aI (aI rfl ab) (aI (by first|exact trivial|exact rfl) ?_)
     refine aI trivial (aI (by first|exact trivial|exact rfl) ?_)
     exact C2 p ⟨c,(IntKind.i64.wrap (e+1)),j,(IntKind.i64.wrap (c+1)),ap,aj.length,aA,aj,rfl,rfl,(g.trans ab),o,(P0 _),w,(P0 _),X,a⟩
    ·refine Or.inr (Or.inr (Or.inl (aI (aI (by kernel_rfl) (by kernel_rfl)) ?_)))
     obtain⟨z,aK,a⟩:=C0 a
     obtain⟨aw,bc,aF,a0⟩:=Sl.getI (r:=Wp.int.toRp) (M0.mono (i.trans g) l) aK (by decide)
     obtain⟨rfl,bh⟩:=a0
     refine Or.inl (eX (.hel (.slice m k.length n) e 1 0) (aI ?_ ?_))
     ·intro bp bV
      exact aI aw (aI rfl (aI rfl rfl))
     refine Or.inl (eX (.val (.int .i64 z)) (aI ?_ ?_))
     ·intro bq a4
      exact eX _ (aI (O9.up a4 aF) (aI rfl (aI rfl rfl)))
     refine Or.inl (eX (.val (.int .i64 (IntKind.i64.wrap (0-z)))) (aI ?_ ?_))
     ·intro br bW
      exact aI rfl (aI rfl rfl)
     refine Or.inl (eX (.agg [.val (.int .i64 c),.val (.int .i64 (IntKind.i64.wrap (0-z))),.val (.int .i64 d)]) (aI ?_ ?_))
     ·intro bs bX
      exact aI rfl (aI rfl rfl)
     refine Or.inr ?_
     refine Or.inr ?_
     refine Or.inl (eX 1 (aI (aI rfl rfl) ?_))
     refine trM a (R9 _ _ _ _ _ s [.int .i64 c,.int .i64 (IntKind.i64.wrap (0-z)),.int .i64 d] (c,(IntKind.i64.wrap (0-z)),d) (E1 o (P0 _) D)) ?_
     rintro ak a b5 bt ⟨aq,bQ,aB,rfl,Y,ac⟩
     obtain⟨rfl,bK⟩:=Sl.len Y
     refine aI (aI rfl ac) (aI (by first|exact trivial|exact rfl) ?_)
     refine aI trivial (aI (by first|exact trivial|exact rfl) ?_)
     exact C2 p ⟨c,(IntKind.i64.wrap (e+1)),j,(IntKind.i64.wrap (c+1)),aq,ak.length,aB,ak,rfl,rfl,(g.trans ac),o,(P0 _),w,(P0 _),Y,a⟩
   ·refine ldI a (M0.mono (i.trans g) l) λcc bi a=>?_
    refine ifB a (λaR a=>?_) λaR a=>?_
    ·refine Or.inr (Or.inr (Or.inl (aI (aI (by kernel_rfl) (by kernel_rfl)) ?_)))
     obtain⟨al,aL,a⟩:=C0 a
     obtain⟨ax,bd,aG,a1⟩:=Sl.getI (r:=Wp.int.toRp) (M0.mono (i.trans g) l) aL (by decide)
     obtain⟨rfl,aU⟩:=a1
     refine Or.inl (eX (.hel (.slice m k.length n) e 1 0) (aI ?_ ?_))
     ·intro bu bY
      exact aI ax (aI rfl (aI rfl rfl))
     refine Or.inl (eX (.val (.int .i64 al)) (aI ?_ ?_))
     ·intro bv a5
      exact eX _ (aI (O9.up a5 aG) (aI rfl (aI rfl rfl)))
     refine Or.inl (eX (.agg [.val (.int .i64 d),.val (.int .i64 al),.val (.int .i64 f)]) (aI ?_ ?_))
     ·intro bx bZ
      exact aI rfl (aI rfl rfl)
     refine Or.inr ?_
     refine Or.inr ?_
     refine Or.inl (eX 1 (aI (aI rfl rfl) ?_))
     refine trM a (R9 _ _ _ _ _ s _ _ (E1 D aU u)) ?_
     rintro am a b6 bz ⟨ar,bR,aC,rfl,Z,ad⟩
     obtain⟨rfl,bL⟩:=Sl.len Z
     refine aI (aI rfl ad) (aI (by first|exact trivial|exact rfl) ?_)
     refine aI trivial (aI (by first|exact trivial|exact rfl) ?_)
     exact C2 p ⟨f,(IntKind.i64.wrap (e+1)),j,c,ar,am.length,aC,am,rfl,rfl,(g.trans ad),u,(P0 _),w,o,Z,a⟩
    ·refine Or.inr (Or.inr (Or.inl (aI (aI (by kernel_rfl) (by kernel_rfl)) ?_)))
     obtain⟨A,aM,a⟩:=C0 a
     obtain⟨ay,be,aH,a2⟩:=Sl.getI (r:=Wp.int.toRp) (M0.mono (i.trans g) l) aM (by decide)
     obtain⟨rfl,bj⟩:=a2
     refine Or.inl (eX (.hel (.slice m k.length n) e 1 0) (aI ?_ ?_))
     ·intro bA b0
      exact aI ay (aI rfl (aI rfl rfl))
     refine Or.inl (eX (.val (.int .i64 A)) (aI ?_ ?_))
     ·intro bB a6
      exact eX _ (aI (O9.up a6 aH) (aI rfl (aI rfl rfl)))
     refine Or.inl (eX (.val (.int .i64 (IntKind.i64.wrap (0-A)))) (aI ?_ ?_))
     ·intro bC b1
      exact aI rfl (aI rfl rfl)
     refine Or.inl (eX (.agg [.val (.int .i64 f),.val (.int .i64 (IntKind.i64.wrap (0-A))),.val (.int .i64 d)]) (aI ?_ ?_))
     ·intro bD b2
      exact aI rfl (aI rfl rfl)
     refine Or.inr ?_
     refine Or.inr ?_
     refine Or.inl (eX 1 (aI (aI rfl rfl) ?_))
     refine trM a (R9 _ _ _ _ _ s [.int .i64 f,.int .i64 (IntKind.i64.wrap (0-A)),.int .i64 d] (f,(IntKind.i64.wrap (0-A)),d) (E1 u (P0 _) D)) ?_
     rintro an a b7 bE ⟨au,bS,aD,rfl,aa,ae⟩
     obtain⟨rfl,bM⟩:=Sl.len aa
     refine aI (aI rfl ae) (aI (by first|exact trivial|exact rfl) ?_)
     refine aI trivial (aI (by first|exact trivial|exact rfl) ?_)
     exact C2 p ⟨f,(IntKind.i64.wrap (e+1)),j,c,au,an.length,aD,an,rfl,rfl,(g.trans ae),u,(P0 _),w,o,aa,a⟩
  ·obtain rfl:=oJ a
   try dsimp only[V0,Z0]at b
   obtain rfl:=oJ b
   exact⟨([.int .i64 j,.int .i64 c,.slice B y.length C]),rfl,(z0 w o s),(i.trans g)⟩
theorem C07(h:Hp)(f:List Value)(j:l0)(B:Y0.R h f j)(b:Option Addr)(i c:Nat)(d:J0)(l:M0.R h [.slice b i c] d)(r:l0×Bool)(a:x00 j d=some r):
  Tr Tryz.prog 281 #[.agg f.toArray,.slice b i c] h λv g=>∃(e:List Value),v = .tuple #[.agg e.toArray,.bool r.2]/\Y0.R g e r.1/\Sub h g:=by
 obtain⟨y,z,o,M,q,A,rfl,rfl,t,u,k⟩:=B0 B
 obtain⟨rfl,J⟩:=Sl.len k
 obtain⟨rfl,K⟩:=Sl.len l
 unfold x00 at a
 dsimp only at a
 refine J2 (args:=[.agg #[.int .i64 y,.int .i64 z,.slice o A.length q],.slice b d.length c]) (fn:=Tryz.f281) rfl ?_
 refine trM a (w05 _ _ _ (z0 t u k) 0 (by decide) _ _ _ _ l 0 (by decide)) ?_
 rintro D a O I ⟨H,rfl,m,C⟩
 obtain⟨P,Q⟩:=D
 dsimp only at a m
 obtain⟨E,F,p,N,s,G,rfl,rfl,w,x,n⟩:=B0 m
 obtain⟨rfl,L⟩:=Sl.len n
 try dsimp only at a
 obtain rfl:=oJ a
 exact⟨([.int .i64 E,.int .i64 F,.slice p G.length s]),rfl,(z0 w x n),C⟩
theorem F0d(h:Hp)(B:Int)(S:I0 B)(w:Option Addr)(V y:Nat)(n:Y1)(E:Z1.R h [.slice w V y] n)(r:l0×Bool)(b:E01 B n=some r):
  Tr Tryz.prog 280 #[.int .i64 B,.slice w V y] h λv t=>∃(M:List Value),v = .tuple #[.agg M.toArray,.bool r.2]/\Y0.R t M r.1/\Sub h t:=by
 obtain⟨rfl,bf⟩:=Sl.len E
 unfold E01 at b
 refine J2 (args:=[.int .i64 B,.slice w n.length y]) (fn:=Tryz.f280) rfl ?_
 refine trV b (A0d _ _ S _ _ _ _ E) λbu b=>?_
 refine ifB b (λar b=>?_) λar b=>?_
 ·obtain rfl:=oJ b
  exact⟨([.int .i64 0,.int .i64 0,.slice none 0 0]),rfl,(z0 (by decide) (by decide) (h02 R0 h)),(Sub.refl _)⟩
 ·refine trM b (E0d _ _ S) ?_
  rintro aS b bt aE ⟨aY,rfl,W,aa⟩
  obtain⟨bv,bx⟩:=aS
  dsimp only at b W
  obtain⟨aT,aU,ad,bm,ai,ab,rfl,rfl,au,av,X⟩:=B0 W
  obtain⟨rfl,bi⟩:=Sl.len X
  try dsimp only at b
  obtain⟨J,ap,b⟩:=C0 b
  refine eX { vars:=[8],boxes:=[1],owns:=[],fuel:=true } (eX (λvs os t=>∃ m u8 o x D z u,vs.tail = [.int .i64 m,.int .i64 u8,.int .i64 o,.slice x D z]/\os = []/\Sub aE t/\I0 m/\I0 u8/\I0 o/\D0.R t [.slice x D z] u/\t7 n (P1 vs) m u8 o u=some J) (eX (λ_ _=>0) (aI (eX U0 ⟨0,aT,aU,ad,ab.length,ai,ab,rfl,rfl,(Sub.refl _),(by decide),au,av,X,ap⟩) ?_)))
  rintro _ _ _ _ A a3 ⟨m,u8,o,x,D,z,u,⟨⟩,⟨⟩,H,a0,T,U,F,c⟩
  replace c:t7 n A m u8 o u=some J:=c
  obtain _|A:=A
  ·cases c
  rw[t7.eq_2]at c
  obtain⟨rfl,bg⟩:=Sl.len F
  refine ifB c (λaq c=>?_) λaq c=>?_
  ·refine Or.inr (Or.inr (Or.inr (Or.inr (eX 10 (aI (aI (by kernel_rfl) (by kernel_rfl)) ?_)))))
   obtain⟨aP,an,c⟩:=C0 c
   obtain⟨ag,aW,al,G⟩:=Sl.getI (r:=M0.toRp) (Z1.mono (aa.trans H) E) an (by decide)
   obtain⟨ac,bl,ah,rfl⟩:=Wp.slice_cell G
   obtain⟨rfl,bh⟩:=Sl.len G
   refine Or.inl (eX (.hel (.slice w n.length y) m 1 0) (aI ?_ ?_))
   ·intro a4 bp
    exact aI ag (aI rfl (aI rfl rfl))
   refine Or.inl (eX (.val (.slice ac aP.length ah)) (aI ?_ ?_))
   ·intro a5 aN
    exact eX _ (aI (O9.up aN al) (aI rfl (aI rfl rfl)))
   obtain⟨aQ,ao,c⟩:=C0 c
   obtain⟨aR,I⟩:=aQ
   try dsimp only at c
   obtain⟨j,k,a⟩:=aR
   try dsimp only at c
   refine Or.inr (eX (λv g=>∃(i:Value),v = .tuple #[i,.bool I]/\(λv g=>∃(d:Option Addr) (f:Nat),v = .agg #[.int .i64 j,.int .i64 k,.slice d a.length f]/\I0 j/\I0 k/\D0.R g [.slice d a.length f] a/\a.length<=9223372036854775807) i g) (aI (λv P Q l q=>by obtain⟨i,e,C⟩:=q;exact⟨i,e,(by obtain⟨d,f,e,p,s,f2,f3⟩:=C;exact⟨d,f,e,p,s,D0.mono l f2,f3⟩)⟩) (aI ?_ ?_)))
   ·intro a6 Z
    refine Tr.mono (C07 _ _ _ (z0 T U (D0.mono Z F)) _ _ _ _ (M0.mono Z G) _ ao) ?_
    rintro _ be ⟨aX,rfl,aJ,l⟩
    obtain⟨bz,bA,K,bn,N,bB,rfl,am,aw,ax,Y⟩:=B0 aJ
    cases am
    obtain⟨rfl,aF⟩:=Sl.len Y
    exact aI o01 (aI l ⟨(.agg #[.int .i64 j,.int .i64 k,.slice K a.length N]),rfl,⟨K,N,rfl,aw,ax,Y,aF⟩⟩)
   refine Or.inr (eX (λv g=>∃(i:Value),v = .tuple #[i,.bool I]/\(λv g=>∃(d:Option Addr) (f:Nat),v = .agg #[.int .i64 j,.int .i64 k,.slice d a.length f]/\I0 j/\I0 k/\D0.R g [.slice d a.length f] a/\a.length<=9223372036854775807) i g) (aI (λv P Q l q=>by obtain⟨i,e,C⟩:=q;exact⟨i,e,(by obtain⟨d,f,e,p,s,f2,f3⟩:=C;exact⟨d,f,e,p,s,D0.mono l f2,f3⟩)⟩) (aI ?_ ?_)))
   ·intro ba bq
    rintro _ ⟨_,rfl,⟨L,O,rfl,ay,az,aK,aG⟩⟩
    exact aI o01 (aI (Sub.refl _) ⟨(.agg #[.int .i64 j,.int .i64 k,.slice L a.length O]),rfl,⟨L,O,rfl,ay,az,aK,aG⟩⟩)
   refine Or.inr (eX (λv g=>∃(d:Option Addr) (f:Nat),v = .agg #[.int .i64 j,.int .i64 k,.slice d a.length f]/\I0 j/\I0 k/\D0.R g [.slice d a.length f] a/\a.length<=9223372036854775807) (aI (λv P Q l q=>by obtain⟨d,f,e,p,s,f2,f3⟩:=q;exact⟨d,f,e,p,s,D0.mono l f2,f3⟩) (aI ?_ ?_)))
   ·intro bb br
    rintro _ ⟨_,rfl,⟨ae,aj,rfl,aA,aB,aL,aH⟩⟩
    exact aI o01 (aI (Sub.refl _) ⟨ae,aj,rfl,aA,aB,aL,aH⟩)
   refine Or.inl (eX (.val (.bool I)) (aI ?_ ?_))
   ·intro bc bs
    rintro _ ⟨_,rfl,⟨aV,aZ,rfl,a1,a2,bo,bj⟩⟩
    exact aI rfl (aI rfl rfl)
   intro bd aO
   rintro _ ⟨af,ak,rfl,aC,aD,aM,bk⟩
   rintro _ _
   rintro _ _
   exact C2 A ⟨(IntKind.i64.wrap (m+1)),j,k,af,a.length,ak,a,rfl,rfl,(H.trans aO),(P0 _),aC,aD,aM,c⟩
  ·obtain rfl:=oJ c
   try dsimp only[V0,Z0]at b
   obtain rfl:=oJ b
   exact⟨([.int .i64 u8,.int .i64 o,.slice x u.length z]),rfl,(z0 T U F),(aa.trans H)⟩
theorem V0f(h:Hp)(G:List Value)(J:l0)(ad:Y0.R h G J)(r:l9)(u:o02 J=some r):
  Tr Tryz.prog 376 #[.agg G.toArray] h λv n=>∃(E:Option Addr) (I F:Nat),v = .slice E I F/\k0i.R n [.slice E I F] r/\Sub h n:=by
 obtain⟨ab,ac,K,av,M,x,rfl,rfl,ak,al,B⟩:=B0 ad
 obtain⟨rfl,ar⟩:=Sl.len B
 unfold o02 at u
 dsimp only at u
 refine J2 (args:=[.agg #[.int .i64 ab,.int .i64 ac,.slice K x.length M]]) (fn:=Tryz.f376) rfl ?_
 obtain⟨C,T,u⟩:=C0 u
 refine eX { vars:=[4],boxes:=[],owns:=[0],fuel:=true } (eX (λvs os n=>∃ l A w,vs.tail = [.int .i64 l]/\os = [A]/\Sub h n/\I0 l/\F2 (C5.R n) A w/\V7 x (P1 vs) l w=some C) (eX (λ_ _=>0) (aI (eX U0 ⟨0,[],([]:l9),rfl,rfl,(Sub.refl _),(by decide),(show F2 (C5.R h) ([]:List (List Value)) ([]:l9) from trivial),T⟩) ?_)))
 rintro _ A y aa ⟨l,aE,w,⟨⟩,⟨⟩,z,am,H,f⟩
 replace f:V7 x y l w=some C:=f
 obtain _|y:=y
 ·cases f
 rw[V7.eq_2]at f
 refine ifB f (λZ f=>?_) λZ f=>?_
 ·obtain⟨D,U,f⟩:=C0 f
  refine eX { vars:=[5],boxes:=[],owns:=[0],fuel:=true } (eX (λvs os n=>∃ u8 q m,vs.tail = [.int .i64 u8]/\os = [q]/\Sub aa n/\I0 u8/\F2 (C5.R n) q m/\K4 x l (P1 vs) u8 m=some D) (eX (λ_ _=>0) (aI (eX U0 ⟨(IntKind.i64.wrap (l+1)),A,w,rfl,rfl,(Sub.refl _),(P0 _),H,U⟩) ?_)))
  rintro _ q s k ⟨u8,aF,m,⟨⟩,⟨⟩,t,an,g,e⟩
  replace e:K4 x l s u8 m=some D:=e
  obtain _|s:=s
  ·cases e
  rw[K4.eq_2]at e
  refine ifB e (λV e=>?_) λV e=>?_
  ·refine ld e (D0.mono (z.trans t) B) λaA ai ae e=>?_
   obtain⟨c,aB,a,rfl,rfl,o,ao,i⟩:=M1 ae
   try dsimp only at e
   refine ld e (D0.mono (z.trans t) B) λaC aj af e=>?_
   obtain⟨d,aD,b,rfl,rfl,p,ap,j⟩:=M1 af
   try dsimp only at e
   refine ifB e (λW e=>?_) λW e=>?_
   ·obtain⟨aw,P,e⟩:=C0 e
    refine aI (T1 P (by first|rw[F2.length g,F2.length (show F2 (C5.R k) ([[.int .i64 (if b<a then b else a),.int .i64 (if b>a then b else a)]]:List (List Value)) [((if b<a then b else a),(if b>a then b else a))] from⟨(Q2 (Y8 j i) (Y8 j i)),trivial⟩)]|exact congrArg (·+1) (F2.length g))) ?_
    refine ifB e (λX e=>?_) λX e=>?_
    ·obtain⟨ax,Q,e⟩:=C0 e
     refine aI (T1 Q (by first|rw[F2.length (F2.append g (show F2 (C5.R k) ([[.int .i64 (if b<a then b else a),.int .i64 (if b>a then b else a)]]:List (List Value)) [((if b<a then b else a),(if b>a then b else a))] from⟨(Q2 (Y8 j i) (Y8 j i)),trivial⟩)),F2.length (show F2 (C5.R k) ([[.int .i64 (if d<c then d else c),.int .i64 (if d>c then d else c)]]:List (List Value)) [((if d<c then d else c),(if d>c then d else c))] from⟨(Q2 (Y8 p o) (Y8 p o)),trivial⟩)]|exact congrArg (·+1) (F2.length (F2.append g (show F2 (C5.R k) ([[.int .i64 (if b<a then b else a),.int .i64 (if b>a then b else a)]]:List (List Value)) [((if b<a then b else a),(if b>a then b else a))] from⟨(Q2 (Y8 j i) (Y8 j i)),trivial⟩))))) ?_
     exact C2 s ⟨(IntKind.i64.wrap (u8+1)),((q++([[.int .i64 (if b<a then b else a),.int .i64 (if b>a then b else a)]]:List (List Value)))++([[.int .i64 (if d<c then d else c),.int .i64 (if d>c then d else c)]]:List (List Value))),((m ++ [((if b<a then b else a),(if b>a then b else a))]) ++ [((if d<c then d else c),(if d>c then d else c))]),rfl,rfl,t,(P0 _),(F2.append (F2.append g (show F2 (C5.R k) ([[.int .i64 (if b<a then b else a),.int .i64 (if b>a then b else a)]]:List (List Value)) [((if b<a then b else a),(if b>a then b else a))] from⟨(Q2 (Y8 j i) (Y8 j i)),trivial⟩)) (show F2 (C5.R k) ([[.int .i64 (if d<c then d else c),.int .i64 (if d>c then d else c)]]:List (List Value)) [((if d<c then d else c),(if d>c then d else c))] from⟨(Q2 (Y8 p o) (Y8 p o)),trivial⟩)),e⟩
    ·exact C2 s ⟨(IntKind.i64.wrap (u8+1)),(q++([[.int .i64 (if b<a then b else a),.int .i64 (if b>a then b else a)]]:List (List Value))),(m ++ [((if b<a then b else a),(if b>a then b else a))]),rfl,rfl,t,(P0 _),(F2.append g (show F2 (C5.R k) ([[.int .i64 (if b<a then b else a),.int .i64 (if b>a then b else a)]]:List (List Value)) [((if b<a then b else a),(if b>a then b else a))] from⟨(Q2 (Y8 j i) (Y8 j i)),trivial⟩)),e⟩
   ·refine ifB e (λY e=>?_) λY e=>?_
    ·obtain⟨ay,S,e⟩:=C0 e
     refine aI (T1 S (by first|rw[F2.length g,F2.length (show F2 (C5.R k) ([[.int .i64 (if d<c then d else c),.int .i64 (if d>c then d else c)]]:List (List Value)) [((if d<c then d else c),(if d>c then d else c))] from⟨(Q2 (Y8 p o) (Y8 p o)),trivial⟩)]|exact congrArg (·+1) (F2.length g))) ?_
     exact C2 s ⟨(IntKind.i64.wrap (u8+1)),(q++([[.int .i64 (if d<c then d else c),.int .i64 (if d>c then d else c)]]:List (List Value))),(m ++ [((if d<c then d else c),(if d>c then d else c))]),rfl,rfl,t,(P0 _),(F2.append g (show F2 (C5.R k) ([[.int .i64 (if d<c then d else c),.int .i64 (if d>c then d else c)]]:List (List Value)) [((if d<c then d else c),(if d>c then d else c))] from⟨(Q2 (Y8 p o) (Y8 p o)),trivial⟩)),e⟩
    ·exact C2 s ⟨(IntKind.i64.wrap (u8+1)),q,m,rfl,rfl,t,(P0 _),g,e⟩
  ·obtain rfl:=oJ e
   try dsimp only[V0,Z0]at f
   exact C2 y ⟨(IntKind.i64.wrap (l+1)),q,m,rfl,rfl,(z.trans t),(P0 _),g,f⟩
 ·obtain rfl:=oJ f
  try dsimp only[V0,Z0]at u
  intro az aq O
  obtain⟨L,N,rfl,ag,ah,au⟩:=H1.out (r:=C5.toRp) O H
  obtain rfl:=oJ u
  exact⟨L,w.length,N,rfl,ag,(z.trans ah)⟩
theorem F0c(h:Hp)(d:List Value)(i:l0)(w:Y0.R h d i)(r:Y5×Bool)(a:Y9 i=some r):
  Tr Tryz.prog 349 #[.agg d.toArray] h λv e=>∃(c:List Value),v = .tuple #[.agg c.toArray,.bool r.2]/\C5.R e c r.1/\Sub h e:=by
 obtain⟨s,t,l,G,m,u,rfl,rfl,f,g,b⟩:=B0 w
 obtain⟨rfl,E⟩:=Sl.len b
 unfold Y9 at a
 dsimp only at a
 refine J2 (args:=[.agg #[.int .i64 s,.int .i64 t,.slice l u.length m]]) (fn:=Tryz.f349) rfl ?_
 refine trV a (H7 _ _ _ (z0 f g b)) λJ a=>?_
 refine ifB a (λn a=>?_) λn a=>?_
 ·obtain rfl:=oJ a
  exact⟨([.int .i64 0,.int .i64 0]),rfl,(Q2 (by decide) (by decide)),(Sub.refl _)⟩
 ·refine trM a (V0f _ _ _ (z0 f g b)) ?_
  rintro K a I D ⟨A,H,C,rfl,j,k⟩
  obtain⟨rfl,F⟩:=Sl.len j
  refine ifB a (λo a=>?_) λo a=>?_
  ·obtain rfl:=oJ a
   exact⟨([.int .i64 0,.int .i64 0]),rfl,(Q2 (by decide) (by decide)),k⟩
  ·refine ld a j λL B x a=>?_
   obtain⟨y,z,rfl,rfl,p,q⟩:=K03 x
   try dsimp only at a
   obtain rfl:=oJ a
   exact⟨([.int .i64 y,.int .i64 z]),rfl,(Q2 p q),k⟩
theorem z0b(h:Hp)(b:Int)(m:I0 b)(c:List Value)(d:Y5)(l:C5.R h c d)(r:Int)(a:I02 b d=some r):
  Tr Tryz.prog 377 #[.int .i64 b,.agg c.toArray] h λv e=>v = .int .i64 r/\e=h:=by
 obtain⟨j,k,rfl,rfl,n,o⟩:=K03 l
 unfold I02 at a
 dsimp only at a
 refine Tr.forget (J2 (args:=[.int .i64 b,.agg #[.int .i64 j,.int .i64 k]]) (fn:=Tryz.f377) rfl ?_)
 refine ifB a (λf a=>?_) λf a=>?_
 ·refine ifB a (λg a=>?_) λg a=>?_
  ·obtain rfl:=oJ a
   exact aI rfl (Sub.refl _)
  ·obtain rfl:=oJ a
   exact aI rfl (Sub.refl _)
 ·refine ifB a (λi a=>?_) λi a=>?_
  ·obtain rfl:=oJ a
   exact aI rfl (Sub.refl _)
  ·obtain rfl:=oJ a
   exact aI rfl (Sub.refl _)
theorem E08(h:Hp)(y:List Value)(F:l0)(ak:Y0.R h y F)(z:List Value)(I:Y5)(al:C5.R h z I)(r:l0×Bool)(b:W7 F I=some r):
  Tr Tryz.prog 350 #[.agg y.toArray,.agg z.toArray] h λv e=>∃(x:List Value),v = .tuple #[.agg x.toArray,.bool r.2]/\Y0.R e x r.1/\Sub h e:=by
 obtain⟨G,H,O,aH,S,n,rfl,rfl,l,A,k⟩:=B0 ak
 obtain⟨rfl,aD⟩:=Sl.len k
 obtain⟨o,p,rfl,rfl,B,C⟩:=K03 al
 unfold W7 at b
 dsimp only at b
 refine J2 (args:=[.agg #[.int .i64 G,.int .i64 H,.slice O n.length S],.agg #[.int .i64 o,.int .i64 p]]) (fn:=Tryz.f350) rfl ?_
 refine trV b (H7 _ _ _ (z0 l A k)) λaS b=>?_
 refine ifB b (λab b=>?_) λab b=>?_
 ·refine trM b (n5 _ _ _ (z0 l A k)) ?_
  rintro aW b aR aj ⟨aw,rfl,M⟩
  have ao:Sub h aj:=M.sub
  have an:=M.r
  obtain⟨aq,ar,Q,aK,U,au,rfl,rfl,ah,ai,K⟩:=B0 an
  obtain⟨rfl,aG⟩:=Sl.len K
  try dsimp only at b
  obtain rfl:=oJ b
  exact⟨([.int .i64 aq,.int .i64 ar,.slice Q au.length U]),rfl,(z0 ah ai K),ao⟩
 ·obtain⟨w,Z,b⟩:=C0 b
  refine eX { vars:=[7],boxes:=[3],owns:=[],fuel:=true } (eX (λvs os e=>∃ d u8 c g m i f,vs.tail = [.int .i64 d,.int .i64 u8,.int .i64 c,.slice g m i]/\os = []/\Sub h e/\I0 d/\I0 u8/\I0 c/\D0.R e [.slice g m i] f/\Q4 n o p (P1 vs) d u8 c f=some w) (eX (λ_ _=>0) (aI (eX U0 ⟨0,G,(IntKind.i64.wrap (H-1)),none,0,0,[],rfl,rfl,(Sub.refl _),(by decide),l,(P0 _),(h02 R0 h),Z⟩) ?_)))
  rintro _ _ _ _ j ay ⟨d,u8,c,g,m,i,f,⟨⟩,⟨⟩,s,ax,D,E,q,a⟩
  replace a:Q4 n o p j d u8 c f=some w:=a
  obtain _|j:=j
  ·cases a
  rw[Q4.eq_2]at a
  obtain⟨rfl,aE⟩:=Sl.len q
  refine ifB a (λaa a=>?_) λaa a=>?_
  ·refine ld a (D0.mono s k) λaT av am a=>?_
   obtain⟨aU,ap,aV,rfl,rfl,ac,ad,ae⟩:=M1 am
   try dsimp only at a
   refine Or.inr (Or.inr (Or.inl (aI (aI (by kernel_rfl) (by kernel_rfl)) ?_)))
   obtain⟨t,X,a⟩:=C0 a
   obtain⟨aL,V,a⟩:=C0 a
   have af:I0 t:=K1 V
   refine Or.inl (eX (.val (.int .i64 t)) (aI ?_ ?_))
   ·intro az aN
    exact Tr.val (z0b _ _ ac _ _ (Q2 B C) _ X) (aI rfl (aI rfl rfl))
   obtain⟨u,Y,a⟩:=C0 a
   obtain⟨aM,W,a⟩:=C0 a
   have ag:I0 u:=K1 W
   refine Or.inl (eX (.val (.int .i64 u)) (aI ?_ ?_))
   ·intro aA aO
    exact Tr.val (z0b _ _ ae _ _ (Q2 B C) _ Y) (aI rfl (aI rfl rfl))
   refine Or.inl (eX (.agg [.val (.int .i64 t),.val (.int .i64 ap),.val (.int .i64 u)]) (aI ?_ ?_))
   ·intro aB aP
    exact aI rfl (aI rfl rfl)
   refine Or.inr ?_
   refine Or.inr ?_
   refine Or.inl (eX 1 (aI (aI rfl rfl) ?_))
   refine trM a (R9 _ _ _ _ _ q _ _ (E1 af ad ag)) ?_
   rintro N a aQ aC ⟨P,aJ,T,rfl,J,L⟩
   obtain⟨rfl,aF⟩:=Sl.len J
   refine aI (aI rfl L) (aI (by first|exact trivial|exact rfl) ?_)
   refine aI trivial (aI (by first|exact trivial|exact rfl) ?_)
   exact C2 j ⟨(IntKind.i64.wrap (d+1)),u8,c,P,N.length,T,N,rfl,rfl,(s.trans L),(P0 _),D,E,J,a⟩
  ·obtain rfl:=oJ a
   try dsimp only[V0,Z0]at b
   obtain rfl:=oJ b
   exact⟨([.int .i64 u8,.int .i64 c,.slice g f.length i]),rfl,(z0 D E q),s⟩
theorem G0d(h:Hp)(j:List Value)(m:l0)(K:Y0.R h j m)(r:l0×Y5×Bool)(a:F01 m=some r):
  Tr Tryz.prog 338 #[.agg j.toArray] h λv d=>∃(g:List Value) (i:List Value),v = .tuple #[.agg g.toArray,.agg i.toArray,.bool r.2.2]/\Y0.R d g r.1/\C5.R d i r.2.1/\Sub h d:=by
 obtain⟨H,I,t,ag,x,J,rfl,rfl,e,f,b⟩:=B0 K
 obtain⟨rfl,ad⟩:=Sl.len b
 unfold F01 at a
 dsimp only at a
 refine J2 (args:=[.agg #[.int .i64 H,.int .i64 I,.slice t J.length x]]) (fn:=Tryz.f338) rfl ?_
 refine trM a (F0c _ _ _ (z0 e f b)) ?_
 rintro O a ak F ⟨Z,rfl,n,c⟩
 obtain⟨am,an⟩:=O
 dsimp only at a n
 obtain⟨P,Q,rfl,rfl,k,l⟩:=K03 n
 try dsimp only at a
 refine ifB a (λA a=>?_) λA a=>?_
 ·refine trM a (n5 _ _ _ (z0 e f (D0.mono c b))) ?_
  rintro ao a al G ⟨aa,rfl,s⟩
  have M:Sub F G:=s.sub
  have L:=s.r
  obtain⟨S,T,u,ah,y,U,rfl,rfl,B,C,o⟩:=B0 L
  obtain⟨rfl,ae⟩:=Sl.len o
  try dsimp only at a
  obtain rfl:=oJ a
  exact⟨([.int .i64 S,.int .i64 T,.slice u U.length y]),([.int .i64 0,.int .i64 0]),rfl,(z0 B C o),(Q2 (by decide) (by decide)),(c.trans M)⟩
 ·refine trM a (E08 _ _ _ (z0 e f (D0.mono c b)) _ _ (Q2 k l)) ?_
  rintro V a aj ac ⟨ab,rfl,p,N⟩
  obtain⟨ap,aq⟩:=V
  dsimp only at a p
  obtain⟨W,X,w,ai,z,Y,rfl,rfl,D,E,q⟩:=B0 p
  obtain⟨rfl,af⟩:=Sl.len q
  try dsimp only at a
  refine Or.inr (Or.inr (Or.inl (aI (aI (by kernel_rfl) (by kernel_rfl)) ?_)))
  refine Or.inr ?_
  refine Or.inr ?_
  refine Or.inl (eX 0 (aI (aI rfl rfl) ?_))
  refine aI trivial (aI (by first|exact trivial|exact rfl) ?_)
  refine aI trivial (aI (by first|exact trivial|exact rfl) ?_)
  obtain rfl:=oJ a
  exact⟨([.int .i64 W,.int .i64 X,.slice w Y.length z]),([.int .i64 P,.int .i64 Q]),rfl,(z0 D E q),(Q2 k l),(c.trans N)⟩
theorem W0f(h:Hp)(C:List Value)(H:l0)(av:Y0.R h C H)(r:l0×l9)(b:p02 H=some r):
  Tr Tryz.prog 310 #[.agg C.toArray] h λv c=>∃(B:List Value) (z:Option Addr) (G A:Nat),v = .tuple #[.agg B.toArray,.slice z G A]/\Y0.R c B r.1/\k0i.R c [.slice z G A] r.2/\Sub h c:=by
 obtain⟨aq,ar,U,aS,Z,au,rfl,rfl,ak,al,I⟩:=B0 av
 obtain⟨rfl,aM⟩:=Sl.len I
 unfold p02 at b
 dsimp only at b
 refine J2 (args:=[.agg #[.int .i64 aq,.int .i64 ar,.slice U au.length Z]]) (fn:=Tryz.f310) rfl ?_
 refine trM b (n5 _ _ _ (z0 ak al I)) ?_
 rintro a0 b aZ u ⟨aE,rfl,Q⟩
 have N:Sub h u:=Q.sub
 have aw:=Q.r
 obtain⟨aC,aD,W,aU,ab,T,rfl,rfl,ao,ap,M⟩:=B0 aw
 obtain⟨rfl,aP⟩:=Sl.len M
 try dsimp only at b
 obtain⟨y,ah,b⟩:=C0 b
 refine eX { vars:=[6],boxes:=[2],owns:=[0],fuel:=true } (eX (λvs os c=>∃ i e f l w m u8 q g,vs.tail = [.int .i64 i,.int .i64 e,.int .i64 f,.slice l w m]/\os = [q]/\Sub u c/\I0 i/\I0 e/\I0 f/\D0.R c [.slice l w m] u8/\F2 (C5.R c) q g/\U6 (P1 vs) i e f u8 g=some y) (eX (λ_ _=>0) (aI (eX U0 ⟨0,aC,aD,W,T.length,ab,T,[],([]:l9),rfl,rfl,(Sub.refl _),(by decide),ao,ap,M,(show F2 (C5.R u) ([]:List (List Value)) ([]:l9) from trivial),ah⟩) ?_)))
 rintro _ _ _ _ q o aJ ⟨i,e,f,l,w,m,u8,a4,g,⟨⟩,⟨⟩,x,aH,s,t,p,n,a⟩
 replace a:U6 o i e f u8 g=some y:=a
 obtain _|o:=o
 ·cases a
 rw[U6.eq_2]at a
 obtain⟨rfl,aN⟩:=Sl.len p
 refine ifB a (λai a=>?_) λai a=>?_
 ·refine trM a (G0d _ _ _ (z0 s t p)) ?_
  rintro az a aW F ⟨aF,aG,rfl,J,L,d⟩
  obtain⟨a1,a2,a3⟩:=az
  dsimp only at a J L
  obtain⟨aA,aB,V,aT,aa,S,rfl,rfl,am,an,K⟩:=B0 J
  obtain⟨rfl,aO⟩:=Sl.len K
  try dsimp only at a
  obtain⟨j,k,rfl,rfl,D,E⟩:=K03 L
  try dsimp only at a
  refine ifB a (λaj a=>?_) λaj a=>?_
  ·intro aX aK ae
   obtain⟨X,ac,rfl,ax,O,aQ⟩:=H1.out (r:=C5.toRp) ae (F2.up (r:=C5.toRp) d n)
   obtain rfl:=oJ a
   try dsimp only[j4,L4]at b
   obtain rfl:=oJ b
   exact⟨([.int .i64 e,.int .i64 f,.slice l u8.length m]),X,g.length,ac,rfl,(z0 s t (D0.mono (d.trans O) p)),ax,(((N.trans x).trans d).trans O)⟩
  ·obtain⟨aV,ag,a⟩:=C0 a
   refine aI (T1 ag (by first|rw[F2.length (F2.up (r:=C5.toRp) d n),F2.length (show F2 (C5.R F) ([[.int .i64 j,.int .i64 k]]:List (List Value)) [(j,k)] from⟨(Q2 D E),trivial⟩)]|exact congrArg (·+1) (F2.length (F2.up (r:=C5.toRp) d n)))) ?_
   exact C2 o ⟨(IntKind.i64.wrap (i+1)),aA,aB,V,S.length,aa,S,(q++([[.int .i64 j,.int .i64 k]]:List (List Value))),(g ++ [(j,k)]),rfl,rfl,(x.trans d),(P0 _),am,an,K,(F2.append (F2.up (r:=C5.toRp) d n) (show F2 (C5.R F) ([[.int .i64 j,.int .i64 k]]:List (List Value)) [(j,k)] from⟨(Q2 D E),trivial⟩)),a⟩
 ·obtain rfl:=oJ a
  try dsimp only[V0,Z0]at b
  intro aY aL af
  obtain⟨Y,ad,rfl,ay,P,aR⟩:=H1.out (r:=C5.toRp) af n
  obtain rfl:=oJ b
  exact⟨([.int .i64 e,.int .i64 f,.slice l u8.length m]),Y,g.length,ad,rfl,(z0 s t (D0.mono P p)),ay,((N.trans x).trans P)⟩
theorem N06(h:Hp)(g:List Value)(n:l0)(B:Y0.R h g n)(r:l0×Bool)(a:Z9 n=some r):
  Tr Tryz.prog 276 #[.agg g.toArray] h λv j=>∃(f:List Value),v = .tuple #[.agg f.toArray,.bool r.2]/\Y0.R j f r.1/\Sub h j:=by
 obtain⟨z,o,t,H,u,A,rfl,rfl,k,l,b⟩:=B0 B
 obtain⟨rfl,F⟩:=Sl.len b
 unfold Z9 at a
 dsimp only at a
 refine J2 (args:=[.agg #[.int .i64 z,.int .i64 o,.slice t A.length u]]) (fn:=Tryz.f276) rfl ?_
 refine trM a (n5 _ _ _ (z0 k l b)) ?_
 rintro K a J y ⟨E,rfl,p⟩
 have d:Sub h y:=p.sub
 have C:=p.r
 obtain⟨q,D,e,I,i,s,rfl,rfl,m,x,c⟩:=B0 C
 obtain⟨rfl,G⟩:=Sl.len c
 try dsimp only at a
 refine trV a (H7 _ _ _ (z0 k l (D0.mono d b))) λL a=>?_
 refine ifB a (λw a=>?_) λw a=>?_
 ·obtain rfl:=oJ a
  exact⟨([.int .i64 q,.int .i64 D,.slice e s.length i]),rfl,(z0 m x c),d⟩
 ·obtain rfl:=oJ a
  exact⟨([.int .i64 q,.int .i64 (IntKind.i64.wrap (o+1)),.slice e s.length i]),rfl,(z0 m (P0 _) c),d⟩
theorem o09(h:Hp)(G:List Value)(M:l0)(af:Y0.R h G M)(r:N0)(g:F8 M=some r):
  Tr Tryz.prog 304 #[.agg G.toArray] h λv d=>∃(E:Option Addr) (L F:Nat),v = .slice E L F/\D0.R d [.slice E L F] r/\Sub h d:=by
 obtain⟨o,p,P,ar,S,s,rfl,rfl,x,I,z⟩:=B0 af
 obtain⟨rfl,ao⟩:=Sl.len z
 unfold F8 at g
 dsimp only at g
 refine J2 (args:=[.agg #[.int .i64 o,.int .i64 p,.slice P s.length S]]) (fn:=Tryz.f304) rfl ?_
 obtain⟨C,Y,g⟩:=C0 g
 refine eX { vars:=[4],boxes:=[],owns:=[0],fuel:=true } (eX (λvs os d=>∃ c w j,vs.tail = [.int .i64 c]/\os = [w]/\Sub h d/\I0 c/\F2 (R0.R d) w j/\p5 p o s (P1 vs) c j=some C) (eX (λ_ _=>0) (aI (eX U0 ⟨0,[],([]:N0),rfl,rfl,(Sub.refl _),(by decide),(show F2 (R0.R h) ([]:List (List Value)) ([]:N0) from trivial),Y⟩) ?_)))
 rintro _ w t an ⟨c,aC,j,⟨⟩,⟨⟩,u,y,H,b⟩
 replace b:p5 p o s t c j=some C:=b
 obtain _|t:=t
 ·cases b
 rw[p5.eq_2]at b
 refine trG b (λq=>L7 _ _ _ (z0 x I (D0.mono u z))) λaA b=>?_
 refine ifB b (λac b=>?_) λac b=>?_
 ·refine trM b (i04 _ _ x) ?_
  rintro O b ax ae ⟨ai,au,aj,rfl,A,B⟩
  obtain⟨rfl,ap⟩:=Sl.len A
  obtain⟨D,Z,b⟩:=C0 b
  refine eX { vars:=[6],boxes:=[],owns:=[0],fuel:=true } (eX (λvs os d=>∃ e k f,vs.tail = [.int .i64 e]/\os = [k]/\Sub ae d/\I0 e/\F2 (R0.R d) k f/\U3 O o p s c (P1 vs) e f=some D) (eX (λ_ _=>0) (aI (eX U0 ⟨0,w,j,rfl,rfl,(Sub.refl _),(by decide),(F2.up (r:=R0.toRp) B H),Z⟩) ?_)))
  rintro _ k n K ⟨e,aB,f,⟨⟩,⟨⟩,i,ak,m,a⟩
  replace a:U3 O o p s c n e f=some D:=a
  obtain _|n:=n
  ·cases a
  rw[U3.eq_2]at a
  refine ifB a (λaa a=>?_) λaa a=>?_
  ·refine Or.inl (aI (aI (by kernel_rfl) (by kernel_rfl)) ?_)
   refine ldI a (M0.mono i A) λaz ad a=>?_
   obtain⟨N,X,a⟩:=C0 a
   refine eX (.int .i64 N) (aI (w6 _ _ _ (z0 x I (D0.mono ((u.trans B).trans i) z)) _ y _ ad _  X) ?_)
   obtain⟨av,V,a⟩:=C0 a
   have al:I0 N:=K1 V
   refine ifB a (λab a=>?_) λab a=>?_
   ·refine ldI a (M0.mono i A) λl J a=>?_
    obtain⟨aw,W,a⟩:=C0 a
    refine aI (T1 W (by first|rw[F2.length m,F2.length (show F2 (R0.R K) ([[.int .i64 c,.int .i64 l,.int .i64 (-1)]]:List (List Value)) [(c,l,(-1))] from⟨(E1 y J (by decide)),trivial⟩)]|exact congrArg (·+1) (F2.length m))) ?_
    exact C2 n ⟨(IntKind.i64.wrap (e+1)),(k++([[.int .i64 c,.int .i64 l,.int .i64 (-1)]]:List (List Value))),(f ++ [(c,l,(-1))]),rfl,rfl,i,(P0 _),(F2.append m (show F2 (R0.R K) ([[.int .i64 c,.int .i64 l,.int .i64 (-1)]]:List (List Value)) [(c,l,(-1))] from⟨(E1 y J (by decide)),trivial⟩)),a⟩
   ·exact C2 n ⟨(IntKind.i64.wrap (e+1)),k,f,rfl,rfl,i,(P0 _),m,a⟩
  ·obtain rfl:=oJ a
   try dsimp only[V0,Z0]at b
   exact C2 t ⟨(IntKind.i64.wrap (c+1)),k,f,rfl,rfl,((u.trans B).trans i),(P0 _),m,b⟩
 ·obtain rfl:=oJ b
  try dsimp only[V0,Z0]at g
  intro ay am U
  obtain⟨Q,T,rfl,ag,ah,aq⟩:=H1.out (r:=R0.toRp) U H
  obtain rfl:=oJ g
  exact⟨Q,j.length,T,rfl,ag,(u.trans ah)⟩
theorem G0c(h:Hp)(aj:List Value)(ao:l0)(a4:Y0.R h aj ao)(r:l0×J0)(d:d01 ao=some r):
  Tr Tryz.prog 311 #[.agg aj.toArray] h λv c=>∃(ai:List Value) (ag:Option Addr) (an ah:Nat),v = .tuple #[.agg ai.toArray,.slice ag an ah]/\Y0.R c ai r.1/\M0.R c [.slice ag an ah] r.2/\Sub h c:=by
 obtain⟨B,C,aA,bB,aF,D,rfl,rfl,U,V,O⟩:=B0 a4
 obtain⟨rfl,br⟩:=Sl.len O
 unfold d01 at d
 dsimp only at d
 refine J2 (args:=[.agg #[.int .i64 B,.int .i64 C,.slice aA D.length aF]]) (fn:=Tryz.f311) rfl ?_
 refine trM d (n5 _ _ _ (z0 U V O)) ?_
 rintro bN d bJ W ⟨bi,rfl,ax⟩
 have S:Sub h W:=ax.sub
 have a5:=ax.r
 obtain⟨bc,bd,aB,bC,aG,ay,rfl,rfl,a0,a1,ap⟩:=B0 a5
 obtain⟨rfl,bu⟩:=Sl.len ap
 try dsimp only at d
 obtain⟨af,aU,d⟩:=C0 d
 refine eX { vars:=[6],boxes:=[],owns:=[0],fuel:=true } (eX (λvs os c=>∃ f T l,vs.tail = [.int .i64 f]/\os = [T]/\Sub W c/\I0 f/\F2 (Wp.int.R c) T l/\K6 C B D (P1 vs) f l=some af) (eX (λ_ _=>0) (aI (eX U0 ⟨0,[],([]:J0),rfl,rfl,(Sub.refl _),(by decide),(show F2 (Wp.int.R W) ([]:List (List Value)) ([]:J0) from trivial),aU⟩) ?_)))
 rintro _ T N Y ⟨f,bU,l,⟨⟩,⟨⟩,m,al,I,a⟩
 replace a:K6 C B D N f l=some af:=a
 obtain _|N:=N
 ·cases a
 rw[K6.eq_2]at a
 refine trG a (λq=>H7 _ _ _ (z0 U V (D0.mono (S.trans m) O))) λbR a=>?_
 refine ifB a (λaV a=>?_) λaV a=>?_
 ·obtain⟨bE,aO,a⟩:=C0 a
  refine aI (T1 aO (by first|rw[F2.length I,F2.length (show F2 (Wp.int.R Y) ([[.int .i64 f]]:List (List Value)) [f] from⟨⟨rfl,al⟩,trivial⟩)]|exact congrArg (·+1) (F2.length I))) ?_
  exact C2 N ⟨(IntKind.i64.wrap (f+1)),(T++([[.int .i64 f]]:List (List Value))),(l ++ [f]),rfl,rfl,m,(P0 _),(F2.append I (show F2 (Wp.int.R Y) ([[.int .i64 f]]:List (List Value)) [f] from⟨⟨rfl,al⟩,trivial⟩)),a⟩
 ·obtain rfl:=oJ a
  try dsimp only[V0,Z0]at d
  obtain⟨ad,aS,d⟩:=C0 d
  refine eX { vars:=[5,7],boxes:=[2],owns:=[],fuel:=true,pubs:=[5] } (eX (λvs os c=>∃(t:Option Addr) (Z w:Nat) (i:J0) (n:Int) (k:Int) (g:Int) (u:Option Addr) (aa x:Nat) (o:N0),vs.tail = [.slice t Z w,.int .i64 n,.int .i64 k,.int .i64 g,.slice u aa x]/\os = []/\Sub Y c/\M0.R c [.slice t Z w] i/\I0 n/\I0 k/\I0 g/\D0.R c [.slice u aa x] o/\J6 B C D (P1 vs) i n k g o=some ad) (eX (λ_ _=>0) ?_))
  intro bI bn aL
  obtain⟨aD,aJ,rfl,a6,av,bx⟩:=H1.out (r:=Wp.int.toRp) aL I
  refine aI (eX U0 ⟨aD,l.length,aJ,l,0,bc,bd,aB,ay.length,aG,ay,rfl,rfl,av,a6,(by decide),a0,a1,(D0.mono (m.trans av) ap),aS⟩) ?_
  rintro _ _ _ _ _ M X ⟨t,Z,w,i,n,k,g,u,aa,x,o,⟨⟩,⟨⟩,Q,P,bl,J,K,E,a⟩
  replace a:J6 B C D M i n k g o=some ad:=a
  obtain _|M:=M
  ·cases a
  rw[J6.eq_2]at a
  obtain⟨rfl,bs⟩:=Sl.len P
  obtain⟨rfl,bt⟩:=Sl.len E
  refine trG a (λq=>H7 _ _ _ (z0 U V (D0.mono ((S.trans m).trans Q) O))) λbO a=>?_
  refine ifB a (λaW a=>?_) λaW a=>?_
  ·refine trV a (N09 _ _ _ (z0 J K E)) λac a=>?_
   obtain⟨bF,aP,a⟩:=C0 a
   have bm:I0 ac:=K1 aP
   refine ifB a (λaX a=>?_) λaX a=>?_
   ·obtain rfl:=oJ a
    try dsimp only[j4,L4]at d
    obtain rfl:=oJ d
    exact⟨([.int .i64 k,.int .i64 g,.slice u o.length x]),t,i.length,w,rfl,(z0 J K E),P,((S.trans m).trans Q)⟩
   ·obtain⟨ae,aT,a⟩:=C0 a
    refine eX { vars:=[11],boxes:=[],owns:=[1,2],fuel:=true } (eX (λvs os c=>∃ e G p H j,vs.tail = [.int .i64 e]/\os = [G,H]/\Sub X c/\I0 e/\F2 (Wp.int.R c) G p/\F2 (Wp.int.R c) H j/\O5 g ac i (P1 vs) e p j=some ae) (eX (λ_ _=>0) (aI (eX U0 ⟨0,[],([]:J0),[],([]:J0),rfl,rfl,(Sub.refl _),(by decide),(show F2 (Wp.int.R X) ([]:List (List Value)) ([]:J0) from trivial),(show F2 (Wp.int.R X) ([]:List (List Value)) ([]:J0) from trivial),aT⟩) ?_)))
    rintro _ G H A L ⟨e,bS,p,bT,j,⟨⟩,⟨⟩,F,ak,y,z,b⟩
    replace b:O5 g ac i A e p j=some ae:=b
    obtain _|A:=A
    ·cases b
    rw[O5.eq_2]at b
    refine ifB b (λaY b=>?_) λaY b=>?_
    ·refine ifB b (λaZ b=>?_) λaZ b=>?_
     ·obtain⟨bG,aQ,b⟩:=C0 b
      refine aI (T1 aQ (by first|rw[F2.length y,F2.length (show F2 (Wp.int.R L) ([[.int .i64 e]]:List (List Value)) [e] from⟨⟨rfl,ak⟩,trivial⟩)]|exact congrArg (·+1) (F2.length y))) ?_
      refine ldI b (M0.mono F P) λs am b=>?_
      obtain⟨bH,aR,b⟩:=C0 b
      refine aI (T1 aR (by first|rw[F2.length z,F2.length (show F2 (Wp.int.R L) ([[.int .i64 s]]:List (List Value)) [s] from⟨⟨rfl,am⟩,trivial⟩)]|exact congrArg (·+1) (F2.length z))) ?_
      exact C2 A ⟨(IntKind.i64.wrap (e+1)),(G++([[.int .i64 e]]:List (List Value))),(p ++ [e]),(H++([[.int .i64 s]]:List (List Value))),(j ++ [s]),rfl,rfl,F,(P0 _),(F2.append y (show F2 (Wp.int.R L) ([[.int .i64 e]]:List (List Value)) [e] from⟨⟨rfl,ak⟩,trivial⟩)),(F2.append z (show F2 (Wp.int.R L) ([[.int .i64 s]]:List (List Value)) [s] from⟨⟨rfl,am⟩,trivial⟩)),b⟩
     ·exact C2 A ⟨(IntKind.i64.wrap (e+1)),G,p,H,j,rfl,rfl,F,(P0 _),y,z,b⟩
    ·obtain rfl:=oJ b
     try dsimp only[V0,Z0]at a
     refine Or.inl ?_
     intro bK bo aM
     obtain⟨bh,bk,rfl,ba,ab,bz⟩:=H1.out (r:=Wp.int.toRp) aM y
     refine trM a (z02 _ _ _ (z0 J K (D0.mono (F.trans ab) E)) _ _ _ _ ba) ?_
     rintro be a bL bp ⟨bj,rfl,aq,au⟩
     obtain⟨bP,bQ⟩:=be
     dsimp only at a aq
     obtain⟨bf,bg,aC,bD,aH,az,rfl,rfl,a2,a3,ar⟩:=B0 aq
     obtain⟨rfl,bv⟩:=Sl.len ar
     try dsimp only at a
     intro bM bq aN
     obtain⟨aE,aK,rfl,bb,aw,bA⟩:=H1.out (r:=Wp.int.toRp) aN (F2.up (r:=Wp.int.toRp) (ab.trans au) z)
     exact C2 M ⟨aE,j.length,aK,j,(IntKind.i64.wrap (n+1)),bf,bg,aC,az.length,aH,az,rfl,rfl,((((Q.trans F).trans ab).trans au).trans aw),bb,(P0 _),a2,a3,(D0.mono aw ar),a⟩
  ·obtain rfl:=oJ a
   try dsimp only[V0,Z0]at d
   obtain rfl:=oJ d
   exact⟨([.int .i64 k,.int .i64 g,.slice u o.length x]),t,i.length,w,rfl,(z0 J K E),P,((S.trans m).trans Q)⟩
theorem O02(h:Hp)(c:List Value)(e:l0)(F:Y0.R h c e)(r:l0)(a:T5 e=some r):
  Tr Tryz.prog 242 #[.agg c.toArray] h λv d=>∃(b:List Value),v = .agg b.toArray/\Y0.R d b r/\Sub h d:=by
 obtain⟨C,D,o,ak,q,E,rfl,rfl,t,u,f⟩:=B0 F
 obtain⟨rfl,ae⟩:=Sl.len f
 unfold T5 at a
 dsimp only at a
 refine J2 (args:=[.agg #[.int .i64 C,.int .i64 D,.slice o E.length q]]) (fn:=Tryz.f242) rfl ?_
 refine trM a (W0f _ _ _ (z0 t u f)) ?_
 rintro K a aq ab ⟨U,Q,am,Y,rfl,g,j,H⟩
 obtain⟨av,az⟩:=K
 dsimp only at a g j
 obtain⟨aw,ax,P,al,X,ay,rfl,rfl,w,x,i⟩:=B0 g
 obtain⟨rfl,af⟩:=Sl.len i
 try dsimp only at a
 obtain⟨rfl,ag⟩:=Sl.len j
 refine trM a (G0c _ _ _ (z0 w x i)) ?_
 rintro L a ar ac ⟨V,T,ao,aa,rfl,k,m,I⟩
 obtain⟨aA,aE⟩:=L
 dsimp only at a k m
 obtain⟨aB,aC,S,an,Z,aD,rfl,rfl,y,z,l⟩:=B0 k
 obtain⟨rfl,ah⟩:=Sl.len l
 try dsimp only at a
 obtain⟨rfl,ai⟩:=Sl.len m
 refine trM a (Z03 _ _ _ (z0 y z l)) ?_
 rintro aF a au ad ⟨W,rfl,G,J⟩
 obtain⟨M,N,p,ap,s,O,rfl,rfl,A,B,n⟩:=B0 G
 obtain⟨rfl,aj⟩:=Sl.len n
 try dsimp only at a
 obtain rfl:=oJ a
 exact⟨([.int .i64 M,.int .i64 N,.slice p O.length s]),rfl,(z0 A B n),((H.trans I).trans J)⟩
theorem D07(h:Hp)(n:List Value)(t:l0)(M:Y0.R h n t)(f:Option Addr)(s g:Nat)(i:J0)(u:M0.R h [.slice f s g] i)(r:Bool)(b:A00 t i=some r):
  Tr Tryz.prog 180 #[.agg n.toArray,.slice f s g] h λv G=>v = .bool r/\G=h:=by
 obtain⟨J,K,z,aj,B,L,rfl,rfl,o,p,j⟩:=B0 M
 obtain⟨rfl,af⟩:=Sl.len j
 obtain⟨rfl,ag⟩:=Sl.len u
 unfold A00 at b
 dsimp only at b
 refine Tr.forget (J2 (args:=[.agg #[.int .i64 J,.int .i64 K,.slice z L.length B],.slice f i.length g]) (fn:=Tryz.f180) rfl ?_)
 refine Or.inr (Or.inr (Or.inr (Or.inl (aI (aI (by kernel_rfl) (by kernel_rfl)) ?_))))
 obtain⟨d,E,b⟩:=C0 b
 refine Or.inr (eX (λv H=>∃(a:Option Addr) (c:Nat),v = .slice a d.length c/\M0.R H [.slice a d.length c] d/\d.length<=9223372036854775807) (aI (λv W X k q=>by obtain⟨a,c,e,r,l⟩:=q;exact⟨a,c,e,M0.mono k r,l⟩) (aI ?_ ?_)))
 ·intro ab O
  refine Tr.mono (y02 _ _ _ _ _ (M0.mono O u) _ E) ?_
  rintro _ ae ⟨A,ak,C,rfl,w,k⟩
  obtain⟨rfl,I⟩:=Sl.len w
  exact aI o01 (aI k ⟨A,C,rfl,w,I⟩)
 obtain⟨Q,F,b⟩:=C0 b
 obtain⟨m,y⟩:=Q
 try dsimp only at b
 obtain⟨al,D,b⟩:=C0 b
 have Y:I0 m:=K1 D
 refine Or.inl (eX (.val (.tuple #[.int .i64 m,.bool y])) (aI ?_ ?_))
 ·intro ac P
  rintro _ ⟨T,V,rfl,N,ai⟩
  exact Tr.val (D04 _ _ _ (z0 o p (D0.mono P j)) 0 (by decide) _ _ _ _ N _ F) (aI rfl (aI rfl rfl))
 refine Or.inl (eX (.val (.int .i64 m)) (aI ?_ ?_))
 ·intro ad an
  exact aI rfl (aI rfl rfl)
 refine Or.inl (eX (.val (.bool y)) (aI ?_ ?_))
 ·intro Z ao
  exact aI rfl (aI rfl rfl)
 intro aa x
 rintro _ ⟨S,U,rfl,am,ah⟩
 refine trV b (E9 _ _ _ (z0 o p (D0.mono x j))) λap b=>?_
 obtain rfl:=oJ b
 exact aI rfl x
theorem F08(h:Hp)(j:List Value)(n:l0)(E:Y0.R h j n)(r:Bool)(b:w9 n=some r):
  Tr Tryz.prog 226 #[.agg j.toArray] h λv y=>v = .bool r/\y=h:=by
 obtain⟨B,C,p,X,t,D,rfl,rfl,k,m,g⟩:=B0 E
 obtain⟨rfl,V⟩:=Sl.len g
 unfold w9 at b
 dsimp only at b
 refine Tr.forget (J2 (args:=[.agg #[.int .i64 B,.int .i64 C,.slice p D.length t]]) (fn:=Tryz.f226) rfl ?_)
 refine aI (by kernel_rfl) ?_
 obtain⟨I,w,b⟩:=C0 b
 refine Or.inl (eX (.val (.bool I)) (aI ?_ ?_))
 ·intro Q G
  exact Tr.val (E9 _ _ _ (z0 k m (D0.mono G g)) _ w) (aI rfl (aI rfl rfl))
 obtain⟨d,x,b⟩:=C0 b
 refine Or.inr (eX (λv z=>∃(a:Option Addr) (c:Nat),v = .slice a d.length c/\D0.R z [.slice a d.length c] d/\d.length<=9223372036854775807) (aI (λv M N i q=>by obtain⟨a,c,e,r,l⟩:=q;exact⟨a,c,e,D0.mono i r,l⟩) (aI ?_ ?_)))
 ·intro S H f
  refine Tr.mono (o09 _ _ _ (z0 k m (D0.mono H g)) _ (e00 x f)) ?_
  rintro _ U ⟨s,Y,u,rfl,o,i⟩
  obtain⟨rfl,A⟩:=Sl.len o
  exact aI o01 (aI i ⟨s,u,rfl,o,A⟩)
 obtain⟨Z,L,b⟩:=C0 b
 refine Or.inl (eX (.val (.int .i64 ((d.length:Nat):Int))) (aI ?_ ?_))
 ·intro T ac f
  rintro _ ⟨J,K,rfl,aa,W⟩
  exact aI rfl (aI rfl rfl)
 refine Or.inl (eX (.val (.bool (decide (((d.length:Nat):Int)=0)))) (aI ?_ ?_))
 ·intro O ab f
  exact aI rfl (aI rfl rfl)
 intro P F
 obtain rfl:=oJ b
 exact aI rfl F
theorem E07(h:Hp)(s:List Value)(x:l0)(aa:Y0.R h s x)(c:Int)(t:I0 c)(r:l0×Bool)(a:K7 x c=some r):
  Tr Tryz.prog 253 #[.agg s.toArray,.int .i64 c] h λv f=>∃(p:List Value),v = .tuple #[.agg p.toArray,.bool r.2]/\Y0.R f p r.1/\Sub h f:=by
 obtain⟨Y,j,E,aF,H,Z,rfl,rfl,m,n,k⟩:=B0 aa
 obtain⟨rfl,aA⟩:=Sl.len k
 unfold K7 at a
 dsimp only at a
 refine J2 (args:=[.agg #[.int .i64 Y,.int .i64 j,.slice E Z.length H],.int .i64 c]) (fn:=Tryz.f253) rfl ?_
 refine trV a (L7 _ _ _ (z0 m n k)) λaP a=>?_
 refine trG a (λq=>j6 _ _ t 0 (by decide) (IntKind.i64.wrap (j-1)) (P0 _)) λaV a=>?_
 refine ifB a (λP a=>?_) λP a=>?_
 ·refine trM a (n5 _ _ _ (z0 m n k)) ?_
  rintro aX a aO X ⟨au,rfl,D⟩
  have ag:Sub h X:=D.sub
  have ac:=D.r
  obtain⟨al,am,G,aJ,J,an,rfl,rfl,V,W,B⟩:=B0 ac
  obtain⟨rfl,aD⟩:=Sl.len B
  try dsimp only at a
  obtain rfl:=oJ a
  exact⟨([.int .i64 al,.int .i64 am,.slice G an.length J]),rfl,(z0 V W B),ag⟩
 ·obtain⟨o,M,a⟩:=C0 a
  refine eX { vars:=[7],boxes:=[],owns:=[0],fuel:=true } (eX (λvs os f=>∃ u8 i d,vs.tail = [.int .i64 u8]/\os = [i]/\Sub h f/\I0 u8/\F2 (Wp.int.R f) i d/\S4 j c (P1 vs) u8 d=some o) (eX (λ_ _=>0) (aI (eX U0 ⟨0,([[.int .i64 c]]:List (List Value)),[c],rfl,rfl,(Sub.refl _),(by decide),(show F2 (Wp.int.R h) ([[.int .i64 c]]:List (List Value)) [c] from⟨⟨rfl,t⟩,trivial⟩),M⟩) ?_)))
  rintro _ i g w ⟨u8,aY,d,⟨⟩,⟨⟩,l,u,e,b⟩
  replace b:S4 j c g u8 d=some o:=b
  obtain _|g:=g
  ·cases b
  rw[S4.eq_2]at b
  refine ifB b (λN b=>?_) λN b=>?_
  ·refine ifB b (λO b=>?_) λO b=>?_
   ·obtain⟨aK,L,b⟩:=C0 b
    refine aI (T1 L (by first|rw[F2.length e,F2.length (show F2 (Wp.int.R w) ([[.int .i64 u8]]:List (List Value)) [u8] from⟨⟨rfl,u⟩,trivial⟩)]|exact congrArg (·+1) (F2.length e))) ?_
    exact C2 g ⟨(IntKind.i64.wrap (u8+1)),(i++([[.int .i64 u8]]:List (List Value))),(d ++ [u8]),rfl,rfl,l,(P0 _),(F2.append e (show F2 (Wp.int.R w) ([[.int .i64 u8]]:List (List Value)) [u8] from⟨⟨rfl,u⟩,trivial⟩)),b⟩
   ·exact C2 g ⟨(IntKind.i64.wrap (u8+1)),i,d,rfl,rfl,l,(P0 _),e,b⟩
  ·obtain rfl:=oJ b
   try dsimp only[V0,Z0]at a
   refine Or.inl ?_
   intro aL ax K
   obtain⟨ap,aw,rfl,ad,C,aE⟩:=H1.out (r:=Wp.int.toRp) K e
   refine trM a (z02 _ _ _ (z0 m n (D0.mono (l.trans C) k)) _ _ _ _ ad) ?_
   rintro ah a aM ay ⟨aq,rfl,y,ae⟩
   obtain⟨aQ,aU⟩:=ah
   dsimp only at a y
   obtain⟨aR,aS,ao,aG,av,aT,rfl,rfl,Q,S,z⟩:=B0 y
   obtain⟨rfl,aB⟩:=Sl.len z
   try dsimp only at a
   refine trM a (O02 _ _ _ (z0 Q S z)) ?_
   rintro aW a aN az ⟨ar,rfl,ab,af⟩
   obtain⟨ai,aj,F,aH,I,ak,rfl,rfl,T,U,A⟩:=B0 ab
   obtain⟨rfl,aC⟩:=Sl.len A
   try dsimp only at a
   obtain rfl:=oJ a
   exact⟨([.int .i64 ai,.int .i64 aj,.slice F ak.length I]),rfl,(z0 T U A),(((l.trans C).trans ae).trans af)⟩
set_option maxHeartbeats 0
theorem Y05(h:Hp)(u:List Value)(A:l0)(N:Y0.R h u A)(d:Int)(y:I0 d)(k:Option Addr)(z l:Nat)(e:J0)(B:M0.R h [.slice k z l] e)(r:Int)(b:D9 A d e=some r):
  Tr Tryz.prog 275 #[.agg u.toArray,.int .i64 d,.slice k z l] h λv m=>v = .int .i64 r/\m=h:=by
 obtain⟨n,j,C,T,D,o,rfl,rfl,w,x,p⟩:=B0 N
 obtain⟨rfl,Q⟩:=Sl.len p
 obtain⟨rfl,S⟩:=Sl.len B
 unfold D9 at b
 dsimp only at b
 refine Tr.forget (J2 (args:=[.agg #[.int .i64 n,.int .i64 j,.slice C o.length D],.int .i64 d,.slice k e.length l]) (fn:=Tryz.f275) rfl ?_)
 refine trV b (L7 _ _ _ (z0 w x p)) λV b=>?_
 refine trG b (λq=>j6 _ _ y 0 (by decide) (IntKind.i64.wrap (j-1)) (P0 _)) λX b=>?_
 refine ifB b (λI b=>?_) λI b=>?_
 ·obtain rfl:=oJ b
  exact aI rfl (Sub.refl _)
 ·obtain⟨t,G,b⟩:=C0 b
  refine eX { vars:=[1,7],boxes:=[],owns:=[],fuel:=true } (eX (λvs os m=>∃ g c,vs.tail = [.int .i64 g,.int .i64 c]/\os = []/\Sub h m/\I0 g/\I0 c/\d6 e n j o (P1 vs) g c=some t) (eX (λ_ _=>0) (aI (eX U0 ⟨d,0,rfl,rfl,(Sub.refl _),y,(by decide),G⟩) ?_)))
  rintro _ _ i P ⟨g,c,⟨⟩,⟨⟩,f,K,O,a⟩
  replace a:d6 e n j o i g c=some t:=a
  obtain _|i:=i
  ·cases a
  rw[d6.eq_2]at a
  refine ifB a (λJ a=>?_) λJ a=>?_
  ·refine Or.inl (aI (aI (by kernel_rfl) (by kernel_rfl)) ?_)
   refine ldI a (M0.mono f B) λW L a=>?_
   obtain⟨s,F,a⟩:=C0 a
   refine eX (.int .i64 s) (aI (w6 _ _ _ (z0 w x (D0.mono f p)) _ K _ L _  F) ?_)
   obtain⟨U,E,a⟩:=C0 a
   have M:I0 s:=K1 E
   refine ifB a (λH a=>?_) λH a=>?_
   ·obtain rfl:=oJ a
    try dsimp only[j4,L4]at b
    obtain rfl:=oJ b
    exact aI rfl f
   ·exact C2 i ⟨s,(IntKind.i64.wrap (c+1)),rfl,rfl,f,M,(P0 _),a⟩
  ·obtain rfl:=oJ a
   try dsimp only[V0,Z0]at b
   obtain rfl:=oJ b
   exact aI rfl f
theorem l06(h:Hp)(O:List Value)(V:l0)(bc:Y0.R h O V)(E:Option Addr)(U F:Nat)(I:J0)(y:M0.R h [.slice E U F] I)(r:l0×Bool)(b:d5 V I=some r):
  Tr Tryz.prog 181 #[.agg O.toArray,.slice E U F] h λv S=>∃(N:List Value),v = .tuple #[.agg N.toArray,.bool r.2]/\Y0.R S N r.1/\Sub h S:=by
 obtain⟨a4,a5,ah,cr,al,a6,rfl,rfl,s,o,t⟩:=B0 bc
 obtain⟨rfl,cg⟩:=Sl.len t
 obtain⟨rfl,ch⟩:=Sl.len y
 unfold d5 at b
 dsimp only at b
 refine J2 (args:=[.agg #[.int .i64 a4,.int .i64 a5,.slice ah a6.length al],.slice E I.length F]) (fn:=Tryz.f181) rfl ?_
 refine trV b (E9 _ _ _ (z0 s o t)) λcM b=>?_
 refine trG b (λq=>S01 _ _ s _ _ _ _ y) λcN b=>?_
 refine ifB b (λaE b=>?_) λaE b=>?_
 ·obtain rfl:=oJ b
  exact⟨([.int .i64 0,.int .i64 0,.slice none 0 0]),rfl,(z0 (by decide) (by decide) (h02 R0 h)),(Sub.refl _)⟩
 ·refine trV b (Y05 _ _ _ (z0 s o t) 0 (by decide) _ _ _ _ y) λbv b=>?_
  obtain⟨cy,ax,b⟩:=C0 b
  have b0:I0 bv:=K1 ax
  refine Or.inr (Or.inr (Or.inr (Or.inl (aI (aI (by kernel_rfl) (by kernel_rfl)) ?_))))
  obtain⟨D,aA,b⟩:=C0 b
  refine Or.inr (eX (λv i=>∃(a:Option Addr) (c:Nat),v = .slice a D.length c/\M0.R i [.slice a D.length c] D/\D.length<=9223372036854775807) (aI (λv z A j q=>by obtain⟨a,c,e,r,l⟩:=q;exact⟨a,c,e,M0.mono j r,l⟩) (aI ?_ ?_)))
  ·intro ce bn
   obtain⟨bb,br,aq,av⟩:=Sl.cutI (r:=Wp.int.toRp) (M0.mono bn y) aA
   refine aI bb (eX br (aI aq ?_))
   intro v H _
   obtain⟨a,c,rfl,r⟩:=av v H
   exact aI o01 (aI (Sub.refl _) ⟨a,c,rfl,r,(Sl.len r).2⟩)
  obtain⟨bG,aB,b⟩:=C0 b
  obtain⟨K,ag⟩:=bG
  try dsimp only at b
  obtain⟨cx,aw,b⟩:=C0 b
  have T:I0 K:=K1 aw
  refine Or.inl (eX (.val (.tuple #[.int .i64 K,.bool ag])) (aI ?_ ?_))
  ·intro b3 bk
   rintro _ ⟨bJ,bV,rfl,bf,cm⟩
   exact Tr.val (D04 _ _ _ (z0 s o (D0.mono bk t)) 0 (by decide) _ _ _ _ bf _ aB) (aI rfl (aI rfl rfl))
  refine Or.inl (eX (.val (.int .i64 K)) (aI ?_ ?_))
  ·intro b4 cC
   exact aI rfl (aI rfl rfl)
  refine Or.inl (eX (.val (.bool ag)) (aI ?_ ?_))
  ·intro b5 cD
   exact aI rfl (aI rfl rfl)
  intro aX p
  rintro _ ⟨bK,bW,rfl,cz,cn⟩
  refine trM b (n5 _ _ _ (z0 s o (D0.mono p t))) ?_
  rintro cO b cI aY ⟨bO,rfl,af⟩
  have u:Sub aX aY:=af.sub
  have bd:=af.r
  obtain⟨cP,cQ,bH,cs,bT,cR,rfl,rfl,aG,aH,W⟩:=B0 bd
  obtain⟨rfl,ci⟩:=Sl.len W
  try dsimp only at b
  refine ifB b (λaC b=>?_) λaC b=>?_
  ·refine trM b (N06 _ _ _ (z0 s o (D0.mono (p.trans u) t))) ?_
   rintro bs b cJ aZ ⟨bP,rfl,X,B⟩
   obtain⟨cS,cW⟩:=bs
   dsimp only at b X
   obtain⟨cT,cU,bI,ct,bU,cV,rfl,rfl,aJ,aK,Y⟩:=B0 X
   obtain⟨rfl,cj⟩:=Sl.len Y
   try dsimp only at b
   refine ifB b (λaD b=>?_) λaD b=>?_
   ·obtain rfl:=oJ b
    exact⟨([.int .i64 0,.int .i64 0,.slice none 0 0]),rfl,(z0 (by decide) (by decide) (h02 R0 aZ)),((p.trans u).trans B)⟩
   ·refine Or.inr (Or.inr (Or.inr (Or.inr (eX 12 (aI (aI (by kernel_rfl) (by kernel_rfl)) ?_)))))
    obtain⟨C,ay,b⟩:=C0 b
    refine Or.inr (eX (λv i=>∃(a:Option Addr) (c:Nat),v = .slice a C.length c/\M0.R i [.slice a C.length c] C/\C.length<=9223372036854775807) (aI (λv z A j q=>by obtain⟨a,c,e,r,l⟩:=q;exact⟨a,c,e,M0.mono j r,l⟩) (aI ?_ ?_)))
    ·intro b6 bl
     obtain⟨ba,bq,ap,au⟩:=Sl.cutI (r:=Wp.int.toRp) (M0.mono (((p.trans u).trans B).trans bl) y) ay
     refine aI ba (eX bq (aI ap ?_))
     intro v H _
     obtain⟨a,c,rfl,r⟩:=au v H
     exact aI o01 (aI (Sub.refl _) ⟨a,c,rfl,r,(Sl.len r).2⟩)
    obtain⟨bt,az,b⟩:=C0 b
    obtain⟨bu,J⟩:=bt
    try dsimp only at b
    obtain⟨m,n,g⟩:=bu
    try dsimp only at b
    refine Or.inr (eX (λv i=>∃(k:Value),v = .tuple #[k,.bool J]/\(λv i=>∃(d:Option Addr) (f:Nat),v = .agg #[.int .i64 m,.int .i64 n,.slice d g.length f]/\I0 m/\I0 n/\D0.R i [.slice d g.length f] g/\g.length<=9223372036854775807) k i) (aI (λv z A j q=>by obtain⟨k,e,G⟩:=q;exact⟨k,e,(by obtain⟨d,f,e,w,x,f2,f3⟩:=G;exact⟨d,f,e,w,x,D0.mono j f2,f3⟩)⟩) (aI ?_ ?_)))
    ·intro b7 bm
     rintro _ ⟨bL,bX,rfl,bg,co⟩
     refine Tr.mono (w05 _ _ _ (z0 aJ aK (D0.mono bm Y)) _ T _ _ _ _ bg _ o _ az) ?_
     rintro _ cf ⟨bQ,rfl,be,j⟩
     obtain⟨c1,c2,L,cw,P,c3,rfl,ar,aP,aQ,ad⟩:=B0 be
     cases ar
     obtain⟨rfl,a1⟩:=Sl.len ad
     exact aI o01 (aI j ⟨(.agg #[.int .i64 m,.int .i64 n,.slice L g.length P]),rfl,⟨L,P,rfl,aP,aQ,ad,a1⟩⟩)
    refine Or.inr (eX (λv i=>∃(k:Value),v = .tuple #[k,.bool J]/\(λv i=>∃(d:Option Addr) (f:Nat),v = .agg #[.int .i64 m,.int .i64 n,.slice d g.length f]/\I0 m/\I0 n/\D0.R i [.slice d g.length f] g/\g.length<=9223372036854775807) k i) (aI (λv z A j q=>by obtain⟨k,e,G⟩:=q;exact⟨k,e,(by obtain⟨d,f,e,w,x,f2,f3⟩:=G;exact⟨d,f,e,w,x,D0.mono j f2,f3⟩)⟩) (aI ?_ ?_)))
    ·intro b8 cE
     rintro _ ⟨_,rfl,⟨M,Q,rfl,aR,aS,bh,a2⟩⟩
     exact aI o01 (aI (Sub.refl _) ⟨(.agg #[.int .i64 m,.int .i64 n,.slice M g.length Q]),rfl,⟨M,Q,rfl,aR,aS,bh,a2⟩⟩)
    refine Or.inr (eX (λv i=>∃(d:Option Addr) (f:Nat),v = .agg #[.int .i64 m,.int .i64 n,.slice d g.length f]/\I0 m/\I0 n/\D0.R i [.slice d g.length f] g/\g.length<=9223372036854775807) (aI (λv z A j q=>by obtain⟨d,f,e,w,x,f2,f3⟩:=q;exact⟨d,f,e,w,x,D0.mono j f2,f3⟩) (aI ?_ ?_)))
    ·intro ca cG
     rintro _ ⟨_,rfl,⟨ak,ao,rfl,aT,aU,bi,a3⟩⟩
     exact aI o01 (aI (Sub.refl _) ⟨ak,ao,rfl,aT,aU,bi,a3⟩)
    refine Or.inl (eX (.val (.bool J)) (aI ?_ ?_))
    ·intro cb cH
     rintro _ ⟨_,rfl,⟨bM,bY,rfl,b1,b2,cA,cp⟩⟩
     exact aI rfl (aI rfl rfl)
    intro a0 ae
    rintro _ ⟨bN,bZ,rfl,aV,aW,bj,cq⟩
    rintro _ _
    rintro _ _
    rintro _ _
    refine ifB b (λaF b=>?_) λaF b=>?_
    ·obtain rfl:=oJ b
     exact⟨([.int .i64 0,.int .i64 0,.slice none 0 0]),rfl,(z0 (by decide) (by decide) (h02 R0 a0)),(((p.trans u).trans B).trans ae)⟩
    ·refine trM b (E07 _ _ _ (z0 aV aW bj) _ o) ?_
     rintro bx b cK cc ⟨bR,rfl,Z,bo⟩
     obtain⟨cX,cY⟩:=bx
     dsimp only at b Z
     obtain⟨bz,bA,ai,cu,am,bB,rfl,rfl,aL,aM,aa⟩:=B0 Z
     obtain⟨rfl,ck⟩:=Sl.len aa
     try dsimp only at b
     obtain rfl:=oJ b
     exact⟨([.int .i64 bz,.int .i64 bA,.slice ai bB.length am]),rfl,(z0 aL aM aa),((((p.trans u).trans B).trans ae).trans bo)⟩
  ·refine trM b (E07 _ _ _ (z0 aG aH W) _ T) ?_
   rintro bC b cL cd ⟨bS,rfl,ab,bp⟩
   obtain⟨cZ,c0⟩:=bC
   dsimp only at b ab
   obtain⟨bD,bE,aj,cv,an,bF,rfl,rfl,aN,aO,ac⟩:=B0 ab
   obtain⟨rfl,cl⟩:=Sl.len ac
   try dsimp only at b
   obtain rfl:=oJ b
   exact⟨([.int .i64 bD,.int .i64 bE,.slice aj bF.length an]),rfl,(z0 aN aO ac),((p.trans u).trans bp)⟩
theorem X0f(h:Hp)(X:List Value)(ac:l0)(bf:Y0.R h X ac)(r:N0)(d:t02 ac=some r):
  Tr Tryz.prog 296 #[.agg X.toArray] h λv f=>∃(U:Option Addr) (ab W:Nat),v = .slice U ab W/\D0.R f [.slice U ab W] r/\Sub h f:=by
 obtain⟨z,A,am,b7,ay,B,rfl,rfl,K,aa,N⟩:=B0 bf
 obtain⟨rfl,bY⟩:=Sl.len N
 unfold t02 at d
 dsimp only at d
 refine J2 (args:=[.agg #[.int .i64 z,.int .i64 A,.slice am B.length ay]]) (fn:=Tryz.f296) rfl ?_
 refine trV d (L7 _ _ _ (z0 K aa N)) λcv d=>?_
 refine ifB d (λaY d=>?_) λaY d=>?_
 ·intro cq bI aL
  obtain⟨aq,aC,rfl,bn,bq,b6⟩:=H1.out (r:=R0.toRp) aL (show F2 (R0.R h) ([]:List (List Value)) ([]:N0) from trivial)
  obtain rfl:=oJ d
  exact⟨aq,(([]:N0)).length,aC,rfl,bn,bq⟩
 ·refine trM d (i04 _ _ K) ?_
  rintro s d cu bd ⟨V,ca,Y,rfl,D,I⟩
  obtain⟨rfl,b2⟩:=Sl.len D
  obtain⟨S,aW,d⟩:=C0 d
  refine eX { vars:=[3,6],boxes:=[],owns:=[1],fuel:=true,pubs:=[3,9] } (eX (λvs os f=>∃(t:Option Addr) (L w:Nat) (o:N0) (k:Int) (F:List (List Value)) (E:List Int),vs.tail = [.slice t L w,.int .i64 k]/\os = [F]/\Sub bd f/\D0.R f [.slice t L w] o/\I0 k/\F2 (Wp.int.R f) F E/\W8 s z A B (P1 vs) o k E=some S) (eX (λ_ _=>0) ?_))
  intro cp bG aJ
  obtain⟨ap,aB,rfl,bl,ah,b4⟩:=H1.out (r:=R0.toRp) aJ (F2.up (r:=R0.toRp) I (show F2 (R0.R h) ([]:List (List Value)) ([]:N0) from trivial))
  refine aI (eX U0 ⟨ap,(([]:N0)).length,aB,([]:N0),0,([[.int .i64 0]]:List (List Value)),[0],rfl,rfl,ah,bl,(by decide),(F2.up (r:=Wp.int.toRp) (I.trans ah) (show F2 (Wp.int.R h) ([[.int .i64 0]]:List (List Value)) [0] from⟨⟨rfl,(by decide)⟩,trivial⟩)),aW⟩) ?_
  rintro _ _ F H bc ⟨t,L,w,o,k,cz,E,⟨⟩,⟨⟩,n,O,bC,Z,c⟩
  replace c:W8 s z A B H o k E=some S:=c
  obtain _|H:=H
  ·cases c
  rw[W8.eq_2]at c
  obtain⟨rfl,bZ⟩:=Sl.len O
  obtain⟨be,aM,c⟩:=C0 c
  obtain rfl:F.length=be:=(F2.length Z).trans (oJ aM)
  obtain⟨cc,bB,c⟩:=C0 c
  refine ifB c (λaZ c=>?_) λaZ c=>?_
  ·obtain⟨T,aX,c⟩:=C0 c
   refine eX { vars:=[3,7],boxes:=[],owns:=[1],fuel:=true } (eX (λvs os f=>∃ u M x l g p m,vs.tail = [.slice u M x,.int .i64 g]/\os = [p]/\Sub bc f/\D0.R f [.slice u M x] l/\I0 g/\F2 (Wp.int.R f) p m/\V5 s k z A B (P1 vs) l g m=some T) (eX (λ_ _=>0) (aI (eX U0 ⟨t,o.length,w,o,0,F,E,rfl,rfl,(Sub.refl _),O,(by decide),Z,aX⟩) ?_)))
   rintro _ _ p q y ⟨u,M,x,l,g,cA,m,⟨⟩,⟨⟩,i,C,bD,e,a⟩
   replace a:V5 s k z A B q l g m=some T:=a
   obtain _|q:=q
   ·cases a
   rw[V5.eq_2]at a
   obtain⟨rfl,b0⟩:=Sl.len C
   refine ifB a (λa0 a=>?_) λa0 a=>?_
   ·refine Or.inl (aI (aI (by kernel_rfl) (by kernel_rfl)) ?_)
    obtain⟨cw,aP,a⟩:=C0 a
    obtain⟨ar,bt,aD,bg⟩:=K5 e aP
    refine aI ar ?_
    obtain⟨rfl,a4⟩:=bg
    refine eX _ (aI aD ?_)
    refine ldI a (M0.mono (n.trans i) D) λcx a5 a=>?_
    obtain⟨b,aQ,a⟩:=C0 a
    refine eX (.int .i64 b) (aI (w6 _ _ _ (z0 K aa (D0.mono ((I.trans n).trans i) N)) _ a4 _ a5 _  aQ) ?_)
    obtain⟨cd,aN,a⟩:=C0 a
    have j:I0 b:=K1 aN
    obtain⟨br,aR,a⟩:=C0 a
    refine eX (.bool br) (aI ?_ ?_)
    ·intro a3
     intro cr bH aK
     obtain⟨bs,bA,rfl,bm,co,b5⟩:=H1.out (r:=Wp.int.toRp) aK e
     exact N02 _ _ _ _ _ bm _ j _ (e00 aR a3)
    refine ifB a (λa1 a=>?_) λa1 a=>?_
    ·exact C2 q ⟨u,l.length,x,l,(IntKind.i64.wrap (g+1)),p,m,rfl,rfl,i,C,(P0 _),e,a⟩
    ·obtain⟨ce,aO,a⟩:=C0 a
     refine aI (T1 aO (by first|rw[F2.length e,F2.length (show F2 (Wp.int.R y) ([[.int .i64 b]]:List (List Value)) [b] from⟨⟨rfl,j⟩,trivial⟩)]|exact congrArg (·+1) (F2.length e))) ?_
     refine ldI a (M0.mono (n.trans i) D) λcy bE a=>?_
     refine ifB a (λa2 a=>?_) λa2 a=>?_
     ·refine Or.inr (Or.inr (Or.inr (Or.inr (eX 11 (aI (aI (by kernel_rfl) (by kernel_rfl)) ?_)))))
      obtain⟨ai,aS,a⟩:=C0 a
      obtain⟨au,bu,aE,bh⟩:=K5 (F2.append e (show F2 (Wp.int.R y) ([[.int .i64 b]]:List (List Value)) [b] from⟨⟨rfl,j⟩,trivial⟩)) aS
      obtain⟨rfl,a6⟩:=bh
      refine Or.inl ?_
      apply eX
      refine aI ?_ ?_
      ·intro bJ cf
       exact aI au (aI rfl (aI rfl rfl))
      refine Or.inl (eX (.val (.int .i64 ai)) (aI ?_ ?_))
      ·intro bK cg
       exact eX _ (aI aE (aI rfl (aI rfl rfl)))
      obtain⟨aj,aT,a⟩:=C0 a
      obtain⟨av,bv,aF,bi⟩:=Sl.getI (r:=Wp.int.toRp) (M0.mono (n.trans i) D) aT (by decide)
      obtain⟨rfl,ba⟩:=bi
      refine Or.inl (eX (.hel (.slice V s.length Y) g 1 0) (aI ?_ ?_))
      ·intro bL ch
       exact aI av (aI rfl (aI rfl rfl))
      refine Or.inl (eX (.val (.int .i64 aj)) (aI ?_ ?_))
      ·intro bM bo
       exact eX _ (aI (O9.up bo aF) (aI rfl (aI rfl rfl)))
      refine Or.inl (eX (.agg [.val (.int .i64 ai),.val (.int .i64 aj),.val (.int .i64 b)]) (aI ?_ ?_))
      ·intro bN ci
       exact aI rfl (aI rfl rfl)
      intro bO P
      refine trM a (R9 _ _ _ _ _ (D0.mono P C) _ _ (E1 a6 ba j)) ?_
      rintro ak a cs bP ⟨an,b8,az,rfl,ad,af⟩
      obtain⟨rfl,b1⟩:=Sl.len ad
      exact C2 q ⟨an,ak.length,az,ak,(IntKind.i64.wrap (g+1)),(p++([[.int .i64 b]]:List (List Value))),(m ++ [b]),rfl,rfl,((i.trans P).trans af),ad,(P0 _),(F2.up (r:=Wp.int.toRp) (P.trans af) (F2.append e (show F2 (Wp.int.R y) ([[.int .i64 b]]:List (List Value)) [b] from⟨⟨rfl,j⟩,trivial⟩))),a⟩
     ·refine Or.inr (Or.inr (Or.inr (Or.inr (eX 12 (aI (aI (by kernel_rfl) (by kernel_rfl)) ?_)))))
      obtain⟨G,aU,a⟩:=C0 a
      obtain⟨aw,bx,aG,bj⟩:=Sl.getI (r:=Wp.int.toRp) (M0.mono (n.trans i) D) aU (by decide)
      obtain⟨rfl,bF⟩:=bj
      refine Or.inl (eX (.hel (.slice V s.length Y) g 1 0) (aI ?_ ?_))
      ·intro bQ cj
       exact aI aw (aI rfl (aI rfl rfl))
      refine Or.inl (eX (.val (.int .i64 G)) (aI ?_ ?_))
      ·intro bR bp
       exact eX _ (aI (O9.up bp aG) (aI rfl (aI rfl rfl)))
      refine Or.inl (eX (.val (.int .i64 (IntKind.i64.wrap (0-G)))) (aI ?_ ?_))
      ·intro bS ck
       exact aI rfl (aI rfl rfl)
      obtain⟨J,aV,a⟩:=C0 a
      obtain⟨ax,bz,aH,bk⟩:=K5 (F2.append e (show F2 (Wp.int.R y) ([[.int .i64 b]]:List (List Value)) [b] from⟨⟨rfl,j⟩,trivial⟩)) aV
      obtain⟨rfl,bb⟩:=bk
      refine Or.inl ?_
      apply eX
      refine aI ?_ ?_
      ·intro bT cl
       exact aI ax (aI rfl (aI rfl rfl))
      refine Or.inl (eX (.val (.int .i64 J)) (aI ?_ ?_))
      ·intro bU cm
       exact eX _ (aI aH (aI rfl (aI rfl rfl)))
      refine Or.inl (eX (.agg [.val (.int .i64 b),.val (.int .i64 (IntKind.i64.wrap (0-G))),.val (.int .i64 J)]) (aI ?_ ?_))
      ·intro bV cn
       exact aI rfl (aI rfl rfl)
      intro bW Q
      refine trM a (R9 _ _ _ _ _ (D0.mono Q C) [.int .i64 b,.int .i64 (IntKind.i64.wrap (0-G)),.int .i64 J] (b,(IntKind.i64.wrap (0-G)),J) (E1 j (P0 _) bb)) ?_
      rintro al a ct bX ⟨ao,cb,aA,rfl,ae,ag⟩
      obtain⟨rfl,b3⟩:=Sl.len ae
      exact C2 q ⟨ao,al.length,aA,al,(IntKind.i64.wrap (g+1)),(p++([[.int .i64 b]]:List (List Value))),(m ++ [b]),rfl,rfl,((i.trans Q).trans ag),ae,(P0 _),(F2.up (r:=Wp.int.toRp) (Q.trans ag) (F2.append e (show F2 (Wp.int.R y) ([[.int .i64 b]]:List (List Value)) [b] from⟨⟨rfl,j⟩,trivial⟩))),a⟩
   ·obtain rfl:=oJ a
    try dsimp only[V0,Z0]at c
    exact C2 H ⟨u,l.length,x,l,(IntKind.i64.wrap (k+1)),p,m,rfl,rfl,(n.trans i),C,(P0 _),e,c⟩
  ·obtain rfl:=oJ c
   try dsimp only[V0,Z0]at d
   obtain rfl:=oJ d
   exact⟨t,o.length,w,rfl,O,(I.trans n)⟩
theorem A0b(h:Hp)(G:List Value)(Q:l0)(an:Y0.R h G Q)(r:N0)(e:F00 Q=some r):
  Tr Tryz.prog 213 #[.agg G.toArray] h λv f=>∃(E:Option Addr) (P F:Nat),v = .slice E P F/\D0.R f [.slice E P F] r/\Sub h f:=by
 obtain⟨A,B,Z,aN,ab,p,rfl,rfl,J,K,s⟩:=B0 an
 obtain⟨rfl,aK⟩:=Sl.len s
 unfold F00 at e
 dsimp only at e
 refine J2 (args:=[.agg #[.int .i64 A,.int .i64 B,.slice Z p.length ab]]) (fn:=Tryz.f213) rfl ?_
 refine trM e (X0f _ _ _ (z0 J K s)) ?_
 rintro z e aR O ⟨av,aO,az,rfl,S,y⟩
 obtain⟨rfl,aL⟩:=Sl.len S
 obtain⟨D,ai,e⟩:=C0 e
 refine eX { vars:=[5],boxes:=[],owns:=[0],fuel:=true } (eX (λvs os f=>∃ d u i,vs.tail = [.int .i64 d]/\os = [u]/\Sub O f/\I0 d/\F2 (R0.R f) u i/\B5 p A B z (P1 vs) d i=some D) (eX (λ_ _=>0) (aI (eX U0 ⟨0,[],([]:N0),rfl,rfl,(Sub.refl _),(by decide),(show F2 (R0.R O) ([]:List (List Value)) ([]:N0) from trivial),ai⟩) ?_)))
 rintro _ u o am ⟨d,aW,i,⟨⟩,⟨⟩,g,aB,n,a⟩
 replace a:B5 p A B z o d i=some D:=a
 obtain _|o:=o
 ·cases a
 rw[B5.eq_2]at a
 refine trG a (λq=>L7 _ _ _ (z0 J K (D0.mono (y.trans g) s))) λaV a=>?_
 refine ifB a (λaj a=>?_) λaj a=>?_
 ·obtain⟨C,ah,a⟩:=C0 a
  refine eX { vars:=[6,7],boxes:=[],owns:=[],fuel:=true } (eX (λvs os f=>∃ t j,vs.tail = [.bool t,.int .i64 j]/\os = []/\Sub am f/\I0 j/\c6 z p d (P1 vs) t j=some C) (eX (λ_ _=>0) (aI (eX U0 ⟨false,0,rfl,rfl,(Sub.refl _),(by decide),ah⟩) ?_)))
  rintro _ _ x w ⟨t,j,⟨⟩,⟨⟩,c,aA,b⟩
  replace b:c6 z p d x t j=some C:=b
  obtain _|x:=x
  ·cases b
  rw[c6.eq_2]at b
  refine ifB b (λak b=>?_) λak b=>?_
  ·refine Or.inl (aI (aI (by kernel_rfl) (by kernel_rfl)) ?_)
   obtain⟨aS,af,b⟩:=C0 b
   obtain⟨aw,H,ao⟩:=Sl.getG (r:=R0.toRp) (D0.mono (g.trans c) S) af (by decide) (l08 w)
   refine aI (λq=>(H q).1) ?_
   obtain⟨T,U,V,rfl,rfl,aC,aD,aE⟩:=M1 ao
   try dsimp only at b
   refine eX _ (aI (λq=>(H q).2) ?_)
   obtain⟨aT,ag,b⟩:=C0 b
   obtain⟨ax,I,ap⟩:=Sl.getG (r:=R0.toRp) (D0.mono ((y.trans g).trans c) s) ag (by decide) (l08 w)
   refine aI (λq=>(I q).1) ?_
   obtain⟨W,X,Y,rfl,rfl,aF,aG,aH⟩:=M1 ap
   try dsimp only at b
   refine eX _ (aI (λq=>(I q).2) ?_)
   refine eX (eqE (T,U,V) (W,X,Y)) (aI (λ_=>(l09 _ _ _ rfl _ _ _ _ _ _)) ?_)
   exact C2 x ⟨(bif t then true else(eqE (T,U,V) (W,X,Y))),(IntKind.i64.wrap (j+1)),rfl,rfl,c,(P0 _),b⟩
  ·obtain rfl:=oJ b
   try dsimp only[V0,Z0]at a
   refine ifB a (λal a=>?_) λal a=>?_
   ·refine ld a (D0.mono ((y.trans g).trans c) s) λaU ay aq a=>?_
    obtain⟨k,l,m,rfl,rfl,L,M,N⟩:=M1 aq
    try dsimp only at a
    obtain⟨aP,ae,a⟩:=C0 a
    refine aI (T1 ae (by first|rw[F2.length (F2.up (r:=R0.toRp) c n),F2.length (show F2 (R0.R w) ([[.int .i64 k,.int .i64 l,.int .i64 m]]:List (List Value)) [(k,l,m)] from⟨(E1 L M N),trivial⟩)]|exact congrArg (·+1) (F2.length (F2.up (r:=R0.toRp) c n)))) ?_
    exact C2 o ⟨(IntKind.i64.wrap (d+1)),(u++([[.int .i64 k,.int .i64 l,.int .i64 m]]:List (List Value))),(i ++ [(k,l,m)]),rfl,rfl,(g.trans c),(P0 _),(F2.append (F2.up (r:=R0.toRp) c n) (show F2 (R0.R w) ([[.int .i64 k,.int .i64 l,.int .i64 m]]:List (List Value)) [(k,l,m)] from⟨(E1 L M N),trivial⟩)),a⟩
   ·exact C2 o ⟨(IntKind.i64.wrap (d+1)),u,i,rfl,rfl,(g.trans c),(P0 _),(F2.up (r:=R0.toRp) c n),a⟩
 ·obtain rfl:=oJ a
  try dsimp only[V0,Z0]at e
  intro aQ aJ ad
  obtain⟨aa,ac,rfl,ar,au,aM⟩:=H1.out (r:=R0.toRp) ad n
  obtain rfl:=oJ e
  exact⟨aa,i.length,ac,rfl,ar,((y.trans g).trans au)⟩
theorem B0b(h:Hp)(b:Int)(s:I0 b)(c:Option Addr)(i d:Nat)(e:Y1)(j:Z1.R h [.slice c i d] e)(r:l0×Bool)(a:G00 b e=some r):
  Tr Tryz.prog 192 #[.int .i64 b,.slice c i d] h λv g=>∃(f:List Value),v = .tuple #[.agg f.toArray,.bool r.2]/\Y0.R g f r.1/\Sub h g:=by
 obtain⟨rfl,K⟩:=Sl.len j
 unfold G00 at a
 refine J2 (args:=[.int .i64 b,.slice c e.length d]) (fn:=Tryz.f192) rfl ?_
 refine trM a (F0d _ _ s _ _ _ _ j) ?_
 rintro B a P y ⟨G,rfl,k,n⟩
 obtain⟨S,W⟩:=B
 dsimp only at a k
 obtain⟨T,U,F,N,I,V,rfl,rfl,t,u,l⟩:=B0 k
 obtain⟨rfl,L⟩:=Sl.len l
 try dsimp only at a
 refine ifB a (λq a=>?_) λq a=>?_
 ·obtain rfl:=oJ a
  exact⟨([.int .i64 0,.int .i64 0,.slice none 0 0]),rfl,(z0 (by decide) (by decide) (h02 R0 y)),n⟩
 ·refine trM a (O02 _ _ _ (z0 t u l)) ?_
  rintro X a Q J ⟨H,rfl,z,A⟩
  obtain⟨C,D,o,O,p,E,rfl,rfl,w,x,m⟩:=B0 z
  obtain⟨rfl,M⟩:=Sl.len m
  try dsimp only at a
  obtain rfl:=oJ a
  exact⟨([.int .i64 C,.int .i64 D,.slice o E.length p]),rfl,(z0 w x m),(n.trans A)⟩
theorem O09(h:Hp)(b:List Value)(c:l0)(o:Y0.R h b c)(r:Int)(a:Q00 c=some r):
  Tr Tryz.prog 117 #[.agg b.toArray] h λv g=>v = .int .i64 r/\g=h:=by
 obtain⟨l,m,e,q,f,n,rfl,rfl,j,k,d⟩:=B0 o
 obtain⟨rfl,p⟩:=Sl.len d
 unfold Q00 at a
 dsimp only at a
 refine Tr.forget (J2 (args:=[.agg #[.int .i64 l,.int .i64 m,.slice e n.length f]]) (fn:=Tryz.f117) rfl ?_)
 refine trV a (E9 _ _ _ (z0 j k d)) λs a=>?_
 refine ifB a (λi a=>?_) λi a=>?_
 ·obtain rfl:=oJ a
  exact aI rfl (Sub.refl _)
 ·obtain rfl:=oJ a
  exact aI rfl (Sub.refl _)
theorem Y0f(h:Hp)(b:List Value)(c:l0)(o:Y0.R h b c)(r:Int)(a:u02 c=some r):
  Tr Tryz.prog 118 #[.agg b.toArray] h λv g=>v = .int .i64 r/\g=h:=by
 obtain⟨l,m,e,q,f,n,rfl,rfl,j,k,d⟩:=B0 o
 obtain⟨rfl,p⟩:=Sl.len d
 unfold u02 at a
 dsimp only at a
 refine Tr.forget (J2 (args:=[.agg #[.int .i64 l,.int .i64 m,.slice e n.length f]]) (fn:=Tryz.f118) rfl ?_)
 refine trV a (F08 _ _ _ (z0 j k d)) λs a=>?_
 refine ifB a (λi a=>?_) λi a=>?_
 ·obtain rfl:=oJ a
  exact aI rfl (Sub.refl _)
 ·obtain rfl:=oJ a
  exact aI rfl (Sub.refl _)
theorem a0g(h:Hp)(o:Option Addr)(F q:Nat)(g:Y1)(G:Z1.R h [.slice o F q] g)(r:Y1)(f:w02 g=some r):
  Tr Tryz.prog 190 #[.slice o F q] h λv e=>∃(y:Option Addr) (E z:Nat),v = .slice y E z/\New Z1 h e [.slice y E z] r:=by
 obtain⟨rfl,ad⟩:=Sl.len G
 unfold w02 at f
 refine J2 (args:=[.slice o g.length q]) (fn:=Tryz.f190) rfl ?_
 obtain⟨x,O,f⟩:=C0 f
 refine eX { vars:=[4],boxes:=[],owns:=[0],fuel:=true } (eX (λvs os e=>∃ c j b,vs.tail = [.int .i64 c]/\os = [j]/\Sub h e/\I0 c/\F2 (M0.R e) j b/\(∃ Bs,F3 (M0.W e) j b Bs/\o6 h Bs.flatten)/\g8 g (P1 vs) c b=some x) (eX (λ_ _=>0) (aI (eX U0 ⟨0,[],([]:Y1),rfl,rfl,(Sub.refl _),(by decide),(show F2 (M0.R h) ([]:List (List Value)) ([]:Y1) from trivial),⟨_,(show F3 (M0.W h) [] [] [] from trivial),(o6.nil h)⟩,O⟩) ?_)))
 rintro _ j m l ⟨c,an,b,⟨⟩,⟨⟩,n,ac,k,⟨Z,w,C⟩,a⟩
 replace a:g8 g m c b=some x:=a
 obtain _|m:=m
 ·cases a
 rw[g8.eq_2]at a
 refine ifB a (λP a=>?_) λP a=>?_
 ·refine ld a (Z1.mono n G) λd aa u a=>?_
  obtain⟨Y,ah,ab,rfl⟩:=Wp.slice_cell u
  obtain⟨rfl,ae⟩:=Sl.len u
  obtain⟨U,K,t⟩:=Sl.rows (r:=Wp.int.toRp) u
  refine eX U (aI K ?_)
  obtain⟨aj,N,a⟩:=C0 a
  refine aI (T1 N (by first|rw[F2.length (show F2 (Wp.int.R l) ([]:List (List Value)) ([]:J0) from trivial),F2.length t]|exact congrArg (·+1) (F2.length (show F2 (Wp.int.R l) ([]:List (List Value)) ([]:J0) from trivial)))) ?_
  intro am D A
  obtain⟨p,s,rfl,H,i,af⟩:=H1.out (r:=Wp.int.toRp) A (F2.append (show F2 (Wp.int.R l) ([]:List (List Value)) ([]:J0) from trivial) t)
  obtain⟨ai,M,a⟩:=C0 a
  refine aI (T1 M (by first|rw[F2.length (F2.up (r:=M0.toRp) i k),F2.length (show F2 (M0.R D) ([[.slice p ((([]:J0)++d)).length s]]:List (List Value)) [(([]:J0)++d)] from⟨H,trivial⟩)]|exact congrArg (·+1) (F2.length (F2.up (r:=M0.toRp) i k)))) ?_
  obtain⟨X,V,L,_⟩:=(H1.newPlain (r:=Wp.int) A (F2.append (show F2 (Wp.int.R l) ([]:List (List Value)) ([]:J0) from trivial) t) (S0e _))
  exact C2 m ⟨(IntKind.i64.wrap (c+1)),(j++([[.slice p ((([]:J0)++d)).length s]]:List (List Value))),(b ++ [(([]:J0)++d)]),rfl,rfl,(n.trans i),(P0 _),(F2.append (F2.up (r:=M0.toRp) i k) (show F2 (M0.R D) ([[.slice p ((([]:J0)++d)).length s]]:List (List Value)) [(([]:J0)++d)] from⟨H,trivial⟩)),⟨_,(F3.snoc V (K0e w i)),(f07 w n C L)⟩,a⟩
 ·obtain rfl:=oJ a
  try dsimp only[V0,Z0]at f
  intro T Q B
  have S:New (Wp.slice M0) h Q [T] b:=(H1.fresh (r:=M0) B w n C)
  obtain⟨I,J,rfl,ak,al,ag⟩:=H1.out (r:=M0.toRp) B k
  obtain rfl:=oJ f
  exact⟨I,b.length,J,rfl,S⟩
theorem M01(h:Hp)(c:Option Addr)(k d:Nat)(b:J0)(l:M0.R h [.slice c k d] b)(r:J0)(a:J7 b=some r):
  Tr Tryz.prog 93 #[.slice c k d] h λv q=>∃(i:Nat) (j f:Nat),v = .slice (some ⟨i,0,none⟩) j f/\New M0 h q [.slice (some ⟨i,0,none⟩) j f] r:=by
 obtain⟨rfl,u⟩:=Sl.len l
 unfold J7 at a
 refine J2 (args:=[.slice c b.length d]) (fn:=Tryz.f93) rfl ?_
 obtain⟨s,n,e⟩:=Sl.rows (r:=Wp.int.toRp) l
 refine eX s (aI n ?_)
 obtain⟨x,o,a⟩:=C0 a
 refine aI (T1 o (by first|rw[F2.length (show F2 (Wp.int.R h) ([]:List (List Value)) ([]:J0) from trivial),F2.length e]|exact congrArg (·+1) (F2.length (show F2 (Wp.int.R h) ([]:List (List Value)) ([]:J0) from trivial)))) ?_
 intro A t g
 obtain⟨p,m,rfl,y,z,w⟩:=H1.outS (r:=Wp.int.toRp) g (F2.append (show F2 (Wp.int.R h) ([]:List (List Value)) ([]:J0) from trivial) e)
 obtain rfl:=oJ a
 exact⟨p,((([]:J0)++b)).length,m,rfl,(H1.newPlain (r:=Wp.int) g (F2.append (show F2 (Wp.int.R h) ([]:List (List Value)) ([]:J0) from trivial) e) (S0e _))⟩
theorem C04(h:Hp)(b:Option Addr)(j c:Nat)(a:J0)(k:M0.R h [.slice b j c] a)(r:J0)(d:d8 a=some r):
  Tr Tryz.prog 200 #[.slice b j c] h λv n=>∃(f:Option Addr) (i g:Nat),v = .slice f i g/\New M0 h n [.slice f i g] r:=by
 obtain⟨rfl,y⟩:=Sl.len k
 unfold d8 at d
 refine J2 (args:=[.slice b a.length c]) (fn:=Tryz.f200) rfl ?_
 refine Or.inl ?_
 intro D o f3
 obtain⟨w,x,rfl,s,t,A⟩:=H1.out (r:=M0.toRp) f3 (show F2 (M0.R h) ([[.slice b a.length c]]:List (List Value)) [a] from⟨k,trivial⟩)
 refine trM d (C08 _ _ _ _ _ s) ?_
 rintro u d E p ⟨l,B,m,rfl,e⟩
 have C:Sub o p:=e.sub
 have q:=e.r
 obtain⟨rfl,z⟩:=Sl.len q
 obtain rfl:=oJ d
 exact⟨l,u.length,m,rfl,(New.from e t)⟩
end Go.Proofs.YtkjhghloldgioaaGreat
