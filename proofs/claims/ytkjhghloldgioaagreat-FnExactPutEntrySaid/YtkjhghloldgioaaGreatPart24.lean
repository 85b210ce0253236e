/- Texts of the claim, joined: The walks of batch 1 and others. -/
import Derived.Test.YtkjhghloldgioaaGreatPart18
import Derived.Test.YtkjhghloldgioaaGreatChecked
import Derived.Test.YtkjhghloldgioaaGreatH35
import Derived.Test.YtkjhghloldgioaaGreatSI
import Derived.Test.YtkjhghloldgioaaGreatPart21
namespace Go.Proofs.YtkjhghloldgioaaGreat
open Go.H
set_option linter.unusedVariables false
set_option linter.unusedSimpArgs false
set_option maxRecDepth 10000
theorem V6(h:Hp)(a:Int)(f:Q0 a)(b:Int)(g:Q0 b)(c:Int)(i:Q0 c)(r:Bool)(d:i5 a b c=some r):
  Tr Tryz.prog 76 #[.int .i64 a,.int .i64 b,.int .i64 c] h λv e=>v = .bool r/\e=h:=by
 unfold i5 at d
 refine Tr.forget (R3 (args:=[.int .i64 a,.int .i64 b,.int .i64 c]) (fn:=Tryz.f76) rfl ?_)
 obtain rfl:=oJ d
 exact aI rfl (Sub.refl _)
theorem Q7(h:Hp)(a:Int)(f:Q0 a)(b:Int)(g:Q0 b)(c:Int)(i:Q0 c)(r:Bool)(d:U5 a b c=some r):
  Tr Tryz.prog 78 #[.int .i64 a,.int .i64 b,.int .i64 c] h λv e=>v = .bool r/\e=h:=by
 unfold U5 at d
 refine Tr.forget (R3 (args:=[.int .i64 a,.int .i64 b,.int .i64 c]) (fn:=Tryz.f78) rfl ?_)
 obtain rfl:=oJ d
 exact aI rfl (Sub.refl _)
theorem M8(h:Hp)(b:Int)(g:Q0 b)(c:Int)(i:Q0 c)(r:Int)(a:Y4 b c=some r):
  Tr Tryz.prog 342 #[.int .i64 b,.int .i64 c] h λv d=>v = .int .i64 r/\d=h:=by
 unfold Y4 at a
 refine Tr.forget (R3 (args:=[.int .i64 b,.int .i64 c]) (fn:=Tryz.f342) rfl ?_)
 refine ifB a (λe a=>?_) λe a=>?_
 ·obtain rfl:=oJ a
  exact aI rfl (Sub.refl _)
 ·refine ifB a (λf a=>?_) λf a=>?_
  ·obtain rfl:=oJ a
   exact aI rfl (Sub.refl _)
  ·obtain rfl:=oJ a
   exact aI rfl (Sub.refl _)
theorem n08(h:Hp)(c:List Value)(e:j0)(w:C1.R h c e)(d:List Value)(f:C0)(y:D1.R h d f)(r:Bool)(a:B8 e f=some r):
  Tr Tryz.prog 339 #[.agg c.toArray,.agg d.toArray] h λv j=>v = .bool r/\j=h:=by
 obtain⟨o,b,g,B,i,p,rfl,rfl,k,z,x⟩:=D0 w
 obtain⟨rfl,A⟩:=Sl.len x
 obtain⟨s,t,u,rfl,rfl,l,m,n⟩:=H1 y
 unfold B8 at a
 dsimp only at a
 refine Tr.forget (R3 (args:=[.agg #[.int .i64 o,.int .i64 b,.slice g p.length i],.agg #[.int .i64 s,.int .i64 t,.int .i64 u]]) (fn:=Tryz.f339) rfl ?_)
 refine trV a (V6 _ _ l 0 (by decide) (IntKind.i64.wrap (b-1)) (M0 _)) λC a=>?_
 refine trG a (λq=>V6 _ _ n 0 (by decide) (IntKind.i64.wrap (b-1)) (M0 _)) λD a=>?_
 refine trG a (λq=>V6 _ _ m 1 (by decide) _ k) λE a=>?_
 obtain rfl:=oJ a
 exact aI rfl (Sub.refl _)
theorem a00(h:Hp)(o:List Value)(y:C0)(Q:D1.R h o y)(p:List Value)(z:C0)(S:D1.R h p z)(r:Int)(b:J5 y z=some r):
  Tr Tryz.prog 314 #[.agg o.toArray,.agg p.toArray] h λv m=>v = .int .i64 r/\m=h:=by
 obtain⟨d,e,f,rfl,rfl,q,s,t⟩:=H1 Q
 obtain⟨g,i,j,rfl,rfl,u,w,x⟩:=H1 S
 unfold J5 at b
 dsimp only at b
 refine Tr.forget (R3 (args:=[.agg #[.int .i64 d,.int .i64 e,.int .i64 f],.agg #[.int .i64 g,.int .i64 i,.int .i64 j]]) (fn:=Tryz.f314) rfl ?_)
 obtain⟨n,M,b⟩:=l0 b
 refine eX { vars:=[7],boxes:=[],owns:=[],fuel:=true } (eX (λvs os m=>∃ k,vs.tail = [.int .i64 k]/\os = []/\Sub h m/\Q0 k/\P4 d e f g i j (L2 vs) k=some n) (eX (λ_ _=>0) (aI (eX V0 ⟨0,rfl,rfl,(Sub.refl _),(by decide),M⟩) ?_)))
 rintro _ l ag ⟨k,⟨⟩,⟨⟩,c,ab,a⟩
 replace a:P4 d e f g i j l k=some n:=a
 obtain _|l:=l
 ·cases a
 rw[P4.eq_2]at a
 refine ifB a (λO a=>?_) λO a=>?_
 ·refine Or.inl (aI (aI (by kernel_rfl) (by kernel_rfl)) ?_)
  obtain⟨ai,J,a⟩:=l0 a
  obtain⟨B,Y,F,U⟩:=s5 (F2.up (r:=Wp.int.toRp) c (show F2 (Wp.int.R h) ([[.int .i64 d],[.int .i64 e],[.int .i64 f]]:List (List Value)) [d,e,f] from⟨⟨rfl,q⟩,⟨⟨rfl,s⟩,⟨⟨rfl,t⟩,trivial⟩⟩⟩)) J
  refine aI B ?_
  obtain⟨rfl,ad⟩:=U
  refine eX _ (aI F ?_)
  obtain⟨aj,K,a⟩:=l0 a
  obtain⟨C,Z,G,V⟩:=s5 (F2.up (r:=Wp.int.toRp) c (show F2 (Wp.int.R h) ([[.int .i64 g],[.int .i64 i],[.int .i64 j]]:List (List Value)) [g,i,j] from⟨⟨rfl,u⟩,⟨⟨rfl,w⟩,⟨⟨rfl,x⟩,trivial⟩⟩⟩)) K
  refine aI C ?_
  obtain⟨rfl,ae⟩:=V
  refine eX _ (aI G ?_)
  refine ifB a (λP a=>?_) λP a=>?_
  ·obtain rfl:=oJ a
   try dsimp only[D5,E5]at b
   obtain rfl:=oJ b
   exact aI rfl c
  ·refine Or.inl (aI (aI (by kernel_rfl) (by kernel_rfl)) ?_)
   obtain⟨ak,L,a⟩:=l0 a
   obtain⟨D,aa,H,W⟩:=s5 (F2.up (r:=Wp.int.toRp) c (show F2 (Wp.int.R h) ([[.int .i64 d],[.int .i64 e],[.int .i64 f]]:List (List Value)) [d,e,f] from⟨⟨rfl,q⟩,⟨⟨rfl,s⟩,⟨⟨rfl,t⟩,trivial⟩⟩⟩)) L
   refine aI D ?_
   obtain⟨rfl,af⟩:=W
   refine eX _ (aI H ?_)
   obtain⟨ah,I,a⟩:=l0 a
   obtain⟨A,X,E,T⟩:=s5 (F2.up (r:=Wp.int.toRp) c (show F2 (Wp.int.R h) ([[.int .i64 g],[.int .i64 i],[.int .i64 j]]:List (List Value)) [g,i,j] from⟨⟨rfl,u⟩,⟨⟨rfl,w⟩,⟨⟨rfl,x⟩,trivial⟩⟩⟩)) I
   refine aI A ?_
   obtain⟨rfl,ac⟩:=T
   refine eX _ (aI E ?_)
   refine ifB a (λN a=>?_) λN a=>?_
   ·obtain rfl:=oJ a
    try dsimp only[D5,E5]at b
    obtain rfl:=oJ b
    exact aI rfl c
   ·exact d4 l ⟨(IntKind.i64.wrap (k+1)),rfl,rfl,c,(M0 _),a⟩
 ·obtain rfl:=oJ a
  try dsimp only[j1,E1]at b
  obtain rfl:=oJ b
  exact aI rfl c
theorem l9(h:Hp)(m:List Value)(u:j0)(O:C1.R h m u)(r:Bool)(b:c6 u=some r):
  Tr Tryz.prog 312 #[.agg m.toArray] h λv g=>v = .bool r/\g=h:=by
 obtain⟨i,j,w,ab,x,k,rfl,rfl,p,s,e⟩:=D0 O
 obtain⟨rfl,aa⟩:=Sl.len e
 unfold c6 at b
 dsimp only at b
 refine Tr.forget (R3 (args:=[.agg #[.int .i64 i,.int .i64 j,.slice w k.length x]]) (fn:=Tryz.f312) rfl ?_)
 obtain⟨l,C,b⟩:=l0 b
 refine eX { vars:=[3],boxes:=[],owns:=[],fuel:=true } (eX (λvs os g=>∃ d,vs.tail = [.int .i64 d]/\os = []/\Sub h g/\Q0 d/\j5 k i j (L2 vs) d=some l) (eX (λ_ _=>0) (aI (eX V0 ⟨0,rfl,rfl,(Sub.refl _),(by decide),C⟩) ?_)))
 rintro _ f t ⟨d,⟨⟩,⟨⟩,c,Y,a⟩
 replace a:j5 k i j f d=some l:=a
 obtain _|f:=f
 ·cases a
 rw[j5.eq_2]at a
 refine ifB a (λE a=>?_) λE a=>?_
 ·refine Or.inl (aI (aI (by kernel_rfl) (by kernel_rfl)) ?_)
  refine ld a (I0.mono c e) λaf V P a=>?_
  obtain⟨ag,ah,ai,rfl,rfl,F,G,H⟩:=H1 P
  try dsimp only at a
  obtain⟨U,z,a⟩:=l0 a
  refine eX (.bool U) (aI (n08 _ _ _ (B0 p s (I0.mono c e)) _ _ (M1 F G H) _  z) ?_)
  obtain⟨aj,A,a⟩:=l0 a
  obtain⟨W,n,Q⟩:=Sl.getG (r:=D1.toRp) (I0.mono c e) A (by decide) (h0c t)
  refine aI (λq=>(n q).1) ?_
  obtain⟨ak,al,am,rfl,rfl,I,J,K⟩:=H1 Q
  try dsimp only at a
  refine eX _ (aI (λq=>(n q).2) ?_)
  obtain⟨an,B,a⟩:=l0 a
  obtain⟨X,o,S⟩:=Sl.getG (r:=D1.toRp) (I0.mono c e) B (by decide) (h0c t)
  refine aI (λq=>(o q).1) ?_
  obtain⟨ao,ap,aq,rfl,rfl,L,M,N⟩:=H1 S
  try dsimp only at a
  refine eX _ (aI (λq=>(o q).2) ?_)
  refine trG a (λq=>a00 _ _ _ (M1 I J K) _ _ (M1 L M N)) λT a=>?_
  obtain⟨ac,y,a⟩:=l0 a
  have Z:Q0 T:=d5 y
  refine ifB a (λD a=>?_) λD a=>?_
  ·obtain rfl:=oJ a
   try dsimp only[D5,E5]at b
   obtain rfl:=oJ b
   exact aI rfl c
  ·exact d4 f ⟨(IntKind.i64.wrap (d+1)),rfl,rfl,c,(M0 _),a⟩
 ·obtain rfl:=oJ a
  try dsimp only[j1,E1]at b
  refine trV b (V6 _ _ p 1 (by decide) 3 (by decide)) λad b=>?_
  refine trG b (λq=>V6 _ _ s 1 (by decide) 40 (by decide)) λae b=>?_
  obtain rfl:=oJ b
  exact aI rfl c
theorem H01(h:Hp)(c:List Value)(d:j0)(m:C1.R h c d)(b:Int)(j:Q0 b)(r:Bool)(a:j7 d b=some r):
  Tr Tryz.prog 290 #[.agg c.toArray,.int .i64 b] h λv i=>v = .bool r/\i=h:=by
 obtain⟨k,e,f,s,g,l,rfl,rfl,o,p,n⟩:=D0 m
 obtain⟨rfl,q⟩:=Sl.len n
 unfold j7 at a
 dsimp only at a
 refine Tr.forget (R3 (args:=[.agg #[.int .i64 k,.int .i64 e,.slice f l.length g],.int .i64 b]) (fn:=Tryz.f290) rfl ?_)
 refine trV a (Q7 _ _ j 0 (by decide) (IntKind.i64.wrap (e-1)) (M0 _)) λt a=>?_
 obtain rfl:=oJ a
 exact aI rfl (Sub.refl _)
theorem W02(h:Hp)(d:List Value)(g:j0)(y:C1.R h d g)(e:List Value)(i:C0)(z:D1.R h e i)(r:Bool)(a:d6 g i=some r):
  Tr Tryz.prog 337 #[.agg d.toArray,.agg e.toArray] h λv l=>v = .bool r/\l=h:=by
 obtain⟨p,s,j,B,k,t,rfl,rfl,b,f,c⟩:=D0 y
 obtain⟨rfl,A⟩:=Sl.len c
 obtain⟨u,w,x,rfl,rfl,m,n,o⟩:=H1 z
 unfold d6 at a
 dsimp only at a
 refine Tr.forget (R3 (args:=[.agg #[.int .i64 p,.int .i64 s,.slice j t.length k],.agg #[.int .i64 u,.int .i64 w,.int .i64 x]]) (fn:=Tryz.f337) rfl ?_)
 refine trV a (H01 _ _ _ (B0 b f c) _ m) λC a=>?_
 refine trG a (λq=>H01 _ _ _ (B0 b f c) _ o) λD a=>?_
 refine trG a (λq=>Q7 _ _ n 1 (by decide) _ b) λE a=>?_
 obtain rfl:=oJ a
 exact aI rfl (Sub.refl _)
theorem b00(h:Hp)(b:List Value)(d:C0)(A:D1.R h b d)(c:List Value)(e:C0)(B:D1.R h c e)(r:Int)(a:r6 d e=some r):
  Tr Tryz.prog 316 #[.agg b.toArray,.agg c.toArray] h λv j=>v = .int .i64 r/\j=h:=by
 obtain⟨t,u,w,rfl,rfl,m,n,o⟩:=H1 A
 obtain⟨x,y,z,rfl,rfl,p,q,s⟩:=H1 B
 unfold r6 at a
 dsimp only at a
 refine Tr.forget (R3 (args:=[.agg #[.int .i64 t,.int .i64 u,.int .i64 w],.agg #[.int .i64 x,.int .i64 y,.int .i64 z]]) (fn:=Tryz.f316) rfl ?_)
 refine trV a (M8 _ _ m _ p) λC a=>?_
 obtain⟨I,f,a⟩:=l0 a
 have F:Q0 C:=d5 f
 refine ifB a (λk a=>?_) λk a=>?_
 ·obtain rfl:=oJ a
  exact aI rfl (Sub.refl _)
 ·refine trV a (M8 _ _ n _ q) λD a=>?_
  obtain⟨J,g,a⟩:=l0 a
  have G:Q0 D:=d5 g
  refine ifB a (λl a=>?_) λl a=>?_
  ·obtain rfl:=oJ a
   exact aI rfl (Sub.refl _)
  ·refine trV a (M8 _ _ o _ s) λE a=>?_
   obtain⟨K,i,a⟩:=l0 a
   have H:Q0 E:=d5 i
   obtain rfl:=oJ a
   exact aI rfl (Sub.refl _)
theorem X02(h:Hp)(m:List Value)(w:j0)(K:C1.R h m w)(r:Bool)(b:l7 w=some r):
  Tr Tryz.prog 300 #[.agg m.toArray] h λv g=>v = .bool r/\g=h:=by
 obtain⟨i,j,x,V,y,k,rfl,rfl,o,p,f⟩:=D0 K
 obtain⟨rfl,U⟩:=Sl.len f
 unfold l7 at b
 dsimp only at b
 refine Tr.forget (R3 (args:=[.agg #[.int .i64 i,.int .i64 j,.slice x k.length y]]) (fn:=Tryz.f300) rfl ?_)
 refine trV b (Q7 _ _ o 1 (by decide) 3 (by decide)) λX b=>?_
 refine trG b (λq=>Q7 _ _ p 1 (by decide) 40 (by decide)) λac b=>?_
 refine ifB b (λE b=>?_) λE b=>?_
 ·obtain rfl:=oJ b
  exact aI rfl (Sub.refl _)
 ·obtain⟨l,C,b⟩:=l0 b
  refine eX { vars:=[24],boxes:=[],owns:=[],fuel:=true } (eX (λvs os g=>∃ d,vs.tail = [.int .i64 d]/\os = []/\Sub h g/\Q0 d/\l5 k i j (L2 vs) d=some l) (eX (λ_ _=>0) (aI (eX V0 ⟨0,rfl,rfl,(Sub.refl _),(by decide),C⟩) ?_)))
  rintro _ e J ⟨d,⟨⟩,⟨⟩,c,S,a⟩
  replace a:l5 k i j e d=some l:=a
  obtain _|e:=e
  ·cases a
  rw[l5.eq_2]at a
  refine ifB a (λF a=>?_) λF a=>?_
  ·refine ld a (I0.mono c f) λad Q M a=>?_
   obtain⟨ae,af,ag,rfl,rfl,s,t,u⟩:=H1 M
   try dsimp only at a
   refine Or.inl (aI (aI (by kernel_rfl) (by kernel_rfl)) ?_)
   obtain⟨N,A,a⟩:=l0 a
   refine eX (.bool N) (aI (W02 _ _ _ (B0 o p (I0.mono c f)) _ _ (M1 s t u) _  A) ?_)
   obtain⟨Y,B,a⟩:=l0 a
   obtain⟨P,n,L⟩:=Sl.getG (r:=D1.toRp) (I0.mono c f) B (by decide) (h0c J)
   refine aI (λq=>(n q).1) ?_
   obtain⟨Z,aa,ab,rfl,rfl,G,H,I⟩:=H1 L
   try dsimp only at a
   refine eX _ (aI (λq=>(n q).2) ?_)
   refine trG a (λq=>b00 _ _ _ (M1 G H I) _ _ (M1 s t u)) λO a=>?_
   obtain⟨W,z,a⟩:=l0 a
   have T:Q0 O:=d5 z
   refine ifB a (λD a=>?_) λD a=>?_
   ·obtain rfl:=oJ a
    try dsimp only[D5,E5]at b
    obtain rfl:=oJ b
    exact aI rfl c
   ·exact d4 e ⟨(IntKind.i64.wrap (d+1)),rfl,rfl,c,(M0 _),a⟩
  ·obtain rfl:=oJ a
   try dsimp only[j1,E1]at b
   obtain rfl:=oJ b
   exact aI rfl c
theorem s8(h:Hp)(w:Option Addr)(G x:Nat)(t:S0)(k:F5.R h [.slice w G x] t)(b:Int)(g:Q0 b)(r:S0)(f:V5 t b=some r):
  Tr Tryz.prog 336 #[.slice w G x,.int .i64 b] h λv s=>∃(z:Option Addr) (F A:Nat),v = .slice z F A/\F5.R s [.slice z F A] r/\Sub h s:=by
 obtain⟨rfl,al⟩:=Sl.len k
 unfold V5 at f
 refine R3 (args:=[.slice w t.length x,.int .i64 b]) (fn:=Tryz.f336) rfl ?_
 obtain⟨y,V,f⟩:=l0 f
 refine eX { vars:=[6,7],boxes:=[],owns:=[0],fuel:=true } (eX (λvs os s=>∃ u j m i,vs.tail = [.bool u,.int .i64 j]/\os = [m]/\Sub h s/\Q0 j/\F2 (Wp.int.R s) m i/\j3 t b (L2 vs) u j i=some y) (eX (λ_ _=>0) (aI (eX V0 ⟨false,0,[],([]:S0),rfl,rfl,(Sub.refl _),(by decide),(show F2 (Wp.int.R h) ([]:List (List Value)) ([]:S0) from trivial),V⟩) ?_)))
 rintro _ _ m l d ⟨u,j,aC,i,⟨⟩,⟨⟩,e,af,c,a⟩
 replace a:j3 t b l u j i=some y:=a
 obtain _|l:=l
 ·cases a
 rw[j3.eq_2]at a
 refine ifB a (λZ a=>?_) λZ a=>?_
 ·refine ldI a (F5.mono e k) λaB ai a=>?_
  refine ifB a (λaa a=>?_) λaa a=>?_
  ·refine ldI a (F5.mono e k) λaz ag a=>?_
   refine ifB a (λW a=>?_) λW a=>?_
   ·obtain⟨ao,N,a⟩:=l0 a
    refine aI (Q2 N (by first|rw[F2.length c,F2.length (show F2 (Wp.int.R d) ([[.int .i64 b]]:List (List Value)) [b] from⟨⟨rfl,g⟩,trivial⟩)]|exact congrArg (·+1) (F2.length c))) ?_
    refine ldI a (F5.mono e k) λn B a=>?_
    obtain⟨ap,O,a⟩:=l0 a
    refine aI (Q2 O (by first|rw[F2.length (F2.append c (show F2 (Wp.int.R d) ([[.int .i64 b]]:List (List Value)) [b] from⟨⟨rfl,g⟩,trivial⟩)),F2.length (show F2 (Wp.int.R d) ([[.int .i64 n]]:List (List Value)) [n] from⟨⟨rfl,B⟩,trivial⟩)]|exact congrArg (·+1) (F2.length (F2.append c (show F2 (Wp.int.R d) ([[.int .i64 b]]:List (List Value)) [b] from⟨⟨rfl,g⟩,trivial⟩))))) ?_
    exact d4 l ⟨true,(IntKind.i64.wrap (j+1)),((m++([[.int .i64 b]]:List (List Value)))++([[.int .i64 n]]:List (List Value))),((i ++ [b]) ++ [n]),rfl,rfl,e,(M0 _),(F2.append (F2.append c (show F2 (Wp.int.R d) ([[.int .i64 b]]:List (List Value)) [b] from⟨⟨rfl,g⟩,trivial⟩)) (show F2 (Wp.int.R d) ([[.int .i64 n]]:List (List Value)) [n] from⟨⟨rfl,B⟩,trivial⟩)),a⟩
   ·refine ldI a (F5.mono e k) λo C a=>?_
    obtain⟨aq,P,a⟩:=l0 a
    refine aI (Q2 P (by first|rw[F2.length c,F2.length (show F2 (Wp.int.R d) ([[.int .i64 o]]:List (List Value)) [o] from⟨⟨rfl,C⟩,trivial⟩)]|exact congrArg (·+1) (F2.length c))) ?_
    exact d4 l ⟨true,(IntKind.i64.wrap (j+1)),(m++([[.int .i64 o]]:List (List Value))),(i ++ [o]),rfl,rfl,e,(M0 _),(F2.append c (show F2 (Wp.int.R d) ([[.int .i64 o]]:List (List Value)) [o] from⟨⟨rfl,C⟩,trivial⟩)),a⟩
  ·refine ldI a (F5.mono e k) λaA ah a=>?_
   refine ifB a (λX a=>?_) λX a=>?_
   ·obtain⟨ar,Q,a⟩:=l0 a
    refine aI (Q2 Q (by first|rw[F2.length c,F2.length (show F2 (Wp.int.R d) ([[.int .i64 b]]:List (List Value)) [b] from⟨⟨rfl,g⟩,trivial⟩)]|exact congrArg (·+1) (F2.length c))) ?_
    refine ldI a (F5.mono e k) λp D a=>?_
    obtain⟨au,S,a⟩:=l0 a
    refine aI (Q2 S (by first|rw[F2.length (F2.append c (show F2 (Wp.int.R d) ([[.int .i64 b]]:List (List Value)) [b] from⟨⟨rfl,g⟩,trivial⟩)),F2.length (show F2 (Wp.int.R d) ([[.int .i64 p]]:List (List Value)) [p] from⟨⟨rfl,D⟩,trivial⟩)]|exact congrArg (·+1) (F2.length (F2.append c (show F2 (Wp.int.R d) ([[.int .i64 b]]:List (List Value)) [b] from⟨⟨rfl,g⟩,trivial⟩))))) ?_
    exact d4 l ⟨true,(IntKind.i64.wrap (j+1)),((m++([[.int .i64 b]]:List (List Value)))++([[.int .i64 p]]:List (List Value))),((i ++ [b]) ++ [p]),rfl,rfl,e,(M0 _),(F2.append (F2.append c (show F2 (Wp.int.R d) ([[.int .i64 b]]:List (List Value)) [b] from⟨⟨rfl,g⟩,trivial⟩)) (show F2 (Wp.int.R d) ([[.int .i64 p]]:List (List Value)) [p] from⟨⟨rfl,D⟩,trivial⟩)),a⟩
   ·refine ldI a (F5.mono e k) λq E a=>?_
    obtain⟨av,T,a⟩:=l0 a
    refine aI (Q2 T (by first|rw[F2.length c,F2.length (show F2 (Wp.int.R d) ([[.int .i64 q]]:List (List Value)) [q] from⟨⟨rfl,E⟩,trivial⟩)]|exact congrArg (·+1) (F2.length c))) ?_
    exact d4 l ⟨u,(IntKind.i64.wrap (j+1)),(m++([[.int .i64 q]]:List (List Value))),(i ++ [q]),rfl,rfl,e,(M0 _),(F2.append c (show F2 (Wp.int.R d) ([[.int .i64 q]]:List (List Value)) [q] from⟨⟨rfl,E⟩,trivial⟩)),a⟩
 ·obtain rfl:=oJ a
  try dsimp only[j1,E1]at f
  refine ifB f (λY f=>?_) λY f=>?_
  ·obtain⟨aw,U,f⟩:=l0 f
   refine aI (Q2 U (by first|rw[F2.length c,F2.length (show F2 (Wp.int.R d) ([[.int .i64 b]]:List (List Value)) [b] from⟨⟨rfl,g⟩,trivial⟩)]|exact congrArg (·+1) (F2.length c))) ?_
   intro ax aj L
   obtain⟨H,J,rfl,ab,ad,am⟩:=U0.out (r:=Wp.int.toRp) L (F2.append c (show F2 (Wp.int.R d) ([[.int .i64 b]]:List (List Value)) [b] from⟨⟨rfl,g⟩,trivial⟩))
   obtain rfl:=oJ f
   exact⟨H,((i ++ [b])).length,J,rfl,ab,(e.trans ad)⟩
  ·intro ay ak M
   obtain⟨I,K,rfl,ac,ae,an⟩:=U0.out (r:=Wp.int.toRp) M c
   obtain rfl:=oJ f
   exact⟨I,i.length,K,rfl,ac,(e.trans ae)⟩
theorem n9(h:Hp)(i:Option Addr)(m j:Nat)(e:S0)(n:F5.R h [.slice i m j] e)(c:Int)(s:Q0 c)(r:Bool)(b:A6 e c=some r):
  Tr Tryz.prog 246 #[.slice i m j,.int .i64 c] h λv k=>v = .bool r/\k=h:=by
 obtain⟨rfl,x⟩:=Sl.len n
 unfold A6 at b
 refine Tr.forget (R3 (args:=[.slice i e.length j,.int .i64 c]) (fn:=Tryz.f246) rfl ?_)
 obtain⟨l,o,b⟩:=l0 b
 refine eX { vars:=[5],boxes:=[],owns:=[],fuel:=true } (eX (λvs os k=>∃ d,vs.tail = [.int .i64 d]/\os = []/\Sub h k/\Q0 d/\g6 e c (L2 vs) d=some l) (eX (λ_ _=>0) (aI (eX V0 ⟨0,rfl,rfl,(Sub.refl _),(by decide),o⟩) ?_)))
 rintro _ f w ⟨d,⟨⟩,⟨⟩,g,t,a⟩
 replace a:g6 e c f d=some l:=a
 obtain _|f:=f
 ·cases a
 rw[g6.eq_2]at a
 refine ifB a (λp a=>?_) λp a=>?_
 ·refine ldI a (F5.mono g n) λy u a=>?_
  refine ifB a (λq a=>?_) λq a=>?_
  ·obtain rfl:=oJ a
   try dsimp only[D5,E5]at b
   obtain rfl:=oJ b
   exact aI rfl g
  ·exact d4 f ⟨(IntKind.i64.wrap (d+1)),rfl,rfl,g,(M0 _),a⟩
 ·obtain rfl:=oJ a
  try dsimp only[j1,E1]at b
  obtain rfl:=oJ b
  exact aI rfl g
theorem R05(h:Hp)(u:List Value)(y:j0)(Z:C1.R h u y)(f:Int)(ai:Q0 f)(g:Int)(aj:Q0 g)(r:S0)(e:n7 y f g=some r):
  Tr Tryz.prog 297 #[.agg u.toArray,.int .i64 f,.int .i64 g] h λv l=>∃(s:Option Addr) (x t:Nat),v = .slice s x t/\F5.R l [.slice s x t] r/\Sub h l:=by
 obtain⟨X,Y,G,az,L,o,rfl,rfl,ag,ah,z⟩:=D0 Z
 obtain⟨rfl,ar⟩:=Sl.len z
 unfold n7 at e
 dsimp only at e
 refine R3 (args:=[.agg #[.int .i64 X,.int .i64 Y,.slice G o.length L],.int .i64 f,.int .i64 g]) (fn:=Tryz.f297) rfl ?_
 obtain⟨q,Q,e⟩:=l0 e
 refine eX { vars:=[7,8],boxes:=[],owns:=[],fuel:=true,pubs:=[7,10] } (eX (λvs os l=>∃(j:Option Addr) (n k:Nat) (d:S0) (b:Int),vs.tail = [.slice j n k,.int .i64 b]/\os = []/\Sub h l/\F5.R l [.slice j n k] d/\Q0 b/\O2 o g f (L2 vs) d b=some q) (eX (λ_ _=>0) ?_))
 intro aD ao f3
 obtain⟨K,P,rfl,ab,ae,ay⟩:=U0.out (r:=Wp.int.toRp) f3 (show F2 (Wp.int.R h) ([]:List (List Value)) ([]:S0) from trivial)
 refine aI (eX V0 ⟨K,(([]:S0)).length,P,([]:S0),0,rfl,rfl,ae,ab,(by decide),Q⟩) ?_
 rintro _ _ c aq ⟨j,n,k,d,b,⟨⟩,⟨⟩,i,m,ak,a⟩
 replace a:O2 o g f c d b=some q:=a
 obtain _|c:=c
 ·cases a
 rw[O2.eq_2]at a
 obtain⟨rfl,au⟩:=Sl.len m
 refine ifB a (λS a=>?_) λS a=>?_
 ·refine ld a (I0.mono i z) λaH af aa a=>?_
  obtain⟨aJ,aK,aL,rfl,rfl,w,al,W⟩:=H1 aa
  try dsimp only at a
  refine ifB a (λT a=>?_) λT a=>?_
  ·refine trM a (s8 _ _ _ _ _ m _ W) ?_
   rintro D a aE am ⟨H,aA,M,rfl,p,C⟩
   obtain⟨rfl,av⟩:=Sl.len p
   refine ifB a (λU a=>?_) λU a=>?_
   ·refine trM a (s8 _ _ _ _ _ p _ w) ?_
    rintro E a aF an ⟨I,aB,N,rfl,A,ac⟩
    obtain⟨rfl,aw⟩:=Sl.len A
    exact d4 c ⟨I,E.length,N,E,(IntKind.i64.wrap (b+1)),rfl,rfl,((i.trans C).trans ac),A,(M0 _),a⟩
   ·exact d4 c ⟨H,D.length,M,D,(IntKind.i64.wrap (b+1)),rfl,rfl,(i.trans C),p,(M0 _),a⟩
  ·refine ifB a (λV a=>?_) λV a=>?_
   ·refine trM a (s8 _ _ _ _ _ m _ w) ?_
    rintro F a aG ap ⟨J,aC,O,rfl,B,ad⟩
    obtain⟨rfl,ax⟩:=Sl.len B
    exact d4 c ⟨J,F.length,O,F,(IntKind.i64.wrap (b+1)),rfl,rfl,(i.trans ad),B,(M0 _),a⟩
   ·exact d4 c ⟨j,d.length,k,d,(IntKind.i64.wrap (b+1)),rfl,rfl,i,m,(M0 _),a⟩
 ·obtain rfl:=oJ a
  try dsimp only[j1,E1]at e
  obtain rfl:=oJ e
  exact⟨j,d.length,k,rfl,m,i⟩
theorem d05(h:Hp)(d:List Value)(e:j0)(w:C1.R h d e)(b:Int)(p:Q0 b)(c:Int)(q:Q0 c)(r:Int)(a:T6 e b c=some r):
  Tr Tryz.prog 214 #[.agg d.toArray,.int .i64 b,.int .i64 c] h λv l=>v = .int .i64 r/\l=h:=by
 obtain⟨s,t,j,D,k,u,rfl,rfl,n,o,f⟩:=D0 w
 obtain⟨rfl,B⟩:=Sl.len f
 unfold T6 at a
 dsimp only at a
 refine Tr.forget (R3 (args:=[.agg #[.int .i64 s,.int .i64 t,.slice j u.length k],.int .i64 b,.int .i64 c]) (fn:=Tryz.f214) rfl ?_)
 refine trM a (R05 _ _ _ (B0 n o f) _ p _ q) ?_
 rintro G a F A ⟨x,E,y,rfl,g,i⟩
 obtain⟨rfl,C⟩:=Sl.len g
 refine ifB a (λm a=>?_) λm a=>?_
 ·obtain rfl:=oJ a
  exact aI rfl i
 ·refine ldI a g λH z a=>?_
  obtain rfl:=oJ a
  exact aI rfl i
theorem m02(h:Hp)(s:List Value)(w:j0)(F:C1.R h s w)(r:Bool)(c:P6 w=some r):
  Tr Tryz.prog 293 #[.agg s.toArray] h λv f=>v = .bool r/\f=h:=by
 obtain⟨m,n,x,V,y,g,rfl,rfl,t,u,i⟩:=D0 F
 obtain⟨rfl,U⟩:=Sl.len i
 unfold P6 at c
 dsimp only at c
 refine Tr.forget (R3 (args:=[.agg #[.int .i64 m,.int .i64 n,.slice x g.length y]]) (fn:=Tryz.f293) rfl ?_)
 obtain⟨o,z,c⟩:=l0 c
 refine eX { vars:=[3],boxes:=[],owns:=[],fuel:=true } (eX (λvs os f=>∃ d,vs.tail = [.int .i64 d]/\os = []/\Sub h f/\Q0 d/\P3 g m n (L2 vs) d=some o) (eX (λ_ _=>0) (aI (eX V0 ⟨0,rfl,rfl,(Sub.refl _),(by decide),z⟩) ?_)))
 rintro _ l E ⟨d,⟨⟩,⟨⟩,e,K,b⟩
 replace b:P3 g m n l d=some o:=b
 obtain _|l:=l
 ·cases b
 rw[P3.eq_2]at b
 refine trG b (λq=>l9 _ _ _ (B0 t u (I0.mono e i))) λaf b=>?_
 refine ifB b (λD b=>?_) λD b=>?_
 ·obtain⟨p,A,b⟩:=l0 b
  refine eX { vars:=[4],boxes:=[],owns:=[],fuel:=true } (eX (λvs os f=>∃ u8,vs.tail = [.int .i64 u8]/\os = []/\Sub E f/\Q0 u8/\I4 d g (L2 vs) u8=some p) (eX (λ_ _=>0) (aI (eX V0 ⟨0,rfl,rfl,(Sub.refl _),(by decide),A⟩) ?_)))
  rintro _ k T ⟨u8,⟨⟩,⟨⟩,j,L,a⟩
  replace a:I4 d g k u8=some p:=a
  obtain _|k:=k
  ·cases a
  rw[I4.eq_2]at a
  refine ifB a (λB a=>?_) λB a=>?_
  ·refine ld a (I0.mono (e.trans j) i) λW I G a=>?_
   obtain⟨X,Y,Z,rfl,rfl,M,N,O⟩:=H1 G
   try dsimp only at a
   refine ld a (I0.mono (e.trans j) i) λaa J H a=>?_
   obtain⟨ab,ac,ad,rfl,rfl,P,Q,S⟩:=H1 H
   try dsimp only at a
   refine ifB a (λC a=>?_) λC a=>?_
   ·obtain rfl:=oJ a
    try dsimp only[D5,E5]at b
    obtain rfl:=oJ b
    try dsimp only[D5,E5]at c
    obtain rfl:=oJ c
    exact aI rfl (e.trans j)
   ·exact d4 k ⟨(IntKind.i64.wrap (u8+1)),rfl,rfl,j,(M0 _),a⟩
  ·obtain rfl:=oJ a
   try dsimp only[j1,E1]at b
   exact d4 l ⟨(IntKind.i64.wrap (d+1)),rfl,rfl,(e.trans j),(M0 _),b⟩
 ·obtain rfl:=oJ b
  try dsimp only[j1,E1]at c
  refine trV c (l9 _ _ _ (B0 t u (I0.mono e i))) λae c=>?_
  obtain rfl:=oJ c
  exact aI rfl e
theorem S05(h:Hp)(u:List Value)(B:j0)(U:C1.R h u B)(g:Int)(ab:Q0 g)(i:Int)(ac:Q0 i)(r:S0)(c:o7 B g i=some r):
  Tr Tryz.prog 286 #[.agg u.toArray,.int .i64 g,.int .i64 i] h λv n=>∃(s:Option Addr) (A t:Nat),v = .slice s A t/\New F5 h n [.slice s A t] r:=by
 obtain⟨S,T,F,al,H,p,rfl,rfl,Z,aa,E⟩:=D0 U
 obtain⟨rfl,ai⟩:=Sl.len E
 unfold o7 at c
 dsimp only at c
 refine R3 (args:=[.agg #[.int .i64 S,.int .i64 T,.slice F p.length H],.int .i64 g,.int .i64 i]) (fn:=Tryz.f286) rfl ?_
 obtain⟨q,N,c⟩:=l0 c
 refine eX { vars:=[14],boxes:=[],owns:=[0],fuel:=true } (eX (λvs os n=>∃ d j e,vs.tail = [.int .i64 d]/\os = [j]/\Sub h n/\Q0 d/\F2 (Wp.int.R n) j e/\D3 p i g (L2 vs) d e=some q) (eX (λ_ _=>0) (aI (eX V0 ⟨0,[],([]:S0),rfl,rfl,(Sub.refl _),(by decide),(show F2 (Wp.int.R h) ([]:List (List Value)) ([]:S0) from trivial),N⟩) ?_)))
 rintro _ j f o ⟨d,aA,e,⟨⟩,⟨⟩,m,ad,b,a⟩
 replace a:D3 p i g f d e=some q:=a
 obtain _|f:=f
 ·cases a
 rw[D3.eq_2]at a
 refine ifB a (λP a=>?_) λP a=>?_
 ·refine ld a (I0.mono m E) λay X V a=>?_
  obtain⟨k,az,l,rfl,rfl,y,ae,z⟩:=H1 V
  try dsimp only at a
  refine ifB a (λQ a=>?_) λQ a=>?_
  ·obtain⟨ao,M,a⟩:=l0 a
   refine aI (Q2 M (by first|rw[F2.length b,F2.length (show F2 (Wp.int.R o) ([[.int .i64 l]]:List (List Value)) [l] from⟨⟨rfl,z⟩,trivial⟩)]|exact congrArg (·+1) (F2.length b))) ?_
   exact d4 f ⟨(IntKind.i64.wrap (d+1)),(j++([[.int .i64 l]]:List (List Value))),(e ++ [l]),rfl,rfl,m,(M0 _),(F2.append b (show F2 (Wp.int.R o) ([[.int .i64 l]]:List (List Value)) [l] from⟨⟨rfl,z⟩,trivial⟩)),a⟩
  ·refine ifB a (λO a=>?_) λO a=>?_
   ·obtain⟨am,K,a⟩:=l0 a
    refine aI (Q2 K (by first|rw[F2.length b,F2.length (show F2 (Wp.int.R o) ([[.int .i64 k]]:List (List Value)) [k] from⟨⟨rfl,y⟩,trivial⟩)]|exact congrArg (·+1) (F2.length b))) ?_
    exact d4 f ⟨(IntKind.i64.wrap (d+1)),(j++([[.int .i64 k]]:List (List Value))),(e ++ [k]),rfl,rfl,m,(M0 _),(F2.append b (show F2 (Wp.int.R o) ([[.int .i64 k]]:List (List Value)) [k] from⟨⟨rfl,y⟩,trivial⟩)),a⟩
   ·exact d4 f ⟨(IntKind.i64.wrap (d+1)),j,e,rfl,rfl,m,(M0 _),b,a⟩
 ·obtain rfl:=oJ a
  try dsimp only[j1,E1]at c
  refine Or.inl ?_
  intro av af J
  obtain⟨an,L,c⟩:=l0 c
  refine Tr.mono (w0c _ J b (d5 L)) ?_
  rintro _ ag ⟨rfl,aw,w,C⟩
  obtain⟨W,Y,rfl,ap,ar,aj⟩:=U0.out (r:=Wp.int.toRp) w C
  refine Tr.mono (x0c _ w C) ?_
  rintro _ ah ⟨ax,x,D⟩
  obtain⟨G,I,rfl,aq,au,ak⟩:=U0.out (r:=Wp.int.toRp) x D
  obtain rfl:=oJ c
  exact⟨G,((p9 eqI (D01 j6 e))).length,I,rfl,(New.from (U0.newPlain (r:=Wp.int) x D (g0d _)) m)⟩
theorem e05(h:Hp)(d:List Value)(e:j0)(y:C1.R h d e)(b:Int)(q:Q0 b)(c:Int)(s:Q0 c)(r:Int)(a:U6 e b c=some r):
  Tr Tryz.prog 201 #[.agg d.toArray,.int .i64 b,.int .i64 c] h λv m=>v = .int .i64 r/\m=h:=by
 obtain⟨u,w,k,E,l,x,rfl,rfl,o,p,f⟩:=D0 y
 obtain⟨rfl,C⟩:=Sl.len f
 unfold U6 at a
 dsimp only at a
 refine Tr.forget (R3 (args:=[.agg #[.int .i64 u,.int .i64 w,.slice k x.length l],.int .i64 b,.int .i64 c]) (fn:=Tryz.f201) rfl ?_)
 refine trM a (S05 _ _ _ (B0 o p f) _ q _ s) ?_
 rintro H a G t ⟨z,F,A,rfl,j⟩
 have i:Sub h t:=j.sub
 have g:=j.r
 obtain⟨rfl,D⟩:=Sl.len g
 refine ifB a (λn a=>?_) λn a=>?_
 ·obtain rfl:=oJ a
  exact aI rfl i
 ·refine ldI a g λI B a=>?_
  obtain rfl:=oJ a
  exact aI rfl i
theorem Y9(h:Hp)(p:List Value)(q:j0)(Q:C1.R h p q)(r:Bool)(c:o6 q=some r):
  Tr Tryz.prog 219 #[.agg p.toArray] h λv f=>v = .bool r/\f=h:=by
 obtain⟨N,O,y,al,z,m,rfl,rfl,K,L,k⟩:=D0 Q
 obtain⟨rfl,aj⟩:=Sl.len k
 unfold o6 at c
 dsimp only at c
 refine Tr.forget (R3 (args:=[.agg #[.int .i64 N,.int .i64 O,.slice y m.length z]]) (fn:=Tryz.f219) rfl ?_)
 refine trV c (X02 _ _ _ (B0 K L k)) λam c=>?_
 refine ifB c (λH c=>?_) λH c=>?_
 ·obtain rfl:=oJ c
  exact aI rfl (Sub.refl _)
 ·obtain⟨o,E,c⟩:=l0 c
  refine eX { vars:=[13],boxes:=[],owns:=[],fuel:=true } (eX (λvs os f=>∃ e,vs.tail = [.int .i64 e]/\os = []/\Sub h f/\Q0 e/\K4 m (L2 vs) e=some o) (eX (λ_ _=>0) (aI (eX V0 ⟨0,rfl,rfl,(Sub.refl _),(by decide),E⟩) ?_)))
  rintro _ j M ⟨e,⟨⟩,⟨⟩,g,ab,a⟩
  replace a:K4 m j e=some o:=a
  obtain _|j:=j
  ·cases a
  rw[K4.eq_2]at a
  refine ifB a (λI a=>?_) λI a=>?_
  ·refine ld a (I0.mono g k) λar Y T a=>?_
   obtain⟨t,u,w,rfl,rfl,af,ag,ah⟩:=H1 T
   try dsimp only at a
   obtain⟨x,C,a⟩:=l0 a
   obtain⟨P,U,A,B⟩:=Sl.cutI (r:=D1.toRp) (I0.mono g k) C
   refine aI P (eX U (aI A ?_))
   intro V J _
   obtain⟨W,Z,rfl,s⟩:=B V J
   have ak:=(Sl.len s).2
   obtain⟨n,D,a⟩:=l0 a
   refine eX { vars:=[24],boxes:=[],owns:=[],fuel:=true } (eX (λvs os f=>∃ d,vs.tail = [.int .i64 d]/\os = []/\Sub M f/\Q0 d/\J4 x u t w (L2 vs) d=some n) (eX (λ_ _=>0) (aI (eX V0 ⟨0,rfl,rfl,(Sub.refl _),(by decide),D⟩) ?_)))
   rintro _ i ai ⟨d,⟨⟩,⟨⟩,l,aa,b⟩
   replace b:J4 x u t w i d=some n:=b
   obtain _|i:=i
   ·cases b
   rw[J4.eq_2]at b
   refine ifB b (λF b=>?_) λF b=>?_
   ·refine ld b (I0.mono l s) λan X S b=>?_
    obtain⟨ao,ap,aq,rfl,rfl,ac,ad,ae⟩:=H1 S
    try dsimp only at b
    refine ifB b (λG b=>?_) λG b=>?_
    ·obtain rfl:=oJ b
     try dsimp only[D5,E5]at a
     obtain rfl:=oJ a
     try dsimp only[D5,E5]at c
     obtain rfl:=oJ c
     exact aI rfl (g.trans l)
    ·exact d4 i ⟨(IntKind.i64.wrap (d+1)),rfl,rfl,l,(M0 _),b⟩
   ·obtain rfl:=oJ b
    try dsimp only[j1,E1]at a
    exact d4 j ⟨(IntKind.i64.wrap (e+1)),rfl,rfl,(g.trans l),(M0 _),a⟩
  ·obtain rfl:=oJ a
   try dsimp only[j1,E1]at c
   obtain rfl:=oJ c
   exact aI rfl g
theorem c7(h:Hp)(d:List Value)(f:j0)(w:C1.R h d f)(r:j0)(a:S4 f=some r):
  Tr Tryz.prog 132 #[.agg d.toArray] h λv s=>∃(c:List Value),v = .agg c.toArray/\New C1 h s c r:=by
 obtain⟨g,i,l,B,n,j,rfl,rfl,t,u,k⟩:=D0 w
 obtain⟨rfl,z⟩:=Sl.len k
 unfold S4 at a
 dsimp only at a
 refine R3 (args:=[.agg #[.int .i64 g,.int .i64 i,.slice l j.length n]]) (fn:=Tryz.f132) rfl ?_
 refine Or.inr (Or.inr (Or.inl (aI (aI (by kernel_rfl) (by kernel_rfl)) ?_)))
 refine Or.inr ?_
 refine Or.inr ?_
 refine Or.inr ?_
 refine Or.inr ?_
 refine Or.inl (eX 0 (aI (aI rfl rfl) ?_))
 refine aI trivial (aI (by first|exact trivial|exact rfl) ?_)
 obtain⟨x,p,b⟩:=Sl.rows (r:=D1.toRp) k
 refine eX x (aI p ?_)
 obtain⟨C,q,a⟩:=l0 a
 refine aI (Q2 q (by first|rw[F2.length (show F2 (D1.R h) ([]:List (List Value)) ([]:K0) from trivial),F2.length b]|exact congrArg (·+1) (F2.length (show F2 (D1.R h) ([]:List (List Value)) ([]:K0) from trivial)))) ?_
 refine aI trivial (aI (by first|exact trivial|exact rfl) ?_)
 refine aI trivial (aI (by first|exact trivial|exact rfl) ?_)
 refine aI trivial (aI (by first|exact trivial|exact rfl) ?_)
 intro F y e
 obtain⟨m,o,rfl,D,E,A⟩:=U0.out (r:=D1.toRp) e (F2.append (show F2 (D1.R h) ([]:List (List Value)) ([]:K0) from trivial) b)
 obtain rfl:=oJ a
 exact⟨([.int .i64 g,.int .i64 i,.slice m ((([]:K0)++j)).length o]),rfl,(New.pair (New.int t) (New.pair (New.int u) (U0.newPlain (r:=D1) e (F2.append (show F2 (D1.R h) ([]:List (List Value)) ([]:K0) from trivial) b) (y0c _))))⟩
theorem e0a(h:Hp)(I:Option Addr)(ac J:Nat)(G:K0)(q:I0.R h [.slice I ac J] G)(N:List Value)(ad:C0)(aF:D1.R h N ad)(r:K0)(g:j9 G ad=some r):
  Tr Tryz.prog 248 #[.slice I ac J,.agg N.toArray] h λv F=>∃(L:Option Addr) (ab M:Nat),v = .slice L ab M/\I0.R F [.slice L ab M] r/\Sub h F:=by
 obtain⟨rfl,aZ⟩:=Sl.len q
 obtain⟨b,c,d,rfl,rfl,i,j,k⟩:=H1 aF
 unfold j9 at g
 dsimp only at g
 refine R3 (args:=[.slice I G.length J,.agg #[.int .i64 b,.int .i64 c,.int .i64 d]]) (fn:=Tryz.f248) rfl ?_
 obtain⟨K,aw,g⟩:=l0 g
 refine eX { vars:=[6,7],boxes:=[],owns:=[0],fuel:=true } (eX (λvs os F=>∃ H n p m,vs.tail = [.bool H,.int .i64 n]/\os = [p]/\Sub h F/\Q0 n/\F2 (D1.R F) p m/\l3 G b c d (L2 vs) H n m=some K) (eX (λ_ _=>0) (aI (eX V0 ⟨false,0,[],([]:K0),rfl,rfl,(Sub.refl _),(by decide),(show F2 (D1.R h) ([]:List (List Value)) ([]:K0) from trivial),aw⟩) ?_)))
 rintro _ _ p o f ⟨H,n,bp,m,⟨⟩,⟨⟩,l,aV,e,a⟩
 replace a:l3 G b c d o H n m=some K:=a
 obtain _|o:=o
 ·cases a
 rw[l3.eq_2]at a
 refine ifB a (λaB a=>?_) λaB a=>?_
 ·refine Or.inl (aI (aI (by kernel_rfl) (by kernel_rfl)) ?_)
  refine ld a (I0.mono l q) λbl aU aL a=>?_
  obtain⟨bm,bn,bo,rfl,rfl,aC,aD,aE⟩:=H1 aL
  try dsimp only at a
  obtain⟨ae,av,a⟩:=l0 a
  refine eX (.int .i64 ae) (aI (a00 _ _ _ (M1 i j k) _ _ (M1 aC aD aE) _  av) ?_)
  obtain⟨a2,al,a⟩:=l0 a
  have aW:Q0 ae:=d5 al
  refine ifB a (λax a=>?_) λax a=>?_
  ·refine ifB a (λay a=>?_) λay a=>?_
   ·obtain⟨a3,am,a⟩:=l0 a
    refine aI (Q2 am (by first|rw[F2.length e,F2.length (show F2 (D1.R f) ([[.int .i64 b,.int .i64 c,.int .i64 d]]:List (List Value)) [(b,c,d)] from⟨(M1 i j k),trivial⟩)]|exact congrArg (·+1) (F2.length e))) ?_
    refine ld a (I0.mono l q) λbh aQ aG a=>?_
    obtain⟨s,t,u,rfl,rfl,O,P,Q⟩:=H1 aG
    try dsimp only at a
    obtain⟨a4,an,a⟩:=l0 a
    refine aI (Q2 an (by first|rw[F2.length (F2.append e (show F2 (D1.R f) ([[.int .i64 b,.int .i64 c,.int .i64 d]]:List (List Value)) [(b,c,d)] from⟨(M1 i j k),trivial⟩)),F2.length (show F2 (D1.R f) ([[.int .i64 s,.int .i64 t,.int .i64 u]]:List (List Value)) [(s,t,u)] from⟨(M1 O P Q),trivial⟩)]|exact congrArg (·+1) (F2.length (F2.append e (show F2 (D1.R f) ([[.int .i64 b,.int .i64 c,.int .i64 d]]:List (List Value)) [(b,c,d)] from⟨(M1 i j k),trivial⟩))))) ?_
    exact d4 o ⟨true,(IntKind.i64.wrap (n+1)),((p++([[.int .i64 b,.int .i64 c,.int .i64 d]]:List (List Value)))++([[.int .i64 s,.int .i64 t,.int .i64 u]]:List (List Value))),((m ++ [(b,c,d)]) ++ [(s,t,u)]),rfl,rfl,l,(M0 _),(F2.append (F2.append e (show F2 (D1.R f) ([[.int .i64 b,.int .i64 c,.int .i64 d]]:List (List Value)) [(b,c,d)] from⟨(M1 i j k),trivial⟩)) (show F2 (D1.R f) ([[.int .i64 s,.int .i64 t,.int .i64 u]]:List (List Value)) [(s,t,u)] from⟨(M1 O P Q),trivial⟩)),a⟩
   ·refine ld a (I0.mono l q) λbi aR aH a=>?_
    obtain⟨w,x,y,rfl,rfl,S,T,U⟩:=H1 aH
    try dsimp only at a
    obtain⟨ba,ao,a⟩:=l0 a
    refine aI (Q2 ao (by first|rw[F2.length e,F2.length (show F2 (D1.R f) ([[.int .i64 w,.int .i64 x,.int .i64 y]]:List (List Value)) [(w,x,y)] from⟨(M1 S T U),trivial⟩)]|exact congrArg (·+1) (F2.length e))) ?_
    exact d4 o ⟨true,(IntKind.i64.wrap (n+1)),(p++([[.int .i64 w,.int .i64 x,.int .i64 y]]:List (List Value))),(m ++ [(w,x,y)]),rfl,rfl,l,(M0 _),(F2.append e (show F2 (D1.R f) ([[.int .i64 w,.int .i64 x,.int .i64 y]]:List (List Value)) [(w,x,y)] from⟨(M1 S T U),trivial⟩)),a⟩
  ·refine ifB a (λaz a=>?_) λaz a=>?_
   ·obtain⟨bb,ap,a⟩:=l0 a
    refine aI (Q2 ap (by first|rw[F2.length e,F2.length (show F2 (D1.R f) ([[.int .i64 b,.int .i64 c,.int .i64 d]]:List (List Value)) [(b,c,d)] from⟨(M1 i j k),trivial⟩)]|exact congrArg (·+1) (F2.length e))) ?_
    refine ld a (I0.mono l q) λbj aS aJ a=>?_
    obtain⟨z,A,B,rfl,rfl,V,W,X⟩:=H1 aJ
    try dsimp only at a
    obtain⟨bc,aq,a⟩:=l0 a
    refine aI (Q2 aq (by first|rw[F2.length (F2.append e (show F2 (D1.R f) ([[.int .i64 b,.int .i64 c,.int .i64 d]]:List (List Value)) [(b,c,d)] from⟨(M1 i j k),trivial⟩)),F2.length (show F2 (D1.R f) ([[.int .i64 z,.int .i64 A,.int .i64 B]]:List (List Value)) [(z,A,B)] from⟨(M1 V W X),trivial⟩)]|exact congrArg (·+1) (F2.length (F2.append e (show F2 (D1.R f) ([[.int .i64 b,.int .i64 c,.int .i64 d]]:List (List Value)) [(b,c,d)] from⟨(M1 i j k),trivial⟩))))) ?_
    exact d4 o ⟨true,(IntKind.i64.wrap (n+1)),((p++([[.int .i64 b,.int .i64 c,.int .i64 d]]:List (List Value)))++([[.int .i64 z,.int .i64 A,.int .i64 B]]:List (List Value))),((m ++ [(b,c,d)]) ++ [(z,A,B)]),rfl,rfl,l,(M0 _),(F2.append (F2.append e (show F2 (D1.R f) ([[.int .i64 b,.int .i64 c,.int .i64 d]]:List (List Value)) [(b,c,d)] from⟨(M1 i j k),trivial⟩)) (show F2 (D1.R f) ([[.int .i64 z,.int .i64 A,.int .i64 B]]:List (List Value)) [(z,A,B)] from⟨(M1 V W X),trivial⟩)),a⟩
   ·refine ld a (I0.mono l q) λbk aT aK a=>?_
    obtain⟨C,D,E,rfl,rfl,Y,Z,aa⟩:=H1 aK
    try dsimp only at a
    obtain⟨bd,ar,a⟩:=l0 a
    refine aI (Q2 ar (by first|rw[F2.length e,F2.length (show F2 (D1.R f) ([[.int .i64 C,.int .i64 D,.int .i64 E]]:List (List Value)) [(C,D,E)] from⟨(M1 Y Z aa),trivial⟩)]|exact congrArg (·+1) (F2.length e))) ?_
    exact d4 o ⟨H,(IntKind.i64.wrap (n+1)),(p++([[.int .i64 C,.int .i64 D,.int .i64 E]]:List (List Value))),(m ++ [(C,D,E)]),rfl,rfl,l,(M0 _),(F2.append e (show F2 (D1.R f) ([[.int .i64 C,.int .i64 D,.int .i64 E]]:List (List Value)) [(C,D,E)] from⟨(M1 Y Z aa),trivial⟩)),a⟩
 ·obtain rfl:=oJ a
  try dsimp only[j1,E1]at g
  refine ifB g (λaA g=>?_) λaA g=>?_
  ·obtain⟨be,au,g⟩:=l0 g
   refine aI (Q2 au (by first|rw[F2.length e,F2.length (show F2 (D1.R f) ([[.int .i64 b,.int .i64 c,.int .i64 d]]:List (List Value)) [(b,c,d)] from⟨(M1 i j k),trivial⟩)]|exact congrArg (·+1) (F2.length e))) ?_
   intro bf aX aj
   obtain⟨af,ah,rfl,aM,aO,a0⟩:=U0.out (r:=D1.toRp) aj (F2.append e (show F2 (D1.R f) ([[.int .i64 b,.int .i64 c,.int .i64 d]]:List (List Value)) [(b,c,d)] from⟨(M1 i j k),trivial⟩))
   obtain rfl:=oJ g
   exact⟨af,((m ++ [(b,c,d)])).length,ah,rfl,aM,(l.trans aO)⟩
  ·intro bg aY ak
   obtain⟨ag,ai,rfl,aN,aP,a1⟩:=U0.out (r:=D1.toRp) ak e
   obtain rfl:=oJ g
   exact⟨ag,m.length,ai,rfl,aN,(l.trans aP)⟩
theorem u06(h:Hp)(m:List Value)(n:j0)(A:C1.R h m n)(g:Int)(J:Q0 g)(r:Int)(f:Q6 n g=some r):
  Tr Tryz.prog 318 #[.agg m.toArray,.int .i64 g] h λv j=>v = .int .i64 r/\j=h:=by
 obtain⟨y,z,o,X,p,k,rfl,rfl,H,I,i⟩:=D0 A
 obtain⟨rfl,W⟩:=Sl.len i
 unfold Q6 at f
 dsimp only at f
 refine Tr.forget (R3 (args:=[.agg #[.int .i64 y,.int .i64 z,.slice o k.length p],.int .i64 g]) (fn:=Tryz.f318) rfl ?_)
 obtain⟨l,q,f⟩:=l0 f
 refine eX { vars:=[5,6],boxes:=[],owns:=[],fuel:=true } (eX (λvs os j=>∃ b c,vs.tail = [.int .i64 b,.int .i64 c]/\os = []/\Sub h j/\Q0 b/\Q0 c/\C2 k g (L2 vs) b c=some l) (eX (λ_ _=>0) (aI (eX V0 ⟨0,0,rfl,rfl,(Sub.refl _),(by decide),(by decide),q⟩) ?_)))
 rintro _ _ e V ⟨b,c,⟨⟩,⟨⟩,d,x,K,a⟩
 replace a:C2 k g e b c=some l:=a
 obtain _|e:=e
 ·cases a
 rw[C2.eq_2]at a
 refine ifB a (λu a=>?_) λu a=>?_
 ·refine ld a (I0.mono d i) λac F C a=>?_
  obtain⟨ad,ae,af,rfl,rfl,O,P,Q⟩:=H1 C
  try dsimp only at a
  refine ifB a (λw a=>?_) λw a=>?_
  ·refine ld a (I0.mono d i) λag G D a=>?_
   obtain⟨ah,ai,aj,rfl,rfl,S,T,U⟩:=H1 D
   try dsimp only at a
   refine ifB a (λs a=>?_) λs a=>?_
   ·exact d4 e ⟨(IntKind.i64.wrap ((IntKind.i64.wrap (b+1))+1)),(IntKind.i64.wrap (c+1)),rfl,rfl,d,(M0 _),(M0 _),a⟩
   ·exact d4 e ⟨(IntKind.i64.wrap (b+1)),(IntKind.i64.wrap (c+1)),rfl,rfl,d,(M0 _),(M0 _),a⟩
  ·refine ld a (I0.mono d i) λY E B a=>?_
   obtain⟨Z,aa,ab,rfl,rfl,L,M,N⟩:=H1 B
   try dsimp only at a
   refine ifB a (λt a=>?_) λt a=>?_
   ·exact d4 e ⟨(IntKind.i64.wrap (b+1)),(IntKind.i64.wrap (c+1)),rfl,rfl,d,(M0 _),(M0 _),a⟩
   ·exact d4 e ⟨b,(IntKind.i64.wrap (c+1)),rfl,rfl,d,x,(M0 _),a⟩
 ·obtain rfl:=oJ a
  try dsimp only[j1,E1]at f
  obtain rfl:=oJ f
  exact aI rfl d
theorem e04(h:Hp)(k:List Value)(m:j0)(E:C1.R h k m)(l:List Value)(n:j0)(F:C1.R h l n)(r:Bool)(b:F6 m n=some r):
  Tr Tryz.prog 194 #[.agg k.toArray,.agg l.toArray] h λv f=>v = .bool r/\f=h:=by
 obtain⟨A,B,q,af,t,g,rfl,rfl,Q,S,o⟩:=D0 E
 obtain⟨rfl,ad⟩:=Sl.len o
 obtain⟨C,D,s,ag,u,i,rfl,rfl,T,U,p⟩:=D0 F
 obtain⟨rfl,ae⟩:=Sl.len p
 unfold F6 at b
 dsimp only at b
 refine Tr.forget (R3 (args:=[.agg #[.int .i64 A,.int .i64 B,.slice q g.length t],.agg #[.int .i64 C,.int .i64 D,.slice s i.length u]]) (fn:=Tryz.f194) rfl ?_)
 refine ifB b (λx b=>?_) λx b=>?_
 ·obtain rfl:=oJ b
  exact aI rfl (Sub.refl _)
 ·obtain⟨j,w,b⟩:=l0 b
  refine eX { vars:=[5],boxes:=[],owns:=[],fuel:=true } (eX (λvs os f=>∃ c,vs.tail = [.int .i64 c]/\os = []/\Sub h f/\Q0 c/\w4 g i (L2 vs) c=some j) (eX (λ_ _=>0) (aI (eX V0 ⟨0,rfl,rfl,(Sub.refl _),(by decide),w⟩) ?_)))
  rintro _ e ac ⟨c,⟨⟩,⟨⟩,d,V,a⟩
  replace a:w4 g i e c=some j:=a
  obtain _|e:=e
  ·cases a
  rw[w4.eq_2]at a
  refine ifB a (λy a=>?_) λy a=>?_
  ·refine Or.inl (aI (aI (by kernel_rfl) (by kernel_rfl)) ?_)
   refine ld a (I0.mono d o) λah O G a=>?_
   obtain⟨I,J,K,rfl,rfl,W,X,Y⟩:=H1 G
   try dsimp only at a
   refine ld a (I0.mono d p) λai P H a=>?_
   obtain⟨L,M,N,rfl,rfl,Z,aa,ab⟩:=H1 H
   try dsimp only at a
   refine eX (!eqE (I,J,K) (L,M,N)) (aI (d0a _ _ _ rfl _ _ _ _ _ _) ?_)
   refine ifB a (λz a=>?_) λz a=>?_
   ·obtain rfl:=oJ a
    try dsimp only[D5,E5]at b
    obtain rfl:=oJ b
    exact aI rfl d
   ·exact d4 e ⟨(IntKind.i64.wrap (c+1)),rfl,rfl,d,(M0 _),a⟩
  ·obtain rfl:=oJ a
   try dsimp only[j1,E1]at b
   obtain rfl:=oJ b
   exact aI rfl d
theorem f04(h:Hp)(I:List Value)(L:j0)(aw:C1.R h I L)(f:Int)(J:Q0 f)(r:S0)(b:G6 L f=some r):
  Tr Tryz.prog 334 #[.agg I.toArray,.int .i64 f] h λv e=>∃(G:Option Addr) (K H:Nat),v = .slice G K H/\F5.R e [.slice G K H] r/\Sub h e:=by
 obtain⟨av,M,U,aX,aa,t,rfl,rfl,aq,ar,B⟩:=D0 aw
 obtain⟨rfl,aP⟩:=Sl.len B
 unfold G6 at b
 dsimp only at b
 refine R3 (args:=[.agg #[.int .i64 av,.int .i64 M,.slice U t.length aa],.int .i64 f]) (fn:=Tryz.f334) rfl ?_
 refine trV b (l9 _ _ _ (B0 aq ar B)) λbb b=>?_
 refine trG b (λq=>V6 _ _ J 0 (by decide) (IntKind.i64.wrap (M-1)) (M0 _)) λbc b=>?_
 refine ifB b (λan b=>?_) λan b=>?_
 ·intro a4 aN ah
  obtain⟨Z,af,rfl,az,aD,aW⟩:=U0.out (r:=Wp.int.toRp) ah (show F2 (Wp.int.R h) ([]:List (List Value)) ([]:S0) from trivial)
  obtain rfl:=oJ b
  exact⟨Z,(([]:S0)).length,af,rfl,az,aD⟩
 ·obtain⟨E,ai,b⟩:=l0 b
  refine eX { vars:=[5,6],boxes:=[],owns:=[],fuel:=true,pubs:=[5,22] } (eX (λvs os e=>∃(n:Option Addr) (z p:Nat) (k:S0) (m:Int),vs.tail = [.slice n z p,.int .i64 m]/\os = []/\Sub h e/\F5.R e [.slice n z p] k/\Q0 m/\S3 t (L2 vs) k m=some E) (eX (λ_ _=>0) ?_))
  intro ba aO ag
  obtain⟨Y,ae,rfl,ay,aC,aV⟩:=U0.out (r:=Wp.int.toRp) ag (show F2 (Wp.int.R h) ([[.int .i64 f]]:List (List Value)) [f] from⟨⟨rfl,J⟩,trivial⟩)
  refine aI (eX V0 ⟨Y,([f]).length,ae,[f],0,rfl,rfl,aC,ay,(by decide),ai⟩) ?_
  rintro _ _ u au ⟨n,z,p,k,m,⟨⟩,⟨⟩,D,C,aF,c⟩
  replace c:S3 t u k m=some E:=c
  obtain _|u:=u
  ·cases c
  rw[S3.eq_2]at c
  obtain⟨rfl,aQ⟩:=Sl.len C
  refine ifB c (λak c=>?_) λak c=>?_
  ·obtain⟨F,aj,c⟩:=l0 c
   refine eX { vars:=[5,7],boxes:=[],owns:=[],fuel:=true } (eX (λvs os e=>∃ o A s g d,vs.tail = [.slice o A s,.int .i64 d]/\os = []/\Sub au e/\F5.R e [.slice o A s] g/\Q0 d/\Z1 t (L2 vs) g d=some F) (eX (λ_ _=>0) (aI (eX V0 ⟨n,k.length,p,k,0,rfl,rfl,(Sub.refl _),C,(by decide),aj⟩) ?_)))
   rintro _ _ i aJ ⟨o,A,s,g,d,⟨⟩,⟨⟩,l,j,aG,a⟩
   replace a:Z1 t i g d=some F:=a
   obtain _|i:=i
   ·cases a
   rw[Z1.eq_2]at a
   obtain⟨rfl,aR⟩:=Sl.len j
   refine ifB a (λal a=>?_) λal a=>?_
   ·refine ld a (I0.mono (D.trans l) B) λbd aE ax a=>?_
    obtain⟨be,bf,bg,rfl,rfl,x,aH,y⟩:=H1 ax
    try dsimp only at a
    refine trV a (n9 _ _ _ _ _ j _ x) λbh a=>?_
    refine ifB a (λam a=>?_) λam a=>?_
    ·refine trM a (s8 _ _ _ _ _ j _ y) ?_
     rintro Q a a1 aK ⟨V,aY,ab,rfl,w,P⟩
     obtain⟨rfl,aS⟩:=Sl.len w
     refine trV a (n9 _ _ _ _ _ w _ y) λbi a=>?_
     refine ifB a (λao a=>?_) λao a=>?_
     ·refine trM a (s8 _ _ _ _ _ w _ x) ?_
      rintro S a a2 aL ⟨W,aZ,ac,rfl,N,aA⟩
      obtain⟨rfl,aT⟩:=Sl.len N
      exact d4 i ⟨W,S.length,ac,S,(IntKind.i64.wrap (d+1)),rfl,rfl,((l.trans P).trans aA),N,(M0 _),a⟩
     ·exact d4 i ⟨V,Q.length,ab,Q,(IntKind.i64.wrap (d+1)),rfl,rfl,(l.trans P),w,(M0 _),a⟩
    ·refine trV a (n9 _ _ _ _ _ j _ y) λbj a=>?_
     refine ifB a (λap a=>?_) λap a=>?_
     ·refine trM a (s8 _ _ _ _ _ j _ x) ?_
      rintro T a a3 aM ⟨X,a0,ad,rfl,O,aB⟩
      obtain⟨rfl,aU⟩:=Sl.len O
      exact d4 i ⟨X,T.length,ad,T,(IntKind.i64.wrap (d+1)),rfl,rfl,(l.trans aB),O,(M0 _),a⟩
     ·exact d4 i ⟨o,g.length,s,g,(IntKind.i64.wrap (d+1)),rfl,rfl,l,j,(M0 _),a⟩
   ·obtain rfl:=oJ a
    try dsimp only[j1,E1]at c
    exact d4 u ⟨o,g.length,s,g,(IntKind.i64.wrap (m+1)),rfl,rfl,(D.trans l),j,(M0 _),c⟩
  ·obtain rfl:=oJ c
   try dsimp only[j1,E1]at b
   obtain rfl:=oJ b
   exact⟨n,k.length,p,rfl,C,D⟩
theorem o08(h:Hp)(n:List Value)(t:j0)(E:C1.R h n t)(r:Int)(b:C8 t=some r):
  Tr Tryz.prog 294 #[.agg n.toArray] h λv f=>v = .int .i64 r/\f=h:=by
 obtain⟨g,i,x,M,y,j,rfl,rfl,o,p,k⟩:=D0 E
 obtain⟨rfl,K⟩:=Sl.len k
 unfold C8 at b
 dsimp only at b
 refine Tr.forget (R3 (args:=[.agg #[.int .i64 g,.int .i64 i,.slice x j.length y]]) (fn:=Tryz.f294) rfl ?_)
 refine trM b (f04 _ _ _ (B0 o p k) 0 (by decide)) ?_
 rintro w b P D ⟨G,N,H,rfl,u,l⟩
 obtain⟨rfl,L⟩:=Sl.len u
 obtain⟨m,A,b⟩:=l0 b
 refine eX { vars:=[4],boxes:=[],owns:=[],fuel:=true } (eX (λvs os f=>∃ c,vs.tail = [.int .i64 c]/\os = []/\Sub D f/\Q0 c/\M5 i g j w (L2 vs) c=some m) (eX (λ_ _=>0) (aI (eX V0 ⟨1,rfl,rfl,(Sub.refl _),(by decide),A⟩) ?_)))
 rintro _ e J ⟨c,⟨⟩,⟨⟩,d,s,a⟩
 replace a:M5 i g j w e c=some m:=a
 obtain _|e:=e
 ·cases a
 rw[M5.eq_2]at a
 refine ifB a (λC a=>?_) λC a=>?_
 ·refine trV a (u06 _ _ _ (B0 o p (I0.mono (l.trans d) k)) _ s) λF a=>?_
  obtain⟨O,z,a⟩:=l0 a
  have I:Q0 F:=d5 z
  refine trG a (λq=>n9 _ _ _ _ _ (F5.mono d u) _ s) λQ a=>?_
  refine ifB a (λB a=>?_) λB a=>?_
  ·obtain rfl:=oJ a
   try dsimp only[D5,E5]at b
   obtain rfl:=oJ b
   exact aI rfl (l.trans d)
  ·exact d4 e ⟨(IntKind.i64.wrap (c+1)),rfl,rfl,d,(M0 _),a⟩
 ·obtain rfl:=oJ a
  try dsimp only[j1,E1]at b
  obtain rfl:=oJ b
  exact aI rfl (l.trans d)
theorem Y02(h:Hp)(U:List Value)(Y:j0)(aY:C1.R h U Y)(I:Option Addr)(X J:Nat)(s:S0)(D:F5.R h [.slice I X J] s)(r:j0×Bool)(d:i6 Y s=some r):
  Tr Tryz.prog 320 #[.agg U.toArray,.slice I X J] h λv e=>∃(T:List Value),v = .tuple #[.agg T.toArray,.bool r.2]/\C1.R e T r.1/\Sub h e:=by
 obtain⟨C,l,ag,bT,ao,y,rfl,rfl,A,K,z⟩:=D0 aY
 obtain⟨rfl,bO⟩:=Sl.len z
 obtain⟨rfl,aX⟩:=Sl.len D
 unfold i6 at d
 dsimp only at d
 refine R3 (args:=[.agg #[.int .i64 C,.int .i64 l,.slice ag y.length ao],.slice I s.length J]) (fn:=Tryz.f320) rfl ?_
 refine trV d (l9 _ _ _ (B0 A K z)) λb6 d=>?_
 refine ifB d (λaL d=>?_) λaL d=>?_
 ·refine trM d (c7 _ _ _ (B0 A K z)) ?_
  rintro cd d b5 aW ⟨bp,rfl,ae⟩
  have be:Sub h aW:=ae.sub
  have a2:=ae.r
  obtain⟨bj,bk,ai,bV,aq,bl,rfl,rfl,aS,aT,aa⟩:=D0 a2
  obtain⟨rfl,bR⟩:=Sl.len aa
  try dsimp only at d
  obtain rfl:=oJ d
  exact⟨([.int .i64 bj,.int .i64 bk,.slice ai bl.length aq]),rfl,(B0 aS aT aa),be⟩
 ·obtain⟨bX,ay,d⟩:=l0 d
  refine aI (d5 ay) ?_
  obtain⟨S,aH,d⟩:=l0 d
  refine eX { vars:=[8],boxes:=[],owns:=[0],fuel:=true,kept:=[0] } (eX (λvs os e=>∃ u8 F o,vs.tail = [.int .i64 u8]/\os = [F]/\Sub h e/\Q0 u8/\F2 (Wp.int.R e) F o/\A3 s l C y (L2 vs) u8 o=some S) (eX (λ_ _=>0) (aI (eX V0 ⟨0,(List.replicate l.toNat ([.int .i64 0]:List Value)),(List.replicate l.toNat (0:Int)),rfl,rfl,(Sub.refl _),(by decide),(F2.rep (p:=Wp.int.R h) (a:=[.int .i64 0]) (b:=0) ⟨rfl,(by decide)⟩ (l.toNat)),aH⟩) ?_)))
  rintro _ F B w ⟨u8,cj,o,⟨⟩,⟨⟩,g,bw,k,c⟩
  replace c:A3 s l C y B u8 o=some S:=c
  obtain _|B:=B
  ·cases c
  rw[A3.eq_2]at c
  refine ifB c (λaJ c=>?_) λaJ c=>?_
  ·refine Or.inl (aI (aI (by kernel_rfl) (by kernel_rfl)) ?_)
   refine ldI c (F5.mono g D) λb7 aO c=>?_
   obtain⟨bf,az,c⟩:=l0 c
   refine eX (.bool bf) (aI (V6 _ _ aO 0 (by decide) (IntKind.i64.wrap (l-1)) (M0 _) _  az) ?_)
   refine ldG c (F5.mono g D) λb8 bx c=>?_
   obtain⟨ca,aA,c⟩:=l0 c
   obtain⟨bm,V,aZ⟩:=N04 k aA (h0d w)
   refine aI (λq=>(V q).1) ?_
   obtain⟨rfl,bz⟩:=aZ
   refine eX _ (aI (λq=>(V q).2) ?_)
   refine ifB c (λaK c=>?_) λaK c=>?_
   ·refine trM c (c7 _ _ _ (B0 A K (I0.mono g z))) ?_
    rintro cb c b3 aU ⟨bn,rfl,ad⟩
    have bd:Sub w aU:=ad.sub
    have a0:=ad.r
    obtain⟨bg,bh,ah,bU,ap,bi,rfl,rfl,aP,aQ,Z⟩:=D0 a0
    obtain⟨rfl,bQ⟩:=Sl.len Z
    try dsimp only at c
    obtain rfl:=oJ c
    try dsimp only[D5,E5]at d
    obtain rfl:=oJ d
    exact⟨([.int .i64 bg,.int .i64 bh,.slice ah bi.length ap]),rfl,(B0 aP aQ Z),(g.trans bd)⟩
   ·refine ldI c (F5.mono g D) λO bA c=>?_
    obtain⟨cc,aB,c⟩:=l0 c
    obtain⟨ak,bo,au,a1⟩:=s5 k aB
    refine aI ak ?_
    obtain⟨rfl,bB⟩:=a1
    refine eX _ (aI au ?_)
    exact d4 B ⟨(IntKind.i64.wrap (u8+1)),(F.set O.toNat [.int .i64 (IntKind.i64.wrap (u8+1))]),(o.set O.toNat (IntKind.i64.wrap (u8+1))),rfl,rfl,g,(M0 _),(F2.set (p:=Wp.int.R w) (a:=[.int .i64 (IntKind.i64.wrap (u8+1))]) (b:=(IntKind.i64.wrap (u8+1))) ⟨rfl,(M0 _)⟩ O.toNat k),c⟩
  ·obtain rfl:=oJ c
   try dsimp only[j1,E1]at d
   obtain⟨Q,aG,d⟩:=l0 d
   refine eX { vars:=[9],boxes:=[2],owns:=[],fuel:=true } (eX (λvs os e=>∃ m i j t N u n,vs.tail = [.int .i64 m,.int .i64 i,.int .i64 j,.slice t N u]/\os = []/\Sub w e/\Q0 m/\Q0 i/\Q0 j/\I0.R e [.slice t N u] n/\I2 y o (L2 vs) m i j n=some Q) (eX (λ_ _=>0) (aI (eX V0 ⟨0,C,((s.length:Nat):Int),none,0,0,[],rfl,rfl,(Sub.refl _),(by decide),A,(f0d aX),(x0i D1 w),aG⟩) ?_)))
   rintro _ _ _ _ x aV ⟨m,i,j,t,N,u,n,⟨⟩,⟨⟩,f,bv,L,M,E,c⟩
   replace c:I2 y o x m i j n=some Q:=c
   obtain _|x:=x
   ·cases c
   rw[I2.eq_2]at c
   obtain⟨rfl,bP⟩:=Sl.len E
   refine ifB c (λaM c=>?_) λaM c=>?_
   ·refine ld c (I0.mono (g.trans f) z) λce bq a3 c=>?_
    obtain⟨cf,P,cg,rfl,rfl,bC,aR,bD⟩:=H1 a3
    try dsimp only at c
    obtain⟨ch,aC,c⟩:=l0 c
    obtain⟨al,br,av,a4⟩:=s5 (F2.up (r:=Wp.int.toRp) f k) aC
    refine aI al ?_
    obtain⟨rfl,bE⟩:=a4
    refine eX _ (aI av ?_)
    obtain⟨ci,aD,c⟩:=l0 c
    obtain⟨bs,W,ba⟩:=N04 (F2.up (r:=Wp.int.toRp) f k) aD (h0d aV)
    refine aI (λq=>(W q).1) ?_
    obtain⟨rfl,bF⟩:=ba
    refine eX _ (aI (λq=>(W q).2) ?_)
    refine ifB c (λaN c=>?_) λaN c=>?_
    ·refine Or.inr (Or.inr (Or.inl (aI (aI (by kernel_rfl) (by kernel_rfl)) ?_)))
     obtain⟨G,aE,c⟩:=l0 c
     obtain⟨am,bt,aw,bb⟩:=s5 (F2.up (r:=Wp.int.toRp) f k) aE
     obtain⟨rfl,bG⟩:=bb
     refine Or.inl ?_
     apply eX
     refine aI ?_ ?_
     ·intro bI bY
      exact aI am (aI rfl (aI rfl rfl))
     refine Or.inl (eX (.val (.int .i64 G)) (aI ?_ ?_))
     ·intro bJ bZ
      exact eX _ (aI aw (aI rfl (aI rfl rfl)))
     obtain⟨H,aF,c⟩:=l0 c
     obtain⟨an,bu,ax,bc⟩:=s5 (F2.up (r:=Wp.int.toRp) f k) aF
     obtain⟨rfl,bH⟩:=bc
     refine Or.inl ?_
     apply eX
     refine aI ?_ ?_
     ·intro bK b0
      exact aI an (aI rfl (aI rfl rfl))
     refine Or.inl (eX (.val (.int .i64 H)) (aI ?_ ?_))
     ·intro bL b1
      exact eX _ (aI ax (aI rfl (aI rfl rfl)))
     refine Or.inl (eX (.agg [.val (.int .i64 (IntKind.i64.wrap (G-1))),.val (.int .i64 P),.val (.int .i64 (IntKind.i64.wrap (H-1)))]) (aI ?_ ?_))
     ·intro bM b2
      exact aI rfl (aI rfl rfl)
     refine Or.inr ?_
     refine Or.inr ?_
     refine Or.inl (eX 1 (aI (aI rfl rfl) ?_))
     refine trM c (e0a _ _ _ _ _ E [.int .i64 (IntKind.i64.wrap (G-1)),.int .i64 P,.int .i64 (IntKind.i64.wrap (H-1))] ((IntKind.i64.wrap (G-1)),P,(IntKind.i64.wrap (H-1))) (M1 (M0 _) aR (M0 _))) ?_
     rintro af c b4 bN ⟨aj,bW,ar,rfl,ab,ac⟩
     obtain⟨rfl,bS⟩:=Sl.len ab
     refine aI (aI rfl ac) (aI (by first|exact trivial|exact rfl) ?_)
     refine aI trivial (aI (by first|exact trivial|exact rfl) ?_)
     exact d4 x ⟨(IntKind.i64.wrap (m+1)),i,j,aj,af.length,ar,af,rfl,rfl,(f.trans ac),(M0 _),L,M,ab,c⟩
    ·exact d4 x ⟨(IntKind.i64.wrap (m+1)),i,j,t,n.length,u,n,rfl,rfl,f,(M0 _),L,M,E,c⟩
   ·obtain rfl:=oJ c
    try dsimp only[j1,E1]at d
    obtain rfl:=oJ d
    exact⟨([.int .i64 i,.int .i64 j,.slice t n.length u]),rfl,(B0 L M E),(g.trans f)⟩
theorem T05(h:Hp)(e:Int)(C:Q0 e)(r:S0)(i:p7 e=some r):
  Tr Tryz.prog 319 #[.int .i64 e] h λv g=>∃(n:Option Addr) (p o:Nat),v = .slice n p o/\F5.R g [.slice n p o] r/\Sub h g:=by
 unfold p7 at i
 refine R3 (args:=[.int .i64 e]) (fn:=Tryz.f319) rfl ?_
 obtain⟨m,y,i⟩:=l0 i
 refine eX { vars:=[4],boxes:=[],owns:=[0],fuel:=true } (eX (λvs os g=>∃ a l f,vs.tail = [.int .i64 a]/\os = [l]/\Sub h g/\Q0 a/\F2 (Wp.int.R g) l f/\A4 e (L2 vs) a f=some m) (eX (λ_ _=>0) (aI (eX V0 ⟨1,[],([]:S0),rfl,rfl,(Sub.refl _),(by decide),(show F2 (Wp.int.R h) ([]:List (List Value)) ([]:S0) from trivial),y⟩) ?_)))
 rintro _ l k d ⟨a,I,f,⟨⟩,⟨⟩,q,j,c,b⟩
 replace b:A4 e k a f=some m:=b
 obtain _|k:=k
 ·cases b
 rw[A4.eq_2]at b
 refine ifB b (λz b=>?_) λz b=>?_
 ·obtain⟨F,w,b⟩:=l0 b
  refine aI (Q2 w (by first|rw[F2.length c,F2.length (show F2 (Wp.int.R d) ([[.int .i64 a]]:List (List Value)) [a] from⟨⟨rfl,j⟩,trivial⟩)]|exact congrArg (·+1) (F2.length c))) ?_
  obtain⟨G,x,b⟩:=l0 b
  refine aI (Q2 x (by first|rw[F2.length (F2.append c (show F2 (Wp.int.R d) ([[.int .i64 a]]:List (List Value)) [a] from⟨⟨rfl,j⟩,trivial⟩)),F2.length (show F2 (Wp.int.R d) ([[.int .i64 (IntKind.i64.wrap (0-a))]]:List (List Value)) [(IntKind.i64.wrap (0-a))] from⟨⟨rfl,(M0 _)⟩,trivial⟩)]|exact congrArg (·+1) (F2.length (F2.append c (show F2 (Wp.int.R d) ([[.int .i64 a]]:List (List Value)) [a] from⟨⟨rfl,j⟩,trivial⟩))))) ?_
  exact d4 k ⟨(IntKind.i64.wrap (a+1)),((l++([[.int .i64 a]]:List (List Value)))++([[.int .i64 (IntKind.i64.wrap (0-a))]]:List (List Value))),((f ++ [a]) ++ [(IntKind.i64.wrap (0-a))]),rfl,rfl,q,(M0 _),(F2.append (F2.append c (show F2 (Wp.int.R d) ([[.int .i64 a]]:List (List Value)) [a] from⟨⟨rfl,j⟩,trivial⟩)) (show F2 (Wp.int.R d) ([[.int .i64 (IntKind.i64.wrap (0-a))]]:List (List Value)) [(IntKind.i64.wrap (0-a))] from⟨⟨rfl,(M0 _)⟩,trivial⟩)),b⟩
 ·obtain rfl:=oJ b
  try dsimp only[j1,E1]at i
  intro H D u
  obtain⟨s,t,rfl,A,B,E⟩:=U0.out (r:=Wp.int.toRp) u c
  obtain rfl:=oJ i
  exact⟨s,f.length,t,rfl,A,(q.trans B)⟩
theorem o02(h:Hp)(G:List Value)(K:j0)(aq:C1.R h G K)(r:S0)(c:P5 K=some r):
  Tr Tryz.prog 335 #[.agg G.toArray] h λv d=>∃(E:Option Addr) (J F:Nat),v = .slice E J F/\F5.R d [.slice E J F] r/\Sub h d:=by
 obtain⟨n,o,M,aR,Q,p,rfl,rfl,y,H,A⟩:=D0 aq
 obtain⟨rfl,aM⟩:=Sl.len A
 unfold P5 at c
 dsimp only at c
 refine R3 (args:=[.agg #[.int .i64 n,.int .i64 o,.slice M p.length Q]]) (fn:=Tryz.f335) rfl ?_
 refine trV c (m02 _ _ _ (B0 y H A)) λa1 c=>?_
 refine ifB c (λah c=>?_) λah c=>?_
 ·intro aY aK X
  obtain⟨O,T,rfl,aw,ay,aQ⟩:=U0.out (r:=Wp.int.toRp) X (show F2 (Wp.int.R h) ([]:List (List Value)) ([]:S0) from trivial)
  obtain rfl:=oJ c
  exact⟨O,(([]:S0)).length,T,rfl,aw,ay⟩
 ·refine trM c (T05 _ _ y) ?_
  rintro w c a0 ao ⟨aA,aS,aD,rfl,L,B⟩
  obtain⟨rfl,aN⟩:=Sl.len L
  obtain⟨C,ae,c⟩:=l0 c
  refine eX { vars:=[5],boxes:=[],owns:=[0],fuel:=true } (eX (λvs os d=>∃ e s k,vs.tail = [.int .i64 e]/\os = [s]/\Sub ao d/\Q0 e/\F2 (Wp.int.R d) s k/\M3 w n o p (L2 vs) e k=some C) (eX (λ_ _=>0) (aI (eX V0 ⟨0,([[.int .i64 0]]:List (List Value)),[0],rfl,rfl,(Sub.refl _),(by decide),(F2.up (r:=Wp.int.toRp) B (show F2 (Wp.int.R h) ([[.int .i64 0]]:List (List Value)) [0] from⟨⟨rfl,(by decide)⟩,trivial⟩)),ae⟩) ?_)))
  rintro _ s t an ⟨e,a4,k,⟨⟩,⟨⟩,u,aG,x,b⟩
  replace b:M3 w n o p t e k=some C:=b
  obtain _|t:=t
  ·cases b
  rw[M3.eq_2]at b
  obtain⟨ap,Y,b⟩:=l0 b
  obtain rfl:s.length=ap:=(F2.length x).trans (oJ Y)
  obtain⟨aT,aF,b⟩:=l0 b
  refine ifB b (λag b=>?_) λag b=>?_
  ·obtain⟨D,af,b⟩:=l0 b
   refine eX { vars:=[6],boxes:=[],owns:=[0],fuel:=true } (eX (λvs os d=>∃ i l j,vs.tail = [.int .i64 i]/\os = [l]/\Sub an d/\Q0 i/\F2 (Wp.int.R d) l j/\D2 w e n o p (L2 vs) i j=some D) (eX (λ_ _=>0) (aI (eX V0 ⟨0,s,k,rfl,rfl,(Sub.refl _),(by decide),x,af⟩) ?_)))
   rintro _ l m I ⟨i,ba,j,⟨⟩,⟨⟩,q,aH,g,a⟩
   replace a:D2 w e n o p m i j=some D:=a
   obtain _|m:=m
   ·cases a
   rw[D2.eq_2]at a
   refine ifB a (λai a=>?_) λai a=>?_
   ·refine Or.inl (aI (aI (by kernel_rfl) (by kernel_rfl)) ?_)
    obtain⟨a2,ab,a⟩:=l0 a
    obtain⟨P,aC,U,ar⟩:=s5 g ab
    refine aI P ?_
    obtain⟨rfl,al⟩:=ar
    refine eX _ (aI U ?_)
    refine ldI a (F5.mono (u.trans q) L) λa3 am a=>?_
    obtain⟨f,ac,a⟩:=l0 a
    refine eX (.int .i64 f) (aI (d05 _ _ _ (B0 y H (I0.mono ((B.trans u).trans q) A)) _ al _ am _  ac) ?_)
    obtain⟨aU,Z,a⟩:=l0 a
    have z:Q0 f:=d5 Z
    obtain⟨az,ad,a⟩:=l0 a
    refine eX (.bool az) (aI ?_ ?_)
    ·intro ak
     intro aX aJ V
     obtain⟨aB,aE,rfl,au,aW,aO⟩:=U0.out (r:=Wp.int.toRp) V g
     exact n9 _ _ _ _ _ au _ z _ (S6 ad ak)
    refine ifB a (λaj a=>?_) λaj a=>?_
    ·obtain⟨aV,aa,a⟩:=l0 a
     refine aI (Q2 aa (by first|rw[F2.length g,F2.length (show F2 (Wp.int.R I) ([[.int .i64 f]]:List (List Value)) [f] from⟨⟨rfl,z⟩,trivial⟩)]|exact congrArg (·+1) (F2.length g))) ?_
     exact d4 m ⟨(IntKind.i64.wrap (i+1)),(l++([[.int .i64 f]]:List (List Value))),(j ++ [f]),rfl,rfl,q,(M0 _),(F2.append g (show F2 (Wp.int.R I) ([[.int .i64 f]]:List (List Value)) [f] from⟨⟨rfl,z⟩,trivial⟩)),a⟩
    ·exact d4 m ⟨(IntKind.i64.wrap (i+1)),l,j,rfl,rfl,q,(M0 _),g,a⟩
   ·obtain rfl:=oJ a
    try dsimp only[j1,E1]at b
    exact d4 t ⟨(IntKind.i64.wrap (e+1)),l,j,rfl,rfl,(u.trans q),(M0 _),g,b⟩
  ·obtain rfl:=oJ b
   try dsimp only[j1,E1]at c
   intro aZ aL W
   obtain⟨N,S,rfl,av,ax,aP⟩:=U0.out (r:=Wp.int.toRp) W x
   obtain rfl:=oJ c
   exact⟨N,k.length,S,rfl,av,((B.trans u).trans ax)⟩
theorem p02(h:Hp)(g:List Value)(j:j0)(H:C1.R h g j)(r:j0)(a:Q5 j=some r):
  Tr Tryz.prog 295 #[.agg g.toArray] h λv i=>∃(f:List Value),v = .agg f.toArray/\C1.R i f r/\Sub h i:=by
 obtain⟨E,F,p,ac,t,G,rfl,rfl,d,e,b⟩:=D0 H
 obtain⟨rfl,Y⟩:=Sl.len b
 unfold Q5 at a
 dsimp only at a
 refine R3 (args:=[.agg #[.int .i64 E,.int .i64 F,.slice p G.length t]]) (fn:=Tryz.f295) rfl ?_
 refine trM a (o02 _ _ _ (B0 d e b)) ?_
 rintro aj a ah C ⟨T,ad,W,rfl,k,c⟩
 obtain⟨rfl,Z⟩:=Sl.len k
 refine ifB a (λx a=>?_) λx a=>?_
 ·refine trM a (c7 _ _ _ (B0 d e (I0.mono c b))) ?_
  rintro ak a ai D ⟨U,rfl,o⟩
  have J:Sub C D:=o.sub
  have I:=o.r
  obtain⟨L,M,q,ae,u,N,rfl,rfl,y,z,l⟩:=D0 I
  obtain⟨rfl,aa⟩:=Sl.len l
  try dsimp only at a
  obtain rfl:=oJ a
  exact⟨([.int .i64 L,.int .i64 M,.slice q N.length u]),rfl,(B0 y z l),(c.trans J)⟩
 ·refine trM a (Y02 _ _ _ (B0 d e (I0.mono c b)) _ _ _ _ k) ?_
  rintro O a ag X ⟨V,rfl,m,K⟩
  obtain⟨al,am⟩:=O
  dsimp only at a m
  obtain⟨P,Q,s,af,w,S,rfl,rfl,A,B,n⟩:=D0 m
  obtain⟨rfl,ab⟩:=Sl.len n
  try dsimp only at a
  obtain rfl:=oJ a
  exact⟨([.int .i64 P,.int .i64 Q,.slice s S.length w]),rfl,(B0 A B n),(c.trans K)⟩
theorem p08(h:Hp)(m:List Value)(n:j0)(Q:C1.R h m n)(r:Bool)(a:N7 n=some r):
  Tr Tryz.prog 211 #[.agg m.toArray] h λv G=>v = .bool r/\G=h:=by
 obtain⟨N,O,t,ar,w,P,rfl,rfl,g,i,c⟩:=D0 Q
 obtain⟨rfl,ap⟩:=Sl.len c
 unfold N7 at a
 dsimp only at a
 refine Tr.forget (R3 (args:=[.agg #[.int .i64 N,.int .i64 O,.slice t P.length w]]) (fn:=Tryz.f211) rfl ?_)
 refine Or.inr (Or.inr (Or.inr (Or.inl (aI (aI (by kernel_rfl) (by kernel_rfl)) ?_))))
 obtain⟨Z,C,a⟩:=l0 a
 refine Or.inl (eX (.val (.bool Z)) (aI ?_ ?_))
 ·intro al X
  exact Tr.val (m02 _ _ _ (B0 g i (I0.mono X c)) _ C) (aI rfl (aI rfl rfl))
 obtain⟨l,F,a⟩:=l0 a
 obtain⟨av,B,a⟩:=l0 a
 have ah:Q0 l:=d5 B
 refine Or.inl (eX (.val (.int .i64 l)) (aI ?_ ?_))
 ·intro am Y b
  exact Tr.val (o08 _ _ _ (B0 g i (I0.mono Y c)) _ (S6 F b)) (aI rfl (aI rfl rfl))
 refine Or.inl (eX (.val (.bool (decide (l<0)))) (aI ?_ ?_))
 ·intro an aw b
  exact aI rfl (aI rfl rfl)
 obtain⟨aa,D,a⟩:=l0 a
 obtain⟨p,s,j⟩:=aa
 try dsimp only at a
 refine Or.inr (eX (λv H=>∃(d:Option Addr) (f:Nat),v = .agg #[.int .i64 p,.int .i64 s,.slice d j.length f]/\Q0 p/\Q0 s/\I0.R H [.slice d j.length f] j/\j.length<=9223372036854775807) (aI (λv af ag k q=>by obtain⟨d,f,e,z,A,f2,f3⟩:=q;exact⟨d,f,e,z,A,I0.mono k f2,f3⟩) (aI ?_ ?_)))
 ·intro ai U b
  refine Tr.mono (p02 _ _ _ (B0 g i (I0.mono U c)) _ (S6 D b)) ?_
  rintro _ ao ⟨ad,rfl,S,k⟩
  obtain⟨ax,ay,u,au,x,az,rfl,y,I,J,o⟩:=D0 S
  cases y
  obtain⟨rfl,M⟩:=Sl.len o
  exact aI U8 (aI k ⟨u,x,rfl,I,J,o,M⟩)
 obtain⟨ab,E,a⟩:=l0 a
 refine Or.inl (eX (.val (.bool ab)) (aI ?_ ?_))
 ·intro aj V b
  rintro _ ⟨ac,ae,rfl,K,L,T,aq⟩
  exact Tr.val (e04 _ _ _ (B0 K L T) _ _ (B0 g i (I0.mono V c)) _ (S6 E b)) (aI rfl (aI rfl rfl))
 intro ak W
 obtain rfl:=oJ a
 exact aI rfl W
theorem b01(h:Hp)(b:List Value)(c:j0)(n:C1.R h b c)(r:Bool)(a:L4 c=some r):
  Tr Tryz.prog 103 #[.agg b.toArray] h λv g=>v = .bool r/\g=h:=by
 obtain⟨k,l,e,p,f,m,rfl,rfl,i,j,d⟩:=D0 n
 obtain⟨rfl,o⟩:=Sl.len d
 unfold L4 at a
 dsimp only at a
 refine Tr.forget (R3 (args:=[.agg #[.int .i64 k,.int .i64 l,.slice e m.length f]]) (fn:=Tryz.f103) rfl ?_)
 refine trV a (p08 _ _ _ (B0 i j d)) λq a=>?_
 obtain rfl:=oJ a
 exact aI rfl (Sub.refl _)
theorem J03(h:Hp)(c:ByteArray)(s:c.size<=9223372036854775807)(r:Bool)(b:O7 c=some r):
  Tr Tryz.prog 130 #[.string c] h λv f=>v = .bool r/\f=h:=by
 unfold O7 at b
 refine Tr.forget (R3 (args:=[.string c]) (fn:=Tryz.f130) rfl ?_)
 obtain⟨i,n,b⟩:=l0 b
 refine eX { vars:=[3],boxes:=[],owns:=[],fuel:=true } (eX (λvs os f=>∃ d,vs.tail = [.int .i64 d]/\os = []/\Sub h f/\Q0 d/\N5 c (L2 vs) d=some i) (eX (λ_ _=>0) (aI (eX V0 ⟨0,rfl,rfl,(Sub.refl _),(by decide),n⟩) ?_)))
 rintro _ e y ⟨d,⟨⟩,⟨⟩,g,x,a⟩
 replace a:N5 c e d=some i:=a
 obtain _|e:=e
 ·cases a
 rw[N5.eq_2]at a
 refine ifB a (λp a=>?_) λp a=>?_
 ·obtain⟨A,j,a⟩:=l0 a
  refine eX _ (aI (U9 j) ?_)
  obtain⟨t,k,a⟩:=l0 a
  refine eX t (aI (λq=>U9 (S6 k q)) ?_)
  obtain⟨u,l,a⟩:=l0 a
  refine eX u (aI (λq=>U9 (S6 l q)) ?_)
  obtain⟨w,m,a⟩:=l0 a
  refine eX w (aI (λq=>U9 (S6 m q)) ?_)
  refine ifB a (λo a=>?_) λo a=>?_
  ·obtain rfl:=oJ a
   try dsimp only[D5,E5]at b
   obtain rfl:=oJ b
   exact aI rfl g
  ·exact d4 e ⟨(IntKind.i64.wrap (d+1)),rfl,rfl,g,(M0 _),a⟩
 ·obtain rfl:=oJ a
  try dsimp only[j1,E1]at b
  refine trV b (V6 _ _ (f0d s) 1 (by decide) 8 (by decide)) λz b=>?_
  obtain rfl:=oJ b
  exact aI rfl g
theorem U05(h:Hp)(l:List Value)(n:T0)(H:O0.R h l n)(r:Bool)(b:r7 n=some r):
  Tr Tryz.prog 129 #[.agg l.toArray] h λv f=>v = .bool r/\f=h:=by
 obtain⟨g,p,aa,t,i,rfl,rfl,C,j⟩:=V1 H
 obtain⟨rfl,X⟩:=Sl.len j
 unfold r7 at b
 dsimp only at b
 refine Tr.forget (R3 (args:=[.agg #[.int .i64 g,.slice p i.length t]]) (fn:=Tryz.f129) rfl ?_)
 obtain⟨k,z,b⟩:=l0 b
 refine eX { vars:=[3],boxes:=[],owns:=[],fuel:=true } (eX (λvs os f=>∃ c,vs.tail = [.int .i64 c]/\os = []/\Sub h f/\Q0 c/\B4 i g (L2 vs) c=some k) (eX (λ_ _=>0) (aI (eX V0 ⟨0,rfl,rfl,(Sub.refl _),(by decide),z⟩) ?_)))
 rintro _ e G ⟨c,⟨⟩,⟨⟩,d,T,a⟩
 replace a:B4 i g e c=some k:=a
 obtain _|e:=e
 ·cases a
 rw[B4.eq_2]at a
 refine ifB a (λB a=>?_) λB a=>?_
 ·obtain⟨ae,w,a⟩:=l0 a
  obtain⟨s,O,u,I⟩:=Sl.getI (r:=H0.toRp) (J2.mono d j) w (by decide)
  refine aI s ?_
  obtain⟨af,ag,ah,M,ab,Q,ai,rfl,rfl,D,E,F,o⟩:=Y1 I
  obtain⟨rfl,Y⟩:=Sl.len o
  try dsimp only at a
  refine eX _ (aI u ?_)
  refine Or.inl (aI (aI (by kernel_rfl) (by kernel_rfl)) ?_)
  obtain⟨L,x,a⟩:=l0 a
  refine eX (.bool L) (aI (J03 _ _ D _  x) ?_)
  refine trG a (λq=>b01 _ _ _ (B0 E F o)) λaj a=>?_
  obtain⟨ak,y,a⟩:=l0 a
  obtain⟨P,m,J⟩:=Sl.getG (r:=H0.toRp) (J2.mono d j) y (by decide) (R09 G)
  refine aI (λq=>(m q).1) ?_
  obtain⟨al,am,an,N,ac,S,ao,rfl,rfl,U,V,W,K⟩:=Y1 J
  obtain⟨rfl,Z⟩:=Sl.len K
  try dsimp only at a
  refine eX _ (aI (λq=>(m q).2) ?_)
  refine ifB a (λA a=>?_) λA a=>?_
  ·obtain rfl:=oJ a
   try dsimp only[D5,E5]at b
   obtain rfl:=oJ b
   exact aI rfl d
  ·exact d4 e ⟨(IntKind.i64.wrap (c+1)),rfl,rfl,d,(M0 _),a⟩
 ·obtain rfl:=oJ a
  try dsimp only[j1,E1]at b
  refine trV b (V6 _ _ C 1 (by decide) 3 (by decide)) λad b=>?_
  obtain rfl:=oJ b
  exact aI rfl d
theorem w06(h:Hp)(c:Option Addr)(k d:Nat)(b:S0)(l:F5.R h [.slice c k d] b)(r:S0)(a:L7 b=some r):
  Tr Tryz.prog 93 #[.slice c k d] h λv q=>∃(i:Nat) (j f:Nat),v = .slice (some ⟨i,0,none⟩) j f/\New F5 h q [.slice (some ⟨i,0,none⟩) j f] r:=by
 obtain⟨rfl,u⟩:=Sl.len l
 unfold L7 at a
 refine R3 (args:=[.slice c b.length d]) (fn:=Tryz.f93) rfl ?_
 obtain⟨s,n,e⟩:=Sl.rows (r:=Wp.int.toRp) l
 refine eX s (aI n ?_)
 obtain⟨x,o,a⟩:=l0 a
 refine aI (Q2 o (by first|rw[F2.length (show F2 (Wp.int.R h) ([]:List (List Value)) ([]:S0) from trivial),F2.length e]|exact congrArg (·+1) (F2.length (show F2 (Wp.int.R h) ([]:List (List Value)) ([]:S0) from trivial)))) ?_
 intro A t g
 obtain⟨p,m,rfl,y,z,w⟩:=U0.outS (r:=Wp.int.toRp) g (F2.append (show F2 (Wp.int.R h) ([]:List (List Value)) ([]:S0) from trivial) e)
 obtain rfl:=oJ a
 exact⟨p,((([]:S0)++b)).length,m,rfl,(U0.newPlain (r:=Wp.int) g (F2.append (show F2 (Wp.int.R h) ([]:List (List Value)) ([]:S0) from trivial) e) (g0d _))⟩
end Go.Proofs.YtkjhghloldgioaaGreat
