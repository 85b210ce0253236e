/- Texts of the claim, joined: The walks of batch 1 and others. -/
import Derived.Test.YtmgikbbmpnbbjaaGreatPart20
import Derived.Test.YtmgikbbmpnbbjaaGreatChecked
import Derived.Test.YtmgikbbmpnbbjaaGreatH35
import Derived.Test.YtmgikbbmpnbbjaaGreatSI
import Derived.Test.YtmgikbbmpnbbjaaGreatPart23
import Derived.Test.YtmgikbbmpnbbjaaGreatH41
import Derived.Test.YtmgikbbmpnbbjaaGreatPart19
import Derived.Test.YtmgikbbmpnbbjaaGreatH36
namespace Go.Proofs.YtmgikbbmpnbbjaaGreat
open Go.H
set_option linter.unusedVariables false
set_option linter.unusedSimpArgs false
set_option maxRecDepth 10000
theorem E3(h:Hp)(a:Int)(e:I0 a)(b:Int)(f:I0 b)(c:Int)(g:I0 c)(r:Bool)(d:E2 a b c=some r):
  Tr Tryz.prog 98 #[.int .i64 a,.int .i64 b,.int .i64 c] h λv h'=>v = .bool r/\h'=h:=by
 unfold E2 at d
 refine Tr.forget (V1 (args:=[.int .i64 a,.int .i64 b,.int .i64 c]) (fn:=Tryz.f98) rfl ?_)
 obtain rfl:=oJ d
 exact aI rfl (Sub.refl _)
theorem O06(h:Hp)(c:Int)(m:I0 c)(j:Option Addr)(n k:Nat)(f:D0)(g:K0.R h [.slice j n k] f)(r:Bool)(b:q01 c f=some r):
  Tr Tryz.prog 163 #[.int .i64 c,.slice j n k] h λv h'=>v = .bool r/\h'=h:=by
 obtain⟨rfl,A⟩:=Sl.len g
 unfold q01 at b
 refine Tr.forget (V1 (args:=[.int .i64 c,.slice j f.length k]) (fn:=Tryz.f163) rfl ?_)
 obtain⟨l,o,b⟩:=B0 b
 refine eX { vars:=[5],boxes:=[],owns:=[],fuel:=true } (eX (λvs os h'=>∃ e,vs.tail = [.int .i64 e]/\os = []/\Sub h h'/\I0 e/\Y8 f c (C1 vs) e=some l) (eX (λ_ _=>0) (aI (eX P0 ⟨0,rfl,rfl,(Sub.refl _),(by decide),o⟩) ?_)))
 rintro _ i z ⟨e,⟨⟩,⟨⟩,d,u,a⟩
 replace a:Y8 f c i e=some l:=a
 obtain _|i:=i
 ·cases a
 rw[Y8.eq_2]at a
 refine ifB a (λs a=>?_) λs a=>?_
 ·refine Or.inl (aI (aI (by kernel_rfl) (by kernel_rfl)) ?_)
  refine ldI a (K0.mono d g) λD x a=>?_
  refine ldG a (K0.mono d g) λE t a=>?_
  refine trG a (λq=>E3 _ _ t (IntKind.i64.wrap (0-c)) (F0 _) _ m) λF a=>?_
  refine ldG a (K0.mono d g) λG y a=>?_
  refine ldG a (K0.mono d g) λB w a=>?_
  refine ifB a (λp a=>?_) λp a=>?_
  ·obtain rfl:=oJ a
   try dsimp only[N3,O3]at b
   obtain rfl:=oJ b
   exact aI rfl d
  ·exact D1 i ⟨(IntKind.i64.wrap (e+1)),rfl,rfl,d,(F0 _),a⟩
 ·obtain rfl:=oJ a
  try dsimp only[M0,O0]at b
  refine trV b (E3 _ _ m 1 (by decide) 3 (by decide)) λC b=>?_
  obtain rfl:=oJ b
  exact aI rfl d
theorem V0a(h:Hp)(g:Option Addr)(l i:Nat)(e:N1)(m:R3.R h [.slice g l i] e)(r:Int)(d:F00 e=some r):
  Tr Tryz.prog 224 #[.slice g l i] h λv h'=>v = .int .i64 r/\h'=h:=by
 obtain⟨rfl,z⟩:=Sl.len m
 unfold F00 at d
 refine Tr.forget (V1 (args:=[.slice g e.length i]) (fn:=Tryz.f224) rfl ?_)
 obtain⟨k,o,d⟩:=B0 d
 refine eX { vars:=[3,4],boxes:=[],owns:=[],fuel:=true } (eX (λvs os h'=>∃ b c,vs.tail = [.int .i64 b,.int .i64 c]/\os = []/\Sub h h'/\I0 b/\I0 c/\I5 e (C1 vs) b c=some k) (eX (λ_ _=>0) (aI (eX P0 ⟨0,0,rfl,rfl,(Sub.refl _),(by decide),(by decide),o⟩) ?_)))
 rintro _ _ f y ⟨b,c,⟨⟩,⟨⟩,j,w,x,a⟩
 replace a:I5 e f b c=some k:=a
 obtain _|f:=f
 ·cases a
 rw[I5.eq_2]at a
 refine ifB a (λp a=>?_) λp a=>?_
 ·refine ld a (R3.mono j m) λq t n a=>?_
  obtain⟨s,B,u,rfl⟩:=Wp.slice_cell n
  obtain⟨rfl,A⟩:=Sl.len n
  exact D1 f ⟨(IntKind.i64.wrap (b+((q.length:Nat):Int))),(IntKind.i64.wrap (c+1)),rfl,rfl,j,(F0 _),(F0 _),a⟩
 ·obtain rfl:=oJ a
  try dsimp only[M0,O0]at d
  obtain rfl:=oJ d
  exact aI rfl j
theorem e0e(h:Hp)(c:Int)(n:I0 c)(i:Option Addr)(o j:Nat)(e:N1)(k:R3.R h [.slice i o j] e)(r:Bool)(b:i02 c e=some r):
  Tr Tryz.prog 140 #[.int .i64 c,.slice i o j] h λv h'=>v = .bool r/\h'=h:=by
 obtain⟨rfl,D⟩:=Sl.len k
 unfold i02 at b
 refine Tr.forget (V1 (args:=[.int .i64 c,.slice i e.length j]) (fn:=Tryz.f140) rfl ?_)
 obtain⟨m,s,b⟩:=B0 b
 refine eX { vars:=[5],boxes:=[],owns:=[],fuel:=true } (eX (λvs os h'=>∃ d,vs.tail = [.int .i64 d]/\os = []/\Sub h h'/\I0 d/\r7 e c (C1 vs) d=some m) (eX (λ_ _=>0) (aI (eX P0 ⟨0,rfl,rfl,(Sub.refl _),(by decide),s⟩) ?_)))
 rintro _ g C ⟨d,⟨⟩,⟨⟩,f,A,a⟩
 replace a:r7 e c g d=some m:=a
 obtain _|g:=g
 ·cases a
 rw[r7.eq_2]at a
 refine ifB a (λt a=>?_) λt a=>?_
 ·refine ld a (R3.mono f k) λH y l a=>?_
  obtain⟨x,F,z,rfl⟩:=Wp.slice_cell l
  obtain⟨rfl,E⟩:=Sl.len l
  refine trV a (O06 _ _ n _ _ _ _ l) λI a=>?_
  refine ifB a (λu a=>?_) λu a=>?_
  ·obtain rfl:=oJ a
   try dsimp only[N3,O3]at b
   obtain rfl:=oJ b
   exact aI rfl f
  ·exact D1 g ⟨(IntKind.i64.wrap (d+1)),rfl,rfl,f,(F0 _),a⟩
 ·obtain rfl:=oJ a
  try dsimp only[M0,O0]at b
  refine trV b (E3 _ _ n 1 (by decide) 3 (by decide)) λJ b=>?_
  refine trG b (λq=>V0a _ _ _ _ _ (R3.mono f k)) λw b=>?_
  obtain⟨G,p,b⟩:=B0 b
  have B:I0 w:=T0 p
  obtain rfl:=oJ b
  exact aI rfl f
theorem P7(h:Hp)(a:Int)(e:I0 a)(b:Int)(f:I0 b)(c:Int)(g:I0 c)(r:Bool)(d:B5 a b c=some r):
  Tr Tryz.prog 94 #[.int .i64 a,.int .i64 b,.int .i64 c] h λv h'=>v = .bool r/\h'=h:=by
 unfold B5 at d
 refine Tr.forget (V1 (args:=[.int .i64 a,.int .i64 b,.int .i64 c]) (fn:=Tryz.f94) rfl ?_)
 obtain rfl:=oJ d
 exact aI rfl (Sub.refl _)
theorem X0b(h:Hp)(a:Int)(d:I0 a)(b:Int)(e:I0 b)(r:Bool)(c:b01 a b=some r):
  Tr Tryz.prog 139 #[.int .i64 a,.int .i64 b] h λv h'=>v = .bool r/\h'=h:=by
 unfold b01 at c
 refine Tr.forget (V1 (args:=[.int .i64 a,.int .i64 b]) (fn:=Tryz.f139) rfl ?_)
 obtain rfl:=oJ c
 exact aI rfl (Sub.refl _)
theorem C03(h:Hp)(b:Int)(f:I0 b)(c:Int)(g:I0 c)(r:Int)(a:Q7 b c=some r):
  Tr Tryz.prog 276 #[.int .i64 b,.int .i64 c] h λv h'=>v = .int .i64 r/\h'=h:=by
 unfold Q7 at a
 refine Tr.forget (V1 (args:=[.int .i64 b,.int .i64 c]) (fn:=Tryz.f276) rfl ?_)
 refine ifB a (λd a=>?_) λd a=>?_
 ·obtain rfl:=oJ a
  exact aI rfl (Sub.refl _)
 ·refine ifB a (λe a=>?_) λe a=>?_
  ·obtain rfl:=oJ a
   exact aI rfl (Sub.refl _)
  ·obtain rfl:=oJ a
   exact aI rfl (Sub.refl _)
theorem s0a(h:Hp)(c:List Value)(e:l0)(u:C0.R h c e)(d:List Value)(f:Q0)(x:M1.R h d f)(r:Bool)(a:v02 e f=some r):
  Tr Tryz.prog 232 #[.agg c.toArray,.agg d.toArray] h λv h'=>v = .bool r/\h'=h:=by
 obtain⟨n,b,g,A,i,o,rfl,rfl,j,y,w⟩:=H0 u
 obtain⟨rfl,z⟩:=Sl.len w
 obtain⟨p,s,t,rfl,rfl,k,l,m⟩:=D2 x
 unfold v02 at a
 dsimp only at a
 refine Tr.forget (V1 (args:=[.agg #[.int .i64 n,.int .i64 b,.slice g o.length i],.agg #[.int .i64 p,.int .i64 s,.int .i64 t]]) (fn:=Tryz.f232) rfl ?_)
 refine trV a (E3 _ _ k 0 (by decide) (IntKind.i64.wrap (b-1)) (F0 _)) λB a=>?_
 refine trG a (λq=>E3 _ _ m 0 (by decide) (IntKind.i64.wrap (b-1)) (F0 _)) λC a=>?_
 refine trG a (λq=>E3 _ _ l 1 (by decide) _ j) λD a=>?_
 obtain rfl:=oJ a
 exact aI rfl (Sub.refl _)
theorem k05(h:Hp)(n:List Value)(x:Q0)(P:M1.R h n x)(o:List Value)(y:Q0)(Q:M1.R h o y)(r:Int)(b:T8 x y=some r):
  Tr Tryz.prog 253 #[.agg n.toArray,.agg o.toArray] h λv h'=>v = .int .i64 r/\h'=h:=by
 obtain⟨d,e,f,rfl,rfl,p,q,s⟩:=D2 P
 obtain⟨g,i,j,rfl,rfl,t,u,w⟩:=D2 Q
 unfold T8 at b
 dsimp only at b
 refine Tr.forget (V1 (args:=[.agg #[.int .i64 d,.int .i64 e,.int .i64 f],.agg #[.int .i64 g,.int .i64 i,.int .i64 j]]) (fn:=Tryz.f253) rfl ?_)
 obtain⟨m,L,b⟩:=B0 b
 refine eX { vars:=[7],boxes:=[],owns:=[],fuel:=true } (eX (λvs os h'=>∃ k,vs.tail = [.int .i64 k]/\os = []/\Sub h h'/\I0 k/\H7 d e f g i j (C1 vs) k=some m) (eX (λ_ _=>0) (aI (eX P0 ⟨0,rfl,rfl,(Sub.refl _),(by decide),L⟩) ?_)))
 rintro _ l af ⟨k,⟨⟩,⟨⟩,c,aa,a⟩
 replace a:H7 d e f g i j l k=some m:=a
 obtain _|l:=l
 ·cases a
 rw[H7.eq_2]at a
 refine ifB a (λN a=>?_) λN a=>?_
 ·refine Or.inl (aI (aI (by kernel_rfl) (by kernel_rfl)) ?_)
  obtain⟨ah,I,a⟩:=B0 a
  obtain⟨A,X,E,T⟩:=I3 (F2.up (r:=Wp.int.toRp) c (show F2 (Wp.int.R h) ([[.int .i64 d],[.int .i64 e],[.int .i64 f]]:List (List Value)) [d,e,f] from⟨⟨rfl,p⟩,⟨⟨rfl,q⟩,⟨⟨rfl,s⟩,trivial⟩⟩⟩)) I
  refine aI A ?_
  obtain⟨rfl,ac⟩:=T
  refine eX _ (aI E ?_)
  obtain⟨ai,J,a⟩:=B0 a
  obtain⟨B,Y,F,U⟩:=I3 (F2.up (r:=Wp.int.toRp) c (show F2 (Wp.int.R h) ([[.int .i64 g],[.int .i64 i],[.int .i64 j]]:List (List Value)) [g,i,j] from⟨⟨rfl,t⟩,⟨⟨rfl,u⟩,⟨⟨rfl,w⟩,trivial⟩⟩⟩)) J
  refine aI B ?_
  obtain⟨rfl,ad⟩:=U
  refine eX _ (aI F ?_)
  refine ifB a (λO a=>?_) λO a=>?_
  ·obtain rfl:=oJ a
   try dsimp only[N3,O3]at b
   obtain rfl:=oJ b
   exact aI rfl c
  ·refine Or.inl (aI (aI (by kernel_rfl) (by kernel_rfl)) ?_)
   obtain⟨aj,K,a⟩:=B0 a
   obtain⟨C,Z,G,V⟩:=I3 (F2.up (r:=Wp.int.toRp) c (show F2 (Wp.int.R h) ([[.int .i64 d],[.int .i64 e],[.int .i64 f]]:List (List Value)) [d,e,f] from⟨⟨rfl,p⟩,⟨⟨rfl,q⟩,⟨⟨rfl,s⟩,trivial⟩⟩⟩)) K
   refine aI C ?_
   obtain⟨rfl,ae⟩:=V
   refine eX _ (aI G ?_)
   obtain⟨ag,H,a⟩:=B0 a
   obtain⟨z,W,D,S⟩:=I3 (F2.up (r:=Wp.int.toRp) c (show F2 (Wp.int.R h) ([[.int .i64 g],[.int .i64 i],[.int .i64 j]]:List (List Value)) [g,i,j] from⟨⟨rfl,t⟩,⟨⟨rfl,u⟩,⟨⟨rfl,w⟩,trivial⟩⟩⟩)) H
   refine aI z ?_
   obtain⟨rfl,ab⟩:=S
   refine eX _ (aI D ?_)
   refine ifB a (λM a=>?_) λM a=>?_
   ·obtain rfl:=oJ a
    try dsimp only[N3,O3]at b
    obtain rfl:=oJ b
    exact aI rfl c
   ·exact D1 l ⟨(IntKind.i64.wrap (k+1)),rfl,rfl,c,(F0 _),a⟩
 ·obtain rfl:=oJ a
  try dsimp only[M0,O0]at b
  obtain rfl:=oJ b
  exact aI rfl c
theorem N6(h:Hp)(l:List Value)(t:l0)(N:C0.R h l t)(r:Bool)(b:B4 t=some r):
  Tr Tryz.prog 231 #[.agg l.toArray] h λv h'=>v = .bool r/\h'=h:=by
 obtain⟨g,i,u,aa,w,j,rfl,rfl,o,p,e⟩:=H0 N
 obtain⟨rfl,Z⟩:=Sl.len e
 unfold B4 at b
 dsimp only at b
 refine Tr.forget (V1 (args:=[.agg #[.int .i64 g,.int .i64 i,.slice u j.length w]]) (fn:=Tryz.f231) rfl ?_)
 obtain⟨k,B,b⟩:=B0 b
 refine eX { vars:=[3],boxes:=[],owns:=[],fuel:=true } (eX (λvs os h'=>∃ d,vs.tail = [.int .i64 d]/\os = []/\Sub h h'/\I0 d/\c8 j g i (C1 vs) d=some k) (eX (λ_ _=>0) (aI (eX P0 ⟨0,rfl,rfl,(Sub.refl _),(by decide),B⟩) ?_)))
 rintro _ f s ⟨d,⟨⟩,⟨⟩,c,X,a⟩
 replace a:c8 j g i f d=some k:=a
 obtain _|f:=f
 ·cases a
 rw[c8.eq_2]at a
 refine ifB a (λD a=>?_) λD a=>?_
 ·refine Or.inl (aI (aI (by kernel_rfl) (by kernel_rfl)) ?_)
  refine ld a (N0.mono c e) λae U O a=>?_
  obtain⟨af,ag,ah,rfl,rfl,E,F,G⟩:=D2 O
  try dsimp only at a
  obtain⟨T,y,a⟩:=B0 a
  refine eX (.bool T) (aI (s0a _ _ _ (j0 o p (N0.mono c e)) _ _ (E1 E F G) _  y) ?_)
  obtain⟨ai,z,a⟩:=B0 a
  obtain⟨V,m,P⟩:=Sl.getG (r:=M1.toRp) (N0.mono c e) z (by decide) (g0m s)
  refine aI (λq=>(m q).1) ?_
  obtain⟨aj,ak,al,rfl,rfl,H,I,J⟩:=D2 P
  try dsimp only at a
  refine eX _ (aI (λq=>(m q).2) ?_)
  obtain⟨am,A,a⟩:=B0 a
  obtain⟨W,n,Q⟩:=Sl.getG (r:=M1.toRp) (N0.mono c e) A (by decide) (g0m s)
  refine aI (λq=>(n q).1) ?_
  obtain⟨an,ao,ap,rfl,rfl,K,L,M⟩:=D2 Q
  try dsimp only at a
  refine eX _ (aI (λq=>(n q).2) ?_)
  refine trG a (λq=>k05 _ _ _ (E1 H I J) _ _ (E1 K L M)) λS a=>?_
  obtain⟨ab,x,a⟩:=B0 a
  have Y:I0 S:=T0 x
  refine ifB a (λC a=>?_) λC a=>?_
  ·obtain rfl:=oJ a
   try dsimp only[N3,O3]at b
   obtain rfl:=oJ b
   exact aI rfl c
  ·exact D1 f ⟨(IntKind.i64.wrap (d+1)),rfl,rfl,c,(F0 _),a⟩
 ·obtain rfl:=oJ a
  try dsimp only[M0,O0]at b
  refine trV b (E3 _ _ o 1 (by decide) 3 (by decide)) λac b=>?_
  refine trG b (λq=>E3 _ _ p 1 (by decide) 40 (by decide)) λad b=>?_
  obtain rfl:=oJ b
  exact aI rfl c
theorem T01(h:Hp)(c:List Value)(d:l0)(l:C0.R h c d)(b:Int)(i:I0 b)(r:Bool)(a:I4 d b=some r):
  Tr Tryz.prog 228 #[.agg c.toArray,.int .i64 b] h λv h'=>v = .bool r/\h'=h:=by
 obtain⟨j,e,f,q,g,k,rfl,rfl,n,o,m⟩:=H0 l
 obtain⟨rfl,p⟩:=Sl.len m
 unfold I4 at a
 dsimp only at a
 refine Tr.forget (V1 (args:=[.agg #[.int .i64 j,.int .i64 e,.slice f k.length g],.int .i64 b]) (fn:=Tryz.f228) rfl ?_)
 refine trV a (P7 _ _ i 0 (by decide) (IntKind.i64.wrap (e-1)) (F0 _)) λs a=>?_
 obtain rfl:=oJ a
 exact aI rfl (Sub.refl _)
theorem l09(h:Hp)(d:List Value)(g:l0)(x:C0.R h d g)(e:List Value)(i:Q0)(y:M1.R h e i)(r:Bool)(a:P9 g i=some r):
  Tr Tryz.prog 229 #[.agg d.toArray,.agg e.toArray] h λv h'=>v = .bool r/\h'=h:=by
 obtain⟨o,p,j,A,k,s,rfl,rfl,b,f,c⟩:=H0 x
 obtain⟨rfl,z⟩:=Sl.len c
 obtain⟨t,u,w,rfl,rfl,l,m,n⟩:=D2 y
 unfold P9 at a
 dsimp only at a
 refine Tr.forget (V1 (args:=[.agg #[.int .i64 o,.int .i64 p,.slice j s.length k],.agg #[.int .i64 t,.int .i64 u,.int .i64 w]]) (fn:=Tryz.f229) rfl ?_)
 refine trV a (T01 _ _ _ (j0 b f c) _ l) λB a=>?_
 refine trG a (λq=>T01 _ _ _ (j0 b f c) _ n) λC a=>?_
 refine trG a (λq=>P7 _ _ m 1 (by decide) _ b) λD a=>?_
 obtain rfl:=oJ a
 exact aI rfl (Sub.refl _)
theorem l05(h:Hp)(b:List Value)(d:Q0)(z:M1.R h b d)(c:List Value)(e:Q0)(A:M1.R h c e)(r:Int)(a:n00 d e=some r):
  Tr Tryz.prog 240 #[.agg b.toArray,.agg c.toArray] h λv h'=>v = .int .i64 r/\h'=h:=by
 obtain⟨s,t,u,rfl,rfl,l,m,n⟩:=D2 z
 obtain⟨w,x,y,rfl,rfl,o,p,q⟩:=D2 A
 unfold n00 at a
 dsimp only at a
 refine Tr.forget (V1 (args:=[.agg #[.int .i64 s,.int .i64 t,.int .i64 u],.agg #[.int .i64 w,.int .i64 x,.int .i64 y]]) (fn:=Tryz.f240) rfl ?_)
 refine trV a (C03 _ _ l _ o) λB a=>?_
 obtain⟨H,f,a⟩:=B0 a
 have E:I0 B:=T0 f
 refine ifB a (λj a=>?_) λj a=>?_
 ·obtain rfl:=oJ a
  exact aI rfl (Sub.refl _)
 ·refine trV a (C03 _ _ m _ p) λC a=>?_
  obtain⟨I,g,a⟩:=B0 a
  have F:I0 C:=T0 g
  refine ifB a (λk a=>?_) λk a=>?_
  ·obtain rfl:=oJ a
   exact aI rfl (Sub.refl _)
  ·refine trV a (C03 _ _ n _ q) λD a=>?_
   obtain⟨J,i,a⟩:=B0 a
   have G:I0 D:=T0 i
   obtain rfl:=oJ a
   exact aI rfl (Sub.refl _)
theorem g04(h:Hp)(l:List Value)(u:l0)(J:C0.R h l u)(r:Bool)(b:Q9 u=some r):
  Tr Tryz.prog 171 #[.agg l.toArray] h λv h'=>v = .bool r/\h'=h:=by
 obtain⟨g,i,w,U,x,j,rfl,rfl,n,o,f⟩:=H0 J
 obtain⟨rfl,T⟩:=Sl.len f
 unfold Q9 at b
 dsimp only at b
 refine Tr.forget (V1 (args:=[.agg #[.int .i64 g,.int .i64 i,.slice w j.length x]]) (fn:=Tryz.f171) rfl ?_)
 refine trV b (P7 _ _ n 1 (by decide) 3 (by decide)) λW b=>?_
 refine trG b (λq=>P7 _ _ o 1 (by decide) 40 (by decide)) λab b=>?_
 refine ifB b (λD b=>?_) λD b=>?_
 ·obtain rfl:=oJ b
  exact aI rfl (Sub.refl _)
 ·obtain⟨k,B,b⟩:=B0 b
  refine eX { vars:=[24],boxes:=[],owns:=[],fuel:=true } (eX (λvs os h'=>∃ d,vs.tail = [.int .i64 d]/\os = []/\Sub h h'/\I0 d/\d8 j g i (C1 vs) d=some k) (eX (λ_ _=>0) (aI (eX P0 ⟨0,rfl,rfl,(Sub.refl _),(by decide),B⟩) ?_)))
  rintro _ e I ⟨d,⟨⟩,⟨⟩,c,Q,a⟩
  replace a:d8 j g i e d=some k:=a
  obtain _|e:=e
  ·cases a
  rw[d8.eq_2]at a
  refine ifB a (λE a=>?_) λE a=>?_
  ·refine ld a (N0.mono c f) λac P L a=>?_
   obtain⟨ad,ae,af,rfl,rfl,p,s,t⟩:=D2 L
   try dsimp only at a
   refine Or.inl (aI (aI (by kernel_rfl) (by kernel_rfl)) ?_)
   obtain⟨M,z,a⟩:=B0 a
   refine eX (.bool M) (aI (l09 _ _ _ (j0 n o (N0.mono c f)) _ _ (E1 p s t) _  z) ?_)
   obtain⟨X,A,a⟩:=B0 a
   obtain⟨O,m,K⟩:=Sl.getG (r:=M1.toRp) (N0.mono c f) A (by decide) (g0m I)
   refine aI (λq=>(m q).1) ?_
   obtain⟨Y,Z,aa,rfl,rfl,F,G,H⟩:=D2 K
   try dsimp only at a
   refine eX _ (aI (λq=>(m q).2) ?_)
   refine trG a (λq=>l05 _ _ _ (E1 F G H) _ _ (E1 p s t)) λN a=>?_
   obtain⟨V,y,a⟩:=B0 a
   have S:I0 N:=T0 y
   refine ifB a (λC a=>?_) λC a=>?_
   ·obtain rfl:=oJ a
    try dsimp only[N3,O3]at b
    obtain rfl:=oJ b
    exact aI rfl c
   ·exact D1 e ⟨(IntKind.i64.wrap (d+1)),rfl,rfl,c,(F0 _),a⟩
  ·obtain rfl:=oJ a
   try dsimp only[M0,O0]at b
   obtain rfl:=oJ b
   exact aI rfl c
theorem g03(h:Hp)(u:Option Addr)(F w:Nat)(s:D0)(k:K0.R h [.slice u F w] s)(b:Int)(g:I0 b)(r:D0)(f:I9 s b=some r):
  Tr Tryz.prog 264 #[.slice u F w,.int .i64 b] h λv h'=>∃(y:Option Addr) (E z:Nat),v = .slice y E z/\K0.R h' [.slice y E z] r/\Sub h h':=by
 obtain⟨rfl,ak⟩:=Sl.len k
 unfold I9 at f
 refine V1 (args:=[.slice u s.length w,.int .i64 b]) (fn:=Tryz.f264) rfl ?_
 obtain⟨x,U,f⟩:=B0 f
 refine eX { vars:=[6,7],boxes:=[],owns:=[0],fuel:=true } (eX (λvs os h'=>∃ t j m i,vs.tail = [.bool t,.int .i64 j]/\os = [m]/\Sub h h'/\I0 j/\F2 (Wp.int.R h') m i/\M4 s b (C1 vs) t j i=some x) (eX (λ_ _=>0) (aI (eX P0 ⟨false,0,[],([]:D0),rfl,rfl,(Sub.refl _),(by decide),(show F2 (Wp.int.R h) ([]:List (List Value)) ([]:D0) from trivial),U⟩) ?_)))
 rintro _ _ m l d ⟨t,j,aB,i,⟨⟩,⟨⟩,e,ae,c,a⟩
 replace a:M4 s b l t j i=some x:=a
 obtain _|l:=l
 ·cases a
 rw[M4.eq_2]at a
 refine ifB a (λY a=>?_) λY a=>?_
 ·refine ldI a (K0.mono e k) λaA ah a=>?_
  refine ifB a (λZ a=>?_) λZ a=>?_
  ·refine ldI a (K0.mono e k) λay af a=>?_
   refine ifB a (λV a=>?_) λV a=>?_
   ·obtain⟨an,M,a⟩:=B0 a
    refine aI (Z0 M (by first|rw[F2.length c,F2.length (show F2 (Wp.int.R d) ([[.int .i64 b]]:List (List Value)) [b] from⟨⟨rfl,g⟩,trivial⟩)]|exact congrArg (·+1) (F2.length c))) ?_
    refine ldI a (K0.mono e k) λn A a=>?_
    obtain⟨ao,N,a⟩:=B0 a
    refine aI (Z0 N (by first|rw[F2.length (F2.append c (show F2 (Wp.int.R d) ([[.int .i64 b]]:List (List Value)) [b] from⟨⟨rfl,g⟩,trivial⟩)),F2.length (show F2 (Wp.int.R d) ([[.int .i64 n]]:List (List Value)) [n] from⟨⟨rfl,A⟩,trivial⟩)]|exact congrArg (·+1) (F2.length (F2.append c (show F2 (Wp.int.R d) ([[.int .i64 b]]:List (List Value)) [b] from⟨⟨rfl,g⟩,trivial⟩))))) ?_
    exact D1 l ⟨true,(IntKind.i64.wrap (j+1)),((m++([[.int .i64 b]]:List (List Value)))++([[.int .i64 n]]:List (List Value))),((i ++ [b]) ++ [n]),rfl,rfl,e,(F0 _),(F2.append (F2.append c (show F2 (Wp.int.R d) ([[.int .i64 b]]:List (List Value)) [b] from⟨⟨rfl,g⟩,trivial⟩)) (show F2 (Wp.int.R d) ([[.int .i64 n]]:List (List Value)) [n] from⟨⟨rfl,A⟩,trivial⟩)),a⟩
   ·refine ldI a (K0.mono e k) λo B a=>?_
    obtain⟨ap,O,a⟩:=B0 a
    refine aI (Z0 O (by first|rw[F2.length c,F2.length (show F2 (Wp.int.R d) ([[.int .i64 o]]:List (List Value)) [o] from⟨⟨rfl,B⟩,trivial⟩)]|exact congrArg (·+1) (F2.length c))) ?_
    exact D1 l ⟨true,(IntKind.i64.wrap (j+1)),(m++([[.int .i64 o]]:List (List Value))),(i ++ [o]),rfl,rfl,e,(F0 _),(F2.append c (show F2 (Wp.int.R d) ([[.int .i64 o]]:List (List Value)) [o] from⟨⟨rfl,B⟩,trivial⟩)),a⟩
  ·refine ldI a (K0.mono e k) λaz ag a=>?_
   refine ifB a (λW a=>?_) λW a=>?_
   ·obtain⟨aq,P,a⟩:=B0 a
    refine aI (Z0 P (by first|rw[F2.length c,F2.length (show F2 (Wp.int.R d) ([[.int .i64 b]]:List (List Value)) [b] from⟨⟨rfl,g⟩,trivial⟩)]|exact congrArg (·+1) (F2.length c))) ?_
    refine ldI a (K0.mono e k) λp C a=>?_
    obtain⟨ar,Q,a⟩:=B0 a
    refine aI (Z0 Q (by first|rw[F2.length (F2.append c (show F2 (Wp.int.R d) ([[.int .i64 b]]:List (List Value)) [b] from⟨⟨rfl,g⟩,trivial⟩)),F2.length (show F2 (Wp.int.R d) ([[.int .i64 p]]:List (List Value)) [p] from⟨⟨rfl,C⟩,trivial⟩)]|exact congrArg (·+1) (F2.length (F2.append c (show F2 (Wp.int.R d) ([[.int .i64 b]]:List (List Value)) [b] from⟨⟨rfl,g⟩,trivial⟩))))) ?_
    exact D1 l ⟨true,(IntKind.i64.wrap (j+1)),((m++([[.int .i64 b]]:List (List Value)))++([[.int .i64 p]]:List (List Value))),((i ++ [b]) ++ [p]),rfl,rfl,e,(F0 _),(F2.append (F2.append c (show F2 (Wp.int.R d) ([[.int .i64 b]]:List (List Value)) [b] from⟨⟨rfl,g⟩,trivial⟩)) (show F2 (Wp.int.R d) ([[.int .i64 p]]:List (List Value)) [p] from⟨⟨rfl,C⟩,trivial⟩)),a⟩
   ·refine ldI a (K0.mono e k) λq D a=>?_
    obtain⟨au,S,a⟩:=B0 a
    refine aI (Z0 S (by first|rw[F2.length c,F2.length (show F2 (Wp.int.R d) ([[.int .i64 q]]:List (List Value)) [q] from⟨⟨rfl,D⟩,trivial⟩)]|exact congrArg (·+1) (F2.length c))) ?_
    exact D1 l ⟨t,(IntKind.i64.wrap (j+1)),(m++([[.int .i64 q]]:List (List Value))),(i ++ [q]),rfl,rfl,e,(F0 _),(F2.append c (show F2 (Wp.int.R d) ([[.int .i64 q]]:List (List Value)) [q] from⟨⟨rfl,D⟩,trivial⟩)),a⟩
 ·obtain rfl:=oJ a
  try dsimp only[M0,O0]at f
  refine ifB f (λX f=>?_) λX f=>?_
  ·obtain⟨av,T,f⟩:=B0 f
   refine aI (Z0 T (by first|rw[F2.length c,F2.length (show F2 (Wp.int.R d) ([[.int .i64 b]]:List (List Value)) [b] from⟨⟨rfl,g⟩,trivial⟩)]|exact congrArg (·+1) (F2.length c))) ?_
   intro aw ai K
   obtain⟨G,I,rfl,aa,ac,al⟩:=S0.out (r:=Wp.int.toRp) K (F2.append c (show F2 (Wp.int.R d) ([[.int .i64 b]]:List (List Value)) [b] from⟨⟨rfl,g⟩,trivial⟩))
   obtain rfl:=oJ f
   exact⟨G,((i ++ [b])).length,I,rfl,aa,(e.trans ac)⟩
  ·intro ax aj L
   obtain⟨H,J,rfl,ab,ad,am⟩:=S0.out (r:=Wp.int.toRp) L c
   obtain rfl:=oJ f
   exact⟨H,i.length,J,rfl,ab,(e.trans ad)⟩
theorem h03(h:Hp)(i:Option Addr)(l j:Nat)(e:D0)(m:K0.R h [.slice i l j] e)(c:Int)(q:I0 c)(r:Bool)(b:J9 e c=some r):
  Tr Tryz.prog 129 #[.slice i l j,.int .i64 c] h λv h'=>v = .bool r/\h'=h:=by
 obtain⟨rfl,w⟩:=Sl.len m
 unfold J9 at b
 refine Tr.forget (V1 (args:=[.slice i e.length j,.int .i64 c]) (fn:=Tryz.f129) rfl ?_)
 obtain⟨k,n,b⟩:=B0 b
 refine eX { vars:=[5],boxes:=[],owns:=[],fuel:=true } (eX (λvs os h'=>∃ d,vs.tail = [.int .i64 d]/\os = []/\Sub h h'/\I0 d/\R9 e c (C1 vs) d=some k) (eX (λ_ _=>0) (aI (eX P0 ⟨0,rfl,rfl,(Sub.refl _),(by decide),n⟩) ?_)))
 rintro _ f u ⟨d,⟨⟩,⟨⟩,g,s,a⟩
 replace a:R9 e c f d=some k:=a
 obtain _|f:=f
 ·cases a
 rw[R9.eq_2]at a
 refine ifB a (λo a=>?_) λo a=>?_
 ·refine ldI a (K0.mono g m) λx t a=>?_
  refine ifB a (λp a=>?_) λp a=>?_
  ·obtain rfl:=oJ a
   try dsimp only[N3,O3]at b
   obtain rfl:=oJ b
   exact aI rfl g
  ·exact D1 f ⟨(IntKind.i64.wrap (d+1)),rfl,rfl,g,(F0 _),a⟩
 ·obtain rfl:=oJ a
  try dsimp only[M0,O0]at b
  obtain rfl:=oJ b
  exact aI rfl g
theorem l0d(h:Hp)(t:List Value)(x:l0)(Y:C0.R h t x)(f:Int)(ah:I0 f)(g:Int)(ai:I0 g)(r:D0)(e:E01 x f g=some r):
  Tr Tryz.prog 215 #[.agg t.toArray,.int .i64 f,.int .i64 g] h λv h'=>∃(q:Option Addr) (w s:Nat),v = .slice q w s/\K0.R h' [.slice q w s] r/\Sub h h':=by
 obtain⟨W,X,F,ay,K,n,rfl,rfl,af,ag,y⟩:=H0 Y
 obtain⟨rfl,aq⟩:=Sl.len y
 unfold E01 at e
 dsimp only at e
 refine V1 (args:=[.agg #[.int .i64 W,.int .i64 X,.slice F n.length K],.int .i64 f,.int .i64 g]) (fn:=Tryz.f215) rfl ?_
 obtain⟨p,P,e⟩:=B0 e
 refine eX { vars:=[7,8],boxes:=[],owns:=[],fuel:=true,pubs:=[7,10] } (eX (λvs os h'=>∃(j:Option Addr) (m k:Nat) (d:D0) (b:Int),vs.tail = [.slice j m k,.int .i64 b]/\os = []/\Sub h h'/\K0.R h' [.slice j m k] d/\I0 b/\C4 n g f (C1 vs) d b=some p) (eX (λ_ _=>0) ?_))
 intro aC an f3
 obtain⟨J,O,rfl,aa,ad,ax⟩:=S0.out (r:=Wp.int.toRp) f3 (show F2 (Wp.int.R h) ([]:List (List Value)) ([]:D0) from trivial)
 refine aI (eX P0 ⟨J,(([]:D0)).length,O,([]:D0),0,rfl,rfl,ad,aa,(by decide),P⟩) ?_
 rintro _ _ c ap ⟨j,m,k,d,b,⟨⟩,⟨⟩,i,l,aj,a⟩
 replace a:C4 n g f c d b=some p:=a
 obtain _|c:=c
 ·cases a
 rw[C4.eq_2]at a
 obtain⟨rfl,ar⟩:=Sl.len l
 refine ifB a (λQ a=>?_) λQ a=>?_
 ·refine ld a (N0.mono i y) λaG ae Z a=>?_
  obtain⟨aH,aJ,aK,rfl,rfl,u,ak,V⟩:=D2 Z
  try dsimp only at a
  refine ifB a (λS a=>?_) λS a=>?_
  ·refine trM a (g03 _ _ _ _ _ l _ V) ?_
   rintro C a aD al ⟨G,az,L,rfl,o,B⟩
   obtain⟨rfl,au⟩:=Sl.len o
   refine ifB a (λT a=>?_) λT a=>?_
   ·refine trM a (g03 _ _ _ _ _ o _ u) ?_
    rintro D a aE am ⟨H,aA,M,rfl,z,ab⟩
    obtain⟨rfl,av⟩:=Sl.len z
    exact D1 c ⟨H,D.length,M,D,(IntKind.i64.wrap (b+1)),rfl,rfl,((i.trans B).trans ab),z,(F0 _),a⟩
   ·exact D1 c ⟨G,C.length,L,C,(IntKind.i64.wrap (b+1)),rfl,rfl,(i.trans B),o,(F0 _),a⟩
  ·refine ifB a (λU a=>?_) λU a=>?_
   ·refine trM a (g03 _ _ _ _ _ l _ u) ?_
    rintro E a aF ao ⟨I,aB,N,rfl,A,ac⟩
    obtain⟨rfl,aw⟩:=Sl.len A
    exact D1 c ⟨I,E.length,N,E,(IntKind.i64.wrap (b+1)),rfl,rfl,(i.trans ac),A,(F0 _),a⟩
   ·exact D1 c ⟨j,d.length,k,d,(IntKind.i64.wrap (b+1)),rfl,rfl,i,l,(F0 _),a⟩
 ·obtain rfl:=oJ a
  try dsimp only[M0,O0]at e
  obtain rfl:=oJ e
  exact⟨j,d.length,k,rfl,l,i⟩
theorem e00(h:Hp)(d:List Value)(e:l0)(u:C0.R h d e)(b:Int)(o:I0 b)(c:Int)(p:I0 c)(r:Int)(a:C5 e b c=some r):
  Tr Tryz.prog 128 #[.agg d.toArray,.int .i64 b,.int .i64 c] h λv h'=>v = .int .i64 r/\h'=h:=by
 obtain⟨q,s,j,C,k,t,rfl,rfl,m,n,f⟩:=H0 u
 obtain⟨rfl,A⟩:=Sl.len f
 unfold C5 at a
 dsimp only at a
 refine Tr.forget (V1 (args:=[.agg #[.int .i64 q,.int .i64 s,.slice j t.length k],.int .i64 b,.int .i64 c]) (fn:=Tryz.f128) rfl ?_)
 refine trM a (l0d _ _ _ (j0 m n f) _ o _ p) ?_
 rintro F a E z ⟨w,D,x,rfl,g,i⟩
 obtain⟨rfl,B⟩:=Sl.len g
 refine ifB a (λl a=>?_) λl a=>?_
 ·obtain rfl:=oJ a
  exact aI rfl i
 ·refine ldI a g λG y a=>?_
  obtain rfl:=oJ a
  exact aI rfl i
theorem l00(h:Hp)(p:List Value)(u:l0)(E:C0.R h p u)(r:Bool)(c:Y5 u=some r):
  Tr Tryz.prog 154 #[.agg p.toArray] h λv h'=>v = .bool r/\h'=h:=by
 obtain⟨l,m,w,U,x,f,rfl,rfl,s,t,g⟩:=H0 E
 obtain⟨rfl,T⟩:=Sl.len g
 unfold Y5 at c
 dsimp only at c
 refine Tr.forget (V1 (args:=[.agg #[.int .i64 l,.int .i64 m,.slice w f.length x]]) (fn:=Tryz.f154) rfl ?_)
 obtain⟨n,y,c⟩:=B0 c
 refine eX { vars:=[3],boxes:=[],owns:=[],fuel:=true } (eX (λvs os h'=>∃ d,vs.tail = [.int .i64 d]/\os = []/\Sub h h'/\I0 d/\D5 f l m (C1 vs) d=some n) (eX (λ_ _=>0) (aI (eX P0 ⟨0,rfl,rfl,(Sub.refl _),(by decide),y⟩) ?_)))
 rintro _ k D ⟨d,⟨⟩,⟨⟩,e,J,b⟩
 replace b:D5 f l m k d=some n:=b
 obtain _|k:=k
 ·cases b
 rw[D5.eq_2]at b
 refine trG b (λq=>N6 _ _ _ (j0 s t (N0.mono e g))) λae b=>?_
 refine ifB b (λC b=>?_) λC b=>?_
 ·obtain⟨o,z,b⟩:=B0 b
  refine eX { vars:=[4],boxes:=[],owns:=[],fuel:=true } (eX (λvs os h'=>∃ u8,vs.tail = [.int .i64 u8]/\os = []/\Sub D h'/\I0 u8/\t7 d f (C1 vs) u8=some o) (eX (λ_ _=>0) (aI (eX P0 ⟨0,rfl,rfl,(Sub.refl _),(by decide),z⟩) ?_)))
  rintro _ j S ⟨u8,⟨⟩,⟨⟩,i,K,a⟩
  replace a:t7 d f j u8=some o:=a
  obtain _|j:=j
  ·cases a
  rw[t7.eq_2]at a
  refine ifB a (λA a=>?_) λA a=>?_
  ·refine ld a (N0.mono (e.trans i) g) λV H F a=>?_
   obtain⟨W,X,Y,rfl,rfl,L,M,N⟩:=D2 F
   try dsimp only at a
   refine ld a (N0.mono (e.trans i) g) λZ I G a=>?_
   obtain⟨aa,ab,ac,rfl,rfl,O,P,Q⟩:=D2 G
   try dsimp only at a
   refine ifB a (λB a=>?_) λB a=>?_
   ·obtain rfl:=oJ a
    try dsimp only[N3,O3]at b
    obtain rfl:=oJ b
    try dsimp only[N3,O3]at c
    obtain rfl:=oJ c
    exact aI rfl (e.trans i)
   ·exact D1 j ⟨(IntKind.i64.wrap (u8+1)),rfl,rfl,i,(F0 _),a⟩
  ·obtain rfl:=oJ a
   try dsimp only[M0,O0]at b
   exact D1 k ⟨(IntKind.i64.wrap (d+1)),rfl,rfl,(e.trans i),(F0 _),b⟩
 ·obtain rfl:=oJ b
  try dsimp only[M0,O0]at c
  refine trV c (N6 _ _ _ (j0 s t (N0.mono e g))) λad c=>?_
  obtain rfl:=oJ c
  exact aI rfl e
theorem f0e(h:Hp)(t:List Value)(z:l0)(M:C0.R h t z)(d:Int)(x:I0 d)(k:Option Addr)(y l:Nat)(e:D0)(A:K0.R h [.slice k y l] e)(r:Int×Bool)(b:j02 z d e=some r):
  Tr Tryz.prog 159 #[.agg t.toArray,.int .i64 d,.slice k y l] h λv h'=>v = .tuple #[.int .i64 r.1,.bool r.2]/\h'=h:=by
 obtain⟨m,j,B,S,C,n,rfl,rfl,u,w,o⟩:=H0 M
 obtain⟨rfl,P⟩:=Sl.len o
 obtain⟨rfl,Q⟩:=Sl.len A
 unfold j02 at b
 dsimp only at b
 refine Tr.forget (V1 (args:=[.agg #[.int .i64 m,.int .i64 j,.slice B n.length C],.int .i64 d,.slice k e.length l]) (fn:=Tryz.f159) rfl ?_)
 refine trV b (l00 _ _ _ (j0 u w o)) λU b=>?_
 refine trG b (λq=>E3 _ _ x 0 (by decide) (IntKind.i64.wrap (j-1)) (F0 _)) λW b=>?_
 refine ifB b (λH b=>?_) λH b=>?_
 ·obtain rfl:=oJ b
  exact aI rfl (Sub.refl _)
 ·obtain⟨s,F,b⟩:=B0 b
  refine eX { vars:=[1,8],boxes:=[],owns:=[],fuel:=true } (eX (λvs os h'=>∃ g c,vs.tail = [.int .i64 g,.int .i64 c]/\os = []/\Sub h h'/\I0 g/\I0 c/\w7 e m j n (C1 vs) g c=some s) (eX (λ_ _=>0) (aI (eX P0 ⟨d,0,rfl,rfl,(Sub.refl _),x,(by decide),F⟩) ?_)))
  rintro _ _ i O ⟨g,c,⟨⟩,⟨⟩,f,J,N,a⟩
  replace a:w7 e m j n i g c=some s:=a
  obtain _|i:=i
  ·cases a
  rw[w7.eq_2]at a
  refine ifB a (λI a=>?_) λI a=>?_
  ·refine Or.inl (aI (aI (by kernel_rfl) (by kernel_rfl)) ?_)
   refine ldI a (K0.mono f A) λV K a=>?_
   obtain⟨p,E,a⟩:=B0 a
   refine eX (.int .i64 p) (aI (e00 _ _ _ (j0 u w (N0.mono f o)) _ J _ K _  E) ?_)
   obtain⟨T,D,a⟩:=B0 a
   have L:I0 p:=T0 D
   refine ifB a (λG a=>?_) λG a=>?_
   ·obtain rfl:=oJ a
    try dsimp only[N3,O3]at b
    obtain rfl:=oJ b
    exact aI rfl f
   ·exact D1 i ⟨p,(IntKind.i64.wrap (c+1)),rfl,rfl,f,L,(F0 _),a⟩
  ·obtain rfl:=oJ a
   try dsimp only[M0,O0]at b
   obtain rfl:=oJ b
   exact aI rfl f
theorem m0d(h:Hp)(t:List Value)(A:l0)(T:C0.R h t A)(g:Int)(aa:I0 g)(i:Int)(ab:I0 i)(r:D0)(c:F01 A g i=some r):
  Tr Tryz.prog 269 #[.agg t.toArray,.int .i64 g,.int .i64 i] h λv h'=>∃(q:Option Addr) (z s:Nat),v = .slice q z s/\New K0 h h' [.slice q z s] r:=by
 obtain⟨Q,S,E,ak,G,o,rfl,rfl,Y,Z,D⟩:=H0 T
 obtain⟨rfl,ah⟩:=Sl.len D
 unfold F01 at c
 dsimp only at c
 refine V1 (args:=[.agg #[.int .i64 Q,.int .i64 S,.slice E o.length G],.int .i64 g,.int .i64 i]) (fn:=Tryz.f269) rfl ?_
 obtain⟨p,M,c⟩:=B0 c
 refine eX { vars:=[14],boxes:=[],owns:=[0],fuel:=true } (eX (λvs os h'=>∃ d j e,vs.tail = [.int .i64 d]/\os = [j]/\Sub h h'/\I0 d/\F2 (Wp.int.R h') j e/\S4 o i g (C1 vs) d e=some p) (eX (λ_ _=>0) (aI (eX P0 ⟨0,[],([]:D0),rfl,rfl,(Sub.refl _),(by decide),(show F2 (Wp.int.R h) ([]:List (List Value)) ([]:D0) from trivial),M⟩) ?_)))
 rintro _ j f n ⟨d,az,e,⟨⟩,⟨⟩,m,ac,b,a⟩
 replace a:S4 o i g f d e=some p:=a
 obtain _|f:=f
 ·cases a
 rw[S4.eq_2]at a
 refine ifB a (λO a=>?_) λO a=>?_
 ·refine ld a (N0.mono m D) λax W U a=>?_
  obtain⟨k,ay,l,rfl,rfl,x,ad,y⟩:=D2 U
  try dsimp only at a
  refine ifB a (λP a=>?_) λP a=>?_
  ·obtain⟨an,L,a⟩:=B0 a
   refine aI (Z0 L (by first|rw[F2.length b,F2.length (show F2 (Wp.int.R n) ([[.int .i64 l]]:List (List Value)) [l] from⟨⟨rfl,y⟩,trivial⟩)]|exact congrArg (·+1) (F2.length b))) ?_
   exact D1 f ⟨(IntKind.i64.wrap (d+1)),(j++([[.int .i64 l]]:List (List Value))),(e ++ [l]),rfl,rfl,m,(F0 _),(F2.append b (show F2 (Wp.int.R n) ([[.int .i64 l]]:List (List Value)) [l] from⟨⟨rfl,y⟩,trivial⟩)),a⟩
  ·refine ifB a (λN a=>?_) λN a=>?_
   ·obtain⟨al,J,a⟩:=B0 a
    refine aI (Z0 J (by first|rw[F2.length b,F2.length (show F2 (Wp.int.R n) ([[.int .i64 k]]:List (List Value)) [k] from⟨⟨rfl,x⟩,trivial⟩)]|exact congrArg (·+1) (F2.length b))) ?_
    exact D1 f ⟨(IntKind.i64.wrap (d+1)),(j++([[.int .i64 k]]:List (List Value))),(e ++ [k]),rfl,rfl,m,(F0 _),(F2.append b (show F2 (Wp.int.R n) ([[.int .i64 k]]:List (List Value)) [k] from⟨⟨rfl,x⟩,trivial⟩)),a⟩
   ·exact D1 f ⟨(IntKind.i64.wrap (d+1)),j,e,rfl,rfl,m,(F0 _),b,a⟩
 ·obtain rfl:=oJ a
  try dsimp only[M0,O0]at c
  refine Or.inl ?_
  intro au ae I
  obtain⟨am,K,c⟩:=B0 c
  refine Tr.mono (H0m _ I b (T0 K)) ?_
  rintro _ af ⟨rfl,av,u,B⟩
  obtain⟨V,X,rfl,ao,aq,ai⟩:=S0.out (r:=Wp.int.toRp) u B
  refine Tr.mono (I0m _ u B) ?_
  rintro _ ag ⟨aw,w,C⟩
  obtain⟨F,H,rfl,ap,ar,aj⟩:=S0.out (r:=Wp.int.toRp) w C
  obtain rfl:=oJ c
  exact⟨F,((k04 eqI (h07 Z9 e))).length,H,rfl,(New.from (S0.newPlain (r:=Wp.int) w C (W01 _)) m)⟩
theorem C02(h:Hp)(d:List Value)(e:l0)(x:C0.R h d e)(b:Int)(p:I0 b)(c:Int)(q:I0 c)(r:Int)(a:A7 e b c=some r):
  Tr Tryz.prog 225 #[.agg d.toArray,.int .i64 b,.int .i64 c] h λv h'=>v = .int .i64 r/\h'=h:=by
 obtain⟨t,u,k,D,l,w,rfl,rfl,n,o,f⟩:=H0 x
 obtain⟨rfl,B⟩:=Sl.len f
 unfold A7 at a
 dsimp only at a
 refine Tr.forget (V1 (args:=[.agg #[.int .i64 t,.int .i64 u,.slice k w.length l],.int .i64 b,.int .i64 c]) (fn:=Tryz.f225) rfl ?_)
 refine trM a (m0d _ _ _ (j0 n o f) _ p _ q) ?_
 rintro G a F s ⟨y,E,z,rfl,j⟩
 have i:Sub h s:=j.sub
 have g:=j.r
 obtain⟨rfl,C⟩:=Sl.len g
 refine ifB a (λm a=>?_) λm a=>?_
 ·obtain rfl:=oJ a
  exact aI rfl i
 ·refine ldI a g λH A a=>?_
  obtain rfl:=oJ a
  exact aI rfl i
theorem Y00(h:Hp)(o:List Value)(p:l0)(P:C0.R h o p)(r:Bool)(c:O6 p=some r):
  Tr Tryz.prog 141 #[.agg o.toArray] h λv h'=>v = .bool r/\h'=h:=by
 obtain⟨M,N,x,ak,y,l,rfl,rfl,J,K,j⟩:=H0 P
 obtain⟨rfl,ai⟩:=Sl.len j
 unfold O6 at c
 dsimp only at c
 refine Tr.forget (V1 (args:=[.agg #[.int .i64 M,.int .i64 N,.slice x l.length y]]) (fn:=Tryz.f141) rfl ?_)
 refine trV c (g04 _ _ _ (j0 J K j)) λal c=>?_
 refine ifB c (λG c=>?_) λG c=>?_
 ·obtain rfl:=oJ c
  exact aI rfl (Sub.refl _)
 ·obtain⟨n,D,c⟩:=B0 c
  refine eX { vars:=[13],boxes:=[],owns:=[],fuel:=true } (eX (λvs os h'=>∃ e,vs.tail = [.int .i64 e]/\os = []/\Sub h h'/\I0 e/\C7 l (C1 vs) e=some n) (eX (λ_ _=>0) (aI (eX P0 ⟨0,rfl,rfl,(Sub.refl _),(by decide),D⟩) ?_)))
  rintro _ i L ⟨e,⟨⟩,⟨⟩,f,aa,a⟩
  replace a:C7 l i e=some n:=a
  obtain _|i:=i
  ·cases a
  rw[C7.eq_2]at a
  refine ifB a (λH a=>?_) λH a=>?_
  ·refine ld a (N0.mono f j) λaq X S a=>?_
   obtain⟨s,t,u,rfl,rfl,ae,af,ag⟩:=D2 S
   try dsimp only at a
   obtain⟨w,B,a⟩:=B0 a
   obtain⟨O,T,z,A⟩:=Sl.cutI (r:=M1.toRp) (N0.mono f j) B
   refine aI O (eX T (aI z ?_))
   intro U I _
   obtain⟨V,Y,rfl,q⟩:=A U I
   have aj:=(Sl.len q).2
   obtain⟨m,C,a⟩:=B0 a
   refine eX { vars:=[24],boxes:=[],owns:=[],fuel:=true } (eX (λvs os h'=>∃ d,vs.tail = [.int .i64 d]/\os = []/\Sub L h'/\I0 d/\B7 w t s u (C1 vs) d=some m) (eX (λ_ _=>0) (aI (eX P0 ⟨0,rfl,rfl,(Sub.refl _),(by decide),C⟩) ?_)))
   rintro _ g ah ⟨d,⟨⟩,⟨⟩,k,Z,b⟩
   replace b:B7 w t s u g d=some m:=b
   obtain _|g:=g
   ·cases b
   rw[B7.eq_2]at b
   refine ifB b (λE b=>?_) λE b=>?_
   ·refine ld b (N0.mono k q) λam W Q b=>?_
    obtain⟨an,ao,ap,rfl,rfl,ab,ac,ad⟩:=D2 Q
    try dsimp only at b
    refine ifB b (λF b=>?_) λF b=>?_
    ·obtain rfl:=oJ b
     try dsimp only[N3,O3]at a
     obtain rfl:=oJ a
     try dsimp only[N3,O3]at c
     obtain rfl:=oJ c
     exact aI rfl (f.trans k)
    ·exact D1 g ⟨(IntKind.i64.wrap (d+1)),rfl,rfl,k,(F0 _),b⟩
   ·obtain rfl:=oJ b
    try dsimp only[M0,O0]at a
    exact D1 i ⟨(IntKind.i64.wrap (e+1)),rfl,rfl,(f.trans k),(F0 _),a⟩
  ·obtain rfl:=oJ a
   try dsimp only[M0,O0]at c
   obtain rfl:=oJ c
   exact aI rfl f
theorem F5(h:Hp)(d:List Value)(f:l0)(u:C0.R h d f)(r:l0)(a:W3 f=some r):
  Tr Tryz.prog 120 #[.agg d.toArray] h λv h'=>∃(c:List Value),v = .agg c.toArray/\New C0 h h' c r:=by
 obtain⟨g,i,l,A,n,j,rfl,rfl,s,t,k⟩:=H0 u
 obtain⟨rfl,y⟩:=Sl.len k
 unfold W3 at a
 dsimp only at a
 refine V1 (args:=[.agg #[.int .i64 g,.int .i64 i,.slice l j.length n]]) (fn:=Tryz.f120) rfl ?_
 refine Or.inr (Or.inr (Or.inl (aI (aI (by kernel_rfl) (by kernel_rfl)) ?_)))
 refine Or.inr ?_
 refine Or.inr ?_
 refine Or.inr ?_
 refine Or.inr ?_
 refine Or.inl (eX 0 (aI (aI rfl rfl) ?_))
 refine aT ?_
 obtain⟨w,p,b⟩:=Sl.rows (r:=M1.toRp) k
 refine eX w (aI p ?_)
 obtain⟨B,q,a⟩:=B0 a
 refine aI (Z0 q (by first|rw[F2.length (show F2 (M1.R h) ([]:List (List Value)) ([]:Y0) from trivial),F2.length b]|exact congrArg (·+1) (F2.length (show F2 (M1.R h) ([]:List (List Value)) ([]:Y0) from trivial)))) ?_
 refine aT ?_
 refine aT ?_
 refine aT ?_
 intro E x e
 obtain⟨m,o,rfl,C,D,z⟩:=S0.out (r:=M1.toRp) e (F2.append (show F2 (M1.R h) ([]:List (List Value)) ([]:Y0) from trivial) b)
 obtain rfl:=oJ a
 exact⟨([.int .i64 g,.int .i64 i,.slice m ((([]:Y0)++j)).length o]),rfl,(New.pair (New.int s) (New.pair (New.int t) (S0.newPlain (r:=M1) e (F2.append (show F2 (M1.R h) ([]:List (List Value)) ([]:Y0) from trivial) b) (m09 _))))⟩
theorem t00(h:Hp)(H:Option Addr)(ad I:Nat)(F:Y0)(q:N0.R h [.slice H ad I] F)(M:List Value)(ae:Q0)(aH:M1.R h M ae)(r:Y0)(g:Q6 F ae=some r):
  Tr Tryz.prog 193 #[.slice H ad I,.agg M.toArray] h λv h'=>∃(K:Option Addr) (ac L:Nat),v = .slice K ac L/\New N0 h h' [.slice K ac L] r:=by
 obtain⟨rfl,aY⟩:=Sl.len q
 obtain⟨b,c,d,rfl,rfl,i,j,k⟩:=D2 aH
 unfold Q6 at g
 dsimp only at g
 refine V1 (args:=[.slice H F.length I,.agg #[.int .i64 b,.int .i64 c,.int .i64 d]]) (fn:=Tryz.f193) rfl ?_
 obtain⟨J,ay,g⟩:=B0 g
 refine eX { vars:=[6,7],boxes:=[],owns:=[0],fuel:=true } (eX (λvs os h'=>∃ G n p m,vs.tail = [.bool G,.int .i64 n]/\os = [p]/\Sub h h'/\I0 n/\F2 (M1.R h') p m/\N4 F b c d (C1 vs) G n m=some J) (eX (λ_ _=>0) (aI (eX P0 ⟨false,0,[],([]:Y0),rfl,rfl,(Sub.refl _),(by decide),(show F2 (M1.R h) ([]:List (List Value)) ([]:Y0) from trivial),ay⟩) ?_)))
 rintro _ _ p o f ⟨G,n,bo,m,⟨⟩,⟨⟩,l,aU,e,a⟩
 replace a:N4 F b c d o G n m=some J:=a
 obtain _|o:=o
 ·cases a
 rw[N4.eq_2]at a
 refine ifB a (λaD a=>?_) λaD a=>?_
 ·refine Or.inl (aI (aI (by kernel_rfl) (by kernel_rfl)) ?_)
  refine ld a (N0.mono l q) λbn aS aN a=>?_
  obtain⟨af,ag,ah,rfl,rfl,aE,aF,aG⟩:=D2 aN
  try dsimp only at a
  obtain⟨ai,ax,a⟩:=B0 a
  refine eX (.int .i64 ai) (aI (k05 _ [.int .i64 b,.int .i64 c,.int .i64 d] (b,c,d) (E1 i j k) [.int .i64 af,.int .i64 ag,.int .i64 ah] (af,ag,ah) (E1 aE aF aG) _  ax) ?_)
  obtain⟨a1,an,a⟩:=B0 a
  have aV:I0 ai:=T0 an
  refine ifB a (λaz a=>?_) λaz a=>?_
  ·refine ifB a (λaA a=>?_) λaA a=>?_
   ·obtain⟨a2,ao,a⟩:=B0 a
    refine aI (Z0 ao (by first|rw[F2.length e,F2.length (show F2 (M1.R f) ([[.int .i64 b,.int .i64 c,.int .i64 d]]:List (List Value)) [(b,c,d)] from⟨(E1 i j k),trivial⟩)]|exact congrArg (·+1) (F2.length e))) ?_
    refine ld a (N0.mono l q) λbj aO aJ a=>?_
    obtain⟨s,t,u,rfl,rfl,P,Q,S⟩:=D2 aJ
    try dsimp only at a
    obtain⟨a3,ap,a⟩:=B0 a
    refine aI (Z0 ap (by first|rw[F2.length (F2.append e (show F2 (M1.R f) ([[.int .i64 b,.int .i64 c,.int .i64 d]]:List (List Value)) [(b,c,d)] from⟨(E1 i j k),trivial⟩)),F2.length (show F2 (M1.R f) ([[.int .i64 s,.int .i64 t,.int .i64 u]]:List (List Value)) [(s,t,u)] from⟨(E1 P Q S),trivial⟩)]|exact congrArg (·+1) (F2.length (F2.append e (show F2 (M1.R f) ([[.int .i64 b,.int .i64 c,.int .i64 d]]:List (List Value)) [(b,c,d)] from⟨(E1 i j k),trivial⟩))))) ?_
    exact D1 o ⟨true,(IntKind.i64.wrap (n+1)),((p++([[.int .i64 b,.int .i64 c,.int .i64 d]]:List (List Value)))++([[.int .i64 s,.int .i64 t,.int .i64 u]]:List (List Value))),((m ++ [(b,c,d)]) ++ [(s,t,u)]),rfl,rfl,l,(F0 _),(F2.append (F2.append e (show F2 (M1.R f) ([[.int .i64 b,.int .i64 c,.int .i64 d]]:List (List Value)) [(b,c,d)] from⟨(E1 i j k),trivial⟩)) (show F2 (M1.R f) ([[.int .i64 s,.int .i64 t,.int .i64 u]]:List (List Value)) [(s,t,u)] from⟨(E1 P Q S),trivial⟩)),a⟩
   ·refine ld a (N0.mono l q) λbk aP aK a=>?_
    obtain⟨w,x,y,rfl,rfl,T,U,V⟩:=D2 aK
    try dsimp only at a
    obtain⟨a4,aq,a⟩:=B0 a
    refine aI (Z0 aq (by first|rw[F2.length e,F2.length (show F2 (M1.R f) ([[.int .i64 w,.int .i64 x,.int .i64 y]]:List (List Value)) [(w,x,y)] from⟨(E1 T U V),trivial⟩)]|exact congrArg (·+1) (F2.length e))) ?_
    exact D1 o ⟨true,(IntKind.i64.wrap (n+1)),(p++([[.int .i64 w,.int .i64 x,.int .i64 y]]:List (List Value))),(m ++ [(w,x,y)]),rfl,rfl,l,(F0 _),(F2.append e (show F2 (M1.R f) ([[.int .i64 w,.int .i64 x,.int .i64 y]]:List (List Value)) [(w,x,y)] from⟨(E1 T U V),trivial⟩)),a⟩
  ·refine ifB a (λaB a=>?_) λaB a=>?_
   ·obtain⟨a5,ar,a⟩:=B0 a
    refine aI (Z0 ar (by first|rw[F2.length e,F2.length (show F2 (M1.R f) ([[.int .i64 b,.int .i64 c,.int .i64 d]]:List (List Value)) [(b,c,d)] from⟨(E1 i j k),trivial⟩)]|exact congrArg (·+1) (F2.length e))) ?_
    refine ld a (N0.mono l q) λbl aQ aL a=>?_
    obtain⟨z,A,B,rfl,rfl,W,X,Y⟩:=D2 aL
    try dsimp only at a
    obtain⟨ba,au,a⟩:=B0 a
    refine aI (Z0 au (by first|rw[F2.length (F2.append e (show F2 (M1.R f) ([[.int .i64 b,.int .i64 c,.int .i64 d]]:List (List Value)) [(b,c,d)] from⟨(E1 i j k),trivial⟩)),F2.length (show F2 (M1.R f) ([[.int .i64 z,.int .i64 A,.int .i64 B]]:List (List Value)) [(z,A,B)] from⟨(E1 W X Y),trivial⟩)]|exact congrArg (·+1) (F2.length (F2.append e (show F2 (M1.R f) ([[.int .i64 b,.int .i64 c,.int .i64 d]]:List (List Value)) [(b,c,d)] from⟨(E1 i j k),trivial⟩))))) ?_
    exact D1 o ⟨true,(IntKind.i64.wrap (n+1)),((p++([[.int .i64 b,.int .i64 c,.int .i64 d]]:List (List Value)))++([[.int .i64 z,.int .i64 A,.int .i64 B]]:List (List Value))),((m ++ [(b,c,d)]) ++ [(z,A,B)]),rfl,rfl,l,(F0 _),(F2.append (F2.append e (show F2 (M1.R f) ([[.int .i64 b,.int .i64 c,.int .i64 d]]:List (List Value)) [(b,c,d)] from⟨(E1 i j k),trivial⟩)) (show F2 (M1.R f) ([[.int .i64 z,.int .i64 A,.int .i64 B]]:List (List Value)) [(z,A,B)] from⟨(E1 W X Y),trivial⟩)),a⟩
   ·refine ld a (N0.mono l q) λbm aR aM a=>?_
    obtain⟨C,D,E,rfl,rfl,Z,aa,ab⟩:=D2 aM
    try dsimp only at a
    obtain⟨bb,av,a⟩:=B0 a
    refine aI (Z0 av (by first|rw[F2.length e,F2.length (show F2 (M1.R f) ([[.int .i64 C,.int .i64 D,.int .i64 E]]:List (List Value)) [(C,D,E)] from⟨(E1 Z aa ab),trivial⟩)]|exact congrArg (·+1) (F2.length e))) ?_
    exact D1 o ⟨G,(IntKind.i64.wrap (n+1)),(p++([[.int .i64 C,.int .i64 D,.int .i64 E]]:List (List Value))),(m ++ [(C,D,E)]),rfl,rfl,l,(F0 _),(F2.append e (show F2 (M1.R f) ([[.int .i64 C,.int .i64 D,.int .i64 E]]:List (List Value)) [(C,D,E)] from⟨(E1 Z aa ab),trivial⟩)),a⟩
 ·obtain rfl:=oJ a
  try dsimp only[M0,O0]at g
  refine ifB g (λaC g=>?_) λaC g=>?_
  ·obtain⟨bc,aw,g⟩:=B0 g
   refine aI (Z0 aw (by first|rw[F2.length e,F2.length (show F2 (M1.R f) ([[.int .i64 b,.int .i64 c,.int .i64 d]]:List (List Value)) [(b,c,d)] from⟨(E1 i j k),trivial⟩)]|exact congrArg (·+1) (F2.length e))) ?_
   intro bh aW N
   obtain⟨aj,al,rfl,bd,bf,aZ⟩:=S0.out (r:=M1.toRp) N (F2.append e (show F2 (M1.R f) ([[.int .i64 b,.int .i64 c,.int .i64 d]]:List (List Value)) [(b,c,d)] from⟨(E1 i j k),trivial⟩))
   obtain rfl:=oJ g
   exact⟨aj,((m ++ [(b,c,d)])).length,al,rfl,(New.from (S0.newPlain (r:=M1) N (F2.append e (show F2 (M1.R f) ([[.int .i64 b,.int .i64 c,.int .i64 d]]:List (List Value)) [(b,c,d)] from⟨(E1 i j k),trivial⟩)) (m09 _)) l)⟩
  ·intro bi aX O
   obtain⟨ak,am,rfl,be,bg,a0⟩:=S0.out (r:=M1.toRp) O e
   obtain rfl:=oJ g
   exact⟨ak,m.length,am,rfl,(New.from (S0.newPlain (r:=M1) O e (m09 _)) l)⟩
theorem h08(h:Hp)(l:List Value)(m:l0)(z:C0.R h l m)(g:Int)(I:I0 g)(r:Int)(f:i00 m g=some r):
  Tr Tryz.prog 257 #[.agg l.toArray,.int .i64 g] h λv h'=>v = .int .i64 r/\h'=h:=by
 obtain⟨x,y,n,W,o,j,rfl,rfl,G,H,i⟩:=H0 z
 obtain⟨rfl,V⟩:=Sl.len i
 unfold i00 at f
 dsimp only at f
 refine Tr.forget (V1 (args:=[.agg #[.int .i64 x,.int .i64 y,.slice n j.length o],.int .i64 g]) (fn:=Tryz.f257) rfl ?_)
 obtain⟨k,p,f⟩:=B0 f
 refine eX { vars:=[5,6],boxes:=[],owns:=[],fuel:=true } (eX (λvs os h'=>∃ b c,vs.tail = [.int .i64 b,.int .i64 c]/\os = []/\Sub h h'/\I0 b/\I0 c/\T3 j g (C1 vs) b c=some k) (eX (λ_ _=>0) (aI (eX P0 ⟨0,0,rfl,rfl,(Sub.refl _),(by decide),(by decide),p⟩) ?_)))
 rintro _ _ e U ⟨b,c,⟨⟩,⟨⟩,d,w,J,a⟩
 replace a:T3 j g e b c=some k:=a
 obtain _|e:=e
 ·cases a
 rw[T3.eq_2]at a
 refine ifB a (λt a=>?_) λt a=>?_
 ·refine ld a (N0.mono d i) λab E B a=>?_
  obtain⟨ac,ad,ae,rfl,rfl,N,O,P⟩:=D2 B
  try dsimp only at a
  refine ifB a (λu a=>?_) λu a=>?_
  ·refine ld a (N0.mono d i) λaf F C a=>?_
   obtain⟨ag,ah,ai,rfl,rfl,Q,S,T⟩:=D2 C
   try dsimp only at a
   refine ifB a (λq a=>?_) λq a=>?_
   ·exact D1 e ⟨(IntKind.i64.wrap ((IntKind.i64.wrap (b+1))+1)),(IntKind.i64.wrap (c+1)),rfl,rfl,d,(F0 _),(F0 _),a⟩
   ·exact D1 e ⟨(IntKind.i64.wrap (b+1)),(IntKind.i64.wrap (c+1)),rfl,rfl,d,(F0 _),(F0 _),a⟩
  ·refine ld a (N0.mono d i) λX D A a=>?_
   obtain⟨Y,Z,aa,rfl,rfl,K,L,M⟩:=D2 A
   try dsimp only at a
   refine ifB a (λs a=>?_) λs a=>?_
   ·exact D1 e ⟨(IntKind.i64.wrap (b+1)),(IntKind.i64.wrap (c+1)),rfl,rfl,d,(F0 _),(F0 _),a⟩
   ·exact D1 e ⟨b,(IntKind.i64.wrap (c+1)),rfl,rfl,d,w,(F0 _),a⟩
 ·obtain rfl:=oJ a
  try dsimp only[M0,O0]at f
  obtain rfl:=oJ f
  exact aI rfl d
theorem A9(h:Hp)(j:List Value)(l:l0)(D:C0.R h j l)(k:List Value)(m:l0)(E:C0.R h k m)(r:Bool)(b:T4 l m=some r):
  Tr Tryz.prog 38 #[.agg j.toArray,.agg k.toArray] h λv h'=>v = .bool r/\h'=h:=by
 obtain⟨z,A,p,ae,s,f,rfl,rfl,P,Q,n⟩:=H0 D
 obtain⟨rfl,ac⟩:=Sl.len n
 obtain⟨B,C,q,af,t,g,rfl,rfl,S,T,o⟩:=H0 E
 obtain⟨rfl,ad⟩:=Sl.len o
 unfold T4 at b
 dsimp only at b
 refine Tr.forget (V1 (args:=[.agg #[.int .i64 z,.int .i64 A,.slice p f.length s],.agg #[.int .i64 B,.int .i64 C,.slice q g.length t]]) (fn:=Tryz.f38) rfl ?_)
 refine ifB b (λw b=>?_) λw b=>?_
 ·obtain rfl:=oJ b
  exact aI rfl (Sub.refl _)
 ·obtain⟨i,u,b⟩:=B0 b
  refine eX { vars:=[5],boxes:=[],owns:=[],fuel:=true } (eX (λvs os h'=>∃ c,vs.tail = [.int .i64 c]/\os = []/\Sub h h'/\I0 c/\t6 f g (C1 vs) c=some i) (eX (λ_ _=>0) (aI (eX P0 ⟨0,rfl,rfl,(Sub.refl _),(by decide),u⟩) ?_)))
  rintro _ e ab ⟨c,⟨⟩,⟨⟩,d,U,a⟩
  replace a:t6 f g e c=some i:=a
  obtain _|e:=e
  ·cases a
  rw[t6.eq_2]at a
  refine ifB a (λx a=>?_) λx a=>?_
  ·refine Or.inl (aI (aI (by kernel_rfl) (by kernel_rfl)) ?_)
   refine ld a (N0.mono d n) λag N F a=>?_
   obtain⟨H,I,J,rfl,rfl,V,W,X⟩:=D2 F
   try dsimp only at a
   refine ld a (N0.mono d o) λah O G a=>?_
   obtain⟨K,L,M,rfl,rfl,Y,Z,aa⟩:=D2 G
   try dsimp only at a
   refine eX (!eqE (H,I,J) (K,L,M)) (aI (r0j _ _ _ rfl _ _ _ _ _ _) ?_)
   refine ifB a (λy a=>?_) λy a=>?_
   ·obtain rfl:=oJ a
    try dsimp only[N3,O3]at b
    obtain rfl:=oJ b
    exact aI rfl d
   ·exact D1 e ⟨(IntKind.i64.wrap (c+1)),rfl,rfl,d,(F0 _),a⟩
  ·obtain rfl:=oJ a
   try dsimp only[M0,O0]at b
   obtain rfl:=oJ b
   exact aI rfl d
theorem W0a(h:Hp)(Q:List Value)(U:l0)(ax:C0.R h Q U)(g:Int)(S:I0 g)(r:D0)(c:H00 U g=some r):
  Tr Tryz.prog 282 #[.agg Q.toArray,.int .i64 g] h λv h'=>∃(M:Option Addr) (T O:Nat),v = .slice M T O/\K0.R h' [.slice M T O] r/\Sub h h':=by
 obtain⟨E,w,N,aZ,P,k,rfl,rfl,au,av,F⟩:=H0 ax
 obtain⟨rfl,aQ⟩:=Sl.len F
 unfold H00 at c
 dsimp only at c
 refine V1 (args:=[.agg #[.int .i64 E,.int .i64 w,.slice N k.length P],.int .i64 g]) (fn:=Tryz.f282) rfl ?_
 refine trV c (N6 _ [.int .i64 E,.int .i64 w,.slice N k.length P] (E,w,k) (j0 au av F)) λbc c=>?_
 refine trG c (λq=>E3 _ g S 0 (by decide) (IntKind.i64.wrap (w-1)) (F0 _)) λbd c=>?_
 refine ifB c (λap c=>?_) λap c=>?_
 ·intro ba aO aj
  obtain⟨ad,ah,rfl,aA,aE,aY⟩:=S0.out (r:=Wp.int.toRp) aj (show F2 (Wp.int.R h) ([]:List (List Value)) ([]:D0) from trivial)
  obtain rfl:=oJ c
  exact⟨ad,(([]:D0)).length,ah,rfl,aA,aE⟩
 ·obtain⟨K,ak,c⟩:=B0 c
  refine eX { vars:=[5,6],boxes:=[],owns:=[],fuel:=true,pubs:=[5,22] } (eX (λvs os h'=>∃(s:Option Addr) (C t:Nat) (m:D0) (o:Int),vs.tail = [.slice s C t,.int .i64 o]/\os = []/\Sub h h'/\K0.R h' [.slice s C t] m/\I0 o/\J5 k (C1 vs) m o=some K) (eX (λ_ _=>0) ?_))
  intro bb aP ai
  obtain⟨ac,ag,rfl,az,aD,aX⟩:=S0.out (r:=Wp.int.toRp) ai (show F2 (Wp.int.R h) ([[.int .i64 g]]:List (List Value)) [g] from⟨⟨rfl,S⟩,trivial⟩)
  refine aI (eX P0 ⟨ac,([g]).length,ag,[g],0,rfl,rfl,aD,az,(by decide),ak⟩) ?_
  rintro _ _ u aw ⟨s,C,t,m,o,⟨⟩,⟨⟩,H,G,aG,d⟩
  replace d:J5 k u m o=some K:=d
  obtain _|u:=u
  ·cases d
  rw[J5.eq_2]at d
  obtain⟨rfl,aR⟩:=Sl.len G
  refine ifB d (λam d=>?_) λam d=>?_
  ·obtain⟨L,al,d⟩:=B0 d
   refine eX { vars:=[5,7],boxes:=[],owns:=[],fuel:=true } (eX (λvs os h'=>∃ e D f b i,vs.tail = [.slice e D f,.int .i64 i]/\os = []/\Sub aw h'/\K0.R h' [.slice e D f] b/\I0 i/\S3 k (C1 vs) b i=some L) (eX (λ_ _=>0) (aI (eX P0 ⟨s,m.length,t,m,0,rfl,rfl,(Sub.refl _),G,(by decide),al⟩) ?_)))
   rintro _ _ j aK ⟨e,D,f,b,i,⟨⟩,⟨⟩,n,l,aH,a⟩
   replace a:S3 k j b i=some L:=a
   obtain _|j:=j
   ·cases a
   rw[S3.eq_2]at a
   obtain⟨rfl,aS⟩:=Sl.len l
   refine ifB a (λan a=>?_) λan a=>?_
   ·refine ld a (N0.mono (H.trans n) F) λbe aF ay a=>?_
    obtain⟨I,bf,J,rfl,rfl,A,aJ,B⟩:=D2 ay
    try dsimp only at a
    refine trV a (h03 _ e b.length f b l I A) λbg a=>?_
    refine ifB a (λao a=>?_) λao a=>?_
    ·refine trM a (g03 _ e b.length f b l J B) ?_
     rintro p a a3 aL ⟨y,a0,z,rfl,x,X⟩
     obtain⟨rfl,aU⟩:=Sl.len x
     refine trV a (h03 _ y p.length z p x J B) λbh a=>?_
     refine ifB a (λaq a=>?_) λaq a=>?_
     ·refine trM a (g03 _ y p.length z p x I A) ?_
      rintro Y a a4 aM ⟨aa,a1,ae,rfl,V,aB⟩
      obtain⟨rfl,aV⟩:=Sl.len V
      exact D1 j ⟨aa,Y.length,ae,Y,(IntKind.i64.wrap (i+1)),rfl,rfl,((n.trans X).trans aB),V,(F0 _),a⟩
     ·exact D1 j ⟨y,p.length,z,p,(IntKind.i64.wrap (i+1)),rfl,rfl,(n.trans X),x,(F0 _),a⟩
    ·refine trV a (h03 _ e b.length f b l J B) λbi a=>?_
     refine ifB a (λar a=>?_) λar a=>?_
     ·refine trM a (g03 _ e b.length f b l I A) ?_
      rintro Z a a5 aN ⟨ab,a2,af,rfl,W,aC⟩
      obtain⟨rfl,aW⟩:=Sl.len W
      exact D1 j ⟨ab,Z.length,af,Z,(IntKind.i64.wrap (i+1)),rfl,rfl,(n.trans aC),W,(F0 _),a⟩
     ·exact D1 j ⟨e,b.length,f,b,(IntKind.i64.wrap (i+1)),rfl,rfl,n,l,(F0 _),a⟩
   ·obtain rfl:=oJ a
    try dsimp only[M0,O0]at d
    exact D1 u ⟨e,b.length,f,b,(IntKind.i64.wrap (o+1)),rfl,rfl,(H.trans n),l,(F0 _),d⟩
  ·obtain rfl:=oJ d
   try dsimp only[M0,O0]at c
   obtain rfl:=oJ c
   exact⟨s,m.length,t,rfl,G,H⟩
theorem u0a(h:Hp)(n:List Value)(t:l0)(F:C0.R h n t)(r:Int)(b:w02 t=some r):
  Tr Tryz.prog 260 #[.agg n.toArray] h λv h'=>v = .int .i64 r/\h'=h:=by
 obtain⟨g,i,w,L,y,j,rfl,rfl,o,p,k⟩:=H0 F
 obtain⟨rfl,J⟩:=Sl.len k
 unfold w02 at b
 dsimp only at b
 refine Tr.forget (V1 (args:=[.agg #[.int .i64 g,.int .i64 i,.slice w j.length y]]) (fn:=Tryz.f260) rfl ?_)
 refine trM b (W0a _ _ _ (j0 o p k) 0 (by decide)) ?_
 rintro f b O E ⟨x,M,z,rfl,u,l⟩
 obtain⟨rfl,K⟩:=Sl.len u
 obtain⟨m,B,b⟩:=B0 b
 refine eX { vars:=[4],boxes:=[],owns:=[],fuel:=true } (eX (λvs os h'=>∃ c,vs.tail = [.int .i64 c]/\os = []/\Sub E h'/\I0 c/\Z8 i g j f (C1 vs) c=some m) (eX (λ_ _=>0) (aI (eX P0 ⟨1,rfl,rfl,(Sub.refl _),(by decide),B⟩) ?_)))
 rintro _ e I ⟨c,⟨⟩,⟨⟩,d,s,a⟩
 replace a:Z8 i g j f e c=some m:=a
 obtain _|e:=e
 ·cases a
 rw[Z8.eq_2]at a
 refine ifB a (λD a=>?_) λD a=>?_
 ·refine trV a (h08 _ _ _ (j0 o p (N0.mono (l.trans d) k)) _ s) λG a=>?_
  obtain⟨N,A,a⟩:=B0 a
  have H:I0 G:=T0 A
  refine trG a (λq=>h03 _ x f.length z f (K0.mono d u) c s) λP a=>?_
  refine ifB a (λC a=>?_) λC a=>?_
  ·obtain rfl:=oJ a
   try dsimp only[N3,O3]at b
   obtain rfl:=oJ b
   exact aI rfl (l.trans d)
  ·exact D1 e ⟨(IntKind.i64.wrap (c+1)),rfl,rfl,d,(F0 _),a⟩
 ·obtain rfl:=oJ a
  try dsimp only[M0,O0]at b
  obtain rfl:=oJ b
  exact aI rfl (l.trans d)
theorem V02(h:Hp)(V:List Value)(aa:l0)(a0:C0.R h V aa)(H:Option Addr)(Z I:Nat)(t:D0)(C:K0.R h [.slice H Z I] t)(r:l0×Bool)(d:w6 aa t=some r):
  Tr Tryz.prog 198 #[.agg V.toArray,.slice H Z I] h λv h'=>∃(U:List Value),v = .tuple #[.agg U.toArray,.bool r.2]/\C0.R h' U r.1/\Sub h h':=by
 obtain⟨s,e,S,bV,T,l,rfl,rfl,A,J,z⟩:=H0 a0
 obtain⟨rfl,bQ⟩:=Sl.len z
 obtain⟨rfl,aZ⟩:=Sl.len C
 unfold w6 at d
 dsimp only at d
 refine V1 (args:=[.agg #[.int .i64 s,.int .i64 e,.slice S l.length T],.slice H t.length I]) (fn:=Tryz.f198) rfl ?_
 refine trV d (N6 _ [.int .i64 s,.int .i64 e,.slice S l.length T] (s,e,l) (j0 A J z)) λb8 d=>?_
 refine ifB d (λaM d=>?_) λaM d=>?_
 ·refine trM d (F5 _ _ _ (j0 A J z)) ?_
  rintro ce d b7 aX ⟨br,rfl,ag⟩
  have bf:Sub h aX:=ag.sub
  have a4:=ag.r
  obtain⟨bl,bm,ak,bX,ar,bn,rfl,rfl,aU,aV,ac⟩:=H0 a4
  obtain⟨rfl,bT⟩:=Sl.len ac
  try dsimp only at d
  obtain rfl:=oJ d
  exact⟨([.int .i64 bl,.int .i64 bm,.slice ak bn.length ar]),rfl,(j0 aU aV ac),bf⟩
 ·obtain⟨bZ,az,d⟩:=B0 d
  refine aI (T0 az) ?_
  obtain⟨Q,aJ,d⟩:=B0 d
  refine eX { vars:=[8],boxes:=[],owns:=[0],fuel:=true,kept:=[0] } (eX (λvs os h'=>∃ u8 E o,vs.tail = [.int .i64 u8]/\os = [E]/\Sub h h'/\I0 u8/\F2 (Wp.int.R h') E o/\O4 t e s l (C1 vs) u8 o=some Q) (eX (λ_ _=>0) (aI (eX P0 ⟨0,(List.replicate e.toNat ([.int .i64 0]:List Value)),(List.replicate e.toNat (0:Int)),rfl,rfl,(Sub.refl _),(by decide),(F2.rep (p:=Wp.int.R h) (a:=[.int .i64 0]) (b:=0) ⟨rfl,(by decide)⟩ (e.toNat)),aJ⟩) ?_)))
  rintro _ E B x ⟨u8,ck,o,⟨⟩,⟨⟩,g,bA,k,c⟩
  replace c:O4 t e s l B u8 o=some Q:=c
  obtain _|B:=B
  ·cases c
  rw[O4.eq_2]at c
  refine ifB c (λaK c=>?_) λaK c=>?_
  ·refine Or.inl (aI (aI (by kernel_rfl) (by kernel_rfl)) ?_)
   refine ldI c (K0.mono g C) λbg aP c=>?_
   obtain⟨bh,aA,c⟩:=B0 c
   refine eX (.bool bh) (aI (E3 _ bg aP 0 (by decide) (IntKind.i64.wrap (e-1)) (F0 _) _  aA) ?_)
   refine ldG c (K0.mono g C) λca bB c=>?_
   obtain⟨cb,aB,c⟩:=B0 c
   obtain⟨bo,W,a1⟩:=B01 k aB (l0a x)
   refine aI (λq=>(W q).1) ?_
   obtain⟨rfl,bC⟩:=a1
   refine eX _ (aI (λq=>(W q).2) ?_)
   refine ifB c (λaL c=>?_) λaL c=>?_
   ·refine trM c (F5 _ _ _ (j0 A J (N0.mono g z))) ?_
    rintro cc c b5 aW ⟨bp,rfl,af⟩
    have be:Sub x aW:=af.sub
    have a2:=af.r
    obtain⟨bi,bj,aj,bW,aq,bk,rfl,rfl,aQ,aR,ab⟩:=H0 a2
    obtain⟨rfl,bS⟩:=Sl.len ab
    try dsimp only at c
    obtain rfl:=oJ c
    try dsimp only[N3,O3]at d
    obtain rfl:=oJ d
    exact⟨([.int .i64 bi,.int .i64 bj,.slice aj bk.length aq]),rfl,(j0 aQ aR ab),(g.trans be)⟩
   ·refine ldI c (K0.mono g C) λN bD c=>?_
    obtain⟨cd,aC,c⟩:=B0 c
    obtain⟨am,bq,av,a3⟩:=I3 k aC
    refine aI am ?_
    obtain⟨rfl,bE⟩:=a3
    refine eX _ (aI av ?_)
    exact D1 B ⟨(IntKind.i64.wrap (u8+1)),(E.set N.toNat [.int .i64 (IntKind.i64.wrap (u8+1))]),(o.set N.toNat (IntKind.i64.wrap (u8+1))),rfl,rfl,g,(F0 _),(F2.set (p:=Wp.int.R x) (a:=[.int .i64 (IntKind.i64.wrap (u8+1))]) (b:=(IntKind.i64.wrap (u8+1))) ⟨rfl,(F0 _)⟩ N.toNat k),c⟩
  ·obtain rfl:=oJ c
   try dsimp only[M0,O0]at d
   obtain⟨P,aH,d⟩:=B0 d
   refine eX { vars:=[9],boxes:=[2],owns:=[],fuel:=true } (eX (λvs os h'=>∃ m i j u M w n,vs.tail = [.int .i64 m,.int .i64 i,.int .i64 j,.slice u M w]/\os = []/\Sub x h'/\I0 m/\I0 i/\I0 j/\N0.R h' [.slice u M w] n/\j4 l o (C1 vs) m i j n=some P) (eX (λ_ _=>0) (aI (eX P0 ⟨0,s,((t.length:Nat):Int),none,0,0,[],rfl,rfl,(Sub.refl _),(by decide),A,(m0f aZ),(m08 M1 x),aH⟩) ?_)))
   rintro _ _ _ _ y Y ⟨m,i,j,u,M,w,n,⟨⟩,⟨⟩,f,bz,K,L,D,c⟩
   replace c:j4 l o y m i j n=some P:=c
   obtain _|y:=y
   ·cases c
   rw[j4.eq_2]at c
   obtain⟨rfl,bR⟩:=Sl.len D
   refine ifB c (λaN c=>?_) λaN c=>?_
   ·refine ld c (N0.mono (g.trans f) z) λcf bs a5 c=>?_
    obtain⟨cg,O,ch,rfl,rfl,bF,aS,bG⟩:=D2 a5
    try dsimp only at c
    obtain⟨ci,aD,c⟩:=B0 c
    obtain⟨an,bt,aw,ba⟩:=I3 (F2.up (r:=Wp.int.toRp) f k) aD
    refine aI an ?_
    obtain⟨rfl,bH⟩:=ba
    refine eX _ (aI aw ?_)
    obtain⟨cj,aE,c⟩:=B0 c
    obtain⟨bu,X,bb⟩:=B01 (F2.up (r:=Wp.int.toRp) f k) aE (l0a Y)
    refine aI (λq=>(X q).1) ?_
    obtain⟨rfl,bI⟩:=bb
    refine eX _ (aI (λq=>(X q).2) ?_)
    refine ifB c (λaO c=>?_) λaO c=>?_
    ·refine Or.inr (Or.inr (Or.inl (aI (aI (by kernel_rfl) (by kernel_rfl)) ?_)))
     obtain⟨F,aF,c⟩:=B0 c
     obtain⟨ao,bv,ax,bc⟩:=I3 (F2.up (r:=Wp.int.toRp) f k) aF
     obtain⟨rfl,bJ⟩:=bc
     refine Or.inl ?_
     apply eX
     refine aI ?_ ?_
     ·intro bL b0
      exact aI ao (aI rfl (aI rfl rfl))
     refine Or.inl (eX (.val (.int .i64 F)) (aI ?_ ?_))
     ·intro bM b1
      exact eX _ (aI ax (aI rfl (aI rfl rfl)))
     obtain⟨G,aG,c⟩:=B0 c
     obtain⟨ap,bx,ay,bd⟩:=I3 (F2.up (r:=Wp.int.toRp) f k) aG
     obtain⟨rfl,bK⟩:=bd
     refine Or.inl ?_
     apply eX
     refine aI ?_ ?_
     ·intro bN b2
      exact aI ap (aI rfl (aI rfl rfl))
     refine Or.inl (eX (.val (.int .i64 G)) (aI ?_ ?_))
     ·intro bO b3
      exact eX _ (aI ay (aI rfl (aI rfl rfl)))
     refine Or.inl (eX (.agg [.val (.int .i64 (IntKind.i64.wrap (F-1))),.val (.int .i64 O),.val (.int .i64 (IntKind.i64.wrap (G-1)))]) (aI ?_ ?_))
     ·intro bP b4
      exact aI rfl (aI rfl rfl)
     refine Or.inr ?_
     refine Or.inr ?_
     refine Or.inl (eX 1 (aI (aI rfl rfl) ?_))
     refine trM c (t00 _ _ _ _ _ D [.int .i64 (IntKind.i64.wrap (F-1)),.int .i64 O,.int .i64 (IntKind.i64.wrap (G-1))] ((IntKind.i64.wrap (F-1)),O,(IntKind.i64.wrap (G-1))) (E1 (F0 _) aS (F0 _))) ?_
     rintro ai c b6 aY ⟨al,bY,au,rfl,ah⟩
     have ae:Sub Y aY:=ah.sub
     have ad:=ah.r
     obtain⟨rfl,bU⟩:=Sl.len ad
     refine aI (aI rfl ae) (aI (by first|exact trivial|exact rfl) ?_)
     refine aT ?_
     exact D1 y ⟨(IntKind.i64.wrap (m+1)),i,j,al,ai.length,au,ai,rfl,rfl,(f.trans ae),(F0 _),K,L,ad,c⟩
    ·exact D1 y ⟨(IntKind.i64.wrap (m+1)),i,j,u,n.length,w,n,rfl,rfl,f,(F0 _),K,L,D,c⟩
   ·obtain rfl:=oJ c
    try dsimp only[M0,O0]at d
    obtain rfl:=oJ d
    exact⟨([.int .i64 i,.int .i64 j,.slice u n.length w]),rfl,(j0 K L D),(g.trans f)⟩
theorem i03(h:Hp)(e:Int)(B:I0 e)(r:D0)(g:R6 e=some r):
  Tr Tryz.prog 127 #[.int .i64 e] h λv h'=>∃(m:Option Addr) (o n:Nat),v = .slice m o n/\K0.R h' [.slice m o n] r/\Sub h h':=by
 unfold R6 at g
 refine V1 (args:=[.int .i64 e]) (fn:=Tryz.f127) rfl ?_
 obtain⟨l,x,g⟩:=B0 g
 refine eX { vars:=[4],boxes:=[],owns:=[0],fuel:=true } (eX (λvs os h'=>∃ a k f,vs.tail = [.int .i64 a]/\os = [k]/\Sub h h'/\I0 a/\F2 (Wp.int.R h') k f/\A6 e (C1 vs) a f=some l) (eX (λ_ _=>0) (aI (eX P0 ⟨1,[],([]:D0),rfl,rfl,(Sub.refl _),(by decide),(show F2 (Wp.int.R h) ([]:List (List Value)) ([]:D0) from trivial),x⟩) ?_)))
 rintro _ k j d ⟨a,H,f,⟨⟩,⟨⟩,p,i,c,b⟩
 replace b:A6 e j a f=some l:=b
 obtain _|j:=j
 ·cases b
 rw[A6.eq_2]at b
 refine ifB b (λy b=>?_) λy b=>?_
 ·obtain⟨E,u,b⟩:=B0 b
  refine aI (Z0 u (by first|rw[F2.length c,F2.length (show F2 (Wp.int.R d) ([[.int .i64 a]]:List (List Value)) [a] from⟨⟨rfl,i⟩,trivial⟩)]|exact congrArg (·+1) (F2.length c))) ?_
  obtain⟨F,w,b⟩:=B0 b
  refine aI (Z0 w (by first|rw[F2.length (F2.append c (show F2 (Wp.int.R d) ([[.int .i64 a]]:List (List Value)) [a] from⟨⟨rfl,i⟩,trivial⟩)),F2.length (show F2 (Wp.int.R d) ([[.int .i64 (IntKind.i64.wrap (0-a))]]:List (List Value)) [(IntKind.i64.wrap (0-a))] from⟨⟨rfl,(F0 _)⟩,trivial⟩)]|exact congrArg (·+1) (F2.length (F2.append c (show F2 (Wp.int.R d) ([[.int .i64 a]]:List (List Value)) [a] from⟨⟨rfl,i⟩,trivial⟩))))) ?_
  exact D1 j ⟨(IntKind.i64.wrap (a+1)),((k++([[.int .i64 a]]:List (List Value)))++([[.int .i64 (IntKind.i64.wrap (0-a))]]:List (List Value))),((f ++ [a]) ++ [(IntKind.i64.wrap (0-a))]),rfl,rfl,p,(F0 _),(F2.append (F2.append c (show F2 (Wp.int.R d) ([[.int .i64 a]]:List (List Value)) [a] from⟨⟨rfl,i⟩,trivial⟩)) (show F2 (Wp.int.R d) ([[.int .i64 (IntKind.i64.wrap (0-a))]]:List (List Value)) [(IntKind.i64.wrap (0-a))] from⟨⟨rfl,(F0 _)⟩,trivial⟩)),b⟩
 ·obtain rfl:=oJ b
  try dsimp only[M0,O0]at g
  intro G C t
  obtain⟨q,s,rfl,z,A,D⟩:=S0.out (r:=Wp.int.toRp) t c
  obtain rfl:=oJ g
  exact⟨q,f.length,s,rfl,z,(p.trans A)⟩
theorem n08(h:Hp)(H:List Value)(L:l0)(ar:C0.R h H L)(r:D0)(c:g9 L=some r):
  Tr Tryz.prog 268 #[.agg H.toArray] h λv h'=>∃(F:Option Addr) (K G:Nat),v = .slice F K G/\K0.R h' [.slice F K G] r/\Sub h h':=by
 obtain⟨d,e,w,aS,x,f,rfl,rfl,z,I,B⟩:=H0 ar
 obtain⟨rfl,aN⟩:=Sl.len B
 unfold g9 at c
 dsimp only at c
 refine V1 (args:=[.agg #[.int .i64 d,.int .i64 e,.slice w f.length x]]) (fn:=Tryz.f268) rfl ?_
 refine trV c (l00 _ [.int .i64 d,.int .i64 e,.slice w f.length x] (d,e,f) (j0 z I B)) λa3 c=>?_
 refine ifB c (λai c=>?_) λai c=>?_
 ·intro a0 aL Y
  obtain⟨P,U,rfl,ax,az,aR⟩:=S0.out (r:=Wp.int.toRp) Y (show F2 (Wp.int.R h) ([]:List (List Value)) ([]:D0) from trivial)
  obtain rfl:=oJ c
  exact⟨P,(([]:D0)).length,U,rfl,ax,az⟩
 ·refine trM c (i03 _ _ z) ?_
  rintro u c a2 ap ⟨aD,aU,aF,rfl,M,C⟩
  obtain⟨rfl,aO⟩:=Sl.len M
  obtain⟨D,af,c⟩:=B0 c
  refine eX { vars:=[5],boxes:=[],owns:=[0],fuel:=true } (eX (λvs os h'=>∃ j q m,vs.tail = [.int .i64 j]/\os = [q]/\Sub ap h'/\I0 j/\F2 (Wp.int.R h') q m/\l5 u d e f (C1 vs) j m=some D) (eX (λ_ _=>0) (aI (eX P0 ⟨0,([[.int .i64 0]]:List (List Value)),[0],rfl,rfl,(Sub.refl _),(by decide),(F2.up (r:=Wp.int.toRp) C (show F2 (Wp.int.R h) ([[.int .i64 0]]:List (List Value)) [0] from⟨⟨rfl,(by decide)⟩,trivial⟩)),af⟩) ?_)))
  rintro _ q s ao ⟨j,a4,m,⟨⟩,⟨⟩,t,aH,y,b⟩
  replace b:l5 u d e f s j m=some D:=b
  obtain _|s:=s
  ·cases b
  rw[l5.eq_2]at b
  obtain⟨aq,Z,b⟩:=B0 b
  obtain rfl:q.length=aq:=(F2.length y).trans (oJ Z)
  obtain⟨aV,aG,b⟩:=B0 b
  refine ifB b (λah b=>?_) λah b=>?_
  ·obtain⟨E,ag,b⟩:=B0 b
   refine eX { vars:=[6],boxes:=[],owns:=[0],fuel:=true } (eX (λvs os h'=>∃ l n g,vs.tail = [.int .i64 l]/\os = [n]/\Sub ao h'/\I0 l/\F2 (Wp.int.R h') n g/\U3 u j d e f (C1 vs) l g=some E) (eX (λ_ _=>0) (aI (eX P0 ⟨0,q,m,rfl,rfl,(Sub.refl _),(by decide),y,ag⟩) ?_)))
   rintro _ n o J ⟨l,a5,g,⟨⟩,⟨⟩,p,aJ,k,a⟩
   replace a:U3 u j d e f o l g=some E:=a
   obtain _|o:=o
   ·cases a
   rw[U3.eq_2]at a
   refine ifB a (λaj a=>?_) λaj a=>?_
   ·refine Or.inl (aI (aI (by kernel_rfl) (by kernel_rfl)) ?_)
    obtain⟨aA,ac,a⟩:=B0 a
    obtain⟨Q,aE,V,au⟩:=I3 k ac
    refine aI Q ?_
    obtain⟨rfl,am⟩:=au
    refine eX _ (aI V ?_)
    refine ldI a (K0.mono (t.trans p) M) λaB an a=>?_
    obtain⟨i,ad,a⟩:=B0 a
    refine eX (.int .i64 i) (aI (e00 _ [.int .i64 d,.int .i64 e,.slice w f.length x] (d,e,f) (j0 z I (N0.mono ((C.trans t).trans p) B)) aA am aB an _  ad) ?_)
    obtain⟨aW,aa,a⟩:=B0 a
    have A:I0 i:=T0 aa
    obtain⟨aC,ae,a⟩:=B0 a
    refine eX (.bool aC) (aI ?_ ?_)
    ·intro al
     intro aZ aK W
     obtain⟨N,S,rfl,av,aY,aP⟩:=S0.out (r:=Wp.int.toRp) W k
     exact h03 _ N g.length S g av i A _ (W5 ae al)
    refine ifB a (λak a=>?_) λak a=>?_
    ·obtain⟨aX,ab,a⟩:=B0 a
     refine aI (Z0 ab (by first|rw[F2.length k,F2.length (show F2 (Wp.int.R J) ([[.int .i64 i]]:List (List Value)) [i] from⟨⟨rfl,A⟩,trivial⟩)]|exact congrArg (·+1) (F2.length k))) ?_
     exact D1 o ⟨(IntKind.i64.wrap (l+1)),(n++([[.int .i64 i]]:List (List Value))),(g ++ [i]),rfl,rfl,p,(F0 _),(F2.append k (show F2 (Wp.int.R J) ([[.int .i64 i]]:List (List Value)) [i] from⟨⟨rfl,A⟩,trivial⟩)),a⟩
    ·exact D1 o ⟨(IntKind.i64.wrap (l+1)),n,g,rfl,rfl,p,(F0 _),k,a⟩
   ·obtain rfl:=oJ a
    try dsimp only[M0,O0]at b
    exact D1 s ⟨(IntKind.i64.wrap (j+1)),n,g,rfl,rfl,(t.trans p),(F0 _),k,b⟩
  ·obtain rfl:=oJ b
   try dsimp only[M0,O0]at c
   intro a1 aM X
   obtain⟨O,T,rfl,aw,ay,aQ⟩:=S0.out (r:=Wp.int.toRp) X y
   obtain rfl:=oJ c
   exact⟨O,m.length,T,rfl,aw,((C.trans t).trans ay)⟩
theorem n04(h:Hp)(g:List Value)(i:l0)(G:C0.R h g i)(r:l0)(a:I7 i=some r):
  Tr Tryz.prog 222 #[.agg g.toArray] h λv h'=>∃(f:List Value),v = .agg f.toArray/\C0.R h' f r/\Sub h h':=by
 obtain⟨D,E,o,ab,s,F,rfl,rfl,d,e,b⟩:=H0 G
 obtain⟨rfl,X⟩:=Sl.len b
 unfold I7 at a
 dsimp only at a
 refine V1 (args:=[.agg #[.int .i64 D,.int .i64 E,.slice o F.length s]]) (fn:=Tryz.f222) rfl ?_
 refine trM a (n08 _ _ _ (j0 d e b)) ?_
 rintro ai a ag B ⟨S,ac,V,rfl,j,c⟩
 obtain⟨rfl,Y⟩:=Sl.len j
 refine ifB a (λw a=>?_) λw a=>?_
 ·refine trM a (F5 _ _ _ (j0 d e (N0.mono c b))) ?_
  rintro aj a ah C ⟨T,rfl,n⟩
  have I:Sub B C:=n.sub
  have H:=n.r
  obtain⟨K,L,p,ad,t,M,rfl,rfl,x,y,k⟩:=H0 H
  obtain⟨rfl,Z⟩:=Sl.len k
  try dsimp only at a
  obtain rfl:=oJ a
  exact⟨([.int .i64 K,.int .i64 L,.slice p M.length t]),rfl,(j0 x y k),(c.trans I)⟩
 ·refine trM a (V02 _ _ _ (j0 d e (N0.mono c b)) _ _ _ _ j) ?_
  rintro N a af W ⟨U,rfl,l,J⟩
  obtain⟨ak,al⟩:=N
  dsimp only at a l
  obtain⟨O,P,q,ae,u,Q,rfl,rfl,z,A,m⟩:=H0 l
  obtain⟨rfl,aa⟩:=Sl.len m
  try dsimp only at a
  obtain rfl:=oJ a
  exact⟨([.int .i64 O,.int .i64 P,.slice q Q.length u]),rfl,(j0 z A m),(c.trans J)⟩
theorem Q0g(h:Hp)(t:List Value)(u:l0)(P:C0.R h t u)(r:Bool)(a:t01 u=some r):
  Tr Tryz.prog 210 #[.agg t.toArray] h λv h'=>v = .bool r/\h'=h:=by
 obtain⟨k,l,p,aq,s,m,rfl,rfl,g,i,c⟩:=H0 P
 obtain⟨rfl,ao⟩:=Sl.len c
 unfold t01 at a
 dsimp only at a
 refine Tr.forget (V1 (args:=[.agg #[.int .i64 k,.int .i64 l,.slice p m.length s]]) (fn:=Tryz.f210) rfl ?_)
 refine Or.inr (Or.inr (Or.inr (Or.inl (aI (aI (by kernel_rfl) (by kernel_rfl)) ?_))))
 obtain⟨Y,F,a⟩:=B0 a
 refine Or.inl (eX (.val (.bool Y)) (aI ?_ ?_))
 ·intro ak W
  exact Tr.val (l00 _ [.int .i64 k,.int .i64 l,.slice p m.length s] (k,l,m) (j0 g i (N0.mono W c)) _ F) (aI rfl (aI rfl rfl))
 obtain⟨o,I,a⟩:=B0 a
 obtain⟨au,E,a⟩:=B0 a
 have ag:I0 o:=T0 E
 refine Or.inl (eX (.val (.int .i64 o)) (aI ?_ ?_))
 ·intro al X b
  exact Tr.val (u0a _ _ _ (j0 g i (N0.mono X c)) _ (W5 I b)) (aI rfl (aI rfl rfl))
 refine Or.inl (eX (.val (.bool (decide (o<0)))) (aI ?_ ?_))
 ·intro am av b
  exact aI rfl (aI rfl rfl)
 obtain⟨Z,G,a⟩:=B0 a
 obtain⟨x,y,j⟩:=Z
 try dsimp only at a
 refine Or.inr (eX (λv J=>∃(d:Option Addr) (f:Nat),v = .agg #[.int .i64 x,.int .i64 y,.slice d j.length f]/\I0 x/\I0 y/\N0.R J [.slice d j.length f] j/\j.length<=9223372036854775807) (aI (λv ae af n q=>by obtain⟨d,f,e,C,D,f2,f3⟩:=q;exact⟨d,f,e,C,D,N0.mono n f2,f3⟩) (aI ?_ ?_)))
 ·intro ah T b
  refine Tr.mono (n04 _ _ _ (j0 g i (N0.mono T c)) _ (W5 G b)) ?_
  rintro _ an ⟨ac,rfl,Q,n⟩
  obtain⟨aw,ax,z,ar,A,ay,rfl,B,K,L,w⟩:=H0 Q
  cases B
  obtain⟨rfl,O⟩:=Sl.len w
  exact aI y01 (aI n ⟨z,A,rfl,K,L,w,O⟩)
 obtain⟨aa,H,a⟩:=B0 a
 refine Or.inl (eX (.val (.bool aa)) (aI ?_ ?_))
 ·intro ai U b
  rintro _ ⟨ab,ad,rfl,M,N,S,ap⟩
  exact Tr.val (A9 _ _ _ (j0 M N S) _ _ (j0 g i (N0.mono U c)) _ (W5 H b)) (aI rfl (aI rfl rfl))
 intro aj V
 obtain rfl:=oJ a
 exact aI rfl V
theorem f00(h:Hp)(b:List Value)(c:l0)(m:C0.R h b c)(r:Bool)(a:L3 c=some r):
  Tr Tryz.prog 118 #[.agg b.toArray] h λv h'=>v = .bool r/\h'=h:=by
 obtain⟨j,k,e,o,f,l,rfl,rfl,g,i,d⟩:=H0 m
 obtain⟨rfl,n⟩:=Sl.len d
 unfold L3 at a
 dsimp only at a
 refine Tr.forget (V1 (args:=[.agg #[.int .i64 j,.int .i64 k,.slice e l.length f]]) (fn:=Tryz.f118) rfl ?_)
 refine trV a (Q0g _ _ _ (j0 g i d)) λp a=>?_
 obtain rfl:=oJ a
 exact aI rfl (Sub.refl _)
theorem Y0b(h:Hp)(k:Option Addr)(t l:Nat)(b:D0)(u:K0.R h [.slice k t l] b)(r:D0)(f:a00 b=some r):
  Tr Tryz.prog 148 #[.slice k t l] h λv h'=>∃(o:Option Addr) (s p:Nat),v = .slice o s p/\K0.R h' [.slice o s p] r/\Sub h h':=by
 obtain⟨rfl,H⟩:=Sl.len u
 unfold a00 at f
 refine V1 (args:=[.slice k b.length l]) (fn:=Tryz.f148) rfl ?_
 obtain⟨n,A,f⟩:=B0 f
 refine eX { vars:=[4],boxes:=[],owns:=[0],fuel:=true } (eX (λvs os h'=>∃ c j d,vs.tail = [.int .i64 c]/\os = [j]/\Sub h h'/\I0 c/\F2 (Wp.int.R h') j d/\H4 b (C1 vs) c d=some n) (eX (λ_ _=>0) (aI (eX P0 ⟨(IntKind.i64.wrap (((b.length:Nat):Int)-1)),[],([]:D0),rfl,rfl,(Sub.refl _),(F0 _),(show F2 (Wp.int.R h) ([]:List (List Value)) ([]:D0) from trivial),A⟩) ?_)))
 rintro _ j i q ⟨c,L,d,⟨⟩,⟨⟩,m,E,g,a⟩
 replace a:H4 b i c d=some n:=a
 obtain _|i:=i
 ·cases a
 rw[H4.eq_2]at a
 refine ifB a (λB a=>?_) λB a=>?_
 ·refine ldI a (K0.mono m u) λe F a=>?_
  obtain⟨J,z,a⟩:=B0 a
  refine aI (Z0 z (by first|rw[F2.length g,F2.length (show F2 (Wp.int.R q) ([[.int .i64 (IntKind.i64.wrap (0-e))]]:List (List Value)) [(IntKind.i64.wrap (0-e))] from⟨⟨rfl,(F0 _)⟩,trivial⟩)]|exact congrArg (·+1) (F2.length g))) ?_
  exact D1 i ⟨(IntKind.i64.wrap (c-1)),(j++([[.int .i64 (IntKind.i64.wrap (0-e))]]:List (List Value))),(d ++ [(IntKind.i64.wrap (0-e))]),rfl,rfl,m,(F0 _),(F2.append g (show F2 (Wp.int.R q) ([[.int .i64 (IntKind.i64.wrap (0-e))]]:List (List Value)) [(IntKind.i64.wrap (0-e))] from⟨⟨rfl,(F0 _)⟩,trivial⟩)),a⟩
 ·obtain rfl:=oJ a
  try dsimp only[M0,O0]at f
  intro K G y
  obtain⟨w,x,rfl,C,D,I⟩:=S0.out (r:=Wp.int.toRp) y g
  obtain rfl:=oJ f
  exact⟨w,d.length,x,rfl,C,(m.trans D)⟩
theorem o09(h:Hp)(n:Option Addr)(z o:Nat)(l:D0)(m:K0.R h [.slice n z o] l)(r:D0)(d:L4 l=some r):
  Tr Tryz.prog 146 #[.slice n z o] h λv h'=>∃(s:Option Addr) (y t:Nat),v = .slice s y t/\K0.R h' [.slice s y t] r/\Sub h h':=by
 obtain⟨rfl,ac⟩:=Sl.len m
 unfold L4 at d
 refine V1 (args:=[.slice n l.length o]) (fn:=Tryz.f146) rfl ?_
 obtain⟨p,J,d⟩:=B0 d
 refine eX { vars:=[4],boxes:=[],owns:=[0],fuel:=true } (eX (λvs os h'=>∃ g c i,vs.tail = [.int .i64 g]/\os = [c]/\Sub h h'/\I0 g/\F2 (Wp.int.R h') c i/\M2 l (C1 vs) g i=some p) (eX (λ_ _=>0) (aI (eX P0 ⟨0,[],([]:D0),rfl,rfl,(Sub.refl _),(by decide),(show F2 (Wp.int.R h) ([]:List (List Value)) ([]:D0) from trivial),J⟩) ?_)))
 rintro _ c k e ⟨g,ao,i,⟨⟩,⟨⟩,f,V,b,a⟩
 replace a:M2 l k g i=some p:=a
 obtain _|k:=k
 ·cases a
 rw[M2.eq_2]at a
 refine ifB a (λL a=>?_) λL a=>?_
 ·obtain⟨M,D,a⟩:=B0 a
  obtain rfl:c.length=M:=(F2.length b).trans (oJ D)
  obtain⟨ah,U,a⟩:=B0 a
  refine Or.inl (aI (aI (by kernel_rfl) (by kernel_rfl)) ?_)
  refine ldG a (K0.mono f m) λan aa a=>?_
  obtain⟨aj,H,a⟩:=B0 a
  obtain⟨S,u,N⟩:=B01 b H (l0a e)
  refine aI (λq=>(u q).1) ?_
  obtain⟨rfl,W⟩:=N
  refine eX _ (aI (λq=>(u q).2) ?_)
  refine ldG a (K0.mono f m) λak X a=>?_
  obtain⟨al,I,a⟩:=B0 a
  obtain⟨T,w,O⟩:=B01 b I (l0a e)
  refine aI (λq=>(w q).1) ?_
  obtain⟨rfl,Y⟩:=O
  refine eX _ (aI (λq=>(w q).2) ?_)
  refine ldG a (K0.mono f m) λam Z a=>?_
  refine ifB a (λK a=>?_) λK a=>?_
  ·obtain⟨ae,E,a⟩:=B0 a
   refine aI (by have:=T0 E;have:=F2.length b;omega) ?_
   exact D1 k ⟨(IntKind.i64.wrap (g+1)),(c.take (IntKind.i64.wrap (((c.length:Nat):Int)-1)).toNat),(i.take (IntKind.i64.wrap (((c.length:Nat):Int)-1)).toNat),rfl,rfl,f,(F0 _),(F2.take (IntKind.i64.wrap (((c.length:Nat):Int)-1)).toNat b),a⟩
  ·refine ldI a (K0.mono f m) λj x a=>?_
   obtain⟨af,F,a⟩:=B0 a
   refine aI (Z0 F (by first|rw[F2.length b,F2.length (show F2 (Wp.int.R e) ([[.int .i64 j]]:List (List Value)) [j] from⟨⟨rfl,x⟩,trivial⟩)]|exact congrArg (·+1) (F2.length b))) ?_
   exact D1 k ⟨(IntKind.i64.wrap (g+1)),(c++([[.int .i64 j]]:List (List Value))),(i ++ [j]),rfl,rfl,f,(F0 _),(F2.append b (show F2 (Wp.int.R e) ([[.int .i64 j]]:List (List Value)) [j] from⟨⟨rfl,x⟩,trivial⟩)),a⟩
 ·obtain rfl:=oJ a
  try dsimp only[M0,O0]at d
  obtain⟨ag,G,d⟩:=B0 d
  refine aI (Z0 G (by first|rw[F2.length (show F2 (Wp.int.R e) ([]:List (List Value)) ([]:D0) from trivial),F2.length b]|exact congrArg (·+0) (F2.length (show F2 (Wp.int.R e) ([]:List (List Value)) ([]:D0) from trivial)))) ?_
  intro ai ab C
  obtain⟨A,B,rfl,P,Q,ad⟩:=S0.out (r:=Wp.int.toRp) C (F2.append (show F2 (Wp.int.R e) ([]:List (List Value)) ([]:D0) from trivial) b)
  obtain rfl:=oJ d
  exact⟨A,((([]:D0)++i)).length,B,rfl,P,(f.trans Q)⟩
theorem S04(h:Hp)(c:Option Addr)(n e:Nat)(g:D0)(p:K0.R h [.slice c n e] g)(d:Option Addr)(o f:Nat)(i:D0)(q:K0.R h [.slice d o f] i)(r:D0)(a:W7 g i=some r):
  Tr Tryz.prog 147 #[.slice c n e,.slice d o f] h λv h'=>∃(j:Option Addr) (m k:Nat),v = .slice j m k/\K0.R h' [.slice j m k] r/\Sub h h':=by
 obtain⟨rfl,L⟩:=Sl.len p
 obtain⟨rfl,M⟩:=Sl.len q
 unfold W7 at a
 refine V1 (args:=[.slice c g.length e,.slice d i.length f]) (fn:=Tryz.f147) rfl ?_
 obtain⟨E,w,b⟩:=Sl.rows (r:=Wp.int.toRp) p
 refine eX E (aI w ?_)
 obtain⟨Q,z,a⟩:=B0 a
 refine aI (Z0 z (by first|rw[F2.length (show F2 (Wp.int.R h) ([]:List (List Value)) ([]:D0) from trivial),F2.length b]|exact congrArg (·+1) (F2.length (show F2 (Wp.int.R h) ([]:List (List Value)) ([]:D0) from trivial)))) ?_
 obtain⟨F,x,l⟩:=Sl.rows (r:=Wp.int.toRp) q
 refine eX F (aI x ?_)
 obtain⟨S,A,a⟩:=B0 a
 refine aI (Z0 A (by first|rw[F2.length (F2.append (show F2 (Wp.int.R h) ([]:List (List Value)) ([]:D0) from trivial) b),F2.length l]|exact congrArg (·+1) (F2.length (F2.append (show F2 (Wp.int.R h) ([]:List (List Value)) ([]:D0) from trivial) b)))) ?_
 refine Or.inl ?_
 intro U K y
 obtain⟨H,I,rfl,B,D,O⟩:=S0.out (r:=Wp.int.toRp) y (F2.append (F2.append (show F2 (Wp.int.R h) ([]:List (List Value)) ([]:D0) from trivial) b) l)
 refine trM a (o09 _ _ _ _ _ B) ?_
 rintro G a T J ⟨t,P,u,rfl,s,C⟩
 obtain⟨rfl,N⟩:=Sl.len s
 obtain rfl:=oJ a
 exact⟨t,G.length,u,rfl,s,(D.trans C)⟩
theorem Z0b(h:Hp)(m:Option Addr)(y n:Nat)(e:D0)(z:K0.R h [.slice m y n] e)(r:D0)(d:c01 e=some r):
  Tr Tryz.prog 187 #[.slice m y n] h λv h'=>∃(s:Option Addr) (x t:Nat),v = .slice s x t/\New K0 h h' [.slice s x t] r:=by
 obtain⟨rfl,J⟩:=Sl.len z
 unfold c01 at d
 refine V1 (args:=[.slice m e.length n]) (fn:=Tryz.f187) rfl ?_
 obtain⟨L,C,d⟩:=B0 d
 refine aI (T0 C) ?_
 obtain⟨q,E,d⟩:=B0 d
 refine eX { vars:=[4],boxes:=[],owns:=[0],fuel:=true } (eX (λvs os h'=>∃ f l g,vs.tail = [.int .i64 f]/\os = [l]/\Sub h h'/\I0 f/\F2 (Wp.int.R h') l g/\n7 e (C1 vs) f g=some q) (eX (λ_ _=>0) (aI (eX P0 ⟨(IntKind.i64.wrap (((e.length:Nat):Int)-1)),(List.replicate (0:Int).toNat ([.int .i64 0]:List Value)),(List.replicate (0:Int).toNat (0:Int)),rfl,rfl,(Sub.refl _),(F0 _),(F2.rep (p:=Wp.int.R h) (a:=[.int .i64 0]) (b:=0) ⟨rfl,(by decide)⟩ ((0:Int).toNat)),E⟩) ?_)))
 rintro _ l k w ⟨f,Q,g,⟨⟩,⟨⟩,o,G,j,c⟩
 replace c:n7 e k f g=some q:=c
 obtain _|k:=k
 ·cases c
 rw[n7.eq_2]at c
 refine ifB c (λF c=>?_) λF c=>?_
 ·refine ldI c (K0.mono o z) λi H c=>?_
  obtain⟨M,D,c⟩:=B0 c
  refine aI (Z0 D (by first|rw[F2.length j,F2.length (show F2 (Wp.int.R w) ([[.int .i64 (IntKind.i64.wrap (0-i))]]:List (List Value)) [(IntKind.i64.wrap (0-i))] from⟨⟨rfl,(F0 _)⟩,trivial⟩)]|exact congrArg (·+1) (F2.length j))) ?_
  exact D1 k ⟨(IntKind.i64.wrap (f-1)),(l++([[.int .i64 (IntKind.i64.wrap (0-i))]]:List (List Value))),(g ++ [(IntKind.i64.wrap (0-i))]),rfl,rfl,o,(F0 _),(F2.append j (show F2 (Wp.int.R w) ([[.int .i64 (IntKind.i64.wrap (0-i))]]:List (List Value)) [(IntKind.i64.wrap (0-i))] from⟨⟨rfl,(F0 _)⟩,trivial⟩)),c⟩
 ·obtain rfl:=oJ c
  try dsimp only[M0,O0]at d
  intro P I u
  obtain⟨A,B,rfl,N,O,K⟩:=S0.out (r:=Wp.int.toRp) u j
  obtain rfl:=oJ d
  exact⟨A,g.length,B,rfl,(New.from (S0.newPlain (r:=Wp.int) u j (W01 _)) o)⟩
theorem s0g(h:Hp)(s:Option Addr)(H t:Nat)(m:N1)(I:R3.R h [.slice s H t] m)(r:D0)(k:I02 m=some r):
  Tr Tryz.prog 196 #[.slice s H t] h λv h'=>∃(C:Option Addr) (G D:Nat),v = .slice C G D/\New K0 h h' [.slice C G D] r:=by
 obtain⟨rfl,ao⟩:=Sl.len I
 unfold I02 at k
 refine V1 (args:=[.slice s m.length t]) (fn:=Tryz.f196) rfl ?_
 obtain⟨A,T,k⟩:=B0 k
 refine eX { vars:=[11],boxes:=[],owns:=[0],fuel:=true } (eX (λvs os h'=>∃ g p i,vs.tail = [.int .i64 g]/\os = [p]/\Sub h h'/\I0 g/\F2 (Wp.int.R h') p i/\Y7 m (C1 vs) g i=some A) (eX (λ_ _=>0) (aI (eX P0 ⟨0,[],([]:D0),rfl,rfl,(Sub.refl _),(by decide),(show F2 (Wp.int.R h) ([]:List (List Value)) ([]:D0) from trivial),T⟩) ?_)))
 rintro _ p n Z ⟨g,aF,i,⟨⟩,⟨⟩,z,al,u,b⟩
 replace b:Y7 m n g i=some A:=b
 obtain _|n:=n
 ·cases b
 rw[Y7.eq_2]at b
 refine ifB b (λX b=>?_) λX b=>?_
 ·refine ld b (R3.mono z I) λJ ag y b=>?_
  obtain⟨ae,ar,ah,rfl⟩:=Wp.slice_cell y
  obtain⟨rfl,ap⟩:=Sl.len y
  obtain⟨B,U,b⟩:=B0 b
  refine eX { vars:=[17],boxes:=[],owns:=[0],fuel:=true } (eX (λvs os h'=>∃ f c e,vs.tail = [.int .i64 f]/\os = [c]/\Sub Z h'/\I0 f/\F2 (Wp.int.R h') c e/\P6 J (C1 vs) f e=some B) (eX (λ_ _=>0) (aI (eX P0 ⟨0,p,i,rfl,rfl,(Sub.refl _),(by decide),u,U⟩) ?_)))
  rintro _ c l x ⟨f,aE,e,⟨⟩,⟨⟩,o,am,d,a⟩
  replace a:P6 J l f e=some B:=a
  obtain _|l:=l
  ·cases a
  rw[P6.eq_2]at a
  refine ifB a (λV a=>?_) λV a=>?_
  ·refine ldI a (K0.mono o y) λj w a=>?_
   obtain⟨aa,M,a⟩:=B0 a
   obtain rfl:c.length=aa:=(F2.length d).trans (oJ M)
   obtain⟨au,ai,a⟩:=B0 a
   obtain⟨ab,N,a⟩:=B0 a
   obtain rfl:c.length=ab:=(F2.length d).trans (oJ N)
   obtain⟨av,aj,a⟩:=B0 a
   obtain⟨aC,S,a⟩:=B0 a
   obtain⟨af,E,ad⟩:=B01 d S (l0a x)
   refine aI (λq=>(E q).1) ?_
   obtain⟨rfl,Y⟩:=ad
   refine eX _ (aI (λq=>(E q).2) ?_)
   refine trG a (λq=>X0b _ _ Y _ w) λaD a=>?_
   refine ifB a (λW a=>?_) λW a=>?_
   ·obtain⟨ac,O,a⟩:=B0 a
    obtain rfl:c.length=ac:=(F2.length d).trans (oJ O)
    obtain⟨aw,ak,a⟩:=B0 a
    obtain⟨ax,P,a⟩:=B0 a
    refine aI (by have:=T0 P;have:=F2.length d;omega) ?_
    exact D1 l ⟨(IntKind.i64.wrap (f+1)),(c.take (IntKind.i64.wrap (((c.length:Nat):Int)-1)).toNat),(e.take (IntKind.i64.wrap (((c.length:Nat):Int)-1)).toNat),rfl,rfl,o,(F0 _),(F2.take (IntKind.i64.wrap (((c.length:Nat):Int)-1)).toNat d),a⟩
   ·obtain⟨ay,Q,a⟩:=B0 a
    refine aI (Z0 Q (by first|rw[F2.length d,F2.length (show F2 (Wp.int.R x) ([[.int .i64 j]]:List (List Value)) [j] from⟨⟨rfl,w⟩,trivial⟩)]|exact congrArg (·+1) (F2.length d))) ?_
    exact D1 l ⟨(IntKind.i64.wrap (f+1)),(c++([[.int .i64 j]]:List (List Value))),(e ++ [j]),rfl,rfl,o,(F0 _),(F2.append d (show F2 (Wp.int.R x) ([[.int .i64 j]]:List (List Value)) [j] from⟨⟨rfl,w⟩,trivial⟩)),a⟩
  ·obtain rfl:=oJ a
   try dsimp only[M0,O0]at b
   exact D1 n ⟨(IntKind.i64.wrap (g+1)),c,e,rfl,rfl,(z.trans o),(F0 _),d,b⟩
 ·obtain rfl:=oJ b
  try dsimp only[M0,O0]at k
  intro aB an F
  obtain⟨K,L,rfl,az,aA,aq⟩:=S0.out (r:=Wp.int.toRp) F u
  obtain rfl:=oJ k
  exact⟨K,i.length,L,rfl,(New.from (S0.newPlain (r:=Wp.int) F u (W01 _)) z)⟩
theorem m00(h:Hp)(c:Option Addr)(k d:Nat)(b:D0)(l:K0.R h [.slice c k d] b)(r:D0)(a:a9 b=some r):
  Tr Tryz.prog 177 #[.slice c k d] h λv h'=>∃(i:Nat) (j f:Nat),v = .slice (some ⟨i,0,none⟩) j f/\New K0 h h' [.slice (some ⟨i,0,none⟩) j f] r:=by
 obtain⟨rfl,t⟩:=Sl.len l
 unfold a9 at a
 refine V1 (args:=[.slice c b.length d]) (fn:=Tryz.f177) rfl ?_
 obtain⟨q,n,e⟩:=Sl.rows (r:=Wp.int.toRp) l
 refine eX q (aI n ?_)
 obtain⟨w,o,a⟩:=B0 a
 refine aI (Z0 o (by first|rw[F2.length (show F2 (Wp.int.R h) ([]:List (List Value)) ([]:D0) from trivial),F2.length e]|exact congrArg (·+1) (F2.length (show F2 (Wp.int.R h) ([]:List (List Value)) ([]:D0) from trivial)))) ?_
 intro z s g
 obtain⟨p,m,rfl,x,y,u⟩:=S0.outS (r:=Wp.int.toRp) g (F2.append (show F2 (Wp.int.R h) ([]:List (List Value)) ([]:D0) from trivial) e)
 obtain rfl:=oJ a
 exact⟨p,((([]:D0)++b)).length,m,rfl,(S0.newPlain (r:=Wp.int) g (F2.append (show F2 (Wp.int.R h) ([]:List (List Value)) ([]:D0) from trivial) e) (W01 _))⟩
theorem h0e(h:Hp)(b:Int)(d:I0 b)(r:l0×Bool)(a:l02 b=some r):
  Tr Tryz.prog 169 #[.int .i64 b] h λv h'=>∃(c:List Value),v = .tuple #[.agg c.toArray,.bool r.2]/\C0.R h' c r.1/\Sub h h':=by
 unfold l02 at a
 refine V1 (args:=[.int .i64 b]) (fn:=Tryz.f169) rfl ?_
 refine trV a (E3 _ b d 1 (by decide) 3 (by decide)) λf a=>?_
 refine ifB a (λe a=>?_) λe a=>?_
 ·obtain rfl:=oJ a
  exact⟨([.int .i64 0,.int .i64 0,.slice none 0 0]),rfl,(j0 (by decide) (by decide) (m08 M1 h)),(Sub.refl _)⟩
 ·obtain rfl:=oJ a
  exact⟨([.int .i64 b,.int .i64 1,.slice none 0 0]),rfl,(j0 d (by decide) (m08 M1 h)),(Sub.refl _)⟩
theorem q09(h:Hp)(S:List Value)(aa:l0)(ba:C0.R h S aa)(s:Int)(V:I0 s)(l:Option Addr)(Z m:Nat)(g:D0)(n:K0.R h [.slice l Z m] g)(d:Int)(u:I0 d)(r:l0×Bool)(b:J01 aa s g d=some r):
  Tr Tryz.prog 155 #[.agg S.toArray,.int .i64 s,.slice l Z m,.int .i64 d] h λv h'=>∃(Q:List Value),v = .tuple #[.agg Q.toArray,.bool r.2]/\C0.R h' Q r.1/\Sub h h':=by
 obtain⟨F,x,N,bS,P,I,rfl,rfl,G,U,J⟩:=H0 ba
 obtain⟨rfl,bK⟩:=Sl.len J
 obtain⟨rfl,bL⟩:=Sl.len n
 unfold J01 at b
 dsimp only at b
 refine V1 (args:=[.agg #[.int .i64 F,.int .i64 x,.slice N I.length P],.int .i64 s,.slice l g.length m,.int .i64 d]) (fn:=Tryz.f155) rfl ?_
 refine trM b (F5 _ _ _ (j0 G U J)) ?_
 rintro ce b b8 Y ⟨bk,rfl,aj⟩
 have j:Sub h Y:=aj.sub
 have bb:=aj.r
 obtain⟨ao,ap,O,bT,T,L,rfl,rfl,W,X,K⟩:=H0 bb
 obtain⟨rfl,bN⟩:=Sl.len K
 try dsimp only at b
 refine trV b (N6 _ [.int .i64 F,.int .i64 x,.slice N I.length P] (F,x,I) (j0 G U (N0.mono j J))) λcg b=>?_
 refine trG b (λq=>E3 _ s V 0 (by decide) (IntKind.i64.wrap (x-1)) (F0 _)) λci b=>?_
 refine trG b (λq=>E3 _ d u 0 (by decide) (IntKind.i64.wrap (x-1)) (F0 _)) λcj b=>?_
 refine trG b (λq=>O06 _ F G l g.length m g (K0.mono j n)) λck b=>?_
 refine ifB b (λaZ b=>?_) λaZ b=>?_
 ·obtain rfl:=oJ b
  exact⟨([.int .i64 ao,.int .i64 ap,.slice O L.length T]),rfl,(j0 W X K),j⟩
 ·obtain⟨M,aU,b⟩:=B0 b
  refine eX { vars:=[11,12],boxes:=[2],owns:=[],fuel:=true } (eX (λvs os h'=>∃ e f k c B H C y,vs.tail = [.int .i64 e,.int .i64 f,.int .i64 k,.int .i64 c,.slice B H C]/\os = []/\Sub Y h'/\I0 e/\I0 f/\I0 k/\I0 c/\N0.R h' [.slice B H C] y/\o5 g d (C1 vs) e f k c y=some M) (eX (λ_ _=>0) (aI (eX P0 ⟨s,0,ao,ap,O,L.length,T,L,rfl,rfl,(Sub.refl _),V,(by decide),W,X,K,aU⟩) ?_)))
  rintro _ _ _ _ _ p E ⟨e,f,k,c,B,H,C,y,⟨⟩,⟨⟩,i,D,bp,w,o,t,a⟩
  replace a:o5 g d p e f k c y=some M:=a
  obtain _|p:=p
  ·cases a
  rw[o5.eq_2]at a
  obtain⟨rfl,bM⟩:=Sl.len t
  refine ifB a (λaV a=>?_) λaV a=>?_
  ·refine ifB a (λaW a=>?_) λaW a=>?_
   ·refine ldI a (K0.mono (j.trans i) n) λcf bq a=>?_
    refine ifB a (λaX a=>?_) λaX a=>?_
    ·refine Or.inr (Or.inr (Or.inl (aI (aI (by kernel_rfl) (by kernel_rfl)) ?_)))
     obtain⟨aq,aP,a⟩:=B0 a
     obtain⟨aC,bl,aL,bc⟩:=Sl.getI (r:=Wp.int.toRp) (K0.mono (j.trans i) n) aP (by decide)
     obtain⟨rfl,a0⟩:=bc
     refine Or.inl (eX (.hel (.slice l g.length m) f 1 0) (aI ?_ ?_))
     ·intro bu bY
      exact aI aC (aI rfl (aI rfl rfl))
     refine Or.inl (eX (.val (.int .i64 aq)) (aI ?_ ?_))
     ·intro bv bg
      exact eX _ (aI (i6.up bg aL) (aI rfl (aI rfl rfl)))
     refine Or.inl (eX (.agg [.val (.int .i64 e),.val (.int .i64 aq),.val (.int .i64 c)]) (aI ?_ ?_))
     ·intro bx bZ
      exact aI rfl (aI rfl rfl)
     refine Or.inr ?_
     refine Or.inr ?_
     refine Or.inl (eX 1 (aI (aI rfl rfl) ?_))
     refine trM a (t00 _ _ _ _ _ t _ _ (E1 D a0 o)) ?_
     rintro ar a ca a2 ⟨ay,bU,aG,rfl,ak⟩
     have af:Sub E a2:=ak.sub
     have ab:=ak.r
     obtain⟨rfl,bO⟩:=Sl.len ab
     refine aI (aI rfl af) (aI (by first|exact trivial|exact rfl) ?_)
     refine aT ?_
     exact D1 p ⟨c,(IntKind.i64.wrap (f+1)),k,(IntKind.i64.wrap (c+1)),ay,ar.length,aG,ar,rfl,rfl,(i.trans af),o,(F0 _),w,(F0 _),ab,a⟩
    ·refine Or.inr (Or.inr (Or.inl (aI (aI (by kernel_rfl) (by kernel_rfl)) ?_)))
     obtain⟨z,aQ,a⟩:=B0 a
     obtain⟨aD,bm,aM,bd⟩:=Sl.getI (r:=Wp.int.toRp) (K0.mono (j.trans i) n) aQ (by decide)
     obtain⟨rfl,br⟩:=bd
     refine Or.inl (eX (.hel (.slice l g.length m) f 1 0) (aI ?_ ?_))
     ·intro bz b0
      exact aI aD (aI rfl (aI rfl rfl))
     refine Or.inl (eX (.val (.int .i64 z)) (aI ?_ ?_))
     ·intro bA bh
      exact eX _ (aI (i6.up bh aM) (aI rfl (aI rfl rfl)))
     refine Or.inl (eX (.val (.int .i64 (IntKind.i64.wrap (0-z)))) (aI ?_ ?_))
     ·intro bB b1
      exact aI rfl (aI rfl rfl)
     refine Or.inl (eX (.agg [.val (.int .i64 c),.val (.int .i64 (IntKind.i64.wrap (0-z))),.val (.int .i64 e)]) (aI ?_ ?_))
     ·intro bC b2
      exact aI rfl (aI rfl rfl)
     refine Or.inr ?_
     refine Or.inr ?_
     refine Or.inl (eX 1 (aI (aI rfl rfl) ?_))
     refine trM a (t00 _ _ _ _ _ t [.int .i64 c,.int .i64 (IntKind.i64.wrap (0-z)),.int .i64 e] (c,(IntKind.i64.wrap (0-z)),e) (E1 o (F0 _) D)) ?_
     rintro au a cb a3 ⟨az,bV,aH,rfl,al⟩
     have ag:Sub E a3:=al.sub
     have ac:=al.r
     obtain⟨rfl,bP⟩:=Sl.len ac
     refine aI (aI rfl ag) (aI (by first|exact trivial|exact rfl) ?_)
     refine aT ?_
     exact D1 p ⟨c,(IntKind.i64.wrap (f+1)),k,(IntKind.i64.wrap (c+1)),az,au.length,aH,au,rfl,rfl,(i.trans ag),o,(F0 _),w,(F0 _),ac,a⟩
   ·refine ldI a (K0.mono (j.trans i) n) λch bs a=>?_
    refine ifB a (λaY a=>?_) λaY a=>?_
    ·refine Or.inr (Or.inr (Or.inl (aI (aI (by kernel_rfl) (by kernel_rfl)) ?_)))
     obtain⟨av,aR,a⟩:=B0 a
     obtain⟨aE,bn,aN,be⟩:=Sl.getI (r:=Wp.int.toRp) (K0.mono (j.trans i) n) aR (by decide)
     obtain⟨rfl,a1⟩:=be
     refine Or.inl (eX (.hel (.slice l g.length m) f 1 0) (aI ?_ ?_))
     ·intro bD b3
      exact aI aE (aI rfl (aI rfl rfl))
     refine Or.inl (eX (.val (.int .i64 av)) (aI ?_ ?_))
     ·intro bE bi
      exact eX _ (aI (i6.up bi aN) (aI rfl (aI rfl rfl)))
     refine Or.inl (eX (.agg [.val (.int .i64 e),.val (.int .i64 av),.val (.int .i64 d)]) (aI ?_ ?_))
     ·intro bF b4
      exact aI rfl (aI rfl rfl)
     refine Or.inr ?_
     refine Or.inr ?_
     refine Or.inl (eX 1 (aI (aI rfl rfl) ?_))
     refine trM a (t00 _ _ _ _ _ t _ _ (E1 D a1 u)) ?_
     rintro aw a cc a4 ⟨aA,bW,aJ,rfl,am⟩
     have ah:Sub E a4:=am.sub
     have ad:=am.r
     obtain⟨rfl,bQ⟩:=Sl.len ad
     refine aI (aI rfl ah) (aI (by first|exact trivial|exact rfl) ?_)
     refine aT ?_
     exact D1 p ⟨d,(IntKind.i64.wrap (f+1)),k,c,aA,aw.length,aJ,aw,rfl,rfl,(i.trans ah),u,(F0 _),w,o,ad,a⟩
    ·refine Or.inr (Or.inr (Or.inl (aI (aI (by kernel_rfl) (by kernel_rfl)) ?_)))
     obtain⟨A,aS,a⟩:=B0 a
     obtain⟨aF,bo,aO,bf⟩:=Sl.getI (r:=Wp.int.toRp) (K0.mono (j.trans i) n) aS (by decide)
     obtain⟨rfl,bt⟩:=bf
     refine Or.inl (eX (.hel (.slice l g.length m) f 1 0) (aI ?_ ?_))
     ·intro bG b5
      exact aI aF (aI rfl (aI rfl rfl))
     refine Or.inl (eX (.val (.int .i64 A)) (aI ?_ ?_))
     ·intro bH bj
      exact eX _ (aI (i6.up bj aO) (aI rfl (aI rfl rfl)))
     refine Or.inl (eX (.val (.int .i64 (IntKind.i64.wrap (0-A)))) (aI ?_ ?_))
     ·intro bI b6
      exact aI rfl (aI rfl rfl)
     refine Or.inl (eX (.agg [.val (.int .i64 d),.val (.int .i64 (IntKind.i64.wrap (0-A))),.val (.int .i64 e)]) (aI ?_ ?_))
     ·intro bJ b7
      exact aI rfl (aI rfl rfl)
     refine Or.inr ?_
     refine Or.inr ?_
     refine Or.inl (eX 1 (aI (aI rfl rfl) ?_))
     refine trM a (t00 _ _ _ _ _ t [.int .i64 d,.int .i64 (IntKind.i64.wrap (0-A)),.int .i64 e] (d,(IntKind.i64.wrap (0-A)),e) (E1 u (F0 _) D)) ?_
     rintro ax a cd a5 ⟨aB,bX,aK,rfl,an⟩
     have ai:Sub E a5:=an.sub
     have ae:=an.r
     obtain⟨rfl,bR⟩:=Sl.len ae
     refine aI (aI rfl ai) (aI (by first|exact trivial|exact rfl) ?_)
     refine aT ?_
     exact D1 p ⟨d,(IntKind.i64.wrap (f+1)),k,c,aB,ax.length,aK,ax,rfl,rfl,(i.trans ai),u,(F0 _),w,o,ae,a⟩
  ·obtain rfl:=oJ a
   try dsimp only[M0,O0]at b
   obtain rfl:=oJ b
   exact⟨([.int .i64 k,.int .i64 c,.slice B y.length C]),rfl,(j0 w o t),(j.trans i)⟩
theorem i0e(h:Hp)(f:List Value)(i:l0)(A:C0.R h f i)(b:Option Addr)(g c:Nat)(d:D0)(k:K0.R h [.slice b g c] d)(r:l0×Bool)(a:m02 i d=some r):
  Tr Tryz.prog 170 #[.agg f.toArray,.slice b g c] h λv h'=>∃(e:List Value),v = .tuple #[.agg e.toArray,.bool r.2]/\C0.R h' e r.1/\Sub h h':=by
 obtain⟨x,y,n,L,p,z,rfl,rfl,s,t,j⟩:=H0 A
 obtain⟨rfl,I⟩:=Sl.len j
 obtain⟨rfl,J⟩:=Sl.len k
 unfold m02 at a
 dsimp only at a
 refine V1 (args:=[.agg #[.int .i64 x,.int .i64 y,.slice n z.length p],.slice b d.length c]) (fn:=Tryz.f170) rfl ?_
 refine trM a (q09 _ _ _ (j0 s t j) 0 (by decide) _ _ _ _ k 0 (by decide)) ?_
 rintro C a N H ⟨G,rfl,l,B⟩
 obtain⟨O,P⟩:=C
 dsimp only at a l
 obtain⟨D,E,o,M,q,F,rfl,rfl,u,w,m⟩:=H0 l
 obtain⟨rfl,K⟩:=Sl.len m
 try dsimp only at a
 obtain rfl:=oJ a
 exact⟨([.int .i64 D,.int .i64 E,.slice o F.length q]),rfl,(j0 u w m),B⟩
theorem j0e(h:Hp)(w:Int)(Q:I0 w)(p:Option Addr)(U s:Nat)(l:N1)(D:R3.R h [.slice p U s] l)(r:l0×Bool)(b:n02 w l=some r):
  Tr Tryz.prog 85 #[.int .i64 w,.slice p U s] h λv h'=>∃(L:List Value),v = .tuple #[.agg L.toArray,.bool r.2]/\C0.R h' L r.1/\Sub h h':=by
 obtain⟨rfl,bg⟩:=Sl.len D
 unfold n02 at b
 refine V1 (args:=[.int .i64 w,.slice p l.length s]) (fn:=Tryz.f85) rfl ?_
 refine trV b (e0e _ w Q p l.length s l D) λbv b=>?_
 refine ifB b (λaq b=>?_) λaq b=>?_
 ·obtain rfl:=oJ b
  exact⟨([.int .i64 0,.int .i64 0,.slice none 0 0]),rfl,(j0 (by decide) (by decide) (m08 M1 h)),(Sub.refl _)⟩
 ·refine trM b (h0e _ _ Q) ?_
  rintro aR b bu aD ⟨aY,rfl,V,Z⟩
  obtain⟨bx,bz⟩:=aR
  dsimp only at b V
  obtain⟨aS,aU,ac,bn,ah,aa,rfl,rfl,ar,au,W⟩:=H0 V
  obtain⟨rfl,bj⟩:=Sl.len W
  try dsimp only at b
  obtain⟨I,ao,b⟩:=B0 b
  refine eX { vars:=[8],boxes:=[1],owns:=[],fuel:=true } (eX (λvs os h'=>∃ n u8 o y C z x,vs.tail = [.int .i64 n,.int .i64 u8,.int .i64 o,.slice y C z]/\os = []/\Sub aD h'/\I0 n/\I0 u8/\I0 o/\N0.R h' [.slice y C z] x/\D7 l (C1 vs) n u8 o x=some I) (eX (λ_ _=>0) (aI (eX P0 ⟨0,aS,aU,ac,aa.length,ah,aa,rfl,rfl,(Sub.refl _),(by decide),ar,au,W,ao⟩) ?_)))
  rintro _ _ _ _ A a3 ⟨n,u8,o,y,C,z,x,⟨⟩,⟨⟩,G,a0,S,T,E,c⟩
  replace c:D7 l A n u8 o x=some I:=c
  obtain _|A:=A
  ·cases c
  rw[D7.eq_2]at c
  obtain⟨rfl,bh⟩:=Sl.len E
  refine ifB c (λap c=>?_) λap c=>?_
  ·refine Or.inr (Or.inr (Or.inr (Or.inr (eX 10 (aI (aI (by kernel_rfl) (by kernel_rfl)) ?_)))))
   obtain⟨aO,am,c⟩:=B0 c
   obtain⟨af,aW,ak,F⟩:=Sl.getI (r:=K0.toRp) (R3.mono (Z.trans G) D) am (by decide)
   obtain⟨ab,bm,ag,rfl⟩:=Wp.slice_cell F
   obtain⟨rfl,bi⟩:=Sl.len F
   refine Or.inl (eX (.hel (.slice p l.length s) n 1 0) (aI ?_ ?_))
   ·intro a4 bq
    exact aI af (aI rfl (aI rfl rfl))
   refine Or.inl (eX (.val (.slice ab aO.length ag)) (aI ?_ ?_))
   ·intro a5 aM
    exact eX _ (aI (i6.up aM ak) (aI rfl (aI rfl rfl)))
   obtain⟨aP,an,c⟩:=B0 c
   obtain⟨aQ,H⟩:=aP
   try dsimp only at c
   obtain⟨j,k,a⟩:=aQ
   try dsimp only at c
   refine Or.inr (eX (λv g=>∃(i:Value),v = .tuple #[i,.bool H]/\(λv g=>∃(d:Option Addr) (f:Nat),v = .agg #[.int .i64 j,.int .i64 k,.slice d a.length f]/\I0 j/\I0 k/\N0.R g [.slice d a.length f] a/\a.length<=9223372036854775807) i g) (aI (λv O P m q=>by obtain⟨i,e,B⟩:=q;exact⟨i,e,(by obtain⟨d,f,e,t,u,f2,f3⟩:=B;exact⟨d,f,e,t,u,N0.mono m f2,f3⟩)⟩) (aI ?_ ?_)))
   ·intro ba Y
    refine Tr.mono (i0e _ _ _ (j0 S T (N0.mono Y E)) _ _ _ _ (K0.mono Y F) _ an) ?_
    rintro _ bf ⟨aX,rfl,aH,m⟩
    obtain⟨bA,bB,J,bo,M,bC,rfl,al,av,aw,X⟩:=H0 aH
    cases al
    obtain⟨rfl,aE⟩:=Sl.len X
    exact aI y01 (aI m ⟨(.agg #[.int .i64 j,.int .i64 k,.slice J a.length M]),rfl,⟨J,M,rfl,av,aw,X,aE⟩⟩)
   refine Or.inr (eX (λv g=>∃(i:Value),v = .tuple #[i,.bool H]/\(λv g=>∃(d:Option Addr) (f:Nat),v = .agg #[.int .i64 j,.int .i64 k,.slice d a.length f]/\I0 j/\I0 k/\N0.R g [.slice d a.length f] a/\a.length<=9223372036854775807) i g) (aI (λv O P m q=>by obtain⟨i,e,B⟩:=q;exact⟨i,e,(by obtain⟨d,f,e,t,u,f2,f3⟩:=B;exact⟨d,f,e,t,u,N0.mono m f2,f3⟩)⟩) (aI ?_ ?_)))
   ·intro bb br
    rintro _ ⟨_,rfl,⟨K,N,rfl,ax,ay,aJ,aF⟩⟩
    exact aI y01 (aI (Sub.refl _) ⟨(.agg #[.int .i64 j,.int .i64 k,.slice K a.length N]),rfl,⟨K,N,rfl,ax,ay,aJ,aF⟩⟩)
   refine Or.inr (eX (λv g=>∃(d:Option Addr) (f:Nat),v = .agg #[.int .i64 j,.int .i64 k,.slice d a.length f]/\I0 j/\I0 k/\N0.R g [.slice d a.length f] a/\a.length<=9223372036854775807) (aI (λv O P m q=>by obtain⟨d,f,e,t,u,f2,f3⟩:=q;exact⟨d,f,e,t,u,N0.mono m f2,f3⟩) (aI ?_ ?_)))
   ·intro bc bs
    rintro _ ⟨_,rfl,⟨ad,ai,rfl,az,aA,aK,aG⟩⟩
    exact aI y01 (aI (Sub.refl _) ⟨ad,ai,rfl,az,aA,aK,aG⟩)
   refine Or.inl (eX (.val (.bool H)) (aI ?_ ?_))
   ·intro bd bt
    rintro _ ⟨_,rfl,⟨aV,aZ,rfl,a1,a2,bp,bk⟩⟩
    exact aI rfl (aI rfl rfl)
   intro be aN
   rintro _ ⟨ae,aj,rfl,aB,aC,aL,bl⟩
   rintro _ _
   rintro _ _
   exact D1 A ⟨(IntKind.i64.wrap (n+1)),j,k,ae,a.length,aj,a,rfl,rfl,(G.trans aN),(F0 _),aB,aC,aL,c⟩
  ·obtain rfl:=oJ c
   try dsimp only[M0,O0]at b
   obtain rfl:=oJ b
   exact⟨([.int .i64 u8,.int .i64 o,.slice y x.length z]),rfl,(j0 S T E),(Z.trans G)⟩
theorem v0g(h:Hp)(F:List Value)(I:l0)(ac:C0.R h F I)(r:N9)(t:L02 I=some r):
  Tr Tryz.prog 283 #[.agg F.toArray] h λv h'=>∃(D:Option Addr) (H E:Nat),v = .slice D H E/\M0i.R h' [.slice D H E] r/\Sub h h':=by
 obtain⟨aa,ab,J,au,L,w,rfl,rfl,aj,ak,A⟩:=H0 ac
 obtain⟨rfl,aq⟩:=Sl.len A
 unfold L02 at t
 dsimp only at t
 refine V1 (args:=[.agg #[.int .i64 aa,.int .i64 ab,.slice J w.length L]]) (fn:=Tryz.f283) rfl ?_
 obtain⟨B,S,t⟩:=B0 t
 refine eX { vars:=[4],boxes:=[],owns:=[0],fuel:=true } (eX (λvs os h'=>∃ l z u,vs.tail = [.int .i64 l]/\os = [z]/\Sub h h'/\I0 l/\F2 (j5.R h') z u/\j8 w (C1 vs) l u=some B) (eX (λ_ _=>0) (aI (eX P0 ⟨0,[],([]:N9),rfl,rfl,(Sub.refl _),(by decide),(show F2 (j5.R h) ([]:List (List Value)) ([]:N9) from trivial),S⟩) ?_)))
 rintro _ z x Z ⟨l,aD,u,⟨⟩,⟨⟩,y,al,G,f⟩
 replace f:j8 w x l u=some B:=f
 obtain _|x:=x
 ·cases f
 rw[j8.eq_2]at f
 refine ifB f (λY f=>?_) λY f=>?_
 ·obtain⟨C,T,f⟩:=B0 f
  refine eX { vars:=[5],boxes:=[],owns:=[0],fuel:=true } (eX (λvs os h'=>∃ u8 p m,vs.tail = [.int .i64 u8]/\os = [p]/\Sub Z h'/\I0 u8/\F2 (j5.R h') p m/\J4 w l (C1 vs) u8 m=some C) (eX (λ_ _=>0) (aI (eX P0 ⟨(IntKind.i64.wrap (l+1)),z,u,rfl,rfl,(Sub.refl _),(F0 _),G,T⟩) ?_)))
  rintro _ p q k ⟨u8,aE,m,⟨⟩,⟨⟩,s,am,g,e⟩
  replace e:J4 w l q u8 m=some C:=e
  obtain _|q:=q
  ·cases e
  rw[J4.eq_2]at e
  refine ifB e (λU e=>?_) λU e=>?_
  ·refine ld e (N0.mono (y.trans s) A) λaz ah ad e=>?_
   obtain⟨c,aA,a,rfl,rfl,n,an,i⟩:=D2 ad
   try dsimp only at e
   refine ld e (N0.mono (y.trans s) A) λaB ai ae e=>?_
   obtain⟨d,aC,b,rfl,rfl,o,ao,j⟩:=D2 ae
   try dsimp only at e
   refine ifB e (λV e=>?_) λV e=>?_
   ·obtain⟨av,O,e⟩:=B0 e
    refine aI (Z0 O (by first|rw[F2.length g,F2.length (show F2 (j5.R k) ([[.int .i64 (if b<a then b else a),.int .i64 (if b>a then b else a)]]:List (List Value)) [((if b<a then b else a),(if b>a then b else a))] from⟨(O2 (D9 j i) (D9 j i)),trivial⟩)]|exact congrArg (·+1) (F2.length g))) ?_
    refine ifB e (λW e=>?_) λW e=>?_
    ·obtain⟨aw,P,e⟩:=B0 e
     refine aI (Z0 P (by first|rw[F2.length (F2.append g (show F2 (j5.R k) ([[.int .i64 (if b<a then b else a),.int .i64 (if b>a then b else a)]]:List (List Value)) [((if b<a then b else a),(if b>a then b else a))] from⟨(O2 (D9 j i) (D9 j i)),trivial⟩)),F2.length (show F2 (j5.R k) ([[.int .i64 (if d<c then d else c),.int .i64 (if d>c then d else c)]]:List (List Value)) [((if d<c then d else c),(if d>c then d else c))] from⟨(O2 (D9 o n) (D9 o n)),trivial⟩)]|exact congrArg (·+1) (F2.length (F2.append g (show F2 (j5.R k) ([[.int .i64 (if b<a then b else a),.int .i64 (if b>a then b else a)]]:List (List Value)) [((if b<a then b else a),(if b>a then b else a))] from⟨(O2 (D9 j i) (D9 j i)),trivial⟩))))) ?_
     exact D1 q ⟨(IntKind.i64.wrap (u8+1)),((p++([[.int .i64 (if b<a then b else a),.int .i64 (if b>a then b else a)]]:List (List Value)))++([[.int .i64 (if d<c then d else c),.int .i64 (if d>c then d else c)]]:List (List Value))),((m ++ [((if b<a then b else a),(if b>a then b else a))]) ++ [((if d<c then d else c),(if d>c then d else c))]),rfl,rfl,s,(F0 _),(F2.append (F2.append g (show F2 (j5.R k) ([[.int .i64 (if b<a then b else a),.int .i64 (if b>a then b else a)]]:List (List Value)) [((if b<a then b else a),(if b>a then b else a))] from⟨(O2 (D9 j i) (D9 j i)),trivial⟩)) (show F2 (j5.R k) ([[.int .i64 (if d<c then d else c),.int .i64 (if d>c then d else c)]]:List (List Value)) [((if d<c then d else c),(if d>c then d else c))] from⟨(O2 (D9 o n) (D9 o n)),trivial⟩)),e⟩
    ·exact D1 q ⟨(IntKind.i64.wrap (u8+1)),(p++([[.int .i64 (if b<a then b else a),.int .i64 (if b>a then b else a)]]:List (List Value))),(m ++ [((if b<a then b else a),(if b>a then b else a))]),rfl,rfl,s,(F0 _),(F2.append g (show F2 (j5.R k) ([[.int .i64 (if b<a then b else a),.int .i64 (if b>a then b else a)]]:List (List Value)) [((if b<a then b else a),(if b>a then b else a))] from⟨(O2 (D9 j i) (D9 j i)),trivial⟩)),e⟩
   ·refine ifB e (λX e=>?_) λX e=>?_
    ·obtain⟨ax,Q,e⟩:=B0 e
     refine aI (Z0 Q (by first|rw[F2.length g,F2.length (show F2 (j5.R k) ([[.int .i64 (if d<c then d else c),.int .i64 (if d>c then d else c)]]:List (List Value)) [((if d<c then d else c),(if d>c then d else c))] from⟨(O2 (D9 o n) (D9 o n)),trivial⟩)]|exact congrArg (·+1) (F2.length g))) ?_
     exact D1 q ⟨(IntKind.i64.wrap (u8+1)),(p++([[.int .i64 (if d<c then d else c),.int .i64 (if d>c then d else c)]]:List (List Value))),(m ++ [((if d<c then d else c),(if d>c then d else c))]),rfl,rfl,s,(F0 _),(F2.append g (show F2 (j5.R k) ([[.int .i64 (if d<c then d else c),.int .i64 (if d>c then d else c)]]:List (List Value)) [((if d<c then d else c),(if d>c then d else c))] from⟨(O2 (D9 o n) (D9 o n)),trivial⟩)),e⟩
    ·exact D1 q ⟨(IntKind.i64.wrap (u8+1)),p,m,rfl,rfl,s,(F0 _),g,e⟩
  ·obtain rfl:=oJ e
   try dsimp only[M0,O0]at f
   exact D1 x ⟨(IntKind.i64.wrap (l+1)),p,m,rfl,rfl,(y.trans s),(F0 _),g,f⟩
 ·obtain rfl:=oJ f
  try dsimp only[M0,O0]at t
  intro ay ap N
  obtain⟨K,M,rfl,af,ag,ar⟩:=S0.out (r:=j5.toRp) N G
  obtain rfl:=oJ t
  exact⟨K,u.length,M,rfl,af,(y.trans ag)⟩
theorem o0d(h:Hp)(j:List Value)(m:l0)(u:C0.R h j m)(r:d6×Bool)(a:z00 m=some r):
  Tr Tryz.prog 266 #[.agg j.toArray] h λv h'=>∃(i:List Value),v = .tuple #[.agg i.toArray,.bool r.2]/\j5.R h' i r.1/\Sub h h':=by
 obtain⟨b,c,f,F,g,d,rfl,rfl,k,l,e⟩:=H0 u
 obtain⟨rfl,D⟩:=Sl.len e
 unfold z00 at a
 dsimp only at a
 refine V1 (args:=[.agg #[.int .i64 b,.int .i64 c,.slice f d.length g]]) (fn:=Tryz.f266) rfl ?_
 refine trV a (N6 _ [.int .i64 b,.int .i64 c,.slice f d.length g] (b,c,d) (j0 k l e)) λI a=>?_
 refine ifB a (λp a=>?_) λp a=>?_
 ·obtain rfl:=oJ a
  exact⟨([.int .i64 0,.int .i64 0]),rfl,(O2 (by decide) (by decide)),(Sub.refl _)⟩
 ·refine trM a (v0g _ _ _ (j0 k l e)) ?_
  rintro J a H C ⟨z,G,B,rfl,n,o⟩
  obtain⟨rfl,E⟩:=Sl.len n
  refine ifB a (λq a=>?_) λq a=>?_
  ·obtain rfl:=oJ a
   exact⟨([.int .i64 0,.int .i64 0]),rfl,(O2 (by decide) (by decide)),o⟩
  ·refine ld a n λK A w a=>?_
   obtain⟨x,y,rfl,rfl,s,t⟩:=W03 w
   try dsimp only at a
   obtain rfl:=oJ a
   exact⟨([.int .i64 x,.int .i64 y]),rfl,(O2 s t),o⟩
theorem b0c(h:Hp)(b:Int)(l:I0 b)(c:List Value)(d:d6)(k:j5.R h c d)(r:Int)(a:e03 b d=some r):
  Tr Tryz.prog 284 #[.int .i64 b,.agg c.toArray] h λv h'=>v = .int .i64 r/\h'=h:=by
 obtain⟨i,j,rfl,rfl,m,n⟩:=W03 k
 unfold e03 at a
 dsimp only at a
 refine Tr.forget (V1 (args:=[.int .i64 b,.agg #[.int .i64 i,.int .i64 j]]) (fn:=Tryz.f284) rfl ?_)
 refine ifB a (λe a=>?_) λe a=>?_
 ·refine ifB a (λf a=>?_) λf a=>?_
  ·obtain rfl:=oJ a
   exact aI rfl (Sub.refl _)
  ·obtain rfl:=oJ a
   exact aI rfl (Sub.refl _)
 ·refine ifB a (λg a=>?_) λg a=>?_
  ·obtain rfl:=oJ a
   exact aI rfl (Sub.refl _)
  ·obtain rfl:=oJ a
   exact aI rfl (Sub.refl _)
theorem r09(h:Hp)(B:List Value)(I:l0)(am:C0.R h B I)(C:List Value)(J:d6)(an:j5.R h C J)(r:l0×Bool)(b:l8 I J=some r):
  Tr Tryz.prog 267 #[.agg B.toArray,.agg C.toArray] h λv h'=>∃(A:List Value),v = .tuple #[.agg A.toArray,.bool r.2]/\C0.R h' A r.1/\Sub h h':=by
 obtain⟨k,l,y,aH,z,e,rfl,rfl,n,D,m⟩:=H0 am
 obtain⟨rfl,aD⟩:=Sl.len m
 obtain⟨p,q,rfl,rfl,E,F⟩:=W03 an
 unfold l8 at b
 dsimp only at b
 refine V1 (args:=[.agg #[.int .i64 k,.int .i64 l,.slice y e.length z],.agg #[.int .i64 p,.int .i64 q]]) (fn:=Tryz.f267) rfl ?_
 refine trV b (N6 _ [.int .i64 k,.int .i64 l,.slice y e.length z] (k,l,e) (j0 n D m)) λaS b=>?_
 refine ifB b (λab b=>?_) λab b=>?_
 ·refine trM b (F5 _ _ _ (j0 n D m)) ?_
  rintro aX b aR al ⟨ay,rfl,O⟩
  have aq:Sub h al:=O.sub
  have ap:=O.r
  obtain⟨au,av,S,aK,U,aw,rfl,rfl,ah,ai,L⟩:=H0 ap
  obtain⟨rfl,aG⟩:=Sl.len L
  try dsimp only at b
  obtain rfl:=oJ b
  exact⟨([.int .i64 au,.int .i64 av,.slice S aw.length U]),rfl,(j0 ah ai L),aq⟩
 ·obtain⟨x,Z,b⟩:=B0 b
  refine eX { vars:=[7],boxes:=[3],owns:=[],fuel:=true } (eX (λvs os h'=>∃ d u8 c g o i f,vs.tail = [.int .i64 d,.int .i64 u8,.int .i64 c,.slice g o i]/\os = []/\Sub h h'/\I0 d/\I0 u8/\I0 c/\N0.R h' [.slice g o i] f/\P4 e p q (C1 vs) d u8 c f=some x) (eX (λ_ _=>0) (aI (eX P0 ⟨0,k,(IntKind.i64.wrap (l-1)),none,0,0,[],rfl,rfl,(Sub.refl _),(by decide),n,(F0 _),(m08 M1 h),Z⟩) ?_)))
  rintro _ _ _ _ j aj ⟨d,u8,c,g,o,i,f,⟨⟩,⟨⟩,t,az,G,H,s,a⟩
  replace a:P4 e p q j d u8 c f=some x:=a
  obtain _|j:=j
  ·cases a
  rw[P4.eq_2]at a
  obtain⟨rfl,aE⟩:=Sl.len s
  refine ifB a (λaa a=>?_) λaa a=>?_
  ·refine ld a (N0.mono t m) λaU ax ao a=>?_
   obtain⟨aV,ar,aW,rfl,rfl,ac,ad,ae⟩:=D2 ao
   try dsimp only at a
   refine Or.inr (Or.inr (Or.inl (aI (aI (by kernel_rfl) (by kernel_rfl)) ?_)))
   obtain⟨u,X,a⟩:=B0 a
   obtain⟨aL,V,a⟩:=B0 a
   have af:I0 u:=T0 V
   refine Or.inl (eX (.val (.int .i64 u)) (aI ?_ ?_))
   ·intro aA aN
    exact Tr.val (b0c _ _ ac _ _ (O2 E F) _ X) (aI rfl (aI rfl rfl))
   obtain⟨w,Y,a⟩:=B0 a
   obtain⟨aM,W,a⟩:=B0 a
   have ag:I0 w:=T0 W
   refine Or.inl (eX (.val (.int .i64 w)) (aI ?_ ?_))
   ·intro aB aO
    exact Tr.val (b0c _ _ ae _ _ (O2 E F) _ Y) (aI rfl (aI rfl rfl))
   refine Or.inl (eX (.agg [.val (.int .i64 u),.val (.int .i64 ar),.val (.int .i64 w)]) (aI ?_ ?_))
   ·intro aC aP
    exact aI rfl (aI rfl rfl)
   refine Or.inr ?_
   refine Or.inr ?_
   refine Or.inl (eX 1 (aI (aI rfl rfl) ?_))
   refine trM a (t00 _ _ _ _ _ s _ _ (E1 af ad ag)) ?_
   rintro P a aQ ak ⟨Q,aJ,T,rfl,N⟩
   have M:Sub aj ak:=N.sub
   have K:=N.r
   obtain⟨rfl,aF⟩:=Sl.len K
   refine aI (aI rfl M) (aI (by first|exact trivial|exact rfl) ?_)
   refine aT ?_
   exact D1 j ⟨(IntKind.i64.wrap (d+1)),u8,c,Q,P.length,T,P,rfl,rfl,(t.trans M),(F0 _),G,H,K,a⟩
  ·obtain rfl:=oJ a
   try dsimp only[M0,O0]at b
   obtain rfl:=oJ b
   exact⟨([.int .i64 u8,.int .i64 c,.slice g f.length i]),rfl,(j0 G H s),t⟩
theorem k0e(h:Hp)(i:List Value)(l:l0)(J:C0.R h i l)(r:l0×d6×Bool)(a:o02 l=some r):
  Tr Tryz.prog 220 #[.agg i.toArray] h λv h'=>∃(f:List Value) (g:List Value),v = .tuple #[.agg f.toArray,.agg g.toArray,.bool r.2.2]/\C0.R h' f r.1/\j5.R h' g r.2.1/\Sub h h':=by
 obtain⟨G,H,s,af,w,I,rfl,rfl,d,e,b⟩:=H0 J
 obtain⟨rfl,ac⟩:=Sl.len b
 unfold o02 at a
 dsimp only at a
 refine V1 (args:=[.agg #[.int .i64 G,.int .i64 H,.slice s I.length w]]) (fn:=Tryz.f220) rfl ?_
 refine trM a (o0d _ _ _ (j0 d e b)) ?_
 rintro N a aj E ⟨Y,rfl,m,c⟩
 obtain⟨al,am⟩:=N
 dsimp only at a m
 obtain⟨O,P,rfl,rfl,j,k⟩:=W03 m
 try dsimp only at a
 refine ifB a (λz a=>?_) λz a=>?_
 ·refine trM a (F5 _ _ _ (j0 d e (N0.mono c b))) ?_
  rintro an a ak F ⟨Z,rfl,q⟩
  have L:Sub E F:=q.sub
  have K:=q.r
  obtain⟨Q,S,t,ag,x,T,rfl,rfl,A,B,n⟩:=H0 K
  obtain⟨rfl,ad⟩:=Sl.len n
  try dsimp only at a
  obtain rfl:=oJ a
  exact⟨([.int .i64 Q,.int .i64 S,.slice t T.length x]),([.int .i64 0,.int .i64 0]),rfl,(j0 A B n),(O2 (by decide) (by decide)),(c.trans L)⟩
 ·refine trM a (r09 _ _ _ (j0 d e (N0.mono c b)) _ _ (O2 j k)) ?_
  rintro U a ai ab ⟨aa,rfl,o,M⟩
  obtain⟨ao,ap⟩:=U
  dsimp only at a o
  obtain⟨V,W,u,ah,y,X,rfl,rfl,C,D,p⟩:=H0 o
  obtain⟨rfl,ae⟩:=Sl.len p
  try dsimp only at a
  refine Or.inr (Or.inr (Or.inl (aI (aI (by kernel_rfl) (by kernel_rfl)) ?_)))
  refine Or.inr ?_
  refine Or.inr ?_
  refine Or.inl (eX 0 (aI (aI rfl rfl) ?_))
  refine aT ?_
  refine aT ?_
  obtain rfl:=oJ a
  exact⟨([.int .i64 V,.int .i64 W,.slice u X.length y]),([.int .i64 O,.int .i64 P]),rfl,(j0 C D p),(O2 j k),(c.trans M)⟩
theorem w0g(h:Hp)(B:List Value)(G:l0)(au:C0.R h B G)(r:l0×N9)(b:M02 G=some r):
  Tr Tryz.prog 136 #[.agg B.toArray] h λv h'=>∃(A:List Value) (y:Option Addr) (F z:Nat),v = .tuple #[.agg A.toArray,.slice y F z]/\C0.R h' A r.1/\M0i.R h' [.slice y F z] r.2/\Sub h h':=by
 obtain⟨ap,aq,T,aR,Y,ar,rfl,rfl,aj,ak,H⟩:=H0 au
 obtain⟨rfl,aL⟩:=Sl.len H
 unfold M02 at b
 dsimp only at b
 refine V1 (args:=[.agg #[.int .i64 ap,.int .i64 aq,.slice T ar.length Y]]) (fn:=Tryz.f136) rfl ?_
 refine trM b (F5 _ _ _ (j0 aj ak H)) ?_
 rintro a0 b aZ t ⟨aD,rfl,P⟩
 have M:Sub h t:=P.sub
 have av:=P.r
 obtain⟨aB,aC,V,aU,aa,S,rfl,rfl,an,ao,L⟩:=H0 av
 obtain⟨rfl,aO⟩:=Sl.len L
 try dsimp only at b
 obtain⟨x,ag,b⟩:=B0 b
 refine eX { vars:=[6],boxes:=[2],owns:=[0],fuel:=true } (eX (λvs os h'=>∃ g d e k u l u8 p f,vs.tail = [.int .i64 g,.int .i64 d,.int .i64 e,.slice k u l]/\os = [p]/\Sub t h'/\I0 g/\I0 d/\I0 e/\N0.R h' [.slice k u l] u8/\F2 (j5.R h') p f/\S6 (C1 vs) g d e u8 f=some x) (eX (λ_ _=>0) (aI (eX P0 ⟨0,aB,aC,V,S.length,aa,S,[],([]:N9),rfl,rfl,(Sub.refl _),(by decide),an,ao,L,(show F2 (j5.R t) ([]:List (List Value)) ([]:N9) from trivial),ag⟩) ?_)))
 rintro _ _ _ _ p n aH ⟨g,d,e,k,u,l,u8,a4,f,⟨⟩,⟨⟩,w,aG,q,s,o,m,a⟩
 replace a:S6 n g d e u8 f=some x:=a
 obtain _|n:=n
 ·cases a
 rw[S6.eq_2]at a
 obtain⟨rfl,aM⟩:=Sl.len o
 refine ifB a (λah a=>?_) λah a=>?_
 ·refine trM a (k0e _ _ _ (j0 q s o)) ?_
  rintro ay a aW E ⟨aE,aF,rfl,I,K,c⟩
  obtain⟨a1,a2,a3⟩:=ay
  dsimp only at a I K
  obtain⟨az,aA,U,aS,Z,Q,rfl,rfl,al,am,J⟩:=H0 I
  obtain⟨rfl,aN⟩:=Sl.len J
  try dsimp only at a
  obtain⟨i,j,rfl,rfl,C,D⟩:=W03 K
  try dsimp only at a
  refine ifB a (λai a=>?_) λai a=>?_
  ·intro aX aJ ad
   obtain⟨W,ab,rfl,aw,N,aP⟩:=S0.out (r:=j5.toRp) ad (F2.up (r:=j5.toRp) c m)
   obtain rfl:=oJ a
   try dsimp only[N3,O3]at b
   obtain rfl:=oJ b
   exact⟨([.int .i64 d,.int .i64 e,.slice k u8.length l]),W,f.length,ab,rfl,(j0 q s (N0.mono (c.trans N) o)),aw,(((M.trans w).trans c).trans N)⟩
  ·obtain⟨aV,af,a⟩:=B0 a
   refine aI (Z0 af (by first|rw[F2.length (F2.up (r:=j5.toRp) c m),F2.length (show F2 (j5.R E) ([[.int .i64 i,.int .i64 j]]:List (List Value)) [(i,j)] from⟨(O2 C D),trivial⟩)]|exact congrArg (·+1) (F2.length (F2.up (r:=j5.toRp) c m)))) ?_
   exact D1 n ⟨(IntKind.i64.wrap (g+1)),az,aA,U,Q.length,Z,Q,(p++([[.int .i64 i,.int .i64 j]]:List (List Value))),(f ++ [(i,j)]),rfl,rfl,(w.trans c),(F0 _),al,am,J,(F2.append (F2.up (r:=j5.toRp) c m) (show F2 (j5.R E) ([[.int .i64 i,.int .i64 j]]:List (List Value)) [(i,j)] from⟨(O2 C D),trivial⟩)),a⟩
 ·obtain rfl:=oJ a
  try dsimp only[M0,O0]at b
  intro aY aK ae
  obtain⟨X,ac,rfl,ax,O,aQ⟩:=S0.out (r:=j5.toRp) ae m
  obtain rfl:=oJ b
  exact⟨([.int .i64 d,.int .i64 e,.slice k u8.length l]),X,f.length,ac,rfl,(j0 q s (N0.mono O o)),ax,((M.trans w).trans O)⟩
theorem p0d(h:Hp)(m:List Value)(s:l0)(A:C0.R h m s)(r:l0×Bool)(a:K01 s=some r):
  Tr Tryz.prog 157 #[.agg m.toArray] h λv h'=>∃(l:List Value),v = .tuple #[.agg l.toArray,.bool r.2]/\C0.R h' l r.1/\Sub h h':=by
 obtain⟨c,b,i,G,k,d,rfl,rfl,o,p,e⟩:=H0 A
 obtain⟨rfl,E⟩:=Sl.len e
 unfold K01 at a
 dsimp only at a
 refine V1 (args:=[.agg #[.int .i64 c,.int .i64 b,.slice i d.length k]]) (fn:=Tryz.f157) rfl ?_
 refine trM a (F5 _ _ _ (j0 o p e)) ?_
 rintro J a I z ⟨D,rfl,t⟩
 have g:Sub h z:=t.sub
 have B:=t.r
 obtain⟨u,C,j,H,n,w,rfl,rfl,q,y,f⟩:=H0 B
 obtain⟨rfl,F⟩:=Sl.len f
 try dsimp only at a
 refine trV a (N6 _ [.int .i64 c,.int .i64 b,.slice i d.length k] (c,b,d) (j0 o p (N0.mono g e))) λK a=>?_
 refine ifB a (λx a=>?_) λx a=>?_
 ·obtain rfl:=oJ a
  exact⟨([.int .i64 u,.int .i64 C,.slice j w.length n]),rfl,(j0 q y f),g⟩
 ·obtain rfl:=oJ a
  exact⟨([.int .i64 u,.int .i64 (IntKind.i64.wrap (b+1)),.slice j w.length n]),rfl,(j0 q (F0 _) f),g⟩
theorem a6(h:Hp)(t:List Value)(C:l0)(M:C0.R h t C)(u:List Value)(D:Q0)(N:M1.R h u D)(r:l0×Bool)(a:N02 C D=some r):
  Tr Tryz.prog 158 #[.agg t.toArray,.agg u.toArray] h λv h'=>∃(s:List Value),v = .tuple #[.agg s.toArray,.bool r.2]/\New C0 h h' s r.1:=by
 obtain⟨b,c,g,Z,i,d,rfl,rfl,j,k,e⟩:=H0 M
 obtain⟨rfl,W⟩:=Sl.len e
 obtain⟨l,m,n,rfl,rfl,w,x,y⟩:=D2 N
 unfold N02 at a
 dsimp only at a
 refine V1 (args:=[.agg #[.int .i64 b,.int .i64 c,.slice g d.length i],.agg #[.int .i64 l,.int .i64 m,.int .i64 n]]) (fn:=Tryz.f158) rfl ?_
 refine trM a (F5 _ _ _ (j0 j k e)) ?_
 rintro af a ae B ⟨V,rfl,o⟩
 have f:Sub h B:=o.sub
 have O:=o.r
 obtain⟨E,F,G,aa,I,T,rfl,rfl,z,A,P⟩:=H0 O
 obtain⟨rfl,X⟩:=Sl.len P
 try dsimp only at a
 have S:=New.sndI (New.sndI (o))
 refine trV a (N6 _ [.int .i64 b,.int .i64 c,.slice g d.length i] (b,c,d) (j0 j k (N0.mono f e))) λag a=>?_
 refine trG a (λq=>s0a _ [.int .i64 b,.int .i64 c,.slice g d.length i] (b,c,d) (j0 j k (N0.mono f e)) [.int .i64 l,.int .i64 m,.int .i64 n] (l,m,n) (E1 w x y)) λah a=>?_
 refine ifB a (λK a=>?_) λK a=>?_
 ·obtain rfl:=oJ a
  exact⟨([.int .i64 E,.int .i64 F,.slice G T.length I]),rfl,(New.pair (New.int z) (New.pair (New.int A) S))⟩
 ·refine trM a (t00 _ _ _ _ _ (N0.mono f e) _ _ (E1 w x y)) ?_
  rintro U a ad L ⟨H,ab,J,rfl,p⟩
  have ac:Sub B L:=p.sub
  have Q:=p.r
  obtain⟨rfl,Y⟩:=Sl.len Q
  refine Or.inr (Or.inr (Or.inl (aI (aI (by kernel_rfl) (by kernel_rfl)) ?_)))
  refine Or.inr ?_
  refine Or.inl (eX 0 (aI (aI rfl rfl) ?_))
  refine aT ?_
  obtain rfl:=oJ a
  exact⟨([.int .i64 E,.int .i64 F,.slice H U.length J]),rfl,(New.pair (New.int z) (New.pair (New.int A) (New.from p f)))⟩
theorem U09(h:Hp)(H:List Value)(N:l0)(ae:C0.R h H N)(r:Y0)(j:U8 N=some r):
  Tr Tryz.prog 156 #[.agg H.toArray] h λv h'=>∃(F:Option Addr) (M G:Nat),v = .slice F M G/\N0.R h' [.slice F M G] r/\Sub h h':=by
 obtain⟨d,e,w,ar,x,f,rfl,rfl,y,J,A⟩:=H0 ae
 obtain⟨rfl,ao⟩:=Sl.len A
 unfold U8 at j
 dsimp only at j
 refine V1 (args:=[.agg #[.int .i64 d,.int .i64 e,.slice w f.length x]]) (fn:=Tryz.f156) rfl ?_
 obtain⟨D,X,j⟩:=B0 j
 refine eX { vars:=[4],boxes:=[],owns:=[0],fuel:=true } (eX (λvs os h'=>∃ c u l,vs.tail = [.int .i64 c]/\os = [u]/\Sub h h'/\I0 c/\F2 (M1.R h') u l/\Y4 e d f (C1 vs) c l=some D) (eX (λ_ _=>0) (aI (eX P0 ⟨0,[],([]:Y0),rfl,rfl,(Sub.refl _),(by decide),(show F2 (M1.R h) ([]:List (List Value)) ([]:Y0) from trivial),X⟩) ?_)))
 rintro _ u s an ⟨c,aB,l,⟨⟩,⟨⟩,t,z,I,b⟩
 replace b:Y4 e d f s c l=some D:=b
 obtain _|s:=s
 ·cases b
 rw[Y4.eq_2]at b
 refine trG b (λq=>l00 _ [.int .i64 d,.int .i64 e,.slice w f.length x] (d,e,f) (j0 y J (N0.mono t A))) λaz b=>?_
 refine ifB b (λab b=>?_) λab b=>?_
 ·refine trM b (i03 _ _ y) ?_
  rintro P b ax ad ⟨ai,au,aj,rfl,B,C⟩
  obtain⟨rfl,ap⟩:=Sl.len B
  obtain⟨E,Y,b⟩:=B0 b
  refine eX { vars:=[6],boxes:=[],owns:=[0],fuel:=true } (eX (λvs os h'=>∃ g m i,vs.tail = [.int .i64 g]/\os = [m]/\Sub ad h'/\I0 g/\F2 (M1.R h') m i/\Y3 P d e f c (C1 vs) g i=some E) (eX (λ_ _=>0) (aI (eX P0 ⟨0,u,l,rfl,rfl,(Sub.refl _),(by decide),(F2.up (r:=M1.toRp) C I),Y⟩) ?_)))
  rintro _ m p L ⟨g,aA,i,⟨⟩,⟨⟩,k,ak,o,a⟩
  replace a:Y3 P d e f c p g i=some E:=a
  obtain _|p:=p
  ·cases a
  rw[Y3.eq_2]at a
  refine ifB a (λZ a=>?_) λZ a=>?_
  ·refine Or.inl (aI (aI (by kernel_rfl) (by kernel_rfl)) ?_)
   refine ldI a (K0.mono k B) λah ac a=>?_
   obtain⟨O,W,a⟩:=B0 a
   refine eX (.int .i64 O) (aI (e00 _ [.int .i64 d,.int .i64 e,.slice w f.length x] (d,e,f) (j0 y J (N0.mono ((t.trans C).trans k) A)) c z ah ac _  W) ?_)
   obtain⟨av,U,a⟩:=B0 a
   have al:I0 O:=T0 U
   refine ifB a (λaa a=>?_) λaa a=>?_
   ·refine ldI a (K0.mono k B) λn K a=>?_
    obtain⟨aw,V,a⟩:=B0 a
    refine aI (Z0 V (by first|rw[F2.length o,F2.length (show F2 (M1.R L) ([[.int .i64 c,.int .i64 n,.int .i64 (-1)]]:List (List Value)) [(c,n,(-1))] from⟨(E1 z K (by decide)),trivial⟩)]|exact congrArg (·+1) (F2.length o))) ?_
    exact D1 p ⟨(IntKind.i64.wrap (g+1)),(m++([[.int .i64 c,.int .i64 n,.int .i64 (-1)]]:List (List Value))),(i ++ [(c,n,(-1))]),rfl,rfl,k,(F0 _),(F2.append o (show F2 (M1.R L) ([[.int .i64 c,.int .i64 n,.int .i64 (-1)]]:List (List Value)) [(c,n,(-1))] from⟨(E1 z K (by decide)),trivial⟩)),a⟩
   ·exact D1 p ⟨(IntKind.i64.wrap (g+1)),m,i,rfl,rfl,k,(F0 _),o,a⟩
  ·obtain rfl:=oJ a
   try dsimp only[M0,O0]at b
   exact D1 s ⟨(IntKind.i64.wrap (c+1)),m,i,rfl,rfl,((t.trans C).trans k),(F0 _),o,b⟩
 ·obtain rfl:=oJ b
  try dsimp only[M0,O0]at j
  intro ay am T
  obtain⟨Q,S,rfl,af,ag,aq⟩:=S0.out (r:=M1.toRp) T I
  obtain rfl:=oJ j
  exact⟨Q,l.length,S,rfl,af,(t.trans ag)⟩
theorem q0d(h:Hp)(ai:List Value)(an:l0)(a4:C0.R h ai an)(r:l0×D0)(c:M01 an=some r):
  Tr Tryz.prog 221 #[.agg ai.toArray] h λv h'=>∃(ah:List Value) (af:Option Addr) (am ag:Nat),v = .tuple #[.agg ah.toArray,.slice af am ag]/\C0.R h' ah r.1/\K0.R h' [.slice af am ag] r.2/\Sub h h':=by
 obtain⟨A,B,az,bC,aE,C,rfl,rfl,T,U,N⟩:=H0 a4
 obtain⟨rfl,bs⟩:=Sl.len N
 unfold M01 at c
 dsimp only at c
 refine V1 (args:=[.agg #[.int .i64 A,.int .i64 B,.slice az C.length aE]]) (fn:=Tryz.f221) rfl ?_
 refine trM c (F5 _ _ _ (j0 T U N)) ?_
 rintro bO c bK V ⟨bj,rfl,aw⟩
 have Q:Sub h V:=aw.sub
 have a5:=aw.r
 obtain⟨bd,be,aA,bD,aF,ax,rfl,rfl,a0,a1,ao⟩:=H0 a5
 obtain⟨rfl,bv⟩:=Sl.len ao
 try dsimp only at c
 obtain⟨ae,aU,c⟩:=B0 c
 refine eX { vars:=[6],boxes:=[],owns:=[0],fuel:=true } (eX (λvs os h'=>∃ e S k,vs.tail = [.int .i64 e]/\os = [S]/\Sub V h'/\I0 e/\F2 (Wp.int.R h') S k/\E6 B A C (C1 vs) e k=some ae) (eX (λ_ _=>0) (aI (eX P0 ⟨0,[],([]:D0),rfl,rfl,(Sub.refl _),(by decide),(show F2 (Wp.int.R V) ([]:List (List Value)) ([]:D0) from trivial),aU⟩) ?_)))
 rintro _ S M X ⟨e,bV,k,⟨⟩,⟨⟩,l,ak,H,a⟩
 replace a:E6 B A C M e k=some ae:=a
 obtain _|M:=M
 ·cases a
 rw[E6.eq_2]at a
 refine trG a (λq=>N6 _ _ _ (j0 T U (N0.mono (Q.trans l) N))) λbS a=>?_
 refine ifB a (λaV a=>?_) λaV a=>?_
 ·obtain⟨bF,aN,a⟩:=B0 a
  refine aI (Z0 aN (by first|rw[F2.length H,F2.length (show F2 (Wp.int.R X) ([[.int .i64 e]]:List (List Value)) [e] from⟨⟨rfl,ak⟩,trivial⟩)]|exact congrArg (·+1) (F2.length H))) ?_
  exact D1 M ⟨(IntKind.i64.wrap (e+1)),(S++([[.int .i64 e]]:List (List Value))),(k ++ [e]),rfl,rfl,l,(F0 _),(F2.append H (show F2 (Wp.int.R X) ([[.int .i64 e]]:List (List Value)) [e] from⟨⟨rfl,ak⟩,trivial⟩)),a⟩
 ·obtain rfl:=oJ a
  try dsimp only[M0,O0]at c
  obtain⟨ac,aR,c⟩:=B0 c
  refine eX { vars:=[5,7],boxes:=[2],owns:=[],fuel:=true,pubs:=[5] } (eX (λvs os h'=>∃(s:Option Addr) (Y u:Nat) (g:D0) (m:Int) (j:Int) (f:Int) (t:Option Addr) (Z w:Nat) (n:Y0),vs.tail = [.slice s Y u,.int .i64 m,.int .i64 j,.int .i64 f,.slice t Z w]/\os = []/\Sub X h'/\K0.R h' [.slice s Y u] g/\I0 m/\I0 j/\I0 f/\N0.R h' [.slice t Z w] n/\D6 A B C (C1 vs) g m j f n=some ac) (eX (λ_ _=>0) ?_))
  intro bJ bo aK
  obtain⟨aC,aH,rfl,ba,au,bz⟩:=S0.out (r:=Wp.int.toRp) aK H
  refine aI (eX P0 ⟨aC,k.length,aH,k,0,bd,be,aA,ax.length,aF,ax,rfl,rfl,au,ba,(by decide),a0,a1,(N0.mono (l.trans au) ao),aR⟩) ?_
  rintro _ _ _ _ _ L W ⟨s,Y,u,g,m,j,f,t,Z,w,n,⟨⟩,⟨⟩,P,O,bm,I,J,D,a⟩
  replace a:D6 A B C L g m j f n=some ac:=a
  obtain _|L:=L
  ·cases a
  rw[D6.eq_2]at a
  obtain⟨rfl,bt⟩:=Sl.len O
  obtain⟨rfl,bu⟩:=Sl.len D
  refine trG a (λq=>N6 _ _ _ (j0 T U (N0.mono ((Q.trans l).trans P) N))) λbP a=>?_
  refine ifB a (λaW a=>?_) λaW a=>?_
  ·refine trV a (u0a _ _ _ (j0 I J D)) λab a=>?_
   obtain⟨bG,aO,a⟩:=B0 a
   have bn:I0 ab:=T0 aO
   refine ifB a (λaX a=>?_) λaX a=>?_
   ·obtain rfl:=oJ a
    try dsimp only[N3,O3]at c
    obtain rfl:=oJ c
    exact⟨([.int .i64 j,.int .i64 f,.slice t n.length w]),s,g.length,u,rfl,(j0 I J D),O,((Q.trans l).trans P)⟩
   ·obtain⟨ad,aS,a⟩:=B0 a
    refine eX { vars:=[11],boxes:=[],owns:=[1,2],fuel:=true } (eX (λvs os h'=>∃ d F o G i,vs.tail = [.int .i64 d]/\os = [F,G]/\Sub W h'/\I0 d/\F2 (Wp.int.R h') F o/\F2 (Wp.int.R h') G i/\P5 f ab g (C1 vs) d o i=some ad) (eX (λ_ _=>0) (aI (eX P0 ⟨0,[],([]:D0),[],([]:D0),rfl,rfl,(Sub.refl _),(by decide),(show F2 (Wp.int.R W) ([]:List (List Value)) ([]:D0) from trivial),(show F2 (Wp.int.R W) ([]:List (List Value)) ([]:D0) from trivial),aS⟩) ?_)))
    rintro _ F G z K ⟨d,bT,o,bU,i,⟨⟩,⟨⟩,E,aj,x,y,b⟩
    replace b:P5 f ab g z d o i=some ad:=b
    obtain _|z:=z
    ·cases b
    rw[P5.eq_2]at b
    refine ifB b (λaY b=>?_) λaY b=>?_
    ·refine ifB b (λaZ b=>?_) λaZ b=>?_
     ·obtain⟨bH,aP,b⟩:=B0 b
      refine aI (Z0 aP (by first|rw[F2.length x,F2.length (show F2 (Wp.int.R K) ([[.int .i64 d]]:List (List Value)) [d] from⟨⟨rfl,aj⟩,trivial⟩)]|exact congrArg (·+1) (F2.length x))) ?_
      refine ldI b (K0.mono E O) λp al b=>?_
      obtain⟨bI,aQ,b⟩:=B0 b
      refine aI (Z0 aQ (by first|rw[F2.length y,F2.length (show F2 (Wp.int.R K) ([[.int .i64 p]]:List (List Value)) [p] from⟨⟨rfl,al⟩,trivial⟩)]|exact congrArg (·+1) (F2.length y))) ?_
      exact D1 z ⟨(IntKind.i64.wrap (d+1)),(F++([[.int .i64 d]]:List (List Value))),(o ++ [d]),(G++([[.int .i64 p]]:List (List Value))),(i ++ [p]),rfl,rfl,E,(F0 _),(F2.append x (show F2 (Wp.int.R K) ([[.int .i64 d]]:List (List Value)) [d] from⟨⟨rfl,aj⟩,trivial⟩)),(F2.append y (show F2 (Wp.int.R K) ([[.int .i64 p]]:List (List Value)) [p] from⟨⟨rfl,al⟩,trivial⟩)),b⟩
     ·exact D1 z ⟨(IntKind.i64.wrap (d+1)),F,o,G,i,rfl,rfl,E,(F0 _),x,y,b⟩
    ·obtain rfl:=oJ b
     try dsimp only[M0,O0]at a
     refine Or.inl ?_
     intro bL bp aL
     obtain⟨bi,bl,rfl,bb,aa,bA⟩:=S0.out (r:=Wp.int.toRp) aL x
     refine trM a (V02 _ _ _ (j0 I J (N0.mono (E.trans aa) D)) _ _ _ _ bb) ?_
     rintro bf a bM bq ⟨bk,rfl,ap,ar⟩
     obtain⟨bQ,bR⟩:=bf
     dsimp only at a ap
     obtain⟨bg,bh,aB,bE,aG,ay,rfl,rfl,a2,a3,aq⟩:=H0 ap
     obtain⟨rfl,bx⟩:=Sl.len aq
     try dsimp only at a
     intro bN br aM
     obtain⟨aD,aJ,rfl,bc,av,bB⟩:=S0.out (r:=Wp.int.toRp) aM (F2.up (r:=Wp.int.toRp) (aa.trans ar) y)
     exact D1 L ⟨aD,i.length,aJ,i,(IntKind.i64.wrap (m+1)),bg,bh,aB,ay.length,aG,ay,rfl,rfl,((((P.trans E).trans aa).trans ar).trans av),bc,(F0 _),a2,a3,(N0.mono av aq),a⟩
  ·obtain rfl:=oJ a
   try dsimp only[M0,O0]at c
   obtain rfl:=oJ c
   exact⟨([.int .i64 j,.int .i64 f,.slice t n.length w]),s,g.length,u,rfl,(j0 I J D),O,((Q.trans l).trans P)⟩
theorem k03(h:Hp)(c:List Value)(d:l0)(E:C0.R h c d)(r:l0)(a:c6 d=some r):
  Tr Tryz.prog 137 #[.agg c.toArray] h λv h'=>∃(b:List Value),v = .agg b.toArray/\C0.R h' b r/\Sub h h':=by
 obtain⟨B,C,n,aj,p,D,rfl,rfl,s,t,e⟩:=H0 E
 obtain⟨rfl,ad⟩:=Sl.len e
 unfold c6 at a
 dsimp only at a
 refine V1 (args:=[.agg #[.int .i64 B,.int .i64 C,.slice n D.length p]]) (fn:=Tryz.f137) rfl ?_
 refine trM a (w0g _ _ _ (j0 s t e)) ?_
 rintro J a ap aa ⟨T,P,al,X,rfl,f,i,G⟩
 obtain⟨au,ay⟩:=J
 dsimp only at a f i
 obtain⟨av,aw,O,ak,W,ax,rfl,rfl,u,w,g⟩:=H0 f
 obtain⟨rfl,ae⟩:=Sl.len g
 try dsimp only at a
 obtain⟨rfl,af⟩:=Sl.len i
 refine trM a (q0d _ _ _ (j0 u w g)) ?_
 rintro K a aq ab ⟨U,S,an,Z,rfl,j,l,H⟩
 obtain⟨az,aD⟩:=K
 dsimp only at a j l
 obtain⟨aA,aB,Q,am,Y,aC,rfl,rfl,x,y,k⟩:=H0 j
 obtain⟨rfl,ag⟩:=Sl.len k
 try dsimp only at a
 obtain⟨rfl,ah⟩:=Sl.len l
 refine trM a (n04 _ _ _ (j0 x y k)) ?_
 rintro aE a ar ac ⟨V,rfl,F,I⟩
 obtain⟨L,M,o,ao,q,N,rfl,rfl,z,A,m⟩:=H0 F
 obtain⟨rfl,ai⟩:=Sl.len m
 try dsimp only at a
 obtain rfl:=oJ a
 exact⟨([.int .i64 L,.int .i64 M,.slice o N.length q]),rfl,(j0 z A m),((G.trans H).trans I)⟩
theorem X02(h:Hp)(j:List Value)(n:l0)(D:C0.R h j n)(r:Bool)(b:F6 n=some r):
  Tr Tryz.prog 105 #[.agg j.toArray] h λv h'=>v = .bool r/\h'=h:=by
 obtain⟨A,B,p,W,t,C,rfl,rfl,k,m,g⟩:=H0 D
 obtain⟨rfl,U⟩:=Sl.len g
 unfold F6 at b
 dsimp only at b
 refine Tr.forget (V1 (args:=[.agg #[.int .i64 A,.int .i64 B,.slice p C.length t]]) (fn:=Tryz.f105) rfl ?_)
 refine aI (by kernel_rfl) ?_
 obtain⟨H,w,b⟩:=B0 b
 refine Or.inl (eX (.val (.bool H)) (aI ?_ ?_))
 ·intro P F
  exact Tr.val (f00 _ _ _ (j0 k m (N0.mono F g)) _ w) (aI rfl (aI rfl rfl))
 obtain⟨d,x,b⟩:=B0 b
 refine Or.inr (eX (λv y=>∃(a:Option Addr) (c:Nat),v = .slice a d.length c/\N0.R y [.slice a d.length c] d/\d.length<=9223372036854775807) (aI (λv L M i q=>by obtain⟨a,c,e,r,l⟩:=q;exact⟨a,c,e,N0.mono i r,l⟩) (aI ?_ ?_)))
 ·intro Q G f
  refine Tr.mono (U09 _ _ _ (j0 k m (N0.mono G g)) _ (W5 x f)) ?_
  rintro _ T ⟨s,X,u,rfl,o,i⟩
  obtain⟨rfl,z⟩:=Sl.len o
  exact aI y01 (aI i ⟨s,u,rfl,o,z⟩)
 obtain⟨Y,K,b⟩:=B0 b
 refine Or.inl (eX (.val (.int .i64 ((d.length:Nat):Int))) (aI ?_ ?_))
 ·intro S ab f
  rintro _ ⟨I,J,rfl,Z,V⟩
  exact aI rfl (aI rfl rfl)
 refine Or.inl (eX (.val (.bool (decide (((d.length:Nat):Int)=0)))) (aI ?_ ?_))
 ·intro N aa f
  exact aI rfl (aI rfl rfl)
 intro O E
 obtain rfl:=oJ b
 exact aI rfl E
theorem Z00(h:Hp)(p:List Value)(w:l0)(Z:C0.R h p w)(c:Int)(s:I0 c)(r:l0×Bool)(a:K4 w c=some r):
  Tr Tryz.prog 106 #[.agg p.toArray,.int .i64 c] h λv h'=>∃(o:List Value),v = .tuple #[.agg o.toArray,.bool r.2]/\C0.R h' o r.1/\Sub h h':=by
 obtain⟨X,i,D,aE,G,Y,rfl,rfl,l,m,j⟩:=H0 Z
 obtain⟨rfl,az⟩:=Sl.len j
 unfold K4 at a
 dsimp only at a
 refine V1 (args:=[.agg #[.int .i64 X,.int .i64 i,.slice D Y.length G],.int .i64 c]) (fn:=Tryz.f106) rfl ?_
 refine trV a (l00 _ _ _ (j0 l m j)) λaO a=>?_
 refine trG a (λq=>E3 _ _ s 0 (by decide) (IntKind.i64.wrap (i-1)) (F0 _)) λaV a=>?_
 refine ifB a (λO a=>?_) λO a=>?_
 ·refine trM a (F5 _ _ _ (j0 l m j)) ?_
  rintro aX a aN W ⟨ar,rfl,C⟩
  have af:Sub h W:=C.sub
  have ab:=C.r
  obtain⟨ak,al,F,aH,I,am,rfl,rfl,U,V,A⟩:=H0 ab
  obtain⟨rfl,aC⟩:=Sl.len A
  try dsimp only at a
  obtain rfl:=oJ a
  exact⟨([.int .i64 ak,.int .i64 al,.slice F am.length I]),rfl,(j0 U V A),af⟩
 ·obtain⟨n,L,a⟩:=B0 a
  refine eX { vars:=[7],boxes:=[],owns:=[0],fuel:=true } (eX (λvs os h'=>∃ u8 g d,vs.tail = [.int .i64 u8]/\os = [g]/\Sub h h'/\I0 u8/\F2 (Wp.int.R h') g d/\R4 i c (C1 vs) u8 d=some n) (eX (λ_ _=>0) (aI (eX P0 ⟨0,([[.int .i64 c]]:List (List Value)),[c],rfl,rfl,(Sub.refl _),(by decide),(show F2 (Wp.int.R h) ([[.int .i64 c]]:List (List Value)) [c] from⟨⟨rfl,s⟩,trivial⟩),L⟩) ?_)))
  rintro _ g f u ⟨u8,aY,d,⟨⟩,⟨⟩,k,t,e,b⟩
  replace b:R4 i c f u8 d=some n:=b
  obtain _|f:=f
  ·cases b
  rw[R4.eq_2]at b
  refine ifB b (λM b=>?_) λM b=>?_
  ·refine ifB b (λN b=>?_) λN b=>?_
   ·obtain⟨aJ,K,b⟩:=B0 b
    refine aI (Z0 K (by first|rw[F2.length e,F2.length (show F2 (Wp.int.R u) ([[.int .i64 u8]]:List (List Value)) [u8] from⟨⟨rfl,t⟩,trivial⟩)]|exact congrArg (·+1) (F2.length e))) ?_
    exact D1 f ⟨(IntKind.i64.wrap (u8+1)),(g++([[.int .i64 u8]]:List (List Value))),(d ++ [u8]),rfl,rfl,k,(F0 _),(F2.append e (show F2 (Wp.int.R u) ([[.int .i64 u8]]:List (List Value)) [u8] from⟨⟨rfl,t⟩,trivial⟩)),b⟩
   ·exact D1 f ⟨(IntKind.i64.wrap (u8+1)),g,d,rfl,rfl,k,(F0 _),e,b⟩
  ·obtain rfl:=oJ b
   try dsimp only[M0,O0]at a
   refine Or.inl ?_
   intro aK aw J
   obtain⟨ao,av,rfl,ac,B,aD⟩:=S0.out (r:=Wp.int.toRp) J e
   refine trM a (V02 _ _ _ (j0 l m (N0.mono (k.trans B) j)) _ _ _ _ ac) ?_
   rintro ag a aL ax ⟨ap,rfl,x,ad⟩
   obtain⟨aP,aU⟩:=ag
   dsimp only at a x
   obtain⟨aQ,aR,an,aF,au,aS,rfl,rfl,P,Q,y⟩:=H0 x
   obtain⟨rfl,aA⟩:=Sl.len y
   try dsimp only at a
   refine trM a (k03 _ _ _ (j0 P Q y)) ?_
   rintro aW a aM ay ⟨aq,rfl,aa,ae⟩
   obtain⟨ah,ai,E,aG,H,aj,rfl,rfl,S,T,z⟩:=H0 aa
   obtain⟨rfl,aB⟩:=Sl.len z
   try dsimp only at a
   obtain rfl:=oJ a
   exact⟨([.int .i64 ah,.int .i64 ai,.slice E aj.length H]),rfl,(j0 S T z),(((k.trans B).trans ad).trans ae)⟩
set_option maxHeartbeats 0
theorem s09(h:Hp)(m:Option Addr)(q n:Nat)(d:D0)(l:K0.R h [.slice m q n] d)(r:Bool)(c:R02 d=some r):
  Tr Tryz.prog 192 #[.slice m q n] h λv h'=>v = .bool r/\h'=h:=by
 obtain⟨rfl,G⟩:=Sl.len l
 unfold R02 at c
 refine Tr.forget (V1 (args:=[.slice m d.length n]) (fn:=Tryz.f192) rfl ?_)
 obtain⟨o,s,c⟩:=B0 c
 refine eX { vars:=[3],boxes:=[],owns:=[],fuel:=true } (eX (λvs os h'=>∃ e,vs.tail = [.int .i64 e]/\os = []/\Sub h h'/\I0 e/\L8 d (C1 vs) e=some o) (eX (λ_ _=>0) (aI (eX P0 ⟨0,rfl,rfl,(Sub.refl _),(by decide),s⟩) ?_)))
 rintro _ k A ⟨e,⟨⟩,⟨⟩,f,C,a⟩
 replace a:L8 d k e=some o:=a
 obtain _|k:=k
 ·cases a
 rw[L8.eq_2]at a
 refine ifB a (λx a=>?_) λx a=>?_
 ·refine ldI a (K0.mono f l) λJ z a=>?_
  refine trV a (E3 _ _ z 0 (by decide) (IntKind.i64.wrap (((d.length:Nat):Int)-1)) (F0 _)) λK a=>?_
  refine ifB a (λy a=>?_) λy a=>?_
  ·obtain rfl:=oJ a
   try dsimp only[N3,O3]at c
   obtain rfl:=oJ c
   exact aI rfl f
  ·obtain⟨p,t,a⟩:=B0 a
   refine eX { vars:=[4],boxes:=[],owns:=[],fuel:=true } (eX (λvs os h'=>∃ g,vs.tail = [.int .i64 g]/\os = []/\Sub A h'/\I0 g/\K8 e d (C1 vs) g=some p) (eX (λ_ _=>0) (aI (eX P0 ⟨0,rfl,rfl,(Sub.refl _),(by decide),t⟩) ?_)))
   rintro _ j F ⟨g,⟨⟩,⟨⟩,i,B,b⟩
   replace b:K8 e d j g=some p:=b
   obtain _|j:=j
   ·cases b
   rw[K8.eq_2]at b
   refine ifB b (λu b=>?_) λu b=>?_
   ·refine Or.inl (aI (aI (by kernel_rfl) (by kernel_rfl)) ?_)
    refine ldI b (K0.mono (f.trans i) l) λH D b=>?_
    refine ldI b (K0.mono (f.trans i) l) λI E b=>?_
    refine ifB b (λw b=>?_) λw b=>?_
    ·obtain rfl:=oJ b
     try dsimp only[N3,O3]at a
     obtain rfl:=oJ a
     try dsimp only[N3,O3]at c
     obtain rfl:=oJ c
     exact aI rfl (f.trans i)
    ·exact D1 j ⟨(IntKind.i64.wrap (g+1)),rfl,rfl,i,(F0 _),b⟩
   ·obtain rfl:=oJ b
    try dsimp only[M0,O0]at a
    exact D1 k ⟨(IntKind.i64.wrap (e+1)),rfl,rfl,(f.trans i),(F0 _),a⟩
 ·obtain rfl:=oJ a
  try dsimp only[M0,O0]at c
  obtain rfl:=oJ c
  exact aI rfl f
theorem l0e(h:Hp)(g:Option Addr)(o i:Nat)(d:Q1)(q:A5.R h [.slice g o i] d)(n:List Value)(p:l0)(I:C0.R h n p)(r:Bool)(b:W04 d p=some r):
  Tr Tryz.prog 102 #[.slice g o i,.agg n.toArray] h λv h'=>v = .bool r/\h'=h:=by
 obtain⟨rfl,Q⟩:=Sl.len q
 obtain⟨j,k,u,U,x,l,rfl,rfl,E,F,s⟩:=H0 I
 obtain⟨rfl,S⟩:=Sl.len s
 unfold W04 at b
 dsimp only at b
 refine Tr.forget (V1 (args:=[.slice g d.length i,.agg #[.int .i64 j,.int .i64 k,.slice u l.length x]]) (fn:=Tryz.f102) rfl ?_)
 obtain⟨m,B,b⟩:=B0 b
 refine eX { vars:=[5],boxes:=[],owns:=[],fuel:=true } (eX (λvs os h'=>∃ c,vs.tail = [.int .i64 c]/\os = []/\Sub h h'/\I0 c/\i01 d j k l (C1 vs) c=some m) (eX (λ_ _=>0) (aI (eX P0 ⟨0,rfl,rfl,(Sub.refl _),(by decide),B⟩) ?_)))
 rintro _ f P ⟨c,⟨⟩,⟨⟩,e,O,a⟩
 replace a:i01 d j k l f c=some m:=a
 obtain _|f:=f
 ·cases a
 rw[i01.eq_2]at a
 refine ifB a (λC a=>?_) λC a=>?_
 ·refine Or.inl (aI (aI (by kernel_rfl) (by kernel_rfl)) ?_)
  obtain⟨W,z,a⟩:=B0 a
  obtain⟨w,M,y,J⟩:=Sl.getI (r:=C0.toRp) (A5.mono e q) z (by decide)
  refine aI w ?_
  obtain⟨X,Y,L,V,N,Z,rfl,rfl,G,H,t⟩:=H0 J
  obtain⟨rfl,T⟩:=Sl.len t
  try dsimp only at a
  refine eX _ (aI y ?_)
  obtain⟨K,A,a⟩:=B0 a
  refine eX (.bool K) (aI (A9 _ _ _ (j0 G H t) _ _ (j0 E F (N0.mono e s)) _  A) ?_)
  refine ifB a (λD a=>?_) λD a=>?_
  ·obtain rfl:=oJ a
   try dsimp only[N3,O3]at b
   obtain rfl:=oJ b
   exact aI rfl e
  ·exact D1 f ⟨(IntKind.i64.wrap (c+1)),rfl,rfl,e,(F0 _),a⟩
 ·obtain rfl:=oJ a
  try dsimp only[M0,O0]at b
  obtain rfl:=oJ b
  exact aI rfl e
theorem V09(h:Hp)(J:List Value)(O:l0)(ak:C0.R h J O)(r:Q1)(l:m03 O=some r):
  Tr Tryz.prog 14 #[.agg J.toArray] h λv h'=>∃(H:Option Addr) (N I:Nat),v = .slice H N I/\A5.R h' [.slice H N I] r/\Sub h h':=by
 obtain⟨B,C,S,aE,U,D,rfl,rfl,L,M,E⟩:=H0 ak
 obtain⟨rfl,aA⟩:=Sl.len E
 unfold m03 at l
 dsimp only at l
 refine V1 (args:=[.agg #[.int .i64 B,.int .i64 C,.slice S D.length U]]) (fn:=Tryz.f14) rfl ?_
 obtain⟨F,aa,l⟩:=B0 l
 refine eX { vars:=[4],boxes:=[],owns:=[0],fuel:=true } (eX (λvs os h'=>∃ k n d,vs.tail = [.int .i64 k]/\os = [n]/\Sub h h'/\I0 k/\F2 (C0.R h') n d/\L7 C B D (C1 vs) k d=some F) (eX (λ_ _=>0) (aI (eX P0 ⟨0,[],([]:Q1),rfl,rfl,(Sub.refl _),(by decide),(show F2 (C0.R h) ([]:List (List Value)) ([]:Q1) from trivial),aa⟩) ?_)))
 rintro _ n o az ⟨k,aU,d,⟨⟩,⟨⟩,p,af,j,a⟩
 replace a:L7 C B D o k d=some F:=a
 obtain _|o:=o
 ·cases a
 rw[L7.eq_2]at a
 refine trG a (λq=>X02 _ _ _ (j0 L M (N0.mono p E))) λaQ a=>?_
 refine ifB a (λae a=>?_) λae a=>?_
 ·refine trM a (Z00 _ _ _ (j0 L M (N0.mono p E)) _ af) ?_
  rintro ap a aK ai ⟨au,rfl,Q,e⟩
  obtain⟨aR,aS⟩:=ap
  dsimp only at a Q
  obtain⟨f,g,w,aG,x,i,rfl,rfl,y,z,u⟩:=H0 Q
  obtain⟨rfl,aC⟩:=Sl.len u
  try dsimp only at a
  obtain⟨G,ab,a⟩:=B0 a
  refine eX { vars:=[7,8],boxes:=[],owns:=[],fuel:=true } (eX (λvs os h'=>∃ s m,vs.tail = [.bool s,.int .i64 m]/\os = []/\Sub ai h'/\I0 m/\l9 d f g i (C1 vs) s m=some G) (eX (λ_ _=>0) (aI (eX P0 ⟨false,0,rfl,rfl,(Sub.refl _),(by decide),ab⟩) ?_)))
  rintro _ _ t A ⟨s,m,⟨⟩,⟨⟩,c,ax,b⟩
  replace b:l9 d f g i t s m=some G:=b
  obtain _|t:=t
  ·cases b
  rw[l9.eq_2]at b
  obtain⟨aj,X,b⟩:=B0 b
  obtain rfl:n.length=aj:=(F2.length (F2.up (r:=C0.toRp) (e.trans c) j)).trans (oJ X)
  obtain⟨aH,aw,b⟩:=B0 b
  refine ifB b (λac b=>?_) λac b=>?_
  ·refine Or.inl (aI (aI (by kernel_rfl) (by kernel_rfl)) ?_)
   obtain⟨aM,Z,b⟩:=B0 b
   obtain⟨ar,K,al⟩:=B01 (F2.up (r:=C0.toRp) (e.trans c) j) Z (m0n A)
   refine aI (λq=>(K q).1) ?_
   obtain⟨aN,aO,aq,aF,av,aP,rfl,rfl,ag,ah,P⟩:=H0 al
   obtain⟨rfl,aB⟩:=Sl.len P
   try dsimp only at b
   refine eX _ (aI (λq=>(K q).2) ?_)
   refine trG b (λq=>A9 _ _ _ (j0 ag ah P) _ _ (j0 y z (N0.mono c u))) λao b=>?_
   exact D1 t ⟨(bif s then true else ao),(IntKind.i64.wrap (m+1)),rfl,rfl,c,(F0 _),b⟩
  ·obtain rfl:=oJ b
   try dsimp only[M0,O0]at a
   refine ifB a (λad a=>?_) λad a=>?_
   ·obtain⟨aJ,Y,a⟩:=B0 a
    refine aI (Z0 Y (by first|rw[F2.length (F2.up (r:=C0.toRp) (e.trans c) j),F2.length (show F2 (C0.R A) ([[.int .i64 f,.int .i64 g,.slice w i.length x]]:List (List Value)) [(f,g,i)] from⟨(j0 y z (N0.mono c u)),trivial⟩)]|exact congrArg (·+1) (F2.length (F2.up (r:=C0.toRp) (e.trans c) j)))) ?_
    exact D1 o ⟨(IntKind.i64.wrap (k+1)),(n++([[.int .i64 f,.int .i64 g,.slice w i.length x]]:List (List Value))),(d ++ [(f,g,i)]),rfl,rfl,((p.trans e).trans c),(F0 _),(F2.append (F2.up (r:=C0.toRp) (e.trans c) j) (show F2 (C0.R A) ([[.int .i64 f,.int .i64 g,.slice w i.length x]]:List (List Value)) [(f,g,i)] from⟨(j0 y z (N0.mono c u)),trivial⟩)),a⟩
   ·exact D1 o ⟨(IntKind.i64.wrap (k+1)),n,d,rfl,rfl,((p.trans e).trans c),(F0 _),(F2.up (r:=C0.toRp) (e.trans c) j),a⟩
 ·obtain rfl:=oJ a
  try dsimp only[M0,O0]at l
  intro aL ay W
  obtain⟨T,V,rfl,am,an,aD⟩:=S0.out (r:=C0.toRp) W j
  obtain rfl:=oJ l
  exact⟨T,d.length,V,rfl,am,(p.trans an)⟩
theorem m0e(h:Hp)(an:List Value)(aK:l0)(ca:C0.R h an aK)(j:Int)(b0:I0 j)(r:(List Bool)×N1)(f:q02 aK j=some r):
  Tr Tryz.prog 281 #[.agg an.toArray,.int .i64 j] h λv h'=>∃(ai:Option Addr) (aG al:Nat) (aj:Option Addr) (aH am:Nat),v = .tuple #[.slice ai aG al,.slice aj aH am]/\(Wp.slice Wp.bool).R h' [.slice ai aG al] r.1/\R3.R h' [.slice aj aH am] r.2/\Sub h h':=by
 obtain⟨P,s,aS,dn,bb,Q,rfl,rfl,aB,bZ,aL⟩:=H0 ca
 obtain⟨rfl,c3⟩:=Sl.len aL
 unfold q02 at f
 dsimp only at f
 refine V1 (args:=[.agg #[.int .i64 P,.int .i64 s,.slice aS Q.length bb],.int .i64 j]) (fn:=Tryz.f281) rfl ?_
 obtain⟨dx,bA,f⟩:=B0 f
 refine aI (T0 bA) ?_
 obtain⟨dy,bB,f⟩:=B0 f
 refine aI (T0 bB) ?_
 obtain⟨dQ,bG,f⟩:=B0 f
 obtain⟨aZ,cx,bh,cb⟩:=I3 (F2.rep (p:=Wp.bool.R h) (a:=[.bool false]) (b:=false) rfl (s.toNat)) bG
 refine aI aZ ?_
 obtain rfl:=cb
 refine eX _ (aI bh ?_)
 obtain⟨dV,bL,f⟩:=B0 f
 obtain⟨a2,cC,bk,aM⟩:=I3 (F2.rep (p:=K0.R h) (a:=[.slice none 0 0]) (b:=[]) (m08 Wp.int h) (s.toNat)) bL
 refine aI a2 ?_
 obtain⟨cu,dq,cI,rfl⟩:=Wp.slice_cell aM
 obtain⟨rfl,db⟩:=Sl.len aM
 intro dM aD bt
 obtain⟨ak,ap,rfl,ck,aa,dj⟩:=S0.out (r:=Wp.int.toRp) bt (show F2 (Wp.int.R h) ([]:List (List Value)) ([]:D0) from trivial)
 refine eX _ (aI bk ?_)
 refine trM f (i03 _ _ aB) ?_
 rintro X f dL b4 ⟨aW,du,bd,rfl,af,T⟩
 obtain⟨rfl,df⟩:=Sl.len af
 obtain⟨ag,bS,f⟩:=B0 f
 refine eX { vars:=[10],boxes:=[],owns:=[0,1,3],fuel:=true,kept:=[0,1] } (eX (λvs os h'=>∃ x ab G ac H V U,vs.tail = [.int .i64 x]/\os = [ab,ac,V]/\Sub b4 h'/\I0 x/\F2 (Wp.bool.R h') ab G/\F2 (K0.R h') ac H/\F2 (Wp.int.R h') V U/\I8 X P s Q (C1 vs) x G H U=some ag) (eX (λ_ _=>0) (aI (eX P0 ⟨0,((List.replicate s.toNat ([.bool false]:List Value)).set j.toNat [.bool true]),((List.replicate s.toNat (false:Bool)).set j.toNat true),((List.replicate s.toNat ([.slice none 0 0]:List Value)).set j.toNat [.slice ak (([]:D0)).length ap]),((List.replicate s.toNat ([]:D0)).set j.toNat ([]:D0)),([[.int .i64 j]]:List (List Value)),[j],rfl,rfl,(Sub.refl _),(by decide),(F2.up (r:=Wp.bool.toRp) (aa.trans T) (F2.set (p:=Wp.bool.R h) (a:=[.bool true]) (b:=true) rfl j.toNat (F2.rep (p:=Wp.bool.R h) (a:=[.bool false]) (b:=false) rfl (s.toNat)))),(F2.up (r:=K0.toRp) T (F2.set (p:=K0.R aD) (a:=[.slice ak (([]:D0)).length ap]) (b:=([]:D0)) ck j.toNat (F2.up (r:=K0.toRp) aa (F2.rep (p:=K0.R h) (a:=[.slice none 0 0]) (b:=[]) (m08 Wp.int h) (s.toNat))))),(F2.up (r:=Wp.int.toRp) T (show F2 (Wp.int.R aD) ([[.int .i64 j]]:List (List Value)) [j] from⟨⟨rfl,b0⟩,trivial⟩)),bS⟩) ?_)))
 rintro _ ab ac V Z b5 ⟨x,dX,G,dY,H,dZ,U,⟨⟩,⟨⟩,S,cP,ar,au,av,i⟩
 replace i:I8 X P s Q Z x G H U=some ag:=i
 obtain _|Z:=Z
 ·cases i
 rw[I8.eq_2]at i
 obtain⟨b7,bz,i⟩:=B0 i
 obtain rfl:V.length=b7:=(F2.length av).trans (oJ bz)
 obtain⟨dz,cM,i⟩:=B0 i
 refine ifB i (λbV i=>?_) λbV i=>?_
 ·obtain⟨ah,bT,i⟩:=B0 i
  refine eX { vars:=[11],boxes:=[],owns:=[0,1,3],fuel:=true,kept:=[0,1] } (eX (λvs os h'=>∃ y I C J D K E,vs.tail = [.int .i64 y]/\os = [I,J,K]/\Sub b5 h'/\I0 y/\F2 (Wp.bool.R h') I C/\F2 (K0.R h') J D/\F2 (Wp.int.R h') K E/\l6 X x P s Q (C1 vs) y C D E=some ah) (eX (λ_ _=>0) (aI (eX P0 ⟨0,ab,G,ac,H,V,U,rfl,rfl,(Sub.refl _),(by decide),ar,au,av,bT⟩) ?_)))
  rintro _ I J K O Y ⟨y,d1,C,d2,D,d3,E,⟨⟩,⟨⟩,F,cQ,L,M,A,d⟩
  replace d:l6 X x P s Q O y C D E=some ah:=d
  obtain _|O:=O
  ·cases d
  rw[l6.eq_2]at d
  refine ifB d (λbW d=>?_) λbW d=>?_
  ·refine Or.inl (aI (aI (by kernel_rfl) (by kernel_rfl)) ?_)
   obtain⟨dR,bH,d⟩:=B0 d
   obtain⟨a0,cy,bi,cc⟩:=I3 A bH
   refine aI a0 ?_
   obtain⟨rfl,b1⟩:=cc
   refine eX _ (aI bi ?_)
   refine ldI d (K0.mono (S.trans F) af) λdS b2 d=>?_
   obtain⟨m,bI,d⟩:=B0 d
   refine eX (.int .i64 m) (aI (e00 _ _ _ (j0 aB bZ (N0.mono (((aa.trans T).trans S).trans F) aL)) _ b1 _ b2 _  bI) ?_)
   obtain⟨dA,bC,d⟩:=B0 d
   have aC:I0 m:=T0 bC
   obtain⟨dT,bJ,d⟩:=B0 d
   obtain⟨cz,aq,cd⟩:=B01 L bJ (d0m Y)
   refine aI (λq=>(aq q).1) ?_
   obtain rfl:=cd
   refine eX _ (aI (λq=>(aq q).2) ?_)
   refine ifB d (λbX d=>?_) λbX d=>?_
   ·obtain⟨dU,bK,d⟩:=B0 d
    obtain⟨a1,cA,bj,ce⟩:=I3 L bK
    refine aI a1 ?_
    obtain rfl:=ce
    refine eX _ (aI bj ?_)
    refine Or.inr (Or.inr (Or.inr (Or.inr (eX 16 (aI (aI (by kernel_rfl) (by kernel_rfl)) ?_)))))
    refine Or.inr (eX (λv N=>∃(g:Nat),v = .slice (some ⟨g,0,none⟩) 0 0/\Y g=none/\∃ e,N g=some (.cells #[] e (0,0))) (aI (λv ay az B q=>by obtain⟨g,e,n,t,c⟩:=q;exact⟨g,e,n,t,B _ _ c⟩) (aI ?_ ?_)))
    ·intro cS cn
     intro g aA
     exact aI y01 (aI (Sub.set aA) ⟨g,rfl,Sub.back cn aA,_,Hp.set_same _ _ _⟩)
    obtain⟨cs,bM,d⟩:=B0 d
    obtain⟨a3,cD,bl,cf⟩:=I3 A bM
    obtain⟨rfl,cR⟩:=cf
    refine Or.inl ?_
    apply eX
    refine aI ?_ ?_
    ·intro cT dE
     exact aI a3 (aI rfl (aI rfl rfl))
    refine Or.inl (eX (.val (.int .i64 cs)) (aI ?_ ?_))
    ·intro cU dF
     exact eX _ (aI bl (aI rfl (aI rfl rfl)))
    obtain⟨w,bN,d⟩:=B0 d
    obtain⟨a4,cE,bm,ae⟩:=I3 M bN
    obtain⟨aV,ds,bc,rfl⟩:=Wp.slice_cell ae
    obtain⟨rfl,dc⟩:=Sl.len ae
    refine Or.inl ?_
    apply eX
    refine aI ?_ ?_
    ·intro cV dG
     exact aI a4 (aI rfl (aI rfl rfl))
    refine Or.inl (eX (.val (.slice aV w.length bc)) (aI ?_ ?_))
    ·intro cW dH
     exact eX _ (aI bm (aI rfl (aI rfl rfl)))
    obtain⟨dB,bD,d⟩:=B0 d
    refine Or.inr (eX (λv N=>∃(g o c:Nat),v = .slice (some ⟨g,o,none⟩) w.length c/\New K0 Y N [.slice (some ⟨g,o,none⟩) w.length c] w/\w.length<=9223372036854775807) (aI (λv ay az B q=>by obtain⟨g,o,c,e,r,l⟩:=q;exact⟨g,o,c,e,New.mono r B,l⟩) (aI ?_ ?_)))
    ·intro cX aP
     rintro _ ⟨cN,rfl,b8,be⟩
     obtain⟨cq,br,b6,ct,bx⟩:=New.appZ (r:=Wp.int) b8 be aP (K0.mono aP ae) (W01 _)
     exact eX cq (aI br (aI (Z0 bD b6) (aI (λbY=>aI y01 (aI (Sub.refl _) (ct bY))) (λv bR hf=>aI y01 (bx v bR _ hf)))))
    obtain⟨W,bO,d⟩:=B0 d
    obtain⟨a5,cG,bn,cg⟩:=Sl.getI (r:=Wp.int.toRp) (K0.mono (S.trans F) af) bO (by decide)
    obtain⟨rfl,b3⟩:=cg
    refine Or.inl (eX (.hel (.slice aW X.length bd) y 1 0) (aI ?_ ?_))
    ·intro cY dI
     exact aI a5 (aI rfl (aI rfl rfl))
    refine Or.inl (eX (.val (.int .i64 W)) (aI ?_ ?_))
    ·intro cZ co
     exact eX _ (aI (i6.up co bn) (aI rfl (aI rfl rfl)))
    obtain⟨u,bP,d⟩:=B0 d
    refine Or.inr (eX (λv N=>∃(a:Option Addr) (c:Nat),v = .slice a u.length c/\K0.R N [.slice a u.length c] u/\u.length<=9223372036854775807) (aI (λv ay az B q=>by obtain⟨a,c,e,r,l⟩:=q;exact⟨a,c,e,K0.mono B r,l⟩) (aI ?_ ?_)))
    ·intro aE dJ
     have bo:[W]=u:=oJ bP
     intro v k hf
     obtain⟨a,c,rfl,r,B,l⟩:=S0.out (r:=Wp.int.toRp) (xs:=u) hf (show F2 (Wp.int.R aE) [[.int .i64 W]] u from bo▸(show F2 (Wp.int.R aE) [[.int .i64 W]] [W] from⟨⟨rfl,b3⟩,trivial⟩))
     exact aI ⟨rfl,rfl,rfl,[_],rfl⟩ (aI B ⟨a,c,rfl,r,l⟩)
    intro c0 dK
    rintro _ ⟨cw,cK,rfl,ci,dg⟩
    rintro _ ⟨cO,dw,cL,rfl,cj,dh⟩
    rintro _ _
    obtain⟨cp,bq,aw⟩:=Sl.rows (r:=Wp.int.toRp) ci
    refine eX cp (aI bq ?_)
    obtain⟨dC,bE,d⟩:=B0 d
    obtain⟨cr,ch,aF,aU⟩:=New.app cj (Sub.refl _)
    refine eX cr (aI ch (aI (Z0 bE (by first|rw[aF,F2.length aw]|(rw[aF];rfl))) ?_))
    intro dP ad bU
    obtain⟨z,ax,aJ,dv,ao,rfl⟩:=aU _ _ _ _ _ (F3.ofPlain (W01 _) aw) n4.ofPlain bU
    have aO:=z.r
    obtain⟨bs,di⟩:=Sl.len aO
    subst bs
    obtain⟨dW,bQ,d⟩:=B0 d
    obtain⟨ba,cH,bp,aN⟩:=I3 (F2.up (r:=K0.toRp) z.sub M) bQ
    refine aI ba ?_
    obtain⟨cv,dt,cJ,rfl⟩:=Wp.slice_cell aN
    obtain⟨rfl,dd⟩:=Sl.len aN
    refine eX _ (aI bp ?_)
    obtain⟨dD,bF,d⟩:=B0 d
    refine aI (Z0 bF (by first|rw[F2.length (F2.up (r:=Wp.int.toRp) z.sub A),F2.length (show F2 (Wp.int.R ad) ([[.int .i64 m]]:List (List Value)) [m] from⟨⟨rfl,aC⟩,trivial⟩)]|exact congrArg (·+1) (F2.length (F2.up (r:=Wp.int.toRp) z.sub A)))) ?_
    exact D1 O ⟨(IntKind.i64.wrap (y+1)),(I.set m.toNat [.bool true]),(C.set m.toNat true),(J.set m.toNat [.slice (some ⟨ax,aJ,none⟩) (w++u).length ao]),(D.set m.toNat (w++u)),(K++([[.int .i64 m]]:List (List Value))),(E ++ [m]),rfl,rfl,(F.trans z.sub),(F0 _),(F2.up (r:=Wp.bool.toRp) z.sub (F2.set (p:=Wp.bool.R Y) (a:=[.bool true]) (b:=true) rfl m.toNat L)),(F2.set (p:=K0.R ad) (a:=[.slice (some ⟨ax,aJ,none⟩) (w++u).length ao]) (b:=(w++u)) aO m.toNat (F2.up (r:=K0.toRp) z.sub M)),(F2.append (F2.up (r:=Wp.int.toRp) z.sub A) (show F2 (Wp.int.R ad) ([[.int .i64 m]]:List (List Value)) [m] from⟨⟨rfl,aC⟩,trivial⟩)),d⟩
   ·exact D1 O ⟨(IntKind.i64.wrap (y+1)),I,C,J,D,K,E,rfl,rfl,F,(F0 _),L,M,A,d⟩
  ·obtain rfl:=oJ d
   try dsimp only[M0,O0]at i
   exact D1 Z ⟨(IntKind.i64.wrap (x+1)),I,C,J,D,K,E,rfl,rfl,(S.trans F),(F0 _),L,M,A,i⟩
 ·obtain rfl:=oJ i
  try dsimp only[M0,O0]at f
  intro dN c1 bu
  obtain⟨aX,bf,rfl,cl,aQ,dk⟩:=S0.out (r:=Wp.bool.toRp) bu ar
  intro dO c2 bv
  obtain⟨aY,bg,rfl,cm,aR,dm⟩:=S0.out (r:=K0.toRp) bv (F2.up (r:=K0.toRp) aQ au)
  obtain rfl:=oJ f
  exact⟨aX,G.length,bf,aY,H.length,bg,rfl,((Wp.slice Wp.bool).mono aR cl),cm,((((aa.trans T).trans S).trans aQ).trans aR)⟩
theorem n0e(h:Hp)(m:List Value)(y:l0)(P:C0.R h m y)(c:Int)(w:I0 c)(d:Int)(M:I0 d)(r:D0×Bool)(a:b9 y c d=some r):
  Tr Tryz.prog 258 #[.agg m.toArray,.int .i64 c,.int .i64 d] h λv h'=>∃(s:Nat) (x l:Nat),v = .tuple #[.slice (some ⟨s,0,none⟩) x l,.bool r.2]/\New K0 h h' [.slice (some ⟨s,0,none⟩) x l] r.1:=by
 obtain⟨N,f,A,an,B,O,rfl,rfl,t,u,g⟩:=H0 P
 obtain⟨rfl,ag⟩:=Sl.len g
 unfold b9 at a
 dsimp only at a
 refine V1 (args:=[.agg #[.int .i64 N,.int .i64 f,.slice A O.length B],.int .i64 c,.int .i64 d]) (fn:=Tryz.f258) rfl ?_
 refine trV a (l00 _ _ _ (j0 t u g)) λaE a=>?_
 refine trG a (λq=>E3 _ _ w 0 (by decide) (IntKind.i64.wrap (f-1)) (F0 _)) λaG a=>?_
 refine trG a (λq=>E3 _ _ M 0 (by decide) (IntKind.i64.wrap (f-1)) (F0 _)) λaH a=>?_
 refine ifB a (λL a=>?_) λL a=>?_
 ·intro aD af p
  obtain⟨J,E,rfl,aw,az,am⟩:=S0.outS (r:=Wp.int.toRp) p (show F2 (Wp.int.R h) ([]:List (List Value)) ([]:D0) from trivial)
  obtain rfl:=oJ a
  exact⟨J,(([]:D0)).length,E,rfl,(S0.newPlain (r:=Wp.int) p (show F2 (Wp.int.R h) ([]:List (List Value)) ([]:D0) from trivial) (W01 _))⟩
 ·refine trM a (m0e _ _ _ (j0 t u g) _ w) ?_
  rintro U a aA b ⟨W,ap,ab,X,aq,ac,rfl,j,k,z⟩
  obtain⟨aJ,aK⟩:=U
  dsimp only at a j k
  obtain⟨rfl,ai⟩:=Sl.len j
  obtain⟨rfl,aj⟩:=Sl.len k
  refine ld a j λaF Y Q a=>?_
  obtain rfl:=Q
  refine ifB a (λK a=>?_) λK a=>?_
  ·intro aB ad n
   obtain⟨H,C,rfl,au,ax,ak⟩:=S0.outS (r:=Wp.int.toRp) n (show F2 (Wp.int.R b) ([]:List (List Value)) ([]:D0) from trivial)
   obtain rfl:=oJ a
   exact⟨H,(([]:D0)).length,C,rfl,(New.from (S0.newPlain (r:=Wp.int) n (show F2 (Wp.int.R b) ([]:List (List Value)) ([]:D0) from trivial) (W01 _)) z)⟩
  ·refine ld a k λT Z i a=>?_
   obtain⟨V,ao,aa,rfl⟩:=Wp.slice_cell i
   obtain⟨rfl,ah⟩:=Sl.len i
   obtain⟨S,F,e⟩:=Sl.rows (r:=Wp.int.toRp) i
   refine eX S (aI F ?_)
   obtain⟨ar,G,a⟩:=B0 a
   refine aI (Z0 G (by first|rw[F2.length (show F2 (Wp.int.R b) ([]:List (List Value)) ([]:D0) from trivial),F2.length e]|exact congrArg (·+1) (F2.length (show F2 (Wp.int.R b) ([]:List (List Value)) ([]:D0) from trivial)))) ?_
   intro aC ae o
   obtain⟨I,D,rfl,av,ay,al⟩:=S0.outS (r:=Wp.int.toRp) o (F2.append (show F2 (Wp.int.R b) ([]:List (List Value)) ([]:D0) from trivial) e)
   obtain rfl:=oJ a
   exact⟨I,((([]:D0)++T)).length,D,rfl,(New.from (S0.newPlain (r:=Wp.int) o (F2.append (show F2 (Wp.int.R b) ([]:List (List Value)) ([]:D0) from trivial) e) (W01 _)) z)⟩
theorem j08(h:Hp)(e:List Value)(i:l0)(x:C0.R h e i)(b:Int)(q:I0 b)(r:D0)(a:U00 i b=some r):
  Tr Tryz.prog 202 #[.agg e.toArray,.int .i64 b] h λv h'=>∃(f:Nat) (g d:Nat),v = .slice (some ⟨f,0,none⟩) g d/\New K0 h h' [.slice (some ⟨f,0,none⟩) g d] r:=by
 obtain⟨t,u,k,D,l,w,rfl,rfl,o,p,j⟩:=H0 x
 obtain⟨rfl,B⟩:=Sl.len j
 unfold U00 at a
 dsimp only at a
 refine V1 (args:=[.agg #[.int .i64 t,.int .i64 u,.slice k w.length l],.int .i64 b]) (fn:=Tryz.f202) rfl ?_
 refine trM a (n0e _ _ _ (j0 o p j) 0 (by decide) _ q) ?_
 rintro z a G s ⟨n,E,m,rfl,c⟩
 obtain⟨A,H⟩:=z
 dsimp only at a c
 have F:Sub h s:=c.sub
 have y:=c.r
 obtain⟨rfl,C⟩:=Sl.len y
 obtain rfl:=oJ a
 exact⟨n,A.length,m,rfl,c⟩
theorem p08(h:Hp)(n:Option Addr)(A o:Nat)(l:D0)(m:K0.R h [.slice n A o] l)(r:D0)(e:L4 l=some r):
  Tr Tryz.prog 146 #[.slice n A o] h λv h'=>∃(s:Option Addr) (z t:Nat),v = .slice s z t/\New K0 h h' [.slice s z t] r:=by
 obtain⟨rfl,aa⟩:=Sl.len m
 unfold L4 at e
 refine V1 (args:=[.slice n l.length o]) (fn:=Tryz.f146) rfl ?_
 obtain⟨p,J,e⟩:=B0 e
 refine eX { vars:=[4],boxes:=[],owns:=[0],fuel:=true } (eX (λvs os h'=>∃ g c i,vs.tail = [.int .i64 g]/\os = [c]/\Sub h h'/\I0 g/\F2 (Wp.int.R h') c i/\M2 l (C1 vs) g i=some p) (eX (λ_ _=>0) (aI (eX P0 ⟨0,[],([]:D0),rfl,rfl,(Sub.refl _),(by decide),(show F2 (Wp.int.R h) ([]:List (List Value)) ([]:D0) from trivial),J⟩) ?_)))
 rintro _ c k d ⟨g,ao,i,⟨⟩,⟨⟩,f,T,b,a⟩
 replace a:M2 l k g i=some p:=a
 obtain _|k:=k
 ·cases a
 rw[M2.eq_2]at a
 refine ifB a (λL a=>?_) λL a=>?_
 ·obtain⟨M,D,a⟩:=B0 a
  obtain rfl:c.length=M:=(F2.length b).trans (oJ D)
  obtain⟨af,S,a⟩:=B0 a
  refine Or.inl (aI (aI (by kernel_rfl) (by kernel_rfl)) ?_)
  refine ldG a (K0.mono f m) λan Y a=>?_
  obtain⟨aj,H,a⟩:=B0 a
  obtain⟨P,u,N⟩:=B01 b H (l0a d)
  refine aI (λq=>(u q).1) ?_
  obtain⟨rfl,U⟩:=N
  refine eX _ (aI (λq=>(u q).2) ?_)
  refine ldG a (K0.mono f m) λak V a=>?_
  obtain⟨al,I,a⟩:=B0 a
  obtain⟨Q,w,O⟩:=B01 b I (l0a d)
  refine aI (λq=>(w q).1) ?_
  obtain⟨rfl,W⟩:=O
  refine eX _ (aI (λq=>(w q).2) ?_)
  refine ldG a (K0.mono f m) λam X a=>?_
  refine ifB a (λK a=>?_) λK a=>?_
  ·obtain⟨ac,E,a⟩:=B0 a
   refine aI (by have:=T0 E;have:=F2.length b;omega) ?_
   exact D1 k ⟨(IntKind.i64.wrap (g+1)),(c.take (IntKind.i64.wrap (((c.length:Nat):Int)-1)).toNat),(i.take (IntKind.i64.wrap (((c.length:Nat):Int)-1)).toNat),rfl,rfl,f,(F0 _),(F2.take (IntKind.i64.wrap (((c.length:Nat):Int)-1)).toNat b),a⟩
  ·refine ldI a (K0.mono f m) λj y a=>?_
   obtain⟨ad,F,a⟩:=B0 a
   refine aI (Z0 F (by first|rw[F2.length b,F2.length (show F2 (Wp.int.R d) ([[.int .i64 j]]:List (List Value)) [j] from⟨⟨rfl,y⟩,trivial⟩)]|exact congrArg (·+1) (F2.length b))) ?_
   exact D1 k ⟨(IntKind.i64.wrap (g+1)),(c++([[.int .i64 j]]:List (List Value))),(i ++ [j]),rfl,rfl,f,(F0 _),(F2.append b (show F2 (Wp.int.R d) ([[.int .i64 j]]:List (List Value)) [j] from⟨⟨rfl,y⟩,trivial⟩)),a⟩
 ·obtain rfl:=oJ a
  try dsimp only[M0,O0]at e
  obtain⟨ae,G,e⟩:=B0 e
  refine aI (Z0 G (by first|rw[F2.length (show F2 (Wp.int.R d) ([]:List (List Value)) ([]:D0) from trivial),F2.length b]|exact congrArg (·+0) (F2.length (show F2 (Wp.int.R d) ([]:List (List Value)) ([]:D0) from trivial)))) ?_
  intro ai Z x
  obtain⟨B,C,rfl,ag,ah,ab⟩:=S0.out (r:=Wp.int.toRp) x (F2.append (show F2 (Wp.int.R d) ([]:List (List Value)) ([]:D0) from trivial) b)
  obtain rfl:=oJ e
  exact⟨B,((([]:D0)++i)).length,C,rfl,(New.from (S0.newPlain (r:=Wp.int) x (F2.append (show F2 (Wp.int.R d) ([]:List (List Value)) ([]:D0) from trivial) b) (W01 _)) f)⟩
end Go.Proofs.YtmgikbbmpnbbjaaGreat
