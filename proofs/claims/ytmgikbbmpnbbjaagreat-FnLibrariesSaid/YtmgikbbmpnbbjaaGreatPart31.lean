/- Texts of the claim, joined: The walks of batch 1 and others. -/
import Derived.Test.YtmgikbbmpnbbjaaGreatPart23
import Derived.Test.YtmgikbbmpnbbjaaGreatChecked
import Derived.Test.YtmgikbbmpnbbjaaGreatH35
import Derived.Test.YtmgikbbmpnbbjaaGreatSI
import Derived.Test.YtmgikbbmpnbbjaaGreatPart26
import Derived.Test.YtmgikbbmpnbbjaaGreatH41
import Derived.Test.YtmgikbbmpnbbjaaGreatPart22
import Derived.Test.YtmgikbbmpnbbjaaGreatH36
import Derived.Test.YtmgikbbmpnbbjaaGreatH45
namespace Go.Proofs.YtmgikbbmpnbbjaaGreat
open Go.H
set_option linter.unusedVariables false
set_option linter.unusedSimpArgs false
set_option maxRecDepth 10000
theorem K5(h:Hp)(a:Int)(e:J0 a)(b:Int)(f:J0 b)(c:Int)(g:J0 c)(r:Bool)(d:E4 a b c=some r):
  Tr Tryz.prog 98 #[.int .i64 a,.int .i64 b,.int .i64 c] h λv h'=>v = .bool r/\h'=h:=by
 unfold E4 at d
 refine Tr.forget (E3 (args:=[.int .i64 a,.int .i64 b,.int .i64 c]) (fn:=Tryz.f98) rfl ?_)
 obtain rfl:=oJ d
 exact aI rfl (Sub.refl _)
theorem w0a(h:Hp)(c:Int)(m:J0 c)(j:Option Addr)(n k:Nat)(f:D1)(g:E2.R h [.slice j n k] f)(r:Bool)(b:F02 c f=some r):
  Tr Tryz.prog 163 #[.int .i64 c,.slice j n k] h λv h'=>v = .bool r/\h'=h:=by
 obtain⟨rfl,A⟩:=Sl.len g
 unfold F02 at b
 refine Tr.forget (E3 (args:=[.int .i64 c,.slice j f.length k]) (fn:=Tryz.f163) rfl ?_)
 obtain⟨l,o,b⟩:=D0 b
 refine eX { vars:=[5],boxes:=[],owns:=[],fuel:=true } (eX (λvs os h'=>∃ e,vs.tail = [.int .i64 e]/\os = []/\Sub h h'/\J0 e/\p9 f c (D2 vs) e=some l) (eX (λ_ _=>0) (aI (eX Y0 ⟨0,rfl,rfl,(Sub.refl _),(by decide),o⟩) ?_)))
 rintro _ i z ⟨e,⟨⟩,⟨⟩,d,u,a⟩
 replace a:p9 f c i e=some l:=a
 obtain _|i:=i
 ·cases a
 rw[p9.eq_2]at a
 refine ifB a (λs a=>?_) λs a=>?_
 ·refine Or.inl (aI (aI (by kernel_rfl) (by kernel_rfl)) ?_)
  refine ldI a (E2.mono d g) λD x a=>?_
  refine ldG a (E2.mono d g) λE t a=>?_
  refine trG a (λq=>K5 _ _ t (IntKind.i64.wrap (0-c)) (I0 _) _ m) λF a=>?_
  refine ldG a (E2.mono d g) λG y a=>?_
  refine ldG a (E2.mono d g) λB w a=>?_
  refine ifB a (λp a=>?_) λp a=>?_
  ·obtain rfl:=oJ a
   try dsimp only[L3,N3]at b
   obtain rfl:=oJ b
   exact aI rfl d
  ·exact U2 i ⟨(IntKind.i64.wrap (e+1)),rfl,rfl,d,(I0 _),a⟩
 ·obtain rfl:=oJ a
  try dsimp only[Z0,I1]at b
  refine trV b (K5 _ _ m 1 (by decide) 3 (by decide)) λC b=>?_
  obtain rfl:=oJ b
  exact aI rfl d
theorem V0a(h:Hp)(g:Option Addr)(l i:Nat)(e:M6)(m:C00.R h [.slice g l i] e)(r:Int)(d:S00 e=some r):
  Tr Tryz.prog 224 #[.slice g l i] h λv h'=>v = .int .i64 r/\h'=h:=by
 obtain⟨rfl,z⟩:=Sl.len m
 unfold S00 at d
 refine Tr.forget (E3 (args:=[.slice g e.length i]) (fn:=Tryz.f224) rfl ?_)
 obtain⟨k,o,d⟩:=D0 d
 refine eX { vars:=[3,4],boxes:=[],owns:=[],fuel:=true } (eX (λvs os h'=>∃ b c,vs.tail = [.int .i64 b,.int .i64 c]/\os = []/\Sub h h'/\J0 b/\J0 c/\i6 e (D2 vs) b c=some k) (eX (λ_ _=>0) (aI (eX Y0 ⟨0,0,rfl,rfl,(Sub.refl _),(by decide),(by decide),o⟩) ?_)))
 rintro _ _ f y ⟨b,c,⟨⟩,⟨⟩,j,w,x,a⟩
 replace a:i6 e f b c=some k:=a
 obtain _|f:=f
 ·cases a
 rw[i6.eq_2]at a
 refine ifB a (λp a=>?_) λp a=>?_
 ·refine ld a (C00.mono j m) λq t n a=>?_
  obtain⟨s,B,u,rfl⟩:=Wp.slice_cell n
  obtain⟨rfl,A⟩:=Sl.len n
  exact U2 f ⟨(IntKind.i64.wrap (b+((q.length:Nat):Int))),(IntKind.i64.wrap (c+1)),rfl,rfl,j,(I0 _),(I0 _),a⟩
 ·obtain rfl:=oJ a
  try dsimp only[Z0,I1]at d
  obtain rfl:=oJ d
  exact aI rfl j
theorem o0e(h:Hp)(c:Int)(n:J0 c)(i:Option Addr)(o j:Nat)(e:M6)(k:C00.R h [.slice i o j] e)(r:Bool)(b:s02 c e=some r):
  Tr Tryz.prog 140 #[.int .i64 c,.slice i o j] h λv h'=>v = .bool r/\h'=h:=by
 obtain⟨rfl,D⟩:=Sl.len k
 unfold s02 at b
 refine Tr.forget (E3 (args:=[.int .i64 c,.slice i e.length j]) (fn:=Tryz.f140) rfl ?_)
 obtain⟨m,s,b⟩:=D0 b
 refine eX { vars:=[5],boxes:=[],owns:=[],fuel:=true } (eX (λvs os h'=>∃ d,vs.tail = [.int .i64 d]/\os = []/\Sub h h'/\J0 d/\L7 e c (D2 vs) d=some m) (eX (λ_ _=>0) (aI (eX Y0 ⟨0,rfl,rfl,(Sub.refl _),(by decide),s⟩) ?_)))
 rintro _ g C ⟨d,⟨⟩,⟨⟩,f,A,a⟩
 replace a:L7 e c g d=some m:=a
 obtain _|g:=g
 ·cases a
 rw[L7.eq_2]at a
 refine ifB a (λt a=>?_) λt a=>?_
 ·refine ld a (C00.mono f k) λH y l a=>?_
  obtain⟨x,F,z,rfl⟩:=Wp.slice_cell l
  obtain⟨rfl,E⟩:=Sl.len l
  refine trV a (w0a _ _ n _ _ _ _ l) λI a=>?_
  refine ifB a (λu a=>?_) λu a=>?_
  ·obtain rfl:=oJ a
   try dsimp only[L3,N3]at b
   obtain rfl:=oJ b
   exact aI rfl f
  ·exact U2 g ⟨(IntKind.i64.wrap (d+1)),rfl,rfl,f,(I0 _),a⟩
 ·obtain rfl:=oJ a
  try dsimp only[Z0,I1]at b
  refine trV b (K5 _ _ n 1 (by decide) 3 (by decide)) λJ b=>?_
  refine trG b (λq=>V0a _ _ _ _ _ (C00.mono f k)) λw b=>?_
  obtain⟨G,p,b⟩:=D0 b
  have B:J0 w:=O0 p
  obtain rfl:=oJ b
  exact aI rfl f
theorem P01(h:Hp)(a:Int)(e:J0 a)(b:Int)(f:J0 b)(c:Int)(g:J0 c)(r:Bool)(d:R8 a b c=some r):
  Tr Tryz.prog 94 #[.int .i64 a,.int .i64 b,.int .i64 c] h λv h'=>v = .bool r/\h'=h:=by
 unfold R8 at d
 refine Tr.forget (E3 (args:=[.int .i64 a,.int .i64 b,.int .i64 c]) (fn:=Tryz.f94) rfl ?_)
 obtain rfl:=oJ d
 exact aI rfl (Sub.refl _)
theorem q0c(h:Hp)(a:Int)(d:J0 a)(b:Int)(e:J0 b)(r:Bool)(c:m01 a b=some r):
  Tr Tryz.prog 139 #[.int .i64 a,.int .i64 b] h λv h'=>v = .bool r/\h'=h:=by
 unfold m01 at c
 refine Tr.forget (E3 (args:=[.int .i64 a,.int .i64 b]) (fn:=Tryz.f139) rfl ?_)
 obtain rfl:=oJ c
 exact aI rfl (Sub.refl _)
theorem U03(h:Hp)(b:Int)(f:J0 b)(c:Int)(g:J0 c)(r:Int)(a:p8 b c=some r):
  Tr Tryz.prog 276 #[.int .i64 b,.int .i64 c] h λv h'=>v = .int .i64 r/\h'=h:=by
 unfold p8 at a
 refine Tr.forget (E3 (args:=[.int .i64 b,.int .i64 c]) (fn:=Tryz.f276) rfl ?_)
 refine ifB a (λd a=>?_) λd a=>?_
 ·obtain rfl:=oJ a
  exact aI rfl (Sub.refl _)
 ·refine ifB a (λe a=>?_) λe a=>?_
  ·obtain rfl:=oJ a
   exact aI rfl (Sub.refl _)
  ·obtain rfl:=oJ a
   exact aI rfl (Sub.refl _)
theorem x0a(h:Hp)(c:List Value)(e:j0)(u:O1.R h c e)(d:List Value)(f:Q0)(x:P1.R h d f)(r:Bool)(a:H02 e f=some r):
  Tr Tryz.prog 232 #[.agg c.toArray,.agg d.toArray] h λv h'=>v = .bool r/\h'=h:=by
 obtain⟨n,b,g,A,i,o,rfl,rfl,j,y,w⟩:=F0 u
 obtain⟨rfl,z⟩:=Sl.len w
 obtain⟨p,s,t,rfl,rfl,k,l,m⟩:=Q2 x
 unfold H02 at a
 dsimp only at a
 refine Tr.forget (E3 (args:=[.agg #[.int .i64 n,.int .i64 b,.slice g o.length i],.agg #[.int .i64 p,.int .i64 s,.int .i64 t]]) (fn:=Tryz.f232) rfl ?_)
 refine trV a (K5 _ _ k 0 (by decide) (IntKind.i64.wrap (b-1)) (I0 _)) λB a=>?_
 refine trG a (λq=>K5 _ _ m 0 (by decide) (IntKind.i64.wrap (b-1)) (I0 _)) λC a=>?_
 refine trG a (λq=>K5 _ _ l 1 (by decide) _ j) λD a=>?_
 obtain rfl:=oJ a
 exact aI rfl (Sub.refl _)
theorem z05(h:Hp)(n:List Value)(x:Q0)(P:P1.R h n x)(o:List Value)(y:Q0)(Q:P1.R h o y)(r:Int)(b:n9 x y=some r):
  Tr Tryz.prog 253 #[.agg n.toArray,.agg o.toArray] h λv h'=>v = .int .i64 r/\h'=h:=by
 obtain⟨d,e,f,rfl,rfl,p,q,s⟩:=Q2 P
 obtain⟨g,i,j,rfl,rfl,t,u,w⟩:=Q2 Q
 unfold n9 at b
 dsimp only at b
 refine Tr.forget (E3 (args:=[.agg #[.int .i64 d,.int .i64 e,.int .i64 f],.agg #[.int .i64 g,.int .i64 i,.int .i64 j]]) (fn:=Tryz.f253) rfl ?_)
 obtain⟨m,L,b⟩:=D0 b
 refine eX { vars:=[7],boxes:=[],owns:=[],fuel:=true } (eX (λvs os h'=>∃ k,vs.tail = [.int .i64 k]/\os = []/\Sub h h'/\J0 k/\W7 d e f g i j (D2 vs) k=some m) (eX (λ_ _=>0) (aI (eX Y0 ⟨0,rfl,rfl,(Sub.refl _),(by decide),L⟩) ?_)))
 rintro _ l af ⟨k,⟨⟩,⟨⟩,c,aa,a⟩
 replace a:W7 d e f g i j l k=some m:=a
 obtain _|l:=l
 ·cases a
 rw[W7.eq_2]at a
 refine ifB a (λN a=>?_) λN a=>?_
 ·refine Or.inl (aI (aI (by kernel_rfl) (by kernel_rfl)) ?_)
  obtain⟨ah,I,a⟩:=D0 a
  obtain⟨A,X,E,T⟩:=W4 (F2.up (r:=Wp.int.toRp) c (show F2 (Wp.int.R h) ([[.int .i64 d],[.int .i64 e],[.int .i64 f]]:List (List Value)) [d,e,f] from⟨⟨rfl,p⟩,⟨⟨rfl,q⟩,⟨⟨rfl,s⟩,trivial⟩⟩⟩)) I
  refine aI A ?_
  obtain⟨rfl,ac⟩:=T
  refine eX _ (aI E ?_)
  obtain⟨ai,J,a⟩:=D0 a
  obtain⟨B,Y,F,U⟩:=W4 (F2.up (r:=Wp.int.toRp) c (show F2 (Wp.int.R h) ([[.int .i64 g],[.int .i64 i],[.int .i64 j]]:List (List Value)) [g,i,j] from⟨⟨rfl,t⟩,⟨⟨rfl,u⟩,⟨⟨rfl,w⟩,trivial⟩⟩⟩)) J
  refine aI B ?_
  obtain⟨rfl,ad⟩:=U
  refine eX _ (aI F ?_)
  refine ifB a (λO a=>?_) λO a=>?_
  ·obtain rfl:=oJ a
   try dsimp only[L3,N3]at b
   obtain rfl:=oJ b
   exact aI rfl c
  ·refine Or.inl (aI (aI (by kernel_rfl) (by kernel_rfl)) ?_)
   obtain⟨aj,K,a⟩:=D0 a
   obtain⟨C,Z,G,V⟩:=W4 (F2.up (r:=Wp.int.toRp) c (show F2 (Wp.int.R h) ([[.int .i64 d],[.int .i64 e],[.int .i64 f]]:List (List Value)) [d,e,f] from⟨⟨rfl,p⟩,⟨⟨rfl,q⟩,⟨⟨rfl,s⟩,trivial⟩⟩⟩)) K
   refine aI C ?_
   obtain⟨rfl,ae⟩:=V
   refine eX _ (aI G ?_)
   obtain⟨ag,H,a⟩:=D0 a
   obtain⟨z,W,D,S⟩:=W4 (F2.up (r:=Wp.int.toRp) c (show F2 (Wp.int.R h) ([[.int .i64 g],[.int .i64 i],[.int .i64 j]]:List (List Value)) [g,i,j] from⟨⟨rfl,t⟩,⟨⟨rfl,u⟩,⟨⟨rfl,w⟩,trivial⟩⟩⟩)) H
   refine aI z ?_
   obtain⟨rfl,ab⟩:=S
   refine eX _ (aI D ?_)
   refine ifB a (λM a=>?_) λM a=>?_
   ·obtain rfl:=oJ a
    try dsimp only[L3,N3]at b
    obtain rfl:=oJ b
    exact aI rfl c
   ·exact U2 l ⟨(IntKind.i64.wrap (k+1)),rfl,rfl,c,(I0 _),a⟩
 ·obtain rfl:=oJ a
  try dsimp only[Z0,I1]at b
  obtain rfl:=oJ b
  exact aI rfl c
theorem C6(h:Hp)(l:List Value)(t:j0)(N:O1.R h l t)(r:Bool)(b:G4 t=some r):
  Tr Tryz.prog 231 #[.agg l.toArray] h λv h'=>v = .bool r/\h'=h:=by
 obtain⟨g,i,u,aa,w,j,rfl,rfl,o,p,e⟩:=F0 N
 obtain⟨rfl,Z⟩:=Sl.len e
 unfold G4 at b
 dsimp only at b
 refine Tr.forget (E3 (args:=[.agg #[.int .i64 g,.int .i64 i,.slice u j.length w]]) (fn:=Tryz.f231) rfl ?_)
 obtain⟨k,B,b⟩:=D0 b
 refine eX { vars:=[3],boxes:=[],owns:=[],fuel:=true } (eX (λvs os h'=>∃ d,vs.tail = [.int .i64 d]/\os = []/\Sub h h'/\J0 d/\F8 j g i (D2 vs) d=some k) (eX (λ_ _=>0) (aI (eX Y0 ⟨0,rfl,rfl,(Sub.refl _),(by decide),B⟩) ?_)))
 rintro _ f s ⟨d,⟨⟩,⟨⟩,c,X,a⟩
 replace a:F8 j g i f d=some k:=a
 obtain _|f:=f
 ·cases a
 rw[F8.eq_2]at a
 refine ifB a (λD a=>?_) λD a=>?_
 ·refine Or.inl (aI (aI (by kernel_rfl) (by kernel_rfl)) ?_)
  refine ld a (U0.mono c e) λae U O a=>?_
  obtain⟨af,ag,ah,rfl,rfl,E,F,G⟩:=Q2 O
  try dsimp only at a
  obtain⟨T,y,a⟩:=D0 a
  refine eX (.bool T) (aI (x0a _ _ _ (l0 o p (U0.mono c e)) _ _ (K1 E F G) _  y) ?_)
  obtain⟨ai,z,a⟩:=D0 a
  obtain⟨V,m,P⟩:=Sl.getG (r:=P1.toRp) (U0.mono c e) z (by decide) (R0m s)
  refine aI (λq=>(m q).1) ?_
  obtain⟨aj,ak,al,rfl,rfl,H,I,J⟩:=Q2 P
  try dsimp only at a
  refine eX _ (aI (λq=>(m q).2) ?_)
  obtain⟨am,A,a⟩:=D0 a
  obtain⟨W,n,Q⟩:=Sl.getG (r:=P1.toRp) (U0.mono c e) A (by decide) (R0m s)
  refine aI (λq=>(n q).1) ?_
  obtain⟨an,ao,ap,rfl,rfl,K,L,M⟩:=Q2 Q
  try dsimp only at a
  refine eX _ (aI (λq=>(n q).2) ?_)
  refine trG a (λq=>z05 _ _ _ (K1 H I J) _ _ (K1 K L M)) λS a=>?_
  obtain⟨ab,x,a⟩:=D0 a
  have Y:J0 S:=O0 x
  refine ifB a (λC a=>?_) λC a=>?_
  ·obtain rfl:=oJ a
   try dsimp only[L3,N3]at b
   obtain rfl:=oJ b
   exact aI rfl c
  ·exact U2 f ⟨(IntKind.i64.wrap (d+1)),rfl,rfl,c,(I0 _),a⟩
 ·obtain rfl:=oJ a
  try dsimp only[Z0,I1]at b
  refine trV b (K5 _ _ o 1 (by decide) 3 (by decide)) λac b=>?_
  refine trG b (λq=>K5 _ _ p 1 (by decide) 40 (by decide)) λad b=>?_
  obtain rfl:=oJ b
  exact aI rfl c
theorem t03(h:Hp)(c:List Value)(d:j0)(l:O1.R h c d)(b:Int)(i:J0 b)(r:Bool)(a:Q5 d b=some r):
  Tr Tryz.prog 228 #[.agg c.toArray,.int .i64 b] h λv h'=>v = .bool r/\h'=h:=by
 obtain⟨j,e,f,q,g,k,rfl,rfl,n,o,m⟩:=F0 l
 obtain⟨rfl,p⟩:=Sl.len m
 unfold Q5 at a
 dsimp only at a
 refine Tr.forget (E3 (args:=[.agg #[.int .i64 j,.int .i64 e,.slice f k.length g],.int .i64 b]) (fn:=Tryz.f228) rfl ?_)
 refine trV a (P01 _ _ i 0 (by decide) (IntKind.i64.wrap (e-1)) (I0 _)) λs a=>?_
 obtain rfl:=oJ a
 exact aI rfl (Sub.refl _)
theorem p09(h:Hp)(d:List Value)(g:j0)(x:O1.R h d g)(e:List Value)(i:Q0)(y:P1.R h e i)(r:Bool)(a:j00 g i=some r):
  Tr Tryz.prog 229 #[.agg d.toArray,.agg e.toArray] h λv h'=>v = .bool r/\h'=h:=by
 obtain⟨o,p,j,A,k,s,rfl,rfl,b,f,c⟩:=F0 x
 obtain⟨rfl,z⟩:=Sl.len c
 obtain⟨t,u,w,rfl,rfl,l,m,n⟩:=Q2 y
 unfold j00 at a
 dsimp only at a
 refine Tr.forget (E3 (args:=[.agg #[.int .i64 o,.int .i64 p,.slice j s.length k],.agg #[.int .i64 t,.int .i64 u,.int .i64 w]]) (fn:=Tryz.f229) rfl ?_)
 refine trV a (t03 _ _ _ (l0 b f c) _ l) λB a=>?_
 refine trG a (λq=>t03 _ _ _ (l0 b f c) _ n) λC a=>?_
 refine trG a (λq=>P01 _ _ m 1 (by decide) _ b) λD a=>?_
 obtain rfl:=oJ a
 exact aI rfl (Sub.refl _)
theorem A05(h:Hp)(b:List Value)(d:Q0)(z:P1.R h b d)(c:List Value)(e:Q0)(A:P1.R h c e)(r:Int)(a:y00 d e=some r):
  Tr Tryz.prog 240 #[.agg b.toArray,.agg c.toArray] h λv h'=>v = .int .i64 r/\h'=h:=by
 obtain⟨s,t,u,rfl,rfl,l,m,n⟩:=Q2 z
 obtain⟨w,x,y,rfl,rfl,o,p,q⟩:=Q2 A
 unfold y00 at a
 dsimp only at a
 refine Tr.forget (E3 (args:=[.agg #[.int .i64 s,.int .i64 t,.int .i64 u],.agg #[.int .i64 w,.int .i64 x,.int .i64 y]]) (fn:=Tryz.f240) rfl ?_)
 refine trV a (U03 _ _ l _ o) λB a=>?_
 obtain⟨H,f,a⟩:=D0 a
 have E:J0 B:=O0 f
 refine ifB a (λj a=>?_) λj a=>?_
 ·obtain rfl:=oJ a
  exact aI rfl (Sub.refl _)
 ·refine trV a (U03 _ _ m _ p) λC a=>?_
  obtain⟨I,g,a⟩:=D0 a
  have F:J0 C:=O0 g
  refine ifB a (λk a=>?_) λk a=>?_
  ·obtain rfl:=oJ a
   exact aI rfl (Sub.refl _)
  ·refine trV a (U03 _ _ n _ q) λD a=>?_
   obtain⟨J,i,a⟩:=D0 a
   have G:J0 D:=O0 i
   obtain rfl:=oJ a
   exact aI rfl (Sub.refl _)
theorem g02(h:Hp)(l:List Value)(u:j0)(J:O1.R h l u)(r:Bool)(b:j8 u=some r):
  Tr Tryz.prog 171 #[.agg l.toArray] h λv h'=>v = .bool r/\h'=h:=by
 obtain⟨g,i,w,U,x,j,rfl,rfl,n,o,f⟩:=F0 J
 obtain⟨rfl,T⟩:=Sl.len f
 unfold j8 at b
 dsimp only at b
 refine Tr.forget (E3 (args:=[.agg #[.int .i64 g,.int .i64 i,.slice w j.length x]]) (fn:=Tryz.f171) rfl ?_)
 refine trV b (P01 _ _ n 1 (by decide) 3 (by decide)) λW b=>?_
 refine trG b (λq=>P01 _ _ o 1 (by decide) 40 (by decide)) λab b=>?_
 refine ifB b (λD b=>?_) λD b=>?_
 ·obtain rfl:=oJ b
  exact aI rfl (Sub.refl _)
 ·obtain⟨k,B,b⟩:=D0 b
  refine eX { vars:=[24],boxes:=[],owns:=[],fuel:=true } (eX (λvs os h'=>∃ d,vs.tail = [.int .i64 d]/\os = []/\Sub h h'/\J0 d/\G8 j g i (D2 vs) d=some k) (eX (λ_ _=>0) (aI (eX Y0 ⟨0,rfl,rfl,(Sub.refl _),(by decide),B⟩) ?_)))
  rintro _ e I ⟨d,⟨⟩,⟨⟩,c,Q,a⟩
  replace a:G8 j g i e d=some k:=a
  obtain _|e:=e
  ·cases a
  rw[G8.eq_2]at a
  refine ifB a (λE a=>?_) λE a=>?_
  ·refine ld a (U0.mono c f) λac P L a=>?_
   obtain⟨ad,ae,af,rfl,rfl,p,s,t⟩:=Q2 L
   try dsimp only at a
   refine Or.inl (aI (aI (by kernel_rfl) (by kernel_rfl)) ?_)
   obtain⟨M,z,a⟩:=D0 a
   refine eX (.bool M) (aI (p09 _ _ _ (l0 n o (U0.mono c f)) _ _ (K1 p s t) _  z) ?_)
   obtain⟨X,A,a⟩:=D0 a
   obtain⟨O,m,K⟩:=Sl.getG (r:=P1.toRp) (U0.mono c f) A (by decide) (R0m I)
   refine aI (λq=>(m q).1) ?_
   obtain⟨Y,Z,aa,rfl,rfl,F,G,H⟩:=Q2 K
   try dsimp only at a
   refine eX _ (aI (λq=>(m q).2) ?_)
   refine trG a (λq=>A05 _ _ _ (K1 F G H) _ _ (K1 p s t)) λN a=>?_
   obtain⟨V,y,a⟩:=D0 a
   have S:J0 N:=O0 y
   refine ifB a (λC a=>?_) λC a=>?_
   ·obtain rfl:=oJ a
    try dsimp only[L3,N3]at b
    obtain rfl:=oJ b
    exact aI rfl c
   ·exact U2 e ⟨(IntKind.i64.wrap (d+1)),rfl,rfl,c,(I0 _),a⟩
  ·obtain rfl:=oJ a
   try dsimp only[Z0,I1]at b
   obtain rfl:=oJ b
   exact aI rfl c
theorem u03(h:Hp)(u:Option Addr)(F w:Nat)(s:D1)(k:E2.R h [.slice u F w] s)(b:Int)(g:J0 b)(r:D1)(f:a00 s b=some r):
  Tr Tryz.prog 264 #[.slice u F w,.int .i64 b] h λv h'=>∃(y:Option Addr) (E z:Nat),v = .slice y E z/\E2.R h' [.slice y E z] r/\Sub h h':=by
 obtain⟨rfl,ak⟩:=Sl.len k
 unfold a00 at f
 refine E3 (args:=[.slice u s.length w,.int .i64 b]) (fn:=Tryz.f264) rfl ?_
 obtain⟨x,U,f⟩:=D0 f
 refine eX { vars:=[6,7],boxes:=[],owns:=[0],fuel:=true } (eX (λvs os h'=>∃ t j m i,vs.tail = [.bool t,.int .i64 j]/\os = [m]/\Sub h h'/\J0 j/\F2 (Wp.int.R h') m i/\d5 s b (D2 vs) t j i=some x) (eX (λ_ _=>0) (aI (eX Y0 ⟨false,0,[],([]:D1),rfl,rfl,(Sub.refl _),(by decide),(show F2 (Wp.int.R h) ([]:List (List Value)) ([]:D1) from trivial),U⟩) ?_)))
 rintro _ _ m l d ⟨t,j,aB,i,⟨⟩,⟨⟩,e,ae,c,a⟩
 replace a:d5 s b l t j i=some x:=a
 obtain _|l:=l
 ·cases a
 rw[d5.eq_2]at a
 refine ifB a (λY a=>?_) λY a=>?_
 ·refine ldI a (E2.mono e k) λaA ah a=>?_
  refine ifB a (λZ a=>?_) λZ a=>?_
  ·refine ldI a (E2.mono e k) λay af a=>?_
   refine ifB a (λV a=>?_) λV a=>?_
   ·obtain⟨an,M,a⟩:=D0 a
    refine aI (N2 M (by first|rw[F2.length c,F2.length (show F2 (Wp.int.R d) ([[.int .i64 b]]:List (List Value)) [b] from⟨⟨rfl,g⟩,trivial⟩)]|exact congrArg (·+1) (F2.length c))) ?_
    refine ldI a (E2.mono e k) λn A a=>?_
    obtain⟨ao,N,a⟩:=D0 a
    refine aI (N2 N (by first|rw[F2.length (F2.append c (show F2 (Wp.int.R d) ([[.int .i64 b]]:List (List Value)) [b] from⟨⟨rfl,g⟩,trivial⟩)),F2.length (show F2 (Wp.int.R d) ([[.int .i64 n]]:List (List Value)) [n] from⟨⟨rfl,A⟩,trivial⟩)]|exact congrArg (·+1) (F2.length (F2.append c (show F2 (Wp.int.R d) ([[.int .i64 b]]:List (List Value)) [b] from⟨⟨rfl,g⟩,trivial⟩))))) ?_
    exact U2 l ⟨true,(IntKind.i64.wrap (j+1)),((m++([[.int .i64 b]]:List (List Value)))++([[.int .i64 n]]:List (List Value))),((i ++ [b]) ++ [n]),rfl,rfl,e,(I0 _),(F2.append (F2.append c (show F2 (Wp.int.R d) ([[.int .i64 b]]:List (List Value)) [b] from⟨⟨rfl,g⟩,trivial⟩)) (show F2 (Wp.int.R d) ([[.int .i64 n]]:List (List Value)) [n] from⟨⟨rfl,A⟩,trivial⟩)),a⟩
   ·refine ldI a (E2.mono e k) λo B a=>?_
    obtain⟨ap,O,a⟩:=D0 a
    refine aI (N2 O (by first|rw[F2.length c,F2.length (show F2 (Wp.int.R d) ([[.int .i64 o]]:List (List Value)) [o] from⟨⟨rfl,B⟩,trivial⟩)]|exact congrArg (·+1) (F2.length c))) ?_
    exact U2 l ⟨true,(IntKind.i64.wrap (j+1)),(m++([[.int .i64 o]]:List (List Value))),(i ++ [o]),rfl,rfl,e,(I0 _),(F2.append c (show F2 (Wp.int.R d) ([[.int .i64 o]]:List (List Value)) [o] from⟨⟨rfl,B⟩,trivial⟩)),a⟩
  ·refine ldI a (E2.mono e k) λaz ag a=>?_
   refine ifB a (λW a=>?_) λW a=>?_
   ·obtain⟨aq,P,a⟩:=D0 a
    refine aI (N2 P (by first|rw[F2.length c,F2.length (show F2 (Wp.int.R d) ([[.int .i64 b]]:List (List Value)) [b] from⟨⟨rfl,g⟩,trivial⟩)]|exact congrArg (·+1) (F2.length c))) ?_
    refine ldI a (E2.mono e k) λp C a=>?_
    obtain⟨ar,Q,a⟩:=D0 a
    refine aI (N2 Q (by first|rw[F2.length (F2.append c (show F2 (Wp.int.R d) ([[.int .i64 b]]:List (List Value)) [b] from⟨⟨rfl,g⟩,trivial⟩)),F2.length (show F2 (Wp.int.R d) ([[.int .i64 p]]:List (List Value)) [p] from⟨⟨rfl,C⟩,trivial⟩)]|exact congrArg (·+1) (F2.length (F2.append c (show F2 (Wp.int.R d) ([[.int .i64 b]]:List (List Value)) [b] from⟨⟨rfl,g⟩,trivial⟩))))) ?_
    exact U2 l ⟨true,(IntKind.i64.wrap (j+1)),((m++([[.int .i64 b]]:List (List Value)))++([[.int .i64 p]]:List (List Value))),((i ++ [b]) ++ [p]),rfl,rfl,e,(I0 _),(F2.append (F2.append c (show F2 (Wp.int.R d) ([[.int .i64 b]]:List (List Value)) [b] from⟨⟨rfl,g⟩,trivial⟩)) (show F2 (Wp.int.R d) ([[.int .i64 p]]:List (List Value)) [p] from⟨⟨rfl,C⟩,trivial⟩)),a⟩
   ·refine ldI a (E2.mono e k) λq D a=>?_
    obtain⟨au,S,a⟩:=D0 a
    refine aI (N2 S (by first|rw[F2.length c,F2.length (show F2 (Wp.int.R d) ([[.int .i64 q]]:List (List Value)) [q] from⟨⟨rfl,D⟩,trivial⟩)]|exact congrArg (·+1) (F2.length c))) ?_
    exact U2 l ⟨t,(IntKind.i64.wrap (j+1)),(m++([[.int .i64 q]]:List (List Value))),(i ++ [q]),rfl,rfl,e,(I0 _),(F2.append c (show F2 (Wp.int.R d) ([[.int .i64 q]]:List (List Value)) [q] from⟨⟨rfl,D⟩,trivial⟩)),a⟩
 ·obtain rfl:=oJ a
  try dsimp only[Z0,I1]at f
  refine ifB f (λX f=>?_) λX f=>?_
  ·obtain⟨av,T,f⟩:=D0 f
   refine aI (N2 T (by first|rw[F2.length c,F2.length (show F2 (Wp.int.R d) ([[.int .i64 b]]:List (List Value)) [b] from⟨⟨rfl,g⟩,trivial⟩)]|exact congrArg (·+1) (F2.length c))) ?_
   intro aw ai K
   obtain⟨G,I,rfl,aa,ac,al⟩:=J1.out (r:=Wp.int.toRp) K (F2.append c (show F2 (Wp.int.R d) ([[.int .i64 b]]:List (List Value)) [b] from⟨⟨rfl,g⟩,trivial⟩))
   obtain rfl:=oJ f
   exact⟨G,((i ++ [b])).length,I,rfl,aa,(e.trans ac)⟩
  ·intro ax aj L
   obtain⟨H,J,rfl,ab,ad,am⟩:=J1.out (r:=Wp.int.toRp) L c
   obtain rfl:=oJ f
   exact⟨H,i.length,J,rfl,ab,(e.trans ad)⟩
theorem v03(h:Hp)(i:Option Addr)(l j:Nat)(e:D1)(m:E2.R h [.slice i l j] e)(c:Int)(q:J0 c)(r:Bool)(b:b00 e c=some r):
  Tr Tryz.prog 129 #[.slice i l j,.int .i64 c] h λv h'=>v = .bool r/\h'=h:=by
 obtain⟨rfl,w⟩:=Sl.len m
 unfold b00 at b
 refine Tr.forget (E3 (args:=[.slice i e.length j,.int .i64 c]) (fn:=Tryz.f129) rfl ?_)
 obtain⟨k,n,b⟩:=D0 b
 refine eX { vars:=[5],boxes:=[],owns:=[],fuel:=true } (eX (λvs os h'=>∃ d,vs.tail = [.int .i64 d]/\os = []/\Sub h h'/\J0 d/\k00 e c (D2 vs) d=some k) (eX (λ_ _=>0) (aI (eX Y0 ⟨0,rfl,rfl,(Sub.refl _),(by decide),n⟩) ?_)))
 rintro _ f u ⟨d,⟨⟩,⟨⟩,g,s,a⟩
 replace a:k00 e c f d=some k:=a
 obtain _|f:=f
 ·cases a
 rw[k00.eq_2]at a
 refine ifB a (λo a=>?_) λo a=>?_
 ·refine ldI a (E2.mono g m) λx t a=>?_
  refine ifB a (λp a=>?_) λp a=>?_
  ·obtain rfl:=oJ a
   try dsimp only[L3,N3]at b
   obtain rfl:=oJ b
   exact aI rfl g
  ·exact U2 f ⟨(IntKind.i64.wrap (d+1)),rfl,rfl,g,(I0 _),a⟩
 ·obtain rfl:=oJ a
  try dsimp only[Z0,I1]at b
  obtain rfl:=oJ b
  exact aI rfl g
theorem z0d(h:Hp)(t:List Value)(x:j0)(Y:O1.R h t x)(f:Int)(ah:J0 f)(g:Int)(ai:J0 g)(r:D1)(e:V01 x f g=some r):
  Tr Tryz.prog 215 #[.agg t.toArray,.int .i64 f,.int .i64 g] h λv h'=>∃(q:Option Addr) (w s:Nat),v = .slice q w s/\E2.R h' [.slice q w s] r/\Sub h h':=by
 obtain⟨W,X,F,ay,K,n,rfl,rfl,af,ag,y⟩:=F0 Y
 obtain⟨rfl,aq⟩:=Sl.len y
 unfold V01 at e
 dsimp only at e
 refine E3 (args:=[.agg #[.int .i64 W,.int .i64 X,.slice F n.length K],.int .i64 f,.int .i64 g]) (fn:=Tryz.f215) rfl ?_
 obtain⟨p,P,e⟩:=D0 e
 refine eX { vars:=[7,8],boxes:=[],owns:=[],fuel:=true,pubs:=[7,10] } (eX (λvs os h'=>∃(j:Option Addr) (m k:Nat) (d:D1) (b:Int),vs.tail = [.slice j m k,.int .i64 b]/\os = []/\Sub h h'/\E2.R h' [.slice j m k] d/\J0 b/\M4 n g f (D2 vs) d b=some p) (eX (λ_ _=>0) ?_))
 intro aC an f3
 obtain⟨J,O,rfl,aa,ad,ax⟩:=J1.out (r:=Wp.int.toRp) f3 (show F2 (Wp.int.R h) ([]:List (List Value)) ([]:D1) from trivial)
 refine aI (eX Y0 ⟨J,(([]:D1)).length,O,([]:D1),0,rfl,rfl,ad,aa,(by decide),P⟩) ?_
 rintro _ _ c ap ⟨j,m,k,d,b,⟨⟩,⟨⟩,i,l,aj,a⟩
 replace a:M4 n g f c d b=some p:=a
 obtain _|c:=c
 ·cases a
 rw[M4.eq_2]at a
 obtain⟨rfl,ar⟩:=Sl.len l
 refine ifB a (λQ a=>?_) λQ a=>?_
 ·refine ld a (U0.mono i y) λaG ae Z a=>?_
  obtain⟨aH,aJ,aK,rfl,rfl,u,ak,V⟩:=Q2 Z
  try dsimp only at a
  refine ifB a (λS a=>?_) λS a=>?_
  ·refine trM a (u03 _ _ _ _ _ l _ V) ?_
   rintro C a aD al ⟨G,az,L,rfl,o,B⟩
   obtain⟨rfl,au⟩:=Sl.len o
   refine ifB a (λT a=>?_) λT a=>?_
   ·refine trM a (u03 _ _ _ _ _ o _ u) ?_
    rintro D a aE am ⟨H,aA,M,rfl,z,ab⟩
    obtain⟨rfl,av⟩:=Sl.len z
    exact U2 c ⟨H,D.length,M,D,(IntKind.i64.wrap (b+1)),rfl,rfl,((i.trans B).trans ab),z,(I0 _),a⟩
   ·exact U2 c ⟨G,C.length,L,C,(IntKind.i64.wrap (b+1)),rfl,rfl,(i.trans B),o,(I0 _),a⟩
  ·refine ifB a (λU a=>?_) λU a=>?_
   ·refine trM a (u03 _ _ _ _ _ l _ u) ?_
    rintro E a aF ao ⟨I,aB,N,rfl,A,ac⟩
    obtain⟨rfl,aw⟩:=Sl.len A
    exact U2 c ⟨I,E.length,N,E,(IntKind.i64.wrap (b+1)),rfl,rfl,(i.trans ac),A,(I0 _),a⟩
   ·exact U2 c ⟨j,d.length,k,d,(IntKind.i64.wrap (b+1)),rfl,rfl,i,l,(I0 _),a⟩
 ·obtain rfl:=oJ a
  try dsimp only[Z0,I1]at e
  obtain rfl:=oJ e
  exact⟨j,d.length,k,rfl,l,i⟩
theorem L6(h:Hp)(d:List Value)(e:j0)(u:O1.R h d e)(b:Int)(o:J0 b)(c:Int)(p:J0 c)(r:Int)(a:A4 e b c=some r):
  Tr Tryz.prog 128 #[.agg d.toArray,.int .i64 b,.int .i64 c] h λv h'=>v = .int .i64 r/\h'=h:=by
 obtain⟨q,s,j,C,k,t,rfl,rfl,m,n,f⟩:=F0 u
 obtain⟨rfl,A⟩:=Sl.len f
 unfold A4 at a
 dsimp only at a
 refine Tr.forget (E3 (args:=[.agg #[.int .i64 q,.int .i64 s,.slice j t.length k],.int .i64 b,.int .i64 c]) (fn:=Tryz.f128) rfl ?_)
 refine trM a (z0d _ _ _ (l0 m n f) _ o _ p) ?_
 rintro F a E z ⟨w,D,x,rfl,g,i⟩
 obtain⟨rfl,B⟩:=Sl.len g
 refine ifB a (λl a=>?_) λl a=>?_
 ·obtain rfl:=oJ a
  exact aI rfl i
 ·refine ldI a g λG y a=>?_
  obtain rfl:=oJ a
  exact aI rfl i
theorem Q03(h:Hp)(p:List Value)(u:j0)(E:O1.R h p u)(r:Bool)(c:t9 u=some r):
  Tr Tryz.prog 154 #[.agg p.toArray] h λv h'=>v = .bool r/\h'=h:=by
 obtain⟨l,m,w,U,x,f,rfl,rfl,s,t,g⟩:=F0 E
 obtain⟨rfl,T⟩:=Sl.len g
 unfold t9 at c
 dsimp only at c
 refine Tr.forget (E3 (args:=[.agg #[.int .i64 l,.int .i64 m,.slice w f.length x]]) (fn:=Tryz.f154) rfl ?_)
 obtain⟨n,y,c⟩:=D0 c
 refine eX { vars:=[3],boxes:=[],owns:=[],fuel:=true } (eX (λvs os h'=>∃ d,vs.tail = [.int .i64 d]/\os = []/\Sub h h'/\J0 d/\Y5 f l m (D2 vs) d=some n) (eX (λ_ _=>0) (aI (eX Y0 ⟨0,rfl,rfl,(Sub.refl _),(by decide),y⟩) ?_)))
 rintro _ k D ⟨d,⟨⟩,⟨⟩,e,J,b⟩
 replace b:Y5 f l m k d=some n:=b
 obtain _|k:=k
 ·cases b
 rw[Y5.eq_2]at b
 refine trG b (λq=>C6 _ _ _ (l0 s t (U0.mono e g))) λae b=>?_
 refine ifB b (λC b=>?_) λC b=>?_
 ·obtain⟨o,z,b⟩:=D0 b
  refine eX { vars:=[4],boxes:=[],owns:=[],fuel:=true } (eX (λvs os h'=>∃ u8,vs.tail = [.int .i64 u8]/\os = []/\Sub D h'/\J0 u8/\M7 d f (D2 vs) u8=some o) (eX (λ_ _=>0) (aI (eX Y0 ⟨0,rfl,rfl,(Sub.refl _),(by decide),z⟩) ?_)))
  rintro _ j S ⟨u8,⟨⟩,⟨⟩,i,K,a⟩
  replace a:M7 d f j u8=some o:=a
  obtain _|j:=j
  ·cases a
  rw[M7.eq_2]at a
  refine ifB a (λA a=>?_) λA a=>?_
  ·refine ld a (U0.mono (e.trans i) g) λV H F a=>?_
   obtain⟨W,X,Y,rfl,rfl,L,M,N⟩:=Q2 F
   try dsimp only at a
   refine ld a (U0.mono (e.trans i) g) λZ I G a=>?_
   obtain⟨aa,ab,ac,rfl,rfl,O,P,Q⟩:=Q2 G
   try dsimp only at a
   refine ifB a (λB a=>?_) λB a=>?_
   ·obtain rfl:=oJ a
    try dsimp only[L3,N3]at b
    obtain rfl:=oJ b
    try dsimp only[L3,N3]at c
    obtain rfl:=oJ c
    exact aI rfl (e.trans i)
   ·exact U2 j ⟨(IntKind.i64.wrap (u8+1)),rfl,rfl,i,(I0 _),a⟩
  ·obtain rfl:=oJ a
   try dsimp only[Z0,I1]at b
   exact U2 k ⟨(IntKind.i64.wrap (d+1)),rfl,rfl,(e.trans i),(I0 _),b⟩
 ·obtain rfl:=oJ b
  try dsimp only[Z0,I1]at c
  refine trV c (C6 _ _ _ (l0 s t (U0.mono e g))) λad c=>?_
  obtain rfl:=oJ c
  exact aI rfl e
theorem A0d(h:Hp)(t:List Value)(A:j0)(T:O1.R h t A)(g:Int)(aa:J0 g)(i:Int)(ab:J0 i)(r:D1)(c:W01 A g i=some r):
  Tr Tryz.prog 269 #[.agg t.toArray,.int .i64 g,.int .i64 i] h λv h'=>∃(q:Option Addr) (z s:Nat),v = .slice q z s/\New E2 h h' [.slice q z s] r:=by
 obtain⟨Q,S,E,ak,G,o,rfl,rfl,Y,Z,D⟩:=F0 T
 obtain⟨rfl,ah⟩:=Sl.len D
 unfold W01 at c
 dsimp only at c
 refine E3 (args:=[.agg #[.int .i64 Q,.int .i64 S,.slice E o.length G],.int .i64 g,.int .i64 i]) (fn:=Tryz.f269) rfl ?_
 obtain⟨p,M,c⟩:=D0 c
 refine eX { vars:=[14],boxes:=[],owns:=[0],fuel:=true } (eX (λvs os h'=>∃ d j e,vs.tail = [.int .i64 d]/\os = [j]/\Sub h h'/\J0 d/\F2 (Wp.int.R h') j e/\C5 o i g (D2 vs) d e=some p) (eX (λ_ _=>0) (aI (eX Y0 ⟨0,[],([]:D1),rfl,rfl,(Sub.refl _),(by decide),(show F2 (Wp.int.R h) ([]:List (List Value)) ([]:D1) from trivial),M⟩) ?_)))
 rintro _ j f n ⟨d,az,e,⟨⟩,⟨⟩,m,ac,b,a⟩
 replace a:C5 o i g f d e=some p:=a
 obtain _|f:=f
 ·cases a
 rw[C5.eq_2]at a
 refine ifB a (λO a=>?_) λO a=>?_
 ·refine ld a (U0.mono m D) λax W U a=>?_
  obtain⟨k,ay,l,rfl,rfl,x,ad,y⟩:=Q2 U
  try dsimp only at a
  refine ifB a (λP a=>?_) λP a=>?_
  ·obtain⟨an,L,a⟩:=D0 a
   refine aI (N2 L (by first|rw[F2.length b,F2.length (show F2 (Wp.int.R n) ([[.int .i64 l]]:List (List Value)) [l] from⟨⟨rfl,y⟩,trivial⟩)]|exact congrArg (·+1) (F2.length b))) ?_
   exact U2 f ⟨(IntKind.i64.wrap (d+1)),(j++([[.int .i64 l]]:List (List Value))),(e ++ [l]),rfl,rfl,m,(I0 _),(F2.append b (show F2 (Wp.int.R n) ([[.int .i64 l]]:List (List Value)) [l] from⟨⟨rfl,y⟩,trivial⟩)),a⟩
  ·refine ifB a (λN a=>?_) λN a=>?_
   ·obtain⟨al,J,a⟩:=D0 a
    refine aI (N2 J (by first|rw[F2.length b,F2.length (show F2 (Wp.int.R n) ([[.int .i64 k]]:List (List Value)) [k] from⟨⟨rfl,x⟩,trivial⟩)]|exact congrArg (·+1) (F2.length b))) ?_
    exact U2 f ⟨(IntKind.i64.wrap (d+1)),(j++([[.int .i64 k]]:List (List Value))),(e ++ [k]),rfl,rfl,m,(I0 _),(F2.append b (show F2 (Wp.int.R n) ([[.int .i64 k]]:List (List Value)) [k] from⟨⟨rfl,x⟩,trivial⟩)),a⟩
   ·exact U2 f ⟨(IntKind.i64.wrap (d+1)),j,e,rfl,rfl,m,(I0 _),b,a⟩
 ·obtain rfl:=oJ a
  try dsimp only[Z0,I1]at c
  refine Or.inl ?_
  intro au ae I
  obtain⟨am,K,c⟩:=D0 c
  refine Tr.mono (J0n _ I b (O0 K)) ?_
  rintro _ af ⟨rfl,av,u,B⟩
  obtain⟨V,X,rfl,ao,aq,ai⟩:=J1.out (r:=Wp.int.toRp) u B
  refine Tr.mono (K0n _ u B) ?_
  rintro _ ag ⟨aw,w,C⟩
  obtain⟨F,H,rfl,ap,ar,aj⟩:=J1.out (r:=Wp.int.toRp) w C
  obtain rfl:=oJ c
  exact⟨F,((B04 eqI (s07 q00 e))).length,H,rfl,(New.from (J1.newPlain (r:=Wp.int) w C (Q0h _)) m)⟩
theorem D01(h:Hp)(d:List Value)(e:j0)(x:O1.R h d e)(b:Int)(p:J0 b)(c:Int)(q:J0 c)(r:Int)(a:I6 e b c=some r):
  Tr Tryz.prog 225 #[.agg d.toArray,.int .i64 b,.int .i64 c] h λv h'=>v = .int .i64 r/\h'=h:=by
 obtain⟨t,u,k,D,l,w,rfl,rfl,n,o,f⟩:=F0 x
 obtain⟨rfl,B⟩:=Sl.len f
 unfold I6 at a
 dsimp only at a
 refine Tr.forget (E3 (args:=[.agg #[.int .i64 t,.int .i64 u,.slice k w.length l],.int .i64 b,.int .i64 c]) (fn:=Tryz.f225) rfl ?_)
 refine trM a (A0d _ _ _ (l0 n o f) _ p _ q) ?_
 rintro G a F s ⟨y,E,z,rfl,j⟩
 have i:Sub h s:=j.sub
 have g:=j.r
 obtain⟨rfl,C⟩:=Sl.len g
 refine ifB a (λm a=>?_) λm a=>?_
 ·obtain rfl:=oJ a
  exact aI rfl i
 ·refine ldI a g λH A a=>?_
  obtain rfl:=oJ a
  exact aI rfl i
theorem k01(h:Hp)(o:List Value)(p:j0)(P:O1.R h o p)(r:Bool)(c:i7 p=some r):
  Tr Tryz.prog 141 #[.agg o.toArray] h λv h'=>v = .bool r/\h'=h:=by
 obtain⟨M,N,x,ak,y,l,rfl,rfl,J,K,j⟩:=F0 P
 obtain⟨rfl,ai⟩:=Sl.len j
 unfold i7 at c
 dsimp only at c
 refine Tr.forget (E3 (args:=[.agg #[.int .i64 M,.int .i64 N,.slice x l.length y]]) (fn:=Tryz.f141) rfl ?_)
 refine trV c (g02 _ _ _ (l0 J K j)) λal c=>?_
 refine ifB c (λG c=>?_) λG c=>?_
 ·obtain rfl:=oJ c
  exact aI rfl (Sub.refl _)
 ·obtain⟨n,D,c⟩:=D0 c
  refine eX { vars:=[13],boxes:=[],owns:=[],fuel:=true } (eX (λvs os h'=>∃ e,vs.tail = [.int .i64 e]/\os = []/\Sub h h'/\J0 e/\O7 l (D2 vs) e=some n) (eX (λ_ _=>0) (aI (eX Y0 ⟨0,rfl,rfl,(Sub.refl _),(by decide),D⟩) ?_)))
  rintro _ i L ⟨e,⟨⟩,⟨⟩,f,aa,a⟩
  replace a:O7 l i e=some n:=a
  obtain _|i:=i
  ·cases a
  rw[O7.eq_2]at a
  refine ifB a (λH a=>?_) λH a=>?_
  ·refine ld a (U0.mono f j) λaq X S a=>?_
   obtain⟨s,t,u,rfl,rfl,ae,af,ag⟩:=Q2 S
   try dsimp only at a
   obtain⟨w,B,a⟩:=D0 a
   obtain⟨O,T,z,A⟩:=Sl.cutI (r:=P1.toRp) (U0.mono f j) B
   refine aI O (eX T (aI z ?_))
   intro U I _
   obtain⟨V,Y,rfl,q⟩:=A U I
   have aj:=(Sl.len q).2
   obtain⟨m,C,a⟩:=D0 a
   refine eX { vars:=[24],boxes:=[],owns:=[],fuel:=true } (eX (λvs os h'=>∃ d,vs.tail = [.int .i64 d]/\os = []/\Sub L h'/\J0 d/\N7 w t s u (D2 vs) d=some m) (eX (λ_ _=>0) (aI (eX Y0 ⟨0,rfl,rfl,(Sub.refl _),(by decide),C⟩) ?_)))
   rintro _ g ah ⟨d,⟨⟩,⟨⟩,k,Z,b⟩
   replace b:N7 w t s u g d=some m:=b
   obtain _|g:=g
   ·cases b
   rw[N7.eq_2]at b
   refine ifB b (λE b=>?_) λE b=>?_
   ·refine ld b (U0.mono k q) λam W Q b=>?_
    obtain⟨an,ao,ap,rfl,rfl,ab,ac,ad⟩:=Q2 Q
    try dsimp only at b
    refine ifB b (λF b=>?_) λF b=>?_
    ·obtain rfl:=oJ b
     try dsimp only[L3,N3]at a
     obtain rfl:=oJ a
     try dsimp only[L3,N3]at c
     obtain rfl:=oJ c
     exact aI rfl (f.trans k)
    ·exact U2 g ⟨(IntKind.i64.wrap (d+1)),rfl,rfl,k,(I0 _),b⟩
   ·obtain rfl:=oJ b
    try dsimp only[Z0,I1]at a
    exact U2 i ⟨(IntKind.i64.wrap (e+1)),rfl,rfl,(f.trans k),(I0 _),a⟩
  ·obtain rfl:=oJ a
   try dsimp only[Z0,I1]at c
   obtain rfl:=oJ c
   exact aI rfl f
theorem r0c(h:Hp)(p:List Value)(s:j0)(J:O1.R h p s)(d:Int)(F:J0 d)(j:Option Addr)(q k:Nat)(e:D1)(u:E2.R h [.slice j q k] e)(r:Int×Int)(b:p01 s d e=some r):
  Tr Tryz.prog 142 #[.agg p.toArray,.int .i64 d,.slice j q k] h λv h'=>v = .tuple #[.int .i64 r.1,.int .i64 r.2]/\h'=h:=by
 obtain⟨l,m,x,O,y,n,rfl,rfl,D,E,t⟩:=F0 J
 obtain⟨rfl,M⟩:=Sl.len t
 obtain⟨rfl,N⟩:=Sl.len u
 unfold p01 at b
 dsimp only at b
 refine Tr.forget (E3 (args:=[.agg #[.int .i64 l,.int .i64 m,.slice x n.length y],.int .i64 d,.slice j e.length k]) (fn:=Tryz.f142) rfl ?_)
 obtain⟨o,A,b⟩:=D0 b
 refine eX { vars:=[1,13],boxes:=[],owns:=[],fuel:=true } (eX (λvs os h'=>∃ g c,vs.tail = [.int .i64 g,.int .i64 c]/\os = []/\Sub h h'/\J0 g/\J0 c/\E6 e l m n (D2 vs) g c=some o) (eX (λ_ _=>0) (aI (eX Y0 ⟨d,0,rfl,rfl,(Sub.refl _),F,(by decide),A⟩) ?_)))
 rintro _ _ i L ⟨g,c,⟨⟩,⟨⟩,f,G,K,a⟩
 replace a:E6 e l m n i g c=some o:=a
 obtain _|i:=i
 ·cases a
 rw[E6.eq_2]at a
 refine ifB a (λC a=>?_) λC a=>?_
 ·refine ldI a (E2.mono f u) λQ H a=>?_
  refine trV a (D01 _ _ _ (l0 D E (U0.mono f t)) _ G _ H) λw a=>?_
  obtain⟨P,z,a⟩:=D0 a
  have I:J0 w:=O0 z
  refine ifB a (λB a=>?_) λB a=>?_
  ·obtain rfl:=oJ a
   try dsimp only[L3,N3]at b
   obtain rfl:=oJ b
   exact aI rfl f
  ·exact U2 i ⟨w,(IntKind.i64.wrap (c+1)),rfl,rfl,f,I,(I0 _),a⟩
 ·obtain rfl:=oJ a
  try dsimp only[Z0,I1]at b
  obtain rfl:=oJ b
  exact aI rfl f
theorem V4(h:Hp)(d:List Value)(f:j0)(u:O1.R h d f)(r:j0)(a:T3 f=some r):
  Tr Tryz.prog 120 #[.agg d.toArray] h λv h'=>∃(c:List Value),v = .agg c.toArray/\New O1 h h' c r:=by
 obtain⟨g,i,l,A,n,j,rfl,rfl,s,t,k⟩:=F0 u
 obtain⟨rfl,y⟩:=Sl.len k
 unfold T3 at a
 dsimp only at a
 refine E3 (args:=[.agg #[.int .i64 g,.int .i64 i,.slice l j.length n]]) (fn:=Tryz.f120) rfl ?_
 refine Or.inr (Or.inr (Or.inl (aI (aI (by kernel_rfl) (by kernel_rfl)) ?_)))
 refine Or.inr ?_
 refine Or.inr ?_
 refine Or.inr ?_
 refine Or.inr ?_
 refine Or.inl (eX 0 (aI (aI rfl rfl) ?_))
 refine aT ?_
 obtain⟨w,p,b⟩:=Sl.rows (r:=P1.toRp) k
 refine eX w (aI p ?_)
 obtain⟨B,q,a⟩:=D0 a
 refine aI (N2 q (by first|rw[F2.length (show F2 (P1.R h) ([]:List (List Value)) ([]:V0) from trivial),F2.length b]|exact congrArg (·+1) (F2.length (show F2 (P1.R h) ([]:List (List Value)) ([]:V0) from trivial)))) ?_
 refine aT ?_
 refine aT ?_
 refine aT ?_
 intro E x e
 obtain⟨m,o,rfl,C,D,z⟩:=J1.out (r:=P1.toRp) e (F2.append (show F2 (P1.R h) ([]:List (List Value)) ([]:V0) from trivial) b)
 obtain rfl:=oJ a
 exact⟨([.int .i64 g,.int .i64 i,.slice m ((([]:V0)++j)).length o]),rfl,(New.pair (New.int s) (New.pair (New.int t) (J1.newPlain (r:=P1) e (F2.append (show F2 (P1.R h) ([]:List (List Value)) ([]:V0) from trivial) b) (s06 _))))⟩
theorem n8(h:Hp)(H:Option Addr)(ad I:Nat)(F:V0)(q:U0.R h [.slice H ad I] F)(M:List Value)(ae:Q0)(aH:P1.R h M ae)(r:V0)(g:L5 F ae=some r):
  Tr Tryz.prog 193 #[.slice H ad I,.agg M.toArray] h λv h'=>∃(K:Option Addr) (ac L:Nat),v = .slice K ac L/\New U0 h h' [.slice K ac L] r:=by
 obtain⟨rfl,aY⟩:=Sl.len q
 obtain⟨b,c,d,rfl,rfl,i,j,k⟩:=Q2 aH
 unfold L5 at g
 dsimp only at g
 refine E3 (args:=[.slice H F.length I,.agg #[.int .i64 b,.int .i64 c,.int .i64 d]]) (fn:=Tryz.f193) rfl ?_
 obtain⟨J,ay,g⟩:=D0 g
 refine eX { vars:=[6,7],boxes:=[],owns:=[0],fuel:=true } (eX (λvs os h'=>∃ G n p m,vs.tail = [.bool G,.int .i64 n]/\os = [p]/\Sub h h'/\J0 n/\F2 (P1.R h') p m/\i5 F b c d (D2 vs) G n m=some J) (eX (λ_ _=>0) (aI (eX Y0 ⟨false,0,[],([]:V0),rfl,rfl,(Sub.refl _),(by decide),(show F2 (P1.R h) ([]:List (List Value)) ([]:V0) from trivial),ay⟩) ?_)))
 rintro _ _ p o f ⟨G,n,bo,m,⟨⟩,⟨⟩,l,aU,e,a⟩
 replace a:i5 F b c d o G n m=some J:=a
 obtain _|o:=o
 ·cases a
 rw[i5.eq_2]at a
 refine ifB a (λaD a=>?_) λaD a=>?_
 ·refine Or.inl (aI (aI (by kernel_rfl) (by kernel_rfl)) ?_)
  refine ld a (U0.mono l q) λbn aS aN a=>?_
  obtain⟨af,ag,ah,rfl,rfl,aE,aF,aG⟩:=Q2 aN
  try dsimp only at a
  obtain⟨ai,ax,a⟩:=D0 a
  refine eX (.int .i64 ai) (aI (z05 _ [.int .i64 b,.int .i64 c,.int .i64 d] (b,c,d) (K1 i j k) [.int .i64 af,.int .i64 ag,.int .i64 ah] (af,ag,ah) (K1 aE aF aG) _  ax) ?_)
  obtain⟨a1,an,a⟩:=D0 a
  have aV:J0 ai:=O0 an
  refine ifB a (λaz a=>?_) λaz a=>?_
  ·refine ifB a (λaA a=>?_) λaA a=>?_
   ·obtain⟨a2,ao,a⟩:=D0 a
    refine aI (N2 ao (by first|rw[F2.length e,F2.length (show F2 (P1.R f) ([[.int .i64 b,.int .i64 c,.int .i64 d]]:List (List Value)) [(b,c,d)] from⟨(K1 i j k),trivial⟩)]|exact congrArg (·+1) (F2.length e))) ?_
    refine ld a (U0.mono l q) λbj aO aJ a=>?_
    obtain⟨s,t,u,rfl,rfl,P,Q,S⟩:=Q2 aJ
    try dsimp only at a
    obtain⟨a3,ap,a⟩:=D0 a
    refine aI (N2 ap (by first|rw[F2.length (F2.append e (show F2 (P1.R f) ([[.int .i64 b,.int .i64 c,.int .i64 d]]:List (List Value)) [(b,c,d)] from⟨(K1 i j k),trivial⟩)),F2.length (show F2 (P1.R f) ([[.int .i64 s,.int .i64 t,.int .i64 u]]:List (List Value)) [(s,t,u)] from⟨(K1 P Q S),trivial⟩)]|exact congrArg (·+1) (F2.length (F2.append e (show F2 (P1.R f) ([[.int .i64 b,.int .i64 c,.int .i64 d]]:List (List Value)) [(b,c,d)] from⟨(K1 i j k),trivial⟩))))) ?_
    exact U2 o ⟨true,(IntKind.i64.wrap (n+1)),((p++([[.int .i64 b,.int .i64 c,.int .i64 d]]:List (List Value)))++([[.int .i64 s,.int .i64 t,.int .i64 u]]:List (List Value))),((m ++ [(b,c,d)]) ++ [(s,t,u)]),rfl,rfl,l,(I0 _),(F2.append (F2.append e (show F2 (P1.R f) ([[.int .i64 b,.int .i64 c,.int .i64 d]]:List (List Value)) [(b,c,d)] from⟨(K1 i j k),trivial⟩)) (show F2 (P1.R f) ([[.int .i64 s,.int .i64 t,.int .i64 u]]:List (List Value)) [(s,t,u)] from⟨(K1 P Q S),trivial⟩)),a⟩
   ·refine ld a (U0.mono l q) λbk aP aK a=>?_
    obtain⟨w,x,y,rfl,rfl,T,U,V⟩:=Q2 aK
    try dsimp only at a
    obtain⟨a4,aq,a⟩:=D0 a
    refine aI (N2 aq (by first|rw[F2.length e,F2.length (show F2 (P1.R f) ([[.int .i64 w,.int .i64 x,.int .i64 y]]:List (List Value)) [(w,x,y)] from⟨(K1 T U V),trivial⟩)]|exact congrArg (·+1) (F2.length e))) ?_
    exact U2 o ⟨true,(IntKind.i64.wrap (n+1)),(p++([[.int .i64 w,.int .i64 x,.int .i64 y]]:List (List Value))),(m ++ [(w,x,y)]),rfl,rfl,l,(I0 _),(F2.append e (show F2 (P1.R f) ([[.int .i64 w,.int .i64 x,.int .i64 y]]:List (List Value)) [(w,x,y)] from⟨(K1 T U V),trivial⟩)),a⟩
  ·refine ifB a (λaB a=>?_) λaB a=>?_
   ·obtain⟨a5,ar,a⟩:=D0 a
    refine aI (N2 ar (by first|rw[F2.length e,F2.length (show F2 (P1.R f) ([[.int .i64 b,.int .i64 c,.int .i64 d]]:List (List Value)) [(b,c,d)] from⟨(K1 i j k),trivial⟩)]|exact congrArg (·+1) (F2.length e))) ?_
    refine ld a (U0.mono l q) λbl aQ aL a=>?_
    obtain⟨z,A,B,rfl,rfl,W,X,Y⟩:=Q2 aL
    try dsimp only at a
    obtain⟨ba,au,a⟩:=D0 a
    refine aI (N2 au (by first|rw[F2.length (F2.append e (show F2 (P1.R f) ([[.int .i64 b,.int .i64 c,.int .i64 d]]:List (List Value)) [(b,c,d)] from⟨(K1 i j k),trivial⟩)),F2.length (show F2 (P1.R f) ([[.int .i64 z,.int .i64 A,.int .i64 B]]:List (List Value)) [(z,A,B)] from⟨(K1 W X Y),trivial⟩)]|exact congrArg (·+1) (F2.length (F2.append e (show F2 (P1.R f) ([[.int .i64 b,.int .i64 c,.int .i64 d]]:List (List Value)) [(b,c,d)] from⟨(K1 i j k),trivial⟩))))) ?_
    exact U2 o ⟨true,(IntKind.i64.wrap (n+1)),((p++([[.int .i64 b,.int .i64 c,.int .i64 d]]:List (List Value)))++([[.int .i64 z,.int .i64 A,.int .i64 B]]:List (List Value))),((m ++ [(b,c,d)]) ++ [(z,A,B)]),rfl,rfl,l,(I0 _),(F2.append (F2.append e (show F2 (P1.R f) ([[.int .i64 b,.int .i64 c,.int .i64 d]]:List (List Value)) [(b,c,d)] from⟨(K1 i j k),trivial⟩)) (show F2 (P1.R f) ([[.int .i64 z,.int .i64 A,.int .i64 B]]:List (List Value)) [(z,A,B)] from⟨(K1 W X Y),trivial⟩)),a⟩
   ·refine ld a (U0.mono l q) λbm aR aM a=>?_
    obtain⟨C,D,E,rfl,rfl,Z,aa,ab⟩:=Q2 aM
    try dsimp only at a
    obtain⟨bb,av,a⟩:=D0 a
    refine aI (N2 av (by first|rw[F2.length e,F2.length (show F2 (P1.R f) ([[.int .i64 C,.int .i64 D,.int .i64 E]]:List (List Value)) [(C,D,E)] from⟨(K1 Z aa ab),trivial⟩)]|exact congrArg (·+1) (F2.length e))) ?_
    exact U2 o ⟨G,(IntKind.i64.wrap (n+1)),(p++([[.int .i64 C,.int .i64 D,.int .i64 E]]:List (List Value))),(m ++ [(C,D,E)]),rfl,rfl,l,(I0 _),(F2.append e (show F2 (P1.R f) ([[.int .i64 C,.int .i64 D,.int .i64 E]]:List (List Value)) [(C,D,E)] from⟨(K1 Z aa ab),trivial⟩)),a⟩
 ·obtain rfl:=oJ a
  try dsimp only[Z0,I1]at g
  refine ifB g (λaC g=>?_) λaC g=>?_
  ·obtain⟨bc,aw,g⟩:=D0 g
   refine aI (N2 aw (by first|rw[F2.length e,F2.length (show F2 (P1.R f) ([[.int .i64 b,.int .i64 c,.int .i64 d]]:List (List Value)) [(b,c,d)] from⟨(K1 i j k),trivial⟩)]|exact congrArg (·+1) (F2.length e))) ?_
   intro bh aW N
   obtain⟨aj,al,rfl,bd,bf,aZ⟩:=J1.out (r:=P1.toRp) N (F2.append e (show F2 (P1.R f) ([[.int .i64 b,.int .i64 c,.int .i64 d]]:List (List Value)) [(b,c,d)] from⟨(K1 i j k),trivial⟩))
   obtain rfl:=oJ g
   exact⟨aj,((m ++ [(b,c,d)])).length,al,rfl,(New.from (J1.newPlain (r:=P1) N (F2.append e (show F2 (P1.R f) ([[.int .i64 b,.int .i64 c,.int .i64 d]]:List (List Value)) [(b,c,d)] from⟨(K1 i j k),trivial⟩)) (s06 _)) l)⟩
  ·intro bi aX O
   obtain⟨ak,am,rfl,be,bg,a0⟩:=J1.out (r:=P1.toRp) O e
   obtain rfl:=oJ g
   exact⟨ak,m.length,am,rfl,(New.from (J1.newPlain (r:=P1) O e (s06 _)) l)⟩
theorem p0e(h:Hp)(l:List Value)(m:j0)(z:O1.R h l m)(g:Int)(I:J0 g)(r:Int)(f:g01 m g=some r):
  Tr Tryz.prog 257 #[.agg l.toArray,.int .i64 g] h λv h'=>v = .int .i64 r/\h'=h:=by
 obtain⟨x,y,n,W,o,j,rfl,rfl,G,H,i⟩:=F0 z
 obtain⟨rfl,V⟩:=Sl.len i
 unfold g01 at f
 dsimp only at f
 refine Tr.forget (E3 (args:=[.agg #[.int .i64 x,.int .i64 y,.slice n j.length o],.int .i64 g]) (fn:=Tryz.f257) rfl ?_)
 obtain⟨k,p,f⟩:=D0 f
 refine eX { vars:=[5,6],boxes:=[],owns:=[],fuel:=true } (eX (λvs os h'=>∃ b c,vs.tail = [.int .i64 b,.int .i64 c]/\os = []/\Sub h h'/\J0 b/\J0 c/\B4 j g (D2 vs) b c=some k) (eX (λ_ _=>0) (aI (eX Y0 ⟨0,0,rfl,rfl,(Sub.refl _),(by decide),(by decide),p⟩) ?_)))
 rintro _ _ e U ⟨b,c,⟨⟩,⟨⟩,d,w,J,a⟩
 replace a:B4 j g e b c=some k:=a
 obtain _|e:=e
 ·cases a
 rw[B4.eq_2]at a
 refine ifB a (λt a=>?_) λt a=>?_
 ·refine ld a (U0.mono d i) λab E B a=>?_
  obtain⟨ac,ad,ae,rfl,rfl,N,O,P⟩:=Q2 B
  try dsimp only at a
  refine ifB a (λu a=>?_) λu a=>?_
  ·refine ld a (U0.mono d i) λaf F C a=>?_
   obtain⟨ag,ah,ai,rfl,rfl,Q,S,T⟩:=Q2 C
   try dsimp only at a
   refine ifB a (λq a=>?_) λq a=>?_
   ·exact U2 e ⟨(IntKind.i64.wrap ((IntKind.i64.wrap (b+1))+1)),(IntKind.i64.wrap (c+1)),rfl,rfl,d,(I0 _),(I0 _),a⟩
   ·exact U2 e ⟨(IntKind.i64.wrap (b+1)),(IntKind.i64.wrap (c+1)),rfl,rfl,d,(I0 _),(I0 _),a⟩
  ·refine ld a (U0.mono d i) λX D A a=>?_
   obtain⟨Y,Z,aa,rfl,rfl,K,L,M⟩:=Q2 A
   try dsimp only at a
   refine ifB a (λs a=>?_) λs a=>?_
   ·exact U2 e ⟨(IntKind.i64.wrap (b+1)),(IntKind.i64.wrap (c+1)),rfl,rfl,d,(I0 _),(I0 _),a⟩
   ·exact U2 e ⟨b,(IntKind.i64.wrap (c+1)),rfl,rfl,d,w,(I0 _),a⟩
 ·obtain rfl:=oJ a
  try dsimp only[Z0,I1]at f
  obtain rfl:=oJ f
  exact aI rfl d
theorem p02(h:Hp)(j:List Value)(l:j0)(D:O1.R h j l)(k:List Value)(m:j0)(E:O1.R h k m)(r:Bool)(b:D5 l m=some r):
  Tr Tryz.prog 38 #[.agg j.toArray,.agg k.toArray] h λv h'=>v = .bool r/\h'=h:=by
 obtain⟨z,A,p,ae,s,f,rfl,rfl,P,Q,n⟩:=F0 D
 obtain⟨rfl,ac⟩:=Sl.len n
 obtain⟨B,C,q,af,t,g,rfl,rfl,S,T,o⟩:=F0 E
 obtain⟨rfl,ad⟩:=Sl.len o
 unfold D5 at b
 dsimp only at b
 refine Tr.forget (E3 (args:=[.agg #[.int .i64 z,.int .i64 A,.slice p f.length s],.agg #[.int .i64 B,.int .i64 C,.slice q g.length t]]) (fn:=Tryz.f38) rfl ?_)
 refine ifB b (λw b=>?_) λw b=>?_
 ·obtain rfl:=oJ b
  exact aI rfl (Sub.refl _)
 ·obtain⟨i,u,b⟩:=D0 b
  refine eX { vars:=[5],boxes:=[],owns:=[],fuel:=true } (eX (λvs os h'=>∃ c,vs.tail = [.int .i64 c]/\os = []/\Sub h h'/\J0 c/\Q6 f g (D2 vs) c=some i) (eX (λ_ _=>0) (aI (eX Y0 ⟨0,rfl,rfl,(Sub.refl _),(by decide),u⟩) ?_)))
  rintro _ e ab ⟨c,⟨⟩,⟨⟩,d,U,a⟩
  replace a:Q6 f g e c=some i:=a
  obtain _|e:=e
  ·cases a
  rw[Q6.eq_2]at a
  refine ifB a (λx a=>?_) λx a=>?_
  ·refine Or.inl (aI (aI (by kernel_rfl) (by kernel_rfl)) ?_)
   refine ld a (U0.mono d n) λag N F a=>?_
   obtain⟨H,I,J,rfl,rfl,V,W,X⟩:=Q2 F
   try dsimp only at a
   refine ld a (U0.mono d o) λah O G a=>?_
   obtain⟨K,L,M,rfl,rfl,Y,Z,aa⟩:=Q2 G
   try dsimp only at a
   refine eX (!eqE (H,I,J) (K,L,M)) (aI (X0j _ _ _ rfl _ _ _ _ _ _) ?_)
   refine ifB a (λy a=>?_) λy a=>?_
   ·obtain rfl:=oJ a
    try dsimp only[L3,N3]at b
    obtain rfl:=oJ b
    exact aI rfl d
   ·exact U2 e ⟨(IntKind.i64.wrap (c+1)),rfl,rfl,d,(I0 _),a⟩
  ·obtain rfl:=oJ a
   try dsimp only[Z0,I1]at b
   obtain rfl:=oJ b
   exact aI rfl d
theorem W0a(h:Hp)(Q:List Value)(U:j0)(ax:O1.R h Q U)(g:Int)(S:J0 g)(r:D1)(c:V00 U g=some r):
  Tr Tryz.prog 282 #[.agg Q.toArray,.int .i64 g] h λv h'=>∃(M:Option Addr) (T O:Nat),v = .slice M T O/\E2.R h' [.slice M T O] r/\Sub h h':=by
 obtain⟨E,w,N,aZ,P,k,rfl,rfl,au,av,F⟩:=F0 ax
 obtain⟨rfl,aQ⟩:=Sl.len F
 unfold V00 at c
 dsimp only at c
 refine E3 (args:=[.agg #[.int .i64 E,.int .i64 w,.slice N k.length P],.int .i64 g]) (fn:=Tryz.f282) rfl ?_
 refine trV c (C6 _ [.int .i64 E,.int .i64 w,.slice N k.length P] (E,w,k) (l0 au av F)) λbc c=>?_
 refine trG c (λq=>K5 _ g S 0 (by decide) (IntKind.i64.wrap (w-1)) (I0 _)) λbd c=>?_
 refine ifB c (λap c=>?_) λap c=>?_
 ·intro ba aO aj
  obtain⟨ad,ah,rfl,aA,aE,aY⟩:=J1.out (r:=Wp.int.toRp) aj (show F2 (Wp.int.R h) ([]:List (List Value)) ([]:D1) from trivial)
  obtain rfl:=oJ c
  exact⟨ad,(([]:D1)).length,ah,rfl,aA,aE⟩
 ·obtain⟨K,ak,c⟩:=D0 c
  refine eX { vars:=[5,6],boxes:=[],owns:=[],fuel:=true,pubs:=[5,22] } (eX (λvs os h'=>∃(s:Option Addr) (C t:Nat) (m:D1) (o:Int),vs.tail = [.slice s C t,.int .i64 o]/\os = []/\Sub h h'/\E2.R h' [.slice s C t] m/\J0 o/\j6 k (D2 vs) m o=some K) (eX (λ_ _=>0) ?_))
  intro bb aP ai
  obtain⟨ac,ag,rfl,az,aD,aX⟩:=J1.out (r:=Wp.int.toRp) ai (show F2 (Wp.int.R h) ([[.int .i64 g]]:List (List Value)) [g] from⟨⟨rfl,S⟩,trivial⟩)
  refine aI (eX Y0 ⟨ac,([g]).length,ag,[g],0,rfl,rfl,aD,az,(by decide),ak⟩) ?_
  rintro _ _ u aw ⟨s,C,t,m,o,⟨⟩,⟨⟩,H,G,aG,d⟩
  replace d:j6 k u m o=some K:=d
  obtain _|u:=u
  ·cases d
  rw[j6.eq_2]at d
  obtain⟨rfl,aR⟩:=Sl.len G
  refine ifB d (λam d=>?_) λam d=>?_
  ·obtain⟨L,al,d⟩:=D0 d
   refine eX { vars:=[5,7],boxes:=[],owns:=[],fuel:=true } (eX (λvs os h'=>∃ e D f b i,vs.tail = [.slice e D f,.int .i64 i]/\os = []/\Sub aw h'/\E2.R h' [.slice e D f] b/\J0 i/\j4 k (D2 vs) b i=some L) (eX (λ_ _=>0) (aI (eX Y0 ⟨s,m.length,t,m,0,rfl,rfl,(Sub.refl _),G,(by decide),al⟩) ?_)))
   rintro _ _ j aK ⟨e,D,f,b,i,⟨⟩,⟨⟩,n,l,aH,a⟩
   replace a:j4 k j b i=some L:=a
   obtain _|j:=j
   ·cases a
   rw[j4.eq_2]at a
   obtain⟨rfl,aS⟩:=Sl.len l
   refine ifB a (λan a=>?_) λan a=>?_
   ·refine ld a (U0.mono (H.trans n) F) λbe aF ay a=>?_
    obtain⟨I,bf,J,rfl,rfl,A,aJ,B⟩:=Q2 ay
    try dsimp only at a
    refine trV a (v03 _ e b.length f b l I A) λbg a=>?_
    refine ifB a (λao a=>?_) λao a=>?_
    ·refine trM a (u03 _ e b.length f b l J B) ?_
     rintro p a a3 aL ⟨y,a0,z,rfl,x,X⟩
     obtain⟨rfl,aU⟩:=Sl.len x
     refine trV a (v03 _ y p.length z p x J B) λbh a=>?_
     refine ifB a (λaq a=>?_) λaq a=>?_
     ·refine trM a (u03 _ y p.length z p x I A) ?_
      rintro Y a a4 aM ⟨aa,a1,ae,rfl,V,aB⟩
      obtain⟨rfl,aV⟩:=Sl.len V
      exact U2 j ⟨aa,Y.length,ae,Y,(IntKind.i64.wrap (i+1)),rfl,rfl,((n.trans X).trans aB),V,(I0 _),a⟩
     ·exact U2 j ⟨y,p.length,z,p,(IntKind.i64.wrap (i+1)),rfl,rfl,(n.trans X),x,(I0 _),a⟩
    ·refine trV a (v03 _ e b.length f b l J B) λbi a=>?_
     refine ifB a (λar a=>?_) λar a=>?_
     ·refine trM a (u03 _ e b.length f b l I A) ?_
      rintro Z a a5 aN ⟨ab,a2,af,rfl,W,aC⟩
      obtain⟨rfl,aW⟩:=Sl.len W
      exact U2 j ⟨ab,Z.length,af,Z,(IntKind.i64.wrap (i+1)),rfl,rfl,(n.trans aC),W,(I0 _),a⟩
     ·exact U2 j ⟨e,b.length,f,b,(IntKind.i64.wrap (i+1)),rfl,rfl,n,l,(I0 _),a⟩
   ·obtain rfl:=oJ a
    try dsimp only[Z0,I1]at d
    exact U2 u ⟨e,b.length,f,b,(IntKind.i64.wrap (o+1)),rfl,rfl,(H.trans n),l,(I0 _),d⟩
  ·obtain rfl:=oJ d
   try dsimp only[Z0,I1]at c
   obtain rfl:=oJ c
   exact⟨s,m.length,t,rfl,G,H⟩
theorem y0a(h:Hp)(n:List Value)(t:j0)(F:O1.R h n t)(r:Int)(b:I02 t=some r):
  Tr Tryz.prog 260 #[.agg n.toArray] h λv h'=>v = .int .i64 r/\h'=h:=by
 obtain⟨g,i,w,L,y,j,rfl,rfl,o,p,k⟩:=F0 F
 obtain⟨rfl,J⟩:=Sl.len k
 unfold I02 at b
 dsimp only at b
 refine Tr.forget (E3 (args:=[.agg #[.int .i64 g,.int .i64 i,.slice w j.length y]]) (fn:=Tryz.f260) rfl ?_)
 refine trM b (W0a _ _ _ (l0 o p k) 0 (by decide)) ?_
 rintro f b O E ⟨x,M,z,rfl,u,l⟩
 obtain⟨rfl,K⟩:=Sl.len u
 obtain⟨m,B,b⟩:=D0 b
 refine eX { vars:=[4],boxes:=[],owns:=[],fuel:=true } (eX (λvs os h'=>∃ c,vs.tail = [.int .i64 c]/\os = []/\Sub E h'/\J0 c/\w9 i g j f (D2 vs) c=some m) (eX (λ_ _=>0) (aI (eX Y0 ⟨1,rfl,rfl,(Sub.refl _),(by decide),B⟩) ?_)))
 rintro _ e I ⟨c,⟨⟩,⟨⟩,d,s,a⟩
 replace a:w9 i g j f e c=some m:=a
 obtain _|e:=e
 ·cases a
 rw[w9.eq_2]at a
 refine ifB a (λD a=>?_) λD a=>?_
 ·refine trV a (p0e _ _ _ (l0 o p (U0.mono (l.trans d) k)) _ s) λG a=>?_
  obtain⟨N,A,a⟩:=D0 a
  have H:J0 G:=O0 A
  refine trG a (λq=>v03 _ x f.length z f (E2.mono d u) c s) λP a=>?_
  refine ifB a (λC a=>?_) λC a=>?_
  ·obtain rfl:=oJ a
   try dsimp only[L3,N3]at b
   obtain rfl:=oJ b
   exact aI rfl (l.trans d)
  ·exact U2 e ⟨(IntKind.i64.wrap (c+1)),rfl,rfl,d,(I0 _),a⟩
 ·obtain rfl:=oJ a
  try dsimp only[Z0,I1]at b
  obtain rfl:=oJ b
  exact aI rfl (l.trans d)
theorem q05(h:Hp)(V:List Value)(aa:j0)(a0:O1.R h V aa)(H:Option Addr)(Z I:Nat)(t:D1)(C:E2.R h [.slice H Z I] t)(r:j0×Bool)(d:H8 aa t=some r):
  Tr Tryz.prog 198 #[.agg V.toArray,.slice H Z I] h λv h'=>∃(U:List Value),v = .tuple #[.agg U.toArray,.bool r.2]/\O1.R h' U r.1/\Sub h h':=by
 obtain⟨s,e,S,bV,T,l,rfl,rfl,A,J,z⟩:=F0 a0
 obtain⟨rfl,bQ⟩:=Sl.len z
 obtain⟨rfl,aZ⟩:=Sl.len C
 unfold H8 at d
 dsimp only at d
 refine E3 (args:=[.agg #[.int .i64 s,.int .i64 e,.slice S l.length T],.slice H t.length I]) (fn:=Tryz.f198) rfl ?_
 refine trV d (C6 _ [.int .i64 s,.int .i64 e,.slice S l.length T] (s,e,l) (l0 A J z)) λb8 d=>?_
 refine ifB d (λaM d=>?_) λaM d=>?_
 ·refine trM d (V4 _ _ _ (l0 A J z)) ?_
  rintro ce d b7 aX ⟨br,rfl,ag⟩
  have bf:Sub h aX:=ag.sub
  have a4:=ag.r
  obtain⟨bl,bm,ak,bX,ar,bn,rfl,rfl,aU,aV,ac⟩:=F0 a4
  obtain⟨rfl,bT⟩:=Sl.len ac
  try dsimp only at d
  obtain rfl:=oJ d
  exact⟨([.int .i64 bl,.int .i64 bm,.slice ak bn.length ar]),rfl,(l0 aU aV ac),bf⟩
 ·obtain⟨bZ,az,d⟩:=D0 d
  refine aI (O0 az) ?_
  obtain⟨Q,aJ,d⟩:=D0 d
  refine eX { vars:=[8],boxes:=[],owns:=[0],fuel:=true,kept:=[0] } (eX (λvs os h'=>∃ u8 E o,vs.tail = [.int .i64 u8]/\os = [E]/\Sub h h'/\J0 u8/\F2 (Wp.int.R h') E o/\j5 t e s l (D2 vs) u8 o=some Q) (eX (λ_ _=>0) (aI (eX Y0 ⟨0,(List.replicate e.toNat ([.int .i64 0]:List Value)),(List.replicate e.toNat (0:Int)),rfl,rfl,(Sub.refl _),(by decide),(F2.rep (p:=Wp.int.R h) (a:=[.int .i64 0]) (b:=0) ⟨rfl,(by decide)⟩ (e.toNat)),aJ⟩) ?_)))
  rintro _ E B x ⟨u8,ck,o,⟨⟩,⟨⟩,g,bA,k,c⟩
  replace c:j5 t e s l B u8 o=some Q:=c
  obtain _|B:=B
  ·cases c
  rw[j5.eq_2]at c
  refine ifB c (λaK c=>?_) λaK c=>?_
  ·refine Or.inl (aI (aI (by kernel_rfl) (by kernel_rfl)) ?_)
   refine ldI c (E2.mono g C) λbg aP c=>?_
   obtain⟨bh,aA,c⟩:=D0 c
   refine eX (.bool bh) (aI (K5 _ bg aP 0 (by decide) (IntKind.i64.wrap (e-1)) (I0 _) _  aA) ?_)
   refine ldG c (E2.mono g C) λca bB c=>?_
   obtain⟨cb,aB,c⟩:=D0 c
   obtain⟨bo,W,a1⟩:=l05 k aB (B0f x)
   refine aI (λq=>(W q).1) ?_
   obtain⟨rfl,bC⟩:=a1
   refine eX _ (aI (λq=>(W q).2) ?_)
   refine ifB c (λaL c=>?_) λaL c=>?_
   ·refine trM c (V4 _ _ _ (l0 A J (U0.mono g z))) ?_
    rintro cc c b5 aW ⟨bp,rfl,af⟩
    have be:Sub x aW:=af.sub
    have a2:=af.r
    obtain⟨bi,bj,aj,bW,aq,bk,rfl,rfl,aQ,aR,ab⟩:=F0 a2
    obtain⟨rfl,bS⟩:=Sl.len ab
    try dsimp only at c
    obtain rfl:=oJ c
    try dsimp only[L3,N3]at d
    obtain rfl:=oJ d
    exact⟨([.int .i64 bi,.int .i64 bj,.slice aj bk.length aq]),rfl,(l0 aQ aR ab),(g.trans be)⟩
   ·refine ldI c (E2.mono g C) λN bD c=>?_
    obtain⟨cd,aC,c⟩:=D0 c
    obtain⟨am,bq,av,a3⟩:=W4 k aC
    refine aI am ?_
    obtain⟨rfl,bE⟩:=a3
    refine eX _ (aI av ?_)
    exact U2 B ⟨(IntKind.i64.wrap (u8+1)),(E.set N.toNat [.int .i64 (IntKind.i64.wrap (u8+1))]),(o.set N.toNat (IntKind.i64.wrap (u8+1))),rfl,rfl,g,(I0 _),(F2.set (p:=Wp.int.R x) (a:=[.int .i64 (IntKind.i64.wrap (u8+1))]) (b:=(IntKind.i64.wrap (u8+1))) ⟨rfl,(I0 _)⟩ N.toNat k),c⟩
  ·obtain rfl:=oJ c
   try dsimp only[Z0,I1]at d
   obtain⟨P,aH,d⟩:=D0 d
   refine eX { vars:=[9],boxes:=[2],owns:=[],fuel:=true } (eX (λvs os h'=>∃ m i j u M w n,vs.tail = [.int .i64 m,.int .i64 i,.int .i64 j,.slice u M w]/\os = []/\Sub x h'/\J0 m/\J0 i/\J0 j/\U0.R h' [.slice u M w] n/\I4 l o (D2 vs) m i j n=some P) (eX (λ_ _=>0) (aI (eX Y0 ⟨0,s,((t.length:Nat):Int),none,0,0,[],rfl,rfl,(Sub.refl _),(by decide),A,(H0b aZ),(c08 P1 x),aH⟩) ?_)))
   rintro _ _ _ _ y Y ⟨m,i,j,u,M,w,n,⟨⟩,⟨⟩,f,bz,K,L,D,c⟩
   replace c:I4 l o y m i j n=some P:=c
   obtain _|y:=y
   ·cases c
   rw[I4.eq_2]at c
   obtain⟨rfl,bR⟩:=Sl.len D
   refine ifB c (λaN c=>?_) λaN c=>?_
   ·refine ld c (U0.mono (g.trans f) z) λcf bs a5 c=>?_
    obtain⟨cg,O,ch,rfl,rfl,bF,aS,bG⟩:=Q2 a5
    try dsimp only at c
    obtain⟨ci,aD,c⟩:=D0 c
    obtain⟨an,bt,aw,ba⟩:=W4 (F2.up (r:=Wp.int.toRp) f k) aD
    refine aI an ?_
    obtain⟨rfl,bH⟩:=ba
    refine eX _ (aI aw ?_)
    obtain⟨cj,aE,c⟩:=D0 c
    obtain⟨bu,X,bb⟩:=l05 (F2.up (r:=Wp.int.toRp) f k) aE (B0f Y)
    refine aI (λq=>(X q).1) ?_
    obtain⟨rfl,bI⟩:=bb
    refine eX _ (aI (λq=>(X q).2) ?_)
    refine ifB c (λaO c=>?_) λaO c=>?_
    ·refine Or.inr (Or.inr (Or.inl (aI (aI (by kernel_rfl) (by kernel_rfl)) ?_)))
     obtain⟨F,aF,c⟩:=D0 c
     obtain⟨ao,bv,ax,bc⟩:=W4 (F2.up (r:=Wp.int.toRp) f k) aF
     obtain⟨rfl,bJ⟩:=bc
     refine Or.inl ?_
     apply eX
     refine aI ?_ ?_
     ·intro bL b0
      exact aI ao (aI rfl (aI rfl rfl))
     refine Or.inl (eX (.val (.int .i64 F)) (aI ?_ ?_))
     ·intro bM b1
      exact eX _ (aI ax (aI rfl (aI rfl rfl)))
     obtain⟨G,aG,c⟩:=D0 c
     obtain⟨ap,bx,ay,bd⟩:=W4 (F2.up (r:=Wp.int.toRp) f k) aG
     obtain⟨rfl,bK⟩:=bd
     refine Or.inl ?_
     apply eX
     refine aI ?_ ?_
     ·intro bN b2
      exact aI ap (aI rfl (aI rfl rfl))
     refine Or.inl (eX (.val (.int .i64 G)) (aI ?_ ?_))
     ·intro bO b3
      exact eX _ (aI ay (aI rfl (aI rfl rfl)))
     refine Or.inl (eX (.agg [.val (.int .i64 (IntKind.i64.wrap (F-1))),.val (.int .i64 O),.val (.int .i64 (IntKind.i64.wrap (G-1)))]) (aI ?_ ?_))
     ·intro bP b4
      exact aI rfl (aI rfl rfl)
     refine Or.inr ?_
     refine Or.inr ?_
     refine Or.inl (eX 1 (aI (aI rfl rfl) ?_))
     refine trM c (n8 _ _ _ _ _ D [.int .i64 (IntKind.i64.wrap (F-1)),.int .i64 O,.int .i64 (IntKind.i64.wrap (G-1))] ((IntKind.i64.wrap (F-1)),O,(IntKind.i64.wrap (G-1))) (K1 (I0 _) aS (I0 _))) ?_
     rintro ai c b6 aY ⟨al,bY,au,rfl,ah⟩
     have ae:Sub Y aY:=ah.sub
     have ad:=ah.r
     obtain⟨rfl,bU⟩:=Sl.len ad
     refine aI (aI rfl ae) (aI (by first|exact trivial|exact rfl) ?_)
     refine aT ?_
     exact U2 y ⟨(IntKind.i64.wrap (m+1)),i,j,al,ai.length,au,ai,rfl,rfl,(f.trans ae),(I0 _),K,L,ad,c⟩
    ·exact U2 y ⟨(IntKind.i64.wrap (m+1)),i,j,u,n.length,w,n,rfl,rfl,f,(I0 _),K,L,D,c⟩
   ·obtain rfl:=oJ c
    try dsimp only[Z0,I1]at d
    obtain rfl:=oJ d
    exact⟨([.int .i64 i,.int .i64 j,.slice u n.length w]),rfl,(l0 K L D),(g.trans f)⟩
theorem U04(h:Hp)(e:Int)(B:J0 e)(r:D1)(g:o7 e=some r):
  Tr Tryz.prog 127 #[.int .i64 e] h λv h'=>∃(m:Option Addr) (o n:Nat),v = .slice m o n/\E2.R h' [.slice m o n] r/\Sub h h':=by
 unfold o7 at g
 refine E3 (args:=[.int .i64 e]) (fn:=Tryz.f127) rfl ?_
 obtain⟨l,x,g⟩:=D0 g
 refine eX { vars:=[4],boxes:=[],owns:=[0],fuel:=true } (eX (λvs os h'=>∃ a k f,vs.tail = [.int .i64 a]/\os = [k]/\Sub h h'/\J0 a/\F2 (Wp.int.R h') k f/\R6 e (D2 vs) a f=some l) (eX (λ_ _=>0) (aI (eX Y0 ⟨1,[],([]:D1),rfl,rfl,(Sub.refl _),(by decide),(show F2 (Wp.int.R h) ([]:List (List Value)) ([]:D1) from trivial),x⟩) ?_)))
 rintro _ k j d ⟨a,H,f,⟨⟩,⟨⟩,p,i,c,b⟩
 replace b:R6 e j a f=some l:=b
 obtain _|j:=j
 ·cases b
 rw[R6.eq_2]at b
 refine ifB b (λy b=>?_) λy b=>?_
 ·obtain⟨E,u,b⟩:=D0 b
  refine aI (N2 u (by first|rw[F2.length c,F2.length (show F2 (Wp.int.R d) ([[.int .i64 a]]:List (List Value)) [a] from⟨⟨rfl,i⟩,trivial⟩)]|exact congrArg (·+1) (F2.length c))) ?_
  obtain⟨F,w,b⟩:=D0 b
  refine aI (N2 w (by first|rw[F2.length (F2.append c (show F2 (Wp.int.R d) ([[.int .i64 a]]:List (List Value)) [a] from⟨⟨rfl,i⟩,trivial⟩)),F2.length (show F2 (Wp.int.R d) ([[.int .i64 (IntKind.i64.wrap (0-a))]]:List (List Value)) [(IntKind.i64.wrap (0-a))] from⟨⟨rfl,(I0 _)⟩,trivial⟩)]|exact congrArg (·+1) (F2.length (F2.append c (show F2 (Wp.int.R d) ([[.int .i64 a]]:List (List Value)) [a] from⟨⟨rfl,i⟩,trivial⟩))))) ?_
  exact U2 j ⟨(IntKind.i64.wrap (a+1)),((k++([[.int .i64 a]]:List (List Value)))++([[.int .i64 (IntKind.i64.wrap (0-a))]]:List (List Value))),((f ++ [a]) ++ [(IntKind.i64.wrap (0-a))]),rfl,rfl,p,(I0 _),(F2.append (F2.append c (show F2 (Wp.int.R d) ([[.int .i64 a]]:List (List Value)) [a] from⟨⟨rfl,i⟩,trivial⟩)) (show F2 (Wp.int.R d) ([[.int .i64 (IntKind.i64.wrap (0-a))]]:List (List Value)) [(IntKind.i64.wrap (0-a))] from⟨⟨rfl,(I0 _)⟩,trivial⟩)),b⟩
 ·obtain rfl:=oJ b
  try dsimp only[Z0,I1]at g
  intro G C t
  obtain⟨q,s,rfl,z,A,D⟩:=J1.out (r:=Wp.int.toRp) t c
  obtain rfl:=oJ g
  exact⟨q,f.length,s,rfl,z,(p.trans A)⟩
theorem w08(h:Hp)(H:List Value)(L:j0)(ar:O1.R h H L)(r:D1)(c:F9 L=some r):
  Tr Tryz.prog 268 #[.agg H.toArray] h λv h'=>∃(F:Option Addr) (K G:Nat),v = .slice F K G/\E2.R h' [.slice F K G] r/\Sub h h':=by
 obtain⟨d,e,w,aS,x,f,rfl,rfl,z,I,B⟩:=F0 ar
 obtain⟨rfl,aN⟩:=Sl.len B
 unfold F9 at c
 dsimp only at c
 refine E3 (args:=[.agg #[.int .i64 d,.int .i64 e,.slice w f.length x]]) (fn:=Tryz.f268) rfl ?_
 refine trV c (Q03 _ [.int .i64 d,.int .i64 e,.slice w f.length x] (d,e,f) (l0 z I B)) λa3 c=>?_
 refine ifB c (λai c=>?_) λai c=>?_
 ·intro a0 aL Y
  obtain⟨P,U,rfl,ax,az,aR⟩:=J1.out (r:=Wp.int.toRp) Y (show F2 (Wp.int.R h) ([]:List (List Value)) ([]:D1) from trivial)
  obtain rfl:=oJ c
  exact⟨P,(([]:D1)).length,U,rfl,ax,az⟩
 ·refine trM c (U04 _ _ z) ?_
  rintro u c a2 ap ⟨aD,aU,aF,rfl,M,C⟩
  obtain⟨rfl,aO⟩:=Sl.len M
  obtain⟨D,af,c⟩:=D0 c
  refine eX { vars:=[5],boxes:=[],owns:=[0],fuel:=true } (eX (λvs os h'=>∃ j q m,vs.tail = [.int .i64 j]/\os = [q]/\Sub ap h'/\J0 j/\F2 (Wp.int.R h') q m/\R5 u d e f (D2 vs) j m=some D) (eX (λ_ _=>0) (aI (eX Y0 ⟨0,([[.int .i64 0]]:List (List Value)),[0],rfl,rfl,(Sub.refl _),(by decide),(F2.up (r:=Wp.int.toRp) C (show F2 (Wp.int.R h) ([[.int .i64 0]]:List (List Value)) [0] from⟨⟨rfl,(by decide)⟩,trivial⟩)),af⟩) ?_)))
  rintro _ q s ao ⟨j,a4,m,⟨⟩,⟨⟩,t,aH,y,b⟩
  replace b:R5 u d e f s j m=some D:=b
  obtain _|s:=s
  ·cases b
  rw[R5.eq_2]at b
  obtain⟨aq,Z,b⟩:=D0 b
  obtain rfl:q.length=aq:=(F2.length y).trans (oJ Z)
  obtain⟨aV,aG,b⟩:=D0 b
  refine ifB b (λah b=>?_) λah b=>?_
  ·obtain⟨E,ag,b⟩:=D0 b
   refine eX { vars:=[6],boxes:=[],owns:=[0],fuel:=true } (eX (λvs os h'=>∃ l n g,vs.tail = [.int .i64 l]/\os = [n]/\Sub ao h'/\J0 l/\F2 (Wp.int.R h') n g/\C4 u j d e f (D2 vs) l g=some E) (eX (λ_ _=>0) (aI (eX Y0 ⟨0,q,m,rfl,rfl,(Sub.refl _),(by decide),y,ag⟩) ?_)))
   rintro _ n o J ⟨l,a5,g,⟨⟩,⟨⟩,p,aJ,k,a⟩
   replace a:C4 u j d e f o l g=some E:=a
   obtain _|o:=o
   ·cases a
   rw[C4.eq_2]at a
   refine ifB a (λaj a=>?_) λaj a=>?_
   ·refine Or.inl (aI (aI (by kernel_rfl) (by kernel_rfl)) ?_)
    obtain⟨aA,ac,a⟩:=D0 a
    obtain⟨Q,aE,V,au⟩:=W4 k ac
    refine aI Q ?_
    obtain⟨rfl,am⟩:=au
    refine eX _ (aI V ?_)
    refine ldI a (E2.mono (t.trans p) M) λaB an a=>?_
    obtain⟨i,ad,a⟩:=D0 a
    refine eX (.int .i64 i) (aI (L6 _ [.int .i64 d,.int .i64 e,.slice w f.length x] (d,e,f) (l0 z I (U0.mono ((C.trans t).trans p) B)) aA am aB an _  ad) ?_)
    obtain⟨aW,aa,a⟩:=D0 a
    have A:J0 i:=O0 aa
    obtain⟨aC,ae,a⟩:=D0 a
    refine eX (.bool aC) (aI ?_ ?_)
    ·intro al
     intro aZ aK W
     obtain⟨N,S,rfl,av,aY,aP⟩:=J1.out (r:=Wp.int.toRp) W k
     exact v03 _ N g.length S g av i A _ (c5 ae al)
    refine ifB a (λak a=>?_) λak a=>?_
    ·obtain⟨aX,ab,a⟩:=D0 a
     refine aI (N2 ab (by first|rw[F2.length k,F2.length (show F2 (Wp.int.R J) ([[.int .i64 i]]:List (List Value)) [i] from⟨⟨rfl,A⟩,trivial⟩)]|exact congrArg (·+1) (F2.length k))) ?_
     exact U2 o ⟨(IntKind.i64.wrap (l+1)),(n++([[.int .i64 i]]:List (List Value))),(g ++ [i]),rfl,rfl,p,(I0 _),(F2.append k (show F2 (Wp.int.R J) ([[.int .i64 i]]:List (List Value)) [i] from⟨⟨rfl,A⟩,trivial⟩)),a⟩
    ·exact U2 o ⟨(IntKind.i64.wrap (l+1)),n,g,rfl,rfl,p,(I0 _),k,a⟩
   ·obtain rfl:=oJ a
    try dsimp only[Z0,I1]at b
    exact U2 s ⟨(IntKind.i64.wrap (j+1)),n,g,rfl,rfl,(t.trans p),(I0 _),k,b⟩
  ·obtain rfl:=oJ b
   try dsimp only[Z0,I1]at c
   intro a1 aM X
   obtain⟨O,T,rfl,aw,ay,aQ⟩:=J1.out (r:=Wp.int.toRp) X y
   obtain rfl:=oJ c
   exact⟨O,m.length,T,rfl,aw,((C.trans t).trans ay)⟩
theorem D04(h:Hp)(g:List Value)(i:j0)(G:O1.R h g i)(r:j0)(a:Y7 i=some r):
  Tr Tryz.prog 222 #[.agg g.toArray] h λv h'=>∃(f:List Value),v = .agg f.toArray/\O1.R h' f r/\Sub h h':=by
 obtain⟨D,E,o,ab,s,F,rfl,rfl,d,e,b⟩:=F0 G
 obtain⟨rfl,X⟩:=Sl.len b
 unfold Y7 at a
 dsimp only at a
 refine E3 (args:=[.agg #[.int .i64 D,.int .i64 E,.slice o F.length s]]) (fn:=Tryz.f222) rfl ?_
 refine trM a (w08 _ _ _ (l0 d e b)) ?_
 rintro ai a ag B ⟨S,ac,V,rfl,j,c⟩
 obtain⟨rfl,Y⟩:=Sl.len j
 refine ifB a (λw a=>?_) λw a=>?_
 ·refine trM a (V4 _ _ _ (l0 d e (U0.mono c b))) ?_
  rintro aj a ah C ⟨T,rfl,n⟩
  have I:Sub B C:=n.sub
  have H:=n.r
  obtain⟨K,L,p,ad,t,M,rfl,rfl,x,y,k⟩:=F0 H
  obtain⟨rfl,Z⟩:=Sl.len k
  try dsimp only at a
  obtain rfl:=oJ a
  exact⟨([.int .i64 K,.int .i64 L,.slice p M.length t]),rfl,(l0 x y k),(c.trans I)⟩
 ·refine trM a (q05 _ _ _ (l0 d e (U0.mono c b)) _ _ _ _ j) ?_
  rintro N a af W ⟨U,rfl,l,J⟩
  obtain⟨ak,al⟩:=N
  dsimp only at a l
  obtain⟨O,P,q,ae,u,Q,rfl,rfl,z,A,m⟩:=F0 l
  obtain⟨rfl,aa⟩:=Sl.len m
  try dsimp only at a
  obtain rfl:=oJ a
  exact⟨([.int .i64 O,.int .i64 P,.slice q Q.length u]),rfl,(l0 z A m),(c.trans J)⟩
theorem p0h(h:Hp)(t:List Value)(u:j0)(P:O1.R h t u)(r:Bool)(a:J01 u=some r):
  Tr Tryz.prog 210 #[.agg t.toArray] h λv h'=>v = .bool r/\h'=h:=by
 obtain⟨k,l,p,aq,s,m,rfl,rfl,g,i,c⟩:=F0 P
 obtain⟨rfl,ao⟩:=Sl.len c
 unfold J01 at a
 dsimp only at a
 refine Tr.forget (E3 (args:=[.agg #[.int .i64 k,.int .i64 l,.slice p m.length s]]) (fn:=Tryz.f210) rfl ?_)
 refine Or.inr (Or.inr (Or.inr (Or.inl (aI (aI (by kernel_rfl) (by kernel_rfl)) ?_))))
 obtain⟨Y,F,a⟩:=D0 a
 refine Or.inl (eX (.val (.bool Y)) (aI ?_ ?_))
 ·intro ak W
  exact Tr.val (Q03 _ [.int .i64 k,.int .i64 l,.slice p m.length s] (k,l,m) (l0 g i (U0.mono W c)) _ F) (aI rfl (aI rfl rfl))
 obtain⟨o,I,a⟩:=D0 a
 obtain⟨au,E,a⟩:=D0 a
 have ag:J0 o:=O0 E
 refine Or.inl (eX (.val (.int .i64 o)) (aI ?_ ?_))
 ·intro al X b
  exact Tr.val (y0a _ _ _ (l0 g i (U0.mono X c)) _ (c5 I b)) (aI rfl (aI rfl rfl))
 refine Or.inl (eX (.val (.bool (decide (o<0)))) (aI ?_ ?_))
 ·intro am av b
  exact aI rfl (aI rfl rfl)
 obtain⟨Z,G,a⟩:=D0 a
 obtain⟨x,y,j⟩:=Z
 try dsimp only at a
 refine Or.inr (eX (λv J=>∃(d:Option Addr) (f:Nat),v = .agg #[.int .i64 x,.int .i64 y,.slice d j.length f]/\J0 x/\J0 y/\U0.R J [.slice d j.length f] j/\j.length<=9223372036854775807) (aI (λv ae af n q=>by obtain⟨d,f,e,C,D,f2,f3⟩:=q;exact⟨d,f,e,C,D,U0.mono n f2,f3⟩) (aI ?_ ?_)))
 ·intro ah T b
  refine Tr.mono (D04 _ _ _ (l0 g i (U0.mono T c)) _ (c5 G b)) ?_
  rintro _ an ⟨ac,rfl,Q,n⟩
  obtain⟨aw,ax,z,ar,A,ay,rfl,B,K,L,w⟩:=F0 Q
  cases B
  obtain⟨rfl,O⟩:=Sl.len w
  exact aI u05 (aI n ⟨z,A,rfl,K,L,w,O⟩)
 obtain⟨aa,H,a⟩:=D0 a
 refine Or.inl (eX (.val (.bool aa)) (aI ?_ ?_))
 ·intro ai U b
  rintro _ ⟨ab,ad,rfl,M,N,S,ap⟩
  exact Tr.val (p02 _ _ _ (l0 M N S) _ _ (l0 g i (U0.mono U c)) _ (c5 H b)) (aI rfl (aI rfl rfl))
 intro aj V
 obtain rfl:=oJ a
 exact aI rfl V
theorem V7(h:Hp)(b:List Value)(c:j0)(m:O1.R h b c)(r:Bool)(a:Z2 c=some r):
  Tr Tryz.prog 118 #[.agg b.toArray] h λv h'=>v = .bool r/\h'=h:=by
 obtain⟨j,k,e,o,f,l,rfl,rfl,g,i,d⟩:=F0 m
 obtain⟨rfl,n⟩:=Sl.len d
 unfold Z2 at a
 dsimp only at a
 refine Tr.forget (E3 (args:=[.agg #[.int .i64 j,.int .i64 k,.slice e l.length f]]) (fn:=Tryz.f118) rfl ?_)
 refine trV a (p0h _ _ _ (l0 g i d)) λp a=>?_
 obtain rfl:=oJ a
 exact aI rfl (Sub.refl _)
theorem X06(h:Hp)(c:ByteArray)(p:c.size<=9223372036854775807)(r:Bool)(b:K01 c=some r):
  Tr Tryz.prog 35 #[.string c] h λv h'=>v = .bool r/\h'=h:=by
 unfold K01 at b
 refine Tr.forget (E3 (args:=[.string c]) (fn:=Tryz.f35) rfl ?_)
 obtain⟨g,m,b⟩:=D0 b
 refine eX { vars:=[3],boxes:=[],owns:=[],fuel:=true } (eX (λvs os h'=>∃ d,vs.tail = [.int .i64 d]/\os = []/\Sub h h'/\J0 d/\A9 c (D2 vs) d=some g) (eX (λ_ _=>0) (aI (eX Y0 ⟨0,rfl,rfl,(Sub.refl _),(by decide),m⟩) ?_)))
 rintro _ e x ⟨d,⟨⟩,⟨⟩,f,w,a⟩
 replace a:A9 c e d=some g:=a
 obtain _|e:=e
 ·cases a
 rw[A9.eq_2]at a
 refine ifB a (λo a=>?_) λo a=>?_
 ·obtain⟨z,i,a⟩:=D0 a
  refine eX _ (aI (k05 i) ?_)
  obtain⟨s,j,a⟩:=D0 a
  refine eX s (aI (λq=>k05 (c5 j q)) ?_)
  obtain⟨t,k,a⟩:=D0 a
  refine eX t (aI (λq=>k05 (c5 k q)) ?_)
  obtain⟨u,l,a⟩:=D0 a
  refine eX u (aI (λq=>k05 (c5 l q)) ?_)
  refine ifB a (λn a=>?_) λn a=>?_
  ·obtain rfl:=oJ a
   try dsimp only[L3,N3]at b
   obtain rfl:=oJ b
   exact aI rfl f
  ·exact U2 e ⟨(IntKind.i64.wrap (d+1)),rfl,rfl,f,(I0 _),a⟩
 ·obtain rfl:=oJ a
  try dsimp only[Z0,I1]at b
  refine trV b (K5 _ ((c.size:Nat):Int) (H0b p) 1 (by decide) 8 (by decide)) λy b=>?_
  obtain rfl:=oJ b
  exact aI rfl f
theorem h02(h:Hp)(k:List Value)(m:N0)(G:D3.R h k m)(r:Bool)(b:p7 m=some r):
  Tr Tryz.prog 33 #[.agg k.toArray] h λv h'=>v = .bool r/\h'=h:=by
 obtain⟨f,o,Z,s,g,rfl,rfl,B,i⟩:=E1 G
 obtain⟨rfl,W⟩:=Sl.len i
 unfold p7 at b
 dsimp only at b
 refine Tr.forget (E3 (args:=[.agg #[.int .i64 f,.slice o g.length s]]) (fn:=Tryz.f33) rfl ?_)
 obtain⟨j,y,b⟩:=D0 b
 refine eX { vars:=[3],boxes:=[],owns:=[],fuel:=true } (eX (λvs os h'=>∃ c,vs.tail = [.int .i64 c]/\os = []/\Sub h h'/\J0 c/\T6 g f (D2 vs) c=some j) (eX (λ_ _=>0) (aI (eX Y0 ⟨0,rfl,rfl,(Sub.refl _),(by decide),y⟩) ?_)))
 rintro _ e F ⟨c,⟨⟩,⟨⟩,d,S,a⟩
 replace a:T6 g f e c=some j:=a
 obtain _|e:=e
 ·cases a
 rw[T6.eq_2]at a
 refine ifB a (λA a=>?_) λA a=>?_
 ·obtain⟨ad,u,a⟩:=D0 a
  obtain⟨p,N,t,H⟩:=Sl.getI (r:=L1.toRp) (U1.mono d i) u (by decide)
  refine aI p ?_
  obtain⟨ae,af,ag,L,aa,P,ah,rfl,rfl,C,D,E,n⟩:=J3 H
  obtain⟨rfl,X⟩:=Sl.len n
  try dsimp only at a
  refine eX _ (aI t ?_)
  refine Or.inl (aI (aI (by kernel_rfl) (by kernel_rfl)) ?_)
  obtain⟨K,w,a⟩:=D0 a
  refine eX (.bool K) (aI (X06 _ _ C _  w) ?_)
  refine trG a (λq=>V7 _ _ _ (l0 D E n)) λai a=>?_
  obtain⟨aj,x,a⟩:=D0 a
  obtain⟨O,l,I⟩:=Sl.getG (r:=L1.toRp) (U1.mono d i) x (by decide) (d08 F)
  refine aI (λq=>(l q).1) ?_
  obtain⟨ak,al,am,M,ab,Q,an,rfl,rfl,T,U,V,J⟩:=J3 I
  obtain⟨rfl,Y⟩:=Sl.len J
  try dsimp only at a
  refine eX _ (aI (λq=>(l q).2) ?_)
  refine ifB a (λz a=>?_) λz a=>?_
  ·obtain rfl:=oJ a
   try dsimp only[L3,N3]at b
   obtain rfl:=oJ b
   exact aI rfl d
  ·exact U2 e ⟨(IntKind.i64.wrap (c+1)),rfl,rfl,d,(I0 _),a⟩
 ·obtain rfl:=oJ a
  try dsimp only[Z0,I1]at b
  refine trV b (K5 _ f B 1 (by decide) 3 (by decide)) λac b=>?_
  obtain rfl:=oJ b
  exact aI rfl d
theorem r0e(h:Hp)(c:Option Addr)(k d:Nat)(b:D1)(l:E2.R h [.slice c k d] b)(r:D1)(a:u02 b=some r):
  Tr Tryz.prog 177 #[.slice c k d] h λv h'=>∃(i:Nat) (j f:Nat),v = .slice (some ⟨i,0,none⟩) j f/\New E2 h h' [.slice (some ⟨i,0,none⟩) j f] r:=by
 obtain⟨rfl,t⟩:=Sl.len l
 unfold u02 at a
 refine E3 (args:=[.slice c b.length d]) (fn:=Tryz.f177) rfl ?_
 obtain⟨q,n,e⟩:=Sl.rows (r:=Wp.int.toRp) l
 refine eX q (aI n ?_)
 obtain⟨w,o,a⟩:=D0 a
 refine aI (N2 o (by first|rw[F2.length (show F2 (Wp.int.R h) ([]:List (List Value)) ([]:D1) from trivial),F2.length e]|exact congrArg (·+1) (F2.length (show F2 (Wp.int.R h) ([]:List (List Value)) ([]:D1) from trivial)))) ?_
 intro z s g
 obtain⟨p,m,rfl,x,y,u⟩:=J1.outS (r:=Wp.int.toRp) g (F2.append (show F2 (Wp.int.R h) ([]:List (List Value)) ([]:D1) from trivial) e)
 obtain rfl:=oJ a
 exact⟨p,((([]:D1)++b)).length,m,rfl,(J1.newPlain (r:=Wp.int) g (F2.append (show F2 (Wp.int.R h) ([]:List (List Value)) ([]:D1) from trivial) e) (Q0h _))⟩
theorem r09(h:Hp)(n:Option Addr)(z o:Nat)(l:D1)(m:E2.R h [.slice n z o] l)(r:D1)(d:B8 l=some r):
  Tr Tryz.prog 146 #[.slice n z o] h λv h'=>∃(s:Option Addr) (y t:Nat),v = .slice s y t/\E2.R h' [.slice s y t] r/\Sub h h':=by
 obtain⟨rfl,ac⟩:=Sl.len m
 unfold B8 at d
 refine E3 (args:=[.slice n l.length o]) (fn:=Tryz.f146) rfl ?_
 obtain⟨p,J,d⟩:=D0 d
 refine eX { vars:=[4],boxes:=[],owns:=[0],fuel:=true } (eX (λvs os h'=>∃ g c i,vs.tail = [.int .i64 g]/\os = [c]/\Sub h h'/\J0 g/\F2 (Wp.int.R h') c i/\H4 l (D2 vs) g i=some p) (eX (λ_ _=>0) (aI (eX Y0 ⟨0,[],([]:D1),rfl,rfl,(Sub.refl _),(by decide),(show F2 (Wp.int.R h) ([]:List (List Value)) ([]:D1) from trivial),J⟩) ?_)))
 rintro _ c k e ⟨g,ao,i,⟨⟩,⟨⟩,f,V,b,a⟩
 replace a:H4 l k g i=some p:=a
 obtain _|k:=k
 ·cases a
 rw[H4.eq_2]at a
 refine ifB a (λL a=>?_) λL a=>?_
 ·obtain⟨M,D,a⟩:=D0 a
  obtain rfl:c.length=M:=(F2.length b).trans (oJ D)
  obtain⟨ah,U,a⟩:=D0 a
  refine Or.inl (aI (aI (by kernel_rfl) (by kernel_rfl)) ?_)
  refine ldG a (E2.mono f m) λan aa a=>?_
  obtain⟨aj,H,a⟩:=D0 a
  obtain⟨S,u,N⟩:=l05 b H (B0f e)
  refine aI (λq=>(u q).1) ?_
  obtain⟨rfl,W⟩:=N
  refine eX _ (aI (λq=>(u q).2) ?_)
  refine ldG a (E2.mono f m) λak X a=>?_
  obtain⟨al,I,a⟩:=D0 a
  obtain⟨T,w,O⟩:=l05 b I (B0f e)
  refine aI (λq=>(w q).1) ?_
  obtain⟨rfl,Y⟩:=O
  refine eX _ (aI (λq=>(w q).2) ?_)
  refine ldG a (E2.mono f m) λam Z a=>?_
  refine ifB a (λK a=>?_) λK a=>?_
  ·obtain⟨ae,E,a⟩:=D0 a
   refine aI (by have:=O0 E;have:=F2.length b;omega) ?_
   exact U2 k ⟨(IntKind.i64.wrap (g+1)),(c.take (IntKind.i64.wrap (((c.length:Nat):Int)-1)).toNat),(i.take (IntKind.i64.wrap (((c.length:Nat):Int)-1)).toNat),rfl,rfl,f,(I0 _),(F2.take (IntKind.i64.wrap (((c.length:Nat):Int)-1)).toNat b),a⟩
  ·refine ldI a (E2.mono f m) λj x a=>?_
   obtain⟨af,F,a⟩:=D0 a
   refine aI (N2 F (by first|rw[F2.length b,F2.length (show F2 (Wp.int.R e) ([[.int .i64 j]]:List (List Value)) [j] from⟨⟨rfl,x⟩,trivial⟩)]|exact congrArg (·+1) (F2.length b))) ?_
   exact U2 k ⟨(IntKind.i64.wrap (g+1)),(c++([[.int .i64 j]]:List (List Value))),(i ++ [j]),rfl,rfl,f,(I0 _),(F2.append b (show F2 (Wp.int.R e) ([[.int .i64 j]]:List (List Value)) [j] from⟨⟨rfl,x⟩,trivial⟩)),a⟩
 ·obtain rfl:=oJ a
  try dsimp only[Z0,I1]at d
  obtain⟨ag,G,d⟩:=D0 d
  refine aI (N2 G (by first|rw[F2.length (show F2 (Wp.int.R e) ([]:List (List Value)) ([]:D1) from trivial),F2.length b]|exact congrArg (·+0) (F2.length (show F2 (Wp.int.R e) ([]:List (List Value)) ([]:D1) from trivial)))) ?_
  intro ai ab C
  obtain⟨A,B,rfl,P,Q,ad⟩:=J1.out (r:=Wp.int.toRp) C (F2.append (show F2 (Wp.int.R e) ([]:List (List Value)) ([]:D1) from trivial) b)
  obtain rfl:=oJ d
  exact⟨A,((([]:D1)++i)).length,B,rfl,P,(f.trans Q)⟩
theorem s0c(h:Hp)(m:Option Addr)(y n:Nat)(e:D1)(z:E2.R h [.slice m y n] e)(r:D1)(d:n01 e=some r):
  Tr Tryz.prog 187 #[.slice m y n] h λv h'=>∃(s:Option Addr) (x t:Nat),v = .slice s x t/\New E2 h h' [.slice s x t] r:=by
 obtain⟨rfl,J⟩:=Sl.len z
 unfold n01 at d
 refine E3 (args:=[.slice m e.length n]) (fn:=Tryz.f187) rfl ?_
 obtain⟨L,C,d⟩:=D0 d
 refine aI (O0 C) ?_
 obtain⟨q,E,d⟩:=D0 d
 refine eX { vars:=[4],boxes:=[],owns:=[0],fuel:=true } (eX (λvs os h'=>∃ f l g,vs.tail = [.int .i64 f]/\os = [l]/\Sub h h'/\J0 f/\F2 (Wp.int.R h') l g/\H7 e (D2 vs) f g=some q) (eX (λ_ _=>0) (aI (eX Y0 ⟨(IntKind.i64.wrap (((e.length:Nat):Int)-1)),(List.replicate (0:Int).toNat ([.int .i64 0]:List Value)),(List.replicate (0:Int).toNat (0:Int)),rfl,rfl,(Sub.refl _),(I0 _),(F2.rep (p:=Wp.int.R h) (a:=[.int .i64 0]) (b:=0) ⟨rfl,(by decide)⟩ ((0:Int).toNat)),E⟩) ?_)))
 rintro _ l k w ⟨f,Q,g,⟨⟩,⟨⟩,o,G,j,c⟩
 replace c:H7 e k f g=some q:=c
 obtain _|k:=k
 ·cases c
 rw[H7.eq_2]at c
 refine ifB c (λF c=>?_) λF c=>?_
 ·refine ldI c (E2.mono o z) λi H c=>?_
  obtain⟨M,D,c⟩:=D0 c
  refine aI (N2 D (by first|rw[F2.length j,F2.length (show F2 (Wp.int.R w) ([[.int .i64 (IntKind.i64.wrap (0-i))]]:List (List Value)) [(IntKind.i64.wrap (0-i))] from⟨⟨rfl,(I0 _)⟩,trivial⟩)]|exact congrArg (·+1) (F2.length j))) ?_
  exact U2 k ⟨(IntKind.i64.wrap (f-1)),(l++([[.int .i64 (IntKind.i64.wrap (0-i))]]:List (List Value))),(g ++ [(IntKind.i64.wrap (0-i))]),rfl,rfl,o,(I0 _),(F2.append j (show F2 (Wp.int.R w) ([[.int .i64 (IntKind.i64.wrap (0-i))]]:List (List Value)) [(IntKind.i64.wrap (0-i))] from⟨⟨rfl,(I0 _)⟩,trivial⟩)),c⟩
 ·obtain rfl:=oJ c
  try dsimp only[Z0,I1]at d
  intro P I u
  obtain⟨A,B,rfl,N,O,K⟩:=J1.out (r:=Wp.int.toRp) u j
  obtain rfl:=oJ d
  exact⟨A,g.length,B,rfl,(New.from (J1.newPlain (r:=Wp.int) u j (Q0h _)) o)⟩
theorem s09(h:Hp)(s:Option Addr)(H t:Nat)(m:M6)(I:C00.R h [.slice s H t] m)(r:D1)(k:T00 m=some r):
  Tr Tryz.prog 196 #[.slice s H t] h λv h'=>∃(C:Option Addr) (G D:Nat),v = .slice C G D/\New E2 h h' [.slice C G D] r:=by
 obtain⟨rfl,ao⟩:=Sl.len I
 unfold T00 at k
 refine E3 (args:=[.slice s m.length t]) (fn:=Tryz.f196) rfl ?_
 obtain⟨A,T,k⟩:=D0 k
 refine eX { vars:=[11],boxes:=[],owns:=[0],fuel:=true } (eX (λvs os h'=>∃ g p i,vs.tail = [.int .i64 g]/\os = [p]/\Sub h h'/\J0 g/\F2 (Wp.int.R h') p i/\C8 m (D2 vs) g i=some A) (eX (λ_ _=>0) (aI (eX Y0 ⟨0,[],([]:D1),rfl,rfl,(Sub.refl _),(by decide),(show F2 (Wp.int.R h) ([]:List (List Value)) ([]:D1) from trivial),T⟩) ?_)))
 rintro _ p n Z ⟨g,aF,i,⟨⟩,⟨⟩,z,al,u,b⟩
 replace b:C8 m n g i=some A:=b
 obtain _|n:=n
 ·cases b
 rw[C8.eq_2]at b
 refine ifB b (λX b=>?_) λX b=>?_
 ·refine ld b (C00.mono z I) λJ ag y b=>?_
  obtain⟨ae,ar,ah,rfl⟩:=Wp.slice_cell y
  obtain⟨rfl,ap⟩:=Sl.len y
  obtain⟨B,U,b⟩:=D0 b
  refine eX { vars:=[17],boxes:=[],owns:=[0],fuel:=true } (eX (λvs os h'=>∃ f c e,vs.tail = [.int .i64 f]/\os = [c]/\Sub Z h'/\J0 f/\F2 (Wp.int.R h') c e/\n7 J (D2 vs) f e=some B) (eX (λ_ _=>0) (aI (eX Y0 ⟨0,p,i,rfl,rfl,(Sub.refl _),(by decide),u,U⟩) ?_)))
  rintro _ c l x ⟨f,aE,e,⟨⟩,⟨⟩,o,am,d,a⟩
  replace a:n7 J l f e=some B:=a
  obtain _|l:=l
  ·cases a
  rw[n7.eq_2]at a
  refine ifB a (λV a=>?_) λV a=>?_
  ·refine ldI a (E2.mono o y) λj w a=>?_
   obtain⟨aa,M,a⟩:=D0 a
   obtain rfl:c.length=aa:=(F2.length d).trans (oJ M)
   obtain⟨au,ai,a⟩:=D0 a
   obtain⟨ab,N,a⟩:=D0 a
   obtain rfl:c.length=ab:=(F2.length d).trans (oJ N)
   obtain⟨av,aj,a⟩:=D0 a
   obtain⟨aC,S,a⟩:=D0 a
   obtain⟨af,E,ad⟩:=l05 d S (B0f x)
   refine aI (λq=>(E q).1) ?_
   obtain⟨rfl,Y⟩:=ad
   refine eX _ (aI (λq=>(E q).2) ?_)
   refine trG a (λq=>q0c _ _ Y _ w) λaD a=>?_
   refine ifB a (λW a=>?_) λW a=>?_
   ·obtain⟨ac,O,a⟩:=D0 a
    obtain rfl:c.length=ac:=(F2.length d).trans (oJ O)
    obtain⟨aw,ak,a⟩:=D0 a
    obtain⟨ax,P,a⟩:=D0 a
    refine aI (by have:=O0 P;have:=F2.length d;omega) ?_
    exact U2 l ⟨(IntKind.i64.wrap (f+1)),(c.take (IntKind.i64.wrap (((c.length:Nat):Int)-1)).toNat),(e.take (IntKind.i64.wrap (((c.length:Nat):Int)-1)).toNat),rfl,rfl,o,(I0 _),(F2.take (IntKind.i64.wrap (((c.length:Nat):Int)-1)).toNat d),a⟩
   ·obtain⟨ay,Q,a⟩:=D0 a
    refine aI (N2 Q (by first|rw[F2.length d,F2.length (show F2 (Wp.int.R x) ([[.int .i64 j]]:List (List Value)) [j] from⟨⟨rfl,w⟩,trivial⟩)]|exact congrArg (·+1) (F2.length d))) ?_
    exact U2 l ⟨(IntKind.i64.wrap (f+1)),(c++([[.int .i64 j]]:List (List Value))),(e ++ [j]),rfl,rfl,o,(I0 _),(F2.append d (show F2 (Wp.int.R x) ([[.int .i64 j]]:List (List Value)) [j] from⟨⟨rfl,w⟩,trivial⟩)),a⟩
  ·obtain rfl:=oJ a
   try dsimp only[Z0,I1]at b
   exact U2 n ⟨(IntKind.i64.wrap (g+1)),c,e,rfl,rfl,(z.trans o),(I0 _),d,b⟩
 ·obtain rfl:=oJ b
  try dsimp only[Z0,I1]at k
  intro aB an F
  obtain⟨K,L,rfl,az,aA,aq⟩:=J1.out (r:=Wp.int.toRp) F u
  obtain rfl:=oJ k
  exact⟨K,i.length,L,rfl,(New.from (J1.newPlain (r:=Wp.int) F u (Q0h _)) z)⟩
theorem t09(h:Hp)(b:Option Addr)(j c:Nat)(a:D1)(k:E2.R h [.slice b j c] a)(r:D1)(d:o00 a=some r):
  Tr Tryz.prog 145 #[.slice b j c] h λv h'=>∃(f:Option Addr) (i g:Nat),v = .slice f i g/\New E2 h h' [.slice f i g] r:=by
 obtain⟨rfl,x⟩:=Sl.len k
 unfold o00 at d
 refine E3 (args:=[.slice b a.length c]) (fn:=Tryz.f145) rfl ?_
 refine Or.inl ?_
 intro C n f3
 obtain⟨u,w,rfl,q,s,z⟩:=J1.out (r:=E2.toRp) f3 (show F2 (E2.R h) ([[.slice b a.length c]]:List (List Value)) [a] from⟨k,trivial⟩)
 refine trM d (s09 _ _ _ _ _ q) ?_
 rintro t d D o ⟨l,A,m,rfl,e⟩
 have B:Sub n o:=e.sub
 have p:=e.r
 obtain⟨rfl,y⟩:=Sl.len p
 obtain rfl:=oJ d
 exact⟨l,t.length,m,rfl,(New.from e s)⟩
theorem u0e(h:Hp)(b:Int)(d:J0 b)(r:j0×Bool)(a:w02 b=some r):
  Tr Tryz.prog 169 #[.int .i64 b] h λv h'=>∃(c:List Value),v = .tuple #[.agg c.toArray,.bool r.2]/\O1.R h' c r.1/\Sub h h':=by
 unfold w02 at a
 refine E3 (args:=[.int .i64 b]) (fn:=Tryz.f169) rfl ?_
 refine trV a (K5 _ b d 1 (by decide) 3 (by decide)) λf a=>?_
 refine ifB a (λe a=>?_) λe a=>?_
 ·obtain rfl:=oJ a
  exact⟨([.int .i64 0,.int .i64 0,.slice none 0 0]),rfl,(l0 (by decide) (by decide) (c08 P1 h)),(Sub.refl _)⟩
 ·obtain rfl:=oJ a
  exact⟨([.int .i64 b,.int .i64 1,.slice none 0 0]),rfl,(l0 d (by decide) (c08 P1 h)),(Sub.refl _)⟩
theorem U0g(h:Hp)(S:List Value)(aa:j0)(ba:O1.R h S aa)(s:Int)(V:J0 s)(l:Option Addr)(Z m:Nat)(g:D1)(n:E2.R h [.slice l Z m] g)(d:Int)(u:J0 d)(r:j0×Bool)(b:a03 aa s g d=some r):
  Tr Tryz.prog 155 #[.agg S.toArray,.int .i64 s,.slice l Z m,.int .i64 d] h λv h'=>∃(Q:List Value),v = .tuple #[.agg Q.toArray,.bool r.2]/\O1.R h' Q r.1/\Sub h h':=by
 obtain⟨F,x,N,bS,P,I,rfl,rfl,G,U,J⟩:=F0 ba
 obtain⟨rfl,bK⟩:=Sl.len J
 obtain⟨rfl,bL⟩:=Sl.len n
 unfold a03 at b
 dsimp only at b
 refine E3 (args:=[.agg #[.int .i64 F,.int .i64 x,.slice N I.length P],.int .i64 s,.slice l g.length m,.int .i64 d]) (fn:=Tryz.f155) rfl ?_
 refine trM b (V4 _ _ _ (l0 G U J)) ?_
 rintro ce b b8 Y ⟨bk,rfl,aj⟩
 have j:Sub h Y:=aj.sub
 have bb:=aj.r
 obtain⟨ao,ap,O,bT,T,L,rfl,rfl,W,X,K⟩:=F0 bb
 obtain⟨rfl,bN⟩:=Sl.len K
 try dsimp only at b
 refine trV b (C6 _ [.int .i64 F,.int .i64 x,.slice N I.length P] (F,x,I) (l0 G U (U0.mono j J))) λcg b=>?_
 refine trG b (λq=>K5 _ s V 0 (by decide) (IntKind.i64.wrap (x-1)) (I0 _)) λci b=>?_
 refine trG b (λq=>K5 _ d u 0 (by decide) (IntKind.i64.wrap (x-1)) (I0 _)) λcj b=>?_
 refine trG b (λq=>w0a _ F G l g.length m g (E2.mono j n)) λck b=>?_
 refine ifB b (λaZ b=>?_) λaZ b=>?_
 ·obtain rfl:=oJ b
  exact⟨([.int .i64 ao,.int .i64 ap,.slice O L.length T]),rfl,(l0 W X K),j⟩
 ·obtain⟨M,aU,b⟩:=D0 b
  refine eX { vars:=[11,12],boxes:=[2],owns:=[],fuel:=true } (eX (λvs os h'=>∃ e f k c B H C y,vs.tail = [.int .i64 e,.int .i64 f,.int .i64 k,.int .i64 c,.slice B H C]/\os = []/\Sub Y h'/\J0 e/\J0 f/\J0 k/\J0 c/\U0.R h' [.slice B H C] y/\V5 g d (D2 vs) e f k c y=some M) (eX (λ_ _=>0) (aI (eX Y0 ⟨s,0,ao,ap,O,L.length,T,L,rfl,rfl,(Sub.refl _),V,(by decide),W,X,K,aU⟩) ?_)))
  rintro _ _ _ _ _ p E ⟨e,f,k,c,B,H,C,y,⟨⟩,⟨⟩,i,D,bp,w,o,t,a⟩
  replace a:V5 g d p e f k c y=some M:=a
  obtain _|p:=p
  ·cases a
  rw[V5.eq_2]at a
  obtain⟨rfl,bM⟩:=Sl.len t
  refine ifB a (λaV a=>?_) λaV a=>?_
  ·refine ifB a (λaW a=>?_) λaW a=>?_
   ·refine ldI a (E2.mono (j.trans i) n) λcf bq a=>?_
    refine ifB a (λaX a=>?_) λaX a=>?_
    ·refine Or.inr (Or.inr (Or.inl (aI (aI (by kernel_rfl) (by kernel_rfl)) ?_)))
     obtain⟨aq,aP,a⟩:=D0 a
     obtain⟨aC,bl,aL,bc⟩:=Sl.getI (r:=Wp.int.toRp) (E2.mono (j.trans i) n) aP (by decide)
     obtain⟨rfl,a0⟩:=bc
     refine Or.inl (eX (.hel (.slice l g.length m) f 1 0) (aI ?_ ?_))
     ·intro bu bY
      exact aI aC (aI rfl (aI rfl rfl))
     refine Or.inl (eX (.val (.int .i64 aq)) (aI ?_ ?_))
     ·intro bv bg
      exact eX _ (aI (A5.up bg aL) (aI rfl (aI rfl rfl)))
     refine Or.inl (eX (.agg [.val (.int .i64 e),.val (.int .i64 aq),.val (.int .i64 c)]) (aI ?_ ?_))
     ·intro bx bZ
      exact aI rfl (aI rfl rfl)
     refine Or.inr ?_
     refine Or.inr ?_
     refine Or.inl (eX 1 (aI (aI rfl rfl) ?_))
     refine trM a (n8 _ _ _ _ _ t _ _ (K1 D a0 o)) ?_
     rintro ar a ca a2 ⟨ay,bU,aG,rfl,ak⟩
     have af:Sub E a2:=ak.sub
     have ab:=ak.r
     obtain⟨rfl,bO⟩:=Sl.len ab
     refine aI (aI rfl af) (aI (by first|exact trivial|exact rfl) ?_)
     refine aT ?_
     exact U2 p ⟨c,(IntKind.i64.wrap (f+1)),k,(IntKind.i64.wrap (c+1)),ay,ar.length,aG,ar,rfl,rfl,(i.trans af),o,(I0 _),w,(I0 _),ab,a⟩
    ·refine Or.inr (Or.inr (Or.inl (aI (aI (by kernel_rfl) (by kernel_rfl)) ?_)))
     obtain⟨z,aQ,a⟩:=D0 a
     obtain⟨aD,bm,aM,bd⟩:=Sl.getI (r:=Wp.int.toRp) (E2.mono (j.trans i) n) aQ (by decide)
     obtain⟨rfl,br⟩:=bd
     refine Or.inl (eX (.hel (.slice l g.length m) f 1 0) (aI ?_ ?_))
     ·intro bz b0
      exact aI aD (aI rfl (aI rfl rfl))
     refine Or.inl (eX (.val (.int .i64 z)) (aI ?_ ?_))
     ·intro bA bh
      exact eX _ (aI (A5.up bh aM) (aI rfl (aI rfl rfl)))
     refine Or.inl (eX (.val (.int .i64 (IntKind.i64.wrap (0-z)))) (aI ?_ ?_))
     ·intro bB b1
      exact aI rfl (aI rfl rfl)
     refine Or.inl (eX (.agg [.val (.int .i64 c),.val (.int .i64 (IntKind.i64.wrap (0-z))),.val (.int .i64 e)]) (aI ?_ ?_))
     ·intro bC b2
      exact aI rfl (aI rfl rfl)
     refine Or.inr ?_
     refine Or.inr ?_
     refine Or.inl (eX 1 (aI (aI rfl rfl) ?_))
     refine trM a (n8 _ _ _ _ _ t [.int .i64 c,.int .i64 (IntKind.i64.wrap (0-z)),.int .i64 e] (c,(IntKind.i64.wrap (0-z)),e) (K1 o (I0 _) D)) ?_
     rintro au a cb a3 ⟨az,bV,aH,rfl,al⟩
     have ag:Sub E a3:=al.sub
     have ac:=al.r
     obtain⟨rfl,bP⟩:=Sl.len ac
     refine aI (aI rfl ag) (aI (by first|exact trivial|exact rfl) ?_)
     refine aT ?_
     exact U2 p ⟨c,(IntKind.i64.wrap (f+1)),k,(IntKind.i64.wrap (c+1)),az,au.length,aH,au,rfl,rfl,(i.trans ag),o,(I0 _),w,(I0 _),ac,a⟩
   ·refine ldI a (E2.mono (j.trans i) n) λch bs a=>?_
    refine ifB a (λaY a=>?_) λaY a=>?_
    ·refine Or.inr (Or.inr (Or.inl (aI (aI (by kernel_rfl) (by kernel_rfl)) ?_)))
     obtain⟨av,aR,a⟩:=D0 a
     obtain⟨aE,bn,aN,be⟩:=Sl.getI (r:=Wp.int.toRp) (E2.mono (j.trans i) n) aR (by decide)
     obtain⟨rfl,a1⟩:=be
     refine Or.inl (eX (.hel (.slice l g.length m) f 1 0) (aI ?_ ?_))
     ·intro bD b3
      exact aI aE (aI rfl (aI rfl rfl))
     refine Or.inl (eX (.val (.int .i64 av)) (aI ?_ ?_))
     ·intro bE bi
      exact eX _ (aI (A5.up bi aN) (aI rfl (aI rfl rfl)))
     refine Or.inl (eX (.agg [.val (.int .i64 e),.val (.int .i64 av),.val (.int .i64 d)]) (aI ?_ ?_))
     ·intro bF b4
      exact aI rfl (aI rfl rfl)
     refine Or.inr ?_
     refine Or.inr ?_
     refine Or.inl (eX 1 (aI (aI rfl rfl) ?_))
     refine trM a (n8 _ _ _ _ _ t _ _ (K1 D a1 u)) ?_
     rintro aw a cc a4 ⟨aA,bW,aJ,rfl,am⟩
     have ah:Sub E a4:=am.sub
     have ad:=am.r
     obtain⟨rfl,bQ⟩:=Sl.len ad
     refine aI (aI rfl ah) (aI (by first|exact trivial|exact rfl) ?_)
     refine aT ?_
     exact U2 p ⟨d,(IntKind.i64.wrap (f+1)),k,c,aA,aw.length,aJ,aw,rfl,rfl,(i.trans ah),u,(I0 _),w,o,ad,a⟩
    ·refine Or.inr (Or.inr (Or.inl (aI (aI (by kernel_rfl) (by kernel_rfl)) ?_)))
     obtain⟨A,aS,a⟩:=D0 a
     obtain⟨aF,bo,aO,bf⟩:=Sl.getI (r:=Wp.int.toRp) (E2.mono (j.trans i) n) aS (by decide)
     obtain⟨rfl,bt⟩:=bf
     refine Or.inl (eX (.hel (.slice l g.length m) f 1 0) (aI ?_ ?_))
     ·intro bG b5
      exact aI aF (aI rfl (aI rfl rfl))
     refine Or.inl (eX (.val (.int .i64 A)) (aI ?_ ?_))
     ·intro bH bj
      exact eX _ (aI (A5.up bj aO) (aI rfl (aI rfl rfl)))
     refine Or.inl (eX (.val (.int .i64 (IntKind.i64.wrap (0-A)))) (aI ?_ ?_))
     ·intro bI b6
      exact aI rfl (aI rfl rfl)
     refine Or.inl (eX (.agg [.val (.int .i64 d),.val (.int .i64 (IntKind.i64.wrap (0-A))),.val (.int .i64 e)]) (aI ?_ ?_))
     ·intro bJ b7
      exact aI rfl (aI rfl rfl)
     refine Or.inr ?_
     refine Or.inr ?_
     refine Or.inl (eX 1 (aI (aI rfl rfl) ?_))
     refine trM a (n8 _ _ _ _ _ t [.int .i64 d,.int .i64 (IntKind.i64.wrap (0-A)),.int .i64 e] (d,(IntKind.i64.wrap (0-A)),e) (K1 u (I0 _) D)) ?_
     rintro ax a cd a5 ⟨aB,bX,aK,rfl,an⟩
     have ai:Sub E a5:=an.sub
     have ae:=an.r
     obtain⟨rfl,bR⟩:=Sl.len ae
     refine aI (aI rfl ai) (aI (by first|exact trivial|exact rfl) ?_)
     refine aT ?_
     exact U2 p ⟨d,(IntKind.i64.wrap (f+1)),k,c,aB,ax.length,aK,ax,rfl,rfl,(i.trans ai),u,(I0 _),w,o,ae,a⟩
  ·obtain rfl:=oJ a
   try dsimp only[Z0,I1]at b
   obtain rfl:=oJ b
   exact⟨([.int .i64 k,.int .i64 c,.slice B y.length C]),rfl,(l0 w o t),(j.trans i)⟩
theorem v0e(h:Hp)(f:List Value)(i:j0)(A:O1.R h f i)(b:Option Addr)(g c:Nat)(d:D1)(k:E2.R h [.slice b g c] d)(r:j0×Bool)(a:x02 i d=some r):
  Tr Tryz.prog 170 #[.agg f.toArray,.slice b g c] h λv h'=>∃(e:List Value),v = .tuple #[.agg e.toArray,.bool r.2]/\O1.R h' e r.1/\Sub h h':=by
 obtain⟨x,y,n,L,p,z,rfl,rfl,s,t,j⟩:=F0 A
 obtain⟨rfl,I⟩:=Sl.len j
 obtain⟨rfl,J⟩:=Sl.len k
 unfold x02 at a
 dsimp only at a
 refine E3 (args:=[.agg #[.int .i64 x,.int .i64 y,.slice n z.length p],.slice b d.length c]) (fn:=Tryz.f170) rfl ?_
 refine trM a (U0g _ _ _ (l0 s t j) 0 (by decide) _ _ _ _ k 0 (by decide)) ?_
 rintro C a N H ⟨G,rfl,l,B⟩
 obtain⟨O,P⟩:=C
 dsimp only at a l
 obtain⟨D,E,o,M,q,F,rfl,rfl,u,w,m⟩:=F0 l
 obtain⟨rfl,K⟩:=Sl.len m
 try dsimp only at a
 obtain rfl:=oJ a
 exact⟨([.int .i64 D,.int .i64 E,.slice o F.length q]),rfl,(l0 u w m),B⟩
theorem w0e(h:Hp)(w:Int)(Q:J0 w)(p:Option Addr)(U s:Nat)(l:M6)(D:C00.R h [.slice p U s] l)(r:j0×Bool)(b:y02 w l=some r):
  Tr Tryz.prog 85 #[.int .i64 w,.slice p U s] h λv h'=>∃(L:List Value),v = .tuple #[.agg L.toArray,.bool r.2]/\O1.R h' L r.1/\Sub h h':=by
 obtain⟨rfl,bg⟩:=Sl.len D
 unfold y02 at b
 refine E3 (args:=[.int .i64 w,.slice p l.length s]) (fn:=Tryz.f85) rfl ?_
 refine trV b (o0e _ w Q p l.length s l D) λbv b=>?_
 refine ifB b (λaq b=>?_) λaq b=>?_
 ·obtain rfl:=oJ b
  exact⟨([.int .i64 0,.int .i64 0,.slice none 0 0]),rfl,(l0 (by decide) (by decide) (c08 P1 h)),(Sub.refl _)⟩
 ·refine trM b (u0e _ _ Q) ?_
  rintro aR b bu aD ⟨aY,rfl,V,Z⟩
  obtain⟨bx,bz⟩:=aR
  dsimp only at b V
  obtain⟨aS,aU,ac,bn,ah,aa,rfl,rfl,ar,au,W⟩:=F0 V
  obtain⟨rfl,bj⟩:=Sl.len W
  try dsimp only at b
  obtain⟨I,ao,b⟩:=D0 b
  refine eX { vars:=[8],boxes:=[1],owns:=[],fuel:=true } (eX (λvs os h'=>∃ n u8 o y C z x,vs.tail = [.int .i64 n,.int .i64 u8,.int .i64 o,.slice y C z]/\os = []/\Sub aD h'/\J0 n/\J0 u8/\J0 o/\U0.R h' [.slice y C z] x/\R7 l (D2 vs) n u8 o x=some I) (eX (λ_ _=>0) (aI (eX Y0 ⟨0,aS,aU,ac,aa.length,ah,aa,rfl,rfl,(Sub.refl _),(by decide),ar,au,W,ao⟩) ?_)))
  rintro _ _ _ _ A a3 ⟨n,u8,o,y,C,z,x,⟨⟩,⟨⟩,G,a0,S,T,E,c⟩
  replace c:R7 l A n u8 o x=some I:=c
  obtain _|A:=A
  ·cases c
  rw[R7.eq_2]at c
  obtain⟨rfl,bh⟩:=Sl.len E
  refine ifB c (λap c=>?_) λap c=>?_
  ·refine Or.inr (Or.inr (Or.inr (Or.inr (eX 10 (aI (aI (by kernel_rfl) (by kernel_rfl)) ?_)))))
   obtain⟨aO,am,c⟩:=D0 c
   obtain⟨af,aW,ak,F⟩:=Sl.getI (r:=E2.toRp) (C00.mono (Z.trans G) D) am (by decide)
   obtain⟨ab,bm,ag,rfl⟩:=Wp.slice_cell F
   obtain⟨rfl,bi⟩:=Sl.len F
   refine Or.inl (eX (.hel (.slice p l.length s) n 1 0) (aI ?_ ?_))
   ·intro a4 bq
    exact aI af (aI rfl (aI rfl rfl))
   refine Or.inl (eX (.val (.slice ab aO.length ag)) (aI ?_ ?_))
   ·intro a5 aM
    exact eX _ (aI (A5.up aM ak) (aI rfl (aI rfl rfl)))
   obtain⟨aP,an,c⟩:=D0 c
   obtain⟨aQ,H⟩:=aP
   try dsimp only at c
   obtain⟨j,k,a⟩:=aQ
   try dsimp only at c
   refine Or.inr (eX (λv g=>∃(i:Value),v = .tuple #[i,.bool H]/\(λv g=>∃(d:Option Addr) (f:Nat),v = .agg #[.int .i64 j,.int .i64 k,.slice d a.length f]/\J0 j/\J0 k/\U0.R g [.slice d a.length f] a/\a.length<=9223372036854775807) i g) (aI (λv O P m q=>by obtain⟨i,e,B⟩:=q;exact⟨i,e,(by obtain⟨d,f,e,t,u,f2,f3⟩:=B;exact⟨d,f,e,t,u,U0.mono m f2,f3⟩)⟩) (aI ?_ ?_)))
   ·intro ba Y
    refine Tr.mono (v0e _ _ _ (l0 S T (U0.mono Y E)) _ _ _ _ (E2.mono Y F) _ an) ?_
    rintro _ bf ⟨aX,rfl,aH,m⟩
    obtain⟨bA,bB,J,bo,M,bC,rfl,al,av,aw,X⟩:=F0 aH
    cases al
    obtain⟨rfl,aE⟩:=Sl.len X
    exact aI u05 (aI m ⟨(.agg #[.int .i64 j,.int .i64 k,.slice J a.length M]),rfl,⟨J,M,rfl,av,aw,X,aE⟩⟩)
   refine Or.inr (eX (λv g=>∃(i:Value),v = .tuple #[i,.bool H]/\(λv g=>∃(d:Option Addr) (f:Nat),v = .agg #[.int .i64 j,.int .i64 k,.slice d a.length f]/\J0 j/\J0 k/\U0.R g [.slice d a.length f] a/\a.length<=9223372036854775807) i g) (aI (λv O P m q=>by obtain⟨i,e,B⟩:=q;exact⟨i,e,(by obtain⟨d,f,e,t,u,f2,f3⟩:=B;exact⟨d,f,e,t,u,U0.mono m f2,f3⟩)⟩) (aI ?_ ?_)))
   ·intro bb br
    rintro _ ⟨_,rfl,⟨K,N,rfl,ax,ay,aJ,aF⟩⟩
    exact aI u05 (aI (Sub.refl _) ⟨(.agg #[.int .i64 j,.int .i64 k,.slice K a.length N]),rfl,⟨K,N,rfl,ax,ay,aJ,aF⟩⟩)
   refine Or.inr (eX (λv g=>∃(d:Option Addr) (f:Nat),v = .agg #[.int .i64 j,.int .i64 k,.slice d a.length f]/\J0 j/\J0 k/\U0.R g [.slice d a.length f] a/\a.length<=9223372036854775807) (aI (λv O P m q=>by obtain⟨d,f,e,t,u,f2,f3⟩:=q;exact⟨d,f,e,t,u,U0.mono m f2,f3⟩) (aI ?_ ?_)))
   ·intro bc bs
    rintro _ ⟨_,rfl,⟨ad,ai,rfl,az,aA,aK,aG⟩⟩
    exact aI u05 (aI (Sub.refl _) ⟨ad,ai,rfl,az,aA,aK,aG⟩)
   refine Or.inl (eX (.val (.bool H)) (aI ?_ ?_))
   ·intro bd bt
    rintro _ ⟨_,rfl,⟨aV,aZ,rfl,a1,a2,bp,bk⟩⟩
    exact aI rfl (aI rfl rfl)
   intro be aN
   rintro _ ⟨ae,aj,rfl,aB,aC,aL,bl⟩
   rintro _ _
   rintro _ _
   exact U2 A ⟨(IntKind.i64.wrap (n+1)),j,k,ae,a.length,aj,a,rfl,rfl,(G.trans aN),(I0 _),aB,aC,aL,c⟩
  ·obtain rfl:=oJ c
   try dsimp only[Z0,I1]at b
   obtain rfl:=oJ b
   exact⟨([.int .i64 u8,.int .i64 o,.slice y x.length z]),rfl,(l0 S T E),(Z.trans G)⟩
theorem V0g(h:Hp)(F:List Value)(I:j0)(ac:O1.R h F I)(r:g00)(t:b03 I=some r):
  Tr Tryz.prog 283 #[.agg F.toArray] h λv h'=>∃(D:Option Addr) (H E:Nat),v = .slice D H E/\o0j.R h' [.slice D H E] r/\Sub h h':=by
 obtain⟨aa,ab,J,au,L,w,rfl,rfl,aj,ak,A⟩:=F0 ac
 obtain⟨rfl,aq⟩:=Sl.len A
 unfold b03 at t
 dsimp only at t
 refine E3 (args:=[.agg #[.int .i64 aa,.int .i64 ab,.slice J w.length L]]) (fn:=Tryz.f283) rfl ?_
 obtain⟨B,S,t⟩:=D0 t
 refine eX { vars:=[4],boxes:=[],owns:=[0],fuel:=true } (eX (λvs os h'=>∃ l z u,vs.tail = [.int .i64 l]/\os = [z]/\Sub h h'/\J0 l/\F2 (D4.R h') z u/\L8 w (D2 vs) l u=some B) (eX (λ_ _=>0) (aI (eX Y0 ⟨0,[],([]:g00),rfl,rfl,(Sub.refl _),(by decide),(show F2 (D4.R h) ([]:List (List Value)) ([]:g00) from trivial),S⟩) ?_)))
 rintro _ z x Z ⟨l,aD,u,⟨⟩,⟨⟩,y,al,G,f⟩
 replace f:L8 w x l u=some B:=f
 obtain _|x:=x
 ·cases f
 rw[L8.eq_2]at f
 refine ifB f (λY f=>?_) λY f=>?_
 ·obtain⟨C,T,f⟩:=D0 f
  refine eX { vars:=[5],boxes:=[],owns:=[0],fuel:=true } (eX (λvs os h'=>∃ u8 p m,vs.tail = [.int .i64 u8]/\os = [p]/\Sub Z h'/\J0 u8/\F2 (D4.R h') p m/\Z4 w l (D2 vs) u8 m=some C) (eX (λ_ _=>0) (aI (eX Y0 ⟨(IntKind.i64.wrap (l+1)),z,u,rfl,rfl,(Sub.refl _),(I0 _),G,T⟩) ?_)))
  rintro _ p q k ⟨u8,aE,m,⟨⟩,⟨⟩,s,am,g,e⟩
  replace e:Z4 w l q u8 m=some C:=e
  obtain _|q:=q
  ·cases e
  rw[Z4.eq_2]at e
  refine ifB e (λU e=>?_) λU e=>?_
  ·refine ld e (U0.mono (y.trans s) A) λaz ah ad e=>?_
   obtain⟨c,aA,a,rfl,rfl,n,an,i⟩:=Q2 ad
   try dsimp only at e
   refine ld e (U0.mono (y.trans s) A) λaB ai ae e=>?_
   obtain⟨d,aC,b,rfl,rfl,o,ao,j⟩:=Q2 ae
   try dsimp only at e
   refine ifB e (λV e=>?_) λV e=>?_
   ·obtain⟨av,O,e⟩:=D0 e
    refine aI (N2 O (by first|rw[F2.length g,F2.length (show F2 (D4.R k) ([[.int .i64 (if b<a then b else a),.int .i64 (if b>a then b else a)]]:List (List Value)) [((if b<a then b else a),(if b>a then b else a))] from⟨(G3 (E9 j i) (E9 j i)),trivial⟩)]|exact congrArg (·+1) (F2.length g))) ?_
    refine ifB e (λW e=>?_) λW e=>?_
    ·obtain⟨aw,P,e⟩:=D0 e
     refine aI (N2 P (by first|rw[F2.length (F2.append g (show F2 (D4.R k) ([[.int .i64 (if b<a then b else a),.int .i64 (if b>a then b else a)]]:List (List Value)) [((if b<a then b else a),(if b>a then b else a))] from⟨(G3 (E9 j i) (E9 j i)),trivial⟩)),F2.length (show F2 (D4.R k) ([[.int .i64 (if d<c then d else c),.int .i64 (if d>c then d else c)]]:List (List Value)) [((if d<c then d else c),(if d>c then d else c))] from⟨(G3 (E9 o n) (E9 o n)),trivial⟩)]|exact congrArg (·+1) (F2.length (F2.append g (show F2 (D4.R k) ([[.int .i64 (if b<a then b else a),.int .i64 (if b>a then b else a)]]:List (List Value)) [((if b<a then b else a),(if b>a then b else a))] from⟨(G3 (E9 j i) (E9 j i)),trivial⟩))))) ?_
     exact U2 q ⟨(IntKind.i64.wrap (u8+1)),((p++([[.int .i64 (if b<a then b else a),.int .i64 (if b>a then b else a)]]:List (List Value)))++([[.int .i64 (if d<c then d else c),.int .i64 (if d>c then d else c)]]:List (List Value))),((m ++ [((if b<a then b else a),(if b>a then b else a))]) ++ [((if d<c then d else c),(if d>c then d else c))]),rfl,rfl,s,(I0 _),(F2.append (F2.append g (show F2 (D4.R k) ([[.int .i64 (if b<a then b else a),.int .i64 (if b>a then b else a)]]:List (List Value)) [((if b<a then b else a),(if b>a then b else a))] from⟨(G3 (E9 j i) (E9 j i)),trivial⟩)) (show F2 (D4.R k) ([[.int .i64 (if d<c then d else c),.int .i64 (if d>c then d else c)]]:List (List Value)) [((if d<c then d else c),(if d>c then d else c))] from⟨(G3 (E9 o n) (E9 o n)),trivial⟩)),e⟩
    ·exact U2 q ⟨(IntKind.i64.wrap (u8+1)),(p++([[.int .i64 (if b<a then b else a),.int .i64 (if b>a then b else a)]]:List (List Value))),(m ++ [((if b<a then b else a),(if b>a then b else a))]),rfl,rfl,s,(I0 _),(F2.append g (show F2 (D4.R k) ([[.int .i64 (if b<a then b else a),.int .i64 (if b>a then b else a)]]:List (List Value)) [((if b<a then b else a),(if b>a then b else a))] from⟨(G3 (E9 j i) (E9 j i)),trivial⟩)),e⟩
   ·refine ifB e (λX e=>?_) λX e=>?_
    ·obtain⟨ax,Q,e⟩:=D0 e
     refine aI (N2 Q (by first|rw[F2.length g,F2.length (show F2 (D4.R k) ([[.int .i64 (if d<c then d else c),.int .i64 (if d>c then d else c)]]:List (List Value)) [((if d<c then d else c),(if d>c then d else c))] from⟨(G3 (E9 o n) (E9 o n)),trivial⟩)]|exact congrArg (·+1) (F2.length g))) ?_
     exact U2 q ⟨(IntKind.i64.wrap (u8+1)),(p++([[.int .i64 (if d<c then d else c),.int .i64 (if d>c then d else c)]]:List (List Value))),(m ++ [((if d<c then d else c),(if d>c then d else c))]),rfl,rfl,s,(I0 _),(F2.append g (show F2 (D4.R k) ([[.int .i64 (if d<c then d else c),.int .i64 (if d>c then d else c)]]:List (List Value)) [((if d<c then d else c),(if d>c then d else c))] from⟨(G3 (E9 o n) (E9 o n)),trivial⟩)),e⟩
    ·exact U2 q ⟨(IntKind.i64.wrap (u8+1)),p,m,rfl,rfl,s,(I0 _),g,e⟩
  ·obtain rfl:=oJ e
   try dsimp only[Z0,I1]at f
   exact U2 x ⟨(IntKind.i64.wrap (l+1)),p,m,rfl,rfl,(y.trans s),(I0 _),g,f⟩
 ·obtain rfl:=oJ f
  try dsimp only[Z0,I1]at t
  intro ay ap N
  obtain⟨K,M,rfl,af,ag,ar⟩:=J1.out (r:=D4.toRp) N G
  obtain rfl:=oJ t
  exact⟨K,u.length,M,rfl,af,(y.trans ag)⟩
theorem E0d(h:Hp)(j:List Value)(m:j0)(u:O1.R h j m)(r:H5×Bool)(a:L00 m=some r):
  Tr Tryz.prog 266 #[.agg j.toArray] h λv h'=>∃(i:List Value),v = .tuple #[.agg i.toArray,.bool r.2]/\D4.R h' i r.1/\Sub h h':=by
 obtain⟨b,c,f,F,g,d,rfl,rfl,k,l,e⟩:=F0 u
 obtain⟨rfl,D⟩:=Sl.len e
 unfold L00 at a
 dsimp only at a
 refine E3 (args:=[.agg #[.int .i64 b,.int .i64 c,.slice f d.length g]]) (fn:=Tryz.f266) rfl ?_
 refine trV a (C6 _ [.int .i64 b,.int .i64 c,.slice f d.length g] (b,c,d) (l0 k l e)) λI a=>?_
 refine ifB a (λp a=>?_) λp a=>?_
 ·obtain rfl:=oJ a
  exact⟨([.int .i64 0,.int .i64 0]),rfl,(G3 (by decide) (by decide)),(Sub.refl _)⟩
 ·refine trM a (V0g _ _ _ (l0 k l e)) ?_
  rintro J a H C ⟨z,G,B,rfl,n,o⟩
  obtain⟨rfl,E⟩:=Sl.len n
  refine ifB a (λq a=>?_) λq a=>?_
  ·obtain rfl:=oJ a
   exact⟨([.int .i64 0,.int .i64 0]),rfl,(G3 (by decide) (by decide)),o⟩
  ·refine ld a n λK A w a=>?_
   obtain⟨x,y,rfl,rfl,s,t⟩:=X02 w
   try dsimp only at a
   obtain rfl:=oJ a
   exact⟨([.int .i64 x,.int .i64 y]),rfl,(G3 s t),o⟩
theorem u0c(h:Hp)(b:Int)(l:J0 b)(c:List Value)(d:H5)(k:D4.R h c d)(r:Int)(a:o03 b d=some r):
  Tr Tryz.prog 284 #[.int .i64 b,.agg c.toArray] h λv h'=>v = .int .i64 r/\h'=h:=by
 obtain⟨i,j,rfl,rfl,m,n⟩:=X02 k
 unfold o03 at a
 dsimp only at a
 refine Tr.forget (E3 (args:=[.int .i64 b,.agg #[.int .i64 i,.int .i64 j]]) (fn:=Tryz.f284) rfl ?_)
 refine ifB a (λe a=>?_) λe a=>?_
 ·refine ifB a (λf a=>?_) λf a=>?_
  ·obtain rfl:=oJ a
   exact aI rfl (Sub.refl _)
  ·obtain rfl:=oJ a
   exact aI rfl (Sub.refl _)
 ·refine ifB a (λg a=>?_) λg a=>?_
  ·obtain rfl:=oJ a
   exact aI rfl (Sub.refl _)
  ·obtain rfl:=oJ a
   exact aI rfl (Sub.refl _)
theorem w09(h:Hp)(B:List Value)(I:j0)(am:O1.R h B I)(C:List Value)(J:H5)(an:D4.R h C J)(r:j0×Bool)(b:M8 I J=some r):
  Tr Tryz.prog 267 #[.agg B.toArray,.agg C.toArray] h λv h'=>∃(A:List Value),v = .tuple #[.agg A.toArray,.bool r.2]/\O1.R h' A r.1/\Sub h h':=by
 obtain⟨k,l,y,aH,z,e,rfl,rfl,n,D,m⟩:=F0 am
 obtain⟨rfl,aD⟩:=Sl.len m
 obtain⟨p,q,rfl,rfl,E,F⟩:=X02 an
 unfold M8 at b
 dsimp only at b
 refine E3 (args:=[.agg #[.int .i64 k,.int .i64 l,.slice y e.length z],.agg #[.int .i64 p,.int .i64 q]]) (fn:=Tryz.f267) rfl ?_
 refine trV b (C6 _ [.int .i64 k,.int .i64 l,.slice y e.length z] (k,l,e) (l0 n D m)) λaS b=>?_
 refine ifB b (λab b=>?_) λab b=>?_
 ·refine trM b (V4 _ _ _ (l0 n D m)) ?_
  rintro aX b aR al ⟨ay,rfl,O⟩
  have aq:Sub h al:=O.sub
  have ap:=O.r
  obtain⟨au,av,S,aK,U,aw,rfl,rfl,ah,ai,L⟩:=F0 ap
  obtain⟨rfl,aG⟩:=Sl.len L
  try dsimp only at b
  obtain rfl:=oJ b
  exact⟨([.int .i64 au,.int .i64 av,.slice S aw.length U]),rfl,(l0 ah ai L),aq⟩
 ·obtain⟨x,Z,b⟩:=D0 b
  refine eX { vars:=[7],boxes:=[3],owns:=[],fuel:=true } (eX (λvs os h'=>∃ d u8 c g o i f,vs.tail = [.int .i64 d,.int .i64 u8,.int .i64 c,.slice g o i]/\os = []/\Sub h h'/\J0 d/\J0 u8/\J0 c/\U0.R h' [.slice g o i] f/\o5 e p q (D2 vs) d u8 c f=some x) (eX (λ_ _=>0) (aI (eX Y0 ⟨0,k,(IntKind.i64.wrap (l-1)),none,0,0,[],rfl,rfl,(Sub.refl _),(by decide),n,(I0 _),(c08 P1 h),Z⟩) ?_)))
  rintro _ _ _ _ j aj ⟨d,u8,c,g,o,i,f,⟨⟩,⟨⟩,t,az,G,H,s,a⟩
  replace a:o5 e p q j d u8 c f=some x:=a
  obtain _|j:=j
  ·cases a
  rw[o5.eq_2]at a
  obtain⟨rfl,aE⟩:=Sl.len s
  refine ifB a (λaa a=>?_) λaa a=>?_
  ·refine ld a (U0.mono t m) λaU ax ao a=>?_
   obtain⟨aV,ar,aW,rfl,rfl,ac,ad,ae⟩:=Q2 ao
   try dsimp only at a
   refine Or.inr (Or.inr (Or.inl (aI (aI (by kernel_rfl) (by kernel_rfl)) ?_)))
   obtain⟨u,X,a⟩:=D0 a
   obtain⟨aL,V,a⟩:=D0 a
   have af:J0 u:=O0 V
   refine Or.inl (eX (.val (.int .i64 u)) (aI ?_ ?_))
   ·intro aA aN
    exact Tr.val (u0c _ _ ac _ _ (G3 E F) _ X) (aI rfl (aI rfl rfl))
   obtain⟨w,Y,a⟩:=D0 a
   obtain⟨aM,W,a⟩:=D0 a
   have ag:J0 w:=O0 W
   refine Or.inl (eX (.val (.int .i64 w)) (aI ?_ ?_))
   ·intro aB aO
    exact Tr.val (u0c _ _ ae _ _ (G3 E F) _ Y) (aI rfl (aI rfl rfl))
   refine Or.inl (eX (.agg [.val (.int .i64 u),.val (.int .i64 ar),.val (.int .i64 w)]) (aI ?_ ?_))
   ·intro aC aP
    exact aI rfl (aI rfl rfl)
   refine Or.inr ?_
   refine Or.inr ?_
   refine Or.inl (eX 1 (aI (aI rfl rfl) ?_))
   refine trM a (n8 _ _ _ _ _ s _ _ (K1 af ad ag)) ?_
   rintro P a aQ ak ⟨Q,aJ,T,rfl,N⟩
   have M:Sub aj ak:=N.sub
   have K:=N.r
   obtain⟨rfl,aF⟩:=Sl.len K
   refine aI (aI rfl M) (aI (by first|exact trivial|exact rfl) ?_)
   refine aT ?_
   exact U2 j ⟨(IntKind.i64.wrap (d+1)),u8,c,Q,P.length,T,P,rfl,rfl,(t.trans M),(I0 _),G,H,K,a⟩
  ·obtain rfl:=oJ a
   try dsimp only[Z0,I1]at b
   obtain rfl:=oJ b
   exact⟨([.int .i64 u8,.int .i64 c,.slice g f.length i]),rfl,(l0 G H s),t⟩
theorem x0e(h:Hp)(i:List Value)(l:j0)(J:O1.R h i l)(r:j0×H5×Bool)(a:z02 l=some r):
  Tr Tryz.prog 220 #[.agg i.toArray] h λv h'=>∃(f:List Value) (g:List Value),v = .tuple #[.agg f.toArray,.agg g.toArray,.bool r.2.2]/\O1.R h' f r.1/\D4.R h' g r.2.1/\Sub h h':=by
 obtain⟨G,H,s,af,w,I,rfl,rfl,d,e,b⟩:=F0 J
 obtain⟨rfl,ac⟩:=Sl.len b
 unfold z02 at a
 dsimp only at a
 refine E3 (args:=[.agg #[.int .i64 G,.int .i64 H,.slice s I.length w]]) (fn:=Tryz.f220) rfl ?_
 refine trM a (E0d _ _ _ (l0 d e b)) ?_
 rintro N a aj E ⟨Y,rfl,m,c⟩
 obtain⟨al,am⟩:=N
 dsimp only at a m
 obtain⟨O,P,rfl,rfl,j,k⟩:=X02 m
 try dsimp only at a
 refine ifB a (λz a=>?_) λz a=>?_
 ·refine trM a (V4 _ _ _ (l0 d e (U0.mono c b))) ?_
  rintro an a ak F ⟨Z,rfl,q⟩
  have L:Sub E F:=q.sub
  have K:=q.r
  obtain⟨Q,S,t,ag,x,T,rfl,rfl,A,B,n⟩:=F0 K
  obtain⟨rfl,ad⟩:=Sl.len n
  try dsimp only at a
  obtain rfl:=oJ a
  exact⟨([.int .i64 Q,.int .i64 S,.slice t T.length x]),([.int .i64 0,.int .i64 0]),rfl,(l0 A B n),(G3 (by decide) (by decide)),(c.trans L)⟩
 ·refine trM a (w09 _ _ _ (l0 d e (U0.mono c b)) _ _ (G3 j k)) ?_
  rintro U a ai ab ⟨aa,rfl,o,M⟩
  obtain⟨ao,ap⟩:=U
  dsimp only at a o
  obtain⟨V,W,u,ah,y,X,rfl,rfl,C,D,p⟩:=F0 o
  obtain⟨rfl,ae⟩:=Sl.len p
  try dsimp only at a
  refine Or.inr (Or.inr (Or.inl (aI (aI (by kernel_rfl) (by kernel_rfl)) ?_)))
  refine Or.inr ?_
  refine Or.inr ?_
  refine Or.inl (eX 0 (aI (aI rfl rfl) ?_))
  refine aT ?_
  refine aT ?_
  obtain rfl:=oJ a
  exact⟨([.int .i64 V,.int .i64 W,.slice u X.length y]),([.int .i64 O,.int .i64 P]),rfl,(l0 C D p),(G3 j k),(c.trans M)⟩
theorem W0g(h:Hp)(B:List Value)(G:j0)(au:O1.R h B G)(r:j0×g00)(b:c03 G=some r):
  Tr Tryz.prog 136 #[.agg B.toArray] h λv h'=>∃(A:List Value) (y:Option Addr) (F z:Nat),v = .tuple #[.agg A.toArray,.slice y F z]/\O1.R h' A r.1/\o0j.R h' [.slice y F z] r.2/\Sub h h':=by
 obtain⟨ap,aq,T,aR,Y,ar,rfl,rfl,aj,ak,H⟩:=F0 au
 obtain⟨rfl,aL⟩:=Sl.len H
 unfold c03 at b
 dsimp only at b
 refine E3 (args:=[.agg #[.int .i64 ap,.int .i64 aq,.slice T ar.length Y]]) (fn:=Tryz.f136) rfl ?_
 refine trM b (V4 _ _ _ (l0 aj ak H)) ?_
 rintro a0 b aZ t ⟨aD,rfl,P⟩
 have M:Sub h t:=P.sub
 have av:=P.r
 obtain⟨aB,aC,V,aU,aa,S,rfl,rfl,an,ao,L⟩:=F0 av
 obtain⟨rfl,aO⟩:=Sl.len L
 try dsimp only at b
 obtain⟨x,ag,b⟩:=D0 b
 refine eX { vars:=[6],boxes:=[2],owns:=[0],fuel:=true } (eX (λvs os h'=>∃ g d e k u l u8 p f,vs.tail = [.int .i64 g,.int .i64 d,.int .i64 e,.slice k u l]/\os = [p]/\Sub t h'/\J0 g/\J0 d/\J0 e/\U0.R h' [.slice k u l] u8/\F2 (D4.R h') p f/\r7 (D2 vs) g d e u8 f=some x) (eX (λ_ _=>0) (aI (eX Y0 ⟨0,aB,aC,V,S.length,aa,S,[],([]:g00),rfl,rfl,(Sub.refl _),(by decide),an,ao,L,(show F2 (D4.R t) ([]:List (List Value)) ([]:g00) from trivial),ag⟩) ?_)))
 rintro _ _ _ _ p n aH ⟨g,d,e,k,u,l,u8,a4,f,⟨⟩,⟨⟩,w,aG,q,s,o,m,a⟩
 replace a:r7 n g d e u8 f=some x:=a
 obtain _|n:=n
 ·cases a
 rw[r7.eq_2]at a
 obtain⟨rfl,aM⟩:=Sl.len o
 refine ifB a (λah a=>?_) λah a=>?_
 ·refine trM a (x0e _ _ _ (l0 q s o)) ?_
  rintro ay a aW E ⟨aE,aF,rfl,I,K,c⟩
  obtain⟨a1,a2,a3⟩:=ay
  dsimp only at a I K
  obtain⟨az,aA,U,aS,Z,Q,rfl,rfl,al,am,J⟩:=F0 I
  obtain⟨rfl,aN⟩:=Sl.len J
  try dsimp only at a
  obtain⟨i,j,rfl,rfl,C,D⟩:=X02 K
  try dsimp only at a
  refine ifB a (λai a=>?_) λai a=>?_
  ·intro aX aJ ad
   obtain⟨W,ab,rfl,aw,N,aP⟩:=J1.out (r:=D4.toRp) ad (F2.up (r:=D4.toRp) c m)
   obtain rfl:=oJ a
   try dsimp only[L3,N3]at b
   obtain rfl:=oJ b
   exact⟨([.int .i64 d,.int .i64 e,.slice k u8.length l]),W,f.length,ab,rfl,(l0 q s (U0.mono (c.trans N) o)),aw,(((M.trans w).trans c).trans N)⟩
  ·obtain⟨aV,af,a⟩:=D0 a
   refine aI (N2 af (by first|rw[F2.length (F2.up (r:=D4.toRp) c m),F2.length (show F2 (D4.R E) ([[.int .i64 i,.int .i64 j]]:List (List Value)) [(i,j)] from⟨(G3 C D),trivial⟩)]|exact congrArg (·+1) (F2.length (F2.up (r:=D4.toRp) c m)))) ?_
   exact U2 n ⟨(IntKind.i64.wrap (g+1)),az,aA,U,Q.length,Z,Q,(p++([[.int .i64 i,.int .i64 j]]:List (List Value))),(f ++ [(i,j)]),rfl,rfl,(w.trans c),(I0 _),al,am,J,(F2.append (F2.up (r:=D4.toRp) c m) (show F2 (D4.R E) ([[.int .i64 i,.int .i64 j]]:List (List Value)) [(i,j)] from⟨(G3 C D),trivial⟩)),a⟩
 ·obtain rfl:=oJ a
  try dsimp only[Z0,I1]at b
  intro aY aK ae
  obtain⟨X,ac,rfl,ax,O,aQ⟩:=J1.out (r:=D4.toRp) ae m
  obtain rfl:=oJ b
  exact⟨([.int .i64 d,.int .i64 e,.slice k u8.length l]),X,f.length,ac,rfl,(l0 q s (U0.mono O o)),ax,((M.trans w).trans O)⟩
theorem D6(h:Hp)(t:List Value)(C:j0)(M:O1.R h t C)(u:List Value)(D:Q0)(N:P1.R h u D)(r:j0×Bool)(a:d03 C D=some r):
  Tr Tryz.prog 158 #[.agg t.toArray,.agg u.toArray] h λv h'=>∃(s:List Value),v = .tuple #[.agg s.toArray,.bool r.2]/\New O1 h h' s r.1:=by
 obtain⟨b,c,g,Z,i,d,rfl,rfl,j,k,e⟩:=F0 M
 obtain⟨rfl,W⟩:=Sl.len e
 obtain⟨l,m,n,rfl,rfl,w,x,y⟩:=Q2 N
 unfold d03 at a
 dsimp only at a
 refine E3 (args:=[.agg #[.int .i64 b,.int .i64 c,.slice g d.length i],.agg #[.int .i64 l,.int .i64 m,.int .i64 n]]) (fn:=Tryz.f158) rfl ?_
 refine trM a (V4 _ _ _ (l0 j k e)) ?_
 rintro af a ae B ⟨V,rfl,o⟩
 have f:Sub h B:=o.sub
 have O:=o.r
 obtain⟨E,F,G,aa,I,T,rfl,rfl,z,A,P⟩:=F0 O
 obtain⟨rfl,X⟩:=Sl.len P
 try dsimp only at a
 have S:=New.sndI (New.sndI (o))
 refine trV a (C6 _ [.int .i64 b,.int .i64 c,.slice g d.length i] (b,c,d) (l0 j k (U0.mono f e))) λag a=>?_
 refine trG a (λq=>x0a _ [.int .i64 b,.int .i64 c,.slice g d.length i] (b,c,d) (l0 j k (U0.mono f e)) [.int .i64 l,.int .i64 m,.int .i64 n] (l,m,n) (K1 w x y)) λah a=>?_
 refine ifB a (λK a=>?_) λK a=>?_
 ·obtain rfl:=oJ a
  exact⟨([.int .i64 E,.int .i64 F,.slice G T.length I]),rfl,(New.pair (New.int z) (New.pair (New.int A) S))⟩
 ·refine trM a (n8 _ _ _ _ _ (U0.mono f e) _ _ (K1 w x y)) ?_
  rintro U a ad L ⟨H,ab,J,rfl,p⟩
  have ac:Sub B L:=p.sub
  have Q:=p.r
  obtain⟨rfl,Y⟩:=Sl.len Q
  refine Or.inr (Or.inr (Or.inl (aI (aI (by kernel_rfl) (by kernel_rfl)) ?_)))
  refine Or.inr ?_
  refine Or.inl (eX 0 (aI (aI rfl rfl) ?_))
  refine aT ?_
  obtain rfl:=oJ a
  exact⟨([.int .i64 E,.int .i64 F,.slice H U.length J]),rfl,(New.pair (New.int z) (New.pair (New.int A) (New.from p f)))⟩
theorem F0d(h:Hp)(ai:List Value)(an:j0)(a4:O1.R h ai an)(r:j0×D1)(c:c02 an=some r):
  Tr Tryz.prog 221 #[.agg ai.toArray] h λv h'=>∃(ah:List Value) (af:Option Addr) (am ag:Nat),v = .tuple #[.agg ah.toArray,.slice af am ag]/\O1.R h' ah r.1/\E2.R h' [.slice af am ag] r.2/\Sub h h':=by
 obtain⟨A,B,az,bC,aE,C,rfl,rfl,T,U,N⟩:=F0 a4
 obtain⟨rfl,bs⟩:=Sl.len N
 unfold c02 at c
 dsimp only at c
 refine E3 (args:=[.agg #[.int .i64 A,.int .i64 B,.slice az C.length aE]]) (fn:=Tryz.f221) rfl ?_
 refine trM c (V4 _ _ _ (l0 T U N)) ?_
 rintro bO c bK V ⟨bj,rfl,aw⟩
 have Q:Sub h V:=aw.sub
 have a5:=aw.r
 obtain⟨bd,be,aA,bD,aF,ax,rfl,rfl,a0,a1,ao⟩:=F0 a5
 obtain⟨rfl,bv⟩:=Sl.len ao
 try dsimp only at c
 obtain⟨ae,aU,c⟩:=D0 c
 refine eX { vars:=[6],boxes:=[],owns:=[0],fuel:=true } (eX (λvs os h'=>∃ e S k,vs.tail = [.int .i64 e]/\os = [S]/\Sub V h'/\J0 e/\F2 (Wp.int.R h') S k/\Z6 B A C (D2 vs) e k=some ae) (eX (λ_ _=>0) (aI (eX Y0 ⟨0,[],([]:D1),rfl,rfl,(Sub.refl _),(by decide),(show F2 (Wp.int.R V) ([]:List (List Value)) ([]:D1) from trivial),aU⟩) ?_)))
 rintro _ S M X ⟨e,bV,k,⟨⟩,⟨⟩,l,ak,H,a⟩
 replace a:Z6 B A C M e k=some ae:=a
 obtain _|M:=M
 ·cases a
 rw[Z6.eq_2]at a
 refine trG a (λq=>C6 _ _ _ (l0 T U (U0.mono (Q.trans l) N))) λbS a=>?_
 refine ifB a (λaV a=>?_) λaV a=>?_
 ·obtain⟨bF,aN,a⟩:=D0 a
  refine aI (N2 aN (by first|rw[F2.length H,F2.length (show F2 (Wp.int.R X) ([[.int .i64 e]]:List (List Value)) [e] from⟨⟨rfl,ak⟩,trivial⟩)]|exact congrArg (·+1) (F2.length H))) ?_
  exact U2 M ⟨(IntKind.i64.wrap (e+1)),(S++([[.int .i64 e]]:List (List Value))),(k ++ [e]),rfl,rfl,l,(I0 _),(F2.append H (show F2 (Wp.int.R X) ([[.int .i64 e]]:List (List Value)) [e] from⟨⟨rfl,ak⟩,trivial⟩)),a⟩
 ·obtain rfl:=oJ a
  try dsimp only[Z0,I1]at c
  obtain⟨ac,aR,c⟩:=D0 c
  refine eX { vars:=[5,7],boxes:=[2],owns:=[],fuel:=true,pubs:=[5] } (eX (λvs os h'=>∃(s:Option Addr) (Y u:Nat) (g:D1) (m:Int) (j:Int) (f:Int) (t:Option Addr) (Z w:Nat) (n:V0),vs.tail = [.slice s Y u,.int .i64 m,.int .i64 j,.int .i64 f,.slice t Z w]/\os = []/\Sub X h'/\E2.R h' [.slice s Y u] g/\J0 m/\J0 j/\J0 f/\U0.R h' [.slice t Z w] n/\Y6 A B C (D2 vs) g m j f n=some ac) (eX (λ_ _=>0) ?_))
  intro bJ bo aK
  obtain⟨aC,aH,rfl,ba,au,bz⟩:=J1.out (r:=Wp.int.toRp) aK H
  refine aI (eX Y0 ⟨aC,k.length,aH,k,0,bd,be,aA,ax.length,aF,ax,rfl,rfl,au,ba,(by decide),a0,a1,(U0.mono (l.trans au) ao),aR⟩) ?_
  rintro _ _ _ _ _ L W ⟨s,Y,u,g,m,j,f,t,Z,w,n,⟨⟩,⟨⟩,P,O,bm,I,J,D,a⟩
  replace a:Y6 A B C L g m j f n=some ac:=a
  obtain _|L:=L
  ·cases a
  rw[Y6.eq_2]at a
  obtain⟨rfl,bt⟩:=Sl.len O
  obtain⟨rfl,bu⟩:=Sl.len D
  refine trG a (λq=>C6 _ _ _ (l0 T U (U0.mono ((Q.trans l).trans P) N))) λbP a=>?_
  refine ifB a (λaW a=>?_) λaW a=>?_
  ·refine trV a (y0a _ _ _ (l0 I J D)) λab a=>?_
   obtain⟨bG,aO,a⟩:=D0 a
   have bn:J0 ab:=O0 aO
   refine ifB a (λaX a=>?_) λaX a=>?_
   ·obtain rfl:=oJ a
    try dsimp only[L3,N3]at c
    obtain rfl:=oJ c
    exact⟨([.int .i64 j,.int .i64 f,.slice t n.length w]),s,g.length,u,rfl,(l0 I J D),O,((Q.trans l).trans P)⟩
   ·obtain⟨ad,aS,a⟩:=D0 a
    refine eX { vars:=[11],boxes:=[],owns:=[1,2],fuel:=true } (eX (λvs os h'=>∃ d F o G i,vs.tail = [.int .i64 d]/\os = [F,G]/\Sub W h'/\J0 d/\F2 (Wp.int.R h') F o/\F2 (Wp.int.R h') G i/\A6 f ab g (D2 vs) d o i=some ad) (eX (λ_ _=>0) (aI (eX Y0 ⟨0,[],([]:D1),[],([]:D1),rfl,rfl,(Sub.refl _),(by decide),(show F2 (Wp.int.R W) ([]:List (List Value)) ([]:D1) from trivial),(show F2 (Wp.int.R W) ([]:List (List Value)) ([]:D1) from trivial),aS⟩) ?_)))
    rintro _ F G z K ⟨d,bT,o,bU,i,⟨⟩,⟨⟩,E,aj,x,y,b⟩
    replace b:A6 f ab g z d o i=some ad:=b
    obtain _|z:=z
    ·cases b
    rw[A6.eq_2]at b
    refine ifB b (λaY b=>?_) λaY b=>?_
    ·refine ifB b (λaZ b=>?_) λaZ b=>?_
     ·obtain⟨bH,aP,b⟩:=D0 b
      refine aI (N2 aP (by first|rw[F2.length x,F2.length (show F2 (Wp.int.R K) ([[.int .i64 d]]:List (List Value)) [d] from⟨⟨rfl,aj⟩,trivial⟩)]|exact congrArg (·+1) (F2.length x))) ?_
      refine ldI b (E2.mono E O) λp al b=>?_
      obtain⟨bI,aQ,b⟩:=D0 b
      refine aI (N2 aQ (by first|rw[F2.length y,F2.length (show F2 (Wp.int.R K) ([[.int .i64 p]]:List (List Value)) [p] from⟨⟨rfl,al⟩,trivial⟩)]|exact congrArg (·+1) (F2.length y))) ?_
      exact U2 z ⟨(IntKind.i64.wrap (d+1)),(F++([[.int .i64 d]]:List (List Value))),(o ++ [d]),(G++([[.int .i64 p]]:List (List Value))),(i ++ [p]),rfl,rfl,E,(I0 _),(F2.append x (show F2 (Wp.int.R K) ([[.int .i64 d]]:List (List Value)) [d] from⟨⟨rfl,aj⟩,trivial⟩)),(F2.append y (show F2 (Wp.int.R K) ([[.int .i64 p]]:List (List Value)) [p] from⟨⟨rfl,al⟩,trivial⟩)),b⟩
     ·exact U2 z ⟨(IntKind.i64.wrap (d+1)),F,o,G,i,rfl,rfl,E,(I0 _),x,y,b⟩
    ·obtain rfl:=oJ b
     try dsimp only[Z0,I1]at a
     refine Or.inl ?_
     intro bL bp aL
     obtain⟨bi,bl,rfl,bb,aa,bA⟩:=J1.out (r:=Wp.int.toRp) aL x
     refine trM a (q05 _ _ _ (l0 I J (U0.mono (E.trans aa) D)) _ _ _ _ bb) ?_
     rintro bf a bM bq ⟨bk,rfl,ap,ar⟩
     obtain⟨bQ,bR⟩:=bf
     dsimp only at a ap
     obtain⟨bg,bh,aB,bE,aG,ay,rfl,rfl,a2,a3,aq⟩:=F0 ap
     obtain⟨rfl,bx⟩:=Sl.len aq
     try dsimp only at a
     intro bN br aM
     obtain⟨aD,aJ,rfl,bc,av,bB⟩:=J1.out (r:=Wp.int.toRp) aM (F2.up (r:=Wp.int.toRp) (aa.trans ar) y)
     exact U2 L ⟨aD,i.length,aJ,i,(IntKind.i64.wrap (m+1)),bg,bh,aB,ay.length,aG,ay,rfl,rfl,((((P.trans E).trans aa).trans ar).trans av),bc,(I0 _),a2,a3,(U0.mono av aq),a⟩
  ·obtain rfl:=oJ a
   try dsimp only[Z0,I1]at c
   obtain rfl:=oJ c
   exact⟨([.int .i64 j,.int .i64 f,.slice t n.length w]),s,g.length,u,rfl,(l0 I J D),O,((Q.trans l).trans P)⟩
theorem V04(h:Hp)(c:List Value)(d:j0)(E:O1.R h c d)(r:j0)(a:Q9 d=some r):
  Tr Tryz.prog 137 #[.agg c.toArray] h λv h'=>∃(b:List Value),v = .agg b.toArray/\O1.R h' b r/\Sub h h':=by
 obtain⟨B,C,n,aj,p,D,rfl,rfl,s,t,e⟩:=F0 E
 obtain⟨rfl,ad⟩:=Sl.len e
 unfold Q9 at a
 dsimp only at a
 refine E3 (args:=[.agg #[.int .i64 B,.int .i64 C,.slice n D.length p]]) (fn:=Tryz.f137) rfl ?_
 refine trM a (W0g _ _ _ (l0 s t e)) ?_
 rintro J a ap aa ⟨T,P,al,X,rfl,f,i,G⟩
 obtain⟨au,ay⟩:=J
 dsimp only at a f i
 obtain⟨av,aw,O,ak,W,ax,rfl,rfl,u,w,g⟩:=F0 f
 obtain⟨rfl,ae⟩:=Sl.len g
 try dsimp only at a
 obtain⟨rfl,af⟩:=Sl.len i
 refine trM a (F0d _ _ _ (l0 u w g)) ?_
 rintro K a aq ab ⟨U,S,an,Z,rfl,j,l,H⟩
 obtain⟨az,aD⟩:=K
 dsimp only at a j l
 obtain⟨aA,aB,Q,am,Y,aC,rfl,rfl,x,y,k⟩:=F0 j
 obtain⟨rfl,ag⟩:=Sl.len k
 try dsimp only at a
 obtain⟨rfl,ah⟩:=Sl.len l
 refine trM a (D04 _ _ _ (l0 x y k)) ?_
 rintro aE a ar ac ⟨V,rfl,F,I⟩
 obtain⟨L,M,o,ao,q,N,rfl,rfl,z,A,m⟩:=F0 F
 obtain⟨rfl,ai⟩:=Sl.len m
 try dsimp only at a
 obtain rfl:=oJ a
 exact⟨([.int .i64 L,.int .i64 M,.slice o N.length q]),rfl,(l0 z A m),((G.trans H).trans I)⟩
set_option maxHeartbeats 0
theorem y0e(h:Hp)(U:List Value)(aa:j0)(a4:O1.R h U aa)(V:List Value)(ab:j0)(a5:O1.R h V ab)(j:Int)(bs:J0 j)(k:Int)(bt:J0 k)(r:D1)(f:j01 aa ab j k=some r):
  Tr Tryz.prog 262 #[.agg U.toArray,.agg V.toArray,.int .i64 j,.int .i64 k] h λv h'=>∃(S:Option Addr) (Z T:Nat),v = .slice S Z T/\E2.R h' [.slice S Z T] r/\Sub h h':=by
 obtain⟨B,l,ae,bH,am,C,rfl,rfl,X,aU,ac⟩:=F0 a4
 obtain⟨rfl,bD⟩:=Sl.len ac
 obtain⟨D,d,af,bI,an,E,rfl,rfl,Y,aV,ad⟩:=F0 a5
 obtain⟨rfl,bE⟩:=Sl.len ad
 unfold j01 at f
 dsimp only at f
 refine E3 (args:=[.agg #[.int .i64 B,.int .i64 l,.slice ae C.length am],.agg #[.int .i64 D,.int .i64 d,.slice af E.length an],.int .i64 j,.int .i64 k]) (fn:=Tryz.f262) rfl ?_
 obtain⟨bK,az,f⟩:=D0 f
 refine aI (O0 az) ?_
 obtain⟨O,aF,f⟩:=D0 f
 obtain⟨ah,bk,ap,ba⟩:=W4 (show F2 (Wp.int.R h) ([[.int .i64 (IntKind.i64.wrap ((IntKind.i64.wrap (j*d))+k))]]:List (List Value)) [(IntKind.i64.wrap ((IntKind.i64.wrap (j*d))+k))] from⟨⟨rfl,(I0 _)⟩,trivial⟩) aF
 refine aI ah ?_
 obtain⟨rfl,bx⟩:=ba
 refine eX _ (aI ap ?_)
 obtain⟨bV,aK,f⟩:=D0 f
 obtain⟨ak,bn,au,bd⟩:=W4 (F2.rep (p:=Wp.bool.R h) (a:=[.bool false]) (b:=false) rfl ((IntKind.i64.wrap (l*d)).toNat)) aK
 refine aI ak ?_
 obtain rfl:=bd
 refine eX _ (aI au ?_)
 refine trM f (U04 _ _ (E9 Y X)) ?_
 rintro L f bS a2 ⟨bj,bJ,bq,rfl,N,F⟩
 obtain⟨rfl,bF⟩:=Sl.len N
 obtain⟨Q,aP,f⟩:=D0 f
 refine eX { vars:=[12],boxes:=[],owns:=[0,1],fuel:=true,kept:=[0] } (eX (λvs os h'=>∃ u8 K G H w,vs.tail = [.int .i64 u8]/\os = [K,H]/\Sub a2 h'/\J0 u8/\F2 (Wp.bool.R h') K G/\F2 (Wp.int.R h') H w/\d9 L d B l C D E (D2 vs) u8 G w=some Q) (eX (λ_ _=>0) (aI (eX Y0 ⟨0,((List.replicate (IntKind.i64.wrap (l*d)).toNat ([.bool false]:List Value)).set O.toNat [.bool true]),((List.replicate (IntKind.i64.wrap (l*d)).toNat (false:Bool)).set O.toNat true),([[.int .i64 (IntKind.i64.wrap ((IntKind.i64.wrap (j*d))+k))]]:List (List Value)),([(IntKind.i64.wrap ((IntKind.i64.wrap (j*d))+k))]),rfl,rfl,(Sub.refl _),(by decide),(F2.up (r:=Wp.bool.toRp) F (F2.set (p:=Wp.bool.R h) (a:=[.bool true]) (b:=true) rfl O.toNat (F2.rep (p:=Wp.bool.R h) (a:=[.bool false]) (b:=false) rfl ((IntKind.i64.wrap (l*d)).toNat)))),(F2.up (r:=Wp.int.toRp) F (show F2 (Wp.int.R h) ([[.int .i64 (IntKind.i64.wrap ((IntKind.i64.wrap (j*d))+k))]]:List (List Value)) [(IntKind.i64.wrap ((IntKind.i64.wrap (j*d))+k))] from⟨⟨rfl,(I0 _)⟩,trivial⟩)),aP⟩) ?_)))
 rintro _ K H J a1 ⟨u8,b2,G,bZ,w,⟨⟩,⟨⟩,u,bv,ax,M,e⟩
 replace e:d9 L d B l C D E J u8 G w=some Q:=e
 obtain _|J:=J
 ·cases e
 rw[d9.eq_2]at e
 obtain⟨a3,ay,e⟩:=D0 e
 obtain rfl:H.length=a3:=(F2.length M).trans (oJ ay)
 obtain⟨bL,br,e⟩:=D0 e
 refine ifB e (λaQ e=>?_) λaQ e=>?_
 ·obtain⟨P,aO,e⟩:=D0 e
  refine eX { vars:=[13],boxes:=[],owns:=[0,1],fuel:=true,kept:=[0] } (eX (λvs os h'=>∃ o x s y t,vs.tail = [.int .i64 o]/\os = [x,y]/\Sub a1 h'/\J0 o/\F2 (Wp.bool.R h') x s/\F2 (Wp.int.R h') y t/\J6 L u8 d B l C D E (D2 vs) o s t=some P) (eX (λ_ _=>0) (aI (eX Y0 ⟨0,K,G,H,w,rfl,rfl,(Sub.refl _),(by decide),ax,M,aO⟩) ?_)))
  rintro _ x y A I ⟨o,b0,s,b1,t,⟨⟩,⟨⟩,n,bu,z,m,c⟩
  replace c:J6 L u8 d B l C D E A o s t=some P:=c
  obtain _|A:=A
  ·cases c
  rw[J6.eq_2]at c
  refine ifB c (λaR c=>?_) λaR c=>?_
  ·refine Or.inl (aI (aI (by kernel_rfl) (by kernel_rfl)) ?_)
   obtain⟨bi,aG,c⟩:=D0 c
   obtain⟨ai,bl,aq,bb⟩:=W4 m aG
   refine aI ai ?_
   obtain⟨rfl,bz⟩:=bb
   refine eX _ (aI aq ?_)
   obtain⟨bM,aA,c⟩:=D0 c
   have aZ:=O0 aA
   refine aI aZ ?_
   refine ldI c (E2.mono (u.trans n) N) λbT aW c=>?_
   obtain⟨g,aH,c⟩:=D0 c
   refine eX (.int .i64 g) (aI (L6 _ _ _ (l0 X aU (U0.mono ((F.trans u).trans n) ac)) (IntKind.i64.wrap (Int.tdiv bi d)) (I0 _) _ aW _  aH) ?_)
   obtain⟨bN,aB,c⟩:=D0 c
   have bA:J0 g:=O0 aB
   refine Or.inl (aI (aI (by kernel_rfl) (by kernel_rfl)) ?_)
   obtain⟨bU,aJ,c⟩:=D0 c
   obtain⟨aj,bm,ar,bc⟩:=W4 m aJ
   refine aI aj ?_
   obtain⟨rfl,aX⟩:=bc
   refine eX _ (aI ar ?_)
   obtain⟨bO,aC,c⟩:=D0 c
   have a0:=O0 aC
   refine aI a0 ?_
   refine ldI c (E2.mono (u.trans n) N) λbW aY c=>?_
   obtain⟨i,aL,c⟩:=D0 c
   refine eX (.int .i64 i) (aI (L6 _ _ _ (l0 Y aV (U0.mono ((F.trans u).trans n) ad)) _ (P0m aX) _ aY _  aL) ?_)
   obtain⟨bP,aD,c⟩:=D0 c
   have bB:J0 i:=O0 aD
   obtain⟨bX,aM,c⟩:=D0 c
   obtain⟨bo,W,be⟩:=l05 z aM (l0r I)
   refine aI (λq=>(W q).1) ?_
   obtain rfl:=be
   refine eX _ (aI (λq=>(W q).2) ?_)
   refine ifB c (λaS c=>?_) λaS c=>?_
   ·obtain⟨bY,aN,c⟩:=D0 c
    obtain⟨al,bp,av,bf⟩:=W4 z aN
    refine aI al ?_
    obtain rfl:=bf
    refine eX _ (aI av ?_)
    obtain⟨bQ,aE,c⟩:=D0 c
    refine aI (N2 aE (by first|rw[F2.length m,F2.length (show F2 (Wp.int.R I) ([[.int .i64 (IntKind.i64.wrap ((IntKind.i64.wrap (g*d))+i))]]:List (List Value)) [(IntKind.i64.wrap ((IntKind.i64.wrap (g*d))+i))] from⟨⟨rfl,(I0 _)⟩,trivial⟩)]|exact congrArg (·+1) (F2.length m))) ?_
    exact U2 A ⟨(IntKind.i64.wrap (o+1)),(x.set (IntKind.i64.wrap ((IntKind.i64.wrap (g*d))+i)).toNat [.bool true]),(s.set (IntKind.i64.wrap ((IntKind.i64.wrap (g*d))+i)).toNat true),(y++([[.int .i64 (IntKind.i64.wrap ((IntKind.i64.wrap (g*d))+i))]]:List (List Value))),(t ++ [(IntKind.i64.wrap ((IntKind.i64.wrap (g*d))+i))]),rfl,rfl,n,(I0 _),(F2.set (p:=Wp.bool.R I) (a:=[.bool true]) (b:=true) rfl (IntKind.i64.wrap ((IntKind.i64.wrap (g*d))+i)).toNat z),(F2.append m (show F2 (Wp.int.R I) ([[.int .i64 (IntKind.i64.wrap ((IntKind.i64.wrap (g*d))+i))]]:List (List Value)) [(IntKind.i64.wrap ((IntKind.i64.wrap (g*d))+i))] from⟨⟨rfl,(I0 _)⟩,trivial⟩)),c⟩
   ·exact U2 A ⟨(IntKind.i64.wrap (o+1)),x,s,y,t,rfl,rfl,n,(I0 _),z,m,c⟩
  ·obtain rfl:=oJ c
   try dsimp only[Z0,I1]at e
   exact U2 J ⟨(IntKind.i64.wrap (u8+1)),x,s,y,t,rfl,rfl,(u.trans n),(I0 _),z,m,e⟩
 ·obtain rfl:=oJ e
  try dsimp only[Z0,I1]at f
  intro bR bC aw
  obtain⟨ag,ao,rfl,bg,bh,bG⟩:=J1.out (r:=Wp.int.toRp) aw M
  obtain rfl:=oJ f
  exact⟨ag,w.length,ao,rfl,bg,((F.trans u).trans bh)⟩
theorem z0e(h:Hp)(A:List Value)(F:j0)(ah:O1.R h A F)(B:List Value)(G:j0)(ai:O1.R h B G)(u:Option Addr)(E w:Nat)(d:D1)(x:E2.R h [.slice u E w] d)(r:Int)(g:C02 F G d=some r):
  Tr Tryz.prog 263 #[.agg A.toArray,.agg B.toArray,.slice u E w] h λv h'=>v = .int .i64 r/\h'=h:=by
 obtain⟨m,n,K,av,M,o,rfl,rfl,Z,aa,H⟩:=F0 ah
 obtain⟨rfl,aq⟩:=Sl.len H
 obtain⟨p,i,L,aw,N,s,rfl,rfl,ab,ac,I⟩:=F0 ai
 obtain⟨rfl,ar⟩:=Sl.len I
 obtain⟨rfl,au⟩:=Sl.len x
 unfold C02 at g
 dsimp only at g
 refine Tr.forget (E3 (args:=[.agg #[.int .i64 m,.int .i64 n,.slice K o.length M],.agg #[.int .i64 p,.int .i64 i,.slice L s.length N],.slice u d.length w]) (fn:=Tryz.f263) rfl ?_)
 obtain⟨y,U,g⟩:=D0 g
 refine eX { vars:=[7,8],boxes:=[],owns:=[],fuel:=true } (eX (λvs os h'=>∃ k c,vs.tail = [.int .i64 k,.int .i64 c]/\os = []/\Sub h h'/\J0 k/\J0 c/\U7 d p m i n o s (D2 vs) k c=some y) (eX (λ_ _=>0) (aI (eX Y0 ⟨0,0,rfl,rfl,(Sub.refl _),(by decide),(by decide),U⟩) ?_)))
 rintro _ _ t ag ⟨k,c,⟨⟩,⟨⟩,j,ad,al,b⟩
 replace b:U7 d p m i n o s t k c=some y:=b
 obtain _|t:=t
 ·cases b
 rw[U7.eq_2]at b
 refine ifB b (λY b=>?_) λY b=>?_
 ·obtain⟨z,V,b⟩:=D0 b
  refine eX { vars:=[7,9],boxes:=[],owns:=[],fuel:=true } (eX (λvs os h'=>∃ u8 f,vs.tail = [.int .i64 u8,.int .i64 f]/\os = []/\Sub ag h'/\J0 u8/\J0 f/\K6 p m d c i n o s (D2 vs) u8 f=some z) (eX (λ_ _=>0) (aI (eX Y0 ⟨k,1,rfl,rfl,(Sub.refl _),ad,(by decide),V⟩) ?_)))
  rintro _ _ l ap ⟨u8,f,⟨⟩,⟨⟩,e,C,D,a⟩
  replace a:K6 p m d c i n o s l u8 f=some z:=a
  obtain _|l:=l
  ·cases a
  rw[K6.eq_2]at a
  refine ifB a (λW a=>?_) λW a=>?_
  ·refine Or.inl (aI (aI (by kernel_rfl) (by kernel_rfl)) ?_)
   refine ldI a (E2.mono (j.trans e) x) λaj am a=>?_
   obtain⟨ax,O,a⟩:=D0 a
   have af:=O0 O
   refine aI af ?_
   obtain⟨J,T,a⟩:=D0 a
   refine eX (.int .i64 J) (aI (L6 _ _ _ (l0 Z aa (U0.mono (j.trans e) H)) (IntKind.i64.wrap (Int.tdiv aj i)) (I0 _) _ D _  T) ?_)
   obtain⟨ay,P,a⟩:=D0 a
   have an:J0 J:=O0 P
   refine ldG a (E2.mono (j.trans e) x) λaB ae a=>?_
   obtain⟨az,Q,a⟩:=D0 a
   refine aI (λq=>O0 (c5 Q q)) ?_
   refine trG a (λq=>L6 _ _ _ (l0 ab ac (U0.mono (j.trans e) I)) _ (P0m ae) _ D) λak a=>?_
   obtain⟨aA,S,a⟩:=D0 a
   have ao:J0 ak:=O0 S
   refine ifB a (λX a=>?_) λX a=>?_
   ·exact U2 l ⟨(IntKind.i64.wrap (u8+1)),(IntKind.i64.wrap (f+1)),rfl,rfl,e,(I0 _),(I0 _),a⟩
   ·exact U2 l ⟨u8,(IntKind.i64.wrap (f+1)),rfl,rfl,e,C,(I0 _),a⟩
  ·obtain rfl:=oJ a
   try dsimp only[Z0,I1]at b
   exact U2 t ⟨u8,(IntKind.i64.wrap (c+1)),rfl,rfl,(j.trans e),C,(I0 _),b⟩
 ·obtain rfl:=oJ b
  try dsimp only[Z0,I1]at g
  obtain rfl:=oJ g
  exact aI rfl j
theorem v0c(h:Hp)(ao:List Value)(ay:j0)(bf:O1.R h ao ay)(ap:List Value)(az:j0)(bg:O1.R h ap az)(V:Int)(aq:J0 V)(W:Int)(ar:J0 W)(r:j0×Bool)(a:w01 ay az V W=some r):
  Tr Tryz.prog 213 #[.agg ao.toArray,.agg ap.toArray,.int .i64 V,.int .i64 W] h λv h'=>∃(an:List Value),v = .tuple #[.agg an.toArray,.bool r.2]/\O1.R h' an r.1/\Sub h h':=by
 obtain⟨y,z,aD,bz,aG,J,rfl,rfl,H,P,M⟩:=F0 bf
 obtain⟨rfl,br⟩:=Sl.len M
 obtain⟨K,f,aE,bA,aH,L,rfl,rfl,Q,S,N⟩:=F0 bg
 obtain⟨rfl,bs⟩:=Sl.len N
 unfold w01 at a
 dsimp only at a
 refine E3 (args:=[.agg #[.int .i64 y,.int .i64 z,.slice aD J.length aG],.agg #[.int .i64 K,.int .i64 f,.slice aE L.length aH],.int .i64 V,.int .i64 W]) (fn:=Tryz.f213) rfl ?_
 refine trV a (Q03 _ _ _ (l0 H P M)) λbK a=>?_
 refine trG a (λq=>Q03 _ _ _ (l0 Q S N)) λbL a=>?_
 refine trG a (λq=>K5 _ _ aq 0 (by decide) (IntKind.i64.wrap (z-1)) (I0 _)) λbM a=>?_
 refine trG a (λq=>K5 _ _ ar 0 (by decide) (IntKind.i64.wrap (f-1)) (I0 _)) λbO a=>?_
 refine ifB a (λa0 a=>?_) λa0 a=>?_
 ·obtain rfl:=oJ a
  exact⟨([.int .i64 0,.int .i64 0,.slice none 0 0]),rfl,(l0 (by decide) (by decide) (c08 P1 h)),(Sub.refl _)⟩
 ·refine trM a (y0e _ _ _ (l0 H P M) _ _ (l0 Q S N) _ aq _ ar) ?_
  rintro x a bJ ae ⟨bk,bC,bl,rfl,O,A⟩
  obtain⟨rfl,be⟩:=Sl.len O
  refine trV a (z0e _ _ _ (l0 H P (U0.mono A M)) _ _ (l0 Q S (U0.mono A N)) _ _ _ _ O) λbj a=>?_
  obtain⟨bD,aK,a⟩:=D0 a
  have bq:J0 bj:=O0 aK
  refine ifB a (λaV a=>?_) λaV a=>?_
  ·obtain rfl:=oJ a
   exact⟨([.int .i64 0,.int .i64 0,.slice none 0 0]),rfl,(l0 (by decide) (by decide) (c08 P1 ae)),A⟩
  ·obtain⟨ak,aR,a⟩:=D0 a
   refine eX { vars:=[13],boxes:=[3],owns:=[],fuel:=true } (eX (λvs os h'=>∃ e o p B af E s,vs.tail = [.int .i64 e,.int .i64 o,.int .i64 p,.slice B af E]/\os = []/\Sub ae h'/\J0 e/\J0 o/\J0 p/\U0.R h' [.slice B af E] s/\O5 x y f z J K L (D2 vs) e o p s=some ak) (eX (λ_ _=>0) (aI (eX Y0 ⟨0,y,((x.length:Nat):Int),none,0,0,[],rfl,rfl,(Sub.refl _),(by decide),H,(H0b be),(c08 P1 ae),aR⟩) ?_)))
   rintro _ _ _ _ T ba ⟨e,o,p,B,af,E,s,⟨⟩,⟨⟩,m,a1,au,av,ai,d⟩
   replace d:O5 x y f z J K L T e o p s=some ak:=d
   obtain _|T:=T
   ·cases d
   rw[O5.eq_2]at d
   obtain⟨rfl,bt⟩:=Sl.len ai
   refine ifB d (λaW d=>?_) λaW d=>?_
   ·obtain⟨al,aS,d⟩:=D0 d
    refine eX { vars:=[14],boxes:=[3],owns:=[],fuel:=true } (eX (λvs os h'=>∃ g t u C ag F i,vs.tail = [.int .i64 g,.int .i64 t,.int .i64 u,.slice C ag F]/\os = []/\Sub ba h'/\J0 g/\J0 t/\J0 u/\U0.R h' [.slice C ag F] i/\F6 y x e f z J K L (D2 vs) g t u i=some al) (eX (λ_ _=>0) (aI (eX Y0 ⟨1,o,p,B,s.length,E,s,rfl,rfl,(Sub.refl _),(by decide),au,av,ai,aS⟩) ?_)))
    rintro _ _ _ _ U bb ⟨g,t,u,C,ag,F,i,⟨⟩,⟨⟩,n,ab,aw,ax,aj,b⟩
    replace b:F6 y x e f z J K L U g t u i=some al:=b
    obtain _|U:=U
    ·cases b
    rw[F6.eq_2]at b
    obtain⟨rfl,bu⟩:=Sl.len aj
    refine ifB b (λaX b=>?_) λaX b=>?_
    ·refine Or.inl (aI (aI (by kernel_rfl) (by kernel_rfl)) ?_)
     refine ldI b (E2.mono (m.trans n) O) λbi bm b=>?_
     obtain⟨bE,aL,b⟩:=D0 b
     have a4:=O0 aL
     refine aI a4 ?_
     obtain⟨Z,aP,b⟩:=D0 b
     refine eX (.int .i64 Z) (aI (L6 _ _ _ (l0 H P (U0.mono ((A.trans m).trans n) M)) (IntKind.i64.wrap (Int.tdiv bi f)) (I0 _) _ ab _  aP) ?_)
     obtain⟨bF,aM,b⟩:=D0 b
     have bn:J0 Z:=O0 aM
     refine Or.inl (aI (aI (by kernel_rfl) (by kernel_rfl)) ?_)
     refine ldI b (E2.mono (m.trans n) O) λbN a3 b=>?_
     obtain⟨bG,aN,b⟩:=D0 b
     have a5:=O0 aN
     refine aI a5 ?_
     obtain⟨aa,aQ,b⟩:=D0 b
     refine eX (.int .i64 aa) (aI (L6 _ _ _ (l0 Q S (U0.mono ((A.trans m).trans n) N)) _ (P0m a3) _ ab _  aQ) ?_)
     obtain⟨bH,aO,b⟩:=D0 b
     have bo:J0 aa:=O0 aO
     obtain⟨am,aU,b⟩:=D0 b
     refine eX { vars:=[17],boxes:=[3],owns:=[],fuel:=true } (eX (λvs os h'=>∃ w j k D ah G l,vs.tail = [.int .i64 w,.int .i64 j,.int .i64 k,.slice D ah G]/\os = []/\Sub bb h'/\J0 w/\J0 j/\J0 k/\U0.R h' [.slice D ah G] l/\U4 x Z aa f e g (D2 vs) w j k l=some am) (eX (λ_ _=>0) (aI (eX Y0 ⟨0,t,u,C,i.length,F,i,rfl,rfl,(Sub.refl _),(by decide),aw,ax,aj,aU⟩) ?_)))
     rintro _ _ _ _ I bc ⟨w,j,k,D,ah,G,l,⟨⟩,⟨⟩,Y,a2,ac,ad,X,c⟩
     replace c:U4 x Z aa f e g I w j k l=some am:=c
     obtain _|I:=I
     ·cases c
     rw[U4.eq_2]at c
     obtain⟨rfl,bv⟩:=Sl.len X
     refine ifB c (λaY c=>?_) λaY c=>?_
     ·refine Or.inl (aI (aI (by kernel_rfl) (by kernel_rfl)) ?_)
      refine ldI c (E2.mono ((m.trans n).trans Y) O) λbP bp c=>?_
      refine ifB c (λaZ c=>?_) λaZ c=>?_
      ·refine trM c (n8 _ _ _ _ _ X _ _ (K1 a1 ab a2)) ?_
       rintro aC c bI bd ⟨aF,bB,aJ,rfl,aB⟩
       have bh:Sub bc bd:=aB.sub
       have aA:=aB.r
       obtain⟨rfl,bx⟩:=Sl.len aA
       exact U2 I ⟨(IntKind.i64.wrap (w+1)),j,k,aF,aC.length,aJ,aC,rfl,rfl,(Y.trans bh),(I0 _),ac,ad,aA,c⟩
      ·exact U2 I ⟨(IntKind.i64.wrap (w+1)),j,k,D,l.length,G,l,rfl,rfl,Y,(I0 _),ac,ad,X,c⟩
     ·obtain rfl:=oJ c
      try dsimp only[Z0,I1]at b
      exact U2 U ⟨(IntKind.i64.wrap (g+1)),j,k,D,l.length,G,l,rfl,rfl,(n.trans Y),(I0 _),ac,ad,X,b⟩
    ·obtain rfl:=oJ b
     try dsimp only[Z0,I1]at d
     exact U2 T ⟨(IntKind.i64.wrap (e+1)),t,u,C,i.length,F,i,rfl,rfl,(m.trans n),(I0 _),aw,ax,aj,d⟩
   ·obtain rfl:=oJ d
    try dsimp only[Z0,I1]at a
    obtain rfl:=oJ a
    exact⟨([.int .i64 o,.int .i64 p,.slice B s.length E]),rfl,(l0 au av ai),(A.trans m)⟩
theorem Q06(h:Hp)(b:Int)(q:J0 b)(c:Option Addr)(g d:Nat)(e:M6)(i:C00.R h [.slice c g d] e)(r:j0×Bool)(a:s00 b e=some r):
  Tr Tryz.prog 84 #[.int .i64 b,.slice c g d] h λv h'=>∃(f:List Value),v = .tuple #[.agg f.toArray,.bool r.2]/\O1.R h' f r.1/\Sub h h':=by
 obtain⟨rfl,J⟩:=Sl.len i
 unfold s00 at a
 refine E3 (args:=[.int .i64 b,.slice c e.length d]) (fn:=Tryz.f84) rfl ?_
 refine trM a (w0e _ _ q _ _ _ _ i) ?_
 rintro A a O x ⟨F,rfl,j,m⟩
 obtain⟨Q,V⟩:=A
 dsimp only at a j
 obtain⟨S,T,E,M,H,U,rfl,rfl,s,t,k⟩:=F0 j
 obtain⟨rfl,K⟩:=Sl.len k
 try dsimp only at a
 refine ifB a (λp a=>?_) λp a=>?_
 ·obtain rfl:=oJ a
  exact⟨([.int .i64 0,.int .i64 0,.slice none 0 0]),rfl,(l0 (by decide) (by decide) (c08 P1 x)),m⟩
 ·refine trM a (V04 _ _ _ (l0 s t k)) ?_
  rintro W a P I ⟨G,rfl,y,z⟩
  obtain⟨B,C,n,N,o,D,rfl,rfl,u,w,l⟩:=F0 y
  obtain⟨rfl,L⟩:=Sl.len l
  try dsimp only at a
  obtain rfl:=oJ a
  exact⟨([.int .i64 B,.int .i64 C,.slice n D.length o]),rfl,(l0 u w l),(m.trans z)⟩
theorem z04(h:Hp)(d:Option Addr)(l e:Nat)(c:List Int)(m:Sl Rp.u8 h (.slice d l e) c)(r:Int×Int)(f:D00 c=some r):
  Tr Tryz.prog 92 #[.slice d l e] h λv h'=>∃ k ty,v=ptr k 0/\h'=h.set k (O02 (.slice d l e) r ty)/\i8 h k (.slice d l e) c r:=by
 obtain⟨rfl,A⟩:=Sl.len m
 unfold D00 at f
 refine E3 (args:=[.slice d c.length e]) (fn:=Tryz.f92) rfl ?_
 obtain⟨n,s,f⟩:=D0 f
 refine eX { vars:=[3,4],boxes:=[],owns:=[],fuel:=true } (eX (λvs os h'=>∃ g i,vs.tail = [.int .i64 g,.int .i64 i]/\os = []/\h'=h/\J0 g/\J0 i/\i00 c (D2 vs) g i=some n) (eX (λ_ _=>0) (aI (eX Y0 ⟨_,_,rfl,rfl,rfl,(I0 _),(by decide),s⟩) ?_)))
 rintro _ _ j z ⟨g,i,⟨⟩,⟨⟩,rfl,w,y,a⟩
 replace a:i00 c j g i=some n:=a
 obtain _|j:=j
 ·cases a
 rw[i00.eq_2]at a
 refine ifB a (λu a=>?_) λu a=>?_
 ·obtain⟨x,q,a⟩:=D0 a
  obtain⟨o,cs,p,rfl⟩:=Sl.getI (r:=Rp.u8) m q (by decide)
  refine aI o (eX _ (aI p ?_))
  exact U2 j ⟨_,_,rfl,rfl,rfl,(I0 _),(I0 _),a⟩
 ·obtain rfl:=oJ a
  try dsimp only[Z0,I1]at f
  obtain rfl:=oJ f
  intro b t
  exact⟨b,_,rfl,rfl,t,m,⟨iR _,Int.natCast_nonneg _⟩,w⟩
theorem S0u{P:Program}{a:Type}{m:Sem a}{h h':Hp}{K:a->Hp->Prop}(e:h=h')(w:wpS P m h' K):wpS P m h K:=e▸w
theorem s0v{h:Hp}{k:Nat}{b:Value}{q:Int×Int}{ty:TypeId}:(h.set k (O02 b q ty)).cell k 0=some b:=by unfold Hp.cell;rw[Hp.set_same];rfl
theorem Z0j{h:Hp}{k:Nat}{b:Value}{q:Int×Int}{ty:TypeId}:(h.set k (O02 b q ty)).cell k 1=some (.int .i64 q.1):=by unfold Hp.cell;rw[Hp.set_same];rfl
theorem T0u{h:Hp}{k:Nat}{b:Value}{q:Int×Int}{ty:TypeId}:(h.set k (O02 b q ty)).cell k 2=some (.int .i64 q.2):=by unfold Hp.cell;rw[Hp.set_same];rfl
theorem F0v{h:Hp}{k:Nat}(x y:Obj):(h.set k x).set k y=h.set k y:=by
 funext b
 unfold Hp.set
 by_cases c:b=k
 ·rw[if_pos c,if_pos c]
 ·rw[if_neg c,if_neg c,if_neg c]
theorem Sub.setS{h a:Hp}{k:Nat}{o d:Obj}(s:Sub (h.set k o) a):Sub (h.set k d) (a.set k d):=λb x e=>by
 by_cases c:b=k
 ·subst c;rw[Hp.set_same]at e ⊢;exact e
 ·rw[Hp.set_other _ _ c]at e ⊢
  exact s b x (by rw[Hp.set_other _ _ c];exact e)
theorem J03(h:Hp)(b:Nat)(j:Value)(n:TypeId)(e:List Int)(a:Int×Int)(d:i8 h b j e a)(r:Int×(Int×Int))(f:Z9 e a=some r):
  Tr Tryz.prog 188 #[ptr b 0] (h.set b (O02 j a n)) λv h'=>v = .int .i64 r.1/\i8 h b j e r.2/\h'=h.set b (O02 j r.2 n):=by
 unfold Z9 at f
 obtain⟨i,G,l,H,x,D⟩:=d.rd
 cases x
 obtain⟨rfl,F⟩:=Sl.len d.rd
 refine Tr.forgetC (E3 (args:=[ptr b 0]) (fn:=Tryz.f188) rfl ?_)
 refine eX _ (aI (aI rfl T0u) ?_)
 refine eX _ (eX _ (eX _ (aI (aI (Hp.set_same _ _ _) (aI rfl (aI (show(2:Nat)<3 from by decide) (aI rfl (by first|trivial|decide|simp[L03]))))) ?_)))
 refine S0u (h':=h.set b (O02 (.slice i e.length l) (a.1,nxt a.2) n)) (F0v _ _) ?_
 refine Or.inr (Or.inr (Or.inr (Or.inl (aI (aI (by kernel_rfl) (by kernel_rfl)) ?_))))
 refine Or.inl (eX (.val (ptr b 0)) (aI (λk s=>aI rfl (aI rfl rfl)) ?_))
 refine Or.inl (eX (.val (ptr b 2)) (aI (λk s=>aI rfl (aI rfl rfl)) ?_))
 refine Or.inl (eX (.val (.int .i64 (nxt a.2))) (aI (λk s=>eX _ (aI (aI rfl (s.cell T0u)) (aI rfl (aI rfl rfl)))) ?_))
 refine Or.inl (eX (.val (.int .i64 ((nxt a.2).fdiv (2 ^ min (33:Int).toNat 64)))) (aI (λk s=>aI rfl (aI rfl rfl)) ?_))
 refine Or.inl (eX (.val (ptr b 0)) (aI (λk s=>aI rfl (aI rfl rfl)) ?_))
 refine Or.inl (eX (.val (ptr b 2)) (aI (λk s=>aI rfl (aI rfl rfl)) ?_))
 refine Or.inl (eX (.val (.int .i64 (nxt a.2))) (aI (λk s=>eX _ (aI (aI rfl (s.cell T0u)) (aI rfl (aI rfl rfl)))) ?_))
 refine Or.inl (eX (.val (.int .i64 ((nxt a.2).fdiv (2 ^ min (45:Int).toNat 64)))) (aI (λk s=>aI rfl (aI rfl rfl)) ?_))
 refine Or.inl (eX (.val (.int .i64 (j0v ((nxt a.2).fdiv (2 ^ min (33:Int).toNat 64)) ((nxt a.2).fdiv (2 ^ min (45:Int).toNat 64))))) (aI (λk s=>aI rfl (aI rfl rfl)) ?_))
 refine Or.inl (eX (.val (.int .i64 (drw (nxt a.2)))) (aI (λk s=>aI rfl (aI rfl rfl)) ?_))
 intro A s1
 refine Or.inr (Or.inr (Or.inr (Or.inl (aI (aI (by kernel_rfl) (by kernel_rfl)) ?_))))
 refine Or.inl (eX (.val (ptr b 0)) (aI (λk s=>aI rfl (aI rfl rfl)) ?_))
 refine Or.inl (eX (.val (ptr b 1)) (aI (λk s=>aI rfl (aI rfl rfl)) ?_))
 refine Or.inl (eX (.val (.int .i64 a.1)) (aI (λk s=>eX _ (aI (aI rfl (s.cell (s1.cell Z0j))) (aI rfl (aI rfl rfl)))) ?_))
 refine Or.inl (eX (.val (ptr b 0)) (aI (λk s=>aI rfl (aI rfl rfl)) ?_))
 refine Or.inl (eX (.val (ptr b 0)) (aI (λk s=>aI rfl (aI rfl rfl)) ?_))
 refine Or.inl (eX (.val (.slice i e.length l)) (aI (λk s=>eX _ (aI (aI rfl (s.cell (s1.cell s0v))) (aI rfl (aI rfl rfl)))) ?_))
 refine Or.inl (eX (.val (.int .i64 ((e.length:Nat):Int))) (aI (λk s=>aI rfl (aI rfl rfl)) ?_))
 refine Or.inl (eX (.val (.bool (decide (a.1<((e.length:Nat):Int))))) (aI (λk s=>aI rfl (aI rfl rfl)) ?_))
 intro B s2
 have g:=s1.trans s2
 refine ifB f (λu f=>?_) λu f=>?_
 ·obtain⟨c,o,f⟩:=D0 f
  obtain rfl:=oJ f
  obtain⟨p,cs,q,rfl⟩:=Sl.getI (r:=Rp.u8) d.rd o (by decide)
  have t:=q.up ((Sub.set d.no).trans g)
  refine Or.inr (Or.inr (Or.inr (Or.inr (eX 14 (aI (aI (by kernel_rfl) (by kernel_rfl)) ?_)))))
  refine Or.inl (eX (.val (ptr b 0)) (aI (λk s=>aI rfl (aI rfl rfl)) ?_))
  refine Or.inl (eX (.val (ptr b 0)) (aI (λk s=>aI rfl (aI rfl rfl)) ?_))
  refine Or.inl (eX (.val (.slice i e.length l)) (aI (λk s=>eX _ (aI (aI rfl (s.cell (g.cell s0v))) (aI rfl (aI rfl rfl)))) ?_))
  refine Or.inl (eX (.val (ptr b 0)) (aI (λk s=>aI rfl (aI rfl rfl)) ?_))
  refine Or.inl (eX (.val (ptr b 1)) (aI (λk s=>aI rfl (aI rfl rfl)) ?_))
  refine Or.inl (eX (.val (.int .i64 a.1)) (aI (λk s=>eX _ (aI (aI rfl (s.cell (g.cell Z0j))) (aI rfl (aI rfl rfl)))) ?_))
  refine Or.inl (eX (.hel (.slice i e.length l) a.1 1 0) (aI (λk s=>aI p (aI rfl (aI rfl rfl))) ?_))
  refine Or.inl (eX (.val (.int .u8 c)) (aI (λk s=>eX _ (aI (t.up s) (aI rfl (aI rfl rfl)))) ?_))
  refine Or.inl (eX (.val (.int .i64 (IntKind.i64.wrap c))) (aI (λk s=>aI rfl (aI rfl rfl)) ?_))
  refine Or.inl (eX (.val (.int .i64 (IntKind.i64.wrap (drw (nxt a.2)+IntKind.i64.wrap c)))) (aI (λk s=>aI rfl (aI rfl rfl)) ?_))
  refine Or.inl (eX (.val (.int .i64 (T0m (IntKind.i64.wrap (drw (nxt a.2)+IntKind.i64.wrap c)) 255))) (aI (λk s=>aI rfl (aI rfl rfl)) ?_))
  intro C z
  have m:=g.trans z
  refine eX _ (aI (aI rfl (m.cell Z0j)) ?_)
  refine eX _ (eX _ (eX _ (aI (aI (m _ _ (Hp.set_same _ _ _)) (aI rfl (aI (show(1:Nat)<3 from by decide) (aI rfl (by first|trivial|decide|simp[L03]))))) ?_)))
  have w:=G0b o
  have E:=(List.getElem?_eq_some_iff.1 w.2).1
  have y:IntKind.i64.wrap (a.1+1)=a.1+1:=w64 (by omega) (by omega)
  exact aI rfl (aI ⟨d.no,d.rd,by show 0<=IntKind.i64.wrap (a.1+1)/\IntKind.i64.wrap (a.1+1)<=_;rw[y];exact⟨by omega,by omega⟩,I0 _⟩ (Sub.setS m))
 ·obtain rfl:=oJ f
  exact aI rfl (aI ⟨d.no,d.rd,d.pl,I0 _⟩ g)
theorem M2(h:Hp)(b:Nat)(c:Value)(f:TypeId)(e:List Int)(g:Int×Int)(d:i8 h b c e g)(i:Int)(R:J0 i)(r:Int×(Int×Int))(a:K3 e g i=some r):
  Tr Tryz.prog 93 #[ptr b 0,.int .i64 i] (h.set b (O02 c g f)) λv h'=>v = .int .i64 r.1/\i8 h b c e r.2/\h'=h.set b (O02 c r.2 f):=by
 unfold K3 at a
 refine Tr.forgetC (E3 (args:=[ptr b 0,.int .i64 i]) (fn:=Tryz.f93) rfl ?_)
 refine ifB a (λC a=>?_) λC a=>?_
 ·obtain rfl:=oJ a
  exact⟨rfl,d.back d,Sub.setB d.no (Sub.refl _)⟩
 ·refine ifB a (λD a=>?_) λD a=>?_
  ·obtain⟨M,A,a⟩:=D0 a
   obtain⟨N,af⟩:=M
   try dsimp only at a
   refine Tr.mono (J03 _ b c f e g d _ A) ?_
   rintro _ _ ⟨rfl,n,rfl⟩
   obtain⟨ac,u,a⟩:=D0 a
   have V:J0 N:=O0 u
   obtain⟨ad,w,a⟩:=D0 a
   refine aI (O0 w) ?_
   obtain rfl:=oJ a
   exact⟨rfl,d.back n,Sub.setB d.no (Sub.refl _)⟩
  ·obtain⟨O,B,a⟩:=D0 a
   obtain⟨P,Q⟩:=O
   try dsimp only at a
   refine Tr.mono (J03 _ b c f e g d _ B) ?_
   rintro _ _ ⟨rfl,j,rfl⟩
   obtain⟨X,o,a⟩:=D0 a
   have W:J0 P:=O0 o
   obtain⟨E,x,a⟩:=D0 a
   obtain⟨F,G⟩:=E
   try dsimp only at a
   refine Tr.mono (J03 _ b c f e Q j _ x) ?_
   rintro _ _ ⟨rfl,k,rfl⟩
   obtain⟨Y,p,a⟩:=D0 a
   have S:J0 F:=O0 p
   obtain⟨H,y,a⟩:=D0 a
   obtain⟨I,J⟩:=H
   try dsimp only at a
   refine Tr.mono (J03 _ b c f e G k _ y) ?_
   rintro _ _ ⟨rfl,l,rfl⟩
   obtain⟨Z,q,a⟩:=D0 a
   have T:J0 I:=O0 q
   obtain⟨K,z,a⟩:=D0 a
   obtain⟨L,ae⟩:=K
   try dsimp only at a
   refine Tr.mono (J03 _ b c f e J l _ z) ?_
   rintro _ _ ⟨rfl,m,rfl⟩
   obtain⟨aa,s,a⟩:=D0 a
   have U:J0 L:=O0 s
   obtain⟨ab,t,a⟩:=D0 a
   refine aI (O0 t) ?_
   obtain rfl:=oJ a
   exact⟨rfl,d.back m,Sub.setB d.no (Sub.refl _)⟩
theorem Z06(h:Hp)(b:Nat)(c:Value)(i:TypeId)(d:List Int)(e:Int×Int)(g:i8 h b c d e)(f:Int)(m:J0 f)(r:Bool×(Int×Int))(a:G02 d e f=some r):
  Tr Tryz.prog 131 #[ptr b 0,.int .i64 f] (h.set b (O02 c e i)) λv h'=>v = .bool r.1/\i8 h b c d r.2/\h'=h.set b (O02 c r.2 i):=by
 unfold G02 at a
 refine Tr.forgetC (E3 (args:=[ptr b 0,.int .i64 f]) (fn:=Tryz.f131) rfl ?_)
 obtain⟨n,l,a⟩:=D0 a
 obtain⟨o,s⟩:=n
 try dsimp only at a
 refine Tr.mono (M2 _ b c i d e g _ m _ l) ?_
 rintro _ _ ⟨rfl,j,rfl⟩
 obtain⟨q,k,a⟩:=D0 a
 have p:J0 o:=O0 k
 obtain rfl:=oJ a
 exact⟨rfl,g.back j,Sub.setB g.no (Sub.refl _)⟩
theorem N02(h:Hp)(b:Nat)(c:Value)(k:TypeId)(d:List Int)(e:Int×Int)(g:i8 h b c d e)(f:Option Addr)(m i:Nat)(j:(List ByteArray))(n:(Wp.slice Wp.str).R h [.slice f m i] j)(r:ByteArray×(Int×Int))(a:I01 d e j=some r):
  Tr Tryz.prog 121 #[ptr b 0,.slice f m i] (h.set b (O02 c e k)) λv h'=>v = .string r.1/\i8 h b c d r.2/\h'=h.set b (O02 c r.2 k):=by
 obtain⟨rfl,u⟩:=Sl.len n
 unfold I01 at a
 refine Tr.forgetC (E3 (args:=[ptr b 0,.slice f j.length i]) (fn:=Tryz.f121) rfl ?_)
 obtain⟨x,s,a⟩:=D0 a
 obtain⟨y,D⟩:=x
 try dsimp only at a
 refine Tr.mono (M2 _ b c k d e g _ (H0b u) _ s) ?_
 rintro _ _ ⟨rfl,l,rfl⟩
 obtain⟨C,q,a⟩:=D0 a
 have A:J0 y:=O0 q
 obtain⟨E,t,a⟩:=D0 a
 obtain⟨o,z,p,w⟩:=Sl.getI (r:=Wp.str.toRp) n t (by decide)
 refine aI o ?_
 obtain⟨rfl,B⟩:=w
 refine eX _ (aI (A5.up (Sub.set l.no) p) ?_)
 obtain rfl:=oJ a
 exact⟨rfl,g.back l,Sub.setB g.no (Sub.refl _)⟩
theorem W9(h:Hp)(b:Nat)(c:Value)(k:TypeId)(d:List Int)(e:Int×Int)(g:i8 h b c d e)(f:Option Addr)(m i:Nat)(j:D1)(n:E2.R h [.slice f m i] j)(r:Int×(Int×Int))(a:D8 d e j=some r):
  Tr Tryz.prog 238 #[ptr b 0,.slice f m i] (h.set b (O02 c e k)) λv h'=>v = .int .i64 r.1/\i8 h b c d r.2/\h'=h.set b (O02 c r.2 k):=by
 obtain⟨rfl,u⟩:=Sl.len n
 unfold D8 at a
 refine Tr.forgetC (E3 (args:=[ptr b 0,.slice f j.length i]) (fn:=Tryz.f238) rfl ?_)
 obtain⟨x,s,a⟩:=D0 a
 obtain⟨y,D⟩:=x
 try dsimp only at a
 refine Tr.mono (M2 _ b c k d e g _ (H0b u) _ s) ?_
 rintro _ _ ⟨rfl,l,rfl⟩
 obtain⟨C,q,a⟩:=D0 a
 have A:J0 y:=O0 q
 obtain⟨E,t,a⟩:=D0 a
 obtain⟨o,z,p,w⟩:=Sl.getI (r:=Wp.int.toRp) n t (by decide)
 refine aI o ?_
 obtain⟨rfl,B⟩:=w
 refine eX _ (aI (A5.up (Sub.set l.no) p) ?_)
 obtain rfl:=oJ a
 exact⟨rfl,g.back l,Sub.setB g.no (Sub.refl _)⟩
theorem q0m(h:Hp)(d:Nat)(e:Value)(m:TypeId)(f:List Int)(s:Int×Int)(J:i8 h d e f s)(j:Int)(ai:J0 j)(o:Int)(au:J0 o)(r:D1×(Int×Int))(c:n05 f s j o=some r):
  Tr Tryz.prog 161 #[ptr d 0,.int .i64 j,.int .i64 o] (h.set d (O02 e s m)) λv h'=>∃(x:Option Addr) (B y:Nat) (q:Hp),v = .slice x B y/\E2.R q [.slice x B y] r.1/\Sub h q/\i8 q d e f r.2/\h'=q.set d (O02 e r.2 m):=by
 unfold n05 at c
 refine E3 (args:=[ptr d 0,.int .i64 j,.int .i64 o]) (fn:=Tryz.f161) rfl ?_
 obtain⟨am,Y,c⟩:=D0 c
 obtain⟨G,aq⟩:=am
 try dsimp only at c
 refine Tr.mono (M2 _ d e m f s J (IntKind.i64.wrap (o+1)) (I0 _) _ Y) ?_
 rintro _ _ ⟨rfl,L,rfl⟩
 obtain⟨aF,X,c⟩:=D0 c
 have aj:J0 G:=O0 X
 obtain⟨w,ac,c⟩:=D0 c
 refine eX { vars:=[8],boxes:=[],owns:=[0],fuel:=true } (eX (λvs os ah=>∃(k:Int) (p:List (List Value)) (g:List Int) (u8:Int×Int) (h':Hp),vs.tail = [.int .i64 k]/\os = [p]/\ah=h'.set d (O02 e u8 m)/\Sub h h'/\J0 k/\F2 (Wp.int.R h') p g/\i8 h' d e f u8/\T8 f j (D2 vs) k g u8=some w) (eX (λ_ _=>0) ?_))
 refine aI (eX Y0 ⟨G,[],([]:D1),aq,h,rfl,rfl,rfl,(Sub.refl _),aj,(show F2 (Wp.int.R h) ([]:List (List Value)) ([]:D1) from trivial),L,ac⟩) ?_
 rintro aJ p n _ ⟨k,aL,g,u8,l,Q,P,rfl,u,av,i,t,a⟩
 cases Q
 cases P
 replace a:T8 f j n k g u8=some w:=a
 obtain _|n:=n
 ·cases a
 rw[T8.eq_2]at a
 refine ifB a (λad a=>?_) λad a=>?_
 ·obtain⟨an,Z,a⟩:=D0 a
  obtain⟨b,ao⟩:=an
  try dsimp only at a
  refine Tr.mono (M2 _ d e m f u8 t j ai _ Z) ?_
  rintro _ _ ⟨rfl,K,rfl⟩
  obtain⟨aC,U,a⟩:=D0 a
  have aw:J0 b:=O0 U
  obtain⟨ap,aa,a⟩:=D0 a
  obtain⟨aK,F⟩:=ap
  try dsimp only at a
  refine Tr.mono (Z06 _ d e m f ao K 2 (by decide) _ aa) ?_
  rintro _ _ ⟨rfl,z,rfl⟩
  refine ifB a (λae a=>?_) λae a=>?_
  ·obtain⟨aD,V,a⟩:=D0 a
   refine aI (N2 V (by first|rw[F2.length i,F2.length (show F2 (Wp.int.R l) ([[.int .i64 (IntKind.i64.wrap (0-(IntKind.i64.wrap (1+b))))]]:List (List Value)) [(IntKind.i64.wrap (0-(IntKind.i64.wrap (1+b))))] from⟨⟨rfl,(I0 _)⟩,trivial⟩)]|exact congrArg (·+1) (F2.length i))) ?_
   exact U2 n ⟨(IntKind.i64.wrap (k-1)),(p++([[.int .i64 (IntKind.i64.wrap (0-(IntKind.i64.wrap (1+b))))]]:List (List Value))),(g ++ [(IntKind.i64.wrap (0-(IntKind.i64.wrap (1+b))))]),F,l,rfl,rfl,rfl,u,(I0 _),(F2.append i (show F2 (Wp.int.R l) ([[.int .i64 (IntKind.i64.wrap (0-(IntKind.i64.wrap (1+b))))]]:List (List Value)) [(IntKind.i64.wrap (0-(IntKind.i64.wrap (1+b))))] from⟨⟨rfl,(I0 _)⟩,trivial⟩)),z,a⟩
  ·obtain⟨aE,W,a⟩:=D0 a
   refine aI (N2 W (by first|rw[F2.length i,F2.length (show F2 (Wp.int.R l) ([[.int .i64 (IntKind.i64.wrap (1+b))]]:List (List Value)) [(IntKind.i64.wrap (1+b))] from⟨⟨rfl,(I0 _)⟩,trivial⟩)]|exact congrArg (·+1) (F2.length i))) ?_
   exact U2 n ⟨(IntKind.i64.wrap (k-1)),(p++([[.int .i64 (IntKind.i64.wrap (1+b))]]:List (List Value))),(g ++ [(IntKind.i64.wrap (1+b))]),F,l,rfl,rfl,rfl,u,(I0 _),(F2.append i (show F2 (Wp.int.R l) ([[.int .i64 (IntKind.i64.wrap (1+b))]]:List (List Value)) [(IntKind.i64.wrap (1+b))] from⟨⟨rfl,(I0 _)⟩,trivial⟩)),z,a⟩
 ·obtain rfl:=oJ a
  try dsimp only[Z0,I1]at c
  refine Or.inl ?_
  intro aG ax S
  obtain⟨ay,T,af,rfl⟩:=J1.beside t.no S
  obtain⟨I,O,rfl,al,E,aA⟩:=J1.out (r:=Wp.int.toRp) T i
  have A:=t.mono E af
  obtain⟨ar,ab,c⟩:=D0 c
  refine Tr.beside A.no (r09 _ I g.length O g al _  ab) ?_
  rintro aH ak ⟨H,aB,N,rfl,C,D⟩ ag
  have M:=A.mono D ag
  obtain⟨rfl,az⟩:=Sl.len C
  obtain rfl:=oJ c
  exact⟨H,ar.length,N,ak,rfl,C,((u.trans E).trans D),M,rfl⟩
theorem x09(h:Hp)(c:Nat)(d:Value)(k:TypeId)(e:List Int)(o:Int×Int)(G:i8 h c d e o)(f:Int)(Y:J0 f)(r:M6×(Int×Int))(b:U01 e o f=some r):
  Tr Tryz.prog 239 #[ptr c 0,.int .i64 f] (h.set c (O02 d o k)) λv h'=>∃(z:Option Addr) (B A:Nat) (m:Hp),v = .slice z B A/\C00.R m [.slice z B A] r.1/\Sub h m/\i8 m c d e r.2/\h'=m.set c (O02 d r.2 k):=by
 unfold U01 at b
 refine E3 (args:=[ptr c 0,.int .i64 f]) (fn:=Tryz.f239) rfl ?_
 obtain⟨ac,S,b⟩:=D0 b
 obtain⟨E,af⟩:=ac
 try dsimp only at b
 refine Tr.mono (M2 _ c d k e o G 4 (by decide) _ S) ?_
 rintro _ _ ⟨rfl,J,rfl⟩
 obtain⟨an,Q,b⟩:=D0 b
 have Z:J0 E:=O0 Q
 obtain⟨y,U,b⟩:=D0 b
 refine eX { vars:=[6],boxes:=[],owns:=[0],fuel:=true } (eX (λvs os X=>∃(g:Int) (q:List (List Value)) (i:List D1) (u8:Int×Int) (h':Hp),vs.tail = [.int .i64 g]/\os = [q]/\X=h'.set c (O02 d u8 k)/\Sub h h'/\J0 g/\F2 (E2.R h') q i/\i8 h' c d e u8/\E8 e f (D2 vs) g i u8=some y) (eX (λ_ _=>0) ?_))
 refine aI (eX Y0 ⟨E,[],([]:M6),af,h,rfl,rfl,rfl,(Sub.refl _),Z,(show F2 (E2.R h) ([]:List (List Value)) ([]:M6) from trivial),J,U⟩) ?_
 rintro ap q n _ ⟨g,aq,i,u8,ai,M,L,rfl,C,ag,l,t,a⟩
 cases M
 cases L
 replace a:E8 e f n g i u8=some y:=a
 obtain _|n:=n
 ·cases a
 rw[E8.eq_2]at a
 refine ifB a (λV a=>?_) λV a=>?_
 ·obtain⟨ad,T,a⟩:=D0 a
  obtain⟨j,ae⟩:=ad
  try dsimp only at a
  refine Tr.mono (q0m _ c d k e u8 t _ Y 5 (by decide) _ T) ?_
  rintro _ _ ⟨s,al,u,w,rfl,x,p,H,rfl⟩
  obtain⟨rfl,aj⟩:=Sl.len x
  obtain⟨am,P,a⟩:=D0 a
  refine aI (N2 P (by first|rw[F2.length (F2.up (r:=E2.toRp) p l),F2.length (show F2 (E2.R w) ([[.slice s j.length u]]:List (List Value)) [j] from⟨x,trivial⟩)]|exact congrArg (·+1) (F2.length (F2.up (r:=E2.toRp) p l)))) ?_
  exact U2 n ⟨(IntKind.i64.wrap (g-1)),(q++([[.slice s j.length u]]:List (List Value))),(i ++ [j]),ae,w,rfl,rfl,rfl,(C.trans p),(I0 _),(F2.append (F2.up (r:=E2.toRp) p l) (show F2 (E2.R w) ([[.slice s j.length u]]:List (List Value)) [j] from⟨x,trivial⟩)),H,a⟩
 ·obtain rfl:=oJ a
  try dsimp only[Z0,I1]at b
  intro ao ah N
  obtain⟨aa,O,W,rfl⟩:=J1.beside t.no N
  obtain⟨F,K,rfl,ab,D,ak⟩:=J1.out (r:=E2.toRp) O l
  have I:=t.mono D W
  obtain rfl:=oJ b
  exact⟨F,i.length,K,aa,rfl,ab,(C.trans D),I,rfl⟩
end Go.Proofs.YtmgikbbmpnbbjaaGreat
