/- Texts of the claim, joined: The walks of batch 1 and others. -/
import Derived.Test.YtkjhghloldgioaaGreatPart18
import Derived.Test.YtkjhghloldgioaaGreatChecked
import Derived.Test.YtkjhghloldgioaaGreatH35
import Derived.Test.YtkjhghloldgioaaGreatSI
import Derived.Test.YtkjhghloldgioaaGreatPart21
import Derived.Test.YtkjhghloldgioaaGreatPart17
import Derived.Test.YtkjhghloldgioaaGreatH36
namespace Go.Proofs.YtkjhghloldgioaaGreat
open Go.H
set_option linter.unusedVariables false
set_option linter.unusedSimpArgs false
set_option maxRecDepth 10000
theorem n7(h:Hp)(a:Int)(f:J0 a)(b:Int)(g:J0 b)(c:Int)(i:J0 c)(r:Bool)(d:Y4 a b c=some r):
  Tr Tryz.prog 76 #[.int .i64 a,.int .i64 b,.int .i64 c] h λv e=>v = .bool r/\e=h:=by
 unfold Y4 at d
 refine Tr.forget (C2 (args:=[.int .i64 a,.int .i64 b,.int .i64 c]) (fn:=Tryz.f76) rfl ?_)
 obtain rfl:=oJ d
 exact aI rfl (Sub.refl _)
theorem M02(h:Hp)(c:Int)(n:J0 c)(j:Option Addr)(o k:Nat)(f:F0)(g:T0.R h [.slice j o k] f)(r:Bool)(b:N8 c f=some r):
  Tr Tryz.prog 104 #[.int .i64 c,.slice j o k] h λv l=>v = .bool r/\l=h:=by
 obtain⟨rfl,C⟩:=Sl.len g
 unfold N8 at b
 refine Tr.forget (C2 (args:=[.int .i64 c,.slice j f.length k]) (fn:=Tryz.f104) rfl ?_)
 obtain⟨m,p,b⟩:=z0 b
 refine eX { vars:=[5],boxes:=[],owns:=[],fuel:=true } (eX (λvs os l=>∃ e,vs.tail = [.int .i64 e]/\os = []/\Sub h l/\J0 e/\G7 f c (I1 vs) e=some m) (eX (λ_ _=>0) (aI (eX P0 ⟨0,rfl,rfl,(Sub.refl _),(by decide),p⟩) ?_)))
 rintro _ i A ⟨e,⟨⟩,⟨⟩,d,w,a⟩
 replace a:G7 f c i e=some m:=a
 obtain _|i:=i
 ·cases a
 rw[G7.eq_2]at a
 refine ifB a (λt a=>?_) λt a=>?_
 ·refine Or.inl (aI (aI (by kernel_rfl) (by kernel_rfl)) ?_)
  refine ldI a (T0.mono d g) λF y a=>?_
  refine ldG a (T0.mono d g) λG u a=>?_
  refine trG a (λq=>n7 _ _ u (IntKind.i64.wrap (0-c)) (I0 _) _ n) λH a=>?_
  refine ldG a (T0.mono d g) λI z a=>?_
  refine ldG a (T0.mono d g) λD x a=>?_
  refine ifB a (λs a=>?_) λs a=>?_
  ·obtain rfl:=oJ a
   try dsimp only[C3,V3]at b
   obtain rfl:=oJ b
   exact aI rfl d
  ·exact N1 i ⟨(IntKind.i64.wrap (e+1)),rfl,rfl,d,(I0 _),a⟩
 ·obtain rfl:=oJ a
  try dsimp only[S0,U0]at b
  refine trV b (n7 _ _ n 1 (by decide) 3 (by decide)) λE b=>?_
  obtain rfl:=oJ b
  exact aI rfl d
theorem E00(h:Hp)(a:Int)(f:J0 a)(b:Int)(g:J0 b)(c:Int)(i:J0 c)(r:Bool)(d:W7 a b c=some r):
  Tr Tryz.prog 78 #[.int .i64 a,.int .i64 b,.int .i64 c] h λv e=>v = .bool r/\e=h:=by
 unfold W7 at d
 refine Tr.forget (C2 (args:=[.int .i64 a,.int .i64 b,.int .i64 c]) (fn:=Tryz.f78) rfl ?_)
 obtain rfl:=oJ d
 exact aI rfl (Sub.refl _)
theorem C0b(h:Hp)(a:Int)(e:J0 a)(c:Int)(f:J0 c)(r:Bool)(b:x00 a c=some r):
  Tr Tryz.prog 197 #[.int .i64 a,.int .i64 c] h λv d=>v = .bool r/\d=h:=by
 unfold x00 at b
 refine Tr.forget (C2 (args:=[.int .i64 a,.int .i64 c]) (fn:=Tryz.f197) rfl ?_)
 refine trG b (λq=>E00 _ _ f (IntKind.i64.wrap (0-a)) (I0 _) _ e) λg b=>?_
 obtain rfl:=oJ b
 exact aI rfl (Sub.refl _)
theorem v02(h:Hp)(a:Int)(e:J0 a)(b:Int)(f:J0 b)(r:Bool)(c:z7 a b=some r):
  Tr Tryz.prog 198 #[.int .i64 a,.int .i64 b] h λv d=>v = .bool r/\d=h:=by
 unfold z7 at c
 refine Tr.forget (C2 (args:=[.int .i64 a,.int .i64 b]) (fn:=Tryz.f198) rfl ?_)
 obtain rfl:=oJ c
 exact aI rfl (Sub.refl _)
theorem N02(h:Hp)(c:Int)(n:J0 c)(i:Option Addr)(p j:Nat)(e:F0)(l:T0.R h [.slice i p j] e)(r:Bool)(b:O8 c e=some r):
  Tr Tryz.prog 91 #[.int .i64 c,.slice i p j] h λv k=>v = .bool r/\k=h:=by
 obtain⟨rfl,A⟩:=Sl.len l
 unfold O8 at b
 refine Tr.forget (C2 (args:=[.int .i64 c,.slice i e.length j]) (fn:=Tryz.f91) rfl ?_)
 refine trV b (E00 _ _ n 1 (by decide) 3 (by decide)) λC b=>?_
 refine ifB b (λu b=>?_) λu b=>?_
 ·obtain rfl:=oJ b
  exact aI rfl (Sub.refl _)
 ·obtain⟨m,s,b⟩:=z0 b
  refine eX { vars:=[17],boxes:=[],owns:=[],fuel:=true } (eX (λvs os k=>∃ d,vs.tail = [.int .i64 d]/\os = []/\Sub h k/\J0 d/\H7 e c (I1 vs) d=some m) (eX (λ_ _=>0) (aI (eX P0 ⟨0,rfl,rfl,(Sub.refl _),(by decide),s⟩) ?_)))
  rintro _ g z ⟨d,⟨⟩,⟨⟩,f,y,a⟩
  replace a:H7 e c g d=some m:=a
  obtain _|g:=g
  ·cases a
  rw[H7.eq_2]at a
  refine ifB a (λw a=>?_) λw a=>?_
  ·refine ldI a (T0.mono f l) λF o a=>?_
   refine trV a (C0b _ _ n _ o) λG a=>?_
   refine ldG a (T0.mono f l) λD x a=>?_
   refine trG a (λq=>v02 _ _ x _ o) λE a=>?_
   refine ifB a (λt a=>?_) λt a=>?_
   ·obtain rfl:=oJ a
    try dsimp only[C3,V3]at b
    obtain rfl:=oJ b
    exact aI rfl f
   ·exact N1 g ⟨(IntKind.i64.wrap (d+1)),rfl,rfl,f,(I0 _),a⟩
  ·obtain rfl:=oJ a
   try dsimp only[S0,U0]at b
   obtain rfl:=oJ b
   exact aI rfl f
theorem U01(h:Hp)(b:Int)(g:J0 b)(c:Int)(i:J0 c)(r:Int)(a:N6 b c=some r):
  Tr Tryz.prog 342 #[.int .i64 b,.int .i64 c] h λv d=>v = .int .i64 r/\d=h:=by
 unfold N6 at a
 refine Tr.forget (C2 (args:=[.int .i64 b,.int .i64 c]) (fn:=Tryz.f342) rfl ?_)
 refine ifB a (λe a=>?_) λe a=>?_
 ·obtain rfl:=oJ a
  exact aI rfl (Sub.refl _)
 ·refine ifB a (λf a=>?_) λf a=>?_
  ·obtain rfl:=oJ a
   exact aI rfl (Sub.refl _)
  ·obtain rfl:=oJ a
   exact aI rfl (Sub.refl _)
theorem i00(h:Hp)(f:Int)(A:J0 f)(r:ByteArray)(b:g6 f=some r):
  Tr Tryz.prog 108 #[.int .i64 f] h λv i=>v = .string r/\i=h:=by
 unfold g6 at b
 refine Tr.forget (C2 (args:=[.int .i64 f]) (fn:=Tryz.f108) rfl ?_)
 refine ifB b (λw b=>?_) λw b=>?_
 ·obtain rfl:=oJ b
  exact aI rfl (Sub.refl _)
 ·obtain⟨j,u,b⟩:=z0 b
  refine eX { vars:=[0,3],boxes:=[],owns:=[],fuel:=true } (eX (λvs os i=>∃ c d,vs.tail = [.int .i64 c,.string d]/\os = []/\Sub h i/\J0 c/\d.size<=9223372036854775807/\J4 (I1 vs) c d=some j) (eX (λ_ _=>0) (aI (eX P0 ⟨f,(⟨#[]⟩:ByteArray),rfl,rfl,(Sub.refl _),A,(by decide),u⟩) ?_)))
  rintro _ _ e m ⟨c,d,⟨⟩,⟨⟩,g,F,G,a⟩
  replace a:J4 e c d=some j:=a
  obtain _|e:=e
  ·cases a
  rw[J4.eq_2]at a
  refine ifB a (λy a=>?_) λy a=>?_
  ·obtain⟨O,t,a⟩:=z0 a
   refine aI (Q0 t) ?_
   refine ifB a (λz a=>?_) λz a=>?_
   ·refine eX [(IntKind.u8.wrap (IntKind.i64.wrap (48+(IntKind.i64.wrap (0-(Int.tmod c 10))))))] (aI (F2.u8 (show F2 (Rp.u8.R m) ([[.int .u8 (IntKind.u8.wrap (IntKind.i64.wrap (48+(IntKind.i64.wrap (0-(Int.tmod c 10))))))]]:List (List Value)) [(IntKind.u8.wrap (IntKind.i64.wrap (48+(IntKind.i64.wrap (0-(Int.tmod c 10))))))] from⟨rfl,trivial⟩)) ?_)
    obtain⟨H,D,a⟩:=z0 a
    obtain⟨I,n,a⟩:=z0 a
    have k:=Q0 n
    refine aI k ?_
    obtain⟨J,o,a⟩:=z0 a
    refine aI (Q0 o) ?_
    exact N1 e ⟨(IntKind.i64.wrap (Int.tdiv c 10)),((strOfNums [(IntKind.u8.wrap (IntKind.i64.wrap (48+(IntKind.i64.wrap (0-(Int.tmod c 10))))))])++d),rfl,rfl,g,(I0 _),(w06 k),a⟩
   ·refine eX [(IntKind.u8.wrap (IntKind.i64.wrap (48+(Int.tmod c 10))))] (aI (F2.u8 (show F2 (Rp.u8.R m) ([[.int .u8 (IntKind.u8.wrap (IntKind.i64.wrap (48+(Int.tmod c 10))))]]:List (List Value)) [(IntKind.u8.wrap (IntKind.i64.wrap (48+(Int.tmod c 10))))] from⟨rfl,trivial⟩)) ?_)
    obtain⟨K,E,a⟩:=z0 a
    obtain⟨L,p,a⟩:=z0 a
    have l:=Q0 p
    refine aI l ?_
    obtain⟨M,q,a⟩:=z0 a
    refine aI (Q0 q) ?_
    exact N1 e ⟨(IntKind.i64.wrap (Int.tdiv c 10)),((strOfNums [(IntKind.u8.wrap (IntKind.i64.wrap (48+(Int.tmod c 10))))])++d),rfl,rfl,g,(I0 _),(w06 l),a⟩
  ·obtain rfl:=oJ a
   try dsimp only[S0,U0]at b
   refine ifB b (λx b=>?_) λx b=>?_
   ·obtain⟨N,s,b⟩:=z0 b
    have C:=Q0 s
    refine aI C ?_
    obtain rfl:=oJ b
    exact aI rfl g
   ·obtain rfl:=oJ b
    exact aI rfl g
theorem q01(h:Hp)(z:Int)(aH:J0 z)(r:ByteArray)(d:j7 z=some r):
  Tr Tryz.prog 114 #[.int .i64 z] h λv i=>v = .string r/\i=h:=by
 unfold j7 at d
 refine Tr.forget (C2 (args:=[.int .i64 z]) (fn:=Tryz.f114) rfl ?_)
 refine ifB d (λaB d=>?_) λaB d=>?_
 ·obtain rfl:=oJ d
  exact aI rfl (Sub.refl _)
 ·obtain⟨L,az,d⟩:=z0 d
  refine eX { vars:=[4],boxes:=[],owns:=[0],fuel:=true } (eX (λvs os i=>∃ e g o,vs.tail = [.int .i64 e]/\os = [g]/\Sub h i/\J0 e/\F2 (Rp.u8.R i) g o/\K4 (I1 vs) e o=some L) (eX (λ_ _=>0) (aI (eX P0 ⟨z,[],([]:(List Int)),rfl,rfl,(Sub.refl _),aH,(show F2 (Rp.u8.R h) ([]:List (List Value)) ([]:(List Int)) from trivial),az⟩) ?_)))
  rintro _ g y l ⟨e,bM,o,⟨⟩,⟨⟩,F,bc,f,c⟩
  replace c:K4 y e o=some L:=c
  obtain _|y:=y
  ·cases c
  rw[K4.eq_2]at c
  refine ifB c (λaF c=>?_) λaF c=>?_
  ·obtain⟨bx,an,c⟩:=z0 c
   refine aI (Q0 an) ?_
   refine ifB c (λaG c=>?_) λaG c=>?_
   ·obtain⟨bn,ai,c⟩:=z0 c
    refine aI (K1 ai (by first|rw[F2.length f,F2.length (show F2 (Rp.u8.R l) ([[.int .u8 (IntKind.u8.wrap (IntKind.i64.wrap (48+(IntKind.i64.wrap (0-(Int.tmod e 10))))))]]:List (List Value)) [(IntKind.u8.wrap (IntKind.i64.wrap (48+(IntKind.i64.wrap (0-(Int.tmod e 10))))))] from⟨rfl,trivial⟩)]|exact congrArg (·+1) (F2.length f))) ?_
    obtain⟨bo,aj,c⟩:=z0 c
    refine aI (Q0 aj) ?_
    exact N1 y ⟨(IntKind.i64.wrap (Int.tdiv e 10)),(g++([[.int .u8 (IntKind.u8.wrap (IntKind.i64.wrap (48+(IntKind.i64.wrap (0-(Int.tmod e 10))))))]]:List (List Value))),(o ++ [(IntKind.u8.wrap (IntKind.i64.wrap (48+(IntKind.i64.wrap (0-(Int.tmod e 10))))))]),rfl,rfl,F,(I0 _),(F2.append f (show F2 (Rp.u8.R l) ([[.int .u8 (IntKind.u8.wrap (IntKind.i64.wrap (48+(IntKind.i64.wrap (0-(Int.tmod e 10))))))]]:List (List Value)) [(IntKind.u8.wrap (IntKind.i64.wrap (48+(IntKind.i64.wrap (0-(Int.tmod e 10))))))] from⟨rfl,trivial⟩)),c⟩
   ·obtain⟨bp,ak,c⟩:=z0 c
    refine aI (K1 ak (by first|rw[F2.length f,F2.length (show F2 (Rp.u8.R l) ([[.int .u8 (IntKind.u8.wrap (IntKind.i64.wrap (48+(Int.tmod e 10))))]]:List (List Value)) [(IntKind.u8.wrap (IntKind.i64.wrap (48+(Int.tmod e 10))))] from⟨rfl,trivial⟩)]|exact congrArg (·+1) (F2.length f))) ?_
    obtain⟨bq,al,c⟩:=z0 c
    refine aI (Q0 al) ?_
    exact N1 y ⟨(IntKind.i64.wrap (Int.tdiv e 10)),(g++([[.int .u8 (IntKind.u8.wrap (IntKind.i64.wrap (48+(Int.tmod e 10))))]]:List (List Value))),(o ++ [(IntKind.u8.wrap (IntKind.i64.wrap (48+(Int.tmod e 10))))]),rfl,rfl,F,(I0 _),(F2.append f (show F2 (Rp.u8.R l) ([[.int .u8 (IntKind.u8.wrap (IntKind.i64.wrap (48+(Int.tmod e 10))))]]:List (List Value)) [(IntKind.u8.wrap (IntKind.i64.wrap (48+(Int.tmod e 10))))] from⟨rfl,trivial⟩)),c⟩
  ·obtain rfl:=oJ c
   try dsimp only[S0,U0]at d
   refine ifB d (λaC d=>?_) λaC d=>?_
   ·obtain⟨br,am,d⟩:=z0 d
    refine aI (K1 am (by first|rw[F2.length f,F2.length (show F2 (Rp.u8.R l) ([[.int .u8 45]]:List (List Value)) [45] from⟨rfl,trivial⟩)]|exact congrArg (·+1) (F2.length f))) ?_
    obtain⟨aJ,ag,d⟩:=z0 d
    obtain rfl:(g++([[.int .u8 45]]:List (List Value))).length=aJ:=(F2.length (F2.append f (show F2 (Rp.u8.R l) ([[.int .u8 45]]:List (List Value)) [45] from⟨rfl,trivial⟩))).trans (oJ ag)
    obtain⟨bs,a1,d⟩:=z0 d
    obtain⟨K,ay,d⟩:=z0 d
    refine eX { vars:=[6,7],boxes:=[],owns:=[0],fuel:=true,kept:=[0] } (eX (λvs os i=>∃ j m G w,vs.tail = [.int .i64 j,.int .i64 m]/\os = [G]/\Sub l i/\J0 j/\J0 m/\F2 (Rp.u8.R i) G w/\A3 (I1 vs) j m w=some K) (eX (λ_ _=>0) (aI (eX P0 ⟨0,(IntKind.i64.wrap ((((g++([[.int .u8 45]]:List (List Value))).length:Nat):Int)-1)),(g++([[.int .u8 45]]:List (List Value))),(o ++ [45]),rfl,rfl,(Sub.refl _),(by decide),(I0 _),(F2.append f (show F2 (Rp.u8.R l) ([[.int .u8 45]]:List (List Value)) [45] from⟨rfl,trivial⟩)),ay⟩) ?_)))
    rintro _ _ G D I ⟨j,m,bL,w,⟨⟩,⟨⟩,N,ba,bb,t,c⟩
    replace c:A3 D j m w=some K:=c
    obtain _|D:=D
    ·cases c
    rw[A3.eq_2]at c
    refine ifB c (λaD c=>?_) λaD c=>?_
    ·refine Or.inr (Or.inr (Or.inl (aI (aI (by kernel_rfl) (by kernel_rfl)) ?_)))
     obtain⟨q,ao,c⟩:=z0 c
     obtain⟨P,aT,Y,aL⟩:=E3 t ao
     obtain rfl:=aL
     refine Or.inl ?_
     apply eX
     refine aI ?_ ?_
     ·intro bf bz
      exact aI P (aI rfl (aI rfl rfl))
     refine Or.inl (eX (.val (.int .u8 q)) (aI ?_ ?_))
     ·intro bg bA
      exact eX _ (aI Y (aI rfl (aI rfl rfl)))
     obtain⟨A,ap,c⟩:=z0 c
     obtain⟨Q,aU,Z,aM⟩:=E3 t ap
     obtain rfl:=aM
     refine Or.inl ?_
     apply eX
     refine aI ?_ ?_
     ·intro bh bB
      exact aI Q (aI rfl (aI rfl rfl))
     refine Or.inl (eX (.val (.int .u8 A)) (aI ?_ ?_))
     ·intro bi bC
      exact eX _ (aI Z (aI rfl (aI rfl rfl)))
     refine Or.inr ?_
     refine Or.inr ?_
     refine Or.inr ?_
     refine Or.inr ?_
     refine Or.inl (eX 0 (aI (aI rfl rfl) ?_))
     obtain⟨bH,aq,c⟩:=z0 c
     obtain⟨S,aV,aa,aN⟩:=E3 t aq
     refine aI S ?_
     obtain rfl:=aN
     refine aI trivial (aI (by first|exact trivial|exact rfl) ?_)
     refine eX _ (aI aa ?_)
     refine aI trivial (aI (by first|exact trivial|exact rfl) ?_)
     obtain⟨bI,ar,c⟩:=z0 c
     obtain⟨T,aW,ab,aO⟩:=E3 (F2.set (p:=Rp.u8.R I) (a:=[.int .u8 q]) (b:=q) rfl j.toNat t) ar
     refine aI T ?_
     obtain rfl:=aO
     refine aI trivial (aI (by first|exact trivial|exact rfl) ?_)
     refine eX _ (aI ab ?_)
     refine aI trivial (aI (by first|exact trivial|exact rfl) ?_)
     exact N1 D ⟨(IntKind.i64.wrap (j+1)),(IntKind.i64.wrap (m-1)),((G.set j.toNat [.int .u8 q]).set m.toNat [.int .u8 A]),((w.set j.toNat q).set m.toNat A),rfl,rfl,N,(I0 _),(I0 _),(F2.set (p:=Rp.u8.R I) (a:=[.int .u8 A]) (b:=A) rfl m.toNat (F2.set (p:=Rp.u8.R I) (a:=[.int .u8 q]) (b:=q) rfl j.toNat t)),c⟩
    ·obtain rfl:=oJ c
     try dsimp only[S0,U0]at d
     refine eX w (aI (F2.u8 t) ?_)
     obtain⟨bt,a2,d⟩:=z0 d
     obtain rfl:=oJ d
     exact aI rfl (F.trans N)
   ·obtain⟨aK,ah,d⟩:=z0 d
    obtain rfl:g.length=aK:=(F2.length f).trans (oJ ah)
    obtain⟨bu,a3,d⟩:=z0 d
    obtain⟨M,aA,d⟩:=z0 d
    refine eX { vars:=[6,7],boxes:=[],owns:=[0],fuel:=true,kept:=[0] } (eX (λvs os i=>∃ k n H x,vs.tail = [.int .i64 k,.int .i64 n]/\os = [H]/\Sub l i/\J0 k/\J0 n/\F2 (Rp.u8.R i) H x/\A3 (I1 vs) k n x=some M) (eX (λ_ _=>0) (aI (eX P0 ⟨0,(IntKind.i64.wrap (((g.length:Nat):Int)-1)),g,o,rfl,rfl,(Sub.refl _),(by decide),(I0 _),f,aA⟩) ?_)))
    rintro _ _ H E J ⟨k,n,bN,x,⟨⟩,⟨⟩,O,bd,be,u,c⟩
    replace c:A3 E k n x=some M:=c
    obtain _|E:=E
    ·cases c
    rw[A3.eq_2]at c
    refine ifB c (λaE c=>?_) λaE c=>?_
    ·refine Or.inr (Or.inr (Or.inl (aI (aI (by kernel_rfl) (by kernel_rfl)) ?_)))
     obtain⟨s,au,c⟩:=z0 c
     obtain⟨U,aX,ac,aP⟩:=E3 u au
     obtain rfl:=aP
     refine Or.inl ?_
     apply eX
     refine aI ?_ ?_
     ·intro bj bD
      exact aI U (aI rfl (aI rfl rfl))
     refine Or.inl (eX (.val (.int .u8 s)) (aI ?_ ?_))
     ·intro bk bE
      exact eX _ (aI ac (aI rfl (aI rfl rfl)))
     obtain⟨C,av,c⟩:=z0 c
     obtain⟨V,aY,ad,aQ⟩:=E3 u av
     obtain rfl:=aQ
     refine Or.inl ?_
     apply eX
     refine aI ?_ ?_
     ·intro bl bF
      exact aI V (aI rfl (aI rfl rfl))
     refine Or.inl (eX (.val (.int .u8 C)) (aI ?_ ?_))
     ·intro bm bG
      exact eX _ (aI ad (aI rfl (aI rfl rfl)))
     refine Or.inr ?_
     refine Or.inr ?_
     refine Or.inr ?_
     refine Or.inr ?_
     refine Or.inl (eX 0 (aI (aI rfl rfl) ?_))
     obtain⟨bJ,aw,c⟩:=z0 c
     obtain⟨W,aZ,ae,aR⟩:=E3 u aw
     refine aI W ?_
     obtain rfl:=aR
     refine aI trivial (aI (by first|exact trivial|exact rfl) ?_)
     refine eX _ (aI ae ?_)
     refine aI trivial (aI (by first|exact trivial|exact rfl) ?_)
     obtain⟨bK,ax,c⟩:=z0 c
     obtain⟨X,a0,af,aS⟩:=E3 (F2.set (p:=Rp.u8.R J) (a:=[.int .u8 s]) (b:=s) rfl k.toNat u) ax
     refine aI X ?_
     obtain rfl:=aS
     refine aI trivial (aI (by first|exact trivial|exact rfl) ?_)
     refine eX _ (aI af ?_)
     refine aI trivial (aI (by first|exact trivial|exact rfl) ?_)
     exact N1 E ⟨(IntKind.i64.wrap (k+1)),(IntKind.i64.wrap (n-1)),((H.set k.toNat [.int .u8 s]).set n.toNat [.int .u8 C]),((x.set k.toNat s).set n.toNat C),rfl,rfl,O,(I0 _),(I0 _),(F2.set (p:=Rp.u8.R J) (a:=[.int .u8 C]) (b:=C) rfl n.toNat (F2.set (p:=Rp.u8.R J) (a:=[.int .u8 s]) (b:=s) rfl k.toNat u)),c⟩
    ·obtain rfl:=oJ c
     try dsimp only[S0,U0]at d
     refine eX x (aI (F2.u8 u) ?_)
     obtain⟨bv,a4,d⟩:=z0 d
     obtain rfl:=oJ d
     exact aI rfl (F.trans O)
theorem E09(h:Hp)(i:Option Addr)(q j:Nat)(l:(List ByteArray))(m:(Wp.slice Wp.str).R h [.slice i q j] l)(c:ByteArray)(T:c.size<=9223372036854775807)(g:ByteArray)(U:g.size<=9223372036854775807)(r:ByteArray)(b:o01 l c g=some r):
  Tr Tryz.prog 222 #[.slice i q j,.string c,.string g] h λv k=>v = .string r/\k=h:=by
 obtain⟨rfl,Z⟩:=Sl.len m
 unfold o01 at b
 refine Tr.forget (C2 (args:=[.slice i l.length j,.string c,.string g]) (fn:=Tryz.f222) rfl ?_)
 refine ifB b (λC b=>?_) λC b=>?_
 ·obtain rfl:=oJ b
  exact aI rfl (Sub.refl _)
 ·refine ld b m λN Q J b=>?_
  obtain⟨rfl,F⟩:=J
  obtain⟨t,z,b⟩:=z0 b
  obtain⟨H,K,u,w⟩:=Sl.cutI (r:=Wp.str.toRp) m z
  refine aI H (eX K (aI u ?_))
  intro L E _
  obtain⟨O,S,rfl,s⟩:=w L E
  have aa:=(Sl.len s).2
  obtain⟨o,A,b⟩:=z0 b
  refine eX { vars:=[7,20],boxes:=[],owns:=[],fuel:=true } (eX (λvs os k=>∃ d e,vs.tail = [.string d,.int .i64 e]/\os = []/\Sub h k/\d.size<=9223372036854775807/\J0 e/\s8 t c (I1 vs) d e=some o) (eX (λ_ _=>0) (aI (eX P0 ⟨N,0,rfl,rfl,(Sub.refl _),F,(by decide),A⟩) ?_)))
  rintro _ _ f Y ⟨d,e,⟨⟩,⟨⟩,n,V,W,a⟩
  replace a:s8 t c f d e=some o:=a
  obtain _|f:=f
  ·cases a
  rw[s8.eq_2]at a
  refine ifB a (λD a=>?_) λD a=>?_
  ·refine ld a ((Wp.slice Wp.str).mono n s) λM P I a=>?_
   obtain⟨rfl,X⟩:=I
   obtain⟨ab,x,a⟩:=z0 a
   have G:=Q0 x
   refine aI G ?_
   obtain⟨ac,y,a⟩:=z0 a
   have p:=Q0 y
   refine aI p ?_
   exact N1 f ⟨((d++c)++M),(IntKind.i64.wrap (e+1)),rfl,rfl,n,(w06 p),(I0 _),a⟩
  ·obtain rfl:=oJ a
   try dsimp only[S0,U0]at b
   obtain rfl:=oJ b
   exact aI rfl n
theorem z8(h:Hp)(o:Option Addr)(A p:Nat)(m:F0)(n:T0.R h [.slice o A p] m)(r:F0)(d:w4 m=some r):
  Tr Tryz.prog 212 #[.slice o A p] h λv k=>∃(t:Option Addr) (z u:Nat),v = .slice t z u/\T0.R k [.slice t z u] r/\Sub h k:=by
 obtain⟨rfl,ae⟩:=Sl.len n
 unfold w4 at d
 refine C2 (args:=[.slice o m.length p]) (fn:=Tryz.f212) rfl ?_
 obtain⟨s,L,d⟩:=z0 d
 refine eX { vars:=[4],boxes:=[],owns:=[0],fuel:=true } (eX (λvs os k=>∃ g c i,vs.tail = [.int .i64 g]/\os = [c]/\Sub h k/\J0 g/\F2 (Wp.int.R k) c i/\K3 m (I1 vs) g i=some s) (eX (λ_ _=>0) (aI (eX P0 ⟨0,[],([]:F0),rfl,rfl,(Sub.refl _),(by decide),(show F2 (Wp.int.R h) ([]:List (List Value)) ([]:F0) from trivial),L⟩) ?_)))
 rintro _ c l e ⟨g,aq,i,⟨⟩,⟨⟩,f,X,b,a⟩
 replace a:K3 m l g i=some s:=a
 obtain _|l:=l
 ·cases a
 rw[K3.eq_2]at a
 refine ifB a (λN a=>?_) λN a=>?_
 ·obtain⟨O,F,a⟩:=z0 a
  obtain rfl:c.length=O:=(F2.length b).trans (oJ F)
  obtain⟨aj,W,a⟩:=z0 a
  refine Or.inl (aI (aI (by kernel_rfl) (by kernel_rfl)) ?_)
  refine ldG a (T0.mono f n) λap ac a=>?_
  obtain⟨al,J,a⟩:=z0 a
  obtain⟨U,w,P⟩:=R03 b J (H0c e)
  refine aI (λq=>(w q).1) ?_
  obtain⟨rfl,Y⟩:=P
  refine eX _ (aI (λq=>(w q).2) ?_)
  refine ldG a (T0.mono f n) λam Z a=>?_
  obtain⟨an,K,a⟩:=z0 a
  obtain⟨V,x,Q⟩:=R03 b K (H0c e)
  refine aI (λq=>(x q).1) ?_
  obtain⟨rfl,aa⟩:=Q
  refine eX _ (aI (λq=>(x q).2) ?_)
  refine ldG a (T0.mono f n) λao ab a=>?_
  refine ifB a (λM a=>?_) λM a=>?_
  ·obtain⟨ag,G,a⟩:=z0 a
   refine aI (by have:=Q0 G;have:=F2.length b;omega) ?_
   exact N1 l ⟨(IntKind.i64.wrap (g+1)),(c.take (IntKind.i64.wrap (((c.length:Nat):Int)-1)).toNat),(i.take (IntKind.i64.wrap (((c.length:Nat):Int)-1)).toNat),rfl,rfl,f,(I0 _),(F2.take (IntKind.i64.wrap (((c.length:Nat):Int)-1)).toNat b),a⟩
  ·refine ldI a (T0.mono f n) λj y a=>?_
   obtain⟨ah,H,a⟩:=z0 a
   refine aI (K1 H (by first|rw[F2.length b,F2.length (show F2 (Wp.int.R e) ([[.int .i64 j]]:List (List Value)) [j] from⟨⟨rfl,y⟩,trivial⟩)]|exact congrArg (·+1) (F2.length b))) ?_
   exact N1 l ⟨(IntKind.i64.wrap (g+1)),(c++([[.int .i64 j]]:List (List Value))),(i ++ [j]),rfl,rfl,f,(I0 _),(F2.append b (show F2 (Wp.int.R e) ([[.int .i64 j]]:List (List Value)) [j] from⟨⟨rfl,y⟩,trivial⟩)),a⟩
 ·obtain rfl:=oJ a
  try dsimp only[S0,U0]at d
  obtain⟨ai,I,d⟩:=z0 d
  refine aI (K1 I (by first|rw[F2.length (show F2 (Wp.int.R e) ([]:List (List Value)) ([]:F0) from trivial),F2.length b]|exact congrArg (·+0) (F2.length (show F2 (Wp.int.R e) ([]:List (List Value)) ([]:F0) from trivial)))) ?_
  intro ak ad E
  obtain⟨C,D,rfl,S,T,af⟩:=E1.out (r:=Wp.int.toRp) E (F2.append (show F2 (Wp.int.R e) ([]:List (List Value)) ([]:F0) from trivial) b)
  obtain rfl:=oJ d
  exact⟨C,((([]:F0)++i)).length,D,rfl,S,(f.trans T)⟩
theorem Q06(h:Hp)(t:Option Addr)(J u:Nat)(n:N01)(K:T03.R h [.slice t J u] n)(r:F0)(l:a00 n=some r):
  Tr Tryz.prog 204 #[.slice t J u] h λv e=>∃(E:Option Addr) (I F:Nat),v = .slice E I F/\New T0 h e [.slice E I F] r:=by
 obtain⟨rfl,aq⟩:=Sl.len K
 unfold a00 at l
 refine C2 (args:=[.slice t n.length u]) (fn:=Tryz.f204) rfl ?_
 obtain⟨C,V,l⟩:=z0 l
 refine eX { vars:=[11],boxes:=[],owns:=[0],fuel:=true } (eX (λvs os e=>∃ i s j,vs.tail = [.int .i64 i]/\os = [s]/\Sub h e/\J0 i/\F2 (Wp.int.R e) s j/\a7 n (I1 vs) i j=some C) (eX (λ_ _=>0) (aI (eX P0 ⟨0,[],([]:F0),rfl,rfl,(Sub.refl _),(by decide),(show F2 (Wp.int.R h) ([]:List (List Value)) ([]:F0) from trivial),V⟩) ?_)))
 rintro _ s o ab ⟨i,aH,j,⟨⟩,⟨⟩,A,an,w,b⟩
 replace b:a7 n o i j=some C:=b
 obtain _|o:=o
 ·cases b
 rw[a7.eq_2]at b
 refine ifB b (λZ b=>?_) λZ b=>?_
 ·refine ld b (T03.mono A K) λL ai z b=>?_
  obtain⟨ag,av,aj,rfl⟩:=Wp.slice_cell z
  obtain⟨rfl,ar⟩:=Sl.len z
  obtain⟨D,W,b⟩:=z0 b
  refine eX { vars:=[17],boxes:=[],owns:=[0],fuel:=true } (eX (λvs os e=>∃ g c f,vs.tail = [.int .i64 g]/\os = [c]/\Sub ab e/\J0 g/\F2 (Wp.int.R e) c f/\d6 L (I1 vs) g f=some D) (eX (λ_ _=>0) (aI (eX P0 ⟨0,s,j,rfl,rfl,(Sub.refl _),(by decide),w,W⟩) ?_)))
  rintro _ c m y ⟨g,aG,f,⟨⟩,⟨⟩,p,ao,d,a⟩
  replace a:d6 L m g f=some D:=a
  obtain _|m:=m
  ·cases a
  rw[d6.eq_2]at a
  refine ifB a (λX a=>?_) λX a=>?_
  ·refine ldI a (T0.mono p z) λk x a=>?_
   obtain⟨ac,O,a⟩:=z0 a
   obtain rfl:c.length=ac:=(F2.length d).trans (oJ O)
   obtain⟨aw,ak,a⟩:=z0 a
   obtain⟨ad,P,a⟩:=z0 a
   obtain rfl:c.length=ad:=(F2.length d).trans (oJ P)
   obtain⟨ax,al,a⟩:=z0 a
   obtain⟨aE,U,a⟩:=z0 a
   obtain⟨ah,G,af⟩:=R03 d U (H0c y)
   refine aI (λq=>(G q).1) ?_
   obtain⟨rfl,aa⟩:=af
   refine eX _ (aI (λq=>(G q).2) ?_)
   refine trG a (λq=>v02 _ _ aa _ x) λaF a=>?_
   refine ifB a (λY a=>?_) λY a=>?_
   ·obtain⟨ae,Q,a⟩:=z0 a
    obtain rfl:c.length=ae:=(F2.length d).trans (oJ Q)
    obtain⟨ay,am,a⟩:=z0 a
    obtain⟨az,S,a⟩:=z0 a
    refine aI (by have:=Q0 S;have:=F2.length d;omega) ?_
    exact N1 m ⟨(IntKind.i64.wrap (g+1)),(c.take (IntKind.i64.wrap (((c.length:Nat):Int)-1)).toNat),(f.take (IntKind.i64.wrap (((c.length:Nat):Int)-1)).toNat),rfl,rfl,p,(I0 _),(F2.take (IntKind.i64.wrap (((c.length:Nat):Int)-1)).toNat d),a⟩
   ·obtain⟨aA,T,a⟩:=z0 a
    refine aI (K1 T (by first|rw[F2.length d,F2.length (show F2 (Wp.int.R y) ([[.int .i64 k]]:List (List Value)) [k] from⟨⟨rfl,x⟩,trivial⟩)]|exact congrArg (·+1) (F2.length d))) ?_
    exact N1 m ⟨(IntKind.i64.wrap (g+1)),(c++([[.int .i64 k]]:List (List Value))),(f ++ [k]),rfl,rfl,p,(I0 _),(F2.append d (show F2 (Wp.int.R y) ([[.int .i64 k]]:List (List Value)) [k] from⟨⟨rfl,x⟩,trivial⟩)),a⟩
  ·obtain rfl:=oJ a
   try dsimp only[S0,U0]at b
   exact N1 o ⟨(IntKind.i64.wrap (i+1)),c,f,rfl,rfl,(A.trans p),(I0 _),d,b⟩
 ·obtain rfl:=oJ b
  try dsimp only[S0,U0]at l
  intro aD ap H
  obtain⟨M,N,rfl,aB,aC,au⟩:=E1.out (r:=Wp.int.toRp) H w
  obtain rfl:=oJ l
  exact⟨M,j.length,N,rfl,(New.from (E1.newPlain (r:=Wp.int) H w (M0e _)) A)⟩
theorem i0e(h:Hp)(c:List Value)(e:j0)(w:Y0.R h c e)(d:List Value)(f:D0)(y:Z0.R h d f)(r:Bool)(a:y01 e f=some r):
  Tr Tryz.prog 339 #[.agg c.toArray,.agg d.toArray] h λv j=>v = .bool r/\j=h:=by
 obtain⟨o,b,g,C,i,p,rfl,rfl,k,z,x⟩:=C0 w
 obtain⟨rfl,A⟩:=Sl.len x
 obtain⟨s,t,u,rfl,rfl,l,m,n⟩:=G1 y
 unfold y01 at a
 dsimp only at a
 refine Tr.forget (C2 (args:=[.agg #[.int .i64 o,.int .i64 b,.slice g p.length i],.agg #[.int .i64 s,.int .i64 t,.int .i64 u]]) (fn:=Tryz.f339) rfl ?_)
 refine trV a (n7 _ _ l 0 (by decide) (IntKind.i64.wrap (b-1)) (I0 _)) λD a=>?_
 refine trG a (λq=>n7 _ _ n 0 (by decide) (IntKind.i64.wrap (b-1)) (I0 _)) λE a=>?_
 refine trG a (λq=>n7 _ _ m 1 (by decide) _ k) λF a=>?_
 obtain rfl:=oJ a
 exact aI rfl (Sub.refl _)
theorem n03(h:Hp)(o:List Value)(y:D0)(S:Z0.R h o y)(p:List Value)(z:D0)(T:Z0.R h p z)(r:Int)(b:D7 y z=some r):
  Tr Tryz.prog 314 #[.agg o.toArray,.agg p.toArray] h λv m=>v = .int .i64 r/\m=h:=by
 obtain⟨d,e,f,rfl,rfl,q,s,t⟩:=G1 S
 obtain⟨g,i,j,rfl,rfl,u,w,x⟩:=G1 T
 unfold D7 at b
 dsimp only at b
 refine Tr.forget (C2 (args:=[.agg #[.int .i64 d,.int .i64 e,.int .i64 f],.agg #[.int .i64 g,.int .i64 i,.int .i64 j]]) (fn:=Tryz.f314) rfl ?_)
 obtain⟨n,N,b⟩:=z0 b
 refine eX { vars:=[7],boxes:=[],owns:=[],fuel:=true } (eX (λvs os m=>∃ k,vs.tail = [.int .i64 k]/\os = []/\Sub h m/\J0 k/\G6 d e f g i j (I1 vs) k=some n) (eX (λ_ _=>0) (aI (eX P0 ⟨0,rfl,rfl,(Sub.refl _),(by decide),N⟩) ?_)))
 rintro _ l ah ⟨k,⟨⟩,⟨⟩,c,ac,a⟩
 replace a:G6 d e f g i j l k=some n:=a
 obtain _|l:=l
 ·cases a
 rw[G6.eq_2]at a
 refine ifB a (λP a=>?_) λP a=>?_
 ·refine Or.inl (aI (aI (by kernel_rfl) (by kernel_rfl)) ?_)
  obtain⟨aj,K,a⟩:=z0 a
  obtain⟨C,Z,G,V⟩:=E3 (F2.up (r:=Wp.int.toRp) c (show F2 (Wp.int.R h) ([[.int .i64 d],[.int .i64 e],[.int .i64 f]]:List (List Value)) [d,e,f] from⟨⟨rfl,q⟩,⟨⟨rfl,s⟩,⟨⟨rfl,t⟩,trivial⟩⟩⟩)) K
  refine aI C ?_
  obtain⟨rfl,ae⟩:=V
  refine eX _ (aI G ?_)
  obtain⟨ak,L,a⟩:=z0 a
  obtain⟨D,aa,H,W⟩:=E3 (F2.up (r:=Wp.int.toRp) c (show F2 (Wp.int.R h) ([[.int .i64 g],[.int .i64 i],[.int .i64 j]]:List (List Value)) [g,i,j] from⟨⟨rfl,u⟩,⟨⟨rfl,w⟩,⟨⟨rfl,x⟩,trivial⟩⟩⟩)) L
  refine aI D ?_
  obtain⟨rfl,af⟩:=W
  refine eX _ (aI H ?_)
  refine ifB a (λQ a=>?_) λQ a=>?_
  ·obtain rfl:=oJ a
   try dsimp only[C3,V3]at b
   obtain rfl:=oJ b
   exact aI rfl c
  ·refine Or.inl (aI (aI (by kernel_rfl) (by kernel_rfl)) ?_)
   obtain⟨al,M,a⟩:=z0 a
   obtain⟨E,ab,I,X⟩:=E3 (F2.up (r:=Wp.int.toRp) c (show F2 (Wp.int.R h) ([[.int .i64 d],[.int .i64 e],[.int .i64 f]]:List (List Value)) [d,e,f] from⟨⟨rfl,q⟩,⟨⟨rfl,s⟩,⟨⟨rfl,t⟩,trivial⟩⟩⟩)) M
   refine aI E ?_
   obtain⟨rfl,ag⟩:=X
   refine eX _ (aI I ?_)
   obtain⟨ai,J,a⟩:=z0 a
   obtain⟨A,Y,F,U⟩:=E3 (F2.up (r:=Wp.int.toRp) c (show F2 (Wp.int.R h) ([[.int .i64 g],[.int .i64 i],[.int .i64 j]]:List (List Value)) [g,i,j] from⟨⟨rfl,u⟩,⟨⟨rfl,w⟩,⟨⟨rfl,x⟩,trivial⟩⟩⟩)) J
   refine aI A ?_
   obtain⟨rfl,ad⟩:=U
   refine eX _ (aI F ?_)
   refine ifB a (λO a=>?_) λO a=>?_
   ·obtain rfl:=oJ a
    try dsimp only[C3,V3]at b
    obtain rfl:=oJ b
    exact aI rfl c
   ·exact N1 l ⟨(IntKind.i64.wrap (k+1)),rfl,rfl,c,(I0 _),a⟩
 ·obtain rfl:=oJ a
  try dsimp only[S0,U0]at b
  obtain rfl:=oJ b
  exact aI rfl c
theorem L6(h:Hp)(m:List Value)(u:j0)(P:Y0.R h m u)(r:Bool)(b:Z3 u=some r):
  Tr Tryz.prog 312 #[.agg m.toArray] h λv g=>v = .bool r/\g=h:=by
 obtain⟨i,j,w,ac,x,k,rfl,rfl,p,s,e⟩:=C0 P
 obtain⟨rfl,ab⟩:=Sl.len e
 unfold Z3 at b
 dsimp only at b
 refine Tr.forget (C2 (args:=[.agg #[.int .i64 i,.int .i64 j,.slice w k.length x]]) (fn:=Tryz.f312) rfl ?_)
 obtain⟨l,D,b⟩:=z0 b
 refine eX { vars:=[3],boxes:=[],owns:=[],fuel:=true } (eX (λvs os g=>∃ d,vs.tail = [.int .i64 d]/\os = []/\Sub h g/\J0 d/\Q6 k i j (I1 vs) d=some l) (eX (λ_ _=>0) (aI (eX P0 ⟨0,rfl,rfl,(Sub.refl _),(by decide),D⟩) ?_)))
 rintro _ f t ⟨d,⟨⟩,⟨⟩,c,Z,a⟩
 replace a:Q6 k i j f d=some l:=a
 obtain _|f:=f
 ·cases a
 rw[Q6.eq_2]at a
 refine ifB a (λF a=>?_) λF a=>?_
 ·refine Or.inl (aI (aI (by kernel_rfl) (by kernel_rfl)) ?_)
  refine ld a (K0.mono c e) λag W Q a=>?_
  obtain⟨ah,ai,aj,rfl,rfl,G,H,I⟩:=G1 Q
  try dsimp only at a
  obtain⟨V,z,a⟩:=z0 a
  refine eX (.bool V) (aI (i0e _ _ _ (l0 p s (K0.mono c e)) _ _ (C1 G H I) _  z) ?_)
  obtain⟨ak,A,a⟩:=z0 a
  obtain⟨X,n,S⟩:=Sl.getG (r:=Z0.toRp) (K0.mono c e) A (by decide) (x06 t)
  refine aI (λq=>(n q).1) ?_
  obtain⟨al,am,an,rfl,rfl,J,K,L⟩:=G1 S
  try dsimp only at a
  refine eX _ (aI (λq=>(n q).2) ?_)
  obtain⟨ao,C,a⟩:=z0 a
  obtain⟨Y,o,T⟩:=Sl.getG (r:=Z0.toRp) (K0.mono c e) C (by decide) (x06 t)
  refine aI (λq=>(o q).1) ?_
  obtain⟨ap,aq,ar,rfl,rfl,M,N,O⟩:=G1 T
  try dsimp only at a
  refine eX _ (aI (λq=>(o q).2) ?_)
  refine trG a (λq=>n03 _ _ _ (C1 J K L) _ _ (C1 M N O)) λU a=>?_
  obtain⟨ad,y,a⟩:=z0 a
  have aa:J0 U:=Q0 y
  refine ifB a (λE a=>?_) λE a=>?_
  ·obtain rfl:=oJ a
   try dsimp only[C3,V3]at b
   obtain rfl:=oJ b
   exact aI rfl c
  ·exact N1 f ⟨(IntKind.i64.wrap (d+1)),rfl,rfl,c,(I0 _),a⟩
 ·obtain rfl:=oJ a
  try dsimp only[S0,U0]at b
  refine trV b (n7 _ _ p 1 (by decide) 3 (by decide)) λae b=>?_
  refine trG b (λq=>n7 _ _ s 1 (by decide) 40 (by decide)) λaf b=>?_
  obtain rfl:=oJ b
  exact aI rfl c
theorem r01(h:Hp)(c:List Value)(d:j0)(m:Y0.R h c d)(b:Int)(j:J0 b)(r:Bool)(a:W5 d b=some r):
  Tr Tryz.prog 290 #[.agg c.toArray,.int .i64 b] h λv i=>v = .bool r/\i=h:=by
 obtain⟨k,e,f,s,g,l,rfl,rfl,o,p,n⟩:=C0 m
 obtain⟨rfl,q⟩:=Sl.len n
 unfold W5 at a
 dsimp only at a
 refine Tr.forget (C2 (args:=[.agg #[.int .i64 k,.int .i64 e,.slice f l.length g],.int .i64 b]) (fn:=Tryz.f290) rfl ?_)
 refine trV a (E00 _ _ j 0 (by decide) (IntKind.i64.wrap (e-1)) (I0 _)) λt a=>?_
 obtain rfl:=oJ a
 exact aI rfl (Sub.refl _)
theorem R06(h:Hp)(d:List Value)(g:j0)(y:Y0.R h d g)(e:List Value)(i:D0)(z:Z0.R h e i)(r:Bool)(a:i8 g i=some r):
  Tr Tryz.prog 337 #[.agg d.toArray,.agg e.toArray] h λv l=>v = .bool r/\l=h:=by
 obtain⟨p,s,j,C,k,t,rfl,rfl,b,f,c⟩:=C0 y
 obtain⟨rfl,A⟩:=Sl.len c
 obtain⟨u,w,x,rfl,rfl,m,n,o⟩:=G1 z
 unfold i8 at a
 dsimp only at a
 refine Tr.forget (C2 (args:=[.agg #[.int .i64 p,.int .i64 s,.slice j t.length k],.agg #[.int .i64 u,.int .i64 w,.int .i64 x]]) (fn:=Tryz.f337) rfl ?_)
 refine trV a (r01 _ _ _ (l0 b f c) _ m) λD a=>?_
 refine trG a (λq=>r01 _ _ _ (l0 b f c) _ o) λE a=>?_
 refine trG a (λq=>E00 _ _ n 1 (by decide) _ b) λF a=>?_
 obtain rfl:=oJ a
 exact aI rfl (Sub.refl _)
theorem o03(h:Hp)(b:List Value)(d:D0)(A:Z0.R h b d)(c:List Value)(e:D0)(C:Z0.R h c e)(r:Int)(a:H8 d e=some r):
  Tr Tryz.prog 316 #[.agg b.toArray,.agg c.toArray] h λv j=>v = .int .i64 r/\j=h:=by
 obtain⟨t,u,w,rfl,rfl,m,n,o⟩:=G1 A
 obtain⟨x,y,z,rfl,rfl,p,q,s⟩:=G1 C
 unfold H8 at a
 dsimp only at a
 refine Tr.forget (C2 (args:=[.agg #[.int .i64 t,.int .i64 u,.int .i64 w],.agg #[.int .i64 x,.int .i64 y,.int .i64 z]]) (fn:=Tryz.f316) rfl ?_)
 refine trV a (U01 _ _ m _ p) λD a=>?_
 obtain⟨J,f,a⟩:=z0 a
 have G:J0 D:=Q0 f
 refine ifB a (λk a=>?_) λk a=>?_
 ·obtain rfl:=oJ a
  exact aI rfl (Sub.refl _)
 ·refine trV a (U01 _ _ n _ q) λE a=>?_
  obtain⟨K,g,a⟩:=z0 a
  have H:J0 E:=Q0 g
  refine ifB a (λl a=>?_) λl a=>?_
  ·obtain rfl:=oJ a
   exact aI rfl (Sub.refl _)
  ·refine trV a (U01 _ _ o _ s) λF a=>?_
   obtain⟨L,i,a⟩:=z0 a
   have I:J0 F:=Q0 i
   obtain rfl:=oJ a
   exact aI rfl (Sub.refl _)
theorem j00(h:Hp)(m:List Value)(w:j0)(L:Y0.R h m w)(r:Bool)(b:K6 w=some r):
  Tr Tryz.prog 300 #[.agg m.toArray] h λv g=>v = .bool r/\g=h:=by
 obtain⟨i,j,x,W,y,k,rfl,rfl,o,p,f⟩:=C0 L
 obtain⟨rfl,V⟩:=Sl.len f
 unfold K6 at b
 dsimp only at b
 refine Tr.forget (C2 (args:=[.agg #[.int .i64 i,.int .i64 j,.slice x k.length y]]) (fn:=Tryz.f300) rfl ?_)
 refine trV b (E00 _ _ o 1 (by decide) 3 (by decide)) λY b=>?_
 refine trG b (λq=>E00 _ _ p 1 (by decide) 40 (by decide)) λad b=>?_
 refine ifB b (λF b=>?_) λF b=>?_
 ·obtain rfl:=oJ b
  exact aI rfl (Sub.refl _)
 ·obtain⟨l,D,b⟩:=z0 b
  refine eX { vars:=[24],boxes:=[],owns:=[],fuel:=true } (eX (λvs os g=>∃ d,vs.tail = [.int .i64 d]/\os = []/\Sub h g/\J0 d/\R6 k i j (I1 vs) d=some l) (eX (λ_ _=>0) (aI (eX P0 ⟨0,rfl,rfl,(Sub.refl _),(by decide),D⟩) ?_)))
  rintro _ e K ⟨d,⟨⟩,⟨⟩,c,T,a⟩
  replace a:R6 k i j e d=some l:=a
  obtain _|e:=e
  ·cases a
  rw[R6.eq_2]at a
  refine ifB a (λG a=>?_) λG a=>?_
  ·refine ld a (K0.mono c f) λae S N a=>?_
   obtain⟨af,ag,ah,rfl,rfl,s,t,u⟩:=G1 N
   try dsimp only at a
   refine Or.inl (aI (aI (by kernel_rfl) (by kernel_rfl)) ?_)
   obtain⟨O,A,a⟩:=z0 a
   refine eX (.bool O) (aI (R06 _ _ _ (l0 o p (K0.mono c f)) _ _ (C1 s t u) _  A) ?_)
   obtain⟨Z,C,a⟩:=z0 a
   obtain⟨Q,n,M⟩:=Sl.getG (r:=Z0.toRp) (K0.mono c f) C (by decide) (x06 K)
   refine aI (λq=>(n q).1) ?_
   obtain⟨aa,ab,ac,rfl,rfl,H,I,J⟩:=G1 M
   try dsimp only at a
   refine eX _ (aI (λq=>(n q).2) ?_)
   refine trG a (λq=>o03 _ _ _ (C1 H I J) _ _ (C1 s t u)) λP a=>?_
   obtain⟨X,z,a⟩:=z0 a
   have U:J0 P:=Q0 z
   refine ifB a (λE a=>?_) λE a=>?_
   ·obtain rfl:=oJ a
    try dsimp only[C3,V3]at b
    obtain rfl:=oJ b
    exact aI rfl c
   ·exact N1 e ⟨(IntKind.i64.wrap (d+1)),rfl,rfl,c,(I0 _),a⟩
  ·obtain rfl:=oJ a
   try dsimp only[S0,U0]at b
   obtain rfl:=oJ b
   exact aI rfl c
theorem S06(h:Hp)(i:Option Addr)(p j:Nat)(g:F0)(l:T0.R h [.slice i p j] g)(r:ByteArray)(b:t8 g=some r):
  Tr Tryz.prog 106 #[.slice i p j] h λv k=>v = .string r/\k=h:=by
 obtain⟨rfl,M⟩:=Sl.len l
 unfold t8 at b
 refine Tr.forget (C2 (args:=[.slice i g.length j]) (fn:=Tryz.f106) rfl ?_)
 obtain⟨m,z,b⟩:=z0 b
 refine eX { vars:=[3,4],boxes:=[],owns:=[],fuel:=true } (eX (λvs os k=>∃ c d,vs.tail = [.string c,.int .i64 d]/\os = []/\Sub h k/\c.size<=9223372036854775807/\J0 d/\I2 g (I1 vs) c d=some m) (eX (λ_ _=>0) (aI (eX P0 ⟨(⟨#[]⟩:ByteArray),0,rfl,rfl,(Sub.refl _),(by decide),(by decide),z⟩) ?_)))
 rintro _ _ f L ⟨c,d,⟨⟩,⟨⟩,e,H,I,a⟩
 replace a:I2 g f c d=some m:=a
 obtain _|f:=f
 ·cases a
 rw[I2.eq_2]at a
 refine ifB a (λC a=>?_) λC a=>?_
 ·refine ifB a (λD a=>?_) λD a=>?_
  ·obtain⟨S,y,a⟩:=z0 a
   have G:=Q0 y
   refine aI G ?_
   refine ldI a (T0.mono e l) λU F a=>?_
   refine trV a (i00 _ _ F) λq a=>?_
   obtain⟨N,t,a⟩:=z0 a
   have J:q.size<=9223372036854775807:=Q0 t
   obtain⟨O,u,a⟩:=z0 a
   have n:=Q0 u
   refine aI n ?_
   exact N1 f ⟨((c++(⟨#[32]⟩:ByteArray))++q),(IntKind.i64.wrap (d+1)),rfl,rfl,e,(w06 n),(I0 _),a⟩
  ·refine ldI a (T0.mono e l) λT E a=>?_
   refine trV a (i00 _ _ E) λs a=>?_
   obtain⟨P,w,a⟩:=z0 a
   have K:s.size<=9223372036854775807:=Q0 w
   obtain⟨Q,x,a⟩:=z0 a
   have o:=Q0 x
   refine aI o ?_
   exact N1 f ⟨(c++s),(IntKind.i64.wrap (d+1)),rfl,rfl,e,(w06 o),(I0 _),a⟩
 ·obtain rfl:=oJ a
  try dsimp only[S0,U0]at b
  refine ifB b (λA b=>?_) λA b=>?_
  ·obtain rfl:=oJ b
   exact aI rfl e
  ·obtain rfl:=oJ b
   exact aI rfl e
theorem T06(h:Hp)(l:Option Addr)(s m:Nat)(e:F0)(t:T0.R h [.slice l s m] e)(r:ByteArray)(b:w8 e=some r):
  Tr Tryz.prog 113 #[.slice l s m] h λv i=>v = .string r/\i=h:=by
 obtain⟨rfl,L⟩:=Sl.len t
 unfold w8 at b
 refine Tr.forget (C2 (args:=[.slice l e.length m]) (fn:=Tryz.f113) rfl ?_)
 obtain⟨o,A,b⟩:=z0 b
 refine eX { vars:=[9],boxes:=[],owns:=[0],fuel:=true } (eX (λvs os i=>∃ d k f,vs.tail = [.int .i64 d]/\os = [k]/\Sub h i/\J0 d/\F2 (Wp.str.R i) k f/\G4 e (I1 vs) d f=some o) (eX (λ_ _=>0) (aI (eX P0 ⟨0,[],([]:(List ByteArray)),rfl,rfl,(Sub.refl _),(by decide),(show F2 (Wp.str.R h) ([]:List (List Value)) ([]:(List ByteArray)) from trivial),A⟩) ?_)))
 rintro _ k j q ⟨d,U,f,⟨⟩,⟨⟩,n,I,g,a⟩
 replace a:G4 e j d f=some o:=a
 obtain _|j:=j
 ·cases a
 rw[G4.eq_2]at a
 refine ifB a (λC a=>?_) λC a=>?_
 ·refine ldI a (T0.mono n t) λT D a=>?_
  refine trV a (q01 _ _ D) λc a=>?_
  obtain⟨P,y,a⟩:=z0 a
  have p:c.size<=9223372036854775807:=Q0 y
  obtain⟨N,w,a⟩:=z0 a
  refine aI (K1 w (by first|rw[F2.length g,F2.length (show F2 (Wp.str.R q) ([[.string c]]:List (List Value)) [c] from⟨⟨rfl,p⟩,trivial⟩)]|exact congrArg (·+1) (F2.length g))) ?_
  exact N1 j ⟨(IntKind.i64.wrap (d+1)),(k++([[.string c]]:List (List Value))),(f ++ [c]),rfl,rfl,n,(I0 _),(F2.append g (show F2 (Wp.str.R q) ([[.string c]]:List (List Value)) [c] from⟨⟨rfl,p⟩,trivial⟩)),a⟩
 ·obtain rfl:=oJ a
  try dsimp only[S0,U0]at b
  refine Or.inr ?_
  intro S K u
  obtain⟨G,H,rfl,E,Q,M⟩:=E1.out (r:=Wp.str.toRp) u g
  obtain⟨F,z,b⟩:=z0 b
  refine Tr.val (E09 _ _ _ _ _ E (⟨#[32]⟩:ByteArray) (by decide) (⟨#[110,111,110,101]⟩:ByteArray) (by decide) _  z) (aI rfl ?_)
  obtain⟨O,x,b⟩:=z0 b
  have J:F.size<=9223372036854775807:=Q0 x
  obtain rfl:=oJ b
  exact aI rfl n
theorem t01(h:Hp)(w:Option Addr)(H x:Nat)(t:F0)(k:T0.R h [.slice w H x] t)(b:Int)(g:J0 b)(r:F0)(f:Y7 t b=some r):
  Tr Tryz.prog 336 #[.slice w H x,.int .i64 b] h λv s=>∃(z:Option Addr) (G A:Nat),v = .slice z G A/\T0.R s [.slice z G A] r/\Sub h s:=by
 obtain⟨rfl,am⟩:=Sl.len k
 unfold Y7 at f
 refine C2 (args:=[.slice w t.length x,.int .i64 b]) (fn:=Tryz.f336) rfl ?_
 obtain⟨y,W,f⟩:=z0 f
 refine eX { vars:=[6,7],boxes:=[],owns:=[0],fuel:=true } (eX (λvs os s=>∃ u j m i,vs.tail = [.bool u,.int .i64 j]/\os = [m]/\Sub h s/\J0 j/\F2 (Wp.int.R s) m i/\c4 t b (I1 vs) u j i=some y) (eX (λ_ _=>0) (aI (eX P0 ⟨false,0,[],([]:F0),rfl,rfl,(Sub.refl _),(by decide),(show F2 (Wp.int.R h) ([]:List (List Value)) ([]:F0) from trivial),W⟩) ?_)))
 rintro _ _ m l d ⟨u,j,aD,i,⟨⟩,⟨⟩,e,ag,c,a⟩
 replace a:c4 t b l u j i=some y:=a
 obtain _|l:=l
 ·cases a
 rw[c4.eq_2]at a
 refine ifB a (λaa a=>?_) λaa a=>?_
 ·refine ldI a (T0.mono e k) λaC aj a=>?_
  refine ifB a (λab a=>?_) λab a=>?_
  ·refine ldI a (T0.mono e k) λaA ah a=>?_
   refine ifB a (λX a=>?_) λX a=>?_
   ·obtain⟨ap,O,a⟩:=z0 a
    refine aI (K1 O (by first|rw[F2.length c,F2.length (show F2 (Wp.int.R d) ([[.int .i64 b]]:List (List Value)) [b] from⟨⟨rfl,g⟩,trivial⟩)]|exact congrArg (·+1) (F2.length c))) ?_
    refine ldI a (T0.mono e k) λn C a=>?_
    obtain⟨aq,P,a⟩:=z0 a
    refine aI (K1 P (by first|rw[F2.length (F2.append c (show F2 (Wp.int.R d) ([[.int .i64 b]]:List (List Value)) [b] from⟨⟨rfl,g⟩,trivial⟩)),F2.length (show F2 (Wp.int.R d) ([[.int .i64 n]]:List (List Value)) [n] from⟨⟨rfl,C⟩,trivial⟩)]|exact congrArg (·+1) (F2.length (F2.append c (show F2 (Wp.int.R d) ([[.int .i64 b]]:List (List Value)) [b] from⟨⟨rfl,g⟩,trivial⟩))))) ?_
    exact N1 l ⟨true,(IntKind.i64.wrap (j+1)),((m++([[.int .i64 b]]:List (List Value)))++([[.int .i64 n]]:List (List Value))),((i ++ [b]) ++ [n]),rfl,rfl,e,(I0 _),(F2.append (F2.append c (show F2 (Wp.int.R d) ([[.int .i64 b]]:List (List Value)) [b] from⟨⟨rfl,g⟩,trivial⟩)) (show F2 (Wp.int.R d) ([[.int .i64 n]]:List (List Value)) [n] from⟨⟨rfl,C⟩,trivial⟩)),a⟩
   ·refine ldI a (T0.mono e k) λo D a=>?_
    obtain⟨ar,Q,a⟩:=z0 a
    refine aI (K1 Q (by first|rw[F2.length c,F2.length (show F2 (Wp.int.R d) ([[.int .i64 o]]:List (List Value)) [o] from⟨⟨rfl,D⟩,trivial⟩)]|exact congrArg (·+1) (F2.length c))) ?_
    exact N1 l ⟨true,(IntKind.i64.wrap (j+1)),(m++([[.int .i64 o]]:List (List Value))),(i ++ [o]),rfl,rfl,e,(I0 _),(F2.append c (show F2 (Wp.int.R d) ([[.int .i64 o]]:List (List Value)) [o] from⟨⟨rfl,D⟩,trivial⟩)),a⟩
  ·refine ldI a (T0.mono e k) λaB ai a=>?_
   refine ifB a (λY a=>?_) λY a=>?_
   ·obtain⟨au,S,a⟩:=z0 a
    refine aI (K1 S (by first|rw[F2.length c,F2.length (show F2 (Wp.int.R d) ([[.int .i64 b]]:List (List Value)) [b] from⟨⟨rfl,g⟩,trivial⟩)]|exact congrArg (·+1) (F2.length c))) ?_
    refine ldI a (T0.mono e k) λp E a=>?_
    obtain⟨av,T,a⟩:=z0 a
    refine aI (K1 T (by first|rw[F2.length (F2.append c (show F2 (Wp.int.R d) ([[.int .i64 b]]:List (List Value)) [b] from⟨⟨rfl,g⟩,trivial⟩)),F2.length (show F2 (Wp.int.R d) ([[.int .i64 p]]:List (List Value)) [p] from⟨⟨rfl,E⟩,trivial⟩)]|exact congrArg (·+1) (F2.length (F2.append c (show F2 (Wp.int.R d) ([[.int .i64 b]]:List (List Value)) [b] from⟨⟨rfl,g⟩,trivial⟩))))) ?_
    exact N1 l ⟨true,(IntKind.i64.wrap (j+1)),((m++([[.int .i64 b]]:List (List Value)))++([[.int .i64 p]]:List (List Value))),((i ++ [b]) ++ [p]),rfl,rfl,e,(I0 _),(F2.append (F2.append c (show F2 (Wp.int.R d) ([[.int .i64 b]]:List (List Value)) [b] from⟨⟨rfl,g⟩,trivial⟩)) (show F2 (Wp.int.R d) ([[.int .i64 p]]:List (List Value)) [p] from⟨⟨rfl,E⟩,trivial⟩)),a⟩
   ·refine ldI a (T0.mono e k) λq F a=>?_
    obtain⟨aw,U,a⟩:=z0 a
    refine aI (K1 U (by first|rw[F2.length c,F2.length (show F2 (Wp.int.R d) ([[.int .i64 q]]:List (List Value)) [q] from⟨⟨rfl,F⟩,trivial⟩)]|exact congrArg (·+1) (F2.length c))) ?_
    exact N1 l ⟨u,(IntKind.i64.wrap (j+1)),(m++([[.int .i64 q]]:List (List Value))),(i ++ [q]),rfl,rfl,e,(I0 _),(F2.append c (show F2 (Wp.int.R d) ([[.int .i64 q]]:List (List Value)) [q] from⟨⟨rfl,F⟩,trivial⟩)),a⟩
 ·obtain rfl:=oJ a
  try dsimp only[S0,U0]at f
  refine ifB f (λZ f=>?_) λZ f=>?_
  ·obtain⟨ax,V,f⟩:=z0 f
   refine aI (K1 V (by first|rw[F2.length c,F2.length (show F2 (Wp.int.R d) ([[.int .i64 b]]:List (List Value)) [b] from⟨⟨rfl,g⟩,trivial⟩)]|exact congrArg (·+1) (F2.length c))) ?_
   intro ay ak M
   obtain⟨I,K,rfl,ac,ae,an⟩:=E1.out (r:=Wp.int.toRp) M (F2.append c (show F2 (Wp.int.R d) ([[.int .i64 b]]:List (List Value)) [b] from⟨⟨rfl,g⟩,trivial⟩))
   obtain rfl:=oJ f
   exact⟨I,((i ++ [b])).length,K,rfl,ac,(e.trans ae)⟩
  ·intro az al N
   obtain⟨J,L,rfl,ad,af,ao⟩:=E1.out (r:=Wp.int.toRp) N c
   obtain rfl:=oJ f
   exact⟨J,i.length,L,rfl,ad,(e.trans af)⟩
theorem u01(h:Hp)(i:Option Addr)(m j:Nat)(e:F0)(n:T0.R h [.slice i m j] e)(c:Int)(s:J0 c)(r:Bool)(b:Z7 e c=some r):
  Tr Tryz.prog 246 #[.slice i m j,.int .i64 c] h λv k=>v = .bool r/\k=h:=by
 obtain⟨rfl,x⟩:=Sl.len n
 unfold Z7 at b
 refine Tr.forget (C2 (args:=[.slice i e.length j,.int .i64 c]) (fn:=Tryz.f246) rfl ?_)
 obtain⟨l,o,b⟩:=z0 b
 refine eX { vars:=[5],boxes:=[],owns:=[],fuel:=true } (eX (λvs os k=>∃ d,vs.tail = [.int .i64 d]/\os = []/\Sub h k/\J0 d/\j8 e c (I1 vs) d=some l) (eX (λ_ _=>0) (aI (eX P0 ⟨0,rfl,rfl,(Sub.refl _),(by decide),o⟩) ?_)))
 rintro _ f w ⟨d,⟨⟩,⟨⟩,g,t,a⟩
 replace a:j8 e c f d=some l:=a
 obtain _|f:=f
 ·cases a
 rw[j8.eq_2]at a
 refine ifB a (λp a=>?_) λp a=>?_
 ·refine ldI a (T0.mono g n) λy u a=>?_
  refine ifB a (λq a=>?_) λq a=>?_
  ·obtain rfl:=oJ a
   try dsimp only[C3,V3]at b
   obtain rfl:=oJ b
   exact aI rfl g
  ·exact N1 f ⟨(IntKind.i64.wrap (d+1)),rfl,rfl,g,(I0 _),a⟩
 ·obtain rfl:=oJ a
  try dsimp only[S0,U0]at b
  obtain rfl:=oJ b
  exact aI rfl g
theorem J0a(h:Hp)(u:List Value)(y:j0)(aa:Y0.R h u y)(f:Int)(aj:J0 f)(g:Int)(ak:J0 g)(r:F0)(e:Q9 y f g=some r):
  Tr Tryz.prog 297 #[.agg u.toArray,.int .i64 f,.int .i64 g] h λv l=>∃(s:Option Addr) (x t:Nat),v = .slice s x t/\T0.R l [.slice s x t] r/\Sub h l:=by
 obtain⟨Y,Z,H,aA,M,o,rfl,rfl,ah,ai,z⟩:=C0 aa
 obtain⟨rfl,au⟩:=Sl.len z
 unfold Q9 at e
 dsimp only at e
 refine C2 (args:=[.agg #[.int .i64 Y,.int .i64 Z,.slice H o.length M],.int .i64 f,.int .i64 g]) (fn:=Tryz.f297) rfl ?_
 obtain⟨q,S,e⟩:=z0 e
 refine eX { vars:=[7,8],boxes:=[],owns:=[],fuel:=true,pubs:=[7,10] } (eX (λvs os l=>∃(j:Option Addr) (n k:Nat) (d:F0) (b:Int),vs.tail = [.slice j n k,.int .i64 b]/\os = []/\Sub h l/\T0.R l [.slice j n k] d/\J0 b/\Q3 o g f (I1 vs) d b=some q) (eX (λ_ _=>0) ?_))
 intro aE ap f3
 obtain⟨L,Q,rfl,ac,af,az⟩:=E1.out (r:=Wp.int.toRp) f3 (show F2 (Wp.int.R h) ([]:List (List Value)) ([]:F0) from trivial)
 refine aI (eX P0 ⟨L,(([]:F0)).length,Q,([]:F0),0,rfl,rfl,af,ac,(by decide),S⟩) ?_
 rintro _ _ c ar ⟨j,n,k,d,b,⟨⟩,⟨⟩,i,m,al,a⟩
 replace a:Q3 o g f c d b=some q:=a
 obtain _|c:=c
 ·cases a
 rw[Q3.eq_2]at a
 obtain⟨rfl,av⟩:=Sl.len m
 refine ifB a (λT a=>?_) λT a=>?_
 ·refine ld a (K0.mono i z) λaJ ag ab a=>?_
  obtain⟨aK,aL,aM,rfl,rfl,w,am,X⟩:=G1 ab
  try dsimp only at a
  refine ifB a (λU a=>?_) λU a=>?_
  ·refine trM a (t01 _ _ _ _ _ m _ X) ?_
   rintro E a aF an ⟨I,aB,N,rfl,p,D⟩
   obtain⟨rfl,aw⟩:=Sl.len p
   refine ifB a (λV a=>?_) λV a=>?_
   ·refine trM a (t01 _ _ _ _ _ p _ w) ?_
    rintro F a aG ao ⟨J,aC,O,rfl,A,ad⟩
    obtain⟨rfl,ax⟩:=Sl.len A
    exact N1 c ⟨J,F.length,O,F,(IntKind.i64.wrap (b+1)),rfl,rfl,((i.trans D).trans ad),A,(I0 _),a⟩
   ·exact N1 c ⟨I,E.length,N,E,(IntKind.i64.wrap (b+1)),rfl,rfl,(i.trans D),p,(I0 _),a⟩
  ·refine ifB a (λW a=>?_) λW a=>?_
   ·refine trM a (t01 _ _ _ _ _ m _ w) ?_
    rintro G a aH aq ⟨K,aD,P,rfl,C,ae⟩
    obtain⟨rfl,ay⟩:=Sl.len C
    exact N1 c ⟨K,G.length,P,G,(IntKind.i64.wrap (b+1)),rfl,rfl,(i.trans ae),C,(I0 _),a⟩
   ·exact N1 c ⟨j,d.length,k,d,(IntKind.i64.wrap (b+1)),rfl,rfl,i,m,(I0 _),a⟩
 ·obtain rfl:=oJ a
  try dsimp only[S0,U0]at e
  obtain rfl:=oJ e
  exact⟨j,d.length,k,rfl,m,i⟩
theorem D6(h:Hp)(d:List Value)(e:j0)(w:Y0.R h d e)(b:Int)(p:J0 b)(c:Int)(q:J0 c)(r:Int)(a:O3 e b c=some r):
  Tr Tryz.prog 214 #[.agg d.toArray,.int .i64 b,.int .i64 c] h λv l=>v = .int .i64 r/\l=h:=by
 obtain⟨s,t,j,E,k,u,rfl,rfl,n,o,f⟩:=C0 w
 obtain⟨rfl,C⟩:=Sl.len f
 unfold O3 at a
 dsimp only at a
 refine Tr.forget (C2 (args:=[.agg #[.int .i64 s,.int .i64 t,.slice j u.length k],.int .i64 b,.int .i64 c]) (fn:=Tryz.f214) rfl ?_)
 refine trM a (J0a _ _ _ (l0 n o f) _ p _ q) ?_
 rintro H a G A ⟨x,F,y,rfl,g,i⟩
 obtain⟨rfl,D⟩:=Sl.len g
 refine ifB a (λm a=>?_) λm a=>?_
 ·obtain rfl:=oJ a
  exact aI rfl i
 ·refine ldI a g λI z a=>?_
  obtain rfl:=oJ a
  exact aI rfl i
theorem G8(h:Hp)(s:List Value)(w:j0)(G:Y0.R h s w)(r:Bool)(c:n5 w=some r):
  Tr Tryz.prog 293 #[.agg s.toArray] h λv f=>v = .bool r/\f=h:=by
 obtain⟨m,n,x,W,y,g,rfl,rfl,t,u,i⟩:=C0 G
 obtain⟨rfl,V⟩:=Sl.len i
 unfold n5 at c
 dsimp only at c
 refine Tr.forget (C2 (args:=[.agg #[.int .i64 m,.int .i64 n,.slice x g.length y]]) (fn:=Tryz.f293) rfl ?_)
 obtain⟨o,z,c⟩:=z0 c
 refine eX { vars:=[3],boxes:=[],owns:=[],fuel:=true } (eX (λvs os f=>∃ d,vs.tail = [.int .i64 d]/\os = []/\Sub h f/\J0 d/\U4 g m n (I1 vs) d=some o) (eX (λ_ _=>0) (aI (eX P0 ⟨0,rfl,rfl,(Sub.refl _),(by decide),z⟩) ?_)))
 rintro _ l F ⟨d,⟨⟩,⟨⟩,e,L,b⟩
 replace b:U4 g m n l d=some o:=b
 obtain _|l:=l
 ·cases b
 rw[U4.eq_2]at b
 refine trG b (λq=>L6 _ _ _ (l0 t u (K0.mono e i))) λag b=>?_
 refine ifB b (λE b=>?_) λE b=>?_
 ·obtain⟨p,A,b⟩:=z0 b
  refine eX { vars:=[4],boxes:=[],owns:=[],fuel:=true } (eX (λvs os f=>∃ u8,vs.tail = [.int .i64 u8]/\os = []/\Sub F f/\J0 u8/\t6 d g (I1 vs) u8=some p) (eX (λ_ _=>0) (aI (eX P0 ⟨0,rfl,rfl,(Sub.refl _),(by decide),A⟩) ?_)))
  rintro _ k U ⟨u8,⟨⟩,⟨⟩,j,M,a⟩
  replace a:t6 d g k u8=some p:=a
  obtain _|k:=k
  ·cases a
  rw[t6.eq_2]at a
  refine ifB a (λC a=>?_) λC a=>?_
  ·refine ld a (K0.mono (e.trans j) i) λX J H a=>?_
   obtain⟨Y,Z,aa,rfl,rfl,N,O,P⟩:=G1 H
   try dsimp only at a
   refine ld a (K0.mono (e.trans j) i) λab K I a=>?_
   obtain⟨ac,ad,ae,rfl,rfl,Q,S,T⟩:=G1 I
   try dsimp only at a
   refine ifB a (λD a=>?_) λD a=>?_
   ·obtain rfl:=oJ a
    try dsimp only[C3,V3]at b
    obtain rfl:=oJ b
    try dsimp only[C3,V3]at c
    obtain rfl:=oJ c
    exact aI rfl (e.trans j)
   ·exact N1 k ⟨(IntKind.i64.wrap (u8+1)),rfl,rfl,j,(I0 _),a⟩
  ·obtain rfl:=oJ a
   try dsimp only[S0,U0]at b
   exact N1 l ⟨(IntKind.i64.wrap (d+1)),rfl,rfl,(e.trans j),(I0 _),b⟩
 ·obtain rfl:=oJ b
  try dsimp only[S0,U0]at c
  refine trV c (L6 _ _ _ (l0 t u (K0.mono e i))) λaf c=>?_
  obtain rfl:=oJ c
  exact aI rfl e
theorem L01(h:Hp)(u:List Value)(A:j0)(O:Y0.R h u A)(d:Int)(y:J0 d)(k:Option Addr)(z l:Nat)(e:F0)(C:T0.R h [.slice k z l] e)(r:Int×Bool)(b:I7 A d e=some r):
  Tr Tryz.prog 217 #[.agg u.toArray,.int .i64 d,.slice k z l] h λv m=>v = .tuple #[.int .i64 r.1,.bool r.2]/\m=h:=by
 obtain⟨n,j,D,U,E,o,rfl,rfl,w,x,p⟩:=C0 O
 obtain⟨rfl,S⟩:=Sl.len p
 obtain⟨rfl,T⟩:=Sl.len C
 unfold I7 at b
 dsimp only at b
 refine Tr.forget (C2 (args:=[.agg #[.int .i64 n,.int .i64 j,.slice D o.length E],.int .i64 d,.slice k e.length l]) (fn:=Tryz.f217) rfl ?_)
 refine trV b (G8 _ _ _ (l0 w x p)) λW b=>?_
 refine trG b (λq=>n7 _ _ y 0 (by decide) (IntKind.i64.wrap (j-1)) (I0 _)) λY b=>?_
 refine ifB b (λJ b=>?_) λJ b=>?_
 ·obtain rfl:=oJ b
  exact aI rfl (Sub.refl _)
 ·obtain⟨t,H,b⟩:=z0 b
  refine eX { vars:=[1,8],boxes:=[],owns:=[],fuel:=true } (eX (λvs os m=>∃ g c,vs.tail = [.int .i64 g,.int .i64 c]/\os = []/\Sub h m/\J0 g/\J0 c/\w6 e n j o (I1 vs) g c=some t) (eX (λ_ _=>0) (aI (eX P0 ⟨d,0,rfl,rfl,(Sub.refl _),y,(by decide),H⟩) ?_)))
  rintro _ _ i Q ⟨g,c,⟨⟩,⟨⟩,f,L,P,a⟩
  replace a:w6 e n j o i g c=some t:=a
  obtain _|i:=i
  ·cases a
  rw[w6.eq_2]at a
  refine ifB a (λK a=>?_) λK a=>?_
  ·refine Or.inl (aI (aI (by kernel_rfl) (by kernel_rfl)) ?_)
   refine ldI a (T0.mono f C) λX M a=>?_
   obtain⟨s,G,a⟩:=z0 a
   refine eX (.int .i64 s) (aI (D6 _ _ _ (l0 w x (K0.mono f p)) _ L _ M _  G) ?_)
   obtain⟨V,F,a⟩:=z0 a
   have N:J0 s:=Q0 F
   refine ifB a (λI a=>?_) λI a=>?_
   ·obtain rfl:=oJ a
    try dsimp only[C3,V3]at b
    obtain rfl:=oJ b
    exact aI rfl f
   ·exact N1 i ⟨s,(IntKind.i64.wrap (c+1)),rfl,rfl,f,N,(I0 _),a⟩
  ·obtain rfl:=oJ a
   try dsimp only[S0,U0]at b
   obtain rfl:=oJ b
   exact aI rfl f
theorem K0a(h:Hp)(u:List Value)(C:j0)(V:Y0.R h u C)(g:Int)(ac:J0 g)(i:Int)(ad:J0 i)(r:F0)(c:R9 C g i=some r):
  Tr Tryz.prog 286 #[.agg u.toArray,.int .i64 g,.int .i64 i] h λv n=>∃(s:Option Addr) (A t:Nat),v = .slice s A t/\New T0 h n [.slice s A t] r:=by
 obtain⟨T,U,G,am,I,p,rfl,rfl,aa,ab,F⟩:=C0 V
 obtain⟨rfl,aj⟩:=Sl.len F
 unfold R9 at c
 dsimp only at c
 refine C2 (args:=[.agg #[.int .i64 T,.int .i64 U,.slice G p.length I],.int .i64 g,.int .i64 i]) (fn:=Tryz.f286) rfl ?_
 obtain⟨q,O,c⟩:=z0 c
 refine eX { vars:=[14],boxes:=[],owns:=[0],fuel:=true } (eX (λvs os n=>∃ d j e,vs.tail = [.int .i64 d]/\os = [j]/\Sub h n/\J0 d/\F2 (Wp.int.R n) j e/\H4 p i g (I1 vs) d e=some q) (eX (λ_ _=>0) (aI (eX P0 ⟨0,[],([]:F0),rfl,rfl,(Sub.refl _),(by decide),(show F2 (Wp.int.R h) ([]:List (List Value)) ([]:F0) from trivial),O⟩) ?_)))
 rintro _ j f o ⟨d,aB,e,⟨⟩,⟨⟩,m,ae,b,a⟩
 replace a:H4 p i g f d e=some q:=a
 obtain _|f:=f
 ·cases a
 rw[H4.eq_2]at a
 refine ifB a (λQ a=>?_) λQ a=>?_
 ·refine ld a (K0.mono m F) λaz Y W a=>?_
  obtain⟨k,aA,l,rfl,rfl,y,af,z⟩:=G1 W
  try dsimp only at a
  refine ifB a (λS a=>?_) λS a=>?_
  ·obtain⟨ap,N,a⟩:=z0 a
   refine aI (K1 N (by first|rw[F2.length b,F2.length (show F2 (Wp.int.R o) ([[.int .i64 l]]:List (List Value)) [l] from⟨⟨rfl,z⟩,trivial⟩)]|exact congrArg (·+1) (F2.length b))) ?_
   exact N1 f ⟨(IntKind.i64.wrap (d+1)),(j++([[.int .i64 l]]:List (List Value))),(e ++ [l]),rfl,rfl,m,(I0 _),(F2.append b (show F2 (Wp.int.R o) ([[.int .i64 l]]:List (List Value)) [l] from⟨⟨rfl,z⟩,trivial⟩)),a⟩
  ·refine ifB a (λP a=>?_) λP a=>?_
   ·obtain⟨an,L,a⟩:=z0 a
    refine aI (K1 L (by first|rw[F2.length b,F2.length (show F2 (Wp.int.R o) ([[.int .i64 k]]:List (List Value)) [k] from⟨⟨rfl,y⟩,trivial⟩)]|exact congrArg (·+1) (F2.length b))) ?_
    exact N1 f ⟨(IntKind.i64.wrap (d+1)),(j++([[.int .i64 k]]:List (List Value))),(e ++ [k]),rfl,rfl,m,(I0 _),(F2.append b (show F2 (Wp.int.R o) ([[.int .i64 k]]:List (List Value)) [k] from⟨⟨rfl,y⟩,trivial⟩)),a⟩
   ·exact N1 f ⟨(IntKind.i64.wrap (d+1)),j,e,rfl,rfl,m,(I0 _),b,a⟩
 ·obtain rfl:=oJ a
  try dsimp only[S0,U0]at c
  refine Or.inl ?_
  intro aw ag K
  obtain⟨ao,M,c⟩:=z0 c
  refine Tr.mono (T0j _ K b (Q0 M)) ?_
  rintro _ ah ⟨rfl,ax,w,D⟩
  obtain⟨X,Z,rfl,aq,au,ak⟩:=E1.out (r:=Wp.int.toRp) w D
  refine Tr.mono (U0j _ w D) ?_
  rintro _ ai ⟨ay,x,E⟩
  obtain⟨H,J,rfl,ar,av,al⟩:=E1.out (r:=Wp.int.toRp) x E
  obtain rfl:=oJ c
  exact⟨H,((z02 eqI (W04 A8 e))).length,J,rfl,(New.from (E1.newPlain (r:=Wp.int) x E (M0e _)) m)⟩
theorem E6(h:Hp)(d:List Value)(e:j0)(y:Y0.R h d e)(b:Int)(q:J0 b)(c:Int)(s:J0 c)(r:Int)(a:P3 e b c=some r):
  Tr Tryz.prog 201 #[.agg d.toArray,.int .i64 b,.int .i64 c] h λv m=>v = .int .i64 r/\m=h:=by
 obtain⟨u,w,k,F,l,x,rfl,rfl,o,p,f⟩:=C0 y
 obtain⟨rfl,D⟩:=Sl.len f
 unfold P3 at a
 dsimp only at a
 refine Tr.forget (C2 (args:=[.agg #[.int .i64 u,.int .i64 w,.slice k x.length l],.int .i64 b,.int .i64 c]) (fn:=Tryz.f201) rfl ?_)
 refine trM a (K0a _ _ _ (l0 o p f) _ q _ s) ?_
 rintro I a H t ⟨z,G,A,rfl,j⟩
 have i:Sub h t:=j.sub
 have g:=j.r
 obtain⟨rfl,E⟩:=Sl.len g
 refine ifB a (λn a=>?_) λn a=>?_
 ·obtain rfl:=oJ a
  exact aI rfl i
 ·refine ldI a g λJ C a=>?_
  obtain rfl:=oJ a
  exact aI rfl i
theorem w9(h:Hp)(p:List Value)(q:j0)(S:Y0.R h p q)(r:Bool)(c:T5 q=some r):
  Tr Tryz.prog 219 #[.agg p.toArray] h λv f=>v = .bool r/\f=h:=by
 obtain⟨O,P,y,am,z,m,rfl,rfl,L,M,k⟩:=C0 S
 obtain⟨rfl,ak⟩:=Sl.len k
 unfold T5 at c
 dsimp only at c
 refine Tr.forget (C2 (args:=[.agg #[.int .i64 O,.int .i64 P,.slice y m.length z]]) (fn:=Tryz.f219) rfl ?_)
 refine trV c (j00 _ _ _ (l0 L M k)) λan c=>?_
 refine ifB c (λI c=>?_) λI c=>?_
 ·obtain rfl:=oJ c
  exact aI rfl (Sub.refl _)
 ·obtain⟨o,F,c⟩:=z0 c
  refine eX { vars:=[13],boxes:=[],owns:=[],fuel:=true } (eX (λvs os f=>∃ e,vs.tail = [.int .i64 e]/\os = []/\Sub h f/\J0 e/\B6 m (I1 vs) e=some o) (eX (λ_ _=>0) (aI (eX P0 ⟨0,rfl,rfl,(Sub.refl _),(by decide),F⟩) ?_)))
  rintro _ j N ⟨e,⟨⟩,⟨⟩,g,ac,a⟩
  replace a:B6 m j e=some o:=a
  obtain _|j:=j
  ·cases a
  rw[B6.eq_2]at a
  refine ifB a (λJ a=>?_) λJ a=>?_
  ·refine ld a (K0.mono g k) λau Z U a=>?_
   obtain⟨t,u,w,rfl,rfl,ag,ah,ai⟩:=G1 U
   try dsimp only at a
   obtain⟨x,D,a⟩:=z0 a
   obtain⟨Q,V,A,C⟩:=Sl.cutI (r:=Z0.toRp) (K0.mono g k) D
   refine aI Q (eX V (aI A ?_))
   intro W K _
   obtain⟨X,aa,rfl,s⟩:=C W K
   have al:=(Sl.len s).2
   obtain⟨n,E,a⟩:=z0 a
   refine eX { vars:=[24],boxes:=[],owns:=[],fuel:=true } (eX (λvs os f=>∃ d,vs.tail = [.int .i64 d]/\os = []/\Sub N f/\J0 d/\A6 x u t w (I1 vs) d=some n) (eX (λ_ _=>0) (aI (eX P0 ⟨0,rfl,rfl,(Sub.refl _),(by decide),E⟩) ?_)))
   rintro _ i aj ⟨d,⟨⟩,⟨⟩,l,ab,b⟩
   replace b:A6 x u t w i d=some n:=b
   obtain _|i:=i
   ·cases b
   rw[A6.eq_2]at b
   refine ifB b (λG b=>?_) λG b=>?_
   ·refine ld b (K0.mono l s) λao Y T b=>?_
    obtain⟨ap,aq,ar,rfl,rfl,ad,ae,af⟩:=G1 T
    try dsimp only at b
    refine ifB b (λH b=>?_) λH b=>?_
    ·obtain rfl:=oJ b
     try dsimp only[C3,V3]at a
     obtain rfl:=oJ a
     try dsimp only[C3,V3]at c
     obtain rfl:=oJ c
     exact aI rfl (g.trans l)
    ·exact N1 i ⟨(IntKind.i64.wrap (d+1)),rfl,rfl,l,(I0 _),b⟩
   ·obtain rfl:=oJ b
    try dsimp only[S0,U0]at a
    exact N1 j ⟨(IntKind.i64.wrap (e+1)),rfl,rfl,(g.trans l),(I0 _),a⟩
  ·obtain rfl:=oJ a
   try dsimp only[S0,U0]at c
   obtain rfl:=oJ c
   exact aI rfl g
theorem K00(h:Hp)(q:List Value)(t:j0)(L:Y0.R h q t)(d:Int)(H:J0 d)(j:Option Addr)(s k:Nat)(e:F0)(w:T0.R h [.slice j s k] e)(r:Int×Int)(b:C6 t d e=some r):
  Tr Tryz.prog 224 #[.agg q.toArray,.int .i64 d,.slice j s k] h λv l=>v = .tuple #[.int .i64 r.1,.int .i64 r.2]/\l=h:=by
 obtain⟨m,n,y,Q,z,o,rfl,rfl,F,G,u⟩:=C0 L
 obtain⟨rfl,O⟩:=Sl.len u
 obtain⟨rfl,P⟩:=Sl.len w
 unfold C6 at b
 dsimp only at b
 refine Tr.forget (C2 (args:=[.agg #[.int .i64 m,.int .i64 n,.slice y o.length z],.int .i64 d,.slice j e.length k]) (fn:=Tryz.f224) rfl ?_)
 obtain⟨p,C,b⟩:=z0 b
 refine eX { vars:=[1,13],boxes:=[],owns:=[],fuel:=true } (eX (λvs os l=>∃ g c,vs.tail = [.int .i64 g,.int .i64 c]/\os = []/\Sub h l/\J0 g/\J0 c/\C5 e m n o (I1 vs) g c=some p) (eX (λ_ _=>0) (aI (eX P0 ⟨d,0,rfl,rfl,(Sub.refl _),H,(by decide),C⟩) ?_)))
 rintro _ _ i N ⟨g,c,⟨⟩,⟨⟩,f,I,M,a⟩
 replace a:C5 e m n o i g c=some p:=a
 obtain _|i:=i
 ·cases a
 rw[C5.eq_2]at a
 refine ifB a (λE a=>?_) λE a=>?_
 ·refine ldI a (T0.mono f w) λT J a=>?_
  refine trV a (E6 _ _ _ (l0 F G (K0.mono f u)) _ I _ J) λx a=>?_
  obtain⟨S,A,a⟩:=z0 a
  have K:J0 x:=Q0 A
  refine ifB a (λD a=>?_) λD a=>?_
  ·obtain rfl:=oJ a
   try dsimp only[C3,V3]at b
   obtain rfl:=oJ b
   exact aI rfl f
  ·exact N1 i ⟨x,(IntKind.i64.wrap (c+1)),rfl,rfl,f,K,(I0 _),a⟩
 ·obtain rfl:=oJ a
  try dsimp only[S0,U0]at b
  obtain rfl:=oJ b
  exact aI rfl f
theorem U5(h:Hp)(d:List Value)(f:j0)(w:Y0.R h d f)(r:j0)(a:U3 f=some r):
  Tr Tryz.prog 132 #[.agg d.toArray] h λv s=>∃(c:List Value),v = .agg c.toArray/\New Y0 h s c r:=by
 obtain⟨g,i,l,C,n,j,rfl,rfl,t,u,k⟩:=C0 w
 obtain⟨rfl,z⟩:=Sl.len k
 unfold U3 at a
 dsimp only at a
 refine C2 (args:=[.agg #[.int .i64 g,.int .i64 i,.slice l j.length n]]) (fn:=Tryz.f132) rfl ?_
 refine Or.inr (Or.inr (Or.inl (aI (aI (by kernel_rfl) (by kernel_rfl)) ?_)))
 refine Or.inr ?_
 refine Or.inr ?_
 refine Or.inr ?_
 refine Or.inr ?_
 refine Or.inl (eX 0 (aI (aI rfl rfl) ?_))
 refine aI trivial (aI (by first|exact trivial|exact rfl) ?_)
 obtain⟨x,p,b⟩:=Sl.rows (r:=Z0.toRp) k
 refine eX x (aI p ?_)
 obtain⟨D,q,a⟩:=z0 a
 refine aI (K1 q (by first|rw[F2.length (show F2 (Z0.R h) ([]:List (List Value)) ([]:M0) from trivial),F2.length b]|exact congrArg (·+1) (F2.length (show F2 (Z0.R h) ([]:List (List Value)) ([]:M0) from trivial)))) ?_
 refine aI trivial (aI (by first|exact trivial|exact rfl) ?_)
 refine aI trivial (aI (by first|exact trivial|exact rfl) ?_)
 refine aI trivial (aI (by first|exact trivial|exact rfl) ?_)
 intro G y e
 obtain⟨m,o,rfl,E,F,A⟩:=E1.out (r:=Z0.toRp) e (F2.append (show F2 (Z0.R h) ([]:List (List Value)) ([]:M0) from trivial) b)
 obtain rfl:=oJ a
 exact⟨([.int .i64 g,.int .i64 i,.slice m ((([]:M0)++j)).length o]),rfl,(New.pair (New.int t) (New.pair (New.int u) (E1.newPlain (r:=Z0) e (F2.append (show F2 (Z0.R h) ([]:List (List Value)) ([]:M0) from trivial) b) (N05 _))))⟩
theorem L8(h:Hp)(J:Option Addr)(ad K:Nat)(H:M0)(q:K0.R h [.slice J ad K] H)(O:List Value)(ae:D0)(aG:Z0.R h O ae)(r:M0)(g:Y5 H ae=some r):
  Tr Tryz.prog 248 #[.slice J ad K,.agg O.toArray] h λv G=>∃(M:Option Addr) (ac N:Nat),v = .slice M ac N/\K0.R G [.slice M ac N] r/\Sub h G:=by
 obtain⟨rfl,a0⟩:=Sl.len q
 obtain⟨b,c,d,rfl,rfl,i,j,k⟩:=G1 aG
 unfold Y5 at g
 dsimp only at g
 refine C2 (args:=[.slice J H.length K,.agg #[.int .i64 b,.int .i64 c,.int .i64 d]]) (fn:=Tryz.f248) rfl ?_
 obtain⟨L,ax,g⟩:=z0 g
 refine eX { vars:=[6,7],boxes:=[],owns:=[0],fuel:=true } (eX (λvs os G=>∃ I n p m,vs.tail = [.bool I,.int .i64 n]/\os = [p]/\Sub h G/\J0 n/\F2 (Z0.R G) p m/\d4 H b c d (I1 vs) I n m=some L) (eX (λ_ _=>0) (aI (eX P0 ⟨false,0,[],([]:M0),rfl,rfl,(Sub.refl _),(by decide),(show F2 (Z0.R h) ([]:List (List Value)) ([]:M0) from trivial),ax⟩) ?_)))
 rintro _ _ p o f ⟨I,n,bq,m,⟨⟩,⟨⟩,l,aW,e,a⟩
 replace a:d4 H b c d o I n m=some L:=a
 obtain _|o:=o
 ·cases a
 rw[d4.eq_2]at a
 refine ifB a (λaC a=>?_) λaC a=>?_
 ·refine Or.inl (aI (aI (by kernel_rfl) (by kernel_rfl)) ?_)
  refine ld a (K0.mono l q) λbm aV aM a=>?_
  obtain⟨bn,bo,bp,rfl,rfl,aD,aE,aF⟩:=G1 aM
  try dsimp only at a
  obtain⟨af,aw,a⟩:=z0 a
  refine eX (.int .i64 af) (aI (n03 _ _ _ (C1 i j k) _ _ (C1 aD aE aF) _  aw) ?_)
  obtain⟨a3,am,a⟩:=z0 a
  have aX:J0 af:=Q0 am
  refine ifB a (λay a=>?_) λay a=>?_
  ·refine ifB a (λaz a=>?_) λaz a=>?_
   ·obtain⟨a4,an,a⟩:=z0 a
    refine aI (K1 an (by first|rw[F2.length e,F2.length (show F2 (Z0.R f) ([[.int .i64 b,.int .i64 c,.int .i64 d]]:List (List Value)) [(b,c,d)] from⟨(C1 i j k),trivial⟩)]|exact congrArg (·+1) (F2.length e))) ?_
    refine ld a (K0.mono l q) λbi aR aH a=>?_
    obtain⟨s,t,u,rfl,rfl,P,Q,S⟩:=G1 aH
    try dsimp only at a
    obtain⟨ba,ao,a⟩:=z0 a
    refine aI (K1 ao (by first|rw[F2.length (F2.append e (show F2 (Z0.R f) ([[.int .i64 b,.int .i64 c,.int .i64 d]]:List (List Value)) [(b,c,d)] from⟨(C1 i j k),trivial⟩)),F2.length (show F2 (Z0.R f) ([[.int .i64 s,.int .i64 t,.int .i64 u]]:List (List Value)) [(s,t,u)] from⟨(C1 P Q S),trivial⟩)]|exact congrArg (·+1) (F2.length (F2.append e (show F2 (Z0.R f) ([[.int .i64 b,.int .i64 c,.int .i64 d]]:List (List Value)) [(b,c,d)] from⟨(C1 i j k),trivial⟩))))) ?_
    exact N1 o ⟨true,(IntKind.i64.wrap (n+1)),((p++([[.int .i64 b,.int .i64 c,.int .i64 d]]:List (List Value)))++([[.int .i64 s,.int .i64 t,.int .i64 u]]:List (List Value))),((m ++ [(b,c,d)]) ++ [(s,t,u)]),rfl,rfl,l,(I0 _),(F2.append (F2.append e (show F2 (Z0.R f) ([[.int .i64 b,.int .i64 c,.int .i64 d]]:List (List Value)) [(b,c,d)] from⟨(C1 i j k),trivial⟩)) (show F2 (Z0.R f) ([[.int .i64 s,.int .i64 t,.int .i64 u]]:List (List Value)) [(s,t,u)] from⟨(C1 P Q S),trivial⟩)),a⟩
   ·refine ld a (K0.mono l q) λbj aS aJ a=>?_
    obtain⟨w,x,y,rfl,rfl,T,U,V⟩:=G1 aJ
    try dsimp only at a
    obtain⟨bb,ap,a⟩:=z0 a
    refine aI (K1 ap (by first|rw[F2.length e,F2.length (show F2 (Z0.R f) ([[.int .i64 w,.int .i64 x,.int .i64 y]]:List (List Value)) [(w,x,y)] from⟨(C1 T U V),trivial⟩)]|exact congrArg (·+1) (F2.length e))) ?_
    exact N1 o ⟨true,(IntKind.i64.wrap (n+1)),(p++([[.int .i64 w,.int .i64 x,.int .i64 y]]:List (List Value))),(m ++ [(w,x,y)]),rfl,rfl,l,(I0 _),(F2.append e (show F2 (Z0.R f) ([[.int .i64 w,.int .i64 x,.int .i64 y]]:List (List Value)) [(w,x,y)] from⟨(C1 T U V),trivial⟩)),a⟩
  ·refine ifB a (λaA a=>?_) λaA a=>?_
   ·obtain⟨bc,aq,a⟩:=z0 a
    refine aI (K1 aq (by first|rw[F2.length e,F2.length (show F2 (Z0.R f) ([[.int .i64 b,.int .i64 c,.int .i64 d]]:List (List Value)) [(b,c,d)] from⟨(C1 i j k),trivial⟩)]|exact congrArg (·+1) (F2.length e))) ?_
    refine ld a (K0.mono l q) λbk aT aK a=>?_
    obtain⟨z,A,C,rfl,rfl,W,X,Y⟩:=G1 aK
    try dsimp only at a
    obtain⟨bd,ar,a⟩:=z0 a
    refine aI (K1 ar (by first|rw[F2.length (F2.append e (show F2 (Z0.R f) ([[.int .i64 b,.int .i64 c,.int .i64 d]]:List (List Value)) [(b,c,d)] from⟨(C1 i j k),trivial⟩)),F2.length (show F2 (Z0.R f) ([[.int .i64 z,.int .i64 A,.int .i64 C]]:List (List Value)) [(z,A,C)] from⟨(C1 W X Y),trivial⟩)]|exact congrArg (·+1) (F2.length (F2.append e (show F2 (Z0.R f) ([[.int .i64 b,.int .i64 c,.int .i64 d]]:List (List Value)) [(b,c,d)] from⟨(C1 i j k),trivial⟩))))) ?_
    exact N1 o ⟨true,(IntKind.i64.wrap (n+1)),((p++([[.int .i64 b,.int .i64 c,.int .i64 d]]:List (List Value)))++([[.int .i64 z,.int .i64 A,.int .i64 C]]:List (List Value))),((m ++ [(b,c,d)]) ++ [(z,A,C)]),rfl,rfl,l,(I0 _),(F2.append (F2.append e (show F2 (Z0.R f) ([[.int .i64 b,.int .i64 c,.int .i64 d]]:List (List Value)) [(b,c,d)] from⟨(C1 i j k),trivial⟩)) (show F2 (Z0.R f) ([[.int .i64 z,.int .i64 A,.int .i64 C]]:List (List Value)) [(z,A,C)] from⟨(C1 W X Y),trivial⟩)),a⟩
   ·refine ld a (K0.mono l q) λbl aU aL a=>?_
    obtain⟨D,E,F,rfl,rfl,Z,aa,ab⟩:=G1 aL
    try dsimp only at a
    obtain⟨be,au,a⟩:=z0 a
    refine aI (K1 au (by first|rw[F2.length e,F2.length (show F2 (Z0.R f) ([[.int .i64 D,.int .i64 E,.int .i64 F]]:List (List Value)) [(D,E,F)] from⟨(C1 Z aa ab),trivial⟩)]|exact congrArg (·+1) (F2.length e))) ?_
    exact N1 o ⟨I,(IntKind.i64.wrap (n+1)),(p++([[.int .i64 D,.int .i64 E,.int .i64 F]]:List (List Value))),(m ++ [(D,E,F)]),rfl,rfl,l,(I0 _),(F2.append e (show F2 (Z0.R f) ([[.int .i64 D,.int .i64 E,.int .i64 F]]:List (List Value)) [(D,E,F)] from⟨(C1 Z aa ab),trivial⟩)),a⟩
 ·obtain rfl:=oJ a
  try dsimp only[S0,U0]at g
  refine ifB g (λaB g=>?_) λaB g=>?_
  ·obtain⟨bf,av,g⟩:=z0 g
   refine aI (K1 av (by first|rw[F2.length e,F2.length (show F2 (Z0.R f) ([[.int .i64 b,.int .i64 c,.int .i64 d]]:List (List Value)) [(b,c,d)] from⟨(C1 i j k),trivial⟩)]|exact congrArg (·+1) (F2.length e))) ?_
   intro bg aY ak
   obtain⟨ag,ai,rfl,aN,aP,a1⟩:=E1.out (r:=Z0.toRp) ak (F2.append e (show F2 (Z0.R f) ([[.int .i64 b,.int .i64 c,.int .i64 d]]:List (List Value)) [(b,c,d)] from⟨(C1 i j k),trivial⟩))
   obtain rfl:=oJ g
   exact⟨ag,((m ++ [(b,c,d)])).length,ai,rfl,aN,(l.trans aP)⟩
  ·intro bh aZ al
   obtain⟨ah,aj,rfl,aO,aQ,a2⟩:=E1.out (r:=Z0.toRp) al e
   obtain rfl:=oJ g
   exact⟨ah,m.length,aj,rfl,aO,(l.trans aQ)⟩
theorem D0b(h:Hp)(m:List Value)(n:j0)(A:Y0.R h m n)(g:Int)(K:J0 g)(r:Int)(f:r9 n g=some r):
  Tr Tryz.prog 318 #[.agg m.toArray,.int .i64 g] h λv j=>v = .int .i64 r/\j=h:=by
 obtain⟨y,z,o,Y,p,k,rfl,rfl,I,J,i⟩:=C0 A
 obtain⟨rfl,X⟩:=Sl.len i
 unfold r9 at f
 dsimp only at f
 refine Tr.forget (C2 (args:=[.agg #[.int .i64 y,.int .i64 z,.slice o k.length p],.int .i64 g]) (fn:=Tryz.f318) rfl ?_)
 obtain⟨l,q,f⟩:=z0 f
 refine eX { vars:=[5,6],boxes:=[],owns:=[],fuel:=true } (eX (λvs os j=>∃ b c,vs.tail = [.int .i64 b,.int .i64 c]/\os = []/\Sub h j/\J0 b/\J0 c/\Z2 k g (I1 vs) b c=some l) (eX (λ_ _=>0) (aI (eX P0 ⟨0,0,rfl,rfl,(Sub.refl _),(by decide),(by decide),q⟩) ?_)))
 rintro _ _ e W ⟨b,c,⟨⟩,⟨⟩,d,x,L,a⟩
 replace a:Z2 k g e b c=some l:=a
 obtain _|e:=e
 ·cases a
 rw[Z2.eq_2]at a
 refine ifB a (λu a=>?_) λu a=>?_
 ·refine ld a (K0.mono d i) λad G D a=>?_
  obtain⟨ae,af,ag,rfl,rfl,P,Q,S⟩:=G1 D
  try dsimp only at a
  refine ifB a (λw a=>?_) λw a=>?_
  ·refine ld a (K0.mono d i) λah H E a=>?_
   obtain⟨ai,aj,ak,rfl,rfl,T,U,V⟩:=G1 E
   try dsimp only at a
   refine ifB a (λs a=>?_) λs a=>?_
   ·exact N1 e ⟨(IntKind.i64.wrap ((IntKind.i64.wrap (b+1))+1)),(IntKind.i64.wrap (c+1)),rfl,rfl,d,(I0 _),(I0 _),a⟩
   ·exact N1 e ⟨(IntKind.i64.wrap (b+1)),(IntKind.i64.wrap (c+1)),rfl,rfl,d,(I0 _),(I0 _),a⟩
  ·refine ld a (K0.mono d i) λZ F C a=>?_
   obtain⟨aa,ab,ac,rfl,rfl,M,N,O⟩:=G1 C
   try dsimp only at a
   refine ifB a (λt a=>?_) λt a=>?_
   ·exact N1 e ⟨(IntKind.i64.wrap (b+1)),(IntKind.i64.wrap (c+1)),rfl,rfl,d,(I0 _),(I0 _),a⟩
   ·exact N1 e ⟨b,(IntKind.i64.wrap (c+1)),rfl,rfl,d,x,(I0 _),a⟩
 ·obtain rfl:=oJ a
  try dsimp only[S0,U0]at f
  obtain rfl:=oJ f
  exact aI rfl d
theorem y08(h:Hp)(k:List Value)(m:j0)(F:Y0.R h k m)(l:List Value)(n:j0)(G:Y0.R h l n)(r:Bool)(b:c9 m n=some r):
  Tr Tryz.prog 194 #[.agg k.toArray,.agg l.toArray] h λv f=>v = .bool r/\f=h:=by
 obtain⟨A,C,q,ag,t,g,rfl,rfl,S,T,o⟩:=C0 F
 obtain⟨rfl,ae⟩:=Sl.len o
 obtain⟨D,E,s,ah,u,i,rfl,rfl,U,V,p⟩:=C0 G
 obtain⟨rfl,af⟩:=Sl.len p
 unfold c9 at b
 dsimp only at b
 refine Tr.forget (C2 (args:=[.agg #[.int .i64 A,.int .i64 C,.slice q g.length t],.agg #[.int .i64 D,.int .i64 E,.slice s i.length u]]) (fn:=Tryz.f194) rfl ?_)
 refine ifB b (λx b=>?_) λx b=>?_
 ·obtain rfl:=oJ b
  exact aI rfl (Sub.refl _)
 ·obtain⟨j,w,b⟩:=z0 b
  refine eX { vars:=[5],boxes:=[],owns:=[],fuel:=true } (eX (λvs os f=>∃ c,vs.tail = [.int .i64 c]/\os = []/\Sub h f/\J0 c/\J5 g i (I1 vs) c=some j) (eX (λ_ _=>0) (aI (eX P0 ⟨0,rfl,rfl,(Sub.refl _),(by decide),w⟩) ?_)))
  rintro _ e ad ⟨c,⟨⟩,⟨⟩,d,W,a⟩
  replace a:J5 g i e c=some j:=a
  obtain _|e:=e
  ·cases a
  rw[J5.eq_2]at a
  refine ifB a (λy a=>?_) λy a=>?_
  ·refine Or.inl (aI (aI (by kernel_rfl) (by kernel_rfl)) ?_)
   refine ld a (K0.mono d o) λai P H a=>?_
   obtain⟨J,K,L,rfl,rfl,X,Y,Z⟩:=G1 H
   try dsimp only at a
   refine ld a (K0.mono d p) λaj Q I a=>?_
   obtain⟨M,N,O,rfl,rfl,aa,ab,ac⟩:=G1 I
   try dsimp only at a
   refine eX (!eqE (J,K,L) (M,N,O)) (aI (D0g _ _ _ rfl _ _ _ _ _ _) ?_)
   refine ifB a (λz a=>?_) λz a=>?_
   ·obtain rfl:=oJ a
    try dsimp only[C3,V3]at b
    obtain rfl:=oJ b
    exact aI rfl d
   ·exact N1 e ⟨(IntKind.i64.wrap (c+1)),rfl,rfl,d,(I0 _),a⟩
  ·obtain rfl:=oJ a
   try dsimp only[S0,U0]at b
   obtain rfl:=oJ b
   exact aI rfl d
theorem z08(h:Hp)(J:List Value)(M:j0)(ax:Y0.R h J M)(f:Int)(K:J0 f)(r:F0)(b:d9 M f=some r):
  Tr Tryz.prog 334 #[.agg J.toArray,.int .i64 f] h λv e=>∃(H:Option Addr) (L I:Nat),v = .slice H L I/\T0.R e [.slice H L I] r/\Sub h e:=by
 obtain⟨aw,N,V,aY,ab,t,rfl,rfl,ar,au,C⟩:=C0 ax
 obtain⟨rfl,aQ⟩:=Sl.len C
 unfold d9 at b
 dsimp only at b
 refine C2 (args:=[.agg #[.int .i64 aw,.int .i64 N,.slice V t.length ab],.int .i64 f]) (fn:=Tryz.f334) rfl ?_
 refine trV b (L6 _ _ _ (l0 ar au C)) λbc b=>?_
 refine trG b (λq=>n7 _ _ K 0 (by decide) (IntKind.i64.wrap (N-1)) (I0 _)) λbd b=>?_
 refine ifB b (λao b=>?_) λao b=>?_
 ·intro ba aO ai
  obtain⟨aa,ag,rfl,aA,aE,aX⟩:=E1.out (r:=Wp.int.toRp) ai (show F2 (Wp.int.R h) ([]:List (List Value)) ([]:F0) from trivial)
  obtain rfl:=oJ b
  exact⟨aa,(([]:F0)).length,ag,rfl,aA,aE⟩
 ·obtain⟨F,aj,b⟩:=z0 b
  refine eX { vars:=[5,6],boxes:=[],owns:=[],fuel:=true,pubs:=[5,22] } (eX (λvs os e=>∃(n:Option Addr) (z p:Nat) (k:F0) (m:Int),vs.tail = [.slice n z p,.int .i64 m]/\os = []/\Sub h e/\T0.R e [.slice n z p] k/\J0 m/\Z4 t (I1 vs) k m=some F) (eX (λ_ _=>0) ?_))
  intro bb aP ah
  obtain⟨Z,af,rfl,az,aD,aW⟩:=E1.out (r:=Wp.int.toRp) ah (show F2 (Wp.int.R h) ([[.int .i64 f]]:List (List Value)) [f] from⟨⟨rfl,K⟩,trivial⟩)
  refine aI (eX P0 ⟨Z,([f]).length,af,[f],0,rfl,rfl,aD,az,(by decide),aj⟩) ?_
  rintro _ _ u av ⟨n,z,p,k,m,⟨⟩,⟨⟩,E,D,aG,c⟩
  replace c:Z4 t u k m=some F:=c
  obtain _|u:=u
  ·cases c
  rw[Z4.eq_2]at c
  obtain⟨rfl,aR⟩:=Sl.len D
  refine ifB c (λal c=>?_) λal c=>?_
  ·obtain⟨G,ak,c⟩:=z0 c
   refine eX { vars:=[5,7],boxes:=[],owns:=[],fuel:=true } (eX (λvs os e=>∃ o A s g d,vs.tail = [.slice o A s,.int .i64 d]/\os = []/\Sub av e/\T0.R e [.slice o A s] g/\J0 d/\V2 t (I1 vs) g d=some G) (eX (λ_ _=>0) (aI (eX P0 ⟨n,k.length,p,k,0,rfl,rfl,(Sub.refl _),D,(by decide),ak⟩) ?_)))
   rintro _ _ i aK ⟨o,A,s,g,d,⟨⟩,⟨⟩,l,j,aH,a⟩
   replace a:V2 t i g d=some G:=a
   obtain _|i:=i
   ·cases a
   rw[V2.eq_2]at a
   obtain⟨rfl,aS⟩:=Sl.len j
   refine ifB a (λam a=>?_) λam a=>?_
   ·refine ld a (K0.mono (E.trans l) C) λbe aF ay a=>?_
    obtain⟨bf,bg,bh,rfl,rfl,x,aJ,y⟩:=G1 ay
    try dsimp only at a
    refine trV a (u01 _ _ _ _ _ j _ x) λbi a=>?_
    refine ifB a (λan a=>?_) λan a=>?_
    ·refine trM a (t01 _ _ _ _ _ j _ y) ?_
     rintro S a a2 aL ⟨W,aZ,ac,rfl,w,Q⟩
     obtain⟨rfl,aT⟩:=Sl.len w
     refine trV a (u01 _ _ _ _ _ w _ y) λbj a=>?_
     refine ifB a (λap a=>?_) λap a=>?_
     ·refine trM a (t01 _ _ _ _ _ w _ x) ?_
      rintro T a a3 aM ⟨X,a0,ad,rfl,O,aB⟩
      obtain⟨rfl,aU⟩:=Sl.len O
      exact N1 i ⟨X,T.length,ad,T,(IntKind.i64.wrap (d+1)),rfl,rfl,((l.trans Q).trans aB),O,(I0 _),a⟩
     ·exact N1 i ⟨W,S.length,ac,S,(IntKind.i64.wrap (d+1)),rfl,rfl,(l.trans Q),w,(I0 _),a⟩
    ·refine trV a (u01 _ _ _ _ _ j _ y) λbk a=>?_
     refine ifB a (λaq a=>?_) λaq a=>?_
     ·refine trM a (t01 _ _ _ _ _ j _ x) ?_
      rintro U a a4 aN ⟨Y,a1,ae,rfl,P,aC⟩
      obtain⟨rfl,aV⟩:=Sl.len P
      exact N1 i ⟨Y,U.length,ae,U,(IntKind.i64.wrap (d+1)),rfl,rfl,(l.trans aC),P,(I0 _),a⟩
     ·exact N1 i ⟨o,g.length,s,g,(IntKind.i64.wrap (d+1)),rfl,rfl,l,j,(I0 _),a⟩
   ·obtain rfl:=oJ a
    try dsimp only[S0,U0]at c
    exact N1 u ⟨o,g.length,s,g,(IntKind.i64.wrap (m+1)),rfl,rfl,(E.trans l),j,(I0 _),c⟩
  ·obtain rfl:=oJ c
   try dsimp only[S0,U0]at b
   obtain rfl:=oJ b
   exact⟨n,k.length,p,rfl,D,E⟩
theorem Y07(h:Hp)(n:List Value)(t:j0)(F:Y0.R h n t)(r:Int)(b:D00 t=some r):
  Tr Tryz.prog 294 #[.agg n.toArray] h λv f=>v = .int .i64 r/\f=h:=by
 obtain⟨g,i,x,N,y,j,rfl,rfl,o,p,k⟩:=C0 F
 obtain⟨rfl,L⟩:=Sl.len k
 unfold D00 at b
 dsimp only at b
 refine Tr.forget (C2 (args:=[.agg #[.int .i64 g,.int .i64 i,.slice x j.length y]]) (fn:=Tryz.f294) rfl ?_)
 refine trM b (z08 _ _ _ (l0 o p k) 0 (by decide)) ?_
 rintro w b Q E ⟨H,O,I,rfl,u,l⟩
 obtain⟨rfl,M⟩:=Sl.len u
 obtain⟨m,A,b⟩:=z0 b
 refine eX { vars:=[4],boxes:=[],owns:=[],fuel:=true } (eX (λvs os f=>∃ c,vs.tail = [.int .i64 c]/\os = []/\Sub E f/\J0 c/\J7 i g j w (I1 vs) c=some m) (eX (λ_ _=>0) (aI (eX P0 ⟨1,rfl,rfl,(Sub.refl _),(by decide),A⟩) ?_)))
 rintro _ e K ⟨c,⟨⟩,⟨⟩,d,s,a⟩
 replace a:J7 i g j w e c=some m:=a
 obtain _|e:=e
 ·cases a
 rw[J7.eq_2]at a
 refine ifB a (λD a=>?_) λD a=>?_
 ·refine trV a (D0b _ _ _ (l0 o p (K0.mono (l.trans d) k)) _ s) λG a=>?_
  obtain⟨P,z,a⟩:=z0 a
  have J:J0 G:=Q0 z
  refine trG a (λq=>u01 _ _ _ _ _ (T0.mono d u) _ s) λS a=>?_
  refine ifB a (λC a=>?_) λC a=>?_
  ·obtain rfl:=oJ a
   try dsimp only[C3,V3]at b
   obtain rfl:=oJ b
   exact aI rfl (l.trans d)
  ·exact N1 e ⟨(IntKind.i64.wrap (c+1)),rfl,rfl,d,(I0 _),a⟩
 ·obtain rfl:=oJ a
  try dsimp only[S0,U0]at b
  obtain rfl:=oJ b
  exact aI rfl (l.trans d)
theorem c03(h:Hp)(V:List Value)(Z:j0)(aZ:Y0.R h V Z)(J:Option Addr)(Y K:Nat)(s:F0)(G:T0.R h [.slice J Y K] s)(r:j0×Bool)(d:S6 Z s=some r):
  Tr Tryz.prog 320 #[.agg V.toArray,.slice J Y K] h λv e=>∃(U:List Value),v = .tuple #[.agg U.toArray,.bool r.2]/\Y0.R e U r.1/\Sub h e:=by
 obtain⟨F,l,ah,bX,ap,y,rfl,rfl,D,L,z⟩:=C0 aZ
 obtain⟨rfl,bS⟩:=Sl.len z
 obtain⟨rfl,aY⟩:=Sl.len G
 unfold S6 at d
 dsimp only at d
 refine C2 (args:=[.agg #[.int .i64 F,.int .i64 l,.slice ah y.length ap],.slice J s.length K]) (fn:=Tryz.f320) rfl ?_
 refine trV d (L6 _ _ _ (l0 D L z)) λcd d=>?_
 refine ifB d (λaM d=>?_) λaM d=>?_
 ·refine trM d (U5 _ _ _ (l0 D L z)) ?_
  rintro cj d cb aX ⟨bq,rfl,af⟩
  have bf:Sub h aX:=af.sub
  have a3:=af.r
  obtain⟨bk,bl,aj,bZ,ar,bm,rfl,rfl,aT,aU,ab⟩:=C0 a3
  obtain⟨rfl,bV⟩:=Sl.len ab
  try dsimp only at d
  obtain rfl:=oJ d
  exact⟨([.int .i64 bk,.int .i64 bl,.slice aj bm.length ar]),rfl,(l0 aT aU ab),bf⟩
 ·obtain⟨b1,az,d⟩:=z0 d
  refine aI (Q0 az) ?_
  obtain⟨T,aJ,d⟩:=z0 d
  refine eX { vars:=[8],boxes:=[],owns:=[0],fuel:=true,kept:=[0] } (eX (λvs os e=>∃ u8 I o,vs.tail = [.int .i64 u8]/\os = [I]/\Sub h e/\J0 u8/\F2 (Wp.int.R e) I o/\i4 s l F y (I1 vs) u8 o=some T) (eX (λ_ _=>0) (aI (eX P0 ⟨0,(List.replicate l.toNat ([.int .i64 0]:List Value)),(List.replicate l.toNat (0:Int)),rfl,rfl,(Sub.refl _),(by decide),(F2.rep (p:=Wp.int.R h) (a:=[.int .i64 0]) (b:=0) ⟨rfl,(by decide)⟩ (l.toNat)),aJ⟩) ?_)))
  rintro _ I E w ⟨u8,cp,o,⟨⟩,⟨⟩,g,bz,k,c⟩
  replace c:i4 s l F y E u8 o=some T:=c
  obtain _|E:=E
  ·cases c
  rw[i4.eq_2]at c
  refine ifB c (λaK c=>?_) λaK c=>?_
  ·refine Or.inl (aI (aI (by kernel_rfl) (by kernel_rfl)) ?_)
   refine ldI c (T0.mono g G) λce aP c=>?_
   obtain⟨bg,aA,c⟩:=z0 c
   refine eX (.bool bg) (aI (n7 _ _ aP 0 (by decide) (IntKind.i64.wrap (l-1)) (I0 _) _  aA) ?_)
   refine ldG c (T0.mono g G) λcf bA c=>?_
   obtain⟨cg,aB,c⟩:=z0 c
   obtain⟨bn,W,a0⟩:=R03 k aB (H0c w)
   refine aI (λq=>(W q).1) ?_
   obtain⟨rfl,bB⟩:=a0
   refine eX _ (aI (λq=>(W q).2) ?_)
   refine ifB c (λaL c=>?_) λaL c=>?_
   ·refine trM c (U5 _ _ _ (l0 D L (K0.mono g z))) ?_
    rintro ch c ca aV ⟨bo,rfl,ae⟩
    have be:Sub w aV:=ae.sub
    have a1:=ae.r
    obtain⟨bh,bi,ai,bY,aq,bj,rfl,rfl,aQ,aR,aa⟩:=C0 a1
    obtain⟨rfl,bU⟩:=Sl.len aa
    try dsimp only at c
    obtain rfl:=oJ c
    try dsimp only[C3,V3]at d
    obtain rfl:=oJ d
    exact⟨([.int .i64 bh,.int .i64 bi,.slice ai bj.length aq]),rfl,(l0 aQ aR aa),(g.trans be)⟩
   ·refine ldI c (T0.mono g G) λP bC c=>?_
    obtain⟨ci,aC,c⟩:=z0 c
    obtain⟨al,bp,av,a2⟩:=E3 k aC
    refine aI al ?_
    obtain⟨rfl,bD⟩:=a2
    refine eX _ (aI av ?_)
    exact N1 E ⟨(IntKind.i64.wrap (u8+1)),(I.set P.toNat [.int .i64 (IntKind.i64.wrap (u8+1))]),(o.set P.toNat (IntKind.i64.wrap (u8+1))),rfl,rfl,g,(I0 _),(F2.set (p:=Wp.int.R w) (a:=[.int .i64 (IntKind.i64.wrap (u8+1))]) (b:=(IntKind.i64.wrap (u8+1))) ⟨rfl,(I0 _)⟩ P.toNat k),c⟩
  ·obtain rfl:=oJ c
   try dsimp only[S0,U0]at d
   obtain⟨S,aH,d⟩:=z0 d
   refine eX { vars:=[9],boxes:=[2],owns:=[],fuel:=true } (eX (λvs os e=>∃ m i j t O u n,vs.tail = [.int .i64 m,.int .i64 i,.int .i64 j,.slice t O u]/\os = []/\Sub w e/\J0 m/\J0 i/\J0 j/\K0.R e [.slice t O u] n/\I3 y o (I1 vs) m i j n=some S) (eX (λ_ _=>0) (aI (eX P0 ⟨0,F,((s.length:Nat):Int),none,0,0,[],rfl,rfl,(Sub.refl _),(by decide),D,(l0n aY),(I0c Z0 w),aH⟩) ?_)))
   rintro _ _ _ _ x aW ⟨m,i,j,t,O,u,n,⟨⟩,⟨⟩,f,bx,M,N,H,c⟩
   replace c:I3 y o x m i j n=some S:=c
   obtain _|x:=x
   ·cases c
   rw[I3.eq_2]at c
   obtain⟨rfl,bT⟩:=Sl.len H
   refine ifB c (λaN c=>?_) λaN c=>?_
   ·refine ld c (K0.mono (g.trans f) z) λck br a4 c=>?_
    obtain⟨cl,Q,cm,rfl,rfl,bE,aS,bF⟩:=G1 a4
    try dsimp only at c
    obtain⟨cn,aD,c⟩:=z0 c
    obtain⟨am,bs,aw,ba⟩:=E3 (F2.up (r:=Wp.int.toRp) f k) aD
    refine aI am ?_
    obtain⟨rfl,bG⟩:=ba
    refine eX _ (aI aw ?_)
    obtain⟨co,aE,c⟩:=z0 c
    obtain⟨bt,X,bb⟩:=R03 (F2.up (r:=Wp.int.toRp) f k) aE (H0c aW)
    refine aI (λq=>(X q).1) ?_
    obtain⟨rfl,bH⟩:=bb
    refine eX _ (aI (λq=>(X q).2) ?_)
    refine ifB c (λaO c=>?_) λaO c=>?_
    ·refine Or.inr (Or.inr (Or.inl (aI (aI (by kernel_rfl) (by kernel_rfl)) ?_)))
     obtain⟨A,aF,c⟩:=z0 c
     obtain⟨an,bu,ax,bc⟩:=E3 (F2.up (r:=Wp.int.toRp) f k) aF
     obtain⟨rfl,bI⟩:=bc
     refine Or.inl ?_
     apply eX
     refine aI ?_ ?_
     ·intro bK b2
      exact aI an (aI rfl (aI rfl rfl))
     refine Or.inl (eX (.val (.int .i64 A)) (aI ?_ ?_))
     ·intro bL b3
      exact eX _ (aI ax (aI rfl (aI rfl rfl)))
     refine Or.inl (eX (.val (.int .i64 (IntKind.i64.wrap (A-1)))) (aI ?_ ?_))
     ·intro bM b4
      exact aI rfl (aI rfl rfl)
     obtain⟨C,aG,c⟩:=z0 c
     obtain⟨ao,bv,ay,bd⟩:=E3 (F2.up (r:=Wp.int.toRp) f k) aG
     obtain⟨rfl,bJ⟩:=bd
     refine Or.inl ?_
     apply eX
     refine aI ?_ ?_
     ·intro bN b5
      exact aI ao (aI rfl (aI rfl rfl))
     refine Or.inl (eX (.val (.int .i64 C)) (aI ?_ ?_))
     ·intro bO b6
      exact eX _ (aI ay (aI rfl (aI rfl rfl)))
     refine Or.inl (eX (.val (.int .i64 (IntKind.i64.wrap (C-1)))) (aI ?_ ?_))
     ·intro bP b7
      exact aI rfl (aI rfl rfl)
     refine Or.inl (eX (.agg [.val (.int .i64 (IntKind.i64.wrap (A-1))),.val (.int .i64 Q),.val (.int .i64 (IntKind.i64.wrap (C-1)))]) (aI ?_ ?_))
     ·intro bQ b8
      exact aI rfl (aI rfl rfl)
     refine Or.inr ?_
     refine Or.inr ?_
     refine Or.inl (eX 1 (aI (aI rfl rfl) ?_))
     refine trM c (L8 _ _ _ _ _ H [.int .i64 (IntKind.i64.wrap (A-1)),.int .i64 Q,.int .i64 (IntKind.i64.wrap (C-1))] ((IntKind.i64.wrap (A-1)),Q,(IntKind.i64.wrap (C-1))) (C1 (I0 _) aS (I0 _))) ?_
     rintro ag c cc bR ⟨ak,b0,au,rfl,ac,ad⟩
     obtain⟨rfl,bW⟩:=Sl.len ac
     refine aI (aI rfl ad) (aI (by first|exact trivial|exact rfl) ?_)
     refine aI trivial (aI (by first|exact trivial|exact rfl) ?_)
     exact N1 x ⟨(IntKind.i64.wrap (m+1)),i,j,ak,ag.length,au,ag,rfl,rfl,(f.trans ad),(I0 _),M,N,ac,c⟩
    ·exact N1 x ⟨(IntKind.i64.wrap (m+1)),i,j,t,n.length,u,n,rfl,rfl,f,(I0 _),M,N,H,c⟩
   ·obtain rfl:=oJ c
    try dsimp only[S0,U0]at d
    obtain rfl:=oJ d
    exact⟨([.int .i64 i,.int .i64 j,.slice t n.length u]),rfl,(l0 M N H),(g.trans f)⟩
theorem m05(h:Hp)(e:Int)(D:J0 e)(r:F0)(i:R8 e=some r):
  Tr Tryz.prog 319 #[.int .i64 e] h λv g=>∃(n:Option Addr) (p o:Nat),v = .slice n p o/\T0.R g [.slice n p o] r/\Sub h g:=by
 unfold R8 at i
 refine C2 (args:=[.int .i64 e]) (fn:=Tryz.f319) rfl ?_
 obtain⟨m,y,i⟩:=z0 i
 refine eX { vars:=[4],boxes:=[],owns:=[0],fuel:=true } (eX (λvs os g=>∃ a l f,vs.tail = [.int .i64 a]/\os = [l]/\Sub h g/\J0 a/\F2 (Wp.int.R g) l f/\K5 e (I1 vs) a f=some m) (eX (λ_ _=>0) (aI (eX P0 ⟨1,[],([]:F0),rfl,rfl,(Sub.refl _),(by decide),(show F2 (Wp.int.R h) ([]:List (List Value)) ([]:F0) from trivial),y⟩) ?_)))
 rintro _ l k d ⟨a,J,f,⟨⟩,⟨⟩,q,j,c,b⟩
 replace b:K5 e k a f=some m:=b
 obtain _|k:=k
 ·cases b
 rw[K5.eq_2]at b
 refine ifB b (λz b=>?_) λz b=>?_
 ·obtain⟨G,w,b⟩:=z0 b
  refine aI (K1 w (by first|rw[F2.length c,F2.length (show F2 (Wp.int.R d) ([[.int .i64 a]]:List (List Value)) [a] from⟨⟨rfl,j⟩,trivial⟩)]|exact congrArg (·+1) (F2.length c))) ?_
  obtain⟨H,x,b⟩:=z0 b
  refine aI (K1 x (by first|rw[F2.length (F2.append c (show F2 (Wp.int.R d) ([[.int .i64 a]]:List (List Value)) [a] from⟨⟨rfl,j⟩,trivial⟩)),F2.length (show F2 (Wp.int.R d) ([[.int .i64 (IntKind.i64.wrap (0-a))]]:List (List Value)) [(IntKind.i64.wrap (0-a))] from⟨⟨rfl,(I0 _)⟩,trivial⟩)]|exact congrArg (·+1) (F2.length (F2.append c (show F2 (Wp.int.R d) ([[.int .i64 a]]:List (List Value)) [a] from⟨⟨rfl,j⟩,trivial⟩))))) ?_
  exact N1 k ⟨(IntKind.i64.wrap (a+1)),((l++([[.int .i64 a]]:List (List Value)))++([[.int .i64 (IntKind.i64.wrap (0-a))]]:List (List Value))),((f ++ [a]) ++ [(IntKind.i64.wrap (0-a))]),rfl,rfl,q,(I0 _),(F2.append (F2.append c (show F2 (Wp.int.R d) ([[.int .i64 a]]:List (List Value)) [a] from⟨⟨rfl,j⟩,trivial⟩)) (show F2 (Wp.int.R d) ([[.int .i64 (IntKind.i64.wrap (0-a))]]:List (List Value)) [(IntKind.i64.wrap (0-a))] from⟨⟨rfl,(I0 _)⟩,trivial⟩)),b⟩
 ·obtain rfl:=oJ b
  try dsimp only[S0,U0]at i
  intro I E u
  obtain⟨s,t,rfl,A,C,F⟩:=E1.out (r:=Wp.int.toRp) u c
  obtain rfl:=oJ i
  exact⟨s,f.length,t,rfl,A,(q.trans C)⟩
theorem W05(h:Hp)(H:List Value)(L:j0)(ar:Y0.R h H L)(r:F0)(c:M7 L=some r):
  Tr Tryz.prog 335 #[.agg H.toArray] h λv d=>∃(F:Option Addr) (K G:Nat),v = .slice F K G/\T0.R d [.slice F K G] r/\Sub h d:=by
 obtain⟨n,o,N,aS,S,p,rfl,rfl,y,I,A⟩:=C0 ar
 obtain⟨rfl,aN⟩:=Sl.len A
 unfold M7 at c
 dsimp only at c
 refine C2 (args:=[.agg #[.int .i64 n,.int .i64 o,.slice N p.length S]]) (fn:=Tryz.f335) rfl ?_
 refine trV c (G8 _ _ _ (l0 y I A)) λa2 c=>?_
 refine ifB c (λai c=>?_) λai c=>?_
 ·intro aZ aL Y
  obtain⟨P,U,rfl,ax,az,aR⟩:=E1.out (r:=Wp.int.toRp) Y (show F2 (Wp.int.R h) ([]:List (List Value)) ([]:F0) from trivial)
  obtain rfl:=oJ c
  exact⟨P,(([]:F0)).length,U,rfl,ax,az⟩
 ·refine trM c (m05 _ _ y) ?_
  rintro w c a1 ap ⟨aB,aT,aE,rfl,M,C⟩
  obtain⟨rfl,aO⟩:=Sl.len M
  obtain⟨D,af,c⟩:=z0 c
  refine eX { vars:=[5],boxes:=[],owns:=[0],fuel:=true } (eX (λvs os d=>∃ e s k,vs.tail = [.int .i64 e]/\os = [s]/\Sub ap d/\J0 e/\F2 (Wp.int.R d) s k/\R4 w n o p (I1 vs) e k=some D) (eX (λ_ _=>0) (aI (eX P0 ⟨0,([[.int .i64 0]]:List (List Value)),[0],rfl,rfl,(Sub.refl _),(by decide),(F2.up (r:=Wp.int.toRp) C (show F2 (Wp.int.R h) ([[.int .i64 0]]:List (List Value)) [0] from⟨⟨rfl,(by decide)⟩,trivial⟩)),af⟩) ?_)))
  rintro _ s t ao ⟨e,ba,k,⟨⟩,⟨⟩,u,aH,x,b⟩
  replace b:R4 w n o p t e k=some D:=b
  obtain _|t:=t
  ·cases b
  rw[R4.eq_2]at b
  obtain⟨aq,Z,b⟩:=z0 b
  obtain rfl:s.length=aq:=(F2.length x).trans (oJ Z)
  obtain⟨aU,aG,b⟩:=z0 b
  refine ifB b (λah b=>?_) λah b=>?_
  ·obtain⟨E,ag,b⟩:=z0 b
   refine eX { vars:=[6],boxes:=[],owns:=[0],fuel:=true } (eX (λvs os d=>∃ i l j,vs.tail = [.int .i64 i]/\os = [l]/\Sub ao d/\J0 i/\F2 (Wp.int.R d) l j/\j3 w e n o p (I1 vs) i j=some E) (eX (λ_ _=>0) (aI (eX P0 ⟨0,s,k,rfl,rfl,(Sub.refl _),(by decide),x,ag⟩) ?_)))
   rintro _ l m J ⟨i,bb,j,⟨⟩,⟨⟩,q,aJ,g,a⟩
   replace a:j3 w e n o p m i j=some E:=a
   obtain _|m:=m
   ·cases a
   rw[j3.eq_2]at a
   refine ifB a (λaj a=>?_) λaj a=>?_
   ·refine Or.inl (aI (aI (by kernel_rfl) (by kernel_rfl)) ?_)
    obtain⟨a3,ac,a⟩:=z0 a
    obtain⟨Q,aD,V,au⟩:=E3 g ac
    refine aI Q ?_
    obtain⟨rfl,am⟩:=au
    refine eX _ (aI V ?_)
    refine ldI a (T0.mono (u.trans q) M) λa4 an a=>?_
    obtain⟨f,ad,a⟩:=z0 a
    refine eX (.int .i64 f) (aI (D6 _ _ _ (l0 y I (K0.mono ((C.trans u).trans q) A)) _ am _ an _  ad) ?_)
    obtain⟨aV,aa,a⟩:=z0 a
    have z:J0 f:=Q0 aa
    obtain⟨aA,ae,a⟩:=z0 a
    refine eX (.bool aA) (aI ?_ ?_)
    ·intro al
     intro aY aK W
     obtain⟨aC,aF,rfl,av,aX,aP⟩:=E1.out (r:=Wp.int.toRp) W g
     exact u01 _ _ _ _ _ av _ z _ (O9 ae al)
    refine ifB a (λak a=>?_) λak a=>?_
    ·obtain⟨aW,ab,a⟩:=z0 a
     refine aI (K1 ab (by first|rw[F2.length g,F2.length (show F2 (Wp.int.R J) ([[.int .i64 f]]:List (List Value)) [f] from⟨⟨rfl,z⟩,trivial⟩)]|exact congrArg (·+1) (F2.length g))) ?_
     exact N1 m ⟨(IntKind.i64.wrap (i+1)),(l++([[.int .i64 f]]:List (List Value))),(j ++ [f]),rfl,rfl,q,(I0 _),(F2.append g (show F2 (Wp.int.R J) ([[.int .i64 f]]:List (List Value)) [f] from⟨⟨rfl,z⟩,trivial⟩)),a⟩
    ·exact N1 m ⟨(IntKind.i64.wrap (i+1)),l,j,rfl,rfl,q,(I0 _),g,a⟩
   ·obtain rfl:=oJ a
    try dsimp only[S0,U0]at b
    exact N1 t ⟨(IntKind.i64.wrap (e+1)),l,j,rfl,rfl,(u.trans q),(I0 _),g,b⟩
  ·obtain rfl:=oJ b
   try dsimp only[S0,U0]at c
   intro a0 aM X
   obtain⟨O,T,rfl,aw,ay,aQ⟩:=E1.out (r:=Wp.int.toRp) X x
   obtain rfl:=oJ c
   exact⟨O,k.length,T,rfl,aw,((C.trans u).trans ay)⟩
theorem A02(h:Hp)(g:List Value)(j:j0)(I:Y0.R h g j)(r:j0)(a:H6 j=some r):
  Tr Tryz.prog 295 #[.agg g.toArray] h λv i=>∃(f:List Value),v = .agg f.toArray/\Y0.R i f r/\Sub h i:=by
 obtain⟨F,G,p,ad,t,H,rfl,rfl,d,e,b⟩:=C0 I
 obtain⟨rfl,Z⟩:=Sl.len b
 unfold H6 at a
 dsimp only at a
 refine C2 (args:=[.agg #[.int .i64 F,.int .i64 G,.slice p H.length t]]) (fn:=Tryz.f295) rfl ?_
 refine trM a (W05 _ _ _ (l0 d e b)) ?_
 rintro ak a ai D ⟨U,ae,X,rfl,k,c⟩
 obtain⟨rfl,aa⟩:=Sl.len k
 refine ifB a (λx a=>?_) λx a=>?_
 ·refine trM a (U5 _ _ _ (l0 d e (K0.mono c b))) ?_
  rintro al a aj E ⟨V,rfl,o⟩
  have K:Sub D E:=o.sub
  have J:=o.r
  obtain⟨M,N,q,af,u,O,rfl,rfl,y,z,l⟩:=C0 J
  obtain⟨rfl,ab⟩:=Sl.len l
  try dsimp only at a
  obtain rfl:=oJ a
  exact⟨([.int .i64 M,.int .i64 N,.slice q O.length u]),rfl,(l0 y z l),(c.trans K)⟩
 ·refine trM a (c03 _ _ _ (l0 d e (K0.mono c b)) _ _ _ _ k) ?_
  rintro P a ah Y ⟨W,rfl,m,L⟩
  obtain⟨am,an⟩:=P
  dsimp only at a m
  obtain⟨Q,S,s,ag,w,T,rfl,rfl,A,C,n⟩:=C0 m
  obtain⟨rfl,ac⟩:=Sl.len n
  try dsimp only at a
  obtain rfl:=oJ a
  exact⟨([.int .i64 Q,.int .i64 S,.slice s T.length w]),rfl,(l0 A C n),(c.trans L)⟩
theorem j0e(h:Hp)(m:List Value)(n:j0)(S:Y0.R h m n)(r:Bool)(a:J9 n=some r):
  Tr Tryz.prog 211 #[.agg m.toArray] h λv H=>v = .bool r/\H=h:=by
 obtain⟨O,P,t,au,w,Q,rfl,rfl,g,i,c⟩:=C0 S
 obtain⟨rfl,aq⟩:=Sl.len c
 unfold J9 at a
 dsimp only at a
 refine Tr.forget (C2 (args:=[.agg #[.int .i64 O,.int .i64 P,.slice t Q.length w]]) (fn:=Tryz.f211) rfl ?_)
 refine Or.inr (Or.inr (Or.inr (Or.inl (aI (aI (by kernel_rfl) (by kernel_rfl)) ?_))))
 obtain⟨aa,D,a⟩:=z0 a
 refine Or.inl (eX (.val (.bool aa)) (aI ?_ ?_))
 ·intro am Y
  exact Tr.val (G8 _ _ _ (l0 g i (K0.mono Y c)) _ D) (aI rfl (aI rfl rfl))
 obtain⟨l,G,a⟩:=z0 a
 obtain⟨aw,C,a⟩:=z0 a
 have ai:J0 l:=Q0 C
 refine Or.inl (eX (.val (.int .i64 l)) (aI ?_ ?_))
 ·intro an Z b
  exact Tr.val (Y07 _ _ _ (l0 g i (K0.mono Z c)) _ (O9 G b)) (aI rfl (aI rfl rfl))
 refine Or.inl (eX (.val (.bool (decide (l<0)))) (aI ?_ ?_))
 ·intro ao ax b
  exact aI rfl (aI rfl rfl)
 obtain⟨ab,E,a⟩:=z0 a
 obtain⟨p,s,j⟩:=ab
 try dsimp only at a
 refine Or.inr (eX (λv I=>∃(d:Option Addr) (f:Nat),v = .agg #[.int .i64 p,.int .i64 s,.slice d j.length f]/\J0 p/\J0 s/\K0.R I [.slice d j.length f] j/\j.length<=9223372036854775807) (aI (λv ag ah k q=>by obtain⟨d,f,e,z,A,f2,f3⟩:=q;exact⟨d,f,e,z,A,K0.mono k f2,f3⟩) (aI ?_ ?_)))
 ·intro aj V b
  refine Tr.mono (A02 _ _ _ (l0 g i (K0.mono V c)) _ (O9 E b)) ?_
  rintro _ ap ⟨ae,rfl,T,k⟩
  obtain⟨ay,az,u,av,x,aA,rfl,y,J,K,o⟩:=C0 T
  cases y
  obtain⟨rfl,N⟩:=Sl.len o
  exact aI m00 (aI k ⟨u,x,rfl,J,K,o,N⟩)
 obtain⟨ac,F,a⟩:=z0 a
 refine Or.inl (eX (.val (.bool ac)) (aI ?_ ?_))
 ·intro ak W b
  rintro _ ⟨ad,af,rfl,L,M,U,ar⟩
  exact Tr.val (y08 _ _ _ (l0 L M U) _ _ (l0 g i (K0.mono W c)) _ (O9 F b)) (aI rfl (aI rfl rfl))
 intro al X
 obtain rfl:=oJ a
 exact aI rfl X
theorem L00(h:Hp)(b:List Value)(c:j0)(n:Y0.R h b c)(r:Bool)(a:V4 c=some r):
  Tr Tryz.prog 103 #[.agg b.toArray] h λv g=>v = .bool r/\g=h:=by
 obtain⟨k,l,e,p,f,m,rfl,rfl,i,j,d⟩:=C0 n
 obtain⟨rfl,o⟩:=Sl.len d
 unfold V4 at a
 dsimp only at a
 refine Tr.forget (C2 (args:=[.agg #[.int .i64 k,.int .i64 l,.slice e m.length f]]) (fn:=Tryz.f103) rfl ?_)
 refine trV a (j0e _ _ _ (l0 i j d)) λq a=>?_
 obtain rfl:=oJ a
 exact aI rfl (Sub.refl _)
theorem K0d(h:Hp)(O:List Value)(X:j0)(aY:Y0.R h O X)(x:Int)(S:J0 x)(m:Option Addr)(W n:Nat)(k:F0)(l:T0.R h [.slice m W n] k)(f:Int)(u:J0 f)(r:j0×Bool)(b:Y00 X x k f=some r):
  Tr Tryz.prog 277 #[.agg O.toArray,.int .i64 x,.slice m W n,.int .i64 f] h λv t=>∃(N:List Value),v = .tuple #[.agg N.toArray,.bool r.2]/\Y0.R t N r.1/\Sub h t:=by
 obtain⟨aW,H,ap,bQ,aA,aX,rfl,rfl,F,Q,I⟩:=C0 aY
 obtain⟨rfl,bI⟩:=Sl.len I
 obtain⟨rfl,bJ⟩:=Sl.len l
 unfold Y00 at b
 dsimp only at b
 refine C2 (args:=[.agg #[.int .i64 aW,.int .i64 H,.slice ap aX.length aA],.int .i64 x,.slice m k.length n,.int .i64 f]) (fn:=Tryz.f277) rfl ?_
 refine trM b (U5 _ _ _ (l0 F Q I)) ?_
 rintro cc b b6 V ⟨bd,rfl,ag⟩
 have i:Sub h V:=ag.sub
 have aZ:=ag.r
 obtain⟨ah,ai,M,bR,P,K,rfl,rfl,T,U,J⟩:=C0 aZ
 obtain⟨rfl,bL⟩:=Sl.len J
 try dsimp only at b
 refine trV b (L6 _ _ _ (l0 F Q (K0.mono i I))) λce b=>?_
 refine trG b (λq=>n7 _ _ S 0 (by decide) (IntKind.i64.wrap (H-1)) (I0 _)) λcg b=>?_
 refine trG b (λq=>n7 _ _ u 0 (by decide) (IntKind.i64.wrap (H-1)) (I0 _)) λch b=>?_
 refine trG b (λq=>M02 _ _ F _ _ _ _ (T0.mono i l)) λci b=>?_
 refine ifB b (λaT b=>?_) λaT b=>?_
 ·obtain rfl:=oJ b
  exact⟨([.int .i64 ah,.int .i64 ai,.slice M K.length P]),rfl,(l0 T U J),i⟩
 ·obtain⟨L,aO,b⟩:=z0 b
  refine eX { vars:=[11,12],boxes:=[2],owns:=[],fuel:=true } (eX (λvs os t=>∃ d e j c C G D y,vs.tail = [.int .i64 d,.int .i64 e,.int .i64 j,.int .i64 c,.slice C G D]/\os = []/\Sub V t/\J0 d/\J0 e/\J0 j/\J0 c/\K0.R t [.slice C G D] y/\S4 k f (I1 vs) d e j c y=some L) (eX (λ_ _=>0) (aI (eX P0 ⟨x,0,ah,ai,M,K.length,P,K,rfl,rfl,(Sub.refl _),S,(by decide),T,U,J,aO⟩) ?_)))
  rintro _ _ _ _ _ p bn ⟨d,e,j,c,C,G,D,y,⟨⟩,⟨⟩,g,E,bi,w,o,s,a⟩
  replace a:S4 k f p d e j c y=some L:=a
  obtain _|p:=p
  ·cases a
  rw[S4.eq_2]at a
  obtain⟨rfl,bK⟩:=Sl.len s
  refine ifB a (λaP a=>?_) λaP a=>?_
  ·refine ifB a (λaQ a=>?_) λaQ a=>?_
   ·refine ldI a (T0.mono (i.trans g) l) λcd bj a=>?_
    refine ifB a (λaR a=>?_) λaR a=>?_
    ·refine Or.inr (Or.inr (Or.inl (aI (aI (by kernel_rfl) (by kernel_rfl)) ?_)))
     obtain⟨aj,aK,a⟩:=z0 a
     obtain⟨aw,be,aF,a0⟩:=Sl.getI (r:=Wp.int.toRp) (T0.mono (i.trans g) l) aK (by decide)
     obtain⟨rfl,aU⟩:=a0
     refine Or.inl (eX (.hel (.slice m k.length n) e 1 0) (aI ?_ ?_))
     ·intro bo bW
      exact aI aw (aI rfl (aI rfl rfl))
     refine Or.inl (eX (.val (.int .i64 aj)) (aI ?_ ?_))
     ·intro bp a4
      exact eX _ (aI (Y8.up a4 aF) (aI rfl (aI rfl rfl)))
     refine Or.inl (eX (.agg [.val (.int .i64 d),.val (.int .i64 aj),.val (.int .i64 c)]) (aI ?_ ?_))
     ·intro bq bX
      exact aI rfl (aI rfl rfl)
     refine Or.inr ?_
     refine Or.inr ?_
     refine Or.inl (eX 1 (aI (aI rfl rfl) ?_))
     refine trM a (L8 _ _ _ _ _ s _ _ (C1 E aU o)) ?_
     rintro ak a b7 br ⟨aq,bS,aB,rfl,Y,ac⟩
     obtain⟨rfl,bM⟩:=Sl.len Y
     refine aI (aI rfl ac) (aI (by first|exact trivial|exact rfl) ?_)
     refine aI trivial (aI (by first|exact trivial|exact rfl) ?_)
     exact N1 p ⟨c,(IntKind.i64.wrap (e+1)),j,(IntKind.i64.wrap (c+1)),aq,ak.length,aB,ak,rfl,rfl,(g.trans ac),o,(I0 _),w,(I0 _),Y,a⟩
    ·refine Or.inr (Or.inr (Or.inl (aI (aI (by kernel_rfl) (by kernel_rfl)) ?_)))
     obtain⟨z,aL,a⟩:=z0 a
     obtain⟨ax,bf,aG,a1⟩:=Sl.getI (r:=Wp.int.toRp) (T0.mono (i.trans g) l) aL (by decide)
     obtain⟨rfl,bk⟩:=a1
     refine Or.inl (eX (.hel (.slice m k.length n) e 1 0) (aI ?_ ?_))
     ·intro bs bY
      exact aI ax (aI rfl (aI rfl rfl))
     refine Or.inl (eX (.val (.int .i64 z)) (aI ?_ ?_))
     ·intro bt ba
      exact eX _ (aI (Y8.up ba aG) (aI rfl (aI rfl rfl)))
     refine Or.inl (eX (.val (.int .i64 (IntKind.i64.wrap (0-z)))) (aI ?_ ?_))
     ·intro bu bZ
      exact aI rfl (aI rfl rfl)
     refine Or.inl (eX (.agg [.val (.int .i64 c),.val (.int .i64 (IntKind.i64.wrap (0-z))),.val (.int .i64 d)]) (aI ?_ ?_))
     ·intro bv b0
      exact aI rfl (aI rfl rfl)
     refine Or.inr ?_
     refine Or.inr ?_
     refine Or.inl (eX 1 (aI (aI rfl rfl) ?_))
     refine trM a (L8 _ _ _ _ _ s [.int .i64 c,.int .i64 (IntKind.i64.wrap (0-z)),.int .i64 d] (c,(IntKind.i64.wrap (0-z)),d) (C1 o (I0 _) E)) ?_
     rintro al a b8 bx ⟨ar,bT,aC,rfl,Z,ad⟩
     obtain⟨rfl,bN⟩:=Sl.len Z
     refine aI (aI rfl ad) (aI (by first|exact trivial|exact rfl) ?_)
     refine aI trivial (aI (by first|exact trivial|exact rfl) ?_)
     exact N1 p ⟨c,(IntKind.i64.wrap (e+1)),j,(IntKind.i64.wrap (c+1)),ar,al.length,aC,al,rfl,rfl,(g.trans ad),o,(I0 _),w,(I0 _),Z,a⟩
   ·refine ldI a (T0.mono (i.trans g) l) λcf bl a=>?_
    refine ifB a (λaS a=>?_) λaS a=>?_
    ·refine Or.inr (Or.inr (Or.inl (aI (aI (by kernel_rfl) (by kernel_rfl)) ?_)))
     obtain⟨am,aM,a⟩:=z0 a
     obtain⟨ay,bg,aH,a2⟩:=Sl.getI (r:=Wp.int.toRp) (T0.mono (i.trans g) l) aM (by decide)
     obtain⟨rfl,aV⟩:=a2
     refine Or.inl (eX (.hel (.slice m k.length n) e 1 0) (aI ?_ ?_))
     ·intro bz b1
      exact aI ay (aI rfl (aI rfl rfl))
     refine Or.inl (eX (.val (.int .i64 am)) (aI ?_ ?_))
     ·intro bA bb
      exact eX _ (aI (Y8.up bb aH) (aI rfl (aI rfl rfl)))
     refine Or.inl (eX (.agg [.val (.int .i64 d),.val (.int .i64 am),.val (.int .i64 f)]) (aI ?_ ?_))
     ·intro bB b2
      exact aI rfl (aI rfl rfl)
     refine Or.inr ?_
     refine Or.inr ?_
     refine Or.inl (eX 1 (aI (aI rfl rfl) ?_))
     refine trM a (L8 _ _ _ _ _ s _ _ (C1 E aV u)) ?_
     rintro an a ca bC ⟨au,bU,aD,rfl,aa,ae⟩
     obtain⟨rfl,bO⟩:=Sl.len aa
     refine aI (aI rfl ae) (aI (by first|exact trivial|exact rfl) ?_)
     refine aI trivial (aI (by first|exact trivial|exact rfl) ?_)
     exact N1 p ⟨f,(IntKind.i64.wrap (e+1)),j,c,au,an.length,aD,an,rfl,rfl,(g.trans ae),u,(I0 _),w,o,aa,a⟩
    ·refine Or.inr (Or.inr (Or.inl (aI (aI (by kernel_rfl) (by kernel_rfl)) ?_)))
     obtain⟨A,aN,a⟩:=z0 a
     obtain⟨az,bh,aJ,a3⟩:=Sl.getI (r:=Wp.int.toRp) (T0.mono (i.trans g) l) aN (by decide)
     obtain⟨rfl,bm⟩:=a3
     refine Or.inl (eX (.hel (.slice m k.length n) e 1 0) (aI ?_ ?_))
     ·intro bD b3
      exact aI az (aI rfl (aI rfl rfl))
     refine Or.inl (eX (.val (.int .i64 A)) (aI ?_ ?_))
     ·intro bE bc
      exact eX _ (aI (Y8.up bc aJ) (aI rfl (aI rfl rfl)))
     refine Or.inl (eX (.val (.int .i64 (IntKind.i64.wrap (0-A)))) (aI ?_ ?_))
     ·intro bF b4
      exact aI rfl (aI rfl rfl)
     refine Or.inl (eX (.agg [.val (.int .i64 f),.val (.int .i64 (IntKind.i64.wrap (0-A))),.val (.int .i64 d)]) (aI ?_ ?_))
     ·intro bG b5
      exact aI rfl (aI rfl rfl)
     refine Or.inr ?_
     refine Or.inr ?_
     refine Or.inl (eX 1 (aI (aI rfl rfl) ?_))
     refine trM a (L8 _ _ _ _ _ s [.int .i64 f,.int .i64 (IntKind.i64.wrap (0-A)),.int .i64 d] (f,(IntKind.i64.wrap (0-A)),d) (C1 u (I0 _) E)) ?_
     rintro ao a cb bH ⟨av,bV,aE,rfl,ab,af⟩
     obtain⟨rfl,bP⟩:=Sl.len ab
     refine aI (aI rfl af) (aI (by first|exact trivial|exact rfl) ?_)
     refine aI trivial (aI (by first|exact trivial|exact rfl) ?_)
     exact N1 p ⟨f,(IntKind.i64.wrap (e+1)),j,c,av,ao.length,aE,ao,rfl,rfl,(g.trans af),u,(I0 _),w,o,ab,a⟩
  ·obtain rfl:=oJ a
   try dsimp only[S0,U0]at b
   obtain rfl:=oJ b
   exact⟨([.int .i64 j,.int .i64 c,.slice C y.length D]),rfl,(l0 w o s),(i.trans g)⟩
theorem L0d(h:Hp)(H:List Value)(K:j0)(ae:Y0.R h H K)(r:g8)(u:Z00 K=some r):
  Tr Tryz.prog 376 #[.agg H.toArray] h λv n=>∃(F:Option Addr) (J G:Nat),v = .slice F J G/\a0g.R n [.slice F J G] r/\Sub h n:=by
 obtain⟨ac,ad,L,aw,N,x,rfl,rfl,al,am,C⟩:=C0 ae
 obtain⟨rfl,au⟩:=Sl.len C
 unfold Z00 at u
 dsimp only at u
 refine C2 (args:=[.agg #[.int .i64 ac,.int .i64 ad,.slice L x.length N]]) (fn:=Tryz.f376) rfl ?_
 obtain⟨D,U,u⟩:=z0 u
 refine eX { vars:=[4],boxes:=[],owns:=[0],fuel:=true } (eX (λvs os n=>∃ l A w,vs.tail = [.int .i64 l]/\os = [A]/\Sub h n/\J0 l/\F2 (Q4.R n) A w/\V6 x (I1 vs) l w=some D) (eX (λ_ _=>0) (aI (eX P0 ⟨0,[],([]:g8),rfl,rfl,(Sub.refl _),(by decide),(show F2 (Q4.R h) ([]:List (List Value)) ([]:g8) from trivial),U⟩) ?_)))
 rintro _ A y ab ⟨l,aF,w,⟨⟩,⟨⟩,z,an,I,f⟩
 replace f:V6 x y l w=some D:=f
 obtain _|y:=y
 ·cases f
 rw[V6.eq_2]at f
 refine ifB f (λaa f=>?_) λaa f=>?_
 ·obtain⟨E,V,f⟩:=z0 f
  refine eX { vars:=[5],boxes:=[],owns:=[0],fuel:=true } (eX (λvs os n=>∃ u8 q m,vs.tail = [.int .i64 u8]/\os = [q]/\Sub ab n/\J0 u8/\F2 (Q4.R n) q m/\Y3 x l (I1 vs) u8 m=some E) (eX (λ_ _=>0) (aI (eX P0 ⟨(IntKind.i64.wrap (l+1)),A,w,rfl,rfl,(Sub.refl _),(I0 _),I,V⟩) ?_)))
  rintro _ q s k ⟨u8,aG,m,⟨⟩,⟨⟩,t,ao,g,e⟩
  replace e:Y3 x l s u8 m=some E:=e
  obtain _|s:=s
  ·cases e
  rw[Y3.eq_2]at e
  refine ifB e (λW e=>?_) λW e=>?_
  ·refine ld e (K0.mono (z.trans t) C) λaB aj af e=>?_
   obtain⟨c,aC,a,rfl,rfl,o,ap,i⟩:=G1 af
   try dsimp only at e
   refine ld e (K0.mono (z.trans t) C) λaD ak ag e=>?_
   obtain⟨d,aE,b,rfl,rfl,p,aq,j⟩:=G1 ag
   try dsimp only at e
   refine ifB e (λX e=>?_) λX e=>?_
   ·obtain⟨ax,Q,e⟩:=z0 e
    refine aI (K1 Q (by first|rw[F2.length g,F2.length (show F2 (Q4.R k) ([[.int .i64 (if b<a then b else a),.int .i64 (if b>a then b else a)]]:List (List Value)) [((if b<a then b else a),(if b>a then b else a))] from⟨(Y1 (S7 j i) (S7 j i)),trivial⟩)]|exact congrArg (·+1) (F2.length g))) ?_
    refine ifB e (λY e=>?_) λY e=>?_
    ·obtain⟨ay,S,e⟩:=z0 e
     refine aI (K1 S (by first|rw[F2.length (F2.append g (show F2 (Q4.R k) ([[.int .i64 (if b<a then b else a),.int .i64 (if b>a then b else a)]]:List (List Value)) [((if b<a then b else a),(if b>a then b else a))] from⟨(Y1 (S7 j i) (S7 j i)),trivial⟩)),F2.length (show F2 (Q4.R k) ([[.int .i64 (if d<c then d else c),.int .i64 (if d>c then d else c)]]:List (List Value)) [((if d<c then d else c),(if d>c then d else c))] from⟨(Y1 (S7 p o) (S7 p o)),trivial⟩)]|exact congrArg (·+1) (F2.length (F2.append g (show F2 (Q4.R k) ([[.int .i64 (if b<a then b else a),.int .i64 (if b>a then b else a)]]:List (List Value)) [((if b<a then b else a),(if b>a then b else a))] from⟨(Y1 (S7 j i) (S7 j i)),trivial⟩))))) ?_
     exact N1 s ⟨(IntKind.i64.wrap (u8+1)),((q++([[.int .i64 (if b<a then b else a),.int .i64 (if b>a then b else a)]]:List (List Value)))++([[.int .i64 (if d<c then d else c),.int .i64 (if d>c then d else c)]]:List (List Value))),((m ++ [((if b<a then b else a),(if b>a then b else a))]) ++ [((if d<c then d else c),(if d>c then d else c))]),rfl,rfl,t,(I0 _),(F2.append (F2.append g (show F2 (Q4.R k) ([[.int .i64 (if b<a then b else a),.int .i64 (if b>a then b else a)]]:List (List Value)) [((if b<a then b else a),(if b>a then b else a))] from⟨(Y1 (S7 j i) (S7 j i)),trivial⟩)) (show F2 (Q4.R k) ([[.int .i64 (if d<c then d else c),.int .i64 (if d>c then d else c)]]:List (List Value)) [((if d<c then d else c),(if d>c then d else c))] from⟨(Y1 (S7 p o) (S7 p o)),trivial⟩)),e⟩
    ·exact N1 s ⟨(IntKind.i64.wrap (u8+1)),(q++([[.int .i64 (if b<a then b else a),.int .i64 (if b>a then b else a)]]:List (List Value))),(m ++ [((if b<a then b else a),(if b>a then b else a))]),rfl,rfl,t,(I0 _),(F2.append g (show F2 (Q4.R k) ([[.int .i64 (if b<a then b else a),.int .i64 (if b>a then b else a)]]:List (List Value)) [((if b<a then b else a),(if b>a then b else a))] from⟨(Y1 (S7 j i) (S7 j i)),trivial⟩)),e⟩
   ·refine ifB e (λZ e=>?_) λZ e=>?_
    ·obtain⟨az,T,e⟩:=z0 e
     refine aI (K1 T (by first|rw[F2.length g,F2.length (show F2 (Q4.R k) ([[.int .i64 (if d<c then d else c),.int .i64 (if d>c then d else c)]]:List (List Value)) [((if d<c then d else c),(if d>c then d else c))] from⟨(Y1 (S7 p o) (S7 p o)),trivial⟩)]|exact congrArg (·+1) (F2.length g))) ?_
     exact N1 s ⟨(IntKind.i64.wrap (u8+1)),(q++([[.int .i64 (if d<c then d else c),.int .i64 (if d>c then d else c)]]:List (List Value))),(m ++ [((if d<c then d else c),(if d>c then d else c))]),rfl,rfl,t,(I0 _),(F2.append g (show F2 (Q4.R k) ([[.int .i64 (if d<c then d else c),.int .i64 (if d>c then d else c)]]:List (List Value)) [((if d<c then d else c),(if d>c then d else c))] from⟨(Y1 (S7 p o) (S7 p o)),trivial⟩)),e⟩
    ·exact N1 s ⟨(IntKind.i64.wrap (u8+1)),q,m,rfl,rfl,t,(I0 _),g,e⟩
  ·obtain rfl:=oJ e
   try dsimp only[S0,U0]at f
   exact N1 y ⟨(IntKind.i64.wrap (l+1)),q,m,rfl,rfl,(z.trans t),(I0 _),g,f⟩
 ·obtain rfl:=oJ f
  try dsimp only[S0,U0]at u
  intro aA ar P
  obtain⟨M,O,rfl,ah,ai,av⟩:=E1.out (r:=Q4.toRp) P I
  obtain rfl:=oJ u
  exact⟨M,w.length,O,rfl,ah,(z.trans ai)⟩
theorem L0a(h:Hp)(d:List Value)(i:j0)(w:Y0.R h d i)(r:B5×Bool)(a:U8 i=some r):
  Tr Tryz.prog 349 #[.agg d.toArray] h λv e=>∃(c:List Value),v = .tuple #[.agg c.toArray,.bool r.2]/\Q4.R e c r.1/\Sub h e:=by
 obtain⟨s,t,l,H,m,u,rfl,rfl,f,g,b⟩:=C0 w
 obtain⟨rfl,F⟩:=Sl.len b
 unfold U8 at a
 dsimp only at a
 refine C2 (args:=[.agg #[.int .i64 s,.int .i64 t,.slice l u.length m]]) (fn:=Tryz.f349) rfl ?_
 refine trV a (L6 _ _ _ (l0 f g b)) λK a=>?_
 refine ifB a (λn a=>?_) λn a=>?_
 ·obtain rfl:=oJ a
  exact⟨([.int .i64 0,.int .i64 0]),rfl,(Y1 (by decide) (by decide)),(Sub.refl _)⟩
 ·refine trM a (L0d _ _ _ (l0 f g b)) ?_
  rintro L a J E ⟨A,I,D,rfl,j,k⟩
  obtain⟨rfl,G⟩:=Sl.len j
  refine ifB a (λo a=>?_) λo a=>?_
  ·obtain rfl:=oJ a
   exact⟨([.int .i64 0,.int .i64 0]),rfl,(Y1 (by decide) (by decide)),k⟩
  ·refine ld a j λM C x a=>?_
   obtain⟨y,z,rfl,rfl,p,q⟩:=p02 x
   try dsimp only at a
   obtain rfl:=oJ a
   exact⟨([.int .i64 y,.int .i64 z]),rfl,(Y1 p q),k⟩
theorem F09(h:Hp)(b:Int)(m:J0 b)(c:List Value)(d:B5)(l:Q4.R h c d)(r:Int)(a:l01 b d=some r):
  Tr Tryz.prog 377 #[.int .i64 b,.agg c.toArray] h λv e=>v = .int .i64 r/\e=h:=by
 obtain⟨j,k,rfl,rfl,n,o⟩:=p02 l
 unfold l01 at a
 dsimp only at a
 refine Tr.forget (C2 (args:=[.int .i64 b,.agg #[.int .i64 j,.int .i64 k]]) (fn:=Tryz.f377) rfl ?_)
 refine ifB a (λf a=>?_) λf a=>?_
 ·refine ifB a (λg a=>?_) λg a=>?_
  ·obtain rfl:=oJ a
   exact aI rfl (Sub.refl _)
  ·obtain rfl:=oJ a
   exact aI rfl (Sub.refl _)
 ·refine ifB a (λi a=>?_) λi a=>?_
  ·obtain rfl:=oJ a
   exact aI rfl (Sub.refl _)
  ·obtain rfl:=oJ a
   exact aI rfl (Sub.refl _)
theorem U06(h:Hp)(y:List Value)(G:j0)(al:Y0.R h y G)(z:List Value)(J:B5)(am:Q4.R h z J)(r:j0×Bool)(b:W6 G J=some r):
  Tr Tryz.prog 350 #[.agg y.toArray,.agg z.toArray] h λv e=>∃(x:List Value),v = .tuple #[.agg x.toArray,.bool r.2]/\Y0.R e x r.1/\Sub h e:=by
 obtain⟨H,I,P,aJ,T,n,rfl,rfl,l,A,k⟩:=C0 al
 obtain⟨rfl,aE⟩:=Sl.len k
 obtain⟨o,p,rfl,rfl,C,D⟩:=p02 am
 unfold W6 at b
 dsimp only at b
 refine C2 (args:=[.agg #[.int .i64 H,.int .i64 I,.slice P n.length T],.agg #[.int .i64 o,.int .i64 p]]) (fn:=Tryz.f350) rfl ?_
 refine trV b (L6 _ _ _ (l0 l A k)) λaT b=>?_
 refine ifB b (λac b=>?_) λac b=>?_
 ·refine trM b (U5 _ _ _ (l0 l A k)) ?_
  rintro aX b aS ak ⟨ax,rfl,N⟩
  have ap:Sub h ak:=N.sub
  have ao:=N.r
  obtain⟨ar,au,S,aL,V,av,rfl,rfl,ai,aj,L⟩:=C0 ao
  obtain⟨rfl,aH⟩:=Sl.len L
  try dsimp only at b
  obtain rfl:=oJ b
  exact⟨([.int .i64 ar,.int .i64 au,.slice S av.length V]),rfl,(l0 ai aj L),ap⟩
 ·obtain⟨w,aa,b⟩:=z0 b
  refine eX { vars:=[7],boxes:=[3],owns:=[],fuel:=true } (eX (λvs os e=>∃ d u8 c g m i f,vs.tail = [.int .i64 d,.int .i64 u8,.int .i64 c,.slice g m i]/\os = []/\Sub h e/\J0 d/\J0 u8/\J0 c/\K0.R e [.slice g m i] f/\j4 n o p (I1 vs) d u8 c f=some w) (eX (λ_ _=>0) (aI (eX P0 ⟨0,H,(IntKind.i64.wrap (I-1)),none,0,0,[],rfl,rfl,(Sub.refl _),(by decide),l,(I0 _),(I0c Z0 h),aa⟩) ?_)))
  rintro _ _ _ _ j az ⟨d,u8,c,g,m,i,f,⟨⟩,⟨⟩,s,ay,E,F,q,a⟩
  replace a:j4 n o p j d u8 c f=some w:=a
  obtain _|j:=j
  ·cases a
  rw[j4.eq_2]at a
  obtain⟨rfl,aF⟩:=Sl.len q
  refine ifB a (λab a=>?_) λab a=>?_
  ·refine ld a (K0.mono s k) λaU aw an a=>?_
   obtain⟨aV,aq,aW,rfl,rfl,ad,ae,af⟩:=G1 an
   try dsimp only at a
   refine Or.inr (Or.inr (Or.inl (aI (aI (by kernel_rfl) (by kernel_rfl)) ?_)))
   obtain⟨t,Y,a⟩:=z0 a
   obtain⟨aM,W,a⟩:=z0 a
   have ag:J0 t:=Q0 W
   refine Or.inl (eX (.val (.int .i64 t)) (aI ?_ ?_))
   ·intro aA aO
    exact Tr.val (F09 _ _ ad _ _ (Y1 C D) _ Y) (aI rfl (aI rfl rfl))
   obtain⟨u,Z,a⟩:=z0 a
   obtain⟨aN,X,a⟩:=z0 a
   have ah:J0 u:=Q0 X
   refine Or.inl (eX (.val (.int .i64 u)) (aI ?_ ?_))
   ·intro aB aP
    exact Tr.val (F09 _ _ af _ _ (Y1 C D) _ Z) (aI rfl (aI rfl rfl))
   refine Or.inl (eX (.agg [.val (.int .i64 t),.val (.int .i64 aq),.val (.int .i64 u)]) (aI ?_ ?_))
   ·intro aC aQ
    exact aI rfl (aI rfl rfl)
   refine Or.inr ?_
   refine Or.inr ?_
   refine Or.inl (eX 1 (aI (aI rfl rfl) ?_))
   refine trM a (L8 _ _ _ _ _ q _ _ (C1 ag ae ah)) ?_
   rintro O a aR aD ⟨Q,aK,U,rfl,K,M⟩
   obtain⟨rfl,aG⟩:=Sl.len K
   refine aI (aI rfl M) (aI (by first|exact trivial|exact rfl) ?_)
   refine aI trivial (aI (by first|exact trivial|exact rfl) ?_)
   exact N1 j ⟨(IntKind.i64.wrap (d+1)),u8,c,Q,O.length,U,O,rfl,rfl,(s.trans M),(I0 _),E,F,K,a⟩
  ·obtain rfl:=oJ a
   try dsimp only[S0,U0]at b
   obtain rfl:=oJ b
   exact⟨([.int .i64 u8,.int .i64 c,.slice g f.length i]),rfl,(l0 E F q),s⟩
theorem E0b(h:Hp)(j:List Value)(m:j0)(L:Y0.R h j m)(r:j0×B5×Bool)(a:z00 m=some r):
  Tr Tryz.prog 338 #[.agg j.toArray] h λv d=>∃(g:List Value) (i:List Value),v = .tuple #[.agg g.toArray,.agg i.toArray,.bool r.2.2]/\Y0.R d g r.1/\Q4.R d i r.2.1/\Sub h d:=by
 obtain⟨I,J,t,ah,x,K,rfl,rfl,e,f,b⟩:=C0 L
 obtain⟨rfl,ae⟩:=Sl.len b
 unfold z00 at a
 dsimp only at a
 refine C2 (args:=[.agg #[.int .i64 I,.int .i64 J,.slice t K.length x]]) (fn:=Tryz.f338) rfl ?_
 refine trM a (L0a _ _ _ (l0 e f b)) ?_
 rintro P a al G ⟨aa,rfl,n,c⟩
 obtain⟨an,ao⟩:=P
 dsimp only at a n
 obtain⟨Q,S,rfl,rfl,k,l⟩:=p02 n
 try dsimp only at a
 refine ifB a (λA a=>?_) λA a=>?_
 ·refine trM a (U5 _ _ _ (l0 e f (K0.mono c b))) ?_
  rintro ap a am H ⟨ab,rfl,s⟩
  have N:Sub G H:=s.sub
  have M:=s.r
  obtain⟨T,U,u,ai,y,V,rfl,rfl,C,D,o⟩:=C0 M
  obtain⟨rfl,af⟩:=Sl.len o
  try dsimp only at a
  obtain rfl:=oJ a
  exact⟨([.int .i64 T,.int .i64 U,.slice u V.length y]),([.int .i64 0,.int .i64 0]),rfl,(l0 C D o),(Y1 (by decide) (by decide)),(c.trans N)⟩
 ·refine trM a (U06 _ _ _ (l0 e f (K0.mono c b)) _ _ (Y1 k l)) ?_
  rintro W a ak ad ⟨ac,rfl,p,O⟩
  obtain⟨aq,ar⟩:=W
  dsimp only at a p
  obtain⟨X,Y,w,aj,z,Z,rfl,rfl,E,F,q⟩:=C0 p
  obtain⟨rfl,ag⟩:=Sl.len q
  try dsimp only at a
  refine Or.inr (Or.inr (Or.inl (aI (aI (by kernel_rfl) (by kernel_rfl)) ?_)))
  refine Or.inr ?_
  refine Or.inr ?_
  refine Or.inl (eX 0 (aI (aI rfl rfl) ?_))
  refine aI trivial (aI (by first|exact trivial|exact rfl) ?_)
  refine aI trivial (aI (by first|exact trivial|exact rfl) ?_)
  obtain rfl:=oJ a
  exact⟨([.int .i64 X,.int .i64 Y,.slice w Z.length z]),([.int .i64 Q,.int .i64 S]),rfl,(l0 E F q),(Y1 k l),(c.trans O)⟩
theorem M0d(h:Hp)(D:List Value)(I:j0)(aw:Y0.R h D I)(r:j0×g8)(b:a01 I=some r):
  Tr Tryz.prog 310 #[.agg D.toArray] h λv c=>∃(C:List Value) (z:Option Addr) (H A:Nat),v = .tuple #[.agg C.toArray,.slice z H A]/\Y0.R c C r.1/\a0g.R c [.slice z H A] r.2/\Sub h c:=by
 obtain⟨ar,au,V,aT,aa,av,rfl,rfl,al,am,J⟩:=C0 aw
 obtain⟨rfl,aN⟩:=Sl.len J
 unfold a01 at b
 dsimp only at b
 refine C2 (args:=[.agg #[.int .i64 ar,.int .i64 au,.slice V av.length aa]]) (fn:=Tryz.f310) rfl ?_
 refine trM b (U5 _ _ _ (l0 al am J)) ?_
 rintro a1 b a0 u ⟨aF,rfl,S⟩
 have O:Sub h u:=S.sub
 have ax:=S.r
 obtain⟨aD,aE,X,aV,ac,U,rfl,rfl,ap,aq,N⟩:=C0 ax
 obtain⟨rfl,aQ⟩:=Sl.len N
 try dsimp only at b
 obtain⟨y,ai,b⟩:=z0 b
 refine eX { vars:=[6],boxes:=[2],owns:=[0],fuel:=true } (eX (λvs os c=>∃ i e f l w m u8 q g,vs.tail = [.int .i64 i,.int .i64 e,.int .i64 f,.slice l w m]/\os = [q]/\Sub u c/\J0 i/\J0 e/\J0 f/\K0.R c [.slice l w m] u8/\F2 (Q4.R c) q g/\Z5 (I1 vs) i e f u8 g=some y) (eX (λ_ _=>0) (aI (eX P0 ⟨0,aD,aE,X,U.length,ac,U,[],([]:g8),rfl,rfl,(Sub.refl _),(by decide),ap,aq,N,(show F2 (Q4.R u) ([]:List (List Value)) ([]:g8) from trivial),ai⟩) ?_)))
 rintro _ _ _ _ q o aK ⟨i,e,f,l,w,m,u8,ba,g,⟨⟩,⟨⟩,x,aJ,s,t,p,n,a⟩
 replace a:Z5 o i e f u8 g=some y:=a
 obtain _|o:=o
 ·cases a
 rw[Z5.eq_2]at a
 obtain⟨rfl,aO⟩:=Sl.len p
 refine ifB a (λaj a=>?_) λaj a=>?_
 ·refine trM a (E0b _ _ _ (l0 s t p)) ?_
  rintro aA a aX G ⟨aG,aH,rfl,K,M,d⟩
  obtain⟨a2,a3,a4⟩:=aA
  dsimp only at a K M
  obtain⟨aB,aC,W,aU,ab,T,rfl,rfl,an,ao,L⟩:=C0 K
  obtain⟨rfl,aP⟩:=Sl.len L
  try dsimp only at a
  obtain⟨j,k,rfl,rfl,E,F⟩:=p02 M
  try dsimp only at a
  refine ifB a (λak a=>?_) λak a=>?_
  ·intro aY aL af
   obtain⟨Y,ad,rfl,ay,P,aR⟩:=E1.out (r:=Q4.toRp) af (F2.up (r:=Q4.toRp) d n)
   obtain rfl:=oJ a
   try dsimp only[C3,V3]at b
   obtain rfl:=oJ b
   exact⟨([.int .i64 e,.int .i64 f,.slice l u8.length m]),Y,g.length,ad,rfl,(l0 s t (K0.mono (d.trans P) p)),ay,(((O.trans x).trans d).trans P)⟩
  ·obtain⟨aW,ah,a⟩:=z0 a
   refine aI (K1 ah (by first|rw[F2.length (F2.up (r:=Q4.toRp) d n),F2.length (show F2 (Q4.R G) ([[.int .i64 j,.int .i64 k]]:List (List Value)) [(j,k)] from⟨(Y1 E F),trivial⟩)]|exact congrArg (·+1) (F2.length (F2.up (r:=Q4.toRp) d n)))) ?_
   exact N1 o ⟨(IntKind.i64.wrap (i+1)),aB,aC,W,T.length,ab,T,(q++([[.int .i64 j,.int .i64 k]]:List (List Value))),(g ++ [(j,k)]),rfl,rfl,(x.trans d),(I0 _),an,ao,L,(F2.append (F2.up (r:=Q4.toRp) d n) (show F2 (Q4.R G) ([[.int .i64 j,.int .i64 k]]:List (List Value)) [(j,k)] from⟨(Y1 E F),trivial⟩)),a⟩
 ·obtain rfl:=oJ a
  try dsimp only[S0,U0]at b
  intro aZ aM ag
  obtain⟨Z,ae,rfl,az,Q,aS⟩:=E1.out (r:=Q4.toRp) ag n
  obtain rfl:=oJ b
  exact⟨([.int .i64 e,.int .i64 f,.slice l u8.length m]),Z,g.length,ae,rfl,(l0 s t (K0.mono Q p)),az,((O.trans x).trans Q)⟩
theorem M0a(h:Hp)(g:List Value)(n:j0)(C:Y0.R h g n)(r:j0×Bool)(a:U9 n=some r):
  Tr Tryz.prog 276 #[.agg g.toArray] h λv j=>∃(f:List Value),v = .tuple #[.agg f.toArray,.bool r.2]/\Y0.R j f r.1/\Sub h j:=by
 obtain⟨z,o,t,I,u,A,rfl,rfl,k,l,b⟩:=C0 C
 obtain⟨rfl,G⟩:=Sl.len b
 unfold U9 at a
 dsimp only at a
 refine C2 (args:=[.agg #[.int .i64 z,.int .i64 o,.slice t A.length u]]) (fn:=Tryz.f276) rfl ?_
 refine trM a (U5 _ _ _ (l0 k l b)) ?_
 rintro L a K y ⟨F,rfl,p⟩
 have d:Sub h y:=p.sub
 have D:=p.r
 obtain⟨q,E,e,J,i,s,rfl,rfl,m,x,c⟩:=C0 D
 obtain⟨rfl,H⟩:=Sl.len c
 try dsimp only at a
 refine trV a (L6 _ _ _ (l0 k l (K0.mono d b))) λM a=>?_
 refine ifB a (λw a=>?_) λw a=>?_
 ·obtain rfl:=oJ a
  exact⟨([.int .i64 q,.int .i64 E,.slice e s.length i]),rfl,(l0 m x c),d⟩
 ·obtain rfl:=oJ a
  exact⟨([.int .i64 q,.int .i64 (IntKind.i64.wrap (o+1)),.slice e s.length i]),rfl,(l0 m (I0 _) c),d⟩
theorem N0a(h:Hp)(ak:List Value)(ap:j0)(ba:Y0.R h ak ap)(r:j0×F0)(d:W9 ap=some r):
  Tr Tryz.prog 311 #[.agg ak.toArray] h λv c=>∃(aj:List Value) (ah:Option Addr) (ao ai:Nat),v = .tuple #[.agg aj.toArray,.slice ah ao ai]/\Y0.R c aj r.1/\T0.R c [.slice ah ao ai] r.2/\Sub h c:=by
 obtain⟨C,D,aB,bE,aG,E,rfl,rfl,V,W,P⟩:=C0 ba
 obtain⟨rfl,bu⟩:=Sl.len P
 unfold W9 at d
 dsimp only at d
 refine C2 (args:=[.agg #[.int .i64 C,.int .i64 D,.slice aB E.length aG]]) (fn:=Tryz.f311) rfl ?_
 refine trM d (U5 _ _ _ (l0 V W P)) ?_
 rintro bQ d bM X ⟨bl,rfl,ay⟩
 have T:Sub h X:=ay.sub
 have bb:=ay.r
 obtain⟨bf,bg,aC,bF,aH,az,rfl,rfl,a1,a2,aq⟩:=C0 bb
 obtain⟨rfl,bz⟩:=Sl.len aq
 try dsimp only at d
 obtain⟨ag,aV,d⟩:=z0 d
 refine eX { vars:=[6],boxes:=[],owns:=[0],fuel:=true } (eX (λvs os c=>∃ f U l,vs.tail = [.int .i64 f]/\os = [U]/\Sub X c/\J0 f/\F2 (Wp.int.R c) U l/\O5 D C E (I1 vs) f l=some ag) (eX (λ_ _=>0) (aI (eX P0 ⟨0,[],([]:F0),rfl,rfl,(Sub.refl _),(by decide),(show F2 (Wp.int.R X) ([]:List (List Value)) ([]:F0) from trivial),aV⟩) ?_)))
 rintro _ U O Z ⟨f,bX,l,⟨⟩,⟨⟩,m,am,J,a⟩
 replace a:O5 D C E O f l=some ag:=a
 obtain _|O:=O
 ·cases a
 rw[O5.eq_2]at a
 refine trG a (λq=>L6 _ _ _ (l0 V W (K0.mono (T.trans m) P))) λbU a=>?_
 refine ifB a (λaW a=>?_) λaW a=>?_
 ·obtain⟨bH,aP,a⟩:=z0 a
  refine aI (K1 aP (by first|rw[F2.length J,F2.length (show F2 (Wp.int.R Z) ([[.int .i64 f]]:List (List Value)) [f] from⟨⟨rfl,am⟩,trivial⟩)]|exact congrArg (·+1) (F2.length J))) ?_
  exact N1 O ⟨(IntKind.i64.wrap (f+1)),(U++([[.int .i64 f]]:List (List Value))),(l ++ [f]),rfl,rfl,m,(I0 _),(F2.append J (show F2 (Wp.int.R Z) ([[.int .i64 f]]:List (List Value)) [f] from⟨⟨rfl,am⟩,trivial⟩)),a⟩
 ·obtain rfl:=oJ a
  try dsimp only[S0,U0]at d
  obtain⟨ae,aT,d⟩:=z0 d
  refine eX { vars:=[5,7],boxes:=[2],owns:=[],fuel:=true,pubs:=[5] } (eX (λvs os c=>∃(t:Option Addr) (aa w:Nat) (i:F0) (n:Int) (k:Int) (g:Int) (u:Option Addr) (ab x:Nat) (o:M0),vs.tail = [.slice t aa w,.int .i64 n,.int .i64 k,.int .i64 g,.slice u ab x]/\os = []/\Sub Z c/\T0.R c [.slice t aa w] i/\J0 n/\J0 k/\J0 g/\K0.R c [.slice u ab x] o/\N5 C D E (I1 vs) i n k g o=some ae) (eX (λ_ _=>0) ?_))
  intro bL bq aM
  obtain⟨aE,aK,rfl,bc,aw,bB⟩:=E1.out (r:=Wp.int.toRp) aM J
  refine aI (eX P0 ⟨aE,l.length,aK,l,0,bf,bg,aC,az.length,aH,az,rfl,rfl,aw,bc,(by decide),a1,a2,(K0.mono (m.trans aw) aq),aT⟩) ?_
  rintro _ _ _ _ _ N Y ⟨t,aa,w,i,n,k,g,u,ab,x,o,⟨⟩,⟨⟩,S,Q,bo,K,L,F,a⟩
  replace a:N5 C D E N i n k g o=some ae:=a
  obtain _|N:=N
  ·cases a
  rw[N5.eq_2]at a
  obtain⟨rfl,bv⟩:=Sl.len Q
  obtain⟨rfl,bx⟩:=Sl.len F
  refine trG a (λq=>L6 _ _ _ (l0 V W (K0.mono ((T.trans m).trans S) P))) λbR a=>?_
  refine ifB a (λaX a=>?_) λaX a=>?_
  ·refine trV a (Y07 _ _ _ (l0 K L F)) λad a=>?_
   obtain⟨bI,aQ,a⟩:=z0 a
   have bp:J0 ad:=Q0 aQ
   refine ifB a (λaY a=>?_) λaY a=>?_
   ·obtain rfl:=oJ a
    try dsimp only[C3,V3]at d
    obtain rfl:=oJ d
    exact⟨([.int .i64 k,.int .i64 g,.slice u o.length x]),t,i.length,w,rfl,(l0 K L F),Q,((T.trans m).trans S)⟩
   ·obtain⟨af,aU,a⟩:=z0 a
    refine eX { vars:=[11],boxes:=[],owns:=[1,2],fuel:=true } (eX (λvs os c=>∃ e H p I j,vs.tail = [.int .i64 e]/\os = [H,I]/\Sub Y c/\J0 e/\F2 (Wp.int.R c) H p/\F2 (Wp.int.R c) I j/\i5 g ad i (I1 vs) e p j=some af) (eX (λ_ _=>0) (aI (eX P0 ⟨0,[],([]:F0),[],([]:F0),rfl,rfl,(Sub.refl _),(by decide),(show F2 (Wp.int.R Y) ([]:List (List Value)) ([]:F0) from trivial),(show F2 (Wp.int.R Y) ([]:List (List Value)) ([]:F0) from trivial),aU⟩) ?_)))
    rintro _ H I A M ⟨e,bV,p,bW,j,⟨⟩,⟨⟩,G,al,y,z,b⟩
    replace b:i5 g ad i A e p j=some af:=b
    obtain _|A:=A
    ·cases b
    rw[i5.eq_2]at b
    refine ifB b (λaZ b=>?_) λaZ b=>?_
    ·refine ifB b (λa0 b=>?_) λa0 b=>?_
     ·obtain⟨bJ,aR,b⟩:=z0 b
      refine aI (K1 aR (by first|rw[F2.length y,F2.length (show F2 (Wp.int.R M) ([[.int .i64 e]]:List (List Value)) [e] from⟨⟨rfl,al⟩,trivial⟩)]|exact congrArg (·+1) (F2.length y))) ?_
      refine ldI b (T0.mono G Q) λs an b=>?_
      obtain⟨bK,aS,b⟩:=z0 b
      refine aI (K1 aS (by first|rw[F2.length z,F2.length (show F2 (Wp.int.R M) ([[.int .i64 s]]:List (List Value)) [s] from⟨⟨rfl,an⟩,trivial⟩)]|exact congrArg (·+1) (F2.length z))) ?_
      exact N1 A ⟨(IntKind.i64.wrap (e+1)),(H++([[.int .i64 e]]:List (List Value))),(p ++ [e]),(I++([[.int .i64 s]]:List (List Value))),(j ++ [s]),rfl,rfl,G,(I0 _),(F2.append y (show F2 (Wp.int.R M) ([[.int .i64 e]]:List (List Value)) [e] from⟨⟨rfl,al⟩,trivial⟩)),(F2.append z (show F2 (Wp.int.R M) ([[.int .i64 s]]:List (List Value)) [s] from⟨⟨rfl,an⟩,trivial⟩)),b⟩
     ·exact N1 A ⟨(IntKind.i64.wrap (e+1)),H,p,I,j,rfl,rfl,G,(I0 _),y,z,b⟩
    ·obtain rfl:=oJ b
     try dsimp only[S0,U0]at a
     refine Or.inl ?_
     intro bN br aN
     obtain⟨bk,bn,rfl,bd,ac,bC⟩:=E1.out (r:=Wp.int.toRp) aN y
     refine trM a (c03 _ _ _ (l0 K L (K0.mono (G.trans ac) F)) _ _ _ _ bd) ?_
     rintro bh a bO bs ⟨bm,rfl,ar,av⟩
     obtain⟨bS,bT⟩:=bh
     dsimp only at a ar
     obtain⟨bi,bj,aD,bG,aJ,aA,rfl,rfl,a3,a4,au⟩:=C0 ar
     obtain⟨rfl,bA⟩:=Sl.len au
     try dsimp only at a
     intro bP bt aO
     obtain⟨aF,aL,rfl,be,ax,bD⟩:=E1.out (r:=Wp.int.toRp) aO (F2.up (r:=Wp.int.toRp) (ac.trans av) z)
     exact N1 N ⟨aF,j.length,aL,j,(IntKind.i64.wrap (n+1)),bi,bj,aD,aA.length,aJ,aA,rfl,rfl,((((S.trans G).trans ac).trans av).trans ax),be,(I0 _),a3,a4,(K0.mono ax au),a⟩
  ·obtain rfl:=oJ a
   try dsimp only[S0,U0]at d
   obtain rfl:=oJ d
   exact⟨([.int .i64 k,.int .i64 g,.slice u o.length x]),t,i.length,w,rfl,(l0 K L F),Q,((T.trans m).trans S)⟩
theorem O0a(h:Hp)(c:List Value)(e:j0)(G:Y0.R h c e)(r:j0)(a:Y9 e=some r):
  Tr Tryz.prog 242 #[.agg c.toArray] h λv d=>∃(b:List Value),v = .agg b.toArray/\Y0.R d b r/\Sub h d:=by
 obtain⟨D,E,o,al,q,F,rfl,rfl,t,u,f⟩:=C0 G
 obtain⟨rfl,af⟩:=Sl.len f
 unfold Y9 at a
 dsimp only at a
 refine C2 (args:=[.agg #[.int .i64 D,.int .i64 E,.slice o F.length q]]) (fn:=Tryz.f242) rfl ?_
 refine trM a (M0d _ _ _ (l0 t u f)) ?_
 rintro L a ar ac ⟨V,S,an,Z,rfl,g,j,I⟩
 obtain⟨aw,aA⟩:=L
 dsimp only at a g j
 obtain⟨ax,ay,Q,am,Y,az,rfl,rfl,w,x,i⟩:=C0 g
 obtain⟨rfl,ag⟩:=Sl.len i
 try dsimp only at a
 obtain⟨rfl,ah⟩:=Sl.len j
 refine trM a (N0a _ _ _ (l0 w x i)) ?_
 rintro M a au ad ⟨W,U,ap,ab,rfl,k,m,J⟩
 obtain⟨aB,aF⟩:=M
 dsimp only at a k m
 obtain⟨aC,aD,T,ao,aa,aE,rfl,rfl,y,z,l⟩:=C0 k
 obtain⟨rfl,ai⟩:=Sl.len l
 try dsimp only at a
 obtain⟨rfl,aj⟩:=Sl.len m
 refine trM a (A02 _ _ _ (l0 y z l)) ?_
 rintro aG a av ae ⟨X,rfl,H,K⟩
 obtain⟨N,O,p,aq,s,P,rfl,rfl,A,C,n⟩:=C0 H
 obtain⟨rfl,ak⟩:=Sl.len n
 try dsimp only at a
 obtain rfl:=oJ a
 exact⟨([.int .i64 N,.int .i64 O,.slice p P.length s]),rfl,(l0 A C n),((I.trans J).trans K)⟩
theorem S05(h:Hp)(n:List Value)(t:j0)(N:Y0.R h n t)(f:Option Addr)(s g:Nat)(i:F0)(u:T0.R h [.slice f s g] i)(r:Bool)(b:t9 t i=some r):
  Tr Tryz.prog 180 #[.agg n.toArray,.slice f s g] h λv H=>v = .bool r/\H=h:=by
 obtain⟨K,L,z,ak,C,M,rfl,rfl,o,p,j⟩:=C0 N
 obtain⟨rfl,ag⟩:=Sl.len j
 obtain⟨rfl,ah⟩:=Sl.len u
 unfold t9 at b
 dsimp only at b
 refine Tr.forget (C2 (args:=[.agg #[.int .i64 K,.int .i64 L,.slice z M.length C],.slice f i.length g]) (fn:=Tryz.f180) rfl ?_)
 refine Or.inr (Or.inr (Or.inr (Or.inl (aI (aI (by kernel_rfl) (by kernel_rfl)) ?_))))
 obtain⟨d,F,b⟩:=z0 b
 refine Or.inr (eX (λv I=>∃(a:Option Addr) (c:Nat),v = .slice a d.length c/\T0.R I [.slice a d.length c] d/\d.length<=9223372036854775807) (aI (λv X Y k q=>by obtain⟨a,c,e,r,l⟩:=q;exact⟨a,c,e,T0.mono k r,l⟩) (aI ?_ ?_)))
 ·intro ac P
  refine Tr.mono (z8 _ _ _ _ _ (T0.mono P u) _ F) ?_
  rintro _ af ⟨A,al,D,rfl,w,k⟩
  obtain⟨rfl,J⟩:=Sl.len w
  exact aI m00 (aI k ⟨A,D,rfl,w,J⟩)
 obtain⟨S,G,b⟩:=z0 b
 obtain⟨m,y⟩:=S
 try dsimp only at b
 obtain⟨am,E,b⟩:=z0 b
 have Z:J0 m:=Q0 E
 refine Or.inl (eX (.val (.tuple #[.int .i64 m,.bool y])) (aI ?_ ?_))
 ·intro ad Q
  rintro _ ⟨U,W,rfl,O,aj⟩
  exact Tr.val (L01 _ _ _ (l0 o p (K0.mono Q j)) 0 (by decide) _ _ _ _ O _ G) (aI rfl (aI rfl rfl))
 refine Or.inl (eX (.val (.int .i64 m)) (aI ?_ ?_))
 ·intro ae ao
  exact aI rfl (aI rfl rfl)
 refine Or.inl (eX (.val (.bool y)) (aI ?_ ?_))
 ·intro aa ap
  exact aI rfl (aI rfl rfl)
 intro ab x
 rintro _ ⟨T,V,rfl,an,ai⟩
 refine trV b (L00 _ _ _ (l0 o p (K0.mono x j))) λaq b=>?_
 obtain rfl:=oJ b
 exact aI rfl x
set_option maxHeartbeats 0
theorem N0d(h:Hp)(Y:List Value)(ad:j0)(bi:Y0.R h Y ad)(r:M0)(d:e01 ad=some r):
  Tr Tryz.prog 296 #[.agg Y.toArray] h λv f=>∃(V:Option Addr) (ac X:Nat),v = .slice V ac X/\K0.R f [.slice V ac X] r/\Sub h f:=by
 obtain⟨z,A,an,cb,az,C,rfl,rfl,L,ab,O⟩:=C0 bi
 obtain⟨rfl,b1⟩:=Sl.len O
 unfold e01 at d
 dsimp only at d
 refine C2 (args:=[.agg #[.int .i64 z,.int .i64 A,.slice an C.length az]]) (fn:=Tryz.f296) rfl ?_
 refine trV d (G8 _ _ _ (l0 L ab O)) λcy d=>?_
 refine ifB d (λaZ d=>?_) λaZ d=>?_
 ·intro ct bL aM
  obtain⟨ar,aD,rfl,bq,bt,ca⟩:=E1.out (r:=Z0.toRp) aM (show F2 (Z0.R h) ([]:List (List Value)) ([]:M0) from trivial)
  obtain rfl:=oJ d
  exact⟨ar,(([]:M0)).length,aD,rfl,bq,bt⟩
 ·refine trM d (m05 _ _ L) ?_
  rintro s d cx bg ⟨W,cd,Z,rfl,E,J⟩
  obtain⟨rfl,b5⟩:=Sl.len E
  obtain⟨T,aX,d⟩:=z0 d
  refine eX { vars:=[3,6],boxes:=[],owns:=[1],fuel:=true,pubs:=[3,9] } (eX (λvs os f=>∃(t:Option Addr) (M w:Nat) (o:M0) (k:Int) (G:List (List Value)) (F:List Int),vs.tail = [.slice t M w,.int .i64 k]/\os = [G]/\Sub bg f/\K0.R f [.slice t M w] o/\J0 k/\F2 (Wp.int.R f) G F/\R7 s z A C (I1 vs) o k F=some T) (eX (λ_ _=>0) ?_))
  intro cs bJ aK
  obtain⟨aq,aC,rfl,bo,ai,b7⟩:=E1.out (r:=Z0.toRp) aK (F2.up (r:=Z0.toRp) J (show F2 (Z0.R h) ([]:List (List Value)) ([]:M0) from trivial))
  refine aI (eX P0 ⟨aq,(([]:M0)).length,aC,([]:M0),0,([[.int .i64 0]]:List (List Value)),[0],rfl,rfl,ai,bo,(by decide),(F2.up (r:=Wp.int.toRp) (J.trans ai) (show F2 (Wp.int.R h) ([[.int .i64 0]]:List (List Value)) [0] from⟨⟨rfl,(by decide)⟩,trivial⟩)),aX⟩) ?_
  rintro _ _ G I bf ⟨t,M,w,o,k,cD,F,⟨⟩,⟨⟩,n,P,bF,aa,c⟩
  replace c:R7 s z A C I o k F=some T:=c
  obtain _|I:=I
  ·cases c
  rw[R7.eq_2]at c
  obtain⟨rfl,b2⟩:=Sl.len P
  obtain⟨bh,aN,c⟩:=z0 c
  obtain rfl:G.length=bh:=(F2.length aa).trans (oJ aN)
  obtain⟨cf,bE,c⟩:=z0 c
  refine ifB c (λa0 c=>?_) λa0 c=>?_
  ·obtain⟨U,aY,c⟩:=z0 c
   refine eX { vars:=[3,7],boxes:=[],owns:=[1],fuel:=true } (eX (λvs os f=>∃ u N x l g p m,vs.tail = [.slice u N x,.int .i64 g]/\os = [p]/\Sub bf f/\K0.R f [.slice u N x] l/\J0 g/\F2 (Wp.int.R f) p m/\w5 s k z A C (I1 vs) l g m=some U) (eX (λ_ _=>0) (aI (eX P0 ⟨t,o.length,w,o,0,G,F,rfl,rfl,(Sub.refl _),P,(by decide),aa,aY⟩) ?_)))
   rintro _ _ p q y ⟨u,N,x,l,g,cE,m,⟨⟩,⟨⟩,i,D,bG,e,a⟩
   replace a:w5 s k z A C q l g m=some U:=a
   obtain _|q:=q
   ·cases a
   rw[w5.eq_2]at a
   obtain⟨rfl,b3⟩:=Sl.len D
   refine ifB a (λa1 a=>?_) λa1 a=>?_
   ·refine Or.inl (aI (aI (by kernel_rfl) (by kernel_rfl)) ?_)
    obtain⟨cz,aQ,a⟩:=z0 a
    obtain⟨au,bx,aE,bj⟩:=E3 e aQ
    refine aI au ?_
    obtain⟨rfl,ba⟩:=bj
    refine eX _ (aI aE ?_)
    refine ldI a (T0.mono (n.trans i) E) λcA bb a=>?_
    obtain⟨b,aR,a⟩:=z0 a
    refine eX (.int .i64 b) (aI (D6 _ _ _ (l0 L ab (K0.mono ((J.trans n).trans i) O)) _ ba _ bb _  aR) ?_)
    obtain⟨cg,aO,a⟩:=z0 a
    have j:J0 b:=Q0 aO
    obtain⟨bu,aS,a⟩:=z0 a
    refine eX (.bool bu) (aI ?_ ?_)
    ·intro a4
     intro cu bK aL
     obtain⟨bv,bD,rfl,bp,cr,b8⟩:=E1.out (r:=Wp.int.toRp) aL e
     exact u01 _ _ _ _ _ bp _ j _ (O9 aS a4)
    refine ifB a (λa2 a=>?_) λa2 a=>?_
    ·exact N1 q ⟨u,l.length,x,l,(IntKind.i64.wrap (g+1)),p,m,rfl,rfl,i,D,(I0 _),e,a⟩
    ·obtain⟨ch,aP,a⟩:=z0 a
     refine aI (K1 aP (by first|rw[F2.length e,F2.length (show F2 (Wp.int.R y) ([[.int .i64 b]]:List (List Value)) [b] from⟨⟨rfl,j⟩,trivial⟩)]|exact congrArg (·+1) (F2.length e))) ?_
     refine ldI a (T0.mono (n.trans i) E) λcC bH a=>?_
     refine ifB a (λa3 a=>?_) λa3 a=>?_
     ·refine Or.inr (Or.inr (Or.inr (Or.inr (eX 11 (aI (aI (by kernel_rfl) (by kernel_rfl)) ?_)))))
      obtain⟨aj,aT,a⟩:=z0 a
      obtain⟨av,bz,aF,bk⟩:=E3 (F2.append e (show F2 (Wp.int.R y) ([[.int .i64 b]]:List (List Value)) [b] from⟨⟨rfl,j⟩,trivial⟩)) aT
      obtain⟨rfl,bc⟩:=bk
      refine Or.inl ?_
      apply eX
      refine aI ?_ ?_
      ·intro bM ci
       exact aI av (aI rfl (aI rfl rfl))
      refine Or.inl (eX (.val (.int .i64 aj)) (aI ?_ ?_))
      ·intro bN cj
       exact eX _ (aI aF (aI rfl (aI rfl rfl)))
      obtain⟨ak,aU,a⟩:=z0 a
      obtain⟨aw,bA,aG,bl⟩:=Sl.getI (r:=Wp.int.toRp) (T0.mono (n.trans i) E) aU (by decide)
      obtain⟨rfl,bd⟩:=bl
      refine Or.inl (eX (.hel (.slice W s.length Z) g 1 0) (aI ?_ ?_))
      ·intro bO ck
       exact aI aw (aI rfl (aI rfl rfl))
      refine Or.inl (eX (.val (.int .i64 ak)) (aI ?_ ?_))
      ·intro bP br
       exact eX _ (aI (Y8.up br aG) (aI rfl (aI rfl rfl)))
      refine Or.inl (eX (.agg [.val (.int .i64 aj),.val (.int .i64 ak),.val (.int .i64 b)]) (aI ?_ ?_))
      ·intro bQ cl
       exact aI rfl (aI rfl rfl)
      intro bR Q
      refine trM a (L8 _ _ _ _ _ (K0.mono Q D) _ _ (C1 bc bd j)) ?_
      rintro al a cv bS ⟨ao,cc,aA,rfl,ae,ag⟩
      obtain⟨rfl,b4⟩:=Sl.len ae
      exact N1 q ⟨ao,al.length,aA,al,(IntKind.i64.wrap (g+1)),(p++([[.int .i64 b]]:List (List Value))),(m ++ [b]),rfl,rfl,((i.trans Q).trans ag),ae,(I0 _),(F2.up (r:=Wp.int.toRp) (Q.trans ag) (F2.append e (show F2 (Wp.int.R y) ([[.int .i64 b]]:List (List Value)) [b] from⟨⟨rfl,j⟩,trivial⟩))),a⟩
     ·refine Or.inr (Or.inr (Or.inr (Or.inr (eX 12 (aI (aI (by kernel_rfl) (by kernel_rfl)) ?_)))))
      obtain⟨H,aV,a⟩:=z0 a
      obtain⟨ax,bB,aH,bm⟩:=Sl.getI (r:=Wp.int.toRp) (T0.mono (n.trans i) E) aV (by decide)
      obtain⟨rfl,bI⟩:=bm
      refine Or.inl (eX (.hel (.slice W s.length Z) g 1 0) (aI ?_ ?_))
      ·intro bT cm
       exact aI ax (aI rfl (aI rfl rfl))
      refine Or.inl (eX (.val (.int .i64 H)) (aI ?_ ?_))
      ·intro bU bs
       exact eX _ (aI (Y8.up bs aH) (aI rfl (aI rfl rfl)))
      refine Or.inl (eX (.val (.int .i64 (IntKind.i64.wrap (0-H)))) (aI ?_ ?_))
      ·intro bV cn
       exact aI rfl (aI rfl rfl)
      obtain⟨K,aW,a⟩:=z0 a
      obtain⟨ay,bC,aJ,bn⟩:=E3 (F2.append e (show F2 (Wp.int.R y) ([[.int .i64 b]]:List (List Value)) [b] from⟨⟨rfl,j⟩,trivial⟩)) aW
      obtain⟨rfl,be⟩:=bn
      refine Or.inl ?_
      apply eX
      refine aI ?_ ?_
      ·intro bW co
       exact aI ay (aI rfl (aI rfl rfl))
      refine Or.inl (eX (.val (.int .i64 K)) (aI ?_ ?_))
      ·intro bX cp
       exact eX _ (aI aJ (aI rfl (aI rfl rfl)))
      refine Or.inl (eX (.agg [.val (.int .i64 b),.val (.int .i64 (IntKind.i64.wrap (0-H))),.val (.int .i64 K)]) (aI ?_ ?_))
      ·intro bY cq
       exact aI rfl (aI rfl rfl)
      intro bZ S
      refine trM a (L8 _ _ _ _ _ (K0.mono S D) [.int .i64 b,.int .i64 (IntKind.i64.wrap (0-H)),.int .i64 K] (b,(IntKind.i64.wrap (0-H)),K) (C1 j (I0 _) be)) ?_
      rintro am a cw b0 ⟨ap,ce,aB,rfl,af,ah⟩
      obtain⟨rfl,b6⟩:=Sl.len af
      exact N1 q ⟨ap,am.length,aB,am,(IntKind.i64.wrap (g+1)),(p++([[.int .i64 b]]:List (List Value))),(m ++ [b]),rfl,rfl,((i.trans S).trans ah),af,(I0 _),(F2.up (r:=Wp.int.toRp) (S.trans ah) (F2.append e (show F2 (Wp.int.R y) ([[.int .i64 b]]:List (List Value)) [b] from⟨⟨rfl,j⟩,trivial⟩))),a⟩
   ·obtain rfl:=oJ a
    try dsimp only[S0,U0]at c
    exact N1 I ⟨u,l.length,x,l,(IntKind.i64.wrap (k+1)),p,m,rfl,rfl,(n.trans i),D,(I0 _),e,c⟩
  ·obtain rfl:=oJ c
   try dsimp only[S0,U0]at d
   obtain rfl:=oJ d
   exact⟨t,o.length,w,rfl,P,(J.trans n)⟩
theorem G09(h:Hp)(H:List Value)(S:j0)(ao:Y0.R h H S)(r:M0)(e:A9 S=some r):
  Tr Tryz.prog 213 #[.agg H.toArray] h λv f=>∃(F:Option Addr) (Q G:Nat),v = .slice F Q G/\K0.R f [.slice F Q G] r/\Sub h f:=by
 obtain⟨A,C,aa,aO,ac,p,rfl,rfl,K,L,s⟩:=C0 ao
 obtain⟨rfl,aL⟩:=Sl.len s
 unfold A9 at e
 dsimp only at e
 refine C2 (args:=[.agg #[.int .i64 A,.int .i64 C,.slice aa p.length ac]]) (fn:=Tryz.f213) rfl ?_
 refine trM e (N0d _ _ _ (l0 K L s)) ?_
 rintro z e aS P ⟨aw,aP,aA,rfl,T,y⟩
 obtain⟨rfl,aM⟩:=Sl.len T
 obtain⟨E,aj,e⟩:=z0 e
 refine eX { vars:=[5],boxes:=[],owns:=[0],fuel:=true } (eX (λvs os f=>∃ d u i,vs.tail = [.int .i64 d]/\os = [u]/\Sub P f/\J0 d/\F2 (Z0.R f) u i/\P4 p A C z (I1 vs) d i=some E) (eX (λ_ _=>0) (aI (eX P0 ⟨0,[],([]:M0),rfl,rfl,(Sub.refl _),(by decide),(show F2 (Z0.R P) ([]:List (List Value)) ([]:M0) from trivial),aj⟩) ?_)))
 rintro _ u o an ⟨d,aX,i,⟨⟩,⟨⟩,g,aC,n,a⟩
 replace a:P4 p A C z o d i=some E:=a
 obtain _|o:=o
 ·cases a
 rw[P4.eq_2]at a
 refine trG a (λq=>G8 _ _ _ (l0 K L (K0.mono (y.trans g) s))) λaW a=>?_
 refine ifB a (λak a=>?_) λak a=>?_
 ·obtain⟨D,ai,a⟩:=z0 a
  refine eX { vars:=[6,7],boxes:=[],owns:=[],fuel:=true } (eX (λvs os f=>∃ t j,vs.tail = [.bool t,.int .i64 j]/\os = []/\Sub an f/\J0 j/\D5 z p d (I1 vs) t j=some D) (eX (λ_ _=>0) (aI (eX P0 ⟨false,0,rfl,rfl,(Sub.refl _),(by decide),ai⟩) ?_)))
  rintro _ _ x w ⟨t,j,⟨⟩,⟨⟩,c,aB,b⟩
  replace b:D5 z p d x t j=some D:=b
  obtain _|x:=x
  ·cases b
  rw[D5.eq_2]at b
  refine ifB b (λal b=>?_) λal b=>?_
  ·refine Or.inl (aI (aI (by kernel_rfl) (by kernel_rfl)) ?_)
   obtain⟨aT,ag,b⟩:=z0 b
   obtain⟨ax,I,ap⟩:=Sl.getG (r:=Z0.toRp) (K0.mono (g.trans c) T) ag (by decide) (x06 w)
   refine aI (λq=>(I q).1) ?_
   obtain⟨U,V,W,rfl,rfl,aD,aE,aF⟩:=G1 ap
   try dsimp only at b
   refine eX _ (aI (λq=>(I q).2) ?_)
   obtain⟨aU,ah,b⟩:=z0 b
   obtain⟨ay,J,aq⟩:=Sl.getG (r:=Z0.toRp) (K0.mono ((y.trans g).trans c) s) ah (by decide) (x06 w)
   refine aI (λq=>(J q).1) ?_
   obtain⟨X,Y,Z,rfl,rfl,aG,aH,aJ⟩:=G1 aq
   try dsimp only at b
   refine eX _ (aI (λq=>(J q).2) ?_)
   refine eX (eqE (U,V,W) (X,Y,Z)) (aI (λ_=>(A07 _ _ _ rfl _ _ _ _ _ _)) ?_)
   exact N1 x ⟨(bif t then true else(eqE (U,V,W) (X,Y,Z))),(IntKind.i64.wrap (j+1)),rfl,rfl,c,(I0 _),b⟩
  ·obtain rfl:=oJ b
   try dsimp only[S0,U0]at a
   refine ifB a (λam a=>?_) λam a=>?_
   ·refine ld a (K0.mono ((y.trans g).trans c) s) λaV az ar a=>?_
    obtain⟨k,l,m,rfl,rfl,M,N,O⟩:=G1 ar
    try dsimp only at a
    obtain⟨aQ,af,a⟩:=z0 a
    refine aI (K1 af (by first|rw[F2.length (F2.up (r:=Z0.toRp) c n),F2.length (show F2 (Z0.R w) ([[.int .i64 k,.int .i64 l,.int .i64 m]]:List (List Value)) [(k,l,m)] from⟨(C1 M N O),trivial⟩)]|exact congrArg (·+1) (F2.length (F2.up (r:=Z0.toRp) c n)))) ?_
    exact N1 o ⟨(IntKind.i64.wrap (d+1)),(u++([[.int .i64 k,.int .i64 l,.int .i64 m]]:List (List Value))),(i ++ [(k,l,m)]),rfl,rfl,(g.trans c),(I0 _),(F2.append (F2.up (r:=Z0.toRp) c n) (show F2 (Z0.R w) ([[.int .i64 k,.int .i64 l,.int .i64 m]]:List (List Value)) [(k,l,m)] from⟨(C1 M N O),trivial⟩)),a⟩
   ·exact N1 o ⟨(IntKind.i64.wrap (d+1)),u,i,rfl,rfl,(g.trans c),(I0 _),(F2.up (r:=Z0.toRp) c n),a⟩
 ·obtain rfl:=oJ a
  try dsimp only[S0,U0]at e
  intro aR aK ae
  obtain⟨ab,ad,rfl,au,av,aN⟩:=E1.out (r:=Z0.toRp) ae n
  obtain rfl:=oJ e
  exact⟨ab,i.length,ad,rfl,au,((y.trans g).trans av)⟩
theorem H09(h:Hp)(u:List Value)(A:j0)(O:Y0.R h u A)(d:Int)(y:J0 d)(k:Option Addr)(z l:Nat)(e:F0)(C:T0.R h [.slice k z l] e)(r:Int)(b:B9 A d e=some r):
  Tr Tryz.prog 275 #[.agg u.toArray,.int .i64 d,.slice k z l] h λv m=>v = .int .i64 r/\m=h:=by
 obtain⟨n,j,D,U,E,o,rfl,rfl,w,x,p⟩:=C0 O
 obtain⟨rfl,S⟩:=Sl.len p
 obtain⟨rfl,T⟩:=Sl.len C
 unfold B9 at b
 dsimp only at b
 refine Tr.forget (C2 (args:=[.agg #[.int .i64 n,.int .i64 j,.slice D o.length E],.int .i64 d,.slice k e.length l]) (fn:=Tryz.f275) rfl ?_)
 refine trV b (G8 _ _ _ (l0 w x p)) λW b=>?_
 refine trG b (λq=>n7 _ _ y 0 (by decide) (IntKind.i64.wrap (j-1)) (I0 _)) λY b=>?_
 refine ifB b (λJ b=>?_) λJ b=>?_
 ·obtain rfl:=oJ b
  exact aI rfl (Sub.refl _)
 ·obtain⟨t,H,b⟩:=z0 b
  refine eX { vars:=[1,7],boxes:=[],owns:=[],fuel:=true } (eX (λvs os m=>∃ g c,vs.tail = [.int .i64 g,.int .i64 c]/\os = []/\Sub h m/\J0 g/\J0 c/\E5 e n j o (I1 vs) g c=some t) (eX (λ_ _=>0) (aI (eX P0 ⟨d,0,rfl,rfl,(Sub.refl _),y,(by decide),H⟩) ?_)))
  rintro _ _ i Q ⟨g,c,⟨⟩,⟨⟩,f,L,P,a⟩
  replace a:E5 e n j o i g c=some t:=a
  obtain _|i:=i
  ·cases a
  rw[E5.eq_2]at a
  refine ifB a (λK a=>?_) λK a=>?_
  ·refine Or.inl (aI (aI (by kernel_rfl) (by kernel_rfl)) ?_)
   refine ldI a (T0.mono f C) λX M a=>?_
   obtain⟨s,G,a⟩:=z0 a
   refine eX (.int .i64 s) (aI (D6 _ _ _ (l0 w x (K0.mono f p)) _ L _ M _  G) ?_)
   obtain⟨V,F,a⟩:=z0 a
   have N:J0 s:=Q0 F
   refine ifB a (λI a=>?_) λI a=>?_
   ·obtain rfl:=oJ a
    try dsimp only[C3,V3]at b
    obtain rfl:=oJ b
    exact aI rfl f
   ·exact N1 i ⟨s,(IntKind.i64.wrap (c+1)),rfl,rfl,f,N,(I0 _),a⟩
  ·obtain rfl:=oJ a
   try dsimp only[S0,U0]at b
   obtain rfl:=oJ b
   exact aI rfl f
theorem I09(h:Hp)(m:Option Addr)(F o:Nat)(s:F0)(G:T0.R h [.slice m F o] s)(r:F0×F0)(b:C9 s=some r):
  Tr Tryz.prog 216 #[.slice m F o] h λv d=>∃(u:Option Addr) (D x:Nat) (w:Option Addr) (E y:Nat),v = .tuple #[.slice u D x,.slice w E y]/\T0.R d [.slice u D x] r.1/\T0.R d [.slice w E y] r.2/\Sub h d:=by
 obtain⟨rfl,ax⟩:=Sl.len G
 unfold C9 at b
 refine C2 (args:=[.slice m s.length o]) (fn:=Tryz.f216) rfl ?_
 refine trM b (z8 _ _ _ _ _ G) ?_
 rintro M b aJ C ⟨O,aD,T,rfl,H,al⟩
 obtain⟨rfl,az⟩:=Sl.len H
 obtain⟨t,af,b⟩:=z0 b
 refine eX { vars:=[4],boxes:=[],owns:=[0],fuel:=true } (eX (λvs os d=>∃ n q p i l e,vs.tail = [.slice n q p]/\os = [l]/\Sub C d/\T0.R d [.slice n q p] i/\F2 (Wp.int.R d) l e/\p6 (I1 vs) i e=some t) (eX (λ_ _=>0) (aI (eX P0 ⟨O,M.length,T,M,[],([]:F0),rfl,rfl,(Sub.refl _),H,(show F2 (Wp.int.R C) ([]:List (List Value)) ([]:F0) from trivial),af⟩) ?_)))
 rintro _ l k g ⟨n,q,p,i,aO,e,⟨⟩,⟨⟩,J,c,j,a⟩
 replace a:p6 k i e=some t:=a
 obtain _|k:=k
 ·cases a
 rw[p6.eq_2]at a
 obtain⟨rfl,ay⟩:=Sl.len c
 refine Or.inl (aI (aI (by kernel_rfl) (by kernel_rfl)) ?_)
 refine ldG a c λaN au a=>?_
 refine ldG a c λaK ap a=>?_
 refine ldG a c λaL aq a=>?_
 refine ldG a c λaM ar a=>?_
 refine ifB a (λag a=>?_) λag a=>?_
 ·refine ldI a c λf A a=>?_
  obtain⟨aE,ac,a⟩:=z0 a
  refine aI (K1 ac (by first|rw[F2.length j,F2.length (show F2 (Wp.int.R g) ([[.int .i64 f]]:List (List Value)) [f] from⟨⟨rfl,A⟩,trivial⟩)]|exact congrArg (·+1) (F2.length j))) ?_
  obtain⟨N,ae,a⟩:=z0 a
  obtain⟨ai,am,X,ab⟩:=Sl.cutI (r:=Wp.int.toRp) c ae
  refine aI ai (eX am (aI X ?_))
  intro ao ah _
  obtain⟨P,U,rfl,I⟩:=ab ao ah
  have aA:=(Sl.len I).2
  exact N1 k ⟨P,N.length,U,N,(l++([[.int .i64 f]]:List (List Value))),(e ++ [f]),rfl,rfl,J,I,(F2.append j (show F2 (Wp.int.R g) ([[.int .i64 f]]:List (List Value)) [f] from⟨⟨rfl,A⟩,trivial⟩)),a⟩
 ·obtain rfl:=oJ a
  try dsimp only[S0,U0]at b
  obtain⟨an,Y,z⟩:=Sl.rows (r:=Wp.int.toRp) c
  refine eX an (aI Y ?_)
  obtain⟨aF,ad,b⟩:=z0 b
  refine aI (K1 ad (by first|rw[F2.length (show F2 (Wp.int.R g) ([]:List (List Value)) ([]:F0) from trivial),F2.length z]|exact congrArg (·+1) (F2.length (show F2 (Wp.int.R g) ([]:List (List Value)) ([]:F0) from trivial)))) ?_
  intro aG av Z
  obtain⟨Q,V,rfl,aj,K,aB⟩:=E1.out (r:=Wp.int.toRp) Z (F2.append (show F2 (Wp.int.R g) ([]:List (List Value)) ([]:F0) from trivial) z)
  intro aH aw aa
  obtain⟨S,W,rfl,ak,L,aC⟩:=E1.out (r:=Wp.int.toRp) aa (F2.up (r:=Wp.int.toRp) K j)
  obtain rfl:=oJ b
  exact⟨Q,((([]:F0)++i)).length,V,S,e.length,W,rfl,(T0.mono L aj),ak,(((al.trans J).trans K).trans L)⟩
theorem E9(h:Hp)(b:Option Addr)(j c:Nat)(a:F0)(k:T0.R h [.slice b j c] a)(r:F0)(d:M3 a=some r):
  Tr Tryz.prog 200 #[.slice b j c] h λv n=>∃(f:Option Addr) (i g:Nat),v = .slice f i g/\New T0 h n [.slice f i g] r:=by
 obtain⟨rfl,y⟩:=Sl.len k
 unfold M3 at d
 refine C2 (args:=[.slice b a.length c]) (fn:=Tryz.f200) rfl ?_
 refine Or.inl ?_
 intro E o f3
 obtain⟨w,x,rfl,s,t,A⟩:=E1.out (r:=T0.toRp) f3 (show F2 (T0.R h) ([[.slice b a.length c]]:List (List Value)) [a] from⟨k,trivial⟩)
 refine trM d (Q06 _ _ _ _ _ s) ?_
 rintro u d F p ⟨l,C,m,rfl,e⟩
 have D:Sub o p:=e.sub
 have q:=e.r
 obtain⟨rfl,z⟩:=Sl.len q
 obtain rfl:=oJ d
 exact⟨l,u.length,m,rfl,(New.from e t)⟩
theorem u04(h:Hp)(b:Option Addr)(e c:Nat)(d:(List ByteArray))(f:(Wp.slice Wp.str).R h [.slice b e c] d)(r:ByteArray)(a:p00 d=some r):
  Tr Tryz.prog 112 #[.slice b e c] h λv i=>v = .string r/\i=h:=by
 obtain⟨rfl,l⟩:=Sl.len f
 unfold p00 at a
 refine Tr.forget (C2 (args:=[.slice b d.length c]) (fn:=Tryz.f112) rfl ?_)
 refine trV a (E09 _ _ _ _ _ f (⟨#[32]⟩:ByteArray) (by decide) (⟨#[]⟩:ByteArray) (by decide)) λj a=>?_
 obtain⟨m,g,a⟩:=z0 a
 have k:j.size<=9223372036854775807:=Q0 g
 obtain rfl:=oJ a
 exact aI rfl (Sub.refl _)
theorem f03(h:Hp)(c:Option Addr)(k d:Nat)(b:F0)(l:T0.R h [.slice c k d] b)(r:F0)(a:M6 b=some r):
  Tr Tryz.prog 93 #[.slice c k d] h λv q=>∃(i:Nat) (j f:Nat),v = .slice (some ⟨i,0,none⟩) j f/\New T0 h q [.slice (some ⟨i,0,none⟩) j f] r:=by
 obtain⟨rfl,u⟩:=Sl.len l
 unfold M6 at a
 refine C2 (args:=[.slice c b.length d]) (fn:=Tryz.f93) rfl ?_
 obtain⟨s,n,e⟩:=Sl.rows (r:=Wp.int.toRp) l
 refine eX s (aI n ?_)
 obtain⟨x,o,a⟩:=z0 a
 refine aI (K1 o (by first|rw[F2.length (show F2 (Wp.int.R h) ([]:List (List Value)) ([]:F0) from trivial),F2.length e]|exact congrArg (·+1) (F2.length (show F2 (Wp.int.R h) ([]:List (List Value)) ([]:F0) from trivial)))) ?_
 intro A t g
 obtain⟨p,m,rfl,y,z,w⟩:=E1.outS (r:=Wp.int.toRp) g (F2.append (show F2 (Wp.int.R h) ([]:List (List Value)) ([]:F0) from trivial) e)
 obtain rfl:=oJ a
 exact⟨p,((([]:F0)++b)).length,m,rfl,(E1.newPlain (r:=Wp.int) g (F2.append (show F2 (Wp.int.R h) ([]:List (List Value)) ([]:F0) from trivial) e) (M0e _))⟩
theorem L09(h:Hp)(y:Option Addr)(M z:Nat)(C:F0)(N:T0.R h [.slice y M z] C)(r:F0×F0)(b:D9 C=some r):
  Tr Tryz.prog 223 #[.slice y M z] h λv o=>∃(F:Option Addr) (K H:Nat) (G:Option Addr) (L I:Nat),v = .tuple #[.slice F K H,.slice G L I]/\T0.R o [.slice F K H] r.1/\T0.R o [.slice G L I] r.2/\Sub h o:=by
 obtain⟨rfl,bi⟩:=Sl.len N
 unfold D9 at b
 refine C2 (args:=[.slice y C.length z]) (fn:=Tryz.f223) rfl ?_
 refine trM b (E9 _ _ _ _ _ N) ?_
 rintro D b bE J ⟨aP,br,aW,rfl,Q⟩
 have aM:Sub h J:=Q.sub
 have t:=Q.r
 obtain⟨rfl,av⟩:=Sl.len t
 obtain⟨E,ao,b⟩:=z0 b
 refine eX { vars:=[5,6],boxes:=[],owns:=[],fuel:=true } (eX (λvs os o=>∃ m n,vs.tail = [.int .i64 m,.int .i64 n]/\os = []/\Sub J o/\J0 m/\J0 n/\F5 D (I1 vs) m n=some E) (eX (λ_ _=>0) (aI (eX P0 ⟨0,((D.length:Nat):Int),rfl,rfl,(Sub.refl _),(by decide),(l0n av),ao⟩) ?_)))
 rintro _ _ u bh ⟨m,n,⟨⟩,⟨⟩,k,a3,a4,d⟩
 replace d:F5 D u m n=some E:=d
 obtain _|u:=u
 ·cases d
 rw[F5.eq_2]at d
 refine Or.inl (aI (aI (by kernel_rfl) (by kernel_rfl)) ?_)
 refine ldG d (T0.mono k t) λbH ar d=>?_
 refine ldG d (T0.mono k t) λbF aq d=>?_
 refine trG d (λq=>v02 _ _ ar _ aq) λbG d=>?_
 refine ifB d (λap d=>?_) λap d=>?_
 ·exact N1 u ⟨(IntKind.i64.wrap (m+1)),(IntKind.i64.wrap (n-1)),rfl,rfl,k,(I0 _),(I0 _),d⟩
 ·obtain rfl:=oJ d
  try dsimp only[S0,U0]at b
  refine Or.inr (Or.inr (Or.inr (Or.inl (aI (aI (by kernel_rfl) (by kernel_rfl)) ?_))))
  obtain⟨w,ak,b⟩:=z0 b
  refine Or.inr (eX (λv g=>∃(a:Option Addr) (c:Nat),v = .slice a w.length c/\T0.R g [.slice a w.length c] w/\w.length<=9223372036854775807) (aI (λv p s f q=>by obtain⟨a,c,e,r,l⟩:=q;exact⟨a,c,e,T0.mono f r,l⟩) (aI ?_ ?_)))
  ·intro ba aJ
   obtain⟨aA,aN,ag,ai⟩:=Sl.cutI (r:=Wp.int.toRp) (T0.mono (k.trans aJ) t) ak
   refine aI aA (eX aN (aI ag ?_))
   intro v A _
   obtain⟨a,c,rfl,r⟩:=ai v A
   exact aI m00 (aI (Sub.refl _) ⟨a,c,rfl,r,(Sl.len r).2⟩)
  obtain⟨i,al,b⟩:=z0 b
  refine Or.inr (eX (λv g=>∃(a:Option Addr) (c:Nat),v = .slice a i.length c/\T0.R g [.slice a i.length c] i/\i.length<=9223372036854775807) (aI (λv p s f q=>by obtain⟨a,c,e,r,l⟩:=q;exact⟨a,c,e,T0.mono f r,l⟩) (aI ?_ ?_)))
  ·intro bb bA
   rintro _ ⟨aQ,aX,rfl,aC,bj⟩
   refine Tr.mono (f03 _ _ _ _ _ aC _ al) ?_
   rintro _ au ⟨U,bs,aa,rfl,S⟩
   have f:=S.sub
   have O:=S.r
   obtain⟨rfl,aw⟩:=Sl.len O
   exact aI m00 (aI f ⟨(some ⟨U,0,none⟩),aa,rfl,O,aw⟩)
  obtain⟨x,am,b⟩:=z0 b
  refine Or.inr (eX (λv g=>∃(a:Option Addr) (c:Nat),v = .slice a x.length c/\T0.R g [.slice a x.length c] x/\x.length<=9223372036854775807) (aI (λv p s f q=>by obtain⟨a,c,e,r,l⟩:=q;exact⟨a,c,e,T0.mono f r,l⟩) (aI ?_ ?_)))
  ·intro bc aK
   obtain⟨aB,aO,ah,aj⟩:=Sl.cutI (r:=Wp.int.toRp) (T0.mono (k.trans aK) t) am
   refine aI aB (eX aO (aI ah ?_))
   intro v A _
   obtain⟨a,c,rfl,r⟩:=aj v A
   exact aI m00 (aI (Sub.refl _) ⟨a,c,rfl,r,(Sl.len r).2⟩)
  obtain⟨j,an,b⟩:=z0 b
  refine Or.inr (eX (λv g=>∃(a:Option Addr) (c:Nat),v = .slice a j.length c/\T0.R g [.slice a j.length c] j/\j.length<=9223372036854775807) (aI (λv p s f q=>by obtain⟨a,c,e,r,l⟩:=q;exact⟨a,c,e,T0.mono f r,l⟩) (aI ?_ ?_)))
  ·intro bd bB
   rintro _ ⟨aR,aY,rfl,aD,bk⟩
   refine Tr.mono (f03 _ _ _ _ _ aD _ an) ?_
   rintro _ au ⟨V,bt,ab,rfl,T⟩
   have f:=T.sub
   have P:=T.r
   obtain⟨rfl,ax⟩:=Sl.len P
   exact aI m00 (aI f ⟨(some ⟨V,0,none⟩),ab,rfl,P,ax⟩)
  refine Or.inr (eX (λv g=>∃(a:Option Addr) (c:Nat),v = .slice a i.length c/\T0.R g [.slice a i.length c] i/\i.length<=9223372036854775807) (aI (λv p s f q=>by obtain⟨a,c,e,r,l⟩:=q;exact⟨a,c,e,T0.mono f r,l⟩) (aI ?_ ?_)))
  ·intro be bC
   rintro _ ⟨W,ac,rfl,aE,ay⟩
   exact aI m00 (aI (Sub.refl _) ⟨W,ac,rfl,aE,ay⟩)
  refine Or.inr (eX (λv g=>∃(a:Option Addr) (c:Nat),v = .slice a j.length c/\T0.R g [.slice a j.length c] j/\j.length<=9223372036854775807) (aI (λv p s f q=>by obtain⟨a,c,e,r,l⟩:=q;exact⟨a,c,e,T0.mono f r,l⟩) (aI ?_ ?_)))
  ·intro bf bD
   rintro _ ⟨X,ad,rfl,aF,az⟩
   exact aI m00 (aI (Sub.refl _) ⟨X,ad,rfl,aF,az⟩)
  intro bg aL
  rintro _ ⟨Y,ae,rfl,aG,bl⟩
  rintro _ ⟨Z,af,rfl,aH,bm⟩
  rintro _ ⟨aS,aZ,rfl,bu,bn⟩
  rintro _ ⟨aT,a0,rfl,bv,bo⟩
  rintro _ ⟨aU,a1,rfl,bx,bp⟩
  rintro _ ⟨aV,a2,rfl,bz,bq⟩
  obtain rfl:=oJ b
  exact⟨Z,i.length,af,Y,j.length,ae,rfl,aH,aG,((aM.trans k).trans aL)⟩
end Go.Proofs.YtkjhghloldgioaaGreat
