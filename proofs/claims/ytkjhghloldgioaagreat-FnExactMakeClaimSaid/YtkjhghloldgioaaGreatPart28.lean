/- Texts of the claim, joined: The walks of batch sp1 and others. -/
import Derived.Test.YtkjhghloldgioaaGreatPart18
import Derived.Test.YtkjhghloldgioaaGreatChecked
import Derived.Test.YtkjhghloldgioaaGreatH35
import Derived.Test.YtkjhghloldgioaaGreatPart26
import Derived.Test.YtkjhghloldgioaaGreatPart17
import Derived.Test.YtkjhghloldgioaaGreatH36
import Derived.Test.YtkjhghloldgioaaGreatPart21
import Derived.Test.YtkjhghloldgioaaGreatH41
import Derived.Test.YtkjhghloldgioaaGreatSE
import Derived.Test.YtkjhghloldgioaaGreatH40
namespace Go.Proofs.YtkjhghloldgioaaGreat
open Go.H
set_option linter.unusedVariables false
set_option linter.unusedSimpArgs false
set_option maxRecDepth 10000
set_option maxHeartbeats 0
theorem H0c(h:Hp)(P:List Value)(X:l0)(aF:Y0.R h P X)(D:Option Addr)(W E:Nat)(K:J0)(Y:M0.R h [.slice D W E] K)(r:J0×Bool)(c:i01 X K=some r):
  Tr Tryz.prog 105 #[.agg P.toArray,.slice D W E] h λv n=>∃(N:Option Addr) (V O:Nat),v = .tuple #[.slice N V O,.bool r.2]/\M0.R n [.slice N V O] r.1/\Sub h n:=by
 obtain⟨H,I,aa,bI,ad,J,rfl,rfl,F,G,y⟩:=B0 aF
 obtain⟨rfl,bB⟩:=Sl.len y
 obtain⟨rfl,bC⟩:=Sl.len Y
 unfold i01 at c
 dsimp only at c
 refine J2 (args:=[.agg #[.int .i64 H,.int .i64 I,.slice aa J.length ad],.slice D K.length E]) (fn:=Tryz.f105) rfl ?_
 refine trM c (y02 _ _ _ _ _ Y) ?_
 rintro B c bR bv ⟨a2,bJ,bb,rfl,l,u⟩
 obtain⟨rfl,bD⟩:=Sl.len l
 refine trV c (D07 _ _ _ (z0 F G (D0.mono u y)) _ _ _ _ l) λb1 c=>?_
 refine ifB c (λaz c=>?_) λaz c=>?_
 ·intro bU bA ah
  obtain⟨ac,af,rfl,aL,aO,bH⟩:=H1.out (r:=Wp.int.toRp) ah (F2.up (r:=Wp.int.toRp) u (show F2 (Wp.int.R h) ([]:List (List Value)) ([]:J0) from trivial))
  obtain rfl:=oJ c
  exact⟨ac,(([]:J0)).length,af,rfl,aL,(u.trans aO)⟩
 ·refine trM c (A0b _ _ _ (z0 F G (D0.mono u y))) ?_
  rintro C c bQ aD ⟨a3,bK,bc,rfl,z,j⟩
  obtain⟨rfl,bE⟩:=Sl.len z
  obtain⟨L,aq,c⟩:=C0 c
  refine eX { vars:=[9,10],boxes:=[],owns:=[0],fuel:=true } (eX (λvs os n=>∃ k o A w,vs.tail = [.int .i64 k,.int .i64 o]/\os = [A]/\Sub aD n/\I0 k/\I0 o/\F2 (Wp.int.R n) A w/\P6 B H I J C (P1 vs) k o w=some L) (eX (λ_ _=>0) (aI (eX U0 ⟨0,0,[],([]:J0),rfl,rfl,(Sub.refl _),(by decide),(by decide),(F2.up (r:=Wp.int.toRp) (u.trans j) (show F2 (Wp.int.R h) ([]:List (List Value)) ([]:J0) from trivial)),aq⟩) ?_)))
  rintro _ _ A x aE ⟨k,o,b3,w,⟨⟩,⟨⟩,f,aA,be,U,d⟩
  replace d:P6 B H I J C x k o w=some L:=d
  obtain _|x:=x
  ·cases d
  rw[P6.eq_2]at d
  refine ifB d (λau d=>?_) λau d=>?_
  ·refine Or.inl (aI (aI (by kernel_rfl) (by kernel_rfl)) ?_)
   refine ldI d (M0.mono (j.trans f) l) λbV aB d=>?_
   obtain⟨s,am,d⟩:=C0 d
   refine eX (.int .i64 s) (aI (w6 _ _ _ (z0 F G (D0.mono ((u.trans j).trans f) y)) _ aA _ aB _  am) ?_)
   obtain⟨bM,ai,d⟩:=C0 d
   have aC:I0 s:=K1 ai
   obtain⟨M,ar,d⟩:=C0 d
   refine eX { vars:=[12],boxes:=[],owns:=[0],fuel:=true } (eX (λvs os n=>∃ b p m,vs.tail = [.int .i64 b]/\os = [p]/\Sub aE n/\I0 b/\F2 (Wp.int.R n) p m/\F4 C B o k s (P1 vs) b m=some M) (eX (λ_ _=>0) (aI (eX U0 ⟨0,A,w,rfl,rfl,(Sub.refl _),(by decide),U,ar⟩) ?_)))
   rintro _ p t g ⟨b,b4,m,⟨⟩,⟨⟩,e,bf,i,a⟩
   replace a:F4 C B o k s t b m=some M:=a
   obtain _|t:=t
   ·cases a
   rw[F4.eq_2]at a
   refine ifB a (λav a=>?_) λav a=>?_
   ·refine Or.inl (aI (aI (by kernel_rfl) (by kernel_rfl)) ?_)
    refine ldI a (M0.mono ((j.trans f).trans e) l) λbW bg a=>?_
    obtain⟨bX,an,a⟩:=C0 a
    obtain⟨a5,Q,aG⟩:=Sl.getG (r:=R0.toRp) (D0.mono (f.trans e) z) an (by decide) (l08 g)
    refine aI (λq=>(Q q).1) ?_
    obtain⟨aP,aQ,aR,rfl,rfl,bh,bi,bj⟩:=M1 aG
    try dsimp only at a
    refine eX _ (aI (λq=>(Q q).2) ?_)
    refine ldG a (M0.mono ((j.trans f).trans e) l) λaS bk a=>?_
    refine eX (eqE (aP,aQ,aR) (k,aS,s)) (aI (λ_=>(l09 _ _ _ rfl _ _ _ _ _ _)) ?_)
    refine ifB a (λaw a=>?_) λaw a=>?_
    ·obtain⟨bN,aj,a⟩:=C0 a
     refine aI (T1 aj (by first|rw[F2.length i,F2.length (show F2 (Wp.int.R g) ([[.int .i64 (IntKind.i64.wrap (b+1))]]:List (List Value)) [(IntKind.i64.wrap (b+1))] from⟨⟨rfl,(P0 _)⟩,trivial⟩)]|exact congrArg (·+1) (F2.length i))) ?_
     refine Or.inl (aI (aI (by kernel_rfl) (by kernel_rfl)) ?_)
     refine ldI a (M0.mono ((j.trans f).trans e) l) λbY bl a=>?_
     obtain⟨bZ,ao,a⟩:=C0 a
     obtain⟨a6,S,aH⟩:=Sl.getG (r:=R0.toRp) (D0.mono (f.trans e) z) ao (by decide) (l08 g)
     refine aI (λq=>(S q).1) ?_
     obtain⟨aT,aU,aV,rfl,rfl,bm,bn,bo⟩:=M1 aH
     try dsimp only at a
     refine eX _ (aI (λq=>(S q).2) ?_)
     refine ldG a (M0.mono ((j.trans f).trans e) l) λaW bp a=>?_
     refine eX (eqE (aT,aU,aV) (s,(IntKind.i64.wrap (0-aW)),k)) (aI (λ_=>(l09 _ _ _ rfl _ _ _ _ _ _)) ?_)
     refine ifB a (λax a=>?_) λax a=>?_
     ·obtain⟨bO,ak,a⟩:=C0 a
      refine aI (T1 ak (by first|rw[F2.length (F2.append i (show F2 (Wp.int.R g) ([[.int .i64 (IntKind.i64.wrap (b+1))]]:List (List Value)) [(IntKind.i64.wrap (b+1))] from⟨⟨rfl,(P0 _)⟩,trivial⟩)),F2.length (show F2 (Wp.int.R g) ([[.int .i64 (IntKind.i64.wrap ((IntKind.i64.wrap (0-b))-1))]]:List (List Value)) [(IntKind.i64.wrap ((IntKind.i64.wrap (0-b))-1))] from⟨⟨rfl,(P0 _)⟩,trivial⟩)]|exact congrArg (·+1) (F2.length (F2.append i (show F2 (Wp.int.R g) ([[.int .i64 (IntKind.i64.wrap (b+1))]]:List (List Value)) [(IntKind.i64.wrap (b+1))] from⟨⟨rfl,(P0 _)⟩,trivial⟩))))) ?_
      exact C2 t ⟨(IntKind.i64.wrap (b+1)),((p++([[.int .i64 (IntKind.i64.wrap (b+1))]]:List (List Value)))++([[.int .i64 (IntKind.i64.wrap ((IntKind.i64.wrap (0-b))-1))]]:List (List Value))),((m ++ [(IntKind.i64.wrap (b+1))]) ++ [(IntKind.i64.wrap ((IntKind.i64.wrap (0-b))-1))]),rfl,rfl,e,(P0 _),(F2.append (F2.append i (show F2 (Wp.int.R g) ([[.int .i64 (IntKind.i64.wrap (b+1))]]:List (List Value)) [(IntKind.i64.wrap (b+1))] from⟨⟨rfl,(P0 _)⟩,trivial⟩)) (show F2 (Wp.int.R g) ([[.int .i64 (IntKind.i64.wrap ((IntKind.i64.wrap (0-b))-1))]]:List (List Value)) [(IntKind.i64.wrap ((IntKind.i64.wrap (0-b))-1))] from⟨⟨rfl,(P0 _)⟩,trivial⟩)),a⟩
     ·exact C2 t ⟨(IntKind.i64.wrap (b+1)),(p++([[.int .i64 (IntKind.i64.wrap (b+1))]]:List (List Value))),(m ++ [(IntKind.i64.wrap (b+1))]),rfl,rfl,e,(P0 _),(F2.append i (show F2 (Wp.int.R g) ([[.int .i64 (IntKind.i64.wrap (b+1))]]:List (List Value)) [(IntKind.i64.wrap (b+1))] from⟨⟨rfl,(P0 _)⟩,trivial⟩)),a⟩
    ·refine Or.inl (aI (aI (by kernel_rfl) (by kernel_rfl)) ?_)
     refine ldI a (M0.mono ((j.trans f).trans e) l) λb0 bq a=>?_
     obtain⟨b2,ap,a⟩:=C0 a
     obtain⟨ba,T,aJ⟩:=Sl.getG (r:=R0.toRp) (D0.mono (f.trans e) z) ap (by decide) (l08 g)
     refine aI (λq=>(T q).1) ?_
     obtain⟨aX,aY,aZ,rfl,rfl,br,bs,bt⟩:=M1 aJ
     try dsimp only at a
     refine eX _ (aI (λq=>(T q).2) ?_)
     refine ldG a (M0.mono ((j.trans f).trans e) l) λa0 bu a=>?_
     refine eX (eqE (aX,aY,aZ) (s,(IntKind.i64.wrap (0-a0)),k)) (aI (λ_=>(l09 _ _ _ rfl _ _ _ _ _ _)) ?_)
     refine ifB a (λay a=>?_) λay a=>?_
     ·obtain⟨bP,al,a⟩:=C0 a
      refine aI (T1 al (by first|rw[F2.length i,F2.length (show F2 (Wp.int.R g) ([[.int .i64 (IntKind.i64.wrap ((IntKind.i64.wrap (0-b))-1))]]:List (List Value)) [(IntKind.i64.wrap ((IntKind.i64.wrap (0-b))-1))] from⟨⟨rfl,(P0 _)⟩,trivial⟩)]|exact congrArg (·+1) (F2.length i))) ?_
      exact C2 t ⟨(IntKind.i64.wrap (b+1)),(p++([[.int .i64 (IntKind.i64.wrap ((IntKind.i64.wrap (0-b))-1))]]:List (List Value))),(m ++ [(IntKind.i64.wrap ((IntKind.i64.wrap (0-b))-1))]),rfl,rfl,e,(P0 _),(F2.append i (show F2 (Wp.int.R g) ([[.int .i64 (IntKind.i64.wrap ((IntKind.i64.wrap (0-b))-1))]]:List (List Value)) [(IntKind.i64.wrap ((IntKind.i64.wrap (0-b))-1))] from⟨⟨rfl,(P0 _)⟩,trivial⟩)),a⟩
     ·exact C2 t ⟨(IntKind.i64.wrap (b+1)),p,m,rfl,rfl,e,(P0 _),i,a⟩
   ·obtain rfl:=oJ a
    try dsimp only[V0,Z0]at d
    exact C2 x ⟨s,(IntKind.i64.wrap (o+1)),p,m,rfl,rfl,(f.trans e),aC,(P0 _),i,d⟩
  ·obtain rfl:=oJ d
   try dsimp only[V0,Z0]at c
   refine Or.inl ?_
   intro bS bx ag
   obtain⟨a4,bd,rfl,aK,aN,bG⟩:=H1.out (r:=Wp.int.toRp) ag U
   refine trM c (y02 _ _ _ _ _ aK) ?_
   rintro a1 c bT bz ⟨ab,bL,ae,rfl,Z,aM⟩
   obtain⟨rfl,bF⟩:=Sl.len Z
   obtain rfl:=oJ c
   exact⟨ab,a1.length,ae,rfl,Z,((((u.trans j).trans f).trans aN).trans aM)⟩
theorem Z0f(h:Hp)(csp0:List Value)(p0:l0)(rp0:Y0.R h csp0 p0)(ap1:Option Addr)(np1 cp1:Nat)(p1:J0)(rp1:M0.R h [.slice ap1 np1 cp1] p1)(r:l0×Bool)(hM0:x02 p0 p1=some r):
  Tr Tryz.prog 298 #[.agg csp0.toArray,.slice ap1 np1 cp1] h λv h'=>∃(cs0:List Value),v = .tuple #[.agg cs0.toArray,.bool r.2]/\Y0.R h' cs0 r.1/\Sub h h':=by
 obtain⟨p0_0,p0_1,ap0_2,np0_2,cp0_2,p0_2,rfl,rfl,ip0_0,ip0_1,rp0_2⟩:=B0 rp0
 obtain⟨rfl,lp0_2⟩:=Sl.len rp0_2
 obtain⟨rfl,lp1⟩:=Sl.len rp1
 unfold x02 at hM0
 dsimp only at hM0
 refine J2 (args:=[.agg #[.int .i64 p0_0,.int .i64 p0_1,.slice ap0_2 p0_2.length cp0_2],.slice ap1 p1.length cp1]) (fn:=Tryz.f298) rfl ?_
 refine trV hM0 (Y05 _ _ _ (z0 ip0_0 ip0_1 rp0_2) 0 (by decide) _ _ _ _ rp1) λx1 hM0=>?_
 obtain⟨q2,gq2,hM0⟩:=C0 hM0
 have ix1:I0 x1:=K1 gq2
 refine ifB hM0 (λhc3 hM0=>?_) λhc3 hM0=>?_
 ·refine trM hM0 (n5 _ _ _ (z0 ip0_0 ip0_1 rp0_2)) ?_
  rintro x4 hM0 v6 k5 ⟨csx4,rfl,wx4⟩
  have sx4:Sub h k5:=wx4.sub
  have rx4:=wx4.r
  obtain⟨x4_0,x4_1,ax4_2,nx4_2,cx4_2,x4_2,rfl,rfl,ix4_0,ix4_1,rx4_2⟩:=B0 rx4
  obtain⟨rfl,lx4_2⟩:=Sl.len rx4_2
  try dsimp only at hM0
  obtain rfl:=oJ hM0
  exact⟨([.int .i64 x4_0,.int .i64 x4_1,.slice ax4_2 x4_2.length cx4_2]),rfl,(z0 ix4_0 ix4_1 rx4_2),sx4⟩
 ·refine Or.inr (Or.inr (Or.inr (Or.inl (aI (aI (by kernel_rfl) (by kernel_rfl)) ?_))))
  obtain⟨x7,gx7,hM0⟩:=C0 hM0
  refine Or.inr (eX (λv hh=>∃(a:Option Addr) (c:Nat),v = .slice a x7.length c/\M0.R hh [.slice a x7.length c] x7/\x7.length<=9223372036854775807) (aI (λv h1 h2 sb q=>by obtain⟨a,c,e,r,l⟩:=q;exact⟨a,c,e,M0.mono sb r,l⟩) (aI ?_ ?_)))
  ·intro k8 s9
   obtain⟨qx7,vsx7,ex7,fx7⟩:=Sl.cutI (r:=Wp.int.toRp) (M0.mono s9 rp1) gx7
   refine aI qx7 (eX vsx7 (aI ex7 ?_))
   intro v hv _
   obtain⟨a,c,rfl,r⟩:=fx7 v hv
   exact aI o01 (aI (Sub.refl _) ⟨a,c,rfl,r,(Sl.len r).2⟩)
  obtain⟨x10,gx10,hM0⟩:=C0 hM0
  obtain⟨x10_0,x10_1⟩:=x10
  try dsimp only at hM0
  obtain⟨q11,gq11,hM0⟩:=C0 hM0
  have ix10_0:I0 x10_0:=K1 gq11
  refine Or.inl (eX (.val (.tuple #[.int .i64 x10_0,.bool x10_1])) (aI ?_ ?_))
  ·intro k12 s13
   rintro _ ⟨az14,cz14,rfl,rz14,lz14⟩
   exact Tr.val (D04 _ _ _ (z0 ip0_0 ip0_1 (D0.mono s13 rp0_2)) 0 (by decide) _ _ _ _ rz14 _ gx10) (aI rfl (aI rfl rfl))
  refine Or.inl (eX (.val (.int .i64 x10_0)) (aI ?_ ?_))
  ·intro k15 s16
   exact aI rfl (aI rfl rfl)
  refine Or.inl (eX (.val (.bool x10_1)) (aI ?_ ?_))
  ·intro k17 s18
   exact aI rfl (aI rfl rfl)
  intro k19 s20
  rintro _ _
  refine trM hM0 (N06 _ _ _ (z0 ip0_0 ip0_1 (D0.mono s20 rp0_2))) ?_
  rintro x21 hM0 v23 k22 ⟨csx21_0,rfl,rx21_0,sx21⟩
  obtain⟨x21_0,x21_1⟩:=x21
  dsimp only at hM0 rx21_0
  obtain⟨x21_0_0,x21_0_1,ax21_0_2,nx21_0_2,cx21_0_2,x21_0_2,rfl,rfl,ix21_0_0,ix21_0_1,rx21_0_2⟩:=B0 rx21_0
  obtain⟨rfl,lx21_0_2⟩:=Sl.len rx21_0_2
  try dsimp only at hM0
  refine ifB hM0 (λhc24 hM0=>?_) λhc24 hM0=>?_
  ·obtain rfl:=oJ hM0
   exact⟨([.int .i64 0,.int .i64 0,.slice none 0 0]),rfl,(z0 (by decide) (by decide) (h02 R0 k22)),(s20.trans sx21)⟩
  ·refine Or.inr (Or.inr (Or.inr (Or.inr (eX 12 (aI (aI (by kernel_rfl) (by kernel_rfl)) ?_)))))
   obtain⟨x25,gx25,hM0⟩:=C0 hM0
   refine Or.inr (eX (λv hh=>∃(a:Option Addr) (c:Nat),v = .slice a x25.length c/\M0.R hh [.slice a x25.length c] x25/\x25.length<=9223372036854775807) (aI (λv h1 h2 sb q=>by obtain⟨a,c,e,r,l⟩:=q;exact⟨a,c,e,M0.mono sb r,l⟩) (aI ?_ ?_)))
   ·intro k26 s27
    obtain⟨qx25,vsx25,ex25,fx25⟩:=Sl.cutI (r:=Wp.int.toRp) (M0.mono ((s20.trans sx21).trans s27) rp1) gx25
    refine aI qx25 (eX vsx25 (aI ex25 ?_))
    intro v hv _
    obtain⟨a,c,rfl,r⟩:=fx25 v hv
    exact aI o01 (aI (Sub.refl _) ⟨a,c,rfl,r,(Sl.len r).2⟩)
   obtain⟨x28,gx28,hM0⟩:=C0 hM0
   obtain⟨x28_0,x28_1⟩:=x28
   try dsimp only at hM0
   obtain⟨x28_0_0,x28_0_1,x28_0_2⟩:=x28_0
   try dsimp only at hM0
   refine Or.inr (eX (λv hh=>∃(ux28_0:Value),v = .tuple #[ux28_0,.bool x28_1]/\(λv hh=>∃(ax28_0_2:Option Addr) (cx28_0_2:Nat),v = .agg #[.int .i64 x28_0_0,.int .i64 x28_0_1,.slice ax28_0_2 x28_0_2.length cx28_0_2]/\I0 x28_0_0/\I0 x28_0_1/\D0.R hh [.slice ax28_0_2 x28_0_2.length cx28_0_2] x28_0_2/\x28_0_2.length<=9223372036854775807) ux28_0 hh) (aI (λv h1 h2 sb q=>by obtain⟨ux28_0,e,fux28_0⟩:=q;exact⟨ux28_0,e,(by obtain⟨ax28_0_2,cx28_0_2,e,f0,f1,f2,f3⟩:=fux28_0;exact⟨ax28_0_2,cx28_0_2,e,f0,f1,D0.mono sb f2,f3⟩)⟩) (aI ?_ ?_)))
   ·intro k29 s30
    rintro _ ⟨az31,cz31,rfl,rz31,lz31⟩
    refine Tr.mono (w05 _ _ _ (z0 ix21_0_0 ix21_0_1 (D0.mono s30 rx21_0_2)) _ ix10_0 _ _ _ _ rz31 _ ip0_1 _ gx28) ?_
    rintro _ kk ⟨csx28_0,rfl,rx28_0,sb⟩
    obtain⟨yx28_0_0,yx28_0_1,ayx28_0_2,nyx28_0_2,cyx28_0_2,yx28_0_2,rfl,ey,iyx28_0_0,iyx28_0_1,ryx28_0_2⟩:=B0 rx28_0
    cases ey
    obtain⟨rfl,lyx28_0_2⟩:=Sl.len ryx28_0_2
    exact aI o01 (aI sb ⟨(.agg #[.int .i64 x28_0_0,.int .i64 x28_0_1,.slice ayx28_0_2 x28_0_2.length cyx28_0_2]),rfl,⟨ayx28_0_2,cyx28_0_2,rfl,iyx28_0_0,iyx28_0_1,ryx28_0_2,lyx28_0_2⟩⟩)
   refine Or.inr (eX (λv hh=>∃(ux28_0:Value),v = .tuple #[ux28_0,.bool x28_1]/\(λv hh=>∃(ax28_0_2:Option Addr) (cx28_0_2:Nat),v = .agg #[.int .i64 x28_0_0,.int .i64 x28_0_1,.slice ax28_0_2 x28_0_2.length cx28_0_2]/\I0 x28_0_0/\I0 x28_0_1/\D0.R hh [.slice ax28_0_2 x28_0_2.length cx28_0_2] x28_0_2/\x28_0_2.length<=9223372036854775807) ux28_0 hh) (aI (λv h1 h2 sb q=>by obtain⟨ux28_0,e,fux28_0⟩:=q;exact⟨ux28_0,e,(by obtain⟨ax28_0_2,cx28_0_2,e,f0,f1,f2,f3⟩:=fux28_0;exact⟨ax28_0_2,cx28_0_2,e,f0,f1,D0.mono sb f2,f3⟩)⟩) (aI ?_ ?_)))
   ·intro k32 s33
    rintro _ ⟨_,rfl,⟨az34p02,cz34p02,rfl,iz34p00,iz34p01,rz34p02,lz34p02⟩⟩
    exact aI o01 (aI (Sub.refl _) ⟨(.agg #[.int .i64 x28_0_0,.int .i64 x28_0_1,.slice az34p02 x28_0_2.length cz34p02]),rfl,⟨az34p02,cz34p02,rfl,iz34p00,iz34p01,rz34p02,lz34p02⟩⟩)
   refine Or.inr (eX (λv hh=>∃(ax28_0_2:Option Addr) (cx28_0_2:Nat),v = .agg #[.int .i64 x28_0_0,.int .i64 x28_0_1,.slice ax28_0_2 x28_0_2.length cx28_0_2]/\I0 x28_0_0/\I0 x28_0_1/\D0.R hh [.slice ax28_0_2 x28_0_2.length cx28_0_2] x28_0_2/\x28_0_2.length<=9223372036854775807) (aI (λv h1 h2 sb q=>by obtain⟨ax28_0_2,cx28_0_2,e,f0,f1,f2,f3⟩:=q;exact⟨ax28_0_2,cx28_0_2,e,f0,f1,D0.mono sb f2,f3⟩) (aI ?_ ?_)))
   ·intro k35 s36
    rintro _ ⟨_,rfl,⟨az37p02,cz37p02,rfl,iz37p00,iz37p01,rz37p02,lz37p02⟩⟩
    exact aI o01 (aI (Sub.refl _) ⟨az37p02,cz37p02,rfl,iz37p00,iz37p01,rz37p02,lz37p02⟩)
   refine Or.inl (eX (.val (.bool x28_1)) (aI ?_ ?_))
   ·intro k38 s39
    rintro _ ⟨_,rfl,⟨az40p02,cz40p02,rfl,iz40p00,iz40p01,rz40p02,lz40p02⟩⟩
    exact aI rfl (aI rfl rfl)
   intro k41 s42
   rintro _ ⟨az432,cz432,rfl,iz430,iz431,rz432,lz432⟩
   rintro _ _
   rintro _ _
   rintro _ _
   obtain rfl:=oJ hM0
   exact⟨([.int .i64 x28_0_0,.int .i64 x28_0_1,.slice az432 x28_0_2.length cz432]),rfl,(z0 iz430 iz431 rz432),((s20.trans sx21).trans s42)⟩
theorem G08(h:Hp)(csp0:List Value)(p0:l0)(rp0:Y0.R h csp0 p0)(r:l0×Bool)(hM0:i8 p0=some r):
  Tr Tryz.prog 299 #[.agg csp0.toArray] h λv h'=>∃(cs0:List Value),v = .tuple #[.agg cs0.toArray,.bool r.2]/\Y0.R h' cs0 r.1/\Sub h h':=by
 obtain⟨p0_0,p0_1,ap0_2,np0_2,cp0_2,p0_2,rfl,rfl,ip0_0,ip0_1,rp0_2⟩:=B0 rp0
 obtain⟨rfl,lp0_2⟩:=Sl.len rp0_2
 unfold i8 at hM0
 dsimp only at hM0
 refine J2 (args:=[.agg #[.int .i64 p0_0,.int .i64 p0_1,.slice ap0_2 p0_2.length cp0_2]]) (fn:=Tryz.f299) rfl ?_
 refine trV hM0 (L7 _ _ _ (z0 ip0_0 ip0_1 rp0_2)) λx1 hM0=>?_
 refine ifB hM0 (λhc2 hM0=>?_) λhc2 hM0=>?_
 ·obtain rfl:=oJ hM0
  exact⟨([.int .i64 0,.int .i64 0,.slice none 0 0]),rfl,(z0 (by decide) (by decide) (h02 R0 h)),(Sub.refl _)⟩
 ·refine trM hM0 (n5 _ _ _ (z0 ip0_0 ip0_1 rp0_2)) ?_
  rintro x3 hM0 v5 k4 ⟨csx3,rfl,wx3⟩
  have sx3:Sub h k4:=wx3.sub
  have rx3:=wx3.r
  obtain⟨x3_0,x3_1,ax3_2,nx3_2,cx3_2,x3_2,rfl,rfl,ix3_0,ix3_1,rx3_2⟩:=B0 rx3
  obtain⟨rfl,lx3_2⟩:=Sl.len rx3_2
  try dsimp only at hM0
  obtain⟨X6,hLX6,hM0⟩:=C0 hM0
  refine eX { vars:=[5],boxes:=[2],owns:=[],fuel:=true } (eX (λvs os h'=>∃ u7 u8 u9 au10 nu10 cu10 u10,vs.tail = [.int .i64 u7,.int .i64 u8,.int .i64 u9,.slice au10 nu10 cu10]/\os = []/\Sub k4 h'/\I0 u7/\I0 u8/\I0 u9/\D0.R h' [.slice au10 nu10 cu10] u10/\U4 p0_0 p0_1 p0_2 (P1 vs) u7 u8 u9 u10=some X6) (eX (λ_ _=>0) (aI (eX U0 ⟨1,x3_0,x3_1,ax3_2,x3_2.length,cx3_2,x3_2,rfl,rfl,(Sub.refl _),(by decide),ix3_0,ix3_1,rx3_2,hLX6⟩) ?_)))
  rintro _ _ _ _ m12 k11 ⟨u7,u8,u9,au10,nu10,cu10,u10,⟨⟩,⟨⟩,sX6,iu7,iu8,iu9,ru10,hM1⟩
  replace hM1:U4 p0_0 p0_1 p0_2 m12 u7 u8 u9 u10=some X6:=hM1
  obtain _|m12:=m12
  ·cases hM1
  rw[U4.eq_2]at hM1
  obtain⟨rfl,lu10⟩:=Sl.len ru10
  refine ifB hM1 (λhc13 hM1=>?_) λhc13 hM1=>?_
  ·obtain⟨X14,hLX14,hM1⟩:=C0 hM1
   refine eX { vars:=[8],boxes:=[],owns:=[0,1],fuel:=true } (eX (λvs os h'=>∃ u15 wu16 u16 wu17 u17,vs.tail = [.int .i64 u15]/\os = [wu16,wu17]/\Sub k11 h'/\I0 u15/\F2 (Wp.int.R h') wu16 u16/\F2 (Wp.int.R h') wu17 u17/\l3 p0_1 p0_0 p0_2 u7 (P1 vs) u15 u16 u17=some X14) (eX (λ_ _=>0) (aI (eX U0 ⟨0,[],([]:J0),[],([]:J0),rfl,rfl,(Sub.refl _),(by decide),(show F2 (Wp.int.R k11) ([]:List (List Value)) ([]:J0) from trivial),(show F2 (Wp.int.R k11) ([]:List (List Value)) ([]:J0) from trivial),hLX14⟩) ?_)))
   rintro _ wu16 wu17 m19 k18 ⟨u15,zzu16,u16,zzu17,u17,⟨⟩,⟨⟩,sX14,iu15,fu16,fu17,hM2⟩
   replace hM2:l3 p0_1 p0_0 p0_2 u7 m19 u15 u16 u17=some X14:=hM2
   obtain _|m19:=m19
   ·cases hM2
   rw[l3.eq_2]at hM2
   refine ifB hM2 (λhc20 hM2=>?_) λhc20 hM2=>?_
   ·refine trV hM2 (w6 _ _ _ (z0 ip0_0 ip0_1 (D0.mono ((sx3.trans sX6).trans sX14) rp0_2)) _ iu15 _ iu7) λx21 hM2=>?_
    obtain⟨q22,gq22,hM2⟩:=C0 hM2
    have ix21:I0 x21:=K1 gq22
    refine ifB hM2 (λhc23 hM2=>?_) λhc23 hM2=>?_
    ·obtain⟨q24,gq24,hM2⟩:=C0 hM2
     refine aI (T1 gq24 (by first|rw[F2.length fu16,F2.length (show F2 (Wp.int.R k18) ([[.int .i64 u15]]:List (List Value)) [u15] from⟨⟨rfl,iu15⟩,trivial⟩)]|exact congrArg (·+1) (F2.length fu16))) ?_
     refine trV hM2 (w6 _ _ _ (z0 ip0_0 ip0_1 (D0.mono ((sx3.trans sX6).trans sX14) rp0_2)) _ iu15 (IntKind.i64.wrap (0-u7)) (P0 _)) λx25 hM2=>?_
     obtain⟨q26,gq26,hM2⟩:=C0 hM2
     have ix25:I0 x25:=K1 gq26
     refine ifB hM2 (λhc27 hM2=>?_) λhc27 hM2=>?_
     ·obtain⟨q28,gq28,hM2⟩:=C0 hM2
      refine aI (T1 gq28 (by first|rw[F2.length fu17,F2.length (show F2 (Wp.int.R k18) ([[.int .i64 u15]]:List (List Value)) [u15] from⟨⟨rfl,iu15⟩,trivial⟩)]|exact congrArg (·+1) (F2.length fu17))) ?_
      exact C2 m19 ⟨(IntKind.i64.wrap (u15+1)),(wu16++([[.int .i64 u15]]:List (List Value))),(u16 ++ [u15]),(wu17++([[.int .i64 u15]]:List (List Value))),(u17 ++ [u15]),rfl,rfl,sX14,(P0 _),(F2.append fu16 (show F2 (Wp.int.R k18) ([[.int .i64 u15]]:List (List Value)) [u15] from⟨⟨rfl,iu15⟩,trivial⟩)),(F2.append fu17 (show F2 (Wp.int.R k18) ([[.int .i64 u15]]:List (List Value)) [u15] from⟨⟨rfl,iu15⟩,trivial⟩)),hM2⟩
     ·exact C2 m19 ⟨(IntKind.i64.wrap (u15+1)),(wu16++([[.int .i64 u15]]:List (List Value))),(u16 ++ [u15]),wu17,u17,rfl,rfl,sX14,(P0 _),(F2.append fu16 (show F2 (Wp.int.R k18) ([[.int .i64 u15]]:List (List Value)) [u15] from⟨⟨rfl,iu15⟩,trivial⟩)),fu17,hM2⟩
    ·refine trV hM2 (w6 _ _ _ (z0 ip0_0 ip0_1 (D0.mono ((sx3.trans sX6).trans sX14) rp0_2)) _ iu15 (IntKind.i64.wrap (0-u7)) (P0 _)) λx29 hM2=>?_
     obtain⟨q30,gq30,hM2⟩:=C0 hM2
     have ix29:I0 x29:=K1 gq30
     refine ifB hM2 (λhc31 hM2=>?_) λhc31 hM2=>?_
     ·obtain⟨q32,gq32,hM2⟩:=C0 hM2
      refine aI (T1 gq32 (by first|rw[F2.length fu17,F2.length (show F2 (Wp.int.R k18) ([[.int .i64 u15]]:List (List Value)) [u15] from⟨⟨rfl,iu15⟩,trivial⟩)]|exact congrArg (·+1) (F2.length fu17))) ?_
      exact C2 m19 ⟨(IntKind.i64.wrap (u15+1)),wu16,u16,(wu17++([[.int .i64 u15]]:List (List Value))),(u17 ++ [u15]),rfl,rfl,sX14,(P0 _),fu16,(F2.append fu17 (show F2 (Wp.int.R k18) ([[.int .i64 u15]]:List (List Value)) [u15] from⟨⟨rfl,iu15⟩,trivial⟩)),hM2⟩
     ·exact C2 m19 ⟨(IntKind.i64.wrap (u15+1)),wu16,u16,wu17,u17,rfl,rfl,sX14,(P0 _),fu16,fu17,hM2⟩
   ·obtain rfl:=oJ hM2
    try dsimp only[V0,Z0]at hM1
    obtain⟨X33,hLX33,hM1⟩:=C0 hM1
    refine eX { vars:=[9],boxes:=[2],owns:=[],fuel:=true } (eX (λvs os h'=>∃ u34 u35 u36 au37 nu37 cu37 u37,vs.tail = [.int .i64 u34,.int .i64 u35,.int .i64 u36,.slice au37 nu37 cu37]/\os = []/\Sub k18 h'/\I0 u34/\I0 u35/\I0 u36/\D0.R h' [.slice au37 nu37 cu37] u37/\T4 u16 u17 u7 (P1 vs) u34 u35 u36 u37=some X33) (eX (λ_ _=>0) (aI (eX U0 ⟨0,u8,u9,au10,u10.length,cu10,u10,rfl,rfl,(Sub.refl _),(by decide),iu8,iu9,(D0.mono sX14 ru10),hLX33⟩) ?_)))
    rintro _ _ _ _ m39 k38 ⟨u34,u35,u36,au37,nu37,cu37,u37,⟨⟩,⟨⟩,sX33,iu34,iu35,iu36,ru37,hM2⟩
    replace hM2:T4 u16 u17 u7 m39 u34 u35 u36 u37=some X33:=hM2
    obtain _|m39:=m39
    ·cases hM2
    rw[T4.eq_2]at hM2
    obtain⟨rfl,lu37⟩:=Sl.len ru37
    obtain⟨m40,gm40,hM2⟩:=C0 hM2
    obtain rfl:wu16.length=m40:=(F2.length (F2.up (r:=Wp.int.toRp) sX33 fu16)).trans (oJ gm40)
    obtain⟨q41,gq41,hM2⟩:=C0 hM2
    refine ifB hM2 (λhc42 hM2=>?_) λhc42 hM2=>?_
    ·refine Or.inr (Or.inr (Or.inl (aI (aI (by kernel_rfl) (by kernel_rfl)) ?_)))
     obtain⟨x43,gx43,hM2⟩:=C0 hM2
     obtain⟨bx43,csx43,ex43,rx43⟩:=K5 (F2.up (r:=Wp.int.toRp) sX33 fu16) gx43
     obtain⟨rfl,ix43⟩:=rx43
     refine Or.inl ?_
     apply eX
     refine aI ?_ ?_
     ·intro k44 s45
      exact aI bx43 (aI rfl (aI rfl rfl))
     refine Or.inl (eX (.val (.int .i64 x43)) (aI ?_ ?_))
     ·intro k46 s47
      exact eX _ (aI ex43 (aI rfl (aI rfl rfl)))
     obtain⟨x48,gx48,hM2⟩:=C0 hM2
     obtain⟨bx48,csx48,ex48,rx48⟩:=K5 (F2.up (r:=Wp.int.toRp) sX33 fu17) gx48
     obtain⟨rfl,ix48⟩:=rx48
     refine Or.inl ?_
     apply eX
     refine aI ?_ ?_
     ·intro k49 s50
      exact aI bx48 (aI rfl (aI rfl rfl))
     refine Or.inl (eX (.val (.int .i64 x48)) (aI ?_ ?_))
     ·intro k51 s52
      exact eX _ (aI ex48 (aI rfl (aI rfl rfl)))
     refine Or.inl (eX (.agg [.val (.int .i64 x43),.val (.int .i64 u7),.val (.int .i64 x48)]) (aI ?_ ?_))
     ·intro k53 s54
      exact aI rfl (aI rfl rfl)
     refine Or.inr ?_
     refine Or.inr ?_
     refine Or.inl (eX 1 (aI (aI rfl rfl) ?_))
     refine trM hM2 (R9 _ _ _ _ _ ru37 _ _ (E1 ix43 iu7 ix48)) ?_
     rintro x55 hM2 v57 k56 ⟨ax55,nx55,cx55,rfl,rx55,sx55⟩
     obtain⟨rfl,lx55⟩:=Sl.len rx55
     refine aI (aI rfl sx55) (aI (by first|exact trivial|exact rfl) ?_)
     refine aI trivial (aI (by first|exact trivial|exact rfl) ?_)
     exact C2 m39 ⟨(IntKind.i64.wrap (u34+1)),u35,u36,ax55,x55.length,cx55,x55,rfl,rfl,(sX33.trans sx55),(P0 _),iu35,iu36,rx55,hM2⟩
    ·obtain rfl:=oJ hM2
     try dsimp only[V0,Z0]at hM1
     exact C2 m12 ⟨(IntKind.i64.wrap (u7+1)),u35,u36,au37,u37.length,cu37,u37,rfl,rfl,((sX6.trans sX14).trans sX33),(P0 _),iu35,iu36,ru37,hM1⟩
  ·obtain rfl:=oJ hM1
   try dsimp only[V0,Z0]at hM0
   obtain rfl:=oJ hM0
   exact⟨([.int .i64 u8,.int .i64 u9,.slice au10 u10.length cu10]),rfl,(z0 iu8 iu9 ru10),(sx3.trans sX6)⟩
theorem H08(h:Hp)(csp0:List Value)(p0:l0)(rp0:Y0.R h csp0 p0)(ap1:Option Addr)(np1 cp1:Nat)(p1:Y1)(rp1:Z1.R h [.slice ap1 np1 cp1] p1)(r:l0×Bool)(hM0:j8 p0 p1=some r):
  Tr Tryz.prog 215 #[.agg csp0.toArray,.slice ap1 np1 cp1] h λv h'=>∃(cs0:List Value),v = .tuple #[.agg cs0.toArray,.bool r.2]/\Y0.R h' cs0 r.1/\Sub h h':=by
 obtain⟨p0_0,p0_1,ap0_2,np0_2,cp0_2,p0_2,rfl,rfl,ip0_0,ip0_1,rp0_2⟩:=B0 rp0
 obtain⟨rfl,lp0_2⟩:=Sl.len rp0_2
 obtain⟨rfl,lp1⟩:=Sl.len rp1
 unfold j8 at hM0
 dsimp only at hM0
 refine J2 (args:=[.agg #[.int .i64 p0_0,.int .i64 p0_1,.slice ap0_2 p0_2.length cp0_2],.slice ap1 p1.length cp1]) (fn:=Tryz.f215) rfl ?_
 refine trM hM0 (n5 _ _ _ (z0 ip0_0 ip0_1 rp0_2)) ?_
 rintro x1 hM0 v3 k2 ⟨csx1,rfl,wx1⟩
 have sx1:Sub h k2:=wx1.sub
 have rx1:=wx1.r
 obtain⟨x1_0,x1_1,ax1_2,nx1_2,cx1_2,x1_2,rfl,rfl,ix1_0,ix1_1,rx1_2⟩:=B0 rx1
 obtain⟨rfl,lx1_2⟩:=Sl.len rx1_2
 try dsimp only at hM0
 refine trV hM0 (E9 _ _ _ (z0 ip0_0 ip0_1 (D0.mono sx1 rp0_2))) λx4 hM0=>?_
 refine ifB hM0 (λhc5 hM0=>?_) λhc5 hM0=>?_
 ·obtain rfl:=oJ hM0
  exact⟨([.int .i64 0,.int .i64 0,.slice none 0 0]),rfl,(z0 (by decide) (by decide) (h02 R0 k2)),sx1⟩
 ·obtain⟨X6,hLX6,hM0⟩:=C0 hM0
  refine eX { vars:=[7],boxes:=[2],owns:=[],fuel:=true } (eX (λvs os h'=>∃ u7 u8 u9 au10 nu10 cu10 u10,vs.tail = [.int .i64 u7,.int .i64 u8,.int .i64 u9,.slice au10 nu10 cu10]/\os = []/\Sub k2 h'/\I0 u7/\I0 u8/\I0 u9/\D0.R h' [.slice au10 nu10 cu10] u10/\V4 p1 p0_0 p0_1 p0_2 (P1 vs) u7 u8 u9 u10=some X6) (eX (λ_ _=>0) (aI (eX U0 ⟨0,x1_0,x1_1,ax1_2,x1_2.length,cx1_2,x1_2,rfl,rfl,(Sub.refl _),(by decide),ix1_0,ix1_1,rx1_2,hLX6⟩) ?_)))
  rintro _ _ _ _ m12 k11 ⟨u7,u8,u9,au10,nu10,cu10,u10,⟨⟩,⟨⟩,sX6,iu7,iu8,iu9,ru10,hM1⟩
  replace hM1:V4 p1 p0_0 p0_1 p0_2 m12 u7 u8 u9 u10=some X6:=hM1
  obtain _|m12:=m12
  ·cases hM1
  rw[V4.eq_2]at hM1
  obtain⟨rfl,lu10⟩:=Sl.len ru10
  refine ifB hM1 (λhc13 hM1=>?_) λhc13 hM1=>?_
  ·refine Or.inl (aI (aI (by kernel_rfl) (by kernel_rfl)) ?_)
   refine ld hM1 (Z1.mono (sx1.trans sX6) rp1) λx14 csx14 rx14 hM1=>?_
   obtain⟨ax14,nx14,cx14,rfl⟩:=Wp.slice_cell rx14
   obtain⟨rfl,lx14⟩:=Sl.len rx14
   obtain⟨x15,gx15,hM1⟩:=C0 hM1
   refine eX (.bool x15) (aI (S01 _ _ ip0_0 _ _ _ _ rx14 _  gx15) ?_)
   obtain⟨x16,gx16,hM1⟩:=C0 hM1
   obtain⟨csx16,ex16,rx16⟩:=Sl.getG (r:=M0.toRp) (Z1.mono (sx1.trans sX6) rp1) gx16 (by decide) (N0s Wp.int k11)
   refine aI (λq=>(ex16 q).1) ?_
   obtain⟨ax16,nx16,cx16,rfl⟩:=Wp.slice_cell rx16
   obtain⟨rfl,lx16⟩:=Sl.len rx16
   refine eX _ (aI (λq=>(ex16 q).2) ?_)
   refine trG hM1 (λq=>D07 _ _ _ (z0 ip0_0 ip0_1 (D0.mono (sx1.trans sX6) rp0_2)) _ _ _ _ rx16) λx17 hM1=>?_
   refine ifB hM1 (λhc18 hM1=>?_) λhc18 hM1=>?_
   ·obtain rfl:=oJ hM1
    try dsimp only[j4,L4]at hM0
    obtain rfl:=oJ hM0
    exact⟨([.int .i64 0,.int .i64 0,.slice none 0 0]),rfl,(z0 (by decide) (by decide) (h02 R0 k11)),(sx1.trans sX6)⟩
   ·refine Or.inr (Or.inr (Or.inr (Or.inr (eX 10 (aI (aI (by kernel_rfl) (by kernel_rfl)) ?_)))))
    obtain⟨x19,gx19,hM1⟩:=C0 hM1
    obtain⟨bx19,csx19,ex19,rx19⟩:=Sl.getI (r:=M0.toRp) (Z1.mono (sx1.trans sX6) rp1) gx19 (by decide)
    obtain⟨ax19,nx19,cx19,rfl⟩:=Wp.slice_cell rx19
    obtain⟨rfl,lx19⟩:=Sl.len rx19
    refine Or.inl (eX (.hel (.slice ap1 p1.length cp1) u7 1 0) (aI ?_ ?_))
    ·intro k20 s21
     exact aI bx19 (aI rfl (aI rfl rfl))
    refine Or.inl (eX (.val (.slice ax19 x19.length cx19)) (aI ?_ ?_))
    ·intro k22 s23
     exact eX _ (aI (O9.up s23 ex19) (aI rfl (aI rfl rfl)))
    obtain⟨x24,gx24,hM1⟩:=C0 hM1
    obtain⟨x24_0,x24_1⟩:=x24
    try dsimp only at hM1
    obtain⟨x24_0_0,x24_0_1,x24_0_2⟩:=x24_0
    try dsimp only at hM1
    refine Or.inr (eX (λv hh=>∃(ux24_0:Value),v = .tuple #[ux24_0,.bool x24_1]/\(λv hh=>∃(ax24_0_2:Option Addr) (cx24_0_2:Nat),v = .agg #[.int .i64 x24_0_0,.int .i64 x24_0_1,.slice ax24_0_2 x24_0_2.length cx24_0_2]/\I0 x24_0_0/\I0 x24_0_1/\D0.R hh [.slice ax24_0_2 x24_0_2.length cx24_0_2] x24_0_2/\x24_0_2.length<=9223372036854775807) ux24_0 hh) (aI (λv h1 h2 sb q=>by obtain⟨ux24_0,e,fux24_0⟩:=q;exact⟨ux24_0,e,(by obtain⟨ax24_0_2,cx24_0_2,e,f0,f1,f2,f3⟩:=fux24_0;exact⟨ax24_0_2,cx24_0_2,e,f0,f1,D0.mono sb f2,f3⟩)⟩) (aI ?_ ?_)))
    ·intro k25 s26
     refine Tr.mono (Z0f _ _ _ (z0 iu8 iu9 (D0.mono s26 ru10)) _ _ _ _ (M0.mono s26 rx19) _ gx24) ?_
     rintro _ kk ⟨csx24_0,rfl,rx24_0,sb⟩
     obtain⟨yx24_0_0,yx24_0_1,ayx24_0_2,nyx24_0_2,cyx24_0_2,yx24_0_2,rfl,ey,iyx24_0_0,iyx24_0_1,ryx24_0_2⟩:=B0 rx24_0
     cases ey
     obtain⟨rfl,lyx24_0_2⟩:=Sl.len ryx24_0_2
     exact aI o01 (aI sb ⟨(.agg #[.int .i64 x24_0_0,.int .i64 x24_0_1,.slice ayx24_0_2 x24_0_2.length cyx24_0_2]),rfl,⟨ayx24_0_2,cyx24_0_2,rfl,iyx24_0_0,iyx24_0_1,ryx24_0_2,lyx24_0_2⟩⟩)
    refine Or.inr (eX (λv hh=>∃(ux24_0:Value),v = .tuple #[ux24_0,.bool x24_1]/\(λv hh=>∃(ax24_0_2:Option Addr) (cx24_0_2:Nat),v = .agg #[.int .i64 x24_0_0,.int .i64 x24_0_1,.slice ax24_0_2 x24_0_2.length cx24_0_2]/\I0 x24_0_0/\I0 x24_0_1/\D0.R hh [.slice ax24_0_2 x24_0_2.length cx24_0_2] x24_0_2/\x24_0_2.length<=9223372036854775807) ux24_0 hh) (aI (λv h1 h2 sb q=>by obtain⟨ux24_0,e,fux24_0⟩:=q;exact⟨ux24_0,e,(by obtain⟨ax24_0_2,cx24_0_2,e,f0,f1,f2,f3⟩:=fux24_0;exact⟨ax24_0_2,cx24_0_2,e,f0,f1,D0.mono sb f2,f3⟩)⟩) (aI ?_ ?_)))
    ·intro k27 s28
     rintro _ ⟨_,rfl,⟨az29p02,cz29p02,rfl,iz29p00,iz29p01,rz29p02,lz29p02⟩⟩
     exact aI o01 (aI (Sub.refl _) ⟨(.agg #[.int .i64 x24_0_0,.int .i64 x24_0_1,.slice az29p02 x24_0_2.length cz29p02]),rfl,⟨az29p02,cz29p02,rfl,iz29p00,iz29p01,rz29p02,lz29p02⟩⟩)
    refine Or.inr (eX (λv hh=>∃(ax24_0_2:Option Addr) (cx24_0_2:Nat),v = .agg #[.int .i64 x24_0_0,.int .i64 x24_0_1,.slice ax24_0_2 x24_0_2.length cx24_0_2]/\I0 x24_0_0/\I0 x24_0_1/\D0.R hh [.slice ax24_0_2 x24_0_2.length cx24_0_2] x24_0_2/\x24_0_2.length<=9223372036854775807) (aI (λv h1 h2 sb q=>by obtain⟨ax24_0_2,cx24_0_2,e,f0,f1,f2,f3⟩:=q;exact⟨ax24_0_2,cx24_0_2,e,f0,f1,D0.mono sb f2,f3⟩) (aI ?_ ?_)))
    ·intro k30 s31
     rintro _ ⟨_,rfl,⟨az32p02,cz32p02,rfl,iz32p00,iz32p01,rz32p02,lz32p02⟩⟩
     exact aI o01 (aI (Sub.refl _) ⟨az32p02,cz32p02,rfl,iz32p00,iz32p01,rz32p02,lz32p02⟩)
    refine Or.inl (eX (.val (.bool x24_1)) (aI ?_ ?_))
    ·intro k33 s34
     rintro _ ⟨_,rfl,⟨az35p02,cz35p02,rfl,iz35p00,iz35p01,rz35p02,lz35p02⟩⟩
     exact aI rfl (aI rfl rfl)
    intro k36 s37
    rintro _ ⟨az382,cz382,rfl,iz380,iz381,rz382,lz382⟩
    rintro _ _
    rintro _ _
    refine ifB hM1 (λhc39 hM1=>?_) λhc39 hM1=>?_
    ·obtain rfl:=oJ hM1
     try dsimp only[j4,L4]at hM0
     obtain rfl:=oJ hM0
     exact⟨([.int .i64 0,.int .i64 0,.slice none 0 0]),rfl,(z0 (by decide) (by decide) (h02 R0 k36)),((sx1.trans sX6).trans s37)⟩
    ·exact C2 m12 ⟨(IntKind.i64.wrap (u7+1)),x24_0_0,x24_0_1,az382,x24_0_2.length,cz382,x24_0_2,rfl,rfl,(sX6.trans s37),(P0 _),iz380,iz381,rz382,hM1⟩
  ·obtain rfl:=oJ hM1
   try dsimp only[V0,Z0]at hM0
   refine trM hM0 (G08 _ _ _ (z0 iu8 iu9 ru10)) ?_
   rintro x40 hM0 v42 k41 ⟨csx40_0,rfl,rx40_0,sx40⟩
   obtain⟨x40_0,x40_1⟩:=x40
   dsimp only at hM0 rx40_0
   obtain⟨x40_0_0,x40_0_1,ax40_0_2,nx40_0_2,cx40_0_2,x40_0_2,rfl,rfl,ix40_0_0,ix40_0_1,rx40_0_2⟩:=B0 rx40_0
   obtain⟨rfl,lx40_0_2⟩:=Sl.len rx40_0_2
   try dsimp only at hM0
   refine ifB hM0 (λhc43 hM0=>?_) λhc43 hM0=>?_
   ·obtain rfl:=oJ hM0
    exact⟨([.int .i64 0,.int .i64 0,.slice none 0 0]),rfl,(z0 (by decide) (by decide) (h02 R0 k41)),((sx1.trans sX6).trans sx40)⟩
   ·refine trM hM0 (O02 _ _ _ (z0 ix40_0_0 ix40_0_1 rx40_0_2)) ?_
    rintro x44 hM0 v46 k45 ⟨csx44,rfl,rx44,sx44⟩
    obtain⟨x44_0,x44_1,ax44_2,nx44_2,cx44_2,x44_2,rfl,rfl,ix44_0,ix44_1,rx44_2⟩:=B0 rx44
    obtain⟨rfl,lx44_2⟩:=Sl.len rx44_2
    try dsimp only at hM0
    obtain rfl:=oJ hM0
    exact⟨([.int .i64 x44_0,.int .i64 x44_1,.slice ax44_2 x44_2.length cx44_2]),rfl,(z0 ix44_0 ix44_1 rx44_2),(((sx1.trans sX6).trans sx40).trans sx44)⟩
theorem p09(h:Hp)(f:List Value)(j:l0)(C:Y0.R h f j)(c:Option Addr)(i d:Nat)(b:J0)(l:M0.R h [.slice c i d] b)(r:l0×Bool)(a:g7 j b=some r):
  Tr Tryz.prog 107 #[.agg f.toArray,.slice c i d] h λv g=>∃(e:List Value),v = .tuple #[.agg e.toArray,.bool r.2]/\Y0.R g e r.1/\Sub h g:=by
 obtain⟨z,A,p,T,s,B,rfl,rfl,u,w,k⟩:=B0 C
 obtain⟨rfl,O⟩:=Sl.len k
 obtain⟨rfl,P⟩:=Sl.len l
 unfold g7 at a
 dsimp only at a
 refine J2 (args:=[.agg #[.int .i64 z,.int .i64 A,.slice p B.length s],.slice c b.length d]) (fn:=Tryz.f107) rfl ?_
 refine Or.inl ?_
 intro V M f3
 obtain⟨J,L,rfl,D,o,S⟩:=H1.out (r:=M0.toRp) f3 (show F2 (M0.R h) ([[.slice c b.length d]]:List (List Value)) [b] from⟨l,trivial⟩)
 refine trM a (H08 _ _ _ (z0 u w (D0.mono o k)) _ _ _ _ D) ?_
 rintro F a W N ⟨K,rfl,m,E⟩
 obtain⟨X,Y⟩:=F
 dsimp only at a m
 obtain⟨G,H,q,U,t,I,rfl,rfl,x,y,n⟩:=B0 m
 obtain⟨rfl,Q⟩:=Sl.len n
 try dsimp only at a
 obtain rfl:=oJ a
 exact⟨([.int .i64 G,.int .i64 H,.slice q I.length t]),rfl,(z0 x y n),(o.trans E)⟩
theorem H0d(h:Hp)(p:List Value)(u:l0)(X:Y0.R h p u)(f:Option Addr)(t g:Nat)(e:J0)(n:M0.R h [.slice f t g] e)(r:l0×Bool)(a:K01 u e=some r):
  Tr Tryz.prog 193 #[.agg p.toArray,.slice f t g] h λv s=>∃(o:List Value),v = .tuple #[.agg o.toArray,.bool r.2]/\Y0.R s o r.1/\Sub h s:=by
 obtain⟨b,c,i,au,j,d,rfl,rfl,k,m,l⟩:=B0 X
 obtain⟨rfl,an⟩:=Sl.len l
 obtain⟨rfl,ao⟩:=Sl.len n
 unfold K01 at a
 dsimp only at a
 refine J2 (args:=[.agg #[.int .i64 b,.int .i64 c,.slice i d.length j],.slice f e.length g]) (fn:=Tryz.f193) rfl ?_
 refine trV a (E9 _ [.int .i64 b,.int .i64 c,.slice i d.length j] (b,c,d) (z0 k m l)) λaB a=>?_
 refine trG a (λq=>S01 _ b k f e.length g e n) λaD a=>?_
 refine ifB a (λM a=>?_) λM a=>?_
 ·obtain rfl:=oJ a
  exact⟨([.int .i64 0,.int .i64 0,.slice none 0 0]),rfl,(z0 (by decide) (by decide) (h02 R0 h)),(Sub.refl _)⟩
 ·refine ifB a (λN a=>?_) λN a=>?_
  ·refine trM a (n5 _ [.int .i64 b,.int .i64 c,.slice i d.length j] (b,c,d) (z0 k m l)) ?_
   rintro aE a aA V ⟨ak,rfl,B⟩
   have ab:Sub h V:=B.sub
   have Z:=B.r
   obtain⟨af,ag,G,aw,J,ah,rfl,rfl,Q,S,x⟩:=B0 Z
   obtain⟨rfl,aq⟩:=Sl.len x
   try dsimp only at a
   obtain rfl:=oJ a
   exact⟨([.int .i64 af,.int .i64 ag,.slice G ah.length J]),rfl,(z0 Q S x),ab⟩
  ·refine trM a (C07 _ [.int .i64 b,.int .i64 c,.slice i d.length j] (b,c,d) (z0 k m l) f e.length g e n) ?_
   rintro ai a ay W ⟨al,rfl,y,A⟩
   obtain⟨aF,aG⟩:=ai
   dsimp only at a y
   obtain⟨C,D,H,ax,K,E,rfl,rfl,T,U,z⟩:=B0 y
   obtain⟨rfl,ar⟩:=Sl.len z
   try dsimp only at a
   refine ifB a (λL a=>?_) λL a=>?_
   ·obtain rfl:=oJ a
    exact⟨([.int .i64 0,.int .i64 0,.slice none 0 0]),rfl,(z0 (by decide) (by decide) (h02 R0 W)),A⟩
   ·refine trM a (O02 _ [.int .i64 C,.int .i64 D,.slice H E.length K] (C,D,E) (z0 T U z)) ?_
    rintro aC a az am ⟨aj,rfl,Y,aa⟩
    obtain⟨ac,ad,F,av,I,ae,rfl,rfl,O,P,w⟩:=B0 Y
    obtain⟨rfl,ap⟩:=Sl.len w
    try dsimp only at a
    obtain rfl:=oJ a
    exact⟨([.int .i64 ac,.int .i64 ad,.slice F ae.length I]),rfl,(z0 O P w),(A.trans aa)⟩
theorem I0d(h:Hp)(b:Int)(G:I0 b)(c:Int)(H:I0 c)(e:Option Addr)(p f:Nat)(d:Y1)(s:Z1.R h [.slice e p f] d)(j:Option Addr)(q k:Nat)(i:J0)(t:M0.R h [.slice j q k] i)(r:r00)(a:i03 b c d i=some r):
  Tr Tryz.prog 191 #[.int .i64 b,.int .i64 c,.slice e p f,.slice j q k] h λv n=>∃(l:List Value),v = .agg l.toArray/\s00.R n l r/\Sub h n:=by
 obtain⟨rfl,L⟩:=Sl.len s
 obtain⟨rfl,M⟩:=Sl.len t
 unfold i03 at a
 refine J2 (args:=[.int .i64 b,.int .i64 c,.slice e d.length f,.slice j i.length k]) (fn:=Tryz.f191) rfl ?_
 refine trM a (a0g _ e d.length f d s) ?_
 rintro K a S g ⟨z,P,B,rfl,y⟩
 have w:Sub h g:=y.sub
 have u:=y.r
 obtain⟨rfl,N⟩:=Sl.len u
 obtain⟨J,D,m⟩:=Sl.rows (r:=Wp.int.toRp) (M0.mono w t)
 refine eX J (aI D ?_)
 obtain⟨Q,F,a⟩:=C0 a
 refine aI (T1 F (by first|rw[F2.length (show F2 (Wp.int.R g) ([]:List (List Value)) ([]:J0) from trivial),F2.length m]|exact congrArg (·+1) (F2.length (show F2 (Wp.int.R g) ([]:List (List Value)) ([]:J0) from trivial)))) ?_
 intro T o E
 obtain⟨A,C,rfl,I,x,O⟩:=H1.out (r:=Wp.int.toRp) E (F2.append (show F2 (Wp.int.R g) ([]:List (List Value)) ([]:J0) from trivial) m)
 obtain rfl:=oJ a
 exact⟨([.int .i64 b,.int .i64 c,.slice z K.length B,.slice A ((([]:J0)++i)).length C,.slice none 0 0,.int .i64 0,.int .i64 0,.slice none 0 0,.int .i64 0]),rfl,(f00 G H (Z1.mono x u) I (h02 Wp.int o) (by decide) (by decide) (h02 R0 o) (by decide)),(w.trans x)⟩
theorem b0g(h:Hp)(S:Int)(aS:I0 S)(C:Int)(X:I0 C)(O:Option Addr)(ak P:Nat)(K:Y1)(Y:Z1.R h [.slice O ak P] K)(o:Option Addr)(al p:Nat)(k:J0)(s:M0.R h [.slice o al p] k)(r:r00×Bool)(a:Q03 S C K k=some r):
  Tr Tryz.prog 89 #[.int .i64 S,.int .i64 C,.slice O ak P,.slice o al p] h λv ah=>∃(af:List Value),v = .tuple #[.agg af.toArray,.bool r.2]/\s00.R ah af r.1/\Sub h ah:=by
 obtain⟨rfl,bC⟩:=Sl.len Y
 obtain⟨rfl,bD⟩:=Sl.len s
 unfold Q03 at a
 refine J2 (args:=[.int .i64 S,.int .i64 C,.slice O K.length P,.slice o k.length p]) (fn:=Tryz.f89) rfl ?_
 refine trM a (I0d _ _ aS _ X _ _ _ _ Y _ _ _ _ s) ?_
 rintro b5 a b3 bv ⟨bj,rfl,aZ,f⟩
 obtain⟨E,F,w,bQ,y,G,x,bR,z,H,I,bS,J,N,cc,cd,bi,bT,bo,ce,W,rfl,rfl,A,B,t,u,D,bp,bq,a0,Q⟩:=v03 aZ
 obtain⟨rfl,bH⟩:=Sl.len t
 obtain⟨rfl,bI⟩:=Sl.len u
 obtain⟨rfl,bJ⟩:=Sl.len D
 obtain⟨rfl,bK⟩:=Sl.len a0
 try dsimp only at a
 refine trM a (B0b _ C X O K.length P K (Z1.mono f Y)) ?_
 rintro bh a b4 n ⟨bn,rfl,ar,b⟩
 obtain⟨ch,ci⟩:=bh
 dsimp only at a ar
 obtain⟨c,d,l,bV,m,e,rfl,rfl,i,j,g⟩:=B0 ar
 obtain⟨rfl,bM⟩:=Sl.len g
 try dsimp only at a
 refine trG a (λq=>S01 _ C X o k.length p k (M0.mono (f.trans b) s)) λcj a=>?_
 refine ifB a (λaP a=>?_) λaP a=>?_
 ·obtain rfl:=oJ a
  exact⟨([.int .i64 0,.int .i64 0,.slice none 0 0,.slice none 0 0,.slice none 0 0,.int .i64 0,.int .i64 0,.slice none 0 0,.int .i64 0]),rfl,(f00 (by decide) (by decide) (h02 M0 n) (h02 Wp.int n) (h02 Wp.int n) (by decide) (by decide) (h02 R0 n) (by decide)),(f.trans b)⟩
 ·refine ifB a (λaQ a=>?_) λaQ a=>?_
  ·refine trM a (H0c _ [.int .i64 c,.int .i64 d,.slice l e.length m] (c,d,e) (z0 i j g) o k.length p k (M0.mono (f.trans b) s)) ?_
   rintro a2 a bZ bs ⟨ay,bN,aB,rfl,Z,T⟩
   obtain⟨a3,b6⟩:=a2
   dsimp only at a Z
   obtain⟨rfl,bE⟩:=Sl.len Z
   obtain rfl:=oJ a
   exact⟨([.int .i64 E,.int .i64 F,.slice w G.length y,.slice x H.length z,.slice ay a3.length aB,.int .i64 c,.int .i64 d,.slice l e.length m,.int .i64 W]),rfl,(f00 A B (Z1.mono (b.trans T) t) (M0.mono (b.trans T) u) Z i j (D0.mono T g) Q),((f.trans b).trans T)⟩
  ·refine ifB a (λaK a=>?_) λaK a=>?_
   ·refine trM a (p09 _ [.int .i64 c,.int .i64 d,.slice l e.length m] (c,d,e) (z0 i j g) o k.length p k (M0.mono (f.trans b) s)) ?_
    rintro a4 a b0 bt ⟨bk,rfl,am,U⟩
    obtain⟨b7,b8⟩:=a4
    dsimp only at a am
    obtain⟨a5,a6,az,bO,aC,ba,rfl,rfl,aT,aU,an⟩:=B0 am
    obtain⟨rfl,bF⟩:=Sl.len an
    try dsimp only at a
    obtain rfl:=oJ a
    exact⟨([.int .i64 E,.int .i64 F,.slice w G.length y,.slice x H.length z,.slice I N.length J,.int .i64 a5,.int .i64 a6,.slice az ba.length aC,.int .i64 W]),rfl,(f00 A B (Z1.mono (b.trans U) t) (M0.mono (b.trans U) u) (M0.mono (b.trans U) D) aT aU an Q),((f.trans b).trans U)⟩
   ·refine ifB a (λaL a=>?_) λaL a=>?_
    ·refine trM a (H0d _ _ _ (z0 i j g) _ _ _ _ (M0.mono (f.trans b) s)) ?_
     rintro bb a b1 bu ⟨bl,rfl,ao,M⟩
     obtain⟨ca,cb⟩:=bb
     dsimp only at a ao
     obtain⟨ab,ac,ae,bP,ag,ad,rfl,rfl,ai,aj,aa⟩:=B0 ao
     obtain⟨rfl,bG⟩:=Sl.len aa
     try dsimp only at a
     refine Or.inr (Or.inr (Or.inr (Or.inr (eX 7 (aI (aI (by kernel_rfl) (by kernel_rfl)) ?_)))))
     obtain⟨bc,aH,a⟩:=C0 a
     refine Or.inl (eX (.val (.bool bc)) (aI ?_ ?_))
     ·intro bx au aR
      exact Tr.val (v05 _ [.int .i64 c,.int .i64 d,.slice l e.length m] (c,d,e) (z0 i j (D0.mono (M.trans au) g)) [.int .i64 ab,.int .i64 ac,.slice ae ad.length ag] (ab,ac,ad) (z0 ai aj (D0.mono au aa)) _ (e00 aH aR)) (aI rfl (aI rfl rfl))
     intro bz L
     obtain rfl:=oJ a
     exact⟨([.int .i64 E,.int .i64 F,.slice w G.length y,.slice x H.length z,.slice I N.length J,.int .i64 ab,.int .i64 ac,.slice ae ad.length ag,.int .i64 W]),rfl,(f00 A B (Z1.mono ((b.trans M).trans L) t) (M0.mono ((b.trans M).trans L) u) (M0.mono ((b.trans M).trans L) D) ai aj (D0.mono L aa) Q),(((f.trans b).trans M).trans L)⟩
    ·refine ifB a (λaM a=>?_) λaM a=>?_
     ·refine trM a (l06 _ [.int .i64 c,.int .i64 d,.slice l e.length m] (c,d,e) (z0 i j g) o k.length p k (M0.mono (f.trans b) s)) ?_
      rintro bd a b2 bA ⟨bm,rfl,ap,V⟩
      obtain⟨cf,cg⟩:=bd
      dsimp only at a ap
      obtain⟨be,bf,aA,bU,aD,bg,rfl,rfl,aV,aW,aq⟩:=B0 ap
      obtain⟨rfl,bL⟩:=Sl.len aq
      try dsimp only at a
      obtain rfl:=oJ a
      exact⟨([.int .i64 E,.int .i64 F,.slice w G.length y,.slice x H.length z,.slice I N.length J,.int .i64 be,.int .i64 bf,.slice aA bg.length aD,.int .i64 W]),rfl,(f00 A B (Z1.mono (b.trans V) t) (M0.mono (b.trans V) u) (M0.mono (b.trans V) D) aV aW aq Q),((f.trans b).trans V)⟩
     ·refine ifB a (λaN a=>?_) λaN a=>?_
      ·refine trV a (O09 _ [.int .i64 c,.int .i64 d,.slice l e.length m] (c,d,e) (z0 i j g)) λav a=>?_
       obtain⟨bW,aE,a⟩:=C0 a
       have aX:I0 av:=K1 aE
       refine Or.inr (Or.inr (Or.inl (aI (aI (by kernel_rfl) (by kernel_rfl)) ?_)))
       obtain⟨aw,aJ,a⟩:=C0 a
       obtain⟨bX,aF,a⟩:=C0 a
       have br:I0 aw:=K1 aF
       refine Or.inl (eX (.val (.int .i64 aw)) (aI ?_ ?_))
       ·intro bB a1
        exact Tr.val (O09 _ [.int .i64 c,.int .i64 d,.slice l e.length m] (c,d,e) (z0 i j (D0.mono a1 g)) _ aJ) (aI rfl (aI rfl rfl))
       refine Or.inr ?_
       refine Or.inl (eX 0 (aI (aI rfl rfl) ?_))
       refine aI trivial (aI (by first|exact trivial|exact rfl) ?_)
       obtain rfl:=oJ a
       exact⟨([.int .i64 E,.int .i64 F,.slice w G.length y,.slice x H.length z,.slice I N.length J,.int .i64 c,.int .i64 d,.slice l e.length m,.int .i64 av]),rfl,(f00 A B (Z1.mono b t) (M0.mono b u) (M0.mono b D) i j g aX),(f.trans b)⟩
      ·refine ifB a (λaO a=>?_) λaO a=>?_
       ·refine trV a (Y0f _ [.int .i64 c,.int .i64 d,.slice l e.length m] (c,d,e) (z0 i j g)) λax a=>?_
        obtain⟨bY,aG,a⟩:=C0 a
        have aY:I0 ax:=K1 aG
        refine Or.inr (Or.inr (Or.inl (aI (aI (by kernel_rfl) (by kernel_rfl)) ?_)))
        refine Or.inr ?_
        refine Or.inl (eX 0 (aI (aI rfl rfl) ?_))
        refine aI trivial (aI (by first|exact trivial|exact rfl) ?_)
        obtain rfl:=oJ a
        exact⟨([.int .i64 E,.int .i64 F,.slice w G.length y,.slice x H.length z,.slice I N.length J,.int .i64 c,.int .i64 d,.slice l e.length m,.int .i64 ax]),rfl,(f00 A B (Z1.mono b t) (M0.mono b u) (M0.mono b D) i j g aY),(f.trans b)⟩
       ·obtain rfl:=oJ a
        exact⟨([.int .i64 0,.int .i64 0,.slice none 0 0,.slice none 0 0,.slice none 0 0,.int .i64 0,.int .i64 0,.slice none 0 0,.int .i64 0]),rfl,(f00 (by decide) (by decide) (h02 M0 n) (h02 Wp.int n) (h02 Wp.int n) (by decide) (by decide) (h02 R0 n) (by decide)),(f.trans b)⟩
theorem I0c(h:Hp)(c:Int)(I:I0 c)(d:Int)(J:I0 d)(e:Option Addr)(n g:Nat)(j:Y1)(p:Z1.R h [.slice e n g] j)(f:Option Addr)(o i:Nat)(k:J0)(q:M0.R h [.slice f o i] k)(r:r00×Bool)(a:K02 c d j k=some r):
  Tr Tryz.prog 34 #[.int .i64 c,.int .i64 d,.slice e n g,.slice f o i] h λv m=>∃(l:List Value),v = .tuple #[.agg l.toArray,.bool r.2]/\s00.R m l r.1/\Sub h m:=by
 obtain⟨rfl,ab⟩:=Sl.len p
 obtain⟨rfl,ac⟩:=Sl.len q
 unfold K02 at a
 refine J2 (args:=[.int .i64 c,.int .i64 d,.slice e j.length g,.slice f k.length i]) (fn:=Tryz.f34) rfl ?_
 refine trM a (b0g _ _ I _ J _ _ _ _ p _ _ _ _ q) ?_
 rintro P a al b ⟨aa,rfl,s,y⟩
 obtain⟨am,an⟩:=P
 dsimp only at a s
 obtain⟨Q,S,z,ah,D,T,A,ai,E,U,B,aj,F,V,W,X,C,ak,G,Y,Z,rfl,rfl,K,L,t,u,w,M,N,x,O⟩:=v03 s
 obtain⟨rfl,ad⟩:=Sl.len t
 obtain⟨rfl,ae⟩:=Sl.len u
 obtain⟨rfl,af⟩:=Sl.len w
 obtain⟨rfl,ag⟩:=Sl.len x
 try dsimp only at a
 refine ifB a (λH a=>?_) λH a=>?_
 ·obtain rfl:=oJ a
  exact⟨([.int .i64 0,.int .i64 0,.slice none 0 0,.slice none 0 0,.slice none 0 0,.int .i64 0,.int .i64 0,.slice none 0 0,.int .i64 0]),rfl,(f00 (by decide) (by decide) (h02 M0 b) (h02 Wp.int b) (h02 Wp.int b) (by decide) (by decide) (h02 R0 b) (by decide)),y⟩
 ·obtain rfl:=oJ a
  exact⟨([.int .i64 Q,.int .i64 S,.slice z T.length D,.slice A U.length E,.slice B V.length F,.int .i64 W,.int .i64 X,.slice C Y.length G,.int .i64 Z]),rfl,(f00 K L t u w M N x O),y⟩
theorem W5(h:Hp)(d:List Value)(i:l0)(y:Y0.R h d i)(r:l0)(a:T3 i=some r):
  Tr Tryz.prog 137 #[.agg d.toArray] h λv s=>∃(f:Nat) (g c:Nat),v = .agg ([.int .i64 r.1,.int .i64 r.2.1,.slice (some ⟨f,0,none⟩) g c]:List Value).toArray/\New Y0 h s [.int .i64 r.1,.int .i64 r.2.1,.slice (some ⟨f,0,none⟩) g c] r:=by
 obtain⟨w,x,l,D,m,j,rfl,rfl,t,u,k⟩:=B0 y
 obtain⟨rfl,B⟩:=Sl.len k
 unfold T3 at a
 dsimp only at a
 refine J2 (args:=[.agg #[.int .i64 w,.int .i64 x,.slice l j.length m]]) (fn:=Tryz.f137) rfl ?_
 refine Or.inr (Or.inr (Or.inl (aI (aI (by kernel_rfl) (by kernel_rfl)) ?_)))
 refine Or.inr ?_
 refine Or.inr ?_
 refine Or.inr ?_
 refine Or.inr ?_
 refine Or.inl (eX 0 (aI (aI rfl rfl) ?_))
 refine aI trivial (aI (by first|exact trivial|exact rfl) ?_)
 obtain⟨z,o,b⟩:=Sl.rows (r:=R0.toRp) k
 refine eX z (aI o ?_)
 obtain⟨E,p,a⟩:=C0 a
 refine aI (T1 p (by first|rw[F2.length (show F2 (R0.R h) ([]:List (List Value)) ([]:N0) from trivial),F2.length b]|exact congrArg (·+1) (F2.length (show F2 (R0.R h) ([]:List (List Value)) ([]:N0) from trivial)))) ?_
 refine aI trivial (aI (by first|exact trivial|exact rfl) ?_)
 refine aI trivial (aI (by first|exact trivial|exact rfl) ?_)
 refine aI trivial (aI (by first|exact trivial|exact rfl) ?_)
 intro H A e
 obtain⟨q,n,rfl,F,G,C⟩:=H1.outS (r:=R0.toRp) e (F2.append (show F2 (R0.R h) ([]:List (List Value)) ([]:N0) from trivial) b)
 obtain rfl:=oJ a
 exact⟨q,((([]:N0)++j)).length,n,rfl,(New.pair (New.int t) (New.pair (New.int u) (H1.newPlain (r:=R0) e (F2.append (show F2 (R0.R h) ([]:List (List Value)) ([]:N0) from trivial) b) (s07 _))))⟩
theorem J0d(h:Hp)(l:List Value)(m:l0)(A:Y0.R h l m)(f:Int)(F:I0 f)(r:Int)(e:C01 m f=some r):
  Tr Tryz.prog 302 #[.agg l.toArray,.int .i64 f] h λv i=>v = .int .i64 r/\i=h:=by
 obtain⟨y,z,o,M,p,j,rfl,rfl,D,E,n⟩:=B0 A
 obtain⟨rfl,L⟩:=Sl.len n
 unfold C01 at e
 dsimp only at e
 refine Tr.forget (J2 (args:=[.agg #[.int .i64 y,.int .i64 z,.slice o j.length p],.int .i64 f]) (fn:=Tryz.f302) rfl ?_)
 obtain⟨k,q,e⟩:=C0 e
 refine eX { vars:=[5,11],boxes:=[],owns:=[],fuel:=true } (eX (λvs os i=>∃ b c,vs.tail = [.int .i64 b,.int .i64 c]/\os = []/\Sub h i/\I0 b/\I0 c/\I5 j f (P1 vs) b c=some k) (eX (λ_ _=>0) (aI (eX U0 ⟨0,0,rfl,rfl,(Sub.refl _),(by decide),(by decide),q⟩) ?_)))
 rintro _ _ d K ⟨b,c,⟨⟩,⟨⟩,g,x,G,a⟩
 replace a:I5 j f d b c=some k:=a
 obtain _|d:=d
 ·cases a
 rw[I5.eq_2]at a
 refine ifB a (λt a=>?_) λt a=>?_
 ·refine ld a (D0.mono g n) λN C B a=>?_
  obtain⟨O,P,Q,rfl,rfl,H,I,J⟩:=M1 B
  try dsimp only at a
  refine ifB a (λu a=>?_) λu a=>?_
  ·refine ifB a (λw a=>?_) λw a=>?_
   ·exact C2 d ⟨(IntKind.i64.wrap ((IntKind.i64.wrap (b+1))+1)),(IntKind.i64.wrap (c+1)),rfl,rfl,g,(P0 _),(P0 _),a⟩
   ·exact C2 d ⟨(IntKind.i64.wrap (b+1)),(IntKind.i64.wrap (c+1)),rfl,rfl,g,(P0 _),(P0 _),a⟩
  ·refine ifB a (λs a=>?_) λs a=>?_
   ·exact C2 d ⟨(IntKind.i64.wrap (b+1)),(IntKind.i64.wrap (c+1)),rfl,rfl,g,(P0 _),(P0 _),a⟩
   ·exact C2 d ⟨b,(IntKind.i64.wrap (c+1)),rfl,rfl,g,x,(P0 _),a⟩
 ·obtain rfl:=oJ a
  try dsimp only[V0,Z0]at e
  obtain rfl:=oJ e
  exact aI rfl g
theorem P02(h:Hp)(i:Option Addr)(o k:Nat)(d:N0)(q:D0.R h [.slice i o k] d)(j:Option Addr)(p l:Nat)(e:N0)(s:D0.R h [.slice j p l] e)(r:Bool)(b:V2 d e=some r):
  Tr Tryz.prog 207 #[.slice i o k,.slice j p l] h λv m=>v = .bool r/\m=h:=by
 obtain⟨rfl,Q⟩:=Sl.len q
 obtain⟨rfl,S⟩:=Sl.len s
 unfold V2 at b
 refine Tr.forget (J2 (args:=[.slice i d.length k,.slice j e.length l]) (fn:=Tryz.f207) rfl ?_)
 refine ifB b (λu b=>?_) λu b=>?_
 ·obtain rfl:=oJ b
  exact aI rfl (Sub.refl _)
 ·obtain⟨n,t,b⟩:=C0 b
  refine eX { vars:=[13],boxes:=[],owns:=[],fuel:=true } (eX (λvs os m=>∃ c,vs.tail = [.int .i64 c]/\os = []/\Sub h m/\I0 c/\L1 d e (P1 vs) c=some n) (eX (λ_ _=>0) (aI (eX U0 ⟨0,rfl,rfl,(Sub.refl _),(by decide),t⟩) ?_)))
  rintro _ g P ⟨c,⟨⟩,⟨⟩,f,I,a⟩
  replace a:L1 d e g c=some n:=a
  obtain _|g:=g
  ·cases a
  rw[L1.eq_2]at a
  refine ifB a (λw a=>?_) λw a=>?_
  ·refine Or.inl (aI (aI (by kernel_rfl) (by kernel_rfl)) ?_)
   refine ld a (D0.mono f q) λT G y a=>?_
   obtain⟨A,B,C,rfl,rfl,J,K,L⟩:=M1 y
   try dsimp only at a
   refine ld a (D0.mono f s) λU H z a=>?_
   obtain⟨D,E,F,rfl,rfl,M,N,O⟩:=M1 z
   try dsimp only at a
   refine eX (!eqE (A,B,C) (D,E,F)) (aI (N0i _ _ _ rfl _ _ _ _ _ _) ?_)
   refine ifB a (λx a=>?_) λx a=>?_
   ·obtain rfl:=oJ a
    try dsimp only[j4,L4]at b
    obtain rfl:=oJ b
    exact aI rfl f
   ·exact C2 g ⟨(IntKind.i64.wrap (c+1)),rfl,rfl,f,(P0 _),a⟩
  ·obtain rfl:=oJ a
   try dsimp only[V0,Z0]at b
   obtain rfl:=oJ b
   exact aI rfl f
theorem n00(h:Hp)(b:List Value)(d:l0)(w:Y0.R h b d)(c:List Value)(e:l0)(x:Y0.R h c e)(r:Bool)(a:N7 d e=some r):
  Tr Tryz.prog 97 #[.agg b.toArray,.agg c.toArray] h λv m=>v = .bool r/\m=h:=by
 obtain⟨n,o,i,E,k,p,rfl,rfl,y,z,f⟩:=B0 w
 obtain⟨rfl,C⟩:=Sl.len f
 obtain⟨s,t,j,F,l,u,rfl,rfl,A,B,g⟩:=B0 x
 obtain⟨rfl,D⟩:=Sl.len g
 unfold N7 at a
 dsimp only at a
 refine Tr.forget (J2 (args:=[.agg #[.int .i64 n,.int .i64 o,.slice i p.length k],.agg #[.int .i64 s,.int .i64 t,.slice j u.length l]]) (fn:=Tryz.f97) rfl ?_)
 refine trG a (λq=>P02 _ _ _ _ _ f _ _ _ _ g) λG a=>?_
 obtain rfl:=oJ a
 exact aI rfl (Sub.refl _)
theorem q09(h:Hp)(G:List Value)(J:l0)(ao:Y0.R h G J)(i:Int)(aH:I0 i)(r:(List Bool))(e:M9 J i=some r):
  Tr Tryz.prog 301 #[.agg G.toArray,.int .i64 i] h λv f=>∃(E:Option Addr) (I F:Nat),v = .slice E I F/\(Wp.slice Wp.bool).R f [.slice E I F] r/\Sub h f:=by
 obtain⟨an,q,L,aQ,T,s,rfl,rfl,aF,aG,K⟩:=B0 ao
 obtain⟨rfl,aO⟩:=Sl.len K
 unfold M9 at e
 dsimp only at e
 refine J2 (args:=[.agg #[.int .i64 an,.int .i64 q,.slice L s.length T],.int .i64 i]) (fn:=Tryz.f301) rfl ?_
 obtain⟨aR,ab,e⟩:=C0 e
 refine aI (K1 ab) ?_
 obtain⟨aX,ae,e⟩:=C0 e
 obtain⟨P,aC,X,au⟩:=K5 (F2.rep (p:=Wp.bool.R h) (a:=[.bool false]) (b:=false) rfl (q.toNat)) ae
 refine aI P ?_
 obtain rfl:=au
 refine eX _ (aI X ?_)
 obtain⟨C,ah,e⟩:=C0 e
 refine eX { vars:=[6],boxes:=[],owns:=[0],fuel:=true,kept:=[0] } (eX (λvs os f=>∃ w x m,vs.tail = [.bool w]/\os = [x]/\Sub h f/\F2 (Wp.bool.R f) x m/\o5 s (P1 vs) w m=some C) (eX (λ_ _=>0) (aI (eX U0 ⟨true,((List.replicate q.toNat ([.bool false]:List Value)).set i.toNat [.bool true]),((List.replicate q.toNat (false:Bool)).set i.toNat true),rfl,rfl,(Sub.refl _),(F2.set (p:=Wp.bool.R h) (a:=[.bool true]) (b:=true) rfl i.toNat (F2.rep (p:=Wp.bool.R h) (a:=[.bool false]) (b:=false) rfl (q.toNat))),ah⟩) ?_)))
 rintro _ x t am ⟨w,a1,m,⟨⟩,⟨⟩,A,H,d⟩
 replace d:o5 s t w m=some C:=d
 obtain _|t:=t
 ·cases d
 rw[o5.eq_2]at d
 refine ifB d (λal d=>?_) λal d=>?_
 ·obtain⟨D,ai,d⟩:=C0 d
  refine eX { vars:=[6,19],boxes:=[],owns:=[0],fuel:=true,kept:=[0] } (eX (λvs os f=>∃ l j n k,vs.tail = [.bool l,.int .i64 j]/\os = [n]/\Sub am f/\I0 j/\F2 (Wp.bool.R f) n k/\G4 s (P1 vs) l j k=some D) (eX (λ_ _=>0) (aI (eX U0 ⟨false,0,x,m,rfl,rfl,(Sub.refl _),(by decide),H,ai⟩) ?_)))
  rintro _ _ n o z ⟨l,j,a0,k,⟨⟩,⟨⟩,u,aJ,g,c⟩
  replace c:G4 s o l j k=some D:=c
  obtain _|o:=o
  ·cases c
  rw[G4.eq_2]at c
  refine ifB c (λaj c=>?_) λaj c=>?_
  ·refine ld c (D0.mono (A.trans u) K) λaT az ap c=>?_
   obtain⟨y,aU,B,rfl,rfl,aK,aL,aM⟩:=M1 ap
   try dsimp only at c
   refine Or.inl (aI (aI (by kernel_rfl) (by kernel_rfl)) ?_)
   obtain⟨aV,ac,c⟩:=C0 c
   obtain⟨N,aA,V,aq⟩:=K5 g ac
   refine aI N ?_
   obtain rfl:=aq
   refine eX _ (aI V ?_)
   obtain⟨aW,ad,c⟩:=C0 c
   obtain⟨O,aB,W,ar⟩:=K5 g ad
   refine aI O ?_
   obtain rfl:=ar
   refine eX _ (aI W ?_)
   refine ifB c (λak c=>?_) λak c=>?_
   ·obtain⟨aY,af,c⟩:=C0 c
    obtain⟨Q,aD,Y,av⟩:=K5 g af
    refine aI Q ?_
    obtain rfl:=av
    refine eX _ (aI Y ?_)
    obtain⟨aZ,ag,c⟩:=C0 c
    obtain⟨S,aE,Z,aw⟩:=K5 (F2.set (p:=Wp.bool.R z) (a:=[.bool true]) (b:=true) rfl y.toNat g) ag
    refine aI S ?_
    obtain rfl:=aw
    refine eX _ (aI Z ?_)
    exact C2 o ⟨true,(IntKind.i64.wrap (j+1)),((n.set y.toNat [.bool true]).set B.toNat [.bool true]),((k.set y.toNat true).set B.toNat true),rfl,rfl,u,(P0 _),(F2.set (p:=Wp.bool.R z) (a:=[.bool true]) (b:=true) rfl B.toNat (F2.set (p:=Wp.bool.R z) (a:=[.bool true]) (b:=true) rfl y.toNat g)),c⟩
   ·exact C2 o ⟨l,(IntKind.i64.wrap (j+1)),n,k,rfl,rfl,u,(P0 _),g,c⟩
  ·obtain rfl:=oJ c
   try dsimp only[V0,Z0]at d
   exact C2 t ⟨l,n,k,rfl,rfl,(A.trans u),g,d⟩
 ·obtain rfl:=oJ d
  try dsimp only[V0,Z0]at e
  intro aS aN aa
  obtain⟨M,U,rfl,ax,ay,aP⟩:=H1.out (r:=Wp.bool.toRp) aa H
  obtain rfl:=oJ e
  exact⟨M,m.length,U,rfl,ax,(A.trans ay)⟩
theorem I08(h:Hp)(c:Int)(B:I0 c)(r:J0)(f:p9 c=some r):
  Tr Tryz.prog 309 #[.int .i64 c] h λv e=>∃(l:Option Addr) (p m:Nat),v = .slice l p m/\M0.R e [.slice l p m] r/\Sub h e:=by
 unfold p9 at f
 refine J2 (args:=[.int .i64 c]) (fn:=Tryz.f309) rfl ?_
 obtain⟨k,x,f⟩:=C0 f
 refine eX { vars:=[4],boxes:=[],owns:=[0],fuel:=true } (eX (λvs os e=>∃ a j d,vs.tail = [.int .i64 a]/\os = [j]/\Sub h e/\I0 a/\F2 (Wp.int.R e) j d/\T7 c (P1 vs) a d=some k) (eX (λ_ _=>0) (aI (eX U0 ⟨1,[],([]:J0),rfl,rfl,(Sub.refl _),(by decide),(show F2 (Wp.int.R h) ([]:List (List Value)) ([]:J0) from trivial),x⟩) ?_)))
 rintro _ j i o ⟨a,G,d,⟨⟩,⟨⟩,q,n,g,b⟩
 replace b:T7 c i a d=some k:=b
 obtain _|i:=i
 ·cases b
 rw[T7.eq_2]at b
 refine ifB b (λy b=>?_) λy b=>?_
 ·obtain⟨E,w,b⟩:=C0 b
  refine aI (T1 w (by first|rw[F2.length g,F2.length (show F2 (Wp.int.R o) ([[.int .i64 a],[.int .i64 (IntKind.i64.wrap (0-a))]]:List (List Value)) [a,(IntKind.i64.wrap (0-a))] from⟨⟨rfl,n⟩,⟨⟨rfl,(P0 _)⟩,trivial⟩⟩)]|exact congrArg (·+2) (F2.length g))) ?_
  exact C2 i ⟨(IntKind.i64.wrap (a+1)),(j++([[.int .i64 a],[.int .i64 (IntKind.i64.wrap (0-a))]]:List (List Value))),(d ++ [a,(IntKind.i64.wrap (0-a))]),rfl,rfl,q,(P0 _),(F2.append g (show F2 (Wp.int.R o) ([[.int .i64 a],[.int .i64 (IntKind.i64.wrap (0-a))]]:List (List Value)) [a,(IntKind.i64.wrap (0-a))] from⟨⟨rfl,n⟩,⟨⟨rfl,(P0 _)⟩,trivial⟩⟩)),b⟩
 ·obtain rfl:=oJ b
  try dsimp only[V0,Z0]at f
  intro F C u
  obtain⟨s,t,rfl,z,A,D⟩:=H1.out (r:=Wp.int.toRp) u g
  obtain rfl:=oJ f
  exact⟨s,d.length,t,rfl,z,(q.trans A)⟩
theorem d03(h:Hp)(c:Option Addr)(l d:Nat)(b:N0)(o:D0.R h [.slice c l d] b)(r:N0)(a:d9 b=some r):
  Tr Tryz.prog 251 #[.slice c l d] h λv x=>∃(e:Option Addr) (k f:Nat),v = .slice e k f/\New D0 h x [.slice e k f] r:=by
 obtain⟨rfl,E⟩:=Sl.len o
 unfold d9 at a
 refine J2 (args:=[.slice c b.length d]) (fn:=Tryz.f251) rfl ?_
 obtain⟨y,s,g⟩:=Sl.rows (r:=R0.toRp) o
 refine eX y (aI s ?_)
 obtain⟨H,u,a⟩:=C0 a
 refine aI (T1 u (by first|rw[F2.length (show F2 (R0.R h) ([]:List (List Value)) ([]:N0) from trivial),F2.length g]|exact congrArg (·+1) (F2.length (show F2 (R0.R h) ([]:List (List Value)) ([]:N0) from trivial)))) ?_
 refine Or.inl ?_
 intro N B t
 obtain⟨I,w,a⟩:=C0 a
 refine Tr.mono (L0k _ t (F2.append (show F2 (R0.R h) ([]:List (List Value)) ([]:N0) from trivial) g) (K1 w)) ?_
 rintro _ C ⟨rfl,O,i,m⟩
 obtain⟨z,A,rfl,J,L,F⟩:=H1.out (r:=R0.toRp) i m
 refine Tr.mono (M0k _ i m) ?_
 rintro _ D ⟨P,j,n⟩
 obtain⟨p,q,rfl,K,M,G⟩:=H1.out (r:=R0.toRp) j n
 obtain rfl:=oJ a
 exact⟨p,((W03 eqE (B06 Q0 (([]:N0)++b)))).length,q,rfl,(H1.newPlain (r:=R0) j n (s07 _))⟩
theorem J08(h:Hp)(X:List Value)(ae:l0)(aW:Y0.R h X ae)(I:Option Addr)(ad J:Nat)(w:J0)(ah:M0.R h [.slice I ad J] w)(r:l0)(d:k02 ae w=some r):
  Tr Tryz.prog 291 #[.agg X.toArray,.slice I ad J] h λv e=>∃(W:List Value),v = .agg W.toArray/\New Y0 h e W r:=by
 obtain⟨af,i,ai,bF,ap,P,rfl,rfl,aQ,bl,ag⟩:=B0 aW
 obtain⟨rfl,bC⟩:=Sl.len ag
 obtain⟨rfl,aU⟩:=Sl.len ah
 unfold k02 at d
 dsimp only at d
 refine J2 (args:=[.agg #[.int .i64 af,.int .i64 i,.slice ai P.length ap],.slice I w.length J]) (fn:=Tryz.f291) rfl ?_
 obtain⟨bH,aA,d⟩:=C0 d
 refine aI (K1 aA) ?_
 obtain⟨aV,az,d⟩:=C0 d
 obtain rfl:(List.replicate i.toNat ([.int .i64 0]:List Value)).length=aV:=(F2.length (F2.rep (p:=Wp.int.R h) (a:=[.int .i64 0]) (b:=0) ⟨rfl,(by decide)⟩ (i.toNat))).trans (oJ az)
 obtain⟨bI,bk,d⟩:=C0 d
 obtain⟨V,aL,d⟩:=C0 d
 refine eX { vars:=[17],boxes:=[],owns:=[0],fuel:=true,kept:=[0] } (eX (λvs os e=>∃ g C y,vs.tail = [.int .i64 g]/\os = [C]/\Sub h e/\I0 g/\F2 (Wp.int.R e) C y/\U9 ((List.replicate i.toNat ([.int .i64 0]:List Value))).length (P1 vs) g y=some V) (eX (λ_ _=>0) (aI (eX U0 ⟨0,(List.replicate i.toNat ([.int .i64 0]:List Value)),(List.replicate i.toNat (0:Int)),rfl,rfl,(Sub.refl _),(by decide),(F2.rep (p:=Wp.int.R h) (a:=[.int .i64 0]) (b:=0) ⟨rfl,(by decide)⟩ (i.toNat)),aL⟩) ?_)))
 rintro _ C E ac ⟨g,b1,y,⟨⟩,⟨⟩,G,bn,K,c⟩
 replace c:U9 ((List.replicate i.toNat ([.int .i64 0]:List Value))).length E g y=some V:=c
 obtain _|E:=E
 ·cases c
 rw[U9.eq_2]at c
 refine ifB c (λaP c=>?_) λaP c=>?_
 ·obtain⟨bS,aC,c⟩:=C0 c
  obtain⟨ak,bc,ar,aX⟩:=K5 K aC
  refine aI ak ?_
  obtain⟨rfl,bo⟩:=aX
  refine eX _ (aI ar ?_)
  exact C2 E ⟨(IntKind.i64.wrap (g+1)),(C.set g.toNat [.int .i64 (-1)]),(y.set g.toNat (-1)),rfl,rfl,G,(P0 _),(F2.set (p:=Wp.int.R ac) (a:=[.int .i64 (-1)]) (b:=(-1)) ⟨rfl,(by decide)⟩ g.toNat K),c⟩
 ·obtain rfl:=oJ c
  try dsimp only[V0,Z0]at d
  obtain⟨T,aJ,d⟩:=C0 d
  refine eX { vars:=[26],boxes:=[],owns:=[0],fuel:=true,kept:=[0] } (eX (λvs os e=>∃ f H o,vs.tail = [.int .i64 f]/\os = [H]/\Sub ac e/\I0 f/\F2 (Wp.int.R e) H o/\T9 w (P1 vs) f o=some T) (eX (λ_ _=>0) (aI (eX U0 ⟨0,C,y,rfl,rfl,(Sub.refl _),(by decide),K,aJ⟩) ?_)))
  rintro _ H D N ⟨f,bZ,o,⟨⟩,⟨⟩,F,aR,u,c⟩
  replace c:T9 w D f o=some T:=c
  obtain _|D:=D
  ·cases c
  rw[T9.eq_2]at c
  refine ifB c (λaM c=>?_) λaM c=>?_
  ·refine ldI c (M0.mono (G.trans F) ah) λS bp c=>?_
   obtain⟨bT,aD,c⟩:=C0 c
   obtain⟨al,bd,au,aY⟩:=K5 u aD
   refine aI al ?_
   obtain⟨rfl,bq⟩:=aY
   refine eX _ (aI au ?_)
   exact C2 D ⟨(IntKind.i64.wrap (f+1)),(H.set S.toNat [.int .i64 f]),(o.set S.toNat f),rfl,rfl,F,(P0 _),(F2.set (p:=Wp.int.R N) (a:=[.int .i64 f]) (b:=f) ⟨rfl,aR⟩ S.toNat u),c⟩
  ·obtain rfl:=oJ c
   try dsimp only[V0,Z0]at d
   obtain⟨U,aK,d⟩:=C0 d
   refine eX { vars:=[44],boxes:=[2],owns:=[1],fuel:=true,nilsB:=[(2,2,166,3,24)] } (eX (λvs os e=>∃ s k l B x,vs.tail = [.int .i64 s,.int .i64 k,.int .i64 l]/\os = [B]/\Sub N e/\I0 s/\I0 k/\I0 l/\F2 (R0.R e) B x/\g9 P o (P1 vs) s k l x=some U) (eX (λ_ _=>0) (aI (eX U0 ⟨0,af,((w.length:Nat):Int),[],([]:N0),rfl,rfl,(Sub.refl _),(by decide),aQ,(l0r aU),(show F2 (R0.R N) [] [] from trivial),aK⟩) ?_)))
   rintro _ _ _ B A O ⟨s,k,l,b0,x,⟨⟩,⟨⟩,j,bm,L,M,z,c⟩
   replace c:g9 P o A s k l x=some U:=c
   obtain _|A:=A
   ·cases c
   rw[g9.eq_2]at c
   refine ifB c (λaN c=>?_) λaN c=>?_
   ·refine ld c (D0.mono ((G.trans F).trans j) ag) λbU be aZ c=>?_
    obtain⟨bV,t,bW,rfl,rfl,br,Z,bs⟩:=M1 aZ
    try dsimp only at c
    obtain⟨bX,aE,c⟩:=C0 c
    obtain⟨am,bf,av,a0⟩:=K5 (F2.up (r:=Wp.int.toRp) j u) aE
    refine aI am ?_
    obtain⟨rfl,bt⟩:=a0
    refine eX _ (aI av ?_)
    obtain⟨bY,aF,c⟩:=C0 c
    obtain⟨bg,Y,a1⟩:=n05 (F2.up (r:=Wp.int.toRp) j u) aF (T0e O)
    refine aI (λq=>(Y q).1) ?_
    obtain⟨rfl,bu⟩:=a1
    refine eX _ (aI (λq=>(Y q).2) ?_)
    refine ifB c (λaO c=>?_) λaO c=>?_
    ·refine Or.inr (Or.inr (Or.inl (aI (aI (by kernel_rfl) (by kernel_rfl)) ?_)))
     obtain⟨m,aG,c⟩:=C0 c
     obtain⟨an,bh,aw,a2⟩:=K5 (F2.up (r:=Wp.int.toRp) j u) aG
     obtain⟨rfl,aa⟩:=a2
     refine Or.inl ?_
     apply eX
     refine aI ?_ ?_
     ·intro bv bK
      exact aI an (aI rfl (aI rfl rfl))
     refine Or.inl (eX (.val (.int .i64 m)) (aI ?_ ?_))
     ·intro bx bL
      exact eX _ (aI aw (aI rfl (aI rfl rfl)))
     obtain⟨n,aH,c⟩:=C0 c
     obtain⟨ao,bi,ax,a3⟩:=K5 (F2.up (r:=Wp.int.toRp) j u) aH
     obtain⟨rfl,ab⟩:=a3
     refine Or.inl ?_
     apply eX
     refine aI ?_ ?_
     ·intro bz bM
      exact aI ao (aI rfl (aI rfl rfl))
     refine Or.inl (eX (.val (.int .i64 n)) (aI ?_ ?_))
     ·intro bA bN
      exact eX _ (aI ax (aI rfl (aI rfl rfl)))
     refine Or.inl (eX (.agg [.val (.int .i64 m),.val (.int .i64 t),.val (.int .i64 n)]) (aI ?_ ?_))
     ·intro bB bO
      exact aI rfl (aI rfl rfl)
     refine Or.inr ?_
     refine Or.inr ?_
     refine Or.inr ?_
     refine Or.inl (eX 0 (aI (aI rfl rfl) ?_))
     refine aI trivial (aI (by first|exact trivial|exact rfl) ?_)
     obtain⟨bJ,aB,c⟩:=C0 c
     refine aI (T1 aB (by first|rw[F2.length z,F2.length (show F2 (R0.R O) ([[.int .i64 m,.int .i64 t,.int .i64 n]]:List (List Value)) [(m,t,n)] from⟨(E1 aa Z ab),trivial⟩)]|exact congrArg (·+1) (F2.length z))) ?_
     refine aI trivial (aI (by first|exact trivial|exact rfl) ?_)
     refine aI trivial (aI (by first|exact trivial|exact rfl) ?_)
     exact C2 A ⟨(IntKind.i64.wrap (s+1)),k,l,(B++([[.int .i64 m,.int .i64 t,.int .i64 n]]:List (List Value))),(x ++ [(m,t,n)]),rfl,rfl,j,(P0 _),L,M,(F2.append z (show F2 (R0.R O) ([[.int .i64 m,.int .i64 t,.int .i64 n]]:List (List Value)) [(m,t,n)] from⟨(E1 aa Z ab),trivial⟩)),c⟩
    ·exact C2 A ⟨(IntKind.i64.wrap (s+1)),k,l,B,x,rfl,rfl,j,(P0 _),L,M,z,c⟩
   ·obtain rfl:=oJ c
    try dsimp only[V0,Z0]at d
    refine Or.inl ?_
    intro bQ aS ay
    obtain⟨bb,bj,rfl,a5,a6,bE⟩:=H1.out (r:=R0.toRp) ay z
    refine trM d (d03 _ _ _ _ _ a5) ?_
    rintro ba d bR aT ⟨aj,bG,aq,rfl,Q⟩
    have bP:Sub aS aT:=Q.sub
    have a4:=Q.r
    obtain⟨rfl,bD⟩:=Sl.len a4
    obtain rfl:=oJ d
    exact⟨([.int .i64 k,.int .i64 l,.slice aj ba.length aq]),rfl,(New.pair (New.int L) (New.pair (New.int M) (New.from Q (((G.trans F).trans j).trans a6))))⟩
theorem Z05(h:Hp)(Y:List Value)(an:l0)(bk:Y0.R h Y an)(f:Int)(bc:I0 f)(r:J0×Y1)(g:B8 an f=some r):
  Tr Tryz.prog 236 #[.agg Y.toArray,.int .i64 f] h λv e=>∃(U:Option Addr) (ak W:Nat) (V:Option Addr) (al X:Nat),v = .tuple #[.slice U ak W,.slice V al X]/\M0.R e [.slice U ak W] r.1/\Z1.R e [.slice V al X] r.2/\Sub h e:=by
 obtain⟨B,j,ay,b6,aG,C,rfl,rfl,ag,bb,ap⟩:=B0 bk
 obtain⟨rfl,bV⟩:=Sl.len ap
 unfold B8 at g
 dsimp only at g
 refine J2 (args:=[.agg #[.int .i64 B,.int .i64 j,.slice ay C.length aG],.int .i64 f]) (fn:=Tryz.f236) rfl ?_
 obtain⟨ci,aT,g⟩:=C0 g
 refine aI (K1 aT) ?_
 obtain⟨cu,aY,g⟩:=C0 g
 obtain⟨aD,bF,aL,bm⟩:=K5 (F2.rep (p:=Wp.opt.R h) (a:=[.slice none 0 0]) (b:=none) (F0r h) (j.toNat)) aY
 refine aI aD ?_
 obtain⟨bA,b8,bK,rfl,cf,bh⟩:=bm
 obtain⟨rfl,bX⟩:=Sl.len bh
 intro cp M aQ
 obtain⟨af,aa,rfl,bu,P,b5⟩:=H1.outS (r:=Wp.int.toRp) aQ (show F2 (Wp.int.R h) ([]:List (List Value)) ([]:J0) from trivial)
 refine eX _ (aI aL ?_)
 obtain⟨T,a3,g⟩:=C0 g
 refine eX { vars:=[8],boxes:=[],owns:=[0,2],fuel:=true,kept:=[0] } (eX (λvs os e=>∃ u8 I w E u,vs.tail = [.int .i64 u8]/\os = [I,E]/\Sub M e/\I0 u8/\F2 (Wp.opt.R e) I w/\F2 (Wp.int.R e) E u/\w5 B j C (P1 vs) u8 w u=some T) (eX (λ_ _=>0) (aI (eX U0 ⟨0,((List.replicate j.toNat ([.slice none 0 0]:List Value)).set f.toNat [.slice (some ⟨af,0,none⟩) (([]:J0)).length aa]),((List.replicate j.toNat (none:Option J0)).set f.toNat (some ([]:J0))),([[.int .i64 f]]:List (List Value)),[f],rfl,rfl,(Sub.refl _),(by decide),(F2.set (p:=Wp.opt.R M) (a:=[.slice (some ⟨af,0,none⟩) (([]:J0)).length aa]) (b:=some ([]:J0)) (G0r bu) f.toNat (F2.up (r:=Wp.opt.toRp) P (F2.rep (p:=Wp.opt.R h) (a:=[.slice none 0 0]) (b:=none) (F0r h) (j.toNat)))),(show F2 (Wp.int.R M) ([[.int .i64 f]]:List (List Value)) [f] from⟨⟨rfl,bc⟩,trivial⟩),a3⟩) ?_)))
 rintro _ I E G bS ⟨u8,cA,w,cx,u,⟨⟩,⟨⟩,O,bR,ac,F,d⟩
 replace d:w5 B j C G u8 w u=some T:=d
 obtain _|G:=G
 ·cases d
 rw[w5.eq_2]at d
 obtain⟨bf,aS,d⟩:=C0 d
 obtain rfl:E.length=bf:=(F2.length F).trans (oJ aS)
 obtain⟨cj,bP,d⟩:=C0 d
 refine ifB d (λa5 d=>?_) λa5 d=>?_
 ·obtain⟨aw,aX,d⟩:=C0 d
  obtain⟨aC,bE,aK,bl⟩:=K5 F aX
  refine aI aC ?_
  obtain⟨rfl,bd⟩:=bl
  refine eX _ (aI aK ?_)
  refine trM d (I08 _ _ ag) ?_
  rintro ax d co be ⟨bz,b7,bJ,rfl,aq,H⟩
  obtain⟨rfl,bW⟩:=Sl.len aq
  obtain⟨S,a2,d⟩:=C0 d
  refine eX { vars:=[36],boxes:=[],owns:=[0,2],fuel:=true,kept:=[0] } (eX (λvs os e=>∃ l x m y n,vs.tail = [.int .i64 l]/\os = [x,y]/\Sub be e/\I0 l/\F2 (Wp.opt.R e) x m/\F2 (Wp.int.R e) y n/\J3 ax B j C aw (P1 vs) l m n=some S) (eX (λ_ _=>0) (aI (eX U0 ⟨0,I,w,E,u,rfl,rfl,(Sub.refl _),(by decide),(F2.up (r:=Wp.opt.toRp) H ac),(F2.up (r:=Wp.int.toRp) H F),a2⟩) ?_)))
  rintro _ x y A ai ⟨l,cy,m,cz,n,⟨⟩,⟨⟩,D,bQ,t,z,c⟩
  replace c:J3 ax B j C aw A l m n=some S:=c
  obtain _|A:=A
  ·cases c
  rw[J3.eq_2]at c
  refine ifB c (λa6 c=>?_) λa6 c=>?_
  ·refine ldI c (M0.mono D aq) λk K c=>?_
   refine trV c (z7 _ _ _ (z0 ag bb (D0.mono (((P.trans O).trans H).trans D) ap)) _ bd _ K) λi c=>?_
   obtain⟨ck,aU,c⟩:=C0 c
   have ah:I0 i:=K1 aU
   obtain⟨bx,aZ,c⟩:=C0 c
   obtain⟨bG,ab,bn⟩:=n05 t aZ (E0s ai)
   refine aI (λq=>(ab q).1) ?_
   obtain⟨bB,ca,bL,rfl,bg,bi⟩:=bn
   obtain⟨rfl,bY⟩:=Sl.len bi
   refine eX _ (aI (λq=>(ab q).2) ?_)
   refine eX (bx.isNone) (aI (λ_=>by rw[←bg];exact F0s _ _ _ rfl _ _ _) ?_)
   refine ifB c (λba c=>?_) λba c=>?_
   ·obtain⟨cv,a0,c⟩:=C0 c
    obtain⟨aE,bH,aM,bo⟩:=K5 t a0
    refine aI aE ?_
    obtain⟨bC,cb,bM,rfl,cg,ao⟩:=bo
    obtain⟨rfl,bZ⟩:=Sl.len ao
    refine eX _ (aI aM ?_)
    obtain⟨J,ad,c⟩:=C0 c
    refine Tr.mono (M01 _ _ _ _ _ ao _  ad) ?_
    rintro cq L ⟨ad,cc,bN,rfl,Q⟩
    have cn:Sub ai L:=Q.sub
    have bp:=Q.r
    obtain⟨rfl,b0⟩:=Sl.len bp
    obtain⟨cl,aV,c⟩:=C0 c
    obtain⟨bv,br,aj,az⟩:=New.app Q (Sub.refl _)
    refine eX bv (aI br (aI (T1 aV (by first|rw[aj,F2.length (show F2 (Wp.int.R L) ([[.int .i64 k]]:List (List Value)) [k] from⟨⟨rfl,K⟩,trivial⟩)]|(rw[aj];rfl))) ?_))
    intro ct N a4
    obtain⟨s,ae,am,ce,Z,rfl⟩:=az _ _ _ _ _ (F3.ofPlain (S0e _) (show F2 (Wp.int.R L) ([[.int .i64 k]]:List (List Value)) [k] from⟨⟨rfl,K⟩,trivial⟩)) o6.ofPlain a4
    have ar:=s.r
    obtain⟨aO,b2⟩:=Sl.len ar
    subst aO
    obtain⟨cw,a1,c⟩:=C0 c
    obtain⟨aF,bI,aN,bq⟩:=K5 (F2.up (r:=Wp.opt.toRp) s.sub t) a1
    refine aI aF ?_
    obtain⟨bD,cd,bO,rfl,ch,bj⟩:=bq
    obtain⟨rfl,b1⟩:=Sl.len bj
    refine eX _ (aI aN ?_)
    obtain⟨cm,aW,c⟩:=C0 c
    refine aI (T1 aW (by first|rw[F2.length (F2.up (r:=Wp.int.toRp) s.sub z),F2.length (show F2 (Wp.int.R N) ([[.int .i64 i]]:List (List Value)) [i] from⟨⟨rfl,ah⟩,trivial⟩)]|exact congrArg (·+1) (F2.length (F2.up (r:=Wp.int.toRp) s.sub z)))) ?_
    exact C2 A ⟨(IntKind.i64.wrap (l+1)),(x.set i.toNat [.slice (some ⟨ae,am,none⟩) (J ++ [k]).length Z]),(m.set i.toNat (some (J ++ [k]))),(y++([[.int .i64 i]]:List (List Value))),(n ++ [i]),rfl,rfl,(D.trans s.sub),(P0 _),(F2.set (p:=Wp.opt.R N) (a:=[.slice (some ⟨ae,am,none⟩) (J ++ [k]).length Z]) (b:=some (J ++ [k])) (G0r ar) i.toNat (F2.up (r:=Wp.opt.toRp) s.sub t)),(F2.append (F2.up (r:=Wp.int.toRp) s.sub z) (show F2 (Wp.int.R N) ([[.int .i64 i]]:List (List Value)) [i] from⟨⟨rfl,ah⟩,trivial⟩)),c⟩
   ·exact C2 A ⟨(IntKind.i64.wrap (l+1)),x,m,y,n,rfl,rfl,D,(P0 _),t,z,c⟩
  ·obtain rfl:=oJ c
   try dsimp only[V0,Z0]at d
   exact C2 G ⟨(IntKind.i64.wrap (u8+1)),x,m,y,n,rfl,rfl,((O.trans H).trans D),(P0 _),t,z,d⟩
 ·obtain rfl:=oJ d
  try dsimp only[V0,Z0]at g
  intro cr bT aP
  obtain⟨aA,aH,rfl,bs,au,b3⟩:=H1.out (r:=Wp.int.toRp) aP F
  intro cs bU aR
  obtain⟨aB,aJ,rfl,bt,av,b4⟩:=H1.out (r:=M0.toRp) aR (F2.ofOpt (F2.up (r:=Wp.opt.toRp) au ac))
  obtain rfl:=oJ g
  exact⟨aA,u.length,aH,aB,(List.map (λo:Option J0=>o.getD ([]:J0)) w).length,aJ,rfl,(M0.mono av bs),bt,(((P.trans O).trans au).trans av)⟩
theorem L07(h:Hp)(f:List Value)(l:l0)(A:Y0.R h f l)(r:J0)(a:O8 l=some r):
  Tr Tryz.prog 303 #[.agg f.toArray] h λv g=>∃(d:Option Addr) (k e:Nat),v = .slice d k e/\M0.R g [.slice d k e] r/\Sub h g:=by
 obtain⟨x,y,n,O,q,z,rfl,rfl,i,j,b⟩:=B0 A
 obtain⟨rfl,K⟩:=Sl.len b
 unfold O8 at a
 dsimp only at a
 refine J2 (args:=[.agg #[.int .i64 x,.int .i64 y,.slice n z.length q]]) (fn:=Tryz.f303) rfl ?_
 refine trV a (K9 _ _ _ (z0 i j b)) λU a=>?_
 refine ifB a (λw a=>?_) λw a=>?_
 ·intro S I u
  obtain⟨p,t,rfl,B,D,N⟩:=H1.out (r:=Wp.int.toRp) u (show F2 (Wp.int.R h) ([]:List (List Value)) ([]:J0) from trivial)
  obtain rfl:=oJ a
  exact⟨p,(([]:J0)).length,t,rfl,B,D⟩
 ·refine trM a (Z05 _ _ _ (z0 i j b) 0 (by decide)) ?_
  rintro E a T J ⟨o,P,s,G,Q,H,rfl,c,m,C⟩
  obtain⟨F,V⟩:=E
  dsimp only at a c m
  obtain⟨rfl,L⟩:=Sl.len c
  obtain⟨rfl,M⟩:=Sl.len m
  obtain rfl:=oJ a
  exact⟨o,F.length,s,rfl,c,C⟩
theorem a04(h:Hp)(j:List Value)(k:l0)(J:Y0.R h j k)(r:l0)(a:C7 k=some r):
  Tr Tryz.prog 221 #[.agg j.toArray] h λv x=>∃(i:List Value),v = .agg i.toArray/\New Y0 h x i r:=by
 obtain⟨G,H,n,af,p,I,rfl,rfl,c,d,b⟩:=B0 J
 obtain⟨rfl,ab⟩:=Sl.len b
 unfold C7 at a
 dsimp only at a
 refine J2 (args:=[.agg #[.int .i64 G,.int .i64 H,.slice n I.length p]]) (fn:=Tryz.f221) rfl ?_
 refine trV a (K9 _ _ _ (z0 c d b)) λan a=>?_
 refine ifB a (λy a=>?_) λy a=>?_
 ·refine trM a (W5 _ _ _ (z0 c d b)) ?_
  rintro U a al E ⟨w,ah,s,rfl,e⟩
  have aj:Sub h E:=e.sub
  have l:=e.r
  obtain⟨V,W,X⟩:=U
  dsimp only at a e l
  obtain⟨_,_,_,_,_,_,t,u,B,C,M⟩:=B0 l
  cases t
  cases u
  obtain⟨rfl,ad⟩:=Sl.len M
  try dsimp only at a
  have P:=New.sndI (New.sndI (e))
  obtain rfl:=oJ a
  exact⟨([.int .i64 V,.int .i64 W,.slice (some ⟨w,0,none⟩) X.length s]),rfl,(New.pair (New.int B) (New.pair (New.int C) P))⟩
 ·refine Or.inr (Or.inr (Or.inl (aI (aI (by kernel_rfl) (by kernel_rfl)) ?_)))
  refine Or.inr ?_
  refine Or.inr ?_
  refine Or.inr ?_
  refine Or.inl (eX 2 (aI (aI rfl rfl) ?_))
  refine trM a (L07 _ _ _ (z0 c d b)) ?_
  rintro ap a am F ⟨Y,ai,aa,rfl,m,f⟩
  obtain⟨rfl,ae⟩:=Sl.len m
  refine aI (aI rfl f) (aI (by first|exact trivial|exact rfl) ?_)
  refine trM a (J08 _ _ _ (z0 c d (D0.mono f b)) _ _ _ _ m) ?_
  rintro ao a ak D ⟨Z,rfl,g⟩
  have N:Sub F D:=g.sub
  have K:=g.r
  obtain⟨Q,S,o,ag,q,T,rfl,rfl,z,A,L⟩:=B0 K
  obtain⟨rfl,ac⟩:=Sl.len L
  try dsimp only at a
  have O:=New.sndI (New.sndI (g))
  refine aI (aI rfl N) (aI (by first|exact trivial|exact rfl) ?_)
  refine aI trivial (aI (by first|exact trivial|exact rfl) ?_)
  obtain rfl:=oJ a
  exact⟨([.int .i64 Q,.int .i64 S,.slice o T.length q]),rfl,(New.pair (New.int z) (New.pair (New.int A) (New.from O f)))⟩
theorem O06(h:Hp)(al:List Value)(aF:l0)(bP:Y0.R h al aF)(r:l0×J0)(c:U7 aF=some r):
  Tr Tryz.prog 220 #[.agg al.toArray] h λv d=>∃(ak:List Value) (ai:Option Addr) (aE aj:Nat),v = .tuple #[.agg ak.toArray,.slice ai aE aj]/\New Y0 h d ak r.1/\M0.R d [.slice ai aE aj] r.2:=by
 obtain⟨bL,U,aU,cw,a2,bM,rfl,rfl,av,aw,V⟩:=B0 bP
 obtain⟨rfl,cm⟩:=Sl.len V
 unfold U7 at c
 dsimp only at c
 refine J2 (args:=[.agg #[.int .i64 bL,.int .i64 U,.slice aU bM.length a2]]) (fn:=Tryz.f220) rfl ?_
 refine trM c (W5 _ _ _ (z0 av aw V)) ?_
 rintro b5 c cK H ⟨aq,cx,am,rfl,N⟩
 have X:Sub h H:=N.sub
 have aH:=N.r
 obtain⟨aO,aP,ab⟩:=b5
 dsimp only at c N aH
 obtain⟨_,_,_,_,_,_,ba,bc,aA,aB,bQ⟩:=B0 aH
 cases ba
 cases bc
 obtain⟨rfl,co⟩:=Sl.len bQ
 try dsimp only at c
 have aL:=New.sndI (New.sndI (N))
 refine trV c (l01 _ _ _ (z0 av aw (D0.mono X V))) λcR c=>?_
 refine ifB c (λbz c=>?_) λbz c=>?_
 ·intro cO cj bf
  obtain⟨aX,a4,rfl,bV,b0,cr⟩:=H1.out (r:=Wp.int.toRp) bf (show F2 (Wp.int.R H) ([]:List (List Value)) ([]:J0) from trivial)
  obtain rfl:=oJ c
  exact⟨([.int .i64 aO,.int .i64 aP,.slice (some ⟨aq,0,none⟩) ab.length am]),aX,(([]:J0)).length,a4,rfl,(New.pair (New.int aA) (New.pair (New.int aB) (New.mono aL b0))),bV⟩
 ·obtain⟨ae,bm,c⟩:=C0 c
  refine eX { vars:=[6],boxes:=[],owns:=[0],fuel:=true } (eX (λvs os d=>∃ g M n,vs.tail = [.int .i64 g]/\os = [M]/\Sub H d/\I0 g/\F2 (Wp.int.R d) M n/\I6 U (P1 vs) g n=some ae) (eX (λ_ _=>0) (aI (eX U0 ⟨0,[],([]:J0),rfl,rfl,(Sub.refl _),(by decide),(show F2 (Wp.int.R H) ([]:List (List Value)) ([]:J0) from trivial),bm⟩) ?_)))
  rintro _ M I aC ⟨g,cT,n,⟨⟩,⟨⟩,L,ax,u,a⟩
  replace a:I6 U I g n=some ae:=a
  obtain _|I:=I
  ·cases a
  rw[I6.eq_2]at a
  refine ifB a (λbr a=>?_) λbr a=>?_
  ·obtain⟨cC,bg,a⟩:=C0 a
   refine aI (T1 bg (by first|rw[F2.length u,F2.length (show F2 (Wp.int.R aC) ([[.int .i64 g]]:List (List Value)) [g] from⟨⟨rfl,ax⟩,trivial⟩)]|exact congrArg (·+1) (F2.length u))) ?_
   exact C2 I ⟨(IntKind.i64.wrap (g+1)),(M++([[.int .i64 g]]:List (List Value))),(n ++ [g]),rfl,rfl,L,(P0 _),(F2.append u (show F2 (Wp.int.R aC) ([[.int .i64 g]]:List (List Value)) [g] from⟨⟨rfl,ax⟩,trivial⟩)),a⟩
  ·obtain rfl:=oJ a
   try dsimp only[V0,Z0]at c
   obtain⟨af,bn,c⟩:=C0 c
   refine eX { vars:=[5],boxes:=[2],owns:=[],fuel:=true,pubs:=[5] } (eX (λvs os d=>∃(C:Option Addr) (S t:Nat) (A:J0) (k:Int) (i:Int) (D:Option Addr) (T E:Nat) (o:N0),vs.tail = [.slice C S t,.int .i64 k,.int .i64 i,.slice D T E]/\os = []/\Sub h d/\New M0 h d [.slice C S t] A/\I0 k/\I0 i/\New D0 h d [.slice D T E] o/\N5 (P1 vs) A k i o=some af) (eX (λ_ _=>0) ?_))
   intro cJ ch ap
   obtain⟨aY,a5,rfl,cH,aK,cs⟩:=H1.out (r:=Wp.int.toRp) ap u
   refine aI (eX U0 ⟨aY,n.length,a5,n,aO,aP,(some ⟨aq,0,none⟩),ab.length,am,ab,rfl,rfl,((X.trans L).trans aK),(New.from (H1.newPlain (r:=Wp.int) ap u (S0e _)) (X.trans L)),aA,aB,(New.mono aL (L.trans aK)),bn⟩) ?_
   rintro _ _ _ _ J ci ⟨C,S,t,A,k,i,D,T,E,o,⟨⟩,⟨⟩,cI,aM,F,G,aN,a⟩
   replace a:N5 J A k i o=some af:=a
   obtain _|J:=J
   ·cases a
   rw[N5.eq_2]at a
   have aG:=aM.r
   obtain⟨rfl,bH⟩:=Sl.len aG
   have K:=aN.r
   obtain⟨rfl,cn⟩:=Sl.len K
   refine trM a (q09 _ _ _ (z0 F G K) 0 (by decide)) ?_
   rintro aQ a cL bD ⟨ca,cy,ce,rfl,aJ,p⟩
   obtain⟨rfl,cp⟩:=Sl.len aJ
   obtain⟨ag,bo,a⟩:=C0 a
   refine eX { vars:=[8,9],boxes:=[],owns:=[],fuel:=true } (eX (λvs os d=>∃ l m,vs.tail = [.int .i64 l,.int .i64 m]/\os = []/\Sub bD d/\I0 l/\I0 m/\E4 i k o aQ (P1 vs) l m=some ag) (eX (λ_ _=>0) (aI (eX U0 ⟨0,1,rfl,rfl,(Sub.refl _),(by decide),(by decide),bo⟩) ?_)))
   rintro _ _ x Q ⟨l,m,⟨⟩,⟨⟩,j,bA,ay,b⟩
   replace b:E4 i k o aQ x l m=some ag:=b
   obtain _|x:=x
   ·cases b
   rw[E4.eq_2]at b
   refine ifB b (λbs b=>?_) λbs b=>?_
   ·refine trV b (J0d _ _ _ (z0 F G (D0.mono (p.trans j) K)) _ ay) λb6 b=>?_
    obtain⟨cD,bh,b⟩:=C0 b
    have cg:I0 b6:=K1 bh
    obtain⟨cQ,bk,b⟩:=C0 b
    obtain⟨cc,ao,bR⟩:=Sl.getG (r:=Wp.bool.toRp) ((Wp.slice Wp.bool).mono j aJ) bk (by decide) (X0r Q)
    refine aI (λq=>(ao q).1) ?_
    obtain rfl:=bR
    refine eX _ (aI (λq=>(ao q).2) ?_)
    refine ifB b (λbt b=>?_) λbt b=>?_
    ·exact C2 x ⟨m,(IntKind.i64.wrap (m+1)),rfl,rfl,j,ay,(P0 _),b⟩
    ·exact C2 x ⟨l,(IntKind.i64.wrap (m+1)),rfl,rfl,j,bA,(P0 _),b⟩
   ·obtain rfl:=oJ b
    try dsimp only[V0,Z0]at a
    refine ifB a (λbu a=>?_) λbu a=>?_
    ·obtain rfl:=oJ a
     try dsimp only[j4,L4]at c
     obtain rfl:=oJ c
     exact⟨([.int .i64 k,.int .i64 i,.slice D o.length E]),C,A.length,t,rfl,(New.pair (New.int F) (New.pair (New.int G) (New.mono aN (p.trans j)))),(M0.mono (p.trans j) aG)⟩
    ·obtain⟨ah,bp,a⟩:=C0 a
     refine eX { vars:=[11],boxes:=[],owns:=[1],fuel:=true } (eX (λvs os d=>∃ f B s,vs.tail = [.int .i64 f]/\os = [B]/\Sub Q d/\I0 f/\F2 (Wp.int.R d) B s/\M5 i l (P1 vs) f s=some ah) (eX (λ_ _=>0) (aI (eX U0 ⟨0,[],([]:J0),rfl,rfl,(Sub.refl _),(by decide),(show F2 (Wp.int.R Q) ([]:List (List Value)) ([]:J0) from trivial),bp⟩) ?_)))
     rintro _ B y aD ⟨f,cU,s,⟨⟩,⟨⟩,z,az,w,b⟩
     replace b:M5 i l y f s=some ah:=b
     obtain _|y:=y
     ·cases b
     rw[M5.eq_2]at b
     refine ifB b (λbv b=>?_) λbv b=>?_
     ·refine ifB b (λbx b=>?_) λbx b=>?_
      ·obtain⟨cE,bi,b⟩:=C0 b
       refine aI (T1 bi (by first|rw[F2.length w,F2.length (show F2 (Wp.int.R aD) ([[.int .i64 f]]:List (List Value)) [f] from⟨⟨rfl,az⟩,trivial⟩)]|exact congrArg (·+1) (F2.length w))) ?_
       exact C2 y ⟨(IntKind.i64.wrap (f+1)),(B++([[.int .i64 f]]:List (List Value))),(s ++ [f]),rfl,rfl,z,(P0 _),(F2.append w (show F2 (Wp.int.R aD) ([[.int .i64 f]]:List (List Value)) [f] from⟨⟨rfl,az⟩,trivial⟩)),b⟩
      ·exact C2 y ⟨(IntKind.i64.wrap (f+1)),B,s,rfl,rfl,z,(P0 _),w,b⟩
     ·obtain rfl:=oJ b
      try dsimp only[V0,Z0]at a
      refine Or.inl ?_
      intro cM bE be
      obtain⟨cb,cf,rfl,bW,Y,ct⟩:=H1.out (r:=Wp.int.toRp) be w
      refine trM a (J08 _ _ _ (z0 F G (D0.mono (((p.trans j).trans z).trans Y) K)) _ _ _ _ bW) ?_
      rintro cS a cN bF ⟨cd,rfl,Z⟩
      have bY:Sub bE bF:=Z.sub
      have bS:=Z.r
      obtain⟨b7,b8,aW,cz,a3,aR,rfl,rfl,bB,bC,bT⟩:=B0 bS
      obtain⟨rfl,cq⟩:=Sl.len bT
      try dsimp only at a
      have b3:=New.sndI (New.sndI (Z))
      obtain⟨ac,ar,a⟩:=C0 a
      obtain⟨ad,au,a⟩:=C0 a
      obtain⟨cG,bj,a⟩:=C0 a
      obtain⟨bN,a0,an,bl,bK,aS,aT,b1,b2,bb,bO,a1,cl,cv,bU,bZ,bI,bJ,aV⟩:=New.drop aM ((((p.trans j).trans z).trans Y).trans bY) ar au (k0s bH ar au)
      subst bb
      refine Or.inr (Or.inr (Or.inl (aI (aI (by kernel_rfl) (by kernel_rfl)) ?_)))
      refine Or.inl (eX (.val (.slice (some ⟨bl,bK,none⟩) ac.length t)) (aI ?_ ?_))
      ·intro O W
       obtain⟨vs,e⟩:=an O W
       exact aI a0 (eX vs (aI e (λv _ P=>aI (congrArg AV.val (bN v P)) (aI rfl rfl))))
      refine Or.inl (eX (.val (.slice aS ad.length aT)) (aI ?_ ?_))
      ·intro O W
       obtain⟨vs,e⟩:=an O W
       exact aI a1 (eX vs (aI e (λv _ P=>aI (congrArg AV.val (bO v P)) (aI rfl rfl))))
      refine Or.inr ?_
      refine Or.inl (eX 0 (aI (aI rfl rfl) ?_))
      refine eX b2 (aI bZ (eX b1 (aI bU (aI (T1 bj (by rw[bI,bJ])) ?_))))
      intro cP ck bq
      obtain⟨aa,⟨aZ,cA,a6,rfl⟩,bG⟩:=aV _ _ bq
      have bX:=aa.r
      obtain⟨bd,cu⟩:=Sl.len bX
      subst bd
      refine aI trivial (aI (by first|exact trivial|exact rfl) ?_)
      have b4:=bG R0.slice _ _ _ b3 (((p.trans j).trans z).trans Y)
      exact C2 J ⟨aZ,(ac++ad).length,a6,(ac++ad),b7,b8,aW,aR.length,a3,aR,rfl,rfl,aa.sub,aa,bB,bC,b4,a⟩
theorem U01(h:Hp)(n:List Value)(o:l0)(T:Y0.R h n o)(r:Bool)(a:G7 o=some r):
  Tr Tryz.prog 111 #[.agg n.toArray] h λv H=>v = .bool r/\H=h:=by
 obtain⟨Q,p,y,aC,A,S,rfl,rfl,f,g,b⟩:=B0 T
 obtain⟨rfl,ay⟩:=Sl.len b
 unfold G7 at a
 dsimp only at a
 refine Tr.forget (J2 (args:=[.agg #[.int .i64 Q,.int .i64 p,.slice y S.length A]]) (fn:=Tryz.f111) rfl ?_)
 refine trV a (K9 _ _ _ (z0 f g b)) λaJ a=>?_
 refine ifB a (λI a=>?_) λI a=>?_
 ·obtain rfl:=oJ a
  exact aI rfl (Sub.refl _)
 ·refine trM a (O06 _ _ _ (z0 f g b)) ?_
  rintro ac a aH O ⟨ai,ag,aE,al,rfl,m,s⟩
  obtain⟨aK,aN⟩:=ac
  dsimp only at a m s
  have l:Sub h O:=m.sub
  have U:=m.r
  obtain⟨aL,ad,af,aD,ak,aM,rfl,rfl,ap,aq,V⟩:=B0 U
  obtain⟨rfl,az⟩:=Sl.len V
  try dsimp only at a
  obtain⟨rfl,aA⟩:=Sl.len s
  refine Or.inr (Or.inr (Or.inr (Or.inl (aI (aI (by kernel_rfl) (by kernel_rfl)) ?_))))
  refine Or.inl (eX (.val (.bool (decide (ad=p)))) (aI ?_ ?_))
  ·intro av aG
   exact aI rfl (aI rfl rfl)
  obtain⟨ae,G,a⟩:=C0 a
  obtain⟨w,x,i⟩:=ae
  try dsimp only at a
  refine Or.inr (eX (λv J=>∃(c:Option Addr) (d:Nat),v = .agg #[.int .i64 w,.int .i64 x,.slice c i.length d]/\I0 w/\I0 x/\D0.R J [.slice c i.length d] i/\i.length<=9223372036854775807) (aI (λv an ao k q=>by obtain⟨c,d,e,D,E,f2,f3⟩:=q;exact⟨c,d,e,D,E,D0.mono k f2,f3⟩) (aI ?_ ?_)))
  ·intro aw Y j
   refine Tr.mono (a04 _ _ _ (z0 f g (D0.mono (l.trans Y) b)) _ (e00 G j)) ?_
   rintro _ ax ⟨aj,rfl,u⟩
   have k:=u.sub
   have W:=u.r
   obtain⟨aO,aP,z,aF,B,aQ,rfl,C,K,L,t⟩:=B0 W
   cases C
   obtain⟨rfl,P⟩:=Sl.len t
   exact aI o01 (aI k ⟨z,B,rfl,K,L,t,P⟩)
  obtain⟨ab,F,a⟩:=C0 a
  refine Or.inl (eX (.val (.bool ab)) (aI ?_ ?_))
  ·intro ar Z j
   rintro _ ⟨ah,am,rfl,M,N,X,aB⟩
   exact Tr.val (n00 _ _ _ (z0 M N X) _ _ (z0 f g (D0.mono (l.trans Z) b)) _ (e00 F j)) (aI rfl (aI rfl rfl))
  intro au aa
  obtain rfl:=oJ a
  exact aI rfl (l.trans aa)
theorem a06(h:Hp)(b:Int)(g:I0 b)(c:Int)(k:I0 c)(d:Int)(i:I0 d)(r:O0)(a:q01 b c d=some r):
  Tr Tryz.prog 203 #[.int .i64 b,.int .i64 c,.int .i64 d] h λv f=>∃(e:List Value),v = .agg e.toArray/\R0.R f e r/\Sub h f:=by
 unfold q01 at a
 refine J2 (args:=[.int .i64 b,.int .i64 c,.int .i64 d]) (fn:=Tryz.f203) rfl ?_
 refine ifB a (λj a=>?_) λj a=>?_
 ·obtain rfl:=oJ a
  exact⟨([.int .i64 d,.int .i64 (IntKind.i64.wrap (0-c)),.int .i64 b]),rfl,(E1 i (P0 _) g),(Sub.refl _)⟩
 ·obtain rfl:=oJ a
  exact⟨([.int .i64 b,.int .i64 c,.int .i64 d]),rfl,(E1 g k i),(Sub.refl _)⟩
theorem F9(h:Hp)(k:Option Addr)(p l:Nat)(d:N0)(s:D0.R h [.slice k p l] d)(o:List Value)(q:O0)(x:R0.R h o q)(r:Int)(b:L2 d q=some r):
  Tr Tryz.prog 202 #[.slice k p l,.agg o.toArray] h λv m=>v = .int .i64 r/\m=h:=by
 obtain⟨rfl,L⟩:=Sl.len s
 obtain⟨f,g,i,rfl,rfl,D,E,F⟩:=M1 x
 unfold L2 at b
 dsimp only at b
 refine Tr.forget (J2 (args:=[.slice k d.length l,.agg #[.int .i64 f,.int .i64 g,.int .i64 i]]) (fn:=Tryz.f202) rfl ?_)
 obtain⟨n,t,b⟩:=C0 b
 refine eX { vars:=[8],boxes:=[],owns:=[],fuel:=true } (eX (λvs os m=>∃ c,vs.tail = [.int .i64 c]/\os = []/\Sub h m/\I0 c/\I1 d f g i (P1 vs) c=some n) (eX (λ_ _=>0) (aI (eX U0 ⟨0,rfl,rfl,(Sub.refl _),(by decide),t⟩) ?_)))
 rintro _ e K ⟨c,⟨⟩,⟨⟩,j,G,a⟩
 replace a:I1 d f g i e c=some n:=a
 obtain _|e:=e
 ·cases a
 rw[I1.eq_2]at a
 refine ifB a (λu a=>?_) λu a=>?_
 ·refine Or.inl (aI (aI (by kernel_rfl) (by kernel_rfl)) ?_)
  refine ld a (D0.mono j s) λM C y a=>?_
  obtain⟨z,A,B,rfl,rfl,H,I,J⟩:=M1 y
  try dsimp only at a
  refine eX (eqE (f,g,i) (z,A,B)) (aI (l09 _ _ _ rfl _ _ _ _ _ _) ?_)
  refine ifB a (λw a=>?_) λw a=>?_
  ·obtain rfl:=oJ a
   try dsimp only[j4,L4]at b
   obtain rfl:=oJ b
   exact aI rfl j
  ·exact C2 e ⟨(IntKind.i64.wrap (c+1)),rfl,rfl,j,(P0 _),a⟩
 ·obtain rfl:=oJ a
  try dsimp only[V0,Z0]at b
  obtain rfl:=oJ b
  exact aI rfl j
theorem W01(h:Hp)(b:Option Addr)(f c:Nat)(d:N0)(i:D0.R h [.slice b f c] d)(e:List Value)(g:O0)(s:R0.R h e g)(r:Bool)(a:E3 d g=some r):
  Tr Tryz.prog 285 #[.slice b f c,.agg e.toArray] h λv k=>v = .bool r/\k=h:=by
 obtain⟨rfl,w⟩:=Sl.len i
 obtain⟨o,p,q,rfl,rfl,l,m,n⟩:=M1 s
 unfold E3 at a
 dsimp only at a
 refine Tr.forget (J2 (args:=[.slice b d.length c,.agg #[.int .i64 o,.int .i64 p,.int .i64 q]]) (fn:=Tryz.f285) rfl ?_)
 refine trV a (F9 _ _ _ _ _ i _ _ (E1 l m n)) λt a=>?_
 obtain⟨x,j,a⟩:=C0 a
 have u:I0 t:=K1 j
 obtain rfl:=oJ a
 exact aI rfl (Sub.refl _)
theorem R03(h:Hp)(c:Int)(l:I0 c)(e:Nat)(k:TypeId)(d:Int)(m:I0 d)(b:Int)(n:I0 b)(f:h e=some (.cells #[.int .i64 d,.int .i64 b] k (0,0)))(r:Int)(a:V6 c (d,b)=some r):
  Tr Tryz.prog 366 #[.int .i64 c,ptr e 0] h λv g=>v = .int .i64 r/\g=h:=by
 unfold V6 at a
 dsimp only at a
 refine Tr.forget (J2 (args:=[.int .i64 c,ptr e 0]) (fn:=Tryz.f366) rfl ?_)
 refine eX (.int .i64 b) (aI ⟨rfl,by simp[Hp.cell,(f)]⟩ ?_)
 refine ifB a (λi a=>?_) λi a=>?_
 ·refine eX (.int .i64 d) (aI ⟨rfl,by simp[Hp.cell,(f)]⟩ ?_)
  obtain rfl:=oJ a
  exact aI rfl (Sub.refl _)
 ·refine eX (.int .i64 b) (aI ⟨rfl,by simp[Hp.cell,(f)]⟩ ?_)
  refine ifB a (λj a=>?_) λj a=>?_
  ·obtain rfl:=oJ a
   exact aI rfl (Sub.refl _)
  ·obtain rfl:=oJ a
   exact aI rfl (Sub.refl _)
theorem K08(h:Hp)(T:List Value)(am:l0)(a2:Y0.R h T am)(s:Int)(W:I0 s)(C:Option Addr)(al D:Nat)(t:J0)(K:M0.R h [.slice C al D] t)(f:Int)(G:I0 f)(r:l0×Bool)(b:a01 am s t f=some r):
  Tr Tryz.prog 288 #[.agg T.toArray,.int .i64 s,.slice C al D,.int .i64 f] h λv y=>∃(S:List Value),v = .tuple #[.agg S.toArray,.bool r.2]/\New Y0 h y S r.1:=by
 obtain⟨aZ,a0,ax,bu,aB,a1,rfl,rfl,o,z,u⟩:=B0 a2
 obtain⟨rfl,bn⟩:=Sl.len u
 obtain⟨rfl,bo⟩:=Sl.len K
 unfold a01 at b
 dsimp only at b
 refine J2 (args:=[.agg #[.int .i64 aZ,.int .i64 a0,.slice ax a1.length aB],.int .i64 s,.slice C t.length D,.int .i64 f]) (fn:=Tryz.f288) rfl ?_
 refine trM b (W5 _ _ _ (z0 o z u)) ?_
 rintro bg b bG aV ⟨V,bv,U,rfl,B⟩
 have w:Sub h aV:=B.sub
 have ao:=B.r
 obtain⟨av,aw,P⟩:=bg
 dsimp only at b B ao
 obtain⟨_,_,_,_,_,_,aF,aG,Z,aa,a3⟩:=B0 ao
 cases aF
 cases aG
 obtain⟨rfl,bq⟩:=Sl.len a3
 try dsimp only at b
 have au:=New.sndI (New.sndI (B))
 refine trV b (l01 _ _ _ (z0 o z (D0.mono w u))) λbN b=>?_
 refine trG b (λq=>k01 _ _ _ (z0 o z (D0.mono w u)) _ W) λbO b=>?_
 refine trG b (λq=>k01 _ _ _ (z0 o z (D0.mono w u)) _ G) λbP b=>?_
 refine trG b (λq=>T01 _ _ o _ _ _ _ (M0.mono w K)) λbQ b=>?_
 refine ifB b (λaT b=>?_) λaT b=>?_
 ·obtain rfl:=oJ b
  exact⟨([.int .i64 av,.int .i64 aw,.slice (some ⟨V,0,none⟩) P.length U]),rfl,(New.pair (New.int Z) (New.pair (New.int aa) au))⟩
 ·obtain⟨Q,aO,b⟩:=C0 b
  refine eX { vars:=[11,66],boxes:=[2],owns:=[],fuel:=true } (eX (λvs os y=>∃ x g d c F J I E e,vs.tail = [.int .i64 x,.int .i64 g,.int .i64 d,.int .i64 c,.slice (some ⟨F,J,none⟩) I E]/\os = []/\Sub h y/\I0 x/\I0 g/\I0 d/\I0 c/\New D0 h y [.slice (some ⟨F,J,none⟩) I E] e/\W6 t f (P1 vs) x g d c e=some Q) (eX (λ_ _=>0) (aI (eX U0 ⟨s,0,av,aw,V,0,P.length,U,P,rfl,rfl,w,W,(by decide),Z,aa,au,aO⟩) ?_)))
  rintro _ _ _ _ _ p aU ⟨x,g,d,c,F,J,I,E,e,⟨⟩,⟨⟩,ap,X,bk,H,A,L,a⟩
  replace a:W6 t f p x g d c e=some Q:=a
  obtain _|p:=p
  ·cases a
  rw[W6.eq_2]at a
  have an:=L.r
  obtain⟨rfl,bp⟩:=Sl.len an
  refine ifB a (λaR a=>?_) λaR a=>?_
  ·refine ldI a (M0.mono ap K) λbK Y a=>?_
   refine ifB a (λaS a=>?_) λaS a=>?_
   ·refine Or.inr (Or.inr (Or.inl (aI (aI (by kernel_rfl) (by kernel_rfl)) ?_)))
    refine Or.inr ?_
    refine Or.inr ?_
    refine Or.inr ?_
    refine Or.inr ?_
    refine Or.inl (eX 1 (aI (aI rfl rfl) ?_))
    refine trM a (a06 _ _ X _ Y _ A) ?_
    rintro bL a bE ah ⟨bi,rfl,a4,aq⟩
    obtain⟨i,j,k,rfl,rfl,ab,ac,ad⟩:=M1 a4
    try dsimp only at a
    refine aI (aI rfl aq) (aI (by first|exact trivial|exact rfl) ?_)
    refine aI trivial (aI (by first|exact trivial|exact rfl) ?_)
    obtain⟨bB,aK,a⟩:=C0 a
    obtain⟨be,ba,aj,ay⟩:=New.app L aq
    refine eX be (aI ba (aI (T1 aK (by first|rw[aj,F2.length (show F2 (R0.R ah) ([[.int .i64 i,.int .i64 j,.int .i64 k]]:List (List Value)) [(i,j,k)] from⟨(E1 ab ac ad),trivial⟩)]|(rw[aj];rfl))) ?_))
    intro bI bl aP
    obtain⟨N,aM,aX,bz,aD,rfl⟩:=ay _ _ _ _ _ (F3.ofPlain (s07 _) (show F2 (R0.R ah) ([[.int .i64 i,.int .i64 j,.int .i64 k]]:List (List Value)) [(i,j,k)] from⟨(E1 ab ac ad),trivial⟩)) o6.ofPlain aP
    have bc:=N.r
    obtain⟨aH,bs⟩:=Sl.len bc
    subst aH
    refine aI trivial (aI (by first|exact trivial|exact rfl) ?_)
    refine aI trivial (aI (by first|exact trivial|exact rfl) ?_)
    exact C2 p ⟨c,(IntKind.i64.wrap (g+1)),d,(IntKind.i64.wrap (c+1)),aM,aX,(e ++ [(i,j,k)]).length,aD,(e ++ [(i,j,k)]),rfl,rfl,N.sub,A,(P0 _),H,(P0 _),N,a⟩
   ·refine Or.inr (Or.inr (Or.inl (aI (aI (by kernel_rfl) (by kernel_rfl)) ?_)))
    refine Or.inr ?_
    refine Or.inr ?_
    refine Or.inr ?_
    refine Or.inr ?_
    refine Or.inl (eX 1 (aI (aI rfl rfl) ?_))
    refine trM a (a06 _ _ X _ Y _ G) ?_
    rintro bM a bF ai ⟨bj,rfl,a5,ar⟩
    obtain⟨l,m,n,rfl,rfl,ae,af,ag⟩:=M1 a5
    try dsimp only at a
    refine aI (aI rfl ar) (aI (by first|exact trivial|exact rfl) ?_)
    refine aI trivial (aI (by first|exact trivial|exact rfl) ?_)
    obtain⟨bC,aL,a⟩:=C0 a
    obtain⟨bf,bb,ak,az⟩:=New.app L ar
    refine eX bf (aI bb (aI (T1 aL (by first|rw[ak,F2.length (show F2 (R0.R ai) ([[.int .i64 l,.int .i64 m,.int .i64 n]]:List (List Value)) [(l,m,n)] from⟨(E1 ae af ag),trivial⟩)]|(rw[ak];rfl))) ?_))
    intro bJ bm aQ
    obtain⟨O,aN,aY,bA,aE,rfl⟩:=az _ _ _ _ _ (F3.ofPlain (s07 _) (show F2 (R0.R ai) ([[.int .i64 l,.int .i64 m,.int .i64 n]]:List (List Value)) [(l,m,n)] from⟨(E1 ae af ag),trivial⟩)) o6.ofPlain aQ
    have bd:=O.r
    obtain⟨aJ,bt⟩:=Sl.len bd
    subst aJ
    refine aI trivial (aI (by first|exact trivial|exact rfl) ?_)
    refine aI trivial (aI (by first|exact trivial|exact rfl) ?_)
    exact C2 p ⟨f,(IntKind.i64.wrap (g+1)),d,c,aN,aY,(e ++ [(l,m,n)]).length,aE,(e ++ [(l,m,n)]),rfl,rfl,O.sub,G,(P0 _),H,A,O,a⟩
  ·obtain rfl:=oJ a
   try dsimp only[V0,Z0]at b
   refine trM b (d03 _ _ _ _ _ an) ?_
   rintro bh b bH aW ⟨aA,bx,aC,rfl,M⟩
   have bD:Sub aU aW:=M.sub
   have a6:=M.r
   obtain⟨rfl,br⟩:=Sl.len a6
   obtain rfl:=oJ b
   exact⟨([.int .i64 d,.int .i64 c,.slice aA bh.length aC]),rfl,(New.pair (New.int H) (New.pair (New.int A) (New.from M ap)))⟩
theorem K0d(h:Hp)(b:Int)(d:I0 b)(r:l0×Bool)(a:G01 b=some r):
  Tr Tryz.prog 282 #[.int .i64 b] h λv e=>∃(c:List Value),v = .tuple #[.agg c.toArray,.bool r.2]/\New Y0 h e c r.1:=by
 unfold G01 at a
 refine J2 (args:=[.int .i64 b]) (fn:=Tryz.f282) rfl ?_
 refine trV a (V9 _ _ d 1 (by decide) 3 (by decide)) λg a=>?_
 refine ifB a (λf a=>?_) λf a=>?_
 ·obtain rfl:=oJ a
  exact⟨([.int .i64 0,.int .i64 0,.slice none 0 0]),rfl,(New.pair (New.int (by decide)) (New.pair (New.int (by decide)) ((New.nilSlice (r:=R0)).mono (Sub.refl _))))⟩
 ·obtain rfl:=oJ a
  exact⟨([.int .i64 b,.int .i64 1,.slice none 0 0]),rfl,(New.pair (New.int d) (New.pair (New.int (by decide)) ((New.nilSlice (r:=R0)).mono (Sub.refl _))))⟩
theorem F07(h:Hp)(g:List Value)(j:l0)(B:Y0.R h g j)(c:Option Addr)(i d:Nat)(e:J0)(l:M0.R h [.slice c i d] e)(r:l0×Bool)(a:y00 j e=some r):
  Tr Tryz.prog 206 #[.agg g.toArray,.slice c i d] h λv q=>∃(f:List Value),v = .tuple #[.agg f.toArray,.bool r.2]/\New Y0 h q f r.1:=by
 obtain⟨y,z,m,N,o,A,rfl,rfl,s,t,k⟩:=B0 B
 obtain⟨rfl,K⟩:=Sl.len k
 obtain⟨rfl,L⟩:=Sl.len l
 unfold y00 at a
 dsimp only at a
 refine J2 (args:=[.agg #[.int .i64 y,.int .i64 z,.slice m A.length o],.slice c e.length d]) (fn:=Tryz.f206) rfl ?_
 refine trM a (K08 _ _ _ (z0 s t k) 0 (by decide) _ _ _ _ l 0 (by decide)) ?_
 rintro F a Q x ⟨J,rfl,b⟩
 obtain⟨S,T⟩:=F
 dsimp only at a b
 have P:Sub h x:=b.sub
 have C:=b.r
 obtain⟨G,H,n,O,p,I,rfl,rfl,u,w,D⟩:=B0 C
 obtain⟨rfl,M⟩:=Sl.len D
 try dsimp only at a
 have E:=New.sndI (New.sndI (b))
 obtain rfl:=oJ a
 exact⟨([.int .i64 G,.int .i64 H,.slice n I.length p]),rfl,(New.pair (New.int u) (New.pair (New.int w) E))⟩
theorem L0d(h:Hp)(l:Int)(B:I0 l)(p:Option Addr)(D q:Nat)(j:Y1)(w:Z1.R h [.slice p D q] j)(r:l0×Bool)(b:H01 l j=some r):
  Tr Tryz.prog 195 #[.int .i64 l,.slice p D q] h λv k=>∃(A:List Value),v = .tuple #[.agg A.toArray,.bool r.2]/\New Y0 h k A r.1:=by
 obtain⟨rfl,aq⟩:=Sl.len w
 unfold H01 at b
 refine J2 (args:=[.int .i64 l,.slice p j.length q]) (fn:=Tryz.f195) rfl ?_
 refine trV b (C0d _ _ B _ _ _ _ w) λaC b=>?_
 refine ifB b (λP b=>?_) λP b=>?_
 ·obtain rfl:=oJ b
  exact⟨([.int .i64 0,.int .i64 0,.slice none 0 0]),rfl,(New.pair (New.int (by decide)) (New.pair (New.int (by decide)) ((New.nilSlice (r:=R0)).mono (Sub.refl _))))⟩
 ·refine trM b (K0d _ _ B) ?_
  rintro ah b aB C ⟨an,rfl,o⟩
  obtain⟨aG,aH⟩:=ah
  dsimp only at b o
  have F:Sub h C:=o.sub
  have Z:=o.r
  obtain⟨ai,aj,J,az,L,H,rfl,rfl,T,U,aa⟩:=B0 Z
  obtain⟨rfl,aw⟩:=Sl.len aa
  try dsimp only at b
  have ad:=New.sndI (New.sndI (o))
  obtain⟨z,M,b⟩:=C0 b
  refine eX { vars:=[22],boxes:=[1],owns:=[],fuel:=true } (eX (λvs os k=>∃ u8 e c f u g d,vs.tail = [.int .i64 u8,.int .i64 e,.int .i64 c,.slice f u g]/\os = []/\Sub C k/\I0 u8/\I0 e/\I0 c/\New D0 h k [.slice f u g] d/\t6 j (P1 vs) u8 e c d=some z) (eX (λ_ _=>0) (aI (eX U0 ⟨0,ai,aj,J,H.length,L,H,rfl,rfl,(Sub.refl _),(by decide),T,U,ad,M⟩) ?_)))
  rintro _ _ _ _ i V ⟨u8,e,c,f,u,g,d,⟨⟩,⟨⟩,m,ap,t,s,y,a⟩
  replace a:t6 j i u8 e c d=some z:=a
  obtain _|i:=i
  ·cases a
  rw[t6.eq_2]at a
  have E:=y.r
  obtain⟨rfl,ar⟩:=Sl.len E
  refine ifB a (λN a=>?_) λN a=>?_
  ·refine ld a (Z1.mono (F.trans m) w) λaD al x a=>?_
   obtain⟨ak,ax,ao,rfl⟩:=Wp.slice_cell x
   obtain⟨rfl,au⟩:=Sl.len x
   refine ifB a (λO a=>?_) λO a=>?_
   ·refine trM a (F07 _ _ _ (z0 t s E) _ _ _ _ x) ?_
    rintro ae a aA W ⟨am,rfl,n⟩
    obtain⟨aE,aF⟩:=ae
    dsimp only at a n
    have ab:Sub V W:=n.sub
    have X:=n.r
    obtain⟨af,ag,I,ay,K,G,rfl,rfl,Q,S,Y⟩:=B0 X
    obtain⟨rfl,av⟩:=Sl.len Y
    try dsimp only at a
    have ac:=New.sndI (New.sndI (n))
    exact C2 i ⟨(IntKind.i64.wrap (u8+1)),af,ag,I,G.length,K,G,rfl,rfl,(m.trans ab),(P0 _),Q,S,(New.from ac (F.trans m)),a⟩
   ·exact C2 i ⟨(IntKind.i64.wrap (u8+1)),e,c,f,d.length,g,d,rfl,rfl,m,(P0 _),t,s,y,a⟩
  ·obtain rfl:=oJ a
   try dsimp only[V0,Z0]at b
   obtain rfl:=oJ b
   exact⟨([.int .i64 e,.int .i64 c,.slice f d.length g]),rfl,(New.pair (New.int t) (New.pair (New.int s) y))⟩
theorem O0i(h:Hp)(H:List Value)(K:l0)(an:Y0.R h H K)(r:l9)(u:O03 K=some r):
  Tr Tryz.prog 365 #[.agg H.toArray] h λv o=>∃(F:Option Addr) (J G:Nat),v = .slice F J G/\k0i.R o [.slice F J G] r/\Sub h o:=by
 obtain⟨ak,al,O,aL,Q,B,rfl,rfl,aA,aB,C⟩:=B0 an
 obtain⟨rfl,aH⟩:=Sl.len C
 unfold O03 at u
 dsimp only at u
 refine J2 (args:=[.agg #[.int .i64 ak,.int .i64 al,.slice O B.length Q]]) (fn:=Tryz.f365) rfl ?_
 obtain⟨D,aa,u⟩:=C0 u
 refine eX { vars:=[12],boxes:=[],owns:=[0],fuel:=true } (eX (λvs os o=>∃ w A x,vs.tail = [.int .i64 w]/\os = [A]/\Sub h o/\I0 w/\F2 (C5.R o) A x/\t9 B (P1 vs) w x=some D) (eX (λ_ _=>0) (aI (eX U0 ⟨0,[],([]:l9),rfl,rfl,(Sub.refl _),(by decide),(show F2 (C5.R h) ([]:List (List Value)) ([]:l9) from trivial),aa⟩) ?_)))
 rintro _ A y aj ⟨w,aU,x,⟨⟩,⟨⟩,z,aD,I,f⟩
 replace f:t9 B y w x=some D:=f
 obtain _|y:=y
 ·cases f
 rw[t9.eq_2]at f
 refine ifB f (λah f=>?_) λah f=>?_
 ·refine ld f (D0.mono z C) λaS ay ap f=>?_
  obtain⟨c,M,a,rfl,rfl,q,aF,j⟩:=M1 ap
  try dsimp only at f
  obtain⟨N,Z,f⟩:=C0 f
  obtain⟨am,au,T,V⟩:=Sl.cutI (r:=R0.toRp) (D0.mono z C) Z
  refine aI am (eX au (aI T ?_))
  intro av ai _
  obtain⟨aw,az,rfl,L⟩:=V av ai
  have aJ:=(Sl.len L).2
  obtain⟨E,ab,f⟩:=C0 f
  refine eX { vars:=[23],boxes:=[],owns:=[0],fuel:=true } (eX (λvs os o=>∃ k n l,vs.tail = [.int .i64 k]/\os = [n]/\Sub aj o/\I0 k/\F2 (C5.R o) n l/\G5 N M c a (P1 vs) k l=some E) (eX (λ_ _=>0) (aI (eX U0 ⟨0,A,x,rfl,rfl,(Sub.refl _),(by decide),I,ab⟩) ?_)))
  rintro _ n s m ⟨k,aT,l,⟨⟩,⟨⟩,t,aC,g,e⟩
  replace e:G5 N M c a s k l=some E:=e
  obtain _|s:=s
  ·cases e
  rw[G5.eq_2]at e
  refine ifB e (λac e=>?_) λac e=>?_
  ·refine ld e (D0.mono t L) λaQ ax ao e=>?_
   obtain⟨d,aR,b,rfl,rfl,p,aE,i⟩:=M1 ao
   try dsimp only at e
   refine ifB e (λad e=>?_) λad e=>?_
   ·exact C2 s ⟨(IntKind.i64.wrap (k+1)),n,l,rfl,rfl,t,(P0 _),g,e⟩
   ·refine ifB e (λae e=>?_) λae e=>?_
    ·obtain⟨aM,W,e⟩:=C0 e
     refine aI (T1 W (by first|rw[F2.length g,F2.length (show F2 (C5.R m) ([[.int .i64 (if b<a then b else a),.int .i64 (if b>a then b else a)]]:List (List Value)) [((if b<a then b else a),(if b>a then b else a))] from⟨(Q2 (Y8 i j) (Y8 i j)),trivial⟩)]|exact congrArg (·+1) (F2.length g))) ?_
     refine ifB e (λaf e=>?_) λaf e=>?_
     ·obtain⟨aN,X,e⟩:=C0 e
      refine aI (T1 X (by first|rw[F2.length (F2.append g (show F2 (C5.R m) ([[.int .i64 (if b<a then b else a),.int .i64 (if b>a then b else a)]]:List (List Value)) [((if b<a then b else a),(if b>a then b else a))] from⟨(Q2 (Y8 i j) (Y8 i j)),trivial⟩)),F2.length (show F2 (C5.R m) ([[.int .i64 (if d<c then d else c),.int .i64 (if d>c then d else c)]]:List (List Value)) [((if d<c then d else c),(if d>c then d else c))] from⟨(Q2 (Y8 p q) (Y8 p q)),trivial⟩)]|exact congrArg (·+1) (F2.length (F2.append g (show F2 (C5.R m) ([[.int .i64 (if b<a then b else a),.int .i64 (if b>a then b else a)]]:List (List Value)) [((if b<a then b else a),(if b>a then b else a))] from⟨(Q2 (Y8 i j) (Y8 i j)),trivial⟩))))) ?_
      exact C2 s ⟨(IntKind.i64.wrap (k+1)),((n++([[.int .i64 (if b<a then b else a),.int .i64 (if b>a then b else a)]]:List (List Value)))++([[.int .i64 (if d<c then d else c),.int .i64 (if d>c then d else c)]]:List (List Value))),((l ++ [((if b<a then b else a),(if b>a then b else a))]) ++ [((if d<c then d else c),(if d>c then d else c))]),rfl,rfl,t,(P0 _),(F2.append (F2.append g (show F2 (C5.R m) ([[.int .i64 (if b<a then b else a),.int .i64 (if b>a then b else a)]]:List (List Value)) [((if b<a then b else a),(if b>a then b else a))] from⟨(Q2 (Y8 i j) (Y8 i j)),trivial⟩)) (show F2 (C5.R m) ([[.int .i64 (if d<c then d else c),.int .i64 (if d>c then d else c)]]:List (List Value)) [((if d<c then d else c),(if d>c then d else c))] from⟨(Q2 (Y8 p q) (Y8 p q)),trivial⟩)),e⟩
     ·exact C2 s ⟨(IntKind.i64.wrap (k+1)),(n++([[.int .i64 (if b<a then b else a),.int .i64 (if b>a then b else a)]]:List (List Value))),(l ++ [((if b<a then b else a),(if b>a then b else a))]),rfl,rfl,t,(P0 _),(F2.append g (show F2 (C5.R m) ([[.int .i64 (if b<a then b else a),.int .i64 (if b>a then b else a)]]:List (List Value)) [((if b<a then b else a),(if b>a then b else a))] from⟨(Q2 (Y8 i j) (Y8 i j)),trivial⟩)),e⟩
    ·refine ifB e (λag e=>?_) λag e=>?_
     ·obtain⟨aO,Y,e⟩:=C0 e
      refine aI (T1 Y (by first|rw[F2.length g,F2.length (show F2 (C5.R m) ([[.int .i64 (if d<c then d else c),.int .i64 (if d>c then d else c)]]:List (List Value)) [((if d<c then d else c),(if d>c then d else c))] from⟨(Q2 (Y8 p q) (Y8 p q)),trivial⟩)]|exact congrArg (·+1) (F2.length g))) ?_
      exact C2 s ⟨(IntKind.i64.wrap (k+1)),(n++([[.int .i64 (if d<c then d else c),.int .i64 (if d>c then d else c)]]:List (List Value))),(l ++ [((if d<c then d else c),(if d>c then d else c))]),rfl,rfl,t,(P0 _),(F2.append g (show F2 (C5.R m) ([[.int .i64 (if d<c then d else c),.int .i64 (if d>c then d else c)]]:List (List Value)) [((if d<c then d else c),(if d>c then d else c))] from⟨(Q2 (Y8 p q) (Y8 p q)),trivial⟩)),e⟩
     ·exact C2 s ⟨(IntKind.i64.wrap (k+1)),n,l,rfl,rfl,t,(P0 _),g,e⟩
  ·obtain rfl:=oJ e
   try dsimp only[V0,Z0]at f
   exact C2 y ⟨(IntKind.i64.wrap (w+1)),n,l,rfl,rfl,(z.trans t),(P0 _),g,f⟩
 ·obtain rfl:=oJ f
  try dsimp only[V0,Z0]at u
  intro aP aG U
  obtain⟨P,S,rfl,aq,ar,aK⟩:=H1.out (r:=C5.toRp) U I
  obtain rfl:=oJ u
  exact⟨P,x.length,S,rfl,aq,(z.trans ar)⟩
theorem J0c(h:Hp)(d:List Value)(i:l0)(w:Y0.R h d i)(r:Y5×Bool)(a:a00 i=some r):
  Tr Tryz.prog 346 #[.agg d.toArray] h λv e=>∃(c:List Value),v = .tuple #[.agg c.toArray,.bool r.2]/\C5.R e c r.1/\Sub h e:=by
 obtain⟨s,t,l,G,m,u,rfl,rfl,f,g,b⟩:=B0 w
 obtain⟨rfl,E⟩:=Sl.len b
 unfold a00 at a
 dsimp only at a
 refine J2 (args:=[.agg #[.int .i64 s,.int .i64 t,.slice l u.length m]]) (fn:=Tryz.f346) rfl ?_
 refine trV a (l01 _ _ _ (z0 f g b)) λJ a=>?_
 refine ifB a (λn a=>?_) λn a=>?_
 ·obtain rfl:=oJ a
  exact⟨([.int .i64 0,.int .i64 0]),rfl,(Q2 (by decide) (by decide)),(Sub.refl _)⟩
 ·refine trM a (O0i _ _ _ (z0 f g b)) ?_
  rintro K a I D ⟨A,H,C,rfl,j,k⟩
  obtain⟨rfl,F⟩:=Sl.len j
  refine ifB a (λo a=>?_) λo a=>?_
  ·obtain rfl:=oJ a
   exact⟨([.int .i64 0,.int .i64 0]),rfl,(Q2 (by decide) (by decide)),k⟩
  ·refine ld a j λL B x a=>?_
   obtain⟨y,z,rfl,rfl,p,q⟩:=K03 x
   try dsimp only at a
   obtain rfl:=oJ a
   exact⟨([.int .i64 y,.int .i64 z]),rfl,(Q2 p q),k⟩
theorem L08(h:Hp)(C:List Value)(L:l0)(az:Y0.R h C L)(D:List Value)(M:Y5)(aA:C5.R h D M)(r:l0×Bool)(b:Y7 L M=some r):
  Tr Tryz.prog 347 #[.agg C.toArray,.agg D.toArray] h λv i=>∃(B:List Value),v = .tuple #[.agg B.toArray,.bool r.2]/\New Y0 h i B r.1:=by
 obtain⟨aw,ax,T,aY,W,ay,rfl,rfl,F,G,u⟩:=B0 az
 obtain⟨rfl,aV⟩:=Sl.len u
 obtain⟨d,f,rfl,rfl,H,I⟩:=K03 aA
 unfold Y7 at b
 dsimp only at b
 refine J2 (args:=[.agg #[.int .i64 aw,.int .i64 ax,.slice T ay.length W],.agg #[.int .i64 d,.int .i64 f]]) (fn:=Tryz.f347) rfl ?_
 refine trM b (W5 _ _ _ (z0 F G u)) ?_
 rintro aJ b a6 K ⟨p,aZ,E,rfl,o⟩
 have O:Sub h K:=o.sub
 have N:=o.r
 obtain⟨Q,S,l⟩:=aJ
 dsimp only at b o N
 obtain⟨_,_,_,_,_,_,Y,Z,J,an,aC⟩:=B0 N
 cases Y
 cases Z
 obtain⟨rfl,aW⟩:=Sl.len aC
 try dsimp only at b
 have x:=New.sndI (New.sndI (o))
 refine trV b (l01 _ _ _ (z0 F G (D0.mono O u))) λbi b=>?_
 refine ifB b (λah b=>?_) λah b=>?_
 ·obtain rfl:=oJ b
  exact⟨([.int .i64 Q,.int .i64 S,.slice (some ⟨p,0,none⟩) l.length E]),rfl,(New.pair (New.int J) (New.pair (New.int an) x))⟩
 ·intro c s
  have aa:(Hp.set K c (.cells #[.int .i64 d,.int .i64 f] 246 (0,0))) c=some (.cells #[.int .i64 d,.int .i64 f] 246 (0,0)):=Hp.set_same _ _ _
  have av:c≠p:=λe=>New.blk x (Sub.refl _) (e▸s)
  obtain⟨A,af,b⟩:=C0 b
  refine eX { vars:=[39],boxes:=[],owns:=[],fuel:=true } (eX (λvs os i=>∃ g j,vs.tail = [.int .i64 g]/\os = []/\Sub h i/\I0 g/\New D0 h i [.slice (some ⟨p,0,none⟩) l.length E] j/\i c=some (.cells #[.int .i64 d,.int .i64 f] 246 (0,0))/\R4 l d f (P1 vs) g j=some A) (eX (λ_ _=>0) (aI (eX U0 ⟨0,l,rfl,rfl,(O.trans (Sub.set s)),(by decide),(New.mono x (Sub.set s)),aa,af⟩) ?_)))
  rintro _ n ap ⟨g,j,⟨⟩,⟨⟩,aH,aO,P,t,a⟩
  replace a:R4 l d f n g j=some A:=a
  obtain _|n:=n
  ·cases a
  rw[R4.eq_2]at a
  have w:=P.r
  refine ifB a (λag a=>?_) λag a=>?_
  ·refine ld a w λbb aL aB a=>?_
   obtain⟨bc,z,bd,rfl,rfl,aj,ak,al⟩:=M1 aB
   try dsimp only at a
   refine Or.inr (Or.inr (Or.inl (aI (aI (by kernel_rfl) (by kernel_rfl)) ?_)))
   obtain⟨k,ad,a⟩:=C0 a
   obtain⟨a1,ab,a⟩:=C0 a
   have am:I0 k:=K1 ab
   refine Or.inl (eX (.val (.int .i64 k)) (aI ?_ ?_))
   ·intro aS aF
    exact Tr.val (R03 _ _ aj c 246 _ H _ I (aF _ _ t) _ ad) (aI rfl (aI rfl rfl))
   obtain⟨m,ae,a⟩:=C0 a
   obtain⟨a2,ac,a⟩:=C0 a
   have ao:I0 m:=K1 ac
   refine Or.inl (eX (.val (.int .i64 m)) (aI ?_ ?_))
   ·intro aT aG
    exact Tr.val (R03 _ _ al c 246 _ H _ I (aG _ _ t) _ ae) (aI rfl (aI rfl rfl))
   refine Or.inl (eX (.agg [.val (.int .i64 k),.val (.int .i64 z),.val (.int .i64 m)]) (aI ?_ ?_))
   ·intro aU a4
    exact aI rfl (aI rfl rfl)
   refine Or.inr ?_
   refine Or.inr ?_
   refine Or.inl (eX 0 (aI (aI rfl rfl) ?_))
   obtain⟨be,q,a⟩:=C0 a
   obtain⟨V,aM,aN,aD⟩:=Sl.getI (r:=R0.toRp) w q (by decide)
   refine aI V ?_
   obtain⟨bf,bg,bh,rfl,rfl,aP,aQ,aR⟩:=M1 aD
   try dsimp only at a
   refine aI trivial (aI (by first|exact trivial|exact rfl) ?_)
   refine New.put (r:=R0) P (Sub.refl _) (n0r q).1 (new:=[.int .i64 k,.int .i64 z,.int .i64 m]) (By:=[]) (s07 _ _ _ (E1 am ak ao)) (o6.nil _) rfl (n0r q).2 ?_
   intro aq w28 au _
   have a3:=w28.r
   have ai:aq c=some (.cells #[.int .i64 d,.int .i64 f] 246 (0,0)):=(au c av).trans t
   refine aI trivial (aI (by first|exact trivial|exact rfl) ?_)
   exact C2 n ⟨(IntKind.i64.wrap (g+1)),(j.set g.toNat (k,z,m)),rfl,rfl,w28.sub,(P0 _),w28,(ai),a⟩
  ·obtain rfl:=oJ a
   try dsimp only[V0,Z0]at b
   refine trM b (d03 _ _ _ _ _ w) ?_
   rintro aK b ba ar ⟨U,a0,X,rfl,y⟩
   have a5:Sub ap ar:=y.sub
   have aE:=y.r
   obtain⟨rfl,aX⟩:=Sl.len aE
   obtain rfl:=oJ b
   exact⟨([.int .i64 Q,.int .i64 (IntKind.i64.wrap (S-1)),.slice U aK.length X]),rfl,(New.pair (New.int J) (New.pair (New.int (P0 _)) (New.from y aH)))⟩
theorem M0d(h:Hp)(k:List Value)(p:l0)(M:Y0.R h k p)(r:l0×Y5×Bool)(a:I01 p=some r):
  Tr Tryz.prog 331 #[.agg k.toArray] h λv l=>∃(i:List Value) (j:List Value),v = .tuple #[.agg i.toArray,.agg j.toArray,.bool r.2.2]/\New Y0 h l i r.1/\C5.R l j r.2.1:=by
 obtain⟨J,K,t,aj,w,L,rfl,rfl,f,g,b⟩:=B0 M
 obtain⟨rfl,ag⟩:=Sl.len b
 unfold I01 at a
 dsimp only at a
 refine J2 (args:=[.agg #[.int .i64 J,.int .i64 K,.slice t L.length w]]) (fn:=Tryz.f331) rfl ?_
 refine trM a (J0c _ _ _ (z0 f g b)) ?_
 rintro T a ap o ⟨ae,rfl,q,c⟩
 obtain⟨ar,au⟩:=T
 dsimp only at a q
 obtain⟨U,V,rfl,rfl,m,n⟩:=K03 q
 try dsimp only at a
 refine ifB a (λC a=>?_) λC a=>?_
 ·refine trM a (W5 _ _ _ (z0 f g (D0.mono c b))) ?_
  rintro W a aq I ⟨B,ak,x,rfl,d⟩
  have am:Sub o I:=d.sub
  have s:=d.r
  obtain⟨X,Y,Z⟩:=W
  dsimp only at a d s
  obtain⟨_,_,_,_,_,_,z,A,D,E,N⟩:=B0 s
  cases z
  cases A
  obtain⟨rfl,ah⟩:=Sl.len N
  try dsimp only at a
  have S:=New.sndI (New.sndI (d))
  obtain rfl:=oJ a
  exact⟨([.int .i64 X,.int .i64 Y,.slice (some ⟨B,0,none⟩) Z.length x]),([.int .i64 0,.int .i64 0]),rfl,(New.pair (New.int D) (New.pair (New.int E) (New.from S c))),(Q2 (by decide) (by decide))⟩
 ·refine trM a (L08 _ _ _ (z0 f g (D0.mono c b)) _ _ (Q2 m n)) ?_
  rintro aa a ao H ⟨af,rfl,e⟩
  obtain⟨av,aw⟩:=aa
  dsimp only at a e
  have an:Sub o H:=e.sub
  have O:=e.r
  obtain⟨ab,ac,u,al,y,ad,rfl,rfl,F,G,P⟩:=B0 O
  obtain⟨rfl,ai⟩:=Sl.len P
  try dsimp only at a
  have Q:=New.sndI (New.sndI (e))
  refine Or.inr (Or.inr (Or.inl (aI (aI (by kernel_rfl) (by kernel_rfl)) ?_)))
  refine Or.inr ?_
  refine Or.inr ?_
  refine Or.inl (eX 0 (aI (aI rfl rfl) ?_))
  refine aI trivial (aI (by first|exact trivial|exact rfl) ?_)
  refine aI trivial (aI (by first|exact trivial|exact rfl) ?_)
  obtain rfl:=oJ a
  exact⟨([.int .i64 ab,.int .i64 ac,.slice u ad.length y]),([.int .i64 U,.int .i64 V]),rfl,(New.pair (New.int F) (New.pair (New.int G) (New.from Q c))),(Q2 m n)⟩
theorem c0g(h:Hp)(A:List Value)(G:l0)(ao:Y0.R h A G)(r:l0×l9)(b:q02 G=some r):
  Tr Tryz.prog 283 #[.agg A.toArray] h λv c=>∃(z:List Value) (x:Option Addr) (F y:Nat),v = .tuple #[.agg z.toArray,.slice x F y]/\New Y0 h c z r.1/\k0i.R c [.slice x F y] r.2:=by
 obtain⟨al,am,P,aO,T,an,rfl,rfl,ae,af,H⟩:=B0 ao
 obtain⟨rfl,aJ⟩:=Sl.len H
 unfold q02 at b
 dsimp only at b
 refine J2 (args:=[.agg #[.int .i64 al,.int .i64 am,.slice P an.length T]]) (fn:=Tryz.f283) rfl ?_
 refine trM b (W5 _ _ _ (z0 ae af H)) ?_
 rintro az b aU t ⟨ab,aQ,V,rfl,p⟩
 have av:Sub h t:=p.sub
 have J:=p.r
 obtain⟨aD,aE,O⟩:=az
 dsimp only at b p J
 obtain⟨_,_,_,_,_,_,X,Y,ai,aj,ar⟩:=B0 J
 cases X
 cases Y
 obtain⟨rfl,aM⟩:=Sl.len ar
 try dsimp only at b
 have ay:=New.sndI (New.sndI (p))
 obtain⟨w,ac,b⟩:=C0 b
 refine eX { vars:=[],boxes:=[2],owns:=[0],fuel:=true } (eX (λvs os c=>∃ e f k u l u8 o g,vs.tail = [.int .i64 e,.int .i64 f,.slice k u l]/\os = [o]/\Sub t c/\I0 e/\I0 f/\New D0 h c [.slice k u l] u8/\F2 (C5.R c) o g/\Z7 (P1 vs) e f u8 g=some w) (eX (λ_ _=>0) (aI (eX U0 ⟨aD,aE,(some ⟨ab,0,none⟩),O.length,V,O,[],([]:l9),rfl,rfl,(Sub.refl _),ai,aj,ay,(show F2 (C5.R t) ([]:List (List Value)) ([]:l9) from trivial),ac⟩) ?_)))
 rintro _ _ _ o n ak ⟨e,f,k,u,l,u8,aY,g,⟨⟩,⟨⟩,L,B,C,M,m,a⟩
 replace a:Z7 n e f u8 g=some w:=a
 obtain _|n:=n
 ·cases a
 rw[Z7.eq_2]at a
 have I:=M.r
 obtain⟨rfl,aK⟩:=Sl.len I
 refine trM a (M0d _ _ _ (z0 B C I)) ?_
 rintro aA a aS s ⟨aF,aG,rfl,q,K⟩
 obtain⟨aV,aW,aX⟩:=aA
 dsimp only at a q K
 have d:Sub ak s:=q.sub
 have ap:=q.r
 obtain⟨aB,aC,Q,aP,U,N,rfl,rfl,ag,ah,aq⟩:=B0 ap
 obtain⟨rfl,aL⟩:=Sl.len aq
 try dsimp only at a
 have ax:=New.sndI (New.sndI (q))
 obtain⟨i,j,rfl,rfl,D,E⟩:=K03 K
 try dsimp only at a
 refine ifB a (λad a=>?_) λad a=>?_
 ·intro aT aH Z
  obtain⟨S,W,rfl,au,aw,aN⟩:=H1.out (r:=C5.toRp) Z (F2.up (r:=C5.toRp) d m)
  obtain rfl:=oJ a
  try dsimp only[j4,L4]at b
  obtain rfl:=oJ b
  exact⟨([.int .i64 e,.int .i64 f,.slice k u8.length l]),S,g.length,W,rfl,(New.pair (New.int B) (New.pair (New.int C) (New.mono M (d.trans aw)))),au⟩
 ·obtain⟨aR,aa,a⟩:=C0 a
  refine aI (T1 aa (by first|rw[F2.length (F2.up (r:=C5.toRp) d m),F2.length (show F2 (C5.R s) ([[.int .i64 i,.int .i64 j]]:List (List Value)) [(i,j)] from⟨(Q2 D E),trivial⟩)]|exact congrArg (·+1) (F2.length (F2.up (r:=C5.toRp) d m)))) ?_
  exact C2 n ⟨aB,aC,Q,N.length,U,N,(o++([[.int .i64 i,.int .i64 j]]:List (List Value))),(g ++ [(i,j)]),rfl,rfl,(L.trans d),ag,ah,(New.from ax (av.trans L)),(F2.append (F2.up (r:=C5.toRp) d m) (show F2 (C5.R s) ([[.int .i64 i,.int .i64 j]]:List (List Value)) [(i,j)] from⟨(Q2 D E),trivial⟩)),a⟩
theorem K0c(h:Hp)(e:List Value)(l:l0)(E:Y0.R h e l)(r:l0×Bool)(a:b01 l=some r):
  Tr Tryz.prog 289 #[.agg e.toArray] h λv x=>∃(d:List Value),v = .tuple #[.agg d.toArray,.bool r.2]/\New Y0 h x d r.1:=by
 obtain⟨B,C,s,K,t,D,rfl,rfl,i,j,c⟩:=B0 E
 obtain⟨rfl,I⟩:=Sl.len c
 unfold b01 at a
 dsimp only at a
 refine J2 (args:=[.agg #[.int .i64 B,.int .i64 C,.slice s D.length t]]) (fn:=Tryz.f289) rfl ?_
 refine trM a (W5 _ _ _ (z0 i j c)) ?_
 rintro H a M A ⟨g,L,f,rfl,b⟩
 have G:Sub h A:=b.sub
 have m:=b.r
 obtain⟨o,p,q⟩:=H
 dsimp only at a b m
 obtain⟨_,_,_,_,_,_,u,w,k,z,F⟩:=B0 m
 cases u
 cases w
 obtain⟨rfl,J⟩:=Sl.len F
 try dsimp only at a
 have n:=New.sndI (New.sndI (b))
 refine trV a (l01 _ _ _ (z0 i j (D0.mono G c))) λN a=>?_
 refine ifB a (λy a=>?_) λy a=>?_
 ·obtain rfl:=oJ a
  exact⟨([.int .i64 o,.int .i64 p,.slice (some ⟨g,0,none⟩) q.length f]),rfl,(New.pair (New.int k) (New.pair (New.int z) n))⟩
 ·obtain rfl:=oJ a
  exact⟨([.int .i64 o,.int .i64 (IntKind.i64.wrap (p+1)),.slice (some ⟨g,0,none⟩) q.length f]),rfl,(New.pair (New.int k) (New.pair (New.int (P0 _)) n))⟩
theorem r09(h:Hp)(E:List Value)(J:l0)(ae:Y0.R h E J)(r:N0)(c:G8 J=some r):
  Tr Tryz.prog 292 #[.agg E.toArray] h λv d=>∃(C:Option Addr) (I D:Nat),v = .slice C I D/\D0.R d [.slice C I D] r/\Sub h d:=by
 obtain⟨m,n,M,ax,P,o,rfl,rfl,t,G,x⟩:=B0 ae
 obtain⟨rfl,ar⟩:=Sl.len x
 unfold G8 at c
 dsimp only at c
 refine J2 (args:=[.agg #[.int .i64 m,.int .i64 n,.slice M o.length P]]) (fn:=Tryz.f292) rfl ?_
 refine trV c (K9 _ _ _ (z0 t G x)) λaE c=>?_
 refine ifB c (λaa c=>?_) λaa c=>?_
 ·intro aC aq U
  obtain⟨O,S,rfl,ag,ai,aw⟩:=H1.out (r:=R0.toRp) U (show F2 (R0.R h) ([]:List (List Value)) ([]:N0) from trivial)
  obtain rfl:=oJ c
  exact⟨O,(([]:N0)).length,S,rfl,ag,ai⟩
 ·obtain⟨B,Y,c⟩:=C0 c
  refine eX { vars:=[4],boxes:=[],owns:=[0],fuel:=true } (eX (λvs os d=>∃ u8 s g,vs.tail = [.int .i64 u8]/\os = [s]/\Sub h d/\I0 u8/\F2 (R0.R d) s g/\s5 n m o (P1 vs) u8 g=some B) (eX (λ_ _=>0) (aI (eX U0 ⟨0,[],([]:N0),rfl,rfl,(Sub.refl _),(by decide),(show F2 (R0.R h) ([]:List (List Value)) ([]:N0) from trivial),Y⟩) ?_)))
  rintro _ s q ao ⟨u8,aG,g,⟨⟩,⟨⟩,y,u,F,b⟩
  replace b:s5 n m o q u8 g=some B:=b
  obtain _|q:=q
  ·cases b
  rw[s5.eq_2]at b
  refine ifB b (λZ b=>?_) λZ b=>?_
  ·refine trM b (I08 _ _ t) ?_
   rintro L b aB ad ⟨ak,ay,al,rfl,K,z⟩
   obtain⟨rfl,au⟩:=Sl.len K
   obtain⟨A,X,b⟩:=C0 b
   refine eX { vars:=[22],boxes:=[],owns:=[0],fuel:=true } (eX (λvs os d=>∃ e i f,vs.tail = [.int .i64 e]/\os = [i]/\Sub ad d/\I0 e/\F2 (R0.R d) i f/\V3 L m n o u8 (P1 vs) e f=some A) (eX (λ_ _=>0) (aI (eX U0 ⟨0,s,g,rfl,rfl,(Sub.refl _),(by decide),(F2.up (r:=R0.toRp) z F),X⟩) ?_)))
   rintro _ i l H ⟨e,aF,f,⟨⟩,⟨⟩,p,am,k,a⟩
   replace a:V3 L m n o u8 l e f=some A:=a
   obtain _|l:=l
   ·cases a
   rw[V3.eq_2]at a
   refine ifB a (λab a=>?_) λab a=>?_
   ·refine ldI a (M0.mono p K) λj w a=>?_
    refine trV a (z7 _ _ _ (z0 t G (D0.mono ((y.trans z).trans p) x)) _ u _ w) λaj a=>?_
    obtain⟨az,V,a⟩:=C0 a
    have an:I0 aj:=K1 V
    refine ifB a (λac a=>?_) λac a=>?_
    ·obtain⟨aA,W,a⟩:=C0 a
     refine aI (T1 W (by first|rw[F2.length k,F2.length (show F2 (R0.R H) ([[.int .i64 u8,.int .i64 j,.int .i64 (-1)]]:List (List Value)) [(u8,j,(-1))] from⟨(E1 u w (by decide)),trivial⟩)]|exact congrArg (·+1) (F2.length k))) ?_
     exact C2 l ⟨(IntKind.i64.wrap (e+1)),(i++([[.int .i64 u8,.int .i64 j,.int .i64 (-1)]]:List (List Value))),(f ++ [(u8,j,(-1))]),rfl,rfl,p,(P0 _),(F2.append k (show F2 (R0.R H) ([[.int .i64 u8,.int .i64 j,.int .i64 (-1)]]:List (List Value)) [(u8,j,(-1))] from⟨(E1 u w (by decide)),trivial⟩)),a⟩
    ·exact C2 l ⟨(IntKind.i64.wrap (e+1)),i,f,rfl,rfl,p,(P0 _),k,a⟩
   ·obtain rfl:=oJ a
    try dsimp only[V0,Z0]at b
    exact C2 q ⟨(IntKind.i64.wrap (u8+1)),i,f,rfl,rfl,((y.trans z).trans p),(P0 _),k,b⟩
  ·obtain rfl:=oJ b
   try dsimp only[V0,Z0]at c
   intro aD ap T
   obtain⟨N,Q,rfl,af,ah,av⟩:=H1.out (r:=R0.toRp) T F
   obtain rfl:=oJ c
   exact⟨N,g.length,Q,rfl,af,(y.trans ah)⟩
theorem Q02(h:Hp)(f:List Value)(j:l0)(I:Y0.R h f j)(r:l0)(a:U5 j=some r):
  Tr Tryz.prog 196 #[.agg f.toArray] h λv u=>∃(e:List Value),v = .agg e.toArray/\New Y0 h u e r:=by
 obtain⟨F,G,p,an,s,H,rfl,rfl,w,x,k⟩:=B0 I
 obtain⟨rfl,ah⟩:=Sl.len k
 unfold U5 at a
 dsimp only at a
 refine J2 (args:=[.agg #[.int .i64 F,.int .i64 G,.slice p H.length s]]) (fn:=Tryz.f196) rfl ?_
 refine trM a (c0g _ _ _ (z0 w x k)) ?_
 rintro Q a ax g ⟨aa,X,ap,ae,rfl,b,m⟩
 obtain⟨aB,aF⟩:=Q
 dsimp only at a b m
 have N:Sub h g:=b.sub
 have J:=b.r
 obtain⟨aC,aD,W,ao,ad,aE,rfl,rfl,y,z,l⟩:=B0 J
 obtain⟨rfl,ai⟩:=Sl.len l
 try dsimp only at a
 have az:=New.sndI (New.sndI (b))
 obtain⟨rfl,aj⟩:=Sl.len m
 refine trM a (O06 _ _ _ (z0 y z l)) ?_
 rintro S a ay i ⟨ab,Z,ar,ag,rfl,c,o⟩
 obtain⟨aG,aL⟩:=S
 dsimp only at a c o
 have O:Sub g i:=c.sub
 have K:=c.r
 obtain⟨aH,aJ,Y,aq,af,aK,rfl,rfl,A,B,n⟩:=B0 K
 obtain⟨rfl,ak⟩:=Sl.len n
 try dsimp only at a
 have aA:=New.sndI (New.sndI (c))
 obtain⟨rfl,al⟩:=Sl.len o
 refine trM a (a04 _ _ _ (z0 A B n)) ?_
 rintro aM a aw E ⟨ac,rfl,d⟩
 have av:Sub i E:=d.sub
 have L:=d.r
 obtain⟨T,U,q,au,t,V,rfl,rfl,C,D,M⟩:=B0 L
 obtain⟨rfl,am⟩:=Sl.len M
 try dsimp only at a
 have P:=New.sndI (New.sndI (d))
 obtain rfl:=oJ a
 exact⟨([.int .i64 T,.int .i64 U,.slice q V.length t]),rfl,(New.pair (New.int C) (New.pair (New.int D) (New.from P (N.trans O))))⟩
theorem x05(h:Hp)(e:List Value)(g:l0)(x:Y0.R h e g)(b:Option Addr)(f c:Nat)(d:J0)(j:M0.R h [.slice b f c] d)(r:Bool)(a:M6 g d=some r):
  Tr Tryz.prog 279 #[.agg e.toArray,.slice b f c] h λv p=>v = .bool r/\p=h:=by
 obtain⟨t,u,k,F,l,w,rfl,rfl,q,s,i⟩:=B0 x
 obtain⟨rfl,D⟩:=Sl.len i
 obtain⟨rfl,E⟩:=Sl.len j
 unfold M6 at a
 dsimp only at a
 refine Tr.forget (J2 (args:=[.agg #[.int .i64 t,.int .i64 u,.slice k w.length l],.slice b d.length c]) (fn:=Tryz.f279) rfl ?_)
 obtain⟨y,o,a⟩:=C0 a
 obtain⟨z,A⟩:=y
 try dsimp only at a
 refine Tr.val (X05 _ _ _ (z0 q s i) 0 (by decide) _ _ _ _ j _  o) ?_
 obtain⟨G,m,a⟩:=C0 a
 have B:I0 z:=K1 m
 obtain⟨H,n,a⟩:=C0 a
 have C:I0 A:=K1 n
 obtain rfl:=oJ a
 exact aI rfl (Sub.refl _)
theorem M08(h:Hp)(j:List Value)(n:l0)(E:Y0.R h j n)(r:Bool)(b:z9 n=some r):
  Tr Tryz.prog 210 #[.agg j.toArray] h λv y=>v = .bool r/\y=h:=by
 obtain⟨B,C,p,X,t,D,rfl,rfl,k,m,g⟩:=B0 E
 obtain⟨rfl,V⟩:=Sl.len g
 unfold z9 at b
 dsimp only at b
 refine Tr.forget (J2 (args:=[.agg #[.int .i64 B,.int .i64 C,.slice p D.length t]]) (fn:=Tryz.f210) rfl ?_)
 refine aI (by kernel_rfl) ?_
 obtain⟨I,w,b⟩:=C0 b
 refine Or.inl (eX (.val (.bool I)) (aI ?_ ?_))
 ·intro Q G
  exact Tr.val (U01 _ _ _ (z0 k m (D0.mono G g)) _ w) (aI rfl (aI rfl rfl))
 obtain⟨d,x,b⟩:=C0 b
 refine Or.inr (eX (λv z=>∃(a:Option Addr) (c:Nat),v = .slice a d.length c/\D0.R z [.slice a d.length c] d/\d.length<=9223372036854775807) (aI (λv M N i q=>by obtain⟨a,c,e,r,l⟩:=q;exact⟨a,c,e,D0.mono i r,l⟩) (aI ?_ ?_)))
 ·intro S H f
  refine Tr.mono (r09 _ _ _ (z0 k m (D0.mono H g)) _ (e00 x f)) ?_
  rintro _ U ⟨s,Y,u,rfl,o,i⟩
  obtain⟨rfl,A⟩:=Sl.len o
  exact aI o01 (aI i ⟨s,u,rfl,o,A⟩)
 obtain⟨Z,L,b⟩:=C0 b
 refine Or.inl (eX (.val (.int .i64 ((d.length:Nat):Int))) (aI ?_ ?_))
 ·intro T ac f
  rintro _ ⟨J,K,rfl,aa,W⟩
  exact aI rfl (aI rfl rfl)
 refine Or.inl (eX (.val (.bool (decide (((d.length:Nat):Int)=0)))) (aI ?_ ?_))
 ·intro O ab f
  exact aI rfl (aI rfl rfl)
 intro P F
 obtain rfl:=oJ b
 exact aI rfl F
theorem N0d(h:Hp)(x:List Value)(C:l0)(ag:Y0.R h x C)(d:Int)(y:I0 d)(r:l0×Bool)(a:L8 C d=some r):
  Tr Tryz.prog 209 #[.agg x.toArray,.int .i64 d] h λv k=>∃(w:List Value),v = .tuple #[.agg w.toArray,.bool r.2]/\New Y0 h k w r.1:=by
 obtain⟨ae,p,G,aK,I,af,rfl,rfl,l,m,i⟩:=B0 ag
 obtain⟨rfl,aE⟩:=Sl.len i
 unfold L8 at a
 dsimp only at a
 refine J2 (args:=[.agg #[.int .i64 ae,.int .i64 p,.slice G af.length I],.int .i64 d]) (fn:=Tryz.f209) rfl ?_
 refine trV a (K9 _ _ _ (z0 l m i)) λaW a=>?_
 refine trG a (λq=>k01 _ _ _ (z0 l m i) _ y) λaX a=>?_
 refine ifB a (λU a=>?_) λU a=>?_
 ·refine trM a (W5 _ _ _ (z0 l m i)) ?_
  rintro au a aU ad ⟨P,aN,K,rfl,o⟩
  have aQ:Sub h ad:=o.sub
  have E:=o.r
  obtain⟨av,aw,ax⟩:=au
  dsimp only at a o E
  obtain⟨_,_,_,_,_,_,L,M,Z,aa,ak⟩:=B0 E
  cases L
  cases M
  obtain⟨rfl,aH⟩:=Sl.len ak
  try dsimp only at a
  have ao:=New.sndI (New.sndI (o))
  obtain rfl:=oJ a
  exact⟨([.int .i64 av,.int .i64 aw,.slice (some ⟨P,0,none⟩) ax.length K]),rfl,(New.pair (New.int Z) (New.pair (New.int aa) ao))⟩
 ·obtain⟨u,Q,a⟩:=C0 a
  refine eX { vars:=[7],boxes:=[],owns:=[0],fuel:=true } (eX (λvs os k=>∃ c j e,vs.tail = [.int .i64 c]/\os = [j]/\Sub h k/\I0 c/\F2 (Wp.int.R k) j e/\w7 p d (P1 vs) c e=some u) (eX (λ_ _=>0) (aI (eX U0 ⟨0,([[.int .i64 d]]:List (List Value)),[d],rfl,rfl,(Sub.refl _),(by decide),(show F2 (Wp.int.R h) ([[.int .i64 d]]:List (List Value)) [d] from⟨⟨rfl,y⟩,trivial⟩),Q⟩) ?_)))
  rintro _ j g A ⟨c,a3,e,⟨⟩,⟨⟩,n,z,f,b⟩
  replace b:w7 p d g c e=some u:=b
  obtain _|g:=g
  ·cases b
  rw[w7.eq_2]at b
  refine ifB b (λS b=>?_) λS b=>?_
  ·refine ifB b (λT b=>?_) λT b=>?_
   ·obtain⟨aO,O,b⟩:=C0 b
    refine aI (T1 O (by first|rw[F2.length f,F2.length (show F2 (Wp.int.R A) ([[.int .i64 c]]:List (List Value)) [c] from⟨⟨rfl,z⟩,trivial⟩)]|exact congrArg (·+1) (F2.length f))) ?_
    exact C2 g ⟨(IntKind.i64.wrap (c+1)),(j++([[.int .i64 c]]:List (List Value))),(e ++ [c]),rfl,rfl,n,(P0 _),(F2.append f (show F2 (Wp.int.R A) ([[.int .i64 c]]:List (List Value)) [c] from⟨⟨rfl,z⟩,trivial⟩)),b⟩
   ·exact C2 g ⟨(IntKind.i64.wrap (c+1)),j,e,rfl,rfl,n,(P0 _),f,b⟩
  ·obtain rfl:=oJ b
   try dsimp only[V0,Z0]at a
   refine Or.inl ?_
   intro aR ab N
   obtain⟨az,aD,rfl,al,F,aJ⟩:=H1.out (r:=Wp.int.toRp) N f
   refine trM a (J08 _ _ _ (z0 l m (D0.mono (n.trans F) i)) _ _ _ _ al) ?_
   rintro aY a aS B ⟨aA,rfl,s⟩
   have am:Sub ab B:=s.sub
   have ah:=s.r
   obtain⟨aZ,a0,ay,aL,aC,a1,rfl,rfl,V,W,D⟩:=B0 ah
   obtain⟨rfl,aF⟩:=Sl.len D
   try dsimp only at a
   have aV:=New.sndI (New.sndI (s))
   refine trM a (Q02 _ _ _ (z0 V W D)) ?_
   rintro a2 a aT ac ⟨aB,rfl,t⟩
   have aP:Sub B ac:=t.sub
   have ai:=t.r
   obtain⟨ap,aq,H,aM,J,ar,rfl,rfl,X,Y,aj⟩:=B0 ai
   obtain⟨rfl,aG⟩:=Sl.len aj
   try dsimp only at a
   have an:=New.sndI (New.sndI (t))
   obtain rfl:=oJ a
   exact⟨([.int .i64 ap,.int .i64 aq,.slice H ar.length J]),rfl,(New.pair (New.int X) (New.pair (New.int Y) (New.from an ((n.trans F).trans am))))⟩
theorem L0c(h:Hp)(C:List Value)(L:l0)(aj:Y0.R h C L)(r:N0)(b:f01 L=some r):
  Tr Tryz.prog 284 #[.agg C.toArray] h λv k=>∃(A:Option Addr) (K B:Nat),v = .slice A K B/\New D0 h k [.slice A K B] r:=by
 obtain⟨o,p,P,aS,S,q,rfl,rfl,D,E,s⟩:=B0 aj
 obtain⟨rfl,aL⟩:=Sl.len s
 unfold f01 at b
 dsimp only at b
 refine J2 (args:=[.agg #[.int .i64 o,.int .i64 p,.slice P q.length S]]) (fn:=Tryz.f284) rfl ?_
 refine trM b (Z05 _ _ _ (z0 D E s) 0 (by decide)) ?_
 rintro aq b a3 af ⟨ax,aU,aE,ay,aV,aF,rfl,u,w,x⟩
 obtain⟨ba,N⟩:=aq
 dsimp only at b u w
 obtain⟨rfl,aN⟩:=Sl.len u
 obtain⟨rfl,aO⟩:=Sl.len w
 obtain⟨O,Z,b⟩:=C0 b
 obtain⟨ai,ao,U,W⟩:=Sl.cutI (r:=Wp.int.toRp) u Z
 refine aI ai (eX ao (aI U ?_))
 intro ap ac _
 obtain⟨az,aG,rfl,M⟩:=W ap ac
 have aQ:=(Sl.len M).2
 obtain⟨z,aa,b⟩:=C0 b
 refine eX { vars:=[20],boxes:=[],owns:=[0],fuel:=true } (eX (λvs os k=>∃ c n i,vs.tail = [.int .i64 c]/\os = [n]/\Sub af k/\I0 c/\F2 (R0.R k) n i/\N6 O N o p q (P1 vs) c i=some z) (eX (λ_ _=>0) (aI (eX U0 ⟨0,[],([]:N0),rfl,rfl,(Sub.refl _),(by decide),(F2.up (r:=R0.toRp) x (show F2 (R0.R h) ([]:List (List Value)) ([]:N0) from trivial)),aa⟩) ?_)))
 rintro _ n l aK ⟨c,bb,i,⟨⟩,⟨⟩,g,aJ,j,a⟩
 replace a:N6 O N o p q l c i=some z:=a
 obtain _|l:=l
 ·cases a
 rw[N6.eq_2]at a
 refine ifB a (λab a=>?_) λab a=>?_
 ·refine ldI a (M0.mono g M) λa4 F a=>?_
  refine ld a (Z1.mono g w) λa5 aB t a=>?_
  obtain⟨aw,aT,aD,rfl⟩:=Wp.slice_cell t
  obtain⟨rfl,aM⟩:=Sl.len t
  refine ldI a t λar ad a=>?_
  refine trV a (z7 _ _ _ (z0 D E (D0.mono (x.trans g) s)) _ F (IntKind.i64.wrap (0-ar)) (P0 _)) λau a=>?_
  obtain⟨aX,X,a⟩:=C0 a
  have ae:I0 au:=K1 X
  refine trM a (a06 _ _ ae _ ad _ F) ?_
  rintro a6 a a0 J ⟨aC,rfl,ak,m⟩
  obtain⟨d,e,f,rfl,rfl,G,H,I⟩:=M1 ak
  try dsimp only at a
  obtain⟨aY,Y,a⟩:=C0 a
  refine aI (T1 Y (by first|rw[F2.length (F2.up (r:=R0.toRp) m j),F2.length (show F2 (R0.R J) ([[.int .i64 d,.int .i64 e,.int .i64 f]]:List (List Value)) [(d,e,f)] from⟨(E1 G H I),trivial⟩)]|exact congrArg (·+1) (F2.length (F2.up (r:=R0.toRp) m j)))) ?_
  exact C2 l ⟨(IntKind.i64.wrap (c+1)),(n++([[.int .i64 d,.int .i64 e,.int .i64 f]]:List (List Value))),(i ++ [(d,e,f)]),rfl,rfl,(g.trans m),(P0 _),(F2.append (F2.up (r:=R0.toRp) m j) (show F2 (R0.R J) ([[.int .i64 d,.int .i64 e,.int .i64 f]]:List (List Value)) [(d,e,f)] from⟨(E1 G H I),trivial⟩)),a⟩
 ·obtain rfl:=oJ a
  try dsimp only[V0,Z0]at b
  refine Or.inl ?_
  intro a1 ag V
  obtain⟨aA,aH,rfl,am,an,aR⟩:=H1.out (r:=R0.toRp) V j
  refine trM b (d03 _ _ _ _ _ am) ?_
  rintro av b a2 ah ⟨Q,aW,T,rfl,y⟩
  have aZ:Sub ag ah:=y.sub
  have al:=y.r
  obtain⟨rfl,aP⟩:=Sl.len al
  obtain rfl:=oJ b
  exact⟨Q,av.length,T,rfl,(New.from y ((x.trans g).trans an))⟩
theorem C0b(h:Hp)(y:List Value)(G:l0)(Y:Y0.R h y G)(r:N0)(b:E00 G=some r):
  Tr Tryz.prog 199 #[.agg y.toArray] h λv m=>∃(w:Option Addr) (F x:Nat),v = .slice w F x/\New D0 h m [.slice w F x] r:=by
 obtain⟨W,X,K,ak,N,s,rfl,rfl,B,C,n⟩:=B0 Y
 obtain⟨rfl,ag⟩:=Sl.len n
 unfold E00 at b
 dsimp only at b
 refine J2 (args:=[.agg #[.int .i64 W,.int .i64 X,.slice K s.length N]]) (fn:=Tryz.f199) rfl ?_
 refine trV b (K9 _ _ _ (z0 B C n)) λaw b=>?_
 refine ifB b (λV b=>?_) λV b=>?_
 ·intro au af A
  obtain⟨M,P,rfl,ao,aq,aj⟩:=H1.out (r:=R0.toRp) A (show F2 (R0.R h) ([]:List (List Value)) ([]:N0) from trivial)
  obtain rfl:=oJ b
  exact⟨M,(([]:N0)).length,P,rfl,(H1.newPlain (r:=R0) A (show F2 (R0.R h) ([]:List (List Value)) ([]:N0) from trivial) (s07 _))⟩
 ·refine trM b (L0c _ _ _ (z0 B C n)) ?_
  rintro J b av E ⟨aa,al,ac,rfl,I⟩
  have t:Sub h E:=I.sub
  have H:=I.r
  obtain⟨rfl,ah⟩:=Sl.len H
  obtain⟨u,S,b⟩:=C0 b
  refine eX { vars:=[17],boxes:=[],owns:=[0],fuel:=true } (eX (λvs os m=>∃ c l d,vs.tail = [.int .i64 c]/\os = [l]/\Sub E m/\I0 c/\F2 (R0.R m) l d/\A5 s J (P1 vs) c d=some u) (eX (λ_ _=>0) (aI (eX U0 ⟨0,[],([]:N0),rfl,rfl,(Sub.refl _),(by decide),(F2.up (r:=R0.toRp) t (show F2 (R0.R h) ([]:List (List Value)) ([]:N0) from trivial)),S⟩) ?_)))
  rintro _ l j D ⟨c,az,d,⟨⟩,⟨⟩,k,ad,e,a⟩
  replace a:A5 s J j c d=some u:=a
  obtain _|j:=j
  ·cases a
  rw[A5.eq_2]at a
  refine ifB a (λT a=>?_) λT a=>?_
  ·refine ld a (D0.mono (t.trans k) n) λax ab Z a=>?_
   obtain⟨f,g,i,rfl,rfl,o,p,q⟩:=M1 Z
   try dsimp only at a
   refine trV a (W01 _ _ _ _ _ (D0.mono k H) _ _ (E1 o p q)) λay a=>?_
   refine ifB a (λU a=>?_) λU a=>?_
   ·obtain⟨am,Q,a⟩:=C0 a
    refine aI (T1 Q (by first|rw[F2.length e,F2.length (show F2 (R0.R D) ([[.int .i64 f,.int .i64 g,.int .i64 i]]:List (List Value)) [(f,g,i)] from⟨(E1 o p q),trivial⟩)]|exact congrArg (·+1) (F2.length e))) ?_
    exact C2 j ⟨(IntKind.i64.wrap (c+1)),(l++([[.int .i64 f,.int .i64 g,.int .i64 i]]:List (List Value))),(d ++ [(f,g,i)]),rfl,rfl,k,(P0 _),(F2.append e (show F2 (R0.R D) ([[.int .i64 f,.int .i64 g,.int .i64 i]]:List (List Value)) [(f,g,i)] from⟨(E1 o p q),trivial⟩)),a⟩
   ·exact C2 j ⟨(IntKind.i64.wrap (c+1)),l,d,rfl,rfl,k,(P0 _),e,a⟩
  ·obtain rfl:=oJ a
   try dsimp only[V0,Z0]at b
   intro ar ae z
   obtain⟨L,O,rfl,an,ap,ai⟩:=H1.out (r:=R0.toRp) z e
   obtain rfl:=oJ b
   exact⟨L,d.length,O,rfl,(New.from (H1.newPlain (r:=R0) z e (s07 _)) (t.trans k))⟩
theorem D0b(h:Hp)(b:Int)(t:I0 b)(d:Option Addr)(k e:Nat)(f:Y1)(l:Z1.R h [.slice d k e] f)(r:l0×Bool)(a:H00 b f=some r):
  Tr Tryz.prog 90 #[.int .i64 b,.slice d k e] h λv q=>∃(i:List Value),v = .tuple #[.agg i.toArray,.bool r.2]/\New Y0 h q i r.1:=by
 obtain⟨rfl,M⟩:=Sl.len l
 unfold H00 at a
 refine J2 (args:=[.int .i64 b,.slice d f.length e]) (fn:=Tryz.f90) rfl ?_
 refine trM a (L0d _ _ t _ _ _ _ l) ?_
 rintro E a T j ⟨J,rfl,c⟩
 obtain⟨W,aa⟩:=E
 dsimp only at a c
 have n:Sub h j:=c.sub
 have A:=c.r
 obtain⟨X,Y,I,P,L,Z,rfl,rfl,u,w,m⟩:=B0 A
 obtain⟨rfl,N⟩:=Sl.len m
 try dsimp only at a
 have V:=New.sndI (New.sndI (c))
 refine ifB a (λs a=>?_) λs a=>?_
 ·obtain rfl:=oJ a
  exact⟨([.int .i64 0,.int .i64 0,.slice none 0 0]),rfl,(New.pair (New.int (by decide)) (New.pair (New.int (by decide)) ((New.nilSlice (r:=R0)).mono n)))⟩
 ·refine trM a (Q02 _ _ _ (z0 u w m)) ?_
  rintro ab a U z ⟨K,rfl,g⟩
  have S:Sub j z:=g.sub
  have B:=g.r
  obtain⟨F,G,o,Q,p,H,rfl,rfl,x,y,C⟩:=B0 B
  obtain⟨rfl,O⟩:=Sl.len C
  try dsimp only at a
  have D:=New.sndI (New.sndI (g))
  obtain rfl:=oJ a
  exact⟨([.int .i64 F,.int .i64 G,.slice o H.length p]),rfl,(New.pair (New.int x) (New.pair (New.int y) (New.from D n)))⟩
theorem O0d(h:Hp)(n:List Value)(t:l0)(L:Y0.R h n t)(f:Option Addr)(s g:Nat)(j:J0)(u:M0.R h [.slice f s g] j)(r:Bool)(b:J01 t j=some r):
  Tr Tryz.prog 188 #[.agg n.toArray,.slice f s g] h λv F=>v = .bool r/\F=h:=by
 obtain⟨I,J,y,ag,A,K,rfl,rfl,o,p,k⟩:=B0 L
 obtain⟨rfl,ad⟩:=Sl.len k
 obtain⟨rfl,ae⟩:=Sl.len u
 unfold J01 at b
 dsimp only at b
 refine Tr.forget (J2 (args:=[.agg #[.int .i64 I,.int .i64 J,.slice y K.length A],.slice f j.length g]) (fn:=Tryz.f188) rfl ?_)
 refine Or.inr (Or.inr (Or.inr (Or.inl (aI (aI (by kernel_rfl) (by kernel_rfl)) ?_))))
 obtain⟨S,C,b⟩:=C0 b
 refine Or.inl (eX (.val (.bool S)) (aI ?_ ?_))
 ·intro Z O
  exact Tr.val (U01 _ _ _ (z0 o p (D0.mono O k)) _ C) (aI rfl (aI rfl rfl))
 obtain⟨d,D,b⟩:=C0 b
 refine Or.inr (eX (λv G=>∃(a:Option Addr) (c:Nat),v = .slice a d.length c/\M0.R G [.slice a d.length c] d/\d.length<=9223372036854775807) (aI (λv W X m q=>by obtain⟨a,c,e,r,l⟩:=q;exact⟨a,c,e,M0.mono m r,l⟩) (aI ?_ ?_)))
 ·intro aa P i
  refine Tr.mono (C04 _ _ _ _ _ (M0.mono P u) _ (e00 D i)) ?_
  rintro _ ac ⟨z,ah,B,rfl,x⟩
  have m:=x.sub
  have w:=x.r
  obtain⟨rfl,H⟩:=Sl.len w
  exact aI o01 (aI m ⟨z,B,rfl,w,H⟩)
 obtain⟨T,E,b⟩:=C0 b
 refine Or.inl (eX (.val (.bool T)) (aI ?_ ?_))
 ·intro ab Q i
  rintro _ ⟨U,V,rfl,M,af⟩
  exact Tr.val (x05 _ _ _ (z0 o p (D0.mono Q k)) _ _ _ _ M _ (e00 E i)) (aI rfl (aI rfl rfl))
 intro Y N
 obtain rfl:=oJ b
 exact aI rfl N
theorem P09(h:Hp)(M:List Value)(T:l0)(aK:Y0.R h M T)(x:Option Addr)(S y:Nat)(D:J0)(E:M0.R h [.slice x S y] D)(r:l0×Int×Bool)(b:R00 T D=some r):
  Tr Tryz.prog 208 #[.agg M.toArray,.slice x S y] h λv P=>∃(L:List Value),v = .tuple #[.agg L.toArray,.int .i64 r.2.1,.bool r.2.2]/\Y0.R P L r.1/\Sub h P:=by
 obtain⟨U,V,H,bq,K,W,rfl,rfl,C,s,t⟩:=B0 aK
 obtain⟨rfl,bk⟩:=Sl.len t
 obtain⟨rfl,bl⟩:=Sl.len E
 unfold R00 at b
 dsimp only at b
 refine J2 (args:=[.agg #[.int .i64 U,.int .i64 V,.slice H W.length K],.slice x D.length y]) (fn:=Tryz.f208) rfl ?_
 obtain⟨aU,ak,b⟩:=C0 b
 obtain⟨aX,aY⟩:=aU
 try dsimp only at b
 refine Tr.val (X05 _ _ _ (z0 C s t) 0 (by decide) _ _ _ _ E _  ak) ?_
 obtain⟨bt,ai,b⟩:=C0 b
 have ar:I0 aX:=K1 ai
 obtain⟨bu,aj,b⟩:=C0 b
 have bb:I0 aY:=K1 aj
 refine ifB b (λao b=>?_) λao b=>?_
 ·obtain rfl:=oJ b
  exact⟨([.int .i64 U,.int .i64 V,.slice H W.length K]),rfl,(z0 C s t),(Sub.refl _)⟩
 ·refine trM b (K0c _ _ _ (z0 C s t)) ?_
  rintro aZ b bB Q ⟨a4,rfl,F⟩
  obtain⟨bC,bG⟩:=aZ
  dsimp only at b F
  have u:Sub h Q:=F.sub
  have aM:=F.r
  obtain⟨bD,bE,a0,br,a5,bF,rfl,rfl,au,av,X⟩:=B0 aM
  obtain⟨rfl,bm⟩:=Sl.len X
  try dsimp only at b
  refine ifB b (λap b=>?_) λap b=>?_
  ·obtain rfl:=oJ b
   exact⟨([.int .i64 0,.int .i64 0,.slice none 0 0]),rfl,(z0 (by decide) (by decide) (h02 R0 Q)),u⟩
  ·refine Or.inr (Or.inr (Or.inr (Or.inr (eX 10 (aI (aI (by kernel_rfl) (by kernel_rfl)) ?_)))))
   obtain⟨w,am,b⟩:=C0 b
   refine Or.inr (eX (λv i=>∃(a:Option Addr) (c:Nat),v = .slice a w.length c/\M0.R i [.slice a w.length c] w/\w.length<=9223372036854775807) (aI (λv A B j q=>by obtain⟨a,c,e,r,l⟩:=q;exact⟨a,c,e,M0.mono j r,l⟩) (aI ?_ ?_)))
   ·intro be aR
    obtain⟨aJ,aT,af,ah⟩:=Sl.cutI (r:=Wp.int.toRp) (M0.mono (u.trans aR) E) am
    refine aI aJ (eX aT (aI af ?_))
    intro v aq _
    obtain⟨a,c,rfl,r⟩:=ah v aq
    exact aI o01 (aI (Sub.refl _) ⟨a,c,rfl,r,(Sl.len r).2⟩)
   obtain⟨aV,al,b⟩:=C0 b
   obtain⟨aW,G⟩:=aV
   try dsimp only at b
   obtain⟨m,n,d⟩:=aW
   try dsimp only at b
   refine Or.inr (eX (λv i=>∃(k:Value),v = .tuple #[k,.bool G]/\(λv i=>∃(f:Option Addr) (g:Nat),v = .agg #[.int .i64 m,.int .i64 n,.slice f d.length g]/\I0 m/\I0 n/\D0.R i [.slice f d.length g] d/\d.length<=9223372036854775807) k i) (aI (λv A B j q=>by obtain⟨k,e,z⟩:=q;exact⟨k,e,(by obtain⟨f,g,e,o,p,f2,f3⟩:=z;exact⟨f,g,e,o,p,D0.mono j f2,f3⟩)⟩) (aI ?_ ?_)))
   ·intro bf aS
    rintro _ ⟨a1,a6,rfl,aN,bn⟩
    refine Tr.mono (K08 _ _ _ (z0 au av (D0.mono aS X)) _ ar _ _ _ _ aN _ s _ al) ?_
    rintro _ bj ⟨a3,rfl,aa⟩
    have j:=aa.sub
    have aL:=aa.r
    obtain⟨bH,bI,I,bs,N,bJ,rfl,ag,aw,ax,Y⟩:=B0 aL
    cases ag
    obtain⟨rfl,aF⟩:=Sl.len Y
    exact aI o01 (aI j ⟨(.agg #[.int .i64 m,.int .i64 n,.slice I d.length N]),rfl,⟨I,N,rfl,aw,ax,Y,aF⟩⟩)
   refine Or.inr (eX (λv i=>∃(k:Value),v = .tuple #[k,.bool G]/\(λv i=>∃(f:Option Addr) (g:Nat),v = .agg #[.int .i64 m,.int .i64 n,.slice f d.length g]/\I0 m/\I0 n/\D0.R i [.slice f d.length g] d/\d.length<=9223372036854775807) k i) (aI (λv A B j q=>by obtain⟨k,e,z⟩:=q;exact⟨k,e,(by obtain⟨f,g,e,o,p,f2,f3⟩:=z;exact⟨f,g,e,o,p,D0.mono j f2,f3⟩)⟩) (aI ?_ ?_)))
   ·intro bg bx
    rintro _ ⟨_,rfl,⟨J,O,rfl,ay,az,aO,aG⟩⟩
    exact aI o01 (aI (Sub.refl _) ⟨(.agg #[.int .i64 m,.int .i64 n,.slice J d.length O]),rfl,⟨J,O,rfl,ay,az,aO,aG⟩⟩)
   refine Or.inr (eX (λv i=>∃(f:Option Addr) (g:Nat),v = .agg #[.int .i64 m,.int .i64 n,.slice f d.length g]/\I0 m/\I0 n/\D0.R i [.slice f d.length g] d/\d.length<=9223372036854775807) (aI (λv A B j q=>by obtain⟨f,g,e,o,p,f2,f3⟩:=q;exact⟨f,g,e,o,p,D0.mono j f2,f3⟩) (aI ?_ ?_)))
   ·intro bh bz
    rintro _ ⟨_,rfl,⟨ab,ad,rfl,aA,aB,aP,aH⟩⟩
    exact aI o01 (aI (Sub.refl _) ⟨ab,ad,rfl,aA,aB,aP,aH⟩)
   refine Or.inl (eX (.val (.bool G)) (aI ?_ ?_))
   ·intro bi bA
    rintro _ ⟨_,rfl,⟨a2,ba,rfl,bc,bd,bv,bo⟩⟩
    exact aI rfl (aI rfl rfl)
   intro aE Z
   rintro _ ⟨ac,ae,rfl,aC,aD,aQ,bp⟩
   rintro _ _
   rintro _ _
   rintro _ _
   refine ifB b (λan b=>?_) λan b=>?_
   ·obtain rfl:=oJ b
    exact⟨([.int .i64 0,.int .i64 0,.slice none 0 0]),rfl,(z0 (by decide) (by decide) (h02 R0 aE)),(u.trans Z)⟩
   ·obtain rfl:=oJ b
    exact⟨([.int .i64 m,.int .i64 n,.slice ac d.length ae]),rfl,(z0 aC aD aQ),(u.trans Z)⟩
theorem i9(h:Hp)(k:List Value)(n:l0)(M:Y0.R h k n)(c:Option Addr)(m d:Nat)(f:J0)(i:M0.R h [.slice c m d] f)(r:l0×Bool)(a:j5 n f=some r):
  Tr Tryz.prog 98 #[.agg k.toArray,.slice c m d] h λv z=>∃(j:List Value),v = .tuple #[.agg j.toArray,.bool r.2]/\New Y0 h z j r.1:=by
 obtain⟨J,K,t,af,w,L,rfl,rfl,e,l,g⟩:=B0 M
 obtain⟨rfl,ab⟩:=Sl.len g
 obtain⟨rfl,ac⟩:=Sl.len i
 unfold j5 at a
 dsimp only at a
 refine J2 (args:=[.agg #[.int .i64 J,.int .i64 K,.slice t L.length w],.slice c f.length d]) (fn:=Tryz.f98) rfl ?_
 refine trV a (U01 _ _ _ (z0 e l g)) λam a=>?_
 refine trG a (λq=>T01 _ _ e _ _ _ _ i) λan a=>?_
 refine ifB a (λA a=>?_) λA a=>?_
 ·obtain rfl:=oJ a
  exact⟨([.int .i64 0,.int .i64 0,.slice none 0 0]),rfl,(New.pair (New.int (by decide)) (New.pair (New.int (by decide)) ((New.nilSlice (r:=R0)).mono (Sub.refl _))))⟩
 ·refine trM a (P09 _ _ _ (z0 e l g) _ _ _ _ i) ?_
  rintro Q a al I ⟨Y,rfl,o,s⟩
  obtain⟨ao,S,au⟩:=Q
  dsimp only at a o
  obtain⟨ap,aq,X,ag,aa,ar,rfl,rfl,C,D,p⟩:=B0 o
  obtain⟨rfl,ad⟩:=Sl.len p
  try dsimp only at a
  obtain⟨ai,y,a⟩:=C0 a
  have E:I0 S:=K1 y
  refine ifB a (λB a=>?_) λB a=>?_
  ·obtain rfl:=oJ a
   exact⟨([.int .i64 0,.int .i64 0,.slice none 0 0]),rfl,(New.pair (New.int (by decide)) (New.pair (New.int (by decide)) ((New.nilSlice (r:=R0)).mono s)))⟩
  ·refine trM a (N0d _ _ _ (z0 C D p) _ E) ?_
   rintro T a ak H ⟨Z,rfl,b⟩
   obtain⟨av,aw⟩:=T
   dsimp only at a b
   have aj:Sub I H:=b.sub
   have N:=b.r
   obtain⟨U,V,u,ah,x,W,rfl,rfl,F,G,O⟩:=B0 N
   obtain⟨rfl,ae⟩:=Sl.len O
   try dsimp only at a
   have P:=New.sndI (New.sndI (b))
   obtain rfl:=oJ a
   exact⟨([.int .i64 U,.int .i64 V,.slice u W.length x]),rfl,(New.pair (New.int F) (New.pair (New.int G) (New.from P s)))⟩
theorem q04(h:Hp)(b:List Value)(c:l0)(o:Y0.R h b c)(r:Int)(a:Q01 c=some r):
  Tr Tryz.prog 99 #[.agg b.toArray] h λv g=>v = .int .i64 r/\g=h:=by
 obtain⟨l,m,e,q,f,n,rfl,rfl,j,k,d⟩:=B0 o
 obtain⟨rfl,p⟩:=Sl.len d
 unfold Q01 at a
 dsimp only at a
 refine Tr.forget (J2 (args:=[.agg #[.int .i64 l,.int .i64 m,.slice e n.length f]]) (fn:=Tryz.f99) rfl ?_)
 refine trV a (U01 _ _ _ (z0 j k d)) λs a=>?_
 refine ifB a (λi a=>?_) λi a=>?_
 ·obtain rfl:=oJ a
  exact aI rfl (Sub.refl _)
 ·obtain rfl:=oJ a
  exact aI rfl (Sub.refl _)
theorem S03(h:Hp)(b:List Value)(c:l0)(o:Y0.R h b c)(r:Int)(a:v02 c=some r):
  Tr Tryz.prog 100 #[.agg b.toArray] h λv g=>v = .int .i64 r/\g=h:=by
 obtain⟨l,m,e,q,f,n,rfl,rfl,j,k,d⟩:=B0 o
 obtain⟨rfl,p⟩:=Sl.len d
 unfold v02 at a
 dsimp only at a
 refine Tr.forget (J2 (args:=[.agg #[.int .i64 l,.int .i64 m,.slice e n.length f]]) (fn:=Tryz.f100) rfl ?_)
 refine trV a (M08 _ _ _ (z0 j k d)) λs a=>?_
 refine ifB a (λi a=>?_) λi a=>?_
 ·obtain rfl:=oJ a
  exact aI rfl (Sub.refl _)
 ·obtain rfl:=oJ a
  exact aI rfl (Sub.refl _)
theorem P06(h:Hp)(s:Option Addr)(H t:Nat)(k:Y1)(I:Z1.R h [.slice s H t] k)(r:Y1)(e:h01 k=some r):
  Tr Tryz.prog 92 #[.slice s H t] h λv j=>∃(C:Option Addr) (G D:Nat),v = .slice C G D/\New Z1 h j [.slice C G D] r:=by
 obtain⟨rfl,ad⟩:=Sl.len I
 unfold h01 at e
 refine J2 (args:=[.slice s k.length t]) (fn:=Tryz.f92) rfl ?_
 obtain⟨aj,M,e⟩:=C0 e
 refine aI (K1 M) ?_
 obtain⟨B,O,e⟩:=C0 e
 refine eX { vars:=[11],boxes:=[],owns:=[0],fuel:=true } (eX (λvs os j=>∃ f m d,vs.tail = [.int .i64 f]/\os = [m]/\Sub h j/\I0 f/\F2 (M0.R j) m d/\(∃ Bs,F3 (M0.W j) m d Bs/\o6 h Bs.flatten)/\O6 k (P1 vs) f d=some B) (eX (λ_ _=>0) (aI (eX U0 ⟨0,(List.replicate (0:Int).toNat ([.slice none 0 0]:List Value)),(List.replicate (0:Int).toNat ([]:J0)),rfl,rfl,(Sub.refl _),(by decide),(F2.rep (p:=M0.R h) (a:=[.slice none 0 0]) (b:=[]) (h02 Wp.int h) ((0:Int).toNat)),⟨_,(show F3 (M0.W h) (List.replicate (0:Int).toNat ([.slice none 0 0]:List Value)) (List.replicate (0:Int).toNat ([]:J0)) [] from trivial),(o6.nil h)⟩,O⟩) ?_)))
 rintro _ m o S ⟨f,ap,d,⟨⟩,⟨⟩,q,ac,n,⟨Z,z,F⟩,c⟩
 replace c:O6 k o f d=some B:=c
 obtain _|o:=o
 ·cases c
 rw[O6.eq_2]at c
 refine ifB c (λP c=>?_) λP c=>?_
 ·refine ld c (Z1.mono q I) λao aa x c=>?_
  obtain⟨Y,ah,ab,rfl⟩:=Wp.slice_cell x
  obtain⟨rfl,ae⟩:=Sl.len x
  obtain⟨g,i,c⟩:=C0 c
  refine Tr.mono (M01 _ _ _ _ _ x _  i) ?_
  rintro an w ⟨i,ai,u,rfl,A⟩
  have l:Sub S w:=A.sub
  have y:=A.r
  obtain⟨rfl,af⟩:=Sl.len y
  obtain⟨ak,N,c⟩:=C0 c
  refine aI (T1 N (by first|rw[F2.length (F2.up (r:=M0.toRp) l n),F2.length (show F2 (M0.R w) ([[.slice (some ⟨i,0,none⟩) g.length u]]:List (List Value)) [g] from⟨y,trivial⟩)]|exact congrArg (·+1) (F2.length (F2.up (r:=M0.toRp) l n)))) ?_
  obtain⟨X,V,L,_⟩:=A
  exact C2 o ⟨(IntKind.i64.wrap (f+1)),(m++([[.slice (some ⟨i,0,none⟩) g.length u]]:List (List Value))),(d ++ [g]),rfl,rfl,(q.trans l),(P0 _),(F2.append (F2.up (r:=M0.toRp) l n) (show F2 (M0.R w) ([[.slice (some ⟨i,0,none⟩) g.length u]]:List (List Value)) [g] from⟨y,trivial⟩)),⟨_,(F3.snoc V (K0e z l)),(f07 z q F L)⟩,c⟩
 ·obtain rfl:=oJ c
  try dsimp only[V0,Z0]at e
  intro U Q E
  have T:New (Wp.slice M0) h Q [U] d:=(H1.fresh (r:=M0) E z q F)
  obtain⟨J,K,rfl,al,am,ag⟩:=H1.out (r:=M0.toRp) E n
  obtain rfl:=oJ e
  exact⟨J,d.length,K,rfl,T⟩
end Go.Proofs.YtkjhghloldgioaaGreat
