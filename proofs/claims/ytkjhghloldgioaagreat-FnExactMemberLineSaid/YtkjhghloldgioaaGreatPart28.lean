/- Texts of the claim, joined: The walks of batch sp1 and others. -/
import Derived.Test.YtkjhghloldgioaaGreatPart18
import Derived.Test.YtkjhghloldgioaaGreatChecked
import Derived.Test.YtkjhghloldgioaaGreatH35
import Derived.Test.YtkjhghloldgioaaGreatPart26
import Derived.Test.YtkjhghloldgioaaGreatPart17
import Derived.Test.YtkjhghloldgioaaGreatH36
import Derived.Test.YtkjhghloldgioaaGreatPart21
import Derived.Test.YtkjhghloldgioaaGreatSE
import Derived.Test.YtkjhghloldgioaaGreatH40
import Derived.Test.YtkjhghloldgioaaGreatH41
namespace Go.Proofs.YtkjhghloldgioaaGreat
open Go.H
set_option linter.unusedVariables false
set_option linter.unusedSimpArgs false
set_option maxRecDepth 10000
set_option maxHeartbeats 0
theorem P0a(h:Hp)(Q:List Value)(Y:j0)(aG:Y0.R h Q Y)(E:Option Addr)(X F:Nat)(L:F0)(Z:T0.R h [.slice E X F] L)(r:F0×Bool)(c:d00 Y L=some r):
  Tr Tryz.prog 105 #[.agg Q.toArray,.slice E X F] h λv n=>∃(O:Option Addr) (W P:Nat),v = .tuple #[.slice O W P,.bool r.2]/\T0.R n [.slice O W P] r.1/\Sub h n:=by
 obtain⟨I,J,ab,bL,ae,K,rfl,rfl,G,H,y⟩:=C0 aG
 obtain⟨rfl,bE⟩:=Sl.len y
 obtain⟨rfl,bF⟩:=Sl.len Z
 unfold d00 at c
 dsimp only at c
 refine C2 (args:=[.agg #[.int .i64 I,.int .i64 J,.slice ab K.length ae],.slice E L.length F]) (fn:=Tryz.f105) rfl ?_
 refine trM c (z8 _ _ _ _ _ Z) ?_
 rintro C c bU bA ⟨a3,bM,be,rfl,l,u⟩
 obtain⟨rfl,bG⟩:=Sl.len l
 refine trV c (S05 _ _ _ (l0 G H (K0.mono u y)) _ _ _ _ l) λb4 c=>?_
 refine ifB c (λaA c=>?_) λaA c=>?_
 ·intro bX bD ai
  obtain⟨ad,ag,rfl,aM,aP,bK⟩:=E1.out (r:=Wp.int.toRp) ai (F2.up (r:=Wp.int.toRp) u (show F2 (Wp.int.R h) ([]:List (List Value)) ([]:F0) from trivial))
  obtain rfl:=oJ c
  exact⟨ad,(([]:F0)).length,ag,rfl,aM,(u.trans aP)⟩
 ·refine trM c (G09 _ _ _ (l0 G H (K0.mono u y))) ?_
  rintro D c bT aE ⟨a4,bN,bf,rfl,z,j⟩
  obtain⟨rfl,bH⟩:=Sl.len z
  obtain⟨M,ar,c⟩:=z0 c
  refine eX { vars:=[9,10],boxes:=[],owns:=[0],fuel:=true } (eX (λvs os n=>∃ k o A w,vs.tail = [.int .i64 k,.int .i64 o]/\os = [A]/\Sub aE n/\J0 k/\J0 o/\F2 (Wp.int.R n) A w/\S5 C I J K D (I1 vs) k o w=some M) (eX (λ_ _=>0) (aI (eX P0 ⟨0,0,[],([]:F0),rfl,rfl,(Sub.refl _),(by decide),(by decide),(F2.up (r:=Wp.int.toRp) (u.trans j) (show F2 (Wp.int.R h) ([]:List (List Value)) ([]:F0) from trivial)),ar⟩) ?_)))
  rintro _ _ A x aF ⟨k,o,b6,w,⟨⟩,⟨⟩,f,aB,bh,V,d⟩
  replace d:S5 C I J K D x k o w=some M:=d
  obtain _|x:=x
  ·cases d
  rw[S5.eq_2]at d
  refine ifB d (λav d=>?_) λav d=>?_
  ·refine Or.inl (aI (aI (by kernel_rfl) (by kernel_rfl)) ?_)
   refine ldI d (T0.mono (j.trans f) l) λbY aC d=>?_
   obtain⟨s,an,d⟩:=z0 d
   refine eX (.int .i64 s) (aI (D6 _ _ _ (l0 G H (K0.mono ((u.trans j).trans f) y)) _ aB _ aC _  an) ?_)
   obtain⟨bP,aj,d⟩:=z0 d
   have aD:J0 s:=Q0 aj
   obtain⟨N,au,d⟩:=z0 d
   refine eX { vars:=[12],boxes:=[],owns:=[0],fuel:=true } (eX (λvs os n=>∃ b p m,vs.tail = [.int .i64 b]/\os = [p]/\Sub aF n/\J0 b/\F2 (Wp.int.R n) p m/\S3 D C o k s (I1 vs) b m=some N) (eX (λ_ _=>0) (aI (eX P0 ⟨0,A,w,rfl,rfl,(Sub.refl _),(by decide),V,au⟩) ?_)))
   rintro _ p t g ⟨b,b7,m,⟨⟩,⟨⟩,e,bi,i,a⟩
   replace a:S3 D C o k s t b m=some N:=a
   obtain _|t:=t
   ·cases a
   rw[S3.eq_2]at a
   refine ifB a (λaw a=>?_) λaw a=>?_
   ·refine Or.inl (aI (aI (by kernel_rfl) (by kernel_rfl)) ?_)
    refine ldI a (T0.mono ((j.trans f).trans e) l) λbZ bj a=>?_
    obtain⟨b0,ao,a⟩:=z0 a
    obtain⟨bb,S,aH⟩:=Sl.getG (r:=Z0.toRp) (K0.mono (f.trans e) z) ao (by decide) (x06 g)
    refine aI (λq=>(S q).1) ?_
    obtain⟨aQ,aR,aS,rfl,rfl,bk,bl,bm⟩:=G1 aH
    try dsimp only at a
    refine eX _ (aI (λq=>(S q).2) ?_)
    refine ldG a (T0.mono ((j.trans f).trans e) l) λaT bn a=>?_
    refine eX (eqE (aQ,aR,aS) (k,aT,s)) (aI (λ_=>(A07 _ _ _ rfl _ _ _ _ _ _)) ?_)
    refine ifB a (λax a=>?_) λax a=>?_
    ·obtain⟨bQ,ak,a⟩:=z0 a
     refine aI (K1 ak (by first|rw[F2.length i,F2.length (show F2 (Wp.int.R g) ([[.int .i64 (IntKind.i64.wrap (b+1))]]:List (List Value)) [(IntKind.i64.wrap (b+1))] from⟨⟨rfl,(I0 _)⟩,trivial⟩)]|exact congrArg (·+1) (F2.length i))) ?_
     refine Or.inl (aI (aI (by kernel_rfl) (by kernel_rfl)) ?_)
     refine ldI a (T0.mono ((j.trans f).trans e) l) λb1 bo a=>?_
     obtain⟨b2,ap,a⟩:=z0 a
     obtain⟨bc,T,aJ⟩:=Sl.getG (r:=Z0.toRp) (K0.mono (f.trans e) z) ap (by decide) (x06 g)
     refine aI (λq=>(T q).1) ?_
     obtain⟨aU,aV,aW,rfl,rfl,bp,bq,br⟩:=G1 aJ
     try dsimp only at a
     refine eX _ (aI (λq=>(T q).2) ?_)
     refine ldG a (T0.mono ((j.trans f).trans e) l) λaX bs a=>?_
     refine eX (eqE (aU,aV,aW) (s,(IntKind.i64.wrap (0-aX)),k)) (aI (λ_=>(A07 _ _ _ rfl _ _ _ _ _ _)) ?_)
     refine ifB a (λay a=>?_) λay a=>?_
     ·obtain⟨bR,al,a⟩:=z0 a
      refine aI (K1 al (by first|rw[F2.length (F2.append i (show F2 (Wp.int.R g) ([[.int .i64 (IntKind.i64.wrap (b+1))]]:List (List Value)) [(IntKind.i64.wrap (b+1))] from⟨⟨rfl,(I0 _)⟩,trivial⟩)),F2.length (show F2 (Wp.int.R g) ([[.int .i64 (IntKind.i64.wrap ((IntKind.i64.wrap (0-b))-1))]]:List (List Value)) [(IntKind.i64.wrap ((IntKind.i64.wrap (0-b))-1))] from⟨⟨rfl,(I0 _)⟩,trivial⟩)]|exact congrArg (·+1) (F2.length (F2.append i (show F2 (Wp.int.R g) ([[.int .i64 (IntKind.i64.wrap (b+1))]]:List (List Value)) [(IntKind.i64.wrap (b+1))] from⟨⟨rfl,(I0 _)⟩,trivial⟩))))) ?_
      exact N1 t ⟨(IntKind.i64.wrap (b+1)),((p++([[.int .i64 (IntKind.i64.wrap (b+1))]]:List (List Value)))++([[.int .i64 (IntKind.i64.wrap ((IntKind.i64.wrap (0-b))-1))]]:List (List Value))),((m ++ [(IntKind.i64.wrap (b+1))]) ++ [(IntKind.i64.wrap ((IntKind.i64.wrap (0-b))-1))]),rfl,rfl,e,(I0 _),(F2.append (F2.append i (show F2 (Wp.int.R g) ([[.int .i64 (IntKind.i64.wrap (b+1))]]:List (List Value)) [(IntKind.i64.wrap (b+1))] from⟨⟨rfl,(I0 _)⟩,trivial⟩)) (show F2 (Wp.int.R g) ([[.int .i64 (IntKind.i64.wrap ((IntKind.i64.wrap (0-b))-1))]]:List (List Value)) [(IntKind.i64.wrap ((IntKind.i64.wrap (0-b))-1))] from⟨⟨rfl,(I0 _)⟩,trivial⟩)),a⟩
     ·exact N1 t ⟨(IntKind.i64.wrap (b+1)),(p++([[.int .i64 (IntKind.i64.wrap (b+1))]]:List (List Value))),(m ++ [(IntKind.i64.wrap (b+1))]),rfl,rfl,e,(I0 _),(F2.append i (show F2 (Wp.int.R g) ([[.int .i64 (IntKind.i64.wrap (b+1))]]:List (List Value)) [(IntKind.i64.wrap (b+1))] from⟨⟨rfl,(I0 _)⟩,trivial⟩)),a⟩
    ·refine Or.inl (aI (aI (by kernel_rfl) (by kernel_rfl)) ?_)
     refine ldI a (T0.mono ((j.trans f).trans e) l) λb3 bt a=>?_
     obtain⟨b5,aq,a⟩:=z0 a
     obtain⟨bd,U,aK⟩:=Sl.getG (r:=Z0.toRp) (K0.mono (f.trans e) z) aq (by decide) (x06 g)
     refine aI (λq=>(U q).1) ?_
     obtain⟨aY,aZ,a0,rfl,rfl,bu,bv,bx⟩:=G1 aK
     try dsimp only at a
     refine eX _ (aI (λq=>(U q).2) ?_)
     refine ldG a (T0.mono ((j.trans f).trans e) l) λa1 bz a=>?_
     refine eX (eqE (aY,aZ,a0) (s,(IntKind.i64.wrap (0-a1)),k)) (aI (λ_=>(A07 _ _ _ rfl _ _ _ _ _ _)) ?_)
     refine ifB a (λaz a=>?_) λaz a=>?_
     ·obtain⟨bS,am,a⟩:=z0 a
      refine aI (K1 am (by first|rw[F2.length i,F2.length (show F2 (Wp.int.R g) ([[.int .i64 (IntKind.i64.wrap ((IntKind.i64.wrap (0-b))-1))]]:List (List Value)) [(IntKind.i64.wrap ((IntKind.i64.wrap (0-b))-1))] from⟨⟨rfl,(I0 _)⟩,trivial⟩)]|exact congrArg (·+1) (F2.length i))) ?_
      exact N1 t ⟨(IntKind.i64.wrap (b+1)),(p++([[.int .i64 (IntKind.i64.wrap ((IntKind.i64.wrap (0-b))-1))]]:List (List Value))),(m ++ [(IntKind.i64.wrap ((IntKind.i64.wrap (0-b))-1))]),rfl,rfl,e,(I0 _),(F2.append i (show F2 (Wp.int.R g) ([[.int .i64 (IntKind.i64.wrap ((IntKind.i64.wrap (0-b))-1))]]:List (List Value)) [(IntKind.i64.wrap ((IntKind.i64.wrap (0-b))-1))] from⟨⟨rfl,(I0 _)⟩,trivial⟩)),a⟩
     ·exact N1 t ⟨(IntKind.i64.wrap (b+1)),p,m,rfl,rfl,e,(I0 _),i,a⟩
   ·obtain rfl:=oJ a
    try dsimp only[S0,U0]at d
    exact N1 x ⟨s,(IntKind.i64.wrap (o+1)),p,m,rfl,rfl,(f.trans e),aD,(I0 _),i,d⟩
  ·obtain rfl:=oJ d
   try dsimp only[S0,U0]at c
   refine Or.inl ?_
   intro bV bB ah
   obtain⟨ba,bg,rfl,aL,aO,bJ⟩:=E1.out (r:=Wp.int.toRp) ah V
   refine trM c (z8 _ _ _ _ _ aL) ?_
   rintro a2 c bW bC ⟨ac,bO,af,rfl,aa,aN⟩
   obtain⟨rfl,bI⟩:=Sl.len aa
   obtain rfl:=oJ c
   exact⟨ac,a2.length,af,rfl,aa,((((u.trans j).trans f).trans aO).trans aN)⟩
theorem O0d(h:Hp)(csp0:List Value)(p0:j0)(rp0:Y0.R h csp0 p0)(ap1:Option Addr)(np1 cp1:Nat)(p1:F0)(rp1:T0.R h [.slice ap1 np1 cp1] p1)(r:j0×Bool)(hM0:f01 p0 p1=some r):
  Tr Tryz.prog 298 #[.agg csp0.toArray,.slice ap1 np1 cp1] h λv h'=>∃(cs0:List Value),v = .tuple #[.agg cs0.toArray,.bool r.2]/\Y0.R h' cs0 r.1/\Sub h h':=by
 obtain⟨p0_0,p0_1,ap0_2,np0_2,cp0_2,p0_2,rfl,rfl,ip0_0,ip0_1,rp0_2⟩:=C0 rp0
 obtain⟨rfl,lp0_2⟩:=Sl.len rp0_2
 obtain⟨rfl,lp1⟩:=Sl.len rp1
 unfold f01 at hM0
 dsimp only at hM0
 refine C2 (args:=[.agg #[.int .i64 p0_0,.int .i64 p0_1,.slice ap0_2 p0_2.length cp0_2],.slice ap1 p1.length cp1]) (fn:=Tryz.f298) rfl ?_
 refine trV hM0 (H09 _ _ _ (l0 ip0_0 ip0_1 rp0_2) 0 (by decide) _ _ _ _ rp1) λx1 hM0=>?_
 obtain⟨q2,gq2,hM0⟩:=z0 hM0
 have ix1:J0 x1:=Q0 gq2
 refine ifB hM0 (λhc3 hM0=>?_) λhc3 hM0=>?_
 ·refine trM hM0 (U5 _ _ _ (l0 ip0_0 ip0_1 rp0_2)) ?_
  rintro x4 hM0 v6 k5 ⟨csx4,rfl,wx4⟩
  have sx4:Sub h k5:=wx4.sub
  have rx4:=wx4.r
  obtain⟨x4_0,x4_1,ax4_2,nx4_2,cx4_2,x4_2,rfl,rfl,ix4_0,ix4_1,rx4_2⟩:=C0 rx4
  obtain⟨rfl,lx4_2⟩:=Sl.len rx4_2
  try dsimp only at hM0
  obtain rfl:=oJ hM0
  exact⟨([.int .i64 x4_0,.int .i64 x4_1,.slice ax4_2 x4_2.length cx4_2]),rfl,(l0 ix4_0 ix4_1 rx4_2),sx4⟩
 ·refine Or.inr (Or.inr (Or.inr (Or.inl (aI (aI (by kernel_rfl) (by kernel_rfl)) ?_))))
  obtain⟨x7,gx7,hM0⟩:=z0 hM0
  refine Or.inr (eX (λv hh=>∃(a:Option Addr) (c:Nat),v = .slice a x7.length c/\T0.R hh [.slice a x7.length c] x7/\x7.length<=9223372036854775807) (aI (λv h1 h2 sb q=>by obtain⟨a,c,e,r,l⟩:=q;exact⟨a,c,e,T0.mono sb r,l⟩) (aI ?_ ?_)))
  ·intro k8 s9
   obtain⟨qx7,vsx7,ex7,fx7⟩:=Sl.cutI (r:=Wp.int.toRp) (T0.mono s9 rp1) gx7
   refine aI qx7 (eX vsx7 (aI ex7 ?_))
   intro v hv _
   obtain⟨a,c,rfl,r⟩:=fx7 v hv
   exact aI m00 (aI (Sub.refl _) ⟨a,c,rfl,r,(Sl.len r).2⟩)
  obtain⟨x10,gx10,hM0⟩:=z0 hM0
  obtain⟨x10_0,x10_1⟩:=x10
  try dsimp only at hM0
  obtain⟨q11,gq11,hM0⟩:=z0 hM0
  have ix10_0:J0 x10_0:=Q0 gq11
  refine Or.inl (eX (.val (.tuple #[.int .i64 x10_0,.bool x10_1])) (aI ?_ ?_))
  ·intro k12 s13
   rintro _ ⟨az14,cz14,rfl,rz14,lz14⟩
   exact Tr.val (L01 _ _ _ (l0 ip0_0 ip0_1 (K0.mono s13 rp0_2)) 0 (by decide) _ _ _ _ rz14 _ gx10) (aI rfl (aI rfl rfl))
  refine Or.inl (eX (.val (.int .i64 x10_0)) (aI ?_ ?_))
  ·intro k15 s16
   exact aI rfl (aI rfl rfl)
  refine Or.inl (eX (.val (.bool x10_1)) (aI ?_ ?_))
  ·intro k17 s18
   exact aI rfl (aI rfl rfl)
  intro k19 s20
  rintro _ _
  refine trM hM0 (M0a _ _ _ (l0 ip0_0 ip0_1 (K0.mono s20 rp0_2))) ?_
  rintro x21 hM0 v23 k22 ⟨csx21_0,rfl,rx21_0,sx21⟩
  obtain⟨x21_0,x21_1⟩:=x21
  dsimp only at hM0 rx21_0
  obtain⟨x21_0_0,x21_0_1,ax21_0_2,nx21_0_2,cx21_0_2,x21_0_2,rfl,rfl,ix21_0_0,ix21_0_1,rx21_0_2⟩:=C0 rx21_0
  obtain⟨rfl,lx21_0_2⟩:=Sl.len rx21_0_2
  try dsimp only at hM0
  refine ifB hM0 (λhc24 hM0=>?_) λhc24 hM0=>?_
  ·obtain rfl:=oJ hM0
   exact⟨([.int .i64 0,.int .i64 0,.slice none 0 0]),rfl,(l0 (by decide) (by decide) (I0c Z0 k22)),(s20.trans sx21)⟩
  ·refine Or.inr (Or.inr (Or.inr (Or.inr (eX 12 (aI (aI (by kernel_rfl) (by kernel_rfl)) ?_)))))
   obtain⟨x25,gx25,hM0⟩:=z0 hM0
   refine Or.inr (eX (λv hh=>∃(a:Option Addr) (c:Nat),v = .slice a x25.length c/\T0.R hh [.slice a x25.length c] x25/\x25.length<=9223372036854775807) (aI (λv h1 h2 sb q=>by obtain⟨a,c,e,r,l⟩:=q;exact⟨a,c,e,T0.mono sb r,l⟩) (aI ?_ ?_)))
   ·intro k26 s27
    obtain⟨qx25,vsx25,ex25,fx25⟩:=Sl.cutI (r:=Wp.int.toRp) (T0.mono ((s20.trans sx21).trans s27) rp1) gx25
    refine aI qx25 (eX vsx25 (aI ex25 ?_))
    intro v hv _
    obtain⟨a,c,rfl,r⟩:=fx25 v hv
    exact aI m00 (aI (Sub.refl _) ⟨a,c,rfl,r,(Sl.len r).2⟩)
   obtain⟨x28,gx28,hM0⟩:=z0 hM0
   obtain⟨x28_0,x28_1⟩:=x28
   try dsimp only at hM0
   obtain⟨x28_0_0,x28_0_1,x28_0_2⟩:=x28_0
   try dsimp only at hM0
   refine Or.inr (eX (λv hh=>∃(ux28_0:Value),v = .tuple #[ux28_0,.bool x28_1]/\(λv hh=>∃(ax28_0_2:Option Addr) (cx28_0_2:Nat),v = .agg #[.int .i64 x28_0_0,.int .i64 x28_0_1,.slice ax28_0_2 x28_0_2.length cx28_0_2]/\J0 x28_0_0/\J0 x28_0_1/\K0.R hh [.slice ax28_0_2 x28_0_2.length cx28_0_2] x28_0_2/\x28_0_2.length<=9223372036854775807) ux28_0 hh) (aI (λv h1 h2 sb q=>by obtain⟨ux28_0,e,fux28_0⟩:=q;exact⟨ux28_0,e,(by obtain⟨ax28_0_2,cx28_0_2,e,f0,f1,f2,f3⟩:=fux28_0;exact⟨ax28_0_2,cx28_0_2,e,f0,f1,K0.mono sb f2,f3⟩)⟩) (aI ?_ ?_)))
   ·intro k29 s30
    rintro _ ⟨az31,cz31,rfl,rz31,lz31⟩
    refine Tr.mono (K0d _ _ _ (l0 ix21_0_0 ix21_0_1 (K0.mono s30 rx21_0_2)) _ ix10_0 _ _ _ _ rz31 _ ip0_1 _ gx28) ?_
    rintro _ kk ⟨csx28_0,rfl,rx28_0,sb⟩
    obtain⟨yx28_0_0,yx28_0_1,ayx28_0_2,nyx28_0_2,cyx28_0_2,yx28_0_2,rfl,ey,iyx28_0_0,iyx28_0_1,ryx28_0_2⟩:=C0 rx28_0
    cases ey
    obtain⟨rfl,lyx28_0_2⟩:=Sl.len ryx28_0_2
    exact aI m00 (aI sb ⟨(.agg #[.int .i64 x28_0_0,.int .i64 x28_0_1,.slice ayx28_0_2 x28_0_2.length cyx28_0_2]),rfl,⟨ayx28_0_2,cyx28_0_2,rfl,iyx28_0_0,iyx28_0_1,ryx28_0_2,lyx28_0_2⟩⟩)
   refine Or.inr (eX (λv hh=>∃(ux28_0:Value),v = .tuple #[ux28_0,.bool x28_1]/\(λv hh=>∃(ax28_0_2:Option Addr) (cx28_0_2:Nat),v = .agg #[.int .i64 x28_0_0,.int .i64 x28_0_1,.slice ax28_0_2 x28_0_2.length cx28_0_2]/\J0 x28_0_0/\J0 x28_0_1/\K0.R hh [.slice ax28_0_2 x28_0_2.length cx28_0_2] x28_0_2/\x28_0_2.length<=9223372036854775807) ux28_0 hh) (aI (λv h1 h2 sb q=>by obtain⟨ux28_0,e,fux28_0⟩:=q;exact⟨ux28_0,e,(by obtain⟨ax28_0_2,cx28_0_2,e,f0,f1,f2,f3⟩:=fux28_0;exact⟨ax28_0_2,cx28_0_2,e,f0,f1,K0.mono sb f2,f3⟩)⟩) (aI ?_ ?_)))
   ·intro k32 s33
    rintro _ ⟨_,rfl,⟨az34p02,cz34p02,rfl,iz34p00,iz34p01,rz34p02,lz34p02⟩⟩
    exact aI m00 (aI (Sub.refl _) ⟨(.agg #[.int .i64 x28_0_0,.int .i64 x28_0_1,.slice az34p02 x28_0_2.length cz34p02]),rfl,⟨az34p02,cz34p02,rfl,iz34p00,iz34p01,rz34p02,lz34p02⟩⟩)
   refine Or.inr (eX (λv hh=>∃(ax28_0_2:Option Addr) (cx28_0_2:Nat),v = .agg #[.int .i64 x28_0_0,.int .i64 x28_0_1,.slice ax28_0_2 x28_0_2.length cx28_0_2]/\J0 x28_0_0/\J0 x28_0_1/\K0.R hh [.slice ax28_0_2 x28_0_2.length cx28_0_2] x28_0_2/\x28_0_2.length<=9223372036854775807) (aI (λv h1 h2 sb q=>by obtain⟨ax28_0_2,cx28_0_2,e,f0,f1,f2,f3⟩:=q;exact⟨ax28_0_2,cx28_0_2,e,f0,f1,K0.mono sb f2,f3⟩) (aI ?_ ?_)))
   ·intro k35 s36
    rintro _ ⟨_,rfl,⟨az37p02,cz37p02,rfl,iz37p00,iz37p01,rz37p02,lz37p02⟩⟩
    exact aI m00 (aI (Sub.refl _) ⟨az37p02,cz37p02,rfl,iz37p00,iz37p01,rz37p02,lz37p02⟩)
   refine Or.inl (eX (.val (.bool x28_1)) (aI ?_ ?_))
   ·intro k38 s39
    rintro _ ⟨_,rfl,⟨az40p02,cz40p02,rfl,iz40p00,iz40p01,rz40p02,lz40p02⟩⟩
    exact aI rfl (aI rfl rfl)
   intro k41 s42
   rintro _ ⟨az432,cz432,rfl,iz430,iz431,rz432,lz432⟩
   rintro _ _
   rintro _ _
   rintro _ _
   obtain rfl:=oJ hM0
   exact⟨([.int .i64 x28_0_0,.int .i64 x28_0_1,.slice az432 x28_0_2.length cz432]),rfl,(l0 iz430 iz431 rz432),((s20.trans sx21).trans s42)⟩
theorem V06(h:Hp)(csp0:List Value)(p0:j0)(rp0:Y0.R h csp0 p0)(r:j0×Bool)(hM0:c7 p0=some r):
  Tr Tryz.prog 299 #[.agg csp0.toArray] h λv h'=>∃(cs0:List Value),v = .tuple #[.agg cs0.toArray,.bool r.2]/\Y0.R h' cs0 r.1/\Sub h h':=by
 obtain⟨p0_0,p0_1,ap0_2,np0_2,cp0_2,p0_2,rfl,rfl,ip0_0,ip0_1,rp0_2⟩:=C0 rp0
 obtain⟨rfl,lp0_2⟩:=Sl.len rp0_2
 unfold c7 at hM0
 dsimp only at hM0
 refine C2 (args:=[.agg #[.int .i64 p0_0,.int .i64 p0_1,.slice ap0_2 p0_2.length cp0_2]]) (fn:=Tryz.f299) rfl ?_
 refine trV hM0 (G8 _ _ _ (l0 ip0_0 ip0_1 rp0_2)) λx1 hM0=>?_
 refine ifB hM0 (λhc2 hM0=>?_) λhc2 hM0=>?_
 ·obtain rfl:=oJ hM0
  exact⟨([.int .i64 0,.int .i64 0,.slice none 0 0]),rfl,(l0 (by decide) (by decide) (I0c Z0 h)),(Sub.refl _)⟩
 ·refine trM hM0 (U5 _ _ _ (l0 ip0_0 ip0_1 rp0_2)) ?_
  rintro x3 hM0 v5 k4 ⟨csx3,rfl,wx3⟩
  have sx3:Sub h k4:=wx3.sub
  have rx3:=wx3.r
  obtain⟨x3_0,x3_1,ax3_2,nx3_2,cx3_2,x3_2,rfl,rfl,ix3_0,ix3_1,rx3_2⟩:=C0 rx3
  obtain⟨rfl,lx3_2⟩:=Sl.len rx3_2
  try dsimp only at hM0
  obtain⟨X6,hLX6,hM0⟩:=z0 hM0
  refine eX { vars:=[5],boxes:=[2],owns:=[],fuel:=true } (eX (λvs os h'=>∃ u7 u8 u9 au10 nu10 cu10 u10,vs.tail = [.int .i64 u7,.int .i64 u8,.int .i64 u9,.slice au10 nu10 cu10]/\os = []/\Sub k4 h'/\J0 u7/\J0 u8/\J0 u9/\K0.R h' [.slice au10 nu10 cu10] u10/\B4 p0_0 p0_1 p0_2 (I1 vs) u7 u8 u9 u10=some X6) (eX (λ_ _=>0) (aI (eX P0 ⟨1,x3_0,x3_1,ax3_2,x3_2.length,cx3_2,x3_2,rfl,rfl,(Sub.refl _),(by decide),ix3_0,ix3_1,rx3_2,hLX6⟩) ?_)))
  rintro _ _ _ _ m12 k11 ⟨u7,u8,u9,au10,nu10,cu10,u10,⟨⟩,⟨⟩,sX6,iu7,iu8,iu9,ru10,hM1⟩
  replace hM1:B4 p0_0 p0_1 p0_2 m12 u7 u8 u9 u10=some X6:=hM1
  obtain _|m12:=m12
  ·cases hM1
  rw[B4.eq_2]at hM1
  obtain⟨rfl,lu10⟩:=Sl.len ru10
  refine ifB hM1 (λhc13 hM1=>?_) λhc13 hM1=>?_
  ·obtain⟨X14,hLX14,hM1⟩:=z0 hM1
   refine eX { vars:=[8],boxes:=[],owns:=[0,1],fuel:=true } (eX (λvs os h'=>∃ u15 wu16 u16 wu17 u17,vs.tail = [.int .i64 u15]/\os = [wu16,wu17]/\Sub k11 h'/\J0 u15/\F2 (Wp.int.R h') wu16 u16/\F2 (Wp.int.R h') wu17 u17/\E2 p0_1 p0_0 p0_2 u7 (I1 vs) u15 u16 u17=some X14) (eX (λ_ _=>0) (aI (eX P0 ⟨0,[],([]:F0),[],([]:F0),rfl,rfl,(Sub.refl _),(by decide),(show F2 (Wp.int.R k11) ([]:List (List Value)) ([]:F0) from trivial),(show F2 (Wp.int.R k11) ([]:List (List Value)) ([]:F0) from trivial),hLX14⟩) ?_)))
   rintro _ wu16 wu17 m19 k18 ⟨u15,zzu16,u16,zzu17,u17,⟨⟩,⟨⟩,sX14,iu15,fu16,fu17,hM2⟩
   replace hM2:E2 p0_1 p0_0 p0_2 u7 m19 u15 u16 u17=some X14:=hM2
   obtain _|m19:=m19
   ·cases hM2
   rw[E2.eq_2]at hM2
   refine ifB hM2 (λhc20 hM2=>?_) λhc20 hM2=>?_
   ·refine trV hM2 (D6 _ _ _ (l0 ip0_0 ip0_1 (K0.mono ((sx3.trans sX6).trans sX14) rp0_2)) _ iu15 _ iu7) λx21 hM2=>?_
    obtain⟨q22,gq22,hM2⟩:=z0 hM2
    have ix21:J0 x21:=Q0 gq22
    refine ifB hM2 (λhc23 hM2=>?_) λhc23 hM2=>?_
    ·obtain⟨q24,gq24,hM2⟩:=z0 hM2
     refine aI (K1 gq24 (by first|rw[F2.length fu16,F2.length (show F2 (Wp.int.R k18) ([[.int .i64 u15]]:List (List Value)) [u15] from⟨⟨rfl,iu15⟩,trivial⟩)]|exact congrArg (·+1) (F2.length fu16))) ?_
     refine trV hM2 (D6 _ _ _ (l0 ip0_0 ip0_1 (K0.mono ((sx3.trans sX6).trans sX14) rp0_2)) _ iu15 (IntKind.i64.wrap (0-u7)) (I0 _)) λx25 hM2=>?_
     obtain⟨q26,gq26,hM2⟩:=z0 hM2
     have ix25:J0 x25:=Q0 gq26
     refine ifB hM2 (λhc27 hM2=>?_) λhc27 hM2=>?_
     ·obtain⟨q28,gq28,hM2⟩:=z0 hM2
      refine aI (K1 gq28 (by first|rw[F2.length fu17,F2.length (show F2 (Wp.int.R k18) ([[.int .i64 u15]]:List (List Value)) [u15] from⟨⟨rfl,iu15⟩,trivial⟩)]|exact congrArg (·+1) (F2.length fu17))) ?_
      exact N1 m19 ⟨(IntKind.i64.wrap (u15+1)),(wu16++([[.int .i64 u15]]:List (List Value))),(u16 ++ [u15]),(wu17++([[.int .i64 u15]]:List (List Value))),(u17 ++ [u15]),rfl,rfl,sX14,(I0 _),(F2.append fu16 (show F2 (Wp.int.R k18) ([[.int .i64 u15]]:List (List Value)) [u15] from⟨⟨rfl,iu15⟩,trivial⟩)),(F2.append fu17 (show F2 (Wp.int.R k18) ([[.int .i64 u15]]:List (List Value)) [u15] from⟨⟨rfl,iu15⟩,trivial⟩)),hM2⟩
     ·exact N1 m19 ⟨(IntKind.i64.wrap (u15+1)),(wu16++([[.int .i64 u15]]:List (List Value))),(u16 ++ [u15]),wu17,u17,rfl,rfl,sX14,(I0 _),(F2.append fu16 (show F2 (Wp.int.R k18) ([[.int .i64 u15]]:List (List Value)) [u15] from⟨⟨rfl,iu15⟩,trivial⟩)),fu17,hM2⟩
    ·refine trV hM2 (D6 _ _ _ (l0 ip0_0 ip0_1 (K0.mono ((sx3.trans sX6).trans sX14) rp0_2)) _ iu15 (IntKind.i64.wrap (0-u7)) (I0 _)) λx29 hM2=>?_
     obtain⟨q30,gq30,hM2⟩:=z0 hM2
     have ix29:J0 x29:=Q0 gq30
     refine ifB hM2 (λhc31 hM2=>?_) λhc31 hM2=>?_
     ·obtain⟨q32,gq32,hM2⟩:=z0 hM2
      refine aI (K1 gq32 (by first|rw[F2.length fu17,F2.length (show F2 (Wp.int.R k18) ([[.int .i64 u15]]:List (List Value)) [u15] from⟨⟨rfl,iu15⟩,trivial⟩)]|exact congrArg (·+1) (F2.length fu17))) ?_
      exact N1 m19 ⟨(IntKind.i64.wrap (u15+1)),wu16,u16,(wu17++([[.int .i64 u15]]:List (List Value))),(u17 ++ [u15]),rfl,rfl,sX14,(I0 _),fu16,(F2.append fu17 (show F2 (Wp.int.R k18) ([[.int .i64 u15]]:List (List Value)) [u15] from⟨⟨rfl,iu15⟩,trivial⟩)),hM2⟩
     ·exact N1 m19 ⟨(IntKind.i64.wrap (u15+1)),wu16,u16,wu17,u17,rfl,rfl,sX14,(I0 _),fu16,fu17,hM2⟩
   ·obtain rfl:=oJ hM2
    try dsimp only[S0,U0]at hM1
    obtain⟨X33,hLX33,hM1⟩:=z0 hM1
    refine eX { vars:=[9],boxes:=[2],owns:=[],fuel:=true } (eX (λvs os h'=>∃ u34 u35 u36 au37 nu37 cu37 u37,vs.tail = [.int .i64 u34,.int .i64 u35,.int .i64 u36,.slice au37 nu37 cu37]/\os = []/\Sub k18 h'/\J0 u34/\J0 u35/\J0 u36/\K0.R h' [.slice au37 nu37 cu37] u37/\A4 u16 u17 u7 (I1 vs) u34 u35 u36 u37=some X33) (eX (λ_ _=>0) (aI (eX P0 ⟨0,u8,u9,au10,u10.length,cu10,u10,rfl,rfl,(Sub.refl _),(by decide),iu8,iu9,(K0.mono sX14 ru10),hLX33⟩) ?_)))
    rintro _ _ _ _ m39 k38 ⟨u34,u35,u36,au37,nu37,cu37,u37,⟨⟩,⟨⟩,sX33,iu34,iu35,iu36,ru37,hM2⟩
    replace hM2:A4 u16 u17 u7 m39 u34 u35 u36 u37=some X33:=hM2
    obtain _|m39:=m39
    ·cases hM2
    rw[A4.eq_2]at hM2
    obtain⟨rfl,lu37⟩:=Sl.len ru37
    obtain⟨m40,gm40,hM2⟩:=z0 hM2
    obtain rfl:wu16.length=m40:=(F2.length (F2.up (r:=Wp.int.toRp) sX33 fu16)).trans (oJ gm40)
    obtain⟨q41,gq41,hM2⟩:=z0 hM2
    refine ifB hM2 (λhc42 hM2=>?_) λhc42 hM2=>?_
    ·refine Or.inr (Or.inr (Or.inl (aI (aI (by kernel_rfl) (by kernel_rfl)) ?_)))
     obtain⟨x43,gx43,hM2⟩:=z0 hM2
     obtain⟨bx43,csx43,ex43,rx43⟩:=E3 (F2.up (r:=Wp.int.toRp) sX33 fu16) gx43
     obtain⟨rfl,ix43⟩:=rx43
     refine Or.inl ?_
     apply eX
     refine aI ?_ ?_
     ·intro k44 s45
      exact aI bx43 (aI rfl (aI rfl rfl))
     refine Or.inl (eX (.val (.int .i64 x43)) (aI ?_ ?_))
     ·intro k46 s47
      exact eX _ (aI ex43 (aI rfl (aI rfl rfl)))
     obtain⟨x48,gx48,hM2⟩:=z0 hM2
     obtain⟨bx48,csx48,ex48,rx48⟩:=E3 (F2.up (r:=Wp.int.toRp) sX33 fu17) gx48
     obtain⟨rfl,ix48⟩:=rx48
     refine Or.inl ?_
     apply eX
     refine aI ?_ ?_
     ·intro k49 s50
      exact aI bx48 (aI rfl (aI rfl rfl))
     refine Or.inl (eX (.val (.int .i64 x48)) (aI ?_ ?_))
     ·intro k51 s52
      exact eX _ (aI ex48 (aI rfl (aI rfl rfl)))
     refine Or.inl (eX (.agg [.val (.int .i64 x43),.val (.int .i64 u7),.val (.int .i64 x48)]) (aI ?_ ?_))
     ·intro k53 s54
      exact aI rfl (aI rfl rfl)
     refine Or.inr ?_
     refine Or.inr ?_
     refine Or.inl (eX 1 (aI (aI rfl rfl) ?_))
     refine trM hM2 (L8 _ _ _ _ _ ru37 _ _ (C1 ix43 iu7 ix48)) ?_
     rintro x55 hM2 v57 k56 ⟨ax55,nx55,cx55,rfl,rx55,sx55⟩
     obtain⟨rfl,lx55⟩:=Sl.len rx55
     refine aI (aI rfl sx55) (aI (by first|exact trivial|exact rfl) ?_)
     refine aI trivial (aI (by first|exact trivial|exact rfl) ?_)
     exact N1 m39 ⟨(IntKind.i64.wrap (u34+1)),u35,u36,ax55,x55.length,cx55,x55,rfl,rfl,(sX33.trans sx55),(I0 _),iu35,iu36,rx55,hM2⟩
    ·obtain rfl:=oJ hM2
     try dsimp only[S0,U0]at hM1
     exact N1 m12 ⟨(IntKind.i64.wrap (u7+1)),u35,u36,au37,u37.length,cu37,u37,rfl,rfl,((sX6.trans sX14).trans sX33),(I0 _),iu35,iu36,ru37,hM1⟩
  ·obtain rfl:=oJ hM1
   try dsimp only[S0,U0]at hM0
   obtain rfl:=oJ hM0
   exact⟨([.int .i64 u8,.int .i64 u9,.slice au10 u10.length cu10]),rfl,(l0 iu8 iu9 ru10),(sx3.trans sX6)⟩
theorem W06(h:Hp)(csp0:List Value)(p0:j0)(rp0:Y0.R h csp0 p0)(ap1:Option Addr)(np1 cp1:Nat)(p1:N01)(rp1:T03.R h [.slice ap1 np1 cp1] p1)(r:j0×Bool)(hM0:d7 p0 p1=some r):
  Tr Tryz.prog 215 #[.agg csp0.toArray,.slice ap1 np1 cp1] h λv h'=>∃(cs0:List Value),v = .tuple #[.agg cs0.toArray,.bool r.2]/\Y0.R h' cs0 r.1/\Sub h h':=by
 obtain⟨p0_0,p0_1,ap0_2,np0_2,cp0_2,p0_2,rfl,rfl,ip0_0,ip0_1,rp0_2⟩:=C0 rp0
 obtain⟨rfl,lp0_2⟩:=Sl.len rp0_2
 obtain⟨rfl,lp1⟩:=Sl.len rp1
 unfold d7 at hM0
 dsimp only at hM0
 refine C2 (args:=[.agg #[.int .i64 p0_0,.int .i64 p0_1,.slice ap0_2 p0_2.length cp0_2],.slice ap1 p1.length cp1]) (fn:=Tryz.f215) rfl ?_
 refine trM hM0 (U5 _ _ _ (l0 ip0_0 ip0_1 rp0_2)) ?_
 rintro x1 hM0 v3 k2 ⟨csx1,rfl,wx1⟩
 have sx1:Sub h k2:=wx1.sub
 have rx1:=wx1.r
 obtain⟨x1_0,x1_1,ax1_2,nx1_2,cx1_2,x1_2,rfl,rfl,ix1_0,ix1_1,rx1_2⟩:=C0 rx1
 obtain⟨rfl,lx1_2⟩:=Sl.len rx1_2
 try dsimp only at hM0
 refine trV hM0 (L00 _ _ _ (l0 ip0_0 ip0_1 (K0.mono sx1 rp0_2))) λx4 hM0=>?_
 refine ifB hM0 (λhc5 hM0=>?_) λhc5 hM0=>?_
 ·obtain rfl:=oJ hM0
  exact⟨([.int .i64 0,.int .i64 0,.slice none 0 0]),rfl,(l0 (by decide) (by decide) (I0c Z0 k2)),sx1⟩
 ·obtain⟨X6,hLX6,hM0⟩:=z0 hM0
  refine eX { vars:=[7],boxes:=[2],owns:=[],fuel:=true } (eX (λvs os h'=>∃ u7 u8 u9 au10 nu10 cu10 u10,vs.tail = [.int .i64 u7,.int .i64 u8,.int .i64 u9,.slice au10 nu10 cu10]/\os = []/\Sub k2 h'/\J0 u7/\J0 u8/\J0 u9/\K0.R h' [.slice au10 nu10 cu10] u10/\C4 p1 p0_0 p0_1 p0_2 (I1 vs) u7 u8 u9 u10=some X6) (eX (λ_ _=>0) (aI (eX P0 ⟨0,x1_0,x1_1,ax1_2,x1_2.length,cx1_2,x1_2,rfl,rfl,(Sub.refl _),(by decide),ix1_0,ix1_1,rx1_2,hLX6⟩) ?_)))
  rintro _ _ _ _ m12 k11 ⟨u7,u8,u9,au10,nu10,cu10,u10,⟨⟩,⟨⟩,sX6,iu7,iu8,iu9,ru10,hM1⟩
  replace hM1:C4 p1 p0_0 p0_1 p0_2 m12 u7 u8 u9 u10=some X6:=hM1
  obtain _|m12:=m12
  ·cases hM1
  rw[C4.eq_2]at hM1
  obtain⟨rfl,lu10⟩:=Sl.len ru10
  refine ifB hM1 (λhc13 hM1=>?_) λhc13 hM1=>?_
  ·refine Or.inl (aI (aI (by kernel_rfl) (by kernel_rfl)) ?_)
   refine ld hM1 (T03.mono (sx1.trans sX6) rp1) λx14 csx14 rx14 hM1=>?_
   obtain⟨ax14,nx14,cx14,rfl⟩:=Wp.slice_cell rx14
   obtain⟨rfl,lx14⟩:=Sl.len rx14
   obtain⟨x15,gx15,hM1⟩:=z0 hM1
   refine eX (.bool x15) (aI (M02 _ _ ip0_0 _ _ _ _ rx14 _  gx15) ?_)
   obtain⟨x16,gx16,hM1⟩:=z0 hM1
   obtain⟨csx16,ex16,rx16⟩:=Sl.getG (r:=T0.toRp) (T03.mono (sx1.trans sX6) rp1) gx16 (by decide) (P0q Wp.int k11)
   refine aI (λq=>(ex16 q).1) ?_
   obtain⟨ax16,nx16,cx16,rfl⟩:=Wp.slice_cell rx16
   obtain⟨rfl,lx16⟩:=Sl.len rx16
   refine eX _ (aI (λq=>(ex16 q).2) ?_)
   refine trG hM1 (λq=>S05 _ _ _ (l0 ip0_0 ip0_1 (K0.mono (sx1.trans sX6) rp0_2)) _ _ _ _ rx16) λx17 hM1=>?_
   refine ifB hM1 (λhc18 hM1=>?_) λhc18 hM1=>?_
   ·obtain rfl:=oJ hM1
    try dsimp only[C3,V3]at hM0
    obtain rfl:=oJ hM0
    exact⟨([.int .i64 0,.int .i64 0,.slice none 0 0]),rfl,(l0 (by decide) (by decide) (I0c Z0 k11)),(sx1.trans sX6)⟩
   ·refine Or.inr (Or.inr (Or.inr (Or.inr (eX 10 (aI (aI (by kernel_rfl) (by kernel_rfl)) ?_)))))
    obtain⟨x19,gx19,hM1⟩:=z0 hM1
    obtain⟨bx19,csx19,ex19,rx19⟩:=Sl.getI (r:=T0.toRp) (T03.mono (sx1.trans sX6) rp1) gx19 (by decide)
    obtain⟨ax19,nx19,cx19,rfl⟩:=Wp.slice_cell rx19
    obtain⟨rfl,lx19⟩:=Sl.len rx19
    refine Or.inl (eX (.hel (.slice ap1 p1.length cp1) u7 1 0) (aI ?_ ?_))
    ·intro k20 s21
     exact aI bx19 (aI rfl (aI rfl rfl))
    refine Or.inl (eX (.val (.slice ax19 x19.length cx19)) (aI ?_ ?_))
    ·intro k22 s23
     exact eX _ (aI (Y8.up s23 ex19) (aI rfl (aI rfl rfl)))
    obtain⟨x24,gx24,hM1⟩:=z0 hM1
    obtain⟨x24_0,x24_1⟩:=x24
    try dsimp only at hM1
    obtain⟨x24_0_0,x24_0_1,x24_0_2⟩:=x24_0
    try dsimp only at hM1
    refine Or.inr (eX (λv hh=>∃(ux24_0:Value),v = .tuple #[ux24_0,.bool x24_1]/\(λv hh=>∃(ax24_0_2:Option Addr) (cx24_0_2:Nat),v = .agg #[.int .i64 x24_0_0,.int .i64 x24_0_1,.slice ax24_0_2 x24_0_2.length cx24_0_2]/\J0 x24_0_0/\J0 x24_0_1/\K0.R hh [.slice ax24_0_2 x24_0_2.length cx24_0_2] x24_0_2/\x24_0_2.length<=9223372036854775807) ux24_0 hh) (aI (λv h1 h2 sb q=>by obtain⟨ux24_0,e,fux24_0⟩:=q;exact⟨ux24_0,e,(by obtain⟨ax24_0_2,cx24_0_2,e,f0,f1,f2,f3⟩:=fux24_0;exact⟨ax24_0_2,cx24_0_2,e,f0,f1,K0.mono sb f2,f3⟩)⟩) (aI ?_ ?_)))
    ·intro k25 s26
     refine Tr.mono (O0d _ _ _ (l0 iu8 iu9 (K0.mono s26 ru10)) _ _ _ _ (T0.mono s26 rx19) _ gx24) ?_
     rintro _ kk ⟨csx24_0,rfl,rx24_0,sb⟩
     obtain⟨yx24_0_0,yx24_0_1,ayx24_0_2,nyx24_0_2,cyx24_0_2,yx24_0_2,rfl,ey,iyx24_0_0,iyx24_0_1,ryx24_0_2⟩:=C0 rx24_0
     cases ey
     obtain⟨rfl,lyx24_0_2⟩:=Sl.len ryx24_0_2
     exact aI m00 (aI sb ⟨(.agg #[.int .i64 x24_0_0,.int .i64 x24_0_1,.slice ayx24_0_2 x24_0_2.length cyx24_0_2]),rfl,⟨ayx24_0_2,cyx24_0_2,rfl,iyx24_0_0,iyx24_0_1,ryx24_0_2,lyx24_0_2⟩⟩)
    refine Or.inr (eX (λv hh=>∃(ux24_0:Value),v = .tuple #[ux24_0,.bool x24_1]/\(λv hh=>∃(ax24_0_2:Option Addr) (cx24_0_2:Nat),v = .agg #[.int .i64 x24_0_0,.int .i64 x24_0_1,.slice ax24_0_2 x24_0_2.length cx24_0_2]/\J0 x24_0_0/\J0 x24_0_1/\K0.R hh [.slice ax24_0_2 x24_0_2.length cx24_0_2] x24_0_2/\x24_0_2.length<=9223372036854775807) ux24_0 hh) (aI (λv h1 h2 sb q=>by obtain⟨ux24_0,e,fux24_0⟩:=q;exact⟨ux24_0,e,(by obtain⟨ax24_0_2,cx24_0_2,e,f0,f1,f2,f3⟩:=fux24_0;exact⟨ax24_0_2,cx24_0_2,e,f0,f1,K0.mono sb f2,f3⟩)⟩) (aI ?_ ?_)))
    ·intro k27 s28
     rintro _ ⟨_,rfl,⟨az29p02,cz29p02,rfl,iz29p00,iz29p01,rz29p02,lz29p02⟩⟩
     exact aI m00 (aI (Sub.refl _) ⟨(.agg #[.int .i64 x24_0_0,.int .i64 x24_0_1,.slice az29p02 x24_0_2.length cz29p02]),rfl,⟨az29p02,cz29p02,rfl,iz29p00,iz29p01,rz29p02,lz29p02⟩⟩)
    refine Or.inr (eX (λv hh=>∃(ax24_0_2:Option Addr) (cx24_0_2:Nat),v = .agg #[.int .i64 x24_0_0,.int .i64 x24_0_1,.slice ax24_0_2 x24_0_2.length cx24_0_2]/\J0 x24_0_0/\J0 x24_0_1/\K0.R hh [.slice ax24_0_2 x24_0_2.length cx24_0_2] x24_0_2/\x24_0_2.length<=9223372036854775807) (aI (λv h1 h2 sb q=>by obtain⟨ax24_0_2,cx24_0_2,e,f0,f1,f2,f3⟩:=q;exact⟨ax24_0_2,cx24_0_2,e,f0,f1,K0.mono sb f2,f3⟩) (aI ?_ ?_)))
    ·intro k30 s31
     rintro _ ⟨_,rfl,⟨az32p02,cz32p02,rfl,iz32p00,iz32p01,rz32p02,lz32p02⟩⟩
     exact aI m00 (aI (Sub.refl _) ⟨az32p02,cz32p02,rfl,iz32p00,iz32p01,rz32p02,lz32p02⟩)
    refine Or.inl (eX (.val (.bool x24_1)) (aI ?_ ?_))
    ·intro k33 s34
     rintro _ ⟨_,rfl,⟨az35p02,cz35p02,rfl,iz35p00,iz35p01,rz35p02,lz35p02⟩⟩
     exact aI rfl (aI rfl rfl)
    intro k36 s37
    rintro _ ⟨az382,cz382,rfl,iz380,iz381,rz382,lz382⟩
    rintro _ _
    rintro _ _
    refine ifB hM1 (λhc39 hM1=>?_) λhc39 hM1=>?_
    ·obtain rfl:=oJ hM1
     try dsimp only[C3,V3]at hM0
     obtain rfl:=oJ hM0
     exact⟨([.int .i64 0,.int .i64 0,.slice none 0 0]),rfl,(l0 (by decide) (by decide) (I0c Z0 k36)),((sx1.trans sX6).trans s37)⟩
    ·exact N1 m12 ⟨(IntKind.i64.wrap (u7+1)),x24_0_0,x24_0_1,az382,x24_0_2.length,cz382,x24_0_2,rfl,rfl,(sX6.trans s37),(I0 _),iz380,iz381,rz382,hM1⟩
  ·obtain rfl:=oJ hM1
   try dsimp only[S0,U0]at hM0
   refine trM hM0 (V06 _ _ _ (l0 iu8 iu9 ru10)) ?_
   rintro x40 hM0 v42 k41 ⟨csx40_0,rfl,rx40_0,sx40⟩
   obtain⟨x40_0,x40_1⟩:=x40
   dsimp only at hM0 rx40_0
   obtain⟨x40_0_0,x40_0_1,ax40_0_2,nx40_0_2,cx40_0_2,x40_0_2,rfl,rfl,ix40_0_0,ix40_0_1,rx40_0_2⟩:=C0 rx40_0
   obtain⟨rfl,lx40_0_2⟩:=Sl.len rx40_0_2
   try dsimp only at hM0
   refine ifB hM0 (λhc43 hM0=>?_) λhc43 hM0=>?_
   ·obtain rfl:=oJ hM0
    exact⟨([.int .i64 0,.int .i64 0,.slice none 0 0]),rfl,(l0 (by decide) (by decide) (I0c Z0 k41)),((sx1.trans sX6).trans sx40)⟩
   ·refine trM hM0 (O0a _ _ _ (l0 ix40_0_0 ix40_0_1 rx40_0_2)) ?_
    rintro x44 hM0 v46 k45 ⟨csx44,rfl,rx44,sx44⟩
    obtain⟨x44_0,x44_1,ax44_2,nx44_2,cx44_2,x44_2,rfl,rfl,ix44_0,ix44_1,rx44_2⟩:=C0 rx44
    obtain⟨rfl,lx44_2⟩:=Sl.len rx44_2
    try dsimp only at hM0
    obtain rfl:=oJ hM0
    exact⟨([.int .i64 x44_0,.int .i64 x44_1,.slice ax44_2 x44_2.length cx44_2]),rfl,(l0 ix44_0 ix44_1 rx44_2),(((sx1.trans sX6).trans sx40).trans sx44)⟩
theorem F07(h:Hp)(f:List Value)(j:j0)(D:Y0.R h f j)(c:Option Addr)(i d:Nat)(b:F0)(l:T0.R h [.slice c i d] b)(r:j0×Bool)(a:l6 j b=some r):
  Tr Tryz.prog 107 #[.agg f.toArray,.slice c i d] h λv g=>∃(e:List Value),v = .tuple #[.agg e.toArray,.bool r.2]/\Y0.R g e r.1/\Sub h g:=by
 obtain⟨z,A,p,U,s,C,rfl,rfl,u,w,k⟩:=C0 D
 obtain⟨rfl,P⟩:=Sl.len k
 obtain⟨rfl,Q⟩:=Sl.len l
 unfold l6 at a
 dsimp only at a
 refine C2 (args:=[.agg #[.int .i64 z,.int .i64 A,.slice p C.length s],.slice c b.length d]) (fn:=Tryz.f107) rfl ?_
 refine Or.inl ?_
 intro W N f3
 obtain⟨K,M,rfl,E,o,T⟩:=E1.out (r:=T0.toRp) f3 (show F2 (T0.R h) ([[.slice c b.length d]]:List (List Value)) [b] from⟨l,trivial⟩)
 refine trM a (W06 _ _ _ (l0 u w (K0.mono o k)) _ _ _ _ E) ?_
 rintro G a X O ⟨L,rfl,m,F⟩
 obtain⟨Y,Z⟩:=G
 dsimp only at a m
 obtain⟨H,I,q,V,t,J,rfl,rfl,x,y,n⟩:=C0 m
 obtain⟨rfl,S⟩:=Sl.len n
 try dsimp only at a
 obtain rfl:=oJ a
 exact⟨([.int .i64 H,.int .i64 I,.slice q J.length t]),rfl,(l0 x y n),(o.trans F)⟩
theorem X06(h:Hp)(D:List Value)(F:j0)(Z:Y0.R h D F)(n:Option Addr)(E o:Nat)(x:F0)(G:T0.R h [.slice n E o] x)(r:Int)(a:f00 F x=some r):
  Tr Tryz.prog 109 #[.agg D.toArray,.slice n E o] h λv p=>v = .int .i64 r/\p=h:=by
 obtain⟨t,u,J,av,K,w,rfl,rfl,i,s,k⟩:=C0 Z
 obtain⟨rfl,ao⟩:=Sl.len k
 obtain⟨rfl,ap⟩:=Sl.len G
 unfold f00 at a
 dsimp only at a
 refine Tr.forget (C2 (args:=[.agg #[.int .i64 t,.int .i64 u,.slice J w.length K],.slice n x.length o]) (fn:=Tryz.f109) rfl ?_)
 refine trM a (z8 _ _ _ _ _ G) ?_
 rintro aD a aB an ⟨af,aw,ai,rfl,y,c⟩
 obtain⟨rfl,aq⟩:=Sl.len y
 refine trV a (L00 _ _ _ (l0 i s (K0.mono c k))) λaE a=>?_
 refine trG a (λq=>M02 _ _ i _ _ _ _ y) λaF a=>?_
 refine ifB a (λU a=>?_) λU a=>?_
 ·obtain rfl:=oJ a
  exact aI rfl c
 ·refine trM a (I09 _ _ _ _ _ y) ?_
  rintro ae a aC Y ⟨ag,ax,aj,ah,ay,ak,rfl,z,A,f⟩
  obtain⟨I,aG⟩:=ae
  dsimp only at a z A
  obtain⟨rfl,ar⟩:=Sl.len z
  obtain⟨rfl,au⟩:=Sl.len A
  obtain⟨aa,N,a⟩:=z0 a
  obtain⟨m,ab⟩:=aa
  try dsimp only at a
  refine Tr.val (L01 _ _ _ (l0 i s (K0.mono (c.trans f) k)) 0 (by decide) _ _ _ _ A _  N) ?_
  obtain⟨az,L,a⟩:=z0 a
  have W:J0 m:=Q0 L
  refine ifB a (λQ a=>?_) λQ a=>?_
  ·obtain rfl:=oJ a
   exact aI rfl (c.trans f)
  ·obtain⟨C,P,a⟩:=z0 a
   refine eX { vars:=[8,9,11],boxes:=[],owns:=[],fuel:=true } (eX (λvs os p=>∃ g l d,vs.tail = [.int .i64 g,.bool l,.int .i64 d]/\os = []/\Sub Y p/\J0 g/\J0 d/\A5 u t w I m (I1 vs) g l d=some C) (eX (λ_ _=>0) (aI (eX P0 ⟨m,ab,1,rfl,rfl,(Sub.refl _),W,(by decide),P⟩) ?_)))
   rintro _ _ _ j am ⟨g,l,d,⟨⟩,⟨⟩,e,V,al,b⟩
   replace b:A5 u t w I m j g l d=some C:=b
   obtain _|j:=j
   ·cases b
   rw[A5.eq_2]at b
   refine ifB b (λS b=>?_) λS b=>?_
   ·obtain⟨ac,O,b⟩:=z0 b
    obtain⟨H,ad⟩:=ac
    try dsimp only at b
    refine Tr.val (L01 _ _ _ (l0 i s (K0.mono ((c.trans f).trans e) k)) _ V _ _ _ _ (T0.mono e z) _  O) ?_
    obtain⟨aA,M,b⟩:=z0 b
    have X:J0 H:=Q0 M
    refine ifB b (λT b=>?_) λT b=>?_
    ·obtain rfl:=oJ b
     try dsimp only[C3,V3]at a
     obtain rfl:=oJ a
     exact aI rfl ((c.trans f).trans e)
    ·exact N1 j ⟨H,ad,(IntKind.i64.wrap (d+1)),rfl,rfl,e,X,(I0 _),b⟩
   ·obtain rfl:=oJ b
    try dsimp only[S0,U0]at a
    obtain rfl:=oJ a
    exact aI rfl ((c.trans f).trans e)
theorem J09(h:Hp)(m:List Value)(o:j0)(ad:Y0.R h m o)(i:Option Addr)(n j:Nat)(k:F0)(f:T0.R h [.slice i n j] k)(r:ByteArray)(a:B8 o k=some r):
  Tr Tryz.prog 42 #[.agg m.toArray,.slice i n j] h λv J=>v = .string r/\J=h:=by
 obtain⟨aa,ab,s,aF,t,ac,rfl,rfl,d,g,e⟩:=C0 ad
 obtain⟨rfl,aB⟩:=Sl.len e
 obtain⟨rfl,aC⟩:=Sl.len f
 unfold B8 at a
 dsimp only at a
 refine Tr.forget (C2 (args:=[.agg #[.int .i64 aa,.int .i64 ab,.slice s ac.length t],.slice i k.length j]) (fn:=Tryz.f42) rfl ?_)
 refine trV a (L00 _ _ _ (l0 d g e)) λaY a=>?_
 refine trG a (λq=>M02 _ _ d _ _ _ _ f) λa4 a=>?_
 refine ifB a (λN a=>?_) λN a=>?_
 ·obtain rfl:=oJ a
  exact aI rfl (Sub.refl _)
 ·refine trM a (P0a _ _ _ (l0 d g e) _ _ _ _ f) ?_
  rintro al a aX aA ⟨ao,aH,ar,rfl,l,b⟩
  obtain⟨ba,bb⟩:=al
  dsimp only at a l
  obtain⟨rfl,aE⟩:=Sl.len l
  refine ifB a (λO a=>?_) λO a=>?_
  ·refine trV a (S06 _ _ _ _ _ l) λam a=>?_
   obtain⟨aV,I,a⟩:=z0 a
   have ay:am.size<=9223372036854775807:=Q0 I
   obtain⟨aJ,u,a⟩:=z0 a
   have T:=Q0 u
   refine aI T ?_
   obtain rfl:=oJ a
   exact aI rfl b
  ·refine trM a (F07 _ _ _ (l0 d g (K0.mono b e)) _ _ _ _ (T0.mono b f)) ?_
   rintro af a aW az ⟨ap,rfl,p,c⟩
   obtain⟨aZ,a3⟩:=af
   dsimp only at a p
   obtain⟨a0,a1,an,aG,aq,a2,rfl,rfl,au,P,ae⟩:=C0 p
   obtain⟨rfl,aD⟩:=Sl.len ae
   try dsimp only at a
   refine ifB a (λK a=>?_) λK a=>?_
   ·obtain⟨aK,w,a⟩:=z0 a
    have U:=Q0 w
    refine aI U ?_
    refine trV a (i00 _ _ P) λag a=>?_
    obtain⟨aL,x,a⟩:=z0 a
    have av:ag.size<=9223372036854775807:=Q0 x
    obtain⟨aM,y,a⟩:=z0 a
    have V:=Q0 y
    refine aI V ?_
    refine trV a (X06 _ _ _ (l0 d g (K0.mono (b.trans c) e)) _ _ _ _ (T0.mono (b.trans c) f)) λah a=>?_
    obtain⟨aN,z,a⟩:=z0 a
    have Q:J0 ah:=Q0 z
    refine ifB a (λL a=>?_) λL a=>?_
    ·obtain⟨aO,A,a⟩:=z0 a
     have W:=Q0 A
     refine aI W ?_
     refine trV a (i00 _ _ Q) λai a=>?_
     obtain⟨aP,C,a⟩:=z0 a
     have aw:ai.size<=9223372036854775807:=Q0 C
     obtain⟨aQ,D,a⟩:=z0 a
     have X:=Q0 D
     refine aI X ?_
     obtain rfl:=oJ a
     exact aI rfl (b.trans c)
    ·obtain rfl:=oJ a
     exact aI rfl (b.trans c)
   ·refine trV a (X06 _ _ _ (l0 d g (K0.mono (b.trans c) e)) _ _ _ _ (T0.mono (b.trans c) f)) λaj a=>?_
    obtain⟨aR,E,a⟩:=z0 a
    have S:J0 aj:=Q0 E
    refine ifB a (λM a=>?_) λM a=>?_
    ·obtain⟨aS,F,a⟩:=z0 a
     have Y:=Q0 F
     refine aI Y ?_
     refine trV a (i00 _ _ S) λak a=>?_
     obtain⟨aT,G,a⟩:=z0 a
     have ax:ak.size<=9223372036854775807:=Q0 G
     obtain⟨aU,H,a⟩:=z0 a
     have Z:=Q0 H
     refine aI Z ?_
     obtain rfl:=oJ a
     exact aI rfl (b.trans c)
    ·obtain rfl:=oJ a
     exact aI rfl (b.trans c)
theorem o7(h:Hp)(d:List Value)(i:j0)(y:Y0.R h d i)(r:j0)(a:W3 i=some r):
  Tr Tryz.prog 137 #[.agg d.toArray] h λv s=>∃(f:Nat) (g c:Nat),v = .agg ([.int .i64 r.1,.int .i64 r.2.1,.slice (some ⟨f,0,none⟩) g c]:List Value).toArray/\New Y0 h s [.int .i64 r.1,.int .i64 r.2.1,.slice (some ⟨f,0,none⟩) g c] r:=by
 obtain⟨w,x,l,E,m,j,rfl,rfl,t,u,k⟩:=C0 y
 obtain⟨rfl,C⟩:=Sl.len k
 unfold W3 at a
 dsimp only at a
 refine C2 (args:=[.agg #[.int .i64 w,.int .i64 x,.slice l j.length m]]) (fn:=Tryz.f137) rfl ?_
 refine Or.inr (Or.inr (Or.inl (aI (aI (by kernel_rfl) (by kernel_rfl)) ?_)))
 refine Or.inr ?_
 refine Or.inr ?_
 refine Or.inr ?_
 refine Or.inr ?_
 refine Or.inl (eX 0 (aI (aI rfl rfl) ?_))
 refine aI trivial (aI (by first|exact trivial|exact rfl) ?_)
 obtain⟨z,o,b⟩:=Sl.rows (r:=Z0.toRp) k
 refine eX z (aI o ?_)
 obtain⟨F,p,a⟩:=z0 a
 refine aI (K1 p (by first|rw[F2.length (show F2 (Z0.R h) ([]:List (List Value)) ([]:M0) from trivial),F2.length b]|exact congrArg (·+1) (F2.length (show F2 (Z0.R h) ([]:List (List Value)) ([]:M0) from trivial)))) ?_
 refine aI trivial (aI (by first|exact trivial|exact rfl) ?_)
 refine aI trivial (aI (by first|exact trivial|exact rfl) ?_)
 refine aI trivial (aI (by first|exact trivial|exact rfl) ?_)
 intro I A e
 obtain⟨q,n,rfl,G,H,D⟩:=E1.outS (r:=Z0.toRp) e (F2.append (show F2 (Z0.R h) ([]:List (List Value)) ([]:M0) from trivial) b)
 obtain rfl:=oJ a
 exact⟨q,((([]:M0)++j)).length,n,rfl,(New.pair (New.int t) (New.pair (New.int u) (E1.newPlain (r:=Z0) e (F2.append (show F2 (Z0.R h) ([]:List (List Value)) ([]:M0) from trivial) b) (N05 _))))⟩
theorem F0b(h:Hp)(l:List Value)(m:j0)(A:Y0.R h l m)(f:Int)(G:J0 f)(r:Int)(e:y00 m f=some r):
  Tr Tryz.prog 302 #[.agg l.toArray,.int .i64 f] h λv i=>v = .int .i64 r/\i=h:=by
 obtain⟨y,z,o,N,p,j,rfl,rfl,E,F,n⟩:=C0 A
 obtain⟨rfl,M⟩:=Sl.len n
 unfold y00 at e
 dsimp only at e
 refine Tr.forget (C2 (args:=[.agg #[.int .i64 y,.int .i64 z,.slice o j.length p],.int .i64 f]) (fn:=Tryz.f302) rfl ?_)
 obtain⟨k,q,e⟩:=z0 e
 refine eX { vars:=[5,11],boxes:=[],owns:=[],fuel:=true } (eX (λvs os i=>∃ b c,vs.tail = [.int .i64 b,.int .i64 c]/\os = []/\Sub h i/\J0 b/\J0 c/\W4 j f (I1 vs) b c=some k) (eX (λ_ _=>0) (aI (eX P0 ⟨0,0,rfl,rfl,(Sub.refl _),(by decide),(by decide),q⟩) ?_)))
 rintro _ _ d L ⟨b,c,⟨⟩,⟨⟩,g,x,H,a⟩
 replace a:W4 j f d b c=some k:=a
 obtain _|d:=d
 ·cases a
 rw[W4.eq_2]at a
 refine ifB a (λt a=>?_) λt a=>?_
 ·refine ld a (K0.mono g n) λO D C a=>?_
  obtain⟨P,Q,S,rfl,rfl,I,J,K⟩:=G1 C
  try dsimp only at a
  refine ifB a (λu a=>?_) λu a=>?_
  ·refine ifB a (λw a=>?_) λw a=>?_
   ·exact N1 d ⟨(IntKind.i64.wrap ((IntKind.i64.wrap (b+1))+1)),(IntKind.i64.wrap (c+1)),rfl,rfl,g,(I0 _),(I0 _),a⟩
   ·exact N1 d ⟨(IntKind.i64.wrap (b+1)),(IntKind.i64.wrap (c+1)),rfl,rfl,g,(I0 _),(I0 _),a⟩
  ·refine ifB a (λs a=>?_) λs a=>?_
   ·exact N1 d ⟨(IntKind.i64.wrap (b+1)),(IntKind.i64.wrap (c+1)),rfl,rfl,g,(I0 _),(I0 _),a⟩
   ·exact N1 d ⟨b,(IntKind.i64.wrap (c+1)),rfl,rfl,g,x,(I0 _),a⟩
 ·obtain rfl:=oJ a
  try dsimp only[S0,U0]at e
  obtain rfl:=oJ e
  exact aI rfl g
theorem v01(h:Hp)(i:Option Addr)(o k:Nat)(d:M0)(q:K0.R h [.slice i o k] d)(j:Option Addr)(p l:Nat)(e:M0)(s:K0.R h [.slice j p l] e)(r:Bool)(b:A2 d e=some r):
  Tr Tryz.prog 207 #[.slice i o k,.slice j p l] h λv m=>v = .bool r/\m=h:=by
 obtain⟨rfl,S⟩:=Sl.len q
 obtain⟨rfl,T⟩:=Sl.len s
 unfold A2 at b
 refine Tr.forget (C2 (args:=[.slice i d.length k,.slice j e.length l]) (fn:=Tryz.f207) rfl ?_)
 refine ifB b (λu b=>?_) λu b=>?_
 ·obtain rfl:=oJ b
  exact aI rfl (Sub.refl _)
 ·obtain⟨n,t,b⟩:=z0 b
  refine eX { vars:=[13],boxes:=[],owns:=[],fuel:=true } (eX (λvs os m=>∃ c,vs.tail = [.int .i64 c]/\os = []/\Sub h m/\J0 c/\F1 d e (I1 vs) c=some n) (eX (λ_ _=>0) (aI (eX P0 ⟨0,rfl,rfl,(Sub.refl _),(by decide),t⟩) ?_)))
  rintro _ g Q ⟨c,⟨⟩,⟨⟩,f,J,a⟩
  replace a:F1 d e g c=some n:=a
  obtain _|g:=g
  ·cases a
  rw[F1.eq_2]at a
  refine ifB a (λw a=>?_) λw a=>?_
  ·refine Or.inl (aI (aI (by kernel_rfl) (by kernel_rfl)) ?_)
   refine ld a (K0.mono f q) λU H y a=>?_
   obtain⟨A,C,D,rfl,rfl,K,L,M⟩:=G1 y
   try dsimp only at a
   refine ld a (K0.mono f s) λV I z a=>?_
   obtain⟨E,F,G,rfl,rfl,N,O,P⟩:=G1 z
   try dsimp only at a
   refine eX (!eqE (A,C,D) (E,F,G)) (aI (D0g _ _ _ rfl _ _ _ _ _ _) ?_)
   refine ifB a (λx a=>?_) λx a=>?_
   ·obtain rfl:=oJ a
    try dsimp only[C3,V3]at b
    obtain rfl:=oJ b
    exact aI rfl f
   ·exact N1 g ⟨(IntKind.i64.wrap (c+1)),rfl,rfl,f,(I0 _),a⟩
  ·obtain rfl:=oJ a
   try dsimp only[S0,U0]at b
   obtain rfl:=oJ b
   exact aI rfl f
theorem A08(h:Hp)(b:List Value)(d:j0)(w:Y0.R h b d)(c:List Value)(e:j0)(x:Y0.R h c e)(r:Bool)(a:g9 d e=some r):
  Tr Tryz.prog 97 #[.agg b.toArray,.agg c.toArray] h λv m=>v = .bool r/\m=h:=by
 obtain⟨n,o,i,F,k,p,rfl,rfl,y,z,f⟩:=C0 w
 obtain⟨rfl,D⟩:=Sl.len f
 obtain⟨s,t,j,G,l,u,rfl,rfl,A,C,g⟩:=C0 x
 obtain⟨rfl,E⟩:=Sl.len g
 unfold g9 at a
 dsimp only at a
 refine Tr.forget (C2 (args:=[.agg #[.int .i64 n,.int .i64 o,.slice i p.length k],.agg #[.int .i64 s,.int .i64 t,.slice j u.length l]]) (fn:=Tryz.f97) rfl ?_)
 refine trG a (λq=>v01 _ _ _ _ _ f _ _ _ _ g) λH a=>?_
 obtain rfl:=oJ a
 exact aI rfl (Sub.refl _)
theorem G07(h:Hp)(H:List Value)(K:j0)(ap:Y0.R h H K)(i:Int)(aJ:J0 i)(r:(List Bool))(e:I8 K i=some r):
  Tr Tryz.prog 301 #[.agg H.toArray,.int .i64 i] h λv f=>∃(F:Option Addr) (J G:Nat),v = .slice F J G/\(Wp.slice Wp.bool).R f [.slice F J G] r/\Sub h f:=by
 obtain⟨ao,q,M,aR,U,s,rfl,rfl,aG,aH,L⟩:=C0 ap
 obtain⟨rfl,aP⟩:=Sl.len L
 unfold I8 at e
 dsimp only at e
 refine C2 (args:=[.agg #[.int .i64 ao,.int .i64 q,.slice M s.length U],.int .i64 i]) (fn:=Tryz.f301) rfl ?_
 obtain⟨aS,ac,e⟩:=z0 e
 refine aI (Q0 ac) ?_
 obtain⟨aY,af,e⟩:=z0 e
 obtain⟨Q,aD,Y,av⟩:=E3 (F2.rep (p:=Wp.bool.R h) (a:=[.bool false]) (b:=false) rfl (q.toNat)) af
 refine aI Q ?_
 obtain rfl:=av
 refine eX _ (aI Y ?_)
 obtain⟨D,ai,e⟩:=z0 e
 refine eX { vars:=[6],boxes:=[],owns:=[0],fuel:=true,kept:=[0] } (eX (λvs os f=>∃ w x m,vs.tail = [.bool w]/\os = [x]/\Sub h f/\F2 (Wp.bool.R f) x m/\L4 s (I1 vs) w m=some D) (eX (λ_ _=>0) (aI (eX P0 ⟨true,((List.replicate q.toNat ([.bool false]:List Value)).set i.toNat [.bool true]),((List.replicate q.toNat (false:Bool)).set i.toNat true),rfl,rfl,(Sub.refl _),(F2.set (p:=Wp.bool.R h) (a:=[.bool true]) (b:=true) rfl i.toNat (F2.rep (p:=Wp.bool.R h) (a:=[.bool false]) (b:=false) rfl (q.toNat))),ai⟩) ?_)))
 rintro _ x t an ⟨w,a2,m,⟨⟩,⟨⟩,A,I,d⟩
 replace d:L4 s t w m=some D:=d
 obtain _|t:=t
 ·cases d
 rw[L4.eq_2]at d
 refine ifB d (λam d=>?_) λam d=>?_
 ·obtain⟨E,aj,d⟩:=z0 d
  refine eX { vars:=[6,19],boxes:=[],owns:=[0],fuel:=true,kept:=[0] } (eX (λvs os f=>∃ l j n k,vs.tail = [.bool l,.int .i64 j]/\os = [n]/\Sub an f/\J0 j/\F2 (Wp.bool.R f) n k/\T3 s (I1 vs) l j k=some E) (eX (λ_ _=>0) (aI (eX P0 ⟨false,0,x,m,rfl,rfl,(Sub.refl _),(by decide),I,aj⟩) ?_)))
  rintro _ _ n o z ⟨l,j,a1,k,⟨⟩,⟨⟩,u,aK,g,c⟩
  replace c:T3 s o l j k=some E:=c
  obtain _|o:=o
  ·cases c
  rw[T3.eq_2]at c
  refine ifB c (λak c=>?_) λak c=>?_
  ·refine ld c (K0.mono (A.trans u) L) λaU aA aq c=>?_
   obtain⟨y,aV,C,rfl,rfl,aL,aM,aN⟩:=G1 aq
   try dsimp only at c
   refine Or.inl (aI (aI (by kernel_rfl) (by kernel_rfl)) ?_)
   obtain⟨aW,ad,c⟩:=z0 c
   obtain⟨O,aB,W,ar⟩:=E3 g ad
   refine aI O ?_
   obtain rfl:=ar
   refine eX _ (aI W ?_)
   obtain⟨aX,ae,c⟩:=z0 c
   obtain⟨P,aC,X,au⟩:=E3 g ae
   refine aI P ?_
   obtain rfl:=au
   refine eX _ (aI X ?_)
   refine ifB c (λal c=>?_) λal c=>?_
   ·obtain⟨aZ,ag,c⟩:=z0 c
    obtain⟨S,aE,Z,aw⟩:=E3 g ag
    refine aI S ?_
    obtain rfl:=aw
    refine eX _ (aI Z ?_)
    obtain⟨a0,ah,c⟩:=z0 c
    obtain⟨T,aF,aa,ax⟩:=E3 (F2.set (p:=Wp.bool.R z) (a:=[.bool true]) (b:=true) rfl y.toNat g) ah
    refine aI T ?_
    obtain rfl:=ax
    refine eX _ (aI aa ?_)
    exact N1 o ⟨true,(IntKind.i64.wrap (j+1)),((n.set y.toNat [.bool true]).set C.toNat [.bool true]),((k.set y.toNat true).set C.toNat true),rfl,rfl,u,(I0 _),(F2.set (p:=Wp.bool.R z) (a:=[.bool true]) (b:=true) rfl C.toNat (F2.set (p:=Wp.bool.R z) (a:=[.bool true]) (b:=true) rfl y.toNat g)),c⟩
   ·exact N1 o ⟨l,(IntKind.i64.wrap (j+1)),n,k,rfl,rfl,u,(I0 _),g,c⟩
  ·obtain rfl:=oJ c
   try dsimp only[S0,U0]at d
   exact N1 t ⟨l,n,k,rfl,rfl,(A.trans u),g,d⟩
 ·obtain rfl:=oJ d
  try dsimp only[S0,U0]at e
  intro aT aO ab
  obtain⟨N,V,rfl,ay,az,aQ⟩:=E1.out (r:=Wp.bool.toRp) ab I
  obtain rfl:=oJ e
  exact⟨N,m.length,V,rfl,ay,(A.trans az)⟩
theorem Y06(h:Hp)(c:Int)(C:J0 c)(r:F0)(f:l8 c=some r):
  Tr Tryz.prog 309 #[.int .i64 c] h λv e=>∃(l:Option Addr) (p m:Nat),v = .slice l p m/\T0.R e [.slice l p m] r/\Sub h e:=by
 unfold l8 at f
 refine C2 (args:=[.int .i64 c]) (fn:=Tryz.f309) rfl ?_
 obtain⟨k,x,f⟩:=z0 f
 refine eX { vars:=[4],boxes:=[],owns:=[0],fuel:=true } (eX (λvs os e=>∃ a j d,vs.tail = [.int .i64 a]/\os = [j]/\Sub h e/\J0 a/\F2 (Wp.int.R e) j d/\T6 c (I1 vs) a d=some k) (eX (λ_ _=>0) (aI (eX P0 ⟨1,[],([]:F0),rfl,rfl,(Sub.refl _),(by decide),(show F2 (Wp.int.R h) ([]:List (List Value)) ([]:F0) from trivial),x⟩) ?_)))
 rintro _ j i o ⟨a,H,d,⟨⟩,⟨⟩,q,n,g,b⟩
 replace b:T6 c i a d=some k:=b
 obtain _|i:=i
 ·cases b
 rw[T6.eq_2]at b
 refine ifB b (λy b=>?_) λy b=>?_
 ·obtain⟨F,w,b⟩:=z0 b
  refine aI (K1 w (by first|rw[F2.length g,F2.length (show F2 (Wp.int.R o) ([[.int .i64 a],[.int .i64 (IntKind.i64.wrap (0-a))]]:List (List Value)) [a,(IntKind.i64.wrap (0-a))] from⟨⟨rfl,n⟩,⟨⟨rfl,(I0 _)⟩,trivial⟩⟩)]|exact congrArg (·+2) (F2.length g))) ?_
  exact N1 i ⟨(IntKind.i64.wrap (a+1)),(j++([[.int .i64 a],[.int .i64 (IntKind.i64.wrap (0-a))]]:List (List Value))),(d ++ [a,(IntKind.i64.wrap (0-a))]),rfl,rfl,q,(I0 _),(F2.append g (show F2 (Wp.int.R o) ([[.int .i64 a],[.int .i64 (IntKind.i64.wrap (0-a))]]:List (List Value)) [a,(IntKind.i64.wrap (0-a))] from⟨⟨rfl,n⟩,⟨⟨rfl,(I0 _)⟩,trivial⟩⟩)),b⟩
 ·obtain rfl:=oJ b
  try dsimp only[S0,U0]at f
  intro G D u
  obtain⟨s,t,rfl,z,A,E⟩:=E1.out (r:=Wp.int.toRp) u g
  obtain rfl:=oJ f
  exact⟨s,d.length,t,rfl,z,(q.trans A)⟩
theorem G01(h:Hp)(c:Option Addr)(l d:Nat)(b:M0)(o:K0.R h [.slice c l d] b)(r:M0)(a:a8 b=some r):
  Tr Tryz.prog 251 #[.slice c l d] h λv x=>∃(e:Option Addr) (k f:Nat),v = .slice e k f/\New K0 h x [.slice e k f] r:=by
 obtain⟨rfl,F⟩:=Sl.len o
 unfold a8 at a
 refine C2 (args:=[.slice c b.length d]) (fn:=Tryz.f251) rfl ?_
 obtain⟨y,s,g⟩:=Sl.rows (r:=Z0.toRp) o
 refine eX y (aI s ?_)
 obtain⟨I,u,a⟩:=z0 a
 refine aI (K1 u (by first|rw[F2.length (show F2 (Z0.R h) ([]:List (List Value)) ([]:M0) from trivial),F2.length g]|exact congrArg (·+1) (F2.length (show F2 (Z0.R h) ([]:List (List Value)) ([]:M0) from trivial)))) ?_
 refine Or.inl ?_
 intro O C t
 obtain⟨J,w,a⟩:=z0 a
 refine Tr.mono (L0i _ t (F2.append (show F2 (Z0.R h) ([]:List (List Value)) ([]:M0) from trivial) g) (Q0 w)) ?_
 rintro _ D ⟨rfl,P,i,m⟩
 obtain⟨z,A,rfl,K,M,G⟩:=E1.out (r:=Z0.toRp) i m
 refine Tr.mono (M0i _ i m) ?_
 rintro _ E ⟨Q,j,n⟩
 obtain⟨p,q,rfl,L,N,H⟩:=E1.out (r:=Z0.toRp) j n
 obtain rfl:=oJ a
 exact⟨p,((z02 eqE (W04 N0 (([]:M0)++b)))).length,q,rfl,(E1.newPlain (r:=Z0) j n (N05 _))⟩
theorem u0b(h:Hp)(Y:List Value)(af:j0)(aX:Y0.R h Y af)(J:Option Addr)(ae K:Nat)(w:F0)(ai:T0.R h [.slice J ae K] w)(r:j0)(d:Y01 af w=some r):
  Tr Tryz.prog 291 #[.agg Y.toArray,.slice J ae K] h λv e=>∃(X:List Value),v = .agg X.toArray/\New Y0 h e X r:=by
 obtain⟨ag,i,aj,bI,aq,Q,rfl,rfl,aR,bo,ah⟩:=C0 aX
 obtain⟨rfl,bF⟩:=Sl.len ah
 obtain⟨rfl,aV⟩:=Sl.len ai
 unfold Y01 at d
 dsimp only at d
 refine C2 (args:=[.agg #[.int .i64 ag,.int .i64 i,.slice aj Q.length aq],.slice J w.length K]) (fn:=Tryz.f291) rfl ?_
 obtain⟨bK,aB,d⟩:=z0 d
 refine aI (Q0 aB) ?_
 obtain⟨aW,aA,d⟩:=z0 d
 obtain rfl:(List.replicate i.toNat ([.int .i64 0]:List Value)).length=aW:=(F2.length (F2.rep (p:=Wp.int.R h) (a:=[.int .i64 0]) (b:=0) ⟨rfl,(by decide)⟩ (i.toNat))).trans (oJ aA)
 obtain⟨bL,bn,d⟩:=z0 d
 obtain⟨W,aM,d⟩:=z0 d
 refine eX { vars:=[17],boxes:=[],owns:=[0],fuel:=true,kept:=[0] } (eX (λvs os e=>∃ g D y,vs.tail = [.int .i64 g]/\os = [D]/\Sub h e/\J0 g/\F2 (Wp.int.R e) D y/\Q8 ((List.replicate i.toNat ([.int .i64 0]:List Value))).length (I1 vs) g y=some W) (eX (λ_ _=>0) (aI (eX P0 ⟨0,(List.replicate i.toNat ([.int .i64 0]:List Value)),(List.replicate i.toNat (0:Int)),rfl,rfl,(Sub.refl _),(by decide),(F2.rep (p:=Wp.int.R h) (a:=[.int .i64 0]) (b:=0) ⟨rfl,(by decide)⟩ (i.toNat)),aM⟩) ?_)))
 rintro _ D F ad ⟨g,b4,y,⟨⟩,⟨⟩,H,bq,L,c⟩
 replace c:Q8 ((List.replicate i.toNat ([.int .i64 0]:List Value))).length F g y=some W:=c
 obtain _|F:=F
 ·cases c
 rw[Q8.eq_2]at c
 refine ifB c (λaQ c=>?_) λaQ c=>?_
 ·obtain⟨bV,aD,c⟩:=z0 c
  obtain⟨al,bf,au,aY⟩:=E3 L aD
  refine aI al ?_
  obtain⟨rfl,br⟩:=aY
  refine eX _ (aI au ?_)
  exact N1 F ⟨(IntKind.i64.wrap (g+1)),(D.set g.toNat [.int .i64 (-1)]),(y.set g.toNat (-1)),rfl,rfl,H,(I0 _),(F2.set (p:=Wp.int.R ad) (a:=[.int .i64 (-1)]) (b:=(-1)) ⟨rfl,(by decide)⟩ g.toNat L),c⟩
 ·obtain rfl:=oJ c
  try dsimp only[S0,U0]at d
  obtain⟨U,aK,d⟩:=z0 d
  refine eX { vars:=[26],boxes:=[],owns:=[0],fuel:=true,kept:=[0] } (eX (λvs os e=>∃ f I o,vs.tail = [.int .i64 f]/\os = [I]/\Sub ad e/\J0 f/\F2 (Wp.int.R e) I o/\P8 w (I1 vs) f o=some U) (eX (λ_ _=>0) (aI (eX P0 ⟨0,D,y,rfl,rfl,(Sub.refl _),(by decide),L,aK⟩) ?_)))
  rintro _ I E O ⟨f,b2,o,⟨⟩,⟨⟩,G,aS,u,c⟩
  replace c:P8 w E f o=some U:=c
  obtain _|E:=E
  ·cases c
  rw[P8.eq_2]at c
  refine ifB c (λaN c=>?_) λaN c=>?_
  ·refine ldI c (T0.mono (H.trans G) ai) λT bs c=>?_
   obtain⟨bW,aE,c⟩:=z0 c
   obtain⟨am,bg,av,aZ⟩:=E3 u aE
   refine aI am ?_
   obtain⟨rfl,bt⟩:=aZ
   refine eX _ (aI av ?_)
   exact N1 E ⟨(IntKind.i64.wrap (f+1)),(I.set T.toNat [.int .i64 f]),(o.set T.toNat f),rfl,rfl,G,(I0 _),(F2.set (p:=Wp.int.R O) (a:=[.int .i64 f]) (b:=f) ⟨rfl,aS⟩ T.toNat u),c⟩
  ·obtain rfl:=oJ c
   try dsimp only[S0,U0]at d
   obtain⟨V,aL,d⟩:=z0 d
   refine eX { vars:=[44],boxes:=[2],owns:=[1],fuel:=true,nilsB:=[(2,2,166,3,24)] } (eX (λvs os e=>∃ s k l C x,vs.tail = [.int .i64 s,.int .i64 k,.int .i64 l]/\os = [C]/\Sub O e/\J0 s/\J0 k/\J0 l/\F2 (Z0.R e) C x/\c8 Q o (I1 vs) s k l x=some V) (eX (λ_ _=>0) (aI (eX P0 ⟨0,ag,((w.length:Nat):Int),[],([]:M0),rfl,rfl,(Sub.refl _),(by decide),aR,(l0n aV),(show F2 (Z0.R O) [] [] from trivial),aL⟩) ?_)))
   rintro _ _ _ C A P ⟨s,k,l,b3,x,⟨⟩,⟨⟩,j,bp,M,N,z,c⟩
   replace c:c8 Q o A s k l x=some V:=c
   obtain _|A:=A
   ·cases c
   rw[c8.eq_2]at c
   refine ifB c (λaO c=>?_) λaO c=>?_
   ·refine ld c (K0.mono ((H.trans G).trans j) ah) λbX bh a0 c=>?_
    obtain⟨bY,t,bZ,rfl,rfl,bu,aa,bv⟩:=G1 a0
    try dsimp only at c
    obtain⟨b0,aF,c⟩:=z0 c
    obtain⟨an,bi,aw,a1⟩:=E3 (F2.up (r:=Wp.int.toRp) j u) aF
    refine aI an ?_
    obtain⟨rfl,bx⟩:=a1
    refine eX _ (aI aw ?_)
    obtain⟨b1,aG,c⟩:=z0 c
    obtain⟨bj,Z,a2⟩:=R03 (F2.up (r:=Wp.int.toRp) j u) aG (H0c P)
    refine aI (λq=>(Z q).1) ?_
    obtain⟨rfl,bz⟩:=a2
    refine eX _ (aI (λq=>(Z q).2) ?_)
    refine ifB c (λaP c=>?_) λaP c=>?_
    ·refine Or.inr (Or.inr (Or.inl (aI (aI (by kernel_rfl) (by kernel_rfl)) ?_)))
     obtain⟨m,aH,c⟩:=z0 c
     obtain⟨ao,bk,ax,a3⟩:=E3 (F2.up (r:=Wp.int.toRp) j u) aH
     obtain⟨rfl,ab⟩:=a3
     refine Or.inl ?_
     apply eX
     refine aI ?_ ?_
     ·intro bA bN
      exact aI ao (aI rfl (aI rfl rfl))
     refine Or.inl (eX (.val (.int .i64 m)) (aI ?_ ?_))
     ·intro bB bO
      exact eX _ (aI ax (aI rfl (aI rfl rfl)))
     obtain⟨n,aJ,c⟩:=z0 c
     obtain⟨ap,bl,ay,a4⟩:=E3 (F2.up (r:=Wp.int.toRp) j u) aJ
     obtain⟨rfl,ac⟩:=a4
     refine Or.inl ?_
     apply eX
     refine aI ?_ ?_
     ·intro bC bP
      exact aI ap (aI rfl (aI rfl rfl))
     refine Or.inl (eX (.val (.int .i64 n)) (aI ?_ ?_))
     ·intro bD bQ
      exact eX _ (aI ay (aI rfl (aI rfl rfl)))
     refine Or.inl (eX (.agg [.val (.int .i64 m),.val (.int .i64 t),.val (.int .i64 n)]) (aI ?_ ?_))
     ·intro bE bR
      exact aI rfl (aI rfl rfl)
     refine Or.inr ?_
     refine Or.inr ?_
     refine Or.inr ?_
     refine Or.inl (eX 0 (aI (aI rfl rfl) ?_))
     refine aI trivial (aI (by first|exact trivial|exact rfl) ?_)
     obtain⟨bM,aC,c⟩:=z0 c
     refine aI (K1 aC (by first|rw[F2.length z,F2.length (show F2 (Z0.R P) ([[.int .i64 m,.int .i64 t,.int .i64 n]]:List (List Value)) [(m,t,n)] from⟨(C1 ab aa ac),trivial⟩)]|exact congrArg (·+1) (F2.length z))) ?_
     refine aI trivial (aI (by first|exact trivial|exact rfl) ?_)
     refine aI trivial (aI (by first|exact trivial|exact rfl) ?_)
     exact N1 A ⟨(IntKind.i64.wrap (s+1)),k,l,(C++([[.int .i64 m,.int .i64 t,.int .i64 n]]:List (List Value))),(x ++ [(m,t,n)]),rfl,rfl,j,(I0 _),M,N,(F2.append z (show F2 (Z0.R P) ([[.int .i64 m,.int .i64 t,.int .i64 n]]:List (List Value)) [(m,t,n)] from⟨(C1 ab aa ac),trivial⟩)),c⟩
    ·exact N1 A ⟨(IntKind.i64.wrap (s+1)),k,l,C,x,rfl,rfl,j,(I0 _),M,N,z,c⟩
   ·obtain rfl:=oJ c
    try dsimp only[S0,U0]at d
    refine Or.inl ?_
    intro bT aT az
    obtain⟨be,bm,rfl,bb,bc,bH⟩:=E1.out (r:=Z0.toRp) az z
    refine trM d (G01 _ _ _ _ _ bb) ?_
    rintro bd d bU aU ⟨ak,bJ,ar,rfl,S⟩
    have bS:Sub aT aU:=S.sub
    have ba:=S.r
    obtain⟨rfl,bG⟩:=Sl.len ba
    obtain rfl:=oJ d
    exact⟨([.int .i64 k,.int .i64 l,.slice ak bd.length ar]),rfl,(New.pair (New.int M) (New.pair (New.int N) (New.from S (((H.trans G).trans j).trans bc))))⟩
theorem v04(h:Hp)(Z:List Value)(ao:j0)(bn:Y0.R h Z ao)(f:Int)(bf:J0 f)(r:F0×N01)(g:A7 ao f=some r):
  Tr Tryz.prog 236 #[.agg Z.toArray,.int .i64 f] h λv e=>∃(V:Option Addr) (al X:Nat) (W:Option Addr) (am Y:Nat),v = .tuple #[.slice V al X,.slice W am Y]/\T0.R e [.slice V al X] r.1/\T03.R e [.slice W am Y] r.2/\Sub h e:=by
 obtain⟨C,j,az,ca,aH,D,rfl,rfl,ah,be,aq⟩:=C0 bn
 obtain⟨rfl,bY⟩:=Sl.len aq
 unfold A7 at g
 dsimp only at g
 refine C2 (args:=[.agg #[.int .i64 C,.int .i64 j,.slice az D.length aH],.int .i64 f]) (fn:=Tryz.f236) rfl ?_
 obtain⟨cl,aU,g⟩:=z0 g
 refine aI (Q0 aU) ?_
 obtain⟨cx,aZ,g⟩:=z0 g
 obtain⟨aE,bI,aM,bp⟩:=E3 (F2.rep (p:=Wp.opt.R h) (a:=[.slice none 0 0]) (b:=none) (C0p h) (j.toNat)) aZ
 refine aI aE ?_
 obtain⟨bD,cc,bN,rfl,ci,bk⟩:=bp
 obtain⟨rfl,b0⟩:=Sl.len bk
 intro cs N aR
 obtain⟨ag,ab,rfl,bz,Q,b8⟩:=E1.outS (r:=Wp.int.toRp) aR (show F2 (Wp.int.R h) ([]:List (List Value)) ([]:F0) from trivial)
 refine eX _ (aI aM ?_)
 obtain⟨U,a4,g⟩:=z0 g
 refine eX { vars:=[8],boxes:=[],owns:=[0,2],fuel:=true,kept:=[0] } (eX (λvs os e=>∃ u8 J w F u,vs.tail = [.int .i64 u8]/\os = [J,F]/\Sub N e/\J0 u8/\F2 (Wp.opt.R e) J w/\F2 (Wp.int.R e) F u/\N4 C j D (I1 vs) u8 w u=some U) (eX (λ_ _=>0) (aI (eX P0 ⟨0,((List.replicate j.toNat ([.slice none 0 0]:List Value)).set f.toNat [.slice (some ⟨ag,0,none⟩) (([]:F0)).length ab]),((List.replicate j.toNat (none:Option F0)).set f.toNat (some ([]:F0))),([[.int .i64 f]]:List (List Value)),[f],rfl,rfl,(Sub.refl _),(by decide),(F2.set (p:=Wp.opt.R N) (a:=[.slice (some ⟨ag,0,none⟩) (([]:F0)).length ab]) (b:=some ([]:F0)) (D0p bz) f.toNat (F2.up (r:=Wp.opt.toRp) Q (F2.rep (p:=Wp.opt.R h) (a:=[.slice none 0 0]) (b:=none) (C0p h) (j.toNat)))),(show F2 (Wp.int.R N) ([[.int .i64 f]]:List (List Value)) [f] from⟨⟨rfl,bf⟩,trivial⟩),a4⟩) ?_)))
 rintro _ J F H bV ⟨u8,cE,w,cA,u,⟨⟩,⟨⟩,P,bU,ad,G,d⟩
 replace d:N4 C j D H u8 w u=some U:=d
 obtain _|H:=H
 ·cases d
 rw[N4.eq_2]at d
 obtain⟨bi,aT,d⟩:=z0 d
 obtain rfl:F.length=bi:=(F2.length G).trans (oJ aT)
 obtain⟨cm,bS,d⟩:=z0 d
 refine ifB d (λbb d=>?_) λbb d=>?_
 ·obtain⟨ax,aY,d⟩:=z0 d
  obtain⟨aD,bH,aL,bo⟩:=E3 G aY
  refine aI aD ?_
  obtain⟨rfl,bg⟩:=bo
  refine eX _ (aI aL ?_)
  refine trM d (Y06 _ _ ah) ?_
  rintro ay d cr bh ⟨bC,cb,bM,rfl,ar,I⟩
  obtain⟨rfl,bZ⟩:=Sl.len ar
  obtain⟨T,a3,d⟩:=z0 d
  refine eX { vars:=[36],boxes:=[],owns:=[0,2],fuel:=true,kept:=[0] } (eX (λvs os e=>∃ l x m y n,vs.tail = [.int .i64 l]/\os = [x,y]/\Sub bh e/\J0 l/\F2 (Wp.opt.R e) x m/\F2 (Wp.int.R e) y n/\T2 ay C j D ax (I1 vs) l m n=some T) (eX (λ_ _=>0) (aI (eX P0 ⟨0,J,w,F,u,rfl,rfl,(Sub.refl _),(by decide),(F2.up (r:=Wp.opt.toRp) I ad),(F2.up (r:=Wp.int.toRp) I G),a3⟩) ?_)))
  rintro _ x y A aj ⟨l,cC,m,cD,n,⟨⟩,⟨⟩,E,bT,t,z,c⟩
  replace c:T2 ay C j D ax A l m n=some T:=c
  obtain _|A:=A
  ·cases c
  rw[T2.eq_2]at c
  refine ifB c (λbc c=>?_) λbc c=>?_
  ·refine ldI c (T0.mono E ar) λk L c=>?_
   refine trV c (E6 _ _ _ (l0 ah be (K0.mono (((Q.trans P).trans I).trans E) aq)) _ bg _ L) λi c=>?_
   obtain⟨cn,aV,c⟩:=z0 c
   have ai:J0 i:=Q0 aV
   obtain⟨bB,a0,c⟩:=z0 c
   obtain⟨bJ,ac,bq⟩:=R03 t a0 (E0q aj)
   refine aI (λq=>(ac q).1) ?_
   obtain⟨bE,cd,bO,rfl,bj,bl⟩:=bq
   obtain⟨rfl,b1⟩:=Sl.len bl
   refine eX _ (aI (λq=>(ac q).2) ?_)
   refine eX (bB.isNone) (aI (λ_=>by rw[←bj];exact D0q _ _ _ rfl _ _ _) ?_)
   refine ifB c (λbd c=>?_) λbd c=>?_
   ·obtain⟨cy,a1,c⟩:=z0 c
    obtain⟨aF,bK,aN,br⟩:=E3 t a1
    refine aI aF ?_
    obtain⟨bF,ce,bP,rfl,cj,ap⟩:=br
    obtain⟨rfl,b2⟩:=Sl.len ap
    refine eX _ (aI aN ?_)
    obtain⟨K,ae,c⟩:=z0 c
    refine Tr.mono (f03 _ _ _ _ _ ap _  ae) ?_
    rintro ct M ⟨ae,cf,bQ,rfl,S⟩
    have cq:Sub aj M:=S.sub
    have bs:=S.r
    obtain⟨rfl,b3⟩:=Sl.len bs
    obtain⟨co,aW,c⟩:=z0 c
    obtain⟨bA,bu,ak,aA⟩:=New.app S (Sub.refl _)
    refine eX bA (aI bu (aI (K1 aW (by first|rw[ak,F2.length (show F2 (Wp.int.R M) ([[.int .i64 k]]:List (List Value)) [k] from⟨⟨rfl,L⟩,trivial⟩)]|(rw[ak];rfl))) ?_))
    intro cw O ba
    obtain⟨s,af,an,ch,aa,rfl⟩:=aA _ _ _ _ _ (F3.ofPlain (M0e _) (show F2 (Wp.int.R M) ([[.int .i64 k]]:List (List Value)) [k] from⟨⟨rfl,L⟩,trivial⟩)) r6.ofPlain ba
    have au:=s.r
    obtain⟨aP,b5⟩:=Sl.len au
    subst aP
    obtain⟨cz,a2,c⟩:=z0 c
    obtain⟨aG,bL,aO,bt⟩:=E3 (F2.up (r:=Wp.opt.toRp) s.sub t) a2
    refine aI aG ?_
    obtain⟨bG,cg,bR,rfl,ck,bm⟩:=bt
    obtain⟨rfl,b4⟩:=Sl.len bm
    refine eX _ (aI aO ?_)
    obtain⟨cp,aX,c⟩:=z0 c
    refine aI (K1 aX (by first|rw[F2.length (F2.up (r:=Wp.int.toRp) s.sub z),F2.length (show F2 (Wp.int.R O) ([[.int .i64 i]]:List (List Value)) [i] from⟨⟨rfl,ai⟩,trivial⟩)]|exact congrArg (·+1) (F2.length (F2.up (r:=Wp.int.toRp) s.sub z)))) ?_
    exact N1 A ⟨(IntKind.i64.wrap (l+1)),(x.set i.toNat [.slice (some ⟨af,an,none⟩) (K ++ [k]).length aa]),(m.set i.toNat (some (K ++ [k]))),(y++([[.int .i64 i]]:List (List Value))),(n ++ [i]),rfl,rfl,(E.trans s.sub),(I0 _),(F2.set (p:=Wp.opt.R O) (a:=[.slice (some ⟨af,an,none⟩) (K ++ [k]).length aa]) (b:=some (K ++ [k])) (D0p au) i.toNat (F2.up (r:=Wp.opt.toRp) s.sub t)),(F2.append (F2.up (r:=Wp.int.toRp) s.sub z) (show F2 (Wp.int.R O) ([[.int .i64 i]]:List (List Value)) [i] from⟨⟨rfl,ai⟩,trivial⟩)),c⟩
   ·exact N1 A ⟨(IntKind.i64.wrap (l+1)),x,m,y,n,rfl,rfl,E,(I0 _),t,z,c⟩
  ·obtain rfl:=oJ c
   try dsimp only[S0,U0]at d
   exact N1 H ⟨(IntKind.i64.wrap (u8+1)),x,m,y,n,rfl,rfl,((P.trans I).trans E),(I0 _),t,z,d⟩
 ·obtain rfl:=oJ d
  try dsimp only[S0,U0]at g
  intro cu bW aQ
  obtain⟨aB,aJ,rfl,bv,av,b6⟩:=E1.out (r:=Wp.int.toRp) aQ G
  intro cv bX aS
  obtain⟨aC,aK,rfl,bx,aw,b7⟩:=E1.out (r:=T0.toRp) aS (F2.ofOpt (F2.up (r:=Wp.opt.toRp) av ad))
  obtain rfl:=oJ g
  exact⟨aB,u.length,aJ,aC,(List.map (λo:Option F0=>o.getD ([]:F0)) w).length,aK,rfl,(T0.mono aw bv),bx,(((Q.trans P).trans av).trans aw)⟩
theorem X05(h:Hp)(f:List Value)(l:j0)(A:Y0.R h f l)(r:F0)(a:N7 l=some r):
  Tr Tryz.prog 303 #[.agg f.toArray] h λv g=>∃(d:Option Addr) (k e:Nat),v = .slice d k e/\T0.R g [.slice d k e] r/\Sub h g:=by
 obtain⟨x,y,n,P,q,z,rfl,rfl,i,j,b⟩:=C0 A
 obtain⟨rfl,L⟩:=Sl.len b
 unfold N7 at a
 dsimp only at a
 refine C2 (args:=[.agg #[.int .i64 x,.int .i64 y,.slice n z.length q]]) (fn:=Tryz.f303) rfl ?_
 refine trV a (w9 _ _ _ (l0 i j b)) λV a=>?_
 refine ifB a (λw a=>?_) λw a=>?_
 ·intro T J u
  obtain⟨p,t,rfl,C,E,O⟩:=E1.out (r:=Wp.int.toRp) u (show F2 (Wp.int.R h) ([]:List (List Value)) ([]:F0) from trivial)
  obtain rfl:=oJ a
  exact⟨p,(([]:F0)).length,t,rfl,C,E⟩
 ·refine trM a (v04 _ _ _ (l0 i j b) 0 (by decide)) ?_
  rintro F a U K ⟨o,Q,s,H,S,I,rfl,c,m,D⟩
  obtain⟨G,W⟩:=F
  dsimp only at a c m
  obtain⟨rfl,M⟩:=Sl.len c
  obtain⟨rfl,N⟩:=Sl.len m
  obtain rfl:=oJ a
  exact⟨o,G.length,s,rfl,c,D⟩
theorem B02(h:Hp)(j:List Value)(k:j0)(K:Y0.R h j k)(r:j0)(a:I6 k=some r):
  Tr Tryz.prog 221 #[.agg j.toArray] h λv x=>∃(i:List Value),v = .agg i.toArray/\New Y0 h x i r:=by
 obtain⟨H,I,n,ag,p,J,rfl,rfl,c,d,b⟩:=C0 K
 obtain⟨rfl,ac⟩:=Sl.len b
 unfold I6 at a
 dsimp only at a
 refine C2 (args:=[.agg #[.int .i64 H,.int .i64 I,.slice n J.length p]]) (fn:=Tryz.f221) rfl ?_
 refine trV a (w9 _ _ _ (l0 c d b)) λao a=>?_
 refine ifB a (λy a=>?_) λy a=>?_
 ·refine trM a (o7 _ _ _ (l0 c d b)) ?_
  rintro V a am F ⟨w,ai,s,rfl,e⟩
  have ak:Sub h F:=e.sub
  have l:=e.r
  obtain⟨W,X,Y⟩:=V
  dsimp only at a e l
  obtain⟨_,_,_,_,_,_,t,u,C,D,N⟩:=C0 l
  cases t
  cases u
  obtain⟨rfl,ae⟩:=Sl.len N
  try dsimp only at a
  have Q:=New.sndI (New.sndI (e))
  obtain rfl:=oJ a
  exact⟨([.int .i64 W,.int .i64 X,.slice (some ⟨w,0,none⟩) Y.length s]),rfl,(New.pair (New.int C) (New.pair (New.int D) Q))⟩
 ·refine Or.inr (Or.inr (Or.inl (aI (aI (by kernel_rfl) (by kernel_rfl)) ?_)))
  refine Or.inr ?_
  refine Or.inr ?_
  refine Or.inr ?_
  refine Or.inl (eX 2 (aI (aI rfl rfl) ?_))
  refine trM a (X05 _ _ _ (l0 c d b)) ?_
  rintro aq a an G ⟨Z,aj,ab,rfl,m,f⟩
  obtain⟨rfl,af⟩:=Sl.len m
  refine aI (aI rfl f) (aI (by first|exact trivial|exact rfl) ?_)
  refine trM a (u0b _ _ _ (l0 c d (K0.mono f b)) _ _ _ _ m) ?_
  rintro ap a al E ⟨aa,rfl,g⟩
  have O:Sub G E:=g.sub
  have L:=g.r
  obtain⟨S,T,o,ah,q,U,rfl,rfl,z,A,M⟩:=C0 L
  obtain⟨rfl,ad⟩:=Sl.len M
  try dsimp only at a
  have P:=New.sndI (New.sndI (g))
  refine aI (aI rfl O) (aI (by first|exact trivial|exact rfl) ?_)
  refine aI trivial (aI (by first|exact trivial|exact rfl) ?_)
  obtain rfl:=oJ a
  exact⟨([.int .i64 S,.int .i64 T,.slice o U.length q]),rfl,(New.pair (New.int z) (New.pair (New.int A) (New.from P f)))⟩
theorem n05(h:Hp)(am:List Value)(aG:j0)(bS:Y0.R h am aG)(r:j0×F0)(c:U6 aG=some r):
  Tr Tryz.prog 220 #[.agg am.toArray] h λv d=>∃(al:List Value) (aj:Option Addr) (aF ak:Nat),v = .tuple #[.agg al.toArray,.slice aj aF ak]/\New Y0 h d al r.1/\T0.R d [.slice aj aF ak] r.2:=by
 obtain⟨bO,V,aV,cA,a3,bP,rfl,rfl,aw,ax,W⟩:=C0 bS
 obtain⟨rfl,cq⟩:=Sl.len W
 unfold U6 at c
 dsimp only at c
 refine C2 (args:=[.agg #[.int .i64 bO,.int .i64 V,.slice aV bP.length a3]]) (fn:=Tryz.f220) rfl ?_
 refine trM c (o7 _ _ _ (l0 aw ax W)) ?_
 rintro b8 c cP I ⟨ar,cC,an,rfl,O⟩
 have Y:Sub h I:=O.sub
 have aJ:=O.r
 obtain⟨aP,aQ,ac⟩:=b8
 dsimp only at c O aJ
 obtain⟨_,_,_,_,_,_,bd,bf,aB,aC,bT⟩:=C0 aJ
 cases bd
 cases bf
 obtain⟨rfl,cs⟩:=Sl.len bT
 try dsimp only at c
 have aM:=New.sndI (New.sndI (O))
 refine trV c (j00 _ _ _ (l0 aw ax (K0.mono Y W))) λcW c=>?_
 refine ifB c (λbC c=>?_) λbC c=>?_
 ·intro cT cn bi
  obtain⟨aY,ba,rfl,bY,b3,cv⟩:=E1.out (r:=Wp.int.toRp) bi (show F2 (Wp.int.R I) ([]:List (List Value)) ([]:F0) from trivial)
  obtain rfl:=oJ c
  exact⟨([.int .i64 aP,.int .i64 aQ,.slice (some ⟨ar,0,none⟩) ac.length an]),aY,(([]:F0)).length,ba,rfl,(New.pair (New.int aB) (New.pair (New.int aC) (New.mono aM b3))),bY⟩
 ·obtain⟨af,bp,c⟩:=z0 c
  refine eX { vars:=[6],boxes:=[],owns:=[0],fuel:=true } (eX (λvs os d=>∃ g N n,vs.tail = [.int .i64 g]/\os = [N]/\Sub I d/\J0 g/\F2 (Wp.int.R d) N n/\M5 V (I1 vs) g n=some af) (eX (λ_ _=>0) (aI (eX P0 ⟨0,[],([]:F0),rfl,rfl,(Sub.refl _),(by decide),(show F2 (Wp.int.R I) ([]:List (List Value)) ([]:F0) from trivial),bp⟩) ?_)))
  rintro _ N J aD ⟨g,cY,n,⟨⟩,⟨⟩,M,ay,u,a⟩
  replace a:M5 V J g n=some af:=a
  obtain _|J:=J
  ·cases a
  rw[M5.eq_2]at a
  refine ifB a (λbu a=>?_) λbu a=>?_
  ·obtain⟨cH,bj,a⟩:=z0 a
   refine aI (K1 bj (by first|rw[F2.length u,F2.length (show F2 (Wp.int.R aD) ([[.int .i64 g]]:List (List Value)) [g] from⟨⟨rfl,ay⟩,trivial⟩)]|exact congrArg (·+1) (F2.length u))) ?_
   exact N1 J ⟨(IntKind.i64.wrap (g+1)),(N++([[.int .i64 g]]:List (List Value))),(n ++ [g]),rfl,rfl,M,(I0 _),(F2.append u (show F2 (Wp.int.R aD) ([[.int .i64 g]]:List (List Value)) [g] from⟨⟨rfl,ay⟩,trivial⟩)),a⟩
  ·obtain rfl:=oJ a
   try dsimp only[S0,U0]at c
   obtain⟨ag,bq,c⟩:=z0 c
   refine eX { vars:=[5],boxes:=[2],owns:=[],fuel:=true,pubs:=[5] } (eX (λvs os d=>∃(D:Option Addr) (T t:Nat) (A:F0) (l:Int) (i:Int) (E:Option Addr) (U F:Nat) (o:M0),vs.tail = [.slice D T t,.int .i64 l,.int .i64 i,.slice E U F]/\os = []/\Sub h d/\New T0 h d [.slice D T t] A/\J0 l/\J0 i/\New K0 h d [.slice E U F] o/\d5 (I1 vs) A l i o=some ag) (eX (λ_ _=>0) ?_))
   intro cO ck aq
   obtain⟨aZ,bb,rfl,cL,aL,cw⟩:=E1.out (r:=Wp.int.toRp) aq u
   refine aI (eX P0 ⟨aZ,n.length,bb,n,aP,aQ,(some ⟨ar,0,none⟩),ac.length,an,ac,rfl,rfl,((Y.trans M).trans aL),(New.from (E1.newPlain (r:=Wp.int) aq u (M0e _)) (Y.trans M)),aB,aC,(New.mono aM (M.trans aL)),bq⟩) ?_
   rintro _ _ _ _ K cl ⟨D,T,t,A,l,i,E,U,F,o,⟨⟩,⟨⟩,cN,aN,G,H,aO,a⟩
   replace a:d5 K A l i o=some ag:=a
   obtain _|K:=K
   ·cases a
   rw[d5.eq_2]at a
   have aH:=aN.r
   obtain⟨rfl,bK⟩:=Sl.len aH
   have L:=aO.r
   obtain⟨rfl,cr⟩:=Sl.len L
   refine trM a (G07 _ _ _ (l0 G H L) 0 (by decide)) ?_
   rintro aR a cQ bG ⟨cd,cD,ch,rfl,aK,p⟩
   obtain⟨rfl,ct⟩:=Sl.len aK
   obtain⟨ah,br,a⟩:=z0 a
   refine eX { vars:=[8,9],boxes:=[],owns:=[],fuel:=true } (eX (λvs os d=>∃ k m,vs.tail = [.int .i64 k,.int .i64 m]/\os = []/\Sub bG d/\J0 k/\J0 m/\R3 i l o aR (I1 vs) k m=some ah) (eX (λ_ _=>0) (aI (eX P0 ⟨0,1,rfl,rfl,(Sub.refl _),(by decide),(by decide),br⟩) ?_)))
   rintro _ _ x S ⟨k,m,⟨⟩,⟨⟩,j,bD,az,b⟩
   replace b:R3 i l o aR x k m=some ah:=b
   obtain _|x:=x
   ·cases b
   rw[R3.eq_2]at b
   refine ifB b (λbv b=>?_) λbv b=>?_
   ·refine trV b (F0b _ _ _ (l0 G H (K0.mono (p.trans j) L)) _ az) λca b=>?_
    obtain⟨cI,bk,b⟩:=z0 b
    have cj:J0 ca:=Q0 bk
    obtain⟨cV,bn,b⟩:=z0 b
    obtain⟨cf,ap,bU⟩:=Sl.getG (r:=Wp.bool.toRp) ((Wp.slice Wp.bool).mono j aK) bn (by decide) (V0p S)
    refine aI (λq=>(ap q).1) ?_
    obtain rfl:=bU
    refine eX _ (aI (λq=>(ap q).2) ?_)
    refine ifB b (λbx b=>?_) λbx b=>?_
    ·exact N1 x ⟨m,(IntKind.i64.wrap (m+1)),rfl,rfl,j,az,(I0 _),b⟩
    ·exact N1 x ⟨k,(IntKind.i64.wrap (m+1)),rfl,rfl,j,bD,(I0 _),b⟩
   ·obtain rfl:=oJ b
    try dsimp only[S0,U0]at a
    refine ifB a (λbz a=>?_) λbz a=>?_
    ·obtain rfl:=oJ a
     try dsimp only[C3,V3]at c
     obtain rfl:=oJ c
     exact⟨([.int .i64 l,.int .i64 i,.slice E o.length F]),D,A.length,t,rfl,(New.pair (New.int G) (New.pair (New.int H) (New.mono aO (p.trans j)))),(T0.mono (p.trans j) aH)⟩
    ·obtain⟨ai,bs,a⟩:=z0 a
     refine eX { vars:=[11],boxes:=[],owns:=[1],fuel:=true } (eX (λvs os d=>∃ f C s,vs.tail = [.int .i64 f]/\os = [C]/\Sub S d/\J0 f/\F2 (Wp.int.R d) C s/\c5 i k (I1 vs) f s=some ai) (eX (λ_ _=>0) (aI (eX P0 ⟨0,[],([]:F0),rfl,rfl,(Sub.refl _),(by decide),(show F2 (Wp.int.R S) ([]:List (List Value)) ([]:F0) from trivial),bs⟩) ?_)))
     rintro _ C y aE ⟨f,cZ,s,⟨⟩,⟨⟩,z,aA,w,b⟩
     replace b:c5 i k y f s=some ai:=b
     obtain _|y:=y
     ·cases b
     rw[c5.eq_2]at b
     refine ifB b (λbA b=>?_) λbA b=>?_
     ·refine ifB b (λbB b=>?_) λbB b=>?_
      ·obtain⟨cJ,bl,b⟩:=z0 b
       refine aI (K1 bl (by first|rw[F2.length w,F2.length (show F2 (Wp.int.R aE) ([[.int .i64 f]]:List (List Value)) [f] from⟨⟨rfl,aA⟩,trivial⟩)]|exact congrArg (·+1) (F2.length w))) ?_
       exact N1 y ⟨(IntKind.i64.wrap (f+1)),(C++([[.int .i64 f]]:List (List Value))),(s ++ [f]),rfl,rfl,z,(I0 _),(F2.append w (show F2 (Wp.int.R aE) ([[.int .i64 f]]:List (List Value)) [f] from⟨⟨rfl,aA⟩,trivial⟩)),b⟩
      ·exact N1 y ⟨(IntKind.i64.wrap (f+1)),C,s,rfl,rfl,z,(I0 _),w,b⟩
     ·obtain rfl:=oJ b
      try dsimp only[S0,U0]at a
      refine Or.inl ?_
      intro cR bH bh
      obtain⟨ce,ci,rfl,bZ,Z,cx⟩:=E1.out (r:=Wp.int.toRp) bh w
      refine trM a (u0b _ _ _ (l0 G H (K0.mono (((p.trans j).trans z).trans Z) L)) _ _ _ _ bZ) ?_
      rintro cX a cS bI ⟨cg,rfl,aa⟩
      have b1:Sub bH bI:=aa.sub
      have bV:=aa.r
      obtain⟨cb,cc,aX,cE,a4,aS,rfl,rfl,bE,bF,bW⟩:=C0 bV
      obtain⟨rfl,cu⟩:=Sl.len bW
      try dsimp only at a
      have b6:=New.sndI (New.sndI (aa))
      obtain⟨ad,au,a⟩:=z0 a
      obtain⟨ae,av,a⟩:=z0 a
      obtain⟨cK,bm,a⟩:=z0 a
      obtain⟨bQ,a1,ao,bo,bN,aT,aU,b4,b5,be,bR,a2,cp,cz,bX,b2,bL,bM,aW⟩:=New.drop aN ((((p.trans j).trans z).trans Z).trans b1) au av (i0q bK au av)
      subst be
      refine Or.inr (Or.inr (Or.inl (aI (aI (by kernel_rfl) (by kernel_rfl)) ?_)))
      refine Or.inl (eX (.val (.slice (some ⟨bo,bN,none⟩) ad.length t)) (aI ?_ ?_))
      ·intro P X
       obtain⟨vs,e⟩:=ao P X
       exact aI a1 (eX vs (aI e (λv _ Q=>aI (congrArg AV.val (bQ v Q)) (aI rfl rfl))))
      refine Or.inl (eX (.val (.int .i64 (IntKind.i64.wrap (k+1)))) (aI ?_ ?_))
      ·intro cm cM
       exact aI rfl (aI rfl rfl)
      refine Or.inl (eX (.val (.slice aT ae.length aU)) (aI ?_ ?_))
      ·intro P X
       obtain⟨vs,e⟩:=ao P X
       exact aI a2 (eX vs (aI e (λv _ Q=>aI (congrArg AV.val (bR v Q)) (aI rfl rfl))))
      refine Or.inr ?_
      refine Or.inl (eX 0 (aI (aI rfl rfl) ?_))
      refine eX b5 (aI b2 (eX b4 (aI bX (aI (K1 bm (by rw[bL,bM])) ?_))))
      intro cU co bt
      obtain⟨ab,⟨a0,cG,bc,rfl⟩,bJ⟩:=aW _ _ bt
      have b0:=ab.r
      obtain⟨bg,cy⟩:=Sl.len b0
      subst bg
      refine aI trivial (aI (by first|exact trivial|exact rfl) ?_)
      have b7:=bJ Z0.slice _ _ _ b6 (((p.trans j).trans z).trans Z)
      exact N1 K ⟨a0,(ad++ae).length,bc,(ad++ae),cb,cc,aX,aS.length,a4,aS,rfl,rfl,ab.sub,ab,bE,bF,b7,a⟩
theorem H01(h:Hp)(n:List Value)(o:j0)(U:Y0.R h n o)(r:Bool)(a:r7 o=some r):
  Tr Tryz.prog 111 #[.agg n.toArray] h λv I=>v = .bool r/\I=h:=by
 obtain⟨S,p,y,aD,A,T,rfl,rfl,f,g,b⟩:=C0 U
 obtain⟨rfl,az⟩:=Sl.len b
 unfold r7 at a
 dsimp only at a
 refine Tr.forget (C2 (args:=[.agg #[.int .i64 S,.int .i64 p,.slice y T.length A]]) (fn:=Tryz.f111) rfl ?_)
 refine trV a (w9 _ _ _ (l0 f g b)) λaK a=>?_
 refine ifB a (λJ a=>?_) λJ a=>?_
 ·obtain rfl:=oJ a
  exact aI rfl (Sub.refl _)
 ·refine trM a (n05 _ _ _ (l0 f g b)) ?_
  rintro ad a aJ P ⟨aj,ah,aF,am,rfl,m,s⟩
  obtain⟨aL,aO⟩:=ad
  dsimp only at a m s
  have l:Sub h P:=m.sub
  have V:=m.r
  obtain⟨aM,ae,ag,aE,al,aN,rfl,rfl,aq,ar,W⟩:=C0 V
  obtain⟨rfl,aA⟩:=Sl.len W
  try dsimp only at a
  obtain⟨rfl,aB⟩:=Sl.len s
  refine Or.inr (Or.inr (Or.inr (Or.inl (aI (aI (by kernel_rfl) (by kernel_rfl)) ?_))))
  refine Or.inl (eX (.val (.bool (decide (ae=p)))) (aI ?_ ?_))
  ·intro aw aH
   exact aI rfl (aI rfl rfl)
  obtain⟨af,H,a⟩:=z0 a
  obtain⟨w,x,i⟩:=af
  try dsimp only at a
  refine Or.inr (eX (λv K=>∃(c:Option Addr) (d:Nat),v = .agg #[.int .i64 w,.int .i64 x,.slice c i.length d]/\J0 w/\J0 x/\K0.R K [.slice c i.length d] i/\i.length<=9223372036854775807) (aI (λv ao ap k q=>by obtain⟨c,d,e,E,F,f2,f3⟩:=q;exact⟨c,d,e,E,F,K0.mono k f2,f3⟩) (aI ?_ ?_)))
  ·intro ax Z j
   refine Tr.mono (B02 _ _ _ (l0 f g (K0.mono (l.trans Z) b)) _ (O9 H j)) ?_
   rintro _ ay ⟨ak,rfl,u⟩
   have k:=u.sub
   have X:=u.r
   obtain⟨aP,aQ,z,aG,C,aR,rfl,D,L,M,t⟩:=C0 X
   cases D
   obtain⟨rfl,Q⟩:=Sl.len t
   exact aI m00 (aI k ⟨z,C,rfl,L,M,t,Q⟩)
  obtain⟨ac,G,a⟩:=z0 a
  refine Or.inl (eX (.val (.bool ac)) (aI ?_ ?_))
  ·intro au aa j
   rintro _ ⟨ai,an,rfl,N,O,Y,aC⟩
   exact Tr.val (A08 _ _ _ (l0 N O Y) _ _ (l0 f g (K0.mono (l.trans aa) b)) _ (O9 G j)) (aI rfl (aI rfl rfl))
  intro av ab
  obtain rfl:=oJ a
  exact aI rfl (l.trans ab)
theorem w04(h:Hp)(b:Int)(g:J0 b)(c:Int)(k:J0 c)(d:Int)(i:J0 d)(r:D0)(a:o00 b c d=some r):
  Tr Tryz.prog 203 #[.int .i64 b,.int .i64 c,.int .i64 d] h λv f=>∃(e:List Value),v = .agg e.toArray/\Z0.R f e r/\Sub h f:=by
 unfold o00 at a
 refine C2 (args:=[.int .i64 b,.int .i64 c,.int .i64 d]) (fn:=Tryz.f203) rfl ?_
 refine ifB a (λj a=>?_) λj a=>?_
 ·obtain rfl:=oJ a
  exact⟨([.int .i64 d,.int .i64 (IntKind.i64.wrap (0-c)),.int .i64 b]),rfl,(C1 i (I0 _) g),(Sub.refl _)⟩
 ·obtain rfl:=oJ a
  exact⟨([.int .i64 b,.int .i64 c,.int .i64 d]),rfl,(C1 g k i),(Sub.refl _)⟩
theorem D8(h:Hp)(k:Option Addr)(p l:Nat)(d:M0)(s:K0.R h [.slice k p l] d)(o:List Value)(q:D0)(x:Z0.R h o q)(r:Int)(b:Q1 d q=some r):
  Tr Tryz.prog 202 #[.slice k p l,.agg o.toArray] h λv m=>v = .int .i64 r/\m=h:=by
 obtain⟨rfl,M⟩:=Sl.len s
 obtain⟨f,g,i,rfl,rfl,E,F,G⟩:=G1 x
 unfold Q1 at b
 dsimp only at b
 refine Tr.forget (C2 (args:=[.slice k d.length l,.agg #[.int .i64 f,.int .i64 g,.int .i64 i]]) (fn:=Tryz.f202) rfl ?_)
 obtain⟨n,t,b⟩:=z0 b
 refine eX { vars:=[8],boxes:=[],owns:=[],fuel:=true } (eX (λvs os m=>∃ c,vs.tail = [.int .i64 c]/\os = []/\Sub h m/\J0 c/\D1 d f g i (I1 vs) c=some n) (eX (λ_ _=>0) (aI (eX P0 ⟨0,rfl,rfl,(Sub.refl _),(by decide),t⟩) ?_)))
 rintro _ e L ⟨c,⟨⟩,⟨⟩,j,H,a⟩
 replace a:D1 d f g i e c=some n:=a
 obtain _|e:=e
 ·cases a
 rw[D1.eq_2]at a
 refine ifB a (λu a=>?_) λu a=>?_
 ·refine Or.inl (aI (aI (by kernel_rfl) (by kernel_rfl)) ?_)
  refine ld a (K0.mono j s) λN D y a=>?_
  obtain⟨z,A,C,rfl,rfl,I,J,K⟩:=G1 y
  try dsimp only at a
  refine eX (eqE (f,g,i) (z,A,C)) (aI (A07 _ _ _ rfl _ _ _ _ _ _) ?_)
  refine ifB a (λw a=>?_) λw a=>?_
  ·obtain rfl:=oJ a
   try dsimp only[C3,V3]at b
   obtain rfl:=oJ b
   exact aI rfl j
  ·exact N1 e ⟨(IntKind.i64.wrap (c+1)),rfl,rfl,j,(I0 _),a⟩
 ·obtain rfl:=oJ a
  try dsimp only[S0,U0]at b
  obtain rfl:=oJ b
  exact aI rfl j
theorem G00(h:Hp)(b:Option Addr)(f c:Nat)(d:M0)(i:K0.R h [.slice b f c] d)(e:List Value)(g:D0)(s:Z0.R h e g)(r:Bool)(a:M2 d g=some r):
  Tr Tryz.prog 285 #[.slice b f c,.agg e.toArray] h λv k=>v = .bool r/\k=h:=by
 obtain⟨rfl,w⟩:=Sl.len i
 obtain⟨o,p,q,rfl,rfl,l,m,n⟩:=G1 s
 unfold M2 at a
 dsimp only at a
 refine Tr.forget (C2 (args:=[.slice b d.length c,.agg #[.int .i64 o,.int .i64 p,.int .i64 q]]) (fn:=Tryz.f285) rfl ?_)
 refine trV a (D8 _ _ _ _ _ i _ _ (C1 l m n)) λt a=>?_
 obtain⟨x,j,a⟩:=z0 a
 have u:J0 t:=Q0 j
 obtain rfl:=oJ a
 exact aI rfl (Sub.refl _)
theorem w02(h:Hp)(c:Int)(l:J0 c)(e:Nat)(k:TypeId)(d:Int)(m:J0 d)(b:Int)(n:J0 b)(f:h e=some (.cells #[.int .i64 d,.int .i64 b] k (0,0)))(r:Int)(a:a6 c (d,b)=some r):
  Tr Tryz.prog 366 #[.int .i64 c,ptr e 0] h λv g=>v = .int .i64 r/\g=h:=by
 unfold a6 at a
 dsimp only at a
 refine Tr.forget (C2 (args:=[.int .i64 c,ptr e 0]) (fn:=Tryz.f366) rfl ?_)
 refine eX (.int .i64 b) (aI ⟨rfl,by simp[Hp.cell,(f)]⟩ ?_)
 refine ifB a (λi a=>?_) λi a=>?_
 ·refine eX (.int .i64 d) (aI ⟨rfl,by simp[Hp.cell,(f)]⟩ ?_)
  obtain rfl:=oJ a
  exact aI rfl (Sub.refl _)
 ·refine eX (.int .i64 b) (aI ⟨rfl,by simp[Hp.cell,(f)]⟩ ?_)
  refine ifB a (λj a=>?_) λj a=>?_
  ·obtain rfl:=oJ a
   exact aI rfl (Sub.refl _)
  ·obtain rfl:=oJ a
   exact aI rfl (Sub.refl _)
theorem P0d(h:Hp)(U:List Value)(an:j0)(a3:Y0.R h U an)(s:Int)(X:J0 s)(D:Option Addr)(am E:Nat)(t:F0)(L:T0.R h [.slice D am E] t)(f:Int)(H:J0 f)(r:j0×Bool)(b:b01 an s t f=some r):
  Tr Tryz.prog 288 #[.agg U.toArray,.int .i64 s,.slice D am E,.int .i64 f] h λv y=>∃(T:List Value),v = .tuple #[.agg T.toArray,.bool r.2]/\New Y0 h y T r.1:=by
 obtain⟨a0,a1,ay,bz,aC,a2,rfl,rfl,o,z,u⟩:=C0 a3
 obtain⟨rfl,bq⟩:=Sl.len u
 obtain⟨rfl,br⟩:=Sl.len L
 unfold b01 at b
 dsimp only at b
 refine C2 (args:=[.agg #[.int .i64 a0,.int .i64 a1,.slice ay a2.length aC],.int .i64 s,.slice D t.length E,.int .i64 f]) (fn:=Tryz.f288) rfl ?_
 refine trM b (o7 _ _ _ (l0 o z u)) ?_
 rintro bj b bJ aW ⟨W,bA,V,rfl,C⟩
 have w:Sub h aW:=C.sub
 have ap:=C.r
 obtain⟨aw,ax,Q⟩:=bj
 dsimp only at b C ap
 obtain⟨_,_,_,_,_,_,aG,aH,aa,ab,a4⟩:=C0 ap
 cases aG
 cases aH
 obtain⟨rfl,bt⟩:=Sl.len a4
 try dsimp only at b
 have av:=New.sndI (New.sndI (C))
 refine trV b (j00 _ _ _ (l0 o z (K0.mono w u))) λbQ b=>?_
 refine trG b (λq=>r01 _ _ _ (l0 o z (K0.mono w u)) _ X) λbR b=>?_
 refine trG b (λq=>r01 _ _ _ (l0 o z (K0.mono w u)) _ H) λbS b=>?_
 refine trG b (λq=>N02 _ _ o _ _ _ _ (T0.mono w L)) λbT b=>?_
 refine ifB b (λaU b=>?_) λaU b=>?_
 ·obtain rfl:=oJ b
  exact⟨([.int .i64 aw,.int .i64 ax,.slice (some ⟨W,0,none⟩) Q.length V]),rfl,(New.pair (New.int aa) (New.pair (New.int ab) av))⟩
 ·obtain⟨S,aP,b⟩:=z0 b
  refine eX { vars:=[11,66],boxes:=[2],owns:=[],fuel:=true } (eX (λvs os y=>∃ x g d c G K J F e,vs.tail = [.int .i64 x,.int .i64 g,.int .i64 d,.int .i64 c,.slice (some ⟨G,K,none⟩) J F]/\os = []/\Sub h y/\J0 x/\J0 g/\J0 d/\J0 c/\New K0 h y [.slice (some ⟨G,K,none⟩) J F] e/\c6 t f (I1 vs) x g d c e=some S) (eX (λ_ _=>0) (aI (eX P0 ⟨s,0,aw,ax,W,0,Q.length,V,Q,rfl,rfl,w,X,(by decide),aa,ab,av,aP⟩) ?_)))
  rintro _ _ _ _ _ p aV ⟨x,g,d,c,G,K,J,F,e,⟨⟩,⟨⟩,aq,Y,bn,I,A,M,a⟩
  replace a:c6 t f p x g d c e=some S:=a
  obtain _|p:=p
  ·cases a
  rw[c6.eq_2]at a
  have ao:=M.r
  obtain⟨rfl,bs⟩:=Sl.len ao
  refine ifB a (λaS a=>?_) λaS a=>?_
  ·refine ldI a (T0.mono aq L) λbN Z a=>?_
   refine ifB a (λaT a=>?_) λaT a=>?_
   ·refine Or.inr (Or.inr (Or.inl (aI (aI (by kernel_rfl) (by kernel_rfl)) ?_)))
    refine Or.inr ?_
    refine Or.inr ?_
    refine Or.inr ?_
    refine Or.inr ?_
    refine Or.inl (eX 1 (aI (aI rfl rfl) ?_))
    refine trM a (w04 _ _ Y _ Z _ A) ?_
    rintro bO a bH ai ⟨bl,rfl,ba,ar⟩
    obtain⟨i,j,k,rfl,rfl,ac,ad,ae⟩:=G1 ba
    try dsimp only at a
    refine aI (aI rfl ar) (aI (by first|exact trivial|exact rfl) ?_)
    refine aI trivial (aI (by first|exact trivial|exact rfl) ?_)
    obtain⟨bE,aL,a⟩:=z0 a
    obtain⟨bh,bd,ak,az⟩:=New.app M ar
    refine eX bh (aI bd (aI (K1 aL (by first|rw[ak,F2.length (show F2 (Z0.R ai) ([[.int .i64 i,.int .i64 j,.int .i64 k]]:List (List Value)) [(i,j,k)] from⟨(C1 ac ad ae),trivial⟩)]|(rw[ak];rfl))) ?_))
    intro bL bo aQ
    obtain⟨O,aN,aY,bC,aE,rfl⟩:=az _ _ _ _ _ (F3.ofPlain (N05 _) (show F2 (Z0.R ai) ([[.int .i64 i,.int .i64 j,.int .i64 k]]:List (List Value)) [(i,j,k)] from⟨(C1 ac ad ae),trivial⟩)) r6.ofPlain aQ
    have bf:=O.r
    obtain⟨aJ,bv⟩:=Sl.len bf
    subst aJ
    refine aI trivial (aI (by first|exact trivial|exact rfl) ?_)
    refine aI trivial (aI (by first|exact trivial|exact rfl) ?_)
    exact N1 p ⟨c,(IntKind.i64.wrap (g+1)),d,(IntKind.i64.wrap (c+1)),aN,aY,(e ++ [(i,j,k)]).length,aE,(e ++ [(i,j,k)]),rfl,rfl,O.sub,A,(I0 _),I,(I0 _),O,a⟩
   ·refine Or.inr (Or.inr (Or.inl (aI (aI (by kernel_rfl) (by kernel_rfl)) ?_)))
    refine Or.inr ?_
    refine Or.inr ?_
    refine Or.inr ?_
    refine Or.inr ?_
    refine Or.inl (eX 1 (aI (aI rfl rfl) ?_))
    refine trM a (w04 _ _ Y _ Z _ H) ?_
    rintro bP a bI aj ⟨bm,rfl,bb,au⟩
    obtain⟨l,m,n,rfl,rfl,af,ag,ah⟩:=G1 bb
    try dsimp only at a
    refine aI (aI rfl au) (aI (by first|exact trivial|exact rfl) ?_)
    refine aI trivial (aI (by first|exact trivial|exact rfl) ?_)
    obtain⟨bF,aM,a⟩:=z0 a
    obtain⟨bi,be,al,aA⟩:=New.app M au
    refine eX bi (aI be (aI (K1 aM (by first|rw[al,F2.length (show F2 (Z0.R aj) ([[.int .i64 l,.int .i64 m,.int .i64 n]]:List (List Value)) [(l,m,n)] from⟨(C1 af ag ah),trivial⟩)]|(rw[al];rfl))) ?_))
    intro bM bp aR
    obtain⟨P,aO,aZ,bD,aF,rfl⟩:=aA _ _ _ _ _ (F3.ofPlain (N05 _) (show F2 (Z0.R aj) ([[.int .i64 l,.int .i64 m,.int .i64 n]]:List (List Value)) [(l,m,n)] from⟨(C1 af ag ah),trivial⟩)) r6.ofPlain aR
    have bg:=P.r
    obtain⟨aK,bx⟩:=Sl.len bg
    subst aK
    refine aI trivial (aI (by first|exact trivial|exact rfl) ?_)
    refine aI trivial (aI (by first|exact trivial|exact rfl) ?_)
    exact N1 p ⟨f,(IntKind.i64.wrap (g+1)),d,c,aO,aZ,(e ++ [(l,m,n)]).length,aF,(e ++ [(l,m,n)]),rfl,rfl,P.sub,H,(I0 _),I,A,P,a⟩
  ·obtain rfl:=oJ a
   try dsimp only[S0,U0]at b
   refine trM b (G01 _ _ _ _ _ ao) ?_
   rintro bk b bK aX ⟨aB,bB,aD,rfl,N⟩
   have bG:Sub aV aX:=N.sub
   have bc:=N.r
   obtain⟨rfl,bu⟩:=Sl.len bc
   obtain rfl:=oJ b
   exact⟨([.int .i64 d,.int .i64 c,.slice aB bk.length aD]),rfl,(New.pair (New.int I) (New.pair (New.int A) (New.from N aq)))⟩
theorem E0g(h:Hp)(I:List Value)(L:j0)(ao:Y0.R h I L)(r:g8)(u:s02 L=some r):
  Tr Tryz.prog 365 #[.agg I.toArray] h λv o=>∃(G:Option Addr) (K H:Nat),v = .slice G K H/\a0g.R o [.slice G K H] r/\Sub h o:=by
 obtain⟨al,am,P,aM,S,C,rfl,rfl,aB,aC,D⟩:=C0 ao
 obtain⟨rfl,aJ⟩:=Sl.len D
 unfold s02 at u
 dsimp only at u
 refine C2 (args:=[.agg #[.int .i64 al,.int .i64 am,.slice P C.length S]]) (fn:=Tryz.f365) rfl ?_
 obtain⟨E,ab,u⟩:=z0 u
 refine eX { vars:=[12],boxes:=[],owns:=[0],fuel:=true } (eX (λvs os o=>∃ w A x,vs.tail = [.int .i64 w]/\os = [A]/\Sub h o/\J0 w/\F2 (Q4.R o) A x/\p8 C (I1 vs) w x=some E) (eX (λ_ _=>0) (aI (eX P0 ⟨0,[],([]:g8),rfl,rfl,(Sub.refl _),(by decide),(show F2 (Q4.R h) ([]:List (List Value)) ([]:g8) from trivial),ab⟩) ?_)))
 rintro _ A y ak ⟨w,aV,x,⟨⟩,⟨⟩,z,aE,J,f⟩
 replace f:p8 C y w x=some E:=f
 obtain _|y:=y
 ·cases f
 rw[p8.eq_2]at f
 refine ifB f (λai f=>?_) λai f=>?_
 ·refine ld f (K0.mono z D) λaT az aq f=>?_
  obtain⟨c,N,a,rfl,rfl,q,aG,j⟩:=G1 aq
  try dsimp only at f
  obtain⟨O,aa,f⟩:=z0 f
  obtain⟨an,av,U,W⟩:=Sl.cutI (r:=Z0.toRp) (K0.mono z D) aa
  refine aI an (eX av (aI U ?_))
  intro aw aj _
  obtain⟨ax,aA,rfl,M⟩:=W aw aj
  have aK:=(Sl.len M).2
  obtain⟨F,ac,f⟩:=z0 f
  refine eX { vars:=[23],boxes:=[],owns:=[0],fuel:=true } (eX (λvs os o=>∃ k n l,vs.tail = [.int .i64 k]/\os = [n]/\Sub ak o/\J0 k/\F2 (Q4.R o) n l/\T4 O N c a (I1 vs) k l=some F) (eX (λ_ _=>0) (aI (eX P0 ⟨0,A,x,rfl,rfl,(Sub.refl _),(by decide),J,ac⟩) ?_)))
  rintro _ n s m ⟨k,aU,l,⟨⟩,⟨⟩,t,aD,g,e⟩
  replace e:T4 O N c a s k l=some F:=e
  obtain _|s:=s
  ·cases e
  rw[T4.eq_2]at e
  refine ifB e (λad e=>?_) λad e=>?_
  ·refine ld e (K0.mono t M) λaR ay ap e=>?_
   obtain⟨d,aS,b,rfl,rfl,p,aF,i⟩:=G1 ap
   try dsimp only at e
   refine ifB e (λae e=>?_) λae e=>?_
   ·exact N1 s ⟨(IntKind.i64.wrap (k+1)),n,l,rfl,rfl,t,(I0 _),g,e⟩
   ·refine ifB e (λaf e=>?_) λaf e=>?_
    ·obtain⟨aN,X,e⟩:=z0 e
     refine aI (K1 X (by first|rw[F2.length g,F2.length (show F2 (Q4.R m) ([[.int .i64 (if b<a then b else a),.int .i64 (if b>a then b else a)]]:List (List Value)) [((if b<a then b else a),(if b>a then b else a))] from⟨(Y1 (S7 i j) (S7 i j)),trivial⟩)]|exact congrArg (·+1) (F2.length g))) ?_
     refine ifB e (λag e=>?_) λag e=>?_
     ·obtain⟨aO,Y,e⟩:=z0 e
      refine aI (K1 Y (by first|rw[F2.length (F2.append g (show F2 (Q4.R m) ([[.int .i64 (if b<a then b else a),.int .i64 (if b>a then b else a)]]:List (List Value)) [((if b<a then b else a),(if b>a then b else a))] from⟨(Y1 (S7 i j) (S7 i j)),trivial⟩)),F2.length (show F2 (Q4.R m) ([[.int .i64 (if d<c then d else c),.int .i64 (if d>c then d else c)]]:List (List Value)) [((if d<c then d else c),(if d>c then d else c))] from⟨(Y1 (S7 p q) (S7 p q)),trivial⟩)]|exact congrArg (·+1) (F2.length (F2.append g (show F2 (Q4.R m) ([[.int .i64 (if b<a then b else a),.int .i64 (if b>a then b else a)]]:List (List Value)) [((if b<a then b else a),(if b>a then b else a))] from⟨(Y1 (S7 i j) (S7 i j)),trivial⟩))))) ?_
      exact N1 s ⟨(IntKind.i64.wrap (k+1)),((n++([[.int .i64 (if b<a then b else a),.int .i64 (if b>a then b else a)]]:List (List Value)))++([[.int .i64 (if d<c then d else c),.int .i64 (if d>c then d else c)]]:List (List Value))),((l ++ [((if b<a then b else a),(if b>a then b else a))]) ++ [((if d<c then d else c),(if d>c then d else c))]),rfl,rfl,t,(I0 _),(F2.append (F2.append g (show F2 (Q4.R m) ([[.int .i64 (if b<a then b else a),.int .i64 (if b>a then b else a)]]:List (List Value)) [((if b<a then b else a),(if b>a then b else a))] from⟨(Y1 (S7 i j) (S7 i j)),trivial⟩)) (show F2 (Q4.R m) ([[.int .i64 (if d<c then d else c),.int .i64 (if d>c then d else c)]]:List (List Value)) [((if d<c then d else c),(if d>c then d else c))] from⟨(Y1 (S7 p q) (S7 p q)),trivial⟩)),e⟩
     ·exact N1 s ⟨(IntKind.i64.wrap (k+1)),(n++([[.int .i64 (if b<a then b else a),.int .i64 (if b>a then b else a)]]:List (List Value))),(l ++ [((if b<a then b else a),(if b>a then b else a))]),rfl,rfl,t,(I0 _),(F2.append g (show F2 (Q4.R m) ([[.int .i64 (if b<a then b else a),.int .i64 (if b>a then b else a)]]:List (List Value)) [((if b<a then b else a),(if b>a then b else a))] from⟨(Y1 (S7 i j) (S7 i j)),trivial⟩)),e⟩
    ·refine ifB e (λah e=>?_) λah e=>?_
     ·obtain⟨aP,Z,e⟩:=z0 e
      refine aI (K1 Z (by first|rw[F2.length g,F2.length (show F2 (Q4.R m) ([[.int .i64 (if d<c then d else c),.int .i64 (if d>c then d else c)]]:List (List Value)) [((if d<c then d else c),(if d>c then d else c))] from⟨(Y1 (S7 p q) (S7 p q)),trivial⟩)]|exact congrArg (·+1) (F2.length g))) ?_
      exact N1 s ⟨(IntKind.i64.wrap (k+1)),(n++([[.int .i64 (if d<c then d else c),.int .i64 (if d>c then d else c)]]:List (List Value))),(l ++ [((if d<c then d else c),(if d>c then d else c))]),rfl,rfl,t,(I0 _),(F2.append g (show F2 (Q4.R m) ([[.int .i64 (if d<c then d else c),.int .i64 (if d>c then d else c)]]:List (List Value)) [((if d<c then d else c),(if d>c then d else c))] from⟨(Y1 (S7 p q) (S7 p q)),trivial⟩)),e⟩
     ·exact N1 s ⟨(IntKind.i64.wrap (k+1)),n,l,rfl,rfl,t,(I0 _),g,e⟩
  ·obtain rfl:=oJ e
   try dsimp only[S0,U0]at f
   exact N1 y ⟨(IntKind.i64.wrap (w+1)),n,l,rfl,rfl,(z.trans t),(I0 _),g,f⟩
 ·obtain rfl:=oJ f
  try dsimp only[S0,U0]at u
  intro aQ aH V
  obtain⟨Q,T,rfl,ar,au,aL⟩:=E1.out (r:=Q4.toRp) V J
  obtain rfl:=oJ u
  exact⟨Q,x.length,T,rfl,ar,(z.trans au)⟩
theorem Q0a(h:Hp)(d:List Value)(i:j0)(w:Y0.R h d i)(r:B5×Bool)(a:V8 i=some r):
  Tr Tryz.prog 346 #[.agg d.toArray] h λv e=>∃(c:List Value),v = .tuple #[.agg c.toArray,.bool r.2]/\Q4.R e c r.1/\Sub h e:=by
 obtain⟨s,t,l,H,m,u,rfl,rfl,f,g,b⟩:=C0 w
 obtain⟨rfl,F⟩:=Sl.len b
 unfold V8 at a
 dsimp only at a
 refine C2 (args:=[.agg #[.int .i64 s,.int .i64 t,.slice l u.length m]]) (fn:=Tryz.f346) rfl ?_
 refine trV a (j00 _ _ _ (l0 f g b)) λK a=>?_
 refine ifB a (λn a=>?_) λn a=>?_
 ·obtain rfl:=oJ a
  exact⟨([.int .i64 0,.int .i64 0]),rfl,(Y1 (by decide) (by decide)),(Sub.refl _)⟩
 ·refine trM a (E0g _ _ _ (l0 f g b)) ?_
  rintro L a J E ⟨A,I,D,rfl,j,k⟩
  obtain⟨rfl,G⟩:=Sl.len j
  refine ifB a (λo a=>?_) λo a=>?_
  ·obtain rfl:=oJ a
   exact⟨([.int .i64 0,.int .i64 0]),rfl,(Y1 (by decide) (by decide)),k⟩
  ·refine ld a j λM C x a=>?_
   obtain⟨y,z,rfl,rfl,p,q⟩:=p02 x
   try dsimp only at a
   obtain rfl:=oJ a
   exact⟨([.int .i64 y,.int .i64 z]),rfl,(Y1 p q),k⟩
theorem Z06(h:Hp)(D:List Value)(M:j0)(aA:Y0.R h D M)(E:List Value)(N:B5)(aB:Q4.R h E N)(r:j0×Bool)(b:Y6 M N=some r):
  Tr Tryz.prog 347 #[.agg D.toArray,.agg E.toArray] h λv i=>∃(C:List Value),v = .tuple #[.agg C.toArray,.bool r.2]/\New Y0 h i C r.1:=by
 obtain⟨ax,ay,U,aZ,X,az,rfl,rfl,G,H,u⟩:=C0 aA
 obtain⟨rfl,aW⟩:=Sl.len u
 obtain⟨d,f,rfl,rfl,I,J⟩:=p02 aB
 unfold Y6 at b
 dsimp only at b
 refine C2 (args:=[.agg #[.int .i64 ax,.int .i64 ay,.slice U az.length X],.agg #[.int .i64 d,.int .i64 f]]) (fn:=Tryz.f347) rfl ?_
 refine trM b (o7 _ _ _ (l0 G H u)) ?_
 rintro aK b bc L ⟨p,a0,F,rfl,o⟩
 have P:Sub h L:=o.sub
 have O:=o.r
 obtain⟨S,T,l⟩:=aK
 dsimp only at b o O
 obtain⟨_,_,_,_,_,_,Z,aa,K,ao,aD⟩:=C0 O
 cases Z
 cases aa
 obtain⟨rfl,aX⟩:=Sl.len aD
 try dsimp only at b
 have x:=New.sndI (New.sndI (o))
 refine trV b (j00 _ _ _ (l0 G H (K0.mono P u))) λbl b=>?_
 refine ifB b (λai b=>?_) λai b=>?_
 ·obtain rfl:=oJ b
  exact⟨([.int .i64 S,.int .i64 T,.slice (some ⟨p,0,none⟩) l.length F]),rfl,(New.pair (New.int K) (New.pair (New.int ao) x))⟩
 ·intro c s
  have ab:(Hp.set L c (.cells #[.int .i64 d,.int .i64 f] 246 (0,0))) c=some (.cells #[.int .i64 d,.int .i64 f] 246 (0,0)):=Hp.set_same _ _ _
  have aw:c≠p:=λe=>New.blk x (Sub.refl _) (e▸s)
  obtain⟨A,ag,b⟩:=z0 b
  refine eX { vars:=[39],boxes:=[],owns:=[],fuel:=true } (eX (λvs os i=>∃ g j,vs.tail = [.int .i64 g]/\os = []/\Sub h i/\J0 g/\New K0 h i [.slice (some ⟨p,0,none⟩) l.length F] j/\i c=some (.cells #[.int .i64 d,.int .i64 f] 246 (0,0))/\l4 l d f (I1 vs) g j=some A) (eX (λ_ _=>0) (aI (eX P0 ⟨0,l,rfl,rfl,(P.trans (Sub.set s)),(by decide),(New.mono x (Sub.set s)),ab,ag⟩) ?_)))
  rintro _ n aq ⟨g,j,⟨⟩,⟨⟩,aJ,aP,Q,t,a⟩
  replace a:l4 l d f n g j=some A:=a
  obtain _|n:=n
  ·cases a
  rw[l4.eq_2]at a
  have w:=Q.r
  refine ifB a (λah a=>?_) λah a=>?_
  ·refine ld a w λbe aM aC a=>?_
   obtain⟨bf,z,bg,rfl,rfl,ak,al,am⟩:=G1 aC
   try dsimp only at a
   refine Or.inr (Or.inr (Or.inl (aI (aI (by kernel_rfl) (by kernel_rfl)) ?_)))
   obtain⟨k,ae,a⟩:=z0 a
   obtain⟨a2,ac,a⟩:=z0 a
   have an:J0 k:=Q0 ac
   refine Or.inl (eX (.val (.int .i64 k)) (aI ?_ ?_))
   ·intro aT aG
    exact Tr.val (w02 _ _ ak c 246 _ I _ J (aG _ _ t) _ ae) (aI rfl (aI rfl rfl))
   obtain⟨m,af,a⟩:=z0 a
   obtain⟨a3,ad,a⟩:=z0 a
   have ap:J0 m:=Q0 ad
   refine Or.inl (eX (.val (.int .i64 m)) (aI ?_ ?_))
   ·intro aU aH
    exact Tr.val (w02 _ _ am c 246 _ I _ J (aH _ _ t) _ af) (aI rfl (aI rfl rfl))
   refine Or.inl (eX (.agg [.val (.int .i64 k),.val (.int .i64 z),.val (.int .i64 m)]) (aI ?_ ?_))
   ·intro aV ba
    exact aI rfl (aI rfl rfl)
   refine Or.inr ?_
   refine Or.inr ?_
   refine Or.inl (eX 0 (aI (aI rfl rfl) ?_))
   obtain⟨bh,q,a⟩:=z0 a
   obtain⟨W,aN,aO,aE⟩:=Sl.getI (r:=Z0.toRp) w q (by decide)
   refine aI W ?_
   obtain⟨bi,bj,bk,rfl,rfl,aQ,aR,aS⟩:=G1 aE
   try dsimp only at a
   refine aI trivial (aI (by first|exact trivial|exact rfl) ?_)
   refine New.put (r:=Z0) Q (Sub.refl _) (g0p q).1 (new:=[.int .i64 k,.int .i64 z,.int .i64 m]) (By:=[]) (N05 _ _ _ (C1 an al ap)) (r6.nil _) rfl (g0p q).2 ?_
   intro ar w28 av _
   have a4:=w28.r
   have aj:ar c=some (.cells #[.int .i64 d,.int .i64 f] 246 (0,0)):=(av c aw).trans t
   refine aI trivial (aI (by first|exact trivial|exact rfl) ?_)
   exact N1 n ⟨(IntKind.i64.wrap (g+1)),(j.set g.toNat (k,z,m)),rfl,rfl,w28.sub,(I0 _),w28,(aj),a⟩
  ·obtain rfl:=oJ a
   try dsimp only[S0,U0]at b
   refine trM b (G01 _ _ _ _ _ w) ?_
   rintro aL b bd au ⟨V,a1,Y,rfl,y⟩
   have bb:Sub aq au:=y.sub
   have aF:=y.r
   obtain⟨rfl,aY⟩:=Sl.len aF
   obtain rfl:=oJ b
   exact⟨([.int .i64 S,.int .i64 (IntKind.i64.wrap (T-1)),.slice V aL.length Y]),rfl,(New.pair (New.int K) (New.pair (New.int (I0 _)) (New.from y aJ)))⟩
theorem G0b(h:Hp)(k:List Value)(p:j0)(N:Y0.R h k p)(r:j0×B5×Bool)(a:A00 p=some r):
  Tr Tryz.prog 331 #[.agg k.toArray] h λv l=>∃(i:List Value) (j:List Value),v = .tuple #[.agg i.toArray,.agg j.toArray,.bool r.2.2]/\New Y0 h l i r.1/\Q4.R l j r.2.1:=by
 obtain⟨K,L,t,ak,w,M,rfl,rfl,f,g,b⟩:=C0 N
 obtain⟨rfl,ah⟩:=Sl.len b
 unfold A00 at a
 dsimp only at a
 refine C2 (args:=[.agg #[.int .i64 K,.int .i64 L,.slice t M.length w]]) (fn:=Tryz.f331) rfl ?_
 refine trM a (Q0a _ _ _ (l0 f g b)) ?_
 rintro U a aq o ⟨af,rfl,q,c⟩
 obtain⟨au,av⟩:=U
 dsimp only at a q
 obtain⟨V,W,rfl,rfl,m,n⟩:=p02 q
 try dsimp only at a
 refine ifB a (λD a=>?_) λD a=>?_
 ·refine trM a (o7 _ _ _ (l0 f g (K0.mono c b))) ?_
  rintro X a ar J ⟨C,al,x,rfl,d⟩
  have an:Sub o J:=d.sub
  have s:=d.r
  obtain⟨Y,Z,aa⟩:=X
  dsimp only at a d s
  obtain⟨_,_,_,_,_,_,z,A,E,F,O⟩:=C0 s
  cases z
  cases A
  obtain⟨rfl,ai⟩:=Sl.len O
  try dsimp only at a
  have T:=New.sndI (New.sndI (d))
  obtain rfl:=oJ a
  exact⟨([.int .i64 Y,.int .i64 Z,.slice (some ⟨C,0,none⟩) aa.length x]),([.int .i64 0,.int .i64 0]),rfl,(New.pair (New.int E) (New.pair (New.int F) (New.from T c))),(Y1 (by decide) (by decide))⟩
 ·refine trM a (Z06 _ _ _ (l0 f g (K0.mono c b)) _ _ (Y1 m n)) ?_
  rintro ab a ap I ⟨ag,rfl,e⟩
  obtain⟨aw,ax⟩:=ab
  dsimp only at a e
  have ao:Sub o I:=e.sub
  have P:=e.r
  obtain⟨ac,ad,u,am,y,ae,rfl,rfl,G,H,Q⟩:=C0 P
  obtain⟨rfl,aj⟩:=Sl.len Q
  try dsimp only at a
  have S:=New.sndI (New.sndI (e))
  refine Or.inr (Or.inr (Or.inl (aI (aI (by kernel_rfl) (by kernel_rfl)) ?_)))
  refine Or.inr ?_
  refine Or.inr ?_
  refine Or.inl (eX 0 (aI (aI rfl rfl) ?_))
  refine aI trivial (aI (by first|exact trivial|exact rfl) ?_)
  refine aI trivial (aI (by first|exact trivial|exact rfl) ?_)
  obtain rfl:=oJ a
  exact⟨([.int .i64 ac,.int .i64 ad,.slice u ae.length y]),([.int .i64 V,.int .i64 W]),rfl,(New.pair (New.int G) (New.pair (New.int H) (New.from S c))),(Y1 m n)⟩
theorem Q0d(h:Hp)(A:List Value)(H:j0)(ap:Y0.R h A H)(r:j0×g8)(b:c01 H=some r):
  Tr Tryz.prog 283 #[.agg A.toArray] h λv c=>∃(z:List Value) (x:Option Addr) (G y:Nat),v = .tuple #[.agg z.toArray,.slice x G y]/\New Y0 h c z r.1/\a0g.R c [.slice x G y] r.2:=by
 obtain⟨am,an,Q,aP,U,ao,rfl,rfl,af,ag,I⟩:=C0 ap
 obtain⟨rfl,aK⟩:=Sl.len I
 unfold c01 at b
 dsimp only at b
 refine C2 (args:=[.agg #[.int .i64 am,.int .i64 an,.slice Q ao.length U]]) (fn:=Tryz.f283) rfl ?_
 refine trM b (o7 _ _ _ (l0 af ag I)) ?_
 rintro aA b aV t ⟨ac,aR,W,rfl,p⟩
 have aw:Sub h t:=p.sub
 have K:=p.r
 obtain⟨aE,aF,P⟩:=aA
 dsimp only at b p K
 obtain⟨_,_,_,_,_,_,Y,Z,aj,ak,au⟩:=C0 K
 cases Y
 cases Z
 obtain⟨rfl,aN⟩:=Sl.len au
 try dsimp only at b
 have az:=New.sndI (New.sndI (p))
 obtain⟨w,ad,b⟩:=z0 b
 refine eX { vars:=[],boxes:=[2],owns:=[0],fuel:=true } (eX (λvs os c=>∃ e f k u l u8 o g,vs.tail = [.int .i64 e,.int .i64 f,.slice k u l]/\os = [o]/\Sub t c/\J0 e/\J0 f/\New K0 h c [.slice k u l] u8/\F2 (Q4.R c) o g/\Z6 (I1 vs) e f u8 g=some w) (eX (λ_ _=>0) (aI (eX P0 ⟨aE,aF,(some ⟨ac,0,none⟩),P.length,W,P,[],([]:g8),rfl,rfl,(Sub.refl _),aj,ak,az,(show F2 (Q4.R t) ([]:List (List Value)) ([]:g8) from trivial),ad⟩) ?_)))
 rintro _ _ _ o n al ⟨e,f,k,u,l,u8,aZ,g,⟨⟩,⟨⟩,M,C,D,N,m,a⟩
 replace a:Z6 n e f u8 g=some w:=a
 obtain _|n:=n
 ·cases a
 rw[Z6.eq_2]at a
 have J:=N.r
 obtain⟨rfl,aL⟩:=Sl.len J
 refine trM a (G0b _ _ _ (l0 C D J)) ?_
 rintro aB a aT s ⟨aG,aH,rfl,q,L⟩
 obtain⟨aW,aX,aY⟩:=aB
 dsimp only at a q L
 have d:Sub al s:=q.sub
 have aq:=q.r
 obtain⟨aC,aD,S,aQ,V,O,rfl,rfl,ah,ai,ar⟩:=C0 aq
 obtain⟨rfl,aM⟩:=Sl.len ar
 try dsimp only at a
 have ay:=New.sndI (New.sndI (q))
 obtain⟨i,j,rfl,rfl,E,F⟩:=p02 L
 try dsimp only at a
 refine ifB a (λae a=>?_) λae a=>?_
 ·intro aU aJ aa
  obtain⟨T,X,rfl,av,ax,aO⟩:=E1.out (r:=Q4.toRp) aa (F2.up (r:=Q4.toRp) d m)
  obtain rfl:=oJ a
  try dsimp only[C3,V3]at b
  obtain rfl:=oJ b
  exact⟨([.int .i64 e,.int .i64 f,.slice k u8.length l]),T,g.length,X,rfl,(New.pair (New.int C) (New.pair (New.int D) (New.mono N (d.trans ax)))),av⟩
 ·obtain⟨aS,ab,a⟩:=z0 a
  refine aI (K1 ab (by first|rw[F2.length (F2.up (r:=Q4.toRp) d m),F2.length (show F2 (Q4.R s) ([[.int .i64 i,.int .i64 j]]:List (List Value)) [(i,j)] from⟨(Y1 E F),trivial⟩)]|exact congrArg (·+1) (F2.length (F2.up (r:=Q4.toRp) d m)))) ?_
  exact N1 n ⟨aC,aD,S,O.length,V,O,(o++([[.int .i64 i,.int .i64 j]]:List (List Value))),(g ++ [(i,j)]),rfl,rfl,(M.trans d),ah,ai,(New.from ay (aw.trans M)),(F2.append (F2.up (r:=Q4.toRp) d m) (show F2 (Q4.R s) ([[.int .i64 i,.int .i64 j]]:List (List Value)) [(i,j)] from⟨(Y1 E F),trivial⟩)),a⟩
theorem R0a(h:Hp)(e:List Value)(l:j0)(F:Y0.R h e l)(r:j0×Bool)(a:V9 l=some r):
  Tr Tryz.prog 289 #[.agg e.toArray] h λv x=>∃(d:List Value),v = .tuple #[.agg d.toArray,.bool r.2]/\New Y0 h x d r.1:=by
 obtain⟨C,D,s,L,t,E,rfl,rfl,i,j,c⟩:=C0 F
 obtain⟨rfl,J⟩:=Sl.len c
 unfold V9 at a
 dsimp only at a
 refine C2 (args:=[.agg #[.int .i64 C,.int .i64 D,.slice s E.length t]]) (fn:=Tryz.f289) rfl ?_
 refine trM a (o7 _ _ _ (l0 i j c)) ?_
 rintro I a N A ⟨g,M,f,rfl,b⟩
 have H:Sub h A:=b.sub
 have m:=b.r
 obtain⟨o,p,q⟩:=I
 dsimp only at a b m
 obtain⟨_,_,_,_,_,_,u,w,k,z,G⟩:=C0 m
 cases u
 cases w
 obtain⟨rfl,K⟩:=Sl.len G
 try dsimp only at a
 have n:=New.sndI (New.sndI (b))
 refine trV a (j00 _ _ _ (l0 i j (K0.mono H c))) λO a=>?_
 refine ifB a (λy a=>?_) λy a=>?_
 ·obtain rfl:=oJ a
  exact⟨([.int .i64 o,.int .i64 p,.slice (some ⟨g,0,none⟩) q.length f]),rfl,(New.pair (New.int k) (New.pair (New.int z) n))⟩
 ·obtain rfl:=oJ a
  exact⟨([.int .i64 o,.int .i64 (IntKind.i64.wrap (p+1)),.slice (some ⟨g,0,none⟩) q.length f]),rfl,(New.pair (New.int k) (New.pair (New.int (I0 _)) n))⟩
theorem H07(h:Hp)(F:List Value)(K:j0)(af:Y0.R h F K)(r:M0)(c:E7 K=some r):
  Tr Tryz.prog 292 #[.agg F.toArray] h λv d=>∃(D:Option Addr) (J E:Nat),v = .slice D J E/\K0.R d [.slice D J E] r/\Sub h d:=by
 obtain⟨m,n,N,ay,Q,o,rfl,rfl,t,H,x⟩:=C0 af
 obtain⟨rfl,au⟩:=Sl.len x
 unfold E7 at c
 dsimp only at c
 refine C2 (args:=[.agg #[.int .i64 m,.int .i64 n,.slice N o.length Q]]) (fn:=Tryz.f292) rfl ?_
 refine trV c (w9 _ _ _ (l0 t H x)) λaF c=>?_
 refine ifB c (λab c=>?_) λab c=>?_
 ·intro aD ar V
  obtain⟨P,T,rfl,ah,aj,ax⟩:=E1.out (r:=Z0.toRp) V (show F2 (Z0.R h) ([]:List (List Value)) ([]:M0) from trivial)
  obtain rfl:=oJ c
  exact⟨P,(([]:M0)).length,T,rfl,ah,aj⟩
 ·obtain⟨C,Z,c⟩:=z0 c
  refine eX { vars:=[4],boxes:=[],owns:=[0],fuel:=true } (eX (λvs os d=>∃ u8 s g,vs.tail = [.int .i64 u8]/\os = [s]/\Sub h d/\J0 u8/\F2 (Z0.R d) s g/\M4 n m o (I1 vs) u8 g=some C) (eX (λ_ _=>0) (aI (eX P0 ⟨0,[],([]:M0),rfl,rfl,(Sub.refl _),(by decide),(show F2 (Z0.R h) ([]:List (List Value)) ([]:M0) from trivial),Z⟩) ?_)))
  rintro _ s q ap ⟨u8,aH,g,⟨⟩,⟨⟩,y,u,G,b⟩
  replace b:M4 n m o q u8 g=some C:=b
  obtain _|q:=q
  ·cases b
  rw[M4.eq_2]at b
  refine ifB b (λaa b=>?_) λaa b=>?_
  ·refine trM b (Y06 _ _ t) ?_
   rintro M b aC ae ⟨al,az,am,rfl,L,z⟩
   obtain⟨rfl,av⟩:=Sl.len L
   obtain⟨A,Y,b⟩:=z0 b
   refine eX { vars:=[22],boxes:=[],owns:=[0],fuel:=true } (eX (λvs os d=>∃ e i f,vs.tail = [.int .i64 e]/\os = [i]/\Sub ae d/\J0 e/\F2 (Z0.R d) i f/\l3 M m n o u8 (I1 vs) e f=some A) (eX (λ_ _=>0) (aI (eX P0 ⟨0,s,g,rfl,rfl,(Sub.refl _),(by decide),(F2.up (r:=Z0.toRp) z G),Y⟩) ?_)))
   rintro _ i l I ⟨e,aG,f,⟨⟩,⟨⟩,p,an,k,a⟩
   replace a:l3 M m n o u8 l e f=some A:=a
   obtain _|l:=l
   ·cases a
   rw[l3.eq_2]at a
   refine ifB a (λac a=>?_) λac a=>?_
   ·refine ldI a (T0.mono p L) λj w a=>?_
    refine trV a (E6 _ _ _ (l0 t H (K0.mono ((y.trans z).trans p) x)) _ u _ w) λak a=>?_
    obtain⟨aA,W,a⟩:=z0 a
    have ao:J0 ak:=Q0 W
    refine ifB a (λad a=>?_) λad a=>?_
    ·obtain⟨aB,X,a⟩:=z0 a
     refine aI (K1 X (by first|rw[F2.length k,F2.length (show F2 (Z0.R I) ([[.int .i64 u8,.int .i64 j,.int .i64 (-1)]]:List (List Value)) [(u8,j,(-1))] from⟨(C1 u w (by decide)),trivial⟩)]|exact congrArg (·+1) (F2.length k))) ?_
     exact N1 l ⟨(IntKind.i64.wrap (e+1)),(i++([[.int .i64 u8,.int .i64 j,.int .i64 (-1)]]:List (List Value))),(f ++ [(u8,j,(-1))]),rfl,rfl,p,(I0 _),(F2.append k (show F2 (Z0.R I) ([[.int .i64 u8,.int .i64 j,.int .i64 (-1)]]:List (List Value)) [(u8,j,(-1))] from⟨(C1 u w (by decide)),trivial⟩)),a⟩
    ·exact N1 l ⟨(IntKind.i64.wrap (e+1)),i,f,rfl,rfl,p,(I0 _),k,a⟩
   ·obtain rfl:=oJ a
    try dsimp only[S0,U0]at b
    exact N1 q ⟨(IntKind.i64.wrap (u8+1)),i,f,rfl,rfl,((y.trans z).trans p),(I0 _),k,b⟩
  ·obtain rfl:=oJ b
   try dsimp only[S0,U0]at c
   intro aE aq U
   obtain⟨O,S,rfl,ag,ai,aw⟩:=E1.out (r:=Z0.toRp) U G
   obtain rfl:=oJ c
   exact⟨O,g.length,S,rfl,ag,(y.trans ai)⟩
theorem S0a(h:Hp)(f:List Value)(j:j0)(J:Y0.R h f j)(r:j0)(a:Z9 j=some r):
  Tr Tryz.prog 196 #[.agg f.toArray] h λv u=>∃(e:List Value),v = .agg e.toArray/\New Y0 h u e r:=by
 obtain⟨G,H,p,ao,s,I,rfl,rfl,w,x,k⟩:=C0 J
 obtain⟨rfl,ai⟩:=Sl.len k
 unfold Z9 at a
 dsimp only at a
 refine C2 (args:=[.agg #[.int .i64 G,.int .i64 H,.slice p I.length s]]) (fn:=Tryz.f196) rfl ?_
 refine trM a (Q0d _ _ _ (l0 w x k)) ?_
 rintro S a ay g ⟨ab,Y,aq,af,rfl,b,m⟩
 obtain⟨aC,aG⟩:=S
 dsimp only at a b m
 have O:Sub h g:=b.sub
 have K:=b.r
 obtain⟨aD,aE,X,ap,ae,aF,rfl,rfl,y,z,l⟩:=C0 K
 obtain⟨rfl,aj⟩:=Sl.len l
 try dsimp only at a
 have aA:=New.sndI (New.sndI (b))
 obtain⟨rfl,ak⟩:=Sl.len m
 refine trM a (n05 _ _ _ (l0 y z l)) ?_
 rintro T a az i ⟨ac,aa,au,ah,rfl,c,o⟩
 obtain⟨aH,aM⟩:=T
 dsimp only at a c o
 have P:Sub g i:=c.sub
 have L:=c.r
 obtain⟨aJ,aK,Z,ar,ag,aL,rfl,rfl,A,C,n⟩:=C0 L
 obtain⟨rfl,al⟩:=Sl.len n
 try dsimp only at a
 have aB:=New.sndI (New.sndI (c))
 obtain⟨rfl,am⟩:=Sl.len o
 refine trM a (B02 _ _ _ (l0 A C n)) ?_
 rintro aN a ax F ⟨ad,rfl,d⟩
 have aw:Sub i F:=d.sub
 have M:=d.r
 obtain⟨U,V,q,av,t,W,rfl,rfl,D,E,N⟩:=C0 M
 obtain⟨rfl,an⟩:=Sl.len N
 try dsimp only at a
 have Q:=New.sndI (New.sndI (d))
 obtain rfl:=oJ a
 exact⟨([.int .i64 U,.int .i64 V,.slice q W.length t]),rfl,(New.pair (New.int D) (New.pair (New.int E) (New.from Q (O.trans P))))⟩
theorem a07(h:Hp)(j:List Value)(n:j0)(F:Y0.R h j n)(r:Bool)(b:r8 n=some r):
  Tr Tryz.prog 210 #[.agg j.toArray] h λv y=>v = .bool r/\y=h:=by
 obtain⟨C,D,p,Y,t,E,rfl,rfl,k,m,g⟩:=C0 F
 obtain⟨rfl,W⟩:=Sl.len g
 unfold r8 at b
 dsimp only at b
 refine Tr.forget (C2 (args:=[.agg #[.int .i64 C,.int .i64 D,.slice p E.length t]]) (fn:=Tryz.f210) rfl ?_)
 refine aI (by kernel_rfl) ?_
 obtain⟨J,w,b⟩:=z0 b
 refine Or.inl (eX (.val (.bool J)) (aI ?_ ?_))
 ·intro S H
  exact Tr.val (H01 _ _ _ (l0 k m (K0.mono H g)) _ w) (aI rfl (aI rfl rfl))
 obtain⟨d,x,b⟩:=z0 b
 refine Or.inr (eX (λv z=>∃(a:Option Addr) (c:Nat),v = .slice a d.length c/\K0.R z [.slice a d.length c] d/\d.length<=9223372036854775807) (aI (λv N O i q=>by obtain⟨a,c,e,r,l⟩:=q;exact⟨a,c,e,K0.mono i r,l⟩) (aI ?_ ?_)))
 ·intro T I f
  refine Tr.mono (H07 _ _ _ (l0 k m (K0.mono I g)) _ (O9 x f)) ?_
  rintro _ V ⟨s,Z,u,rfl,o,i⟩
  obtain⟨rfl,A⟩:=Sl.len o
  exact aI m00 (aI i ⟨s,u,rfl,o,A⟩)
 obtain⟨aa,M,b⟩:=z0 b
 refine Or.inl (eX (.val (.int .i64 ((d.length:Nat):Int))) (aI ?_ ?_))
 ·intro U ad f
  rintro _ ⟨K,L,rfl,ab,X⟩
  exact aI rfl (aI rfl rfl)
 refine Or.inl (eX (.val (.bool (decide (((d.length:Nat):Int)=0)))) (aI ?_ ?_))
 ·intro P ac f
  exact aI rfl (aI rfl rfl)
 intro Q G
 obtain rfl:=oJ b
 exact aI rfl G
theorem Z03(h:Hp)(e:List Value)(g:j0)(x:Y0.R h e g)(b:Option Addr)(f c:Nat)(d:F0)(j:T0.R h [.slice b f c] d)(r:Bool)(a:P5 g d=some r):
  Tr Tryz.prog 279 #[.agg e.toArray,.slice b f c] h λv p=>v = .bool r/\p=h:=by
 obtain⟨t,u,k,G,l,w,rfl,rfl,q,s,i⟩:=C0 x
 obtain⟨rfl,E⟩:=Sl.len i
 obtain⟨rfl,F⟩:=Sl.len j
 unfold P5 at a
 dsimp only at a
 refine Tr.forget (C2 (args:=[.agg #[.int .i64 t,.int .i64 u,.slice k w.length l],.slice b d.length c]) (fn:=Tryz.f279) rfl ?_)
 obtain⟨y,o,a⟩:=z0 a
 obtain⟨z,A⟩:=y
 try dsimp only at a
 refine Tr.val (K00 _ _ _ (l0 q s i) 0 (by decide) _ _ _ _ j _  o) ?_
 obtain⟨H,m,a⟩:=z0 a
 have C:J0 z:=Q0 m
 obtain⟨I,n,a⟩:=z0 a
 have D:J0 A:=Q0 n
 obtain rfl:=oJ a
 exact aI rfl (Sub.refl _)
theorem T0a(h:Hp)(D:List Value)(M:j0)(ak:Y0.R h D M)(r:M0)(b:b00 M=some r):
  Tr Tryz.prog 284 #[.agg D.toArray] h λv k=>∃(A:Option Addr) (L C:Nat),v = .slice A L C/\New K0 h k [.slice A L C] r:=by
 obtain⟨o,p,Q,aT,T,q,rfl,rfl,E,F,s⟩:=C0 ak
 obtain⟨rfl,aM⟩:=Sl.len s
 unfold b00 at b
 dsimp only at b
 refine C2 (args:=[.agg #[.int .i64 o,.int .i64 p,.slice Q q.length T]]) (fn:=Tryz.f284) rfl ?_
 refine trM b (v04 _ _ _ (l0 E F s) 0 (by decide)) ?_
 rintro ar b a4 ag ⟨ay,aV,aF,az,aW,aG,rfl,u,w,x⟩
 obtain⟨bd,O⟩:=ar
 dsimp only at b u w
 obtain⟨rfl,aO⟩:=Sl.len u
 obtain⟨rfl,aP⟩:=Sl.len w
 obtain⟨P,aa,b⟩:=z0 b
 obtain⟨aj,ap,V,X⟩:=Sl.cutI (r:=Wp.int.toRp) u aa
 refine aI aj (eX ap (aI V ?_))
 intro aq ad _
 obtain⟨aA,aH,rfl,N⟩:=X aq ad
 have aR:=(Sl.len N).2
 obtain⟨z,ab,b⟩:=z0 b
 refine eX { vars:=[20],boxes:=[],owns:=[0],fuel:=true } (eX (λvs os k=>∃ c n i,vs.tail = [.int .i64 c]/\os = [n]/\Sub ag k/\J0 c/\F2 (Z0.R k) n i/\R5 P O o p q (I1 vs) c i=some z) (eX (λ_ _=>0) (aI (eX P0 ⟨0,[],([]:M0),rfl,rfl,(Sub.refl _),(by decide),(F2.up (r:=Z0.toRp) x (show F2 (Z0.R h) ([]:List (List Value)) ([]:M0) from trivial)),ab⟩) ?_)))
 rintro _ n l aL ⟨c,be,i,⟨⟩,⟨⟩,g,aK,j,a⟩
 replace a:R5 P O o p q l c i=some z:=a
 obtain _|l:=l
 ·cases a
 rw[R5.eq_2]at a
 refine ifB a (λac a=>?_) λac a=>?_
 ·refine ldI a (T0.mono g N) λba G a=>?_
  refine ld a (T03.mono g w) λbb aC t a=>?_
  obtain⟨ax,aU,aE,rfl⟩:=Wp.slice_cell t
  obtain⟨rfl,aN⟩:=Sl.len t
  refine ldI a t λau ae a=>?_
  refine trV a (E6 _ _ _ (l0 E F (K0.mono (x.trans g) s)) _ G (IntKind.i64.wrap (0-au)) (I0 _)) λav a=>?_
  obtain⟨aY,Y,a⟩:=z0 a
  have af:J0 av:=Q0 Y
  refine trM a (w04 _ _ af _ ae _ G) ?_
  rintro bc a a1 K ⟨aD,rfl,al,m⟩
  obtain⟨d,e,f,rfl,rfl,H,I,J⟩:=G1 al
  try dsimp only at a
  obtain⟨aZ,Z,a⟩:=z0 a
  refine aI (K1 Z (by first|rw[F2.length (F2.up (r:=Z0.toRp) m j),F2.length (show F2 (Z0.R K) ([[.int .i64 d,.int .i64 e,.int .i64 f]]:List (List Value)) [(d,e,f)] from⟨(C1 H I J),trivial⟩)]|exact congrArg (·+1) (F2.length (F2.up (r:=Z0.toRp) m j)))) ?_
  exact N1 l ⟨(IntKind.i64.wrap (c+1)),(n++([[.int .i64 d,.int .i64 e,.int .i64 f]]:List (List Value))),(i ++ [(d,e,f)]),rfl,rfl,(g.trans m),(I0 _),(F2.append (F2.up (r:=Z0.toRp) m j) (show F2 (Z0.R K) ([[.int .i64 d,.int .i64 e,.int .i64 f]]:List (List Value)) [(d,e,f)] from⟨(C1 H I J),trivial⟩)),a⟩
 ·obtain rfl:=oJ a
  try dsimp only[S0,U0]at b
  refine Or.inl ?_
  intro a2 ah W
  obtain⟨aB,aJ,rfl,an,ao,aS⟩:=E1.out (r:=Z0.toRp) W j
  refine trM b (G01 _ _ _ _ _ an) ?_
  rintro aw b a3 ai ⟨S,aX,U,rfl,y⟩
  have a0:Sub ah ai:=y.sub
  have am:=y.r
  obtain⟨rfl,aQ⟩:=Sl.len am
  obtain rfl:=oJ b
  exact⟨S,aw.length,U,rfl,(New.from y ((x.trans g).trans ao))⟩
theorem K09(h:Hp)(y:List Value)(H:j0)(Z:Y0.R h y H)(r:M0)(b:z9 H=some r):
  Tr Tryz.prog 199 #[.agg y.toArray] h λv m=>∃(w:Option Addr) (G x:Nat),v = .slice w G x/\New K0 h m [.slice w G x] r:=by
 obtain⟨X,Y,L,al,O,s,rfl,rfl,C,D,n⟩:=C0 Z
 obtain⟨rfl,ah⟩:=Sl.len n
 unfold z9 at b
 dsimp only at b
 refine C2 (args:=[.agg #[.int .i64 X,.int .i64 Y,.slice L s.length O]]) (fn:=Tryz.f199) rfl ?_
 refine trV b (w9 _ _ _ (l0 C D n)) λax b=>?_
 refine ifB b (λW b=>?_) λW b=>?_
 ·intro av ag A
  obtain⟨N,Q,rfl,ap,ar,ak⟩:=E1.out (r:=Z0.toRp) A (show F2 (Z0.R h) ([]:List (List Value)) ([]:M0) from trivial)
  obtain rfl:=oJ b
  exact⟨N,(([]:M0)).length,Q,rfl,(E1.newPlain (r:=Z0) A (show F2 (Z0.R h) ([]:List (List Value)) ([]:M0) from trivial) (N05 _))⟩
 ·refine trM b (T0a _ _ _ (l0 C D n)) ?_
  rintro K b aw F ⟨ab,am,ad,rfl,J⟩
  have t:Sub h F:=J.sub
  have I:=J.r
  obtain⟨rfl,ai⟩:=Sl.len I
  obtain⟨u,T,b⟩:=z0 b
  refine eX { vars:=[17],boxes:=[],owns:=[0],fuel:=true } (eX (λvs os m=>∃ c l d,vs.tail = [.int .i64 c]/\os = [l]/\Sub F m/\J0 c/\F2 (Z0.R m) l d/\O4 s K (I1 vs) c d=some u) (eX (λ_ _=>0) (aI (eX P0 ⟨0,[],([]:M0),rfl,rfl,(Sub.refl _),(by decide),(F2.up (r:=Z0.toRp) t (show F2 (Z0.R h) ([]:List (List Value)) ([]:M0) from trivial)),T⟩) ?_)))
  rintro _ l j E ⟨c,aA,d,⟨⟩,⟨⟩,k,ae,e,a⟩
  replace a:O4 s K j c d=some u:=a
  obtain _|j:=j
  ·cases a
  rw[O4.eq_2]at a
  refine ifB a (λU a=>?_) λU a=>?_
  ·refine ld a (K0.mono (t.trans k) n) λay ac aa a=>?_
   obtain⟨f,g,i,rfl,rfl,o,p,q⟩:=G1 aa
   try dsimp only at a
   refine trV a (G00 _ _ _ _ _ (K0.mono k I) _ _ (C1 o p q)) λaz a=>?_
   refine ifB a (λV a=>?_) λV a=>?_
   ·obtain⟨an,S,a⟩:=z0 a
    refine aI (K1 S (by first|rw[F2.length e,F2.length (show F2 (Z0.R E) ([[.int .i64 f,.int .i64 g,.int .i64 i]]:List (List Value)) [(f,g,i)] from⟨(C1 o p q),trivial⟩)]|exact congrArg (·+1) (F2.length e))) ?_
    exact N1 j ⟨(IntKind.i64.wrap (c+1)),(l++([[.int .i64 f,.int .i64 g,.int .i64 i]]:List (List Value))),(d ++ [(f,g,i)]),rfl,rfl,k,(I0 _),(F2.append e (show F2 (Z0.R E) ([[.int .i64 f,.int .i64 g,.int .i64 i]]:List (List Value)) [(f,g,i)] from⟨(C1 o p q),trivial⟩)),a⟩
   ·exact N1 j ⟨(IntKind.i64.wrap (c+1)),l,d,rfl,rfl,k,(I0 _),e,a⟩
  ·obtain rfl:=oJ a
   try dsimp only[S0,U0]at b
   intro au af z
   obtain⟨M,P,rfl,ao,aq,aj⟩:=E1.out (r:=Z0.toRp) z e
   obtain rfl:=oJ b
   exact⟨M,d.length,P,rfl,(New.from (E1.newPlain (r:=Z0) z e (N05 _)) (t.trans k))⟩
theorem H0b(h:Hp)(n:List Value)(t:j0)(M:Y0.R h n t)(f:Option Addr)(s g:Nat)(j:F0)(u:T0.R h [.slice f s g] j)(r:Bool)(b:B00 t j=some r):
  Tr Tryz.prog 188 #[.agg n.toArray,.slice f s g] h λv G=>v = .bool r/\G=h:=by
 obtain⟨J,K,y,ah,A,L,rfl,rfl,o,p,k⟩:=C0 M
 obtain⟨rfl,ae⟩:=Sl.len k
 obtain⟨rfl,af⟩:=Sl.len u
 unfold B00 at b
 dsimp only at b
 refine Tr.forget (C2 (args:=[.agg #[.int .i64 J,.int .i64 K,.slice y L.length A],.slice f j.length g]) (fn:=Tryz.f188) rfl ?_)
 refine Or.inr (Or.inr (Or.inr (Or.inl (aI (aI (by kernel_rfl) (by kernel_rfl)) ?_))))
 obtain⟨T,D,b⟩:=z0 b
 refine Or.inl (eX (.val (.bool T)) (aI ?_ ?_))
 ·intro aa P
  exact Tr.val (H01 _ _ _ (l0 o p (K0.mono P k)) _ D) (aI rfl (aI rfl rfl))
 obtain⟨d,E,b⟩:=z0 b
 refine Or.inr (eX (λv H=>∃(a:Option Addr) (c:Nat),v = .slice a d.length c/\T0.R H [.slice a d.length c] d/\d.length<=9223372036854775807) (aI (λv X Y m q=>by obtain⟨a,c,e,r,l⟩:=q;exact⟨a,c,e,T0.mono m r,l⟩) (aI ?_ ?_)))
 ·intro ab Q i
  refine Tr.mono (E9 _ _ _ _ _ (T0.mono Q u) _ (O9 E i)) ?_
  rintro _ ad ⟨z,ai,C,rfl,x⟩
  have m:=x.sub
  have w:=x.r
  obtain⟨rfl,I⟩:=Sl.len w
  exact aI m00 (aI m ⟨z,C,rfl,w,I⟩)
 obtain⟨U,F,b⟩:=z0 b
 refine Or.inl (eX (.val (.bool U)) (aI ?_ ?_))
 ·intro ac S i
  rintro _ ⟨V,W,rfl,N,ag⟩
  exact Tr.val (Z03 _ _ _ (l0 o p (K0.mono S k)) _ _ _ _ N _ (O9 F i)) (aI rfl (aI rfl rfl))
 intro Z O
 obtain rfl:=oJ b
 exact aI rfl O
theorem k0e(h:Hp)(N:List Value)(U:j0)(aL:Y0.R h N U)(x:Option Addr)(T y:Nat)(E:F0)(F:T0.R h [.slice x T y] E)(r:j0×Int×Bool)(b:E01 U E=some r):
  Tr Tryz.prog 208 #[.agg N.toArray,.slice x T y] h λv Q=>∃(M:List Value),v = .tuple #[.agg M.toArray,.int .i64 r.2.1,.bool r.2.2]/\Y0.R Q M r.1/\Sub h Q:=by
 obtain⟨V,W,I,bt,L,X,rfl,rfl,D,s,t⟩:=C0 aL
 obtain⟨rfl,bn⟩:=Sl.len t
 obtain⟨rfl,bo⟩:=Sl.len F
 unfold E01 at b
 dsimp only at b
 refine C2 (args:=[.agg #[.int .i64 V,.int .i64 W,.slice I X.length L],.slice x E.length y]) (fn:=Tryz.f208) rfl ?_
 obtain⟨aV,al,b⟩:=z0 b
 obtain⟨aY,aZ⟩:=aV
 try dsimp only at b
 refine Tr.val (K00 _ _ _ (l0 D s t) 0 (by decide) _ _ _ _ F _  al) ?_
 obtain⟨bx,aj,b⟩:=z0 b
 have au:J0 aY:=Q0 aj
 obtain⟨bz,ak,b⟩:=z0 b
 have be:J0 aZ:=Q0 ak
 refine ifB b (λap b=>?_) λap b=>?_
 ·obtain rfl:=oJ b
  exact⟨([.int .i64 V,.int .i64 W,.slice I X.length L]),rfl,(l0 D s t),(Sub.refl _)⟩
 ·refine trM b (R0a _ _ _ (l0 D s t)) ?_
  rintro a0 b bE S ⟨ba,rfl,G⟩
  obtain⟨bF,bJ⟩:=a0
  dsimp only at b G
  have u:Sub h S:=G.sub
  have aN:=G.r
  obtain⟨bG,bH,a1,bu,bb,bI,rfl,rfl,av,aw,Y⟩:=C0 aN
  obtain⟨rfl,bp⟩:=Sl.len Y
  try dsimp only at b
  refine ifB b (λaq b=>?_) λaq b=>?_
  ·obtain rfl:=oJ b
   exact⟨([.int .i64 0,.int .i64 0,.slice none 0 0]),rfl,(l0 (by decide) (by decide) (I0c Z0 S)),u⟩
  ·refine Or.inr (Or.inr (Or.inr (Or.inr (eX 10 (aI (aI (by kernel_rfl) (by kernel_rfl)) ?_)))))
   obtain⟨w,an,b⟩:=z0 b
   refine Or.inr (eX (λv i=>∃(a:Option Addr) (c:Nat),v = .slice a w.length c/\T0.R i [.slice a w.length c] w/\w.length<=9223372036854775807) (aI (λv A C j q=>by obtain⟨a,c,e,r,l⟩:=q;exact⟨a,c,e,T0.mono j r,l⟩) (aI ?_ ?_)))
   ·intro bh aS
    obtain⟨aK,aU,ag,ai⟩:=Sl.cutI (r:=Wp.int.toRp) (T0.mono (u.trans aS) F) an
    refine aI aK (eX aU (aI ag ?_))
    intro v ar _
    obtain⟨a,c,rfl,r⟩:=ai v ar
    exact aI m00 (aI (Sub.refl _) ⟨a,c,rfl,r,(Sl.len r).2⟩)
   obtain⟨aW,am,b⟩:=z0 b
   obtain⟨aX,H⟩:=aW
   try dsimp only at b
   obtain⟨m,n,d⟩:=aX
   try dsimp only at b
   refine Or.inr (eX (λv i=>∃(k:Value),v = .tuple #[k,.bool H]/\(λv i=>∃(f:Option Addr) (g:Nat),v = .agg #[.int .i64 m,.int .i64 n,.slice f d.length g]/\J0 m/\J0 n/\K0.R i [.slice f d.length g] d/\d.length<=9223372036854775807) k i) (aI (λv A C j q=>by obtain⟨k,e,z⟩:=q;exact⟨k,e,(by obtain⟨f,g,e,o,p,f2,f3⟩:=z;exact⟨f,g,e,o,p,K0.mono j f2,f3⟩)⟩) (aI ?_ ?_)))
   ·intro bi aT
    rintro _ ⟨a2,bc,rfl,aO,bq⟩
    refine Tr.mono (P0d _ _ _ (l0 av aw (K0.mono aT Y)) _ au _ _ _ _ aO _ s _ am) ?_
    rintro _ bm ⟨a4,rfl,ab⟩
    have j:=ab.sub
    have aM:=ab.r
    obtain⟨bK,bL,J,bv,O,bM,rfl,ah,ax,ay,Z⟩:=C0 aM
    cases ah
    obtain⟨rfl,aG⟩:=Sl.len Z
    exact aI m00 (aI j ⟨(.agg #[.int .i64 m,.int .i64 n,.slice J d.length O]),rfl,⟨J,O,rfl,ax,ay,Z,aG⟩⟩)
   refine Or.inr (eX (λv i=>∃(k:Value),v = .tuple #[k,.bool H]/\(λv i=>∃(f:Option Addr) (g:Nat),v = .agg #[.int .i64 m,.int .i64 n,.slice f d.length g]/\J0 m/\J0 n/\K0.R i [.slice f d.length g] d/\d.length<=9223372036854775807) k i) (aI (λv A C j q=>by obtain⟨k,e,z⟩:=q;exact⟨k,e,(by obtain⟨f,g,e,o,p,f2,f3⟩:=z;exact⟨f,g,e,o,p,K0.mono j f2,f3⟩)⟩) (aI ?_ ?_)))
   ·intro bj bB
    rintro _ ⟨_,rfl,⟨K,P,rfl,az,aA,aP,aH⟩⟩
    exact aI m00 (aI (Sub.refl _) ⟨(.agg #[.int .i64 m,.int .i64 n,.slice K d.length P]),rfl,⟨K,P,rfl,az,aA,aP,aH⟩⟩)
   refine Or.inr (eX (λv i=>∃(f:Option Addr) (g:Nat),v = .agg #[.int .i64 m,.int .i64 n,.slice f d.length g]/\J0 m/\J0 n/\K0.R i [.slice f d.length g] d/\d.length<=9223372036854775807) (aI (λv A C j q=>by obtain⟨f,g,e,o,p,f2,f3⟩:=q;exact⟨f,g,e,o,p,K0.mono j f2,f3⟩) (aI ?_ ?_)))
   ·intro bk bC
    rintro _ ⟨_,rfl,⟨ac,ae,rfl,aB,aC,aQ,aJ⟩⟩
    exact aI m00 (aI (Sub.refl _) ⟨ac,ae,rfl,aB,aC,aQ,aJ⟩)
   refine Or.inl (eX (.val (.bool H)) (aI ?_ ?_))
   ·intro bl bD
    rintro _ ⟨_,rfl,⟨a3,bd,rfl,bf,bg,bA,br⟩⟩
    exact aI rfl (aI rfl rfl)
   intro aF aa
   rintro _ ⟨ad,af,rfl,aD,aE,aR,bs⟩
   rintro _ _
   rintro _ _
   rintro _ _
   refine ifB b (λao b=>?_) λao b=>?_
   ·obtain rfl:=oJ b
    exact⟨([.int .i64 0,.int .i64 0,.slice none 0 0]),rfl,(l0 (by decide) (by decide) (I0c Z0 aF)),(u.trans aa)⟩
   ·obtain rfl:=oJ b
    exact⟨([.int .i64 m,.int .i64 n,.slice ad d.length af]),rfl,(l0 aD aE aR),(u.trans aa)⟩
theorem R0d(h:Hp)(b:List Value)(c:j0)(o:Y0.R h b c)(r:Int)(a:c00 c=some r):
  Tr Tryz.prog 100 #[.agg b.toArray] h λv g=>v = .int .i64 r/\g=h:=by
 obtain⟨l,m,e,q,f,n,rfl,rfl,j,k,d⟩:=C0 o
 obtain⟨rfl,p⟩:=Sl.len d
 unfold c00 at a
 dsimp only at a
 refine Tr.forget (C2 (args:=[.agg #[.int .i64 l,.int .i64 m,.slice e n.length f]]) (fn:=Tryz.f100) rfl ?_)
 refine trV a (a07 _ _ _ (l0 j k d)) λs a=>?_
 refine ifB a (λi a=>?_) λi a=>?_
 ·obtain rfl:=oJ a
  exact aI rfl (Sub.refl _)
 ·obtain rfl:=oJ a
  exact aI rfl (Sub.refl _)
theorem U0a(h:Hp)(K:List Value)(S:j0)(aA:Y0.R h K S)(t:Option Addr)(Q u:Nat)(D:F0)(E:T0.R h [.slice t Q u] D)(r:F0×Bool)(b:e00 S D=some r):
  Tr Tryz.prog 94 #[.agg K.toArray,.slice t Q u] h λv m=>∃(I:Option Addr) (P J:Nat),v = .tuple #[.slice I P J,.bool r.2]/\New T0 h m [.slice I P J] r.1:=by
 obtain⟨z,A,Z,a2,ad,C,rfl,rfl,w,x,p⟩:=C0 aA
 obtain⟨rfl,aU⟩:=Sl.len p
 obtain⟨rfl,aV⟩:=Sl.len E
 unfold e00 at b
 dsimp only at b
 refine C2 (args:=[.agg #[.int .i64 z,.int .i64 A,.slice Z C.length ad],.slice t D.length u]) (fn:=Tryz.f94) rfl ?_
 refine trV b (H0b _ _ _ (l0 w x p) _ _ _ _ E) λbp b=>?_
 refine ifB b (λap b=>?_) λap b=>?_
 ·intro bk aT L
  obtain⟨ac,ag,rfl,bf,bh,a1⟩:=E1.out (r:=Wp.int.toRp) L (show F2 (Wp.int.R h) ([]:List (List Value)) ([]:F0) from trivial)
  obtain rfl:=oJ b
  exact⟨ac,(([]:F0)).length,ag,rfl,(E1.newPlain (r:=Wp.int) L (show F2 (Wp.int.R h) ([]:List (List Value)) ([]:F0) from trivial) (M0e _))⟩
 ·refine trM b (K09 _ _ _ (l0 w x p)) ?_
  rintro Y b bo y ⟨aK,ba,aO,rfl,W⟩
  have F:Sub h y:=W.sub
  have U:=W.r
  obtain⟨rfl,aY⟩:=Sl.len U
  refine trM b (E9 _ _ _ _ _ (T0.mono F E)) ?_
  rintro X b bi O ⟨aJ,a3,aN,rfl,V⟩
  have q:Sub y O:=V.sub
  have T:=V.r
  obtain⟨rfl,aW⟩:=Sl.len T
  obtain⟨H,an,b⟩:=z0 b
  refine eX { vars:=[8,24],boxes:=[],owns:=[0],fuel:=true } (eX (λvs os m=>∃ l g k e,vs.tail = [.int .i64 l,.int .i64 g]/\os = [k]/\Sub O m/\J0 l/\J0 g/\F2 (Wp.int.R m) k e/\I4 X z A C Y (I1 vs) l g e=some H) (eX (λ_ _=>0) (aI (eX P0 ⟨0,0,[],([]:F0),rfl,rfl,(Sub.refl _),(by decide),(by decide),(F2.up (r:=Wp.int.toRp) q (show F2 (Wp.int.R y) ([]:List (List Value)) ([]:F0) from trivial)),an⟩) ?_)))
  rintro _ _ k j aS ⟨l,g,bv,e,⟨⟩,⟨⟩,i,M,aQ,f,a⟩
  replace a:I4 X z A C Y j l g e=some H:=a
  obtain _|j:=j
  ·cases a
  rw[I4.eq_2]at a
  refine ifB a (λao a=>?_) λao a=>?_
  ·refine ldI a (T0.mono i T) λbq N a=>?_
   refine trV a (E6 _ _ _ (l0 w x (K0.mono ((F.trans q).trans i) p)) _ M _ N) λs a=>?_
   obtain⟨bb,aj,a⟩:=z0 a
   have n:J0 s:=Q0 aj
   refine trM a (w04 _ _ M _ N _ n) ?_
   rintro br a bj o ⟨aM,rfl,aB,d⟩
   obtain⟨bs,bt,bu,rfl,rfl,au,av,aw⟩:=G1 aB
   try dsimp only at a
   refine trV a (D8 _ _ _ _ _ (K0.mono ((q.trans i).trans d) U) _ _ (C1 au av aw)) λc a=>?_
   obtain⟨bc,ak,a⟩:=z0 a
   have aR:J0 c:=Q0 ak
   refine ifB a (λaq a=>?_) λaq a=>?_
   ·refine ifB a (λar a=>?_) λar a=>?_
    ·obtain⟨bd,al,a⟩:=z0 a
     refine aI (K1 al (by first|rw[F2.length (F2.up (r:=Wp.int.toRp) d f),F2.length (show F2 (Wp.int.R o) ([[.int .i64 (IntKind.i64.wrap (c+1))]]:List (List Value)) [(IntKind.i64.wrap (c+1))] from⟨⟨rfl,(I0 _)⟩,trivial⟩)]|exact congrArg (·+1) (F2.length (F2.up (r:=Wp.int.toRp) d f)))) ?_
     exact N1 j ⟨s,(IntKind.i64.wrap (g+1)),(k++([[.int .i64 (IntKind.i64.wrap (c+1))]]:List (List Value))),(e ++ [(IntKind.i64.wrap (c+1))]),rfl,rfl,(i.trans d),n,(I0 _),(F2.append (F2.up (r:=Wp.int.toRp) d f) (show F2 (Wp.int.R o) ([[.int .i64 (IntKind.i64.wrap (c+1))]]:List (List Value)) [(IntKind.i64.wrap (c+1))] from⟨⟨rfl,(I0 _)⟩,trivial⟩)),a⟩
    ·obtain⟨be,am,a⟩:=z0 a
     refine aI (K1 am (by first|rw[F2.length (F2.up (r:=Wp.int.toRp) d f),F2.length (show F2 (Wp.int.R o) ([[.int .i64 (IntKind.i64.wrap ((IntKind.i64.wrap (0-c))-1))]]:List (List Value)) [(IntKind.i64.wrap ((IntKind.i64.wrap (0-c))-1))] from⟨⟨rfl,(I0 _)⟩,trivial⟩)]|exact congrArg (·+1) (F2.length (F2.up (r:=Wp.int.toRp) d f)))) ?_
     exact N1 j ⟨s,(IntKind.i64.wrap (g+1)),(k++([[.int .i64 (IntKind.i64.wrap ((IntKind.i64.wrap (0-c))-1))]]:List (List Value))),(e ++ [(IntKind.i64.wrap ((IntKind.i64.wrap (0-c))-1))]),rfl,rfl,(i.trans d),n,(I0 _),(F2.append (F2.up (r:=Wp.int.toRp) d f) (show F2 (Wp.int.R o) ([[.int .i64 (IntKind.i64.wrap ((IntKind.i64.wrap (0-c))-1))]]:List (List Value)) [(IntKind.i64.wrap ((IntKind.i64.wrap (0-c))-1))] from⟨⟨rfl,(I0 _)⟩,trivial⟩)),a⟩
   ·exact N1 j ⟨s,(IntKind.i64.wrap (g+1)),k,e,rfl,rfl,(i.trans d),n,(I0 _),(F2.up (r:=Wp.int.toRp) d f),a⟩
  ·obtain rfl:=oJ a
   try dsimp only[S0,U0]at b
   intro bl ax ah
   obtain⟨ab,af,rfl,aD,aF,aZ⟩:=E1.out (r:=Wp.int.toRp) ah f
   refine Or.inl ?_
   intro bm ay ai
   obtain⟨aL,aP,rfl,aE,aG,a0⟩:=E1.out (r:=T0.toRp) ai (show F2 (T0.R ax) ([[.slice ab e.length af]]:List (List Value)) [e] from⟨aD,trivial⟩)
   refine trM b (Q06 _ _ _ _ _ aE) ?_
   rintro aH b bn az ⟨aa,a4,ae,rfl,G⟩
   have bg:Sub ay az:=G.sub
   have aC:=G.r
   obtain⟨rfl,aX⟩:=Sl.len aC
   obtain rfl:=oJ b
   exact⟨aa,aH.length,ae,rfl,(New.from G ((((F.trans q).trans i).trans aF).trans aG))⟩
theorem b07(h:Hp)(af:List Value)(an:j0)(bh:Y0.R h af an)(r:j0×Bool)(d:g7 an=some r):
  Tr Tryz.prog 287 #[.agg af.toArray] h λv e=>∃(ae:List Value),v = .tuple #[.agg ae.toArray,.bool r.2]/\New Y0 h e ae r.1:=by
 obtain⟨F,G,au,bV,az,H,rfl,rfl,D,E,z⟩:=C0 bh
 obtain⟨rfl,bP⟩:=Sl.len z
 unfold g7 at d
 dsimp only at d
 refine C2 (args:=[.agg #[.int .i64 F,.int .i64 G,.slice au H.length az]]) (fn:=Tryz.f287) rfl ?_
 refine trV d (w9 _ _ _ (l0 D E z)) λch d=>?_
 refine ifB d (λa0 d=>?_) λa0 d=>?_
 ·obtain rfl:=oJ d
  exact⟨([.int .i64 0,.int .i64 0,.slice none 0 0]),rfl,(New.pair (New.int (by decide)) (New.pair (New.int (by decide)) ((New.nilSlice (r:=Z0)).mono (Sub.refl _))))⟩
 ·refine trM d (o7 _ _ _ (l0 D E z)) ?_
  rintro bv d cf be ⟨aR,bW,aA,rfl,U⟩
  have bq:Sub h be:=U.sub
  have ap:=U.r
  obtain⟨bz,bA,ar⟩:=bv
  dsimp only at d U ap
  obtain⟨_,_,_,_,_,_,aD,aG,bb,bc,bj⟩:=C0 ap
  cases aD
  cases aG
  obtain⟨rfl,bS⟩:=Sl.len bj
  try dsimp only at d
  have bs:=New.sndI (New.sndI (U))
  obtain⟨ad,aX,d⟩:=z0 d
  refine eX { vars:=[5],boxes:=[2],owns:=[],fuel:=true } (eX (λvs os e=>∃ u8 y u L S W J A,vs.tail = [.int .i64 u8,.int .i64 y,.int .i64 u,.slice (some ⟨L,S,none⟩) W J]/\os = []/\Sub h e/\J0 u8/\J0 y/\J0 u/\New K0 h e [.slice (some ⟨L,S,none⟩) W J] A/\E4 F G H (I1 vs) u8 y u A=some ad) (eX (λ_ _=>0) (aI (eX P0 ⟨1,bz,bA,aR,0,ar.length,aA,ar,rfl,rfl,bq,(by decide),bb,bc,bs,aX⟩) ?_)))
  rintro _ _ _ _ P N ⟨u8,y,u,L,S,W,J,A,⟨⟩,⟨⟩,I,V,aj,ag,aq,c⟩
  replace c:E4 F G H P u8 y u A=some ad:=c
  obtain _|P:=P
  ·cases c
  rw[E4.eq_2]at c
  have ao:=aq.r
  obtain⟨rfl,bQ⟩:=Sl.len ao
  refine ifB c (λaZ c=>?_) λaZ c=>?_
  ·obtain⟨ab,aV,c⟩:=z0 c
   refine eX { vars:=[8],boxes:=[],owns:=[0,1],fuel:=true } (eX (λvs os e=>∃ b i f o g,vs.tail = [.int .i64 b]/\os = [i,o]/\Sub N e/\J0 b/\F2 (Wp.int.R e) i f/\F2 (Wp.int.R e) o g/\G2 G F H u8 (I1 vs) b f g=some ab) (eX (λ_ _=>0) (aI (eX P0 ⟨0,[],([]:F0),[],([]:F0),rfl,rfl,(Sub.refl _),(by decide),(show F2 (Wp.int.R N) ([]:List (List Value)) ([]:F0) from trivial),(show F2 (Wp.int.R N) ([]:List (List Value)) ([]:F0) from trivial),aV⟩) ?_)))
   rintro _ i o t s ⟨b,ci,f,cj,g,⟨⟩,⟨⟩,l,j,m,k,a⟩
   replace a:G2 G F H u8 t b f g=some ab:=a
   obtain _|t:=t
   ·cases a
   rw[G2.eq_2]at a
   refine ifB a (λa1 a=>?_) λa1 a=>?_
   ·refine trV a (E6 _ _ _ (l0 D E (K0.mono (I.trans l) z)) _ j _ V) λbt a=>?_
    obtain⟨bZ,aK,a⟩:=z0 a
    have bG:J0 bt:=Q0 aK
    refine ifB a (λa2 a=>?_) λa2 a=>?_
    ·obtain⟨b0,aL,a⟩:=z0 a
     refine aI (K1 aL (by first|rw[F2.length m,F2.length (show F2 (Wp.int.R s) ([[.int .i64 b]]:List (List Value)) [b] from⟨⟨rfl,j⟩,trivial⟩)]|exact congrArg (·+1) (F2.length m))) ?_
     refine trV a (E6 _ _ _ (l0 D E (K0.mono (I.trans l) z)) _ j (IntKind.i64.wrap (0-u8)) (I0 _)) λbu a=>?_
     obtain⟨b1,aM,a⟩:=z0 a
     have bH:J0 bu:=Q0 aM
     refine ifB a (λa3 a=>?_) λa3 a=>?_
     ·obtain⟨b2,aN,a⟩:=z0 a
      refine aI (K1 aN (by first|rw[F2.length k,F2.length (show F2 (Wp.int.R s) ([[.int .i64 b]]:List (List Value)) [b] from⟨⟨rfl,j⟩,trivial⟩)]|exact congrArg (·+1) (F2.length k))) ?_
      exact N1 t ⟨(IntKind.i64.wrap (b+1)),(i++([[.int .i64 b]]:List (List Value))),(f ++ [b]),(o++([[.int .i64 b]]:List (List Value))),(g ++ [b]),rfl,rfl,l,(I0 _),(F2.append m (show F2 (Wp.int.R s) ([[.int .i64 b]]:List (List Value)) [b] from⟨⟨rfl,j⟩,trivial⟩)),(F2.append k (show F2 (Wp.int.R s) ([[.int .i64 b]]:List (List Value)) [b] from⟨⟨rfl,j⟩,trivial⟩)),a⟩
     ·exact N1 t ⟨(IntKind.i64.wrap (b+1)),(i++([[.int .i64 b]]:List (List Value))),(f ++ [b]),o,g,rfl,rfl,l,(I0 _),(F2.append m (show F2 (Wp.int.R s) ([[.int .i64 b]]:List (List Value)) [b] from⟨⟨rfl,j⟩,trivial⟩)),k,a⟩
    ·refine trV a (E6 _ _ _ (l0 D E (K0.mono (I.trans l) z)) _ j (IntKind.i64.wrap (0-u8)) (I0 _)) λbx a=>?_
     obtain⟨b3,aO,a⟩:=z0 a
     have bI:J0 bx:=Q0 aO
     refine ifB a (λa4 a=>?_) λa4 a=>?_
     ·obtain⟨b4,aP,a⟩:=z0 a
      refine aI (K1 aP (by first|rw[F2.length k,F2.length (show F2 (Wp.int.R s) ([[.int .i64 b]]:List (List Value)) [b] from⟨⟨rfl,j⟩,trivial⟩)]|exact congrArg (·+1) (F2.length k))) ?_
      exact N1 t ⟨(IntKind.i64.wrap (b+1)),i,f,(o++([[.int .i64 b]]:List (List Value))),(g ++ [b]),rfl,rfl,l,(I0 _),m,(F2.append k (show F2 (Wp.int.R s) ([[.int .i64 b]]:List (List Value)) [b] from⟨⟨rfl,j⟩,trivial⟩)),a⟩
     ·exact N1 t ⟨(IntKind.i64.wrap (b+1)),i,f,o,g,rfl,rfl,l,(I0 _),m,k,a⟩
   ·obtain rfl:=oJ a
    try dsimp only[S0,U0]at c
    obtain⟨bf,aJ,c⟩:=z0 c
    obtain rfl:i.length=bf:=(F2.length m).trans (oJ aJ)
    obtain⟨b5,bE,c⟩:=z0 c
    obtain⟨ac,aW,c⟩:=z0 c
    refine eX { vars:=[59],boxes:=[2],owns:=[],fuel:=true } (eX (λvs os e=>∃ C w x M T X K n,vs.tail = [.int .i64 C,.int .i64 w,.int .i64 x,.slice (some ⟨M,T,none⟩) X K]/\os = []/\Sub h e/\J0 C/\J0 w/\J0 x/\New K0 h e [.slice (some ⟨M,T,none⟩) X K] n/\D4 (i).length f g u8 (I1 vs) C w x n=some ac) (eX (λ_ _=>0) (aI (eX P0 ⟨0,y,u,L,S,A.length,J,A,rfl,rfl,(I.trans l),(by decide),aj,ag,(New.mono aq l),aW⟩) ?_)))
    rintro _ _ _ _ Q O ⟨C,w,x,M,T,X,K,n,⟨⟩,⟨⟩,bp,bF,ah,ai,Y,a⟩
    replace a:D4 (i).length f g u8 Q C w x n=some ac:=a
    obtain _|Q:=Q
    ·cases a
    rw[D4.eq_2]at a
    have bi:=Y.r
    obtain⟨rfl,bR⟩:=Sl.len bi
    refine ifB a (λba a=>?_) λba a=>?_
    ·refine Or.inr (Or.inr (Or.inl (aI (aI (by kernel_rfl) (by kernel_rfl)) ?_)))
     obtain⟨p,aS,a⟩:=z0 a
     obtain⟨ax,bC,aE,bk⟩:=E3 (show F2 (Wp.int.R O) i f from m) aS
     obtain⟨rfl,ak⟩:=bk
     refine Or.inl ?_
     apply eX
     refine aI ?_ ?_
     ·intro bJ b7
      exact aI ax (aI rfl (aI rfl rfl))
     refine Or.inl (eX (.val (.int .i64 p)) (aI ?_ ?_))
     ·intro bK b8
      exact eX _ (aI aE (aI rfl (aI rfl rfl)))
     obtain⟨q,aT,a⟩:=z0 a
     obtain⟨ay,bD,aF,bl⟩:=E3 (show F2 (Wp.int.R O) o g from k) aT
     obtain⟨rfl,al⟩:=bl
     refine Or.inl ?_
     apply eX
     refine aI ?_ ?_
     ·intro bL ca
      exact aI ay (aI rfl (aI rfl rfl))
     refine Or.inl (eX (.val (.int .i64 q)) (aI ?_ ?_))
     ·intro bM cb
      exact eX _ (aI aF (aI rfl (aI rfl rfl)))
     refine Or.inl (eX (.agg [.val (.int .i64 p),.val (.int .i64 u8),.val (.int .i64 q)]) (aI ?_ ?_))
     ·intro bN cc
      exact aI rfl (aI rfl rfl)
     refine Or.inr ?_
     refine Or.inr ?_
     refine Or.inr ?_
     refine Or.inl (eX 0 (aI (aI rfl rfl) ?_))
     refine aI trivial (aI (by first|exact trivial|exact rfl) ?_)
     obtain⟨b6,aQ,a⟩:=z0 a
     obtain⟨br,bn,am,av⟩:=New.app Y (Sub.refl _)
     refine eX br (aI bn (aI (K1 aQ (by first|rw[am,F2.length (show F2 (Z0.R O) ([[.int .i64 p,.int .i64 u8,.int .i64 q]]:List (List Value)) [(p,u8,q)] from⟨(C1 ak V al),trivial⟩)]|(rw[am];rfl))) ?_))
     intro cg bO aY
     obtain⟨aa,aU,bg,bY,aC,rfl⟩:=av _ _ _ _ _ (F3.ofPlain (N05 _) (show F2 (Z0.R O) ([[.int .i64 p,.int .i64 u8,.int .i64 q]]:List (List Value)) [(p,u8,q)] from⟨(C1 ak V al),trivial⟩)) r6.ofPlain aY
     have bo:=aa.r
     obtain⟨aH,bU⟩:=Sl.len bo
     subst aH
     refine aI trivial (aI (by first|exact trivial|exact rfl) ?_)
     refine aI trivial (aI (by first|exact trivial|exact rfl) ?_)
     exact N1 Q ⟨(IntKind.i64.wrap (C+1)),w,x,aU,bg,(n ++ [(p,u8,q)]).length,aC,(n ++ [(p,u8,q)]),rfl,rfl,aa.sub,(I0 _),ah,ai,aa,a⟩
    ·obtain rfl:=oJ a
     try dsimp only[S0,U0]at c
     exact N1 P ⟨(IntKind.i64.wrap (u8+1)),w,x,M,T,n.length,K,n,rfl,rfl,bp,(I0 _),ah,ai,Y,c⟩
  ·obtain rfl:=oJ c
   try dsimp only[S0,U0]at d
   refine trM d (G01 _ _ _ _ _ ao) ?_
   rintro bB d ce bd ⟨aw,bX,aB,rfl,Z⟩
   have cd:Sub N bd:=Z.sub
   have bm:=Z.r
   obtain⟨rfl,bT⟩:=Sl.len bm
   obtain rfl:=oJ d
   exact⟨([.int .i64 y,.int .i64 u,.slice aw bB.length aB]),rfl,(New.pair (New.int aj) (New.pair (New.int ag) (New.from Z I)))⟩
theorem c07(h:Hp)(O:List Value)(U:j0)(az:Y0.R h O U)(y:Option Addr)(T A:Nat)(d:N01)(F:T03.R h [.slice y T A] d)(r:j0×Bool)(b:i7 U d=some r):
  Tr Tryz.prog 205 #[.agg O.toArray,.slice y T A] h λv e=>∃(N:List Value),v = .tuple #[.agg N.toArray,.bool r.2]/\New Y0 h e N r.1:=by
 obtain⟨p,s,L,bf,M,i,rfl,rfl,m,D,t⟩:=C0 az
 obtain⟨rfl,a2⟩:=Sl.len t
 obtain⟨rfl,a3⟩:=Sl.len F
 unfold i7 at b
 dsimp only at b
 refine C2 (args:=[.agg #[.int .i64 p,.int .i64 s,.slice L i.length M],.slice y d.length A]) (fn:=Tryz.f205) rfl ?_
 refine trV b (H01 _ _ _ (l0 m D t)) λbr b=>?_
 refine ifB b (λak b=>?_) λak b=>?_
 ·obtain rfl:=oJ b
  exact⟨([.int .i64 0,.int .i64 0,.slice none 0 0]),rfl,(New.pair (New.int (by decide)) (New.pair (New.int (by decide)) ((New.nilSlice (r:=Z0)).mono (Sub.refl _))))⟩
 ·obtain⟨K,ah,b⟩:=z0 b
  refine eX { vars:=[26],boxes:=[],owns:=[],fuel:=true } (eX (λvs os e=>∃ g,vs.tail = [.int .i64 g]/\os = []/\Sub h e/\J0 g/\F4 d p s i (I1 vs) g=some K) (eX (λ_ _=>0) (aI (eX P0 ⟨0,rfl,rfl,(Sub.refl _),(by decide),ah⟩) ?_)))
  rintro _ o ay ⟨g,⟨⟩,⟨⟩,c,aZ,a⟩
  replace a:F4 d p s i o g=some K:=a
  obtain _|o:=o
  ·cases a
  rw[F4.eq_2]at a
  refine ifB a (λan a=>?_) λan a=>?_
  ·refine ld a (T03.mono c F) λbE aU u a=>?_
   obtain⟨aP,bk,aX,rfl⟩:=Wp.slice_cell u
   obtain⟨rfl,be⟩:=Sl.len u
   refine trV a (N02 _ _ m _ _ _ _ u) λbF a=>?_
   refine trG a (λq=>Z03 _ _ _ (l0 m D (K0.mono c t)) _ _ _ _ u) λbs a=>?_
   refine ifB a (λai a=>?_) λai a=>?_
   ·obtain rfl:=oJ a
    try dsimp only[C3,V3]at b
    obtain rfl:=oJ b
    exact⟨([.int .i64 0,.int .i64 0,.slice none 0 0]),rfl,(New.pair (New.int (by decide)) (New.pair (New.int (by decide)) ((New.nilSlice (r:=Z0)).mono c)))⟩
   ·exact N1 o ⟨(IntKind.i64.wrap (g+1)),rfl,rfl,c,(I0 _),a⟩
  ·obtain rfl:=oJ a
   try dsimp only[S0,U0]at b
   obtain⟨J,ag,b⟩:=z0 b
   refine eX { vars:=[45],boxes:=[2],owns:=[],fuel:=true } (eX (λvs os e=>∃ f k l z E C w,vs.tail = [.int .i64 f,.int .i64 k,.int .i64 l,.slice z E C]/\os = []/\Sub ay e/\J0 f/\J0 k/\J0 l/\K0.R e [.slice z E C] w/\j5 d (I1 vs) f k l w=some J) (eX (λ_ _=>0) (aI (eX P0 ⟨0,p,s,L,i.length,M,i,rfl,rfl,(Sub.refl _),(by decide),m,D,(K0.mono c t),ag⟩) ?_)))
   rintro _ _ _ _ n aw ⟨f,k,l,z,E,C,w,⟨⟩,⟨⟩,j,aY,P,Q,G,a⟩
   replace a:j5 d n f k l w=some J:=a
   obtain _|n:=n
   ·cases a
   rw[j5.eq_2]at a
   obtain⟨rfl,a4⟩:=Sl.len G
   refine ifB a (λaj a=>?_) λaj a=>?_
   ·refine ld a (T03.mono (c.trans j) F) λbt aQ H a=>?_
    obtain⟨aN,bg,aV,rfl⟩:=Wp.slice_cell H
    obtain⟨rfl,ba⟩:=Sl.len H
    refine trM a (k0e _ _ _ (l0 P Q G) _ _ _ _ H) ?_
    rintro aE a bn a1 ⟨aR,rfl,V,Y⟩
    obtain⟨bu,aH,bv⟩:=aE
    dsimp only at a V
    obtain⟨aF,aG,ab,bh,ad,aa,rfl,rfl,ao,ap,W⟩:=C0 V
    obtain⟨rfl,bb⟩:=Sl.len W
    try dsimp only at a
    obtain⟨bl,af,a⟩:=z0 a
    have a0:J0 aH:=Q0 af
    refine ifB a (λal a=>?_) λal a=>?_
    ·obtain rfl:=oJ a
     try dsimp only[C3,V3]at b
     obtain rfl:=oJ b
     exact⟨([.int .i64 0,.int .i64 0,.slice none 0 0]),rfl,(New.pair (New.int (by decide)) (New.pair (New.int (by decide)) ((New.nilSlice (r:=Z0)).mono ((c.trans j).trans Y))))⟩
    ·exact N1 n ⟨(IntKind.i64.wrap (f+1)),aF,aG,ab,aa.length,ad,aa,rfl,rfl,(j.trans Y),(I0 _),ao,ap,W,a⟩
   ·obtain rfl:=oJ a
    try dsimp only[S0,U0]at b
    refine trM b (b07 _ _ _ (l0 P Q G)) ?_
    rintro aJ b bo S ⟨aS,rfl,x⟩
    obtain⟨bx,bC⟩:=aJ
    dsimp only at b x
    have Z:Sub aw S:=x.sub
    have aA:=x.r
    obtain⟨bz,bA,aO,bi,aW,bB,rfl,rfl,aq,ar,X⟩:=C0 aA
    obtain⟨rfl,bc⟩:=Sl.len X
    try dsimp only at b
    have bq:=New.sndI (New.sndI (x))
    refine ifB b (λam b=>?_) λam b=>?_
    ·obtain rfl:=oJ b
     exact⟨([.int .i64 0,.int .i64 0,.slice none 0 0]),rfl,(New.pair (New.int (by decide)) (New.pair (New.int (by decide)) ((New.nilSlice (r:=Z0)).mono ((c.trans j).trans Z))))⟩
    ·refine trM b (S0a _ _ _ (l0 aq ar X)) ?_
     rintro bD b bp ax ⟨aT,rfl,I⟩
     have bm:Sub S ax:=I.sub
     have aB:=I.r
     obtain⟨aK,aL,ac,bj,ae,aM,rfl,rfl,au,av,aC⟩:=C0 aB
     obtain⟨rfl,bd⟩:=Sl.len aC
     try dsimp only at b
     have aD:=New.sndI (New.sndI (I))
     obtain rfl:=oJ b
     exact⟨([.int .i64 aK,.int .i64 aL,.slice ac aM.length ae]),rfl,(New.pair (New.int au) (New.pair (New.int av) (New.from aD ((c.trans j).trans Z))))⟩
theorem I07(h:Hp)(g:List Value)(j:j0)(E:Y0.R h g j)(c:Option Addr)(i d:Nat)(b:F0)(l:T0.R h [.slice c i d] b)(r:j0×Bool)(a:o6 j b=some r):
  Tr Tryz.prog 95 #[.agg g.toArray,.slice c i d] h λv s=>∃(f:List Value),v = .tuple #[.agg f.toArray,.bool r.2]/\New Y0 h s f r.1:=by
 obtain⟨A,C,n,V,p,D,rfl,rfl,t,u,k⟩:=C0 E
 obtain⟨rfl,Q⟩:=Sl.len k
 obtain⟨rfl,S⟩:=Sl.len l
 unfold o6 at a
 dsimp only at a
 refine C2 (args:=[.agg #[.int .i64 A,.int .i64 C,.slice n D.length p],.slice c b.length d]) (fn:=Tryz.f95) rfl ?_
 refine Or.inl ?_
 intro Y y f3
 obtain⟨N,P,rfl,H,m,U⟩:=E1.out (r:=T0.toRp) f3 (show F2 (T0.R h) ([[.slice c b.length d]]:List (List Value)) [b] from⟨l,trivial⟩)
 refine trM a (c07 _ _ _ (l0 t u (K0.mono m k)) _ _ _ _ H) ?_
 rintro J a Z z ⟨O,rfl,e⟩
 obtain⟨aa,ab⟩:=J
 dsimp only at a e
 have X:Sub y z:=e.sub
 have F:=e.r
 obtain⟨K,L,o,W,q,M,rfl,rfl,w,x,G⟩:=C0 F
 obtain⟨rfl,T⟩:=Sl.len G
 try dsimp only at a
 have I:=New.sndI (New.sndI (e))
 obtain rfl:=oJ a
 exact⟨([.int .i64 K,.int .i64 L,.slice o M.length q]),rfl,(New.pair (New.int w) (New.pair (New.int x) (New.from I m)))⟩
theorem d07(h:Hp)(C:List Value)(E:j0)(ae:Y0.R h C E)(m:Option Addr)(D n:Nat)(w:F0)(F:T0.R h [.slice m D n] w)(r:Int)(a:g00 E w=some r):
  Tr Tryz.prog 115 #[.agg C.toArray,.slice m D n] h λv o=>v = .int .i64 r/\o=h:=by
 obtain⟨s,t,J,aB,K,u,rfl,rfl,i,p,k⟩:=C0 ae
 obtain⟨rfl,aw⟩:=Sl.len k
 obtain⟨rfl,ax⟩:=Sl.len F
 unfold g00 at a
 dsimp only at a
 refine Tr.forget (C2 (args:=[.agg #[.int .i64 s,.int .i64 t,.slice J u.length K],.slice m w.length n]) (fn:=Tryz.f115) rfl ?_)
 refine trM a (E9 _ _ _ _ _ F) ?_
 rintro aM a aL ac ⟨ak,aC,an,rfl,G⟩
 have c:Sub h ac:=G.sub
 have x:=G.r
 obtain⟨rfl,ay⟩:=Sl.len x
 refine trV a (H01 _ _ _ (l0 i p (K0.mono c k))) λaN a=>?_
 refine trG a (λq=>N02 _ _ i _ _ _ _ x) λaO a=>?_
 refine ifB a (λX a=>?_) λX a=>?_
 ·obtain rfl:=oJ a
  exact aI rfl c
 ·refine ifB a (λY a=>?_) λY a=>?_
  ·obtain rfl:=oJ a
   exact aI rfl c
  ·refine trM a (L09 _ _ _ _ _ x) ?_
   rintro aj a aK ad ⟨al,aD,ao,am,aE,ap,rfl,y,z,e⟩
   obtain⟨I,aP⟩:=aj
   dsimp only at a y z
   obtain⟨rfl,az⟩:=Sl.len y
   obtain⟨rfl,aA⟩:=Sl.len z
   obtain⟨af,P,a⟩:=z0 a
   obtain⟨l,ag⟩:=af
   try dsimp only at a
   refine Tr.val (K00 _ _ _ (l0 i p (K0.mono (c.trans e) k)) 0 (by decide) _ _ _ _ z _  P) ?_
   obtain⟨aF,L,a⟩:=z0 a
   have aa:J0 l:=Q0 L
   obtain⟨aG,M,a⟩:=z0 a
   have ar:J0 ag:=Q0 M
   refine ifB a (λT a=>?_) λT a=>?_
   ·obtain rfl:=oJ a
    exact aI rfl (c.trans e)
   ·obtain⟨A,S,a⟩:=z0 a
    refine eX { vars:=[10,11],boxes:=[],owns:=[],fuel:=true } (eX (λvs os o=>∃ g f,vs.tail = [.int .i64 g,.int .i64 f]/\os = []/\Sub ad o/\J0 g/\J0 f/\l7 t s u I l (I1 vs) g f=some A) (eX (λ_ _=>0) (aI (eX P0 ⟨l,1,rfl,rfl,(Sub.refl _),aa,(by decide),S⟩) ?_)))
    rintro _ _ j av ⟨g,f,⟨⟩,⟨⟩,d,Z,aq,b⟩
    replace b:l7 t s u I l j g f=some A:=b
    obtain _|j:=j
    ·cases b
    rw[l7.eq_2]at b
    refine ifB b (λU b=>?_) λU b=>?_
    ·obtain⟨ah,Q,b⟩:=z0 b
     obtain⟨H,ai⟩:=ah
     try dsimp only at b
     refine Tr.val (K00 _ _ _ (l0 i p (K0.mono ((c.trans e).trans d) k)) _ Z _ _ _ _ (T0.mono d y) _  Q) ?_
     obtain⟨aH,N,b⟩:=z0 b
     have ab:J0 H:=Q0 N
     obtain⟨aJ,O,b⟩:=z0 b
     have au:J0 ai:=Q0 O
     refine ifB b (λV b=>?_) λV b=>?_
     ·obtain rfl:=oJ b
      try dsimp only[C3,V3]at a
      obtain rfl:=oJ a
      exact aI rfl ((c.trans e).trans d)
     ·refine ifB b (λW b=>?_) λW b=>?_
      ·obtain rfl:=oJ b
       try dsimp only[C3,V3]at a
       obtain rfl:=oJ a
       exact aI rfl ((c.trans e).trans d)
      ·exact N1 j ⟨H,(IntKind.i64.wrap (f+1)),rfl,rfl,d,ab,(I0 _),b⟩
    ·obtain rfl:=oJ b
     try dsimp only[S0,U0]at a
     obtain rfl:=oJ a
     exact aI rfl ((c.trans e).trans d)
theorem M09(h:Hp)(x:List Value)(z:j0)(au:Y0.R h x z)(j:Option Addr)(y k:Nat)(m:F0)(f:T0.R h [.slice j y k] m)(r:ByteArray)(a:C8 z m=some r):
  Tr Tryz.prog 44 #[.agg x.toArray,.slice j y k] h λv Z=>v = .string r/\Z=h:=by
 obtain⟨ap,aq,D,bg,E,ar,rfl,rfl,d,g,e⟩:=C0 au
 obtain⟨rfl,a3⟩:=Sl.len e
 obtain⟨rfl,a4⟩:=Sl.len f
 unfold C8 at a
 dsimp only at a
 refine Tr.forget (C2 (args:=[.agg #[.int .i64 ap,.int .i64 aq,.slice D ar.length E],.slice j m.length k]) (fn:=Tryz.f44) rfl ?_)
 refine trV a (H01 _ _ _ (l0 d g e)) λbG a=>?_
 refine trG a (λq=>N02 _ _ d _ _ _ _ f) λbM a=>?_
 refine ifB a (λab a=>?_) λab a=>?_
 ·obtain rfl:=oJ a
  exact aI rfl (Sub.refl _)
 ·refine trM a (U0a _ _ _ (l0 d g e) _ _ _ _ f) ?_
  rintro aF a bF l ⟨aK,bi,aR,rfl,o⟩
  obtain⟨bN,bO⟩:=aF
  dsimp only at a o
  have b:Sub h l:=o.sub
  have C:=o.r
  obtain⟨rfl,bb⟩:=Sl.len C
  refine ifB a (λae a=>?_) λae a=>?_
  ·refine trV a (T06 _ _ _ _ _ C) λw a=>?_
   obtain⟨bt,U,a⟩:=z0 a
   have ao:w.size<=9223372036854775807:=Q0 U
   refine Or.inr ?_
   intro bA aZ F
   obtain⟨aL,aS,rfl,aw,bu,bc⟩:=E1.out (r:=Wp.str.toRp) F (show F2 (Wp.str.R l) ([[.string (⟨#[105,110,32,97,115]⟩:ByteArray)],[.string w]]:List (List Value)) [(⟨#[105,110,32,97,115]⟩:ByteArray),w] from⟨⟨rfl,(by decide)⟩,⟨⟨rfl,ao⟩,trivial⟩⟩)
   obtain⟨aA,V,a⟩:=z0 a
   refine Tr.val (u04 _ _ _ _ _ aw _  V) (aI rfl ?_)
   obtain⟨bj,J,a⟩:=z0 a
   have aW:aA.size<=9223372036854775807:=Q0 J
   obtain rfl:=oJ a
   exact aI rfl b
  ·refine trM a (I07 _ _ _ (l0 d g (K0.mono b e)) _ _ _ _ (T0.mono b f)) ?_
   rintro aB a bB i ⟨aP,rfl,n⟩
   obtain⟨bH,bL⟩:=aB
   dsimp only at a n
   have c:Sub l i:=n.sub
   have av:=n.r
   obtain⟨bI,bJ,aJ,bh,aQ,bK,rfl,rfl,af,ag,A⟩:=C0 av
   obtain⟨rfl,ba⟩:=Sl.len A
   try dsimp only at a
   refine ifB a (λaa a=>?_) λaa a=>?_
   ·refine trV a (R0d _ _ _ (l0 af ag A)) λaC a=>?_
    obtain⟨bk,K,a⟩:=z0 a
    have ah:J0 aC:=Q0 K
    refine trV a (q01 _ _ ah) λp a=>?_
    obtain⟨bl,L,a⟩:=z0 a
    have ai:p.size<=9223372036854775807:=Q0 L
    refine Or.inr ?_
    intro bC a0 G
    obtain⟨aM,aT,rfl,ax,bv,bd⟩:=E1.out (r:=Wp.str.toRp) G (show F2 (Wp.str.R i) ([[.string (⟨#[111,117,116]⟩:ByteArray)],[.string (⟨#[98,121,32,105,110,100,101,120]⟩:ByteArray)],[.string p]]:List (List Value)) [(⟨#[111,117,116]⟩:ByteArray),(⟨#[98,121,32,105,110,100,101,120]⟩:ByteArray),p] from⟨⟨rfl,(by decide)⟩,⟨⟨rfl,(by decide)⟩,⟨⟨rfl,ai⟩,trivial⟩⟩⟩)
    obtain⟨s,W,a⟩:=z0 a
    refine Tr.val (u04 _ _ _ _ _ ax _  W) (aI rfl ?_)
    obtain⟨bm,M,a⟩:=z0 a
    have aj:s.size<=9223372036854775807:=Q0 M
    refine trV a (d07 _ _ _ (l0 d g (K0.mono (b.trans c) e)) _ _ _ _ (T0.mono (b.trans c) f)) λaD a=>?_
    obtain⟨bn,N,a⟩:=z0 a
    have ak:J0 aD:=Q0 N
    refine ifB a (λac a=>?_) λac a=>?_
    ·refine trV a (q01 _ _ ak) λt a=>?_
     obtain⟨bo,O,a⟩:=z0 a
     have al:t.size<=9223372036854775807:=Q0 O
     refine Or.inr ?_
     intro bD a1 H
     obtain⟨aN,aU,rfl,ay,bx,be⟩:=E1.out (r:=Wp.str.toRp) H (show F2 (Wp.str.R i) ([[.string s],[.string (⟨#[112,111,119,101,114]⟩:ByteArray)],[.string t]]:List (List Value)) [s,(⟨#[112,111,119,101,114]⟩:ByteArray),t] from⟨⟨rfl,aj⟩,⟨⟨rfl,(by decide)⟩,⟨⟨rfl,al⟩,trivial⟩⟩⟩)
     obtain⟨aE,X,a⟩:=z0 a
     refine Tr.val (u04 _ _ _ _ _ ay _  X) (aI rfl ?_)
     obtain⟨bp,P,a⟩:=z0 a
     have aX:aE.size<=9223372036854775807:=Q0 P
     obtain rfl:=oJ a
     exact aI rfl (b.trans c)
    ·obtain rfl:=oJ a
     exact aI rfl (b.trans c)
   ·refine trV a (d07 _ _ _ (l0 d g (K0.mono (b.trans c) e)) _ _ _ _ (T0.mono (b.trans c) f)) λaG a=>?_
    obtain⟨bq,Q,a⟩:=z0 a
    have am:J0 aG:=Q0 Q
    refine ifB a (λad a=>?_) λad a=>?_
    ·refine trV a (q01 _ _ am) λu a=>?_
     obtain⟨br,S,a⟩:=z0 a
     have an:u.size<=9223372036854775807:=Q0 S
     refine Or.inr ?_
     intro bE a2 I
     obtain⟨aO,aV,rfl,az,bz,bf⟩:=E1.out (r:=Wp.str.toRp) I (show F2 (Wp.str.R i) ([[.string (⟨#[111,117,116]⟩:ByteArray)],[.string (⟨#[112,111,119,101,114]⟩:ByteArray)],[.string u]]:List (List Value)) [(⟨#[111,117,116]⟩:ByteArray),(⟨#[112,111,119,101,114]⟩:ByteArray),u] from⟨⟨rfl,(by decide)⟩,⟨⟨rfl,(by decide)⟩,⟨⟨rfl,an⟩,trivial⟩⟩⟩)
     obtain⟨aH,Y,a⟩:=z0 a
     refine Tr.val (u04 _ _ _ _ _ az _  Y) (aI rfl ?_)
     obtain⟨bs,T,a⟩:=z0 a
     have aY:aH.size<=9223372036854775807:=Q0 T
     obtain rfl:=oJ a
     exact aI rfl (b.trans c)
    ·obtain rfl:=oJ a
     exact aI rfl (b.trans c)
end Go.Proofs.YtkjhghloldgioaaGreat
